/- A part of the proof of a statement of this seat: see the text that holds the theorem. No condition. -/
import Derived.Test.YtcdpjjhnhiaapaaNm
set_option linter.unusedVariables false
set_option linter.unusedSimpArgs false
set_option linter.all false
/- Printed by wip/tool: what the functions' bodies do, in the words of 'den'. -/
set_option maxRecDepth 100000
set_option linter.unusedVariables false
namespace Go.Sim
open Go Go.RowKit
/-! Function loop.example/instancesearch/impl.GrowingOf$1 -/
namespace F_impl_GrowingOf_lit1
noncomputable abbrev fn : Func := Go.Proofs.Try.f72
def kp : Keeps := []
noncomputable def C (p : List Nat) : Code := (cod fn).sub p
def KR (Q : QT) : KT := retA pg fn.results.toList Q
theorem call (x0x0 x0x1 : List Nat) (v1 : AVal) (h : AHeap) (Q : QT) (ht :
 letH (h ++ [.cells t_impl_Need [.str x0x0, .str x0x1] false]) fun h_0 => xStr (hCell h_0 (.ptr (some (List.length h, 0 + 1)))) fun s_1 => fieldAddrA pg t_impl_Instance v1 0 fun v_2 => fieldAddrA pg t_impl_Need v_2 1 fun v_3 => xStr (hCell h_0 (v_3)) fun s_4 => SCall pg n_impl_smaller [.str s_1, .str s_4] h_0 fun v_5 h_6 =>
 xBool (some v_5) fun b_7 => Q (.bool (!b_7)) h_6) : SCall pg n_impl_GrowingOf_lit1 [.agg [.str x0x0, .str x0x1], v1] h Q :=
  SCall.of_body kp (c := cod fn) (fn := fn) Go.Proofs.Try.func72 (by kernel_rfl) (by kernel_rfl) (Nat.le_of_ble_eq_true (by kernel_rfl))
    (@cast _ (den pg fn.ntmps kp (cod fn) (Env.args 0 [.agg [.str x0x0, .str x0x1], v1]) h (KR Q)) (by kernel_rfl) ht)
end F_impl_GrowingOf_lit1
/-! Function slices.IndexFunc[[]loop.example/instancesearch/impl.Need,loop.example/instancesearch/impl.Need] -/
namespace F_slices_IndexFunc_L_impl_Need_impl_Need__impl_GrowingOf_lit1
noncomputable abbrev fn : Func := Go.Proofs.Try.f103
def kp : Keeps := [(3000002, [4]), (1000002, [0, 1, 7, 8])]
noncomputable def C (p : List Nat) : Code := (cod fn).sub p
def KR (Q : QT) : KT := retA pg fn.results.toList Q
abbrev T2 := Pt → Nat → Nat → Bool → AVal → Int → Int → AHeap → Prop
def E2 (R2 : T2) (env : Env) (h : AHeap) : Prop := eVal 0 env fun v env => xSl (some v) fun a0 n0 c0 e0 => eVal 1 env fun v env => eFn n_impl_GrowingOf_lit1 v fun cs => xCons cs fun c cs' => xAny (some c) fun v1x0 => xNil cs' (eVal 7 env fun v env => eInt .i64 v fun x7 => eVal 8 env fun v env => eInt .i64 v fun x8 => eNil env (R2 a0 n0 c0 e0 v1x0 x7 x8 h))
theorem E2elim {R2 : T2} {env : Env} {h : AHeap} (hi : E2 R2 env h) : ∃ a0, ∃ n0, ∃ c0, ∃ e0, ∃ v1x0, ∃ x7, ∃ x8, env = [(0, .slice a0 n0 c0 e0), (1, .fn n_impl_GrowingOf_lit1 [v1x0]), (7, .int .i64 x7), (8, .int .i64 x8)] ∧ R2 a0 n0 c0 e0 v1x0 x7 x8 h := by
  unfold E2 at hi
  have hi0 := hi
  clear hi
  obtain ⟨v, env, rfl, hi1⟩ := eVal_elim hi0
  obtain ⟨a0, n0, c0, e0, rfl, hi2⟩ := xSl_elim hi1
  obtain ⟨v, env, rfl, hi3⟩ := eVal_elim hi2
  obtain ⟨cs, rfl, hi4⟩ := eFn_elim hi3
  obtain ⟨c, cs', rfl, hi5⟩ := xCons_elim hi4
  obtain ⟨v1x0, hx, hi6⟩ := xAny_elim hi5
  replace hx := (Option.some.inj hx).symm
  subst hx
  obtain ⟨rfl, hi7⟩ := xNil_elim hi6
  obtain ⟨v, env, rfl, hi8⟩ := eVal_elim hi7
  obtain ⟨x7, rfl, hi9⟩ := eInt_elim hi8
  obtain ⟨v, env, rfl, hi10⟩ := eVal_elim hi9
  obtain ⟨x8, rfl, hi11⟩ := eInt_elim hi10
  obtain ⟨rfl, hi12⟩ := eNil_elim hi11
  have hi := hi12
  exact ⟨a0, n0, c0, e0, v1x0, x7, x8, rfl, hi⟩
def K0 (Q : QT) : KT := andThen (fun env' h' => (match kp.find 4000007 with | some ks => Den pg fn.ntmps (C [1, 1]) (env'.keep ks) h' (KR Q) | none => den pg fn.ntmps kp (C [1, 1]) env' h' (KR Q))) (KR Q)
def K1 (Q : QT) : KT := onExit 0 (K0 Q)
def K2 (Q : QT) : KT := left kp 2 (K1 Q)
def K3 (Q : QT) (R2 : T2) : KT := rnd ((kp.find 1000002).getD []) (E2 R2) (K2 Q)
def L2 (Q : QT) (a0 : Pt) (n0 c0 : Nat) (e0 : Bool) (v1x0 : AVal) (x7 x8 : Int) (h : AHeap) : Prop := Loop (Den pg fn.ntmps (C [1, 0, 1, 0, 0])) ((kp.find 1000002).getD []) (K2 Q) [(0, .slice a0 n0 c0 e0), (1, .fn n_impl_GrowingOf_lit1 [v1x0]), (7, .int .i64 x7), (8, .int .i64 x8)] h
def A2x0 (Q : QT) (h : AHeap) : Prop := At (K1 Q) (.exit 0) [(4, .undef)] h
def L2t (Q : QT) (R2 : T2) (a0 : Pt) (n0 c0 : Nat) (e0 : Bool) (v1x0 : AVal) (x7 x8 : Int) (h : AHeap) : Prop :=
 bcase (decide ((x8 : Int) < x7)) ((0 ≤ (x8 : Int) ∧ (x8 : Int) < (n0 : Nat)) ∧ (xSome a0 fun i_0 o_1 => xRow (hRow h (.ptr (some (i_0, o_1 + (Int.toNat x8) * 2))) 2) fun cs_2 => xCons cs_2 fun c_3 r_4 => xStr (some c_3) fun s_5 => xCons r_4 fun c_6 r_7 => xStr (some c_6) fun s_8 => xNil r_7 (SCall pg n_impl_GrowingOf_lit1 [.agg [.str s_5, .str s_8], v1x0] h fun v_9 h_10 =>
 xBool (some v_9) fun b_11 => bcase b_11 (Q (.int .i64 x8) h_10) (R2 a0 n0 c0 e0 v1x0 x7 (IntKind.wrap .i64 (x8 + 1)) h_10)))) (A2x0 Q h)
theorem L2den (Q : QT) (R2 : T2) (a0 : Pt) (n0 c0 : Nat) (e0 : Bool) (v1x0 : AVal) (x7 x8 : Int) (h : AHeap) (ht : L2t Q R2 a0 n0 c0 e0 v1x0 x7 x8 h) : Den pg fn.ntmps (C [1, 0, 1, 0, 0]) [(0, .slice a0 n0 c0 e0), (1, .fn n_impl_GrowingOf_lit1 [v1x0]), (7, .int .i64 x7), (8, .int .i64 x8)] h (K3 Q R2) :=
  den_Den (kp := kp) (@cast _ (den pg fn.ntmps kp (C [1, 0, 1, 0, 0]) [(0, .slice a0 n0 c0 e0), (1, .fn n_impl_GrowingOf_lit1 [v1x0]), (7, .int .i64 x7), (8, .int .i64 x8)] h (K3 Q R2)) (by kernel_rfl) ht)
theorem L2ind (Q : QT) (a0 : Pt) (n0 c0 : Nat) (e0 : Bool) (v1x0 : AVal) (x7 : Int) {G : Type} (J : G → Int → AHeap → Prop) (m : G → Nat)
 (hr : ∀ (g : G) (x8 : Int) (h : AHeap), J g x8 h → ∀ (R2 : T2), (∀ g' (x8 : Int) (h : AHeap), m g' < m g → J g' x8 h → R2 a0 n0 c0 e0 v1x0 x7 x8 h) → L2t Q R2 a0 n0 c0 e0 v1x0 x7 x8 h)
 (g : G) (x8 : Int) (h : AHeap) (hj : J g x8 h) : L2 Q a0 n0 c0 e0 v1x0 x7 x8 h := by
  refine Loop.inv2 (fun g => E2 fun a0' n0' c0' e0' v1x0' x7' x8 h => a0 = a0' ∧ n0 = n0' ∧ c0 = c0' ∧ e0 = e0' ∧ v1x0 = v1x0' ∧ x7 = x7' ∧ J g x8 h) (fun g => E2 fun a0' n0' c0' e0' v1x0' x7' x8 h => a0 = a0' ∧ n0 = n0' ∧ c0 = c0' ∧ e0 = e0' ∧ v1x0 = v1x0' ∧ x7 = x7' ∧ ∃ g', m g' < m g ∧ J g' x8 h) m ?_ ?_ g ⟨rfl, rfl, rfl, rfl, rfl, rfl, hj⟩
  · intro g env h hi
    obtain ⟨a0', n0', c0', e0', v1x0', x7', x8, rfl, rfl, rfl, rfl, rfl, rfl, rfl, hj⟩ := E2elim hi
    exact L2den Q (fun a0' n0' c0' e0' v1x0' x7' x8 h => a0 = a0' ∧ n0 = n0' ∧ c0 = c0' ∧ e0 = e0' ∧ v1x0 = v1x0' ∧ x7 = x7' ∧ ∃ g', m g' < m g ∧ J g' x8 h) a0 n0 c0 e0 v1x0 x7 x8 h (hr g x8 h hj (fun a0' n0' c0' e0' v1x0' x7' x8 h => a0 = a0' ∧ n0 = n0' ∧ c0 = c0' ∧ e0 = e0' ∧ v1x0 = v1x0' ∧ x7 = x7' ∧ ∃ g', m g' < m g ∧ J g' x8 h) fun g' x8 h hlt hj => ⟨rfl, rfl, rfl, rfl, rfl, rfl, g', hlt, hj⟩)
  · intro g env h hi
    obtain ⟨a0', n0', c0', e0', v1x0', x7', x8, rfl, rfl, rfl, rfl, rfl, rfl, rfl, g', hlt, hj⟩ := E2elim hi
    exact ⟨g', hlt, rfl, rfl, rfl, rfl, rfl, rfl, hj⟩
theorem A2x0i (Q : QT) (h : AHeap) (ht :
 Q (.int .i64 (-1)) h) : A2x0 Q h :=
  At.mk (@cast _ ((K1 Q) (.exit 0) [(4, .undef)] h) (by kernel_rfl) ht)
theorem call (a0 : Pt) (n0 c0 : Nat) (e0 : Bool) (v1x0 : AVal) (h : AHeap) (Q : QT) (ht :
 L2 Q a0 n0 c0 e0 v1x0 (((n0 : Nat) : Int)) 0 h) : SCall pg n_slices_IndexFunc_L_impl_Need_impl_Need [.slice a0 n0 c0 e0, .fn n_impl_GrowingOf_lit1 [v1x0]] h Q :=
  SCall.of_body kp (c := cod fn) (fn := fn) Go.Proofs.Try.func103 (by kernel_rfl) (by kernel_rfl) (Nat.le_of_ble_eq_true (by kernel_rfl))
    (@cast _ (den pg fn.ntmps kp (cod fn) (Env.args 0 [.slice a0 n0 c0 e0, .fn n_impl_GrowingOf_lit1 [v1x0]]) h (KR Q)) (by kernel_rfl) ht)
end F_slices_IndexFunc_L_impl_Need_impl_Need__impl_GrowingOf_lit1
/-! Function loop.example/instancesearch/impl.GrowingOf -/
namespace F_impl_GrowingOf
noncomputable abbrev fn : Func := Go.Proofs.Try.f29
def kp : Keeps := [(3000005, [4]), (1000005, [4, 12, 13, 14]), (4000009, [14, 13, 12, 4])]
noncomputable def C (p : List Nat) : Code := (cod fn).sub p
def KR (Q : QT) : KT := retA pg fn.results.toList Q
abbrev T5 := Pt → Nat → Nat → Bool → Pt → Nat → Nat → Bool → Int → Int → AHeap → Prop
def E5 (R5 : T5) (env : Env) (h : AHeap) : Prop := eVal 4 env fun v env => xSl (some v) fun a4 n4 c4 e4 => eVal 12 env fun v env => xSl (some v) fun a12 n12 c12 e12 => eVal 13 env fun v env => eInt .i64 v fun x13 => eVal 14 env fun v env => eInt .i64 v fun x14 => eNil env (R5 a4 n4 c4 e4 a12 n12 c12 e12 x13 x14 h)
theorem E5elim {R5 : T5} {env : Env} {h : AHeap} (hi : E5 R5 env h) : ∃ a4, ∃ n4, ∃ c4, ∃ e4, ∃ a12, ∃ n12, ∃ c12, ∃ e12, ∃ x13, ∃ x14, env = [(4, .slice a4 n4 c4 e4), (12, .slice a12 n12 c12 e12), (13, .int .i64 x13), (14, .int .i64 x14)] ∧ R5 a4 n4 c4 e4 a12 n12 c12 e12 x13 x14 h := by
  unfold E5 at hi
  have hi0 := hi
  clear hi
  obtain ⟨v, env, rfl, hi1⟩ := eVal_elim hi0
  obtain ⟨a4, n4, c4, e4, rfl, hi2⟩ := xSl_elim hi1
  obtain ⟨v, env, rfl, hi3⟩ := eVal_elim hi2
  obtain ⟨a12, n12, c12, e12, rfl, hi4⟩ := xSl_elim hi3
  obtain ⟨v, env, rfl, hi5⟩ := eVal_elim hi4
  obtain ⟨x13, rfl, hi6⟩ := eInt_elim hi5
  obtain ⟨v, env, rfl, hi7⟩ := eVal_elim hi6
  obtain ⟨x14, rfl, hi8⟩ := eInt_elim hi7
  obtain ⟨rfl, hi9⟩ := eNil_elim hi8
  have hi := hi9
  exact ⟨a4, n4, c4, e4, a12, n12, c12, e12, x13, x14, rfl, hi⟩
def K0 (Q : QT) : KT := andThen (fun env' h' => (match kp.find 4000010 with | some ks => Den pg fn.ntmps (C [1, 1, 1, 1]) (env'.keep ks) h' (KR Q) | none => den pg fn.ntmps kp (C [1, 1, 1, 1]) env' h' (KR Q))) (KR Q)
def K1 (Q : QT) : KT := onExit 0 (K0 Q)
def K2 (Q : QT) : KT := left kp 5 (K1 Q)
def K3 (Q : QT) (R5 : T5) : KT := rnd ((kp.find 1000005).getD []) (E5 R5) (K2 Q)
def L5 (Q : QT) (a4 : Pt) (n4 c4 : Nat) (e4 : Bool) (a12 : Pt) (n12 c12 : Nat) (e12 : Bool) (x13 x14 : Int) (h : AHeap) : Prop := Loop (Den pg fn.ntmps (C [1, 1, 1, 0, 1, 0, 0])) ((kp.find 1000005).getD []) (K2 Q) [(4, .slice a4 n4 c4 e4), (12, .slice a12 n12 c12 e12), (13, .int .i64 x13), (14, .int .i64 x14)] h
def J9 (Q : QT) (R5 : T5) (x14 x13 : Int) (a12 : Pt) (n12 c12 : Nat) (e12 : Bool) (a4 : Pt) (n4 c4 : Nat) (e4 : Bool) (h : AHeap) : Prop := Den pg fn.ntmps (C [1, 1, 1, 0, 1, 0, 0, 1, 1, 1]) [(14, .int .i64 x14), (13, .int .i64 x13), (12, .slice a12 n12 c12 e12), (4, .slice a4 n4 c4 e4)] h (K3 Q R5)
def A5x0 (Q : QT) (a4 : Pt) (n4 c4 : Nat) (e4 : Bool) (h : AHeap) : Prop := At (K1 Q) (.exit 0) [(4, .slice a4 n4 c4 e4)] h
def L5t (Q : QT) (R5 : T5) (a4 : Pt) (n4 c4 : Nat) (e4 : Bool) (a12 : Pt) (n12 c12 : Nat) (e12 : Bool) (x13 x14 : Int) (h : AHeap) : Prop :=
 bcase (decide ((x14 : Int) < x13)) ((0 ≤ (x14 : Int) ∧ (x14 : Int) < (n12 : Nat)) ∧ (xSome a12 fun i_22 o_23 => xRow (hRow h (.ptr (some (i_22, o_23 + (Int.toNat x14) * 3))) 3) fun cs_24 => xCons cs_24 fun c_25 r_26 => xStr (some c_25) fun s_27 => xCons r_26 fun c_28 r_29 => xStr (some c_28) fun s_30 => xCons r_29 fun c_31 r_32 => xSl (some c_31) fun a_33 n_34 c_35 e_36 => xNil r_32 (letH (h ++ [.cells t_impl_Instance [.str [], .str [], .slice none 0 0 true] false]) fun h_37 => xHeap (hStore h_37 (.ptr (some (List.length h, 0))) [.str s_27, .str s_30, .slice a_33 n_34 c_35 e_36]) fun h_38 => xSl (hCell h_38 (.ptr (some (List.length h, 0 + 2)))) fun a_39 n_40 c_41 e_42 => SCall pg n_slices_ContainsFunc_L_impl_Need_impl_Need [.slice a_39 n_40 c_41 e_42, .fn n_impl_GrowingOf_lit1 [.ptr (some (List.length h, 0))]] h_38 fun v_43 h_44 =>
 xBool (some v_43) fun b_45 => bcase b_45 (letH (h_44 ++ [.cells t_int [.int .i64 x14] false]) fun h_46 => appendA pg t_L_int h_46 (.slice a4 n4 c4 e4) (.slice (some (List.length h_44, 0)) 1 1 true) fun v_47 h_48 => xSl (some v_47) fun a_49 n_50 c_51 e_52 => J9 Q R5 x14 x13 a12 n12 c12 e12 a_49 n_50 c_51 e_52 h_48) (J9 Q R5 x14 x13 a12 n12 c12 e12 a4 n4 c4 e4 h_44)))) (A5x0 Q a4 n4 c4 e4 h)
theorem L5den (Q : QT) (R5 : T5) (a4 : Pt) (n4 c4 : Nat) (e4 : Bool) (a12 : Pt) (n12 c12 : Nat) (e12 : Bool) (x13 x14 : Int) (h : AHeap) (ht : L5t Q R5 a4 n4 c4 e4 a12 n12 c12 e12 x13 x14 h) : Den pg fn.ntmps (C [1, 1, 1, 0, 1, 0, 0]) [(4, .slice a4 n4 c4 e4), (12, .slice a12 n12 c12 e12), (13, .int .i64 x13), (14, .int .i64 x14)] h (K3 Q R5) :=
  den_Den (kp := kp) (@cast _ (den pg fn.ntmps kp (C [1, 1, 1, 0, 1, 0, 0]) [(4, .slice a4 n4 c4 e4), (12, .slice a12 n12 c12 e12), (13, .int .i64 x13), (14, .int .i64 x14)] h (K3 Q R5)) (by kernel_rfl) ht)
theorem L5ind (Q : QT) (a12 : Pt) (n12 c12 : Nat) (e12 : Bool) (x13 : Int) {G : Type} (J : G → Pt → Nat → Nat → Bool → Int → AHeap → Prop) (m : G → Nat)
 (hr : ∀ (g : G) (a4 : Pt) (n4 c4 : Nat) (e4 : Bool) (x14 : Int) (h : AHeap), J g a4 n4 c4 e4 x14 h → ∀ (R5 : T5), (∀ g' (a4 : Pt) (n4 c4 : Nat) (e4 : Bool) (x14 : Int) (h : AHeap), m g' < m g → J g' a4 n4 c4 e4 x14 h → R5 a4 n4 c4 e4 a12 n12 c12 e12 x13 x14 h) → L5t Q R5 a4 n4 c4 e4 a12 n12 c12 e12 x13 x14 h)
 (g : G) (a4 : Pt) (n4 c4 : Nat) (e4 : Bool) (x14 : Int) (h : AHeap) (hj : J g a4 n4 c4 e4 x14 h) : L5 Q a4 n4 c4 e4 a12 n12 c12 e12 x13 x14 h := by
  refine Loop.inv2 (fun g => E5 fun a4 n4 c4 e4 a12' n12' c12' e12' x13' x14 h => a12 = a12' ∧ n12 = n12' ∧ c12 = c12' ∧ e12 = e12' ∧ x13 = x13' ∧ J g a4 n4 c4 e4 x14 h) (fun g => E5 fun a4 n4 c4 e4 a12' n12' c12' e12' x13' x14 h => a12 = a12' ∧ n12 = n12' ∧ c12 = c12' ∧ e12 = e12' ∧ x13 = x13' ∧ ∃ g', m g' < m g ∧ J g' a4 n4 c4 e4 x14 h) m ?_ ?_ g ⟨rfl, rfl, rfl, rfl, rfl, hj⟩
  · intro g env h hi
    obtain ⟨a4, n4, c4, e4, a12', n12', c12', e12', x13', x14, rfl, rfl, rfl, rfl, rfl, rfl, hj⟩ := E5elim hi
    exact L5den Q (fun a4 n4 c4 e4 a12' n12' c12' e12' x13' x14 h => a12 = a12' ∧ n12 = n12' ∧ c12 = c12' ∧ e12 = e12' ∧ x13 = x13' ∧ ∃ g', m g' < m g ∧ J g' a4 n4 c4 e4 x14 h) a4 n4 c4 e4 a12 n12 c12 e12 x13 x14 h (hr g a4 n4 c4 e4 x14 h hj (fun a4 n4 c4 e4 a12' n12' c12' e12' x13' x14 h => a12 = a12' ∧ n12 = n12' ∧ c12 = c12' ∧ e12 = e12' ∧ x13 = x13' ∧ ∃ g', m g' < m g ∧ J g' a4 n4 c4 e4 x14 h) fun g' a4 n4 c4 e4 x14 h hlt hj => ⟨rfl, rfl, rfl, rfl, rfl, g', hlt, hj⟩)
  · intro g env h hi
    obtain ⟨a4, n4, c4, e4, a12', n12', c12', e12', x13', x14, rfl, rfl, rfl, rfl, rfl, rfl, g', hlt, hj⟩ := E5elim hi
    exact ⟨g', hlt, rfl, rfl, rfl, rfl, rfl, hj⟩
theorem J9i (Q : QT) (R5 : T5) (x14 x13 : Int) (a12 : Pt) (n12 c12 : Nat) (e12 : Bool) (a4 : Pt) (n4 c4 : Nat) (e4 : Bool) (h : AHeap) (ht :
 R5 a4 n4 c4 e4 a12 n12 c12 e12 x13 (IntKind.wrap .i64 (x14 + 1)) h) : J9 Q R5 x14 x13 a12 n12 c12 e12 a4 n4 c4 e4 h :=
  den_Den (kp := kp) (@cast _ (den pg fn.ntmps kp (C [1, 1, 1, 0, 1, 0, 0, 1, 1, 1]) [(14, .int .i64 x14), (13, .int .i64 x13), (12, .slice a12 n12 c12 e12), (4, .slice a4 n4 c4 e4)] h (K3 Q R5)) (by kernel_rfl) ht)
theorem A5x0i (Q : QT) (a4 : Pt) (n4 c4 : Nat) (e4 : Bool) (h : AHeap) (ht :
 Q (.tup [.slice a4 n4 c4 e4, .bool true]) h) : A5x0 Q a4 n4 c4 e4 h :=
  At.mk (@cast _ ((K1 Q) (.exit 0) [(4, .slice a4 n4 c4 e4)] h) (by kernel_rfl) ht)
theorem call (a0x0 : Pt) (n0x0 c0x0 : Nat) (e0x0 : Bool) (a0x1 : Pt) (n0x1 c0x1 : Nat) (e0x1 : Bool) (h : AHeap) (Q : QT) (ht :
 letH (h ++ [.cells t_impl_World [.slice a0x0 n0x0 c0x0 e0x0, .slice a0x1 n0x1 c0x1 e0x1] false]) fun h_0 => xRow (hRow h_0 (.ptr (some (List.length h, 0))) 2) fun cs_1 => xCons cs_1 fun c_2 r_3 => xSl (some c_2) fun a_4 n_5 c_6 e_7 => xCons r_3 fun c_8 r_9 => xSl (some c_8) fun a_10 n_11 c_12 e_13 => xNil r_9 (SCall pg n_impl_WorldValid [.agg [.slice a_4 n_5 c_6 e_7, .slice a_10 n_11 c_12 e_13]] h_0 fun v_14 h_15 =>
 xBool (some v_14) fun b_16 => bcase (!b_16) (Q (.tup [.slice none 0 0 true, .bool false]) h_15) (letH (h_15 ++ [.cells t_int [] false]) fun h_17 => xSl (hCell h_17 (.ptr (some (List.length h, 0 + 1)))) fun a_18 n_19 c_20 e_21 => L5 Q (some (List.length h_15, 0)) 0 0 true a_18 n_19 c_20 e_21 (((n_19 : Nat) : Int)) 0 h_17))) : SCall pg n_impl_GrowingOf [.agg [.slice a0x0 n0x0 c0x0 e0x0, .slice a0x1 n0x1 c0x1 e0x1]] h Q :=
  SCall.of_body kp (c := cod fn) (fn := fn) Go.Proofs.Try.func29 (by kernel_rfl) (by kernel_rfl) (Nat.le_of_ble_eq_true (by kernel_rfl))
    (@cast _ (den pg fn.ntmps kp (cod fn) (Env.args 0 [.agg [.slice a0x0 n0x0 c0x0 e0x0, .slice a0x1 n0x1 c0x1 e0x1]]) h (KR Q)) (by kernel_rfl) ht)
end F_impl_GrowingOf
/-! Function slices.ContainsFunc[[]loop.example/instancesearch/impl.Need,loop.example/instancesearch/impl.Need] -/
namespace F_slices_ContainsFunc_L_impl_Need_impl_Need__impl_GrowingOf_lit1
noncomputable abbrev fn : Func := Go.Proofs.Try.f57
def kp : Keeps := []
noncomputable def C (p : List Nat) : Code := (cod fn).sub p
def KR (Q : QT) : KT := retA pg fn.results.toList Q
theorem call (a0 : Pt) (n0 c0 : Nat) (e0 : Bool) (v1x0 : AVal) (h : AHeap) (Q : QT) (ht :
 SCall pg n_slices_IndexFunc_L_impl_Need_impl_Need [.slice a0 n0 c0 e0, .fn n_impl_GrowingOf_lit1 [v1x0]] h fun v_0 h_1 =>
 xInt .i64 (some v_0) fun x_2 => Q (.bool (decide ((x_2 : Int) ≥ 0))) h_1) : SCall pg n_slices_ContainsFunc_L_impl_Need_impl_Need [.slice a0 n0 c0 e0, .fn n_impl_GrowingOf_lit1 [v1x0]] h Q :=
  SCall.of_body kp (c := cod fn) (fn := fn) Go.Proofs.Try.func57 (by kernel_rfl) (by kernel_rfl) (Nat.le_of_ble_eq_true (by kernel_rfl))
    (@cast _ (den pg fn.ntmps kp (cod fn) (Env.args 0 [.slice a0 n0 c0 e0, .fn n_impl_GrowingOf_lit1 [v1x0]]) h (KR Q)) (by kernel_rfl) ht)
end F_slices_ContainsFunc_L_impl_Need_impl_Need__impl_GrowingOf_lit1
/-! Function loop.example/instancesearch/impl.IsEnding -/
namespace F_impl_IsEnding
noncomputable abbrev fn : Func := Go.Proofs.Try.f19
def kp : Keeps := []
noncomputable def C (p : List Nat) : Code := (cod fn).sub p
def KR (Q : QT) : KT := retA pg fn.results.toList Q
theorem call (a0x0 : Pt) (n0x0 c0x0 : Nat) (e0x0 : Bool) (a0x1 : Pt) (n0x1 c0x1 : Nat) (e0x1 : Bool) (h : AHeap) (Q : QT) (ht :
 letH (h ++ [.cells t_impl_World [.slice a0x0 n0x0 c0x0 e0x0, .slice a0x1 n0x1 c0x1 e0x1] false]) fun h_0 => xRow (hRow h_0 (.ptr (some (List.length h, 0))) 2) fun cs_1 => xCons cs_1 fun c_2 r_3 => xSl (some c_2) fun a_4 n_5 c_6 e_7 => xCons r_3 fun c_8 r_9 => xSl (some c_8) fun a_10 n_11 c_12 e_13 => xNil r_9 (SCall pg n_impl_GrowingOf [.agg [.slice a_4 n_5 c_6 e_7, .slice a_10 n_11 c_12 e_13]] h_0 fun v_14 h_15 =>
 xTup v_14 fun cs_16 => xCons cs_16 fun c_17 r_18 => xSl (some c_17) fun a_19 n_20 c_21 e_22 => xCons r_18 fun c_23 r_24 => xBool (some c_23) fun b_25 => xNil r_24 (bcase b_25 (Q (.bool ((((n_20 : Nat) : Int) : Int) == 0)) h_15) (Q (.bool false) h_15)))) : SCall pg n_impl_IsEnding [.agg [.slice a0x0 n0x0 c0x0 e0x0, .slice a0x1 n0x1 c0x1 e0x1]] h Q :=
  SCall.of_body kp (c := cod fn) (fn := fn) Go.Proofs.Try.func19 (by kernel_rfl) (by kernel_rfl) (Nat.le_of_ble_eq_true (by kernel_rfl))
    (@cast _ (den pg fn.ntmps kp (cod fn) (Env.args 0 [.agg [.slice a0x0 n0x0 c0x0 e0x0, .slice a0x1 n0x1 c0x1 e0x1]]) h (KR Q)) (by kernel_rfl) ht)
end F_impl_IsEnding
/-! Function loop.example/instancesearch/spec.GrowingOf -/
namespace F_spec_GrowingOf
noncomputable abbrev fn : Func := Go.Proofs.Try.f28
def kp : Keeps := [(3000005, [4]), (1000005, [4, 16, 17, 18]), (3000009, [7, 4, 5, 18, 17, 16]), (1000009, [4, 5, 6, 7, 16, 17, 18, 24, 25, 26]), (4000012, [26, 25, 24, 7, 6, 4, 5, 18, 17, 16]), (4000015, [18, 17, 16, 4])]
noncomputable def C (p : List Nat) : Code := (cod fn).sub p
def KR (Q : QT) : KT := retA pg fn.results.toList Q
abbrev T5 := Pt → Nat → Nat → Bool → Pt → Nat → Nat → Bool → Int → Int → AHeap → Prop
def E5 (R5 : T5) (env : Env) (h : AHeap) : Prop := eVal 4 env fun v env => xSl (some v) fun a4 n4 c4 e4 => eVal 16 env fun v env => xSl (some v) fun a16 n16 c16 e16 => eVal 17 env fun v env => eInt .i64 v fun x17 => eVal 18 env fun v env => eInt .i64 v fun x18 => eNil env (R5 a4 n4 c4 e4 a16 n16 c16 e16 x17 x18 h)
theorem E5elim {R5 : T5} {env : Env} {h : AHeap} (hi : E5 R5 env h) : ∃ a4, ∃ n4, ∃ c4, ∃ e4, ∃ a16, ∃ n16, ∃ c16, ∃ e16, ∃ x17, ∃ x18, env = [(4, .slice a4 n4 c4 e4), (16, .slice a16 n16 c16 e16), (17, .int .i64 x17), (18, .int .i64 x18)] ∧ R5 a4 n4 c4 e4 a16 n16 c16 e16 x17 x18 h := by
  unfold E5 at hi
  have hi0 := hi
  clear hi
  obtain ⟨v, env, rfl, hi1⟩ := eVal_elim hi0
  obtain ⟨a4, n4, c4, e4, rfl, hi2⟩ := xSl_elim hi1
  obtain ⟨v, env, rfl, hi3⟩ := eVal_elim hi2
  obtain ⟨a16, n16, c16, e16, rfl, hi4⟩ := xSl_elim hi3
  obtain ⟨v, env, rfl, hi5⟩ := eVal_elim hi4
  obtain ⟨x17, rfl, hi6⟩ := eInt_elim hi5
  obtain ⟨v, env, rfl, hi7⟩ := eVal_elim hi6
  obtain ⟨x18, rfl, hi8⟩ := eInt_elim hi7
  obtain ⟨rfl, hi9⟩ := eNil_elim hi8
  have hi := hi9
  exact ⟨a4, n4, c4, e4, a16, n16, c16, e16, x17, x18, rfl, hi⟩
abbrev T9 := Pt → Nat → Nat → Bool → Int → Nat → Nat → Bool → Pt → Nat → Nat → Bool → Int → Int → Pt → Nat → Nat → Bool → Int → Int → AHeap → Prop
def E9 (R9 : T9) (env : Env) (h : AHeap) : Prop := eVal 4 env fun v env => xSl (some v) fun a4 n4 c4 e4 => eVal 5 env fun v env => eInt .i64 v fun x5 => eVal 6 env fun v env => xPtr (some v) fun a => xSome a fun i6 o6 => eVal 7 env fun v env => xBool (some v) fun x7 => eVal 16 env fun v env => xSl (some v) fun a16 n16 c16 e16 => eVal 17 env fun v env => eInt .i64 v fun x17 => eVal 18 env fun v env => eInt .i64 v fun x18 => eVal 24 env fun v env => xSl (some v) fun a24 n24 c24 e24 => eVal 25 env fun v env => eInt .i64 v fun x25 => eVal 26 env fun v env => eInt .i64 v fun x26 => eNil env (R9 a4 n4 c4 e4 x5 i6 o6 x7 a16 n16 c16 e16 x17 x18 a24 n24 c24 e24 x25 x26 h)
theorem E9elim {R9 : T9} {env : Env} {h : AHeap} (hi : E9 R9 env h) : ∃ a4, ∃ n4, ∃ c4, ∃ e4, ∃ x5, ∃ i6, ∃ o6, ∃ x7, ∃ a16, ∃ n16, ∃ c16, ∃ e16, ∃ x17, ∃ x18, ∃ a24, ∃ n24, ∃ c24, ∃ e24, ∃ x25, ∃ x26, env = [(4, .slice a4 n4 c4 e4), (5, .int .i64 x5), (6, .ptr (some (i6, o6))), (7, .bool x7), (16, .slice a16 n16 c16 e16), (17, .int .i64 x17), (18, .int .i64 x18), (24, .slice a24 n24 c24 e24), (25, .int .i64 x25), (26, .int .i64 x26)] ∧ R9 a4 n4 c4 e4 x5 i6 o6 x7 a16 n16 c16 e16 x17 x18 a24 n24 c24 e24 x25 x26 h := by
  unfold E9 at hi
  have hi0 := hi
  clear hi
  obtain ⟨v, env, rfl, hi1⟩ := eVal_elim hi0
  obtain ⟨a4, n4, c4, e4, rfl, hi2⟩ := xSl_elim hi1
  obtain ⟨v, env, rfl, hi3⟩ := eVal_elim hi2
  obtain ⟨x5, rfl, hi4⟩ := eInt_elim hi3
  obtain ⟨v, env, rfl, hi5⟩ := eVal_elim hi4
  obtain ⟨a, rfl, hi6⟩ := xPtr_elim hi5
  obtain ⟨i6, o6, rfl, hi7⟩ := xSome_elim hi6
  obtain ⟨v, env, rfl, hi8⟩ := eVal_elim hi7
  obtain ⟨x7, rfl, hi9⟩ := xBool_elim hi8
  obtain ⟨v, env, rfl, hi10⟩ := eVal_elim hi9
  obtain ⟨a16, n16, c16, e16, rfl, hi11⟩ := xSl_elim hi10
  obtain ⟨v, env, rfl, hi12⟩ := eVal_elim hi11
  obtain ⟨x17, rfl, hi13⟩ := eInt_elim hi12
  obtain ⟨v, env, rfl, hi14⟩ := eVal_elim hi13
  obtain ⟨x18, rfl, hi15⟩ := eInt_elim hi14
  obtain ⟨v, env, rfl, hi16⟩ := eVal_elim hi15
  obtain ⟨a24, n24, c24, e24, rfl, hi17⟩ := xSl_elim hi16
  obtain ⟨v, env, rfl, hi18⟩ := eVal_elim hi17
  obtain ⟨x25, rfl, hi19⟩ := eInt_elim hi18
  obtain ⟨v, env, rfl, hi20⟩ := eVal_elim hi19
  obtain ⟨x26, rfl, hi21⟩ := eInt_elim hi20
  obtain ⟨rfl, hi22⟩ := eNil_elim hi21
  have hi := hi22
  exact ⟨a4, n4, c4, e4, x5, i6, o6, x7, a16, n16, c16, e16, x17, x18, a24, n24, c24, e24, x25, x26, rfl, hi⟩
def K0 (Q : QT) : KT := andThen (fun env' h' => (match kp.find 4000016 with | some ks => Den pg fn.ntmps (C [1, 1, 1, 1]) (env'.keep ks) h' (KR Q) | none => den pg fn.ntmps kp (C [1, 1, 1, 1]) env' h' (KR Q))) (KR Q)
def K1 (Q : QT) : KT := onExit 0 (K0 Q)
def K2 (Q : QT) : KT := left kp 5 (K1 Q)
def K3 (Q : QT) (R5 : T5) : KT := rnd ((kp.find 1000005).getD []) (E5 R5) (K2 Q)
def K4 (Q : QT) (R5 : T5) : KT := andThen (fun env' h' => (match kp.find 4000015 with | some ks => Den pg fn.ntmps (C [1, 1, 1, 0, 1, 0, 0, 1, 1, 1]) (env'.keep ks) h' (K3 Q R5) | none => den pg fn.ntmps kp (C [1, 1, 1, 0, 1, 0, 0, 1, 1, 1]) env' h' (K3 Q R5))) (K3 Q R5)
def K5 (Q : QT) (R5 : T5) : KT := onExit 1 (K4 Q R5)
def K6 (Q : QT) (R5 : T5) : KT := andThen (fun env' h' => (match kp.find 4000013 with | some ks => Den pg fn.ntmps (C [1, 1, 1, 0, 1, 0, 0, 1, 1, 0, 0, 1, 1, 1]) (env'.keep ks) h' (K5 Q R5) | none => den pg fn.ntmps kp (C [1, 1, 1, 0, 1, 0, 0, 1, 1, 0, 0, 1, 1, 1]) env' h' (K5 Q R5))) (K5 Q R5)
def K7 (Q : QT) (R5 : T5) : KT := onExit 2 (K6 Q R5)
def K8 (Q : QT) (R5 : T5) : KT := left kp 9 (K7 Q R5)
def K9 (Q : QT) (R5 : T5) (R9 : T9) : KT := rnd ((kp.find 1000009).getD []) (E9 R9) (K8 Q R5)
def L5 (Q : QT) (a4 : Pt) (n4 c4 : Nat) (e4 : Bool) (a16 : Pt) (n16 c16 : Nat) (e16 : Bool) (x17 x18 : Int) (h : AHeap) : Prop := Loop (Den pg fn.ntmps (C [1, 1, 1, 0, 1, 0, 0])) ((kp.find 1000005).getD []) (K2 Q) [(4, .slice a4 n4 c4 e4), (16, .slice a16 n16 c16 e16), (17, .int .i64 x17), (18, .int .i64 x18)] h
def L9 (Q : QT) (R5 : T5) (a4 : Pt) (n4 c4 : Nat) (e4 : Bool) (x5 : Int) (i6 o6 : Nat) (x7 : Bool) (a16 : Pt) (n16 c16 : Nat) (e16 : Bool) (x17 x18 : Int) (a24 : Pt) (n24 c24 : Nat) (e24 : Bool) (x25 x26 : Int) (h : AHeap) : Prop := Loop (Den pg fn.ntmps (C [1, 1, 1, 0, 1, 0, 0, 1, 1, 0, 0, 1, 1, 0, 1, 0, 0])) ((kp.find 1000009).getD []) (K8 Q R5) [(4, .slice a4 n4 c4 e4), (5, .int .i64 x5), (6, .ptr (some (i6, o6))), (7, .bool x7), (16, .slice a16 n16 c16 e16), (17, .int .i64 x17), (18, .int .i64 x18), (24, .slice a24 n24 c24 e24), (25, .int .i64 x25), (26, .int .i64 x26)] h
def A5x0 (Q : QT) (a4 : Pt) (n4 c4 : Nat) (e4 : Bool) (h : AHeap) : Prop := At (K1 Q) (.exit 0) [(4, .slice a4 n4 c4 e4)] h
def J12 (Q : QT) (R5 : T5) (R9 : T9) (x26 x25 : Int) (a24 : Pt) (n24 c24 : Nat) (e24 x7 : Bool) (i6 o6 : Nat) (a4 : Pt) (n4 c4 : Nat) (e4 : Bool) (x5 x18 x17 : Int) (a16 : Pt) (n16 c16 : Nat) (e16 : Bool) (h : AHeap) : Prop := Den pg fn.ntmps (C [1, 1, 1, 0, 1, 0, 0, 1, 1, 0, 0, 1, 1, 0, 1, 0, 0, 1, 1, 1]) [(26, .int .i64 x26), (25, .int .i64 x25), (24, .slice a24 n24 c24 e24), (7, .bool x7), (6, .ptr (some (i6, o6))), (4, .slice a4 n4 c4 e4), (5, .int .i64 x5), (18, .int .i64 x18), (17, .int .i64 x17), (16, .slice a16 n16 c16 e16)] h (K9 Q R5 R9)
def A9x2 (Q : QT) (R5 : T5) (x7 : Bool) (a4 : Pt) (n4 c4 : Nat) (e4 : Bool) (x5 x18 x17 : Int) (a16 : Pt) (n16 c16 : Nat) (e16 : Bool) (h : AHeap) : Prop := At (K7 Q R5) (.exit 2) [(7, .bool x7), (4, .slice a4 n4 c4 e4), (5, .int .i64 x5), (18, .int .i64 x18), (17, .int .i64 x17), (16, .slice a16 n16 c16 e16)] h
def J15 (Q : QT) (R5 : T5) (x18 x17 : Int) (a16 : Pt) (n16 c16 : Nat) (e16 : Bool) (a4 : Pt) (n4 c4 : Nat) (e4 : Bool) (h : AHeap) : Prop := Den pg fn.ntmps (C [1, 1, 1, 0, 1, 0, 0, 1, 1, 1]) [(18, .int .i64 x18), (17, .int .i64 x17), (16, .slice a16 n16 c16 e16), (4, .slice a4 n4 c4 e4)] h (K3 Q R5)
def L5t (Q : QT) (R5 : T5) (a4 : Pt) (n4 c4 : Nat) (e4 : Bool) (a16 : Pt) (n16 c16 : Nat) (e16 : Bool) (x17 x18 : Int) (h : AHeap) : Prop :=
 bcase (decide ((x18 : Int) < x17)) ((0 ≤ (x18 : Int) ∧ (x18 : Int) < (n16 : Nat)) ∧ (xSome a16 fun i_22 o_23 => xRow (hRow h (.ptr (some (i_22, o_23 + (Int.toNat x18) * 3))) 3) fun cs_24 => xCons cs_24 fun c_25 r_26 => xStr (some c_25) fun s_27 => xCons r_26 fun c_28 r_29 => xStr (some c_28) fun s_30 => xCons r_29 fun c_31 r_32 => xSl (some c_31) fun a_33 n_34 c_35 e_36 => xNil r_32 (letH (h ++ [.cells t_impl_Instance [.str [], .str [], .slice none 0 0 true] false]) fun h_37 => xHeap (hStore h_37 (.ptr (some (List.length h, 0))) [.str s_27, .str s_30, .slice a_33 n_34 c_35 e_36]) fun h_38 => xSl (hCell h_38 (.ptr (some (List.length h, 0 + 2)))) fun a_39 n_40 c_41 e_42 => L9 Q R5 a4 n4 c4 e4 x18 (List.length h) 0 false a16 n16 c16 e16 x17 x18 a_39 n_40 c_41 e_42 (((n_40 : Nat) : Int)) 0 h_38))) (A5x0 Q a4 n4 c4 e4 h)
theorem L5den (Q : QT) (R5 : T5) (a4 : Pt) (n4 c4 : Nat) (e4 : Bool) (a16 : Pt) (n16 c16 : Nat) (e16 : Bool) (x17 x18 : Int) (h : AHeap) (ht : L5t Q R5 a4 n4 c4 e4 a16 n16 c16 e16 x17 x18 h) : Den pg fn.ntmps (C [1, 1, 1, 0, 1, 0, 0]) [(4, .slice a4 n4 c4 e4), (16, .slice a16 n16 c16 e16), (17, .int .i64 x17), (18, .int .i64 x18)] h (K3 Q R5) :=
  den_Den (kp := kp) (@cast _ (den pg fn.ntmps kp (C [1, 1, 1, 0, 1, 0, 0]) [(4, .slice a4 n4 c4 e4), (16, .slice a16 n16 c16 e16), (17, .int .i64 x17), (18, .int .i64 x18)] h (K3 Q R5)) (by kernel_rfl) ht)
theorem L5ind (Q : QT) (a16 : Pt) (n16 c16 : Nat) (e16 : Bool) (x17 : Int) {G : Type} (J : G → Pt → Nat → Nat → Bool → Int → AHeap → Prop) (m : G → Nat)
 (hr : ∀ (g : G) (a4 : Pt) (n4 c4 : Nat) (e4 : Bool) (x18 : Int) (h : AHeap), J g a4 n4 c4 e4 x18 h → ∀ (R5 : T5), (∀ g' (a4 : Pt) (n4 c4 : Nat) (e4 : Bool) (x18 : Int) (h : AHeap), m g' < m g → J g' a4 n4 c4 e4 x18 h → R5 a4 n4 c4 e4 a16 n16 c16 e16 x17 x18 h) → L5t Q R5 a4 n4 c4 e4 a16 n16 c16 e16 x17 x18 h)
 (g : G) (a4 : Pt) (n4 c4 : Nat) (e4 : Bool) (x18 : Int) (h : AHeap) (hj : J g a4 n4 c4 e4 x18 h) : L5 Q a4 n4 c4 e4 a16 n16 c16 e16 x17 x18 h := by
  refine Loop.inv2 (fun g => E5 fun a4 n4 c4 e4 a16' n16' c16' e16' x17' x18 h => a16 = a16' ∧ n16 = n16' ∧ c16 = c16' ∧ e16 = e16' ∧ x17 = x17' ∧ J g a4 n4 c4 e4 x18 h) (fun g => E5 fun a4 n4 c4 e4 a16' n16' c16' e16' x17' x18 h => a16 = a16' ∧ n16 = n16' ∧ c16 = c16' ∧ e16 = e16' ∧ x17 = x17' ∧ ∃ g', m g' < m g ∧ J g' a4 n4 c4 e4 x18 h) m ?_ ?_ g ⟨rfl, rfl, rfl, rfl, rfl, hj⟩
  · intro g env h hi
    obtain ⟨a4, n4, c4, e4, a16', n16', c16', e16', x17', x18, rfl, rfl, rfl, rfl, rfl, rfl, hj⟩ := E5elim hi
    exact L5den Q (fun a4 n4 c4 e4 a16' n16' c16' e16' x17' x18 h => a16 = a16' ∧ n16 = n16' ∧ c16 = c16' ∧ e16 = e16' ∧ x17 = x17' ∧ ∃ g', m g' < m g ∧ J g' a4 n4 c4 e4 x18 h) a4 n4 c4 e4 a16 n16 c16 e16 x17 x18 h (hr g a4 n4 c4 e4 x18 h hj (fun a4 n4 c4 e4 a16' n16' c16' e16' x17' x18 h => a16 = a16' ∧ n16 = n16' ∧ c16 = c16' ∧ e16 = e16' ∧ x17 = x17' ∧ ∃ g', m g' < m g ∧ J g' a4 n4 c4 e4 x18 h) fun g' a4 n4 c4 e4 x18 h hlt hj => ⟨rfl, rfl, rfl, rfl, rfl, g', hlt, hj⟩)
  · intro g env h hi
    obtain ⟨a4, n4, c4, e4, a16', n16', c16', e16', x17', x18, rfl, rfl, rfl, rfl, rfl, rfl, g', hlt, hj⟩ := E5elim hi
    exact ⟨g', hlt, rfl, rfl, rfl, rfl, rfl, hj⟩
def L9t (Q : QT) (R5 : T5) (R9 : T9) (a4 : Pt) (n4 c4 : Nat) (e4 : Bool) (x5 : Int) (i6 o6 : Nat) (x7 : Bool) (a16 : Pt) (n16 c16 : Nat) (e16 : Bool) (x17 x18 : Int) (a24 : Pt) (n24 c24 : Nat) (e24 : Bool) (x25 x26 : Int) (h : AHeap) : Prop :=
 bcase (decide ((x26 : Int) < x25)) ((0 ≤ (x26 : Int) ∧ (x26 : Int) < (n24 : Nat)) ∧ (xSome a24 fun i_43 o_44 => xRow (hRow h (.ptr (some (i_43, o_44 + (Int.toNat x26) * 2))) 2) fun cs_45 => xCons cs_45 fun c_46 r_47 => xStr (some c_46) fun s_48 => xCons r_47 fun c_49 r_50 => xStr (some c_49) fun s_51 => xNil r_50 (letH (h ++ [.cells t_impl_Need [.str [], .str []] false]) fun h_52 => xHeap (hStore h_52 (.ptr (some (List.length h, 0))) [.str s_48, .str s_51]) fun h_53 => bcase x7 (J12 Q R5 R9 x26 x25 a24 n24 c24 e24 true i6 o6 a4 n4 c4 e4 x5 x18 x17 a16 n16 c16 e16 h_53) (xStr (hCell h_53 (.ptr (some (i6, o6 + 0 + 1)))) fun s_54 => xRow (hRow h_53 (.ptr (some (List.length h, 0))) 2) fun cs_55 => xCons cs_55 fun c_56 r_57 => xStr (some c_56) fun s_58 => xCons r_57 fun c_59 r_60 => xStr (some c_59) fun s_61 => xNil r_60 (SCall pg n_spec_l8Smaller [.str s_54, .agg [.str s_58, .str s_61]] h_53 fun v_62 h_63 =>
 xBool (some v_62) fun b_64 => J12 Q R5 R9 x26 x25 a24 n24 c24 e24 (!b_64) i6 o6 a4 n4 c4 e4 x5 x18 x17 a16 n16 c16 e16 h_63))))) (A9x2 Q R5 x7 a4 n4 c4 e4 x5 x18 x17 a16 n16 c16 e16 h)
theorem L9den (Q : QT) (R5 : T5) (R9 : T9) (a4 : Pt) (n4 c4 : Nat) (e4 : Bool) (x5 : Int) (i6 o6 : Nat) (x7 : Bool) (a16 : Pt) (n16 c16 : Nat) (e16 : Bool) (x17 x18 : Int) (a24 : Pt) (n24 c24 : Nat) (e24 : Bool) (x25 x26 : Int) (h : AHeap) (ht : L9t Q R5 R9 a4 n4 c4 e4 x5 i6 o6 x7 a16 n16 c16 e16 x17 x18 a24 n24 c24 e24 x25 x26 h) : Den pg fn.ntmps (C [1, 1, 1, 0, 1, 0, 0, 1, 1, 0, 0, 1, 1, 0, 1, 0, 0]) [(4, .slice a4 n4 c4 e4), (5, .int .i64 x5), (6, .ptr (some (i6, o6))), (7, .bool x7), (16, .slice a16 n16 c16 e16), (17, .int .i64 x17), (18, .int .i64 x18), (24, .slice a24 n24 c24 e24), (25, .int .i64 x25), (26, .int .i64 x26)] h (K9 Q R5 R9) :=
  den_Den (kp := kp) (@cast _ (den pg fn.ntmps kp (C [1, 1, 1, 0, 1, 0, 0, 1, 1, 0, 0, 1, 1, 0, 1, 0, 0]) [(4, .slice a4 n4 c4 e4), (5, .int .i64 x5), (6, .ptr (some (i6, o6))), (7, .bool x7), (16, .slice a16 n16 c16 e16), (17, .int .i64 x17), (18, .int .i64 x18), (24, .slice a24 n24 c24 e24), (25, .int .i64 x25), (26, .int .i64 x26)] h (K9 Q R5 R9)) (by kernel_rfl) ht)
theorem L9ind (Q : QT) (R5 : T5) (a4 : Pt) (n4 c4 : Nat) (e4 : Bool) (x5 : Int) (i6 o6 : Nat) (a16 : Pt) (n16 c16 : Nat) (e16 : Bool) (x17 x18 : Int) (a24 : Pt) (n24 c24 : Nat) (e24 : Bool) (x25 : Int) {G : Type} (J : G → Bool → Int → AHeap → Prop) (m : G → Nat)
 (hr : ∀ (g : G) (x7 : Bool) (x26 : Int) (h : AHeap), J g x7 x26 h → ∀ (R9 : T9), (∀ g' (x7 : Bool) (x26 : Int) (h : AHeap), m g' < m g → J g' x7 x26 h → R9 a4 n4 c4 e4 x5 i6 o6 x7 a16 n16 c16 e16 x17 x18 a24 n24 c24 e24 x25 x26 h) → L9t Q R5 R9 a4 n4 c4 e4 x5 i6 o6 x7 a16 n16 c16 e16 x17 x18 a24 n24 c24 e24 x25 x26 h)
 (g : G) (x7 : Bool) (x26 : Int) (h : AHeap) (hj : J g x7 x26 h) : L9 Q R5 a4 n4 c4 e4 x5 i6 o6 x7 a16 n16 c16 e16 x17 x18 a24 n24 c24 e24 x25 x26 h := by
  refine Loop.inv2 (fun g => E9 fun a4' n4' c4' e4' x5' i6' o6' x7 a16' n16' c16' e16' x17' x18' a24' n24' c24' e24' x25' x26 h => a4 = a4' ∧ n4 = n4' ∧ c4 = c4' ∧ e4 = e4' ∧ x5 = x5' ∧ i6 = i6' ∧ o6 = o6' ∧ a16 = a16' ∧ n16 = n16' ∧ c16 = c16' ∧ e16 = e16' ∧ x17 = x17' ∧ x18 = x18' ∧ a24 = a24' ∧ n24 = n24' ∧ c24 = c24' ∧ e24 = e24' ∧ x25 = x25' ∧ J g x7 x26 h) (fun g => E9 fun a4' n4' c4' e4' x5' i6' o6' x7 a16' n16' c16' e16' x17' x18' a24' n24' c24' e24' x25' x26 h => a4 = a4' ∧ n4 = n4' ∧ c4 = c4' ∧ e4 = e4' ∧ x5 = x5' ∧ i6 = i6' ∧ o6 = o6' ∧ a16 = a16' ∧ n16 = n16' ∧ c16 = c16' ∧ e16 = e16' ∧ x17 = x17' ∧ x18 = x18' ∧ a24 = a24' ∧ n24 = n24' ∧ c24 = c24' ∧ e24 = e24' ∧ x25 = x25' ∧ ∃ g', m g' < m g ∧ J g' x7 x26 h) m ?_ ?_ g ⟨rfl, rfl, rfl, rfl, rfl, rfl, rfl, rfl, rfl, rfl, rfl, rfl, rfl, rfl, rfl, rfl, rfl, rfl, hj⟩
  · intro g env h hi
    obtain ⟨a4', n4', c4', e4', x5', i6', o6', x7, a16', n16', c16', e16', x17', x18', a24', n24', c24', e24', x25', x26, rfl, rfl, rfl, rfl, rfl, rfl, rfl, rfl, rfl, rfl, rfl, rfl, rfl, rfl, rfl, rfl, rfl, rfl, rfl, hj⟩ := E9elim hi
    exact L9den Q R5 (fun a4' n4' c4' e4' x5' i6' o6' x7 a16' n16' c16' e16' x17' x18' a24' n24' c24' e24' x25' x26 h => a4 = a4' ∧ n4 = n4' ∧ c4 = c4' ∧ e4 = e4' ∧ x5 = x5' ∧ i6 = i6' ∧ o6 = o6' ∧ a16 = a16' ∧ n16 = n16' ∧ c16 = c16' ∧ e16 = e16' ∧ x17 = x17' ∧ x18 = x18' ∧ a24 = a24' ∧ n24 = n24' ∧ c24 = c24' ∧ e24 = e24' ∧ x25 = x25' ∧ ∃ g', m g' < m g ∧ J g' x7 x26 h) a4 n4 c4 e4 x5 i6 o6 x7 a16 n16 c16 e16 x17 x18 a24 n24 c24 e24 x25 x26 h (hr g x7 x26 h hj (fun a4' n4' c4' e4' x5' i6' o6' x7 a16' n16' c16' e16' x17' x18' a24' n24' c24' e24' x25' x26 h => a4 = a4' ∧ n4 = n4' ∧ c4 = c4' ∧ e4 = e4' ∧ x5 = x5' ∧ i6 = i6' ∧ o6 = o6' ∧ a16 = a16' ∧ n16 = n16' ∧ c16 = c16' ∧ e16 = e16' ∧ x17 = x17' ∧ x18 = x18' ∧ a24 = a24' ∧ n24 = n24' ∧ c24 = c24' ∧ e24 = e24' ∧ x25 = x25' ∧ ∃ g', m g' < m g ∧ J g' x7 x26 h) fun g' x7 x26 h hlt hj => ⟨rfl, rfl, rfl, rfl, rfl, rfl, rfl, rfl, rfl, rfl, rfl, rfl, rfl, rfl, rfl, rfl, rfl, rfl, g', hlt, hj⟩)
  · intro g env h hi
    obtain ⟨a4', n4', c4', e4', x5', i6', o6', x7, a16', n16', c16', e16', x17', x18', a24', n24', c24', e24', x25', x26, rfl, rfl, rfl, rfl, rfl, rfl, rfl, rfl, rfl, rfl, rfl, rfl, rfl, rfl, rfl, rfl, rfl, rfl, rfl, g', hlt, hj⟩ := E9elim hi
    exact ⟨g', hlt, rfl, rfl, rfl, rfl, rfl, rfl, rfl, rfl, rfl, rfl, rfl, rfl, rfl, rfl, rfl, rfl, rfl, rfl, hj⟩
theorem A5x0i (Q : QT) (a4 : Pt) (n4 c4 : Nat) (e4 : Bool) (h : AHeap) (ht :
 Q (.tup [.slice a4 n4 c4 e4, .bool true]) h) : A5x0 Q a4 n4 c4 e4 h :=
  At.mk (@cast _ ((K1 Q) (.exit 0) [(4, .slice a4 n4 c4 e4)] h) (by kernel_rfl) ht)
theorem J12i (Q : QT) (R5 : T5) (R9 : T9) (x26 x25 : Int) (a24 : Pt) (n24 c24 : Nat) (e24 x7 : Bool) (i6 o6 : Nat) (a4 : Pt) (n4 c4 : Nat) (e4 : Bool) (x5 x18 x17 : Int) (a16 : Pt) (n16 c16 : Nat) (e16 : Bool) (h : AHeap) (ht :
 R9 a4 n4 c4 e4 x5 i6 o6 x7 a16 n16 c16 e16 x17 x18 a24 n24 c24 e24 x25 (IntKind.wrap .i64 (x26 + 1)) h) : J12 Q R5 R9 x26 x25 a24 n24 c24 e24 x7 i6 o6 a4 n4 c4 e4 x5 x18 x17 a16 n16 c16 e16 h :=
  den_Den (kp := kp) (@cast _ (den pg fn.ntmps kp (C [1, 1, 1, 0, 1, 0, 0, 1, 1, 0, 0, 1, 1, 0, 1, 0, 0, 1, 1, 1]) [(26, .int .i64 x26), (25, .int .i64 x25), (24, .slice a24 n24 c24 e24), (7, .bool x7), (6, .ptr (some (i6, o6))), (4, .slice a4 n4 c4 e4), (5, .int .i64 x5), (18, .int .i64 x18), (17, .int .i64 x17), (16, .slice a16 n16 c16 e16)] h (K9 Q R5 R9)) (by kernel_rfl) ht)
theorem A9x2i (Q : QT) (R5 : T5) (x7 : Bool) (a4 : Pt) (n4 c4 : Nat) (e4 : Bool) (x5 x18 x17 : Int) (a16 : Pt) (n16 c16 : Nat) (e16 : Bool) (h : AHeap) (ht :
 bcase x7 (letH (h ++ [.cells t_int [.int .i64 x5] false]) fun h_65 => appendA pg t_L_int h_65 (.slice a4 n4 c4 e4) (.slice (some (List.length h, 0)) 1 1 true) fun v_66 h_67 => xSl (some v_66) fun a_68 n_69 c_70 e_71 => J15 Q R5 x18 x17 a16 n16 c16 e16 a_68 n_69 c_70 e_71 h_67) (J15 Q R5 x18 x17 a16 n16 c16 e16 a4 n4 c4 e4 h)) : A9x2 Q R5 x7 a4 n4 c4 e4 x5 x18 x17 a16 n16 c16 e16 h :=
  At.mk (@cast _ ((K7 Q R5) (.exit 2) [(7, .bool x7), (4, .slice a4 n4 c4 e4), (5, .int .i64 x5), (18, .int .i64 x18), (17, .int .i64 x17), (16, .slice a16 n16 c16 e16)] h) (by kernel_rfl) ht)
theorem J15i (Q : QT) (R5 : T5) (x18 x17 : Int) (a16 : Pt) (n16 c16 : Nat) (e16 : Bool) (a4 : Pt) (n4 c4 : Nat) (e4 : Bool) (h : AHeap) (ht :
 R5 a4 n4 c4 e4 a16 n16 c16 e16 x17 (IntKind.wrap .i64 (x18 + 1)) h) : J15 Q R5 x18 x17 a16 n16 c16 e16 a4 n4 c4 e4 h :=
  den_Den (kp := kp) (@cast _ (den pg fn.ntmps kp (C [1, 1, 1, 0, 1, 0, 0, 1, 1, 1]) [(18, .int .i64 x18), (17, .int .i64 x17), (16, .slice a16 n16 c16 e16), (4, .slice a4 n4 c4 e4)] h (K3 Q R5)) (by kernel_rfl) ht)
theorem call (a0x0 : Pt) (n0x0 c0x0 : Nat) (e0x0 : Bool) (a0x1 : Pt) (n0x1 c0x1 : Nat) (e0x1 : Bool) (h : AHeap) (Q : QT) (ht :
 letH (h ++ [.cells t_impl_World [.slice a0x0 n0x0 c0x0 e0x0, .slice a0x1 n0x1 c0x1 e0x1] false]) fun h_0 => letH (h_0 ++ [.cells t_int [] false]) fun h_1 => xRow (hRow h_1 (.ptr (some (List.length h, 0))) 2) fun cs_2 => xCons cs_2 fun c_3 r_4 => xSl (some c_3) fun a_5 n_6 c_7 e_8 => xCons r_4 fun c_9 r_10 => xSl (some c_9) fun a_11 n_12 c_13 e_14 => xNil r_10 (SCall pg n_spec_WorldValid [.agg [.slice a_5 n_6 c_7 e_8, .slice a_11 n_12 c_13 e_14]] h_1 fun v_15 h_16 =>
 xBool (some v_15) fun b_17 => bcase (!b_17) (Q (.tup [.slice (some (List.length h_0, 0)) 0 0 true, .bool false]) h_16) (xSl (hCell h_16 (.ptr (some (List.length h, 0 + 1)))) fun a_18 n_19 c_20 e_21 => L5 Q (some (List.length h_0, 0)) 0 0 true a_18 n_19 c_20 e_21 (((n_19 : Nat) : Int)) 0 h_16))) : SCall pg n_spec_GrowingOf [.agg [.slice a0x0 n0x0 c0x0 e0x0, .slice a0x1 n0x1 c0x1 e0x1]] h Q :=
  SCall.of_body kp (c := cod fn) (fn := fn) Go.Proofs.Try.func28 (by kernel_rfl) (by kernel_rfl) (Nat.le_of_ble_eq_true (by kernel_rfl))
    (@cast _ (den pg fn.ntmps kp (cod fn) (Env.args 0 [.agg [.slice a0x0 n0x0 c0x0 e0x0, .slice a0x1 n0x1 c0x1 e0x1]]) h (KR Q)) (by kernel_rfl) ht)
end F_spec_GrowingOf
/-! Function loop.example/instancesearch/spec.IsEnding -/
namespace F_spec_IsEnding
noncomputable abbrev fn : Func := Go.Proofs.Try.f18
def kp : Keeps := []
noncomputable def C (p : List Nat) : Code := (cod fn).sub p
def KR (Q : QT) : KT := retA pg fn.results.toList Q
theorem call (a0x0 : Pt) (n0x0 c0x0 : Nat) (e0x0 : Bool) (a0x1 : Pt) (n0x1 c0x1 : Nat) (e0x1 : Bool) (h : AHeap) (Q : QT) (ht :
 letH (h ++ [.cells t_impl_World [.slice a0x0 n0x0 c0x0 e0x0, .slice a0x1 n0x1 c0x1 e0x1] false]) fun h_0 => xRow (hRow h_0 (.ptr (some (List.length h, 0))) 2) fun cs_1 => xCons cs_1 fun c_2 r_3 => xSl (some c_2) fun a_4 n_5 c_6 e_7 => xCons r_3 fun c_8 r_9 => xSl (some c_8) fun a_10 n_11 c_12 e_13 => xNil r_9 (SCall pg n_spec_GrowingOf [.agg [.slice a_4 n_5 c_6 e_7, .slice a_10 n_11 c_12 e_13]] h_0 fun v_14 h_15 =>
 xTup v_14 fun cs_16 => xCons cs_16 fun c_17 r_18 => xSl (some c_17) fun a_19 n_20 c_21 e_22 => xCons r_18 fun c_23 r_24 => xBool (some c_23) fun b_25 => xNil r_24 (bcase b_25 (Q (.bool ((((n_20 : Nat) : Int) : Int) == 0)) h_15) (Q (.bool false) h_15)))) : SCall pg n_spec_IsEnding [.agg [.slice a0x0 n0x0 c0x0 e0x0, .slice a0x1 n0x1 c0x1 e0x1]] h Q :=
  SCall.of_body kp (c := cod fn) (fn := fn) Go.Proofs.Try.func18 (by kernel_rfl) (by kernel_rfl) (Nat.le_of_ble_eq_true (by kernel_rfl))
    (@cast _ (den pg fn.ntmps kp (cod fn) (Env.args 0 [.agg [.slice a0x0 n0x0 c0x0 e0x0, .slice a0x1 n0x1 c0x1 e0x1]]) h (KR Q)) (by kernel_rfl) ht)
end F_spec_IsEnding
end Go.Sim

/- Printed by wip/tool: what the functions' bodies do, in the words of 'den'. -/
set_option maxRecDepth 100000
set_option linter.unusedVariables false
namespace Go.Sim
open Go Go.RowKit
/-! Function loop.example/instancesearch/impl.CountVar -/
namespace F_impl_CountVar
noncomputable abbrev fn : Func := Go.Proofs.Try.f111
def kp : Keeps := [(4000003, [0, 1])]
noncomputable def C (p : List Nat) : Code := (cod fn).sub p
def KR (Q : QT) : KT := retA pg fn.results.toList Q
def J3 (Q : QT) (x0 x1 : List Nat) (h : AHeap) : Prop := Den pg fn.ntmps (C [1, 1]) [(0, .str x0), (1, .str x1)] h (KR Q)
theorem J3i (Q : QT) (x0 x1 : List Nat) (h : AHeap) (ht :
 SCall pg n_strings_Count [.str x0, .str x1] h fun v_6 h_7 =>
 xInt .i64 (some v_6) fun x_8 => Q (.int .i64 x_8) h_7) : J3 Q x0 x1 h :=
  den_Den (kp := kp) (@cast _ (den pg fn.ntmps kp (C [1, 1]) [(0, .str x0), (1, .str x1)] h (KR Q)) (by kernel_rfl) ht)
theorem call (x0 x1 : List Nat) (h : AHeap) (Q : QT) (ht :
 SCall pg n_impl_TypeValid [.str x0] h fun v_0 h_1 =>
 xBool (some v_0) fun b_2 => bcase (!b_2) (Q (.int .i64 (-1)) h_1) (SCall pg n_impl_isVar [.str x1] h_1 fun v_3 h_4 =>
 xBool (some v_3) fun b_5 => bcase (!b_5) (Q (.int .i64 (-1)) h_4) (J3 Q x0 x1 h_4))) : SCall pg n_impl_CountVar [.str x0, .str x1] h Q :=
  SCall.of_body kp (c := cod fn) (fn := fn) Go.Proofs.Try.func111 (by kernel_rfl) (by kernel_rfl) (Nat.le_of_ble_eq_true (by kernel_rfl))
    (@cast _ (den pg fn.ntmps kp (cod fn) (Env.args 0 [.str x0, .str x1]) h (KR Q)) (by kernel_rfl) ht)
end F_impl_CountVar
/-! Function loop.example/instancesearch/spec.l1Size -/
namespace F_spec_l1Size
noncomputable abbrev fn : Func := Go.Proofs.Try.f147
def kp : Keeps := [(3000003, [3]), (1000003, [3, 7, 8, 9])]
noncomputable def C (p : List Nat) : Code := (cod fn).sub p
def KR (Q : QT) : KT := retA pg fn.results.toList Q
abbrev T3 := Int → Pt → Nat → Nat → Bool → Int → Int → AHeap → Prop
def E3 (R3 : T3) (env : Env) (h : AHeap) : Prop := eVal 3 env fun v env => eInt .i64 v fun x3 => eVal 7 env fun v env => xSl (some v) fun a7 n7 c7 e7 => eVal 8 env fun v env => eInt .i64 v fun x8 => eVal 9 env fun v env => eInt .i64 v fun x9 => eNil env (R3 x3 a7 n7 c7 e7 x8 x9 h)
theorem E3elim {R3 : T3} {env : Env} {h : AHeap} (hi : E3 R3 env h) : ∃ x3, ∃ a7, ∃ n7, ∃ c7, ∃ e7, ∃ x8, ∃ x9, env = [(3, .int .i64 x3), (7, .slice a7 n7 c7 e7), (8, .int .i64 x8), (9, .int .i64 x9)] ∧ R3 x3 a7 n7 c7 e7 x8 x9 h := by
  unfold E3 at hi
  have hi0 := hi
  clear hi
  obtain ⟨v, env, rfl, hi1⟩ := eVal_elim hi0
  obtain ⟨x3, rfl, hi2⟩ := eInt_elim hi1
  obtain ⟨v, env, rfl, hi3⟩ := eVal_elim hi2
  obtain ⟨a7, n7, c7, e7, rfl, hi4⟩ := xSl_elim hi3
  obtain ⟨v, env, rfl, hi5⟩ := eVal_elim hi4
  obtain ⟨x8, rfl, hi6⟩ := eInt_elim hi5
  obtain ⟨v, env, rfl, hi7⟩ := eVal_elim hi6
  obtain ⟨x9, rfl, hi8⟩ := eInt_elim hi7
  obtain ⟨rfl, hi9⟩ := eNil_elim hi8
  have hi := hi9
  exact ⟨x3, a7, n7, c7, e7, x8, x9, rfl, hi⟩
def K0 (Q : QT) : KT := andThen (fun env' h' => (match kp.find 4000007 with | some ks => Den pg fn.ntmps (C [1, 1, 1]) (env'.keep ks) h' (KR Q) | none => den pg fn.ntmps kp (C [1, 1, 1]) env' h' (KR Q))) (KR Q)
def K1 (Q : QT) : KT := onExit 0 (K0 Q)
def K2 (Q : QT) : KT := left kp 3 (K1 Q)
def K3 (Q : QT) (R3 : T3) : KT := rnd ((kp.find 1000003).getD []) (E3 R3) (K2 Q)
def L3 (Q : QT) (x3 : Int) (a7 : Pt) (n7 c7 : Nat) (e7 : Bool) (x8 x9 : Int) (h : AHeap) : Prop := Loop (Den pg fn.ntmps (C [1, 1, 0, 1, 0, 0])) ((kp.find 1000003).getD []) (K2 Q) [(3, .int .i64 x3), (7, .slice a7 n7 c7 e7), (8, .int .i64 x8), (9, .int .i64 x9)] h
def A3x0 (Q : QT) (x3 : Int) (h : AHeap) : Prop := At (K1 Q) (.exit 0) [(3, .int .i64 x3)] h
def L3t (Q : QT) (R3 : T3) (x3 : Int) (a7 : Pt) (n7 c7 : Nat) (e7 : Bool) (x8 x9 : Int) (h : AHeap) : Prop :=
 bcase (decide ((x9 : Int) < x8)) ((0 ≤ (x9 : Int) ∧ (x9 : Int) < (n7 : Nat)) ∧ (xSome a7 fun i_5 o_6 => xRow (hRow h (.ptr (some (i_5, o_6 + (Int.toNat x9) * 2))) 2) fun cs_7 => xCons cs_7 fun c_8 r_9 => xInt .u8 (some c_8) fun x_10 => xCons r_9 fun c_11 r_12 => xSl (some c_11) fun a_13 n_14 c_15 e_16 => xNil r_12 (letH (h ++ [.cells t_spec_l1Node [.int .u8 0, .slice none 0 0 true] false]) fun h_17 => xHeap (hStore h_17 (.ptr (some (List.length h, 0))) [.int .u8 x_10, .slice a_13 n_14 c_15 e_16]) fun h_18 => xRow (hRow h_18 (.ptr (some (List.length h, 0))) 2) fun cs_19 => xCons cs_19 fun c_20 r_21 => xInt .u8 (some c_20) fun x_22 => xCons r_21 fun c_23 r_24 => xSl (some c_23) fun a_25 n_26 c_27 e_28 => xNil r_24 (SCall pg n_spec_l1Size [.agg [.int .u8 x_22, .slice a_25 n_26 c_27 e_28]] h_18 fun v_29 h_30 =>
 xInt .i64 (some v_29) fun x_31 => R3 (IntKind.wrap .i64 (x3 + x_31)) a7 n7 c7 e7 x8 (IntKind.wrap .i64 (x9 + 1)) h_30)))) (A3x0 Q x3 h)
theorem L3den (Q : QT) (R3 : T3) (x3 : Int) (a7 : Pt) (n7 c7 : Nat) (e7 : Bool) (x8 x9 : Int) (h : AHeap) (ht : L3t Q R3 x3 a7 n7 c7 e7 x8 x9 h) : Den pg fn.ntmps (C [1, 1, 0, 1, 0, 0]) [(3, .int .i64 x3), (7, .slice a7 n7 c7 e7), (8, .int .i64 x8), (9, .int .i64 x9)] h (K3 Q R3) :=
  den_Den (kp := kp) (@cast _ (den pg fn.ntmps kp (C [1, 1, 0, 1, 0, 0]) [(3, .int .i64 x3), (7, .slice a7 n7 c7 e7), (8, .int .i64 x8), (9, .int .i64 x9)] h (K3 Q R3)) (by kernel_rfl) ht)
theorem L3ind (Q : QT) (a7 : Pt) (n7 c7 : Nat) (e7 : Bool) (x8 : Int) {G : Type} (J : G → Int → Int → AHeap → Prop) (m : G → Nat)
 (hr : ∀ (g : G) (x3 x9 : Int) (h : AHeap), J g x3 x9 h → ∀ (R3 : T3), (∀ g' (x3 x9 : Int) (h : AHeap), m g' < m g → J g' x3 x9 h → R3 x3 a7 n7 c7 e7 x8 x9 h) → L3t Q R3 x3 a7 n7 c7 e7 x8 x9 h)
 (g : G) (x3 x9 : Int) (h : AHeap) (hj : J g x3 x9 h) : L3 Q x3 a7 n7 c7 e7 x8 x9 h := by
  refine Loop.inv2 (fun g => E3 fun x3 a7' n7' c7' e7' x8' x9 h => a7 = a7' ∧ n7 = n7' ∧ c7 = c7' ∧ e7 = e7' ∧ x8 = x8' ∧ J g x3 x9 h) (fun g => E3 fun x3 a7' n7' c7' e7' x8' x9 h => a7 = a7' ∧ n7 = n7' ∧ c7 = c7' ∧ e7 = e7' ∧ x8 = x8' ∧ ∃ g', m g' < m g ∧ J g' x3 x9 h) m ?_ ?_ g ⟨rfl, rfl, rfl, rfl, rfl, hj⟩
  · intro g env h hi
    obtain ⟨x3, a7', n7', c7', e7', x8', x9, rfl, rfl, rfl, rfl, rfl, rfl, hj⟩ := E3elim hi
    exact L3den Q (fun x3 a7' n7' c7' e7' x8' x9 h => a7 = a7' ∧ n7 = n7' ∧ c7 = c7' ∧ e7 = e7' ∧ x8 = x8' ∧ ∃ g', m g' < m g ∧ J g' x3 x9 h) x3 a7 n7 c7 e7 x8 x9 h (hr g x3 x9 h hj (fun x3 a7' n7' c7' e7' x8' x9 h => a7 = a7' ∧ n7 = n7' ∧ c7 = c7' ∧ e7 = e7' ∧ x8 = x8' ∧ ∃ g', m g' < m g ∧ J g' x3 x9 h) fun g' x3 x9 h hlt hj => ⟨rfl, rfl, rfl, rfl, rfl, g', hlt, hj⟩)
  · intro g env h hi
    obtain ⟨x3, a7', n7', c7', e7', x8', x9, rfl, rfl, rfl, rfl, rfl, rfl, g', hlt, hj⟩ := E3elim hi
    exact ⟨g', hlt, rfl, rfl, rfl, rfl, rfl, hj⟩
theorem A3x0i (Q : QT) (x3 : Int) (h : AHeap) (ht :
 Q (.int .i64 x3) h) : A3x0 Q x3 h :=
  At.mk (@cast _ ((K1 Q) (.exit 0) [(3, .int .i64 x3)] h) (by kernel_rfl) ht)
theorem call (x0x0 : Int) (a0x1 : Pt) (n0x1 c0x1 : Nat) (e0x1 : Bool) (h : AHeap) (Q : QT) (ht :
 letH (h ++ [.cells t_spec_l1Node [.int .u8 x0x0, .slice a0x1 n0x1 c0x1 e0x1] false]) fun h_0 => xSl (hCell h_0 (.ptr (some (List.length h, 0 + 1)))) fun a_1 n_2 c_3 e_4 => L3 Q 1 a_1 n_2 c_3 e_4 (((n_2 : Nat) : Int)) 0 h_0) : SCall pg n_spec_l1Size [.agg [.int .u8 x0x0, .slice a0x1 n0x1 c0x1 e0x1]] h Q :=
  SCall.of_body kp (c := cod fn) (fn := fn) Go.Proofs.Try.func147 (by kernel_rfl) (by kernel_rfl) (Nat.le_of_ble_eq_true (by kernel_rfl))
    (@cast _ (den pg fn.ntmps kp (cod fn) (Env.args 0 [.agg [.int .u8 x0x0, .slice a0x1 n0x1 c0x1 e0x1]]) h (KR Q)) (by kernel_rfl) ht)
end F_spec_l1Size
/-! Function loop.example/instancesearch/spec.SizeOf -/
namespace F_spec_SizeOf
noncomputable abbrev fn : Func := Go.Proofs.Try.f110
def kp : Keeps := []
noncomputable def C (p : List Nat) : Code := (cod fn).sub p
def KR (Q : QT) : KT := retA pg fn.results.toList Q
theorem call (x0 : List Nat) (h : AHeap) (Q : QT) (ht :
 SCall pg n_spec_l1Read [.str x0] h fun v_0 h_1 =>
 xTup v_0 fun cs_2 => xCons cs_2 fun c_3 r_4 => xAgg c_3 fun cs_5 => xCons cs_5 fun c_6 r_7 => xInt .u8 (some c_6) fun x_8 => xCons r_7 fun c_9 r_10 => xSl (some c_9) fun a_11 n_12 c_13 e_14 => xNil r_10 (xCons r_4 fun c_15 r_16 => xBool (some c_15) fun b_17 => xNil r_16 (letH (h_1 ++ [.cells t_spec_l1Node [.int .u8 0, .slice none 0 0 true] false]) fun h_18 => xHeap (hStore h_18 (.ptr (some (List.length h_1, 0))) [.int .u8 x_8, .slice a_11 n_12 c_13 e_14]) fun h_19 => bcase (!b_17) (Q (.int .i64 (-1)) h_19) (xRow (hRow h_19 (.ptr (some (List.length h_1, 0))) 2) fun cs_20 => xCons cs_20 fun c_21 r_22 => xInt .u8 (some c_21) fun x_23 => xCons r_22 fun c_24 r_25 => xSl (some c_24) fun a_26 n_27 c_28 e_29 => xNil r_25 (SCall pg n_spec_l1Size [.agg [.int .u8 x_23, .slice a_26 n_27 c_28 e_29]] h_19 fun v_30 h_31 =>
 xInt .i64 (some v_30) fun x_32 => Q (.int .i64 x_32) h_31))))) : SCall pg n_spec_SizeOf [.str x0] h Q :=
  SCall.of_body kp (c := cod fn) (fn := fn) Go.Proofs.Try.func110 (by kernel_rfl) (by kernel_rfl) (Nat.le_of_ble_eq_true (by kernel_rfl))
    (@cast _ (den pg fn.ntmps kp (cod fn) (Env.args 0 [.str x0]) h (KR Q)) (by kernel_rfl) ht)
end F_spec_SizeOf
/-! Function loop.example/instancesearch/impl.smaller -/
namespace F_impl_smaller
noncomputable abbrev fn : Func := Go.Proofs.Try.f73
def kp : Keeps := [(3000002, [0, 1, 4]), (1000002, [0, 1, 8, 9, 10])]
noncomputable def C (p : List Nat) : Code := (cod fn).sub p
def KR (Q : QT) : KT := retA pg fn.results.toList Q
abbrev T2 := List Nat → List Nat → Pt → Nat → Nat → Bool → Int → Int → AHeap → Prop
def E2 (R2 : T2) (env : Env) (h : AHeap) : Prop := eVal 0 env fun v env => xStr (some v) fun x0 => eVal 1 env fun v env => xStr (some v) fun x1 => eVal 8 env fun v env => xSl (some v) fun a8 n8 c8 e8 => eVal 9 env fun v env => eInt .i64 v fun x9 => eVal 10 env fun v env => eInt .i64 v fun x10 => eNil env (R2 x0 x1 a8 n8 c8 e8 x9 x10 h)
theorem E2elim {R2 : T2} {env : Env} {h : AHeap} (hi : E2 R2 env h) : ∃ x0, ∃ x1, ∃ a8, ∃ n8, ∃ c8, ∃ e8, ∃ x9, ∃ x10, env = [(0, .str x0), (1, .str x1), (8, .slice a8 n8 c8 e8), (9, .int .i64 x9), (10, .int .i64 x10)] ∧ R2 x0 x1 a8 n8 c8 e8 x9 x10 h := by
  unfold E2 at hi
  have hi0 := hi
  clear hi
  obtain ⟨v, env, rfl, hi1⟩ := eVal_elim hi0
  obtain ⟨x0, rfl, hi2⟩ := xStr_elim hi1
  obtain ⟨v, env, rfl, hi3⟩ := eVal_elim hi2
  obtain ⟨x1, rfl, hi4⟩ := xStr_elim hi3
  obtain ⟨v, env, rfl, hi5⟩ := eVal_elim hi4
  obtain ⟨a8, n8, c8, e8, rfl, hi6⟩ := xSl_elim hi5
  obtain ⟨v, env, rfl, hi7⟩ := eVal_elim hi6
  obtain ⟨x9, rfl, hi8⟩ := eInt_elim hi7
  obtain ⟨v, env, rfl, hi9⟩ := eVal_elim hi8
  obtain ⟨x10, rfl, hi10⟩ := eInt_elim hi9
  obtain ⟨rfl, hi11⟩ := eNil_elim hi10
  have hi := hi11
  exact ⟨x0, x1, a8, n8, c8, e8, x9, x10, rfl, hi⟩
def K0 (Q : QT) : KT := andThen (fun env' h' => (match kp.find 4000007 with | some ks => Den pg fn.ntmps (C [1, 1]) (env'.keep ks) h' (KR Q) | none => den pg fn.ntmps kp (C [1, 1]) env' h' (KR Q))) (KR Q)
def K1 (Q : QT) : KT := onExit 0 (K0 Q)
def K2 (Q : QT) : KT := left kp 2 (K1 Q)
def K3 (Q : QT) (R2 : T2) : KT := rnd ((kp.find 1000002).getD []) (E2 R2) (K2 Q)
def L2 (Q : QT) (x0 x1 : List Nat) (a8 : Pt) (n8 c8 : Nat) (e8 : Bool) (x9 x10 : Int) (h : AHeap) : Prop := Loop (Den pg fn.ntmps (C [1, 0, 1, 0, 0])) ((kp.find 1000002).getD []) (K2 Q) [(0, .str x0), (1, .str x1), (8, .slice a8 n8 c8 e8), (9, .int .i64 x9), (10, .int .i64 x10)] h
def A2x0 (Q : QT) (x0 x1 : List Nat) (h : AHeap) : Prop := At (K1 Q) (.exit 0) [(0, .str x0), (1, .str x1), (4, .undef)] h
def L2t (Q : QT) (R2 : T2) (x0 x1 : List Nat) (a8 : Pt) (n8 c8 : Nat) (e8 : Bool) (x9 x10 : Int) (h : AHeap) : Prop :=
 bcase (decide ((x10 : Int) < x9)) ((0 ≤ (x10 : Int) ∧ (x10 : Int) < (n8 : Nat)) ∧ (xSome a8 fun i_6 o_7 => xStr (hCell h (.ptr (some (i_6, o_7 + (Int.toNat x10) * 1)))) fun s_8 => SCall pg n_impl_CountVar [.str x0, .str s_8] h fun v_9 h_10 =>
 xInt .i64 (some v_9) fun x_11 => SCall pg n_impl_CountVar [.str x1, .str s_8] h_10 fun v_12 h_13 =>
 xInt .i64 (some v_12) fun x_14 => bcase (decide ((x_11 : Int) > x_14)) (Q (.bool false) h_13) (R2 x0 x1 a8 n8 c8 e8 x9 (IntKind.wrap .i64 (x10 + 1)) h_13))) (A2x0 Q x0 x1 h)
theorem L2den (Q : QT) (R2 : T2) (x0 x1 : List Nat) (a8 : Pt) (n8 c8 : Nat) (e8 : Bool) (x9 x10 : Int) (h : AHeap) (ht : L2t Q R2 x0 x1 a8 n8 c8 e8 x9 x10 h) : Den pg fn.ntmps (C [1, 0, 1, 0, 0]) [(0, .str x0), (1, .str x1), (8, .slice a8 n8 c8 e8), (9, .int .i64 x9), (10, .int .i64 x10)] h (K3 Q R2) :=
  den_Den (kp := kp) (@cast _ (den pg fn.ntmps kp (C [1, 0, 1, 0, 0]) [(0, .str x0), (1, .str x1), (8, .slice a8 n8 c8 e8), (9, .int .i64 x9), (10, .int .i64 x10)] h (K3 Q R2)) (by kernel_rfl) ht)
theorem L2ind (Q : QT) (x0 x1 : List Nat) (a8 : Pt) (n8 c8 : Nat) (e8 : Bool) (x9 : Int) {G : Type} (J : G → Int → AHeap → Prop) (m : G → Nat)
 (hr : ∀ (g : G) (x10 : Int) (h : AHeap), J g x10 h → ∀ (R2 : T2), (∀ g' (x10 : Int) (h : AHeap), m g' < m g → J g' x10 h → R2 x0 x1 a8 n8 c8 e8 x9 x10 h) → L2t Q R2 x0 x1 a8 n8 c8 e8 x9 x10 h)
 (g : G) (x10 : Int) (h : AHeap) (hj : J g x10 h) : L2 Q x0 x1 a8 n8 c8 e8 x9 x10 h := by
  refine Loop.inv2 (fun g => E2 fun x0' x1' a8' n8' c8' e8' x9' x10 h => x0 = x0' ∧ x1 = x1' ∧ a8 = a8' ∧ n8 = n8' ∧ c8 = c8' ∧ e8 = e8' ∧ x9 = x9' ∧ J g x10 h) (fun g => E2 fun x0' x1' a8' n8' c8' e8' x9' x10 h => x0 = x0' ∧ x1 = x1' ∧ a8 = a8' ∧ n8 = n8' ∧ c8 = c8' ∧ e8 = e8' ∧ x9 = x9' ∧ ∃ g', m g' < m g ∧ J g' x10 h) m ?_ ?_ g ⟨rfl, rfl, rfl, rfl, rfl, rfl, rfl, hj⟩
  · intro g env h hi
    obtain ⟨x0', x1', a8', n8', c8', e8', x9', x10, rfl, rfl, rfl, rfl, rfl, rfl, rfl, rfl, hj⟩ := E2elim hi
    exact L2den Q (fun x0' x1' a8' n8' c8' e8' x9' x10 h => x0 = x0' ∧ x1 = x1' ∧ a8 = a8' ∧ n8 = n8' ∧ c8 = c8' ∧ e8 = e8' ∧ x9 = x9' ∧ ∃ g', m g' < m g ∧ J g' x10 h) x0 x1 a8 n8 c8 e8 x9 x10 h (hr g x10 h hj (fun x0' x1' a8' n8' c8' e8' x9' x10 h => x0 = x0' ∧ x1 = x1' ∧ a8 = a8' ∧ n8 = n8' ∧ c8 = c8' ∧ e8 = e8' ∧ x9 = x9' ∧ ∃ g', m g' < m g ∧ J g' x10 h) fun g' x10 h hlt hj => ⟨rfl, rfl, rfl, rfl, rfl, rfl, rfl, g', hlt, hj⟩)
  · intro g env h hi
    obtain ⟨x0', x1', a8', n8', c8', e8', x9', x10, rfl, rfl, rfl, rfl, rfl, rfl, rfl, rfl, g', hlt, hj⟩ := E2elim hi
    exact ⟨g', hlt, rfl, rfl, rfl, rfl, rfl, rfl, rfl, hj⟩
theorem A2x0i (Q : QT) (x0 x1 : List Nat) (h : AHeap) (ht :
 SCall pg n_impl_SizeOf [.str x0] h fun v_15 h_16 =>
 xInt .i64 (some v_15) fun x_17 => SCall pg n_impl_SizeOf [.str x1] h_16 fun v_18 h_19 =>
 xInt .i64 (some v_18) fun x_20 => Q (.bool (decide ((x_17 : Int) < x_20))) h_19) : A2x0 Q x0 x1 h :=
  At.mk (@cast _ ((K1 Q) (.exit 0) [(0, .str x0), (1, .str x1), (4, .undef)] h) (by kernel_rfl) ht)
theorem call (x0 x1 : List Nat) (h : AHeap) (Q : QT) (ht :
 SCall pg n_impl_vars [.str x0] h fun v_0 h_1 =>
 xSl (some v_0) fun a_2 n_3 c_4 e_5 => L2 Q x0 x1 a_2 n_3 c_4 e_5 (((n_3 : Nat) : Int)) 0 h_1) : SCall pg n_impl_smaller [.str x0, .str x1] h Q :=
  SCall.of_body kp (c := cod fn) (fn := fn) Go.Proofs.Try.func73 (by kernel_rfl) (by kernel_rfl) (Nat.le_of_ble_eq_true (by kernel_rfl))
    (@cast _ (den pg fn.ntmps kp (cod fn) (Env.args 0 [.str x0, .str x1]) h (KR Q)) (by kernel_rfl) ht)
end F_impl_smaller
/-! Function loop.example/instancesearch/spec.l8Smaller -/
namespace F_spec_l8Smaller
noncomputable abbrev fn : Func := Go.Proofs.Try.f71
def kp : Keeps := [(3000002, [3, 0, 4]), (1000002, [0, 3, 7, 8, 9])]
noncomputable def C (p : List Nat) : Code := (cod fn).sub p
def KR (Q : QT) : KT := retA pg fn.results.toList Q
abbrev T2 := List Nat → Nat → Nat → Pt → Nat → Nat → Bool → Int → Int → AHeap → Prop
def E2 (R2 : T2) (env : Env) (h : AHeap) : Prop := eVal 0 env fun v env => xStr (some v) fun x0 => eVal 3 env fun v env => xPtr (some v) fun a => xSome a fun i3 o3 => eVal 7 env fun v env => xSl (some v) fun a7 n7 c7 e7 => eVal 8 env fun v env => eInt .i64 v fun x8 => eVal 9 env fun v env => eInt .i64 v fun x9 => eNil env (R2 x0 i3 o3 a7 n7 c7 e7 x8 x9 h)
theorem E2elim {R2 : T2} {env : Env} {h : AHeap} (hi : E2 R2 env h) : ∃ x0, ∃ i3, ∃ o3, ∃ a7, ∃ n7, ∃ c7, ∃ e7, ∃ x8, ∃ x9, env = [(0, .str x0), (3, .ptr (some (i3, o3))), (7, .slice a7 n7 c7 e7), (8, .int .i64 x8), (9, .int .i64 x9)] ∧ R2 x0 i3 o3 a7 n7 c7 e7 x8 x9 h := by
  unfold E2 at hi
  have hi0 := hi
  clear hi
  obtain ⟨v, env, rfl, hi1⟩ := eVal_elim hi0
  obtain ⟨x0, rfl, hi2⟩ := xStr_elim hi1
  obtain ⟨v, env, rfl, hi3⟩ := eVal_elim hi2
  obtain ⟨a, rfl, hi4⟩ := xPtr_elim hi3
  obtain ⟨i3, o3, rfl, hi5⟩ := xSome_elim hi4
  obtain ⟨v, env, rfl, hi6⟩ := eVal_elim hi5
  obtain ⟨a7, n7, c7, e7, rfl, hi7⟩ := xSl_elim hi6
  obtain ⟨v, env, rfl, hi8⟩ := eVal_elim hi7
  obtain ⟨x8, rfl, hi9⟩ := eInt_elim hi8
  obtain ⟨v, env, rfl, hi10⟩ := eVal_elim hi9
  obtain ⟨x9, rfl, hi11⟩ := eInt_elim hi10
  obtain ⟨rfl, hi12⟩ := eNil_elim hi11
  have hi := hi12
  exact ⟨x0, i3, o3, a7, n7, c7, e7, x8, x9, rfl, hi⟩
def K0 (Q : QT) : KT := andThen (fun env' h' => (match kp.find 4000007 with | some ks => Den pg fn.ntmps (C [1, 1]) (env'.keep ks) h' (KR Q) | none => den pg fn.ntmps kp (C [1, 1]) env' h' (KR Q))) (KR Q)
def K1 (Q : QT) : KT := onExit 0 (K0 Q)
def K2 (Q : QT) : KT := left kp 2 (K1 Q)
def K3 (Q : QT) (R2 : T2) : KT := rnd ((kp.find 1000002).getD []) (E2 R2) (K2 Q)
def L2 (Q : QT) (x0 : List Nat) (i3 o3 : Nat) (a7 : Pt) (n7 c7 : Nat) (e7 : Bool) (x8 x9 : Int) (h : AHeap) : Prop := Loop (Den pg fn.ntmps (C [1, 0, 1, 0, 0])) ((kp.find 1000002).getD []) (K2 Q) [(0, .str x0), (3, .ptr (some (i3, o3))), (7, .slice a7 n7 c7 e7), (8, .int .i64 x8), (9, .int .i64 x9)] h
def A2x0 (Q : QT) (i3 o3 : Nat) (x0 : List Nat) (h : AHeap) : Prop := At (K1 Q) (.exit 0) [(3, .ptr (some (i3, o3))), (0, .str x0), (4, .undef)] h
def L2t (Q : QT) (R2 : T2) (x0 : List Nat) (i3 o3 : Nat) (a7 : Pt) (n7 c7 : Nat) (e7 : Bool) (x8 x9 : Int) (h : AHeap) : Prop :=
 bcase (decide ((x9 : Int) < x8)) ((0 ≤ (x9 : Int) ∧ (x9 : Int) < (n7 : Nat)) ∧ (xSome a7 fun i_2 o_3 => xStr (hCell h (.ptr (some (i_2, o_3 + (Int.toNat x9) * 1)))) fun s_4 => xStr (hCell h (.ptr (some (i3, o3 + 1)))) fun s_5 => SCall pg n_spec_CountVar [.str s_5, .str s_4] h fun v_6 h_7 =>
 xInt .i64 (some v_6) fun x_8 => SCall pg n_spec_CountVar [.str x0, .str s_4] h_7 fun v_9 h_10 =>
 xInt .i64 (some v_9) fun x_11 => bcase (decide ((x_8 : Int) > x_11)) (Q (.bool false) h_10) (R2 x0 i3 o3 a7 n7 c7 e7 x8 (IntKind.wrap .i64 (x9 + 1)) h_10))) (A2x0 Q i3 o3 x0 h)
theorem L2den (Q : QT) (R2 : T2) (x0 : List Nat) (i3 o3 : Nat) (a7 : Pt) (n7 c7 : Nat) (e7 : Bool) (x8 x9 : Int) (h : AHeap) (ht : L2t Q R2 x0 i3 o3 a7 n7 c7 e7 x8 x9 h) : Den pg fn.ntmps (C [1, 0, 1, 0, 0]) [(0, .str x0), (3, .ptr (some (i3, o3))), (7, .slice a7 n7 c7 e7), (8, .int .i64 x8), (9, .int .i64 x9)] h (K3 Q R2) :=
  den_Den (kp := kp) (@cast _ (den pg fn.ntmps kp (C [1, 0, 1, 0, 0]) [(0, .str x0), (3, .ptr (some (i3, o3))), (7, .slice a7 n7 c7 e7), (8, .int .i64 x8), (9, .int .i64 x9)] h (K3 Q R2)) (by kernel_rfl) ht)
theorem L2ind (Q : QT) (x0 : List Nat) (i3 o3 : Nat) (a7 : Pt) (n7 c7 : Nat) (e7 : Bool) (x8 : Int) {G : Type} (J : G → Int → AHeap → Prop) (m : G → Nat)
 (hr : ∀ (g : G) (x9 : Int) (h : AHeap), J g x9 h → ∀ (R2 : T2), (∀ g' (x9 : Int) (h : AHeap), m g' < m g → J g' x9 h → R2 x0 i3 o3 a7 n7 c7 e7 x8 x9 h) → L2t Q R2 x0 i3 o3 a7 n7 c7 e7 x8 x9 h)
 (g : G) (x9 : Int) (h : AHeap) (hj : J g x9 h) : L2 Q x0 i3 o3 a7 n7 c7 e7 x8 x9 h := by
  refine Loop.inv2 (fun g => E2 fun x0' i3' o3' a7' n7' c7' e7' x8' x9 h => x0 = x0' ∧ i3 = i3' ∧ o3 = o3' ∧ a7 = a7' ∧ n7 = n7' ∧ c7 = c7' ∧ e7 = e7' ∧ x8 = x8' ∧ J g x9 h) (fun g => E2 fun x0' i3' o3' a7' n7' c7' e7' x8' x9 h => x0 = x0' ∧ i3 = i3' ∧ o3 = o3' ∧ a7 = a7' ∧ n7 = n7' ∧ c7 = c7' ∧ e7 = e7' ∧ x8 = x8' ∧ ∃ g', m g' < m g ∧ J g' x9 h) m ?_ ?_ g ⟨rfl, rfl, rfl, rfl, rfl, rfl, rfl, rfl, hj⟩
  · intro g env h hi
    obtain ⟨x0', i3', o3', a7', n7', c7', e7', x8', x9, rfl, rfl, rfl, rfl, rfl, rfl, rfl, rfl, rfl, hj⟩ := E2elim hi
    exact L2den Q (fun x0' i3' o3' a7' n7' c7' e7' x8' x9 h => x0 = x0' ∧ i3 = i3' ∧ o3 = o3' ∧ a7 = a7' ∧ n7 = n7' ∧ c7 = c7' ∧ e7 = e7' ∧ x8 = x8' ∧ ∃ g', m g' < m g ∧ J g' x9 h) x0 i3 o3 a7 n7 c7 e7 x8 x9 h (hr g x9 h hj (fun x0' i3' o3' a7' n7' c7' e7' x8' x9 h => x0 = x0' ∧ i3 = i3' ∧ o3 = o3' ∧ a7 = a7' ∧ n7 = n7' ∧ c7 = c7' ∧ e7 = e7' ∧ x8 = x8' ∧ ∃ g', m g' < m g ∧ J g' x9 h) fun g' x9 h hlt hj => ⟨rfl, rfl, rfl, rfl, rfl, rfl, rfl, rfl, g', hlt, hj⟩)
  · intro g env h hi
    obtain ⟨x0', i3', o3', a7', n7', c7', e7', x8', x9, rfl, rfl, rfl, rfl, rfl, rfl, rfl, rfl, rfl, g', hlt, hj⟩ := E2elim hi
    exact ⟨g', hlt, rfl, rfl, rfl, rfl, rfl, rfl, rfl, rfl, hj⟩
theorem A2x0i (Q : QT) (i3 o3 : Nat) (x0 : List Nat) (h : AHeap) (ht :
 xStr (hCell h (.ptr (some (i3, o3 + 1)))) fun s_12 => SCall pg n_spec_SizeOf [.str s_12] h fun v_13 h_14 =>
 xInt .i64 (some v_13) fun x_15 => SCall pg n_spec_SizeOf [.str x0] h_14 fun v_16 h_17 =>
 xInt .i64 (some v_16) fun x_18 => Q (.bool (decide ((x_15 : Int) < x_18))) h_17) : A2x0 Q i3 o3 x0 h :=
  At.mk (@cast _ ((K1 Q) (.exit 0) [(3, .ptr (some (i3, o3))), (0, .str x0), (4, .undef)] h) (by kernel_rfl) ht)
theorem call (x0 x1x0 x1x1 : List Nat) (h : AHeap) (Q : QT) (ht :
 letH (h ++ [.cells t_impl_Need [.str x1x0, .str x1x1] false]) fun h_0 => letH (h_0 ++ [.cells t_string [.str [88], .str [89], .str [90], .str [120], .str [121], .str [122]] false]) fun h_1 => L2 Q x0 (List.length h) 0 (some (List.length h_0, 0)) 6 6 true (((6 : Nat) : Int)) 0 h_1) : SCall pg n_spec_l8Smaller [.str x0, .agg [.str x1x0, .str x1x1]] h Q :=
  SCall.of_body kp (c := cod fn) (fn := fn) Go.Proofs.Try.func71 (by kernel_rfl) (by kernel_rfl) (Nat.le_of_ble_eq_true (by kernel_rfl))
    (@cast _ (den pg fn.ntmps kp (cod fn) (Env.args 0 [.str x0, .agg [.str x1x0, .str x1x1]]) h (KR Q)) (by kernel_rfl) ht)
end F_spec_l8Smaller
end Go.Sim
