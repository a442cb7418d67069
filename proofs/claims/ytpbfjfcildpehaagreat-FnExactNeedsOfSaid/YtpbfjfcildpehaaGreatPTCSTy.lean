/- A part of the proof of a statement of this seat: see the text that holds the theorem. No condition. -/
import Derived.Test.YtpbfjfcildpehaaGreatNm
set_option linter.unusedVariables false
set_option linter.unusedSimpArgs false
set_option linter.all false
/- Printed by wip/tool: what the functions' bodies do, in the words of 'den'. -/
set_option maxRecDepth 100000
set_option linter.unusedVariables false
namespace Go.Sim
open Go Go.RowKit
/-! Function loop.example/instancesearch/impl.known$1 -/
namespace F_impl_known_lit1
noncomputable abbrev fn : Func := Go.Proofs.Tryz.f121
def kp : Keeps := []
noncomputable def C (p : List Nat) : Code := (cod fn).sub p
def KR (Q : QT) : KT := retA pg fn.results.toList Q
theorem call (x0x0 x0x1 : List Nat) (v1 : AVal) (h : AHeap) (Q : QT) (ht :
 letH (h ++ [.cells t_impl_Class [.str x0x0, .str x0x1] false]) fun h_0 => xStr (hCell h_0 (.ptr (some (List.length h, 0 + 0)))) fun s_1 => xStr (hCell h_0 (v1)) fun s_2 => Q (.bool (decide (s_1 = s_2))) h_0) : SCall pg n_impl_known_lit1 [.agg [.str x0x0, .str x0x1], v1] h Q :=
  SCall.of_body kp (c := cod fn) (fn := fn) Go.Proofs.Tryz.func121 (by kernel_rfl) (by kernel_rfl) (Nat.le_of_ble_eq_true (by kernel_rfl))
    (@cast _ (den pg fn.ntmps kp (cod fn) (Env.args 0 [.agg [.str x0x0, .str x0x1], v1]) h (KR Q)) (by kernel_rfl) ht)
end F_impl_known_lit1
/-! Function slices.IndexFunc[[]loop.example/instancesearch/impl.Class,loop.example/instancesearch/impl.Class] -/
namespace F_slices_IndexFunc_L_impl_Class_impl_Class__impl_known_lit1
noncomputable abbrev fn : Func := Go.Proofs.Tryz.f136
def kp : Keeps := [(3000002, [4]), (1000002, [0, 1, 7, 8])]
noncomputable def C (p : List Nat) : Code := (cod fn).sub p
def KR (Q : QT) : KT := retA pg fn.results.toList Q
abbrev T2 := Pt → Nat → Nat → Bool → AVal → Int → Int → AHeap → Prop
def E2 (R2 : T2) (env : Env) (h : AHeap) : Prop := eVal 0 env fun v env => xSl (some v) fun a0 n0 c0 e0 => eVal 1 env fun v env => eFn n_impl_known_lit1 v fun cs => xCons cs fun c cs' => xAny (some c) fun v1x0 => xNil cs' (eVal 7 env fun v env => eInt .i64 v fun x7 => eVal 8 env fun v env => eInt .i64 v fun x8 => eNil env (R2 a0 n0 c0 e0 v1x0 x7 x8 h))
theorem E2elim {R2 : T2} {env : Env} {h : AHeap} (hi : E2 R2 env h) : ∃ a0, ∃ n0, ∃ c0, ∃ e0, ∃ v1x0, ∃ x7, ∃ x8, env = [(0, .slice a0 n0 c0 e0), (1, .fn n_impl_known_lit1 [v1x0]), (7, .int .i64 x7), (8, .int .i64 x8)] ∧ R2 a0 n0 c0 e0 v1x0 x7 x8 h := by
  unfold E2 at hi
  have hi0 := hi
  clear hi
  obtain ⟨v, env, rfl, hi1⟩ := eVal_elim hi0
  obtain ⟨a0, n0, c0, e0, rfl, hi2⟩ := xSl_elim hi1
  obtain ⟨v, env, rfl, hi3⟩ := eVal_elim hi2
  obtain ⟨cs, rfl, hi4⟩ := eFn_elim hi3
  obtain ⟨c, cs', rfl, hi5⟩ := xCons_elim hi4
  obtain ⟨v1x0, hx, hi6⟩ := xAny_elim hi5
  replace hx := (Option.some.inj hx).symm
  subst hx
  obtain ⟨rfl, hi7⟩ := xNil_elim hi6
  obtain ⟨v, env, rfl, hi8⟩ := eVal_elim hi7
  obtain ⟨x7, rfl, hi9⟩ := eInt_elim hi8
  obtain ⟨v, env, rfl, hi10⟩ := eVal_elim hi9
  obtain ⟨x8, rfl, hi11⟩ := eInt_elim hi10
  obtain ⟨rfl, hi12⟩ := eNil_elim hi11
  have hi := hi12
  exact ⟨a0, n0, c0, e0, v1x0, x7, x8, rfl, hi⟩
def K0 (Q : QT) : KT := andThen (fun env' h' => (match kp.find 4000007 with | some ks => Den pg fn.ntmps (C [1, 1]) (env'.keep ks) h' (KR Q) | none => den pg fn.ntmps kp (C [1, 1]) env' h' (KR Q))) (KR Q)
def K1 (Q : QT) : KT := onExit 0 (K0 Q)
def K2 (Q : QT) : KT := left kp 2 (K1 Q)
def K3 (Q : QT) (R2 : T2) : KT := rnd ((kp.find 1000002).getD []) (E2 R2) (K2 Q)
def L2 (Q : QT) (a0 : Pt) (n0 c0 : Nat) (e0 : Bool) (v1x0 : AVal) (x7 x8 : Int) (h : AHeap) : Prop := Loop (Den pg fn.ntmps (C [1, 0, 1, 0, 0])) ((kp.find 1000002).getD []) (K2 Q) [(0, .slice a0 n0 c0 e0), (1, .fn n_impl_known_lit1 [v1x0]), (7, .int .i64 x7), (8, .int .i64 x8)] h
def A2x0 (Q : QT) (h : AHeap) : Prop := At (K1 Q) (.exit 0) [(4, .undef)] h
def L2t (Q : QT) (R2 : T2) (a0 : Pt) (n0 c0 : Nat) (e0 : Bool) (v1x0 : AVal) (x7 x8 : Int) (h : AHeap) : Prop :=
 bcase (decide ((x8 : Int) < x7)) ((0 ≤ (x8 : Int) ∧ (x8 : Int) < (n0 : Nat)) ∧ (xSome a0 fun i_0 o_1 => xRow (hRow h (.ptr (some (i_0, o_1 + (Int.toNat x8) * 2))) 2) fun cs_2 => xCons cs_2 fun c_3 r_4 => xStr (some c_3) fun s_5 => xCons r_4 fun c_6 r_7 => xStr (some c_6) fun s_8 => xNil r_7 (SCall pg n_impl_known_lit1 [.agg [.str s_5, .str s_8], v1x0] h fun v_9 h_10 =>
 xBool (some v_9) fun b_11 => bcase b_11 (Q (.int .i64 x8) h_10) (R2 a0 n0 c0 e0 v1x0 x7 (IntKind.wrap .i64 (x8 + 1)) h_10)))) (A2x0 Q h)
theorem L2den (Q : QT) (R2 : T2) (a0 : Pt) (n0 c0 : Nat) (e0 : Bool) (v1x0 : AVal) (x7 x8 : Int) (h : AHeap) (ht : L2t Q R2 a0 n0 c0 e0 v1x0 x7 x8 h) : Den pg fn.ntmps (C [1, 0, 1, 0, 0]) [(0, .slice a0 n0 c0 e0), (1, .fn n_impl_known_lit1 [v1x0]), (7, .int .i64 x7), (8, .int .i64 x8)] h (K3 Q R2) :=
  den_Den (kp := kp) (@cast _ (den pg fn.ntmps kp (C [1, 0, 1, 0, 0]) [(0, .slice a0 n0 c0 e0), (1, .fn n_impl_known_lit1 [v1x0]), (7, .int .i64 x7), (8, .int .i64 x8)] h (K3 Q R2)) (by kernel_rfl) ht)
theorem L2ind (Q : QT) (a0 : Pt) (n0 c0 : Nat) (e0 : Bool) (v1x0 : AVal) (x7 : Int) {G : Type} (J : G → Int → AHeap → Prop) (m : G → Nat)
 (hr : ∀ (g : G) (x8 : Int) (h : AHeap), J g x8 h → ∀ (R2 : T2), (∀ g' (x8 : Int) (h : AHeap), m g' < m g → J g' x8 h → R2 a0 n0 c0 e0 v1x0 x7 x8 h) → L2t Q R2 a0 n0 c0 e0 v1x0 x7 x8 h)
 (g : G) (x8 : Int) (h : AHeap) (hj : J g x8 h) : L2 Q a0 n0 c0 e0 v1x0 x7 x8 h := by
  refine Loop.inv2 (fun g => E2 fun a0' n0' c0' e0' v1x0' x7' x8 h => a0 = a0' ∧ n0 = n0' ∧ c0 = c0' ∧ e0 = e0' ∧ v1x0 = v1x0' ∧ x7 = x7' ∧ J g x8 h) (fun g => E2 fun a0' n0' c0' e0' v1x0' x7' x8 h => a0 = a0' ∧ n0 = n0' ∧ c0 = c0' ∧ e0 = e0' ∧ v1x0 = v1x0' ∧ x7 = x7' ∧ ∃ g', m g' < m g ∧ J g' x8 h) m ?_ ?_ g ⟨rfl, rfl, rfl, rfl, rfl, rfl, hj⟩
  · intro g env h hi
    obtain ⟨a0', n0', c0', e0', v1x0', x7', x8, rfl, rfl, rfl, rfl, rfl, rfl, rfl, hj⟩ := E2elim hi
    exact L2den Q (fun a0' n0' c0' e0' v1x0' x7' x8 h => a0 = a0' ∧ n0 = n0' ∧ c0 = c0' ∧ e0 = e0' ∧ v1x0 = v1x0' ∧ x7 = x7' ∧ ∃ g', m g' < m g ∧ J g' x8 h) a0 n0 c0 e0 v1x0 x7 x8 h (hr g x8 h hj (fun a0' n0' c0' e0' v1x0' x7' x8 h => a0 = a0' ∧ n0 = n0' ∧ c0 = c0' ∧ e0 = e0' ∧ v1x0 = v1x0' ∧ x7 = x7' ∧ ∃ g', m g' < m g ∧ J g' x8 h) fun g' x8 h hlt hj => ⟨rfl, rfl, rfl, rfl, rfl, rfl, g', hlt, hj⟩)
  · intro g env h hi
    obtain ⟨a0', n0', c0', e0', v1x0', x7', x8, rfl, rfl, rfl, rfl, rfl, rfl, rfl, g', hlt, hj⟩ := E2elim hi
    exact ⟨g', hlt, rfl, rfl, rfl, rfl, rfl, rfl, hj⟩
theorem A2x0i (Q : QT) (h : AHeap) (ht :
 Q (.int .i64 (-1)) h) : A2x0 Q h :=
  At.mk (@cast _ ((K1 Q) (.exit 0) [(4, .undef)] h) (by kernel_rfl) ht)
theorem call (a0 : Pt) (n0 c0 : Nat) (e0 : Bool) (v1x0 : AVal) (h : AHeap) (Q : QT) (ht :
 L2 Q a0 n0 c0 e0 v1x0 (((n0 : Nat) : Int)) 0 h) : SCall pg n_slices_IndexFunc_L_impl_Class_impl_Class [.slice a0 n0 c0 e0, .fn n_impl_known_lit1 [v1x0]] h Q :=
  SCall.of_body kp (c := cod fn) (fn := fn) Go.Proofs.Tryz.func136 (by kernel_rfl) (by kernel_rfl) (Nat.le_of_ble_eq_true (by kernel_rfl))
    (@cast _ (den pg fn.ntmps kp (cod fn) (Env.args 0 [.slice a0 n0 c0 e0, .fn n_impl_known_lit1 [v1x0]]) h (KR Q)) (by kernel_rfl) ht)
end F_slices_IndexFunc_L_impl_Class_impl_Class__impl_known_lit1
/-! Function loop.example/instancesearch/impl.known -/
namespace F_impl_known
noncomputable abbrev fn : Func := Go.Proofs.Tryz.f87
def kp : Keeps := []
noncomputable def C (p : List Nat) : Code := (cod fn).sub p
def KR (Q : QT) : KT := retA pg fn.results.toList Q
theorem call (a0 : Pt) (n0 c0 : Nat) (e0 : Bool) (x1 : List Nat) (h : AHeap) (Q : QT) (ht :
 letH (h ++ [.cells t_string [.str x1] false]) fun h_0 => SCall pg n_slices_ContainsFunc_L_impl_Class_impl_Class [.slice a0 n0 c0 e0, .fn n_impl_known_lit1 [.ptr (some (List.length h, 0))]] h_0 fun v_1 h_2 =>
 xBool (some v_1) fun b_3 => Q (.bool b_3) h_2) : SCall pg n_impl_known [.slice a0 n0 c0 e0, .str x1] h Q :=
  SCall.of_body kp (c := cod fn) (fn := fn) Go.Proofs.Tryz.func87 (by kernel_rfl) (by kernel_rfl) (Nat.le_of_ble_eq_true (by kernel_rfl))
    (@cast _ (den pg fn.ntmps kp (cod fn) (Env.args 0 [.slice a0 n0 c0 e0, .str x1]) h (KR Q)) (by kernel_rfl) ht)
end F_impl_known
/-! Function slices.ContainsFunc[[]loop.example/instancesearch/impl.Class,loop.example/instancesearch/impl.Class] -/
namespace F_slices_ContainsFunc_L_impl_Class_impl_Class__impl_known_lit1
noncomputable abbrev fn : Func := Go.Proofs.Tryz.f120
def kp : Keeps := []
noncomputable def C (p : List Nat) : Code := (cod fn).sub p
def KR (Q : QT) : KT := retA pg fn.results.toList Q
theorem call (a0 : Pt) (n0 c0 : Nat) (e0 : Bool) (v1x0 : AVal) (h : AHeap) (Q : QT) (ht :
 SCall pg n_slices_IndexFunc_L_impl_Class_impl_Class [.slice a0 n0 c0 e0, .fn n_impl_known_lit1 [v1x0]] h fun v_0 h_1 =>
 xInt .i64 (some v_0) fun x_2 => Q (.bool (decide ((x_2 : Int) ≥ 0))) h_1) : SCall pg n_slices_ContainsFunc_L_impl_Class_impl_Class [.slice a0 n0 c0 e0, .fn n_impl_known_lit1 [v1x0]] h Q :=
  SCall.of_body kp (c := cod fn) (fn := fn) Go.Proofs.Tryz.func120 (by kernel_rfl) (by kernel_rfl) (Nat.le_of_ble_eq_true (by kernel_rfl))
    (@cast _ (den pg fn.ntmps kp (cod fn) (Env.args 0 [.slice a0 n0 c0 e0, .fn n_impl_known_lit1 [v1x0]]) h (KR Q)) (by kernel_rfl) ht)
end F_slices_ContainsFunc_L_impl_Class_impl_Class__impl_known_lit1
/-! Function loop.example/instancesearch/spec.l3Class -/
namespace F_spec_l3Class
noncomputable abbrev fn : Func := Go.Proofs.Tryz.f94
def kp : Keeps := [(3000002, [4]), (1000002, [1, 8, 9, 10])]
noncomputable def C (p : List Nat) : Code := (cod fn).sub p
def KR (Q : QT) : KT := retA pg fn.results.toList Q
abbrev T2 := List Nat → Pt → Nat → Nat → Bool → Int → Int → AHeap → Prop
def E2 (R2 : T2) (env : Env) (h : AHeap) : Prop := eVal 1 env fun v env => xStr (some v) fun x1 => eVal 8 env fun v env => xSl (some v) fun a8 n8 c8 e8 => eVal 9 env fun v env => eInt .i64 v fun x9 => eVal 10 env fun v env => eInt .i64 v fun x10 => eNil env (R2 x1 a8 n8 c8 e8 x9 x10 h)
theorem E2elim {R2 : T2} {env : Env} {h : AHeap} (hi : E2 R2 env h) : ∃ x1, ∃ a8, ∃ n8, ∃ c8, ∃ e8, ∃ x9, ∃ x10, env = [(1, .str x1), (8, .slice a8 n8 c8 e8), (9, .int .i64 x9), (10, .int .i64 x10)] ∧ R2 x1 a8 n8 c8 e8 x9 x10 h := by
  unfold E2 at hi
  have hi0 := hi
  clear hi
  obtain ⟨v, env, rfl, hi1⟩ := eVal_elim hi0
  obtain ⟨x1, rfl, hi2⟩ := xStr_elim hi1
  obtain ⟨v, env, rfl, hi3⟩ := eVal_elim hi2
  obtain ⟨a8, n8, c8, e8, rfl, hi4⟩ := xSl_elim hi3
  obtain ⟨v, env, rfl, hi5⟩ := eVal_elim hi4
  obtain ⟨x9, rfl, hi6⟩ := eInt_elim hi5
  obtain ⟨v, env, rfl, hi7⟩ := eVal_elim hi6
  obtain ⟨x10, rfl, hi8⟩ := eInt_elim hi7
  obtain ⟨rfl, hi9⟩ := eNil_elim hi8
  have hi := hi9
  exact ⟨x1, a8, n8, c8, e8, x9, x10, rfl, hi⟩
def K0 (Q : QT) : KT := andThen (fun env' h' => (match kp.find 4000007 with | some ks => Den pg fn.ntmps (C [1, 1]) (env'.keep ks) h' (KR Q) | none => den pg fn.ntmps kp (C [1, 1]) env' h' (KR Q))) (KR Q)
def K1 (Q : QT) : KT := onExit 0 (K0 Q)
def K2 (Q : QT) : KT := left kp 2 (K1 Q)
def K3 (Q : QT) (R2 : T2) : KT := rnd ((kp.find 1000002).getD []) (E2 R2) (K2 Q)
def L2 (Q : QT) (x1 : List Nat) (a8 : Pt) (n8 c8 : Nat) (e8 : Bool) (x9 x10 : Int) (h : AHeap) : Prop := Loop (Den pg fn.ntmps (C [1, 0, 1, 0, 0])) ((kp.find 1000002).getD []) (K2 Q) [(1, .str x1), (8, .slice a8 n8 c8 e8), (9, .int .i64 x9), (10, .int .i64 x10)] h
def A2x0 (Q : QT) (h : AHeap) : Prop := At (K1 Q) (.exit 0) [(4, .undef)] h
def L2t (Q : QT) (R2 : T2) (x1 : List Nat) (a8 : Pt) (n8 c8 : Nat) (e8 : Bool) (x9 x10 : Int) (h : AHeap) : Prop :=
 bcase (decide ((x10 : Int) < x9)) ((0 ≤ (x10 : Int) ∧ (x10 : Int) < (n8 : Nat)) ∧ (xSome a8 fun i_5 o_6 => xRow (hRow h (.ptr (some (i_5, o_6 + (Int.toNat x10) * 2))) 2) fun cs_7 => xCons cs_7 fun c_8 r_9 => xStr (some c_8) fun s_10 => xCons r_9 fun c_11 r_12 => xStr (some c_11) fun s_13 => xNil r_12 (letH (h ++ [.cells t_impl_Class [.str [], .str []] false]) fun h_14 => xHeap (hStore h_14 (.ptr (some (List.length h, 0))) [.str s_10, .str s_13]) fun h_15 => xStr (hCell h_15 (.ptr (some (List.length h, 0 + 0)))) fun s_16 => bcase (decide (s_16 = x1)) (Q (.int .i64 x10) h_15) (R2 x1 a8 n8 c8 e8 x9 (IntKind.wrap .i64 (x10 + 1)) h_15)))) (A2x0 Q h)
theorem L2den (Q : QT) (R2 : T2) (x1 : List Nat) (a8 : Pt) (n8 c8 : Nat) (e8 : Bool) (x9 x10 : Int) (h : AHeap) (ht : L2t Q R2 x1 a8 n8 c8 e8 x9 x10 h) : Den pg fn.ntmps (C [1, 0, 1, 0, 0]) [(1, .str x1), (8, .slice a8 n8 c8 e8), (9, .int .i64 x9), (10, .int .i64 x10)] h (K3 Q R2) :=
  den_Den (kp := kp) (@cast _ (den pg fn.ntmps kp (C [1, 0, 1, 0, 0]) [(1, .str x1), (8, .slice a8 n8 c8 e8), (9, .int .i64 x9), (10, .int .i64 x10)] h (K3 Q R2)) (by kernel_rfl) ht)
theorem L2ind (Q : QT) (x1 : List Nat) (a8 : Pt) (n8 c8 : Nat) (e8 : Bool) (x9 : Int) {G : Type} (J : G → Int → AHeap → Prop) (m : G → Nat)
 (hr : ∀ (g : G) (x10 : Int) (h : AHeap), J g x10 h → ∀ (R2 : T2), (∀ g' (x10 : Int) (h : AHeap), m g' < m g → J g' x10 h → R2 x1 a8 n8 c8 e8 x9 x10 h) → L2t Q R2 x1 a8 n8 c8 e8 x9 x10 h)
 (g : G) (x10 : Int) (h : AHeap) (hj : J g x10 h) : L2 Q x1 a8 n8 c8 e8 x9 x10 h := by
  refine Loop.inv2 (fun g => E2 fun x1' a8' n8' c8' e8' x9' x10 h => x1 = x1' ∧ a8 = a8' ∧ n8 = n8' ∧ c8 = c8' ∧ e8 = e8' ∧ x9 = x9' ∧ J g x10 h) (fun g => E2 fun x1' a8' n8' c8' e8' x9' x10 h => x1 = x1' ∧ a8 = a8' ∧ n8 = n8' ∧ c8 = c8' ∧ e8 = e8' ∧ x9 = x9' ∧ ∃ g', m g' < m g ∧ J g' x10 h) m ?_ ?_ g ⟨rfl, rfl, rfl, rfl, rfl, rfl, hj⟩
  · intro g env h hi
    obtain ⟨x1', a8', n8', c8', e8', x9', x10, rfl, rfl, rfl, rfl, rfl, rfl, rfl, hj⟩ := E2elim hi
    exact L2den Q (fun x1' a8' n8' c8' e8' x9' x10 h => x1 = x1' ∧ a8 = a8' ∧ n8 = n8' ∧ c8 = c8' ∧ e8 = e8' ∧ x9 = x9' ∧ ∃ g', m g' < m g ∧ J g' x10 h) x1 a8 n8 c8 e8 x9 x10 h (hr g x10 h hj (fun x1' a8' n8' c8' e8' x9' x10 h => x1 = x1' ∧ a8 = a8' ∧ n8 = n8' ∧ c8 = c8' ∧ e8 = e8' ∧ x9 = x9' ∧ ∃ g', m g' < m g ∧ J g' x10 h) fun g' x10 h hlt hj => ⟨rfl, rfl, rfl, rfl, rfl, rfl, g', hlt, hj⟩)
  · intro g env h hi
    obtain ⟨x1', a8', n8', c8', e8', x9', x10, rfl, rfl, rfl, rfl, rfl, rfl, rfl, g', hlt, hj⟩ := E2elim hi
    exact ⟨g', hlt, rfl, rfl, rfl, rfl, rfl, rfl, hj⟩
theorem A2x0i (Q : QT) (h : AHeap) (ht :
 Q (.int .i64 (-1)) h) : A2x0 Q h :=
  At.mk (@cast _ ((K1 Q) (.exit 0) [(4, .undef)] h) (by kernel_rfl) ht)
theorem call (a0x0 : Pt) (n0x0 c0x0 : Nat) (e0x0 : Bool) (a0x1 : Pt) (n0x1 c0x1 : Nat) (e0x1 : Bool) (x1 : List Nat) (h : AHeap) (Q : QT) (ht :
 letH (h ++ [.cells t_impl_World [.slice a0x0 n0x0 c0x0 e0x0, .slice a0x1 n0x1 c0x1 e0x1] false]) fun h_0 => xSl (hCell h_0 (.ptr (some (List.length h, 0 + 0)))) fun a_1 n_2 c_3 e_4 => L2 Q x1 a_1 n_2 c_3 e_4 (((n_2 : Nat) : Int)) 0 h_0) : SCall pg n_spec_l3Class [.agg [.slice a0x0 n0x0 c0x0 e0x0, .slice a0x1 n0x1 c0x1 e0x1], .str x1] h Q :=
  SCall.of_body kp (c := cod fn) (fn := fn) Go.Proofs.Tryz.func94 (by kernel_rfl) (by kernel_rfl) (Nat.le_of_ble_eq_true (by kernel_rfl))
    (@cast _ (den pg fn.ntmps kp (cod fn) (Env.args 0 [.agg [.slice a0x0 n0x0 c0x0 e0x0, .slice a0x1 n0x1 c0x1 e0x1], .str x1]) h (KR Q)) (by kernel_rfl) ht)
end F_spec_l3Class
/-! Function loop.example/instancesearch/impl.classesOk -/
namespace F_impl_classesOk
noncomputable abbrev fn : Func := Go.Proofs.Tryz.f62
def kp : Keeps := [(3000002, [1, 2]), (1000002, [1, 7, 8, 9]), (2000004, [33, 4, 1, 3, 7, 8, 9]), (4000006, [4, 1, 3, 7, 8, 9]), (3000007, [9, 8, 7, 1, 2]), (1000007, [1, 3, 4, 7, 8, 9, 36, 37]), (2000009, [67, 37, 36, 1, 3, 4, 9, 8, 7]), (4000011, [37, 36, 1, 3, 4, 9, 8, 7]), (4000012, [9, 8, 7, 1])]
noncomputable def C (p : List Nat) : Code := (cod fn).sub p
def KR (Q : QT) : KT := retA pg fn.results.toList Q
abbrev T2 := Nat → Nat → Pt → Nat → Nat → Bool → Int → Int → AHeap → Prop
def E2 (R2 : T2) (env : Env) (h : AHeap) : Prop := eVal 1 env fun v env => xPtr (some v) fun a => xSome a fun i1 o1 => eVal 7 env fun v env => xSl (some v) fun a7 n7 c7 e7 => eVal 8 env fun v env => eInt .i64 v fun x8 => eVal 9 env fun v env => eInt .i64 v fun x9 => eNil env (R2 i1 o1 a7 n7 c7 e7 x8 x9 h)
theorem E2elim {R2 : T2} {env : Env} {h : AHeap} (hi : E2 R2 env h) : ∃ i1, ∃ o1, ∃ a7, ∃ n7, ∃ c7, ∃ e7, ∃ x8, ∃ x9, env = [(1, .ptr (some (i1, o1))), (7, .slice a7 n7 c7 e7), (8, .int .i64 x8), (9, .int .i64 x9)] ∧ R2 i1 o1 a7 n7 c7 e7 x8 x9 h := by
  unfold E2 at hi
  have hi0 := hi
  clear hi
  obtain ⟨v, env, rfl, hi1⟩ := eVal_elim hi0
  obtain ⟨a, rfl, hi2⟩ := xPtr_elim hi1
  obtain ⟨i1, o1, rfl, hi3⟩ := xSome_elim hi2
  obtain ⟨v, env, rfl, hi4⟩ := eVal_elim hi3
  obtain ⟨a7, n7, c7, e7, rfl, hi5⟩ := xSl_elim hi4
  obtain ⟨v, env, rfl, hi6⟩ := eVal_elim hi5
  obtain ⟨x8, rfl, hi7⟩ := eInt_elim hi6
  obtain ⟨v, env, rfl, hi8⟩ := eVal_elim hi7
  obtain ⟨x9, rfl, hi9⟩ := eInt_elim hi8
  obtain ⟨rfl, hi10⟩ := eNil_elim hi9
  have hi := hi10
  exact ⟨i1, o1, a7, n7, c7, e7, x8, x9, rfl, hi⟩
abbrev T7 := Nat → Nat → Int → Nat → Nat → Pt → Nat → Nat → Bool → Int → Int → Int → Int → AHeap → Prop
def E7 (R7 : T7) (env : Env) (h : AHeap) : Prop := eVal 1 env fun v env => xPtr (some v) fun a => xSome a fun i1 o1 => eVal 3 env fun v env => eInt .i64 v fun x3 => eVal 4 env fun v env => xPtr (some v) fun a => xSome a fun i4 o4 => eVal 7 env fun v env => xSl (some v) fun a7 n7 c7 e7 => eVal 8 env fun v env => eInt .i64 v fun x8 => eVal 9 env fun v env => eInt .i64 v fun x9 => eVal 36 env fun v env => eInt .i64 v fun x36 => eVal 37 env fun v env => eInt .i64 v fun x37 => eNil env (R7 i1 o1 x3 i4 o4 a7 n7 c7 e7 x8 x9 x36 x37 h)
theorem E7elim {R7 : T7} {env : Env} {h : AHeap} (hi : E7 R7 env h) : ∃ i1, ∃ o1, ∃ x3, ∃ i4, ∃ o4, ∃ a7, ∃ n7, ∃ c7, ∃ e7, ∃ x8, ∃ x9, ∃ x36, ∃ x37, env = [(1, .ptr (some (i1, o1))), (3, .int .i64 x3), (4, .ptr (some (i4, o4))), (7, .slice a7 n7 c7 e7), (8, .int .i64 x8), (9, .int .i64 x9), (36, .int .i64 x36), (37, .int .i64 x37)] ∧ R7 i1 o1 x3 i4 o4 a7 n7 c7 e7 x8 x9 x36 x37 h := by
  unfold E7 at hi
  have hi0 := hi
  clear hi
  obtain ⟨v, env, rfl, hi1⟩ := eVal_elim hi0
  obtain ⟨a, rfl, hi2⟩ := xPtr_elim hi1
  obtain ⟨i1, o1, rfl, hi3⟩ := xSome_elim hi2
  obtain ⟨v, env, rfl, hi4⟩ := eVal_elim hi3
  obtain ⟨x3, rfl, hi5⟩ := eInt_elim hi4
  obtain ⟨v, env, rfl, hi6⟩ := eVal_elim hi5
  obtain ⟨a, rfl, hi7⟩ := xPtr_elim hi6
  obtain ⟨i4, o4, rfl, hi8⟩ := xSome_elim hi7
  obtain ⟨v, env, rfl, hi9⟩ := eVal_elim hi8
  obtain ⟨a7, n7, c7, e7, rfl, hi10⟩ := xSl_elim hi9
  obtain ⟨v, env, rfl, hi11⟩ := eVal_elim hi10
  obtain ⟨x8, rfl, hi12⟩ := eInt_elim hi11
  obtain ⟨v, env, rfl, hi13⟩ := eVal_elim hi12
  obtain ⟨x9, rfl, hi14⟩ := eInt_elim hi13
  obtain ⟨v, env, rfl, hi15⟩ := eVal_elim hi14
  obtain ⟨x36, rfl, hi16⟩ := eInt_elim hi15
  obtain ⟨v, env, rfl, hi17⟩ := eVal_elim hi16
  obtain ⟨x37, rfl, hi18⟩ := eInt_elim hi17
  obtain ⟨rfl, hi19⟩ := eNil_elim hi18
  have hi := hi19
  exact ⟨i1, o1, x3, i4, o4, a7, n7, c7, e7, x8, x9, x36, x37, rfl, hi⟩
def K0 (Q : QT) : KT := andThen (fun env' h' => (match kp.find 4000013 with | some ks => Den pg fn.ntmps (C [1, 1]) (env'.keep ks) h' (KR Q) | none => den pg fn.ntmps kp (C [1, 1]) env' h' (KR Q))) (KR Q)
def K1 (Q : QT) : KT := onExit 0 (K0 Q)
def K2 (Q : QT) : KT := left kp 2 (K1 Q)
def K3 (Q : QT) (R2 : T2) : KT := rnd ((kp.find 1000002).getD []) (E2 R2) (K2 Q)
def K4 (Q : QT) (R2 : T2) : KT := andThen (fun env' h' => (match kp.find 4000012 with | some ks => Den pg fn.ntmps (C [1, 0, 1, 0, 0, 1, 1, 1]) (env'.keep ks) h' (K3 Q R2) | none => den pg fn.ntmps kp (C [1, 0, 1, 0, 0, 1, 1, 1]) env' h' (K3 Q R2))) (K3 Q R2)
def K5 (Q : QT) (R2 : T2) : KT := onExit 1 (K4 Q R2)
def K6 (Q : QT) (R2 : T2) : KT := onExit 2 (K5 Q R2)
def K7 (Q : QT) (R2 : T2) : KT := left kp 7 (K6 Q R2)
def K8 (Q : QT) (R2 : T2) (R7 : T7) : KT := rnd ((kp.find 1000007).getD []) (E7 R7) (K7 Q R2)
def L2 (Q : QT) (i1 o1 : Nat) (a7 : Pt) (n7 c7 : Nat) (e7 : Bool) (x8 x9 : Int) (h : AHeap) : Prop := Loop (Den pg fn.ntmps (C [1, 0, 1, 0, 0])) ((kp.find 1000002).getD []) (K2 Q) [(1, .ptr (some (i1, o1))), (7, .slice a7 n7 c7 e7), (8, .int .i64 x8), (9, .int .i64 x9)] h
def J6 (Q : QT) (R2 : T2) (i4 o4 i1 o1 : Nat) (x3 : Int) (a7 : Pt) (n7 c7 : Nat) (e7 : Bool) (x8 x9 : Int) (h : AHeap) : Prop := Den pg fn.ntmps (C [1, 0, 1, 0, 0, 1, 1, 0, 0, 1, 1]) [(4, .ptr (some (i4, o4))), (1, .ptr (some (i1, o1))), (3, .int .i64 x3), (7, .slice a7 n7 c7 e7), (8, .int .i64 x8), (9, .int .i64 x9)] h (K5 Q R2)
def A2x0 (Q : QT) (i1 o1 : Nat) (h : AHeap) : Prop := At (K1 Q) (.exit 0) [(1, .ptr (some (i1, o1))), (2, .undef)] h
def L7 (Q : QT) (R2 : T2) (i1 o1 : Nat) (x3 : Int) (i4 o4 : Nat) (a7 : Pt) (n7 c7 : Nat) (e7 : Bool) (x8 x9 x36 x37 : Int) (h : AHeap) : Prop := Loop (Den pg fn.ntmps (C [1, 0, 1, 0, 0, 1, 1, 0, 0, 1, 1, 1, 0, 0])) ((kp.find 1000007).getD []) (K7 Q R2) [(1, .ptr (some (i1, o1))), (3, .int .i64 x3), (4, .ptr (some (i4, o4))), (7, .slice a7 n7 c7 e7), (8, .int .i64 x8), (9, .int .i64 x9), (36, .int .i64 x36), (37, .int .i64 x37)] h
def J11 (Q : QT) (R2 : T2) (R7 : T7) (x37 x36 : Int) (i1 o1 : Nat) (x3 : Int) (i4 o4 : Nat) (x9 x8 : Int) (a7 : Pt) (n7 c7 : Nat) (e7 : Bool) (h : AHeap) : Prop := Den pg fn.ntmps (C [1, 0, 1, 0, 0, 1, 1, 0, 0, 1, 1, 1, 0, 0, 1, 1, 1]) [(37, .int .i64 x37), (36, .int .i64 x36), (1, .ptr (some (i1, o1))), (3, .int .i64 x3), (4, .ptr (some (i4, o4))), (9, .int .i64 x9), (8, .int .i64 x8), (7, .slice a7 n7 c7 e7)] h (K8 Q R2 R7)
def A7x2 (Q : QT) (R2 : T2) (x9 x8 : Int) (a7 : Pt) (n7 c7 : Nat) (e7 : Bool) (i1 o1 : Nat) (h : AHeap) : Prop := At (K6 Q R2) (.exit 2) [(9, .int .i64 x9), (8, .int .i64 x8), (7, .slice a7 n7 c7 e7), (1, .ptr (some (i1, o1))), (2, .undef)] h
def J12 (Q : QT) (R2 : T2) (x9 x8 : Int) (a7 : Pt) (n7 c7 : Nat) (e7 : Bool) (i1 o1 : Nat) (h : AHeap) : Prop := Den pg fn.ntmps (C [1, 0, 1, 0, 0, 1, 1, 1]) [(9, .int .i64 x9), (8, .int .i64 x8), (7, .slice a7 n7 c7 e7), (1, .ptr (some (i1, o1)))] h (K3 Q R2)
def L2t (Q : QT) (R2 : T2) (i1 o1 : Nat) (a7 : Pt) (n7 c7 : Nat) (e7 : Bool) (x8 x9 : Int) (h : AHeap) : Prop :=
 bcase (decide ((x9 : Int) < x8)) ((0 ≤ (x9 : Int) ∧ (x9 : Int) < (n7 : Nat)) ∧ (xSome a7 fun i_5 o_6 => xRow (hRow h (.ptr (some (i_5, o_6 + (Int.toNat x9) * 2))) 2) fun cs_7 => xCons cs_7 fun c_8 r_9 => xStr (some c_8) fun s_10 => xCons r_9 fun c_11 r_12 => xStr (some c_11) fun s_13 => xNil r_12 (letH (h ++ [.cells t_impl_Class [.str [], .str []] false]) fun h_14 => xHeap (hStore h_14 (.ptr (some (List.length h, 0))) [.str s_10, .str s_13]) fun h_15 => xStr (hCell h_15 (.ptr (some (List.length h, 0 + 0)))) fun s_16 => SCall pg n_impl_isClass [.str s_16] h_15 fun v_17 h_18 =>
 xBool (some v_17) fun b_19 => bcase (!b_19) ((hCell h_18 (.tup []) = hCell h_18 (.tup [])) ∧ (hCell h_18 (.tup []) = hCell h_18 (.tup [])) ∧ Q (.bool false) h_18) (bcase (decide ((x9 : Int) > 0)) (xSl (hCell h_18 (.ptr (some (i1, o1 + 0)))) fun a_20 n_21 c_22 e_23 => (0 ≤ (IntKind.wrap .i64 (x9 - 1) : Int) ∧ (IntKind.wrap .i64 (x9 - 1) : Int) < (n_21 : Nat)) ∧ (xSome a_20 fun i_24 o_25 => xStr (hCell h_18 (.ptr (some (i_24, o_25 + (Int.toNat (IntKind.wrap .i64 (x9 - 1))) * 2 + 0)))) fun s_26 => xStr (hCell h_18 (.ptr (some (List.length h, 0 + 0)))) fun s_27 => (hCell h_18 (.ptr (some (i_24, o_25 + (Int.toNat (IntKind.wrap .i64 (x9 - 1))) * 2 + 0))) = hCell h_18 (.ptr (some (i_24, o_25 + (Int.toNat (IntKind.wrap .i64 (x9 - 1))) * 2 + 0)))) ∧ (hCell h_18 (.ptr (some (i1, o1 + 0))) = hCell h_18 (.ptr (some (i1, o1 + 0)))) ∧ bcase (!natLess s_26 s_27) (Q (.bool false) h_18) (J6 Q R2 (List.length h) 0 i1 o1 x9 a7 n7 c7 e7 x8 x9 h_18))) ((hCell h_18 (.tup []) = hCell h_18 (.tup [])) ∧ (hCell h_18 (.tup []) = hCell h_18 (.tup [])) ∧ J6 Q R2 (List.length h) 0 i1 o1 x9 a7 n7 c7 e7 x8 x9 h_18))))) (A2x0 Q i1 o1 h)
theorem L2den (Q : QT) (R2 : T2) (i1 o1 : Nat) (a7 : Pt) (n7 c7 : Nat) (e7 : Bool) (x8 x9 : Int) (h : AHeap) (ht : L2t Q R2 i1 o1 a7 n7 c7 e7 x8 x9 h) : Den pg fn.ntmps (C [1, 0, 1, 0, 0]) [(1, .ptr (some (i1, o1))), (7, .slice a7 n7 c7 e7), (8, .int .i64 x8), (9, .int .i64 x9)] h (K3 Q R2) :=
  den_Den (kp := kp) (@cast _ (den pg fn.ntmps kp (C [1, 0, 1, 0, 0]) [(1, .ptr (some (i1, o1))), (7, .slice a7 n7 c7 e7), (8, .int .i64 x8), (9, .int .i64 x9)] h (K3 Q R2)) (by kernel_rfl) ht)
theorem L2ind (Q : QT) (i1 o1 : Nat) (a7 : Pt) (n7 c7 : Nat) (e7 : Bool) (x8 : Int) {G : Type} (J : G → Int → AHeap → Prop) (m : G → Nat)
 (hr : ∀ (g : G) (x9 : Int) (h : AHeap), J g x9 h → ∀ (R2 : T2), (∀ g' (x9 : Int) (h : AHeap), m g' < m g → J g' x9 h → R2 i1 o1 a7 n7 c7 e7 x8 x9 h) → L2t Q R2 i1 o1 a7 n7 c7 e7 x8 x9 h)
 (g : G) (x9 : Int) (h : AHeap) (hj : J g x9 h) : L2 Q i1 o1 a7 n7 c7 e7 x8 x9 h := by
  refine Loop.inv2 (fun g => E2 fun i1' o1' a7' n7' c7' e7' x8' x9 h => i1 = i1' ∧ o1 = o1' ∧ a7 = a7' ∧ n7 = n7' ∧ c7 = c7' ∧ e7 = e7' ∧ x8 = x8' ∧ J g x9 h) (fun g => E2 fun i1' o1' a7' n7' c7' e7' x8' x9 h => i1 = i1' ∧ o1 = o1' ∧ a7 = a7' ∧ n7 = n7' ∧ c7 = c7' ∧ e7 = e7' ∧ x8 = x8' ∧ ∃ g', m g' < m g ∧ J g' x9 h) m ?_ ?_ g ⟨rfl, rfl, rfl, rfl, rfl, rfl, rfl, hj⟩
  · intro g env h hi
    obtain ⟨i1', o1', a7', n7', c7', e7', x8', x9, rfl, rfl, rfl, rfl, rfl, rfl, rfl, rfl, hj⟩ := E2elim hi
    exact L2den Q (fun i1' o1' a7' n7' c7' e7' x8' x9 h => i1 = i1' ∧ o1 = o1' ∧ a7 = a7' ∧ n7 = n7' ∧ c7 = c7' ∧ e7 = e7' ∧ x8 = x8' ∧ ∃ g', m g' < m g ∧ J g' x9 h) i1 o1 a7 n7 c7 e7 x8 x9 h (hr g x9 h hj (fun i1' o1' a7' n7' c7' e7' x8' x9 h => i1 = i1' ∧ o1 = o1' ∧ a7 = a7' ∧ n7 = n7' ∧ c7 = c7' ∧ e7 = e7' ∧ x8 = x8' ∧ ∃ g', m g' < m g ∧ J g' x9 h) fun g' x9 h hlt hj => ⟨rfl, rfl, rfl, rfl, rfl, rfl, rfl, g', hlt, hj⟩)
  · intro g env h hi
    obtain ⟨i1', o1', a7', n7', c7', e7', x8', x9, rfl, rfl, rfl, rfl, rfl, rfl, rfl, rfl, g', hlt, hj⟩ := E2elim hi
    exact ⟨g', hlt, rfl, rfl, rfl, rfl, rfl, rfl, rfl, hj⟩
theorem J6i (Q : QT) (R2 : T2) (i4 o4 i1 o1 : Nat) (x3 : Int) (a7 : Pt) (n7 c7 : Nat) (e7 : Bool) (x8 x9 : Int) (h : AHeap) (ht :
 xStr (hCell h (.ptr (some (i4, o4 + 1)))) fun s_28 => L7 Q R2 i1 o1 x3 i4 o4 a7 n7 c7 e7 x8 x9 (((List.length s_28 : Nat) : Int)) 0 h) : J6 Q R2 i4 o4 i1 o1 x3 a7 n7 c7 e7 x8 x9 h :=
  den_Den (kp := kp) (@cast _ (den pg fn.ntmps kp (C [1, 0, 1, 0, 0, 1, 1, 0, 0, 1, 1]) [(4, .ptr (some (i4, o4))), (1, .ptr (some (i1, o1))), (3, .int .i64 x3), (7, .slice a7 n7 c7 e7), (8, .int .i64 x8), (9, .int .i64 x9)] h (K5 Q R2)) (by kernel_rfl) ht)
theorem A2x0i (Q : QT) (i1 o1 : Nat) (h : AHeap) (ht :
 xSl (hCell h (.ptr (some (i1, o1 + 0)))) fun a_29 n_30 c_31 e_32 => bcase (decide (((((n_30 : Nat) : Int)) : Int) ≥ 1)) (xSl (hCell h (.ptr (some (i1, o1 + 0)))) fun a_33 n_34 c_35 e_36 => Q (.bool (decide (((((n_34 : Nat) : Int)) : Int) ≤ 4))) h) (Q (.bool false) h)) : A2x0 Q i1 o1 h :=
  At.mk (@cast _ ((K1 Q) (.exit 0) [(1, .ptr (some (i1, o1))), (2, .undef)] h) (by kernel_rfl) ht)
def L7t (Q : QT) (R2 : T2) (R7 : T7) (i1 o1 : Nat) (x3 : Int) (i4 o4 : Nat) (a7 : Pt) (n7 c7 : Nat) (e7 : Bool) (x8 x9 x36 x37 : Int) (h : AHeap) : Prop :=
 bcase (decide ((x37 : Int) < x36)) (xSl (hCell h (.ptr (some (i1, o1 + 0)))) fun a_37 n_38 c_39 e_40 => sliceSl a_37 n_38 c_39 e_40 2 none (some (.int .i64 x3)) none fun v_41 => xSl (some v_41) fun a_42 n_43 c_44 e_45 => xStr (hCell h (.ptr (some (i4, o4 + 1)))) fun s_46 => (hCell h (.ptr (some (i1, o1 + 0))) = hCell h (.ptr (some (i1, o1 + 0)))) ∧ (0 ≤ (x37 : Int) ∧ (x37 : Int) ≤ IntKind.wrap .i64 (x37 + 1) ∧ (IntKind.wrap .i64 (x37 + 1) : Int) ≤ (List.length s_46 : Nat)) ∧ (SCall pg n_impl_known [.slice a_42 n_43 c_44 e_45, .str (sub s_46 x37 (IntKind.wrap .i64 (x37 + 1)))] h fun v_47 h_48 =>
 xBool (some v_47) fun b_49 => (hCell h_48 (.ptr (some (i1, o1 + 0))) = hCell h (.ptr (some (i1, o1 + 0)))) ∧ bcase (!b_49) ((hCell h_48 (.tup []) = hCell h_48 (.tup [])) ∧ (hCell h_48 (.ptr (some (i1, o1 + 0))) = hCell h_48 (.ptr (some (i1, o1 + 0)))) ∧ Q (.bool false) h_48) (bcase (decide ((x37 : Int) > 0)) (xStr (hCell h_48 (.ptr (some (i4, o4 + 1)))) fun s_50 => byteAt s_50 (IntKind.wrap .i64 (x37 - 1)) fun b_51 => xStr (hCell h_48 (.ptr (some (i4, o4 + 1)))) fun s_52 => (hCell h_48 (.ptr (some (i4, o4 + 1))) = hCell h_48 (.ptr (some (i4, o4 + 1)))) ∧ (hCell h_48 (.ptr (some (i1, o1 + 0))) = hCell h_48 (.ptr (some (i1, o1 + 0)))) ∧ byteAt s_52 x37 fun b_53 => bcase (decide (((((b_51 : Nat) : Int)) : Int) ≥ (((b_53 : Nat) : Int)))) (Q (.bool false) h_48) (J11 Q R2 R7 x37 x36 i1 o1 x3 i4 o4 x9 x8 a7 n7 c7 e7 h_48)) ((hCell h_48 (.tup []) = hCell h_48 (.tup [])) ∧ (hCell h_48 (.ptr (some (i1, o1 + 0))) = hCell h_48 (.ptr (some (i1, o1 + 0)))) ∧ J11 Q R2 R7 x37 x36 i1 o1 x3 i4 o4 x9 x8 a7 n7 c7 e7 h_48)))) (A7x2 Q R2 x9 x8 a7 n7 c7 e7 i1 o1 h)
theorem L7den (Q : QT) (R2 : T2) (R7 : T7) (i1 o1 : Nat) (x3 : Int) (i4 o4 : Nat) (a7 : Pt) (n7 c7 : Nat) (e7 : Bool) (x8 x9 x36 x37 : Int) (h : AHeap) (ht : L7t Q R2 R7 i1 o1 x3 i4 o4 a7 n7 c7 e7 x8 x9 x36 x37 h) : Den pg fn.ntmps (C [1, 0, 1, 0, 0, 1, 1, 0, 0, 1, 1, 1, 0, 0]) [(1, .ptr (some (i1, o1))), (3, .int .i64 x3), (4, .ptr (some (i4, o4))), (7, .slice a7 n7 c7 e7), (8, .int .i64 x8), (9, .int .i64 x9), (36, .int .i64 x36), (37, .int .i64 x37)] h (K8 Q R2 R7) :=
  den_Den (kp := kp) (@cast _ (den pg fn.ntmps kp (C [1, 0, 1, 0, 0, 1, 1, 0, 0, 1, 1, 1, 0, 0]) [(1, .ptr (some (i1, o1))), (3, .int .i64 x3), (4, .ptr (some (i4, o4))), (7, .slice a7 n7 c7 e7), (8, .int .i64 x8), (9, .int .i64 x9), (36, .int .i64 x36), (37, .int .i64 x37)] h (K8 Q R2 R7)) (by kernel_rfl) ht)
theorem L7ind (Q : QT) (R2 : T2) (i1 o1 : Nat) (x3 : Int) (i4 o4 : Nat) (a7 : Pt) (n7 c7 : Nat) (e7 : Bool) (x8 x9 x36 : Int) {G : Type} (J : G → Int → AHeap → Prop) (m : G → Nat)
 (hr : ∀ (g : G) (x37 : Int) (h : AHeap), J g x37 h → ∀ (R7 : T7), (∀ g' (x37 : Int) (h : AHeap), m g' < m g → J g' x37 h → R7 i1 o1 x3 i4 o4 a7 n7 c7 e7 x8 x9 x36 x37 h) → L7t Q R2 R7 i1 o1 x3 i4 o4 a7 n7 c7 e7 x8 x9 x36 x37 h)
 (g : G) (x37 : Int) (h : AHeap) (hj : J g x37 h) : L7 Q R2 i1 o1 x3 i4 o4 a7 n7 c7 e7 x8 x9 x36 x37 h := by
  refine Loop.inv2 (fun g => E7 fun i1' o1' x3' i4' o4' a7' n7' c7' e7' x8' x9' x36' x37 h => i1 = i1' ∧ o1 = o1' ∧ x3 = x3' ∧ i4 = i4' ∧ o4 = o4' ∧ a7 = a7' ∧ n7 = n7' ∧ c7 = c7' ∧ e7 = e7' ∧ x8 = x8' ∧ x9 = x9' ∧ x36 = x36' ∧ J g x37 h) (fun g => E7 fun i1' o1' x3' i4' o4' a7' n7' c7' e7' x8' x9' x36' x37 h => i1 = i1' ∧ o1 = o1' ∧ x3 = x3' ∧ i4 = i4' ∧ o4 = o4' ∧ a7 = a7' ∧ n7 = n7' ∧ c7 = c7' ∧ e7 = e7' ∧ x8 = x8' ∧ x9 = x9' ∧ x36 = x36' ∧ ∃ g', m g' < m g ∧ J g' x37 h) m ?_ ?_ g ⟨rfl, rfl, rfl, rfl, rfl, rfl, rfl, rfl, rfl, rfl, rfl, rfl, hj⟩
  · intro g env h hi
    obtain ⟨i1', o1', x3', i4', o4', a7', n7', c7', e7', x8', x9', x36', x37, rfl, rfl, rfl, rfl, rfl, rfl, rfl, rfl, rfl, rfl, rfl, rfl, rfl, hj⟩ := E7elim hi
    exact L7den Q R2 (fun i1' o1' x3' i4' o4' a7' n7' c7' e7' x8' x9' x36' x37 h => i1 = i1' ∧ o1 = o1' ∧ x3 = x3' ∧ i4 = i4' ∧ o4 = o4' ∧ a7 = a7' ∧ n7 = n7' ∧ c7 = c7' ∧ e7 = e7' ∧ x8 = x8' ∧ x9 = x9' ∧ x36 = x36' ∧ ∃ g', m g' < m g ∧ J g' x37 h) i1 o1 x3 i4 o4 a7 n7 c7 e7 x8 x9 x36 x37 h (hr g x37 h hj (fun i1' o1' x3' i4' o4' a7' n7' c7' e7' x8' x9' x36' x37 h => i1 = i1' ∧ o1 = o1' ∧ x3 = x3' ∧ i4 = i4' ∧ o4 = o4' ∧ a7 = a7' ∧ n7 = n7' ∧ c7 = c7' ∧ e7 = e7' ∧ x8 = x8' ∧ x9 = x9' ∧ x36 = x36' ∧ ∃ g', m g' < m g ∧ J g' x37 h) fun g' x37 h hlt hj => ⟨rfl, rfl, rfl, rfl, rfl, rfl, rfl, rfl, rfl, rfl, rfl, rfl, g', hlt, hj⟩)
  · intro g env h hi
    obtain ⟨i1', o1', x3', i4', o4', a7', n7', c7', e7', x8', x9', x36', x37, rfl, rfl, rfl, rfl, rfl, rfl, rfl, rfl, rfl, rfl, rfl, rfl, rfl, g', hlt, hj⟩ := E7elim hi
    exact ⟨g', hlt, rfl, rfl, rfl, rfl, rfl, rfl, rfl, rfl, rfl, rfl, rfl, rfl, hj⟩
theorem J11i (Q : QT) (R2 : T2) (R7 : T7) (x37 x36 : Int) (i1 o1 : Nat) (x3 : Int) (i4 o4 : Nat) (x9 x8 : Int) (a7 : Pt) (n7 c7 : Nat) (e7 : Bool) (h : AHeap) (ht :
 R7 i1 o1 x3 i4 o4 a7 n7 c7 e7 x8 x9 x36 (IntKind.wrap .i64 (x37 + 1)) h) : J11 Q R2 R7 x37 x36 i1 o1 x3 i4 o4 x9 x8 a7 n7 c7 e7 h :=
  den_Den (kp := kp) (@cast _ (den pg fn.ntmps kp (C [1, 0, 1, 0, 0, 1, 1, 0, 0, 1, 1, 1, 0, 0, 1, 1, 1]) [(37, .int .i64 x37), (36, .int .i64 x36), (1, .ptr (some (i1, o1))), (3, .int .i64 x3), (4, .ptr (some (i4, o4))), (9, .int .i64 x9), (8, .int .i64 x8), (7, .slice a7 n7 c7 e7)] h (K8 Q R2 R7)) (by kernel_rfl) ht)
theorem A7x2i (Q : QT) (R2 : T2) (x9 x8 : Int) (a7 : Pt) (n7 c7 : Nat) (e7 : Bool) (i1 o1 : Nat) (h : AHeap) (ht :
 J12 Q R2 x9 x8 a7 n7 c7 e7 i1 o1 h) : A7x2 Q R2 x9 x8 a7 n7 c7 e7 i1 o1 h :=
  At.mk (@cast _ ((K6 Q R2) (.exit 2) [(9, .int .i64 x9), (8, .int .i64 x8), (7, .slice a7 n7 c7 e7), (1, .ptr (some (i1, o1))), (2, .undef)] h) (by kernel_rfl) ht)
theorem J12i (Q : QT) (R2 : T2) (x9 x8 : Int) (a7 : Pt) (n7 c7 : Nat) (e7 : Bool) (i1 o1 : Nat) (h : AHeap) (ht :
 R2 i1 o1 a7 n7 c7 e7 x8 (IntKind.wrap .i64 (x9 + 1)) h) : J12 Q R2 x9 x8 a7 n7 c7 e7 i1 o1 h :=
  den_Den (kp := kp) (@cast _ (den pg fn.ntmps kp (C [1, 0, 1, 0, 0, 1, 1, 1]) [(9, .int .i64 x9), (8, .int .i64 x8), (7, .slice a7 n7 c7 e7), (1, .ptr (some (i1, o1)))] h (K3 Q R2)) (by kernel_rfl) ht)
theorem call (a0x0 : Pt) (n0x0 c0x0 : Nat) (e0x0 : Bool) (a0x1 : Pt) (n0x1 c0x1 : Nat) (e0x1 : Bool) (h : AHeap) (Q : QT) (ht :
 letH (h ++ [.cells t_impl_World [.slice a0x0 n0x0 c0x0 e0x0, .slice a0x1 n0x1 c0x1 e0x1] false]) fun h_0 => xSl (hCell h_0 (.ptr (some (List.length h, 0 + 0)))) fun a_1 n_2 c_3 e_4 => L2 Q (List.length h) 0 a_1 n_2 c_3 e_4 (((n_2 : Nat) : Int)) 0 h_0) : SCall pg n_impl_classesOk [.agg [.slice a0x0 n0x0 c0x0 e0x0, .slice a0x1 n0x1 c0x1 e0x1]] h Q :=
  SCall.of_body kp (c := cod fn) (fn := fn) Go.Proofs.Tryz.func62 (by kernel_rfl) (by kernel_rfl) (Nat.le_of_ble_eq_true (by kernel_rfl))
    (@cast _ (den pg fn.ntmps kp (cod fn) (Env.args 0 [.agg [.slice a0x0 n0x0 c0x0 e0x0, .slice a0x1 n0x1 c0x1 e0x1]]) h (KR Q)) (by kernel_rfl) ht)
end F_impl_classesOk
end Go.Sim

/- Printed by wip/tool: what the functions' bodies do, in the words of 'den'. -/
set_option maxRecDepth 100000
set_option linter.unusedVariables false
namespace Go.Sim
open Go Go.RowKit
/-! Function loop.example/instancesearch/laws.markNeedS -/
namespace F_laws_markNeedS
noncomputable abbrev fn : Func := Go.Proofs.Tryz.f14
def kp : Keeps := [(3000002, [1]), (1000002, [0, 1, 5])]
noncomputable def C (p : List Nat) : Code := (cod fn).sub p
def KR (Q : QT) : KT := retA pg fn.results.toList Q
abbrev T2 := Pt → Nat → Nat → Bool → Int → Int → AHeap → Prop
def E2 (R2 : T2) (env : Env) (h : AHeap) : Prop := eVal 0 env fun v env => xSl (some v) fun a0 n0 c0 e0 => eVal 1 env fun v env => eInt .i64 v fun x1 => eVal 5 env fun v env => eInt .i64 v fun x5 => eNil env (R2 a0 n0 c0 e0 x1 x5 h)
theorem E2elim {R2 : T2} {env : Env} {h : AHeap} (hi : E2 R2 env h) : ∃ a0, ∃ n0, ∃ c0, ∃ e0, ∃ x1, ∃ x5, env = [(0, .slice a0 n0 c0 e0), (1, .int .i64 x1), (5, .int .i64 x5)] ∧ R2 a0 n0 c0 e0 x1 x5 h := by
  unfold E2 at hi
  have hi0 := hi
  clear hi
  obtain ⟨v, env, rfl, hi1⟩ := eVal_elim hi0
  obtain ⟨a0, n0, c0, e0, rfl, hi2⟩ := xSl_elim hi1
  obtain ⟨v, env, rfl, hi3⟩ := eVal_elim hi2
  obtain ⟨x1, rfl, hi4⟩ := eInt_elim hi3
  obtain ⟨v, env, rfl, hi5⟩ := eVal_elim hi4
  obtain ⟨x5, rfl, hi6⟩ := eInt_elim hi5
  obtain ⟨rfl, hi7⟩ := eNil_elim hi6
  have hi := hi7
  exact ⟨a0, n0, c0, e0, x1, x5, rfl, hi⟩
def K0 (Q : QT) : KT := andThen (fun env' h' => (match kp.find 4000008 with | some ks => Den pg fn.ntmps (C [1, 1]) (env'.keep ks) h' (KR Q) | none => den pg fn.ntmps kp (C [1, 1]) env' h' (KR Q))) (KR Q)
def K1 (Q : QT) : KT := onExit 0 (K0 Q)
def K2 (Q : QT) : KT := left kp 2 (K1 Q)
def K3 (Q : QT) (R2 : T2) : KT := rnd ((kp.find 1000002).getD []) (E2 R2) (K2 Q)
def L2 (Q : QT) (a0 : Pt) (n0 c0 : Nat) (e0 : Bool) (x1 x5 : Int) (h : AHeap) : Prop := Loop (Den pg fn.ntmps (C [1, 0, 1, 0, 0])) ((kp.find 1000002).getD []) (K2 Q) [(0, .slice a0 n0 c0 e0), (1, .int .i64 x1), (5, .int .i64 x5)] h
def A2x0 (Q : QT) (x1 : Int) (h : AHeap) : Prop := At (K1 Q) (.exit 0) [(1, .int .i64 x1)] h
def L2t (Q : QT) (R2 : T2) (a0 : Pt) (n0 c0 : Nat) (e0 : Bool) (x1 x5 : Int) (h : AHeap) : Prop :=
 bcase (decide ((x5 : Int) < (((n0 : Nat) : Int)))) (SCall pg n_laws_markText [.int .i64 x1] h fun v_0 h_1 =>
 xStr (some v_0) fun s_2 => (0 ≤ (x5 : Int) ∧ (x5 : Int) < (n0 : Nat)) ∧ (xSome a0 fun i_3 o_4 => xHeap (hStore h_1 (.ptr (some (i_3, o_4 + (Int.toNat x5) * 2 + 0))) [.str s_2]) fun h_5 => SCall pg n_laws_markText [.int .i64 (IntKind.wrap .i64 (x1 + 1))] h_5 fun v_6 h_7 =>
 xStr (some v_6) fun s_8 => (0 ≤ (x5 : Int) ∧ (x5 : Int) < (n0 : Nat)) ∧ (xSome a0 fun i_9 o_10 => xHeap (hStore h_7 (.ptr (some (i_9, o_10 + (Int.toNat x5) * 2 + 1))) [.str s_8]) fun h_11 => R2 a0 n0 c0 e0 (IntKind.wrap .i64 ((IntKind.wrap .i64 (x1 + 1)) + 1)) (IntKind.wrap .i64 (x5 + 1)) h_11))) (A2x0 Q x1 h)
theorem L2den (Q : QT) (R2 : T2) (a0 : Pt) (n0 c0 : Nat) (e0 : Bool) (x1 x5 : Int) (h : AHeap) (ht : L2t Q R2 a0 n0 c0 e0 x1 x5 h) : Den pg fn.ntmps (C [1, 0, 1, 0, 0]) [(0, .slice a0 n0 c0 e0), (1, .int .i64 x1), (5, .int .i64 x5)] h (K3 Q R2) :=
  den_Den (kp := kp) (@cast _ (den pg fn.ntmps kp (C [1, 0, 1, 0, 0]) [(0, .slice a0 n0 c0 e0), (1, .int .i64 x1), (5, .int .i64 x5)] h (K3 Q R2)) (by kernel_rfl) ht)
theorem L2ind (Q : QT) (a0 : Pt) (n0 c0 : Nat) (e0 : Bool) {G : Type} (J : G → Int → Int → AHeap → Prop) (m : G → Nat)
 (hr : ∀ (g : G) (x1 x5 : Int) (h : AHeap), J g x1 x5 h → ∀ (R2 : T2), (∀ g' (x1 x5 : Int) (h : AHeap), m g' < m g → J g' x1 x5 h → R2 a0 n0 c0 e0 x1 x5 h) → L2t Q R2 a0 n0 c0 e0 x1 x5 h)
 (g : G) (x1 x5 : Int) (h : AHeap) (hj : J g x1 x5 h) : L2 Q a0 n0 c0 e0 x1 x5 h := by
  refine Loop.inv2 (fun g => E2 fun a0' n0' c0' e0' x1 x5 h => a0 = a0' ∧ n0 = n0' ∧ c0 = c0' ∧ e0 = e0' ∧ J g x1 x5 h) (fun g => E2 fun a0' n0' c0' e0' x1 x5 h => a0 = a0' ∧ n0 = n0' ∧ c0 = c0' ∧ e0 = e0' ∧ ∃ g', m g' < m g ∧ J g' x1 x5 h) m ?_ ?_ g ⟨rfl, rfl, rfl, rfl, hj⟩
  · intro g env h hi
    obtain ⟨a0', n0', c0', e0', x1, x5, rfl, rfl, rfl, rfl, rfl, hj⟩ := E2elim hi
    exact L2den Q (fun a0' n0' c0' e0' x1 x5 h => a0 = a0' ∧ n0 = n0' ∧ c0 = c0' ∧ e0 = e0' ∧ ∃ g', m g' < m g ∧ J g' x1 x5 h) a0 n0 c0 e0 x1 x5 h (hr g x1 x5 h hj (fun a0' n0' c0' e0' x1 x5 h => a0 = a0' ∧ n0 = n0' ∧ c0 = c0' ∧ e0 = e0' ∧ ∃ g', m g' < m g ∧ J g' x1 x5 h) fun g' x1 x5 h hlt hj => ⟨rfl, rfl, rfl, rfl, g', hlt, hj⟩)
  · intro g env h hi
    obtain ⟨a0', n0', c0', e0', x1, x5, rfl, rfl, rfl, rfl, rfl, g', hlt, hj⟩ := E2elim hi
    exact ⟨g', hlt, rfl, rfl, rfl, rfl, hj⟩
theorem A2x0i (Q : QT) (x1 : Int) (h : AHeap) (ht :
 Q (.int .i64 x1) h) : A2x0 Q x1 h :=
  At.mk (@cast _ ((K1 Q) (.exit 0) [(1, .int .i64 x1)] h) (by kernel_rfl) ht)
theorem call (a0 : Pt) (n0 c0 : Nat) (e0 : Bool) (x1 : Int) (h : AHeap) (Q : QT) (ht :
 L2 Q a0 n0 c0 e0 x1 0 h) : SCall pg n_laws_markNeedS [.slice a0 n0 c0 e0, .int .i64 x1] h Q :=
  SCall.of_body kp (c := cod fn) (fn := fn) Go.Proofs.Tryz.func14 (by kernel_rfl) (by kernel_rfl) (Nat.le_of_ble_eq_true (by kernel_rfl))
    (@cast _ (den pg fn.ntmps kp (cod fn) (Env.args 0 [.slice a0 n0 c0 e0, .int .i64 x1]) h (KR Q)) (by kernel_rfl) ht)
end F_laws_markNeedS
/-! Function loop.example/instancesearch/laws.heldNeedS -/
namespace F_laws_heldNeedS
noncomputable abbrev fn : Func := Go.Proofs.Tryz.f15
def kp : Keeps := [(3000002, [1, 4]), (1000002, [0, 1, 5]), (2000004, [19, 1, 0, 5]), (2000007, [29, 1, 5, 0])]
noncomputable def C (p : List Nat) : Code := (cod fn).sub p
def KR (Q : QT) : KT := retA pg fn.results.toList Q
abbrev T2 := Pt → Nat → Nat → Bool → Int → Int → AHeap → Prop
def E2 (R2 : T2) (env : Env) (h : AHeap) : Prop := eVal 0 env fun v env => xSl (some v) fun a0 n0 c0 e0 => eVal 1 env fun v env => eInt .i64 v fun x1 => eVal 5 env fun v env => eInt .i64 v fun x5 => eNil env (R2 a0 n0 c0 e0 x1 x5 h)
theorem E2elim {R2 : T2} {env : Env} {h : AHeap} (hi : E2 R2 env h) : ∃ a0, ∃ n0, ∃ c0, ∃ e0, ∃ x1, ∃ x5, env = [(0, .slice a0 n0 c0 e0), (1, .int .i64 x1), (5, .int .i64 x5)] ∧ R2 a0 n0 c0 e0 x1 x5 h := by
  unfold E2 at hi
  have hi0 := hi
  clear hi
  obtain ⟨v, env, rfl, hi1⟩ := eVal_elim hi0
  obtain ⟨a0, n0, c0, e0, rfl, hi2⟩ := xSl_elim hi1
  obtain ⟨v, env, rfl, hi3⟩ := eVal_elim hi2
  obtain ⟨x1, rfl, hi4⟩ := eInt_elim hi3
  obtain ⟨v, env, rfl, hi5⟩ := eVal_elim hi4
  obtain ⟨x5, rfl, hi6⟩ := eInt_elim hi5
  obtain ⟨rfl, hi7⟩ := eNil_elim hi6
  have hi := hi7
  exact ⟨a0, n0, c0, e0, x1, x5, rfl, hi⟩
def K0 (Q : QT) : KT := andThen (fun env' h' => (match kp.find 4000010 with | some ks => Den pg fn.ntmps (C [1, 1]) (env'.keep ks) h' (KR Q) | none => den pg fn.ntmps kp (C [1, 1]) env' h' (KR Q))) (KR Q)
def K1 (Q : QT) : KT := onExit 0 (K0 Q)
def K2 (Q : QT) : KT := left kp 2 (K1 Q)
def K3 (Q : QT) (R2 : T2) : KT := rnd ((kp.find 1000002).getD []) (E2 R2) (K2 Q)
def L2 (Q : QT) (a0 : Pt) (n0 c0 : Nat) (e0 : Bool) (x1 x5 : Int) (h : AHeap) : Prop := Loop (Den pg fn.ntmps (C [1, 0, 1, 0, 0])) ((kp.find 1000002).getD []) (K2 Q) [(0, .slice a0 n0 c0 e0), (1, .int .i64 x1), (5, .int .i64 x5)] h
def A2x0 (Q : QT) (x1 : Int) (h : AHeap) : Prop := At (K1 Q) (.exit 0) [(1, .int .i64 x1), (4, .undef)] h
def L2t (Q : QT) (R2 : T2) (a0 : Pt) (n0 c0 : Nat) (e0 : Bool) (x1 x5 : Int) (h : AHeap) : Prop :=
 bcase (decide ((x5 : Int) < (((n0 : Nat) : Int)))) ((0 ≤ (x5 : Int) ∧ (x5 : Int) < (n0 : Nat)) ∧ (xSome a0 fun i_0 o_1 => xStr (hCell h (.ptr (some (i_0, o_1 + (Int.toNat x5) * 2 + 0)))) fun s_2 => SCall pg n_laws_markText [.int .i64 x1] h fun v_3 h_4 =>
 xStr (some v_3) fun s_5 => (hCell h_4 (.ptr (some (i_0, o_1 + (Int.toNat x5) * 2 + 0))) = hCell h (.ptr (some (i_0, o_1 + (Int.toNat x5) * 2 + 0)))) ∧ bcase (!(decide (s_2 = s_5))) (Q (.int .i64 (-1)) h_4) ((0 ≤ (x5 : Int) ∧ (x5 : Int) < (n0 : Nat)) ∧ (xSome a0 fun i_6 o_7 => xStr (hCell h_4 (.ptr (some (i_6, o_7 + (Int.toNat x5) * 2 + 1)))) fun s_8 => SCall pg n_laws_markText [.int .i64 (IntKind.wrap .i64 (x1 + 1))] h_4 fun v_9 h_10 =>
 xStr (some v_9) fun s_11 => (hCell h_10 (.ptr (some (i_6, o_7 + (Int.toNat x5) * 2 + 1))) = hCell h_4 (.ptr (some (i_6, o_7 + (Int.toNat x5) * 2 + 1)))) ∧ bcase (!(decide (s_8 = s_11))) (Q (.int .i64 (-1)) h_10) (R2 a0 n0 c0 e0 (IntKind.wrap .i64 ((IntKind.wrap .i64 (x1 + 1)) + 1)) (IntKind.wrap .i64 (x5 + 1)) h_10))))) (A2x0 Q x1 h)
theorem L2den (Q : QT) (R2 : T2) (a0 : Pt) (n0 c0 : Nat) (e0 : Bool) (x1 x5 : Int) (h : AHeap) (ht : L2t Q R2 a0 n0 c0 e0 x1 x5 h) : Den pg fn.ntmps (C [1, 0, 1, 0, 0]) [(0, .slice a0 n0 c0 e0), (1, .int .i64 x1), (5, .int .i64 x5)] h (K3 Q R2) :=
  den_Den (kp := kp) (@cast _ (den pg fn.ntmps kp (C [1, 0, 1, 0, 0]) [(0, .slice a0 n0 c0 e0), (1, .int .i64 x1), (5, .int .i64 x5)] h (K3 Q R2)) (by kernel_rfl) ht)
theorem L2ind (Q : QT) (a0 : Pt) (n0 c0 : Nat) (e0 : Bool) {G : Type} (J : G → Int → Int → AHeap → Prop) (m : G → Nat)
 (hr : ∀ (g : G) (x1 x5 : Int) (h : AHeap), J g x1 x5 h → ∀ (R2 : T2), (∀ g' (x1 x5 : Int) (h : AHeap), m g' < m g → J g' x1 x5 h → R2 a0 n0 c0 e0 x1 x5 h) → L2t Q R2 a0 n0 c0 e0 x1 x5 h)
 (g : G) (x1 x5 : Int) (h : AHeap) (hj : J g x1 x5 h) : L2 Q a0 n0 c0 e0 x1 x5 h := by
  refine Loop.inv2 (fun g => E2 fun a0' n0' c0' e0' x1 x5 h => a0 = a0' ∧ n0 = n0' ∧ c0 = c0' ∧ e0 = e0' ∧ J g x1 x5 h) (fun g => E2 fun a0' n0' c0' e0' x1 x5 h => a0 = a0' ∧ n0 = n0' ∧ c0 = c0' ∧ e0 = e0' ∧ ∃ g', m g' < m g ∧ J g' x1 x5 h) m ?_ ?_ g ⟨rfl, rfl, rfl, rfl, hj⟩
  · intro g env h hi
    obtain ⟨a0', n0', c0', e0', x1, x5, rfl, rfl, rfl, rfl, rfl, hj⟩ := E2elim hi
    exact L2den Q (fun a0' n0' c0' e0' x1 x5 h => a0 = a0' ∧ n0 = n0' ∧ c0 = c0' ∧ e0 = e0' ∧ ∃ g', m g' < m g ∧ J g' x1 x5 h) a0 n0 c0 e0 x1 x5 h (hr g x1 x5 h hj (fun a0' n0' c0' e0' x1 x5 h => a0 = a0' ∧ n0 = n0' ∧ c0 = c0' ∧ e0 = e0' ∧ ∃ g', m g' < m g ∧ J g' x1 x5 h) fun g' x1 x5 h hlt hj => ⟨rfl, rfl, rfl, rfl, g', hlt, hj⟩)
  · intro g env h hi
    obtain ⟨a0', n0', c0', e0', x1, x5, rfl, rfl, rfl, rfl, rfl, g', hlt, hj⟩ := E2elim hi
    exact ⟨g', hlt, rfl, rfl, rfl, rfl, hj⟩
theorem A2x0i (Q : QT) (x1 : Int) (h : AHeap) (ht :
 Q (.int .i64 x1) h) : A2x0 Q x1 h :=
  At.mk (@cast _ ((K1 Q) (.exit 0) [(1, .int .i64 x1), (4, .undef)] h) (by kernel_rfl) ht)
theorem call (a0 : Pt) (n0 c0 : Nat) (e0 : Bool) (x1 : Int) (h : AHeap) (Q : QT) (ht :
 L2 Q a0 n0 c0 e0 x1 0 h) : SCall pg n_laws_heldNeedS [.slice a0 n0 c0 e0, .int .i64 x1] h Q :=
  SCall.of_body kp (c := cod fn) (fn := fn) Go.Proofs.Tryz.func15 (by kernel_rfl) (by kernel_rfl) (Nat.le_of_ble_eq_true (by kernel_rfl))
    (@cast _ (den pg fn.ntmps kp (cod fn) (Env.args 0 [.slice a0 n0 c0 e0, .int .i64 x1]) h (KR Q)) (by kernel_rfl) ht)
end F_laws_heldNeedS
end Go.Sim

/- Printed by wip/tool: what the functions' bodies do, in the words of 'den'. -/
set_option maxRecDepth 100000
set_option linter.unusedVariables false
namespace Go.Sim
open Go Go.RowKit
/-! Function loop.example/instancesearch/spec.l1In -/
namespace F_spec_l1In
noncomputable abbrev fn : Func := Go.Proofs.Tryz.f29
def kp : Keeps := []
noncomputable def C (p : List Nat) : Code := (cod fn).sub p
def KR (Q : QT) : KT := retA pg fn.results.toList Q
theorem call (x0 x1 x2 : Int) (h : AHeap) (Q : QT) (ht :
 bcase (decide ((x0 : Int) ≥ x1)) (Q (.bool (decide ((x0 : Int) ≤ x2))) h) (Q (.bool false) h)) : SCall pg n_spec_l1In [.int .i64 x0, .int .i64 x1, .int .i64 x2] h Q :=
  SCall.of_body kp (c := cod fn) (fn := fn) Go.Proofs.Tryz.func29 (by kernel_rfl) (by kernel_rfl) (Nat.le_of_ble_eq_true (by kernel_rfl))
    (@cast _ (den pg fn.ntmps kp (cod fn) (Env.args 0 [.int .i64 x0, .int .i64 x1, .int .i64 x2]) h (KR Q)) (by kernel_rfl) ht)
end F_spec_l1In
/-! Function loop.example/instancesearch/impl.isClass -/
namespace F_impl_isClass
noncomputable abbrev fn : Func := Go.Proofs.Tryz.f89
def kp : Keeps := []
noncomputable def C (p : List Nat) : Code := (cod fn).sub p
def KR (Q : QT) : KT := retA pg fn.results.toList Q
theorem call (x0 : List Nat) (h : AHeap) (Q : QT) (ht :
 bcase ((((List.length x0 : Nat) : Int) : Int) == 1) (bcase (!natLess x0 [65]) (Q (.bool (natLess x0 [84] || decide (x0 = [84]))) h) (Q (.bool false) h)) (Q (.bool false) h)) : SCall pg n_impl_isClass [.str x0] h Q :=
  SCall.of_body kp (c := cod fn) (fn := fn) Go.Proofs.Tryz.func89 (by kernel_rfl) (by kernel_rfl) (Nat.le_of_ble_eq_true (by kernel_rfl))
    (@cast _ (den pg fn.ntmps kp (cod fn) (Env.args 0 [.str x0]) h (KR Q)) (by kernel_rfl) ht)
end F_impl_isClass
/-! Function loop.example/instancesearch/spec.l3Capital -/
namespace F_spec_l3Capital
noncomputable abbrev fn : Func := Go.Proofs.Tryz.f98
def kp : Keeps := []
noncomputable def C (p : List Nat) : Code := (cod fn).sub p
def KR (Q : QT) : KT := retA pg fn.results.toList Q
theorem call (x0 : List Nat) (h : AHeap) (Q : QT) (ht :
 bcase ((((List.length x0 : Nat) : Int) : Int) == 1) (byteAt x0 0 fun b_0 => SCall pg n_spec_l1In [.int .i64 (IntKind.wrap .i64 (((b_0 : Nat) : Int))), .int .i64 65, .int .i64 84] h fun v_1 h_2 =>
 xBool (some v_1) fun b_3 => Q (.bool b_3) h_2) (Q (.bool false) h)) : SCall pg n_spec_l3Capital [.str x0] h Q :=
  SCall.of_body kp (c := cod fn) (fn := fn) Go.Proofs.Tryz.func98 (by kernel_rfl) (by kernel_rfl) (Nat.le_of_ble_eq_true (by kernel_rfl))
    (@cast _ (den pg fn.ntmps kp (cod fn) (Env.args 0 [.str x0]) h (KR Q)) (by kernel_rfl) ht)
end F_spec_l3Capital
end Go.Sim

/- Printed by wip/tool: what the functions' bodies do, in the words of 'den'. -/
set_option maxRecDepth 100000
set_option linter.unusedVariables false
namespace Go.Sim
open Go Go.RowKit
/-! Function loop.example/instancesearch/spec.l13Find -/
namespace F_spec_l13Find
noncomputable abbrev fn : Func := Go.Proofs.Tryz.f83
def kp : Keeps := [(3000002, [4]), (1000002, [0, 1, 5])]
noncomputable def C (p : List Nat) : Code := (cod fn).sub p
def KR (Q : QT) : KT := retA pg fn.results.toList Q
abbrev T2 := List Nat → Int → Int → AHeap → Prop
def E2 (R2 : T2) (env : Env) (h : AHeap) : Prop := eVal 0 env fun v env => xStr (some v) fun x0 => eVal 1 env fun v env => eInt .u8 v fun x1 => eVal 5 env fun v env => eInt .i64 v fun x5 => eNil env (R2 x0 x1 x5 h)
theorem E2elim {R2 : T2} {env : Env} {h : AHeap} (hi : E2 R2 env h) : ∃ x0, ∃ x1, ∃ x5, env = [(0, .str x0), (1, .int .u8 x1), (5, .int .i64 x5)] ∧ R2 x0 x1 x5 h := by
  unfold E2 at hi
  have hi0 := hi
  clear hi
  obtain ⟨v, env, rfl, hi1⟩ := eVal_elim hi0
  obtain ⟨x0, rfl, hi2⟩ := xStr_elim hi1
  obtain ⟨v, env, rfl, hi3⟩ := eVal_elim hi2
  obtain ⟨x1, rfl, hi4⟩ := eInt_elim hi3
  obtain ⟨v, env, rfl, hi5⟩ := eVal_elim hi4
  obtain ⟨x5, rfl, hi6⟩ := eInt_elim hi5
  obtain ⟨rfl, hi7⟩ := eNil_elim hi6
  have hi := hi7
  exact ⟨x0, x1, x5, rfl, hi⟩
def K0 (Q : QT) : KT := andThen (fun env' h' => (match kp.find 4000006 with | some ks => Den pg fn.ntmps (C [1, 1]) (env'.keep ks) h' (KR Q) | none => den pg fn.ntmps kp (C [1, 1]) env' h' (KR Q))) (KR Q)
def K1 (Q : QT) : KT := onExit 0 (K0 Q)
def K2 (Q : QT) : KT := left kp 2 (K1 Q)
def K3 (Q : QT) (R2 : T2) : KT := rnd ((kp.find 1000002).getD []) (E2 R2) (K2 Q)
def L2 (Q : QT) (x0 : List Nat) (x1 x5 : Int) (h : AHeap) : Prop := Loop (Den pg fn.ntmps (C [1, 0, 1, 0, 0])) ((kp.find 1000002).getD []) (K2 Q) [(0, .str x0), (1, .int .u8 x1), (5, .int .i64 x5)] h
def A2x0 (Q : QT) (h : AHeap) : Prop := At (K1 Q) (.exit 0) [(4, .undef)] h
def L2t (Q : QT) (R2 : T2) (x0 : List Nat) (x1 x5 : Int) (h : AHeap) : Prop :=
 bcase (decide ((x5 : Int) < (((List.length x0 : Nat) : Int)))) (byteAt x0 x5 fun b_0 => bcase ((((b_0 : Nat) : Int) : Int) == x1) (Q (.int .i64 x5) h) (R2 x0 x1 (IntKind.wrap .i64 (x5 + 1)) h)) (A2x0 Q h)
theorem L2den (Q : QT) (R2 : T2) (x0 : List Nat) (x1 x5 : Int) (h : AHeap) (ht : L2t Q R2 x0 x1 x5 h) : Den pg fn.ntmps (C [1, 0, 1, 0, 0]) [(0, .str x0), (1, .int .u8 x1), (5, .int .i64 x5)] h (K3 Q R2) :=
  den_Den (kp := kp) (@cast _ (den pg fn.ntmps kp (C [1, 0, 1, 0, 0]) [(0, .str x0), (1, .int .u8 x1), (5, .int .i64 x5)] h (K3 Q R2)) (by kernel_rfl) ht)
theorem L2ind (Q : QT) (x0 : List Nat) (x1 : Int) {G : Type} (J : G → Int → AHeap → Prop) (m : G → Nat)
 (hr : ∀ (g : G) (x5 : Int) (h : AHeap), J g x5 h → ∀ (R2 : T2), (∀ g' (x5 : Int) (h : AHeap), m g' < m g → J g' x5 h → R2 x0 x1 x5 h) → L2t Q R2 x0 x1 x5 h)
 (g : G) (x5 : Int) (h : AHeap) (hj : J g x5 h) : L2 Q x0 x1 x5 h := by
  refine Loop.inv2 (fun g => E2 fun x0' x1' x5 h => x0 = x0' ∧ x1 = x1' ∧ J g x5 h) (fun g => E2 fun x0' x1' x5 h => x0 = x0' ∧ x1 = x1' ∧ ∃ g', m g' < m g ∧ J g' x5 h) m ?_ ?_ g ⟨rfl, rfl, hj⟩
  · intro g env h hi
    obtain ⟨x0', x1', x5, rfl, rfl, rfl, hj⟩ := E2elim hi
    exact L2den Q (fun x0' x1' x5 h => x0 = x0' ∧ x1 = x1' ∧ ∃ g', m g' < m g ∧ J g' x5 h) x0 x1 x5 h (hr g x5 h hj (fun x0' x1' x5 h => x0 = x0' ∧ x1 = x1' ∧ ∃ g', m g' < m g ∧ J g' x5 h) fun g' x5 h hlt hj => ⟨rfl, rfl, g', hlt, hj⟩)
  · intro g env h hi
    obtain ⟨x0', x1', x5, rfl, rfl, rfl, g', hlt, hj⟩ := E2elim hi
    exact ⟨g', hlt, rfl, rfl, hj⟩
theorem A2x0i (Q : QT) (h : AHeap) (ht :
 Q (.int .i64 (-1)) h) : A2x0 Q h :=
  At.mk (@cast _ ((K1 Q) (.exit 0) [(4, .undef)] h) (by kernel_rfl) ht)
theorem call (x0 : List Nat) (x1 : Int) (h : AHeap) (Q : QT) (ht :
 L2 Q x0 x1 0 h) : SCall pg n_spec_l13Find [.str x0, .int .u8 x1] h Q :=
  SCall.of_body kp (c := cod fn) (fn := fn) Go.Proofs.Tryz.func83 (by kernel_rfl) (by kernel_rfl) (Nat.le_of_ble_eq_true (by kernel_rfl))
    (@cast _ (den pg fn.ntmps kp (cod fn) (Env.args 0 [.str x0, .int .u8 x1]) h (KR Q)) (by kernel_rfl) ht)
end F_spec_l13Find
/-! Function loop.example/instancesearch/spec.l1Arity -/
namespace F_spec_l1Arity
noncomputable abbrev fn : Func := Go.Proofs.Tryz.f139
def kp : Keeps := [(4000008, [])]
noncomputable def C (p : List Nat) : Code := (cod fn).sub p
def KR (Q : QT) : KT := retA pg fn.results.toList Q
def J8 (Q : QT) (h : AHeap) : Prop := Den pg fn.ntmps (C [1, 1]) [] h (KR Q)
theorem J8i (Q : QT) (h : AHeap) (ht :
 Q (.int .i64 0) h) : J8 Q h :=
  den_Den (kp := kp) (@cast _ (den pg fn.ntmps kp (C [1, 1]) [] h (KR Q)) (by kernel_rfl) ht)
theorem call (x0 : Int) (h : AHeap) (Q : QT) (ht :
 SCall pg n_spec_l13Find [.str ([105, 98, 117, 108, 109, 112, 120, 121, 122, 88, 89, 90]), .int .u8 x0] h fun v_0 h_1 =>
 xInt .i64 (some v_0) fun x_2 => bcase (decide ((x_2 : Int) < 0)) (Q (.int .i64 (-1)) h_1) (bcase ((x_2 : Int) == 3) (Q (.int .i64 1) h_1) (bcase ((x_2 : Int) == 4) (Q (.int .i64 1) h_1) (bcase ((x_2 : Int) == 5) (Q (.int .i64 2) h_1) (J8 Q h_1))))) : SCall pg n_spec_l1Arity [.int .u8 x0] h Q :=
  SCall.of_body kp (c := cod fn) (fn := fn) Go.Proofs.Tryz.func139 (by kernel_rfl) (by kernel_rfl) (Nat.le_of_ble_eq_true (by kernel_rfl))
    (@cast _ (den pg fn.ntmps kp (cod fn) (Env.args 0 [.int .u8 x0]) h (KR Q)) (by kernel_rfl) ht)
end F_spec_l1Arity
/-! Function (*loop.example/instancesearch/spec.l1Reader).next -/
namespace F_spec_l1Reader_next
noncomputable abbrev fn : Func := Go.Proofs.Tryz.f138
def kp : Keeps := [(2000001, [12, 0]), (2000005, [2])]
noncomputable def C (p : List Nat) : Code := (cod fn).sub p
def KR (Q : QT) : KT := retA pg fn.results.toList Q
theorem call (a0 : Pt) (h : AHeap) (Q : QT) (ht :
 xSome a0 fun i_0 o_1 => xSome a0 fun i_2 o_3 => xInt .i64 (hCell h (.ptr (some (i_0, o_1 + 1)))) fun x_4 => xStr (hCell h (.ptr (some (i_2, o_3 + 0)))) fun s_5 => (hCell h (.ptr (some (i_0, o_1 + 1))) = hCell h (.ptr (some (i_0, o_1 + 1)))) ∧ bcase (decide ((x_4 : Int) ≥ (((List.length s_5 : Nat) : Int)))) (xSome a0 fun i_6 o_7 => xHeap (hStore h (.ptr (some (i_6, o_7 + 2))) [.bool true]) fun h_8 => Q (.int .u8 0) h_8) (xSome a0 fun i_9 o_10 => xInt .i64 (hCell h (.ptr (some (i_9, o_10 + 1)))) fun x_11 => xSome a0 fun i_12 o_13 => xHeap (hStore h (.ptr (some (i_12, o_13 + 1))) [.int .i64 (IntKind.wrap .i64 (x_11 + 1))]) fun h_14 => xSome a0 fun i_15 o_16 => xSome a0 fun i_17 o_18 => xStr (hCell h_14 (.ptr (some (i_15, o_16 + 0)))) fun s_19 => xInt .i64 (hCell h_14 (.ptr (some (i_17, o_18 + 1)))) fun x_20 => (hCell h_14 (.ptr (some (i_15, o_16 + 0))) = hCell h_14 (.ptr (some (i_15, o_16 + 0)))) ∧ byteAt s_19 (IntKind.wrap .i64 (x_20 - 1)) fun b_21 => Q (.int .u8 (((b_21 : Nat) : Int))) h_14)) : SCall pg n_spec_l1Reader_next [.ptr a0] h Q :=
  SCall.of_body kp (c := cod fn) (fn := fn) Go.Proofs.Tryz.func138 (by kernel_rfl) (by kernel_rfl) (Nat.le_of_ble_eq_true (by kernel_rfl))
    (@cast _ (den pg fn.ntmps kp (cod fn) (Env.args 0 [.ptr a0]) h (KR Q)) (by kernel_rfl) ht)
end F_spec_l1Reader_next
/-! Function (*loop.example/instancesearch/spec.l1Reader).node -/
namespace F_spec_l1Reader_node
noncomputable abbrev fn : Func := Go.Proofs.Tryz.f127
def kp : Keeps := [(4000004, [0, 2, 3, 4]), (3000005, [4, 0, 3, 2]), (1000005, [0, 2, 3, 4, 5]), (4000007, [0, 5, 3, 4, 2]), (2000007, [0, 3, 5, 4, 2]), (4000008, [0, 3, 5, 4, 2]), (2000009, [5, 4, 0, 3, 2]), (4000006, [5, 4, 0, 3, 2]), (4000012, [3, 2])]
noncomputable def C (p : List Nat) : Code := (cod fn).sub p
def KR (Q : QT) : KT := retA pg fn.results.toList Q
abbrev T5 := Pt → Nat → Nat → Nat → Nat → Int → Int → AHeap → Prop
def E5 (R5 : T5) (env : Env) (h : AHeap) : Prop := eVal 0 env fun v env => xPtr (some v) fun a0 => eVal 2 env fun v env => xPtr (some v) fun a => xSome a fun i2 o2 => eVal 3 env fun v env => xPtr (some v) fun a => xSome a fun i3 o3 => eVal 4 env fun v env => eInt .i64 v fun x4 => eVal 5 env fun v env => eInt .i64 v fun x5 => eNil env (R5 a0 i2 o2 i3 o3 x4 x5 h)
theorem E5elim {R5 : T5} {env : Env} {h : AHeap} (hi : E5 R5 env h) : ∃ a0, ∃ i2, ∃ o2, ∃ i3, ∃ o3, ∃ x4, ∃ x5, env = [(0, .ptr a0), (2, .ptr (some (i2, o2))), (3, .ptr (some (i3, o3))), (4, .int .i64 x4), (5, .int .i64 x5)] ∧ R5 a0 i2 o2 i3 o3 x4 x5 h := by
  unfold E5 at hi
  have hi0 := hi
  clear hi
  obtain ⟨v, env, rfl, hi1⟩ := eVal_elim hi0
  obtain ⟨a0, rfl, hi2⟩ := xPtr_elim hi1
  obtain ⟨v, env, rfl, hi3⟩ := eVal_elim hi2
  obtain ⟨a, rfl, hi4⟩ := xPtr_elim hi3
  obtain ⟨i2, o2, rfl, hi5⟩ := xSome_elim hi4
  obtain ⟨v, env, rfl, hi6⟩ := eVal_elim hi5
  obtain ⟨a, rfl, hi7⟩ := xPtr_elim hi6
  obtain ⟨i3, o3, rfl, hi8⟩ := xSome_elim hi7
  obtain ⟨v, env, rfl, hi9⟩ := eVal_elim hi8
  obtain ⟨x4, rfl, hi10⟩ := eInt_elim hi9
  obtain ⟨v, env, rfl, hi11⟩ := eVal_elim hi10
  obtain ⟨x5, rfl, hi12⟩ := eInt_elim hi11
  obtain ⟨rfl, hi13⟩ := eNil_elim hi12
  have hi := hi13
  exact ⟨a0, i2, o2, i3, o3, x4, x5, rfl, hi⟩
def K0 (Q : QT) : KT := andThen (fun env' h' => (match kp.find 4000010 with | some ks => Den pg fn.ntmps (C [1, 1, 1, 1, 1]) (env'.keep ks) h' (KR Q) | none => den pg fn.ntmps kp (C [1, 1, 1, 1, 1]) env' h' (KR Q))) (KR Q)
def K1 (Q : QT) : KT := onExit 0 (K0 Q)
def K2 (Q : QT) : KT := left kp 5 (K1 Q)
def K3 (Q : QT) (R5 : T5) : KT := rnd ((kp.find 1000005).getD []) (E5 R5) (K2 Q)
def K4 (Q : QT) (R5 : T5) : KT := andThen (fun env' h' => (match kp.find 4000006 with | some ks => Den pg fn.ntmps (C [1, 1, 1, 1, 0, 1, 0, 0, 1, 1]) (env'.keep ks) h' (K3 Q R5) | none => den pg fn.ntmps kp (C [1, 1, 1, 1, 0, 1, 0, 0, 1, 1]) env' h' (K3 Q R5))) (K3 Q R5)
def K5 (Q : QT) (R5 : T5) : KT := onExit 1 (K4 Q R5)
def J4 (Q : QT) (a0 : Pt) (i2 o2 i3 o3 : Nat) (x4 : Int) (h : AHeap) : Prop := Den pg fn.ntmps (C [1, 1, 1, 1]) [(0, .ptr a0), (2, .ptr (some (i2, o2))), (3, .ptr (some (i3, o3))), (4, .int .i64 x4)] h (KR Q)
def L5 (Q : QT) (a0 : Pt) (i2 o2 i3 o3 : Nat) (x4 x5 : Int) (h : AHeap) : Prop := Loop (Den pg fn.ntmps (C [1, 1, 1, 1, 0, 1, 0, 0])) ((kp.find 1000005).getD []) (K2 Q) [(0, .ptr a0), (2, .ptr (some (i2, o2))), (3, .ptr (some (i3, o3))), (4, .int .i64 x4), (5, .int .i64 x5)] h
def J7 (Q : QT) (R5 : T5) (a0 : Pt) (x5 : Int) (i3 o3 : Nat) (x4 : Int) (i2 o2 : Nat) (h : AHeap) : Prop := Den pg fn.ntmps (C [1, 1, 1, 1, 0, 1, 0, 0, 1]) [(0, .ptr a0), (5, .int .i64 x5), (3, .ptr (some (i3, o3))), (4, .int .i64 x4), (2, .ptr (some (i2, o2)))] h (K3 Q R5)
def A5x0 (Q : QT) (x4 : Int) (a0 : Pt) (i3 o3 i2 o2 : Nat) (h : AHeap) : Prop := At (K1 Q) (.exit 0) [(4, .int .i64 x4), (0, .ptr a0), (3, .ptr (some (i3, o3))), (2, .ptr (some (i2, o2)))] h
def J8 (Q : QT) (R5 : T5) (a0 : Pt) (i3 o3 : Nat) (x5 x4 : Int) (i2 o2 : Nat) (h : AHeap) : Prop := Den pg fn.ntmps (C [1, 1, 1, 1, 0, 1, 0, 0, 1, 0, 0, 1]) [(0, .ptr a0), (3, .ptr (some (i3, o3))), (5, .int .i64 x5), (4, .int .i64 x4), (2, .ptr (some (i2, o2)))] h (K5 Q R5)
def J12 (Q : QT) (i3 o3 i2 o2 : Nat) (h : AHeap) : Prop := Den pg fn.ntmps (C [1, 1, 1, 1, 1, 1]) [(3, .ptr (some (i3, o3))), (2, .ptr (some (i2, o2)))] h (KR Q)
def J6 (Q : QT) (R5 : T5) (x5 x4 : Int) (a0 : Pt) (i3 o3 i2 o2 : Nat) (h : AHeap) : Prop := Den pg fn.ntmps (C [1, 1, 1, 1, 0, 1, 0, 0, 1, 1]) [(5, .int .i64 x5), (4, .int .i64 x4), (0, .ptr a0), (3, .ptr (some (i3, o3))), (2, .ptr (some (i2, o2)))] h (K3 Q R5)
theorem J4i (Q : QT) (a0 : Pt) (i2 o2 i3 o3 : Nat) (x4 : Int) (h : AHeap) (ht :
 L5 Q a0 i2 o2 i3 o3 x4 0 h) : J4 Q a0 i2 o2 i3 o3 x4 h :=
  den_Den (kp := kp) (@cast _ (den pg fn.ntmps kp (C [1, 1, 1, 1]) [(0, .ptr a0), (2, .ptr (some (i2, o2))), (3, .ptr (some (i3, o3))), (4, .int .i64 x4)] h (KR Q)) (by kernel_rfl) ht)
def L5t (Q : QT) (R5 : T5) (a0 : Pt) (i2 o2 i3 o3 : Nat) (x4 x5 : Int) (h : AHeap) : Prop :=
 bcase (decide ((x5 : Int) < x4)) (xSome a0 fun i_20 o_21 => xBool (hCell h (.ptr (some (i_20, o_21 + 2)))) fun b_22 => bcase (!b_22) (J7 Q R5 a0 x5 i3 o3 x4 i2 o2 h) (A5x0 Q x4 a0 i3 o3 i2 o2 h)) (A5x0 Q x4 a0 i3 o3 i2 o2 h)
theorem L5den (Q : QT) (R5 : T5) (a0 : Pt) (i2 o2 i3 o3 : Nat) (x4 x5 : Int) (h : AHeap) (ht : L5t Q R5 a0 i2 o2 i3 o3 x4 x5 h) : Den pg fn.ntmps (C [1, 1, 1, 1, 0, 1, 0, 0]) [(0, .ptr a0), (2, .ptr (some (i2, o2))), (3, .ptr (some (i3, o3))), (4, .int .i64 x4), (5, .int .i64 x5)] h (K3 Q R5) :=
  den_Den (kp := kp) (@cast _ (den pg fn.ntmps kp (C [1, 1, 1, 1, 0, 1, 0, 0]) [(0, .ptr a0), (2, .ptr (some (i2, o2))), (3, .ptr (some (i3, o3))), (4, .int .i64 x4), (5, .int .i64 x5)] h (K3 Q R5)) (by kernel_rfl) ht)
theorem L5ind (Q : QT) (a0 : Pt) (i2 o2 i3 o3 : Nat) (x4 : Int) {G : Type} (J : G → Int → AHeap → Prop) (m : G → Nat)
 (hr : ∀ (g : G) (x5 : Int) (h : AHeap), J g x5 h → ∀ (R5 : T5), (∀ g' (x5 : Int) (h : AHeap), m g' < m g → J g' x5 h → R5 a0 i2 o2 i3 o3 x4 x5 h) → L5t Q R5 a0 i2 o2 i3 o3 x4 x5 h)
 (g : G) (x5 : Int) (h : AHeap) (hj : J g x5 h) : L5 Q a0 i2 o2 i3 o3 x4 x5 h := by
  refine Loop.inv2 (fun g => E5 fun a0' i2' o2' i3' o3' x4' x5 h => a0 = a0' ∧ i2 = i2' ∧ o2 = o2' ∧ i3 = i3' ∧ o3 = o3' ∧ x4 = x4' ∧ J g x5 h) (fun g => E5 fun a0' i2' o2' i3' o3' x4' x5 h => a0 = a0' ∧ i2 = i2' ∧ o2 = o2' ∧ i3 = i3' ∧ o3 = o3' ∧ x4 = x4' ∧ ∃ g', m g' < m g ∧ J g' x5 h) m ?_ ?_ g ⟨rfl, rfl, rfl, rfl, rfl, rfl, hj⟩
  · intro g env h hi
    obtain ⟨a0', i2', o2', i3', o3', x4', x5, rfl, rfl, rfl, rfl, rfl, rfl, rfl, hj⟩ := E5elim hi
    exact L5den Q (fun a0' i2' o2' i3' o3' x4' x5 h => a0 = a0' ∧ i2 = i2' ∧ o2 = o2' ∧ i3 = i3' ∧ o3 = o3' ∧ x4 = x4' ∧ ∃ g', m g' < m g ∧ J g' x5 h) a0 i2 o2 i3 o3 x4 x5 h (hr g x5 h hj (fun a0' i2' o2' i3' o3' x4' x5 h => a0 = a0' ∧ i2 = i2' ∧ o2 = o2' ∧ i3 = i3' ∧ o3 = o3' ∧ x4 = x4' ∧ ∃ g', m g' < m g ∧ J g' x5 h) fun g' x5 h hlt hj => ⟨rfl, rfl, rfl, rfl, rfl, rfl, g', hlt, hj⟩)
  · intro g env h hi
    obtain ⟨a0', i2', o2', i3', o3', x4', x5, rfl, rfl, rfl, rfl, rfl, rfl, rfl, g', hlt, hj⟩ := E5elim hi
    exact ⟨g', hlt, rfl, rfl, rfl, rfl, rfl, rfl, hj⟩
theorem J7i (Q : QT) (R5 : T5) (a0 : Pt) (x5 : Int) (i3 o3 : Nat) (x4 : Int) (i2 o2 : Nat) (h : AHeap) (ht :
 byteAt ([40, 44]) x5 fun b_23 => SCall pg n_spec_l1Reader_next [.ptr a0] h fun v_24 h_25 =>
 xInt .u8 (some v_24) fun x_26 => bcase (!((x_26 : Int) == (((b_23 : Nat) : Int)))) (xSome a0 fun i_27 o_28 => xHeap (hStore h_25 (.ptr (some (i_27, o_28 + 2))) [.bool true]) fun h_29 => J8 Q R5 a0 i3 o3 x5 x4 i2 o2 h_29) (xSome a0 fun i_30 o_31 => xBool (hCell h_25 (.ptr (some (i_30, o_31 + 2)))) fun b_32 => xSome a0 fun i_33 o_34 => xHeap (hStore h_25 (.ptr (some (i_33, o_34 + 2))) [.bool b_32]) fun h_35 => J8 Q R5 a0 i3 o3 x5 x4 i2 o2 h_35)) : J7 Q R5 a0 x5 i3 o3 x4 i2 o2 h :=
  den_Den (kp := kp) (@cast _ (den pg fn.ntmps kp (C [1, 1, 1, 1, 0, 1, 0, 0, 1]) [(0, .ptr a0), (5, .int .i64 x5), (3, .ptr (some (i3, o3))), (4, .int .i64 x4), (2, .ptr (some (i2, o2)))] h (K3 Q R5)) (by kernel_rfl) ht)
theorem A5x0i (Q : QT) (x4 : Int) (a0 : Pt) (i3 o3 i2 o2 : Nat) (h : AHeap) (ht :
 bcase (decide ((x4 : Int) > 0)) (xSome a0 fun i_36 o_37 => xBool (hCell h (.ptr (some (i_36, o_37 + 2)))) fun b_38 => bcase (!b_38) (SCall pg n_spec_l1Reader_next [.ptr a0] h fun v_39 h_40 =>
 xInt .u8 (some v_39) fun x_41 => bcase (!((x_41 : Int) == 41)) (xSome a0 fun i_42 o_43 => xHeap (hStore h_40 (.ptr (some (i_42, o_43 + 2))) [.bool true]) fun h_44 => J12 Q i3 o3 i2 o2 h_44) (xSome a0 fun i_45 o_46 => xBool (hCell h_40 (.ptr (some (i_45, o_46 + 2)))) fun b_47 => xSome a0 fun i_48 o_49 => xHeap (hStore h_40 (.ptr (some (i_48, o_49 + 2))) [.bool b_47]) fun h_50 => J12 Q i3 o3 i2 o2 h_50)) (J12 Q i3 o3 i2 o2 h)) (J12 Q i3 o3 i2 o2 h)) : A5x0 Q x4 a0 i3 o3 i2 o2 h :=
  At.mk (@cast _ ((K1 Q) (.exit 0) [(4, .int .i64 x4), (0, .ptr a0), (3, .ptr (some (i3, o3))), (2, .ptr (some (i2, o2)))] h) (by kernel_rfl) ht)
theorem J8i (Q : QT) (R5 : T5) (a0 : Pt) (i3 o3 : Nat) (x5 x4 : Int) (i2 o2 : Nat) (h : AHeap) (ht :
 xSome a0 fun i_51 o_52 => xBool (hCell h (.ptr (some (i_51, o_52 + 2)))) fun b_53 => bcase (!b_53) (xSl (hCell h (.ptr (some (i3, o3 + 1)))) fun a_54 n_55 c_56 e_57 => SCall pg n_spec_l1Reader_node [.ptr a0] h fun v_58 h_59 =>
 xAgg v_58 fun cs_60 => xCons cs_60 fun c_61 r_62 => xInt .u8 (some c_61) fun x_63 => xCons r_62 fun c_64 r_65 => xSl (some c_64) fun a_66 n_67 c_68 e_69 => xNil r_65 ((hCell h_59 (.ptr (some (i3, o3 + 1))) = hCell h (.ptr (some (i3, o3 + 1)))) ∧ letH (h_59 ++ [.cells t_spec_l1Node [.int .u8 x_63, .slice a_66 n_67 c_68 e_69] false]) fun h_70 => (hCell h_70 (.ptr (some (i3, o3 + 1))) = hCell h_59 (.ptr (some (i3, o3 + 1)))) ∧ appendA pg t_L_spec_l1Node h_70 (.slice a_54 n_55 c_56 e_57) (.slice (some (List.length h_59, 0)) 1 1 true) fun v_71 h_72 => xSl (some v_71) fun a_73 n_74 c_75 e_76 => xHeap (hStore h_72 (.ptr (some (i3, o3 + 1))) [.slice a_73 n_74 c_75 e_76]) fun h_77 => J6 Q R5 x5 x4 a0 i3 o3 i2 o2 h_77)) (J6 Q R5 x5 x4 a0 i3 o3 i2 o2 h)) : J8 Q R5 a0 i3 o3 x5 x4 i2 o2 h :=
  den_Den (kp := kp) (@cast _ (den pg fn.ntmps kp (C [1, 1, 1, 1, 0, 1, 0, 0, 1, 0, 0, 1]) [(0, .ptr a0), (3, .ptr (some (i3, o3))), (5, .int .i64 x5), (4, .int .i64 x4), (2, .ptr (some (i2, o2)))] h (K5 Q R5)) (by kernel_rfl) ht)
theorem J12i (Q : QT) (i3 o3 i2 o2 : Nat) (h : AHeap) (ht :
 xRow (hRow h (.ptr (some (i3, o3))) 2) fun cs_78 => xCons cs_78 fun c_79 r_80 => xInt .u8 (some c_79) fun x_81 => xCons r_80 fun c_82 r_83 => xSl (some c_82) fun a_84 n_85 c_86 e_87 => xNil r_83 (xHeap (hStore h (.ptr (some (i2, o2))) [.int .u8 x_81, .slice a_84 n_85 c_86 e_87]) fun h_88 => xRow (hRow h_88 (.ptr (some (i2, o2))) 2) fun cs_89 => xCons cs_89 fun c_90 r_91 => xInt .u8 (some c_90) fun x_92 => xCons r_91 fun c_93 r_94 => xSl (some c_93) fun a_95 n_96 c_97 e_98 => xNil r_94 (Q (.agg [.int .u8 x_92, .slice a_95 n_96 c_97 e_98]) h_88))) : J12 Q i3 o3 i2 o2 h :=
  den_Den (kp := kp) (@cast _ (den pg fn.ntmps kp (C [1, 1, 1, 1, 1, 1]) [(3, .ptr (some (i3, o3))), (2, .ptr (some (i2, o2)))] h (KR Q)) (by kernel_rfl) ht)
theorem J6i (Q : QT) (R5 : T5) (x5 x4 : Int) (a0 : Pt) (i3 o3 i2 o2 : Nat) (h : AHeap) (ht :
 R5 a0 i2 o2 i3 o3 x4 (IntKind.wrap .i64 (x5 + 1)) h) : J6 Q R5 x5 x4 a0 i3 o3 i2 o2 h :=
  den_Den (kp := kp) (@cast _ (den pg fn.ntmps kp (C [1, 1, 1, 1, 0, 1, 0, 0, 1, 1]) [(5, .int .i64 x5), (4, .int .i64 x4), (0, .ptr a0), (3, .ptr (some (i3, o3))), (2, .ptr (some (i2, o2)))] h (K3 Q R5)) (by kernel_rfl) ht)
theorem call (a0 : Pt) (h : AHeap) (Q : QT) (ht :
 letH (h ++ [.cells t_spec_l1Node [.int .u8 0, .slice none 0 0 true] false]) fun h_0 => SCall pg n_spec_l1Reader_next [.ptr a0] h_0 fun v_1 h_2 =>
 xInt .u8 (some v_1) fun x_3 => letH (h_2 ++ [.cells t_spec_l1Node [] false]) fun h_4 => letH (h_4 ++ [.cells t_spec_l1Node [.int .u8 0, .slice none 0 0 true] false]) fun h_5 => xHeap (hStore h_5 (.ptr (some (List.length h_4, 0))) [.int .u8 x_3, .slice (some (List.length h_2, 0)) 0 0 true]) fun h_6 => xInt .u8 (hCell h_6 (.ptr (some (List.length h_4, 0 + 0)))) fun x_7 => SCall pg n_spec_l1Arity [.int .u8 x_7] h_6 fun v_8 h_9 =>
 xInt .i64 (some v_8) fun x_10 => xSome a0 fun i_11 o_12 => xBool (hCell h_9 (.ptr (some (i_11, o_12 + 2)))) fun b_13 => bcase b_13 (xSome a0 fun i_14 o_15 => xHeap (hStore h_9 (.ptr (some (i_14, o_15 + 2))) [.bool true]) fun h_16 => J4 Q a0 (List.length h) 0 (List.length h_4) 0 x_10 h_16) (xSome a0 fun i_17 o_18 => xHeap (hStore h_9 (.ptr (some (i_17, o_18 + 2))) [.bool (decide ((x_10 : Int) < 0))]) fun h_19 => J4 Q a0 (List.length h) 0 (List.length h_4) 0 x_10 h_19)) : SCall pg n_spec_l1Reader_node [.ptr a0] h Q :=
  SCall.of_body kp (c := cod fn) (fn := fn) Go.Proofs.Tryz.func127 (by kernel_rfl) (by kernel_rfl) (Nat.le_of_ble_eq_true (by kernel_rfl))
    (@cast _ (den pg fn.ntmps kp (cod fn) (Env.args 0 [.ptr a0]) h (KR Q)) (by kernel_rfl) ht)
end F_spec_l1Reader_node
/-! Function loop.example/instancesearch/spec.l1Read -/
namespace F_spec_l1Read
noncomputable abbrev fn : Func := Go.Proofs.Tryz.f99
def kp : Keeps := [(4000005, [5, 2])]
noncomputable def C (p : List Nat) : Code := (cod fn).sub p
def KR (Q : QT) : KT := retA pg fn.results.toList Q
def J5 (Q : QT) (i5 o5 i2 o2 : Nat) (h : AHeap) : Prop := Den pg fn.ntmps (C [1, 1, 1, 1]) [(5, .ptr (some (i5, o5))), (2, .ptr (some (i2, o2)))] h (KR Q)
theorem J5i (Q : QT) (i5 o5 i2 o2 : Nat) (h : AHeap) (ht :
 xRow (hRow h (.ptr (some (i5, o5))) 2) fun cs_51 => xCons cs_51 fun c_52 r_53 => xInt .u8 (some c_52) fun x_54 => xCons r_53 fun c_55 r_56 => xSl (some c_55) fun a_57 n_58 c_59 e_60 => xNil r_56 (xHeap (hStore h (.ptr (some (i2, o2))) [.int .u8 x_54, .slice a_57 n_58 c_59 e_60]) fun h_61 => xRow (hRow h_61 (.ptr (some (i2, o2))) 2) fun cs_62 => xCons cs_62 fun c_63 r_64 => xInt .u8 (some c_63) fun x_65 => xCons r_64 fun c_66 r_67 => xSl (some c_66) fun a_68 n_69 c_70 e_71 => xNil r_67 (Q (.tup [.agg [.int .u8 x_65, .slice a_68 n_69 c_70 e_71], .bool true]) h_61))) : J5 Q i5 o5 i2 o2 h :=
  den_Den (kp := kp) (@cast _ (den pg fn.ntmps kp (C [1, 1, 1, 1]) [(5, .ptr (some (i5, o5))), (2, .ptr (some (i2, o2)))] h (KR Q)) (by kernel_rfl) ht)
theorem call (x0 : List Nat) (h : AHeap) (Q : QT) (ht :
 letH (h ++ [.cells t_spec_l1Node [.int .u8 0, .slice none 0 0 true] false]) fun h_0 => letH (h_0 ++ [.cells t_spec_l1Reader [.str x0, .int .i64 0, .bool false] false]) fun h_1 => SCall pg n_spec_l1Reader_node [.ptr (some (List.length h_0, 0))] h_1 fun v_2 h_3 =>
 xAgg v_2 fun cs_4 => xCons cs_4 fun c_5 r_6 => xInt .u8 (some c_5) fun x_7 => xCons r_6 fun c_8 r_9 => xSl (some c_8) fun a_10 n_11 c_12 e_13 => xNil r_9 (letH (h_3 ++ [.cells t_spec_l1Node [.int .u8 0, .slice none 0 0 true] false]) fun h_14 => xHeap (hStore h_14 (.ptr (some (List.length h_3, 0))) [.int .u8 x_7, .slice a_10 n_11 c_12 e_13]) fun h_15 => xBool (hCell h_15 (.ptr (some (List.length h_0, 0 + 2)))) fun b_16 => bcase b_16 (xHeap (hStore h_15 (.ptr (some (List.length h, 0))) [.int .u8 0, .slice none 0 0 true]) fun h_17 => xRow (hRow h_17 (.ptr (some (List.length h, 0))) 2) fun cs_18 => xCons cs_18 fun c_19 r_20 => xInt .u8 (some c_19) fun x_21 => xCons r_20 fun c_22 r_23 => xSl (some c_22) fun a_24 n_25 c_26 e_27 => xNil r_23 (Q (.tup [.agg [.int .u8 x_21, .slice a_24 n_25 c_26 e_27], .bool false]) h_17)) (xInt .i64 (hCell h_15 (.ptr (some (List.length h_0, 0 + 1)))) fun x_28 => bcase (!((x_28 : Int) == (((List.length x0 : Nat) : Int)))) (xHeap (hStore h_15 (.ptr (some (List.length h, 0))) [.int .u8 0, .slice none 0 0 true]) fun h_29 => xRow (hRow h_29 (.ptr (some (List.length h, 0))) 2) fun cs_30 => xCons cs_30 fun c_31 r_32 => xInt .u8 (some c_31) fun x_33 => xCons r_32 fun c_34 r_35 => xSl (some c_34) fun a_36 n_37 c_38 e_39 => xNil r_35 (Q (.tup [.agg [.int .u8 x_33, .slice a_36 n_37 c_38 e_39], .bool false]) h_29)) (bcase (decide (((((List.length x0 : Nat) : Int)) : Int) > 60)) (xHeap (hStore h_15 (.ptr (some (List.length h, 0))) [.int .u8 0, .slice none 0 0 true]) fun h_40 => xRow (hRow h_40 (.ptr (some (List.length h, 0))) 2) fun cs_41 => xCons cs_41 fun c_42 r_43 => xInt .u8 (some c_42) fun x_44 => xCons r_43 fun c_45 r_46 => xSl (some c_45) fun a_47 n_48 c_49 e_50 => xNil r_46 (Q (.tup [.agg [.int .u8 x_44, .slice a_47 n_48 c_49 e_50], .bool false]) h_40)) (J5 Q (List.length h_3) 0 (List.length h) 0 h_15))))) : SCall pg n_spec_l1Read [.str x0] h Q :=
  SCall.of_body kp (c := cod fn) (fn := fn) Go.Proofs.Tryz.func99 (by kernel_rfl) (by kernel_rfl) (Nat.le_of_ble_eq_true (by kernel_rfl))
    (@cast _ (den pg fn.ntmps kp (cod fn) (Env.args 0 [.str x0]) h (KR Q)) (by kernel_rfl) ht)
end F_spec_l1Read
/-! Function loop.example/instancesearch/spec.TypeValid -/
namespace F_spec_TypeValid
noncomputable abbrev fn : Func := Go.Proofs.Tryz.f95
def kp : Keeps := []
noncomputable def C (p : List Nat) : Code := (cod fn).sub p
def KR (Q : QT) : KT := retA pg fn.results.toList Q
theorem call (x0 : List Nat) (h : AHeap) (Q : QT) (ht :
 SCall pg n_spec_l1Read [.str x0] h fun v_0 h_1 =>
 xTup v_0 fun cs_2 => xCons cs_2 fun c_3 r_4 => xAgg c_3 fun cs_5 => xCons cs_5 fun c_6 r_7 => xInt .u8 (some c_6) fun x_8 => xCons r_7 fun c_9 r_10 => xSl (some c_9) fun a_11 n_12 c_13 e_14 => xNil r_10 (xCons r_4 fun c_15 r_16 => xBool (some c_15) fun b_17 => xNil r_16 (letH (h_1 ++ [.cells t_spec_l1Node [.int .u8 0, .slice none 0 0 true] false]) fun h_18 => xHeap (hStore h_18 (.ptr (some (List.length h_1, 0))) [.int .u8 x_8, .slice a_11 n_12 c_13 e_14]) fun h_19 => Q (.bool b_17) h_19))) : SCall pg n_spec_TypeValid [.str x0] h Q :=
  SCall.of_body kp (c := cod fn) (fn := fn) Go.Proofs.Tryz.func95 (by kernel_rfl) (by kernel_rfl) (Nat.le_of_ble_eq_true (by kernel_rfl))
    (@cast _ (den pg fn.ntmps kp (cod fn) (Env.args 0 [.str x0]) h (KR Q)) (by kernel_rfl) ht)
end F_spec_TypeValid
end Go.Sim
