/- Printed by wip/tool: what the functions' bodies do, in the words of 'den'. -/
import Derived.Test.YtgiiilhdmfddcaaDoorNm
set_option linter.unusedSimpArgs false
set_option linter.all false
set_option maxRecDepth 100000
set_option linter.unusedVariables false
namespace Go.Sim
open Go Go.RowKit
/-! Function loop.example/instancesearch/laws.markNeedS -/
namespace F_laws_markNeedS
noncomputable abbrev fn : Func := Go.Proofs.Tryd.f25
def kp : Keeps := [(3000002, [1]), (1000002, [0, 1, 5])]
noncomputable def C (p : List Nat) : Code := (cod fn).sub p
def KR (Q : QT) : KT := retA pg fn.results.toList Q
abbrev T2 := Pt → Nat → Nat → Bool → Int → Int → AHeap → Prop
def E2 (R2 : T2) (env : Env) (h : AHeap) : Prop := eVal 0 env fun v env => xSl (some v) fun a0 n0 c0 e0 => eVal 1 env fun v env => eInt .i64 v fun x1 => eVal 5 env fun v env => eInt .i64 v fun x5 => eNil env (R2 a0 n0 c0 e0 x1 x5 h)
theorem E2elim {R2 : T2} {env : Env} {h : AHeap} (hi : E2 R2 env h) : ∃ a0, ∃ n0, ∃ c0, ∃ e0, ∃ x1, ∃ x5, env = [(0, .slice a0 n0 c0 e0), (1, .int .i64 x1), (5, .int .i64 x5)] ∧ R2 a0 n0 c0 e0 x1 x5 h := by
  unfold E2 at hi
  have hi0 := hi
  clear hi
  obtain ⟨v, env, rfl, hi1⟩ := eVal_elim hi0
  obtain ⟨a0, n0, c0, e0, rfl, hi2⟩ := xSl_elim hi1
  obtain ⟨v, env, rfl, hi3⟩ := eVal_elim hi2
  obtain ⟨x1, rfl, hi4⟩ := eInt_elim hi3
  obtain ⟨v, env, rfl, hi5⟩ := eVal_elim hi4
  obtain ⟨x5, rfl, hi6⟩ := eInt_elim hi5
  obtain ⟨rfl, hi7⟩ := eNil_elim hi6
  have hi := hi7
  exact ⟨a0, n0, c0, e0, x1, x5, rfl, hi⟩
def K0 (Q : QT) : KT := andThen (fun env' h' => (match kp.find 4000008 with | some ks => Den pg fn.ntmps (C [1, 1]) (env'.keep ks) h' (KR Q) | none => den pg fn.ntmps kp (C [1, 1]) env' h' (KR Q))) (KR Q)
def K1 (Q : QT) : KT := onExit 0 (K0 Q)
def K2 (Q : QT) : KT := left kp 2 (K1 Q)
def K3 (Q : QT) (R2 : T2) : KT := rnd ((kp.find 1000002).getD []) (E2 R2) (K2 Q)
def L2 (Q : QT) (a0 : Pt) (n0 c0 : Nat) (e0 : Bool) (x1 x5 : Int) (h : AHeap) : Prop := Loop (Den pg fn.ntmps (C [1, 0, 1, 0, 0])) ((kp.find 1000002).getD []) (K2 Q) [(0, .slice a0 n0 c0 e0), (1, .int .i64 x1), (5, .int .i64 x5)] h
def A2x0 (Q : QT) (x1 : Int) (h : AHeap) : Prop := At (K1 Q) (.exit 0) [(1, .int .i64 x1)] h
def L2t (Q : QT) (R2 : T2) (a0 : Pt) (n0 c0 : Nat) (e0 : Bool) (x1 x5 : Int) (h : AHeap) : Prop :=
 bcase (decide ((x5 : Int) < (((n0 : Nat) : Int)))) (SCall pg n_laws_markText [.int .i64 x1] h fun v_0 h_1 =>
 xStr (some v_0) fun s_2 => (0 ≤ (x5 : Int) ∧ (x5 : Int) < (n0 : Nat)) ∧ (xSome a0 fun i_3 o_4 => xHeap (hStore h_1 (.ptr (some (i_3, o_4 + (Int.toNat x5) * 2 + 0))) [.str s_2]) fun h_5 => SCall pg n_laws_markText [.int .i64 (IntKind.wrap .i64 (x1 + 1))] h_5 fun v_6 h_7 =>
 xStr (some v_6) fun s_8 => (0 ≤ (x5 : Int) ∧ (x5 : Int) < (n0 : Nat)) ∧ (xSome a0 fun i_9 o_10 => xHeap (hStore h_7 (.ptr (some (i_9, o_10 + (Int.toNat x5) * 2 + 1))) [.str s_8]) fun h_11 => R2 a0 n0 c0 e0 (IntKind.wrap .i64 ((IntKind.wrap .i64 (x1 + 1)) + 1)) (IntKind.wrap .i64 (x5 + 1)) h_11))) (A2x0 Q x1 h)
theorem L2den (Q : QT) (R2 : T2) (a0 : Pt) (n0 c0 : Nat) (e0 : Bool) (x1 x5 : Int) (h : AHeap) (ht : L2t Q R2 a0 n0 c0 e0 x1 x5 h) : Den pg fn.ntmps (C [1, 0, 1, 0, 0]) [(0, .slice a0 n0 c0 e0), (1, .int .i64 x1), (5, .int .i64 x5)] h (K3 Q R2) :=
  den_Den (kp := kp) (@cast _ (den pg fn.ntmps kp (C [1, 0, 1, 0, 0]) [(0, .slice a0 n0 c0 e0), (1, .int .i64 x1), (5, .int .i64 x5)] h (K3 Q R2)) (by kernel_rfl) ht)
theorem L2ind (Q : QT) (a0 : Pt) (n0 c0 : Nat) (e0 : Bool) {G : Type} (J : G → Int → Int → AHeap → Prop) (m : G → Nat)
 (hr : ∀ (g : G) (x1 x5 : Int) (h : AHeap), J g x1 x5 h → ∀ (R2 : T2), (∀ g' (x1 x5 : Int) (h : AHeap), m g' < m g → J g' x1 x5 h → R2 a0 n0 c0 e0 x1 x5 h) → L2t Q R2 a0 n0 c0 e0 x1 x5 h)
 (g : G) (x1 x5 : Int) (h : AHeap) (hj : J g x1 x5 h) : L2 Q a0 n0 c0 e0 x1 x5 h := by
  refine Loop.inv2 (fun g => E2 fun a0' n0' c0' e0' x1 x5 h => a0 = a0' ∧ n0 = n0' ∧ c0 = c0' ∧ e0 = e0' ∧ J g x1 x5 h) (fun g => E2 fun a0' n0' c0' e0' x1 x5 h => a0 = a0' ∧ n0 = n0' ∧ c0 = c0' ∧ e0 = e0' ∧ ∃ g', m g' < m g ∧ J g' x1 x5 h) m ?_ ?_ g ⟨rfl, rfl, rfl, rfl, hj⟩
  · intro g env h hi
    obtain ⟨a0', n0', c0', e0', x1, x5, rfl, rfl, rfl, rfl, rfl, hj⟩ := E2elim hi
    exact L2den Q (fun a0' n0' c0' e0' x1 x5 h => a0 = a0' ∧ n0 = n0' ∧ c0 = c0' ∧ e0 = e0' ∧ ∃ g', m g' < m g ∧ J g' x1 x5 h) a0 n0 c0 e0 x1 x5 h (hr g x1 x5 h hj (fun a0' n0' c0' e0' x1 x5 h => a0 = a0' ∧ n0 = n0' ∧ c0 = c0' ∧ e0 = e0' ∧ ∃ g', m g' < m g ∧ J g' x1 x5 h) fun g' x1 x5 h hlt hj => ⟨rfl, rfl, rfl, rfl, g', hlt, hj⟩)
  · intro g env h hi
    obtain ⟨a0', n0', c0', e0', x1, x5, rfl, rfl, rfl, rfl, rfl, g', hlt, hj⟩ := E2elim hi
    exact ⟨g', hlt, rfl, rfl, rfl, rfl, hj⟩
theorem A2x0i (Q : QT) (x1 : Int) (h : AHeap) (ht :
 Q (.int .i64 x1) h) : A2x0 Q x1 h :=
  At.mk (@cast _ ((K1 Q) (.exit 0) [(1, .int .i64 x1)] h) (by kernel_rfl) ht)
theorem call (a0 : Pt) (n0 c0 : Nat) (e0 : Bool) (x1 : Int) (h : AHeap) (Q : QT) (ht :
 L2 Q a0 n0 c0 e0 x1 0 h) : SCall pg n_laws_markNeedS [.slice a0 n0 c0 e0, .int .i64 x1] h Q :=
  SCall.of_body kp (c := cod fn) (fn := fn) Go.Proofs.Tryd.func25 (by kernel_rfl) (by kernel_rfl) (Nat.le_of_ble_eq_true (by kernel_rfl))
    (@cast _ (den pg fn.ntmps kp (cod fn) (Env.args 0 [.slice a0 n0 c0 e0, .int .i64 x1]) h (KR Q)) (by kernel_rfl) ht)
end F_laws_markNeedS
/-! Function loop.example/instancesearch/laws.heldNeedS -/
namespace F_laws_heldNeedS
noncomputable abbrev fn : Func := Go.Proofs.Tryd.f26
def kp : Keeps := [(3000002, [1, 4]), (1000002, [0, 1, 5]), (2000004, [19, 1, 0, 5]), (2000007, [29, 1, 5, 0])]
noncomputable def C (p : List Nat) : Code := (cod fn).sub p
def KR (Q : QT) : KT := retA pg fn.results.toList Q
abbrev T2 := Pt → Nat → Nat → Bool → Int → Int → AHeap → Prop
def E2 (R2 : T2) (env : Env) (h : AHeap) : Prop := eVal 0 env fun v env => xSl (some v) fun a0 n0 c0 e0 => eVal 1 env fun v env => eInt .i64 v fun x1 => eVal 5 env fun v env => eInt .i64 v fun x5 => eNil env (R2 a0 n0 c0 e0 x1 x5 h)
theorem E2elim {R2 : T2} {env : Env} {h : AHeap} (hi : E2 R2 env h) : ∃ a0, ∃ n0, ∃ c0, ∃ e0, ∃ x1, ∃ x5, env = [(0, .slice a0 n0 c0 e0), (1, .int .i64 x1), (5, .int .i64 x5)] ∧ R2 a0 n0 c0 e0 x1 x5 h := by
  unfold E2 at hi
  have hi0 := hi
  clear hi
  obtain ⟨v, env, rfl, hi1⟩ := eVal_elim hi0
  obtain ⟨a0, n0, c0, e0, rfl, hi2⟩ := xSl_elim hi1
  obtain ⟨v, env, rfl, hi3⟩ := eVal_elim hi2
  obtain ⟨x1, rfl, hi4⟩ := eInt_elim hi3
  obtain ⟨v, env, rfl, hi5⟩ := eVal_elim hi4
  obtain ⟨x5, rfl, hi6⟩ := eInt_elim hi5
  obtain ⟨rfl, hi7⟩ := eNil_elim hi6
  have hi := hi7
  exact ⟨a0, n0, c0, e0, x1, x5, rfl, hi⟩
def K0 (Q : QT) : KT := andThen (fun env' h' => (match kp.find 4000010 with | some ks => Den pg fn.ntmps (C [1, 1]) (env'.keep ks) h' (KR Q) | none => den pg fn.ntmps kp (C [1, 1]) env' h' (KR Q))) (KR Q)
def K1 (Q : QT) : KT := onExit 0 (K0 Q)
def K2 (Q : QT) : KT := left kp 2 (K1 Q)
def K3 (Q : QT) (R2 : T2) : KT := rnd ((kp.find 1000002).getD []) (E2 R2) (K2 Q)
def L2 (Q : QT) (a0 : Pt) (n0 c0 : Nat) (e0 : Bool) (x1 x5 : Int) (h : AHeap) : Prop := Loop (Den pg fn.ntmps (C [1, 0, 1, 0, 0])) ((kp.find 1000002).getD []) (K2 Q) [(0, .slice a0 n0 c0 e0), (1, .int .i64 x1), (5, .int .i64 x5)] h
def A2x0 (Q : QT) (x1 : Int) (h : AHeap) : Prop := At (K1 Q) (.exit 0) [(1, .int .i64 x1), (4, .undef)] h
def L2t (Q : QT) (R2 : T2) (a0 : Pt) (n0 c0 : Nat) (e0 : Bool) (x1 x5 : Int) (h : AHeap) : Prop :=
 bcase (decide ((x5 : Int) < (((n0 : Nat) : Int)))) ((0 ≤ (x5 : Int) ∧ (x5 : Int) < (n0 : Nat)) ∧ (xSome a0 fun i_0 o_1 => xStr (hCell h (.ptr (some (i_0, o_1 + (Int.toNat x5) * 2 + 0)))) fun s_2 => SCall pg n_laws_markText [.int .i64 x1] h fun v_3 h_4 =>
 xStr (some v_3) fun s_5 => (hCell h_4 (.ptr (some (i_0, o_1 + (Int.toNat x5) * 2 + 0))) = hCell h (.ptr (some (i_0, o_1 + (Int.toNat x5) * 2 + 0)))) ∧ bcase (!(decide (s_2 = s_5))) (Q (.int .i64 (-1)) h_4) ((0 ≤ (x5 : Int) ∧ (x5 : Int) < (n0 : Nat)) ∧ (xSome a0 fun i_6 o_7 => xStr (hCell h_4 (.ptr (some (i_6, o_7 + (Int.toNat x5) * 2 + 1)))) fun s_8 => SCall pg n_laws_markText [.int .i64 (IntKind.wrap .i64 (x1 + 1))] h_4 fun v_9 h_10 =>
 xStr (some v_9) fun s_11 => (hCell h_10 (.ptr (some (i_6, o_7 + (Int.toNat x5) * 2 + 1))) = hCell h_4 (.ptr (some (i_6, o_7 + (Int.toNat x5) * 2 + 1)))) ∧ bcase (!(decide (s_8 = s_11))) (Q (.int .i64 (-1)) h_10) (R2 a0 n0 c0 e0 (IntKind.wrap .i64 ((IntKind.wrap .i64 (x1 + 1)) + 1)) (IntKind.wrap .i64 (x5 + 1)) h_10))))) (A2x0 Q x1 h)
theorem L2den (Q : QT) (R2 : T2) (a0 : Pt) (n0 c0 : Nat) (e0 : Bool) (x1 x5 : Int) (h : AHeap) (ht : L2t Q R2 a0 n0 c0 e0 x1 x5 h) : Den pg fn.ntmps (C [1, 0, 1, 0, 0]) [(0, .slice a0 n0 c0 e0), (1, .int .i64 x1), (5, .int .i64 x5)] h (K3 Q R2) :=
  den_Den (kp := kp) (@cast _ (den pg fn.ntmps kp (C [1, 0, 1, 0, 0]) [(0, .slice a0 n0 c0 e0), (1, .int .i64 x1), (5, .int .i64 x5)] h (K3 Q R2)) (by kernel_rfl) ht)
theorem L2ind (Q : QT) (a0 : Pt) (n0 c0 : Nat) (e0 : Bool) {G : Type} (J : G → Int → Int → AHeap → Prop) (m : G → Nat)
 (hr : ∀ (g : G) (x1 x5 : Int) (h : AHeap), J g x1 x5 h → ∀ (R2 : T2), (∀ g' (x1 x5 : Int) (h : AHeap), m g' < m g → J g' x1 x5 h → R2 a0 n0 c0 e0 x1 x5 h) → L2t Q R2 a0 n0 c0 e0 x1 x5 h)
 (g : G) (x1 x5 : Int) (h : AHeap) (hj : J g x1 x5 h) : L2 Q a0 n0 c0 e0 x1 x5 h := by
  refine Loop.inv2 (fun g => E2 fun a0' n0' c0' e0' x1 x5 h => a0 = a0' ∧ n0 = n0' ∧ c0 = c0' ∧ e0 = e0' ∧ J g x1 x5 h) (fun g => E2 fun a0' n0' c0' e0' x1 x5 h => a0 = a0' ∧ n0 = n0' ∧ c0 = c0' ∧ e0 = e0' ∧ ∃ g', m g' < m g ∧ J g' x1 x5 h) m ?_ ?_ g ⟨rfl, rfl, rfl, rfl, hj⟩
  · intro g env h hi
    obtain ⟨a0', n0', c0', e0', x1, x5, rfl, rfl, rfl, rfl, rfl, hj⟩ := E2elim hi
    exact L2den Q (fun a0' n0' c0' e0' x1 x5 h => a0 = a0' ∧ n0 = n0' ∧ c0 = c0' ∧ e0 = e0' ∧ ∃ g', m g' < m g ∧ J g' x1 x5 h) a0 n0 c0 e0 x1 x5 h (hr g x1 x5 h hj (fun a0' n0' c0' e0' x1 x5 h => a0 = a0' ∧ n0 = n0' ∧ c0 = c0' ∧ e0 = e0' ∧ ∃ g', m g' < m g ∧ J g' x1 x5 h) fun g' x1 x5 h hlt hj => ⟨rfl, rfl, rfl, rfl, g', hlt, hj⟩)
  · intro g env h hi
    obtain ⟨a0', n0', c0', e0', x1, x5, rfl, rfl, rfl, rfl, rfl, g', hlt, hj⟩ := E2elim hi
    exact ⟨g', hlt, rfl, rfl, rfl, rfl, hj⟩
theorem A2x0i (Q : QT) (x1 : Int) (h : AHeap) (ht :
 Q (.int .i64 x1) h) : A2x0 Q x1 h :=
  At.mk (@cast _ ((K1 Q) (.exit 0) [(1, .int .i64 x1), (4, .undef)] h) (by kernel_rfl) ht)
theorem call (a0 : Pt) (n0 c0 : Nat) (e0 : Bool) (x1 : Int) (h : AHeap) (Q : QT) (ht :
 L2 Q a0 n0 c0 e0 x1 0 h) : SCall pg n_laws_heldNeedS [.slice a0 n0 c0 e0, .int .i64 x1] h Q :=
  SCall.of_body kp (c := cod fn) (fn := fn) Go.Proofs.Tryd.func26 (by kernel_rfl) (by kernel_rfl) (Nat.le_of_ble_eq_true (by kernel_rfl))
    (@cast _ (den pg fn.ntmps kp (cod fn) (Env.args 0 [.slice a0 n0 c0 e0, .int .i64 x1]) h (KR Q)) (by kernel_rfl) ht)
end F_laws_heldNeedS
/-! Function loop.example/instancesearch/laws.FnExactParseNeeds -/
namespace F_laws_FnExactParseNeeds
noncomputable abbrev fn : Func := Go.Proofs.Tryd.f6
def kp : Keeps := [(4000007, [5, 0, 3, 4]), (4000018, [5, 7])]
noncomputable def C (p : List Nat) : Code := (cod fn).sub p
def KR (Q : QT) : KT := retA pg fn.results.toList Q
def J7 (Q : QT) (a5 : Pt) (n5 c5 : Nat) (e5 : Bool) (x0 : List Nat) (a3 : Pt) (n3 c3 : Nat) (e3 x4 : Bool) (h : AHeap) : Prop := Den pg fn.ntmps (C [1, 1, 1, 1, 1]) [(5, .slice a5 n5 c5 e5), (0, .str x0), (3, .slice a3 n3 c3 e3), (4, .bool x4)] h (KR Q)
def J18 (Q : QT) (a5 : Pt) (n5 c5 : Nat) (e5 : Bool) (x7 : Int) (h : AHeap) : Prop := Den pg fn.ntmps (C [1, 1, 1, 1, 1, 1, 1, 1, 1, 1, 1, 1, 1]) [(5, .slice a5 n5 c5 e5), (7, .int .i64 x7)] h (KR Q)
theorem J7i (Q : QT) (a5 : Pt) (n5 c5 : Nat) (e5 : Bool) (x0 : List Nat) (a3 : Pt) (n3 c3 : Nat) (e3 x4 : Bool) (h : AHeap) (ht :
 SCall pg n_laws_markNeedS [.slice a5 n5 c5 e5, .int .i64 1] h fun v_27 h_28 =>
 xInt .i64 (some v_27) fun x_29 => SCall pg n_laws_heldNeedS [.slice a5 n5 c5 e5, .int .i64 1] h_28 fun v_30 h_31 =>
 xInt .i64 (some v_30) fun x_32 => bcase (decide ((x_32 : Int) < 0)) (Q (.bool false) h_31) (bcase (!((x_32 : Int) == x_29)) (Q (.bool false) h_31) (SCall pg n_impl_ParseNeeds [.str x0] h_31 fun v_33 h_34 =>
 xTup v_33 fun cs_35 => xCons cs_35 fun c_36 r_37 => xSl (some c_36) fun a_38 n_39 c_40 e_41 => xCons r_37 fun c_42 r_43 => xBool (some c_42) fun b_44 => xNil r_43 (SCall pg n_laws_eqNeedS [.slice a_38 n_39 c_40 e_41, .slice a3 n3 c3 e3] h_34 fun v_45 h_46 =>
 xBool (some v_45) fun b_47 => bcase (!b_47) (Q (.bool false) h_46) (bcase (!(b_44 == x4)) (Q (.bool false) h_46) (J18 Q a5 n5 c5 e5 x_29 h_46)))))) : J7 Q a5 n5 c5 e5 x0 a3 n3 c3 e3 x4 h :=
  den_Den (kp := kp) (@cast _ (den pg fn.ntmps kp (C [1, 1, 1, 1, 1]) [(5, .slice a5 n5 c5 e5), (0, .str x0), (3, .slice a3 n3 c3 e3), (4, .bool x4)] h (KR Q)) (by kernel_rfl) ht)
theorem J18i (Q : QT) (a5 : Pt) (n5 c5 : Nat) (e5 : Bool) (x7 : Int) (h : AHeap) (ht :
 SCall pg n_laws_heldNeedS [.slice a5 n5 c5 e5, .int .i64 1] h fun v_48 h_49 =>
 xInt .i64 (some v_48) fun x_50 => bcase (decide ((x_50 : Int) < 0)) (Q (.bool false) h_49) (bcase (!((x_50 : Int) == x7)) (Q (.bool false) h_49) (Q (.bool true) h_49))) : J18 Q a5 n5 c5 e5 x7 h :=
  den_Den (kp := kp) (@cast _ (den pg fn.ntmps kp (C [1, 1, 1, 1, 1, 1, 1, 1, 1, 1, 1, 1, 1]) [(5, .slice a5 n5 c5 e5), (7, .int .i64 x7)] h (KR Q)) (by kernel_rfl) ht)
theorem call (x0 : List Nat) (h : AHeap) (Q : QT) (ht :
 bcase (decide (((((List.length x0 : Nat) : Int)) : Int) > 1048576)) (Q (.bool true) h) (SCall pg n_spec_ParseNeeds [.str x0] h fun v_0 h_1 =>
 xTup v_0 fun cs_2 => xCons cs_2 fun c_3 r_4 => xSl (some c_3) fun a_5 n_6 c_7 e_8 => xCons r_4 fun c_9 r_10 => xBool (some c_9) fun b_11 => xNil r_10 (SCall pg n_impl_ParseNeeds [.str x0] h_1 fun v_12 h_13 =>
 xTup v_12 fun cs_14 => xCons cs_14 fun c_15 r_16 => xSl (some c_15) fun a_17 n_18 c_19 e_20 => xCons r_16 fun c_21 r_22 => xBool (some c_21) fun b_23 => xNil r_22 (SCall pg n_laws_eqNeedS [.slice a_17 n_18 c_19 e_20, .slice a_5 n_6 c_7 e_8] h_13 fun v_24 h_25 =>
 xBool (some v_24) fun b_26 => bcase (!b_26) (Q (.bool false) h_25) (bcase (!(b_23 == b_11)) (Q (.bool false) h_25) (J7 Q a_17 n_18 c_19 e_20 x0 a_5 n_6 c_7 e_8 b_11 h_25)))))) : SCall pg n_laws_FnExactParseNeeds [.str x0] h Q :=
  SCall.of_body kp (c := cod fn) (fn := fn) Go.Proofs.Tryd.func6 (by kernel_rfl) (by kernel_rfl) (Nat.le_of_ble_eq_true (by kernel_rfl))
    (@cast _ (den pg fn.ntmps kp (cod fn) (Env.args 0 [.str x0]) h (KR Q)) (by kernel_rfl) ht)
end F_laws_FnExactParseNeeds
end Go.Sim
