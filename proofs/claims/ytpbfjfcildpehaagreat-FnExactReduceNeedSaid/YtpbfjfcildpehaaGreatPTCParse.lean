/- A part of the proof of a statement of this seat: see the text that holds the theorem. No condition. -/
import Derived.Test.YtpbfjfcildpehaaGreatNm
set_option linter.unusedVariables false
set_option linter.unusedSimpArgs false
set_option linter.all false
/- Printed by wip/tool: what the functions' bodies do, in the words of 'den'. -/
set_option maxRecDepth 100000
set_option linter.unusedVariables false
namespace Go.Sim
open Go Go.RowKit
/-! Function loop.example/instancesearch/spec.l3Classes -/
namespace F_spec_l3Classes
noncomputable abbrev fn : Func := Go.Proofs.Tryz.f57
def kp : Keeps := [(3000002, [0, 2]), (1000002, [0, 6, 7, 8]), (2000004, [31, 4, 0, 3, 6, 7, 8]), (4000006, [4, 0, 3, 6, 7, 8]), (3000007, [8, 7, 6, 0, 2]), (1000007, [0, 3, 4, 6, 7, 8, 34, 35]), (2000009, [65, 35, 34, 0, 3, 4, 8, 7, 6]), (4000011, [35, 34, 0, 3, 4, 8, 7, 6]), (4000012, [8, 7, 6, 0])]
noncomputable def C (p : List Nat) : Code := (cod fn).sub p
def KR (Q : QT) : KT := retA pg fn.results.toList Q
abbrev T2 := Pt → Nat → Nat → Bool → Pt → Nat → Nat → Bool → Int → Int → AHeap → Prop
def E2 (R2 : T2) (env : Env) (h : AHeap) : Prop := eVal 0 env fun v env => xSl (some v) fun a0 n0 c0 e0 => eVal 6 env fun v env => xSl (some v) fun a6 n6 c6 e6 => eVal 7 env fun v env => eInt .i64 v fun x7 => eVal 8 env fun v env => eInt .i64 v fun x8 => eNil env (R2 a0 n0 c0 e0 a6 n6 c6 e6 x7 x8 h)
theorem E2elim {R2 : T2} {env : Env} {h : AHeap} (hi : E2 R2 env h) : ∃ a0, ∃ n0, ∃ c0, ∃ e0, ∃ a6, ∃ n6, ∃ c6, ∃ e6, ∃ x7, ∃ x8, env = [(0, .slice a0 n0 c0 e0), (6, .slice a6 n6 c6 e6), (7, .int .i64 x7), (8, .int .i64 x8)] ∧ R2 a0 n0 c0 e0 a6 n6 c6 e6 x7 x8 h := by
  unfold E2 at hi
  have hi0 := hi
  clear hi
  obtain ⟨v, env, rfl, hi1⟩ := eVal_elim hi0
  obtain ⟨a0, n0, c0, e0, rfl, hi2⟩ := xSl_elim hi1
  obtain ⟨v, env, rfl, hi3⟩ := eVal_elim hi2
  obtain ⟨a6, n6, c6, e6, rfl, hi4⟩ := xSl_elim hi3
  obtain ⟨v, env, rfl, hi5⟩ := eVal_elim hi4
  obtain ⟨x7, rfl, hi6⟩ := eInt_elim hi5
  obtain ⟨v, env, rfl, hi7⟩ := eVal_elim hi6
  obtain ⟨x8, rfl, hi8⟩ := eInt_elim hi7
  obtain ⟨rfl, hi9⟩ := eNil_elim hi8
  have hi := hi9
  exact ⟨a0, n0, c0, e0, a6, n6, c6, e6, x7, x8, rfl, hi⟩
abbrev T7 := Pt → Nat → Nat → Bool → Int → Nat → Nat → Pt → Nat → Nat → Bool → Int → Int → Int → Int → AHeap → Prop
def E7 (R7 : T7) (env : Env) (h : AHeap) : Prop := eVal 0 env fun v env => xSl (some v) fun a0 n0 c0 e0 => eVal 3 env fun v env => eInt .i64 v fun x3 => eVal 4 env fun v env => xPtr (some v) fun a => xSome a fun i4 o4 => eVal 6 env fun v env => xSl (some v) fun a6 n6 c6 e6 => eVal 7 env fun v env => eInt .i64 v fun x7 => eVal 8 env fun v env => eInt .i64 v fun x8 => eVal 34 env fun v env => eInt .i64 v fun x34 => eVal 35 env fun v env => eInt .i64 v fun x35 => eNil env (R7 a0 n0 c0 e0 x3 i4 o4 a6 n6 c6 e6 x7 x8 x34 x35 h)
theorem E7elim {R7 : T7} {env : Env} {h : AHeap} (hi : E7 R7 env h) : ∃ a0, ∃ n0, ∃ c0, ∃ e0, ∃ x3, ∃ i4, ∃ o4, ∃ a6, ∃ n6, ∃ c6, ∃ e6, ∃ x7, ∃ x8, ∃ x34, ∃ x35, env = [(0, .slice a0 n0 c0 e0), (3, .int .i64 x3), (4, .ptr (some (i4, o4))), (6, .slice a6 n6 c6 e6), (7, .int .i64 x7), (8, .int .i64 x8), (34, .int .i64 x34), (35, .int .i64 x35)] ∧ R7 a0 n0 c0 e0 x3 i4 o4 a6 n6 c6 e6 x7 x8 x34 x35 h := by
  unfold E7 at hi
  have hi0 := hi
  clear hi
  obtain ⟨v, env, rfl, hi1⟩ := eVal_elim hi0
  obtain ⟨a0, n0, c0, e0, rfl, hi2⟩ := xSl_elim hi1
  obtain ⟨v, env, rfl, hi3⟩ := eVal_elim hi2
  obtain ⟨x3, rfl, hi4⟩ := eInt_elim hi3
  obtain ⟨v, env, rfl, hi5⟩ := eVal_elim hi4
  obtain ⟨a, rfl, hi6⟩ := xPtr_elim hi5
  obtain ⟨i4, o4, rfl, hi7⟩ := xSome_elim hi6
  obtain ⟨v, env, rfl, hi8⟩ := eVal_elim hi7
  obtain ⟨a6, n6, c6, e6, rfl, hi9⟩ := xSl_elim hi8
  obtain ⟨v, env, rfl, hi10⟩ := eVal_elim hi9
  obtain ⟨x7, rfl, hi11⟩ := eInt_elim hi10
  obtain ⟨v, env, rfl, hi12⟩ := eVal_elim hi11
  obtain ⟨x8, rfl, hi13⟩ := eInt_elim hi12
  obtain ⟨v, env, rfl, hi14⟩ := eVal_elim hi13
  obtain ⟨x34, rfl, hi15⟩ := eInt_elim hi14
  obtain ⟨v, env, rfl, hi16⟩ := eVal_elim hi15
  obtain ⟨x35, rfl, hi17⟩ := eInt_elim hi16
  obtain ⟨rfl, hi18⟩ := eNil_elim hi17
  have hi := hi18
  exact ⟨a0, n0, c0, e0, x3, i4, o4, a6, n6, c6, e6, x7, x8, x34, x35, rfl, hi⟩
def K0 (Q : QT) : KT := andThen (fun env' h' => (match kp.find 4000013 with | some ks => Den pg fn.ntmps (C [1, 1]) (env'.keep ks) h' (KR Q) | none => den pg fn.ntmps kp (C [1, 1]) env' h' (KR Q))) (KR Q)
def K1 (Q : QT) : KT := onExit 0 (K0 Q)
def K2 (Q : QT) : KT := left kp 2 (K1 Q)
def K3 (Q : QT) (R2 : T2) : KT := rnd ((kp.find 1000002).getD []) (E2 R2) (K2 Q)
def K4 (Q : QT) (R2 : T2) : KT := andThen (fun env' h' => (match kp.find 4000012 with | some ks => Den pg fn.ntmps (C [1, 0, 1, 0, 0, 1, 1, 1]) (env'.keep ks) h' (K3 Q R2) | none => den pg fn.ntmps kp (C [1, 0, 1, 0, 0, 1, 1, 1]) env' h' (K3 Q R2))) (K3 Q R2)
def K5 (Q : QT) (R2 : T2) : KT := onExit 1 (K4 Q R2)
def K6 (Q : QT) (R2 : T2) : KT := onExit 2 (K5 Q R2)
def K7 (Q : QT) (R2 : T2) : KT := left kp 7 (K6 Q R2)
def K8 (Q : QT) (R2 : T2) (R7 : T7) : KT := rnd ((kp.find 1000007).getD []) (E7 R7) (K7 Q R2)
def L2 (Q : QT) (a0 : Pt) (n0 c0 : Nat) (e0 : Bool) (a6 : Pt) (n6 c6 : Nat) (e6 : Bool) (x7 x8 : Int) (h : AHeap) : Prop := Loop (Den pg fn.ntmps (C [1, 0, 1, 0, 0])) ((kp.find 1000002).getD []) (K2 Q) [(0, .slice a0 n0 c0 e0), (6, .slice a6 n6 c6 e6), (7, .int .i64 x7), (8, .int .i64 x8)] h
def J6 (Q : QT) (R2 : T2) (i4 o4 : Nat) (a0 : Pt) (n0 c0 : Nat) (e0 : Bool) (x3 : Int) (a6 : Pt) (n6 c6 : Nat) (e6 : Bool) (x7 x8 : Int) (h : AHeap) : Prop := Den pg fn.ntmps (C [1, 0, 1, 0, 0, 1, 1, 0, 0, 1, 1]) [(4, .ptr (some (i4, o4))), (0, .slice a0 n0 c0 e0), (3, .int .i64 x3), (6, .slice a6 n6 c6 e6), (7, .int .i64 x7), (8, .int .i64 x8)] h (K5 Q R2)
def A2x0 (Q : QT) (a0 : Pt) (n0 c0 : Nat) (e0 : Bool) (h : AHeap) : Prop := At (K1 Q) (.exit 0) [(0, .slice a0 n0 c0 e0), (2, .undef)] h
def L7 (Q : QT) (R2 : T2) (a0 : Pt) (n0 c0 : Nat) (e0 : Bool) (x3 : Int) (i4 o4 : Nat) (a6 : Pt) (n6 c6 : Nat) (e6 : Bool) (x7 x8 x34 x35 : Int) (h : AHeap) : Prop := Loop (Den pg fn.ntmps (C [1, 0, 1, 0, 0, 1, 1, 0, 0, 1, 1, 1, 0, 0])) ((kp.find 1000007).getD []) (K7 Q R2) [(0, .slice a0 n0 c0 e0), (3, .int .i64 x3), (4, .ptr (some (i4, o4))), (6, .slice a6 n6 c6 e6), (7, .int .i64 x7), (8, .int .i64 x8), (34, .int .i64 x34), (35, .int .i64 x35)] h
def J11 (Q : QT) (R2 : T2) (R7 : T7) (x35 x34 : Int) (a0 : Pt) (n0 c0 : Nat) (e0 : Bool) (x3 : Int) (i4 o4 : Nat) (x8 x7 : Int) (a6 : Pt) (n6 c6 : Nat) (e6 : Bool) (h : AHeap) : Prop := Den pg fn.ntmps (C [1, 0, 1, 0, 0, 1, 1, 0, 0, 1, 1, 1, 0, 0, 1, 1, 1]) [(35, .int .i64 x35), (34, .int .i64 x34), (0, .slice a0 n0 c0 e0), (3, .int .i64 x3), (4, .ptr (some (i4, o4))), (8, .int .i64 x8), (7, .int .i64 x7), (6, .slice a6 n6 c6 e6)] h (K8 Q R2 R7)
def A7x2 (Q : QT) (R2 : T2) (x8 x7 : Int) (a6 : Pt) (n6 c6 : Nat) (e6 : Bool) (a0 : Pt) (n0 c0 : Nat) (e0 : Bool) (h : AHeap) : Prop := At (K6 Q R2) (.exit 2) [(8, .int .i64 x8), (7, .int .i64 x7), (6, .slice a6 n6 c6 e6), (0, .slice a0 n0 c0 e0), (2, .undef)] h
def J12 (Q : QT) (R2 : T2) (x8 x7 : Int) (a6 : Pt) (n6 c6 : Nat) (e6 : Bool) (a0 : Pt) (n0 c0 : Nat) (e0 : Bool) (h : AHeap) : Prop := Den pg fn.ntmps (C [1, 0, 1, 0, 0, 1, 1, 1]) [(8, .int .i64 x8), (7, .int .i64 x7), (6, .slice a6 n6 c6 e6), (0, .slice a0 n0 c0 e0)] h (K3 Q R2)
def L2t (Q : QT) (R2 : T2) (a0 : Pt) (n0 c0 : Nat) (e0 : Bool) (a6 : Pt) (n6 c6 : Nat) (e6 : Bool) (x7 x8 : Int) (h : AHeap) : Prop :=
 bcase (decide ((x8 : Int) < x7)) ((0 ≤ (x8 : Int) ∧ (x8 : Int) < (n6 : Nat)) ∧ (xSome a6 fun i_0 o_1 => xRow (hRow h (.ptr (some (i_0, o_1 + (Int.toNat x8) * 2))) 2) fun cs_2 => xCons cs_2 fun c_3 r_4 => xStr (some c_3) fun s_5 => xCons r_4 fun c_6 r_7 => xStr (some c_6) fun s_8 => xNil r_7 (letH (h ++ [.cells t_impl_Class [.str [], .str []] false]) fun h_9 => xHeap (hStore h_9 (.ptr (some (List.length h, 0))) [.str s_5, .str s_8]) fun h_10 => xStr (hCell h_10 (.ptr (some (List.length h, 0 + 0)))) fun s_11 => SCall pg n_spec_l3Capital [.str s_11] h_10 fun v_12 h_13 =>
 xBool (some v_12) fun b_14 => bcase (!b_14) ((hCell h_13 (.tup []) = hCell h_13 (.tup [])) ∧ Q (.bool false) h_13) (bcase (decide ((x8 : Int) > 0)) ((0 ≤ (IntKind.wrap .i64 (x8 - 1) : Int) ∧ (IntKind.wrap .i64 (x8 - 1) : Int) < (n0 : Nat)) ∧ (xSome a0 fun i_15 o_16 => xStr (hCell h_13 (.ptr (some (i_15, o_16 + (Int.toNat (IntKind.wrap .i64 (x8 - 1))) * 2 + 0)))) fun s_17 => xStr (hCell h_13 (.ptr (some (List.length h, 0 + 0)))) fun s_18 => (hCell h_13 (.ptr (some (i_15, o_16 + (Int.toNat (IntKind.wrap .i64 (x8 - 1))) * 2 + 0))) = hCell h_13 (.ptr (some (i_15, o_16 + (Int.toNat (IntKind.wrap .i64 (x8 - 1))) * 2 + 0)))) ∧ bcase (!natLess s_17 s_18) (Q (.bool false) h_13) (J6 Q R2 (List.length h) 0 a0 n0 c0 e0 x8 a6 n6 c6 e6 x7 x8 h_13))) ((hCell h_13 (.tup []) = hCell h_13 (.tup [])) ∧ J6 Q R2 (List.length h) 0 a0 n0 c0 e0 x8 a6 n6 c6 e6 x7 x8 h_13))))) (A2x0 Q a0 n0 c0 e0 h)
theorem L2den (Q : QT) (R2 : T2) (a0 : Pt) (n0 c0 : Nat) (e0 : Bool) (a6 : Pt) (n6 c6 : Nat) (e6 : Bool) (x7 x8 : Int) (h : AHeap) (ht : L2t Q R2 a0 n0 c0 e0 a6 n6 c6 e6 x7 x8 h) : Den pg fn.ntmps (C [1, 0, 1, 0, 0]) [(0, .slice a0 n0 c0 e0), (6, .slice a6 n6 c6 e6), (7, .int .i64 x7), (8, .int .i64 x8)] h (K3 Q R2) :=
  den_Den (kp := kp) (@cast _ (den pg fn.ntmps kp (C [1, 0, 1, 0, 0]) [(0, .slice a0 n0 c0 e0), (6, .slice a6 n6 c6 e6), (7, .int .i64 x7), (8, .int .i64 x8)] h (K3 Q R2)) (by kernel_rfl) ht)
theorem L2ind (Q : QT) (a0 : Pt) (n0 c0 : Nat) (e0 : Bool) (a6 : Pt) (n6 c6 : Nat) (e6 : Bool) (x7 : Int) {G : Type} (J : G → Int → AHeap → Prop) (m : G → Nat)
 (hr : ∀ (g : G) (x8 : Int) (h : AHeap), J g x8 h → ∀ (R2 : T2), (∀ g' (x8 : Int) (h : AHeap), m g' < m g → J g' x8 h → R2 a0 n0 c0 e0 a6 n6 c6 e6 x7 x8 h) → L2t Q R2 a0 n0 c0 e0 a6 n6 c6 e6 x7 x8 h)
 (g : G) (x8 : Int) (h : AHeap) (hj : J g x8 h) : L2 Q a0 n0 c0 e0 a6 n6 c6 e6 x7 x8 h := by
  refine Loop.inv2 (fun g => E2 fun a0' n0' c0' e0' a6' n6' c6' e6' x7' x8 h => a0 = a0' ∧ n0 = n0' ∧ c0 = c0' ∧ e0 = e0' ∧ a6 = a6' ∧ n6 = n6' ∧ c6 = c6' ∧ e6 = e6' ∧ x7 = x7' ∧ J g x8 h) (fun g => E2 fun a0' n0' c0' e0' a6' n6' c6' e6' x7' x8 h => a0 = a0' ∧ n0 = n0' ∧ c0 = c0' ∧ e0 = e0' ∧ a6 = a6' ∧ n6 = n6' ∧ c6 = c6' ∧ e6 = e6' ∧ x7 = x7' ∧ ∃ g', m g' < m g ∧ J g' x8 h) m ?_ ?_ g ⟨rfl, rfl, rfl, rfl, rfl, rfl, rfl, rfl, rfl, hj⟩
  · intro g env h hi
    obtain ⟨a0', n0', c0', e0', a6', n6', c6', e6', x7', x8, rfl, rfl, rfl, rfl, rfl, rfl, rfl, rfl, rfl, rfl, hj⟩ := E2elim hi
    exact L2den Q (fun a0' n0' c0' e0' a6' n6' c6' e6' x7' x8 h => a0 = a0' ∧ n0 = n0' ∧ c0 = c0' ∧ e0 = e0' ∧ a6 = a6' ∧ n6 = n6' ∧ c6 = c6' ∧ e6 = e6' ∧ x7 = x7' ∧ ∃ g', m g' < m g ∧ J g' x8 h) a0 n0 c0 e0 a6 n6 c6 e6 x7 x8 h (hr g x8 h hj (fun a0' n0' c0' e0' a6' n6' c6' e6' x7' x8 h => a0 = a0' ∧ n0 = n0' ∧ c0 = c0' ∧ e0 = e0' ∧ a6 = a6' ∧ n6 = n6' ∧ c6 = c6' ∧ e6 = e6' ∧ x7 = x7' ∧ ∃ g', m g' < m g ∧ J g' x8 h) fun g' x8 h hlt hj => ⟨rfl, rfl, rfl, rfl, rfl, rfl, rfl, rfl, rfl, g', hlt, hj⟩)
  · intro g env h hi
    obtain ⟨a0', n0', c0', e0', a6', n6', c6', e6', x7', x8, rfl, rfl, rfl, rfl, rfl, rfl, rfl, rfl, rfl, rfl, g', hlt, hj⟩ := E2elim hi
    exact ⟨g', hlt, rfl, rfl, rfl, rfl, rfl, rfl, rfl, rfl, rfl, hj⟩
theorem J6i (Q : QT) (R2 : T2) (i4 o4 : Nat) (a0 : Pt) (n0 c0 : Nat) (e0 : Bool) (x3 : Int) (a6 : Pt) (n6 c6 : Nat) (e6 : Bool) (x7 x8 : Int) (h : AHeap) (ht :
 xStr (hCell h (.ptr (some (i4, o4 + 1)))) fun s_19 => L7 Q R2 a0 n0 c0 e0 x3 i4 o4 a6 n6 c6 e6 x7 x8 (((List.length s_19 : Nat) : Int)) 0 h) : J6 Q R2 i4 o4 a0 n0 c0 e0 x3 a6 n6 c6 e6 x7 x8 h :=
  den_Den (kp := kp) (@cast _ (den pg fn.ntmps kp (C [1, 0, 1, 0, 0, 1, 1, 0, 0, 1, 1]) [(4, .ptr (some (i4, o4))), (0, .slice a0 n0 c0 e0), (3, .int .i64 x3), (6, .slice a6 n6 c6 e6), (7, .int .i64 x7), (8, .int .i64 x8)] h (K5 Q R2)) (by kernel_rfl) ht)
theorem A2x0i (Q : QT) (a0 : Pt) (n0 c0 : Nat) (e0 : Bool) (h : AHeap) (ht :
 SCall pg n_spec_l1In [.int .i64 (((n0 : Nat) : Int)), .int .i64 1, .int .i64 4] h fun v_20 h_21 =>
 xBool (some v_20) fun b_22 => Q (.bool b_22) h_21) : A2x0 Q a0 n0 c0 e0 h :=
  At.mk (@cast _ ((K1 Q) (.exit 0) [(0, .slice a0 n0 c0 e0), (2, .undef)] h) (by kernel_rfl) ht)
def L7t (Q : QT) (R2 : T2) (R7 : T7) (a0 : Pt) (n0 c0 : Nat) (e0 : Bool) (x3 : Int) (i4 o4 : Nat) (a6 : Pt) (n6 c6 : Nat) (e6 : Bool) (x7 x8 x34 x35 : Int) (h : AHeap) : Prop :=
 bcase (decide ((x35 : Int) < x34)) (sliceSl a0 n0 c0 e0 2 none (some (.int .i64 x3)) none fun v_23 => xSl (some v_23) fun a_24 n_25 c_26 e_27 => xStr (hCell h (.ptr (some (i4, o4 + 1)))) fun s_28 => (0 ≤ (x35 : Int) ∧ (x35 : Int) ≤ IntKind.wrap .i64 (x35 + 1) ∧ (IntKind.wrap .i64 (x35 + 1) : Int) ≤ (List.length s_28 : Nat)) ∧ (SCall pg n_spec_l3Class [.agg [.slice a_24 n_25 c_26 e_27, .slice none 0 0 true], .str (sub s_28 x35 (IntKind.wrap .i64 (x35 + 1)))] h fun v_29 h_30 =>
 xInt .i64 (some v_29) fun x_31 => bcase (decide ((x_31 : Int) < 0)) ((hCell h_30 (.tup []) = hCell h_30 (.tup [])) ∧ Q (.bool false) h_30) (bcase (decide ((x35 : Int) > 0)) (xStr (hCell h_30 (.ptr (some (i4, o4 + 1)))) fun s_32 => byteAt s_32 (IntKind.wrap .i64 (x35 - 1)) fun b_33 => xStr (hCell h_30 (.ptr (some (i4, o4 + 1)))) fun s_34 => (hCell h_30 (.ptr (some (i4, o4 + 1))) = hCell h_30 (.ptr (some (i4, o4 + 1)))) ∧ byteAt s_34 x35 fun b_35 => bcase (decide (((((b_33 : Nat) : Int)) : Int) ≥ (((b_35 : Nat) : Int)))) (Q (.bool false) h_30) (J11 Q R2 R7 x35 x34 a0 n0 c0 e0 x3 i4 o4 x8 x7 a6 n6 c6 e6 h_30)) ((hCell h_30 (.tup []) = hCell h_30 (.tup [])) ∧ J11 Q R2 R7 x35 x34 a0 n0 c0 e0 x3 i4 o4 x8 x7 a6 n6 c6 e6 h_30)))) (A7x2 Q R2 x8 x7 a6 n6 c6 e6 a0 n0 c0 e0 h)
theorem L7den (Q : QT) (R2 : T2) (R7 : T7) (a0 : Pt) (n0 c0 : Nat) (e0 : Bool) (x3 : Int) (i4 o4 : Nat) (a6 : Pt) (n6 c6 : Nat) (e6 : Bool) (x7 x8 x34 x35 : Int) (h : AHeap) (ht : L7t Q R2 R7 a0 n0 c0 e0 x3 i4 o4 a6 n6 c6 e6 x7 x8 x34 x35 h) : Den pg fn.ntmps (C [1, 0, 1, 0, 0, 1, 1, 0, 0, 1, 1, 1, 0, 0]) [(0, .slice a0 n0 c0 e0), (3, .int .i64 x3), (4, .ptr (some (i4, o4))), (6, .slice a6 n6 c6 e6), (7, .int .i64 x7), (8, .int .i64 x8), (34, .int .i64 x34), (35, .int .i64 x35)] h (K8 Q R2 R7) :=
  den_Den (kp := kp) (@cast _ (den pg fn.ntmps kp (C [1, 0, 1, 0, 0, 1, 1, 0, 0, 1, 1, 1, 0, 0]) [(0, .slice a0 n0 c0 e0), (3, .int .i64 x3), (4, .ptr (some (i4, o4))), (6, .slice a6 n6 c6 e6), (7, .int .i64 x7), (8, .int .i64 x8), (34, .int .i64 x34), (35, .int .i64 x35)] h (K8 Q R2 R7)) (by kernel_rfl) ht)
theorem L7ind (Q : QT) (R2 : T2) (a0 : Pt) (n0 c0 : Nat) (e0 : Bool) (x3 : Int) (i4 o4 : Nat) (a6 : Pt) (n6 c6 : Nat) (e6 : Bool) (x7 x8 x34 : Int) {G : Type} (J : G → Int → AHeap → Prop) (m : G → Nat)
 (hr : ∀ (g : G) (x35 : Int) (h : AHeap), J g x35 h → ∀ (R7 : T7), (∀ g' (x35 : Int) (h : AHeap), m g' < m g → J g' x35 h → R7 a0 n0 c0 e0 x3 i4 o4 a6 n6 c6 e6 x7 x8 x34 x35 h) → L7t Q R2 R7 a0 n0 c0 e0 x3 i4 o4 a6 n6 c6 e6 x7 x8 x34 x35 h)
 (g : G) (x35 : Int) (h : AHeap) (hj : J g x35 h) : L7 Q R2 a0 n0 c0 e0 x3 i4 o4 a6 n6 c6 e6 x7 x8 x34 x35 h := by
  refine Loop.inv2 (fun g => E7 fun a0' n0' c0' e0' x3' i4' o4' a6' n6' c6' e6' x7' x8' x34' x35 h => a0 = a0' ∧ n0 = n0' ∧ c0 = c0' ∧ e0 = e0' ∧ x3 = x3' ∧ i4 = i4' ∧ o4 = o4' ∧ a6 = a6' ∧ n6 = n6' ∧ c6 = c6' ∧ e6 = e6' ∧ x7 = x7' ∧ x8 = x8' ∧ x34 = x34' ∧ J g x35 h) (fun g => E7 fun a0' n0' c0' e0' x3' i4' o4' a6' n6' c6' e6' x7' x8' x34' x35 h => a0 = a0' ∧ n0 = n0' ∧ c0 = c0' ∧ e0 = e0' ∧ x3 = x3' ∧ i4 = i4' ∧ o4 = o4' ∧ a6 = a6' ∧ n6 = n6' ∧ c6 = c6' ∧ e6 = e6' ∧ x7 = x7' ∧ x8 = x8' ∧ x34 = x34' ∧ ∃ g', m g' < m g ∧ J g' x35 h) m ?_ ?_ g ⟨rfl, rfl, rfl, rfl, rfl, rfl, rfl, rfl, rfl, rfl, rfl, rfl, rfl, rfl, hj⟩
  · intro g env h hi
    obtain ⟨a0', n0', c0', e0', x3', i4', o4', a6', n6', c6', e6', x7', x8', x34', x35, rfl, rfl, rfl, rfl, rfl, rfl, rfl, rfl, rfl, rfl, rfl, rfl, rfl, rfl, rfl, hj⟩ := E7elim hi
    exact L7den Q R2 (fun a0' n0' c0' e0' x3' i4' o4' a6' n6' c6' e6' x7' x8' x34' x35 h => a0 = a0' ∧ n0 = n0' ∧ c0 = c0' ∧ e0 = e0' ∧ x3 = x3' ∧ i4 = i4' ∧ o4 = o4' ∧ a6 = a6' ∧ n6 = n6' ∧ c6 = c6' ∧ e6 = e6' ∧ x7 = x7' ∧ x8 = x8' ∧ x34 = x34' ∧ ∃ g', m g' < m g ∧ J g' x35 h) a0 n0 c0 e0 x3 i4 o4 a6 n6 c6 e6 x7 x8 x34 x35 h (hr g x35 h hj (fun a0' n0' c0' e0' x3' i4' o4' a6' n6' c6' e6' x7' x8' x34' x35 h => a0 = a0' ∧ n0 = n0' ∧ c0 = c0' ∧ e0 = e0' ∧ x3 = x3' ∧ i4 = i4' ∧ o4 = o4' ∧ a6 = a6' ∧ n6 = n6' ∧ c6 = c6' ∧ e6 = e6' ∧ x7 = x7' ∧ x8 = x8' ∧ x34 = x34' ∧ ∃ g', m g' < m g ∧ J g' x35 h) fun g' x35 h hlt hj => ⟨rfl, rfl, rfl, rfl, rfl, rfl, rfl, rfl, rfl, rfl, rfl, rfl, rfl, rfl, g', hlt, hj⟩)
  · intro g env h hi
    obtain ⟨a0', n0', c0', e0', x3', i4', o4', a6', n6', c6', e6', x7', x8', x34', x35, rfl, rfl, rfl, rfl, rfl, rfl, rfl, rfl, rfl, rfl, rfl, rfl, rfl, rfl, rfl, g', hlt, hj⟩ := E7elim hi
    exact ⟨g', hlt, rfl, rfl, rfl, rfl, rfl, rfl, rfl, rfl, rfl, rfl, rfl, rfl, rfl, rfl, hj⟩
theorem J11i (Q : QT) (R2 : T2) (R7 : T7) (x35 x34 : Int) (a0 : Pt) (n0 c0 : Nat) (e0 : Bool) (x3 : Int) (i4 o4 : Nat) (x8 x7 : Int) (a6 : Pt) (n6 c6 : Nat) (e6 : Bool) (h : AHeap) (ht :
 R7 a0 n0 c0 e0 x3 i4 o4 a6 n6 c6 e6 x7 x8 x34 (IntKind.wrap .i64 (x35 + 1)) h) : J11 Q R2 R7 x35 x34 a0 n0 c0 e0 x3 i4 o4 x8 x7 a6 n6 c6 e6 h :=
  den_Den (kp := kp) (@cast _ (den pg fn.ntmps kp (C [1, 0, 1, 0, 0, 1, 1, 0, 0, 1, 1, 1, 0, 0, 1, 1, 1]) [(35, .int .i64 x35), (34, .int .i64 x34), (0, .slice a0 n0 c0 e0), (3, .int .i64 x3), (4, .ptr (some (i4, o4))), (8, .int .i64 x8), (7, .int .i64 x7), (6, .slice a6 n6 c6 e6)] h (K8 Q R2 R7)) (by kernel_rfl) ht)
theorem A7x2i (Q : QT) (R2 : T2) (x8 x7 : Int) (a6 : Pt) (n6 c6 : Nat) (e6 : Bool) (a0 : Pt) (n0 c0 : Nat) (e0 : Bool) (h : AHeap) (ht :
 J12 Q R2 x8 x7 a6 n6 c6 e6 a0 n0 c0 e0 h) : A7x2 Q R2 x8 x7 a6 n6 c6 e6 a0 n0 c0 e0 h :=
  At.mk (@cast _ ((K6 Q R2) (.exit 2) [(8, .int .i64 x8), (7, .int .i64 x7), (6, .slice a6 n6 c6 e6), (0, .slice a0 n0 c0 e0), (2, .undef)] h) (by kernel_rfl) ht)
theorem J12i (Q : QT) (R2 : T2) (x8 x7 : Int) (a6 : Pt) (n6 c6 : Nat) (e6 : Bool) (a0 : Pt) (n0 c0 : Nat) (e0 : Bool) (h : AHeap) (ht :
 R2 a0 n0 c0 e0 a6 n6 c6 e6 x7 (IntKind.wrap .i64 (x8 + 1)) h) : J12 Q R2 x8 x7 a6 n6 c6 e6 a0 n0 c0 e0 h :=
  den_Den (kp := kp) (@cast _ (den pg fn.ntmps kp (C [1, 0, 1, 0, 0, 1, 1, 1]) [(8, .int .i64 x8), (7, .int .i64 x7), (6, .slice a6 n6 c6 e6), (0, .slice a0 n0 c0 e0)] h (K3 Q R2)) (by kernel_rfl) ht)
theorem call (a0 : Pt) (n0 c0 : Nat) (e0 : Bool) (h : AHeap) (Q : QT) (ht :
 L2 Q a0 n0 c0 e0 a0 n0 c0 e0 (((n0 : Nat) : Int)) 0 h) : SCall pg n_spec_l3Classes [.slice a0 n0 c0 e0] h Q :=
  SCall.of_body kp (c := cod fn) (fn := fn) Go.Proofs.Tryz.func57 (by kernel_rfl) (by kernel_rfl) (Nat.le_of_ble_eq_true (by kernel_rfl))
    (@cast _ (den pg fn.ntmps kp (cod fn) (Env.args 0 [.slice a0 n0 c0 e0]) h (KR Q)) (by kernel_rfl) ht)
end F_spec_l3Classes
end Go.Sim

/- Printed by wip/tool: what the functions' bodies do, in the words of 'den'. -/
set_option maxRecDepth 100000
set_option linter.unusedVariables false
namespace Go.Sim
open Go Go.RowKit
/-! Function loop.example/instancesearch/impl.known$1 -/
namespace F_impl_known_lit1
noncomputable abbrev fn : Func := Go.Proofs.Tryz.f121
def kp : Keeps := []
noncomputable def C (p : List Nat) : Code := (cod fn).sub p
def KR (Q : QT) : KT := retA pg fn.results.toList Q
theorem call (x0x0 x0x1 : List Nat) (v1 : AVal) (h : AHeap) (Q : QT) (ht :
 letH (h ++ [.cells t_impl_Class [.str x0x0, .str x0x1] false]) fun h_0 => xStr (hCell h_0 (.ptr (some (List.length h, 0 + 0)))) fun s_1 => xStr (hCell h_0 (v1)) fun s_2 => Q (.bool (decide (s_1 = s_2))) h_0) : SCall pg n_impl_known_lit1 [.agg [.str x0x0, .str x0x1], v1] h Q :=
  SCall.of_body kp (c := cod fn) (fn := fn) Go.Proofs.Tryz.func121 (by kernel_rfl) (by kernel_rfl) (Nat.le_of_ble_eq_true (by kernel_rfl))
    (@cast _ (den pg fn.ntmps kp (cod fn) (Env.args 0 [.agg [.str x0x0, .str x0x1], v1]) h (KR Q)) (by kernel_rfl) ht)
end F_impl_known_lit1
/-! Function slices.IndexFunc[[]loop.example/instancesearch/impl.Class,loop.example/instancesearch/impl.Class] -/
namespace F_slices_IndexFunc_L_impl_Class_impl_Class__impl_known_lit1
noncomputable abbrev fn : Func := Go.Proofs.Tryz.f136
def kp : Keeps := [(3000002, [4]), (1000002, [0, 1, 7, 8])]
noncomputable def C (p : List Nat) : Code := (cod fn).sub p
def KR (Q : QT) : KT := retA pg fn.results.toList Q
abbrev T2 := Pt → Nat → Nat → Bool → AVal → Int → Int → AHeap → Prop
def E2 (R2 : T2) (env : Env) (h : AHeap) : Prop := eVal 0 env fun v env => xSl (some v) fun a0 n0 c0 e0 => eVal 1 env fun v env => eFn n_impl_known_lit1 v fun cs => xCons cs fun c cs' => xAny (some c) fun v1x0 => xNil cs' (eVal 7 env fun v env => eInt .i64 v fun x7 => eVal 8 env fun v env => eInt .i64 v fun x8 => eNil env (R2 a0 n0 c0 e0 v1x0 x7 x8 h))
theorem E2elim {R2 : T2} {env : Env} {h : AHeap} (hi : E2 R2 env h) : ∃ a0, ∃ n0, ∃ c0, ∃ e0, ∃ v1x0, ∃ x7, ∃ x8, env = [(0, .slice a0 n0 c0 e0), (1, .fn n_impl_known_lit1 [v1x0]), (7, .int .i64 x7), (8, .int .i64 x8)] ∧ R2 a0 n0 c0 e0 v1x0 x7 x8 h := by
  unfold E2 at hi
  have hi0 := hi
  clear hi
  obtain ⟨v, env, rfl, hi1⟩ := eVal_elim hi0
  obtain ⟨a0, n0, c0, e0, rfl, hi2⟩ := xSl_elim hi1
  obtain ⟨v, env, rfl, hi3⟩ := eVal_elim hi2
  obtain ⟨cs, rfl, hi4⟩ := eFn_elim hi3
  obtain ⟨c, cs', rfl, hi5⟩ := xCons_elim hi4
  obtain ⟨v1x0, hx, hi6⟩ := xAny_elim hi5
  replace hx := (Option.some.inj hx).symm
  subst hx
  obtain ⟨rfl, hi7⟩ := xNil_elim hi6
  obtain ⟨v, env, rfl, hi8⟩ := eVal_elim hi7
  obtain ⟨x7, rfl, hi9⟩ := eInt_elim hi8
  obtain ⟨v, env, rfl, hi10⟩ := eVal_elim hi9
  obtain ⟨x8, rfl, hi11⟩ := eInt_elim hi10
  obtain ⟨rfl, hi12⟩ := eNil_elim hi11
  have hi := hi12
  exact ⟨a0, n0, c0, e0, v1x0, x7, x8, rfl, hi⟩
def K0 (Q : QT) : KT := andThen (fun env' h' => (match kp.find 4000007 with | some ks => Den pg fn.ntmps (C [1, 1]) (env'.keep ks) h' (KR Q) | none => den pg fn.ntmps kp (C [1, 1]) env' h' (KR Q))) (KR Q)
def K1 (Q : QT) : KT := onExit 0 (K0 Q)
def K2 (Q : QT) : KT := left kp 2 (K1 Q)
def K3 (Q : QT) (R2 : T2) : KT := rnd ((kp.find 1000002).getD []) (E2 R2) (K2 Q)
def L2 (Q : QT) (a0 : Pt) (n0 c0 : Nat) (e0 : Bool) (v1x0 : AVal) (x7 x8 : Int) (h : AHeap) : Prop := Loop (Den pg fn.ntmps (C [1, 0, 1, 0, 0])) ((kp.find 1000002).getD []) (K2 Q) [(0, .slice a0 n0 c0 e0), (1, .fn n_impl_known_lit1 [v1x0]), (7, .int .i64 x7), (8, .int .i64 x8)] h
def A2x0 (Q : QT) (h : AHeap) : Prop := At (K1 Q) (.exit 0) [(4, .undef)] h
def L2t (Q : QT) (R2 : T2) (a0 : Pt) (n0 c0 : Nat) (e0 : Bool) (v1x0 : AVal) (x7 x8 : Int) (h : AHeap) : Prop :=
 bcase (decide ((x8 : Int) < x7)) ((0 ≤ (x8 : Int) ∧ (x8 : Int) < (n0 : Nat)) ∧ (xSome a0 fun i_0 o_1 => xRow (hRow h (.ptr (some (i_0, o_1 + (Int.toNat x8) * 2))) 2) fun cs_2 => xCons cs_2 fun c_3 r_4 => xStr (some c_3) fun s_5 => xCons r_4 fun c_6 r_7 => xStr (some c_6) fun s_8 => xNil r_7 (SCall pg n_impl_known_lit1 [.agg [.str s_5, .str s_8], v1x0] h fun v_9 h_10 =>
 xBool (some v_9) fun b_11 => bcase b_11 (Q (.int .i64 x8) h_10) (R2 a0 n0 c0 e0 v1x0 x7 (IntKind.wrap .i64 (x8 + 1)) h_10)))) (A2x0 Q h)
theorem L2den (Q : QT) (R2 : T2) (a0 : Pt) (n0 c0 : Nat) (e0 : Bool) (v1x0 : AVal) (x7 x8 : Int) (h : AHeap) (ht : L2t Q R2 a0 n0 c0 e0 v1x0 x7 x8 h) : Den pg fn.ntmps (C [1, 0, 1, 0, 0]) [(0, .slice a0 n0 c0 e0), (1, .fn n_impl_known_lit1 [v1x0]), (7, .int .i64 x7), (8, .int .i64 x8)] h (K3 Q R2) :=
  den_Den (kp := kp) (@cast _ (den pg fn.ntmps kp (C [1, 0, 1, 0, 0]) [(0, .slice a0 n0 c0 e0), (1, .fn n_impl_known_lit1 [v1x0]), (7, .int .i64 x7), (8, .int .i64 x8)] h (K3 Q R2)) (by kernel_rfl) ht)
theorem L2ind (Q : QT) (a0 : Pt) (n0 c0 : Nat) (e0 : Bool) (v1x0 : AVal) (x7 : Int) {G : Type} (J : G → Int → AHeap → Prop) (m : G → Nat)
 (hr : ∀ (g : G) (x8 : Int) (h : AHeap), J g x8 h → ∀ (R2 : T2), (∀ g' (x8 : Int) (h : AHeap), m g' < m g → J g' x8 h → R2 a0 n0 c0 e0 v1x0 x7 x8 h) → L2t Q R2 a0 n0 c0 e0 v1x0 x7 x8 h)
 (g : G) (x8 : Int) (h : AHeap) (hj : J g x8 h) : L2 Q a0 n0 c0 e0 v1x0 x7 x8 h := by
  refine Loop.inv2 (fun g => E2 fun a0' n0' c0' e0' v1x0' x7' x8 h => a0 = a0' ∧ n0 = n0' ∧ c0 = c0' ∧ e0 = e0' ∧ v1x0 = v1x0' ∧ x7 = x7' ∧ J g x8 h) (fun g => E2 fun a0' n0' c0' e0' v1x0' x7' x8 h => a0 = a0' ∧ n0 = n0' ∧ c0 = c0' ∧ e0 = e0' ∧ v1x0 = v1x0' ∧ x7 = x7' ∧ ∃ g', m g' < m g ∧ J g' x8 h) m ?_ ?_ g ⟨rfl, rfl, rfl, rfl, rfl, rfl, hj⟩
  · intro g env h hi
    obtain ⟨a0', n0', c0', e0', v1x0', x7', x8, rfl, rfl, rfl, rfl, rfl, rfl, rfl, hj⟩ := E2elim hi
    exact L2den Q (fun a0' n0' c0' e0' v1x0' x7' x8 h => a0 = a0' ∧ n0 = n0' ∧ c0 = c0' ∧ e0 = e0' ∧ v1x0 = v1x0' ∧ x7 = x7' ∧ ∃ g', m g' < m g ∧ J g' x8 h) a0 n0 c0 e0 v1x0 x7 x8 h (hr g x8 h hj (fun a0' n0' c0' e0' v1x0' x7' x8 h => a0 = a0' ∧ n0 = n0' ∧ c0 = c0' ∧ e0 = e0' ∧ v1x0 = v1x0' ∧ x7 = x7' ∧ ∃ g', m g' < m g ∧ J g' x8 h) fun g' x8 h hlt hj => ⟨rfl, rfl, rfl, rfl, rfl, rfl, g', hlt, hj⟩)
  · intro g env h hi
    obtain ⟨a0', n0', c0', e0', v1x0', x7', x8, rfl, rfl, rfl, rfl, rfl, rfl, rfl, g', hlt, hj⟩ := E2elim hi
    exact ⟨g', hlt, rfl, rfl, rfl, rfl, rfl, rfl, hj⟩
theorem A2x0i (Q : QT) (h : AHeap) (ht :
 Q (.int .i64 (-1)) h) : A2x0 Q h :=
  At.mk (@cast _ ((K1 Q) (.exit 0) [(4, .undef)] h) (by kernel_rfl) ht)
theorem call (a0 : Pt) (n0 c0 : Nat) (e0 : Bool) (v1x0 : AVal) (h : AHeap) (Q : QT) (ht :
 L2 Q a0 n0 c0 e0 v1x0 (((n0 : Nat) : Int)) 0 h) : SCall pg n_slices_IndexFunc_L_impl_Class_impl_Class [.slice a0 n0 c0 e0, .fn n_impl_known_lit1 [v1x0]] h Q :=
  SCall.of_body kp (c := cod fn) (fn := fn) Go.Proofs.Tryz.func136 (by kernel_rfl) (by kernel_rfl) (Nat.le_of_ble_eq_true (by kernel_rfl))
    (@cast _ (den pg fn.ntmps kp (cod fn) (Env.args 0 [.slice a0 n0 c0 e0, .fn n_impl_known_lit1 [v1x0]]) h (KR Q)) (by kernel_rfl) ht)
end F_slices_IndexFunc_L_impl_Class_impl_Class__impl_known_lit1
/-! Function loop.example/instancesearch/impl.known -/
namespace F_impl_known
noncomputable abbrev fn : Func := Go.Proofs.Tryz.f87
def kp : Keeps := []
noncomputable def C (p : List Nat) : Code := (cod fn).sub p
def KR (Q : QT) : KT := retA pg fn.results.toList Q
theorem call (a0 : Pt) (n0 c0 : Nat) (e0 : Bool) (x1 : List Nat) (h : AHeap) (Q : QT) (ht :
 letH (h ++ [.cells t_string [.str x1] false]) fun h_0 => SCall pg n_slices_ContainsFunc_L_impl_Class_impl_Class [.slice a0 n0 c0 e0, .fn n_impl_known_lit1 [.ptr (some (List.length h, 0))]] h_0 fun v_1 h_2 =>
 xBool (some v_1) fun b_3 => Q (.bool b_3) h_2) : SCall pg n_impl_known [.slice a0 n0 c0 e0, .str x1] h Q :=
  SCall.of_body kp (c := cod fn) (fn := fn) Go.Proofs.Tryz.func87 (by kernel_rfl) (by kernel_rfl) (Nat.le_of_ble_eq_true (by kernel_rfl))
    (@cast _ (den pg fn.ntmps kp (cod fn) (Env.args 0 [.slice a0 n0 c0 e0, .str x1]) h (KR Q)) (by kernel_rfl) ht)
end F_impl_known
/-! Function slices.ContainsFunc[[]loop.example/instancesearch/impl.Class,loop.example/instancesearch/impl.Class] -/
namespace F_slices_ContainsFunc_L_impl_Class_impl_Class__impl_known_lit1
noncomputable abbrev fn : Func := Go.Proofs.Tryz.f120
def kp : Keeps := []
noncomputable def C (p : List Nat) : Code := (cod fn).sub p
def KR (Q : QT) : KT := retA pg fn.results.toList Q
theorem call (a0 : Pt) (n0 c0 : Nat) (e0 : Bool) (v1x0 : AVal) (h : AHeap) (Q : QT) (ht :
 SCall pg n_slices_IndexFunc_L_impl_Class_impl_Class [.slice a0 n0 c0 e0, .fn n_impl_known_lit1 [v1x0]] h fun v_0 h_1 =>
 xInt .i64 (some v_0) fun x_2 => Q (.bool (decide ((x_2 : Int) ≥ 0))) h_1) : SCall pg n_slices_ContainsFunc_L_impl_Class_impl_Class [.slice a0 n0 c0 e0, .fn n_impl_known_lit1 [v1x0]] h Q :=
  SCall.of_body kp (c := cod fn) (fn := fn) Go.Proofs.Tryz.func120 (by kernel_rfl) (by kernel_rfl) (Nat.le_of_ble_eq_true (by kernel_rfl))
    (@cast _ (den pg fn.ntmps kp (cod fn) (Env.args 0 [.slice a0 n0 c0 e0, .fn n_impl_known_lit1 [v1x0]]) h (KR Q)) (by kernel_rfl) ht)
end F_slices_ContainsFunc_L_impl_Class_impl_Class__impl_known_lit1
/-! Function loop.example/instancesearch/spec.l3Class -/
namespace F_spec_l3Class
noncomputable abbrev fn : Func := Go.Proofs.Tryz.f94
def kp : Keeps := [(3000002, [4]), (1000002, [1, 8, 9, 10])]
noncomputable def C (p : List Nat) : Code := (cod fn).sub p
def KR (Q : QT) : KT := retA pg fn.results.toList Q
abbrev T2 := List Nat → Pt → Nat → Nat → Bool → Int → Int → AHeap → Prop
def E2 (R2 : T2) (env : Env) (h : AHeap) : Prop := eVal 1 env fun v env => xStr (some v) fun x1 => eVal 8 env fun v env => xSl (some v) fun a8 n8 c8 e8 => eVal 9 env fun v env => eInt .i64 v fun x9 => eVal 10 env fun v env => eInt .i64 v fun x10 => eNil env (R2 x1 a8 n8 c8 e8 x9 x10 h)
theorem E2elim {R2 : T2} {env : Env} {h : AHeap} (hi : E2 R2 env h) : ∃ x1, ∃ a8, ∃ n8, ∃ c8, ∃ e8, ∃ x9, ∃ x10, env = [(1, .str x1), (8, .slice a8 n8 c8 e8), (9, .int .i64 x9), (10, .int .i64 x10)] ∧ R2 x1 a8 n8 c8 e8 x9 x10 h := by
  unfold E2 at hi
  have hi0 := hi
  clear hi
  obtain ⟨v, env, rfl, hi1⟩ := eVal_elim hi0
  obtain ⟨x1, rfl, hi2⟩ := xStr_elim hi1
  obtain ⟨v, env, rfl, hi3⟩ := eVal_elim hi2
  obtain ⟨a8, n8, c8, e8, rfl, hi4⟩ := xSl_elim hi3
  obtain ⟨v, env, rfl, hi5⟩ := eVal_elim hi4
  obtain ⟨x9, rfl, hi6⟩ := eInt_elim hi5
  obtain ⟨v, env, rfl, hi7⟩ := eVal_elim hi6
  obtain ⟨x10, rfl, hi8⟩ := eInt_elim hi7
  obtain ⟨rfl, hi9⟩ := eNil_elim hi8
  have hi := hi9
  exact ⟨x1, a8, n8, c8, e8, x9, x10, rfl, hi⟩
def K0 (Q : QT) : KT := andThen (fun env' h' => (match kp.find 4000007 with | some ks => Den pg fn.ntmps (C [1, 1]) (env'.keep ks) h' (KR Q) | none => den pg fn.ntmps kp (C [1, 1]) env' h' (KR Q))) (KR Q)
def K1 (Q : QT) : KT := onExit 0 (K0 Q)
def K2 (Q : QT) : KT := left kp 2 (K1 Q)
def K3 (Q : QT) (R2 : T2) : KT := rnd ((kp.find 1000002).getD []) (E2 R2) (K2 Q)
def L2 (Q : QT) (x1 : List Nat) (a8 : Pt) (n8 c8 : Nat) (e8 : Bool) (x9 x10 : Int) (h : AHeap) : Prop := Loop (Den pg fn.ntmps (C [1, 0, 1, 0, 0])) ((kp.find 1000002).getD []) (K2 Q) [(1, .str x1), (8, .slice a8 n8 c8 e8), (9, .int .i64 x9), (10, .int .i64 x10)] h
def A2x0 (Q : QT) (h : AHeap) : Prop := At (K1 Q) (.exit 0) [(4, .undef)] h
def L2t (Q : QT) (R2 : T2) (x1 : List Nat) (a8 : Pt) (n8 c8 : Nat) (e8 : Bool) (x9 x10 : Int) (h : AHeap) : Prop :=
 bcase (decide ((x10 : Int) < x9)) ((0 ≤ (x10 : Int) ∧ (x10 : Int) < (n8 : Nat)) ∧ (xSome a8 fun i_5 o_6 => xRow (hRow h (.ptr (some (i_5, o_6 + (Int.toNat x10) * 2))) 2) fun cs_7 => xCons cs_7 fun c_8 r_9 => xStr (some c_8) fun s_10 => xCons r_9 fun c_11 r_12 => xStr (some c_11) fun s_13 => xNil r_12 (letH (h ++ [.cells t_impl_Class [.str [], .str []] false]) fun h_14 => xHeap (hStore h_14 (.ptr (some (List.length h, 0))) [.str s_10, .str s_13]) fun h_15 => xStr (hCell h_15 (.ptr (some (List.length h, 0 + 0)))) fun s_16 => bcase (decide (s_16 = x1)) (Q (.int .i64 x10) h_15) (R2 x1 a8 n8 c8 e8 x9 (IntKind.wrap .i64 (x10 + 1)) h_15)))) (A2x0 Q h)
theorem L2den (Q : QT) (R2 : T2) (x1 : List Nat) (a8 : Pt) (n8 c8 : Nat) (e8 : Bool) (x9 x10 : Int) (h : AHeap) (ht : L2t Q R2 x1 a8 n8 c8 e8 x9 x10 h) : Den pg fn.ntmps (C [1, 0, 1, 0, 0]) [(1, .str x1), (8, .slice a8 n8 c8 e8), (9, .int .i64 x9), (10, .int .i64 x10)] h (K3 Q R2) :=
  den_Den (kp := kp) (@cast _ (den pg fn.ntmps kp (C [1, 0, 1, 0, 0]) [(1, .str x1), (8, .slice a8 n8 c8 e8), (9, .int .i64 x9), (10, .int .i64 x10)] h (K3 Q R2)) (by kernel_rfl) ht)
theorem L2ind (Q : QT) (x1 : List Nat) (a8 : Pt) (n8 c8 : Nat) (e8 : Bool) (x9 : Int) {G : Type} (J : G → Int → AHeap → Prop) (m : G → Nat)
 (hr : ∀ (g : G) (x10 : Int) (h : AHeap), J g x10 h → ∀ (R2 : T2), (∀ g' (x10 : Int) (h : AHeap), m g' < m g → J g' x10 h → R2 x1 a8 n8 c8 e8 x9 x10 h) → L2t Q R2 x1 a8 n8 c8 e8 x9 x10 h)
 (g : G) (x10 : Int) (h : AHeap) (hj : J g x10 h) : L2 Q x1 a8 n8 c8 e8 x9 x10 h := by
  refine Loop.inv2 (fun g => E2 fun x1' a8' n8' c8' e8' x9' x10 h => x1 = x1' ∧ a8 = a8' ∧ n8 = n8' ∧ c8 = c8' ∧ e8 = e8' ∧ x9 = x9' ∧ J g x10 h) (fun g => E2 fun x1' a8' n8' c8' e8' x9' x10 h => x1 = x1' ∧ a8 = a8' ∧ n8 = n8' ∧ c8 = c8' ∧ e8 = e8' ∧ x9 = x9' ∧ ∃ g', m g' < m g ∧ J g' x10 h) m ?_ ?_ g ⟨rfl, rfl, rfl, rfl, rfl, rfl, hj⟩
  · intro g env h hi
    obtain ⟨x1', a8', n8', c8', e8', x9', x10, rfl, rfl, rfl, rfl, rfl, rfl, rfl, hj⟩ := E2elim hi
    exact L2den Q (fun x1' a8' n8' c8' e8' x9' x10 h => x1 = x1' ∧ a8 = a8' ∧ n8 = n8' ∧ c8 = c8' ∧ e8 = e8' ∧ x9 = x9' ∧ ∃ g', m g' < m g ∧ J g' x10 h) x1 a8 n8 c8 e8 x9 x10 h (hr g x10 h hj (fun x1' a8' n8' c8' e8' x9' x10 h => x1 = x1' ∧ a8 = a8' ∧ n8 = n8' ∧ c8 = c8' ∧ e8 = e8' ∧ x9 = x9' ∧ ∃ g', m g' < m g ∧ J g' x10 h) fun g' x10 h hlt hj => ⟨rfl, rfl, rfl, rfl, rfl, rfl, g', hlt, hj⟩)
  · intro g env h hi
    obtain ⟨x1', a8', n8', c8', e8', x9', x10, rfl, rfl, rfl, rfl, rfl, rfl, rfl, g', hlt, hj⟩ := E2elim hi
    exact ⟨g', hlt, rfl, rfl, rfl, rfl, rfl, rfl, hj⟩
theorem A2x0i (Q : QT) (h : AHeap) (ht :
 Q (.int .i64 (-1)) h) : A2x0 Q h :=
  At.mk (@cast _ ((K1 Q) (.exit 0) [(4, .undef)] h) (by kernel_rfl) ht)
theorem call (a0x0 : Pt) (n0x0 c0x0 : Nat) (e0x0 : Bool) (a0x1 : Pt) (n0x1 c0x1 : Nat) (e0x1 : Bool) (x1 : List Nat) (h : AHeap) (Q : QT) (ht :
 letH (h ++ [.cells t_impl_World [.slice a0x0 n0x0 c0x0 e0x0, .slice a0x1 n0x1 c0x1 e0x1] false]) fun h_0 => xSl (hCell h_0 (.ptr (some (List.length h, 0 + 0)))) fun a_1 n_2 c_3 e_4 => L2 Q x1 a_1 n_2 c_3 e_4 (((n_2 : Nat) : Int)) 0 h_0) : SCall pg n_spec_l3Class [.agg [.slice a0x0 n0x0 c0x0 e0x0, .slice a0x1 n0x1 c0x1 e0x1], .str x1] h Q :=
  SCall.of_body kp (c := cod fn) (fn := fn) Go.Proofs.Tryz.func94 (by kernel_rfl) (by kernel_rfl) (Nat.le_of_ble_eq_true (by kernel_rfl))
    (@cast _ (den pg fn.ntmps kp (cod fn) (Env.args 0 [.agg [.slice a0x0 n0x0 c0x0 e0x0, .slice a0x1 n0x1 c0x1 e0x1], .str x1]) h (KR Q)) (by kernel_rfl) ht)
end F_spec_l3Class
/-! Function loop.example/instancesearch/impl.classesOk -/
namespace F_impl_classesOk
noncomputable abbrev fn : Func := Go.Proofs.Tryz.f62
def kp : Keeps := [(3000002, [1, 2]), (1000002, [1, 7, 8, 9]), (2000004, [33, 4, 1, 3, 7, 8, 9]), (4000006, [4, 1, 3, 7, 8, 9]), (3000007, [9, 8, 7, 1, 2]), (1000007, [1, 3, 4, 7, 8, 9, 36, 37]), (2000009, [67, 37, 36, 1, 3, 4, 9, 8, 7]), (4000011, [37, 36, 1, 3, 4, 9, 8, 7]), (4000012, [9, 8, 7, 1])]
noncomputable def C (p : List Nat) : Code := (cod fn).sub p
def KR (Q : QT) : KT := retA pg fn.results.toList Q
abbrev T2 := Nat → Nat → Pt → Nat → Nat → Bool → Int → Int → AHeap → Prop
def E2 (R2 : T2) (env : Env) (h : AHeap) : Prop := eVal 1 env fun v env => xPtr (some v) fun a => xSome a fun i1 o1 => eVal 7 env fun v env => xSl (some v) fun a7 n7 c7 e7 => eVal 8 env fun v env => eInt .i64 v fun x8 => eVal 9 env fun v env => eInt .i64 v fun x9 => eNil env (R2 i1 o1 a7 n7 c7 e7 x8 x9 h)
theorem E2elim {R2 : T2} {env : Env} {h : AHeap} (hi : E2 R2 env h) : ∃ i1, ∃ o1, ∃ a7, ∃ n7, ∃ c7, ∃ e7, ∃ x8, ∃ x9, env = [(1, .ptr (some (i1, o1))), (7, .slice a7 n7 c7 e7), (8, .int .i64 x8), (9, .int .i64 x9)] ∧ R2 i1 o1 a7 n7 c7 e7 x8 x9 h := by
  unfold E2 at hi
  have hi0 := hi
  clear hi
  obtain ⟨v, env, rfl, hi1⟩ := eVal_elim hi0
  obtain ⟨a, rfl, hi2⟩ := xPtr_elim hi1
  obtain ⟨i1, o1, rfl, hi3⟩ := xSome_elim hi2
  obtain ⟨v, env, rfl, hi4⟩ := eVal_elim hi3
  obtain ⟨a7, n7, c7, e7, rfl, hi5⟩ := xSl_elim hi4
  obtain ⟨v, env, rfl, hi6⟩ := eVal_elim hi5
  obtain ⟨x8, rfl, hi7⟩ := eInt_elim hi6
  obtain ⟨v, env, rfl, hi8⟩ := eVal_elim hi7
  obtain ⟨x9, rfl, hi9⟩ := eInt_elim hi8
  obtain ⟨rfl, hi10⟩ := eNil_elim hi9
  have hi := hi10
  exact ⟨i1, o1, a7, n7, c7, e7, x8, x9, rfl, hi⟩
abbrev T7 := Nat → Nat → Int → Nat → Nat → Pt → Nat → Nat → Bool → Int → Int → Int → Int → AHeap → Prop
def E7 (R7 : T7) (env : Env) (h : AHeap) : Prop := eVal 1 env fun v env => xPtr (some v) fun a => xSome a fun i1 o1 => eVal 3 env fun v env => eInt .i64 v fun x3 => eVal 4 env fun v env => xPtr (some v) fun a => xSome a fun i4 o4 => eVal 7 env fun v env => xSl (some v) fun a7 n7 c7 e7 => eVal 8 env fun v env => eInt .i64 v fun x8 => eVal 9 env fun v env => eInt .i64 v fun x9 => eVal 36 env fun v env => eInt .i64 v fun x36 => eVal 37 env fun v env => eInt .i64 v fun x37 => eNil env (R7 i1 o1 x3 i4 o4 a7 n7 c7 e7 x8 x9 x36 x37 h)
theorem E7elim {R7 : T7} {env : Env} {h : AHeap} (hi : E7 R7 env h) : ∃ i1, ∃ o1, ∃ x3, ∃ i4, ∃ o4, ∃ a7, ∃ n7, ∃ c7, ∃ e7, ∃ x8, ∃ x9, ∃ x36, ∃ x37, env = [(1, .ptr (some (i1, o1))), (3, .int .i64 x3), (4, .ptr (some (i4, o4))), (7, .slice a7 n7 c7 e7), (8, .int .i64 x8), (9, .int .i64 x9), (36, .int .i64 x36), (37, .int .i64 x37)] ∧ R7 i1 o1 x3 i4 o4 a7 n7 c7 e7 x8 x9 x36 x37 h := by
  unfold E7 at hi
  have hi0 := hi
  clear hi
  obtain ⟨v, env, rfl, hi1⟩ := eVal_elim hi0
  obtain ⟨a, rfl, hi2⟩ := xPtr_elim hi1
  obtain ⟨i1, o1, rfl, hi3⟩ := xSome_elim hi2
  obtain ⟨v, env, rfl, hi4⟩ := eVal_elim hi3
  obtain ⟨x3, rfl, hi5⟩ := eInt_elim hi4
  obtain ⟨v, env, rfl, hi6⟩ := eVal_elim hi5
  obtain ⟨a, rfl, hi7⟩ := xPtr_elim hi6
  obtain ⟨i4, o4, rfl, hi8⟩ := xSome_elim hi7
  obtain ⟨v, env, rfl, hi9⟩ := eVal_elim hi8
  obtain ⟨a7, n7, c7, e7, rfl, hi10⟩ := xSl_elim hi9
  obtain ⟨v, env, rfl, hi11⟩ := eVal_elim hi10
  obtain ⟨x8, rfl, hi12⟩ := eInt_elim hi11
  obtain ⟨v, env, rfl, hi13⟩ := eVal_elim hi12
  obtain ⟨x9, rfl, hi14⟩ := eInt_elim hi13
  obtain ⟨v, env, rfl, hi15⟩ := eVal_elim hi14
  obtain ⟨x36, rfl, hi16⟩ := eInt_elim hi15
  obtain ⟨v, env, rfl, hi17⟩ := eVal_elim hi16
  obtain ⟨x37, rfl, hi18⟩ := eInt_elim hi17
  obtain ⟨rfl, hi19⟩ := eNil_elim hi18
  have hi := hi19
  exact ⟨i1, o1, x3, i4, o4, a7, n7, c7, e7, x8, x9, x36, x37, rfl, hi⟩
def K0 (Q : QT) : KT := andThen (fun env' h' => (match kp.find 4000013 with | some ks => Den pg fn.ntmps (C [1, 1]) (env'.keep ks) h' (KR Q) | none => den pg fn.ntmps kp (C [1, 1]) env' h' (KR Q))) (KR Q)
def K1 (Q : QT) : KT := onExit 0 (K0 Q)
def K2 (Q : QT) : KT := left kp 2 (K1 Q)
def K3 (Q : QT) (R2 : T2) : KT := rnd ((kp.find 1000002).getD []) (E2 R2) (K2 Q)
def K4 (Q : QT) (R2 : T2) : KT := andThen (fun env' h' => (match kp.find 4000012 with | some ks => Den pg fn.ntmps (C [1, 0, 1, 0, 0, 1, 1, 1]) (env'.keep ks) h' (K3 Q R2) | none => den pg fn.ntmps kp (C [1, 0, 1, 0, 0, 1, 1, 1]) env' h' (K3 Q R2))) (K3 Q R2)
def K5 (Q : QT) (R2 : T2) : KT := onExit 1 (K4 Q R2)
def K6 (Q : QT) (R2 : T2) : KT := onExit 2 (K5 Q R2)
def K7 (Q : QT) (R2 : T2) : KT := left kp 7 (K6 Q R2)
def K8 (Q : QT) (R2 : T2) (R7 : T7) : KT := rnd ((kp.find 1000007).getD []) (E7 R7) (K7 Q R2)
def L2 (Q : QT) (i1 o1 : Nat) (a7 : Pt) (n7 c7 : Nat) (e7 : Bool) (x8 x9 : Int) (h : AHeap) : Prop := Loop (Den pg fn.ntmps (C [1, 0, 1, 0, 0])) ((kp.find 1000002).getD []) (K2 Q) [(1, .ptr (some (i1, o1))), (7, .slice a7 n7 c7 e7), (8, .int .i64 x8), (9, .int .i64 x9)] h
def J6 (Q : QT) (R2 : T2) (i4 o4 i1 o1 : Nat) (x3 : Int) (a7 : Pt) (n7 c7 : Nat) (e7 : Bool) (x8 x9 : Int) (h : AHeap) : Prop := Den pg fn.ntmps (C [1, 0, 1, 0, 0, 1, 1, 0, 0, 1, 1]) [(4, .ptr (some (i4, o4))), (1, .ptr (some (i1, o1))), (3, .int .i64 x3), (7, .slice a7 n7 c7 e7), (8, .int .i64 x8), (9, .int .i64 x9)] h (K5 Q R2)
def A2x0 (Q : QT) (i1 o1 : Nat) (h : AHeap) : Prop := At (K1 Q) (.exit 0) [(1, .ptr (some (i1, o1))), (2, .undef)] h
def L7 (Q : QT) (R2 : T2) (i1 o1 : Nat) (x3 : Int) (i4 o4 : Nat) (a7 : Pt) (n7 c7 : Nat) (e7 : Bool) (x8 x9 x36 x37 : Int) (h : AHeap) : Prop := Loop (Den pg fn.ntmps (C [1, 0, 1, 0, 0, 1, 1, 0, 0, 1, 1, 1, 0, 0])) ((kp.find 1000007).getD []) (K7 Q R2) [(1, .ptr (some (i1, o1))), (3, .int .i64 x3), (4, .ptr (some (i4, o4))), (7, .slice a7 n7 c7 e7), (8, .int .i64 x8), (9, .int .i64 x9), (36, .int .i64 x36), (37, .int .i64 x37)] h
def J11 (Q : QT) (R2 : T2) (R7 : T7) (x37 x36 : Int) (i1 o1 : Nat) (x3 : Int) (i4 o4 : Nat) (x9 x8 : Int) (a7 : Pt) (n7 c7 : Nat) (e7 : Bool) (h : AHeap) : Prop := Den pg fn.ntmps (C [1, 0, 1, 0, 0, 1, 1, 0, 0, 1, 1, 1, 0, 0, 1, 1, 1]) [(37, .int .i64 x37), (36, .int .i64 x36), (1, .ptr (some (i1, o1))), (3, .int .i64 x3), (4, .ptr (some (i4, o4))), (9, .int .i64 x9), (8, .int .i64 x8), (7, .slice a7 n7 c7 e7)] h (K8 Q R2 R7)
def A7x2 (Q : QT) (R2 : T2) (x9 x8 : Int) (a7 : Pt) (n7 c7 : Nat) (e7 : Bool) (i1 o1 : Nat) (h : AHeap) : Prop := At (K6 Q R2) (.exit 2) [(9, .int .i64 x9), (8, .int .i64 x8), (7, .slice a7 n7 c7 e7), (1, .ptr (some (i1, o1))), (2, .undef)] h
def J12 (Q : QT) (R2 : T2) (x9 x8 : Int) (a7 : Pt) (n7 c7 : Nat) (e7 : Bool) (i1 o1 : Nat) (h : AHeap) : Prop := Den pg fn.ntmps (C [1, 0, 1, 0, 0, 1, 1, 1]) [(9, .int .i64 x9), (8, .int .i64 x8), (7, .slice a7 n7 c7 e7), (1, .ptr (some (i1, o1)))] h (K3 Q R2)
def L2t (Q : QT) (R2 : T2) (i1 o1 : Nat) (a7 : Pt) (n7 c7 : Nat) (e7 : Bool) (x8 x9 : Int) (h : AHeap) : Prop :=
 bcase (decide ((x9 : Int) < x8)) ((0 ≤ (x9 : Int) ∧ (x9 : Int) < (n7 : Nat)) ∧ (xSome a7 fun i_5 o_6 => xRow (hRow h (.ptr (some (i_5, o_6 + (Int.toNat x9) * 2))) 2) fun cs_7 => xCons cs_7 fun c_8 r_9 => xStr (some c_8) fun s_10 => xCons r_9 fun c_11 r_12 => xStr (some c_11) fun s_13 => xNil r_12 (letH (h ++ [.cells t_impl_Class [.str [], .str []] false]) fun h_14 => xHeap (hStore h_14 (.ptr (some (List.length h, 0))) [.str s_10, .str s_13]) fun h_15 => xStr (hCell h_15 (.ptr (some (List.length h, 0 + 0)))) fun s_16 => SCall pg n_impl_isClass [.str s_16] h_15 fun v_17 h_18 =>
 xBool (some v_17) fun b_19 => bcase (!b_19) ((hCell h_18 (.tup []) = hCell h_18 (.tup [])) ∧ (hCell h_18 (.tup []) = hCell h_18 (.tup [])) ∧ Q (.bool false) h_18) (bcase (decide ((x9 : Int) > 0)) (xSl (hCell h_18 (.ptr (some (i1, o1 + 0)))) fun a_20 n_21 c_22 e_23 => (0 ≤ (IntKind.wrap .i64 (x9 - 1) : Int) ∧ (IntKind.wrap .i64 (x9 - 1) : Int) < (n_21 : Nat)) ∧ (xSome a_20 fun i_24 o_25 => xStr (hCell h_18 (.ptr (some (i_24, o_25 + (Int.toNat (IntKind.wrap .i64 (x9 - 1))) * 2 + 0)))) fun s_26 => xStr (hCell h_18 (.ptr (some (List.length h, 0 + 0)))) fun s_27 => (hCell h_18 (.ptr (some (i_24, o_25 + (Int.toNat (IntKind.wrap .i64 (x9 - 1))) * 2 + 0))) = hCell h_18 (.ptr (some (i_24, o_25 + (Int.toNat (IntKind.wrap .i64 (x9 - 1))) * 2 + 0)))) ∧ (hCell h_18 (.ptr (some (i1, o1 + 0))) = hCell h_18 (.ptr (some (i1, o1 + 0)))) ∧ bcase (!natLess s_26 s_27) (Q (.bool false) h_18) (J6 Q R2 (List.length h) 0 i1 o1 x9 a7 n7 c7 e7 x8 x9 h_18))) ((hCell h_18 (.tup []) = hCell h_18 (.tup [])) ∧ (hCell h_18 (.tup []) = hCell h_18 (.tup [])) ∧ J6 Q R2 (List.length h) 0 i1 o1 x9 a7 n7 c7 e7 x8 x9 h_18))))) (A2x0 Q i1 o1 h)
theorem L2den (Q : QT) (R2 : T2) (i1 o1 : Nat) (a7 : Pt) (n7 c7 : Nat) (e7 : Bool) (x8 x9 : Int) (h : AHeap) (ht : L2t Q R2 i1 o1 a7 n7 c7 e7 x8 x9 h) : Den pg fn.ntmps (C [1, 0, 1, 0, 0]) [(1, .ptr (some (i1, o1))), (7, .slice a7 n7 c7 e7), (8, .int .i64 x8), (9, .int .i64 x9)] h (K3 Q R2) :=
  den_Den (kp := kp) (@cast _ (den pg fn.ntmps kp (C [1, 0, 1, 0, 0]) [(1, .ptr (some (i1, o1))), (7, .slice a7 n7 c7 e7), (8, .int .i64 x8), (9, .int .i64 x9)] h (K3 Q R2)) (by kernel_rfl) ht)
theorem L2ind (Q : QT) (i1 o1 : Nat) (a7 : Pt) (n7 c7 : Nat) (e7 : Bool) (x8 : Int) {G : Type} (J : G → Int → AHeap → Prop) (m : G → Nat)
 (hr : ∀ (g : G) (x9 : Int) (h : AHeap), J g x9 h → ∀ (R2 : T2), (∀ g' (x9 : Int) (h : AHeap), m g' < m g → J g' x9 h → R2 i1 o1 a7 n7 c7 e7 x8 x9 h) → L2t Q R2 i1 o1 a7 n7 c7 e7 x8 x9 h)
 (g : G) (x9 : Int) (h : AHeap) (hj : J g x9 h) : L2 Q i1 o1 a7 n7 c7 e7 x8 x9 h := by
  refine Loop.inv2 (fun g => E2 fun i1' o1' a7' n7' c7' e7' x8' x9 h => i1 = i1' ∧ o1 = o1' ∧ a7 = a7' ∧ n7 = n7' ∧ c7 = c7' ∧ e7 = e7' ∧ x8 = x8' ∧ J g x9 h) (fun g => E2 fun i1' o1' a7' n7' c7' e7' x8' x9 h => i1 = i1' ∧ o1 = o1' ∧ a7 = a7' ∧ n7 = n7' ∧ c7 = c7' ∧ e7 = e7' ∧ x8 = x8' ∧ ∃ g', m g' < m g ∧ J g' x9 h) m ?_ ?_ g ⟨rfl, rfl, rfl, rfl, rfl, rfl, rfl, hj⟩
  · intro g env h hi
    obtain ⟨i1', o1', a7', n7', c7', e7', x8', x9, rfl, rfl, rfl, rfl, rfl, rfl, rfl, rfl, hj⟩ := E2elim hi
    exact L2den Q (fun i1' o1' a7' n7' c7' e7' x8' x9 h => i1 = i1' ∧ o1 = o1' ∧ a7 = a7' ∧ n7 = n7' ∧ c7 = c7' ∧ e7 = e7' ∧ x8 = x8' ∧ ∃ g', m g' < m g ∧ J g' x9 h) i1 o1 a7 n7 c7 e7 x8 x9 h (hr g x9 h hj (fun i1' o1' a7' n7' c7' e7' x8' x9 h => i1 = i1' ∧ o1 = o1' ∧ a7 = a7' ∧ n7 = n7' ∧ c7 = c7' ∧ e7 = e7' ∧ x8 = x8' ∧ ∃ g', m g' < m g ∧ J g' x9 h) fun g' x9 h hlt hj => ⟨rfl, rfl, rfl, rfl, rfl, rfl, rfl, g', hlt, hj⟩)
  · intro g env h hi
    obtain ⟨i1', o1', a7', n7', c7', e7', x8', x9, rfl, rfl, rfl, rfl, rfl, rfl, rfl, rfl, g', hlt, hj⟩ := E2elim hi
    exact ⟨g', hlt, rfl, rfl, rfl, rfl, rfl, rfl, rfl, hj⟩
theorem J6i (Q : QT) (R2 : T2) (i4 o4 i1 o1 : Nat) (x3 : Int) (a7 : Pt) (n7 c7 : Nat) (e7 : Bool) (x8 x9 : Int) (h : AHeap) (ht :
 xStr (hCell h (.ptr (some (i4, o4 + 1)))) fun s_28 => L7 Q R2 i1 o1 x3 i4 o4 a7 n7 c7 e7 x8 x9 (((List.length s_28 : Nat) : Int)) 0 h) : J6 Q R2 i4 o4 i1 o1 x3 a7 n7 c7 e7 x8 x9 h :=
  den_Den (kp := kp) (@cast _ (den pg fn.ntmps kp (C [1, 0, 1, 0, 0, 1, 1, 0, 0, 1, 1]) [(4, .ptr (some (i4, o4))), (1, .ptr (some (i1, o1))), (3, .int .i64 x3), (7, .slice a7 n7 c7 e7), (8, .int .i64 x8), (9, .int .i64 x9)] h (K5 Q R2)) (by kernel_rfl) ht)
theorem A2x0i (Q : QT) (i1 o1 : Nat) (h : AHeap) (ht :
 xSl (hCell h (.ptr (some (i1, o1 + 0)))) fun a_29 n_30 c_31 e_32 => bcase (decide (((((n_30 : Nat) : Int)) : Int) ≥ 1)) (xSl (hCell h (.ptr (some (i1, o1 + 0)))) fun a_33 n_34 c_35 e_36 => Q (.bool (decide (((((n_34 : Nat) : Int)) : Int) ≤ 4))) h) (Q (.bool false) h)) : A2x0 Q i1 o1 h :=
  At.mk (@cast _ ((K1 Q) (.exit 0) [(1, .ptr (some (i1, o1))), (2, .undef)] h) (by kernel_rfl) ht)
def L7t (Q : QT) (R2 : T2) (R7 : T7) (i1 o1 : Nat) (x3 : Int) (i4 o4 : Nat) (a7 : Pt) (n7 c7 : Nat) (e7 : Bool) (x8 x9 x36 x37 : Int) (h : AHeap) : Prop :=
 bcase (decide ((x37 : Int) < x36)) (xSl (hCell h (.ptr (some (i1, o1 + 0)))) fun a_37 n_38 c_39 e_40 => sliceSl a_37 n_38 c_39 e_40 2 none (some (.int .i64 x3)) none fun v_41 => xSl (some v_41) fun a_42 n_43 c_44 e_45 => xStr (hCell h (.ptr (some (i4, o4 + 1)))) fun s_46 => (hCell h (.ptr (some (i1, o1 + 0))) = hCell h (.ptr (some (i1, o1 + 0)))) ∧ (0 ≤ (x37 : Int) ∧ (x37 : Int) ≤ IntKind.wrap .i64 (x37 + 1) ∧ (IntKind.wrap .i64 (x37 + 1) : Int) ≤ (List.length s_46 : Nat)) ∧ (SCall pg n_impl_known [.slice a_42 n_43 c_44 e_45, .str (sub s_46 x37 (IntKind.wrap .i64 (x37 + 1)))] h fun v_47 h_48 =>
 xBool (some v_47) fun b_49 => (hCell h_48 (.ptr (some (i1, o1 + 0))) = hCell h (.ptr (some (i1, o1 + 0)))) ∧ bcase (!b_49) ((hCell h_48 (.tup []) = hCell h_48 (.tup [])) ∧ (hCell h_48 (.ptr (some (i1, o1 + 0))) = hCell h_48 (.ptr (some (i1, o1 + 0)))) ∧ Q (.bool false) h_48) (bcase (decide ((x37 : Int) > 0)) (xStr (hCell h_48 (.ptr (some (i4, o4 + 1)))) fun s_50 => byteAt s_50 (IntKind.wrap .i64 (x37 - 1)) fun b_51 => xStr (hCell h_48 (.ptr (some (i4, o4 + 1)))) fun s_52 => (hCell h_48 (.ptr (some (i4, o4 + 1))) = hCell h_48 (.ptr (some (i4, o4 + 1)))) ∧ (hCell h_48 (.ptr (some (i1, o1 + 0))) = hCell h_48 (.ptr (some (i1, o1 + 0)))) ∧ byteAt s_52 x37 fun b_53 => bcase (decide (((((b_51 : Nat) : Int)) : Int) ≥ (((b_53 : Nat) : Int)))) (Q (.bool false) h_48) (J11 Q R2 R7 x37 x36 i1 o1 x3 i4 o4 x9 x8 a7 n7 c7 e7 h_48)) ((hCell h_48 (.tup []) = hCell h_48 (.tup [])) ∧ (hCell h_48 (.ptr (some (i1, o1 + 0))) = hCell h_48 (.ptr (some (i1, o1 + 0)))) ∧ J11 Q R2 R7 x37 x36 i1 o1 x3 i4 o4 x9 x8 a7 n7 c7 e7 h_48)))) (A7x2 Q R2 x9 x8 a7 n7 c7 e7 i1 o1 h)
theorem L7den (Q : QT) (R2 : T2) (R7 : T7) (i1 o1 : Nat) (x3 : Int) (i4 o4 : Nat) (a7 : Pt) (n7 c7 : Nat) (e7 : Bool) (x8 x9 x36 x37 : Int) (h : AHeap) (ht : L7t Q R2 R7 i1 o1 x3 i4 o4 a7 n7 c7 e7 x8 x9 x36 x37 h) : Den pg fn.ntmps (C [1, 0, 1, 0, 0, 1, 1, 0, 0, 1, 1, 1, 0, 0]) [(1, .ptr (some (i1, o1))), (3, .int .i64 x3), (4, .ptr (some (i4, o4))), (7, .slice a7 n7 c7 e7), (8, .int .i64 x8), (9, .int .i64 x9), (36, .int .i64 x36), (37, .int .i64 x37)] h (K8 Q R2 R7) :=
  den_Den (kp := kp) (@cast _ (den pg fn.ntmps kp (C [1, 0, 1, 0, 0, 1, 1, 0, 0, 1, 1, 1, 0, 0]) [(1, .ptr (some (i1, o1))), (3, .int .i64 x3), (4, .ptr (some (i4, o4))), (7, .slice a7 n7 c7 e7), (8, .int .i64 x8), (9, .int .i64 x9), (36, .int .i64 x36), (37, .int .i64 x37)] h (K8 Q R2 R7)) (by kernel_rfl) ht)
theorem L7ind (Q : QT) (R2 : T2) (i1 o1 : Nat) (x3 : Int) (i4 o4 : Nat) (a7 : Pt) (n7 c7 : Nat) (e7 : Bool) (x8 x9 x36 : Int) {G : Type} (J : G → Int → AHeap → Prop) (m : G → Nat)
 (hr : ∀ (g : G) (x37 : Int) (h : AHeap), J g x37 h → ∀ (R7 : T7), (∀ g' (x37 : Int) (h : AHeap), m g' < m g → J g' x37 h → R7 i1 o1 x3 i4 o4 a7 n7 c7 e7 x8 x9 x36 x37 h) → L7t Q R2 R7 i1 o1 x3 i4 o4 a7 n7 c7 e7 x8 x9 x36 x37 h)
 (g : G) (x37 : Int) (h : AHeap) (hj : J g x37 h) : L7 Q R2 i1 o1 x3 i4 o4 a7 n7 c7 e7 x8 x9 x36 x37 h := by
  refine Loop.inv2 (fun g => E7 fun i1' o1' x3' i4' o4' a7' n7' c7' e7' x8' x9' x36' x37 h => i1 = i1' ∧ o1 = o1' ∧ x3 = x3' ∧ i4 = i4' ∧ o4 = o4' ∧ a7 = a7' ∧ n7 = n7' ∧ c7 = c7' ∧ e7 = e7' ∧ x8 = x8' ∧ x9 = x9' ∧ x36 = x36' ∧ J g x37 h) (fun g => E7 fun i1' o1' x3' i4' o4' a7' n7' c7' e7' x8' x9' x36' x37 h => i1 = i1' ∧ o1 = o1' ∧ x3 = x3' ∧ i4 = i4' ∧ o4 = o4' ∧ a7 = a7' ∧ n7 = n7' ∧ c7 = c7' ∧ e7 = e7' ∧ x8 = x8' ∧ x9 = x9' ∧ x36 = x36' ∧ ∃ g', m g' < m g ∧ J g' x37 h) m ?_ ?_ g ⟨rfl, rfl, rfl, rfl, rfl, rfl, rfl, rfl, rfl, rfl, rfl, rfl, hj⟩
  · intro g env h hi
    obtain ⟨i1', o1', x3', i4', o4', a7', n7', c7', e7', x8', x9', x36', x37, rfl, rfl, rfl, rfl, rfl, rfl, rfl, rfl, rfl, rfl, rfl, rfl, rfl, hj⟩ := E7elim hi
    exact L7den Q R2 (fun i1' o1' x3' i4' o4' a7' n7' c7' e7' x8' x9' x36' x37 h => i1 = i1' ∧ o1 = o1' ∧ x3 = x3' ∧ i4 = i4' ∧ o4 = o4' ∧ a7 = a7' ∧ n7 = n7' ∧ c7 = c7' ∧ e7 = e7' ∧ x8 = x8' ∧ x9 = x9' ∧ x36 = x36' ∧ ∃ g', m g' < m g ∧ J g' x37 h) i1 o1 x3 i4 o4 a7 n7 c7 e7 x8 x9 x36 x37 h (hr g x37 h hj (fun i1' o1' x3' i4' o4' a7' n7' c7' e7' x8' x9' x36' x37 h => i1 = i1' ∧ o1 = o1' ∧ x3 = x3' ∧ i4 = i4' ∧ o4 = o4' ∧ a7 = a7' ∧ n7 = n7' ∧ c7 = c7' ∧ e7 = e7' ∧ x8 = x8' ∧ x9 = x9' ∧ x36 = x36' ∧ ∃ g', m g' < m g ∧ J g' x37 h) fun g' x37 h hlt hj => ⟨rfl, rfl, rfl, rfl, rfl, rfl, rfl, rfl, rfl, rfl, rfl, rfl, g', hlt, hj⟩)
  · intro g env h hi
    obtain ⟨i1', o1', x3', i4', o4', a7', n7', c7', e7', x8', x9', x36', x37, rfl, rfl, rfl, rfl, rfl, rfl, rfl, rfl, rfl, rfl, rfl, rfl, rfl, g', hlt, hj⟩ := E7elim hi
    exact ⟨g', hlt, rfl, rfl, rfl, rfl, rfl, rfl, rfl, rfl, rfl, rfl, rfl, rfl, hj⟩
theorem J11i (Q : QT) (R2 : T2) (R7 : T7) (x37 x36 : Int) (i1 o1 : Nat) (x3 : Int) (i4 o4 : Nat) (x9 x8 : Int) (a7 : Pt) (n7 c7 : Nat) (e7 : Bool) (h : AHeap) (ht :
 R7 i1 o1 x3 i4 o4 a7 n7 c7 e7 x8 x9 x36 (IntKind.wrap .i64 (x37 + 1)) h) : J11 Q R2 R7 x37 x36 i1 o1 x3 i4 o4 x9 x8 a7 n7 c7 e7 h :=
  den_Den (kp := kp) (@cast _ (den pg fn.ntmps kp (C [1, 0, 1, 0, 0, 1, 1, 0, 0, 1, 1, 1, 0, 0, 1, 1, 1]) [(37, .int .i64 x37), (36, .int .i64 x36), (1, .ptr (some (i1, o1))), (3, .int .i64 x3), (4, .ptr (some (i4, o4))), (9, .int .i64 x9), (8, .int .i64 x8), (7, .slice a7 n7 c7 e7)] h (K8 Q R2 R7)) (by kernel_rfl) ht)
theorem A7x2i (Q : QT) (R2 : T2) (x9 x8 : Int) (a7 : Pt) (n7 c7 : Nat) (e7 : Bool) (i1 o1 : Nat) (h : AHeap) (ht :
 J12 Q R2 x9 x8 a7 n7 c7 e7 i1 o1 h) : A7x2 Q R2 x9 x8 a7 n7 c7 e7 i1 o1 h :=
  At.mk (@cast _ ((K6 Q R2) (.exit 2) [(9, .int .i64 x9), (8, .int .i64 x8), (7, .slice a7 n7 c7 e7), (1, .ptr (some (i1, o1))), (2, .undef)] h) (by kernel_rfl) ht)
theorem J12i (Q : QT) (R2 : T2) (x9 x8 : Int) (a7 : Pt) (n7 c7 : Nat) (e7 : Bool) (i1 o1 : Nat) (h : AHeap) (ht :
 R2 i1 o1 a7 n7 c7 e7 x8 (IntKind.wrap .i64 (x9 + 1)) h) : J12 Q R2 x9 x8 a7 n7 c7 e7 i1 o1 h :=
  den_Den (kp := kp) (@cast _ (den pg fn.ntmps kp (C [1, 0, 1, 0, 0, 1, 1, 1]) [(9, .int .i64 x9), (8, .int .i64 x8), (7, .slice a7 n7 c7 e7), (1, .ptr (some (i1, o1)))] h (K3 Q R2)) (by kernel_rfl) ht)
theorem call (a0x0 : Pt) (n0x0 c0x0 : Nat) (e0x0 : Bool) (a0x1 : Pt) (n0x1 c0x1 : Nat) (e0x1 : Bool) (h : AHeap) (Q : QT) (ht :
 letH (h ++ [.cells t_impl_World [.slice a0x0 n0x0 c0x0 e0x0, .slice a0x1 n0x1 c0x1 e0x1] false]) fun h_0 => xSl (hCell h_0 (.ptr (some (List.length h, 0 + 0)))) fun a_1 n_2 c_3 e_4 => L2 Q (List.length h) 0 a_1 n_2 c_3 e_4 (((n_2 : Nat) : Int)) 0 h_0) : SCall pg n_impl_classesOk [.agg [.slice a0x0 n0x0 c0x0 e0x0, .slice a0x1 n0x1 c0x1 e0x1]] h Q :=
  SCall.of_body kp (c := cod fn) (fn := fn) Go.Proofs.Tryz.func62 (by kernel_rfl) (by kernel_rfl) (Nat.le_of_ble_eq_true (by kernel_rfl))
    (@cast _ (den pg fn.ntmps kp (cod fn) (Env.args 0 [.agg [.slice a0x0 n0x0 c0x0 e0x0, .slice a0x1 n0x1 c0x1 e0x1]]) h (KR Q)) (by kernel_rfl) ht)
end F_impl_classesOk
end Go.Sim

/- Printed by wip/tool: what the functions' bodies do, in the words of 'den'. -/
set_option maxRecDepth 100000
set_option linter.unusedVariables false
namespace Go.Sim
open Go Go.RowKit
/-! Function loop.example/instancesearch/laws.markNeedS -/
namespace F_laws_markNeedS
noncomputable abbrev fn : Func := Go.Proofs.Tryz.f14
def kp : Keeps := [(3000002, [1]), (1000002, [0, 1, 5])]
noncomputable def C (p : List Nat) : Code := (cod fn).sub p
def KR (Q : QT) : KT := retA pg fn.results.toList Q
abbrev T2 := Pt → Nat → Nat → Bool → Int → Int → AHeap → Prop
def E2 (R2 : T2) (env : Env) (h : AHeap) : Prop := eVal 0 env fun v env => xSl (some v) fun a0 n0 c0 e0 => eVal 1 env fun v env => eInt .i64 v fun x1 => eVal 5 env fun v env => eInt .i64 v fun x5 => eNil env (R2 a0 n0 c0 e0 x1 x5 h)
theorem E2elim {R2 : T2} {env : Env} {h : AHeap} (hi : E2 R2 env h) : ∃ a0, ∃ n0, ∃ c0, ∃ e0, ∃ x1, ∃ x5, env = [(0, .slice a0 n0 c0 e0), (1, .int .i64 x1), (5, .int .i64 x5)] ∧ R2 a0 n0 c0 e0 x1 x5 h := by
  unfold E2 at hi
  have hi0 := hi
  clear hi
  obtain ⟨v, env, rfl, hi1⟩ := eVal_elim hi0
  obtain ⟨a0, n0, c0, e0, rfl, hi2⟩ := xSl_elim hi1
  obtain ⟨v, env, rfl, hi3⟩ := eVal_elim hi2
  obtain ⟨x1, rfl, hi4⟩ := eInt_elim hi3
  obtain ⟨v, env, rfl, hi5⟩ := eVal_elim hi4
  obtain ⟨x5, rfl, hi6⟩ := eInt_elim hi5
  obtain ⟨rfl, hi7⟩ := eNil_elim hi6
  have hi := hi7
  exact ⟨a0, n0, c0, e0, x1, x5, rfl, hi⟩
def K0 (Q : QT) : KT := andThen (fun env' h' => (match kp.find 4000008 with | some ks => Den pg fn.ntmps (C [1, 1]) (env'.keep ks) h' (KR Q) | none => den pg fn.ntmps kp (C [1, 1]) env' h' (KR Q))) (KR Q)
def K1 (Q : QT) : KT := onExit 0 (K0 Q)
def K2 (Q : QT) : KT := left kp 2 (K1 Q)
def K3 (Q : QT) (R2 : T2) : KT := rnd ((kp.find 1000002).getD []) (E2 R2) (K2 Q)
def L2 (Q : QT) (a0 : Pt) (n0 c0 : Nat) (e0 : Bool) (x1 x5 : Int) (h : AHeap) : Prop := Loop (Den pg fn.ntmps (C [1, 0, 1, 0, 0])) ((kp.find 1000002).getD []) (K2 Q) [(0, .slice a0 n0 c0 e0), (1, .int .i64 x1), (5, .int .i64 x5)] h
def A2x0 (Q : QT) (x1 : Int) (h : AHeap) : Prop := At (K1 Q) (.exit 0) [(1, .int .i64 x1)] h
def L2t (Q : QT) (R2 : T2) (a0 : Pt) (n0 c0 : Nat) (e0 : Bool) (x1 x5 : Int) (h : AHeap) : Prop :=
 bcase (decide ((x5 : Int) < (((n0 : Nat) : Int)))) (SCall pg n_laws_markText [.int .i64 x1] h fun v_0 h_1 =>
 xStr (some v_0) fun s_2 => (0 ≤ (x5 : Int) ∧ (x5 : Int) < (n0 : Nat)) ∧ (xSome a0 fun i_3 o_4 => xHeap (hStore h_1 (.ptr (some (i_3, o_4 + (Int.toNat x5) * 2 + 0))) [.str s_2]) fun h_5 => SCall pg n_laws_markText [.int .i64 (IntKind.wrap .i64 (x1 + 1))] h_5 fun v_6 h_7 =>
 xStr (some v_6) fun s_8 => (0 ≤ (x5 : Int) ∧ (x5 : Int) < (n0 : Nat)) ∧ (xSome a0 fun i_9 o_10 => xHeap (hStore h_7 (.ptr (some (i_9, o_10 + (Int.toNat x5) * 2 + 1))) [.str s_8]) fun h_11 => R2 a0 n0 c0 e0 (IntKind.wrap .i64 ((IntKind.wrap .i64 (x1 + 1)) + 1)) (IntKind.wrap .i64 (x5 + 1)) h_11))) (A2x0 Q x1 h)
theorem L2den (Q : QT) (R2 : T2) (a0 : Pt) (n0 c0 : Nat) (e0 : Bool) (x1 x5 : Int) (h : AHeap) (ht : L2t Q R2 a0 n0 c0 e0 x1 x5 h) : Den pg fn.ntmps (C [1, 0, 1, 0, 0]) [(0, .slice a0 n0 c0 e0), (1, .int .i64 x1), (5, .int .i64 x5)] h (K3 Q R2) :=
  den_Den (kp := kp) (@cast _ (den pg fn.ntmps kp (C [1, 0, 1, 0, 0]) [(0, .slice a0 n0 c0 e0), (1, .int .i64 x1), (5, .int .i64 x5)] h (K3 Q R2)) (by kernel_rfl) ht)
theorem L2ind (Q : QT) (a0 : Pt) (n0 c0 : Nat) (e0 : Bool) {G : Type} (J : G → Int → Int → AHeap → Prop) (m : G → Nat)
 (hr : ∀ (g : G) (x1 x5 : Int) (h : AHeap), J g x1 x5 h → ∀ (R2 : T2), (∀ g' (x1 x5 : Int) (h : AHeap), m g' < m g → J g' x1 x5 h → R2 a0 n0 c0 e0 x1 x5 h) → L2t Q R2 a0 n0 c0 e0 x1 x5 h)
 (g : G) (x1 x5 : Int) (h : AHeap) (hj : J g x1 x5 h) : L2 Q a0 n0 c0 e0 x1 x5 h := by
  refine Loop.inv2 (fun g => E2 fun a0' n0' c0' e0' x1 x5 h => a0 = a0' ∧ n0 = n0' ∧ c0 = c0' ∧ e0 = e0' ∧ J g x1 x5 h) (fun g => E2 fun a0' n0' c0' e0' x1 x5 h => a0 = a0' ∧ n0 = n0' ∧ c0 = c0' ∧ e0 = e0' ∧ ∃ g', m g' < m g ∧ J g' x1 x5 h) m ?_ ?_ g ⟨rfl, rfl, rfl, rfl, hj⟩
  · intro g env h hi
    obtain ⟨a0', n0', c0', e0', x1, x5, rfl, rfl, rfl, rfl, rfl, hj⟩ := E2elim hi
    exact L2den Q (fun a0' n0' c0' e0' x1 x5 h => a0 = a0' ∧ n0 = n0' ∧ c0 = c0' ∧ e0 = e0' ∧ ∃ g', m g' < m g ∧ J g' x1 x5 h) a0 n0 c0 e0 x1 x5 h (hr g x1 x5 h hj (fun a0' n0' c0' e0' x1 x5 h => a0 = a0' ∧ n0 = n0' ∧ c0 = c0' ∧ e0 = e0' ∧ ∃ g', m g' < m g ∧ J g' x1 x5 h) fun g' x1 x5 h hlt hj => ⟨rfl, rfl, rfl, rfl, g', hlt, hj⟩)
  · intro g env h hi
    obtain ⟨a0', n0', c0', e0', x1, x5, rfl, rfl, rfl, rfl, rfl, g', hlt, hj⟩ := E2elim hi
    exact ⟨g', hlt, rfl, rfl, rfl, rfl, hj⟩
theorem A2x0i (Q : QT) (x1 : Int) (h : AHeap) (ht :
 Q (.int .i64 x1) h) : A2x0 Q x1 h :=
  At.mk (@cast _ ((K1 Q) (.exit 0) [(1, .int .i64 x1)] h) (by kernel_rfl) ht)
theorem call (a0 : Pt) (n0 c0 : Nat) (e0 : Bool) (x1 : Int) (h : AHeap) (Q : QT) (ht :
 L2 Q a0 n0 c0 e0 x1 0 h) : SCall pg n_laws_markNeedS [.slice a0 n0 c0 e0, .int .i64 x1] h Q :=
  SCall.of_body kp (c := cod fn) (fn := fn) Go.Proofs.Tryz.func14 (by kernel_rfl) (by kernel_rfl) (Nat.le_of_ble_eq_true (by kernel_rfl))
    (@cast _ (den pg fn.ntmps kp (cod fn) (Env.args 0 [.slice a0 n0 c0 e0, .int .i64 x1]) h (KR Q)) (by kernel_rfl) ht)
end F_laws_markNeedS
/-! Function loop.example/instancesearch/laws.heldNeedS -/
namespace F_laws_heldNeedS
noncomputable abbrev fn : Func := Go.Proofs.Tryz.f15
def kp : Keeps := [(3000002, [1, 4]), (1000002, [0, 1, 5]), (2000004, [19, 1, 0, 5]), (2000007, [29, 1, 5, 0])]
noncomputable def C (p : List Nat) : Code := (cod fn).sub p
def KR (Q : QT) : KT := retA pg fn.results.toList Q
abbrev T2 := Pt → Nat → Nat → Bool → Int → Int → AHeap → Prop
def E2 (R2 : T2) (env : Env) (h : AHeap) : Prop := eVal 0 env fun v env => xSl (some v) fun a0 n0 c0 e0 => eVal 1 env fun v env => eInt .i64 v fun x1 => eVal 5 env fun v env => eInt .i64 v fun x5 => eNil env (R2 a0 n0 c0 e0 x1 x5 h)
theorem E2elim {R2 : T2} {env : Env} {h : AHeap} (hi : E2 R2 env h) : ∃ a0, ∃ n0, ∃ c0, ∃ e0, ∃ x1, ∃ x5, env = [(0, .slice a0 n0 c0 e0), (1, .int .i64 x1), (5, .int .i64 x5)] ∧ R2 a0 n0 c0 e0 x1 x5 h := by
  unfold E2 at hi
  have hi0 := hi
  clear hi
  obtain ⟨v, env, rfl, hi1⟩ := eVal_elim hi0
  obtain ⟨a0, n0, c0, e0, rfl, hi2⟩ := xSl_elim hi1
  obtain ⟨v, env, rfl, hi3⟩ := eVal_elim hi2
  obtain ⟨x1, rfl, hi4⟩ := eInt_elim hi3
  obtain ⟨v, env, rfl, hi5⟩ := eVal_elim hi4
  obtain ⟨x5, rfl, hi6⟩ := eInt_elim hi5
  obtain ⟨rfl, hi7⟩ := eNil_elim hi6
  have hi := hi7
  exact ⟨a0, n0, c0, e0, x1, x5, rfl, hi⟩
def K0 (Q : QT) : KT := andThen (fun env' h' => (match kp.find 4000010 with | some ks => Den pg fn.ntmps (C [1, 1]) (env'.keep ks) h' (KR Q) | none => den pg fn.ntmps kp (C [1, 1]) env' h' (KR Q))) (KR Q)
def K1 (Q : QT) : KT := onExit 0 (K0 Q)
def K2 (Q : QT) : KT := left kp 2 (K1 Q)
def K3 (Q : QT) (R2 : T2) : KT := rnd ((kp.find 1000002).getD []) (E2 R2) (K2 Q)
def L2 (Q : QT) (a0 : Pt) (n0 c0 : Nat) (e0 : Bool) (x1 x5 : Int) (h : AHeap) : Prop := Loop (Den pg fn.ntmps (C [1, 0, 1, 0, 0])) ((kp.find 1000002).getD []) (K2 Q) [(0, .slice a0 n0 c0 e0), (1, .int .i64 x1), (5, .int .i64 x5)] h
def A2x0 (Q : QT) (x1 : Int) (h : AHeap) : Prop := At (K1 Q) (.exit 0) [(1, .int .i64 x1), (4, .undef)] h
def L2t (Q : QT) (R2 : T2) (a0 : Pt) (n0 c0 : Nat) (e0 : Bool) (x1 x5 : Int) (h : AHeap) : Prop :=
 bcase (decide ((x5 : Int) < (((n0 : Nat) : Int)))) ((0 ≤ (x5 : Int) ∧ (x5 : Int) < (n0 : Nat)) ∧ (xSome a0 fun i_0 o_1 => xStr (hCell h (.ptr (some (i_0, o_1 + (Int.toNat x5) * 2 + 0)))) fun s_2 => SCall pg n_laws_markText [.int .i64 x1] h fun v_3 h_4 =>
 xStr (some v_3) fun s_5 => (hCell h_4 (.ptr (some (i_0, o_1 + (Int.toNat x5) * 2 + 0))) = hCell h (.ptr (some (i_0, o_1 + (Int.toNat x5) * 2 + 0)))) ∧ bcase (!(decide (s_2 = s_5))) (Q (.int .i64 (-1)) h_4) ((0 ≤ (x5 : Int) ∧ (x5 : Int) < (n0 : Nat)) ∧ (xSome a0 fun i_6 o_7 => xStr (hCell h_4 (.ptr (some (i_6, o_7 + (Int.toNat x5) * 2 + 1)))) fun s_8 => SCall pg n_laws_markText [.int .i64 (IntKind.wrap .i64 (x1 + 1))] h_4 fun v_9 h_10 =>
 xStr (some v_9) fun s_11 => (hCell h_10 (.ptr (some (i_6, o_7 + (Int.toNat x5) * 2 + 1))) = hCell h_4 (.ptr (some (i_6, o_7 + (Int.toNat x5) * 2 + 1)))) ∧ bcase (!(decide (s_8 = s_11))) (Q (.int .i64 (-1)) h_10) (R2 a0 n0 c0 e0 (IntKind.wrap .i64 ((IntKind.wrap .i64 (x1 + 1)) + 1)) (IntKind.wrap .i64 (x5 + 1)) h_10))))) (A2x0 Q x1 h)
theorem L2den (Q : QT) (R2 : T2) (a0 : Pt) (n0 c0 : Nat) (e0 : Bool) (x1 x5 : Int) (h : AHeap) (ht : L2t Q R2 a0 n0 c0 e0 x1 x5 h) : Den pg fn.ntmps (C [1, 0, 1, 0, 0]) [(0, .slice a0 n0 c0 e0), (1, .int .i64 x1), (5, .int .i64 x5)] h (K3 Q R2) :=
  den_Den (kp := kp) (@cast _ (den pg fn.ntmps kp (C [1, 0, 1, 0, 0]) [(0, .slice a0 n0 c0 e0), (1, .int .i64 x1), (5, .int .i64 x5)] h (K3 Q R2)) (by kernel_rfl) ht)
theorem L2ind (Q : QT) (a0 : Pt) (n0 c0 : Nat) (e0 : Bool) {G : Type} (J : G → Int → Int → AHeap → Prop) (m : G → Nat)
 (hr : ∀ (g : G) (x1 x5 : Int) (h : AHeap), J g x1 x5 h → ∀ (R2 : T2), (∀ g' (x1 x5 : Int) (h : AHeap), m g' < m g → J g' x1 x5 h → R2 a0 n0 c0 e0 x1 x5 h) → L2t Q R2 a0 n0 c0 e0 x1 x5 h)
 (g : G) (x1 x5 : Int) (h : AHeap) (hj : J g x1 x5 h) : L2 Q a0 n0 c0 e0 x1 x5 h := by
  refine Loop.inv2 (fun g => E2 fun a0' n0' c0' e0' x1 x5 h => a0 = a0' ∧ n0 = n0' ∧ c0 = c0' ∧ e0 = e0' ∧ J g x1 x5 h) (fun g => E2 fun a0' n0' c0' e0' x1 x5 h => a0 = a0' ∧ n0 = n0' ∧ c0 = c0' ∧ e0 = e0' ∧ ∃ g', m g' < m g ∧ J g' x1 x5 h) m ?_ ?_ g ⟨rfl, rfl, rfl, rfl, hj⟩
  · intro g env h hi
    obtain ⟨a0', n0', c0', e0', x1, x5, rfl, rfl, rfl, rfl, rfl, hj⟩ := E2elim hi
    exact L2den Q (fun a0' n0' c0' e0' x1 x5 h => a0 = a0' ∧ n0 = n0' ∧ c0 = c0' ∧ e0 = e0' ∧ ∃ g', m g' < m g ∧ J g' x1 x5 h) a0 n0 c0 e0 x1 x5 h (hr g x1 x5 h hj (fun a0' n0' c0' e0' x1 x5 h => a0 = a0' ∧ n0 = n0' ∧ c0 = c0' ∧ e0 = e0' ∧ ∃ g', m g' < m g ∧ J g' x1 x5 h) fun g' x1 x5 h hlt hj => ⟨rfl, rfl, rfl, rfl, g', hlt, hj⟩)
  · intro g env h hi
    obtain ⟨a0', n0', c0', e0', x1, x5, rfl, rfl, rfl, rfl, rfl, g', hlt, hj⟩ := E2elim hi
    exact ⟨g', hlt, rfl, rfl, rfl, rfl, hj⟩
theorem A2x0i (Q : QT) (x1 : Int) (h : AHeap) (ht :
 Q (.int .i64 x1) h) : A2x0 Q x1 h :=
  At.mk (@cast _ ((K1 Q) (.exit 0) [(1, .int .i64 x1), (4, .undef)] h) (by kernel_rfl) ht)
theorem call (a0 : Pt) (n0 c0 : Nat) (e0 : Bool) (x1 : Int) (h : AHeap) (Q : QT) (ht :
 L2 Q a0 n0 c0 e0 x1 0 h) : SCall pg n_laws_heldNeedS [.slice a0 n0 c0 e0, .int .i64 x1] h Q :=
  SCall.of_body kp (c := cod fn) (fn := fn) Go.Proofs.Tryz.func15 (by kernel_rfl) (by kernel_rfl) (Nat.le_of_ble_eq_true (by kernel_rfl))
    (@cast _ (den pg fn.ntmps kp (cod fn) (Env.args 0 [.slice a0 n0 c0 e0, .int .i64 x1]) h (KR Q)) (by kernel_rfl) ht)
end F_laws_heldNeedS
end Go.Sim

/- Printed by wip/tool: what the functions' bodies do, in the words of 'den'. -/
set_option maxRecDepth 100000
set_option linter.unusedVariables false
namespace Go.Sim
open Go Go.RowKit
/-! Function loop.example/instancesearch/spec.l1In -/
namespace F_spec_l1In
noncomputable abbrev fn : Func := Go.Proofs.Tryz.f29
def kp : Keeps := []
noncomputable def C (p : List Nat) : Code := (cod fn).sub p
def KR (Q : QT) : KT := retA pg fn.results.toList Q
theorem call (x0 x1 x2 : Int) (h : AHeap) (Q : QT) (ht :
 bcase (decide ((x0 : Int) ≥ x1)) (Q (.bool (decide ((x0 : Int) ≤ x2))) h) (Q (.bool false) h)) : SCall pg n_spec_l1In [.int .i64 x0, .int .i64 x1, .int .i64 x2] h Q :=
  SCall.of_body kp (c := cod fn) (fn := fn) Go.Proofs.Tryz.func29 (by kernel_rfl) (by kernel_rfl) (Nat.le_of_ble_eq_true (by kernel_rfl))
    (@cast _ (den pg fn.ntmps kp (cod fn) (Env.args 0 [.int .i64 x0, .int .i64 x1, .int .i64 x2]) h (KR Q)) (by kernel_rfl) ht)
end F_spec_l1In
/-! Function loop.example/instancesearch/impl.isClass -/
namespace F_impl_isClass
noncomputable abbrev fn : Func := Go.Proofs.Tryz.f89
def kp : Keeps := []
noncomputable def C (p : List Nat) : Code := (cod fn).sub p
def KR (Q : QT) : KT := retA pg fn.results.toList Q
theorem call (x0 : List Nat) (h : AHeap) (Q : QT) (ht :
 bcase ((((List.length x0 : Nat) : Int) : Int) == 1) (bcase (!natLess x0 [65]) (Q (.bool (natLess x0 [84] || decide (x0 = [84]))) h) (Q (.bool false) h)) (Q (.bool false) h)) : SCall pg n_impl_isClass [.str x0] h Q :=
  SCall.of_body kp (c := cod fn) (fn := fn) Go.Proofs.Tryz.func89 (by kernel_rfl) (by kernel_rfl) (Nat.le_of_ble_eq_true (by kernel_rfl))
    (@cast _ (den pg fn.ntmps kp (cod fn) (Env.args 0 [.str x0]) h (KR Q)) (by kernel_rfl) ht)
end F_impl_isClass
/-! Function loop.example/instancesearch/spec.l3Capital -/
namespace F_spec_l3Capital
noncomputable abbrev fn : Func := Go.Proofs.Tryz.f98
def kp : Keeps := []
noncomputable def C (p : List Nat) : Code := (cod fn).sub p
def KR (Q : QT) : KT := retA pg fn.results.toList Q
theorem call (x0 : List Nat) (h : AHeap) (Q : QT) (ht :
 bcase ((((List.length x0 : Nat) : Int) : Int) == 1) (byteAt x0 0 fun b_0 => SCall pg n_spec_l1In [.int .i64 (IntKind.wrap .i64 (((b_0 : Nat) : Int))), .int .i64 65, .int .i64 84] h fun v_1 h_2 =>
 xBool (some v_1) fun b_3 => Q (.bool b_3) h_2) (Q (.bool false) h)) : SCall pg n_spec_l3Capital [.str x0] h Q :=
  SCall.of_body kp (c := cod fn) (fn := fn) Go.Proofs.Tryz.func98 (by kernel_rfl) (by kernel_rfl) (Nat.le_of_ble_eq_true (by kernel_rfl))
    (@cast _ (den pg fn.ntmps kp (cod fn) (Env.args 0 [.str x0]) h (KR Q)) (by kernel_rfl) ht)
end F_spec_l3Capital
end Go.Sim
