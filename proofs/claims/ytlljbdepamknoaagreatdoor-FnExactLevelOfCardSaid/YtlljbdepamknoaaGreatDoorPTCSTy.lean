/- A part of the proof of a statement of this seat: see the text that holds the theorem. No condition. -/
import Derived.Test.YtlljbdepamknoaaGreatDoorNm
set_option linter.unusedVariables false
set_option linter.unusedSimpArgs false
set_option linter.all false
/- Printed by wip/tool: what the functions' bodies do, in the words of 'den'. -/
set_option maxRecDepth 100000
set_option linter.unusedVariables false
namespace Go.Sim
open Go Go.RowKit
/-! Function loop.example/instancesearch/spec.l3Classes -/
namespace F_spec_l3Classes
noncomputable abbrev fn : Func := Go.Proofs.Tryz.f66
def kp : Keeps := [(3000002, [0, 2]), (1000002, [0, 6, 7, 8]), (2000004, [31, 4, 0, 3, 6, 7, 8]), (4000006, [4, 0, 3, 6, 7, 8]), (3000007, [8, 7, 6, 0, 2]), (1000007, [0, 3, 4, 6, 7, 8, 34, 35]), (2000009, [65, 35, 34, 0, 3, 4, 8, 7, 6]), (4000011, [35, 34, 0, 3, 4, 8, 7, 6]), (4000012, [8, 7, 6, 0])]
noncomputable def C (p : List Nat) : Code := (cod fn).sub p
def KR (Q : QT) : KT := retA pg fn.results.toList Q
abbrev T2 := Pt → Nat → Nat → Bool → Pt → Nat → Nat → Bool → Int → Int → AHeap → Prop
def E2 (R2 : T2) (env : Env) (h : AHeap) : Prop := eVal 0 env fun v env => xSl (some v) fun a0 n0 c0 e0 => eVal 6 env fun v env => xSl (some v) fun a6 n6 c6 e6 => eVal 7 env fun v env => eInt .i64 v fun x7 => eVal 8 env fun v env => eInt .i64 v fun x8 => eNil env (R2 a0 n0 c0 e0 a6 n6 c6 e6 x7 x8 h)
theorem E2elim {R2 : T2} {env : Env} {h : AHeap} (hi : E2 R2 env h) : ∃ a0, ∃ n0, ∃ c0, ∃ e0, ∃ a6, ∃ n6, ∃ c6, ∃ e6, ∃ x7, ∃ x8, env = [(0, .slice a0 n0 c0 e0), (6, .slice a6 n6 c6 e6), (7, .int .i64 x7), (8, .int .i64 x8)] ∧ R2 a0 n0 c0 e0 a6 n6 c6 e6 x7 x8 h := by
  unfold E2 at hi
  have hi0 := hi
  clear hi
  obtain ⟨_, _, rfl, hi1⟩ := eVal_elim hi0
  obtain ⟨a0, n0, c0, e0, rfl, hi2⟩ := xSl_elim hi1
  obtain ⟨_, _, rfl, hi3⟩ := eVal_elim hi2
  obtain ⟨a6, n6, c6, e6, rfl, hi4⟩ := xSl_elim hi3
  obtain ⟨_, _, rfl, hi5⟩ := eVal_elim hi4
  obtain ⟨x7, rfl, hi6⟩ := eInt_elim hi5
  obtain ⟨_, _, rfl, hi7⟩ := eVal_elim hi6
  obtain ⟨x8, rfl, hi8⟩ := eInt_elim hi7
  obtain ⟨rfl, hi9⟩ := eNil_elim hi8
  have hi := hi9
  exact ⟨a0, n0, c0, e0, a6, n6, c6, e6, x7, x8, rfl, hi⟩
abbrev T7 := Pt → Nat → Nat → Bool → Int → Nat → Nat → Pt → Nat → Nat → Bool → Int → Int → Int → Int → AHeap → Prop
def E7 (R7 : T7) (env : Env) (h : AHeap) : Prop := eVal 0 env fun v env => xSl (some v) fun a0 n0 c0 e0 => eVal 3 env fun v env => eInt .i64 v fun x3 => eVal 4 env fun v env => xPtr (some v) fun a => xSome a fun i4 o4 => eVal 6 env fun v env => xSl (some v) fun a6 n6 c6 e6 => eVal 7 env fun v env => eInt .i64 v fun x7 => eVal 8 env fun v env => eInt .i64 v fun x8 => eVal 34 env fun v env => eInt .i64 v fun x34 => eVal 35 env fun v env => eInt .i64 v fun x35 => eNil env (R7 a0 n0 c0 e0 x3 i4 o4 a6 n6 c6 e6 x7 x8 x34 x35 h)
theorem E7elim {R7 : T7} {env : Env} {h : AHeap} (hi : E7 R7 env h) : ∃ a0, ∃ n0, ∃ c0, ∃ e0, ∃ x3, ∃ i4, ∃ o4, ∃ a6, ∃ n6, ∃ c6, ∃ e6, ∃ x7, ∃ x8, ∃ x34, ∃ x35, env = [(0, .slice a0 n0 c0 e0), (3, .int .i64 x3), (4, .ptr (some (i4, o4))), (6, .slice a6 n6 c6 e6), (7, .int .i64 x7), (8, .int .i64 x8), (34, .int .i64 x34), (35, .int .i64 x35)] ∧ R7 a0 n0 c0 e0 x3 i4 o4 a6 n6 c6 e6 x7 x8 x34 x35 h := by
  unfold E7 at hi
  have hi0 := hi
  clear hi
  obtain ⟨_, _, rfl, hi1⟩ := eVal_elim hi0
  obtain ⟨a0, n0, c0, e0, rfl, hi2⟩ := xSl_elim hi1
  obtain ⟨_, _, rfl, hi3⟩ := eVal_elim hi2
  obtain ⟨x3, rfl, hi4⟩ := eInt_elim hi3
  obtain ⟨_, _, rfl, hi5⟩ := eVal_elim hi4
  obtain ⟨a, rfl, hi6⟩ := xPtr_elim hi5
  obtain ⟨i4, o4, rfl, hi7⟩ := xSome_elim hi6
  obtain ⟨_, _, rfl, hi8⟩ := eVal_elim hi7
  obtain ⟨a6, n6, c6, e6, rfl, hi9⟩ := xSl_elim hi8
  obtain ⟨_, _, rfl, hi10⟩ := eVal_elim hi9
  obtain ⟨x7, rfl, hi11⟩ := eInt_elim hi10
  obtain ⟨_, _, rfl, hi12⟩ := eVal_elim hi11
  obtain ⟨x8, rfl, hi13⟩ := eInt_elim hi12
  obtain ⟨_, _, rfl, hi14⟩ := eVal_elim hi13
  obtain ⟨x34, rfl, hi15⟩ := eInt_elim hi14
  obtain ⟨_, _, rfl, hi16⟩ := eVal_elim hi15
  obtain ⟨x35, rfl, hi17⟩ := eInt_elim hi16
  obtain ⟨rfl, hi18⟩ := eNil_elim hi17
  have hi := hi18
  exact ⟨a0, n0, c0, e0, x3, i4, o4, a6, n6, c6, e6, x7, x8, x34, x35, rfl, hi⟩
def K0 (Q : QT) : KT := andThen (fun env' h' => (match kp.find 4000013 with | some ks => Den pg fn.ntmps (C [1, 1]) (env'.keep ks) h' (KR Q) | none => den pg fn.ntmps kp (C [1, 1]) env' h' (KR Q))) (KR Q)
def K1 (Q : QT) : KT := onExit 0 (K0 Q)
def K2 (Q : QT) : KT := left kp 2 (K1 Q)
def K3 (Q : QT) (R2 : T2) : KT := rnd ((kp.find 1000002).getD []) (E2 R2) (K2 Q)
def K4 (Q : QT) (R2 : T2) : KT := andThen (fun env' h' => (match kp.find 4000012 with | some ks => Den pg fn.ntmps (C [1, 0, 1, 0, 0, 1, 1, 1]) (env'.keep ks) h' (K3 Q R2) | none => den pg fn.ntmps kp (C [1, 0, 1, 0, 0, 1, 1, 1]) env' h' (K3 Q R2))) (K3 Q R2)
def K5 (Q : QT) (R2 : T2) : KT := onExit 1 (K4 Q R2)
def K6 (Q : QT) (R2 : T2) : KT := onExit 2 (K5 Q R2)
def K7 (Q : QT) (R2 : T2) : KT := left kp 7 (K6 Q R2)
def K8 (Q : QT) (R2 : T2) (R7 : T7) : KT := rnd ((kp.find 1000007).getD []) (E7 R7) (K7 Q R2)
def L2 (Q : QT) (a0 : Pt) (n0 c0 : Nat) (e0 : Bool) (a6 : Pt) (n6 c6 : Nat) (e6 : Bool) (x7 x8 : Int) (h : AHeap) : Prop := Loop (Den pg fn.ntmps (C [1, 0, 1, 0, 0])) ((kp.find 1000002).getD []) (K2 Q) [(0, .slice a0 n0 c0 e0), (6, .slice a6 n6 c6 e6), (7, .int .i64 x7), (8, .int .i64 x8)] h
def J6 (Q : QT) (R2 : T2) (i4 o4 : Nat) (a0 : Pt) (n0 c0 : Nat) (e0 : Bool) (x3 : Int) (a6 : Pt) (n6 c6 : Nat) (e6 : Bool) (x7 x8 : Int) (h : AHeap) : Prop := Den pg fn.ntmps (C [1, 0, 1, 0, 0, 1, 1, 0, 0, 1, 1]) [(4, .ptr (some (i4, o4))), (0, .slice a0 n0 c0 e0), (3, .int .i64 x3), (6, .slice a6 n6 c6 e6), (7, .int .i64 x7), (8, .int .i64 x8)] h (K5 Q R2)
def A2x0 (Q : QT) (a0 : Pt) (n0 c0 : Nat) (e0 : Bool) (h : AHeap) : Prop := At (K1 Q) (.exit 0) [(0, .slice a0 n0 c0 e0), (2, .undef)] h
def L7 (Q : QT) (R2 : T2) (a0 : Pt) (n0 c0 : Nat) (e0 : Bool) (x3 : Int) (i4 o4 : Nat) (a6 : Pt) (n6 c6 : Nat) (e6 : Bool) (x7 x8 x34 x35 : Int) (h : AHeap) : Prop := Loop (Den pg fn.ntmps (C [1, 0, 1, 0, 0, 1, 1, 0, 0, 1, 1, 1, 0, 0])) ((kp.find 1000007).getD []) (K7 Q R2) [(0, .slice a0 n0 c0 e0), (3, .int .i64 x3), (4, .ptr (some (i4, o4))), (6, .slice a6 n6 c6 e6), (7, .int .i64 x7), (8, .int .i64 x8), (34, .int .i64 x34), (35, .int .i64 x35)] h
def J11 (Q : QT) (R2 : T2) (R7 : T7) (x35 x34 : Int) (a0 : Pt) (n0 c0 : Nat) (e0 : Bool) (x3 : Int) (i4 o4 : Nat) (x8 x7 : Int) (a6 : Pt) (n6 c6 : Nat) (e6 : Bool) (h : AHeap) : Prop := Den pg fn.ntmps (C [1, 0, 1, 0, 0, 1, 1, 0, 0, 1, 1, 1, 0, 0, 1, 1, 1]) [(35, .int .i64 x35), (34, .int .i64 x34), (0, .slice a0 n0 c0 e0), (3, .int .i64 x3), (4, .ptr (some (i4, o4))), (8, .int .i64 x8), (7, .int .i64 x7), (6, .slice a6 n6 c6 e6)] h (K8 Q R2 R7)
def A7x2 (Q : QT) (R2 : T2) (x8 x7 : Int) (a6 : Pt) (n6 c6 : Nat) (e6 : Bool) (a0 : Pt) (n0 c0 : Nat) (e0 : Bool) (h : AHeap) : Prop := At (K6 Q R2) (.exit 2) [(8, .int .i64 x8), (7, .int .i64 x7), (6, .slice a6 n6 c6 e6), (0, .slice a0 n0 c0 e0), (2, .undef)] h
def J12 (Q : QT) (R2 : T2) (x8 x7 : Int) (a6 : Pt) (n6 c6 : Nat) (e6 : Bool) (a0 : Pt) (n0 c0 : Nat) (e0 : Bool) (h : AHeap) : Prop := Den pg fn.ntmps (C [1, 0, 1, 0, 0, 1, 1, 1]) [(8, .int .i64 x8), (7, .int .i64 x7), (6, .slice a6 n6 c6 e6), (0, .slice a0 n0 c0 e0)] h (K3 Q R2)
def L2t (Q : QT) (R2 : T2) (a0 : Pt) (n0 c0 : Nat) (e0 : Bool) (a6 : Pt) (n6 c6 : Nat) (e6 : Bool) (x7 x8 : Int) (h : AHeap) : Prop :=
 bcase (decide ((x8 : Int) < x7)) ((0 ≤ (x8 : Int) ∧ (x8 : Int) < (n6 : Nat)) ∧ (xSome a6 fun I0 O1 => xRow (hRow h (.ptr (some (I0, O1 + (Int.toNat x8) * 2))) 2) fun K2 => xCons K2 fun C3 Z4 => xStr (some C3) fun S5 => xCons Z4 fun C6 Z7 => xStr (some C6) fun S8 => xNil Z7 (letH (h ++ [.cells t_impl_Class [.str [], .str []] false]) fun H9 => xHeap (hStore H9 (.ptr (some (h.length, 0))) [.str S5, .str S8]) fun H10 => xStr (hCell H10 (.ptr (some (h.length, 0 + 0)))) fun S11 => SCall pg n_spec_l3Capital [.str S11] H10 fun V12 H13 =>
 xBool (some V12) fun B14 => bcase (!B14) ((hCell H13 (.tup []) = hCell H13 (.tup [])) ∧ Q (.bool false) H13) (bcase (decide ((x8 : Int) > 0)) ((0 ≤ (IntKind.wrap .i64 (x8 - 1) : Int) ∧ (IntKind.wrap .i64 (x8 - 1) : Int) < (n0 : Nat)) ∧ (xSome a0 fun I15 O16 => xStr (hCell H13 (.ptr (some (I15, O16 + (Int.toNat (IntKind.wrap .i64 (x8 - 1))) * 2 + 0)))) fun S17 => xStr (hCell H13 (.ptr (some (h.length, 0 + 0)))) fun S18 => (hCell H13 (.ptr (some (I15, O16 + (Int.toNat (IntKind.wrap .i64 (x8 - 1))) * 2 + 0))) = hCell H13 (.ptr (some (I15, O16 + (Int.toNat (IntKind.wrap .i64 (x8 - 1))) * 2 + 0)))) ∧ bcase (!natLess S17 S18) (Q (.bool false) H13) (J6 Q R2 h.length 0 a0 n0 c0 e0 x8 a6 n6 c6 e6 x7 x8 H13))) ((hCell H13 (.tup []) = hCell H13 (.tup [])) ∧ J6 Q R2 h.length 0 a0 n0 c0 e0 x8 a6 n6 c6 e6 x7 x8 H13))))) (A2x0 Q a0 n0 c0 e0 h)
theorem L2den (Q : QT) (R2 : T2) (a0 : Pt) (n0 c0 : Nat) (e0 : Bool) (a6 : Pt) (n6 c6 : Nat) (e6 : Bool) (x7 x8 : Int) (h : AHeap) (ht : L2t Q R2 a0 n0 c0 e0 a6 n6 c6 e6 x7 x8 h) : Den pg fn.ntmps (C [1, 0, 1, 0, 0]) [(0, .slice a0 n0 c0 e0), (6, .slice a6 n6 c6 e6), (7, .int .i64 x7), (8, .int .i64 x8)] h (K3 Q R2) :=
  den_Den (kp := kp) (cast (by kernel_rfl) ht)
theorem L2ind (Q : QT) (a0 : Pt) (n0 c0 : Nat) (e0 : Bool) (a6 : Pt) (n6 c6 : Nat) (e6 : Bool) (x7 : Int) {G : Type} (J : G → Int → AHeap → Prop) (m : G → Nat)
 (hr : ∀ (g : G) (x8 : Int) (h : AHeap), J g x8 h → ∀ (R2 : T2), (∀ g' (x8 : Int) (h : AHeap), m g' < m g → J g' x8 h → R2 a0 n0 c0 e0 a6 n6 c6 e6 x7 x8 h) → L2t Q R2 a0 n0 c0 e0 a6 n6 c6 e6 x7 x8 h)
 (g : G) (x8 : Int) (h : AHeap) (hj : J g x8 h) : L2 Q a0 n0 c0 e0 a6 n6 c6 e6 x7 x8 h := by
  refine Loop.inv2 (fun g => E2 fun a0' n0' c0' e0' a6' n6' c6' e6' x7' x8 h => a0 = a0' ∧ n0 = n0' ∧ c0 = c0' ∧ e0 = e0' ∧ a6 = a6' ∧ n6 = n6' ∧ c6 = c6' ∧ e6 = e6' ∧ x7 = x7' ∧ J g x8 h) (fun g => E2 fun a0' n0' c0' e0' a6' n6' c6' e6' x7' x8 h => a0 = a0' ∧ n0 = n0' ∧ c0 = c0' ∧ e0 = e0' ∧ a6 = a6' ∧ n6 = n6' ∧ c6 = c6' ∧ e6 = e6' ∧ x7 = x7' ∧ ∃ g', m g' < m g ∧ J g' x8 h) m ?_ ?_ g ⟨rfl, rfl, rfl, rfl, rfl, rfl, rfl, rfl, rfl, hj⟩
  · intro g env h hi
    obtain ⟨a0', n0', c0', e0', a6', n6', c6', e6', x7', x8, rfl, rfl, rfl, rfl, rfl, rfl, rfl, rfl, rfl, rfl, hj⟩ := E2elim hi
    exact L2den Q _ a0 n0 c0 e0 a6 n6 c6 e6 x7 x8 h (hr g x8 h hj (fun a0' n0' c0' e0' a6' n6' c6' e6' x7' x8 h => a0 = a0' ∧ n0 = n0' ∧ c0 = c0' ∧ e0 = e0' ∧ a6 = a6' ∧ n6 = n6' ∧ c6 = c6' ∧ e6 = e6' ∧ x7 = x7' ∧ ∃ g', m g' < m g ∧ J g' x8 h) fun g' x8 h hlt hj => ⟨rfl, rfl, rfl, rfl, rfl, rfl, rfl, rfl, rfl, g', hlt, hj⟩)
  · intro g env h hi
    obtain ⟨a0', n0', c0', e0', a6', n6', c6', e6', x7', x8, rfl, rfl, rfl, rfl, rfl, rfl, rfl, rfl, rfl, rfl, g', hlt, hj⟩ := E2elim hi
    exact ⟨g', hlt, rfl, rfl, rfl, rfl, rfl, rfl, rfl, rfl, rfl, hj⟩
theorem J6i (Q : QT) (R2 : T2) (i4 o4 : Nat) (a0 : Pt) (n0 c0 : Nat) (e0 : Bool) (x3 : Int) (a6 : Pt) (n6 c6 : Nat) (e6 : Bool) (x7 x8 : Int) (h : AHeap) (ht :
 xStr (hCell h (.ptr (some (i4, o4 + 1)))) fun S19 => L7 Q R2 a0 n0 c0 e0 x3 i4 o4 a6 n6 c6 e6 x7 x8 (((List.length S19 : Nat) : Int)) 0 h) : J6 Q R2 i4 o4 a0 n0 c0 e0 x3 a6 n6 c6 e6 x7 x8 h :=
  den_Den (kp := kp) (cast (by kernel_rfl) ht)
theorem A2x0i (Q : QT) (a0 : Pt) (n0 c0 : Nat) (e0 : Bool) (h : AHeap) (ht :
 SCall pg n_spec_l1In [.int .i64 (((n0 : Nat) : Int)), .int .i64 1, .int .i64 4] h fun V20 H21 =>
 xBool (some V20) fun B22 => Q (.bool B22) H21) : A2x0 Q a0 n0 c0 e0 h :=
  At.mk (cast (by kernel_rfl) ht)
def L7t (Q : QT) (R2 : T2) (R7 : T7) (a0 : Pt) (n0 c0 : Nat) (e0 : Bool) (x3 : Int) (i4 o4 : Nat) (a6 : Pt) (n6 c6 : Nat) (e6 : Bool) (x7 x8 x34 x35 : Int) (h : AHeap) : Prop :=
 bcase (decide ((x35 : Int) < x34)) (sliceSl a0 n0 c0 e0 2 none (some (.int .i64 x3)) none fun V23 => xSl (some V23) fun A24 N25 C26 E27 => xStr (hCell h (.ptr (some (i4, o4 + 1)))) fun S28 => (0 ≤ (x35 : Int) ∧ (x35 : Int) ≤ IntKind.wrap .i64 (x35 + 1) ∧ (IntKind.wrap .i64 (x35 + 1) : Int) ≤ (List.length S28 : Nat)) ∧ (SCall pg n_spec_l3Class [.agg [.slice A24 N25 C26 E27, .slice none 0 0 true], .str (sub S28 x35 (IntKind.wrap .i64 (x35 + 1)))] h fun V29 H30 =>
 xInt .i64 (some V29) fun X31 => bcase (decide ((X31 : Int) < 0)) ((hCell H30 (.tup []) = hCell H30 (.tup [])) ∧ Q (.bool false) H30) (bcase (decide ((x35 : Int) > 0)) (xStr (hCell H30 (.ptr (some (i4, o4 + 1)))) fun S32 => byteAt S32 (IntKind.wrap .i64 (x35 - 1)) fun B33 => xStr (hCell H30 (.ptr (some (i4, o4 + 1)))) fun S34 => (hCell H30 (.ptr (some (i4, o4 + 1))) = hCell H30 (.ptr (some (i4, o4 + 1)))) ∧ byteAt S34 x35 fun B35 => bcase (decide (((((B33 : Nat) : Int)) : Int) ≥ (((B35 : Nat) : Int)))) (Q (.bool false) H30) (J11 Q R2 R7 x35 x34 a0 n0 c0 e0 x3 i4 o4 x8 x7 a6 n6 c6 e6 H30)) ((hCell H30 (.tup []) = hCell H30 (.tup [])) ∧ J11 Q R2 R7 x35 x34 a0 n0 c0 e0 x3 i4 o4 x8 x7 a6 n6 c6 e6 H30)))) (A7x2 Q R2 x8 x7 a6 n6 c6 e6 a0 n0 c0 e0 h)
theorem L7den (Q : QT) (R2 : T2) (R7 : T7) (a0 : Pt) (n0 c0 : Nat) (e0 : Bool) (x3 : Int) (i4 o4 : Nat) (a6 : Pt) (n6 c6 : Nat) (e6 : Bool) (x7 x8 x34 x35 : Int) (h : AHeap) (ht : L7t Q R2 R7 a0 n0 c0 e0 x3 i4 o4 a6 n6 c6 e6 x7 x8 x34 x35 h) : Den pg fn.ntmps (C [1, 0, 1, 0, 0, 1, 1, 0, 0, 1, 1, 1, 0, 0]) [(0, .slice a0 n0 c0 e0), (3, .int .i64 x3), (4, .ptr (some (i4, o4))), (6, .slice a6 n6 c6 e6), (7, .int .i64 x7), (8, .int .i64 x8), (34, .int .i64 x34), (35, .int .i64 x35)] h (K8 Q R2 R7) :=
  den_Den (kp := kp) (cast (by kernel_rfl) ht)
theorem L7ind (Q : QT) (R2 : T2) (a0 : Pt) (n0 c0 : Nat) (e0 : Bool) (x3 : Int) (i4 o4 : Nat) (a6 : Pt) (n6 c6 : Nat) (e6 : Bool) (x7 x8 x34 : Int) {G : Type} (J : G → Int → AHeap → Prop) (m : G → Nat)
 (hr : ∀ (g : G) (x35 : Int) (h : AHeap), J g x35 h → ∀ (R7 : T7), (∀ g' (x35 : Int) (h : AHeap), m g' < m g → J g' x35 h → R7 a0 n0 c0 e0 x3 i4 o4 a6 n6 c6 e6 x7 x8 x34 x35 h) → L7t Q R2 R7 a0 n0 c0 e0 x3 i4 o4 a6 n6 c6 e6 x7 x8 x34 x35 h)
 (g : G) (x35 : Int) (h : AHeap) (hj : J g x35 h) : L7 Q R2 a0 n0 c0 e0 x3 i4 o4 a6 n6 c6 e6 x7 x8 x34 x35 h := by
  refine Loop.inv2 (fun g => E7 fun a0' n0' c0' e0' x3' i4' o4' a6' n6' c6' e6' x7' x8' x34' x35 h => a0 = a0' ∧ n0 = n0' ∧ c0 = c0' ∧ e0 = e0' ∧ x3 = x3' ∧ i4 = i4' ∧ o4 = o4' ∧ a6 = a6' ∧ n6 = n6' ∧ c6 = c6' ∧ e6 = e6' ∧ x7 = x7' ∧ x8 = x8' ∧ x34 = x34' ∧ J g x35 h) (fun g => E7 fun a0' n0' c0' e0' x3' i4' o4' a6' n6' c6' e6' x7' x8' x34' x35 h => a0 = a0' ∧ n0 = n0' ∧ c0 = c0' ∧ e0 = e0' ∧ x3 = x3' ∧ i4 = i4' ∧ o4 = o4' ∧ a6 = a6' ∧ n6 = n6' ∧ c6 = c6' ∧ e6 = e6' ∧ x7 = x7' ∧ x8 = x8' ∧ x34 = x34' ∧ ∃ g', m g' < m g ∧ J g' x35 h) m ?_ ?_ g ⟨rfl, rfl, rfl, rfl, rfl, rfl, rfl, rfl, rfl, rfl, rfl, rfl, rfl, rfl, hj⟩
  · intro g env h hi
    obtain ⟨a0', n0', c0', e0', x3', i4', o4', a6', n6', c6', e6', x7', x8', x34', x35, rfl, rfl, rfl, rfl, rfl, rfl, rfl, rfl, rfl, rfl, rfl, rfl, rfl, rfl, rfl, hj⟩ := E7elim hi
    exact L7den Q R2 (fun a0' n0' c0' e0' x3' i4' o4' a6' n6' c6' e6' x7' x8' x34' x35 h => a0 = a0' ∧ n0 = n0' ∧ c0 = c0' ∧ e0 = e0' ∧ x3 = x3' ∧ i4 = i4' ∧ o4 = o4' ∧ a6 = a6' ∧ n6 = n6' ∧ c6 = c6' ∧ e6 = e6' ∧ x7 = x7' ∧ x8 = x8' ∧ x34 = x34' ∧ ∃ g', m g' < m g ∧ J g' x35 h) a0 n0 c0 e0 x3 i4 o4 a6 n6 c6 e6 x7 x8 x34 x35 h (hr g x35 h hj (fun a0' n0' c0' e0' x3' i4' o4' a6' n6' c6' e6' x7' x8' x34' x35 h => a0 = a0' ∧ n0 = n0' ∧ c0 = c0' ∧ e0 = e0' ∧ x3 = x3' ∧ i4 = i4' ∧ o4 = o4' ∧ a6 = a6' ∧ n6 = n6' ∧ c6 = c6' ∧ e6 = e6' ∧ x7 = x7' ∧ x8 = x8' ∧ x34 = x34' ∧ ∃ g', m g' < m g ∧ J g' x35 h) fun g' x35 h hlt hj => ⟨rfl, rfl, rfl, rfl, rfl, rfl, rfl, rfl, rfl, rfl, rfl, rfl, rfl, rfl, g', hlt, hj⟩)
  · intro g env h hi
    obtain ⟨a0', n0', c0', e0', x3', i4', o4', a6', n6', c6', e6', x7', x8', x34', x35, rfl, rfl, rfl, rfl, rfl, rfl, rfl, rfl, rfl, rfl, rfl, rfl, rfl, rfl, rfl, g', hlt, hj⟩ := E7elim hi
    exact ⟨g', hlt, rfl, rfl, rfl, rfl, rfl, rfl, rfl, rfl, rfl, rfl, rfl, rfl, rfl, rfl, hj⟩
theorem J11i (Q : QT) (R2 : T2) (R7 : T7) (x35 x34 : Int) (a0 : Pt) (n0 c0 : Nat) (e0 : Bool) (x3 : Int) (i4 o4 : Nat) (x8 x7 : Int) (a6 : Pt) (n6 c6 : Nat) (e6 : Bool) (h : AHeap) (ht :
 R7 a0 n0 c0 e0 x3 i4 o4 a6 n6 c6 e6 x7 x8 x34 (IntKind.wrap .i64 (x35 + 1)) h) : J11 Q R2 R7 x35 x34 a0 n0 c0 e0 x3 i4 o4 x8 x7 a6 n6 c6 e6 h :=
  den_Den (kp := kp) (cast (by kernel_rfl) ht)
theorem A7x2i (Q : QT) (R2 : T2) (x8 x7 : Int) (a6 : Pt) (n6 c6 : Nat) (e6 : Bool) (a0 : Pt) (n0 c0 : Nat) (e0 : Bool) (h : AHeap) (ht :
 J12 Q R2 x8 x7 a6 n6 c6 e6 a0 n0 c0 e0 h) : A7x2 Q R2 x8 x7 a6 n6 c6 e6 a0 n0 c0 e0 h :=
  At.mk (cast (by kernel_rfl) ht)
theorem J12i (Q : QT) (R2 : T2) (x8 x7 : Int) (a6 : Pt) (n6 c6 : Nat) (e6 : Bool) (a0 : Pt) (n0 c0 : Nat) (e0 : Bool) (h : AHeap) (ht :
 R2 a0 n0 c0 e0 a6 n6 c6 e6 x7 (IntKind.wrap .i64 (x8 + 1)) h) : J12 Q R2 x8 x7 a6 n6 c6 e6 a0 n0 c0 e0 h :=
  den_Den (kp := kp) (cast (by kernel_rfl) ht)
theorem call (a0 : Pt) (n0 c0 : Nat) (e0 : Bool) (h : AHeap) (Q : QT) (ht :
 L2 Q a0 n0 c0 e0 a0 n0 c0 e0 (((n0 : Nat) : Int)) 0 h) : SCall pg n_spec_l3Classes [.slice a0 n0 c0 e0] h Q :=
  SCall.of_body kp (c := cod fn) (fn := fn) Go.Proofs.Tryz.func66 (by kernel_rfl) (by kernel_rfl) (Nat.le_of_ble_eq_true (by kernel_rfl))
    (cast (by kernel_rfl) ht)
end F_spec_l3Classes
end Go.Sim

/- Printed by wip/tool: what the functions' bodies do, in the words of 'den'. -/
set_option maxRecDepth 100000
set_option linter.unusedVariables false
namespace Go.Sim
open Go Go.RowKit
/-! Function loop.example/instancesearch/impl.known$1 -/
namespace F_impl_known_lit1
noncomputable abbrev fn : Func := Go.Proofs.Tryz.f122
def kp : Keeps := []
noncomputable def C (p : List Nat) : Code := (cod fn).sub p
def KR (Q : QT) : KT := retA pg fn.results.toList Q
theorem call (x0x0 x0x1 : List Nat) (v1 : AVal) (h : AHeap) (Q : QT) (ht :
 letH (h ++ [.cells t_impl_Class [.str x0x0, .str x0x1] false]) fun H0 => xStr (hCell H0 (.ptr (some (h.length, 0 + 0)))) fun S1 => xStr (hCell H0 (v1)) fun S2 => Q (.bool (decide (S1 = S2))) H0) : SCall pg n_impl_known_lit1 [.agg [.str x0x0, .str x0x1], v1] h Q :=
  SCall.of_body kp (c := cod fn) (fn := fn) Go.Proofs.Tryz.func122 (by kernel_rfl) (by kernel_rfl) (Nat.le_of_ble_eq_true (by kernel_rfl))
    (cast (by kernel_rfl) ht)
end F_impl_known_lit1
/-! Function slices.IndexFunc[[]loop.example/instancesearch/impl.Class,loop.example/instancesearch/impl.Class] -/
namespace F_slices_IndexFunc_L_impl_Class_impl_Class__impl_known_lit1
noncomputable abbrev fn : Func := Go.Proofs.Tryz.f149
def kp : Keeps := [(3000002, [4]), (1000002, [0, 1, 7, 8])]
noncomputable def C (p : List Nat) : Code := (cod fn).sub p
def KR (Q : QT) : KT := retA pg fn.results.toList Q
abbrev T2 := Pt → Nat → Nat → Bool → AVal → Int → Int → AHeap → Prop
def E2 (R2 : T2) (env : Env) (h : AHeap) : Prop := eVal 0 env fun v env => xSl (some v) fun a0 n0 c0 e0 => eVal 1 env fun v env => eFn n_impl_known_lit1 v fun cs => xCons cs fun c cs' => xAny (some c) fun v1x0 => xNil cs' (eVal 7 env fun v env => eInt .i64 v fun x7 => eVal 8 env fun v env => eInt .i64 v fun x8 => eNil env (R2 a0 n0 c0 e0 v1x0 x7 x8 h))
theorem E2elim {R2 : T2} {env : Env} {h : AHeap} (hi : E2 R2 env h) : ∃ a0, ∃ n0, ∃ c0, ∃ e0, ∃ v1x0, ∃ x7, ∃ x8, env = [(0, .slice a0 n0 c0 e0), (1, .fn n_impl_known_lit1 [v1x0]), (7, .int .i64 x7), (8, .int .i64 x8)] ∧ R2 a0 n0 c0 e0 v1x0 x7 x8 h := by
  unfold E2 at hi
  have hi0 := hi
  clear hi
  obtain ⟨_, _, rfl, hi1⟩ := eVal_elim hi0
  obtain ⟨a0, n0, c0, e0, rfl, hi2⟩ := xSl_elim hi1
  obtain ⟨_, _, rfl, hi3⟩ := eVal_elim hi2
  obtain ⟨cs, rfl, hi4⟩ := eFn_elim hi3
  obtain ⟨c, cs', rfl, hi5⟩ := xCons_elim hi4
  obtain ⟨v1x0, hx, hi6⟩ := xAny_elim hi5
  replace hx := (Option.some.inj hx).symm
  subst hx
  obtain ⟨rfl, hi7⟩ := xNil_elim hi6
  obtain ⟨_, _, rfl, hi8⟩ := eVal_elim hi7
  obtain ⟨x7, rfl, hi9⟩ := eInt_elim hi8
  obtain ⟨_, _, rfl, hi10⟩ := eVal_elim hi9
  obtain ⟨x8, rfl, hi11⟩ := eInt_elim hi10
  obtain ⟨rfl, hi12⟩ := eNil_elim hi11
  have hi := hi12
  exact ⟨a0, n0, c0, e0, v1x0, x7, x8, rfl, hi⟩
def K0 (Q : QT) : KT := andThen (fun env' h' => (match kp.find 4000007 with | some ks => Den pg fn.ntmps (C [1, 1]) (env'.keep ks) h' (KR Q) | none => den pg fn.ntmps kp (C [1, 1]) env' h' (KR Q))) (KR Q)
def K1 (Q : QT) : KT := onExit 0 (K0 Q)
def K2 (Q : QT) : KT := left kp 2 (K1 Q)
def K3 (Q : QT) (R2 : T2) : KT := rnd ((kp.find 1000002).getD []) (E2 R2) (K2 Q)
def L2 (Q : QT) (a0 : Pt) (n0 c0 : Nat) (e0 : Bool) (v1x0 : AVal) (x7 x8 : Int) (h : AHeap) : Prop := Loop (Den pg fn.ntmps (C [1, 0, 1, 0, 0])) ((kp.find 1000002).getD []) (K2 Q) [(0, .slice a0 n0 c0 e0), (1, .fn n_impl_known_lit1 [v1x0]), (7, .int .i64 x7), (8, .int .i64 x8)] h
def A2x0 (Q : QT) (h : AHeap) : Prop := At (K1 Q) (.exit 0) [(4, .undef)] h
def L2t (Q : QT) (R2 : T2) (a0 : Pt) (n0 c0 : Nat) (e0 : Bool) (v1x0 : AVal) (x7 x8 : Int) (h : AHeap) : Prop :=
 bcase (decide ((x8 : Int) < x7)) ((0 ≤ (x8 : Int) ∧ (x8 : Int) < (n0 : Nat)) ∧ (xSome a0 fun I0 O1 => xRow (hRow h (.ptr (some (I0, O1 + (Int.toNat x8) * 2))) 2) fun K2 => xCons K2 fun C3 Z4 => xStr (some C3) fun S5 => xCons Z4 fun C6 Z7 => xStr (some C6) fun S8 => xNil Z7 (SCall pg n_impl_known_lit1 [.agg [.str S5, .str S8], v1x0] h fun V9 H10 =>
 xBool (some V9) fun B11 => bcase B11 (Q (.int .i64 x8) H10) (R2 a0 n0 c0 e0 v1x0 x7 (IntKind.wrap .i64 (x8 + 1)) H10)))) (A2x0 Q h)
theorem L2den (Q : QT) (R2 : T2) (a0 : Pt) (n0 c0 : Nat) (e0 : Bool) (v1x0 : AVal) (x7 x8 : Int) (h : AHeap) (ht : L2t Q R2 a0 n0 c0 e0 v1x0 x7 x8 h) : Den pg fn.ntmps (C [1, 0, 1, 0, 0]) [(0, .slice a0 n0 c0 e0), (1, .fn n_impl_known_lit1 [v1x0]), (7, .int .i64 x7), (8, .int .i64 x8)] h (K3 Q R2) :=
  den_Den (kp := kp) (cast (by kernel_rfl) ht)
theorem L2ind (Q : QT) (a0 : Pt) (n0 c0 : Nat) (e0 : Bool) (v1x0 : AVal) (x7 : Int) {G : Type} (J : G → Int → AHeap → Prop) (m : G → Nat)
 (hr : ∀ (g : G) (x8 : Int) (h : AHeap), J g x8 h → ∀ (R2 : T2), (∀ g' (x8 : Int) (h : AHeap), m g' < m g → J g' x8 h → R2 a0 n0 c0 e0 v1x0 x7 x8 h) → L2t Q R2 a0 n0 c0 e0 v1x0 x7 x8 h)
 (g : G) (x8 : Int) (h : AHeap) (hj : J g x8 h) : L2 Q a0 n0 c0 e0 v1x0 x7 x8 h := by
  refine Loop.inv2 (fun g => E2 fun a0' n0' c0' e0' v1x0' x7' x8 h => a0 = a0' ∧ n0 = n0' ∧ c0 = c0' ∧ e0 = e0' ∧ v1x0 = v1x0' ∧ x7 = x7' ∧ J g x8 h) (fun g => E2 fun a0' n0' c0' e0' v1x0' x7' x8 h => a0 = a0' ∧ n0 = n0' ∧ c0 = c0' ∧ e0 = e0' ∧ v1x0 = v1x0' ∧ x7 = x7' ∧ ∃ g', m g' < m g ∧ J g' x8 h) m ?_ ?_ g ⟨rfl, rfl, rfl, rfl, rfl, rfl, hj⟩
  · intro g env h hi
    obtain ⟨a0', n0', c0', e0', v1x0', x7', x8, rfl, rfl, rfl, rfl, rfl, rfl, rfl, hj⟩ := E2elim hi
    exact L2den Q _ a0 n0 c0 e0 v1x0 x7 x8 h (hr g x8 h hj (fun a0' n0' c0' e0' v1x0' x7' x8 h => a0 = a0' ∧ n0 = n0' ∧ c0 = c0' ∧ e0 = e0' ∧ v1x0 = v1x0' ∧ x7 = x7' ∧ ∃ g', m g' < m g ∧ J g' x8 h) fun g' x8 h hlt hj => ⟨rfl, rfl, rfl, rfl, rfl, rfl, g', hlt, hj⟩)
  · intro g env h hi
    obtain ⟨a0', n0', c0', e0', v1x0', x7', x8, rfl, rfl, rfl, rfl, rfl, rfl, rfl, g', hlt, hj⟩ := E2elim hi
    exact ⟨g', hlt, rfl, rfl, rfl, rfl, rfl, rfl, hj⟩
theorem A2x0i (Q : QT) (h : AHeap) (ht :
 Q (.int .i64 (-1)) h) : A2x0 Q h :=
  At.mk (cast (by kernel_rfl) ht)
theorem call (a0 : Pt) (n0 c0 : Nat) (e0 : Bool) (v1x0 : AVal) (h : AHeap) (Q : QT) (ht :
 L2 Q a0 n0 c0 e0 v1x0 (((n0 : Nat) : Int)) 0 h) : SCall pg n_slices_IndexFunc_L_impl_Class_impl_Class [.slice a0 n0 c0 e0, .fn n_impl_known_lit1 [v1x0]] h Q :=
  SCall.of_body kp (c := cod fn) (fn := fn) Go.Proofs.Tryz.func149 (by kernel_rfl) (by kernel_rfl) (Nat.le_of_ble_eq_true (by kernel_rfl))
    (cast (by kernel_rfl) ht)
end F_slices_IndexFunc_L_impl_Class_impl_Class__impl_known_lit1
/-! Function loop.example/instancesearch/impl.known -/
namespace F_impl_known
noncomputable abbrev fn : Func := Go.Proofs.Tryz.f88
def kp : Keeps := []
noncomputable def C (p : List Nat) : Code := (cod fn).sub p
def KR (Q : QT) : KT := retA pg fn.results.toList Q
theorem call (a0 : Pt) (n0 c0 : Nat) (e0 : Bool) (x1 : List Nat) (h : AHeap) (Q : QT) (ht :
 letH (h ++ [.cells t_string [.str x1] false]) fun H0 => SCall pg n_slices_ContainsFunc_L_impl_Class_impl_Class [.slice a0 n0 c0 e0, .fn n_impl_known_lit1 [.ptr (some (h.length, 0))]] H0 fun V1 H2 =>
 xBool (some V1) fun B3 => Q (.bool B3) H2) : SCall pg n_impl_known [.slice a0 n0 c0 e0, .str x1] h Q :=
  SCall.of_body kp (c := cod fn) (fn := fn) Go.Proofs.Tryz.func88 (by kernel_rfl) (by kernel_rfl) (Nat.le_of_ble_eq_true (by kernel_rfl))
    (cast (by kernel_rfl) ht)
end F_impl_known
/-! Function slices.ContainsFunc[[]loop.example/instancesearch/impl.Class,loop.example/instancesearch/impl.Class] -/
namespace F_slices_ContainsFunc_L_impl_Class_impl_Class__impl_known_lit1
noncomputable abbrev fn : Func := Go.Proofs.Tryz.f121
def kp : Keeps := []
noncomputable def C (p : List Nat) : Code := (cod fn).sub p
def KR (Q : QT) : KT := retA pg fn.results.toList Q
theorem call (a0 : Pt) (n0 c0 : Nat) (e0 : Bool) (v1x0 : AVal) (h : AHeap) (Q : QT) (ht :
 SCall pg n_slices_IndexFunc_L_impl_Class_impl_Class [.slice a0 n0 c0 e0, .fn n_impl_known_lit1 [v1x0]] h fun V0 H1 =>
 xInt .i64 (some V0) fun X2 => Q (.bool (decide ((X2 : Int) ≥ 0))) H1) : SCall pg n_slices_ContainsFunc_L_impl_Class_impl_Class [.slice a0 n0 c0 e0, .fn n_impl_known_lit1 [v1x0]] h Q :=
  SCall.of_body kp (c := cod fn) (fn := fn) Go.Proofs.Tryz.func121 (by kernel_rfl) (by kernel_rfl) (Nat.le_of_ble_eq_true (by kernel_rfl))
    (cast (by kernel_rfl) ht)
end F_slices_ContainsFunc_L_impl_Class_impl_Class__impl_known_lit1
/-! Function loop.example/instancesearch/spec.l3Class -/
namespace F_spec_l3Class
noncomputable abbrev fn : Func := Go.Proofs.Tryz.f81
def kp : Keeps := [(3000002, [4]), (1000002, [1, 8, 9, 10])]
noncomputable def C (p : List Nat) : Code := (cod fn).sub p
def KR (Q : QT) : KT := retA pg fn.results.toList Q
abbrev T2 := List Nat → Pt → Nat → Nat → Bool → Int → Int → AHeap → Prop
def E2 (R2 : T2) (env : Env) (h : AHeap) : Prop := eVal 1 env fun v env => xStr (some v) fun x1 => eVal 8 env fun v env => xSl (some v) fun a8 n8 c8 e8 => eVal 9 env fun v env => eInt .i64 v fun x9 => eVal 10 env fun v env => eInt .i64 v fun x10 => eNil env (R2 x1 a8 n8 c8 e8 x9 x10 h)
theorem E2elim {R2 : T2} {env : Env} {h : AHeap} (hi : E2 R2 env h) : ∃ x1, ∃ a8, ∃ n8, ∃ c8, ∃ e8, ∃ x9, ∃ x10, env = [(1, .str x1), (8, .slice a8 n8 c8 e8), (9, .int .i64 x9), (10, .int .i64 x10)] ∧ R2 x1 a8 n8 c8 e8 x9 x10 h := by
  unfold E2 at hi
  have hi0 := hi
  clear hi
  obtain ⟨_, _, rfl, hi1⟩ := eVal_elim hi0
  obtain ⟨x1, rfl, hi2⟩ := xStr_elim hi1
  obtain ⟨_, _, rfl, hi3⟩ := eVal_elim hi2
  obtain ⟨a8, n8, c8, e8, rfl, hi4⟩ := xSl_elim hi3
  obtain ⟨_, _, rfl, hi5⟩ := eVal_elim hi4
  obtain ⟨x9, rfl, hi6⟩ := eInt_elim hi5
  obtain ⟨_, _, rfl, hi7⟩ := eVal_elim hi6
  obtain ⟨x10, rfl, hi8⟩ := eInt_elim hi7
  obtain ⟨rfl, hi9⟩ := eNil_elim hi8
  have hi := hi9
  exact ⟨x1, a8, n8, c8, e8, x9, x10, rfl, hi⟩
def K0 (Q : QT) : KT := andThen (fun env' h' => (match kp.find 4000007 with | some ks => Den pg fn.ntmps (C [1, 1]) (env'.keep ks) h' (KR Q) | none => den pg fn.ntmps kp (C [1, 1]) env' h' (KR Q))) (KR Q)
def K1 (Q : QT) : KT := onExit 0 (K0 Q)
def K2 (Q : QT) : KT := left kp 2 (K1 Q)
def K3 (Q : QT) (R2 : T2) : KT := rnd ((kp.find 1000002).getD []) (E2 R2) (K2 Q)
def L2 (Q : QT) (x1 : List Nat) (a8 : Pt) (n8 c8 : Nat) (e8 : Bool) (x9 x10 : Int) (h : AHeap) : Prop := Loop (Den pg fn.ntmps (C [1, 0, 1, 0, 0])) ((kp.find 1000002).getD []) (K2 Q) [(1, .str x1), (8, .slice a8 n8 c8 e8), (9, .int .i64 x9), (10, .int .i64 x10)] h
def A2x0 (Q : QT) (h : AHeap) : Prop := At (K1 Q) (.exit 0) [(4, .undef)] h
def L2t (Q : QT) (R2 : T2) (x1 : List Nat) (a8 : Pt) (n8 c8 : Nat) (e8 : Bool) (x9 x10 : Int) (h : AHeap) : Prop :=
 bcase (decide ((x10 : Int) < x9)) ((0 ≤ (x10 : Int) ∧ (x10 : Int) < (n8 : Nat)) ∧ (xSome a8 fun I5 O6 => xRow (hRow h (.ptr (some (I5, O6 + (Int.toNat x10) * 2))) 2) fun K7 => xCons K7 fun C8 Z9 => xStr (some C8) fun S10 => xCons Z9 fun C11 Z12 => xStr (some C11) fun S13 => xNil Z12 (letH (h ++ [.cells t_impl_Class [.str [], .str []] false]) fun H14 => xHeap (hStore H14 (.ptr (some (h.length, 0))) [.str S10, .str S13]) fun H15 => xStr (hCell H15 (.ptr (some (h.length, 0 + 0)))) fun S16 => bcase (decide (S16 = x1)) (Q (.int .i64 x10) H15) (R2 x1 a8 n8 c8 e8 x9 (IntKind.wrap .i64 (x10 + 1)) H15)))) (A2x0 Q h)
theorem L2den (Q : QT) (R2 : T2) (x1 : List Nat) (a8 : Pt) (n8 c8 : Nat) (e8 : Bool) (x9 x10 : Int) (h : AHeap) (ht : L2t Q R2 x1 a8 n8 c8 e8 x9 x10 h) : Den pg fn.ntmps (C [1, 0, 1, 0, 0]) [(1, .str x1), (8, .slice a8 n8 c8 e8), (9, .int .i64 x9), (10, .int .i64 x10)] h (K3 Q R2) :=
  den_Den (kp := kp) (cast (by kernel_rfl) ht)
theorem L2ind (Q : QT) (x1 : List Nat) (a8 : Pt) (n8 c8 : Nat) (e8 : Bool) (x9 : Int) {G : Type} (J : G → Int → AHeap → Prop) (m : G → Nat)
 (hr : ∀ (g : G) (x10 : Int) (h : AHeap), J g x10 h → ∀ (R2 : T2), (∀ g' (x10 : Int) (h : AHeap), m g' < m g → J g' x10 h → R2 x1 a8 n8 c8 e8 x9 x10 h) → L2t Q R2 x1 a8 n8 c8 e8 x9 x10 h)
 (g : G) (x10 : Int) (h : AHeap) (hj : J g x10 h) : L2 Q x1 a8 n8 c8 e8 x9 x10 h := by
  refine Loop.inv2 (fun g => E2 fun x1' a8' n8' c8' e8' x9' x10 h => x1 = x1' ∧ a8 = a8' ∧ n8 = n8' ∧ c8 = c8' ∧ e8 = e8' ∧ x9 = x9' ∧ J g x10 h) (fun g => E2 fun x1' a8' n8' c8' e8' x9' x10 h => x1 = x1' ∧ a8 = a8' ∧ n8 = n8' ∧ c8 = c8' ∧ e8 = e8' ∧ x9 = x9' ∧ ∃ g', m g' < m g ∧ J g' x10 h) m ?_ ?_ g ⟨rfl, rfl, rfl, rfl, rfl, rfl, hj⟩
  · intro g env h hi
    obtain ⟨x1', a8', n8', c8', e8', x9', x10, rfl, rfl, rfl, rfl, rfl, rfl, rfl, hj⟩ := E2elim hi
    exact L2den Q _ x1 a8 n8 c8 e8 x9 x10 h (hr g x10 h hj (fun x1' a8' n8' c8' e8' x9' x10 h => x1 = x1' ∧ a8 = a8' ∧ n8 = n8' ∧ c8 = c8' ∧ e8 = e8' ∧ x9 = x9' ∧ ∃ g', m g' < m g ∧ J g' x10 h) fun g' x10 h hlt hj => ⟨rfl, rfl, rfl, rfl, rfl, rfl, g', hlt, hj⟩)
  · intro g env h hi
    obtain ⟨x1', a8', n8', c8', e8', x9', x10, rfl, rfl, rfl, rfl, rfl, rfl, rfl, g', hlt, hj⟩ := E2elim hi
    exact ⟨g', hlt, rfl, rfl, rfl, rfl, rfl, rfl, hj⟩
theorem A2x0i (Q : QT) (h : AHeap) (ht :
 Q (.int .i64 (-1)) h) : A2x0 Q h :=
  At.mk (cast (by kernel_rfl) ht)
theorem call (a0x0 : Pt) (n0x0 c0x0 : Nat) (e0x0 : Bool) (a0x1 : Pt) (n0x1 c0x1 : Nat) (e0x1 : Bool) (x1 : List Nat) (h : AHeap) (Q : QT) (ht :
 letH (h ++ [.cells t_impl_World [.slice a0x0 n0x0 c0x0 e0x0, .slice a0x1 n0x1 c0x1 e0x1] false]) fun H0 => xSl (hCell H0 (.ptr (some (h.length, 0 + 0)))) fun A1 N2 C3 E4 => L2 Q x1 A1 N2 C3 E4 (((N2 : Nat) : Int)) 0 H0) : SCall pg n_spec_l3Class [.agg [.slice a0x0 n0x0 c0x0 e0x0, .slice a0x1 n0x1 c0x1 e0x1], .str x1] h Q :=
  SCall.of_body kp (c := cod fn) (fn := fn) Go.Proofs.Tryz.func81 (by kernel_rfl) (by kernel_rfl) (Nat.le_of_ble_eq_true (by kernel_rfl))
    (cast (by kernel_rfl) ht)
end F_spec_l3Class
/-! Function loop.example/instancesearch/impl.classesOk -/
namespace F_impl_classesOk
noncomputable abbrev fn : Func := Go.Proofs.Tryz.f67
def kp : Keeps := [(3000002, [1, 2]), (1000002, [1, 7, 8, 9]), (2000004, [33, 4, 1, 3, 7, 8, 9]), (4000006, [4, 1, 3, 7, 8, 9]), (3000007, [9, 8, 7, 1, 2]), (1000007, [1, 3, 4, 7, 8, 9, 36, 37]), (2000009, [67, 37, 36, 1, 3, 4, 9, 8, 7]), (4000011, [37, 36, 1, 3, 4, 9, 8, 7]), (4000012, [9, 8, 7, 1])]
noncomputable def C (p : List Nat) : Code := (cod fn).sub p
def KR (Q : QT) : KT := retA pg fn.results.toList Q
abbrev T2 := Nat → Nat → Pt → Nat → Nat → Bool → Int → Int → AHeap → Prop
def E2 (R2 : T2) (env : Env) (h : AHeap) : Prop := eVal 1 env fun v env => xPtr (some v) fun a => xSome a fun i1 o1 => eVal 7 env fun v env => xSl (some v) fun a7 n7 c7 e7 => eVal 8 env fun v env => eInt .i64 v fun x8 => eVal 9 env fun v env => eInt .i64 v fun x9 => eNil env (R2 i1 o1 a7 n7 c7 e7 x8 x9 h)
theorem E2elim {R2 : T2} {env : Env} {h : AHeap} (hi : E2 R2 env h) : ∃ i1, ∃ o1, ∃ a7, ∃ n7, ∃ c7, ∃ e7, ∃ x8, ∃ x9, env = [(1, .ptr (some (i1, o1))), (7, .slice a7 n7 c7 e7), (8, .int .i64 x8), (9, .int .i64 x9)] ∧ R2 i1 o1 a7 n7 c7 e7 x8 x9 h := by
  unfold E2 at hi
  have hi0 := hi
  clear hi
  obtain ⟨_, _, rfl, hi1⟩ := eVal_elim hi0
  obtain ⟨a, rfl, hi2⟩ := xPtr_elim hi1
  obtain ⟨i1, o1, rfl, hi3⟩ := xSome_elim hi2
  obtain ⟨_, _, rfl, hi4⟩ := eVal_elim hi3
  obtain ⟨a7, n7, c7, e7, rfl, hi5⟩ := xSl_elim hi4
  obtain ⟨_, _, rfl, hi6⟩ := eVal_elim hi5
  obtain ⟨x8, rfl, hi7⟩ := eInt_elim hi6
  obtain ⟨_, _, rfl, hi8⟩ := eVal_elim hi7
  obtain ⟨x9, rfl, hi9⟩ := eInt_elim hi8
  obtain ⟨rfl, hi10⟩ := eNil_elim hi9
  have hi := hi10
  exact ⟨i1, o1, a7, n7, c7, e7, x8, x9, rfl, hi⟩
abbrev T7 := Nat → Nat → Int → Nat → Nat → Pt → Nat → Nat → Bool → Int → Int → Int → Int → AHeap → Prop
def E7 (R7 : T7) (env : Env) (h : AHeap) : Prop := eVal 1 env fun v env => xPtr (some v) fun a => xSome a fun i1 o1 => eVal 3 env fun v env => eInt .i64 v fun x3 => eVal 4 env fun v env => xPtr (some v) fun a => xSome a fun i4 o4 => eVal 7 env fun v env => xSl (some v) fun a7 n7 c7 e7 => eVal 8 env fun v env => eInt .i64 v fun x8 => eVal 9 env fun v env => eInt .i64 v fun x9 => eVal 36 env fun v env => eInt .i64 v fun x36 => eVal 37 env fun v env => eInt .i64 v fun x37 => eNil env (R7 i1 o1 x3 i4 o4 a7 n7 c7 e7 x8 x9 x36 x37 h)
theorem E7elim {R7 : T7} {env : Env} {h : AHeap} (hi : E7 R7 env h) : ∃ i1, ∃ o1, ∃ x3, ∃ i4, ∃ o4, ∃ a7, ∃ n7, ∃ c7, ∃ e7, ∃ x8, ∃ x9, ∃ x36, ∃ x37, env = [(1, .ptr (some (i1, o1))), (3, .int .i64 x3), (4, .ptr (some (i4, o4))), (7, .slice a7 n7 c7 e7), (8, .int .i64 x8), (9, .int .i64 x9), (36, .int .i64 x36), (37, .int .i64 x37)] ∧ R7 i1 o1 x3 i4 o4 a7 n7 c7 e7 x8 x9 x36 x37 h := by
  unfold E7 at hi
  have hi0 := hi
  clear hi
  obtain ⟨_, _, rfl, hi1⟩ := eVal_elim hi0
  obtain ⟨a, rfl, hi2⟩ := xPtr_elim hi1
  obtain ⟨i1, o1, rfl, hi3⟩ := xSome_elim hi2
  obtain ⟨_, _, rfl, hi4⟩ := eVal_elim hi3
  obtain ⟨x3, rfl, hi5⟩ := eInt_elim hi4
  obtain ⟨_, _, rfl, hi6⟩ := eVal_elim hi5
  obtain ⟨a, rfl, hi7⟩ := xPtr_elim hi6
  obtain ⟨i4, o4, rfl, hi8⟩ := xSome_elim hi7
  obtain ⟨_, _, rfl, hi9⟩ := eVal_elim hi8
  obtain ⟨a7, n7, c7, e7, rfl, hi10⟩ := xSl_elim hi9
  obtain ⟨_, _, rfl, hi11⟩ := eVal_elim hi10
  obtain ⟨x8, rfl, hi12⟩ := eInt_elim hi11
  obtain ⟨_, _, rfl, hi13⟩ := eVal_elim hi12
  obtain ⟨x9, rfl, hi14⟩ := eInt_elim hi13
  obtain ⟨_, _, rfl, hi15⟩ := eVal_elim hi14
  obtain ⟨x36, rfl, hi16⟩ := eInt_elim hi15
  obtain ⟨_, _, rfl, hi17⟩ := eVal_elim hi16
  obtain ⟨x37, rfl, hi18⟩ := eInt_elim hi17
  obtain ⟨rfl, hi19⟩ := eNil_elim hi18
  have hi := hi19
  exact ⟨i1, o1, x3, i4, o4, a7, n7, c7, e7, x8, x9, x36, x37, rfl, hi⟩
def K0 (Q : QT) : KT := andThen (fun env' h' => (match kp.find 4000013 with | some ks => Den pg fn.ntmps (C [1, 1]) (env'.keep ks) h' (KR Q) | none => den pg fn.ntmps kp (C [1, 1]) env' h' (KR Q))) (KR Q)
def K1 (Q : QT) : KT := onExit 0 (K0 Q)
def K2 (Q : QT) : KT := left kp 2 (K1 Q)
def K3 (Q : QT) (R2 : T2) : KT := rnd ((kp.find 1000002).getD []) (E2 R2) (K2 Q)
def K4 (Q : QT) (R2 : T2) : KT := andThen (fun env' h' => (match kp.find 4000012 with | some ks => Den pg fn.ntmps (C [1, 0, 1, 0, 0, 1, 1, 1]) (env'.keep ks) h' (K3 Q R2) | none => den pg fn.ntmps kp (C [1, 0, 1, 0, 0, 1, 1, 1]) env' h' (K3 Q R2))) (K3 Q R2)
def K5 (Q : QT) (R2 : T2) : KT := onExit 1 (K4 Q R2)
def K6 (Q : QT) (R2 : T2) : KT := onExit 2 (K5 Q R2)
def K7 (Q : QT) (R2 : T2) : KT := left kp 7 (K6 Q R2)
def K8 (Q : QT) (R2 : T2) (R7 : T7) : KT := rnd ((kp.find 1000007).getD []) (E7 R7) (K7 Q R2)
def L2 (Q : QT) (i1 o1 : Nat) (a7 : Pt) (n7 c7 : Nat) (e7 : Bool) (x8 x9 : Int) (h : AHeap) : Prop := Loop (Den pg fn.ntmps (C [1, 0, 1, 0, 0])) ((kp.find 1000002).getD []) (K2 Q) [(1, .ptr (some (i1, o1))), (7, .slice a7 n7 c7 e7), (8, .int .i64 x8), (9, .int .i64 x9)] h
def J6 (Q : QT) (R2 : T2) (i4 o4 i1 o1 : Nat) (x3 : Int) (a7 : Pt) (n7 c7 : Nat) (e7 : Bool) (x8 x9 : Int) (h : AHeap) : Prop := Den pg fn.ntmps (C [1, 0, 1, 0, 0, 1, 1, 0, 0, 1, 1]) [(4, .ptr (some (i4, o4))), (1, .ptr (some (i1, o1))), (3, .int .i64 x3), (7, .slice a7 n7 c7 e7), (8, .int .i64 x8), (9, .int .i64 x9)] h (K5 Q R2)
def A2x0 (Q : QT) (i1 o1 : Nat) (h : AHeap) : Prop := At (K1 Q) (.exit 0) [(1, .ptr (some (i1, o1))), (2, .undef)] h
def L7 (Q : QT) (R2 : T2) (i1 o1 : Nat) (x3 : Int) (i4 o4 : Nat) (a7 : Pt) (n7 c7 : Nat) (e7 : Bool) (x8 x9 x36 x37 : Int) (h : AHeap) : Prop := Loop (Den pg fn.ntmps (C [1, 0, 1, 0, 0, 1, 1, 0, 0, 1, 1, 1, 0, 0])) ((kp.find 1000007).getD []) (K7 Q R2) [(1, .ptr (some (i1, o1))), (3, .int .i64 x3), (4, .ptr (some (i4, o4))), (7, .slice a7 n7 c7 e7), (8, .int .i64 x8), (9, .int .i64 x9), (36, .int .i64 x36), (37, .int .i64 x37)] h
def J11 (Q : QT) (R2 : T2) (R7 : T7) (x37 x36 : Int) (i1 o1 : Nat) (x3 : Int) (i4 o4 : Nat) (x9 x8 : Int) (a7 : Pt) (n7 c7 : Nat) (e7 : Bool) (h : AHeap) : Prop := Den pg fn.ntmps (C [1, 0, 1, 0, 0, 1, 1, 0, 0, 1, 1, 1, 0, 0, 1, 1, 1]) [(37, .int .i64 x37), (36, .int .i64 x36), (1, .ptr (some (i1, o1))), (3, .int .i64 x3), (4, .ptr (some (i4, o4))), (9, .int .i64 x9), (8, .int .i64 x8), (7, .slice a7 n7 c7 e7)] h (K8 Q R2 R7)
def A7x2 (Q : QT) (R2 : T2) (x9 x8 : Int) (a7 : Pt) (n7 c7 : Nat) (e7 : Bool) (i1 o1 : Nat) (h : AHeap) : Prop := At (K6 Q R2) (.exit 2) [(9, .int .i64 x9), (8, .int .i64 x8), (7, .slice a7 n7 c7 e7), (1, .ptr (some (i1, o1))), (2, .undef)] h
def J12 (Q : QT) (R2 : T2) (x9 x8 : Int) (a7 : Pt) (n7 c7 : Nat) (e7 : Bool) (i1 o1 : Nat) (h : AHeap) : Prop := Den pg fn.ntmps (C [1, 0, 1, 0, 0, 1, 1, 1]) [(9, .int .i64 x9), (8, .int .i64 x8), (7, .slice a7 n7 c7 e7), (1, .ptr (some (i1, o1)))] h (K3 Q R2)
def L2t (Q : QT) (R2 : T2) (i1 o1 : Nat) (a7 : Pt) (n7 c7 : Nat) (e7 : Bool) (x8 x9 : Int) (h : AHeap) : Prop :=
 bcase (decide ((x9 : Int) < x8)) ((0 ≤ (x9 : Int) ∧ (x9 : Int) < (n7 : Nat)) ∧ (xSome a7 fun I5 O6 => xRow (hRow h (.ptr (some (I5, O6 + (Int.toNat x9) * 2))) 2) fun K7 => xCons K7 fun C8 Z9 => xStr (some C8) fun S10 => xCons Z9 fun C11 Z12 => xStr (some C11) fun S13 => xNil Z12 (letH (h ++ [.cells t_impl_Class [.str [], .str []] false]) fun H14 => xHeap (hStore H14 (.ptr (some (h.length, 0))) [.str S10, .str S13]) fun H15 => xStr (hCell H15 (.ptr (some (h.length, 0 + 0)))) fun S16 => SCall pg n_impl_isClass [.str S16] H15 fun V17 H18 =>
 xBool (some V17) fun B19 => bcase (!B19) ((hCell H18 (.tup []) = hCell H18 (.tup [])) ∧ (hCell H18 (.tup []) = hCell H18 (.tup [])) ∧ Q (.bool false) H18) (bcase (decide ((x9 : Int) > 0)) (xSl (hCell H18 (.ptr (some (i1, o1 + 0)))) fun A20 N21 C22 E23 => (0 ≤ (IntKind.wrap .i64 (x9 - 1) : Int) ∧ (IntKind.wrap .i64 (x9 - 1) : Int) < (N21 : Nat)) ∧ (xSome A20 fun I24 O25 => xStr (hCell H18 (.ptr (some (I24, O25 + (Int.toNat (IntKind.wrap .i64 (x9 - 1))) * 2 + 0)))) fun S26 => xStr (hCell H18 (.ptr (some (h.length, 0 + 0)))) fun S27 => (hCell H18 (.ptr (some (I24, O25 + (Int.toNat (IntKind.wrap .i64 (x9 - 1))) * 2 + 0))) = hCell H18 (.ptr (some (I24, O25 + (Int.toNat (IntKind.wrap .i64 (x9 - 1))) * 2 + 0)))) ∧ (hCell H18 (.ptr (some (i1, o1 + 0))) = hCell H18 (.ptr (some (i1, o1 + 0)))) ∧ bcase (!natLess S26 S27) (Q (.bool false) H18) (J6 Q R2 h.length 0 i1 o1 x9 a7 n7 c7 e7 x8 x9 H18))) ((hCell H18 (.tup []) = hCell H18 (.tup [])) ∧ (hCell H18 (.tup []) = hCell H18 (.tup [])) ∧ J6 Q R2 h.length 0 i1 o1 x9 a7 n7 c7 e7 x8 x9 H18))))) (A2x0 Q i1 o1 h)
theorem L2den (Q : QT) (R2 : T2) (i1 o1 : Nat) (a7 : Pt) (n7 c7 : Nat) (e7 : Bool) (x8 x9 : Int) (h : AHeap) (ht : L2t Q R2 i1 o1 a7 n7 c7 e7 x8 x9 h) : Den pg fn.ntmps (C [1, 0, 1, 0, 0]) [(1, .ptr (some (i1, o1))), (7, .slice a7 n7 c7 e7), (8, .int .i64 x8), (9, .int .i64 x9)] h (K3 Q R2) :=
  den_Den (kp := kp) (cast (by kernel_rfl) ht)
theorem L2ind (Q : QT) (i1 o1 : Nat) (a7 : Pt) (n7 c7 : Nat) (e7 : Bool) (x8 : Int) {G : Type} (J : G → Int → AHeap → Prop) (m : G → Nat)
 (hr : ∀ (g : G) (x9 : Int) (h : AHeap), J g x9 h → ∀ (R2 : T2), (∀ g' (x9 : Int) (h : AHeap), m g' < m g → J g' x9 h → R2 i1 o1 a7 n7 c7 e7 x8 x9 h) → L2t Q R2 i1 o1 a7 n7 c7 e7 x8 x9 h)
 (g : G) (x9 : Int) (h : AHeap) (hj : J g x9 h) : L2 Q i1 o1 a7 n7 c7 e7 x8 x9 h := by
  refine Loop.inv2 (fun g => E2 fun i1' o1' a7' n7' c7' e7' x8' x9 h => i1 = i1' ∧ o1 = o1' ∧ a7 = a7' ∧ n7 = n7' ∧ c7 = c7' ∧ e7 = e7' ∧ x8 = x8' ∧ J g x9 h) (fun g => E2 fun i1' o1' a7' n7' c7' e7' x8' x9 h => i1 = i1' ∧ o1 = o1' ∧ a7 = a7' ∧ n7 = n7' ∧ c7 = c7' ∧ e7 = e7' ∧ x8 = x8' ∧ ∃ g', m g' < m g ∧ J g' x9 h) m ?_ ?_ g ⟨rfl, rfl, rfl, rfl, rfl, rfl, rfl, hj⟩
  · intro g env h hi
    obtain ⟨i1', o1', a7', n7', c7', e7', x8', x9, rfl, rfl, rfl, rfl, rfl, rfl, rfl, rfl, hj⟩ := E2elim hi
    exact L2den Q _ i1 o1 a7 n7 c7 e7 x8 x9 h (hr g x9 h hj (fun i1' o1' a7' n7' c7' e7' x8' x9 h => i1 = i1' ∧ o1 = o1' ∧ a7 = a7' ∧ n7 = n7' ∧ c7 = c7' ∧ e7 = e7' ∧ x8 = x8' ∧ ∃ g', m g' < m g ∧ J g' x9 h) fun g' x9 h hlt hj => ⟨rfl, rfl, rfl, rfl, rfl, rfl, rfl, g', hlt, hj⟩)
  · intro g env h hi
    obtain ⟨i1', o1', a7', n7', c7', e7', x8', x9, rfl, rfl, rfl, rfl, rfl, rfl, rfl, rfl, g', hlt, hj⟩ := E2elim hi
    exact ⟨g', hlt, rfl, rfl, rfl, rfl, rfl, rfl, rfl, hj⟩
theorem J6i (Q : QT) (R2 : T2) (i4 o4 i1 o1 : Nat) (x3 : Int) (a7 : Pt) (n7 c7 : Nat) (e7 : Bool) (x8 x9 : Int) (h : AHeap) (ht :
 xStr (hCell h (.ptr (some (i4, o4 + 1)))) fun S28 => L7 Q R2 i1 o1 x3 i4 o4 a7 n7 c7 e7 x8 x9 (((List.length S28 : Nat) : Int)) 0 h) : J6 Q R2 i4 o4 i1 o1 x3 a7 n7 c7 e7 x8 x9 h :=
  den_Den (kp := kp) (cast (by kernel_rfl) ht)
theorem A2x0i (Q : QT) (i1 o1 : Nat) (h : AHeap) (ht :
 xSl (hCell h (.ptr (some (i1, o1 + 0)))) fun A29 N30 C31 E32 => bcase (decide (((((N30 : Nat) : Int)) : Int) ≥ 1)) (xSl (hCell h (.ptr (some (i1, o1 + 0)))) fun A33 N34 C35 E36 => Q (.bool (decide (((((N34 : Nat) : Int)) : Int) ≤ 4))) h) (Q (.bool false) h)) : A2x0 Q i1 o1 h :=
  At.mk (cast (by kernel_rfl) ht)
def L7t (Q : QT) (R2 : T2) (R7 : T7) (i1 o1 : Nat) (x3 : Int) (i4 o4 : Nat) (a7 : Pt) (n7 c7 : Nat) (e7 : Bool) (x8 x9 x36 x37 : Int) (h : AHeap) : Prop :=
 bcase (decide ((x37 : Int) < x36)) (xSl (hCell h (.ptr (some (i1, o1 + 0)))) fun A37 N38 C39 E40 => sliceSl A37 N38 C39 E40 2 none (some (.int .i64 x3)) none fun V41 => xSl (some V41) fun A42 N43 C44 E45 => xStr (hCell h (.ptr (some (i4, o4 + 1)))) fun S46 => (hCell h (.ptr (some (i1, o1 + 0))) = hCell h (.ptr (some (i1, o1 + 0)))) ∧ (0 ≤ (x37 : Int) ∧ (x37 : Int) ≤ IntKind.wrap .i64 (x37 + 1) ∧ (IntKind.wrap .i64 (x37 + 1) : Int) ≤ (List.length S46 : Nat)) ∧ (SCall pg n_impl_known [.slice A42 N43 C44 E45, .str (sub S46 x37 (IntKind.wrap .i64 (x37 + 1)))] h fun V47 H48 =>
 xBool (some V47) fun B49 => (hCell H48 (.ptr (some (i1, o1 + 0))) = hCell h (.ptr (some (i1, o1 + 0)))) ∧ bcase (!B49) ((hCell H48 (.tup []) = hCell H48 (.tup [])) ∧ (hCell H48 (.ptr (some (i1, o1 + 0))) = hCell H48 (.ptr (some (i1, o1 + 0)))) ∧ Q (.bool false) H48) (bcase (decide ((x37 : Int) > 0)) (xStr (hCell H48 (.ptr (some (i4, o4 + 1)))) fun S50 => byteAt S50 (IntKind.wrap .i64 (x37 - 1)) fun B51 => xStr (hCell H48 (.ptr (some (i4, o4 + 1)))) fun S52 => (hCell H48 (.ptr (some (i4, o4 + 1))) = hCell H48 (.ptr (some (i4, o4 + 1)))) ∧ (hCell H48 (.ptr (some (i1, o1 + 0))) = hCell H48 (.ptr (some (i1, o1 + 0)))) ∧ byteAt S52 x37 fun B53 => bcase (decide (((((B51 : Nat) : Int)) : Int) ≥ (((B53 : Nat) : Int)))) (Q (.bool false) H48) (J11 Q R2 R7 x37 x36 i1 o1 x3 i4 o4 x9 x8 a7 n7 c7 e7 H48)) ((hCell H48 (.tup []) = hCell H48 (.tup [])) ∧ (hCell H48 (.ptr (some (i1, o1 + 0))) = hCell H48 (.ptr (some (i1, o1 + 0)))) ∧ J11 Q R2 R7 x37 x36 i1 o1 x3 i4 o4 x9 x8 a7 n7 c7 e7 H48)))) (A7x2 Q R2 x9 x8 a7 n7 c7 e7 i1 o1 h)
theorem L7den (Q : QT) (R2 : T2) (R7 : T7) (i1 o1 : Nat) (x3 : Int) (i4 o4 : Nat) (a7 : Pt) (n7 c7 : Nat) (e7 : Bool) (x8 x9 x36 x37 : Int) (h : AHeap) (ht : L7t Q R2 R7 i1 o1 x3 i4 o4 a7 n7 c7 e7 x8 x9 x36 x37 h) : Den pg fn.ntmps (C [1, 0, 1, 0, 0, 1, 1, 0, 0, 1, 1, 1, 0, 0]) [(1, .ptr (some (i1, o1))), (3, .int .i64 x3), (4, .ptr (some (i4, o4))), (7, .slice a7 n7 c7 e7), (8, .int .i64 x8), (9, .int .i64 x9), (36, .int .i64 x36), (37, .int .i64 x37)] h (K8 Q R2 R7) :=
  den_Den (kp := kp) (cast (by kernel_rfl) ht)
theorem L7ind (Q : QT) (R2 : T2) (i1 o1 : Nat) (x3 : Int) (i4 o4 : Nat) (a7 : Pt) (n7 c7 : Nat) (e7 : Bool) (x8 x9 x36 : Int) {G : Type} (J : G → Int → AHeap → Prop) (m : G → Nat)
 (hr : ∀ (g : G) (x37 : Int) (h : AHeap), J g x37 h → ∀ (R7 : T7), (∀ g' (x37 : Int) (h : AHeap), m g' < m g → J g' x37 h → R7 i1 o1 x3 i4 o4 a7 n7 c7 e7 x8 x9 x36 x37 h) → L7t Q R2 R7 i1 o1 x3 i4 o4 a7 n7 c7 e7 x8 x9 x36 x37 h)
 (g : G) (x37 : Int) (h : AHeap) (hj : J g x37 h) : L7 Q R2 i1 o1 x3 i4 o4 a7 n7 c7 e7 x8 x9 x36 x37 h := by
  refine Loop.inv2 (fun g => E7 fun i1' o1' x3' i4' o4' a7' n7' c7' e7' x8' x9' x36' x37 h => i1 = i1' ∧ o1 = o1' ∧ x3 = x3' ∧ i4 = i4' ∧ o4 = o4' ∧ a7 = a7' ∧ n7 = n7' ∧ c7 = c7' ∧ e7 = e7' ∧ x8 = x8' ∧ x9 = x9' ∧ x36 = x36' ∧ J g x37 h) (fun g => E7 fun i1' o1' x3' i4' o4' a7' n7' c7' e7' x8' x9' x36' x37 h => i1 = i1' ∧ o1 = o1' ∧ x3 = x3' ∧ i4 = i4' ∧ o4 = o4' ∧ a7 = a7' ∧ n7 = n7' ∧ c7 = c7' ∧ e7 = e7' ∧ x8 = x8' ∧ x9 = x9' ∧ x36 = x36' ∧ ∃ g', m g' < m g ∧ J g' x37 h) m ?_ ?_ g ⟨rfl, rfl, rfl, rfl, rfl, rfl, rfl, rfl, rfl, rfl, rfl, rfl, hj⟩
  · intro g env h hi
    obtain ⟨i1', o1', x3', i4', o4', a7', n7', c7', e7', x8', x9', x36', x37, rfl, rfl, rfl, rfl, rfl, rfl, rfl, rfl, rfl, rfl, rfl, rfl, rfl, hj⟩ := E7elim hi
    exact L7den Q R2 (fun i1' o1' x3' i4' o4' a7' n7' c7' e7' x8' x9' x36' x37 h => i1 = i1' ∧ o1 = o1' ∧ x3 = x3' ∧ i4 = i4' ∧ o4 = o4' ∧ a7 = a7' ∧ n7 = n7' ∧ c7 = c7' ∧ e7 = e7' ∧ x8 = x8' ∧ x9 = x9' ∧ x36 = x36' ∧ ∃ g', m g' < m g ∧ J g' x37 h) i1 o1 x3 i4 o4 a7 n7 c7 e7 x8 x9 x36 x37 h (hr g x37 h hj (fun i1' o1' x3' i4' o4' a7' n7' c7' e7' x8' x9' x36' x37 h => i1 = i1' ∧ o1 = o1' ∧ x3 = x3' ∧ i4 = i4' ∧ o4 = o4' ∧ a7 = a7' ∧ n7 = n7' ∧ c7 = c7' ∧ e7 = e7' ∧ x8 = x8' ∧ x9 = x9' ∧ x36 = x36' ∧ ∃ g', m g' < m g ∧ J g' x37 h) fun g' x37 h hlt hj => ⟨rfl, rfl, rfl, rfl, rfl, rfl, rfl, rfl, rfl, rfl, rfl, rfl, g', hlt, hj⟩)
  · intro g env h hi
    obtain ⟨i1', o1', x3', i4', o4', a7', n7', c7', e7', x8', x9', x36', x37, rfl, rfl, rfl, rfl, rfl, rfl, rfl, rfl, rfl, rfl, rfl, rfl, rfl, g', hlt, hj⟩ := E7elim hi
    exact ⟨g', hlt, rfl, rfl, rfl, rfl, rfl, rfl, rfl, rfl, rfl, rfl, rfl, rfl, hj⟩
theorem J11i (Q : QT) (R2 : T2) (R7 : T7) (x37 x36 : Int) (i1 o1 : Nat) (x3 : Int) (i4 o4 : Nat) (x9 x8 : Int) (a7 : Pt) (n7 c7 : Nat) (e7 : Bool) (h : AHeap) (ht :
 R7 i1 o1 x3 i4 o4 a7 n7 c7 e7 x8 x9 x36 (IntKind.wrap .i64 (x37 + 1)) h) : J11 Q R2 R7 x37 x36 i1 o1 x3 i4 o4 x9 x8 a7 n7 c7 e7 h :=
  den_Den (kp := kp) (cast (by kernel_rfl) ht)
theorem A7x2i (Q : QT) (R2 : T2) (x9 x8 : Int) (a7 : Pt) (n7 c7 : Nat) (e7 : Bool) (i1 o1 : Nat) (h : AHeap) (ht :
 J12 Q R2 x9 x8 a7 n7 c7 e7 i1 o1 h) : A7x2 Q R2 x9 x8 a7 n7 c7 e7 i1 o1 h :=
  At.mk (cast (by kernel_rfl) ht)
theorem J12i (Q : QT) (R2 : T2) (x9 x8 : Int) (a7 : Pt) (n7 c7 : Nat) (e7 : Bool) (i1 o1 : Nat) (h : AHeap) (ht :
 R2 i1 o1 a7 n7 c7 e7 x8 (IntKind.wrap .i64 (x9 + 1)) h) : J12 Q R2 x9 x8 a7 n7 c7 e7 i1 o1 h :=
  den_Den (kp := kp) (cast (by kernel_rfl) ht)
theorem call (a0x0 : Pt) (n0x0 c0x0 : Nat) (e0x0 : Bool) (a0x1 : Pt) (n0x1 c0x1 : Nat) (e0x1 : Bool) (h : AHeap) (Q : QT) (ht :
 letH (h ++ [.cells t_impl_World [.slice a0x0 n0x0 c0x0 e0x0, .slice a0x1 n0x1 c0x1 e0x1] false]) fun H0 => xSl (hCell H0 (.ptr (some (h.length, 0 + 0)))) fun A1 N2 C3 E4 => L2 Q h.length 0 A1 N2 C3 E4 (((N2 : Nat) : Int)) 0 H0) : SCall pg n_impl_classesOk [.agg [.slice a0x0 n0x0 c0x0 e0x0, .slice a0x1 n0x1 c0x1 e0x1]] h Q :=
  SCall.of_body kp (c := cod fn) (fn := fn) Go.Proofs.Tryz.func67 (by kernel_rfl) (by kernel_rfl) (Nat.le_of_ble_eq_true (by kernel_rfl))
    (cast (by kernel_rfl) ht)
end F_impl_classesOk
end Go.Sim

/- Printed by wip/tool: what the functions' bodies do, in the words of 'den'. -/
set_option maxRecDepth 100000
set_option linter.unusedVariables false
namespace Go.Sim
open Go Go.RowKit
/-! Function loop.example/instancesearch/laws.markNeedS -/
end Go.Sim

/- Printed by wip/tool: what the functions' bodies do, in the words of 'den'. -/
set_option maxRecDepth 100000
set_option linter.unusedVariables false
namespace Go.Sim
open Go Go.RowKit
/-! Function loop.example/instancesearch/spec.l1In -/
namespace F_spec_l1In
noncomputable abbrev fn : Func := Go.Proofs.Tryz.f107
def kp : Keeps := []
noncomputable def C (p : List Nat) : Code := (cod fn).sub p
def KR (Q : QT) : KT := retA pg fn.results.toList Q
theorem call (x0 x1 x2 : Int) (h : AHeap) (Q : QT) (ht :
 bcase (decide ((x0 : Int) ≥ x1)) (Q (.bool (decide ((x0 : Int) ≤ x2))) h) (Q (.bool false) h)) : SCall pg n_spec_l1In [.int .i64 x0, .int .i64 x1, .int .i64 x2] h Q :=
  SCall.of_body kp (c := cod fn) (fn := fn) Go.Proofs.Tryz.func107 (by kernel_rfl) (by kernel_rfl) (Nat.le_of_ble_eq_true (by kernel_rfl))
    (cast (by kernel_rfl) ht)
end F_spec_l1In
/-! Function loop.example/instancesearch/impl.isClass -/
namespace F_impl_isClass
noncomputable abbrev fn : Func := Go.Proofs.Tryz.f108
def kp : Keeps := []
noncomputable def C (p : List Nat) : Code := (cod fn).sub p
def KR (Q : QT) : KT := retA pg fn.results.toList Q
theorem call (x0 : List Nat) (h : AHeap) (Q : QT) (ht :
 bcase ((((List.length x0 : Nat) : Int) : Int) == 1) (bcase (!natLess x0 [65]) (Q (.bool (natLess x0 [84] || decide (x0 = [84]))) h) (Q (.bool false) h)) (Q (.bool false) h)) : SCall pg n_impl_isClass [.str x0] h Q :=
  SCall.of_body kp (c := cod fn) (fn := fn) Go.Proofs.Tryz.func108 (by kernel_rfl) (by kernel_rfl) (Nat.le_of_ble_eq_true (by kernel_rfl))
    (cast (by kernel_rfl) ht)
end F_impl_isClass
/-! Function loop.example/instancesearch/spec.l3Capital -/
namespace F_spec_l3Capital
noncomputable abbrev fn : Func := Go.Proofs.Tryz.f106
def kp : Keeps := []
noncomputable def C (p : List Nat) : Code := (cod fn).sub p
def KR (Q : QT) : KT := retA pg fn.results.toList Q
theorem call (x0 : List Nat) (h : AHeap) (Q : QT) (ht :
 bcase ((((List.length x0 : Nat) : Int) : Int) == 1) (byteAt x0 0 fun B0 => SCall pg n_spec_l1In [.int .i64 (IntKind.wrap .i64 (((B0 : Nat) : Int))), .int .i64 65, .int .i64 84] h fun V1 H2 =>
 xBool (some V1) fun B3 => Q (.bool B3) H2) (Q (.bool false) h)) : SCall pg n_spec_l3Capital [.str x0] h Q :=
  SCall.of_body kp (c := cod fn) (fn := fn) Go.Proofs.Tryz.func106 (by kernel_rfl) (by kernel_rfl) (Nat.le_of_ble_eq_true (by kernel_rfl))
    (cast (by kernel_rfl) ht)
end F_spec_l3Capital
end Go.Sim

/- Printed by wip/tool: what the functions' bodies do, in the words of 'den'. -/
set_option maxRecDepth 100000
set_option linter.unusedVariables false
namespace Go.Sim
open Go Go.RowKit
/-! Function loop.example/instancesearch/spec.l13Find -/
namespace F_spec_l13Find
noncomputable abbrev fn : Func := Go.Proofs.Tryz.f136
def kp : Keeps := [(3000002, [4]), (1000002, [0, 1, 5])]
noncomputable def C (p : List Nat) : Code := (cod fn).sub p
def KR (Q : QT) : KT := retA pg fn.results.toList Q
abbrev T2 := List Nat → Int → Int → AHeap → Prop
def E2 (R2 : T2) (env : Env) (h : AHeap) : Prop := eVal 0 env fun v env => xStr (some v) fun x0 => eVal 1 env fun v env => eInt .u8 v fun x1 => eVal 5 env fun v env => eInt .i64 v fun x5 => eNil env (R2 x0 x1 x5 h)
theorem E2elim {R2 : T2} {env : Env} {h : AHeap} (hi : E2 R2 env h) : ∃ x0, ∃ x1, ∃ x5, env = [(0, .str x0), (1, .int .u8 x1), (5, .int .i64 x5)] ∧ R2 x0 x1 x5 h := by
  unfold E2 at hi
  have hi0 := hi
  clear hi
  obtain ⟨_, _, rfl, hi1⟩ := eVal_elim hi0
  obtain ⟨x0, rfl, hi2⟩ := xStr_elim hi1
  obtain ⟨_, _, rfl, hi3⟩ := eVal_elim hi2
  obtain ⟨x1, rfl, hi4⟩ := eInt_elim hi3
  obtain ⟨_, _, rfl, hi5⟩ := eVal_elim hi4
  obtain ⟨x5, rfl, hi6⟩ := eInt_elim hi5
  obtain ⟨rfl, hi7⟩ := eNil_elim hi6
  have hi := hi7
  exact ⟨x0, x1, x5, rfl, hi⟩
def K0 (Q : QT) : KT := andThen (fun env' h' => (match kp.find 4000006 with | some ks => Den pg fn.ntmps (C [1, 1]) (env'.keep ks) h' (KR Q) | none => den pg fn.ntmps kp (C [1, 1]) env' h' (KR Q))) (KR Q)
def K1 (Q : QT) : KT := onExit 0 (K0 Q)
def K2 (Q : QT) : KT := left kp 2 (K1 Q)
def K3 (Q : QT) (R2 : T2) : KT := rnd ((kp.find 1000002).getD []) (E2 R2) (K2 Q)
def L2 (Q : QT) (x0 : List Nat) (x1 x5 : Int) (h : AHeap) : Prop := Loop (Den pg fn.ntmps (C [1, 0, 1, 0, 0])) ((kp.find 1000002).getD []) (K2 Q) [(0, .str x0), (1, .int .u8 x1), (5, .int .i64 x5)] h
def A2x0 (Q : QT) (h : AHeap) : Prop := At (K1 Q) (.exit 0) [(4, .undef)] h
def L2t (Q : QT) (R2 : T2) (x0 : List Nat) (x1 x5 : Int) (h : AHeap) : Prop :=
 bcase (decide ((x5 : Int) < (((List.length x0 : Nat) : Int)))) (byteAt x0 x5 fun B0 => bcase ((((B0 : Nat) : Int) : Int) == x1) (Q (.int .i64 x5) h) (R2 x0 x1 (IntKind.wrap .i64 (x5 + 1)) h)) (A2x0 Q h)
theorem L2den (Q : QT) (R2 : T2) (x0 : List Nat) (x1 x5 : Int) (h : AHeap) (ht : L2t Q R2 x0 x1 x5 h) : Den pg fn.ntmps (C [1, 0, 1, 0, 0]) [(0, .str x0), (1, .int .u8 x1), (5, .int .i64 x5)] h (K3 Q R2) :=
  den_Den (kp := kp) (cast (by kernel_rfl) ht)
theorem L2ind (Q : QT) (x0 : List Nat) (x1 : Int) {G : Type} (J : G → Int → AHeap → Prop) (m : G → Nat)
 (hr : ∀ (g : G) (x5 : Int) (h : AHeap), J g x5 h → ∀ (R2 : T2), (∀ g' (x5 : Int) (h : AHeap), m g' < m g → J g' x5 h → R2 x0 x1 x5 h) → L2t Q R2 x0 x1 x5 h)
 (g : G) (x5 : Int) (h : AHeap) (hj : J g x5 h) : L2 Q x0 x1 x5 h := by
  refine Loop.inv2 (fun g => E2 fun x0' x1' x5 h => x0 = x0' ∧ x1 = x1' ∧ J g x5 h) (fun g => E2 fun x0' x1' x5 h => x0 = x0' ∧ x1 = x1' ∧ ∃ g', m g' < m g ∧ J g' x5 h) m ?_ ?_ g ⟨rfl, rfl, hj⟩
  · intro g env h hi
    obtain ⟨x0', x1', x5, rfl, rfl, rfl, hj⟩ := E2elim hi
    exact L2den Q _ x0 x1 x5 h (hr g x5 h hj (fun x0' x1' x5 h => x0 = x0' ∧ x1 = x1' ∧ ∃ g', m g' < m g ∧ J g' x5 h) fun g' x5 h hlt hj => ⟨rfl, rfl, g', hlt, hj⟩)
  · intro g env h hi
    obtain ⟨x0', x1', x5, rfl, rfl, rfl, g', hlt, hj⟩ := E2elim hi
    exact ⟨g', hlt, rfl, rfl, hj⟩
theorem A2x0i (Q : QT) (h : AHeap) (ht :
 Q (.int .i64 (-1)) h) : A2x0 Q h :=
  At.mk (cast (by kernel_rfl) ht)
theorem call (x0 : List Nat) (x1 : Int) (h : AHeap) (Q : QT) (ht :
 L2 Q x0 x1 0 h) : SCall pg n_spec_l13Find [.str x0, .int .u8 x1] h Q :=
  SCall.of_body kp (c := cod fn) (fn := fn) Go.Proofs.Tryz.func136 (by kernel_rfl) (by kernel_rfl) (Nat.le_of_ble_eq_true (by kernel_rfl))
    (cast (by kernel_rfl) ht)
end F_spec_l13Find
/-! Function loop.example/instancesearch/spec.l1Arity -/
namespace F_spec_l1Arity
noncomputable abbrev fn : Func := Go.Proofs.Tryz.f162
def kp : Keeps := [(4000008, [])]
noncomputable def C (p : List Nat) : Code := (cod fn).sub p
def KR (Q : QT) : KT := retA pg fn.results.toList Q
def J8 (Q : QT) (h : AHeap) : Prop := Den pg fn.ntmps (C [1, 1]) [] h (KR Q)
theorem J8i (Q : QT) (h : AHeap) (ht :
 Q (.int .i64 0) h) : J8 Q h :=
  den_Den (kp := kp) (cast (by kernel_rfl) ht)
theorem call (x0 : Int) (h : AHeap) (Q : QT) (ht :
 SCall pg n_spec_l13Find [.str ([105, 98, 117, 108, 109, 112, 120, 121, 122, 88, 89, 90]), .int .u8 x0] h fun V0 H1 =>
 xInt .i64 (some V0) fun X2 => bcase (decide ((X2 : Int) < 0)) (Q (.int .i64 (-1)) H1) (bcase ((X2 : Int) == 3) (Q (.int .i64 1) H1) (bcase ((X2 : Int) == 4) (Q (.int .i64 1) H1) (bcase ((X2 : Int) == 5) (Q (.int .i64 2) H1) (J8 Q H1))))) : SCall pg n_spec_l1Arity [.int .u8 x0] h Q :=
  SCall.of_body kp (c := cod fn) (fn := fn) Go.Proofs.Tryz.func162 (by kernel_rfl) (by kernel_rfl) (Nat.le_of_ble_eq_true (by kernel_rfl))
    (cast (by kernel_rfl) ht)
end F_spec_l1Arity
/-! Function (*loop.example/instancesearch/spec.l1Reader).next -/
namespace F_spec_l1Reader_next
noncomputable abbrev fn : Func := Go.Proofs.Tryz.f161
def kp : Keeps := [(2000001, [12, 0]), (2000005, [2])]
noncomputable def C (p : List Nat) : Code := (cod fn).sub p
def KR (Q : QT) : KT := retA pg fn.results.toList Q
theorem call (a0 : Pt) (h : AHeap) (Q : QT) (ht :
 xSome a0 fun I0 O1 => xSome a0 fun I2 O3 => xInt .i64 (hCell h (.ptr (some (I0, O1 + 1)))) fun X4 => xStr (hCell h (.ptr (some (I2, O3 + 0)))) fun S5 => (hCell h (.ptr (some (I0, O1 + 1))) = hCell h (.ptr (some (I0, O1 + 1)))) ∧ bcase (decide ((X4 : Int) ≥ (((List.length S5 : Nat) : Int)))) (xSome a0 fun I6 O7 => xHeap (hStore h (.ptr (some (I6, O7 + 2))) [.bool true]) fun H8 => Q (.int .u8 0) H8) (xSome a0 fun I9 O10 => xInt .i64 (hCell h (.ptr (some (I9, O10 + 1)))) fun X11 => xSome a0 fun I12 O13 => xHeap (hStore h (.ptr (some (I12, O13 + 1))) [.int .i64 (IntKind.wrap .i64 (X11 + 1))]) fun H14 => xSome a0 fun I15 O16 => xSome a0 fun I17 O18 => xStr (hCell H14 (.ptr (some (I15, O16 + 0)))) fun S19 => xInt .i64 (hCell H14 (.ptr (some (I17, O18 + 1)))) fun X20 => (hCell H14 (.ptr (some (I15, O16 + 0))) = hCell H14 (.ptr (some (I15, O16 + 0)))) ∧ byteAt S19 (IntKind.wrap .i64 (X20 - 1)) fun B21 => Q (.int .u8 (((B21 : Nat) : Int))) H14)) : SCall pg n_spec_l1Reader_next [.ptr a0] h Q :=
  SCall.of_body kp (c := cod fn) (fn := fn) Go.Proofs.Tryz.func161 (by kernel_rfl) (by kernel_rfl) (Nat.le_of_ble_eq_true (by kernel_rfl))
    (cast (by kernel_rfl) ht)
end F_spec_l1Reader_next
/-! Function (*loop.example/instancesearch/spec.l1Reader).node -/
namespace F_spec_l1Reader_node
noncomputable abbrev fn : Func := Go.Proofs.Tryz.f141
def kp : Keeps := [(4000004, [0, 2, 3, 4]), (3000005, [4, 0, 3, 2]), (1000005, [0, 2, 3, 4, 5]), (4000007, [0, 5, 3, 4, 2]), (2000007, [0, 3, 5, 4, 2]), (4000008, [0, 3, 5, 4, 2]), (2000009, [5, 4, 0, 3, 2]), (4000006, [5, 4, 0, 3, 2]), (4000012, [3, 2])]
noncomputable def C (p : List Nat) : Code := (cod fn).sub p
def KR (Q : QT) : KT := retA pg fn.results.toList Q
abbrev T5 := Pt → Nat → Nat → Nat → Nat → Int → Int → AHeap → Prop
def E5 (R5 : T5) (env : Env) (h : AHeap) : Prop := eVal 0 env fun v env => xPtr (some v) fun a0 => eVal 2 env fun v env => xPtr (some v) fun a => xSome a fun i2 o2 => eVal 3 env fun v env => xPtr (some v) fun a => xSome a fun i3 o3 => eVal 4 env fun v env => eInt .i64 v fun x4 => eVal 5 env fun v env => eInt .i64 v fun x5 => eNil env (R5 a0 i2 o2 i3 o3 x4 x5 h)
theorem E5elim {R5 : T5} {env : Env} {h : AHeap} (hi : E5 R5 env h) : ∃ a0, ∃ i2, ∃ o2, ∃ i3, ∃ o3, ∃ x4, ∃ x5, env = [(0, .ptr a0), (2, .ptr (some (i2, o2))), (3, .ptr (some (i3, o3))), (4, .int .i64 x4), (5, .int .i64 x5)] ∧ R5 a0 i2 o2 i3 o3 x4 x5 h := by
  unfold E5 at hi
  have hi0 := hi
  clear hi
  obtain ⟨_, _, rfl, hi1⟩ := eVal_elim hi0
  obtain ⟨a0, rfl, hi2⟩ := xPtr_elim hi1
  obtain ⟨_, _, rfl, hi3⟩ := eVal_elim hi2
  obtain ⟨a, rfl, hi4⟩ := xPtr_elim hi3
  obtain ⟨i2, o2, rfl, hi5⟩ := xSome_elim hi4
  obtain ⟨_, _, rfl, hi6⟩ := eVal_elim hi5
  obtain ⟨a, rfl, hi7⟩ := xPtr_elim hi6
  obtain ⟨i3, o3, rfl, hi8⟩ := xSome_elim hi7
  obtain ⟨_, _, rfl, hi9⟩ := eVal_elim hi8
  obtain ⟨x4, rfl, hi10⟩ := eInt_elim hi9
  obtain ⟨_, _, rfl, hi11⟩ := eVal_elim hi10
  obtain ⟨x5, rfl, hi12⟩ := eInt_elim hi11
  obtain ⟨rfl, hi13⟩ := eNil_elim hi12
  have hi := hi13
  exact ⟨a0, i2, o2, i3, o3, x4, x5, rfl, hi⟩
def K0 (Q : QT) : KT := andThen (fun env' h' => (match kp.find 4000010 with | some ks => Den pg fn.ntmps (C [1, 1, 1, 1, 1]) (env'.keep ks) h' (KR Q) | none => den pg fn.ntmps kp (C [1, 1, 1, 1, 1]) env' h' (KR Q))) (KR Q)
def K1 (Q : QT) : KT := onExit 0 (K0 Q)
def K2 (Q : QT) : KT := left kp 5 (K1 Q)
def K3 (Q : QT) (R5 : T5) : KT := rnd ((kp.find 1000005).getD []) (E5 R5) (K2 Q)
def K4 (Q : QT) (R5 : T5) : KT := andThen (fun env' h' => (match kp.find 4000006 with | some ks => Den pg fn.ntmps (C [1, 1, 1, 1, 0, 1, 0, 0, 1, 1]) (env'.keep ks) h' (K3 Q R5) | none => den pg fn.ntmps kp (C [1, 1, 1, 1, 0, 1, 0, 0, 1, 1]) env' h' (K3 Q R5))) (K3 Q R5)
def K5 (Q : QT) (R5 : T5) : KT := onExit 1 (K4 Q R5)
def J4 (Q : QT) (a0 : Pt) (i2 o2 i3 o3 : Nat) (x4 : Int) (h : AHeap) : Prop := Den pg fn.ntmps (C [1, 1, 1, 1]) [(0, .ptr a0), (2, .ptr (some (i2, o2))), (3, .ptr (some (i3, o3))), (4, .int .i64 x4)] h (KR Q)
def L5 (Q : QT) (a0 : Pt) (i2 o2 i3 o3 : Nat) (x4 x5 : Int) (h : AHeap) : Prop := Loop (Den pg fn.ntmps (C [1, 1, 1, 1, 0, 1, 0, 0])) ((kp.find 1000005).getD []) (K2 Q) [(0, .ptr a0), (2, .ptr (some (i2, o2))), (3, .ptr (some (i3, o3))), (4, .int .i64 x4), (5, .int .i64 x5)] h
def J7 (Q : QT) (R5 : T5) (a0 : Pt) (x5 : Int) (i3 o3 : Nat) (x4 : Int) (i2 o2 : Nat) (h : AHeap) : Prop := Den pg fn.ntmps (C [1, 1, 1, 1, 0, 1, 0, 0, 1]) [(0, .ptr a0), (5, .int .i64 x5), (3, .ptr (some (i3, o3))), (4, .int .i64 x4), (2, .ptr (some (i2, o2)))] h (K3 Q R5)
def A5x0 (Q : QT) (x4 : Int) (a0 : Pt) (i3 o3 i2 o2 : Nat) (h : AHeap) : Prop := At (K1 Q) (.exit 0) [(4, .int .i64 x4), (0, .ptr a0), (3, .ptr (some (i3, o3))), (2, .ptr (some (i2, o2)))] h
def J8 (Q : QT) (R5 : T5) (a0 : Pt) (i3 o3 : Nat) (x5 x4 : Int) (i2 o2 : Nat) (h : AHeap) : Prop := Den pg fn.ntmps (C [1, 1, 1, 1, 0, 1, 0, 0, 1, 0, 0, 1]) [(0, .ptr a0), (3, .ptr (some (i3, o3))), (5, .int .i64 x5), (4, .int .i64 x4), (2, .ptr (some (i2, o2)))] h (K5 Q R5)
def J12 (Q : QT) (i3 o3 i2 o2 : Nat) (h : AHeap) : Prop := Den pg fn.ntmps (C [1, 1, 1, 1, 1, 1]) [(3, .ptr (some (i3, o3))), (2, .ptr (some (i2, o2)))] h (KR Q)
def J6 (Q : QT) (R5 : T5) (x5 x4 : Int) (a0 : Pt) (i3 o3 i2 o2 : Nat) (h : AHeap) : Prop := Den pg fn.ntmps (C [1, 1, 1, 1, 0, 1, 0, 0, 1, 1]) [(5, .int .i64 x5), (4, .int .i64 x4), (0, .ptr a0), (3, .ptr (some (i3, o3))), (2, .ptr (some (i2, o2)))] h (K3 Q R5)
theorem J4i (Q : QT) (a0 : Pt) (i2 o2 i3 o3 : Nat) (x4 : Int) (h : AHeap) (ht :
 L5 Q a0 i2 o2 i3 o3 x4 0 h) : J4 Q a0 i2 o2 i3 o3 x4 h :=
  den_Den (kp := kp) (cast (by kernel_rfl) ht)
def L5t (Q : QT) (R5 : T5) (a0 : Pt) (i2 o2 i3 o3 : Nat) (x4 x5 : Int) (h : AHeap) : Prop :=
 bcase (decide ((x5 : Int) < x4)) (xSome a0 fun I20 O21 => xBool (hCell h (.ptr (some (I20, O21 + 2)))) fun B22 => bcase (!B22) (J7 Q R5 a0 x5 i3 o3 x4 i2 o2 h) (A5x0 Q x4 a0 i3 o3 i2 o2 h)) (A5x0 Q x4 a0 i3 o3 i2 o2 h)
theorem L5den (Q : QT) (R5 : T5) (a0 : Pt) (i2 o2 i3 o3 : Nat) (x4 x5 : Int) (h : AHeap) (ht : L5t Q R5 a0 i2 o2 i3 o3 x4 x5 h) : Den pg fn.ntmps (C [1, 1, 1, 1, 0, 1, 0, 0]) [(0, .ptr a0), (2, .ptr (some (i2, o2))), (3, .ptr (some (i3, o3))), (4, .int .i64 x4), (5, .int .i64 x5)] h (K3 Q R5) :=
  den_Den (kp := kp) (cast (by kernel_rfl) ht)
theorem L5ind (Q : QT) (a0 : Pt) (i2 o2 i3 o3 : Nat) (x4 : Int) {G : Type} (J : G → Int → AHeap → Prop) (m : G → Nat)
 (hr : ∀ (g : G) (x5 : Int) (h : AHeap), J g x5 h → ∀ (R5 : T5), (∀ g' (x5 : Int) (h : AHeap), m g' < m g → J g' x5 h → R5 a0 i2 o2 i3 o3 x4 x5 h) → L5t Q R5 a0 i2 o2 i3 o3 x4 x5 h)
 (g : G) (x5 : Int) (h : AHeap) (hj : J g x5 h) : L5 Q a0 i2 o2 i3 o3 x4 x5 h := by
  refine Loop.inv2 (fun g => E5 fun a0' i2' o2' i3' o3' x4' x5 h => a0 = a0' ∧ i2 = i2' ∧ o2 = o2' ∧ i3 = i3' ∧ o3 = o3' ∧ x4 = x4' ∧ J g x5 h) (fun g => E5 fun a0' i2' o2' i3' o3' x4' x5 h => a0 = a0' ∧ i2 = i2' ∧ o2 = o2' ∧ i3 = i3' ∧ o3 = o3' ∧ x4 = x4' ∧ ∃ g', m g' < m g ∧ J g' x5 h) m ?_ ?_ g ⟨rfl, rfl, rfl, rfl, rfl, rfl, hj⟩
  · intro g env h hi
    obtain ⟨a0', i2', o2', i3', o3', x4', x5, rfl, rfl, rfl, rfl, rfl, rfl, rfl, hj⟩ := E5elim hi
    exact L5den Q _ a0 i2 o2 i3 o3 x4 x5 h (hr g x5 h hj (fun a0' i2' o2' i3' o3' x4' x5 h => a0 = a0' ∧ i2 = i2' ∧ o2 = o2' ∧ i3 = i3' ∧ o3 = o3' ∧ x4 = x4' ∧ ∃ g', m g' < m g ∧ J g' x5 h) fun g' x5 h hlt hj => ⟨rfl, rfl, rfl, rfl, rfl, rfl, g', hlt, hj⟩)
  · intro g env h hi
    obtain ⟨a0', i2', o2', i3', o3', x4', x5, rfl, rfl, rfl, rfl, rfl, rfl, rfl, g', hlt, hj⟩ := E5elim hi
    exact ⟨g', hlt, rfl, rfl, rfl, rfl, rfl, rfl, hj⟩
theorem J7i (Q : QT) (R5 : T5) (a0 : Pt) (x5 : Int) (i3 o3 : Nat) (x4 : Int) (i2 o2 : Nat) (h : AHeap) (ht :
 byteAt ([40, 44]) x5 fun B23 => SCall pg n_spec_l1Reader_next [.ptr a0] h fun V24 H25 =>
 xInt .u8 (some V24) fun X26 => bcase (!((X26 : Int) == (((B23 : Nat) : Int)))) (xSome a0 fun I27 O28 => xHeap (hStore H25 (.ptr (some (I27, O28 + 2))) [.bool true]) fun H29 => J8 Q R5 a0 i3 o3 x5 x4 i2 o2 H29) (xSome a0 fun I30 O31 => xBool (hCell H25 (.ptr (some (I30, O31 + 2)))) fun B32 => xSome a0 fun I33 O34 => xHeap (hStore H25 (.ptr (some (I33, O34 + 2))) [.bool B32]) fun H35 => J8 Q R5 a0 i3 o3 x5 x4 i2 o2 H35)) : J7 Q R5 a0 x5 i3 o3 x4 i2 o2 h :=
  den_Den (kp := kp) (cast (by kernel_rfl) ht)
theorem A5x0i (Q : QT) (x4 : Int) (a0 : Pt) (i3 o3 i2 o2 : Nat) (h : AHeap) (ht :
 bcase (decide ((x4 : Int) > 0)) (xSome a0 fun I36 O37 => xBool (hCell h (.ptr (some (I36, O37 + 2)))) fun B38 => bcase (!B38) (SCall pg n_spec_l1Reader_next [.ptr a0] h fun V39 H40 =>
 xInt .u8 (some V39) fun X41 => bcase (!((X41 : Int) == 41)) (xSome a0 fun I42 O43 => xHeap (hStore H40 (.ptr (some (I42, O43 + 2))) [.bool true]) fun H44 => J12 Q i3 o3 i2 o2 H44) (xSome a0 fun I45 O46 => xBool (hCell H40 (.ptr (some (I45, O46 + 2)))) fun B47 => xSome a0 fun I48 O49 => xHeap (hStore H40 (.ptr (some (I48, O49 + 2))) [.bool B47]) fun H50 => J12 Q i3 o3 i2 o2 H50)) (J12 Q i3 o3 i2 o2 h)) (J12 Q i3 o3 i2 o2 h)) : A5x0 Q x4 a0 i3 o3 i2 o2 h :=
  At.mk (cast (by kernel_rfl) ht)
theorem J8i (Q : QT) (R5 : T5) (a0 : Pt) (i3 o3 : Nat) (x5 x4 : Int) (i2 o2 : Nat) (h : AHeap) (ht :
 xSome a0 fun I51 O52 => xBool (hCell h (.ptr (some (I51, O52 + 2)))) fun B53 => bcase (!B53) (xSl (hCell h (.ptr (some (i3, o3 + 1)))) fun A54 N55 C56 E57 => SCall pg n_spec_l1Reader_node [.ptr a0] h fun V58 H59 =>
 xAgg V58 fun K60 => xCons K60 fun C61 Z62 => xInt .u8 (some C61) fun X63 => xCons Z62 fun C64 Z65 => xSl (some C64) fun A66 N67 C68 E69 => xNil Z65 ((hCell H59 (.ptr (some (i3, o3 + 1))) = hCell h (.ptr (some (i3, o3 + 1)))) ∧ letH (H59 ++ [.cells t_spec_l1Node [.int .u8 X63, .slice A66 N67 C68 E69] false]) fun H70 => (hCell H70 (.ptr (some (i3, o3 + 1))) = hCell H59 (.ptr (some (i3, o3 + 1)))) ∧ appendA pg t_L_spec_l1Node H70 (.slice A54 N55 C56 E57) (.slice (some (H59.length, 0)) 1 1 true) fun V71 H72 => xSl (some V71) fun A73 N74 C75 E76 => xHeap (hStore H72 (.ptr (some (i3, o3 + 1))) [.slice A73 N74 C75 E76]) fun H77 => J6 Q R5 x5 x4 a0 i3 o3 i2 o2 H77)) (J6 Q R5 x5 x4 a0 i3 o3 i2 o2 h)) : J8 Q R5 a0 i3 o3 x5 x4 i2 o2 h :=
  den_Den (kp := kp) (cast (by kernel_rfl) ht)
theorem J12i (Q : QT) (i3 o3 i2 o2 : Nat) (h : AHeap) (ht :
 xRow (hRow h (.ptr (some (i3, o3))) 2) fun K78 => xCons K78 fun C79 Z80 => xInt .u8 (some C79) fun X81 => xCons Z80 fun C82 Z83 => xSl (some C82) fun A84 N85 C86 E87 => xNil Z83 (xHeap (hStore h (.ptr (some (i2, o2))) [.int .u8 X81, .slice A84 N85 C86 E87]) fun H88 => xRow (hRow H88 (.ptr (some (i2, o2))) 2) fun K89 => xCons K89 fun C90 Z91 => xInt .u8 (some C90) fun X92 => xCons Z91 fun C93 Z94 => xSl (some C93) fun A95 N96 C97 E98 => xNil Z94 (Q (.agg [.int .u8 X92, .slice A95 N96 C97 E98]) H88))) : J12 Q i3 o3 i2 o2 h :=
  den_Den (kp := kp) (cast (by kernel_rfl) ht)
theorem J6i (Q : QT) (R5 : T5) (x5 x4 : Int) (a0 : Pt) (i3 o3 i2 o2 : Nat) (h : AHeap) (ht :
 R5 a0 i2 o2 i3 o3 x4 (IntKind.wrap .i64 (x5 + 1)) h) : J6 Q R5 x5 x4 a0 i3 o3 i2 o2 h :=
  den_Den (kp := kp) (cast (by kernel_rfl) ht)
theorem call (a0 : Pt) (h : AHeap) (Q : QT) (ht :
 letH (h ++ [.cells t_spec_l1Node [.int .u8 0, .slice none 0 0 true] false]) fun H0 => SCall pg n_spec_l1Reader_next [.ptr a0] H0 fun V1 H2 =>
 xInt .u8 (some V1) fun X3 => letH (H2 ++ [.cells t_spec_l1Node [] false]) fun H4 => letH (H4 ++ [.cells t_spec_l1Node [.int .u8 0, .slice none 0 0 true] false]) fun H5 => xHeap (hStore H5 (.ptr (some (H4.length, 0))) [.int .u8 X3, .slice (some (H2.length, 0)) 0 0 true]) fun H6 => xInt .u8 (hCell H6 (.ptr (some (H4.length, 0 + 0)))) fun X7 => SCall pg n_spec_l1Arity [.int .u8 X7] H6 fun V8 H9 =>
 xInt .i64 (some V8) fun X10 => xSome a0 fun I11 O12 => xBool (hCell H9 (.ptr (some (I11, O12 + 2)))) fun B13 => bcase B13 (xSome a0 fun I14 O15 => xHeap (hStore H9 (.ptr (some (I14, O15 + 2))) [.bool true]) fun H16 => J4 Q a0 h.length 0 H4.length 0 X10 H16) (xSome a0 fun I17 O18 => xHeap (hStore H9 (.ptr (some (I17, O18 + 2))) [.bool (decide ((X10 : Int) < 0))]) fun H19 => J4 Q a0 h.length 0 H4.length 0 X10 H19)) : SCall pg n_spec_l1Reader_node [.ptr a0] h Q :=
  SCall.of_body kp (c := cod fn) (fn := fn) Go.Proofs.Tryz.func141 (by kernel_rfl) (by kernel_rfl) (Nat.le_of_ble_eq_true (by kernel_rfl))
    (cast (by kernel_rfl) ht)
end F_spec_l1Reader_node
/-! Function loop.example/instancesearch/spec.l1Read -/
namespace F_spec_l1Read
noncomputable abbrev fn : Func := Go.Proofs.Tryz.f117
def kp : Keeps := [(4000005, [5, 2])]
noncomputable def C (p : List Nat) : Code := (cod fn).sub p
def KR (Q : QT) : KT := retA pg fn.results.toList Q
def J5 (Q : QT) (i5 o5 i2 o2 : Nat) (h : AHeap) : Prop := Den pg fn.ntmps (C [1, 1, 1, 1]) [(5, .ptr (some (i5, o5))), (2, .ptr (some (i2, o2)))] h (KR Q)
theorem J5i (Q : QT) (i5 o5 i2 o2 : Nat) (h : AHeap) (ht :
 xRow (hRow h (.ptr (some (i5, o5))) 2) fun K51 => xCons K51 fun C52 Z53 => xInt .u8 (some C52) fun X54 => xCons Z53 fun C55 Z56 => xSl (some C55) fun A57 N58 C59 E60 => xNil Z56 (xHeap (hStore h (.ptr (some (i2, o2))) [.int .u8 X54, .slice A57 N58 C59 E60]) fun H61 => xRow (hRow H61 (.ptr (some (i2, o2))) 2) fun K62 => xCons K62 fun C63 Z64 => xInt .u8 (some C63) fun X65 => xCons Z64 fun C66 Z67 => xSl (some C66) fun A68 N69 C70 E71 => xNil Z67 (Q (.tup [.agg [.int .u8 X65, .slice A68 N69 C70 E71], .bool true]) H61))) : J5 Q i5 o5 i2 o2 h :=
  den_Den (kp := kp) (cast (by kernel_rfl) ht)
theorem call (x0 : List Nat) (h : AHeap) (Q : QT) (ht :
 letH (h ++ [.cells t_spec_l1Node [.int .u8 0, .slice none 0 0 true] false]) fun H0 => letH (H0 ++ [.cells t_spec_l1Reader [.str x0, .int .i64 0, .bool false] false]) fun H1 => SCall pg n_spec_l1Reader_node [.ptr (some (H0.length, 0))] H1 fun V2 H3 =>
 xAgg V2 fun K4 => xCons K4 fun C5 Z6 => xInt .u8 (some C5) fun X7 => xCons Z6 fun C8 Z9 => xSl (some C8) fun A10 N11 C12 E13 => xNil Z9 (letH (H3 ++ [.cells t_spec_l1Node [.int .u8 0, .slice none 0 0 true] false]) fun H14 => xHeap (hStore H14 (.ptr (some (H3.length, 0))) [.int .u8 X7, .slice A10 N11 C12 E13]) fun H15 => xBool (hCell H15 (.ptr (some (H0.length, 0 + 2)))) fun B16 => bcase B16 (xHeap (hStore H15 (.ptr (some (h.length, 0))) [.int .u8 0, .slice none 0 0 true]) fun H17 => xRow (hRow H17 (.ptr (some (h.length, 0))) 2) fun K18 => xCons K18 fun C19 Z20 => xInt .u8 (some C19) fun X21 => xCons Z20 fun C22 Z23 => xSl (some C22) fun A24 N25 C26 E27 => xNil Z23 (Q (.tup [.agg [.int .u8 X21, .slice A24 N25 C26 E27], .bool false]) H17)) (xInt .i64 (hCell H15 (.ptr (some (H0.length, 0 + 1)))) fun X28 => bcase (!((X28 : Int) == (((List.length x0 : Nat) : Int)))) (xHeap (hStore H15 (.ptr (some (h.length, 0))) [.int .u8 0, .slice none 0 0 true]) fun H29 => xRow (hRow H29 (.ptr (some (h.length, 0))) 2) fun K30 => xCons K30 fun C31 Z32 => xInt .u8 (some C31) fun X33 => xCons Z32 fun C34 Z35 => xSl (some C34) fun A36 N37 C38 E39 => xNil Z35 (Q (.tup [.agg [.int .u8 X33, .slice A36 N37 C38 E39], .bool false]) H29)) (bcase (decide (((((List.length x0 : Nat) : Int)) : Int) > 60)) (xHeap (hStore H15 (.ptr (some (h.length, 0))) [.int .u8 0, .slice none 0 0 true]) fun H40 => xRow (hRow H40 (.ptr (some (h.length, 0))) 2) fun K41 => xCons K41 fun C42 Z43 => xInt .u8 (some C42) fun X44 => xCons Z43 fun C45 Z46 => xSl (some C45) fun A47 N48 C49 E50 => xNil Z46 (Q (.tup [.agg [.int .u8 X44, .slice A47 N48 C49 E50], .bool false]) H40)) (J5 Q H3.length 0 h.length 0 H15))))) : SCall pg n_spec_l1Read [.str x0] h Q :=
  SCall.of_body kp (c := cod fn) (fn := fn) Go.Proofs.Tryz.func117 (by kernel_rfl) (by kernel_rfl) (Nat.le_of_ble_eq_true (by kernel_rfl))
    (cast (by kernel_rfl) ht)
end F_spec_l1Read
/-! Function loop.example/instancesearch/spec.TypeValid -/
namespace F_spec_TypeValid
noncomputable abbrev fn : Func := Go.Proofs.Tryz.f82
def kp : Keeps := []
noncomputable def C (p : List Nat) : Code := (cod fn).sub p
def KR (Q : QT) : KT := retA pg fn.results.toList Q
theorem call (x0 : List Nat) (h : AHeap) (Q : QT) (ht :
 SCall pg n_spec_l1Read [.str x0] h fun V0 H1 =>
 xTup V0 fun K2 => xCons K2 fun C3 Z4 => xAgg C3 fun K5 => xCons K5 fun C6 Z7 => xInt .u8 (some C6) fun X8 => xCons Z7 fun C9 Z10 => xSl (some C9) fun A11 N12 C13 E14 => xNil Z10 (xCons Z4 fun C15 Z16 => xBool (some C15) fun B17 => xNil Z16 (letH (H1 ++ [.cells t_spec_l1Node [.int .u8 0, .slice none 0 0 true] false]) fun H18 => xHeap (hStore H18 (.ptr (some (H1.length, 0))) [.int .u8 X8, .slice A11 N12 C13 E14]) fun H19 => Q (.bool B17) H19))) : SCall pg n_spec_TypeValid [.str x0] h Q :=
  SCall.of_body kp (c := cod fn) (fn := fn) Go.Proofs.Tryz.func82 (by kernel_rfl) (by kernel_rfl) (Nat.le_of_ble_eq_true (by kernel_rfl))
    (cast (by kernel_rfl) ht)
end F_spec_TypeValid
end Go.Sim
