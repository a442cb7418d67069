/- Printed by wip/tool: what the functions' bodies do, in the words of 'den'. -/
import Derived.Test.YtgiiilhdmfddcaaDoorNm
set_option linter.unusedSimpArgs false
set_option linter.all false
set_option maxRecDepth 100000
set_option linter.unusedVariables false
namespace Go.Sim
open Go Go.RowKit
/-! Function loop.example/instancesearch/spec.l13Dec -/
namespace F_spec_l13Dec
noncomputable abbrev fn : Func := Go.Proofs.Tryd.f27
def kp : Keeps := [(3000006, [0, 3]), (1000006, [0, 3])]
noncomputable def C (p : List Nat) : Code := (cod fn).sub p
def KR (Q : QT) : KT := retA pg fn.results.toList Q
abbrev T6 := Int → List Nat → AHeap → Prop
def E6 (R6 : T6) (env : Env) (h : AHeap) : Prop := eVal 0 env fun v env => eInt .i64 v fun x0 => eVal 3 env fun v env => xStr (some v) fun x3 => eNil env (R6 x0 x3 h)
theorem E6elim {R6 : T6} {env : Env} {h : AHeap} (hi : E6 R6 env h) : ∃ x0, ∃ x3, env = [(0, .int .i64 x0), (3, .str x3)] ∧ R6 x0 x3 h := by
  unfold E6 at hi
  have hi0 := hi
  clear hi
  obtain ⟨v, env, rfl, hi1⟩ := eVal_elim hi0
  obtain ⟨x0, rfl, hi2⟩ := eInt_elim hi1
  obtain ⟨v, env, rfl, hi3⟩ := eVal_elim hi2
  obtain ⟨x3, rfl, hi4⟩ := xStr_elim hi3
  obtain ⟨rfl, hi5⟩ := eNil_elim hi4
  have hi := hi5
  exact ⟨x0, x3, rfl, hi⟩
def K0 (Q : QT) : KT := andThen (fun env' h' => (match kp.find 4000009 with | some ks => Den pg fn.ntmps (C [1, 1, 1, 1, 1]) (env'.keep ks) h' (KR Q) | none => den pg fn.ntmps kp (C [1, 1, 1, 1, 1]) env' h' (KR Q))) (KR Q)
def K1 (Q : QT) : KT := onExit 0 (K0 Q)
def K2 (Q : QT) : KT := left kp 6 (K1 Q)
def K3 (Q : QT) (R6 : T6) : KT := rnd ((kp.find 1000006).getD []) (E6 R6) (K2 Q)
def L6 (Q : QT) (x0 : Int) (x3 : List Nat) (h : AHeap) : Prop := Loop (Den pg fn.ntmps (C [1, 1, 1, 1, 0, 0, 0])) ((kp.find 1000006).getD []) (K2 Q) [(0, .int .i64 x0), (3, .str x3)] h
def A6x0 (Q : QT) (x0 : Int) (x3 : List Nat) (h : AHeap) : Prop := At (K1 Q) (.exit 0) [(0, .int .i64 x0), (3, .str x3)] h
def L6t (Q : QT) (R6 : T6) (x0 : Int) (x3 : List Nat) (h : AHeap) : Prop :=
 bcase (decide ((x0 : Int) > 9)) ((10 : Int) ≠ 0 ∧ (letH (h ++ [.cells t_uint8 [.int .u8 (IntKind.wrap .u8 (IntKind.wrap .i64 (48 + (Int.tmod x0 10))))] false]) fun h_3 => xRow (rowOf h_3 (some (List.length h, 0)) 1) fun cs_4 => bytesA cs_4 fun s_5 => List.length s_5 + List.length x3 ≤ 9223372036854775807 ∧ ((10 : Int) ≠ 0 ∧ (R6 (IntKind.wrap .i64 (Int.tdiv x0 10)) (s_5 ++ x3) h_3)))) (A6x0 Q x0 x3 h)
theorem L6den (Q : QT) (R6 : T6) (x0 : Int) (x3 : List Nat) (h : AHeap) (ht : L6t Q R6 x0 x3 h) : Den pg fn.ntmps (C [1, 1, 1, 1, 0, 0, 0]) [(0, .int .i64 x0), (3, .str x3)] h (K3 Q R6) :=
  den_Den (kp := kp) (@cast _ (den pg fn.ntmps kp (C [1, 1, 1, 1, 0, 0, 0]) [(0, .int .i64 x0), (3, .str x3)] h (K3 Q R6)) (by kernel_rfl) ht)
theorem L6ind (Q : QT) {G : Type} (J : G → Int → List Nat → AHeap → Prop) (m : G → Nat)
 (hr : ∀ (g : G) (x0 : Int) (x3 : List Nat) (h : AHeap), J g x0 x3 h → ∀ (R6 : T6), (∀ g' (x0 : Int) (x3 : List Nat) (h : AHeap), m g' < m g → J g' x0 x3 h → R6 x0 x3 h) → L6t Q R6 x0 x3 h)
 (g : G) (x0 : Int) (x3 : List Nat) (h : AHeap) (hj : J g x0 x3 h) : L6 Q x0 x3 h := by
  refine Loop.inv2 (fun g => E6 fun x0 x3 h => J g x0 x3 h) (fun g => E6 fun x0 x3 h => ∃ g', m g' < m g ∧ J g' x0 x3 h) m ?_ ?_ g hj
  · intro g env h hi
    obtain ⟨x0, x3, rfl, hj⟩ := E6elim hi
    exact L6den Q (fun x0 x3 h => ∃ g', m g' < m g ∧ J g' x0 x3 h) x0 x3 h (hr g x0 x3 h hj (fun x0 x3 h => ∃ g', m g' < m g ∧ J g' x0 x3 h) fun g' x0 x3 h hlt hj => ⟨g', hlt, hj⟩)
  · intro g env h hi
    obtain ⟨x0, x3, rfl, g', hlt, hj⟩ := E6elim hi
    exact ⟨g', hlt, hj⟩
theorem A6x0i (Q : QT) (x0 : Int) (x3 : List Nat) (h : AHeap) (ht :
 letH (h ++ [.cells t_uint8 [.int .u8 (IntKind.wrap .u8 (IntKind.wrap .i64 (48 + x0)))] false]) fun h_6 => xRow (rowOf h_6 (some (List.length h, 0)) 1) fun cs_7 => bytesA cs_7 fun s_8 => List.length s_8 + List.length x3 ≤ 9223372036854775807 ∧ (Q (.str (s_8 ++ x3)) h_6)) : A6x0 Q x0 x3 h :=
  At.mk (@cast _ ((K1 Q) (.exit 0) [(0, .int .i64 x0), (3, .str x3)] h) (by kernel_rfl) ht)
theorem call (x0 : Int) (h : AHeap) (Q : QT) (ht :
 bcase (decide ((x0 : Int) < (-9223372036854775807))) (Q (.str ([45, 57, 50, 50, 51, 51, 55, 50, 48, 51, 54, 56, 53, 52, 55, 55, 53, 56, 48, 56])) h) (bcase (decide ((x0 : Int) < 0)) (SCall pg n_spec_l13Dec [.int .i64 (IntKind.wrap .i64 (0 - x0))] h fun v_0 h_1 =>
 xStr (some v_0) fun s_2 => List.length [45] + List.length s_2 ≤ 9223372036854775807 ∧ (Q (.str ([45] ++ s_2)) h_1)) (L6 Q x0 [] h))) : SCall pg n_spec_l13Dec [.int .i64 x0] h Q :=
  SCall.of_body kp (c := cod fn) (fn := fn) Go.Proofs.Tryd.func27 (by kernel_rfl) (by kernel_rfl) (Nat.le_of_ble_eq_true (by kernel_rfl))
    (@cast _ (den pg fn.ntmps kp (cod fn) (Env.args 0 [.int .i64 x0]) h (KR Q)) (by kernel_rfl) ht)
end F_spec_l13Dec
/-! Function loop.example/instancesearch/laws.toIntS -/
namespace F_laws_toIntS
noncomputable abbrev fn : Func := Go.Proofs.Tryd.f8
def kp : Keeps := [(3000003, [3]), (1000003, [0, 3, 4])]
noncomputable def C (p : List Nat) : Code := (cod fn).sub p
def KR (Q : QT) : KT := retA pg fn.results.toList Q
abbrev T3 := Pt → Nat → Nat → Bool → Pt → Nat → Nat → Bool → Int → AHeap → Prop
def E3 (R3 : T3) (env : Env) (h : AHeap) : Prop := eVal 0 env fun v env => xSl (some v) fun a0 n0 c0 e0 => eVal 3 env fun v env => xSl (some v) fun a3 n3 c3 e3 => eVal 4 env fun v env => eInt .i64 v fun x4 => eNil env (R3 a0 n0 c0 e0 a3 n3 c3 e3 x4 h)
theorem E3elim {R3 : T3} {env : Env} {h : AHeap} (hi : E3 R3 env h) : ∃ a0, ∃ n0, ∃ c0, ∃ e0, ∃ a3, ∃ n3, ∃ c3, ∃ e3, ∃ x4, env = [(0, .slice a0 n0 c0 e0), (3, .slice a3 n3 c3 e3), (4, .int .i64 x4)] ∧ R3 a0 n0 c0 e0 a3 n3 c3 e3 x4 h := by
  unfold E3 at hi
  have hi0 := hi
  clear hi
  obtain ⟨v, env, rfl, hi1⟩ := eVal_elim hi0
  obtain ⟨a0, n0, c0, e0, rfl, hi2⟩ := xSl_elim hi1
  obtain ⟨v, env, rfl, hi3⟩ := eVal_elim hi2
  obtain ⟨a3, n3, c3, e3, rfl, hi4⟩ := xSl_elim hi3
  obtain ⟨v, env, rfl, hi5⟩ := eVal_elim hi4
  obtain ⟨x4, rfl, hi6⟩ := eInt_elim hi5
  obtain ⟨rfl, hi7⟩ := eNil_elim hi6
  have hi := hi7
  exact ⟨a0, n0, c0, e0, a3, n3, c3, e3, x4, rfl, hi⟩
def K0 (Q : QT) : KT := andThen (fun env' h' => (match kp.find 4000006 with | some ks => Den pg fn.ntmps (C [1, 1, 1]) (env'.keep ks) h' (KR Q) | none => den pg fn.ntmps kp (C [1, 1, 1]) env' h' (KR Q))) (KR Q)
def K1 (Q : QT) : KT := onExit 0 (K0 Q)
def K2 (Q : QT) : KT := left kp 3 (K1 Q)
def K3 (Q : QT) (R3 : T3) : KT := rnd ((kp.find 1000003).getD []) (E3 R3) (K2 Q)
def L3 (Q : QT) (a0 : Pt) (n0 c0 : Nat) (e0 : Bool) (a3 : Pt) (n3 c3 : Nat) (e3 : Bool) (x4 : Int) (h : AHeap) : Prop := Loop (Den pg fn.ntmps (C [1, 1, 0, 1, 0, 0])) ((kp.find 1000003).getD []) (K2 Q) [(0, .slice a0 n0 c0 e0), (3, .slice a3 n3 c3 e3), (4, .int .i64 x4)] h
def A3x0 (Q : QT) (a3 : Pt) (n3 c3 : Nat) (e3 : Bool) (h : AHeap) : Prop := At (K1 Q) (.exit 0) [(3, .slice a3 n3 c3 e3)] h
def L3t (Q : QT) (R3 : T3) (a0 : Pt) (n0 c0 : Nat) (e0 : Bool) (a3 : Pt) (n3 c3 : Nat) (e3 : Bool) (x4 : Int) (h : AHeap) : Prop :=
 bcase (decide ((x4 : Int) < (((n0 : Nat) : Int)))) ((0 ≤ (x4 : Int) ∧ (x4 : Int) < (n0 : Nat)) ∧ (xSome a0 fun i_1 o_2 => xInt .i64 (hCell h (.ptr (some (i_1, o_2 + (Int.toNat x4) * 1)))) fun x_3 => (0 ≤ (x4 : Int) ∧ (x4 : Int) < (n3 : Nat)) ∧ (xSome a3 fun i_4 o_5 => xHeap (hStore h (.ptr (some (i_4, o_5 + (Int.toNat x4) * 1))) [.int .i64 x_3]) fun h_6 => R3 a0 n0 c0 e0 a3 n3 c3 e3 (IntKind.wrap .i64 (x4 + 1)) h_6))) (A3x0 Q a3 n3 c3 e3 h)
theorem L3den (Q : QT) (R3 : T3) (a0 : Pt) (n0 c0 : Nat) (e0 : Bool) (a3 : Pt) (n3 c3 : Nat) (e3 : Bool) (x4 : Int) (h : AHeap) (ht : L3t Q R3 a0 n0 c0 e0 a3 n3 c3 e3 x4 h) : Den pg fn.ntmps (C [1, 1, 0, 1, 0, 0]) [(0, .slice a0 n0 c0 e0), (3, .slice a3 n3 c3 e3), (4, .int .i64 x4)] h (K3 Q R3) :=
  den_Den (kp := kp) (@cast _ (den pg fn.ntmps kp (C [1, 1, 0, 1, 0, 0]) [(0, .slice a0 n0 c0 e0), (3, .slice a3 n3 c3 e3), (4, .int .i64 x4)] h (K3 Q R3)) (by kernel_rfl) ht)
theorem L3ind (Q : QT) (a0 : Pt) (n0 c0 : Nat) (e0 : Bool) (a3 : Pt) (n3 c3 : Nat) (e3 : Bool) {G : Type} (J : G → Int → AHeap → Prop) (m : G → Nat)
 (hr : ∀ (g : G) (x4 : Int) (h : AHeap), J g x4 h → ∀ (R3 : T3), (∀ g' (x4 : Int) (h : AHeap), m g' < m g → J g' x4 h → R3 a0 n0 c0 e0 a3 n3 c3 e3 x4 h) → L3t Q R3 a0 n0 c0 e0 a3 n3 c3 e3 x4 h)
 (g : G) (x4 : Int) (h : AHeap) (hj : J g x4 h) : L3 Q a0 n0 c0 e0 a3 n3 c3 e3 x4 h := by
  refine Loop.inv2 (fun g => E3 fun a0' n0' c0' e0' a3' n3' c3' e3' x4 h => a0 = a0' ∧ n0 = n0' ∧ c0 = c0' ∧ e0 = e0' ∧ a3 = a3' ∧ n3 = n3' ∧ c3 = c3' ∧ e3 = e3' ∧ J g x4 h) (fun g => E3 fun a0' n0' c0' e0' a3' n3' c3' e3' x4 h => a0 = a0' ∧ n0 = n0' ∧ c0 = c0' ∧ e0 = e0' ∧ a3 = a3' ∧ n3 = n3' ∧ c3 = c3' ∧ e3 = e3' ∧ ∃ g', m g' < m g ∧ J g' x4 h) m ?_ ?_ g ⟨rfl, rfl, rfl, rfl, rfl, rfl, rfl, rfl, hj⟩
  · intro g env h hi
    obtain ⟨a0', n0', c0', e0', a3', n3', c3', e3', x4, rfl, rfl, rfl, rfl, rfl, rfl, rfl, rfl, rfl, hj⟩ := E3elim hi
    exact L3den Q (fun a0' n0' c0' e0' a3' n3' c3' e3' x4 h => a0 = a0' ∧ n0 = n0' ∧ c0 = c0' ∧ e0 = e0' ∧ a3 = a3' ∧ n3 = n3' ∧ c3 = c3' ∧ e3 = e3' ∧ ∃ g', m g' < m g ∧ J g' x4 h) a0 n0 c0 e0 a3 n3 c3 e3 x4 h (hr g x4 h hj (fun a0' n0' c0' e0' a3' n3' c3' e3' x4 h => a0 = a0' ∧ n0 = n0' ∧ c0 = c0' ∧ e0 = e0' ∧ a3 = a3' ∧ n3 = n3' ∧ c3 = c3' ∧ e3 = e3' ∧ ∃ g', m g' < m g ∧ J g' x4 h) fun g' x4 h hlt hj => ⟨rfl, rfl, rfl, rfl, rfl, rfl, rfl, rfl, g', hlt, hj⟩)
  · intro g env h hi
    obtain ⟨a0', n0', c0', e0', a3', n3', c3', e3', x4, rfl, rfl, rfl, rfl, rfl, rfl, rfl, rfl, rfl, g', hlt, hj⟩ := E3elim hi
    exact ⟨g', hlt, rfl, rfl, rfl, rfl, rfl, rfl, rfl, rfl, hj⟩
theorem A3x0i (Q : QT) (a3 : Pt) (n3 c3 : Nat) (e3 : Bool) (h : AHeap) (ht :
 Q (.slice a3 n3 c3 e3) h) : A3x0 Q a3 n3 c3 e3 h :=
  At.mk (@cast _ ((K1 Q) (.exit 0) [(3, .slice a3 n3 c3 e3)] h) (by kernel_rfl) ht)
theorem call (a0 : Pt) (n0 c0 : Nat) (e0 : Bool) (h : AHeap) (Q : QT) (ht :
 IntKind.i64 = IntKind.i64 ∧ (IntKind.i64 = IntKind.i64 ∧ ((0 ≤ ((((n0 : Nat) : Int)) : Int) ∧ ((((n0 : Nat) : Int)) : Int) ≤ (((n0 : Nat) : Int)) ∧ ((((n0 : Nat) : Int)) : Int) * (((8 : Nat) : Int) + 1) ≤ 140737488355328) ∧ (letH (h ++ [.cells t_int (reps (Int.toNat ((((n0 : Nat) : Int)))) [.int .i64 0]) false]) fun h_0 => L3 Q a0 n0 c0 e0 (some (List.length h, 0)) (Int.toNat ((((n0 : Nat) : Int)))) (Int.toNat ((((n0 : Nat) : Int)))) true 0 h_0)))) : SCall pg n_laws_toIntS [.slice a0 n0 c0 e0] h Q :=
  SCall.of_body kp (c := cod fn) (fn := fn) Go.Proofs.Tryd.func8 (by kernel_rfl) (by kernel_rfl) (Nat.le_of_ble_eq_true (by kernel_rfl))
    (@cast _ (den pg fn.ntmps kp (cod fn) (Env.args 0 [.slice a0 n0 c0 e0]) h (KR Q)) (by kernel_rfl) ht)
end F_laws_toIntS
/-! Function loop.example/instancesearch/laws.eqIntS -/
namespace F_laws_eqIntS
noncomputable abbrev fn : Func := Go.Proofs.Tryd.f10
def kp : Keeps := [(3000004, [4]), (1000004, [0, 1, 5]), (2000006, [25, 5, 0, 1])]
noncomputable def C (p : List Nat) : Code := (cod fn).sub p
def KR (Q : QT) : KT := retA pg fn.results.toList Q
abbrev T4 := Pt → Nat → Nat → Bool → Pt → Nat → Nat → Bool → Int → AHeap → Prop
def E4 (R4 : T4) (env : Env) (h : AHeap) : Prop := eVal 0 env fun v env => xSl (some v) fun a0 n0 c0 e0 => eVal 1 env fun v env => xSl (some v) fun a1 n1 c1 e1 => eVal 5 env fun v env => eInt .i64 v fun x5 => eNil env (R4 a0 n0 c0 e0 a1 n1 c1 e1 x5 h)
theorem E4elim {R4 : T4} {env : Env} {h : AHeap} (hi : E4 R4 env h) : ∃ a0, ∃ n0, ∃ c0, ∃ e0, ∃ a1, ∃ n1, ∃ c1, ∃ e1, ∃ x5, env = [(0, .slice a0 n0 c0 e0), (1, .slice a1 n1 c1 e1), (5, .int .i64 x5)] ∧ R4 a0 n0 c0 e0 a1 n1 c1 e1 x5 h := by
  unfold E4 at hi
  have hi0 := hi
  clear hi
  obtain ⟨v, env, rfl, hi1⟩ := eVal_elim hi0
  obtain ⟨a0, n0, c0, e0, rfl, hi2⟩ := xSl_elim hi1
  obtain ⟨v, env, rfl, hi3⟩ := eVal_elim hi2
  obtain ⟨a1, n1, c1, e1, rfl, hi4⟩ := xSl_elim hi3
  obtain ⟨v, env, rfl, hi5⟩ := eVal_elim hi4
  obtain ⟨x5, rfl, hi6⟩ := eInt_elim hi5
  obtain ⟨rfl, hi7⟩ := eNil_elim hi6
  have hi := hi7
  exact ⟨a0, n0, c0, e0, a1, n1, c1, e1, x5, rfl, hi⟩
def K0 (Q : QT) : KT := andThen (fun env' h' => (match kp.find 4000008 with | some ks => Den pg fn.ntmps (C [1, 1, 1]) (env'.keep ks) h' (KR Q) | none => den pg fn.ntmps kp (C [1, 1, 1]) env' h' (KR Q))) (KR Q)
def K1 (Q : QT) : KT := onExit 0 (K0 Q)
def K2 (Q : QT) : KT := left kp 4 (K1 Q)
def K3 (Q : QT) (R4 : T4) : KT := rnd ((kp.find 1000004).getD []) (E4 R4) (K2 Q)
def L4 (Q : QT) (a0 : Pt) (n0 c0 : Nat) (e0 : Bool) (a1 : Pt) (n1 c1 : Nat) (e1 : Bool) (x5 : Int) (h : AHeap) : Prop := Loop (Den pg fn.ntmps (C [1, 1, 0, 1, 0, 0])) ((kp.find 1000004).getD []) (K2 Q) [(0, .slice a0 n0 c0 e0), (1, .slice a1 n1 c1 e1), (5, .int .i64 x5)] h
def A4x0 (Q : QT) (h : AHeap) : Prop := At (K1 Q) (.exit 0) [(4, .undef)] h
def L4t (Q : QT) (R4 : T4) (a0 : Pt) (n0 c0 : Nat) (e0 : Bool) (a1 : Pt) (n1 c1 : Nat) (e1 : Bool) (x5 : Int) (h : AHeap) : Prop :=
 bcase (decide ((x5 : Int) < (((n0 : Nat) : Int)))) ((0 ≤ (x5 : Int) ∧ (x5 : Int) < (n0 : Nat)) ∧ (xSome a0 fun i_0 o_1 => (0 ≤ (x5 : Int) ∧ (x5 : Int) < (n1 : Nat)) ∧ (xSome a1 fun i_2 o_3 => xInt .i64 (hCell h (.ptr (some (i_0, o_1 + (Int.toNat x5) * 1)))) fun x_4 => xInt .i64 (hCell h (.ptr (some (i_2, o_3 + (Int.toNat x5) * 1)))) fun x_5 => (hCell h (.ptr (some (i_0, o_1 + (Int.toNat x5) * 1))) = hCell h (.ptr (some (i_0, o_1 + (Int.toNat x5) * 1)))) ∧ bcase (!((x_4 : Int) == x_5)) (Q (.bool false) h) (R4 a0 n0 c0 e0 a1 n1 c1 e1 (IntKind.wrap .i64 (x5 + 1)) h)))) (A4x0 Q h)
theorem L4den (Q : QT) (R4 : T4) (a0 : Pt) (n0 c0 : Nat) (e0 : Bool) (a1 : Pt) (n1 c1 : Nat) (e1 : Bool) (x5 : Int) (h : AHeap) (ht : L4t Q R4 a0 n0 c0 e0 a1 n1 c1 e1 x5 h) : Den pg fn.ntmps (C [1, 1, 0, 1, 0, 0]) [(0, .slice a0 n0 c0 e0), (1, .slice a1 n1 c1 e1), (5, .int .i64 x5)] h (K3 Q R4) :=
  den_Den (kp := kp) (@cast _ (den pg fn.ntmps kp (C [1, 1, 0, 1, 0, 0]) [(0, .slice a0 n0 c0 e0), (1, .slice a1 n1 c1 e1), (5, .int .i64 x5)] h (K3 Q R4)) (by kernel_rfl) ht)
theorem L4ind (Q : QT) (a0 : Pt) (n0 c0 : Nat) (e0 : Bool) (a1 : Pt) (n1 c1 : Nat) (e1 : Bool) {G : Type} (J : G → Int → AHeap → Prop) (m : G → Nat)
 (hr : ∀ (g : G) (x5 : Int) (h : AHeap), J g x5 h → ∀ (R4 : T4), (∀ g' (x5 : Int) (h : AHeap), m g' < m g → J g' x5 h → R4 a0 n0 c0 e0 a1 n1 c1 e1 x5 h) → L4t Q R4 a0 n0 c0 e0 a1 n1 c1 e1 x5 h)
 (g : G) (x5 : Int) (h : AHeap) (hj : J g x5 h) : L4 Q a0 n0 c0 e0 a1 n1 c1 e1 x5 h := by
  refine Loop.inv2 (fun g => E4 fun a0' n0' c0' e0' a1' n1' c1' e1' x5 h => a0 = a0' ∧ n0 = n0' ∧ c0 = c0' ∧ e0 = e0' ∧ a1 = a1' ∧ n1 = n1' ∧ c1 = c1' ∧ e1 = e1' ∧ J g x5 h) (fun g => E4 fun a0' n0' c0' e0' a1' n1' c1' e1' x5 h => a0 = a0' ∧ n0 = n0' ∧ c0 = c0' ∧ e0 = e0' ∧ a1 = a1' ∧ n1 = n1' ∧ c1 = c1' ∧ e1 = e1' ∧ ∃ g', m g' < m g ∧ J g' x5 h) m ?_ ?_ g ⟨rfl, rfl, rfl, rfl, rfl, rfl, rfl, rfl, hj⟩
  · intro g env h hi
    obtain ⟨a0', n0', c0', e0', a1', n1', c1', e1', x5, rfl, rfl, rfl, rfl, rfl, rfl, rfl, rfl, rfl, hj⟩ := E4elim hi
    exact L4den Q (fun a0' n0' c0' e0' a1' n1' c1' e1' x5 h => a0 = a0' ∧ n0 = n0' ∧ c0 = c0' ∧ e0 = e0' ∧ a1 = a1' ∧ n1 = n1' ∧ c1 = c1' ∧ e1 = e1' ∧ ∃ g', m g' < m g ∧ J g' x5 h) a0 n0 c0 e0 a1 n1 c1 e1 x5 h (hr g x5 h hj (fun a0' n0' c0' e0' a1' n1' c1' e1' x5 h => a0 = a0' ∧ n0 = n0' ∧ c0 = c0' ∧ e0 = e0' ∧ a1 = a1' ∧ n1 = n1' ∧ c1 = c1' ∧ e1 = e1' ∧ ∃ g', m g' < m g ∧ J g' x5 h) fun g' x5 h hlt hj => ⟨rfl, rfl, rfl, rfl, rfl, rfl, rfl, rfl, g', hlt, hj⟩)
  · intro g env h hi
    obtain ⟨a0', n0', c0', e0', a1', n1', c1', e1', x5, rfl, rfl, rfl, rfl, rfl, rfl, rfl, rfl, rfl, g', hlt, hj⟩ := E4elim hi
    exact ⟨g', hlt, rfl, rfl, rfl, rfl, rfl, rfl, rfl, rfl, hj⟩
theorem A4x0i (Q : QT) (h : AHeap) (ht :
 Q (.bool true) h) : A4x0 Q h :=
  At.mk (@cast _ ((K1 Q) (.exit 0) [(4, .undef)] h) (by kernel_rfl) ht)
theorem call (a0 : Pt) (n0 c0 : Nat) (e0 : Bool) (a1 : Pt) (n1 c1 : Nat) (e1 : Bool) (h : AHeap) (Q : QT) (ht :
 bcase (!((((n0 : Nat) : Int) : Int) == (((n1 : Nat) : Int)))) (Q (.bool false) h) (L4 Q a0 n0 c0 e0 a1 n1 c1 e1 0 h)) : SCall pg n_laws_eqIntS [.slice a0 n0 c0 e0, .slice a1 n1 c1 e1] h Q :=
  SCall.of_body kp (c := cod fn) (fn := fn) Go.Proofs.Tryd.func10 (by kernel_rfl) (by kernel_rfl) (Nat.le_of_ble_eq_true (by kernel_rfl))
    (@cast _ (den pg fn.ntmps kp (cod fn) (Env.args 0 [.slice a0 n0 c0 e0, .slice a1 n1 c1 e1]) h (KR Q)) (by kernel_rfl) ht)
end F_laws_eqIntS
/-! Function loop.example/instancesearch/spec.FormatNumbers -/
namespace F_spec_FormatNumbers
noncomputable abbrev fn : Func := Go.Proofs.Tryd.f7
def kp : Keeps := [(3000003, [3]), (1000003, [3, 6, 7, 8]), (4000007, [3, 5, 8, 7, 6]), (4000008, [8, 7, 6, 3])]
noncomputable def C (p : List Nat) : Code := (cod fn).sub p
def KR (Q : QT) : KT := retA pg fn.results.toList Q
abbrev T3 := List Nat → Pt → Nat → Nat → Bool → Int → Int → AHeap → Prop
def E3 (R3 : T3) (env : Env) (h : AHeap) : Prop := eVal 3 env fun v env => xStr (some v) fun x3 => eVal 6 env fun v env => xSl (some v) fun a6 n6 c6 e6 => eVal 7 env fun v env => eInt .i64 v fun x7 => eVal 8 env fun v env => eInt .i64 v fun x8 => eNil env (R3 x3 a6 n6 c6 e6 x7 x8 h)
theorem E3elim {R3 : T3} {env : Env} {h : AHeap} (hi : E3 R3 env h) : ∃ x3, ∃ a6, ∃ n6, ∃ c6, ∃ e6, ∃ x7, ∃ x8, env = [(3, .str x3), (6, .slice a6 n6 c6 e6), (7, .int .i64 x7), (8, .int .i64 x8)] ∧ R3 x3 a6 n6 c6 e6 x7 x8 h := by
  unfold E3 at hi
  have hi0 := hi
  clear hi
  obtain ⟨v, env, rfl, hi1⟩ := eVal_elim hi0
  obtain ⟨x3, rfl, hi2⟩ := xStr_elim hi1
  obtain ⟨v, env, rfl, hi3⟩ := eVal_elim hi2
  obtain ⟨a6, n6, c6, e6, rfl, hi4⟩ := xSl_elim hi3
  obtain ⟨v, env, rfl, hi5⟩ := eVal_elim hi4
  obtain ⟨x7, rfl, hi6⟩ := eInt_elim hi5
  obtain ⟨v, env, rfl, hi7⟩ := eVal_elim hi6
  obtain ⟨x8, rfl, hi8⟩ := eInt_elim hi7
  obtain ⟨rfl, hi9⟩ := eNil_elim hi8
  have hi := hi9
  exact ⟨x3, a6, n6, c6, e6, x7, x8, rfl, hi⟩
def K0 (Q : QT) : KT := andThen (fun env' h' => (match kp.find 4000009 with | some ks => Den pg fn.ntmps (C [1, 1, 1]) (env'.keep ks) h' (KR Q) | none => den pg fn.ntmps kp (C [1, 1, 1]) env' h' (KR Q))) (KR Q)
def K1 (Q : QT) : KT := onExit 0 (K0 Q)
def K2 (Q : QT) : KT := left kp 3 (K1 Q)
def K3 (Q : QT) (R3 : T3) : KT := rnd ((kp.find 1000003).getD []) (E3 R3) (K2 Q)
def K4 (Q : QT) (R3 : T3) : KT := andThen (fun env' h' => (match kp.find 4000008 with | some ks => Den pg fn.ntmps (C [1, 1, 0, 1, 0, 0, 1, 1, 1]) (env'.keep ks) h' (K3 Q R3) | none => den pg fn.ntmps kp (C [1, 1, 0, 1, 0, 0, 1, 1, 1]) env' h' (K3 Q R3))) (K3 Q R3)
def K5 (Q : QT) (R3 : T3) : KT := onExit 1 (K4 Q R3)
def L3 (Q : QT) (x3 : List Nat) (a6 : Pt) (n6 c6 : Nat) (e6 : Bool) (x7 x8 : Int) (h : AHeap) : Prop := Loop (Den pg fn.ntmps (C [1, 1, 0, 1, 0, 0])) ((kp.find 1000003).getD []) (K2 Q) [(3, .str x3), (6, .slice a6 n6 c6 e6), (7, .int .i64 x7), (8, .int .i64 x8)] h
def J7 (Q : QT) (R3 : T3) (x3 : List Nat) (x5 x8 x7 : Int) (a6 : Pt) (n6 c6 : Nat) (e6 : Bool) (h : AHeap) : Prop := Den pg fn.ntmps (C [1, 1, 0, 1, 0, 0, 1, 1, 0, 0, 1, 1]) [(3, .str x3), (5, .int .i64 x5), (8, .int .i64 x8), (7, .int .i64 x7), (6, .slice a6 n6 c6 e6)] h (K5 Q R3)
def A3x0 (Q : QT) (x3 : List Nat) (h : AHeap) : Prop := At (K1 Q) (.exit 0) [(3, .str x3)] h
def J8 (Q : QT) (R3 : T3) (x8 x7 : Int) (a6 : Pt) (n6 c6 : Nat) (e6 : Bool) (x3 : List Nat) (h : AHeap) : Prop := Den pg fn.ntmps (C [1, 1, 0, 1, 0, 0, 1, 1, 1]) [(8, .int .i64 x8), (7, .int .i64 x7), (6, .slice a6 n6 c6 e6), (3, .str x3)] h (K3 Q R3)
def L3t (Q : QT) (R3 : T3) (x3 : List Nat) (a6 : Pt) (n6 c6 : Nat) (e6 : Bool) (x7 x8 : Int) (h : AHeap) : Prop :=
 bcase (decide ((x8 : Int) < x7)) ((0 ≤ (x8 : Int) ∧ (x8 : Int) < (n6 : Nat)) ∧ (xSome a6 fun i_0 o_1 => xInt .i64 (hCell h (.ptr (some (i_0, o_1 + (Int.toNat x8) * 1)))) fun x_2 => bcase (decide ((x8 : Int) > 0)) (List.length x3 + List.length [32] ≤ 9223372036854775807 ∧ (J7 Q R3 (x3 ++ [32]) x_2 x8 x7 a6 n6 c6 e6 h)) (J7 Q R3 x3 x_2 x8 x7 a6 n6 c6 e6 h))) (A3x0 Q x3 h)
theorem L3den (Q : QT) (R3 : T3) (x3 : List Nat) (a6 : Pt) (n6 c6 : Nat) (e6 : Bool) (x7 x8 : Int) (h : AHeap) (ht : L3t Q R3 x3 a6 n6 c6 e6 x7 x8 h) : Den pg fn.ntmps (C [1, 1, 0, 1, 0, 0]) [(3, .str x3), (6, .slice a6 n6 c6 e6), (7, .int .i64 x7), (8, .int .i64 x8)] h (K3 Q R3) :=
  den_Den (kp := kp) (@cast _ (den pg fn.ntmps kp (C [1, 1, 0, 1, 0, 0]) [(3, .str x3), (6, .slice a6 n6 c6 e6), (7, .int .i64 x7), (8, .int .i64 x8)] h (K3 Q R3)) (by kernel_rfl) ht)
theorem L3ind (Q : QT) (a6 : Pt) (n6 c6 : Nat) (e6 : Bool) (x7 : Int) {G : Type} (J : G → List Nat → Int → AHeap → Prop) (m : G → Nat)
 (hr : ∀ (g : G) (x3 : List Nat) (x8 : Int) (h : AHeap), J g x3 x8 h → ∀ (R3 : T3), (∀ g' (x3 : List Nat) (x8 : Int) (h : AHeap), m g' < m g → J g' x3 x8 h → R3 x3 a6 n6 c6 e6 x7 x8 h) → L3t Q R3 x3 a6 n6 c6 e6 x7 x8 h)
 (g : G) (x3 : List Nat) (x8 : Int) (h : AHeap) (hj : J g x3 x8 h) : L3 Q x3 a6 n6 c6 e6 x7 x8 h := by
  refine Loop.inv2 (fun g => E3 fun x3 a6' n6' c6' e6' x7' x8 h => a6 = a6' ∧ n6 = n6' ∧ c6 = c6' ∧ e6 = e6' ∧ x7 = x7' ∧ J g x3 x8 h) (fun g => E3 fun x3 a6' n6' c6' e6' x7' x8 h => a6 = a6' ∧ n6 = n6' ∧ c6 = c6' ∧ e6 = e6' ∧ x7 = x7' ∧ ∃ g', m g' < m g ∧ J g' x3 x8 h) m ?_ ?_ g ⟨rfl, rfl, rfl, rfl, rfl, hj⟩
  · intro g env h hi
    obtain ⟨x3, a6', n6', c6', e6', x7', x8, rfl, rfl, rfl, rfl, rfl, rfl, hj⟩ := E3elim hi
    exact L3den Q (fun x3 a6' n6' c6' e6' x7' x8 h => a6 = a6' ∧ n6 = n6' ∧ c6 = c6' ∧ e6 = e6' ∧ x7 = x7' ∧ ∃ g', m g' < m g ∧ J g' x3 x8 h) x3 a6 n6 c6 e6 x7 x8 h (hr g x3 x8 h hj (fun x3 a6' n6' c6' e6' x7' x8 h => a6 = a6' ∧ n6 = n6' ∧ c6 = c6' ∧ e6 = e6' ∧ x7 = x7' ∧ ∃ g', m g' < m g ∧ J g' x3 x8 h) fun g' x3 x8 h hlt hj => ⟨rfl, rfl, rfl, rfl, rfl, g', hlt, hj⟩)
  · intro g env h hi
    obtain ⟨x3, a6', n6', c6', e6', x7', x8, rfl, rfl, rfl, rfl, rfl, rfl, g', hlt, hj⟩ := E3elim hi
    exact ⟨g', hlt, rfl, rfl, rfl, rfl, rfl, hj⟩
theorem J7i (Q : QT) (R3 : T3) (x3 : List Nat) (x5 x8 x7 : Int) (a6 : Pt) (n6 c6 : Nat) (e6 : Bool) (h : AHeap) (ht :
 SCall pg n_spec_l13Dec [.int .i64 x5] h fun v_3 h_4 =>
 xStr (some v_3) fun s_5 => List.length x3 + List.length s_5 ≤ 9223372036854775807 ∧ (J8 Q R3 x8 x7 a6 n6 c6 e6 (x3 ++ s_5) h_4)) : J7 Q R3 x3 x5 x8 x7 a6 n6 c6 e6 h :=
  den_Den (kp := kp) (@cast _ (den pg fn.ntmps kp (C [1, 1, 0, 1, 0, 0, 1, 1, 0, 0, 1, 1]) [(3, .str x3), (5, .int .i64 x5), (8, .int .i64 x8), (7, .int .i64 x7), (6, .slice a6 n6 c6 e6)] h (K5 Q R3)) (by kernel_rfl) ht)
theorem A3x0i (Q : QT) (x3 : List Nat) (h : AHeap) (ht :
 SCall pg n_spec_l12Text [.str x3] h fun v_6 h_7 =>
 xStr (some v_6) fun s_8 => Q (.str s_8) h_7) : A3x0 Q x3 h :=
  At.mk (@cast _ ((K1 Q) (.exit 0) [(3, .str x3)] h) (by kernel_rfl) ht)
theorem J8i (Q : QT) (R3 : T3) (x8 x7 : Int) (a6 : Pt) (n6 c6 : Nat) (e6 : Bool) (x3 : List Nat) (h : AHeap) (ht :
 R3 x3 a6 n6 c6 e6 x7 (IntKind.wrap .i64 (x8 + 1)) h) : J8 Q R3 x8 x7 a6 n6 c6 e6 x3 h :=
  den_Den (kp := kp) (@cast _ (den pg fn.ntmps kp (C [1, 1, 0, 1, 0, 0, 1, 1, 1]) [(8, .int .i64 x8), (7, .int .i64 x7), (6, .slice a6 n6 c6 e6), (3, .str x3)] h (K3 Q R3)) (by kernel_rfl) ht)
theorem call (a0 : Pt) (n0 c0 : Nat) (e0 : Bool) (h : AHeap) (Q : QT) (ht :
 L3 Q [] a0 n0 c0 e0 (((n0 : Nat) : Int)) 0 h) : SCall pg n_spec_FormatNumbers [.slice a0 n0 c0 e0] h Q :=
  SCall.of_body kp (c := cod fn) (fn := fn) Go.Proofs.Tryd.func7 (by kernel_rfl) (by kernel_rfl) (Nat.le_of_ble_eq_true (by kernel_rfl))
    (@cast _ (den pg fn.ntmps kp (cod fn) (Env.args 0 [.slice a0 n0 c0 e0]) h (KR Q)) (by kernel_rfl) ht)
end F_spec_FormatNumbers
/-! Function loop.example/instancesearch/impl.FormatNumbers -/
namespace F_impl_FormatNumbers
noncomputable abbrev fn : Func := Go.Proofs.Tryd.f9
def kp : Keeps := [(3000003, [3]), (1000003, [3, 7, 8, 9])]
noncomputable def C (p : List Nat) : Code := (cod fn).sub p
def KR (Q : QT) : KT := retA pg fn.results.toList Q
abbrev T3 := Pt → Nat → Nat → Bool → Pt → Nat → Nat → Bool → Int → Int → AHeap → Prop
def E3 (R3 : T3) (env : Env) (h : AHeap) : Prop := eVal 3 env fun v env => xSl (some v) fun a3 n3 c3 e3 => eVal 7 env fun v env => xSl (some v) fun a7 n7 c7 e7 => eVal 8 env fun v env => eInt .i64 v fun x8 => eVal 9 env fun v env => eInt .i64 v fun x9 => eNil env (R3 a3 n3 c3 e3 a7 n7 c7 e7 x8 x9 h)
theorem E3elim {R3 : T3} {env : Env} {h : AHeap} (hi : E3 R3 env h) : ∃ a3, ∃ n3, ∃ c3, ∃ e3, ∃ a7, ∃ n7, ∃ c7, ∃ e7, ∃ x8, ∃ x9, env = [(3, .slice a3 n3 c3 e3), (7, .slice a7 n7 c7 e7), (8, .int .i64 x8), (9, .int .i64 x9)] ∧ R3 a3 n3 c3 e3 a7 n7 c7 e7 x8 x9 h := by
  unfold E3 at hi
  have hi0 := hi
  clear hi
  obtain ⟨v, env, rfl, hi1⟩ := eVal_elim hi0
  obtain ⟨a3, n3, c3, e3, rfl, hi2⟩ := xSl_elim hi1
  obtain ⟨v, env, rfl, hi3⟩ := eVal_elim hi2
  obtain ⟨a7, n7, c7, e7, rfl, hi4⟩ := xSl_elim hi3
  obtain ⟨v, env, rfl, hi5⟩ := eVal_elim hi4
  obtain ⟨x8, rfl, hi6⟩ := eInt_elim hi5
  obtain ⟨v, env, rfl, hi7⟩ := eVal_elim hi6
  obtain ⟨x9, rfl, hi8⟩ := eInt_elim hi7
  obtain ⟨rfl, hi9⟩ := eNil_elim hi8
  have hi := hi9
  exact ⟨a3, n3, c3, e3, a7, n7, c7, e7, x8, x9, rfl, hi⟩
def K0 (Q : QT) : KT := andThen (fun env' h' => (match kp.find 4000007 with | some ks => Den pg fn.ntmps (C [1, 1, 1]) (env'.keep ks) h' (KR Q) | none => den pg fn.ntmps kp (C [1, 1, 1]) env' h' (KR Q))) (KR Q)
def K1 (Q : QT) : KT := onExit 0 (K0 Q)
def K2 (Q : QT) : KT := left kp 3 (K1 Q)
def K3 (Q : QT) (R3 : T3) : KT := rnd ((kp.find 1000003).getD []) (E3 R3) (K2 Q)
def L3 (Q : QT) (a3 : Pt) (n3 c3 : Nat) (e3 : Bool) (a7 : Pt) (n7 c7 : Nat) (e7 : Bool) (x8 x9 : Int) (h : AHeap) : Prop := Loop (Den pg fn.ntmps (C [1, 1, 0, 1, 0, 0])) ((kp.find 1000003).getD []) (K2 Q) [(3, .slice a3 n3 c3 e3), (7, .slice a7 n7 c7 e7), (8, .int .i64 x8), (9, .int .i64 x9)] h
def A3x0 (Q : QT) (a3 : Pt) (n3 c3 : Nat) (e3 : Bool) (h : AHeap) : Prop := At (K1 Q) (.exit 0) [(3, .slice a3 n3 c3 e3)] h
def L3t (Q : QT) (R3 : T3) (a3 : Pt) (n3 c3 : Nat) (e3 : Bool) (a7 : Pt) (n7 c7 : Nat) (e7 : Bool) (x8 x9 : Int) (h : AHeap) : Prop :=
 bcase (decide ((x9 : Int) < x8)) ((0 ≤ (x9 : Int) ∧ (x9 : Int) < (n7 : Nat)) ∧ (xSome a7 fun i_1 o_2 => xInt .i64 (hCell h (.ptr (some (i_1, o_2 + (Int.toNat x9) * 1)))) fun x_3 => SCall pg n_strconv_Itoa [.int .i64 x_3] h fun v_4 h_5 =>
 xStr (some v_4) fun s_6 => letH (h_5 ++ [.cells t_string [.str s_6] false]) fun h_7 => appendA pg t_L_string h_7 (.slice a3 n3 c3 e3) (.slice (some (List.length h_5, 0)) 1 1 true) fun v_8 h_9 => xSl (some v_8) fun a_10 n_11 c_12 e_13 => R3 a_10 n_11 c_12 e_13 a7 n7 c7 e7 x8 (IntKind.wrap .i64 (x9 + 1)) h_9)) (A3x0 Q a3 n3 c3 e3 h)
theorem L3den (Q : QT) (R3 : T3) (a3 : Pt) (n3 c3 : Nat) (e3 : Bool) (a7 : Pt) (n7 c7 : Nat) (e7 : Bool) (x8 x9 : Int) (h : AHeap) (ht : L3t Q R3 a3 n3 c3 e3 a7 n7 c7 e7 x8 x9 h) : Den pg fn.ntmps (C [1, 1, 0, 1, 0, 0]) [(3, .slice a3 n3 c3 e3), (7, .slice a7 n7 c7 e7), (8, .int .i64 x8), (9, .int .i64 x9)] h (K3 Q R3) :=
  den_Den (kp := kp) (@cast _ (den pg fn.ntmps kp (C [1, 1, 0, 1, 0, 0]) [(3, .slice a3 n3 c3 e3), (7, .slice a7 n7 c7 e7), (8, .int .i64 x8), (9, .int .i64 x9)] h (K3 Q R3)) (by kernel_rfl) ht)
theorem L3ind (Q : QT) (a7 : Pt) (n7 c7 : Nat) (e7 : Bool) (x8 : Int) {G : Type} (J : G → Pt → Nat → Nat → Bool → Int → AHeap → Prop) (m : G → Nat)
 (hr : ∀ (g : G) (a3 : Pt) (n3 c3 : Nat) (e3 : Bool) (x9 : Int) (h : AHeap), J g a3 n3 c3 e3 x9 h → ∀ (R3 : T3), (∀ g' (a3 : Pt) (n3 c3 : Nat) (e3 : Bool) (x9 : Int) (h : AHeap), m g' < m g → J g' a3 n3 c3 e3 x9 h → R3 a3 n3 c3 e3 a7 n7 c7 e7 x8 x9 h) → L3t Q R3 a3 n3 c3 e3 a7 n7 c7 e7 x8 x9 h)
 (g : G) (a3 : Pt) (n3 c3 : Nat) (e3 : Bool) (x9 : Int) (h : AHeap) (hj : J g a3 n3 c3 e3 x9 h) : L3 Q a3 n3 c3 e3 a7 n7 c7 e7 x8 x9 h := by
  refine Loop.inv2 (fun g => E3 fun a3 n3 c3 e3 a7' n7' c7' e7' x8' x9 h => a7 = a7' ∧ n7 = n7' ∧ c7 = c7' ∧ e7 = e7' ∧ x8 = x8' ∧ J g a3 n3 c3 e3 x9 h) (fun g => E3 fun a3 n3 c3 e3 a7' n7' c7' e7' x8' x9 h => a7 = a7' ∧ n7 = n7' ∧ c7 = c7' ∧ e7 = e7' ∧ x8 = x8' ∧ ∃ g', m g' < m g ∧ J g' a3 n3 c3 e3 x9 h) m ?_ ?_ g ⟨rfl, rfl, rfl, rfl, rfl, hj⟩
  · intro g env h hi
    obtain ⟨a3, n3, c3, e3, a7', n7', c7', e7', x8', x9, rfl, rfl, rfl, rfl, rfl, rfl, hj⟩ := E3elim hi
    exact L3den Q (fun a3 n3 c3 e3 a7' n7' c7' e7' x8' x9 h => a7 = a7' ∧ n7 = n7' ∧ c7 = c7' ∧ e7 = e7' ∧ x8 = x8' ∧ ∃ g', m g' < m g ∧ J g' a3 n3 c3 e3 x9 h) a3 n3 c3 e3 a7 n7 c7 e7 x8 x9 h (hr g a3 n3 c3 e3 x9 h hj (fun a3 n3 c3 e3 a7' n7' c7' e7' x8' x9 h => a7 = a7' ∧ n7 = n7' ∧ c7 = c7' ∧ e7 = e7' ∧ x8 = x8' ∧ ∃ g', m g' < m g ∧ J g' a3 n3 c3 e3 x9 h) fun g' a3 n3 c3 e3 x9 h hlt hj => ⟨rfl, rfl, rfl, rfl, rfl, g', hlt, hj⟩)
  · intro g env h hi
    obtain ⟨a3, n3, c3, e3, a7', n7', c7', e7', x8', x9, rfl, rfl, rfl, rfl, rfl, rfl, g', hlt, hj⟩ := E3elim hi
    exact ⟨g', hlt, rfl, rfl, rfl, rfl, rfl, hj⟩
theorem A3x0i (Q : QT) (a3 : Pt) (n3 c3 : Nat) (e3 : Bool) (h : AHeap) (ht :
 SCall pg n_impl_FormatTexts [.slice a3 n3 c3 e3] h fun v_14 h_15 =>
 xStr (some v_14) fun s_16 => Q (.str s_16) h_15) : A3x0 Q a3 n3 c3 e3 h :=
  At.mk (@cast _ ((K1 Q) (.exit 0) [(3, .slice a3 n3 c3 e3)] h) (by kernel_rfl) ht)
theorem call (a0 : Pt) (n0 c0 : Nat) (e0 : Bool) (h : AHeap) (Q : QT) (ht :
 letH (h ++ [.cells t_string [] false]) fun h_0 => L3 Q (some (List.length h, 0)) 0 0 true a0 n0 c0 e0 (((n0 : Nat) : Int)) 0 h_0) : SCall pg n_impl_FormatNumbers [.slice a0 n0 c0 e0] h Q :=
  SCall.of_body kp (c := cod fn) (fn := fn) Go.Proofs.Tryd.func9 (by kernel_rfl) (by kernel_rfl) (Nat.le_of_ble_eq_true (by kernel_rfl))
    (@cast _ (den pg fn.ntmps kp (cod fn) (Env.args 0 [.slice a0 n0 c0 e0]) h (KR Q)) (by kernel_rfl) ht)
end F_impl_FormatNumbers
/-! Function loop.example/instancesearch/laws.FnExactFormatNumbers -/
namespace F_laws_FnExactFormatNumbers
noncomputable abbrev fn : Func := Go.Proofs.Tryd.f3
def kp : Keeps := []
noncomputable def C (p : List Nat) : Code := (cod fn).sub p
def KR (Q : QT) : KT := retA pg fn.results.toList Q
theorem call (a0 : Pt) (n0 c0 : Nat) (e0 : Bool) (h : AHeap) (Q : QT) (ht :
 bcase (decide (((((n0 : Nat) : Int)) : Int) > 1048576)) (Q (.bool true) h) (SCall pg n_laws_toIntS [.slice a0 n0 c0 e0] h fun v_0 h_1 =>
 xSl (some v_0) fun a_2 n_3 c_4 e_5 => SCall pg n_spec_FormatNumbers [.slice a_2 n_3 c_4 e_5] h_1 fun v_6 h_7 =>
 xStr (some v_6) fun s_8 => SCall pg n_laws_toIntS [.slice a0 n0 c0 e0] h_7 fun v_9 h_10 =>
 xSl (some v_9) fun a_11 n_12 c_13 e_14 => SCall pg n_impl_FormatNumbers [.slice a_11 n_12 c_13 e_14] h_10 fun v_15 h_16 =>
 xStr (some v_15) fun s_17 => bcase (!(decide (s_17 = s_8))) (Q (.bool false) h_16) (SCall pg n_laws_toIntS [.slice a0 n0 c0 e0] h_16 fun v_18 h_19 =>
 xSl (some v_18) fun a_20 n_21 c_22 e_23 => SCall pg n_laws_eqIntS [.slice a_11 n_12 c_13 e_14, .slice a_20 n_21 c_22 e_23] h_19 fun v_24 h_25 =>
 xBool (some v_24) fun b_26 => bcase (!b_26) (Q (.bool false) h_25) (Q (.bool true) h_25)))) : SCall pg n_laws_FnExactFormatNumbers [.slice a0 n0 c0 e0] h Q :=
  SCall.of_body kp (c := cod fn) (fn := fn) Go.Proofs.Tryd.func3 (by kernel_rfl) (by kernel_rfl) (Nat.le_of_ble_eq_true (by kernel_rfl))
    (@cast _ (den pg fn.ntmps kp (cod fn) (Env.args 0 [.slice a0 n0 c0 e0]) h (KR Q)) (by kernel_rfl) ht)
end F_laws_FnExactFormatNumbers
end Go.Sim
