/- A part of the proof of a statement of this seat: see the text that holds the theorem. No condition. -/
import Derived.Test.YtcdpjjhnhiaapaaNm
set_option linter.unusedVariables false
set_option linter.unusedSimpArgs false
set_option linter.all false
/- Printed by wip/tool: what the functions' bodies do, in the words of 'den'. -/
set_option maxRecDepth 100000
set_option linter.unusedVariables false
namespace Go.Sim
open Go Go.RowKit
/-! Function loop.example/instancesearch/spec.l3Sorted -/
namespace F_spec_l3Sorted
noncomputable abbrev fn : Func := Go.Proofs.Try.f117
def kp : Keeps := [(3000003, [3]), (1000003, [0, 3, 4]), (4000004, [4, 0, 3])]
noncomputable def C (p : List Nat) : Code := (cod fn).sub p
def KR (Q : QT) : KT := retA pg fn.results.toList Q
abbrev T3 := List Nat → List Nat → Int → AHeap → Prop
def E3 (R3 : T3) (env : Env) (h : AHeap) : Prop := eVal 0 env fun v env => xStr (some v) fun x0 => eVal 3 env fun v env => xStr (some v) fun x3 => eVal 4 env fun v env => eInt .i32 v fun x4 => eNil env (R3 x0 x3 x4 h)
theorem E3elim {R3 : T3} {env : Env} {h : AHeap} (hi : E3 R3 env h) : ∃ x0, ∃ x3, ∃ x4, env = [(0, .str x0), (3, .str x3), (4, .int .i32 x4)] ∧ R3 x0 x3 x4 h := by
  unfold E3 at hi
  have hi0 := hi
  clear hi
  obtain ⟨v, env, rfl, hi1⟩ := eVal_elim hi0
  obtain ⟨x0, rfl, hi2⟩ := xStr_elim hi1
  obtain ⟨v, env, rfl, hi3⟩ := eVal_elim hi2
  obtain ⟨x3, rfl, hi4⟩ := xStr_elim hi3
  obtain ⟨v, env, rfl, hi5⟩ := eVal_elim hi4
  obtain ⟨x4, rfl, hi6⟩ := eInt_elim hi5
  obtain ⟨rfl, hi7⟩ := eNil_elim hi6
  have hi := hi7
  exact ⟨x0, x3, x4, rfl, hi⟩
def K0 (Q : QT) : KT := andThen (fun env' h' => (match kp.find 4000007 with | some ks => Den pg fn.ntmps (C [1, 1, 1]) (env'.keep ks) h' (KR Q) | none => den pg fn.ntmps kp (C [1, 1, 1]) env' h' (KR Q))) (KR Q)
def K1 (Q : QT) : KT := onExit 0 (K0 Q)
def K2 (Q : QT) : KT := left kp 3 (K1 Q)
def K3 (Q : QT) (R3 : T3) : KT := rnd ((kp.find 1000003).getD []) (E3 R3) (K2 Q)
def L3 (Q : QT) (x0 x3 : List Nat) (x4 : Int) (h : AHeap) : Prop := Loop (Den pg fn.ntmps (C [1, 1, 0, 1, 0, 0])) ((kp.find 1000003).getD []) (K2 Q) [(0, .str x0), (3, .str x3), (4, .int .i32 x4)] h
def J4 (Q : QT) (R3 : T3) (x4 : Int) (x0 x3 : List Nat) (h : AHeap) : Prop := Den pg fn.ntmps (C [1, 1, 0, 1, 0, 0, 1, 1]) [(4, .int .i32 x4), (0, .str x0), (3, .str x3)] h (K3 Q R3)
def A3x0 (Q : QT) (x3 : List Nat) (h : AHeap) : Prop := At (K1 Q) (.exit 0) [(3, .str x3)] h
def L3t (Q : QT) (R3 : T3) (x0 x3 : List Nat) (x4 : Int) (h : AHeap) : Prop :=
 bcase (decide ((x4 : Int) ≤ 84)) (SCall pg n_spec_l13Find [.str x0, .int .u8 (IntKind.wrap .u8 (x4))] h fun v_0 h_1 =>
 xInt .i64 (some v_0) fun x_2 => bcase (decide ((x_2 : Int) ≥ 0)) (letH (h_1 ++ [.cells t_uint8 [.int .u8 (IntKind.wrap .u8 (x4))] false]) fun h_3 => xRow (rowOf h_3 (some (List.length h_1, 0)) 1) fun cs_4 => bytesA cs_4 fun s_5 => List.length x3 + List.length s_5 ≤ 9223372036854775807 ∧ (J4 Q R3 x4 x0 (x3 ++ s_5) h_3)) (J4 Q R3 x4 x0 x3 h_1)) (A3x0 Q x3 h)
theorem L3den (Q : QT) (R3 : T3) (x0 x3 : List Nat) (x4 : Int) (h : AHeap) (ht : L3t Q R3 x0 x3 x4 h) : Den pg fn.ntmps (C [1, 1, 0, 1, 0, 0]) [(0, .str x0), (3, .str x3), (4, .int .i32 x4)] h (K3 Q R3) :=
  den_Den (kp := kp) (@cast _ (den pg fn.ntmps kp (C [1, 1, 0, 1, 0, 0]) [(0, .str x0), (3, .str x3), (4, .int .i32 x4)] h (K3 Q R3)) (by kernel_rfl) ht)
theorem L3ind (Q : QT) (x0 : List Nat) {G : Type} (J : G → List Nat → Int → AHeap → Prop) (m : G → Nat)
 (hr : ∀ (g : G) (x3 : List Nat) (x4 : Int) (h : AHeap), J g x3 x4 h → ∀ (R3 : T3), (∀ g' (x3 : List Nat) (x4 : Int) (h : AHeap), m g' < m g → J g' x3 x4 h → R3 x0 x3 x4 h) → L3t Q R3 x0 x3 x4 h)
 (g : G) (x3 : List Nat) (x4 : Int) (h : AHeap) (hj : J g x3 x4 h) : L3 Q x0 x3 x4 h := by
  refine Loop.inv2 (fun g => E3 fun x0' x3 x4 h => x0 = x0' ∧ J g x3 x4 h) (fun g => E3 fun x0' x3 x4 h => x0 = x0' ∧ ∃ g', m g' < m g ∧ J g' x3 x4 h) m ?_ ?_ g ⟨rfl, hj⟩
  · intro g env h hi
    obtain ⟨x0', x3, x4, rfl, rfl, hj⟩ := E3elim hi
    exact L3den Q (fun x0' x3 x4 h => x0 = x0' ∧ ∃ g', m g' < m g ∧ J g' x3 x4 h) x0 x3 x4 h (hr g x3 x4 h hj (fun x0' x3 x4 h => x0 = x0' ∧ ∃ g', m g' < m g ∧ J g' x3 x4 h) fun g' x3 x4 h hlt hj => ⟨rfl, g', hlt, hj⟩)
  · intro g env h hi
    obtain ⟨x0', x3, x4, rfl, rfl, g', hlt, hj⟩ := E3elim hi
    exact ⟨g', hlt, rfl, hj⟩
theorem J4i (Q : QT) (R3 : T3) (x4 : Int) (x0 x3 : List Nat) (h : AHeap) (ht :
 R3 x0 x3 (IntKind.wrap .i32 (x4 + 1)) h) : J4 Q R3 x4 x0 x3 h :=
  den_Den (kp := kp) (@cast _ (den pg fn.ntmps kp (C [1, 1, 0, 1, 0, 0, 1, 1]) [(4, .int .i32 x4), (0, .str x0), (3, .str x3)] h (K3 Q R3)) (by kernel_rfl) ht)
theorem A3x0i (Q : QT) (x3 : List Nat) (h : AHeap) (ht :
 Q (.str x3) h) : A3x0 Q x3 h :=
  At.mk (@cast _ ((K1 Q) (.exit 0) [(3, .str x3)] h) (by kernel_rfl) ht)
theorem call (x0 : List Nat) (h : AHeap) (Q : QT) (ht :
 L3 Q x0 [] 65 h) : SCall pg n_spec_l3Sorted [.str x0] h Q :=
  SCall.of_body kp (c := cod fn) (fn := fn) Go.Proofs.Try.func117 (by kernel_rfl) (by kernel_rfl) (Nat.le_of_ble_eq_true (by kernel_rfl))
    (@cast _ (den pg fn.ntmps kp (cod fn) (Env.args 0 [.str x0]) h (KR Q)) (by kernel_rfl) ht)
end F_spec_l3Sorted
/-! Function loop.example/instancesearch/spec.SupersOf -/
namespace F_spec_SupersOf
noncomputable abbrev fn : Func := Go.Proofs.Try.f76
def kp : Keeps := [(2000004, [2, 5, 6]), (3000006, [6, 5]), (1000006, [2, 5, 6, 23, 24]), (3000008, [6, 24, 23, 2, 5]), (1000008, [2, 5, 6, 23, 24, 27, 28]), (2000010, [28, 27, 6, 2, 24, 23, 5]), (3000015, [5]), (1000015, [5, 6, 50, 51])]
noncomputable def C (p : List Nat) : Code := (cod fn).sub p
def KR (Q : QT) : KT := retA pg fn.results.toList Q
abbrev T6 := Nat → Nat → List Nat → List Nat → Int → Int → AHeap → Prop
def E6 (R6 : T6) (env : Env) (h : AHeap) : Prop := eVal 2 env fun v env => xPtr (some v) fun a => xSome a fun i2 o2 => eVal 5 env fun v env => xStr (some v) fun x5 => eVal 6 env fun v env => xStr (some v) fun x6 => eVal 23 env fun v env => eInt .i64 v fun x23 => eVal 24 env fun v env => eInt .i64 v fun x24 => eNil env (R6 i2 o2 x5 x6 x23 x24 h)
theorem E6elim {R6 : T6} {env : Env} {h : AHeap} (hi : E6 R6 env h) : ∃ i2, ∃ o2, ∃ x5, ∃ x6, ∃ x23, ∃ x24, env = [(2, .ptr (some (i2, o2))), (5, .str x5), (6, .str x6), (23, .int .i64 x23), (24, .int .i64 x24)] ∧ R6 i2 o2 x5 x6 x23 x24 h := by
  unfold E6 at hi
  have hi0 := hi
  clear hi
  obtain ⟨v, env, rfl, hi1⟩ := eVal_elim hi0
  obtain ⟨a, rfl, hi2⟩ := xPtr_elim hi1
  obtain ⟨i2, o2, rfl, hi3⟩ := xSome_elim hi2
  obtain ⟨v, env, rfl, hi4⟩ := eVal_elim hi3
  obtain ⟨x5, rfl, hi5⟩ := xStr_elim hi4
  obtain ⟨v, env, rfl, hi6⟩ := eVal_elim hi5
  obtain ⟨x6, rfl, hi7⟩ := xStr_elim hi6
  obtain ⟨v, env, rfl, hi8⟩ := eVal_elim hi7
  obtain ⟨x23, rfl, hi9⟩ := eInt_elim hi8
  obtain ⟨v, env, rfl, hi10⟩ := eVal_elim hi9
  obtain ⟨x24, rfl, hi11⟩ := eInt_elim hi10
  obtain ⟨rfl, hi12⟩ := eNil_elim hi11
  have hi := hi12
  exact ⟨i2, o2, x5, x6, x23, x24, rfl, hi⟩
abbrev T8 := Nat → Nat → List Nat → List Nat → Int → Int → Int → Int → AHeap → Prop
def E8 (R8 : T8) (env : Env) (h : AHeap) : Prop := eVal 2 env fun v env => xPtr (some v) fun a => xSome a fun i2 o2 => eVal 5 env fun v env => xStr (some v) fun x5 => eVal 6 env fun v env => xStr (some v) fun x6 => eVal 23 env fun v env => eInt .i64 v fun x23 => eVal 24 env fun v env => eInt .i64 v fun x24 => eVal 27 env fun v env => eInt .i64 v fun x27 => eVal 28 env fun v env => eInt .i64 v fun x28 => eNil env (R8 i2 o2 x5 x6 x23 x24 x27 x28 h)
theorem E8elim {R8 : T8} {env : Env} {h : AHeap} (hi : E8 R8 env h) : ∃ i2, ∃ o2, ∃ x5, ∃ x6, ∃ x23, ∃ x24, ∃ x27, ∃ x28, env = [(2, .ptr (some (i2, o2))), (5, .str x5), (6, .str x6), (23, .int .i64 x23), (24, .int .i64 x24), (27, .int .i64 x27), (28, .int .i64 x28)] ∧ R8 i2 o2 x5 x6 x23 x24 x27 x28 h := by
  unfold E8 at hi
  have hi0 := hi
  clear hi
  obtain ⟨v, env, rfl, hi1⟩ := eVal_elim hi0
  obtain ⟨a, rfl, hi2⟩ := xPtr_elim hi1
  obtain ⟨i2, o2, rfl, hi3⟩ := xSome_elim hi2
  obtain ⟨v, env, rfl, hi4⟩ := eVal_elim hi3
  obtain ⟨x5, rfl, hi5⟩ := xStr_elim hi4
  obtain ⟨v, env, rfl, hi6⟩ := eVal_elim hi5
  obtain ⟨x6, rfl, hi7⟩ := xStr_elim hi6
  obtain ⟨v, env, rfl, hi8⟩ := eVal_elim hi7
  obtain ⟨x23, rfl, hi9⟩ := eInt_elim hi8
  obtain ⟨v, env, rfl, hi10⟩ := eVal_elim hi9
  obtain ⟨x24, rfl, hi11⟩ := eInt_elim hi10
  obtain ⟨v, env, rfl, hi12⟩ := eVal_elim hi11
  obtain ⟨x27, rfl, hi13⟩ := eInt_elim hi12
  obtain ⟨v, env, rfl, hi14⟩ := eVal_elim hi13
  obtain ⟨x28, rfl, hi15⟩ := eInt_elim hi14
  obtain ⟨rfl, hi16⟩ := eNil_elim hi15
  have hi := hi16
  exact ⟨i2, o2, x5, x6, x23, x24, x27, x28, rfl, hi⟩
abbrev T15 := List Nat → List Nat → Int → Int → AHeap → Prop
def E15 (R15 : T15) (env : Env) (h : AHeap) : Prop := eVal 5 env fun v env => xStr (some v) fun x5 => eVal 6 env fun v env => xStr (some v) fun x6 => eVal 50 env fun v env => eInt .i64 v fun x50 => eVal 51 env fun v env => eInt .i64 v fun x51 => eNil env (R15 x5 x6 x50 x51 h)
theorem E15elim {R15 : T15} {env : Env} {h : AHeap} (hi : E15 R15 env h) : ∃ x5, ∃ x6, ∃ x50, ∃ x51, env = [(5, .str x5), (6, .str x6), (50, .int .i64 x50), (51, .int .i64 x51)] ∧ R15 x5 x6 x50 x51 h := by
  unfold E15 at hi
  have hi0 := hi
  clear hi
  obtain ⟨v, env, rfl, hi1⟩ := eVal_elim hi0
  obtain ⟨x5, rfl, hi2⟩ := xStr_elim hi1
  obtain ⟨v, env, rfl, hi3⟩ := eVal_elim hi2
  obtain ⟨x6, rfl, hi4⟩ := xStr_elim hi3
  obtain ⟨v, env, rfl, hi5⟩ := eVal_elim hi4
  obtain ⟨x50, rfl, hi6⟩ := eInt_elim hi5
  obtain ⟨v, env, rfl, hi7⟩ := eVal_elim hi6
  obtain ⟨x51, rfl, hi8⟩ := eInt_elim hi7
  obtain ⟨rfl, hi9⟩ := eNil_elim hi8
  have hi := hi9
  exact ⟨x5, x6, x50, x51, rfl, hi⟩
def K0 (Q : QT) : KT := andThen (fun env' h' => (match kp.find 4000014 with | some ks => Den pg fn.ntmps (C [1, 1, 1, 1, 1]) (env'.keep ks) h' (KR Q) | none => den pg fn.ntmps kp (C [1, 1, 1, 1, 1]) env' h' (KR Q))) (KR Q)
def K1 (Q : QT) : KT := onExit 0 (K0 Q)
def K2 (Q : QT) : KT := left kp 6 (K1 Q)
def K3 (Q : QT) (R6 : T6) : KT := rnd ((kp.find 1000006).getD []) (E6 R6) (K2 Q)
def K4 (Q : QT) (R6 : T6) : KT := andThen (fun env' h' => (match kp.find 4000013 with | some ks => Den pg fn.ntmps (C [1, 1, 1, 1, 0, 1, 0, 0, 1, 1, 1]) (env'.keep ks) h' (K3 Q R6) | none => den pg fn.ntmps kp (C [1, 1, 1, 1, 0, 1, 0, 0, 1, 1, 1]) env' h' (K3 Q R6))) (K3 Q R6)
def K5 (Q : QT) (R6 : T6) : KT := onExit 1 (K4 Q R6)
def K6 (Q : QT) (R6 : T6) : KT := andThen (fun env' h' => (match kp.find 4000012 with | some ks => Den pg fn.ntmps (C [1, 1, 1, 1, 0, 1, 0, 0, 1, 1, 0, 0, 1]) (env'.keep ks) h' (K5 Q R6) | none => den pg fn.ntmps kp (C [1, 1, 1, 1, 0, 1, 0, 0, 1, 1, 0, 0, 1]) env' h' (K5 Q R6))) (K5 Q R6)
def K7 (Q : QT) (R6 : T6) : KT := onExit 2 (K6 Q R6)
def K8 (Q : QT) (R6 : T6) : KT := left kp 8 (K7 Q R6)
def K9 (Q : QT) (R6 : T6) (R8 : T8) : KT := rnd ((kp.find 1000008).getD []) (E8 R8) (K8 Q R6)
def K10 (Q : QT) : KT := andThen (fun env' h' => (match kp.find 4000019 with | some ks => Den pg fn.ntmps (C [1, 1, 1, 1, 1, 1]) (env'.keep ks) h' (KR Q) | none => den pg fn.ntmps kp (C [1, 1, 1, 1, 1, 1]) env' h' (KR Q))) (KR Q)
def K11 (Q : QT) : KT := onExit 4 (K10 Q)
def K12 (Q : QT) : KT := left kp 15 (K11 Q)
def K13 (Q : QT) (R15 : T15) : KT := rnd ((kp.find 1000015).getD []) (E15 R15) (K12 Q)
def L6 (Q : QT) (i2 o2 : Nat) (x5 x6 : List Nat) (x23 x24 : Int) (h : AHeap) : Prop := Loop (Den pg fn.ntmps (C [1, 1, 1, 1, 0, 1, 0, 0])) ((kp.find 1000006).getD []) (K2 Q) [(2, .ptr (some (i2, o2))), (5, .str x5), (6, .str x6), (23, .int .i64 x23), (24, .int .i64 x24)] h
def L8 (Q : QT) (R6 : T6) (i2 o2 : Nat) (x5 x6 : List Nat) (x23 x24 x27 x28 : Int) (h : AHeap) : Prop := Loop (Den pg fn.ntmps (C [1, 1, 1, 1, 0, 1, 0, 0, 1, 1, 0, 0, 0, 1, 0, 0])) ((kp.find 1000008).getD []) (K8 Q R6) [(2, .ptr (some (i2, o2))), (5, .str x5), (6, .str x6), (23, .int .i64 x23), (24, .int .i64 x24), (27, .int .i64 x27), (28, .int .i64 x28)] h
def A6x0 (Q : QT) (x6 x5 : List Nat) (h : AHeap) : Prop := At (K1 Q) (.exit 0) [(6, .str x6), (5, .str x5)] h
def A8x2 (Q : QT) (R6 : T6) (x6 : List Nat) (x24 x23 : Int) (i2 o2 : Nat) (x5 : List Nat) (h : AHeap) : Prop := At (K7 Q R6) (.exit 2) [(6, .str x6), (24, .int .i64 x24), (23, .int .i64 x23), (2, .ptr (some (i2, o2))), (5, .str x5)] h
def L15 (Q : QT) (x5 x6 : List Nat) (x50 x51 : Int) (h : AHeap) : Prop := Loop (Den pg fn.ntmps (C [1, 1, 1, 1, 1, 0, 1, 0, 0])) ((kp.find 1000015).getD []) (K12 Q) [(5, .str x5), (6, .str x6), (50, .int .i64 x50), (51, .int .i64 x51)] h
def A15x4 (Q : QT) (x5 : List Nat) (h : AHeap) : Prop := At (K11 Q) (.exit 4) [(5, .str x5)] h
def L6t (Q : QT) (R6 : T6) (i2 o2 : Nat) (x5 x6 : List Nat) (x23 x24 : Int) (h : AHeap) : Prop :=
 bcase (decide ((x24 : Int) < x23)) (L8 Q R6 i2 o2 x5 x6 x23 x24 (((List.length x6 : Nat) : Int)) 0 h) (A6x0 Q x6 x5 h)
theorem L6den (Q : QT) (R6 : T6) (i2 o2 : Nat) (x5 x6 : List Nat) (x23 x24 : Int) (h : AHeap) (ht : L6t Q R6 i2 o2 x5 x6 x23 x24 h) : Den pg fn.ntmps (C [1, 1, 1, 1, 0, 1, 0, 0]) [(2, .ptr (some (i2, o2))), (5, .str x5), (6, .str x6), (23, .int .i64 x23), (24, .int .i64 x24)] h (K3 Q R6) :=
  den_Den (kp := kp) (@cast _ (den pg fn.ntmps kp (C [1, 1, 1, 1, 0, 1, 0, 0]) [(2, .ptr (some (i2, o2))), (5, .str x5), (6, .str x6), (23, .int .i64 x23), (24, .int .i64 x24)] h (K3 Q R6)) (by kernel_rfl) ht)
theorem L6ind (Q : QT) (i2 o2 : Nat) (x5 : List Nat) (x23 : Int) {G : Type} (J : G → List Nat → Int → AHeap → Prop) (m : G → Nat)
 (hr : ∀ (g : G) (x6 : List Nat) (x24 : Int) (h : AHeap), J g x6 x24 h → ∀ (R6 : T6), (∀ g' (x6 : List Nat) (x24 : Int) (h : AHeap), m g' < m g → J g' x6 x24 h → R6 i2 o2 x5 x6 x23 x24 h) → L6t Q R6 i2 o2 x5 x6 x23 x24 h)
 (g : G) (x6 : List Nat) (x24 : Int) (h : AHeap) (hj : J g x6 x24 h) : L6 Q i2 o2 x5 x6 x23 x24 h := by
  refine Loop.inv2 (fun g => E6 fun i2' o2' x5' x6 x23' x24 h => i2 = i2' ∧ o2 = o2' ∧ x5 = x5' ∧ x23 = x23' ∧ J g x6 x24 h) (fun g => E6 fun i2' o2' x5' x6 x23' x24 h => i2 = i2' ∧ o2 = o2' ∧ x5 = x5' ∧ x23 = x23' ∧ ∃ g', m g' < m g ∧ J g' x6 x24 h) m ?_ ?_ g ⟨rfl, rfl, rfl, rfl, hj⟩
  · intro g env h hi
    obtain ⟨i2', o2', x5', x6, x23', x24, rfl, rfl, rfl, rfl, rfl, hj⟩ := E6elim hi
    exact L6den Q (fun i2' o2' x5' x6 x23' x24 h => i2 = i2' ∧ o2 = o2' ∧ x5 = x5' ∧ x23 = x23' ∧ ∃ g', m g' < m g ∧ J g' x6 x24 h) i2 o2 x5 x6 x23 x24 h (hr g x6 x24 h hj (fun i2' o2' x5' x6 x23' x24 h => i2 = i2' ∧ o2 = o2' ∧ x5 = x5' ∧ x23 = x23' ∧ ∃ g', m g' < m g ∧ J g' x6 x24 h) fun g' x6 x24 h hlt hj => ⟨rfl, rfl, rfl, rfl, g', hlt, hj⟩)
  · intro g env h hi
    obtain ⟨i2', o2', x5', x6, x23', x24, rfl, rfl, rfl, rfl, rfl, g', hlt, hj⟩ := E6elim hi
    exact ⟨g', hlt, rfl, rfl, rfl, rfl, hj⟩
def L8t (Q : QT) (R6 : T6) (R8 : T8) (i2 o2 : Nat) (x5 x6 : List Nat) (x23 x24 x27 x28 : Int) (h : AHeap) : Prop :=
 bcase (decide ((x28 : Int) < x27)) ((0 ≤ (x28 : Int) ∧ (x28 : Int) ≤ IntKind.wrap .i64 (x28 + 1) ∧ (IntKind.wrap .i64 (x28 + 1) : Int) ≤ (List.length x6 : Nat)) ∧ (xSl (hCell h (.ptr (some (i2, o2 + 0)))) fun a_44 n_45 c_46 e_47 => xRow (hRow h (.ptr (some (i2, o2))) 2) fun cs_48 => xCons cs_48 fun c_49 r_50 => xSl (some c_49) fun a_51 n_52 c_53 e_54 => xCons r_50 fun c_55 r_56 => xSl (some c_55) fun a_57 n_58 c_59 e_60 => xNil r_56 ((hCell h (.ptr (some (i2, o2 + 0))) = hCell h (.ptr (some (i2, o2 + 0)))) ∧ SCall pg n_spec_l3Class [.agg [.slice a_51 n_52 c_53 e_54, .slice a_57 n_58 c_59 e_60], .str (sub x6 x28 (IntKind.wrap .i64 (x28 + 1)))] h fun v_61 h_62 =>
 xInt .i64 (some v_61) fun x_63 => (hCell h_62 (.ptr (some (i2, o2 + 0))) = hCell h (.ptr (some (i2, o2 + 0)))) ∧ (0 ≤ (x_63 : Int) ∧ (x_63 : Int) < (n_45 : Nat)) ∧ (xSome a_44 fun i_64 o_65 => xStr (hCell h_62 (.ptr (some (i_64, o_65 + (Int.toNat x_63) * 2 + 1)))) fun s_66 => (hCell h_62 (.ptr (some (i2, o2 + 0))) = hCell h_62 (.ptr (some (i2, o2 + 0)))) ∧ List.length x6 + List.length s_66 ≤ 9223372036854775807 ∧ (R8 i2 o2 x5 (x6 ++ s_66) x23 x24 x27 (IntKind.wrap .i64 (x28 + 1)) h_62))))) (A8x2 Q R6 x6 x24 x23 i2 o2 x5 h)
theorem L8den (Q : QT) (R6 : T6) (R8 : T8) (i2 o2 : Nat) (x5 x6 : List Nat) (x23 x24 x27 x28 : Int) (h : AHeap) (ht : L8t Q R6 R8 i2 o2 x5 x6 x23 x24 x27 x28 h) : Den pg fn.ntmps (C [1, 1, 1, 1, 0, 1, 0, 0, 1, 1, 0, 0, 0, 1, 0, 0]) [(2, .ptr (some (i2, o2))), (5, .str x5), (6, .str x6), (23, .int .i64 x23), (24, .int .i64 x24), (27, .int .i64 x27), (28, .int .i64 x28)] h (K9 Q R6 R8) :=
  den_Den (kp := kp) (@cast _ (den pg fn.ntmps kp (C [1, 1, 1, 1, 0, 1, 0, 0, 1, 1, 0, 0, 0, 1, 0, 0]) [(2, .ptr (some (i2, o2))), (5, .str x5), (6, .str x6), (23, .int .i64 x23), (24, .int .i64 x24), (27, .int .i64 x27), (28, .int .i64 x28)] h (K9 Q R6 R8)) (by kernel_rfl) ht)
theorem L8ind (Q : QT) (R6 : T6) (i2 o2 : Nat) (x5 : List Nat) (x23 x24 x27 : Int) {G : Type} (J : G → List Nat → Int → AHeap → Prop) (m : G → Nat)
 (hr : ∀ (g : G) (x6 : List Nat) (x28 : Int) (h : AHeap), J g x6 x28 h → ∀ (R8 : T8), (∀ g' (x6 : List Nat) (x28 : Int) (h : AHeap), m g' < m g → J g' x6 x28 h → R8 i2 o2 x5 x6 x23 x24 x27 x28 h) → L8t Q R6 R8 i2 o2 x5 x6 x23 x24 x27 x28 h)
 (g : G) (x6 : List Nat) (x28 : Int) (h : AHeap) (hj : J g x6 x28 h) : L8 Q R6 i2 o2 x5 x6 x23 x24 x27 x28 h := by
  refine Loop.inv2 (fun g => E8 fun i2' o2' x5' x6 x23' x24' x27' x28 h => i2 = i2' ∧ o2 = o2' ∧ x5 = x5' ∧ x23 = x23' ∧ x24 = x24' ∧ x27 = x27' ∧ J g x6 x28 h) (fun g => E8 fun i2' o2' x5' x6 x23' x24' x27' x28 h => i2 = i2' ∧ o2 = o2' ∧ x5 = x5' ∧ x23 = x23' ∧ x24 = x24' ∧ x27 = x27' ∧ ∃ g', m g' < m g ∧ J g' x6 x28 h) m ?_ ?_ g ⟨rfl, rfl, rfl, rfl, rfl, rfl, hj⟩
  · intro g env h hi
    obtain ⟨i2', o2', x5', x6, x23', x24', x27', x28, rfl, rfl, rfl, rfl, rfl, rfl, rfl, hj⟩ := E8elim hi
    exact L8den Q R6 (fun i2' o2' x5' x6 x23' x24' x27' x28 h => i2 = i2' ∧ o2 = o2' ∧ x5 = x5' ∧ x23 = x23' ∧ x24 = x24' ∧ x27 = x27' ∧ ∃ g', m g' < m g ∧ J g' x6 x28 h) i2 o2 x5 x6 x23 x24 x27 x28 h (hr g x6 x28 h hj (fun i2' o2' x5' x6 x23' x24' x27' x28 h => i2 = i2' ∧ o2 = o2' ∧ x5 = x5' ∧ x23 = x23' ∧ x24 = x24' ∧ x27 = x27' ∧ ∃ g', m g' < m g ∧ J g' x6 x28 h) fun g' x6 x28 h hlt hj => ⟨rfl, rfl, rfl, rfl, rfl, rfl, g', hlt, hj⟩)
  · intro g env h hi
    obtain ⟨i2', o2', x5', x6, x23', x24', x27', x28, rfl, rfl, rfl, rfl, rfl, rfl, rfl, g', hlt, hj⟩ := E8elim hi
    exact ⟨g', hlt, rfl, rfl, rfl, rfl, rfl, rfl, hj⟩
theorem A6x0i (Q : QT) (x6 x5 : List Nat) (h : AHeap) (ht :
 L15 Q x5 x6 (((List.length x6 : Nat) : Int)) 0 h) : A6x0 Q x6 x5 h :=
  At.mk (@cast _ ((K1 Q) (.exit 0) [(6, .str x6), (5, .str x5)] h) (by kernel_rfl) ht)
theorem A8x2i (Q : QT) (R6 : T6) (x6 : List Nat) (x24 x23 : Int) (i2 o2 : Nat) (x5 : List Nat) (h : AHeap) (ht :
 SCall pg n_spec_l3Sorted [.str x6] h fun v_67 h_68 =>
 xStr (some v_67) fun s_69 => R6 i2 o2 x5 s_69 x23 (IntKind.wrap .i64 (x24 + 1)) h_68) : A8x2 Q R6 x6 x24 x23 i2 o2 x5 h :=
  At.mk (@cast _ ((K7 Q R6) (.exit 2) [(6, .str x6), (24, .int .i64 x24), (23, .int .i64 x23), (2, .ptr (some (i2, o2))), (5, .str x5)] h) (by kernel_rfl) ht)
def L15t (Q : QT) (R15 : T15) (x5 x6 : List Nat) (x50 x51 : Int) (h : AHeap) : Prop :=
 bcase (decide ((x51 : Int) < x50)) ((0 ≤ (x51 : Int) ∧ (x51 : Int) ≤ IntKind.wrap .i64 (x51 + 1) ∧ (IntKind.wrap .i64 (x51 + 1) : Int) ≤ (List.length x6 : Nat)) ∧ (List.length x5 + List.length (sub x6 x51 (IntKind.wrap .i64 (x51 + 1))) ≤ 9223372036854775807 ∧ (R15 (x5 ++ (sub x6 x51 (IntKind.wrap .i64 (x51 + 1)))) x6 x50 (IntKind.wrap .i64 (x51 + 1)) h))) (A15x4 Q x5 h)
theorem L15den (Q : QT) (R15 : T15) (x5 x6 : List Nat) (x50 x51 : Int) (h : AHeap) (ht : L15t Q R15 x5 x6 x50 x51 h) : Den pg fn.ntmps (C [1, 1, 1, 1, 1, 0, 1, 0, 0]) [(5, .str x5), (6, .str x6), (50, .int .i64 x50), (51, .int .i64 x51)] h (K13 Q R15) :=
  den_Den (kp := kp) (@cast _ (den pg fn.ntmps kp (C [1, 1, 1, 1, 1, 0, 1, 0, 0]) [(5, .str x5), (6, .str x6), (50, .int .i64 x50), (51, .int .i64 x51)] h (K13 Q R15)) (by kernel_rfl) ht)
theorem L15ind (Q : QT) (x6 : List Nat) (x50 : Int) {G : Type} (J : G → List Nat → Int → AHeap → Prop) (m : G → Nat)
 (hr : ∀ (g : G) (x5 : List Nat) (x51 : Int) (h : AHeap), J g x5 x51 h → ∀ (R15 : T15), (∀ g' (x5 : List Nat) (x51 : Int) (h : AHeap), m g' < m g → J g' x5 x51 h → R15 x5 x6 x50 x51 h) → L15t Q R15 x5 x6 x50 x51 h)
 (g : G) (x5 : List Nat) (x51 : Int) (h : AHeap) (hj : J g x5 x51 h) : L15 Q x5 x6 x50 x51 h := by
  refine Loop.inv2 (fun g => E15 fun x5 x6' x50' x51 h => x6 = x6' ∧ x50 = x50' ∧ J g x5 x51 h) (fun g => E15 fun x5 x6' x50' x51 h => x6 = x6' ∧ x50 = x50' ∧ ∃ g', m g' < m g ∧ J g' x5 x51 h) m ?_ ?_ g ⟨rfl, rfl, hj⟩
  · intro g env h hi
    obtain ⟨x5, x6', x50', x51, rfl, rfl, rfl, hj⟩ := E15elim hi
    exact L15den Q (fun x5 x6' x50' x51 h => x6 = x6' ∧ x50 = x50' ∧ ∃ g', m g' < m g ∧ J g' x5 x51 h) x5 x6 x50 x51 h (hr g x5 x51 h hj (fun x5 x6' x50' x51 h => x6 = x6' ∧ x50 = x50' ∧ ∃ g', m g' < m g ∧ J g' x5 x51 h) fun g' x5 x51 h hlt hj => ⟨rfl, rfl, g', hlt, hj⟩)
  · intro g env h hi
    obtain ⟨x5, x6', x50', x51, rfl, rfl, rfl, g', hlt, hj⟩ := E15elim hi
    exact ⟨g', hlt, rfl, rfl, hj⟩
theorem A15x4i (Q : QT) (x5 : List Nat) (h : AHeap) (ht :
 Q (.str x5) h) : A15x4 Q x5 h :=
  At.mk (@cast _ ((K11 Q) (.exit 4) [(5, .str x5)] h) (by kernel_rfl) ht)
theorem call (a0x0 : Pt) (n0x0 c0x0 : Nat) (e0x0 : Bool) (a0x1 : Pt) (n0x1 c0x1 : Nat) (e0x1 : Bool) (x1 : List Nat) (h : AHeap) (Q : QT) (ht :
 letH (h ++ [.cells t_impl_World [.slice a0x0 n0x0 c0x0 e0x0, .slice a0x1 n0x1 c0x1 e0x1] false]) fun h_0 => xRow (hRow h_0 (.ptr (some (List.length h, 0))) 2) fun cs_1 => xCons cs_1 fun c_2 r_3 => xSl (some c_2) fun a_4 n_5 c_6 e_7 => xCons r_3 fun c_8 r_9 => xSl (some c_8) fun a_10 n_11 c_12 e_13 => xNil r_9 (SCall pg n_spec_HasClass [.agg [.slice a_4 n_5 c_6 e_7, .slice a_10 n_11 c_12 e_13], .str x1] h_0 fun v_14 h_15 =>
 xBool (some v_14) fun b_16 => bcase (!b_16) (Q (.str []) h_15) (xSl (hCell h_15 (.ptr (some (List.length h, 0 + 0)))) fun a_17 n_18 c_19 e_20 => xRow (hRow h_15 (.ptr (some (List.length h, 0))) 2) fun cs_21 => xCons cs_21 fun c_22 r_23 => xSl (some c_22) fun a_24 n_25 c_26 e_27 => xCons r_23 fun c_28 r_29 => xSl (some c_28) fun a_30 n_31 c_32 e_33 => xNil r_29 ((hCell h_15 (.ptr (some (List.length h, 0 + 0))) = hCell h_15 (.ptr (some (List.length h, 0 + 0)))) ∧ SCall pg n_spec_l3Class [.agg [.slice a_24 n_25 c_26 e_27, .slice a_30 n_31 c_32 e_33], .str x1] h_15 fun v_34 h_35 =>
 xInt .i64 (some v_34) fun x_36 => (hCell h_35 (.ptr (some (List.length h, 0 + 0))) = hCell h_15 (.ptr (some (List.length h, 0 + 0)))) ∧ (0 ≤ (x_36 : Int) ∧ (x_36 : Int) < (n_18 : Nat)) ∧ (xSome a_17 fun i_37 o_38 => xStr (hCell h_35 (.ptr (some (i_37, o_38 + (Int.toNat x_36) * 2 + 1)))) fun s_39 => (hCell h_35 (.ptr (some (List.length h, 0 + 0))) = hCell h_35 (.ptr (some (List.length h, 0 + 0)))) ∧ xSl (hCell h_35 (.ptr (some (List.length h, 0 + 0)))) fun a_40 n_41 c_42 e_43 => L6 Q (List.length h) 0 [] s_39 (((n_41 : Nat) : Int)) 0 h_35))))) : SCall pg n_spec_SupersOf [.agg [.slice a0x0 n0x0 c0x0 e0x0, .slice a0x1 n0x1 c0x1 e0x1], .str x1] h Q :=
  SCall.of_body kp (c := cod fn) (fn := fn) Go.Proofs.Try.func76 (by kernel_rfl) (by kernel_rfl) (Nat.le_of_ble_eq_true (by kernel_rfl))
    (@cast _ (den pg fn.ntmps kp (cod fn) (Env.args 0 [.agg [.slice a0x0 n0x0 c0x0 e0x0, .slice a0x1 n0x1 c0x1 e0x1], .str x1]) h (KR Q)) (by kernel_rfl) ht)
end F_spec_SupersOf
end Go.Sim

/- Printed by wip/tool: what the functions' bodies do, in the words of 'den'. -/
set_option maxRecDepth 100000
set_option linter.unusedVariables false
namespace Go.Sim
open Go Go.RowKit
/-! Function loop.example/instancesearch/impl.HasClass -/
namespace F_impl_HasClass
noncomputable abbrev fn : Func := Go.Proofs.Try.f150
def kp : Keeps := []
noncomputable def C (p : List Nat) : Code := (cod fn).sub p
def KR (Q : QT) : KT := retA pg fn.results.toList Q
theorem call (a0x0 : Pt) (n0x0 c0x0 : Nat) (e0x0 : Bool) (a0x1 : Pt) (n0x1 c0x1 : Nat) (e0x1 : Bool) (x1 : List Nat) (h : AHeap) (Q : QT) (ht :
 letH (h ++ [.cells t_impl_World [.slice a0x0 n0x0 c0x0 e0x0, .slice a0x1 n0x1 c0x1 e0x1] false]) fun h_0 => xRow (hRow h_0 (.ptr (some (List.length h, 0))) 2) fun cs_1 => xCons cs_1 fun c_2 r_3 => xSl (some c_2) fun a_4 n_5 c_6 e_7 => xCons r_3 fun c_8 r_9 => xSl (some c_8) fun a_10 n_11 c_12 e_13 => xNil r_9 (SCall pg n_impl_WorldValid [.agg [.slice a_4 n_5 c_6 e_7, .slice a_10 n_11 c_12 e_13]] h_0 fun v_14 h_15 =>
 xBool (some v_14) fun b_16 => bcase b_16 (xSl (hCell h_15 (.ptr (some (List.length h, 0 + 0)))) fun a_17 n_18 c_19 e_20 => SCall pg n_impl_known [.slice a_17 n_18 c_19 e_20, .str x1] h_15 fun v_21 h_22 =>
 xBool (some v_21) fun b_23 => Q (.bool b_23) h_22) (Q (.bool false) h_15))) : SCall pg n_impl_HasClass [.agg [.slice a0x0 n0x0 c0x0 e0x0, .slice a0x1 n0x1 c0x1 e0x1], .str x1] h Q :=
  SCall.of_body kp (c := cod fn) (fn := fn) Go.Proofs.Try.func150 (by kernel_rfl) (by kernel_rfl) (Nat.le_of_ble_eq_true (by kernel_rfl))
    (@cast _ (den pg fn.ntmps kp (cod fn) (Env.args 0 [.agg [.slice a0x0 n0x0 c0x0 e0x0, .slice a0x1 n0x1 c0x1 e0x1], .str x1]) h (KR Q)) (by kernel_rfl) ht)
end F_impl_HasClass
/-! Function loop.example/instancesearch/spec.HasClass -/
namespace F_spec_HasClass
noncomputable abbrev fn : Func := Go.Proofs.Try.f115
def kp : Keeps := []
noncomputable def C (p : List Nat) : Code := (cod fn).sub p
def KR (Q : QT) : KT := retA pg fn.results.toList Q
theorem call (a0x0 : Pt) (n0x0 c0x0 : Nat) (e0x0 : Bool) (a0x1 : Pt) (n0x1 c0x1 : Nat) (e0x1 : Bool) (x1 : List Nat) (h : AHeap) (Q : QT) (ht :
 letH (h ++ [.cells t_impl_World [.slice a0x0 n0x0 c0x0 e0x0, .slice a0x1 n0x1 c0x1 e0x1] false]) fun h_0 => xRow (hRow h_0 (.ptr (some (List.length h, 0))) 2) fun cs_1 => xCons cs_1 fun c_2 r_3 => xSl (some c_2) fun a_4 n_5 c_6 e_7 => xCons r_3 fun c_8 r_9 => xSl (some c_8) fun a_10 n_11 c_12 e_13 => xNil r_9 (SCall pg n_spec_WorldValid [.agg [.slice a_4 n_5 c_6 e_7, .slice a_10 n_11 c_12 e_13]] h_0 fun v_14 h_15 =>
 xBool (some v_14) fun b_16 => bcase b_16 (xRow (hRow h_15 (.ptr (some (List.length h, 0))) 2) fun cs_17 => xCons cs_17 fun c_18 r_19 => xSl (some c_18) fun a_20 n_21 c_22 e_23 => xCons r_19 fun c_24 r_25 => xSl (some c_24) fun a_26 n_27 c_28 e_29 => xNil r_25 (SCall pg n_spec_l3Class [.agg [.slice a_20 n_21 c_22 e_23, .slice a_26 n_27 c_28 e_29], .str x1] h_15 fun v_30 h_31 =>
 xInt .i64 (some v_30) fun x_32 => Q (.bool (decide ((x_32 : Int) ≥ 0))) h_31)) (Q (.bool false) h_15))) : SCall pg n_spec_HasClass [.agg [.slice a0x0 n0x0 c0x0 e0x0, .slice a0x1 n0x1 c0x1 e0x1], .str x1] h Q :=
  SCall.of_body kp (c := cod fn) (fn := fn) Go.Proofs.Try.func115 (by kernel_rfl) (by kernel_rfl) (Nat.le_of_ble_eq_true (by kernel_rfl))
    (@cast _ (den pg fn.ntmps kp (cod fn) (Env.args 0 [.agg [.slice a0x0 n0x0 c0x0 e0x0, .slice a0x1 n0x1 c0x1 e0x1], .str x1]) h (KR Q)) (by kernel_rfl) ht)
end F_spec_HasClass
/-! Function loop.example/instancesearch/impl.SupersOf -/
namespace F_impl_SupersOf
noncomputable abbrev fn : Func := Go.Proofs.Try.f119
def kp : Keeps := [(3000005, [2, 5]), (1000005, [1, 2, 5, 6]), (4000006, [6, 2, 1, 5]), (3000012, [8]), (1000012, [5, 8, 43, 44, 45]), (4000016, [45, 44, 43, 5, 8])]
noncomputable def C (p : List Nat) : Code := (cod fn).sub p
def KR (Q : QT) : KT := retA pg fn.results.toList Q
abbrev T5 := List Nat → Nat → Nat → List Nat → Int → AHeap → Prop
def E5 (R5 : T5) (env : Env) (h : AHeap) : Prop := eVal 1 env fun v env => xStr (some v) fun x1 => eVal 2 env fun v env => xPtr (some v) fun a => xSome a fun i2 o2 => eVal 5 env fun v env => xStr (some v) fun x5 => eVal 6 env fun v env => eInt .i64 v fun x6 => eNil env (R5 x1 i2 o2 x5 x6 h)
theorem E5elim {R5 : T5} {env : Env} {h : AHeap} (hi : E5 R5 env h) : ∃ x1, ∃ i2, ∃ o2, ∃ x5, ∃ x6, env = [(1, .str x1), (2, .ptr (some (i2, o2))), (5, .str x5), (6, .int .i64 x6)] ∧ R5 x1 i2 o2 x5 x6 h := by
  unfold E5 at hi
  have hi0 := hi
  clear hi
  obtain ⟨v, env, rfl, hi1⟩ := eVal_elim hi0
  obtain ⟨x1, rfl, hi2⟩ := xStr_elim hi1
  obtain ⟨v, env, rfl, hi3⟩ := eVal_elim hi2
  obtain ⟨a, rfl, hi4⟩ := xPtr_elim hi3
  obtain ⟨i2, o2, rfl, hi5⟩ := xSome_elim hi4
  obtain ⟨v, env, rfl, hi6⟩ := eVal_elim hi5
  obtain ⟨x5, rfl, hi7⟩ := xStr_elim hi6
  obtain ⟨v, env, rfl, hi8⟩ := eVal_elim hi7
  obtain ⟨x6, rfl, hi9⟩ := eInt_elim hi8
  obtain ⟨rfl, hi10⟩ := eNil_elim hi9
  have hi := hi10
  exact ⟨x1, i2, o2, x5, x6, rfl, hi⟩
abbrev T12 := List Nat → List Nat → Pt → Nat → Nat → Bool → Int → Int → AHeap → Prop
def E12 (R12 : T12) (env : Env) (h : AHeap) : Prop := eVal 5 env fun v env => xStr (some v) fun x5 => eVal 8 env fun v env => xStr (some v) fun x8 => eVal 43 env fun v env => xSl (some v) fun a43 n43 c43 e43 => eVal 44 env fun v env => eInt .i64 v fun x44 => eVal 45 env fun v env => eInt .i64 v fun x45 => eNil env (R12 x5 x8 a43 n43 c43 e43 x44 x45 h)
theorem E12elim {R12 : T12} {env : Env} {h : AHeap} (hi : E12 R12 env h) : ∃ x5, ∃ x8, ∃ a43, ∃ n43, ∃ c43, ∃ e43, ∃ x44, ∃ x45, env = [(5, .str x5), (8, .str x8), (43, .slice a43 n43 c43 e43), (44, .int .i64 x44), (45, .int .i64 x45)] ∧ R12 x5 x8 a43 n43 c43 e43 x44 x45 h := by
  unfold E12 at hi
  have hi0 := hi
  clear hi
  obtain ⟨v, env, rfl, hi1⟩ := eVal_elim hi0
  obtain ⟨x5, rfl, hi2⟩ := xStr_elim hi1
  obtain ⟨v, env, rfl, hi3⟩ := eVal_elim hi2
  obtain ⟨x8, rfl, hi4⟩ := xStr_elim hi3
  obtain ⟨v, env, rfl, hi5⟩ := eVal_elim hi4
  obtain ⟨a43, n43, c43, e43, rfl, hi6⟩ := xSl_elim hi5
  obtain ⟨v, env, rfl, hi7⟩ := eVal_elim hi6
  obtain ⟨x44, rfl, hi8⟩ := eInt_elim hi7
  obtain ⟨v, env, rfl, hi9⟩ := eVal_elim hi8
  obtain ⟨x45, rfl, hi10⟩ := eInt_elim hi9
  obtain ⟨rfl, hi11⟩ := eNil_elim hi10
  have hi := hi11
  exact ⟨x5, x8, a43, n43, c43, e43, x44, x45, rfl, hi⟩
def K0 (Q : QT) : KT := andThen (fun env' h' => (match kp.find 4000010 with | some ks => Den pg fn.ntmps (C [1, 1, 1, 1]) (env'.keep ks) h' (KR Q) | none => den pg fn.ntmps kp (C [1, 1, 1, 1]) env' h' (KR Q))) (KR Q)
def K1 (Q : QT) : KT := onExit 0 (K0 Q)
def K2 (Q : QT) : KT := left kp 5 (K1 Q)
def K3 (Q : QT) (R5 : T5) : KT := rnd ((kp.find 1000005).getD []) (E5 R5) (K2 Q)
def K4 (Q : QT) : KT := andThen (fun env' h' => (match kp.find 4000017 with | some ks => Den pg fn.ntmps (C [1, 1, 1, 1, 1, 1]) (env'.keep ks) h' (KR Q) | none => den pg fn.ntmps kp (C [1, 1, 1, 1, 1, 1]) env' h' (KR Q))) (KR Q)
def K5 (Q : QT) : KT := onExit 2 (K4 Q)
def K6 (Q : QT) : KT := left kp 12 (K5 Q)
def K7 (Q : QT) (R12 : T12) : KT := rnd ((kp.find 1000012).getD []) (E12 R12) (K6 Q)
def L5 (Q : QT) (x1 : List Nat) (i2 o2 : Nat) (x5 : List Nat) (x6 : Int) (h : AHeap) : Prop := Loop (Den pg fn.ntmps (C [1, 1, 1, 0, 1, 0, 0])) ((kp.find 1000005).getD []) (K2 Q) [(1, .str x1), (2, .ptr (some (i2, o2))), (5, .str x5), (6, .int .i64 x6)] h
def J6 (Q : QT) (R5 : T5) (x6 : Int) (i2 o2 : Nat) (x1 x5 : List Nat) (h : AHeap) : Prop := Den pg fn.ntmps (C [1, 1, 1, 0, 1, 0, 0, 1, 1]) [(6, .int .i64 x6), (2, .ptr (some (i2, o2))), (1, .str x1), (5, .str x5)] h (K3 Q R5)
def A5x0 (Q : QT) (i2 o2 : Nat) (x5 : List Nat) (h : AHeap) : Prop := At (K1 Q) (.exit 0) [(2, .ptr (some (i2, o2))), (5, .str x5)] h
def L12 (Q : QT) (x5 x8 : List Nat) (a43 : Pt) (n43 c43 : Nat) (e43 : Bool) (x44 x45 : Int) (h : AHeap) : Prop := Loop (Den pg fn.ntmps (C [1, 1, 1, 1, 1, 0, 1, 0, 0])) ((kp.find 1000012).getD []) (K6 Q) [(5, .str x5), (8, .str x8), (43, .slice a43 n43 c43 e43), (44, .int .i64 x44), (45, .int .i64 x45)] h
def J16 (Q : QT) (R12 : T12) (x45 x44 : Int) (a43 : Pt) (n43 c43 : Nat) (e43 : Bool) (x5 x8 : List Nat) (h : AHeap) : Prop := Den pg fn.ntmps (C [1, 1, 1, 1, 1, 0, 1, 0, 0, 1, 1, 1]) [(45, .int .i64 x45), (44, .int .i64 x44), (43, .slice a43 n43 c43 e43), (5, .str x5), (8, .str x8)] h (K7 Q R12)
def A12x2 (Q : QT) (x8 : List Nat) (h : AHeap) : Prop := At (K5 Q) (.exit 2) [(8, .str x8)] h
def L5t (Q : QT) (R5 : T5) (x1 : List Nat) (i2 o2 : Nat) (x5 : List Nat) (x6 : Int) (h : AHeap) : Prop :=
 bcase (decide ((x6 : Int) ≥ 0)) (xSl (hCell h (.ptr (some (i2, o2 + 0)))) fun a_21 n_22 c_23 e_24 => (0 ≤ (x6 : Int) ∧ (x6 : Int) < (n_22 : Nat)) ∧ (xSome a_21 fun i_25 o_26 => xRow (hRow h (.ptr (some (i_25, o_26 + (Int.toNat x6) * 2))) 2) fun cs_27 => xCons cs_27 fun c_28 r_29 => xStr (some c_28) fun s_30 => xCons r_29 fun c_31 r_32 => xStr (some c_31) fun s_33 => xNil r_32 (letH (h ++ [.cells t_impl_Class [.str [], .str []] false]) fun h_34 => xHeap (hStore h_34 (.ptr (some (List.length h, 0))) [.str s_30, .str s_33]) fun h_35 => xStr (hCell h_35 (.ptr (some (List.length h, 0 + 0)))) fun s_36 => bcase (decide (s_36 = x1)) (xStr (hCell h_35 (.ptr (some (List.length h, 0 + 1)))) fun s_37 => List.length x5 + List.length s_37 ≤ 9223372036854775807 ∧ (J6 Q R5 x6 i2 o2 x1 (x5 ++ s_37) h_35)) (xStr (hCell h_35 (.ptr (some (List.length h, 0 + 0)))) fun s_38 => SCall pg n_strings_Contains [.str x5, .str s_38] h_35 fun v_39 h_40 =>
 xBool (some v_39) fun b_41 => bcase b_41 (xStr (hCell h_40 (.ptr (some (List.length h, 0 + 1)))) fun s_42 => List.length x5 + List.length s_42 ≤ 9223372036854775807 ∧ (J6 Q R5 x6 i2 o2 x1 (x5 ++ s_42) h_40)) (J6 Q R5 x6 i2 o2 x1 x5 h_40))))) (A5x0 Q i2 o2 x5 h)
theorem L5den (Q : QT) (R5 : T5) (x1 : List Nat) (i2 o2 : Nat) (x5 : List Nat) (x6 : Int) (h : AHeap) (ht : L5t Q R5 x1 i2 o2 x5 x6 h) : Den pg fn.ntmps (C [1, 1, 1, 0, 1, 0, 0]) [(1, .str x1), (2, .ptr (some (i2, o2))), (5, .str x5), (6, .int .i64 x6)] h (K3 Q R5) :=
  den_Den (kp := kp) (@cast _ (den pg fn.ntmps kp (C [1, 1, 1, 0, 1, 0, 0]) [(1, .str x1), (2, .ptr (some (i2, o2))), (5, .str x5), (6, .int .i64 x6)] h (K3 Q R5)) (by kernel_rfl) ht)
theorem L5ind (Q : QT) (x1 : List Nat) (i2 o2 : Nat) {G : Type} (J : G → List Nat → Int → AHeap → Prop) (m : G → Nat)
 (hr : ∀ (g : G) (x5 : List Nat) (x6 : Int) (h : AHeap), J g x5 x6 h → ∀ (R5 : T5), (∀ g' (x5 : List Nat) (x6 : Int) (h : AHeap), m g' < m g → J g' x5 x6 h → R5 x1 i2 o2 x5 x6 h) → L5t Q R5 x1 i2 o2 x5 x6 h)
 (g : G) (x5 : List Nat) (x6 : Int) (h : AHeap) (hj : J g x5 x6 h) : L5 Q x1 i2 o2 x5 x6 h := by
  refine Loop.inv2 (fun g => E5 fun x1' i2' o2' x5 x6 h => x1 = x1' ∧ i2 = i2' ∧ o2 = o2' ∧ J g x5 x6 h) (fun g => E5 fun x1' i2' o2' x5 x6 h => x1 = x1' ∧ i2 = i2' ∧ o2 = o2' ∧ ∃ g', m g' < m g ∧ J g' x5 x6 h) m ?_ ?_ g ⟨rfl, rfl, rfl, hj⟩
  · intro g env h hi
    obtain ⟨x1', i2', o2', x5, x6, rfl, rfl, rfl, rfl, hj⟩ := E5elim hi
    exact L5den Q (fun x1' i2' o2' x5 x6 h => x1 = x1' ∧ i2 = i2' ∧ o2 = o2' ∧ ∃ g', m g' < m g ∧ J g' x5 x6 h) x1 i2 o2 x5 x6 h (hr g x5 x6 h hj (fun x1' i2' o2' x5 x6 h => x1 = x1' ∧ i2 = i2' ∧ o2 = o2' ∧ ∃ g', m g' < m g ∧ J g' x5 x6 h) fun g' x5 x6 h hlt hj => ⟨rfl, rfl, rfl, g', hlt, hj⟩)
  · intro g env h hi
    obtain ⟨x1', i2', o2', x5, x6, rfl, rfl, rfl, rfl, g', hlt, hj⟩ := E5elim hi
    exact ⟨g', hlt, rfl, rfl, rfl, hj⟩
theorem J6i (Q : QT) (R5 : T5) (x6 : Int) (i2 o2 : Nat) (x1 x5 : List Nat) (h : AHeap) (ht :
 R5 x1 i2 o2 x5 (IntKind.wrap .i64 (x6 - 1)) h) : J6 Q R5 x6 i2 o2 x1 x5 h :=
  den_Den (kp := kp) (@cast _ (den pg fn.ntmps kp (C [1, 1, 1, 0, 1, 0, 0, 1, 1]) [(6, .int .i64 x6), (2, .ptr (some (i2, o2))), (1, .str x1), (5, .str x5)] h (K3 Q R5)) (by kernel_rfl) ht)
theorem A5x0i (Q : QT) (i2 o2 : Nat) (x5 : List Nat) (h : AHeap) (ht :
 xSl (hCell h (.ptr (some (i2, o2 + 0)))) fun a_43 n_44 c_45 e_46 => L12 Q x5 [] a_43 n_44 c_45 e_46 (((n_44 : Nat) : Int)) 0 h) : A5x0 Q i2 o2 x5 h :=
  At.mk (@cast _ ((K1 Q) (.exit 0) [(2, .ptr (some (i2, o2))), (5, .str x5)] h) (by kernel_rfl) ht)
def L12t (Q : QT) (R12 : T12) (x5 x8 : List Nat) (a43 : Pt) (n43 c43 : Nat) (e43 : Bool) (x44 x45 : Int) (h : AHeap) : Prop :=
 bcase (decide ((x45 : Int) < x44)) ((0 ≤ (x45 : Int) ∧ (x45 : Int) < (n43 : Nat)) ∧ (xSome a43 fun i_47 o_48 => xRow (hRow h (.ptr (some (i_47, o_48 + (Int.toNat x45) * 2))) 2) fun cs_49 => xCons cs_49 fun c_50 r_51 => xStr (some c_50) fun s_52 => xCons r_51 fun c_53 r_54 => xStr (some c_53) fun s_55 => xNil r_54 (letH (h ++ [.cells t_impl_Class [.str [], .str []] false]) fun h_56 => xHeap (hStore h_56 (.ptr (some (List.length h, 0))) [.str s_52, .str s_55]) fun h_57 => xStr (hCell h_57 (.ptr (some (List.length h, 0 + 0)))) fun s_58 => SCall pg n_strings_Contains [.str x5, .str s_58] h_57 fun v_59 h_60 =>
 xBool (some v_59) fun b_61 => bcase b_61 (xStr (hCell h_60 (.ptr (some (List.length h, 0 + 0)))) fun s_62 => List.length x8 + List.length s_62 ≤ 9223372036854775807 ∧ (J16 Q R12 x45 x44 a43 n43 c43 e43 x5 (x8 ++ s_62) h_60)) (J16 Q R12 x45 x44 a43 n43 c43 e43 x5 x8 h_60)))) (A12x2 Q x8 h)
theorem L12den (Q : QT) (R12 : T12) (x5 x8 : List Nat) (a43 : Pt) (n43 c43 : Nat) (e43 : Bool) (x44 x45 : Int) (h : AHeap) (ht : L12t Q R12 x5 x8 a43 n43 c43 e43 x44 x45 h) : Den pg fn.ntmps (C [1, 1, 1, 1, 1, 0, 1, 0, 0]) [(5, .str x5), (8, .str x8), (43, .slice a43 n43 c43 e43), (44, .int .i64 x44), (45, .int .i64 x45)] h (K7 Q R12) :=
  den_Den (kp := kp) (@cast _ (den pg fn.ntmps kp (C [1, 1, 1, 1, 1, 0, 1, 0, 0]) [(5, .str x5), (8, .str x8), (43, .slice a43 n43 c43 e43), (44, .int .i64 x44), (45, .int .i64 x45)] h (K7 Q R12)) (by kernel_rfl) ht)
theorem L12ind (Q : QT) (x5 : List Nat) (a43 : Pt) (n43 c43 : Nat) (e43 : Bool) (x44 : Int) {G : Type} (J : G → List Nat → Int → AHeap → Prop) (m : G → Nat)
 (hr : ∀ (g : G) (x8 : List Nat) (x45 : Int) (h : AHeap), J g x8 x45 h → ∀ (R12 : T12), (∀ g' (x8 : List Nat) (x45 : Int) (h : AHeap), m g' < m g → J g' x8 x45 h → R12 x5 x8 a43 n43 c43 e43 x44 x45 h) → L12t Q R12 x5 x8 a43 n43 c43 e43 x44 x45 h)
 (g : G) (x8 : List Nat) (x45 : Int) (h : AHeap) (hj : J g x8 x45 h) : L12 Q x5 x8 a43 n43 c43 e43 x44 x45 h := by
  refine Loop.inv2 (fun g => E12 fun x5' x8 a43' n43' c43' e43' x44' x45 h => x5 = x5' ∧ a43 = a43' ∧ n43 = n43' ∧ c43 = c43' ∧ e43 = e43' ∧ x44 = x44' ∧ J g x8 x45 h) (fun g => E12 fun x5' x8 a43' n43' c43' e43' x44' x45 h => x5 = x5' ∧ a43 = a43' ∧ n43 = n43' ∧ c43 = c43' ∧ e43 = e43' ∧ x44 = x44' ∧ ∃ g', m g' < m g ∧ J g' x8 x45 h) m ?_ ?_ g ⟨rfl, rfl, rfl, rfl, rfl, rfl, hj⟩
  · intro g env h hi
    obtain ⟨x5', x8, a43', n43', c43', e43', x44', x45, rfl, rfl, rfl, rfl, rfl, rfl, rfl, hj⟩ := E12elim hi
    exact L12den Q (fun x5' x8 a43' n43' c43' e43' x44' x45 h => x5 = x5' ∧ a43 = a43' ∧ n43 = n43' ∧ c43 = c43' ∧ e43 = e43' ∧ x44 = x44' ∧ ∃ g', m g' < m g ∧ J g' x8 x45 h) x5 x8 a43 n43 c43 e43 x44 x45 h (hr g x8 x45 h hj (fun x5' x8 a43' n43' c43' e43' x44' x45 h => x5 = x5' ∧ a43 = a43' ∧ n43 = n43' ∧ c43 = c43' ∧ e43 = e43' ∧ x44 = x44' ∧ ∃ g', m g' < m g ∧ J g' x8 x45 h) fun g' x8 x45 h hlt hj => ⟨rfl, rfl, rfl, rfl, rfl, rfl, g', hlt, hj⟩)
  · intro g env h hi
    obtain ⟨x5', x8, a43', n43', c43', e43', x44', x45, rfl, rfl, rfl, rfl, rfl, rfl, rfl, g', hlt, hj⟩ := E12elim hi
    exact ⟨g', hlt, rfl, rfl, rfl, rfl, rfl, rfl, hj⟩
theorem J16i (Q : QT) (R12 : T12) (x45 x44 : Int) (a43 : Pt) (n43 c43 : Nat) (e43 : Bool) (x5 x8 : List Nat) (h : AHeap) (ht :
 R12 x5 x8 a43 n43 c43 e43 x44 (IntKind.wrap .i64 (x45 + 1)) h) : J16 Q R12 x45 x44 a43 n43 c43 e43 x5 x8 h :=
  den_Den (kp := kp) (@cast _ (den pg fn.ntmps kp (C [1, 1, 1, 1, 1, 0, 1, 0, 0, 1, 1, 1]) [(45, .int .i64 x45), (44, .int .i64 x44), (43, .slice a43 n43 c43 e43), (5, .str x5), (8, .str x8)] h (K7 Q R12)) (by kernel_rfl) ht)
theorem A12x2i (Q : QT) (x8 : List Nat) (h : AHeap) (ht :
 Q (.str x8) h) : A12x2 Q x8 h :=
  At.mk (@cast _ ((K5 Q) (.exit 2) [(8, .str x8)] h) (by kernel_rfl) ht)
theorem call (a0x0 : Pt) (n0x0 c0x0 : Nat) (e0x0 : Bool) (a0x1 : Pt) (n0x1 c0x1 : Nat) (e0x1 : Bool) (x1 : List Nat) (h : AHeap) (Q : QT) (ht :
 letH (h ++ [.cells t_impl_World [.slice a0x0 n0x0 c0x0 e0x0, .slice a0x1 n0x1 c0x1 e0x1] false]) fun h_0 => xRow (hRow h_0 (.ptr (some (List.length h, 0))) 2) fun cs_1 => xCons cs_1 fun c_2 r_3 => xSl (some c_2) fun a_4 n_5 c_6 e_7 => xCons r_3 fun c_8 r_9 => xSl (some c_8) fun a_10 n_11 c_12 e_13 => xNil r_9 (SCall pg n_impl_HasClass [.agg [.slice a_4 n_5 c_6 e_7, .slice a_10 n_11 c_12 e_13], .str x1] h_0 fun v_14 h_15 =>
 xBool (some v_14) fun b_16 => bcase (!b_16) (Q (.str []) h_15) (xSl (hCell h_15 (.ptr (some (List.length h, 0 + 0)))) fun a_17 n_18 c_19 e_20 => L5 Q x1 (List.length h) 0 [] (IntKind.wrap .i64 ((((n_18 : Nat) : Int)) - 1)) h_15))) : SCall pg n_impl_SupersOf [.agg [.slice a0x0 n0x0 c0x0 e0x0, .slice a0x1 n0x1 c0x1 e0x1], .str x1] h Q :=
  SCall.of_body kp (c := cod fn) (fn := fn) Go.Proofs.Try.func119 (by kernel_rfl) (by kernel_rfl) (Nat.le_of_ble_eq_true (by kernel_rfl))
    (@cast _ (den pg fn.ntmps kp (cod fn) (Env.args 0 [.agg [.slice a0x0 n0x0 c0x0 e0x0, .slice a0x1 n0x1 c0x1 e0x1], .str x1]) h (KR Q)) (by kernel_rfl) ht)
end F_impl_SupersOf
end Go.Sim
