/- A part of the proof of a statement of this seat: see the text that holds the theorem. No condition. -/
import Derived.Test.YtpbfjfcildpehaaGreatNm
set_option linter.unusedVariables false
set_option linter.unusedSimpArgs false
set_option linter.all false
/- Printed by wip/tool: what the functions' bodies do, in the words of 'den'. -/
set_option maxRecDepth 100000
set_option linter.unusedVariables false
namespace Go.Sim
open Go Go.RowKit
/-! Function loop.example/instancesearch/spec.l13Find -/
namespace F_spec_l13Find
noncomputable abbrev fn : Func := Go.Proofs.Tryz.f83
def kp : Keeps := [(3000002, [4]), (1000002, [0, 1, 5])]
noncomputable def C (p : List Nat) : Code := (cod fn).sub p
def KR (Q : QT) : KT := retA pg fn.results.toList Q
abbrev T2 := List Nat → Int → Int → AHeap → Prop
def E2 (R2 : T2) (env : Env) (h : AHeap) : Prop := eVal 0 env fun v env => xStr (some v) fun x0 => eVal 1 env fun v env => eInt .u8 v fun x1 => eVal 5 env fun v env => eInt .i64 v fun x5 => eNil env (R2 x0 x1 x5 h)
theorem E2elim {R2 : T2} {env : Env} {h : AHeap} (hi : E2 R2 env h) : ∃ x0, ∃ x1, ∃ x5, env = [(0, .str x0), (1, .int .u8 x1), (5, .int .i64 x5)] ∧ R2 x0 x1 x5 h := by
  unfold E2 at hi
  have hi0 := hi
  clear hi
  obtain ⟨v, env, rfl, hi1⟩ := eVal_elim hi0
  obtain ⟨x0, rfl, hi2⟩ := xStr_elim hi1
  obtain ⟨v, env, rfl, hi3⟩ := eVal_elim hi2
  obtain ⟨x1, rfl, hi4⟩ := eInt_elim hi3
  obtain ⟨v, env, rfl, hi5⟩ := eVal_elim hi4
  obtain ⟨x5, rfl, hi6⟩ := eInt_elim hi5
  obtain ⟨rfl, hi7⟩ := eNil_elim hi6
  have hi := hi7
  exact ⟨x0, x1, x5, rfl, hi⟩
def K0 (Q : QT) : KT := andThen (fun env' h' => (match kp.find 4000006 with | some ks => Den pg fn.ntmps (C [1, 1]) (env'.keep ks) h' (KR Q) | none => den pg fn.ntmps kp (C [1, 1]) env' h' (KR Q))) (KR Q)
def K1 (Q : QT) : KT := onExit 0 (K0 Q)
def K2 (Q : QT) : KT := left kp 2 (K1 Q)
def K3 (Q : QT) (R2 : T2) : KT := rnd ((kp.find 1000002).getD []) (E2 R2) (K2 Q)
def L2 (Q : QT) (x0 : List Nat) (x1 x5 : Int) (h : AHeap) : Prop := Loop (Den pg fn.ntmps (C [1, 0, 1, 0, 0])) ((kp.find 1000002).getD []) (K2 Q) [(0, .str x0), (1, .int .u8 x1), (5, .int .i64 x5)] h
def A2x0 (Q : QT) (h : AHeap) : Prop := At (K1 Q) (.exit 0) [(4, .undef)] h
def L2t (Q : QT) (R2 : T2) (x0 : List Nat) (x1 x5 : Int) (h : AHeap) : Prop :=
 bcase (decide ((x5 : Int) < (((List.length x0 : Nat) : Int)))) (byteAt x0 x5 fun b_0 => bcase ((((b_0 : Nat) : Int) : Int) == x1) (Q (.int .i64 x5) h) (R2 x0 x1 (IntKind.wrap .i64 (x5 + 1)) h)) (A2x0 Q h)
theorem L2den (Q : QT) (R2 : T2) (x0 : List Nat) (x1 x5 : Int) (h : AHeap) (ht : L2t Q R2 x0 x1 x5 h) : Den pg fn.ntmps (C [1, 0, 1, 0, 0]) [(0, .str x0), (1, .int .u8 x1), (5, .int .i64 x5)] h (K3 Q R2) :=
  den_Den (kp := kp) (@cast _ (den pg fn.ntmps kp (C [1, 0, 1, 0, 0]) [(0, .str x0), (1, .int .u8 x1), (5, .int .i64 x5)] h (K3 Q R2)) (by kernel_rfl) ht)
theorem L2ind (Q : QT) (x0 : List Nat) (x1 : Int) {G : Type} (J : G → Int → AHeap → Prop) (m : G → Nat)
 (hr : ∀ (g : G) (x5 : Int) (h : AHeap), J g x5 h → ∀ (R2 : T2), (∀ g' (x5 : Int) (h : AHeap), m g' < m g → J g' x5 h → R2 x0 x1 x5 h) → L2t Q R2 x0 x1 x5 h)
 (g : G) (x5 : Int) (h : AHeap) (hj : J g x5 h) : L2 Q x0 x1 x5 h := by
  refine Loop.inv2 (fun g => E2 fun x0' x1' x5 h => x0 = x0' ∧ x1 = x1' ∧ J g x5 h) (fun g => E2 fun x0' x1' x5 h => x0 = x0' ∧ x1 = x1' ∧ ∃ g', m g' < m g ∧ J g' x5 h) m ?_ ?_ g ⟨rfl, rfl, hj⟩
  · intro g env h hi
    obtain ⟨x0', x1', x5, rfl, rfl, rfl, hj⟩ := E2elim hi
    exact L2den Q (fun x0' x1' x5 h => x0 = x0' ∧ x1 = x1' ∧ ∃ g', m g' < m g ∧ J g' x5 h) x0 x1 x5 h (hr g x5 h hj (fun x0' x1' x5 h => x0 = x0' ∧ x1 = x1' ∧ ∃ g', m g' < m g ∧ J g' x5 h) fun g' x5 h hlt hj => ⟨rfl, rfl, g', hlt, hj⟩)
  · intro g env h hi
    obtain ⟨x0', x1', x5, rfl, rfl, rfl, g', hlt, hj⟩ := E2elim hi
    exact ⟨g', hlt, rfl, rfl, hj⟩
theorem A2x0i (Q : QT) (h : AHeap) (ht :
 Q (.int .i64 (-1)) h) : A2x0 Q h :=
  At.mk (@cast _ ((K1 Q) (.exit 0) [(4, .undef)] h) (by kernel_rfl) ht)
theorem call (x0 : List Nat) (x1 : Int) (h : AHeap) (Q : QT) (ht :
 L2 Q x0 x1 0 h) : SCall pg n_spec_l13Find [.str x0, .int .u8 x1] h Q :=
  SCall.of_body kp (c := cod fn) (fn := fn) Go.Proofs.Tryz.func83 (by kernel_rfl) (by kernel_rfl) (Nat.le_of_ble_eq_true (by kernel_rfl))
    (@cast _ (den pg fn.ntmps kp (cod fn) (Env.args 0 [.str x0, .int .u8 x1]) h (KR Q)) (by kernel_rfl) ht)
end F_spec_l13Find
/-! Function loop.example/instancesearch/spec.l1Arity -/
namespace F_spec_l1Arity
noncomputable abbrev fn : Func := Go.Proofs.Tryz.f139
def kp : Keeps := [(4000008, [])]
noncomputable def C (p : List Nat) : Code := (cod fn).sub p
def KR (Q : QT) : KT := retA pg fn.results.toList Q
def J8 (Q : QT) (h : AHeap) : Prop := Den pg fn.ntmps (C [1, 1]) [] h (KR Q)
theorem J8i (Q : QT) (h : AHeap) (ht :
 Q (.int .i64 0) h) : J8 Q h :=
  den_Den (kp := kp) (@cast _ (den pg fn.ntmps kp (C [1, 1]) [] h (KR Q)) (by kernel_rfl) ht)
theorem call (x0 : Int) (h : AHeap) (Q : QT) (ht :
 SCall pg n_spec_l13Find [.str ([105, 98, 117, 108, 109, 112, 120, 121, 122, 88, 89, 90]), .int .u8 x0] h fun v_0 h_1 =>
 xInt .i64 (some v_0) fun x_2 => bcase (decide ((x_2 : Int) < 0)) (Q (.int .i64 (-1)) h_1) (bcase ((x_2 : Int) == 3) (Q (.int .i64 1) h_1) (bcase ((x_2 : Int) == 4) (Q (.int .i64 1) h_1) (bcase ((x_2 : Int) == 5) (Q (.int .i64 2) h_1) (J8 Q h_1))))) : SCall pg n_spec_l1Arity [.int .u8 x0] h Q :=
  SCall.of_body kp (c := cod fn) (fn := fn) Go.Proofs.Tryz.func139 (by kernel_rfl) (by kernel_rfl) (Nat.le_of_ble_eq_true (by kernel_rfl))
    (@cast _ (den pg fn.ntmps kp (cod fn) (Env.args 0 [.int .u8 x0]) h (KR Q)) (by kernel_rfl) ht)
end F_spec_l1Arity
/-! Function (*loop.example/instancesearch/spec.l1Reader).next -/
namespace F_spec_l1Reader_next
noncomputable abbrev fn : Func := Go.Proofs.Tryz.f138
def kp : Keeps := [(2000001, [12, 0]), (2000005, [2])]
noncomputable def C (p : List Nat) : Code := (cod fn).sub p
def KR (Q : QT) : KT := retA pg fn.results.toList Q
theorem call (a0 : Pt) (h : AHeap) (Q : QT) (ht :
 xSome a0 fun i_0 o_1 => xSome a0 fun i_2 o_3 => xInt .i64 (hCell h (.ptr (some (i_0, o_1 + 1)))) fun x_4 => xStr (hCell h (.ptr (some (i_2, o_3 + 0)))) fun s_5 => (hCell h (.ptr (some (i_0, o_1 + 1))) = hCell h (.ptr (some (i_0, o_1 + 1)))) ∧ bcase (decide ((x_4 : Int) ≥ (((List.length s_5 : Nat) : Int)))) (xSome a0 fun i_6 o_7 => xHeap (hStore h (.ptr (some (i_6, o_7 + 2))) [.bool true]) fun h_8 => Q (.int .u8 0) h_8) (xSome a0 fun i_9 o_10 => xInt .i64 (hCell h (.ptr (some (i_9, o_10 + 1)))) fun x_11 => xSome a0 fun i_12 o_13 => xHeap (hStore h (.ptr (some (i_12, o_13 + 1))) [.int .i64 (IntKind.wrap .i64 (x_11 + 1))]) fun h_14 => xSome a0 fun i_15 o_16 => xSome a0 fun i_17 o_18 => xStr (hCell h_14 (.ptr (some (i_15, o_16 + 0)))) fun s_19 => xInt .i64 (hCell h_14 (.ptr (some (i_17, o_18 + 1)))) fun x_20 => (hCell h_14 (.ptr (some (i_15, o_16 + 0))) = hCell h_14 (.ptr (some (i_15, o_16 + 0)))) ∧ byteAt s_19 (IntKind.wrap .i64 (x_20 - 1)) fun b_21 => Q (.int .u8 (((b_21 : Nat) : Int))) h_14)) : SCall pg n_spec_l1Reader_next [.ptr a0] h Q :=
  SCall.of_body kp (c := cod fn) (fn := fn) Go.Proofs.Tryz.func138 (by kernel_rfl) (by kernel_rfl) (Nat.le_of_ble_eq_true (by kernel_rfl))
    (@cast _ (den pg fn.ntmps kp (cod fn) (Env.args 0 [.ptr a0]) h (KR Q)) (by kernel_rfl) ht)
end F_spec_l1Reader_next
/-! Function (*loop.example/instancesearch/spec.l1Reader).node -/
namespace F_spec_l1Reader_node
noncomputable abbrev fn : Func := Go.Proofs.Tryz.f127
def kp : Keeps := [(4000004, [0, 2, 3, 4]), (3000005, [4, 0, 3, 2]), (1000005, [0, 2, 3, 4, 5]), (4000007, [0, 5, 3, 4, 2]), (2000007, [0, 3, 5, 4, 2]), (4000008, [0, 3, 5, 4, 2]), (2000009, [5, 4, 0, 3, 2]), (4000006, [5, 4, 0, 3, 2]), (4000012, [3, 2])]
noncomputable def C (p : List Nat) : Code := (cod fn).sub p
def KR (Q : QT) : KT := retA pg fn.results.toList Q
abbrev T5 := Pt → Nat → Nat → Nat → Nat → Int → Int → AHeap → Prop
def E5 (R5 : T5) (env : Env) (h : AHeap) : Prop := eVal 0 env fun v env => xPtr (some v) fun a0 => eVal 2 env fun v env => xPtr (some v) fun a => xSome a fun i2 o2 => eVal 3 env fun v env => xPtr (some v) fun a => xSome a fun i3 o3 => eVal 4 env fun v env => eInt .i64 v fun x4 => eVal 5 env fun v env => eInt .i64 v fun x5 => eNil env (R5 a0 i2 o2 i3 o3 x4 x5 h)
theorem E5elim {R5 : T5} {env : Env} {h : AHeap} (hi : E5 R5 env h) : ∃ a0, ∃ i2, ∃ o2, ∃ i3, ∃ o3, ∃ x4, ∃ x5, env = [(0, .ptr a0), (2, .ptr (some (i2, o2))), (3, .ptr (some (i3, o3))), (4, .int .i64 x4), (5, .int .i64 x5)] ∧ R5 a0 i2 o2 i3 o3 x4 x5 h := by
  unfold E5 at hi
  have hi0 := hi
  clear hi
  obtain ⟨v, env, rfl, hi1⟩ := eVal_elim hi0
  obtain ⟨a0, rfl, hi2⟩ := xPtr_elim hi1
  obtain ⟨v, env, rfl, hi3⟩ := eVal_elim hi2
  obtain ⟨a, rfl, hi4⟩ := xPtr_elim hi3
  obtain ⟨i2, o2, rfl, hi5⟩ := xSome_elim hi4
  obtain ⟨v, env, rfl, hi6⟩ := eVal_elim hi5
  obtain ⟨a, rfl, hi7⟩ := xPtr_elim hi6
  obtain ⟨i3, o3, rfl, hi8⟩ := xSome_elim hi7
  obtain ⟨v, env, rfl, hi9⟩ := eVal_elim hi8
  obtain ⟨x4, rfl, hi10⟩ := eInt_elim hi9
  obtain ⟨v, env, rfl, hi11⟩ := eVal_elim hi10
  obtain ⟨x5, rfl, hi12⟩ := eInt_elim hi11
  obtain ⟨rfl, hi13⟩ := eNil_elim hi12
  have hi := hi13
  exact ⟨a0, i2, o2, i3, o3, x4, x5, rfl, hi⟩
def K0 (Q : QT) : KT := andThen (fun env' h' => (match kp.find 4000010 with | some ks => Den pg fn.ntmps (C [1, 1, 1, 1, 1]) (env'.keep ks) h' (KR Q) | none => den pg fn.ntmps kp (C [1, 1, 1, 1, 1]) env' h' (KR Q))) (KR Q)
def K1 (Q : QT) : KT := onExit 0 (K0 Q)
def K2 (Q : QT) : KT := left kp 5 (K1 Q)
def K3 (Q : QT) (R5 : T5) : KT := rnd ((kp.find 1000005).getD []) (E5 R5) (K2 Q)
def K4 (Q : QT) (R5 : T5) : KT := andThen (fun env' h' => (match kp.find 4000006 with | some ks => Den pg fn.ntmps (C [1, 1, 1, 1, 0, 1, 0, 0, 1, 1]) (env'.keep ks) h' (K3 Q R5) | none => den pg fn.ntmps kp (C [1, 1, 1, 1, 0, 1, 0, 0, 1, 1]) env' h' (K3 Q R5))) (K3 Q R5)
def K5 (Q : QT) (R5 : T5) : KT := onExit 1 (K4 Q R5)
def J4 (Q : QT) (a0 : Pt) (i2 o2 i3 o3 : Nat) (x4 : Int) (h : AHeap) : Prop := Den pg fn.ntmps (C [1, 1, 1, 1]) [(0, .ptr a0), (2, .ptr (some (i2, o2))), (3, .ptr (some (i3, o3))), (4, .int .i64 x4)] h (KR Q)
def L5 (Q : QT) (a0 : Pt) (i2 o2 i3 o3 : Nat) (x4 x5 : Int) (h : AHeap) : Prop := Loop (Den pg fn.ntmps (C [1, 1, 1, 1, 0, 1, 0, 0])) ((kp.find 1000005).getD []) (K2 Q) [(0, .ptr a0), (2, .ptr (some (i2, o2))), (3, .ptr (some (i3, o3))), (4, .int .i64 x4), (5, .int .i64 x5)] h
def J7 (Q : QT) (R5 : T5) (a0 : Pt) (x5 : Int) (i3 o3 : Nat) (x4 : Int) (i2 o2 : Nat) (h : AHeap) : Prop := Den pg fn.ntmps (C [1, 1, 1, 1, 0, 1, 0, 0, 1]) [(0, .ptr a0), (5, .int .i64 x5), (3, .ptr (some (i3, o3))), (4, .int .i64 x4), (2, .ptr (some (i2, o2)))] h (K3 Q R5)
def A5x0 (Q : QT) (x4 : Int) (a0 : Pt) (i3 o3 i2 o2 : Nat) (h : AHeap) : Prop := At (K1 Q) (.exit 0) [(4, .int .i64 x4), (0, .ptr a0), (3, .ptr (some (i3, o3))), (2, .ptr (some (i2, o2)))] h
def J8 (Q : QT) (R5 : T5) (a0 : Pt) (i3 o3 : Nat) (x5 x4 : Int) (i2 o2 : Nat) (h : AHeap) : Prop := Den pg fn.ntmps (C [1, 1, 1, 1, 0, 1, 0, 0, 1, 0, 0, 1]) [(0, .ptr a0), (3, .ptr (some (i3, o3))), (5, .int .i64 x5), (4, .int .i64 x4), (2, .ptr (some (i2, o2)))] h (K5 Q R5)
def J12 (Q : QT) (i3 o3 i2 o2 : Nat) (h : AHeap) : Prop := Den pg fn.ntmps (C [1, 1, 1, 1, 1, 1]) [(3, .ptr (some (i3, o3))), (2, .ptr (some (i2, o2)))] h (KR Q)
def J6 (Q : QT) (R5 : T5) (x5 x4 : Int) (a0 : Pt) (i3 o3 i2 o2 : Nat) (h : AHeap) : Prop := Den pg fn.ntmps (C [1, 1, 1, 1, 0, 1, 0, 0, 1, 1]) [(5, .int .i64 x5), (4, .int .i64 x4), (0, .ptr a0), (3, .ptr (some (i3, o3))), (2, .ptr (some (i2, o2)))] h (K3 Q R5)
theorem J4i (Q : QT) (a0 : Pt) (i2 o2 i3 o3 : Nat) (x4 : Int) (h : AHeap) (ht :
 L5 Q a0 i2 o2 i3 o3 x4 0 h) : J4 Q a0 i2 o2 i3 o3 x4 h :=
  den_Den (kp := kp) (@cast _ (den pg fn.ntmps kp (C [1, 1, 1, 1]) [(0, .ptr a0), (2, .ptr (some (i2, o2))), (3, .ptr (some (i3, o3))), (4, .int .i64 x4)] h (KR Q)) (by kernel_rfl) ht)
def L5t (Q : QT) (R5 : T5) (a0 : Pt) (i2 o2 i3 o3 : Nat) (x4 x5 : Int) (h : AHeap) : Prop :=
 bcase (decide ((x5 : Int) < x4)) (xSome a0 fun i_20 o_21 => xBool (hCell h (.ptr (some (i_20, o_21 + 2)))) fun b_22 => bcase (!b_22) (J7 Q R5 a0 x5 i3 o3 x4 i2 o2 h) (A5x0 Q x4 a0 i3 o3 i2 o2 h)) (A5x0 Q x4 a0 i3 o3 i2 o2 h)
theorem L5den (Q : QT) (R5 : T5) (a0 : Pt) (i2 o2 i3 o3 : Nat) (x4 x5 : Int) (h : AHeap) (ht : L5t Q R5 a0 i2 o2 i3 o3 x4 x5 h) : Den pg fn.ntmps (C [1, 1, 1, 1, 0, 1, 0, 0]) [(0, .ptr a0), (2, .ptr (some (i2, o2))), (3, .ptr (some (i3, o3))), (4, .int .i64 x4), (5, .int .i64 x5)] h (K3 Q R5) :=
  den_Den (kp := kp) (@cast _ (den pg fn.ntmps kp (C [1, 1, 1, 1, 0, 1, 0, 0]) [(0, .ptr a0), (2, .ptr (some (i2, o2))), (3, .ptr (some (i3, o3))), (4, .int .i64 x4), (5, .int .i64 x5)] h (K3 Q R5)) (by kernel_rfl) ht)
theorem L5ind (Q : QT) (a0 : Pt) (i2 o2 i3 o3 : Nat) (x4 : Int) {G : Type} (J : G → Int → AHeap → Prop) (m : G → Nat)
 (hr : ∀ (g : G) (x5 : Int) (h : AHeap), J g x5 h → ∀ (R5 : T5), (∀ g' (x5 : Int) (h : AHeap), m g' < m g → J g' x5 h → R5 a0 i2 o2 i3 o3 x4 x5 h) → L5t Q R5 a0 i2 o2 i3 o3 x4 x5 h)
 (g : G) (x5 : Int) (h : AHeap) (hj : J g x5 h) : L5 Q a0 i2 o2 i3 o3 x4 x5 h := by
  refine Loop.inv2 (fun g => E5 fun a0' i2' o2' i3' o3' x4' x5 h => a0 = a0' ∧ i2 = i2' ∧ o2 = o2' ∧ i3 = i3' ∧ o3 = o3' ∧ x4 = x4' ∧ J g x5 h) (fun g => E5 fun a0' i2' o2' i3' o3' x4' x5 h => a0 = a0' ∧ i2 = i2' ∧ o2 = o2' ∧ i3 = i3' ∧ o3 = o3' ∧ x4 = x4' ∧ ∃ g', m g' < m g ∧ J g' x5 h) m ?_ ?_ g ⟨rfl, rfl, rfl, rfl, rfl, rfl, hj⟩
  · intro g env h hi
    obtain ⟨a0', i2', o2', i3', o3', x4', x5, rfl, rfl, rfl, rfl, rfl, rfl, rfl, hj⟩ := E5elim hi
    exact L5den Q (fun a0' i2' o2' i3' o3' x4' x5 h => a0 = a0' ∧ i2 = i2' ∧ o2 = o2' ∧ i3 = i3' ∧ o3 = o3' ∧ x4 = x4' ∧ ∃ g', m g' < m g ∧ J g' x5 h) a0 i2 o2 i3 o3 x4 x5 h (hr g x5 h hj (fun a0' i2' o2' i3' o3' x4' x5 h => a0 = a0' ∧ i2 = i2' ∧ o2 = o2' ∧ i3 = i3' ∧ o3 = o3' ∧ x4 = x4' ∧ ∃ g', m g' < m g ∧ J g' x5 h) fun g' x5 h hlt hj => ⟨rfl, rfl, rfl, rfl, rfl, rfl, g', hlt, hj⟩)
  · intro g env h hi
    obtain ⟨a0', i2', o2', i3', o3', x4', x5, rfl, rfl, rfl, rfl, rfl, rfl, rfl, g', hlt, hj⟩ := E5elim hi
    exact ⟨g', hlt, rfl, rfl, rfl, rfl, rfl, rfl, hj⟩
theorem J7i (Q : QT) (R5 : T5) (a0 : Pt) (x5 : Int) (i3 o3 : Nat) (x4 : Int) (i2 o2 : Nat) (h : AHeap) (ht :
 byteAt ([40, 44]) x5 fun b_23 => SCall pg n_spec_l1Reader_next [.ptr a0] h fun v_24 h_25 =>
 xInt .u8 (some v_24) fun x_26 => bcase (!((x_26 : Int) == (((b_23 : Nat) : Int)))) (xSome a0 fun i_27 o_28 => xHeap (hStore h_25 (.ptr (some (i_27, o_28 + 2))) [.bool true]) fun h_29 => J8 Q R5 a0 i3 o3 x5 x4 i2 o2 h_29) (xSome a0 fun i_30 o_31 => xBool (hCell h_25 (.ptr (some (i_30, o_31 + 2)))) fun b_32 => xSome a0 fun i_33 o_34 => xHeap (hStore h_25 (.ptr (some (i_33, o_34 + 2))) [.bool b_32]) fun h_35 => J8 Q R5 a0 i3 o3 x5 x4 i2 o2 h_35)) : J7 Q R5 a0 x5 i3 o3 x4 i2 o2 h :=
  den_Den (kp := kp) (@cast _ (den pg fn.ntmps kp (C [1, 1, 1, 1, 0, 1, 0, 0, 1]) [(0, .ptr a0), (5, .int .i64 x5), (3, .ptr (some (i3, o3))), (4, .int .i64 x4), (2, .ptr (some (i2, o2)))] h (K3 Q R5)) (by kernel_rfl) ht)
theorem A5x0i (Q : QT) (x4 : Int) (a0 : Pt) (i3 o3 i2 o2 : Nat) (h : AHeap) (ht :
 bcase (decide ((x4 : Int) > 0)) (xSome a0 fun i_36 o_37 => xBool (hCell h (.ptr (some (i_36, o_37 + 2)))) fun b_38 => bcase (!b_38) (SCall pg n_spec_l1Reader_next [.ptr a0] h fun v_39 h_40 =>
 xInt .u8 (some v_39) fun x_41 => bcase (!((x_41 : Int) == 41)) (xSome a0 fun i_42 o_43 => xHeap (hStore h_40 (.ptr (some (i_42, o_43 + 2))) [.bool true]) fun h_44 => J12 Q i3 o3 i2 o2 h_44) (xSome a0 fun i_45 o_46 => xBool (hCell h_40 (.ptr (some (i_45, o_46 + 2)))) fun b_47 => xSome a0 fun i_48 o_49 => xHeap (hStore h_40 (.ptr (some (i_48, o_49 + 2))) [.bool b_47]) fun h_50 => J12 Q i3 o3 i2 o2 h_50)) (J12 Q i3 o3 i2 o2 h)) (J12 Q i3 o3 i2 o2 h)) : A5x0 Q x4 a0 i3 o3 i2 o2 h :=
  At.mk (@cast _ ((K1 Q) (.exit 0) [(4, .int .i64 x4), (0, .ptr a0), (3, .ptr (some (i3, o3))), (2, .ptr (some (i2, o2)))] h) (by kernel_rfl) ht)
theorem J8i (Q : QT) (R5 : T5) (a0 : Pt) (i3 o3 : Nat) (x5 x4 : Int) (i2 o2 : Nat) (h : AHeap) (ht :
 xSome a0 fun i_51 o_52 => xBool (hCell h (.ptr (some (i_51, o_52 + 2)))) fun b_53 => bcase (!b_53) (xSl (hCell h (.ptr (some (i3, o3 + 1)))) fun a_54 n_55 c_56 e_57 => SCall pg n_spec_l1Reader_node [.ptr a0] h fun v_58 h_59 =>
 xAgg v_58 fun cs_60 => xCons cs_60 fun c_61 r_62 => xInt .u8 (some c_61) fun x_63 => xCons r_62 fun c_64 r_65 => xSl (some c_64) fun a_66 n_67 c_68 e_69 => xNil r_65 ((hCell h_59 (.ptr (some (i3, o3 + 1))) = hCell h (.ptr (some (i3, o3 + 1)))) ∧ letH (h_59 ++ [.cells t_spec_l1Node [.int .u8 x_63, .slice a_66 n_67 c_68 e_69] false]) fun h_70 => (hCell h_70 (.ptr (some (i3, o3 + 1))) = hCell h_59 (.ptr (some (i3, o3 + 1)))) ∧ appendA pg t_L_spec_l1Node h_70 (.slice a_54 n_55 c_56 e_57) (.slice (some (List.length h_59, 0)) 1 1 true) fun v_71 h_72 => xSl (some v_71) fun a_73 n_74 c_75 e_76 => xHeap (hStore h_72 (.ptr (some (i3, o3 + 1))) [.slice a_73 n_74 c_75 e_76]) fun h_77 => J6 Q R5 x5 x4 a0 i3 o3 i2 o2 h_77)) (J6 Q R5 x5 x4 a0 i3 o3 i2 o2 h)) : J8 Q R5 a0 i3 o3 x5 x4 i2 o2 h :=
  den_Den (kp := kp) (@cast _ (den pg fn.ntmps kp (C [1, 1, 1, 1, 0, 1, 0, 0, 1, 0, 0, 1]) [(0, .ptr a0), (3, .ptr (some (i3, o3))), (5, .int .i64 x5), (4, .int .i64 x4), (2, .ptr (some (i2, o2)))] h (K5 Q R5)) (by kernel_rfl) ht)
theorem J12i (Q : QT) (i3 o3 i2 o2 : Nat) (h : AHeap) (ht :
 xRow (hRow h (.ptr (some (i3, o3))) 2) fun cs_78 => xCons cs_78 fun c_79 r_80 => xInt .u8 (some c_79) fun x_81 => xCons r_80 fun c_82 r_83 => xSl (some c_82) fun a_84 n_85 c_86 e_87 => xNil r_83 (xHeap (hStore h (.ptr (some (i2, o2))) [.int .u8 x_81, .slice a_84 n_85 c_86 e_87]) fun h_88 => xRow (hRow h_88 (.ptr (some (i2, o2))) 2) fun cs_89 => xCons cs_89 fun c_90 r_91 => xInt .u8 (some c_90) fun x_92 => xCons r_91 fun c_93 r_94 => xSl (some c_93) fun a_95 n_96 c_97 e_98 => xNil r_94 (Q (.agg [.int .u8 x_92, .slice a_95 n_96 c_97 e_98]) h_88))) : J12 Q i3 o3 i2 o2 h :=
  den_Den (kp := kp) (@cast _ (den pg fn.ntmps kp (C [1, 1, 1, 1, 1, 1]) [(3, .ptr (some (i3, o3))), (2, .ptr (some (i2, o2)))] h (KR Q)) (by kernel_rfl) ht)
theorem J6i (Q : QT) (R5 : T5) (x5 x4 : Int) (a0 : Pt) (i3 o3 i2 o2 : Nat) (h : AHeap) (ht :
 R5 a0 i2 o2 i3 o3 x4 (IntKind.wrap .i64 (x5 + 1)) h) : J6 Q R5 x5 x4 a0 i3 o3 i2 o2 h :=
  den_Den (kp := kp) (@cast _ (den pg fn.ntmps kp (C [1, 1, 1, 1, 0, 1, 0, 0, 1, 1]) [(5, .int .i64 x5), (4, .int .i64 x4), (0, .ptr a0), (3, .ptr (some (i3, o3))), (2, .ptr (some (i2, o2)))] h (K3 Q R5)) (by kernel_rfl) ht)
theorem call (a0 : Pt) (h : AHeap) (Q : QT) (ht :
 letH (h ++ [.cells t_spec_l1Node [.int .u8 0, .slice none 0 0 true] false]) fun h_0 => SCall pg n_spec_l1Reader_next [.ptr a0] h_0 fun v_1 h_2 =>
 xInt .u8 (some v_1) fun x_3 => letH (h_2 ++ [.cells t_spec_l1Node [] false]) fun h_4 => letH (h_4 ++ [.cells t_spec_l1Node [.int .u8 0, .slice none 0 0 true] false]) fun h_5 => xHeap (hStore h_5 (.ptr (some (List.length h_4, 0))) [.int .u8 x_3, .slice (some (List.length h_2, 0)) 0 0 true]) fun h_6 => xInt .u8 (hCell h_6 (.ptr (some (List.length h_4, 0 + 0)))) fun x_7 => SCall pg n_spec_l1Arity [.int .u8 x_7] h_6 fun v_8 h_9 =>
 xInt .i64 (some v_8) fun x_10 => xSome a0 fun i_11 o_12 => xBool (hCell h_9 (.ptr (some (i_11, o_12 + 2)))) fun b_13 => bcase b_13 (xSome a0 fun i_14 o_15 => xHeap (hStore h_9 (.ptr (some (i_14, o_15 + 2))) [.bool true]) fun h_16 => J4 Q a0 (List.length h) 0 (List.length h_4) 0 x_10 h_16) (xSome a0 fun i_17 o_18 => xHeap (hStore h_9 (.ptr (some (i_17, o_18 + 2))) [.bool (decide ((x_10 : Int) < 0))]) fun h_19 => J4 Q a0 (List.length h) 0 (List.length h_4) 0 x_10 h_19)) : SCall pg n_spec_l1Reader_node [.ptr a0] h Q :=
  SCall.of_body kp (c := cod fn) (fn := fn) Go.Proofs.Tryz.func127 (by kernel_rfl) (by kernel_rfl) (Nat.le_of_ble_eq_true (by kernel_rfl))
    (@cast _ (den pg fn.ntmps kp (cod fn) (Env.args 0 [.ptr a0]) h (KR Q)) (by kernel_rfl) ht)
end F_spec_l1Reader_node
/-! Function loop.example/instancesearch/spec.l1Read -/
namespace F_spec_l1Read
noncomputable abbrev fn : Func := Go.Proofs.Tryz.f99
def kp : Keeps := [(4000005, [5, 2])]
noncomputable def C (p : List Nat) : Code := (cod fn).sub p
def KR (Q : QT) : KT := retA pg fn.results.toList Q
def J5 (Q : QT) (i5 o5 i2 o2 : Nat) (h : AHeap) : Prop := Den pg fn.ntmps (C [1, 1, 1, 1]) [(5, .ptr (some (i5, o5))), (2, .ptr (some (i2, o2)))] h (KR Q)
theorem J5i (Q : QT) (i5 o5 i2 o2 : Nat) (h : AHeap) (ht :
 xRow (hRow h (.ptr (some (i5, o5))) 2) fun cs_51 => xCons cs_51 fun c_52 r_53 => xInt .u8 (some c_52) fun x_54 => xCons r_53 fun c_55 r_56 => xSl (some c_55) fun a_57 n_58 c_59 e_60 => xNil r_56 (xHeap (hStore h (.ptr (some (i2, o2))) [.int .u8 x_54, .slice a_57 n_58 c_59 e_60]) fun h_61 => xRow (hRow h_61 (.ptr (some (i2, o2))) 2) fun cs_62 => xCons cs_62 fun c_63 r_64 => xInt .u8 (some c_63) fun x_65 => xCons r_64 fun c_66 r_67 => xSl (some c_66) fun a_68 n_69 c_70 e_71 => xNil r_67 (Q (.tup [.agg [.int .u8 x_65, .slice a_68 n_69 c_70 e_71], .bool true]) h_61))) : J5 Q i5 o5 i2 o2 h :=
  den_Den (kp := kp) (@cast _ (den pg fn.ntmps kp (C [1, 1, 1, 1]) [(5, .ptr (some (i5, o5))), (2, .ptr (some (i2, o2)))] h (KR Q)) (by kernel_rfl) ht)
theorem call (x0 : List Nat) (h : AHeap) (Q : QT) (ht :
 letH (h ++ [.cells t_spec_l1Node [.int .u8 0, .slice none 0 0 true] false]) fun h_0 => letH (h_0 ++ [.cells t_spec_l1Reader [.str x0, .int .i64 0, .bool false] false]) fun h_1 => SCall pg n_spec_l1Reader_node [.ptr (some (List.length h_0, 0))] h_1 fun v_2 h_3 =>
 xAgg v_2 fun cs_4 => xCons cs_4 fun c_5 r_6 => xInt .u8 (some c_5) fun x_7 => xCons r_6 fun c_8 r_9 => xSl (some c_8) fun a_10 n_11 c_12 e_13 => xNil r_9 (letH (h_3 ++ [.cells t_spec_l1Node [.int .u8 0, .slice none 0 0 true] false]) fun h_14 => xHeap (hStore h_14 (.ptr (some (List.length h_3, 0))) [.int .u8 x_7, .slice a_10 n_11 c_12 e_13]) fun h_15 => xBool (hCell h_15 (.ptr (some (List.length h_0, 0 + 2)))) fun b_16 => bcase b_16 (xHeap (hStore h_15 (.ptr (some (List.length h, 0))) [.int .u8 0, .slice none 0 0 true]) fun h_17 => xRow (hRow h_17 (.ptr (some (List.length h, 0))) 2) fun cs_18 => xCons cs_18 fun c_19 r_20 => xInt .u8 (some c_19) fun x_21 => xCons r_20 fun c_22 r_23 => xSl (some c_22) fun a_24 n_25 c_26 e_27 => xNil r_23 (Q (.tup [.agg [.int .u8 x_21, .slice a_24 n_25 c_26 e_27], .bool false]) h_17)) (xInt .i64 (hCell h_15 (.ptr (some (List.length h_0, 0 + 1)))) fun x_28 => bcase (!((x_28 : Int) == (((List.length x0 : Nat) : Int)))) (xHeap (hStore h_15 (.ptr (some (List.length h, 0))) [.int .u8 0, .slice none 0 0 true]) fun h_29 => xRow (hRow h_29 (.ptr (some (List.length h, 0))) 2) fun cs_30 => xCons cs_30 fun c_31 r_32 => xInt .u8 (some c_31) fun x_33 => xCons r_32 fun c_34 r_35 => xSl (some c_34) fun a_36 n_37 c_38 e_39 => xNil r_35 (Q (.tup [.agg [.int .u8 x_33, .slice a_36 n_37 c_38 e_39], .bool false]) h_29)) (bcase (decide (((((List.length x0 : Nat) : Int)) : Int) > 60)) (xHeap (hStore h_15 (.ptr (some (List.length h, 0))) [.int .u8 0, .slice none 0 0 true]) fun h_40 => xRow (hRow h_40 (.ptr (some (List.length h, 0))) 2) fun cs_41 => xCons cs_41 fun c_42 r_43 => xInt .u8 (some c_42) fun x_44 => xCons r_43 fun c_45 r_46 => xSl (some c_45) fun a_47 n_48 c_49 e_50 => xNil r_46 (Q (.tup [.agg [.int .u8 x_44, .slice a_47 n_48 c_49 e_50], .bool false]) h_40)) (J5 Q (List.length h_3) 0 (List.length h) 0 h_15))))) : SCall pg n_spec_l1Read [.str x0] h Q :=
  SCall.of_body kp (c := cod fn) (fn := fn) Go.Proofs.Tryz.func99 (by kernel_rfl) (by kernel_rfl) (Nat.le_of_ble_eq_true (by kernel_rfl))
    (@cast _ (den pg fn.ntmps kp (cod fn) (Env.args 0 [.str x0]) h (KR Q)) (by kernel_rfl) ht)
end F_spec_l1Read
/-! Function loop.example/instancesearch/spec.TypeValid -/
namespace F_spec_TypeValid
noncomputable abbrev fn : Func := Go.Proofs.Tryz.f95
def kp : Keeps := []
noncomputable def C (p : List Nat) : Code := (cod fn).sub p
def KR (Q : QT) : KT := retA pg fn.results.toList Q
theorem call (x0 : List Nat) (h : AHeap) (Q : QT) (ht :
 SCall pg n_spec_l1Read [.str x0] h fun v_0 h_1 =>
 xTup v_0 fun cs_2 => xCons cs_2 fun c_3 r_4 => xAgg c_3 fun cs_5 => xCons cs_5 fun c_6 r_7 => xInt .u8 (some c_6) fun x_8 => xCons r_7 fun c_9 r_10 => xSl (some c_9) fun a_11 n_12 c_13 e_14 => xNil r_10 (xCons r_4 fun c_15 r_16 => xBool (some c_15) fun b_17 => xNil r_16 (letH (h_1 ++ [.cells t_spec_l1Node [.int .u8 0, .slice none 0 0 true] false]) fun h_18 => xHeap (hStore h_18 (.ptr (some (List.length h_1, 0))) [.int .u8 x_8, .slice a_11 n_12 c_13 e_14]) fun h_19 => Q (.bool b_17) h_19))) : SCall pg n_spec_TypeValid [.str x0] h Q :=
  SCall.of_body kp (c := cod fn) (fn := fn) Go.Proofs.Tryz.func95 (by kernel_rfl) (by kernel_rfl) (Nat.le_of_ble_eq_true (by kernel_rfl))
    (@cast _ (den pg fn.ntmps kp (cod fn) (Env.args 0 [.str x0]) h (KR Q)) (by kernel_rfl) ht)
end F_spec_TypeValid
end Go.Sim

/- Printed by wip/tool: what the functions' bodies do, in the words of 'den'. -/
set_option maxRecDepth 100000
set_option linter.unusedVariables false
namespace Go.Sim
open Go Go.RowKit
/-! Function loop.example/instancesearch/impl.arity -/
namespace F_impl_arity
noncomputable abbrev fn : Func := Go.Proofs.Tryz.f141
def kp : Keeps := [(4000009, [])]
noncomputable def C (p : List Nat) : Code := (cod fn).sub p
def KR (Q : QT) : KT := retA pg fn.results.toList Q
def J9 (Q : QT) (h : AHeap) : Prop := Den pg fn.ntmps (C [1, 1]) [] h (KR Q)
theorem J9i (Q : QT) (h : AHeap) (ht :
 Q (.int .i64 (-1)) h) : J9 Q h :=
  den_Den (kp := kp) (@cast _ (den pg fn.ntmps kp (C [1, 1]) [] h (KR Q)) (by kernel_rfl) ht)
theorem call (x0 : List Nat) (h : AHeap) (Q : QT) (ht :
 bcase (!((((List.length x0 : Nat) : Int) : Int) == 1)) (Q (.int .i64 (-1)) h) (SCall pg n_strings_Contains [.str ([105, 98, 117, 120, 121, 122, 88, 89, 90]), .str x0] h fun v_0 h_1 =>
 xBool (some v_0) fun b_2 => bcase b_2 (Q (.int .i64 0) h_1) (bcase (decide (x0 = [108])) (Q (.int .i64 1) h_1) (bcase (decide (x0 = [109])) (Q (.int .i64 1) h_1) (bcase (decide (x0 = [112])) (Q (.int .i64 2) h_1) (J9 Q h_1)))))) : SCall pg n_impl_arity [.str x0] h Q :=
  SCall.of_body kp (c := cod fn) (fn := fn) Go.Proofs.Tryz.func141 (by kernel_rfl) (by kernel_rfl) (Nat.le_of_ble_eq_true (by kernel_rfl))
    (@cast _ (den pg fn.ntmps kp (cod fn) (Env.args 0 [.str x0]) h (KR Q)) (by kernel_rfl) ht)
end F_impl_arity
/-! Function loop.example/instancesearch/impl.readType -/
namespace F_impl_readType
noncomputable abbrev fn : Func := Go.Proofs.Tryz.f129
def kp : Keeps := [(4000003, [0]), (3000006, [4, 0, 2, 3]), (1000006, [0, 4, 27, 28]), (4000020, [4, 0])]
noncomputable def C (p : List Nat) : Code := (cod fn).sub p
def KR (Q : QT) : KT := retA pg fn.results.toList Q
abbrev T6 := List Nat → Nat → Nat → Int → Int → AHeap → Prop
def E6 (R6 : T6) (env : Env) (h : AHeap) : Prop := eVal 0 env fun v env => xStr (some v) fun x0 => eVal 4 env fun v env => xPtr (some v) fun a => xSome a fun i4 o4 => eVal 27 env fun v env => eInt .i64 v fun x27 => eVal 28 env fun v env => eInt .i64 v fun x28 => eNil env (R6 x0 i4 o4 x27 x28 h)
theorem E6elim {R6 : T6} {env : Env} {h : AHeap} (hi : E6 R6 env h) : ∃ x0, ∃ i4, ∃ o4, ∃ x27, ∃ x28, env = [(0, .str x0), (4, .ptr (some (i4, o4))), (27, .int .i64 x27), (28, .int .i64 x28)] ∧ R6 x0 i4 o4 x27 x28 h := by
  unfold E6 at hi
  have hi0 := hi
  clear hi
  obtain ⟨v, env, rfl, hi1⟩ := eVal_elim hi0
  obtain ⟨x0, rfl, hi2⟩ := xStr_elim hi1
  obtain ⟨v, env, rfl, hi3⟩ := eVal_elim hi2
  obtain ⟨a, rfl, hi4⟩ := xPtr_elim hi3
  obtain ⟨i4, o4, rfl, hi5⟩ := xSome_elim hi4
  obtain ⟨v, env, rfl, hi6⟩ := eVal_elim hi5
  obtain ⟨x27, rfl, hi7⟩ := eInt_elim hi6
  obtain ⟨v, env, rfl, hi8⟩ := eVal_elim hi7
  obtain ⟨x28, rfl, hi9⟩ := eInt_elim hi8
  obtain ⟨rfl, hi10⟩ := eNil_elim hi9
  have hi := hi10
  exact ⟨x0, i4, o4, x27, x28, rfl, hi⟩
def K0 (Q : QT) : KT := andThen (fun env' h' => (match kp.find 4000016 with | some ks => Den pg fn.ntmps (C [1, 1, 1, 1, 1]) (env'.keep ks) h' (KR Q) | none => den pg fn.ntmps kp (C [1, 1, 1, 1, 1]) env' h' (KR Q))) (KR Q)
def K1 (Q : QT) : KT := onExit 0 (K0 Q)
def K2 (Q : QT) : KT := left kp 6 (K1 Q)
def K3 (Q : QT) (R6 : T6) : KT := rnd ((kp.find 1000006).getD []) (E6 R6) (K2 Q)
def J3 (Q : QT) (x0 : List Nat) (h : AHeap) : Prop := Den pg fn.ntmps (C [1, 1]) [(0, .str x0)] h (KR Q)
def L6 (Q : QT) (x0 : List Nat) (i4 o4 : Nat) (x27 x28 : Int) (h : AHeap) : Prop := Loop (Den pg fn.ntmps (C [1, 1, 1, 1, 0, 1, 0, 0])) ((kp.find 1000006).getD []) (K2 Q) [(0, .str x0), (4, .ptr (some (i4, o4))), (27, .int .i64 x27), (28, .int .i64 x28)] h
def A6x0 (Q : QT) (i4 o4 : Nat) (x0 : List Nat) (h : AHeap) : Prop := At (K1 Q) (.exit 0) [(4, .ptr (some (i4, o4))), (0, .str x0), (2, .undef), (3, .undef)] h
def J20 (Q : QT) (i4 o4 : Nat) (x0 : List Nat) (h : AHeap) : Prop := Den pg fn.ntmps (C [1, 1, 1, 1, 1, 1]) [(4, .ptr (some (i4, o4))), (0, .str x0)] h (KR Q)
theorem J3i (Q : QT) (x0 : List Nat) (h : AHeap) (ht :
 (0 ≤ (0 : Int) ∧ (0 : Int) ≤ 1 ∧ (1 : Int) ≤ (List.length x0 : Nat)) ∧ (letH (h ++ [.cells t_impl_node [.str (sub x0 0 1), .slice none 0 0 true, .ptr none] false]) fun h_3 => (0 ≤ (1 : Int) ∧ (1 : Int) ≤ (List.length x0 : Int) ∧ ((List.length x0 : Int) : Int) ≤ (List.length x0 : Nat)) ∧ (xStr (hCell h_3 (.ptr (some (List.length h, 0 + 0)))) fun s_4 => SCall pg n_impl_arity [.str s_4] h_3 fun v_5 h_6 =>
 xInt .i64 (some v_5) fun x_7 => L6 Q (sub x0 1 ((List.length x0 : Int))) (List.length h) 0 x_7 0 h_6))) : J3 Q x0 h :=
  den_Den (kp := kp) (@cast _ (den pg fn.ntmps kp (C [1, 1]) [(0, .str x0)] h (KR Q)) (by kernel_rfl) ht)
def L6t (Q : QT) (R6 : T6) (x0 : List Nat) (i4 o4 : Nat) (x27 x28 : Int) (h : AHeap) : Prop :=
 bcase (decide ((x28 : Int) < x27)) ((0 ≤ (x28 : Int) ∧ (x28 : Int) ≤ IntKind.wrap .i64 (x28 + 1) ∧ (IntKind.wrap .i64 (x28 + 1) : Int) ≤ (List.length ([40, 44]) : Nat)) ∧ (SCall pg n_strings_HasPrefix [.str x0, .str (sub ([40, 44]) x28 (IntKind.wrap .i64 (x28 + 1)))] h fun v_8 h_9 =>
 xBool (some v_8) fun b_10 => bcase (!b_10) (Q (.tup [.ptr none, .str x0]) h_9) ((0 ≤ (1 : Int) ∧ (1 : Int) ≤ (List.length x0 : Int) ∧ ((List.length x0 : Int) : Int) ≤ (List.length x0 : Nat)) ∧ (SCall pg n_impl_readType [.str (sub x0 1 ((List.length x0 : Int)))] h_9 fun v_11 h_12 =>
 xTup v_11 fun cs_13 => xCons cs_13 fun c_14 r_15 => xPtr (some c_14) fun a_16 => xCons r_15 fun c_17 r_18 => xStr (some c_17) fun s_19 => xNil r_18 (bcase (Option.isNone a_16) (Q (.tup [.ptr none, .str x0]) h_12) (xSl (hCell h_12 (.ptr (some (i4, o4 + 1)))) fun a_20 n_21 c_22 e_23 => letH (h_12 ++ [.cells t_P_impl_node [.ptr a_16] false]) fun h_24 => appendA pg t_L_P_impl_node h_24 (.slice a_20 n_21 c_22 e_23) (.slice (some (List.length h_12, 0)) 1 1 true) fun v_25 h_26 => xSl (some v_25) fun a_27 n_28 c_29 e_30 => xHeap (hStore h_26 (.ptr (some (i4, o4 + 1))) [.slice a_27 n_28 c_29 e_30]) fun h_31 => R6 s_19 i4 o4 x27 (IntKind.wrap .i64 (x28 + 1)) h_31)))))) (A6x0 Q i4 o4 x0 h)
theorem L6den (Q : QT) (R6 : T6) (x0 : List Nat) (i4 o4 : Nat) (x27 x28 : Int) (h : AHeap) (ht : L6t Q R6 x0 i4 o4 x27 x28 h) : Den pg fn.ntmps (C [1, 1, 1, 1, 0, 1, 0, 0]) [(0, .str x0), (4, .ptr (some (i4, o4))), (27, .int .i64 x27), (28, .int .i64 x28)] h (K3 Q R6) :=
  den_Den (kp := kp) (@cast _ (den pg fn.ntmps kp (C [1, 1, 1, 1, 0, 1, 0, 0]) [(0, .str x0), (4, .ptr (some (i4, o4))), (27, .int .i64 x27), (28, .int .i64 x28)] h (K3 Q R6)) (by kernel_rfl) ht)
theorem L6ind (Q : QT) (i4 o4 : Nat) (x27 : Int) {G : Type} (J : G → List Nat → Int → AHeap → Prop) (m : G → Nat)
 (hr : ∀ (g : G) (x0 : List Nat) (x28 : Int) (h : AHeap), J g x0 x28 h → ∀ (R6 : T6), (∀ g' (x0 : List Nat) (x28 : Int) (h : AHeap), m g' < m g → J g' x0 x28 h → R6 x0 i4 o4 x27 x28 h) → L6t Q R6 x0 i4 o4 x27 x28 h)
 (g : G) (x0 : List Nat) (x28 : Int) (h : AHeap) (hj : J g x0 x28 h) : L6 Q x0 i4 o4 x27 x28 h := by
  refine Loop.inv2 (fun g => E6 fun x0 i4' o4' x27' x28 h => i4 = i4' ∧ o4 = o4' ∧ x27 = x27' ∧ J g x0 x28 h) (fun g => E6 fun x0 i4' o4' x27' x28 h => i4 = i4' ∧ o4 = o4' ∧ x27 = x27' ∧ ∃ g', m g' < m g ∧ J g' x0 x28 h) m ?_ ?_ g ⟨rfl, rfl, rfl, hj⟩
  · intro g env h hi
    obtain ⟨x0, i4', o4', x27', x28, rfl, rfl, rfl, rfl, hj⟩ := E6elim hi
    exact L6den Q (fun x0 i4' o4' x27' x28 h => i4 = i4' ∧ o4 = o4' ∧ x27 = x27' ∧ ∃ g', m g' < m g ∧ J g' x0 x28 h) x0 i4 o4 x27 x28 h (hr g x0 x28 h hj (fun x0 i4' o4' x27' x28 h => i4 = i4' ∧ o4 = o4' ∧ x27 = x27' ∧ ∃ g', m g' < m g ∧ J g' x0 x28 h) fun g' x0 x28 h hlt hj => ⟨rfl, rfl, rfl, g', hlt, hj⟩)
  · intro g env h hi
    obtain ⟨x0, i4', o4', x27', x28, rfl, rfl, rfl, rfl, g', hlt, hj⟩ := E6elim hi
    exact ⟨g', hlt, rfl, rfl, rfl, hj⟩
theorem A6x0i (Q : QT) (i4 o4 : Nat) (x0 : List Nat) (h : AHeap) (ht :
 xSl (hCell h (.ptr (some (i4, o4 + 1)))) fun a_32 n_33 c_34 e_35 => bcase (decide (((((n_33 : Nat) : Int)) : Int) > 0)) (SCall pg n_strings_HasPrefix [.str x0, .str [41]] h fun v_36 h_37 =>
 xBool (some v_36) fun b_38 => bcase (!b_38) (Q (.tup [.ptr none, .str x0]) h_37) ((0 ≤ (1 : Int) ∧ (1 : Int) ≤ (List.length x0 : Int) ∧ ((List.length x0 : Int) : Int) ≤ (List.length x0 : Nat)) ∧ (J20 Q i4 o4 (sub x0 1 ((List.length x0 : Int))) h_37))) (J20 Q i4 o4 x0 h)) : A6x0 Q i4 o4 x0 h :=
  At.mk (@cast _ ((K1 Q) (.exit 0) [(4, .ptr (some (i4, o4))), (0, .str x0), (2, .undef), (3, .undef)] h) (by kernel_rfl) ht)
theorem J20i (Q : QT) (i4 o4 : Nat) (x0 : List Nat) (h : AHeap) (ht :
 Q (.tup [.ptr (some (i4, o4)), .str x0]) h) : J20 Q i4 o4 x0 h :=
  den_Den (kp := kp) (@cast _ (den pg fn.ntmps kp (C [1, 1, 1, 1, 1, 1]) [(4, .ptr (some (i4, o4))), (0, .str x0)] h (KR Q)) (by kernel_rfl) ht)
theorem call (x0 : List Nat) (h : AHeap) (Q : QT) (ht :
 bcase (decide (x0 = [])) (Q (.tup [.ptr none, .str x0]) h) ((0 ≤ (0 : Int) ∧ (0 : Int) ≤ 1 ∧ (1 : Int) ≤ (List.length x0 : Nat)) ∧ (SCall pg n_impl_arity [.str (sub x0 0 1)] h fun v_0 h_1 =>
 xInt .i64 (some v_0) fun x_2 => bcase (decide ((x_2 : Int) < 0)) (Q (.tup [.ptr none, .str x0]) h_1) (J3 Q x0 h_1)))) : SCall pg n_impl_readType [.str x0] h Q :=
  SCall.of_body kp (c := cod fn) (fn := fn) Go.Proofs.Tryz.func129 (by kernel_rfl) (by kernel_rfl) (Nat.le_of_ble_eq_true (by kernel_rfl))
    (@cast _ (den pg fn.ntmps kp (cod fn) (Env.args 0 [.str x0]) h (KR Q)) (by kernel_rfl) ht)
end F_impl_readType
/-! Function loop.example/instancesearch/impl.typeOf -/
namespace F_impl_typeOf
noncomputable abbrev fn : Func := Go.Proofs.Tryz.f110
def kp : Keeps := []
noncomputable def C (p : List Nat) : Code := (cod fn).sub p
def KR (Q : QT) : KT := retA pg fn.results.toList Q
theorem call (x0 : List Nat) (h : AHeap) (Q : QT) (ht :
 bcase (decide (((((List.length x0 : Nat) : Int)) : Int) > 60)) (Q (.ptr none) h) (SCall pg n_impl_readType [.str x0] h fun v_0 h_1 =>
 xTup v_0 fun cs_2 => xCons cs_2 fun c_3 r_4 => xPtr (some c_3) fun a_5 => xCons r_4 fun c_6 r_7 => xStr (some c_6) fun s_8 => xNil r_7 (bcase (!(decide (s_8 = []))) (Q (.ptr none) h_1) (Q (.ptr a_5) h_1)))) : SCall pg n_impl_typeOf [.str x0] h Q :=
  SCall.of_body kp (c := cod fn) (fn := fn) Go.Proofs.Tryz.func110 (by kernel_rfl) (by kernel_rfl) (Nat.le_of_ble_eq_true (by kernel_rfl))
    (@cast _ (den pg fn.ntmps kp (cod fn) (Env.args 0 [.str x0]) h (KR Q)) (by kernel_rfl) ht)
end F_impl_typeOf
/-! Function loop.example/instancesearch/impl.TypeValid -/
namespace F_impl_TypeValid
noncomputable abbrev fn : Func := Go.Proofs.Tryz.f88
def kp : Keeps := []
noncomputable def C (p : List Nat) : Code := (cod fn).sub p
def KR (Q : QT) : KT := retA pg fn.results.toList Q
theorem call (x0 : List Nat) (h : AHeap) (Q : QT) (ht :
 SCall pg n_impl_typeOf [.str x0] h fun v_0 h_1 =>
 xPtr (some v_0) fun a_2 => Q (.bool (!(Option.isNone a_2))) h_1) : SCall pg n_impl_TypeValid [.str x0] h Q :=
  SCall.of_body kp (c := cod fn) (fn := fn) Go.Proofs.Tryz.func88 (by kernel_rfl) (by kernel_rfl) (Nat.le_of_ble_eq_true (by kernel_rfl))
    (@cast _ (den pg fn.ntmps kp (cod fn) (Env.args 0 [.str x0]) h (KR Q)) (by kernel_rfl) ht)
end F_impl_TypeValid
end Go.Sim

/- Printed by wip/tool: what the functions' bodies do, in the words of 'den'. -/
set_option maxRecDepth 100000
set_option linter.unusedVariables false
namespace Go.Sim
open Go Go.RowKit
/-! Function loop.example/instancesearch/laws.markText -/
namespace F_laws_markText
noncomputable abbrev fn : Func := Go.Proofs.Tryz.f40
def kp : Keeps := [(3000004, [3]), (1000004, [0, 3])]
noncomputable def C (p : List Nat) : Code := (cod fn).sub p
def KR (Q : QT) : KT := retA pg fn.results.toList Q
abbrev T4 := Int → List Nat → AHeap → Prop
def E4 (R4 : T4) (env : Env) (h : AHeap) : Prop := eVal 0 env fun v env => eInt .i64 v fun x0 => eVal 3 env fun v env => xStr (some v) fun x3 => eNil env (R4 x0 x3 h)
theorem E4elim {R4 : T4} {env : Env} {h : AHeap} (hi : E4 R4 env h) : ∃ x0, ∃ x3, env = [(0, .int .i64 x0), (3, .str x3)] ∧ R4 x0 x3 h := by
  unfold E4 at hi
  have hi0 := hi
  clear hi
  obtain ⟨v, env, rfl, hi1⟩ := eVal_elim hi0
  obtain ⟨x0, rfl, hi2⟩ := eInt_elim hi1
  obtain ⟨v, env, rfl, hi3⟩ := eVal_elim hi2
  obtain ⟨x3, rfl, hi4⟩ := xStr_elim hi3
  obtain ⟨rfl, hi5⟩ := eNil_elim hi4
  have hi := hi5
  exact ⟨x0, x3, rfl, hi⟩
def K0 (Q : QT) : KT := andThen (fun env' h' => (match kp.find 4000007 with | some ks => Den pg fn.ntmps (C [1, 1, 1, 1]) (env'.keep ks) h' (KR Q) | none => den pg fn.ntmps kp (C [1, 1, 1, 1]) env' h' (KR Q))) (KR Q)
def K1 (Q : QT) : KT := onExit 0 (K0 Q)
def K2 (Q : QT) : KT := left kp 4 (K1 Q)
def K3 (Q : QT) (R4 : T4) : KT := rnd ((kp.find 1000004).getD []) (E4 R4) (K2 Q)
def L4 (Q : QT) (x0 : Int) (x3 : List Nat) (h : AHeap) : Prop := Loop (Den pg fn.ntmps (C [1, 1, 1, 0, 0, 0])) ((kp.find 1000004).getD []) (K2 Q) [(0, .int .i64 x0), (3, .str x3)] h
def A4x0 (Q : QT) (x3 : List Nat) (h : AHeap) : Prop := At (K1 Q) (.exit 0) [(3, .str x3)] h
def L4t (Q : QT) (R4 : T4) (x0 : Int) (x3 : List Nat) (h : AHeap) : Prop :=
 bcase (decide ((x0 : Int) > 0)) ((10 : Int) ≠ 0 ∧ (letH (h ++ [.cells t_uint8 [.int .u8 (IntKind.wrap .u8 (IntKind.wrap .i64 (48 + (Int.tmod x0 10))))] false]) fun h_0 => xRow (rowOf h_0 (some (List.length h, 0)) 1) fun cs_1 => bytesA cs_1 fun s_2 => List.length s_2 + List.length x3 ≤ 9223372036854775807 ∧ ((10 : Int) ≠ 0 ∧ (R4 (IntKind.wrap .i64 (Int.tdiv x0 10)) (s_2 ++ x3) h_0)))) (A4x0 Q x3 h)
theorem L4den (Q : QT) (R4 : T4) (x0 : Int) (x3 : List Nat) (h : AHeap) (ht : L4t Q R4 x0 x3 h) : Den pg fn.ntmps (C [1, 1, 1, 0, 0, 0]) [(0, .int .i64 x0), (3, .str x3)] h (K3 Q R4) :=
  den_Den (kp := kp) (@cast _ (den pg fn.ntmps kp (C [1, 1, 1, 0, 0, 0]) [(0, .int .i64 x0), (3, .str x3)] h (K3 Q R4)) (by kernel_rfl) ht)
theorem L4ind (Q : QT) {G : Type} (J : G → Int → List Nat → AHeap → Prop) (m : G → Nat)
 (hr : ∀ (g : G) (x0 : Int) (x3 : List Nat) (h : AHeap), J g x0 x3 h → ∀ (R4 : T4), (∀ g' (x0 : Int) (x3 : List Nat) (h : AHeap), m g' < m g → J g' x0 x3 h → R4 x0 x3 h) → L4t Q R4 x0 x3 h)
 (g : G) (x0 : Int) (x3 : List Nat) (h : AHeap) (hj : J g x0 x3 h) : L4 Q x0 x3 h := by
  refine Loop.inv2 (fun g => E4 fun x0 x3 h => J g x0 x3 h) (fun g => E4 fun x0 x3 h => ∃ g', m g' < m g ∧ J g' x0 x3 h) m ?_ ?_ g hj
  · intro g env h hi
    obtain ⟨x0, x3, rfl, hj⟩ := E4elim hi
    exact L4den Q (fun x0 x3 h => ∃ g', m g' < m g ∧ J g' x0 x3 h) x0 x3 h (hr g x0 x3 h hj (fun x0 x3 h => ∃ g', m g' < m g ∧ J g' x0 x3 h) fun g' x0 x3 h hlt hj => ⟨g', hlt, hj⟩)
  · intro g env h hi
    obtain ⟨x0, x3, rfl, g', hlt, hj⟩ := E4elim hi
    exact ⟨g', hlt, hj⟩
theorem A4x0i (Q : QT) (x3 : List Nat) (h : AHeap) (ht :
 List.length [109] + List.length x3 ≤ 9223372036854775807 ∧ (Q (.str ([109] ++ x3)) h)) : A4x0 Q x3 h :=
  At.mk (@cast _ ((K1 Q) (.exit 0) [(3, .str x3)] h) (by kernel_rfl) ht)
theorem call (x0 : Int) (h : AHeap) (Q : QT) (ht :
 bcase (decide ((x0 : Int) ≤ 0)) (Q (.str ([109, 48])) h) (L4 Q x0 [] h)) : SCall pg n_laws_markText [.int .i64 x0] h Q :=
  SCall.of_body kp (c := cod fn) (fn := fn) Go.Proofs.Tryz.func40 (by kernel_rfl) (by kernel_rfl) (Nat.le_of_ble_eq_true (by kernel_rfl))
    (@cast _ (den pg fn.ntmps kp (cod fn) (Env.args 0 [.int .i64 x0]) h (KR Q)) (by kernel_rfl) ht)
end F_laws_markText
end Go.Sim

/- Printed by wip/tool: what the functions' bodies do, in the words of 'den'. -/
set_option maxRecDepth 100000
set_option linter.unusedVariables false
namespace Go.Sim
open Go Go.RowKit
/-! Function loop.example/instancesearch/laws.toNeedS -/
namespace F_laws_toNeedS
noncomputable abbrev fn : Func := Go.Proofs.Tryz.f24
def kp : Keeps := [(3000003, [3]), (1000003, [0, 3, 4])]
noncomputable def C (p : List Nat) : Code := (cod fn).sub p
def KR (Q : QT) : KT := retA pg fn.results.toList Q
abbrev T3 := Pt → Nat → Nat → Bool → Pt → Nat → Nat → Bool → Int → AHeap → Prop
def E3 (R3 : T3) (env : Env) (h : AHeap) : Prop := eVal 0 env fun v env => xSl (some v) fun a0 n0 c0 e0 => eVal 3 env fun v env => xSl (some v) fun a3 n3 c3 e3 => eVal 4 env fun v env => eInt .i64 v fun x4 => eNil env (R3 a0 n0 c0 e0 a3 n3 c3 e3 x4 h)
theorem E3elim {R3 : T3} {env : Env} {h : AHeap} (hi : E3 R3 env h) : ∃ a0, ∃ n0, ∃ c0, ∃ e0, ∃ a3, ∃ n3, ∃ c3, ∃ e3, ∃ x4, env = [(0, .slice a0 n0 c0 e0), (3, .slice a3 n3 c3 e3), (4, .int .i64 x4)] ∧ R3 a0 n0 c0 e0 a3 n3 c3 e3 x4 h := by
  unfold E3 at hi
  have hi0 := hi
  clear hi
  obtain ⟨v, env, rfl, hi1⟩ := eVal_elim hi0
  obtain ⟨a0, n0, c0, e0, rfl, hi2⟩ := xSl_elim hi1
  obtain ⟨v, env, rfl, hi3⟩ := eVal_elim hi2
  obtain ⟨a3, n3, c3, e3, rfl, hi4⟩ := xSl_elim hi3
  obtain ⟨v, env, rfl, hi5⟩ := eVal_elim hi4
  obtain ⟨x4, rfl, hi6⟩ := eInt_elim hi5
  obtain ⟨rfl, hi7⟩ := eNil_elim hi6
  have hi := hi7
  exact ⟨a0, n0, c0, e0, a3, n3, c3, e3, x4, rfl, hi⟩
def K0 (Q : QT) : KT := andThen (fun env' h' => (match kp.find 4000006 with | some ks => Den pg fn.ntmps (C [1, 1, 1]) (env'.keep ks) h' (KR Q) | none => den pg fn.ntmps kp (C [1, 1, 1]) env' h' (KR Q))) (KR Q)
def K1 (Q : QT) : KT := onExit 0 (K0 Q)
def K2 (Q : QT) : KT := left kp 3 (K1 Q)
def K3 (Q : QT) (R3 : T3) : KT := rnd ((kp.find 1000003).getD []) (E3 R3) (K2 Q)
def L3 (Q : QT) (a0 : Pt) (n0 c0 : Nat) (e0 : Bool) (a3 : Pt) (n3 c3 : Nat) (e3 : Bool) (x4 : Int) (h : AHeap) : Prop := Loop (Den pg fn.ntmps (C [1, 1, 0, 1, 0, 0])) ((kp.find 1000003).getD []) (K2 Q) [(0, .slice a0 n0 c0 e0), (3, .slice a3 n3 c3 e3), (4, .int .i64 x4)] h
def A3x0 (Q : QT) (a3 : Pt) (n3 c3 : Nat) (e3 : Bool) (h : AHeap) : Prop := At (K1 Q) (.exit 0) [(3, .slice a3 n3 c3 e3)] h
def L3t (Q : QT) (R3 : T3) (a0 : Pt) (n0 c0 : Nat) (e0 : Bool) (a3 : Pt) (n3 c3 : Nat) (e3 : Bool) (x4 : Int) (h : AHeap) : Prop :=
 bcase (decide ((x4 : Int) < (((n0 : Nat) : Int)))) ((0 ≤ (x4 : Int) ∧ (x4 : Int) < (n0 : Nat)) ∧ (xSome a0 fun i_1 o_2 => xRow (hRow h (.ptr (some (i_1, o_2 + (Int.toNat x4) * 2))) 2) fun cs_3 => xCons cs_3 fun c_4 r_5 => xStr (some c_4) fun s_6 => xCons r_5 fun c_7 r_8 => xStr (some c_7) fun s_9 => xNil r_8 (SCall pg n_laws_toNeed [.agg [.str s_6, .str s_9]] h fun v_10 h_11 =>
 xAgg v_10 fun cs_12 => xCons cs_12 fun c_13 r_14 => xStr (some c_13) fun s_15 => xCons r_14 fun c_16 r_17 => xStr (some c_16) fun s_18 => xNil r_17 ((0 ≤ (x4 : Int) ∧ (x4 : Int) < (n3 : Nat)) ∧ (xSome a3 fun i_19 o_20 => xHeap (hStore h_11 (.ptr (some (i_19, o_20 + (Int.toNat x4) * 2))) [.str s_15, .str s_18]) fun h_21 => R3 a0 n0 c0 e0 a3 n3 c3 e3 (IntKind.wrap .i64 (x4 + 1)) h_21))))) (A3x0 Q a3 n3 c3 e3 h)
theorem L3den (Q : QT) (R3 : T3) (a0 : Pt) (n0 c0 : Nat) (e0 : Bool) (a3 : Pt) (n3 c3 : Nat) (e3 : Bool) (x4 : Int) (h : AHeap) (ht : L3t Q R3 a0 n0 c0 e0 a3 n3 c3 e3 x4 h) : Den pg fn.ntmps (C [1, 1, 0, 1, 0, 0]) [(0, .slice a0 n0 c0 e0), (3, .slice a3 n3 c3 e3), (4, .int .i64 x4)] h (K3 Q R3) :=
  den_Den (kp := kp) (@cast _ (den pg fn.ntmps kp (C [1, 1, 0, 1, 0, 0]) [(0, .slice a0 n0 c0 e0), (3, .slice a3 n3 c3 e3), (4, .int .i64 x4)] h (K3 Q R3)) (by kernel_rfl) ht)
theorem L3ind (Q : QT) (a0 : Pt) (n0 c0 : Nat) (e0 : Bool) (a3 : Pt) (n3 c3 : Nat) (e3 : Bool) {G : Type} (J : G → Int → AHeap → Prop) (m : G → Nat)
 (hr : ∀ (g : G) (x4 : Int) (h : AHeap), J g x4 h → ∀ (R3 : T3), (∀ g' (x4 : Int) (h : AHeap), m g' < m g → J g' x4 h → R3 a0 n0 c0 e0 a3 n3 c3 e3 x4 h) → L3t Q R3 a0 n0 c0 e0 a3 n3 c3 e3 x4 h)
 (g : G) (x4 : Int) (h : AHeap) (hj : J g x4 h) : L3 Q a0 n0 c0 e0 a3 n3 c3 e3 x4 h := by
  refine Loop.inv2 (fun g => E3 fun a0' n0' c0' e0' a3' n3' c3' e3' x4 h => a0 = a0' ∧ n0 = n0' ∧ c0 = c0' ∧ e0 = e0' ∧ a3 = a3' ∧ n3 = n3' ∧ c3 = c3' ∧ e3 = e3' ∧ J g x4 h) (fun g => E3 fun a0' n0' c0' e0' a3' n3' c3' e3' x4 h => a0 = a0' ∧ n0 = n0' ∧ c0 = c0' ∧ e0 = e0' ∧ a3 = a3' ∧ n3 = n3' ∧ c3 = c3' ∧ e3 = e3' ∧ ∃ g', m g' < m g ∧ J g' x4 h) m ?_ ?_ g ⟨rfl, rfl, rfl, rfl, rfl, rfl, rfl, rfl, hj⟩
  · intro g env h hi
    obtain ⟨a0', n0', c0', e0', a3', n3', c3', e3', x4, rfl, rfl, rfl, rfl, rfl, rfl, rfl, rfl, rfl, hj⟩ := E3elim hi
    exact L3den Q (fun a0' n0' c0' e0' a3' n3' c3' e3' x4 h => a0 = a0' ∧ n0 = n0' ∧ c0 = c0' ∧ e0 = e0' ∧ a3 = a3' ∧ n3 = n3' ∧ c3 = c3' ∧ e3 = e3' ∧ ∃ g', m g' < m g ∧ J g' x4 h) a0 n0 c0 e0 a3 n3 c3 e3 x4 h (hr g x4 h hj (fun a0' n0' c0' e0' a3' n3' c3' e3' x4 h => a0 = a0' ∧ n0 = n0' ∧ c0 = c0' ∧ e0 = e0' ∧ a3 = a3' ∧ n3 = n3' ∧ c3 = c3' ∧ e3 = e3' ∧ ∃ g', m g' < m g ∧ J g' x4 h) fun g' x4 h hlt hj => ⟨rfl, rfl, rfl, rfl, rfl, rfl, rfl, rfl, g', hlt, hj⟩)
  · intro g env h hi
    obtain ⟨a0', n0', c0', e0', a3', n3', c3', e3', x4, rfl, rfl, rfl, rfl, rfl, rfl, rfl, rfl, rfl, g', hlt, hj⟩ := E3elim hi
    exact ⟨g', hlt, rfl, rfl, rfl, rfl, rfl, rfl, rfl, rfl, hj⟩
theorem A3x0i (Q : QT) (a3 : Pt) (n3 c3 : Nat) (e3 : Bool) (h : AHeap) (ht :
 Q (.slice a3 n3 c3 e3) h) : A3x0 Q a3 n3 c3 e3 h :=
  At.mk (@cast _ ((K1 Q) (.exit 0) [(3, .slice a3 n3 c3 e3)] h) (by kernel_rfl) ht)
theorem call (a0 : Pt) (n0 c0 : Nat) (e0 : Bool) (h : AHeap) (Q : QT) (ht :
 IntKind.i64 = IntKind.i64 ∧ (IntKind.i64 = IntKind.i64 ∧ ((0 ≤ ((((n0 : Nat) : Int)) : Int) ∧ ((((n0 : Nat) : Int)) : Int) ≤ (((n0 : Nat) : Int)) ∧ ((((n0 : Nat) : Int)) : Int) * (((32 : Nat) : Int) + 1) ≤ 140737488355328) ∧ (letH (h ++ [.cells t_impl_Need (reps (Int.toNat ((((n0 : Nat) : Int)))) [.str [], .str []]) false]) fun h_0 => L3 Q a0 n0 c0 e0 (some (List.length h, 0)) (Int.toNat ((((n0 : Nat) : Int)))) (Int.toNat ((((n0 : Nat) : Int)))) true 0 h_0)))) : SCall pg n_laws_toNeedS [.slice a0 n0 c0 e0] h Q :=
  SCall.of_body kp (c := cod fn) (fn := fn) Go.Proofs.Tryz.func24 (by kernel_rfl) (by kernel_rfl) (Nat.le_of_ble_eq_true (by kernel_rfl))
    (@cast _ (den pg fn.ntmps kp (cod fn) (Env.args 0 [.slice a0 n0 c0 e0]) h (KR Q)) (by kernel_rfl) ht)
end F_laws_toNeedS
/-! Function loop.example/instancesearch/laws.eqNeedS -/
namespace F_laws_eqNeedS
noncomputable abbrev fn : Func := Go.Proofs.Tryz.f11
def kp : Keeps := [(3000004, [4]), (1000004, [0, 1, 5]), (2000006, [26, 5, 0, 1])]
noncomputable def C (p : List Nat) : Code := (cod fn).sub p
def KR (Q : QT) : KT := retA pg fn.results.toList Q
abbrev T4 := Pt → Nat → Nat → Bool → Pt → Nat → Nat → Bool → Int → AHeap → Prop
def E4 (R4 : T4) (env : Env) (h : AHeap) : Prop := eVal 0 env fun v env => xSl (some v) fun a0 n0 c0 e0 => eVal 1 env fun v env => xSl (some v) fun a1 n1 c1 e1 => eVal 5 env fun v env => eInt .i64 v fun x5 => eNil env (R4 a0 n0 c0 e0 a1 n1 c1 e1 x5 h)
theorem E4elim {R4 : T4} {env : Env} {h : AHeap} (hi : E4 R4 env h) : ∃ a0, ∃ n0, ∃ c0, ∃ e0, ∃ a1, ∃ n1, ∃ c1, ∃ e1, ∃ x5, env = [(0, .slice a0 n0 c0 e0), (1, .slice a1 n1 c1 e1), (5, .int .i64 x5)] ∧ R4 a0 n0 c0 e0 a1 n1 c1 e1 x5 h := by
  unfold E4 at hi
  have hi0 := hi
  clear hi
  obtain ⟨v, env, rfl, hi1⟩ := eVal_elim hi0
  obtain ⟨a0, n0, c0, e0, rfl, hi2⟩ := xSl_elim hi1
  obtain ⟨v, env, rfl, hi3⟩ := eVal_elim hi2
  obtain ⟨a1, n1, c1, e1, rfl, hi4⟩ := xSl_elim hi3
  obtain ⟨v, env, rfl, hi5⟩ := eVal_elim hi4
  obtain ⟨x5, rfl, hi6⟩ := eInt_elim hi5
  obtain ⟨rfl, hi7⟩ := eNil_elim hi6
  have hi := hi7
  exact ⟨a0, n0, c0, e0, a1, n1, c1, e1, x5, rfl, hi⟩
def K0 (Q : QT) : KT := andThen (fun env' h' => (match kp.find 4000008 with | some ks => Den pg fn.ntmps (C [1, 1, 1]) (env'.keep ks) h' (KR Q) | none => den pg fn.ntmps kp (C [1, 1, 1]) env' h' (KR Q))) (KR Q)
def K1 (Q : QT) : KT := onExit 0 (K0 Q)
def K2 (Q : QT) : KT := left kp 4 (K1 Q)
def K3 (Q : QT) (R4 : T4) : KT := rnd ((kp.find 1000004).getD []) (E4 R4) (K2 Q)
def L4 (Q : QT) (a0 : Pt) (n0 c0 : Nat) (e0 : Bool) (a1 : Pt) (n1 c1 : Nat) (e1 : Bool) (x5 : Int) (h : AHeap) : Prop := Loop (Den pg fn.ntmps (C [1, 1, 0, 1, 0, 0])) ((kp.find 1000004).getD []) (K2 Q) [(0, .slice a0 n0 c0 e0), (1, .slice a1 n1 c1 e1), (5, .int .i64 x5)] h
def A4x0 (Q : QT) (h : AHeap) : Prop := At (K1 Q) (.exit 0) [(4, .undef)] h
def L4t (Q : QT) (R4 : T4) (a0 : Pt) (n0 c0 : Nat) (e0 : Bool) (a1 : Pt) (n1 c1 : Nat) (e1 : Bool) (x5 : Int) (h : AHeap) : Prop :=
 bcase (decide ((x5 : Int) < (((n0 : Nat) : Int)))) ((0 ≤ (x5 : Int) ∧ (x5 : Int) < (n0 : Nat)) ∧ (xSome a0 fun i_0 o_1 => (0 ≤ (x5 : Int) ∧ (x5 : Int) < (n1 : Nat)) ∧ (xSome a1 fun i_2 o_3 => xRow (hRow h (.ptr (some (i_0, o_1 + (Int.toNat x5) * 2))) 2) fun cs_4 => xCons cs_4 fun c_5 r_6 => xStr (some c_5) fun s_7 => xCons r_6 fun c_8 r_9 => xStr (some c_8) fun s_10 => xNil r_9 (xRow (hRow h (.ptr (some (i_2, o_3 + (Int.toNat x5) * 2))) 2) fun cs_11 => xCons cs_11 fun c_12 r_13 => xStr (some c_12) fun s_14 => xCons r_13 fun c_15 r_16 => xStr (some c_15) fun s_17 => xNil r_16 ((hRow h (.ptr (some (i_0, o_1 + (Int.toNat x5) * 2))) 2 = hRow h (.ptr (some (i_0, o_1 + (Int.toNat x5) * 2))) 2) ∧ SCall pg n_laws_eqNeed [.agg [.str s_7, .str s_10], .agg [.str s_14, .str s_17]] h fun v_18 h_19 =>
 xBool (some v_18) fun b_20 => bcase (!b_20) (Q (.bool false) h_19) (R4 a0 n0 c0 e0 a1 n1 c1 e1 (IntKind.wrap .i64 (x5 + 1)) h_19)))))) (A4x0 Q h)
theorem L4den (Q : QT) (R4 : T4) (a0 : Pt) (n0 c0 : Nat) (e0 : Bool) (a1 : Pt) (n1 c1 : Nat) (e1 : Bool) (x5 : Int) (h : AHeap) (ht : L4t Q R4 a0 n0 c0 e0 a1 n1 c1 e1 x5 h) : Den pg fn.ntmps (C [1, 1, 0, 1, 0, 0]) [(0, .slice a0 n0 c0 e0), (1, .slice a1 n1 c1 e1), (5, .int .i64 x5)] h (K3 Q R4) :=
  den_Den (kp := kp) (@cast _ (den pg fn.ntmps kp (C [1, 1, 0, 1, 0, 0]) [(0, .slice a0 n0 c0 e0), (1, .slice a1 n1 c1 e1), (5, .int .i64 x5)] h (K3 Q R4)) (by kernel_rfl) ht)
theorem L4ind (Q : QT) (a0 : Pt) (n0 c0 : Nat) (e0 : Bool) (a1 : Pt) (n1 c1 : Nat) (e1 : Bool) {G : Type} (J : G → Int → AHeap → Prop) (m : G → Nat)
 (hr : ∀ (g : G) (x5 : Int) (h : AHeap), J g x5 h → ∀ (R4 : T4), (∀ g' (x5 : Int) (h : AHeap), m g' < m g → J g' x5 h → R4 a0 n0 c0 e0 a1 n1 c1 e1 x5 h) → L4t Q R4 a0 n0 c0 e0 a1 n1 c1 e1 x5 h)
 (g : G) (x5 : Int) (h : AHeap) (hj : J g x5 h) : L4 Q a0 n0 c0 e0 a1 n1 c1 e1 x5 h := by
  refine Loop.inv2 (fun g => E4 fun a0' n0' c0' e0' a1' n1' c1' e1' x5 h => a0 = a0' ∧ n0 = n0' ∧ c0 = c0' ∧ e0 = e0' ∧ a1 = a1' ∧ n1 = n1' ∧ c1 = c1' ∧ e1 = e1' ∧ J g x5 h) (fun g => E4 fun a0' n0' c0' e0' a1' n1' c1' e1' x5 h => a0 = a0' ∧ n0 = n0' ∧ c0 = c0' ∧ e0 = e0' ∧ a1 = a1' ∧ n1 = n1' ∧ c1 = c1' ∧ e1 = e1' ∧ ∃ g', m g' < m g ∧ J g' x5 h) m ?_ ?_ g ⟨rfl, rfl, rfl, rfl, rfl, rfl, rfl, rfl, hj⟩
  · intro g env h hi
    obtain ⟨a0', n0', c0', e0', a1', n1', c1', e1', x5, rfl, rfl, rfl, rfl, rfl, rfl, rfl, rfl, rfl, hj⟩ := E4elim hi
    exact L4den Q (fun a0' n0' c0' e0' a1' n1' c1' e1' x5 h => a0 = a0' ∧ n0 = n0' ∧ c0 = c0' ∧ e0 = e0' ∧ a1 = a1' ∧ n1 = n1' ∧ c1 = c1' ∧ e1 = e1' ∧ ∃ g', m g' < m g ∧ J g' x5 h) a0 n0 c0 e0 a1 n1 c1 e1 x5 h (hr g x5 h hj (fun a0' n0' c0' e0' a1' n1' c1' e1' x5 h => a0 = a0' ∧ n0 = n0' ∧ c0 = c0' ∧ e0 = e0' ∧ a1 = a1' ∧ n1 = n1' ∧ c1 = c1' ∧ e1 = e1' ∧ ∃ g', m g' < m g ∧ J g' x5 h) fun g' x5 h hlt hj => ⟨rfl, rfl, rfl, rfl, rfl, rfl, rfl, rfl, g', hlt, hj⟩)
  · intro g env h hi
    obtain ⟨a0', n0', c0', e0', a1', n1', c1', e1', x5, rfl, rfl, rfl, rfl, rfl, rfl, rfl, rfl, rfl, g', hlt, hj⟩ := E4elim hi
    exact ⟨g', hlt, rfl, rfl, rfl, rfl, rfl, rfl, rfl, rfl, hj⟩
theorem A4x0i (Q : QT) (h : AHeap) (ht :
 Q (.bool true) h) : A4x0 Q h :=
  At.mk (@cast _ ((K1 Q) (.exit 0) [(4, .undef)] h) (by kernel_rfl) ht)
theorem call (a0 : Pt) (n0 c0 : Nat) (e0 : Bool) (a1 : Pt) (n1 c1 : Nat) (e1 : Bool) (h : AHeap) (Q : QT) (ht :
 bcase (!((((n0 : Nat) : Int) : Int) == (((n1 : Nat) : Int)))) (Q (.bool false) h) (L4 Q a0 n0 c0 e0 a1 n1 c1 e1 0 h)) : SCall pg n_laws_eqNeedS [.slice a0 n0 c0 e0, .slice a1 n1 c1 e1] h Q :=
  SCall.of_body kp (c := cod fn) (fn := fn) Go.Proofs.Tryz.func11 (by kernel_rfl) (by kernel_rfl) (Nat.le_of_ble_eq_true (by kernel_rfl))
    (@cast _ (den pg fn.ntmps kp (cod fn) (Env.args 0 [.slice a0 n0 c0 e0, .slice a1 n1 c1 e1]) h (KR Q)) (by kernel_rfl) ht)
end F_laws_eqNeedS
end Go.Sim

/- Printed by wip/tool: what the functions' bodies do, in the words of 'den'. -/
set_option maxRecDepth 100000
set_option linter.unusedVariables false
namespace Go.Sim
open Go Go.RowKit
/-! Function loop.example/instancesearch/laws.szNeed -/
namespace F_laws_szNeed
noncomputable abbrev fn : Func := Go.Proofs.Tryz.f16
def kp : Keeps := []
noncomputable def C (p : List Nat) : Code := (cod fn).sub p
def KR (Q : QT) : KT := retA pg fn.results.toList Q
theorem call (x0x0 x0x1 : List Nat) (x1 : Int) (h : AHeap) (Q : QT) (ht :
 letH (h ++ [.cells t_laws_Need [.str x0x0, .str x0x1] false]) fun h_0 => xStr (hCell h_0 (.ptr (some (List.length h, 0 + 0)))) fun s_1 => bcase (decide (((IntKind.wrap .i64 (x1 - (((List.length s_1 : Nat) : Int)))) : Int) < 0)) (Q (.int .i64 (-1)) h_0) (xStr (hCell h_0 (.ptr (some (List.length h, 0 + 1)))) fun s_2 => bcase (decide (((IntKind.wrap .i64 ((IntKind.wrap .i64 (x1 - (((List.length s_1 : Nat) : Int)))) - (((List.length s_2 : Nat) : Int)))) : Int) < 0)) (Q (.int .i64 (-1)) h_0) (Q (.int .i64 (IntKind.wrap .i64 ((IntKind.wrap .i64 (x1 - (((List.length s_1 : Nat) : Int)))) - (((List.length s_2 : Nat) : Int))))) h_0))) : SCall pg n_laws_szNeed [.agg [.str x0x0, .str x0x1], .int .i64 x1] h Q :=
  SCall.of_body kp (c := cod fn) (fn := fn) Go.Proofs.Tryz.func16 (by kernel_rfl) (by kernel_rfl) (Nat.le_of_ble_eq_true (by kernel_rfl))
    (@cast _ (den pg fn.ntmps kp (cod fn) (Env.args 0 [.agg [.str x0x0, .str x0x1], .int .i64 x1]) h (KR Q)) (by kernel_rfl) ht)
end F_laws_szNeed
/-! Function loop.example/instancesearch/laws.eqNeed -/
namespace F_laws_eqNeed
noncomputable abbrev fn : Func := Go.Proofs.Tryz.f35
def kp : Keeps := []
noncomputable def C (p : List Nat) : Code := (cod fn).sub p
def KR (Q : QT) : KT := retA pg fn.results.toList Q
theorem call (x0x0 x0x1 x1x0 x1x1 : List Nat) (h : AHeap) (Q : QT) (ht :
 letH (h ++ [.cells t_impl_Need [.str x0x0, .str x0x1] false]) fun h_0 => letH (h_0 ++ [.cells t_impl_Need [.str x1x0, .str x1x1] false]) fun h_1 => xStr (hCell h_1 (.ptr (some (List.length h, 0 + 0)))) fun s_2 => xStr (hCell h_1 (.ptr (some (List.length h_0, 0 + 0)))) fun s_3 => bcase (!(decide (s_2 = s_3))) (Q (.bool false) h_1) (xStr (hCell h_1 (.ptr (some (List.length h, 0 + 1)))) fun s_4 => xStr (hCell h_1 (.ptr (some (List.length h_0, 0 + 1)))) fun s_5 => bcase (!(decide (s_4 = s_5))) (Q (.bool false) h_1) (Q (.bool true) h_1))) : SCall pg n_laws_eqNeed [.agg [.str x0x0, .str x0x1], .agg [.str x1x0, .str x1x1]] h Q :=
  SCall.of_body kp (c := cod fn) (fn := fn) Go.Proofs.Tryz.func35 (by kernel_rfl) (by kernel_rfl) (Nat.le_of_ble_eq_true (by kernel_rfl))
    (@cast _ (den pg fn.ntmps kp (cod fn) (Env.args 0 [.agg [.str x0x0, .str x0x1], .agg [.str x1x0, .str x1x1]]) h (KR Q)) (by kernel_rfl) ht)
end F_laws_eqNeed
/-! Function loop.example/instancesearch/laws.toNeed -/
namespace F_laws_toNeed
noncomputable abbrev fn : Func := Go.Proofs.Tryz.f18
def kp : Keeps := []
noncomputable def C (p : List Nat) : Code := (cod fn).sub p
def KR (Q : QT) : KT := retA pg fn.results.toList Q
theorem call (x0x0 x0x1 : List Nat) (h : AHeap) (Q : QT) (ht :
 letH (h ++ [.cells t_laws_Need [.str x0x0, .str x0x1] false]) fun h_0 => letH (h_0 ++ [.cells t_impl_Need [.str [], .str []] false]) fun h_1 => letH (h_1 ++ [.cells t_impl_Need [.str [], .str []] false]) fun h_2 => xStr (hCell h_2 (.ptr (some (List.length h, 0 + 0)))) fun s_3 => xHeap (hStore h_2 (.ptr (some (List.length h_1, 0 + 0))) [.str s_3]) fun h_4 => xStr (hCell h_4 (.ptr (some (List.length h, 0 + 1)))) fun s_5 => xHeap (hStore h_4 (.ptr (some (List.length h_1, 0 + 1))) [.str s_5]) fun h_6 => xRow (hRow h_6 (.ptr (some (List.length h_1, 0))) 2) fun cs_7 => xCons cs_7 fun c_8 r_9 => xStr (some c_8) fun s_10 => xCons r_9 fun c_11 r_12 => xStr (some c_11) fun s_13 => xNil r_12 (xHeap (hStore h_6 (.ptr (some (List.length h_0, 0))) [.str s_10, .str s_13]) fun h_14 => xRow (hRow h_14 (.ptr (some (List.length h_0, 0))) 2) fun cs_15 => xCons cs_15 fun c_16 r_17 => xStr (some c_16) fun s_18 => xCons r_17 fun c_19 r_20 => xStr (some c_19) fun s_21 => xNil r_20 (Q (.agg [.str s_18, .str s_21]) h_14))) : SCall pg n_laws_toNeed [.agg [.str x0x0, .str x0x1]] h Q :=
  SCall.of_body kp (c := cod fn) (fn := fn) Go.Proofs.Tryz.func18 (by kernel_rfl) (by kernel_rfl) (Nat.le_of_ble_eq_true (by kernel_rfl))
    (@cast _ (den pg fn.ntmps kp (cod fn) (Env.args 0 [.agg [.str x0x0, .str x0x1]]) h (KR Q)) (by kernel_rfl) ht)
end F_laws_toNeed
/-! Function loop.example/instancesearch/laws.szNeedS -/
namespace F_laws_szNeedS
noncomputable abbrev fn : Func := Go.Proofs.Tryz.f22
def kp : Keeps := [(3000005, [1, 4]), (1000005, [0, 1, 5])]
noncomputable def C (p : List Nat) : Code := (cod fn).sub p
def KR (Q : QT) : KT := retA pg fn.results.toList Q
abbrev T5 := Pt → Nat → Nat → Bool → Int → Int → AHeap → Prop
def E5 (R5 : T5) (env : Env) (h : AHeap) : Prop := eVal 0 env fun v env => xSl (some v) fun a0 n0 c0 e0 => eVal 1 env fun v env => eInt .i64 v fun x1 => eVal 5 env fun v env => eInt .i64 v fun x5 => eNil env (R5 a0 n0 c0 e0 x1 x5 h)
theorem E5elim {R5 : T5} {env : Env} {h : AHeap} (hi : E5 R5 env h) : ∃ a0, ∃ n0, ∃ c0, ∃ e0, ∃ x1, ∃ x5, env = [(0, .slice a0 n0 c0 e0), (1, .int .i64 x1), (5, .int .i64 x5)] ∧ R5 a0 n0 c0 e0 x1 x5 h := by
  unfold E5 at hi
  have hi0 := hi
  clear hi
  obtain ⟨v, env, rfl, hi1⟩ := eVal_elim hi0
  obtain ⟨a0, n0, c0, e0, rfl, hi2⟩ := xSl_elim hi1
  obtain ⟨v, env, rfl, hi3⟩ := eVal_elim hi2
  obtain ⟨x1, rfl, hi4⟩ := eInt_elim hi3
  obtain ⟨v, env, rfl, hi5⟩ := eVal_elim hi4
  obtain ⟨x5, rfl, hi6⟩ := eInt_elim hi5
  obtain ⟨rfl, hi7⟩ := eNil_elim hi6
  have hi := hi7
  exact ⟨a0, n0, c0, e0, x1, x5, rfl, hi⟩
def K0 (Q : QT) : KT := andThen (fun env' h' => (match kp.find 4000010 with | some ks => Den pg fn.ntmps (C [1, 1, 1, 1]) (env'.keep ks) h' (KR Q) | none => den pg fn.ntmps kp (C [1, 1, 1, 1]) env' h' (KR Q))) (KR Q)
def K1 (Q : QT) : KT := onExit 0 (K0 Q)
def K2 (Q : QT) : KT := left kp 5 (K1 Q)
def K3 (Q : QT) (R5 : T5) : KT := rnd ((kp.find 1000005).getD []) (E5 R5) (K2 Q)
def L5 (Q : QT) (a0 : Pt) (n0 c0 : Nat) (e0 : Bool) (x1 x5 : Int) (h : AHeap) : Prop := Loop (Den pg fn.ntmps (C [1, 1, 1, 0, 1, 0, 0])) ((kp.find 1000005).getD []) (K2 Q) [(0, .slice a0 n0 c0 e0), (1, .int .i64 x1), (5, .int .i64 x5)] h
def A5x0 (Q : QT) (x1 : Int) (h : AHeap) : Prop := At (K1 Q) (.exit 0) [(1, .int .i64 x1), (4, .undef)] h
def L5t (Q : QT) (R5 : T5) (a0 : Pt) (n0 c0 : Nat) (e0 : Bool) (x1 x5 : Int) (h : AHeap) : Prop :=
 bcase (decide ((x5 : Int) < (((n0 : Nat) : Int)))) ((0 ≤ (x5 : Int) ∧ (x5 : Int) < (n0 : Nat)) ∧ (xSome a0 fun i_0 o_1 => xRow (hRow h (.ptr (some (i_0, o_1 + (Int.toNat x5) * 2))) 2) fun cs_2 => xCons cs_2 fun c_3 r_4 => xStr (some c_3) fun s_5 => xCons r_4 fun c_6 r_7 => xStr (some c_6) fun s_8 => xNil r_7 (SCall pg n_laws_szNeed [.agg [.str s_5, .str s_8], .int .i64 x1] h fun v_9 h_10 =>
 xInt .i64 (some v_9) fun x_11 => bcase (decide ((x_11 : Int) < 0)) (Q (.int .i64 (-1)) h_10) (R5 a0 n0 c0 e0 x_11 (IntKind.wrap .i64 (x5 + 1)) h_10)))) (A5x0 Q x1 h)
theorem L5den (Q : QT) (R5 : T5) (a0 : Pt) (n0 c0 : Nat) (e0 : Bool) (x1 x5 : Int) (h : AHeap) (ht : L5t Q R5 a0 n0 c0 e0 x1 x5 h) : Den pg fn.ntmps (C [1, 1, 1, 0, 1, 0, 0]) [(0, .slice a0 n0 c0 e0), (1, .int .i64 x1), (5, .int .i64 x5)] h (K3 Q R5) :=
  den_Den (kp := kp) (@cast _ (den pg fn.ntmps kp (C [1, 1, 1, 0, 1, 0, 0]) [(0, .slice a0 n0 c0 e0), (1, .int .i64 x1), (5, .int .i64 x5)] h (K3 Q R5)) (by kernel_rfl) ht)
theorem L5ind (Q : QT) (a0 : Pt) (n0 c0 : Nat) (e0 : Bool) {G : Type} (J : G → Int → Int → AHeap → Prop) (m : G → Nat)
 (hr : ∀ (g : G) (x1 x5 : Int) (h : AHeap), J g x1 x5 h → ∀ (R5 : T5), (∀ g' (x1 x5 : Int) (h : AHeap), m g' < m g → J g' x1 x5 h → R5 a0 n0 c0 e0 x1 x5 h) → L5t Q R5 a0 n0 c0 e0 x1 x5 h)
 (g : G) (x1 x5 : Int) (h : AHeap) (hj : J g x1 x5 h) : L5 Q a0 n0 c0 e0 x1 x5 h := by
  refine Loop.inv2 (fun g => E5 fun a0' n0' c0' e0' x1 x5 h => a0 = a0' ∧ n0 = n0' ∧ c0 = c0' ∧ e0 = e0' ∧ J g x1 x5 h) (fun g => E5 fun a0' n0' c0' e0' x1 x5 h => a0 = a0' ∧ n0 = n0' ∧ c0 = c0' ∧ e0 = e0' ∧ ∃ g', m g' < m g ∧ J g' x1 x5 h) m ?_ ?_ g ⟨rfl, rfl, rfl, rfl, hj⟩
  · intro g env h hi
    obtain ⟨a0', n0', c0', e0', x1, x5, rfl, rfl, rfl, rfl, rfl, hj⟩ := E5elim hi
    exact L5den Q (fun a0' n0' c0' e0' x1 x5 h => a0 = a0' ∧ n0 = n0' ∧ c0 = c0' ∧ e0 = e0' ∧ ∃ g', m g' < m g ∧ J g' x1 x5 h) a0 n0 c0 e0 x1 x5 h (hr g x1 x5 h hj (fun a0' n0' c0' e0' x1 x5 h => a0 = a0' ∧ n0 = n0' ∧ c0 = c0' ∧ e0 = e0' ∧ ∃ g', m g' < m g ∧ J g' x1 x5 h) fun g' x1 x5 h hlt hj => ⟨rfl, rfl, rfl, rfl, g', hlt, hj⟩)
  · intro g env h hi
    obtain ⟨a0', n0', c0', e0', x1, x5, rfl, rfl, rfl, rfl, rfl, g', hlt, hj⟩ := E5elim hi
    exact ⟨g', hlt, rfl, rfl, rfl, rfl, hj⟩
theorem A5x0i (Q : QT) (x1 : Int) (h : AHeap) (ht :
 Q (.int .i64 x1) h) : A5x0 Q x1 h :=
  At.mk (@cast _ ((K1 Q) (.exit 0) [(1, .int .i64 x1), (4, .undef)] h) (by kernel_rfl) ht)
theorem call (a0 : Pt) (n0 c0 : Nat) (e0 : Bool) (x1 : Int) (h : AHeap) (Q : QT) (ht :
 bcase (decide (((IntKind.wrap .i64 (x1 - (((n0 : Nat) : Int)))) : Int) < 0)) (Q (.int .i64 (-1)) h) (L5 Q a0 n0 c0 e0 (IntKind.wrap .i64 (x1 - (((n0 : Nat) : Int)))) 0 h)) : SCall pg n_laws_szNeedS [.slice a0 n0 c0 e0, .int .i64 x1] h Q :=
  SCall.of_body kp (c := cod fn) (fn := fn) Go.Proofs.Tryz.func22 (by kernel_rfl) (by kernel_rfl) (Nat.le_of_ble_eq_true (by kernel_rfl))
    (@cast _ (den pg fn.ntmps kp (cod fn) (Env.args 0 [.slice a0 n0 c0 e0, .int .i64 x1]) h (KR Q)) (by kernel_rfl) ht)
end F_laws_szNeedS
end Go.Sim

/- Printed by wip/tool: what the functions' bodies do, in the words of 'den'. -/
set_option maxRecDepth 100000
set_option linter.unusedVariables false
namespace Go.Sim
open Go Go.RowKit
/-! Function loop.example/instancesearch/impl.vars -/
namespace F_impl_vars
noncomputable abbrev fn : Func := Go.Proofs.Tryz.f108
def kp : Keeps := [(3000003, [3]), (1000003, [0, 3, 7, 8, 9]), (4000007, [9, 8, 7, 0, 3])]
noncomputable def C (p : List Nat) : Code := (cod fn).sub p
def KR (Q : QT) : KT := retA pg fn.results.toList Q
abbrev T3 := List Nat → Pt → Nat → Nat → Bool → Pt → Nat → Nat → Bool → Int → Int → AHeap → Prop
def E3 (R3 : T3) (env : Env) (h : AHeap) : Prop := eVal 0 env fun v env => xStr (some v) fun x0 => eVal 3 env fun v env => xSl (some v) fun a3 n3 c3 e3 => eVal 7 env fun v env => xSl (some v) fun a7 n7 c7 e7 => eVal 8 env fun v env => eInt .i64 v fun x8 => eVal 9 env fun v env => eInt .i64 v fun x9 => eNil env (R3 x0 a3 n3 c3 e3 a7 n7 c7 e7 x8 x9 h)
theorem E3elim {R3 : T3} {env : Env} {h : AHeap} (hi : E3 R3 env h) : ∃ x0, ∃ a3, ∃ n3, ∃ c3, ∃ e3, ∃ a7, ∃ n7, ∃ c7, ∃ e7, ∃ x8, ∃ x9, env = [(0, .str x0), (3, .slice a3 n3 c3 e3), (7, .slice a7 n7 c7 e7), (8, .int .i64 x8), (9, .int .i64 x9)] ∧ R3 x0 a3 n3 c3 e3 a7 n7 c7 e7 x8 x9 h := by
  unfold E3 at hi
  have hi0 := hi
  clear hi
  obtain ⟨v, env, rfl, hi1⟩ := eVal_elim hi0
  obtain ⟨x0, rfl, hi2⟩ := xStr_elim hi1
  obtain ⟨v, env, rfl, hi3⟩ := eVal_elim hi2
  obtain ⟨a3, n3, c3, e3, rfl, hi4⟩ := xSl_elim hi3
  obtain ⟨v, env, rfl, hi5⟩ := eVal_elim hi4
  obtain ⟨a7, n7, c7, e7, rfl, hi6⟩ := xSl_elim hi5
  obtain ⟨v, env, rfl, hi7⟩ := eVal_elim hi6
  obtain ⟨x8, rfl, hi8⟩ := eInt_elim hi7
  obtain ⟨v, env, rfl, hi9⟩ := eVal_elim hi8
  obtain ⟨x9, rfl, hi10⟩ := eInt_elim hi9
  obtain ⟨rfl, hi11⟩ := eNil_elim hi10
  have hi := hi11
  exact ⟨x0, a3, n3, c3, e3, a7, n7, c7, e7, x8, x9, rfl, hi⟩
def K0 (Q : QT) : KT := andThen (fun env' h' => (match kp.find 4000008 with | some ks => Den pg fn.ntmps (C [1, 1, 1]) (env'.keep ks) h' (KR Q) | none => den pg fn.ntmps kp (C [1, 1, 1]) env' h' (KR Q))) (KR Q)
def K1 (Q : QT) : KT := onExit 0 (K0 Q)
def K2 (Q : QT) : KT := left kp 3 (K1 Q)
def K3 (Q : QT) (R3 : T3) : KT := rnd ((kp.find 1000003).getD []) (E3 R3) (K2 Q)
def L3 (Q : QT) (x0 : List Nat) (a3 : Pt) (n3 c3 : Nat) (e3 : Bool) (a7 : Pt) (n7 c7 : Nat) (e7 : Bool) (x8 x9 : Int) (h : AHeap) : Prop := Loop (Den pg fn.ntmps (C [1, 1, 0, 1, 0, 0])) ((kp.find 1000003).getD []) (K2 Q) [(0, .str x0), (3, .slice a3 n3 c3 e3), (7, .slice a7 n7 c7 e7), (8, .int .i64 x8), (9, .int .i64 x9)] h
def J7 (Q : QT) (R3 : T3) (x9 x8 : Int) (a7 : Pt) (n7 c7 : Nat) (e7 : Bool) (x0 : List Nat) (a3 : Pt) (n3 c3 : Nat) (e3 : Bool) (h : AHeap) : Prop := Den pg fn.ntmps (C [1, 1, 0, 1, 0, 0, 1, 1, 1]) [(9, .int .i64 x9), (8, .int .i64 x8), (7, .slice a7 n7 c7 e7), (0, .str x0), (3, .slice a3 n3 c3 e3)] h (K3 Q R3)
def A3x0 (Q : QT) (a3 : Pt) (n3 c3 : Nat) (e3 : Bool) (h : AHeap) : Prop := At (K1 Q) (.exit 0) [(3, .slice a3 n3 c3 e3)] h
def L3t (Q : QT) (R3 : T3) (x0 : List Nat) (a3 : Pt) (n3 c3 : Nat) (e3 : Bool) (a7 : Pt) (n7 c7 : Nat) (e7 : Bool) (x8 x9 : Int) (h : AHeap) : Prop :=
 bcase (decide ((x9 : Int) < x8)) ((0 ≤ (x9 : Int) ∧ (x9 : Int) < (n7 : Nat)) ∧ (xSome a7 fun i_2 o_3 => xStr (hCell h (.ptr (some (i_2, o_3 + (Int.toNat x9) * 1)))) fun s_4 => SCall pg n_strings_Contains [.str x0, .str s_4] h fun v_5 h_6 =>
 xBool (some v_5) fun b_7 => bcase b_7 (letH (h_6 ++ [.cells t_string [.str s_4] false]) fun h_8 => appendA pg t_L_string h_8 (.slice a3 n3 c3 e3) (.slice (some (List.length h_6, 0)) 1 1 true) fun v_9 h_10 => xSl (some v_9) fun a_11 n_12 c_13 e_14 => J7 Q R3 x9 x8 a7 n7 c7 e7 x0 a_11 n_12 c_13 e_14 h_10) (J7 Q R3 x9 x8 a7 n7 c7 e7 x0 a3 n3 c3 e3 h_6))) (A3x0 Q a3 n3 c3 e3 h)
theorem L3den (Q : QT) (R3 : T3) (x0 : List Nat) (a3 : Pt) (n3 c3 : Nat) (e3 : Bool) (a7 : Pt) (n7 c7 : Nat) (e7 : Bool) (x8 x9 : Int) (h : AHeap) (ht : L3t Q R3 x0 a3 n3 c3 e3 a7 n7 c7 e7 x8 x9 h) : Den pg fn.ntmps (C [1, 1, 0, 1, 0, 0]) [(0, .str x0), (3, .slice a3 n3 c3 e3), (7, .slice a7 n7 c7 e7), (8, .int .i64 x8), (9, .int .i64 x9)] h (K3 Q R3) :=
  den_Den (kp := kp) (@cast _ (den pg fn.ntmps kp (C [1, 1, 0, 1, 0, 0]) [(0, .str x0), (3, .slice a3 n3 c3 e3), (7, .slice a7 n7 c7 e7), (8, .int .i64 x8), (9, .int .i64 x9)] h (K3 Q R3)) (by kernel_rfl) ht)
theorem L3ind (Q : QT) (x0 : List Nat) (a7 : Pt) (n7 c7 : Nat) (e7 : Bool) (x8 : Int) {G : Type} (J : G → Pt → Nat → Nat → Bool → Int → AHeap → Prop) (m : G → Nat)
 (hr : ∀ (g : G) (a3 : Pt) (n3 c3 : Nat) (e3 : Bool) (x9 : Int) (h : AHeap), J g a3 n3 c3 e3 x9 h → ∀ (R3 : T3), (∀ g' (a3 : Pt) (n3 c3 : Nat) (e3 : Bool) (x9 : Int) (h : AHeap), m g' < m g → J g' a3 n3 c3 e3 x9 h → R3 x0 a3 n3 c3 e3 a7 n7 c7 e7 x8 x9 h) → L3t Q R3 x0 a3 n3 c3 e3 a7 n7 c7 e7 x8 x9 h)
 (g : G) (a3 : Pt) (n3 c3 : Nat) (e3 : Bool) (x9 : Int) (h : AHeap) (hj : J g a3 n3 c3 e3 x9 h) : L3 Q x0 a3 n3 c3 e3 a7 n7 c7 e7 x8 x9 h := by
  refine Loop.inv2 (fun g => E3 fun x0' a3 n3 c3 e3 a7' n7' c7' e7' x8' x9 h => x0 = x0' ∧ a7 = a7' ∧ n7 = n7' ∧ c7 = c7' ∧ e7 = e7' ∧ x8 = x8' ∧ J g a3 n3 c3 e3 x9 h) (fun g => E3 fun x0' a3 n3 c3 e3 a7' n7' c7' e7' x8' x9 h => x0 = x0' ∧ a7 = a7' ∧ n7 = n7' ∧ c7 = c7' ∧ e7 = e7' ∧ x8 = x8' ∧ ∃ g', m g' < m g ∧ J g' a3 n3 c3 e3 x9 h) m ?_ ?_ g ⟨rfl, rfl, rfl, rfl, rfl, rfl, hj⟩
  · intro g env h hi
    obtain ⟨x0', a3, n3, c3, e3, a7', n7', c7', e7', x8', x9, rfl, rfl, rfl, rfl, rfl, rfl, rfl, hj⟩ := E3elim hi
    exact L3den Q (fun x0' a3 n3 c3 e3 a7' n7' c7' e7' x8' x9 h => x0 = x0' ∧ a7 = a7' ∧ n7 = n7' ∧ c7 = c7' ∧ e7 = e7' ∧ x8 = x8' ∧ ∃ g', m g' < m g ∧ J g' a3 n3 c3 e3 x9 h) x0 a3 n3 c3 e3 a7 n7 c7 e7 x8 x9 h (hr g a3 n3 c3 e3 x9 h hj (fun x0' a3 n3 c3 e3 a7' n7' c7' e7' x8' x9 h => x0 = x0' ∧ a7 = a7' ∧ n7 = n7' ∧ c7 = c7' ∧ e7 = e7' ∧ x8 = x8' ∧ ∃ g', m g' < m g ∧ J g' a3 n3 c3 e3 x9 h) fun g' a3 n3 c3 e3 x9 h hlt hj => ⟨rfl, rfl, rfl, rfl, rfl, rfl, g', hlt, hj⟩)
  · intro g env h hi
    obtain ⟨x0', a3, n3, c3, e3, a7', n7', c7', e7', x8', x9, rfl, rfl, rfl, rfl, rfl, rfl, rfl, g', hlt, hj⟩ := E3elim hi
    exact ⟨g', hlt, rfl, rfl, rfl, rfl, rfl, rfl, hj⟩
theorem J7i (Q : QT) (R3 : T3) (x9 x8 : Int) (a7 : Pt) (n7 c7 : Nat) (e7 : Bool) (x0 : List Nat) (a3 : Pt) (n3 c3 : Nat) (e3 : Bool) (h : AHeap) (ht :
 R3 x0 a3 n3 c3 e3 a7 n7 c7 e7 x8 (IntKind.wrap .i64 (x9 + 1)) h) : J7 Q R3 x9 x8 a7 n7 c7 e7 x0 a3 n3 c3 e3 h :=
  den_Den (kp := kp) (@cast _ (den pg fn.ntmps kp (C [1, 1, 0, 1, 0, 0, 1, 1, 1]) [(9, .int .i64 x9), (8, .int .i64 x8), (7, .slice a7 n7 c7 e7), (0, .str x0), (3, .slice a3 n3 c3 e3)] h (K3 Q R3)) (by kernel_rfl) ht)
theorem A3x0i (Q : QT) (a3 : Pt) (n3 c3 : Nat) (e3 : Bool) (h : AHeap) (ht :
 Q (.slice a3 n3 c3 e3) h) : A3x0 Q a3 n3 c3 e3 h :=
  At.mk (@cast _ ((K1 Q) (.exit 0) [(3, .slice a3 n3 c3 e3)] h) (by kernel_rfl) ht)
theorem call (x0 : List Nat) (h : AHeap) (Q : QT) (ht :
 letH (h ++ [.cells t_string [] false]) fun h_0 => letH (h_0 ++ [.cells t_string [.str [88], .str [89], .str [90], .str [120], .str [121], .str [122]] false]) fun h_1 => L3 Q x0 (some (List.length h, 0)) 0 0 true (some (List.length h_0, 0)) 6 6 true (((6 : Nat) : Int)) 0 h_1) : SCall pg n_impl_vars [.str x0] h Q :=
  SCall.of_body kp (c := cod fn) (fn := fn) Go.Proofs.Tryz.func108 (by kernel_rfl) (by kernel_rfl) (Nat.le_of_ble_eq_true (by kernel_rfl))
    (@cast _ (den pg fn.ntmps kp (cod fn) (Env.args 0 [.str x0]) h (KR Q)) (by kernel_rfl) ht)
end F_impl_vars
end Go.Sim
