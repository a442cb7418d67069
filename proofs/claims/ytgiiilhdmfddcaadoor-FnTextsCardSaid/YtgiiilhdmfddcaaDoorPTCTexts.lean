/- Printed by wip/tool: what the functions' bodies do, in the words of 'den'. -/
import Derived.Test.YtgiiilhdmfddcaaDoorNm
set_option linter.unusedSimpArgs false
set_option linter.all false
set_option maxRecDepth 100000
set_option linter.unusedVariables false
namespace Go.Sim
open Go Go.RowKit
/-! Function loop.example/instancesearch/spec.DrawFormatNumbers -/
namespace F_spec_DrawFormatNumbers
noncomputable abbrev fn : Func := Go.Proofs.Tryd.f16
def kp : Keeps := [(3000004, [4]), (1000004, [3, 4, 9, 10])]
noncomputable def C (p : List Nat) : Code := (cod fn).sub p
def KR (Q : QT) : KT := retA pg fn.results.toList Q
abbrev T4 := Pt → Pt → Nat → Nat → Bool → Int → Int → AHeap → Prop
def E4 (R4 : T4) (env : Env) (h : AHeap) : Prop := eVal 3 env fun v env => xPtr (some v) fun a3 => eVal 4 env fun v env => xSl (some v) fun a4 n4 c4 e4 => eVal 9 env fun v env => eInt .i64 v fun x9 => eVal 10 env fun v env => eInt .i64 v fun x10 => eNil env (R4 a3 a4 n4 c4 e4 x9 x10 h)
theorem E4elim {R4 : T4} {env : Env} {h : AHeap} (hi : E4 R4 env h) : ∃ a3, ∃ a4, ∃ n4, ∃ c4, ∃ e4, ∃ x9, ∃ x10, env = [(3, .ptr a3), (4, .slice a4 n4 c4 e4), (9, .int .i64 x9), (10, .int .i64 x10)] ∧ R4 a3 a4 n4 c4 e4 x9 x10 h := by
  unfold E4 at hi
  have hi0 := hi
  clear hi
  obtain ⟨v, env, rfl, hi1⟩ := eVal_elim hi0
  obtain ⟨a3, rfl, hi2⟩ := xPtr_elim hi1
  obtain ⟨v, env, rfl, hi3⟩ := eVal_elim hi2
  obtain ⟨a4, n4, c4, e4, rfl, hi4⟩ := xSl_elim hi3
  obtain ⟨v, env, rfl, hi5⟩ := eVal_elim hi4
  obtain ⟨x9, rfl, hi6⟩ := eInt_elim hi5
  obtain ⟨v, env, rfl, hi7⟩ := eVal_elim hi6
  obtain ⟨x10, rfl, hi8⟩ := eInt_elim hi7
  obtain ⟨rfl, hi9⟩ := eNil_elim hi8
  have hi := hi9
  exact ⟨a3, a4, n4, c4, e4, x9, x10, rfl, hi⟩
def K0 (Q : QT) : KT := andThen (fun env' h' => (match kp.find 4000007 with | some ks => Den pg fn.ntmps (C [1, 1, 1, 1]) (env'.keep ks) h' (KR Q) | none => den pg fn.ntmps kp (C [1, 1, 1, 1]) env' h' (KR Q))) (KR Q)
def K1 (Q : QT) : KT := onExit 0 (K0 Q)
def K2 (Q : QT) : KT := left kp 4 (K1 Q)
def K3 (Q : QT) (R4 : T4) : KT := rnd ((kp.find 1000004).getD []) (E4 R4) (K2 Q)
def L4 (Q : QT) (a3 a4 : Pt) (n4 c4 : Nat) (e4 : Bool) (x9 x10 : Int) (h : AHeap) : Prop := Loop (Den pg fn.ntmps (C [1, 1, 1, 0, 1, 0, 0])) ((kp.find 1000004).getD []) (K2 Q) [(3, .ptr a3), (4, .slice a4 n4 c4 e4), (9, .int .i64 x9), (10, .int .i64 x10)] h
def A4x0 (Q : QT) (a4 : Pt) (n4 c4 : Nat) (e4 : Bool) (h : AHeap) : Prop := At (K1 Q) (.exit 0) [(4, .slice a4 n4 c4 e4)] h
def L4t (Q : QT) (R4 : T4) (a3 a4 : Pt) (n4 c4 : Nat) (e4 : Bool) (x9 x10 : Int) (h : AHeap) : Prop :=
 bcase (decide ((x10 : Int) < x9)) (letH (h ++ [.cells t_int [.int .i64 0, .int .i64 1, .int .i64 (-1), .int .i64 12, .int .i64 3, .int .i64 (-9223372036854775808), .int .i64 9] false]) fun h_7 => SCall pg n_spec_l13Rd_num [.ptr a3, .slice (some (List.length h, 0)) 7 7 true] h_7 fun v_8 h_9 =>
 xInt .i64 (some v_8) fun x_10 => letH (h_9 ++ [.cells t_int [.int .i64 x_10] false]) fun h_11 => appendA pg t_L_int h_11 (.slice a4 n4 c4 e4) (.slice (some (List.length h_9, 0)) 1 1 true) fun v_12 h_13 => xSl (some v_12) fun a_14 n_15 c_16 e_17 => R4 a3 a_14 n_15 c_16 e_17 x9 (IntKind.wrap .i64 (x10 + 1)) h_13) (A4x0 Q a4 n4 c4 e4 h)
theorem L4den (Q : QT) (R4 : T4) (a3 a4 : Pt) (n4 c4 : Nat) (e4 : Bool) (x9 x10 : Int) (h : AHeap) (ht : L4t Q R4 a3 a4 n4 c4 e4 x9 x10 h) : Den pg fn.ntmps (C [1, 1, 1, 0, 1, 0, 0]) [(3, .ptr a3), (4, .slice a4 n4 c4 e4), (9, .int .i64 x9), (10, .int .i64 x10)] h (K3 Q R4) :=
  den_Den (kp := kp) (@cast _ (den pg fn.ntmps kp (C [1, 1, 1, 0, 1, 0, 0]) [(3, .ptr a3), (4, .slice a4 n4 c4 e4), (9, .int .i64 x9), (10, .int .i64 x10)] h (K3 Q R4)) (by kernel_rfl) ht)
theorem L4ind (Q : QT) (a3 : Pt) (x9 : Int) {G : Type} (J : G → Pt → Nat → Nat → Bool → Int → AHeap → Prop) (m : G → Nat)
 (hr : ∀ (g : G) (a4 : Pt) (n4 c4 : Nat) (e4 : Bool) (x10 : Int) (h : AHeap), J g a4 n4 c4 e4 x10 h → ∀ (R4 : T4), (∀ g' (a4 : Pt) (n4 c4 : Nat) (e4 : Bool) (x10 : Int) (h : AHeap), m g' < m g → J g' a4 n4 c4 e4 x10 h → R4 a3 a4 n4 c4 e4 x9 x10 h) → L4t Q R4 a3 a4 n4 c4 e4 x9 x10 h)
 (g : G) (a4 : Pt) (n4 c4 : Nat) (e4 : Bool) (x10 : Int) (h : AHeap) (hj : J g a4 n4 c4 e4 x10 h) : L4 Q a3 a4 n4 c4 e4 x9 x10 h := by
  refine Loop.inv2 (fun g => E4 fun a3' a4 n4 c4 e4 x9' x10 h => a3 = a3' ∧ x9 = x9' ∧ J g a4 n4 c4 e4 x10 h) (fun g => E4 fun a3' a4 n4 c4 e4 x9' x10 h => a3 = a3' ∧ x9 = x9' ∧ ∃ g', m g' < m g ∧ J g' a4 n4 c4 e4 x10 h) m ?_ ?_ g ⟨rfl, rfl, hj⟩
  · intro g env h hi
    obtain ⟨a3', a4, n4, c4, e4, x9', x10, rfl, rfl, rfl, hj⟩ := E4elim hi
    exact L4den Q (fun a3' a4 n4 c4 e4 x9' x10 h => a3 = a3' ∧ x9 = x9' ∧ ∃ g', m g' < m g ∧ J g' a4 n4 c4 e4 x10 h) a3 a4 n4 c4 e4 x9 x10 h (hr g a4 n4 c4 e4 x10 h hj (fun a3' a4 n4 c4 e4 x9' x10 h => a3 = a3' ∧ x9 = x9' ∧ ∃ g', m g' < m g ∧ J g' a4 n4 c4 e4 x10 h) fun g' a4 n4 c4 e4 x10 h hlt hj => ⟨rfl, rfl, g', hlt, hj⟩)
  · intro g env h hi
    obtain ⟨a3', a4, n4, c4, e4, x9', x10, rfl, rfl, rfl, g', hlt, hj⟩ := E4elim hi
    exact ⟨g', hlt, rfl, rfl, hj⟩
theorem A4x0i (Q : QT) (a4 : Pt) (n4 c4 : Nat) (e4 : Bool) (h : AHeap) (ht :
 Q (.slice a4 n4 c4 e4) h) : A4x0 Q a4 n4 c4 e4 h :=
  At.mk (@cast _ ((K1 Q) (.exit 0) [(4, .slice a4 n4 c4 e4)] h) (by kernel_rfl) ht)
theorem call (a0 : Pt) (n0 c0 : Nat) (e0 : Bool) (h : AHeap) (Q : QT) (ht :
 SCall pg n_spec_l13Open [.slice a0 n0 c0 e0] h fun v_0 h_1 =>
 xPtr (some v_0) fun a_2 => letH (h_1 ++ [.cells t_int [] false]) fun h_3 => SCall pg n_spec_l13Rd_pick [.ptr a_2, .int .i64 5] h_3 fun v_4 h_5 =>
 xInt .i64 (some v_4) fun x_6 => L4 Q a_2 (some (List.length h_1, 0)) 0 0 true x_6 0 h_5) : SCall pg n_spec_DrawFormatNumbers [.slice a0 n0 c0 e0] h Q :=
  SCall.of_body kp (c := cod fn) (fn := fn) Go.Proofs.Tryd.func16 (by kernel_rfl) (by kernel_rfl) (Nat.le_of_ble_eq_true (by kernel_rfl))
    (@cast _ (den pg fn.ntmps kp (cod fn) (Env.args 0 [.slice a0 n0 c0 e0]) h (KR Q)) (by kernel_rfl) ht)
end F_spec_DrawFormatNumbers
/-! Function loop.example/instancesearch/spec.DrawFormatTexts -/
namespace F_spec_DrawFormatTexts
noncomputable abbrev fn : Func := Go.Proofs.Tryd.f17
def kp : Keeps := [(3000004, [4]), (1000004, [3, 4, 9, 10])]
noncomputable def C (p : List Nat) : Code := (cod fn).sub p
def KR (Q : QT) : KT := retA pg fn.results.toList Q
abbrev T4 := Pt → Pt → Nat → Nat → Bool → Int → Int → AHeap → Prop
def E4 (R4 : T4) (env : Env) (h : AHeap) : Prop := eVal 3 env fun v env => xPtr (some v) fun a3 => eVal 4 env fun v env => xSl (some v) fun a4 n4 c4 e4 => eVal 9 env fun v env => eInt .i64 v fun x9 => eVal 10 env fun v env => eInt .i64 v fun x10 => eNil env (R4 a3 a4 n4 c4 e4 x9 x10 h)
theorem E4elim {R4 : T4} {env : Env} {h : AHeap} (hi : E4 R4 env h) : ∃ a3, ∃ a4, ∃ n4, ∃ c4, ∃ e4, ∃ x9, ∃ x10, env = [(3, .ptr a3), (4, .slice a4 n4 c4 e4), (9, .int .i64 x9), (10, .int .i64 x10)] ∧ R4 a3 a4 n4 c4 e4 x9 x10 h := by
  unfold E4 at hi
  have hi0 := hi
  clear hi
  obtain ⟨v, env, rfl, hi1⟩ := eVal_elim hi0
  obtain ⟨a3, rfl, hi2⟩ := xPtr_elim hi1
  obtain ⟨v, env, rfl, hi3⟩ := eVal_elim hi2
  obtain ⟨a4, n4, c4, e4, rfl, hi4⟩ := xSl_elim hi3
  obtain ⟨v, env, rfl, hi5⟩ := eVal_elim hi4
  obtain ⟨x9, rfl, hi6⟩ := eInt_elim hi5
  obtain ⟨v, env, rfl, hi7⟩ := eVal_elim hi6
  obtain ⟨x10, rfl, hi8⟩ := eInt_elim hi7
  obtain ⟨rfl, hi9⟩ := eNil_elim hi8
  have hi := hi9
  exact ⟨a3, a4, n4, c4, e4, x9, x10, rfl, hi⟩
def K0 (Q : QT) : KT := andThen (fun env' h' => (match kp.find 4000007 with | some ks => Den pg fn.ntmps (C [1, 1, 1, 1]) (env'.keep ks) h' (KR Q) | none => den pg fn.ntmps kp (C [1, 1, 1, 1]) env' h' (KR Q))) (KR Q)
def K1 (Q : QT) : KT := onExit 0 (K0 Q)
def K2 (Q : QT) : KT := left kp 4 (K1 Q)
def K3 (Q : QT) (R4 : T4) : KT := rnd ((kp.find 1000004).getD []) (E4 R4) (K2 Q)
def L4 (Q : QT) (a3 a4 : Pt) (n4 c4 : Nat) (e4 : Bool) (x9 x10 : Int) (h : AHeap) : Prop := Loop (Den pg fn.ntmps (C [1, 1, 1, 0, 1, 0, 0])) ((kp.find 1000004).getD []) (K2 Q) [(3, .ptr a3), (4, .slice a4 n4 c4 e4), (9, .int .i64 x9), (10, .int .i64 x10)] h
def A4x0 (Q : QT) (a4 : Pt) (n4 c4 : Nat) (e4 : Bool) (h : AHeap) : Prop := At (K1 Q) (.exit 0) [(4, .slice a4 n4 c4 e4)] h
def L4t (Q : QT) (R4 : T4) (a3 a4 : Pt) (n4 c4 : Nat) (e4 : Bool) (x9 x10 : Int) (h : AHeap) : Prop :=
 bcase (decide ((x10 : Int) < x9)) (letH (h ++ [.cells t_string [.str [105], .str ([108, 40, 120, 41]), .str ([49, 40, 48, 41]), .str [98]] false]) fun h_7 => SCall pg n_spec_l13Rd_of [.ptr a3, .slice (some (List.length h, 0)) 4 4 true] h_7 fun v_8 h_9 =>
 xStr (some v_8) fun s_10 => letH (h_9 ++ [.cells t_string [.str s_10] false]) fun h_11 => appendA pg t_L_string h_11 (.slice a4 n4 c4 e4) (.slice (some (List.length h_9, 0)) 1 1 true) fun v_12 h_13 => xSl (some v_12) fun a_14 n_15 c_16 e_17 => R4 a3 a_14 n_15 c_16 e_17 x9 (IntKind.wrap .i64 (x10 + 1)) h_13) (A4x0 Q a4 n4 c4 e4 h)
theorem L4den (Q : QT) (R4 : T4) (a3 a4 : Pt) (n4 c4 : Nat) (e4 : Bool) (x9 x10 : Int) (h : AHeap) (ht : L4t Q R4 a3 a4 n4 c4 e4 x9 x10 h) : Den pg fn.ntmps (C [1, 1, 1, 0, 1, 0, 0]) [(3, .ptr a3), (4, .slice a4 n4 c4 e4), (9, .int .i64 x9), (10, .int .i64 x10)] h (K3 Q R4) :=
  den_Den (kp := kp) (@cast _ (den pg fn.ntmps kp (C [1, 1, 1, 0, 1, 0, 0]) [(3, .ptr a3), (4, .slice a4 n4 c4 e4), (9, .int .i64 x9), (10, .int .i64 x10)] h (K3 Q R4)) (by kernel_rfl) ht)
theorem L4ind (Q : QT) (a3 : Pt) (x9 : Int) {G : Type} (J : G → Pt → Nat → Nat → Bool → Int → AHeap → Prop) (m : G → Nat)
 (hr : ∀ (g : G) (a4 : Pt) (n4 c4 : Nat) (e4 : Bool) (x10 : Int) (h : AHeap), J g a4 n4 c4 e4 x10 h → ∀ (R4 : T4), (∀ g' (a4 : Pt) (n4 c4 : Nat) (e4 : Bool) (x10 : Int) (h : AHeap), m g' < m g → J g' a4 n4 c4 e4 x10 h → R4 a3 a4 n4 c4 e4 x9 x10 h) → L4t Q R4 a3 a4 n4 c4 e4 x9 x10 h)
 (g : G) (a4 : Pt) (n4 c4 : Nat) (e4 : Bool) (x10 : Int) (h : AHeap) (hj : J g a4 n4 c4 e4 x10 h) : L4 Q a3 a4 n4 c4 e4 x9 x10 h := by
  refine Loop.inv2 (fun g => E4 fun a3' a4 n4 c4 e4 x9' x10 h => a3 = a3' ∧ x9 = x9' ∧ J g a4 n4 c4 e4 x10 h) (fun g => E4 fun a3' a4 n4 c4 e4 x9' x10 h => a3 = a3' ∧ x9 = x9' ∧ ∃ g', m g' < m g ∧ J g' a4 n4 c4 e4 x10 h) m ?_ ?_ g ⟨rfl, rfl, hj⟩
  · intro g env h hi
    obtain ⟨a3', a4, n4, c4, e4, x9', x10, rfl, rfl, rfl, hj⟩ := E4elim hi
    exact L4den Q (fun a3' a4 n4 c4 e4 x9' x10 h => a3 = a3' ∧ x9 = x9' ∧ ∃ g', m g' < m g ∧ J g' a4 n4 c4 e4 x10 h) a3 a4 n4 c4 e4 x9 x10 h (hr g a4 n4 c4 e4 x10 h hj (fun a3' a4 n4 c4 e4 x9' x10 h => a3 = a3' ∧ x9 = x9' ∧ ∃ g', m g' < m g ∧ J g' a4 n4 c4 e4 x10 h) fun g' a4 n4 c4 e4 x10 h hlt hj => ⟨rfl, rfl, g', hlt, hj⟩)
  · intro g env h hi
    obtain ⟨a3', a4, n4, c4, e4, x9', x10, rfl, rfl, rfl, g', hlt, hj⟩ := E4elim hi
    exact ⟨g', hlt, rfl, rfl, hj⟩
theorem A4x0i (Q : QT) (a4 : Pt) (n4 c4 : Nat) (e4 : Bool) (h : AHeap) (ht :
 Q (.slice a4 n4 c4 e4) h) : A4x0 Q a4 n4 c4 e4 h :=
  At.mk (@cast _ ((K1 Q) (.exit 0) [(4, .slice a4 n4 c4 e4)] h) (by kernel_rfl) ht)
theorem call (a0 : Pt) (n0 c0 : Nat) (e0 : Bool) (h : AHeap) (Q : QT) (ht :
 SCall pg n_spec_l13Open [.slice a0 n0 c0 e0] h fun v_0 h_1 =>
 xPtr (some v_0) fun a_2 => letH (h_1 ++ [.cells t_string [] false]) fun h_3 => SCall pg n_spec_l13Rd_pick [.ptr a_2, .int .i64 4] h_3 fun v_4 h_5 =>
 xInt .i64 (some v_4) fun x_6 => L4 Q a_2 (some (List.length h_1, 0)) 0 0 true x_6 0 h_5) : SCall pg n_spec_DrawFormatTexts [.slice a0 n0 c0 e0] h Q :=
  SCall.of_body kp (c := cod fn) (fn := fn) Go.Proofs.Tryd.func17 (by kernel_rfl) (by kernel_rfl) (Nat.le_of_ble_eq_true (by kernel_rfl))
    (@cast _ (den pg fn.ntmps kp (cod fn) (Env.args 0 [.slice a0 n0 c0 e0]) h (KR Q)) (by kernel_rfl) ht)
end F_spec_DrawFormatTexts
/-! Function loop.example/instancesearch/laws.inSame -/
namespace F_laws_inSame
noncomputable abbrev fn : Func := Go.Proofs.Tryd.f20
def kp : Keeps := [(3000002, [0, 1, 4]), (1000002, [0, 1, 10, 11]), (2000004, [22, 11, 10, 0, 1])]
noncomputable def C (p : List Nat) : Code := (cod fn).sub p
def KR (Q : QT) : KT := retA pg fn.results.toList Q
abbrev T2 := Pt → Nat → Nat → Bool → Pt → Nat → Nat → Bool → Int → Int → AHeap → Prop
def E2 (R2 : T2) (env : Env) (h : AHeap) : Prop := eVal 0 env fun v env => xSl (some v) fun a0 n0 c0 e0 => eVal 1 env fun v env => xSl (some v) fun a1 n1 c1 e1 => eVal 10 env fun v env => eInt .i64 v fun x10 => eVal 11 env fun v env => eInt .i64 v fun x11 => eNil env (R2 a0 n0 c0 e0 a1 n1 c1 e1 x10 x11 h)
theorem E2elim {R2 : T2} {env : Env} {h : AHeap} (hi : E2 R2 env h) : ∃ a0, ∃ n0, ∃ c0, ∃ e0, ∃ a1, ∃ n1, ∃ c1, ∃ e1, ∃ x10, ∃ x11, env = [(0, .slice a0 n0 c0 e0), (1, .slice a1 n1 c1 e1), (10, .int .i64 x10), (11, .int .i64 x11)] ∧ R2 a0 n0 c0 e0 a1 n1 c1 e1 x10 x11 h := by
  unfold E2 at hi
  have hi0 := hi
  clear hi
  obtain ⟨v, env, rfl, hi1⟩ := eVal_elim hi0
  obtain ⟨a0, n0, c0, e0, rfl, hi2⟩ := xSl_elim hi1
  obtain ⟨v, env, rfl, hi3⟩ := eVal_elim hi2
  obtain ⟨a1, n1, c1, e1, rfl, hi4⟩ := xSl_elim hi3
  obtain ⟨v, env, rfl, hi5⟩ := eVal_elim hi4
  obtain ⟨x10, rfl, hi6⟩ := eInt_elim hi5
  obtain ⟨v, env, rfl, hi7⟩ := eVal_elim hi6
  obtain ⟨x11, rfl, hi8⟩ := eInt_elim hi7
  obtain ⟨rfl, hi9⟩ := eNil_elim hi8
  have hi := hi9
  exact ⟨a0, n0, c0, e0, a1, n1, c1, e1, x10, x11, rfl, hi⟩
def K0 (Q : QT) : KT := andThen (fun env' h' => (match kp.find 4000007 with | some ks => Den pg fn.ntmps (C [1, 1]) (env'.keep ks) h' (KR Q) | none => den pg fn.ntmps kp (C [1, 1]) env' h' (KR Q))) (KR Q)
def K1 (Q : QT) : KT := onExit 0 (K0 Q)
def K2 (Q : QT) : KT := left kp 2 (K1 Q)
def K3 (Q : QT) (R2 : T2) : KT := rnd ((kp.find 1000002).getD []) (E2 R2) (K2 Q)
def L2 (Q : QT) (a0 : Pt) (n0 c0 : Nat) (e0 : Bool) (a1 : Pt) (n1 c1 : Nat) (e1 : Bool) (x10 x11 : Int) (h : AHeap) : Prop := Loop (Den pg fn.ntmps (C [1, 0, 1, 0, 0])) ((kp.find 1000002).getD []) (K2 Q) [(0, .slice a0 n0 c0 e0), (1, .slice a1 n1 c1 e1), (10, .int .i64 x10), (11, .int .i64 x11)] h
def A2x0 (Q : QT) (a0 : Pt) (n0 c0 : Nat) (e0 : Bool) (a1 : Pt) (n1 c1 : Nat) (e1 : Bool) (h : AHeap) : Prop := At (K1 Q) (.exit 0) [(0, .slice a0 n0 c0 e0), (1, .slice a1 n1 c1 e1), (4, .undef)] h
def L2t (Q : QT) (R2 : T2) (a0 : Pt) (n0 c0 : Nat) (e0 : Bool) (a1 : Pt) (n1 c1 : Nat) (e1 : Bool) (x10 x11 : Int) (h : AHeap) : Prop :=
 bcase (decide ((x11 : Int) < x10)) ((0 ≤ (x11 : Int) ∧ (x11 : Int) < (n0 : Nat)) ∧ (xSome a0 fun i_0 o_1 => (0 ≤ (x11 : Int) ∧ (x11 : Int) < (n1 : Nat)) ∧ (xSome a1 fun i_2 o_3 => xInt .i64 (hCell h (.ptr (some (i_0, o_1 + (Int.toNat x11) * 1)))) fun x_4 => xInt .i64 (hCell h (.ptr (some (i_2, o_3 + (Int.toNat x11) * 1)))) fun x_5 => (hCell h (.ptr (some (i_0, o_1 + (Int.toNat x11) * 1))) = hCell h (.ptr (some (i_0, o_1 + (Int.toNat x11) * 1)))) ∧ bcase (!((x_4 : Int) == x_5)) (Q (.bool false) h) (R2 a0 n0 c0 e0 a1 n1 c1 e1 x10 (IntKind.wrap .i64 (x11 + 1)) h)))) (A2x0 Q a0 n0 c0 e0 a1 n1 c1 e1 h)
theorem L2den (Q : QT) (R2 : T2) (a0 : Pt) (n0 c0 : Nat) (e0 : Bool) (a1 : Pt) (n1 c1 : Nat) (e1 : Bool) (x10 x11 : Int) (h : AHeap) (ht : L2t Q R2 a0 n0 c0 e0 a1 n1 c1 e1 x10 x11 h) : Den pg fn.ntmps (C [1, 0, 1, 0, 0]) [(0, .slice a0 n0 c0 e0), (1, .slice a1 n1 c1 e1), (10, .int .i64 x10), (11, .int .i64 x11)] h (K3 Q R2) :=
  den_Den (kp := kp) (@cast _ (den pg fn.ntmps kp (C [1, 0, 1, 0, 0]) [(0, .slice a0 n0 c0 e0), (1, .slice a1 n1 c1 e1), (10, .int .i64 x10), (11, .int .i64 x11)] h (K3 Q R2)) (by kernel_rfl) ht)
theorem L2ind (Q : QT) (a0 : Pt) (n0 c0 : Nat) (e0 : Bool) (a1 : Pt) (n1 c1 : Nat) (e1 : Bool) (x10 : Int) {G : Type} (J : G → Int → AHeap → Prop) (m : G → Nat)
 (hr : ∀ (g : G) (x11 : Int) (h : AHeap), J g x11 h → ∀ (R2 : T2), (∀ g' (x11 : Int) (h : AHeap), m g' < m g → J g' x11 h → R2 a0 n0 c0 e0 a1 n1 c1 e1 x10 x11 h) → L2t Q R2 a0 n0 c0 e0 a1 n1 c1 e1 x10 x11 h)
 (g : G) (x11 : Int) (h : AHeap) (hj : J g x11 h) : L2 Q a0 n0 c0 e0 a1 n1 c1 e1 x10 x11 h := by
  refine Loop.inv2 (fun g => E2 fun a0' n0' c0' e0' a1' n1' c1' e1' x10' x11 h => a0 = a0' ∧ n0 = n0' ∧ c0 = c0' ∧ e0 = e0' ∧ a1 = a1' ∧ n1 = n1' ∧ c1 = c1' ∧ e1 = e1' ∧ x10 = x10' ∧ J g x11 h) (fun g => E2 fun a0' n0' c0' e0' a1' n1' c1' e1' x10' x11 h => a0 = a0' ∧ n0 = n0' ∧ c0 = c0' ∧ e0 = e0' ∧ a1 = a1' ∧ n1 = n1' ∧ c1 = c1' ∧ e1 = e1' ∧ x10 = x10' ∧ ∃ g', m g' < m g ∧ J g' x11 h) m ?_ ?_ g ⟨rfl, rfl, rfl, rfl, rfl, rfl, rfl, rfl, rfl, hj⟩
  · intro g env h hi
    obtain ⟨a0', n0', c0', e0', a1', n1', c1', e1', x10', x11, rfl, rfl, rfl, rfl, rfl, rfl, rfl, rfl, rfl, rfl, hj⟩ := E2elim hi
    exact L2den Q (fun a0' n0' c0' e0' a1' n1' c1' e1' x10' x11 h => a0 = a0' ∧ n0 = n0' ∧ c0 = c0' ∧ e0 = e0' ∧ a1 = a1' ∧ n1 = n1' ∧ c1 = c1' ∧ e1 = e1' ∧ x10 = x10' ∧ ∃ g', m g' < m g ∧ J g' x11 h) a0 n0 c0 e0 a1 n1 c1 e1 x10 x11 h (hr g x11 h hj (fun a0' n0' c0' e0' a1' n1' c1' e1' x10' x11 h => a0 = a0' ∧ n0 = n0' ∧ c0 = c0' ∧ e0 = e0' ∧ a1 = a1' ∧ n1 = n1' ∧ c1 = c1' ∧ e1 = e1' ∧ x10 = x10' ∧ ∃ g', m g' < m g ∧ J g' x11 h) fun g' x11 h hlt hj => ⟨rfl, rfl, rfl, rfl, rfl, rfl, rfl, rfl, rfl, g', hlt, hj⟩)
  · intro g env h hi
    obtain ⟨a0', n0', c0', e0', a1', n1', c1', e1', x10', x11, rfl, rfl, rfl, rfl, rfl, rfl, rfl, rfl, rfl, rfl, g', hlt, hj⟩ := E2elim hi
    exact ⟨g', hlt, rfl, rfl, rfl, rfl, rfl, rfl, rfl, rfl, rfl, hj⟩
theorem A2x0i (Q : QT) (a0 : Pt) (n0 c0 : Nat) (e0 : Bool) (a1 : Pt) (n1 c1 : Nat) (e1 : Bool) (h : AHeap) (ht :
 Q (.bool ((((n0 : Nat) : Int) : Int) == (((n1 : Nat) : Int)))) h) : A2x0 Q a0 n0 c0 e0 a1 n1 c1 e1 h :=
  At.mk (@cast _ ((K1 Q) (.exit 0) [(0, .slice a0 n0 c0 e0), (1, .slice a1 n1 c1 e1), (4, .undef)] h) (by kernel_rfl) ht)
theorem call (a0 : Pt) (n0 c0 : Nat) (e0 : Bool) (a1 : Pt) (n1 c1 : Nat) (e1 : Bool) (h : AHeap) (Q : QT) (ht :
 L2 Q a0 n0 c0 e0 a1 n1 c1 e1 (if (((n1 : Nat) : Int) : Int) < (((n0 : Nat) : Int)) then ((n1 : Nat) : Int) else ((n0 : Nat) : Int)) 0 h) : SCall pg n_laws_inSame [.slice a0 n0 c0 e0, .slice a1 n1 c1 e1] h Q :=
  SCall.of_body kp (c := cod fn) (fn := fn) Go.Proofs.Tryd.func20 (by kernel_rfl) (by kernel_rfl) (Nat.le_of_ble_eq_true (by kernel_rfl))
    (@cast _ (den pg fn.ntmps kp (cod fn) (Env.args 0 [.slice a0 n0 c0 e0, .slice a1 n1 c1 e1]) h (KR Q)) (by kernel_rfl) ht)
end F_laws_inSame
/-! Function loop.example/instancesearch/laws.inTexts -/
namespace F_laws_inTexts
noncomputable abbrev fn : Func := Go.Proofs.Tryd.f21
def kp : Keeps := [(3000002, [0, 1, 4]), (1000002, [0, 1, 10, 11]), (2000004, [22, 11, 10, 0, 1])]
noncomputable def C (p : List Nat) : Code := (cod fn).sub p
def KR (Q : QT) : KT := retA pg fn.results.toList Q
abbrev T2 := Pt → Nat → Nat → Bool → Pt → Nat → Nat → Bool → Int → Int → AHeap → Prop
def E2 (R2 : T2) (env : Env) (h : AHeap) : Prop := eVal 0 env fun v env => xSl (some v) fun a0 n0 c0 e0 => eVal 1 env fun v env => xSl (some v) fun a1 n1 c1 e1 => eVal 10 env fun v env => eInt .i64 v fun x10 => eVal 11 env fun v env => eInt .i64 v fun x11 => eNil env (R2 a0 n0 c0 e0 a1 n1 c1 e1 x10 x11 h)
theorem E2elim {R2 : T2} {env : Env} {h : AHeap} (hi : E2 R2 env h) : ∃ a0, ∃ n0, ∃ c0, ∃ e0, ∃ a1, ∃ n1, ∃ c1, ∃ e1, ∃ x10, ∃ x11, env = [(0, .slice a0 n0 c0 e0), (1, .slice a1 n1 c1 e1), (10, .int .i64 x10), (11, .int .i64 x11)] ∧ R2 a0 n0 c0 e0 a1 n1 c1 e1 x10 x11 h := by
  unfold E2 at hi
  have hi0 := hi
  clear hi
  obtain ⟨v, env, rfl, hi1⟩ := eVal_elim hi0
  obtain ⟨a0, n0, c0, e0, rfl, hi2⟩ := xSl_elim hi1
  obtain ⟨v, env, rfl, hi3⟩ := eVal_elim hi2
  obtain ⟨a1, n1, c1, e1, rfl, hi4⟩ := xSl_elim hi3
  obtain ⟨v, env, rfl, hi5⟩ := eVal_elim hi4
  obtain ⟨x10, rfl, hi6⟩ := eInt_elim hi5
  obtain ⟨v, env, rfl, hi7⟩ := eVal_elim hi6
  obtain ⟨x11, rfl, hi8⟩ := eInt_elim hi7
  obtain ⟨rfl, hi9⟩ := eNil_elim hi8
  have hi := hi9
  exact ⟨a0, n0, c0, e0, a1, n1, c1, e1, x10, x11, rfl, hi⟩
def K0 (Q : QT) : KT := andThen (fun env' h' => (match kp.find 4000007 with | some ks => Den pg fn.ntmps (C [1, 1]) (env'.keep ks) h' (KR Q) | none => den pg fn.ntmps kp (C [1, 1]) env' h' (KR Q))) (KR Q)
def K1 (Q : QT) : KT := onExit 0 (K0 Q)
def K2 (Q : QT) : KT := left kp 2 (K1 Q)
def K3 (Q : QT) (R2 : T2) : KT := rnd ((kp.find 1000002).getD []) (E2 R2) (K2 Q)
def L2 (Q : QT) (a0 : Pt) (n0 c0 : Nat) (e0 : Bool) (a1 : Pt) (n1 c1 : Nat) (e1 : Bool) (x10 x11 : Int) (h : AHeap) : Prop := Loop (Den pg fn.ntmps (C [1, 0, 1, 0, 0])) ((kp.find 1000002).getD []) (K2 Q) [(0, .slice a0 n0 c0 e0), (1, .slice a1 n1 c1 e1), (10, .int .i64 x10), (11, .int .i64 x11)] h
def A2x0 (Q : QT) (a0 : Pt) (n0 c0 : Nat) (e0 : Bool) (a1 : Pt) (n1 c1 : Nat) (e1 : Bool) (h : AHeap) : Prop := At (K1 Q) (.exit 0) [(0, .slice a0 n0 c0 e0), (1, .slice a1 n1 c1 e1), (4, .undef)] h
def L2t (Q : QT) (R2 : T2) (a0 : Pt) (n0 c0 : Nat) (e0 : Bool) (a1 : Pt) (n1 c1 : Nat) (e1 : Bool) (x10 x11 : Int) (h : AHeap) : Prop :=
 bcase (decide ((x11 : Int) < x10)) ((0 ≤ (x11 : Int) ∧ (x11 : Int) < (n0 : Nat)) ∧ (xSome a0 fun i_0 o_1 => (0 ≤ (x11 : Int) ∧ (x11 : Int) < (n1 : Nat)) ∧ (xSome a1 fun i_2 o_3 => xStr (hCell h (.ptr (some (i_0, o_1 + (Int.toNat x11) * 1)))) fun s_4 => xStr (hCell h (.ptr (some (i_2, o_3 + (Int.toNat x11) * 1)))) fun s_5 => (hCell h (.ptr (some (i_0, o_1 + (Int.toNat x11) * 1))) = hCell h (.ptr (some (i_0, o_1 + (Int.toNat x11) * 1)))) ∧ bcase (!(decide (s_4 = s_5))) (Q (.bool false) h) (R2 a0 n0 c0 e0 a1 n1 c1 e1 x10 (IntKind.wrap .i64 (x11 + 1)) h)))) (A2x0 Q a0 n0 c0 e0 a1 n1 c1 e1 h)
theorem L2den (Q : QT) (R2 : T2) (a0 : Pt) (n0 c0 : Nat) (e0 : Bool) (a1 : Pt) (n1 c1 : Nat) (e1 : Bool) (x10 x11 : Int) (h : AHeap) (ht : L2t Q R2 a0 n0 c0 e0 a1 n1 c1 e1 x10 x11 h) : Den pg fn.ntmps (C [1, 0, 1, 0, 0]) [(0, .slice a0 n0 c0 e0), (1, .slice a1 n1 c1 e1), (10, .int .i64 x10), (11, .int .i64 x11)] h (K3 Q R2) :=
  den_Den (kp := kp) (@cast _ (den pg fn.ntmps kp (C [1, 0, 1, 0, 0]) [(0, .slice a0 n0 c0 e0), (1, .slice a1 n1 c1 e1), (10, .int .i64 x10), (11, .int .i64 x11)] h (K3 Q R2)) (by kernel_rfl) ht)
theorem L2ind (Q : QT) (a0 : Pt) (n0 c0 : Nat) (e0 : Bool) (a1 : Pt) (n1 c1 : Nat) (e1 : Bool) (x10 : Int) {G : Type} (J : G → Int → AHeap → Prop) (m : G → Nat)
 (hr : ∀ (g : G) (x11 : Int) (h : AHeap), J g x11 h → ∀ (R2 : T2), (∀ g' (x11 : Int) (h : AHeap), m g' < m g → J g' x11 h → R2 a0 n0 c0 e0 a1 n1 c1 e1 x10 x11 h) → L2t Q R2 a0 n0 c0 e0 a1 n1 c1 e1 x10 x11 h)
 (g : G) (x11 : Int) (h : AHeap) (hj : J g x11 h) : L2 Q a0 n0 c0 e0 a1 n1 c1 e1 x10 x11 h := by
  refine Loop.inv2 (fun g => E2 fun a0' n0' c0' e0' a1' n1' c1' e1' x10' x11 h => a0 = a0' ∧ n0 = n0' ∧ c0 = c0' ∧ e0 = e0' ∧ a1 = a1' ∧ n1 = n1' ∧ c1 = c1' ∧ e1 = e1' ∧ x10 = x10' ∧ J g x11 h) (fun g => E2 fun a0' n0' c0' e0' a1' n1' c1' e1' x10' x11 h => a0 = a0' ∧ n0 = n0' ∧ c0 = c0' ∧ e0 = e0' ∧ a1 = a1' ∧ n1 = n1' ∧ c1 = c1' ∧ e1 = e1' ∧ x10 = x10' ∧ ∃ g', m g' < m g ∧ J g' x11 h) m ?_ ?_ g ⟨rfl, rfl, rfl, rfl, rfl, rfl, rfl, rfl, rfl, hj⟩
  · intro g env h hi
    obtain ⟨a0', n0', c0', e0', a1', n1', c1', e1', x10', x11, rfl, rfl, rfl, rfl, rfl, rfl, rfl, rfl, rfl, rfl, hj⟩ := E2elim hi
    exact L2den Q (fun a0' n0' c0' e0' a1' n1' c1' e1' x10' x11 h => a0 = a0' ∧ n0 = n0' ∧ c0 = c0' ∧ e0 = e0' ∧ a1 = a1' ∧ n1 = n1' ∧ c1 = c1' ∧ e1 = e1' ∧ x10 = x10' ∧ ∃ g', m g' < m g ∧ J g' x11 h) a0 n0 c0 e0 a1 n1 c1 e1 x10 x11 h (hr g x11 h hj (fun a0' n0' c0' e0' a1' n1' c1' e1' x10' x11 h => a0 = a0' ∧ n0 = n0' ∧ c0 = c0' ∧ e0 = e0' ∧ a1 = a1' ∧ n1 = n1' ∧ c1 = c1' ∧ e1 = e1' ∧ x10 = x10' ∧ ∃ g', m g' < m g ∧ J g' x11 h) fun g' x11 h hlt hj => ⟨rfl, rfl, rfl, rfl, rfl, rfl, rfl, rfl, rfl, g', hlt, hj⟩)
  · intro g env h hi
    obtain ⟨a0', n0', c0', e0', a1', n1', c1', e1', x10', x11, rfl, rfl, rfl, rfl, rfl, rfl, rfl, rfl, rfl, rfl, g', hlt, hj⟩ := E2elim hi
    exact ⟨g', hlt, rfl, rfl, rfl, rfl, rfl, rfl, rfl, rfl, rfl, hj⟩
theorem A2x0i (Q : QT) (a0 : Pt) (n0 c0 : Nat) (e0 : Bool) (a1 : Pt) (n1 c1 : Nat) (e1 : Bool) (h : AHeap) (ht :
 Q (.bool ((((n0 : Nat) : Int) : Int) == (((n1 : Nat) : Int)))) h) : A2x0 Q a0 n0 c0 e0 a1 n1 c1 e1 h :=
  At.mk (@cast _ ((K1 Q) (.exit 0) [(0, .slice a0 n0 c0 e0), (1, .slice a1 n1 c1 e1), (4, .undef)] h) (by kernel_rfl) ht)
theorem call (a0 : Pt) (n0 c0 : Nat) (e0 : Bool) (a1 : Pt) (n1 c1 : Nat) (e1 : Bool) (h : AHeap) (Q : QT) (ht :
 L2 Q a0 n0 c0 e0 a1 n1 c1 e1 (if (((n1 : Nat) : Int) : Int) < (((n0 : Nat) : Int)) then ((n1 : Nat) : Int) else ((n0 : Nat) : Int)) 0 h) : SCall pg n_laws_inTexts [.slice a0 n0 c0 e0, .slice a1 n1 c1 e1] h Q :=
  SCall.of_body kp (c := cod fn) (fn := fn) Go.Proofs.Tryd.func21 (by kernel_rfl) (by kernel_rfl) (Nat.le_of_ble_eq_true (by kernel_rfl))
    (@cast _ (den pg fn.ntmps kp (cod fn) (Env.args 0 [.slice a0 n0 c0 e0, .slice a1 n1 c1 e1]) h (KR Q)) (by kernel_rfl) ht)
end F_laws_inTexts
/-! Function loop.example/instancesearch/laws.FnTexts -/
namespace F_laws_FnTexts
noncomputable abbrev fn : Func := Go.Proofs.Tryd.f5
def kp : Keeps := [(4000003, [0, 1])]
noncomputable def C (p : List Nat) : Code := (cod fn).sub p
def KR (Q : QT) : KT := retA pg fn.results.toList Q
def J3 (Q : QT) (a0 : Pt) (n0 c0 : Nat) (e0 : Bool) (a1 : Pt) (n1 c1 : Nat) (e1 : Bool) (h : AHeap) : Prop := Den pg fn.ntmps (C [1, 1]) [(0, .slice a0 n0 c0 e0), (1, .slice a1 n1 c1 e1)] h (KR Q)
theorem J3i (Q : QT) (a0 : Pt) (n0 c0 : Nat) (e0 : Bool) (a1 : Pt) (n1 c1 : Nat) (e1 : Bool) (h : AHeap) (ht :
 SCall pg n_spec_DrawFormatNumbers [.slice a0 n0 c0 e0] h fun v_0 h_1 =>
 xSl (some v_0) fun a_2 n_3 c_4 e_5 => SCall pg n_spec_DrawFormatNumbers [.slice a1 n1 c1 e1] h_1 fun v_6 h_7 =>
 xSl (some v_6) fun a_8 n_9 c_10 e_11 => SCall pg n_spec_DrawFormatTexts [.slice a0 n0 c0 e0] h_7 fun v_12 h_13 =>
 xSl (some v_12) fun a_14 n_15 c_16 e_17 => SCall pg n_spec_DrawFormatTexts [.slice a1 n1 c1 e1] h_13 fun v_18 h_19 =>
 xSl (some v_18) fun a_20 n_21 c_22 e_23 => SCall pg n_impl_FormatNumbers [.slice a_2 n_3 c_4 e_5] h_19 fun v_24 h_25 =>
 xStr (some v_24) fun s_26 => SCall pg n_spec_FormatNumbers [.slice a_2 n_3 c_4 e_5] h_25 fun v_27 h_28 =>
 xStr (some v_27) fun s_29 => bcase (decide (s_26 = s_29)) (SCall pg n_impl_FormatTexts [.slice a_14 n_15 c_16 e_17] h_28 fun v_30 h_31 =>
 xStr (some v_30) fun s_32 => SCall pg n_spec_FormatTexts [.slice a_14 n_15 c_16 e_17] h_31 fun v_33 h_34 =>
 xStr (some v_33) fun s_35 => bcase (decide (s_32 = s_35)) (SCall pg n_impl_FormatNumbers [.slice a_2 n_3 c_4 e_5] h_34 fun v_36 h_37 =>
 xStr (some v_36) fun s_38 => SCall pg n_impl_FormatNumbers [.slice a_8 n_9 c_10 e_11] h_37 fun v_39 h_40 =>
 xStr (some v_39) fun s_41 => SCall pg n_laws_inSame [.slice a_2 n_3 c_4 e_5, .slice a_8 n_9 c_10 e_11] h_40 fun v_42 h_43 =>
 xBool (some v_42) fun b_44 => bcase ((decide (s_38 = s_41)) == b_44) (SCall pg n_impl_FormatTexts [.slice a_14 n_15 c_16 e_17] h_43 fun v_45 h_46 =>
 xStr (some v_45) fun s_47 => SCall pg n_impl_FormatTexts [.slice a_20 n_21 c_22 e_23] h_46 fun v_48 h_49 =>
 xStr (some v_48) fun s_50 => SCall pg n_laws_inTexts [.slice a_14 n_15 c_16 e_17, .slice a_20 n_21 c_22 e_23] h_49 fun v_51 h_52 =>
 xBool (some v_51) fun b_53 => Q (.bool ((decide (s_47 = s_50)) == b_53)) h_52) (Q (.bool false) h_43)) (Q (.bool false) h_34)) (Q (.bool false) h_28)) : J3 Q a0 n0 c0 e0 a1 n1 c1 e1 h :=
  den_Den (kp := kp) (@cast _ (den pg fn.ntmps kp (C [1, 1]) [(0, .slice a0 n0 c0 e0), (1, .slice a1 n1 c1 e1)] h (KR Q)) (by kernel_rfl) ht)
theorem call (a0 : Pt) (n0 c0 : Nat) (e0 : Bool) (a1 : Pt) (n1 c1 : Nat) (e1 : Bool) (h : AHeap) (Q : QT) (ht :
 bcase (decide (((((n0 : Nat) : Int)) : Int) > 1048576)) (Q (.bool true) h) (bcase (decide (((((n1 : Nat) : Int)) : Int) > 1048576)) (Q (.bool true) h) (J3 Q a0 n0 c0 e0 a1 n1 c1 e1 h))) : SCall pg n_laws_FnTexts [.slice a0 n0 c0 e0, .slice a1 n1 c1 e1] h Q :=
  SCall.of_body kp (c := cod fn) (fn := fn) Go.Proofs.Tryd.func5 (by kernel_rfl) (by kernel_rfl) (Nat.le_of_ble_eq_true (by kernel_rfl))
    (@cast _ (den pg fn.ntmps kp (cod fn) (Env.args 0 [.slice a0 n0 c0 e0, .slice a1 n1 c1 e1]) h (KR Q)) (by kernel_rfl) ht)
end F_laws_FnTexts
end Go.Sim
