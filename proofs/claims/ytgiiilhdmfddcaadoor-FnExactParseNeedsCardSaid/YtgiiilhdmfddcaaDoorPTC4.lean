/- Printed by wip/tool: what the functions' bodies do, in the words of 'den'. -/
import Derived.Test.YtgiiilhdmfddcaaDoorNm
set_option linter.unusedSimpArgs false
set_option linter.all false
set_option maxRecDepth 100000
set_option linter.unusedVariables false
namespace Go.Sim
open Go Go.RowKit
/-! Function loop.example/instancesearch/spec.l12Text -/
namespace F_spec_l12Text
noncomputable abbrev fn : Func := Go.Proofs.Tryd.f28
def kp : Keeps := []
noncomputable def C (p : List Nat) : Code := (cod fn).sub p
def KR (Q : QT) : KT := retA pg fn.results.toList Q
theorem call (x0 : List Nat) (h : AHeap) (Q : QT) (ht :
 bcase (decide (x0 = [])) (Q (.str [45]) h) (Q (.str x0) h)) : SCall pg n_spec_l12Text [.str x0] h Q :=
  SCall.of_body kp (c := cod fn) (fn := fn) Go.Proofs.Tryd.func28 (by kernel_rfl) (by kernel_rfl) (Nat.le_of_ble_eq_true (by kernel_rfl))
    (@cast _ (den pg fn.ntmps kp (cod fn) (Env.args 0 [.str x0]) h (KR Q)) (by kernel_rfl) ht)
end F_spec_l12Text
/-! Function loop.example/instancesearch/impl.dashed -/
namespace F_impl_dashed
noncomputable abbrev fn : Func := Go.Proofs.Tryd.f37
def kp : Keeps := []
noncomputable def C (p : List Nat) : Code := (cod fn).sub p
def KR (Q : QT) : KT := retA pg fn.results.toList Q
theorem call (x0 : List Nat) (h : AHeap) (Q : QT) (ht :
 bcase (decide (x0 = [])) (Q (.str [45]) h) (Q (.str x0) h)) : SCall pg n_impl_dashed [.str x0] h Q :=
  SCall.of_body kp (c := cod fn) (fn := fn) Go.Proofs.Tryd.func37 (by kernel_rfl) (by kernel_rfl) (Nat.le_of_ble_eq_true (by kernel_rfl))
    (@cast _ (den pg fn.ntmps kp (cod fn) (Env.args 0 [.str x0]) h (KR Q)) (by kernel_rfl) ht)
end F_impl_dashed
/-! Function loop.example/instancesearch/spec.FormatTexts -/
namespace F_spec_FormatTexts
noncomputable abbrev fn : Func := Go.Proofs.Tryd.f19
def kp : Keeps := [(3000003, [3]), (1000003, [3, 6, 7, 8]), (4000007, [3, 5, 8, 7, 6]), (4000008, [8, 7, 6, 3])]
noncomputable def C (p : List Nat) : Code := (cod fn).sub p
def KR (Q : QT) : KT := retA pg fn.results.toList Q
abbrev T3 := List Nat → Pt → Nat → Nat → Bool → Int → Int → AHeap → Prop
def E3 (R3 : T3) (env : Env) (h : AHeap) : Prop := eVal 3 env fun v env => xStr (some v) fun x3 => eVal 6 env fun v env => xSl (some v) fun a6 n6 c6 e6 => eVal 7 env fun v env => eInt .i64 v fun x7 => eVal 8 env fun v env => eInt .i64 v fun x8 => eNil env (R3 x3 a6 n6 c6 e6 x7 x8 h)
theorem E3elim {R3 : T3} {env : Env} {h : AHeap} (hi : E3 R3 env h) : ∃ x3, ∃ a6, ∃ n6, ∃ c6, ∃ e6, ∃ x7, ∃ x8, env = [(3, .str x3), (6, .slice a6 n6 c6 e6), (7, .int .i64 x7), (8, .int .i64 x8)] ∧ R3 x3 a6 n6 c6 e6 x7 x8 h := by
  unfold E3 at hi
  have hi0 := hi
  clear hi
  obtain ⟨v, env, rfl, hi1⟩ := eVal_elim hi0
  obtain ⟨x3, rfl, hi2⟩ := xStr_elim hi1
  obtain ⟨v, env, rfl, hi3⟩ := eVal_elim hi2
  obtain ⟨a6, n6, c6, e6, rfl, hi4⟩ := xSl_elim hi3
  obtain ⟨v, env, rfl, hi5⟩ := eVal_elim hi4
  obtain ⟨x7, rfl, hi6⟩ := eInt_elim hi5
  obtain ⟨v, env, rfl, hi7⟩ := eVal_elim hi6
  obtain ⟨x8, rfl, hi8⟩ := eInt_elim hi7
  obtain ⟨rfl, hi9⟩ := eNil_elim hi8
  have hi := hi9
  exact ⟨x3, a6, n6, c6, e6, x7, x8, rfl, hi⟩
def K0 (Q : QT) : KT := andThen (fun env' h' => (match kp.find 4000009 with | some ks => Den pg fn.ntmps (C [1, 1, 1]) (env'.keep ks) h' (KR Q) | none => den pg fn.ntmps kp (C [1, 1, 1]) env' h' (KR Q))) (KR Q)
def K1 (Q : QT) : KT := onExit 0 (K0 Q)
def K2 (Q : QT) : KT := left kp 3 (K1 Q)
def K3 (Q : QT) (R3 : T3) : KT := rnd ((kp.find 1000003).getD []) (E3 R3) (K2 Q)
def K4 (Q : QT) (R3 : T3) : KT := andThen (fun env' h' => (match kp.find 4000008 with | some ks => Den pg fn.ntmps (C [1, 1, 0, 1, 0, 0, 1, 1, 1]) (env'.keep ks) h' (K3 Q R3) | none => den pg fn.ntmps kp (C [1, 1, 0, 1, 0, 0, 1, 1, 1]) env' h' (K3 Q R3))) (K3 Q R3)
def K5 (Q : QT) (R3 : T3) : KT := onExit 1 (K4 Q R3)
def L3 (Q : QT) (x3 : List Nat) (a6 : Pt) (n6 c6 : Nat) (e6 : Bool) (x7 x8 : Int) (h : AHeap) : Prop := Loop (Den pg fn.ntmps (C [1, 1, 0, 1, 0, 0])) ((kp.find 1000003).getD []) (K2 Q) [(3, .str x3), (6, .slice a6 n6 c6 e6), (7, .int .i64 x7), (8, .int .i64 x8)] h
def J7 (Q : QT) (R3 : T3) (x3 x5 : List Nat) (x8 x7 : Int) (a6 : Pt) (n6 c6 : Nat) (e6 : Bool) (h : AHeap) : Prop := Den pg fn.ntmps (C [1, 1, 0, 1, 0, 0, 1, 1, 0, 0, 1, 1]) [(3, .str x3), (5, .str x5), (8, .int .i64 x8), (7, .int .i64 x7), (6, .slice a6 n6 c6 e6)] h (K5 Q R3)
def A3x0 (Q : QT) (x3 : List Nat) (h : AHeap) : Prop := At (K1 Q) (.exit 0) [(3, .str x3)] h
def J8 (Q : QT) (R3 : T3) (x8 x7 : Int) (a6 : Pt) (n6 c6 : Nat) (e6 : Bool) (x3 : List Nat) (h : AHeap) : Prop := Den pg fn.ntmps (C [1, 1, 0, 1, 0, 0, 1, 1, 1]) [(8, .int .i64 x8), (7, .int .i64 x7), (6, .slice a6 n6 c6 e6), (3, .str x3)] h (K3 Q R3)
def L3t (Q : QT) (R3 : T3) (x3 : List Nat) (a6 : Pt) (n6 c6 : Nat) (e6 : Bool) (x7 x8 : Int) (h : AHeap) : Prop :=
 bcase (decide ((x8 : Int) < x7)) ((0 ≤ (x8 : Int) ∧ (x8 : Int) < (n6 : Nat)) ∧ (xSome a6 fun i_0 o_1 => xStr (hCell h (.ptr (some (i_0, o_1 + (Int.toNat x8) * 1)))) fun s_2 => bcase (decide ((x8 : Int) > 0)) (List.length x3 + List.length [32] ≤ 9223372036854775807 ∧ (J7 Q R3 (x3 ++ [32]) s_2 x8 x7 a6 n6 c6 e6 h)) (J7 Q R3 x3 s_2 x8 x7 a6 n6 c6 e6 h))) (A3x0 Q x3 h)
theorem L3den (Q : QT) (R3 : T3) (x3 : List Nat) (a6 : Pt) (n6 c6 : Nat) (e6 : Bool) (x7 x8 : Int) (h : AHeap) (ht : L3t Q R3 x3 a6 n6 c6 e6 x7 x8 h) : Den pg fn.ntmps (C [1, 1, 0, 1, 0, 0]) [(3, .str x3), (6, .slice a6 n6 c6 e6), (7, .int .i64 x7), (8, .int .i64 x8)] h (K3 Q R3) :=
  den_Den (kp := kp) (@cast _ (den pg fn.ntmps kp (C [1, 1, 0, 1, 0, 0]) [(3, .str x3), (6, .slice a6 n6 c6 e6), (7, .int .i64 x7), (8, .int .i64 x8)] h (K3 Q R3)) (by kernel_rfl) ht)
theorem L3ind (Q : QT) (a6 : Pt) (n6 c6 : Nat) (e6 : Bool) (x7 : Int) {G : Type} (J : G → List Nat → Int → AHeap → Prop) (m : G → Nat)
 (hr : ∀ (g : G) (x3 : List Nat) (x8 : Int) (h : AHeap), J g x3 x8 h → ∀ (R3 : T3), (∀ g' (x3 : List Nat) (x8 : Int) (h : AHeap), m g' < m g → J g' x3 x8 h → R3 x3 a6 n6 c6 e6 x7 x8 h) → L3t Q R3 x3 a6 n6 c6 e6 x7 x8 h)
 (g : G) (x3 : List Nat) (x8 : Int) (h : AHeap) (hj : J g x3 x8 h) : L3 Q x3 a6 n6 c6 e6 x7 x8 h := by
  refine Loop.inv2 (fun g => E3 fun x3 a6' n6' c6' e6' x7' x8 h => a6 = a6' ∧ n6 = n6' ∧ c6 = c6' ∧ e6 = e6' ∧ x7 = x7' ∧ J g x3 x8 h) (fun g => E3 fun x3 a6' n6' c6' e6' x7' x8 h => a6 = a6' ∧ n6 = n6' ∧ c6 = c6' ∧ e6 = e6' ∧ x7 = x7' ∧ ∃ g', m g' < m g ∧ J g' x3 x8 h) m ?_ ?_ g ⟨rfl, rfl, rfl, rfl, rfl, hj⟩
  · intro g env h hi
    obtain ⟨x3, a6', n6', c6', e6', x7', x8, rfl, rfl, rfl, rfl, rfl, rfl, hj⟩ := E3elim hi
    exact L3den Q (fun x3 a6' n6' c6' e6' x7' x8 h => a6 = a6' ∧ n6 = n6' ∧ c6 = c6' ∧ e6 = e6' ∧ x7 = x7' ∧ ∃ g', m g' < m g ∧ J g' x3 x8 h) x3 a6 n6 c6 e6 x7 x8 h (hr g x3 x8 h hj (fun x3 a6' n6' c6' e6' x7' x8 h => a6 = a6' ∧ n6 = n6' ∧ c6 = c6' ∧ e6 = e6' ∧ x7 = x7' ∧ ∃ g', m g' < m g ∧ J g' x3 x8 h) fun g' x3 x8 h hlt hj => ⟨rfl, rfl, rfl, rfl, rfl, g', hlt, hj⟩)
  · intro g env h hi
    obtain ⟨x3, a6', n6', c6', e6', x7', x8, rfl, rfl, rfl, rfl, rfl, rfl, g', hlt, hj⟩ := E3elim hi
    exact ⟨g', hlt, rfl, rfl, rfl, rfl, rfl, hj⟩
theorem J7i (Q : QT) (R3 : T3) (x3 x5 : List Nat) (x8 x7 : Int) (a6 : Pt) (n6 c6 : Nat) (e6 : Bool) (h : AHeap) (ht :
 List.length x3 + List.length x5 ≤ 9223372036854775807 ∧ (J8 Q R3 x8 x7 a6 n6 c6 e6 (x3 ++ x5) h)) : J7 Q R3 x3 x5 x8 x7 a6 n6 c6 e6 h :=
  den_Den (kp := kp) (@cast _ (den pg fn.ntmps kp (C [1, 1, 0, 1, 0, 0, 1, 1, 0, 0, 1, 1]) [(3, .str x3), (5, .str x5), (8, .int .i64 x8), (7, .int .i64 x7), (6, .slice a6 n6 c6 e6)] h (K5 Q R3)) (by kernel_rfl) ht)
theorem A3x0i (Q : QT) (x3 : List Nat) (h : AHeap) (ht :
 SCall pg n_spec_l12Text [.str x3] h fun v_3 h_4 =>
 xStr (some v_3) fun s_5 => Q (.str s_5) h_4) : A3x0 Q x3 h :=
  At.mk (@cast _ ((K1 Q) (.exit 0) [(3, .str x3)] h) (by kernel_rfl) ht)
theorem J8i (Q : QT) (R3 : T3) (x8 x7 : Int) (a6 : Pt) (n6 c6 : Nat) (e6 : Bool) (x3 : List Nat) (h : AHeap) (ht :
 R3 x3 a6 n6 c6 e6 x7 (IntKind.wrap .i64 (x8 + 1)) h) : J8 Q R3 x8 x7 a6 n6 c6 e6 x3 h :=
  den_Den (kp := kp) (@cast _ (den pg fn.ntmps kp (C [1, 1, 0, 1, 0, 0, 1, 1, 1]) [(8, .int .i64 x8), (7, .int .i64 x7), (6, .slice a6 n6 c6 e6), (3, .str x3)] h (K3 Q R3)) (by kernel_rfl) ht)
theorem call (a0 : Pt) (n0 c0 : Nat) (e0 : Bool) (h : AHeap) (Q : QT) (ht :
 L3 Q [] a0 n0 c0 e0 (((n0 : Nat) : Int)) 0 h) : SCall pg n_spec_FormatTexts [.slice a0 n0 c0 e0] h Q :=
  SCall.of_body kp (c := cod fn) (fn := fn) Go.Proofs.Tryd.func19 (by kernel_rfl) (by kernel_rfl) (Nat.le_of_ble_eq_true (by kernel_rfl))
    (@cast _ (den pg fn.ntmps kp (cod fn) (Env.args 0 [.slice a0 n0 c0 e0]) h (KR Q)) (by kernel_rfl) ht)
end F_spec_FormatTexts
/-! Function loop.example/instancesearch/impl.FormatTexts -/
namespace F_impl_FormatTexts
noncomputable abbrev fn : Func := Go.Proofs.Tryd.f18
def kp : Keeps := []
noncomputable def C (p : List Nat) : Code := (cod fn).sub p
def KR (Q : QT) : KT := retA pg fn.results.toList Q
theorem call (a0 : Pt) (n0 c0 : Nat) (e0 : Bool) (h : AHeap) (Q : QT) (ht :
 SCall pg n_strings_Join [.slice a0 n0 c0 e0, .str [32]] h fun v_0 h_1 =>
 xStr (some v_0) fun s_2 => SCall pg n_impl_dashed [.str s_2] h_1 fun v_3 h_4 =>
 xStr (some v_3) fun s_5 => Q (.str s_5) h_4) : SCall pg n_impl_FormatTexts [.slice a0 n0 c0 e0] h Q :=
  SCall.of_body kp (c := cod fn) (fn := fn) Go.Proofs.Tryd.func18 (by kernel_rfl) (by kernel_rfl) (Nat.le_of_ble_eq_true (by kernel_rfl))
    (@cast _ (den pg fn.ntmps kp (cod fn) (Env.args 0 [.slice a0 n0 c0 e0]) h (KR Q)) (by kernel_rfl) ht)
end F_impl_FormatTexts
end Go.Sim
