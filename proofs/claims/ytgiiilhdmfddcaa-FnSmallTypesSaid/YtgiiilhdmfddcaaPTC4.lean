/- Printed by wip/tool: what the functions' bodies do, in the words of 'den'. -/
import Derived.Test.YtgiiilhdmfddcaaNm
set_option linter.unusedSimpArgs false
set_option linter.all false
set_option maxRecDepth 100000
set_option linter.unusedVariables false
namespace Go.Sim
open Go Go.RowKit
/-! Function loop.example/instancesearch/laws.szStringS -/
namespace F_laws_szStringS
noncomputable abbrev fn : Func := Go.Proofs.Try.f12
def kp : Keeps := [(3000005, [1, 4]), (1000005, [0, 1, 5])]
noncomputable def C (p : List Nat) : Code := (cod fn).sub p
def KR (Q : QT) : KT := retA pg fn.results.toList Q
abbrev T5 := Pt → Nat → Nat → Bool → Int → Int → AHeap → Prop
def E5 (R5 : T5) (env : Env) (h : AHeap) : Prop := eVal 0 env fun v env => xSl (some v) fun a0 n0 c0 e0 => eVal 1 env fun v env => eInt .i64 v fun x1 => eVal 5 env fun v env => eInt .i64 v fun x5 => eNil env (R5 a0 n0 c0 e0 x1 x5 h)
theorem E5elim {R5 : T5} {env : Env} {h : AHeap} (hi : E5 R5 env h) : ∃ a0, ∃ n0, ∃ c0, ∃ e0, ∃ x1, ∃ x5, env = [(0, .slice a0 n0 c0 e0), (1, .int .i64 x1), (5, .int .i64 x5)] ∧ R5 a0 n0 c0 e0 x1 x5 h := by
  unfold E5 at hi
  have hi0 := hi
  clear hi
  obtain ⟨v, env, rfl, hi1⟩ := eVal_elim hi0
  obtain ⟨a0, n0, c0, e0, rfl, hi2⟩ := xSl_elim hi1
  obtain ⟨v, env, rfl, hi3⟩ := eVal_elim hi2
  obtain ⟨x1, rfl, hi4⟩ := eInt_elim hi3
  obtain ⟨v, env, rfl, hi5⟩ := eVal_elim hi4
  obtain ⟨x5, rfl, hi6⟩ := eInt_elim hi5
  obtain ⟨rfl, hi7⟩ := eNil_elim hi6
  have hi := hi7
  exact ⟨a0, n0, c0, e0, x1, x5, rfl, hi⟩
def K0 (Q : QT) : KT := andThen (fun env' h' => (match kp.find 4000010 with | some ks => Den pg fn.ntmps (C [1, 1, 1, 1]) (env'.keep ks) h' (KR Q) | none => den pg fn.ntmps kp (C [1, 1, 1, 1]) env' h' (KR Q))) (KR Q)
def K1 (Q : QT) : KT := onExit 0 (K0 Q)
def K2 (Q : QT) : KT := left kp 5 (K1 Q)
def K3 (Q : QT) (R5 : T5) : KT := rnd ((kp.find 1000005).getD []) (E5 R5) (K2 Q)
def L5 (Q : QT) (a0 : Pt) (n0 c0 : Nat) (e0 : Bool) (x1 x5 : Int) (h : AHeap) : Prop := Loop (Den pg fn.ntmps (C [1, 1, 1, 0, 1, 0, 0])) ((kp.find 1000005).getD []) (K2 Q) [(0, .slice a0 n0 c0 e0), (1, .int .i64 x1), (5, .int .i64 x5)] h
def A5x0 (Q : QT) (x1 : Int) (h : AHeap) : Prop := At (K1 Q) (.exit 0) [(1, .int .i64 x1), (4, .undef)] h
def L5t (Q : QT) (R5 : T5) (a0 : Pt) (n0 c0 : Nat) (e0 : Bool) (x1 x5 : Int) (h : AHeap) : Prop :=
 bcase (decide ((x5 : Int) < (((n0 : Nat) : Int)))) ((0 ≤ (x5 : Int) ∧ (x5 : Int) < (n0 : Nat)) ∧ (xSome a0 fun i_0 o_1 => xStr (hCell h (.ptr (some (i_0, o_1 + (Int.toNat x5) * 1)))) fun s_2 => bcase (decide (((IntKind.wrap .i64 (x1 - (((List.length s_2 : Nat) : Int)))) : Int) < 0)) (Q (.int .i64 (-1)) h) (R5 a0 n0 c0 e0 (IntKind.wrap .i64 (x1 - (((List.length s_2 : Nat) : Int)))) (IntKind.wrap .i64 (x5 + 1)) h))) (A5x0 Q x1 h)
theorem L5den (Q : QT) (R5 : T5) (a0 : Pt) (n0 c0 : Nat) (e0 : Bool) (x1 x5 : Int) (h : AHeap) (ht : L5t Q R5 a0 n0 c0 e0 x1 x5 h) : Den pg fn.ntmps (C [1, 1, 1, 0, 1, 0, 0]) [(0, .slice a0 n0 c0 e0), (1, .int .i64 x1), (5, .int .i64 x5)] h (K3 Q R5) :=
  den_Den (kp := kp) (@cast _ (den pg fn.ntmps kp (C [1, 1, 1, 0, 1, 0, 0]) [(0, .slice a0 n0 c0 e0), (1, .int .i64 x1), (5, .int .i64 x5)] h (K3 Q R5)) (by kernel_rfl) ht)
theorem L5ind (Q : QT) (a0 : Pt) (n0 c0 : Nat) (e0 : Bool) {G : Type} (J : G → Int → Int → AHeap → Prop) (m : G → Nat)
 (hr : ∀ (g : G) (x1 x5 : Int) (h : AHeap), J g x1 x5 h → ∀ (R5 : T5), (∀ g' (x1 x5 : Int) (h : AHeap), m g' < m g → J g' x1 x5 h → R5 a0 n0 c0 e0 x1 x5 h) → L5t Q R5 a0 n0 c0 e0 x1 x5 h)
 (g : G) (x1 x5 : Int) (h : AHeap) (hj : J g x1 x5 h) : L5 Q a0 n0 c0 e0 x1 x5 h := by
  refine Loop.inv2 (fun g => E5 fun a0' n0' c0' e0' x1 x5 h => a0 = a0' ∧ n0 = n0' ∧ c0 = c0' ∧ e0 = e0' ∧ J g x1 x5 h) (fun g => E5 fun a0' n0' c0' e0' x1 x5 h => a0 = a0' ∧ n0 = n0' ∧ c0 = c0' ∧ e0 = e0' ∧ ∃ g', m g' < m g ∧ J g' x1 x5 h) m ?_ ?_ g ⟨rfl, rfl, rfl, rfl, hj⟩
  · intro g env h hi
    obtain ⟨a0', n0', c0', e0', x1, x5, rfl, rfl, rfl, rfl, rfl, hj⟩ := E5elim hi
    exact L5den Q (fun a0' n0' c0' e0' x1 x5 h => a0 = a0' ∧ n0 = n0' ∧ c0 = c0' ∧ e0 = e0' ∧ ∃ g', m g' < m g ∧ J g' x1 x5 h) a0 n0 c0 e0 x1 x5 h (hr g x1 x5 h hj (fun a0' n0' c0' e0' x1 x5 h => a0 = a0' ∧ n0 = n0' ∧ c0 = c0' ∧ e0 = e0' ∧ ∃ g', m g' < m g ∧ J g' x1 x5 h) fun g' x1 x5 h hlt hj => ⟨rfl, rfl, rfl, rfl, g', hlt, hj⟩)
  · intro g env h hi
    obtain ⟨a0', n0', c0', e0', x1, x5, rfl, rfl, rfl, rfl, rfl, g', hlt, hj⟩ := E5elim hi
    exact ⟨g', hlt, rfl, rfl, rfl, rfl, hj⟩
theorem A5x0i (Q : QT) (x1 : Int) (h : AHeap) (ht :
 Q (.int .i64 x1) h) : A5x0 Q x1 h :=
  At.mk (@cast _ ((K1 Q) (.exit 0) [(1, .int .i64 x1), (4, .undef)] h) (by kernel_rfl) ht)
theorem call (a0 : Pt) (n0 c0 : Nat) (e0 : Bool) (x1 : Int) (h : AHeap) (Q : QT) (ht :
 bcase (decide (((IntKind.wrap .i64 (x1 - (((n0 : Nat) : Int)))) : Int) < 0)) (Q (.int .i64 (-1)) h) (L5 Q a0 n0 c0 e0 (IntKind.wrap .i64 (x1 - (((n0 : Nat) : Int)))) 0 h)) : SCall pg n_laws_szStringS [.slice a0 n0 c0 e0, .int .i64 x1] h Q :=
  SCall.of_body kp (c := cod fn) (fn := fn) Go.Proofs.Try.func12 (by kernel_rfl) (by kernel_rfl) (Nat.le_of_ble_eq_true (by kernel_rfl))
    (@cast _ (den pg fn.ntmps kp (cod fn) (Env.args 0 [.slice a0 n0 c0 e0, .int .i64 x1]) h (KR Q)) (by kernel_rfl) ht)
end F_laws_szStringS
/-! Function loop.example/instancesearch/laws.toStringS -/
namespace F_laws_toStringS
noncomputable abbrev fn : Func := Go.Proofs.Try.f14
def kp : Keeps := [(3000003, [3]), (1000003, [0, 3, 4])]
noncomputable def C (p : List Nat) : Code := (cod fn).sub p
def KR (Q : QT) : KT := retA pg fn.results.toList Q
abbrev T3 := Pt → Nat → Nat → Bool → Pt → Nat → Nat → Bool → Int → AHeap → Prop
def E3 (R3 : T3) (env : Env) (h : AHeap) : Prop := eVal 0 env fun v env => xSl (some v) fun a0 n0 c0 e0 => eVal 3 env fun v env => xSl (some v) fun a3 n3 c3 e3 => eVal 4 env fun v env => eInt .i64 v fun x4 => eNil env (R3 a0 n0 c0 e0 a3 n3 c3 e3 x4 h)
theorem E3elim {R3 : T3} {env : Env} {h : AHeap} (hi : E3 R3 env h) : ∃ a0, ∃ n0, ∃ c0, ∃ e0, ∃ a3, ∃ n3, ∃ c3, ∃ e3, ∃ x4, env = [(0, .slice a0 n0 c0 e0), (3, .slice a3 n3 c3 e3), (4, .int .i64 x4)] ∧ R3 a0 n0 c0 e0 a3 n3 c3 e3 x4 h := by
  unfold E3 at hi
  have hi0 := hi
  clear hi
  obtain ⟨v, env, rfl, hi1⟩ := eVal_elim hi0
  obtain ⟨a0, n0, c0, e0, rfl, hi2⟩ := xSl_elim hi1
  obtain ⟨v, env, rfl, hi3⟩ := eVal_elim hi2
  obtain ⟨a3, n3, c3, e3, rfl, hi4⟩ := xSl_elim hi3
  obtain ⟨v, env, rfl, hi5⟩ := eVal_elim hi4
  obtain ⟨x4, rfl, hi6⟩ := eInt_elim hi5
  obtain ⟨rfl, hi7⟩ := eNil_elim hi6
  have hi := hi7
  exact ⟨a0, n0, c0, e0, a3, n3, c3, e3, x4, rfl, hi⟩
def K0 (Q : QT) : KT := andThen (fun env' h' => (match kp.find 4000006 with | some ks => Den pg fn.ntmps (C [1, 1, 1]) (env'.keep ks) h' (KR Q) | none => den pg fn.ntmps kp (C [1, 1, 1]) env' h' (KR Q))) (KR Q)
def K1 (Q : QT) : KT := onExit 0 (K0 Q)
def K2 (Q : QT) : KT := left kp 3 (K1 Q)
def K3 (Q : QT) (R3 : T3) : KT := rnd ((kp.find 1000003).getD []) (E3 R3) (K2 Q)
def L3 (Q : QT) (a0 : Pt) (n0 c0 : Nat) (e0 : Bool) (a3 : Pt) (n3 c3 : Nat) (e3 : Bool) (x4 : Int) (h : AHeap) : Prop := Loop (Den pg fn.ntmps (C [1, 1, 0, 1, 0, 0])) ((kp.find 1000003).getD []) (K2 Q) [(0, .slice a0 n0 c0 e0), (3, .slice a3 n3 c3 e3), (4, .int .i64 x4)] h
def A3x0 (Q : QT) (a3 : Pt) (n3 c3 : Nat) (e3 : Bool) (h : AHeap) : Prop := At (K1 Q) (.exit 0) [(3, .slice a3 n3 c3 e3)] h
def L3t (Q : QT) (R3 : T3) (a0 : Pt) (n0 c0 : Nat) (e0 : Bool) (a3 : Pt) (n3 c3 : Nat) (e3 : Bool) (x4 : Int) (h : AHeap) : Prop :=
 bcase (decide ((x4 : Int) < (((n0 : Nat) : Int)))) ((0 ≤ (x4 : Int) ∧ (x4 : Int) < (n0 : Nat)) ∧ (xSome a0 fun i_1 o_2 => xStr (hCell h (.ptr (some (i_1, o_2 + (Int.toNat x4) * 1)))) fun s_3 => (0 ≤ (x4 : Int) ∧ (x4 : Int) < (n3 : Nat)) ∧ (xSome a3 fun i_4 o_5 => xHeap (hStore h (.ptr (some (i_4, o_5 + (Int.toNat x4) * 1))) [.str s_3]) fun h_6 => R3 a0 n0 c0 e0 a3 n3 c3 e3 (IntKind.wrap .i64 (x4 + 1)) h_6))) (A3x0 Q a3 n3 c3 e3 h)
theorem L3den (Q : QT) (R3 : T3) (a0 : Pt) (n0 c0 : Nat) (e0 : Bool) (a3 : Pt) (n3 c3 : Nat) (e3 : Bool) (x4 : Int) (h : AHeap) (ht : L3t Q R3 a0 n0 c0 e0 a3 n3 c3 e3 x4 h) : Den pg fn.ntmps (C [1, 1, 0, 1, 0, 0]) [(0, .slice a0 n0 c0 e0), (3, .slice a3 n3 c3 e3), (4, .int .i64 x4)] h (K3 Q R3) :=
  den_Den (kp := kp) (@cast _ (den pg fn.ntmps kp (C [1, 1, 0, 1, 0, 0]) [(0, .slice a0 n0 c0 e0), (3, .slice a3 n3 c3 e3), (4, .int .i64 x4)] h (K3 Q R3)) (by kernel_rfl) ht)
theorem L3ind (Q : QT) (a0 : Pt) (n0 c0 : Nat) (e0 : Bool) (a3 : Pt) (n3 c3 : Nat) (e3 : Bool) {G : Type} (J : G → Int → AHeap → Prop) (m : G → Nat)
 (hr : ∀ (g : G) (x4 : Int) (h : AHeap), J g x4 h → ∀ (R3 : T3), (∀ g' (x4 : Int) (h : AHeap), m g' < m g → J g' x4 h → R3 a0 n0 c0 e0 a3 n3 c3 e3 x4 h) → L3t Q R3 a0 n0 c0 e0 a3 n3 c3 e3 x4 h)
 (g : G) (x4 : Int) (h : AHeap) (hj : J g x4 h) : L3 Q a0 n0 c0 e0 a3 n3 c3 e3 x4 h := by
  refine Loop.inv2 (fun g => E3 fun a0' n0' c0' e0' a3' n3' c3' e3' x4 h => a0 = a0' ∧ n0 = n0' ∧ c0 = c0' ∧ e0 = e0' ∧ a3 = a3' ∧ n3 = n3' ∧ c3 = c3' ∧ e3 = e3' ∧ J g x4 h) (fun g => E3 fun a0' n0' c0' e0' a3' n3' c3' e3' x4 h => a0 = a0' ∧ n0 = n0' ∧ c0 = c0' ∧ e0 = e0' ∧ a3 = a3' ∧ n3 = n3' ∧ c3 = c3' ∧ e3 = e3' ∧ ∃ g', m g' < m g ∧ J g' x4 h) m ?_ ?_ g ⟨rfl, rfl, rfl, rfl, rfl, rfl, rfl, rfl, hj⟩
  · intro g env h hi
    obtain ⟨a0', n0', c0', e0', a3', n3', c3', e3', x4, rfl, rfl, rfl, rfl, rfl, rfl, rfl, rfl, rfl, hj⟩ := E3elim hi
    exact L3den Q (fun a0' n0' c0' e0' a3' n3' c3' e3' x4 h => a0 = a0' ∧ n0 = n0' ∧ c0 = c0' ∧ e0 = e0' ∧ a3 = a3' ∧ n3 = n3' ∧ c3 = c3' ∧ e3 = e3' ∧ ∃ g', m g' < m g ∧ J g' x4 h) a0 n0 c0 e0 a3 n3 c3 e3 x4 h (hr g x4 h hj (fun a0' n0' c0' e0' a3' n3' c3' e3' x4 h => a0 = a0' ∧ n0 = n0' ∧ c0 = c0' ∧ e0 = e0' ∧ a3 = a3' ∧ n3 = n3' ∧ c3 = c3' ∧ e3 = e3' ∧ ∃ g', m g' < m g ∧ J g' x4 h) fun g' x4 h hlt hj => ⟨rfl, rfl, rfl, rfl, rfl, rfl, rfl, rfl, g', hlt, hj⟩)
  · intro g env h hi
    obtain ⟨a0', n0', c0', e0', a3', n3', c3', e3', x4, rfl, rfl, rfl, rfl, rfl, rfl, rfl, rfl, rfl, g', hlt, hj⟩ := E3elim hi
    exact ⟨g', hlt, rfl, rfl, rfl, rfl, rfl, rfl, rfl, rfl, hj⟩
theorem A3x0i (Q : QT) (a3 : Pt) (n3 c3 : Nat) (e3 : Bool) (h : AHeap) (ht :
 Q (.slice a3 n3 c3 e3) h) : A3x0 Q a3 n3 c3 e3 h :=
  At.mk (@cast _ ((K1 Q) (.exit 0) [(3, .slice a3 n3 c3 e3)] h) (by kernel_rfl) ht)
theorem call (a0 : Pt) (n0 c0 : Nat) (e0 : Bool) (h : AHeap) (Q : QT) (ht :
 IntKind.i64 = IntKind.i64 ∧ (IntKind.i64 = IntKind.i64 ∧ ((0 ≤ ((((n0 : Nat) : Int)) : Int) ∧ ((((n0 : Nat) : Int)) : Int) ≤ (((n0 : Nat) : Int)) ∧ ((((n0 : Nat) : Int)) : Int) * (((16 : Nat) : Int) + 1) ≤ 140737488355328) ∧ (letH (h ++ [.cells t_string (reps (Int.toNat ((((n0 : Nat) : Int)))) [.str []]) false]) fun h_0 => L3 Q a0 n0 c0 e0 (some (List.length h, 0)) (Int.toNat ((((n0 : Nat) : Int)))) (Int.toNat ((((n0 : Nat) : Int)))) true 0 h_0)))) : SCall pg n_laws_toStringS [.slice a0 n0 c0 e0] h Q :=
  SCall.of_body kp (c := cod fn) (fn := fn) Go.Proofs.Try.func14 (by kernel_rfl) (by kernel_rfl) (Nat.le_of_ble_eq_true (by kernel_rfl))
    (@cast _ (den pg fn.ntmps kp (cod fn) (Env.args 0 [.slice a0 n0 c0 e0]) h (KR Q)) (by kernel_rfl) ht)
end F_laws_toStringS
/-! Function loop.example/instancesearch/spec.l12Text -/
namespace F_spec_l12Text
noncomputable abbrev fn : Func := Go.Proofs.Try.f29
def kp : Keeps := []
noncomputable def C (p : List Nat) : Code := (cod fn).sub p
def KR (Q : QT) : KT := retA pg fn.results.toList Q
theorem call (x0 : List Nat) (h : AHeap) (Q : QT) (ht :
 bcase (decide (x0 = [])) (Q (.str [45]) h) (Q (.str x0) h)) : SCall pg n_spec_l12Text [.str x0] h Q :=
  SCall.of_body kp (c := cod fn) (fn := fn) Go.Proofs.Try.func29 (by kernel_rfl) (by kernel_rfl) (Nat.le_of_ble_eq_true (by kernel_rfl))
    (@cast _ (den pg fn.ntmps kp (cod fn) (Env.args 0 [.str x0]) h (KR Q)) (by kernel_rfl) ht)
end F_spec_l12Text
/-! Function loop.example/instancesearch/impl.dashed -/
namespace F_impl_dashed
noncomputable abbrev fn : Func := Go.Proofs.Try.f30
def kp : Keeps := []
noncomputable def C (p : List Nat) : Code := (cod fn).sub p
def KR (Q : QT) : KT := retA pg fn.results.toList Q
theorem call (x0 : List Nat) (h : AHeap) (Q : QT) (ht :
 bcase (decide (x0 = [])) (Q (.str [45]) h) (Q (.str x0) h)) : SCall pg n_impl_dashed [.str x0] h Q :=
  SCall.of_body kp (c := cod fn) (fn := fn) Go.Proofs.Try.func30 (by kernel_rfl) (by kernel_rfl) (Nat.le_of_ble_eq_true (by kernel_rfl))
    (@cast _ (den pg fn.ntmps kp (cod fn) (Env.args 0 [.str x0]) h (KR Q)) (by kernel_rfl) ht)
end F_impl_dashed
/-! Function loop.example/instancesearch/spec.FormatTexts -/
namespace F_spec_FormatTexts
noncomputable abbrev fn : Func := Go.Proofs.Try.f13
def kp : Keeps := [(3000003, [3]), (1000003, [3, 6, 7, 8]), (4000007, [3, 5, 8, 7, 6]), (4000008, [8, 7, 6, 3])]
noncomputable def C (p : List Nat) : Code := (cod fn).sub p
def KR (Q : QT) : KT := retA pg fn.results.toList Q
abbrev T3 := List Nat → Pt → Nat → Nat → Bool → Int → Int → AHeap → Prop
def E3 (R3 : T3) (env : Env) (h : AHeap) : Prop := eVal 3 env fun v env => xStr (some v) fun x3 => eVal 6 env fun v env => xSl (some v) fun a6 n6 c6 e6 => eVal 7 env fun v env => eInt .i64 v fun x7 => eVal 8 env fun v env => eInt .i64 v fun x8 => eNil env (R3 x3 a6 n6 c6 e6 x7 x8 h)
theorem E3elim {R3 : T3} {env : Env} {h : AHeap} (hi : E3 R3 env h) : ∃ x3, ∃ a6, ∃ n6, ∃ c6, ∃ e6, ∃ x7, ∃ x8, env = [(3, .str x3), (6, .slice a6 n6 c6 e6), (7, .int .i64 x7), (8, .int .i64 x8)] ∧ R3 x3 a6 n6 c6 e6 x7 x8 h := by
  unfold E3 at hi
  have hi0 := hi
  clear hi
  obtain ⟨v, env, rfl, hi1⟩ := eVal_elim hi0
  obtain ⟨x3, rfl, hi2⟩ := xStr_elim hi1
  obtain ⟨v, env, rfl, hi3⟩ := eVal_elim hi2
  obtain ⟨a6, n6, c6, e6, rfl, hi4⟩ := xSl_elim hi3
  obtain ⟨v, env, rfl, hi5⟩ := eVal_elim hi4
  obtain ⟨x7, rfl, hi6⟩ := eInt_elim hi5
  obtain ⟨v, env, rfl, hi7⟩ := eVal_elim hi6
  obtain ⟨x8, rfl, hi8⟩ := eInt_elim hi7
  obtain ⟨rfl, hi9⟩ := eNil_elim hi8
  have hi := hi9
  exact ⟨x3, a6, n6, c6, e6, x7, x8, rfl, hi⟩
def K0 (Q : QT) : KT := andThen (fun env' h' => (match kp.find 4000009 with | some ks => Den pg fn.ntmps (C [1, 1, 1]) (env'.keep ks) h' (KR Q) | none => den pg fn.ntmps kp (C [1, 1, 1]) env' h' (KR Q))) (KR Q)
def K1 (Q : QT) : KT := onExit 0 (K0 Q)
def K2 (Q : QT) : KT := left kp 3 (K1 Q)
def K3 (Q : QT) (R3 : T3) : KT := rnd ((kp.find 1000003).getD []) (E3 R3) (K2 Q)
def K4 (Q : QT) (R3 : T3) : KT := andThen (fun env' h' => (match kp.find 4000008 with | some ks => Den pg fn.ntmps (C [1, 1, 0, 1, 0, 0, 1, 1, 1]) (env'.keep ks) h' (K3 Q R3) | none => den pg fn.ntmps kp (C [1, 1, 0, 1, 0, 0, 1, 1, 1]) env' h' (K3 Q R3))) (K3 Q R3)
def K5 (Q : QT) (R3 : T3) : KT := onExit 1 (K4 Q R3)
def L3 (Q : QT) (x3 : List Nat) (a6 : Pt) (n6 c6 : Nat) (e6 : Bool) (x7 x8 : Int) (h : AHeap) : Prop := Loop (Den pg fn.ntmps (C [1, 1, 0, 1, 0, 0])) ((kp.find 1000003).getD []) (K2 Q) [(3, .str x3), (6, .slice a6 n6 c6 e6), (7, .int .i64 x7), (8, .int .i64 x8)] h
def J7 (Q : QT) (R3 : T3) (x3 x5 : List Nat) (x8 x7 : Int) (a6 : Pt) (n6 c6 : Nat) (e6 : Bool) (h : AHeap) : Prop := Den pg fn.ntmps (C [1, 1, 0, 1, 0, 0, 1, 1, 0, 0, 1, 1]) [(3, .str x3), (5, .str x5), (8, .int .i64 x8), (7, .int .i64 x7), (6, .slice a6 n6 c6 e6)] h (K5 Q R3)
def A3x0 (Q : QT) (x3 : List Nat) (h : AHeap) : Prop := At (K1 Q) (.exit 0) [(3, .str x3)] h
def J8 (Q : QT) (R3 : T3) (x8 x7 : Int) (a6 : Pt) (n6 c6 : Nat) (e6 : Bool) (x3 : List Nat) (h : AHeap) : Prop := Den pg fn.ntmps (C [1, 1, 0, 1, 0, 0, 1, 1, 1]) [(8, .int .i64 x8), (7, .int .i64 x7), (6, .slice a6 n6 c6 e6), (3, .str x3)] h (K3 Q R3)
def L3t (Q : QT) (R3 : T3) (x3 : List Nat) (a6 : Pt) (n6 c6 : Nat) (e6 : Bool) (x7 x8 : Int) (h : AHeap) : Prop :=
 bcase (decide ((x8 : Int) < x7)) ((0 ≤ (x8 : Int) ∧ (x8 : Int) < (n6 : Nat)) ∧ (xSome a6 fun i_0 o_1 => xStr (hCell h (.ptr (some (i_0, o_1 + (Int.toNat x8) * 1)))) fun s_2 => bcase (decide ((x8 : Int) > 0)) (List.length x3 + List.length [32] ≤ 9223372036854775807 ∧ (J7 Q R3 (x3 ++ [32]) s_2 x8 x7 a6 n6 c6 e6 h)) (J7 Q R3 x3 s_2 x8 x7 a6 n6 c6 e6 h))) (A3x0 Q x3 h)
theorem L3den (Q : QT) (R3 : T3) (x3 : List Nat) (a6 : Pt) (n6 c6 : Nat) (e6 : Bool) (x7 x8 : Int) (h : AHeap) (ht : L3t Q R3 x3 a6 n6 c6 e6 x7 x8 h) : Den pg fn.ntmps (C [1, 1, 0, 1, 0, 0]) [(3, .str x3), (6, .slice a6 n6 c6 e6), (7, .int .i64 x7), (8, .int .i64 x8)] h (K3 Q R3) :=
  den_Den (kp := kp) (@cast _ (den pg fn.ntmps kp (C [1, 1, 0, 1, 0, 0]) [(3, .str x3), (6, .slice a6 n6 c6 e6), (7, .int .i64 x7), (8, .int .i64 x8)] h (K3 Q R3)) (by kernel_rfl) ht)
theorem L3ind (Q : QT) (a6 : Pt) (n6 c6 : Nat) (e6 : Bool) (x7 : Int) {G : Type} (J : G → List Nat → Int → AHeap → Prop) (m : G → Nat)
 (hr : ∀ (g : G) (x3 : List Nat) (x8 : Int) (h : AHeap), J g x3 x8 h → ∀ (R3 : T3), (∀ g' (x3 : List Nat) (x8 : Int) (h : AHeap), m g' < m g → J g' x3 x8 h → R3 x3 a6 n6 c6 e6 x7 x8 h) → L3t Q R3 x3 a6 n6 c6 e6 x7 x8 h)
 (g : G) (x3 : List Nat) (x8 : Int) (h : AHeap) (hj : J g x3 x8 h) : L3 Q x3 a6 n6 c6 e6 x7 x8 h := by
  refine Loop.inv2 (fun g => E3 fun x3 a6' n6' c6' e6' x7' x8 h => a6 = a6' ∧ n6 = n6' ∧ c6 = c6' ∧ e6 = e6' ∧ x7 = x7' ∧ J g x3 x8 h) (fun g => E3 fun x3 a6' n6' c6' e6' x7' x8 h => a6 = a6' ∧ n6 = n6' ∧ c6 = c6' ∧ e6 = e6' ∧ x7 = x7' ∧ ∃ g', m g' < m g ∧ J g' x3 x8 h) m ?_ ?_ g ⟨rfl, rfl, rfl, rfl, rfl, hj⟩
  · intro g env h hi
    obtain ⟨x3, a6', n6', c6', e6', x7', x8, rfl, rfl, rfl, rfl, rfl, rfl, hj⟩ := E3elim hi
    exact L3den Q (fun x3 a6' n6' c6' e6' x7' x8 h => a6 = a6' ∧ n6 = n6' ∧ c6 = c6' ∧ e6 = e6' ∧ x7 = x7' ∧ ∃ g', m g' < m g ∧ J g' x3 x8 h) x3 a6 n6 c6 e6 x7 x8 h (hr g x3 x8 h hj (fun x3 a6' n6' c6' e6' x7' x8 h => a6 = a6' ∧ n6 = n6' ∧ c6 = c6' ∧ e6 = e6' ∧ x7 = x7' ∧ ∃ g', m g' < m g ∧ J g' x3 x8 h) fun g' x3 x8 h hlt hj => ⟨rfl, rfl, rfl, rfl, rfl, g', hlt, hj⟩)
  · intro g env h hi
    obtain ⟨x3, a6', n6', c6', e6', x7', x8, rfl, rfl, rfl, rfl, rfl, rfl, g', hlt, hj⟩ := E3elim hi
    exact ⟨g', hlt, rfl, rfl, rfl, rfl, rfl, hj⟩
theorem J7i (Q : QT) (R3 : T3) (x3 x5 : List Nat) (x8 x7 : Int) (a6 : Pt) (n6 c6 : Nat) (e6 : Bool) (h : AHeap) (ht :
 List.length x3 + List.length x5 ≤ 9223372036854775807 ∧ (J8 Q R3 x8 x7 a6 n6 c6 e6 (x3 ++ x5) h)) : J7 Q R3 x3 x5 x8 x7 a6 n6 c6 e6 h :=
  den_Den (kp := kp) (@cast _ (den pg fn.ntmps kp (C [1, 1, 0, 1, 0, 0, 1, 1, 0, 0, 1, 1]) [(3, .str x3), (5, .str x5), (8, .int .i64 x8), (7, .int .i64 x7), (6, .slice a6 n6 c6 e6)] h (K5 Q R3)) (by kernel_rfl) ht)
theorem A3x0i (Q : QT) (x3 : List Nat) (h : AHeap) (ht :
 SCall pg n_spec_l12Text [.str x3] h fun v_3 h_4 =>
 xStr (some v_3) fun s_5 => Q (.str s_5) h_4) : A3x0 Q x3 h :=
  At.mk (@cast _ ((K1 Q) (.exit 0) [(3, .str x3)] h) (by kernel_rfl) ht)
theorem J8i (Q : QT) (R3 : T3) (x8 x7 : Int) (a6 : Pt) (n6 c6 : Nat) (e6 : Bool) (x3 : List Nat) (h : AHeap) (ht :
 R3 x3 a6 n6 c6 e6 x7 (IntKind.wrap .i64 (x8 + 1)) h) : J8 Q R3 x8 x7 a6 n6 c6 e6 x3 h :=
  den_Den (kp := kp) (@cast _ (den pg fn.ntmps kp (C [1, 1, 0, 1, 0, 0, 1, 1, 1]) [(8, .int .i64 x8), (7, .int .i64 x7), (6, .slice a6 n6 c6 e6), (3, .str x3)] h (K3 Q R3)) (by kernel_rfl) ht)
theorem call (a0 : Pt) (n0 c0 : Nat) (e0 : Bool) (h : AHeap) (Q : QT) (ht :
 L3 Q [] a0 n0 c0 e0 (((n0 : Nat) : Int)) 0 h) : SCall pg n_spec_FormatTexts [.slice a0 n0 c0 e0] h Q :=
  SCall.of_body kp (c := cod fn) (fn := fn) Go.Proofs.Try.func13 (by kernel_rfl) (by kernel_rfl) (Nat.le_of_ble_eq_true (by kernel_rfl))
    (@cast _ (den pg fn.ntmps kp (cod fn) (Env.args 0 [.slice a0 n0 c0 e0]) h (KR Q)) (by kernel_rfl) ht)
end F_spec_FormatTexts
/-! Function loop.example/instancesearch/impl.FormatTexts -/
namespace F_impl_FormatTexts
noncomputable abbrev fn : Func := Go.Proofs.Try.f15
def kp : Keeps := []
noncomputable def C (p : List Nat) : Code := (cod fn).sub p
def KR (Q : QT) : KT := retA pg fn.results.toList Q
theorem call (a0 : Pt) (n0 c0 : Nat) (e0 : Bool) (h : AHeap) (Q : QT) (ht :
 SCall pg n_strings_Join [.slice a0 n0 c0 e0, .str [32]] h fun v_0 h_1 =>
 xStr (some v_0) fun s_2 => SCall pg n_impl_dashed [.str s_2] h_1 fun v_3 h_4 =>
 xStr (some v_3) fun s_5 => Q (.str s_5) h_4) : SCall pg n_impl_FormatTexts [.slice a0 n0 c0 e0] h Q :=
  SCall.of_body kp (c := cod fn) (fn := fn) Go.Proofs.Try.func15 (by kernel_rfl) (by kernel_rfl) (Nat.le_of_ble_eq_true (by kernel_rfl))
    (@cast _ (den pg fn.ntmps kp (cod fn) (Env.args 0 [.slice a0 n0 c0 e0]) h (KR Q)) (by kernel_rfl) ht)
end F_impl_FormatTexts
/-! Function loop.example/instancesearch/laws.FnExactFormatTexts -/
namespace F_laws_FnExactFormatTexts
noncomputable abbrev fn : Func := Go.Proofs.Try.f4
def kp : Keeps := []
noncomputable def C (p : List Nat) : Code := (cod fn).sub p
def KR (Q : QT) : KT := retA pg fn.results.toList Q
theorem call (a0 : Pt) (n0 c0 : Nat) (e0 : Bool) (h : AHeap) (Q : QT) (ht :
 SCall pg n_laws_szStringS [.slice a0 n0 c0 e0, .int .i64 1048576] h fun v_0 h_1 =>
 xInt .i64 (some v_0) fun x_2 => bcase (decide ((x_2 : Int) < 0)) (Q (.bool true) h_1) (SCall pg n_laws_toStringS [.slice a0 n0 c0 e0] h_1 fun v_3 h_4 =>
 xSl (some v_3) fun a_5 n_6 c_7 e_8 => SCall pg n_spec_FormatTexts [.slice a_5 n_6 c_7 e_8] h_4 fun v_9 h_10 =>
 xStr (some v_9) fun s_11 => SCall pg n_laws_toStringS [.slice a0 n0 c0 e0] h_10 fun v_12 h_13 =>
 xSl (some v_12) fun a_14 n_15 c_16 e_17 => SCall pg n_impl_FormatTexts [.slice a_14 n_15 c_16 e_17] h_13 fun v_18 h_19 =>
 xStr (some v_18) fun s_20 => bcase (!(decide (s_20 = s_11))) (Q (.bool false) h_19) (SCall pg n_laws_toStringS [.slice a0 n0 c0 e0] h_19 fun v_21 h_22 =>
 xSl (some v_21) fun a_23 n_24 c_25 e_26 => SCall pg n_laws_eqStringS [.slice a_14 n_15 c_16 e_17, .slice a_23 n_24 c_25 e_26] h_22 fun v_27 h_28 =>
 xBool (some v_27) fun b_29 => bcase (!b_29) (Q (.bool false) h_28) (Q (.bool true) h_28)))) : SCall pg n_laws_FnExactFormatTexts [.slice a0 n0 c0 e0] h Q :=
  SCall.of_body kp (c := cod fn) (fn := fn) Go.Proofs.Try.func4 (by kernel_rfl) (by kernel_rfl) (Nat.le_of_ble_eq_true (by kernel_rfl))
    (@cast _ (den pg fn.ntmps kp (cod fn) (Env.args 0 [.slice a0 n0 c0 e0]) h (KR Q)) (by kernel_rfl) ht)
end F_laws_FnExactFormatTexts
end Go.Sim
