/- Printed by wip/tool: what the functions' bodies do, in the words of 'den'. -/
import Derived.Test.YtgiiilhdmfddcaaNm
set_option linter.unusedSimpArgs false
set_option linter.all false
set_option maxRecDepth 100000
set_option linter.unusedVariables false
namespace Go.Sim
open Go Go.RowKit
/-! Function loop.example/instancesearch/laws.inTexts -/
namespace F_laws_inTexts
noncomputable abbrev fn : Func := Go.Proofs.Try.f22
def kp : Keeps := [(3000002, [0, 1, 4]), (1000002, [0, 1, 10, 11]), (2000004, [22, 11, 10, 0, 1])]
noncomputable def C (p : List Nat) : Code := (cod fn).sub p
def KR (Q : QT) : KT := retA pg fn.results.toList Q
abbrev T2 := Pt → Nat → Nat → Bool → Pt → Nat → Nat → Bool → Int → Int → AHeap → Prop
def E2 (R2 : T2) (env : Env) (h : AHeap) : Prop := eVal 0 env fun v env => xSl (some v) fun a0 n0 c0 e0 => eVal 1 env fun v env => xSl (some v) fun a1 n1 c1 e1 => eVal 10 env fun v env => eInt .i64 v fun x10 => eVal 11 env fun v env => eInt .i64 v fun x11 => eNil env (R2 a0 n0 c0 e0 a1 n1 c1 e1 x10 x11 h)
theorem E2elim {R2 : T2} {env : Env} {h : AHeap} (hi : E2 R2 env h) : ∃ a0, ∃ n0, ∃ c0, ∃ e0, ∃ a1, ∃ n1, ∃ c1, ∃ e1, ∃ x10, ∃ x11, env = [(0, .slice a0 n0 c0 e0), (1, .slice a1 n1 c1 e1), (10, .int .i64 x10), (11, .int .i64 x11)] ∧ R2 a0 n0 c0 e0 a1 n1 c1 e1 x10 x11 h := by
  unfold E2 at hi
  have hi0 := hi
  clear hi
  obtain ⟨v, env, rfl, hi1⟩ := eVal_elim hi0
  obtain ⟨a0, n0, c0, e0, rfl, hi2⟩ := xSl_elim hi1
  obtain ⟨v, env, rfl, hi3⟩ := eVal_elim hi2
  obtain ⟨a1, n1, c1, e1, rfl, hi4⟩ := xSl_elim hi3
  obtain ⟨v, env, rfl, hi5⟩ := eVal_elim hi4
  obtain ⟨x10, rfl, hi6⟩ := eInt_elim hi5
  obtain ⟨v, env, rfl, hi7⟩ := eVal_elim hi6
  obtain ⟨x11, rfl, hi8⟩ := eInt_elim hi7
  obtain ⟨rfl, hi9⟩ := eNil_elim hi8
  have hi := hi9
  exact ⟨a0, n0, c0, e0, a1, n1, c1, e1, x10, x11, rfl, hi⟩
def K0 (Q : QT) : KT := andThen (fun env' h' => (match kp.find 4000007 with | some ks => Den pg fn.ntmps (C [1, 1]) (env'.keep ks) h' (KR Q) | none => den pg fn.ntmps kp (C [1, 1]) env' h' (KR Q))) (KR Q)
def K1 (Q : QT) : KT := onExit 0 (K0 Q)
def K2 (Q : QT) : KT := left kp 2 (K1 Q)
def K3 (Q : QT) (R2 : T2) : KT := rnd ((kp.find 1000002).getD []) (E2 R2) (K2 Q)
def L2 (Q : QT) (a0 : Pt) (n0 c0 : Nat) (e0 : Bool) (a1 : Pt) (n1 c1 : Nat) (e1 : Bool) (x10 x11 : Int) (h : AHeap) : Prop := Loop (Den pg fn.ntmps (C [1, 0, 1, 0, 0])) ((kp.find 1000002).getD []) (K2 Q) [(0, .slice a0 n0 c0 e0), (1, .slice a1 n1 c1 e1), (10, .int .i64 x10), (11, .int .i64 x11)] h
def A2x0 (Q : QT) (a0 : Pt) (n0 c0 : Nat) (e0 : Bool) (a1 : Pt) (n1 c1 : Nat) (e1 : Bool) (h : AHeap) : Prop := At (K1 Q) (.exit 0) [(0, .slice a0 n0 c0 e0), (1, .slice a1 n1 c1 e1), (4, .undef)] h
def L2t (Q : QT) (R2 : T2) (a0 : Pt) (n0 c0 : Nat) (e0 : Bool) (a1 : Pt) (n1 c1 : Nat) (e1 : Bool) (x10 x11 : Int) (h : AHeap) : Prop :=
 bcase (decide ((x11 : Int) < x10)) ((0 ≤ (x11 : Int) ∧ (x11 : Int) < (n0 : Nat)) ∧ (xSome a0 fun i_0 o_1 => (0 ≤ (x11 : Int) ∧ (x11 : Int) < (n1 : Nat)) ∧ (xSome a1 fun i_2 o_3 => xStr (hCell h (.ptr (some (i_0, o_1 + (Int.toNat x11) * 1)))) fun s_4 => xStr (hCell h (.ptr (some (i_2, o_3 + (Int.toNat x11) * 1)))) fun s_5 => (hCell h (.ptr (some (i_0, o_1 + (Int.toNat x11) * 1))) = hCell h (.ptr (some (i_0, o_1 + (Int.toNat x11) * 1)))) ∧ bcase (!(decide (s_4 = s_5))) (Q (.bool false) h) (R2 a0 n0 c0 e0 a1 n1 c1 e1 x10 (IntKind.wrap .i64 (x11 + 1)) h)))) (A2x0 Q a0 n0 c0 e0 a1 n1 c1 e1 h)
theorem L2den (Q : QT) (R2 : T2) (a0 : Pt) (n0 c0 : Nat) (e0 : Bool) (a1 : Pt) (n1 c1 : Nat) (e1 : Bool) (x10 x11 : Int) (h : AHeap) (ht : L2t Q R2 a0 n0 c0 e0 a1 n1 c1 e1 x10 x11 h) : Den pg fn.ntmps (C [1, 0, 1, 0, 0]) [(0, .slice a0 n0 c0 e0), (1, .slice a1 n1 c1 e1), (10, .int .i64 x10), (11, .int .i64 x11)] h (K3 Q R2) :=
  den_Den (kp := kp) (@cast _ (den pg fn.ntmps kp (C [1, 0, 1, 0, 0]) [(0, .slice a0 n0 c0 e0), (1, .slice a1 n1 c1 e1), (10, .int .i64 x10), (11, .int .i64 x11)] h (K3 Q R2)) (by kernel_rfl) ht)
theorem L2ind (Q : QT) (a0 : Pt) (n0 c0 : Nat) (e0 : Bool) (a1 : Pt) (n1 c1 : Nat) (e1 : Bool) (x10 : Int) {G : Type} (J : G → Int → AHeap → Prop) (m : G → Nat)
 (hr : ∀ (g : G) (x11 : Int) (h : AHeap), J g x11 h → ∀ (R2 : T2), (∀ g' (x11 : Int) (h : AHeap), m g' < m g → J g' x11 h → R2 a0 n0 c0 e0 a1 n1 c1 e1 x10 x11 h) → L2t Q R2 a0 n0 c0 e0 a1 n1 c1 e1 x10 x11 h)
 (g : G) (x11 : Int) (h : AHeap) (hj : J g x11 h) : L2 Q a0 n0 c0 e0 a1 n1 c1 e1 x10 x11 h := by
  refine Loop.inv2 (fun g => E2 fun a0' n0' c0' e0' a1' n1' c1' e1' x10' x11 h => a0 = a0' ∧ n0 = n0' ∧ c0 = c0' ∧ e0 = e0' ∧ a1 = a1' ∧ n1 = n1' ∧ c1 = c1' ∧ e1 = e1' ∧ x10 = x10' ∧ J g x11 h) (fun g => E2 fun a0' n0' c0' e0' a1' n1' c1' e1' x10' x11 h => a0 = a0' ∧ n0 = n0' ∧ c0 = c0' ∧ e0 = e0' ∧ a1 = a1' ∧ n1 = n1' ∧ c1 = c1' ∧ e1 = e1' ∧ x10 = x10' ∧ ∃ g', m g' < m g ∧ J g' x11 h) m ?_ ?_ g ⟨rfl, rfl, rfl, rfl, rfl, rfl, rfl, rfl, rfl, hj⟩
  · intro g env h hi
    obtain ⟨a0', n0', c0', e0', a1', n1', c1', e1', x10', x11, rfl, rfl, rfl, rfl, rfl, rfl, rfl, rfl, rfl, rfl, hj⟩ := E2elim hi
    exact L2den Q (fun a0' n0' c0' e0' a1' n1' c1' e1' x10' x11 h => a0 = a0' ∧ n0 = n0' ∧ c0 = c0' ∧ e0 = e0' ∧ a1 = a1' ∧ n1 = n1' ∧ c1 = c1' ∧ e1 = e1' ∧ x10 = x10' ∧ ∃ g', m g' < m g ∧ J g' x11 h) a0 n0 c0 e0 a1 n1 c1 e1 x10 x11 h (hr g x11 h hj (fun a0' n0' c0' e0' a1' n1' c1' e1' x10' x11 h => a0 = a0' ∧ n0 = n0' ∧ c0 = c0' ∧ e0 = e0' ∧ a1 = a1' ∧ n1 = n1' ∧ c1 = c1' ∧ e1 = e1' ∧ x10 = x10' ∧ ∃ g', m g' < m g ∧ J g' x11 h) fun g' x11 h hlt hj => ⟨rfl, rfl, rfl, rfl, rfl, rfl, rfl, rfl, rfl, g', hlt, hj⟩)
  · intro g env h hi
    obtain ⟨a0', n0', c0', e0', a1', n1', c1', e1', x10', x11, rfl, rfl, rfl, rfl, rfl, rfl, rfl, rfl, rfl, rfl, g', hlt, hj⟩ := E2elim hi
    exact ⟨g', hlt, rfl, rfl, rfl, rfl, rfl, rfl, rfl, rfl, rfl, hj⟩
theorem A2x0i (Q : QT) (a0 : Pt) (n0 c0 : Nat) (e0 : Bool) (a1 : Pt) (n1 c1 : Nat) (e1 : Bool) (h : AHeap) (ht :
 Q (.bool ((((n0 : Nat) : Int) : Int) == (((n1 : Nat) : Int)))) h) : A2x0 Q a0 n0 c0 e0 a1 n1 c1 e1 h :=
  At.mk (@cast _ ((K1 Q) (.exit 0) [(0, .slice a0 n0 c0 e0), (1, .slice a1 n1 c1 e1), (4, .undef)] h) (by kernel_rfl) ht)
theorem call (a0 : Pt) (n0 c0 : Nat) (e0 : Bool) (a1 : Pt) (n1 c1 : Nat) (e1 : Bool) (h : AHeap) (Q : QT) (ht :
 L2 Q a0 n0 c0 e0 a1 n1 c1 e1 (if (((n1 : Nat) : Int) : Int) < (((n0 : Nat) : Int)) then ((n1 : Nat) : Int) else ((n0 : Nat) : Int)) 0 h) : SCall pg n_laws_inTexts [.slice a0 n0 c0 e0, .slice a1 n1 c1 e1] h Q :=
  SCall.of_body kp (c := cod fn) (fn := fn) Go.Proofs.Try.func22 (by kernel_rfl) (by kernel_rfl) (Nat.le_of_ble_eq_true (by kernel_rfl))
    (@cast _ (den pg fn.ntmps kp (cod fn) (Env.args 0 [.slice a0 n0 c0 e0, .slice a1 n1 c1 e1]) h (KR Q)) (by kernel_rfl) ht)
end F_laws_inTexts
end Go.Sim
