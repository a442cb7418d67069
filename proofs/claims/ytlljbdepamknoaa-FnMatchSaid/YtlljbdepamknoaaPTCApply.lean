/- A part of the proof of a statement of this seat: see the text that holds the theorem. No condition. -/
import Derived.Test.YtlljbdepamknoaaNm
set_option linter.unusedVariables false
set_option linter.unusedSimpArgs false
set_option linter.all false
set_option maxRecDepth 100000
set_option linter.unusedVariables false
namespace Go.Sim
open Go Go.RowKit
namespace Zbn
noncomputable abbrev fn : Func := Go.Proofs.Try.f25
def kp : Zcv := [(3000002, [2]), (1000002, [0, 5, 6, 7]), (2000004, [36, 7, 6, 5, 0]), (4000006, [7, 6, 5, 0])]
noncomputable def C (p : List Nat) : Code := (cod fn).sub p
def KR (Q : QT) : KT := Zic pg fn.results.toList Q
abbrev T2 := Pt → Nat → Nat → Bool → Pt → Nat → Nat → Bool → Int → Int → Zaa → Prop
def E2 (R2 : T2) (env : Env) (h : Zaa) : Prop := Zcu 0 env fun v env => xSl (some v) fun a0 n0 c0 e0 => Zcu 5 env fun v env => xSl (some v) fun a5 n5 c5 e5 => Zcu 6 env fun v env => Zhr .i64 v fun x6 => Zcu 7 env fun v env => Zhr .i64 v fun x7 => Znt env (R2 a0 n0 c0 e0 a5 n5 c5 e5 x6 x7 h)
theorem Zky {R2 : T2} {env : Env} {h : Zaa} (hi : E2 R2 env h) : ∃ a0, ∃ n0, ∃ c0, ∃ e0, ∃ a5, ∃ n5, ∃ c5, ∃ e5, ∃ x6, ∃ x7, env = [(0, .slice a0 n0 c0 e0), (5, .slice a5 n5 c5 e5), (6, .int .i64 x6), (7, .int .i64 x7)] ∧ R2 a0 n0 c0 e0 a5 n5 c5 e5 x6 x7 h := by
  unfold E2 at hi
  have hi0 := hi
  clear hi
  obtain ⟨_, _, rfl, hi1⟩ := Zad hi0
  obtain ⟨a0, n0, c0, e0, rfl, hi2⟩ := Zci hi1
  obtain ⟨_, _, rfl, hi3⟩ := Zad hi2
  obtain ⟨a5, n5, c5, e5, rfl, hi4⟩ := Zci hi3
  obtain ⟨_, _, rfl, hi5⟩ := Zad hi4
  obtain ⟨x6, rfl, hi6⟩ := Zav hi5
  obtain ⟨_, _, rfl, hi7⟩ := Zad hi6
  obtain ⟨x7, rfl, hi8⟩ := Zav hi7
  obtain ⟨rfl, hi9⟩ := Zbx hi8
  have hi := hi9
  exact ⟨a0, n0, c0, e0, a5, n5, c5, e5, x6, x7, rfl, hi⟩
def K0 (Q : QT) : KT := andThen (fun env' h' => (match kp.find 4000007 with | some ks => Den pg fn.ntmps (C [1, 1]) (env'.keep ks) h' (KR Q) | none => den pg fn.ntmps kp (C [1, 1]) env' h' (KR Q))) (KR Q)
def K1 (Q : QT) : KT := Zdp 0 (K0 Q)
def K2 (Q : QT) : KT := left kp 2 (K1 Q)
def K3 (Q : QT) (R2 : T2) : KT := rnd ((kp.find 1000002).getD []) (E2 R2) (K2 Q)
def L2 (Q : QT) (a0 : Pt) (n0 c0 : Nat) (e0 : Bool) (a5 : Pt) (n5 c5 : Nat) (e5 : Bool) (x6 x7 : Int) (h : Zaa) : Prop := Zgw (Den pg fn.ntmps (C [1, 0, 1, 0, 0])) ((kp.find 1000002).getD []) (K2 Q) [(0, .slice a0 n0 c0 e0), (5, .slice a5 n5 c5 e5), (6, .int .i64 x6), (7, .int .i64 x7)] h
def J6 (Q : QT) (R2 : T2) (x7 x6 : Int) (a5 : Pt) (n5 c5 : Nat) (e5 : Bool) (a0 : Pt) (n0 c0 : Nat) (e0 : Bool) (h : Zaa) : Prop := Den pg fn.ntmps (C [1, 0, 1, 0, 0, 1, 1, 1]) [(7, .int .i64 x7), (6, .int .i64 x6), (5, .slice a5 n5 c5 e5), (0, .slice a0 n0 c0 e0)] h (K3 Q R2)
def Yam (Q : QT) (h : Zaa) : Prop := At (K1 Q) (.exit 0) [(2, .undef)] h
def L2t (Q : QT) (R2 : T2) (a0 : Pt) (n0 c0 : Nat) (e0 : Bool) (a5 : Pt) (n5 c5 : Nat) (e5 : Bool) (x6 x7 : Int) (h : Zaa) : Prop :=
 bcase (decide ((x7 : Int) < x6)) ((0 ≤ (x7 : Int) ∧ (x7 : Int) < (n5 : Nat)) ∧ (Zbb a5 fun I0 O1 => Zep (Zdd h (.ptr (some (I0, O1 + (Int.toNat x7) * 2))) 2) fun K2 => Zar K2 fun C3 Z4 => Zct (some C3) fun S5 => Zar Z4 fun C6 Z7 => Zct (some C6) fun S8 => Zec Z7 (Zev (h ++ [.cells Zag [.str [], .str []] false]) fun H9 => Zcr (Zbi H9 (.ptr (some (h.length, 0))) [.str S5, .str S8]) fun H10 => Zct (Zak H10 (.ptr (some (h.length, 0 + 0)))) fun S11 => Zae pg Zgp [.str S11] H10 fun V12 H13 =>
 Zcg (some V12) fun B14 => bcase (!B14) ((Zak H13 (.tup []) = Zak H13 (.tup [])) ∧ Q (.bool false) H13) (Zct (Zak H13 (.ptr (some (h.length, 0 + 1)))) fun S15 => Zae pg Zcx [.str S15] H13 fun V16 H17 =>
 Zcg (some V16) fun B18 => bcase (!B18) ((Zak H17 (.tup []) = Zak H17 (.tup [])) ∧ Q (.bool false) H17) (bcase (decide ((x7 : Int) > 0)) ((0 ≤ (IntKind.wrap .i64 (x7 - 1) : Int) ∧ (IntKind.wrap .i64 (x7 - 1) : Int) < (n0 : Nat)) ∧ (Zbb a0 fun I19 O20 => Zct (Zak H17 (.ptr (some (I19, O20 + (Int.toNat (IntKind.wrap .i64 (x7 - 1))) * 2 + 0)))) fun S21 => Zct (Zak H17 (.ptr (some (h.length, 0 + 0)))) fun S22 => (Zak H17 (.ptr (some (I19, O20 + (Int.toNat (IntKind.wrap .i64 (x7 - 1))) * 2 + 0))) = Zak H17 (.ptr (some (I19, O20 + (Int.toNat (IntKind.wrap .i64 (x7 - 1))) * 2 + 0)))) ∧ bcase (!Zek S21 S22) (Q (.bool false) H17) (J6 Q R2 x7 x6 a5 n5 c5 e5 a0 n0 c0 e0 H17))) ((Zak H17 (.tup []) = Zak H17 (.tup [])) ∧ J6 Q R2 x7 x6 a5 n5 c5 e5 a0 n0 c0 e0 H17)))))) (Yam Q h)
theorem Zxp (Q : QT) (R2 : T2) (a0 : Pt) (n0 c0 : Nat) (e0 : Bool) (a5 : Pt) (n5 c5 : Nat) (e5 : Bool) (x6 x7 : Int) (h : Zaa) (ht : L2t Q R2 a0 n0 c0 e0 a5 n5 c5 e5 x6 x7 h) : Den pg fn.ntmps (C [1, 0, 1, 0, 0]) [(0, .slice a0 n0 c0 e0), (5, .slice a5 n5 c5 e5), (6, .int .i64 x6), (7, .int .i64 x7)] h (K3 Q R2) :=
  Zbe (kp := kp) (cast (by kernel_rfl) ht)
theorem L2ind (Q : QT) (a0 : Pt) (n0 c0 : Nat) (e0 : Bool) (a5 : Pt) (n5 c5 : Nat) (e5 : Bool) (x6 : Int) {G : Type} (J : G → Int → Zaa → Prop) (m : G → Nat)
 (hr : ∀ (g : G) (x7 : Int) (h : Zaa), J g x7 h → ∀ (R2 : T2), (∀ g' (x7 : Int) (h : Zaa), m g' < m g → J g' x7 h → R2 a0 n0 c0 e0 a5 n5 c5 e5 x6 x7 h) → L2t Q R2 a0 n0 c0 e0 a5 n5 c5 e5 x6 x7 h)
 (g : G) (x7 : Int) (h : Zaa) (hj : J g x7 h) : L2 Q a0 n0 c0 e0 a5 n5 c5 e5 x6 x7 h := by
  refine Zgw.inv2 (fun g => E2 fun a0' n0' c0' e0' a5' n5' c5' e5' x6' x7 h => a0 = a0' ∧ n0 = n0' ∧ c0 = c0' ∧ e0 = e0' ∧ a5 = a5' ∧ n5 = n5' ∧ c5 = c5' ∧ e5 = e5' ∧ x6 = x6' ∧ J g x7 h) (fun g => E2 fun a0' n0' c0' e0' a5' n5' c5' e5' x6' x7 h => a0 = a0' ∧ n0 = n0' ∧ c0 = c0' ∧ e0 = e0' ∧ a5 = a5' ∧ n5 = n5' ∧ c5 = c5' ∧ e5 = e5' ∧ x6 = x6' ∧ ∃ g', m g' < m g ∧ J g' x7 h) m ?_ ?_ g ⟨rfl, rfl, rfl, rfl, rfl, rfl, rfl, rfl, rfl, hj⟩
  · intro g env h hi
    obtain ⟨a0', n0', c0', e0', a5', n5', c5', e5', x6', x7, rfl, rfl, rfl, rfl, rfl, rfl, rfl, rfl, rfl, rfl, hj⟩ := Zky hi
    exact Zxp Q _ a0 n0 c0 e0 a5 n5 c5 e5 x6 x7 h (hr g x7 h hj (fun a0' n0' c0' e0' a5' n5' c5' e5' x6' x7 h => a0 = a0' ∧ n0 = n0' ∧ c0 = c0' ∧ e0 = e0' ∧ a5 = a5' ∧ n5 = n5' ∧ c5 = c5' ∧ e5 = e5' ∧ x6 = x6' ∧ ∃ g', m g' < m g ∧ J g' x7 h) fun g' x7 h hlt hj => ⟨rfl, rfl, rfl, rfl, rfl, rfl, rfl, rfl, rfl, g', hlt, hj⟩)
  · intro g env h hi
    obtain ⟨a0', n0', c0', e0', a5', n5', c5', e5', x6', x7, rfl, rfl, rfl, rfl, rfl, rfl, rfl, rfl, rfl, rfl, g', hlt, hj⟩ := Zky hi
    exact ⟨g', hlt, rfl, rfl, rfl, rfl, rfl, rfl, rfl, rfl, rfl, hj⟩
theorem J6i (Q : QT) (R2 : T2) (x7 x6 : Int) (a5 : Pt) (n5 c5 : Nat) (e5 : Bool) (a0 : Pt) (n0 c0 : Nat) (e0 : Bool) (h : Zaa) (ht :
 R2 a0 n0 c0 e0 a5 n5 c5 e5 x6 (IntKind.wrap .i64 (x7 + 1)) h) : J6 Q R2 x7 x6 a5 n5 c5 e5 a0 n0 c0 e0 h :=
  Zbe (kp := kp) (cast (by kernel_rfl) ht)
theorem A2x0i (Q : QT) (h : Zaa) (ht :
 Q (.bool true) h) : Yam Q h :=
  At.mk (cast (by kernel_rfl) ht)
theorem call (a0 : Pt) (n0 c0 : Nat) (e0 : Bool) (h : Zaa) (Q : QT) (ht :
 L2 Q a0 n0 c0 e0 a0 n0 c0 e0 (((n0 : Nat) : Int)) 0 h) : Zae pg Zcz [.slice a0 n0 c0 e0] h Q :=
  Zae.of_body kp (c := cod fn) (fn := fn) Go.Proofs.Try.func25 (by kernel_rfl) (by kernel_rfl) (Nat.le_of_ble_eq_true (by kernel_rfl))
    (cast (by kernel_rfl) ht)
end Zbn
namespace Zbc
noncomputable abbrev fn : Func := Go.Proofs.Try.f24
def kp : Zcv := [(4000003, [1, 0]), (3000005, [6]), (1000005, [0, 1, 6, 20, 21]), (3000009, [6, 8, 21, 20, 1, 0]), (1000009, [0, 1, 6, 8, 20, 21, 29, 30, 31])]
noncomputable def C (p : List Nat) : Code := (cod fn).sub p
def KR (Q : QT) : KT := Zic pg fn.results.toList Q
abbrev T5 := Pt → Nat → Nat → Bool → List Nat → List Nat → Int → Int → Zaa → Prop
def E5 (R5 : T5) (env : Env) (h : Zaa) : Prop := Zcu 0 env fun v env => xSl (some v) fun a0 n0 c0 e0 => Zcu 1 env fun v env => Zct (some v) fun x1 => Zcu 6 env fun v env => Zct (some v) fun x6 => Zcu 20 env fun v env => Zhr .i64 v fun x20 => Zcu 21 env fun v env => Zhr .i64 v fun x21 => Znt env (R5 a0 n0 c0 e0 x1 x6 x20 x21 h)
theorem Zlh {R5 : T5} {env : Env} {h : Zaa} (hi : E5 R5 env h) : ∃ a0, ∃ n0, ∃ c0, ∃ e0, ∃ x1, ∃ x6, ∃ x20, ∃ x21, env = [(0, .slice a0 n0 c0 e0), (1, .str x1), (6, .str x6), (20, .int .i64 x20), (21, .int .i64 x21)] ∧ R5 a0 n0 c0 e0 x1 x6 x20 x21 h := by
  unfold E5 at hi
  have hi0 := hi
  clear hi
  obtain ⟨_, _, rfl, hi1⟩ := Zad hi0
  obtain ⟨a0, n0, c0, e0, rfl, hi2⟩ := Zci hi1
  obtain ⟨_, _, rfl, hi3⟩ := Zad hi2
  obtain ⟨x1, rfl, hi4⟩ := Zda hi3
  obtain ⟨_, _, rfl, hi5⟩ := Zad hi4
  obtain ⟨x6, rfl, hi6⟩ := Zda hi5
  obtain ⟨_, _, rfl, hi7⟩ := Zad hi6
  obtain ⟨x20, rfl, hi8⟩ := Zav hi7
  obtain ⟨_, _, rfl, hi9⟩ := Zad hi8
  obtain ⟨x21, rfl, hi10⟩ := Zav hi9
  obtain ⟨rfl, hi11⟩ := Zbx hi10
  have hi := hi11
  exact ⟨a0, n0, c0, e0, x1, x6, x20, x21, rfl, hi⟩
abbrev T9 := Pt → Nat → Nat → Bool → List Nat → List Nat → List Nat → Int → Int → Pt → Nat → Nat → Bool → Int → Int → Zaa → Prop
def E9 (R9 : T9) (env : Env) (h : Zaa) : Prop := Zcu 0 env fun v env => xSl (some v) fun a0 n0 c0 e0 => Zcu 1 env fun v env => Zct (some v) fun x1 => Zcu 6 env fun v env => Zct (some v) fun x6 => Zcu 8 env fun v env => Zct (some v) fun x8 => Zcu 20 env fun v env => Zhr .i64 v fun x20 => Zcu 21 env fun v env => Zhr .i64 v fun x21 => Zcu 29 env fun v env => xSl (some v) fun a29 n29 c29 e29 => Zcu 30 env fun v env => Zhr .i64 v fun x30 => Zcu 31 env fun v env => Zhr .i64 v fun x31 => Znt env (R9 a0 n0 c0 e0 x1 x6 x8 x20 x21 a29 n29 c29 e29 x30 x31 h)
theorem Yao {R9 : T9} {env : Env} {h : Zaa} (hi : E9 R9 env h) : ∃ a0, ∃ n0, ∃ c0, ∃ e0, ∃ x1, ∃ x6, ∃ x8, ∃ x20, ∃ x21, ∃ a29, ∃ n29, ∃ c29, ∃ e29, ∃ x30, ∃ x31, env = [(0, .slice a0 n0 c0 e0), (1, .str x1), (6, .str x6), (8, .str x8), (20, .int .i64 x20), (21, .int .i64 x21), (29, .slice a29 n29 c29 e29), (30, .int .i64 x30), (31, .int .i64 x31)] ∧ R9 a0 n0 c0 e0 x1 x6 x8 x20 x21 a29 n29 c29 e29 x30 x31 h := by
  unfold E9 at hi
  have hi0 := hi
  clear hi
  obtain ⟨_, _, rfl, hi1⟩ := Zad hi0
  obtain ⟨a0, n0, c0, e0, rfl, hi2⟩ := Zci hi1
  obtain ⟨_, _, rfl, hi3⟩ := Zad hi2
  obtain ⟨x1, rfl, hi4⟩ := Zda hi3
  obtain ⟨_, _, rfl, hi5⟩ := Zad hi4
  obtain ⟨x6, rfl, hi6⟩ := Zda hi5
  obtain ⟨_, _, rfl, hi7⟩ := Zad hi6
  obtain ⟨x8, rfl, hi8⟩ := Zda hi7
  obtain ⟨_, _, rfl, hi9⟩ := Zad hi8
  obtain ⟨x20, rfl, hi10⟩ := Zav hi9
  obtain ⟨_, _, rfl, hi11⟩ := Zad hi10
  obtain ⟨x21, rfl, hi12⟩ := Zav hi11
  obtain ⟨_, _, rfl, hi13⟩ := Zad hi12
  obtain ⟨a29, n29, c29, e29, rfl, hi14⟩ := Zci hi13
  obtain ⟨_, _, rfl, hi15⟩ := Zad hi14
  obtain ⟨x30, rfl, hi16⟩ := Zav hi15
  obtain ⟨_, _, rfl, hi17⟩ := Zad hi16
  obtain ⟨x31, rfl, hi18⟩ := Zav hi17
  obtain ⟨rfl, hi19⟩ := Zbx hi18
  have hi := hi19
  exact ⟨a0, n0, c0, e0, x1, x6, x8, x20, x21, a29, n29, c29, e29, x30, x31, rfl, hi⟩
def K0 (Q : QT) : KT := andThen (fun env' h' => (match kp.find 4000016 with | some ks => Den pg fn.ntmps (C [1, 1, 1, 1]) (env'.keep ks) h' (KR Q) | none => den pg fn.ntmps kp (C [1, 1, 1, 1]) env' h' (KR Q))) (KR Q)
def K1 (Q : QT) : KT := Zdp 0 (K0 Q)
def K2 (Q : QT) : KT := left kp 5 (K1 Q)
def K3 (Q : QT) (R5 : T5) : KT := rnd ((kp.find 1000005).getD []) (E5 R5) (K2 Q)
def K4 (Q : QT) (R5 : T5) : KT := andThen (fun env' h' => (match kp.find 4000015 with | some ks => Den pg fn.ntmps (C [1, 1, 1, 0, 1, 0, 0, 1, 1, 1]) (env'.keep ks) h' (K3 Q R5) | none => den pg fn.ntmps kp (C [1, 1, 1, 0, 1, 0, 0, 1, 1, 1]) env' h' (K3 Q R5))) (K3 Q R5)
def K5 (Q : QT) (R5 : T5) : KT := Zdp 1 (K4 Q R5)
def K6 (Q : QT) (R5 : T5) : KT := andThen (fun env' h' => (match kp.find 4000014 with | some ks => Den pg fn.ntmps (C [1, 1, 1, 0, 1, 0, 0, 1, 1, 0, 0, 1, 1, 1]) (env'.keep ks) h' (K5 Q R5) | none => den pg fn.ntmps kp (C [1, 1, 1, 0, 1, 0, 0, 1, 1, 0, 0, 1, 1, 1]) env' h' (K5 Q R5))) (K5 Q R5)
def K7 (Q : QT) (R5 : T5) : KT := Zdp 2 (K6 Q R5)
def K8 (Q : QT) (R5 : T5) : KT := left kp 9 (K7 Q R5)
def K9 (Q : QT) (R5 : T5) (R9 : T9) : KT := rnd ((kp.find 1000009).getD []) (E9 R9) (K8 Q R5)
def J3 (Q : QT) (x1 : List Nat) (a0 : Pt) (n0 c0 : Nat) (e0 : Bool) (h : Zaa) : Prop := Den pg fn.ntmps (C [1, 1]) [(1, .str x1), (0, .slice a0 n0 c0 e0)] h (KR Q)
def L5 (Q : QT) (a0 : Pt) (n0 c0 : Nat) (e0 : Bool) (x1 x6 : List Nat) (x20 x21 : Int) (h : Zaa) : Prop := Zgw (Den pg fn.ntmps (C [1, 1, 1, 0, 1, 0, 0])) ((kp.find 1000005).getD []) (K2 Q) [(0, .slice a0 n0 c0 e0), (1, .str x1), (6, .str x6), (20, .int .i64 x20), (21, .int .i64 x21)] h
def L9 (Q : QT) (R5 : T5) (a0 : Pt) (n0 c0 : Nat) (e0 : Bool) (x1 x6 x8 : List Nat) (x20 x21 : Int) (a29 : Pt) (n29 c29 : Nat) (e29 : Bool) (x30 x31 : Int) (h : Zaa) : Prop := Zgw (Den pg fn.ntmps (C [1, 1, 1, 0, 1, 0, 0, 1, 1, 0, 0, 1, 1, 0, 1, 0, 0])) ((kp.find 1000009).getD []) (K8 Q R5) [(0, .slice a0 n0 c0 e0), (1, .str x1), (6, .str x6), (8, .str x8), (20, .int .i64 x20), (21, .int .i64 x21), (29, .slice a29 n29 c29 e29), (30, .int .i64 x30), (31, .int .i64 x31)] h
def A5x0 (Q : QT) (x6 : List Nat) (h : Zaa) : Prop := At (K1 Q) (.exit 0) [(6, .str x6)] h
def A9x2 (Q : QT) (R5 : T5) (x6 x8 : List Nat) (x21 x20 : Int) (x1 : List Nat) (a0 : Pt) (n0 c0 : Nat) (e0 : Bool) (h : Zaa) : Prop := At (K7 Q R5) (.exit 2) [(6, .str x6), (8, .str x8), (21, .int .i64 x21), (20, .int .i64 x20), (1, .str x1), (0, .slice a0 n0 c0 e0)] h
theorem J3i (Q : QT) (x1 : List Nat) (a0 : Pt) (n0 c0 : Nat) (e0 : Bool) (h : Zaa) (ht :
 L5 Q a0 n0 c0 e0 x1 [] (((List.length x1 : Nat) : Int)) 0 h) : J3 Q x1 a0 n0 c0 e0 h :=
  Zbe (kp := kp) (cast (by kernel_rfl) ht)
def L5t (Q : QT) (R5 : T5) (a0 : Pt) (n0 c0 : Nat) (e0 : Bool) (x1 x6 : List Nat) (x20 x21 : Int) (h : Zaa) : Prop :=
 bcase (decide ((x21 : Int) < x20)) ((0 ≤ (x21 : Int) ∧ (x21 : Int) ≤ IntKind.wrap .i64 (x21 + 1) ∧ (IntKind.wrap .i64 (x21 + 1) : Int) ≤ (List.length x1 : Nat)) ∧ (L9 Q R5 a0 n0 c0 e0 x1 x6 (sub x1 x21 (IntKind.wrap .i64 (x21 + 1))) x20 x21 a0 n0 c0 e0 (((n0 : Nat) : Int)) 0 h)) (A5x0 Q x6 h)
theorem Zwk (Q : QT) (R5 : T5) (a0 : Pt) (n0 c0 : Nat) (e0 : Bool) (x1 x6 : List Nat) (x20 x21 : Int) (h : Zaa) (ht : L5t Q R5 a0 n0 c0 e0 x1 x6 x20 x21 h) : Den pg fn.ntmps (C [1, 1, 1, 0, 1, 0, 0]) [(0, .slice a0 n0 c0 e0), (1, .str x1), (6, .str x6), (20, .int .i64 x20), (21, .int .i64 x21)] h (K3 Q R5) :=
  Zbe (kp := kp) (cast (by kernel_rfl) ht)
theorem L5ind (Q : QT) (a0 : Pt) (n0 c0 : Nat) (e0 : Bool) (x1 : List Nat) (x20 : Int) {G : Type} (J : G → List Nat → Int → Zaa → Prop) (m : G → Nat)
 (hr : ∀ (g : G) (x6 : List Nat) (x21 : Int) (h : Zaa), J g x6 x21 h → ∀ (R5 : T5), (∀ g' (x6 : List Nat) (x21 : Int) (h : Zaa), m g' < m g → J g' x6 x21 h → R5 a0 n0 c0 e0 x1 x6 x20 x21 h) → L5t Q R5 a0 n0 c0 e0 x1 x6 x20 x21 h)
 (g : G) (x6 : List Nat) (x21 : Int) (h : Zaa) (hj : J g x6 x21 h) : L5 Q a0 n0 c0 e0 x1 x6 x20 x21 h := by
  refine Zgw.inv2 (fun g => E5 fun a0' n0' c0' e0' x1' x6 x20' x21 h => a0 = a0' ∧ n0 = n0' ∧ c0 = c0' ∧ e0 = e0' ∧ x1 = x1' ∧ x20 = x20' ∧ J g x6 x21 h) (fun g => E5 fun a0' n0' c0' e0' x1' x6 x20' x21 h => a0 = a0' ∧ n0 = n0' ∧ c0 = c0' ∧ e0 = e0' ∧ x1 = x1' ∧ x20 = x20' ∧ ∃ g', m g' < m g ∧ J g' x6 x21 h) m ?_ ?_ g ⟨rfl, rfl, rfl, rfl, rfl, rfl, hj⟩
  · intro g env h hi
    obtain ⟨a0', n0', c0', e0', x1', x6, x20', x21, rfl, rfl, rfl, rfl, rfl, rfl, rfl, hj⟩ := Zlh hi
    exact Zwk Q _ a0 n0 c0 e0 x1 x6 x20 x21 h (hr g x6 x21 h hj (fun a0' n0' c0' e0' x1' x6 x20' x21 h => a0 = a0' ∧ n0 = n0' ∧ c0 = c0' ∧ e0 = e0' ∧ x1 = x1' ∧ x20 = x20' ∧ ∃ g', m g' < m g ∧ J g' x6 x21 h) fun g' x6 x21 h hlt hj => ⟨rfl, rfl, rfl, rfl, rfl, rfl, g', hlt, hj⟩)
  · intro g env h hi
    obtain ⟨a0', n0', c0', e0', x1', x6, x20', x21, rfl, rfl, rfl, rfl, rfl, rfl, rfl, g', hlt, hj⟩ := Zlh hi
    exact ⟨g', hlt, rfl, rfl, rfl, rfl, rfl, rfl, hj⟩
def L9t (Q : QT) (R5 : T5) (R9 : T9) (a0 : Pt) (n0 c0 : Nat) (e0 : Bool) (x1 x6 x8 : List Nat) (x20 x21 : Int) (a29 : Pt) (n29 c29 : Nat) (e29 : Bool) (x30 x31 : Int) (h : Zaa) : Prop :=
 bcase (decide ((x31 : Int) < x30)) ((0 ≤ (x31 : Int) ∧ (x31 : Int) < (n29 : Nat)) ∧ (Zbb a29 fun I6 O7 => Zep (Zdd h (.ptr (some (I6, O7 + (Int.toNat x31) * 2))) 2) fun K8 => Zar K8 fun C9 Z10 => Zct (some C9) fun S11 => Zar Z10 fun C12 Z13 => Zct (some C12) fun S14 => Zec Z13 (Zev (h ++ [.cells Zag [.str [], .str []] false]) fun H15 => Zcr (Zbi H15 (.ptr (some (h.length, 0))) [.str S11, .str S14]) fun H16 => Zct (Zak H16 (.ptr (some (h.length, 0 + 0)))) fun S17 => bcase (decide (S17 = x8)) (Zct (Zak H16 (.ptr (some (h.length, 0 + 1)))) fun S18 => A9x2 Q R5 x6 S18 x21 x20 x1 a0 n0 c0 e0 H16) (R9 a0 n0 c0 e0 x1 x6 x8 x20 x21 a29 n29 c29 e29 x30 (IntKind.wrap .i64 (x31 + 1)) H16)))) (A9x2 Q R5 x6 x8 x21 x20 x1 a0 n0 c0 e0 h)
theorem Ydr (Q : QT) (R5 : T5) (R9 : T9) (a0 : Pt) (n0 c0 : Nat) (e0 : Bool) (x1 x6 x8 : List Nat) (x20 x21 : Int) (a29 : Pt) (n29 c29 : Nat) (e29 : Bool) (x30 x31 : Int) (h : Zaa) (ht : L9t Q R5 R9 a0 n0 c0 e0 x1 x6 x8 x20 x21 a29 n29 c29 e29 x30 x31 h) : Den pg fn.ntmps (C [1, 1, 1, 0, 1, 0, 0, 1, 1, 0, 0, 1, 1, 0, 1, 0, 0]) [(0, .slice a0 n0 c0 e0), (1, .str x1), (6, .str x6), (8, .str x8), (20, .int .i64 x20), (21, .int .i64 x21), (29, .slice a29 n29 c29 e29), (30, .int .i64 x30), (31, .int .i64 x31)] h (K9 Q R5 R9) :=
  Zbe (kp := kp) (cast (by kernel_rfl) ht)
theorem L9ind (Q : QT) (R5 : T5) (a0 : Pt) (n0 c0 : Nat) (e0 : Bool) (x1 x6 : List Nat) (x20 x21 : Int) (a29 : Pt) (n29 c29 : Nat) (e29 : Bool) (x30 : Int) {G : Type} (J : G → List Nat → Int → Zaa → Prop) (m : G → Nat)
 (hr : ∀ (g : G) (x8 : List Nat) (x31 : Int) (h : Zaa), J g x8 x31 h → ∀ (R9 : T9), (∀ g' (x8 : List Nat) (x31 : Int) (h : Zaa), m g' < m g → J g' x8 x31 h → R9 a0 n0 c0 e0 x1 x6 x8 x20 x21 a29 n29 c29 e29 x30 x31 h) → L9t Q R5 R9 a0 n0 c0 e0 x1 x6 x8 x20 x21 a29 n29 c29 e29 x30 x31 h)
 (g : G) (x8 : List Nat) (x31 : Int) (h : Zaa) (hj : J g x8 x31 h) : L9 Q R5 a0 n0 c0 e0 x1 x6 x8 x20 x21 a29 n29 c29 e29 x30 x31 h := by
  refine Zgw.inv2 (fun g => E9 fun a0' n0' c0' e0' x1' x6' x8 x20' x21' a29' n29' c29' e29' x30' x31 h => a0 = a0' ∧ n0 = n0' ∧ c0 = c0' ∧ e0 = e0' ∧ x1 = x1' ∧ x6 = x6' ∧ x20 = x20' ∧ x21 = x21' ∧ a29 = a29' ∧ n29 = n29' ∧ c29 = c29' ∧ e29 = e29' ∧ x30 = x30' ∧ J g x8 x31 h) (fun g => E9 fun a0' n0' c0' e0' x1' x6' x8 x20' x21' a29' n29' c29' e29' x30' x31 h => a0 = a0' ∧ n0 = n0' ∧ c0 = c0' ∧ e0 = e0' ∧ x1 = x1' ∧ x6 = x6' ∧ x20 = x20' ∧ x21 = x21' ∧ a29 = a29' ∧ n29 = n29' ∧ c29 = c29' ∧ e29 = e29' ∧ x30 = x30' ∧ ∃ g', m g' < m g ∧ J g' x8 x31 h) m ?_ ?_ g ⟨rfl, rfl, rfl, rfl, rfl, rfl, rfl, rfl, rfl, rfl, rfl, rfl, rfl, hj⟩
  · intro g env h hi
    obtain ⟨a0', n0', c0', e0', x1', x6', x8, x20', x21', a29', n29', c29', e29', x30', x31, rfl, rfl, rfl, rfl, rfl, rfl, rfl, rfl, rfl, rfl, rfl, rfl, rfl, rfl, hj⟩ := Yao hi
    exact Ydr Q R5 (fun a0' n0' c0' e0' x1' x6' x8 x20' x21' a29' n29' c29' e29' x30' x31 h => a0 = a0' ∧ n0 = n0' ∧ c0 = c0' ∧ e0 = e0' ∧ x1 = x1' ∧ x6 = x6' ∧ x20 = x20' ∧ x21 = x21' ∧ a29 = a29' ∧ n29 = n29' ∧ c29 = c29' ∧ e29 = e29' ∧ x30 = x30' ∧ ∃ g', m g' < m g ∧ J g' x8 x31 h) a0 n0 c0 e0 x1 x6 x8 x20 x21 a29 n29 c29 e29 x30 x31 h (hr g x8 x31 h hj (fun a0' n0' c0' e0' x1' x6' x8 x20' x21' a29' n29' c29' e29' x30' x31 h => a0 = a0' ∧ n0 = n0' ∧ c0 = c0' ∧ e0 = e0' ∧ x1 = x1' ∧ x6 = x6' ∧ x20 = x20' ∧ x21 = x21' ∧ a29 = a29' ∧ n29 = n29' ∧ c29 = c29' ∧ e29 = e29' ∧ x30 = x30' ∧ ∃ g', m g' < m g ∧ J g' x8 x31 h) fun g' x8 x31 h hlt hj => ⟨rfl, rfl, rfl, rfl, rfl, rfl, rfl, rfl, rfl, rfl, rfl, rfl, rfl, g', hlt, hj⟩)
  · intro g env h hi
    obtain ⟨a0', n0', c0', e0', x1', x6', x8, x20', x21', a29', n29', c29', e29', x30', x31, rfl, rfl, rfl, rfl, rfl, rfl, rfl, rfl, rfl, rfl, rfl, rfl, rfl, rfl, g', hlt, hj⟩ := Yao hi
    exact ⟨g', hlt, rfl, rfl, rfl, rfl, rfl, rfl, rfl, rfl, rfl, rfl, rfl, rfl, rfl, hj⟩
theorem A5x0i (Q : QT) (x6 : List Nat) (h : Zaa) (ht :
 bcase (decide (((((List.length x6 : Nat) : Int)) : Int) > 60)) (Q (.tup [.str [], .bool false]) h) (Q (.tup [.str x6, .bool true]) h)) : A5x0 Q x6 h :=
  At.mk (cast (by kernel_rfl) ht)
theorem A9x2i (Q : QT) (R5 : T5) (x6 x8 : List Nat) (x21 x20 : Int) (x1 : List Nat) (a0 : Pt) (n0 c0 : Nat) (e0 : Bool) (h : Zaa) (ht :
 List.length x6 + List.length x8 ≤ 9223372036854775807 ∧ (R5 a0 n0 c0 e0 x1 (x6 ++ x8) x20 (IntKind.wrap .i64 (x21 + 1)) h)) : A9x2 Q R5 x6 x8 x21 x20 x1 a0 n0 c0 e0 h :=
  At.mk (cast (by kernel_rfl) ht)
theorem call (a0 : Pt) (n0 c0 : Nat) (e0 : Bool) (x1 : List Nat) (h : Zaa) (Q : QT) (ht :
 Zae pg Zcz [.slice a0 n0 c0 e0] h fun V0 H1 =>
 Zcg (some V0) fun B2 => bcase (!B2) (Q (.tup [.str [], .bool false]) H1) (Zae pg Zcx [.str x1] H1 fun V3 H4 =>
 Zcg (some V3) fun B5 => bcase (!B5) (Q (.tup [.str [], .bool false]) H4) (J3 Q x1 a0 n0 c0 e0 H4))) : Zae pg Zeb [.slice a0 n0 c0 e0, .str x1] h Q :=
  Zae.of_body kp (c := cod fn) (fn := fn) Go.Proofs.Try.func24 (by kernel_rfl) (by kernel_rfl) (Nat.le_of_ble_eq_true (by kernel_rfl))
    (cast (by kernel_rfl) ht)
end Zbc
end Go.Sim
