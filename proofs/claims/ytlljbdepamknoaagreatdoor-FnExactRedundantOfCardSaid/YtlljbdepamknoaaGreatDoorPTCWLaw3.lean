/- A part of the proof of a statement of this seat: see the text that holds the theorem. No condition. -/
import Derived.Test.YtlljbdepamknoaaGreatDoorNm
set_option linter.unusedVariables false
set_option linter.unusedSimpArgs false
set_option linter.all false
set_option maxRecDepth 100000
set_option linter.unusedVariables false
namespace Go.Sim
open Go Go.RowKit
namespace Zdt
noncomputable abbrev fn : Func := Go.Proofs.Tryz.f153
def kp : Zbz := [(3000002, [2]), (1000002, [0, 5, 6, 7]), (2000004, [36, 7, 6, 5, 0]), (4000006, [7, 6, 5, 0])]
noncomputable def C (p : List Nat) : Code := (cod fn).sub p
def KR (Q : QT) : KT := Zes pg fn.results.toList Q
abbrev T2 := Pt → Nat → Nat → Bool → Pt → Nat → Nat → Bool → Int → Int → Zaa → Prop
def E2 (R2 : T2) (env : Env) (h : Zaa) : Prop := Zbs 0 env fun v env => xSl (some v) fun a0 n0 c0 e0 => Zbs 5 env fun v env => xSl (some v) fun a5 n5 c5 e5 => Zbs 6 env fun v env => Zee .i64 v fun x6 => Zbs 7 env fun v env => Zee .i64 v fun x7 => Zje env (R2 a0 n0 c0 e0 a5 n5 c5 e5 x6 x7 h)
theorem Zdg {R2 : T2} {env : Env} {h : Zaa} (hi : E2 R2 env h) : ∃ a0, ∃ n0, ∃ c0, ∃ e0, ∃ a5, ∃ n5, ∃ c5, ∃ e5, ∃ x6, ∃ x7, env = [(0, .slice a0 n0 c0 e0), (5, .slice a5 n5 c5 e5), (6, .int .i64 x6), (7, .int .i64 x7)] ∧ R2 a0 n0 c0 e0 a5 n5 c5 e5 x6 x7 h := by
 unfold E2 at hi
 have hi0 := hi
 clear hi
 obtain ⟨_, _, rfl, hi1⟩ := Zab hi0
 obtain ⟨a0, n0, c0, e0, rfl, hi2⟩ := Zbf hi1
 obtain ⟨_, _, rfl, hi3⟩ := Zab hi2
 obtain ⟨a5, n5, c5, e5, rfl, hi4⟩ := Zbf hi3
 obtain ⟨_, _, rfl, hi5⟩ := Zab hi4
 obtain ⟨x6, rfl, hi6⟩ := Zao hi5
 obtain ⟨_, _, rfl, hi7⟩ := Zab hi6
 obtain ⟨x7, rfl, hi8⟩ := Zao hi7
 obtain ⟨rfl, hi9⟩ := Zbg hi8
 have hi := hi9
 exact ⟨a0, n0, c0, e0, a5, n5, c5, e5, x6, x7, rfl, hi⟩
def K0 (Q : QT) : KT := andThen (fun env' h' => (match kp.find 4000007 with | some ks => Den pg fn.ntmps (C [1, 1]) (env'.keep ks) h' (KR Q) | none => den pg fn.ntmps kp (C [1, 1]) env' h' (KR Q))) (KR Q)
def K1 (Q : QT) : KT := Zck 0 (K0 Q)
def K2 (Q : QT) : KT := left kp 2 (K1 Q)
def K3 (Q : QT) (R2 : T2) : KT := rnd ((kp.find 1000002).getD []) (E2 R2) (K2 Q)
def L2 (Q : QT) (a0 : Pt) (n0 c0 : Nat) (e0 : Bool) (a5 : Pt) (n5 c5 : Nat) (e5 : Bool) (x6 x7 : Int) (h : Zaa) : Prop := Zec (Den pg fn.ntmps (C [1, 0, 1, 0, 0])) ((kp.find 1000002).getD []) (K2 Q) [(0, .slice a0 n0 c0 e0), (5, .slice a5 n5 c5 e5), (6, .int .i64 x6), (7, .int .i64 x7)] h
def J6 (Q : QT) (R2 : T2) (x7 x6 : Int) (a5 : Pt) (n5 c5 : Nat) (e5 : Bool) (a0 : Pt) (n0 c0 : Nat) (e0 : Bool) (h : Zaa) : Prop := Den pg fn.ntmps (C [1, 0, 1, 0, 0, 1, 1, 1]) [(7, .int .i64 x7), (6, .int .i64 x6), (5, .slice a5 n5 c5 e5), (0, .slice a0 n0 c0 e0)] h (K3 Q R2)
def Zlg (Q : QT) (h : Zaa) : Prop := At (K1 Q) (.exit 0) [(2, .undef)] h
def L2t (Q : QT) (R2 : T2) (a0 : Pt) (n0 c0 : Nat) (e0 : Bool) (a5 : Pt) (n5 c5 : Nat) (e5 : Bool) (x6 x7 : Int) (h : Zaa) : Prop :=
 bcase (decide ((x7 : Int) < x6)) ((0 ≤ (x7 : Int) ∧ (x7 : Int) < (n5 : Nat)) ∧ (Zbl a5 fun I0 O1 => Zdh (Zbv h (.ptr (some (I0, O1 + (Int.toNat x7) * 2))) 2) fun K2 => Zap K2 fun C3 Z4 => Zbo (some C3) fun S5 => Zap Z4 fun C6 Z7 => Zbo (some C6) fun S8 => Zcr Z7 (Zdc (h ++ [.cells Zbe [.str [], .str []] false]) fun H9 => Zcp (Zbk H9 (.ptr (some (h.length, 0))) [.str S5, .str S8]) fun H10 => Zbo (Zak H10 (.ptr (some (h.length, 0 + 0)))) fun S11 => Zae pg Zlk [.str S11] H10 fun V12 H13 =>
 Zci (some V12) fun B14 => bcase (!B14) ((Zak H13 (.tup []) = Zak H13 (.tup [])) ∧ Q (.bool false) H13) (Zbo (Zak H13 (.ptr (some (h.length, 0 + 1)))) fun S15 => Zae pg Zft [.str S15] H13 fun V16 H17 =>
 Zci (some V16) fun B18 => bcase (!B18) ((Zak H17 (.tup []) = Zak H17 (.tup [])) ∧ Q (.bool false) H17) (bcase (decide ((x7 : Int) > 0)) ((0 ≤ (IntKind.wrap .i64 (x7 - 1) : Int) ∧ (IntKind.wrap .i64 (x7 - 1) : Int) < (n0 : Nat)) ∧ (Zbl a0 fun I19 O20 => Zbo (Zak H17 (.ptr (some (I19, O20 + (Int.toNat (IntKind.wrap .i64 (x7 - 1))) * 2 + 0)))) fun S21 => Zbo (Zak H17 (.ptr (some (h.length, 0 + 0)))) fun S22 => (Zak H17 (.ptr (some (I19, O20 + (Int.toNat (IntKind.wrap .i64 (x7 - 1))) * 2 + 0))) = Zak H17 (.ptr (some (I19, O20 + (Int.toNat (IntKind.wrap .i64 (x7 - 1))) * 2 + 0)))) ∧ bcase (!Zeh S21 S22) (Q (.bool false) H17) (J6 Q R2 x7 x6 a5 n5 c5 e5 a0 n0 c0 e0 H17))) ((Zak H17 (.tup []) = Zak H17 (.tup [])) ∧ J6 Q R2 x7 x6 a5 n5 c5 e5 a0 n0 c0 e0 H17)))))) (Zlg Q h)
theorem Zhn (Q : QT) (R2 : T2) (a0 : Pt) (n0 c0 : Nat) (e0 : Bool) (a5 : Pt) (n5 c5 : Nat) (e5 : Bool) (x6 x7 : Int) (h : Zaa) (ht : L2t Q R2 a0 n0 c0 e0 a5 n5 c5 e5 x6 x7 h) : Den pg fn.ntmps (C [1, 0, 1, 0, 0]) [(0, .slice a0 n0 c0 e0), (5, .slice a5 n5 c5 e5), (6, .int .i64 x6), (7, .int .i64 x7)] h (K3 Q R2) :=
 Zba (kp := kp) (cast (by kernel_rfl) ht)
theorem L2ind (Q : QT) (a0 : Pt) (n0 c0 : Nat) (e0 : Bool) (a5 : Pt) (n5 c5 : Nat) (e5 : Bool) (x6 : Int) {G : Type} (J : G → Int → Zaa → Prop) (m : G → Nat)
 (hr : ∀ (g : G) (x7 : Int) (h : Zaa), J g x7 h → ∀ (R2 : T2), (∀ g' (x7 : Int) (h : Zaa), m g' < m g → J g' x7 h → R2 a0 n0 c0 e0 a5 n5 c5 e5 x6 x7 h) → L2t Q R2 a0 n0 c0 e0 a5 n5 c5 e5 x6 x7 h)
 (g : G) (x7 : Int) (h : Zaa) (hj : J g x7 h) : L2 Q a0 n0 c0 e0 a5 n5 c5 e5 x6 x7 h := by
 refine Zec.inv2 (fun g => E2 fun a0' n0' c0' e0' a5' n5' c5' e5' x6' x7 h => a0 = a0' ∧ n0 = n0' ∧ c0 = c0' ∧ e0 = e0' ∧ a5 = a5' ∧ n5 = n5' ∧ c5 = c5' ∧ e5 = e5' ∧ x6 = x6' ∧ J g x7 h) (fun g => E2 fun a0' n0' c0' e0' a5' n5' c5' e5' x6' x7 h => a0 = a0' ∧ n0 = n0' ∧ c0 = c0' ∧ e0 = e0' ∧ a5 = a5' ∧ n5 = n5' ∧ c5 = c5' ∧ e5 = e5' ∧ x6 = x6' ∧ ∃ g', m g' < m g ∧ J g' x7 h) m ?_ ?_ g ⟨rfl, rfl, rfl, rfl, rfl, rfl, rfl, rfl, rfl, hj⟩
 ·intro g env h hi
  obtain ⟨a0', n0', c0', e0', a5', n5', c5', e5', x6', x7, rfl, rfl, rfl, rfl, rfl, rfl, rfl, rfl, rfl, rfl, hj⟩ := Zdg hi
  exact Zhn Q _ a0 n0 c0 e0 a5 n5 c5 e5 x6 x7 h (hr g x7 h hj (fun a0' n0' c0' e0' a5' n5' c5' e5' x6' x7 h => a0 = a0' ∧ n0 = n0' ∧ c0 = c0' ∧ e0 = e0' ∧ a5 = a5' ∧ n5 = n5' ∧ c5 = c5' ∧ e5 = e5' ∧ x6 = x6' ∧ ∃ g', m g' < m g ∧ J g' x7 h) fun g' x7 h hlt hj => ⟨rfl, rfl, rfl, rfl, rfl, rfl, rfl, rfl, rfl, g', hlt, hj⟩)
 ·intro g env h hi
  obtain ⟨a0', n0', c0', e0', a5', n5', c5', e5', x6', x7, rfl, rfl, rfl, rfl, rfl, rfl, rfl, rfl, rfl, rfl, g', hlt, hj⟩ := Zdg hi
  exact ⟨g', hlt, rfl, rfl, rfl, rfl, rfl, rfl, rfl, rfl, rfl, hj⟩
theorem J6i (Q : QT) (R2 : T2) (x7 x6 : Int) (a5 : Pt) (n5 c5 : Nat) (e5 : Bool) (a0 : Pt) (n0 c0 : Nat) (e0 : Bool) (h : Zaa) (ht :
 R2 a0 n0 c0 e0 a5 n5 c5 e5 x6 (IntKind.wrap .i64 (x7 + 1)) h) : J6 Q R2 x7 x6 a5 n5 c5 e5 a0 n0 c0 e0 h :=
 Zba (kp := kp) (cast (by kernel_rfl) ht)
theorem A2x0i (Q : QT) (h : Zaa) (ht :
 Q (.bool true) h) : Zlg Q h :=
 At.mk (cast (by kernel_rfl) ht)
theorem call (a0 : Pt) (n0 c0 : Nat) (e0 : Bool) (h : Zaa) (Q : QT) (ht :
 L2 Q a0 n0 c0 e0 a0 n0 c0 e0 (((n0 : Nat) : Int)) 0 h) : Zae pg Zij [.slice a0 n0 c0 e0] h Q :=
 Zae.of_body kp (c := cod fn) (fn := fn) Go.Proofs.Tryz.func153 (by kernel_rfl) (by kernel_rfl) (Nat.le_of_ble_eq_true (by kernel_rfl))
  (cast (by kernel_rfl) ht)
end Zdt
namespace Zcu
noncomputable abbrev fn : Func := Go.Proofs.Tryz.f130
def kp : Zbz := [(4000003, [1, 0]), (3000005, [6]), (1000005, [0, 1, 6, 20, 21]), (3000009, [6, 8, 21, 20, 1, 0]), (1000009, [0, 1, 6, 8, 20, 21, 29, 30, 31])]
noncomputable def C (p : List Nat) : Code := (cod fn).sub p
def KR (Q : QT) : KT := Zes pg fn.results.toList Q
abbrev T5 := Pt → Nat → Nat → Bool → List Nat → List Nat → Int → Int → Zaa → Prop
def E5 (R5 : T5) (env : Env) (h : Zaa) : Prop := Zbs 0 env fun v env => xSl (some v) fun a0 n0 c0 e0 => Zbs 1 env fun v env => Zbo (some v) fun x1 => Zbs 6 env fun v env => Zbo (some v) fun x6 => Zbs 20 env fun v env => Zee .i64 v fun x20 => Zbs 21 env fun v env => Zee .i64 v fun x21 => Zje env (R5 a0 n0 c0 e0 x1 x6 x20 x21 h)
theorem Zgi {R5 : T5} {env : Env} {h : Zaa} (hi : E5 R5 env h) : ∃ a0, ∃ n0, ∃ c0, ∃ e0, ∃ x1, ∃ x6, ∃ x20, ∃ x21, env = [(0, .slice a0 n0 c0 e0), (1, .str x1), (6, .str x6), (20, .int .i64 x20), (21, .int .i64 x21)] ∧ R5 a0 n0 c0 e0 x1 x6 x20 x21 h := by
 unfold E5 at hi
 have hi0 := hi
 clear hi
 obtain ⟨_, _, rfl, hi1⟩ := Zab hi0
 obtain ⟨a0, n0, c0, e0, rfl, hi2⟩ := Zbf hi1
 obtain ⟨_, _, rfl, hi3⟩ := Zab hi2
 obtain ⟨x1, rfl, hi4⟩ := Zel hi3
 obtain ⟨_, _, rfl, hi5⟩ := Zab hi4
 obtain ⟨x6, rfl, hi6⟩ := Zel hi5
 obtain ⟨_, _, rfl, hi7⟩ := Zab hi6
 obtain ⟨x20, rfl, hi8⟩ := Zao hi7
 obtain ⟨_, _, rfl, hi9⟩ := Zab hi8
 obtain ⟨x21, rfl, hi10⟩ := Zao hi9
 obtain ⟨rfl, hi11⟩ := Zbg hi10
 have hi := hi11
 exact ⟨a0, n0, c0, e0, x1, x6, x20, x21, rfl, hi⟩
abbrev T9 := Pt → Nat → Nat → Bool → List Nat → List Nat → List Nat → Int → Int → Pt → Nat → Nat → Bool → Int → Int → Zaa → Prop
def E9 (R9 : T9) (env : Env) (h : Zaa) : Prop := Zbs 0 env fun v env => xSl (some v) fun a0 n0 c0 e0 => Zbs 1 env fun v env => Zbo (some v) fun x1 => Zbs 6 env fun v env => Zbo (some v) fun x6 => Zbs 8 env fun v env => Zbo (some v) fun x8 => Zbs 20 env fun v env => Zee .i64 v fun x20 => Zbs 21 env fun v env => Zee .i64 v fun x21 => Zbs 29 env fun v env => xSl (some v) fun a29 n29 c29 e29 => Zbs 30 env fun v env => Zee .i64 v fun x30 => Zbs 31 env fun v env => Zee .i64 v fun x31 => Zje env (R9 a0 n0 c0 e0 x1 x6 x8 x20 x21 a29 n29 c29 e29 x30 x31 h)
theorem Zun {R9 : T9} {env : Env} {h : Zaa} (hi : E9 R9 env h) : ∃ a0, ∃ n0, ∃ c0, ∃ e0, ∃ x1, ∃ x6, ∃ x8, ∃ x20, ∃ x21, ∃ a29, ∃ n29, ∃ c29, ∃ e29, ∃ x30, ∃ x31, env = [(0, .slice a0 n0 c0 e0), (1, .str x1), (6, .str x6), (8, .str x8), (20, .int .i64 x20), (21, .int .i64 x21), (29, .slice a29 n29 c29 e29), (30, .int .i64 x30), (31, .int .i64 x31)] ∧ R9 a0 n0 c0 e0 x1 x6 x8 x20 x21 a29 n29 c29 e29 x30 x31 h := by
 unfold E9 at hi
 have hi0 := hi
 clear hi
 obtain ⟨_, _, rfl, hi1⟩ := Zab hi0
 obtain ⟨a0, n0, c0, e0, rfl, hi2⟩ := Zbf hi1
 obtain ⟨_, _, rfl, hi3⟩ := Zab hi2
 obtain ⟨x1, rfl, hi4⟩ := Zel hi3
 obtain ⟨_, _, rfl, hi5⟩ := Zab hi4
 obtain ⟨x6, rfl, hi6⟩ := Zel hi5
 obtain ⟨_, _, rfl, hi7⟩ := Zab hi6
 obtain ⟨x8, rfl, hi8⟩ := Zel hi7
 obtain ⟨_, _, rfl, hi9⟩ := Zab hi8
 obtain ⟨x20, rfl, hi10⟩ := Zao hi9
 obtain ⟨_, _, rfl, hi11⟩ := Zab hi10
 obtain ⟨x21, rfl, hi12⟩ := Zao hi11
 obtain ⟨_, _, rfl, hi13⟩ := Zab hi12
 obtain ⟨a29, n29, c29, e29, rfl, hi14⟩ := Zbf hi13
 obtain ⟨_, _, rfl, hi15⟩ := Zab hi14
 obtain ⟨x30, rfl, hi16⟩ := Zao hi15
 obtain ⟨_, _, rfl, hi17⟩ := Zab hi16
 obtain ⟨x31, rfl, hi18⟩ := Zao hi17
 obtain ⟨rfl, hi19⟩ := Zbg hi18
 have hi := hi19
 exact ⟨a0, n0, c0, e0, x1, x6, x8, x20, x21, a29, n29, c29, e29, x30, x31, rfl, hi⟩
def K0 (Q : QT) : KT := andThen (fun env' h' => (match kp.find 4000016 with | some ks => Den pg fn.ntmps (C [1, 1, 1, 1]) (env'.keep ks) h' (KR Q) | none => den pg fn.ntmps kp (C [1, 1, 1, 1]) env' h' (KR Q))) (KR Q)
def K1 (Q : QT) : KT := Zck 0 (K0 Q)
def K2 (Q : QT) : KT := left kp 5 (K1 Q)
def K3 (Q : QT) (R5 : T5) : KT := rnd ((kp.find 1000005).getD []) (E5 R5) (K2 Q)
def K4 (Q : QT) (R5 : T5) : KT := andThen (fun env' h' => (match kp.find 4000015 with | some ks => Den pg fn.ntmps (C [1, 1, 1, 0, 1, 0, 0, 1, 1, 1]) (env'.keep ks) h' (K3 Q R5) | none => den pg fn.ntmps kp (C [1, 1, 1, 0, 1, 0, 0, 1, 1, 1]) env' h' (K3 Q R5))) (K3 Q R5)
def K5 (Q : QT) (R5 : T5) : KT := Zck 1 (K4 Q R5)
def K6 (Q : QT) (R5 : T5) : KT := andThen (fun env' h' => (match kp.find 4000014 with | some ks => Den pg fn.ntmps (C [1, 1, 1, 0, 1, 0, 0, 1, 1, 0, 0, 1, 1, 1]) (env'.keep ks) h' (K5 Q R5) | none => den pg fn.ntmps kp (C [1, 1, 1, 0, 1, 0, 0, 1, 1, 0, 0, 1, 1, 1]) env' h' (K5 Q R5))) (K5 Q R5)
def K7 (Q : QT) (R5 : T5) : KT := Zck 2 (K6 Q R5)
def K8 (Q : QT) (R5 : T5) : KT := left kp 9 (K7 Q R5)
def K9 (Q : QT) (R5 : T5) (R9 : T9) : KT := rnd ((kp.find 1000009).getD []) (E9 R9) (K8 Q R5)
def J3 (Q : QT) (x1 : List Nat) (a0 : Pt) (n0 c0 : Nat) (e0 : Bool) (h : Zaa) : Prop := Den pg fn.ntmps (C [1, 1]) [(1, .str x1), (0, .slice a0 n0 c0 e0)] h (KR Q)
def L5 (Q : QT) (a0 : Pt) (n0 c0 : Nat) (e0 : Bool) (x1 x6 : List Nat) (x20 x21 : Int) (h : Zaa) : Prop := Zec (Den pg fn.ntmps (C [1, 1, 1, 0, 1, 0, 0])) ((kp.find 1000005).getD []) (K2 Q) [(0, .slice a0 n0 c0 e0), (1, .str x1), (6, .str x6), (20, .int .i64 x20), (21, .int .i64 x21)] h
def L9 (Q : QT) (R5 : T5) (a0 : Pt) (n0 c0 : Nat) (e0 : Bool) (x1 x6 x8 : List Nat) (x20 x21 : Int) (a29 : Pt) (n29 c29 : Nat) (e29 : Bool) (x30 x31 : Int) (h : Zaa) : Prop := Zec (Den pg fn.ntmps (C [1, 1, 1, 0, 1, 0, 0, 1, 1, 0, 0, 1, 1, 0, 1, 0, 0])) ((kp.find 1000009).getD []) (K8 Q R5) [(0, .slice a0 n0 c0 e0), (1, .str x1), (6, .str x6), (8, .str x8), (20, .int .i64 x20), (21, .int .i64 x21), (29, .slice a29 n29 c29 e29), (30, .int .i64 x30), (31, .int .i64 x31)] h
def A5x0 (Q : QT) (x6 : List Nat) (h : Zaa) : Prop := At (K1 Q) (.exit 0) [(6, .str x6)] h
def A9x2 (Q : QT) (R5 : T5) (x6 x8 : List Nat) (x21 x20 : Int) (x1 : List Nat) (a0 : Pt) (n0 c0 : Nat) (e0 : Bool) (h : Zaa) : Prop := At (K7 Q R5) (.exit 2) [(6, .str x6), (8, .str x8), (21, .int .i64 x21), (20, .int .i64 x20), (1, .str x1), (0, .slice a0 n0 c0 e0)] h
theorem J3i (Q : QT) (x1 : List Nat) (a0 : Pt) (n0 c0 : Nat) (e0 : Bool) (h : Zaa) (ht :
 L5 Q a0 n0 c0 e0 x1 [] (((List.length x1 : Nat) : Int)) 0 h) : J3 Q x1 a0 n0 c0 e0 h :=
 Zba (kp := kp) (cast (by kernel_rfl) ht)
def L5t (Q : QT) (R5 : T5) (a0 : Pt) (n0 c0 : Nat) (e0 : Bool) (x1 x6 : List Nat) (x20 x21 : Int) (h : Zaa) : Prop :=
 bcase (decide ((x21 : Int) < x20)) ((0 ≤ (x21 : Int) ∧ (x21 : Int) ≤ IntKind.wrap .i64 (x21 + 1) ∧ (IntKind.wrap .i64 (x21 + 1) : Int) ≤ (List.length x1 : Nat)) ∧ (L9 Q R5 a0 n0 c0 e0 x1 x6 (sub x1 x21 (IntKind.wrap .i64 (x21 + 1))) x20 x21 a0 n0 c0 e0 (((n0 : Nat) : Int)) 0 h)) (A5x0 Q x6 h)
theorem Zqg (Q : QT) (R5 : T5) (a0 : Pt) (n0 c0 : Nat) (e0 : Bool) (x1 x6 : List Nat) (x20 x21 : Int) (h : Zaa) (ht : L5t Q R5 a0 n0 c0 e0 x1 x6 x20 x21 h) : Den pg fn.ntmps (C [1, 1, 1, 0, 1, 0, 0]) [(0, .slice a0 n0 c0 e0), (1, .str x1), (6, .str x6), (20, .int .i64 x20), (21, .int .i64 x21)] h (K3 Q R5) :=
 Zba (kp := kp) (cast (by kernel_rfl) ht)
theorem L5ind (Q : QT) (a0 : Pt) (n0 c0 : Nat) (e0 : Bool) (x1 : List Nat) (x20 : Int) {G : Type} (J : G → List Nat → Int → Zaa → Prop) (m : G → Nat)
 (hr : ∀ (g : G) (x6 : List Nat) (x21 : Int) (h : Zaa), J g x6 x21 h → ∀ (R5 : T5), (∀ g' (x6 : List Nat) (x21 : Int) (h : Zaa), m g' < m g → J g' x6 x21 h → R5 a0 n0 c0 e0 x1 x6 x20 x21 h) → L5t Q R5 a0 n0 c0 e0 x1 x6 x20 x21 h)
 (g : G) (x6 : List Nat) (x21 : Int) (h : Zaa) (hj : J g x6 x21 h) : L5 Q a0 n0 c0 e0 x1 x6 x20 x21 h := by
 refine Zec.inv2 (fun g => E5 fun a0' n0' c0' e0' x1' x6 x20' x21 h => a0 = a0' ∧ n0 = n0' ∧ c0 = c0' ∧ e0 = e0' ∧ x1 = x1' ∧ x20 = x20' ∧ J g x6 x21 h) (fun g => E5 fun a0' n0' c0' e0' x1' x6 x20' x21 h => a0 = a0' ∧ n0 = n0' ∧ c0 = c0' ∧ e0 = e0' ∧ x1 = x1' ∧ x20 = x20' ∧ ∃ g', m g' < m g ∧ J g' x6 x21 h) m ?_ ?_ g ⟨rfl, rfl, rfl, rfl, rfl, rfl, hj⟩
 ·intro g env h hi
  obtain ⟨a0', n0', c0', e0', x1', x6, x20', x21, rfl, rfl, rfl, rfl, rfl, rfl, rfl, hj⟩ := Zgi hi
  exact Zqg Q _ a0 n0 c0 e0 x1 x6 x20 x21 h (hr g x6 x21 h hj (fun a0' n0' c0' e0' x1' x6 x20' x21 h => a0 = a0' ∧ n0 = n0' ∧ c0 = c0' ∧ e0 = e0' ∧ x1 = x1' ∧ x20 = x20' ∧ ∃ g', m g' < m g ∧ J g' x6 x21 h) fun g' x6 x21 h hlt hj => ⟨rfl, rfl, rfl, rfl, rfl, rfl, g', hlt, hj⟩)
 ·intro g env h hi
  obtain ⟨a0', n0', c0', e0', x1', x6, x20', x21, rfl, rfl, rfl, rfl, rfl, rfl, rfl, g', hlt, hj⟩ := Zgi hi
  exact ⟨g', hlt, rfl, rfl, rfl, rfl, rfl, rfl, hj⟩
def L9t (Q : QT) (R5 : T5) (R9 : T9) (a0 : Pt) (n0 c0 : Nat) (e0 : Bool) (x1 x6 x8 : List Nat) (x20 x21 : Int) (a29 : Pt) (n29 c29 : Nat) (e29 : Bool) (x30 x31 : Int) (h : Zaa) : Prop :=
 bcase (decide ((x31 : Int) < x30)) ((0 ≤ (x31 : Int) ∧ (x31 : Int) < (n29 : Nat)) ∧ (Zbl a29 fun I6 O7 => Zdh (Zbv h (.ptr (some (I6, O7 + (Int.toNat x31) * 2))) 2) fun K8 => Zap K8 fun C9 Z10 => Zbo (some C9) fun S11 => Zap Z10 fun C12 Z13 => Zbo (some C12) fun S14 => Zcr Z13 (Zdc (h ++ [.cells Zbe [.str [], .str []] false]) fun H15 => Zcp (Zbk H15 (.ptr (some (h.length, 0))) [.str S11, .str S14]) fun H16 => Zbo (Zak H16 (.ptr (some (h.length, 0 + 0)))) fun S17 => bcase (decide (S17 = x8)) (Zbo (Zak H16 (.ptr (some (h.length, 0 + 1)))) fun S18 => A9x2 Q R5 x6 S18 x21 x20 x1 a0 n0 c0 e0 H16) (R9 a0 n0 c0 e0 x1 x6 x8 x20 x21 a29 n29 c29 e29 x30 (IntKind.wrap .i64 (x31 + 1)) H16)))) (A9x2 Q R5 x6 x8 x21 x20 x1 a0 n0 c0 e0 h)
theorem Yjm (Q : QT) (R5 : T5) (R9 : T9) (a0 : Pt) (n0 c0 : Nat) (e0 : Bool) (x1 x6 x8 : List Nat) (x20 x21 : Int) (a29 : Pt) (n29 c29 : Nat) (e29 : Bool) (x30 x31 : Int) (h : Zaa) (ht : L9t Q R5 R9 a0 n0 c0 e0 x1 x6 x8 x20 x21 a29 n29 c29 e29 x30 x31 h) : Den pg fn.ntmps (C [1, 1, 1, 0, 1, 0, 0, 1, 1, 0, 0, 1, 1, 0, 1, 0, 0]) [(0, .slice a0 n0 c0 e0), (1, .str x1), (6, .str x6), (8, .str x8), (20, .int .i64 x20), (21, .int .i64 x21), (29, .slice a29 n29 c29 e29), (30, .int .i64 x30), (31, .int .i64 x31)] h (K9 Q R5 R9) :=
 Zba (kp := kp) (cast (by kernel_rfl) ht)
theorem L9ind (Q : QT) (R5 : T5) (a0 : Pt) (n0 c0 : Nat) (e0 : Bool) (x1 x6 : List Nat) (x20 x21 : Int) (a29 : Pt) (n29 c29 : Nat) (e29 : Bool) (x30 : Int) {G : Type} (J : G → List Nat → Int → Zaa → Prop) (m : G → Nat)
 (hr : ∀ (g : G) (x8 : List Nat) (x31 : Int) (h : Zaa), J g x8 x31 h → ∀ (R9 : T9), (∀ g' (x8 : List Nat) (x31 : Int) (h : Zaa), m g' < m g → J g' x8 x31 h → R9 a0 n0 c0 e0 x1 x6 x8 x20 x21 a29 n29 c29 e29 x30 x31 h) → L9t Q R5 R9 a0 n0 c0 e0 x1 x6 x8 x20 x21 a29 n29 c29 e29 x30 x31 h)
 (g : G) (x8 : List Nat) (x31 : Int) (h : Zaa) (hj : J g x8 x31 h) : L9 Q R5 a0 n0 c0 e0 x1 x6 x8 x20 x21 a29 n29 c29 e29 x30 x31 h := by
 refine Zec.inv2 (fun g => E9 fun a0' n0' c0' e0' x1' x6' x8 x20' x21' a29' n29' c29' e29' x30' x31 h => a0 = a0' ∧ n0 = n0' ∧ c0 = c0' ∧ e0 = e0' ∧ x1 = x1' ∧ x6 = x6' ∧ x20 = x20' ∧ x21 = x21' ∧ a29 = a29' ∧ n29 = n29' ∧ c29 = c29' ∧ e29 = e29' ∧ x30 = x30' ∧ J g x8 x31 h) (fun g => E9 fun a0' n0' c0' e0' x1' x6' x8 x20' x21' a29' n29' c29' e29' x30' x31 h => a0 = a0' ∧ n0 = n0' ∧ c0 = c0' ∧ e0 = e0' ∧ x1 = x1' ∧ x6 = x6' ∧ x20 = x20' ∧ x21 = x21' ∧ a29 = a29' ∧ n29 = n29' ∧ c29 = c29' ∧ e29 = e29' ∧ x30 = x30' ∧ ∃ g', m g' < m g ∧ J g' x8 x31 h) m ?_ ?_ g ⟨rfl, rfl, rfl, rfl, rfl, rfl, rfl, rfl, rfl, rfl, rfl, rfl, rfl, hj⟩
 ·intro g env h hi
  obtain ⟨a0', n0', c0', e0', x1', x6', x8, x20', x21', a29', n29', c29', e29', x30', x31, rfl, rfl, rfl, rfl, rfl, rfl, rfl, rfl, rfl, rfl, rfl, rfl, rfl, rfl, hj⟩ := Zun hi
  exact Yjm Q R5 (fun a0' n0' c0' e0' x1' x6' x8 x20' x21' a29' n29' c29' e29' x30' x31 h => a0 = a0' ∧ n0 = n0' ∧ c0 = c0' ∧ e0 = e0' ∧ x1 = x1' ∧ x6 = x6' ∧ x20 = x20' ∧ x21 = x21' ∧ a29 = a29' ∧ n29 = n29' ∧ c29 = c29' ∧ e29 = e29' ∧ x30 = x30' ∧ ∃ g', m g' < m g ∧ J g' x8 x31 h) a0 n0 c0 e0 x1 x6 x8 x20 x21 a29 n29 c29 e29 x30 x31 h (hr g x8 x31 h hj (fun a0' n0' c0' e0' x1' x6' x8 x20' x21' a29' n29' c29' e29' x30' x31 h => a0 = a0' ∧ n0 = n0' ∧ c0 = c0' ∧ e0 = e0' ∧ x1 = x1' ∧ x6 = x6' ∧ x20 = x20' ∧ x21 = x21' ∧ a29 = a29' ∧ n29 = n29' ∧ c29 = c29' ∧ e29 = e29' ∧ x30 = x30' ∧ ∃ g', m g' < m g ∧ J g' x8 x31 h) fun g' x8 x31 h hlt hj => ⟨rfl, rfl, rfl, rfl, rfl, rfl, rfl, rfl, rfl, rfl, rfl, rfl, rfl, g', hlt, hj⟩)
 ·intro g env h hi
  obtain ⟨a0', n0', c0', e0', x1', x6', x8, x20', x21', a29', n29', c29', e29', x30', x31, rfl, rfl, rfl, rfl, rfl, rfl, rfl, rfl, rfl, rfl, rfl, rfl, rfl, rfl, g', hlt, hj⟩ := Zun hi
  exact ⟨g', hlt, rfl, rfl, rfl, rfl, rfl, rfl, rfl, rfl, rfl, rfl, rfl, rfl, rfl, hj⟩
theorem A5x0i (Q : QT) (x6 : List Nat) (h : Zaa) (ht :
 bcase (decide (((((List.length x6 : Nat) : Int)) : Int) > 60)) (Q (.tup [.str [], .bool false]) h) (Q (.tup [.str x6, .bool true]) h)) : A5x0 Q x6 h :=
 At.mk (cast (by kernel_rfl) ht)
theorem A9x2i (Q : QT) (R5 : T5) (x6 x8 : List Nat) (x21 x20 : Int) (x1 : List Nat) (a0 : Pt) (n0 c0 : Nat) (e0 : Bool) (h : Zaa) (ht :
 List.length x6 + List.length x8 ≤ 9223372036854775807 ∧ (R5 a0 n0 c0 e0 x1 (x6 ++ x8) x20 (IntKind.wrap .i64 (x21 + 1)) h)) : A9x2 Q R5 x6 x8 x21 x20 x1 a0 n0 c0 e0 h :=
 At.mk (cast (by kernel_rfl) ht)
theorem call (a0 : Pt) (n0 c0 : Nat) (e0 : Bool) (x1 : List Nat) (h : Zaa) (Q : QT) (ht :
 Zae pg Zij [.slice a0 n0 c0 e0] h fun V0 H1 =>
 Zci (some V0) fun B2 => bcase (!B2) (Q (.tup [.str [], .bool false]) H1) (Zae pg Zft [.str x1] H1 fun V3 H4 =>
 Zci (some V3) fun B5 => bcase (!B5) (Q (.tup [.str [], .bool false]) H4) (J3 Q x1 a0 n0 c0 e0 H4))) : Zae pg Zil [.slice a0 n0 c0 e0, .str x1] h Q :=
 Zae.of_body kp (c := cod fn) (fn := fn) Go.Proofs.Tryz.func130 (by kernel_rfl) (by kernel_rfl) (Nat.le_of_ble_eq_true (by kernel_rfl))
  (cast (by kernel_rfl) ht)
end Zcu
namespace Zdf
noncomputable abbrev fn : Func := Go.Proofs.Tryz.f94
def kp : Zbz := [(3000004, [7, 8]), (1000004, [6, 7, 8, 23, 24, 25]), (4000008, [8, 10, 11, 25, 24, 23, 6, 7]), (4000009, [25, 24, 23, 6, 7, 8])]
noncomputable def C (p : List Nat) : Code := (cod fn).sub p
def KR (Q : QT) : KT := Zes pg fn.results.toList Q
abbrev T4 := Pt → Nat → Nat → Bool → Bool → Pt → Nat → Nat → Bool → Pt → Nat → Nat → Bool → Int → Int → Zaa → Prop
def E4 (R4 : T4) (env : Env) (h : Zaa) : Prop := Zbs 6 env fun v env => xSl (some v) fun a6 n6 c6 e6 => Zbs 7 env fun v env => Zci (some v) fun x7 => Zbs 8 env fun v env => xSl (some v) fun a8 n8 c8 e8 => Zbs 23 env fun v env => xSl (some v) fun a23 n23 c23 e23 => Zbs 24 env fun v env => Zee .i64 v fun x24 => Zbs 25 env fun v env => Zee .i64 v fun x25 => Zje env (R4 a6 n6 c6 e6 x7 a8 n8 c8 e8 a23 n23 c23 e23 x24 x25 h)
theorem Zhp {R4 : T4} {env : Env} {h : Zaa} (hi : E4 R4 env h) : ∃ a6, ∃ n6, ∃ c6, ∃ e6, ∃ x7, ∃ a8, ∃ n8, ∃ c8, ∃ e8, ∃ a23, ∃ n23, ∃ c23, ∃ e23, ∃ x24, ∃ x25, env = [(6, .slice a6 n6 c6 e6), (7, .bool x7), (8, .slice a8 n8 c8 e8), (23, .slice a23 n23 c23 e23), (24, .int .i64 x24), (25, .int .i64 x25)] ∧ R4 a6 n6 c6 e6 x7 a8 n8 c8 e8 a23 n23 c23 e23 x24 x25 h := by
 unfold E4 at hi
 have hi0 := hi
 clear hi
 obtain ⟨_, _, rfl, hi1⟩ := Zab hi0
 obtain ⟨a6, n6, c6, e6, rfl, hi2⟩ := Zbf hi1
 obtain ⟨_, _, rfl, hi3⟩ := Zab hi2
 obtain ⟨x7, rfl, hi4⟩ := Zyp hi3
 obtain ⟨_, _, rfl, hi5⟩ := Zab hi4
 obtain ⟨a8, n8, c8, e8, rfl, hi6⟩ := Zbf hi5
 obtain ⟨_, _, rfl, hi7⟩ := Zab hi6
 obtain ⟨a23, n23, c23, e23, rfl, hi8⟩ := Zbf hi7
 obtain ⟨_, _, rfl, hi9⟩ := Zab hi8
 obtain ⟨x24, rfl, hi10⟩ := Zao hi9
 obtain ⟨_, _, rfl, hi11⟩ := Zab hi10
 obtain ⟨x25, rfl, hi12⟩ := Zao hi11
 obtain ⟨rfl, hi13⟩ := Zbg hi12
 have hi := hi13
 exact ⟨a6, n6, c6, e6, x7, a8, n8, c8, e8, a23, n23, c23, e23, x24, x25, rfl, hi⟩
def K0 (Q : QT) : KT := andThen (fun env' h' => (match kp.find 4000010 with | some ks => Den pg fn.ntmps (C [1, 1, 1, 1]) (env'.keep ks) h' (KR Q) | none => den pg fn.ntmps kp (C [1, 1, 1, 1]) env' h' (KR Q))) (KR Q)
def K1 (Q : QT) : KT := Zck 0 (K0 Q)
def K2 (Q : QT) : KT := left kp 4 (K1 Q)
def K3 (Q : QT) (R4 : T4) : KT := rnd ((kp.find 1000004).getD []) (E4 R4) (K2 Q)
def K4 (Q : QT) (R4 : T4) : KT := andThen (fun env' h' => (match kp.find 4000009 with | some ks => Den pg fn.ntmps (C [1, 1, 1, 0, 1, 0, 0, 1, 1, 1]) (env'.keep ks) h' (K3 Q R4) | none => den pg fn.ntmps kp (C [1, 1, 1, 0, 1, 0, 0, 1, 1, 1]) env' h' (K3 Q R4))) (K3 Q R4)
def K5 (Q : QT) (R4 : T4) : KT := Zck 1 (K4 Q R4)
def L4 (Q : QT) (a6 : Pt) (n6 c6 : Nat) (e6 x7 : Bool) (a8 : Pt) (n8 c8 : Nat) (e8 : Bool) (a23 : Pt) (n23 c23 : Nat) (e23 : Bool) (x24 x25 : Int) (h : Zaa) : Prop := Zec (Den pg fn.ntmps (C [1, 1, 1, 0, 1, 0, 0])) ((kp.find 1000004).getD []) (K2 Q) [(6, .slice a6 n6 c6 e6), (7, .bool x7), (8, .slice a8 n8 c8 e8), (23, .slice a23 n23 c23 e23), (24, .int .i64 x24), (25, .int .i64 x25)] h
def J8 (Q : QT) (R4 : T4) (a8 : Pt) (n8 c8 : Nat) (e8 : Bool) (i10 o10 : Nat) (x11 : List Nat) (x25 x24 : Int) (a23 : Pt) (n23 c23 : Nat) (e23 : Bool) (a6 : Pt) (n6 c6 : Nat) (e6 x7 : Bool) (h : Zaa) : Prop := Den pg fn.ntmps (C [1, 1, 1, 0, 1, 0, 0, 1, 1, 0, 0, 1, 1, 1]) [(8, .slice a8 n8 c8 e8), (10, .ptr (some (i10, o10))), (11, .str x11), (25, .int .i64 x25), (24, .int .i64 x24), (23, .slice a23 n23 c23 e23), (6, .slice a6 n6 c6 e6), (7, .bool x7)] h (K5 Q R4)
def Zwn (Q : QT) (x7 : Bool) (a8 : Pt) (n8 c8 : Nat) (e8 : Bool) (h : Zaa) : Prop := At (K1 Q) (.exit 0) [(7, .bool x7), (8, .slice a8 n8 c8 e8)] h
def J9 (Q : QT) (R4 : T4) (x25 x24 : Int) (a23 : Pt) (n23 c23 : Nat) (e23 : Bool) (a6 : Pt) (n6 c6 : Nat) (e6 x7 : Bool) (a8 : Pt) (n8 c8 : Nat) (e8 : Bool) (h : Zaa) : Prop := Den pg fn.ntmps (C [1, 1, 1, 0, 1, 0, 0, 1, 1, 1]) [(25, .int .i64 x25), (24, .int .i64 x24), (23, .slice a23 n23 c23 e23), (6, .slice a6 n6 c6 e6), (7, .bool x7), (8, .slice a8 n8 c8 e8)] h (K3 Q R4)
def L4t (Q : QT) (R4 : T4) (a6 : Pt) (n6 c6 : Nat) (e6 x7 : Bool) (a8 : Pt) (n8 c8 : Nat) (e8 : Bool) (a23 : Pt) (n23 c23 : Nat) (e23 : Bool) (x24 x25 : Int) (h : Zaa) : Prop :=
 bcase (decide ((x25 : Int) < x24)) ((0 ≤ (x25 : Int) ∧ (x25 : Int) < (n23 : Nat)) ∧ (Zbl a23 fun I19 O20 => Zdh (Zbv h (.ptr (some (I19, O20 + (Int.toNat x25) * 2))) 2) fun K21 => Zap K21 fun C22 Z23 => Zbo (some C22) fun S24 => Zap Z23 fun C25 Z26 => Zbo (some C25) fun S27 => Zcr Z26 (Zdc (h ++ [.cells Zaj [.str [], .str []] false]) fun H28 => Zcp (Zbk H28 (.ptr (some (h.length, 0))) [.str S24, .str S27]) fun H29 => Zbo (Zak H29 (.ptr (some (h.length, 0 + 1)))) fun S30 => Zae pg Zil [.slice a6 n6 c6 e6, .str S30] H29 fun V31 H32 =>
 Zva V31 fun K33 => Zap K33 fun C34 Z35 => Zbo (some C34) fun S36 => Zap Z35 fun C37 Z38 => Zci (some C37) fun B39 => Zcr Z38 (bcase x7 (J8 Q R4 a8 n8 c8 e8 h.length 0 S36 x25 x24 a23 n23 c23 e23 a6 n6 c6 e6 B39 H32) (J8 Q R4 a8 n8 c8 e8 h.length 0 S36 x25 x24 a23 n23 c23 e23 a6 n6 c6 e6 false H32))))) (Zwn Q x7 a8 n8 c8 e8 h)
theorem Zsc (Q : QT) (R4 : T4) (a6 : Pt) (n6 c6 : Nat) (e6 x7 : Bool) (a8 : Pt) (n8 c8 : Nat) (e8 : Bool) (a23 : Pt) (n23 c23 : Nat) (e23 : Bool) (x24 x25 : Int) (h : Zaa) (ht : L4t Q R4 a6 n6 c6 e6 x7 a8 n8 c8 e8 a23 n23 c23 e23 x24 x25 h) : Den pg fn.ntmps (C [1, 1, 1, 0, 1, 0, 0]) [(6, .slice a6 n6 c6 e6), (7, .bool x7), (8, .slice a8 n8 c8 e8), (23, .slice a23 n23 c23 e23), (24, .int .i64 x24), (25, .int .i64 x25)] h (K3 Q R4) :=
 Zba (kp := kp) (cast (by kernel_rfl) ht)
theorem L4ind (Q : QT) (a6 : Pt) (n6 c6 : Nat) (e6 : Bool) (a23 : Pt) (n23 c23 : Nat) (e23 : Bool) (x24 : Int) {G : Type} (J : G → Bool → Pt → Nat → Nat → Bool → Int → Zaa → Prop) (m : G → Nat)
 (hr : ∀ (g : G) (x7 : Bool) (a8 : Pt) (n8 c8 : Nat) (e8 : Bool) (x25 : Int) (h : Zaa), J g x7 a8 n8 c8 e8 x25 h → ∀ (R4 : T4), (∀ g' (x7 : Bool) (a8 : Pt) (n8 c8 : Nat) (e8 : Bool) (x25 : Int) (h : Zaa), m g' < m g → J g' x7 a8 n8 c8 e8 x25 h → R4 a6 n6 c6 e6 x7 a8 n8 c8 e8 a23 n23 c23 e23 x24 x25 h) → L4t Q R4 a6 n6 c6 e6 x7 a8 n8 c8 e8 a23 n23 c23 e23 x24 x25 h)
 (g : G) (x7 : Bool) (a8 : Pt) (n8 c8 : Nat) (e8 : Bool) (x25 : Int) (h : Zaa) (hj : J g x7 a8 n8 c8 e8 x25 h) : L4 Q a6 n6 c6 e6 x7 a8 n8 c8 e8 a23 n23 c23 e23 x24 x25 h := by
 refine Zec.inv2 (fun g => E4 fun a6' n6' c6' e6' x7 a8 n8 c8 e8 a23' n23' c23' e23' x24' x25 h => a6 = a6' ∧ n6 = n6' ∧ c6 = c6' ∧ e6 = e6' ∧ a23 = a23' ∧ n23 = n23' ∧ c23 = c23' ∧ e23 = e23' ∧ x24 = x24' ∧ J g x7 a8 n8 c8 e8 x25 h) (fun g => E4 fun a6' n6' c6' e6' x7 a8 n8 c8 e8 a23' n23' c23' e23' x24' x25 h => a6 = a6' ∧ n6 = n6' ∧ c6 = c6' ∧ e6 = e6' ∧ a23 = a23' ∧ n23 = n23' ∧ c23 = c23' ∧ e23 = e23' ∧ x24 = x24' ∧ ∃ g', m g' < m g ∧ J g' x7 a8 n8 c8 e8 x25 h) m ?_ ?_ g ⟨rfl, rfl, rfl, rfl, rfl, rfl, rfl, rfl, rfl, hj⟩
 ·intro g env h hi
  obtain ⟨a6', n6', c6', e6', x7, a8, n8, c8, e8, a23', n23', c23', e23', x24', x25, rfl, rfl, rfl, rfl, rfl, rfl, rfl, rfl, rfl, rfl, hj⟩ := Zhp hi
  exact Zsc Q _ a6 n6 c6 e6 x7 a8 n8 c8 e8 a23 n23 c23 e23 x24 x25 h (hr g x7 a8 n8 c8 e8 x25 h hj (fun a6' n6' c6' e6' x7 a8 n8 c8 e8 a23' n23' c23' e23' x24' x25 h => a6 = a6' ∧ n6 = n6' ∧ c6 = c6' ∧ e6 = e6' ∧ a23 = a23' ∧ n23 = n23' ∧ c23 = c23' ∧ e23 = e23' ∧ x24 = x24' ∧ ∃ g', m g' < m g ∧ J g' x7 a8 n8 c8 e8 x25 h) fun g' x7 a8 n8 c8 e8 x25 h hlt hj => ⟨rfl, rfl, rfl, rfl, rfl, rfl, rfl, rfl, rfl, g', hlt, hj⟩)
 ·intro g env h hi
  obtain ⟨a6', n6', c6', e6', x7, a8, n8, c8, e8, a23', n23', c23', e23', x24', x25, rfl, rfl, rfl, rfl, rfl, rfl, rfl, rfl, rfl, rfl, g', hlt, hj⟩ := Zhp hi
  exact ⟨g', hlt, rfl, rfl, rfl, rfl, rfl, rfl, rfl, rfl, rfl, hj⟩
theorem J8i (Q : QT) (R4 : T4) (a8 : Pt) (n8 c8 : Nat) (e8 : Bool) (i10 o10 : Nat) (x11 : List Nat) (x25 x24 : Int) (a23 : Pt) (n23 c23 : Nat) (e23 : Bool) (a6 : Pt) (n6 c6 : Nat) (e6 x7 : Bool) (h : Zaa) (ht :
 Zbo (Zak h (.ptr (some (i10, o10 + 0)))) fun S40 => Zdc (h ++ [.cells Zaj [.str S40, .str x11] false]) fun H41 => Zdd pg Zkl H41 (.slice a8 n8 c8 e8) (.slice (some (h.length, 0)) 1 1 true) fun V42 H43 => xSl (some V42) fun A44 N45 C46 E47 => J9 Q R4 x25 x24 a23 n23 c23 e23 a6 n6 c6 e6 x7 A44 N45 C46 E47 H43) : J8 Q R4 a8 n8 c8 e8 i10 o10 x11 x25 x24 a23 n23 c23 e23 a6 n6 c6 e6 x7 h :=
 Zba (kp := kp) (cast (by kernel_rfl) ht)
theorem A4x0i (Q : QT) (x7 : Bool) (a8 : Pt) (n8 c8 : Nat) (e8 : Bool) (h : Zaa) (ht :
 bcase (!x7) (Q (.tup [.slice none 0 0 true, .bool false]) h) (Q (.tup [.slice a8 n8 c8 e8, .bool true]) h)) : Zwn Q x7 a8 n8 c8 e8 h :=
 At.mk (cast (by kernel_rfl) ht)
theorem J9i (Q : QT) (R4 : T4) (x25 x24 : Int) (a23 : Pt) (n23 c23 : Nat) (e23 : Bool) (a6 : Pt) (n6 c6 : Nat) (e6 x7 : Bool) (a8 : Pt) (n8 c8 : Nat) (e8 : Bool) (h : Zaa) (ht :
 R4 a6 n6 c6 e6 x7 a8 n8 c8 e8 a23 n23 c23 e23 x24 (IntKind.wrap .i64 (x25 + 1)) h) : J9 Q R4 x25 x24 a23 n23 c23 e23 a6 n6 c6 e6 x7 a8 n8 c8 e8 h :=
 Zba (kp := kp) (cast (by kernel_rfl) ht)
theorem call (x0x0 x0x1 : List Nat) (a0x2 : Pt) (n0x2 c0x2 : Nat) (e0x2 : Bool) (x1 : List Nat) (h : Zaa) (Q : QT) (ht :
 Zdc (h ++ [.cells Zac [.str x0x0, .str x0x1, .slice a0x2 n0x2 c0x2 e0x2] false]) fun H0 => Zbo (Zak H0 (.ptr (some (h.length, 0 + 0 + 1)))) fun S1 => Zae pg Zjd [.str S1, .str x1] H0 fun V2 H3 =>
 Zva V2 fun K4 => Zap K4 fun C5 Z6 => xSl (some C5) fun A7 N8 C9 E10 => Zap Z6 fun C11 Z12 => Zci (some C11) fun B13 => Zcr Z12 (Zdc (H3 ++ [.cells Zaj [] false]) fun H14 => xSl (Zak H14 (.ptr (some (h.length, 0 + 2)))) fun A15 N16 C17 E18 => L4 Q A7 N8 C9 E10 B13 (some (H3.length, 0)) 0 0 true A15 N16 C17 E18 (((N16 : Nat) : Int)) 0 H14)) : Zae pg Zhm [.agg [.str x0x0, .str x0x1, .slice a0x2 n0x2 c0x2 e0x2], .str x1] h Q :=
 Zae.of_body kp (c := cod fn) (fn := fn) Go.Proofs.Tryz.func94 (by kernel_rfl) (by kernel_rfl) (Nat.le_of_ble_eq_true (by kernel_rfl))
  (cast (by kernel_rfl) ht)
end Zdf
end Go.Sim

set_option maxRecDepth 100000
set_option linter.unusedVariables false
namespace Go.Sim
open Go Go.RowKit
namespace Zho
noncomputable abbrev fn : Func := Go.Proofs.Tryz.f152
def kp : Zbz := [(3000003, [3]), (1000003, [0, 3, 9, 10, 11])]
noncomputable def C (p : List Nat) : Code := (cod fn).sub p
def KR (Q : QT) : KT := Zes pg fn.results.toList Q
abbrev T3 := Option Nat → Pt → Nat → Nat → Bool → Pt → Nat → Nat → Bool → Int → Int → Zaa → Prop
def E3 (R3 : T3) (env : Env) (h : Zaa) : Prop := Zbs 0 env fun v env => Yhz (some v) fun m0 => Zbs 3 env fun v env => xSl (some v) fun a3 n3 c3 e3 => Zbs 9 env fun v env => xSl (some v) fun a9 n9 c9 e9 => Zbs 10 env fun v env => Zee .i64 v fun x10 => Zbs 11 env fun v env => Zee .i64 v fun x11 => Zje env (R3 m0 a3 n3 c3 e3 a9 n9 c9 e9 x10 x11 h)
theorem Zdw {R3 : T3} {env : Env} {h : Zaa} (hi : E3 R3 env h) : ∃ m0, ∃ a3, ∃ n3, ∃ c3, ∃ e3, ∃ a9, ∃ n9, ∃ c9, ∃ e9, ∃ x10, ∃ x11, env = [(0, .map m0), (3, .slice a3 n3 c3 e3), (9, .slice a9 n9 c9 e9), (10, .int .i64 x10), (11, .int .i64 x11)] ∧ R3 m0 a3 n3 c3 e3 a9 n9 c9 e9 x10 x11 h := by
 unfold E3 at hi
 have hi0 := hi
 clear hi
 obtain ⟨_, _, rfl, hi1⟩ := Zab hi0
 obtain ⟨m0, rfl, hi2⟩ := Ybe hi1
 obtain ⟨_, _, rfl, hi3⟩ := Zab hi2
 obtain ⟨a3, n3, c3, e3, rfl, hi4⟩ := Zbf hi3
 obtain ⟨_, _, rfl, hi5⟩ := Zab hi4
 obtain ⟨a9, n9, c9, e9, rfl, hi6⟩ := Zbf hi5
 obtain ⟨_, _, rfl, hi7⟩ := Zab hi6
 obtain ⟨x10, rfl, hi8⟩ := Zao hi7
 obtain ⟨_, _, rfl, hi9⟩ := Zab hi8
 obtain ⟨x11, rfl, hi10⟩ := Zao hi9
 obtain ⟨rfl, hi11⟩ := Zbg hi10
 have hi := hi11
 exact ⟨m0, a3, n3, c3, e3, a9, n9, c9, e9, x10, x11, rfl, hi⟩
def K0 (Q : QT) : KT := andThen (fun env' h' => (match kp.find 4000007 with | some ks => Den pg fn.ntmps (C [1, 1, 1]) (env'.keep ks) h' (KR Q) | none => den pg fn.ntmps kp (C [1, 1, 1]) env' h' (KR Q))) (KR Q)
def K1 (Q : QT) : KT := Zck 0 (K0 Q)
def K2 (Q : QT) : KT := left kp 3 (K1 Q)
def K3 (Q : QT) (R3 : T3) : KT := rnd ((kp.find 1000003).getD []) (E3 R3) (K2 Q)
def L3 (Q : QT) (m0 : Option Nat) (a3 : Pt) (n3 c3 : Nat) (e3 : Bool) (a9 : Pt) (n9 c9 : Nat) (e9 : Bool) (x10 x11 : Int) (h : Zaa) : Prop := Zec (Den pg fn.ntmps (C [1, 1, 0, 1, 0, 0])) ((kp.find 1000003).getD []) (K2 Q) [(0, .map m0), (3, .slice a3 n3 c3 e3), (9, .slice a9 n9 c9 e9), (10, .int .i64 x10), (11, .int .i64 x11)] h
def Znf (Q : QT) (a3 : Pt) (n3 c3 : Nat) (e3 : Bool) (h : Zaa) : Prop := At (K1 Q) (.exit 0) [(3, .slice a3 n3 c3 e3)] h
def L3t (Q : QT) (R3 : T3) (m0 : Option Nat) (a3 : Pt) (n3 c3 : Nat) (e3 : Bool) (a9 : Pt) (n9 c9 : Nat) (e9 : Bool) (x10 x11 : Int) (h : Zaa) : Prop :=
 bcase (decide ((x11 : Int) < x10)) ((0 ≤ (x11 : Int) ∧ (x11 : Int) < (n9 : Nat)) ∧ (Zbl a9 fun I10 O11 => Zbo (Zak h (.ptr (some (I10, O11 + (Int.toNat x11) * 1)))) fun S12 => Zga h m0 fun es_13 k_14 => Ztq es_13 S12 fun Z15 => Zbo (some (Option.getD Z15 (.str []))) fun S16 => Zdc (h ++ [.cells Zbe [.str S12, .str S16] false]) fun H17 => Zdd pg Zlp H17 (.slice a3 n3 c3 e3) (.slice (some (h.length, 0)) 1 1 true) fun V18 H19 => xSl (some V18) fun A20 N21 C22 E23 => R3 m0 A20 N21 C22 E23 a9 n9 c9 e9 x10 (IntKind.wrap .i64 (x11 + 1)) H19)) (Znf Q a3 n3 c3 e3 h)
theorem Zkh (Q : QT) (R3 : T3) (m0 : Option Nat) (a3 : Pt) (n3 c3 : Nat) (e3 : Bool) (a9 : Pt) (n9 c9 : Nat) (e9 : Bool) (x10 x11 : Int) (h : Zaa) (ht : L3t Q R3 m0 a3 n3 c3 e3 a9 n9 c9 e9 x10 x11 h) : Den pg fn.ntmps (C [1, 1, 0, 1, 0, 0]) [(0, .map m0), (3, .slice a3 n3 c3 e3), (9, .slice a9 n9 c9 e9), (10, .int .i64 x10), (11, .int .i64 x11)] h (K3 Q R3) :=
 Zba (kp := kp) (cast (by kernel_rfl) ht)
theorem L3ind (Q : QT) (m0 : Option Nat) (a9 : Pt) (n9 c9 : Nat) (e9 : Bool) (x10 : Int) {G : Type} (J : G → Pt → Nat → Nat → Bool → Int → Zaa → Prop) (m : G → Nat)
 (hr : ∀ (g : G) (a3 : Pt) (n3 c3 : Nat) (e3 : Bool) (x11 : Int) (h : Zaa), J g a3 n3 c3 e3 x11 h → ∀ (R3 : T3), (∀ g' (a3 : Pt) (n3 c3 : Nat) (e3 : Bool) (x11 : Int) (h : Zaa), m g' < m g → J g' a3 n3 c3 e3 x11 h → R3 m0 a3 n3 c3 e3 a9 n9 c9 e9 x10 x11 h) → L3t Q R3 m0 a3 n3 c3 e3 a9 n9 c9 e9 x10 x11 h)
 (g : G) (a3 : Pt) (n3 c3 : Nat) (e3 : Bool) (x11 : Int) (h : Zaa) (hj : J g a3 n3 c3 e3 x11 h) : L3 Q m0 a3 n3 c3 e3 a9 n9 c9 e9 x10 x11 h := by
 refine Zec.inv2 (fun g => E3 fun m0' a3 n3 c3 e3 a9' n9' c9' e9' x10' x11 h => m0 = m0' ∧ a9 = a9' ∧ n9 = n9' ∧ c9 = c9' ∧ e9 = e9' ∧ x10 = x10' ∧ J g a3 n3 c3 e3 x11 h) (fun g => E3 fun m0' a3 n3 c3 e3 a9' n9' c9' e9' x10' x11 h => m0 = m0' ∧ a9 = a9' ∧ n9 = n9' ∧ c9 = c9' ∧ e9 = e9' ∧ x10 = x10' ∧ ∃ g', m g' < m g ∧ J g' a3 n3 c3 e3 x11 h) m ?_ ?_ g ⟨rfl, rfl, rfl, rfl, rfl, rfl, hj⟩
 ·intro g env h hi
  obtain ⟨m0', a3, n3, c3, e3, a9', n9', c9', e9', x10', x11, rfl, rfl, rfl, rfl, rfl, rfl, rfl, hj⟩ := Zdw hi
  exact Zkh Q _ m0 a3 n3 c3 e3 a9 n9 c9 e9 x10 x11 h (hr g a3 n3 c3 e3 x11 h hj (fun m0' a3 n3 c3 e3 a9' n9' c9' e9' x10' x11 h => m0 = m0' ∧ a9 = a9' ∧ n9 = n9' ∧ c9 = c9' ∧ e9 = e9' ∧ x10 = x10' ∧ ∃ g', m g' < m g ∧ J g' a3 n3 c3 e3 x11 h) fun g' a3 n3 c3 e3 x11 h hlt hj => ⟨rfl, rfl, rfl, rfl, rfl, rfl, g', hlt, hj⟩)
 ·intro g env h hi
  obtain ⟨m0', a3, n3, c3, e3, a9', n9', c9', e9', x10', x11, rfl, rfl, rfl, rfl, rfl, rfl, rfl, g', hlt, hj⟩ := Zdw hi
  exact ⟨g', hlt, rfl, rfl, rfl, rfl, rfl, rfl, hj⟩
theorem A3x0i (Q : QT) (a3 : Pt) (n3 c3 : Nat) (e3 : Bool) (h : Zaa) (ht :
 Q (.slice a3 n3 c3 e3) h) : Znf Q a3 n3 c3 e3 h :=
 At.mk (cast (by kernel_rfl) ht)
theorem call (m0 : Option Nat) (h : Zaa) (Q : QT) (ht :
 Zdc (h ++ [.cells Zbe [] false]) fun H0 => Zae pg Zep [.map m0] H0 fun V1 H2 =>
 Zwj (some V1) fun V3 => Zae pg Zkq [V3] H2 fun V4 H5 =>
 xSl (some V4) fun A6 N7 C8 E9 => L3 Q m0 (some (h.length, 0)) 0 0 true A6 N7 C8 E9 (((N7 : Nat) : Int)) 0 H5) : Zae pg Zmg [.map m0] h Q :=
 Zae.of_body kp (c := cod fn) (fn := fn) Go.Proofs.Tryz.func152 (by kernel_rfl) (by kernel_rfl) (Nat.le_of_ble_eq_true (by kernel_rfl))
  (cast (by kernel_rfl) ht)
end Zho
namespace Zlr
noncomputable abbrev fn : Func := Go.Proofs.Tryz.f129
def kp : Zbz := [(4000004, [8])]
noncomputable def C (p : List Nat) : Code := (cod fn).sub p
def KR (Q : QT) : KT := Zes pg fn.results.toList Q
def J4 (Q : QT) (m8 : Option Nat) (h : Zaa) : Prop := Den pg fn.ntmps (C [1, 1, 1]) [(8, .map m8)] h (KR Q)
theorem J4i (Q : QT) (m8 : Option Nat) (h : Zaa) (ht :
 Zae pg Zmg [.map m8] h fun V10 H11 =>
 xSl (some V10) fun A12 N13 C14 E15 => Q (.tup [.slice A12 N13 C14 E15, .bool true]) H11) : J4 Q m8 h :=
 Zba (kp := kp) (cast (by kernel_rfl) ht)
theorem call (x0 x1 : List Nat) (h : Zaa) (Q : QT) (ht :
 Zae pg Zkf [.str x0] h fun V0 H1 =>
 Zii (some V0) fun A2 => Zae pg Zkf [.str x1] H1 fun V3 H4 =>
 Zii (some V3) fun A5 => Zdc (H4 ++ [.map [] 0]) fun H6 => bcase (Option.isNone A2) (Q (.tup [.slice none 0 0 true, .bool false]) H6) (bcase (Option.isNone A5) (Q (.tup [.slice none 0 0 true, .bool false]) H6) (Zae pg Zid [.ptr A2, .ptr A5, .map ((some H4.length))] H6 fun V7 H8 =>
 Zci (some V7) fun B9 => bcase (!B9) (Q (.tup [.slice none 0 0 true, .bool false]) H8) (J4 Q ((some H4.length)) H8)))) : Zae pg Zjd [.str x0, .str x1] h Q :=
 Zae.of_body kp (c := cod fn) (fn := fn) Go.Proofs.Tryz.func129 (by kernel_rfl) (by kernel_rfl) (Nat.le_of_ble_eq_true (by kernel_rfl))
  (cast (by kernel_rfl) ht)
end Zlr
namespace Zoo
noncomputable abbrev fn : Func := Go.Proofs.Tryz.f128
def kp : Zbz := []
noncomputable def C (p : List Nat) : Code := (cod fn).sub p
def KR (Q : QT) : KT := Zes pg fn.results.toList Q
theorem call (x0 x1 : List Nat) (h : Zaa) (Q : QT) (ht :
 Zae pg Zjd [.str x0, .str x1] h fun V0 H1 =>
 Zva V0 fun K2 => Zap K2 fun C3 Z4 => xSl (some C3) fun A5 N6 C7 E8 => Zap Z4 fun C9 Z10 => Zci (some C9) fun B11 => Zcr Z10 (Q (.bool B11) H1)) : Zae pg Zlb [.str x0, .str x1] h Q :=
 Zae.of_body kp (c := cod fn) (fn := fn) Go.Proofs.Tryz.func128 (by kernel_rfl) (by kernel_rfl) (Nat.le_of_ble_eq_true (by kernel_rfl))
  (cast (by kernel_rfl) ht)
end Zoo
end Go.Sim

set_option maxRecDepth 100000
set_option linter.unusedVariables false
namespace Go.Sim
open Go Go.RowKit
namespace Zeu
noncomputable abbrev fn : Func := Go.Proofs.Tryz.f151
def kp : Zbz := [(4000006, [2, 0, 7]), (2000008, [48, 0, 1, 2]), (3000011, [6]), (1000011, [1, 2, 52, 53, 54])]
noncomputable def C (p : List Nat) : Code := (cod fn).sub p
def KR (Q : QT) : KT := Zes pg fn.results.toList Q
abbrev T11 := Pt → Option Nat → Pt → Nat → Nat → Bool → Int → Int → Zaa → Prop
def E11 (R11 : T11) (env : Env) (h : Zaa) : Prop := Zbs 1 env fun v env => Zii (some v) fun a1 => Zbs 2 env fun v env => Yhz (some v) fun m2 => Zbs 52 env fun v env => xSl (some v) fun a52 n52 c52 e52 => Zbs 53 env fun v env => Zee .i64 v fun x53 => Zbs 54 env fun v env => Zee .i64 v fun x54 => Zje env (R11 a1 m2 a52 n52 c52 e52 x53 x54 h)
theorem Ykj {R11 : T11} {env : Env} {h : Zaa} (hi : E11 R11 env h) : ∃ a1, ∃ m2, ∃ a52, ∃ n52, ∃ c52, ∃ e52, ∃ x53, ∃ x54, env = [(1, .ptr a1), (2, .map m2), (52, .slice a52 n52 c52 e52), (53, .int .i64 x53), (54, .int .i64 x54)] ∧ R11 a1 m2 a52 n52 c52 e52 x53 x54 h := by
 unfold E11 at hi
 have hi0 := hi
 clear hi
 obtain ⟨_, _, rfl, hi1⟩ := Zab hi0
 obtain ⟨a1, rfl, hi2⟩ := Zbw hi1
 obtain ⟨_, _, rfl, hi3⟩ := Zab hi2
 obtain ⟨m2, rfl, hi4⟩ := Ybe hi3
 obtain ⟨_, _, rfl, hi5⟩ := Zab hi4
 obtain ⟨a52, n52, c52, e52, rfl, hi6⟩ := Zbf hi5
 obtain ⟨_, _, rfl, hi7⟩ := Zab hi6
 obtain ⟨x53, rfl, hi8⟩ := Zao hi7
 obtain ⟨_, _, rfl, hi9⟩ := Zab hi8
 obtain ⟨x54, rfl, hi10⟩ := Zao hi9
 obtain ⟨rfl, hi11⟩ := Zbg hi10
 have hi := hi11
 exact ⟨a1, m2, a52, n52, c52, e52, x53, x54, rfl, hi⟩
def K0 (Q : QT) : KT := andThen (fun env' h' => (match kp.find 4000008 with | some ks => Den pg fn.ntmps (C [1, 1]) (env'.keep ks) h' (KR Q) | none => den pg fn.ntmps kp (C [1, 1]) env' h' (KR Q))) (KR Q)
def K1 (Q : QT) : KT := andThen (fun env' h' => (match kp.find 4000016 with | some ks => Den pg fn.ntmps (C [1, 1, 1, 1]) (env'.keep ks) h' (KR Q) | none => den pg fn.ntmps kp (C [1, 1, 1, 1]) env' h' (KR Q))) (KR Q)
def K2 (Q : QT) : KT := Zck 0 (K1 Q)
def K3 (Q : QT) : KT := left kp 11 (K2 Q)
def K4 (Q : QT) (R11 : T11) : KT := rnd ((kp.find 1000011).getD []) (E11 R11) (K3 Q)
def J6 (Q : QT) (m2 : Option Nat) (a0 : Pt) (x7 : List Nat) (h : Zaa) : Prop := Den pg fn.ntmps (C [1, 0, 1, 0, 1, 1]) [(2, .map m2), (0, .ptr a0), (7, .str x7)] h (K0 Q)
def L11 (Q : QT) (a1 : Pt) (m2 : Option Nat) (a52 : Pt) (n52 c52 : Nat) (e52 : Bool) (x53 x54 : Int) (h : Zaa) : Prop := Zec (Den pg fn.ntmps (C [1, 1, 1, 0, 1, 0, 0])) ((kp.find 1000011).getD []) (K3 Q) [(1, .ptr a1), (2, .map m2), (52, .slice a52 n52 c52 e52), (53, .int .i64 x53), (54, .int .i64 x54)] h
def Ysj (Q : QT) (h : Zaa) : Prop := At (K2 Q) (.exit 0) [(6, .undef)] h
theorem J6i (Q : QT) (m2 : Option Nat) (a0 : Pt) (x7 : List Nat) (h : Zaa) (ht :
 Zbl a0 fun I28 O29 => Zbo (Zak h (.ptr (some (I28, O29 + 0)))) fun S30 => xMp m2 fun I31 => Zga h (some I31) fun es_32 k_33 => Yin es_32 k_33 S30 (.str x7) fun es_34 k_35 => Zdc (List.set h I31 (.map es_34 k_35)) fun H36 => Q (.bool true) H36) : J6 Q m2 a0 x7 h :=
 Zba (kp := kp) (cast (by kernel_rfl) ht)
def L11t (Q : QT) (R11 : T11) (a1 : Pt) (m2 : Option Nat) (a52 : Pt) (n52 c52 : Nat) (e52 : Bool) (x53 x54 : Int) (h : Zaa) : Prop :=
 bcase (decide ((x54 : Int) < x53)) ((0 ≤ (x54 : Int) ∧ (x54 : Int) < (n52 : Nat)) ∧ (Zbl a52 fun I37 O38 => Zii (Zak h (.ptr (some (I37, O38 + (Int.toNat x54) * 1)))) fun A39 => Zbl a1 fun I40 O41 => xSl (Zak h (.ptr (some (I40, O41 + 1)))) fun A42 N43 C44 E45 => (0 ≤ (x54 : Int) ∧ (x54 : Int) < (N43 : Nat)) ∧ (Zbl A42 fun I46 O47 => Zii (Zak h (.ptr (some (I46, O47 + (Int.toNat x54) * 1)))) fun A48 => Zae pg Zid [.ptr A39, .ptr A48, .map m2] h fun V49 H50 =>
 Zci (some V49) fun B51 => bcase (!B51) (Q (.bool false) H50) (R11 a1 m2 a52 n52 c52 e52 x53 (IntKind.wrap .i64 (x54 + 1)) H50)))) (Ysj Q h)
theorem Ytg (Q : QT) (R11 : T11) (a1 : Pt) (m2 : Option Nat) (a52 : Pt) (n52 c52 : Nat) (e52 : Bool) (x53 x54 : Int) (h : Zaa) (ht : L11t Q R11 a1 m2 a52 n52 c52 e52 x53 x54 h) : Den pg fn.ntmps (C [1, 1, 1, 0, 1, 0, 0]) [(1, .ptr a1), (2, .map m2), (52, .slice a52 n52 c52 e52), (53, .int .i64 x53), (54, .int .i64 x54)] h (K4 Q R11) :=
 Zba (kp := kp) (cast (by kernel_rfl) ht)
theorem L11ind (Q : QT) (a1 : Pt) (m2 : Option Nat) (a52 : Pt) (n52 c52 : Nat) (e52 : Bool) (x53 : Int) {G : Type} (J : G → Int → Zaa → Prop) (m : G → Nat)
 (hr : ∀ (g : G) (x54 : Int) (h : Zaa), J g x54 h → ∀ (R11 : T11), (∀ g' (x54 : Int) (h : Zaa), m g' < m g → J g' x54 h → R11 a1 m2 a52 n52 c52 e52 x53 x54 h) → L11t Q R11 a1 m2 a52 n52 c52 e52 x53 x54 h)
 (g : G) (x54 : Int) (h : Zaa) (hj : J g x54 h) : L11 Q a1 m2 a52 n52 c52 e52 x53 x54 h := by
 refine Zec.inv2 (fun g => E11 fun a1' m2' a52' n52' c52' e52' x53' x54 h => a1 = a1' ∧ m2 = m2' ∧ a52 = a52' ∧ n52 = n52' ∧ c52 = c52' ∧ e52 = e52' ∧ x53 = x53' ∧ J g x54 h) (fun g => E11 fun a1' m2' a52' n52' c52' e52' x53' x54 h => a1 = a1' ∧ m2 = m2' ∧ a52 = a52' ∧ n52 = n52' ∧ c52 = c52' ∧ e52 = e52' ∧ x53 = x53' ∧ ∃ g', m g' < m g ∧ J g' x54 h) m ?_ ?_ g ⟨rfl, rfl, rfl, rfl, rfl, rfl, rfl, hj⟩
 ·intro g env h hi
  obtain ⟨a1', m2', a52', n52', c52', e52', x53', x54, rfl, rfl, rfl, rfl, rfl, rfl, rfl, rfl, hj⟩ := Ykj hi
  exact Ytg Q _ a1 m2 a52 n52 c52 e52 x53 x54 h (hr g x54 h hj (fun a1' m2' a52' n52' c52' e52' x53' x54 h => a1 = a1' ∧ m2 = m2' ∧ a52 = a52' ∧ n52 = n52' ∧ c52 = c52' ∧ e52 = e52' ∧ x53 = x53' ∧ ∃ g', m g' < m g ∧ J g' x54 h) fun g' x54 h hlt hj => ⟨rfl, rfl, rfl, rfl, rfl, rfl, rfl, g', hlt, hj⟩)
 ·intro g env h hi
  obtain ⟨a1', m2', a52', n52', c52', e52', x53', x54, rfl, rfl, rfl, rfl, rfl, rfl, rfl, rfl, g', hlt, hj⟩ := Ykj hi
  exact ⟨g', hlt, rfl, rfl, rfl, rfl, rfl, rfl, rfl, hj⟩
theorem A11x0i (Q : QT) (h : Zaa) (ht :
 Q (.bool true) h) : Ysj Q h :=
 At.mk (cast (by kernel_rfl) ht)
theorem call (a0 a1 : Pt) (m2 : Option Nat) (h : Zaa) (Q : QT) (ht :
 Zbl a0 fun I0 O1 => Zbo (Zak h (.ptr (some (I0, O1 + 0)))) fun S2 => Zae pg Zlk [.str S2] h fun V3 H4 =>
 Zci (some V3) fun B5 => bcase B5 (Zae pg Zjf [.ptr a1] H4 fun V6 H7 =>
 Zbo (some V6) fun S8 => Zbl a0 fun I9 O10 => Zbo (Zak H7 (.ptr (some (I9, O10 + 0)))) fun S11 => Zga H7 m2 fun es_12 k_13 => Ztq es_12 S11 fun Z14 => Zbo (some (Option.getD Z14 (.str []))) fun S15 => bcase (Option.isSome Z14) (bcase (!(decide (S15 = S8))) (Q (.bool false) H7) (J6 Q m2 a0 S8 H7)) (J6 Q m2 a0 S8 H7)) (Zbl a0 fun I16 O17 => Zbl a1 fun I18 O19 => Zbo (Zak H4 (.ptr (some (I16, O17 + 0)))) fun S20 => Zbo (Zak H4 (.ptr (some (I18, O19 + 0)))) fun S21 => (Zak H4 (.ptr (some (I16, O17 + 0))) = Zak H4 (.ptr (some (I16, O17 + 0)))) ∧ bcase (!(decide (S20 = S21))) (Q (.bool false) H4) (Zbl a0 fun I22 O23 => xSl (Zak H4 (.ptr (some (I22, O23 + 1)))) fun A24 N25 C26 E27 => L11 Q a1 m2 A24 N25 C26 E27 (((N25 : Nat) : Int)) 0 H4))) : Zae pg Zid [.ptr a0, .ptr a1, .map m2] h Q :=
 Zae.of_body kp (c := cod fn) (fn := fn) Go.Proofs.Tryz.func151 (by kernel_rfl) (by kernel_rfl) (Nat.le_of_ble_eq_true (by kernel_rfl))
  (cast (by kernel_rfl) ht)
end Zeu
end Go.Sim

set_option maxRecDepth 100000
set_option linter.unusedVariables false
namespace Go.Sim
open Go Go.RowKit
namespace Zgw
noncomputable abbrev fn : Func := Go.Proofs.Tryz.f165
def kp : Zbz := [(3000005, [0, 3]), (1000005, [0, 3, 20, 21, 22]), (2000009, [2])]
noncomputable def C (p : List Nat) : Code := (cod fn).sub p
def KR (Q : QT) : KT := Zes pg fn.results.toList Q
abbrev T5 := Pt → Pt → Nat → Nat → Bool → Pt → Nat → Nat → Bool → Int → Int → Zaa → Prop
def E5 (R5 : T5) (env : Env) (h : Zaa) : Prop := Zbs 0 env fun v env => Zii (some v) fun a0 => Zbs 3 env fun v env => xSl (some v) fun a3 n3 c3 e3 => Zbs 20 env fun v env => xSl (some v) fun a20 n20 c20 e20 => Zbs 21 env fun v env => Zee .i64 v fun x21 => Zbs 22 env fun v env => Zee .i64 v fun x22 => Zje env (R5 a0 a3 n3 c3 e3 a20 n20 c20 e20 x21 x22 h)
theorem Zgi {R5 : T5} {env : Env} {h : Zaa} (hi : E5 R5 env h) : ∃ a0, ∃ a3, ∃ n3, ∃ c3, ∃ e3, ∃ a20, ∃ n20, ∃ c20, ∃ e20, ∃ x21, ∃ x22, env = [(0, .ptr a0), (3, .slice a3 n3 c3 e3), (20, .slice a20 n20 c20 e20), (21, .int .i64 x21), (22, .int .i64 x22)] ∧ R5 a0 a3 n3 c3 e3 a20 n20 c20 e20 x21 x22 h := by
 unfold E5 at hi
 have hi0 := hi
 clear hi
 obtain ⟨_, _, rfl, hi1⟩ := Zab hi0
 obtain ⟨a0, rfl, hi2⟩ := Zbw hi1
 obtain ⟨_, _, rfl, hi3⟩ := Zab hi2
 obtain ⟨a3, n3, c3, e3, rfl, hi4⟩ := Zbf hi3
 obtain ⟨_, _, rfl, hi5⟩ := Zab hi4
 obtain ⟨a20, n20, c20, e20, rfl, hi6⟩ := Zbf hi5
 obtain ⟨_, _, rfl, hi7⟩ := Zab hi6
 obtain ⟨x21, rfl, hi8⟩ := Zao hi7
 obtain ⟨_, _, rfl, hi9⟩ := Zab hi8
 obtain ⟨x22, rfl, hi10⟩ := Zao hi9
 obtain ⟨rfl, hi11⟩ := Zbg hi10
 have hi := hi11
 exact ⟨a0, a3, n3, c3, e3, a20, n20, c20, e20, x21, x22, rfl, hi⟩
def K0 (Q : QT) : KT := andThen (fun env' h' => (match kp.find 4000009 with | some ks => Den pg fn.ntmps (C [1, 1, 1, 1]) (env'.keep ks) h' (KR Q) | none => den pg fn.ntmps kp (C [1, 1, 1, 1]) env' h' (KR Q))) (KR Q)
def K1 (Q : QT) : KT := Zck 0 (K0 Q)
def K2 (Q : QT) : KT := left kp 5 (K1 Q)
def K3 (Q : QT) (R5 : T5) : KT := rnd ((kp.find 1000005).getD []) (E5 R5) (K2 Q)
def L5 (Q : QT) (a0 a3 : Pt) (n3 c3 : Nat) (e3 : Bool) (a20 : Pt) (n20 c20 : Nat) (e20 : Bool) (x21 x22 : Int) (h : Zaa) : Prop := Zec (Den pg fn.ntmps (C [1, 1, 1, 0, 1, 0, 0])) ((kp.find 1000005).getD []) (K2 Q) [(0, .ptr a0), (3, .slice a3 n3 c3 e3), (20, .slice a20 n20 c20 e20), (21, .int .i64 x21), (22, .int .i64 x22)] h
def A5x0 (Q : QT) (a0 a3 : Pt) (n3 c3 : Nat) (e3 : Bool) (h : Zaa) : Prop := At (K1 Q) (.exit 0) [(0, .ptr a0), (3, .slice a3 n3 c3 e3)] h
def L5t (Q : QT) (R5 : T5) (a0 a3 : Pt) (n3 c3 : Nat) (e3 : Bool) (a20 : Pt) (n20 c20 : Nat) (e20 : Bool) (x21 x22 : Int) (h : Zaa) : Prop :=
 bcase (decide ((x22 : Int) < x21)) ((0 ≤ (x22 : Int) ∧ (x22 : Int) < (n20 : Nat)) ∧ (Zbl a20 fun I16 O17 => Zii (Zak h (.ptr (some (I16, O17 + (Int.toNat x22) * 1)))) fun A18 => Zae pg Zjf [.ptr A18] h fun V19 H20 =>
 Zbo (some V19) fun S21 => Zdc (H20 ++ [.cells Zcm [.str S21] false]) fun H22 => Zdd pg Zfd H22 (.slice a3 n3 c3 e3) (.slice (some (H20.length, 0)) 1 1 true) fun V23 H24 => xSl (some V23) fun A25 N26 C27 E28 => R5 a0 A25 N26 C27 E28 a20 n20 c20 e20 x21 (IntKind.wrap .i64 (x22 + 1)) H24)) (A5x0 Q a0 a3 n3 c3 e3 h)
theorem Zqg (Q : QT) (R5 : T5) (a0 a3 : Pt) (n3 c3 : Nat) (e3 : Bool) (a20 : Pt) (n20 c20 : Nat) (e20 : Bool) (x21 x22 : Int) (h : Zaa) (ht : L5t Q R5 a0 a3 n3 c3 e3 a20 n20 c20 e20 x21 x22 h) : Den pg fn.ntmps (C [1, 1, 1, 0, 1, 0, 0]) [(0, .ptr a0), (3, .slice a3 n3 c3 e3), (20, .slice a20 n20 c20 e20), (21, .int .i64 x21), (22, .int .i64 x22)] h (K3 Q R5) :=
 Zba (kp := kp) (cast (by kernel_rfl) ht)
theorem L5ind (Q : QT) (a0 a20 : Pt) (n20 c20 : Nat) (e20 : Bool) (x21 : Int) {G : Type} (J : G → Pt → Nat → Nat → Bool → Int → Zaa → Prop) (m : G → Nat)
 (hr : ∀ (g : G) (a3 : Pt) (n3 c3 : Nat) (e3 : Bool) (x22 : Int) (h : Zaa), J g a3 n3 c3 e3 x22 h → ∀ (R5 : T5), (∀ g' (a3 : Pt) (n3 c3 : Nat) (e3 : Bool) (x22 : Int) (h : Zaa), m g' < m g → J g' a3 n3 c3 e3 x22 h → R5 a0 a3 n3 c3 e3 a20 n20 c20 e20 x21 x22 h) → L5t Q R5 a0 a3 n3 c3 e3 a20 n20 c20 e20 x21 x22 h)
 (g : G) (a3 : Pt) (n3 c3 : Nat) (e3 : Bool) (x22 : Int) (h : Zaa) (hj : J g a3 n3 c3 e3 x22 h) : L5 Q a0 a3 n3 c3 e3 a20 n20 c20 e20 x21 x22 h := by
 refine Zec.inv2 (fun g => E5 fun a0' a3 n3 c3 e3 a20' n20' c20' e20' x21' x22 h => a0 = a0' ∧ a20 = a20' ∧ n20 = n20' ∧ c20 = c20' ∧ e20 = e20' ∧ x21 = x21' ∧ J g a3 n3 c3 e3 x22 h) (fun g => E5 fun a0' a3 n3 c3 e3 a20' n20' c20' e20' x21' x22 h => a0 = a0' ∧ a20 = a20' ∧ n20 = n20' ∧ c20 = c20' ∧ e20 = e20' ∧ x21 = x21' ∧ ∃ g', m g' < m g ∧ J g' a3 n3 c3 e3 x22 h) m ?_ ?_ g ⟨rfl, rfl, rfl, rfl, rfl, rfl, hj⟩
 ·intro g env h hi
  obtain ⟨a0', a3, n3, c3, e3, a20', n20', c20', e20', x21', x22, rfl, rfl, rfl, rfl, rfl, rfl, rfl, hj⟩ := Zgi hi
  exact Zqg Q _ a0 a3 n3 c3 e3 a20 n20 c20 e20 x21 x22 h (hr g a3 n3 c3 e3 x22 h hj (fun a0' a3 n3 c3 e3 a20' n20' c20' e20' x21' x22 h => a0 = a0' ∧ a20 = a20' ∧ n20 = n20' ∧ c20 = c20' ∧ e20 = e20' ∧ x21 = x21' ∧ ∃ g', m g' < m g ∧ J g' a3 n3 c3 e3 x22 h) fun g' a3 n3 c3 e3 x22 h hlt hj => ⟨rfl, rfl, rfl, rfl, rfl, rfl, g', hlt, hj⟩)
 ·intro g env h hi
  obtain ⟨a0', a3, n3, c3, e3, a20', n20', c20', e20', x21', x22, rfl, rfl, rfl, rfl, rfl, rfl, rfl, g', hlt, hj⟩ := Zgi hi
  exact ⟨g', hlt, rfl, rfl, rfl, rfl, rfl, rfl, hj⟩
theorem A5x0i (Q : QT) (a0 a3 : Pt) (n3 c3 : Nat) (e3 : Bool) (h : Zaa) (ht :
 Zbl a0 fun I29 O30 => Zbo (Zak h (.ptr (some (I29, O30 + 0)))) fun S31 => List.length S31 + List.length [40] ≤ 9223372036854775807 ∧ (Zae pg Zri [.slice a3 n3 c3 e3, .str [44]] h fun V32 H33 =>
 Zbo (some V32) fun S34 => (Zak H33 (.ptr (some (I29, O30 + 0))) = Zak h (.ptr (some (I29, O30 + 0)))) ∧ List.length (S31 ++ [40]) + List.length S34 ≤ 9223372036854775807 ∧ (List.length ((S31 ++ [40]) ++ S34) + List.length [41] ≤ 9223372036854775807 ∧ (Q (.str (((S31 ++ [40]) ++ S34) ++ [41])) H33)))) : A5x0 Q a0 a3 n3 c3 e3 h :=
 At.mk (cast (by kernel_rfl) ht)
theorem call (a0 : Pt) (h : Zaa) (Q : QT) (ht :
 Zbl a0 fun I0 O1 => xSl (Zak h (.ptr (some (I0, O1 + 1)))) fun A2 N3 C4 E5 => bcase ((((N3 : Nat) : Int) : Int) == 0) (Zbl a0 fun I6 O7 => Zbo (Zak h (.ptr (some (I6, O7 + 0)))) fun S8 => Q (.str S8) h) (Zdc (h ++ [.cells Zcm [] false]) fun H9 => Zbl a0 fun I10 O11 => xSl (Zak H9 (.ptr (some (I10, O11 + 1)))) fun A12 N13 C14 E15 => L5 Q a0 (some (h.length, 0)) 0 0 true A12 N13 C14 E15 (((N13 : Nat) : Int)) 0 H9)) : Zae pg Zjf [.ptr a0] h Q :=
 Zae.of_body kp (c := cod fn) (fn := fn) Go.Proofs.Tryz.func165 (by kernel_rfl) (by kernel_rfl) (Nat.le_of_ble_eq_true (by kernel_rfl))
  (cast (by kernel_rfl) ht)
end Zgw
namespace Zgo
noncomputable abbrev fn : Func := Go.Proofs.Tryz.f148
def kp : Zbz := [(3000003, [1, 3]), (1000003, [1, 3, 11, 12, 13]), (2000005, [13, 12, 11, 3, 1]), (4000009, [3])]
noncomputable def C (p : List Nat) : Code := (cod fn).sub p
def KR (Q : QT) : KT := Zes pg fn.results.toList Q
abbrev T3 := Nat → Nat → List Nat → Pt → Nat → Nat → Bool → Int → Int → Zaa → Prop
def E3 (R3 : T3) (env : Env) (h : Zaa) : Prop := Zbs 1 env fun v env => Zii (some v) fun a => Zbl a fun i1 o1 => Zbs 3 env fun v env => Zbo (some v) fun x3 => Zbs 11 env fun v env => xSl (some v) fun a11 n11 c11 e11 => Zbs 12 env fun v env => Zee .i64 v fun x12 => Zbs 13 env fun v env => Zee .i64 v fun x13 => Zje env (R3 i1 o1 x3 a11 n11 c11 e11 x12 x13 h)
theorem Zdw {R3 : T3} {env : Env} {h : Zaa} (hi : E3 R3 env h) : ∃ i1, ∃ o1, ∃ x3, ∃ a11, ∃ n11, ∃ c11, ∃ e11, ∃ x12, ∃ x13, env = [(1, .ptr (some (i1, o1))), (3, .str x3), (11, .slice a11 n11 c11 e11), (12, .int .i64 x12), (13, .int .i64 x13)] ∧ R3 i1 o1 x3 a11 n11 c11 e11 x12 x13 h := by
 unfold E3 at hi
 have hi0 := hi
 clear hi
 obtain ⟨_, _, rfl, hi1⟩ := Zab hi0
 obtain ⟨a, rfl, hi2⟩ := Zbw hi1
 obtain ⟨i1, o1, rfl, hi3⟩ := Zbp hi2
 obtain ⟨_, _, rfl, hi4⟩ := Zab hi3
 obtain ⟨x3, rfl, hi5⟩ := Zel hi4
 obtain ⟨_, _, rfl, hi6⟩ := Zab hi5
 obtain ⟨a11, n11, c11, e11, rfl, hi7⟩ := Zbf hi6
 obtain ⟨_, _, rfl, hi8⟩ := Zab hi7
 obtain ⟨x12, rfl, hi9⟩ := Zao hi8
 obtain ⟨_, _, rfl, hi10⟩ := Zab hi9
 obtain ⟨x13, rfl, hi11⟩ := Zao hi10
 obtain ⟨rfl, hi12⟩ := Zbg hi11
 have hi := hi12
 exact ⟨i1, o1, x3, a11, n11, c11, e11, x12, x13, rfl, hi⟩
def K0 (Q : QT) : KT := andThen (fun env' h' => (match kp.find 4000007 with | some ks => Den pg fn.ntmps (C [1, 1, 1]) (env'.keep ks) h' (KR Q) | none => den pg fn.ntmps kp (C [1, 1, 1]) env' h' (KR Q))) (KR Q)
def K1 (Q : QT) : KT := Zck 0 (K0 Q)
def K2 (Q : QT) : KT := left kp 3 (K1 Q)
def K3 (Q : QT) (R3 : T3) : KT := rnd ((kp.find 1000003).getD []) (E3 R3) (K2 Q)
def L3 (Q : QT) (i1 o1 : Nat) (x3 : List Nat) (a11 : Pt) (n11 c11 : Nat) (e11 : Bool) (x12 x13 : Int) (h : Zaa) : Prop := Zec (Den pg fn.ntmps (C [1, 1, 0, 1, 0, 0])) ((kp.find 1000003).getD []) (K2 Q) [(1, .ptr (some (i1, o1))), (3, .str x3), (11, .slice a11 n11 c11 e11), (12, .int .i64 x12), (13, .int .i64 x13)] h
def Znf (Q : QT) (i1 o1 : Nat) (x3 : List Nat) (h : Zaa) : Prop := At (K1 Q) (.exit 0) [(1, .ptr (some (i1, o1))), (3, .str x3)] h
def J9 (Q : QT) (x3 : List Nat) (h : Zaa) : Prop := Den pg fn.ntmps (C [1, 1, 1, 1]) [(3, .str x3)] h (KR Q)
def L3t (Q : QT) (R3 : T3) (i1 o1 : Nat) (x3 : List Nat) (a11 : Pt) (n11 c11 : Nat) (e11 : Bool) (x12 x13 : Int) (h : Zaa) : Prop :=
 bcase (decide ((x13 : Int) < x12)) ((0 ≤ (x13 : Int) ∧ (x13 : Int) < (n11 : Nat)) ∧ (Zbl a11 fun I9 O10 => Zdh (Zbv h (.ptr (some (I9, O10 + (Int.toNat x13) * 2))) 2) fun K11 => Zap K11 fun C12 Z13 => Zen .u8 (some C12) fun X14 => Zap Z13 fun C15 Z16 => xSl (some C15) fun A17 N18 C19 E20 => Zcr Z16 (Zdc (h ++ [.cells Zad [.int .u8 0, .slice none 0 0 true] false]) fun H21 => Zcp (Zbk H21 (.ptr (some (h.length, 0))) [.int .u8 X14, .slice A17 N18 C19 E20]) fun H22 => (0 ≤ (x13 : Int) ∧ (x13 : Int) ≤ IntKind.wrap .i64 (x13 + 1) ∧ (IntKind.wrap .i64 (x13 + 1) : Int) ≤ (List.length ([40, 44]) : Nat)) ∧ (List.length x3 + List.length (sub ([40, 44]) x13 (IntKind.wrap .i64 (x13 + 1))) ≤ 9223372036854775807 ∧ (Zdh (Zbv H22 (.ptr (some (h.length, 0))) 2) fun K23 => Zap K23 fun C24 Z25 => Zen .u8 (some C24) fun X26 => Zap Z25 fun C27 Z28 => xSl (some C27) fun A29 N30 C31 E32 => Zcr Z28 (Zae pg Zgl [.agg [.int .u8 X26, .slice A29 N30 C31 E32]] H22 fun V33 H34 =>
 Zbo (some V33) fun S35 => List.length (x3 ++ (sub ([40, 44]) x13 (IntKind.wrap .i64 (x13 + 1)))) + List.length S35 ≤ 9223372036854775807 ∧ (R3 i1 o1 ((x3 ++ (sub ([40, 44]) x13 (IntKind.wrap .i64 (x13 + 1)))) ++ S35) a11 n11 c11 e11 x12 (IntKind.wrap .i64 (x13 + 1)) H34))))))) (Znf Q i1 o1 x3 h)
theorem Zkh (Q : QT) (R3 : T3) (i1 o1 : Nat) (x3 : List Nat) (a11 : Pt) (n11 c11 : Nat) (e11 : Bool) (x12 x13 : Int) (h : Zaa) (ht : L3t Q R3 i1 o1 x3 a11 n11 c11 e11 x12 x13 h) : Den pg fn.ntmps (C [1, 1, 0, 1, 0, 0]) [(1, .ptr (some (i1, o1))), (3, .str x3), (11, .slice a11 n11 c11 e11), (12, .int .i64 x12), (13, .int .i64 x13)] h (K3 Q R3) :=
 Zba (kp := kp) (cast (by kernel_rfl) ht)
theorem L3ind (Q : QT) (i1 o1 : Nat) (a11 : Pt) (n11 c11 : Nat) (e11 : Bool) (x12 : Int) {G : Type} (J : G → List Nat → Int → Zaa → Prop) (m : G → Nat)
 (hr : ∀ (g : G) (x3 : List Nat) (x13 : Int) (h : Zaa), J g x3 x13 h → ∀ (R3 : T3), (∀ g' (x3 : List Nat) (x13 : Int) (h : Zaa), m g' < m g → J g' x3 x13 h → R3 i1 o1 x3 a11 n11 c11 e11 x12 x13 h) → L3t Q R3 i1 o1 x3 a11 n11 c11 e11 x12 x13 h)
 (g : G) (x3 : List Nat) (x13 : Int) (h : Zaa) (hj : J g x3 x13 h) : L3 Q i1 o1 x3 a11 n11 c11 e11 x12 x13 h := by
 refine Zec.inv2 (fun g => E3 fun i1' o1' x3 a11' n11' c11' e11' x12' x13 h => i1 = i1' ∧ o1 = o1' ∧ a11 = a11' ∧ n11 = n11' ∧ c11 = c11' ∧ e11 = e11' ∧ x12 = x12' ∧ J g x3 x13 h) (fun g => E3 fun i1' o1' x3 a11' n11' c11' e11' x12' x13 h => i1 = i1' ∧ o1 = o1' ∧ a11 = a11' ∧ n11 = n11' ∧ c11 = c11' ∧ e11 = e11' ∧ x12 = x12' ∧ ∃ g', m g' < m g ∧ J g' x3 x13 h) m ?_ ?_ g ⟨rfl, rfl, rfl, rfl, rfl, rfl, rfl, hj⟩
 ·intro g env h hi
  obtain ⟨i1', o1', x3, a11', n11', c11', e11', x12', x13, rfl, rfl, rfl, rfl, rfl, rfl, rfl, rfl, hj⟩ := Zdw hi
  exact Zkh Q _ i1 o1 x3 a11 n11 c11 e11 x12 x13 h (hr g x3 x13 h hj (fun i1' o1' x3 a11' n11' c11' e11' x12' x13 h => i1 = i1' ∧ o1 = o1' ∧ a11 = a11' ∧ n11 = n11' ∧ c11 = c11' ∧ e11 = e11' ∧ x12 = x12' ∧ ∃ g', m g' < m g ∧ J g' x3 x13 h) fun g' x3 x13 h hlt hj => ⟨rfl, rfl, rfl, rfl, rfl, rfl, rfl, g', hlt, hj⟩)
 ·intro g env h hi
  obtain ⟨i1', o1', x3, a11', n11', c11', e11', x12', x13, rfl, rfl, rfl, rfl, rfl, rfl, rfl, rfl, g', hlt, hj⟩ := Zdw hi
  exact ⟨g', hlt, rfl, rfl, rfl, rfl, rfl, rfl, rfl, hj⟩
theorem A3x0i (Q : QT) (i1 o1 : Nat) (x3 : List Nat) (h : Zaa) (ht :
 xSl (Zak h (.ptr (some (i1, o1 + 1)))) fun A36 N37 C38 E39 => bcase (decide (((((N37 : Nat) : Int)) : Int) > 0)) (List.length x3 + List.length [41] ≤ 9223372036854775807 ∧ (J9 Q (x3 ++ [41]) h)) (J9 Q x3 h)) : Znf Q i1 o1 x3 h :=
 At.mk (cast (by kernel_rfl) ht)
theorem J9i (Q : QT) (x3 : List Nat) (h : Zaa) (ht :
 Q (.str x3) h) : J9 Q x3 h :=
 Zba (kp := kp) (cast (by kernel_rfl) ht)
theorem call (x0x0 : Int) (a0x1 : Pt) (n0x1 c0x1 : Nat) (e0x1 : Bool) (h : Zaa) (Q : QT) (ht :
 Zdc (h ++ [.cells Zad [.int .u8 x0x0, .slice a0x1 n0x1 c0x1 e0x1] false]) fun H0 => Zen .u8 (Zak H0 (.ptr (some (h.length, 0 + 0)))) fun X1 => Zdc (H0 ++ [.cells Zxc [.int .u8 X1] false]) fun H2 => Zdh (rowOf H2 (some (H0.length, 0)) 1) fun K3 => Zll K3 fun S4 => xSl (Zak H2 (.ptr (some (h.length, 0 + 1)))) fun A5 N6 C7 E8 => L3 Q h.length 0 S4 A5 N6 C7 E8 (((N6 : Nat) : Int)) 0 H2) : Zae pg Zgl [.agg [.int .u8 x0x0, .slice a0x1 n0x1 c0x1 e0x1]] h Q :=
 Zae.of_body kp (c := cod fn) (fn := fn) Go.Proofs.Tryz.func148 (by kernel_rfl) (by kernel_rfl) (Nat.le_of_ble_eq_true (by kernel_rfl))
  (cast (by kernel_rfl) ht)
end Zgo
end Go.Sim

set_option maxRecDepth 100000
set_option linter.unusedVariables false
namespace Go.Sim
open Go Go.RowKit
namespace Zfy
noncomputable abbrev fn : Func := Go.Proofs.Tryz.f33
def kp : Zbz := [(3000003, [3]), (1000003, [0, 3, 4])]
noncomputable def C (p : List Nat) : Code := (cod fn).sub p
def KR (Q : QT) : KT := Zes pg fn.results.toList Q
abbrev T3 := Pt → Nat → Nat → Bool → Pt → Nat → Nat → Bool → Int → Zaa → Prop
def E3 (R3 : T3) (env : Env) (h : Zaa) : Prop := Zbs 0 env fun v env => xSl (some v) fun a0 n0 c0 e0 => Zbs 3 env fun v env => xSl (some v) fun a3 n3 c3 e3 => Zbs 4 env fun v env => Zee .i64 v fun x4 => Zje env (R3 a0 n0 c0 e0 a3 n3 c3 e3 x4 h)
theorem Zdw {R3 : T3} {env : Env} {h : Zaa} (hi : E3 R3 env h) : ∃ a0, ∃ n0, ∃ c0, ∃ e0, ∃ a3, ∃ n3, ∃ c3, ∃ e3, ∃ x4, env = [(0, .slice a0 n0 c0 e0), (3, .slice a3 n3 c3 e3), (4, .int .i64 x4)] ∧ R3 a0 n0 c0 e0 a3 n3 c3 e3 x4 h := by
 unfold E3 at hi
 have hi0 := hi
 clear hi
 obtain ⟨_, _, rfl, hi1⟩ := Zab hi0
 obtain ⟨a0, n0, c0, e0, rfl, hi2⟩ := Zbf hi1
 obtain ⟨_, _, rfl, hi3⟩ := Zab hi2
 obtain ⟨a3, n3, c3, e3, rfl, hi4⟩ := Zbf hi3
 obtain ⟨_, _, rfl, hi5⟩ := Zab hi4
 obtain ⟨x4, rfl, hi6⟩ := Zao hi5
 obtain ⟨rfl, hi7⟩ := Zbg hi6
 have hi := hi7
 exact ⟨a0, n0, c0, e0, a3, n3, c3, e3, x4, rfl, hi⟩
def K0 (Q : QT) : KT := andThen (fun env' h' => (match kp.find 4000006 with | some ks => Den pg fn.ntmps (C [1, 1, 1]) (env'.keep ks) h' (KR Q) | none => den pg fn.ntmps kp (C [1, 1, 1]) env' h' (KR Q))) (KR Q)
def K1 (Q : QT) : KT := Zck 0 (K0 Q)
def K2 (Q : QT) : KT := left kp 3 (K1 Q)
def K3 (Q : QT) (R3 : T3) : KT := rnd ((kp.find 1000003).getD []) (E3 R3) (K2 Q)
def L3 (Q : QT) (a0 : Pt) (n0 c0 : Nat) (e0 : Bool) (a3 : Pt) (n3 c3 : Nat) (e3 : Bool) (x4 : Int) (h : Zaa) : Prop := Zec (Den pg fn.ntmps (C [1, 1, 0, 1, 0, 0])) ((kp.find 1000003).getD []) (K2 Q) [(0, .slice a0 n0 c0 e0), (3, .slice a3 n3 c3 e3), (4, .int .i64 x4)] h
def Znf (Q : QT) (a3 : Pt) (n3 c3 : Nat) (e3 : Bool) (h : Zaa) : Prop := At (K1 Q) (.exit 0) [(3, .slice a3 n3 c3 e3)] h
def L3t (Q : QT) (R3 : T3) (a0 : Pt) (n0 c0 : Nat) (e0 : Bool) (a3 : Pt) (n3 c3 : Nat) (e3 : Bool) (x4 : Int) (h : Zaa) : Prop :=
 bcase (decide ((x4 : Int) < (((n0 : Nat) : Int)))) ((0 ≤ (x4 : Int) ∧ (x4 : Int) < (n0 : Nat)) ∧ (Zbl a0 fun I1 O2 => Zdh (Zbv h (.ptr (some (I1, O2 + (Int.toNat x4) * 3))) 3) fun K3 => Zap K3 fun C4 Z5 => Zbo (some C4) fun S6 => Zap Z5 fun C7 Z8 => Zbo (some C7) fun S9 => Zap Z8 fun C10 Z11 => xSl (some C10) fun A12 N13 C14 E15 => Zcr Z11 (Zae pg Zkx [.agg [.str S6, .str S9, .slice A12 N13 C14 E15]] h fun V16 H17 =>
 Zuw V16 fun K18 => Zap K18 fun C19 Z20 => Zbo (some C19) fun S21 => Zap Z20 fun C22 Z23 => Zbo (some C22) fun S24 => Zap Z23 fun C25 Z26 => xSl (some C25) fun A27 N28 C29 E30 => Zcr Z26 ((0 ≤ (x4 : Int) ∧ (x4 : Int) < (n3 : Nat)) ∧ (Zbl a3 fun I31 O32 => Zcp (Zbk H17 (.ptr (some (I31, O32 + (Int.toNat x4) * 3))) [.str S21, .str S24, .slice A27 N28 C29 E30]) fun H33 => R3 a0 n0 c0 e0 a3 n3 c3 e3 (IntKind.wrap .i64 (x4 + 1)) H33))))) (Znf Q a3 n3 c3 e3 h)
theorem Zkh (Q : QT) (R3 : T3) (a0 : Pt) (n0 c0 : Nat) (e0 : Bool) (a3 : Pt) (n3 c3 : Nat) (e3 : Bool) (x4 : Int) (h : Zaa) (ht : L3t Q R3 a0 n0 c0 e0 a3 n3 c3 e3 x4 h) : Den pg fn.ntmps (C [1, 1, 0, 1, 0, 0]) [(0, .slice a0 n0 c0 e0), (3, .slice a3 n3 c3 e3), (4, .int .i64 x4)] h (K3 Q R3) :=
 Zba (kp := kp) (cast (by kernel_rfl) ht)
theorem L3ind (Q : QT) (a0 : Pt) (n0 c0 : Nat) (e0 : Bool) (a3 : Pt) (n3 c3 : Nat) (e3 : Bool) {G : Type} (J : G → Int → Zaa → Prop) (m : G → Nat)
 (hr : ∀ (g : G) (x4 : Int) (h : Zaa), J g x4 h → ∀ (R3 : T3), (∀ g' (x4 : Int) (h : Zaa), m g' < m g → J g' x4 h → R3 a0 n0 c0 e0 a3 n3 c3 e3 x4 h) → L3t Q R3 a0 n0 c0 e0 a3 n3 c3 e3 x4 h)
 (g : G) (x4 : Int) (h : Zaa) (hj : J g x4 h) : L3 Q a0 n0 c0 e0 a3 n3 c3 e3 x4 h := by
 refine Zec.inv2 (fun g => E3 fun a0' n0' c0' e0' a3' n3' c3' e3' x4 h => a0 = a0' ∧ n0 = n0' ∧ c0 = c0' ∧ e0 = e0' ∧ a3 = a3' ∧ n3 = n3' ∧ c3 = c3' ∧ e3 = e3' ∧ J g x4 h) (fun g => E3 fun a0' n0' c0' e0' a3' n3' c3' e3' x4 h => a0 = a0' ∧ n0 = n0' ∧ c0 = c0' ∧ e0 = e0' ∧ a3 = a3' ∧ n3 = n3' ∧ c3 = c3' ∧ e3 = e3' ∧ ∃ g', m g' < m g ∧ J g' x4 h) m ?_ ?_ g ⟨rfl, rfl, rfl, rfl, rfl, rfl, rfl, rfl, hj⟩
 ·intro g env h hi
  obtain ⟨a0', n0', c0', e0', a3', n3', c3', e3', x4, rfl, rfl, rfl, rfl, rfl, rfl, rfl, rfl, rfl, hj⟩ := Zdw hi
  exact Zkh Q _ a0 n0 c0 e0 a3 n3 c3 e3 x4 h (hr g x4 h hj (fun a0' n0' c0' e0' a3' n3' c3' e3' x4 h => a0 = a0' ∧ n0 = n0' ∧ c0 = c0' ∧ e0 = e0' ∧ a3 = a3' ∧ n3 = n3' ∧ c3 = c3' ∧ e3 = e3' ∧ ∃ g', m g' < m g ∧ J g' x4 h) fun g' x4 h hlt hj => ⟨rfl, rfl, rfl, rfl, rfl, rfl, rfl, rfl, g', hlt, hj⟩)
 ·intro g env h hi
  obtain ⟨a0', n0', c0', e0', a3', n3', c3', e3', x4, rfl, rfl, rfl, rfl, rfl, rfl, rfl, rfl, rfl, g', hlt, hj⟩ := Zdw hi
  exact ⟨g', hlt, rfl, rfl, rfl, rfl, rfl, rfl, rfl, rfl, hj⟩
theorem A3x0i (Q : QT) (a3 : Pt) (n3 c3 : Nat) (e3 : Bool) (h : Zaa) (ht :
 Q (.slice a3 n3 c3 e3) h) : Znf Q a3 n3 c3 e3 h :=
 At.mk (cast (by kernel_rfl) ht)
theorem call (a0 : Pt) (n0 c0 : Nat) (e0 : Bool) (h : Zaa) (Q : QT) (ht :
 IntKind.i64 = IntKind.i64 ∧ (IntKind.i64 = IntKind.i64 ∧ ((0 ≤ ((((n0 : Nat) : Int)) : Int) ∧ ((((n0 : Nat) : Int)) : Int) ≤ (((n0 : Nat) : Int)) ∧ ((((n0 : Nat) : Int)) : Int) * (((56 : Nat) : Int) + 1) ≤ 140737488355328) ∧ (Zdc (h ++ [.cells Zac (reps (Int.toNat ((((n0 : Nat) : Int)))) [.str [], .str [], .slice none 0 0 true]) false]) fun H0 => L3 Q a0 n0 c0 e0 (some (h.length, 0)) (Int.toNat ((((n0 : Nat) : Int)))) (Int.toNat ((((n0 : Nat) : Int)))) true 0 H0)))) : Zae pg Zkc [.slice a0 n0 c0 e0] h Q :=
 Zae.of_body kp (c := cod fn) (fn := fn) Go.Proofs.Tryz.func33 (by kernel_rfl) (by kernel_rfl) (Nat.le_of_ble_eq_true (by kernel_rfl))
  (cast (by kernel_rfl) ht)
end Zfy
namespace Zrj
noncomputable abbrev fn : Func := Go.Proofs.Tryz.f11
def kp : Zbz := []
noncomputable def C (p : List Nat) : Code := (cod fn).sub p
def KR (Q : QT) : KT := Zes pg fn.results.toList Q
theorem call (a0x0 : Pt) (n0x0 c0x0 : Nat) (e0x0 : Bool) (a0x1 : Pt) (n0x1 c0x1 : Nat) (e0x1 : Bool) (h : Zaa) (Q : QT) (ht :
 Zdc (h ++ [.cells Zez [.slice a0x0 n0x0 c0x0 e0x0, .slice a0x1 n0x1 c0x1 e0x1] false]) fun H0 => Zdc (H0 ++ [.cells Zaf [.slice none 0 0 true, .slice none 0 0 true] false]) fun H1 => Zdc (H1 ++ [.cells Zaf [.slice none 0 0 true, .slice none 0 0 true] false]) fun H2 => xSl (Zak H2 (.ptr (some (h.length, 0 + 0)))) fun A3 N4 C5 E6 => Zae pg Zmu [.slice A3 N4 C5 E6] H2 fun V7 H8 =>
 xSl (some V7) fun A9 N10 C11 E12 => Zcp (Zbk H8 (.ptr (some (H1.length, 0 + 0))) [.slice A9 N10 C11 E12]) fun H13 => xSl (Zak H13 (.ptr (some (h.length, 0 + 1)))) fun A14 N15 C16 E17 => Zae pg Zkc [.slice A14 N15 C16 E17] H13 fun V18 H19 =>
 xSl (some V18) fun A20 N21 C22 E23 => Zcp (Zbk H19 (.ptr (some (H1.length, 0 + 1))) [.slice A20 N21 C22 E23]) fun H24 => Zdh (Zbv H24 (.ptr (some (H1.length, 0))) 2) fun K25 => Zap K25 fun C26 Z27 => xSl (some C26) fun A28 N29 C30 E31 => Zap Z27 fun C32 Z33 => xSl (some C32) fun A34 N35 C36 E37 => Zcr Z33 (Zcp (Zbk H24 (.ptr (some (H0.length, 0))) [.slice A28 N29 C30 E31, .slice A34 N35 C36 E37]) fun H38 => Zdh (Zbv H38 (.ptr (some (H0.length, 0))) 2) fun K39 => Zap K39 fun C40 Z41 => xSl (some C40) fun A42 N43 C44 E45 => Zap Z41 fun C46 Z47 => xSl (some C46) fun A48 N49 C50 E51 => Zcr Z47 (Q (.agg [.slice A42 N43 C44 E45, .slice A48 N49 C50 E51]) H38))) : Zae pg Zhc [.agg [.slice a0x0 n0x0 c0x0 e0x0, .slice a0x1 n0x1 c0x1 e0x1]] h Q :=
 Zae.of_body kp (c := cod fn) (fn := fn) Go.Proofs.Tryz.func11 (by kernel_rfl) (by kernel_rfl) (Nat.le_of_ble_eq_true (by kernel_rfl))
  (cast (by kernel_rfl) ht)
end Zrj
namespace Zon
noncomputable abbrev fn : Func := Go.Proofs.Tryz.f61
def kp : Zbz := []
noncomputable def C (p : List Nat) : Code := (cod fn).sub p
def KR (Q : QT) : KT := Zes pg fn.results.toList Q
theorem call (x0x0 x0x1 : List Nat) (a0x2 : Pt) (n0x2 c0x2 : Nat) (e0x2 : Bool) (x1x0 x1x1 : List Nat) (a1x2 : Pt) (n1x2 c1x2 : Nat) (e1x2 : Bool) (h : Zaa) (Q : QT) (ht :
 Zdc (h ++ [.cells Zac [.str x0x0, .str x0x1, .slice a0x2 n0x2 c0x2 e0x2] false]) fun H0 => Zdc (H0 ++ [.cells Zac [.str x1x0, .str x1x1, .slice a1x2 n1x2 c1x2 e1x2] false]) fun H1 => Zdh (Zbv H1 (.ptr (some (h.length, 0 + 0))) 2) fun K2 => Zap K2 fun C3 Z4 => Zbo (some C3) fun S5 => Zap Z4 fun C6 Z7 => Zbo (some C6) fun S8 => Zcr Z7 (Zdh (Zbv H1 (.ptr (some (H0.length, 0 + 0))) 2) fun K9 => Zap K9 fun C10 Z11 => Zbo (some C10) fun S12 => Zap Z11 fun C13 Z14 => Zbo (some C13) fun S15 => Zcr Z14 (Zae pg Zmb [.agg [.str S5, .str S8], .agg [.str S12, .str S15]] H1 fun V16 H17 =>
 Zci (some V16) fun B18 => bcase (!B18) (Q (.bool false) H17) (xSl (Zak H17 (.ptr (some (h.length, 0 + 2)))) fun A19 N20 C21 E22 => xSl (Zak H17 (.ptr (some (H0.length, 0 + 2)))) fun A23 N24 C25 E26 => Zae pg Znp [.slice A19 N20 C21 E22, .slice A23 N24 C25 E26] H17 fun V27 H28 =>
 Zci (some V27) fun B29 => bcase (!B29) (Q (.bool false) H28) (Q (.bool true) H28))))) : Zae pg Zky [.agg [.str x0x0, .str x0x1, .slice a0x2 n0x2 c0x2 e0x2], .agg [.str x1x0, .str x1x1, .slice a1x2 n1x2 c1x2 e1x2]] h Q :=
 Zae.of_body kp (c := cod fn) (fn := fn) Go.Proofs.Tryz.func61 (by kernel_rfl) (by kernel_rfl) (Nat.le_of_ble_eq_true (by kernel_rfl))
  (cast (by kernel_rfl) ht)
end Zon
namespace Zfw
noncomputable abbrev fn : Func := Go.Proofs.Tryz.f37
def kp : Zbz := [(3000004, [4]), (1000004, [0, 1, 5]), (2000006, [26, 5, 0, 1])]
noncomputable def C (p : List Nat) : Code := (cod fn).sub p
def KR (Q : QT) : KT := Zes pg fn.results.toList Q
abbrev T4 := Pt → Nat → Nat → Bool → Pt → Nat → Nat → Bool → Int → Zaa → Prop
def E4 (R4 : T4) (env : Env) (h : Zaa) : Prop := Zbs 0 env fun v env => xSl (some v) fun a0 n0 c0 e0 => Zbs 1 env fun v env => xSl (some v) fun a1 n1 c1 e1 => Zbs 5 env fun v env => Zee .i64 v fun x5 => Zje env (R4 a0 n0 c0 e0 a1 n1 c1 e1 x5 h)
theorem Zhp {R4 : T4} {env : Env} {h : Zaa} (hi : E4 R4 env h) : ∃ a0, ∃ n0, ∃ c0, ∃ e0, ∃ a1, ∃ n1, ∃ c1, ∃ e1, ∃ x5, env = [(0, .slice a0 n0 c0 e0), (1, .slice a1 n1 c1 e1), (5, .int .i64 x5)] ∧ R4 a0 n0 c0 e0 a1 n1 c1 e1 x5 h := by
 unfold E4 at hi
 have hi0 := hi
 clear hi
 obtain ⟨_, _, rfl, hi1⟩ := Zab hi0
 obtain ⟨a0, n0, c0, e0, rfl, hi2⟩ := Zbf hi1
 obtain ⟨_, _, rfl, hi3⟩ := Zab hi2
 obtain ⟨a1, n1, c1, e1, rfl, hi4⟩ := Zbf hi3
 obtain ⟨_, _, rfl, hi5⟩ := Zab hi4
 obtain ⟨x5, rfl, hi6⟩ := Zao hi5
 obtain ⟨rfl, hi7⟩ := Zbg hi6
 have hi := hi7
 exact ⟨a0, n0, c0, e0, a1, n1, c1, e1, x5, rfl, hi⟩
def K0 (Q : QT) : KT := andThen (fun env' h' => (match kp.find 4000008 with | some ks => Den pg fn.ntmps (C [1, 1, 1]) (env'.keep ks) h' (KR Q) | none => den pg fn.ntmps kp (C [1, 1, 1]) env' h' (KR Q))) (KR Q)
def K1 (Q : QT) : KT := Zck 0 (K0 Q)
def K2 (Q : QT) : KT := left kp 4 (K1 Q)
def K3 (Q : QT) (R4 : T4) : KT := rnd ((kp.find 1000004).getD []) (E4 R4) (K2 Q)
def L4 (Q : QT) (a0 : Pt) (n0 c0 : Nat) (e0 : Bool) (a1 : Pt) (n1 c1 : Nat) (e1 : Bool) (x5 : Int) (h : Zaa) : Prop := Zec (Den pg fn.ntmps (C [1, 1, 0, 1, 0, 0])) ((kp.find 1000004).getD []) (K2 Q) [(0, .slice a0 n0 c0 e0), (1, .slice a1 n1 c1 e1), (5, .int .i64 x5)] h
def Zwn (Q : QT) (h : Zaa) : Prop := At (K1 Q) (.exit 0) [(4, .undef)] h
def L4t (Q : QT) (R4 : T4) (a0 : Pt) (n0 c0 : Nat) (e0 : Bool) (a1 : Pt) (n1 c1 : Nat) (e1 : Bool) (x5 : Int) (h : Zaa) : Prop :=
 bcase (decide ((x5 : Int) < (((n0 : Nat) : Int)))) ((0 ≤ (x5 : Int) ∧ (x5 : Int) < (n0 : Nat)) ∧ (Zbl a0 fun I0 O1 => (0 ≤ (x5 : Int) ∧ (x5 : Int) < (n1 : Nat)) ∧ (Zbl a1 fun I2 O3 => Zdh (Zbv h (.ptr (some (I0, O1 + (Int.toNat x5) * 3))) 3) fun K4 => Zap K4 fun C5 Z6 => Zbo (some C5) fun S7 => Zap Z6 fun C8 Z9 => Zbo (some C8) fun S10 => Zap Z9 fun C11 Z12 => xSl (some C11) fun A13 N14 C15 E16 => Zcr Z12 (Zdh (Zbv h (.ptr (some (I2, O3 + (Int.toNat x5) * 3))) 3) fun K17 => Zap K17 fun C18 Z19 => Zbo (some C18) fun S20 => Zap Z19 fun C21 Z22 => Zbo (some C21) fun S23 => Zap Z22 fun C24 Z25 => xSl (some C24) fun A26 N27 C28 E29 => Zcr Z25 ((Zbv h (.ptr (some (I0, O1 + (Int.toNat x5) * 3))) 3 = Zbv h (.ptr (some (I0, O1 + (Int.toNat x5) * 3))) 3) ∧ Zae pg Zky [.agg [.str S7, .str S10, .slice A13 N14 C15 E16], .agg [.str S20, .str S23, .slice A26 N27 C28 E29]] h fun V30 H31 =>
 Zci (some V30) fun B32 => bcase (!B32) (Q (.bool false) H31) (R4 a0 n0 c0 e0 a1 n1 c1 e1 (IntKind.wrap .i64 (x5 + 1)) H31)))))) (Zwn Q h)
theorem Zsc (Q : QT) (R4 : T4) (a0 : Pt) (n0 c0 : Nat) (e0 : Bool) (a1 : Pt) (n1 c1 : Nat) (e1 : Bool) (x5 : Int) (h : Zaa) (ht : L4t Q R4 a0 n0 c0 e0 a1 n1 c1 e1 x5 h) : Den pg fn.ntmps (C [1, 1, 0, 1, 0, 0]) [(0, .slice a0 n0 c0 e0), (1, .slice a1 n1 c1 e1), (5, .int .i64 x5)] h (K3 Q R4) :=
 Zba (kp := kp) (cast (by kernel_rfl) ht)
theorem L4ind (Q : QT) (a0 : Pt) (n0 c0 : Nat) (e0 : Bool) (a1 : Pt) (n1 c1 : Nat) (e1 : Bool) {G : Type} (J : G → Int → Zaa → Prop) (m : G → Nat)
 (hr : ∀ (g : G) (x5 : Int) (h : Zaa), J g x5 h → ∀ (R4 : T4), (∀ g' (x5 : Int) (h : Zaa), m g' < m g → J g' x5 h → R4 a0 n0 c0 e0 a1 n1 c1 e1 x5 h) → L4t Q R4 a0 n0 c0 e0 a1 n1 c1 e1 x5 h)
 (g : G) (x5 : Int) (h : Zaa) (hj : J g x5 h) : L4 Q a0 n0 c0 e0 a1 n1 c1 e1 x5 h := by
 refine Zec.inv2 (fun g => E4 fun a0' n0' c0' e0' a1' n1' c1' e1' x5 h => a0 = a0' ∧ n0 = n0' ∧ c0 = c0' ∧ e0 = e0' ∧ a1 = a1' ∧ n1 = n1' ∧ c1 = c1' ∧ e1 = e1' ∧ J g x5 h) (fun g => E4 fun a0' n0' c0' e0' a1' n1' c1' e1' x5 h => a0 = a0' ∧ n0 = n0' ∧ c0 = c0' ∧ e0 = e0' ∧ a1 = a1' ∧ n1 = n1' ∧ c1 = c1' ∧ e1 = e1' ∧ ∃ g', m g' < m g ∧ J g' x5 h) m ?_ ?_ g ⟨rfl, rfl, rfl, rfl, rfl, rfl, rfl, rfl, hj⟩
 ·intro g env h hi
  obtain ⟨a0', n0', c0', e0', a1', n1', c1', e1', x5, rfl, rfl, rfl, rfl, rfl, rfl, rfl, rfl, rfl, hj⟩ := Zhp hi
  exact Zsc Q _ a0 n0 c0 e0 a1 n1 c1 e1 x5 h (hr g x5 h hj (fun a0' n0' c0' e0' a1' n1' c1' e1' x5 h => a0 = a0' ∧ n0 = n0' ∧ c0 = c0' ∧ e0 = e0' ∧ a1 = a1' ∧ n1 = n1' ∧ c1 = c1' ∧ e1 = e1' ∧ ∃ g', m g' < m g ∧ J g' x5 h) fun g' x5 h hlt hj => ⟨rfl, rfl, rfl, rfl, rfl, rfl, rfl, rfl, g', hlt, hj⟩)
 ·intro g env h hi
  obtain ⟨a0', n0', c0', e0', a1', n1', c1', e1', x5, rfl, rfl, rfl, rfl, rfl, rfl, rfl, rfl, rfl, g', hlt, hj⟩ := Zhp hi
  exact ⟨g', hlt, rfl, rfl, rfl, rfl, rfl, rfl, rfl, rfl, hj⟩
theorem A4x0i (Q : QT) (h : Zaa) (ht :
 Q (.bool true) h) : Zwn Q h :=
 At.mk (cast (by kernel_rfl) ht)
theorem call (a0 : Pt) (n0 c0 : Nat) (e0 : Bool) (a1 : Pt) (n1 c1 : Nat) (e1 : Bool) (h : Zaa) (Q : QT) (ht :
 bcase (!((((n0 : Nat) : Int) : Int) == (((n1 : Nat) : Int)))) (Q (.bool false) h) (L4 Q a0 n0 c0 e0 a1 n1 c1 e1 0 h)) : Zae pg Zkk [.slice a0 n0 c0 e0, .slice a1 n1 c1 e1] h Q :=
 Zae.of_body kp (c := cod fn) (fn := fn) Go.Proofs.Tryz.func37 (by kernel_rfl) (by kernel_rfl) (Nat.le_of_ble_eq_true (by kernel_rfl))
  (cast (by kernel_rfl) ht)
end Zfw
namespace Zrt
noncomputable abbrev fn : Func := Go.Proofs.Tryz.f14
def kp : Zbz := []
noncomputable def C (p : List Nat) : Code := (cod fn).sub p
def KR (Q : QT) : KT := Zes pg fn.results.toList Q
theorem call (a0x0 : Pt) (n0x0 c0x0 : Nat) (e0x0 : Bool) (a0x1 : Pt) (n0x1 c0x1 : Nat) (e0x1 : Bool) (a1x0 : Pt) (n1x0 c1x0 : Nat) (e1x0 : Bool) (a1x1 : Pt) (n1x1 c1x1 : Nat) (e1x1 : Bool) (h : Zaa) (Q : QT) (ht :
 Zdc (h ++ [.cells Zaf [.slice a0x0 n0x0 c0x0 e0x0, .slice a0x1 n0x1 c0x1 e0x1] false]) fun H0 => Zdc (H0 ++ [.cells Zaf [.slice a1x0 n1x0 c1x0 e1x0, .slice a1x1 n1x1 c1x1 e1x1] false]) fun H1 => xSl (Zak H1 (.ptr (some (h.length, 0 + 0)))) fun A2 N3 C4 E5 => xSl (Zak H1 (.ptr (some (H0.length, 0 + 0)))) fun A6 N7 C8 E9 => Zae pg Zmk [.slice A2 N3 C4 E5, .slice A6 N7 C8 E9] H1 fun V10 H11 =>
 Zci (some V10) fun B12 => bcase (!B12) (Q (.bool false) H11) (xSl (Zak H11 (.ptr (some (h.length, 0 + 1)))) fun A13 N14 C15 E16 => xSl (Zak H11 (.ptr (some (H0.length, 0 + 1)))) fun A17 N18 C19 E20 => Zae pg Zkk [.slice A13 N14 C15 E16, .slice A17 N18 C19 E20] H11 fun V21 H22 =>
 Zci (some V21) fun B23 => bcase (!B23) (Q (.bool false) H22) (Q (.bool true) H22))) : Zae pg Znx [.agg [.slice a0x0 n0x0 c0x0 e0x0, .slice a0x1 n0x1 c0x1 e0x1], .agg [.slice a1x0 n1x0 c1x0 e1x0, .slice a1x1 n1x1 c1x1 e1x1]] h Q :=
 Zae.of_body kp (c := cod fn) (fn := fn) Go.Proofs.Tryz.func14 (by kernel_rfl) (by kernel_rfl) (Nat.le_of_ble_eq_true (by kernel_rfl))
  (cast (by kernel_rfl) ht)
end Zrt
end Go.Sim
