/- A part of the proof of a statement of this seat: see the text that holds the theorem. No condition. -/
import Derived.Test.YtlljbdepamknoaaGreatNm
set_option linter.unusedVariables false
set_option linter.unusedSimpArgs false
set_option linter.all false
set_option maxRecDepth 100000
set_option linter.unusedVariables false
namespace Go.Sim
open Go Go.RowKit
namespace Zdn
noncomputable abbrev fn : Func := Go.Proofs.Tryz.f70
def kp : Zcb := [(3000002, [2]), (1000002, [0, 5, 6, 7]), (2000004, [36, 7, 6, 5, 0]), (4000006, [7, 6, 5, 0])]
noncomputable def C (p : List Nat) : Code := (cod fn).sub p
def KR (Q : QT) : KT := Zez pg fn.results.toList Q
abbrev T2 := Pt → Nat → Nat → Bool → Pt → Nat → Nat → Bool → Int → Int → Zaa → Prop
def E2 (R2 : T2) (env : Env) (h : Zaa) : Prop := Zbt 0 env fun v env => xSl (some v) fun a0 n0 c0 e0 => Zbt 5 env fun v env => xSl (some v) fun a5 n5 c5 e5 => Zbt 6 env fun v env => Zei .i64 v fun x6 => Zbt 7 env fun v env => Zei .i64 v fun x7 => Zjr env (R2 a0 n0 c0 e0 a5 n5 c5 e5 x6 x7 h)
theorem Zdx {R2 : T2} {env : Env} {h : Zaa} (hi : E2 R2 env h) : ∃ a0, ∃ n0, ∃ c0, ∃ e0, ∃ a5, ∃ n5, ∃ c5, ∃ e5, ∃ x6, ∃ x7, env = [(0, .slice a0 n0 c0 e0), (5, .slice a5 n5 c5 e5), (6, .int .i64 x6), (7, .int .i64 x7)] ∧ R2 a0 n0 c0 e0 a5 n5 c5 e5 x6 x7 h := by
  unfold E2 at hi
  have hi0 := hi
  clear hi
  obtain ⟨_, _, rfl, hi1⟩ := Zab hi0
  obtain ⟨a0, n0, c0, e0, rfl, hi2⟩ := Zbh hi1
  obtain ⟨_, _, rfl, hi3⟩ := Zab hi2
  obtain ⟨a5, n5, c5, e5, rfl, hi4⟩ := Zbh hi3
  obtain ⟨_, _, rfl, hi5⟩ := Zab hi4
  obtain ⟨x6, rfl, hi6⟩ := Zat hi5
  obtain ⟨_, _, rfl, hi7⟩ := Zab hi6
  obtain ⟨x7, rfl, hi8⟩ := Zat hi7
  obtain ⟨rfl, hi9⟩ := Zbi hi8
  have hi := hi9
  exact ⟨a0, n0, c0, e0, a5, n5, c5, e5, x6, x7, rfl, hi⟩
def K0 (Q : QT) : KT := andThen (fun env' h' => (match kp.find 4000007 with | some ks => Den pg fn.ntmps (C [1, 1]) (env'.keep ks) h' (KR Q) | none => den pg fn.ntmps kp (C [1, 1]) env' h' (KR Q))) (KR Q)
def K1 (Q : QT) : KT := Zcg 0 (K0 Q)
def K2 (Q : QT) : KT := Zgz kp 2 (K1 Q)
def K3 (Q : QT) (R2 : T2) : KT := rnd ((kp.find 1000002).getD []) (E2 R2) (K2 Q)
def L2 (Q : QT) (a0 : Pt) (n0 c0 : Nat) (e0 : Bool) (a5 : Pt) (n5 c5 : Nat) (e5 : Bool) (x6 x7 : Int) (h : Zaa) : Prop := Zed (Den pg fn.ntmps (C [1, 0, 1, 0, 0])) ((kp.find 1000002).getD []) (K2 Q) [(0, .slice a0 n0 c0 e0), (5, .slice a5 n5 c5 e5), (6, .int .i64 x6), (7, .int .i64 x7)] h
def J6 (Q : QT) (R2 : T2) (x7 x6 : Int) (a5 : Pt) (n5 c5 : Nat) (e5 : Bool) (a0 : Pt) (n0 c0 : Nat) (e0 : Bool) (h : Zaa) : Prop := Den pg fn.ntmps (C [1, 0, 1, 0, 0, 1, 1, 1]) [(7, .int .i64 x7), (6, .int .i64 x6), (5, .slice a5 n5 c5 e5), (0, .slice a0 n0 c0 e0)] h (K3 Q R2)
def Zno (Q : QT) (h : Zaa) : Prop := At (K1 Q) (.exit 0) [(2, .undef)] h
def L2t (Q : QT) (R2 : T2) (a0 : Pt) (n0 c0 : Nat) (e0 : Bool) (a5 : Pt) (n5 c5 : Nat) (e5 : Bool) (x6 x7 : Int) (h : Zaa) : Prop :=
 bcase (decide ((x7 : Int) < x6)) ((0 ≤ (x7 : Int) ∧ (x7 : Int) < (n5 : Nat)) ∧ (Zbl a5 fun I0 O1 => Zcx (Zbp h (.ptr (some (I0, O1 + (Int.toNat x7) * 2))) 2) fun K2 => Zam K2 fun C3 Z4 => Zbk (some C3) fun S5 => Zam Z4 fun C6 Z7 => Zbk (some C6) fun S8 => Zci Z7 (Zdg (h ++ [.cells Zbb [.str [], .str []] false]) fun H9 => Zcu (Zbn H9 (.ptr (some (h.length, 0))) [.str S5, .str S8]) fun H10 => Zbk (Zag H10 (.ptr (some (h.length, 0 + 0)))) fun S11 => Zad pg Zkv [.str S11] H10 fun V12 H13 =>
 Zbz (some V12) fun B14 => bcase (!B14) ((Zag H13 (.tup []) = Zag H13 (.tup [])) ∧ Q (.bool false) H13) (Zbk (Zag H13 (.ptr (some (h.length, 0 + 1)))) fun S15 => Zad pg Zev [.str S15] H13 fun V16 H17 =>
 Zbz (some V16) fun B18 => bcase (!B18) ((Zag H17 (.tup []) = Zag H17 (.tup [])) ∧ Q (.bool false) H17) (bcase (decide ((x7 : Int) > 0)) ((0 ≤ (IntKind.wrap .i64 (x7 - 1) : Int) ∧ (IntKind.wrap .i64 (x7 - 1) : Int) < (n0 : Nat)) ∧ (Zbl a0 fun I19 O20 => Zbk (Zag H17 (.ptr (some (I19, O20 + (Int.toNat (IntKind.wrap .i64 (x7 - 1))) * 2 + 0)))) fun S21 => Zbk (Zag H17 (.ptr (some (h.length, 0 + 0)))) fun S22 => (Zag H17 (.ptr (some (I19, O20 + (Int.toNat (IntKind.wrap .i64 (x7 - 1))) * 2 + 0))) = Zag H17 (.ptr (some (I19, O20 + (Int.toNat (IntKind.wrap .i64 (x7 - 1))) * 2 + 0)))) ∧ bcase (!Zdv S21 S22) (Q (.bool false) H17) (J6 Q R2 x7 x6 a5 n5 c5 e5 a0 n0 c0 e0 H17))) ((Zag H17 (.tup []) = Zag H17 (.tup [])) ∧ J6 Q R2 x7 x6 a5 n5 c5 e5 a0 n0 c0 e0 H17)))))) (Zno Q h)
theorem Zkf (Q : QT) (R2 : T2) (a0 : Pt) (n0 c0 : Nat) (e0 : Bool) (a5 : Pt) (n5 c5 : Nat) (e5 : Bool) (x6 x7 : Int) (h : Zaa) (ht : L2t Q R2 a0 n0 c0 e0 a5 n5 c5 e5 x6 x7 h) : Den pg fn.ntmps (C [1, 0, 1, 0, 0]) [(0, .slice a0 n0 c0 e0), (5, .slice a5 n5 c5 e5), (6, .int .i64 x6), (7, .int .i64 x7)] h (K3 Q R2) :=
  Zay (kp := kp) (cast (by kernel_rfl) ht)
theorem L2ind (Q : QT) (a0 : Pt) (n0 c0 : Nat) (e0 : Bool) (a5 : Pt) (n5 c5 : Nat) (e5 : Bool) (x6 : Int) {G : Type} (J : G → Int → Zaa → Prop) (m : G → Nat)
 (hr : ∀ (g : G) (x7 : Int) (h : Zaa), J g x7 h → ∀ (R2 : T2), (∀ g' (x7 : Int) (h : Zaa), m g' < m g → J g' x7 h → R2 a0 n0 c0 e0 a5 n5 c5 e5 x6 x7 h) → L2t Q R2 a0 n0 c0 e0 a5 n5 c5 e5 x6 x7 h)
 (g : G) (x7 : Int) (h : Zaa) (hj : J g x7 h) : L2 Q a0 n0 c0 e0 a5 n5 c5 e5 x6 x7 h := by
  refine Zed.inv2 (fun g => E2 fun a0' n0' c0' e0' a5' n5' c5' e5' x6' x7 h => a0 = a0' ∧ n0 = n0' ∧ c0 = c0' ∧ e0 = e0' ∧ a5 = a5' ∧ n5 = n5' ∧ c5 = c5' ∧ e5 = e5' ∧ x6 = x6' ∧ J g x7 h) (fun g => E2 fun a0' n0' c0' e0' a5' n5' c5' e5' x6' x7 h => a0 = a0' ∧ n0 = n0' ∧ c0 = c0' ∧ e0 = e0' ∧ a5 = a5' ∧ n5 = n5' ∧ c5 = c5' ∧ e5 = e5' ∧ x6 = x6' ∧ ∃ g', m g' < m g ∧ J g' x7 h) m ?_ ?_ g ⟨rfl, rfl, rfl, rfl, rfl, rfl, rfl, rfl, rfl, hj⟩
  · intro g env h hi
    obtain ⟨a0', n0', c0', e0', a5', n5', c5', e5', x6', x7, rfl, rfl, rfl, rfl, rfl, rfl, rfl, rfl, rfl, rfl, hj⟩ := Zdx hi
    exact Zkf Q _ a0 n0 c0 e0 a5 n5 c5 e5 x6 x7 h (hr g x7 h hj (fun a0' n0' c0' e0' a5' n5' c5' e5' x6' x7 h => a0 = a0' ∧ n0 = n0' ∧ c0 = c0' ∧ e0 = e0' ∧ a5 = a5' ∧ n5 = n5' ∧ c5 = c5' ∧ e5 = e5' ∧ x6 = x6' ∧ ∃ g', m g' < m g ∧ J g' x7 h) fun g' x7 h hlt hj => ⟨rfl, rfl, rfl, rfl, rfl, rfl, rfl, rfl, rfl, g', hlt, hj⟩)
  · intro g env h hi
    obtain ⟨a0', n0', c0', e0', a5', n5', c5', e5', x6', x7, rfl, rfl, rfl, rfl, rfl, rfl, rfl, rfl, rfl, rfl, g', hlt, hj⟩ := Zdx hi
    exact ⟨g', hlt, rfl, rfl, rfl, rfl, rfl, rfl, rfl, rfl, rfl, hj⟩
theorem J6i (Q : QT) (R2 : T2) (x7 x6 : Int) (a5 : Pt) (n5 c5 : Nat) (e5 : Bool) (a0 : Pt) (n0 c0 : Nat) (e0 : Bool) (h : Zaa) (ht :
 R2 a0 n0 c0 e0 a5 n5 c5 e5 x6 (IntKind.wrap .i64 (x7 + 1)) h) : J6 Q R2 x7 x6 a5 n5 c5 e5 a0 n0 c0 e0 h :=
  Zay (kp := kp) (cast (by kernel_rfl) ht)
theorem A2x0i (Q : QT) (h : Zaa) (ht :
 Q (.bool true) h) : Zno Q h :=
  At.mk (cast (by kernel_rfl) ht)
theorem call (a0 : Pt) (n0 c0 : Nat) (e0 : Bool) (h : Zaa) (Q : QT) (ht :
 L2 Q a0 n0 c0 e0 a0 n0 c0 e0 (((n0 : Nat) : Int)) 0 h) : Zad pg Zia [.slice a0 n0 c0 e0] h Q :=
  Zad.of_body kp (c := cod fn) (fn := fn) Go.Proofs.Tryz.func70 (by kernel_rfl) (by kernel_rfl) (Nat.le_of_ble_eq_true (by kernel_rfl))
    (cast (by kernel_rfl) ht)
end Zdn
namespace Zcl
noncomputable abbrev fn : Func := Go.Proofs.Tryz.f29
def kp : Zcb := [(4000003, [1, 0]), (3000005, [6]), (1000005, [0, 1, 6, 20, 21]), (3000009, [6, 8, 21, 20, 1, 0]), (1000009, [0, 1, 6, 8, 20, 21, 29, 30, 31])]
noncomputable def C (p : List Nat) : Code := (cod fn).sub p
def KR (Q : QT) : KT := Zez pg fn.results.toList Q
abbrev T5 := Pt → Nat → Nat → Bool → List Nat → List Nat → Int → Int → Zaa → Prop
def E5 (R5 : T5) (env : Env) (h : Zaa) : Prop := Zbt 0 env fun v env => xSl (some v) fun a0 n0 c0 e0 => Zbt 1 env fun v env => Zbk (some v) fun x1 => Zbt 6 env fun v env => Zbk (some v) fun x6 => Zbt 20 env fun v env => Zei .i64 v fun x20 => Zbt 21 env fun v env => Zei .i64 v fun x21 => Zjr env (R5 a0 n0 c0 e0 x1 x6 x20 x21 h)
theorem Zhm {R5 : T5} {env : Env} {h : Zaa} (hi : E5 R5 env h) : ∃ a0, ∃ n0, ∃ c0, ∃ e0, ∃ x1, ∃ x6, ∃ x20, ∃ x21, env = [(0, .slice a0 n0 c0 e0), (1, .str x1), (6, .str x6), (20, .int .i64 x20), (21, .int .i64 x21)] ∧ R5 a0 n0 c0 e0 x1 x6 x20 x21 h := by
  unfold E5 at hi
  have hi0 := hi
  clear hi
  obtain ⟨_, _, rfl, hi1⟩ := Zab hi0
  obtain ⟨a0, n0, c0, e0, rfl, hi2⟩ := Zbh hi1
  obtain ⟨_, _, rfl, hi3⟩ := Zab hi2
  obtain ⟨x1, rfl, hi4⟩ := Zch hi3
  obtain ⟨_, _, rfl, hi5⟩ := Zab hi4
  obtain ⟨x6, rfl, hi6⟩ := Zch hi5
  obtain ⟨_, _, rfl, hi7⟩ := Zab hi6
  obtain ⟨x20, rfl, hi8⟩ := Zat hi7
  obtain ⟨_, _, rfl, hi9⟩ := Zab hi8
  obtain ⟨x21, rfl, hi10⟩ := Zat hi9
  obtain ⟨rfl, hi11⟩ := Zbi hi10
  have hi := hi11
  exact ⟨a0, n0, c0, e0, x1, x6, x20, x21, rfl, hi⟩
abbrev T9 := Pt → Nat → Nat → Bool → List Nat → List Nat → List Nat → Int → Int → Pt → Nat → Nat → Bool → Int → Int → Zaa → Prop
def E9 (R9 : T9) (env : Env) (h : Zaa) : Prop := Zbt 0 env fun v env => xSl (some v) fun a0 n0 c0 e0 => Zbt 1 env fun v env => Zbk (some v) fun x1 => Zbt 6 env fun v env => Zbk (some v) fun x6 => Zbt 8 env fun v env => Zbk (some v) fun x8 => Zbt 20 env fun v env => Zei .i64 v fun x20 => Zbt 21 env fun v env => Zei .i64 v fun x21 => Zbt 29 env fun v env => xSl (some v) fun a29 n29 c29 e29 => Zbt 30 env fun v env => Zei .i64 v fun x30 => Zbt 31 env fun v env => Zei .i64 v fun x31 => Zjr env (R9 a0 n0 c0 e0 x1 x6 x8 x20 x21 a29 n29 c29 e29 x30 x31 h)
theorem Yab {R9 : T9} {env : Env} {h : Zaa} (hi : E9 R9 env h) : ∃ a0, ∃ n0, ∃ c0, ∃ e0, ∃ x1, ∃ x6, ∃ x8, ∃ x20, ∃ x21, ∃ a29, ∃ n29, ∃ c29, ∃ e29, ∃ x30, ∃ x31, env = [(0, .slice a0 n0 c0 e0), (1, .str x1), (6, .str x6), (8, .str x8), (20, .int .i64 x20), (21, .int .i64 x21), (29, .slice a29 n29 c29 e29), (30, .int .i64 x30), (31, .int .i64 x31)] ∧ R9 a0 n0 c0 e0 x1 x6 x8 x20 x21 a29 n29 c29 e29 x30 x31 h := by
  unfold E9 at hi
  have hi0 := hi
  clear hi
  obtain ⟨_, _, rfl, hi1⟩ := Zab hi0
  obtain ⟨a0, n0, c0, e0, rfl, hi2⟩ := Zbh hi1
  obtain ⟨_, _, rfl, hi3⟩ := Zab hi2
  obtain ⟨x1, rfl, hi4⟩ := Zch hi3
  obtain ⟨_, _, rfl, hi5⟩ := Zab hi4
  obtain ⟨x6, rfl, hi6⟩ := Zch hi5
  obtain ⟨_, _, rfl, hi7⟩ := Zab hi6
  obtain ⟨x8, rfl, hi8⟩ := Zch hi7
  obtain ⟨_, _, rfl, hi9⟩ := Zab hi8
  obtain ⟨x20, rfl, hi10⟩ := Zat hi9
  obtain ⟨_, _, rfl, hi11⟩ := Zab hi10
  obtain ⟨x21, rfl, hi12⟩ := Zat hi11
  obtain ⟨_, _, rfl, hi13⟩ := Zab hi12
  obtain ⟨a29, n29, c29, e29, rfl, hi14⟩ := Zbh hi13
  obtain ⟨_, _, rfl, hi15⟩ := Zab hi14
  obtain ⟨x30, rfl, hi16⟩ := Zat hi15
  obtain ⟨_, _, rfl, hi17⟩ := Zab hi16
  obtain ⟨x31, rfl, hi18⟩ := Zat hi17
  obtain ⟨rfl, hi19⟩ := Zbi hi18
  have hi := hi19
  exact ⟨a0, n0, c0, e0, x1, x6, x8, x20, x21, a29, n29, c29, e29, x30, x31, rfl, hi⟩
def K0 (Q : QT) : KT := andThen (fun env' h' => (match kp.find 4000016 with | some ks => Den pg fn.ntmps (C [1, 1, 1, 1]) (env'.keep ks) h' (KR Q) | none => den pg fn.ntmps kp (C [1, 1, 1, 1]) env' h' (KR Q))) (KR Q)
def K1 (Q : QT) : KT := Zcg 0 (K0 Q)
def K2 (Q : QT) : KT := Zgz kp 5 (K1 Q)
def K3 (Q : QT) (R5 : T5) : KT := rnd ((kp.find 1000005).getD []) (E5 R5) (K2 Q)
def K4 (Q : QT) (R5 : T5) : KT := andThen (fun env' h' => (match kp.find 4000015 with | some ks => Den pg fn.ntmps (C [1, 1, 1, 0, 1, 0, 0, 1, 1, 1]) (env'.keep ks) h' (K3 Q R5) | none => den pg fn.ntmps kp (C [1, 1, 1, 0, 1, 0, 0, 1, 1, 1]) env' h' (K3 Q R5))) (K3 Q R5)
def K5 (Q : QT) (R5 : T5) : KT := Zcg 1 (K4 Q R5)
def K6 (Q : QT) (R5 : T5) : KT := andThen (fun env' h' => (match kp.find 4000014 with | some ks => Den pg fn.ntmps (C [1, 1, 1, 0, 1, 0, 0, 1, 1, 0, 0, 1, 1, 1]) (env'.keep ks) h' (K5 Q R5) | none => den pg fn.ntmps kp (C [1, 1, 1, 0, 1, 0, 0, 1, 1, 0, 0, 1, 1, 1]) env' h' (K5 Q R5))) (K5 Q R5)
def K7 (Q : QT) (R5 : T5) : KT := Zcg 2 (K6 Q R5)
def K8 (Q : QT) (R5 : T5) : KT := Zgz kp 9 (K7 Q R5)
def K9 (Q : QT) (R5 : T5) (R9 : T9) : KT := rnd ((kp.find 1000009).getD []) (E9 R9) (K8 Q R5)
def J3 (Q : QT) (x1 : List Nat) (a0 : Pt) (n0 c0 : Nat) (e0 : Bool) (h : Zaa) : Prop := Den pg fn.ntmps (C [1, 1]) [(1, .str x1), (0, .slice a0 n0 c0 e0)] h (KR Q)
def L5 (Q : QT) (a0 : Pt) (n0 c0 : Nat) (e0 : Bool) (x1 x6 : List Nat) (x20 x21 : Int) (h : Zaa) : Prop := Zed (Den pg fn.ntmps (C [1, 1, 1, 0, 1, 0, 0])) ((kp.find 1000005).getD []) (K2 Q) [(0, .slice a0 n0 c0 e0), (1, .str x1), (6, .str x6), (20, .int .i64 x20), (21, .int .i64 x21)] h
def L9 (Q : QT) (R5 : T5) (a0 : Pt) (n0 c0 : Nat) (e0 : Bool) (x1 x6 x8 : List Nat) (x20 x21 : Int) (a29 : Pt) (n29 c29 : Nat) (e29 : Bool) (x30 x31 : Int) (h : Zaa) : Prop := Zed (Den pg fn.ntmps (C [1, 1, 1, 0, 1, 0, 0, 1, 1, 0, 0, 1, 1, 0, 1, 0, 0])) ((kp.find 1000009).getD []) (K8 Q R5) [(0, .slice a0 n0 c0 e0), (1, .str x1), (6, .str x6), (8, .str x8), (20, .int .i64 x20), (21, .int .i64 x21), (29, .slice a29 n29 c29 e29), (30, .int .i64 x30), (31, .int .i64 x31)] h
def A5x0 (Q : QT) (x6 : List Nat) (h : Zaa) : Prop := At (K1 Q) (.exit 0) [(6, .str x6)] h
def A9x2 (Q : QT) (R5 : T5) (x6 x8 : List Nat) (x21 x20 : Int) (x1 : List Nat) (a0 : Pt) (n0 c0 : Nat) (e0 : Bool) (h : Zaa) : Prop := At (K7 Q R5) (.exit 2) [(6, .str x6), (8, .str x8), (21, .int .i64 x21), (20, .int .i64 x20), (1, .str x1), (0, .slice a0 n0 c0 e0)] h
theorem J3i (Q : QT) (x1 : List Nat) (a0 : Pt) (n0 c0 : Nat) (e0 : Bool) (h : Zaa) (ht :
 L5 Q a0 n0 c0 e0 x1 [] (((List.length x1 : Nat) : Int)) 0 h) : J3 Q x1 a0 n0 c0 e0 h :=
  Zay (kp := kp) (cast (by kernel_rfl) ht)
def L5t (Q : QT) (R5 : T5) (a0 : Pt) (n0 c0 : Nat) (e0 : Bool) (x1 x6 : List Nat) (x20 x21 : Int) (h : Zaa) : Prop :=
 bcase (decide ((x21 : Int) < x20)) ((0 ≤ (x21 : Int) ∧ (x21 : Int) ≤ IntKind.wrap .i64 (x21 + 1) ∧ (IntKind.wrap .i64 (x21 + 1) : Int) ≤ (List.length x1 : Nat)) ∧ (L9 Q R5 a0 n0 c0 e0 x1 x6 (sub x1 x21 (IntKind.wrap .i64 (x21 + 1))) x20 x21 a0 n0 c0 e0 (((n0 : Nat) : Int)) 0 h)) (A5x0 Q x6 h)
theorem Zqx (Q : QT) (R5 : T5) (a0 : Pt) (n0 c0 : Nat) (e0 : Bool) (x1 x6 : List Nat) (x20 x21 : Int) (h : Zaa) (ht : L5t Q R5 a0 n0 c0 e0 x1 x6 x20 x21 h) : Den pg fn.ntmps (C [1, 1, 1, 0, 1, 0, 0]) [(0, .slice a0 n0 c0 e0), (1, .str x1), (6, .str x6), (20, .int .i64 x20), (21, .int .i64 x21)] h (K3 Q R5) :=
  Zay (kp := kp) (cast (by kernel_rfl) ht)
theorem L5ind (Q : QT) (a0 : Pt) (n0 c0 : Nat) (e0 : Bool) (x1 : List Nat) (x20 : Int) {G : Type} (J : G → List Nat → Int → Zaa → Prop) (m : G → Nat)
 (hr : ∀ (g : G) (x6 : List Nat) (x21 : Int) (h : Zaa), J g x6 x21 h → ∀ (R5 : T5), (∀ g' (x6 : List Nat) (x21 : Int) (h : Zaa), m g' < m g → J g' x6 x21 h → R5 a0 n0 c0 e0 x1 x6 x20 x21 h) → L5t Q R5 a0 n0 c0 e0 x1 x6 x20 x21 h)
 (g : G) (x6 : List Nat) (x21 : Int) (h : Zaa) (hj : J g x6 x21 h) : L5 Q a0 n0 c0 e0 x1 x6 x20 x21 h := by
  refine Zed.inv2 (fun g => E5 fun a0' n0' c0' e0' x1' x6 x20' x21 h => a0 = a0' ∧ n0 = n0' ∧ c0 = c0' ∧ e0 = e0' ∧ x1 = x1' ∧ x20 = x20' ∧ J g x6 x21 h) (fun g => E5 fun a0' n0' c0' e0' x1' x6 x20' x21 h => a0 = a0' ∧ n0 = n0' ∧ c0 = c0' ∧ e0 = e0' ∧ x1 = x1' ∧ x20 = x20' ∧ ∃ g', m g' < m g ∧ J g' x6 x21 h) m ?_ ?_ g ⟨rfl, rfl, rfl, rfl, rfl, rfl, hj⟩
  · intro g env h hi
    obtain ⟨a0', n0', c0', e0', x1', x6, x20', x21, rfl, rfl, rfl, rfl, rfl, rfl, rfl, hj⟩ := Zhm hi
    exact Zqx Q _ a0 n0 c0 e0 x1 x6 x20 x21 h (hr g x6 x21 h hj (fun a0' n0' c0' e0' x1' x6 x20' x21 h => a0 = a0' ∧ n0 = n0' ∧ c0 = c0' ∧ e0 = e0' ∧ x1 = x1' ∧ x20 = x20' ∧ ∃ g', m g' < m g ∧ J g' x6 x21 h) fun g' x6 x21 h hlt hj => ⟨rfl, rfl, rfl, rfl, rfl, rfl, g', hlt, hj⟩)
  · intro g env h hi
    obtain ⟨a0', n0', c0', e0', x1', x6, x20', x21, rfl, rfl, rfl, rfl, rfl, rfl, rfl, g', hlt, hj⟩ := Zhm hi
    exact ⟨g', hlt, rfl, rfl, rfl, rfl, rfl, rfl, hj⟩
def L9t (Q : QT) (R5 : T5) (R9 : T9) (a0 : Pt) (n0 c0 : Nat) (e0 : Bool) (x1 x6 x8 : List Nat) (x20 x21 : Int) (a29 : Pt) (n29 c29 : Nat) (e29 : Bool) (x30 x31 : Int) (h : Zaa) : Prop :=
 bcase (decide ((x31 : Int) < x30)) ((0 ≤ (x31 : Int) ∧ (x31 : Int) < (n29 : Nat)) ∧ (Zbl a29 fun I6 O7 => Zcx (Zbp h (.ptr (some (I6, O7 + (Int.toNat x31) * 2))) 2) fun K8 => Zam K8 fun C9 Z10 => Zbk (some C9) fun S11 => Zam Z10 fun C12 Z13 => Zbk (some C12) fun S14 => Zci Z13 (Zdg (h ++ [.cells Zbb [.str [], .str []] false]) fun H15 => Zcu (Zbn H15 (.ptr (some (h.length, 0))) [.str S11, .str S14]) fun H16 => Zbk (Zag H16 (.ptr (some (h.length, 0 + 0)))) fun S17 => bcase (decide (S17 = x8)) (Zbk (Zag H16 (.ptr (some (h.length, 0 + 1)))) fun S18 => A9x2 Q R5 x6 S18 x21 x20 x1 a0 n0 c0 e0 H16) (R9 a0 n0 c0 e0 x1 x6 x8 x20 x21 a29 n29 c29 e29 x30 (IntKind.wrap .i64 (x31 + 1)) H16)))) (A9x2 Q R5 x6 x8 x21 x20 x1 a0 n0 c0 e0 h)
theorem Ymv (Q : QT) (R5 : T5) (R9 : T9) (a0 : Pt) (n0 c0 : Nat) (e0 : Bool) (x1 x6 x8 : List Nat) (x20 x21 : Int) (a29 : Pt) (n29 c29 : Nat) (e29 : Bool) (x30 x31 : Int) (h : Zaa) (ht : L9t Q R5 R9 a0 n0 c0 e0 x1 x6 x8 x20 x21 a29 n29 c29 e29 x30 x31 h) : Den pg fn.ntmps (C [1, 1, 1, 0, 1, 0, 0, 1, 1, 0, 0, 1, 1, 0, 1, 0, 0]) [(0, .slice a0 n0 c0 e0), (1, .str x1), (6, .str x6), (8, .str x8), (20, .int .i64 x20), (21, .int .i64 x21), (29, .slice a29 n29 c29 e29), (30, .int .i64 x30), (31, .int .i64 x31)] h (K9 Q R5 R9) :=
  Zay (kp := kp) (cast (by kernel_rfl) ht)
theorem L9ind (Q : QT) (R5 : T5) (a0 : Pt) (n0 c0 : Nat) (e0 : Bool) (x1 x6 : List Nat) (x20 x21 : Int) (a29 : Pt) (n29 c29 : Nat) (e29 : Bool) (x30 : Int) {G : Type} (J : G → List Nat → Int → Zaa → Prop) (m : G → Nat)
 (hr : ∀ (g : G) (x8 : List Nat) (x31 : Int) (h : Zaa), J g x8 x31 h → ∀ (R9 : T9), (∀ g' (x8 : List Nat) (x31 : Int) (h : Zaa), m g' < m g → J g' x8 x31 h → R9 a0 n0 c0 e0 x1 x6 x8 x20 x21 a29 n29 c29 e29 x30 x31 h) → L9t Q R5 R9 a0 n0 c0 e0 x1 x6 x8 x20 x21 a29 n29 c29 e29 x30 x31 h)
 (g : G) (x8 : List Nat) (x31 : Int) (h : Zaa) (hj : J g x8 x31 h) : L9 Q R5 a0 n0 c0 e0 x1 x6 x8 x20 x21 a29 n29 c29 e29 x30 x31 h := by
  refine Zed.inv2 (fun g => E9 fun a0' n0' c0' e0' x1' x6' x8 x20' x21' a29' n29' c29' e29' x30' x31 h => a0 = a0' ∧ n0 = n0' ∧ c0 = c0' ∧ e0 = e0' ∧ x1 = x1' ∧ x6 = x6' ∧ x20 = x20' ∧ x21 = x21' ∧ a29 = a29' ∧ n29 = n29' ∧ c29 = c29' ∧ e29 = e29' ∧ x30 = x30' ∧ J g x8 x31 h) (fun g => E9 fun a0' n0' c0' e0' x1' x6' x8 x20' x21' a29' n29' c29' e29' x30' x31 h => a0 = a0' ∧ n0 = n0' ∧ c0 = c0' ∧ e0 = e0' ∧ x1 = x1' ∧ x6 = x6' ∧ x20 = x20' ∧ x21 = x21' ∧ a29 = a29' ∧ n29 = n29' ∧ c29 = c29' ∧ e29 = e29' ∧ x30 = x30' ∧ ∃ g', m g' < m g ∧ J g' x8 x31 h) m ?_ ?_ g ⟨rfl, rfl, rfl, rfl, rfl, rfl, rfl, rfl, rfl, rfl, rfl, rfl, rfl, hj⟩
  · intro g env h hi
    obtain ⟨a0', n0', c0', e0', x1', x6', x8, x20', x21', a29', n29', c29', e29', x30', x31, rfl, rfl, rfl, rfl, rfl, rfl, rfl, rfl, rfl, rfl, rfl, rfl, rfl, rfl, hj⟩ := Yab hi
    exact Ymv Q R5 (fun a0' n0' c0' e0' x1' x6' x8 x20' x21' a29' n29' c29' e29' x30' x31 h => a0 = a0' ∧ n0 = n0' ∧ c0 = c0' ∧ e0 = e0' ∧ x1 = x1' ∧ x6 = x6' ∧ x20 = x20' ∧ x21 = x21' ∧ a29 = a29' ∧ n29 = n29' ∧ c29 = c29' ∧ e29 = e29' ∧ x30 = x30' ∧ ∃ g', m g' < m g ∧ J g' x8 x31 h) a0 n0 c0 e0 x1 x6 x8 x20 x21 a29 n29 c29 e29 x30 x31 h (hr g x8 x31 h hj (fun a0' n0' c0' e0' x1' x6' x8 x20' x21' a29' n29' c29' e29' x30' x31 h => a0 = a0' ∧ n0 = n0' ∧ c0 = c0' ∧ e0 = e0' ∧ x1 = x1' ∧ x6 = x6' ∧ x20 = x20' ∧ x21 = x21' ∧ a29 = a29' ∧ n29 = n29' ∧ c29 = c29' ∧ e29 = e29' ∧ x30 = x30' ∧ ∃ g', m g' < m g ∧ J g' x8 x31 h) fun g' x8 x31 h hlt hj => ⟨rfl, rfl, rfl, rfl, rfl, rfl, rfl, rfl, rfl, rfl, rfl, rfl, rfl, g', hlt, hj⟩)
  · intro g env h hi
    obtain ⟨a0', n0', c0', e0', x1', x6', x8, x20', x21', a29', n29', c29', e29', x30', x31, rfl, rfl, rfl, rfl, rfl, rfl, rfl, rfl, rfl, rfl, rfl, rfl, rfl, rfl, g', hlt, hj⟩ := Yab hi
    exact ⟨g', hlt, rfl, rfl, rfl, rfl, rfl, rfl, rfl, rfl, rfl, rfl, rfl, rfl, rfl, hj⟩
theorem A5x0i (Q : QT) (x6 : List Nat) (h : Zaa) (ht :
 bcase (decide (((((List.length x6 : Nat) : Int)) : Int) > 60)) (Q (.tup [.str [], .bool false]) h) (Q (.tup [.str x6, .bool true]) h)) : A5x0 Q x6 h :=
  At.mk (cast (by kernel_rfl) ht)
theorem A9x2i (Q : QT) (R5 : T5) (x6 x8 : List Nat) (x21 x20 : Int) (x1 : List Nat) (a0 : Pt) (n0 c0 : Nat) (e0 : Bool) (h : Zaa) (ht :
 List.length x6 + List.length x8 ≤ 9223372036854775807 ∧ (R5 a0 n0 c0 e0 x1 (x6 ++ x8) x20 (IntKind.wrap .i64 (x21 + 1)) h)) : A9x2 Q R5 x6 x8 x21 x20 x1 a0 n0 c0 e0 h :=
  At.mk (cast (by kernel_rfl) ht)
theorem call (a0 : Pt) (n0 c0 : Nat) (e0 : Bool) (x1 : List Nat) (h : Zaa) (Q : QT) (ht :
 Zad pg Zia [.slice a0 n0 c0 e0] h fun V0 H1 =>
 Zbz (some V0) fun B2 => bcase (!B2) (Q (.tup [.str [], .bool false]) H1) (Zad pg Zev [.str x1] H1 fun V3 H4 =>
 Zbz (some V3) fun B5 => bcase (!B5) (Q (.tup [.str [], .bool false]) H4) (J3 Q x1 a0 n0 c0 e0 H4))) : Zad pg Zhy [.slice a0 n0 c0 e0, .str x1] h Q :=
  Zad.of_body kp (c := cod fn) (fn := fn) Go.Proofs.Tryz.func29 (by kernel_rfl) (by kernel_rfl) (Nat.le_of_ble_eq_true (by kernel_rfl))
    (cast (by kernel_rfl) ht)
end Zcl
namespace Zda
noncomputable abbrev fn : Func := Go.Proofs.Tryz.f65
def kp : Zcb := [(3000004, [7, 8]), (1000004, [6, 7, 8, 23, 24, 25]), (4000008, [8, 10, 11, 25, 24, 23, 6, 7]), (4000009, [25, 24, 23, 6, 7, 8])]
noncomputable def C (p : List Nat) : Code := (cod fn).sub p
def KR (Q : QT) : KT := Zez pg fn.results.toList Q
abbrev T4 := Pt → Nat → Nat → Bool → Bool → Pt → Nat → Nat → Bool → Pt → Nat → Nat → Bool → Int → Int → Zaa → Prop
def E4 (R4 : T4) (env : Env) (h : Zaa) : Prop := Zbt 6 env fun v env => xSl (some v) fun a6 n6 c6 e6 => Zbt 7 env fun v env => Zbz (some v) fun x7 => Zbt 8 env fun v env => xSl (some v) fun a8 n8 c8 e8 => Zbt 23 env fun v env => xSl (some v) fun a23 n23 c23 e23 => Zbt 24 env fun v env => Zei .i64 v fun x24 => Zbt 25 env fun v env => Zei .i64 v fun x25 => Zjr env (R4 a6 n6 c6 e6 x7 a8 n8 c8 e8 a23 n23 c23 e23 x24 x25 h)
theorem Zks {R4 : T4} {env : Env} {h : Zaa} (hi : E4 R4 env h) : ∃ a6, ∃ n6, ∃ c6, ∃ e6, ∃ x7, ∃ a8, ∃ n8, ∃ c8, ∃ e8, ∃ a23, ∃ n23, ∃ c23, ∃ e23, ∃ x24, ∃ x25, env = [(6, .slice a6 n6 c6 e6), (7, .bool x7), (8, .slice a8 n8 c8 e8), (23, .slice a23 n23 c23 e23), (24, .int .i64 x24), (25, .int .i64 x25)] ∧ R4 a6 n6 c6 e6 x7 a8 n8 c8 e8 a23 n23 c23 e23 x24 x25 h := by
  unfold E4 at hi
  have hi0 := hi
  clear hi
  obtain ⟨_, _, rfl, hi1⟩ := Zab hi0
  obtain ⟨a6, n6, c6, e6, rfl, hi2⟩ := Zbh hi1
  obtain ⟨_, _, rfl, hi3⟩ := Zab hi2
  obtain ⟨x7, rfl, hi4⟩ := Yew hi3
  obtain ⟨_, _, rfl, hi5⟩ := Zab hi4
  obtain ⟨a8, n8, c8, e8, rfl, hi6⟩ := Zbh hi5
  obtain ⟨_, _, rfl, hi7⟩ := Zab hi6
  obtain ⟨a23, n23, c23, e23, rfl, hi8⟩ := Zbh hi7
  obtain ⟨_, _, rfl, hi9⟩ := Zab hi8
  obtain ⟨x24, rfl, hi10⟩ := Zat hi9
  obtain ⟨_, _, rfl, hi11⟩ := Zab hi10
  obtain ⟨x25, rfl, hi12⟩ := Zat hi11
  obtain ⟨rfl, hi13⟩ := Zbi hi12
  have hi := hi13
  exact ⟨a6, n6, c6, e6, x7, a8, n8, c8, e8, a23, n23, c23, e23, x24, x25, rfl, hi⟩
def K0 (Q : QT) : KT := andThen (fun env' h' => (match kp.find 4000010 with | some ks => Den pg fn.ntmps (C [1, 1, 1, 1]) (env'.keep ks) h' (KR Q) | none => den pg fn.ntmps kp (C [1, 1, 1, 1]) env' h' (KR Q))) (KR Q)
def K1 (Q : QT) : KT := Zcg 0 (K0 Q)
def K2 (Q : QT) : KT := Zgz kp 4 (K1 Q)
def K3 (Q : QT) (R4 : T4) : KT := rnd ((kp.find 1000004).getD []) (E4 R4) (K2 Q)
def K4 (Q : QT) (R4 : T4) : KT := andThen (fun env' h' => (match kp.find 4000009 with | some ks => Den pg fn.ntmps (C [1, 1, 1, 0, 1, 0, 0, 1, 1, 1]) (env'.keep ks) h' (K3 Q R4) | none => den pg fn.ntmps kp (C [1, 1, 1, 0, 1, 0, 0, 1, 1, 1]) env' h' (K3 Q R4))) (K3 Q R4)
def K5 (Q : QT) (R4 : T4) : KT := Zcg 1 (K4 Q R4)
def L4 (Q : QT) (a6 : Pt) (n6 c6 : Nat) (e6 x7 : Bool) (a8 : Pt) (n8 c8 : Nat) (e8 : Bool) (a23 : Pt) (n23 c23 : Nat) (e23 : Bool) (x24 x25 : Int) (h : Zaa) : Prop := Zed (Den pg fn.ntmps (C [1, 1, 1, 0, 1, 0, 0])) ((kp.find 1000004).getD []) (K2 Q) [(6, .slice a6 n6 c6 e6), (7, .bool x7), (8, .slice a8 n8 c8 e8), (23, .slice a23 n23 c23 e23), (24, .int .i64 x24), (25, .int .i64 x25)] h
def J8 (Q : QT) (R4 : T4) (a8 : Pt) (n8 c8 : Nat) (e8 : Bool) (i10 o10 : Nat) (x11 : List Nat) (x25 x24 : Int) (a23 : Pt) (n23 c23 : Nat) (e23 : Bool) (a6 : Pt) (n6 c6 : Nat) (e6 x7 : Bool) (h : Zaa) : Prop := Den pg fn.ntmps (C [1, 1, 1, 0, 1, 0, 0, 1, 1, 0, 0, 1, 1, 1]) [(8, .slice a8 n8 c8 e8), (10, .ptr (some (i10, o10))), (11, .str x11), (25, .int .i64 x25), (24, .int .i64 x24), (23, .slice a23 n23 c23 e23), (6, .slice a6 n6 c6 e6), (7, .bool x7)] h (K5 Q R4)
def Zzd (Q : QT) (x7 : Bool) (a8 : Pt) (n8 c8 : Nat) (e8 : Bool) (h : Zaa) : Prop := At (K1 Q) (.exit 0) [(7, .bool x7), (8, .slice a8 n8 c8 e8)] h
def J9 (Q : QT) (R4 : T4) (x25 x24 : Int) (a23 : Pt) (n23 c23 : Nat) (e23 : Bool) (a6 : Pt) (n6 c6 : Nat) (e6 x7 : Bool) (a8 : Pt) (n8 c8 : Nat) (e8 : Bool) (h : Zaa) : Prop := Den pg fn.ntmps (C [1, 1, 1, 0, 1, 0, 0, 1, 1, 1]) [(25, .int .i64 x25), (24, .int .i64 x24), (23, .slice a23 n23 c23 e23), (6, .slice a6 n6 c6 e6), (7, .bool x7), (8, .slice a8 n8 c8 e8)] h (K3 Q R4)
def L4t (Q : QT) (R4 : T4) (a6 : Pt) (n6 c6 : Nat) (e6 x7 : Bool) (a8 : Pt) (n8 c8 : Nat) (e8 : Bool) (a23 : Pt) (n23 c23 : Nat) (e23 : Bool) (x24 x25 : Int) (h : Zaa) : Prop :=
 bcase (decide ((x25 : Int) < x24)) ((0 ≤ (x25 : Int) ∧ (x25 : Int) < (n23 : Nat)) ∧ (Zbl a23 fun I19 O20 => Zcx (Zbp h (.ptr (some (I19, O20 + (Int.toNat x25) * 2))) 2) fun K21 => Zam K21 fun C22 Z23 => Zbk (some C22) fun S24 => Zam Z23 fun C25 Z26 => Zbk (some C25) fun S27 => Zci Z26 (Zdg (h ++ [.cells Zaj [.str [], .str []] false]) fun H28 => Zcu (Zbn H28 (.ptr (some (h.length, 0))) [.str S24, .str S27]) fun H29 => Zbk (Zag H29 (.ptr (some (h.length, 0 + 1)))) fun S30 => Zad pg Zhy [.slice a6 n6 c6 e6, .str S30] H29 fun V31 H32 =>
 Zuc V31 fun K33 => Zam K33 fun C34 Z35 => Zbk (some C34) fun S36 => Zam Z35 fun C37 Z38 => Zbz (some C37) fun B39 => Zci Z38 (bcase x7 (J8 Q R4 a8 n8 c8 e8 h.length 0 S36 x25 x24 a23 n23 c23 e23 a6 n6 c6 e6 B39 H32) (J8 Q R4 a8 n8 c8 e8 h.length 0 S36 x25 x24 a23 n23 c23 e23 a6 n6 c6 e6 false H32))))) (Zzd Q x7 a8 n8 c8 e8 h)
theorem Zul (Q : QT) (R4 : T4) (a6 : Pt) (n6 c6 : Nat) (e6 x7 : Bool) (a8 : Pt) (n8 c8 : Nat) (e8 : Bool) (a23 : Pt) (n23 c23 : Nat) (e23 : Bool) (x24 x25 : Int) (h : Zaa) (ht : L4t Q R4 a6 n6 c6 e6 x7 a8 n8 c8 e8 a23 n23 c23 e23 x24 x25 h) : Den pg fn.ntmps (C [1, 1, 1, 0, 1, 0, 0]) [(6, .slice a6 n6 c6 e6), (7, .bool x7), (8, .slice a8 n8 c8 e8), (23, .slice a23 n23 c23 e23), (24, .int .i64 x24), (25, .int .i64 x25)] h (K3 Q R4) :=
  Zay (kp := kp) (cast (by kernel_rfl) ht)
theorem L4ind (Q : QT) (a6 : Pt) (n6 c6 : Nat) (e6 : Bool) (a23 : Pt) (n23 c23 : Nat) (e23 : Bool) (x24 : Int) {G : Type} (J : G → Bool → Pt → Nat → Nat → Bool → Int → Zaa → Prop) (m : G → Nat)
 (hr : ∀ (g : G) (x7 : Bool) (a8 : Pt) (n8 c8 : Nat) (e8 : Bool) (x25 : Int) (h : Zaa), J g x7 a8 n8 c8 e8 x25 h → ∀ (R4 : T4), (∀ g' (x7 : Bool) (a8 : Pt) (n8 c8 : Nat) (e8 : Bool) (x25 : Int) (h : Zaa), m g' < m g → J g' x7 a8 n8 c8 e8 x25 h → R4 a6 n6 c6 e6 x7 a8 n8 c8 e8 a23 n23 c23 e23 x24 x25 h) → L4t Q R4 a6 n6 c6 e6 x7 a8 n8 c8 e8 a23 n23 c23 e23 x24 x25 h)
 (g : G) (x7 : Bool) (a8 : Pt) (n8 c8 : Nat) (e8 : Bool) (x25 : Int) (h : Zaa) (hj : J g x7 a8 n8 c8 e8 x25 h) : L4 Q a6 n6 c6 e6 x7 a8 n8 c8 e8 a23 n23 c23 e23 x24 x25 h := by
  refine Zed.inv2 (fun g => E4 fun a6' n6' c6' e6' x7 a8 n8 c8 e8 a23' n23' c23' e23' x24' x25 h => a6 = a6' ∧ n6 = n6' ∧ c6 = c6' ∧ e6 = e6' ∧ a23 = a23' ∧ n23 = n23' ∧ c23 = c23' ∧ e23 = e23' ∧ x24 = x24' ∧ J g x7 a8 n8 c8 e8 x25 h) (fun g => E4 fun a6' n6' c6' e6' x7 a8 n8 c8 e8 a23' n23' c23' e23' x24' x25 h => a6 = a6' ∧ n6 = n6' ∧ c6 = c6' ∧ e6 = e6' ∧ a23 = a23' ∧ n23 = n23' ∧ c23 = c23' ∧ e23 = e23' ∧ x24 = x24' ∧ ∃ g', m g' < m g ∧ J g' x7 a8 n8 c8 e8 x25 h) m ?_ ?_ g ⟨rfl, rfl, rfl, rfl, rfl, rfl, rfl, rfl, rfl, hj⟩
  · intro g env h hi
    obtain ⟨a6', n6', c6', e6', x7, a8, n8, c8, e8, a23', n23', c23', e23', x24', x25, rfl, rfl, rfl, rfl, rfl, rfl, rfl, rfl, rfl, rfl, hj⟩ := Zks hi
    exact Zul Q _ a6 n6 c6 e6 x7 a8 n8 c8 e8 a23 n23 c23 e23 x24 x25 h (hr g x7 a8 n8 c8 e8 x25 h hj (fun a6' n6' c6' e6' x7 a8 n8 c8 e8 a23' n23' c23' e23' x24' x25 h => a6 = a6' ∧ n6 = n6' ∧ c6 = c6' ∧ e6 = e6' ∧ a23 = a23' ∧ n23 = n23' ∧ c23 = c23' ∧ e23 = e23' ∧ x24 = x24' ∧ ∃ g', m g' < m g ∧ J g' x7 a8 n8 c8 e8 x25 h) fun g' x7 a8 n8 c8 e8 x25 h hlt hj => ⟨rfl, rfl, rfl, rfl, rfl, rfl, rfl, rfl, rfl, g', hlt, hj⟩)
  · intro g env h hi
    obtain ⟨a6', n6', c6', e6', x7, a8, n8, c8, e8, a23', n23', c23', e23', x24', x25, rfl, rfl, rfl, rfl, rfl, rfl, rfl, rfl, rfl, rfl, g', hlt, hj⟩ := Zks hi
    exact ⟨g', hlt, rfl, rfl, rfl, rfl, rfl, rfl, rfl, rfl, rfl, hj⟩
theorem J8i (Q : QT) (R4 : T4) (a8 : Pt) (n8 c8 : Nat) (e8 : Bool) (i10 o10 : Nat) (x11 : List Nat) (x25 x24 : Int) (a23 : Pt) (n23 c23 : Nat) (e23 : Bool) (a6 : Pt) (n6 c6 : Nat) (e6 x7 : Bool) (h : Zaa) (ht :
 Zbk (Zag h (.ptr (some (i10, o10 + 0)))) fun S40 => Zdg (h ++ [.cells Zaj [.str S40, .str x11] false]) fun H41 => Zey pg Znx H41 (.slice a8 n8 c8 e8) (.slice (some (h.length, 0)) 1 1 true) fun V42 H43 => xSl (some V42) fun A44 N45 C46 E47 => J9 Q R4 x25 x24 a23 n23 c23 e23 a6 n6 c6 e6 x7 A44 N45 C46 E47 H43) : J8 Q R4 a8 n8 c8 e8 i10 o10 x11 x25 x24 a23 n23 c23 e23 a6 n6 c6 e6 x7 h :=
  Zay (kp := kp) (cast (by kernel_rfl) ht)
theorem A4x0i (Q : QT) (x7 : Bool) (a8 : Pt) (n8 c8 : Nat) (e8 : Bool) (h : Zaa) (ht :
 bcase (!x7) (Q (.tup [.slice none 0 0 true, .bool false]) h) (Q (.tup [.slice a8 n8 c8 e8, .bool true]) h)) : Zzd Q x7 a8 n8 c8 e8 h :=
  At.mk (cast (by kernel_rfl) ht)
theorem J9i (Q : QT) (R4 : T4) (x25 x24 : Int) (a23 : Pt) (n23 c23 : Nat) (e23 : Bool) (a6 : Pt) (n6 c6 : Nat) (e6 x7 : Bool) (a8 : Pt) (n8 c8 : Nat) (e8 : Bool) (h : Zaa) (ht :
 R4 a6 n6 c6 e6 x7 a8 n8 c8 e8 a23 n23 c23 e23 x24 (IntKind.wrap .i64 (x25 + 1)) h) : J9 Q R4 x25 x24 a23 n23 c23 e23 a6 n6 c6 e6 x7 a8 n8 c8 e8 h :=
  Zay (kp := kp) (cast (by kernel_rfl) ht)
theorem call (x0x0 x0x1 : List Nat) (a0x2 : Pt) (n0x2 c0x2 : Nat) (e0x2 : Bool) (x1 : List Nat) (h : Zaa) (Q : QT) (ht :
 Zdg (h ++ [.cells Zas [.str x0x0, .str x0x1, .slice a0x2 n0x2 c0x2 e0x2] false]) fun H0 => Zbk (Zag H0 (.ptr (some (h.length, 0 + 0 + 1)))) fun S1 => Zad pg Zio [.str S1, .str x1] H0 fun V2 H3 =>
 Zuc V2 fun K4 => Zam K4 fun C5 Z6 => xSl (some C5) fun A7 N8 C9 E10 => Zam Z6 fun C11 Z12 => Zbz (some C11) fun B13 => Zci Z12 (Zdg (H3 ++ [.cells Zaj [] false]) fun H14 => xSl (Zag H14 (.ptr (some (h.length, 0 + 2)))) fun A15 N16 C17 E18 => L4 Q A7 N8 C9 E10 B13 (some (H3.length, 0)) 0 0 true A15 N16 C17 E18 (((N16 : Nat) : Int)) 0 H14)) : Zad pg Zhn [.agg [.str x0x0, .str x0x1, .slice a0x2 n0x2 c0x2 e0x2], .str x1] h Q :=
  Zad.of_body kp (c := cod fn) (fn := fn) Go.Proofs.Tryz.func65 (by kernel_rfl) (by kernel_rfl) (Nat.le_of_ble_eq_true (by kernel_rfl))
    (cast (by kernel_rfl) ht)
end Zda
end Go.Sim

set_option maxRecDepth 100000
set_option linter.unusedVariables false
namespace Go.Sim
open Go Go.RowKit
namespace Zhl
noncomputable abbrev fn : Func := Go.Proofs.Tryz.f69
def kp : Zcb := [(3000003, [3]), (1000003, [0, 3, 9, 10, 11])]
noncomputable def C (p : List Nat) : Code := (cod fn).sub p
def KR (Q : QT) : KT := Zez pg fn.results.toList Q
abbrev T3 := Option Nat → Pt → Nat → Nat → Bool → Pt → Nat → Nat → Bool → Int → Int → Zaa → Prop
def E3 (R3 : T3) (env : Env) (h : Zaa) : Prop := Zbt 0 env fun v env => Yhq (some v) fun m0 => Zbt 3 env fun v env => xSl (some v) fun a3 n3 c3 e3 => Zbt 9 env fun v env => xSl (some v) fun a9 n9 c9 e9 => Zbt 10 env fun v env => Zei .i64 v fun x10 => Zbt 11 env fun v env => Zei .i64 v fun x11 => Zjr env (R3 m0 a3 n3 c3 e3 a9 n9 c9 e9 x10 x11 h)
theorem Zes {R3 : T3} {env : Env} {h : Zaa} (hi : E3 R3 env h) : ∃ m0, ∃ a3, ∃ n3, ∃ c3, ∃ e3, ∃ a9, ∃ n9, ∃ c9, ∃ e9, ∃ x10, ∃ x11, env = [(0, .map m0), (3, .slice a3 n3 c3 e3), (9, .slice a9 n9 c9 e9), (10, .int .i64 x10), (11, .int .i64 x11)] ∧ R3 m0 a3 n3 c3 e3 a9 n9 c9 e9 x10 x11 h := by
  unfold E3 at hi
  have hi0 := hi
  clear hi
  obtain ⟨_, _, rfl, hi1⟩ := Zab hi0
  obtain ⟨m0, rfl, hi2⟩ := Yaj hi1
  obtain ⟨_, _, rfl, hi3⟩ := Zab hi2
  obtain ⟨a3, n3, c3, e3, rfl, hi4⟩ := Zbh hi3
  obtain ⟨_, _, rfl, hi5⟩ := Zab hi4
  obtain ⟨a9, n9, c9, e9, rfl, hi6⟩ := Zbh hi5
  obtain ⟨_, _, rfl, hi7⟩ := Zab hi6
  obtain ⟨x10, rfl, hi8⟩ := Zat hi7
  obtain ⟨_, _, rfl, hi9⟩ := Zab hi8
  obtain ⟨x11, rfl, hi10⟩ := Zat hi9
  obtain ⟨rfl, hi11⟩ := Zbi hi10
  have hi := hi11
  exact ⟨m0, a3, n3, c3, e3, a9, n9, c9, e9, x10, x11, rfl, hi⟩
def K0 (Q : QT) : KT := andThen (fun env' h' => (match kp.find 4000007 with | some ks => Den pg fn.ntmps (C [1, 1, 1]) (env'.keep ks) h' (KR Q) | none => den pg fn.ntmps kp (C [1, 1, 1]) env' h' (KR Q))) (KR Q)
def K1 (Q : QT) : KT := Zcg 0 (K0 Q)
def K2 (Q : QT) : KT := Zgz kp 3 (K1 Q)
def K3 (Q : QT) (R3 : T3) : KT := rnd ((kp.find 1000003).getD []) (E3 R3) (K2 Q)
def L3 (Q : QT) (m0 : Option Nat) (a3 : Pt) (n3 c3 : Nat) (e3 : Bool) (a9 : Pt) (n9 c9 : Nat) (e9 : Bool) (x10 x11 : Int) (h : Zaa) : Prop := Zed (Den pg fn.ntmps (C [1, 1, 0, 1, 0, 0])) ((kp.find 1000003).getD []) (K2 Q) [(0, .map m0), (3, .slice a3 n3 c3 e3), (9, .slice a9 n9 c9 e9), (10, .int .i64 x10), (11, .int .i64 x11)] h
def Zpo (Q : QT) (a3 : Pt) (n3 c3 : Nat) (e3 : Bool) (h : Zaa) : Prop := At (K1 Q) (.exit 0) [(3, .slice a3 n3 c3 e3)] h
def L3t (Q : QT) (R3 : T3) (m0 : Option Nat) (a3 : Pt) (n3 c3 : Nat) (e3 : Bool) (a9 : Pt) (n9 c9 : Nat) (e9 : Bool) (x10 x11 : Int) (h : Zaa) : Prop :=
 bcase (decide ((x11 : Int) < x10)) ((0 ≤ (x11 : Int) ∧ (x11 : Int) < (n9 : Nat)) ∧ (Zbl a9 fun I10 O11 => Zbk (Zag h (.ptr (some (I10, O11 + (Int.toNat x11) * 1)))) fun S12 => Zhe h m0 fun es_13 k_14 => Zwh es_13 S12 fun Z15 => Zbk (some (Option.getD Z15 (.str []))) fun S16 => Zdg (h ++ [.cells Zbb [.str S12, .str S16] false]) fun H17 => Zey pg Zla H17 (.slice a3 n3 c3 e3) (.slice (some (h.length, 0)) 1 1 true) fun V18 H19 => xSl (some V18) fun A20 N21 C22 E23 => R3 m0 A20 N21 C22 E23 a9 n9 c9 e9 x10 (IntKind.wrap .i64 (x11 + 1)) H19)) (Zpo Q a3 n3 c3 e3 h)
theorem Zme (Q : QT) (R3 : T3) (m0 : Option Nat) (a3 : Pt) (n3 c3 : Nat) (e3 : Bool) (a9 : Pt) (n9 c9 : Nat) (e9 : Bool) (x10 x11 : Int) (h : Zaa) (ht : L3t Q R3 m0 a3 n3 c3 e3 a9 n9 c9 e9 x10 x11 h) : Den pg fn.ntmps (C [1, 1, 0, 1, 0, 0]) [(0, .map m0), (3, .slice a3 n3 c3 e3), (9, .slice a9 n9 c9 e9), (10, .int .i64 x10), (11, .int .i64 x11)] h (K3 Q R3) :=
  Zay (kp := kp) (cast (by kernel_rfl) ht)
theorem L3ind (Q : QT) (m0 : Option Nat) (a9 : Pt) (n9 c9 : Nat) (e9 : Bool) (x10 : Int) {G : Type} (J : G → Pt → Nat → Nat → Bool → Int → Zaa → Prop) (m : G → Nat)
 (hr : ∀ (g : G) (a3 : Pt) (n3 c3 : Nat) (e3 : Bool) (x11 : Int) (h : Zaa), J g a3 n3 c3 e3 x11 h → ∀ (R3 : T3), (∀ g' (a3 : Pt) (n3 c3 : Nat) (e3 : Bool) (x11 : Int) (h : Zaa), m g' < m g → J g' a3 n3 c3 e3 x11 h → R3 m0 a3 n3 c3 e3 a9 n9 c9 e9 x10 x11 h) → L3t Q R3 m0 a3 n3 c3 e3 a9 n9 c9 e9 x10 x11 h)
 (g : G) (a3 : Pt) (n3 c3 : Nat) (e3 : Bool) (x11 : Int) (h : Zaa) (hj : J g a3 n3 c3 e3 x11 h) : L3 Q m0 a3 n3 c3 e3 a9 n9 c9 e9 x10 x11 h := by
  refine Zed.inv2 (fun g => E3 fun m0' a3 n3 c3 e3 a9' n9' c9' e9' x10' x11 h => m0 = m0' ∧ a9 = a9' ∧ n9 = n9' ∧ c9 = c9' ∧ e9 = e9' ∧ x10 = x10' ∧ J g a3 n3 c3 e3 x11 h) (fun g => E3 fun m0' a3 n3 c3 e3 a9' n9' c9' e9' x10' x11 h => m0 = m0' ∧ a9 = a9' ∧ n9 = n9' ∧ c9 = c9' ∧ e9 = e9' ∧ x10 = x10' ∧ ∃ g', m g' < m g ∧ J g' a3 n3 c3 e3 x11 h) m ?_ ?_ g ⟨rfl, rfl, rfl, rfl, rfl, rfl, hj⟩
  · intro g env h hi
    obtain ⟨m0', a3, n3, c3, e3, a9', n9', c9', e9', x10', x11, rfl, rfl, rfl, rfl, rfl, rfl, rfl, hj⟩ := Zes hi
    exact Zme Q _ m0 a3 n3 c3 e3 a9 n9 c9 e9 x10 x11 h (hr g a3 n3 c3 e3 x11 h hj (fun m0' a3 n3 c3 e3 a9' n9' c9' e9' x10' x11 h => m0 = m0' ∧ a9 = a9' ∧ n9 = n9' ∧ c9 = c9' ∧ e9 = e9' ∧ x10 = x10' ∧ ∃ g', m g' < m g ∧ J g' a3 n3 c3 e3 x11 h) fun g' a3 n3 c3 e3 x11 h hlt hj => ⟨rfl, rfl, rfl, rfl, rfl, rfl, g', hlt, hj⟩)
  · intro g env h hi
    obtain ⟨m0', a3, n3, c3, e3, a9', n9', c9', e9', x10', x11, rfl, rfl, rfl, rfl, rfl, rfl, rfl, g', hlt, hj⟩ := Zes hi
    exact ⟨g', hlt, rfl, rfl, rfl, rfl, rfl, rfl, hj⟩
theorem A3x0i (Q : QT) (a3 : Pt) (n3 c3 : Nat) (e3 : Bool) (h : Zaa) (ht :
 Q (.slice a3 n3 c3 e3) h) : Zpo Q a3 n3 c3 e3 h :=
  At.mk (cast (by kernel_rfl) ht)
theorem call (m0 : Option Nat) (h : Zaa) (Q : QT) (ht :
 Zdg (h ++ [.cells Zbb [] false]) fun H0 => Zad pg Zeh [.map m0] H0 fun V1 H2 =>
 Zyj (some V1) fun V3 => Zad pg Zjw [V3] H2 fun V4 H5 =>
 xSl (some V4) fun A6 N7 C8 E9 => L3 Q m0 (some (h.length, 0)) 0 0 true A6 N7 C8 E9 (((N7 : Nat) : Int)) 0 H5) : Zad pg Zmf [.map m0] h Q :=
  Zad.of_body kp (c := cod fn) (fn := fn) Go.Proofs.Tryz.func69 (by kernel_rfl) (by kernel_rfl) (Nat.le_of_ble_eq_true (by kernel_rfl))
    (cast (by kernel_rfl) ht)
end Zhl
namespace Zky
noncomputable abbrev fn : Func := Go.Proofs.Tryz.f28
def kp : Zcb := [(4000004, [8])]
noncomputable def C (p : List Nat) : Code := (cod fn).sub p
def KR (Q : QT) : KT := Zez pg fn.results.toList Q
def J4 (Q : QT) (m8 : Option Nat) (h : Zaa) : Prop := Den pg fn.ntmps (C [1, 1, 1]) [(8, .map m8)] h (KR Q)
theorem J4i (Q : QT) (m8 : Option Nat) (h : Zaa) (ht :
 Zad pg Zmf [.map m8] h fun V10 H11 =>
 xSl (some V10) fun A12 N13 C14 E15 => Q (.tup [.slice A12 N13 C14 E15, .bool true]) H11) : J4 Q m8 h :=
  Zay (kp := kp) (cast (by kernel_rfl) ht)
theorem call (x0 x1 : List Nat) (h : Zaa) (Q : QT) (ht :
 Zad pg Zjn [.str x0] h fun V0 H1 =>
 Zkx (some V0) fun A2 => Zad pg Zjn [.str x1] H1 fun V3 H4 =>
 Zkx (some V3) fun A5 => Zdg (H4 ++ [.map [] 0]) fun H6 => bcase (Option.isNone A2) (Q (.tup [.slice none 0 0 true, .bool false]) H6) (bcase (Option.isNone A5) (Q (.tup [.slice none 0 0 true, .bool false]) H6) (Zad pg Zhq [.ptr A2, .ptr A5, .map ((some H4.length))] H6 fun V7 H8 =>
 Zbz (some V7) fun B9 => bcase (!B9) (Q (.tup [.slice none 0 0 true, .bool false]) H8) (J4 Q ((some H4.length)) H8)))) : Zad pg Zio [.str x0, .str x1] h Q :=
  Zad.of_body kp (c := cod fn) (fn := fn) Go.Proofs.Tryz.func28 (by kernel_rfl) (by kernel_rfl) (Nat.le_of_ble_eq_true (by kernel_rfl))
    (cast (by kernel_rfl) ht)
end Zky
namespace Zni
noncomputable abbrev fn : Func := Go.Proofs.Tryz.f81
def kp : Zcb := []
noncomputable def C (p : List Nat) : Code := (cod fn).sub p
def KR (Q : QT) : KT := Zez pg fn.results.toList Q
theorem call (x0 x1 : List Nat) (h : Zaa) (Q : QT) (ht :
 Zad pg Zio [.str x0, .str x1] h fun V0 H1 =>
 Zuc V0 fun K2 => Zam K2 fun C3 Z4 => xSl (some C3) fun A5 N6 C7 E8 => Zam Z4 fun C9 Z10 => Zbz (some C9) fun B11 => Zci Z10 (Q (.bool B11) H1)) : Zad pg Zkh [.str x0, .str x1] h Q :=
  Zad.of_body kp (c := cod fn) (fn := fn) Go.Proofs.Tryz.func81 (by kernel_rfl) (by kernel_rfl) (Nat.le_of_ble_eq_true (by kernel_rfl))
    (cast (by kernel_rfl) ht)
end Zni
end Go.Sim

set_option maxRecDepth 100000
set_option linter.unusedVariables false
namespace Go.Sim
open Go Go.RowKit
namespace Zem
noncomputable abbrev fn : Func := Go.Proofs.Tryz.f68
def kp : Zcb := [(4000006, [2, 0, 7]), (2000008, [48, 0, 1, 2]), (3000011, [6]), (1000011, [1, 2, 52, 53, 54])]
noncomputable def C (p : List Nat) : Code := (cod fn).sub p
def KR (Q : QT) : KT := Zez pg fn.results.toList Q
abbrev T11 := Pt → Option Nat → Pt → Nat → Nat → Bool → Int → Int → Zaa → Prop
def E11 (R11 : T11) (env : Env) (h : Zaa) : Prop := Zbt 1 env fun v env => Zkx (some v) fun a1 => Zbt 2 env fun v env => Yhq (some v) fun m2 => Zbt 52 env fun v env => xSl (some v) fun a52 n52 c52 e52 => Zbt 53 env fun v env => Zei .i64 v fun x53 => Zbt 54 env fun v env => Zei .i64 v fun x54 => Zjr env (R11 a1 m2 a52 n52 c52 e52 x53 x54 h)
theorem Zwd {R11 : T11} {env : Env} {h : Zaa} (hi : E11 R11 env h) : ∃ a1, ∃ m2, ∃ a52, ∃ n52, ∃ c52, ∃ e52, ∃ x53, ∃ x54, env = [(1, .ptr a1), (2, .map m2), (52, .slice a52 n52 c52 e52), (53, .int .i64 x53), (54, .int .i64 x54)] ∧ R11 a1 m2 a52 n52 c52 e52 x53 x54 h := by
  unfold E11 at hi
  have hi0 := hi
  clear hi
  obtain ⟨_, _, rfl, hi1⟩ := Zab hi0
  obtain ⟨a1, rfl, hi2⟩ := Zce hi1
  obtain ⟨_, _, rfl, hi3⟩ := Zab hi2
  obtain ⟨m2, rfl, hi4⟩ := Yaj hi3
  obtain ⟨_, _, rfl, hi5⟩ := Zab hi4
  obtain ⟨a52, n52, c52, e52, rfl, hi6⟩ := Zbh hi5
  obtain ⟨_, _, rfl, hi7⟩ := Zab hi6
  obtain ⟨x53, rfl, hi8⟩ := Zat hi7
  obtain ⟨_, _, rfl, hi9⟩ := Zab hi8
  obtain ⟨x54, rfl, hi10⟩ := Zat hi9
  obtain ⟨rfl, hi11⟩ := Zbi hi10
  have hi := hi11
  exact ⟨a1, m2, a52, n52, c52, e52, x53, x54, rfl, hi⟩
def K0 (Q : QT) : KT := andThen (fun env' h' => (match kp.find 4000008 with | some ks => Den pg fn.ntmps (C [1, 1]) (env'.keep ks) h' (KR Q) | none => den pg fn.ntmps kp (C [1, 1]) env' h' (KR Q))) (KR Q)
def K1 (Q : QT) : KT := andThen (fun env' h' => (match kp.find 4000016 with | some ks => Den pg fn.ntmps (C [1, 1, 1, 1]) (env'.keep ks) h' (KR Q) | none => den pg fn.ntmps kp (C [1, 1, 1, 1]) env' h' (KR Q))) (KR Q)
def K2 (Q : QT) : KT := Zcg 0 (K1 Q)
def K3 (Q : QT) : KT := Zgz kp 11 (K2 Q)
def K4 (Q : QT) (R11 : T11) : KT := rnd ((kp.find 1000011).getD []) (E11 R11) (K3 Q)
def J6 (Q : QT) (m2 : Option Nat) (a0 : Pt) (x7 : List Nat) (h : Zaa) : Prop := Den pg fn.ntmps (C [1, 0, 1, 0, 1, 1]) [(2, .map m2), (0, .ptr a0), (7, .str x7)] h (K0 Q)
def L11 (Q : QT) (a1 : Pt) (m2 : Option Nat) (a52 : Pt) (n52 c52 : Nat) (e52 : Bool) (x53 x54 : Int) (h : Zaa) : Prop := Zed (Den pg fn.ntmps (C [1, 1, 1, 0, 1, 0, 0])) ((kp.find 1000011).getD []) (K3 Q) [(1, .ptr a1), (2, .map m2), (52, .slice a52 n52 c52 e52), (53, .int .i64 x53), (54, .int .i64 x54)] h
def Yhm (Q : QT) (h : Zaa) : Prop := At (K2 Q) (.exit 0) [(6, .undef)] h
theorem J6i (Q : QT) (m2 : Option Nat) (a0 : Pt) (x7 : List Nat) (h : Zaa) (ht :
 Zbl a0 fun I28 O29 => Zbk (Zag h (.ptr (some (I28, O29 + 0)))) fun S30 => xMp m2 fun I31 => Zhe h (some I31) fun es_32 k_33 => Ykg es_32 k_33 S30 (.str x7) fun es_34 k_35 => Zdg (List.set h I31 (.map es_34 k_35)) fun H36 => Q (.bool true) H36) : J6 Q m2 a0 x7 h :=
  Zay (kp := kp) (cast (by kernel_rfl) ht)
def L11t (Q : QT) (R11 : T11) (a1 : Pt) (m2 : Option Nat) (a52 : Pt) (n52 c52 : Nat) (e52 : Bool) (x53 x54 : Int) (h : Zaa) : Prop :=
 bcase (decide ((x54 : Int) < x53)) ((0 ≤ (x54 : Int) ∧ (x54 : Int) < (n52 : Nat)) ∧ (Zbl a52 fun I37 O38 => Zkx (Zag h (.ptr (some (I37, O38 + (Int.toNat x54) * 1)))) fun A39 => Zbl a1 fun I40 O41 => xSl (Zag h (.ptr (some (I40, O41 + 1)))) fun A42 N43 C44 E45 => (0 ≤ (x54 : Int) ∧ (x54 : Int) < (N43 : Nat)) ∧ (Zbl A42 fun I46 O47 => Zkx (Zag h (.ptr (some (I46, O47 + (Int.toNat x54) * 1)))) fun A48 => Zad pg Zhq [.ptr A39, .ptr A48, .map m2] h fun V49 H50 =>
 Zbz (some V49) fun B51 => bcase (!B51) (Q (.bool false) H50) (R11 a1 m2 a52 n52 c52 e52 x53 (IntKind.wrap .i64 (x54 + 1)) H50)))) (Yhm Q h)
theorem Ykb (Q : QT) (R11 : T11) (a1 : Pt) (m2 : Option Nat) (a52 : Pt) (n52 c52 : Nat) (e52 : Bool) (x53 x54 : Int) (h : Zaa) (ht : L11t Q R11 a1 m2 a52 n52 c52 e52 x53 x54 h) : Den pg fn.ntmps (C [1, 1, 1, 0, 1, 0, 0]) [(1, .ptr a1), (2, .map m2), (52, .slice a52 n52 c52 e52), (53, .int .i64 x53), (54, .int .i64 x54)] h (K4 Q R11) :=
  Zay (kp := kp) (cast (by kernel_rfl) ht)
theorem L11ind (Q : QT) (a1 : Pt) (m2 : Option Nat) (a52 : Pt) (n52 c52 : Nat) (e52 : Bool) (x53 : Int) {G : Type} (J : G → Int → Zaa → Prop) (m : G → Nat)
 (hr : ∀ (g : G) (x54 : Int) (h : Zaa), J g x54 h → ∀ (R11 : T11), (∀ g' (x54 : Int) (h : Zaa), m g' < m g → J g' x54 h → R11 a1 m2 a52 n52 c52 e52 x53 x54 h) → L11t Q R11 a1 m2 a52 n52 c52 e52 x53 x54 h)
 (g : G) (x54 : Int) (h : Zaa) (hj : J g x54 h) : L11 Q a1 m2 a52 n52 c52 e52 x53 x54 h := by
  refine Zed.inv2 (fun g => E11 fun a1' m2' a52' n52' c52' e52' x53' x54 h => a1 = a1' ∧ m2 = m2' ∧ a52 = a52' ∧ n52 = n52' ∧ c52 = c52' ∧ e52 = e52' ∧ x53 = x53' ∧ J g x54 h) (fun g => E11 fun a1' m2' a52' n52' c52' e52' x53' x54 h => a1 = a1' ∧ m2 = m2' ∧ a52 = a52' ∧ n52 = n52' ∧ c52 = c52' ∧ e52 = e52' ∧ x53 = x53' ∧ ∃ g', m g' < m g ∧ J g' x54 h) m ?_ ?_ g ⟨rfl, rfl, rfl, rfl, rfl, rfl, rfl, hj⟩
  · intro g env h hi
    obtain ⟨a1', m2', a52', n52', c52', e52', x53', x54, rfl, rfl, rfl, rfl, rfl, rfl, rfl, rfl, hj⟩ := Zwd hi
    exact Ykb Q _ a1 m2 a52 n52 c52 e52 x53 x54 h (hr g x54 h hj (fun a1' m2' a52' n52' c52' e52' x53' x54 h => a1 = a1' ∧ m2 = m2' ∧ a52 = a52' ∧ n52 = n52' ∧ c52 = c52' ∧ e52 = e52' ∧ x53 = x53' ∧ ∃ g', m g' < m g ∧ J g' x54 h) fun g' x54 h hlt hj => ⟨rfl, rfl, rfl, rfl, rfl, rfl, rfl, g', hlt, hj⟩)
  · intro g env h hi
    obtain ⟨a1', m2', a52', n52', c52', e52', x53', x54, rfl, rfl, rfl, rfl, rfl, rfl, rfl, rfl, g', hlt, hj⟩ := Zwd hi
    exact ⟨g', hlt, rfl, rfl, rfl, rfl, rfl, rfl, rfl, hj⟩
theorem A11x0i (Q : QT) (h : Zaa) (ht :
 Q (.bool true) h) : Yhm Q h :=
  At.mk (cast (by kernel_rfl) ht)
theorem call (a0 a1 : Pt) (m2 : Option Nat) (h : Zaa) (Q : QT) (ht :
 Zbl a0 fun I0 O1 => Zbk (Zag h (.ptr (some (I0, O1 + 0)))) fun S2 => Zad pg Zkv [.str S2] h fun V3 H4 =>
 Zbz (some V3) fun B5 => bcase B5 (Zad pg Zil [.ptr a1] H4 fun V6 H7 =>
 Zbk (some V6) fun S8 => Zbl a0 fun I9 O10 => Zbk (Zag H7 (.ptr (some (I9, O10 + 0)))) fun S11 => Zhe H7 m2 fun es_12 k_13 => Zwh es_12 S11 fun Z14 => Zbk (some (Option.getD Z14 (.str []))) fun S15 => bcase (Option.isSome Z14) (bcase (!(decide (S15 = S8))) (Q (.bool false) H7) (J6 Q m2 a0 S8 H7)) (J6 Q m2 a0 S8 H7)) (Zbl a0 fun I16 O17 => Zbl a1 fun I18 O19 => Zbk (Zag H4 (.ptr (some (I16, O17 + 0)))) fun S20 => Zbk (Zag H4 (.ptr (some (I18, O19 + 0)))) fun S21 => (Zag H4 (.ptr (some (I16, O17 + 0))) = Zag H4 (.ptr (some (I16, O17 + 0)))) ∧ bcase (!(decide (S20 = S21))) (Q (.bool false) H4) (Zbl a0 fun I22 O23 => xSl (Zag H4 (.ptr (some (I22, O23 + 1)))) fun A24 N25 C26 E27 => L11 Q a1 m2 A24 N25 C26 E27 (((N25 : Nat) : Int)) 0 H4))) : Zad pg Zhq [.ptr a0, .ptr a1, .map m2] h Q :=
  Zad.of_body kp (c := cod fn) (fn := fn) Go.Proofs.Tryz.func68 (by kernel_rfl) (by kernel_rfl) (Nat.le_of_ble_eq_true (by kernel_rfl))
    (cast (by kernel_rfl) ht)
end Zem
end Go.Sim

set_option maxRecDepth 100000
set_option linter.unusedVariables false
namespace Go.Sim
open Go Go.RowKit
namespace Zgu
noncomputable abbrev fn : Func := Go.Proofs.Tryz.f114
def kp : Zcb := [(3000005, [0, 3]), (1000005, [0, 3, 20, 21, 22]), (2000009, [2])]
noncomputable def C (p : List Nat) : Code := (cod fn).sub p
def KR (Q : QT) : KT := Zez pg fn.results.toList Q
abbrev T5 := Pt → Pt → Nat → Nat → Bool → Pt → Nat → Nat → Bool → Int → Int → Zaa → Prop
def E5 (R5 : T5) (env : Env) (h : Zaa) : Prop := Zbt 0 env fun v env => Zkx (some v) fun a0 => Zbt 3 env fun v env => xSl (some v) fun a3 n3 c3 e3 => Zbt 20 env fun v env => xSl (some v) fun a20 n20 c20 e20 => Zbt 21 env fun v env => Zei .i64 v fun x21 => Zbt 22 env fun v env => Zei .i64 v fun x22 => Zjr env (R5 a0 a3 n3 c3 e3 a20 n20 c20 e20 x21 x22 h)
theorem Zhm {R5 : T5} {env : Env} {h : Zaa} (hi : E5 R5 env h) : ∃ a0, ∃ a3, ∃ n3, ∃ c3, ∃ e3, ∃ a20, ∃ n20, ∃ c20, ∃ e20, ∃ x21, ∃ x22, env = [(0, .ptr a0), (3, .slice a3 n3 c3 e3), (20, .slice a20 n20 c20 e20), (21, .int .i64 x21), (22, .int .i64 x22)] ∧ R5 a0 a3 n3 c3 e3 a20 n20 c20 e20 x21 x22 h := by
  unfold E5 at hi
  have hi0 := hi
  clear hi
  obtain ⟨_, _, rfl, hi1⟩ := Zab hi0
  obtain ⟨a0, rfl, hi2⟩ := Zce hi1
  obtain ⟨_, _, rfl, hi3⟩ := Zab hi2
  obtain ⟨a3, n3, c3, e3, rfl, hi4⟩ := Zbh hi3
  obtain ⟨_, _, rfl, hi5⟩ := Zab hi4
  obtain ⟨a20, n20, c20, e20, rfl, hi6⟩ := Zbh hi5
  obtain ⟨_, _, rfl, hi7⟩ := Zab hi6
  obtain ⟨x21, rfl, hi8⟩ := Zat hi7
  obtain ⟨_, _, rfl, hi9⟩ := Zab hi8
  obtain ⟨x22, rfl, hi10⟩ := Zat hi9
  obtain ⟨rfl, hi11⟩ := Zbi hi10
  have hi := hi11
  exact ⟨a0, a3, n3, c3, e3, a20, n20, c20, e20, x21, x22, rfl, hi⟩
def K0 (Q : QT) : KT := andThen (fun env' h' => (match kp.find 4000009 with | some ks => Den pg fn.ntmps (C [1, 1, 1, 1]) (env'.keep ks) h' (KR Q) | none => den pg fn.ntmps kp (C [1, 1, 1, 1]) env' h' (KR Q))) (KR Q)
def K1 (Q : QT) : KT := Zcg 0 (K0 Q)
def K2 (Q : QT) : KT := Zgz kp 5 (K1 Q)
def K3 (Q : QT) (R5 : T5) : KT := rnd ((kp.find 1000005).getD []) (E5 R5) (K2 Q)
def L5 (Q : QT) (a0 a3 : Pt) (n3 c3 : Nat) (e3 : Bool) (a20 : Pt) (n20 c20 : Nat) (e20 : Bool) (x21 x22 : Int) (h : Zaa) : Prop := Zed (Den pg fn.ntmps (C [1, 1, 1, 0, 1, 0, 0])) ((kp.find 1000005).getD []) (K2 Q) [(0, .ptr a0), (3, .slice a3 n3 c3 e3), (20, .slice a20 n20 c20 e20), (21, .int .i64 x21), (22, .int .i64 x22)] h
def A5x0 (Q : QT) (a0 a3 : Pt) (n3 c3 : Nat) (e3 : Bool) (h : Zaa) : Prop := At (K1 Q) (.exit 0) [(0, .ptr a0), (3, .slice a3 n3 c3 e3)] h
def L5t (Q : QT) (R5 : T5) (a0 a3 : Pt) (n3 c3 : Nat) (e3 : Bool) (a20 : Pt) (n20 c20 : Nat) (e20 : Bool) (x21 x22 : Int) (h : Zaa) : Prop :=
 bcase (decide ((x22 : Int) < x21)) ((0 ≤ (x22 : Int) ∧ (x22 : Int) < (n20 : Nat)) ∧ (Zbl a20 fun I16 O17 => Zkx (Zag h (.ptr (some (I16, O17 + (Int.toNat x22) * 1)))) fun A18 => Zad pg Zil [.ptr A18] h fun V19 H20 =>
 Zbk (some V19) fun S21 => Zdg (H20 ++ [.cells Zcm [.str S21] false]) fun H22 => Zey pg Zpp H22 (.slice a3 n3 c3 e3) (.slice (some (H20.length, 0)) 1 1 true) fun V23 H24 => xSl (some V23) fun A25 N26 C27 E28 => R5 a0 A25 N26 C27 E28 a20 n20 c20 e20 x21 (IntKind.wrap .i64 (x22 + 1)) H24)) (A5x0 Q a0 a3 n3 c3 e3 h)
theorem Zqx (Q : QT) (R5 : T5) (a0 a3 : Pt) (n3 c3 : Nat) (e3 : Bool) (a20 : Pt) (n20 c20 : Nat) (e20 : Bool) (x21 x22 : Int) (h : Zaa) (ht : L5t Q R5 a0 a3 n3 c3 e3 a20 n20 c20 e20 x21 x22 h) : Den pg fn.ntmps (C [1, 1, 1, 0, 1, 0, 0]) [(0, .ptr a0), (3, .slice a3 n3 c3 e3), (20, .slice a20 n20 c20 e20), (21, .int .i64 x21), (22, .int .i64 x22)] h (K3 Q R5) :=
  Zay (kp := kp) (cast (by kernel_rfl) ht)
theorem L5ind (Q : QT) (a0 a20 : Pt) (n20 c20 : Nat) (e20 : Bool) (x21 : Int) {G : Type} (J : G → Pt → Nat → Nat → Bool → Int → Zaa → Prop) (m : G → Nat)
 (hr : ∀ (g : G) (a3 : Pt) (n3 c3 : Nat) (e3 : Bool) (x22 : Int) (h : Zaa), J g a3 n3 c3 e3 x22 h → ∀ (R5 : T5), (∀ g' (a3 : Pt) (n3 c3 : Nat) (e3 : Bool) (x22 : Int) (h : Zaa), m g' < m g → J g' a3 n3 c3 e3 x22 h → R5 a0 a3 n3 c3 e3 a20 n20 c20 e20 x21 x22 h) → L5t Q R5 a0 a3 n3 c3 e3 a20 n20 c20 e20 x21 x22 h)
 (g : G) (a3 : Pt) (n3 c3 : Nat) (e3 : Bool) (x22 : Int) (h : Zaa) (hj : J g a3 n3 c3 e3 x22 h) : L5 Q a0 a3 n3 c3 e3 a20 n20 c20 e20 x21 x22 h := by
  refine Zed.inv2 (fun g => E5 fun a0' a3 n3 c3 e3 a20' n20' c20' e20' x21' x22 h => a0 = a0' ∧ a20 = a20' ∧ n20 = n20' ∧ c20 = c20' ∧ e20 = e20' ∧ x21 = x21' ∧ J g a3 n3 c3 e3 x22 h) (fun g => E5 fun a0' a3 n3 c3 e3 a20' n20' c20' e20' x21' x22 h => a0 = a0' ∧ a20 = a20' ∧ n20 = n20' ∧ c20 = c20' ∧ e20 = e20' ∧ x21 = x21' ∧ ∃ g', m g' < m g ∧ J g' a3 n3 c3 e3 x22 h) m ?_ ?_ g ⟨rfl, rfl, rfl, rfl, rfl, rfl, hj⟩
  · intro g env h hi
    obtain ⟨a0', a3, n3, c3, e3, a20', n20', c20', e20', x21', x22, rfl, rfl, rfl, rfl, rfl, rfl, rfl, hj⟩ := Zhm hi
    exact Zqx Q _ a0 a3 n3 c3 e3 a20 n20 c20 e20 x21 x22 h (hr g a3 n3 c3 e3 x22 h hj (fun a0' a3 n3 c3 e3 a20' n20' c20' e20' x21' x22 h => a0 = a0' ∧ a20 = a20' ∧ n20 = n20' ∧ c20 = c20' ∧ e20 = e20' ∧ x21 = x21' ∧ ∃ g', m g' < m g ∧ J g' a3 n3 c3 e3 x22 h) fun g' a3 n3 c3 e3 x22 h hlt hj => ⟨rfl, rfl, rfl, rfl, rfl, rfl, g', hlt, hj⟩)
  · intro g env h hi
    obtain ⟨a0', a3, n3, c3, e3, a20', n20', c20', e20', x21', x22, rfl, rfl, rfl, rfl, rfl, rfl, rfl, g', hlt, hj⟩ := Zhm hi
    exact ⟨g', hlt, rfl, rfl, rfl, rfl, rfl, rfl, hj⟩
theorem A5x0i (Q : QT) (a0 a3 : Pt) (n3 c3 : Nat) (e3 : Bool) (h : Zaa) (ht :
 Zbl a0 fun I29 O30 => Zbk (Zag h (.ptr (some (I29, O30 + 0)))) fun S31 => List.length S31 + List.length [40] ≤ 9223372036854775807 ∧ (Zad pg Zqq [.slice a3 n3 c3 e3, .str [44]] h fun V32 H33 =>
 Zbk (some V32) fun S34 => (Zag H33 (.ptr (some (I29, O30 + 0))) = Zag h (.ptr (some (I29, O30 + 0)))) ∧ List.length (S31 ++ [40]) + List.length S34 ≤ 9223372036854775807 ∧ (List.length ((S31 ++ [40]) ++ S34) + List.length [41] ≤ 9223372036854775807 ∧ (Q (.str (((S31 ++ [40]) ++ S34) ++ [41])) H33)))) : A5x0 Q a0 a3 n3 c3 e3 h :=
  At.mk (cast (by kernel_rfl) ht)
theorem call (a0 : Pt) (h : Zaa) (Q : QT) (ht :
 Zbl a0 fun I0 O1 => xSl (Zag h (.ptr (some (I0, O1 + 1)))) fun A2 N3 C4 E5 => bcase ((((N3 : Nat) : Int) : Int) == 0) (Zbl a0 fun I6 O7 => Zbk (Zag h (.ptr (some (I6, O7 + 0)))) fun S8 => Q (.str S8) h) (Zdg (h ++ [.cells Zcm [] false]) fun H9 => Zbl a0 fun I10 O11 => xSl (Zag H9 (.ptr (some (I10, O11 + 1)))) fun A12 N13 C14 E15 => L5 Q a0 (some (h.length, 0)) 0 0 true A12 N13 C14 E15 (((N13 : Nat) : Int)) 0 H9)) : Zad pg Zil [.ptr a0] h Q :=
  Zad.of_body kp (c := cod fn) (fn := fn) Go.Proofs.Tryz.func114 (by kernel_rfl) (by kernel_rfl) (Nat.le_of_ble_eq_true (by kernel_rfl))
    (cast (by kernel_rfl) ht)
end Zgu
namespace Zgq
noncomputable abbrev fn : Func := Go.Proofs.Tryz.f110
def kp : Zcb := [(3000003, [1, 3]), (1000003, [1, 3, 11, 12, 13]), (2000005, [13, 12, 11, 3, 1]), (4000009, [3])]
noncomputable def C (p : List Nat) : Code := (cod fn).sub p
def KR (Q : QT) : KT := Zez pg fn.results.toList Q
abbrev T3 := Nat → Nat → List Nat → Pt → Nat → Nat → Bool → Int → Int → Zaa → Prop
def E3 (R3 : T3) (env : Env) (h : Zaa) : Prop := Zbt 1 env fun v env => Zkx (some v) fun a => Zbl a fun i1 o1 => Zbt 3 env fun v env => Zbk (some v) fun x3 => Zbt 11 env fun v env => xSl (some v) fun a11 n11 c11 e11 => Zbt 12 env fun v env => Zei .i64 v fun x12 => Zbt 13 env fun v env => Zei .i64 v fun x13 => Zjr env (R3 i1 o1 x3 a11 n11 c11 e11 x12 x13 h)
theorem Zes {R3 : T3} {env : Env} {h : Zaa} (hi : E3 R3 env h) : ∃ i1, ∃ o1, ∃ x3, ∃ a11, ∃ n11, ∃ c11, ∃ e11, ∃ x12, ∃ x13, env = [(1, .ptr (some (i1, o1))), (3, .str x3), (11, .slice a11 n11 c11 e11), (12, .int .i64 x12), (13, .int .i64 x13)] ∧ R3 i1 o1 x3 a11 n11 c11 e11 x12 x13 h := by
  unfold E3 at hi
  have hi0 := hi
  clear hi
  obtain ⟨_, _, rfl, hi1⟩ := Zab hi0
  obtain ⟨a, rfl, hi2⟩ := Zce hi1
  obtain ⟨i1, o1, rfl, hi3⟩ := Zby hi2
  obtain ⟨_, _, rfl, hi4⟩ := Zab hi3
  obtain ⟨x3, rfl, hi5⟩ := Zch hi4
  obtain ⟨_, _, rfl, hi6⟩ := Zab hi5
  obtain ⟨a11, n11, c11, e11, rfl, hi7⟩ := Zbh hi6
  obtain ⟨_, _, rfl, hi8⟩ := Zab hi7
  obtain ⟨x12, rfl, hi9⟩ := Zat hi8
  obtain ⟨_, _, rfl, hi10⟩ := Zab hi9
  obtain ⟨x13, rfl, hi11⟩ := Zat hi10
  obtain ⟨rfl, hi12⟩ := Zbi hi11
  have hi := hi12
  exact ⟨i1, o1, x3, a11, n11, c11, e11, x12, x13, rfl, hi⟩
def K0 (Q : QT) : KT := andThen (fun env' h' => (match kp.find 4000007 with | some ks => Den pg fn.ntmps (C [1, 1, 1]) (env'.keep ks) h' (KR Q) | none => den pg fn.ntmps kp (C [1, 1, 1]) env' h' (KR Q))) (KR Q)
def K1 (Q : QT) : KT := Zcg 0 (K0 Q)
def K2 (Q : QT) : KT := Zgz kp 3 (K1 Q)
def K3 (Q : QT) (R3 : T3) : KT := rnd ((kp.find 1000003).getD []) (E3 R3) (K2 Q)
def L3 (Q : QT) (i1 o1 : Nat) (x3 : List Nat) (a11 : Pt) (n11 c11 : Nat) (e11 : Bool) (x12 x13 : Int) (h : Zaa) : Prop := Zed (Den pg fn.ntmps (C [1, 1, 0, 1, 0, 0])) ((kp.find 1000003).getD []) (K2 Q) [(1, .ptr (some (i1, o1))), (3, .str x3), (11, .slice a11 n11 c11 e11), (12, .int .i64 x12), (13, .int .i64 x13)] h
def Zpo (Q : QT) (i1 o1 : Nat) (x3 : List Nat) (h : Zaa) : Prop := At (K1 Q) (.exit 0) [(1, .ptr (some (i1, o1))), (3, .str x3)] h
def J9 (Q : QT) (x3 : List Nat) (h : Zaa) : Prop := Den pg fn.ntmps (C [1, 1, 1, 1]) [(3, .str x3)] h (KR Q)
def L3t (Q : QT) (R3 : T3) (i1 o1 : Nat) (x3 : List Nat) (a11 : Pt) (n11 c11 : Nat) (e11 : Bool) (x12 x13 : Int) (h : Zaa) : Prop :=
 bcase (decide ((x13 : Int) < x12)) ((0 ≤ (x13 : Int) ∧ (x13 : Int) < (n11 : Nat)) ∧ (Zbl a11 fun I9 O10 => Zcx (Zbp h (.ptr (some (I9, O10 + (Int.toNat x13) * 2))) 2) fun K11 => Zam K11 fun C12 Z13 => Zds .u8 (some C12) fun X14 => Zam Z13 fun C15 Z16 => xSl (some C15) fun A17 N18 C19 E20 => Zci Z16 (Zdg (h ++ [.cells Zac [.int .u8 0, .slice none 0 0 true] false]) fun H21 => Zcu (Zbn H21 (.ptr (some (h.length, 0))) [.int .u8 X14, .slice A17 N18 C19 E20]) fun H22 => (0 ≤ (x13 : Int) ∧ (x13 : Int) ≤ IntKind.wrap .i64 (x13 + 1) ∧ (IntKind.wrap .i64 (x13 + 1) : Int) ≤ (List.length ([40, 44]) : Nat)) ∧ (List.length x3 + List.length (sub ([40, 44]) x13 (IntKind.wrap .i64 (x13 + 1))) ≤ 9223372036854775807 ∧ (Zcx (Zbp H22 (.ptr (some (h.length, 0))) 2) fun K23 => Zam K23 fun C24 Z25 => Zds .u8 (some C24) fun X26 => Zam Z25 fun C27 Z28 => xSl (some C27) fun A29 N30 C31 E32 => Zci Z28 (Zad pg Zgn [.agg [.int .u8 X26, .slice A29 N30 C31 E32]] H22 fun V33 H34 =>
 Zbk (some V33) fun S35 => List.length (x3 ++ (sub ([40, 44]) x13 (IntKind.wrap .i64 (x13 + 1)))) + List.length S35 ≤ 9223372036854775807 ∧ (R3 i1 o1 ((x3 ++ (sub ([40, 44]) x13 (IntKind.wrap .i64 (x13 + 1)))) ++ S35) a11 n11 c11 e11 x12 (IntKind.wrap .i64 (x13 + 1)) H34))))))) (Zpo Q i1 o1 x3 h)
theorem Zme (Q : QT) (R3 : T3) (i1 o1 : Nat) (x3 : List Nat) (a11 : Pt) (n11 c11 : Nat) (e11 : Bool) (x12 x13 : Int) (h : Zaa) (ht : L3t Q R3 i1 o1 x3 a11 n11 c11 e11 x12 x13 h) : Den pg fn.ntmps (C [1, 1, 0, 1, 0, 0]) [(1, .ptr (some (i1, o1))), (3, .str x3), (11, .slice a11 n11 c11 e11), (12, .int .i64 x12), (13, .int .i64 x13)] h (K3 Q R3) :=
  Zay (kp := kp) (cast (by kernel_rfl) ht)
theorem L3ind (Q : QT) (i1 o1 : Nat) (a11 : Pt) (n11 c11 : Nat) (e11 : Bool) (x12 : Int) {G : Type} (J : G → List Nat → Int → Zaa → Prop) (m : G → Nat)
 (hr : ∀ (g : G) (x3 : List Nat) (x13 : Int) (h : Zaa), J g x3 x13 h → ∀ (R3 : T3), (∀ g' (x3 : List Nat) (x13 : Int) (h : Zaa), m g' < m g → J g' x3 x13 h → R3 i1 o1 x3 a11 n11 c11 e11 x12 x13 h) → L3t Q R3 i1 o1 x3 a11 n11 c11 e11 x12 x13 h)
 (g : G) (x3 : List Nat) (x13 : Int) (h : Zaa) (hj : J g x3 x13 h) : L3 Q i1 o1 x3 a11 n11 c11 e11 x12 x13 h := by
  refine Zed.inv2 (fun g => E3 fun i1' o1' x3 a11' n11' c11' e11' x12' x13 h => i1 = i1' ∧ o1 = o1' ∧ a11 = a11' ∧ n11 = n11' ∧ c11 = c11' ∧ e11 = e11' ∧ x12 = x12' ∧ J g x3 x13 h) (fun g => E3 fun i1' o1' x3 a11' n11' c11' e11' x12' x13 h => i1 = i1' ∧ o1 = o1' ∧ a11 = a11' ∧ n11 = n11' ∧ c11 = c11' ∧ e11 = e11' ∧ x12 = x12' ∧ ∃ g', m g' < m g ∧ J g' x3 x13 h) m ?_ ?_ g ⟨rfl, rfl, rfl, rfl, rfl, rfl, rfl, hj⟩
  · intro g env h hi
    obtain ⟨i1', o1', x3, a11', n11', c11', e11', x12', x13, rfl, rfl, rfl, rfl, rfl, rfl, rfl, rfl, hj⟩ := Zes hi
    exact Zme Q _ i1 o1 x3 a11 n11 c11 e11 x12 x13 h (hr g x3 x13 h hj (fun i1' o1' x3 a11' n11' c11' e11' x12' x13 h => i1 = i1' ∧ o1 = o1' ∧ a11 = a11' ∧ n11 = n11' ∧ c11 = c11' ∧ e11 = e11' ∧ x12 = x12' ∧ ∃ g', m g' < m g ∧ J g' x3 x13 h) fun g' x3 x13 h hlt hj => ⟨rfl, rfl, rfl, rfl, rfl, rfl, rfl, g', hlt, hj⟩)
  · intro g env h hi
    obtain ⟨i1', o1', x3, a11', n11', c11', e11', x12', x13, rfl, rfl, rfl, rfl, rfl, rfl, rfl, rfl, g', hlt, hj⟩ := Zes hi
    exact ⟨g', hlt, rfl, rfl, rfl, rfl, rfl, rfl, rfl, hj⟩
theorem A3x0i (Q : QT) (i1 o1 : Nat) (x3 : List Nat) (h : Zaa) (ht :
 xSl (Zag h (.ptr (some (i1, o1 + 1)))) fun A36 N37 C38 E39 => bcase (decide (((((N37 : Nat) : Int)) : Int) > 0)) (List.length x3 + List.length [41] ≤ 9223372036854775807 ∧ (J9 Q (x3 ++ [41]) h)) (J9 Q x3 h)) : Zpo Q i1 o1 x3 h :=
  At.mk (cast (by kernel_rfl) ht)
theorem J9i (Q : QT) (x3 : List Nat) (h : Zaa) (ht :
 Q (.str x3) h) : J9 Q x3 h :=
  Zay (kp := kp) (cast (by kernel_rfl) ht)
theorem call (x0x0 : Int) (a0x1 : Pt) (n0x1 c0x1 : Nat) (e0x1 : Bool) (h : Zaa) (Q : QT) (ht :
 Zdg (h ++ [.cells Zac [.int .u8 x0x0, .slice a0x1 n0x1 c0x1 e0x1] false]) fun H0 => Zds .u8 (Zag H0 (.ptr (some (h.length, 0 + 0)))) fun X1 => Zdg (H0 ++ [.cells Ydd [.int .u8 X1] false]) fun H2 => Zcx (rowOf H2 (some (H0.length, 0)) 1) fun K3 => Znn K3 fun S4 => xSl (Zag H2 (.ptr (some (h.length, 0 + 1)))) fun A5 N6 C7 E8 => L3 Q h.length 0 S4 A5 N6 C7 E8 (((N6 : Nat) : Int)) 0 H2) : Zad pg Zgn [.agg [.int .u8 x0x0, .slice a0x1 n0x1 c0x1 e0x1]] h Q :=
  Zad.of_body kp (c := cod fn) (fn := fn) Go.Proofs.Tryz.func110 (by kernel_rfl) (by kernel_rfl) (Nat.le_of_ble_eq_true (by kernel_rfl))
    (cast (by kernel_rfl) ht)
end Zgq
end Go.Sim

set_option maxRecDepth 100000
set_option linter.unusedVariables false
namespace Go.Sim
open Go Go.RowKit
namespace Zfj
noncomputable abbrev fn : Func := Go.Proofs.Tryz.f109
def kp : Zcb := [(3000003, [1, 3]), (1000003, [1, 3, 7, 8, 9]), (4000009, [3])]
noncomputable def C (p : List Nat) : Code := (cod fn).sub p
def KR (Q : QT) : KT := Zez pg fn.results.toList Q
abbrev T3 := Nat → Nat → Int → Pt → Nat → Nat → Bool → Int → Int → Zaa → Prop
def E3 (R3 : T3) (env : Env) (h : Zaa) : Prop := Zbt 1 env fun v env => Zkx (some v) fun a => Zbl a fun i1 o1 => Zbt 3 env fun v env => Zei .i64 v fun x3 => Zbt 7 env fun v env => xSl (some v) fun a7 n7 c7 e7 => Zbt 8 env fun v env => Zei .i64 v fun x8 => Zbt 9 env fun v env => Zei .i64 v fun x9 => Zjr env (R3 i1 o1 x3 a7 n7 c7 e7 x8 x9 h)
theorem Zes {R3 : T3} {env : Env} {h : Zaa} (hi : E3 R3 env h) : ∃ i1, ∃ o1, ∃ x3, ∃ a7, ∃ n7, ∃ c7, ∃ e7, ∃ x8, ∃ x9, env = [(1, .ptr (some (i1, o1))), (3, .int .i64 x3), (7, .slice a7 n7 c7 e7), (8, .int .i64 x8), (9, .int .i64 x9)] ∧ R3 i1 o1 x3 a7 n7 c7 e7 x8 x9 h := by
  unfold E3 at hi
  have hi0 := hi
  clear hi
  obtain ⟨_, _, rfl, hi1⟩ := Zab hi0
  obtain ⟨a, rfl, hi2⟩ := Zce hi1
  obtain ⟨i1, o1, rfl, hi3⟩ := Zby hi2
  obtain ⟨_, _, rfl, hi4⟩ := Zab hi3
  obtain ⟨x3, rfl, hi5⟩ := Zat hi4
  obtain ⟨_, _, rfl, hi6⟩ := Zab hi5
  obtain ⟨a7, n7, c7, e7, rfl, hi7⟩ := Zbh hi6
  obtain ⟨_, _, rfl, hi8⟩ := Zab hi7
  obtain ⟨x8, rfl, hi9⟩ := Zat hi8
  obtain ⟨_, _, rfl, hi10⟩ := Zab hi9
  obtain ⟨x9, rfl, hi11⟩ := Zat hi10
  obtain ⟨rfl, hi12⟩ := Zbi hi11
  have hi := hi12
  exact ⟨i1, o1, x3, a7, n7, c7, e7, x8, x9, rfl, hi⟩
def K0 (Q : QT) : KT := andThen (fun env' h' => (match kp.find 4000007 with | some ks => Den pg fn.ntmps (C [1, 1, 1]) (env'.keep ks) h' (KR Q) | none => den pg fn.ntmps kp (C [1, 1, 1]) env' h' (KR Q))) (KR Q)
def K1 (Q : QT) : KT := Zcg 0 (K0 Q)
def K2 (Q : QT) : KT := Zgz kp 3 (K1 Q)
def K3 (Q : QT) (R3 : T3) : KT := rnd ((kp.find 1000003).getD []) (E3 R3) (K2 Q)
def L3 (Q : QT) (i1 o1 : Nat) (x3 : Int) (a7 : Pt) (n7 c7 : Nat) (e7 : Bool) (x8 x9 : Int) (h : Zaa) : Prop := Zed (Den pg fn.ntmps (C [1, 1, 0, 1, 0, 0])) ((kp.find 1000003).getD []) (K2 Q) [(1, .ptr (some (i1, o1))), (3, .int .i64 x3), (7, .slice a7 n7 c7 e7), (8, .int .i64 x8), (9, .int .i64 x9)] h
def Zpo (Q : QT) (i1 o1 : Nat) (x3 : Int) (h : Zaa) : Prop := At (K1 Q) (.exit 0) [(1, .ptr (some (i1, o1))), (3, .int .i64 x3)] h
def J9 (Q : QT) (x3 : Int) (h : Zaa) : Prop := Den pg fn.ntmps (C [1, 1, 1, 1]) [(3, .int .i64 x3)] h (KR Q)
def L3t (Q : QT) (R3 : T3) (i1 o1 : Nat) (x3 : Int) (a7 : Pt) (n7 c7 : Nat) (e7 : Bool) (x8 x9 : Int) (h : Zaa) : Prop :=
 bcase (decide ((x9 : Int) < x8)) ((0 ≤ (x9 : Int) ∧ (x9 : Int) < (n7 : Nat)) ∧ (Zbl a7 fun I5 O6 => Zcx (Zbp h (.ptr (some (I5, O6 + (Int.toNat x9) * 2))) 2) fun K7 => Zam K7 fun C8 Z9 => Zds .u8 (some C8) fun X10 => Zam Z9 fun C11 Z12 => xSl (some C11) fun A13 N14 C15 E16 => Zci Z12 (Zdg (h ++ [.cells Zac [.int .u8 0, .slice none 0 0 true] false]) fun H17 => Zcu (Zbn H17 (.ptr (some (h.length, 0))) [.int .u8 X10, .slice A13 N14 C15 E16]) fun H18 => Zcx (Zbp H18 (.ptr (some (h.length, 0))) 2) fun K19 => Zam K19 fun C20 Z21 => Zds .u8 (some C20) fun X22 => Zam Z21 fun C23 Z24 => xSl (some C23) fun A25 N26 C27 E28 => Zci Z24 (Zad pg Zhi [.agg [.int .u8 X22, .slice A25 N26 C27 E28]] H18 fun V29 H30 =>
 Zds .i64 (some V29) fun X31 => R3 i1 o1 (IntKind.wrap .i64 ((IntKind.wrap .i64 (x3 + 1)) + X31)) a7 n7 c7 e7 x8 (IntKind.wrap .i64 (x9 + 1)) H30)))) (Zpo Q i1 o1 x3 h)
theorem Zme (Q : QT) (R3 : T3) (i1 o1 : Nat) (x3 : Int) (a7 : Pt) (n7 c7 : Nat) (e7 : Bool) (x8 x9 : Int) (h : Zaa) (ht : L3t Q R3 i1 o1 x3 a7 n7 c7 e7 x8 x9 h) : Den pg fn.ntmps (C [1, 1, 0, 1, 0, 0]) [(1, .ptr (some (i1, o1))), (3, .int .i64 x3), (7, .slice a7 n7 c7 e7), (8, .int .i64 x8), (9, .int .i64 x9)] h (K3 Q R3) :=
  Zay (kp := kp) (cast (by kernel_rfl) ht)
theorem L3ind (Q : QT) (i1 o1 : Nat) (a7 : Pt) (n7 c7 : Nat) (e7 : Bool) (x8 : Int) {G : Type} (J : G → Int → Int → Zaa → Prop) (m : G → Nat)
 (hr : ∀ (g : G) (x3 x9 : Int) (h : Zaa), J g x3 x9 h → ∀ (R3 : T3), (∀ g' (x3 x9 : Int) (h : Zaa), m g' < m g → J g' x3 x9 h → R3 i1 o1 x3 a7 n7 c7 e7 x8 x9 h) → L3t Q R3 i1 o1 x3 a7 n7 c7 e7 x8 x9 h)
 (g : G) (x3 x9 : Int) (h : Zaa) (hj : J g x3 x9 h) : L3 Q i1 o1 x3 a7 n7 c7 e7 x8 x9 h := by
  refine Zed.inv2 (fun g => E3 fun i1' o1' x3 a7' n7' c7' e7' x8' x9 h => i1 = i1' ∧ o1 = o1' ∧ a7 = a7' ∧ n7 = n7' ∧ c7 = c7' ∧ e7 = e7' ∧ x8 = x8' ∧ J g x3 x9 h) (fun g => E3 fun i1' o1' x3 a7' n7' c7' e7' x8' x9 h => i1 = i1' ∧ o1 = o1' ∧ a7 = a7' ∧ n7 = n7' ∧ c7 = c7' ∧ e7 = e7' ∧ x8 = x8' ∧ ∃ g', m g' < m g ∧ J g' x3 x9 h) m ?_ ?_ g ⟨rfl, rfl, rfl, rfl, rfl, rfl, rfl, hj⟩
  · intro g env h hi
    obtain ⟨i1', o1', x3, a7', n7', c7', e7', x8', x9, rfl, rfl, rfl, rfl, rfl, rfl, rfl, rfl, hj⟩ := Zes hi
    exact Zme Q _ i1 o1 x3 a7 n7 c7 e7 x8 x9 h (hr g x3 x9 h hj (fun i1' o1' x3 a7' n7' c7' e7' x8' x9 h => i1 = i1' ∧ o1 = o1' ∧ a7 = a7' ∧ n7 = n7' ∧ c7 = c7' ∧ e7 = e7' ∧ x8 = x8' ∧ ∃ g', m g' < m g ∧ J g' x3 x9 h) fun g' x3 x9 h hlt hj => ⟨rfl, rfl, rfl, rfl, rfl, rfl, rfl, g', hlt, hj⟩)
  · intro g env h hi
    obtain ⟨i1', o1', x3, a7', n7', c7', e7', x8', x9, rfl, rfl, rfl, rfl, rfl, rfl, rfl, rfl, g', hlt, hj⟩ := Zes hi
    exact ⟨g', hlt, rfl, rfl, rfl, rfl, rfl, rfl, rfl, hj⟩
theorem A3x0i (Q : QT) (i1 o1 : Nat) (x3 : Int) (h : Zaa) (ht :
 xSl (Zag h (.ptr (some (i1, o1 + 1)))) fun A32 N33 C34 E35 => bcase (decide (((((N33 : Nat) : Int)) : Int) > 0)) (J9 Q (IntKind.wrap .i64 (x3 + 1)) h) (J9 Q x3 h)) : Zpo Q i1 o1 x3 h :=
  At.mk (cast (by kernel_rfl) ht)
theorem J9i (Q : QT) (x3 : Int) (h : Zaa) (ht :
 Q (.int .i64 x3) h) : J9 Q x3 h :=
  Zay (kp := kp) (cast (by kernel_rfl) ht)
theorem call (x0x0 : Int) (a0x1 : Pt) (n0x1 c0x1 : Nat) (e0x1 : Bool) (h : Zaa) (Q : QT) (ht :
 Zdg (h ++ [.cells Zac [.int .u8 x0x0, .slice a0x1 n0x1 c0x1 e0x1] false]) fun H0 => xSl (Zag H0 (.ptr (some (h.length, 0 + 1)))) fun A1 N2 C3 E4 => L3 Q h.length 0 1 A1 N2 C3 E4 (((N2 : Nat) : Int)) 0 H0) : Zad pg Zhi [.agg [.int .u8 x0x0, .slice a0x1 n0x1 c0x1 e0x1]] h Q :=
  Zad.of_body kp (c := cod fn) (fn := fn) Go.Proofs.Tryz.func109 (by kernel_rfl) (by kernel_rfl) (Nat.le_of_ble_eq_true (by kernel_rfl))
    (cast (by kernel_rfl) ht)
end Zfj
namespace Zfd
noncomputable abbrev fn : Func := Go.Proofs.Tryz.f139
def kp : Zcb := [(3000003, [4, 2, 3]), (1000003, [4, 8, 10]), (2000004, [6, 5, 10, 8, 4]), (4000006, [6, 4, 5, 10, 8]), (2000008, [10, 8, 4]), (4000009, [10, 8, 4])]
noncomputable def C (p : List Nat) : Code := (cod fn).sub p
def KR (Q : QT) : KT := Zez pg fn.results.toList Q
abbrev T3 := Pt → Nat → Nat → Bool → Pt → Int → Zaa → Prop
def E3 (R3 : T3) (env : Env) (h : Zaa) : Prop := Zbt 4 env fun v env => xSl (some v) fun a4 n4 c4 e4 => Zbt 8 env fun v env => Zkx (some v) fun a8 => Zbt 10 env fun v env => Zei .i64 v fun x10 => Zjr env (R3 a4 n4 c4 e4 a8 x10 h)
theorem Zes {R3 : T3} {env : Env} {h : Zaa} (hi : E3 R3 env h) : ∃ a4, ∃ n4, ∃ c4, ∃ e4, ∃ a8, ∃ x10, env = [(4, .slice a4 n4 c4 e4), (8, .ptr a8), (10, .int .i64 x10)] ∧ R3 a4 n4 c4 e4 a8 x10 h := by
  unfold E3 at hi
  have hi0 := hi
  clear hi
  obtain ⟨_, _, rfl, hi1⟩ := Zab hi0
  obtain ⟨a4, n4, c4, e4, rfl, hi2⟩ := Zbh hi1
  obtain ⟨_, _, rfl, hi3⟩ := Zab hi2
  obtain ⟨a8, rfl, hi4⟩ := Zce hi3
  obtain ⟨_, _, rfl, hi5⟩ := Zab hi4
  obtain ⟨x10, rfl, hi6⟩ := Zat hi5
  obtain ⟨rfl, hi7⟩ := Zbi hi6
  have hi := hi7
  exact ⟨a4, n4, c4, e4, a8, x10, rfl, hi⟩
def K0 (Q : QT) : KT := andThen (fun env' h' => (match kp.find 4000010 with | some ks => Den pg fn.ntmps (C [1, 1, 1]) (env'.keep ks) h' (KR Q) | none => den pg fn.ntmps kp (C [1, 1, 1]) env' h' (KR Q))) (KR Q)
def K1 (Q : QT) : KT := Zcg 0 (K0 Q)
def K2 (Q : QT) : KT := Zgz kp 3 (K1 Q)
def K3 (Q : QT) (R3 : T3) : KT := rnd ((kp.find 1000003).getD []) (E3 R3) (K2 Q)
def K4 (Q : QT) (R3 : T3) : KT := andThen (fun env' h' => (match kp.find 4000009 with | some ks => Den pg fn.ntmps (C [1, 1, 0, 1, 0, 0, 1, 1, 1]) (env'.keep ks) h' (K3 Q R3) | none => den pg fn.ntmps kp (C [1, 1, 0, 1, 0, 0, 1, 1, 1]) env' h' (K3 Q R3))) (K3 Q R3)
def K5 (Q : QT) (R3 : T3) : KT := Zcg 1 (K4 Q R3)
def L3 (Q : QT) (a4 : Pt) (n4 c4 : Nat) (e4 : Bool) (a8 : Pt) (x10 : Int) (h : Zaa) : Prop := Zed (Den pg fn.ntmps (C [1, 1, 0, 1, 0, 0])) ((kp.find 1000003).getD []) (K2 Q) [(4, .slice a4 n4 c4 e4), (8, .ptr a8), (10, .int .i64 x10)] h
def J9 (Q : QT) (R3 : T3) (x10 : Int) (a8 a4 : Pt) (n4 c4 : Nat) (e4 : Bool) (h : Zaa) : Prop := Den pg fn.ntmps (C [1, 1, 0, 1, 0, 0, 1, 1, 1]) [(10, .int .i64 x10), (8, .ptr a8), (4, .slice a4 n4 c4 e4)] h (K3 Q R3)
def J6 (Q : QT) (R3 : T3) (i6 o6 : Nat) (a4 : Pt) (n4 c4 : Nat) (e4 : Bool) (x5 x10 : Int) (a8 : Pt) (h : Zaa) : Prop := Den pg fn.ntmps (C [1, 1, 0, 1, 0, 0, 1, 1, 0, 0, 1, 1]) [(6, .ptr (some (i6, o6))), (4, .slice a4 n4 c4 e4), (5, .int .i64 x5), (10, .int .i64 x10), (8, .ptr a8)] h (K5 Q R3)
def Zpo (Q : QT) (a4 : Pt) (n4 c4 : Nat) (e4 : Bool) (h : Zaa) : Prop := At (K1 Q) (.exit 0) [(4, .slice a4 n4 c4 e4), (2, .undef), (3, .undef)] h
def L3t (Q : QT) (R3 : T3) (a4 : Pt) (n4 c4 : Nat) (e4 : Bool) (a8 : Pt) (x10 : Int) (h : Zaa) : Prop :=
 bcase (decide ((x10 : Int) < 12)) (Zbl a8 fun I3 O4 => (0 ≤ (x10 : Int) ∧ (x10 : Int) < (12 : Nat)) ∧ (Zcx (Zbp h (.ptr (some (I3, O4 + (Int.toNat x10) * 2))) 2) fun K5 => Zam K5 fun C6 Z7 => Zds .u8 (some C6) fun X8 => Zam Z7 fun C9 Z10 => xSl (some C9) fun A11 N12 C13 E14 => Zci Z10 (Zdg (h ++ [.cells Zac [.int .u8 0, .slice none 0 0 true] false]) fun H15 => (Zbp H15 (.ptr (some (I3, O4 + (Int.toNat x10) * 2))) 2 = Zbp h (.ptr (some (I3, O4 + (Int.toNat x10) * 2))) 2) ∧ Zcu (Zbn H15 (.ptr (some (h.length, 0))) [.int .u8 X8, .slice A11 N12 C13 E14]) fun H16 => Zds .u8 (Zag H16 (.ptr (some (h.length, 0 + 0)))) fun X17 => bcase ((X17 : Int) == 0) (J9 Q R3 x10 a8 a4 n4 c4 e4 H16) (bcase (decide ((x10 : Int) ≥ 6)) (J9 Q R3 x10 a8 a4 n4 c4 e4 H16) (J6 Q R3 h.length 0 a4 n4 c4 e4 x10 x10 a8 H16))))) (Zpo Q a4 n4 c4 e4 h)
theorem Zme (Q : QT) (R3 : T3) (a4 : Pt) (n4 c4 : Nat) (e4 : Bool) (a8 : Pt) (x10 : Int) (h : Zaa) (ht : L3t Q R3 a4 n4 c4 e4 a8 x10 h) : Den pg fn.ntmps (C [1, 1, 0, 1, 0, 0]) [(4, .slice a4 n4 c4 e4), (8, .ptr a8), (10, .int .i64 x10)] h (K3 Q R3) :=
  Zay (kp := kp) (cast (by kernel_rfl) ht)
theorem L3ind (Q : QT) (a8 : Pt) {G : Type} (J : G → Pt → Nat → Nat → Bool → Int → Zaa → Prop) (m : G → Nat)
 (hr : ∀ (g : G) (a4 : Pt) (n4 c4 : Nat) (e4 : Bool) (x10 : Int) (h : Zaa), J g a4 n4 c4 e4 x10 h → ∀ (R3 : T3), (∀ g' (a4 : Pt) (n4 c4 : Nat) (e4 : Bool) (x10 : Int) (h : Zaa), m g' < m g → J g' a4 n4 c4 e4 x10 h → R3 a4 n4 c4 e4 a8 x10 h) → L3t Q R3 a4 n4 c4 e4 a8 x10 h)
 (g : G) (a4 : Pt) (n4 c4 : Nat) (e4 : Bool) (x10 : Int) (h : Zaa) (hj : J g a4 n4 c4 e4 x10 h) : L3 Q a4 n4 c4 e4 a8 x10 h := by
  refine Zed.inv2 (fun g => E3 fun a4 n4 c4 e4 a8' x10 h => a8 = a8' ∧ J g a4 n4 c4 e4 x10 h) (fun g => E3 fun a4 n4 c4 e4 a8' x10 h => a8 = a8' ∧ ∃ g', m g' < m g ∧ J g' a4 n4 c4 e4 x10 h) m ?_ ?_ g ⟨rfl, hj⟩
  · intro g env h hi
    obtain ⟨a4, n4, c4, e4, a8', x10, rfl, rfl, hj⟩ := Zes hi
    exact Zme Q _ a4 n4 c4 e4 a8 x10 h (hr g a4 n4 c4 e4 x10 h hj (fun a4 n4 c4 e4 a8' x10 h => a8 = a8' ∧ ∃ g', m g' < m g ∧ J g' a4 n4 c4 e4 x10 h) fun g' a4 n4 c4 e4 x10 h hlt hj => ⟨rfl, g', hlt, hj⟩)
  · intro g env h hi
    obtain ⟨a4, n4, c4, e4, a8', x10, rfl, rfl, g', hlt, hj⟩ := Zes hi
    exact ⟨g', hlt, rfl, hj⟩
theorem J9i (Q : QT) (R3 : T3) (x10 : Int) (a8 a4 : Pt) (n4 c4 : Nat) (e4 : Bool) (h : Zaa) (ht :
 R3 a4 n4 c4 e4 a8 (IntKind.wrap .i64 (x10 + 1)) h) : J9 Q R3 x10 a8 a4 n4 c4 e4 h :=
  Zay (kp := kp) (cast (by kernel_rfl) ht)
theorem J6i (Q : QT) (R3 : T3) (i6 o6 : Nat) (a4 : Pt) (n4 c4 : Nat) (e4 : Bool) (x5 x10 : Int) (a8 : Pt) (h : Zaa) (ht :
 Zcx (Zbp h (.ptr (some (i6, o6))) 2) fun K18 => Zam K18 fun C19 Z20 => Zds .u8 (some C19) fun X21 => Zam Z20 fun C22 Z23 => xSl (some C22) fun A24 N25 C26 E27 => Zci Z23 (Zad pg Zhi [.agg [.int .u8 X21, .slice A24 N25 C26 E27]] h fun V28 H29 =>
 Zds .i64 (some V28) fun X30 => bcase (decide ((X30 : Int) > 60)) (Zdg (H29 ++ [.cells Zbb [] false]) fun H31 => Q (.tup [.slice (some (H29.length, 0)) 0 0 true, .bool false]) H31) ((0 ≤ (x5 : Int) ∧ (x5 : Int) ≤ IntKind.wrap .i64 (x5 + 1) ∧ (IntKind.wrap .i64 (x5 + 1) : Int) ≤ (List.length ([88, 89, 90, 120, 121, 122, 49, 50, 51, 52, 53, 54]) : Nat)) ∧ (Zcx (Zbp H29 (.ptr (some (i6, o6))) 2) fun K32 => Zam K32 fun C33 Z34 => Zds .u8 (some C33) fun X35 => Zam Z34 fun C36 Z37 => xSl (some C36) fun A38 N39 C40 E41 => Zci Z37 (Zad pg Zgn [.agg [.int .u8 X35, .slice A38 N39 C40 E41]] H29 fun V42 H43 =>
 Zbk (some V42) fun S44 => Zdg (H43 ++ [.cells Zbb [.str (sub ([88, 89, 90, 120, 121, 122, 49, 50, 51, 52, 53, 54]) x5 (IntKind.wrap .i64 (x5 + 1))), .str S44] false]) fun H45 => Zey pg Zla H45 (.slice a4 n4 c4 e4) (.slice (some (H43.length, 0)) 1 1 true) fun V46 H47 => xSl (some V46) fun A48 N49 C50 E51 => J9 Q R3 x10 a8 A48 N49 C50 E51 H47))))) : J6 Q R3 i6 o6 a4 n4 c4 e4 x5 x10 a8 h :=
  Zay (kp := kp) (cast (by kernel_rfl) ht)
theorem A3x0i (Q : QT) (a4 : Pt) (n4 c4 : Nat) (e4 : Bool) (h : Zaa) (ht :
 Q (.tup [.slice a4 n4 c4 e4, .bool true]) h) : Zpo Q a4 n4 c4 e4 h :=
  At.mk (cast (by kernel_rfl) ht)
theorem call (a0 : Pt) (h : Zaa) (Q : QT) (ht :
 Zdg (h ++ [.cells Zbb [] false]) fun H0 => Zbl a0 fun I1 O2 => L3 Q (some (h.length, 0)) 0 0 true a0 0 H0) : Zad pg Zny [.ptr a0] h Q :=
  Zad.of_body kp (c := cod fn) (fn := fn) Go.Proofs.Tryz.func139 (by kernel_rfl) (by kernel_rfl) (Nat.le_of_ble_eq_true (by kernel_rfl))
    (cast (by kernel_rfl) ht)
end Zfd
namespace Zlb
noncomputable abbrev fn : Func := Go.Proofs.Tryz.f100
def kp : Zcb := [(4000006, [10])]
noncomputable def C (p : List Nat) : Code := (cod fn).sub p
def KR (Q : QT) : KT := Zez pg fn.results.toList Q
def J6 (Q : QT) (i10 o10 : Nat) (h : Zaa) : Prop := Den pg fn.ntmps (C [1, 1, 1, 1, 1]) [(10, .ptr (some (i10, o10)))] h (KR Q)
theorem J6i (Q : QT) (i10 o10 : Nat) (h : Zaa) (ht :
 Zad pg Zny [.ptr (some (i10, o10))] h fun V67 H68 =>
 Zuc V67 fun K69 => Zam K69 fun C70 Z71 => xSl (some C70) fun A72 N73 C74 E75 => Zam Z71 fun C76 Z77 => Zbz (some C76) fun B78 => Zci Z77 (Q (.tup [.slice A72 N73 C74 E75, .bool B78]) H68)) : J6 Q i10 o10 h :=
  Zay (kp := kp) (cast (by kernel_rfl) ht)
theorem call (x0 x1 : List Nat) (h : Zaa) (Q : QT) (ht :
 Zad pg Zgp [.str x0] h fun V0 H1 =>
 Zuc V0 fun K2 => Zam K2 fun C3 Z4 => Ztu C3 fun K5 => Zam K5 fun C6 Z7 => Zds .u8 (some C6) fun X8 => Zam Z7 fun C9 Z10 => xSl (some C9) fun A11 N12 C13 E14 => Zci Z10 (Zam Z4 fun C15 Z16 => Zbz (some C15) fun B17 => Zci Z16 (Zdg (H1 ++ [.cells Zac [.int .u8 0, .slice none 0 0 true] false]) fun H18 => Zcu (Zbn H18 (.ptr (some (H1.length, 0))) [.int .u8 X8, .slice A11 N12 C13 E14]) fun H19 => Zad pg Zgp [.str x1] H19 fun V20 H21 =>
 Zuc V20 fun K22 => Zam K22 fun C23 Z24 => Ztu C23 fun K25 => Zam K25 fun C26 Z27 => Zds .u8 (some C26) fun X28 => Zam Z27 fun C29 Z30 => xSl (some C29) fun A31 N32 C33 E34 => Zci Z30 (Zam Z24 fun C35 Z36 => Zbz (some C35) fun B37 => Zci Z36 (Zdg (H21 ++ [.cells Zac [.int .u8 0, .slice none 0 0 true] false]) fun H38 => Zcu (Zbn H38 (.ptr (some (H21.length, 0))) [.int .u8 X28, .slice A31 N32 C33 E34]) fun H39 => Zdg (H39 ++ [.cells Zfh [.int .u8 0, .slice none 0 0 true, .int .u8 0, .slice none 0 0 true, .int .u8 0, .slice none 0 0 true, .int .u8 0, .slice none 0 0 true, .int .u8 0, .slice none 0 0 true, .int .u8 0, .slice none 0 0 true, .int .u8 0, .slice none 0 0 true, .int .u8 0, .slice none 0 0 true, .int .u8 0, .slice none 0 0 true, .int .u8 0, .slice none 0 0 true, .int .u8 0, .slice none 0 0 true, .int .u8 0, .slice none 0 0 true] false]) fun H40 => bcase (!B17) (Zdg (H40 ++ [.cells Zbb [] false]) fun H41 => Q (.tup [.slice (some (H40.length, 0)) 0 0 true, .bool false]) H41) (bcase (!B37) (Zdg (H40 ++ [.cells Zbb [] false]) fun H42 => Q (.tup [.slice (some (H40.length, 0)) 0 0 true, .bool false]) H42) (Zcx (Zbp H40 (.ptr (some (H1.length, 0))) 2) fun K43 => Zam K43 fun C44 Z45 => Zds .u8 (some C44) fun X46 => Zam Z45 fun C47 Z48 => xSl (some C47) fun A49 N50 C51 E52 => Zci Z48 (Zcx (Zbp H40 (.ptr (some (H21.length, 0))) 2) fun K53 => Zam K53 fun C54 Z55 => Zds .u8 (some C54) fun X56 => Zam Z55 fun C57 Z58 => xSl (some C57) fun A59 N60 C61 E62 => Zci Z58 (Zad pg Zkn [.ptr (some (H39.length, 0)), .agg [.int .u8 X46, .slice A49 N50 C51 E52], .agg [.int .u8 X56, .slice A59 N60 C61 E62]] H40 fun V63 H64 =>
 Zbz (some V63) fun B65 => bcase (!B65) (Zdg (H64 ++ [.cells Zbb [] false]) fun H66 => Q (.tup [.slice (some (H64.length, 0)) 0 0 true, .bool false]) H66) (J6 Q H39.length 0 H64)))))))))) : Zad pg Zin [.str x0, .str x1] h Q :=
  Zad.of_body kp (c := cod fn) (fn := fn) Go.Proofs.Tryz.func100 (by kernel_rfl) (by kernel_rfl) (Nat.le_of_ble_eq_true (by kernel_rfl))
    (cast (by kernel_rfl) ht)
end Zlb
namespace Zmz
noncomputable abbrev fn : Func := Go.Proofs.Tryz.f56
def kp : Zcb := []
noncomputable def C (p : List Nat) : Code := (cod fn).sub p
def KR (Q : QT) : KT := Zez pg fn.results.toList Q
theorem call (x0 x1 : List Nat) (h : Zaa) (Q : QT) (ht :
 Zad pg Zin [.str x0, .str x1] h fun V0 H1 =>
 Zuc V0 fun K2 => Zam K2 fun C3 Z4 => xSl (some C3) fun A5 N6 C7 E8 => Zam Z4 fun C9 Z10 => Zbz (some C9) fun B11 => Zci Z10 (Q (.bool B11) H1)) : Zad pg Zkd [.str x0, .str x1] h Q :=
  Zad.of_body kp (c := cod fn) (fn := fn) Go.Proofs.Tryz.func56 (by kernel_rfl) (by kernel_rfl) (Nat.le_of_ble_eq_true (by kernel_rfl))
    (cast (by kernel_rfl) ht)
end Zmz
end Go.Sim
