/- A part of the proof of a statement of this seat: see the text that holds the theorem. No condition. -/
import Derived.Test.YtlljbdepamknoaaGreatNm
set_option linter.unusedVariables false
set_option linter.unusedSimpArgs false
set_option linter.all false
set_option maxRecDepth 100000
set_option linter.unusedVariables false
namespace Go.Sim
open Go Go.RowKit
namespace Zfm
noncomputable abbrev fn : Func := Go.Proofs.Tryz.f151
def kp : Zcb := [(3000003, [3]), (1000003, [0, 3, 4]), (4000004, [4, 0, 3])]
noncomputable def C (p : List Nat) : Code := (cod fn).sub p
def KR (Q : QT) : KT := Zez pg fn.results.toList Q
abbrev T3 := List Nat → List Nat → Int → Zaa → Prop
def E3 (R3 : T3) (env : Env) (h : Zaa) : Prop := Zbt 0 env fun v env => Zbk (some v) fun x0 => Zbt 3 env fun v env => Zbk (some v) fun x3 => Zbt 4 env fun v env => Zei .i32 v fun x4 => Zjr env (R3 x0 x3 x4 h)
theorem Zes {R3 : T3} {env : Env} {h : Zaa} (hi : E3 R3 env h) : ∃ x0, ∃ x3, ∃ x4, env = [(0, .str x0), (3, .str x3), (4, .int .i32 x4)] ∧ R3 x0 x3 x4 h := by
  unfold E3 at hi
  have hi0 := hi
  clear hi
  obtain ⟨_, _, rfl, hi1⟩ := Zab hi0
  obtain ⟨x0, rfl, hi2⟩ := Zch hi1
  obtain ⟨_, _, rfl, hi3⟩ := Zab hi2
  obtain ⟨x3, rfl, hi4⟩ := Zch hi3
  obtain ⟨_, _, rfl, hi5⟩ := Zab hi4
  obtain ⟨x4, rfl, hi6⟩ := Zat hi5
  obtain ⟨rfl, hi7⟩ := Zbi hi6
  have hi := hi7
  exact ⟨x0, x3, x4, rfl, hi⟩
def K0 (Q : QT) : KT := andThen (fun env' h' => (match kp.find 4000007 with | some ks => Den pg fn.ntmps (C [1, 1, 1]) (env'.keep ks) h' (KR Q) | none => den pg fn.ntmps kp (C [1, 1, 1]) env' h' (KR Q))) (KR Q)
def K1 (Q : QT) : KT := Zcg 0 (K0 Q)
def K2 (Q : QT) : KT := Zgz kp 3 (K1 Q)
def K3 (Q : QT) (R3 : T3) : KT := rnd ((kp.find 1000003).getD []) (E3 R3) (K2 Q)
def L3 (Q : QT) (x0 x3 : List Nat) (x4 : Int) (h : Zaa) : Prop := Zed (Den pg fn.ntmps (C [1, 1, 0, 1, 0, 0])) ((kp.find 1000003).getD []) (K2 Q) [(0, .str x0), (3, .str x3), (4, .int .i32 x4)] h
def J4 (Q : QT) (R3 : T3) (x4 : Int) (x0 x3 : List Nat) (h : Zaa) : Prop := Den pg fn.ntmps (C [1, 1, 0, 1, 0, 0, 1, 1]) [(4, .int .i32 x4), (0, .str x0), (3, .str x3)] h (K3 Q R3)
def Zpo (Q : QT) (x3 : List Nat) (h : Zaa) : Prop := At (K1 Q) (.exit 0) [(3, .str x3)] h
def L3t (Q : QT) (R3 : T3) (x0 x3 : List Nat) (x4 : Int) (h : Zaa) : Prop :=
 bcase (decide ((x4 : Int) ≤ 84)) (Zad pg Zdz [.str x0, .int .u8 (IntKind.wrap .u8 (x4))] h fun V0 H1 =>
 Zds .i64 (some V0) fun X2 => bcase (decide ((X2 : Int) ≥ 0)) (Zdg (H1 ++ [.cells Ydd [.int .u8 (IntKind.wrap .u8 (x4))] false]) fun H3 => Zcx (rowOf H3 (some (H1.length, 0)) 1) fun K4 => Znn K4 fun S5 => List.length x3 + List.length S5 ≤ 9223372036854775807 ∧ (J4 Q R3 x4 x0 (x3 ++ S5) H3)) (J4 Q R3 x4 x0 x3 H1)) (Zpo Q x3 h)
theorem Zme (Q : QT) (R3 : T3) (x0 x3 : List Nat) (x4 : Int) (h : Zaa) (ht : L3t Q R3 x0 x3 x4 h) : Den pg fn.ntmps (C [1, 1, 0, 1, 0, 0]) [(0, .str x0), (3, .str x3), (4, .int .i32 x4)] h (K3 Q R3) :=
  Zay (kp := kp) (cast (by kernel_rfl) ht)
theorem L3ind (Q : QT) (x0 : List Nat) {G : Type} (J : G → List Nat → Int → Zaa → Prop) (m : G → Nat)
 (hr : ∀ (g : G) (x3 : List Nat) (x4 : Int) (h : Zaa), J g x3 x4 h → ∀ (R3 : T3), (∀ g' (x3 : List Nat) (x4 : Int) (h : Zaa), m g' < m g → J g' x3 x4 h → R3 x0 x3 x4 h) → L3t Q R3 x0 x3 x4 h)
 (g : G) (x3 : List Nat) (x4 : Int) (h : Zaa) (hj : J g x3 x4 h) : L3 Q x0 x3 x4 h := by
  refine Zed.inv2 (fun g => E3 fun x0' x3 x4 h => x0 = x0' ∧ J g x3 x4 h) (fun g => E3 fun x0' x3 x4 h => x0 = x0' ∧ ∃ g', m g' < m g ∧ J g' x3 x4 h) m ?_ ?_ g ⟨rfl, hj⟩
  · intro g env h hi
    obtain ⟨x0', x3, x4, rfl, rfl, hj⟩ := Zes hi
    exact Zme Q _ x0 x3 x4 h (hr g x3 x4 h hj (fun x0' x3 x4 h => x0 = x0' ∧ ∃ g', m g' < m g ∧ J g' x3 x4 h) fun g' x3 x4 h hlt hj => ⟨rfl, g', hlt, hj⟩)
  · intro g env h hi
    obtain ⟨x0', x3, x4, rfl, rfl, g', hlt, hj⟩ := Zes hi
    exact ⟨g', hlt, rfl, hj⟩
theorem J4i (Q : QT) (R3 : T3) (x4 : Int) (x0 x3 : List Nat) (h : Zaa) (ht :
 R3 x0 x3 (IntKind.wrap .i32 (x4 + 1)) h) : J4 Q R3 x4 x0 x3 h :=
  Zay (kp := kp) (cast (by kernel_rfl) ht)
theorem A3x0i (Q : QT) (x3 : List Nat) (h : Zaa) (ht :
 Q (.str x3) h) : Zpo Q x3 h :=
  At.mk (cast (by kernel_rfl) ht)
theorem call (x0 : List Nat) (h : Zaa) (Q : QT) (ht :
 L3 Q x0 [] 65 h) : Zad pg Zly [.str x0] h Q :=
  Zad.of_body kp (c := cod fn) (fn := fn) Go.Proofs.Tryz.func151 (by kernel_rfl) (by kernel_rfl) (Nat.le_of_ble_eq_true (by kernel_rfl))
    (cast (by kernel_rfl) ht)
end Zfm
namespace Zdk
noncomputable abbrev fn : Func := Go.Proofs.Tryz.f123
def kp : Zcb := [(2000004, [2, 5, 6]), (3000006, [6, 5]), (1000006, [2, 5, 6, 23, 24]), (3000008, [6, 24, 23, 2, 5]), (1000008, [2, 5, 6, 23, 24, 27, 28]), (2000010, [28, 27, 6, 2, 24, 23, 5]), (3000015, [5]), (1000015, [5, 6, 50, 51])]
noncomputable def C (p : List Nat) : Code := (cod fn).sub p
def KR (Q : QT) : KT := Zez pg fn.results.toList Q
abbrev T6 := Nat → Nat → List Nat → List Nat → Int → Int → Zaa → Prop
def E6 (R6 : T6) (env : Env) (h : Zaa) : Prop := Zbt 2 env fun v env => Zkx (some v) fun a => Zbl a fun i2 o2 => Zbt 5 env fun v env => Zbk (some v) fun x5 => Zbt 6 env fun v env => Zbk (some v) fun x6 => Zbt 23 env fun v env => Zei .i64 v fun x23 => Zbt 24 env fun v env => Zei .i64 v fun x24 => Zjr env (R6 i2 o2 x5 x6 x23 x24 h)
theorem Zmk {R6 : T6} {env : Env} {h : Zaa} (hi : E6 R6 env h) : ∃ i2, ∃ o2, ∃ x5, ∃ x6, ∃ x23, ∃ x24, env = [(2, .ptr (some (i2, o2))), (5, .str x5), (6, .str x6), (23, .int .i64 x23), (24, .int .i64 x24)] ∧ R6 i2 o2 x5 x6 x23 x24 h := by
  unfold E6 at hi
  have hi0 := hi
  clear hi
  obtain ⟨_, _, rfl, hi1⟩ := Zab hi0
  obtain ⟨a, rfl, hi2⟩ := Zce hi1
  obtain ⟨i2, o2, rfl, hi3⟩ := Zby hi2
  obtain ⟨_, _, rfl, hi4⟩ := Zab hi3
  obtain ⟨x5, rfl, hi5⟩ := Zch hi4
  obtain ⟨_, _, rfl, hi6⟩ := Zab hi5
  obtain ⟨x6, rfl, hi7⟩ := Zch hi6
  obtain ⟨_, _, rfl, hi8⟩ := Zab hi7
  obtain ⟨x23, rfl, hi9⟩ := Zat hi8
  obtain ⟨_, _, rfl, hi10⟩ := Zab hi9
  obtain ⟨x24, rfl, hi11⟩ := Zat hi10
  obtain ⟨rfl, hi12⟩ := Zbi hi11
  have hi := hi12
  exact ⟨i2, o2, x5, x6, x23, x24, rfl, hi⟩
abbrev T8 := Nat → Nat → List Nat → List Nat → Int → Int → Int → Int → Zaa → Prop
def E8 (R8 : T8) (env : Env) (h : Zaa) : Prop := Zbt 2 env fun v env => Zkx (some v) fun a => Zbl a fun i2 o2 => Zbt 5 env fun v env => Zbk (some v) fun x5 => Zbt 6 env fun v env => Zbk (some v) fun x6 => Zbt 23 env fun v env => Zei .i64 v fun x23 => Zbt 24 env fun v env => Zei .i64 v fun x24 => Zbt 27 env fun v env => Zei .i64 v fun x27 => Zbt 28 env fun v env => Zei .i64 v fun x28 => Zjr env (R8 i2 o2 x5 x6 x23 x24 x27 x28 h)
theorem Ymm {R8 : T8} {env : Env} {h : Zaa} (hi : E8 R8 env h) : ∃ i2, ∃ o2, ∃ x5, ∃ x6, ∃ x23, ∃ x24, ∃ x27, ∃ x28, env = [(2, .ptr (some (i2, o2))), (5, .str x5), (6, .str x6), (23, .int .i64 x23), (24, .int .i64 x24), (27, .int .i64 x27), (28, .int .i64 x28)] ∧ R8 i2 o2 x5 x6 x23 x24 x27 x28 h := by
  unfold E8 at hi
  have hi0 := hi
  clear hi
  obtain ⟨_, _, rfl, hi1⟩ := Zab hi0
  obtain ⟨a, rfl, hi2⟩ := Zce hi1
  obtain ⟨i2, o2, rfl, hi3⟩ := Zby hi2
  obtain ⟨_, _, rfl, hi4⟩ := Zab hi3
  obtain ⟨x5, rfl, hi5⟩ := Zch hi4
  obtain ⟨_, _, rfl, hi6⟩ := Zab hi5
  obtain ⟨x6, rfl, hi7⟩ := Zch hi6
  obtain ⟨_, _, rfl, hi8⟩ := Zab hi7
  obtain ⟨x23, rfl, hi9⟩ := Zat hi8
  obtain ⟨_, _, rfl, hi10⟩ := Zab hi9
  obtain ⟨x24, rfl, hi11⟩ := Zat hi10
  obtain ⟨_, _, rfl, hi12⟩ := Zab hi11
  obtain ⟨x27, rfl, hi13⟩ := Zat hi12
  obtain ⟨_, _, rfl, hi14⟩ := Zab hi13
  obtain ⟨x28, rfl, hi15⟩ := Zat hi14
  obtain ⟨rfl, hi16⟩ := Zbi hi15
  have hi := hi16
  exact ⟨i2, o2, x5, x6, x23, x24, x27, x28, rfl, hi⟩
abbrev T15 := List Nat → List Nat → Int → Int → Zaa → Prop
def E15 (R15 : T15) (env : Env) (h : Zaa) : Prop := Zbt 5 env fun v env => Zbk (some v) fun x5 => Zbt 6 env fun v env => Zbk (some v) fun x6 => Zbt 50 env fun v env => Zei .i64 v fun x50 => Zbt 51 env fun v env => Zei .i64 v fun x51 => Zjr env (R15 x5 x6 x50 x51 h)
theorem Yik {R15 : T15} {env : Env} {h : Zaa} (hi : E15 R15 env h) : ∃ x5, ∃ x6, ∃ x50, ∃ x51, env = [(5, .str x5), (6, .str x6), (50, .int .i64 x50), (51, .int .i64 x51)] ∧ R15 x5 x6 x50 x51 h := by
  unfold E15 at hi
  have hi0 := hi
  clear hi
  obtain ⟨_, _, rfl, hi1⟩ := Zab hi0
  obtain ⟨x5, rfl, hi2⟩ := Zch hi1
  obtain ⟨_, _, rfl, hi3⟩ := Zab hi2
  obtain ⟨x6, rfl, hi4⟩ := Zch hi3
  obtain ⟨_, _, rfl, hi5⟩ := Zab hi4
  obtain ⟨x50, rfl, hi6⟩ := Zat hi5
  obtain ⟨_, _, rfl, hi7⟩ := Zab hi6
  obtain ⟨x51, rfl, hi8⟩ := Zat hi7
  obtain ⟨rfl, hi9⟩ := Zbi hi8
  have hi := hi9
  exact ⟨x5, x6, x50, x51, rfl, hi⟩
def K0 (Q : QT) : KT := andThen (fun env' h' => (match kp.find 4000014 with | some ks => Den pg fn.ntmps (C [1, 1, 1, 1, 1]) (env'.keep ks) h' (KR Q) | none => den pg fn.ntmps kp (C [1, 1, 1, 1, 1]) env' h' (KR Q))) (KR Q)
def K1 (Q : QT) : KT := Zcg 0 (K0 Q)
def K2 (Q : QT) : KT := Zgz kp 6 (K1 Q)
def K3 (Q : QT) (R6 : T6) : KT := rnd ((kp.find 1000006).getD []) (E6 R6) (K2 Q)
def K4 (Q : QT) (R6 : T6) : KT := andThen (fun env' h' => (match kp.find 4000013 with | some ks => Den pg fn.ntmps (C [1, 1, 1, 1, 0, 1, 0, 0, 1, 1, 1]) (env'.keep ks) h' (K3 Q R6) | none => den pg fn.ntmps kp (C [1, 1, 1, 1, 0, 1, 0, 0, 1, 1, 1]) env' h' (K3 Q R6))) (K3 Q R6)
def K5 (Q : QT) (R6 : T6) : KT := Zcg 1 (K4 Q R6)
def K6 (Q : QT) (R6 : T6) : KT := andThen (fun env' h' => (match kp.find 4000012 with | some ks => Den pg fn.ntmps (C [1, 1, 1, 1, 0, 1, 0, 0, 1, 1, 0, 0, 1]) (env'.keep ks) h' (K5 Q R6) | none => den pg fn.ntmps kp (C [1, 1, 1, 1, 0, 1, 0, 0, 1, 1, 0, 0, 1]) env' h' (K5 Q R6))) (K5 Q R6)
def K7 (Q : QT) (R6 : T6) : KT := Zcg 2 (K6 Q R6)
def K8 (Q : QT) (R6 : T6) : KT := Zgz kp 8 (K7 Q R6)
def K9 (Q : QT) (R6 : T6) (R8 : T8) : KT := rnd ((kp.find 1000008).getD []) (E8 R8) (K8 Q R6)
def K10 (Q : QT) : KT := andThen (fun env' h' => (match kp.find 4000019 with | some ks => Den pg fn.ntmps (C [1, 1, 1, 1, 1, 1]) (env'.keep ks) h' (KR Q) | none => den pg fn.ntmps kp (C [1, 1, 1, 1, 1, 1]) env' h' (KR Q))) (KR Q)
def K11 (Q : QT) : KT := Zcg 4 (K10 Q)
def K12 (Q : QT) : KT := Zgz kp 15 (K11 Q)
def K13 (Q : QT) (R15 : T15) : KT := rnd ((kp.find 1000015).getD []) (E15 R15) (K12 Q)
def L6 (Q : QT) (i2 o2 : Nat) (x5 x6 : List Nat) (x23 x24 : Int) (h : Zaa) : Prop := Zed (Den pg fn.ntmps (C [1, 1, 1, 1, 0, 1, 0, 0])) ((kp.find 1000006).getD []) (K2 Q) [(2, .ptr (some (i2, o2))), (5, .str x5), (6, .str x6), (23, .int .i64 x23), (24, .int .i64 x24)] h
def L8 (Q : QT) (R6 : T6) (i2 o2 : Nat) (x5 x6 : List Nat) (x23 x24 x27 x28 : Int) (h : Zaa) : Prop := Zed (Den pg fn.ntmps (C [1, 1, 1, 1, 0, 1, 0, 0, 1, 1, 0, 0, 0, 1, 0, 0])) ((kp.find 1000008).getD []) (K8 Q R6) [(2, .ptr (some (i2, o2))), (5, .str x5), (6, .str x6), (23, .int .i64 x23), (24, .int .i64 x24), (27, .int .i64 x27), (28, .int .i64 x28)] h
def Ydy (Q : QT) (x6 x5 : List Nat) (h : Zaa) : Prop := At (K1 Q) (.exit 0) [(6, .str x6), (5, .str x5)] h
def Yql (Q : QT) (R6 : T6) (x6 : List Nat) (x24 x23 : Int) (i2 o2 : Nat) (x5 : List Nat) (h : Zaa) : Prop := At (K7 Q R6) (.exit 2) [(6, .str x6), (24, .int .i64 x24), (23, .int .i64 x23), (2, .ptr (some (i2, o2))), (5, .str x5)] h
def L15 (Q : QT) (x5 x6 : List Nat) (x50 x51 : Int) (h : Zaa) : Prop := Zed (Den pg fn.ntmps (C [1, 1, 1, 1, 1, 0, 1, 0, 0])) ((kp.find 1000015).getD []) (K12 Q) [(5, .str x5), (6, .str x6), (50, .int .i64 x50), (51, .int .i64 x51)] h
def Ypa (Q : QT) (x5 : List Nat) (h : Zaa) : Prop := At (K11 Q) (.exit 4) [(5, .str x5)] h
def L6t (Q : QT) (R6 : T6) (i2 o2 : Nat) (x5 x6 : List Nat) (x23 x24 : Int) (h : Zaa) : Prop :=
 bcase (decide ((x24 : Int) < x23)) (L8 Q R6 i2 o2 x5 x6 x23 x24 (((List.length x6 : Nat) : Int)) 0 h) (Ydy Q x6 x5 h)
theorem Zxx (Q : QT) (R6 : T6) (i2 o2 : Nat) (x5 x6 : List Nat) (x23 x24 : Int) (h : Zaa) (ht : L6t Q R6 i2 o2 x5 x6 x23 x24 h) : Den pg fn.ntmps (C [1, 1, 1, 1, 0, 1, 0, 0]) [(2, .ptr (some (i2, o2))), (5, .str x5), (6, .str x6), (23, .int .i64 x23), (24, .int .i64 x24)] h (K3 Q R6) :=
  Zay (kp := kp) (cast (by kernel_rfl) ht)
theorem L6ind (Q : QT) (i2 o2 : Nat) (x5 : List Nat) (x23 : Int) {G : Type} (J : G → List Nat → Int → Zaa → Prop) (m : G → Nat)
 (hr : ∀ (g : G) (x6 : List Nat) (x24 : Int) (h : Zaa), J g x6 x24 h → ∀ (R6 : T6), (∀ g' (x6 : List Nat) (x24 : Int) (h : Zaa), m g' < m g → J g' x6 x24 h → R6 i2 o2 x5 x6 x23 x24 h) → L6t Q R6 i2 o2 x5 x6 x23 x24 h)
 (g : G) (x6 : List Nat) (x24 : Int) (h : Zaa) (hj : J g x6 x24 h) : L6 Q i2 o2 x5 x6 x23 x24 h := by
  refine Zed.inv2 (fun g => E6 fun i2' o2' x5' x6 x23' x24 h => i2 = i2' ∧ o2 = o2' ∧ x5 = x5' ∧ x23 = x23' ∧ J g x6 x24 h) (fun g => E6 fun i2' o2' x5' x6 x23' x24 h => i2 = i2' ∧ o2 = o2' ∧ x5 = x5' ∧ x23 = x23' ∧ ∃ g', m g' < m g ∧ J g' x6 x24 h) m ?_ ?_ g ⟨rfl, rfl, rfl, rfl, hj⟩
  · intro g env h hi
    obtain ⟨i2', o2', x5', x6, x23', x24, rfl, rfl, rfl, rfl, rfl, hj⟩ := Zmk hi
    exact Zxx Q _ i2 o2 x5 x6 x23 x24 h (hr g x6 x24 h hj (fun i2' o2' x5' x6 x23' x24 h => i2 = i2' ∧ o2 = o2' ∧ x5 = x5' ∧ x23 = x23' ∧ ∃ g', m g' < m g ∧ J g' x6 x24 h) fun g' x6 x24 h hlt hj => ⟨rfl, rfl, rfl, rfl, g', hlt, hj⟩)
  · intro g env h hi
    obtain ⟨i2', o2', x5', x6, x23', x24, rfl, rfl, rfl, rfl, rfl, g', hlt, hj⟩ := Zmk hi
    exact ⟨g', hlt, rfl, rfl, rfl, rfl, hj⟩
def L8t (Q : QT) (R6 : T6) (R8 : T8) (i2 o2 : Nat) (x5 x6 : List Nat) (x23 x24 x27 x28 : Int) (h : Zaa) : Prop :=
 bcase (decide ((x28 : Int) < x27)) ((0 ≤ (x28 : Int) ∧ (x28 : Int) ≤ IntKind.wrap .i64 (x28 + 1) ∧ (IntKind.wrap .i64 (x28 + 1) : Int) ≤ (List.length x6 : Nat)) ∧ (xSl (Zag h (.ptr (some (i2, o2 + 0)))) fun A44 N45 C46 E47 => Zcx (Zbp h (.ptr (some (i2, o2))) 2) fun K48 => Zam K48 fun C49 Z50 => xSl (some C49) fun A51 N52 C53 E54 => Zam Z50 fun C55 Z56 => xSl (some C55) fun A57 N58 C59 E60 => Zci Z56 ((Zag h (.ptr (some (i2, o2 + 0))) = Zag h (.ptr (some (i2, o2 + 0)))) ∧ Zad pg Zeo [.agg [.slice A51 N52 C53 E54, .slice A57 N58 C59 E60], .str (sub x6 x28 (IntKind.wrap .i64 (x28 + 1)))] h fun V61 H62 =>
 Zds .i64 (some V61) fun X63 => (Zag H62 (.ptr (some (i2, o2 + 0))) = Zag h (.ptr (some (i2, o2 + 0)))) ∧ (0 ≤ (X63 : Int) ∧ (X63 : Int) < (N45 : Nat)) ∧ (Zbl A44 fun I64 O65 => Zbk (Zag H62 (.ptr (some (I64, O65 + (Int.toNat X63) * 2 + 1)))) fun S66 => (Zag H62 (.ptr (some (i2, o2 + 0))) = Zag H62 (.ptr (some (i2, o2 + 0)))) ∧ List.length x6 + List.length S66 ≤ 9223372036854775807 ∧ (R8 i2 o2 x5 (x6 ++ S66) x23 x24 x27 (IntKind.wrap .i64 (x28 + 1)) H62))))) (Yql Q R6 x6 x24 x23 i2 o2 x5 h)
theorem Ypw (Q : QT) (R6 : T6) (R8 : T8) (i2 o2 : Nat) (x5 x6 : List Nat) (x23 x24 x27 x28 : Int) (h : Zaa) (ht : L8t Q R6 R8 i2 o2 x5 x6 x23 x24 x27 x28 h) : Den pg fn.ntmps (C [1, 1, 1, 1, 0, 1, 0, 0, 1, 1, 0, 0, 0, 1, 0, 0]) [(2, .ptr (some (i2, o2))), (5, .str x5), (6, .str x6), (23, .int .i64 x23), (24, .int .i64 x24), (27, .int .i64 x27), (28, .int .i64 x28)] h (K9 Q R6 R8) :=
  Zay (kp := kp) (cast (by kernel_rfl) ht)
theorem L8ind (Q : QT) (R6 : T6) (i2 o2 : Nat) (x5 : List Nat) (x23 x24 x27 : Int) {G : Type} (J : G → List Nat → Int → Zaa → Prop) (m : G → Nat)
 (hr : ∀ (g : G) (x6 : List Nat) (x28 : Int) (h : Zaa), J g x6 x28 h → ∀ (R8 : T8), (∀ g' (x6 : List Nat) (x28 : Int) (h : Zaa), m g' < m g → J g' x6 x28 h → R8 i2 o2 x5 x6 x23 x24 x27 x28 h) → L8t Q R6 R8 i2 o2 x5 x6 x23 x24 x27 x28 h)
 (g : G) (x6 : List Nat) (x28 : Int) (h : Zaa) (hj : J g x6 x28 h) : L8 Q R6 i2 o2 x5 x6 x23 x24 x27 x28 h := by
  refine Zed.inv2 (fun g => E8 fun i2' o2' x5' x6 x23' x24' x27' x28 h => i2 = i2' ∧ o2 = o2' ∧ x5 = x5' ∧ x23 = x23' ∧ x24 = x24' ∧ x27 = x27' ∧ J g x6 x28 h) (fun g => E8 fun i2' o2' x5' x6 x23' x24' x27' x28 h => i2 = i2' ∧ o2 = o2' ∧ x5 = x5' ∧ x23 = x23' ∧ x24 = x24' ∧ x27 = x27' ∧ ∃ g', m g' < m g ∧ J g' x6 x28 h) m ?_ ?_ g ⟨rfl, rfl, rfl, rfl, rfl, rfl, hj⟩
  · intro g env h hi
    obtain ⟨i2', o2', x5', x6, x23', x24', x27', x28, rfl, rfl, rfl, rfl, rfl, rfl, rfl, hj⟩ := Ymm hi
    exact Ypw Q R6 (fun i2' o2' x5' x6 x23' x24' x27' x28 h => i2 = i2' ∧ o2 = o2' ∧ x5 = x5' ∧ x23 = x23' ∧ x24 = x24' ∧ x27 = x27' ∧ ∃ g', m g' < m g ∧ J g' x6 x28 h) i2 o2 x5 x6 x23 x24 x27 x28 h (hr g x6 x28 h hj (fun i2' o2' x5' x6 x23' x24' x27' x28 h => i2 = i2' ∧ o2 = o2' ∧ x5 = x5' ∧ x23 = x23' ∧ x24 = x24' ∧ x27 = x27' ∧ ∃ g', m g' < m g ∧ J g' x6 x28 h) fun g' x6 x28 h hlt hj => ⟨rfl, rfl, rfl, rfl, rfl, rfl, g', hlt, hj⟩)
  · intro g env h hi
    obtain ⟨i2', o2', x5', x6, x23', x24', x27', x28, rfl, rfl, rfl, rfl, rfl, rfl, rfl, g', hlt, hj⟩ := Ymm hi
    exact ⟨g', hlt, rfl, rfl, rfl, rfl, rfl, rfl, hj⟩
theorem A6x0i (Q : QT) (x6 x5 : List Nat) (h : Zaa) (ht :
 L15 Q x5 x6 (((List.length x6 : Nat) : Int)) 0 h) : Ydy Q x6 x5 h :=
  At.mk (cast (by kernel_rfl) ht)
theorem A8x2i (Q : QT) (R6 : T6) (x6 : List Nat) (x24 x23 : Int) (i2 o2 : Nat) (x5 : List Nat) (h : Zaa) (ht :
 Zad pg Zly [.str x6] h fun V67 H68 =>
 Zbk (some V67) fun S69 => R6 i2 o2 x5 S69 x23 (IntKind.wrap .i64 (x24 + 1)) H68) : Yql Q R6 x6 x24 x23 i2 o2 x5 h :=
  At.mk (cast (by kernel_rfl) ht)
def L15t (Q : QT) (R15 : T15) (x5 x6 : List Nat) (x50 x51 : Int) (h : Zaa) : Prop :=
 bcase (decide ((x51 : Int) < x50)) ((0 ≤ (x51 : Int) ∧ (x51 : Int) ≤ IntKind.wrap .i64 (x51 + 1) ∧ (IntKind.wrap .i64 (x51 + 1) : Int) ≤ (List.length x6 : Nat)) ∧ (List.length x5 + List.length (sub x6 x51 (IntKind.wrap .i64 (x51 + 1))) ≤ 9223372036854775807 ∧ (R15 (x5 ++ (sub x6 x51 (IntKind.wrap .i64 (x51 + 1)))) x6 x50 (IntKind.wrap .i64 (x51 + 1)) h))) (Ypa Q x5 h)
theorem Ypn (Q : QT) (R15 : T15) (x5 x6 : List Nat) (x50 x51 : Int) (h : Zaa) (ht : L15t Q R15 x5 x6 x50 x51 h) : Den pg fn.ntmps (C [1, 1, 1, 1, 1, 0, 1, 0, 0]) [(5, .str x5), (6, .str x6), (50, .int .i64 x50), (51, .int .i64 x51)] h (K13 Q R15) :=
  Zay (kp := kp) (cast (by kernel_rfl) ht)
theorem L15ind (Q : QT) (x6 : List Nat) (x50 : Int) {G : Type} (J : G → List Nat → Int → Zaa → Prop) (m : G → Nat)
 (hr : ∀ (g : G) (x5 : List Nat) (x51 : Int) (h : Zaa), J g x5 x51 h → ∀ (R15 : T15), (∀ g' (x5 : List Nat) (x51 : Int) (h : Zaa), m g' < m g → J g' x5 x51 h → R15 x5 x6 x50 x51 h) → L15t Q R15 x5 x6 x50 x51 h)
 (g : G) (x5 : List Nat) (x51 : Int) (h : Zaa) (hj : J g x5 x51 h) : L15 Q x5 x6 x50 x51 h := by
  refine Zed.inv2 (fun g => E15 fun x5 x6' x50' x51 h => x6 = x6' ∧ x50 = x50' ∧ J g x5 x51 h) (fun g => E15 fun x5 x6' x50' x51 h => x6 = x6' ∧ x50 = x50' ∧ ∃ g', m g' < m g ∧ J g' x5 x51 h) m ?_ ?_ g ⟨rfl, rfl, hj⟩
  · intro g env h hi
    obtain ⟨x5, x6', x50', x51, rfl, rfl, rfl, hj⟩ := Yik hi
    exact Ypn Q _ x5 x6 x50 x51 h (hr g x5 x51 h hj (fun x5 x6' x50' x51 h => x6 = x6' ∧ x50 = x50' ∧ ∃ g', m g' < m g ∧ J g' x5 x51 h) fun g' x5 x51 h hlt hj => ⟨rfl, rfl, g', hlt, hj⟩)
  · intro g env h hi
    obtain ⟨x5, x6', x50', x51, rfl, rfl, rfl, g', hlt, hj⟩ := Yik hi
    exact ⟨g', hlt, rfl, rfl, hj⟩
theorem A15x4i (Q : QT) (x5 : List Nat) (h : Zaa) (ht :
 Q (.str x5) h) : Ypa Q x5 h :=
  At.mk (cast (by kernel_rfl) ht)
theorem call (a0x0 : Pt) (n0x0 c0x0 : Nat) (e0x0 : Bool) (a0x1 : Pt) (n0x1 c0x1 : Nat) (e0x1 : Bool) (x1 : List Nat) (h : Zaa) (Q : QT) (ht :
 Zdg (h ++ [.cells Zak [.slice a0x0 n0x0 c0x0 e0x0, .slice a0x1 n0x1 c0x1 e0x1] false]) fun H0 => Zcx (Zbp H0 (.ptr (some (h.length, 0))) 2) fun K1 => Zam K1 fun C2 Z3 => xSl (some C2) fun A4 N5 C6 E7 => Zam Z3 fun C8 Z9 => xSl (some C8) fun A10 N11 C12 E13 => Zci Z9 (Zad pg Zlx [.agg [.slice A4 N5 C6 E7, .slice A10 N11 C12 E13], .str x1] H0 fun V14 H15 =>
 Zbz (some V14) fun B16 => bcase (!B16) (Q (.str []) H15) (xSl (Zag H15 (.ptr (some (h.length, 0 + 0)))) fun A17 N18 C19 E20 => Zcx (Zbp H15 (.ptr (some (h.length, 0))) 2) fun K21 => Zam K21 fun C22 Z23 => xSl (some C22) fun A24 N25 C26 E27 => Zam Z23 fun C28 Z29 => xSl (some C28) fun A30 N31 C32 E33 => Zci Z29 ((Zag H15 (.ptr (some (h.length, 0 + 0))) = Zag H15 (.ptr (some (h.length, 0 + 0)))) ∧ Zad pg Zeo [.agg [.slice A24 N25 C26 E27, .slice A30 N31 C32 E33], .str x1] H15 fun V34 H35 =>
 Zds .i64 (some V34) fun X36 => (Zag H35 (.ptr (some (h.length, 0 + 0))) = Zag H15 (.ptr (some (h.length, 0 + 0)))) ∧ (0 ≤ (X36 : Int) ∧ (X36 : Int) < (N18 : Nat)) ∧ (Zbl A17 fun I37 O38 => Zbk (Zag H35 (.ptr (some (I37, O38 + (Int.toNat X36) * 2 + 1)))) fun S39 => (Zag H35 (.ptr (some (h.length, 0 + 0))) = Zag H35 (.ptr (some (h.length, 0 + 0)))) ∧ xSl (Zag H35 (.ptr (some (h.length, 0 + 0)))) fun A40 N41 C42 E43 => L6 Q h.length 0 [] S39 (((N41 : Nat) : Int)) 0 H35))))) : Zad pg Zln [.agg [.slice a0x0 n0x0 c0x0 e0x0, .slice a0x1 n0x1 c0x1 e0x1], .str x1] h Q :=
  Zad.of_body kp (c := cod fn) (fn := fn) Go.Proofs.Tryz.func123 (by kernel_rfl) (by kernel_rfl) (Nat.le_of_ble_eq_true (by kernel_rfl))
    (cast (by kernel_rfl) ht)
end Zdk
end Go.Sim

set_option maxRecDepth 100000
set_option linter.unusedVariables false
namespace Go.Sim
open Go Go.RowKit
namespace Zpk
noncomputable abbrev fn : Func := Go.Proofs.Tryz.f153
def kp : Zcb := []
noncomputable def C (p : List Nat) : Code := (cod fn).sub p
def KR (Q : QT) : KT := Zez pg fn.results.toList Q
theorem call (a0x0 : Pt) (n0x0 c0x0 : Nat) (e0x0 : Bool) (a0x1 : Pt) (n0x1 c0x1 : Nat) (e0x1 : Bool) (x1 : List Nat) (h : Zaa) (Q : QT) (ht :
 Zdg (h ++ [.cells Zak [.slice a0x0 n0x0 c0x0 e0x0, .slice a0x1 n0x1 c0x1 e0x1] false]) fun H0 => Zcx (Zbp H0 (.ptr (some (h.length, 0))) 2) fun K1 => Zam K1 fun C2 Z3 => xSl (some C2) fun A4 N5 C6 E7 => Zam Z3 fun C8 Z9 => xSl (some C8) fun A10 N11 C12 E13 => Zci Z9 (Zad pg Zht [.agg [.slice A4 N5 C6 E7, .slice A10 N11 C12 E13]] H0 fun V14 H15 =>
 Zbz (some V14) fun B16 => bcase B16 (xSl (Zag H15 (.ptr (some (h.length, 0 + 0)))) fun A17 N18 C19 E20 => Zad pg Zhh [.slice A17 N18 C19 E20, .str x1] H15 fun V21 H22 =>
 Zbz (some V21) fun B23 => Q (.bool B23) H22) (Q (.bool false) H15))) : Zad pg Zlv [.agg [.slice a0x0 n0x0 c0x0 e0x0, .slice a0x1 n0x1 c0x1 e0x1], .str x1] h Q :=
  Zad.of_body kp (c := cod fn) (fn := fn) Go.Proofs.Tryz.func153 (by kernel_rfl) (by kernel_rfl) (Nat.le_of_ble_eq_true (by kernel_rfl))
    (cast (by kernel_rfl) ht)
end Zpk
namespace Zpg
noncomputable abbrev fn : Func := Go.Proofs.Tryz.f150
def kp : Zcb := []
noncomputable def C (p : List Nat) : Code := (cod fn).sub p
def KR (Q : QT) : KT := Zez pg fn.results.toList Q
theorem call (a0x0 : Pt) (n0x0 c0x0 : Nat) (e0x0 : Bool) (a0x1 : Pt) (n0x1 c0x1 : Nat) (e0x1 : Bool) (x1 : List Nat) (h : Zaa) (Q : QT) (ht :
 Zdg (h ++ [.cells Zak [.slice a0x0 n0x0 c0x0 e0x0, .slice a0x1 n0x1 c0x1 e0x1] false]) fun H0 => Zcx (Zbp H0 (.ptr (some (h.length, 0))) 2) fun K1 => Zam K1 fun C2 Z3 => xSl (some C2) fun A4 N5 C6 E7 => Zam Z3 fun C8 Z9 => xSl (some C8) fun A10 N11 C12 E13 => Zci Z9 (Zad pg Zgk [.agg [.slice A4 N5 C6 E7, .slice A10 N11 C12 E13]] H0 fun V14 H15 =>
 Zbz (some V14) fun B16 => bcase B16 (Zcx (Zbp H15 (.ptr (some (h.length, 0))) 2) fun K17 => Zam K17 fun C18 Z19 => xSl (some C18) fun A20 N21 C22 E23 => Zam Z19 fun C24 Z25 => xSl (some C24) fun A26 N27 C28 E29 => Zci Z25 (Zad pg Zeo [.agg [.slice A20 N21 C22 E23, .slice A26 N27 C28 E29], .str x1] H15 fun V30 H31 =>
 Zds .i64 (some V30) fun X32 => Q (.bool (decide ((X32 : Int) ≥ 0))) H31)) (Q (.bool false) H15))) : Zad pg Zlx [.agg [.slice a0x0 n0x0 c0x0 e0x0, .slice a0x1 n0x1 c0x1 e0x1], .str x1] h Q :=
  Zad.of_body kp (c := cod fn) (fn := fn) Go.Proofs.Tryz.func150 (by kernel_rfl) (by kernel_rfl) (Nat.le_of_ble_eq_true (by kernel_rfl))
    (cast (by kernel_rfl) ht)
end Zpg
namespace Zde
noncomputable abbrev fn : Func := Go.Proofs.Tryz.f128
def kp : Zcb := [(3000005, [2, 5]), (1000005, [1, 2, 5, 6]), (4000006, [6, 2, 1, 5]), (3000012, [8]), (1000012, [5, 8, 43, 44, 45]), (4000016, [45, 44, 43, 5, 8])]
noncomputable def C (p : List Nat) : Code := (cod fn).sub p
def KR (Q : QT) : KT := Zez pg fn.results.toList Q
abbrev T5 := List Nat → Nat → Nat → List Nat → Int → Zaa → Prop
def E5 (R5 : T5) (env : Env) (h : Zaa) : Prop := Zbt 1 env fun v env => Zbk (some v) fun x1 => Zbt 2 env fun v env => Zkx (some v) fun a => Zbl a fun i2 o2 => Zbt 5 env fun v env => Zbk (some v) fun x5 => Zbt 6 env fun v env => Zei .i64 v fun x6 => Zjr env (R5 x1 i2 o2 x5 x6 h)
theorem Zhm {R5 : T5} {env : Env} {h : Zaa} (hi : E5 R5 env h) : ∃ x1, ∃ i2, ∃ o2, ∃ x5, ∃ x6, env = [(1, .str x1), (2, .ptr (some (i2, o2))), (5, .str x5), (6, .int .i64 x6)] ∧ R5 x1 i2 o2 x5 x6 h := by
  unfold E5 at hi
  have hi0 := hi
  clear hi
  obtain ⟨_, _, rfl, hi1⟩ := Zab hi0
  obtain ⟨x1, rfl, hi2⟩ := Zch hi1
  obtain ⟨_, _, rfl, hi3⟩ := Zab hi2
  obtain ⟨a, rfl, hi4⟩ := Zce hi3
  obtain ⟨i2, o2, rfl, hi5⟩ := Zby hi4
  obtain ⟨_, _, rfl, hi6⟩ := Zab hi5
  obtain ⟨x5, rfl, hi7⟩ := Zch hi6
  obtain ⟨_, _, rfl, hi8⟩ := Zab hi7
  obtain ⟨x6, rfl, hi9⟩ := Zat hi8
  obtain ⟨rfl, hi10⟩ := Zbi hi9
  have hi := hi10
  exact ⟨x1, i2, o2, x5, x6, rfl, hi⟩
abbrev T12 := List Nat → List Nat → Pt → Nat → Nat → Bool → Int → Int → Zaa → Prop
def E12 (R12 : T12) (env : Env) (h : Zaa) : Prop := Zbt 5 env fun v env => Zbk (some v) fun x5 => Zbt 8 env fun v env => Zbk (some v) fun x8 => Zbt 43 env fun v env => xSl (some v) fun a43 n43 c43 e43 => Zbt 44 env fun v env => Zei .i64 v fun x44 => Zbt 45 env fun v env => Zei .i64 v fun x45 => Zjr env (R12 x5 x8 a43 n43 c43 e43 x44 x45 h)
theorem Yho {R12 : T12} {env : Env} {h : Zaa} (hi : E12 R12 env h) : ∃ x5, ∃ x8, ∃ a43, ∃ n43, ∃ c43, ∃ e43, ∃ x44, ∃ x45, env = [(5, .str x5), (8, .str x8), (43, .slice a43 n43 c43 e43), (44, .int .i64 x44), (45, .int .i64 x45)] ∧ R12 x5 x8 a43 n43 c43 e43 x44 x45 h := by
  unfold E12 at hi
  have hi0 := hi
  clear hi
  obtain ⟨_, _, rfl, hi1⟩ := Zab hi0
  obtain ⟨x5, rfl, hi2⟩ := Zch hi1
  obtain ⟨_, _, rfl, hi3⟩ := Zab hi2
  obtain ⟨x8, rfl, hi4⟩ := Zch hi3
  obtain ⟨_, _, rfl, hi5⟩ := Zab hi4
  obtain ⟨a43, n43, c43, e43, rfl, hi6⟩ := Zbh hi5
  obtain ⟨_, _, rfl, hi7⟩ := Zab hi6
  obtain ⟨x44, rfl, hi8⟩ := Zat hi7
  obtain ⟨_, _, rfl, hi9⟩ := Zab hi8
  obtain ⟨x45, rfl, hi10⟩ := Zat hi9
  obtain ⟨rfl, hi11⟩ := Zbi hi10
  have hi := hi11
  exact ⟨x5, x8, a43, n43, c43, e43, x44, x45, rfl, hi⟩
def K0 (Q : QT) : KT := andThen (fun env' h' => (match kp.find 4000010 with | some ks => Den pg fn.ntmps (C [1, 1, 1, 1]) (env'.keep ks) h' (KR Q) | none => den pg fn.ntmps kp (C [1, 1, 1, 1]) env' h' (KR Q))) (KR Q)
def K1 (Q : QT) : KT := Zcg 0 (K0 Q)
def K2 (Q : QT) : KT := Zgz kp 5 (K1 Q)
def K3 (Q : QT) (R5 : T5) : KT := rnd ((kp.find 1000005).getD []) (E5 R5) (K2 Q)
def K4 (Q : QT) : KT := andThen (fun env' h' => (match kp.find 4000017 with | some ks => Den pg fn.ntmps (C [1, 1, 1, 1, 1, 1]) (env'.keep ks) h' (KR Q) | none => den pg fn.ntmps kp (C [1, 1, 1, 1, 1, 1]) env' h' (KR Q))) (KR Q)
def K5 (Q : QT) : KT := Zcg 2 (K4 Q)
def K6 (Q : QT) : KT := Zgz kp 12 (K5 Q)
def K7 (Q : QT) (R12 : T12) : KT := rnd ((kp.find 1000012).getD []) (E12 R12) (K6 Q)
def L5 (Q : QT) (x1 : List Nat) (i2 o2 : Nat) (x5 : List Nat) (x6 : Int) (h : Zaa) : Prop := Zed (Den pg fn.ntmps (C [1, 1, 1, 0, 1, 0, 0])) ((kp.find 1000005).getD []) (K2 Q) [(1, .str x1), (2, .ptr (some (i2, o2))), (5, .str x5), (6, .int .i64 x6)] h
def J6 (Q : QT) (R5 : T5) (x6 : Int) (i2 o2 : Nat) (x1 x5 : List Nat) (h : Zaa) : Prop := Den pg fn.ntmps (C [1, 1, 1, 0, 1, 0, 0, 1, 1]) [(6, .int .i64 x6), (2, .ptr (some (i2, o2))), (1, .str x1), (5, .str x5)] h (K3 Q R5)
def A5x0 (Q : QT) (i2 o2 : Nat) (x5 : List Nat) (h : Zaa) : Prop := At (K1 Q) (.exit 0) [(2, .ptr (some (i2, o2))), (5, .str x5)] h
def L12 (Q : QT) (x5 x8 : List Nat) (a43 : Pt) (n43 c43 : Nat) (e43 : Bool) (x44 x45 : Int) (h : Zaa) : Prop := Zed (Den pg fn.ntmps (C [1, 1, 1, 1, 1, 0, 1, 0, 0])) ((kp.find 1000012).getD []) (K6 Q) [(5, .str x5), (8, .str x8), (43, .slice a43 n43 c43 e43), (44, .int .i64 x44), (45, .int .i64 x45)] h
def J16 (Q : QT) (R12 : T12) (x45 x44 : Int) (a43 : Pt) (n43 c43 : Nat) (e43 : Bool) (x5 x8 : List Nat) (h : Zaa) : Prop := Den pg fn.ntmps (C [1, 1, 1, 1, 1, 0, 1, 0, 0, 1, 1, 1]) [(45, .int .i64 x45), (44, .int .i64 x44), (43, .slice a43 n43 c43 e43), (5, .str x5), (8, .str x8)] h (K7 Q R12)
def Yov (Q : QT) (x8 : List Nat) (h : Zaa) : Prop := At (K5 Q) (.exit 2) [(8, .str x8)] h
def L5t (Q : QT) (R5 : T5) (x1 : List Nat) (i2 o2 : Nat) (x5 : List Nat) (x6 : Int) (h : Zaa) : Prop :=
 bcase (decide ((x6 : Int) ≥ 0)) (xSl (Zag h (.ptr (some (i2, o2 + 0)))) fun A21 N22 C23 E24 => (0 ≤ (x6 : Int) ∧ (x6 : Int) < (N22 : Nat)) ∧ (Zbl A21 fun I25 O26 => Zcx (Zbp h (.ptr (some (I25, O26 + (Int.toNat x6) * 2))) 2) fun K27 => Zam K27 fun C28 Z29 => Zbk (some C28) fun S30 => Zam Z29 fun C31 Z32 => Zbk (some C31) fun S33 => Zci Z32 (Zdg (h ++ [.cells Zbo [.str [], .str []] false]) fun H34 => Zcu (Zbn H34 (.ptr (some (h.length, 0))) [.str S30, .str S33]) fun H35 => Zbk (Zag H35 (.ptr (some (h.length, 0 + 0)))) fun S36 => bcase (decide (S36 = x1)) (Zbk (Zag H35 (.ptr (some (h.length, 0 + 1)))) fun S37 => List.length x5 + List.length S37 ≤ 9223372036854775807 ∧ (J6 Q R5 x6 i2 o2 x1 (x5 ++ S37) H35)) (Zbk (Zag H35 (.ptr (some (h.length, 0 + 0)))) fun S38 => Zad pg Zeg [.str x5, .str S38] H35 fun V39 H40 =>
 Zbz (some V39) fun B41 => bcase B41 (Zbk (Zag H40 (.ptr (some (h.length, 0 + 1)))) fun S42 => List.length x5 + List.length S42 ≤ 9223372036854775807 ∧ (J6 Q R5 x6 i2 o2 x1 (x5 ++ S42) H40)) (J6 Q R5 x6 i2 o2 x1 x5 H40))))) (A5x0 Q i2 o2 x5 h)
theorem Zqx (Q : QT) (R5 : T5) (x1 : List Nat) (i2 o2 : Nat) (x5 : List Nat) (x6 : Int) (h : Zaa) (ht : L5t Q R5 x1 i2 o2 x5 x6 h) : Den pg fn.ntmps (C [1, 1, 1, 0, 1, 0, 0]) [(1, .str x1), (2, .ptr (some (i2, o2))), (5, .str x5), (6, .int .i64 x6)] h (K3 Q R5) :=
  Zay (kp := kp) (cast (by kernel_rfl) ht)
theorem L5ind (Q : QT) (x1 : List Nat) (i2 o2 : Nat) {G : Type} (J : G → List Nat → Int → Zaa → Prop) (m : G → Nat)
 (hr : ∀ (g : G) (x5 : List Nat) (x6 : Int) (h : Zaa), J g x5 x6 h → ∀ (R5 : T5), (∀ g' (x5 : List Nat) (x6 : Int) (h : Zaa), m g' < m g → J g' x5 x6 h → R5 x1 i2 o2 x5 x6 h) → L5t Q R5 x1 i2 o2 x5 x6 h)
 (g : G) (x5 : List Nat) (x6 : Int) (h : Zaa) (hj : J g x5 x6 h) : L5 Q x1 i2 o2 x5 x6 h := by
  refine Zed.inv2 (fun g => E5 fun x1' i2' o2' x5 x6 h => x1 = x1' ∧ i2 = i2' ∧ o2 = o2' ∧ J g x5 x6 h) (fun g => E5 fun x1' i2' o2' x5 x6 h => x1 = x1' ∧ i2 = i2' ∧ o2 = o2' ∧ ∃ g', m g' < m g ∧ J g' x5 x6 h) m ?_ ?_ g ⟨rfl, rfl, rfl, hj⟩
  · intro g env h hi
    obtain ⟨x1', i2', o2', x5, x6, rfl, rfl, rfl, rfl, hj⟩ := Zhm hi
    exact Zqx Q _ x1 i2 o2 x5 x6 h (hr g x5 x6 h hj (fun x1' i2' o2' x5 x6 h => x1 = x1' ∧ i2 = i2' ∧ o2 = o2' ∧ ∃ g', m g' < m g ∧ J g' x5 x6 h) fun g' x5 x6 h hlt hj => ⟨rfl, rfl, rfl, g', hlt, hj⟩)
  · intro g env h hi
    obtain ⟨x1', i2', o2', x5, x6, rfl, rfl, rfl, rfl, g', hlt, hj⟩ := Zhm hi
    exact ⟨g', hlt, rfl, rfl, rfl, hj⟩
theorem J6i (Q : QT) (R5 : T5) (x6 : Int) (i2 o2 : Nat) (x1 x5 : List Nat) (h : Zaa) (ht :
 R5 x1 i2 o2 x5 (IntKind.wrap .i64 (x6 - 1)) h) : J6 Q R5 x6 i2 o2 x1 x5 h :=
  Zay (kp := kp) (cast (by kernel_rfl) ht)
theorem A5x0i (Q : QT) (i2 o2 : Nat) (x5 : List Nat) (h : Zaa) (ht :
 xSl (Zag h (.ptr (some (i2, o2 + 0)))) fun A43 N44 C45 E46 => L12 Q x5 [] A43 N44 C45 E46 (((N44 : Nat) : Int)) 0 h) : A5x0 Q i2 o2 x5 h :=
  At.mk (cast (by kernel_rfl) ht)
def L12t (Q : QT) (R12 : T12) (x5 x8 : List Nat) (a43 : Pt) (n43 c43 : Nat) (e43 : Bool) (x44 x45 : Int) (h : Zaa) : Prop :=
 bcase (decide ((x45 : Int) < x44)) ((0 ≤ (x45 : Int) ∧ (x45 : Int) < (n43 : Nat)) ∧ (Zbl a43 fun I47 O48 => Zcx (Zbp h (.ptr (some (I47, O48 + (Int.toNat x45) * 2))) 2) fun K49 => Zam K49 fun C50 Z51 => Zbk (some C50) fun S52 => Zam Z51 fun C53 Z54 => Zbk (some C53) fun S55 => Zci Z54 (Zdg (h ++ [.cells Zbo [.str [], .str []] false]) fun H56 => Zcu (Zbn H56 (.ptr (some (h.length, 0))) [.str S52, .str S55]) fun H57 => Zbk (Zag H57 (.ptr (some (h.length, 0 + 0)))) fun S58 => Zad pg Zeg [.str x5, .str S58] H57 fun V59 H60 =>
 Zbz (some V59) fun B61 => bcase B61 (Zbk (Zag H60 (.ptr (some (h.length, 0 + 0)))) fun S62 => List.length x8 + List.length S62 ≤ 9223372036854775807 ∧ (J16 Q R12 x45 x44 a43 n43 c43 e43 x5 (x8 ++ S62) H60)) (J16 Q R12 x45 x44 a43 n43 c43 e43 x5 x8 H60)))) (Yov Q x8 h)
theorem Yom (Q : QT) (R12 : T12) (x5 x8 : List Nat) (a43 : Pt) (n43 c43 : Nat) (e43 : Bool) (x44 x45 : Int) (h : Zaa) (ht : L12t Q R12 x5 x8 a43 n43 c43 e43 x44 x45 h) : Den pg fn.ntmps (C [1, 1, 1, 1, 1, 0, 1, 0, 0]) [(5, .str x5), (8, .str x8), (43, .slice a43 n43 c43 e43), (44, .int .i64 x44), (45, .int .i64 x45)] h (K7 Q R12) :=
  Zay (kp := kp) (cast (by kernel_rfl) ht)
theorem L12ind (Q : QT) (x5 : List Nat) (a43 : Pt) (n43 c43 : Nat) (e43 : Bool) (x44 : Int) {G : Type} (J : G → List Nat → Int → Zaa → Prop) (m : G → Nat)
 (hr : ∀ (g : G) (x8 : List Nat) (x45 : Int) (h : Zaa), J g x8 x45 h → ∀ (R12 : T12), (∀ g' (x8 : List Nat) (x45 : Int) (h : Zaa), m g' < m g → J g' x8 x45 h → R12 x5 x8 a43 n43 c43 e43 x44 x45 h) → L12t Q R12 x5 x8 a43 n43 c43 e43 x44 x45 h)
 (g : G) (x8 : List Nat) (x45 : Int) (h : Zaa) (hj : J g x8 x45 h) : L12 Q x5 x8 a43 n43 c43 e43 x44 x45 h := by
  refine Zed.inv2 (fun g => E12 fun x5' x8 a43' n43' c43' e43' x44' x45 h => x5 = x5' ∧ a43 = a43' ∧ n43 = n43' ∧ c43 = c43' ∧ e43 = e43' ∧ x44 = x44' ∧ J g x8 x45 h) (fun g => E12 fun x5' x8 a43' n43' c43' e43' x44' x45 h => x5 = x5' ∧ a43 = a43' ∧ n43 = n43' ∧ c43 = c43' ∧ e43 = e43' ∧ x44 = x44' ∧ ∃ g', m g' < m g ∧ J g' x8 x45 h) m ?_ ?_ g ⟨rfl, rfl, rfl, rfl, rfl, rfl, hj⟩
  · intro g env h hi
    obtain ⟨x5', x8, a43', n43', c43', e43', x44', x45, rfl, rfl, rfl, rfl, rfl, rfl, rfl, hj⟩ := Yho hi
    exact Yom Q _ x5 x8 a43 n43 c43 e43 x44 x45 h (hr g x8 x45 h hj (fun x5' x8 a43' n43' c43' e43' x44' x45 h => x5 = x5' ∧ a43 = a43' ∧ n43 = n43' ∧ c43 = c43' ∧ e43 = e43' ∧ x44 = x44' ∧ ∃ g', m g' < m g ∧ J g' x8 x45 h) fun g' x8 x45 h hlt hj => ⟨rfl, rfl, rfl, rfl, rfl, rfl, g', hlt, hj⟩)
  · intro g env h hi
    obtain ⟨x5', x8, a43', n43', c43', e43', x44', x45, rfl, rfl, rfl, rfl, rfl, rfl, rfl, g', hlt, hj⟩ := Yho hi
    exact ⟨g', hlt, rfl, rfl, rfl, rfl, rfl, rfl, hj⟩
theorem J16i (Q : QT) (R12 : T12) (x45 x44 : Int) (a43 : Pt) (n43 c43 : Nat) (e43 : Bool) (x5 x8 : List Nat) (h : Zaa) (ht :
 R12 x5 x8 a43 n43 c43 e43 x44 (IntKind.wrap .i64 (x45 + 1)) h) : J16 Q R12 x45 x44 a43 n43 c43 e43 x5 x8 h :=
  Zay (kp := kp) (cast (by kernel_rfl) ht)
theorem A12x2i (Q : QT) (x8 : List Nat) (h : Zaa) (ht :
 Q (.str x8) h) : Yov Q x8 h :=
  At.mk (cast (by kernel_rfl) ht)
theorem call (a0x0 : Pt) (n0x0 c0x0 : Nat) (e0x0 : Bool) (a0x1 : Pt) (n0x1 c0x1 : Nat) (e0x1 : Bool) (x1 : List Nat) (h : Zaa) (Q : QT) (ht :
 Zdg (h ++ [.cells Zak [.slice a0x0 n0x0 c0x0 e0x0, .slice a0x1 n0x1 c0x1 e0x1] false]) fun H0 => Zcx (Zbp H0 (.ptr (some (h.length, 0))) 2) fun K1 => Zam K1 fun C2 Z3 => xSl (some C2) fun A4 N5 C6 E7 => Zam Z3 fun C8 Z9 => xSl (some C8) fun A10 N11 C12 E13 => Zci Z9 (Zad pg Zlv [.agg [.slice A4 N5 C6 E7, .slice A10 N11 C12 E13], .str x1] H0 fun V14 H15 =>
 Zbz (some V14) fun B16 => bcase (!B16) (Q (.str []) H15) (xSl (Zag H15 (.ptr (some (h.length, 0 + 0)))) fun A17 N18 C19 E20 => L5 Q x1 h.length 0 [] (IntKind.wrap .i64 ((((N18 : Nat) : Int)) - 1)) H15))) : Zad pg Zls [.agg [.slice a0x0 n0x0 c0x0 e0x0, .slice a0x1 n0x1 c0x1 e0x1], .str x1] h Q :=
  Zad.of_body kp (c := cod fn) (fn := fn) Go.Proofs.Tryz.func128 (by kernel_rfl) (by kernel_rfl) (Nat.le_of_ble_eq_true (by kernel_rfl))
    (cast (by kernel_rfl) ht)
end Zde
end Go.Sim

set_option maxRecDepth 100000
set_option linter.unusedVariables false
namespace Go.Sim
open Go Go.RowKit
namespace Zfu
noncomputable abbrev fn : Func := Go.Proofs.Tryz.f38
def kp : Zcb := [(3000003, [3]), (1000003, [0, 3, 4])]
noncomputable def C (p : List Nat) : Code := (cod fn).sub p
def KR (Q : QT) : KT := Zez pg fn.results.toList Q
abbrev T3 := Pt → Nat → Nat → Bool → Pt → Nat → Nat → Bool → Int → Zaa → Prop
def E3 (R3 : T3) (env : Env) (h : Zaa) : Prop := Zbt 0 env fun v env => xSl (some v) fun a0 n0 c0 e0 => Zbt 3 env fun v env => xSl (some v) fun a3 n3 c3 e3 => Zbt 4 env fun v env => Zei .i64 v fun x4 => Zjr env (R3 a0 n0 c0 e0 a3 n3 c3 e3 x4 h)
theorem Zes {R3 : T3} {env : Env} {h : Zaa} (hi : E3 R3 env h) : ∃ a0, ∃ n0, ∃ c0, ∃ e0, ∃ a3, ∃ n3, ∃ c3, ∃ e3, ∃ x4, env = [(0, .slice a0 n0 c0 e0), (3, .slice a3 n3 c3 e3), (4, .int .i64 x4)] ∧ R3 a0 n0 c0 e0 a3 n3 c3 e3 x4 h := by
  unfold E3 at hi
  have hi0 := hi
  clear hi
  obtain ⟨_, _, rfl, hi1⟩ := Zab hi0
  obtain ⟨a0, n0, c0, e0, rfl, hi2⟩ := Zbh hi1
  obtain ⟨_, _, rfl, hi3⟩ := Zab hi2
  obtain ⟨a3, n3, c3, e3, rfl, hi4⟩ := Zbh hi3
  obtain ⟨_, _, rfl, hi5⟩ := Zab hi4
  obtain ⟨x4, rfl, hi6⟩ := Zat hi5
  obtain ⟨rfl, hi7⟩ := Zbi hi6
  have hi := hi7
  exact ⟨a0, n0, c0, e0, a3, n3, c3, e3, x4, rfl, hi⟩
def K0 (Q : QT) : KT := andThen (fun env' h' => (match kp.find 4000006 with | some ks => Den pg fn.ntmps (C [1, 1, 1]) (env'.keep ks) h' (KR Q) | none => den pg fn.ntmps kp (C [1, 1, 1]) env' h' (KR Q))) (KR Q)
def K1 (Q : QT) : KT := Zcg 0 (K0 Q)
def K2 (Q : QT) : KT := Zgz kp 3 (K1 Q)
def K3 (Q : QT) (R3 : T3) : KT := rnd ((kp.find 1000003).getD []) (E3 R3) (K2 Q)
def L3 (Q : QT) (a0 : Pt) (n0 c0 : Nat) (e0 : Bool) (a3 : Pt) (n3 c3 : Nat) (e3 : Bool) (x4 : Int) (h : Zaa) : Prop := Zed (Den pg fn.ntmps (C [1, 1, 0, 1, 0, 0])) ((kp.find 1000003).getD []) (K2 Q) [(0, .slice a0 n0 c0 e0), (3, .slice a3 n3 c3 e3), (4, .int .i64 x4)] h
def Zpo (Q : QT) (a3 : Pt) (n3 c3 : Nat) (e3 : Bool) (h : Zaa) : Prop := At (K1 Q) (.exit 0) [(3, .slice a3 n3 c3 e3)] h
def L3t (Q : QT) (R3 : T3) (a0 : Pt) (n0 c0 : Nat) (e0 : Bool) (a3 : Pt) (n3 c3 : Nat) (e3 : Bool) (x4 : Int) (h : Zaa) : Prop :=
 bcase (decide ((x4 : Int) < (((n0 : Nat) : Int)))) ((0 ≤ (x4 : Int) ∧ (x4 : Int) < (n0 : Nat)) ∧ (Zbl a0 fun I1 O2 => Zcx (Zbp h (.ptr (some (I1, O2 + (Int.toNat x4) * 3))) 3) fun K3 => Zam K3 fun C4 Z5 => Zbk (some C4) fun S6 => Zam Z5 fun C7 Z8 => Zbk (some C7) fun S9 => Zam Z8 fun C10 Z11 => xSl (some C10) fun A12 N13 C14 E15 => Zci Z11 (Zad pg Zkk [.agg [.str S6, .str S9, .slice A12 N13 C14 E15]] h fun V16 H17 =>
 Ztu V16 fun K18 => Zam K18 fun C19 Z20 => Zbk (some C19) fun S21 => Zam Z20 fun C22 Z23 => Zbk (some C22) fun S24 => Zam Z23 fun C25 Z26 => xSl (some C25) fun A27 N28 C29 E30 => Zci Z26 ((0 ≤ (x4 : Int) ∧ (x4 : Int) < (n3 : Nat)) ∧ (Zbl a3 fun I31 O32 => Zcu (Zbn H17 (.ptr (some (I31, O32 + (Int.toNat x4) * 3))) [.str S21, .str S24, .slice A27 N28 C29 E30]) fun H33 => R3 a0 n0 c0 e0 a3 n3 c3 e3 (IntKind.wrap .i64 (x4 + 1)) H33))))) (Zpo Q a3 n3 c3 e3 h)
theorem Zme (Q : QT) (R3 : T3) (a0 : Pt) (n0 c0 : Nat) (e0 : Bool) (a3 : Pt) (n3 c3 : Nat) (e3 : Bool) (x4 : Int) (h : Zaa) (ht : L3t Q R3 a0 n0 c0 e0 a3 n3 c3 e3 x4 h) : Den pg fn.ntmps (C [1, 1, 0, 1, 0, 0]) [(0, .slice a0 n0 c0 e0), (3, .slice a3 n3 c3 e3), (4, .int .i64 x4)] h (K3 Q R3) :=
  Zay (kp := kp) (cast (by kernel_rfl) ht)
theorem L3ind (Q : QT) (a0 : Pt) (n0 c0 : Nat) (e0 : Bool) (a3 : Pt) (n3 c3 : Nat) (e3 : Bool) {G : Type} (J : G → Int → Zaa → Prop) (m : G → Nat)
 (hr : ∀ (g : G) (x4 : Int) (h : Zaa), J g x4 h → ∀ (R3 : T3), (∀ g' (x4 : Int) (h : Zaa), m g' < m g → J g' x4 h → R3 a0 n0 c0 e0 a3 n3 c3 e3 x4 h) → L3t Q R3 a0 n0 c0 e0 a3 n3 c3 e3 x4 h)
 (g : G) (x4 : Int) (h : Zaa) (hj : J g x4 h) : L3 Q a0 n0 c0 e0 a3 n3 c3 e3 x4 h := by
  refine Zed.inv2 (fun g => E3 fun a0' n0' c0' e0' a3' n3' c3' e3' x4 h => a0 = a0' ∧ n0 = n0' ∧ c0 = c0' ∧ e0 = e0' ∧ a3 = a3' ∧ n3 = n3' ∧ c3 = c3' ∧ e3 = e3' ∧ J g x4 h) (fun g => E3 fun a0' n0' c0' e0' a3' n3' c3' e3' x4 h => a0 = a0' ∧ n0 = n0' ∧ c0 = c0' ∧ e0 = e0' ∧ a3 = a3' ∧ n3 = n3' ∧ c3 = c3' ∧ e3 = e3' ∧ ∃ g', m g' < m g ∧ J g' x4 h) m ?_ ?_ g ⟨rfl, rfl, rfl, rfl, rfl, rfl, rfl, rfl, hj⟩
  · intro g env h hi
    obtain ⟨a0', n0', c0', e0', a3', n3', c3', e3', x4, rfl, rfl, rfl, rfl, rfl, rfl, rfl, rfl, rfl, hj⟩ := Zes hi
    exact Zme Q _ a0 n0 c0 e0 a3 n3 c3 e3 x4 h (hr g x4 h hj (fun a0' n0' c0' e0' a3' n3' c3' e3' x4 h => a0 = a0' ∧ n0 = n0' ∧ c0 = c0' ∧ e0 = e0' ∧ a3 = a3' ∧ n3 = n3' ∧ c3 = c3' ∧ e3 = e3' ∧ ∃ g', m g' < m g ∧ J g' x4 h) fun g' x4 h hlt hj => ⟨rfl, rfl, rfl, rfl, rfl, rfl, rfl, rfl, g', hlt, hj⟩)
  · intro g env h hi
    obtain ⟨a0', n0', c0', e0', a3', n3', c3', e3', x4, rfl, rfl, rfl, rfl, rfl, rfl, rfl, rfl, rfl, g', hlt, hj⟩ := Zes hi
    exact ⟨g', hlt, rfl, rfl, rfl, rfl, rfl, rfl, rfl, rfl, hj⟩
theorem A3x0i (Q : QT) (a3 : Pt) (n3 c3 : Nat) (e3 : Bool) (h : Zaa) (ht :
 Q (.slice a3 n3 c3 e3) h) : Zpo Q a3 n3 c3 e3 h :=
  At.mk (cast (by kernel_rfl) ht)
theorem call (a0 : Pt) (n0 c0 : Nat) (e0 : Bool) (h : Zaa) (Q : QT) (ht :
 IntKind.i64 = IntKind.i64 ∧ (IntKind.i64 = IntKind.i64 ∧ ((0 ≤ ((((n0 : Nat) : Int)) : Int) ∧ ((((n0 : Nat) : Int)) : Int) ≤ (((n0 : Nat) : Int)) ∧ ((((n0 : Nat) : Int)) : Int) * (((56 : Nat) : Int) + 1) ≤ 140737488355328) ∧ (Zdg (h ++ [.cells Zas (reps (Int.toNat ((((n0 : Nat) : Int)))) [.str [], .str [], .slice none 0 0 true]) false]) fun H0 => L3 Q a0 n0 c0 e0 (some (h.length, 0)) (Int.toNat ((((n0 : Nat) : Int)))) (Int.toNat ((((n0 : Nat) : Int)))) true 0 H0)))) : Zad pg Zjg [.slice a0 n0 c0 e0] h Q :=
  Zad.of_body kp (c := cod fn) (fn := fn) Go.Proofs.Tryz.func38 (by kernel_rfl) (by kernel_rfl) (Nat.le_of_ble_eq_true (by kernel_rfl))
    (cast (by kernel_rfl) ht)
end Zfu
namespace Zql
noncomputable abbrev fn : Func := Go.Proofs.Tryz.f10
def kp : Zcb := []
noncomputable def C (p : List Nat) : Code := (cod fn).sub p
def KR (Q : QT) : KT := Zez pg fn.results.toList Q
theorem call (a0x0 : Pt) (n0x0 c0x0 : Nat) (e0x0 : Bool) (a0x1 : Pt) (n0x1 c0x1 : Nat) (e0x1 : Bool) (h : Zaa) (Q : QT) (ht :
 Zdg (h ++ [.cells Zer [.slice a0x0 n0x0 c0x0 e0x0, .slice a0x1 n0x1 c0x1 e0x1] false]) fun H0 => Zdg (H0 ++ [.cells Zak [.slice none 0 0 true, .slice none 0 0 true] false]) fun H1 => Zdg (H1 ++ [.cells Zak [.slice none 0 0 true, .slice none 0 0 true] false]) fun H2 => xSl (Zag H2 (.ptr (some (h.length, 0 + 0)))) fun A3 N4 C5 E6 => Zad pg Zlr [.slice A3 N4 C5 E6] H2 fun V7 H8 =>
 xSl (some V7) fun A9 N10 C11 E12 => Zcu (Zbn H8 (.ptr (some (H1.length, 0 + 0))) [.slice A9 N10 C11 E12]) fun H13 => xSl (Zag H13 (.ptr (some (h.length, 0 + 1)))) fun A14 N15 C16 E17 => Zad pg Zjg [.slice A14 N15 C16 E17] H13 fun V18 H19 =>
 xSl (some V18) fun A20 N21 C22 E23 => Zcu (Zbn H19 (.ptr (some (H1.length, 0 + 1))) [.slice A20 N21 C22 E23]) fun H24 => Zcx (Zbp H24 (.ptr (some (H1.length, 0))) 2) fun K25 => Zam K25 fun C26 Z27 => xSl (some C26) fun A28 N29 C30 E31 => Zam Z27 fun C32 Z33 => xSl (some C32) fun A34 N35 C36 E37 => Zci Z33 (Zcu (Zbn H24 (.ptr (some (H0.length, 0))) [.slice A28 N29 C30 E31, .slice A34 N35 C36 E37]) fun H38 => Zcx (Zbp H38 (.ptr (some (H0.length, 0))) 2) fun K39 => Zam K39 fun C40 Z41 => xSl (some C40) fun A42 N43 C44 E45 => Zam Z41 fun C46 Z47 => xSl (some C46) fun A48 N49 C50 E51 => Zci Z47 (Q (.agg [.slice A42 N43 C44 E45, .slice A48 N49 C50 E51]) H38))) : Zad pg Zif [.agg [.slice a0x0 n0x0 c0x0 e0x0, .slice a0x1 n0x1 c0x1 e0x1]] h Q :=
  Zad.of_body kp (c := cod fn) (fn := fn) Go.Proofs.Tryz.func10 (by kernel_rfl) (by kernel_rfl) (Nat.le_of_ble_eq_true (by kernel_rfl))
    (cast (by kernel_rfl) ht)
end Zql
namespace Zna
noncomputable abbrev fn : Func := Go.Proofs.Tryz.f83
def kp : Zcb := []
noncomputable def C (p : List Nat) : Code := (cod fn).sub p
def KR (Q : QT) : KT := Zez pg fn.results.toList Q
theorem call (x0x0 x0x1 : List Nat) (a0x2 : Pt) (n0x2 c0x2 : Nat) (e0x2 : Bool) (x1x0 x1x1 : List Nat) (a1x2 : Pt) (n1x2 c1x2 : Nat) (e1x2 : Bool) (h : Zaa) (Q : QT) (ht :
 Zdg (h ++ [.cells Zas [.str x0x0, .str x0x1, .slice a0x2 n0x2 c0x2 e0x2] false]) fun H0 => Zdg (H0 ++ [.cells Zas [.str x1x0, .str x1x1, .slice a1x2 n1x2 c1x2 e1x2] false]) fun H1 => Zcx (Zbp H1 (.ptr (some (h.length, 0 + 0))) 2) fun K2 => Zam K2 fun C3 Z4 => Zbk (some C3) fun S5 => Zam Z4 fun C6 Z7 => Zbk (some C6) fun S8 => Zci Z7 (Zcx (Zbp H1 (.ptr (some (H0.length, 0 + 0))) 2) fun K9 => Zam K9 fun C10 Z11 => Zbk (some C10) fun S12 => Zam Z11 fun C13 Z14 => Zbk (some C13) fun S15 => Zci Z14 (Zad pg Zlj [.agg [.str S5, .str S8], .agg [.str S12, .str S15]] H1 fun V16 H17 =>
 Zbz (some V16) fun B18 => bcase (!B18) (Q (.bool false) H17) (xSl (Zag H17 (.ptr (some (h.length, 0 + 2)))) fun A19 N20 C21 E22 => xSl (Zag H17 (.ptr (some (H0.length, 0 + 2)))) fun A23 N24 C25 E26 => Zad pg Zko [.slice A19 N20 C21 E22, .slice A23 N24 C25 E26] H17 fun V27 H28 =>
 Zbz (some V27) fun B29 => bcase (!B29) (Q (.bool false) H28) (Q (.bool true) H28))))) : Zad pg Zka [.agg [.str x0x0, .str x0x1, .slice a0x2 n0x2 c0x2 e0x2], .agg [.str x1x0, .str x1x1, .slice a1x2 n1x2 c1x2 e1x2]] h Q :=
  Zad.of_body kp (c := cod fn) (fn := fn) Go.Proofs.Tryz.func83 (by kernel_rfl) (by kernel_rfl) (Nat.le_of_ble_eq_true (by kernel_rfl))
    (cast (by kernel_rfl) ht)
end Zna
namespace Zfw
noncomputable abbrev fn : Func := Go.Proofs.Tryz.f43
def kp : Zcb := [(3000004, [4]), (1000004, [0, 1, 5]), (2000006, [26, 5, 0, 1])]
noncomputable def C (p : List Nat) : Code := (cod fn).sub p
def KR (Q : QT) : KT := Zez pg fn.results.toList Q
abbrev T4 := Pt → Nat → Nat → Bool → Pt → Nat → Nat → Bool → Int → Zaa → Prop
def E4 (R4 : T4) (env : Env) (h : Zaa) : Prop := Zbt 0 env fun v env => xSl (some v) fun a0 n0 c0 e0 => Zbt 1 env fun v env => xSl (some v) fun a1 n1 c1 e1 => Zbt 5 env fun v env => Zei .i64 v fun x5 => Zjr env (R4 a0 n0 c0 e0 a1 n1 c1 e1 x5 h)
theorem Zks {R4 : T4} {env : Env} {h : Zaa} (hi : E4 R4 env h) : ∃ a0, ∃ n0, ∃ c0, ∃ e0, ∃ a1, ∃ n1, ∃ c1, ∃ e1, ∃ x5, env = [(0, .slice a0 n0 c0 e0), (1, .slice a1 n1 c1 e1), (5, .int .i64 x5)] ∧ R4 a0 n0 c0 e0 a1 n1 c1 e1 x5 h := by
  unfold E4 at hi
  have hi0 := hi
  clear hi
  obtain ⟨_, _, rfl, hi1⟩ := Zab hi0
  obtain ⟨a0, n0, c0, e0, rfl, hi2⟩ := Zbh hi1
  obtain ⟨_, _, rfl, hi3⟩ := Zab hi2
  obtain ⟨a1, n1, c1, e1, rfl, hi4⟩ := Zbh hi3
  obtain ⟨_, _, rfl, hi5⟩ := Zab hi4
  obtain ⟨x5, rfl, hi6⟩ := Zat hi5
  obtain ⟨rfl, hi7⟩ := Zbi hi6
  have hi := hi7
  exact ⟨a0, n0, c0, e0, a1, n1, c1, e1, x5, rfl, hi⟩
def K0 (Q : QT) : KT := andThen (fun env' h' => (match kp.find 4000008 with | some ks => Den pg fn.ntmps (C [1, 1, 1]) (env'.keep ks) h' (KR Q) | none => den pg fn.ntmps kp (C [1, 1, 1]) env' h' (KR Q))) (KR Q)
def K1 (Q : QT) : KT := Zcg 0 (K0 Q)
def K2 (Q : QT) : KT := Zgz kp 4 (K1 Q)
def K3 (Q : QT) (R4 : T4) : KT := rnd ((kp.find 1000004).getD []) (E4 R4) (K2 Q)
def L4 (Q : QT) (a0 : Pt) (n0 c0 : Nat) (e0 : Bool) (a1 : Pt) (n1 c1 : Nat) (e1 : Bool) (x5 : Int) (h : Zaa) : Prop := Zed (Den pg fn.ntmps (C [1, 1, 0, 1, 0, 0])) ((kp.find 1000004).getD []) (K2 Q) [(0, .slice a0 n0 c0 e0), (1, .slice a1 n1 c1 e1), (5, .int .i64 x5)] h
def Zzd (Q : QT) (h : Zaa) : Prop := At (K1 Q) (.exit 0) [(4, .undef)] h
def L4t (Q : QT) (R4 : T4) (a0 : Pt) (n0 c0 : Nat) (e0 : Bool) (a1 : Pt) (n1 c1 : Nat) (e1 : Bool) (x5 : Int) (h : Zaa) : Prop :=
 bcase (decide ((x5 : Int) < (((n0 : Nat) : Int)))) ((0 ≤ (x5 : Int) ∧ (x5 : Int) < (n0 : Nat)) ∧ (Zbl a0 fun I0 O1 => (0 ≤ (x5 : Int) ∧ (x5 : Int) < (n1 : Nat)) ∧ (Zbl a1 fun I2 O3 => Zcx (Zbp h (.ptr (some (I0, O1 + (Int.toNat x5) * 3))) 3) fun K4 => Zam K4 fun C5 Z6 => Zbk (some C5) fun S7 => Zam Z6 fun C8 Z9 => Zbk (some C8) fun S10 => Zam Z9 fun C11 Z12 => xSl (some C11) fun A13 N14 C15 E16 => Zci Z12 (Zcx (Zbp h (.ptr (some (I2, O3 + (Int.toNat x5) * 3))) 3) fun K17 => Zam K17 fun C18 Z19 => Zbk (some C18) fun S20 => Zam Z19 fun C21 Z22 => Zbk (some C21) fun S23 => Zam Z22 fun C24 Z25 => xSl (some C24) fun A26 N27 C28 E29 => Zci Z25 ((Zbp h (.ptr (some (I0, O1 + (Int.toNat x5) * 3))) 3 = Zbp h (.ptr (some (I0, O1 + (Int.toNat x5) * 3))) 3) ∧ Zad pg Zka [.agg [.str S7, .str S10, .slice A13 N14 C15 E16], .agg [.str S20, .str S23, .slice A26 N27 C28 E29]] h fun V30 H31 =>
 Zbz (some V30) fun B32 => bcase (!B32) (Q (.bool false) H31) (R4 a0 n0 c0 e0 a1 n1 c1 e1 (IntKind.wrap .i64 (x5 + 1)) H31)))))) (Zzd Q h)
theorem Zul (Q : QT) (R4 : T4) (a0 : Pt) (n0 c0 : Nat) (e0 : Bool) (a1 : Pt) (n1 c1 : Nat) (e1 : Bool) (x5 : Int) (h : Zaa) (ht : L4t Q R4 a0 n0 c0 e0 a1 n1 c1 e1 x5 h) : Den pg fn.ntmps (C [1, 1, 0, 1, 0, 0]) [(0, .slice a0 n0 c0 e0), (1, .slice a1 n1 c1 e1), (5, .int .i64 x5)] h (K3 Q R4) :=
  Zay (kp := kp) (cast (by kernel_rfl) ht)
theorem L4ind (Q : QT) (a0 : Pt) (n0 c0 : Nat) (e0 : Bool) (a1 : Pt) (n1 c1 : Nat) (e1 : Bool) {G : Type} (J : G → Int → Zaa → Prop) (m : G → Nat)
 (hr : ∀ (g : G) (x5 : Int) (h : Zaa), J g x5 h → ∀ (R4 : T4), (∀ g' (x5 : Int) (h : Zaa), m g' < m g → J g' x5 h → R4 a0 n0 c0 e0 a1 n1 c1 e1 x5 h) → L4t Q R4 a0 n0 c0 e0 a1 n1 c1 e1 x5 h)
 (g : G) (x5 : Int) (h : Zaa) (hj : J g x5 h) : L4 Q a0 n0 c0 e0 a1 n1 c1 e1 x5 h := by
  refine Zed.inv2 (fun g => E4 fun a0' n0' c0' e0' a1' n1' c1' e1' x5 h => a0 = a0' ∧ n0 = n0' ∧ c0 = c0' ∧ e0 = e0' ∧ a1 = a1' ∧ n1 = n1' ∧ c1 = c1' ∧ e1 = e1' ∧ J g x5 h) (fun g => E4 fun a0' n0' c0' e0' a1' n1' c1' e1' x5 h => a0 = a0' ∧ n0 = n0' ∧ c0 = c0' ∧ e0 = e0' ∧ a1 = a1' ∧ n1 = n1' ∧ c1 = c1' ∧ e1 = e1' ∧ ∃ g', m g' < m g ∧ J g' x5 h) m ?_ ?_ g ⟨rfl, rfl, rfl, rfl, rfl, rfl, rfl, rfl, hj⟩
  · intro g env h hi
    obtain ⟨a0', n0', c0', e0', a1', n1', c1', e1', x5, rfl, rfl, rfl, rfl, rfl, rfl, rfl, rfl, rfl, hj⟩ := Zks hi
    exact Zul Q _ a0 n0 c0 e0 a1 n1 c1 e1 x5 h (hr g x5 h hj (fun a0' n0' c0' e0' a1' n1' c1' e1' x5 h => a0 = a0' ∧ n0 = n0' ∧ c0 = c0' ∧ e0 = e0' ∧ a1 = a1' ∧ n1 = n1' ∧ c1 = c1' ∧ e1 = e1' ∧ ∃ g', m g' < m g ∧ J g' x5 h) fun g' x5 h hlt hj => ⟨rfl, rfl, rfl, rfl, rfl, rfl, rfl, rfl, g', hlt, hj⟩)
  · intro g env h hi
    obtain ⟨a0', n0', c0', e0', a1', n1', c1', e1', x5, rfl, rfl, rfl, rfl, rfl, rfl, rfl, rfl, rfl, g', hlt, hj⟩ := Zks hi
    exact ⟨g', hlt, rfl, rfl, rfl, rfl, rfl, rfl, rfl, rfl, hj⟩
theorem A4x0i (Q : QT) (h : Zaa) (ht :
 Q (.bool true) h) : Zzd Q h :=
  At.mk (cast (by kernel_rfl) ht)
theorem call (a0 : Pt) (n0 c0 : Nat) (e0 : Bool) (a1 : Pt) (n1 c1 : Nat) (e1 : Bool) (h : Zaa) (Q : QT) (ht :
 bcase (!((((n0 : Nat) : Int) : Int) == (((n1 : Nat) : Int)))) (Q (.bool false) h) (L4 Q a0 n0 c0 e0 a1 n1 c1 e1 0 h)) : Zad pg Zjj [.slice a0 n0 c0 e0, .slice a1 n1 c1 e1] h Q :=
  Zad.of_body kp (c := cod fn) (fn := fn) Go.Proofs.Tryz.func43 (by kernel_rfl) (by kernel_rfl) (Nat.le_of_ble_eq_true (by kernel_rfl))
    (cast (by kernel_rfl) ht)
end Zfw
namespace Zqg
noncomputable abbrev fn : Func := Go.Proofs.Tryz.f13
def kp : Zcb := []
noncomputable def C (p : List Nat) : Code := (cod fn).sub p
def KR (Q : QT) : KT := Zez pg fn.results.toList Q
theorem call (a0x0 : Pt) (n0x0 c0x0 : Nat) (e0x0 : Bool) (a0x1 : Pt) (n0x1 c0x1 : Nat) (e0x1 : Bool) (a1x0 : Pt) (n1x0 c1x0 : Nat) (e1x0 : Bool) (a1x1 : Pt) (n1x1 c1x1 : Nat) (e1x1 : Bool) (h : Zaa) (Q : QT) (ht :
 Zdg (h ++ [.cells Zak [.slice a0x0 n0x0 c0x0 e0x0, .slice a0x1 n0x1 c0x1 e0x1] false]) fun H0 => Zdg (H0 ++ [.cells Zak [.slice a1x0 n1x0 c1x0 e1x0, .slice a1x1 n1x1 c1x1 e1x1] false]) fun H1 => xSl (Zag H1 (.ptr (some (h.length, 0 + 0)))) fun A2 N3 C4 E5 => xSl (Zag H1 (.ptr (some (H0.length, 0 + 0)))) fun A6 N7 C8 E9 => Zad pg Zlm [.slice A2 N3 C4 E5, .slice A6 N7 C8 E9] H1 fun V10 H11 =>
 Zbz (some V10) fun B12 => bcase (!B12) (Q (.bool false) H11) (xSl (Zag H11 (.ptr (some (h.length, 0 + 1)))) fun A13 N14 C15 E16 => xSl (Zag H11 (.ptr (some (H0.length, 0 + 1)))) fun A17 N18 C19 E20 => Zad pg Zjj [.slice A13 N14 C15 E16, .slice A17 N18 C19 E20] H11 fun V21 H22 =>
 Zbz (some V21) fun B23 => bcase (!B23) (Q (.bool false) H22) (Q (.bool true) H22))) : Zad pg Zmx [.agg [.slice a0x0 n0x0 c0x0 e0x0, .slice a0x1 n0x1 c0x1 e0x1], .agg [.slice a1x0 n1x0 c1x0 e1x0, .slice a1x1 n1x1 c1x1 e1x1]] h Q :=
  Zad.of_body kp (c := cod fn) (fn := fn) Go.Proofs.Tryz.func13 (by kernel_rfl) (by kernel_rfl) (Nat.le_of_ble_eq_true (by kernel_rfl))
    (cast (by kernel_rfl) ht)
end Zqg
end Go.Sim

set_option maxRecDepth 100000
set_option linter.unusedVariables false
namespace Go.Sim
open Go Go.RowKit
namespace Zng
noncomputable abbrev fn : Func := Go.Proofs.Tryz.f75
def kp : Zcb := []
noncomputable def C (p : List Nat) : Code := (cod fn).sub p
def KR (Q : QT) : KT := Zez pg fn.results.toList Q
theorem call (x0x0 x0x1 : List Nat) (a0x2 : Pt) (n0x2 c0x2 : Nat) (e0x2 : Bool) (x1 : Int) (h : Zaa) (Q : QT) (ht :
 Zdg (h ++ [.cells Zeq [.str x0x0, .str x0x1, .slice a0x2 n0x2 c0x2 e0x2] false]) fun H0 => Zcx (Zbp H0 (.ptr (some (h.length, 0 + 0))) 2) fun K1 => Zam K1 fun C2 Z3 => Zbk (some C2) fun S4 => Zam Z3 fun C5 Z6 => Zbk (some C5) fun S7 => Zci Z6 (Zad pg Zjf [.agg [.str S4, .str S7], .int .i64 x1] H0 fun V8 H9 =>
 Zds .i64 (some V8) fun X10 => bcase (decide ((X10 : Int) < 0)) (Q (.int .i64 (-1)) H9) (xSl (Zag H9 (.ptr (some (h.length, 0 + 2)))) fun A11 N12 C13 E14 => Zad pg Zkq [.slice A11 N12 C13 E14, .int .i64 X10] H9 fun V15 H16 =>
 Zds .i64 (some V15) fun X17 => bcase (decide ((X17 : Int) < 0)) (Q (.int .i64 (-1)) H16) (Q (.int .i64 X17) H16)))) : Zad pg Zkl [.agg [.str x0x0, .str x0x1, .slice a0x2 n0x2 c0x2 e0x2], .int .i64 x1] h Q :=
  Zad.of_body kp (c := cod fn) (fn := fn) Go.Proofs.Tryz.func75 (by kernel_rfl) (by kernel_rfl) (Nat.le_of_ble_eq_true (by kernel_rfl))
    (cast (by kernel_rfl) ht)
end Zng
namespace Zfz
noncomputable abbrev fn : Func := Go.Proofs.Tryz.f33
def kp : Zcb := [(3000005, [1, 4]), (1000005, [0, 1, 5])]
noncomputable def C (p : List Nat) : Code := (cod fn).sub p
def KR (Q : QT) : KT := Zez pg fn.results.toList Q
abbrev T5 := Pt → Nat → Nat → Bool → Int → Int → Zaa → Prop
def E5 (R5 : T5) (env : Env) (h : Zaa) : Prop := Zbt 0 env fun v env => xSl (some v) fun a0 n0 c0 e0 => Zbt 1 env fun v env => Zei .i64 v fun x1 => Zbt 5 env fun v env => Zei .i64 v fun x5 => Zjr env (R5 a0 n0 c0 e0 x1 x5 h)
theorem Zhm {R5 : T5} {env : Env} {h : Zaa} (hi : E5 R5 env h) : ∃ a0, ∃ n0, ∃ c0, ∃ e0, ∃ x1, ∃ x5, env = [(0, .slice a0 n0 c0 e0), (1, .int .i64 x1), (5, .int .i64 x5)] ∧ R5 a0 n0 c0 e0 x1 x5 h := by
  unfold E5 at hi
  have hi0 := hi
  clear hi
  obtain ⟨_, _, rfl, hi1⟩ := Zab hi0
  obtain ⟨a0, n0, c0, e0, rfl, hi2⟩ := Zbh hi1
  obtain ⟨_, _, rfl, hi3⟩ := Zab hi2
  obtain ⟨x1, rfl, hi4⟩ := Zat hi3
  obtain ⟨_, _, rfl, hi5⟩ := Zab hi4
  obtain ⟨x5, rfl, hi6⟩ := Zat hi5
  obtain ⟨rfl, hi7⟩ := Zbi hi6
  have hi := hi7
  exact ⟨a0, n0, c0, e0, x1, x5, rfl, hi⟩
def K0 (Q : QT) : KT := andThen (fun env' h' => (match kp.find 4000010 with | some ks => Den pg fn.ntmps (C [1, 1, 1, 1]) (env'.keep ks) h' (KR Q) | none => den pg fn.ntmps kp (C [1, 1, 1, 1]) env' h' (KR Q))) (KR Q)
def K1 (Q : QT) : KT := Zcg 0 (K0 Q)
def K2 (Q : QT) : KT := Zgz kp 5 (K1 Q)
def K3 (Q : QT) (R5 : T5) : KT := rnd ((kp.find 1000005).getD []) (E5 R5) (K2 Q)
def L5 (Q : QT) (a0 : Pt) (n0 c0 : Nat) (e0 : Bool) (x1 x5 : Int) (h : Zaa) : Prop := Zed (Den pg fn.ntmps (C [1, 1, 1, 0, 1, 0, 0])) ((kp.find 1000005).getD []) (K2 Q) [(0, .slice a0 n0 c0 e0), (1, .int .i64 x1), (5, .int .i64 x5)] h
def A5x0 (Q : QT) (x1 : Int) (h : Zaa) : Prop := At (K1 Q) (.exit 0) [(1, .int .i64 x1), (4, .undef)] h
def L5t (Q : QT) (R5 : T5) (a0 : Pt) (n0 c0 : Nat) (e0 : Bool) (x1 x5 : Int) (h : Zaa) : Prop :=
 bcase (decide ((x5 : Int) < (((n0 : Nat) : Int)))) ((0 ≤ (x5 : Int) ∧ (x5 : Int) < (n0 : Nat)) ∧ (Zbl a0 fun I0 O1 => Zcx (Zbp h (.ptr (some (I0, O1 + (Int.toNat x5) * 3))) 3) fun K2 => Zam K2 fun C3 Z4 => Zbk (some C3) fun S5 => Zam Z4 fun C6 Z7 => Zbk (some C6) fun S8 => Zam Z7 fun C9 Z10 => xSl (some C9) fun A11 N12 C13 E14 => Zci Z10 (Zad pg Zkl [.agg [.str S5, .str S8, .slice A11 N12 C13 E14], .int .i64 x1] h fun V15 H16 =>
 Zds .i64 (some V15) fun X17 => bcase (decide ((X17 : Int) < 0)) (Q (.int .i64 (-1)) H16) (R5 a0 n0 c0 e0 X17 (IntKind.wrap .i64 (x5 + 1)) H16)))) (A5x0 Q x1 h)
theorem Zqx (Q : QT) (R5 : T5) (a0 : Pt) (n0 c0 : Nat) (e0 : Bool) (x1 x5 : Int) (h : Zaa) (ht : L5t Q R5 a0 n0 c0 e0 x1 x5 h) : Den pg fn.ntmps (C [1, 1, 1, 0, 1, 0, 0]) [(0, .slice a0 n0 c0 e0), (1, .int .i64 x1), (5, .int .i64 x5)] h (K3 Q R5) :=
  Zay (kp := kp) (cast (by kernel_rfl) ht)
theorem L5ind (Q : QT) (a0 : Pt) (n0 c0 : Nat) (e0 : Bool) {G : Type} (J : G → Int → Int → Zaa → Prop) (m : G → Nat)
 (hr : ∀ (g : G) (x1 x5 : Int) (h : Zaa), J g x1 x5 h → ∀ (R5 : T5), (∀ g' (x1 x5 : Int) (h : Zaa), m g' < m g → J g' x1 x5 h → R5 a0 n0 c0 e0 x1 x5 h) → L5t Q R5 a0 n0 c0 e0 x1 x5 h)
 (g : G) (x1 x5 : Int) (h : Zaa) (hj : J g x1 x5 h) : L5 Q a0 n0 c0 e0 x1 x5 h := by
  refine Zed.inv2 (fun g => E5 fun a0' n0' c0' e0' x1 x5 h => a0 = a0' ∧ n0 = n0' ∧ c0 = c0' ∧ e0 = e0' ∧ J g x1 x5 h) (fun g => E5 fun a0' n0' c0' e0' x1 x5 h => a0 = a0' ∧ n0 = n0' ∧ c0 = c0' ∧ e0 = e0' ∧ ∃ g', m g' < m g ∧ J g' x1 x5 h) m ?_ ?_ g ⟨rfl, rfl, rfl, rfl, hj⟩
  · intro g env h hi
    obtain ⟨a0', n0', c0', e0', x1, x5, rfl, rfl, rfl, rfl, rfl, hj⟩ := Zhm hi
    exact Zqx Q _ a0 n0 c0 e0 x1 x5 h (hr g x1 x5 h hj (fun a0' n0' c0' e0' x1 x5 h => a0 = a0' ∧ n0 = n0' ∧ c0 = c0' ∧ e0 = e0' ∧ ∃ g', m g' < m g ∧ J g' x1 x5 h) fun g' x1 x5 h hlt hj => ⟨rfl, rfl, rfl, rfl, g', hlt, hj⟩)
  · intro g env h hi
    obtain ⟨a0', n0', c0', e0', x1, x5, rfl, rfl, rfl, rfl, rfl, g', hlt, hj⟩ := Zhm hi
    exact ⟨g', hlt, rfl, rfl, rfl, rfl, hj⟩
theorem A5x0i (Q : QT) (x1 : Int) (h : Zaa) (ht :
 Q (.int .i64 x1) h) : A5x0 Q x1 h :=
  At.mk (cast (by kernel_rfl) ht)
theorem call (a0 : Pt) (n0 c0 : Nat) (e0 : Bool) (x1 : Int) (h : Zaa) (Q : QT) (ht :
 bcase (decide (((IntKind.wrap .i64 (x1 - (((n0 : Nat) : Int)))) : Int) < 0)) (Q (.int .i64 (-1)) h) (L5 Q a0 n0 c0 e0 (IntKind.wrap .i64 (x1 - (((n0 : Nat) : Int)))) 0 h)) : Zad pg Zji [.slice a0 n0 c0 e0, .int .i64 x1] h Q :=
  Zad.of_body kp (c := cod fn) (fn := fn) Go.Proofs.Tryz.func33 (by kernel_rfl) (by kernel_rfl) (Nat.le_of_ble_eq_true (by kernel_rfl))
    (cast (by kernel_rfl) ht)
end Zfz
namespace Zqc
noncomputable abbrev fn : Func := Go.Proofs.Tryz.f7
def kp : Zcb := []
noncomputable def C (p : List Nat) : Code := (cod fn).sub p
def KR (Q : QT) : KT := Zez pg fn.results.toList Q
theorem call (a0x0 : Pt) (n0x0 c0x0 : Nat) (e0x0 : Bool) (a0x1 : Pt) (n0x1 c0x1 : Nat) (e0x1 : Bool) (x1 : Int) (h : Zaa) (Q : QT) (ht :
 Zdg (h ++ [.cells Zer [.slice a0x0 n0x0 c0x0 e0x0, .slice a0x1 n0x1 c0x1 e0x1] false]) fun H0 => xSl (Zag H0 (.ptr (some (h.length, 0 + 0)))) fun A1 N2 C3 E4 => Zad pg Zlo [.slice A1 N2 C3 E4, .int .i64 x1] H0 fun V5 H6 =>
 Zds .i64 (some V5) fun X7 => bcase (decide ((X7 : Int) < 0)) (Q (.int .i64 (-1)) H6) (xSl (Zag H6 (.ptr (some (h.length, 0 + 1)))) fun A8 N9 C10 E11 => Zad pg Zji [.slice A8 N9 C10 E11, .int .i64 X7] H6 fun V12 H13 =>
 Zds .i64 (some V12) fun X14 => bcase (decide ((X14 : Int) < 0)) (Q (.int .i64 (-1)) H13) (Q (.int .i64 X14) H13))) : Zad pg Zmq [.agg [.slice a0x0 n0x0 c0x0 e0x0, .slice a0x1 n0x1 c0x1 e0x1], .int .i64 x1] h Q :=
  Zad.of_body kp (c := cod fn) (fn := fn) Go.Proofs.Tryz.func7 (by kernel_rfl) (by kernel_rfl) (Nat.le_of_ble_eq_true (by kernel_rfl))
    (cast (by kernel_rfl) ht)
end Zqc
namespace Znl
noncomputable abbrev fn : Func := Go.Proofs.Tryz.f79
def kp : Zcb := []
noncomputable def C (p : List Nat) : Code := (cod fn).sub p
def KR (Q : QT) : KT := Zez pg fn.results.toList Q
theorem call (x0x0 x0x1 : List Nat) (a0x2 : Pt) (n0x2 c0x2 : Nat) (e0x2 : Bool) (h : Zaa) (Q : QT) (ht :
 Zdg (h ++ [.cells Zeq [.str x0x0, .str x0x1, .slice a0x2 n0x2 c0x2 e0x2] false]) fun H0 => Zdg (H0 ++ [.cells Zas [.str [], .str [], .slice none 0 0 true] false]) fun H1 => Zdg (H1 ++ [.cells Zas [.str [], .str [], .slice none 0 0 true] false]) fun H2 => Zcx (Zbp H2 (.ptr (some (h.length, 0 + 0))) 2) fun K3 => Zam K3 fun C4 Z5 => Zbk (some C4) fun S6 => Zam Z5 fun C7 Z8 => Zbk (some C7) fun S9 => Zci Z8 (Zad pg Zhr [.agg [.str S6, .str S9]] H2 fun V10 H11 =>
 Ztu V10 fun K12 => Zam K12 fun C13 Z14 => Zbk (some C13) fun S15 => Zam Z14 fun C16 Z17 => Zbk (some C16) fun S18 => Zci Z17 (Zcu (Zbn H11 (.ptr (some (H1.length, 0 + 0))) [.str S15, .str S18]) fun H19 => xSl (Zag H19 (.ptr (some (h.length, 0 + 2)))) fun A20 N21 C22 E23 => Zad pg Zgb [.slice A20 N21 C22 E23] H19 fun V24 H25 =>
 xSl (some V24) fun A26 N27 C28 E29 => Zcu (Zbn H25 (.ptr (some (H1.length, 0 + 2))) [.slice A26 N27 C28 E29]) fun H30 => Zcx (Zbp H30 (.ptr (some (H1.length, 0))) 3) fun K31 => Zam K31 fun C32 Z33 => Zbk (some C32) fun S34 => Zam Z33 fun C35 Z36 => Zbk (some C35) fun S37 => Zam Z36 fun C38 Z39 => xSl (some C38) fun A40 N41 C42 E43 => Zci Z39 (Zcu (Zbn H30 (.ptr (some (H0.length, 0))) [.str S34, .str S37, .slice A40 N41 C42 E43]) fun H44 => Zcx (Zbp H44 (.ptr (some (H0.length, 0))) 3) fun K45 => Zam K45 fun C46 Z47 => Zbk (some C46) fun S48 => Zam Z47 fun C49 Z50 => Zbk (some C49) fun S51 => Zam Z50 fun C52 Z53 => xSl (some C52) fun A54 N55 C56 E57 => Zci Z53 (Q (.agg [.str S48, .str S51, .slice A54 N55 C56 E57]) H44))))) : Zad pg Zkk [.agg [.str x0x0, .str x0x1, .slice a0x2 n0x2 c0x2 e0x2]] h Q :=
  Zad.of_body kp (c := cod fn) (fn := fn) Go.Proofs.Tryz.func79 (by kernel_rfl) (by kernel_rfl) (Nat.le_of_ble_eq_true (by kernel_rfl))
    (cast (by kernel_rfl) ht)
end Znl
end Go.Sim
