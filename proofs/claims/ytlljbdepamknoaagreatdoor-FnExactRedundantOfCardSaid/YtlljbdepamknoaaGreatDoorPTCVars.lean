/- A part of the proof of a statement of this seat: see the text that holds the theorem. No condition. -/
import Derived.Test.YtlljbdepamknoaaGreatDoorNm
set_option linter.unusedVariables false
set_option linter.unusedSimpArgs false
set_option linter.all false
set_option maxRecDepth 100000
set_option linter.unusedVariables false
namespace Go.Sim
open Go Go.RowKit
namespace Zgu
noncomputable abbrev fn : Func := Go.Proofs.Tryz.f74
def kp : Zbz := [(3000002, [1]), (1000002, [0, 1, 5])]
noncomputable def C (p : List Nat) : Code := (cod fn).sub p
def KR (Q : QT) : KT := Zes pg fn.results.toList Q
abbrev T2 := Pt → Nat → Nat → Bool → Int → Int → Zaa → Prop
def E2 (R2 : T2) (env : Env) (h : Zaa) : Prop := Zbs 0 env fun v env => xSl (some v) fun a0 n0 c0 e0 => Zbs 1 env fun v env => Zee .i64 v fun x1 => Zbs 5 env fun v env => Zee .i64 v fun x5 => Zje env (R2 a0 n0 c0 e0 x1 x5 h)
theorem Zdg {R2 : T2} {env : Env} {h : Zaa} (hi : E2 R2 env h) : ∃ a0, ∃ n0, ∃ c0, ∃ e0, ∃ x1, ∃ x5, env = [(0, .slice a0 n0 c0 e0), (1, .int .i64 x1), (5, .int .i64 x5)] ∧ R2 a0 n0 c0 e0 x1 x5 h := by
 unfold E2 at hi
 have hi0 := hi
 clear hi
 obtain ⟨_, _, rfl, hi1⟩ := Zab hi0
 obtain ⟨a0, n0, c0, e0, rfl, hi2⟩ := Zbf hi1
 obtain ⟨_, _, rfl, hi3⟩ := Zab hi2
 obtain ⟨x1, rfl, hi4⟩ := Zao hi3
 obtain ⟨_, _, rfl, hi5⟩ := Zab hi4
 obtain ⟨x5, rfl, hi6⟩ := Zao hi5
 obtain ⟨rfl, hi7⟩ := Zbg hi6
 have hi := hi7
 exact ⟨a0, n0, c0, e0, x1, x5, rfl, hi⟩
def K0 (Q : QT) : KT := andThen (fun env' h' => (match kp.find 4000008 with | some ks => Den pg fn.ntmps (C [1, 1]) (env'.keep ks) h' (KR Q) | none => den pg fn.ntmps kp (C [1, 1]) env' h' (KR Q))) (KR Q)
def K1 (Q : QT) : KT := Zck 0 (K0 Q)
def K2 (Q : QT) : KT := left kp 2 (K1 Q)
def K3 (Q : QT) (R2 : T2) : KT := rnd ((kp.find 1000002).getD []) (E2 R2) (K2 Q)
def L2 (Q : QT) (a0 : Pt) (n0 c0 : Nat) (e0 : Bool) (x1 x5 : Int) (h : Zaa) : Prop := Zec (Den pg fn.ntmps (C [1, 0, 1, 0, 0])) ((kp.find 1000002).getD []) (K2 Q) [(0, .slice a0 n0 c0 e0), (1, .int .i64 x1), (5, .int .i64 x5)] h
def Zlg (Q : QT) (x1 : Int) (h : Zaa) : Prop := At (K1 Q) (.exit 0) [(1, .int .i64 x1)] h
def L2t (Q : QT) (R2 : T2) (a0 : Pt) (n0 c0 : Nat) (e0 : Bool) (x1 x5 : Int) (h : Zaa) : Prop :=
 bcase (decide ((x5 : Int) < (((n0 : Nat) : Int)))) (Zae pg Zfa [.int .i64 x1] h fun V0 H1 =>
 Zbo (some V0) fun S2 => (0 ≤ (x5 : Int) ∧ (x5 : Int) < (n0 : Nat)) ∧ (Zbl a0 fun I3 O4 => Zcp (Zbk H1 (.ptr (some (I3, O4 + (Int.toNat x5) * 2 + 0))) [.str S2]) fun H5 => Zae pg Zfa [.int .i64 (IntKind.wrap .i64 (x1 + 1))] H5 fun V6 H7 =>
 Zbo (some V6) fun S8 => (0 ≤ (x5 : Int) ∧ (x5 : Int) < (n0 : Nat)) ∧ (Zbl a0 fun I9 O10 => Zcp (Zbk H7 (.ptr (some (I9, O10 + (Int.toNat x5) * 2 + 1))) [.str S8]) fun H11 => R2 a0 n0 c0 e0 (IntKind.wrap .i64 ((IntKind.wrap .i64 (x1 + 1)) + 1)) (IntKind.wrap .i64 (x5 + 1)) H11))) (Zlg Q x1 h)
theorem Zhn (Q : QT) (R2 : T2) (a0 : Pt) (n0 c0 : Nat) (e0 : Bool) (x1 x5 : Int) (h : Zaa) (ht : L2t Q R2 a0 n0 c0 e0 x1 x5 h) : Den pg fn.ntmps (C [1, 0, 1, 0, 0]) [(0, .slice a0 n0 c0 e0), (1, .int .i64 x1), (5, .int .i64 x5)] h (K3 Q R2) :=
 Zba (kp := kp) (cast (by kernel_rfl) ht)
theorem L2ind (Q : QT) (a0 : Pt) (n0 c0 : Nat) (e0 : Bool) {G : Type} (J : G → Int → Int → Zaa → Prop) (m : G → Nat)
 (hr : ∀ (g : G) (x1 x5 : Int) (h : Zaa), J g x1 x5 h → ∀ (R2 : T2), (∀ g' (x1 x5 : Int) (h : Zaa), m g' < m g → J g' x1 x5 h → R2 a0 n0 c0 e0 x1 x5 h) → L2t Q R2 a0 n0 c0 e0 x1 x5 h)
 (g : G) (x1 x5 : Int) (h : Zaa) (hj : J g x1 x5 h) : L2 Q a0 n0 c0 e0 x1 x5 h := by
 refine Zec.inv2 (fun g => E2 fun a0' n0' c0' e0' x1 x5 h => a0 = a0' ∧ n0 = n0' ∧ c0 = c0' ∧ e0 = e0' ∧ J g x1 x5 h) (fun g => E2 fun a0' n0' c0' e0' x1 x5 h => a0 = a0' ∧ n0 = n0' ∧ c0 = c0' ∧ e0 = e0' ∧ ∃ g', m g' < m g ∧ J g' x1 x5 h) m ?_ ?_ g ⟨rfl, rfl, rfl, rfl, hj⟩
 ·intro g env h hi
  obtain ⟨a0', n0', c0', e0', x1, x5, rfl, rfl, rfl, rfl, rfl, hj⟩ := Zdg hi
  exact Zhn Q _ a0 n0 c0 e0 x1 x5 h (hr g x1 x5 h hj (fun a0' n0' c0' e0' x1 x5 h => a0 = a0' ∧ n0 = n0' ∧ c0 = c0' ∧ e0 = e0' ∧ ∃ g', m g' < m g ∧ J g' x1 x5 h) fun g' x1 x5 h hlt hj => ⟨rfl, rfl, rfl, rfl, g', hlt, hj⟩)
 ·intro g env h hi
  obtain ⟨a0', n0', c0', e0', x1, x5, rfl, rfl, rfl, rfl, rfl, g', hlt, hj⟩ := Zdg hi
  exact ⟨g', hlt, rfl, rfl, rfl, rfl, hj⟩
theorem A2x0i (Q : QT) (x1 : Int) (h : Zaa) (ht :
 Q (.int .i64 x1) h) : Zlg Q x1 h :=
 At.mk (cast (by kernel_rfl) ht)
theorem call (a0 : Pt) (n0 c0 : Nat) (e0 : Bool) (x1 : Int) (h : Zaa) (Q : QT) (ht :
 L2 Q a0 n0 c0 e0 x1 0 h) : Zae pg Zls [.slice a0 n0 c0 e0, .int .i64 x1] h Q :=
 Zae.of_body kp (c := cod fn) (fn := fn) Go.Proofs.Tryz.func74 (by kernel_rfl) (by kernel_rfl) (Nat.le_of_ble_eq_true (by kernel_rfl))
  (cast (by kernel_rfl) ht)
end Zgu
end Go.Sim

set_option maxRecDepth 100000
set_option linter.unusedVariables false
namespace Go.Sim
open Go Go.RowKit
namespace Zxj
noncomputable abbrev fn : Func := Go.Proofs.Tryz.f107
def kp : Zbz := []
noncomputable def C (p : List Nat) : Code := (cod fn).sub p
def KR (Q : QT) : KT := Zes pg fn.results.toList Q
theorem call (x0 x1 x2 : Int) (h : Zaa) (Q : QT) (ht :
 bcase (decide ((x0 : Int) ≥ x1)) (Q (.bool (decide ((x0 : Int) ≤ x2))) h) (Q (.bool false) h)) : Zae pg Zpe [.int .i64 x0, .int .i64 x1, .int .i64 x2] h Q :=
 Zae.of_body kp (c := cod fn) (fn := fn) Go.Proofs.Tryz.func107 (by kernel_rfl) (by kernel_rfl) (Nat.le_of_ble_eq_true (by kernel_rfl))
  (cast (by kernel_rfl) ht)
end Zxj
namespace Zrh
noncomputable abbrev fn : Func := Go.Proofs.Tryz.f108
def kp : Zbz := []
noncomputable def C (p : List Nat) : Code := (cod fn).sub p
def KR (Q : QT) : KT := Zes pg fn.results.toList Q
theorem call (x0 : List Nat) (h : Zaa) (Q : QT) (ht :
 bcase ((((List.length x0 : Nat) : Int) : Int) == 1) (bcase (!Zeh x0 [65]) (Q (.bool (Zeh x0 [84] || decide (x0 = [84]))) h) (Q (.bool false) h)) (Q (.bool false) h)) : Zae pg Znu [.str x0] h Q :=
 Zae.of_body kp (c := cod fn) (fn := fn) Go.Proofs.Tryz.func108 (by kernel_rfl) (by kernel_rfl) (Nat.le_of_ble_eq_true (by kernel_rfl))
  (cast (by kernel_rfl) ht)
end Zrh
namespace Zpo
noncomputable abbrev fn : Func := Go.Proofs.Tryz.f106
def kp : Zbz := []
noncomputable def C (p : List Nat) : Code := (cod fn).sub p
def KR (Q : QT) : KT := Zes pg fn.results.toList Q
theorem call (x0 : List Nat) (h : Zaa) (Q : QT) (ht :
 bcase ((((List.length x0 : Nat) : Int) : Int) == 1) (Zlw x0 0 fun B0 => Zae pg Zpe [.int .i64 (IntKind.wrap .i64 (((B0 : Nat) : Int))), .int .i64 65, .int .i64 84] h fun V1 H2 =>
 Zci (some V1) fun B3 => Q (.bool B3) H2) (Q (.bool false) h)) : Zae pg Zlo [.str x0] h Q :=
 Zae.of_body kp (c := cod fn) (fn := fn) Go.Proofs.Tryz.func106 (by kernel_rfl) (by kernel_rfl) (Nat.le_of_ble_eq_true (by kernel_rfl))
  (cast (by kernel_rfl) ht)
end Zpo
end Go.Sim

set_option maxRecDepth 100000
set_option linter.unusedVariables false
namespace Go.Sim
open Go Go.RowKit
namespace Zit
noncomputable abbrev fn : Func := Go.Proofs.Tryz.f136
def kp : Zbz := [(3000002, [4]), (1000002, [0, 1, 5])]
noncomputable def C (p : List Nat) : Code := (cod fn).sub p
def KR (Q : QT) : KT := Zes pg fn.results.toList Q
abbrev T2 := List Nat → Int → Int → Zaa → Prop
def E2 (R2 : T2) (env : Env) (h : Zaa) : Prop := Zbs 0 env fun v env => Zbo (some v) fun x0 => Zbs 1 env fun v env => Zee .u8 v fun x1 => Zbs 5 env fun v env => Zee .i64 v fun x5 => Zje env (R2 x0 x1 x5 h)
theorem Zdg {R2 : T2} {env : Env} {h : Zaa} (hi : E2 R2 env h) : ∃ x0, ∃ x1, ∃ x5, env = [(0, .str x0), (1, .int .u8 x1), (5, .int .i64 x5)] ∧ R2 x0 x1 x5 h := by
 unfold E2 at hi
 have hi0 := hi
 clear hi
 obtain ⟨_, _, rfl, hi1⟩ := Zab hi0
 obtain ⟨x0, rfl, hi2⟩ := Zel hi1
 obtain ⟨_, _, rfl, hi3⟩ := Zab hi2
 obtain ⟨x1, rfl, hi4⟩ := Zao hi3
 obtain ⟨_, _, rfl, hi5⟩ := Zab hi4
 obtain ⟨x5, rfl, hi6⟩ := Zao hi5
 obtain ⟨rfl, hi7⟩ := Zbg hi6
 have hi := hi7
 exact ⟨x0, x1, x5, rfl, hi⟩
def K0 (Q : QT) : KT := andThen (fun env' h' => (match kp.find 4000006 with | some ks => Den pg fn.ntmps (C [1, 1]) (env'.keep ks) h' (KR Q) | none => den pg fn.ntmps kp (C [1, 1]) env' h' (KR Q))) (KR Q)
def K1 (Q : QT) : KT := Zck 0 (K0 Q)
def K2 (Q : QT) : KT := left kp 2 (K1 Q)
def K3 (Q : QT) (R2 : T2) : KT := rnd ((kp.find 1000002).getD []) (E2 R2) (K2 Q)
def L2 (Q : QT) (x0 : List Nat) (x1 x5 : Int) (h : Zaa) : Prop := Zec (Den pg fn.ntmps (C [1, 0, 1, 0, 0])) ((kp.find 1000002).getD []) (K2 Q) [(0, .str x0), (1, .int .u8 x1), (5, .int .i64 x5)] h
def Zlg (Q : QT) (h : Zaa) : Prop := At (K1 Q) (.exit 0) [(4, .undef)] h
def L2t (Q : QT) (R2 : T2) (x0 : List Nat) (x1 x5 : Int) (h : Zaa) : Prop :=
 bcase (decide ((x5 : Int) < (((List.length x0 : Nat) : Int)))) (Zlw x0 x5 fun B0 => bcase ((((B0 : Nat) : Int) : Int) == x1) (Q (.int .i64 x5) h) (R2 x0 x1 (IntKind.wrap .i64 (x5 + 1)) h)) (Zlg Q h)
theorem Zhn (Q : QT) (R2 : T2) (x0 : List Nat) (x1 x5 : Int) (h : Zaa) (ht : L2t Q R2 x0 x1 x5 h) : Den pg fn.ntmps (C [1, 0, 1, 0, 0]) [(0, .str x0), (1, .int .u8 x1), (5, .int .i64 x5)] h (K3 Q R2) :=
 Zba (kp := kp) (cast (by kernel_rfl) ht)
theorem L2ind (Q : QT) (x0 : List Nat) (x1 : Int) {G : Type} (J : G → Int → Zaa → Prop) (m : G → Nat)
 (hr : ∀ (g : G) (x5 : Int) (h : Zaa), J g x5 h → ∀ (R2 : T2), (∀ g' (x5 : Int) (h : Zaa), m g' < m g → J g' x5 h → R2 x0 x1 x5 h) → L2t Q R2 x0 x1 x5 h)
 (g : G) (x5 : Int) (h : Zaa) (hj : J g x5 h) : L2 Q x0 x1 x5 h := by
 refine Zec.inv2 (fun g => E2 fun x0' x1' x5 h => x0 = x0' ∧ x1 = x1' ∧ J g x5 h) (fun g => E2 fun x0' x1' x5 h => x0 = x0' ∧ x1 = x1' ∧ ∃ g', m g' < m g ∧ J g' x5 h) m ?_ ?_ g ⟨rfl, rfl, hj⟩
 ·intro g env h hi
  obtain ⟨x0', x1', x5, rfl, rfl, rfl, hj⟩ := Zdg hi
  exact Zhn Q _ x0 x1 x5 h (hr g x5 h hj (fun x0' x1' x5 h => x0 = x0' ∧ x1 = x1' ∧ ∃ g', m g' < m g ∧ J g' x5 h) fun g' x5 h hlt hj => ⟨rfl, rfl, g', hlt, hj⟩)
 ·intro g env h hi
  obtain ⟨x0', x1', x5, rfl, rfl, rfl, g', hlt, hj⟩ := Zdg hi
  exact ⟨g', hlt, rfl, rfl, hj⟩
theorem A2x0i (Q : QT) (h : Zaa) (ht :
 Q (.int .i64 (-1)) h) : Zlg Q h :=
 At.mk (cast (by kernel_rfl) ht)
theorem call (x0 : List Nat) (x1 : Int) (h : Zaa) (Q : QT) (ht :
 L2 Q x0 x1 0 h) : Zae pg Zgz [.str x0, .int .u8 x1] h Q :=
 Zae.of_body kp (c := cod fn) (fn := fn) Go.Proofs.Tryz.func136 (by kernel_rfl) (by kernel_rfl) (Nat.le_of_ble_eq_true (by kernel_rfl))
  (cast (by kernel_rfl) ht)
end Zit
namespace Znk
noncomputable abbrev fn : Func := Go.Proofs.Tryz.f162
def kp : Zbz := [(4000008, [])]
noncomputable def C (p : List Nat) : Code := (cod fn).sub p
def KR (Q : QT) : KT := Zes pg fn.results.toList Q
def J8 (Q : QT) (h : Zaa) : Prop := Den pg fn.ntmps (C [1, 1]) [] h (KR Q)
theorem J8i (Q : QT) (h : Zaa) (ht :
 Q (.int .i64 0) h) : J8 Q h :=
 Zba (kp := kp) (cast (by kernel_rfl) ht)
theorem call (x0 : Int) (h : Zaa) (Q : QT) (ht :
 Zae pg Zgz [.str ([105, 98, 117, 108, 109, 112, 120, 121, 122, 88, 89, 90]), .int .u8 x0] h fun V0 H1 =>
 Zen .i64 (some V0) fun X2 => bcase (decide ((X2 : Int) < 0)) (Q (.int .i64 (-1)) H1) (bcase ((X2 : Int) == 3) (Q (.int .i64 1) H1) (bcase ((X2 : Int) == 4) (Q (.int .i64 1) H1) (bcase ((X2 : Int) == 5) (Q (.int .i64 2) H1) (J8 Q H1))))) : Zae pg Zle [.int .u8 x0] h Q :=
 Zae.of_body kp (c := cod fn) (fn := fn) Go.Proofs.Tryz.func162 (by kernel_rfl) (by kernel_rfl) (Nat.le_of_ble_eq_true (by kernel_rfl))
  (cast (by kernel_rfl) ht)
end Znk
namespace Zlv
noncomputable abbrev fn : Func := Go.Proofs.Tryz.f161
def kp : Zbz := [(2000001, [12, 0]), (2000005, [2])]
noncomputable def C (p : List Nat) : Code := (cod fn).sub p
def KR (Q : QT) : KT := Zes pg fn.results.toList Q
theorem call (a0 : Pt) (h : Zaa) (Q : QT) (ht :
 Zbl a0 fun I0 O1 => Zbl a0 fun I2 O3 => Zen .i64 (Zak h (.ptr (some (I0, O1 + 1)))) fun X4 => Zbo (Zak h (.ptr (some (I2, O3 + 0)))) fun S5 => (Zak h (.ptr (some (I0, O1 + 1))) = Zak h (.ptr (some (I0, O1 + 1)))) ∧ bcase (decide ((X4 : Int) ≥ (((List.length S5 : Nat) : Int)))) (Zbl a0 fun I6 O7 => Zcp (Zbk h (.ptr (some (I6, O7 + 2))) [.bool true]) fun H8 => Q (.int .u8 0) H8) (Zbl a0 fun I9 O10 => Zen .i64 (Zak h (.ptr (some (I9, O10 + 1)))) fun X11 => Zbl a0 fun I12 O13 => Zcp (Zbk h (.ptr (some (I12, O13 + 1))) [.int .i64 (IntKind.wrap .i64 (X11 + 1))]) fun H14 => Zbl a0 fun I15 O16 => Zbl a0 fun I17 O18 => Zbo (Zak H14 (.ptr (some (I15, O16 + 0)))) fun S19 => Zen .i64 (Zak H14 (.ptr (some (I17, O18 + 1)))) fun X20 => (Zak H14 (.ptr (some (I15, O16 + 0))) = Zak H14 (.ptr (some (I15, O16 + 0)))) ∧ Zlw S19 (IntKind.wrap .i64 (X20 - 1)) fun B21 => Q (.int .u8 (((B21 : Nat) : Int))) H14)) : Zae pg Zfk [.ptr a0] h Q :=
 Zae.of_body kp (c := cod fn) (fn := fn) Go.Proofs.Tryz.func161 (by kernel_rfl) (by kernel_rfl) (Nat.le_of_ble_eq_true (by kernel_rfl))
  (cast (by kernel_rfl) ht)
end Zlv
namespace Zbi
noncomputable abbrev fn : Func := Go.Proofs.Tryz.f141
def kp : Zbz := [(4000004, [0, 2, 3, 4]), (3000005, [4, 0, 3, 2]), (1000005, [0, 2, 3, 4, 5]), (4000007, [0, 5, 3, 4, 2]), (2000007, [0, 3, 5, 4, 2]), (4000008, [0, 3, 5, 4, 2]), (2000009, [5, 4, 0, 3, 2]), (4000006, [5, 4, 0, 3, 2]), (4000012, [3, 2])]
noncomputable def C (p : List Nat) : Code := (cod fn).sub p
def KR (Q : QT) : KT := Zes pg fn.results.toList Q
abbrev T5 := Pt → Nat → Nat → Nat → Nat → Int → Int → Zaa → Prop
def E5 (R5 : T5) (env : Env) (h : Zaa) : Prop := Zbs 0 env fun v env => Zii (some v) fun a0 => Zbs 2 env fun v env => Zii (some v) fun a => Zbl a fun i2 o2 => Zbs 3 env fun v env => Zii (some v) fun a => Zbl a fun i3 o3 => Zbs 4 env fun v env => Zee .i64 v fun x4 => Zbs 5 env fun v env => Zee .i64 v fun x5 => Zje env (R5 a0 i2 o2 i3 o3 x4 x5 h)
theorem Zgi {R5 : T5} {env : Env} {h : Zaa} (hi : E5 R5 env h) : ∃ a0, ∃ i2, ∃ o2, ∃ i3, ∃ o3, ∃ x4, ∃ x5, env = [(0, .ptr a0), (2, .ptr (some (i2, o2))), (3, .ptr (some (i3, o3))), (4, .int .i64 x4), (5, .int .i64 x5)] ∧ R5 a0 i2 o2 i3 o3 x4 x5 h := by
 unfold E5 at hi
 have hi0 := hi
 clear hi
 obtain ⟨_, _, rfl, hi1⟩ := Zab hi0
 obtain ⟨a0, rfl, hi2⟩ := Zbw hi1
 obtain ⟨_, _, rfl, hi3⟩ := Zab hi2
 obtain ⟨a, rfl, hi4⟩ := Zbw hi3
 obtain ⟨i2, o2, rfl, hi5⟩ := Zbp hi4
 obtain ⟨_, _, rfl, hi6⟩ := Zab hi5
 obtain ⟨a, rfl, hi7⟩ := Zbw hi6
 obtain ⟨i3, o3, rfl, hi8⟩ := Zbp hi7
 obtain ⟨_, _, rfl, hi9⟩ := Zab hi8
 obtain ⟨x4, rfl, hi10⟩ := Zao hi9
 obtain ⟨_, _, rfl, hi11⟩ := Zab hi10
 obtain ⟨x5, rfl, hi12⟩ := Zao hi11
 obtain ⟨rfl, hi13⟩ := Zbg hi12
 have hi := hi13
 exact ⟨a0, i2, o2, i3, o3, x4, x5, rfl, hi⟩
def K0 (Q : QT) : KT := andThen (fun env' h' => (match kp.find 4000010 with | some ks => Den pg fn.ntmps (C [1, 1, 1, 1, 1]) (env'.keep ks) h' (KR Q) | none => den pg fn.ntmps kp (C [1, 1, 1, 1, 1]) env' h' (KR Q))) (KR Q)
def K1 (Q : QT) : KT := Zck 0 (K0 Q)
def K2 (Q : QT) : KT := left kp 5 (K1 Q)
def K3 (Q : QT) (R5 : T5) : KT := rnd ((kp.find 1000005).getD []) (E5 R5) (K2 Q)
def K4 (Q : QT) (R5 : T5) : KT := andThen (fun env' h' => (match kp.find 4000006 with | some ks => Den pg fn.ntmps (C [1, 1, 1, 1, 0, 1, 0, 0, 1, 1]) (env'.keep ks) h' (K3 Q R5) | none => den pg fn.ntmps kp (C [1, 1, 1, 1, 0, 1, 0, 0, 1, 1]) env' h' (K3 Q R5))) (K3 Q R5)
def K5 (Q : QT) (R5 : T5) : KT := Zck 1 (K4 Q R5)
def J4 (Q : QT) (a0 : Pt) (i2 o2 i3 o3 : Nat) (x4 : Int) (h : Zaa) : Prop := Den pg fn.ntmps (C [1, 1, 1, 1]) [(0, .ptr a0), (2, .ptr (some (i2, o2))), (3, .ptr (some (i3, o3))), (4, .int .i64 x4)] h (KR Q)
def L5 (Q : QT) (a0 : Pt) (i2 o2 i3 o3 : Nat) (x4 x5 : Int) (h : Zaa) : Prop := Zec (Den pg fn.ntmps (C [1, 1, 1, 1, 0, 1, 0, 0])) ((kp.find 1000005).getD []) (K2 Q) [(0, .ptr a0), (2, .ptr (some (i2, o2))), (3, .ptr (some (i3, o3))), (4, .int .i64 x4), (5, .int .i64 x5)] h
def J7 (Q : QT) (R5 : T5) (a0 : Pt) (x5 : Int) (i3 o3 : Nat) (x4 : Int) (i2 o2 : Nat) (h : Zaa) : Prop := Den pg fn.ntmps (C [1, 1, 1, 1, 0, 1, 0, 0, 1]) [(0, .ptr a0), (5, .int .i64 x5), (3, .ptr (some (i3, o3))), (4, .int .i64 x4), (2, .ptr (some (i2, o2)))] h (K3 Q R5)
def A5x0 (Q : QT) (x4 : Int) (a0 : Pt) (i3 o3 i2 o2 : Nat) (h : Zaa) : Prop := At (K1 Q) (.exit 0) [(4, .int .i64 x4), (0, .ptr a0), (3, .ptr (some (i3, o3))), (2, .ptr (some (i2, o2)))] h
def J8 (Q : QT) (R5 : T5) (a0 : Pt) (i3 o3 : Nat) (x5 x4 : Int) (i2 o2 : Nat) (h : Zaa) : Prop := Den pg fn.ntmps (C [1, 1, 1, 1, 0, 1, 0, 0, 1, 0, 0, 1]) [(0, .ptr a0), (3, .ptr (some (i3, o3))), (5, .int .i64 x5), (4, .int .i64 x4), (2, .ptr (some (i2, o2)))] h (K5 Q R5)
def J12 (Q : QT) (i3 o3 i2 o2 : Nat) (h : Zaa) : Prop := Den pg fn.ntmps (C [1, 1, 1, 1, 1, 1]) [(3, .ptr (some (i3, o3))), (2, .ptr (some (i2, o2)))] h (KR Q)
def J6 (Q : QT) (R5 : T5) (x5 x4 : Int) (a0 : Pt) (i3 o3 i2 o2 : Nat) (h : Zaa) : Prop := Den pg fn.ntmps (C [1, 1, 1, 1, 0, 1, 0, 0, 1, 1]) [(5, .int .i64 x5), (4, .int .i64 x4), (0, .ptr a0), (3, .ptr (some (i3, o3))), (2, .ptr (some (i2, o2)))] h (K3 Q R5)
theorem J4i (Q : QT) (a0 : Pt) (i2 o2 i3 o3 : Nat) (x4 : Int) (h : Zaa) (ht :
 L5 Q a0 i2 o2 i3 o3 x4 0 h) : J4 Q a0 i2 o2 i3 o3 x4 h :=
 Zba (kp := kp) (cast (by kernel_rfl) ht)
def L5t (Q : QT) (R5 : T5) (a0 : Pt) (i2 o2 i3 o3 : Nat) (x4 x5 : Int) (h : Zaa) : Prop :=
 bcase (decide ((x5 : Int) < x4)) (Zbl a0 fun I20 O21 => Zci (Zak h (.ptr (some (I20, O21 + 2)))) fun B22 => bcase (!B22) (J7 Q R5 a0 x5 i3 o3 x4 i2 o2 h) (A5x0 Q x4 a0 i3 o3 i2 o2 h)) (A5x0 Q x4 a0 i3 o3 i2 o2 h)
theorem Zqg (Q : QT) (R5 : T5) (a0 : Pt) (i2 o2 i3 o3 : Nat) (x4 x5 : Int) (h : Zaa) (ht : L5t Q R5 a0 i2 o2 i3 o3 x4 x5 h) : Den pg fn.ntmps (C [1, 1, 1, 1, 0, 1, 0, 0]) [(0, .ptr a0), (2, .ptr (some (i2, o2))), (3, .ptr (some (i3, o3))), (4, .int .i64 x4), (5, .int .i64 x5)] h (K3 Q R5) :=
 Zba (kp := kp) (cast (by kernel_rfl) ht)
theorem L5ind (Q : QT) (a0 : Pt) (i2 o2 i3 o3 : Nat) (x4 : Int) {G : Type} (J : G → Int → Zaa → Prop) (m : G → Nat)
 (hr : ∀ (g : G) (x5 : Int) (h : Zaa), J g x5 h → ∀ (R5 : T5), (∀ g' (x5 : Int) (h : Zaa), m g' < m g → J g' x5 h → R5 a0 i2 o2 i3 o3 x4 x5 h) → L5t Q R5 a0 i2 o2 i3 o3 x4 x5 h)
 (g : G) (x5 : Int) (h : Zaa) (hj : J g x5 h) : L5 Q a0 i2 o2 i3 o3 x4 x5 h := by
 refine Zec.inv2 (fun g => E5 fun a0' i2' o2' i3' o3' x4' x5 h => a0 = a0' ∧ i2 = i2' ∧ o2 = o2' ∧ i3 = i3' ∧ o3 = o3' ∧ x4 = x4' ∧ J g x5 h) (fun g => E5 fun a0' i2' o2' i3' o3' x4' x5 h => a0 = a0' ∧ i2 = i2' ∧ o2 = o2' ∧ i3 = i3' ∧ o3 = o3' ∧ x4 = x4' ∧ ∃ g', m g' < m g ∧ J g' x5 h) m ?_ ?_ g ⟨rfl, rfl, rfl, rfl, rfl, rfl, hj⟩
 ·intro g env h hi
  obtain ⟨a0', i2', o2', i3', o3', x4', x5, rfl, rfl, rfl, rfl, rfl, rfl, rfl, hj⟩ := Zgi hi
  exact Zqg Q _ a0 i2 o2 i3 o3 x4 x5 h (hr g x5 h hj (fun a0' i2' o2' i3' o3' x4' x5 h => a0 = a0' ∧ i2 = i2' ∧ o2 = o2' ∧ i3 = i3' ∧ o3 = o3' ∧ x4 = x4' ∧ ∃ g', m g' < m g ∧ J g' x5 h) fun g' x5 h hlt hj => ⟨rfl, rfl, rfl, rfl, rfl, rfl, g', hlt, hj⟩)
 ·intro g env h hi
  obtain ⟨a0', i2', o2', i3', o3', x4', x5, rfl, rfl, rfl, rfl, rfl, rfl, rfl, g', hlt, hj⟩ := Zgi hi
  exact ⟨g', hlt, rfl, rfl, rfl, rfl, rfl, rfl, hj⟩
theorem J7i (Q : QT) (R5 : T5) (a0 : Pt) (x5 : Int) (i3 o3 : Nat) (x4 : Int) (i2 o2 : Nat) (h : Zaa) (ht :
 Zlw ([40, 44]) x5 fun B23 => Zae pg Zfk [.ptr a0] h fun V24 H25 =>
 Zen .u8 (some V24) fun X26 => bcase (!((X26 : Int) == (((B23 : Nat) : Int)))) (Zbl a0 fun I27 O28 => Zcp (Zbk H25 (.ptr (some (I27, O28 + 2))) [.bool true]) fun H29 => J8 Q R5 a0 i3 o3 x5 x4 i2 o2 H29) (Zbl a0 fun I30 O31 => Zci (Zak H25 (.ptr (some (I30, O31 + 2)))) fun B32 => Zbl a0 fun I33 O34 => Zcp (Zbk H25 (.ptr (some (I33, O34 + 2))) [.bool B32]) fun H35 => J8 Q R5 a0 i3 o3 x5 x4 i2 o2 H35)) : J7 Q R5 a0 x5 i3 o3 x4 i2 o2 h :=
 Zba (kp := kp) (cast (by kernel_rfl) ht)
theorem A5x0i (Q : QT) (x4 : Int) (a0 : Pt) (i3 o3 i2 o2 : Nat) (h : Zaa) (ht :
 bcase (decide ((x4 : Int) > 0)) (Zbl a0 fun I36 O37 => Zci (Zak h (.ptr (some (I36, O37 + 2)))) fun B38 => bcase (!B38) (Zae pg Zfk [.ptr a0] h fun V39 H40 =>
 Zen .u8 (some V39) fun X41 => bcase (!((X41 : Int) == 41)) (Zbl a0 fun I42 O43 => Zcp (Zbk H40 (.ptr (some (I42, O43 + 2))) [.bool true]) fun H44 => J12 Q i3 o3 i2 o2 H44) (Zbl a0 fun I45 O46 => Zci (Zak H40 (.ptr (some (I45, O46 + 2)))) fun B47 => Zbl a0 fun I48 O49 => Zcp (Zbk H40 (.ptr (some (I48, O49 + 2))) [.bool B47]) fun H50 => J12 Q i3 o3 i2 o2 H50)) (J12 Q i3 o3 i2 o2 h)) (J12 Q i3 o3 i2 o2 h)) : A5x0 Q x4 a0 i3 o3 i2 o2 h :=
 At.mk (cast (by kernel_rfl) ht)
theorem J8i (Q : QT) (R5 : T5) (a0 : Pt) (i3 o3 : Nat) (x5 x4 : Int) (i2 o2 : Nat) (h : Zaa) (ht :
 Zbl a0 fun I51 O52 => Zci (Zak h (.ptr (some (I51, O52 + 2)))) fun B53 => bcase (!B53) (xSl (Zak h (.ptr (some (i3, o3 + 1)))) fun A54 N55 C56 E57 => Zae pg Zeq [.ptr a0] h fun V58 H59 =>
 Zuw V58 fun K60 => Zap K60 fun C61 Z62 => Zen .u8 (some C61) fun X63 => Zap Z62 fun C64 Z65 => xSl (some C64) fun A66 N67 C68 E69 => Zcr Z65 ((Zak H59 (.ptr (some (i3, o3 + 1))) = Zak h (.ptr (some (i3, o3 + 1)))) ∧ Zdc (H59 ++ [.cells Zad [.int .u8 X63, .slice A66 N67 C68 E69] false]) fun H70 => (Zak H70 (.ptr (some (i3, o3 + 1))) = Zak H59 (.ptr (some (i3, o3 + 1)))) ∧ Zdd pg Zjz H70 (.slice A54 N55 C56 E57) (.slice (some (H59.length, 0)) 1 1 true) fun V71 H72 => xSl (some V71) fun A73 N74 C75 E76 => Zcp (Zbk H72 (.ptr (some (i3, o3 + 1))) [.slice A73 N74 C75 E76]) fun H77 => J6 Q R5 x5 x4 a0 i3 o3 i2 o2 H77)) (J6 Q R5 x5 x4 a0 i3 o3 i2 o2 h)) : J8 Q R5 a0 i3 o3 x5 x4 i2 o2 h :=
 Zba (kp := kp) (cast (by kernel_rfl) ht)
theorem J12i (Q : QT) (i3 o3 i2 o2 : Nat) (h : Zaa) (ht :
 Zdh (Zbv h (.ptr (some (i3, o3))) 2) fun K78 => Zap K78 fun C79 Z80 => Zen .u8 (some C79) fun X81 => Zap Z80 fun C82 Z83 => xSl (some C82) fun A84 N85 C86 E87 => Zcr Z83 (Zcp (Zbk h (.ptr (some (i2, o2))) [.int .u8 X81, .slice A84 N85 C86 E87]) fun H88 => Zdh (Zbv H88 (.ptr (some (i2, o2))) 2) fun K89 => Zap K89 fun C90 Z91 => Zen .u8 (some C90) fun X92 => Zap Z91 fun C93 Z94 => xSl (some C93) fun A95 N96 C97 E98 => Zcr Z94 (Q (.agg [.int .u8 X92, .slice A95 N96 C97 E98]) H88))) : J12 Q i3 o3 i2 o2 h :=
 Zba (kp := kp) (cast (by kernel_rfl) ht)
theorem J6i (Q : QT) (R5 : T5) (x5 x4 : Int) (a0 : Pt) (i3 o3 i2 o2 : Nat) (h : Zaa) (ht :
 R5 a0 i2 o2 i3 o3 x4 (IntKind.wrap .i64 (x5 + 1)) h) : J6 Q R5 x5 x4 a0 i3 o3 i2 o2 h :=
 Zba (kp := kp) (cast (by kernel_rfl) ht)
theorem call (a0 : Pt) (h : Zaa) (Q : QT) (ht :
 Zdc (h ++ [.cells Zad [.int .u8 0, .slice none 0 0 true] false]) fun H0 => Zae pg Zfk [.ptr a0] H0 fun V1 H2 =>
 Zen .u8 (some V1) fun X3 => Zdc (H2 ++ [.cells Zad [] false]) fun H4 => Zdc (H4 ++ [.cells Zad [.int .u8 0, .slice none 0 0 true] false]) fun H5 => Zcp (Zbk H5 (.ptr (some (H4.length, 0))) [.int .u8 X3, .slice (some (H2.length, 0)) 0 0 true]) fun H6 => Zen .u8 (Zak H6 (.ptr (some (H4.length, 0 + 0)))) fun X7 => Zae pg Zle [.int .u8 X7] H6 fun V8 H9 =>
 Zen .i64 (some V8) fun X10 => Zbl a0 fun I11 O12 => Zci (Zak H9 (.ptr (some (I11, O12 + 2)))) fun B13 => bcase B13 (Zbl a0 fun I14 O15 => Zcp (Zbk H9 (.ptr (some (I14, O15 + 2))) [.bool true]) fun H16 => J4 Q a0 h.length 0 H4.length 0 X10 H16) (Zbl a0 fun I17 O18 => Zcp (Zbk H9 (.ptr (some (I17, O18 + 2))) [.bool (decide ((X10 : Int) < 0))]) fun H19 => J4 Q a0 h.length 0 H4.length 0 X10 H19)) : Zae pg Zeq [.ptr a0] h Q :=
 Zae.of_body kp (c := cod fn) (fn := fn) Go.Proofs.Tryz.func141 (by kernel_rfl) (by kernel_rfl) (Nat.le_of_ble_eq_true (by kernel_rfl))
  (cast (by kernel_rfl) ht)
end Zbi
namespace Zpa
noncomputable abbrev fn : Func := Go.Proofs.Tryz.f117
def kp : Zbz := [(4000005, [5, 2])]
noncomputable def C (p : List Nat) : Code := (cod fn).sub p
def KR (Q : QT) : KT := Zes pg fn.results.toList Q
def J5 (Q : QT) (i5 o5 i2 o2 : Nat) (h : Zaa) : Prop := Den pg fn.ntmps (C [1, 1, 1, 1]) [(5, .ptr (some (i5, o5))), (2, .ptr (some (i2, o2)))] h (KR Q)
theorem J5i (Q : QT) (i5 o5 i2 o2 : Nat) (h : Zaa) (ht :
 Zdh (Zbv h (.ptr (some (i5, o5))) 2) fun K51 => Zap K51 fun C52 Z53 => Zen .u8 (some C52) fun X54 => Zap Z53 fun C55 Z56 => xSl (some C55) fun A57 N58 C59 E60 => Zcr Z56 (Zcp (Zbk h (.ptr (some (i2, o2))) [.int .u8 X54, .slice A57 N58 C59 E60]) fun H61 => Zdh (Zbv H61 (.ptr (some (i2, o2))) 2) fun K62 => Zap K62 fun C63 Z64 => Zen .u8 (some C63) fun X65 => Zap Z64 fun C66 Z67 => xSl (some C66) fun A68 N69 C70 E71 => Zcr Z67 (Q (.tup [.agg [.int .u8 X65, .slice A68 N69 C70 E71], .bool true]) H61))) : J5 Q i5 o5 i2 o2 h :=
 Zba (kp := kp) (cast (by kernel_rfl) ht)
theorem call (x0 : List Nat) (h : Zaa) (Q : QT) (ht :
 Zdc (h ++ [.cells Zad [.int .u8 0, .slice none 0 0 true] false]) fun H0 => Zdc (H0 ++ [.cells Zdj [.str x0, .int .i64 0, .bool false] false]) fun H1 => Zae pg Zeq [.ptr (some (H0.length, 0))] H1 fun V2 H3 =>
 Zuw V2 fun K4 => Zap K4 fun C5 Z6 => Zen .u8 (some C5) fun X7 => Zap Z6 fun C8 Z9 => xSl (some C8) fun A10 N11 C12 E13 => Zcr Z9 (Zdc (H3 ++ [.cells Zad [.int .u8 0, .slice none 0 0 true] false]) fun H14 => Zcp (Zbk H14 (.ptr (some (H3.length, 0))) [.int .u8 X7, .slice A10 N11 C12 E13]) fun H15 => Zci (Zak H15 (.ptr (some (H0.length, 0 + 2)))) fun B16 => bcase B16 (Zcp (Zbk H15 (.ptr (some (h.length, 0))) [.int .u8 0, .slice none 0 0 true]) fun H17 => Zdh (Zbv H17 (.ptr (some (h.length, 0))) 2) fun K18 => Zap K18 fun C19 Z20 => Zen .u8 (some C19) fun X21 => Zap Z20 fun C22 Z23 => xSl (some C22) fun A24 N25 C26 E27 => Zcr Z23 (Q (.tup [.agg [.int .u8 X21, .slice A24 N25 C26 E27], .bool false]) H17)) (Zen .i64 (Zak H15 (.ptr (some (H0.length, 0 + 1)))) fun X28 => bcase (!((X28 : Int) == (((List.length x0 : Nat) : Int)))) (Zcp (Zbk H15 (.ptr (some (h.length, 0))) [.int .u8 0, .slice none 0 0 true]) fun H29 => Zdh (Zbv H29 (.ptr (some (h.length, 0))) 2) fun K30 => Zap K30 fun C31 Z32 => Zen .u8 (some C31) fun X33 => Zap Z32 fun C34 Z35 => xSl (some C34) fun A36 N37 C38 E39 => Zcr Z35 (Q (.tup [.agg [.int .u8 X33, .slice A36 N37 C38 E39], .bool false]) H29)) (bcase (decide (((((List.length x0 : Nat) : Int)) : Int) > 60)) (Zcp (Zbk H15 (.ptr (some (h.length, 0))) [.int .u8 0, .slice none 0 0 true]) fun H40 => Zdh (Zbv H40 (.ptr (some (h.length, 0))) 2) fun K41 => Zap K41 fun C42 Z43 => Zen .u8 (some C42) fun X44 => Zap Z43 fun C45 Z46 => xSl (some C45) fun A47 N48 C49 E50 => Zcr Z46 (Q (.tup [.agg [.int .u8 X44, .slice A47 N48 C49 E50], .bool false]) H40)) (J5 Q H3.length 0 h.length 0 H15))))) : Zae pg Zgt [.str x0] h Q :=
 Zae.of_body kp (c := cod fn) (fn := fn) Go.Proofs.Tryz.func117 (by kernel_rfl) (by kernel_rfl) (Nat.le_of_ble_eq_true (by kernel_rfl))
  (cast (by kernel_rfl) ht)
end Zpa
namespace Zpu
noncomputable abbrev fn : Func := Go.Proofs.Tryz.f82
def kp : Zbz := []
noncomputable def C (p : List Nat) : Code := (cod fn).sub p
def KR (Q : QT) : KT := Zes pg fn.results.toList Q
theorem call (x0 : List Nat) (h : Zaa) (Q : QT) (ht :
 Zae pg Zgt [.str x0] h fun V0 H1 =>
 Zva V0 fun K2 => Zap K2 fun C3 Z4 => Zuw C3 fun K5 => Zap K5 fun C6 Z7 => Zen .u8 (some C6) fun X8 => Zap Z7 fun C9 Z10 => xSl (some C9) fun A11 N12 C13 E14 => Zcr Z10 (Zap Z4 fun C15 Z16 => Zci (some C15) fun B17 => Zcr Z16 (Zdc (H1 ++ [.cells Zad [.int .u8 0, .slice none 0 0 true] false]) fun H18 => Zcp (Zbk H18 (.ptr (some (H1.length, 0))) [.int .u8 X8, .slice A11 N12 C13 E14]) fun H19 => Q (.bool B17) H19))) : Zae pg Zfg [.str x0] h Q :=
 Zae.of_body kp (c := cod fn) (fn := fn) Go.Proofs.Tryz.func82 (by kernel_rfl) (by kernel_rfl) (Nat.le_of_ble_eq_true (by kernel_rfl))
  (cast (by kernel_rfl) ht)
end Zpu
end Go.Sim

set_option maxRecDepth 100000
set_option linter.unusedVariables false
namespace Go.Sim
open Go Go.RowKit
namespace Zqa
noncomputable abbrev fn : Func := Go.Proofs.Tryz.f163
def kp : Zbz := [(4000009, [])]
noncomputable def C (p : List Nat) : Code := (cod fn).sub p
def KR (Q : QT) : KT := Zes pg fn.results.toList Q
def J9 (Q : QT) (h : Zaa) : Prop := Den pg fn.ntmps (C [1, 1]) [] h (KR Q)
theorem J9i (Q : QT) (h : Zaa) (ht :
 Q (.int .i64 (-1)) h) : J9 Q h :=
 Zba (kp := kp) (cast (by kernel_rfl) ht)
theorem call (x0 : List Nat) (h : Zaa) (Q : QT) (ht :
 bcase (!((((List.length x0 : Nat) : Int) : Int) == 1)) (Q (.int .i64 (-1)) h) (Zae pg Zfx [.str ([105, 98, 117, 120, 121, 122, 88, 89, 90]), .str x0] h fun V0 H1 =>
 Zci (some V0) fun B2 => bcase B2 (Q (.int .i64 0) H1) (bcase (decide (x0 = [108])) (Q (.int .i64 1) H1) (bcase (decide (x0 = [109])) (Q (.int .i64 1) H1) (bcase (decide (x0 = [112])) (Q (.int .i64 2) H1) (J9 Q H1)))))) : Zae pg Zng [.str x0] h Q :=
 Zae.of_body kp (c := cod fn) (fn := fn) Go.Proofs.Tryz.func163 (by kernel_rfl) (by kernel_rfl) (Nat.le_of_ble_eq_true (by kernel_rfl))
  (cast (by kernel_rfl) ht)
end Zqa
namespace Zeo
noncomputable abbrev fn : Func := Go.Proofs.Tryz.f150
def kp : Zbz := [(4000003, [0]), (3000006, [4, 0, 2, 3]), (1000006, [0, 4, 27, 28]), (4000020, [4, 0])]
noncomputable def C (p : List Nat) : Code := (cod fn).sub p
def KR (Q : QT) : KT := Zes pg fn.results.toList Q
abbrev T6 := List Nat → Nat → Nat → Int → Int → Zaa → Prop
def E6 (R6 : T6) (env : Env) (h : Zaa) : Prop := Zbs 0 env fun v env => Zbo (some v) fun x0 => Zbs 4 env fun v env => Zii (some v) fun a => Zbl a fun i4 o4 => Zbs 27 env fun v env => Zee .i64 v fun x27 => Zbs 28 env fun v env => Zee .i64 v fun x28 => Zje env (R6 x0 i4 o4 x27 x28 h)
theorem Znh {R6 : T6} {env : Env} {h : Zaa} (hi : E6 R6 env h) : ∃ x0, ∃ i4, ∃ o4, ∃ x27, ∃ x28, env = [(0, .str x0), (4, .ptr (some (i4, o4))), (27, .int .i64 x27), (28, .int .i64 x28)] ∧ R6 x0 i4 o4 x27 x28 h := by
 unfold E6 at hi
 have hi0 := hi
 clear hi
 obtain ⟨_, _, rfl, hi1⟩ := Zab hi0
 obtain ⟨x0, rfl, hi2⟩ := Zel hi1
 obtain ⟨_, _, rfl, hi3⟩ := Zab hi2
 obtain ⟨a, rfl, hi4⟩ := Zbw hi3
 obtain ⟨i4, o4, rfl, hi5⟩ := Zbp hi4
 obtain ⟨_, _, rfl, hi6⟩ := Zab hi5
 obtain ⟨x27, rfl, hi7⟩ := Zao hi6
 obtain ⟨_, _, rfl, hi8⟩ := Zab hi7
 obtain ⟨x28, rfl, hi9⟩ := Zao hi8
 obtain ⟨rfl, hi10⟩ := Zbg hi9
 have hi := hi10
 exact ⟨x0, i4, o4, x27, x28, rfl, hi⟩
def K0 (Q : QT) : KT := andThen (fun env' h' => (match kp.find 4000016 with | some ks => Den pg fn.ntmps (C [1, 1, 1, 1, 1]) (env'.keep ks) h' (KR Q) | none => den pg fn.ntmps kp (C [1, 1, 1, 1, 1]) env' h' (KR Q))) (KR Q)
def K1 (Q : QT) : KT := Zck 0 (K0 Q)
def K2 (Q : QT) : KT := left kp 6 (K1 Q)
def K3 (Q : QT) (R6 : T6) : KT := rnd ((kp.find 1000006).getD []) (E6 R6) (K2 Q)
def J3 (Q : QT) (x0 : List Nat) (h : Zaa) : Prop := Den pg fn.ntmps (C [1, 1]) [(0, .str x0)] h (KR Q)
def L6 (Q : QT) (x0 : List Nat) (i4 o4 : Nat) (x27 x28 : Int) (h : Zaa) : Prop := Zec (Den pg fn.ntmps (C [1, 1, 1, 1, 0, 1, 0, 0])) ((kp.find 1000006).getD []) (K2 Q) [(0, .str x0), (4, .ptr (some (i4, o4))), (27, .int .i64 x27), (28, .int .i64 x28)] h
def Ygk (Q : QT) (i4 o4 : Nat) (x0 : List Nat) (h : Zaa) : Prop := At (K1 Q) (.exit 0) [(4, .ptr (some (i4, o4))), (0, .str x0), (2, .undef), (3, .undef)] h
def J20 (Q : QT) (i4 o4 : Nat) (x0 : List Nat) (h : Zaa) : Prop := Den pg fn.ntmps (C [1, 1, 1, 1, 1, 1]) [(4, .ptr (some (i4, o4))), (0, .str x0)] h (KR Q)
theorem J3i (Q : QT) (x0 : List Nat) (h : Zaa) (ht :
 (0 ≤ (0 : Int) ∧ (0 : Int) ≤ 1 ∧ (1 : Int) ≤ (List.length x0 : Nat)) ∧ (Zdc (h ++ [.cells Zew [.str (sub x0 0 1), .slice none 0 0 true, .ptr none] false]) fun H3 => (0 ≤ (1 : Int) ∧ (1 : Int) ≤ (List.length x0 : Int) ∧ ((List.length x0 : Int) : Int) ≤ (List.length x0 : Nat)) ∧ (Zbo (Zak H3 (.ptr (some (h.length, 0 + 0)))) fun S4 => Zae pg Zng [.str S4] H3 fun V5 H6 =>
 Zen .i64 (some V5) fun X7 => L6 Q (sub x0 1 ((List.length x0 : Int))) h.length 0 X7 0 H6))) : J3 Q x0 h :=
 Zba (kp := kp) (cast (by kernel_rfl) ht)
def L6t (Q : QT) (R6 : T6) (x0 : List Nat) (i4 o4 : Nat) (x27 x28 : Int) (h : Zaa) : Prop :=
 bcase (decide ((x28 : Int) < x27)) ((0 ≤ (x28 : Int) ∧ (x28 : Int) ≤ IntKind.wrap .i64 (x28 + 1) ∧ (IntKind.wrap .i64 (x28 + 1) : Int) ≤ (List.length ([40, 44]) : Nat)) ∧ (Zae pg Zjm [.str x0, .str (sub ([40, 44]) x28 (IntKind.wrap .i64 (x28 + 1)))] h fun V8 H9 =>
 Zci (some V8) fun B10 => bcase (!B10) (Q (.tup [.ptr none, .str x0]) H9) ((0 ≤ (1 : Int) ∧ (1 : Int) ≤ (List.length x0 : Int) ∧ ((List.length x0 : Int) : Int) ≤ (List.length x0 : Nat)) ∧ (Zae pg Zkg [.str (sub x0 1 ((List.length x0 : Int)))] H9 fun V11 H12 =>
 Zva V11 fun K13 => Zap K13 fun C14 Z15 => Zii (some C14) fun A16 => Zap Z15 fun C17 Z18 => Zbo (some C17) fun S19 => Zcr Z18 (bcase (Option.isNone A16) (Q (.tup [.ptr none, .str x0]) H12) (xSl (Zak H12 (.ptr (some (i4, o4 + 1)))) fun A20 N21 C22 E23 => Zdc (H12 ++ [.cells Zfm [.ptr A16] false]) fun H24 => Zdd pg Zqf H24 (.slice A20 N21 C22 E23) (.slice (some (H12.length, 0)) 1 1 true) fun V25 H26 => xSl (some V25) fun A27 N28 C29 E30 => Zcp (Zbk H26 (.ptr (some (i4, o4 + 1))) [.slice A27 N28 C29 E30]) fun H31 => R6 S19 i4 o4 x27 (IntKind.wrap .i64 (x28 + 1)) H31)))))) (Ygk Q i4 o4 x0 h)
theorem Yaj (Q : QT) (R6 : T6) (x0 : List Nat) (i4 o4 : Nat) (x27 x28 : Int) (h : Zaa) (ht : L6t Q R6 x0 i4 o4 x27 x28 h) : Den pg fn.ntmps (C [1, 1, 1, 1, 0, 1, 0, 0]) [(0, .str x0), (4, .ptr (some (i4, o4))), (27, .int .i64 x27), (28, .int .i64 x28)] h (K3 Q R6) :=
 Zba (kp := kp) (cast (by kernel_rfl) ht)
theorem L6ind (Q : QT) (i4 o4 : Nat) (x27 : Int) {G : Type} (J : G → List Nat → Int → Zaa → Prop) (m : G → Nat)
 (hr : ∀ (g : G) (x0 : List Nat) (x28 : Int) (h : Zaa), J g x0 x28 h → ∀ (R6 : T6), (∀ g' (x0 : List Nat) (x28 : Int) (h : Zaa), m g' < m g → J g' x0 x28 h → R6 x0 i4 o4 x27 x28 h) → L6t Q R6 x0 i4 o4 x27 x28 h)
 (g : G) (x0 : List Nat) (x28 : Int) (h : Zaa) (hj : J g x0 x28 h) : L6 Q x0 i4 o4 x27 x28 h := by
 refine Zec.inv2 (fun g => E6 fun x0 i4' o4' x27' x28 h => i4 = i4' ∧ o4 = o4' ∧ x27 = x27' ∧ J g x0 x28 h) (fun g => E6 fun x0 i4' o4' x27' x28 h => i4 = i4' ∧ o4 = o4' ∧ x27 = x27' ∧ ∃ g', m g' < m g ∧ J g' x0 x28 h) m ?_ ?_ g ⟨rfl, rfl, rfl, hj⟩
 ·intro g env h hi
  obtain ⟨x0, i4', o4', x27', x28, rfl, rfl, rfl, rfl, hj⟩ := Znh hi
  exact Yaj Q _ x0 i4 o4 x27 x28 h (hr g x0 x28 h hj (fun x0 i4' o4' x27' x28 h => i4 = i4' ∧ o4 = o4' ∧ x27 = x27' ∧ ∃ g', m g' < m g ∧ J g' x0 x28 h) fun g' x0 x28 h hlt hj => ⟨rfl, rfl, rfl, g', hlt, hj⟩)
 ·intro g env h hi
  obtain ⟨x0, i4', o4', x27', x28, rfl, rfl, rfl, rfl, g', hlt, hj⟩ := Znh hi
  exact ⟨g', hlt, rfl, rfl, rfl, hj⟩
theorem A6x0i (Q : QT) (i4 o4 : Nat) (x0 : List Nat) (h : Zaa) (ht :
 xSl (Zak h (.ptr (some (i4, o4 + 1)))) fun A32 N33 C34 E35 => bcase (decide (((((N33 : Nat) : Int)) : Int) > 0)) (Zae pg Zjm [.str x0, .str [41]] h fun V36 H37 =>
 Zci (some V36) fun B38 => bcase (!B38) (Q (.tup [.ptr none, .str x0]) H37) ((0 ≤ (1 : Int) ∧ (1 : Int) ≤ (List.length x0 : Int) ∧ ((List.length x0 : Int) : Int) ≤ (List.length x0 : Nat)) ∧ (J20 Q i4 o4 (sub x0 1 ((List.length x0 : Int))) H37))) (J20 Q i4 o4 x0 h)) : Ygk Q i4 o4 x0 h :=
 At.mk (cast (by kernel_rfl) ht)
theorem J20i (Q : QT) (i4 o4 : Nat) (x0 : List Nat) (h : Zaa) (ht :
 Q (.tup [.ptr (some (i4, o4)), .str x0]) h) : J20 Q i4 o4 x0 h :=
 Zba (kp := kp) (cast (by kernel_rfl) ht)
theorem call (x0 : List Nat) (h : Zaa) (Q : QT) (ht :
 bcase (decide (x0 = [])) (Q (.tup [.ptr none, .str x0]) h) ((0 ≤ (0 : Int) ∧ (0 : Int) ≤ 1 ∧ (1 : Int) ≤ (List.length x0 : Nat)) ∧ (Zae pg Zng [.str (sub x0 0 1)] h fun V0 H1 =>
 Zen .i64 (some V0) fun X2 => bcase (decide ((X2 : Int) < 0)) (Q (.tup [.ptr none, .str x0]) H1) (J3 Q x0 H1)))) : Zae pg Zkg [.str x0] h Q :=
 Zae.of_body kp (c := cod fn) (fn := fn) Go.Proofs.Tryz.func150 (by kernel_rfl) (by kernel_rfl) (Nat.le_of_ble_eq_true (by kernel_rfl))
  (cast (by kernel_rfl) ht)
end Zeo
namespace Zsl
noncomputable abbrev fn : Func := Go.Proofs.Tryz.f123
def kp : Zbz := []
noncomputable def C (p : List Nat) : Code := (cod fn).sub p
def KR (Q : QT) : KT := Zes pg fn.results.toList Q
theorem call (x0 : List Nat) (h : Zaa) (Q : QT) (ht :
 bcase (decide (((((List.length x0 : Nat) : Int)) : Int) > 60)) (Q (.ptr none) h) (Zae pg Zkg [.str x0] h fun V0 H1 =>
 Zva V0 fun K2 => Zap K2 fun C3 Z4 => Zii (some C3) fun A5 => Zap Z4 fun C6 Z7 => Zbo (some C6) fun S8 => Zcr Z7 (bcase (!(decide (S8 = []))) (Q (.ptr none) H1) (Q (.ptr A5) H1)))) : Zae pg Zkf [.str x0] h Q :=
 Zae.of_body kp (c := cod fn) (fn := fn) Go.Proofs.Tryz.func123 (by kernel_rfl) (by kernel_rfl) (Nat.le_of_ble_eq_true (by kernel_rfl))
  (cast (by kernel_rfl) ht)
end Zsl
namespace Zps
noncomputable abbrev fn : Func := Go.Proofs.Tryz.f89
def kp : Zbz := []
noncomputable def C (p : List Nat) : Code := (cod fn).sub p
def KR (Q : QT) : KT := Zes pg fn.results.toList Q
theorem call (x0 : List Nat) (h : Zaa) (Q : QT) (ht :
 Zae pg Zkf [.str x0] h fun V0 H1 =>
 Zii (some V0) fun A2 => Q (.bool (!(Option.isNone A2))) H1) : Zae pg Zft [.str x0] h Q :=
 Zae.of_body kp (c := cod fn) (fn := fn) Go.Proofs.Tryz.func89 (by kernel_rfl) (by kernel_rfl) (Nat.le_of_ble_eq_true (by kernel_rfl))
  (cast (by kernel_rfl) ht)
end Zps
end Go.Sim

set_option maxRecDepth 100000
set_option linter.unusedVariables false
namespace Go.Sim
open Go Go.RowKit
namespace Zgp
noncomputable abbrev fn : Func := Go.Proofs.Tryz.f83
def kp : Zbz := [(3000006, [0, 3]), (1000006, [0, 3])]
noncomputable def C (p : List Nat) : Code := (cod fn).sub p
def KR (Q : QT) : KT := Zes pg fn.results.toList Q
abbrev T6 := Int → List Nat → Zaa → Prop
def E6 (R6 : T6) (env : Env) (h : Zaa) : Prop := Zbs 0 env fun v env => Zee .i64 v fun x0 => Zbs 3 env fun v env => Zbo (some v) fun x3 => Zje env (R6 x0 x3 h)
theorem Znh {R6 : T6} {env : Env} {h : Zaa} (hi : E6 R6 env h) : ∃ x0, ∃ x3, env = [(0, .int .i64 x0), (3, .str x3)] ∧ R6 x0 x3 h := by
 unfold E6 at hi
 have hi0 := hi
 clear hi
 obtain ⟨_, _, rfl, hi1⟩ := Zab hi0
 obtain ⟨x0, rfl, hi2⟩ := Zao hi1
 obtain ⟨_, _, rfl, hi3⟩ := Zab hi2
 obtain ⟨x3, rfl, hi4⟩ := Zel hi3
 obtain ⟨rfl, hi5⟩ := Zbg hi4
 have hi := hi5
 exact ⟨x0, x3, rfl, hi⟩
def K0 (Q : QT) : KT := andThen (fun env' h' => (match kp.find 4000009 with | some ks => Den pg fn.ntmps (C [1, 1, 1, 1, 1]) (env'.keep ks) h' (KR Q) | none => den pg fn.ntmps kp (C [1, 1, 1, 1, 1]) env' h' (KR Q))) (KR Q)
def K1 (Q : QT) : KT := Zck 0 (K0 Q)
def K2 (Q : QT) : KT := left kp 6 (K1 Q)
def K3 (Q : QT) (R6 : T6) : KT := rnd ((kp.find 1000006).getD []) (E6 R6) (K2 Q)
def L6 (Q : QT) (x0 : Int) (x3 : List Nat) (h : Zaa) : Prop := Zec (Den pg fn.ntmps (C [1, 1, 1, 1, 0, 0, 0])) ((kp.find 1000006).getD []) (K2 Q) [(0, .int .i64 x0), (3, .str x3)] h
def Ygk (Q : QT) (x0 : Int) (x3 : List Nat) (h : Zaa) : Prop := At (K1 Q) (.exit 0) [(0, .int .i64 x0), (3, .str x3)] h
def L6t (Q : QT) (R6 : T6) (x0 : Int) (x3 : List Nat) (h : Zaa) : Prop :=
 bcase (decide ((x0 : Int) > 9)) ((10 : Int) ≠ 0 ∧ (Zdc (h ++ [.cells Zxc [.int .u8 (IntKind.wrap .u8 (IntKind.wrap .i64 (48 + (Int.tmod x0 10))))] false]) fun H3 => Zdh (rowOf H3 (some (h.length, 0)) 1) fun K4 => Zll K4 fun S5 => List.length S5 + List.length x3 ≤ 9223372036854775807 ∧ ((10 : Int) ≠ 0 ∧ (R6 (IntKind.wrap .i64 (Int.tdiv x0 10)) (S5 ++ x3) H3)))) (Ygk Q x0 x3 h)
theorem Yaj (Q : QT) (R6 : T6) (x0 : Int) (x3 : List Nat) (h : Zaa) (ht : L6t Q R6 x0 x3 h) : Den pg fn.ntmps (C [1, 1, 1, 1, 0, 0, 0]) [(0, .int .i64 x0), (3, .str x3)] h (K3 Q R6) :=
 Zba (kp := kp) (cast (by kernel_rfl) ht)
theorem L6ind (Q : QT) {G : Type} (J : G → Int → List Nat → Zaa → Prop) (m : G → Nat)
 (hr : ∀ (g : G) (x0 : Int) (x3 : List Nat) (h : Zaa), J g x0 x3 h → ∀ (R6 : T6), (∀ g' (x0 : Int) (x3 : List Nat) (h : Zaa), m g' < m g → J g' x0 x3 h → R6 x0 x3 h) → L6t Q R6 x0 x3 h)
 (g : G) (x0 : Int) (x3 : List Nat) (h : Zaa) (hj : J g x0 x3 h) : L6 Q x0 x3 h := by
 refine Zec.inv2 (fun g => E6 fun x0 x3 h => J g x0 x3 h) (fun g => E6 fun x0 x3 h => ∃ g', m g' < m g ∧ J g' x0 x3 h) m ?_ ?_ g hj
 ·intro g env h hi
  obtain ⟨x0, x3, rfl, hj⟩ := Znh hi
  exact Yaj Q _ x0 x3 h (hr g x0 x3 h hj (fun x0 x3 h => ∃ g', m g' < m g ∧ J g' x0 x3 h) fun g' x0 x3 h hlt hj => ⟨g', hlt, hj⟩)
 ·intro g env h hi
  obtain ⟨x0, x3, rfl, g', hlt, hj⟩ := Znh hi
  exact ⟨g', hlt, hj⟩
theorem A6x0i (Q : QT) (x0 : Int) (x3 : List Nat) (h : Zaa) (ht :
 Zdc (h ++ [.cells Zxc [.int .u8 (IntKind.wrap .u8 (IntKind.wrap .i64 (48 + x0)))] false]) fun H6 => Zdh (rowOf H6 (some (h.length, 0)) 1) fun K7 => Zll K7 fun S8 => List.length S8 + List.length x3 ≤ 9223372036854775807 ∧ (Q (.str (S8 ++ x3)) H6)) : Ygk Q x0 x3 h :=
 At.mk (cast (by kernel_rfl) ht)
theorem call (x0 : Int) (h : Zaa) (Q : QT) (ht :
 bcase (decide ((x0 : Int) < (-9223372036854775807))) (Q (.str ([45, 57, 50, 50, 51, 51, 55, 50, 48, 51, 54, 56, 53, 52, 55, 55, 53, 56, 48, 56])) h) (bcase (decide ((x0 : Int) < 0)) (Zae pg Zka [.int .i64 (IntKind.wrap .i64 (0 - x0))] h fun V0 H1 =>
 Zbo (some V0) fun S2 => List.length [45] + List.length S2 ≤ 9223372036854775807 ∧ (Q (.str ([45] ++ S2)) H1)) (L6 Q x0 [] h))) : Zae pg Zka [.int .i64 x0] h Q :=
 Zae.of_body kp (c := cod fn) (fn := fn) Go.Proofs.Tryz.func83 (by kernel_rfl) (by kernel_rfl) (Nat.le_of_ble_eq_true (by kernel_rfl))
  (cast (by kernel_rfl) ht)
end Zgp
namespace Zjw
noncomputable abbrev fn : Func := Go.Proofs.Tryz.f20
def kp : Zbz := [(3000004, [4]), (1000004, [0, 1, 5]), (2000006, [25, 5, 0, 1])]
noncomputable def C (p : List Nat) : Code := (cod fn).sub p
def KR (Q : QT) : KT := Zes pg fn.results.toList Q
abbrev T4 := Pt → Nat → Nat → Bool → Pt → Nat → Nat → Bool → Int → Zaa → Prop
def E4 (R4 : T4) (env : Env) (h : Zaa) : Prop := Zbs 0 env fun v env => xSl (some v) fun a0 n0 c0 e0 => Zbs 1 env fun v env => xSl (some v) fun a1 n1 c1 e1 => Zbs 5 env fun v env => Zee .i64 v fun x5 => Zje env (R4 a0 n0 c0 e0 a1 n1 c1 e1 x5 h)
theorem Zhp {R4 : T4} {env : Env} {h : Zaa} (hi : E4 R4 env h) : ∃ a0, ∃ n0, ∃ c0, ∃ e0, ∃ a1, ∃ n1, ∃ c1, ∃ e1, ∃ x5, env = [(0, .slice a0 n0 c0 e0), (1, .slice a1 n1 c1 e1), (5, .int .i64 x5)] ∧ R4 a0 n0 c0 e0 a1 n1 c1 e1 x5 h := by
 unfold E4 at hi
 have hi0 := hi
 clear hi
 obtain ⟨_, _, rfl, hi1⟩ := Zab hi0
 obtain ⟨a0, n0, c0, e0, rfl, hi2⟩ := Zbf hi1
 obtain ⟨_, _, rfl, hi3⟩ := Zab hi2
 obtain ⟨a1, n1, c1, e1, rfl, hi4⟩ := Zbf hi3
 obtain ⟨_, _, rfl, hi5⟩ := Zab hi4
 obtain ⟨x5, rfl, hi6⟩ := Zao hi5
 obtain ⟨rfl, hi7⟩ := Zbg hi6
 have hi := hi7
 exact ⟨a0, n0, c0, e0, a1, n1, c1, e1, x5, rfl, hi⟩
def K0 (Q : QT) : KT := andThen (fun env' h' => (match kp.find 4000008 with | some ks => Den pg fn.ntmps (C [1, 1, 1]) (env'.keep ks) h' (KR Q) | none => den pg fn.ntmps kp (C [1, 1, 1]) env' h' (KR Q))) (KR Q)
def K1 (Q : QT) : KT := Zck 0 (K0 Q)
def K2 (Q : QT) : KT := left kp 4 (K1 Q)
def K3 (Q : QT) (R4 : T4) : KT := rnd ((kp.find 1000004).getD []) (E4 R4) (K2 Q)
def L4 (Q : QT) (a0 : Pt) (n0 c0 : Nat) (e0 : Bool) (a1 : Pt) (n1 c1 : Nat) (e1 : Bool) (x5 : Int) (h : Zaa) : Prop := Zec (Den pg fn.ntmps (C [1, 1, 0, 1, 0, 0])) ((kp.find 1000004).getD []) (K2 Q) [(0, .slice a0 n0 c0 e0), (1, .slice a1 n1 c1 e1), (5, .int .i64 x5)] h
def Zwn (Q : QT) (h : Zaa) : Prop := At (K1 Q) (.exit 0) [(4, .undef)] h
def L4t (Q : QT) (R4 : T4) (a0 : Pt) (n0 c0 : Nat) (e0 : Bool) (a1 : Pt) (n1 c1 : Nat) (e1 : Bool) (x5 : Int) (h : Zaa) : Prop :=
 bcase (decide ((x5 : Int) < (((n0 : Nat) : Int)))) ((0 ≤ (x5 : Int) ∧ (x5 : Int) < (n0 : Nat)) ∧ (Zbl a0 fun I0 O1 => (0 ≤ (x5 : Int) ∧ (x5 : Int) < (n1 : Nat)) ∧ (Zbl a1 fun I2 O3 => Zen .i64 (Zak h (.ptr (some (I0, O1 + (Int.toNat x5) * 1)))) fun X4 => Zen .i64 (Zak h (.ptr (some (I2, O3 + (Int.toNat x5) * 1)))) fun X5 => (Zak h (.ptr (some (I0, O1 + (Int.toNat x5) * 1))) = Zak h (.ptr (some (I0, O1 + (Int.toNat x5) * 1)))) ∧ bcase (!((X4 : Int) == X5)) (Q (.bool false) h) (R4 a0 n0 c0 e0 a1 n1 c1 e1 (IntKind.wrap .i64 (x5 + 1)) h)))) (Zwn Q h)
theorem Zsc (Q : QT) (R4 : T4) (a0 : Pt) (n0 c0 : Nat) (e0 : Bool) (a1 : Pt) (n1 c1 : Nat) (e1 : Bool) (x5 : Int) (h : Zaa) (ht : L4t Q R4 a0 n0 c0 e0 a1 n1 c1 e1 x5 h) : Den pg fn.ntmps (C [1, 1, 0, 1, 0, 0]) [(0, .slice a0 n0 c0 e0), (1, .slice a1 n1 c1 e1), (5, .int .i64 x5)] h (K3 Q R4) :=
 Zba (kp := kp) (cast (by kernel_rfl) ht)
theorem L4ind (Q : QT) (a0 : Pt) (n0 c0 : Nat) (e0 : Bool) (a1 : Pt) (n1 c1 : Nat) (e1 : Bool) {G : Type} (J : G → Int → Zaa → Prop) (m : G → Nat)
 (hr : ∀ (g : G) (x5 : Int) (h : Zaa), J g x5 h → ∀ (R4 : T4), (∀ g' (x5 : Int) (h : Zaa), m g' < m g → J g' x5 h → R4 a0 n0 c0 e0 a1 n1 c1 e1 x5 h) → L4t Q R4 a0 n0 c0 e0 a1 n1 c1 e1 x5 h)
 (g : G) (x5 : Int) (h : Zaa) (hj : J g x5 h) : L4 Q a0 n0 c0 e0 a1 n1 c1 e1 x5 h := by
 refine Zec.inv2 (fun g => E4 fun a0' n0' c0' e0' a1' n1' c1' e1' x5 h => a0 = a0' ∧ n0 = n0' ∧ c0 = c0' ∧ e0 = e0' ∧ a1 = a1' ∧ n1 = n1' ∧ c1 = c1' ∧ e1 = e1' ∧ J g x5 h) (fun g => E4 fun a0' n0' c0' e0' a1' n1' c1' e1' x5 h => a0 = a0' ∧ n0 = n0' ∧ c0 = c0' ∧ e0 = e0' ∧ a1 = a1' ∧ n1 = n1' ∧ c1 = c1' ∧ e1 = e1' ∧ ∃ g', m g' < m g ∧ J g' x5 h) m ?_ ?_ g ⟨rfl, rfl, rfl, rfl, rfl, rfl, rfl, rfl, hj⟩
 ·intro g env h hi
  obtain ⟨a0', n0', c0', e0', a1', n1', c1', e1', x5, rfl, rfl, rfl, rfl, rfl, rfl, rfl, rfl, rfl, hj⟩ := Zhp hi
  exact Zsc Q _ a0 n0 c0 e0 a1 n1 c1 e1 x5 h (hr g x5 h hj (fun a0' n0' c0' e0' a1' n1' c1' e1' x5 h => a0 = a0' ∧ n0 = n0' ∧ c0 = c0' ∧ e0 = e0' ∧ a1 = a1' ∧ n1 = n1' ∧ c1 = c1' ∧ e1 = e1' ∧ ∃ g', m g' < m g ∧ J g' x5 h) fun g' x5 h hlt hj => ⟨rfl, rfl, rfl, rfl, rfl, rfl, rfl, rfl, g', hlt, hj⟩)
 ·intro g env h hi
  obtain ⟨a0', n0', c0', e0', a1', n1', c1', e1', x5, rfl, rfl, rfl, rfl, rfl, rfl, rfl, rfl, rfl, g', hlt, hj⟩ := Zhp hi
  exact ⟨g', hlt, rfl, rfl, rfl, rfl, rfl, rfl, rfl, rfl, hj⟩
theorem A4x0i (Q : QT) (h : Zaa) (ht :
 Q (.bool true) h) : Zwn Q h :=
 At.mk (cast (by kernel_rfl) ht)
theorem call (a0 : Pt) (n0 c0 : Nat) (e0 : Bool) (a1 : Pt) (n1 c1 : Nat) (e1 : Bool) (h : Zaa) (Q : QT) (ht :
 bcase (!((((n0 : Nat) : Int) : Int) == (((n1 : Nat) : Int)))) (Q (.bool false) h) (L4 Q a0 n0 c0 e0 a1 n1 c1 e1 0 h)) : Zae pg Zif [.slice a0 n0 c0 e0, .slice a1 n1 c1 e1] h Q :=
 Zae.of_body kp (c := cod fn) (fn := fn) Go.Proofs.Tryz.func20 (by kernel_rfl) (by kernel_rfl) (Nat.le_of_ble_eq_true (by kernel_rfl))
  (cast (by kernel_rfl) ht)
end Zjw
end Go.Sim

set_option maxRecDepth 100000
set_option linter.unusedVariables false
namespace Go.Sim
open Go Go.RowKit
namespace Zhx
noncomputable abbrev fn : Func := Go.Proofs.Tryz.f73
def kp : Zbz := [(3000004, [3]), (1000004, [0, 3])]
noncomputable def C (p : List Nat) : Code := (cod fn).sub p
def KR (Q : QT) : KT := Zes pg fn.results.toList Q
abbrev T4 := Int → List Nat → Zaa → Prop
def E4 (R4 : T4) (env : Env) (h : Zaa) : Prop := Zbs 0 env fun v env => Zee .i64 v fun x0 => Zbs 3 env fun v env => Zbo (some v) fun x3 => Zje env (R4 x0 x3 h)
theorem Zhp {R4 : T4} {env : Env} {h : Zaa} (hi : E4 R4 env h) : ∃ x0, ∃ x3, env = [(0, .int .i64 x0), (3, .str x3)] ∧ R4 x0 x3 h := by
 unfold E4 at hi
 have hi0 := hi
 clear hi
 obtain ⟨_, _, rfl, hi1⟩ := Zab hi0
 obtain ⟨x0, rfl, hi2⟩ := Zao hi1
 obtain ⟨_, _, rfl, hi3⟩ := Zab hi2
 obtain ⟨x3, rfl, hi4⟩ := Zel hi3
 obtain ⟨rfl, hi5⟩ := Zbg hi4
 have hi := hi5
 exact ⟨x0, x3, rfl, hi⟩
def K0 (Q : QT) : KT := andThen (fun env' h' => (match kp.find 4000007 with | some ks => Den pg fn.ntmps (C [1, 1, 1, 1]) (env'.keep ks) h' (KR Q) | none => den pg fn.ntmps kp (C [1, 1, 1, 1]) env' h' (KR Q))) (KR Q)
def K1 (Q : QT) : KT := Zck 0 (K0 Q)
def K2 (Q : QT) : KT := left kp 4 (K1 Q)
def K3 (Q : QT) (R4 : T4) : KT := rnd ((kp.find 1000004).getD []) (E4 R4) (K2 Q)
def L4 (Q : QT) (x0 : Int) (x3 : List Nat) (h : Zaa) : Prop := Zec (Den pg fn.ntmps (C [1, 1, 1, 0, 0, 0])) ((kp.find 1000004).getD []) (K2 Q) [(0, .int .i64 x0), (3, .str x3)] h
def Zwn (Q : QT) (x3 : List Nat) (h : Zaa) : Prop := At (K1 Q) (.exit 0) [(3, .str x3)] h
def L4t (Q : QT) (R4 : T4) (x0 : Int) (x3 : List Nat) (h : Zaa) : Prop :=
 bcase (decide ((x0 : Int) > 0)) ((10 : Int) ≠ 0 ∧ (Zdc (h ++ [.cells Zxc [.int .u8 (IntKind.wrap .u8 (IntKind.wrap .i64 (48 + (Int.tmod x0 10))))] false]) fun H0 => Zdh (rowOf H0 (some (h.length, 0)) 1) fun K1 => Zll K1 fun S2 => List.length S2 + List.length x3 ≤ 9223372036854775807 ∧ ((10 : Int) ≠ 0 ∧ (R4 (IntKind.wrap .i64 (Int.tdiv x0 10)) (S2 ++ x3) H0)))) (Zwn Q x3 h)
theorem Zsc (Q : QT) (R4 : T4) (x0 : Int) (x3 : List Nat) (h : Zaa) (ht : L4t Q R4 x0 x3 h) : Den pg fn.ntmps (C [1, 1, 1, 0, 0, 0]) [(0, .int .i64 x0), (3, .str x3)] h (K3 Q R4) :=
 Zba (kp := kp) (cast (by kernel_rfl) ht)
theorem L4ind (Q : QT) {G : Type} (J : G → Int → List Nat → Zaa → Prop) (m : G → Nat)
 (hr : ∀ (g : G) (x0 : Int) (x3 : List Nat) (h : Zaa), J g x0 x3 h → ∀ (R4 : T4), (∀ g' (x0 : Int) (x3 : List Nat) (h : Zaa), m g' < m g → J g' x0 x3 h → R4 x0 x3 h) → L4t Q R4 x0 x3 h)
 (g : G) (x0 : Int) (x3 : List Nat) (h : Zaa) (hj : J g x0 x3 h) : L4 Q x0 x3 h := by
 refine Zec.inv2 (fun g => E4 fun x0 x3 h => J g x0 x3 h) (fun g => E4 fun x0 x3 h => ∃ g', m g' < m g ∧ J g' x0 x3 h) m ?_ ?_ g hj
 ·intro g env h hi
  obtain ⟨x0, x3, rfl, hj⟩ := Zhp hi
  exact Zsc Q _ x0 x3 h (hr g x0 x3 h hj (fun x0 x3 h => ∃ g', m g' < m g ∧ J g' x0 x3 h) fun g' x0 x3 h hlt hj => ⟨g', hlt, hj⟩)
 ·intro g env h hi
  obtain ⟨x0, x3, rfl, g', hlt, hj⟩ := Zhp hi
  exact ⟨g', hlt, hj⟩
theorem A4x0i (Q : QT) (x3 : List Nat) (h : Zaa) (ht :
 List.length [109] + List.length x3 ≤ 9223372036854775807 ∧ (Q (.str ([109] ++ x3)) h)) : Zwn Q x3 h :=
 At.mk (cast (by kernel_rfl) ht)
theorem call (x0 : Int) (h : Zaa) (Q : QT) (ht :
 bcase (decide ((x0 : Int) ≤ 0)) (Q (.str ([109, 48])) h) (L4 Q x0 [] h)) : Zae pg Zfa [.int .i64 x0] h Q :=
 Zae.of_body kp (c := cod fn) (fn := fn) Go.Proofs.Tryz.func73 (by kernel_rfl) (by kernel_rfl) (Nat.le_of_ble_eq_true (by kernel_rfl))
  (cast (by kernel_rfl) ht)
end Zhx
end Go.Sim

set_option maxRecDepth 100000
set_option linter.unusedVariables false
namespace Go.Sim
open Go Go.RowKit
namespace Ziz
noncomputable abbrev fn : Func := Go.Proofs.Tryz.f87
def kp : Zbz := [(3000003, [3]), (1000003, [0, 3, 4])]
noncomputable def C (p : List Nat) : Code := (cod fn).sub p
def KR (Q : QT) : KT := Zes pg fn.results.toList Q
abbrev T3 := Pt → Nat → Nat → Bool → Pt → Nat → Nat → Bool → Int → Zaa → Prop
def E3 (R3 : T3) (env : Env) (h : Zaa) : Prop := Zbs 0 env fun v env => xSl (some v) fun a0 n0 c0 e0 => Zbs 3 env fun v env => xSl (some v) fun a3 n3 c3 e3 => Zbs 4 env fun v env => Zee .i64 v fun x4 => Zje env (R3 a0 n0 c0 e0 a3 n3 c3 e3 x4 h)
theorem Zdw {R3 : T3} {env : Env} {h : Zaa} (hi : E3 R3 env h) : ∃ a0, ∃ n0, ∃ c0, ∃ e0, ∃ a3, ∃ n3, ∃ c3, ∃ e3, ∃ x4, env = [(0, .slice a0 n0 c0 e0), (3, .slice a3 n3 c3 e3), (4, .int .i64 x4)] ∧ R3 a0 n0 c0 e0 a3 n3 c3 e3 x4 h := by
 unfold E3 at hi
 have hi0 := hi
 clear hi
 obtain ⟨_, _, rfl, hi1⟩ := Zab hi0
 obtain ⟨a0, n0, c0, e0, rfl, hi2⟩ := Zbf hi1
 obtain ⟨_, _, rfl, hi3⟩ := Zab hi2
 obtain ⟨a3, n3, c3, e3, rfl, hi4⟩ := Zbf hi3
 obtain ⟨_, _, rfl, hi5⟩ := Zab hi4
 obtain ⟨x4, rfl, hi6⟩ := Zao hi5
 obtain ⟨rfl, hi7⟩ := Zbg hi6
 have hi := hi7
 exact ⟨a0, n0, c0, e0, a3, n3, c3, e3, x4, rfl, hi⟩
def K0 (Q : QT) : KT := andThen (fun env' h' => (match kp.find 4000006 with | some ks => Den pg fn.ntmps (C [1, 1, 1]) (env'.keep ks) h' (KR Q) | none => den pg fn.ntmps kp (C [1, 1, 1]) env' h' (KR Q))) (KR Q)
def K1 (Q : QT) : KT := Zck 0 (K0 Q)
def K2 (Q : QT) : KT := left kp 3 (K1 Q)
def K3 (Q : QT) (R3 : T3) : KT := rnd ((kp.find 1000003).getD []) (E3 R3) (K2 Q)
def L3 (Q : QT) (a0 : Pt) (n0 c0 : Nat) (e0 : Bool) (a3 : Pt) (n3 c3 : Nat) (e3 : Bool) (x4 : Int) (h : Zaa) : Prop := Zec (Den pg fn.ntmps (C [1, 1, 0, 1, 0, 0])) ((kp.find 1000003).getD []) (K2 Q) [(0, .slice a0 n0 c0 e0), (3, .slice a3 n3 c3 e3), (4, .int .i64 x4)] h
def Znf (Q : QT) (a3 : Pt) (n3 c3 : Nat) (e3 : Bool) (h : Zaa) : Prop := At (K1 Q) (.exit 0) [(3, .slice a3 n3 c3 e3)] h
def L3t (Q : QT) (R3 : T3) (a0 : Pt) (n0 c0 : Nat) (e0 : Bool) (a3 : Pt) (n3 c3 : Nat) (e3 : Bool) (x4 : Int) (h : Zaa) : Prop :=
 bcase (decide ((x4 : Int) < (((n0 : Nat) : Int)))) ((0 ≤ (x4 : Int) ∧ (x4 : Int) < (n0 : Nat)) ∧ (Zbl a0 fun I1 O2 => Zdh (Zbv h (.ptr (some (I1, O2 + (Int.toNat x4) * 2))) 2) fun K3 => Zap K3 fun C4 Z5 => Zbo (some C4) fun S6 => Zap Z5 fun C7 Z8 => Zbo (some C7) fun S9 => Zcr Z8 (Zae pg Zlz [.agg [.str S6, .str S9]] h fun V10 H11 =>
 Zuw V10 fun K12 => Zap K12 fun C13 Z14 => Zbo (some C13) fun S15 => Zap Z14 fun C16 Z17 => Zbo (some C16) fun S18 => Zcr Z17 ((0 ≤ (x4 : Int) ∧ (x4 : Int) < (n3 : Nat)) ∧ (Zbl a3 fun I19 O20 => Zcp (Zbk H11 (.ptr (some (I19, O20 + (Int.toNat x4) * 2))) [.str S15, .str S18]) fun H21 => R3 a0 n0 c0 e0 a3 n3 c3 e3 (IntKind.wrap .i64 (x4 + 1)) H21))))) (Znf Q a3 n3 c3 e3 h)
theorem Zkh (Q : QT) (R3 : T3) (a0 : Pt) (n0 c0 : Nat) (e0 : Bool) (a3 : Pt) (n3 c3 : Nat) (e3 : Bool) (x4 : Int) (h : Zaa) (ht : L3t Q R3 a0 n0 c0 e0 a3 n3 c3 e3 x4 h) : Den pg fn.ntmps (C [1, 1, 0, 1, 0, 0]) [(0, .slice a0 n0 c0 e0), (3, .slice a3 n3 c3 e3), (4, .int .i64 x4)] h (K3 Q R3) :=
 Zba (kp := kp) (cast (by kernel_rfl) ht)
theorem L3ind (Q : QT) (a0 : Pt) (n0 c0 : Nat) (e0 : Bool) (a3 : Pt) (n3 c3 : Nat) (e3 : Bool) {G : Type} (J : G → Int → Zaa → Prop) (m : G → Nat)
 (hr : ∀ (g : G) (x4 : Int) (h : Zaa), J g x4 h → ∀ (R3 : T3), (∀ g' (x4 : Int) (h : Zaa), m g' < m g → J g' x4 h → R3 a0 n0 c0 e0 a3 n3 c3 e3 x4 h) → L3t Q R3 a0 n0 c0 e0 a3 n3 c3 e3 x4 h)
 (g : G) (x4 : Int) (h : Zaa) (hj : J g x4 h) : L3 Q a0 n0 c0 e0 a3 n3 c3 e3 x4 h := by
 refine Zec.inv2 (fun g => E3 fun a0' n0' c0' e0' a3' n3' c3' e3' x4 h => a0 = a0' ∧ n0 = n0' ∧ c0 = c0' ∧ e0 = e0' ∧ a3 = a3' ∧ n3 = n3' ∧ c3 = c3' ∧ e3 = e3' ∧ J g x4 h) (fun g => E3 fun a0' n0' c0' e0' a3' n3' c3' e3' x4 h => a0 = a0' ∧ n0 = n0' ∧ c0 = c0' ∧ e0 = e0' ∧ a3 = a3' ∧ n3 = n3' ∧ c3 = c3' ∧ e3 = e3' ∧ ∃ g', m g' < m g ∧ J g' x4 h) m ?_ ?_ g ⟨rfl, rfl, rfl, rfl, rfl, rfl, rfl, rfl, hj⟩
 ·intro g env h hi
  obtain ⟨a0', n0', c0', e0', a3', n3', c3', e3', x4, rfl, rfl, rfl, rfl, rfl, rfl, rfl, rfl, rfl, hj⟩ := Zdw hi
  exact Zkh Q _ a0 n0 c0 e0 a3 n3 c3 e3 x4 h (hr g x4 h hj (fun a0' n0' c0' e0' a3' n3' c3' e3' x4 h => a0 = a0' ∧ n0 = n0' ∧ c0 = c0' ∧ e0 = e0' ∧ a3 = a3' ∧ n3 = n3' ∧ c3 = c3' ∧ e3 = e3' ∧ ∃ g', m g' < m g ∧ J g' x4 h) fun g' x4 h hlt hj => ⟨rfl, rfl, rfl, rfl, rfl, rfl, rfl, rfl, g', hlt, hj⟩)
 ·intro g env h hi
  obtain ⟨a0', n0', c0', e0', a3', n3', c3', e3', x4, rfl, rfl, rfl, rfl, rfl, rfl, rfl, rfl, rfl, g', hlt, hj⟩ := Zdw hi
  exact ⟨g', hlt, rfl, rfl, rfl, rfl, rfl, rfl, rfl, rfl, hj⟩
theorem A3x0i (Q : QT) (a3 : Pt) (n3 c3 : Nat) (e3 : Bool) (h : Zaa) (ht :
 Q (.slice a3 n3 c3 e3) h) : Znf Q a3 n3 c3 e3 h :=
 At.mk (cast (by kernel_rfl) ht)
theorem call (a0 : Pt) (n0 c0 : Nat) (e0 : Bool) (h : Zaa) (Q : QT) (ht :
 IntKind.i64 = IntKind.i64 ∧ (IntKind.i64 = IntKind.i64 ∧ ((0 ≤ ((((n0 : Nat) : Int)) : Int) ∧ ((((n0 : Nat) : Int)) : Int) ≤ (((n0 : Nat) : Int)) ∧ ((((n0 : Nat) : Int)) : Int) * (((32 : Nat) : Int) + 1) ≤ 140737488355328) ∧ (Zdc (h ++ [.cells Zaj (reps (Int.toNat ((((n0 : Nat) : Int)))) [.str [], .str []]) false]) fun H0 => L3 Q a0 n0 c0 e0 (some (h.length, 0)) (Int.toNat ((((n0 : Nat) : Int)))) (Int.toNat ((((n0 : Nat) : Int)))) true 0 H0)))) : Zae pg Zny [.slice a0 n0 c0 e0] h Q :=
 Zae.of_body kp (c := cod fn) (fn := fn) Go.Proofs.Tryz.func87 (by kernel_rfl) (by kernel_rfl) (Nat.le_of_ble_eq_true (by kernel_rfl))
  (cast (by kernel_rfl) ht)
end Ziz
namespace Zir
noncomputable abbrev fn : Func := Go.Proofs.Tryz.f97
def kp : Zbz := [(3000004, [4]), (1000004, [0, 1, 5]), (2000006, [26, 5, 0, 1])]
noncomputable def C (p : List Nat) : Code := (cod fn).sub p
def KR (Q : QT) : KT := Zes pg fn.results.toList Q
abbrev T4 := Pt → Nat → Nat → Bool → Pt → Nat → Nat → Bool → Int → Zaa → Prop
def E4 (R4 : T4) (env : Env) (h : Zaa) : Prop := Zbs 0 env fun v env => xSl (some v) fun a0 n0 c0 e0 => Zbs 1 env fun v env => xSl (some v) fun a1 n1 c1 e1 => Zbs 5 env fun v env => Zee .i64 v fun x5 => Zje env (R4 a0 n0 c0 e0 a1 n1 c1 e1 x5 h)
theorem Zhp {R4 : T4} {env : Env} {h : Zaa} (hi : E4 R4 env h) : ∃ a0, ∃ n0, ∃ c0, ∃ e0, ∃ a1, ∃ n1, ∃ c1, ∃ e1, ∃ x5, env = [(0, .slice a0 n0 c0 e0), (1, .slice a1 n1 c1 e1), (5, .int .i64 x5)] ∧ R4 a0 n0 c0 e0 a1 n1 c1 e1 x5 h := by
 unfold E4 at hi
 have hi0 := hi
 clear hi
 obtain ⟨_, _, rfl, hi1⟩ := Zab hi0
 obtain ⟨a0, n0, c0, e0, rfl, hi2⟩ := Zbf hi1
 obtain ⟨_, _, rfl, hi3⟩ := Zab hi2
 obtain ⟨a1, n1, c1, e1, rfl, hi4⟩ := Zbf hi3
 obtain ⟨_, _, rfl, hi5⟩ := Zab hi4
 obtain ⟨x5, rfl, hi6⟩ := Zao hi5
 obtain ⟨rfl, hi7⟩ := Zbg hi6
 have hi := hi7
 exact ⟨a0, n0, c0, e0, a1, n1, c1, e1, x5, rfl, hi⟩
def K0 (Q : QT) : KT := andThen (fun env' h' => (match kp.find 4000008 with | some ks => Den pg fn.ntmps (C [1, 1, 1]) (env'.keep ks) h' (KR Q) | none => den pg fn.ntmps kp (C [1, 1, 1]) env' h' (KR Q))) (KR Q)
def K1 (Q : QT) : KT := Zck 0 (K0 Q)
def K2 (Q : QT) : KT := left kp 4 (K1 Q)
def K3 (Q : QT) (R4 : T4) : KT := rnd ((kp.find 1000004).getD []) (E4 R4) (K2 Q)
def L4 (Q : QT) (a0 : Pt) (n0 c0 : Nat) (e0 : Bool) (a1 : Pt) (n1 c1 : Nat) (e1 : Bool) (x5 : Int) (h : Zaa) : Prop := Zec (Den pg fn.ntmps (C [1, 1, 0, 1, 0, 0])) ((kp.find 1000004).getD []) (K2 Q) [(0, .slice a0 n0 c0 e0), (1, .slice a1 n1 c1 e1), (5, .int .i64 x5)] h
def Zwn (Q : QT) (h : Zaa) : Prop := At (K1 Q) (.exit 0) [(4, .undef)] h
def L4t (Q : QT) (R4 : T4) (a0 : Pt) (n0 c0 : Nat) (e0 : Bool) (a1 : Pt) (n1 c1 : Nat) (e1 : Bool) (x5 : Int) (h : Zaa) : Prop :=
 bcase (decide ((x5 : Int) < (((n0 : Nat) : Int)))) ((0 ≤ (x5 : Int) ∧ (x5 : Int) < (n0 : Nat)) ∧ (Zbl a0 fun I0 O1 => (0 ≤ (x5 : Int) ∧ (x5 : Int) < (n1 : Nat)) ∧ (Zbl a1 fun I2 O3 => Zdh (Zbv h (.ptr (some (I0, O1 + (Int.toNat x5) * 2))) 2) fun K4 => Zap K4 fun C5 Z6 => Zbo (some C5) fun S7 => Zap Z6 fun C8 Z9 => Zbo (some C8) fun S10 => Zcr Z9 (Zdh (Zbv h (.ptr (some (I2, O3 + (Int.toNat x5) * 2))) 2) fun K11 => Zap K11 fun C12 Z13 => Zbo (some C12) fun S14 => Zap Z13 fun C15 Z16 => Zbo (some C15) fun S17 => Zcr Z16 ((Zbv h (.ptr (some (I0, O1 + (Int.toNat x5) * 2))) 2 = Zbv h (.ptr (some (I0, O1 + (Int.toNat x5) * 2))) 2) ∧ Zae pg Zmb [.agg [.str S7, .str S10], .agg [.str S14, .str S17]] h fun V18 H19 =>
 Zci (some V18) fun B20 => bcase (!B20) (Q (.bool false) H19) (R4 a0 n0 c0 e0 a1 n1 c1 e1 (IntKind.wrap .i64 (x5 + 1)) H19)))))) (Zwn Q h)
theorem Zsc (Q : QT) (R4 : T4) (a0 : Pt) (n0 c0 : Nat) (e0 : Bool) (a1 : Pt) (n1 c1 : Nat) (e1 : Bool) (x5 : Int) (h : Zaa) (ht : L4t Q R4 a0 n0 c0 e0 a1 n1 c1 e1 x5 h) : Den pg fn.ntmps (C [1, 1, 0, 1, 0, 0]) [(0, .slice a0 n0 c0 e0), (1, .slice a1 n1 c1 e1), (5, .int .i64 x5)] h (K3 Q R4) :=
 Zba (kp := kp) (cast (by kernel_rfl) ht)
theorem L4ind (Q : QT) (a0 : Pt) (n0 c0 : Nat) (e0 : Bool) (a1 : Pt) (n1 c1 : Nat) (e1 : Bool) {G : Type} (J : G → Int → Zaa → Prop) (m : G → Nat)
 (hr : ∀ (g : G) (x5 : Int) (h : Zaa), J g x5 h → ∀ (R4 : T4), (∀ g' (x5 : Int) (h : Zaa), m g' < m g → J g' x5 h → R4 a0 n0 c0 e0 a1 n1 c1 e1 x5 h) → L4t Q R4 a0 n0 c0 e0 a1 n1 c1 e1 x5 h)
 (g : G) (x5 : Int) (h : Zaa) (hj : J g x5 h) : L4 Q a0 n0 c0 e0 a1 n1 c1 e1 x5 h := by
 refine Zec.inv2 (fun g => E4 fun a0' n0' c0' e0' a1' n1' c1' e1' x5 h => a0 = a0' ∧ n0 = n0' ∧ c0 = c0' ∧ e0 = e0' ∧ a1 = a1' ∧ n1 = n1' ∧ c1 = c1' ∧ e1 = e1' ∧ J g x5 h) (fun g => E4 fun a0' n0' c0' e0' a1' n1' c1' e1' x5 h => a0 = a0' ∧ n0 = n0' ∧ c0 = c0' ∧ e0 = e0' ∧ a1 = a1' ∧ n1 = n1' ∧ c1 = c1' ∧ e1 = e1' ∧ ∃ g', m g' < m g ∧ J g' x5 h) m ?_ ?_ g ⟨rfl, rfl, rfl, rfl, rfl, rfl, rfl, rfl, hj⟩
 ·intro g env h hi
  obtain ⟨a0', n0', c0', e0', a1', n1', c1', e1', x5, rfl, rfl, rfl, rfl, rfl, rfl, rfl, rfl, rfl, hj⟩ := Zhp hi
  exact Zsc Q _ a0 n0 c0 e0 a1 n1 c1 e1 x5 h (hr g x5 h hj (fun a0' n0' c0' e0' a1' n1' c1' e1' x5 h => a0 = a0' ∧ n0 = n0' ∧ c0 = c0' ∧ e0 = e0' ∧ a1 = a1' ∧ n1 = n1' ∧ c1 = c1' ∧ e1 = e1' ∧ ∃ g', m g' < m g ∧ J g' x5 h) fun g' x5 h hlt hj => ⟨rfl, rfl, rfl, rfl, rfl, rfl, rfl, rfl, g', hlt, hj⟩)
 ·intro g env h hi
  obtain ⟨a0', n0', c0', e0', a1', n1', c1', e1', x5, rfl, rfl, rfl, rfl, rfl, rfl, rfl, rfl, rfl, g', hlt, hj⟩ := Zhp hi
  exact ⟨g', hlt, rfl, rfl, rfl, rfl, rfl, rfl, rfl, rfl, hj⟩
theorem A4x0i (Q : QT) (h : Zaa) (ht :
 Q (.bool true) h) : Zwn Q h :=
 At.mk (cast (by kernel_rfl) ht)
theorem call (a0 : Pt) (n0 c0 : Nat) (e0 : Bool) (a1 : Pt) (n1 c1 : Nat) (e1 : Bool) (h : Zaa) (Q : QT) (ht :
 bcase (!((((n0 : Nat) : Int) : Int) == (((n1 : Nat) : Int)))) (Q (.bool false) h) (L4 Q a0 n0 c0 e0 a1 n1 c1 e1 0 h)) : Zae pg Znp [.slice a0 n0 c0 e0, .slice a1 n1 c1 e1] h Q :=
 Zae.of_body kp (c := cod fn) (fn := fn) Go.Proofs.Tryz.func97 (by kernel_rfl) (by kernel_rfl) (Nat.le_of_ble_eq_true (by kernel_rfl))
  (cast (by kernel_rfl) ht)
end Zir
end Go.Sim

set_option maxRecDepth 100000
set_option linter.unusedVariables false
namespace Go.Sim
open Go Go.RowKit
namespace Ztm
noncomputable abbrev fn : Func := Go.Proofs.Tryz.f9
def kp : Zbz := []
noncomputable def C (p : List Nat) : Code := (cod fn).sub p
def KR (Q : QT) : KT := Zes pg fn.results.toList Q
theorem call (x0x0 x0x1 : List Nat) (x1 : Int) (h : Zaa) (Q : QT) (ht :
 Zdc (h ++ [.cells Zsb [.str x0x0, .str x0x1] false]) fun H0 => Zbo (Zak H0 (.ptr (some (h.length, 0 + 0)))) fun S1 => bcase (decide (((IntKind.wrap .i64 (x1 - (((List.length S1 : Nat) : Int)))) : Int) < 0)) (Q (.int .i64 (-1)) H0) (Zbo (Zak H0 (.ptr (some (h.length, 0 + 1)))) fun S2 => bcase (decide (((IntKind.wrap .i64 ((IntKind.wrap .i64 (x1 - (((List.length S1 : Nat) : Int)))) - (((List.length S2 : Nat) : Int)))) : Int) < 0)) (Q (.int .i64 (-1)) H0) (Q (.int .i64 (IntKind.wrap .i64 ((IntKind.wrap .i64 (x1 - (((List.length S1 : Nat) : Int)))) - (((List.length S2 : Nat) : Int))))) H0))) : Zae pg Zmc [.agg [.str x0x0, .str x0x1], .int .i64 x1] h Q :=
 Zae.of_body kp (c := cod fn) (fn := fn) Go.Proofs.Tryz.func9 (by kernel_rfl) (by kernel_rfl) (Nat.le_of_ble_eq_true (by kernel_rfl))
  (cast (by kernel_rfl) ht)
end Ztm
namespace Zoh
noncomputable abbrev fn : Func := Go.Proofs.Tryz.f84
def kp : Zbz := []
noncomputable def C (p : List Nat) : Code := (cod fn).sub p
def KR (Q : QT) : KT := Zes pg fn.results.toList Q
theorem call (x0x0 x0x1 : List Nat) (h : Zaa) (Q : QT) (ht :
 Zdc (h ++ [.cells Zaj [.str x0x0, .str x0x1] false]) fun H0 => Zbo (Zak H0 (.ptr (some (h.length, 0 + 0)))) fun S1 => List.length S1 + List.length [32] ≤ 9223372036854775807 ∧ (Zbo (Zak H0 (.ptr (some (h.length, 0 + 1)))) fun S2 => List.length (S1 ++ [32]) + List.length S2 ≤ 9223372036854775807 ∧ (Q (.str ((S1 ++ [32]) ++ S2)) H0))) : Zae pg Zku [.agg [.str x0x0, .str x0x1]] h Q :=
 Zae.of_body kp (c := cod fn) (fn := fn) Go.Proofs.Tryz.func84 (by kernel_rfl) (by kernel_rfl) (Nat.le_of_ble_eq_true (by kernel_rfl))
  (cast (by kernel_rfl) ht)
end Zoh
namespace Zol
noncomputable abbrev fn : Func := Go.Proofs.Tryz.f124
def kp : Zbz := []
noncomputable def C (p : List Nat) : Code := (cod fn).sub p
def KR (Q : QT) : KT := Zes pg fn.results.toList Q
theorem call (x0x0 x0x1 : List Nat) (h : Zaa) (Q : QT) (ht :
 Zdc (h ++ [.cells Zaj [.str x0x0, .str x0x1] false]) fun H0 => Zbo (Zak H0 (.ptr (some (h.length, 0 + 0)))) fun S1 => List.length S1 + List.length [32] ≤ 9223372036854775807 ∧ (Zbo (Zak H0 (.ptr (some (h.length, 0 + 1)))) fun S2 => List.length (S1 ++ [32]) + List.length S2 ≤ 9223372036854775807 ∧ (Q (.str ((S1 ++ [32]) ++ S2)) H0))) : Zae pg Zkv [.agg [.str x0x0, .str x0x1]] h Q :=
 Zae.of_body kp (c := cod fn) (fn := fn) Go.Proofs.Tryz.func124 (by kernel_rfl) (by kernel_rfl) (Nat.le_of_ble_eq_true (by kernel_rfl))
  (cast (by kernel_rfl) ht)
end Zol
namespace Zss
noncomputable abbrev fn : Func := Go.Proofs.Tryz.f17
def kp : Zbz := []
noncomputable def C (p : List Nat) : Code := (cod fn).sub p
def KR (Q : QT) : KT := Zes pg fn.results.toList Q
theorem call (x0x0 x0x1 x1x0 x1x1 : List Nat) (h : Zaa) (Q : QT) (ht :
 Zdc (h ++ [.cells Zaj [.str x0x0, .str x0x1] false]) fun H0 => Zdc (H0 ++ [.cells Zaj [.str x1x0, .str x1x1] false]) fun H1 => Zbo (Zak H1 (.ptr (some (h.length, 0 + 0)))) fun S2 => Zbo (Zak H1 (.ptr (some (H0.length, 0 + 0)))) fun S3 => bcase (!(decide (S2 = S3))) (Q (.bool false) H1) (Zbo (Zak H1 (.ptr (some (h.length, 0 + 1)))) fun S4 => Zbo (Zak H1 (.ptr (some (H0.length, 0 + 1)))) fun S5 => bcase (!(decide (S4 = S5))) (Q (.bool false) H1) (Q (.bool true) H1))) : Zae pg Zmb [.agg [.str x0x0, .str x0x1], .agg [.str x1x0, .str x1x1]] h Q :=
 Zae.of_body kp (c := cod fn) (fn := fn) Go.Proofs.Tryz.func17 (by kernel_rfl) (by kernel_rfl) (Nat.le_of_ble_eq_true (by kernel_rfl))
  (cast (by kernel_rfl) ht)
end Zss
namespace Zth
noncomputable abbrev fn : Func := Go.Proofs.Tryz.f12
def kp : Zbz := []
noncomputable def C (p : List Nat) : Code := (cod fn).sub p
def KR (Q : QT) : KT := Zes pg fn.results.toList Q
theorem call (x0x0 x0x1 : List Nat) (h : Zaa) (Q : QT) (ht :
 Zdc (h ++ [.cells Zsb [.str x0x0, .str x0x1] false]) fun H0 => Zdc (H0 ++ [.cells Zaj [.str [], .str []] false]) fun H1 => Zdc (H1 ++ [.cells Zaj [.str [], .str []] false]) fun H2 => Zbo (Zak H2 (.ptr (some (h.length, 0 + 0)))) fun S3 => Zcp (Zbk H2 (.ptr (some (H1.length, 0 + 0))) [.str S3]) fun H4 => Zbo (Zak H4 (.ptr (some (h.length, 0 + 1)))) fun S5 => Zcp (Zbk H4 (.ptr (some (H1.length, 0 + 1))) [.str S5]) fun H6 => Zdh (Zbv H6 (.ptr (some (H1.length, 0))) 2) fun K7 => Zap K7 fun C8 Z9 => Zbo (some C8) fun S10 => Zap Z9 fun C11 Z12 => Zbo (some C11) fun S13 => Zcr Z12 (Zcp (Zbk H6 (.ptr (some (H0.length, 0))) [.str S10, .str S13]) fun H14 => Zdh (Zbv H14 (.ptr (some (H0.length, 0))) 2) fun K15 => Zap K15 fun C16 Z17 => Zbo (some C16) fun S18 => Zap Z17 fun C19 Z20 => Zbo (some C19) fun S21 => Zcr Z20 (Q (.agg [.str S18, .str S21]) H14))) : Zae pg Zlz [.agg [.str x0x0, .str x0x1]] h Q :=
 Zae.of_body kp (c := cod fn) (fn := fn) Go.Proofs.Tryz.func12 (by kernel_rfl) (by kernel_rfl) (Nat.le_of_ble_eq_true (by kernel_rfl))
  (cast (by kernel_rfl) ht)
end Zth
namespace Ziv
noncomputable abbrev fn : Func := Go.Proofs.Tryz.f80
def kp : Zbz := [(3000005, [1, 4]), (1000005, [0, 1, 5])]
noncomputable def C (p : List Nat) : Code := (cod fn).sub p
def KR (Q : QT) : KT := Zes pg fn.results.toList Q
abbrev T5 := Pt → Nat → Nat → Bool → Int → Int → Zaa → Prop
def E5 (R5 : T5) (env : Env) (h : Zaa) : Prop := Zbs 0 env fun v env => xSl (some v) fun a0 n0 c0 e0 => Zbs 1 env fun v env => Zee .i64 v fun x1 => Zbs 5 env fun v env => Zee .i64 v fun x5 => Zje env (R5 a0 n0 c0 e0 x1 x5 h)
theorem Zgi {R5 : T5} {env : Env} {h : Zaa} (hi : E5 R5 env h) : ∃ a0, ∃ n0, ∃ c0, ∃ e0, ∃ x1, ∃ x5, env = [(0, .slice a0 n0 c0 e0), (1, .int .i64 x1), (5, .int .i64 x5)] ∧ R5 a0 n0 c0 e0 x1 x5 h := by
 unfold E5 at hi
 have hi0 := hi
 clear hi
 obtain ⟨_, _, rfl, hi1⟩ := Zab hi0
 obtain ⟨a0, n0, c0, e0, rfl, hi2⟩ := Zbf hi1
 obtain ⟨_, _, rfl, hi3⟩ := Zab hi2
 obtain ⟨x1, rfl, hi4⟩ := Zao hi3
 obtain ⟨_, _, rfl, hi5⟩ := Zab hi4
 obtain ⟨x5, rfl, hi6⟩ := Zao hi5
 obtain ⟨rfl, hi7⟩ := Zbg hi6
 have hi := hi7
 exact ⟨a0, n0, c0, e0, x1, x5, rfl, hi⟩
def K0 (Q : QT) : KT := andThen (fun env' h' => (match kp.find 4000010 with | some ks => Den pg fn.ntmps (C [1, 1, 1, 1]) (env'.keep ks) h' (KR Q) | none => den pg fn.ntmps kp (C [1, 1, 1, 1]) env' h' (KR Q))) (KR Q)
def K1 (Q : QT) : KT := Zck 0 (K0 Q)
def K2 (Q : QT) : KT := left kp 5 (K1 Q)
def K3 (Q : QT) (R5 : T5) : KT := rnd ((kp.find 1000005).getD []) (E5 R5) (K2 Q)
def L5 (Q : QT) (a0 : Pt) (n0 c0 : Nat) (e0 : Bool) (x1 x5 : Int) (h : Zaa) : Prop := Zec (Den pg fn.ntmps (C [1, 1, 1, 0, 1, 0, 0])) ((kp.find 1000005).getD []) (K2 Q) [(0, .slice a0 n0 c0 e0), (1, .int .i64 x1), (5, .int .i64 x5)] h
def A5x0 (Q : QT) (x1 : Int) (h : Zaa) : Prop := At (K1 Q) (.exit 0) [(1, .int .i64 x1), (4, .undef)] h
def L5t (Q : QT) (R5 : T5) (a0 : Pt) (n0 c0 : Nat) (e0 : Bool) (x1 x5 : Int) (h : Zaa) : Prop :=
 bcase (decide ((x5 : Int) < (((n0 : Nat) : Int)))) ((0 ≤ (x5 : Int) ∧ (x5 : Int) < (n0 : Nat)) ∧ (Zbl a0 fun I0 O1 => Zdh (Zbv h (.ptr (some (I0, O1 + (Int.toNat x5) * 2))) 2) fun K2 => Zap K2 fun C3 Z4 => Zbo (some C3) fun S5 => Zap Z4 fun C6 Z7 => Zbo (some C6) fun S8 => Zcr Z7 (Zae pg Zmc [.agg [.str S5, .str S8], .int .i64 x1] h fun V9 H10 =>
 Zen .i64 (some V9) fun X11 => bcase (decide ((X11 : Int) < 0)) (Q (.int .i64 (-1)) H10) (R5 a0 n0 c0 e0 X11 (IntKind.wrap .i64 (x5 + 1)) H10)))) (A5x0 Q x1 h)
theorem Zqg (Q : QT) (R5 : T5) (a0 : Pt) (n0 c0 : Nat) (e0 : Bool) (x1 x5 : Int) (h : Zaa) (ht : L5t Q R5 a0 n0 c0 e0 x1 x5 h) : Den pg fn.ntmps (C [1, 1, 1, 0, 1, 0, 0]) [(0, .slice a0 n0 c0 e0), (1, .int .i64 x1), (5, .int .i64 x5)] h (K3 Q R5) :=
 Zba (kp := kp) (cast (by kernel_rfl) ht)
theorem L5ind (Q : QT) (a0 : Pt) (n0 c0 : Nat) (e0 : Bool) {G : Type} (J : G → Int → Int → Zaa → Prop) (m : G → Nat)
 (hr : ∀ (g : G) (x1 x5 : Int) (h : Zaa), J g x1 x5 h → ∀ (R5 : T5), (∀ g' (x1 x5 : Int) (h : Zaa), m g' < m g → J g' x1 x5 h → R5 a0 n0 c0 e0 x1 x5 h) → L5t Q R5 a0 n0 c0 e0 x1 x5 h)
 (g : G) (x1 x5 : Int) (h : Zaa) (hj : J g x1 x5 h) : L5 Q a0 n0 c0 e0 x1 x5 h := by
 refine Zec.inv2 (fun g => E5 fun a0' n0' c0' e0' x1 x5 h => a0 = a0' ∧ n0 = n0' ∧ c0 = c0' ∧ e0 = e0' ∧ J g x1 x5 h) (fun g => E5 fun a0' n0' c0' e0' x1 x5 h => a0 = a0' ∧ n0 = n0' ∧ c0 = c0' ∧ e0 = e0' ∧ ∃ g', m g' < m g ∧ J g' x1 x5 h) m ?_ ?_ g ⟨rfl, rfl, rfl, rfl, hj⟩
 ·intro g env h hi
  obtain ⟨a0', n0', c0', e0', x1, x5, rfl, rfl, rfl, rfl, rfl, hj⟩ := Zgi hi
  exact Zqg Q _ a0 n0 c0 e0 x1 x5 h (hr g x1 x5 h hj (fun a0' n0' c0' e0' x1 x5 h => a0 = a0' ∧ n0 = n0' ∧ c0 = c0' ∧ e0 = e0' ∧ ∃ g', m g' < m g ∧ J g' x1 x5 h) fun g' x1 x5 h hlt hj => ⟨rfl, rfl, rfl, rfl, g', hlt, hj⟩)
 ·intro g env h hi
  obtain ⟨a0', n0', c0', e0', x1, x5, rfl, rfl, rfl, rfl, rfl, g', hlt, hj⟩ := Zgi hi
  exact ⟨g', hlt, rfl, rfl, rfl, rfl, hj⟩
theorem A5x0i (Q : QT) (x1 : Int) (h : Zaa) (ht :
 Q (.int .i64 x1) h) : A5x0 Q x1 h :=
 At.mk (cast (by kernel_rfl) ht)
theorem call (a0 : Pt) (n0 c0 : Nat) (e0 : Bool) (x1 : Int) (h : Zaa) (Q : QT) (ht :
 bcase (decide (((IntKind.wrap .i64 (x1 - (((n0 : Nat) : Int)))) : Int) < 0)) (Q (.int .i64 (-1)) h) (L5 Q a0 n0 c0 e0 (IntKind.wrap .i64 (x1 - (((n0 : Nat) : Int)))) 0 h)) : Zae pg Znz [.slice a0 n0 c0 e0, .int .i64 x1] h Q :=
 Zae.of_body kp (c := cod fn) (fn := fn) Go.Proofs.Tryz.func80 (by kernel_rfl) (by kernel_rfl) (Nat.le_of_ble_eq_true (by kernel_rfl))
  (cast (by kernel_rfl) ht)
end Ziv
end Go.Sim

set_option maxRecDepth 100000
set_option linter.unusedVariables false
namespace Go.Sim
open Go Go.RowKit
namespace Zjl
noncomputable abbrev fn : Func := Go.Proofs.Tryz.f111
def kp : Zbz := [(3000003, [3]), (1000003, [0, 3, 7, 8, 9]), (4000007, [9, 8, 7, 0, 3])]
noncomputable def C (p : List Nat) : Code := (cod fn).sub p
def KR (Q : QT) : KT := Zes pg fn.results.toList Q
abbrev T3 := List Nat → Pt → Nat → Nat → Bool → Pt → Nat → Nat → Bool → Int → Int → Zaa → Prop
def E3 (R3 : T3) (env : Env) (h : Zaa) : Prop := Zbs 0 env fun v env => Zbo (some v) fun x0 => Zbs 3 env fun v env => xSl (some v) fun a3 n3 c3 e3 => Zbs 7 env fun v env => xSl (some v) fun a7 n7 c7 e7 => Zbs 8 env fun v env => Zee .i64 v fun x8 => Zbs 9 env fun v env => Zee .i64 v fun x9 => Zje env (R3 x0 a3 n3 c3 e3 a7 n7 c7 e7 x8 x9 h)
theorem Zdw {R3 : T3} {env : Env} {h : Zaa} (hi : E3 R3 env h) : ∃ x0, ∃ a3, ∃ n3, ∃ c3, ∃ e3, ∃ a7, ∃ n7, ∃ c7, ∃ e7, ∃ x8, ∃ x9, env = [(0, .str x0), (3, .slice a3 n3 c3 e3), (7, .slice a7 n7 c7 e7), (8, .int .i64 x8), (9, .int .i64 x9)] ∧ R3 x0 a3 n3 c3 e3 a7 n7 c7 e7 x8 x9 h := by
 unfold E3 at hi
 have hi0 := hi
 clear hi
 obtain ⟨_, _, rfl, hi1⟩ := Zab hi0
 obtain ⟨x0, rfl, hi2⟩ := Zel hi1
 obtain ⟨_, _, rfl, hi3⟩ := Zab hi2
 obtain ⟨a3, n3, c3, e3, rfl, hi4⟩ := Zbf hi3
 obtain ⟨_, _, rfl, hi5⟩ := Zab hi4
 obtain ⟨a7, n7, c7, e7, rfl, hi6⟩ := Zbf hi5
 obtain ⟨_, _, rfl, hi7⟩ := Zab hi6
 obtain ⟨x8, rfl, hi8⟩ := Zao hi7
 obtain ⟨_, _, rfl, hi9⟩ := Zab hi8
 obtain ⟨x9, rfl, hi10⟩ := Zao hi9
 obtain ⟨rfl, hi11⟩ := Zbg hi10
 have hi := hi11
 exact ⟨x0, a3, n3, c3, e3, a7, n7, c7, e7, x8, x9, rfl, hi⟩
def K0 (Q : QT) : KT := andThen (fun env' h' => (match kp.find 4000008 with | some ks => Den pg fn.ntmps (C [1, 1, 1]) (env'.keep ks) h' (KR Q) | none => den pg fn.ntmps kp (C [1, 1, 1]) env' h' (KR Q))) (KR Q)
def K1 (Q : QT) : KT := Zck 0 (K0 Q)
def K2 (Q : QT) : KT := left kp 3 (K1 Q)
def K3 (Q : QT) (R3 : T3) : KT := rnd ((kp.find 1000003).getD []) (E3 R3) (K2 Q)
def L3 (Q : QT) (x0 : List Nat) (a3 : Pt) (n3 c3 : Nat) (e3 : Bool) (a7 : Pt) (n7 c7 : Nat) (e7 : Bool) (x8 x9 : Int) (h : Zaa) : Prop := Zec (Den pg fn.ntmps (C [1, 1, 0, 1, 0, 0])) ((kp.find 1000003).getD []) (K2 Q) [(0, .str x0), (3, .slice a3 n3 c3 e3), (7, .slice a7 n7 c7 e7), (8, .int .i64 x8), (9, .int .i64 x9)] h
def J7 (Q : QT) (R3 : T3) (x9 x8 : Int) (a7 : Pt) (n7 c7 : Nat) (e7 : Bool) (x0 : List Nat) (a3 : Pt) (n3 c3 : Nat) (e3 : Bool) (h : Zaa) : Prop := Den pg fn.ntmps (C [1, 1, 0, 1, 0, 0, 1, 1, 1]) [(9, .int .i64 x9), (8, .int .i64 x8), (7, .slice a7 n7 c7 e7), (0, .str x0), (3, .slice a3 n3 c3 e3)] h (K3 Q R3)
def Znf (Q : QT) (a3 : Pt) (n3 c3 : Nat) (e3 : Bool) (h : Zaa) : Prop := At (K1 Q) (.exit 0) [(3, .slice a3 n3 c3 e3)] h
def L3t (Q : QT) (R3 : T3) (x0 : List Nat) (a3 : Pt) (n3 c3 : Nat) (e3 : Bool) (a7 : Pt) (n7 c7 : Nat) (e7 : Bool) (x8 x9 : Int) (h : Zaa) : Prop :=
 bcase (decide ((x9 : Int) < x8)) ((0 ≤ (x9 : Int) ∧ (x9 : Int) < (n7 : Nat)) ∧ (Zbl a7 fun I2 O3 => Zbo (Zak h (.ptr (some (I2, O3 + (Int.toNat x9) * 1)))) fun S4 => Zae pg Zfx [.str x0, .str S4] h fun V5 H6 =>
 Zci (some V5) fun B7 => bcase B7 (Zdc (H6 ++ [.cells Zcm [.str S4] false]) fun H8 => Zdd pg Zfd H8 (.slice a3 n3 c3 e3) (.slice (some (H6.length, 0)) 1 1 true) fun V9 H10 => xSl (some V9) fun A11 N12 C13 E14 => J7 Q R3 x9 x8 a7 n7 c7 e7 x0 A11 N12 C13 E14 H10) (J7 Q R3 x9 x8 a7 n7 c7 e7 x0 a3 n3 c3 e3 H6))) (Znf Q a3 n3 c3 e3 h)
theorem Zkh (Q : QT) (R3 : T3) (x0 : List Nat) (a3 : Pt) (n3 c3 : Nat) (e3 : Bool) (a7 : Pt) (n7 c7 : Nat) (e7 : Bool) (x8 x9 : Int) (h : Zaa) (ht : L3t Q R3 x0 a3 n3 c3 e3 a7 n7 c7 e7 x8 x9 h) : Den pg fn.ntmps (C [1, 1, 0, 1, 0, 0]) [(0, .str x0), (3, .slice a3 n3 c3 e3), (7, .slice a7 n7 c7 e7), (8, .int .i64 x8), (9, .int .i64 x9)] h (K3 Q R3) :=
 Zba (kp := kp) (cast (by kernel_rfl) ht)
theorem L3ind (Q : QT) (x0 : List Nat) (a7 : Pt) (n7 c7 : Nat) (e7 : Bool) (x8 : Int) {G : Type} (J : G → Pt → Nat → Nat → Bool → Int → Zaa → Prop) (m : G → Nat)
 (hr : ∀ (g : G) (a3 : Pt) (n3 c3 : Nat) (e3 : Bool) (x9 : Int) (h : Zaa), J g a3 n3 c3 e3 x9 h → ∀ (R3 : T3), (∀ g' (a3 : Pt) (n3 c3 : Nat) (e3 : Bool) (x9 : Int) (h : Zaa), m g' < m g → J g' a3 n3 c3 e3 x9 h → R3 x0 a3 n3 c3 e3 a7 n7 c7 e7 x8 x9 h) → L3t Q R3 x0 a3 n3 c3 e3 a7 n7 c7 e7 x8 x9 h)
 (g : G) (a3 : Pt) (n3 c3 : Nat) (e3 : Bool) (x9 : Int) (h : Zaa) (hj : J g a3 n3 c3 e3 x9 h) : L3 Q x0 a3 n3 c3 e3 a7 n7 c7 e7 x8 x9 h := by
 refine Zec.inv2 (fun g => E3 fun x0' a3 n3 c3 e3 a7' n7' c7' e7' x8' x9 h => x0 = x0' ∧ a7 = a7' ∧ n7 = n7' ∧ c7 = c7' ∧ e7 = e7' ∧ x8 = x8' ∧ J g a3 n3 c3 e3 x9 h) (fun g => E3 fun x0' a3 n3 c3 e3 a7' n7' c7' e7' x8' x9 h => x0 = x0' ∧ a7 = a7' ∧ n7 = n7' ∧ c7 = c7' ∧ e7 = e7' ∧ x8 = x8' ∧ ∃ g', m g' < m g ∧ J g' a3 n3 c3 e3 x9 h) m ?_ ?_ g ⟨rfl, rfl, rfl, rfl, rfl, rfl, hj⟩
 ·intro g env h hi
  obtain ⟨x0', a3, n3, c3, e3, a7', n7', c7', e7', x8', x9, rfl, rfl, rfl, rfl, rfl, rfl, rfl, hj⟩ := Zdw hi
  exact Zkh Q _ x0 a3 n3 c3 e3 a7 n7 c7 e7 x8 x9 h (hr g a3 n3 c3 e3 x9 h hj (fun x0' a3 n3 c3 e3 a7' n7' c7' e7' x8' x9 h => x0 = x0' ∧ a7 = a7' ∧ n7 = n7' ∧ c7 = c7' ∧ e7 = e7' ∧ x8 = x8' ∧ ∃ g', m g' < m g ∧ J g' a3 n3 c3 e3 x9 h) fun g' a3 n3 c3 e3 x9 h hlt hj => ⟨rfl, rfl, rfl, rfl, rfl, rfl, g', hlt, hj⟩)
 ·intro g env h hi
  obtain ⟨x0', a3, n3, c3, e3, a7', n7', c7', e7', x8', x9, rfl, rfl, rfl, rfl, rfl, rfl, rfl, g', hlt, hj⟩ := Zdw hi
  exact ⟨g', hlt, rfl, rfl, rfl, rfl, rfl, rfl, hj⟩
theorem J7i (Q : QT) (R3 : T3) (x9 x8 : Int) (a7 : Pt) (n7 c7 : Nat) (e7 : Bool) (x0 : List Nat) (a3 : Pt) (n3 c3 : Nat) (e3 : Bool) (h : Zaa) (ht :
 R3 x0 a3 n3 c3 e3 a7 n7 c7 e7 x8 (IntKind.wrap .i64 (x9 + 1)) h) : J7 Q R3 x9 x8 a7 n7 c7 e7 x0 a3 n3 c3 e3 h :=
 Zba (kp := kp) (cast (by kernel_rfl) ht)
theorem A3x0i (Q : QT) (a3 : Pt) (n3 c3 : Nat) (e3 : Bool) (h : Zaa) (ht :
 Q (.slice a3 n3 c3 e3) h) : Znf Q a3 n3 c3 e3 h :=
 At.mk (cast (by kernel_rfl) ht)
theorem call (x0 : List Nat) (h : Zaa) (Q : QT) (ht :
 Zdc (h ++ [.cells Zcm [] false]) fun H0 => Zdc (H0 ++ [.cells Zcm [.str [88], .str [89], .str [90], .str [120], .str [121], .str [122]] false]) fun H1 => L3 Q x0 (some (h.length, 0)) 0 0 true (some (H0.length, 0)) 6 6 true (((6 : Nat) : Int)) 0 H1) : Zae pg Zrz [.str x0] h Q :=
 Zae.of_body kp (c := cod fn) (fn := fn) Go.Proofs.Tryz.func111 (by kernel_rfl) (by kernel_rfl) (Nat.le_of_ble_eq_true (by kernel_rfl))
  (cast (by kernel_rfl) ht)
end Zjl
end Go.Sim
