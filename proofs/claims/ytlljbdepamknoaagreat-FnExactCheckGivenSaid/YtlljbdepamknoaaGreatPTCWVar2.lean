/- A part of the proof of a statement of this seat: see the text that holds the theorem. No condition. -/
import Derived.Test.YtlljbdepamknoaaGreatNm
set_option linter.unusedVariables false
set_option linter.unusedSimpArgs false
set_option linter.all false
set_option maxRecDepth 100000
set_option linter.unusedVariables false
namespace Go.Sim
open Go Go.RowKit
namespace Zqn
noncomputable abbrev fn : Func := Go.Proofs.Tryz.f74
def kp : Zcb := []
noncomputable def C (p : List Nat) : Code := (cod fn).sub p
def KR (Q : QT) : KT := Zez pg fn.results.toList Q
theorem call (x0x0 x0x1 : List Nat) (x1 : Int) (h : Zaa) (Q : QT) (ht :
 Zdg (h ++ [.cells Zpb [.str x0x0, .str x0x1] false]) fun H0 => Zbk (Zag H0 (.ptr (some (h.length, 0 + 0)))) fun S1 => bcase (decide (((IntKind.wrap .i64 (x1 - (((List.length S1 : Nat) : Int)))) : Int) < 0)) (Q (.int .i64 (-1)) H0) (Zbk (Zag H0 (.ptr (some (h.length, 0 + 1)))) fun S2 => bcase (decide (((IntKind.wrap .i64 ((IntKind.wrap .i64 (x1 - (((List.length S1 : Nat) : Int)))) - (((List.length S2 : Nat) : Int)))) : Int) < 0)) (Q (.int .i64 (-1)) H0) (Q (.int .i64 (IntKind.wrap .i64 ((IntKind.wrap .i64 (x1 - (((List.length S1 : Nat) : Int)))) - (((List.length S2 : Nat) : Int))))) H0))) : Zad pg Zmr [.agg [.str x0x0, .str x0x1], .int .i64 x1] h Q :=
  Zad.of_body kp (c := cod fn) (fn := fn) Go.Proofs.Tryz.func74 (by kernel_rfl) (by kernel_rfl) (Nat.le_of_ble_eq_true (by kernel_rfl))
    (cast (by kernel_rfl) ht)
end Zqn
namespace Zqr
noncomputable abbrev fn : Func := Go.Proofs.Tryz.f82
def kp : Zcb := []
noncomputable def C (p : List Nat) : Code := (cod fn).sub p
def KR (Q : QT) : KT := Zez pg fn.results.toList Q
theorem call (x0x0 x0x1 x1x0 x1x1 : List Nat) (h : Zaa) (Q : QT) (ht :
 Zdg (h ++ [.cells Zbo [.str x0x0, .str x0x1] false]) fun H0 => Zdg (H0 ++ [.cells Zbo [.str x1x0, .str x1x1] false]) fun H1 => Zbk (Zag H1 (.ptr (some (h.length, 0 + 0)))) fun S2 => Zbk (Zag H1 (.ptr (some (H0.length, 0 + 0)))) fun S3 => bcase (!(decide (S2 = S3))) (Q (.bool false) H1) (Zbk (Zag H1 (.ptr (some (h.length, 0 + 1)))) fun S4 => Zbk (Zag H1 (.ptr (some (H0.length, 0 + 1)))) fun S5 => bcase (!(decide (S4 = S5))) (Q (.bool false) H1) (Q (.bool true) H1))) : Zad pg Zmt [.agg [.str x0x0, .str x0x1], .agg [.str x1x0, .str x1x1]] h Q :=
  Zad.of_body kp (c := cod fn) (fn := fn) Go.Proofs.Tryz.func82 (by kernel_rfl) (by kernel_rfl) (Nat.le_of_ble_eq_true (by kernel_rfl))
    (cast (by kernel_rfl) ht)
end Zqr
namespace Zqo
noncomputable abbrev fn : Func := Go.Proofs.Tryz.f78
def kp : Zcb := []
noncomputable def C (p : List Nat) : Code := (cod fn).sub p
def KR (Q : QT) : KT := Zez pg fn.results.toList Q
theorem call (x0x0 x0x1 : List Nat) (h : Zaa) (Q : QT) (ht :
 Zdg (h ++ [.cells Zpb [.str x0x0, .str x0x1] false]) fun H0 => Zdg (H0 ++ [.cells Zbo [.str [], .str []] false]) fun H1 => Zdg (H1 ++ [.cells Zbo [.str [], .str []] false]) fun H2 => Zbk (Zag H2 (.ptr (some (h.length, 0 + 0)))) fun S3 => Zcu (Zbn H2 (.ptr (some (H1.length, 0 + 0))) [.str S3]) fun H4 => Zbk (Zag H4 (.ptr (some (h.length, 0 + 1)))) fun S5 => Zcu (Zbn H4 (.ptr (some (H1.length, 0 + 1))) [.str S5]) fun H6 => Zcx (Zbp H6 (.ptr (some (H1.length, 0))) 2) fun K7 => Zam K7 fun C8 Z9 => Zbk (some C8) fun S10 => Zam Z9 fun C11 Z12 => Zbk (some C11) fun S13 => Zci Z12 (Zcu (Zbn H6 (.ptr (some (H0.length, 0))) [.str S10, .str S13]) fun H14 => Zcx (Zbp H14 (.ptr (some (H0.length, 0))) 2) fun K15 => Zam K15 fun C16 Z17 => Zbk (some C16) fun S18 => Zam Z17 fun C19 Z20 => Zbk (some C19) fun S21 => Zci Z20 (Q (.agg [.str S18, .str S21]) H14))) : Zad pg Zmy [.agg [.str x0x0, .str x0x1]] h Q :=
  Zad.of_body kp (c := cod fn) (fn := fn) Go.Proofs.Tryz.func78 (by kernel_rfl) (by kernel_rfl) (Nat.le_of_ble_eq_true (by kernel_rfl))
    (cast (by kernel_rfl) ht)
end Zqo
namespace Zhd
noncomputable abbrev fn : Func := Go.Proofs.Tryz.f32
def kp : Zcb := [(3000005, [1, 4]), (1000005, [0, 1, 5])]
noncomputable def C (p : List Nat) : Code := (cod fn).sub p
def KR (Q : QT) : KT := Zez pg fn.results.toList Q
abbrev T5 := Pt → Nat → Nat → Bool → Int → Int → Zaa → Prop
def E5 (R5 : T5) (env : Env) (h : Zaa) : Prop := Zbt 0 env fun v env => xSl (some v) fun a0 n0 c0 e0 => Zbt 1 env fun v env => Zei .i64 v fun x1 => Zbt 5 env fun v env => Zei .i64 v fun x5 => Zjr env (R5 a0 n0 c0 e0 x1 x5 h)
theorem Zhm {R5 : T5} {env : Env} {h : Zaa} (hi : E5 R5 env h) : ∃ a0, ∃ n0, ∃ c0, ∃ e0, ∃ x1, ∃ x5, env = [(0, .slice a0 n0 c0 e0), (1, .int .i64 x1), (5, .int .i64 x5)] ∧ R5 a0 n0 c0 e0 x1 x5 h := by
  unfold E5 at hi
  have hi0 := hi
  clear hi
  obtain ⟨_, _, rfl, hi1⟩ := Zab hi0
  obtain ⟨a0, n0, c0, e0, rfl, hi2⟩ := Zbh hi1
  obtain ⟨_, _, rfl, hi3⟩ := Zab hi2
  obtain ⟨x1, rfl, hi4⟩ := Zat hi3
  obtain ⟨_, _, rfl, hi5⟩ := Zab hi4
  obtain ⟨x5, rfl, hi6⟩ := Zat hi5
  obtain ⟨rfl, hi7⟩ := Zbi hi6
  have hi := hi7
  exact ⟨a0, n0, c0, e0, x1, x5, rfl, hi⟩
def K0 (Q : QT) : KT := andThen (fun env' h' => (match kp.find 4000010 with | some ks => Den pg fn.ntmps (C [1, 1, 1, 1]) (env'.keep ks) h' (KR Q) | none => den pg fn.ntmps kp (C [1, 1, 1, 1]) env' h' (KR Q))) (KR Q)
def K1 (Q : QT) : KT := Zcg 0 (K0 Q)
def K2 (Q : QT) : KT := Zgz kp 5 (K1 Q)
def K3 (Q : QT) (R5 : T5) : KT := rnd ((kp.find 1000005).getD []) (E5 R5) (K2 Q)
def L5 (Q : QT) (a0 : Pt) (n0 c0 : Nat) (e0 : Bool) (x1 x5 : Int) (h : Zaa) : Prop := Zed (Den pg fn.ntmps (C [1, 1, 1, 0, 1, 0, 0])) ((kp.find 1000005).getD []) (K2 Q) [(0, .slice a0 n0 c0 e0), (1, .int .i64 x1), (5, .int .i64 x5)] h
def A5x0 (Q : QT) (x1 : Int) (h : Zaa) : Prop := At (K1 Q) (.exit 0) [(1, .int .i64 x1), (4, .undef)] h
def L5t (Q : QT) (R5 : T5) (a0 : Pt) (n0 c0 : Nat) (e0 : Bool) (x1 x5 : Int) (h : Zaa) : Prop :=
 bcase (decide ((x5 : Int) < (((n0 : Nat) : Int)))) ((0 ≤ (x5 : Int) ∧ (x5 : Int) < (n0 : Nat)) ∧ (Zbl a0 fun I0 O1 => Zcx (Zbp h (.ptr (some (I0, O1 + (Int.toNat x5) * 2))) 2) fun K2 => Zam K2 fun C3 Z4 => Zbk (some C3) fun S5 => Zam Z4 fun C6 Z7 => Zbk (some C6) fun S8 => Zci Z7 (Zad pg Zmr [.agg [.str S5, .str S8], .int .i64 x1] h fun V9 H10 =>
 Zds .i64 (some V9) fun X11 => bcase (decide ((X11 : Int) < 0)) (Q (.int .i64 (-1)) H10) (R5 a0 n0 c0 e0 X11 (IntKind.wrap .i64 (x5 + 1)) H10)))) (A5x0 Q x1 h)
theorem Zqx (Q : QT) (R5 : T5) (a0 : Pt) (n0 c0 : Nat) (e0 : Bool) (x1 x5 : Int) (h : Zaa) (ht : L5t Q R5 a0 n0 c0 e0 x1 x5 h) : Den pg fn.ntmps (C [1, 1, 1, 0, 1, 0, 0]) [(0, .slice a0 n0 c0 e0), (1, .int .i64 x1), (5, .int .i64 x5)] h (K3 Q R5) :=
  Zay (kp := kp) (cast (by kernel_rfl) ht)
theorem L5ind (Q : QT) (a0 : Pt) (n0 c0 : Nat) (e0 : Bool) {G : Type} (J : G → Int → Int → Zaa → Prop) (m : G → Nat)
 (hr : ∀ (g : G) (x1 x5 : Int) (h : Zaa), J g x1 x5 h → ∀ (R5 : T5), (∀ g' (x1 x5 : Int) (h : Zaa), m g' < m g → J g' x1 x5 h → R5 a0 n0 c0 e0 x1 x5 h) → L5t Q R5 a0 n0 c0 e0 x1 x5 h)
 (g : G) (x1 x5 : Int) (h : Zaa) (hj : J g x1 x5 h) : L5 Q a0 n0 c0 e0 x1 x5 h := by
  refine Zed.inv2 (fun g => E5 fun a0' n0' c0' e0' x1 x5 h => a0 = a0' ∧ n0 = n0' ∧ c0 = c0' ∧ e0 = e0' ∧ J g x1 x5 h) (fun g => E5 fun a0' n0' c0' e0' x1 x5 h => a0 = a0' ∧ n0 = n0' ∧ c0 = c0' ∧ e0 = e0' ∧ ∃ g', m g' < m g ∧ J g' x1 x5 h) m ?_ ?_ g ⟨rfl, rfl, rfl, rfl, hj⟩
  · intro g env h hi
    obtain ⟨a0', n0', c0', e0', x1, x5, rfl, rfl, rfl, rfl, rfl, hj⟩ := Zhm hi
    exact Zqx Q _ a0 n0 c0 e0 x1 x5 h (hr g x1 x5 h hj (fun a0' n0' c0' e0' x1 x5 h => a0 = a0' ∧ n0 = n0' ∧ c0 = c0' ∧ e0 = e0' ∧ ∃ g', m g' < m g ∧ J g' x1 x5 h) fun g' x1 x5 h hlt hj => ⟨rfl, rfl, rfl, rfl, g', hlt, hj⟩)
  · intro g env h hi
    obtain ⟨a0', n0', c0', e0', x1, x5, rfl, rfl, rfl, rfl, rfl, g', hlt, hj⟩ := Zhm hi
    exact ⟨g', hlt, rfl, rfl, rfl, rfl, hj⟩
theorem A5x0i (Q : QT) (x1 : Int) (h : Zaa) (ht :
 Q (.int .i64 x1) h) : A5x0 Q x1 h :=
  At.mk (cast (by kernel_rfl) ht)
theorem call (a0 : Pt) (n0 c0 : Nat) (e0 : Bool) (x1 : Int) (h : Zaa) (Q : QT) (ht :
 bcase (decide (((IntKind.wrap .i64 (x1 - (((n0 : Nat) : Int)))) : Int) < 0)) (Q (.int .i64 (-1)) h) (L5 Q a0 n0 c0 e0 (IntKind.wrap .i64 (x1 - (((n0 : Nat) : Int)))) 0 h)) : Zad pg Zlo [.slice a0 n0 c0 e0, .int .i64 x1] h Q :=
  Zad.of_body kp (c := cod fn) (fn := fn) Go.Proofs.Tryz.func32 (by kernel_rfl) (by kernel_rfl) (Nat.le_of_ble_eq_true (by kernel_rfl))
    (cast (by kernel_rfl) ht)
end Zhd
namespace Zhf
noncomputable abbrev fn : Func := Go.Proofs.Tryz.f37
def kp : Zcb := [(3000003, [3]), (1000003, [0, 3, 4])]
noncomputable def C (p : List Nat) : Code := (cod fn).sub p
def KR (Q : QT) : KT := Zez pg fn.results.toList Q
abbrev T3 := Pt → Nat → Nat → Bool → Pt → Nat → Nat → Bool → Int → Zaa → Prop
def E3 (R3 : T3) (env : Env) (h : Zaa) : Prop := Zbt 0 env fun v env => xSl (some v) fun a0 n0 c0 e0 => Zbt 3 env fun v env => xSl (some v) fun a3 n3 c3 e3 => Zbt 4 env fun v env => Zei .i64 v fun x4 => Zjr env (R3 a0 n0 c0 e0 a3 n3 c3 e3 x4 h)
theorem Zes {R3 : T3} {env : Env} {h : Zaa} (hi : E3 R3 env h) : ∃ a0, ∃ n0, ∃ c0, ∃ e0, ∃ a3, ∃ n3, ∃ c3, ∃ e3, ∃ x4, env = [(0, .slice a0 n0 c0 e0), (3, .slice a3 n3 c3 e3), (4, .int .i64 x4)] ∧ R3 a0 n0 c0 e0 a3 n3 c3 e3 x4 h := by
  unfold E3 at hi
  have hi0 := hi
  clear hi
  obtain ⟨_, _, rfl, hi1⟩ := Zab hi0
  obtain ⟨a0, n0, c0, e0, rfl, hi2⟩ := Zbh hi1
  obtain ⟨_, _, rfl, hi3⟩ := Zab hi2
  obtain ⟨a3, n3, c3, e3, rfl, hi4⟩ := Zbh hi3
  obtain ⟨_, _, rfl, hi5⟩ := Zab hi4
  obtain ⟨x4, rfl, hi6⟩ := Zat hi5
  obtain ⟨rfl, hi7⟩ := Zbi hi6
  have hi := hi7
  exact ⟨a0, n0, c0, e0, a3, n3, c3, e3, x4, rfl, hi⟩
def K0 (Q : QT) : KT := andThen (fun env' h' => (match kp.find 4000006 with | some ks => Den pg fn.ntmps (C [1, 1, 1]) (env'.keep ks) h' (KR Q) | none => den pg fn.ntmps kp (C [1, 1, 1]) env' h' (KR Q))) (KR Q)
def K1 (Q : QT) : KT := Zcg 0 (K0 Q)
def K2 (Q : QT) : KT := Zgz kp 3 (K1 Q)
def K3 (Q : QT) (R3 : T3) : KT := rnd ((kp.find 1000003).getD []) (E3 R3) (K2 Q)
def L3 (Q : QT) (a0 : Pt) (n0 c0 : Nat) (e0 : Bool) (a3 : Pt) (n3 c3 : Nat) (e3 : Bool) (x4 : Int) (h : Zaa) : Prop := Zed (Den pg fn.ntmps (C [1, 1, 0, 1, 0, 0])) ((kp.find 1000003).getD []) (K2 Q) [(0, .slice a0 n0 c0 e0), (3, .slice a3 n3 c3 e3), (4, .int .i64 x4)] h
def Zpo (Q : QT) (a3 : Pt) (n3 c3 : Nat) (e3 : Bool) (h : Zaa) : Prop := At (K1 Q) (.exit 0) [(3, .slice a3 n3 c3 e3)] h
def L3t (Q : QT) (R3 : T3) (a0 : Pt) (n0 c0 : Nat) (e0 : Bool) (a3 : Pt) (n3 c3 : Nat) (e3 : Bool) (x4 : Int) (h : Zaa) : Prop :=
 bcase (decide ((x4 : Int) < (((n0 : Nat) : Int)))) ((0 ≤ (x4 : Int) ∧ (x4 : Int) < (n0 : Nat)) ∧ (Zbl a0 fun I1 O2 => Zcx (Zbp h (.ptr (some (I1, O2 + (Int.toNat x4) * 2))) 2) fun K3 => Zam K3 fun C4 Z5 => Zbk (some C4) fun S6 => Zam Z5 fun C7 Z8 => Zbk (some C7) fun S9 => Zci Z8 (Zad pg Zmy [.agg [.str S6, .str S9]] h fun V10 H11 =>
 Ztu V10 fun K12 => Zam K12 fun C13 Z14 => Zbk (some C13) fun S15 => Zam Z14 fun C16 Z17 => Zbk (some C16) fun S18 => Zci Z17 ((0 ≤ (x4 : Int) ∧ (x4 : Int) < (n3 : Nat)) ∧ (Zbl a3 fun I19 O20 => Zcu (Zbn H11 (.ptr (some (I19, O20 + (Int.toNat x4) * 2))) [.str S15, .str S18]) fun H21 => R3 a0 n0 c0 e0 a3 n3 c3 e3 (IntKind.wrap .i64 (x4 + 1)) H21))))) (Zpo Q a3 n3 c3 e3 h)
theorem Zme (Q : QT) (R3 : T3) (a0 : Pt) (n0 c0 : Nat) (e0 : Bool) (a3 : Pt) (n3 c3 : Nat) (e3 : Bool) (x4 : Int) (h : Zaa) (ht : L3t Q R3 a0 n0 c0 e0 a3 n3 c3 e3 x4 h) : Den pg fn.ntmps (C [1, 1, 0, 1, 0, 0]) [(0, .slice a0 n0 c0 e0), (3, .slice a3 n3 c3 e3), (4, .int .i64 x4)] h (K3 Q R3) :=
  Zay (kp := kp) (cast (by kernel_rfl) ht)
theorem L3ind (Q : QT) (a0 : Pt) (n0 c0 : Nat) (e0 : Bool) (a3 : Pt) (n3 c3 : Nat) (e3 : Bool) {G : Type} (J : G → Int → Zaa → Prop) (m : G → Nat)
 (hr : ∀ (g : G) (x4 : Int) (h : Zaa), J g x4 h → ∀ (R3 : T3), (∀ g' (x4 : Int) (h : Zaa), m g' < m g → J g' x4 h → R3 a0 n0 c0 e0 a3 n3 c3 e3 x4 h) → L3t Q R3 a0 n0 c0 e0 a3 n3 c3 e3 x4 h)
 (g : G) (x4 : Int) (h : Zaa) (hj : J g x4 h) : L3 Q a0 n0 c0 e0 a3 n3 c3 e3 x4 h := by
  refine Zed.inv2 (fun g => E3 fun a0' n0' c0' e0' a3' n3' c3' e3' x4 h => a0 = a0' ∧ n0 = n0' ∧ c0 = c0' ∧ e0 = e0' ∧ a3 = a3' ∧ n3 = n3' ∧ c3 = c3' ∧ e3 = e3' ∧ J g x4 h) (fun g => E3 fun a0' n0' c0' e0' a3' n3' c3' e3' x4 h => a0 = a0' ∧ n0 = n0' ∧ c0 = c0' ∧ e0 = e0' ∧ a3 = a3' ∧ n3 = n3' ∧ c3 = c3' ∧ e3 = e3' ∧ ∃ g', m g' < m g ∧ J g' x4 h) m ?_ ?_ g ⟨rfl, rfl, rfl, rfl, rfl, rfl, rfl, rfl, hj⟩
  · intro g env h hi
    obtain ⟨a0', n0', c0', e0', a3', n3', c3', e3', x4, rfl, rfl, rfl, rfl, rfl, rfl, rfl, rfl, rfl, hj⟩ := Zes hi
    exact Zme Q _ a0 n0 c0 e0 a3 n3 c3 e3 x4 h (hr g x4 h hj (fun a0' n0' c0' e0' a3' n3' c3' e3' x4 h => a0 = a0' ∧ n0 = n0' ∧ c0 = c0' ∧ e0 = e0' ∧ a3 = a3' ∧ n3 = n3' ∧ c3 = c3' ∧ e3 = e3' ∧ ∃ g', m g' < m g ∧ J g' x4 h) fun g' x4 h hlt hj => ⟨rfl, rfl, rfl, rfl, rfl, rfl, rfl, rfl, g', hlt, hj⟩)
  · intro g env h hi
    obtain ⟨a0', n0', c0', e0', a3', n3', c3', e3', x4, rfl, rfl, rfl, rfl, rfl, rfl, rfl, rfl, rfl, g', hlt, hj⟩ := Zes hi
    exact ⟨g', hlt, rfl, rfl, rfl, rfl, rfl, rfl, rfl, rfl, hj⟩
theorem A3x0i (Q : QT) (a3 : Pt) (n3 c3 : Nat) (e3 : Bool) (h : Zaa) (ht :
 Q (.slice a3 n3 c3 e3) h) : Zpo Q a3 n3 c3 e3 h :=
  At.mk (cast (by kernel_rfl) ht)
theorem call (a0 : Pt) (n0 c0 : Nat) (e0 : Bool) (h : Zaa) (Q : QT) (ht :
 IntKind.i64 = IntKind.i64 ∧ (IntKind.i64 = IntKind.i64 ∧ ((0 ≤ ((((n0 : Nat) : Int)) : Int) ∧ ((((n0 : Nat) : Int)) : Int) ≤ (((n0 : Nat) : Int)) ∧ ((((n0 : Nat) : Int)) : Int) * (((32 : Nat) : Int) + 1) ≤ 140737488355328) ∧ (Zdg (h ++ [.cells Zbo (reps (Int.toNat ((((n0 : Nat) : Int)))) [.str [], .str []]) false]) fun H0 => L3 Q a0 n0 c0 e0 (some (h.length, 0)) (Int.toNat ((((n0 : Nat) : Int)))) (Int.toNat ((((n0 : Nat) : Int)))) true 0 H0)))) : Zad pg Zlr [.slice a0 n0 c0 e0] h Q :=
  Zad.of_body kp (c := cod fn) (fn := fn) Go.Proofs.Tryz.func37 (by kernel_rfl) (by kernel_rfl) (Nat.le_of_ble_eq_true (by kernel_rfl))
    (cast (by kernel_rfl) ht)
end Zhf
namespace Zha
noncomputable abbrev fn : Func := Go.Proofs.Tryz.f42
def kp : Zcb := [(3000004, [4]), (1000004, [0, 1, 5]), (2000006, [26, 5, 0, 1])]
noncomputable def C (p : List Nat) : Code := (cod fn).sub p
def KR (Q : QT) : KT := Zez pg fn.results.toList Q
abbrev T4 := Pt → Nat → Nat → Bool → Pt → Nat → Nat → Bool → Int → Zaa → Prop
def E4 (R4 : T4) (env : Env) (h : Zaa) : Prop := Zbt 0 env fun v env => xSl (some v) fun a0 n0 c0 e0 => Zbt 1 env fun v env => xSl (some v) fun a1 n1 c1 e1 => Zbt 5 env fun v env => Zei .i64 v fun x5 => Zjr env (R4 a0 n0 c0 e0 a1 n1 c1 e1 x5 h)
theorem Zks {R4 : T4} {env : Env} {h : Zaa} (hi : E4 R4 env h) : ∃ a0, ∃ n0, ∃ c0, ∃ e0, ∃ a1, ∃ n1, ∃ c1, ∃ e1, ∃ x5, env = [(0, .slice a0 n0 c0 e0), (1, .slice a1 n1 c1 e1), (5, .int .i64 x5)] ∧ R4 a0 n0 c0 e0 a1 n1 c1 e1 x5 h := by
  unfold E4 at hi
  have hi0 := hi
  clear hi
  obtain ⟨_, _, rfl, hi1⟩ := Zab hi0
  obtain ⟨a0, n0, c0, e0, rfl, hi2⟩ := Zbh hi1
  obtain ⟨_, _, rfl, hi3⟩ := Zab hi2
  obtain ⟨a1, n1, c1, e1, rfl, hi4⟩ := Zbh hi3
  obtain ⟨_, _, rfl, hi5⟩ := Zab hi4
  obtain ⟨x5, rfl, hi6⟩ := Zat hi5
  obtain ⟨rfl, hi7⟩ := Zbi hi6
  have hi := hi7
  exact ⟨a0, n0, c0, e0, a1, n1, c1, e1, x5, rfl, hi⟩
def K0 (Q : QT) : KT := andThen (fun env' h' => (match kp.find 4000008 with | some ks => Den pg fn.ntmps (C [1, 1, 1]) (env'.keep ks) h' (KR Q) | none => den pg fn.ntmps kp (C [1, 1, 1]) env' h' (KR Q))) (KR Q)
def K1 (Q : QT) : KT := Zcg 0 (K0 Q)
def K2 (Q : QT) : KT := Zgz kp 4 (K1 Q)
def K3 (Q : QT) (R4 : T4) : KT := rnd ((kp.find 1000004).getD []) (E4 R4) (K2 Q)
def L4 (Q : QT) (a0 : Pt) (n0 c0 : Nat) (e0 : Bool) (a1 : Pt) (n1 c1 : Nat) (e1 : Bool) (x5 : Int) (h : Zaa) : Prop := Zed (Den pg fn.ntmps (C [1, 1, 0, 1, 0, 0])) ((kp.find 1000004).getD []) (K2 Q) [(0, .slice a0 n0 c0 e0), (1, .slice a1 n1 c1 e1), (5, .int .i64 x5)] h
def Zzd (Q : QT) (h : Zaa) : Prop := At (K1 Q) (.exit 0) [(4, .undef)] h
def L4t (Q : QT) (R4 : T4) (a0 : Pt) (n0 c0 : Nat) (e0 : Bool) (a1 : Pt) (n1 c1 : Nat) (e1 : Bool) (x5 : Int) (h : Zaa) : Prop :=
 bcase (decide ((x5 : Int) < (((n0 : Nat) : Int)))) ((0 ≤ (x5 : Int) ∧ (x5 : Int) < (n0 : Nat)) ∧ (Zbl a0 fun I0 O1 => (0 ≤ (x5 : Int) ∧ (x5 : Int) < (n1 : Nat)) ∧ (Zbl a1 fun I2 O3 => Zcx (Zbp h (.ptr (some (I0, O1 + (Int.toNat x5) * 2))) 2) fun K4 => Zam K4 fun C5 Z6 => Zbk (some C5) fun S7 => Zam Z6 fun C8 Z9 => Zbk (some C8) fun S10 => Zci Z9 (Zcx (Zbp h (.ptr (some (I2, O3 + (Int.toNat x5) * 2))) 2) fun K11 => Zam K11 fun C12 Z13 => Zbk (some C12) fun S14 => Zam Z13 fun C15 Z16 => Zbk (some C15) fun S17 => Zci Z16 ((Zbp h (.ptr (some (I0, O1 + (Int.toNat x5) * 2))) 2 = Zbp h (.ptr (some (I0, O1 + (Int.toNat x5) * 2))) 2) ∧ Zad pg Zmt [.agg [.str S7, .str S10], .agg [.str S14, .str S17]] h fun V18 H19 =>
 Zbz (some V18) fun B20 => bcase (!B20) (Q (.bool false) H19) (R4 a0 n0 c0 e0 a1 n1 c1 e1 (IntKind.wrap .i64 (x5 + 1)) H19)))))) (Zzd Q h)
theorem Zul (Q : QT) (R4 : T4) (a0 : Pt) (n0 c0 : Nat) (e0 : Bool) (a1 : Pt) (n1 c1 : Nat) (e1 : Bool) (x5 : Int) (h : Zaa) (ht : L4t Q R4 a0 n0 c0 e0 a1 n1 c1 e1 x5 h) : Den pg fn.ntmps (C [1, 1, 0, 1, 0, 0]) [(0, .slice a0 n0 c0 e0), (1, .slice a1 n1 c1 e1), (5, .int .i64 x5)] h (K3 Q R4) :=
  Zay (kp := kp) (cast (by kernel_rfl) ht)
theorem L4ind (Q : QT) (a0 : Pt) (n0 c0 : Nat) (e0 : Bool) (a1 : Pt) (n1 c1 : Nat) (e1 : Bool) {G : Type} (J : G → Int → Zaa → Prop) (m : G → Nat)
 (hr : ∀ (g : G) (x5 : Int) (h : Zaa), J g x5 h → ∀ (R4 : T4), (∀ g' (x5 : Int) (h : Zaa), m g' < m g → J g' x5 h → R4 a0 n0 c0 e0 a1 n1 c1 e1 x5 h) → L4t Q R4 a0 n0 c0 e0 a1 n1 c1 e1 x5 h)
 (g : G) (x5 : Int) (h : Zaa) (hj : J g x5 h) : L4 Q a0 n0 c0 e0 a1 n1 c1 e1 x5 h := by
  refine Zed.inv2 (fun g => E4 fun a0' n0' c0' e0' a1' n1' c1' e1' x5 h => a0 = a0' ∧ n0 = n0' ∧ c0 = c0' ∧ e0 = e0' ∧ a1 = a1' ∧ n1 = n1' ∧ c1 = c1' ∧ e1 = e1' ∧ J g x5 h) (fun g => E4 fun a0' n0' c0' e0' a1' n1' c1' e1' x5 h => a0 = a0' ∧ n0 = n0' ∧ c0 = c0' ∧ e0 = e0' ∧ a1 = a1' ∧ n1 = n1' ∧ c1 = c1' ∧ e1 = e1' ∧ ∃ g', m g' < m g ∧ J g' x5 h) m ?_ ?_ g ⟨rfl, rfl, rfl, rfl, rfl, rfl, rfl, rfl, hj⟩
  · intro g env h hi
    obtain ⟨a0', n0', c0', e0', a1', n1', c1', e1', x5, rfl, rfl, rfl, rfl, rfl, rfl, rfl, rfl, rfl, hj⟩ := Zks hi
    exact Zul Q _ a0 n0 c0 e0 a1 n1 c1 e1 x5 h (hr g x5 h hj (fun a0' n0' c0' e0' a1' n1' c1' e1' x5 h => a0 = a0' ∧ n0 = n0' ∧ c0 = c0' ∧ e0 = e0' ∧ a1 = a1' ∧ n1 = n1' ∧ c1 = c1' ∧ e1 = e1' ∧ ∃ g', m g' < m g ∧ J g' x5 h) fun g' x5 h hlt hj => ⟨rfl, rfl, rfl, rfl, rfl, rfl, rfl, rfl, g', hlt, hj⟩)
  · intro g env h hi
    obtain ⟨a0', n0', c0', e0', a1', n1', c1', e1', x5, rfl, rfl, rfl, rfl, rfl, rfl, rfl, rfl, rfl, g', hlt, hj⟩ := Zks hi
    exact ⟨g', hlt, rfl, rfl, rfl, rfl, rfl, rfl, rfl, rfl, hj⟩
theorem A4x0i (Q : QT) (h : Zaa) (ht :
 Q (.bool true) h) : Zzd Q h :=
  At.mk (cast (by kernel_rfl) ht)
theorem call (a0 : Pt) (n0 c0 : Nat) (e0 : Bool) (a1 : Pt) (n1 c1 : Nat) (e1 : Bool) (h : Zaa) (Q : QT) (ht :
 bcase (!((((n0 : Nat) : Int) : Int) == (((n1 : Nat) : Int)))) (Q (.bool false) h) (L4 Q a0 n0 c0 e0 a1 n1 c1 e1 0 h)) : Zad pg Zlm [.slice a0 n0 c0 e0, .slice a1 n1 c1 e1] h Q :=
  Zad.of_body kp (c := cod fn) (fn := fn) Go.Proofs.Tryz.func42 (by kernel_rfl) (by kernel_rfl) (Nat.le_of_ble_eq_true (by kernel_rfl))
    (cast (by kernel_rfl) ht)
end Zha
end Go.Sim

set_option maxRecDepth 100000
set_option linter.unusedVariables false
namespace Go.Sim
open Go Go.RowKit
namespace Zje
noncomputable abbrev fn : Func := Go.Proofs.Tryz.f88
def kp : Zcb := []
noncomputable def C (p : List Nat) : Code := (cod fn).sub p
def KR (Q : QT) : KT := Zez pg fn.results.toList Q
theorem call (x0x0 x0x1 : List Nat) (v1 : Zar) (h : Zaa) (Q : QT) (ht :
 Zdg (h ++ [.cells Zaj [.str x0x0, .str x0x1] false]) fun H0 => Zcx (Zbp H0 (v1) 2) fun K1 => Zam K1 fun C2 Z3 => xSl (some C2) fun A4 N5 C6 E7 => Zam Z3 fun C8 Z9 => xSl (some C8) fun A10 N11 C12 E13 => Zci Z9 (Zcx (Zbp H0 (.ptr (some (h.length, 0))) 2) fun K14 => Zam K14 fun C15 Z16 => Zbk (some C15) fun S17 => Zam Z16 fun C18 Z19 => Zbk (some C18) fun S20 => Zci Z19 (Zad pg Zlf [.agg [.slice A4 N5 C6 E7, .slice A10 N11 C12 E13], .agg [.str S17, .str S20]] H0 fun V21 H22 =>
 Zbz (some V21) fun B23 => Q (.bool (!B23)) H22))) : Zad pg Zbu [.agg [.str x0x0, .str x0x1], v1] h Q :=
  Zad.of_body kp (c := cod fn) (fn := fn) Go.Proofs.Tryz.func88 (by kernel_rfl) (by kernel_rfl) (Nat.le_of_ble_eq_true (by kernel_rfl))
    (cast (by kernel_rfl) ht)
end Zje
namespace Zbf
noncomputable abbrev fn : Func := Go.Proofs.Tryz.f124
def kp : Zcb := [(3000002, [4]), (1000002, [0, 1, 7, 8])]
noncomputable def C (p : List Nat) : Code := (cod fn).sub p
def KR (Q : QT) : KT := Zez pg fn.results.toList Q
abbrev T2 := Pt → Nat → Nat → Bool → Zar → Int → Int → Zaa → Prop
def E2 (R2 : T2) (env : Env) (h : Zaa) : Prop := Zbt 0 env fun v env => xSl (some v) fun a0 n0 c0 e0 => Zbt 1 env fun v env => eFn Zbu v fun cs => Zam cs fun c cs' => Zyj (some c) fun v1x0 => Zci cs' (Zbt 7 env fun v env => Zei .i64 v fun x7 => Zbt 8 env fun v env => Zei .i64 v fun x8 => Zjr env (R2 a0 n0 c0 e0 v1x0 x7 x8 h))
theorem Zdx {R2 : T2} {env : Env} {h : Zaa} (hi : E2 R2 env h) : ∃ a0, ∃ n0, ∃ c0, ∃ e0, ∃ v1x0, ∃ x7, ∃ x8, env = [(0, .slice a0 n0 c0 e0), (1, .fn Zbu [v1x0]), (7, .int .i64 x7), (8, .int .i64 x8)] ∧ R2 a0 n0 c0 e0 v1x0 x7 x8 h := by
  unfold E2 at hi
  have hi0 := hi
  clear hi
  obtain ⟨_, _, rfl, hi1⟩ := Zab hi0
  obtain ⟨a0, n0, c0, e0, rfl, hi2⟩ := Zbh hi1
  obtain ⟨_, _, rfl, hi3⟩ := Zab hi2
  obtain ⟨cs, rfl, hi4⟩ := Ztv hi3
  obtain ⟨c, cs', rfl, hi5⟩ := Zpy hi4
  obtain ⟨v1x0, hx, hi6⟩ := Zmd hi5
  replace hx := (Option.some.inj hx).symm
  subst hx
  obtain ⟨rfl, hi7⟩ := Zrt hi6
  obtain ⟨_, _, rfl, hi8⟩ := Zab hi7
  obtain ⟨x7, rfl, hi9⟩ := Zat hi8
  obtain ⟨_, _, rfl, hi10⟩ := Zab hi9
  obtain ⟨x8, rfl, hi11⟩ := Zat hi10
  obtain ⟨rfl, hi12⟩ := Zbi hi11
  have hi := hi12
  exact ⟨a0, n0, c0, e0, v1x0, x7, x8, rfl, hi⟩
def K0 (Q : QT) : KT := andThen (fun env' h' => (match kp.find 4000007 with | some ks => Den pg fn.ntmps (C [1, 1]) (env'.keep ks) h' (KR Q) | none => den pg fn.ntmps kp (C [1, 1]) env' h' (KR Q))) (KR Q)
def K1 (Q : QT) : KT := Zcg 0 (K0 Q)
def K2 (Q : QT) : KT := Zgz kp 2 (K1 Q)
def K3 (Q : QT) (R2 : T2) : KT := rnd ((kp.find 1000002).getD []) (E2 R2) (K2 Q)
def L2 (Q : QT) (a0 : Pt) (n0 c0 : Nat) (e0 : Bool) (v1x0 : Zar) (x7 x8 : Int) (h : Zaa) : Prop := Zed (Den pg fn.ntmps (C [1, 0, 1, 0, 0])) ((kp.find 1000002).getD []) (K2 Q) [(0, .slice a0 n0 c0 e0), (1, .fn Zbu [v1x0]), (7, .int .i64 x7), (8, .int .i64 x8)] h
def Zno (Q : QT) (h : Zaa) : Prop := At (K1 Q) (.exit 0) [(4, .undef)] h
def L2t (Q : QT) (R2 : T2) (a0 : Pt) (n0 c0 : Nat) (e0 : Bool) (v1x0 : Zar) (x7 x8 : Int) (h : Zaa) : Prop :=
 bcase (decide ((x8 : Int) < x7)) ((0 ≤ (x8 : Int) ∧ (x8 : Int) < (n0 : Nat)) ∧ (Zbl a0 fun I0 O1 => Zcx (Zbp h (.ptr (some (I0, O1 + (Int.toNat x8) * 2))) 2) fun K2 => Zam K2 fun C3 Z4 => Zbk (some C3) fun S5 => Zam Z4 fun C6 Z7 => Zbk (some C6) fun S8 => Zci Z7 (Zad pg Zbu [.agg [.str S5, .str S8], v1x0] h fun V9 H10 =>
 Zbz (some V9) fun B11 => bcase B11 (Q (.int .i64 x8) H10) (R2 a0 n0 c0 e0 v1x0 x7 (IntKind.wrap .i64 (x8 + 1)) H10)))) (Zno Q h)
theorem Zkf (Q : QT) (R2 : T2) (a0 : Pt) (n0 c0 : Nat) (e0 : Bool) (v1x0 : Zar) (x7 x8 : Int) (h : Zaa) (ht : L2t Q R2 a0 n0 c0 e0 v1x0 x7 x8 h) : Den pg fn.ntmps (C [1, 0, 1, 0, 0]) [(0, .slice a0 n0 c0 e0), (1, .fn Zbu [v1x0]), (7, .int .i64 x7), (8, .int .i64 x8)] h (K3 Q R2) :=
  Zay (kp := kp) (cast (by kernel_rfl) ht)
theorem L2ind (Q : QT) (a0 : Pt) (n0 c0 : Nat) (e0 : Bool) (v1x0 : Zar) (x7 : Int) {G : Type} (J : G → Int → Zaa → Prop) (m : G → Nat)
 (hr : ∀ (g : G) (x8 : Int) (h : Zaa), J g x8 h → ∀ (R2 : T2), (∀ g' (x8 : Int) (h : Zaa), m g' < m g → J g' x8 h → R2 a0 n0 c0 e0 v1x0 x7 x8 h) → L2t Q R2 a0 n0 c0 e0 v1x0 x7 x8 h)
 (g : G) (x8 : Int) (h : Zaa) (hj : J g x8 h) : L2 Q a0 n0 c0 e0 v1x0 x7 x8 h := by
  refine Zed.inv2 (fun g => E2 fun a0' n0' c0' e0' v1x0' x7' x8 h => a0 = a0' ∧ n0 = n0' ∧ c0 = c0' ∧ e0 = e0' ∧ v1x0 = v1x0' ∧ x7 = x7' ∧ J g x8 h) (fun g => E2 fun a0' n0' c0' e0' v1x0' x7' x8 h => a0 = a0' ∧ n0 = n0' ∧ c0 = c0' ∧ e0 = e0' ∧ v1x0 = v1x0' ∧ x7 = x7' ∧ ∃ g', m g' < m g ∧ J g' x8 h) m ?_ ?_ g ⟨rfl, rfl, rfl, rfl, rfl, rfl, hj⟩
  · intro g env h hi
    obtain ⟨a0', n0', c0', e0', v1x0', x7', x8, rfl, rfl, rfl, rfl, rfl, rfl, rfl, hj⟩ := Zdx hi
    exact Zkf Q _ a0 n0 c0 e0 v1x0 x7 x8 h (hr g x8 h hj (fun a0' n0' c0' e0' v1x0' x7' x8 h => a0 = a0' ∧ n0 = n0' ∧ c0 = c0' ∧ e0 = e0' ∧ v1x0 = v1x0' ∧ x7 = x7' ∧ ∃ g', m g' < m g ∧ J g' x8 h) fun g' x8 h hlt hj => ⟨rfl, rfl, rfl, rfl, rfl, rfl, g', hlt, hj⟩)
  · intro g env h hi
    obtain ⟨a0', n0', c0', e0', v1x0', x7', x8, rfl, rfl, rfl, rfl, rfl, rfl, rfl, g', hlt, hj⟩ := Zdx hi
    exact ⟨g', hlt, rfl, rfl, rfl, rfl, rfl, rfl, hj⟩
theorem A2x0i (Q : QT) (h : Zaa) (ht :
 Q (.int .i64 (-1)) h) : Zno Q h :=
  At.mk (cast (by kernel_rfl) ht)
theorem call (a0 : Pt) (n0 c0 : Nat) (e0 : Bool) (v1x0 : Zar) (h : Zaa) (Q : QT) (ht :
 L2 Q a0 n0 c0 e0 v1x0 (((n0 : Nat) : Int)) 0 h) : Zad pg Zdh [.slice a0 n0 c0 e0, .fn Zbu [v1x0]] h Q :=
  Zad.of_body kp (c := cod fn) (fn := fn) Go.Proofs.Tryz.func124 (by kernel_rfl) (by kernel_rfl) (Nat.le_of_ble_eq_true (by kernel_rfl))
    (cast (by kernel_rfl) ht)
end Zbf
namespace Zmj
noncomputable abbrev fn : Func := Go.Proofs.Tryz.f46
def kp : Zcb := []
noncomputable def C (p : List Nat) : Code := (cod fn).sub p
def KR (Q : QT) : KT := Zez pg fn.results.toList Q
theorem call (a0x0 : Pt) (n0x0 c0x0 : Nat) (e0x0 : Bool) (a0x1 : Pt) (n0x1 c0x1 : Nat) (e0x1 : Bool) (a1 : Pt) (n1 c1 : Nat) (e1 : Bool) (h : Zaa) (Q : QT) (ht :
 Zdg (h ++ [.cells Zak [.slice a0x0 n0x0 c0x0 e0x0, .slice a0x1 n0x1 c0x1 e0x1] false]) fun H0 => Zcx (Zbp H0 (.ptr (some (h.length, 0))) 2) fun K1 => Zam K1 fun C2 Z3 => xSl (some C2) fun A4 N5 C6 E7 => Zam Z3 fun C8 Z9 => xSl (some C8) fun A10 N11 C12 E13 => Zci Z9 (Zad pg Zht [.agg [.slice A4 N5 C6 E7, .slice A10 N11 C12 E13]] H0 fun V14 H15 =>
 Zbz (some V14) fun B16 => bcase B16 (bcase (decide (((((n1 : Nat) : Int)) : Int) ≤ 6)) (Zad pg Zeb [.slice a1 n1 c1 e1, .fn Zbu [.ptr (some (h.length, 0))]] H15 fun V17 H18 =>
 Zbz (some V17) fun B19 => Q (.bool (!B19)) H18) (Q (.bool false) H15)) (Q (.bool false) H15))) : Zad pg Ziz [.agg [.slice a0x0 n0x0 c0x0 e0x0, .slice a0x1 n0x1 c0x1 e0x1], .slice a1 n1 c1 e1] h Q :=
  Zad.of_body kp (c := cod fn) (fn := fn) Go.Proofs.Tryz.func46 (by kernel_rfl) (by kernel_rfl) (Nat.le_of_ble_eq_true (by kernel_rfl))
    (cast (by kernel_rfl) ht)
end Zmj
namespace Zck
noncomputable abbrev fn : Func := Go.Proofs.Tryz.f87
def kp : Zcb := []
noncomputable def C (p : List Nat) : Code := (cod fn).sub p
def KR (Q : QT) : KT := Zez pg fn.results.toList Q
theorem call (a0 : Pt) (n0 c0 : Nat) (e0 : Bool) (v1x0 : Zar) (h : Zaa) (Q : QT) (ht :
 Zad pg Zdh [.slice a0 n0 c0 e0, .fn Zbu [v1x0]] h fun V0 H1 =>
 Zds .i64 (some V0) fun X2 => Q (.bool (decide ((X2 : Int) ≥ 0))) H1) : Zad pg Zeb [.slice a0 n0 c0 e0, .fn Zbu [v1x0]] h Q :=
  Zad.of_body kp (c := cod fn) (fn := fn) Go.Proofs.Tryz.func87 (by kernel_rfl) (by kernel_rfl) (Nat.le_of_ble_eq_true (by kernel_rfl))
    (cast (by kernel_rfl) ht)
end Zck
namespace Zfv
noncomputable abbrev fn : Func := Go.Proofs.Tryz.f44
def kp : Zcb := [(3000002, [2, 1, 4]), (1000002, [1, 2, 7, 8, 9])]
noncomputable def C (p : List Nat) : Code := (cod fn).sub p
def KR (Q : QT) : KT := Zez pg fn.results.toList Q
abbrev T2 := Pt → Nat → Nat → Bool → Nat → Nat → Pt → Nat → Nat → Bool → Int → Int → Zaa → Prop
def E2 (R2 : T2) (env : Env) (h : Zaa) : Prop := Zbt 1 env fun v env => xSl (some v) fun a1 n1 c1 e1 => Zbt 2 env fun v env => Zkx (some v) fun a => Zbl a fun i2 o2 => Zbt 7 env fun v env => xSl (some v) fun a7 n7 c7 e7 => Zbt 8 env fun v env => Zei .i64 v fun x8 => Zbt 9 env fun v env => Zei .i64 v fun x9 => Zjr env (R2 a1 n1 c1 e1 i2 o2 a7 n7 c7 e7 x8 x9 h)
theorem Zdx {R2 : T2} {env : Env} {h : Zaa} (hi : E2 R2 env h) : ∃ a1, ∃ n1, ∃ c1, ∃ e1, ∃ i2, ∃ o2, ∃ a7, ∃ n7, ∃ c7, ∃ e7, ∃ x8, ∃ x9, env = [(1, .slice a1 n1 c1 e1), (2, .ptr (some (i2, o2))), (7, .slice a7 n7 c7 e7), (8, .int .i64 x8), (9, .int .i64 x9)] ∧ R2 a1 n1 c1 e1 i2 o2 a7 n7 c7 e7 x8 x9 h := by
  unfold E2 at hi
  have hi0 := hi
  clear hi
  obtain ⟨_, _, rfl, hi1⟩ := Zab hi0
  obtain ⟨a1, n1, c1, e1, rfl, hi2⟩ := Zbh hi1
  obtain ⟨_, _, rfl, hi3⟩ := Zab hi2
  obtain ⟨a, rfl, hi4⟩ := Zce hi3
  obtain ⟨i2, o2, rfl, hi5⟩ := Zby hi4
  obtain ⟨_, _, rfl, hi6⟩ := Zab hi5
  obtain ⟨a7, n7, c7, e7, rfl, hi7⟩ := Zbh hi6
  obtain ⟨_, _, rfl, hi8⟩ := Zab hi7
  obtain ⟨x8, rfl, hi9⟩ := Zat hi8
  obtain ⟨_, _, rfl, hi10⟩ := Zab hi9
  obtain ⟨x9, rfl, hi11⟩ := Zat hi10
  obtain ⟨rfl, hi12⟩ := Zbi hi11
  have hi := hi12
  exact ⟨a1, n1, c1, e1, i2, o2, a7, n7, c7, e7, x8, x9, rfl, hi⟩
def K0 (Q : QT) : KT := andThen (fun env' h' => (match kp.find 4000007 with | some ks => Den pg fn.ntmps (C [1, 1]) (env'.keep ks) h' (KR Q) | none => den pg fn.ntmps kp (C [1, 1]) env' h' (KR Q))) (KR Q)
def K1 (Q : QT) : KT := Zcg 0 (K0 Q)
def K2 (Q : QT) : KT := Zgz kp 2 (K1 Q)
def K3 (Q : QT) (R2 : T2) : KT := rnd ((kp.find 1000002).getD []) (E2 R2) (K2 Q)
def L2 (Q : QT) (a1 : Pt) (n1 c1 : Nat) (e1 : Bool) (i2 o2 : Nat) (a7 : Pt) (n7 c7 : Nat) (e7 : Bool) (x8 x9 : Int) (h : Zaa) : Prop := Zed (Den pg fn.ntmps (C [1, 0, 1, 0, 0])) ((kp.find 1000002).getD []) (K2 Q) [(1, .slice a1 n1 c1 e1), (2, .ptr (some (i2, o2))), (7, .slice a7 n7 c7 e7), (8, .int .i64 x8), (9, .int .i64 x9)] h
def Zno (Q : QT) (i2 o2 : Nat) (a1 : Pt) (n1 c1 : Nat) (e1 : Bool) (h : Zaa) : Prop := At (K1 Q) (.exit 0) [(2, .ptr (some (i2, o2))), (1, .slice a1 n1 c1 e1), (4, .undef)] h
def L2t (Q : QT) (R2 : T2) (a1 : Pt) (n1 c1 : Nat) (e1 : Bool) (i2 o2 : Nat) (a7 : Pt) (n7 c7 : Nat) (e7 : Bool) (x8 x9 : Int) (h : Zaa) : Prop :=
 bcase (decide ((x9 : Int) < x8)) ((0 ≤ (x9 : Int) ∧ (x9 : Int) < (n7 : Nat)) ∧ (Zbl a7 fun I1 O2 => Zcx (Zbp h (.ptr (some (I1, O2 + (Int.toNat x9) * 2))) 2) fun K3 => Zam K3 fun C4 Z5 => Zbk (some C4) fun S6 => Zam Z5 fun C7 Z8 => Zbk (some C7) fun S9 => Zci Z8 (Zdg (h ++ [.cells Zaj [.str [], .str []] false]) fun H10 => Zcu (Zbn H10 (.ptr (some (h.length, 0))) [.str S6, .str S9]) fun H11 => Zcx (Zbp H11 (.ptr (some (i2, o2))) 2) fun K12 => Zam K12 fun C13 Z14 => xSl (some C13) fun A15 N16 C17 E18 => Zam Z14 fun C19 Z20 => xSl (some C19) fun A21 N22 C23 E24 => Zci Z20 (Zcx (Zbp H11 (.ptr (some (h.length, 0))) 2) fun K25 => Zam K25 fun C26 Z27 => Zbk (some C26) fun S28 => Zam Z27 fun C29 Z30 => Zbk (some C29) fun S31 => Zci Z30 (Zad pg Zip [.agg [.slice A15 N16 C17 E18, .slice A21 N22 C23 E24], .agg [.str S28, .str S31]] H11 fun V32 H33 =>
 Zbz (some V32) fun B34 => bcase (!B34) (Q (.bool false) H33) (R2 a1 n1 c1 e1 i2 o2 a7 n7 c7 e7 x8 (IntKind.wrap .i64 (x9 + 1)) H33)))))) (Zno Q i2 o2 a1 n1 c1 e1 h)
theorem Zkf (Q : QT) (R2 : T2) (a1 : Pt) (n1 c1 : Nat) (e1 : Bool) (i2 o2 : Nat) (a7 : Pt) (n7 c7 : Nat) (e7 : Bool) (x8 x9 : Int) (h : Zaa) (ht : L2t Q R2 a1 n1 c1 e1 i2 o2 a7 n7 c7 e7 x8 x9 h) : Den pg fn.ntmps (C [1, 0, 1, 0, 0]) [(1, .slice a1 n1 c1 e1), (2, .ptr (some (i2, o2))), (7, .slice a7 n7 c7 e7), (8, .int .i64 x8), (9, .int .i64 x9)] h (K3 Q R2) :=
  Zay (kp := kp) (cast (by kernel_rfl) ht)
theorem L2ind (Q : QT) (a1 : Pt) (n1 c1 : Nat) (e1 : Bool) (i2 o2 : Nat) (a7 : Pt) (n7 c7 : Nat) (e7 : Bool) (x8 : Int) {G : Type} (J : G → Int → Zaa → Prop) (m : G → Nat)
 (hr : ∀ (g : G) (x9 : Int) (h : Zaa), J g x9 h → ∀ (R2 : T2), (∀ g' (x9 : Int) (h : Zaa), m g' < m g → J g' x9 h → R2 a1 n1 c1 e1 i2 o2 a7 n7 c7 e7 x8 x9 h) → L2t Q R2 a1 n1 c1 e1 i2 o2 a7 n7 c7 e7 x8 x9 h)
 (g : G) (x9 : Int) (h : Zaa) (hj : J g x9 h) : L2 Q a1 n1 c1 e1 i2 o2 a7 n7 c7 e7 x8 x9 h := by
  refine Zed.inv2 (fun g => E2 fun a1' n1' c1' e1' i2' o2' a7' n7' c7' e7' x8' x9 h => a1 = a1' ∧ n1 = n1' ∧ c1 = c1' ∧ e1 = e1' ∧ i2 = i2' ∧ o2 = o2' ∧ a7 = a7' ∧ n7 = n7' ∧ c7 = c7' ∧ e7 = e7' ∧ x8 = x8' ∧ J g x9 h) (fun g => E2 fun a1' n1' c1' e1' i2' o2' a7' n7' c7' e7' x8' x9 h => a1 = a1' ∧ n1 = n1' ∧ c1 = c1' ∧ e1 = e1' ∧ i2 = i2' ∧ o2 = o2' ∧ a7 = a7' ∧ n7 = n7' ∧ c7 = c7' ∧ e7 = e7' ∧ x8 = x8' ∧ ∃ g', m g' < m g ∧ J g' x9 h) m ?_ ?_ g ⟨rfl, rfl, rfl, rfl, rfl, rfl, rfl, rfl, rfl, rfl, rfl, hj⟩
  · intro g env h hi
    obtain ⟨a1', n1', c1', e1', i2', o2', a7', n7', c7', e7', x8', x9, rfl, rfl, rfl, rfl, rfl, rfl, rfl, rfl, rfl, rfl, rfl, rfl, hj⟩ := Zdx hi
    exact Zkf Q _ a1 n1 c1 e1 i2 o2 a7 n7 c7 e7 x8 x9 h (hr g x9 h hj (fun a1' n1' c1' e1' i2' o2' a7' n7' c7' e7' x8' x9 h => a1 = a1' ∧ n1 = n1' ∧ c1 = c1' ∧ e1 = e1' ∧ i2 = i2' ∧ o2 = o2' ∧ a7 = a7' ∧ n7 = n7' ∧ c7 = c7' ∧ e7 = e7' ∧ x8 = x8' ∧ ∃ g', m g' < m g ∧ J g' x9 h) fun g' x9 h hlt hj => ⟨rfl, rfl, rfl, rfl, rfl, rfl, rfl, rfl, rfl, rfl, rfl, g', hlt, hj⟩)
  · intro g env h hi
    obtain ⟨a1', n1', c1', e1', i2', o2', a7', n7', c7', e7', x8', x9, rfl, rfl, rfl, rfl, rfl, rfl, rfl, rfl, rfl, rfl, rfl, rfl, g', hlt, hj⟩ := Zdx hi
    exact ⟨g', hlt, rfl, rfl, rfl, rfl, rfl, rfl, rfl, rfl, rfl, rfl, rfl, hj⟩
theorem A2x0i (Q : QT) (i2 o2 : Nat) (a1 : Pt) (n1 c1 : Nat) (e1 : Bool) (h : Zaa) (ht :
 Zcx (Zbp h (.ptr (some (i2, o2))) 2) fun K35 => Zam K35 fun C36 Z37 => xSl (some C36) fun A38 N39 C40 E41 => Zam Z37 fun C42 Z43 => xSl (some C42) fun A44 N45 C46 E47 => Zci Z43 (Zad pg Zgk [.agg [.slice A38 N39 C40 E41, .slice A44 N45 C46 E47]] h fun V48 H49 =>
 Zbz (some V48) fun B50 => bcase B50 (Q (.bool (decide (((((n1 : Nat) : Int)) : Int) ≤ 6))) H49) (Q (.bool false) H49))) : Zno Q i2 o2 a1 n1 c1 e1 h :=
  At.mk (cast (by kernel_rfl) ht)
theorem call (a0x0 : Pt) (n0x0 c0x0 : Nat) (e0x0 : Bool) (a0x1 : Pt) (n0x1 c0x1 : Nat) (e0x1 : Bool) (a1 : Pt) (n1 c1 : Nat) (e1 : Bool) (h : Zaa) (Q : QT) (ht :
 Zdg (h ++ [.cells Zak [.slice a0x0 n0x0 c0x0 e0x0, .slice a0x1 n0x1 c0x1 e0x1] false]) fun H0 => L2 Q a1 n1 c1 e1 h.length 0 a1 n1 c1 e1 (((n1 : Nat) : Int)) 0 H0) : Zad pg Zjc [.agg [.slice a0x0 n0x0 c0x0 e0x0, .slice a0x1 n0x1 c0x1 e0x1], .slice a1 n1 c1 e1] h Q :=
  Zad.of_body kp (c := cod fn) (fn := fn) Go.Proofs.Tryz.func44 (by kernel_rfl) (by kernel_rfl) (Nat.le_of_ble_eq_true (by kernel_rfl))
    (cast (by kernel_rfl) ht)
end Zfv
end Go.Sim

set_option maxRecDepth 100000
set_option linter.unusedVariables false
namespace Go.Sim
open Go Go.RowKit
namespace Zjv
noncomputable abbrev fn : Func := Go.Proofs.Tryz.f59
def kp : Zcb := []
noncomputable def C (p : List Nat) : Code := (cod fn).sub p
def KR (Q : QT) : KT := Zez pg fn.results.toList Q
theorem call (x0x0 x0x1 : List Nat) (a0x2 : Pt) (n0x2 c0x2 : Nat) (e0x2 : Bool) (v1 : Zar) (h : Zaa) (Q : QT) (ht :
 Zdg (h ++ [.cells Zas [.str x0x0, .str x0x1, .slice a0x2 n0x2 c0x2 e0x2] false]) fun H0 => Zcx (Zbp H0 (v1) 2) fun K1 => Zam K1 fun C2 Z3 => xSl (some C2) fun A4 N5 C6 E7 => Zam Z3 fun C8 Z9 => xSl (some C8) fun A10 N11 C12 E13 => Zci Z9 (Zcx (Zbp H0 (.ptr (some (h.length, 0))) 3) fun K14 => Zam K14 fun C15 Z16 => Zbk (some C15) fun S17 => Zam Z16 fun C18 Z19 => Zbk (some C18) fun S20 => Zam Z19 fun C21 Z22 => xSl (some C21) fun A23 N24 C25 E26 => Zci Z22 (Zad pg Zhw [.agg [.slice A4 N5 C6 E7, .slice A10 N11 C12 E13], .agg [.str S17, .str S20, .slice A23 N24 C25 E26]] H0 fun V27 H28 =>
 Zbz (some V27) fun B29 => Q (.bool (!B29)) H28))) : Zad pg Zbv [.agg [.str x0x0, .str x0x1, .slice a0x2 n0x2 c0x2 e0x2], v1] h Q :=
  Zad.of_body kp (c := cod fn) (fn := fn) Go.Proofs.Tryz.func59 (by kernel_rfl) (by kernel_rfl) (Nat.le_of_ble_eq_true (by kernel_rfl))
    (cast (by kernel_rfl) ht)
end Zjv
namespace Zba
noncomputable abbrev fn : Func := Go.Proofs.Tryz.f101
def kp : Zcb := [(3000002, [4]), (1000002, [0, 1, 7, 8])]
noncomputable def C (p : List Nat) : Code := (cod fn).sub p
def KR (Q : QT) : KT := Zez pg fn.results.toList Q
abbrev T2 := Pt → Nat → Nat → Bool → Zar → Int → Int → Zaa → Prop
def E2 (R2 : T2) (env : Env) (h : Zaa) : Prop := Zbt 0 env fun v env => xSl (some v) fun a0 n0 c0 e0 => Zbt 1 env fun v env => eFn Zbv v fun cs => Zam cs fun c cs' => Zyj (some c) fun v1x0 => Zci cs' (Zbt 7 env fun v env => Zei .i64 v fun x7 => Zbt 8 env fun v env => Zei .i64 v fun x8 => Zjr env (R2 a0 n0 c0 e0 v1x0 x7 x8 h))
theorem Zdx {R2 : T2} {env : Env} {h : Zaa} (hi : E2 R2 env h) : ∃ a0, ∃ n0, ∃ c0, ∃ e0, ∃ v1x0, ∃ x7, ∃ x8, env = [(0, .slice a0 n0 c0 e0), (1, .fn Zbv [v1x0]), (7, .int .i64 x7), (8, .int .i64 x8)] ∧ R2 a0 n0 c0 e0 v1x0 x7 x8 h := by
  unfold E2 at hi
  have hi0 := hi
  clear hi
  obtain ⟨_, _, rfl, hi1⟩ := Zab hi0
  obtain ⟨a0, n0, c0, e0, rfl, hi2⟩ := Zbh hi1
  obtain ⟨_, _, rfl, hi3⟩ := Zab hi2
  obtain ⟨cs, rfl, hi4⟩ := Ztv hi3
  obtain ⟨c, cs', rfl, hi5⟩ := Zpy hi4
  obtain ⟨v1x0, hx, hi6⟩ := Zmd hi5
  replace hx := (Option.some.inj hx).symm
  subst hx
  obtain ⟨rfl, hi7⟩ := Zrt hi6
  obtain ⟨_, _, rfl, hi8⟩ := Zab hi7
  obtain ⟨x7, rfl, hi9⟩ := Zat hi8
  obtain ⟨_, _, rfl, hi10⟩ := Zab hi9
  obtain ⟨x8, rfl, hi11⟩ := Zat hi10
  obtain ⟨rfl, hi12⟩ := Zbi hi11
  have hi := hi12
  exact ⟨a0, n0, c0, e0, v1x0, x7, x8, rfl, hi⟩
def K0 (Q : QT) : KT := andThen (fun env' h' => (match kp.find 4000007 with | some ks => Den pg fn.ntmps (C [1, 1]) (env'.keep ks) h' (KR Q) | none => den pg fn.ntmps kp (C [1, 1]) env' h' (KR Q))) (KR Q)
def K1 (Q : QT) : KT := Zcg 0 (K0 Q)
def K2 (Q : QT) : KT := Zgz kp 2 (K1 Q)
def K3 (Q : QT) (R2 : T2) : KT := rnd ((kp.find 1000002).getD []) (E2 R2) (K2 Q)
def L2 (Q : QT) (a0 : Pt) (n0 c0 : Nat) (e0 : Bool) (v1x0 : Zar) (x7 x8 : Int) (h : Zaa) : Prop := Zed (Den pg fn.ntmps (C [1, 0, 1, 0, 0])) ((kp.find 1000002).getD []) (K2 Q) [(0, .slice a0 n0 c0 e0), (1, .fn Zbv [v1x0]), (7, .int .i64 x7), (8, .int .i64 x8)] h
def Zno (Q : QT) (h : Zaa) : Prop := At (K1 Q) (.exit 0) [(4, .undef)] h
def L2t (Q : QT) (R2 : T2) (a0 : Pt) (n0 c0 : Nat) (e0 : Bool) (v1x0 : Zar) (x7 x8 : Int) (h : Zaa) : Prop :=
 bcase (decide ((x8 : Int) < x7)) ((0 ≤ (x8 : Int) ∧ (x8 : Int) < (n0 : Nat)) ∧ (Zbl a0 fun I0 O1 => Zcx (Zbp h (.ptr (some (I0, O1 + (Int.toNat x8) * 3))) 3) fun K2 => Zam K2 fun C3 Z4 => Zbk (some C3) fun S5 => Zam Z4 fun C6 Z7 => Zbk (some C6) fun S8 => Zam Z7 fun C9 Z10 => xSl (some C9) fun A11 N12 C13 E14 => Zci Z10 (Zad pg Zbv [.agg [.str S5, .str S8, .slice A11 N12 C13 E14], v1x0] h fun V15 H16 =>
 Zbz (some V15) fun B17 => bcase B17 (Q (.int .i64 x8) H16) (R2 a0 n0 c0 e0 v1x0 x7 (IntKind.wrap .i64 (x8 + 1)) H16)))) (Zno Q h)
theorem Zkf (Q : QT) (R2 : T2) (a0 : Pt) (n0 c0 : Nat) (e0 : Bool) (v1x0 : Zar) (x7 x8 : Int) (h : Zaa) (ht : L2t Q R2 a0 n0 c0 e0 v1x0 x7 x8 h) : Den pg fn.ntmps (C [1, 0, 1, 0, 0]) [(0, .slice a0 n0 c0 e0), (1, .fn Zbv [v1x0]), (7, .int .i64 x7), (8, .int .i64 x8)] h (K3 Q R2) :=
  Zay (kp := kp) (cast (by kernel_rfl) ht)
theorem L2ind (Q : QT) (a0 : Pt) (n0 c0 : Nat) (e0 : Bool) (v1x0 : Zar) (x7 : Int) {G : Type} (J : G → Int → Zaa → Prop) (m : G → Nat)
 (hr : ∀ (g : G) (x8 : Int) (h : Zaa), J g x8 h → ∀ (R2 : T2), (∀ g' (x8 : Int) (h : Zaa), m g' < m g → J g' x8 h → R2 a0 n0 c0 e0 v1x0 x7 x8 h) → L2t Q R2 a0 n0 c0 e0 v1x0 x7 x8 h)
 (g : G) (x8 : Int) (h : Zaa) (hj : J g x8 h) : L2 Q a0 n0 c0 e0 v1x0 x7 x8 h := by
  refine Zed.inv2 (fun g => E2 fun a0' n0' c0' e0' v1x0' x7' x8 h => a0 = a0' ∧ n0 = n0' ∧ c0 = c0' ∧ e0 = e0' ∧ v1x0 = v1x0' ∧ x7 = x7' ∧ J g x8 h) (fun g => E2 fun a0' n0' c0' e0' v1x0' x7' x8 h => a0 = a0' ∧ n0 = n0' ∧ c0 = c0' ∧ e0 = e0' ∧ v1x0 = v1x0' ∧ x7 = x7' ∧ ∃ g', m g' < m g ∧ J g' x8 h) m ?_ ?_ g ⟨rfl, rfl, rfl, rfl, rfl, rfl, hj⟩
  · intro g env h hi
    obtain ⟨a0', n0', c0', e0', v1x0', x7', x8, rfl, rfl, rfl, rfl, rfl, rfl, rfl, hj⟩ := Zdx hi
    exact Zkf Q _ a0 n0 c0 e0 v1x0 x7 x8 h (hr g x8 h hj (fun a0' n0' c0' e0' v1x0' x7' x8 h => a0 = a0' ∧ n0 = n0' ∧ c0 = c0' ∧ e0 = e0' ∧ v1x0 = v1x0' ∧ x7 = x7' ∧ ∃ g', m g' < m g ∧ J g' x8 h) fun g' x8 h hlt hj => ⟨rfl, rfl, rfl, rfl, rfl, rfl, g', hlt, hj⟩)
  · intro g env h hi
    obtain ⟨a0', n0', c0', e0', v1x0', x7', x8, rfl, rfl, rfl, rfl, rfl, rfl, rfl, g', hlt, hj⟩ := Zdx hi
    exact ⟨g', hlt, rfl, rfl, rfl, rfl, rfl, rfl, hj⟩
theorem A2x0i (Q : QT) (h : Zaa) (ht :
 Q (.int .i64 (-1)) h) : Zno Q h :=
  At.mk (cast (by kernel_rfl) ht)
theorem call (a0 : Pt) (n0 c0 : Nat) (e0 : Bool) (v1x0 : Zar) (h : Zaa) (Q : QT) (ht :
 L2 Q a0 n0 c0 e0 v1x0 (((n0 : Nat) : Int)) 0 h) : Zad pg Zcs [.slice a0 n0 c0 e0, .fn Zbv [v1x0]] h Q :=
  Zad.of_body kp (c := cod fn) (fn := fn) Go.Proofs.Tryz.func101 (by kernel_rfl) (by kernel_rfl) (Nat.le_of_ble_eq_true (by kernel_rfl))
    (cast (by kernel_rfl) ht)
end Zba
namespace Zne
noncomputable abbrev fn : Func := Go.Proofs.Tryz.f22
def kp : Zcb := []
noncomputable def C (p : List Nat) : Code := (cod fn).sub p
def KR (Q : QT) : KT := Zez pg fn.results.toList Q
theorem call (a0x0 : Pt) (n0x0 c0x0 : Nat) (e0x0 : Bool) (a0x1 : Pt) (n0x1 c0x1 : Nat) (e0x1 : Bool) (h : Zaa) (Q : QT) (ht :
 Zdg (h ++ [.cells Zak [.slice a0x0 n0x0 c0x0 e0x0, .slice a0x1 n0x1 c0x1 e0x1] false]) fun H0 => Zcx (Zbp H0 (.ptr (some (h.length, 0))) 2) fun K1 => Zam K1 fun C2 Z3 => xSl (some C2) fun A4 N5 C6 E7 => Zam Z3 fun C8 Z9 => xSl (some C8) fun A10 N11 C12 E13 => Zci Z9 (Zad pg Zim [.agg [.slice A4 N5 C6 E7, .slice A10 N11 C12 E13]] H0 fun V14 H15 =>
 Zbz (some V14) fun B16 => bcase B16 (xSl (Zag H15 (.ptr (some (h.length, 0 + 1)))) fun A17 N18 C19 E20 => bcase (decide (((((N18 : Nat) : Int)) : Int) ≤ 10)) (xSl (Zag H15 (.ptr (some (h.length, 0 + 1)))) fun A21 N22 C23 E24 => Zad pg Zdj [.slice A21 N22 C23 E24, .fn Zbv [.ptr (some (h.length, 0))]] H15 fun V25 H26 =>
 Zbz (some V25) fun B27 => Q (.bool (!B27)) H26) (Q (.bool false) H15)) (Q (.bool false) H15))) : Zad pg Zht [.agg [.slice a0x0 n0x0 c0x0 e0x0, .slice a0x1 n0x1 c0x1 e0x1]] h Q :=
  Zad.of_body kp (c := cod fn) (fn := fn) Go.Proofs.Tryz.func22 (by kernel_rfl) (by kernel_rfl) (Nat.le_of_ble_eq_true (by kernel_rfl))
    (cast (by kernel_rfl) ht)
end Zne
namespace Zcd
noncomputable abbrev fn : Func := Go.Proofs.Tryz.f58
def kp : Zcb := []
noncomputable def C (p : List Nat) : Code := (cod fn).sub p
def KR (Q : QT) : KT := Zez pg fn.results.toList Q
theorem call (a0 : Pt) (n0 c0 : Nat) (e0 : Bool) (v1x0 : Zar) (h : Zaa) (Q : QT) (ht :
 Zad pg Zcs [.slice a0 n0 c0 e0, .fn Zbv [v1x0]] h fun V0 H1 =>
 Zds .i64 (some V0) fun X2 => Q (.bool (decide ((X2 : Int) ≥ 0))) H1) : Zad pg Zdj [.slice a0 n0 c0 e0, .fn Zbv [v1x0]] h Q :=
  Zad.of_body kp (c := cod fn) (fn := fn) Go.Proofs.Tryz.func58 (by kernel_rfl) (by kernel_rfl) (Nat.le_of_ble_eq_true (by kernel_rfl))
    (cast (by kernel_rfl) ht)
end Zcd
namespace Zgh
noncomputable abbrev fn : Func := Go.Proofs.Tryz.f54
def kp : Zcb := [(3000002, [1, 2]), (1000002, [1, 6, 7, 8])]
noncomputable def C (p : List Nat) : Code := (cod fn).sub p
def KR (Q : QT) : KT := Zez pg fn.results.toList Q
abbrev T2 := Nat → Nat → Pt → Nat → Nat → Bool → Int → Int → Zaa → Prop
def E2 (R2 : T2) (env : Env) (h : Zaa) : Prop := Zbt 1 env fun v env => Zkx (some v) fun a => Zbl a fun i1 o1 => Zbt 6 env fun v env => xSl (some v) fun a6 n6 c6 e6 => Zbt 7 env fun v env => Zei .i64 v fun x7 => Zbt 8 env fun v env => Zei .i64 v fun x8 => Zjr env (R2 i1 o1 a6 n6 c6 e6 x7 x8 h)
theorem Zdx {R2 : T2} {env : Env} {h : Zaa} (hi : E2 R2 env h) : ∃ i1, ∃ o1, ∃ a6, ∃ n6, ∃ c6, ∃ e6, ∃ x7, ∃ x8, env = [(1, .ptr (some (i1, o1))), (6, .slice a6 n6 c6 e6), (7, .int .i64 x7), (8, .int .i64 x8)] ∧ R2 i1 o1 a6 n6 c6 e6 x7 x8 h := by
  unfold E2 at hi
  have hi0 := hi
  clear hi
  obtain ⟨_, _, rfl, hi1⟩ := Zab hi0
  obtain ⟨a, rfl, hi2⟩ := Zce hi1
  obtain ⟨i1, o1, rfl, hi3⟩ := Zby hi2
  obtain ⟨_, _, rfl, hi4⟩ := Zab hi3
  obtain ⟨a6, n6, c6, e6, rfl, hi5⟩ := Zbh hi4
  obtain ⟨_, _, rfl, hi6⟩ := Zab hi5
  obtain ⟨x7, rfl, hi7⟩ := Zat hi6
  obtain ⟨_, _, rfl, hi8⟩ := Zab hi7
  obtain ⟨x8, rfl, hi9⟩ := Zat hi8
  obtain ⟨rfl, hi10⟩ := Zbi hi9
  have hi := hi10
  exact ⟨i1, o1, a6, n6, c6, e6, x7, x8, rfl, hi⟩
def K0 (Q : QT) : KT := andThen (fun env' h' => (match kp.find 4000007 with | some ks => Den pg fn.ntmps (C [1, 1]) (env'.keep ks) h' (KR Q) | none => den pg fn.ntmps kp (C [1, 1]) env' h' (KR Q))) (KR Q)
def K1 (Q : QT) : KT := Zcg 0 (K0 Q)
def K2 (Q : QT) : KT := Zgz kp 2 (K1 Q)
def K3 (Q : QT) (R2 : T2) : KT := rnd ((kp.find 1000002).getD []) (E2 R2) (K2 Q)
def L2 (Q : QT) (i1 o1 : Nat) (a6 : Pt) (n6 c6 : Nat) (e6 : Bool) (x7 x8 : Int) (h : Zaa) : Prop := Zed (Den pg fn.ntmps (C [1, 0, 1, 0, 0])) ((kp.find 1000002).getD []) (K2 Q) [(1, .ptr (some (i1, o1))), (6, .slice a6 n6 c6 e6), (7, .int .i64 x7), (8, .int .i64 x8)] h
def Zno (Q : QT) (i1 o1 : Nat) (h : Zaa) : Prop := At (K1 Q) (.exit 0) [(1, .ptr (some (i1, o1))), (2, .undef)] h
def L2t (Q : QT) (R2 : T2) (i1 o1 : Nat) (a6 : Pt) (n6 c6 : Nat) (e6 : Bool) (x7 x8 : Int) (h : Zaa) : Prop :=
 bcase (decide ((x8 : Int) < x7)) ((0 ≤ (x8 : Int) ∧ (x8 : Int) < (n6 : Nat)) ∧ (Zbl a6 fun I5 O6 => Zcx (Zbp h (.ptr (some (I5, O6 + (Int.toNat x8) * 3))) 3) fun K7 => Zam K7 fun C8 Z9 => Zbk (some C8) fun S10 => Zam Z9 fun C11 Z12 => Zbk (some C11) fun S13 => Zam Z12 fun C14 Z15 => xSl (some C14) fun A16 N17 C18 E19 => Zci Z15 (Zdg (h ++ [.cells Zas [.str [], .str [], .slice none 0 0 true] false]) fun H20 => Zcu (Zbn H20 (.ptr (some (h.length, 0))) [.str S10, .str S13, .slice A16 N17 C18 E19]) fun H21 => Zcx (Zbp H21 (.ptr (some (i1, o1))) 2) fun K22 => Zam K22 fun C23 Z24 => xSl (some C23) fun A25 N26 C27 E28 => Zam Z24 fun C29 Z30 => xSl (some C29) fun A31 N32 C33 E34 => Zci Z30 (Zcx (Zbp H21 (.ptr (some (h.length, 0))) 3) fun K35 => Zam K35 fun C36 Z37 => Zbk (some C36) fun S38 => Zam Z37 fun C39 Z40 => Zbk (some C39) fun S41 => Zam Z40 fun C42 Z43 => xSl (some C42) fun A44 N45 C46 E47 => Zci Z43 (Zad pg Zhv [.agg [.slice A25 N26 C27 E28, .slice A31 N32 C33 E34], .agg [.str S38, .str S41, .slice A44 N45 C46 E47]] H21 fun V48 H49 =>
 Zbz (some V48) fun B50 => bcase (!B50) (Q (.bool false) H49) (R2 i1 o1 a6 n6 c6 e6 x7 (IntKind.wrap .i64 (x8 + 1)) H49)))))) (Zno Q i1 o1 h)
theorem Zkf (Q : QT) (R2 : T2) (i1 o1 : Nat) (a6 : Pt) (n6 c6 : Nat) (e6 : Bool) (x7 x8 : Int) (h : Zaa) (ht : L2t Q R2 i1 o1 a6 n6 c6 e6 x7 x8 h) : Den pg fn.ntmps (C [1, 0, 1, 0, 0]) [(1, .ptr (some (i1, o1))), (6, .slice a6 n6 c6 e6), (7, .int .i64 x7), (8, .int .i64 x8)] h (K3 Q R2) :=
  Zay (kp := kp) (cast (by kernel_rfl) ht)
theorem L2ind (Q : QT) (i1 o1 : Nat) (a6 : Pt) (n6 c6 : Nat) (e6 : Bool) (x7 : Int) {G : Type} (J : G → Int → Zaa → Prop) (m : G → Nat)
 (hr : ∀ (g : G) (x8 : Int) (h : Zaa), J g x8 h → ∀ (R2 : T2), (∀ g' (x8 : Int) (h : Zaa), m g' < m g → J g' x8 h → R2 i1 o1 a6 n6 c6 e6 x7 x8 h) → L2t Q R2 i1 o1 a6 n6 c6 e6 x7 x8 h)
 (g : G) (x8 : Int) (h : Zaa) (hj : J g x8 h) : L2 Q i1 o1 a6 n6 c6 e6 x7 x8 h := by
  refine Zed.inv2 (fun g => E2 fun i1' o1' a6' n6' c6' e6' x7' x8 h => i1 = i1' ∧ o1 = o1' ∧ a6 = a6' ∧ n6 = n6' ∧ c6 = c6' ∧ e6 = e6' ∧ x7 = x7' ∧ J g x8 h) (fun g => E2 fun i1' o1' a6' n6' c6' e6' x7' x8 h => i1 = i1' ∧ o1 = o1' ∧ a6 = a6' ∧ n6 = n6' ∧ c6 = c6' ∧ e6 = e6' ∧ x7 = x7' ∧ ∃ g', m g' < m g ∧ J g' x8 h) m ?_ ?_ g ⟨rfl, rfl, rfl, rfl, rfl, rfl, rfl, hj⟩
  · intro g env h hi
    obtain ⟨i1', o1', a6', n6', c6', e6', x7', x8, rfl, rfl, rfl, rfl, rfl, rfl, rfl, rfl, hj⟩ := Zdx hi
    exact Zkf Q _ i1 o1 a6 n6 c6 e6 x7 x8 h (hr g x8 h hj (fun i1' o1' a6' n6' c6' e6' x7' x8 h => i1 = i1' ∧ o1 = o1' ∧ a6 = a6' ∧ n6 = n6' ∧ c6 = c6' ∧ e6 = e6' ∧ x7 = x7' ∧ ∃ g', m g' < m g ∧ J g' x8 h) fun g' x8 h hlt hj => ⟨rfl, rfl, rfl, rfl, rfl, rfl, rfl, g', hlt, hj⟩)
  · intro g env h hi
    obtain ⟨i1', o1', a6', n6', c6', e6', x7', x8, rfl, rfl, rfl, rfl, rfl, rfl, rfl, rfl, g', hlt, hj⟩ := Zdx hi
    exact ⟨g', hlt, rfl, rfl, rfl, rfl, rfl, rfl, rfl, hj⟩
theorem A2x0i (Q : QT) (i1 o1 : Nat) (h : Zaa) (ht :
 xSl (Zag h (.ptr (some (i1, o1 + 0)))) fun A51 N52 C53 E54 => Zad pg Ziq [.slice A51 N52 C53 E54] h fun V55 H56 =>
 Zbz (some V55) fun B57 => bcase B57 (xSl (Zag H56 (.ptr (some (i1, o1 + 1)))) fun A58 N59 C60 E61 => Q (.bool (decide (((((N59 : Nat) : Int)) : Int) ≤ 10))) H56) (Q (.bool false) H56)) : Zno Q i1 o1 h :=
  At.mk (cast (by kernel_rfl) ht)
theorem call (a0x0 : Pt) (n0x0 c0x0 : Nat) (e0x0 : Bool) (a0x1 : Pt) (n0x1 c0x1 : Nat) (e0x1 : Bool) (h : Zaa) (Q : QT) (ht :
 Zdg (h ++ [.cells Zak [.slice a0x0 n0x0 c0x0 e0x0, .slice a0x1 n0x1 c0x1 e0x1] false]) fun H0 => xSl (Zag H0 (.ptr (some (h.length, 0 + 1)))) fun A1 N2 C3 E4 => L2 Q h.length 0 A1 N2 C3 E4 (((N2 : Nat) : Int)) 0 H0) : Zad pg Zgk [.agg [.slice a0x0 n0x0 c0x0 e0x0, .slice a0x1 n0x1 c0x1 e0x1]] h Q :=
  Zad.of_body kp (c := cod fn) (fn := fn) Go.Proofs.Tryz.func54 (by kernel_rfl) (by kernel_rfl) (Nat.le_of_ble_eq_true (by kernel_rfl))
    (cast (by kernel_rfl) ht)
end Zgh
namespace Zsf
noncomputable abbrev fn : Func := Go.Proofs.Tryz.f47
def kp : Zcb := []
noncomputable def C (p : List Nat) : Code := (cod fn).sub p
def KR (Q : QT) : KT := Zez pg fn.results.toList Q
theorem call (a0x0 : Pt) (n0x0 c0x0 : Nat) (e0x0 : Bool) (a0x1 : Pt) (n0x1 c0x1 : Nat) (e0x1 : Bool) (x1x0 x1x1 : List Nat) (h : Zaa) (Q : QT) (ht :
 Zdg (h ++ [.cells Zak [.slice a0x0 n0x0 c0x0 e0x0, .slice a0x1 n0x1 c0x1 e0x1] false]) fun H0 => Zdg (H0 ++ [.cells Zaj [.str x1x0, .str x1x1] false]) fun H1 => xSl (Zag H1 (.ptr (some (h.length, 0 + 0)))) fun A2 N3 C4 E5 => Zbk (Zag H1 (.ptr (some (H0.length, 0 + 0)))) fun S6 => Zad pg Zhh [.slice A2 N3 C4 E5, .str S6] H1 fun V7 H8 =>
 Zbz (some V7) fun B9 => bcase B9 (Zbk (Zag H8 (.ptr (some (H0.length, 0 + 1)))) fun S10 => Zad pg Zev [.str S10] H8 fun V11 H12 =>
 Zbz (some V11) fun B13 => Q (.bool B13) H12) (Q (.bool false) H8)) : Zad pg Zlf [.agg [.slice a0x0 n0x0 c0x0 e0x0, .slice a0x1 n0x1 c0x1 e0x1], .agg [.str x1x0, .str x1x1]] h Q :=
  Zad.of_body kp (c := cod fn) (fn := fn) Go.Proofs.Tryz.func47 (by kernel_rfl) (by kernel_rfl) (Nat.le_of_ble_eq_true (by kernel_rfl))
    (cast (by kernel_rfl) ht)
end Zsf
namespace Zre
noncomputable abbrev fn : Func := Go.Proofs.Tryz.f77
def kp : Zcb := []
noncomputable def C (p : List Nat) : Code := (cod fn).sub p
def KR (Q : QT) : KT := Zez pg fn.results.toList Q
theorem call (a0x0 : Pt) (n0x0 c0x0 : Nat) (e0x0 : Bool) (a0x1 : Pt) (n0x1 c0x1 : Nat) (e0x1 : Bool) (x1x0 x1x1 : List Nat) (h : Zaa) (Q : QT) (ht :
 Zdg (h ++ [.cells Zak [.slice a0x0 n0x0 c0x0 e0x0, .slice a0x1 n0x1 c0x1 e0x1] false]) fun H0 => Zdg (H0 ++ [.cells Zaj [.str x1x0, .str x1x1] false]) fun H1 => Zcx (Zbp H1 (.ptr (some (h.length, 0))) 2) fun K2 => Zam K2 fun C3 Z4 => xSl (some C3) fun A5 N6 C7 E8 => Zam Z4 fun C9 Z10 => xSl (some C9) fun A11 N12 C13 E14 => Zci Z10 (Zbk (Zag H1 (.ptr (some (H0.length, 0 + 0)))) fun S15 => Zad pg Zeo [.agg [.slice A5 N6 C7 E8, .slice A11 N12 C13 E14], .str S15] H1 fun V16 H17 =>
 Zds .i64 (some V16) fun X18 => bcase (decide ((X18 : Int) ≥ 0)) (Zbk (Zag H17 (.ptr (some (H0.length, 0 + 1)))) fun S19 => Zad pg Zex [.str S19] H17 fun V20 H21 =>
 Zbz (some V20) fun B22 => Q (.bool B22) H21) (Q (.bool false) H17))) : Zad pg Zoh [.agg [.slice a0x0 n0x0 c0x0 e0x0, .slice a0x1 n0x1 c0x1 e0x1], .agg [.str x1x0, .str x1x1]] h Q :=
  Zad.of_body kp (c := cod fn) (fn := fn) Go.Proofs.Tryz.func77 (by kernel_rfl) (by kernel_rfl) (Nat.le_of_ble_eq_true (by kernel_rfl))
    (cast (by kernel_rfl) ht)
end Zre
namespace Zoq
noncomputable abbrev fn : Func := Go.Proofs.Tryz.f35
def kp : Zcb := []
noncomputable def C (p : List Nat) : Code := (cod fn).sub p
def KR (Q : QT) : KT := Zez pg fn.results.toList Q
theorem call (a0x0 : Pt) (n0x0 c0x0 : Nat) (e0x0 : Bool) (a0x1 : Pt) (n0x1 c0x1 : Nat) (e0x1 : Bool) (x1x0 x1x1 : List Nat) (h : Zaa) (Q : QT) (ht :
 Zdg (h ++ [.cells Zak [.slice a0x0 n0x0 c0x0 e0x0, .slice a0x1 n0x1 c0x1 e0x1] false]) fun H0 => Zdg (H0 ++ [.cells Zaj [.str x1x0, .str x1x1] false]) fun H1 => Zcx (Zbp H1 (.ptr (some (h.length, 0))) 2) fun K2 => Zam K2 fun C3 Z4 => xSl (some C3) fun A5 N6 C7 E8 => Zam Z4 fun C9 Z10 => xSl (some C9) fun A11 N12 C13 E14 => Zci Z10 (Zad pg Zgk [.agg [.slice A5 N6 C7 E8, .slice A11 N12 C13 E14]] H1 fun V15 H16 =>
 Zbz (some V15) fun B17 => bcase B17 (Zcx (Zbp H16 (.ptr (some (h.length, 0))) 2) fun K18 => Zam K18 fun C19 Z20 => xSl (some C19) fun A21 N22 C23 E24 => Zam Z20 fun C25 Z26 => xSl (some C25) fun A27 N28 C29 E30 => Zci Z26 (Zcx (Zbp H16 (.ptr (some (H0.length, 0))) 2) fun K31 => Zam K31 fun C32 Z33 => Zbk (some C32) fun S34 => Zam Z33 fun C35 Z36 => Zbk (some C35) fun S37 => Zci Z36 (Zad pg Zoh [.agg [.slice A21 N22 C23 E24, .slice A27 N28 C29 E30], .agg [.str S34, .str S37]] H16 fun V38 H39 =>
 Zbz (some V38) fun B40 => Q (.bool B40) H39))) (Q (.bool false) H16))) : Zad pg Zip [.agg [.slice a0x0 n0x0 c0x0 e0x0, .slice a0x1 n0x1 c0x1 e0x1], .agg [.str x1x0, .str x1x1]] h Q :=
  Zad.of_body kp (c := cod fn) (fn := fn) Go.Proofs.Tryz.func35 (by kernel_rfl) (by kernel_rfl) (Nat.le_of_ble_eq_true (by kernel_rfl))
    (cast (by kernel_rfl) ht)
end Zoq
end Go.Sim

set_option maxRecDepth 100000
set_option linter.unusedVariables false
namespace Go.Sim
open Go Go.RowKit
namespace Zdm
noncomputable abbrev fn : Func := Go.Proofs.Tryz.f98
def kp : Zcb := [(4000003, [3, 2]), (3000004, [4]), (1000004, [2, 3, 47, 48, 49]), (2000006, [80, 49, 48, 47, 2, 3]), (4000008, [49, 48, 47, 2, 3])]
noncomputable def C (p : List Nat) : Code := (cod fn).sub p
def KR (Q : QT) : KT := Zez pg fn.results.toList Q
abbrev T4 := Nat → Nat → Nat → Nat → Pt → Nat → Nat → Bool → Int → Int → Zaa → Prop
def E4 (R4 : T4) (env : Env) (h : Zaa) : Prop := Zbt 2 env fun v env => Zkx (some v) fun a => Zbl a fun i2 o2 => Zbt 3 env fun v env => Zkx (some v) fun a => Zbl a fun i3 o3 => Zbt 47 env fun v env => xSl (some v) fun a47 n47 c47 e47 => Zbt 48 env fun v env => Zei .i64 v fun x48 => Zbt 49 env fun v env => Zei .i64 v fun x49 => Zjr env (R4 i2 o2 i3 o3 a47 n47 c47 e47 x48 x49 h)
theorem Zks {R4 : T4} {env : Env} {h : Zaa} (hi : E4 R4 env h) : ∃ i2, ∃ o2, ∃ i3, ∃ o3, ∃ a47, ∃ n47, ∃ c47, ∃ e47, ∃ x48, ∃ x49, env = [(2, .ptr (some (i2, o2))), (3, .ptr (some (i3, o3))), (47, .slice a47 n47 c47 e47), (48, .int .i64 x48), (49, .int .i64 x49)] ∧ R4 i2 o2 i3 o3 a47 n47 c47 e47 x48 x49 h := by
  unfold E4 at hi
  have hi0 := hi
  clear hi
  obtain ⟨_, _, rfl, hi1⟩ := Zab hi0
  obtain ⟨a, rfl, hi2⟩ := Zce hi1
  obtain ⟨i2, o2, rfl, hi3⟩ := Zby hi2
  obtain ⟨_, _, rfl, hi4⟩ := Zab hi3
  obtain ⟨a, rfl, hi5⟩ := Zce hi4
  obtain ⟨i3, o3, rfl, hi6⟩ := Zby hi5
  obtain ⟨_, _, rfl, hi7⟩ := Zab hi6
  obtain ⟨a47, n47, c47, e47, rfl, hi8⟩ := Zbh hi7
  obtain ⟨_, _, rfl, hi9⟩ := Zab hi8
  obtain ⟨x48, rfl, hi10⟩ := Zat hi9
  obtain ⟨_, _, rfl, hi11⟩ := Zab hi10
  obtain ⟨x49, rfl, hi12⟩ := Zat hi11
  obtain ⟨rfl, hi13⟩ := Zbi hi12
  have hi := hi13
  exact ⟨i2, o2, i3, o3, a47, n47, c47, e47, x48, x49, rfl, hi⟩
def K0 (Q : QT) : KT := andThen (fun env' h' => (match kp.find 4000009 with | some ks => Den pg fn.ntmps (C [1, 1, 1]) (env'.keep ks) h' (KR Q) | none => den pg fn.ntmps kp (C [1, 1, 1]) env' h' (KR Q))) (KR Q)
def K1 (Q : QT) : KT := Zcg 0 (K0 Q)
def K2 (Q : QT) : KT := Zgz kp 4 (K1 Q)
def K3 (Q : QT) (R4 : T4) : KT := rnd ((kp.find 1000004).getD []) (E4 R4) (K2 Q)
def J3 (Q : QT) (i3 o3 i2 o2 : Nat) (h : Zaa) : Prop := Den pg fn.ntmps (C [1, 1]) [(3, .ptr (some (i3, o3))), (2, .ptr (some (i2, o2)))] h (KR Q)
def L4 (Q : QT) (i2 o2 i3 o3 : Nat) (a47 : Pt) (n47 c47 : Nat) (e47 : Bool) (x48 x49 : Int) (h : Zaa) : Prop := Zed (Den pg fn.ntmps (C [1, 1, 0, 1, 0, 0])) ((kp.find 1000004).getD []) (K2 Q) [(2, .ptr (some (i2, o2))), (3, .ptr (some (i3, o3))), (47, .slice a47 n47 c47 e47), (48, .int .i64 x48), (49, .int .i64 x49)] h
def J8 (Q : QT) (R4 : T4) (x49 x48 : Int) (a47 : Pt) (n47 c47 : Nat) (e47 : Bool) (i2 o2 i3 o3 : Nat) (h : Zaa) : Prop := Den pg fn.ntmps (C [1, 1, 0, 1, 0, 0, 1, 1, 1]) [(49, .int .i64 x49), (48, .int .i64 x48), (47, .slice a47 n47 c47 e47), (2, .ptr (some (i2, o2))), (3, .ptr (some (i3, o3)))] h (K3 Q R4)
def Zzd (Q : QT) (h : Zaa) : Prop := At (K1 Q) (.exit 0) [(4, .undef)] h
theorem J3i (Q : QT) (i3 o3 i2 o2 : Nat) (h : Zaa) (ht :
 xSl (Zag h (.ptr (some (i3, o3 + 2)))) fun A40 N41 C42 E43 => L4 Q i2 o2 i3 o3 A40 N41 C42 E43 (((N41 : Nat) : Int)) 0 h) : J3 Q i3 o3 i2 o2 h :=
  Zay (kp := kp) (cast (by kernel_rfl) ht)
def L4t (Q : QT) (R4 : T4) (i2 o2 i3 o3 : Nat) (a47 : Pt) (n47 c47 : Nat) (e47 : Bool) (x48 x49 : Int) (h : Zaa) : Prop :=
 bcase (decide ((x49 : Int) < x48)) ((0 ≤ (x49 : Int) ∧ (x49 : Int) < (n47 : Nat)) ∧ (Zbl a47 fun I44 O45 => Zcx (Zbp h (.ptr (some (I44, O45 + (Int.toNat x49) * 2))) 2) fun K46 => Zam K46 fun C47 Z48 => Zbk (some C47) fun S49 => Zam Z48 fun C50 Z51 => Zbk (some C50) fun S52 => Zci Z51 (Zdg (h ++ [.cells Zaj [.str [], .str []] false]) fun H53 => Zcu (Zbn H53 (.ptr (some (h.length, 0))) [.str S49, .str S52]) fun H54 => Zcx (Zbp H54 (.ptr (some (i2, o2))) 2) fun K55 => Zam K55 fun C56 Z57 => xSl (some C56) fun A58 N59 C60 E61 => Zam Z57 fun C62 Z63 => xSl (some C62) fun A64 N65 C66 E67 => Zci Z63 (Zbk (Zag H54 (.ptr (some (h.length, 0 + 0)))) fun S68 => (Zbp H54 (.ptr (some (i2, o2))) 2 = Zbp H54 (.ptr (some (i2, o2))) 2) ∧ Zad pg Zeo [.agg [.slice A58 N59 C60 E61, .slice A64 N65 C66 E67], .str S68] H54 fun V69 H70 =>
 Zds .i64 (some V69) fun X71 => bcase (decide ((X71 : Int) < 0)) ((Zbp H70 (.ptr (some (i2, o2))) 2 = Zbp H70 (.ptr (some (i2, o2))) 2) ∧ (Zbp H70 (.ptr (some (i2, o2))) 2 = Zbp H70 (.ptr (some (i2, o2))) 2) ∧ (Zbp H70 (.ptr (some (i2, o2))) 2 = Zbp H70 (.ptr (some (i2, o2))) 2) ∧ (Zag H70 (.tup []) = Zag H70 (.tup [])) ∧ (Zbp H70 (.ptr (some (i2, o2))) 2 = Zbp H70 (.ptr (some (i2, o2))) 2) ∧ (Zag H70 (.tup []) = Zag H70 (.tup [])) ∧ (Zbp H70 (.ptr (some (i2, o2))) 2 = Zbp H70 (.ptr (some (i2, o2))) 2) ∧ (Zag H70 (.tup []) = Zag H70 (.tup [])) ∧ (Zag H70 (.tup []) = Zag H70 (.tup [])) ∧ (Zbp H70 (.ptr (some (i2, o2))) 2 = Zbp H70 (.ptr (some (i2, o2))) 2) ∧ Q (.bool false) H70) (Zbk (Zag H70 (.ptr (some (h.length, 0 + 1)))) fun S72 => (Zbp H70 (.ptr (some (i2, o2))) 2 = Zbp H70 (.ptr (some (i2, o2))) 2) ∧ Zad pg Zex [.str S72] H70 fun V73 H74 =>
 Zbz (some V73) fun B75 => (Zbp H74 (.ptr (some (i2, o2))) 2 = Zbp H70 (.ptr (some (i2, o2))) 2) ∧ bcase (!B75) ((Zbp H74 (.ptr (some (i2, o2))) 2 = Zbp H74 (.ptr (some (i2, o2))) 2) ∧ (Zag H74 (.tup []) = Zag H74 (.tup [])) ∧ (Zbp H74 (.ptr (some (i2, o2))) 2 = Zbp H74 (.ptr (some (i2, o2))) 2) ∧ (Zag H74 (.tup []) = Zag H74 (.tup [])) ∧ (Zbp H74 (.ptr (some (i2, o2))) 2 = Zbp H74 (.ptr (some (i2, o2))) 2) ∧ (Zag H74 (.tup []) = Zag H74 (.tup [])) ∧ (Zag H74 (.tup []) = Zag H74 (.tup [])) ∧ (Zbp H74 (.ptr (some (i2, o2))) 2 = Zbp H74 (.ptr (some (i2, o2))) 2) ∧ Q (.bool false) H74) (Zbk (Zag H74 (.ptr (some (h.length, 0 + 1)))) fun S76 => (Zbp H74 (.ptr (some (i2, o2))) 2 = Zbp H74 (.ptr (some (i2, o2))) 2) ∧ bcase (decide (((((List.length S76 : Nat) : Int)) : Int) > 20)) ((Zag H74 (.tup []) = Zag H74 (.tup [])) ∧ (Zbp H74 (.ptr (some (i2, o2))) 2 = Zbp H74 (.ptr (some (i2, o2))) 2) ∧ (Zag H74 (.tup []) = Zag H74 (.tup [])) ∧ (Zbp H74 (.ptr (some (i2, o2))) 2 = Zbp H74 (.ptr (some (i2, o2))) 2) ∧ (Zag H74 (.tup []) = Zag H74 (.tup [])) ∧ (Zag H74 (.tup []) = Zag H74 (.tup [])) ∧ (Zbp H74 (.ptr (some (i2, o2))) 2 = Zbp H74 (.ptr (some (i2, o2))) 2) ∧ Q (.bool false) H74) (Zbk (Zag H74 (.ptr (some (h.length, 0 + 1)))) fun S77 => Zbk (Zag H74 (.ptr (some (i3, o3 + 0 + 1)))) fun S78 => Zad pg Zli [.str S77] H74 fun V79 H80 =>
 Zbk (some V79) fun S81 => (Zag H80 (.ptr (some (i3, o3 + 0 + 1))) = Zag H74 (.ptr (some (i3, o3 + 0 + 1)))) ∧ (Zbp H80 (.ptr (some (i2, o2))) 2 = Zbp H74 (.ptr (some (i2, o2))) 2) ∧ Zad pg Zli [.str S78] H80 fun V82 H83 =>
 Zbk (some V82) fun S84 => (Zag H83 (.ptr (some (h.length, 0 + 1))) = Zag H80 (.ptr (some (h.length, 0 + 1)))) ∧ (Zbp H83 (.ptr (some (i2, o2))) 2 = Zbp H80 (.ptr (some (i2, o2))) 2) ∧ Zad pg Zlq [.str S81, .str S84] H83 fun V85 H86 =>
 Zbz (some V85) fun B87 => (Zag H86 (.ptr (some (i3, o3 + 0 + 1))) = Zag H83 (.ptr (some (i3, o3 + 0 + 1)))) ∧ (Zag H86 (.ptr (some (h.length, 0 + 1))) = Zag H83 (.ptr (some (h.length, 0 + 1)))) ∧ (Zbp H86 (.ptr (some (i2, o2))) 2 = Zbp H83 (.ptr (some (i2, o2))) 2) ∧ bcase (!B87) (Q (.bool false) H86) (J8 Q R4 x49 x48 a47 n47 c47 e47 i2 o2 i3 o3 H86)))))))) (Zzd Q h)
theorem Zul (Q : QT) (R4 : T4) (i2 o2 i3 o3 : Nat) (a47 : Pt) (n47 c47 : Nat) (e47 : Bool) (x48 x49 : Int) (h : Zaa) (ht : L4t Q R4 i2 o2 i3 o3 a47 n47 c47 e47 x48 x49 h) : Den pg fn.ntmps (C [1, 1, 0, 1, 0, 0]) [(2, .ptr (some (i2, o2))), (3, .ptr (some (i3, o3))), (47, .slice a47 n47 c47 e47), (48, .int .i64 x48), (49, .int .i64 x49)] h (K3 Q R4) :=
  Zay (kp := kp) (cast (by kernel_rfl) ht)
theorem L4ind (Q : QT) (i2 o2 i3 o3 : Nat) (a47 : Pt) (n47 c47 : Nat) (e47 : Bool) (x48 : Int) {G : Type} (J : G → Int → Zaa → Prop) (m : G → Nat)
 (hr : ∀ (g : G) (x49 : Int) (h : Zaa), J g x49 h → ∀ (R4 : T4), (∀ g' (x49 : Int) (h : Zaa), m g' < m g → J g' x49 h → R4 i2 o2 i3 o3 a47 n47 c47 e47 x48 x49 h) → L4t Q R4 i2 o2 i3 o3 a47 n47 c47 e47 x48 x49 h)
 (g : G) (x49 : Int) (h : Zaa) (hj : J g x49 h) : L4 Q i2 o2 i3 o3 a47 n47 c47 e47 x48 x49 h := by
  refine Zed.inv2 (fun g => E4 fun i2' o2' i3' o3' a47' n47' c47' e47' x48' x49 h => i2 = i2' ∧ o2 = o2' ∧ i3 = i3' ∧ o3 = o3' ∧ a47 = a47' ∧ n47 = n47' ∧ c47 = c47' ∧ e47 = e47' ∧ x48 = x48' ∧ J g x49 h) (fun g => E4 fun i2' o2' i3' o3' a47' n47' c47' e47' x48' x49 h => i2 = i2' ∧ o2 = o2' ∧ i3 = i3' ∧ o3 = o3' ∧ a47 = a47' ∧ n47 = n47' ∧ c47 = c47' ∧ e47 = e47' ∧ x48 = x48' ∧ ∃ g', m g' < m g ∧ J g' x49 h) m ?_ ?_ g ⟨rfl, rfl, rfl, rfl, rfl, rfl, rfl, rfl, rfl, hj⟩
  · intro g env h hi
    obtain ⟨i2', o2', i3', o3', a47', n47', c47', e47', x48', x49, rfl, rfl, rfl, rfl, rfl, rfl, rfl, rfl, rfl, rfl, hj⟩ := Zks hi
    exact Zul Q _ i2 o2 i3 o3 a47 n47 c47 e47 x48 x49 h (hr g x49 h hj (fun i2' o2' i3' o3' a47' n47' c47' e47' x48' x49 h => i2 = i2' ∧ o2 = o2' ∧ i3 = i3' ∧ o3 = o3' ∧ a47 = a47' ∧ n47 = n47' ∧ c47 = c47' ∧ e47 = e47' ∧ x48 = x48' ∧ ∃ g', m g' < m g ∧ J g' x49 h) fun g' x49 h hlt hj => ⟨rfl, rfl, rfl, rfl, rfl, rfl, rfl, rfl, rfl, g', hlt, hj⟩)
  · intro g env h hi
    obtain ⟨i2', o2', i3', o3', a47', n47', c47', e47', x48', x49, rfl, rfl, rfl, rfl, rfl, rfl, rfl, rfl, rfl, rfl, g', hlt, hj⟩ := Zks hi
    exact ⟨g', hlt, rfl, rfl, rfl, rfl, rfl, rfl, rfl, rfl, rfl, hj⟩
theorem J8i (Q : QT) (R4 : T4) (x49 x48 : Int) (a47 : Pt) (n47 c47 : Nat) (e47 : Bool) (i2 o2 i3 o3 : Nat) (h : Zaa) (ht :
 R4 i2 o2 i3 o3 a47 n47 c47 e47 x48 (IntKind.wrap .i64 (x49 + 1)) h) : J8 Q R4 x49 x48 a47 n47 c47 e47 i2 o2 i3 o3 h :=
  Zay (kp := kp) (cast (by kernel_rfl) ht)
theorem A4x0i (Q : QT) (h : Zaa) (ht :
 Q (.bool true) h) : Zzd Q h :=
  At.mk (cast (by kernel_rfl) ht)
theorem call (a0x0 : Pt) (n0x0 c0x0 : Nat) (e0x0 : Bool) (a0x1 : Pt) (n0x1 c0x1 : Nat) (e0x1 : Bool) (x1x0 x1x1 : List Nat) (a1x2 : Pt) (n1x2 c1x2 : Nat) (e1x2 : Bool) (h : Zaa) (Q : QT) (ht :
 Zdg (h ++ [.cells Zak [.slice a0x0 n0x0 c0x0 e0x0, .slice a0x1 n0x1 c0x1 e0x1] false]) fun H0 => Zdg (H0 ++ [.cells Zas [.str x1x0, .str x1x1, .slice a1x2 n1x2 c1x2 e1x2] false]) fun H1 => xSl (Zag H1 (.ptr (some (h.length, 0 + 0)))) fun A2 N3 C4 E5 => Zad pg Ziq [.slice A2 N3 C4 E5] H1 fun V6 H7 =>
 Zbz (some V6) fun B8 => bcase (!B8) (Q (.bool false) H7) (Zcx (Zbp H7 (.ptr (some (h.length, 0))) 2) fun K9 => Zam K9 fun C10 Z11 => xSl (some C10) fun A12 N13 C14 E15 => Zam Z11 fun C16 Z17 => xSl (some C16) fun A18 N19 C20 E21 => Zci Z17 (Zbk (Zag H7 (.ptr (some (H0.length, 0 + 0 + 0)))) fun S22 => Zad pg Zeo [.agg [.slice A12 N13 C14 E15, .slice A18 N19 C20 E21], .str S22] H7 fun V23 H24 =>
 Zds .i64 (some V23) fun X25 => bcase (decide ((X25 : Int) < 0)) (Q (.bool false) H24) (Zbk (Zag H24 (.ptr (some (H0.length, 0 + 0 + 1)))) fun S26 => Zad pg Zex [.str S26] H24 fun V27 H28 =>
 Zbz (some V27) fun B29 => bcase (!B29) (Q (.bool false) H28) (Zbk (Zag H28 (.ptr (some (H0.length, 0 + 0 + 1)))) fun S30 => bcase (decide (((((List.length S30 : Nat) : Int)) : Int) > 20)) (Q (.bool false) H28) (Zbk (Zag H28 (.ptr (some (H0.length, 0 + 0 + 1)))) fun S31 => Zfg S31 0 fun B32 => Zad pg Zgi [.int .u8 (((B32 : Nat) : Int))] H28 fun V33 H34 =>
 Zbz (some V33) fun B35 => bcase B35 (Q (.bool false) H34) (xSl (Zag H34 (.ptr (some (H0.length, 0 + 2)))) fun A36 N37 C38 E39 => bcase (decide (((((N37 : Nat) : Int)) : Int) > 3)) (Q (.bool false) H34) (J3 Q H0.length 0 h.length 0 H34)))))))) : Zad pg Zhv [.agg [.slice a0x0 n0x0 c0x0 e0x0, .slice a0x1 n0x1 c0x1 e0x1], .agg [.str x1x0, .str x1x1, .slice a1x2 n1x2 c1x2 e1x2]] h Q :=
  Zad.of_body kp (c := cod fn) (fn := fn) Go.Proofs.Tryz.func98 (by kernel_rfl) (by kernel_rfl) (Nat.le_of_ble_eq_true (by kernel_rfl))
    (cast (by kernel_rfl) ht)
end Zdm
end Go.Sim
