/- A part of the proof of a statement of this seat: see the text that holds the theorem. No condition. -/
import Derived.Test.YtlljbdepamknoaaGreatNm
set_option linter.unusedVariables false
set_option linter.unusedSimpArgs false
set_option linter.all false
set_option maxRecDepth 100000
set_option linter.unusedVariables false
namespace Go.Sim
open Go Go.RowKit
namespace Zrp
noncomputable abbrev fn : Func := Go.Proofs.Tryz.f8
def kp : Zcb := []
noncomputable def C (p : List Nat) : Code := (cod fn).sub p
def KR (Q : QT) : KT := Zez pg fn.results.toList Q
theorem call (x0x0 x0x1 : List Nat) (x1 : Int) (h : Zaa) (Q : QT) (ht :
 Zdg (h ++ [.cells Zke [.str x0x0, .str x0x1] false]) fun H0 => Zbk (Zag H0 (.ptr (some (h.length, 0 + 0)))) fun S1 => bcase (decide (((IntKind.wrap .i64 (x1 - (((List.length S1 : Nat) : Int)))) : Int) < 0)) (Q (.int .i64 (-1)) H0) (Zbk (Zag H0 (.ptr (some (h.length, 0 + 1)))) fun S2 => bcase (decide (((IntKind.wrap .i64 ((IntKind.wrap .i64 (x1 - (((List.length S1 : Nat) : Int)))) - (((List.length S2 : Nat) : Int)))) : Int) < 0)) (Q (.int .i64 (-1)) H0) (Q (.int .i64 (IntKind.wrap .i64 ((IntKind.wrap .i64 (x1 - (((List.length S1 : Nat) : Int)))) - (((List.length S2 : Nat) : Int))))) H0))) : Zad pg Zjf [.agg [.str x0x0, .str x0x1], .int .i64 x1] h Q :=
  Zad.of_body kp (c := cod fn) (fn := fn) Go.Proofs.Tryz.func8 (by kernel_rfl) (by kernel_rfl) (Nat.le_of_ble_eq_true (by kernel_rfl))
    (cast (by kernel_rfl) ht)
end Zrp
namespace Zsb
noncomputable abbrev fn : Func := Go.Proofs.Tryz.f49
def kp : Zcb := []
noncomputable def C (p : List Nat) : Code := (cod fn).sub p
def KR (Q : QT) : KT := Zez pg fn.results.toList Q
theorem call (x0x0 x0x1 x1x0 x1x1 : List Nat) (h : Zaa) (Q : QT) (ht :
 Zdg (h ++ [.cells Zaj [.str x0x0, .str x0x1] false]) fun H0 => Zdg (H0 ++ [.cells Zaj [.str x1x0, .str x1x1] false]) fun H1 => Zbk (Zag H1 (.ptr (some (h.length, 0 + 0)))) fun S2 => Zbk (Zag H1 (.ptr (some (H0.length, 0 + 0)))) fun S3 => bcase (!(decide (S2 = S3))) (Q (.bool false) H1) (Zbk (Zag H1 (.ptr (some (h.length, 0 + 1)))) fun S4 => Zbk (Zag H1 (.ptr (some (H0.length, 0 + 1)))) fun S5 => bcase (!(decide (S4 = S5))) (Q (.bool false) H1) (Q (.bool true) H1))) : Zad pg Zlj [.agg [.str x0x0, .str x0x1], .agg [.str x1x0, .str x1x1]] h Q :=
  Zad.of_body kp (c := cod fn) (fn := fn) Go.Proofs.Tryz.func49 (by kernel_rfl) (by kernel_rfl) (Nat.le_of_ble_eq_true (by kernel_rfl))
    (cast (by kernel_rfl) ht)
end Zsb
namespace Zro
noncomputable abbrev fn : Func := Go.Proofs.Tryz.f11
def kp : Zcb := []
noncomputable def C (p : List Nat) : Code := (cod fn).sub p
def KR (Q : QT) : KT := Zez pg fn.results.toList Q
theorem call (x0x0 x0x1 : List Nat) (h : Zaa) (Q : QT) (ht :
 Zdg (h ++ [.cells Zke [.str x0x0, .str x0x1] false]) fun H0 => Zdg (H0 ++ [.cells Zaj [.str [], .str []] false]) fun H1 => Zdg (H1 ++ [.cells Zaj [.str [], .str []] false]) fun H2 => Zbk (Zag H2 (.ptr (some (h.length, 0 + 0)))) fun S3 => Zcu (Zbn H2 (.ptr (some (H1.length, 0 + 0))) [.str S3]) fun H4 => Zbk (Zag H4 (.ptr (some (h.length, 0 + 1)))) fun S5 => Zcu (Zbn H4 (.ptr (some (H1.length, 0 + 1))) [.str S5]) fun H6 => Zcx (Zbp H6 (.ptr (some (H1.length, 0))) 2) fun K7 => Zam K7 fun C8 Z9 => Zbk (some C8) fun S10 => Zam Z9 fun C11 Z12 => Zbk (some C11) fun S13 => Zci Z12 (Zcu (Zbn H6 (.ptr (some (H0.length, 0))) [.str S10, .str S13]) fun H14 => Zcx (Zbp H14 (.ptr (some (H0.length, 0))) 2) fun K15 => Zam K15 fun C16 Z17 => Zbk (some C16) fun S18 => Zam Z17 fun C19 Z20 => Zbk (some C19) fun S21 => Zci Z20 (Q (.agg [.str S18, .str S21]) H14))) : Zad pg Zhr [.agg [.str x0x0, .str x0x1]] h Q :=
  Zad.of_body kp (c := cod fn) (fn := fn) Go.Proofs.Tryz.func11 (by kernel_rfl) (by kernel_rfl) (Nat.le_of_ble_eq_true (by kernel_rfl))
    (cast (by kernel_rfl) ht)
end Zro
namespace Zii
noncomputable abbrev fn : Func := Go.Proofs.Tryz.f14
def kp : Zcb := [(3000005, [1, 4]), (1000005, [0, 1, 5])]
noncomputable def C (p : List Nat) : Code := (cod fn).sub p
def KR (Q : QT) : KT := Zez pg fn.results.toList Q
abbrev T5 := Pt → Nat → Nat → Bool → Int → Int → Zaa → Prop
def E5 (R5 : T5) (env : Env) (h : Zaa) : Prop := Zbt 0 env fun v env => xSl (some v) fun a0 n0 c0 e0 => Zbt 1 env fun v env => Zei .i64 v fun x1 => Zbt 5 env fun v env => Zei .i64 v fun x5 => Zjr env (R5 a0 n0 c0 e0 x1 x5 h)
theorem Zhm {R5 : T5} {env : Env} {h : Zaa} (hi : E5 R5 env h) : ∃ a0, ∃ n0, ∃ c0, ∃ e0, ∃ x1, ∃ x5, env = [(0, .slice a0 n0 c0 e0), (1, .int .i64 x1), (5, .int .i64 x5)] ∧ R5 a0 n0 c0 e0 x1 x5 h := by
  unfold E5 at hi
  have hi0 := hi
  clear hi
  obtain ⟨_, _, rfl, hi1⟩ := Zab hi0
  obtain ⟨a0, n0, c0, e0, rfl, hi2⟩ := Zbh hi1
  obtain ⟨_, _, rfl, hi3⟩ := Zab hi2
  obtain ⟨x1, rfl, hi4⟩ := Zat hi3
  obtain ⟨_, _, rfl, hi5⟩ := Zab hi4
  obtain ⟨x5, rfl, hi6⟩ := Zat hi5
  obtain ⟨rfl, hi7⟩ := Zbi hi6
  have hi := hi7
  exact ⟨a0, n0, c0, e0, x1, x5, rfl, hi⟩
def K0 (Q : QT) : KT := andThen (fun env' h' => (match kp.find 4000010 with | some ks => Den pg fn.ntmps (C [1, 1, 1, 1]) (env'.keep ks) h' (KR Q) | none => den pg fn.ntmps kp (C [1, 1, 1, 1]) env' h' (KR Q))) (KR Q)
def K1 (Q : QT) : KT := Zcg 0 (K0 Q)
def K2 (Q : QT) : KT := Zgz kp 5 (K1 Q)
def K3 (Q : QT) (R5 : T5) : KT := rnd ((kp.find 1000005).getD []) (E5 R5) (K2 Q)
def L5 (Q : QT) (a0 : Pt) (n0 c0 : Nat) (e0 : Bool) (x1 x5 : Int) (h : Zaa) : Prop := Zed (Den pg fn.ntmps (C [1, 1, 1, 0, 1, 0, 0])) ((kp.find 1000005).getD []) (K2 Q) [(0, .slice a0 n0 c0 e0), (1, .int .i64 x1), (5, .int .i64 x5)] h
def A5x0 (Q : QT) (x1 : Int) (h : Zaa) : Prop := At (K1 Q) (.exit 0) [(1, .int .i64 x1), (4, .undef)] h
def L5t (Q : QT) (R5 : T5) (a0 : Pt) (n0 c0 : Nat) (e0 : Bool) (x1 x5 : Int) (h : Zaa) : Prop :=
 bcase (decide ((x5 : Int) < (((n0 : Nat) : Int)))) ((0 ≤ (x5 : Int) ∧ (x5 : Int) < (n0 : Nat)) ∧ (Zbl a0 fun I0 O1 => Zcx (Zbp h (.ptr (some (I0, O1 + (Int.toNat x5) * 2))) 2) fun K2 => Zam K2 fun C3 Z4 => Zbk (some C3) fun S5 => Zam Z4 fun C6 Z7 => Zbk (some C6) fun S8 => Zci Z7 (Zad pg Zjf [.agg [.str S5, .str S8], .int .i64 x1] h fun V9 H10 =>
 Zds .i64 (some V9) fun X11 => bcase (decide ((X11 : Int) < 0)) (Q (.int .i64 (-1)) H10) (R5 a0 n0 c0 e0 X11 (IntKind.wrap .i64 (x5 + 1)) H10)))) (A5x0 Q x1 h)
theorem Zqx (Q : QT) (R5 : T5) (a0 : Pt) (n0 c0 : Nat) (e0 : Bool) (x1 x5 : Int) (h : Zaa) (ht : L5t Q R5 a0 n0 c0 e0 x1 x5 h) : Den pg fn.ntmps (C [1, 1, 1, 0, 1, 0, 0]) [(0, .slice a0 n0 c0 e0), (1, .int .i64 x1), (5, .int .i64 x5)] h (K3 Q R5) :=
  Zay (kp := kp) (cast (by kernel_rfl) ht)
theorem L5ind (Q : QT) (a0 : Pt) (n0 c0 : Nat) (e0 : Bool) {G : Type} (J : G → Int → Int → Zaa → Prop) (m : G → Nat)
 (hr : ∀ (g : G) (x1 x5 : Int) (h : Zaa), J g x1 x5 h → ∀ (R5 : T5), (∀ g' (x1 x5 : Int) (h : Zaa), m g' < m g → J g' x1 x5 h → R5 a0 n0 c0 e0 x1 x5 h) → L5t Q R5 a0 n0 c0 e0 x1 x5 h)
 (g : G) (x1 x5 : Int) (h : Zaa) (hj : J g x1 x5 h) : L5 Q a0 n0 c0 e0 x1 x5 h := by
  refine Zed.inv2 (fun g => E5 fun a0' n0' c0' e0' x1 x5 h => a0 = a0' ∧ n0 = n0' ∧ c0 = c0' ∧ e0 = e0' ∧ J g x1 x5 h) (fun g => E5 fun a0' n0' c0' e0' x1 x5 h => a0 = a0' ∧ n0 = n0' ∧ c0 = c0' ∧ e0 = e0' ∧ ∃ g', m g' < m g ∧ J g' x1 x5 h) m ?_ ?_ g ⟨rfl, rfl, rfl, rfl, hj⟩
  · intro g env h hi
    obtain ⟨a0', n0', c0', e0', x1, x5, rfl, rfl, rfl, rfl, rfl, hj⟩ := Zhm hi
    exact Zqx Q _ a0 n0 c0 e0 x1 x5 h (hr g x1 x5 h hj (fun a0' n0' c0' e0' x1 x5 h => a0 = a0' ∧ n0 = n0' ∧ c0 = c0' ∧ e0 = e0' ∧ ∃ g', m g' < m g ∧ J g' x1 x5 h) fun g' x1 x5 h hlt hj => ⟨rfl, rfl, rfl, rfl, g', hlt, hj⟩)
  · intro g env h hi
    obtain ⟨a0', n0', c0', e0', x1, x5, rfl, rfl, rfl, rfl, rfl, g', hlt, hj⟩ := Zhm hi
    exact ⟨g', hlt, rfl, rfl, rfl, rfl, hj⟩
theorem A5x0i (Q : QT) (x1 : Int) (h : Zaa) (ht :
 Q (.int .i64 x1) h) : A5x0 Q x1 h :=
  At.mk (cast (by kernel_rfl) ht)
theorem call (a0 : Pt) (n0 c0 : Nat) (e0 : Bool) (x1 : Int) (h : Zaa) (Q : QT) (ht :
 bcase (decide (((IntKind.wrap .i64 (x1 - (((n0 : Nat) : Int)))) : Int) < 0)) (Q (.int .i64 (-1)) h) (L5 Q a0 n0 c0 e0 (IntKind.wrap .i64 (x1 - (((n0 : Nat) : Int)))) 0 h)) : Zad pg Zkq [.slice a0 n0 c0 e0, .int .i64 x1] h Q :=
  Zad.of_body kp (c := cod fn) (fn := fn) Go.Proofs.Tryz.func14 (by kernel_rfl) (by kernel_rfl) (Nat.le_of_ble_eq_true (by kernel_rfl))
    (cast (by kernel_rfl) ht)
end Zii
end Go.Sim

set_option maxRecDepth 100000
set_option linter.unusedVariables false
namespace Go.Sim
open Go Go.RowKit
namespace Zir
noncomputable abbrev fn : Func := Go.Proofs.Tryz.f73
def kp : Zcb := [(3000003, [3]), (1000003, [0, 3, 7, 8, 9]), (4000007, [9, 8, 7, 0, 3])]
noncomputable def C (p : List Nat) : Code := (cod fn).sub p
def KR (Q : QT) : KT := Zez pg fn.results.toList Q
abbrev T3 := List Nat → Pt → Nat → Nat → Bool → Pt → Nat → Nat → Bool → Int → Int → Zaa → Prop
def E3 (R3 : T3) (env : Env) (h : Zaa) : Prop := Zbt 0 env fun v env => Zbk (some v) fun x0 => Zbt 3 env fun v env => xSl (some v) fun a3 n3 c3 e3 => Zbt 7 env fun v env => xSl (some v) fun a7 n7 c7 e7 => Zbt 8 env fun v env => Zei .i64 v fun x8 => Zbt 9 env fun v env => Zei .i64 v fun x9 => Zjr env (R3 x0 a3 n3 c3 e3 a7 n7 c7 e7 x8 x9 h)
theorem Zes {R3 : T3} {env : Env} {h : Zaa} (hi : E3 R3 env h) : ∃ x0, ∃ a3, ∃ n3, ∃ c3, ∃ e3, ∃ a7, ∃ n7, ∃ c7, ∃ e7, ∃ x8, ∃ x9, env = [(0, .str x0), (3, .slice a3 n3 c3 e3), (7, .slice a7 n7 c7 e7), (8, .int .i64 x8), (9, .int .i64 x9)] ∧ R3 x0 a3 n3 c3 e3 a7 n7 c7 e7 x8 x9 h := by
  unfold E3 at hi
  have hi0 := hi
  clear hi
  obtain ⟨_, _, rfl, hi1⟩ := Zab hi0
  obtain ⟨x0, rfl, hi2⟩ := Zch hi1
  obtain ⟨_, _, rfl, hi3⟩ := Zab hi2
  obtain ⟨a3, n3, c3, e3, rfl, hi4⟩ := Zbh hi3
  obtain ⟨_, _, rfl, hi5⟩ := Zab hi4
  obtain ⟨a7, n7, c7, e7, rfl, hi6⟩ := Zbh hi5
  obtain ⟨_, _, rfl, hi7⟩ := Zab hi6
  obtain ⟨x8, rfl, hi8⟩ := Zat hi7
  obtain ⟨_, _, rfl, hi9⟩ := Zab hi8
  obtain ⟨x9, rfl, hi10⟩ := Zat hi9
  obtain ⟨rfl, hi11⟩ := Zbi hi10
  have hi := hi11
  exact ⟨x0, a3, n3, c3, e3, a7, n7, c7, e7, x8, x9, rfl, hi⟩
def K0 (Q : QT) : KT := andThen (fun env' h' => (match kp.find 4000008 with | some ks => Den pg fn.ntmps (C [1, 1, 1]) (env'.keep ks) h' (KR Q) | none => den pg fn.ntmps kp (C [1, 1, 1]) env' h' (KR Q))) (KR Q)
def K1 (Q : QT) : KT := Zcg 0 (K0 Q)
def K2 (Q : QT) : KT := Zgz kp 3 (K1 Q)
def K3 (Q : QT) (R3 : T3) : KT := rnd ((kp.find 1000003).getD []) (E3 R3) (K2 Q)
def L3 (Q : QT) (x0 : List Nat) (a3 : Pt) (n3 c3 : Nat) (e3 : Bool) (a7 : Pt) (n7 c7 : Nat) (e7 : Bool) (x8 x9 : Int) (h : Zaa) : Prop := Zed (Den pg fn.ntmps (C [1, 1, 0, 1, 0, 0])) ((kp.find 1000003).getD []) (K2 Q) [(0, .str x0), (3, .slice a3 n3 c3 e3), (7, .slice a7 n7 c7 e7), (8, .int .i64 x8), (9, .int .i64 x9)] h
def J7 (Q : QT) (R3 : T3) (x9 x8 : Int) (a7 : Pt) (n7 c7 : Nat) (e7 : Bool) (x0 : List Nat) (a3 : Pt) (n3 c3 : Nat) (e3 : Bool) (h : Zaa) : Prop := Den pg fn.ntmps (C [1, 1, 0, 1, 0, 0, 1, 1, 1]) [(9, .int .i64 x9), (8, .int .i64 x8), (7, .slice a7 n7 c7 e7), (0, .str x0), (3, .slice a3 n3 c3 e3)] h (K3 Q R3)
def Zpo (Q : QT) (a3 : Pt) (n3 c3 : Nat) (e3 : Bool) (h : Zaa) : Prop := At (K1 Q) (.exit 0) [(3, .slice a3 n3 c3 e3)] h
def L3t (Q : QT) (R3 : T3) (x0 : List Nat) (a3 : Pt) (n3 c3 : Nat) (e3 : Bool) (a7 : Pt) (n7 c7 : Nat) (e7 : Bool) (x8 x9 : Int) (h : Zaa) : Prop :=
 bcase (decide ((x9 : Int) < x8)) ((0 ≤ (x9 : Int) ∧ (x9 : Int) < (n7 : Nat)) ∧ (Zbl a7 fun I2 O3 => Zbk (Zag h (.ptr (some (I2, O3 + (Int.toNat x9) * 1)))) fun S4 => Zad pg Zeg [.str x0, .str S4] h fun V5 H6 =>
 Zbz (some V5) fun B7 => bcase B7 (Zdg (H6 ++ [.cells Zcm [.str S4] false]) fun H8 => Zey pg Zpp H8 (.slice a3 n3 c3 e3) (.slice (some (H6.length, 0)) 1 1 true) fun V9 H10 => xSl (some V9) fun A11 N12 C13 E14 => J7 Q R3 x9 x8 a7 n7 c7 e7 x0 A11 N12 C13 E14 H10) (J7 Q R3 x9 x8 a7 n7 c7 e7 x0 a3 n3 c3 e3 H6))) (Zpo Q a3 n3 c3 e3 h)
theorem Zme (Q : QT) (R3 : T3) (x0 : List Nat) (a3 : Pt) (n3 c3 : Nat) (e3 : Bool) (a7 : Pt) (n7 c7 : Nat) (e7 : Bool) (x8 x9 : Int) (h : Zaa) (ht : L3t Q R3 x0 a3 n3 c3 e3 a7 n7 c7 e7 x8 x9 h) : Den pg fn.ntmps (C [1, 1, 0, 1, 0, 0]) [(0, .str x0), (3, .slice a3 n3 c3 e3), (7, .slice a7 n7 c7 e7), (8, .int .i64 x8), (9, .int .i64 x9)] h (K3 Q R3) :=
  Zay (kp := kp) (cast (by kernel_rfl) ht)
theorem L3ind (Q : QT) (x0 : List Nat) (a7 : Pt) (n7 c7 : Nat) (e7 : Bool) (x8 : Int) {G : Type} (J : G → Pt → Nat → Nat → Bool → Int → Zaa → Prop) (m : G → Nat)
 (hr : ∀ (g : G) (a3 : Pt) (n3 c3 : Nat) (e3 : Bool) (x9 : Int) (h : Zaa), J g a3 n3 c3 e3 x9 h → ∀ (R3 : T3), (∀ g' (a3 : Pt) (n3 c3 : Nat) (e3 : Bool) (x9 : Int) (h : Zaa), m g' < m g → J g' a3 n3 c3 e3 x9 h → R3 x0 a3 n3 c3 e3 a7 n7 c7 e7 x8 x9 h) → L3t Q R3 x0 a3 n3 c3 e3 a7 n7 c7 e7 x8 x9 h)
 (g : G) (a3 : Pt) (n3 c3 : Nat) (e3 : Bool) (x9 : Int) (h : Zaa) (hj : J g a3 n3 c3 e3 x9 h) : L3 Q x0 a3 n3 c3 e3 a7 n7 c7 e7 x8 x9 h := by
  refine Zed.inv2 (fun g => E3 fun x0' a3 n3 c3 e3 a7' n7' c7' e7' x8' x9 h => x0 = x0' ∧ a7 = a7' ∧ n7 = n7' ∧ c7 = c7' ∧ e7 = e7' ∧ x8 = x8' ∧ J g a3 n3 c3 e3 x9 h) (fun g => E3 fun x0' a3 n3 c3 e3 a7' n7' c7' e7' x8' x9 h => x0 = x0' ∧ a7 = a7' ∧ n7 = n7' ∧ c7 = c7' ∧ e7 = e7' ∧ x8 = x8' ∧ ∃ g', m g' < m g ∧ J g' a3 n3 c3 e3 x9 h) m ?_ ?_ g ⟨rfl, rfl, rfl, rfl, rfl, rfl, hj⟩
  · intro g env h hi
    obtain ⟨x0', a3, n3, c3, e3, a7', n7', c7', e7', x8', x9, rfl, rfl, rfl, rfl, rfl, rfl, rfl, hj⟩ := Zes hi
    exact Zme Q _ x0 a3 n3 c3 e3 a7 n7 c7 e7 x8 x9 h (hr g a3 n3 c3 e3 x9 h hj (fun x0' a3 n3 c3 e3 a7' n7' c7' e7' x8' x9 h => x0 = x0' ∧ a7 = a7' ∧ n7 = n7' ∧ c7 = c7' ∧ e7 = e7' ∧ x8 = x8' ∧ ∃ g', m g' < m g ∧ J g' a3 n3 c3 e3 x9 h) fun g' a3 n3 c3 e3 x9 h hlt hj => ⟨rfl, rfl, rfl, rfl, rfl, rfl, g', hlt, hj⟩)
  · intro g env h hi
    obtain ⟨x0', a3, n3, c3, e3, a7', n7', c7', e7', x8', x9, rfl, rfl, rfl, rfl, rfl, rfl, rfl, g', hlt, hj⟩ := Zes hi
    exact ⟨g', hlt, rfl, rfl, rfl, rfl, rfl, rfl, hj⟩
theorem J7i (Q : QT) (R3 : T3) (x9 x8 : Int) (a7 : Pt) (n7 c7 : Nat) (e7 : Bool) (x0 : List Nat) (a3 : Pt) (n3 c3 : Nat) (e3 : Bool) (h : Zaa) (ht :
 R3 x0 a3 n3 c3 e3 a7 n7 c7 e7 x8 (IntKind.wrap .i64 (x9 + 1)) h) : J7 Q R3 x9 x8 a7 n7 c7 e7 x0 a3 n3 c3 e3 h :=
  Zay (kp := kp) (cast (by kernel_rfl) ht)
theorem A3x0i (Q : QT) (a3 : Pt) (n3 c3 : Nat) (e3 : Bool) (h : Zaa) (ht :
 Q (.slice a3 n3 c3 e3) h) : Zpo Q a3 n3 c3 e3 h :=
  At.mk (cast (by kernel_rfl) ht)
theorem call (x0 : List Nat) (h : Zaa) (Q : QT) (ht :
 Zdg (h ++ [.cells Zcm [] false]) fun H0 => Zdg (H0 ++ [.cells Zcm [.str [88], .str [89], .str [90], .str [120], .str [121], .str [122]] false]) fun H1 => L3 Q x0 (some (h.length, 0)) 0 0 true (some (H0.length, 0)) 6 6 true (((6 : Nat) : Int)) 0 H1) : Zad pg Zqu [.str x0] h Q :=
  Zad.of_body kp (c := cod fn) (fn := fn) Go.Proofs.Tryz.func73 (by kernel_rfl) (by kernel_rfl) (Nat.le_of_ble_eq_true (by kernel_rfl))
    (cast (by kernel_rfl) ht)
end Zir
end Go.Sim

set_option maxRecDepth 100000
set_option linter.unusedVariables false
namespace Go.Sim
open Go Go.RowKit
namespace Zek
noncomputable abbrev fn : Func := Go.Proofs.Tryz.f112
def kp : Zcb := [(4000004, [0, 6]), (3000006, [8, 6]), (1000006, [6, 8, 26, 27, 28]), (2000008, [28, 27, 26, 8, 6])]
noncomputable def C (p : List Nat) : Code := (cod fn).sub p
def KR (Q : QT) : KT := Zez pg fn.results.toList Q
abbrev T6 := Nat → Nat → Nat → Nat → Pt → Nat → Nat → Bool → Int → Int → Zaa → Prop
def E6 (R6 : T6) (env : Env) (h : Zaa) : Prop := Zbt 6 env fun v env => Zkx (some v) fun a => Zbl a fun i6 o6 => Zbt 8 env fun v env => Zkx (some v) fun a => Zbl a fun i8 o8 => Zbt 26 env fun v env => xSl (some v) fun a26 n26 c26 e26 => Zbt 27 env fun v env => Zei .i64 v fun x27 => Zbt 28 env fun v env => Zei .i64 v fun x28 => Zjr env (R6 i6 o6 i8 o8 a26 n26 c26 e26 x27 x28 h)
theorem Zmk {R6 : T6} {env : Env} {h : Zaa} (hi : E6 R6 env h) : ∃ i6, ∃ o6, ∃ i8, ∃ o8, ∃ a26, ∃ n26, ∃ c26, ∃ e26, ∃ x27, ∃ x28, env = [(6, .ptr (some (i6, o6))), (8, .ptr (some (i8, o8))), (26, .slice a26 n26 c26 e26), (27, .int .i64 x27), (28, .int .i64 x28)] ∧ R6 i6 o6 i8 o8 a26 n26 c26 e26 x27 x28 h := by
  unfold E6 at hi
  have hi0 := hi
  clear hi
  obtain ⟨_, _, rfl, hi1⟩ := Zab hi0
  obtain ⟨a, rfl, hi2⟩ := Zce hi1
  obtain ⟨i6, o6, rfl, hi3⟩ := Zby hi2
  obtain ⟨_, _, rfl, hi4⟩ := Zab hi3
  obtain ⟨a, rfl, hi5⟩ := Zce hi4
  obtain ⟨i8, o8, rfl, hi6⟩ := Zby hi5
  obtain ⟨_, _, rfl, hi7⟩ := Zab hi6
  obtain ⟨a26, n26, c26, e26, rfl, hi8⟩ := Zbh hi7
  obtain ⟨_, _, rfl, hi9⟩ := Zab hi8
  obtain ⟨x27, rfl, hi10⟩ := Zat hi9
  obtain ⟨_, _, rfl, hi11⟩ := Zab hi10
  obtain ⟨x28, rfl, hi12⟩ := Zat hi11
  obtain ⟨rfl, hi13⟩ := Zbi hi12
  have hi := hi13
  exact ⟨i6, o6, i8, o8, a26, n26, c26, e26, x27, x28, rfl, hi⟩
def K0 (Q : QT) : KT := andThen (fun env' h' => (match kp.find 4000010 with | some ks => Den pg fn.ntmps (C [1, 1, 1, 1, 1]) (env'.keep ks) h' (KR Q) | none => den pg fn.ntmps kp (C [1, 1, 1, 1, 1]) env' h' (KR Q))) (KR Q)
def K1 (Q : QT) : KT := Zcg 0 (K0 Q)
def K2 (Q : QT) : KT := Zgz kp 6 (K1 Q)
def K3 (Q : QT) (R6 : T6) : KT := rnd ((kp.find 1000006).getD []) (E6 R6) (K2 Q)
def J4 (Q : QT) (a0 : Pt) (n0 c0 : Nat) (e0 : Bool) (i6 o6 : Nat) (h : Zaa) : Prop := Den pg fn.ntmps (C [1, 1, 1]) [(0, .slice a0 n0 c0 e0), (6, .ptr (some (i6, o6)))] h (KR Q)
def L6 (Q : QT) (i6 o6 i8 o8 : Nat) (a26 : Pt) (n26 c26 : Nat) (e26 : Bool) (x27 x28 : Int) (h : Zaa) : Prop := Zed (Den pg fn.ntmps (C [1, 1, 1, 1, 0, 1, 0, 0])) ((kp.find 1000006).getD []) (K2 Q) [(6, .ptr (some (i6, o6))), (8, .ptr (some (i8, o8))), (26, .slice a26 n26 c26 e26), (27, .int .i64 x27), (28, .int .i64 x28)] h
def Ydy (Q : QT) (i8 o8 i6 o6 : Nat) (h : Zaa) : Prop := At (K1 Q) (.exit 0) [(8, .ptr (some (i8, o8))), (6, .ptr (some (i6, o6)))] h
theorem J4i (Q : QT) (a0 : Pt) (n0 c0 : Nat) (e0 : Bool) (i6 o6 : Nat) (h : Zaa) (ht :
 Zdg (h ++ [.cells Zfh [.int .u8 0, .slice none 0 0 true, .int .u8 0, .slice none 0 0 true, .int .u8 0, .slice none 0 0 true, .int .u8 0, .slice none 0 0 true, .int .u8 0, .slice none 0 0 true, .int .u8 0, .slice none 0 0 true, .int .u8 0, .slice none 0 0 true, .int .u8 0, .slice none 0 0 true, .int .u8 0, .slice none 0 0 true, .int .u8 0, .slice none 0 0 true, .int .u8 0, .slice none 0 0 true, .int .u8 0, .slice none 0 0 true] false]) fun H23 => L6 Q i6 o6 h.length 0 a0 n0 c0 e0 (((n0 : Nat) : Int)) 0 H23) : J4 Q a0 n0 c0 e0 i6 o6 h :=
  Zay (kp := kp) (cast (by kernel_rfl) ht)
def L6t (Q : QT) (R6 : T6) (i6 o6 i8 o8 : Nat) (a26 : Pt) (n26 c26 : Nat) (e26 : Bool) (x27 x28 : Int) (h : Zaa) : Prop :=
 bcase (decide ((x28 : Int) < x27)) ((0 ≤ (x28 : Int) ∧ (x28 : Int) < (n26 : Nat)) ∧ (Zbl a26 fun I24 O25 => Zcx (Zbp h (.ptr (some (I24, O25 + (Int.toNat x28) * 2))) 2) fun K26 => Zam K26 fun C27 Z28 => Zbk (some C27) fun S29 => Zam Z28 fun C30 Z31 => Zbk (some C30) fun S32 => Zci Z31 (Zdg (h ++ [.cells Zbb [.str [], .str []] false]) fun H33 => Zcu (Zbn H33 (.ptr (some (h.length, 0))) [.str S29, .str S32]) fun H34 => Zbk (Zag H34 (.ptr (some (h.length, 0 + 0)))) fun S35 => Zfg S35 0 fun B36 => Zbk (Zag H34 (.ptr (some (h.length, 0 + 1)))) fun S37 => Zad pg Zic [.int .u8 (((B36 : Nat) : Int))] H34 fun V38 H39 =>
 Zds .i64 (some V38) fun X40 => (Zag H39 (.ptr (some (h.length, 0 + 1))) = Zag H34 (.ptr (some (h.length, 0 + 1)))) ∧ (Zag H39 (.ptr (some (h.length, 0 + 0))) = Zag H34 (.ptr (some (h.length, 0 + 0)))) ∧ Zad pg Zgp [.str S37] H39 fun V41 H42 =>
 Zuc V41 fun K43 => Zam K43 fun C44 Z45 => Ztu C44 fun K46 => Zam K46 fun C47 Z48 => Zds .u8 (some C47) fun X49 => Zam Z48 fun C50 Z51 => xSl (some C50) fun A52 N53 C54 E55 => Zci Z51 (Zam Z45 fun C56 Z57 => Zbz (some C56) fun B58 => Zci Z57 ((Zag H42 (.ptr (some (h.length, 0 + 0))) = Zag H39 (.ptr (some (h.length, 0 + 0)))) ∧ (0 ≤ (X40 : Int) ∧ (X40 : Int) < (12 : Nat)) ∧ (Zcu (Zbn H42 (.ptr (some (i8, o8 + (Int.toNat X40) * 2))) [.int .u8 X49, .slice A52 N53 C54 E55]) fun H59 => R6 i6 o6 i8 o8 a26 n26 c26 e26 x27 (IntKind.wrap .i64 (x28 + 1)) H59)))))) (Ydy Q i8 o8 i6 o6 h)
theorem Zxx (Q : QT) (R6 : T6) (i6 o6 i8 o8 : Nat) (a26 : Pt) (n26 c26 : Nat) (e26 : Bool) (x27 x28 : Int) (h : Zaa) (ht : L6t Q R6 i6 o6 i8 o8 a26 n26 c26 e26 x27 x28 h) : Den pg fn.ntmps (C [1, 1, 1, 1, 0, 1, 0, 0]) [(6, .ptr (some (i6, o6))), (8, .ptr (some (i8, o8))), (26, .slice a26 n26 c26 e26), (27, .int .i64 x27), (28, .int .i64 x28)] h (K3 Q R6) :=
  Zay (kp := kp) (cast (by kernel_rfl) ht)
theorem L6ind (Q : QT) (i6 o6 i8 o8 : Nat) (a26 : Pt) (n26 c26 : Nat) (e26 : Bool) (x27 : Int) {G : Type} (J : G → Int → Zaa → Prop) (m : G → Nat)
 (hr : ∀ (g : G) (x28 : Int) (h : Zaa), J g x28 h → ∀ (R6 : T6), (∀ g' (x28 : Int) (h : Zaa), m g' < m g → J g' x28 h → R6 i6 o6 i8 o8 a26 n26 c26 e26 x27 x28 h) → L6t Q R6 i6 o6 i8 o8 a26 n26 c26 e26 x27 x28 h)
 (g : G) (x28 : Int) (h : Zaa) (hj : J g x28 h) : L6 Q i6 o6 i8 o8 a26 n26 c26 e26 x27 x28 h := by
  refine Zed.inv2 (fun g => E6 fun i6' o6' i8' o8' a26' n26' c26' e26' x27' x28 h => i6 = i6' ∧ o6 = o6' ∧ i8 = i8' ∧ o8 = o8' ∧ a26 = a26' ∧ n26 = n26' ∧ c26 = c26' ∧ e26 = e26' ∧ x27 = x27' ∧ J g x28 h) (fun g => E6 fun i6' o6' i8' o8' a26' n26' c26' e26' x27' x28 h => i6 = i6' ∧ o6 = o6' ∧ i8 = i8' ∧ o8 = o8' ∧ a26 = a26' ∧ n26 = n26' ∧ c26 = c26' ∧ e26 = e26' ∧ x27 = x27' ∧ ∃ g', m g' < m g ∧ J g' x28 h) m ?_ ?_ g ⟨rfl, rfl, rfl, rfl, rfl, rfl, rfl, rfl, rfl, hj⟩
  · intro g env h hi
    obtain ⟨i6', o6', i8', o8', a26', n26', c26', e26', x27', x28, rfl, rfl, rfl, rfl, rfl, rfl, rfl, rfl, rfl, rfl, hj⟩ := Zmk hi
    exact Zxx Q _ i6 o6 i8 o8 a26 n26 c26 e26 x27 x28 h (hr g x28 h hj (fun i6' o6' i8' o8' a26' n26' c26' e26' x27' x28 h => i6 = i6' ∧ o6 = o6' ∧ i8 = i8' ∧ o8 = o8' ∧ a26 = a26' ∧ n26 = n26' ∧ c26 = c26' ∧ e26 = e26' ∧ x27 = x27' ∧ ∃ g', m g' < m g ∧ J g' x28 h) fun g' x28 h hlt hj => ⟨rfl, rfl, rfl, rfl, rfl, rfl, rfl, rfl, rfl, g', hlt, hj⟩)
  · intro g env h hi
    obtain ⟨i6', o6', i8', o8', a26', n26', c26', e26', x27', x28, rfl, rfl, rfl, rfl, rfl, rfl, rfl, rfl, rfl, rfl, g', hlt, hj⟩ := Zmk hi
    exact ⟨g', hlt, rfl, rfl, rfl, rfl, rfl, rfl, rfl, rfl, rfl, hj⟩
theorem A6x0i (Q : QT) (i8 o8 i6 o6 : Nat) (h : Zaa) (ht :
 Zcx (Zbp h (.ptr (some (i6, o6))) 2) fun K60 => Zam K60 fun C61 Z62 => Zds .u8 (some C61) fun X63 => Zam Z62 fun C64 Z65 => xSl (some C64) fun A66 N67 C68 E69 => Zci Z65 (Zad pg Zml [.ptr (some (i8, o8)), .agg [.int .u8 X63, .slice A66 N67 C68 E69]] h fun V70 H71 =>
 Ztu V70 fun K72 => Zam K72 fun C73 Z74 => Zds .u8 (some C73) fun X75 => Zam Z74 fun C76 Z77 => xSl (some C76) fun A78 N79 C80 E81 => Zci Z77 (Zdg (H71 ++ [.cells Zac [.int .u8 0, .slice none 0 0 true] false]) fun H82 => Zcu (Zbn H82 (.ptr (some (H71.length, 0))) [.int .u8 X75, .slice A78 N79 C80 E81]) fun H83 => Zcx (Zbp H83 (.ptr (some (H71.length, 0))) 2) fun K84 => Zam K84 fun C85 Z86 => Zds .u8 (some C85) fun X87 => Zam Z86 fun C88 Z89 => xSl (some C88) fun A90 N91 C92 E93 => Zci Z89 (Zad pg Zhi [.agg [.int .u8 X87, .slice A90 N91 C92 E93]] H83 fun V94 H95 =>
 Zds .i64 (some V94) fun X96 => bcase (decide ((X96 : Int) > 60)) (Q (.tup [.str [], .bool false]) H95) (Zcx (Zbp H95 (.ptr (some (H71.length, 0))) 2) fun K97 => Zam K97 fun C98 Z99 => Zds .u8 (some C98) fun X100 => Zam Z99 fun C101 Z102 => xSl (some C101) fun A103 N104 C105 E106 => Zci Z102 (Zad pg Zgn [.agg [.int .u8 X100, .slice A103 N104 C105 E106]] H95 fun V107 H108 =>
 Zbk (some V107) fun S109 => Q (.tup [.str S109, .bool true]) H108)))))) : Ydy Q i8 o8 i6 o6 h :=
  At.mk (cast (by kernel_rfl) ht)
theorem call (a0 : Pt) (n0 c0 : Nat) (e0 : Bool) (x1 : List Nat) (h : Zaa) (Q : QT) (ht :
 Zad pg Zgp [.str x1] h fun V0 H1 =>
 Zuc V0 fun K2 => Zam K2 fun C3 Z4 => Ztu C3 fun K5 => Zam K5 fun C6 Z7 => Zds .u8 (some C6) fun X8 => Zam Z7 fun C9 Z10 => xSl (some C9) fun A11 N12 C13 E14 => Zci Z10 (Zam Z4 fun C15 Z16 => Zbz (some C15) fun B17 => Zci Z16 (Zdg (H1 ++ [.cells Zac [.int .u8 0, .slice none 0 0 true] false]) fun H18 => Zcu (Zbn H18 (.ptr (some (H1.length, 0))) [.int .u8 X8, .slice A11 N12 C13 E14]) fun H19 => bcase (!B17) (Q (.tup [.str [], .bool false]) H19) (Zad pg Zhz [.slice a0 n0 c0 e0] H19 fun V20 H21 =>
 Zbz (some V20) fun B22 => bcase (!B22) (Q (.tup [.str [], .bool false]) H21) (J4 Q a0 n0 c0 e0 H1.length 0 H21))))) : Zad pg Zhx [.slice a0 n0 c0 e0, .str x1] h Q :=
  Zad.of_body kp (c := cod fn) (fn := fn) Go.Proofs.Tryz.func112 (by kernel_rfl) (by kernel_rfl) (Nat.le_of_ble_eq_true (by kernel_rfl))
    (cast (by kernel_rfl) ht)
end Zek
namespace Zig
noncomputable abbrev fn : Func := Go.Proofs.Tryz.f66
def kp : Zcb := [(3000006, [6, 4, 5]), (1000006, [6, 7, 26, 27, 28])]
noncomputable def C (p : List Nat) : Code := (cod fn).sub p
def KR (Q : QT) : KT := Zez pg fn.results.toList Q
abbrev T6 := Pt → Nat → Nat → Bool → Pt → Nat → Nat → Bool → Pt → Nat → Nat → Bool → Int → Int → Zaa → Prop
def E6 (R6 : T6) (env : Env) (h : Zaa) : Prop := Zbt 6 env fun v env => xSl (some v) fun a6 n6 c6 e6 => Zbt 7 env fun v env => xSl (some v) fun a7 n7 c7 e7 => Zbt 26 env fun v env => xSl (some v) fun a26 n26 c26 e26 => Zbt 27 env fun v env => Zei .i64 v fun x27 => Zbt 28 env fun v env => Zei .i64 v fun x28 => Zjr env (R6 a6 n6 c6 e6 a7 n7 c7 e7 a26 n26 c26 e26 x27 x28 h)
theorem Zmk {R6 : T6} {env : Env} {h : Zaa} (hi : E6 R6 env h) : ∃ a6, ∃ n6, ∃ c6, ∃ e6, ∃ a7, ∃ n7, ∃ c7, ∃ e7, ∃ a26, ∃ n26, ∃ c26, ∃ e26, ∃ x27, ∃ x28, env = [(6, .slice a6 n6 c6 e6), (7, .slice a7 n7 c7 e7), (26, .slice a26 n26 c26 e26), (27, .int .i64 x27), (28, .int .i64 x28)] ∧ R6 a6 n6 c6 e6 a7 n7 c7 e7 a26 n26 c26 e26 x27 x28 h := by
  unfold E6 at hi
  have hi0 := hi
  clear hi
  obtain ⟨_, _, rfl, hi1⟩ := Zab hi0
  obtain ⟨a6, n6, c6, e6, rfl, hi2⟩ := Zbh hi1
  obtain ⟨_, _, rfl, hi3⟩ := Zab hi2
  obtain ⟨a7, n7, c7, e7, rfl, hi4⟩ := Zbh hi3
  obtain ⟨_, _, rfl, hi5⟩ := Zab hi4
  obtain ⟨a26, n26, c26, e26, rfl, hi6⟩ := Zbh hi5
  obtain ⟨_, _, rfl, hi7⟩ := Zab hi6
  obtain ⟨x27, rfl, hi8⟩ := Zat hi7
  obtain ⟨_, _, rfl, hi9⟩ := Zab hi8
  obtain ⟨x28, rfl, hi10⟩ := Zat hi9
  obtain ⟨rfl, hi11⟩ := Zbi hi10
  have hi := hi11
  exact ⟨a6, n6, c6, e6, a7, n7, c7, e7, a26, n26, c26, e26, x27, x28, rfl, hi⟩
def K0 (Q : QT) : KT := andThen (fun env' h' => (match kp.find 4000013 with | some ks => Den pg fn.ntmps (C [1, 1, 1, 1, 1]) (env'.keep ks) h' (KR Q) | none => den pg fn.ntmps kp (C [1, 1, 1, 1, 1]) env' h' (KR Q))) (KR Q)
def K1 (Q : QT) : KT := Zcg 0 (K0 Q)
def K2 (Q : QT) : KT := Zgz kp 6 (K1 Q)
def K3 (Q : QT) (R6 : T6) : KT := rnd ((kp.find 1000006).getD []) (E6 R6) (K2 Q)
def L6 (Q : QT) (a6 : Pt) (n6 c6 : Nat) (e6 : Bool) (a7 : Pt) (n7 c7 : Nat) (e7 : Bool) (a26 : Pt) (n26 c26 : Nat) (e26 : Bool) (x27 x28 : Int) (h : Zaa) : Prop := Zed (Den pg fn.ntmps (C [1, 1, 1, 1, 0, 1, 0, 0])) ((kp.find 1000006).getD []) (K2 Q) [(6, .slice a6 n6 c6 e6), (7, .slice a7 n7 c7 e7), (26, .slice a26 n26 c26 e26), (27, .int .i64 x27), (28, .int .i64 x28)] h
def Ydy (Q : QT) (a6 : Pt) (n6 c6 : Nat) (e6 : Bool) (h : Zaa) : Prop := At (K1 Q) (.exit 0) [(6, .slice a6 n6 c6 e6), (4, .undef), (5, .undef)] h
def L6t (Q : QT) (R6 : T6) (a6 : Pt) (n6 c6 : Nat) (e6 : Bool) (a7 : Pt) (n7 c7 : Nat) (e7 : Bool) (a26 : Pt) (n26 c26 : Nat) (e26 : Bool) (x27 x28 : Int) (h : Zaa) : Prop :=
 bcase (decide ((x28 : Int) < x27)) ((0 ≤ (x28 : Int) ∧ (x28 : Int) < (n26 : Nat)) ∧ (Zbl a26 fun I19 O20 => Zcx (Zbp h (.ptr (some (I19, O20 + (Int.toNat x28) * 2))) 2) fun K21 => Zam K21 fun C22 Z23 => Zbk (some C22) fun S24 => Zam Z23 fun C25 Z26 => Zbk (some C25) fun S27 => Zci Z26 (Zdg (h ++ [.cells Zaj [.str [], .str []] false]) fun H28 => Zcu (Zbn H28 (.ptr (some (h.length, 0))) [.str S24, .str S27]) fun H29 => Zbk (Zag H29 (.ptr (some (h.length, 0 + 1)))) fun S30 => Zad pg Zhx [.slice a7 n7 c7 e7, .str S30] H29 fun V31 H32 =>
 Zuc V31 fun K33 => Zam K33 fun C34 Z35 => Zbk (some C34) fun S36 => Zam Z35 fun C37 Z38 => Zbz (some C37) fun B39 => Zci Z38 (bcase (!B39) (Zdg (H32 ++ [.cells Zaj [] false]) fun H40 => Q (.tup [.slice (some (H32.length, 0)) 0 0 true, .bool false]) H40) (Zbk (Zag H32 (.ptr (some (h.length, 0 + 0)))) fun S41 => Zdg (H32 ++ [.cells Zaj [.str S41, .str S36] false]) fun H42 => Zey pg Znx H42 (.slice a6 n6 c6 e6) (.slice (some (H32.length, 0)) 1 1 true) fun V43 H44 => xSl (some V43) fun A45 N46 C47 E48 => R6 A45 N46 C47 E48 a7 n7 c7 e7 a26 n26 c26 e26 x27 (IntKind.wrap .i64 (x28 + 1)) H44))))) (Ydy Q a6 n6 c6 e6 h)
theorem Zxx (Q : QT) (R6 : T6) (a6 : Pt) (n6 c6 : Nat) (e6 : Bool) (a7 : Pt) (n7 c7 : Nat) (e7 : Bool) (a26 : Pt) (n26 c26 : Nat) (e26 : Bool) (x27 x28 : Int) (h : Zaa) (ht : L6t Q R6 a6 n6 c6 e6 a7 n7 c7 e7 a26 n26 c26 e26 x27 x28 h) : Den pg fn.ntmps (C [1, 1, 1, 1, 0, 1, 0, 0]) [(6, .slice a6 n6 c6 e6), (7, .slice a7 n7 c7 e7), (26, .slice a26 n26 c26 e26), (27, .int .i64 x27), (28, .int .i64 x28)] h (K3 Q R6) :=
  Zay (kp := kp) (cast (by kernel_rfl) ht)
theorem L6ind (Q : QT) (a7 : Pt) (n7 c7 : Nat) (e7 : Bool) (a26 : Pt) (n26 c26 : Nat) (e26 : Bool) (x27 : Int) {G : Type} (J : G → Pt → Nat → Nat → Bool → Int → Zaa → Prop) (m : G → Nat)
 (hr : ∀ (g : G) (a6 : Pt) (n6 c6 : Nat) (e6 : Bool) (x28 : Int) (h : Zaa), J g a6 n6 c6 e6 x28 h → ∀ (R6 : T6), (∀ g' (a6 : Pt) (n6 c6 : Nat) (e6 : Bool) (x28 : Int) (h : Zaa), m g' < m g → J g' a6 n6 c6 e6 x28 h → R6 a6 n6 c6 e6 a7 n7 c7 e7 a26 n26 c26 e26 x27 x28 h) → L6t Q R6 a6 n6 c6 e6 a7 n7 c7 e7 a26 n26 c26 e26 x27 x28 h)
 (g : G) (a6 : Pt) (n6 c6 : Nat) (e6 : Bool) (x28 : Int) (h : Zaa) (hj : J g a6 n6 c6 e6 x28 h) : L6 Q a6 n6 c6 e6 a7 n7 c7 e7 a26 n26 c26 e26 x27 x28 h := by
  refine Zed.inv2 (fun g => E6 fun a6 n6 c6 e6 a7' n7' c7' e7' a26' n26' c26' e26' x27' x28 h => a7 = a7' ∧ n7 = n7' ∧ c7 = c7' ∧ e7 = e7' ∧ a26 = a26' ∧ n26 = n26' ∧ c26 = c26' ∧ e26 = e26' ∧ x27 = x27' ∧ J g a6 n6 c6 e6 x28 h) (fun g => E6 fun a6 n6 c6 e6 a7' n7' c7' e7' a26' n26' c26' e26' x27' x28 h => a7 = a7' ∧ n7 = n7' ∧ c7 = c7' ∧ e7 = e7' ∧ a26 = a26' ∧ n26 = n26' ∧ c26 = c26' ∧ e26 = e26' ∧ x27 = x27' ∧ ∃ g', m g' < m g ∧ J g' a6 n6 c6 e6 x28 h) m ?_ ?_ g ⟨rfl, rfl, rfl, rfl, rfl, rfl, rfl, rfl, rfl, hj⟩
  · intro g env h hi
    obtain ⟨a6, n6, c6, e6, a7', n7', c7', e7', a26', n26', c26', e26', x27', x28, rfl, rfl, rfl, rfl, rfl, rfl, rfl, rfl, rfl, rfl, hj⟩ := Zmk hi
    exact Zxx Q _ a6 n6 c6 e6 a7 n7 c7 e7 a26 n26 c26 e26 x27 x28 h (hr g a6 n6 c6 e6 x28 h hj (fun a6 n6 c6 e6 a7' n7' c7' e7' a26' n26' c26' e26' x27' x28 h => a7 = a7' ∧ n7 = n7' ∧ c7 = c7' ∧ e7 = e7' ∧ a26 = a26' ∧ n26 = n26' ∧ c26 = c26' ∧ e26 = e26' ∧ x27 = x27' ∧ ∃ g', m g' < m g ∧ J g' a6 n6 c6 e6 x28 h) fun g' a6 n6 c6 e6 x28 h hlt hj => ⟨rfl, rfl, rfl, rfl, rfl, rfl, rfl, rfl, rfl, g', hlt, hj⟩)
  · intro g env h hi
    obtain ⟨a6, n6, c6, e6, a7', n7', c7', e7', a26', n26', c26', e26', x27', x28, rfl, rfl, rfl, rfl, rfl, rfl, rfl, rfl, rfl, rfl, g', hlt, hj⟩ := Zmk hi
    exact ⟨g', hlt, rfl, rfl, rfl, rfl, rfl, rfl, rfl, rfl, rfl, hj⟩
theorem A6x0i (Q : QT) (a6 : Pt) (n6 c6 : Nat) (e6 : Bool) (h : Zaa) (ht :
 Q (.tup [.slice a6 n6 c6 e6, .bool true]) h) : Ydy Q a6 n6 c6 e6 h :=
  At.mk (cast (by kernel_rfl) ht)
theorem call (x0x0 x0x1 : List Nat) (a0x2 : Pt) (n0x2 c0x2 : Nat) (e0x2 : Bool) (x1 : List Nat) (h : Zaa) (Q : QT) (ht :
 Zdg (h ++ [.cells Zas [.str x0x0, .str x0x1, .slice a0x2 n0x2 c0x2 e0x2] false]) fun H0 => Zdg (H0 ++ [.cells Zaj [] false]) fun H1 => Zbk (Zag H1 (.ptr (some (h.length, 0 + 0 + 1)))) fun S2 => Zad pg Zin [.str S2, .str x1] H1 fun V3 H4 =>
 Zuc V3 fun K5 => Zam K5 fun C6 Z7 => xSl (some C6) fun A8 N9 C10 E11 => Zam Z7 fun C12 Z13 => Zbz (some C12) fun B14 => Zci Z13 (bcase (!B14) (Q (.tup [.slice (some (H0.length, 0)) 0 0 true, .bool false]) H4) (xSl (Zag H4 (.ptr (some (h.length, 0 + 2)))) fun A15 N16 C17 E18 => L6 Q (some (H0.length, 0)) 0 0 true A8 N9 C10 E11 A15 N16 C17 E18 (((N16 : Nat) : Int)) 0 H4))) : Zad pg Zmw [.agg [.str x0x0, .str x0x1, .slice a0x2 n0x2 c0x2 e0x2], .str x1] h Q :=
  Zad.of_body kp (c := cod fn) (fn := fn) Go.Proofs.Tryz.func66 (by kernel_rfl) (by kernel_rfl) (Nat.le_of_ble_eq_true (by kernel_rfl))
    (cast (by kernel_rfl) ht)
end Zig
end Go.Sim

set_option maxRecDepth 100000
set_option linter.unusedVariables false
namespace Go.Sim
open Go Go.RowKit
namespace Zdo
noncomputable abbrev fn : Func := Go.Proofs.Tryz.f143
def kp : Zcb := [(3000002, [2]), (1000002, [0, 5, 6, 7]), (2000004, [43, 7, 6, 5, 0]), (4000006, [7, 6, 5, 0])]
noncomputable def C (p : List Nat) : Code := (cod fn).sub p
def KR (Q : QT) : KT := Zez pg fn.results.toList Q
abbrev T2 := Pt → Nat → Nat → Bool → Pt → Nat → Nat → Bool → Int → Int → Zaa → Prop
def E2 (R2 : T2) (env : Env) (h : Zaa) : Prop := Zbt 0 env fun v env => xSl (some v) fun a0 n0 c0 e0 => Zbt 5 env fun v env => xSl (some v) fun a5 n5 c5 e5 => Zbt 6 env fun v env => Zei .i64 v fun x6 => Zbt 7 env fun v env => Zei .i64 v fun x7 => Zjr env (R2 a0 n0 c0 e0 a5 n5 c5 e5 x6 x7 h)
theorem Zdx {R2 : T2} {env : Env} {h : Zaa} (hi : E2 R2 env h) : ∃ a0, ∃ n0, ∃ c0, ∃ e0, ∃ a5, ∃ n5, ∃ c5, ∃ e5, ∃ x6, ∃ x7, env = [(0, .slice a0 n0 c0 e0), (5, .slice a5 n5 c5 e5), (6, .int .i64 x6), (7, .int .i64 x7)] ∧ R2 a0 n0 c0 e0 a5 n5 c5 e5 x6 x7 h := by
  unfold E2 at hi
  have hi0 := hi
  clear hi
  obtain ⟨_, _, rfl, hi1⟩ := Zab hi0
  obtain ⟨a0, n0, c0, e0, rfl, hi2⟩ := Zbh hi1
  obtain ⟨_, _, rfl, hi3⟩ := Zab hi2
  obtain ⟨a5, n5, c5, e5, rfl, hi4⟩ := Zbh hi3
  obtain ⟨_, _, rfl, hi5⟩ := Zab hi4
  obtain ⟨x6, rfl, hi6⟩ := Zat hi5
  obtain ⟨_, _, rfl, hi7⟩ := Zab hi6
  obtain ⟨x7, rfl, hi8⟩ := Zat hi7
  obtain ⟨rfl, hi9⟩ := Zbi hi8
  have hi := hi9
  exact ⟨a0, n0, c0, e0, a5, n5, c5, e5, x6, x7, rfl, hi⟩
def K0 (Q : QT) : KT := andThen (fun env' h' => (match kp.find 4000007 with | some ks => Den pg fn.ntmps (C [1, 1]) (env'.keep ks) h' (KR Q) | none => den pg fn.ntmps kp (C [1, 1]) env' h' (KR Q))) (KR Q)
def K1 (Q : QT) : KT := Zcg 0 (K0 Q)
def K2 (Q : QT) : KT := Zgz kp 2 (K1 Q)
def K3 (Q : QT) (R2 : T2) : KT := rnd ((kp.find 1000002).getD []) (E2 R2) (K2 Q)
def L2 (Q : QT) (a0 : Pt) (n0 c0 : Nat) (e0 : Bool) (a5 : Pt) (n5 c5 : Nat) (e5 : Bool) (x6 x7 : Int) (h : Zaa) : Prop := Zed (Den pg fn.ntmps (C [1, 0, 1, 0, 0])) ((kp.find 1000002).getD []) (K2 Q) [(0, .slice a0 n0 c0 e0), (5, .slice a5 n5 c5 e5), (6, .int .i64 x6), (7, .int .i64 x7)] h
def J6 (Q : QT) (R2 : T2) (x7 x6 : Int) (a5 : Pt) (n5 c5 : Nat) (e5 : Bool) (a0 : Pt) (n0 c0 : Nat) (e0 : Bool) (h : Zaa) : Prop := Den pg fn.ntmps (C [1, 0, 1, 0, 0, 1, 1, 1]) [(7, .int .i64 x7), (6, .int .i64 x6), (5, .slice a5 n5 c5 e5), (0, .slice a0 n0 c0 e0)] h (K3 Q R2)
def Zno (Q : QT) (h : Zaa) : Prop := At (K1 Q) (.exit 0) [(2, .undef)] h
def L2t (Q : QT) (R2 : T2) (a0 : Pt) (n0 c0 : Nat) (e0 : Bool) (a5 : Pt) (n5 c5 : Nat) (e5 : Bool) (x6 x7 : Int) (h : Zaa) : Prop :=
 bcase (decide ((x7 : Int) < x6)) ((0 ≤ (x7 : Int) ∧ (x7 : Int) < (n5 : Nat)) ∧ (Zbl a5 fun I0 O1 => Zcx (Zbp h (.ptr (some (I0, O1 + (Int.toNat x7) * 2))) 2) fun K2 => Zam K2 fun C3 Z4 => Zbk (some C3) fun S5 => Zam Z4 fun C6 Z7 => Zbk (some C6) fun S8 => Zci Z7 (Zdg (h ++ [.cells Zbb [.str [], .str []] false]) fun H9 => Zcu (Zbn H9 (.ptr (some (h.length, 0))) [.str S5, .str S8]) fun H10 => Zbk (Zag H10 (.ptr (some (h.length, 0 + 0)))) fun S11 => bcase (!((((List.length S11 : Nat) : Int) : Int) == 1)) ((Zag H10 (.tup []) = Zag H10 (.tup [])) ∧ Q (.bool false) H10) (Zbk (Zag H10 (.ptr (some (h.length, 0 + 0)))) fun S12 => Zfg S12 0 fun B13 => Zad pg Zgi [.int .u8 (((B13 : Nat) : Int))] H10 fun V14 H15 =>
 Zbz (some V14) fun B16 => bcase (!B16) ((Zag H15 (.tup []) = Zag H15 (.tup [])) ∧ Q (.bool false) H15) (Zbk (Zag H15 (.ptr (some (h.length, 0 + 1)))) fun S17 => Zad pg Zex [.str S17] H15 fun V18 H19 =>
 Zbz (some V18) fun B20 => bcase (!B20) ((Zag H19 (.tup []) = Zag H19 (.tup [])) ∧ Q (.bool false) H19) (bcase (decide ((x7 : Int) > 0)) ((0 ≤ (IntKind.wrap .i64 (x7 - 1) : Int) ∧ (IntKind.wrap .i64 (x7 - 1) : Int) < (n0 : Nat)) ∧ (Zbl a0 fun I21 O22 => Zbk (Zag H19 (.ptr (some (I21, O22 + (Int.toNat (IntKind.wrap .i64 (x7 - 1))) * 2 + 0)))) fun S23 => Zbk (Zag H19 (.ptr (some (h.length, 0 + 0)))) fun S24 => (Zag H19 (.ptr (some (I21, O22 + (Int.toNat (IntKind.wrap .i64 (x7 - 1))) * 2 + 0))) = Zag H19 (.ptr (some (I21, O22 + (Int.toNat (IntKind.wrap .i64 (x7 - 1))) * 2 + 0)))) ∧ bcase (!Zdv S23 S24) (Q (.bool false) H19) (J6 Q R2 x7 x6 a5 n5 c5 e5 a0 n0 c0 e0 H19))) ((Zag H19 (.tup []) = Zag H19 (.tup [])) ∧ J6 Q R2 x7 x6 a5 n5 c5 e5 a0 n0 c0 e0 H19))))))) (Zno Q h)
theorem Zkf (Q : QT) (R2 : T2) (a0 : Pt) (n0 c0 : Nat) (e0 : Bool) (a5 : Pt) (n5 c5 : Nat) (e5 : Bool) (x6 x7 : Int) (h : Zaa) (ht : L2t Q R2 a0 n0 c0 e0 a5 n5 c5 e5 x6 x7 h) : Den pg fn.ntmps (C [1, 0, 1, 0, 0]) [(0, .slice a0 n0 c0 e0), (5, .slice a5 n5 c5 e5), (6, .int .i64 x6), (7, .int .i64 x7)] h (K3 Q R2) :=
  Zay (kp := kp) (cast (by kernel_rfl) ht)
theorem L2ind (Q : QT) (a0 : Pt) (n0 c0 : Nat) (e0 : Bool) (a5 : Pt) (n5 c5 : Nat) (e5 : Bool) (x6 : Int) {G : Type} (J : G → Int → Zaa → Prop) (m : G → Nat)
 (hr : ∀ (g : G) (x7 : Int) (h : Zaa), J g x7 h → ∀ (R2 : T2), (∀ g' (x7 : Int) (h : Zaa), m g' < m g → J g' x7 h → R2 a0 n0 c0 e0 a5 n5 c5 e5 x6 x7 h) → L2t Q R2 a0 n0 c0 e0 a5 n5 c5 e5 x6 x7 h)
 (g : G) (x7 : Int) (h : Zaa) (hj : J g x7 h) : L2 Q a0 n0 c0 e0 a5 n5 c5 e5 x6 x7 h := by
  refine Zed.inv2 (fun g => E2 fun a0' n0' c0' e0' a5' n5' c5' e5' x6' x7 h => a0 = a0' ∧ n0 = n0' ∧ c0 = c0' ∧ e0 = e0' ∧ a5 = a5' ∧ n5 = n5' ∧ c5 = c5' ∧ e5 = e5' ∧ x6 = x6' ∧ J g x7 h) (fun g => E2 fun a0' n0' c0' e0' a5' n5' c5' e5' x6' x7 h => a0 = a0' ∧ n0 = n0' ∧ c0 = c0' ∧ e0 = e0' ∧ a5 = a5' ∧ n5 = n5' ∧ c5 = c5' ∧ e5 = e5' ∧ x6 = x6' ∧ ∃ g', m g' < m g ∧ J g' x7 h) m ?_ ?_ g ⟨rfl, rfl, rfl, rfl, rfl, rfl, rfl, rfl, rfl, hj⟩
  · intro g env h hi
    obtain ⟨a0', n0', c0', e0', a5', n5', c5', e5', x6', x7, rfl, rfl, rfl, rfl, rfl, rfl, rfl, rfl, rfl, rfl, hj⟩ := Zdx hi
    exact Zkf Q _ a0 n0 c0 e0 a5 n5 c5 e5 x6 x7 h (hr g x7 h hj (fun a0' n0' c0' e0' a5' n5' c5' e5' x6' x7 h => a0 = a0' ∧ n0 = n0' ∧ c0 = c0' ∧ e0 = e0' ∧ a5 = a5' ∧ n5 = n5' ∧ c5 = c5' ∧ e5 = e5' ∧ x6 = x6' ∧ ∃ g', m g' < m g ∧ J g' x7 h) fun g' x7 h hlt hj => ⟨rfl, rfl, rfl, rfl, rfl, rfl, rfl, rfl, rfl, g', hlt, hj⟩)
  · intro g env h hi
    obtain ⟨a0', n0', c0', e0', a5', n5', c5', e5', x6', x7, rfl, rfl, rfl, rfl, rfl, rfl, rfl, rfl, rfl, rfl, g', hlt, hj⟩ := Zdx hi
    exact ⟨g', hlt, rfl, rfl, rfl, rfl, rfl, rfl, rfl, rfl, rfl, hj⟩
theorem J6i (Q : QT) (R2 : T2) (x7 x6 : Int) (a5 : Pt) (n5 c5 : Nat) (e5 : Bool) (a0 : Pt) (n0 c0 : Nat) (e0 : Bool) (h : Zaa) (ht :
 R2 a0 n0 c0 e0 a5 n5 c5 e5 x6 (IntKind.wrap .i64 (x7 + 1)) h) : J6 Q R2 x7 x6 a5 n5 c5 e5 a0 n0 c0 e0 h :=
  Zay (kp := kp) (cast (by kernel_rfl) ht)
theorem A2x0i (Q : QT) (h : Zaa) (ht :
 Q (.bool true) h) : Zno Q h :=
  At.mk (cast (by kernel_rfl) ht)
theorem call (a0 : Pt) (n0 c0 : Nat) (e0 : Bool) (h : Zaa) (Q : QT) (ht :
 L2 Q a0 n0 c0 e0 a0 n0 c0 e0 (((n0 : Nat) : Int)) 0 h) : Zad pg Zhz [.slice a0 n0 c0 e0] h Q :=
  Zad.of_body kp (c := cod fn) (fn := fn) Go.Proofs.Tryz.func143 (by kernel_rfl) (by kernel_rfl) (Nat.le_of_ble_eq_true (by kernel_rfl))
    (cast (by kernel_rfl) ht)
end Zdo
namespace Zhg
noncomputable abbrev fn : Func := Go.Proofs.Tryz.f108
def kp : Zcb := [(4000004, [3, 0, 4]), (3000006, [6, 4]), (1000006, [0, 4, 6, 33, 34, 35]), (2000008, [35, 34, 33, 6, 0, 4])]
noncomputable def C (p : List Nat) : Code := (cod fn).sub p
def KR (Q : QT) : KT := Zez pg fn.results.toList Q
abbrev T6 := Pt → Nat → Nat → Nat → Nat → Pt → Nat → Nat → Bool → Int → Int → Zaa → Prop
def E6 (R6 : T6) (env : Env) (h : Zaa) : Prop := Zbt 0 env fun v env => Zkx (some v) fun a0 => Zbt 4 env fun v env => Zkx (some v) fun a => Zbl a fun i4 o4 => Zbt 6 env fun v env => Zkx (some v) fun a => Zbl a fun i6 o6 => Zbt 33 env fun v env => xSl (some v) fun a33 n33 c33 e33 => Zbt 34 env fun v env => Zei .i64 v fun x34 => Zbt 35 env fun v env => Zei .i64 v fun x35 => Zjr env (R6 a0 i4 o4 i6 o6 a33 n33 c33 e33 x34 x35 h)
theorem Zmk {R6 : T6} {env : Env} {h : Zaa} (hi : E6 R6 env h) : ∃ a0, ∃ i4, ∃ o4, ∃ i6, ∃ o6, ∃ a33, ∃ n33, ∃ c33, ∃ e33, ∃ x34, ∃ x35, env = [(0, .ptr a0), (4, .ptr (some (i4, o4))), (6, .ptr (some (i6, o6))), (33, .slice a33 n33 c33 e33), (34, .int .i64 x34), (35, .int .i64 x35)] ∧ R6 a0 i4 o4 i6 o6 a33 n33 c33 e33 x34 x35 h := by
  unfold E6 at hi
  have hi0 := hi
  clear hi
  obtain ⟨_, _, rfl, hi1⟩ := Zab hi0
  obtain ⟨a0, rfl, hi2⟩ := Zce hi1
  obtain ⟨_, _, rfl, hi3⟩ := Zab hi2
  obtain ⟨a, rfl, hi4⟩ := Zce hi3
  obtain ⟨i4, o4, rfl, hi5⟩ := Zby hi4
  obtain ⟨_, _, rfl, hi6⟩ := Zab hi5
  obtain ⟨a, rfl, hi7⟩ := Zce hi6
  obtain ⟨i6, o6, rfl, hi8⟩ := Zby hi7
  obtain ⟨_, _, rfl, hi9⟩ := Zab hi8
  obtain ⟨a33, n33, c33, e33, rfl, hi10⟩ := Zbh hi9
  obtain ⟨_, _, rfl, hi11⟩ := Zab hi10
  obtain ⟨x34, rfl, hi12⟩ := Zat hi11
  obtain ⟨_, _, rfl, hi13⟩ := Zab hi12
  obtain ⟨x35, rfl, hi14⟩ := Zat hi13
  obtain ⟨rfl, hi15⟩ := Zbi hi14
  have hi := hi15
  exact ⟨a0, i4, o4, i6, o6, a33, n33, c33, e33, x34, x35, rfl, hi⟩
def K0 (Q : QT) : KT := andThen (fun env' h' => (match kp.find 4000010 with | some ks => Den pg fn.ntmps (C [1, 1, 1, 1]) (env'.keep ks) h' (KR Q) | none => den pg fn.ntmps kp (C [1, 1, 1, 1]) env' h' (KR Q))) (KR Q)
def K1 (Q : QT) : KT := Zcg 0 (K0 Q)
def K2 (Q : QT) : KT := Zgz kp 6 (K1 Q)
def K3 (Q : QT) (R6 : T6) : KT := rnd ((kp.find 1000006).getD []) (E6 R6) (K2 Q)
def J4 (Q : QT) (i3 o3 : Nat) (a0 : Pt) (i4 o4 : Nat) (h : Zaa) : Prop := Den pg fn.ntmps (C [1, 1]) [(3, .ptr (some (i3, o3))), (0, .ptr a0), (4, .ptr (some (i4, o4)))] h (KR Q)
def L6 (Q : QT) (a0 : Pt) (i4 o4 i6 o6 : Nat) (a33 : Pt) (n33 c33 : Nat) (e33 : Bool) (x34 x35 : Int) (h : Zaa) : Prop := Zed (Den pg fn.ntmps (C [1, 1, 1, 0, 1, 0, 0])) ((kp.find 1000006).getD []) (K2 Q) [(0, .ptr a0), (4, .ptr (some (i4, o4))), (6, .ptr (some (i6, o6))), (33, .slice a33 n33 c33 e33), (34, .int .i64 x34), (35, .int .i64 x35)] h
def Ydy (Q : QT) (i6 o6 i4 o4 : Nat) (h : Zaa) : Prop := At (K1 Q) (.exit 0) [(6, .ptr (some (i6, o6))), (4, .ptr (some (i4, o4)))] h
theorem J4i (Q : QT) (i3 o3 : Nat) (a0 : Pt) (i4 o4 : Nat) (h : Zaa) (ht :
 Zds .u8 (Zag h (.ptr (some (i3, o3 + 0)))) fun X32 => Zdg (h ++ [.cells Zac [] false]) fun H33 => Zdg (H33 ++ [.cells Zac [.int .u8 0, .slice none 0 0 true] false]) fun H34 => Zcu (Zbn H34 (.ptr (some (H33.length, 0))) [.int .u8 X32, .slice (some (h.length, 0)) 0 0 true]) fun H35 => xSl (Zag H35 (.ptr (some (i3, o3 + 1)))) fun A36 N37 C38 E39 => L6 Q a0 i4 o4 H33.length 0 A36 N37 C38 E39 (((N37 : Nat) : Int)) 0 H35) : J4 Q i3 o3 a0 i4 o4 h :=
  Zay (kp := kp) (cast (by kernel_rfl) ht)
def L6t (Q : QT) (R6 : T6) (a0 : Pt) (i4 o4 i6 o6 : Nat) (a33 : Pt) (n33 c33 : Nat) (e33 : Bool) (x34 x35 : Int) (h : Zaa) : Prop :=
 bcase (decide ((x35 : Int) < x34)) ((0 ≤ (x35 : Int) ∧ (x35 : Int) < (n33 : Nat)) ∧ (Zbl a33 fun I40 O41 => Zcx (Zbp h (.ptr (some (I40, O41 + (Int.toNat x35) * 2))) 2) fun K42 => Zam K42 fun C43 Z44 => Zds .u8 (some C43) fun X45 => Zam Z44 fun C46 Z47 => xSl (some C46) fun A48 N49 C50 E51 => Zci Z47 (Zdg (h ++ [.cells Zac [.int .u8 0, .slice none 0 0 true] false]) fun H52 => Zcu (Zbn H52 (.ptr (some (h.length, 0))) [.int .u8 X45, .slice A48 N49 C50 E51]) fun H53 => xSl (Zag H53 (.ptr (some (i6, o6 + 1)))) fun A54 N55 C56 E57 => Zcx (Zbp H53 (.ptr (some (h.length, 0))) 2) fun K58 => Zam K58 fun C59 Z60 => Zds .u8 (some C59) fun X61 => Zam Z60 fun C62 Z63 => xSl (some C62) fun A64 N65 C66 E67 => Zci Z63 ((Zag H53 (.ptr (some (i6, o6 + 1))) = Zag H53 (.ptr (some (i6, o6 + 1)))) ∧ Zad pg Zml [.ptr a0, .agg [.int .u8 X61, .slice A64 N65 C66 E67]] H53 fun V68 H69 =>
 Ztu V68 fun K70 => Zam K70 fun C71 Z72 => Zds .u8 (some C71) fun X73 => Zam Z72 fun C74 Z75 => xSl (some C74) fun A76 N77 C78 E79 => Zci Z75 ((Zag H69 (.ptr (some (i6, o6 + 1))) = Zag H53 (.ptr (some (i6, o6 + 1)))) ∧ Zdg (H69 ++ [.cells Zac [.int .u8 X73, .slice A76 N77 C78 E79] false]) fun H80 => (Zag H80 (.ptr (some (i6, o6 + 1))) = Zag H69 (.ptr (some (i6, o6 + 1)))) ∧ Zey pg Zjh H80 (.slice A54 N55 C56 E57) (.slice (some (H69.length, 0)) 1 1 true) fun V81 H82 => xSl (some V81) fun A83 N84 C85 E86 => Zcu (Zbn H82 (.ptr (some (i6, o6 + 1))) [.slice A83 N84 C85 E86]) fun H87 => R6 a0 i4 o4 i6 o6 a33 n33 c33 e33 x34 (IntKind.wrap .i64 (x35 + 1)) H87))))) (Ydy Q i6 o6 i4 o4 h)
theorem Zxx (Q : QT) (R6 : T6) (a0 : Pt) (i4 o4 i6 o6 : Nat) (a33 : Pt) (n33 c33 : Nat) (e33 : Bool) (x34 x35 : Int) (h : Zaa) (ht : L6t Q R6 a0 i4 o4 i6 o6 a33 n33 c33 e33 x34 x35 h) : Den pg fn.ntmps (C [1, 1, 1, 0, 1, 0, 0]) [(0, .ptr a0), (4, .ptr (some (i4, o4))), (6, .ptr (some (i6, o6))), (33, .slice a33 n33 c33 e33), (34, .int .i64 x34), (35, .int .i64 x35)] h (K3 Q R6) :=
  Zay (kp := kp) (cast (by kernel_rfl) ht)
theorem L6ind (Q : QT) (a0 : Pt) (i4 o4 i6 o6 : Nat) (a33 : Pt) (n33 c33 : Nat) (e33 : Bool) (x34 : Int) {G : Type} (J : G → Int → Zaa → Prop) (m : G → Nat)
 (hr : ∀ (g : G) (x35 : Int) (h : Zaa), J g x35 h → ∀ (R6 : T6), (∀ g' (x35 : Int) (h : Zaa), m g' < m g → J g' x35 h → R6 a0 i4 o4 i6 o6 a33 n33 c33 e33 x34 x35 h) → L6t Q R6 a0 i4 o4 i6 o6 a33 n33 c33 e33 x34 x35 h)
 (g : G) (x35 : Int) (h : Zaa) (hj : J g x35 h) : L6 Q a0 i4 o4 i6 o6 a33 n33 c33 e33 x34 x35 h := by
  refine Zed.inv2 (fun g => E6 fun a0' i4' o4' i6' o6' a33' n33' c33' e33' x34' x35 h => a0 = a0' ∧ i4 = i4' ∧ o4 = o4' ∧ i6 = i6' ∧ o6 = o6' ∧ a33 = a33' ∧ n33 = n33' ∧ c33 = c33' ∧ e33 = e33' ∧ x34 = x34' ∧ J g x35 h) (fun g => E6 fun a0' i4' o4' i6' o6' a33' n33' c33' e33' x34' x35 h => a0 = a0' ∧ i4 = i4' ∧ o4 = o4' ∧ i6 = i6' ∧ o6 = o6' ∧ a33 = a33' ∧ n33 = n33' ∧ c33 = c33' ∧ e33 = e33' ∧ x34 = x34' ∧ ∃ g', m g' < m g ∧ J g' x35 h) m ?_ ?_ g ⟨rfl, rfl, rfl, rfl, rfl, rfl, rfl, rfl, rfl, rfl, hj⟩
  · intro g env h hi
    obtain ⟨a0', i4', o4', i6', o6', a33', n33', c33', e33', x34', x35, rfl, rfl, rfl, rfl, rfl, rfl, rfl, rfl, rfl, rfl, rfl, hj⟩ := Zmk hi
    exact Zxx Q _ a0 i4 o4 i6 o6 a33 n33 c33 e33 x34 x35 h (hr g x35 h hj (fun a0' i4' o4' i6' o6' a33' n33' c33' e33' x34' x35 h => a0 = a0' ∧ i4 = i4' ∧ o4 = o4' ∧ i6 = i6' ∧ o6 = o6' ∧ a33 = a33' ∧ n33 = n33' ∧ c33 = c33' ∧ e33 = e33' ∧ x34 = x34' ∧ ∃ g', m g' < m g ∧ J g' x35 h) fun g' x35 h hlt hj => ⟨rfl, rfl, rfl, rfl, rfl, rfl, rfl, rfl, rfl, rfl, g', hlt, hj⟩)
  · intro g env h hi
    obtain ⟨a0', i4', o4', i6', o6', a33', n33', c33', e33', x34', x35, rfl, rfl, rfl, rfl, rfl, rfl, rfl, rfl, rfl, rfl, rfl, g', hlt, hj⟩ := Zmk hi
    exact ⟨g', hlt, rfl, rfl, rfl, rfl, rfl, rfl, rfl, rfl, rfl, rfl, hj⟩
theorem A6x0i (Q : QT) (i6 o6 i4 o4 : Nat) (h : Zaa) (ht :
 Zcx (Zbp h (.ptr (some (i6, o6))) 2) fun K88 => Zam K88 fun C89 Z90 => Zds .u8 (some C89) fun X91 => Zam Z90 fun C92 Z93 => xSl (some C92) fun A94 N95 C96 E97 => Zci Z93 (Zcu (Zbn h (.ptr (some (i4, o4))) [.int .u8 X91, .slice A94 N95 C96 E97]) fun H98 => Zcx (Zbp H98 (.ptr (some (i4, o4))) 2) fun K99 => Zam K99 fun C100 Z101 => Zds .u8 (some C100) fun X102 => Zam Z101 fun C103 Z104 => xSl (some C103) fun A105 N106 C107 E108 => Zci Z104 (Q (.agg [.int .u8 X102, .slice A105 N106 C107 E108]) H98))) : Ydy Q i6 o6 i4 o4 h :=
  At.mk (cast (by kernel_rfl) ht)
theorem call (a0 : Pt) (x1x0 : Int) (a1x1 : Pt) (n1x1 c1x1 : Nat) (e1x1 : Bool) (h : Zaa) (Q : QT) (ht :
 Zdg (h ++ [.cells Zac [.int .u8 x1x0, .slice a1x1 n1x1 c1x1 e1x1] false]) fun H0 => Zdg (H0 ++ [.cells Zac [.int .u8 0, .slice none 0 0 true] false]) fun H1 => Zds .u8 (Zag H1 (.ptr (some (h.length, 0 + 0)))) fun X2 => Zad pg Zic [.int .u8 X2] H1 fun V3 H4 =>
 Zds .i64 (some V3) fun X5 => bcase (decide ((X5 : Int) ≥ 0)) (Zbl a0 fun I6 O7 => (0 ≤ (X5 : Int) ∧ (X5 : Int) < (12 : Nat)) ∧ (Zds .u8 (Zag H4 (.ptr (some (I6, O7 + (Int.toNat X5) * 2 + 0)))) fun X8 => bcase (!((X8 : Int) == 0)) (Zbl a0 fun I9 O10 => (0 ≤ (X5 : Int) ∧ (X5 : Int) < (12 : Nat)) ∧ (Zcx (Zbp H4 (.ptr (some (I9, O10 + (Int.toNat X5) * 2))) 2) fun K11 => Zam K11 fun C12 Z13 => Zds .u8 (some C12) fun X14 => Zam Z13 fun C15 Z16 => xSl (some C15) fun A17 N18 C19 E20 => Zci Z16 (Zcu (Zbn H4 (.ptr (some (H0.length, 0))) [.int .u8 X14, .slice A17 N18 C19 E20]) fun H21 => Zcx (Zbp H21 (.ptr (some (H0.length, 0))) 2) fun K22 => Zam K22 fun C23 Z24 => Zds .u8 (some C23) fun X25 => Zam Z24 fun C26 Z27 => xSl (some C26) fun A28 N29 C30 E31 => Zci Z27 (Q (.agg [.int .u8 X25, .slice A28 N29 C30 E31]) H21)))) (J4 Q h.length 0 a0 H0.length 0 H4))) (J4 Q h.length 0 a0 H0.length 0 H4)) : Zad pg Zml [.ptr a0, .agg [.int .u8 x1x0, .slice a1x1 n1x1 c1x1 e1x1]] h Q :=
  Zad.of_body kp (c := cod fn) (fn := fn) Go.Proofs.Tryz.func108 (by kernel_rfl) (by kernel_rfl) (Nat.le_of_ble_eq_true (by kernel_rfl))
    (cast (by kernel_rfl) ht)
end Zhg
end Go.Sim
