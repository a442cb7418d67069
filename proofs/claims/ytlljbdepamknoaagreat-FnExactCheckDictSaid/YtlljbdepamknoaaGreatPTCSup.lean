/- A part of the proof of a statement of this seat: see the text that holds the theorem. No condition. -/
import Derived.Test.YtlljbdepamknoaaGreatNm
set_option linter.unusedVariables false
set_option linter.unusedSimpArgs false
set_option linter.all false
set_option maxRecDepth 100000
set_option linter.unusedVariables false
namespace Go.Sim
open Go Go.RowKit
namespace Zpw
noncomputable abbrev fn : Func := Go.Proofs.Tryz.f8
def kp : Zcf := []
noncomputable def C (p : List Nat) : Code := (cod fn).sub p
def KR (Q : QT) : KT := Zey pg fn.results.toList Q
theorem call (x0x0 x0x1 : List Nat) (x1 : Int) (h : Zaa) (Q : QT) (ht :
 Zdb (h ++ [.cells Zjg [.str x0x0, .str x0x1] false]) fun H0 => Zbo (Zae H0 (.ptr (some (h.length, 0 + 0)))) fun S1 => bcase (decide (((IntKind.wrap .i64 (x1 - (((List.length S1 : Nat) : Int)))) : Int) < 0)) (Q (.int .i64 (-1)) H0) (Zbo (Zae H0 (.ptr (some (h.length, 0 + 1)))) fun S2 => bcase (decide (((IntKind.wrap .i64 ((IntKind.wrap .i64 (x1 - (((List.length S1 : Nat) : Int)))) - (((List.length S2 : Nat) : Int)))) : Int) < 0)) (Q (.int .i64 (-1)) H0) (Q (.int .i64 (IntKind.wrap .i64 ((IntKind.wrap .i64 (x1 - (((List.length S1 : Nat) : Int)))) - (((List.length S2 : Nat) : Int))))) H0))) : Zad pg Zil [.agg [.str x0x0, .str x0x1], .int .i64 x1] h Q :=
  Zad.of_body kp (c := cod fn) (fn := fn) Go.Proofs.Tryz.func8 (by kernel_rfl) (by kernel_rfl) (Nat.le_of_ble_eq_true (by kernel_rfl))
    (cast (by kernel_rfl) ht)
end Zpw
namespace Zqb
noncomputable abbrev fn : Func := Go.Proofs.Tryz.f49
def kp : Zcf := []
noncomputable def C (p : List Nat) : Code := (cod fn).sub p
def KR (Q : QT) : KT := Zey pg fn.results.toList Q
theorem call (x0x0 x0x1 x1x0 x1x1 : List Nat) (h : Zaa) (Q : QT) (ht :
 Zdb (h ++ [.cells Zar [.str x0x0, .str x0x1] false]) fun H0 => Zdb (H0 ++ [.cells Zar [.str x1x0, .str x1x1] false]) fun H1 => Zbo (Zae H1 (.ptr (some (h.length, 0 + 0)))) fun S2 => Zbo (Zae H1 (.ptr (some (H0.length, 0 + 0)))) fun S3 => bcase (!(decide (S2 = S3))) (Q (.bool false) H1) (Zbo (Zae H1 (.ptr (some (h.length, 0 + 1)))) fun S4 => Zbo (Zae H1 (.ptr (some (H0.length, 0 + 1)))) fun S5 => bcase (!(decide (S4 = S5))) (Q (.bool false) H1) (Q (.bool true) H1))) : Zad pg Zkf [.agg [.str x0x0, .str x0x1], .agg [.str x1x0, .str x1x1]] h Q :=
  Zad.of_body kp (c := cod fn) (fn := fn) Go.Proofs.Tryz.func49 (by kernel_rfl) (by kernel_rfl) (Nat.le_of_ble_eq_true (by kernel_rfl))
    (cast (by kernel_rfl) ht)
end Zqb
namespace Zqd
noncomputable abbrev fn : Func := Go.Proofs.Tryz.f11
def kp : Zcf := []
noncomputable def C (p : List Nat) : Code := (cod fn).sub p
def KR (Q : QT) : KT := Zey pg fn.results.toList Q
theorem call (x0x0 x0x1 : List Nat) (h : Zaa) (Q : QT) (ht :
 Zdb (h ++ [.cells Zjg [.str x0x0, .str x0x1] false]) fun H0 => Zdb (H0 ++ [.cells Zar [.str [], .str []] false]) fun H1 => Zdb (H1 ++ [.cells Zar [.str [], .str []] false]) fun H2 => Zbo (Zae H2 (.ptr (some (h.length, 0 + 0)))) fun S3 => Zcb (Zbd H2 (.ptr (some (H1.length, 0 + 0))) [.str S3]) fun H4 => Zbo (Zae H4 (.ptr (some (h.length, 0 + 1)))) fun S5 => Zcb (Zbd H4 (.ptr (some (H1.length, 0 + 1))) [.str S5]) fun H6 => Zcx (Zbp H6 (.ptr (some (H1.length, 0))) 2) fun K7 => Zaj K7 fun C8 Z9 => Zbo (some C8) fun S10 => Zaj Z9 fun C11 Z12 => Zbo (some C11) fun S13 => Zcg Z12 (Zcb (Zbd H6 (.ptr (some (H0.length, 0))) [.str S10, .str S13]) fun H14 => Zcx (Zbp H14 (.ptr (some (H0.length, 0))) 2) fun K15 => Zaj K15 fun C16 Z17 => Zbo (some C16) fun S18 => Zaj Z17 fun C19 Z20 => Zbo (some C19) fun S21 => Zcg Z20 (Q (.agg [.str S18, .str S21]) H14))) : Zad pg Zgw [.agg [.str x0x0, .str x0x1]] h Q :=
  Zad.of_body kp (c := cod fn) (fn := fn) Go.Proofs.Tryz.func11 (by kernel_rfl) (by kernel_rfl) (Nat.le_of_ble_eq_true (by kernel_rfl))
    (cast (by kernel_rfl) ht)
end Zqd
namespace Zhn
noncomputable abbrev fn : Func := Go.Proofs.Tryz.f14
def kp : Zcf := [(3000005, [1, 4]), (1000005, [0, 1, 5])]
noncomputable def C (p : List Nat) : Code := (cod fn).sub p
def KR (Q : QT) : KT := Zey pg fn.results.toList Q
abbrev T5 := Pt → Nat → Nat → Bool → Int → Int → Zaa → Prop
def E5 (R5 : T5) (env : Env) (h : Zaa) : Prop := Zcc 0 env fun v env => xSl (some v) fun a0 n0 c0 e0 => Zcc 1 env fun v env => Zeo .i64 v fun x1 => Zcc 5 env fun v env => Zeo .i64 v fun x5 => Zkg env (R5 a0 n0 c0 e0 x1 x5 h)
theorem Zhv {R5 : T5} {env : Env} {h : Zaa} (hi : E5 R5 env h) : ∃ a0, ∃ n0, ∃ c0, ∃ e0, ∃ x1, ∃ x5, env = [(0, .slice a0 n0 c0 e0), (1, .int .i64 x1), (5, .int .i64 x5)] ∧ R5 a0 n0 c0 e0 x1 x5 h := by
  unfold E5 at hi
  have hi0 := hi
  clear hi
  obtain ⟨_, _, rfl, hi1⟩ := Zab hi0
  obtain ⟨a0, n0, c0, e0, rfl, hi2⟩ := Zbl hi1
  obtain ⟨_, _, rfl, hi3⟩ := Zab hi2
  obtain ⟨x1, rfl, hi4⟩ := Zaw hi3
  obtain ⟨_, _, rfl, hi5⟩ := Zab hi4
  obtain ⟨x5, rfl, hi6⟩ := Zaw hi5
  obtain ⟨rfl, hi7⟩ := Zbn hi6
  have hi := hi7
  exact ⟨a0, n0, c0, e0, x1, x5, rfl, hi⟩
def K0 (Q : QT) : KT := andThen (fun env' h' => (match kp.find 4000010 with | some ks => Den pg fn.ntmps (C [1, 1, 1, 1]) (env'.keep ks) h' (KR Q) | none => den pg fn.ntmps kp (C [1, 1, 1, 1]) env' h' (KR Q))) (KR Q)
def K1 (Q : QT) : KT := Zcr 0 (K0 Q)
def K2 (Q : QT) : KT := left kp 5 (K1 Q)
def K3 (Q : QT) (R5 : T5) : KT := rnd ((kp.find 1000005).getD []) (E5 R5) (K2 Q)
def L5 (Q : QT) (a0 : Pt) (n0 c0 : Nat) (e0 : Bool) (x1 x5 : Int) (h : Zaa) : Prop := Zeg (Den pg fn.ntmps (C [1, 1, 1, 0, 1, 0, 0])) ((kp.find 1000005).getD []) (K2 Q) [(0, .slice a0 n0 c0 e0), (1, .int .i64 x1), (5, .int .i64 x5)] h
def A5x0 (Q : QT) (x1 : Int) (h : Zaa) : Prop := At (K1 Q) (.exit 0) [(1, .int .i64 x1), (4, .undef)] h
def L5t (Q : QT) (R5 : T5) (a0 : Pt) (n0 c0 : Nat) (e0 : Bool) (x1 x5 : Int) (h : Zaa) : Prop :=
 bcase (decide ((x5 : Int) < (((n0 : Nat) : Int)))) ((0 ≤ (x5 : Int) ∧ (x5 : Int) < (n0 : Nat)) ∧ (Zbi a0 fun I0 O1 => Zcx (Zbp h (.ptr (some (I0, O1 + (Int.toNat x5) * 2))) 2) fun K2 => Zaj K2 fun C3 Z4 => Zbo (some C3) fun S5 => Zaj Z4 fun C6 Z7 => Zbo (some C6) fun S8 => Zcg Z7 (Zad pg Zil [.agg [.str S5, .str S8], .int .i64 x1] h fun V9 H10 =>
 Zdd .i64 (some V9) fun X11 => bcase (decide ((X11 : Int) < 0)) (Q (.int .i64 (-1)) H10) (R5 a0 n0 c0 e0 X11 (IntKind.wrap .i64 (x5 + 1)) H10)))) (A5x0 Q x1 h)
theorem Zrk (Q : QT) (R5 : T5) (a0 : Pt) (n0 c0 : Nat) (e0 : Bool) (x1 x5 : Int) (h : Zaa) (ht : L5t Q R5 a0 n0 c0 e0 x1 x5 h) : Den pg fn.ntmps (C [1, 1, 1, 0, 1, 0, 0]) [(0, .slice a0 n0 c0 e0), (1, .int .i64 x1), (5, .int .i64 x5)] h (K3 Q R5) :=
  Zbc (kp := kp) (cast (by kernel_rfl) ht)
theorem L5ind (Q : QT) (a0 : Pt) (n0 c0 : Nat) (e0 : Bool) {G : Type} (J : G → Int → Int → Zaa → Prop) (m : G → Nat)
 (hr : ∀ (g : G) (x1 x5 : Int) (h : Zaa), J g x1 x5 h → ∀ (R5 : T5), (∀ g' (x1 x5 : Int) (h : Zaa), m g' < m g → J g' x1 x5 h → R5 a0 n0 c0 e0 x1 x5 h) → L5t Q R5 a0 n0 c0 e0 x1 x5 h)
 (g : G) (x1 x5 : Int) (h : Zaa) (hj : J g x1 x5 h) : L5 Q a0 n0 c0 e0 x1 x5 h := by
  refine Zeg.inv2 (fun g => E5 fun a0' n0' c0' e0' x1 x5 h => a0 = a0' ∧ n0 = n0' ∧ c0 = c0' ∧ e0 = e0' ∧ J g x1 x5 h) (fun g => E5 fun a0' n0' c0' e0' x1 x5 h => a0 = a0' ∧ n0 = n0' ∧ c0 = c0' ∧ e0 = e0' ∧ ∃ g', m g' < m g ∧ J g' x1 x5 h) m ?_ ?_ g ⟨rfl, rfl, rfl, rfl, hj⟩
  · intro g env h hi
    obtain ⟨a0', n0', c0', e0', x1, x5, rfl, rfl, rfl, rfl, rfl, hj⟩ := Zhv hi
    exact Zrk Q _ a0 n0 c0 e0 x1 x5 h (hr g x1 x5 h hj (fun a0' n0' c0' e0' x1 x5 h => a0 = a0' ∧ n0 = n0' ∧ c0 = c0' ∧ e0 = e0' ∧ ∃ g', m g' < m g ∧ J g' x1 x5 h) fun g' x1 x5 h hlt hj => ⟨rfl, rfl, rfl, rfl, g', hlt, hj⟩)
  · intro g env h hi
    obtain ⟨a0', n0', c0', e0', x1, x5, rfl, rfl, rfl, rfl, rfl, g', hlt, hj⟩ := Zhv hi
    exact ⟨g', hlt, rfl, rfl, rfl, rfl, hj⟩
theorem A5x0i (Q : QT) (x1 : Int) (h : Zaa) (ht :
 Q (.int .i64 x1) h) : A5x0 Q x1 h :=
  At.mk (cast (by kernel_rfl) ht)
theorem call (a0 : Pt) (n0 c0 : Nat) (e0 : Bool) (x1 : Int) (h : Zaa) (Q : QT) (ht :
 bcase (decide (((IntKind.wrap .i64 (x1 - (((n0 : Nat) : Int)))) : Int) < 0)) (Q (.int .i64 (-1)) h) (L5 Q a0 n0 c0 e0 (IntKind.wrap .i64 (x1 - (((n0 : Nat) : Int)))) 0 h)) : Zad pg Zlh [.slice a0 n0 c0 e0, .int .i64 x1] h Q :=
  Zad.of_body kp (c := cod fn) (fn := fn) Go.Proofs.Tryz.func14 (by kernel_rfl) (by kernel_rfl) (Nat.le_of_ble_eq_true (by kernel_rfl))
    (cast (by kernel_rfl) ht)
end Zhn
end Go.Sim

set_option maxRecDepth 100000
set_option linter.unusedVariables false
namespace Go.Sim
open Go Go.RowKit
namespace Zhu
noncomputable abbrev fn : Func := Go.Proofs.Tryz.f73
def kp : Zcf := [(3000003, [3]), (1000003, [0, 3, 7, 8, 9]), (4000007, [9, 8, 7, 0, 3])]
noncomputable def C (p : List Nat) : Code := (cod fn).sub p
def KR (Q : QT) : KT := Zey pg fn.results.toList Q
abbrev T3 := List Nat → Pt → Nat → Nat → Bool → Pt → Nat → Nat → Bool → Int → Int → Zaa → Prop
def E3 (R3 : T3) (env : Env) (h : Zaa) : Prop := Zcc 0 env fun v env => Zbo (some v) fun x0 => Zcc 3 env fun v env => xSl (some v) fun a3 n3 c3 e3 => Zcc 7 env fun v env => xSl (some v) fun a7 n7 c7 e7 => Zcc 8 env fun v env => Zeo .i64 v fun x8 => Zcc 9 env fun v env => Zeo .i64 v fun x9 => Zkg env (R3 x0 a3 n3 c3 e3 a7 n7 c7 e7 x8 x9 h)
theorem Zfh {R3 : T3} {env : Env} {h : Zaa} (hi : E3 R3 env h) : ∃ x0, ∃ a3, ∃ n3, ∃ c3, ∃ e3, ∃ a7, ∃ n7, ∃ c7, ∃ e7, ∃ x8, ∃ x9, env = [(0, .str x0), (3, .slice a3 n3 c3 e3), (7, .slice a7 n7 c7 e7), (8, .int .i64 x8), (9, .int .i64 x9)] ∧ R3 x0 a3 n3 c3 e3 a7 n7 c7 e7 x8 x9 h := by
  unfold E3 at hi
  have hi0 := hi
  clear hi
  obtain ⟨_, _, rfl, hi1⟩ := Zab hi0
  obtain ⟨x0, rfl, hi2⟩ := Zea hi1
  obtain ⟨_, _, rfl, hi3⟩ := Zab hi2
  obtain ⟨a3, n3, c3, e3, rfl, hi4⟩ := Zbl hi3
  obtain ⟨_, _, rfl, hi5⟩ := Zab hi4
  obtain ⟨a7, n7, c7, e7, rfl, hi6⟩ := Zbl hi5
  obtain ⟨_, _, rfl, hi7⟩ := Zab hi6
  obtain ⟨x8, rfl, hi8⟩ := Zaw hi7
  obtain ⟨_, _, rfl, hi9⟩ := Zab hi8
  obtain ⟨x9, rfl, hi10⟩ := Zaw hi9
  obtain ⟨rfl, hi11⟩ := Zbn hi10
  have hi := hi11
  exact ⟨x0, a3, n3, c3, e3, a7, n7, c7, e7, x8, x9, rfl, hi⟩
def K0 (Q : QT) : KT := andThen (fun env' h' => (match kp.find 4000008 with | some ks => Den pg fn.ntmps (C [1, 1, 1]) (env'.keep ks) h' (KR Q) | none => den pg fn.ntmps kp (C [1, 1, 1]) env' h' (KR Q))) (KR Q)
def K1 (Q : QT) : KT := Zcr 0 (K0 Q)
def K2 (Q : QT) : KT := left kp 3 (K1 Q)
def K3 (Q : QT) (R3 : T3) : KT := rnd ((kp.find 1000003).getD []) (E3 R3) (K2 Q)
def L3 (Q : QT) (x0 : List Nat) (a3 : Pt) (n3 c3 : Nat) (e3 : Bool) (a7 : Pt) (n7 c7 : Nat) (e7 : Bool) (x8 x9 : Int) (h : Zaa) : Prop := Zeg (Den pg fn.ntmps (C [1, 1, 0, 1, 0, 0])) ((kp.find 1000003).getD []) (K2 Q) [(0, .str x0), (3, .slice a3 n3 c3 e3), (7, .slice a7 n7 c7 e7), (8, .int .i64 x8), (9, .int .i64 x9)] h
def J7 (Q : QT) (R3 : T3) (x9 x8 : Int) (a7 : Pt) (n7 c7 : Nat) (e7 : Bool) (x0 : List Nat) (a3 : Pt) (n3 c3 : Nat) (e3 : Bool) (h : Zaa) : Prop := Den pg fn.ntmps (C [1, 1, 0, 1, 0, 0, 1, 1, 1]) [(9, .int .i64 x9), (8, .int .i64 x8), (7, .slice a7 n7 c7 e7), (0, .str x0), (3, .slice a3 n3 c3 e3)] h (K3 Q R3)
def Zrz (Q : QT) (a3 : Pt) (n3 c3 : Nat) (e3 : Bool) (h : Zaa) : Prop := At (K1 Q) (.exit 0) [(3, .slice a3 n3 c3 e3)] h
def L3t (Q : QT) (R3 : T3) (x0 : List Nat) (a3 : Pt) (n3 c3 : Nat) (e3 : Bool) (a7 : Pt) (n7 c7 : Nat) (e7 : Bool) (x8 x9 : Int) (h : Zaa) : Prop :=
 bcase (decide ((x9 : Int) < x8)) ((0 ≤ (x9 : Int) ∧ (x9 : Int) < (n7 : Nat)) ∧ (Zbi a7 fun I2 O3 => Zbo (Zae h (.ptr (some (I2, O3 + (Int.toNat x9) * 1)))) fun S4 => Zad pg Zev [.str x0, .str S4] h fun V5 H6 =>
 Zbx (some V5) fun B7 => bcase B7 (Zdb (H6 ++ [.cells Zcz [.str S4] false]) fun H8 => Zdn pg Zrh H8 (.slice a3 n3 c3 e3) (.slice (some (H6.length, 0)) 1 1 true) fun V9 H10 => xSl (some V9) fun A11 N12 C13 E14 => J7 Q R3 x9 x8 a7 n7 c7 e7 x0 A11 N12 C13 E14 H10) (J7 Q R3 x9 x8 a7 n7 c7 e7 x0 a3 n3 c3 e3 H6))) (Zrz Q a3 n3 c3 e3 h)
theorem Znv (Q : QT) (R3 : T3) (x0 : List Nat) (a3 : Pt) (n3 c3 : Nat) (e3 : Bool) (a7 : Pt) (n7 c7 : Nat) (e7 : Bool) (x8 x9 : Int) (h : Zaa) (ht : L3t Q R3 x0 a3 n3 c3 e3 a7 n7 c7 e7 x8 x9 h) : Den pg fn.ntmps (C [1, 1, 0, 1, 0, 0]) [(0, .str x0), (3, .slice a3 n3 c3 e3), (7, .slice a7 n7 c7 e7), (8, .int .i64 x8), (9, .int .i64 x9)] h (K3 Q R3) :=
  Zbc (kp := kp) (cast (by kernel_rfl) ht)
theorem L3ind (Q : QT) (x0 : List Nat) (a7 : Pt) (n7 c7 : Nat) (e7 : Bool) (x8 : Int) {G : Type} (J : G → Pt → Nat → Nat → Bool → Int → Zaa → Prop) (m : G → Nat)
 (hr : ∀ (g : G) (a3 : Pt) (n3 c3 : Nat) (e3 : Bool) (x9 : Int) (h : Zaa), J g a3 n3 c3 e3 x9 h → ∀ (R3 : T3), (∀ g' (a3 : Pt) (n3 c3 : Nat) (e3 : Bool) (x9 : Int) (h : Zaa), m g' < m g → J g' a3 n3 c3 e3 x9 h → R3 x0 a3 n3 c3 e3 a7 n7 c7 e7 x8 x9 h) → L3t Q R3 x0 a3 n3 c3 e3 a7 n7 c7 e7 x8 x9 h)
 (g : G) (a3 : Pt) (n3 c3 : Nat) (e3 : Bool) (x9 : Int) (h : Zaa) (hj : J g a3 n3 c3 e3 x9 h) : L3 Q x0 a3 n3 c3 e3 a7 n7 c7 e7 x8 x9 h := by
  refine Zeg.inv2 (fun g => E3 fun x0' a3 n3 c3 e3 a7' n7' c7' e7' x8' x9 h => x0 = x0' ∧ a7 = a7' ∧ n7 = n7' ∧ c7 = c7' ∧ e7 = e7' ∧ x8 = x8' ∧ J g a3 n3 c3 e3 x9 h) (fun g => E3 fun x0' a3 n3 c3 e3 a7' n7' c7' e7' x8' x9 h => x0 = x0' ∧ a7 = a7' ∧ n7 = n7' ∧ c7 = c7' ∧ e7 = e7' ∧ x8 = x8' ∧ ∃ g', m g' < m g ∧ J g' a3 n3 c3 e3 x9 h) m ?_ ?_ g ⟨rfl, rfl, rfl, rfl, rfl, rfl, hj⟩
  · intro g env h hi
    obtain ⟨x0', a3, n3, c3, e3, a7', n7', c7', e7', x8', x9, rfl, rfl, rfl, rfl, rfl, rfl, rfl, hj⟩ := Zfh hi
    exact Znv Q _ x0 a3 n3 c3 e3 a7 n7 c7 e7 x8 x9 h (hr g a3 n3 c3 e3 x9 h hj (fun x0' a3 n3 c3 e3 a7' n7' c7' e7' x8' x9 h => x0 = x0' ∧ a7 = a7' ∧ n7 = n7' ∧ c7 = c7' ∧ e7 = e7' ∧ x8 = x8' ∧ ∃ g', m g' < m g ∧ J g' a3 n3 c3 e3 x9 h) fun g' a3 n3 c3 e3 x9 h hlt hj => ⟨rfl, rfl, rfl, rfl, rfl, rfl, g', hlt, hj⟩)
  · intro g env h hi
    obtain ⟨x0', a3, n3, c3, e3, a7', n7', c7', e7', x8', x9, rfl, rfl, rfl, rfl, rfl, rfl, rfl, g', hlt, hj⟩ := Zfh hi
    exact ⟨g', hlt, rfl, rfl, rfl, rfl, rfl, rfl, hj⟩
theorem J7i (Q : QT) (R3 : T3) (x9 x8 : Int) (a7 : Pt) (n7 c7 : Nat) (e7 : Bool) (x0 : List Nat) (a3 : Pt) (n3 c3 : Nat) (e3 : Bool) (h : Zaa) (ht :
 R3 x0 a3 n3 c3 e3 a7 n7 c7 e7 x8 (IntKind.wrap .i64 (x9 + 1)) h) : J7 Q R3 x9 x8 a7 n7 c7 e7 x0 a3 n3 c3 e3 h :=
  Zbc (kp := kp) (cast (by kernel_rfl) ht)
theorem A3x0i (Q : QT) (a3 : Pt) (n3 c3 : Nat) (e3 : Bool) (h : Zaa) (ht :
 Q (.slice a3 n3 c3 e3) h) : Zrz Q a3 n3 c3 e3 h :=
  At.mk (cast (by kernel_rfl) ht)
theorem call (x0 : List Nat) (h : Zaa) (Q : QT) (ht :
 Zdb (h ++ [.cells Zcz [] false]) fun H0 => Zdb (H0 ++ [.cells Zcz [.str [88], .str [89], .str [90], .str [120], .str [121], .str [122]] false]) fun H1 => L3 Q x0 (some (h.length, 0)) 0 0 true (some (H0.length, 0)) 6 6 true (((6 : Nat) : Int)) 0 H1) : Zad pg Zpi [.str x0] h Q :=
  Zad.of_body kp (c := cod fn) (fn := fn) Go.Proofs.Tryz.func73 (by kernel_rfl) (by kernel_rfl) (Nat.le_of_ble_eq_true (by kernel_rfl))
    (cast (by kernel_rfl) ht)
end Zhu
end Go.Sim

set_option maxRecDepth 100000
set_option linter.unusedVariables false
namespace Go.Sim
open Go Go.RowKit
namespace Zem
noncomputable abbrev fn : Func := Go.Proofs.Tryz.f109
def kp : Zcf := [(3000003, [1, 3]), (1000003, [1, 3, 7, 8, 9]), (4000009, [3])]
noncomputable def C (p : List Nat) : Code := (cod fn).sub p
def KR (Q : QT) : KT := Zey pg fn.results.toList Q
abbrev T3 := Nat → Nat → Int → Pt → Nat → Nat → Bool → Int → Int → Zaa → Prop
def E3 (R3 : T3) (env : Env) (h : Zaa) : Prop := Zcc 1 env fun v env => Zis (some v) fun a => Zbi a fun i1 o1 => Zcc 3 env fun v env => Zeo .i64 v fun x3 => Zcc 7 env fun v env => xSl (some v) fun a7 n7 c7 e7 => Zcc 8 env fun v env => Zeo .i64 v fun x8 => Zcc 9 env fun v env => Zeo .i64 v fun x9 => Zkg env (R3 i1 o1 x3 a7 n7 c7 e7 x8 x9 h)
theorem Zfh {R3 : T3} {env : Env} {h : Zaa} (hi : E3 R3 env h) : ∃ i1, ∃ o1, ∃ x3, ∃ a7, ∃ n7, ∃ c7, ∃ e7, ∃ x8, ∃ x9, env = [(1, .ptr (some (i1, o1))), (3, .int .i64 x3), (7, .slice a7 n7 c7 e7), (8, .int .i64 x8), (9, .int .i64 x9)] ∧ R3 i1 o1 x3 a7 n7 c7 e7 x8 x9 h := by
  unfold E3 at hi
  have hi0 := hi
  clear hi
  obtain ⟨_, _, rfl, hi1⟩ := Zab hi0
  obtain ⟨a, rfl, hi2⟩ := Zby hi1
  obtain ⟨i1, o1, rfl, hi3⟩ := Zbw hi2
  obtain ⟨_, _, rfl, hi4⟩ := Zab hi3
  obtain ⟨x3, rfl, hi5⟩ := Zaw hi4
  obtain ⟨_, _, rfl, hi6⟩ := Zab hi5
  obtain ⟨a7, n7, c7, e7, rfl, hi7⟩ := Zbl hi6
  obtain ⟨_, _, rfl, hi8⟩ := Zab hi7
  obtain ⟨x8, rfl, hi9⟩ := Zaw hi8
  obtain ⟨_, _, rfl, hi10⟩ := Zab hi9
  obtain ⟨x9, rfl, hi11⟩ := Zaw hi10
  obtain ⟨rfl, hi12⟩ := Zbn hi11
  have hi := hi12
  exact ⟨i1, o1, x3, a7, n7, c7, e7, x8, x9, rfl, hi⟩
def K0 (Q : QT) : KT := andThen (fun env' h' => (match kp.find 4000007 with | some ks => Den pg fn.ntmps (C [1, 1, 1]) (env'.keep ks) h' (KR Q) | none => den pg fn.ntmps kp (C [1, 1, 1]) env' h' (KR Q))) (KR Q)
def K1 (Q : QT) : KT := Zcr 0 (K0 Q)
def K2 (Q : QT) : KT := left kp 3 (K1 Q)
def K3 (Q : QT) (R3 : T3) : KT := rnd ((kp.find 1000003).getD []) (E3 R3) (K2 Q)
def L3 (Q : QT) (i1 o1 : Nat) (x3 : Int) (a7 : Pt) (n7 c7 : Nat) (e7 : Bool) (x8 x9 : Int) (h : Zaa) : Prop := Zeg (Den pg fn.ntmps (C [1, 1, 0, 1, 0, 0])) ((kp.find 1000003).getD []) (K2 Q) [(1, .ptr (some (i1, o1))), (3, .int .i64 x3), (7, .slice a7 n7 c7 e7), (8, .int .i64 x8), (9, .int .i64 x9)] h
def Zrz (Q : QT) (i1 o1 : Nat) (x3 : Int) (h : Zaa) : Prop := At (K1 Q) (.exit 0) [(1, .ptr (some (i1, o1))), (3, .int .i64 x3)] h
def J9 (Q : QT) (x3 : Int) (h : Zaa) : Prop := Den pg fn.ntmps (C [1, 1, 1, 1]) [(3, .int .i64 x3)] h (KR Q)
def L3t (Q : QT) (R3 : T3) (i1 o1 : Nat) (x3 : Int) (a7 : Pt) (n7 c7 : Nat) (e7 : Bool) (x8 x9 : Int) (h : Zaa) : Prop :=
 bcase (decide ((x9 : Int) < x8)) ((0 ≤ (x9 : Int) ∧ (x9 : Int) < (n7 : Nat)) ∧ (Zbi a7 fun I5 O6 => Zcx (Zbp h (.ptr (some (I5, O6 + (Int.toNat x9) * 2))) 2) fun K7 => Zaj K7 fun C8 Z9 => Zdd .u8 (some C8) fun X10 => Zaj Z9 fun C11 Z12 => xSl (some C11) fun A13 N14 C15 E16 => Zcg Z12 (Zdb (h ++ [.cells Zac [.int .u8 0, .slice none 0 0 true] false]) fun H17 => Zcb (Zbd H17 (.ptr (some (h.length, 0))) [.int .u8 X10, .slice A13 N14 C15 E16]) fun H18 => Zcx (Zbp H18 (.ptr (some (h.length, 0))) 2) fun K19 => Zaj K19 fun C20 Z21 => Zdd .u8 (some C20) fun X22 => Zaj Z21 fun C23 Z24 => xSl (some C23) fun A25 N26 C27 E28 => Zcg Z24 (Zad pg Zgl [.agg [.int .u8 X22, .slice A25 N26 C27 E28]] H18 fun V29 H30 =>
 Zdd .i64 (some V29) fun X31 => R3 i1 o1 (IntKind.wrap .i64 ((IntKind.wrap .i64 (x3 + 1)) + X31)) a7 n7 c7 e7 x8 (IntKind.wrap .i64 (x9 + 1)) H30)))) (Zrz Q i1 o1 x3 h)
theorem Znv (Q : QT) (R3 : T3) (i1 o1 : Nat) (x3 : Int) (a7 : Pt) (n7 c7 : Nat) (e7 : Bool) (x8 x9 : Int) (h : Zaa) (ht : L3t Q R3 i1 o1 x3 a7 n7 c7 e7 x8 x9 h) : Den pg fn.ntmps (C [1, 1, 0, 1, 0, 0]) [(1, .ptr (some (i1, o1))), (3, .int .i64 x3), (7, .slice a7 n7 c7 e7), (8, .int .i64 x8), (9, .int .i64 x9)] h (K3 Q R3) :=
  Zbc (kp := kp) (cast (by kernel_rfl) ht)
theorem L3ind (Q : QT) (i1 o1 : Nat) (a7 : Pt) (n7 c7 : Nat) (e7 : Bool) (x8 : Int) {G : Type} (J : G → Int → Int → Zaa → Prop) (m : G → Nat)
 (hr : ∀ (g : G) (x3 x9 : Int) (h : Zaa), J g x3 x9 h → ∀ (R3 : T3), (∀ g' (x3 x9 : Int) (h : Zaa), m g' < m g → J g' x3 x9 h → R3 i1 o1 x3 a7 n7 c7 e7 x8 x9 h) → L3t Q R3 i1 o1 x3 a7 n7 c7 e7 x8 x9 h)
 (g : G) (x3 x9 : Int) (h : Zaa) (hj : J g x3 x9 h) : L3 Q i1 o1 x3 a7 n7 c7 e7 x8 x9 h := by
  refine Zeg.inv2 (fun g => E3 fun i1' o1' x3 a7' n7' c7' e7' x8' x9 h => i1 = i1' ∧ o1 = o1' ∧ a7 = a7' ∧ n7 = n7' ∧ c7 = c7' ∧ e7 = e7' ∧ x8 = x8' ∧ J g x3 x9 h) (fun g => E3 fun i1' o1' x3 a7' n7' c7' e7' x8' x9 h => i1 = i1' ∧ o1 = o1' ∧ a7 = a7' ∧ n7 = n7' ∧ c7 = c7' ∧ e7 = e7' ∧ x8 = x8' ∧ ∃ g', m g' < m g ∧ J g' x3 x9 h) m ?_ ?_ g ⟨rfl, rfl, rfl, rfl, rfl, rfl, rfl, hj⟩
  · intro g env h hi
    obtain ⟨i1', o1', x3, a7', n7', c7', e7', x8', x9, rfl, rfl, rfl, rfl, rfl, rfl, rfl, rfl, hj⟩ := Zfh hi
    exact Znv Q _ i1 o1 x3 a7 n7 c7 e7 x8 x9 h (hr g x3 x9 h hj (fun i1' o1' x3 a7' n7' c7' e7' x8' x9 h => i1 = i1' ∧ o1 = o1' ∧ a7 = a7' ∧ n7 = n7' ∧ c7 = c7' ∧ e7 = e7' ∧ x8 = x8' ∧ ∃ g', m g' < m g ∧ J g' x3 x9 h) fun g' x3 x9 h hlt hj => ⟨rfl, rfl, rfl, rfl, rfl, rfl, rfl, g', hlt, hj⟩)
  · intro g env h hi
    obtain ⟨i1', o1', x3, a7', n7', c7', e7', x8', x9, rfl, rfl, rfl, rfl, rfl, rfl, rfl, rfl, g', hlt, hj⟩ := Zfh hi
    exact ⟨g', hlt, rfl, rfl, rfl, rfl, rfl, rfl, rfl, hj⟩
theorem A3x0i (Q : QT) (i1 o1 : Nat) (x3 : Int) (h : Zaa) (ht :
 xSl (Zae h (.ptr (some (i1, o1 + 1)))) fun A32 N33 C34 E35 => bcase (decide (((((N33 : Nat) : Int)) : Int) > 0)) (J9 Q (IntKind.wrap .i64 (x3 + 1)) h) (J9 Q x3 h)) : Zrz Q i1 o1 x3 h :=
  At.mk (cast (by kernel_rfl) ht)
theorem J9i (Q : QT) (x3 : Int) (h : Zaa) (ht :
 Q (.int .i64 x3) h) : J9 Q x3 h :=
  Zbc (kp := kp) (cast (by kernel_rfl) ht)
theorem call (x0x0 : Int) (a0x1 : Pt) (n0x1 c0x1 : Nat) (e0x1 : Bool) (h : Zaa) (Q : QT) (ht :
 Zdb (h ++ [.cells Zac [.int .u8 x0x0, .slice a0x1 n0x1 c0x1 e0x1] false]) fun H0 => xSl (Zae H0 (.ptr (some (h.length, 0 + 1)))) fun A1 N2 C3 E4 => L3 Q h.length 0 1 A1 N2 C3 E4 (((N2 : Nat) : Int)) 0 H0) : Zad pg Zgl [.agg [.int .u8 x0x0, .slice a0x1 n0x1 c0x1 e0x1]] h Q :=
  Zad.of_body kp (c := cod fn) (fn := fn) Go.Proofs.Tryz.func109 (by kernel_rfl) (by kernel_rfl) (Nat.le_of_ble_eq_true (by kernel_rfl))
    (cast (by kernel_rfl) ht)
end Zem
namespace Zei
noncomputable abbrev fn : Func := Go.Proofs.Tryz.f139
def kp : Zcf := [(3000003, [4, 2, 3]), (1000003, [4, 8, 10]), (2000004, [6, 5, 10, 8, 4]), (4000006, [6, 4, 5, 10, 8]), (2000008, [10, 8, 4]), (4000009, [10, 8, 4])]
noncomputable def C (p : List Nat) : Code := (cod fn).sub p
def KR (Q : QT) : KT := Zey pg fn.results.toList Q
abbrev T3 := Pt → Nat → Nat → Bool → Pt → Int → Zaa → Prop
def E3 (R3 : T3) (env : Env) (h : Zaa) : Prop := Zcc 4 env fun v env => xSl (some v) fun a4 n4 c4 e4 => Zcc 8 env fun v env => Zis (some v) fun a8 => Zcc 10 env fun v env => Zeo .i64 v fun x10 => Zkg env (R3 a4 n4 c4 e4 a8 x10 h)
theorem Zfh {R3 : T3} {env : Env} {h : Zaa} (hi : E3 R3 env h) : ∃ a4, ∃ n4, ∃ c4, ∃ e4, ∃ a8, ∃ x10, env = [(4, .slice a4 n4 c4 e4), (8, .ptr a8), (10, .int .i64 x10)] ∧ R3 a4 n4 c4 e4 a8 x10 h := by
  unfold E3 at hi
  have hi0 := hi
  clear hi
  obtain ⟨_, _, rfl, hi1⟩ := Zab hi0
  obtain ⟨a4, n4, c4, e4, rfl, hi2⟩ := Zbl hi1
  obtain ⟨_, _, rfl, hi3⟩ := Zab hi2
  obtain ⟨a8, rfl, hi4⟩ := Zby hi3
  obtain ⟨_, _, rfl, hi5⟩ := Zab hi4
  obtain ⟨x10, rfl, hi6⟩ := Zaw hi5
  obtain ⟨rfl, hi7⟩ := Zbn hi6
  have hi := hi7
  exact ⟨a4, n4, c4, e4, a8, x10, rfl, hi⟩
def K0 (Q : QT) : KT := andThen (fun env' h' => (match kp.find 4000010 with | some ks => Den pg fn.ntmps (C [1, 1, 1]) (env'.keep ks) h' (KR Q) | none => den pg fn.ntmps kp (C [1, 1, 1]) env' h' (KR Q))) (KR Q)
def K1 (Q : QT) : KT := Zcr 0 (K0 Q)
def K2 (Q : QT) : KT := left kp 3 (K1 Q)
def K3 (Q : QT) (R3 : T3) : KT := rnd ((kp.find 1000003).getD []) (E3 R3) (K2 Q)
def K4 (Q : QT) (R3 : T3) : KT := andThen (fun env' h' => (match kp.find 4000009 with | some ks => Den pg fn.ntmps (C [1, 1, 0, 1, 0, 0, 1, 1, 1]) (env'.keep ks) h' (K3 Q R3) | none => den pg fn.ntmps kp (C [1, 1, 0, 1, 0, 0, 1, 1, 1]) env' h' (K3 Q R3))) (K3 Q R3)
def K5 (Q : QT) (R3 : T3) : KT := Zcr 1 (K4 Q R3)
def L3 (Q : QT) (a4 : Pt) (n4 c4 : Nat) (e4 : Bool) (a8 : Pt) (x10 : Int) (h : Zaa) : Prop := Zeg (Den pg fn.ntmps (C [1, 1, 0, 1, 0, 0])) ((kp.find 1000003).getD []) (K2 Q) [(4, .slice a4 n4 c4 e4), (8, .ptr a8), (10, .int .i64 x10)] h
def J9 (Q : QT) (R3 : T3) (x10 : Int) (a8 a4 : Pt) (n4 c4 : Nat) (e4 : Bool) (h : Zaa) : Prop := Den pg fn.ntmps (C [1, 1, 0, 1, 0, 0, 1, 1, 1]) [(10, .int .i64 x10), (8, .ptr a8), (4, .slice a4 n4 c4 e4)] h (K3 Q R3)
def J6 (Q : QT) (R3 : T3) (i6 o6 : Nat) (a4 : Pt) (n4 c4 : Nat) (e4 : Bool) (x5 x10 : Int) (a8 : Pt) (h : Zaa) : Prop := Den pg fn.ntmps (C [1, 1, 0, 1, 0, 0, 1, 1, 0, 0, 1, 1]) [(6, .ptr (some (i6, o6))), (4, .slice a4 n4 c4 e4), (5, .int .i64 x5), (10, .int .i64 x10), (8, .ptr a8)] h (K5 Q R3)
def Zrz (Q : QT) (a4 : Pt) (n4 c4 : Nat) (e4 : Bool) (h : Zaa) : Prop := At (K1 Q) (.exit 0) [(4, .slice a4 n4 c4 e4), (2, .undef), (3, .undef)] h
def L3t (Q : QT) (R3 : T3) (a4 : Pt) (n4 c4 : Nat) (e4 : Bool) (a8 : Pt) (x10 : Int) (h : Zaa) : Prop :=
 bcase (decide ((x10 : Int) < 12)) (Zbi a8 fun I3 O4 => (0 ≤ (x10 : Int) ∧ (x10 : Int) < (12 : Nat)) ∧ (Zcx (Zbp h (.ptr (some (I3, O4 + (Int.toNat x10) * 2))) 2) fun K5 => Zaj K5 fun C6 Z7 => Zdd .u8 (some C6) fun X8 => Zaj Z7 fun C9 Z10 => xSl (some C9) fun A11 N12 C13 E14 => Zcg Z10 (Zdb (h ++ [.cells Zac [.int .u8 0, .slice none 0 0 true] false]) fun H15 => (Zbp H15 (.ptr (some (I3, O4 + (Int.toNat x10) * 2))) 2 = Zbp h (.ptr (some (I3, O4 + (Int.toNat x10) * 2))) 2) ∧ Zcb (Zbd H15 (.ptr (some (h.length, 0))) [.int .u8 X8, .slice A11 N12 C13 E14]) fun H16 => Zdd .u8 (Zae H16 (.ptr (some (h.length, 0 + 0)))) fun X17 => bcase ((X17 : Int) == 0) (J9 Q R3 x10 a8 a4 n4 c4 e4 H16) (bcase (decide ((x10 : Int) ≥ 6)) (J9 Q R3 x10 a8 a4 n4 c4 e4 H16) (J6 Q R3 h.length 0 a4 n4 c4 e4 x10 x10 a8 H16))))) (Zrz Q a4 n4 c4 e4 h)
theorem Znv (Q : QT) (R3 : T3) (a4 : Pt) (n4 c4 : Nat) (e4 : Bool) (a8 : Pt) (x10 : Int) (h : Zaa) (ht : L3t Q R3 a4 n4 c4 e4 a8 x10 h) : Den pg fn.ntmps (C [1, 1, 0, 1, 0, 0]) [(4, .slice a4 n4 c4 e4), (8, .ptr a8), (10, .int .i64 x10)] h (K3 Q R3) :=
  Zbc (kp := kp) (cast (by kernel_rfl) ht)
theorem L3ind (Q : QT) (a8 : Pt) {G : Type} (J : G → Pt → Nat → Nat → Bool → Int → Zaa → Prop) (m : G → Nat)
 (hr : ∀ (g : G) (a4 : Pt) (n4 c4 : Nat) (e4 : Bool) (x10 : Int) (h : Zaa), J g a4 n4 c4 e4 x10 h → ∀ (R3 : T3), (∀ g' (a4 : Pt) (n4 c4 : Nat) (e4 : Bool) (x10 : Int) (h : Zaa), m g' < m g → J g' a4 n4 c4 e4 x10 h → R3 a4 n4 c4 e4 a8 x10 h) → L3t Q R3 a4 n4 c4 e4 a8 x10 h)
 (g : G) (a4 : Pt) (n4 c4 : Nat) (e4 : Bool) (x10 : Int) (h : Zaa) (hj : J g a4 n4 c4 e4 x10 h) : L3 Q a4 n4 c4 e4 a8 x10 h := by
  refine Zeg.inv2 (fun g => E3 fun a4 n4 c4 e4 a8' x10 h => a8 = a8' ∧ J g a4 n4 c4 e4 x10 h) (fun g => E3 fun a4 n4 c4 e4 a8' x10 h => a8 = a8' ∧ ∃ g', m g' < m g ∧ J g' a4 n4 c4 e4 x10 h) m ?_ ?_ g ⟨rfl, hj⟩
  · intro g env h hi
    obtain ⟨a4, n4, c4, e4, a8', x10, rfl, rfl, hj⟩ := Zfh hi
    exact Znv Q _ a4 n4 c4 e4 a8 x10 h (hr g a4 n4 c4 e4 x10 h hj (fun a4 n4 c4 e4 a8' x10 h => a8 = a8' ∧ ∃ g', m g' < m g ∧ J g' a4 n4 c4 e4 x10 h) fun g' a4 n4 c4 e4 x10 h hlt hj => ⟨rfl, g', hlt, hj⟩)
  · intro g env h hi
    obtain ⟨a4, n4, c4, e4, a8', x10, rfl, rfl, g', hlt, hj⟩ := Zfh hi
    exact ⟨g', hlt, rfl, hj⟩
theorem J9i (Q : QT) (R3 : T3) (x10 : Int) (a8 a4 : Pt) (n4 c4 : Nat) (e4 : Bool) (h : Zaa) (ht :
 R3 a4 n4 c4 e4 a8 (IntKind.wrap .i64 (x10 + 1)) h) : J9 Q R3 x10 a8 a4 n4 c4 e4 h :=
  Zbc (kp := kp) (cast (by kernel_rfl) ht)
theorem J6i (Q : QT) (R3 : T3) (i6 o6 : Nat) (a4 : Pt) (n4 c4 : Nat) (e4 : Bool) (x5 x10 : Int) (a8 : Pt) (h : Zaa) (ht :
 Zcx (Zbp h (.ptr (some (i6, o6))) 2) fun K18 => Zaj K18 fun C19 Z20 => Zdd .u8 (some C19) fun X21 => Zaj Z20 fun C22 Z23 => xSl (some C22) fun A24 N25 C26 E27 => Zcg Z23 (Zad pg Zgl [.agg [.int .u8 X21, .slice A24 N25 C26 E27]] h fun V28 H29 =>
 Zdd .i64 (some V28) fun X30 => bcase (decide ((X30 : Int) > 60)) (Zdb (H29 ++ [.cells Zbb [] false]) fun H31 => Q (.tup [.slice (some (H29.length, 0)) 0 0 true, .bool false]) H31) ((0 ≤ (x5 : Int) ∧ (x5 : Int) ≤ IntKind.wrap .i64 (x5 + 1) ∧ (IntKind.wrap .i64 (x5 + 1) : Int) ≤ (List.length ([88, 89, 90, 120, 121, 122, 49, 50, 51, 52, 53, 54]) : Nat)) ∧ (Zcx (Zbp H29 (.ptr (some (i6, o6))) 2) fun K32 => Zaj K32 fun C33 Z34 => Zdd .u8 (some C33) fun X35 => Zaj Z34 fun C36 Z37 => xSl (some C36) fun A38 N39 C40 E41 => Zcg Z37 (Zad pg Zfp [.agg [.int .u8 X35, .slice A38 N39 C40 E41]] H29 fun V42 H43 =>
 Zbo (some V42) fun S44 => Zdb (H43 ++ [.cells Zbb [.str (sub ([88, 89, 90, 120, 121, 122, 49, 50, 51, 52, 53, 54]) x5 (IntKind.wrap .i64 (x5 + 1))), .str S44] false]) fun H45 => Zdn pg Zju H45 (.slice a4 n4 c4 e4) (.slice (some (H43.length, 0)) 1 1 true) fun V46 H47 => xSl (some V46) fun A48 N49 C50 E51 => J9 Q R3 x10 a8 A48 N49 C50 E51 H47))))) : J6 Q R3 i6 o6 a4 n4 c4 e4 x5 x10 a8 h :=
  Zbc (kp := kp) (cast (by kernel_rfl) ht)
theorem A3x0i (Q : QT) (a4 : Pt) (n4 c4 : Nat) (e4 : Bool) (h : Zaa) (ht :
 Q (.tup [.slice a4 n4 c4 e4, .bool true]) h) : Zrz Q a4 n4 c4 e4 h :=
  At.mk (cast (by kernel_rfl) ht)
theorem call (a0 : Pt) (h : Zaa) (Q : QT) (ht :
 Zdb (h ++ [.cells Zbb [] false]) fun H0 => Zbi a0 fun I1 O2 => L3 Q (some (h.length, 0)) 0 0 true a0 0 H0) : Zad pg Zmn [.ptr a0] h Q :=
  Zad.of_body kp (c := cod fn) (fn := fn) Go.Proofs.Tryz.func139 (by kernel_rfl) (by kernel_rfl) (Nat.le_of_ble_eq_true (by kernel_rfl))
    (cast (by kernel_rfl) ht)
end Zei
namespace Zjv
noncomputable abbrev fn : Func := Go.Proofs.Tryz.f100
def kp : Zcf := [(4000006, [10])]
noncomputable def C (p : List Nat) : Code := (cod fn).sub p
def KR (Q : QT) : KT := Zey pg fn.results.toList Q
def J6 (Q : QT) (i10 o10 : Nat) (h : Zaa) : Prop := Den pg fn.ntmps (C [1, 1, 1, 1, 1]) [(10, .ptr (some (i10, o10)))] h (KR Q)
theorem J6i (Q : QT) (i10 o10 : Nat) (h : Zaa) (ht :
 Zad pg Zmn [.ptr (some (i10, o10))] h fun V67 H68 =>
 Zsk V67 fun K69 => Zaj K69 fun C70 Z71 => xSl (some C70) fun A72 N73 C74 E75 => Zaj Z71 fun C76 Z77 => Zbx (some C76) fun B78 => Zcg Z77 (Q (.tup [.slice A72 N73 C74 E75, .bool B78]) H68)) : J6 Q i10 o10 h :=
  Zbc (kp := kp) (cast (by kernel_rfl) ht)
theorem call (x0 x1 : List Nat) (h : Zaa) (Q : QT) (ht :
 Zad pg Zfj [.str x0] h fun V0 H1 =>
 Zsk V0 fun K2 => Zaj K2 fun C3 Z4 => Zph C3 fun K5 => Zaj K5 fun C6 Z7 => Zdd .u8 (some C6) fun X8 => Zaj Z7 fun C9 Z10 => xSl (some C9) fun A11 N12 C13 E14 => Zcg Z10 (Zaj Z4 fun C15 Z16 => Zbx (some C15) fun B17 => Zcg Z16 (Zdb (H1 ++ [.cells Zac [.int .u8 0, .slice none 0 0 true] false]) fun H18 => Zcb (Zbd H18 (.ptr (some (H1.length, 0))) [.int .u8 X8, .slice A11 N12 C13 E14]) fun H19 => Zad pg Zfj [.str x1] H19 fun V20 H21 =>
 Zsk V20 fun K22 => Zaj K22 fun C23 Z24 => Zph C23 fun K25 => Zaj K25 fun C26 Z27 => Zdd .u8 (some C26) fun X28 => Zaj Z27 fun C29 Z30 => xSl (some C29) fun A31 N32 C33 E34 => Zcg Z30 (Zaj Z24 fun C35 Z36 => Zbx (some C35) fun B37 => Zcg Z36 (Zdb (H21 ++ [.cells Zac [.int .u8 0, .slice none 0 0 true] false]) fun H38 => Zcb (Zbd H38 (.ptr (some (H21.length, 0))) [.int .u8 X28, .slice A31 N32 C33 E34]) fun H39 => Zdb (H39 ++ [.cells Zdx [.int .u8 0, .slice none 0 0 true, .int .u8 0, .slice none 0 0 true, .int .u8 0, .slice none 0 0 true, .int .u8 0, .slice none 0 0 true, .int .u8 0, .slice none 0 0 true, .int .u8 0, .slice none 0 0 true, .int .u8 0, .slice none 0 0 true, .int .u8 0, .slice none 0 0 true, .int .u8 0, .slice none 0 0 true, .int .u8 0, .slice none 0 0 true, .int .u8 0, .slice none 0 0 true, .int .u8 0, .slice none 0 0 true] false]) fun H40 => bcase (!B17) (Zdb (H40 ++ [.cells Zbb [] false]) fun H41 => Q (.tup [.slice (some (H40.length, 0)) 0 0 true, .bool false]) H41) (bcase (!B37) (Zdb (H40 ++ [.cells Zbb [] false]) fun H42 => Q (.tup [.slice (some (H40.length, 0)) 0 0 true, .bool false]) H42) (Zcx (Zbp H40 (.ptr (some (H1.length, 0))) 2) fun K43 => Zaj K43 fun C44 Z45 => Zdd .u8 (some C44) fun X46 => Zaj Z45 fun C47 Z48 => xSl (some C47) fun A49 N50 C51 E52 => Zcg Z48 (Zcx (Zbp H40 (.ptr (some (H21.length, 0))) 2) fun K53 => Zaj K53 fun C54 Z55 => Zdd .u8 (some C54) fun X56 => Zaj Z55 fun C57 Z58 => xSl (some C57) fun A59 N60 C61 E62 => Zcg Z58 (Zad pg Zji [.ptr (some (H39.length, 0)), .agg [.int .u8 X46, .slice A49 N50 C51 E52], .agg [.int .u8 X56, .slice A59 N60 C61 E62]] H40 fun V63 H64 =>
 Zbx (some V63) fun B65 => bcase (!B65) (Zdb (H64 ++ [.cells Zbb [] false]) fun H66 => Q (.tup [.slice (some (H64.length, 0)) 0 0 true, .bool false]) H66) (J6 Q H39.length 0 H64)))))))))) : Zad pg Zhs [.str x0, .str x1] h Q :=
  Zad.of_body kp (c := cod fn) (fn := fn) Go.Proofs.Tryz.func100 (by kernel_rfl) (by kernel_rfl) (Nat.le_of_ble_eq_true (by kernel_rfl))
    (cast (by kernel_rfl) ht)
end Zjv
namespace Zlx
noncomputable abbrev fn : Func := Go.Proofs.Tryz.f56
def kp : Zcf := []
noncomputable def C (p : List Nat) : Code := (cod fn).sub p
def KR (Q : QT) : KT := Zey pg fn.results.toList Q
theorem call (x0 x1 : List Nat) (h : Zaa) (Q : QT) (ht :
 Zad pg Zhs [.str x0, .str x1] h fun V0 H1 =>
 Zsk V0 fun K2 => Zaj K2 fun C3 Z4 => xSl (some C3) fun A5 N6 C7 E8 => Zaj Z4 fun C9 Z10 => Zbx (some C9) fun B11 => Zcg Z10 (Q (.bool B11) H1)) : Zad pg Zjc [.str x0, .str x1] h Q :=
  Zad.of_body kp (c := cod fn) (fn := fn) Go.Proofs.Tryz.func56 (by kernel_rfl) (by kernel_rfl) (Nat.le_of_ble_eq_true (by kernel_rfl))
    (cast (by kernel_rfl) ht)
end Zlx
end Go.Sim

set_option maxRecDepth 100000
set_option linter.unusedVariables false
namespace Go.Sim
open Go Go.RowKit
namespace Zpb
noncomputable abbrev fn : Func := Go.Proofs.Tryz.f142
def kp : Zcf := []
noncomputable def C (p : List Nat) : Code := (cod fn).sub p
def KR (Q : QT) : KT := Zey pg fn.results.toList Q
theorem call (x0 : Int) (h : Zaa) (Q : QT) (ht :
 Zad pg Zfu [.str ([88, 89, 90, 120, 121, 122, 49, 50, 51, 52, 53, 54]), .int .u8 x0] h fun V0 H1 =>
 Zdd .i64 (some V0) fun X2 => Q (.int .i64 X2) H1) : Zad pg Zhi [.int .u8 x0] h Q :=
  Zad.of_body kp (c := cod fn) (fn := fn) Go.Proofs.Tryz.func142 (by kernel_rfl) (by kernel_rfl) (Nat.le_of_ble_eq_true (by kernel_rfl))
    (cast (by kernel_rfl) ht)
end Zpb
namespace Zhe
noncomputable abbrev fn : Func := Go.Proofs.Tryz.f138
def kp : Zcf := [(2000004, []), (2000006, [6]), (3000010, [6]), (1000010, [0, 4, 5, 42, 43]), (2000012, [58, 43, 42, 0, 4, 5])]
noncomputable def C (p : List Nat) : Code := (cod fn).sub p
def KR (Q : QT) : KT := Zey pg fn.results.toList Q
abbrev T10 := Pt → Nat → Nat → Nat → Nat → Int → Int → Zaa → Prop
def E10 (R10 : T10) (env : Env) (h : Zaa) : Prop := Zcc 0 env fun v env => Zis (some v) fun a0 => Zcc 4 env fun v env => Zis (some v) fun a => Zbi a fun i4 o4 => Zcc 5 env fun v env => Zis (some v) fun a => Zbi a fun i5 o5 => Zcc 42 env fun v env => Zeo .i64 v fun x42 => Zcc 43 env fun v env => Zeo .i64 v fun x43 => Zkg env (R10 a0 i4 o4 i5 o5 x42 x43 h)
theorem Ygm {R10 : T10} {env : Env} {h : Zaa} (hi : E10 R10 env h) : ∃ a0, ∃ i4, ∃ o4, ∃ i5, ∃ o5, ∃ x42, ∃ x43, env = [(0, .ptr a0), (4, .ptr (some (i4, o4))), (5, .ptr (some (i5, o5))), (42, .int .i64 x42), (43, .int .i64 x43)] ∧ R10 a0 i4 o4 i5 o5 x42 x43 h := by
  unfold E10 at hi
  have hi0 := hi
  clear hi
  obtain ⟨_, _, rfl, hi1⟩ := Zab hi0
  obtain ⟨a0, rfl, hi2⟩ := Zby hi1
  obtain ⟨_, _, rfl, hi3⟩ := Zab hi2
  obtain ⟨a, rfl, hi4⟩ := Zby hi3
  obtain ⟨i4, o4, rfl, hi5⟩ := Zbw hi4
  obtain ⟨_, _, rfl, hi6⟩ := Zab hi5
  obtain ⟨a, rfl, hi7⟩ := Zby hi6
  obtain ⟨i5, o5, rfl, hi8⟩ := Zbw hi7
  obtain ⟨_, _, rfl, hi9⟩ := Zab hi8
  obtain ⟨x42, rfl, hi10⟩ := Zaw hi9
  obtain ⟨_, _, rfl, hi11⟩ := Zab hi10
  obtain ⟨x43, rfl, hi12⟩ := Zaw hi11
  obtain ⟨rfl, hi13⟩ := Zbn hi12
  have hi := hi13
  exact ⟨a0, i4, o4, i5, o5, x42, x43, rfl, hi⟩
def K0 (Q : QT) : KT := andThen (fun env' h' => (match kp.find 4000015 with | some ks => Den pg fn.ntmps (C [1, 1, 1, 1]) (env'.keep ks) h' (KR Q) | none => den pg fn.ntmps kp (C [1, 1, 1, 1]) env' h' (KR Q))) (KR Q)
def K1 (Q : QT) : KT := Zcr 0 (K0 Q)
def K2 (Q : QT) : KT := left kp 10 (K1 Q)
def K3 (Q : QT) (R10 : T10) : KT := rnd ((kp.find 1000010).getD []) (E10 R10) (K2 Q)
def L10 (Q : QT) (a0 : Pt) (i4 o4 i5 o5 : Nat) (x42 x43 : Int) (h : Zaa) : Prop := Zeg (Den pg fn.ntmps (C [1, 1, 1, 0, 1, 0, 0])) ((kp.find 1000010).getD []) (K2 Q) [(0, .ptr a0), (4, .ptr (some (i4, o4))), (5, .ptr (some (i5, o5))), (42, .int .i64 x42), (43, .int .i64 x43)] h
def Ynl (Q : QT) (h : Zaa) : Prop := At (K1 Q) (.exit 0) [(6, .undef)] h
def L10t (Q : QT) (R10 : T10) (a0 : Pt) (i4 o4 i5 o5 : Nat) (x42 x43 : Int) (h : Zaa) : Prop :=
 bcase (decide ((x43 : Int) < x42)) (xSl (Zae h (.ptr (some (i4, o4 + 1)))) fun A56 N57 C58 E59 => (0 ≤ (x43 : Int) ∧ (x43 : Int) < (N57 : Nat)) ∧ (Zbi A56 fun I60 O61 => Zcx (Zbp h (.ptr (some (I60, O61 + (Int.toNat x43) * 2))) 2) fun K62 => Zaj K62 fun C63 Z64 => Zdd .u8 (some C63) fun X65 => Zaj Z64 fun C66 Z67 => xSl (some C66) fun A68 N69 C70 E71 => Zcg Z67 (xSl (Zae h (.ptr (some (i5, o5 + 1)))) fun A72 N73 C74 E75 => (Zbp h (.ptr (some (I60, O61 + (Int.toNat x43) * 2))) 2 = Zbp h (.ptr (some (I60, O61 + (Int.toNat x43) * 2))) 2) ∧ (Zae h (.ptr (some (i4, o4 + 1))) = Zae h (.ptr (some (i4, o4 + 1)))) ∧ (0 ≤ (x43 : Int) ∧ (x43 : Int) < (N73 : Nat)) ∧ (Zbi A72 fun I76 O77 => Zcx (Zbp h (.ptr (some (I76, O77 + (Int.toNat x43) * 2))) 2) fun K78 => Zaj K78 fun C79 Z80 => Zdd .u8 (some C79) fun X81 => Zaj Z80 fun C82 Z83 => xSl (some C82) fun A84 N85 C86 E87 => Zcg Z83 ((Zbp h (.ptr (some (I60, O61 + (Int.toNat x43) * 2))) 2 = Zbp h (.ptr (some (I60, O61 + (Int.toNat x43) * 2))) 2) ∧ (Zae h (.ptr (some (i4, o4 + 1))) = Zae h (.ptr (some (i4, o4 + 1)))) ∧ Zad pg Zji [.ptr a0, .agg [.int .u8 X65, .slice A68 N69 C70 E71], .agg [.int .u8 X81, .slice A84 N85 C86 E87]] h fun V88 H89 =>
 Zbx (some V88) fun B90 => (Zae H89 (.ptr (some (i4, o4 + 1))) = Zae h (.ptr (some (i4, o4 + 1)))) ∧ bcase (!B90) (Q (.bool false) H89) (R10 a0 i4 o4 i5 o5 x42 (IntKind.wrap .i64 (x43 + 1)) H89)))))) (Ynl Q h)
theorem Ymj (Q : QT) (R10 : T10) (a0 : Pt) (i4 o4 i5 o5 : Nat) (x42 x43 : Int) (h : Zaa) (ht : L10t Q R10 a0 i4 o4 i5 o5 x42 x43 h) : Den pg fn.ntmps (C [1, 1, 1, 0, 1, 0, 0]) [(0, .ptr a0), (4, .ptr (some (i4, o4))), (5, .ptr (some (i5, o5))), (42, .int .i64 x42), (43, .int .i64 x43)] h (K3 Q R10) :=
  Zbc (kp := kp) (cast (by kernel_rfl) ht)
theorem L10ind (Q : QT) (a0 : Pt) (i4 o4 i5 o5 : Nat) (x42 : Int) {G : Type} (J : G → Int → Zaa → Prop) (m : G → Nat)
 (hr : ∀ (g : G) (x43 : Int) (h : Zaa), J g x43 h → ∀ (R10 : T10), (∀ g' (x43 : Int) (h : Zaa), m g' < m g → J g' x43 h → R10 a0 i4 o4 i5 o5 x42 x43 h) → L10t Q R10 a0 i4 o4 i5 o5 x42 x43 h)
 (g : G) (x43 : Int) (h : Zaa) (hj : J g x43 h) : L10 Q a0 i4 o4 i5 o5 x42 x43 h := by
  refine Zeg.inv2 (fun g => E10 fun a0' i4' o4' i5' o5' x42' x43 h => a0 = a0' ∧ i4 = i4' ∧ o4 = o4' ∧ i5 = i5' ∧ o5 = o5' ∧ x42 = x42' ∧ J g x43 h) (fun g => E10 fun a0' i4' o4' i5' o5' x42' x43 h => a0 = a0' ∧ i4 = i4' ∧ o4 = o4' ∧ i5 = i5' ∧ o5 = o5' ∧ x42 = x42' ∧ ∃ g', m g' < m g ∧ J g' x43 h) m ?_ ?_ g ⟨rfl, rfl, rfl, rfl, rfl, rfl, hj⟩
  · intro g env h hi
    obtain ⟨a0', i4', o4', i5', o5', x42', x43, rfl, rfl, rfl, rfl, rfl, rfl, rfl, hj⟩ := Ygm hi
    exact Ymj Q _ a0 i4 o4 i5 o5 x42 x43 h (hr g x43 h hj (fun a0' i4' o4' i5' o5' x42' x43 h => a0 = a0' ∧ i4 = i4' ∧ o4 = o4' ∧ i5 = i5' ∧ o5 = o5' ∧ x42 = x42' ∧ ∃ g', m g' < m g ∧ J g' x43 h) fun g' x43 h hlt hj => ⟨rfl, rfl, rfl, rfl, rfl, rfl, g', hlt, hj⟩)
  · intro g env h hi
    obtain ⟨a0', i4', o4', i5', o5', x42', x43, rfl, rfl, rfl, rfl, rfl, rfl, rfl, g', hlt, hj⟩ := Ygm hi
    exact ⟨g', hlt, rfl, rfl, rfl, rfl, rfl, rfl, hj⟩
theorem A10x0i (Q : QT) (h : Zaa) (ht :
 Q (.bool true) h) : Ynl Q h :=
  At.mk (cast (by kernel_rfl) ht)
theorem call (a0 : Pt) (x1x0 : Int) (a1x1 : Pt) (n1x1 c1x1 : Nat) (e1x1 : Bool) (x2x0 : Int) (a2x1 : Pt) (n2x1 c2x1 : Nat) (e2x1 : Bool) (h : Zaa) (Q : QT) (ht :
 Zdb (h ++ [.cells Zac [.int .u8 x1x0, .slice a1x1 n1x1 c1x1 e1x1] false]) fun H0 => Zdb (H0 ++ [.cells Zac [.int .u8 x2x0, .slice a2x1 n2x1 c2x1 e2x1] false]) fun H1 => Zdd .u8 (Zae H1 (.ptr (some (h.length, 0 + 0)))) fun X2 => Zad pg Zhi [.int .u8 X2] H1 fun V3 H4 =>
 Zdd .i64 (some V3) fun X5 => bcase (decide ((X5 : Int) ≥ 0)) (Zbi a0 fun I6 O7 => (0 ≤ (X5 : Int) ∧ (X5 : Int) < (12 : Nat)) ∧ (Zdd .u8 (Zae H4 (.ptr (some (I6, O7 + (Int.toNat X5) * 2 + 0)))) fun X8 => bcase ((X8 : Int) == 0) (Zbi a0 fun I9 O10 => Zcx (Zbp H4 (.ptr (some (H0.length, 0))) 2) fun K11 => Zaj K11 fun C12 Z13 => Zdd .u8 (some C12) fun X14 => Zaj Z13 fun C15 Z16 => xSl (some C15) fun A17 N18 C19 E20 => Zcg Z16 ((0 ≤ (X5 : Int) ∧ (X5 : Int) < (12 : Nat)) ∧ (Zcb (Zbd H4 (.ptr (some (I9, O10 + (Int.toNat X5) * 2))) [.int .u8 X14, .slice A17 N18 C19 E20]) fun H21 => Q (.bool true) H21))) (Zbi a0 fun I22 O23 => (0 ≤ (X5 : Int) ∧ (X5 : Int) < (12 : Nat)) ∧ (Zcx (Zbp H4 (.ptr (some (I22, O23 + (Int.toNat X5) * 2))) 2) fun K24 => Zaj K24 fun C25 Z26 => Zdd .u8 (some C25) fun X27 => Zaj Z26 fun C28 Z29 => xSl (some C28) fun A30 N31 C32 E33 => Zcg Z29 (Zcx (Zbp H4 (.ptr (some (H0.length, 0))) 2) fun K34 => Zaj K34 fun C35 Z36 => Zdd .u8 (some C35) fun X37 => Zaj Z36 fun C38 Z39 => xSl (some C38) fun A40 N41 C42 E43 => Zcg Z39 (Zad pg Zfp [.agg [.int .u8 X27, .slice A30 N31 C32 E33]] H4 fun V44 H45 =>
 Zbo (some V44) fun S46 => (Zbp H45 (.ptr (some (H0.length, 0))) 2 = Zbp H4 (.ptr (some (H0.length, 0))) 2) ∧ Zad pg Zfp [.agg [.int .u8 X37, .slice A40 N41 C42 E43]] H45 fun V47 H48 =>
 Zbo (some V47) fun S49 => (Zbp H48 (.ptr (some (I22, O23 + (Int.toNat X5) * 2))) 2 = Zbp H45 (.ptr (some (I22, O23 + (Int.toNat X5) * 2))) 2) ∧ Q (.bool (decide (S46 = S49))) H48)))))) (Zdd .u8 (Zae H4 (.ptr (some (h.length, 0 + 0)))) fun X50 => Zdd .u8 (Zae H4 (.ptr (some (H0.length, 0 + 0)))) fun X51 => bcase (!((X50 : Int) == X51)) (Q (.bool false) H4) (xSl (Zae H4 (.ptr (some (h.length, 0 + 1)))) fun A52 N53 C54 E55 => L10 Q a0 h.length 0 H0.length 0 (((N53 : Nat) : Int)) 0 H4))) : Zad pg Zji [.ptr a0, .agg [.int .u8 x1x0, .slice a1x1 n1x1 c1x1 e1x1], .agg [.int .u8 x2x0, .slice a2x1 n2x1 c2x1 e2x1]] h Q :=
  Zad.of_body kp (c := cod fn) (fn := fn) Go.Proofs.Tryz.func138 (by kernel_rfl) (by kernel_rfl) (Nat.le_of_ble_eq_true (by kernel_rfl))
    (cast (by kernel_rfl) ht)
end Zhe
end Go.Sim

set_option maxRecDepth 100000
set_option linter.unusedVariables false
namespace Go.Sim
open Go Go.RowKit
namespace Znm
noncomputable abbrev fn : Func := Go.Proofs.Tryz.f40
def kp : Zcf := []
noncomputable def C (p : List Nat) : Code := (cod fn).sub p
def KR (Q : QT) : KT := Zey pg fn.results.toList Q
theorem call (a0x0 : Pt) (n0x0 c0x0 : Nat) (e0x0 : Bool) (a0x1 : Pt) (n0x1 c0x1 : Nat) (e0x1 : Bool) (x1x0 x1x1 : List Nat) (h : Zaa) (Q : QT) (ht :
 Zdb (h ++ [.cells Zam [.slice a0x0 n0x0 c0x0 e0x0, .slice a0x1 n0x1 c0x1 e0x1] false]) fun H0 => Zdb (H0 ++ [.cells Zar [.str x1x0, .str x1x1] false]) fun H1 => Zcx (Zbp H1 (.ptr (some (h.length, 0))) 2) fun K2 => Zaj K2 fun C3 Z4 => xSl (some C3) fun A5 N6 C7 E8 => Zaj Z4 fun C9 Z10 => xSl (some C9) fun A11 N12 C13 E14 => Zcg Z10 (Zad pg Ziz [.agg [.slice A5 N6 C7 E8, .slice A11 N12 C13 E14]] H1 fun V15 H16 =>
 Zbx (some V15) fun B17 => bcase B17 (Zcx (Zbp H16 (.ptr (some (h.length, 0))) 2) fun K18 => Zaj K18 fun C19 Z20 => xSl (some C19) fun A21 N22 C23 E24 => Zaj Z20 fun C25 Z26 => xSl (some C25) fun A27 N28 C29 E30 => Zcg Z26 (Zcx (Zbp H16 (.ptr (some (H0.length, 0))) 2) fun K31 => Zaj K31 fun C32 Z33 => Zbo (some C32) fun S34 => Zaj Z33 fun C35 Z36 => Zbo (some C35) fun S37 => Zcg Z36 (Zad pg Zmw [.agg [.slice A21 N22 C23 E24, .slice A27 N28 C29 E30], .agg [.str S34, .str S37]] H16 fun V38 H39 =>
 Zbx (some V38) fun B40 => Q (.bool B40) H39))) (Q (.bool false) H16))) : Zad pg Zjw [.agg [.slice a0x0 n0x0 c0x0 e0x0, .slice a0x1 n0x1 c0x1 e0x1], .agg [.str x1x0, .str x1x1]] h Q :=
  Zad.of_body kp (c := cod fn) (fn := fn) Go.Proofs.Tryz.func40 (by kernel_rfl) (by kernel_rfl) (Nat.le_of_ble_eq_true (by kernel_rfl))
    (cast (by kernel_rfl) ht)
end Znm
end Go.Sim

set_option maxRecDepth 100000
set_option linter.unusedVariables false
namespace Go.Sim
open Go Go.RowKit
end Go.Sim

set_option maxRecDepth 100000
set_option linter.unusedVariables false
namespace Go.Sim
open Go Go.RowKit
end Go.Sim

set_option maxRecDepth 100000
set_option linter.unusedVariables false
namespace Go.Sim
open Go Go.RowKit
end Go.Sim
