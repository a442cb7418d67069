/- A part of the proof of a statement of this seat: see the text that holds the theorem. No condition. -/
import Derived.Test.YtlljbdepamknoaaNm
set_option linter.unusedVariables false
set_option linter.unusedSimpArgs false
set_option linter.all false
set_option maxRecDepth 100000
set_option linter.unusedVariables false
namespace Go.Sim
open Go Go.RowKit
namespace Zmu
noncomputable abbrev fn : Func := Go.Proofs.Try.f65
def kp : Zcg := []
noncomputable def C (p : List Nat) : Code := (cod fn).sub p
def KR (Q : QT) : KT := Zex pg fn.results.toList Q
theorem call (x0x0 x0x1 : List Nat) (x1 : Int) (h : Zaa) (Q : QT) (ht :
 Zdw (h ++ [.cells Zlv [.str x0x0, .str x0x1] false]) fun H0 => Zbs (Zai H0 (.ptr (some (h.length, 0 + 0)))) fun S1 => bcase (decide (((IntKind.wrap .i64 (x1 - (((List.length S1 : Nat) : Int)))) : Int) < 0)) (Q (.int .i64 (-1)) H0) (Zbs (Zai H0 (.ptr (some (h.length, 0 + 1)))) fun S2 => bcase (decide (((IntKind.wrap .i64 ((IntKind.wrap .i64 (x1 - (((List.length S1 : Nat) : Int)))) - (((List.length S2 : Nat) : Int)))) : Int) < 0)) (Q (.int .i64 (-1)) H0) (Q (.int .i64 (IntKind.wrap .i64 ((IntKind.wrap .i64 (x1 - (((List.length S1 : Nat) : Int)))) - (((List.length S2 : Nat) : Int))))) H0))) : Zae pg Zjv [.agg [.str x0x0, .str x0x1], .int .i64 x1] h Q :=
  Zae.of_body kp (c := cod fn) (fn := fn) Go.Proofs.Try.func65 (by kernel_rfl) (by kernel_rfl) (Nat.le_of_ble_eq_true (by kernel_rfl))
    (cast (by kernel_rfl) ht)
end Zmu
namespace Zmj
noncomputable abbrev fn : Func := Go.Proofs.Try.f75
def kp : Zcg := []
noncomputable def C (p : List Nat) : Code := (cod fn).sub p
def KR (Q : QT) : KT := Zex pg fn.results.toList Q
theorem call (x0x0 x0x1 x1x0 x1x1 : List Nat) (h : Zaa) (Q : QT) (ht :
 Zdw (h ++ [.cells Zan [.str x0x0, .str x0x1] false]) fun H0 => Zdw (H0 ++ [.cells Zan [.str x1x0, .str x1x1] false]) fun H1 => Zbs (Zai H1 (.ptr (some (h.length, 0 + 0)))) fun S2 => Zbs (Zai H1 (.ptr (some (H0.length, 0 + 0)))) fun S3 => bcase (!(decide (S2 = S3))) (Q (.bool false) H1) (Zbs (Zai H1 (.ptr (some (h.length, 0 + 1)))) fun S4 => Zbs (Zai H1 (.ptr (some (H0.length, 0 + 1)))) fun S5 => bcase (!(decide (S4 = S5))) (Q (.bool false) H1) (Q (.bool true) H1))) : Zae pg Zjo [.agg [.str x0x0, .str x0x1], .agg [.str x1x0, .str x1x1]] h Q :=
  Zae.of_body kp (c := cod fn) (fn := fn) Go.Proofs.Try.func75 (by kernel_rfl) (by kernel_rfl) (Nat.le_of_ble_eq_true (by kernel_rfl))
    (cast (by kernel_rfl) ht)
end Zmj
namespace Zmw
noncomputable abbrev fn : Func := Go.Proofs.Try.f69
def kp : Zcg := []
noncomputable def C (p : List Nat) : Code := (cod fn).sub p
def KR (Q : QT) : KT := Zex pg fn.results.toList Q
theorem call (x0x0 x0x1 : List Nat) (h : Zaa) (Q : QT) (ht :
 Zdw (h ++ [.cells Zlv [.str x0x0, .str x0x1] false]) fun H0 => Zdw (H0 ++ [.cells Zan [.str [], .str []] false]) fun H1 => Zdw (H1 ++ [.cells Zan [.str [], .str []] false]) fun H2 => Zbs (Zai H2 (.ptr (some (h.length, 0 + 0)))) fun S3 => Zcb (Zbc H2 (.ptr (some (H1.length, 0 + 0))) [.str S3]) fun H4 => Zbs (Zai H4 (.ptr (some (h.length, 0 + 1)))) fun S5 => Zcb (Zbc H4 (.ptr (some (H1.length, 0 + 1))) [.str S5]) fun H6 => Zdg (Zbw H6 (.ptr (some (H1.length, 0))) 2) fun K7 => Zak K7 fun C8 Z9 => Zbs (some C8) fun S10 => Zak Z9 fun C11 Z12 => Zbs (some C11) fun S13 => Zct Z12 (Zcb (Zbc H6 (.ptr (some (H0.length, 0))) [.str S10, .str S13]) fun H14 => Zdg (Zbw H14 (.ptr (some (H0.length, 0))) 2) fun K15 => Zak K15 fun C16 Z17 => Zbs (some C16) fun S18 => Zak Z17 fun C19 Z20 => Zbs (some C19) fun S21 => Zct Z20 (Q (.agg [.str S18, .str S21]) H14))) : Zae pg Zjq [.agg [.str x0x0, .str x0x1]] h Q :=
  Zae.of_body kp (c := cod fn) (fn := fn) Go.Proofs.Try.func69 (by kernel_rfl) (by kernel_rfl) (Nat.le_of_ble_eq_true (by kernel_rfl))
    (cast (by kernel_rfl) ht)
end Zmw
namespace Zfl
noncomputable abbrev fn : Func := Go.Proofs.Try.f28
def kp : Zcg := [(3000005, [1, 4]), (1000005, [0, 1, 5])]
noncomputable def C (p : List Nat) : Code := (cod fn).sub p
def KR (Q : QT) : KT := Zex pg fn.results.toList Q
abbrev T5 := Pt → Nat → Nat → Bool → Int → Int → Zaa → Prop
def E5 (R5 : T5) (env : Env) (h : Zaa) : Prop := Zcq 0 env fun v env => xSl (some v) fun a0 n0 c0 e0 => Zcq 1 env fun v env => Zfb .i64 v fun x1 => Zcq 5 env fun v env => Zfb .i64 v fun x5 => Zld env (R5 a0 n0 c0 e0 x1 x5 h)
theorem Zjh {R5 : T5} {env : Env} {h : Zaa} (hi : E5 R5 env h) : ∃ a0, ∃ n0, ∃ c0, ∃ e0, ∃ x1, ∃ x5, env = [(0, .slice a0 n0 c0 e0), (1, .int .i64 x1), (5, .int .i64 x5)] ∧ R5 a0 n0 c0 e0 x1 x5 h := by
  unfold E5 at hi
  have hi0 := hi
  clear hi
  obtain ⟨_, _, rfl, hi1⟩ := Zad hi0
  obtain ⟨a0, n0, c0, e0, rfl, hi2⟩ := Zbo hi1
  obtain ⟨_, _, rfl, hi3⟩ := Zad hi2
  obtain ⟨x1, rfl, hi4⟩ := Zas hi3
  obtain ⟨_, _, rfl, hi5⟩ := Zad hi4
  obtain ⟨x5, rfl, hi6⟩ := Zas hi5
  obtain ⟨rfl, hi7⟩ := Zbm hi6
  have hi := hi7
  exact ⟨a0, n0, c0, e0, x1, x5, rfl, hi⟩
def K0 (Q : QT) : KT := andThen (fun env' h' => (match kp.find 4000010 with | some ks => Den pg fn.ntmps (C [1, 1, 1, 1]) (env'.keep ks) h' (KR Q) | none => den pg fn.ntmps kp (C [1, 1, 1, 1]) env' h' (KR Q))) (KR Q)
def K1 (Q : QT) : KT := Zda 0 (K0 Q)
def K2 (Q : QT) : KT := left kp 5 (K1 Q)
def K3 (Q : QT) (R5 : T5) : KT := rnd ((kp.find 1000005).getD []) (E5 R5) (K2 Q)
def L5 (Q : QT) (a0 : Pt) (n0 c0 : Nat) (e0 : Bool) (x1 x5 : Int) (h : Zaa) : Prop := Zes (Den pg fn.ntmps (C [1, 1, 1, 0, 1, 0, 0])) ((kp.find 1000005).getD []) (K2 Q) [(0, .slice a0 n0 c0 e0), (1, .int .i64 x1), (5, .int .i64 x5)] h
def A5x0 (Q : QT) (x1 : Int) (h : Zaa) : Prop := At (K1 Q) (.exit 0) [(1, .int .i64 x1), (4, .undef)] h
def L5t (Q : QT) (R5 : T5) (a0 : Pt) (n0 c0 : Nat) (e0 : Bool) (x1 x5 : Int) (h : Zaa) : Prop :=
 bcase (decide ((x5 : Int) < (((n0 : Nat) : Int)))) ((0 ≤ (x5 : Int) ∧ (x5 : Int) < (n0 : Nat)) ∧ (Zbu a0 fun I0 O1 => Zdg (Zbw h (.ptr (some (I0, O1 + (Int.toNat x5) * 2))) 2) fun K2 => Zak K2 fun C3 Z4 => Zbs (some C3) fun S5 => Zak Z4 fun C6 Z7 => Zbs (some C6) fun S8 => Zct Z7 (Zae pg Zjv [.agg [.str S5, .str S8], .int .i64 x1] h fun V9 H10 =>
 Zgn .i64 (some V9) fun X11 => bcase (decide ((X11 : Int) < 0)) (Q (.int .i64 (-1)) H10) (R5 a0 n0 c0 e0 X11 (IntKind.wrap .i64 (x5 + 1)) H10)))) (A5x0 Q x1 h)
theorem Zsp (Q : QT) (R5 : T5) (a0 : Pt) (n0 c0 : Nat) (e0 : Bool) (x1 x5 : Int) (h : Zaa) (ht : L5t Q R5 a0 n0 c0 e0 x1 x5 h) : Den pg fn.ntmps (C [1, 1, 1, 0, 1, 0, 0]) [(0, .slice a0 n0 c0 e0), (1, .int .i64 x1), (5, .int .i64 x5)] h (K3 Q R5) :=
  Zbh (kp := kp) (cast (by kernel_rfl) ht)
theorem L5ind (Q : QT) (a0 : Pt) (n0 c0 : Nat) (e0 : Bool) {G : Type} (J : G → Int → Int → Zaa → Prop) (m : G → Nat)
 (hr : ∀ (g : G) (x1 x5 : Int) (h : Zaa), J g x1 x5 h → ∀ (R5 : T5), (∀ g' (x1 x5 : Int) (h : Zaa), m g' < m g → J g' x1 x5 h → R5 a0 n0 c0 e0 x1 x5 h) → L5t Q R5 a0 n0 c0 e0 x1 x5 h)
 (g : G) (x1 x5 : Int) (h : Zaa) (hj : J g x1 x5 h) : L5 Q a0 n0 c0 e0 x1 x5 h := by
  refine Zes.inv2 (fun g => E5 fun a0' n0' c0' e0' x1 x5 h => a0 = a0' ∧ n0 = n0' ∧ c0 = c0' ∧ e0 = e0' ∧ J g x1 x5 h) (fun g => E5 fun a0' n0' c0' e0' x1 x5 h => a0 = a0' ∧ n0 = n0' ∧ c0 = c0' ∧ e0 = e0' ∧ ∃ g', m g' < m g ∧ J g' x1 x5 h) m ?_ ?_ g ⟨rfl, rfl, rfl, rfl, hj⟩
  · intro g env h hi
    obtain ⟨a0', n0', c0', e0', x1, x5, rfl, rfl, rfl, rfl, rfl, hj⟩ := Zjh hi
    exact Zsp Q _ a0 n0 c0 e0 x1 x5 h (hr g x1 x5 h hj (fun a0' n0' c0' e0' x1 x5 h => a0 = a0' ∧ n0 = n0' ∧ c0 = c0' ∧ e0 = e0' ∧ ∃ g', m g' < m g ∧ J g' x1 x5 h) fun g' x1 x5 h hlt hj => ⟨rfl, rfl, rfl, rfl, g', hlt, hj⟩)
  · intro g env h hi
    obtain ⟨a0', n0', c0', e0', x1, x5, rfl, rfl, rfl, rfl, rfl, g', hlt, hj⟩ := Zjh hi
    exact ⟨g', hlt, rfl, rfl, rfl, rfl, hj⟩
theorem A5x0i (Q : QT) (x1 : Int) (h : Zaa) (ht :
 Q (.int .i64 x1) h) : A5x0 Q x1 h :=
  At.mk (cast (by kernel_rfl) ht)
theorem call (a0 : Pt) (n0 c0 : Nat) (e0 : Bool) (x1 : Int) (h : Zaa) (Q : QT) (ht :
 bcase (decide (((IntKind.wrap .i64 (x1 - (((n0 : Nat) : Int)))) : Int) < 0)) (Q (.int .i64 (-1)) h) (L5 Q a0 n0 c0 e0 (IntKind.wrap .i64 (x1 - (((n0 : Nat) : Int)))) 0 h)) : Zae pg Zit [.slice a0 n0 c0 e0, .int .i64 x1] h Q :=
  Zae.of_body kp (c := cod fn) (fn := fn) Go.Proofs.Try.func28 (by kernel_rfl) (by kernel_rfl) (Nat.le_of_ble_eq_true (by kernel_rfl))
    (cast (by kernel_rfl) ht)
end Zfl
namespace Zfo
noncomputable abbrev fn : Func := Go.Proofs.Try.f34
def kp : Zcg := [(3000003, [3]), (1000003, [0, 3, 4])]
noncomputable def C (p : List Nat) : Code := (cod fn).sub p
def KR (Q : QT) : KT := Zex pg fn.results.toList Q
abbrev T3 := Pt → Nat → Nat → Bool → Pt → Nat → Nat → Bool → Int → Zaa → Prop
def E3 (R3 : T3) (env : Env) (h : Zaa) : Prop := Zcq 0 env fun v env => xSl (some v) fun a0 n0 c0 e0 => Zcq 3 env fun v env => xSl (some v) fun a3 n3 c3 e3 => Zcq 4 env fun v env => Zfb .i64 v fun x4 => Zld env (R3 a0 n0 c0 e0 a3 n3 c3 e3 x4 h)
theorem Zgq {R3 : T3} {env : Env} {h : Zaa} (hi : E3 R3 env h) : ∃ a0, ∃ n0, ∃ c0, ∃ e0, ∃ a3, ∃ n3, ∃ c3, ∃ e3, ∃ x4, env = [(0, .slice a0 n0 c0 e0), (3, .slice a3 n3 c3 e3), (4, .int .i64 x4)] ∧ R3 a0 n0 c0 e0 a3 n3 c3 e3 x4 h := by
  unfold E3 at hi
  have hi0 := hi
  clear hi
  obtain ⟨_, _, rfl, hi1⟩ := Zad hi0
  obtain ⟨a0, n0, c0, e0, rfl, hi2⟩ := Zbo hi1
  obtain ⟨_, _, rfl, hi3⟩ := Zad hi2
  obtain ⟨a3, n3, c3, e3, rfl, hi4⟩ := Zbo hi3
  obtain ⟨_, _, rfl, hi5⟩ := Zad hi4
  obtain ⟨x4, rfl, hi6⟩ := Zas hi5
  obtain ⟨rfl, hi7⟩ := Zbm hi6
  have hi := hi7
  exact ⟨a0, n0, c0, e0, a3, n3, c3, e3, x4, rfl, hi⟩
def K0 (Q : QT) : KT := andThen (fun env' h' => (match kp.find 4000006 with | some ks => Den pg fn.ntmps (C [1, 1, 1]) (env'.keep ks) h' (KR Q) | none => den pg fn.ntmps kp (C [1, 1, 1]) env' h' (KR Q))) (KR Q)
def K1 (Q : QT) : KT := Zda 0 (K0 Q)
def K2 (Q : QT) : KT := left kp 3 (K1 Q)
def K3 (Q : QT) (R3 : T3) : KT := rnd ((kp.find 1000003).getD []) (E3 R3) (K2 Q)
def L3 (Q : QT) (a0 : Pt) (n0 c0 : Nat) (e0 : Bool) (a3 : Pt) (n3 c3 : Nat) (e3 : Bool) (x4 : Int) (h : Zaa) : Prop := Zes (Den pg fn.ntmps (C [1, 1, 0, 1, 0, 0])) ((kp.find 1000003).getD []) (K2 Q) [(0, .slice a0 n0 c0 e0), (3, .slice a3 n3 c3 e3), (4, .int .i64 x4)] h
def Zrw (Q : QT) (a3 : Pt) (n3 c3 : Nat) (e3 : Bool) (h : Zaa) : Prop := At (K1 Q) (.exit 0) [(3, .slice a3 n3 c3 e3)] h
def L3t (Q : QT) (R3 : T3) (a0 : Pt) (n0 c0 : Nat) (e0 : Bool) (a3 : Pt) (n3 c3 : Nat) (e3 : Bool) (x4 : Int) (h : Zaa) : Prop :=
 bcase (decide ((x4 : Int) < (((n0 : Nat) : Int)))) ((0 ≤ (x4 : Int) ∧ (x4 : Int) < (n0 : Nat)) ∧ (Zbu a0 fun I1 O2 => Zdg (Zbw h (.ptr (some (I1, O2 + (Int.toNat x4) * 2))) 2) fun K3 => Zak K3 fun C4 Z5 => Zbs (some C4) fun S6 => Zak Z5 fun C7 Z8 => Zbs (some C7) fun S9 => Zct Z8 (Zae pg Zjq [.agg [.str S6, .str S9]] h fun V10 H11 =>
 Zoc V10 fun K12 => Zak K12 fun C13 Z14 => Zbs (some C13) fun S15 => Zak Z14 fun C16 Z17 => Zbs (some C16) fun S18 => Zct Z17 ((0 ≤ (x4 : Int) ∧ (x4 : Int) < (n3 : Nat)) ∧ (Zbu a3 fun I19 O20 => Zcb (Zbc H11 (.ptr (some (I19, O20 + (Int.toNat x4) * 2))) [.str S15, .str S18]) fun H21 => R3 a0 n0 c0 e0 a3 n3 c3 e3 (IntKind.wrap .i64 (x4 + 1)) H21))))) (Zrw Q a3 n3 c3 e3 h)
theorem Zob (Q : QT) (R3 : T3) (a0 : Pt) (n0 c0 : Nat) (e0 : Bool) (a3 : Pt) (n3 c3 : Nat) (e3 : Bool) (x4 : Int) (h : Zaa) (ht : L3t Q R3 a0 n0 c0 e0 a3 n3 c3 e3 x4 h) : Den pg fn.ntmps (C [1, 1, 0, 1, 0, 0]) [(0, .slice a0 n0 c0 e0), (3, .slice a3 n3 c3 e3), (4, .int .i64 x4)] h (K3 Q R3) :=
  Zbh (kp := kp) (cast (by kernel_rfl) ht)
theorem L3ind (Q : QT) (a0 : Pt) (n0 c0 : Nat) (e0 : Bool) (a3 : Pt) (n3 c3 : Nat) (e3 : Bool) {G : Type} (J : G → Int → Zaa → Prop) (m : G → Nat)
 (hr : ∀ (g : G) (x4 : Int) (h : Zaa), J g x4 h → ∀ (R3 : T3), (∀ g' (x4 : Int) (h : Zaa), m g' < m g → J g' x4 h → R3 a0 n0 c0 e0 a3 n3 c3 e3 x4 h) → L3t Q R3 a0 n0 c0 e0 a3 n3 c3 e3 x4 h)
 (g : G) (x4 : Int) (h : Zaa) (hj : J g x4 h) : L3 Q a0 n0 c0 e0 a3 n3 c3 e3 x4 h := by
  refine Zes.inv2 (fun g => E3 fun a0' n0' c0' e0' a3' n3' c3' e3' x4 h => a0 = a0' ∧ n0 = n0' ∧ c0 = c0' ∧ e0 = e0' ∧ a3 = a3' ∧ n3 = n3' ∧ c3 = c3' ∧ e3 = e3' ∧ J g x4 h) (fun g => E3 fun a0' n0' c0' e0' a3' n3' c3' e3' x4 h => a0 = a0' ∧ n0 = n0' ∧ c0 = c0' ∧ e0 = e0' ∧ a3 = a3' ∧ n3 = n3' ∧ c3 = c3' ∧ e3 = e3' ∧ ∃ g', m g' < m g ∧ J g' x4 h) m ?_ ?_ g ⟨rfl, rfl, rfl, rfl, rfl, rfl, rfl, rfl, hj⟩
  · intro g env h hi
    obtain ⟨a0', n0', c0', e0', a3', n3', c3', e3', x4, rfl, rfl, rfl, rfl, rfl, rfl, rfl, rfl, rfl, hj⟩ := Zgq hi
    exact Zob Q _ a0 n0 c0 e0 a3 n3 c3 e3 x4 h (hr g x4 h hj (fun a0' n0' c0' e0' a3' n3' c3' e3' x4 h => a0 = a0' ∧ n0 = n0' ∧ c0 = c0' ∧ e0 = e0' ∧ a3 = a3' ∧ n3 = n3' ∧ c3 = c3' ∧ e3 = e3' ∧ ∃ g', m g' < m g ∧ J g' x4 h) fun g' x4 h hlt hj => ⟨rfl, rfl, rfl, rfl, rfl, rfl, rfl, rfl, g', hlt, hj⟩)
  · intro g env h hi
    obtain ⟨a0', n0', c0', e0', a3', n3', c3', e3', x4, rfl, rfl, rfl, rfl, rfl, rfl, rfl, rfl, rfl, g', hlt, hj⟩ := Zgq hi
    exact ⟨g', hlt, rfl, rfl, rfl, rfl, rfl, rfl, rfl, rfl, hj⟩
theorem A3x0i (Q : QT) (a3 : Pt) (n3 c3 : Nat) (e3 : Bool) (h : Zaa) (ht :
 Q (.slice a3 n3 c3 e3) h) : Zrw Q a3 n3 c3 e3 h :=
  At.mk (cast (by kernel_rfl) ht)
theorem call (a0 : Pt) (n0 c0 : Nat) (e0 : Bool) (h : Zaa) (Q : QT) (ht :
 IntKind.i64 = IntKind.i64 ∧ (IntKind.i64 = IntKind.i64 ∧ ((0 ≤ ((((n0 : Nat) : Int)) : Int) ∧ ((((n0 : Nat) : Int)) : Int) ≤ (((n0 : Nat) : Int)) ∧ ((((n0 : Nat) : Int)) : Int) * (((32 : Nat) : Int) + 1) ≤ 140737488355328) ∧ (Zdw (h ++ [.cells Zan (reps (Int.toNat ((((n0 : Nat) : Int)))) [.str [], .str []]) false]) fun H0 => L3 Q a0 n0 c0 e0 (some (h.length, 0)) (Int.toNat ((((n0 : Nat) : Int)))) (Int.toNat ((((n0 : Nat) : Int)))) true 0 H0)))) : Zae pg Ziu [.slice a0 n0 c0 e0] h Q :=
  Zae.of_body kp (c := cod fn) (fn := fn) Go.Proofs.Try.func34 (by kernel_rfl) (by kernel_rfl) (Nat.le_of_ble_eq_true (by kernel_rfl))
    (cast (by kernel_rfl) ht)
end Zfo
namespace Zfm
noncomputable abbrev fn : Func := Go.Proofs.Try.f41
def kp : Zcg := [(3000004, [4]), (1000004, [0, 1, 5]), (2000006, [26, 5, 0, 1])]
noncomputable def C (p : List Nat) : Code := (cod fn).sub p
def KR (Q : QT) : KT := Zex pg fn.results.toList Q
abbrev T4 := Pt → Nat → Nat → Bool → Pt → Nat → Nat → Bool → Int → Zaa → Prop
def E4 (R4 : T4) (env : Env) (h : Zaa) : Prop := Zcq 0 env fun v env => xSl (some v) fun a0 n0 c0 e0 => Zcq 1 env fun v env => xSl (some v) fun a1 n1 c1 e1 => Zcq 5 env fun v env => Zfb .i64 v fun x5 => Zld env (R4 a0 n0 c0 e0 a1 n1 c1 e1 x5 h)
theorem Zia {R4 : T4} {env : Env} {h : Zaa} (hi : E4 R4 env h) : ∃ a0, ∃ n0, ∃ c0, ∃ e0, ∃ a1, ∃ n1, ∃ c1, ∃ e1, ∃ x5, env = [(0, .slice a0 n0 c0 e0), (1, .slice a1 n1 c1 e1), (5, .int .i64 x5)] ∧ R4 a0 n0 c0 e0 a1 n1 c1 e1 x5 h := by
  unfold E4 at hi
  have hi0 := hi
  clear hi
  obtain ⟨_, _, rfl, hi1⟩ := Zad hi0
  obtain ⟨a0, n0, c0, e0, rfl, hi2⟩ := Zbo hi1
  obtain ⟨_, _, rfl, hi3⟩ := Zad hi2
  obtain ⟨a1, n1, c1, e1, rfl, hi4⟩ := Zbo hi3
  obtain ⟨_, _, rfl, hi5⟩ := Zad hi4
  obtain ⟨x5, rfl, hi6⟩ := Zas hi5
  obtain ⟨rfl, hi7⟩ := Zbm hi6
  have hi := hi7
  exact ⟨a0, n0, c0, e0, a1, n1, c1, e1, x5, rfl, hi⟩
def K0 (Q : QT) : KT := andThen (fun env' h' => (match kp.find 4000008 with | some ks => Den pg fn.ntmps (C [1, 1, 1]) (env'.keep ks) h' (KR Q) | none => den pg fn.ntmps kp (C [1, 1, 1]) env' h' (KR Q))) (KR Q)
def K1 (Q : QT) : KT := Zda 0 (K0 Q)
def K2 (Q : QT) : KT := left kp 4 (K1 Q)
def K3 (Q : QT) (R4 : T4) : KT := rnd ((kp.find 1000004).getD []) (E4 R4) (K2 Q)
def L4 (Q : QT) (a0 : Pt) (n0 c0 : Nat) (e0 : Bool) (a1 : Pt) (n1 c1 : Nat) (e1 : Bool) (x5 : Int) (h : Zaa) : Prop := Zes (Den pg fn.ntmps (C [1, 1, 0, 1, 0, 0])) ((kp.find 1000004).getD []) (K2 Q) [(0, .slice a0 n0 c0 e0), (1, .slice a1 n1 c1 e1), (5, .int .i64 x5)] h
def Ztm (Q : QT) (h : Zaa) : Prop := At (K1 Q) (.exit 0) [(4, .undef)] h
def L4t (Q : QT) (R4 : T4) (a0 : Pt) (n0 c0 : Nat) (e0 : Bool) (a1 : Pt) (n1 c1 : Nat) (e1 : Bool) (x5 : Int) (h : Zaa) : Prop :=
 bcase (decide ((x5 : Int) < (((n0 : Nat) : Int)))) ((0 ≤ (x5 : Int) ∧ (x5 : Int) < (n0 : Nat)) ∧ (Zbu a0 fun I0 O1 => (0 ≤ (x5 : Int) ∧ (x5 : Int) < (n1 : Nat)) ∧ (Zbu a1 fun I2 O3 => Zdg (Zbw h (.ptr (some (I0, O1 + (Int.toNat x5) * 2))) 2) fun K4 => Zak K4 fun C5 Z6 => Zbs (some C5) fun S7 => Zak Z6 fun C8 Z9 => Zbs (some C8) fun S10 => Zct Z9 (Zdg (Zbw h (.ptr (some (I2, O3 + (Int.toNat x5) * 2))) 2) fun K11 => Zak K11 fun C12 Z13 => Zbs (some C12) fun S14 => Zak Z13 fun C15 Z16 => Zbs (some C15) fun S17 => Zct Z16 ((Zbw h (.ptr (some (I0, O1 + (Int.toNat x5) * 2))) 2 = Zbw h (.ptr (some (I0, O1 + (Int.toNat x5) * 2))) 2) ∧ Zae pg Zjo [.agg [.str S7, .str S10], .agg [.str S14, .str S17]] h fun V18 H19 =>
 Zcv (some V18) fun B20 => bcase (!B20) (Q (.bool false) H19) (R4 a0 n0 c0 e0 a1 n1 c1 e1 (IntKind.wrap .i64 (x5 + 1)) H19)))))) (Ztm Q h)
theorem Zpt (Q : QT) (R4 : T4) (a0 : Pt) (n0 c0 : Nat) (e0 : Bool) (a1 : Pt) (n1 c1 : Nat) (e1 : Bool) (x5 : Int) (h : Zaa) (ht : L4t Q R4 a0 n0 c0 e0 a1 n1 c1 e1 x5 h) : Den pg fn.ntmps (C [1, 1, 0, 1, 0, 0]) [(0, .slice a0 n0 c0 e0), (1, .slice a1 n1 c1 e1), (5, .int .i64 x5)] h (K3 Q R4) :=
  Zbh (kp := kp) (cast (by kernel_rfl) ht)
theorem L4ind (Q : QT) (a0 : Pt) (n0 c0 : Nat) (e0 : Bool) (a1 : Pt) (n1 c1 : Nat) (e1 : Bool) {G : Type} (J : G → Int → Zaa → Prop) (m : G → Nat)
 (hr : ∀ (g : G) (x5 : Int) (h : Zaa), J g x5 h → ∀ (R4 : T4), (∀ g' (x5 : Int) (h : Zaa), m g' < m g → J g' x5 h → R4 a0 n0 c0 e0 a1 n1 c1 e1 x5 h) → L4t Q R4 a0 n0 c0 e0 a1 n1 c1 e1 x5 h)
 (g : G) (x5 : Int) (h : Zaa) (hj : J g x5 h) : L4 Q a0 n0 c0 e0 a1 n1 c1 e1 x5 h := by
  refine Zes.inv2 (fun g => E4 fun a0' n0' c0' e0' a1' n1' c1' e1' x5 h => a0 = a0' ∧ n0 = n0' ∧ c0 = c0' ∧ e0 = e0' ∧ a1 = a1' ∧ n1 = n1' ∧ c1 = c1' ∧ e1 = e1' ∧ J g x5 h) (fun g => E4 fun a0' n0' c0' e0' a1' n1' c1' e1' x5 h => a0 = a0' ∧ n0 = n0' ∧ c0 = c0' ∧ e0 = e0' ∧ a1 = a1' ∧ n1 = n1' ∧ c1 = c1' ∧ e1 = e1' ∧ ∃ g', m g' < m g ∧ J g' x5 h) m ?_ ?_ g ⟨rfl, rfl, rfl, rfl, rfl, rfl, rfl, rfl, hj⟩
  · intro g env h hi
    obtain ⟨a0', n0', c0', e0', a1', n1', c1', e1', x5, rfl, rfl, rfl, rfl, rfl, rfl, rfl, rfl, rfl, hj⟩ := Zia hi
    exact Zpt Q _ a0 n0 c0 e0 a1 n1 c1 e1 x5 h (hr g x5 h hj (fun a0' n0' c0' e0' a1' n1' c1' e1' x5 h => a0 = a0' ∧ n0 = n0' ∧ c0 = c0' ∧ e0 = e0' ∧ a1 = a1' ∧ n1 = n1' ∧ c1 = c1' ∧ e1 = e1' ∧ ∃ g', m g' < m g ∧ J g' x5 h) fun g' x5 h hlt hj => ⟨rfl, rfl, rfl, rfl, rfl, rfl, rfl, rfl, g', hlt, hj⟩)
  · intro g env h hi
    obtain ⟨a0', n0', c0', e0', a1', n1', c1', e1', x5, rfl, rfl, rfl, rfl, rfl, rfl, rfl, rfl, rfl, g', hlt, hj⟩ := Zia hi
    exact ⟨g', hlt, rfl, rfl, rfl, rfl, rfl, rfl, rfl, rfl, hj⟩
theorem A4x0i (Q : QT) (h : Zaa) (ht :
 Q (.bool true) h) : Ztm Q h :=
  At.mk (cast (by kernel_rfl) ht)
theorem call (a0 : Pt) (n0 c0 : Nat) (e0 : Bool) (a1 : Pt) (n1 c1 : Nat) (e1 : Bool) (h : Zaa) (Q : QT) (ht :
 bcase (!((((n0 : Nat) : Int) : Int) == (((n1 : Nat) : Int)))) (Q (.bool false) h) (L4 Q a0 n0 c0 e0 a1 n1 c1 e1 0 h)) : Zae pg Zja [.slice a0 n0 c0 e0, .slice a1 n1 c1 e1] h Q :=
  Zae.of_body kp (c := cod fn) (fn := fn) Go.Proofs.Try.func41 (by kernel_rfl) (by kernel_rfl) (Nat.le_of_ble_eq_true (by kernel_rfl))
    (cast (by kernel_rfl) ht)
end Zfm
end Go.Sim

set_option maxRecDepth 100000
set_option linter.unusedVariables false
namespace Go.Sim
open Go Go.RowKit
namespace Zhg
noncomputable abbrev fn : Func := Go.Proofs.Try.f73
def kp : Zcg := []
noncomputable def C (p : List Nat) : Code := (cod fn).sub p
def KR (Q : QT) : KT := Zex pg fn.results.toList Q
theorem call (x0x0 x0x1 : List Nat) (a0x2 : Pt) (n0x2 c0x2 : Nat) (e0x2 : Bool) (v1 : Zag) (h : Zaa) (Q : QT) (ht :
 Zdw (h ++ [.cells Zab [.str x0x0, .str x0x1, .slice a0x2 n0x2 c0x2 e0x2] false]) fun H0 => Zdg (Zbw H0 (v1) 2) fun K1 => Zak K1 fun C2 Z3 => xSl (some C2) fun A4 N5 C6 E7 => Zak Z3 fun C8 Z9 => xSl (some C8) fun A10 N11 C12 E13 => Zct Z9 (Zdg (Zbw H0 (.ptr (some (h.length, 0))) 3) fun K14 => Zak K14 fun C15 Z16 => Zbs (some C15) fun S17 => Zak Z16 fun C18 Z19 => Zbs (some C18) fun S20 => Zak Z19 fun C21 Z22 => xSl (some C21) fun A23 N24 C25 E26 => Zct Z22 (Zae pg Zfy [.agg [.slice A4 N5 C6 E7, .slice A10 N11 C12 E13], .agg [.str S17, .str S20, .slice A23 N24 C25 E26]] H0 fun V27 H28 =>
 Zcv (some V27) fun B29 => Q (.bool (!B29)) H28))) : Zae pg Zbk [.agg [.str x0x0, .str x0x1, .slice a0x2 n0x2 c0x2 e0x2], v1] h Q :=
  Zae.of_body kp (c := cod fn) (fn := fn) Go.Proofs.Try.func73 (by kernel_rfl) (by kernel_rfl) (Nat.le_of_ble_eq_true (by kernel_rfl))
    (cast (by kernel_rfl) ht)
end Zhg
namespace Zav
noncomputable abbrev fn : Func := Go.Proofs.Try.f103
def kp : Zcg := [(3000002, [4]), (1000002, [0, 1, 7, 8])]
noncomputable def C (p : List Nat) : Code := (cod fn).sub p
def KR (Q : QT) : KT := Zex pg fn.results.toList Q
abbrev T2 := Pt → Nat → Nat → Bool → Zag → Int → Int → Zaa → Prop
def E2 (R2 : T2) (env : Env) (h : Zaa) : Prop := Zcq 0 env fun v env => xSl (some v) fun a0 n0 c0 e0 => Zcq 1 env fun v env => eFn Zbk v fun cs => Zak cs fun c cs' => Zwt (some c) fun v1x0 => Zct cs' (Zcq 7 env fun v env => Zfb .i64 v fun x7 => Zcq 8 env fun v env => Zfb .i64 v fun x8 => Zld env (R2 a0 n0 c0 e0 v1x0 x7 x8 h))
theorem Zdd {R2 : T2} {env : Env} {h : Zaa} (hi : E2 R2 env h) : ∃ a0, ∃ n0, ∃ c0, ∃ e0, ∃ v1x0, ∃ x7, ∃ x8, env = [(0, .slice a0 n0 c0 e0), (1, .fn Zbk [v1x0]), (7, .int .i64 x7), (8, .int .i64 x8)] ∧ R2 a0 n0 c0 e0 v1x0 x7 x8 h := by
  unfold E2 at hi
  have hi0 := hi
  clear hi
  obtain ⟨_, _, rfl, hi1⟩ := Zad hi0
  obtain ⟨a0, n0, c0, e0, rfl, hi2⟩ := Zbo hi1
  obtain ⟨_, _, rfl, hi3⟩ := Zad hi2
  obtain ⟨cs, rfl, hi4⟩ := Zxs hi3
  obtain ⟨c, cs', rfl, hi5⟩ := Zri hi4
  obtain ⟨v1x0, hx, hi6⟩ := Zlx hi5
  replace hx := (Option.some.inj hx).symm
  subst hx
  obtain ⟨rfl, hi7⟩ := Zuk hi6
  obtain ⟨_, _, rfl, hi8⟩ := Zad hi7
  obtain ⟨x7, rfl, hi9⟩ := Zas hi8
  obtain ⟨_, _, rfl, hi10⟩ := Zad hi9
  obtain ⟨x8, rfl, hi11⟩ := Zas hi10
  obtain ⟨rfl, hi12⟩ := Zbm hi11
  have hi := hi12
  exact ⟨a0, n0, c0, e0, v1x0, x7, x8, rfl, hi⟩
def K0 (Q : QT) : KT := andThen (fun env' h' => (match kp.find 4000007 with | some ks => Den pg fn.ntmps (C [1, 1]) (env'.keep ks) h' (KR Q) | none => den pg fn.ntmps kp (C [1, 1]) env' h' (KR Q))) (KR Q)
def K1 (Q : QT) : KT := Zda 0 (K0 Q)
def K2 (Q : QT) : KT := left kp 2 (K1 Q)
def K3 (Q : QT) (R2 : T2) : KT := rnd ((kp.find 1000002).getD []) (E2 R2) (K2 Q)
def L2 (Q : QT) (a0 : Pt) (n0 c0 : Nat) (e0 : Bool) (v1x0 : Zag) (x7 x8 : Int) (h : Zaa) : Prop := Zes (Den pg fn.ntmps (C [1, 0, 1, 0, 0])) ((kp.find 1000002).getD []) (K2 Q) [(0, .slice a0 n0 c0 e0), (1, .fn Zbk [v1x0]), (7, .int .i64 x7), (8, .int .i64 x8)] h
def Zkd (Q : QT) (h : Zaa) : Prop := At (K1 Q) (.exit 0) [(4, .undef)] h
def L2t (Q : QT) (R2 : T2) (a0 : Pt) (n0 c0 : Nat) (e0 : Bool) (v1x0 : Zag) (x7 x8 : Int) (h : Zaa) : Prop :=
 bcase (decide ((x8 : Int) < x7)) ((0 ≤ (x8 : Int) ∧ (x8 : Int) < (n0 : Nat)) ∧ (Zbu a0 fun I0 O1 => Zdg (Zbw h (.ptr (some (I0, O1 + (Int.toNat x8) * 3))) 3) fun K2 => Zak K2 fun C3 Z4 => Zbs (some C3) fun S5 => Zak Z4 fun C6 Z7 => Zbs (some C6) fun S8 => Zak Z7 fun C9 Z10 => xSl (some C9) fun A11 N12 C13 E14 => Zct Z10 (Zae pg Zbk [.agg [.str S5, .str S8, .slice A11 N12 C13 E14], v1x0] h fun V15 H16 =>
 Zcv (some V15) fun B17 => bcase B17 (Q (.int .i64 x8) H16) (R2 a0 n0 c0 e0 v1x0 x7 (IntKind.wrap .i64 (x8 + 1)) H16)))) (Zkd Q h)
theorem Zhj (Q : QT) (R2 : T2) (a0 : Pt) (n0 c0 : Nat) (e0 : Bool) (v1x0 : Zag) (x7 x8 : Int) (h : Zaa) (ht : L2t Q R2 a0 n0 c0 e0 v1x0 x7 x8 h) : Den pg fn.ntmps (C [1, 0, 1, 0, 0]) [(0, .slice a0 n0 c0 e0), (1, .fn Zbk [v1x0]), (7, .int .i64 x7), (8, .int .i64 x8)] h (K3 Q R2) :=
  Zbh (kp := kp) (cast (by kernel_rfl) ht)
theorem L2ind (Q : QT) (a0 : Pt) (n0 c0 : Nat) (e0 : Bool) (v1x0 : Zag) (x7 : Int) {G : Type} (J : G → Int → Zaa → Prop) (m : G → Nat)
 (hr : ∀ (g : G) (x8 : Int) (h : Zaa), J g x8 h → ∀ (R2 : T2), (∀ g' (x8 : Int) (h : Zaa), m g' < m g → J g' x8 h → R2 a0 n0 c0 e0 v1x0 x7 x8 h) → L2t Q R2 a0 n0 c0 e0 v1x0 x7 x8 h)
 (g : G) (x8 : Int) (h : Zaa) (hj : J g x8 h) : L2 Q a0 n0 c0 e0 v1x0 x7 x8 h := by
  refine Zes.inv2 (fun g => E2 fun a0' n0' c0' e0' v1x0' x7' x8 h => a0 = a0' ∧ n0 = n0' ∧ c0 = c0' ∧ e0 = e0' ∧ v1x0 = v1x0' ∧ x7 = x7' ∧ J g x8 h) (fun g => E2 fun a0' n0' c0' e0' v1x0' x7' x8 h => a0 = a0' ∧ n0 = n0' ∧ c0 = c0' ∧ e0 = e0' ∧ v1x0 = v1x0' ∧ x7 = x7' ∧ ∃ g', m g' < m g ∧ J g' x8 h) m ?_ ?_ g ⟨rfl, rfl, rfl, rfl, rfl, rfl, hj⟩
  · intro g env h hi
    obtain ⟨a0', n0', c0', e0', v1x0', x7', x8, rfl, rfl, rfl, rfl, rfl, rfl, rfl, hj⟩ := Zdd hi
    exact Zhj Q _ a0 n0 c0 e0 v1x0 x7 x8 h (hr g x8 h hj (fun a0' n0' c0' e0' v1x0' x7' x8 h => a0 = a0' ∧ n0 = n0' ∧ c0 = c0' ∧ e0 = e0' ∧ v1x0 = v1x0' ∧ x7 = x7' ∧ ∃ g', m g' < m g ∧ J g' x8 h) fun g' x8 h hlt hj => ⟨rfl, rfl, rfl, rfl, rfl, rfl, g', hlt, hj⟩)
  · intro g env h hi
    obtain ⟨a0', n0', c0', e0', v1x0', x7', x8, rfl, rfl, rfl, rfl, rfl, rfl, rfl, g', hlt, hj⟩ := Zdd hi
    exact ⟨g', hlt, rfl, rfl, rfl, rfl, rfl, rfl, hj⟩
theorem A2x0i (Q : QT) (h : Zaa) (ht :
 Q (.int .i64 (-1)) h) : Zkd Q h :=
  At.mk (cast (by kernel_rfl) ht)
theorem call (a0 : Pt) (n0 c0 : Nat) (e0 : Bool) (v1x0 : Zag) (h : Zaa) (Q : QT) (ht :
 L2 Q a0 n0 c0 e0 v1x0 (((n0 : Nat) : Int)) 0 h) : Zae pg Zcc [.slice a0 n0 c0 e0, .fn Zbk [v1x0]] h Q :=
  Zae.of_body kp (c := cod fn) (fn := fn) Go.Proofs.Try.func103 (by kernel_rfl) (by kernel_rfl) (Nat.le_of_ble_eq_true (by kernel_rfl))
    (cast (by kernel_rfl) ht)
end Zav
namespace Zjy
noncomputable abbrev fn : Func := Go.Proofs.Try.f40
def kp : Zcg := []
noncomputable def C (p : List Nat) : Code := (cod fn).sub p
def KR (Q : QT) : KT := Zex pg fn.results.toList Q
theorem call (a0x0 : Pt) (n0x0 c0x0 : Nat) (e0x0 : Bool) (a0x1 : Pt) (n0x1 c0x1 : Nat) (e0x1 : Bool) (h : Zaa) (Q : QT) (ht :
 Zdw (h ++ [.cells Zac [.slice a0x0 n0x0 c0x0 e0x0, .slice a0x1 n0x1 c0x1 e0x1] false]) fun H0 => Zdg (Zbw H0 (.ptr (some (h.length, 0))) 2) fun K1 => Zak K1 fun C2 Z3 => xSl (some C2) fun A4 N5 C6 E7 => Zak Z3 fun C8 Z9 => xSl (some C8) fun A10 N11 C12 E13 => Zct Z9 (Zae pg Zgj [.agg [.slice A4 N5 C6 E7, .slice A10 N11 C12 E13]] H0 fun V14 H15 =>
 Zcv (some V14) fun B16 => bcase B16 (xSl (Zai H15 (.ptr (some (h.length, 0 + 1)))) fun A17 N18 C19 E20 => bcase (decide (((((N18 : Nat) : Int)) : Int) ≤ 10)) (xSl (Zai H15 (.ptr (some (h.length, 0 + 1)))) fun A21 N22 C23 E24 => Zae pg Zcr [.slice A21 N22 C23 E24, .fn Zbk [.ptr (some (h.length, 0))]] H15 fun V25 H26 =>
 Zcv (some V25) fun B27 => Q (.bool (!B27)) H26) (Q (.bool false) H15)) (Q (.bool false) H15))) : Zae pg Zhq [.agg [.slice a0x0 n0x0 c0x0 e0x0, .slice a0x1 n0x1 c0x1 e0x1]] h Q :=
  Zae.of_body kp (c := cod fn) (fn := fn) Go.Proofs.Try.func40 (by kernel_rfl) (by kernel_rfl) (Nat.le_of_ble_eq_true (by kernel_rfl))
    (cast (by kernel_rfl) ht)
end Zjy
namespace Zbp
noncomputable abbrev fn : Func := Go.Proofs.Try.f72
def kp : Zcg := []
noncomputable def C (p : List Nat) : Code := (cod fn).sub p
def KR (Q : QT) : KT := Zex pg fn.results.toList Q
theorem call (a0 : Pt) (n0 c0 : Nat) (e0 : Bool) (v1x0 : Zag) (h : Zaa) (Q : QT) (ht :
 Zae pg Zcc [.slice a0 n0 c0 e0, .fn Zbk [v1x0]] h fun V0 H1 =>
 Zgn .i64 (some V0) fun X2 => Q (.bool (decide ((X2 : Int) ≥ 0))) H1) : Zae pg Zcr [.slice a0 n0 c0 e0, .fn Zbk [v1x0]] h Q :=
  Zae.of_body kp (c := cod fn) (fn := fn) Go.Proofs.Try.func72 (by kernel_rfl) (by kernel_rfl) (Nat.le_of_ble_eq_true (by kernel_rfl))
    (cast (by kernel_rfl) ht)
end Zbp
namespace Zei
noncomputable abbrev fn : Func := Go.Proofs.Try.f67
def kp : Zcg := [(3000002, [1, 2]), (1000002, [1, 6, 7, 8])]
noncomputable def C (p : List Nat) : Code := (cod fn).sub p
def KR (Q : QT) : KT := Zex pg fn.results.toList Q
abbrev T2 := Nat → Nat → Pt → Nat → Nat → Bool → Int → Int → Zaa → Prop
def E2 (R2 : T2) (env : Env) (h : Zaa) : Prop := Zcq 1 env fun v env => Znk (some v) fun a => Zbu a fun i1 o1 => Zcq 6 env fun v env => xSl (some v) fun a6 n6 c6 e6 => Zcq 7 env fun v env => Zfb .i64 v fun x7 => Zcq 8 env fun v env => Zfb .i64 v fun x8 => Zld env (R2 i1 o1 a6 n6 c6 e6 x7 x8 h)
theorem Zdd {R2 : T2} {env : Env} {h : Zaa} (hi : E2 R2 env h) : ∃ i1, ∃ o1, ∃ a6, ∃ n6, ∃ c6, ∃ e6, ∃ x7, ∃ x8, env = [(1, .ptr (some (i1, o1))), (6, .slice a6 n6 c6 e6), (7, .int .i64 x7), (8, .int .i64 x8)] ∧ R2 i1 o1 a6 n6 c6 e6 x7 x8 h := by
  unfold E2 at hi
  have hi0 := hi
  clear hi
  obtain ⟨_, _, rfl, hi1⟩ := Zad hi0
  obtain ⟨a, rfl, hi2⟩ := Zdn hi1
  obtain ⟨i1, o1, rfl, hi3⟩ := Zcm hi2
  obtain ⟨_, _, rfl, hi4⟩ := Zad hi3
  obtain ⟨a6, n6, c6, e6, rfl, hi5⟩ := Zbo hi4
  obtain ⟨_, _, rfl, hi6⟩ := Zad hi5
  obtain ⟨x7, rfl, hi7⟩ := Zas hi6
  obtain ⟨_, _, rfl, hi8⟩ := Zad hi7
  obtain ⟨x8, rfl, hi9⟩ := Zas hi8
  obtain ⟨rfl, hi10⟩ := Zbm hi9
  have hi := hi10
  exact ⟨i1, o1, a6, n6, c6, e6, x7, x8, rfl, hi⟩
def K0 (Q : QT) : KT := andThen (fun env' h' => (match kp.find 4000007 with | some ks => Den pg fn.ntmps (C [1, 1]) (env'.keep ks) h' (KR Q) | none => den pg fn.ntmps kp (C [1, 1]) env' h' (KR Q))) (KR Q)
def K1 (Q : QT) : KT := Zda 0 (K0 Q)
def K2 (Q : QT) : KT := left kp 2 (K1 Q)
def K3 (Q : QT) (R2 : T2) : KT := rnd ((kp.find 1000002).getD []) (E2 R2) (K2 Q)
def L2 (Q : QT) (i1 o1 : Nat) (a6 : Pt) (n6 c6 : Nat) (e6 : Bool) (x7 x8 : Int) (h : Zaa) : Prop := Zes (Den pg fn.ntmps (C [1, 0, 1, 0, 0])) ((kp.find 1000002).getD []) (K2 Q) [(1, .ptr (some (i1, o1))), (6, .slice a6 n6 c6 e6), (7, .int .i64 x7), (8, .int .i64 x8)] h
def Zkd (Q : QT) (i1 o1 : Nat) (h : Zaa) : Prop := At (K1 Q) (.exit 0) [(1, .ptr (some (i1, o1))), (2, .undef)] h
def L2t (Q : QT) (R2 : T2) (i1 o1 : Nat) (a6 : Pt) (n6 c6 : Nat) (e6 : Bool) (x7 x8 : Int) (h : Zaa) : Prop :=
 bcase (decide ((x8 : Int) < x7)) ((0 ≤ (x8 : Int) ∧ (x8 : Int) < (n6 : Nat)) ∧ (Zbu a6 fun I5 O6 => Zdg (Zbw h (.ptr (some (I5, O6 + (Int.toNat x8) * 3))) 3) fun K7 => Zak K7 fun C8 Z9 => Zbs (some C8) fun S10 => Zak Z9 fun C11 Z12 => Zbs (some C11) fun S13 => Zak Z12 fun C14 Z15 => xSl (some C14) fun A16 N17 C18 E19 => Zct Z15 (Zdw (h ++ [.cells Zab [.str [], .str [], .slice none 0 0 true] false]) fun H20 => Zcb (Zbc H20 (.ptr (some (h.length, 0))) [.str S10, .str S13, .slice A16 N17 C18 E19]) fun H21 => Zdg (Zbw H21 (.ptr (some (i1, o1))) 2) fun K22 => Zak K22 fun C23 Z24 => xSl (some C23) fun A25 N26 C27 E28 => Zak Z24 fun C29 Z30 => xSl (some C29) fun A31 N32 C33 E34 => Zct Z30 (Zdg (Zbw H21 (.ptr (some (h.length, 0))) 3) fun K35 => Zak K35 fun C36 Z37 => Zbs (some C36) fun S38 => Zak Z37 fun C39 Z40 => Zbs (some C39) fun S41 => Zak Z40 fun C42 Z43 => xSl (some C42) fun A44 N45 C46 E47 => Zct Z43 (Zae pg Zfx [.agg [.slice A25 N26 C27 E28, .slice A31 N32 C33 E34], .agg [.str S38, .str S41, .slice A44 N45 C46 E47]] H21 fun V48 H49 =>
 Zcv (some V48) fun B50 => bcase (!B50) (Q (.bool false) H49) (R2 i1 o1 a6 n6 c6 e6 x7 (IntKind.wrap .i64 (x8 + 1)) H49)))))) (Zkd Q i1 o1 h)
theorem Zhj (Q : QT) (R2 : T2) (i1 o1 : Nat) (a6 : Pt) (n6 c6 : Nat) (e6 : Bool) (x7 x8 : Int) (h : Zaa) (ht : L2t Q R2 i1 o1 a6 n6 c6 e6 x7 x8 h) : Den pg fn.ntmps (C [1, 0, 1, 0, 0]) [(1, .ptr (some (i1, o1))), (6, .slice a6 n6 c6 e6), (7, .int .i64 x7), (8, .int .i64 x8)] h (K3 Q R2) :=
  Zbh (kp := kp) (cast (by kernel_rfl) ht)
theorem L2ind (Q : QT) (i1 o1 : Nat) (a6 : Pt) (n6 c6 : Nat) (e6 : Bool) (x7 : Int) {G : Type} (J : G → Int → Zaa → Prop) (m : G → Nat)
 (hr : ∀ (g : G) (x8 : Int) (h : Zaa), J g x8 h → ∀ (R2 : T2), (∀ g' (x8 : Int) (h : Zaa), m g' < m g → J g' x8 h → R2 i1 o1 a6 n6 c6 e6 x7 x8 h) → L2t Q R2 i1 o1 a6 n6 c6 e6 x7 x8 h)
 (g : G) (x8 : Int) (h : Zaa) (hj : J g x8 h) : L2 Q i1 o1 a6 n6 c6 e6 x7 x8 h := by
  refine Zes.inv2 (fun g => E2 fun i1' o1' a6' n6' c6' e6' x7' x8 h => i1 = i1' ∧ o1 = o1' ∧ a6 = a6' ∧ n6 = n6' ∧ c6 = c6' ∧ e6 = e6' ∧ x7 = x7' ∧ J g x8 h) (fun g => E2 fun i1' o1' a6' n6' c6' e6' x7' x8 h => i1 = i1' ∧ o1 = o1' ∧ a6 = a6' ∧ n6 = n6' ∧ c6 = c6' ∧ e6 = e6' ∧ x7 = x7' ∧ ∃ g', m g' < m g ∧ J g' x8 h) m ?_ ?_ g ⟨rfl, rfl, rfl, rfl, rfl, rfl, rfl, hj⟩
  · intro g env h hi
    obtain ⟨i1', o1', a6', n6', c6', e6', x7', x8, rfl, rfl, rfl, rfl, rfl, rfl, rfl, rfl, hj⟩ := Zdd hi
    exact Zhj Q _ i1 o1 a6 n6 c6 e6 x7 x8 h (hr g x8 h hj (fun i1' o1' a6' n6' c6' e6' x7' x8 h => i1 = i1' ∧ o1 = o1' ∧ a6 = a6' ∧ n6 = n6' ∧ c6 = c6' ∧ e6 = e6' ∧ x7 = x7' ∧ ∃ g', m g' < m g ∧ J g' x8 h) fun g' x8 h hlt hj => ⟨rfl, rfl, rfl, rfl, rfl, rfl, rfl, g', hlt, hj⟩)
  · intro g env h hi
    obtain ⟨i1', o1', a6', n6', c6', e6', x7', x8, rfl, rfl, rfl, rfl, rfl, rfl, rfl, rfl, g', hlt, hj⟩ := Zdd hi
    exact ⟨g', hlt, rfl, rfl, rfl, rfl, rfl, rfl, rfl, hj⟩
theorem A2x0i (Q : QT) (i1 o1 : Nat) (h : Zaa) (ht :
 xSl (Zai h (.ptr (some (i1, o1 + 0)))) fun A51 N52 C53 E54 => Zae pg Zgi [.slice A51 N52 C53 E54] h fun V55 H56 =>
 Zcv (some V55) fun B57 => bcase B57 (xSl (Zai H56 (.ptr (some (i1, o1 + 1)))) fun A58 N59 C60 E61 => Q (.bool (decide (((((N59 : Nat) : Int)) : Int) ≤ 10))) H56) (Q (.bool false) H56)) : Zkd Q i1 o1 h :=
  At.mk (cast (by kernel_rfl) ht)
theorem call (a0x0 : Pt) (n0x0 c0x0 : Nat) (e0x0 : Bool) (a0x1 : Pt) (n0x1 c0x1 : Nat) (e0x1 : Bool) (h : Zaa) (Q : QT) (ht :
 Zdw (h ++ [.cells Zac [.slice a0x0 n0x0 c0x0 e0x0, .slice a0x1 n0x1 c0x1 e0x1] false]) fun H0 => xSl (Zai H0 (.ptr (some (h.length, 0 + 1)))) fun A1 N2 C3 E4 => L2 Q h.length 0 A1 N2 C3 E4 (((N2 : Nat) : Int)) 0 H0) : Zae pg Zhp [.agg [.slice a0x0 n0x0 c0x0 e0x0, .slice a0x1 n0x1 c0x1 e0x1]] h Q :=
  Zae.of_body kp (c := cod fn) (fn := fn) Go.Proofs.Try.func67 (by kernel_rfl) (by kernel_rfl) (Nat.le_of_ble_eq_true (by kernel_rfl))
    (cast (by kernel_rfl) ht)
end Zei
end Go.Sim

set_option maxRecDepth 100000
set_option linter.unusedVariables false
namespace Go.Sim
open Go Go.RowKit
namespace Zcu
noncomputable abbrev fn : Func := Go.Proofs.Try.f99
def kp : Zcg := [(4000003, [3, 2]), (3000004, [4]), (1000004, [2, 3, 47, 48, 49]), (2000006, [80, 49, 48, 47, 2, 3]), (4000008, [49, 48, 47, 2, 3])]
noncomputable def C (p : List Nat) : Code := (cod fn).sub p
def KR (Q : QT) : KT := Zex pg fn.results.toList Q
abbrev T4 := Nat → Nat → Nat → Nat → Pt → Nat → Nat → Bool → Int → Int → Zaa → Prop
def E4 (R4 : T4) (env : Env) (h : Zaa) : Prop := Zcq 2 env fun v env => Znk (some v) fun a => Zbu a fun i2 o2 => Zcq 3 env fun v env => Znk (some v) fun a => Zbu a fun i3 o3 => Zcq 47 env fun v env => xSl (some v) fun a47 n47 c47 e47 => Zcq 48 env fun v env => Zfb .i64 v fun x48 => Zcq 49 env fun v env => Zfb .i64 v fun x49 => Zld env (R4 i2 o2 i3 o3 a47 n47 c47 e47 x48 x49 h)
theorem Zia {R4 : T4} {env : Env} {h : Zaa} (hi : E4 R4 env h) : ∃ i2, ∃ o2, ∃ i3, ∃ o3, ∃ a47, ∃ n47, ∃ c47, ∃ e47, ∃ x48, ∃ x49, env = [(2, .ptr (some (i2, o2))), (3, .ptr (some (i3, o3))), (47, .slice a47 n47 c47 e47), (48, .int .i64 x48), (49, .int .i64 x49)] ∧ R4 i2 o2 i3 o3 a47 n47 c47 e47 x48 x49 h := by
  unfold E4 at hi
  have hi0 := hi
  clear hi
  obtain ⟨_, _, rfl, hi1⟩ := Zad hi0
  obtain ⟨a, rfl, hi2⟩ := Zdn hi1
  obtain ⟨i2, o2, rfl, hi3⟩ := Zcm hi2
  obtain ⟨_, _, rfl, hi4⟩ := Zad hi3
  obtain ⟨a, rfl, hi5⟩ := Zdn hi4
  obtain ⟨i3, o3, rfl, hi6⟩ := Zcm hi5
  obtain ⟨_, _, rfl, hi7⟩ := Zad hi6
  obtain ⟨a47, n47, c47, e47, rfl, hi8⟩ := Zbo hi7
  obtain ⟨_, _, rfl, hi9⟩ := Zad hi8
  obtain ⟨x48, rfl, hi10⟩ := Zas hi9
  obtain ⟨_, _, rfl, hi11⟩ := Zad hi10
  obtain ⟨x49, rfl, hi12⟩ := Zas hi11
  obtain ⟨rfl, hi13⟩ := Zbm hi12
  have hi := hi13
  exact ⟨i2, o2, i3, o3, a47, n47, c47, e47, x48, x49, rfl, hi⟩
def K0 (Q : QT) : KT := andThen (fun env' h' => (match kp.find 4000009 with | some ks => Den pg fn.ntmps (C [1, 1, 1]) (env'.keep ks) h' (KR Q) | none => den pg fn.ntmps kp (C [1, 1, 1]) env' h' (KR Q))) (KR Q)
def K1 (Q : QT) : KT := Zda 0 (K0 Q)
def K2 (Q : QT) : KT := left kp 4 (K1 Q)
def K3 (Q : QT) (R4 : T4) : KT := rnd ((kp.find 1000004).getD []) (E4 R4) (K2 Q)
def J3 (Q : QT) (i3 o3 i2 o2 : Nat) (h : Zaa) : Prop := Den pg fn.ntmps (C [1, 1]) [(3, .ptr (some (i3, o3))), (2, .ptr (some (i2, o2)))] h (KR Q)
def L4 (Q : QT) (i2 o2 i3 o3 : Nat) (a47 : Pt) (n47 c47 : Nat) (e47 : Bool) (x48 x49 : Int) (h : Zaa) : Prop := Zes (Den pg fn.ntmps (C [1, 1, 0, 1, 0, 0])) ((kp.find 1000004).getD []) (K2 Q) [(2, .ptr (some (i2, o2))), (3, .ptr (some (i3, o3))), (47, .slice a47 n47 c47 e47), (48, .int .i64 x48), (49, .int .i64 x49)] h
def J8 (Q : QT) (R4 : T4) (x49 x48 : Int) (a47 : Pt) (n47 c47 : Nat) (e47 : Bool) (i2 o2 i3 o3 : Nat) (h : Zaa) : Prop := Den pg fn.ntmps (C [1, 1, 0, 1, 0, 0, 1, 1, 1]) [(49, .int .i64 x49), (48, .int .i64 x48), (47, .slice a47 n47 c47 e47), (2, .ptr (some (i2, o2))), (3, .ptr (some (i3, o3)))] h (K3 Q R4)
def Ztm (Q : QT) (h : Zaa) : Prop := At (K1 Q) (.exit 0) [(4, .undef)] h
theorem J3i (Q : QT) (i3 o3 i2 o2 : Nat) (h : Zaa) (ht :
 xSl (Zai h (.ptr (some (i3, o3 + 2)))) fun A40 N41 C42 E43 => L4 Q i2 o2 i3 o3 A40 N41 C42 E43 (((N41 : Nat) : Int)) 0 h) : J3 Q i3 o3 i2 o2 h :=
  Zbh (kp := kp) (cast (by kernel_rfl) ht)
def L4t (Q : QT) (R4 : T4) (i2 o2 i3 o3 : Nat) (a47 : Pt) (n47 c47 : Nat) (e47 : Bool) (x48 x49 : Int) (h : Zaa) : Prop :=
 bcase (decide ((x49 : Int) < x48)) ((0 ≤ (x49 : Int) ∧ (x49 : Int) < (n47 : Nat)) ∧ (Zbu a47 fun I44 O45 => Zdg (Zbw h (.ptr (some (I44, O45 + (Int.toNat x49) * 2))) 2) fun K46 => Zak K46 fun C47 Z48 => Zbs (some C47) fun S49 => Zak Z48 fun C50 Z51 => Zbs (some C50) fun S52 => Zct Z51 (Zdw (h ++ [.cells Zao [.str [], .str []] false]) fun H53 => Zcb (Zbc H53 (.ptr (some (h.length, 0))) [.str S49, .str S52]) fun H54 => Zdg (Zbw H54 (.ptr (some (i2, o2))) 2) fun K55 => Zak K55 fun C56 Z57 => xSl (some C56) fun A58 N59 C60 E61 => Zak Z57 fun C62 Z63 => xSl (some C62) fun A64 N65 C66 E67 => Zct Z63 (Zbs (Zai H54 (.ptr (some (h.length, 0 + 0)))) fun S68 => (Zbw H54 (.ptr (some (i2, o2))) 2 = Zbw H54 (.ptr (some (i2, o2))) 2) ∧ Zae pg Zgg [.agg [.slice A58 N59 C60 E61, .slice A64 N65 C66 E67], .str S68] H54 fun V69 H70 =>
 Zgn .i64 (some V69) fun X71 => bcase (decide ((X71 : Int) < 0)) ((Zbw H70 (.ptr (some (i2, o2))) 2 = Zbw H70 (.ptr (some (i2, o2))) 2) ∧ (Zbw H70 (.ptr (some (i2, o2))) 2 = Zbw H70 (.ptr (some (i2, o2))) 2) ∧ (Zbw H70 (.ptr (some (i2, o2))) 2 = Zbw H70 (.ptr (some (i2, o2))) 2) ∧ (Zai H70 (.tup []) = Zai H70 (.tup [])) ∧ (Zbw H70 (.ptr (some (i2, o2))) 2 = Zbw H70 (.ptr (some (i2, o2))) 2) ∧ (Zai H70 (.tup []) = Zai H70 (.tup [])) ∧ (Zbw H70 (.ptr (some (i2, o2))) 2 = Zbw H70 (.ptr (some (i2, o2))) 2) ∧ (Zai H70 (.tup []) = Zai H70 (.tup [])) ∧ (Zai H70 (.tup []) = Zai H70 (.tup [])) ∧ (Zbw H70 (.ptr (some (i2, o2))) 2 = Zbw H70 (.ptr (some (i2, o2))) 2) ∧ Q (.bool false) H70) (Zbs (Zai H70 (.ptr (some (h.length, 0 + 1)))) fun S72 => (Zbw H70 (.ptr (some (i2, o2))) 2 = Zbw H70 (.ptr (some (i2, o2))) 2) ∧ Zae pg Zeu [.str S72] H70 fun V73 H74 =>
 Zcv (some V73) fun B75 => (Zbw H74 (.ptr (some (i2, o2))) 2 = Zbw H70 (.ptr (some (i2, o2))) 2) ∧ bcase (!B75) ((Zbw H74 (.ptr (some (i2, o2))) 2 = Zbw H74 (.ptr (some (i2, o2))) 2) ∧ (Zai H74 (.tup []) = Zai H74 (.tup [])) ∧ (Zbw H74 (.ptr (some (i2, o2))) 2 = Zbw H74 (.ptr (some (i2, o2))) 2) ∧ (Zai H74 (.tup []) = Zai H74 (.tup [])) ∧ (Zbw H74 (.ptr (some (i2, o2))) 2 = Zbw H74 (.ptr (some (i2, o2))) 2) ∧ (Zai H74 (.tup []) = Zai H74 (.tup [])) ∧ (Zai H74 (.tup []) = Zai H74 (.tup [])) ∧ (Zbw H74 (.ptr (some (i2, o2))) 2 = Zbw H74 (.ptr (some (i2, o2))) 2) ∧ Q (.bool false) H74) (Zbs (Zai H74 (.ptr (some (h.length, 0 + 1)))) fun S76 => (Zbw H74 (.ptr (some (i2, o2))) 2 = Zbw H74 (.ptr (some (i2, o2))) 2) ∧ bcase (decide (((((List.length S76 : Nat) : Int)) : Int) > 20)) ((Zai H74 (.tup []) = Zai H74 (.tup [])) ∧ (Zbw H74 (.ptr (some (i2, o2))) 2 = Zbw H74 (.ptr (some (i2, o2))) 2) ∧ (Zai H74 (.tup []) = Zai H74 (.tup [])) ∧ (Zbw H74 (.ptr (some (i2, o2))) 2 = Zbw H74 (.ptr (some (i2, o2))) 2) ∧ (Zai H74 (.tup []) = Zai H74 (.tup [])) ∧ (Zai H74 (.tup []) = Zai H74 (.tup [])) ∧ (Zbw H74 (.ptr (some (i2, o2))) 2 = Zbw H74 (.ptr (some (i2, o2))) 2) ∧ Q (.bool false) H74) (Zbs (Zai H74 (.ptr (some (h.length, 0 + 1)))) fun S77 => Zbs (Zai H74 (.ptr (some (i3, o3 + 0 + 1)))) fun S78 => Zae pg Zil [.str S77] H74 fun V79 H80 =>
 Zbs (some V79) fun S81 => (Zai H80 (.ptr (some (i3, o3 + 0 + 1))) = Zai H74 (.ptr (some (i3, o3 + 0 + 1)))) ∧ (Zbw H80 (.ptr (some (i2, o2))) 2 = Zbw H74 (.ptr (some (i2, o2))) 2) ∧ Zae pg Zil [.str S78] H80 fun V82 H83 =>
 Zbs (some V82) fun S84 => (Zai H83 (.ptr (some (h.length, 0 + 1))) = Zai H80 (.ptr (some (h.length, 0 + 1)))) ∧ (Zbw H83 (.ptr (some (i2, o2))) 2 = Zbw H80 (.ptr (some (i2, o2))) 2) ∧ Zae pg Ziw [.str S81, .str S84] H83 fun V85 H86 =>
 Zcv (some V85) fun B87 => (Zai H86 (.ptr (some (i3, o3 + 0 + 1))) = Zai H83 (.ptr (some (i3, o3 + 0 + 1)))) ∧ (Zai H86 (.ptr (some (h.length, 0 + 1))) = Zai H83 (.ptr (some (h.length, 0 + 1)))) ∧ (Zbw H86 (.ptr (some (i2, o2))) 2 = Zbw H83 (.ptr (some (i2, o2))) 2) ∧ bcase (!B87) (Q (.bool false) H86) (J8 Q R4 x49 x48 a47 n47 c47 e47 i2 o2 i3 o3 H86)))))))) (Ztm Q h)
theorem Zpt (Q : QT) (R4 : T4) (i2 o2 i3 o3 : Nat) (a47 : Pt) (n47 c47 : Nat) (e47 : Bool) (x48 x49 : Int) (h : Zaa) (ht : L4t Q R4 i2 o2 i3 o3 a47 n47 c47 e47 x48 x49 h) : Den pg fn.ntmps (C [1, 1, 0, 1, 0, 0]) [(2, .ptr (some (i2, o2))), (3, .ptr (some (i3, o3))), (47, .slice a47 n47 c47 e47), (48, .int .i64 x48), (49, .int .i64 x49)] h (K3 Q R4) :=
  Zbh (kp := kp) (cast (by kernel_rfl) ht)
theorem L4ind (Q : QT) (i2 o2 i3 o3 : Nat) (a47 : Pt) (n47 c47 : Nat) (e47 : Bool) (x48 : Int) {G : Type} (J : G → Int → Zaa → Prop) (m : G → Nat)
 (hr : ∀ (g : G) (x49 : Int) (h : Zaa), J g x49 h → ∀ (R4 : T4), (∀ g' (x49 : Int) (h : Zaa), m g' < m g → J g' x49 h → R4 i2 o2 i3 o3 a47 n47 c47 e47 x48 x49 h) → L4t Q R4 i2 o2 i3 o3 a47 n47 c47 e47 x48 x49 h)
 (g : G) (x49 : Int) (h : Zaa) (hj : J g x49 h) : L4 Q i2 o2 i3 o3 a47 n47 c47 e47 x48 x49 h := by
  refine Zes.inv2 (fun g => E4 fun i2' o2' i3' o3' a47' n47' c47' e47' x48' x49 h => i2 = i2' ∧ o2 = o2' ∧ i3 = i3' ∧ o3 = o3' ∧ a47 = a47' ∧ n47 = n47' ∧ c47 = c47' ∧ e47 = e47' ∧ x48 = x48' ∧ J g x49 h) (fun g => E4 fun i2' o2' i3' o3' a47' n47' c47' e47' x48' x49 h => i2 = i2' ∧ o2 = o2' ∧ i3 = i3' ∧ o3 = o3' ∧ a47 = a47' ∧ n47 = n47' ∧ c47 = c47' ∧ e47 = e47' ∧ x48 = x48' ∧ ∃ g', m g' < m g ∧ J g' x49 h) m ?_ ?_ g ⟨rfl, rfl, rfl, rfl, rfl, rfl, rfl, rfl, rfl, hj⟩
  · intro g env h hi
    obtain ⟨i2', o2', i3', o3', a47', n47', c47', e47', x48', x49, rfl, rfl, rfl, rfl, rfl, rfl, rfl, rfl, rfl, rfl, hj⟩ := Zia hi
    exact Zpt Q _ i2 o2 i3 o3 a47 n47 c47 e47 x48 x49 h (hr g x49 h hj (fun i2' o2' i3' o3' a47' n47' c47' e47' x48' x49 h => i2 = i2' ∧ o2 = o2' ∧ i3 = i3' ∧ o3 = o3' ∧ a47 = a47' ∧ n47 = n47' ∧ c47 = c47' ∧ e47 = e47' ∧ x48 = x48' ∧ ∃ g', m g' < m g ∧ J g' x49 h) fun g' x49 h hlt hj => ⟨rfl, rfl, rfl, rfl, rfl, rfl, rfl, rfl, rfl, g', hlt, hj⟩)
  · intro g env h hi
    obtain ⟨i2', o2', i3', o3', a47', n47', c47', e47', x48', x49, rfl, rfl, rfl, rfl, rfl, rfl, rfl, rfl, rfl, rfl, g', hlt, hj⟩ := Zia hi
    exact ⟨g', hlt, rfl, rfl, rfl, rfl, rfl, rfl, rfl, rfl, rfl, hj⟩
theorem J8i (Q : QT) (R4 : T4) (x49 x48 : Int) (a47 : Pt) (n47 c47 : Nat) (e47 : Bool) (i2 o2 i3 o3 : Nat) (h : Zaa) (ht :
 R4 i2 o2 i3 o3 a47 n47 c47 e47 x48 (IntKind.wrap .i64 (x49 + 1)) h) : J8 Q R4 x49 x48 a47 n47 c47 e47 i2 o2 i3 o3 h :=
  Zbh (kp := kp) (cast (by kernel_rfl) ht)
theorem A4x0i (Q : QT) (h : Zaa) (ht :
 Q (.bool true) h) : Ztm Q h :=
  At.mk (cast (by kernel_rfl) ht)
theorem call (a0x0 : Pt) (n0x0 c0x0 : Nat) (e0x0 : Bool) (a0x1 : Pt) (n0x1 c0x1 : Nat) (e0x1 : Bool) (x1x0 x1x1 : List Nat) (a1x2 : Pt) (n1x2 c1x2 : Nat) (e1x2 : Bool) (h : Zaa) (Q : QT) (ht :
 Zdw (h ++ [.cells Zac [.slice a0x0 n0x0 c0x0 e0x0, .slice a0x1 n0x1 c0x1 e0x1] false]) fun H0 => Zdw (H0 ++ [.cells Zab [.str x1x0, .str x1x1, .slice a1x2 n1x2 c1x2 e1x2] false]) fun H1 => xSl (Zai H1 (.ptr (some (h.length, 0 + 0)))) fun A2 N3 C4 E5 => Zae pg Zgi [.slice A2 N3 C4 E5] H1 fun V6 H7 =>
 Zcv (some V6) fun B8 => bcase (!B8) (Q (.bool false) H7) (Zdg (Zbw H7 (.ptr (some (h.length, 0))) 2) fun K9 => Zak K9 fun C10 Z11 => xSl (some C10) fun A12 N13 C14 E15 => Zak Z11 fun C16 Z17 => xSl (some C16) fun A18 N19 C20 E21 => Zct Z17 (Zbs (Zai H7 (.ptr (some (H0.length, 0 + 0 + 0)))) fun S22 => Zae pg Zgg [.agg [.slice A12 N13 C14 E15, .slice A18 N19 C20 E21], .str S22] H7 fun V23 H24 =>
 Zgn .i64 (some V23) fun X25 => bcase (decide ((X25 : Int) < 0)) (Q (.bool false) H24) (Zbs (Zai H24 (.ptr (some (H0.length, 0 + 0 + 1)))) fun S26 => Zae pg Zeu [.str S26] H24 fun V27 H28 =>
 Zcv (some V27) fun B29 => bcase (!B29) (Q (.bool false) H28) (Zbs (Zai H28 (.ptr (some (H0.length, 0 + 0 + 1)))) fun S30 => bcase (decide (((((List.length S30 : Nat) : Int)) : Int) > 20)) (Q (.bool false) H28) (Zbs (Zai H28 (.ptr (some (H0.length, 0 + 0 + 1)))) fun S31 => Zjg S31 0 fun B32 => Zae pg Zfu [.int .u8 (((B32 : Nat) : Int))] H28 fun V33 H34 =>
 Zcv (some V33) fun B35 => bcase B35 (Q (.bool false) H34) (xSl (Zai H34 (.ptr (some (H0.length, 0 + 2)))) fun A36 N37 C38 E39 => bcase (decide (((((N37 : Nat) : Int)) : Int) > 3)) (Q (.bool false) H34) (J3 Q H0.length 0 h.length 0 H34)))))))) : Zae pg Zfx [.agg [.slice a0x0 n0x0 c0x0 e0x0, .slice a0x1 n0x1 c0x1 e0x1], .agg [.str x1x0, .str x1x1, .slice a1x2 n1x2 c1x2 e1x2]] h Q :=
  Zae.of_body kp (c := cod fn) (fn := fn) Go.Proofs.Try.func99 (by kernel_rfl) (by kernel_rfl) (Nat.le_of_ble_eq_true (by kernel_rfl))
    (cast (by kernel_rfl) ht)
end Zcu
end Go.Sim
