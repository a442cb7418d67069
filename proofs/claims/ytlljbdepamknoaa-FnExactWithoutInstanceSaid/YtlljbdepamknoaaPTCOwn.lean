/- A part of the proof of a statement of this seat: see the text that holds the theorem. No condition. -/
import Derived.Test.YtlljbdepamknoaaNm
set_option linter.unusedVariables false
set_option linter.unusedSimpArgs false
set_option linter.all false
set_option maxRecDepth 100000
set_option linter.unusedVariables false
namespace Go.Sim
open Go Go.RowKit
namespace Zgc
noncomputable abbrev fn : Func := Go.Proofs.Try.f37
def kp : Zcg := [(3000003, [3]), (1000003, [0, 3, 4])]
noncomputable def C (p : List Nat) : Code := (cod fn).sub p
def KR (Q : QT) : KT := Zex pg fn.results.toList Q
abbrev T3 := Pt → Nat → Nat → Bool → Pt → Nat → Nat → Bool → Int → Zaa → Prop
def E3 (R3 : T3) (env : Env) (h : Zaa) : Prop := Zcq 0 env fun v env => xSl (some v) fun a0 n0 c0 e0 => Zcq 3 env fun v env => xSl (some v) fun a3 n3 c3 e3 => Zcq 4 env fun v env => Zfb .i64 v fun x4 => Zld env (R3 a0 n0 c0 e0 a3 n3 c3 e3 x4 h)
theorem Zgq {R3 : T3} {env : Env} {h : Zaa} (hi : E3 R3 env h) : ∃ a0, ∃ n0, ∃ c0, ∃ e0, ∃ a3, ∃ n3, ∃ c3, ∃ e3, ∃ x4, env = [(0, .slice a0 n0 c0 e0), (3, .slice a3 n3 c3 e3), (4, .int .i64 x4)] ∧ R3 a0 n0 c0 e0 a3 n3 c3 e3 x4 h := by
  unfold E3 at hi
  have hi0 := hi
  clear hi
  obtain ⟨_, _, rfl, hi1⟩ := Zad hi0
  obtain ⟨a0, n0, c0, e0, rfl, hi2⟩ := Zbo hi1
  obtain ⟨_, _, rfl, hi3⟩ := Zad hi2
  obtain ⟨a3, n3, c3, e3, rfl, hi4⟩ := Zbo hi3
  obtain ⟨_, _, rfl, hi5⟩ := Zad hi4
  obtain ⟨x4, rfl, hi6⟩ := Zas hi5
  obtain ⟨rfl, hi7⟩ := Zbm hi6
  have hi := hi7
  exact ⟨a0, n0, c0, e0, a3, n3, c3, e3, x4, rfl, hi⟩
def K0 (Q : QT) : KT := andThen (fun env' h' => (match kp.find 4000006 with | some ks => Den pg fn.ntmps (C [1, 1, 1]) (env'.keep ks) h' (KR Q) | none => den pg fn.ntmps kp (C [1, 1, 1]) env' h' (KR Q))) (KR Q)
def K1 (Q : QT) : KT := Zda 0 (K0 Q)
def K2 (Q : QT) : KT := left kp 3 (K1 Q)
def K3 (Q : QT) (R3 : T3) : KT := rnd ((kp.find 1000003).getD []) (E3 R3) (K2 Q)
def L3 (Q : QT) (a0 : Pt) (n0 c0 : Nat) (e0 : Bool) (a3 : Pt) (n3 c3 : Nat) (e3 : Bool) (x4 : Int) (h : Zaa) : Prop := Zes (Den pg fn.ntmps (C [1, 1, 0, 1, 0, 0])) ((kp.find 1000003).getD []) (K2 Q) [(0, .slice a0 n0 c0 e0), (3, .slice a3 n3 c3 e3), (4, .int .i64 x4)] h
def Zrw (Q : QT) (a3 : Pt) (n3 c3 : Nat) (e3 : Bool) (h : Zaa) : Prop := At (K1 Q) (.exit 0) [(3, .slice a3 n3 c3 e3)] h
def L3t (Q : QT) (R3 : T3) (a0 : Pt) (n0 c0 : Nat) (e0 : Bool) (a3 : Pt) (n3 c3 : Nat) (e3 : Bool) (x4 : Int) (h : Zaa) : Prop :=
 bcase (decide ((x4 : Int) < (((n0 : Nat) : Int)))) ((0 ≤ (x4 : Int) ∧ (x4 : Int) < (n0 : Nat)) ∧ (Zbu a0 fun I1 O2 => Zdg (Zbw h (.ptr (some (I1, O2 + (Int.toNat x4) * 2))) 2) fun K3 => Zak K3 fun C4 Z5 => Zbs (some C4) fun S6 => Zak Z5 fun C7 Z8 => Zbs (some C7) fun S9 => Zct Z8 (Zae pg Zij [.agg [.str S6, .str S9]] h fun V10 H11 =>
 Zoc V10 fun K12 => Zak K12 fun C13 Z14 => Zbs (some C13) fun S15 => Zak Z14 fun C16 Z17 => Zbs (some C16) fun S18 => Zct Z17 ((0 ≤ (x4 : Int) ∧ (x4 : Int) < (n3 : Nat)) ∧ (Zbu a3 fun I19 O20 => Zcb (Zbc H11 (.ptr (some (I19, O20 + (Int.toNat x4) * 2))) [.str S15, .str S18]) fun H21 => R3 a0 n0 c0 e0 a3 n3 c3 e3 (IntKind.wrap .i64 (x4 + 1)) H21))))) (Zrw Q a3 n3 c3 e3 h)
theorem Zob (Q : QT) (R3 : T3) (a0 : Pt) (n0 c0 : Nat) (e0 : Bool) (a3 : Pt) (n3 c3 : Nat) (e3 : Bool) (x4 : Int) (h : Zaa) (ht : L3t Q R3 a0 n0 c0 e0 a3 n3 c3 e3 x4 h) : Den pg fn.ntmps (C [1, 1, 0, 1, 0, 0]) [(0, .slice a0 n0 c0 e0), (3, .slice a3 n3 c3 e3), (4, .int .i64 x4)] h (K3 Q R3) :=
  Zbh (kp := kp) (cast (by kernel_rfl) ht)
theorem L3ind (Q : QT) (a0 : Pt) (n0 c0 : Nat) (e0 : Bool) (a3 : Pt) (n3 c3 : Nat) (e3 : Bool) {G : Type} (J : G → Int → Zaa → Prop) (m : G → Nat)
 (hr : ∀ (g : G) (x4 : Int) (h : Zaa), J g x4 h → ∀ (R3 : T3), (∀ g' (x4 : Int) (h : Zaa), m g' < m g → J g' x4 h → R3 a0 n0 c0 e0 a3 n3 c3 e3 x4 h) → L3t Q R3 a0 n0 c0 e0 a3 n3 c3 e3 x4 h)
 (g : G) (x4 : Int) (h : Zaa) (hj : J g x4 h) : L3 Q a0 n0 c0 e0 a3 n3 c3 e3 x4 h := by
  refine Zes.inv2 (fun g => E3 fun a0' n0' c0' e0' a3' n3' c3' e3' x4 h => a0 = a0' ∧ n0 = n0' ∧ c0 = c0' ∧ e0 = e0' ∧ a3 = a3' ∧ n3 = n3' ∧ c3 = c3' ∧ e3 = e3' ∧ J g x4 h) (fun g => E3 fun a0' n0' c0' e0' a3' n3' c3' e3' x4 h => a0 = a0' ∧ n0 = n0' ∧ c0 = c0' ∧ e0 = e0' ∧ a3 = a3' ∧ n3 = n3' ∧ c3 = c3' ∧ e3 = e3' ∧ ∃ g', m g' < m g ∧ J g' x4 h) m ?_ ?_ g ⟨rfl, rfl, rfl, rfl, rfl, rfl, rfl, rfl, hj⟩
  · intro g env h hi
    obtain ⟨a0', n0', c0', e0', a3', n3', c3', e3', x4, rfl, rfl, rfl, rfl, rfl, rfl, rfl, rfl, rfl, hj⟩ := Zgq hi
    exact Zob Q _ a0 n0 c0 e0 a3 n3 c3 e3 x4 h (hr g x4 h hj (fun a0' n0' c0' e0' a3' n3' c3' e3' x4 h => a0 = a0' ∧ n0 = n0' ∧ c0 = c0' ∧ e0 = e0' ∧ a3 = a3' ∧ n3 = n3' ∧ c3 = c3' ∧ e3 = e3' ∧ ∃ g', m g' < m g ∧ J g' x4 h) fun g' x4 h hlt hj => ⟨rfl, rfl, rfl, rfl, rfl, rfl, rfl, rfl, g', hlt, hj⟩)
  · intro g env h hi
    obtain ⟨a0', n0', c0', e0', a3', n3', c3', e3', x4, rfl, rfl, rfl, rfl, rfl, rfl, rfl, rfl, rfl, g', hlt, hj⟩ := Zgq hi
    exact ⟨g', hlt, rfl, rfl, rfl, rfl, rfl, rfl, rfl, rfl, hj⟩
theorem A3x0i (Q : QT) (a3 : Pt) (n3 c3 : Nat) (e3 : Bool) (h : Zaa) (ht :
 Q (.slice a3 n3 c3 e3) h) : Zrw Q a3 n3 c3 e3 h :=
  At.mk (cast (by kernel_rfl) ht)
theorem call (a0 : Pt) (n0 c0 : Nat) (e0 : Bool) (h : Zaa) (Q : QT) (ht :
 IntKind.i64 = IntKind.i64 ∧ (IntKind.i64 = IntKind.i64 ∧ ((0 ≤ ((((n0 : Nat) : Int)) : Int) ∧ ((((n0 : Nat) : Int)) : Int) ≤ (((n0 : Nat) : Int)) ∧ ((((n0 : Nat) : Int)) : Int) * (((32 : Nat) : Int) + 1) ≤ 140737488355328) ∧ (Zdw (h ++ [.cells Zao (reps (Int.toNat ((((n0 : Nat) : Int)))) [.str [], .str []]) false]) fun H0 => L3 Q a0 n0 c0 e0 (some (h.length, 0)) (Int.toNat ((((n0 : Nat) : Int)))) (Int.toNat ((((n0 : Nat) : Int)))) true 0 H0)))) : Zae pg Zju [.slice a0 n0 c0 e0] h Q :=
  Zae.of_body kp (c := cod fn) (fn := fn) Go.Proofs.Try.func37 (by kernel_rfl) (by kernel_rfl) (Nat.le_of_ble_eq_true (by kernel_rfl))
    (cast (by kernel_rfl) ht)
end Zgc
namespace Zga
noncomputable abbrev fn : Func := Go.Proofs.Try.f44
def kp : Zcg := [(3000004, [4]), (1000004, [0, 1, 5]), (2000006, [26, 5, 0, 1])]
noncomputable def C (p : List Nat) : Code := (cod fn).sub p
def KR (Q : QT) : KT := Zex pg fn.results.toList Q
abbrev T4 := Pt → Nat → Nat → Bool → Pt → Nat → Nat → Bool → Int → Zaa → Prop
def E4 (R4 : T4) (env : Env) (h : Zaa) : Prop := Zcq 0 env fun v env => xSl (some v) fun a0 n0 c0 e0 => Zcq 1 env fun v env => xSl (some v) fun a1 n1 c1 e1 => Zcq 5 env fun v env => Zfb .i64 v fun x5 => Zld env (R4 a0 n0 c0 e0 a1 n1 c1 e1 x5 h)
theorem Zia {R4 : T4} {env : Env} {h : Zaa} (hi : E4 R4 env h) : ∃ a0, ∃ n0, ∃ c0, ∃ e0, ∃ a1, ∃ n1, ∃ c1, ∃ e1, ∃ x5, env = [(0, .slice a0 n0 c0 e0), (1, .slice a1 n1 c1 e1), (5, .int .i64 x5)] ∧ R4 a0 n0 c0 e0 a1 n1 c1 e1 x5 h := by
  unfold E4 at hi
  have hi0 := hi
  clear hi
  obtain ⟨_, _, rfl, hi1⟩ := Zad hi0
  obtain ⟨a0, n0, c0, e0, rfl, hi2⟩ := Zbo hi1
  obtain ⟨_, _, rfl, hi3⟩ := Zad hi2
  obtain ⟨a1, n1, c1, e1, rfl, hi4⟩ := Zbo hi3
  obtain ⟨_, _, rfl, hi5⟩ := Zad hi4
  obtain ⟨x5, rfl, hi6⟩ := Zas hi5
  obtain ⟨rfl, hi7⟩ := Zbm hi6
  have hi := hi7
  exact ⟨a0, n0, c0, e0, a1, n1, c1, e1, x5, rfl, hi⟩
def K0 (Q : QT) : KT := andThen (fun env' h' => (match kp.find 4000008 with | some ks => Den pg fn.ntmps (C [1, 1, 1]) (env'.keep ks) h' (KR Q) | none => den pg fn.ntmps kp (C [1, 1, 1]) env' h' (KR Q))) (KR Q)
def K1 (Q : QT) : KT := Zda 0 (K0 Q)
def K2 (Q : QT) : KT := left kp 4 (K1 Q)
def K3 (Q : QT) (R4 : T4) : KT := rnd ((kp.find 1000004).getD []) (E4 R4) (K2 Q)
def L4 (Q : QT) (a0 : Pt) (n0 c0 : Nat) (e0 : Bool) (a1 : Pt) (n1 c1 : Nat) (e1 : Bool) (x5 : Int) (h : Zaa) : Prop := Zes (Den pg fn.ntmps (C [1, 1, 0, 1, 0, 0])) ((kp.find 1000004).getD []) (K2 Q) [(0, .slice a0 n0 c0 e0), (1, .slice a1 n1 c1 e1), (5, .int .i64 x5)] h
def Ztm (Q : QT) (h : Zaa) : Prop := At (K1 Q) (.exit 0) [(4, .undef)] h
def L4t (Q : QT) (R4 : T4) (a0 : Pt) (n0 c0 : Nat) (e0 : Bool) (a1 : Pt) (n1 c1 : Nat) (e1 : Bool) (x5 : Int) (h : Zaa) : Prop :=
 bcase (decide ((x5 : Int) < (((n0 : Nat) : Int)))) ((0 ≤ (x5 : Int) ∧ (x5 : Int) < (n0 : Nat)) ∧ (Zbu a0 fun I0 O1 => (0 ≤ (x5 : Int) ∧ (x5 : Int) < (n1 : Nat)) ∧ (Zbu a1 fun I2 O3 => Zdg (Zbw h (.ptr (some (I0, O1 + (Int.toNat x5) * 2))) 2) fun K4 => Zak K4 fun C5 Z6 => Zbs (some C5) fun S7 => Zak Z6 fun C8 Z9 => Zbs (some C8) fun S10 => Zct Z9 (Zdg (Zbw h (.ptr (some (I2, O3 + (Int.toNat x5) * 2))) 2) fun K11 => Zak K11 fun C12 Z13 => Zbs (some C12) fun S14 => Zak Z13 fun C15 Z16 => Zbs (some C15) fun S17 => Zct Z16 ((Zbw h (.ptr (some (I0, O1 + (Int.toNat x5) * 2))) 2 = Zbw h (.ptr (some (I0, O1 + (Int.toNat x5) * 2))) 2) ∧ Zae pg Zin [.agg [.str S7, .str S10], .agg [.str S14, .str S17]] h fun V18 H19 =>
 Zcv (some V18) fun B20 => bcase (!B20) (Q (.bool false) H19) (R4 a0 n0 c0 e0 a1 n1 c1 e1 (IntKind.wrap .i64 (x5 + 1)) H19)))))) (Ztm Q h)
theorem Zpt (Q : QT) (R4 : T4) (a0 : Pt) (n0 c0 : Nat) (e0 : Bool) (a1 : Pt) (n1 c1 : Nat) (e1 : Bool) (x5 : Int) (h : Zaa) (ht : L4t Q R4 a0 n0 c0 e0 a1 n1 c1 e1 x5 h) : Den pg fn.ntmps (C [1, 1, 0, 1, 0, 0]) [(0, .slice a0 n0 c0 e0), (1, .slice a1 n1 c1 e1), (5, .int .i64 x5)] h (K3 Q R4) :=
  Zbh (kp := kp) (cast (by kernel_rfl) ht)
theorem L4ind (Q : QT) (a0 : Pt) (n0 c0 : Nat) (e0 : Bool) (a1 : Pt) (n1 c1 : Nat) (e1 : Bool) {G : Type} (J : G → Int → Zaa → Prop) (m : G → Nat)
 (hr : ∀ (g : G) (x5 : Int) (h : Zaa), J g x5 h → ∀ (R4 : T4), (∀ g' (x5 : Int) (h : Zaa), m g' < m g → J g' x5 h → R4 a0 n0 c0 e0 a1 n1 c1 e1 x5 h) → L4t Q R4 a0 n0 c0 e0 a1 n1 c1 e1 x5 h)
 (g : G) (x5 : Int) (h : Zaa) (hj : J g x5 h) : L4 Q a0 n0 c0 e0 a1 n1 c1 e1 x5 h := by
  refine Zes.inv2 (fun g => E4 fun a0' n0' c0' e0' a1' n1' c1' e1' x5 h => a0 = a0' ∧ n0 = n0' ∧ c0 = c0' ∧ e0 = e0' ∧ a1 = a1' ∧ n1 = n1' ∧ c1 = c1' ∧ e1 = e1' ∧ J g x5 h) (fun g => E4 fun a0' n0' c0' e0' a1' n1' c1' e1' x5 h => a0 = a0' ∧ n0 = n0' ∧ c0 = c0' ∧ e0 = e0' ∧ a1 = a1' ∧ n1 = n1' ∧ c1 = c1' ∧ e1 = e1' ∧ ∃ g', m g' < m g ∧ J g' x5 h) m ?_ ?_ g ⟨rfl, rfl, rfl, rfl, rfl, rfl, rfl, rfl, hj⟩
  · intro g env h hi
    obtain ⟨a0', n0', c0', e0', a1', n1', c1', e1', x5, rfl, rfl, rfl, rfl, rfl, rfl, rfl, rfl, rfl, hj⟩ := Zia hi
    exact Zpt Q _ a0 n0 c0 e0 a1 n1 c1 e1 x5 h (hr g x5 h hj (fun a0' n0' c0' e0' a1' n1' c1' e1' x5 h => a0 = a0' ∧ n0 = n0' ∧ c0 = c0' ∧ e0 = e0' ∧ a1 = a1' ∧ n1 = n1' ∧ c1 = c1' ∧ e1 = e1' ∧ ∃ g', m g' < m g ∧ J g' x5 h) fun g' x5 h hlt hj => ⟨rfl, rfl, rfl, rfl, rfl, rfl, rfl, rfl, g', hlt, hj⟩)
  · intro g env h hi
    obtain ⟨a0', n0', c0', e0', a1', n1', c1', e1', x5, rfl, rfl, rfl, rfl, rfl, rfl, rfl, rfl, rfl, g', hlt, hj⟩ := Zia hi
    exact ⟨g', hlt, rfl, rfl, rfl, rfl, rfl, rfl, rfl, rfl, hj⟩
theorem A4x0i (Q : QT) (h : Zaa) (ht :
 Q (.bool true) h) : Ztm Q h :=
  At.mk (cast (by kernel_rfl) ht)
theorem call (a0 : Pt) (n0 c0 : Nat) (e0 : Bool) (a1 : Pt) (n1 c1 : Nat) (e1 : Bool) (h : Zaa) (Q : QT) (ht :
 bcase (!((((n0 : Nat) : Int) : Int) == (((n1 : Nat) : Int)))) (Q (.bool false) h) (L4 Q a0 n0 c0 e0 a1 n1 c1 e1 0 h)) : Zae pg Zjp [.slice a0 n0 c0 e0, .slice a1 n1 c1 e1] h Q :=
  Zae.of_body kp (c := cod fn) (fn := fn) Go.Proofs.Try.func44 (by kernel_rfl) (by kernel_rfl) (Nat.le_of_ble_eq_true (by kernel_rfl))
    (cast (by kernel_rfl) ht)
end Zga
end Go.Sim

set_option maxRecDepth 100000
set_option linter.unusedVariables false
namespace Go.Sim
open Go Go.RowKit
namespace Znu
noncomputable abbrev fn : Func := Go.Proofs.Try.f30
def kp : Zcg := []
noncomputable def C (p : List Nat) : Code := (cod fn).sub p
def KR (Q : QT) : KT := Zex pg fn.results.toList Q
theorem call (x0x0 x0x1 : List Nat) (x1 : Int) (h : Zaa) (Q : QT) (ht :
 Zdw (h ++ [.cells Zmy [.str x0x0, .str x0x1] false]) fun H0 => Zbs (Zai H0 (.ptr (some (h.length, 0 + 0)))) fun S1 => bcase (decide (((IntKind.wrap .i64 (x1 - (((List.length S1 : Nat) : Int)))) : Int) < 0)) (Q (.int .i64 (-1)) H0) (Zbs (Zai H0 (.ptr (some (h.length, 0 + 1)))) fun S2 => bcase (decide (((IntKind.wrap .i64 ((IntKind.wrap .i64 (x1 - (((List.length S1 : Nat) : Int)))) - (((List.length S2 : Nat) : Int)))) : Int) < 0)) (Q (.int .i64 (-1)) H0) (Q (.int .i64 (IntKind.wrap .i64 ((IntKind.wrap .i64 (x1 - (((List.length S1 : Nat) : Int)))) - (((List.length S2 : Nat) : Int))))) H0))) : Zae pg Zik [.agg [.str x0x0, .str x0x1], .int .i64 x1] h Q :=
  Zae.of_body kp (c := cod fn) (fn := fn) Go.Proofs.Try.func30 (by kernel_rfl) (by kernel_rfl) (Nat.le_of_ble_eq_true (by kernel_rfl))
    (cast (by kernel_rfl) ht)
end Znu
namespace Znj
noncomputable abbrev fn : Func := Go.Proofs.Try.f43
def kp : Zcg := []
noncomputable def C (p : List Nat) : Code := (cod fn).sub p
def KR (Q : QT) : KT := Zex pg fn.results.toList Q
theorem call (x0x0 x0x1 x1x0 x1x1 : List Nat) (h : Zaa) (Q : QT) (ht :
 Zdw (h ++ [.cells Zao [.str x0x0, .str x0x1] false]) fun H0 => Zdw (H0 ++ [.cells Zao [.str x1x0, .str x1x1] false]) fun H1 => Zbs (Zai H1 (.ptr (some (h.length, 0 + 0)))) fun S2 => Zbs (Zai H1 (.ptr (some (H0.length, 0 + 0)))) fun S3 => bcase (!(decide (S2 = S3))) (Q (.bool false) H1) (Zbs (Zai H1 (.ptr (some (h.length, 0 + 1)))) fun S4 => Zbs (Zai H1 (.ptr (some (H0.length, 0 + 1)))) fun S5 => bcase (!(decide (S4 = S5))) (Q (.bool false) H1) (Q (.bool true) H1))) : Zae pg Zin [.agg [.str x0x0, .str x0x1], .agg [.str x1x0, .str x1x1]] h Q :=
  Zae.of_body kp (c := cod fn) (fn := fn) Go.Proofs.Try.func43 (by kernel_rfl) (by kernel_rfl) (Nat.le_of_ble_eq_true (by kernel_rfl))
    (cast (by kernel_rfl) ht)
end Znj
namespace Znr
noncomputable abbrev fn : Func := Go.Proofs.Try.f36
def kp : Zcg := []
noncomputable def C (p : List Nat) : Code := (cod fn).sub p
def KR (Q : QT) : KT := Zex pg fn.results.toList Q
theorem call (x0x0 x0x1 : List Nat) (h : Zaa) (Q : QT) (ht :
 Zdw (h ++ [.cells Zmy [.str x0x0, .str x0x1] false]) fun H0 => Zdw (H0 ++ [.cells Zao [.str [], .str []] false]) fun H1 => Zdw (H1 ++ [.cells Zao [.str [], .str []] false]) fun H2 => Zbs (Zai H2 (.ptr (some (h.length, 0 + 0)))) fun S3 => Zcb (Zbc H2 (.ptr (some (H1.length, 0 + 0))) [.str S3]) fun H4 => Zbs (Zai H4 (.ptr (some (h.length, 0 + 1)))) fun S5 => Zcb (Zbc H4 (.ptr (some (H1.length, 0 + 1))) [.str S5]) fun H6 => Zdg (Zbw H6 (.ptr (some (H1.length, 0))) 2) fun K7 => Zak K7 fun C8 Z9 => Zbs (some C8) fun S10 => Zak Z9 fun C11 Z12 => Zbs (some C11) fun S13 => Zct Z12 (Zcb (Zbc H6 (.ptr (some (H0.length, 0))) [.str S10, .str S13]) fun H14 => Zdg (Zbw H14 (.ptr (some (H0.length, 0))) 2) fun K15 => Zak K15 fun C16 Z17 => Zbs (some C16) fun S18 => Zak Z17 fun C19 Z20 => Zbs (some C19) fun S21 => Zct Z20 (Q (.agg [.str S18, .str S21]) H14))) : Zae pg Zij [.agg [.str x0x0, .str x0x1]] h Q :=
  Zae.of_body kp (c := cod fn) (fn := fn) Go.Proofs.Try.func36 (by kernel_rfl) (by kernel_rfl) (Nat.le_of_ble_eq_true (by kernel_rfl))
    (cast (by kernel_rfl) ht)
end Znr
namespace Zgd
noncomputable abbrev fn : Func := Go.Proofs.Try.f31
def kp : Zcg := [(3000005, [1, 4]), (1000005, [0, 1, 5])]
noncomputable def C (p : List Nat) : Code := (cod fn).sub p
def KR (Q : QT) : KT := Zex pg fn.results.toList Q
abbrev T5 := Pt → Nat → Nat → Bool → Int → Int → Zaa → Prop
def E5 (R5 : T5) (env : Env) (h : Zaa) : Prop := Zcq 0 env fun v env => xSl (some v) fun a0 n0 c0 e0 => Zcq 1 env fun v env => Zfb .i64 v fun x1 => Zcq 5 env fun v env => Zfb .i64 v fun x5 => Zld env (R5 a0 n0 c0 e0 x1 x5 h)
theorem Zjh {R5 : T5} {env : Env} {h : Zaa} (hi : E5 R5 env h) : ∃ a0, ∃ n0, ∃ c0, ∃ e0, ∃ x1, ∃ x5, env = [(0, .slice a0 n0 c0 e0), (1, .int .i64 x1), (5, .int .i64 x5)] ∧ R5 a0 n0 c0 e0 x1 x5 h := by
  unfold E5 at hi
  have hi0 := hi
  clear hi
  obtain ⟨_, _, rfl, hi1⟩ := Zad hi0
  obtain ⟨a0, n0, c0, e0, rfl, hi2⟩ := Zbo hi1
  obtain ⟨_, _, rfl, hi3⟩ := Zad hi2
  obtain ⟨x1, rfl, hi4⟩ := Zas hi3
  obtain ⟨_, _, rfl, hi5⟩ := Zad hi4
  obtain ⟨x5, rfl, hi6⟩ := Zas hi5
  obtain ⟨rfl, hi7⟩ := Zbm hi6
  have hi := hi7
  exact ⟨a0, n0, c0, e0, x1, x5, rfl, hi⟩
def K0 (Q : QT) : KT := andThen (fun env' h' => (match kp.find 4000010 with | some ks => Den pg fn.ntmps (C [1, 1, 1, 1]) (env'.keep ks) h' (KR Q) | none => den pg fn.ntmps kp (C [1, 1, 1, 1]) env' h' (KR Q))) (KR Q)
def K1 (Q : QT) : KT := Zda 0 (K0 Q)
def K2 (Q : QT) : KT := left kp 5 (K1 Q)
def K3 (Q : QT) (R5 : T5) : KT := rnd ((kp.find 1000005).getD []) (E5 R5) (K2 Q)
def L5 (Q : QT) (a0 : Pt) (n0 c0 : Nat) (e0 : Bool) (x1 x5 : Int) (h : Zaa) : Prop := Zes (Den pg fn.ntmps (C [1, 1, 1, 0, 1, 0, 0])) ((kp.find 1000005).getD []) (K2 Q) [(0, .slice a0 n0 c0 e0), (1, .int .i64 x1), (5, .int .i64 x5)] h
def A5x0 (Q : QT) (x1 : Int) (h : Zaa) : Prop := At (K1 Q) (.exit 0) [(1, .int .i64 x1), (4, .undef)] h
def L5t (Q : QT) (R5 : T5) (a0 : Pt) (n0 c0 : Nat) (e0 : Bool) (x1 x5 : Int) (h : Zaa) : Prop :=
 bcase (decide ((x5 : Int) < (((n0 : Nat) : Int)))) ((0 ≤ (x5 : Int) ∧ (x5 : Int) < (n0 : Nat)) ∧ (Zbu a0 fun I0 O1 => Zdg (Zbw h (.ptr (some (I0, O1 + (Int.toNat x5) * 2))) 2) fun K2 => Zak K2 fun C3 Z4 => Zbs (some C3) fun S5 => Zak Z4 fun C6 Z7 => Zbs (some C6) fun S8 => Zct Z7 (Zae pg Zik [.agg [.str S5, .str S8], .int .i64 x1] h fun V9 H10 =>
 Zgn .i64 (some V9) fun X11 => bcase (decide ((X11 : Int) < 0)) (Q (.int .i64 (-1)) H10) (R5 a0 n0 c0 e0 X11 (IntKind.wrap .i64 (x5 + 1)) H10)))) (A5x0 Q x1 h)
theorem Zsp (Q : QT) (R5 : T5) (a0 : Pt) (n0 c0 : Nat) (e0 : Bool) (x1 x5 : Int) (h : Zaa) (ht : L5t Q R5 a0 n0 c0 e0 x1 x5 h) : Den pg fn.ntmps (C [1, 1, 1, 0, 1, 0, 0]) [(0, .slice a0 n0 c0 e0), (1, .int .i64 x1), (5, .int .i64 x5)] h (K3 Q R5) :=
  Zbh (kp := kp) (cast (by kernel_rfl) ht)
theorem L5ind (Q : QT) (a0 : Pt) (n0 c0 : Nat) (e0 : Bool) {G : Type} (J : G → Int → Int → Zaa → Prop) (m : G → Nat)
 (hr : ∀ (g : G) (x1 x5 : Int) (h : Zaa), J g x1 x5 h → ∀ (R5 : T5), (∀ g' (x1 x5 : Int) (h : Zaa), m g' < m g → J g' x1 x5 h → R5 a0 n0 c0 e0 x1 x5 h) → L5t Q R5 a0 n0 c0 e0 x1 x5 h)
 (g : G) (x1 x5 : Int) (h : Zaa) (hj : J g x1 x5 h) : L5 Q a0 n0 c0 e0 x1 x5 h := by
  refine Zes.inv2 (fun g => E5 fun a0' n0' c0' e0' x1 x5 h => a0 = a0' ∧ n0 = n0' ∧ c0 = c0' ∧ e0 = e0' ∧ J g x1 x5 h) (fun g => E5 fun a0' n0' c0' e0' x1 x5 h => a0 = a0' ∧ n0 = n0' ∧ c0 = c0' ∧ e0 = e0' ∧ ∃ g', m g' < m g ∧ J g' x1 x5 h) m ?_ ?_ g ⟨rfl, rfl, rfl, rfl, hj⟩
  · intro g env h hi
    obtain ⟨a0', n0', c0', e0', x1, x5, rfl, rfl, rfl, rfl, rfl, hj⟩ := Zjh hi
    exact Zsp Q _ a0 n0 c0 e0 x1 x5 h (hr g x1 x5 h hj (fun a0' n0' c0' e0' x1 x5 h => a0 = a0' ∧ n0 = n0' ∧ c0 = c0' ∧ e0 = e0' ∧ ∃ g', m g' < m g ∧ J g' x1 x5 h) fun g' x1 x5 h hlt hj => ⟨rfl, rfl, rfl, rfl, g', hlt, hj⟩)
  · intro g env h hi
    obtain ⟨a0', n0', c0', e0', x1, x5, rfl, rfl, rfl, rfl, rfl, g', hlt, hj⟩ := Zjh hi
    exact ⟨g', hlt, rfl, rfl, rfl, rfl, hj⟩
theorem A5x0i (Q : QT) (x1 : Int) (h : Zaa) (ht :
 Q (.int .i64 x1) h) : A5x0 Q x1 h :=
  At.mk (cast (by kernel_rfl) ht)
theorem call (a0 : Pt) (n0 c0 : Nat) (e0 : Bool) (x1 : Int) (h : Zaa) (Q : QT) (ht :
 bcase (decide (((IntKind.wrap .i64 (x1 - (((n0 : Nat) : Int)))) : Int) < 0)) (Q (.int .i64 (-1)) h) (L5 Q a0 n0 c0 e0 (IntKind.wrap .i64 (x1 - (((n0 : Nat) : Int)))) 0 h)) : Zae pg Zjm [.slice a0 n0 c0 e0, .int .i64 x1] h Q :=
  Zae.of_body kp (c := cod fn) (fn := fn) Go.Proofs.Try.func31 (by kernel_rfl) (by kernel_rfl) (Nat.le_of_ble_eq_true (by kernel_rfl))
    (cast (by kernel_rfl) ht)
end Zgd
end Go.Sim

set_option maxRecDepth 100000
set_option linter.unusedVariables false
namespace Go.Sim
open Go Go.RowKit
namespace Zgm
noncomputable abbrev fn : Func := Go.Proofs.Try.f63
def kp : Zcg := [(3000003, [3]), (1000003, [0, 3, 7, 8, 9]), (4000007, [9, 8, 7, 0, 3])]
noncomputable def C (p : List Nat) : Code := (cod fn).sub p
def KR (Q : QT) : KT := Zex pg fn.results.toList Q
abbrev T3 := List Nat → Pt → Nat → Nat → Bool → Pt → Nat → Nat → Bool → Int → Int → Zaa → Prop
def E3 (R3 : T3) (env : Env) (h : Zaa) : Prop := Zcq 0 env fun v env => Zbs (some v) fun x0 => Zcq 3 env fun v env => xSl (some v) fun a3 n3 c3 e3 => Zcq 7 env fun v env => xSl (some v) fun a7 n7 c7 e7 => Zcq 8 env fun v env => Zfb .i64 v fun x8 => Zcq 9 env fun v env => Zfb .i64 v fun x9 => Zld env (R3 x0 a3 n3 c3 e3 a7 n7 c7 e7 x8 x9 h)
theorem Zgq {R3 : T3} {env : Env} {h : Zaa} (hi : E3 R3 env h) : ∃ x0, ∃ a3, ∃ n3, ∃ c3, ∃ e3, ∃ a7, ∃ n7, ∃ c7, ∃ e7, ∃ x8, ∃ x9, env = [(0, .str x0), (3, .slice a3 n3 c3 e3), (7, .slice a7 n7 c7 e7), (8, .int .i64 x8), (9, .int .i64 x9)] ∧ R3 x0 a3 n3 c3 e3 a7 n7 c7 e7 x8 x9 h := by
  unfold E3 at hi
  have hi0 := hi
  clear hi
  obtain ⟨_, _, rfl, hi1⟩ := Zad hi0
  obtain ⟨x0, rfl, hi2⟩ := Zfn hi1
  obtain ⟨_, _, rfl, hi3⟩ := Zad hi2
  obtain ⟨a3, n3, c3, e3, rfl, hi4⟩ := Zbo hi3
  obtain ⟨_, _, rfl, hi5⟩ := Zad hi4
  obtain ⟨a7, n7, c7, e7, rfl, hi6⟩ := Zbo hi5
  obtain ⟨_, _, rfl, hi7⟩ := Zad hi6
  obtain ⟨x8, rfl, hi8⟩ := Zas hi7
  obtain ⟨_, _, rfl, hi9⟩ := Zad hi8
  obtain ⟨x9, rfl, hi10⟩ := Zas hi9
  obtain ⟨rfl, hi11⟩ := Zbm hi10
  have hi := hi11
  exact ⟨x0, a3, n3, c3, e3, a7, n7, c7, e7, x8, x9, rfl, hi⟩
def K0 (Q : QT) : KT := andThen (fun env' h' => (match kp.find 4000008 with | some ks => Den pg fn.ntmps (C [1, 1, 1]) (env'.keep ks) h' (KR Q) | none => den pg fn.ntmps kp (C [1, 1, 1]) env' h' (KR Q))) (KR Q)
def K1 (Q : QT) : KT := Zda 0 (K0 Q)
def K2 (Q : QT) : KT := left kp 3 (K1 Q)
def K3 (Q : QT) (R3 : T3) : KT := rnd ((kp.find 1000003).getD []) (E3 R3) (K2 Q)
def L3 (Q : QT) (x0 : List Nat) (a3 : Pt) (n3 c3 : Nat) (e3 : Bool) (a7 : Pt) (n7 c7 : Nat) (e7 : Bool) (x8 x9 : Int) (h : Zaa) : Prop := Zes (Den pg fn.ntmps (C [1, 1, 0, 1, 0, 0])) ((kp.find 1000003).getD []) (K2 Q) [(0, .str x0), (3, .slice a3 n3 c3 e3), (7, .slice a7 n7 c7 e7), (8, .int .i64 x8), (9, .int .i64 x9)] h
def J7 (Q : QT) (R3 : T3) (x9 x8 : Int) (a7 : Pt) (n7 c7 : Nat) (e7 : Bool) (x0 : List Nat) (a3 : Pt) (n3 c3 : Nat) (e3 : Bool) (h : Zaa) : Prop := Den pg fn.ntmps (C [1, 1, 0, 1, 0, 0, 1, 1, 1]) [(9, .int .i64 x9), (8, .int .i64 x8), (7, .slice a7 n7 c7 e7), (0, .str x0), (3, .slice a3 n3 c3 e3)] h (K3 Q R3)
def Zrw (Q : QT) (a3 : Pt) (n3 c3 : Nat) (e3 : Bool) (h : Zaa) : Prop := At (K1 Q) (.exit 0) [(3, .slice a3 n3 c3 e3)] h
def L3t (Q : QT) (R3 : T3) (x0 : List Nat) (a3 : Pt) (n3 c3 : Nat) (e3 : Bool) (a7 : Pt) (n7 c7 : Nat) (e7 : Bool) (x8 x9 : Int) (h : Zaa) : Prop :=
 bcase (decide ((x9 : Int) < x8)) ((0 ≤ (x9 : Int) ∧ (x9 : Int) < (n7 : Nat)) ∧ (Zbu a7 fun I2 O3 => Zbs (Zai h (.ptr (some (I2, O3 + (Int.toNat x9) * 1)))) fun S4 => Zae pg Zee [.str x0, .str S4] h fun V5 H6 =>
 Zcv (some V5) fun B7 => bcase B7 (Zdw (H6 ++ [.cells Zdl [.str S4] false]) fun H8 => Zcy pg Zrx H8 (.slice a3 n3 c3 e3) (.slice (some (H6.length, 0)) 1 1 true) fun V9 H10 => xSl (some V9) fun A11 N12 C13 E14 => J7 Q R3 x9 x8 a7 n7 c7 e7 x0 A11 N12 C13 E14 H10) (J7 Q R3 x9 x8 a7 n7 c7 e7 x0 a3 n3 c3 e3 H6))) (Zrw Q a3 n3 c3 e3 h)
theorem Zob (Q : QT) (R3 : T3) (x0 : List Nat) (a3 : Pt) (n3 c3 : Nat) (e3 : Bool) (a7 : Pt) (n7 c7 : Nat) (e7 : Bool) (x8 x9 : Int) (h : Zaa) (ht : L3t Q R3 x0 a3 n3 c3 e3 a7 n7 c7 e7 x8 x9 h) : Den pg fn.ntmps (C [1, 1, 0, 1, 0, 0]) [(0, .str x0), (3, .slice a3 n3 c3 e3), (7, .slice a7 n7 c7 e7), (8, .int .i64 x8), (9, .int .i64 x9)] h (K3 Q R3) :=
  Zbh (kp := kp) (cast (by kernel_rfl) ht)
theorem L3ind (Q : QT) (x0 : List Nat) (a7 : Pt) (n7 c7 : Nat) (e7 : Bool) (x8 : Int) {G : Type} (J : G → Pt → Nat → Nat → Bool → Int → Zaa → Prop) (m : G → Nat)
 (hr : ∀ (g : G) (a3 : Pt) (n3 c3 : Nat) (e3 : Bool) (x9 : Int) (h : Zaa), J g a3 n3 c3 e3 x9 h → ∀ (R3 : T3), (∀ g' (a3 : Pt) (n3 c3 : Nat) (e3 : Bool) (x9 : Int) (h : Zaa), m g' < m g → J g' a3 n3 c3 e3 x9 h → R3 x0 a3 n3 c3 e3 a7 n7 c7 e7 x8 x9 h) → L3t Q R3 x0 a3 n3 c3 e3 a7 n7 c7 e7 x8 x9 h)
 (g : G) (a3 : Pt) (n3 c3 : Nat) (e3 : Bool) (x9 : Int) (h : Zaa) (hj : J g a3 n3 c3 e3 x9 h) : L3 Q x0 a3 n3 c3 e3 a7 n7 c7 e7 x8 x9 h := by
  refine Zes.inv2 (fun g => E3 fun x0' a3 n3 c3 e3 a7' n7' c7' e7' x8' x9 h => x0 = x0' ∧ a7 = a7' ∧ n7 = n7' ∧ c7 = c7' ∧ e7 = e7' ∧ x8 = x8' ∧ J g a3 n3 c3 e3 x9 h) (fun g => E3 fun x0' a3 n3 c3 e3 a7' n7' c7' e7' x8' x9 h => x0 = x0' ∧ a7 = a7' ∧ n7 = n7' ∧ c7 = c7' ∧ e7 = e7' ∧ x8 = x8' ∧ ∃ g', m g' < m g ∧ J g' a3 n3 c3 e3 x9 h) m ?_ ?_ g ⟨rfl, rfl, rfl, rfl, rfl, rfl, hj⟩
  · intro g env h hi
    obtain ⟨x0', a3, n3, c3, e3, a7', n7', c7', e7', x8', x9, rfl, rfl, rfl, rfl, rfl, rfl, rfl, hj⟩ := Zgq hi
    exact Zob Q _ x0 a3 n3 c3 e3 a7 n7 c7 e7 x8 x9 h (hr g a3 n3 c3 e3 x9 h hj (fun x0' a3 n3 c3 e3 a7' n7' c7' e7' x8' x9 h => x0 = x0' ∧ a7 = a7' ∧ n7 = n7' ∧ c7 = c7' ∧ e7 = e7' ∧ x8 = x8' ∧ ∃ g', m g' < m g ∧ J g' a3 n3 c3 e3 x9 h) fun g' a3 n3 c3 e3 x9 h hlt hj => ⟨rfl, rfl, rfl, rfl, rfl, rfl, g', hlt, hj⟩)
  · intro g env h hi
    obtain ⟨x0', a3, n3, c3, e3, a7', n7', c7', e7', x8', x9, rfl, rfl, rfl, rfl, rfl, rfl, rfl, g', hlt, hj⟩ := Zgq hi
    exact ⟨g', hlt, rfl, rfl, rfl, rfl, rfl, rfl, hj⟩
theorem J7i (Q : QT) (R3 : T3) (x9 x8 : Int) (a7 : Pt) (n7 c7 : Nat) (e7 : Bool) (x0 : List Nat) (a3 : Pt) (n3 c3 : Nat) (e3 : Bool) (h : Zaa) (ht :
 R3 x0 a3 n3 c3 e3 a7 n7 c7 e7 x8 (IntKind.wrap .i64 (x9 + 1)) h) : J7 Q R3 x9 x8 a7 n7 c7 e7 x0 a3 n3 c3 e3 h :=
  Zbh (kp := kp) (cast (by kernel_rfl) ht)
theorem A3x0i (Q : QT) (a3 : Pt) (n3 c3 : Nat) (e3 : Bool) (h : Zaa) (ht :
 Q (.slice a3 n3 c3 e3) h) : Zrw Q a3 n3 c3 e3 h :=
  At.mk (cast (by kernel_rfl) ht)
theorem call (x0 : List Nat) (h : Zaa) (Q : QT) (ht :
 Zdw (h ++ [.cells Zdl [] false]) fun H0 => Zdw (H0 ++ [.cells Zdl [.str [88], .str [89], .str [90], .str [120], .str [121], .str [122]] false]) fun H1 => L3 Q x0 (some (h.length, 0)) 0 0 true (some (H0.length, 0)) 6 6 true (((6 : Nat) : Int)) 0 H1) : Zae pg Znc [.str x0] h Q :=
  Zae.of_body kp (c := cod fn) (fn := fn) Go.Proofs.Try.func63 (by kernel_rfl) (by kernel_rfl) (Nat.le_of_ble_eq_true (by kernel_rfl))
    (cast (by kernel_rfl) ht)
end Zgm
end Go.Sim

set_option maxRecDepth 100000
set_option linter.unusedVariables false
namespace Go.Sim
open Go Go.RowKit
end Go.Sim

set_option maxRecDepth 100000
set_option linter.unusedVariables false
namespace Go.Sim
open Go Go.RowKit
end Go.Sim

set_option maxRecDepth 100000
set_option linter.unusedVariables false
namespace Go.Sim
open Go Go.RowKit
namespace Zel
noncomputable abbrev fn : Func := Go.Proofs.Try.f45
def kp : Zcg := [(3000002, [1]), (1000002, [0, 1, 5])]
noncomputable def C (p : List Nat) : Code := (cod fn).sub p
def KR (Q : QT) : KT := Zex pg fn.results.toList Q
abbrev T2 := Pt → Nat → Nat → Bool → Int → Int → Zaa → Prop
def E2 (R2 : T2) (env : Env) (h : Zaa) : Prop := Zcq 0 env fun v env => xSl (some v) fun a0 n0 c0 e0 => Zcq 1 env fun v env => Zfb .i64 v fun x1 => Zcq 5 env fun v env => Zfb .i64 v fun x5 => Zld env (R2 a0 n0 c0 e0 x1 x5 h)
theorem Zdd {R2 : T2} {env : Env} {h : Zaa} (hi : E2 R2 env h) : ∃ a0, ∃ n0, ∃ c0, ∃ e0, ∃ x1, ∃ x5, env = [(0, .slice a0 n0 c0 e0), (1, .int .i64 x1), (5, .int .i64 x5)] ∧ R2 a0 n0 c0 e0 x1 x5 h := by
  unfold E2 at hi
  have hi0 := hi
  clear hi
  obtain ⟨_, _, rfl, hi1⟩ := Zad hi0
  obtain ⟨a0, n0, c0, e0, rfl, hi2⟩ := Zbo hi1
  obtain ⟨_, _, rfl, hi3⟩ := Zad hi2
  obtain ⟨x1, rfl, hi4⟩ := Zas hi3
  obtain ⟨_, _, rfl, hi5⟩ := Zad hi4
  obtain ⟨x5, rfl, hi6⟩ := Zas hi5
  obtain ⟨rfl, hi7⟩ := Zbm hi6
  have hi := hi7
  exact ⟨a0, n0, c0, e0, x1, x5, rfl, hi⟩
def K0 (Q : QT) : KT := andThen (fun env' h' => (match kp.find 4000008 with | some ks => Den pg fn.ntmps (C [1, 1]) (env'.keep ks) h' (KR Q) | none => den pg fn.ntmps kp (C [1, 1]) env' h' (KR Q))) (KR Q)
def K1 (Q : QT) : KT := Zda 0 (K0 Q)
def K2 (Q : QT) : KT := left kp 2 (K1 Q)
def K3 (Q : QT) (R2 : T2) : KT := rnd ((kp.find 1000002).getD []) (E2 R2) (K2 Q)
def L2 (Q : QT) (a0 : Pt) (n0 c0 : Nat) (e0 : Bool) (x1 x5 : Int) (h : Zaa) : Prop := Zes (Den pg fn.ntmps (C [1, 0, 1, 0, 0])) ((kp.find 1000002).getD []) (K2 Q) [(0, .slice a0 n0 c0 e0), (1, .int .i64 x1), (5, .int .i64 x5)] h
def Zkd (Q : QT) (x1 : Int) (h : Zaa) : Prop := At (K1 Q) (.exit 0) [(1, .int .i64 x1)] h
def L2t (Q : QT) (R2 : T2) (a0 : Pt) (n0 c0 : Nat) (e0 : Bool) (x1 x5 : Int) (h : Zaa) : Prop :=
 bcase (decide ((x5 : Int) < (((n0 : Nat) : Int)))) (Zae pg Zce [.int .i64 x1] h fun V0 H1 =>
 Zbs (some V0) fun S2 => (0 ≤ (x5 : Int) ∧ (x5 : Int) < (n0 : Nat)) ∧ (Zbu a0 fun I3 O4 => Zcb (Zbc H1 (.ptr (some (I3, O4 + (Int.toNat x5) * 2 + 0))) [.str S2]) fun H5 => Zae pg Zce [.int .i64 (IntKind.wrap .i64 (x1 + 1))] H5 fun V6 H7 =>
 Zbs (some V6) fun S8 => (0 ≤ (x5 : Int) ∧ (x5 : Int) < (n0 : Nat)) ∧ (Zbu a0 fun I9 O10 => Zcb (Zbc H7 (.ptr (some (I9, O10 + (Int.toNat x5) * 2 + 1))) [.str S8]) fun H11 => R2 a0 n0 c0 e0 (IntKind.wrap .i64 ((IntKind.wrap .i64 (x1 + 1)) + 1)) (IntKind.wrap .i64 (x5 + 1)) H11))) (Zkd Q x1 h)
theorem Zhj (Q : QT) (R2 : T2) (a0 : Pt) (n0 c0 : Nat) (e0 : Bool) (x1 x5 : Int) (h : Zaa) (ht : L2t Q R2 a0 n0 c0 e0 x1 x5 h) : Den pg fn.ntmps (C [1, 0, 1, 0, 0]) [(0, .slice a0 n0 c0 e0), (1, .int .i64 x1), (5, .int .i64 x5)] h (K3 Q R2) :=
  Zbh (kp := kp) (cast (by kernel_rfl) ht)
theorem L2ind (Q : QT) (a0 : Pt) (n0 c0 : Nat) (e0 : Bool) {G : Type} (J : G → Int → Int → Zaa → Prop) (m : G → Nat)
 (hr : ∀ (g : G) (x1 x5 : Int) (h : Zaa), J g x1 x5 h → ∀ (R2 : T2), (∀ g' (x1 x5 : Int) (h : Zaa), m g' < m g → J g' x1 x5 h → R2 a0 n0 c0 e0 x1 x5 h) → L2t Q R2 a0 n0 c0 e0 x1 x5 h)
 (g : G) (x1 x5 : Int) (h : Zaa) (hj : J g x1 x5 h) : L2 Q a0 n0 c0 e0 x1 x5 h := by
  refine Zes.inv2 (fun g => E2 fun a0' n0' c0' e0' x1 x5 h => a0 = a0' ∧ n0 = n0' ∧ c0 = c0' ∧ e0 = e0' ∧ J g x1 x5 h) (fun g => E2 fun a0' n0' c0' e0' x1 x5 h => a0 = a0' ∧ n0 = n0' ∧ c0 = c0' ∧ e0 = e0' ∧ ∃ g', m g' < m g ∧ J g' x1 x5 h) m ?_ ?_ g ⟨rfl, rfl, rfl, rfl, hj⟩
  · intro g env h hi
    obtain ⟨a0', n0', c0', e0', x1, x5, rfl, rfl, rfl, rfl, rfl, hj⟩ := Zdd hi
    exact Zhj Q _ a0 n0 c0 e0 x1 x5 h (hr g x1 x5 h hj (fun a0' n0' c0' e0' x1 x5 h => a0 = a0' ∧ n0 = n0' ∧ c0 = c0' ∧ e0 = e0' ∧ ∃ g', m g' < m g ∧ J g' x1 x5 h) fun g' x1 x5 h hlt hj => ⟨rfl, rfl, rfl, rfl, g', hlt, hj⟩)
  · intro g env h hi
    obtain ⟨a0', n0', c0', e0', x1, x5, rfl, rfl, rfl, rfl, rfl, g', hlt, hj⟩ := Zdd hi
    exact ⟨g', hlt, rfl, rfl, rfl, rfl, hj⟩
theorem A2x0i (Q : QT) (x1 : Int) (h : Zaa) (ht :
 Q (.int .i64 x1) h) : Zkd Q x1 h :=
  At.mk (cast (by kernel_rfl) ht)
theorem call (a0 : Pt) (n0 c0 : Nat) (e0 : Bool) (x1 : Int) (h : Zaa) (Q : QT) (ht :
 L2 Q a0 n0 c0 e0 x1 0 h) : Zae pg Zho [.slice a0 n0 c0 e0, .int .i64 x1] h Q :=
  Zae.of_body kp (c := cod fn) (fn := fn) Go.Proofs.Try.func45 (by kernel_rfl) (by kernel_rfl) (Nat.le_of_ble_eq_true (by kernel_rfl))
    (cast (by kernel_rfl) ht)
end Zel
namespace Zek
noncomputable abbrev fn : Func := Go.Proofs.Try.f48
def kp : Zcg := [(3000002, [1, 4]), (1000002, [0, 1, 5]), (2000004, [19, 1, 0, 5]), (2000007, [29, 1, 5, 0])]
noncomputable def C (p : List Nat) : Code := (cod fn).sub p
def KR (Q : QT) : KT := Zex pg fn.results.toList Q
abbrev T2 := Pt → Nat → Nat → Bool → Int → Int → Zaa → Prop
def E2 (R2 : T2) (env : Env) (h : Zaa) : Prop := Zcq 0 env fun v env => xSl (some v) fun a0 n0 c0 e0 => Zcq 1 env fun v env => Zfb .i64 v fun x1 => Zcq 5 env fun v env => Zfb .i64 v fun x5 => Zld env (R2 a0 n0 c0 e0 x1 x5 h)
theorem Zdd {R2 : T2} {env : Env} {h : Zaa} (hi : E2 R2 env h) : ∃ a0, ∃ n0, ∃ c0, ∃ e0, ∃ x1, ∃ x5, env = [(0, .slice a0 n0 c0 e0), (1, .int .i64 x1), (5, .int .i64 x5)] ∧ R2 a0 n0 c0 e0 x1 x5 h := by
  unfold E2 at hi
  have hi0 := hi
  clear hi
  obtain ⟨_, _, rfl, hi1⟩ := Zad hi0
  obtain ⟨a0, n0, c0, e0, rfl, hi2⟩ := Zbo hi1
  obtain ⟨_, _, rfl, hi3⟩ := Zad hi2
  obtain ⟨x1, rfl, hi4⟩ := Zas hi3
  obtain ⟨_, _, rfl, hi5⟩ := Zad hi4
  obtain ⟨x5, rfl, hi6⟩ := Zas hi5
  obtain ⟨rfl, hi7⟩ := Zbm hi6
  have hi := hi7
  exact ⟨a0, n0, c0, e0, x1, x5, rfl, hi⟩
def K0 (Q : QT) : KT := andThen (fun env' h' => (match kp.find 4000010 with | some ks => Den pg fn.ntmps (C [1, 1]) (env'.keep ks) h' (KR Q) | none => den pg fn.ntmps kp (C [1, 1]) env' h' (KR Q))) (KR Q)
def K1 (Q : QT) : KT := Zda 0 (K0 Q)
def K2 (Q : QT) : KT := left kp 2 (K1 Q)
def K3 (Q : QT) (R2 : T2) : KT := rnd ((kp.find 1000002).getD []) (E2 R2) (K2 Q)
def L2 (Q : QT) (a0 : Pt) (n0 c0 : Nat) (e0 : Bool) (x1 x5 : Int) (h : Zaa) : Prop := Zes (Den pg fn.ntmps (C [1, 0, 1, 0, 0])) ((kp.find 1000002).getD []) (K2 Q) [(0, .slice a0 n0 c0 e0), (1, .int .i64 x1), (5, .int .i64 x5)] h
def Zkd (Q : QT) (x1 : Int) (h : Zaa) : Prop := At (K1 Q) (.exit 0) [(1, .int .i64 x1), (4, .undef)] h
def L2t (Q : QT) (R2 : T2) (a0 : Pt) (n0 c0 : Nat) (e0 : Bool) (x1 x5 : Int) (h : Zaa) : Prop :=
 bcase (decide ((x5 : Int) < (((n0 : Nat) : Int)))) ((0 ≤ (x5 : Int) ∧ (x5 : Int) < (n0 : Nat)) ∧ (Zbu a0 fun I0 O1 => Zbs (Zai h (.ptr (some (I0, O1 + (Int.toNat x5) * 2 + 0)))) fun S2 => Zae pg Zce [.int .i64 x1] h fun V3 H4 =>
 Zbs (some V3) fun S5 => (Zai H4 (.ptr (some (I0, O1 + (Int.toNat x5) * 2 + 0))) = Zai h (.ptr (some (I0, O1 + (Int.toNat x5) * 2 + 0)))) ∧ bcase (!(decide (S2 = S5))) (Q (.int .i64 (-1)) H4) ((0 ≤ (x5 : Int) ∧ (x5 : Int) < (n0 : Nat)) ∧ (Zbu a0 fun I6 O7 => Zbs (Zai H4 (.ptr (some (I6, O7 + (Int.toNat x5) * 2 + 1)))) fun S8 => Zae pg Zce [.int .i64 (IntKind.wrap .i64 (x1 + 1))] H4 fun V9 H10 =>
 Zbs (some V9) fun S11 => (Zai H10 (.ptr (some (I6, O7 + (Int.toNat x5) * 2 + 1))) = Zai H4 (.ptr (some (I6, O7 + (Int.toNat x5) * 2 + 1)))) ∧ bcase (!(decide (S8 = S11))) (Q (.int .i64 (-1)) H10) (R2 a0 n0 c0 e0 (IntKind.wrap .i64 ((IntKind.wrap .i64 (x1 + 1)) + 1)) (IntKind.wrap .i64 (x5 + 1)) H10))))) (Zkd Q x1 h)
theorem Zhj (Q : QT) (R2 : T2) (a0 : Pt) (n0 c0 : Nat) (e0 : Bool) (x1 x5 : Int) (h : Zaa) (ht : L2t Q R2 a0 n0 c0 e0 x1 x5 h) : Den pg fn.ntmps (C [1, 0, 1, 0, 0]) [(0, .slice a0 n0 c0 e0), (1, .int .i64 x1), (5, .int .i64 x5)] h (K3 Q R2) :=
  Zbh (kp := kp) (cast (by kernel_rfl) ht)
theorem L2ind (Q : QT) (a0 : Pt) (n0 c0 : Nat) (e0 : Bool) {G : Type} (J : G → Int → Int → Zaa → Prop) (m : G → Nat)
 (hr : ∀ (g : G) (x1 x5 : Int) (h : Zaa), J g x1 x5 h → ∀ (R2 : T2), (∀ g' (x1 x5 : Int) (h : Zaa), m g' < m g → J g' x1 x5 h → R2 a0 n0 c0 e0 x1 x5 h) → L2t Q R2 a0 n0 c0 e0 x1 x5 h)
 (g : G) (x1 x5 : Int) (h : Zaa) (hj : J g x1 x5 h) : L2 Q a0 n0 c0 e0 x1 x5 h := by
  refine Zes.inv2 (fun g => E2 fun a0' n0' c0' e0' x1 x5 h => a0 = a0' ∧ n0 = n0' ∧ c0 = c0' ∧ e0 = e0' ∧ J g x1 x5 h) (fun g => E2 fun a0' n0' c0' e0' x1 x5 h => a0 = a0' ∧ n0 = n0' ∧ c0 = c0' ∧ e0 = e0' ∧ ∃ g', m g' < m g ∧ J g' x1 x5 h) m ?_ ?_ g ⟨rfl, rfl, rfl, rfl, hj⟩
  · intro g env h hi
    obtain ⟨a0', n0', c0', e0', x1, x5, rfl, rfl, rfl, rfl, rfl, hj⟩ := Zdd hi
    exact Zhj Q _ a0 n0 c0 e0 x1 x5 h (hr g x1 x5 h hj (fun a0' n0' c0' e0' x1 x5 h => a0 = a0' ∧ n0 = n0' ∧ c0 = c0' ∧ e0 = e0' ∧ ∃ g', m g' < m g ∧ J g' x1 x5 h) fun g' x1 x5 h hlt hj => ⟨rfl, rfl, rfl, rfl, g', hlt, hj⟩)
  · intro g env h hi
    obtain ⟨a0', n0', c0', e0', x1, x5, rfl, rfl, rfl, rfl, rfl, g', hlt, hj⟩ := Zdd hi
    exact ⟨g', hlt, rfl, rfl, rfl, rfl, hj⟩
theorem A2x0i (Q : QT) (x1 : Int) (h : Zaa) (ht :
 Q (.int .i64 x1) h) : Zkd Q x1 h :=
  At.mk (cast (by kernel_rfl) ht)
theorem call (a0 : Pt) (n0 c0 : Nat) (e0 : Bool) (x1 : Int) (h : Zaa) (Q : QT) (ht :
 L2 Q a0 n0 c0 e0 x1 0 h) : Zae pg Zhn [.slice a0 n0 c0 e0, .int .i64 x1] h Q :=
  Zae.of_body kp (c := cod fn) (fn := fn) Go.Proofs.Try.func48 (by kernel_rfl) (by kernel_rfl) (Nat.le_of_ble_eq_true (by kernel_rfl))
    (cast (by kernel_rfl) ht)
end Zek
namespace Zci
noncomputable abbrev fn : Func := Go.Proofs.Try.f46
def kp : Zcg := [(3000002, [1]), (1000002, [0, 1, 5])]
noncomputable def C (p : List Nat) : Code := (cod fn).sub p
def KR (Q : QT) : KT := Zex pg fn.results.toList Q
abbrev T2 := Pt → Nat → Nat → Bool → Int → Int → Zaa → Prop
def E2 (R2 : T2) (env : Env) (h : Zaa) : Prop := Zcq 0 env fun v env => xSl (some v) fun a0 n0 c0 e0 => Zcq 1 env fun v env => Zfb .i64 v fun x1 => Zcq 5 env fun v env => Zfb .i64 v fun x5 => Zld env (R2 a0 n0 c0 e0 x1 x5 h)
theorem Zdd {R2 : T2} {env : Env} {h : Zaa} (hi : E2 R2 env h) : ∃ a0, ∃ n0, ∃ c0, ∃ e0, ∃ x1, ∃ x5, env = [(0, .slice a0 n0 c0 e0), (1, .int .i64 x1), (5, .int .i64 x5)] ∧ R2 a0 n0 c0 e0 x1 x5 h := by
  unfold E2 at hi
  have hi0 := hi
  clear hi
  obtain ⟨_, _, rfl, hi1⟩ := Zad hi0
  obtain ⟨a0, n0, c0, e0, rfl, hi2⟩ := Zbo hi1
  obtain ⟨_, _, rfl, hi3⟩ := Zad hi2
  obtain ⟨x1, rfl, hi4⟩ := Zas hi3
  obtain ⟨_, _, rfl, hi5⟩ := Zad hi4
  obtain ⟨x5, rfl, hi6⟩ := Zas hi5
  obtain ⟨rfl, hi7⟩ := Zbm hi6
  have hi := hi7
  exact ⟨a0, n0, c0, e0, x1, x5, rfl, hi⟩
def K0 (Q : QT) : KT := andThen (fun env' h' => (match kp.find 4000009 with | some ks => Den pg fn.ntmps (C [1, 1]) (env'.keep ks) h' (KR Q) | none => den pg fn.ntmps kp (C [1, 1]) env' h' (KR Q))) (KR Q)
def K1 (Q : QT) : KT := Zda 0 (K0 Q)
def K2 (Q : QT) : KT := left kp 2 (K1 Q)
def K3 (Q : QT) (R2 : T2) : KT := rnd ((kp.find 1000002).getD []) (E2 R2) (K2 Q)
def L2 (Q : QT) (a0 : Pt) (n0 c0 : Nat) (e0 : Bool) (x1 x5 : Int) (h : Zaa) : Prop := Zes (Den pg fn.ntmps (C [1, 0, 1, 0, 0])) ((kp.find 1000002).getD []) (K2 Q) [(0, .slice a0 n0 c0 e0), (1, .int .i64 x1), (5, .int .i64 x5)] h
def Zkd (Q : QT) (x1 : Int) (h : Zaa) : Prop := At (K1 Q) (.exit 0) [(1, .int .i64 x1)] h
def L2t (Q : QT) (R2 : T2) (a0 : Pt) (n0 c0 : Nat) (e0 : Bool) (x1 x5 : Int) (h : Zaa) : Prop :=
 bcase (decide ((x5 : Int) < (((n0 : Nat) : Int)))) (Zae pg Zce [.int .i64 x1] h fun V0 H1 =>
 Zbs (some V0) fun S2 => (0 ≤ (x5 : Int) ∧ (x5 : Int) < (n0 : Nat)) ∧ (Zbu a0 fun I3 O4 => Zcb (Zbc H1 (.ptr (some (I3, O4 + (Int.toNat x5) * 3 + 0 + 0))) [.str S2]) fun H5 => Zae pg Zce [.int .i64 (IntKind.wrap .i64 (x1 + 1))] H5 fun V6 H7 =>
 Zbs (some V6) fun S8 => (0 ≤ (x5 : Int) ∧ (x5 : Int) < (n0 : Nat)) ∧ (Zbu a0 fun I9 O10 => Zcb (Zbc H7 (.ptr (some (I9, O10 + (Int.toNat x5) * 3 + 0 + 1))) [.str S8]) fun H11 => (0 ≤ (x5 : Int) ∧ (x5 : Int) < (n0 : Nat)) ∧ (Zbu a0 fun I12 O13 => xSl (Zai H11 (.ptr (some (I12, O13 + (Int.toNat x5) * 3 + 2)))) fun A14 N15 C16 E17 => Zae pg Zif [.slice A14 N15 C16 E17, .int .i64 (IntKind.wrap .i64 ((IntKind.wrap .i64 (x1 + 1)) + 1))] H11 fun V18 H19 =>
 Zgn .i64 (some V18) fun X20 => R2 a0 n0 c0 e0 X20 (IntKind.wrap .i64 (x5 + 1)) H19)))) (Zkd Q x1 h)
theorem Zhj (Q : QT) (R2 : T2) (a0 : Pt) (n0 c0 : Nat) (e0 : Bool) (x1 x5 : Int) (h : Zaa) (ht : L2t Q R2 a0 n0 c0 e0 x1 x5 h) : Den pg fn.ntmps (C [1, 0, 1, 0, 0]) [(0, .slice a0 n0 c0 e0), (1, .int .i64 x1), (5, .int .i64 x5)] h (K3 Q R2) :=
  Zbh (kp := kp) (cast (by kernel_rfl) ht)
theorem L2ind (Q : QT) (a0 : Pt) (n0 c0 : Nat) (e0 : Bool) {G : Type} (J : G → Int → Int → Zaa → Prop) (m : G → Nat)
 (hr : ∀ (g : G) (x1 x5 : Int) (h : Zaa), J g x1 x5 h → ∀ (R2 : T2), (∀ g' (x1 x5 : Int) (h : Zaa), m g' < m g → J g' x1 x5 h → R2 a0 n0 c0 e0 x1 x5 h) → L2t Q R2 a0 n0 c0 e0 x1 x5 h)
 (g : G) (x1 x5 : Int) (h : Zaa) (hj : J g x1 x5 h) : L2 Q a0 n0 c0 e0 x1 x5 h := by
  refine Zes.inv2 (fun g => E2 fun a0' n0' c0' e0' x1 x5 h => a0 = a0' ∧ n0 = n0' ∧ c0 = c0' ∧ e0 = e0' ∧ J g x1 x5 h) (fun g => E2 fun a0' n0' c0' e0' x1 x5 h => a0 = a0' ∧ n0 = n0' ∧ c0 = c0' ∧ e0 = e0' ∧ ∃ g', m g' < m g ∧ J g' x1 x5 h) m ?_ ?_ g ⟨rfl, rfl, rfl, rfl, hj⟩
  · intro g env h hi
    obtain ⟨a0', n0', c0', e0', x1, x5, rfl, rfl, rfl, rfl, rfl, hj⟩ := Zdd hi
    exact Zhj Q _ a0 n0 c0 e0 x1 x5 h (hr g x1 x5 h hj (fun a0' n0' c0' e0' x1 x5 h => a0 = a0' ∧ n0 = n0' ∧ c0 = c0' ∧ e0 = e0' ∧ ∃ g', m g' < m g ∧ J g' x1 x5 h) fun g' x1 x5 h hlt hj => ⟨rfl, rfl, rfl, rfl, g', hlt, hj⟩)
  · intro g env h hi
    obtain ⟨a0', n0', c0', e0', x1, x5, rfl, rfl, rfl, rfl, rfl, g', hlt, hj⟩ := Zdd hi
    exact ⟨g', hlt, rfl, rfl, rfl, rfl, hj⟩
theorem A2x0i (Q : QT) (x1 : Int) (h : Zaa) (ht :
 Q (.int .i64 x1) h) : Zkd Q x1 h :=
  At.mk (cast (by kernel_rfl) ht)
theorem call (a0 : Pt) (n0 c0 : Nat) (e0 : Bool) (x1 : Int) (h : Zaa) (Q : QT) (ht :
 L2 Q a0 n0 c0 e0 x1 0 h) : Zae pg Zeh [.slice a0 n0 c0 e0, .int .i64 x1] h Q :=
  Zae.of_body kp (c := cod fn) (fn := fn) Go.Proofs.Try.func46 (by kernel_rfl) (by kernel_rfl) (Nat.le_of_ble_eq_true (by kernel_rfl))
    (cast (by kernel_rfl) ht)
end Zci
namespace Zie
noncomputable abbrev fn : Func := Go.Proofs.Try.f14
def kp : Zcg := []
noncomputable def C (p : List Nat) : Code := (cod fn).sub p
def KR (Q : QT) : KT := Zex pg fn.results.toList Q
theorem call (a0x0 : Pt) (n0x0 c0x0 : Nat) (e0x0 : Bool) (a0x1 : Pt) (n0x1 c0x1 : Nat) (e0x1 : Bool) (x1 : Int) (h : Zaa) (Q : QT) (ht :
 Zdw (h ++ [.cells Zac [.slice a0x0 n0x0 c0x0 e0x0, .slice a0x1 n0x1 c0x1 e0x1] false]) fun H0 => xSl (Zai H0 (.ptr (some (h.length, 0 + 0)))) fun A1 N2 C3 E4 => Zae pg Zho [.slice A1 N2 C3 E4, .int .i64 x1] H0 fun V5 H6 =>
 Zgn .i64 (some V5) fun X7 => xSl (Zai H6 (.ptr (some (h.length, 0 + 1)))) fun A8 N9 C10 E11 => Zae pg Zeh [.slice A8 N9 C10 E11, .int .i64 X7] H6 fun V12 H13 =>
 Zgn .i64 (some V12) fun X14 => Q (.int .i64 X14) H13) : Zae pg Zev [.agg [.slice a0x0 n0x0 c0x0 e0x0, .slice a0x1 n0x1 c0x1 e0x1], .int .i64 x1] h Q :=
  Zae.of_body kp (c := cod fn) (fn := fn) Go.Proofs.Try.func14 (by kernel_rfl) (by kernel_rfl) (Nat.le_of_ble_eq_true (by kernel_rfl))
    (cast (by kernel_rfl) ht)
end Zie
end Go.Sim

set_option maxRecDepth 100000
set_option linter.unusedVariables false
namespace Go.Sim
open Go Go.RowKit
namespace Zhx
noncomputable abbrev fn : Func := Go.Proofs.Try.f66
def kp : Zcg := []
noncomputable def C (p : List Nat) : Code := (cod fn).sub p
def KR (Q : QT) : KT := Zex pg fn.results.toList Q
theorem call (x0x0 x0x1 : List Nat) (a0x2 : Pt) (n0x2 c0x2 : Nat) (e0x2 : Bool) (h : Zaa) (Q : QT) (ht :
 Zdw (h ++ [.cells Zab [.str x0x0, .str x0x1, .slice a0x2 n0x2 c0x2 e0x2] false]) fun H0 => Zdw (H0 ++ [.cells Zab [.str [], .str [], .slice none 0 0 true] false]) fun H1 => Zdw (H1 ++ [.cells Zao [] false]) fun H2 => xSl (Zai H2 (.ptr (some (h.length, 0 + 2)))) fun A3 N4 C5 E6 => Zcy pg Zkr H2 (.slice (some (H1.length, 0)) 0 0 true) (.slice A3 N4 C5 E6) fun V7 H8 => xSl (some V7) fun A9 N10 C11 E12 => Zcb (Zbc H8 (.ptr (some (h.length, 0 + 2))) [.slice A9 N10 C11 E12]) fun H13 => Zdg (Zbw H13 (.ptr (some (h.length, 0))) 3) fun K14 => Zak K14 fun C15 Z16 => Zbs (some C15) fun S17 => Zak Z16 fun C18 Z19 => Zbs (some C18) fun S20 => Zak Z19 fun C21 Z22 => xSl (some C21) fun A23 N24 C25 E26 => Zct Z22 (Zcb (Zbc H13 (.ptr (some (H0.length, 0))) [.str S17, .str S20, .slice A23 N24 C25 E26]) fun H27 => Zdg (Zbw H27 (.ptr (some (H0.length, 0))) 3) fun K28 => Zak K28 fun C29 Z30 => Zbs (some C29) fun S31 => Zak Z30 fun C32 Z33 => Zbs (some C32) fun S34 => Zak Z33 fun C35 Z36 => xSl (some C35) fun A37 N38 C39 E40 => Zct Z36 (Q (.agg [.str S31, .str S34, .slice A37 N38 C39 E40]) H27))) : Zae pg Zfp [.agg [.str x0x0, .str x0x1, .slice a0x2 n0x2 c0x2 e0x2]] h Q :=
  Zae.of_body kp (c := cod fn) (fn := fn) Go.Proofs.Try.func66 (by kernel_rfl) (by kernel_rfl) (Nat.le_of_ble_eq_true (by kernel_rfl))
    (cast (by kernel_rfl) ht)
end Zhx
namespace Zcw
noncomputable abbrev fn : Func := Go.Proofs.Try.f68
def kp : Zcg := [(3000003, [3]), (1000003, [3, 7, 8, 9])]
noncomputable def C (p : List Nat) : Code := (cod fn).sub p
def KR (Q : QT) : KT := Zex pg fn.results.toList Q
abbrev T3 := Pt → Nat → Nat → Bool → Pt → Nat → Nat → Bool → Int → Int → Zaa → Prop
def E3 (R3 : T3) (env : Env) (h : Zaa) : Prop := Zcq 3 env fun v env => xSl (some v) fun a3 n3 c3 e3 => Zcq 7 env fun v env => xSl (some v) fun a7 n7 c7 e7 => Zcq 8 env fun v env => Zfb .i64 v fun x8 => Zcq 9 env fun v env => Zfb .i64 v fun x9 => Zld env (R3 a3 n3 c3 e3 a7 n7 c7 e7 x8 x9 h)
theorem Zgq {R3 : T3} {env : Env} {h : Zaa} (hi : E3 R3 env h) : ∃ a3, ∃ n3, ∃ c3, ∃ e3, ∃ a7, ∃ n7, ∃ c7, ∃ e7, ∃ x8, ∃ x9, env = [(3, .slice a3 n3 c3 e3), (7, .slice a7 n7 c7 e7), (8, .int .i64 x8), (9, .int .i64 x9)] ∧ R3 a3 n3 c3 e3 a7 n7 c7 e7 x8 x9 h := by
  unfold E3 at hi
  have hi0 := hi
  clear hi
  obtain ⟨_, _, rfl, hi1⟩ := Zad hi0
  obtain ⟨a3, n3, c3, e3, rfl, hi2⟩ := Zbo hi1
  obtain ⟨_, _, rfl, hi3⟩ := Zad hi2
  obtain ⟨a7, n7, c7, e7, rfl, hi4⟩ := Zbo hi3
  obtain ⟨_, _, rfl, hi5⟩ := Zad hi4
  obtain ⟨x8, rfl, hi6⟩ := Zas hi5
  obtain ⟨_, _, rfl, hi7⟩ := Zad hi6
  obtain ⟨x9, rfl, hi8⟩ := Zas hi7
  obtain ⟨rfl, hi9⟩ := Zbm hi8
  have hi := hi9
  exact ⟨a3, n3, c3, e3, a7, n7, c7, e7, x8, x9, rfl, hi⟩
def K0 (Q : QT) : KT := andThen (fun env' h' => (match kp.find 4000007 with | some ks => Den pg fn.ntmps (C [1, 1, 1]) (env'.keep ks) h' (KR Q) | none => den pg fn.ntmps kp (C [1, 1, 1]) env' h' (KR Q))) (KR Q)
def K1 (Q : QT) : KT := Zda 0 (K0 Q)
def K2 (Q : QT) : KT := left kp 3 (K1 Q)
def K3 (Q : QT) (R3 : T3) : KT := rnd ((kp.find 1000003).getD []) (E3 R3) (K2 Q)
def L3 (Q : QT) (a3 : Pt) (n3 c3 : Nat) (e3 : Bool) (a7 : Pt) (n7 c7 : Nat) (e7 : Bool) (x8 x9 : Int) (h : Zaa) : Prop := Zes (Den pg fn.ntmps (C [1, 1, 0, 1, 0, 0])) ((kp.find 1000003).getD []) (K2 Q) [(3, .slice a3 n3 c3 e3), (7, .slice a7 n7 c7 e7), (8, .int .i64 x8), (9, .int .i64 x9)] h
def Zrw (Q : QT) (a3 : Pt) (n3 c3 : Nat) (e3 : Bool) (h : Zaa) : Prop := At (K1 Q) (.exit 0) [(3, .slice a3 n3 c3 e3)] h
def L3t (Q : QT) (R3 : T3) (a3 : Pt) (n3 c3 : Nat) (e3 : Bool) (a7 : Pt) (n7 c7 : Nat) (e7 : Bool) (x8 x9 : Int) (h : Zaa) : Prop :=
 bcase (decide ((x9 : Int) < x8)) ((0 ≤ (x9 : Int) ∧ (x9 : Int) < (n7 : Nat)) ∧ (Zbu a7 fun I1 O2 => Zdg (Zbw h (.ptr (some (I1, O2 + (Int.toNat x9) * 3))) 3) fun K3 => Zak K3 fun C4 Z5 => Zbs (some C4) fun S6 => Zak Z5 fun C7 Z8 => Zbs (some C7) fun S9 => Zak Z8 fun C10 Z11 => xSl (some C10) fun A12 N13 C14 E15 => Zct Z11 (Zdw (h ++ [.cells Zab [.str [], .str [], .slice none 0 0 true] false]) fun H16 => Zcb (Zbc H16 (.ptr (some (h.length, 0))) [.str S6, .str S9, .slice A12 N13 C14 E15]) fun H17 => Zdg (Zbw H17 (.ptr (some (h.length, 0))) 3) fun K18 => Zak K18 fun C19 Z20 => Zbs (some C19) fun S21 => Zak Z20 fun C22 Z23 => Zbs (some C22) fun S24 => Zak Z23 fun C25 Z26 => xSl (some C25) fun A27 N28 C29 E30 => Zct Z26 (Zae pg Zfp [.agg [.str S21, .str S24, .slice A27 N28 C29 E30]] H17 fun V31 H32 =>
 Zoc V31 fun K33 => Zak K33 fun C34 Z35 => Zbs (some C34) fun S36 => Zak Z35 fun C37 Z38 => Zbs (some C37) fun S39 => Zak Z38 fun C40 Z41 => xSl (some C40) fun A42 N43 C44 E45 => Zct Z41 (Zdw (H32 ++ [.cells Zab [.str S36, .str S39, .slice A42 N43 C44 E45] false]) fun H46 => Zcy pg Zca H46 (.slice a3 n3 c3 e3) (.slice (some (H32.length, 0)) 1 1 true) fun V47 H48 => xSl (some V47) fun A49 N50 C51 E52 => R3 A49 N50 C51 E52 a7 n7 c7 e7 x8 (IntKind.wrap .i64 (x9 + 1)) H48))))) (Zrw Q a3 n3 c3 e3 h)
theorem Zob (Q : QT) (R3 : T3) (a3 : Pt) (n3 c3 : Nat) (e3 : Bool) (a7 : Pt) (n7 c7 : Nat) (e7 : Bool) (x8 x9 : Int) (h : Zaa) (ht : L3t Q R3 a3 n3 c3 e3 a7 n7 c7 e7 x8 x9 h) : Den pg fn.ntmps (C [1, 1, 0, 1, 0, 0]) [(3, .slice a3 n3 c3 e3), (7, .slice a7 n7 c7 e7), (8, .int .i64 x8), (9, .int .i64 x9)] h (K3 Q R3) :=
  Zbh (kp := kp) (cast (by kernel_rfl) ht)
theorem L3ind (Q : QT) (a7 : Pt) (n7 c7 : Nat) (e7 : Bool) (x8 : Int) {G : Type} (J : G → Pt → Nat → Nat → Bool → Int → Zaa → Prop) (m : G → Nat)
 (hr : ∀ (g : G) (a3 : Pt) (n3 c3 : Nat) (e3 : Bool) (x9 : Int) (h : Zaa), J g a3 n3 c3 e3 x9 h → ∀ (R3 : T3), (∀ g' (a3 : Pt) (n3 c3 : Nat) (e3 : Bool) (x9 : Int) (h : Zaa), m g' < m g → J g' a3 n3 c3 e3 x9 h → R3 a3 n3 c3 e3 a7 n7 c7 e7 x8 x9 h) → L3t Q R3 a3 n3 c3 e3 a7 n7 c7 e7 x8 x9 h)
 (g : G) (a3 : Pt) (n3 c3 : Nat) (e3 : Bool) (x9 : Int) (h : Zaa) (hj : J g a3 n3 c3 e3 x9 h) : L3 Q a3 n3 c3 e3 a7 n7 c7 e7 x8 x9 h := by
  refine Zes.inv2 (fun g => E3 fun a3 n3 c3 e3 a7' n7' c7' e7' x8' x9 h => a7 = a7' ∧ n7 = n7' ∧ c7 = c7' ∧ e7 = e7' ∧ x8 = x8' ∧ J g a3 n3 c3 e3 x9 h) (fun g => E3 fun a3 n3 c3 e3 a7' n7' c7' e7' x8' x9 h => a7 = a7' ∧ n7 = n7' ∧ c7 = c7' ∧ e7 = e7' ∧ x8 = x8' ∧ ∃ g', m g' < m g ∧ J g' a3 n3 c3 e3 x9 h) m ?_ ?_ g ⟨rfl, rfl, rfl, rfl, rfl, hj⟩
  · intro g env h hi
    obtain ⟨a3, n3, c3, e3, a7', n7', c7', e7', x8', x9, rfl, rfl, rfl, rfl, rfl, rfl, hj⟩ := Zgq hi
    exact Zob Q _ a3 n3 c3 e3 a7 n7 c7 e7 x8 x9 h (hr g a3 n3 c3 e3 x9 h hj (fun a3 n3 c3 e3 a7' n7' c7' e7' x8' x9 h => a7 = a7' ∧ n7 = n7' ∧ c7 = c7' ∧ e7 = e7' ∧ x8 = x8' ∧ ∃ g', m g' < m g ∧ J g' a3 n3 c3 e3 x9 h) fun g' a3 n3 c3 e3 x9 h hlt hj => ⟨rfl, rfl, rfl, rfl, rfl, g', hlt, hj⟩)
  · intro g env h hi
    obtain ⟨a3, n3, c3, e3, a7', n7', c7', e7', x8', x9, rfl, rfl, rfl, rfl, rfl, rfl, g', hlt, hj⟩ := Zgq hi
    exact ⟨g', hlt, rfl, rfl, rfl, rfl, rfl, hj⟩
theorem A3x0i (Q : QT) (a3 : Pt) (n3 c3 : Nat) (e3 : Bool) (h : Zaa) (ht :
 Q (.slice a3 n3 c3 e3) h) : Zrw Q a3 n3 c3 e3 h :=
  At.mk (cast (by kernel_rfl) ht)
theorem call (a0 : Pt) (n0 c0 : Nat) (e0 : Bool) (h : Zaa) (Q : QT) (ht :
 Zdw (h ++ [.cells Zab [] false]) fun H0 => L3 Q (some (h.length, 0)) 0 0 true a0 n0 c0 e0 (((n0 : Nat) : Int)) 0 H0) : Zae pg Zeg [.slice a0 n0 c0 e0] h Q :=
  Zae.of_body kp (c := cod fn) (fn := fn) Go.Proofs.Try.func68 (by kernel_rfl) (by kernel_rfl) (Nat.le_of_ble_eq_true (by kernel_rfl))
    (cast (by kernel_rfl) ht)
end Zcw
namespace Zjk
noncomputable abbrev fn : Func := Go.Proofs.Try.f33
def kp : Zcg := []
noncomputable def C (p : List Nat) : Code := (cod fn).sub p
def KR (Q : QT) : KT := Zex pg fn.results.toList Q
theorem call (a0x0 : Pt) (n0x0 c0x0 : Nat) (e0x0 : Bool) (a0x1 : Pt) (n0x1 c0x1 : Nat) (e0x1 : Bool) (h : Zaa) (Q : QT) (ht :
 Zdw (h ++ [.cells Zac [.slice a0x0 n0x0 c0x0 e0x0, .slice a0x1 n0x1 c0x1 e0x1] false]) fun H0 => Zdw (H0 ++ [.cells Zac [.slice none 0 0 true, .slice none 0 0 true] false]) fun H1 => Zdw (H1 ++ [.cells Zan [] false]) fun H2 => xSl (Zai H2 (.ptr (some (h.length, 0 + 0)))) fun A3 N4 C5 E6 => Zcy pg Zhw H2 (.slice (some (H1.length, 0)) 0 0 true) (.slice A3 N4 C5 E6) fun V7 H8 => xSl (some V7) fun A9 N10 C11 E12 => Zcb (Zbc H8 (.ptr (some (h.length, 0 + 0))) [.slice A9 N10 C11 E12]) fun H13 => xSl (Zai H13 (.ptr (some (h.length, 0 + 1)))) fun A14 N15 C16 E17 => Zae pg Zeg [.slice A14 N15 C16 E17] H13 fun V18 H19 =>
 xSl (some V18) fun A20 N21 C22 E23 => Zcb (Zbc H19 (.ptr (some (h.length, 0 + 1))) [.slice A20 N21 C22 E23]) fun H24 => Zdg (Zbw H24 (.ptr (some (h.length, 0))) 2) fun K25 => Zak K25 fun C26 Z27 => xSl (some C26) fun A28 N29 C30 E31 => Zak Z27 fun C32 Z33 => xSl (some C32) fun A34 N35 C36 E37 => Zct Z33 (Zcb (Zbc H24 (.ptr (some (H0.length, 0))) [.slice A28 N29 C30 E31, .slice A34 N35 C36 E37]) fun H38 => Zdg (Zbw H38 (.ptr (some (H0.length, 0))) 2) fun K39 => Zak K39 fun C40 Z41 => xSl (some C40) fun A42 N43 C44 E45 => Zak Z41 fun C46 Z47 => xSl (some C46) fun A48 N49 C50 E51 => Zct Z47 (Q (.agg [.slice A42 N43 C44 E45, .slice A48 N49 C50 E51]) H38))) : Zae pg Zfh [.agg [.slice a0x0 n0x0 c0x0 e0x0, .slice a0x1 n0x1 c0x1 e0x1]] h Q :=
  Zae.of_body kp (c := cod fn) (fn := fn) Go.Proofs.Try.func33 (by kernel_rfl) (by kernel_rfl) (Nat.le_of_ble_eq_true (by kernel_rfl))
    (cast (by kernel_rfl) ht)
end Zjk
end Go.Sim
