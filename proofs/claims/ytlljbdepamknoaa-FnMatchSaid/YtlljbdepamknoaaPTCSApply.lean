/- A part of the proof of a statement of this seat: see the text that holds the theorem. No condition. -/
import Derived.Test.YtlljbdepamknoaaNm
set_option linter.unusedVariables false
set_option linter.unusedSimpArgs false
set_option linter.all false
set_option maxRecDepth 100000
set_option linter.unusedVariables false
namespace Go.Sim
open Go Go.RowKit
namespace Zbz
noncomputable abbrev fn : Func := Go.Proofs.Try.f55
def kp : Zcv := [(4000006, [2, 0, 7]), (2000008, [48, 0, 1, 2]), (3000011, [6]), (1000011, [1, 2, 52, 53, 54])]
noncomputable def C (p : List Nat) : Code := (cod fn).sub p
def KR (Q : QT) : KT := Zic pg fn.results.toList Q
abbrev T11 := Pt → Option Nat → Pt → Nat → Nat → Bool → Int → Int → Zaa → Prop
def E11 (R11 : T11) (env : Env) (h : Zaa) : Prop := Zcu 1 env fun v env => Zid (some v) fun a1 => Zcu 2 env fun v env => Zwr (some v) fun m2 => Zcu 52 env fun v env => xSl (some v) fun a52 n52 c52 e52 => Zcu 53 env fun v env => Zhr .i64 v fun x53 => Zcu 54 env fun v env => Zhr .i64 v fun x54 => Znt env (R11 a1 m2 a52 n52 c52 e52 x53 x54 h)
theorem Zlx {R11 : T11} {env : Env} {h : Zaa} (hi : E11 R11 env h) : ∃ a1, ∃ m2, ∃ a52, ∃ n52, ∃ c52, ∃ e52, ∃ x53, ∃ x54, env = [(1, .ptr a1), (2, .map m2), (52, .slice a52 n52 c52 e52), (53, .int .i64 x53), (54, .int .i64 x54)] ∧ R11 a1 m2 a52 n52 c52 e52 x53 x54 h := by
  unfold E11 at hi
  have hi0 := hi
  clear hi
  obtain ⟨_, _, rfl, hi1⟩ := Zad hi0
  obtain ⟨a1, rfl, hi2⟩ := Zby hi1
  obtain ⟨_, _, rfl, hi3⟩ := Zad hi2
  obtain ⟨m2, rfl, hi4⟩ := Zpm hi3
  obtain ⟨_, _, rfl, hi5⟩ := Zad hi4
  obtain ⟨a52, n52, c52, e52, rfl, hi6⟩ := Zci hi5
  obtain ⟨_, _, rfl, hi7⟩ := Zad hi6
  obtain ⟨x53, rfl, hi8⟩ := Zav hi7
  obtain ⟨_, _, rfl, hi9⟩ := Zad hi8
  obtain ⟨x54, rfl, hi10⟩ := Zav hi9
  obtain ⟨rfl, hi11⟩ := Zbx hi10
  have hi := hi11
  exact ⟨a1, m2, a52, n52, c52, e52, x53, x54, rfl, hi⟩
def K0 (Q : QT) : KT := andThen (fun env' h' => (match kp.find 4000008 with | some ks => Den pg fn.ntmps (C [1, 1]) (env'.keep ks) h' (KR Q) | none => den pg fn.ntmps kp (C [1, 1]) env' h' (KR Q))) (KR Q)
def K1 (Q : QT) : KT := andThen (fun env' h' => (match kp.find 4000016 with | some ks => Den pg fn.ntmps (C [1, 1, 1, 1]) (env'.keep ks) h' (KR Q) | none => den pg fn.ntmps kp (C [1, 1, 1, 1]) env' h' (KR Q))) (KR Q)
def K2 (Q : QT) : KT := Zdp 0 (K1 Q)
def K3 (Q : QT) : KT := left kp 11 (K2 Q)
def K4 (Q : QT) (R11 : T11) : KT := rnd ((kp.find 1000011).getD []) (E11 R11) (K3 Q)
def J6 (Q : QT) (m2 : Option Nat) (a0 : Pt) (x7 : List Nat) (h : Zaa) : Prop := Den pg fn.ntmps (C [1, 0, 1, 0, 1, 1]) [(2, .map m2), (0, .ptr a0), (7, .str x7)] h (K0 Q)
def L11 (Q : QT) (a1 : Pt) (m2 : Option Nat) (a52 : Pt) (n52 c52 : Nat) (e52 : Bool) (x53 x54 : Int) (h : Zaa) : Prop := Zgw (Den pg fn.ntmps (C [1, 1, 1, 0, 1, 0, 0])) ((kp.find 1000011).getD []) (K3 Q) [(1, .ptr a1), (2, .map m2), (52, .slice a52 n52 c52 e52), (53, .int .i64 x53), (54, .int .i64 x54)] h
def Zvy (Q : QT) (h : Zaa) : Prop := At (K2 Q) (.exit 0) [(6, .undef)] h
theorem J6i (Q : QT) (m2 : Option Nat) (a0 : Pt) (x7 : List Nat) (h : Zaa) (ht :
 Zbb a0 fun I28 O29 => Zct (Zak h (.ptr (some (I28, O29 + 0)))) fun S30 => xMp m2 fun I31 => Zdu h (some I31) fun es_32 k_33 => Zyq es_32 k_33 S30 (.str x7) fun es_34 k_35 => Zev (List.set h I31 (.map es_34 k_35)) fun H36 => Q (.bool true) H36) : J6 Q m2 a0 x7 h :=
  Zbe (kp := kp) (cast (by kernel_rfl) ht)
def L11t (Q : QT) (R11 : T11) (a1 : Pt) (m2 : Option Nat) (a52 : Pt) (n52 c52 : Nat) (e52 : Bool) (x53 x54 : Int) (h : Zaa) : Prop :=
 bcase (decide ((x54 : Int) < x53)) ((0 ≤ (x54 : Int) ∧ (x54 : Int) < (n52 : Nat)) ∧ (Zbb a52 fun I37 O38 => Zid (Zak h (.ptr (some (I37, O38 + (Int.toNat x54) * 1)))) fun A39 => Zbb a1 fun I40 O41 => xSl (Zak h (.ptr (some (I40, O41 + 1)))) fun A42 N43 C44 E45 => (0 ≤ (x54 : Int) ∧ (x54 : Int) < (N43 : Nat)) ∧ (Zbb A42 fun I46 O47 => Zid (Zak h (.ptr (some (I46, O47 + (Int.toNat x54) * 1)))) fun A48 => Zae pg Zdw [.ptr A39, .ptr A48, .map m2] h fun V49 H50 =>
 Zcg (some V49) fun B51 => bcase (!B51) (Q (.bool false) H50) (R11 a1 m2 a52 n52 c52 e52 x53 (IntKind.wrap .i64 (x54 + 1)) H50)))) (Zvy Q h)
theorem Zxg (Q : QT) (R11 : T11) (a1 : Pt) (m2 : Option Nat) (a52 : Pt) (n52 c52 : Nat) (e52 : Bool) (x53 x54 : Int) (h : Zaa) (ht : L11t Q R11 a1 m2 a52 n52 c52 e52 x53 x54 h) : Den pg fn.ntmps (C [1, 1, 1, 0, 1, 0, 0]) [(1, .ptr a1), (2, .map m2), (52, .slice a52 n52 c52 e52), (53, .int .i64 x53), (54, .int .i64 x54)] h (K4 Q R11) :=
  Zbe (kp := kp) (cast (by kernel_rfl) ht)
theorem L11ind (Q : QT) (a1 : Pt) (m2 : Option Nat) (a52 : Pt) (n52 c52 : Nat) (e52 : Bool) (x53 : Int) {G : Type} (J : G → Int → Zaa → Prop) (m : G → Nat)
 (hr : ∀ (g : G) (x54 : Int) (h : Zaa), J g x54 h → ∀ (R11 : T11), (∀ g' (x54 : Int) (h : Zaa), m g' < m g → J g' x54 h → R11 a1 m2 a52 n52 c52 e52 x53 x54 h) → L11t Q R11 a1 m2 a52 n52 c52 e52 x53 x54 h)
 (g : G) (x54 : Int) (h : Zaa) (hj : J g x54 h) : L11 Q a1 m2 a52 n52 c52 e52 x53 x54 h := by
  refine Zgw.inv2 (fun g => E11 fun a1' m2' a52' n52' c52' e52' x53' x54 h => a1 = a1' ∧ m2 = m2' ∧ a52 = a52' ∧ n52 = n52' ∧ c52 = c52' ∧ e52 = e52' ∧ x53 = x53' ∧ J g x54 h) (fun g => E11 fun a1' m2' a52' n52' c52' e52' x53' x54 h => a1 = a1' ∧ m2 = m2' ∧ a52 = a52' ∧ n52 = n52' ∧ c52 = c52' ∧ e52 = e52' ∧ x53 = x53' ∧ ∃ g', m g' < m g ∧ J g' x54 h) m ?_ ?_ g ⟨rfl, rfl, rfl, rfl, rfl, rfl, rfl, hj⟩
  · intro g env h hi
    obtain ⟨a1', m2', a52', n52', c52', e52', x53', x54, rfl, rfl, rfl, rfl, rfl, rfl, rfl, rfl, hj⟩ := Zlx hi
    exact Zxg Q _ a1 m2 a52 n52 c52 e52 x53 x54 h (hr g x54 h hj (fun a1' m2' a52' n52' c52' e52' x53' x54 h => a1 = a1' ∧ m2 = m2' ∧ a52 = a52' ∧ n52 = n52' ∧ c52 = c52' ∧ e52 = e52' ∧ x53 = x53' ∧ ∃ g', m g' < m g ∧ J g' x54 h) fun g' x54 h hlt hj => ⟨rfl, rfl, rfl, rfl, rfl, rfl, rfl, g', hlt, hj⟩)
  · intro g env h hi
    obtain ⟨a1', m2', a52', n52', c52', e52', x53', x54, rfl, rfl, rfl, rfl, rfl, rfl, rfl, rfl, g', hlt, hj⟩ := Zlx hi
    exact ⟨g', hlt, rfl, rfl, rfl, rfl, rfl, rfl, rfl, hj⟩
theorem A11x0i (Q : QT) (h : Zaa) (ht :
 Q (.bool true) h) : Zvy Q h :=
  At.mk (cast (by kernel_rfl) ht)
theorem call (a0 a1 : Pt) (m2 : Option Nat) (h : Zaa) (Q : QT) (ht :
 Zbb a0 fun I0 O1 => Zct (Zak h (.ptr (some (I0, O1 + 0)))) fun S2 => Zae pg Zgp [.str S2] h fun V3 H4 =>
 Zcg (some V3) fun B5 => bcase B5 (Zae pg Zei [.ptr a1] H4 fun V6 H7 =>
 Zct (some V6) fun S8 => Zbb a0 fun I9 O10 => Zct (Zak H7 (.ptr (some (I9, O10 + 0)))) fun S11 => Zdu H7 m2 fun es_12 k_13 => Znm es_12 S11 fun Z14 => Zct (some (Option.getD Z14 (.str []))) fun S15 => bcase (Option.isSome Z14) (bcase (!(decide (S15 = S8))) (Q (.bool false) H7) (J6 Q m2 a0 S8 H7)) (J6 Q m2 a0 S8 H7)) (Zbb a0 fun I16 O17 => Zbb a1 fun I18 O19 => Zct (Zak H4 (.ptr (some (I16, O17 + 0)))) fun S20 => Zct (Zak H4 (.ptr (some (I18, O19 + 0)))) fun S21 => (Zak H4 (.ptr (some (I16, O17 + 0))) = Zak H4 (.ptr (some (I16, O17 + 0)))) ∧ bcase (!(decide (S20 = S21))) (Q (.bool false) H4) (Zbb a0 fun I22 O23 => xSl (Zak H4 (.ptr (some (I22, O23 + 1)))) fun A24 N25 C26 E27 => L11 Q a1 m2 A24 N25 C26 E27 (((N25 : Nat) : Int)) 0 H4))) : Zae pg Zdw [.ptr a0, .ptr a1, .map m2] h Q :=
  Zae.of_body kp (c := cod fn) (fn := fn) Go.Proofs.Try.func55 (by kernel_rfl) (by kernel_rfl) (Nat.le_of_ble_eq_true (by kernel_rfl))
    (cast (by kernel_rfl) ht)
end Zbz
end Go.Sim

set_option maxRecDepth 100000
set_option linter.unusedVariables false
namespace Go.Sim
open Go Go.RowKit
namespace Zdi
noncomputable abbrev fn : Func := Go.Proofs.Try.f85
def kp : Zcv := [(3000005, [0, 3]), (1000005, [0, 3, 20, 21, 22]), (2000009, [2])]
noncomputable def C (p : List Nat) : Code := (cod fn).sub p
def KR (Q : QT) : KT := Zic pg fn.results.toList Q
abbrev T5 := Pt → Pt → Nat → Nat → Bool → Pt → Nat → Nat → Bool → Int → Int → Zaa → Prop
def E5 (R5 : T5) (env : Env) (h : Zaa) : Prop := Zcu 0 env fun v env => Zid (some v) fun a0 => Zcu 3 env fun v env => xSl (some v) fun a3 n3 c3 e3 => Zcu 20 env fun v env => xSl (some v) fun a20 n20 c20 e20 => Zcu 21 env fun v env => Zhr .i64 v fun x21 => Zcu 22 env fun v env => Zhr .i64 v fun x22 => Znt env (R5 a0 a3 n3 c3 e3 a20 n20 c20 e20 x21 x22 h)
theorem Zlh {R5 : T5} {env : Env} {h : Zaa} (hi : E5 R5 env h) : ∃ a0, ∃ a3, ∃ n3, ∃ c3, ∃ e3, ∃ a20, ∃ n20, ∃ c20, ∃ e20, ∃ x21, ∃ x22, env = [(0, .ptr a0), (3, .slice a3 n3 c3 e3), (20, .slice a20 n20 c20 e20), (21, .int .i64 x21), (22, .int .i64 x22)] ∧ R5 a0 a3 n3 c3 e3 a20 n20 c20 e20 x21 x22 h := by
  unfold E5 at hi
  have hi0 := hi
  clear hi
  obtain ⟨_, _, rfl, hi1⟩ := Zad hi0
  obtain ⟨a0, rfl, hi2⟩ := Zby hi1
  obtain ⟨_, _, rfl, hi3⟩ := Zad hi2
  obtain ⟨a3, n3, c3, e3, rfl, hi4⟩ := Zci hi3
  obtain ⟨_, _, rfl, hi5⟩ := Zad hi4
  obtain ⟨a20, n20, c20, e20, rfl, hi6⟩ := Zci hi5
  obtain ⟨_, _, rfl, hi7⟩ := Zad hi6
  obtain ⟨x21, rfl, hi8⟩ := Zav hi7
  obtain ⟨_, _, rfl, hi9⟩ := Zad hi8
  obtain ⟨x22, rfl, hi10⟩ := Zav hi9
  obtain ⟨rfl, hi11⟩ := Zbx hi10
  have hi := hi11
  exact ⟨a0, a3, n3, c3, e3, a20, n20, c20, e20, x21, x22, rfl, hi⟩
def K0 (Q : QT) : KT := andThen (fun env' h' => (match kp.find 4000009 with | some ks => Den pg fn.ntmps (C [1, 1, 1, 1]) (env'.keep ks) h' (KR Q) | none => den pg fn.ntmps kp (C [1, 1, 1, 1]) env' h' (KR Q))) (KR Q)
def K1 (Q : QT) : KT := Zdp 0 (K0 Q)
def K2 (Q : QT) : KT := left kp 5 (K1 Q)
def K3 (Q : QT) (R5 : T5) : KT := rnd ((kp.find 1000005).getD []) (E5 R5) (K2 Q)
def L5 (Q : QT) (a0 a3 : Pt) (n3 c3 : Nat) (e3 : Bool) (a20 : Pt) (n20 c20 : Nat) (e20 : Bool) (x21 x22 : Int) (h : Zaa) : Prop := Zgw (Den pg fn.ntmps (C [1, 1, 1, 0, 1, 0, 0])) ((kp.find 1000005).getD []) (K2 Q) [(0, .ptr a0), (3, .slice a3 n3 c3 e3), (20, .slice a20 n20 c20 e20), (21, .int .i64 x21), (22, .int .i64 x22)] h
def A5x0 (Q : QT) (a0 a3 : Pt) (n3 c3 : Nat) (e3 : Bool) (h : Zaa) : Prop := At (K1 Q) (.exit 0) [(0, .ptr a0), (3, .slice a3 n3 c3 e3)] h
def L5t (Q : QT) (R5 : T5) (a0 a3 : Pt) (n3 c3 : Nat) (e3 : Bool) (a20 : Pt) (n20 c20 : Nat) (e20 : Bool) (x21 x22 : Int) (h : Zaa) : Prop :=
 bcase (decide ((x22 : Int) < x21)) ((0 ≤ (x22 : Int) ∧ (x22 : Int) < (n20 : Nat)) ∧ (Zbb a20 fun I16 O17 => Zid (Zak h (.ptr (some (I16, O17 + (Int.toNat x22) * 1)))) fun A18 => Zae pg Zei [.ptr A18] h fun V19 H20 =>
 Zct (some V19) fun S21 => Zev (H20 ++ [.cells Zbg [.str S21] false]) fun H22 => Zcy pg Zkn H22 (.slice a3 n3 c3 e3) (.slice (some (H20.length, 0)) 1 1 true) fun V23 H24 => xSl (some V23) fun A25 N26 C27 E28 => R5 a0 A25 N26 C27 E28 a20 n20 c20 e20 x21 (IntKind.wrap .i64 (x22 + 1)) H24)) (A5x0 Q a0 a3 n3 c3 e3 h)
theorem Zwk (Q : QT) (R5 : T5) (a0 a3 : Pt) (n3 c3 : Nat) (e3 : Bool) (a20 : Pt) (n20 c20 : Nat) (e20 : Bool) (x21 x22 : Int) (h : Zaa) (ht : L5t Q R5 a0 a3 n3 c3 e3 a20 n20 c20 e20 x21 x22 h) : Den pg fn.ntmps (C [1, 1, 1, 0, 1, 0, 0]) [(0, .ptr a0), (3, .slice a3 n3 c3 e3), (20, .slice a20 n20 c20 e20), (21, .int .i64 x21), (22, .int .i64 x22)] h (K3 Q R5) :=
  Zbe (kp := kp) (cast (by kernel_rfl) ht)
theorem L5ind (Q : QT) (a0 a20 : Pt) (n20 c20 : Nat) (e20 : Bool) (x21 : Int) {G : Type} (J : G → Pt → Nat → Nat → Bool → Int → Zaa → Prop) (m : G → Nat)
 (hr : ∀ (g : G) (a3 : Pt) (n3 c3 : Nat) (e3 : Bool) (x22 : Int) (h : Zaa), J g a3 n3 c3 e3 x22 h → ∀ (R5 : T5), (∀ g' (a3 : Pt) (n3 c3 : Nat) (e3 : Bool) (x22 : Int) (h : Zaa), m g' < m g → J g' a3 n3 c3 e3 x22 h → R5 a0 a3 n3 c3 e3 a20 n20 c20 e20 x21 x22 h) → L5t Q R5 a0 a3 n3 c3 e3 a20 n20 c20 e20 x21 x22 h)
 (g : G) (a3 : Pt) (n3 c3 : Nat) (e3 : Bool) (x22 : Int) (h : Zaa) (hj : J g a3 n3 c3 e3 x22 h) : L5 Q a0 a3 n3 c3 e3 a20 n20 c20 e20 x21 x22 h := by
  refine Zgw.inv2 (fun g => E5 fun a0' a3 n3 c3 e3 a20' n20' c20' e20' x21' x22 h => a0 = a0' ∧ a20 = a20' ∧ n20 = n20' ∧ c20 = c20' ∧ e20 = e20' ∧ x21 = x21' ∧ J g a3 n3 c3 e3 x22 h) (fun g => E5 fun a0' a3 n3 c3 e3 a20' n20' c20' e20' x21' x22 h => a0 = a0' ∧ a20 = a20' ∧ n20 = n20' ∧ c20 = c20' ∧ e20 = e20' ∧ x21 = x21' ∧ ∃ g', m g' < m g ∧ J g' a3 n3 c3 e3 x22 h) m ?_ ?_ g ⟨rfl, rfl, rfl, rfl, rfl, rfl, hj⟩
  · intro g env h hi
    obtain ⟨a0', a3, n3, c3, e3, a20', n20', c20', e20', x21', x22, rfl, rfl, rfl, rfl, rfl, rfl, rfl, hj⟩ := Zlh hi
    exact Zwk Q _ a0 a3 n3 c3 e3 a20 n20 c20 e20 x21 x22 h (hr g a3 n3 c3 e3 x22 h hj (fun a0' a3 n3 c3 e3 a20' n20' c20' e20' x21' x22 h => a0 = a0' ∧ a20 = a20' ∧ n20 = n20' ∧ c20 = c20' ∧ e20 = e20' ∧ x21 = x21' ∧ ∃ g', m g' < m g ∧ J g' a3 n3 c3 e3 x22 h) fun g' a3 n3 c3 e3 x22 h hlt hj => ⟨rfl, rfl, rfl, rfl, rfl, rfl, g', hlt, hj⟩)
  · intro g env h hi
    obtain ⟨a0', a3, n3, c3, e3, a20', n20', c20', e20', x21', x22, rfl, rfl, rfl, rfl, rfl, rfl, rfl, g', hlt, hj⟩ := Zlh hi
    exact ⟨g', hlt, rfl, rfl, rfl, rfl, rfl, rfl, hj⟩
theorem A5x0i (Q : QT) (a0 a3 : Pt) (n3 c3 : Nat) (e3 : Bool) (h : Zaa) (ht :
 Zbb a0 fun I29 O30 => Zct (Zak h (.ptr (some (I29, O30 + 0)))) fun S31 => List.length S31 + List.length [40] ≤ 9223372036854775807 ∧ (Zae pg Zgu [.slice a3 n3 c3 e3, .str [44]] h fun V32 H33 =>
 Zct (some V32) fun S34 => (Zak H33 (.ptr (some (I29, O30 + 0))) = Zak h (.ptr (some (I29, O30 + 0)))) ∧ List.length (S31 ++ [40]) + List.length S34 ≤ 9223372036854775807 ∧ (List.length ((S31 ++ [40]) ++ S34) + List.length [41] ≤ 9223372036854775807 ∧ (Q (.str (((S31 ++ [40]) ++ S34) ++ [41])) H33)))) : A5x0 Q a0 a3 n3 c3 e3 h :=
  At.mk (cast (by kernel_rfl) ht)
theorem call (a0 : Pt) (h : Zaa) (Q : QT) (ht :
 Zbb a0 fun I0 O1 => xSl (Zak h (.ptr (some (I0, O1 + 1)))) fun A2 N3 C4 E5 => bcase ((((N3 : Nat) : Int) : Int) == 0) (Zbb a0 fun I6 O7 => Zct (Zak h (.ptr (some (I6, O7 + 0)))) fun S8 => Q (.str S8) h) (Zev (h ++ [.cells Zbg [] false]) fun H9 => Zbb a0 fun I10 O11 => xSl (Zak H9 (.ptr (some (I10, O11 + 1)))) fun A12 N13 C14 E15 => L5 Q a0 (some (h.length, 0)) 0 0 true A12 N13 C14 E15 (((N13 : Nat) : Int)) 0 H9)) : Zae pg Zei [.ptr a0] h Q :=
  Zae.of_body kp (c := cod fn) (fn := fn) Go.Proofs.Try.func85 (by kernel_rfl) (by kernel_rfl) (Nat.le_of_ble_eq_true (by kernel_rfl))
    (cast (by kernel_rfl) ht)
end Zdi
namespace Zdh
noncomputable abbrev fn : Func := Go.Proofs.Try.f90
def kp : Zcv := [(3000003, [1, 3]), (1000003, [1, 3, 11, 12, 13]), (2000005, [13, 12, 11, 3, 1]), (4000009, [3])]
noncomputable def C (p : List Nat) : Code := (cod fn).sub p
def KR (Q : QT) : KT := Zic pg fn.results.toList Q
abbrev T3 := Nat → Nat → List Nat → Pt → Nat → Nat → Bool → Int → Int → Zaa → Prop
def E3 (R3 : T3) (env : Env) (h : Zaa) : Prop := Zcu 1 env fun v env => Zid (some v) fun a => Zbb a fun i1 o1 => Zcu 3 env fun v env => Zct (some v) fun x3 => Zcu 11 env fun v env => xSl (some v) fun a11 n11 c11 e11 => Zcu 12 env fun v env => Zhr .i64 v fun x12 => Zcu 13 env fun v env => Zhr .i64 v fun x13 => Znt env (R3 i1 o1 x3 a11 n11 c11 e11 x12 x13 h)
theorem Zgk {R3 : T3} {env : Env} {h : Zaa} (hi : E3 R3 env h) : ∃ i1, ∃ o1, ∃ x3, ∃ a11, ∃ n11, ∃ c11, ∃ e11, ∃ x12, ∃ x13, env = [(1, .ptr (some (i1, o1))), (3, .str x3), (11, .slice a11 n11 c11 e11), (12, .int .i64 x12), (13, .int .i64 x13)] ∧ R3 i1 o1 x3 a11 n11 c11 e11 x12 x13 h := by
  unfold E3 at hi
  have hi0 := hi
  clear hi
  obtain ⟨_, _, rfl, hi1⟩ := Zad hi0
  obtain ⟨a, rfl, hi2⟩ := Zby hi1
  obtain ⟨i1, o1, rfl, hi3⟩ := Zbt hi2
  obtain ⟨_, _, rfl, hi4⟩ := Zad hi3
  obtain ⟨x3, rfl, hi5⟩ := Zda hi4
  obtain ⟨_, _, rfl, hi6⟩ := Zad hi5
  obtain ⟨a11, n11, c11, e11, rfl, hi7⟩ := Zci hi6
  obtain ⟨_, _, rfl, hi8⟩ := Zad hi7
  obtain ⟨x12, rfl, hi9⟩ := Zav hi8
  obtain ⟨_, _, rfl, hi10⟩ := Zad hi9
  obtain ⟨x13, rfl, hi11⟩ := Zav hi10
  obtain ⟨rfl, hi12⟩ := Zbx hi11
  have hi := hi12
  exact ⟨i1, o1, x3, a11, n11, c11, e11, x12, x13, rfl, hi⟩
def K0 (Q : QT) : KT := andThen (fun env' h' => (match kp.find 4000007 with | some ks => Den pg fn.ntmps (C [1, 1, 1]) (env'.keep ks) h' (KR Q) | none => den pg fn.ntmps kp (C [1, 1, 1]) env' h' (KR Q))) (KR Q)
def K1 (Q : QT) : KT := Zdp 0 (K0 Q)
def K2 (Q : QT) : KT := left kp 3 (K1 Q)
def K3 (Q : QT) (R3 : T3) : KT := rnd ((kp.find 1000003).getD []) (E3 R3) (K2 Q)
def L3 (Q : QT) (i1 o1 : Nat) (x3 : List Nat) (a11 : Pt) (n11 c11 : Nat) (e11 : Bool) (x12 x13 : Int) (h : Zaa) : Prop := Zgw (Den pg fn.ntmps (C [1, 1, 0, 1, 0, 0])) ((kp.find 1000003).getD []) (K2 Q) [(1, .ptr (some (i1, o1))), (3, .str x3), (11, .slice a11 n11 c11 e11), (12, .int .i64 x12), (13, .int .i64 x13)] h
def Ztc (Q : QT) (i1 o1 : Nat) (x3 : List Nat) (h : Zaa) : Prop := At (K1 Q) (.exit 0) [(1, .ptr (some (i1, o1))), (3, .str x3)] h
def J9 (Q : QT) (x3 : List Nat) (h : Zaa) : Prop := Den pg fn.ntmps (C [1, 1, 1, 1]) [(3, .str x3)] h (KR Q)
def L3t (Q : QT) (R3 : T3) (i1 o1 : Nat) (x3 : List Nat) (a11 : Pt) (n11 c11 : Nat) (e11 : Bool) (x12 x13 : Int) (h : Zaa) : Prop :=
 bcase (decide ((x13 : Int) < x12)) ((0 ≤ (x13 : Int) ∧ (x13 : Int) < (n11 : Nat)) ∧ (Zbb a11 fun I9 O10 => Zep (Zdd h (.ptr (some (I9, O10 + (Int.toNat x13) * 2))) 2) fun K11 => Zar K11 fun C12 Z13 => Zck .u8 (some C12) fun X14 => Zar Z13 fun C15 Z16 => xSl (some C15) fun A17 N18 C19 E20 => Zec Z16 (Zev (h ++ [.cells Zab [.int .u8 0, .slice none 0 0 true] false]) fun H21 => Zcr (Zbi H21 (.ptr (some (h.length, 0))) [.int .u8 X14, .slice A17 N18 C19 E20]) fun H22 => (0 ≤ (x13 : Int) ∧ (x13 : Int) ≤ IntKind.wrap .i64 (x13 + 1) ∧ (IntKind.wrap .i64 (x13 + 1) : Int) ≤ (List.length ([40, 44]) : Nat)) ∧ (List.length x3 + List.length (sub ([40, 44]) x13 (IntKind.wrap .i64 (x13 + 1))) ≤ 9223372036854775807 ∧ (Zep (Zdd H22 (.ptr (some (h.length, 0))) 2) fun K23 => Zar K23 fun C24 Z25 => Zck .u8 (some C24) fun X26 => Zar Z25 fun C27 Z28 => xSl (some C27) fun A29 N30 C31 E32 => Zec Z28 (Zae pg Zde [.agg [.int .u8 X26, .slice A29 N30 C31 E32]] H22 fun V33 H34 =>
 Zct (some V33) fun S35 => List.length (x3 ++ (sub ([40, 44]) x13 (IntKind.wrap .i64 (x13 + 1)))) + List.length S35 ≤ 9223372036854775807 ∧ (R3 i1 o1 ((x3 ++ (sub ([40, 44]) x13 (IntKind.wrap .i64 (x13 + 1)))) ++ S35) a11 n11 c11 e11 x12 (IntKind.wrap .i64 (x13 + 1)) H34))))))) (Ztc Q i1 o1 x3 h)
theorem Zpa (Q : QT) (R3 : T3) (i1 o1 : Nat) (x3 : List Nat) (a11 : Pt) (n11 c11 : Nat) (e11 : Bool) (x12 x13 : Int) (h : Zaa) (ht : L3t Q R3 i1 o1 x3 a11 n11 c11 e11 x12 x13 h) : Den pg fn.ntmps (C [1, 1, 0, 1, 0, 0]) [(1, .ptr (some (i1, o1))), (3, .str x3), (11, .slice a11 n11 c11 e11), (12, .int .i64 x12), (13, .int .i64 x13)] h (K3 Q R3) :=
  Zbe (kp := kp) (cast (by kernel_rfl) ht)
theorem L3ind (Q : QT) (i1 o1 : Nat) (a11 : Pt) (n11 c11 : Nat) (e11 : Bool) (x12 : Int) {G : Type} (J : G → List Nat → Int → Zaa → Prop) (m : G → Nat)
 (hr : ∀ (g : G) (x3 : List Nat) (x13 : Int) (h : Zaa), J g x3 x13 h → ∀ (R3 : T3), (∀ g' (x3 : List Nat) (x13 : Int) (h : Zaa), m g' < m g → J g' x3 x13 h → R3 i1 o1 x3 a11 n11 c11 e11 x12 x13 h) → L3t Q R3 i1 o1 x3 a11 n11 c11 e11 x12 x13 h)
 (g : G) (x3 : List Nat) (x13 : Int) (h : Zaa) (hj : J g x3 x13 h) : L3 Q i1 o1 x3 a11 n11 c11 e11 x12 x13 h := by
  refine Zgw.inv2 (fun g => E3 fun i1' o1' x3 a11' n11' c11' e11' x12' x13 h => i1 = i1' ∧ o1 = o1' ∧ a11 = a11' ∧ n11 = n11' ∧ c11 = c11' ∧ e11 = e11' ∧ x12 = x12' ∧ J g x3 x13 h) (fun g => E3 fun i1' o1' x3 a11' n11' c11' e11' x12' x13 h => i1 = i1' ∧ o1 = o1' ∧ a11 = a11' ∧ n11 = n11' ∧ c11 = c11' ∧ e11 = e11' ∧ x12 = x12' ∧ ∃ g', m g' < m g ∧ J g' x3 x13 h) m ?_ ?_ g ⟨rfl, rfl, rfl, rfl, rfl, rfl, rfl, hj⟩
  · intro g env h hi
    obtain ⟨i1', o1', x3, a11', n11', c11', e11', x12', x13, rfl, rfl, rfl, rfl, rfl, rfl, rfl, rfl, hj⟩ := Zgk hi
    exact Zpa Q _ i1 o1 x3 a11 n11 c11 e11 x12 x13 h (hr g x3 x13 h hj (fun i1' o1' x3 a11' n11' c11' e11' x12' x13 h => i1 = i1' ∧ o1 = o1' ∧ a11 = a11' ∧ n11 = n11' ∧ c11 = c11' ∧ e11 = e11' ∧ x12 = x12' ∧ ∃ g', m g' < m g ∧ J g' x3 x13 h) fun g' x3 x13 h hlt hj => ⟨rfl, rfl, rfl, rfl, rfl, rfl, rfl, g', hlt, hj⟩)
  · intro g env h hi
    obtain ⟨i1', o1', x3, a11', n11', c11', e11', x12', x13, rfl, rfl, rfl, rfl, rfl, rfl, rfl, rfl, g', hlt, hj⟩ := Zgk hi
    exact ⟨g', hlt, rfl, rfl, rfl, rfl, rfl, rfl, rfl, hj⟩
theorem A3x0i (Q : QT) (i1 o1 : Nat) (x3 : List Nat) (h : Zaa) (ht :
 xSl (Zak h (.ptr (some (i1, o1 + 1)))) fun A36 N37 C38 E39 => bcase (decide (((((N37 : Nat) : Int)) : Int) > 0)) (List.length x3 + List.length [41] ≤ 9223372036854775807 ∧ (J9 Q (x3 ++ [41]) h)) (J9 Q x3 h)) : Ztc Q i1 o1 x3 h :=
  At.mk (cast (by kernel_rfl) ht)
theorem J9i (Q : QT) (x3 : List Nat) (h : Zaa) (ht :
 Q (.str x3) h) : J9 Q x3 h :=
  Zbe (kp := kp) (cast (by kernel_rfl) ht)
theorem call (x0x0 : Int) (a0x1 : Pt) (n0x1 c0x1 : Nat) (e0x1 : Bool) (h : Zaa) (Q : QT) (ht :
 Zev (h ++ [.cells Zab [.int .u8 x0x0, .slice a0x1 n0x1 c0x1 e0x1] false]) fun H0 => Zck .u8 (Zak H0 (.ptr (some (h.length, 0 + 0)))) fun X1 => Zev (H0 ++ [.cells Zwh [.int .u8 X1] false]) fun H2 => Zep (rowOf H2 (some (H0.length, 0)) 1) fun K3 => Zie K3 fun S4 => xSl (Zak H2 (.ptr (some (h.length, 0 + 1)))) fun A5 N6 C7 E8 => L3 Q h.length 0 S4 A5 N6 C7 E8 (((N6 : Nat) : Int)) 0 H2) : Zae pg Zde [.agg [.int .u8 x0x0, .slice a0x1 n0x1 c0x1 e0x1]] h Q :=
  Zae.of_body kp (c := cod fn) (fn := fn) Go.Proofs.Try.func90 (by kernel_rfl) (by kernel_rfl) (Nat.le_of_ble_eq_true (by kernel_rfl))
    (cast (by kernel_rfl) ht)
end Zdh
end Go.Sim

set_option maxRecDepth 100000
set_option linter.unusedVariables false
namespace Go.Sim
open Go Go.RowKit
end Go.Sim

set_option maxRecDepth 100000
set_option linter.unusedVariables false
namespace Go.Sim
open Go Go.RowKit
end Go.Sim

set_option maxRecDepth 100000
set_option linter.unusedVariables false
namespace Go.Sim
open Go Go.RowKit
end Go.Sim

set_option maxRecDepth 100000
set_option linter.unusedVariables false
namespace Go.Sim
open Go Go.RowKit
end Go.Sim

set_option maxRecDepth 100000
set_option linter.unusedVariables false
namespace Go.Sim
open Go Go.RowKit
end Go.Sim

set_option maxRecDepth 100000
set_option linter.unusedVariables false
namespace Go.Sim
open Go Go.RowKit
namespace Zlj
noncomputable abbrev fn : Func := Go.Proofs.Try.f61
def kp : Zcv := []
noncomputable def C (p : List Nat) : Code := (cod fn).sub p
def KR (Q : QT) : KT := Zic pg fn.results.toList Q
theorem call (x0 : List Nat) (h : Zaa) (Q : QT) (ht :
 bcase ((((List.length x0 : Nat) : Int) : Int) == 1) (Zae pg Zdm [.str ([120, 121, 122, 88, 89, 90]), .str x0] h fun V0 H1 =>
 Zcg (some V0) fun B2 => Q (.bool B2) H1) (Q (.bool false) h)) : Zae pg Zgp [.str x0] h Q :=
  Zae.of_body kp (c := cod fn) (fn := fn) Go.Proofs.Try.func61 (by kernel_rfl) (by kernel_rfl) (Nat.le_of_ble_eq_true (by kernel_rfl))
    (cast (by kernel_rfl) ht)
end Zlj
end Go.Sim

set_option maxRecDepth 100000
set_option linter.unusedVariables false
namespace Go.Sim
open Go Go.RowKit
end Go.Sim

set_option maxRecDepth 100000
set_option linter.unusedVariables false
namespace Go.Sim
open Go Go.RowKit
end Go.Sim

set_option maxRecDepth 100000
set_option linter.unusedVariables false
namespace Go.Sim
open Go Go.RowKit
end Go.Sim

set_option maxRecDepth 100000
set_option linter.unusedVariables false
namespace Go.Sim
open Go Go.RowKit
end Go.Sim

set_option maxRecDepth 100000
set_option linter.unusedVariables false
namespace Go.Sim
open Go Go.RowKit
namespace Zef
noncomputable abbrev fn : Func := Go.Proofs.Try.f114
def kp : Zcv := [(3000002, [4]), (1000002, [0, 1, 5])]
noncomputable def C (p : List Nat) : Code := (cod fn).sub p
def KR (Q : QT) : KT := Zic pg fn.results.toList Q
abbrev T2 := List Nat → Int → Int → Zaa → Prop
def E2 (R2 : T2) (env : Env) (h : Zaa) : Prop := Zcu 0 env fun v env => Zct (some v) fun x0 => Zcu 1 env fun v env => Zhr .u8 v fun x1 => Zcu 5 env fun v env => Zhr .i64 v fun x5 => Znt env (R2 x0 x1 x5 h)
theorem Zky {R2 : T2} {env : Env} {h : Zaa} (hi : E2 R2 env h) : ∃ x0, ∃ x1, ∃ x5, env = [(0, .str x0), (1, .int .u8 x1), (5, .int .i64 x5)] ∧ R2 x0 x1 x5 h := by
  unfold E2 at hi
  have hi0 := hi
  clear hi
  obtain ⟨_, _, rfl, hi1⟩ := Zad hi0
  obtain ⟨x0, rfl, hi2⟩ := Zda hi1
  obtain ⟨_, _, rfl, hi3⟩ := Zad hi2
  obtain ⟨x1, rfl, hi4⟩ := Zav hi3
  obtain ⟨_, _, rfl, hi5⟩ := Zad hi4
  obtain ⟨x5, rfl, hi6⟩ := Zav hi5
  obtain ⟨rfl, hi7⟩ := Zbx hi6
  have hi := hi7
  exact ⟨x0, x1, x5, rfl, hi⟩
def K0 (Q : QT) : KT := andThen (fun env' h' => (match kp.find 4000006 with | some ks => Den pg fn.ntmps (C [1, 1]) (env'.keep ks) h' (KR Q) | none => den pg fn.ntmps kp (C [1, 1]) env' h' (KR Q))) (KR Q)
def K1 (Q : QT) : KT := Zdp 0 (K0 Q)
def K2 (Q : QT) : KT := left kp 2 (K1 Q)
def K3 (Q : QT) (R2 : T2) : KT := rnd ((kp.find 1000002).getD []) (E2 R2) (K2 Q)
def L2 (Q : QT) (x0 : List Nat) (x1 x5 : Int) (h : Zaa) : Prop := Zgw (Den pg fn.ntmps (C [1, 0, 1, 0, 0])) ((kp.find 1000002).getD []) (K2 Q) [(0, .str x0), (1, .int .u8 x1), (5, .int .i64 x5)] h
def Yam (Q : QT) (h : Zaa) : Prop := At (K1 Q) (.exit 0) [(4, .undef)] h
def L2t (Q : QT) (R2 : T2) (x0 : List Nat) (x1 x5 : Int) (h : Zaa) : Prop :=
 bcase (decide ((x5 : Int) < (((List.length x0 : Nat) : Int)))) (Ztd x0 x5 fun B0 => bcase ((((B0 : Nat) : Int) : Int) == x1) (Q (.int .i64 x5) h) (R2 x0 x1 (IntKind.wrap .i64 (x5 + 1)) h)) (Yam Q h)
theorem Zxp (Q : QT) (R2 : T2) (x0 : List Nat) (x1 x5 : Int) (h : Zaa) (ht : L2t Q R2 x0 x1 x5 h) : Den pg fn.ntmps (C [1, 0, 1, 0, 0]) [(0, .str x0), (1, .int .u8 x1), (5, .int .i64 x5)] h (K3 Q R2) :=
  Zbe (kp := kp) (cast (by kernel_rfl) ht)
theorem L2ind (Q : QT) (x0 : List Nat) (x1 : Int) {G : Type} (J : G → Int → Zaa → Prop) (m : G → Nat)
 (hr : ∀ (g : G) (x5 : Int) (h : Zaa), J g x5 h → ∀ (R2 : T2), (∀ g' (x5 : Int) (h : Zaa), m g' < m g → J g' x5 h → R2 x0 x1 x5 h) → L2t Q R2 x0 x1 x5 h)
 (g : G) (x5 : Int) (h : Zaa) (hj : J g x5 h) : L2 Q x0 x1 x5 h := by
  refine Zgw.inv2 (fun g => E2 fun x0' x1' x5 h => x0 = x0' ∧ x1 = x1' ∧ J g x5 h) (fun g => E2 fun x0' x1' x5 h => x0 = x0' ∧ x1 = x1' ∧ ∃ g', m g' < m g ∧ J g' x5 h) m ?_ ?_ g ⟨rfl, rfl, hj⟩
  · intro g env h hi
    obtain ⟨x0', x1', x5, rfl, rfl, rfl, hj⟩ := Zky hi
    exact Zxp Q _ x0 x1 x5 h (hr g x5 h hj (fun x0' x1' x5 h => x0 = x0' ∧ x1 = x1' ∧ ∃ g', m g' < m g ∧ J g' x5 h) fun g' x5 h hlt hj => ⟨rfl, rfl, g', hlt, hj⟩)
  · intro g env h hi
    obtain ⟨x0', x1', x5, rfl, rfl, rfl, g', hlt, hj⟩ := Zky hi
    exact ⟨g', hlt, rfl, rfl, hj⟩
theorem A2x0i (Q : QT) (h : Zaa) (ht :
 Q (.int .i64 (-1)) h) : Yam Q h :=
  At.mk (cast (by kernel_rfl) ht)
theorem call (x0 : List Nat) (x1 : Int) (h : Zaa) (Q : QT) (ht :
 L2 Q x0 x1 0 h) : Zae pg Zfc [.str x0, .int .u8 x1] h Q :=
  Zae.of_body kp (c := cod fn) (fn := fn) Go.Proofs.Try.func114 (by kernel_rfl) (by kernel_rfl) (Nat.le_of_ble_eq_true (by kernel_rfl))
    (cast (by kernel_rfl) ht)
end Zef
namespace Zgx
noncomputable abbrev fn : Func := Go.Proofs.Try.f113
def kp : Zcv := [(4000008, [])]
noncomputable def C (p : List Nat) : Code := (cod fn).sub p
def KR (Q : QT) : KT := Zic pg fn.results.toList Q
def J8 (Q : QT) (h : Zaa) : Prop := Den pg fn.ntmps (C [1, 1]) [] h (KR Q)
theorem J8i (Q : QT) (h : Zaa) (ht :
 Q (.int .i64 0) h) : J8 Q h :=
  Zbe (kp := kp) (cast (by kernel_rfl) ht)
theorem call (x0 : Int) (h : Zaa) (Q : QT) (ht :
 Zae pg Zfc [.str ([105, 98, 117, 108, 109, 112, 120, 121, 122, 88, 89, 90]), .int .u8 x0] h fun V0 H1 =>
 Zck .i64 (some V0) fun X2 => bcase (decide ((X2 : Int) < 0)) (Q (.int .i64 (-1)) H1) (bcase ((X2 : Int) == 3) (Q (.int .i64 1) H1) (bcase ((X2 : Int) == 4) (Q (.int .i64 1) H1) (bcase ((X2 : Int) == 5) (Q (.int .i64 2) H1) (J8 Q H1))))) : Zae pg Zfg [.int .u8 x0] h Q :=
  Zae.of_body kp (c := cod fn) (fn := fn) Go.Proofs.Try.func113 (by kernel_rfl) (by kernel_rfl) (Nat.le_of_ble_eq_true (by kernel_rfl))
    (cast (by kernel_rfl) ht)
end Zgx
namespace Zfo
noncomputable abbrev fn : Func := Go.Proofs.Try.f112
def kp : Zcv := [(2000001, [12, 0]), (2000005, [2])]
noncomputable def C (p : List Nat) : Code := (cod fn).sub p
def KR (Q : QT) : KT := Zic pg fn.results.toList Q
theorem call (a0 : Pt) (h : Zaa) (Q : QT) (ht :
 Zbb a0 fun I0 O1 => Zbb a0 fun I2 O3 => Zck .i64 (Zak h (.ptr (some (I0, O1 + 1)))) fun X4 => Zct (Zak h (.ptr (some (I2, O3 + 0)))) fun S5 => (Zak h (.ptr (some (I0, O1 + 1))) = Zak h (.ptr (some (I0, O1 + 1)))) ∧ bcase (decide ((X4 : Int) ≥ (((List.length S5 : Nat) : Int)))) (Zbb a0 fun I6 O7 => Zcr (Zbi h (.ptr (some (I6, O7 + 2))) [.bool true]) fun H8 => Q (.int .u8 0) H8) (Zbb a0 fun I9 O10 => Zck .i64 (Zak h (.ptr (some (I9, O10 + 1)))) fun X11 => Zbb a0 fun I12 O13 => Zcr (Zbi h (.ptr (some (I12, O13 + 1))) [.int .i64 (IntKind.wrap .i64 (X11 + 1))]) fun H14 => Zbb a0 fun I15 O16 => Zbb a0 fun I17 O18 => Zct (Zak H14 (.ptr (some (I15, O16 + 0)))) fun S19 => Zck .i64 (Zak H14 (.ptr (some (I17, O18 + 1)))) fun X20 => (Zak H14 (.ptr (some (I15, O16 + 0))) = Zak H14 (.ptr (some (I15, O16 + 0)))) ∧ Ztd S19 (IntKind.wrap .i64 (X20 - 1)) fun B21 => Q (.int .u8 (((B21 : Nat) : Int))) H14)) : Zae pg Zcm [.ptr a0] h Q :=
  Zae.of_body kp (c := cod fn) (fn := fn) Go.Proofs.Try.func112 (by kernel_rfl) (by kernel_rfl) (Nat.le_of_ble_eq_true (by kernel_rfl))
    (cast (by kernel_rfl) ht)
end Zfo
namespace Zah
noncomputable abbrev fn : Func := Go.Proofs.Try.f88
def kp : Zcv := [(4000004, [0, 2, 3, 4]), (3000005, [4, 0, 3, 2]), (1000005, [0, 2, 3, 4, 5]), (4000007, [0, 5, 3, 4, 2]), (2000007, [0, 3, 5, 4, 2]), (4000008, [0, 3, 5, 4, 2]), (2000009, [5, 4, 0, 3, 2]), (4000006, [5, 4, 0, 3, 2]), (4000012, [3, 2])]
noncomputable def C (p : List Nat) : Code := (cod fn).sub p
def KR (Q : QT) : KT := Zic pg fn.results.toList Q
abbrev T5 := Pt → Nat → Nat → Nat → Nat → Int → Int → Zaa → Prop
def E5 (R5 : T5) (env : Env) (h : Zaa) : Prop := Zcu 0 env fun v env => Zid (some v) fun a0 => Zcu 2 env fun v env => Zid (some v) fun a => Zbb a fun i2 o2 => Zcu 3 env fun v env => Zid (some v) fun a => Zbb a fun i3 o3 => Zcu 4 env fun v env => Zhr .i64 v fun x4 => Zcu 5 env fun v env => Zhr .i64 v fun x5 => Znt env (R5 a0 i2 o2 i3 o3 x4 x5 h)
theorem Zlh {R5 : T5} {env : Env} {h : Zaa} (hi : E5 R5 env h) : ∃ a0, ∃ i2, ∃ o2, ∃ i3, ∃ o3, ∃ x4, ∃ x5, env = [(0, .ptr a0), (2, .ptr (some (i2, o2))), (3, .ptr (some (i3, o3))), (4, .int .i64 x4), (5, .int .i64 x5)] ∧ R5 a0 i2 o2 i3 o3 x4 x5 h := by
  unfold E5 at hi
  have hi0 := hi
  clear hi
  obtain ⟨_, _, rfl, hi1⟩ := Zad hi0
  obtain ⟨a0, rfl, hi2⟩ := Zby hi1
  obtain ⟨_, _, rfl, hi3⟩ := Zad hi2
  obtain ⟨a, rfl, hi4⟩ := Zby hi3
  obtain ⟨i2, o2, rfl, hi5⟩ := Zbt hi4
  obtain ⟨_, _, rfl, hi6⟩ := Zad hi5
  obtain ⟨a, rfl, hi7⟩ := Zby hi6
  obtain ⟨i3, o3, rfl, hi8⟩ := Zbt hi7
  obtain ⟨_, _, rfl, hi9⟩ := Zad hi8
  obtain ⟨x4, rfl, hi10⟩ := Zav hi9
  obtain ⟨_, _, rfl, hi11⟩ := Zad hi10
  obtain ⟨x5, rfl, hi12⟩ := Zav hi11
  obtain ⟨rfl, hi13⟩ := Zbx hi12
  have hi := hi13
  exact ⟨a0, i2, o2, i3, o3, x4, x5, rfl, hi⟩
def K0 (Q : QT) : KT := andThen (fun env' h' => (match kp.find 4000010 with | some ks => Den pg fn.ntmps (C [1, 1, 1, 1, 1]) (env'.keep ks) h' (KR Q) | none => den pg fn.ntmps kp (C [1, 1, 1, 1, 1]) env' h' (KR Q))) (KR Q)
def K1 (Q : QT) : KT := Zdp 0 (K0 Q)
def K2 (Q : QT) : KT := left kp 5 (K1 Q)
def K3 (Q : QT) (R5 : T5) : KT := rnd ((kp.find 1000005).getD []) (E5 R5) (K2 Q)
def K4 (Q : QT) (R5 : T5) : KT := andThen (fun env' h' => (match kp.find 4000006 with | some ks => Den pg fn.ntmps (C [1, 1, 1, 1, 0, 1, 0, 0, 1, 1]) (env'.keep ks) h' (K3 Q R5) | none => den pg fn.ntmps kp (C [1, 1, 1, 1, 0, 1, 0, 0, 1, 1]) env' h' (K3 Q R5))) (K3 Q R5)
def K5 (Q : QT) (R5 : T5) : KT := Zdp 1 (K4 Q R5)
def J4 (Q : QT) (a0 : Pt) (i2 o2 i3 o3 : Nat) (x4 : Int) (h : Zaa) : Prop := Den pg fn.ntmps (C [1, 1, 1, 1]) [(0, .ptr a0), (2, .ptr (some (i2, o2))), (3, .ptr (some (i3, o3))), (4, .int .i64 x4)] h (KR Q)
def L5 (Q : QT) (a0 : Pt) (i2 o2 i3 o3 : Nat) (x4 x5 : Int) (h : Zaa) : Prop := Zgw (Den pg fn.ntmps (C [1, 1, 1, 1, 0, 1, 0, 0])) ((kp.find 1000005).getD []) (K2 Q) [(0, .ptr a0), (2, .ptr (some (i2, o2))), (3, .ptr (some (i3, o3))), (4, .int .i64 x4), (5, .int .i64 x5)] h
def J7 (Q : QT) (R5 : T5) (a0 : Pt) (x5 : Int) (i3 o3 : Nat) (x4 : Int) (i2 o2 : Nat) (h : Zaa) : Prop := Den pg fn.ntmps (C [1, 1, 1, 1, 0, 1, 0, 0, 1]) [(0, .ptr a0), (5, .int .i64 x5), (3, .ptr (some (i3, o3))), (4, .int .i64 x4), (2, .ptr (some (i2, o2)))] h (K3 Q R5)
def A5x0 (Q : QT) (x4 : Int) (a0 : Pt) (i3 o3 i2 o2 : Nat) (h : Zaa) : Prop := At (K1 Q) (.exit 0) [(4, .int .i64 x4), (0, .ptr a0), (3, .ptr (some (i3, o3))), (2, .ptr (some (i2, o2)))] h
def J8 (Q : QT) (R5 : T5) (a0 : Pt) (i3 o3 : Nat) (x5 x4 : Int) (i2 o2 : Nat) (h : Zaa) : Prop := Den pg fn.ntmps (C [1, 1, 1, 1, 0, 1, 0, 0, 1, 0, 0, 1]) [(0, .ptr a0), (3, .ptr (some (i3, o3))), (5, .int .i64 x5), (4, .int .i64 x4), (2, .ptr (some (i2, o2)))] h (K5 Q R5)
def J12 (Q : QT) (i3 o3 i2 o2 : Nat) (h : Zaa) : Prop := Den pg fn.ntmps (C [1, 1, 1, 1, 1, 1]) [(3, .ptr (some (i3, o3))), (2, .ptr (some (i2, o2)))] h (KR Q)
def J6 (Q : QT) (R5 : T5) (x5 x4 : Int) (a0 : Pt) (i3 o3 i2 o2 : Nat) (h : Zaa) : Prop := Den pg fn.ntmps (C [1, 1, 1, 1, 0, 1, 0, 0, 1, 1]) [(5, .int .i64 x5), (4, .int .i64 x4), (0, .ptr a0), (3, .ptr (some (i3, o3))), (2, .ptr (some (i2, o2)))] h (K3 Q R5)
theorem J4i (Q : QT) (a0 : Pt) (i2 o2 i3 o3 : Nat) (x4 : Int) (h : Zaa) (ht :
 L5 Q a0 i2 o2 i3 o3 x4 0 h) : J4 Q a0 i2 o2 i3 o3 x4 h :=
  Zbe (kp := kp) (cast (by kernel_rfl) ht)
def L5t (Q : QT) (R5 : T5) (a0 : Pt) (i2 o2 i3 o3 : Nat) (x4 x5 : Int) (h : Zaa) : Prop :=
 bcase (decide ((x5 : Int) < x4)) (Zbb a0 fun I20 O21 => Zcg (Zak h (.ptr (some (I20, O21 + 2)))) fun B22 => bcase (!B22) (J7 Q R5 a0 x5 i3 o3 x4 i2 o2 h) (A5x0 Q x4 a0 i3 o3 i2 o2 h)) (A5x0 Q x4 a0 i3 o3 i2 o2 h)
theorem Zwk (Q : QT) (R5 : T5) (a0 : Pt) (i2 o2 i3 o3 : Nat) (x4 x5 : Int) (h : Zaa) (ht : L5t Q R5 a0 i2 o2 i3 o3 x4 x5 h) : Den pg fn.ntmps (C [1, 1, 1, 1, 0, 1, 0, 0]) [(0, .ptr a0), (2, .ptr (some (i2, o2))), (3, .ptr (some (i3, o3))), (4, .int .i64 x4), (5, .int .i64 x5)] h (K3 Q R5) :=
  Zbe (kp := kp) (cast (by kernel_rfl) ht)
theorem L5ind (Q : QT) (a0 : Pt) (i2 o2 i3 o3 : Nat) (x4 : Int) {G : Type} (J : G → Int → Zaa → Prop) (m : G → Nat)
 (hr : ∀ (g : G) (x5 : Int) (h : Zaa), J g x5 h → ∀ (R5 : T5), (∀ g' (x5 : Int) (h : Zaa), m g' < m g → J g' x5 h → R5 a0 i2 o2 i3 o3 x4 x5 h) → L5t Q R5 a0 i2 o2 i3 o3 x4 x5 h)
 (g : G) (x5 : Int) (h : Zaa) (hj : J g x5 h) : L5 Q a0 i2 o2 i3 o3 x4 x5 h := by
  refine Zgw.inv2 (fun g => E5 fun a0' i2' o2' i3' o3' x4' x5 h => a0 = a0' ∧ i2 = i2' ∧ o2 = o2' ∧ i3 = i3' ∧ o3 = o3' ∧ x4 = x4' ∧ J g x5 h) (fun g => E5 fun a0' i2' o2' i3' o3' x4' x5 h => a0 = a0' ∧ i2 = i2' ∧ o2 = o2' ∧ i3 = i3' ∧ o3 = o3' ∧ x4 = x4' ∧ ∃ g', m g' < m g ∧ J g' x5 h) m ?_ ?_ g ⟨rfl, rfl, rfl, rfl, rfl, rfl, hj⟩
  · intro g env h hi
    obtain ⟨a0', i2', o2', i3', o3', x4', x5, rfl, rfl, rfl, rfl, rfl, rfl, rfl, hj⟩ := Zlh hi
    exact Zwk Q _ a0 i2 o2 i3 o3 x4 x5 h (hr g x5 h hj (fun a0' i2' o2' i3' o3' x4' x5 h => a0 = a0' ∧ i2 = i2' ∧ o2 = o2' ∧ i3 = i3' ∧ o3 = o3' ∧ x4 = x4' ∧ ∃ g', m g' < m g ∧ J g' x5 h) fun g' x5 h hlt hj => ⟨rfl, rfl, rfl, rfl, rfl, rfl, g', hlt, hj⟩)
  · intro g env h hi
    obtain ⟨a0', i2', o2', i3', o3', x4', x5, rfl, rfl, rfl, rfl, rfl, rfl, rfl, g', hlt, hj⟩ := Zlh hi
    exact ⟨g', hlt, rfl, rfl, rfl, rfl, rfl, rfl, hj⟩
theorem J7i (Q : QT) (R5 : T5) (a0 : Pt) (x5 : Int) (i3 o3 : Nat) (x4 : Int) (i2 o2 : Nat) (h : Zaa) (ht :
 Ztd ([40, 44]) x5 fun B23 => Zae pg Zcm [.ptr a0] h fun V24 H25 =>
 Zck .u8 (some V24) fun X26 => bcase (!((X26 : Int) == (((B23 : Nat) : Int)))) (Zbb a0 fun I27 O28 => Zcr (Zbi H25 (.ptr (some (I27, O28 + 2))) [.bool true]) fun H29 => J8 Q R5 a0 i3 o3 x5 x4 i2 o2 H29) (Zbb a0 fun I30 O31 => Zcg (Zak H25 (.ptr (some (I30, O31 + 2)))) fun B32 => Zbb a0 fun I33 O34 => Zcr (Zbi H25 (.ptr (some (I33, O34 + 2))) [.bool B32]) fun H35 => J8 Q R5 a0 i3 o3 x5 x4 i2 o2 H35)) : J7 Q R5 a0 x5 i3 o3 x4 i2 o2 h :=
  Zbe (kp := kp) (cast (by kernel_rfl) ht)
theorem A5x0i (Q : QT) (x4 : Int) (a0 : Pt) (i3 o3 i2 o2 : Nat) (h : Zaa) (ht :
 bcase (decide ((x4 : Int) > 0)) (Zbb a0 fun I36 O37 => Zcg (Zak h (.ptr (some (I36, O37 + 2)))) fun B38 => bcase (!B38) (Zae pg Zcm [.ptr a0] h fun V39 H40 =>
 Zck .u8 (some V39) fun X41 => bcase (!((X41 : Int) == 41)) (Zbb a0 fun I42 O43 => Zcr (Zbi H40 (.ptr (some (I42, O43 + 2))) [.bool true]) fun H44 => J12 Q i3 o3 i2 o2 H44) (Zbb a0 fun I45 O46 => Zcg (Zak H40 (.ptr (some (I45, O46 + 2)))) fun B47 => Zbb a0 fun I48 O49 => Zcr (Zbi H40 (.ptr (some (I48, O49 + 2))) [.bool B47]) fun H50 => J12 Q i3 o3 i2 o2 H50)) (J12 Q i3 o3 i2 o2 h)) (J12 Q i3 o3 i2 o2 h)) : A5x0 Q x4 a0 i3 o3 i2 o2 h :=
  At.mk (cast (by kernel_rfl) ht)
theorem J8i (Q : QT) (R5 : T5) (a0 : Pt) (i3 o3 : Nat) (x5 x4 : Int) (i2 o2 : Nat) (h : Zaa) (ht :
 Zbb a0 fun I51 O52 => Zcg (Zak h (.ptr (some (I51, O52 + 2)))) fun B53 => bcase (!B53) (xSl (Zak h (.ptr (some (i3, o3 + 1)))) fun A54 N55 C56 E57 => Zae pg Zbw [.ptr a0] h fun V58 H59 =>
 Zsv V58 fun K60 => Zar K60 fun C61 Z62 => Zck .u8 (some C61) fun X63 => Zar Z62 fun C64 Z65 => xSl (some C64) fun A66 N67 C68 E69 => Zec Z65 ((Zak H59 (.ptr (some (i3, o3 + 1))) = Zak h (.ptr (some (i3, o3 + 1)))) ∧ Zev (H59 ++ [.cells Zab [.int .u8 X63, .slice A66 N67 C68 E69] false]) fun H70 => (Zak H70 (.ptr (some (i3, o3 + 1))) = Zak H59 (.ptr (some (i3, o3 + 1)))) ∧ Zcy pg Zen H70 (.slice A54 N55 C56 E57) (.slice (some (H59.length, 0)) 1 1 true) fun V71 H72 => xSl (some V71) fun A73 N74 C75 E76 => Zcr (Zbi H72 (.ptr (some (i3, o3 + 1))) [.slice A73 N74 C75 E76]) fun H77 => J6 Q R5 x5 x4 a0 i3 o3 i2 o2 H77)) (J6 Q R5 x5 x4 a0 i3 o3 i2 o2 h)) : J8 Q R5 a0 i3 o3 x5 x4 i2 o2 h :=
  Zbe (kp := kp) (cast (by kernel_rfl) ht)
theorem J12i (Q : QT) (i3 o3 i2 o2 : Nat) (h : Zaa) (ht :
 Zep (Zdd h (.ptr (some (i3, o3))) 2) fun K78 => Zar K78 fun C79 Z80 => Zck .u8 (some C79) fun X81 => Zar Z80 fun C82 Z83 => xSl (some C82) fun A84 N85 C86 E87 => Zec Z83 (Zcr (Zbi h (.ptr (some (i2, o2))) [.int .u8 X81, .slice A84 N85 C86 E87]) fun H88 => Zep (Zdd H88 (.ptr (some (i2, o2))) 2) fun K89 => Zar K89 fun C90 Z91 => Zck .u8 (some C90) fun X92 => Zar Z91 fun C93 Z94 => xSl (some C93) fun A95 N96 C97 E98 => Zec Z94 (Q (.agg [.int .u8 X92, .slice A95 N96 C97 E98]) H88))) : J12 Q i3 o3 i2 o2 h :=
  Zbe (kp := kp) (cast (by kernel_rfl) ht)
theorem J6i (Q : QT) (R5 : T5) (x5 x4 : Int) (a0 : Pt) (i3 o3 i2 o2 : Nat) (h : Zaa) (ht :
 R5 a0 i2 o2 i3 o3 x4 (IntKind.wrap .i64 (x5 + 1)) h) : J6 Q R5 x5 x4 a0 i3 o3 i2 o2 h :=
  Zbe (kp := kp) (cast (by kernel_rfl) ht)
theorem call (a0 : Pt) (h : Zaa) (Q : QT) (ht :
 Zev (h ++ [.cells Zab [.int .u8 0, .slice none 0 0 true] false]) fun H0 => Zae pg Zcm [.ptr a0] H0 fun V1 H2 =>
 Zck .u8 (some V1) fun X3 => Zev (H2 ++ [.cells Zab [] false]) fun H4 => Zev (H4 ++ [.cells Zab [.int .u8 0, .slice none 0 0 true] false]) fun H5 => Zcr (Zbi H5 (.ptr (some (H4.length, 0))) [.int .u8 X3, .slice (some (H2.length, 0)) 0 0 true]) fun H6 => Zck .u8 (Zak H6 (.ptr (some (H4.length, 0 + 0)))) fun X7 => Zae pg Zfg [.int .u8 X7] H6 fun V8 H9 =>
 Zck .i64 (some V8) fun X10 => Zbb a0 fun I11 O12 => Zcg (Zak H9 (.ptr (some (I11, O12 + 2)))) fun B13 => bcase B13 (Zbb a0 fun I14 O15 => Zcr (Zbi H9 (.ptr (some (I14, O15 + 2))) [.bool true]) fun H16 => J4 Q a0 h.length 0 H4.length 0 X10 H16) (Zbb a0 fun I17 O18 => Zcr (Zbi H9 (.ptr (some (I17, O18 + 2))) [.bool (decide ((X10 : Int) < 0))]) fun H19 => J4 Q a0 h.length 0 H4.length 0 X10 H19)) : Zae pg Zbw [.ptr a0] h Q :=
  Zae.of_body kp (c := cod fn) (fn := fn) Go.Proofs.Try.func88 (by kernel_rfl) (by kernel_rfl) (Nat.le_of_ble_eq_true (by kernel_rfl))
    (cast (by kernel_rfl) ht)
end Zah
namespace Zhm
noncomputable abbrev fn : Func := Go.Proofs.Try.f57
def kp : Zcv := [(4000005, [5, 2])]
noncomputable def C (p : List Nat) : Code := (cod fn).sub p
def KR (Q : QT) : KT := Zic pg fn.results.toList Q
def J5 (Q : QT) (i5 o5 i2 o2 : Nat) (h : Zaa) : Prop := Den pg fn.ntmps (C [1, 1, 1, 1]) [(5, .ptr (some (i5, o5))), (2, .ptr (some (i2, o2)))] h (KR Q)
theorem J5i (Q : QT) (i5 o5 i2 o2 : Nat) (h : Zaa) (ht :
 Zep (Zdd h (.ptr (some (i5, o5))) 2) fun K51 => Zar K51 fun C52 Z53 => Zck .u8 (some C52) fun X54 => Zar Z53 fun C55 Z56 => xSl (some C55) fun A57 N58 C59 E60 => Zec Z56 (Zcr (Zbi h (.ptr (some (i2, o2))) [.int .u8 X54, .slice A57 N58 C59 E60]) fun H61 => Zep (Zdd H61 (.ptr (some (i2, o2))) 2) fun K62 => Zar K62 fun C63 Z64 => Zck .u8 (some C63) fun X65 => Zar Z64 fun C66 Z67 => xSl (some C66) fun A68 N69 C70 E71 => Zec Z67 (Q (.tup [.agg [.int .u8 X65, .slice A68 N69 C70 E71], .bool true]) H61))) : J5 Q i5 o5 i2 o2 h :=
  Zbe (kp := kp) (cast (by kernel_rfl) ht)
theorem call (x0 : List Nat) (h : Zaa) (Q : QT) (ht :
 Zev (h ++ [.cells Zab [.int .u8 0, .slice none 0 0 true] false]) fun H0 => Zev (H0 ++ [.cells Zbl [.str x0, .int .i64 0, .bool false] false]) fun H1 => Zae pg Zbw [.ptr (some (H0.length, 0))] H1 fun V2 H3 =>
 Zsv V2 fun K4 => Zar K4 fun C5 Z6 => Zck .u8 (some C5) fun X7 => Zar Z6 fun C8 Z9 => xSl (some C8) fun A10 N11 C12 E13 => Zec Z9 (Zev (H3 ++ [.cells Zab [.int .u8 0, .slice none 0 0 true] false]) fun H14 => Zcr (Zbi H14 (.ptr (some (H3.length, 0))) [.int .u8 X7, .slice A10 N11 C12 E13]) fun H15 => Zcg (Zak H15 (.ptr (some (H0.length, 0 + 2)))) fun B16 => bcase B16 (Zcr (Zbi H15 (.ptr (some (h.length, 0))) [.int .u8 0, .slice none 0 0 true]) fun H17 => Zep (Zdd H17 (.ptr (some (h.length, 0))) 2) fun K18 => Zar K18 fun C19 Z20 => Zck .u8 (some C19) fun X21 => Zar Z20 fun C22 Z23 => xSl (some C22) fun A24 N25 C26 E27 => Zec Z23 (Q (.tup [.agg [.int .u8 X21, .slice A24 N25 C26 E27], .bool false]) H17)) (Zck .i64 (Zak H15 (.ptr (some (H0.length, 0 + 1)))) fun X28 => bcase (!((X28 : Int) == (((List.length x0 : Nat) : Int)))) (Zcr (Zbi H15 (.ptr (some (h.length, 0))) [.int .u8 0, .slice none 0 0 true]) fun H29 => Zep (Zdd H29 (.ptr (some (h.length, 0))) 2) fun K30 => Zar K30 fun C31 Z32 => Zck .u8 (some C31) fun X33 => Zar Z32 fun C34 Z35 => xSl (some C34) fun A36 N37 C38 E39 => Zec Z35 (Q (.tup [.agg [.int .u8 X33, .slice A36 N37 C38 E39], .bool false]) H29)) (bcase (decide (((((List.length x0 : Nat) : Int)) : Int) > 60)) (Zcr (Zbi H15 (.ptr (some (h.length, 0))) [.int .u8 0, .slice none 0 0 true]) fun H40 => Zep (Zdd H40 (.ptr (some (h.length, 0))) 2) fun K41 => Zar K41 fun C42 Z43 => Zck .u8 (some C42) fun X44 => Zar Z43 fun C45 Z46 => xSl (some C45) fun A47 N48 C49 E50 => Zec Z46 (Q (.tup [.agg [.int .u8 X44, .slice A47 N48 C49 E50], .bool false]) H40)) (J5 Q H3.length 0 h.length 0 H15))))) : Zae pg Zdx [.str x0] h Q :=
  Zae.of_body kp (c := cod fn) (fn := fn) Go.Proofs.Try.func57 (by kernel_rfl) (by kernel_rfl) (Nat.le_of_ble_eq_true (by kernel_rfl))
    (cast (by kernel_rfl) ht)
end Zhm
end Go.Sim

set_option maxRecDepth 100000
set_option linter.unusedVariables false
namespace Go.Sim
open Go Go.RowKit
namespace Zik
noncomputable abbrev fn : Func := Go.Proofs.Try.f107
def kp : Zcv := [(4000009, [])]
noncomputable def C (p : List Nat) : Code := (cod fn).sub p
def KR (Q : QT) : KT := Zic pg fn.results.toList Q
def J9 (Q : QT) (h : Zaa) : Prop := Den pg fn.ntmps (C [1, 1]) [] h (KR Q)
theorem J9i (Q : QT) (h : Zaa) (ht :
 Q (.int .i64 (-1)) h) : J9 Q h :=
  Zbe (kp := kp) (cast (by kernel_rfl) ht)
theorem call (x0 : List Nat) (h : Zaa) (Q : QT) (ht :
 bcase (!((((List.length x0 : Nat) : Int) : Int) == 1)) (Q (.int .i64 (-1)) h) (Zae pg Zdm [.str ([105, 98, 117, 120, 121, 122, 88, 89, 90]), .str x0] h fun V0 H1 =>
 Zcg (some V0) fun B2 => bcase B2 (Q (.int .i64 0) H1) (bcase (decide (x0 = [108])) (Q (.int .i64 1) H1) (bcase (decide (x0 = [109])) (Q (.int .i64 1) H1) (bcase (decide (x0 = [112])) (Q (.int .i64 2) H1) (J9 Q H1)))))) : Zae pg Zgm [.str x0] h Q :=
  Zae.of_body kp (c := cod fn) (fn := fn) Go.Proofs.Try.func107 (by kernel_rfl) (by kernel_rfl) (Nat.le_of_ble_eq_true (by kernel_rfl))
    (cast (by kernel_rfl) ht)
end Zik
namespace Zbv
noncomputable abbrev fn : Func := Go.Proofs.Try.f84
def kp : Zcv := [(4000003, [0]), (3000006, [4, 0, 2, 3]), (1000006, [0, 4, 27, 28]), (4000020, [4, 0])]
noncomputable def C (p : List Nat) : Code := (cod fn).sub p
def KR (Q : QT) : KT := Zic pg fn.results.toList Q
abbrev T6 := List Nat → Nat → Nat → Int → Int → Zaa → Prop
def E6 (R6 : T6) (env : Env) (h : Zaa) : Prop := Zcu 0 env fun v env => Zct (some v) fun x0 => Zcu 4 env fun v env => Zid (some v) fun a => Zbb a fun i4 o4 => Zcu 27 env fun v env => Zhr .i64 v fun x27 => Zcu 28 env fun v env => Zhr .i64 v fun x28 => Znt env (R6 x0 i4 o4 x27 x28 h)
theorem Zle {R6 : T6} {env : Env} {h : Zaa} (hi : E6 R6 env h) : ∃ x0, ∃ i4, ∃ o4, ∃ x27, ∃ x28, env = [(0, .str x0), (4, .ptr (some (i4, o4))), (27, .int .i64 x27), (28, .int .i64 x28)] ∧ R6 x0 i4 o4 x27 x28 h := by
  unfold E6 at hi
  have hi0 := hi
  clear hi
  obtain ⟨_, _, rfl, hi1⟩ := Zad hi0
  obtain ⟨x0, rfl, hi2⟩ := Zda hi1
  obtain ⟨_, _, rfl, hi3⟩ := Zad hi2
  obtain ⟨a, rfl, hi4⟩ := Zby hi3
  obtain ⟨i4, o4, rfl, hi5⟩ := Zbt hi4
  obtain ⟨_, _, rfl, hi6⟩ := Zad hi5
  obtain ⟨x27, rfl, hi7⟩ := Zav hi6
  obtain ⟨_, _, rfl, hi8⟩ := Zad hi7
  obtain ⟨x28, rfl, hi9⟩ := Zav hi8
  obtain ⟨rfl, hi10⟩ := Zbx hi9
  have hi := hi10
  exact ⟨x0, i4, o4, x27, x28, rfl, hi⟩
def K0 (Q : QT) : KT := andThen (fun env' h' => (match kp.find 4000016 with | some ks => Den pg fn.ntmps (C [1, 1, 1, 1, 1]) (env'.keep ks) h' (KR Q) | none => den pg fn.ntmps kp (C [1, 1, 1, 1, 1]) env' h' (KR Q))) (KR Q)
def K1 (Q : QT) : KT := Zdp 0 (K0 Q)
def K2 (Q : QT) : KT := left kp 6 (K1 Q)
def K3 (Q : QT) (R6 : T6) : KT := rnd ((kp.find 1000006).getD []) (E6 R6) (K2 Q)
def J3 (Q : QT) (x0 : List Nat) (h : Zaa) : Prop := Den pg fn.ntmps (C [1, 1]) [(0, .str x0)] h (KR Q)
def L6 (Q : QT) (x0 : List Nat) (i4 o4 : Nat) (x27 x28 : Int) (h : Zaa) : Prop := Zgw (Den pg fn.ntmps (C [1, 1, 1, 1, 0, 1, 0, 0])) ((kp.find 1000006).getD []) (K2 Q) [(0, .str x0), (4, .ptr (some (i4, o4))), (27, .int .i64 x27), (28, .int .i64 x28)] h
def Yal (Q : QT) (i4 o4 : Nat) (x0 : List Nat) (h : Zaa) : Prop := At (K1 Q) (.exit 0) [(4, .ptr (some (i4, o4))), (0, .str x0), (2, .undef), (3, .undef)] h
def J20 (Q : QT) (i4 o4 : Nat) (x0 : List Nat) (h : Zaa) : Prop := Den pg fn.ntmps (C [1, 1, 1, 1, 1, 1]) [(4, .ptr (some (i4, o4))), (0, .str x0)] h (KR Q)
theorem J3i (Q : QT) (x0 : List Nat) (h : Zaa) (ht :
 (0 ≤ (0 : Int) ∧ (0 : Int) ≤ 1 ∧ (1 : Int) ≤ (List.length x0 : Nat)) ∧ (Zev (h ++ [.cells Zcb [.str (sub x0 0 1), .slice none 0 0 true, .ptr none] false]) fun H3 => (0 ≤ (1 : Int) ∧ (1 : Int) ≤ (List.length x0 : Int) ∧ ((List.length x0 : Int) : Int) ≤ (List.length x0 : Nat)) ∧ (Zct (Zak H3 (.ptr (some (h.length, 0 + 0)))) fun S4 => Zae pg Zgm [.str S4] H3 fun V5 H6 =>
 Zck .i64 (some V5) fun X7 => L6 Q (sub x0 1 ((List.length x0 : Int))) h.length 0 X7 0 H6))) : J3 Q x0 h :=
  Zbe (kp := kp) (cast (by kernel_rfl) ht)
def L6t (Q : QT) (R6 : T6) (x0 : List Nat) (i4 o4 : Nat) (x27 x28 : Int) (h : Zaa) : Prop :=
 bcase (decide ((x28 : Int) < x27)) ((0 ≤ (x28 : Int) ∧ (x28 : Int) ≤ IntKind.wrap .i64 (x28 + 1) ∧ (IntKind.wrap .i64 (x28 + 1) : Int) ≤ (List.length ([40, 44]) : Nat)) ∧ (Zae pg Zem [.str x0, .str (sub ([40, 44]) x28 (IntKind.wrap .i64 (x28 + 1)))] h fun V8 H9 =>
 Zcg (some V8) fun B10 => bcase (!B10) (Q (.tup [.ptr none, .str x0]) H9) ((0 ≤ (1 : Int) ∧ (1 : Int) ≤ (List.length x0 : Int) ∧ ((List.length x0 : Int) : Int) ≤ (List.length x0 : Nat)) ∧ (Zae pg Zer [.str (sub x0 1 ((List.length x0 : Int)))] H9 fun V11 H12 =>
 Zpd V11 fun K13 => Zar K13 fun C14 Z15 => Zid (some C14) fun A16 => Zar Z15 fun C17 Z18 => Zct (some C17) fun S19 => Zec Z18 (bcase (Option.isNone A16) (Q (.tup [.ptr none, .str x0]) H12) (xSl (Zak H12 (.ptr (some (i4, o4 + 1)))) fun A20 N21 C22 E23 => Zev (H12 ++ [.cells Zcn [.ptr A16] false]) fun H24 => Zcy pg Zin H24 (.slice A20 N21 C22 E23) (.slice (some (H12.length, 0)) 1 1 true) fun V25 H26 => xSl (some V25) fun A27 N28 C29 E30 => Zcr (Zbi H26 (.ptr (some (i4, o4 + 1))) [.slice A27 N28 C29 E30]) fun H31 => R6 S19 i4 o4 x27 (IntKind.wrap .i64 (x28 + 1)) H31)))))) (Yal Q i4 o4 x0 h)
theorem Zym (Q : QT) (R6 : T6) (x0 : List Nat) (i4 o4 : Nat) (x27 x28 : Int) (h : Zaa) (ht : L6t Q R6 x0 i4 o4 x27 x28 h) : Den pg fn.ntmps (C [1, 1, 1, 1, 0, 1, 0, 0]) [(0, .str x0), (4, .ptr (some (i4, o4))), (27, .int .i64 x27), (28, .int .i64 x28)] h (K3 Q R6) :=
  Zbe (kp := kp) (cast (by kernel_rfl) ht)
theorem L6ind (Q : QT) (i4 o4 : Nat) (x27 : Int) {G : Type} (J : G → List Nat → Int → Zaa → Prop) (m : G → Nat)
 (hr : ∀ (g : G) (x0 : List Nat) (x28 : Int) (h : Zaa), J g x0 x28 h → ∀ (R6 : T6), (∀ g' (x0 : List Nat) (x28 : Int) (h : Zaa), m g' < m g → J g' x0 x28 h → R6 x0 i4 o4 x27 x28 h) → L6t Q R6 x0 i4 o4 x27 x28 h)
 (g : G) (x0 : List Nat) (x28 : Int) (h : Zaa) (hj : J g x0 x28 h) : L6 Q x0 i4 o4 x27 x28 h := by
  refine Zgw.inv2 (fun g => E6 fun x0 i4' o4' x27' x28 h => i4 = i4' ∧ o4 = o4' ∧ x27 = x27' ∧ J g x0 x28 h) (fun g => E6 fun x0 i4' o4' x27' x28 h => i4 = i4' ∧ o4 = o4' ∧ x27 = x27' ∧ ∃ g', m g' < m g ∧ J g' x0 x28 h) m ?_ ?_ g ⟨rfl, rfl, rfl, hj⟩
  · intro g env h hi
    obtain ⟨x0, i4', o4', x27', x28, rfl, rfl, rfl, rfl, hj⟩ := Zle hi
    exact Zym Q _ x0 i4 o4 x27 x28 h (hr g x0 x28 h hj (fun x0 i4' o4' x27' x28 h => i4 = i4' ∧ o4 = o4' ∧ x27 = x27' ∧ ∃ g', m g' < m g ∧ J g' x0 x28 h) fun g' x0 x28 h hlt hj => ⟨rfl, rfl, rfl, g', hlt, hj⟩)
  · intro g env h hi
    obtain ⟨x0, i4', o4', x27', x28, rfl, rfl, rfl, rfl, g', hlt, hj⟩ := Zle hi
    exact ⟨g', hlt, rfl, rfl, rfl, hj⟩
theorem A6x0i (Q : QT) (i4 o4 : Nat) (x0 : List Nat) (h : Zaa) (ht :
 xSl (Zak h (.ptr (some (i4, o4 + 1)))) fun A32 N33 C34 E35 => bcase (decide (((((N33 : Nat) : Int)) : Int) > 0)) (Zae pg Zem [.str x0, .str [41]] h fun V36 H37 =>
 Zcg (some V36) fun B38 => bcase (!B38) (Q (.tup [.ptr none, .str x0]) H37) ((0 ≤ (1 : Int) ∧ (1 : Int) ≤ (List.length x0 : Int) ∧ ((List.length x0 : Int) : Int) ≤ (List.length x0 : Nat)) ∧ (J20 Q i4 o4 (sub x0 1 ((List.length x0 : Int))) H37))) (J20 Q i4 o4 x0 h)) : Yal Q i4 o4 x0 h :=
  At.mk (cast (by kernel_rfl) ht)
theorem J20i (Q : QT) (i4 o4 : Nat) (x0 : List Nat) (h : Zaa) (ht :
 Q (.tup [.ptr (some (i4, o4)), .str x0]) h) : J20 Q i4 o4 x0 h :=
  Zbe (kp := kp) (cast (by kernel_rfl) ht)
theorem call (x0 : List Nat) (h : Zaa) (Q : QT) (ht :
 bcase (decide (x0 = [])) (Q (.tup [.ptr none, .str x0]) h) ((0 ≤ (0 : Int) ∧ (0 : Int) ≤ 1 ∧ (1 : Int) ≤ (List.length x0 : Nat)) ∧ (Zae pg Zgm [.str (sub x0 0 1)] h fun V0 H1 =>
 Zck .i64 (some V0) fun X2 => bcase (decide ((X2 : Int) < 0)) (Q (.tup [.ptr none, .str x0]) H1) (J3 Q x0 H1)))) : Zae pg Zer [.str x0] h Q :=
  Zae.of_body kp (c := cod fn) (fn := fn) Go.Proofs.Try.func84 (by kernel_rfl) (by kernel_rfl) (Nat.le_of_ble_eq_true (by kernel_rfl))
    (cast (by kernel_rfl) ht)
end Zbv
namespace Zjw
noncomputable abbrev fn : Func := Go.Proofs.Try.f54
def kp : Zcv := []
noncomputable def C (p : List Nat) : Code := (cod fn).sub p
def KR (Q : QT) : KT := Zic pg fn.results.toList Q
theorem call (x0 : List Nat) (h : Zaa) (Q : QT) (ht :
 bcase (decide (((((List.length x0 : Nat) : Int)) : Int) > 60)) (Q (.ptr none) h) (Zae pg Zer [.str x0] h fun V0 H1 =>
 Zpd V0 fun K2 => Zar K2 fun C3 Z4 => Zid (some C3) fun A5 => Zar Z4 fun C6 Z7 => Zct (some C6) fun S8 => Zec Z7 (bcase (!(decide (S8 = []))) (Q (.ptr none) H1) (Q (.ptr A5) H1)))) : Zae pg Zeu [.str x0] h Q :=
  Zae.of_body kp (c := cod fn) (fn := fn) Go.Proofs.Try.func54 (by kernel_rfl) (by kernel_rfl) (Nat.le_of_ble_eq_true (by kernel_rfl))
    (cast (by kernel_rfl) ht)
end Zjw
namespace Zib
noncomputable abbrev fn : Func := Go.Proofs.Try.f60
def kp : Zcv := []
noncomputable def C (p : List Nat) : Code := (cod fn).sub p
def KR (Q : QT) : KT := Zic pg fn.results.toList Q
theorem call (x0 : List Nat) (h : Zaa) (Q : QT) (ht :
 Zae pg Zeu [.str x0] h fun V0 H1 =>
 Zid (some V0) fun A2 => Q (.bool (!(Option.isNone A2))) H1) : Zae pg Zcx [.str x0] h Q :=
  Zae.of_body kp (c := cod fn) (fn := fn) Go.Proofs.Try.func60 (by kernel_rfl) (by kernel_rfl) (Nat.le_of_ble_eq_true (by kernel_rfl))
    (cast (by kernel_rfl) ht)
end Zib
end Go.Sim

set_option maxRecDepth 100000
set_option linter.unusedVariables false
namespace Go.Sim
open Go Go.RowKit
end Go.Sim

set_option maxRecDepth 100000
set_option linter.unusedVariables false
namespace Go.Sim
open Go Go.RowKit
end Go.Sim

set_option maxRecDepth 100000
set_option linter.unusedVariables false
namespace Go.Sim
open Go Go.RowKit
end Go.Sim

set_option maxRecDepth 100000
set_option linter.unusedVariables false
namespace Go.Sim
open Go Go.RowKit
namespace Zel
noncomputable abbrev fn : Func := Go.Proofs.Try.f63
def kp : Zcv := [(3000003, [3]), (1000003, [0, 3, 7, 8, 9]), (4000007, [9, 8, 7, 0, 3])]
noncomputable def C (p : List Nat) : Code := (cod fn).sub p
def KR (Q : QT) : KT := Zic pg fn.results.toList Q
abbrev T3 := List Nat → Pt → Nat → Nat → Bool → Pt → Nat → Nat → Bool → Int → Int → Zaa → Prop
def E3 (R3 : T3) (env : Env) (h : Zaa) : Prop := Zcu 0 env fun v env => Zct (some v) fun x0 => Zcu 3 env fun v env => xSl (some v) fun a3 n3 c3 e3 => Zcu 7 env fun v env => xSl (some v) fun a7 n7 c7 e7 => Zcu 8 env fun v env => Zhr .i64 v fun x8 => Zcu 9 env fun v env => Zhr .i64 v fun x9 => Znt env (R3 x0 a3 n3 c3 e3 a7 n7 c7 e7 x8 x9 h)
theorem Zgk {R3 : T3} {env : Env} {h : Zaa} (hi : E3 R3 env h) : ∃ x0, ∃ a3, ∃ n3, ∃ c3, ∃ e3, ∃ a7, ∃ n7, ∃ c7, ∃ e7, ∃ x8, ∃ x9, env = [(0, .str x0), (3, .slice a3 n3 c3 e3), (7, .slice a7 n7 c7 e7), (8, .int .i64 x8), (9, .int .i64 x9)] ∧ R3 x0 a3 n3 c3 e3 a7 n7 c7 e7 x8 x9 h := by
  unfold E3 at hi
  have hi0 := hi
  clear hi
  obtain ⟨_, _, rfl, hi1⟩ := Zad hi0
  obtain ⟨x0, rfl, hi2⟩ := Zda hi1
  obtain ⟨_, _, rfl, hi3⟩ := Zad hi2
  obtain ⟨a3, n3, c3, e3, rfl, hi4⟩ := Zci hi3
  obtain ⟨_, _, rfl, hi5⟩ := Zad hi4
  obtain ⟨a7, n7, c7, e7, rfl, hi6⟩ := Zci hi5
  obtain ⟨_, _, rfl, hi7⟩ := Zad hi6
  obtain ⟨x8, rfl, hi8⟩ := Zav hi7
  obtain ⟨_, _, rfl, hi9⟩ := Zad hi8
  obtain ⟨x9, rfl, hi10⟩ := Zav hi9
  obtain ⟨rfl, hi11⟩ := Zbx hi10
  have hi := hi11
  exact ⟨x0, a3, n3, c3, e3, a7, n7, c7, e7, x8, x9, rfl, hi⟩
def K0 (Q : QT) : KT := andThen (fun env' h' => (match kp.find 4000008 with | some ks => Den pg fn.ntmps (C [1, 1, 1]) (env'.keep ks) h' (KR Q) | none => den pg fn.ntmps kp (C [1, 1, 1]) env' h' (KR Q))) (KR Q)
def K1 (Q : QT) : KT := Zdp 0 (K0 Q)
def K2 (Q : QT) : KT := left kp 3 (K1 Q)
def K3 (Q : QT) (R3 : T3) : KT := rnd ((kp.find 1000003).getD []) (E3 R3) (K2 Q)
def L3 (Q : QT) (x0 : List Nat) (a3 : Pt) (n3 c3 : Nat) (e3 : Bool) (a7 : Pt) (n7 c7 : Nat) (e7 : Bool) (x8 x9 : Int) (h : Zaa) : Prop := Zgw (Den pg fn.ntmps (C [1, 1, 0, 1, 0, 0])) ((kp.find 1000003).getD []) (K2 Q) [(0, .str x0), (3, .slice a3 n3 c3 e3), (7, .slice a7 n7 c7 e7), (8, .int .i64 x8), (9, .int .i64 x9)] h
def J7 (Q : QT) (R3 : T3) (x9 x8 : Int) (a7 : Pt) (n7 c7 : Nat) (e7 : Bool) (x0 : List Nat) (a3 : Pt) (n3 c3 : Nat) (e3 : Bool) (h : Zaa) : Prop := Den pg fn.ntmps (C [1, 1, 0, 1, 0, 0, 1, 1, 1]) [(9, .int .i64 x9), (8, .int .i64 x8), (7, .slice a7 n7 c7 e7), (0, .str x0), (3, .slice a3 n3 c3 e3)] h (K3 Q R3)
def Ztc (Q : QT) (a3 : Pt) (n3 c3 : Nat) (e3 : Bool) (h : Zaa) : Prop := At (K1 Q) (.exit 0) [(3, .slice a3 n3 c3 e3)] h
def L3t (Q : QT) (R3 : T3) (x0 : List Nat) (a3 : Pt) (n3 c3 : Nat) (e3 : Bool) (a7 : Pt) (n7 c7 : Nat) (e7 : Bool) (x8 x9 : Int) (h : Zaa) : Prop :=
 bcase (decide ((x9 : Int) < x8)) ((0 ≤ (x9 : Int) ∧ (x9 : Int) < (n7 : Nat)) ∧ (Zbb a7 fun I2 O3 => Zct (Zak h (.ptr (some (I2, O3 + (Int.toNat x9) * 1)))) fun S4 => Zae pg Zdm [.str x0, .str S4] h fun V5 H6 =>
 Zcg (some V5) fun B7 => bcase B7 (Zev (H6 ++ [.cells Zbg [.str S4] false]) fun H8 => Zcy pg Zkn H8 (.slice a3 n3 c3 e3) (.slice (some (H6.length, 0)) 1 1 true) fun V9 H10 => xSl (some V9) fun A11 N12 C13 E14 => J7 Q R3 x9 x8 a7 n7 c7 e7 x0 A11 N12 C13 E14 H10) (J7 Q R3 x9 x8 a7 n7 c7 e7 x0 a3 n3 c3 e3 H6))) (Ztc Q a3 n3 c3 e3 h)
theorem Zpa (Q : QT) (R3 : T3) (x0 : List Nat) (a3 : Pt) (n3 c3 : Nat) (e3 : Bool) (a7 : Pt) (n7 c7 : Nat) (e7 : Bool) (x8 x9 : Int) (h : Zaa) (ht : L3t Q R3 x0 a3 n3 c3 e3 a7 n7 c7 e7 x8 x9 h) : Den pg fn.ntmps (C [1, 1, 0, 1, 0, 0]) [(0, .str x0), (3, .slice a3 n3 c3 e3), (7, .slice a7 n7 c7 e7), (8, .int .i64 x8), (9, .int .i64 x9)] h (K3 Q R3) :=
  Zbe (kp := kp) (cast (by kernel_rfl) ht)
theorem L3ind (Q : QT) (x0 : List Nat) (a7 : Pt) (n7 c7 : Nat) (e7 : Bool) (x8 : Int) {G : Type} (J : G → Pt → Nat → Nat → Bool → Int → Zaa → Prop) (m : G → Nat)
 (hr : ∀ (g : G) (a3 : Pt) (n3 c3 : Nat) (e3 : Bool) (x9 : Int) (h : Zaa), J g a3 n3 c3 e3 x9 h → ∀ (R3 : T3), (∀ g' (a3 : Pt) (n3 c3 : Nat) (e3 : Bool) (x9 : Int) (h : Zaa), m g' < m g → J g' a3 n3 c3 e3 x9 h → R3 x0 a3 n3 c3 e3 a7 n7 c7 e7 x8 x9 h) → L3t Q R3 x0 a3 n3 c3 e3 a7 n7 c7 e7 x8 x9 h)
 (g : G) (a3 : Pt) (n3 c3 : Nat) (e3 : Bool) (x9 : Int) (h : Zaa) (hj : J g a3 n3 c3 e3 x9 h) : L3 Q x0 a3 n3 c3 e3 a7 n7 c7 e7 x8 x9 h := by
  refine Zgw.inv2 (fun g => E3 fun x0' a3 n3 c3 e3 a7' n7' c7' e7' x8' x9 h => x0 = x0' ∧ a7 = a7' ∧ n7 = n7' ∧ c7 = c7' ∧ e7 = e7' ∧ x8 = x8' ∧ J g a3 n3 c3 e3 x9 h) (fun g => E3 fun x0' a3 n3 c3 e3 a7' n7' c7' e7' x8' x9 h => x0 = x0' ∧ a7 = a7' ∧ n7 = n7' ∧ c7 = c7' ∧ e7 = e7' ∧ x8 = x8' ∧ ∃ g', m g' < m g ∧ J g' a3 n3 c3 e3 x9 h) m ?_ ?_ g ⟨rfl, rfl, rfl, rfl, rfl, rfl, hj⟩
  · intro g env h hi
    obtain ⟨x0', a3, n3, c3, e3, a7', n7', c7', e7', x8', x9, rfl, rfl, rfl, rfl, rfl, rfl, rfl, hj⟩ := Zgk hi
    exact Zpa Q _ x0 a3 n3 c3 e3 a7 n7 c7 e7 x8 x9 h (hr g a3 n3 c3 e3 x9 h hj (fun x0' a3 n3 c3 e3 a7' n7' c7' e7' x8' x9 h => x0 = x0' ∧ a7 = a7' ∧ n7 = n7' ∧ c7 = c7' ∧ e7 = e7' ∧ x8 = x8' ∧ ∃ g', m g' < m g ∧ J g' a3 n3 c3 e3 x9 h) fun g' a3 n3 c3 e3 x9 h hlt hj => ⟨rfl, rfl, rfl, rfl, rfl, rfl, g', hlt, hj⟩)
  · intro g env h hi
    obtain ⟨x0', a3, n3, c3, e3, a7', n7', c7', e7', x8', x9, rfl, rfl, rfl, rfl, rfl, rfl, rfl, g', hlt, hj⟩ := Zgk hi
    exact ⟨g', hlt, rfl, rfl, rfl, rfl, rfl, rfl, hj⟩
theorem J7i (Q : QT) (R3 : T3) (x9 x8 : Int) (a7 : Pt) (n7 c7 : Nat) (e7 : Bool) (x0 : List Nat) (a3 : Pt) (n3 c3 : Nat) (e3 : Bool) (h : Zaa) (ht :
 R3 x0 a3 n3 c3 e3 a7 n7 c7 e7 x8 (IntKind.wrap .i64 (x9 + 1)) h) : J7 Q R3 x9 x8 a7 n7 c7 e7 x0 a3 n3 c3 e3 h :=
  Zbe (kp := kp) (cast (by kernel_rfl) ht)
theorem A3x0i (Q : QT) (a3 : Pt) (n3 c3 : Nat) (e3 : Bool) (h : Zaa) (ht :
 Q (.slice a3 n3 c3 e3) h) : Ztc Q a3 n3 c3 e3 h :=
  At.mk (cast (by kernel_rfl) ht)
theorem call (x0 : List Nat) (h : Zaa) (Q : QT) (ht :
 Zev (h ++ [.cells Zbg [] false]) fun H0 => Zev (H0 ++ [.cells Zbg [.str [88], .str [89], .str [90], .str [120], .str [121], .str [122]] false]) fun H1 => L3 Q x0 (some (h.length, 0)) 0 0 true (some (H0.length, 0)) 6 6 true (((6 : Nat) : Int)) 0 H1) : Zae pg Zjk [.str x0] h Q :=
  Zae.of_body kp (c := cod fn) (fn := fn) Go.Proofs.Try.func63 (by kernel_rfl) (by kernel_rfl) (Nat.le_of_ble_eq_true (by kernel_rfl))
    (cast (by kernel_rfl) ht)
end Zel
namespace Zki
noncomputable abbrev fn : Func := Go.Proofs.Try.f26
def kp : Zcv := []
noncomputable def C (p : List Nat) : Code := (cod fn).sub p
def KR (Q : QT) : KT := Zic pg fn.results.toList Q
theorem call (x0 : List Nat) (h : Zaa) (Q : QT) (ht :
 Zae pg Zcx [.str x0] h fun V0 H1 =>
 Zcg (some V0) fun B2 => bcase (!B2) (Q (.str []) H1) (Zae pg Zjk [.str x0] H1 fun V3 H4 =>
 xSl (some V3) fun A5 N6 C7 E8 => Zae pg Zgu [.slice A5 N6 C7 E8, .str []] H4 fun V9 H10 =>
 Zct (some V9) fun S11 => Q (.str S11) H10)) : Zae pg Zhl [.str x0] h Q :=
  Zae.of_body kp (c := cod fn) (fn := fn) Go.Proofs.Try.func26 (by kernel_rfl) (by kernel_rfl) (Nat.le_of_ble_eq_true (by kernel_rfl))
    (cast (by kernel_rfl) ht)
end Zki
namespace Zjt
noncomputable abbrev fn : Func := Go.Proofs.Try.f27
def kp : Zcv := []
noncomputable def C (p : List Nat) : Code := (cod fn).sub p
def KR (Q : QT) : KT := Zic pg fn.results.toList Q
theorem call (x0 : List Nat) (h : Zaa) (Q : QT) (ht :
 Zae pg Zcx [.str x0] h fun V0 H1 =>
 Zcg (some V0) fun B2 => bcase (!B2) (Q (.int .i64 (-1)) H1) (Zae pg Zes [.str x0, .str [40]] H1 fun V3 H4 =>
 Zck .i64 (some V3) fun X5 => Zae pg Zes [.str x0, .str [41]] H4 fun V6 H7 =>
 Zck .i64 (some V6) fun X8 => Zae pg Zes [.str x0, .str [44]] H7 fun V9 H10 =>
 Zck .i64 (some V9) fun X11 => Q (.int .i64 (IntKind.wrap .i64 ((IntKind.wrap .i64 ((IntKind.wrap .i64 ((((List.length x0 : Nat) : Int)) - X5)) - X8)) - X11))) H10)) : Zae pg Zft [.str x0] h Q :=
  Zae.of_body kp (c := cod fn) (fn := fn) Go.Proofs.Try.func27 (by kernel_rfl) (by kernel_rfl) (Nat.le_of_ble_eq_true (by kernel_rfl))
    (cast (by kernel_rfl) ht)
end Zjt
end Go.Sim

set_option maxRecDepth 100000
set_option linter.unusedVariables false
namespace Go.Sim
open Go Go.RowKit
namespace Zdq
noncomputable abbrev fn : Func := Go.Proofs.Try.f106
def kp : Zcv := [(4000004, [3, 0, 4]), (3000006, [6, 4]), (1000006, [0, 4, 6, 33, 34, 35]), (2000008, [35, 34, 33, 6, 0, 4])]
noncomputable def C (p : List Nat) : Code := (cod fn).sub p
def KR (Q : QT) : KT := Zic pg fn.results.toList Q
abbrev T6 := Pt → Nat → Nat → Nat → Nat → Pt → Nat → Nat → Bool → Int → Int → Zaa → Prop
def E6 (R6 : T6) (env : Env) (h : Zaa) : Prop := Zcu 0 env fun v env => Zid (some v) fun a0 => Zcu 4 env fun v env => Zid (some v) fun a => Zbb a fun i4 o4 => Zcu 6 env fun v env => Zid (some v) fun a => Zbb a fun i6 o6 => Zcu 33 env fun v env => xSl (some v) fun a33 n33 c33 e33 => Zcu 34 env fun v env => Zhr .i64 v fun x34 => Zcu 35 env fun v env => Zhr .i64 v fun x35 => Znt env (R6 a0 i4 o4 i6 o6 a33 n33 c33 e33 x34 x35 h)
theorem Zle {R6 : T6} {env : Env} {h : Zaa} (hi : E6 R6 env h) : ∃ a0, ∃ i4, ∃ o4, ∃ i6, ∃ o6, ∃ a33, ∃ n33, ∃ c33, ∃ e33, ∃ x34, ∃ x35, env = [(0, .ptr a0), (4, .ptr (some (i4, o4))), (6, .ptr (some (i6, o6))), (33, .slice a33 n33 c33 e33), (34, .int .i64 x34), (35, .int .i64 x35)] ∧ R6 a0 i4 o4 i6 o6 a33 n33 c33 e33 x34 x35 h := by
  unfold E6 at hi
  have hi0 := hi
  clear hi
  obtain ⟨_, _, rfl, hi1⟩ := Zad hi0
  obtain ⟨a0, rfl, hi2⟩ := Zby hi1
  obtain ⟨_, _, rfl, hi3⟩ := Zad hi2
  obtain ⟨a, rfl, hi4⟩ := Zby hi3
  obtain ⟨i4, o4, rfl, hi5⟩ := Zbt hi4
  obtain ⟨_, _, rfl, hi6⟩ := Zad hi5
  obtain ⟨a, rfl, hi7⟩ := Zby hi6
  obtain ⟨i6, o6, rfl, hi8⟩ := Zbt hi7
  obtain ⟨_, _, rfl, hi9⟩ := Zad hi8
  obtain ⟨a33, n33, c33, e33, rfl, hi10⟩ := Zci hi9
  obtain ⟨_, _, rfl, hi11⟩ := Zad hi10
  obtain ⟨x34, rfl, hi12⟩ := Zav hi11
  obtain ⟨_, _, rfl, hi13⟩ := Zad hi12
  obtain ⟨x35, rfl, hi14⟩ := Zav hi13
  obtain ⟨rfl, hi15⟩ := Zbx hi14
  have hi := hi15
  exact ⟨a0, i4, o4, i6, o6, a33, n33, c33, e33, x34, x35, rfl, hi⟩
def K0 (Q : QT) : KT := andThen (fun env' h' => (match kp.find 4000010 with | some ks => Den pg fn.ntmps (C [1, 1, 1, 1]) (env'.keep ks) h' (KR Q) | none => den pg fn.ntmps kp (C [1, 1, 1, 1]) env' h' (KR Q))) (KR Q)
def K1 (Q : QT) : KT := Zdp 0 (K0 Q)
def K2 (Q : QT) : KT := left kp 6 (K1 Q)
def K3 (Q : QT) (R6 : T6) : KT := rnd ((kp.find 1000006).getD []) (E6 R6) (K2 Q)
def J4 (Q : QT) (i3 o3 : Nat) (a0 : Pt) (i4 o4 : Nat) (h : Zaa) : Prop := Den pg fn.ntmps (C [1, 1]) [(3, .ptr (some (i3, o3))), (0, .ptr a0), (4, .ptr (some (i4, o4)))] h (KR Q)
def L6 (Q : QT) (a0 : Pt) (i4 o4 i6 o6 : Nat) (a33 : Pt) (n33 c33 : Nat) (e33 : Bool) (x34 x35 : Int) (h : Zaa) : Prop := Zgw (Den pg fn.ntmps (C [1, 1, 1, 0, 1, 0, 0])) ((kp.find 1000006).getD []) (K2 Q) [(0, .ptr a0), (4, .ptr (some (i4, o4))), (6, .ptr (some (i6, o6))), (33, .slice a33 n33 c33 e33), (34, .int .i64 x34), (35, .int .i64 x35)] h
def Yal (Q : QT) (i6 o6 i4 o4 : Nat) (h : Zaa) : Prop := At (K1 Q) (.exit 0) [(6, .ptr (some (i6, o6))), (4, .ptr (some (i4, o4)))] h
theorem J4i (Q : QT) (i3 o3 : Nat) (a0 : Pt) (i4 o4 : Nat) (h : Zaa) (ht :
 Zck .u8 (Zak h (.ptr (some (i3, o3 + 0)))) fun X32 => Zev (h ++ [.cells Zab [] false]) fun H33 => Zev (H33 ++ [.cells Zab [.int .u8 0, .slice none 0 0 true] false]) fun H34 => Zcr (Zbi H34 (.ptr (some (H33.length, 0))) [.int .u8 X32, .slice (some (h.length, 0)) 0 0 true]) fun H35 => xSl (Zak H35 (.ptr (some (i3, o3 + 1)))) fun A36 N37 C38 E39 => L6 Q a0 i4 o4 H33.length 0 A36 N37 C38 E39 (((N37 : Nat) : Int)) 0 H35) : J4 Q i3 o3 a0 i4 o4 h :=
  Zbe (kp := kp) (cast (by kernel_rfl) ht)
def L6t (Q : QT) (R6 : T6) (a0 : Pt) (i4 o4 i6 o6 : Nat) (a33 : Pt) (n33 c33 : Nat) (e33 : Bool) (x34 x35 : Int) (h : Zaa) : Prop :=
 bcase (decide ((x35 : Int) < x34)) ((0 ≤ (x35 : Int) ∧ (x35 : Int) < (n33 : Nat)) ∧ (Zbb a33 fun I40 O41 => Zep (Zdd h (.ptr (some (I40, O41 + (Int.toNat x35) * 2))) 2) fun K42 => Zar K42 fun C43 Z44 => Zck .u8 (some C43) fun X45 => Zar Z44 fun C46 Z47 => xSl (some C46) fun A48 N49 C50 E51 => Zec Z47 (Zev (h ++ [.cells Zab [.int .u8 0, .slice none 0 0 true] false]) fun H52 => Zcr (Zbi H52 (.ptr (some (h.length, 0))) [.int .u8 X45, .slice A48 N49 C50 E51]) fun H53 => xSl (Zak H53 (.ptr (some (i6, o6 + 1)))) fun A54 N55 C56 E57 => Zep (Zdd H53 (.ptr (some (h.length, 0))) 2) fun K58 => Zar K58 fun C59 Z60 => Zck .u8 (some C59) fun X61 => Zar Z60 fun C62 Z63 => xSl (some C62) fun A64 N65 C66 E67 => Zec Z63 ((Zak H53 (.ptr (some (i6, o6 + 1))) = Zak H53 (.ptr (some (i6, o6 + 1)))) ∧ Zae pg Zgq [.ptr a0, .agg [.int .u8 X61, .slice A64 N65 C66 E67]] H53 fun V68 H69 =>
 Zsv V68 fun K70 => Zar K70 fun C71 Z72 => Zck .u8 (some C71) fun X73 => Zar Z72 fun C74 Z75 => xSl (some C74) fun A76 N77 C78 E79 => Zec Z75 ((Zak H69 (.ptr (some (i6, o6 + 1))) = Zak H53 (.ptr (some (i6, o6 + 1)))) ∧ Zev (H69 ++ [.cells Zab [.int .u8 X73, .slice A76 N77 C78 E79] false]) fun H80 => (Zak H80 (.ptr (some (i6, o6 + 1))) = Zak H69 (.ptr (some (i6, o6 + 1)))) ∧ Zcy pg Zen H80 (.slice A54 N55 C56 E57) (.slice (some (H69.length, 0)) 1 1 true) fun V81 H82 => xSl (some V81) fun A83 N84 C85 E86 => Zcr (Zbi H82 (.ptr (some (i6, o6 + 1))) [.slice A83 N84 C85 E86]) fun H87 => R6 a0 i4 o4 i6 o6 a33 n33 c33 e33 x34 (IntKind.wrap .i64 (x35 + 1)) H87))))) (Yal Q i6 o6 i4 o4 h)
theorem Zym (Q : QT) (R6 : T6) (a0 : Pt) (i4 o4 i6 o6 : Nat) (a33 : Pt) (n33 c33 : Nat) (e33 : Bool) (x34 x35 : Int) (h : Zaa) (ht : L6t Q R6 a0 i4 o4 i6 o6 a33 n33 c33 e33 x34 x35 h) : Den pg fn.ntmps (C [1, 1, 1, 0, 1, 0, 0]) [(0, .ptr a0), (4, .ptr (some (i4, o4))), (6, .ptr (some (i6, o6))), (33, .slice a33 n33 c33 e33), (34, .int .i64 x34), (35, .int .i64 x35)] h (K3 Q R6) :=
  Zbe (kp := kp) (cast (by kernel_rfl) ht)
theorem L6ind (Q : QT) (a0 : Pt) (i4 o4 i6 o6 : Nat) (a33 : Pt) (n33 c33 : Nat) (e33 : Bool) (x34 : Int) {G : Type} (J : G → Int → Zaa → Prop) (m : G → Nat)
 (hr : ∀ (g : G) (x35 : Int) (h : Zaa), J g x35 h → ∀ (R6 : T6), (∀ g' (x35 : Int) (h : Zaa), m g' < m g → J g' x35 h → R6 a0 i4 o4 i6 o6 a33 n33 c33 e33 x34 x35 h) → L6t Q R6 a0 i4 o4 i6 o6 a33 n33 c33 e33 x34 x35 h)
 (g : G) (x35 : Int) (h : Zaa) (hj : J g x35 h) : L6 Q a0 i4 o4 i6 o6 a33 n33 c33 e33 x34 x35 h := by
  refine Zgw.inv2 (fun g => E6 fun a0' i4' o4' i6' o6' a33' n33' c33' e33' x34' x35 h => a0 = a0' ∧ i4 = i4' ∧ o4 = o4' ∧ i6 = i6' ∧ o6 = o6' ∧ a33 = a33' ∧ n33 = n33' ∧ c33 = c33' ∧ e33 = e33' ∧ x34 = x34' ∧ J g x35 h) (fun g => E6 fun a0' i4' o4' i6' o6' a33' n33' c33' e33' x34' x35 h => a0 = a0' ∧ i4 = i4' ∧ o4 = o4' ∧ i6 = i6' ∧ o6 = o6' ∧ a33 = a33' ∧ n33 = n33' ∧ c33 = c33' ∧ e33 = e33' ∧ x34 = x34' ∧ ∃ g', m g' < m g ∧ J g' x35 h) m ?_ ?_ g ⟨rfl, rfl, rfl, rfl, rfl, rfl, rfl, rfl, rfl, rfl, hj⟩
  · intro g env h hi
    obtain ⟨a0', i4', o4', i6', o6', a33', n33', c33', e33', x34', x35, rfl, rfl, rfl, rfl, rfl, rfl, rfl, rfl, rfl, rfl, rfl, hj⟩ := Zle hi
    exact Zym Q _ a0 i4 o4 i6 o6 a33 n33 c33 e33 x34 x35 h (hr g x35 h hj (fun a0' i4' o4' i6' o6' a33' n33' c33' e33' x34' x35 h => a0 = a0' ∧ i4 = i4' ∧ o4 = o4' ∧ i6 = i6' ∧ o6 = o6' ∧ a33 = a33' ∧ n33 = n33' ∧ c33 = c33' ∧ e33 = e33' ∧ x34 = x34' ∧ ∃ g', m g' < m g ∧ J g' x35 h) fun g' x35 h hlt hj => ⟨rfl, rfl, rfl, rfl, rfl, rfl, rfl, rfl, rfl, rfl, g', hlt, hj⟩)
  · intro g env h hi
    obtain ⟨a0', i4', o4', i6', o6', a33', n33', c33', e33', x34', x35, rfl, rfl, rfl, rfl, rfl, rfl, rfl, rfl, rfl, rfl, rfl, g', hlt, hj⟩ := Zle hi
    exact ⟨g', hlt, rfl, rfl, rfl, rfl, rfl, rfl, rfl, rfl, rfl, rfl, hj⟩
theorem A6x0i (Q : QT) (i6 o6 i4 o4 : Nat) (h : Zaa) (ht :
 Zep (Zdd h (.ptr (some (i6, o6))) 2) fun K88 => Zar K88 fun C89 Z90 => Zck .u8 (some C89) fun X91 => Zar Z90 fun C92 Z93 => xSl (some C92) fun A94 N95 C96 E97 => Zec Z93 (Zcr (Zbi h (.ptr (some (i4, o4))) [.int .u8 X91, .slice A94 N95 C96 E97]) fun H98 => Zep (Zdd H98 (.ptr (some (i4, o4))) 2) fun K99 => Zar K99 fun C100 Z101 => Zck .u8 (some C100) fun X102 => Zar Z101 fun C103 Z104 => xSl (some C103) fun A105 N106 C107 E108 => Zec Z104 (Q (.agg [.int .u8 X102, .slice A105 N106 C107 E108]) H98))) : Yal Q i6 o6 i4 o4 h :=
  At.mk (cast (by kernel_rfl) ht)
theorem call (a0 : Pt) (x1x0 : Int) (a1x1 : Pt) (n1x1 c1x1 : Nat) (e1x1 : Bool) (h : Zaa) (Q : QT) (ht :
 Zev (h ++ [.cells Zab [.int .u8 x1x0, .slice a1x1 n1x1 c1x1 e1x1] false]) fun H0 => Zev (H0 ++ [.cells Zab [.int .u8 0, .slice none 0 0 true] false]) fun H1 => Zck .u8 (Zak H1 (.ptr (some (h.length, 0 + 0)))) fun X2 => Zae pg Zfe [.int .u8 X2] H1 fun V3 H4 =>
 Zck .i64 (some V3) fun X5 => bcase (decide ((X5 : Int) ≥ 0)) (Zbb a0 fun I6 O7 => (0 ≤ (X5 : Int) ∧ (X5 : Int) < (12 : Nat)) ∧ (Zck .u8 (Zak H4 (.ptr (some (I6, O7 + (Int.toNat X5) * 2 + 0)))) fun X8 => bcase (!((X8 : Int) == 0)) (Zbb a0 fun I9 O10 => (0 ≤ (X5 : Int) ∧ (X5 : Int) < (12 : Nat)) ∧ (Zep (Zdd H4 (.ptr (some (I9, O10 + (Int.toNat X5) * 2))) 2) fun K11 => Zar K11 fun C12 Z13 => Zck .u8 (some C12) fun X14 => Zar Z13 fun C15 Z16 => xSl (some C15) fun A17 N18 C19 E20 => Zec Z16 (Zcr (Zbi H4 (.ptr (some (H0.length, 0))) [.int .u8 X14, .slice A17 N18 C19 E20]) fun H21 => Zep (Zdd H21 (.ptr (some (H0.length, 0))) 2) fun K22 => Zar K22 fun C23 Z24 => Zck .u8 (some C23) fun X25 => Zar Z24 fun C26 Z27 => xSl (some C26) fun A28 N29 C30 E31 => Zec Z27 (Q (.agg [.int .u8 X25, .slice A28 N29 C30 E31]) H21)))) (J4 Q h.length 0 a0 H0.length 0 H4))) (J4 Q h.length 0 a0 H0.length 0 H4)) : Zae pg Zgq [.ptr a0, .agg [.int .u8 x1x0, .slice a1x1 n1x1 c1x1 e1x1]] h Q :=
  Zae.of_body kp (c := cod fn) (fn := fn) Go.Proofs.Try.func106 (by kernel_rfl) (by kernel_rfl) (Nat.le_of_ble_eq_true (by kernel_rfl))
    (cast (by kernel_rfl) ht)
end Zdq
end Go.Sim
