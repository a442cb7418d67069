/- A part of the proof of a statement of this seat: see the text that holds the theorem. No condition. -/
import Derived.Test.YtlljbdepamknoaaGreatDoorNm
set_option linter.unusedVariables false
set_option linter.unusedSimpArgs false
set_option linter.all false
set_option maxRecDepth 100000
set_option linter.unusedVariables false
namespace Go.Sim
open Go Go.RowKit
namespace Zeh
noncomputable abbrev fn : Func := Go.Proofs.Tryz.f151
def kp : Zcd := [(4000006, [2, 0, 7]), (2000008, [48, 0, 1, 2]), (3000011, [6]), (1000011, [1, 2, 52, 53, 54])]
noncomputable def C (p : List Nat) : Code := (cod fn).sub p
def KR (Q : QT) : KT := Zem pg fn.results.toList Q
abbrev T11 := Pt → Option Nat → Pt → Nat → Nat → Bool → Int → Int → Zaa → Prop
def E11 (R11 : T11) (env : Env) (h : Zaa) : Prop := Zbj 1 env fun v env => Zgg (some v) fun a1 => Zbj 2 env fun v env => Yhr (some v) fun m2 => Zbj 52 env fun v env => xSl (some v) fun a52 n52 c52 e52 => Zbj 53 env fun v env => Zda .i64 v fun x53 => Zbj 54 env fun v env => Zda .i64 v fun x54 => Ziw env (R11 a1 m2 a52 n52 c52 e52 x53 x54 h)
theorem Yiy {R11 : T11} {env : Env} {h : Zaa} (hi : E11 R11 env h) : ∃ a1, ∃ m2, ∃ a52, ∃ n52, ∃ c52, ∃ e52, ∃ x53, ∃ x54, env = [(1, .ptr a1), (2, .map m2), (52, .slice a52 n52 c52 e52), (53, .int .i64 x53), (54, .int .i64 x54)] ∧ R11 a1 m2 a52 n52 c52 e52 x53 x54 h := by
 unfold E11 at hi
 have hi0 := hi
 clear hi
 obtain ⟨_, _, rfl, hi1⟩ := Zab hi0
 obtain ⟨a1, rfl, hi2⟩ := Zbo hi1
 obtain ⟨_, _, rfl, hi3⟩ := Zab hi2
 obtain ⟨m2, rfl, hi4⟩ := Ybt hi3
 obtain ⟨_, _, rfl, hi5⟩ := Zab hi4
 obtain ⟨a52, n52, c52, e52, rfl, hi6⟩ := Zax hi5
 obtain ⟨_, _, rfl, hi7⟩ := Zab hi6
 obtain ⟨x53, rfl, hi8⟩ := Zak hi7
 obtain ⟨_, _, rfl, hi9⟩ := Zab hi8
 obtain ⟨x54, rfl, hi10⟩ := Zak hi9
 obtain ⟨rfl, hi11⟩ := Zbk hi10
 have hi := hi11
 exact ⟨a1, m2, a52, n52, c52, e52, x53, x54, rfl, hi⟩
def K0 (Q : QT) : KT := andThen (fun env' h' => (match kp.find 4000008 with | some ks => Den pg fn.ntmps (C [1, 1]) (env'.keep ks) h' (KR Q) | none => den pg fn.ntmps kp (C [1, 1]) env' h' (KR Q))) (KR Q)
def K1 (Q : QT) : KT := andThen (fun env' h' => (match kp.find 4000016 with | some ks => Den pg fn.ntmps (C [1, 1, 1, 1]) (env'.keep ks) h' (KR Q) | none => den pg fn.ntmps kp (C [1, 1, 1, 1]) env' h' (KR Q))) (KR Q)
def K2 (Q : QT) : KT := Zcg 0 (K1 Q)
def K3 (Q : QT) : KT := Zgf kp 11 (K2 Q)
def K4 (Q : QT) (R11 : T11) : KT := rnd ((kp.find 1000011).getD []) (E11 R11) (K3 Q)
def J6 (Q : QT) (m2 : Option Nat) (a0 : Pt) (x7 : List Nat) (h : Zaa) : Prop := Den pg fn.ntmps (C [1, 0, 1, 0, 1, 1]) [(2, .map m2), (0, .ptr a0), (7, .str x7)] h (K0 Q)
def L11 (Q : QT) (a1 : Pt) (m2 : Option Nat) (a52 : Pt) (n52 c52 : Nat) (e52 : Bool) (x53 x54 : Int) (h : Zaa) : Prop := Zdz (Den pg fn.ntmps (C [1, 1, 1, 0, 1, 0, 0])) ((kp.find 1000011).getD []) (K3 Q) [(1, .ptr a1), (2, .map m2), (52, .slice a52 n52 c52 e52), (53, .int .i64 x53), (54, .int .i64 x54)] h
def Yrc (Q : QT) (h : Zaa) : Prop := At (K2 Q) (.exit 0) [(6, .undef)] h
theorem J6i (Q : QT) (m2 : Option Nat) (a0 : Pt) (x7 : List Nat) (h : Zaa) (ht :
 Zbl a0 fun I28 O29 => Zbp (Zal h (.ptr (some (I28, O29 + 0)))) fun S30 => xMp m2 fun I31 => Zfi h (some I31) fun es_32 k_33 => Yds es_32 k_33 S30 (.str x7) fun es_34 k_35 => Zcn (List.set h I31 (.map es_34 k_35)) fun H36 => Q (.bool true) H36) : J6 Q m2 a0 x7 h :=
 Zbb (kp := kp) (cast (by kernel_rfl) ht)
def L11t (Q : QT) (R11 : T11) (a1 : Pt) (m2 : Option Nat) (a52 : Pt) (n52 c52 : Nat) (e52 : Bool) (x53 x54 : Int) (h : Zaa) : Prop :=
 bcase (decide ((x54 : Int) < x53)) ((0 ≤ (x54 : Int) ∧ (x54 : Int) < (n52 : Nat)) ∧ (Zbl a52 fun I37 O38 => Zgg (Zal h (.ptr (some (I37, O38 + (Int.toNat x54) * 1)))) fun A39 => Zbl a1 fun I40 O41 => xSl (Zal h (.ptr (some (I40, O41 + 1)))) fun A42 N43 C44 E45 => (0 ≤ (x54 : Int) ∧ (x54 : Int) < (N43 : Nat)) ∧ (Zbl A42 fun I46 O47 => Zgg (Zal h (.ptr (some (I46, O47 + (Int.toNat x54) * 1)))) fun A48 => Zae pg Zgx [.ptr A39, .ptr A48, .map m2] h fun V49 H50 =>
 Zch (some V49) fun B51 => bcase (!B51) (Q (.bool false) H50) (R11 a1 m2 a52 n52 c52 e52 x53 (IntKind.wrap .i64 (x54 + 1)) H50)))) (Yrc Q h)
theorem Ysl (Q : QT) (R11 : T11) (a1 : Pt) (m2 : Option Nat) (a52 : Pt) (n52 c52 : Nat) (e52 : Bool) (x53 x54 : Int) (h : Zaa) (ht : L11t Q R11 a1 m2 a52 n52 c52 e52 x53 x54 h) : Den pg fn.ntmps (C [1, 1, 1, 0, 1, 0, 0]) [(1, .ptr a1), (2, .map m2), (52, .slice a52 n52 c52 e52), (53, .int .i64 x53), (54, .int .i64 x54)] h (K4 Q R11) :=
 Zbb (kp := kp) (cast (by kernel_rfl) ht)
theorem L11ind (Q : QT) (a1 : Pt) (m2 : Option Nat) (a52 : Pt) (n52 c52 : Nat) (e52 : Bool) (x53 : Int) {G : Type} (J : G → Int → Zaa → Prop) (m : G → Nat)
 (hr : ∀ (g : G) (x54 : Int) (h : Zaa), J g x54 h → ∀ (R11 : T11), (∀ g' (x54 : Int) (h : Zaa), m g' < m g → J g' x54 h → R11 a1 m2 a52 n52 c52 e52 x53 x54 h) → L11t Q R11 a1 m2 a52 n52 c52 e52 x53 x54 h)
 (g : G) (x54 : Int) (h : Zaa) (hj : J g x54 h) : L11 Q a1 m2 a52 n52 c52 e52 x53 x54 h := by
 refine Zdz.inv2 (fun g => E11 fun a1' m2' a52' n52' c52' e52' x53' x54 h => a1 = a1' ∧ m2 = m2' ∧ a52 = a52' ∧ n52 = n52' ∧ c52 = c52' ∧ e52 = e52' ∧ x53 = x53' ∧ J g x54 h) (fun g => E11 fun a1' m2' a52' n52' c52' e52' x53' x54 h => a1 = a1' ∧ m2 = m2' ∧ a52 = a52' ∧ n52 = n52' ∧ c52 = c52' ∧ e52 = e52' ∧ x53 = x53' ∧ ∃ g', m g' < m g ∧ J g' x54 h) m ?_ ?_ g ⟨rfl, rfl, rfl, rfl, rfl, rfl, rfl, hj⟩
 ·intro g env h hi
  obtain ⟨a1', m2', a52', n52', c52', e52', x53', x54, rfl, rfl, rfl, rfl, rfl, rfl, rfl, rfl, hj⟩ := Yiy hi
  exact Ysl Q _ a1 m2 a52 n52 c52 e52 x53 x54 h (hr g x54 h hj (fun a1' m2' a52' n52' c52' e52' x53' x54 h => a1 = a1' ∧ m2 = m2' ∧ a52 = a52' ∧ n52 = n52' ∧ c52 = c52' ∧ e52 = e52' ∧ x53 = x53' ∧ ∃ g', m g' < m g ∧ J g' x54 h) fun g' x54 h hlt hj => ⟨rfl, rfl, rfl, rfl, rfl, rfl, rfl, g', hlt, hj⟩)
 ·intro g env h hi
  obtain ⟨a1', m2', a52', n52', c52', e52', x53', x54, rfl, rfl, rfl, rfl, rfl, rfl, rfl, rfl, g', hlt, hj⟩ := Yiy hi
  exact ⟨g', hlt, rfl, rfl, rfl, rfl, rfl, rfl, rfl, hj⟩
theorem A11x0i (Q : QT) (h : Zaa) (ht :
 Q (.bool true) h) : Yrc Q h :=
 At.mk (cast (by kernel_rfl) ht)
theorem call (a0 a1 : Pt) (m2 : Option Nat) (h : Zaa) (Q : QT) (ht :
 Zbl a0 fun I0 O1 => Zbp (Zal h (.ptr (some (I0, O1 + 0)))) fun S2 => Zae pg Zkd [.str S2] h fun V3 H4 =>
 Zch (some V3) fun B5 => bcase B5 (Zae pg Zhv [.ptr a1] H4 fun V6 H7 =>
 Zbp (some V6) fun S8 => Zbl a0 fun I9 O10 => Zbp (Zal H7 (.ptr (some (I9, O10 + 0)))) fun S11 => Zfi H7 m2 fun es_12 k_13 => Zre es_12 S11 fun Z14 => Zbp (some (Option.getD Z14 (.str []))) fun S15 => bcase (Option.isSome Z14) (bcase (!(decide (S15 = S8))) (Q (.bool false) H7) (J6 Q m2 a0 S8 H7)) (J6 Q m2 a0 S8 H7)) (Zbl a0 fun I16 O17 => Zbl a1 fun I18 O19 => Zbp (Zal H4 (.ptr (some (I16, O17 + 0)))) fun S20 => Zbp (Zal H4 (.ptr (some (I18, O19 + 0)))) fun S21 => (Zal H4 (.ptr (some (I16, O17 + 0))) = Zal H4 (.ptr (some (I16, O17 + 0)))) ∧ bcase (!(decide (S20 = S21))) (Q (.bool false) H4) (Zbl a0 fun I22 O23 => xSl (Zal H4 (.ptr (some (I22, O23 + 1)))) fun A24 N25 C26 E27 => L11 Q a1 m2 A24 N25 C26 E27 (((N25 : Nat) : Int)) 0 H4))) : Zae pg Zgx [.ptr a0, .ptr a1, .map m2] h Q :=
 Zae.of_body kp (c := cod fn) (fn := fn) Go.Proofs.Tryz.func151 (by kernel_rfl) (by kernel_rfl) (Nat.le_of_ble_eq_true (by kernel_rfl))
  (cast (by kernel_rfl) ht)
end Zeh
end Go.Sim

set_option maxRecDepth 100000
set_option linter.unusedVariables false
namespace Go.Sim
open Go Go.RowKit
namespace Zfy
noncomputable abbrev fn : Func := Go.Proofs.Tryz.f165
def kp : Zcd := [(3000005, [0, 3]), (1000005, [0, 3, 20, 21, 22]), (2000009, [2])]
noncomputable def C (p : List Nat) : Code := (cod fn).sub p
def KR (Q : QT) : KT := Zem pg fn.results.toList Q
abbrev T5 := Pt → Pt → Nat → Nat → Bool → Pt → Nat → Nat → Bool → Int → Int → Zaa → Prop
def E5 (R5 : T5) (env : Env) (h : Zaa) : Prop := Zbj 0 env fun v env => Zgg (some v) fun a0 => Zbj 3 env fun v env => xSl (some v) fun a3 n3 c3 e3 => Zbj 20 env fun v env => xSl (some v) fun a20 n20 c20 e20 => Zbj 21 env fun v env => Zda .i64 v fun x21 => Zbj 22 env fun v env => Zda .i64 v fun x22 => Ziw env (R5 a0 a3 n3 c3 e3 a20 n20 c20 e20 x21 x22 h)
theorem Zie {R5 : T5} {env : Env} {h : Zaa} (hi : E5 R5 env h) : ∃ a0, ∃ a3, ∃ n3, ∃ c3, ∃ e3, ∃ a20, ∃ n20, ∃ c20, ∃ e20, ∃ x21, ∃ x22, env = [(0, .ptr a0), (3, .slice a3 n3 c3 e3), (20, .slice a20 n20 c20 e20), (21, .int .i64 x21), (22, .int .i64 x22)] ∧ R5 a0 a3 n3 c3 e3 a20 n20 c20 e20 x21 x22 h := by
 unfold E5 at hi
 have hi0 := hi
 clear hi
 obtain ⟨_, _, rfl, hi1⟩ := Zab hi0
 obtain ⟨a0, rfl, hi2⟩ := Zbo hi1
 obtain ⟨_, _, rfl, hi3⟩ := Zab hi2
 obtain ⟨a3, n3, c3, e3, rfl, hi4⟩ := Zax hi3
 obtain ⟨_, _, rfl, hi5⟩ := Zab hi4
 obtain ⟨a20, n20, c20, e20, rfl, hi6⟩ := Zax hi5
 obtain ⟨_, _, rfl, hi7⟩ := Zab hi6
 obtain ⟨x21, rfl, hi8⟩ := Zak hi7
 obtain ⟨_, _, rfl, hi9⟩ := Zab hi8
 obtain ⟨x22, rfl, hi10⟩ := Zak hi9
 obtain ⟨rfl, hi11⟩ := Zbk hi10
 have hi := hi11
 exact ⟨a0, a3, n3, c3, e3, a20, n20, c20, e20, x21, x22, rfl, hi⟩
def K0 (Q : QT) : KT := andThen (fun env' h' => (match kp.find 4000009 with | some ks => Den pg fn.ntmps (C [1, 1, 1, 1]) (env'.keep ks) h' (KR Q) | none => den pg fn.ntmps kp (C [1, 1, 1, 1]) env' h' (KR Q))) (KR Q)
def K1 (Q : QT) : KT := Zcg 0 (K0 Q)
def K2 (Q : QT) : KT := Zgf kp 5 (K1 Q)
def K3 (Q : QT) (R5 : T5) : KT := rnd ((kp.find 1000005).getD []) (E5 R5) (K2 Q)
def L5 (Q : QT) (a0 a3 : Pt) (n3 c3 : Nat) (e3 : Bool) (a20 : Pt) (n20 c20 : Nat) (e20 : Bool) (x21 x22 : Int) (h : Zaa) : Prop := Zdz (Den pg fn.ntmps (C [1, 1, 1, 0, 1, 0, 0])) ((kp.find 1000005).getD []) (K2 Q) [(0, .ptr a0), (3, .slice a3 n3 c3 e3), (20, .slice a20 n20 c20 e20), (21, .int .i64 x21), (22, .int .i64 x22)] h
def A5x0 (Q : QT) (a0 a3 : Pt) (n3 c3 : Nat) (e3 : Bool) (h : Zaa) : Prop := At (K1 Q) (.exit 0) [(0, .ptr a0), (3, .slice a3 n3 c3 e3)] h
def L5t (Q : QT) (R5 : T5) (a0 a3 : Pt) (n3 c3 : Nat) (e3 : Bool) (a20 : Pt) (n20 c20 : Nat) (e20 : Bool) (x21 x22 : Int) (h : Zaa) : Prop :=
 bcase (decide ((x22 : Int) < x21)) ((0 ≤ (x22 : Int) ∧ (x22 : Int) < (n20 : Nat)) ∧ (Zbl a20 fun I16 O17 => Zgg (Zal h (.ptr (some (I16, O17 + (Int.toNat x22) * 1)))) fun A18 => Zae pg Zhv [.ptr A18] h fun V19 H20 =>
 Zbp (some V19) fun S21 => Zcn (H20 ++ [.cells Zaz [.str S21] false]) fun H22 => Zdc pg Zbw H22 (.slice a3 n3 c3 e3) (.slice (some (H20.length, 0)) 1 1 true) fun V23 H24 => xSl (some V23) fun A25 N26 C27 E28 => R5 a0 A25 N26 C27 E28 a20 n20 c20 e20 x21 (IntKind.wrap .i64 (x22 + 1)) H24)) (A5x0 Q a0 a3 n3 c3 e3 h)
theorem Ztn (Q : QT) (R5 : T5) (a0 a3 : Pt) (n3 c3 : Nat) (e3 : Bool) (a20 : Pt) (n20 c20 : Nat) (e20 : Bool) (x21 x22 : Int) (h : Zaa) (ht : L5t Q R5 a0 a3 n3 c3 e3 a20 n20 c20 e20 x21 x22 h) : Den pg fn.ntmps (C [1, 1, 1, 0, 1, 0, 0]) [(0, .ptr a0), (3, .slice a3 n3 c3 e3), (20, .slice a20 n20 c20 e20), (21, .int .i64 x21), (22, .int .i64 x22)] h (K3 Q R5) :=
 Zbb (kp := kp) (cast (by kernel_rfl) ht)
theorem L5ind (Q : QT) (a0 a20 : Pt) (n20 c20 : Nat) (e20 : Bool) (x21 : Int) {G : Type} (J : G → Pt → Nat → Nat → Bool → Int → Zaa → Prop) (m : G → Nat)
 (hr : ∀ (g : G) (a3 : Pt) (n3 c3 : Nat) (e3 : Bool) (x22 : Int) (h : Zaa), J g a3 n3 c3 e3 x22 h → ∀ (R5 : T5), (∀ g' (a3 : Pt) (n3 c3 : Nat) (e3 : Bool) (x22 : Int) (h : Zaa), m g' < m g → J g' a3 n3 c3 e3 x22 h → R5 a0 a3 n3 c3 e3 a20 n20 c20 e20 x21 x22 h) → L5t Q R5 a0 a3 n3 c3 e3 a20 n20 c20 e20 x21 x22 h)
 (g : G) (a3 : Pt) (n3 c3 : Nat) (e3 : Bool) (x22 : Int) (h : Zaa) (hj : J g a3 n3 c3 e3 x22 h) : L5 Q a0 a3 n3 c3 e3 a20 n20 c20 e20 x21 x22 h := by
 refine Zdz.inv2 (fun g => E5 fun a0' a3 n3 c3 e3 a20' n20' c20' e20' x21' x22 h => a0 = a0' ∧ a20 = a20' ∧ n20 = n20' ∧ c20 = c20' ∧ e20 = e20' ∧ x21 = x21' ∧ J g a3 n3 c3 e3 x22 h) (fun g => E5 fun a0' a3 n3 c3 e3 a20' n20' c20' e20' x21' x22 h => a0 = a0' ∧ a20 = a20' ∧ n20 = n20' ∧ c20 = c20' ∧ e20 = e20' ∧ x21 = x21' ∧ ∃ g', m g' < m g ∧ J g' a3 n3 c3 e3 x22 h) m ?_ ?_ g ⟨rfl, rfl, rfl, rfl, rfl, rfl, hj⟩
 ·intro g env h hi
  obtain ⟨a0', a3, n3, c3, e3, a20', n20', c20', e20', x21', x22, rfl, rfl, rfl, rfl, rfl, rfl, rfl, hj⟩ := Zie hi
  exact Ztn Q _ a0 a3 n3 c3 e3 a20 n20 c20 e20 x21 x22 h (hr g a3 n3 c3 e3 x22 h hj (fun a0' a3 n3 c3 e3 a20' n20' c20' e20' x21' x22 h => a0 = a0' ∧ a20 = a20' ∧ n20 = n20' ∧ c20 = c20' ∧ e20 = e20' ∧ x21 = x21' ∧ ∃ g', m g' < m g ∧ J g' a3 n3 c3 e3 x22 h) fun g' a3 n3 c3 e3 x22 h hlt hj => ⟨rfl, rfl, rfl, rfl, rfl, rfl, g', hlt, hj⟩)
 ·intro g env h hi
  obtain ⟨a0', a3, n3, c3, e3, a20', n20', c20', e20', x21', x22, rfl, rfl, rfl, rfl, rfl, rfl, rfl, g', hlt, hj⟩ := Zie hi
  exact ⟨g', hlt, rfl, rfl, rfl, rfl, rfl, rfl, hj⟩
theorem A5x0i (Q : QT) (a0 a3 : Pt) (n3 c3 : Nat) (e3 : Bool) (h : Zaa) (ht :
 Zbl a0 fun I29 O30 => Zbp (Zal h (.ptr (some (I29, O30 + 0)))) fun S31 => List.length S31 + List.length [40] ≤ 9223372036854775807 ∧ (Zae pg Zml [.slice a3 n3 c3 e3, .str [44]] h fun V32 H33 =>
 Zbp (some V32) fun S34 => (Zal H33 (.ptr (some (I29, O30 + 0))) = Zal h (.ptr (some (I29, O30 + 0)))) ∧ List.length (S31 ++ [40]) + List.length S34 ≤ 9223372036854775807 ∧ (List.length ((S31 ++ [40]) ++ S34) + List.length [41] ≤ 9223372036854775807 ∧ (Q (.str (((S31 ++ [40]) ++ S34) ++ [41])) H33)))) : A5x0 Q a0 a3 n3 c3 e3 h :=
 At.mk (cast (by kernel_rfl) ht)
theorem call (a0 : Pt) (h : Zaa) (Q : QT) (ht :
 Zbl a0 fun I0 O1 => xSl (Zal h (.ptr (some (I0, O1 + 1)))) fun A2 N3 C4 E5 => bcase ((((N3 : Nat) : Int) : Int) == 0) (Zbl a0 fun I6 O7 => Zbp (Zal h (.ptr (some (I6, O7 + 0)))) fun S8 => Q (.str S8) h) (Zcn (h ++ [.cells Zaz [] false]) fun H9 => Zbl a0 fun I10 O11 => xSl (Zal H9 (.ptr (some (I10, O11 + 1)))) fun A12 N13 C14 E15 => L5 Q a0 (some (h.length, 0)) 0 0 true A12 N13 C14 E15 (((N13 : Nat) : Int)) 0 H9)) : Zae pg Zhv [.ptr a0] h Q :=
 Zae.of_body kp (c := cod fn) (fn := fn) Go.Proofs.Tryz.func165 (by kernel_rfl) (by kernel_rfl) (Nat.le_of_ble_eq_true (by kernel_rfl))
  (cast (by kernel_rfl) ht)
end Zfy
namespace Zfr
noncomputable abbrev fn : Func := Go.Proofs.Tryz.f148
def kp : Zcd := [(3000003, [1, 3]), (1000003, [1, 3, 11, 12, 13]), (2000005, [13, 12, 11, 3, 1]), (4000009, [3])]
noncomputable def C (p : List Nat) : Code := (cod fn).sub p
def KR (Q : QT) : KT := Zem pg fn.results.toList Q
abbrev T3 := Nat → Nat → List Nat → Pt → Nat → Nat → Bool → Int → Int → Zaa → Prop
def E3 (R3 : T3) (env : Env) (h : Zaa) : Prop := Zbj 1 env fun v env => Zgg (some v) fun a => Zbl a fun i1 o1 => Zbj 3 env fun v env => Zbp (some v) fun x3 => Zbj 11 env fun v env => xSl (some v) fun a11 n11 c11 e11 => Zbj 12 env fun v env => Zda .i64 v fun x12 => Zbj 13 env fun v env => Zda .i64 v fun x13 => Ziw env (R3 i1 o1 x3 a11 n11 c11 e11 x12 x13 h)
theorem Zej {R3 : T3} {env : Env} {h : Zaa} (hi : E3 R3 env h) : ∃ i1, ∃ o1, ∃ x3, ∃ a11, ∃ n11, ∃ c11, ∃ e11, ∃ x12, ∃ x13, env = [(1, .ptr (some (i1, o1))), (3, .str x3), (11, .slice a11 n11 c11 e11), (12, .int .i64 x12), (13, .int .i64 x13)] ∧ R3 i1 o1 x3 a11 n11 c11 e11 x12 x13 h := by
 unfold E3 at hi
 have hi0 := hi
 clear hi
 obtain ⟨_, _, rfl, hi1⟩ := Zab hi0
 obtain ⟨a, rfl, hi2⟩ := Zbo hi1
 obtain ⟨i1, o1, rfl, hi3⟩ := Zbs hi2
 obtain ⟨_, _, rfl, hi4⟩ := Zab hi3
 obtain ⟨x3, rfl, hi5⟩ := Zdw hi4
 obtain ⟨_, _, rfl, hi6⟩ := Zab hi5
 obtain ⟨a11, n11, c11, e11, rfl, hi7⟩ := Zax hi6
 obtain ⟨_, _, rfl, hi8⟩ := Zab hi7
 obtain ⟨x12, rfl, hi9⟩ := Zak hi8
 obtain ⟨_, _, rfl, hi10⟩ := Zab hi9
 obtain ⟨x13, rfl, hi11⟩ := Zak hi10
 obtain ⟨rfl, hi12⟩ := Zbk hi11
 have hi := hi12
 exact ⟨i1, o1, x3, a11, n11, c11, e11, x12, x13, rfl, hi⟩
def K0 (Q : QT) : KT := andThen (fun env' h' => (match kp.find 4000007 with | some ks => Den pg fn.ntmps (C [1, 1, 1]) (env'.keep ks) h' (KR Q) | none => den pg fn.ntmps kp (C [1, 1, 1]) env' h' (KR Q))) (KR Q)
def K1 (Q : QT) : KT := Zcg 0 (K0 Q)
def K2 (Q : QT) : KT := Zgf kp 3 (K1 Q)
def K3 (Q : QT) (R3 : T3) : KT := rnd ((kp.find 1000003).getD []) (E3 R3) (K2 Q)
def L3 (Q : QT) (i1 o1 : Nat) (x3 : List Nat) (a11 : Pt) (n11 c11 : Nat) (e11 : Bool) (x12 x13 : Int) (h : Zaa) : Prop := Zdz (Den pg fn.ntmps (C [1, 1, 0, 1, 0, 0])) ((kp.find 1000003).getD []) (K2 Q) [(1, .ptr (some (i1, o1))), (3, .str x3), (11, .slice a11 n11 c11 e11), (12, .int .i64 x12), (13, .int .i64 x13)] h
def Zpf (Q : QT) (i1 o1 : Nat) (x3 : List Nat) (h : Zaa) : Prop := At (K1 Q) (.exit 0) [(1, .ptr (some (i1, o1))), (3, .str x3)] h
def J9 (Q : QT) (x3 : List Nat) (h : Zaa) : Prop := Den pg fn.ntmps (C [1, 1, 1, 1]) [(3, .str x3)] h (KR Q)
def L3t (Q : QT) (R3 : T3) (i1 o1 : Nat) (x3 : List Nat) (a11 : Pt) (n11 c11 : Nat) (e11 : Bool) (x12 x13 : Int) (h : Zaa) : Prop :=
 bcase (decide ((x13 : Int) < x12)) ((0 ≤ (x13 : Int) ∧ (x13 : Int) < (n11 : Nat)) ∧ (Zbl a11 fun I9 O10 => Zcz (Zbx h (.ptr (some (I9, O10 + (Int.toNat x13) * 2))) 2) fun K11 => Zao K11 fun C12 Z13 => Zen .u8 (some C12) fun X14 => Zao Z13 fun C15 Z16 => xSl (some C15) fun A17 N18 C19 E20 => Zcl Z16 (Zcn (h ++ [.cells Zac [.int .u8 0, .slice none 0 0 true] false]) fun H21 => Zcp (Zbn H21 (.ptr (some (h.length, 0))) [.int .u8 X14, .slice A17 N18 C19 E20]) fun H22 => (0 ≤ (x13 : Int) ∧ (x13 : Int) ≤ IntKind.wrap .i64 (x13 + 1) ∧ (IntKind.wrap .i64 (x13 + 1) : Int) ≤ (List.length ([40, 44]) : Nat)) ∧ (List.length x3 + List.length (sub ([40, 44]) x13 (IntKind.wrap .i64 (x13 + 1))) ≤ 9223372036854775807 ∧ (Zcz (Zbx H22 (.ptr (some (h.length, 0))) 2) fun K23 => Zao K23 fun C24 Z25 => Zen .u8 (some C24) fun X26 => Zao Z25 fun C27 Z28 => xSl (some C27) fun A29 N30 C31 E32 => Zcl Z28 (Zae pg Zfu [.agg [.int .u8 X26, .slice A29 N30 C31 E32]] H22 fun V33 H34 =>
 Zbp (some V33) fun S35 => List.length (x3 ++ (sub ([40, 44]) x13 (IntKind.wrap .i64 (x13 + 1)))) + List.length S35 ≤ 9223372036854775807 ∧ (R3 i1 o1 ((x3 ++ (sub ([40, 44]) x13 (IntKind.wrap .i64 (x13 + 1)))) ++ S35) a11 n11 c11 e11 x12 (IntKind.wrap .i64 (x13 + 1)) H34))))))) (Zpf Q i1 o1 x3 h)
theorem Zkx (Q : QT) (R3 : T3) (i1 o1 : Nat) (x3 : List Nat) (a11 : Pt) (n11 c11 : Nat) (e11 : Bool) (x12 x13 : Int) (h : Zaa) (ht : L3t Q R3 i1 o1 x3 a11 n11 c11 e11 x12 x13 h) : Den pg fn.ntmps (C [1, 1, 0, 1, 0, 0]) [(1, .ptr (some (i1, o1))), (3, .str x3), (11, .slice a11 n11 c11 e11), (12, .int .i64 x12), (13, .int .i64 x13)] h (K3 Q R3) :=
 Zbb (kp := kp) (cast (by kernel_rfl) ht)
theorem L3ind (Q : QT) (i1 o1 : Nat) (a11 : Pt) (n11 c11 : Nat) (e11 : Bool) (x12 : Int) {G : Type} (J : G → List Nat → Int → Zaa → Prop) (m : G → Nat)
 (hr : ∀ (g : G) (x3 : List Nat) (x13 : Int) (h : Zaa), J g x3 x13 h → ∀ (R3 : T3), (∀ g' (x3 : List Nat) (x13 : Int) (h : Zaa), m g' < m g → J g' x3 x13 h → R3 i1 o1 x3 a11 n11 c11 e11 x12 x13 h) → L3t Q R3 i1 o1 x3 a11 n11 c11 e11 x12 x13 h)
 (g : G) (x3 : List Nat) (x13 : Int) (h : Zaa) (hj : J g x3 x13 h) : L3 Q i1 o1 x3 a11 n11 c11 e11 x12 x13 h := by
 refine Zdz.inv2 (fun g => E3 fun i1' o1' x3 a11' n11' c11' e11' x12' x13 h => i1 = i1' ∧ o1 = o1' ∧ a11 = a11' ∧ n11 = n11' ∧ c11 = c11' ∧ e11 = e11' ∧ x12 = x12' ∧ J g x3 x13 h) (fun g => E3 fun i1' o1' x3 a11' n11' c11' e11' x12' x13 h => i1 = i1' ∧ o1 = o1' ∧ a11 = a11' ∧ n11 = n11' ∧ c11 = c11' ∧ e11 = e11' ∧ x12 = x12' ∧ ∃ g', m g' < m g ∧ J g' x3 x13 h) m ?_ ?_ g ⟨rfl, rfl, rfl, rfl, rfl, rfl, rfl, hj⟩
 ·intro g env h hi
  obtain ⟨i1', o1', x3, a11', n11', c11', e11', x12', x13, rfl, rfl, rfl, rfl, rfl, rfl, rfl, rfl, hj⟩ := Zej hi
  exact Zkx Q _ i1 o1 x3 a11 n11 c11 e11 x12 x13 h (hr g x3 x13 h hj (fun i1' o1' x3 a11' n11' c11' e11' x12' x13 h => i1 = i1' ∧ o1 = o1' ∧ a11 = a11' ∧ n11 = n11' ∧ c11 = c11' ∧ e11 = e11' ∧ x12 = x12' ∧ ∃ g', m g' < m g ∧ J g' x3 x13 h) fun g' x3 x13 h hlt hj => ⟨rfl, rfl, rfl, rfl, rfl, rfl, rfl, g', hlt, hj⟩)
 ·intro g env h hi
  obtain ⟨i1', o1', x3, a11', n11', c11', e11', x12', x13, rfl, rfl, rfl, rfl, rfl, rfl, rfl, rfl, g', hlt, hj⟩ := Zej hi
  exact ⟨g', hlt, rfl, rfl, rfl, rfl, rfl, rfl, rfl, hj⟩
theorem A3x0i (Q : QT) (i1 o1 : Nat) (x3 : List Nat) (h : Zaa) (ht :
 xSl (Zal h (.ptr (some (i1, o1 + 1)))) fun A36 N37 C38 E39 => bcase (decide (((((N37 : Nat) : Int)) : Int) > 0)) (List.length x3 + List.length [41] ≤ 9223372036854775807 ∧ (J9 Q (x3 ++ [41]) h)) (J9 Q x3 h)) : Zpf Q i1 o1 x3 h :=
 At.mk (cast (by kernel_rfl) ht)
theorem J9i (Q : QT) (x3 : List Nat) (h : Zaa) (ht :
 Q (.str x3) h) : J9 Q x3 h :=
 Zbb (kp := kp) (cast (by kernel_rfl) ht)
theorem call (x0x0 : Int) (a0x1 : Pt) (n0x1 c0x1 : Nat) (e0x1 : Bool) (h : Zaa) (Q : QT) (ht :
 Zcn (h ++ [.cells Zac [.int .u8 x0x0, .slice a0x1 n0x1 c0x1 e0x1] false]) fun H0 => Zen .u8 (Zal H0 (.ptr (some (h.length, 0 + 0)))) fun X1 => Zcn (H0 ++ [.cells Zyo [.int .u8 X1] false]) fun H2 => Zcz (rowOf H2 (some (H0.length, 0)) 1) fun K3 => Zlb K3 fun S4 => xSl (Zal H2 (.ptr (some (h.length, 0 + 1)))) fun A5 N6 C7 E8 => L3 Q h.length 0 S4 A5 N6 C7 E8 (((N6 : Nat) : Int)) 0 H2) : Zae pg Zfu [.agg [.int .u8 x0x0, .slice a0x1 n0x1 c0x1 e0x1]] h Q :=
 Zae.of_body kp (c := cod fn) (fn := fn) Go.Proofs.Tryz.func148 (by kernel_rfl) (by kernel_rfl) (Nat.le_of_ble_eq_true (by kernel_rfl))
  (cast (by kernel_rfl) ht)
end Zfr
end Go.Sim

set_option maxRecDepth 100000
set_option linter.unusedVariables false
namespace Go.Sim
open Go Go.RowKit
namespace Zfh
noncomputable abbrev fn : Func := Go.Proofs.Tryz.f33
def kp : Zcd := [(3000003, [3]), (1000003, [0, 3, 4])]
noncomputable def C (p : List Nat) : Code := (cod fn).sub p
def KR (Q : QT) : KT := Zem pg fn.results.toList Q
abbrev T3 := Pt → Nat → Nat → Bool → Pt → Nat → Nat → Bool → Int → Zaa → Prop
def E3 (R3 : T3) (env : Env) (h : Zaa) : Prop := Zbj 0 env fun v env => xSl (some v) fun a0 n0 c0 e0 => Zbj 3 env fun v env => xSl (some v) fun a3 n3 c3 e3 => Zbj 4 env fun v env => Zda .i64 v fun x4 => Ziw env (R3 a0 n0 c0 e0 a3 n3 c3 e3 x4 h)
theorem Zej {R3 : T3} {env : Env} {h : Zaa} (hi : E3 R3 env h) : ∃ a0, ∃ n0, ∃ c0, ∃ e0, ∃ a3, ∃ n3, ∃ c3, ∃ e3, ∃ x4, env = [(0, .slice a0 n0 c0 e0), (3, .slice a3 n3 c3 e3), (4, .int .i64 x4)] ∧ R3 a0 n0 c0 e0 a3 n3 c3 e3 x4 h := by
 unfold E3 at hi
 have hi0 := hi
 clear hi
 obtain ⟨_, _, rfl, hi1⟩ := Zab hi0
 obtain ⟨a0, n0, c0, e0, rfl, hi2⟩ := Zax hi1
 obtain ⟨_, _, rfl, hi3⟩ := Zab hi2
 obtain ⟨a3, n3, c3, e3, rfl, hi4⟩ := Zax hi3
 obtain ⟨_, _, rfl, hi5⟩ := Zab hi4
 obtain ⟨x4, rfl, hi6⟩ := Zak hi5
 obtain ⟨rfl, hi7⟩ := Zbk hi6
 have hi := hi7
 exact ⟨a0, n0, c0, e0, a3, n3, c3, e3, x4, rfl, hi⟩
def K0 (Q : QT) : KT := andThen (fun env' h' => (match kp.find 4000006 with | some ks => Den pg fn.ntmps (C [1, 1, 1]) (env'.keep ks) h' (KR Q) | none => den pg fn.ntmps kp (C [1, 1, 1]) env' h' (KR Q))) (KR Q)
def K1 (Q : QT) : KT := Zcg 0 (K0 Q)
def K2 (Q : QT) : KT := Zgf kp 3 (K1 Q)
def K3 (Q : QT) (R3 : T3) : KT := rnd ((kp.find 1000003).getD []) (E3 R3) (K2 Q)
def L3 (Q : QT) (a0 : Pt) (n0 c0 : Nat) (e0 : Bool) (a3 : Pt) (n3 c3 : Nat) (e3 : Bool) (x4 : Int) (h : Zaa) : Prop := Zdz (Den pg fn.ntmps (C [1, 1, 0, 1, 0, 0])) ((kp.find 1000003).getD []) (K2 Q) [(0, .slice a0 n0 c0 e0), (3, .slice a3 n3 c3 e3), (4, .int .i64 x4)] h
def Zpf (Q : QT) (a3 : Pt) (n3 c3 : Nat) (e3 : Bool) (h : Zaa) : Prop := At (K1 Q) (.exit 0) [(3, .slice a3 n3 c3 e3)] h
def L3t (Q : QT) (R3 : T3) (a0 : Pt) (n0 c0 : Nat) (e0 : Bool) (a3 : Pt) (n3 c3 : Nat) (e3 : Bool) (x4 : Int) (h : Zaa) : Prop :=
 bcase (decide ((x4 : Int) < (((n0 : Nat) : Int)))) ((0 ≤ (x4 : Int) ∧ (x4 : Int) < (n0 : Nat)) ∧ (Zbl a0 fun I1 O2 => Zcz (Zbx h (.ptr (some (I1, O2 + (Int.toNat x4) * 3))) 3) fun K3 => Zao K3 fun C4 Z5 => Zbp (some C4) fun S6 => Zao Z5 fun C7 Z8 => Zbp (some C7) fun S9 => Zao Z8 fun C10 Z11 => xSl (some C10) fun A12 N13 C14 E15 => Zcl Z11 (Zae pg Zjx [.agg [.str S6, .str S9, .slice A12 N13 C14 E15]] h fun V16 H17 =>
 Zue V16 fun K18 => Zao K18 fun C19 Z20 => Zbp (some C19) fun S21 => Zao Z20 fun C22 Z23 => Zbp (some C22) fun S24 => Zao Z23 fun C25 Z26 => xSl (some C25) fun A27 N28 C29 E30 => Zcl Z26 ((0 ≤ (x4 : Int) ∧ (x4 : Int) < (n3 : Nat)) ∧ (Zbl a3 fun I31 O32 => Zcp (Zbn H17 (.ptr (some (I31, O32 + (Int.toNat x4) * 3))) [.str S21, .str S24, .slice A27 N28 C29 E30]) fun H33 => R3 a0 n0 c0 e0 a3 n3 c3 e3 (IntKind.wrap .i64 (x4 + 1)) H33))))) (Zpf Q a3 n3 c3 e3 h)
theorem Zkx (Q : QT) (R3 : T3) (a0 : Pt) (n0 c0 : Nat) (e0 : Bool) (a3 : Pt) (n3 c3 : Nat) (e3 : Bool) (x4 : Int) (h : Zaa) (ht : L3t Q R3 a0 n0 c0 e0 a3 n3 c3 e3 x4 h) : Den pg fn.ntmps (C [1, 1, 0, 1, 0, 0]) [(0, .slice a0 n0 c0 e0), (3, .slice a3 n3 c3 e3), (4, .int .i64 x4)] h (K3 Q R3) :=
 Zbb (kp := kp) (cast (by kernel_rfl) ht)
theorem L3ind (Q : QT) (a0 : Pt) (n0 c0 : Nat) (e0 : Bool) (a3 : Pt) (n3 c3 : Nat) (e3 : Bool) {G : Type} (J : G → Int → Zaa → Prop) (m : G → Nat)
 (hr : ∀ (g : G) (x4 : Int) (h : Zaa), J g x4 h → ∀ (R3 : T3), (∀ g' (x4 : Int) (h : Zaa), m g' < m g → J g' x4 h → R3 a0 n0 c0 e0 a3 n3 c3 e3 x4 h) → L3t Q R3 a0 n0 c0 e0 a3 n3 c3 e3 x4 h)
 (g : G) (x4 : Int) (h : Zaa) (hj : J g x4 h) : L3 Q a0 n0 c0 e0 a3 n3 c3 e3 x4 h := by
 refine Zdz.inv2 (fun g => E3 fun a0' n0' c0' e0' a3' n3' c3' e3' x4 h => a0 = a0' ∧ n0 = n0' ∧ c0 = c0' ∧ e0 = e0' ∧ a3 = a3' ∧ n3 = n3' ∧ c3 = c3' ∧ e3 = e3' ∧ J g x4 h) (fun g => E3 fun a0' n0' c0' e0' a3' n3' c3' e3' x4 h => a0 = a0' ∧ n0 = n0' ∧ c0 = c0' ∧ e0 = e0' ∧ a3 = a3' ∧ n3 = n3' ∧ c3 = c3' ∧ e3 = e3' ∧ ∃ g', m g' < m g ∧ J g' x4 h) m ?_ ?_ g ⟨rfl, rfl, rfl, rfl, rfl, rfl, rfl, rfl, hj⟩
 ·intro g env h hi
  obtain ⟨a0', n0', c0', e0', a3', n3', c3', e3', x4, rfl, rfl, rfl, rfl, rfl, rfl, rfl, rfl, rfl, hj⟩ := Zej hi
  exact Zkx Q _ a0 n0 c0 e0 a3 n3 c3 e3 x4 h (hr g x4 h hj (fun a0' n0' c0' e0' a3' n3' c3' e3' x4 h => a0 = a0' ∧ n0 = n0' ∧ c0 = c0' ∧ e0 = e0' ∧ a3 = a3' ∧ n3 = n3' ∧ c3 = c3' ∧ e3 = e3' ∧ ∃ g', m g' < m g ∧ J g' x4 h) fun g' x4 h hlt hj => ⟨rfl, rfl, rfl, rfl, rfl, rfl, rfl, rfl, g', hlt, hj⟩)
 ·intro g env h hi
  obtain ⟨a0', n0', c0', e0', a3', n3', c3', e3', x4, rfl, rfl, rfl, rfl, rfl, rfl, rfl, rfl, rfl, g', hlt, hj⟩ := Zej hi
  exact ⟨g', hlt, rfl, rfl, rfl, rfl, rfl, rfl, rfl, rfl, hj⟩
theorem A3x0i (Q : QT) (a3 : Pt) (n3 c3 : Nat) (e3 : Bool) (h : Zaa) (ht :
 Q (.slice a3 n3 c3 e3) h) : Zpf Q a3 n3 c3 e3 h :=
 At.mk (cast (by kernel_rfl) ht)
theorem call (a0 : Pt) (n0 c0 : Nat) (e0 : Bool) (h : Zaa) (Q : QT) (ht :
 IntKind.i64 = IntKind.i64 ∧ (IntKind.i64 = IntKind.i64 ∧ ((0 ≤ ((((n0 : Nat) : Int)) : Int) ∧ ((((n0 : Nat) : Int)) : Int) ≤ (((n0 : Nat) : Int)) ∧ ((((n0 : Nat) : Int)) : Int) * (((56 : Nat) : Int) + 1) ≤ 140737488355328) ∧ (Zcn (h ++ [.cells Zai (reps (Int.toNat ((((n0 : Nat) : Int)))) [.str [], .str [], .slice none 0 0 true]) false]) fun H0 => L3 Q a0 n0 c0 e0 (some (h.length, 0)) (Int.toNat ((((n0 : Nat) : Int)))) (Int.toNat ((((n0 : Nat) : Int)))) true 0 H0)))) : Zae pg Zii [.slice a0 n0 c0 e0] h Q :=
 Zae.of_body kp (c := cod fn) (fn := fn) Go.Proofs.Tryz.func33 (by kernel_rfl) (by kernel_rfl) (Nat.le_of_ble_eq_true (by kernel_rfl))
  (cast (by kernel_rfl) ht)
end Zfh
namespace Zqz
noncomputable abbrev fn : Func := Go.Proofs.Tryz.f11
def kp : Zcd := []
noncomputable def C (p : List Nat) : Code := (cod fn).sub p
def KR (Q : QT) : KT := Zem pg fn.results.toList Q
theorem call (a0x0 : Pt) (n0x0 c0x0 : Nat) (e0x0 : Bool) (a0x1 : Pt) (n0x1 c0x1 : Nat) (e0x1 : Bool) (h : Zaa) (Q : QT) (ht :
 Zcn (h ++ [.cells Zek [.slice a0x0 n0x0 c0x0 e0x0, .slice a0x1 n0x1 c0x1 e0x1] false]) fun H0 => Zcn (H0 ++ [.cells Zaj [.slice none 0 0 true, .slice none 0 0 true] false]) fun H1 => Zcn (H1 ++ [.cells Zaj [.slice none 0 0 true, .slice none 0 0 true] false]) fun H2 => xSl (Zal H2 (.ptr (some (h.length, 0 + 0)))) fun A3 N4 C5 E6 => Zae pg Zlo [.slice A3 N4 C5 E6] H2 fun V7 H8 =>
 xSl (some V7) fun A9 N10 C11 E12 => Zcp (Zbn H8 (.ptr (some (H1.length, 0 + 0))) [.slice A9 N10 C11 E12]) fun H13 => xSl (Zal H13 (.ptr (some (h.length, 0 + 1)))) fun A14 N15 C16 E17 => Zae pg Zii [.slice A14 N15 C16 E17] H13 fun V18 H19 =>
 xSl (some V18) fun A20 N21 C22 E23 => Zcp (Zbn H19 (.ptr (some (H1.length, 0 + 1))) [.slice A20 N21 C22 E23]) fun H24 => Zcz (Zbx H24 (.ptr (some (H1.length, 0))) 2) fun K25 => Zao K25 fun C26 Z27 => xSl (some C26) fun A28 N29 C30 E31 => Zao Z27 fun C32 Z33 => xSl (some C32) fun A34 N35 C36 E37 => Zcl Z33 (Zcp (Zbn H24 (.ptr (some (H0.length, 0))) [.slice A28 N29 C30 E31, .slice A34 N35 C36 E37]) fun H38 => Zcz (Zbx H38 (.ptr (some (H0.length, 0))) 2) fun K39 => Zao K39 fun C40 Z41 => xSl (some C40) fun A42 N43 C44 E45 => Zao Z41 fun C46 Z47 => xSl (some C46) fun A48 N49 C50 E51 => Zcl Z47 (Q (.agg [.slice A42 N43 C44 E45, .slice A48 N49 C50 E51]) H38))) : Zae pg Zhp [.agg [.slice a0x0 n0x0 c0x0 e0x0, .slice a0x1 n0x1 c0x1 e0x1]] h Q :=
 Zae.of_body kp (c := cod fn) (fn := fn) Go.Proofs.Tryz.func11 (by kernel_rfl) (by kernel_rfl) (Nat.le_of_ble_eq_true (by kernel_rfl))
  (cast (by kernel_rfl) ht)
end Zqz
namespace Zmx
noncomputable abbrev fn : Func := Go.Proofs.Tryz.f61
def kp : Zcd := []
noncomputable def C (p : List Nat) : Code := (cod fn).sub p
def KR (Q : QT) : KT := Zem pg fn.results.toList Q
theorem call (x0x0 x0x1 : List Nat) (a0x2 : Pt) (n0x2 c0x2 : Nat) (e0x2 : Bool) (x1x0 x1x1 : List Nat) (a1x2 : Pt) (n1x2 c1x2 : Nat) (e1x2 : Bool) (h : Zaa) (Q : QT) (ht :
 Zcn (h ++ [.cells Zai [.str x0x0, .str x0x1, .slice a0x2 n0x2 c0x2 e0x2] false]) fun H0 => Zcn (H0 ++ [.cells Zai [.str x1x0, .str x1x1, .slice a1x2 n1x2 c1x2 e1x2] false]) fun H1 => Zcz (Zbx H1 (.ptr (some (h.length, 0 + 0))) 2) fun K2 => Zao K2 fun C3 Z4 => Zbp (some C3) fun S5 => Zao Z4 fun C6 Z7 => Zbp (some C6) fun S8 => Zcl Z7 (Zcz (Zbx H1 (.ptr (some (H0.length, 0 + 0))) 2) fun K9 => Zao K9 fun C10 Z11 => Zbp (some C10) fun S12 => Zao Z11 fun C13 Z14 => Zbp (some C13) fun S15 => Zcl Z14 (Zae pg Zks [.agg [.str S5, .str S8], .agg [.str S12, .str S15]] H1 fun V16 H17 =>
 Zch (some V16) fun B18 => bcase (!B18) (Q (.bool false) H17) (xSl (Zal H17 (.ptr (some (h.length, 0 + 2)))) fun A19 N20 C21 E22 => xSl (Zal H17 (.ptr (some (H0.length, 0 + 2)))) fun A23 N24 C25 E26 => Zae pg Zmp [.slice A19 N20 C21 E22, .slice A23 N24 C25 E26] H17 fun V27 H28 =>
 Zch (some V27) fun B29 => bcase (!B29) (Q (.bool false) H28) (Q (.bool true) H28))))) : Zae pg Zjn [.agg [.str x0x0, .str x0x1, .slice a0x2 n0x2 c0x2 e0x2], .agg [.str x1x0, .str x1x1, .slice a1x2 n1x2 c1x2 e1x2]] h Q :=
 Zae.of_body kp (c := cod fn) (fn := fn) Go.Proofs.Tryz.func61 (by kernel_rfl) (by kernel_rfl) (Nat.le_of_ble_eq_true (by kernel_rfl))
  (cast (by kernel_rfl) ht)
end Zmx
namespace Zfd
noncomputable abbrev fn : Func := Go.Proofs.Tryz.f37
def kp : Zcd := [(3000004, [4]), (1000004, [0, 1, 5]), (2000006, [26, 5, 0, 1])]
noncomputable def C (p : List Nat) : Code := (cod fn).sub p
def KR (Q : QT) : KT := Zem pg fn.results.toList Q
abbrev T4 := Pt → Nat → Nat → Bool → Pt → Nat → Nat → Bool → Int → Zaa → Prop
def E4 (R4 : T4) (env : Env) (h : Zaa) : Prop := Zbj 0 env fun v env => xSl (some v) fun a0 n0 c0 e0 => Zbj 1 env fun v env => xSl (some v) fun a1 n1 c1 e1 => Zbj 5 env fun v env => Zda .i64 v fun x5 => Ziw env (R4 a0 n0 c0 e0 a1 n1 c1 e1 x5 h)
theorem Zic {R4 : T4} {env : Env} {h : Zaa} (hi : E4 R4 env h) : ∃ a0, ∃ n0, ∃ c0, ∃ e0, ∃ a1, ∃ n1, ∃ c1, ∃ e1, ∃ x5, env = [(0, .slice a0 n0 c0 e0), (1, .slice a1 n1 c1 e1), (5, .int .i64 x5)] ∧ R4 a0 n0 c0 e0 a1 n1 c1 e1 x5 h := by
 unfold E4 at hi
 have hi0 := hi
 clear hi
 obtain ⟨_, _, rfl, hi1⟩ := Zab hi0
 obtain ⟨a0, n0, c0, e0, rfl, hi2⟩ := Zax hi1
 obtain ⟨_, _, rfl, hi3⟩ := Zab hi2
 obtain ⟨a1, n1, c1, e1, rfl, hi4⟩ := Zax hi3
 obtain ⟨_, _, rfl, hi5⟩ := Zab hi4
 obtain ⟨x5, rfl, hi6⟩ := Zak hi5
 obtain ⟨rfl, hi7⟩ := Zbk hi6
 have hi := hi7
 exact ⟨a0, n0, c0, e0, a1, n1, c1, e1, x5, rfl, hi⟩
def K0 (Q : QT) : KT := andThen (fun env' h' => (match kp.find 4000008 with | some ks => Den pg fn.ntmps (C [1, 1, 1]) (env'.keep ks) h' (KR Q) | none => den pg fn.ntmps kp (C [1, 1, 1]) env' h' (KR Q))) (KR Q)
def K1 (Q : QT) : KT := Zcg 0 (K0 Q)
def K2 (Q : QT) : KT := Zgf kp 4 (K1 Q)
def K3 (Q : QT) (R4 : T4) : KT := rnd ((kp.find 1000004).getD []) (E4 R4) (K2 Q)
def L4 (Q : QT) (a0 : Pt) (n0 c0 : Nat) (e0 : Bool) (a1 : Pt) (n1 c1 : Nat) (e1 : Bool) (x5 : Int) (h : Zaa) : Prop := Zdz (Den pg fn.ntmps (C [1, 1, 0, 1, 0, 0])) ((kp.find 1000004).getD []) (K2 Q) [(0, .slice a0 n0 c0 e0), (1, .slice a1 n1 c1 e1), (5, .int .i64 x5)] h
def Zxx (Q : QT) (h : Zaa) : Prop := At (K1 Q) (.exit 0) [(4, .undef)] h
def L4t (Q : QT) (R4 : T4) (a0 : Pt) (n0 c0 : Nat) (e0 : Bool) (a1 : Pt) (n1 c1 : Nat) (e1 : Bool) (x5 : Int) (h : Zaa) : Prop :=
 bcase (decide ((x5 : Int) < (((n0 : Nat) : Int)))) ((0 ≤ (x5 : Int) ∧ (x5 : Int) < (n0 : Nat)) ∧ (Zbl a0 fun I0 O1 => (0 ≤ (x5 : Int) ∧ (x5 : Int) < (n1 : Nat)) ∧ (Zbl a1 fun I2 O3 => Zcz (Zbx h (.ptr (some (I0, O1 + (Int.toNat x5) * 3))) 3) fun K4 => Zao K4 fun C5 Z6 => Zbp (some C5) fun S7 => Zao Z6 fun C8 Z9 => Zbp (some C8) fun S10 => Zao Z9 fun C11 Z12 => xSl (some C11) fun A13 N14 C15 E16 => Zcl Z12 (Zcz (Zbx h (.ptr (some (I2, O3 + (Int.toNat x5) * 3))) 3) fun K17 => Zao K17 fun C18 Z19 => Zbp (some C18) fun S20 => Zao Z19 fun C21 Z22 => Zbp (some C21) fun S23 => Zao Z22 fun C24 Z25 => xSl (some C24) fun A26 N27 C28 E29 => Zcl Z25 ((Zbx h (.ptr (some (I0, O1 + (Int.toNat x5) * 3))) 3 = Zbx h (.ptr (some (I0, O1 + (Int.toNat x5) * 3))) 3) ∧ Zae pg Zjn [.agg [.str S7, .str S10, .slice A13 N14 C15 E16], .agg [.str S20, .str S23, .slice A26 N27 C28 E29]] h fun V30 H31 =>
 Zch (some V30) fun B32 => bcase (!B32) (Q (.bool false) H31) (R4 a0 n0 c0 e0 a1 n1 c1 e1 (IntKind.wrap .i64 (x5 + 1)) H31)))))) (Zxx Q h)
theorem Zsz (Q : QT) (R4 : T4) (a0 : Pt) (n0 c0 : Nat) (e0 : Bool) (a1 : Pt) (n1 c1 : Nat) (e1 : Bool) (x5 : Int) (h : Zaa) (ht : L4t Q R4 a0 n0 c0 e0 a1 n1 c1 e1 x5 h) : Den pg fn.ntmps (C [1, 1, 0, 1, 0, 0]) [(0, .slice a0 n0 c0 e0), (1, .slice a1 n1 c1 e1), (5, .int .i64 x5)] h (K3 Q R4) :=
 Zbb (kp := kp) (cast (by kernel_rfl) ht)
theorem L4ind (Q : QT) (a0 : Pt) (n0 c0 : Nat) (e0 : Bool) (a1 : Pt) (n1 c1 : Nat) (e1 : Bool) {G : Type} (J : G → Int → Zaa → Prop) (m : G → Nat)
 (hr : ∀ (g : G) (x5 : Int) (h : Zaa), J g x5 h → ∀ (R4 : T4), (∀ g' (x5 : Int) (h : Zaa), m g' < m g → J g' x5 h → R4 a0 n0 c0 e0 a1 n1 c1 e1 x5 h) → L4t Q R4 a0 n0 c0 e0 a1 n1 c1 e1 x5 h)
 (g : G) (x5 : Int) (h : Zaa) (hj : J g x5 h) : L4 Q a0 n0 c0 e0 a1 n1 c1 e1 x5 h := by
 refine Zdz.inv2 (fun g => E4 fun a0' n0' c0' e0' a1' n1' c1' e1' x5 h => a0 = a0' ∧ n0 = n0' ∧ c0 = c0' ∧ e0 = e0' ∧ a1 = a1' ∧ n1 = n1' ∧ c1 = c1' ∧ e1 = e1' ∧ J g x5 h) (fun g => E4 fun a0' n0' c0' e0' a1' n1' c1' e1' x5 h => a0 = a0' ∧ n0 = n0' ∧ c0 = c0' ∧ e0 = e0' ∧ a1 = a1' ∧ n1 = n1' ∧ c1 = c1' ∧ e1 = e1' ∧ ∃ g', m g' < m g ∧ J g' x5 h) m ?_ ?_ g ⟨rfl, rfl, rfl, rfl, rfl, rfl, rfl, rfl, hj⟩
 ·intro g env h hi
  obtain ⟨a0', n0', c0', e0', a1', n1', c1', e1', x5, rfl, rfl, rfl, rfl, rfl, rfl, rfl, rfl, rfl, hj⟩ := Zic hi
  exact Zsz Q _ a0 n0 c0 e0 a1 n1 c1 e1 x5 h (hr g x5 h hj (fun a0' n0' c0' e0' a1' n1' c1' e1' x5 h => a0 = a0' ∧ n0 = n0' ∧ c0 = c0' ∧ e0 = e0' ∧ a1 = a1' ∧ n1 = n1' ∧ c1 = c1' ∧ e1 = e1' ∧ ∃ g', m g' < m g ∧ J g' x5 h) fun g' x5 h hlt hj => ⟨rfl, rfl, rfl, rfl, rfl, rfl, rfl, rfl, g', hlt, hj⟩)
 ·intro g env h hi
  obtain ⟨a0', n0', c0', e0', a1', n1', c1', e1', x5, rfl, rfl, rfl, rfl, rfl, rfl, rfl, rfl, rfl, g', hlt, hj⟩ := Zic hi
  exact ⟨g', hlt, rfl, rfl, rfl, rfl, rfl, rfl, rfl, rfl, hj⟩
theorem A4x0i (Q : QT) (h : Zaa) (ht :
 Q (.bool true) h) : Zxx Q h :=
 At.mk (cast (by kernel_rfl) ht)
theorem call (a0 : Pt) (n0 c0 : Nat) (e0 : Bool) (a1 : Pt) (n1 c1 : Nat) (e1 : Bool) (h : Zaa) (Q : QT) (ht :
 bcase (!((((n0 : Nat) : Int) : Int) == (((n1 : Nat) : Int)))) (Q (.bool false) h) (L4 Q a0 n0 c0 e0 a1 n1 c1 e1 0 h)) : Zae pg Ziy [.slice a0 n0 c0 e0, .slice a1 n1 c1 e1] h Q :=
 Zae.of_body kp (c := cod fn) (fn := fn) Go.Proofs.Tryz.func37 (by kernel_rfl) (by kernel_rfl) (Nat.le_of_ble_eq_true (by kernel_rfl))
  (cast (by kernel_rfl) ht)
end Zfd
namespace Zqt
noncomputable abbrev fn : Func := Go.Proofs.Tryz.f14
def kp : Zcd := []
noncomputable def C (p : List Nat) : Code := (cod fn).sub p
def KR (Q : QT) : KT := Zem pg fn.results.toList Q
theorem call (a0x0 : Pt) (n0x0 c0x0 : Nat) (e0x0 : Bool) (a0x1 : Pt) (n0x1 c0x1 : Nat) (e0x1 : Bool) (a1x0 : Pt) (n1x0 c1x0 : Nat) (e1x0 : Bool) (a1x1 : Pt) (n1x1 c1x1 : Nat) (e1x1 : Bool) (h : Zaa) (Q : QT) (ht :
 Zcn (h ++ [.cells Zaj [.slice a0x0 n0x0 c0x0 e0x0, .slice a0x1 n0x1 c0x1 e0x1] false]) fun H0 => Zcn (H0 ++ [.cells Zaj [.slice a1x0 n1x0 c1x0 e1x0, .slice a1x1 n1x1 c1x1 e1x1] false]) fun H1 => xSl (Zal H1 (.ptr (some (h.length, 0 + 0)))) fun A2 N3 C4 E5 => xSl (Zal H1 (.ptr (some (H0.length, 0 + 0)))) fun A6 N7 C8 E9 => Zae pg Zlm [.slice A2 N3 C4 E5, .slice A6 N7 C8 E9] H1 fun V10 H11 =>
 Zch (some V10) fun B12 => bcase (!B12) (Q (.bool false) H11) (xSl (Zal H11 (.ptr (some (h.length, 0 + 1)))) fun A13 N14 C15 E16 => xSl (Zal H11 (.ptr (some (H0.length, 0 + 1)))) fun A17 N18 C19 E20 => Zae pg Ziy [.slice A13 N14 C15 E16, .slice A17 N18 C19 E20] H11 fun V21 H22 =>
 Zch (some V21) fun B23 => bcase (!B23) (Q (.bool false) H22) (Q (.bool true) H22))) : Zae pg Zmk [.agg [.slice a0x0 n0x0 c0x0 e0x0, .slice a0x1 n0x1 c0x1 e0x1], .agg [.slice a1x0 n1x0 c1x0 e1x0, .slice a1x1 n1x1 c1x1 e1x1]] h Q :=
 Zae.of_body kp (c := cod fn) (fn := fn) Go.Proofs.Tryz.func14 (by kernel_rfl) (by kernel_rfl) (Nat.le_of_ble_eq_true (by kernel_rfl))
  (cast (by kernel_rfl) ht)
end Zqt
end Go.Sim

set_option maxRecDepth 100000
set_option linter.unusedVariables false
namespace Go.Sim
open Go Go.RowKit
namespace Zns
noncomputable abbrev fn : Func := Go.Proofs.Tryz.f49
def kp : Zcd := []
noncomputable def C (p : List Nat) : Code := (cod fn).sub p
def KR (Q : QT) : KT := Zem pg fn.results.toList Q
theorem call (x0x0 x0x1 : List Nat) (a0x2 : Pt) (n0x2 c0x2 : Nat) (e0x2 : Bool) (x1 : Int) (h : Zaa) (Q : QT) (ht :
 Zcn (h ++ [.cells Zei [.str x0x0, .str x0x1, .slice a0x2 n0x2 c0x2 e0x2] false]) fun H0 => Zcz (Zbx H0 (.ptr (some (h.length, 0 + 0))) 2) fun K1 => Zao K1 fun C2 Z3 => Zbp (some C2) fun S4 => Zao Z3 fun C5 Z6 => Zbp (some C5) fun S7 => Zcl Z6 (Zae pg Zis [.agg [.str S4, .str S7], .int .i64 x1] H0 fun V8 H9 =>
 Zen .i64 (some V8) fun X10 => bcase (decide ((X10 : Int) < 0)) (Q (.int .i64 (-1)) H9) (xSl (Zal H9 (.ptr (some (h.length, 0 + 2)))) fun A11 N12 C13 E14 => Zae pg Zmm [.slice A11 N12 C13 E14, .int .i64 X10] H9 fun V15 H16 =>
 Zen .i64 (some V15) fun X17 => bcase (decide ((X17 : Int) < 0)) (Q (.int .i64 (-1)) H16) (Q (.int .i64 X17) H16)))) : Zae pg Zjo [.agg [.str x0x0, .str x0x1, .slice a0x2 n0x2 c0x2 e0x2], .int .i64 x1] h Q :=
 Zae.of_body kp (c := cod fn) (fn := fn) Go.Proofs.Tryz.func49 (by kernel_rfl) (by kernel_rfl) (Nat.le_of_ble_eq_true (by kernel_rfl))
  (cast (by kernel_rfl) ht)
end Zns
namespace Zff
noncomputable abbrev fn : Func := Go.Proofs.Tryz.f29
def kp : Zcd := [(3000005, [1, 4]), (1000005, [0, 1, 5])]
noncomputable def C (p : List Nat) : Code := (cod fn).sub p
def KR (Q : QT) : KT := Zem pg fn.results.toList Q
abbrev T5 := Pt → Nat → Nat → Bool → Int → Int → Zaa → Prop
def E5 (R5 : T5) (env : Env) (h : Zaa) : Prop := Zbj 0 env fun v env => xSl (some v) fun a0 n0 c0 e0 => Zbj 1 env fun v env => Zda .i64 v fun x1 => Zbj 5 env fun v env => Zda .i64 v fun x5 => Ziw env (R5 a0 n0 c0 e0 x1 x5 h)
theorem Zie {R5 : T5} {env : Env} {h : Zaa} (hi : E5 R5 env h) : ∃ a0, ∃ n0, ∃ c0, ∃ e0, ∃ x1, ∃ x5, env = [(0, .slice a0 n0 c0 e0), (1, .int .i64 x1), (5, .int .i64 x5)] ∧ R5 a0 n0 c0 e0 x1 x5 h := by
 unfold E5 at hi
 have hi0 := hi
 clear hi
 obtain ⟨_, _, rfl, hi1⟩ := Zab hi0
 obtain ⟨a0, n0, c0, e0, rfl, hi2⟩ := Zax hi1
 obtain ⟨_, _, rfl, hi3⟩ := Zab hi2
 obtain ⟨x1, rfl, hi4⟩ := Zak hi3
 obtain ⟨_, _, rfl, hi5⟩ := Zab hi4
 obtain ⟨x5, rfl, hi6⟩ := Zak hi5
 obtain ⟨rfl, hi7⟩ := Zbk hi6
 have hi := hi7
 exact ⟨a0, n0, c0, e0, x1, x5, rfl, hi⟩
def K0 (Q : QT) : KT := andThen (fun env' h' => (match kp.find 4000010 with | some ks => Den pg fn.ntmps (C [1, 1, 1, 1]) (env'.keep ks) h' (KR Q) | none => den pg fn.ntmps kp (C [1, 1, 1, 1]) env' h' (KR Q))) (KR Q)
def K1 (Q : QT) : KT := Zcg 0 (K0 Q)
def K2 (Q : QT) : KT := Zgf kp 5 (K1 Q)
def K3 (Q : QT) (R5 : T5) : KT := rnd ((kp.find 1000005).getD []) (E5 R5) (K2 Q)
def L5 (Q : QT) (a0 : Pt) (n0 c0 : Nat) (e0 : Bool) (x1 x5 : Int) (h : Zaa) : Prop := Zdz (Den pg fn.ntmps (C [1, 1, 1, 0, 1, 0, 0])) ((kp.find 1000005).getD []) (K2 Q) [(0, .slice a0 n0 c0 e0), (1, .int .i64 x1), (5, .int .i64 x5)] h
def A5x0 (Q : QT) (x1 : Int) (h : Zaa) : Prop := At (K1 Q) (.exit 0) [(1, .int .i64 x1), (4, .undef)] h
def L5t (Q : QT) (R5 : T5) (a0 : Pt) (n0 c0 : Nat) (e0 : Bool) (x1 x5 : Int) (h : Zaa) : Prop :=
 bcase (decide ((x5 : Int) < (((n0 : Nat) : Int)))) ((0 ≤ (x5 : Int) ∧ (x5 : Int) < (n0 : Nat)) ∧ (Zbl a0 fun I0 O1 => Zcz (Zbx h (.ptr (some (I0, O1 + (Int.toNat x5) * 3))) 3) fun K2 => Zao K2 fun C3 Z4 => Zbp (some C3) fun S5 => Zao Z4 fun C6 Z7 => Zbp (some C6) fun S8 => Zao Z7 fun C9 Z10 => xSl (some C9) fun A11 N12 C13 E14 => Zcl Z10 (Zae pg Zjo [.agg [.str S5, .str S8, .slice A11 N12 C13 E14], .int .i64 x1] h fun V15 H16 =>
 Zen .i64 (some V15) fun X17 => bcase (decide ((X17 : Int) < 0)) (Q (.int .i64 (-1)) H16) (R5 a0 n0 c0 e0 X17 (IntKind.wrap .i64 (x5 + 1)) H16)))) (A5x0 Q x1 h)
theorem Ztn (Q : QT) (R5 : T5) (a0 : Pt) (n0 c0 : Nat) (e0 : Bool) (x1 x5 : Int) (h : Zaa) (ht : L5t Q R5 a0 n0 c0 e0 x1 x5 h) : Den pg fn.ntmps (C [1, 1, 1, 0, 1, 0, 0]) [(0, .slice a0 n0 c0 e0), (1, .int .i64 x1), (5, .int .i64 x5)] h (K3 Q R5) :=
 Zbb (kp := kp) (cast (by kernel_rfl) ht)
theorem L5ind (Q : QT) (a0 : Pt) (n0 c0 : Nat) (e0 : Bool) {G : Type} (J : G → Int → Int → Zaa → Prop) (m : G → Nat)
 (hr : ∀ (g : G) (x1 x5 : Int) (h : Zaa), J g x1 x5 h → ∀ (R5 : T5), (∀ g' (x1 x5 : Int) (h : Zaa), m g' < m g → J g' x1 x5 h → R5 a0 n0 c0 e0 x1 x5 h) → L5t Q R5 a0 n0 c0 e0 x1 x5 h)
 (g : G) (x1 x5 : Int) (h : Zaa) (hj : J g x1 x5 h) : L5 Q a0 n0 c0 e0 x1 x5 h := by
 refine Zdz.inv2 (fun g => E5 fun a0' n0' c0' e0' x1 x5 h => a0 = a0' ∧ n0 = n0' ∧ c0 = c0' ∧ e0 = e0' ∧ J g x1 x5 h) (fun g => E5 fun a0' n0' c0' e0' x1 x5 h => a0 = a0' ∧ n0 = n0' ∧ c0 = c0' ∧ e0 = e0' ∧ ∃ g', m g' < m g ∧ J g' x1 x5 h) m ?_ ?_ g ⟨rfl, rfl, rfl, rfl, hj⟩
 ·intro g env h hi
  obtain ⟨a0', n0', c0', e0', x1, x5, rfl, rfl, rfl, rfl, rfl, hj⟩ := Zie hi
  exact Ztn Q _ a0 n0 c0 e0 x1 x5 h (hr g x1 x5 h hj (fun a0' n0' c0' e0' x1 x5 h => a0 = a0' ∧ n0 = n0' ∧ c0 = c0' ∧ e0 = e0' ∧ ∃ g', m g' < m g ∧ J g' x1 x5 h) fun g' x1 x5 h hlt hj => ⟨rfl, rfl, rfl, rfl, g', hlt, hj⟩)
 ·intro g env h hi
  obtain ⟨a0', n0', c0', e0', x1, x5, rfl, rfl, rfl, rfl, rfl, g', hlt, hj⟩ := Zie hi
  exact ⟨g', hlt, rfl, rfl, rfl, rfl, hj⟩
theorem A5x0i (Q : QT) (x1 : Int) (h : Zaa) (ht :
 Q (.int .i64 x1) h) : A5x0 Q x1 h :=
 At.mk (cast (by kernel_rfl) ht)
theorem call (a0 : Pt) (n0 c0 : Nat) (e0 : Bool) (x1 : Int) (h : Zaa) (Q : QT) (ht :
 bcase (decide (((IntKind.wrap .i64 (x1 - (((n0 : Nat) : Int)))) : Int) < 0)) (Q (.int .i64 (-1)) h) (L5 Q a0 n0 c0 e0 (IntKind.wrap .i64 (x1 - (((n0 : Nat) : Int)))) 0 h)) : Zae pg Zip [.slice a0 n0 c0 e0, .int .i64 x1] h Q :=
 Zae.of_body kp (c := cod fn) (fn := fn) Go.Proofs.Tryz.func29 (by kernel_rfl) (by kernel_rfl) (Nat.le_of_ble_eq_true (by kernel_rfl))
  (cast (by kernel_rfl) ht)
end Zff
namespace Zqy
noncomputable abbrev fn : Func := Go.Proofs.Tryz.f8
def kp : Zcd := []
noncomputable def C (p : List Nat) : Code := (cod fn).sub p
def KR (Q : QT) : KT := Zem pg fn.results.toList Q
theorem call (a0x0 : Pt) (n0x0 c0x0 : Nat) (e0x0 : Bool) (a0x1 : Pt) (n0x1 c0x1 : Nat) (e0x1 : Bool) (x1 : Int) (h : Zaa) (Q : QT) (ht :
 Zcn (h ++ [.cells Zek [.slice a0x0 n0x0 c0x0 e0x0, .slice a0x1 n0x1 c0x1 e0x1] false]) fun H0 => xSl (Zal H0 (.ptr (some (h.length, 0 + 0)))) fun A1 N2 C3 E4 => Zae pg Zle [.slice A1 N2 C3 E4, .int .i64 x1] H0 fun V5 H6 =>
 Zen .i64 (some V5) fun X7 => bcase (decide ((X7 : Int) < 0)) (Q (.int .i64 (-1)) H6) (xSl (Zal H6 (.ptr (some (h.length, 0 + 1)))) fun A8 N9 C10 E11 => Zae pg Zip [.slice A8 N9 C10 E11, .int .i64 X7] H6 fun V12 H13 =>
 Zen .i64 (some V12) fun X14 => bcase (decide ((X14 : Int) < 0)) (Q (.int .i64 (-1)) H13) (Q (.int .i64 X14) H13))) : Zae pg Zmq [.agg [.slice a0x0 n0x0 c0x0 e0x0, .slice a0x1 n0x1 c0x1 e0x1], .int .i64 x1] h Q :=
 Zae.of_body kp (c := cod fn) (fn := fn) Go.Proofs.Tryz.func8 (by kernel_rfl) (by kernel_rfl) (Nat.le_of_ble_eq_true (by kernel_rfl))
  (cast (by kernel_rfl) ht)
end Zqy
namespace Znq
noncomputable abbrev fn : Func := Go.Proofs.Tryz.f56
def kp : Zcd := []
noncomputable def C (p : List Nat) : Code := (cod fn).sub p
def KR (Q : QT) : KT := Zem pg fn.results.toList Q
theorem call (x0x0 x0x1 : List Nat) (a0x2 : Pt) (n0x2 c0x2 : Nat) (e0x2 : Bool) (h : Zaa) (Q : QT) (ht :
 Zcn (h ++ [.cells Zei [.str x0x0, .str x0x1, .slice a0x2 n0x2 c0x2 e0x2] false]) fun H0 => Zcn (H0 ++ [.cells Zai [.str [], .str [], .slice none 0 0 true] false]) fun H1 => Zcn (H1 ++ [.cells Zai [.str [], .str [], .slice none 0 0 true] false]) fun H2 => Zcz (Zbx H2 (.ptr (some (h.length, 0 + 0))) 2) fun K3 => Zao K3 fun C4 Z5 => Zbp (some C4) fun S6 => Zao Z5 fun C7 Z8 => Zbp (some C7) fun S9 => Zcl Z8 (Zae pg Zgy [.agg [.str S6, .str S9]] H2 fun V10 H11 =>
 Zue V10 fun K12 => Zao K12 fun C13 Z14 => Zbp (some C13) fun S15 => Zao Z14 fun C16 Z17 => Zbp (some C16) fun S18 => Zcl Z17 (Zcp (Zbn H11 (.ptr (some (H1.length, 0 + 0))) [.str S15, .str S18]) fun H19 => xSl (Zal H19 (.ptr (some (h.length, 0 + 2)))) fun A20 N21 C22 E23 => Zae pg Zmh [.slice A20 N21 C22 E23] H19 fun V24 H25 =>
 xSl (some V24) fun A26 N27 C28 E29 => Zcp (Zbn H25 (.ptr (some (H1.length, 0 + 2))) [.slice A26 N27 C28 E29]) fun H30 => Zcz (Zbx H30 (.ptr (some (H1.length, 0))) 3) fun K31 => Zao K31 fun C32 Z33 => Zbp (some C32) fun S34 => Zao Z33 fun C35 Z36 => Zbp (some C35) fun S37 => Zao Z36 fun C38 Z39 => xSl (some C38) fun A40 N41 C42 E43 => Zcl Z39 (Zcp (Zbn H30 (.ptr (some (H0.length, 0))) [.str S34, .str S37, .slice A40 N41 C42 E43]) fun H44 => Zcz (Zbx H44 (.ptr (some (H0.length, 0))) 3) fun K45 => Zao K45 fun C46 Z47 => Zbp (some C46) fun S48 => Zao Z47 fun C49 Z50 => Zbp (some C49) fun S51 => Zao Z50 fun C52 Z53 => xSl (some C52) fun A54 N55 C56 E57 => Zcl Z53 (Q (.agg [.str S48, .str S51, .slice A54 N55 C56 E57]) H44))))) : Zae pg Zjx [.agg [.str x0x0, .str x0x1, .slice a0x2 n0x2 c0x2 e0x2]] h Q :=
 Zae.of_body kp (c := cod fn) (fn := fn) Go.Proofs.Tryz.func56 (by kernel_rfl) (by kernel_rfl) (Nat.le_of_ble_eq_true (by kernel_rfl))
  (cast (by kernel_rfl) ht)
end Znq
end Go.Sim

set_option maxRecDepth 100000
set_option linter.unusedVariables false
namespace Go.Sim
open Go Go.RowKit
namespace Zqk
noncomputable abbrev fn : Func := Go.Proofs.Tryz.f48
def kp : Zcd := []
noncomputable def C (p : List Nat) : Code := (cod fn).sub p
def KR (Q : QT) : KT := Zem pg fn.results.toList Q
theorem call (x0x0 x0x1 : List Nat) (x1 : Int) (h : Zaa) (Q : QT) (ht :
 Zcn (h ++ [.cells Zpl [.str x0x0, .str x0x1] false]) fun H0 => Zbp (Zal H0 (.ptr (some (h.length, 0 + 0)))) fun S1 => bcase (decide (((IntKind.wrap .i64 (x1 - (((List.length S1 : Nat) : Int)))) : Int) < 0)) (Q (.int .i64 (-1)) H0) (Zbp (Zal H0 (.ptr (some (h.length, 0 + 1)))) fun S2 => bcase (decide (((IntKind.wrap .i64 ((IntKind.wrap .i64 (x1 - (((List.length S1 : Nat) : Int)))) - (((List.length S2 : Nat) : Int)))) : Int) < 0)) (Q (.int .i64 (-1)) H0) (Q (.int .i64 (IntKind.wrap .i64 ((IntKind.wrap .i64 (x1 - (((List.length S1 : Nat) : Int)))) - (((List.length S2 : Nat) : Int))))) H0))) : Zae pg Zmj [.agg [.str x0x0, .str x0x1], .int .i64 x1] h Q :=
 Zae.of_body kp (c := cod fn) (fn := fn) Go.Proofs.Tryz.func48 (by kernel_rfl) (by kernel_rfl) (Nat.le_of_ble_eq_true (by kernel_rfl))
  (cast (by kernel_rfl) ht)
end Zqk
namespace Zql
noncomputable abbrev fn : Func := Go.Proofs.Tryz.f60
def kp : Zcd := []
noncomputable def C (p : List Nat) : Code := (cod fn).sub p
def KR (Q : QT) : KT := Zem pg fn.results.toList Q
theorem call (x0x0 x0x1 x1x0 x1x1 : List Nat) (h : Zaa) (Q : QT) (ht :
 Zcn (h ++ [.cells Zbq [.str x0x0, .str x0x1] false]) fun H0 => Zcn (H0 ++ [.cells Zbq [.str x1x0, .str x1x1] false]) fun H1 => Zbp (Zal H1 (.ptr (some (h.length, 0 + 0)))) fun S2 => Zbp (Zal H1 (.ptr (some (H0.length, 0 + 0)))) fun S3 => bcase (!(decide (S2 = S3))) (Q (.bool false) H1) (Zbp (Zal H1 (.ptr (some (h.length, 0 + 1)))) fun S4 => Zbp (Zal H1 (.ptr (some (H0.length, 0 + 1)))) fun S5 => bcase (!(decide (S4 = S5))) (Q (.bool false) H1) (Q (.bool true) H1))) : Zae pg Zmn [.agg [.str x0x0, .str x0x1], .agg [.str x1x0, .str x1x1]] h Q :=
 Zae.of_body kp (c := cod fn) (fn := fn) Go.Proofs.Tryz.func60 (by kernel_rfl) (by kernel_rfl) (Nat.le_of_ble_eq_true (by kernel_rfl))
  (cast (by kernel_rfl) ht)
end Zql
namespace Zqu
noncomputable abbrev fn : Func := Go.Proofs.Tryz.f55
def kp : Zcd := []
noncomputable def C (p : List Nat) : Code := (cod fn).sub p
def KR (Q : QT) : KT := Zem pg fn.results.toList Q
theorem call (x0x0 x0x1 : List Nat) (h : Zaa) (Q : QT) (ht :
 Zcn (h ++ [.cells Zpl [.str x0x0, .str x0x1] false]) fun H0 => Zcn (H0 ++ [.cells Zbq [.str [], .str []] false]) fun H1 => Zcn (H1 ++ [.cells Zbq [.str [], .str []] false]) fun H2 => Zbp (Zal H2 (.ptr (some (h.length, 0 + 0)))) fun S3 => Zcp (Zbn H2 (.ptr (some (H1.length, 0 + 0))) [.str S3]) fun H4 => Zbp (Zal H4 (.ptr (some (h.length, 0 + 1)))) fun S5 => Zcp (Zbn H4 (.ptr (some (H1.length, 0 + 1))) [.str S5]) fun H6 => Zcz (Zbx H6 (.ptr (some (H1.length, 0))) 2) fun K7 => Zao K7 fun C8 Z9 => Zbp (some C8) fun S10 => Zao Z9 fun C11 Z12 => Zbp (some C11) fun S13 => Zcl Z12 (Zcp (Zbn H6 (.ptr (some (H0.length, 0))) [.str S10, .str S13]) fun H14 => Zcz (Zbx H14 (.ptr (some (H0.length, 0))) 2) fun K15 => Zao K15 fun C16 Z17 => Zbp (some C16) fun S18 => Zao Z17 fun C19 Z20 => Zbp (some C19) fun S21 => Zcl Z20 (Q (.agg [.str S18, .str S21]) H14))) : Zae pg Zms [.agg [.str x0x0, .str x0x1]] h Q :=
 Zae.of_body kp (c := cod fn) (fn := fn) Go.Proofs.Tryz.func55 (by kernel_rfl) (by kernel_rfl) (Nat.le_of_ble_eq_true (by kernel_rfl))
  (cast (by kernel_rfl) ht)
end Zqu
namespace Zgh
noncomputable abbrev fn : Func := Go.Proofs.Tryz.f28
def kp : Zcd := [(3000005, [1, 4]), (1000005, [0, 1, 5])]
noncomputable def C (p : List Nat) : Code := (cod fn).sub p
def KR (Q : QT) : KT := Zem pg fn.results.toList Q
abbrev T5 := Pt → Nat → Nat → Bool → Int → Int → Zaa → Prop
def E5 (R5 : T5) (env : Env) (h : Zaa) : Prop := Zbj 0 env fun v env => xSl (some v) fun a0 n0 c0 e0 => Zbj 1 env fun v env => Zda .i64 v fun x1 => Zbj 5 env fun v env => Zda .i64 v fun x5 => Ziw env (R5 a0 n0 c0 e0 x1 x5 h)
theorem Zie {R5 : T5} {env : Env} {h : Zaa} (hi : E5 R5 env h) : ∃ a0, ∃ n0, ∃ c0, ∃ e0, ∃ x1, ∃ x5, env = [(0, .slice a0 n0 c0 e0), (1, .int .i64 x1), (5, .int .i64 x5)] ∧ R5 a0 n0 c0 e0 x1 x5 h := by
 unfold E5 at hi
 have hi0 := hi
 clear hi
 obtain ⟨_, _, rfl, hi1⟩ := Zab hi0
 obtain ⟨a0, n0, c0, e0, rfl, hi2⟩ := Zax hi1
 obtain ⟨_, _, rfl, hi3⟩ := Zab hi2
 obtain ⟨x1, rfl, hi4⟩ := Zak hi3
 obtain ⟨_, _, rfl, hi5⟩ := Zab hi4
 obtain ⟨x5, rfl, hi6⟩ := Zak hi5
 obtain ⟨rfl, hi7⟩ := Zbk hi6
 have hi := hi7
 exact ⟨a0, n0, c0, e0, x1, x5, rfl, hi⟩
def K0 (Q : QT) : KT := andThen (fun env' h' => (match kp.find 4000010 with | some ks => Den pg fn.ntmps (C [1, 1, 1, 1]) (env'.keep ks) h' (KR Q) | none => den pg fn.ntmps kp (C [1, 1, 1, 1]) env' h' (KR Q))) (KR Q)
def K1 (Q : QT) : KT := Zcg 0 (K0 Q)
def K2 (Q : QT) : KT := Zgf kp 5 (K1 Q)
def K3 (Q : QT) (R5 : T5) : KT := rnd ((kp.find 1000005).getD []) (E5 R5) (K2 Q)
def L5 (Q : QT) (a0 : Pt) (n0 c0 : Nat) (e0 : Bool) (x1 x5 : Int) (h : Zaa) : Prop := Zdz (Den pg fn.ntmps (C [1, 1, 1, 0, 1, 0, 0])) ((kp.find 1000005).getD []) (K2 Q) [(0, .slice a0 n0 c0 e0), (1, .int .i64 x1), (5, .int .i64 x5)] h
def A5x0 (Q : QT) (x1 : Int) (h : Zaa) : Prop := At (K1 Q) (.exit 0) [(1, .int .i64 x1), (4, .undef)] h
def L5t (Q : QT) (R5 : T5) (a0 : Pt) (n0 c0 : Nat) (e0 : Bool) (x1 x5 : Int) (h : Zaa) : Prop :=
 bcase (decide ((x5 : Int) < (((n0 : Nat) : Int)))) ((0 ≤ (x5 : Int) ∧ (x5 : Int) < (n0 : Nat)) ∧ (Zbl a0 fun I0 O1 => Zcz (Zbx h (.ptr (some (I0, O1 + (Int.toNat x5) * 2))) 2) fun K2 => Zao K2 fun C3 Z4 => Zbp (some C3) fun S5 => Zao Z4 fun C6 Z7 => Zbp (some C6) fun S8 => Zcl Z7 (Zae pg Zmj [.agg [.str S5, .str S8], .int .i64 x1] h fun V9 H10 =>
 Zen .i64 (some V9) fun X11 => bcase (decide ((X11 : Int) < 0)) (Q (.int .i64 (-1)) H10) (R5 a0 n0 c0 e0 X11 (IntKind.wrap .i64 (x5 + 1)) H10)))) (A5x0 Q x1 h)
theorem Ztn (Q : QT) (R5 : T5) (a0 : Pt) (n0 c0 : Nat) (e0 : Bool) (x1 x5 : Int) (h : Zaa) (ht : L5t Q R5 a0 n0 c0 e0 x1 x5 h) : Den pg fn.ntmps (C [1, 1, 1, 0, 1, 0, 0]) [(0, .slice a0 n0 c0 e0), (1, .int .i64 x1), (5, .int .i64 x5)] h (K3 Q R5) :=
 Zbb (kp := kp) (cast (by kernel_rfl) ht)
theorem L5ind (Q : QT) (a0 : Pt) (n0 c0 : Nat) (e0 : Bool) {G : Type} (J : G → Int → Int → Zaa → Prop) (m : G → Nat)
 (hr : ∀ (g : G) (x1 x5 : Int) (h : Zaa), J g x1 x5 h → ∀ (R5 : T5), (∀ g' (x1 x5 : Int) (h : Zaa), m g' < m g → J g' x1 x5 h → R5 a0 n0 c0 e0 x1 x5 h) → L5t Q R5 a0 n0 c0 e0 x1 x5 h)
 (g : G) (x1 x5 : Int) (h : Zaa) (hj : J g x1 x5 h) : L5 Q a0 n0 c0 e0 x1 x5 h := by
 refine Zdz.inv2 (fun g => E5 fun a0' n0' c0' e0' x1 x5 h => a0 = a0' ∧ n0 = n0' ∧ c0 = c0' ∧ e0 = e0' ∧ J g x1 x5 h) (fun g => E5 fun a0' n0' c0' e0' x1 x5 h => a0 = a0' ∧ n0 = n0' ∧ c0 = c0' ∧ e0 = e0' ∧ ∃ g', m g' < m g ∧ J g' x1 x5 h) m ?_ ?_ g ⟨rfl, rfl, rfl, rfl, hj⟩
 ·intro g env h hi
  obtain ⟨a0', n0', c0', e0', x1, x5, rfl, rfl, rfl, rfl, rfl, hj⟩ := Zie hi
  exact Ztn Q _ a0 n0 c0 e0 x1 x5 h (hr g x1 x5 h hj (fun a0' n0' c0' e0' x1 x5 h => a0 = a0' ∧ n0 = n0' ∧ c0 = c0' ∧ e0 = e0' ∧ ∃ g', m g' < m g ∧ J g' x1 x5 h) fun g' x1 x5 h hlt hj => ⟨rfl, rfl, rfl, rfl, g', hlt, hj⟩)
 ·intro g env h hi
  obtain ⟨a0', n0', c0', e0', x1, x5, rfl, rfl, rfl, rfl, rfl, g', hlt, hj⟩ := Zie hi
  exact ⟨g', hlt, rfl, rfl, rfl, rfl, hj⟩
theorem A5x0i (Q : QT) (x1 : Int) (h : Zaa) (ht :
 Q (.int .i64 x1) h) : A5x0 Q x1 h :=
 At.mk (cast (by kernel_rfl) ht)
theorem call (a0 : Pt) (n0 c0 : Nat) (e0 : Bool) (x1 : Int) (h : Zaa) (Q : QT) (ht :
 bcase (decide (((IntKind.wrap .i64 (x1 - (((n0 : Nat) : Int)))) : Int) < 0)) (Q (.int .i64 (-1)) h) (L5 Q a0 n0 c0 e0 (IntKind.wrap .i64 (x1 - (((n0 : Nat) : Int)))) 0 h)) : Zae pg Zle [.slice a0 n0 c0 e0, .int .i64 x1] h Q :=
 Zae.of_body kp (c := cod fn) (fn := fn) Go.Proofs.Tryz.func28 (by kernel_rfl) (by kernel_rfl) (Nat.le_of_ble_eq_true (by kernel_rfl))
  (cast (by kernel_rfl) ht)
end Zgh
namespace Zgi
noncomputable abbrev fn : Func := Go.Proofs.Tryz.f32
def kp : Zcd := [(3000003, [3]), (1000003, [0, 3, 4])]
noncomputable def C (p : List Nat) : Code := (cod fn).sub p
def KR (Q : QT) : KT := Zem pg fn.results.toList Q
abbrev T3 := Pt → Nat → Nat → Bool → Pt → Nat → Nat → Bool → Int → Zaa → Prop
def E3 (R3 : T3) (env : Env) (h : Zaa) : Prop := Zbj 0 env fun v env => xSl (some v) fun a0 n0 c0 e0 => Zbj 3 env fun v env => xSl (some v) fun a3 n3 c3 e3 => Zbj 4 env fun v env => Zda .i64 v fun x4 => Ziw env (R3 a0 n0 c0 e0 a3 n3 c3 e3 x4 h)
theorem Zej {R3 : T3} {env : Env} {h : Zaa} (hi : E3 R3 env h) : ∃ a0, ∃ n0, ∃ c0, ∃ e0, ∃ a3, ∃ n3, ∃ c3, ∃ e3, ∃ x4, env = [(0, .slice a0 n0 c0 e0), (3, .slice a3 n3 c3 e3), (4, .int .i64 x4)] ∧ R3 a0 n0 c0 e0 a3 n3 c3 e3 x4 h := by
 unfold E3 at hi
 have hi0 := hi
 clear hi
 obtain ⟨_, _, rfl, hi1⟩ := Zab hi0
 obtain ⟨a0, n0, c0, e0, rfl, hi2⟩ := Zax hi1
 obtain ⟨_, _, rfl, hi3⟩ := Zab hi2
 obtain ⟨a3, n3, c3, e3, rfl, hi4⟩ := Zax hi3
 obtain ⟨_, _, rfl, hi5⟩ := Zab hi4
 obtain ⟨x4, rfl, hi6⟩ := Zak hi5
 obtain ⟨rfl, hi7⟩ := Zbk hi6
 have hi := hi7
 exact ⟨a0, n0, c0, e0, a3, n3, c3, e3, x4, rfl, hi⟩
def K0 (Q : QT) : KT := andThen (fun env' h' => (match kp.find 4000006 with | some ks => Den pg fn.ntmps (C [1, 1, 1]) (env'.keep ks) h' (KR Q) | none => den pg fn.ntmps kp (C [1, 1, 1]) env' h' (KR Q))) (KR Q)
def K1 (Q : QT) : KT := Zcg 0 (K0 Q)
def K2 (Q : QT) : KT := Zgf kp 3 (K1 Q)
def K3 (Q : QT) (R3 : T3) : KT := rnd ((kp.find 1000003).getD []) (E3 R3) (K2 Q)
def L3 (Q : QT) (a0 : Pt) (n0 c0 : Nat) (e0 : Bool) (a3 : Pt) (n3 c3 : Nat) (e3 : Bool) (x4 : Int) (h : Zaa) : Prop := Zdz (Den pg fn.ntmps (C [1, 1, 0, 1, 0, 0])) ((kp.find 1000003).getD []) (K2 Q) [(0, .slice a0 n0 c0 e0), (3, .slice a3 n3 c3 e3), (4, .int .i64 x4)] h
def Zpf (Q : QT) (a3 : Pt) (n3 c3 : Nat) (e3 : Bool) (h : Zaa) : Prop := At (K1 Q) (.exit 0) [(3, .slice a3 n3 c3 e3)] h
def L3t (Q : QT) (R3 : T3) (a0 : Pt) (n0 c0 : Nat) (e0 : Bool) (a3 : Pt) (n3 c3 : Nat) (e3 : Bool) (x4 : Int) (h : Zaa) : Prop :=
 bcase (decide ((x4 : Int) < (((n0 : Nat) : Int)))) ((0 ≤ (x4 : Int) ∧ (x4 : Int) < (n0 : Nat)) ∧ (Zbl a0 fun I1 O2 => Zcz (Zbx h (.ptr (some (I1, O2 + (Int.toNat x4) * 2))) 2) fun K3 => Zao K3 fun C4 Z5 => Zbp (some C4) fun S6 => Zao Z5 fun C7 Z8 => Zbp (some C7) fun S9 => Zcl Z8 (Zae pg Zms [.agg [.str S6, .str S9]] h fun V10 H11 =>
 Zue V10 fun K12 => Zao K12 fun C13 Z14 => Zbp (some C13) fun S15 => Zao Z14 fun C16 Z17 => Zbp (some C16) fun S18 => Zcl Z17 ((0 ≤ (x4 : Int) ∧ (x4 : Int) < (n3 : Nat)) ∧ (Zbl a3 fun I19 O20 => Zcp (Zbn H11 (.ptr (some (I19, O20 + (Int.toNat x4) * 2))) [.str S15, .str S18]) fun H21 => R3 a0 n0 c0 e0 a3 n3 c3 e3 (IntKind.wrap .i64 (x4 + 1)) H21))))) (Zpf Q a3 n3 c3 e3 h)
theorem Zkx (Q : QT) (R3 : T3) (a0 : Pt) (n0 c0 : Nat) (e0 : Bool) (a3 : Pt) (n3 c3 : Nat) (e3 : Bool) (x4 : Int) (h : Zaa) (ht : L3t Q R3 a0 n0 c0 e0 a3 n3 c3 e3 x4 h) : Den pg fn.ntmps (C [1, 1, 0, 1, 0, 0]) [(0, .slice a0 n0 c0 e0), (3, .slice a3 n3 c3 e3), (4, .int .i64 x4)] h (K3 Q R3) :=
 Zbb (kp := kp) (cast (by kernel_rfl) ht)
theorem L3ind (Q : QT) (a0 : Pt) (n0 c0 : Nat) (e0 : Bool) (a3 : Pt) (n3 c3 : Nat) (e3 : Bool) {G : Type} (J : G → Int → Zaa → Prop) (m : G → Nat)
 (hr : ∀ (g : G) (x4 : Int) (h : Zaa), J g x4 h → ∀ (R3 : T3), (∀ g' (x4 : Int) (h : Zaa), m g' < m g → J g' x4 h → R3 a0 n0 c0 e0 a3 n3 c3 e3 x4 h) → L3t Q R3 a0 n0 c0 e0 a3 n3 c3 e3 x4 h)
 (g : G) (x4 : Int) (h : Zaa) (hj : J g x4 h) : L3 Q a0 n0 c0 e0 a3 n3 c3 e3 x4 h := by
 refine Zdz.inv2 (fun g => E3 fun a0' n0' c0' e0' a3' n3' c3' e3' x4 h => a0 = a0' ∧ n0 = n0' ∧ c0 = c0' ∧ e0 = e0' ∧ a3 = a3' ∧ n3 = n3' ∧ c3 = c3' ∧ e3 = e3' ∧ J g x4 h) (fun g => E3 fun a0' n0' c0' e0' a3' n3' c3' e3' x4 h => a0 = a0' ∧ n0 = n0' ∧ c0 = c0' ∧ e0 = e0' ∧ a3 = a3' ∧ n3 = n3' ∧ c3 = c3' ∧ e3 = e3' ∧ ∃ g', m g' < m g ∧ J g' x4 h) m ?_ ?_ g ⟨rfl, rfl, rfl, rfl, rfl, rfl, rfl, rfl, hj⟩
 ·intro g env h hi
  obtain ⟨a0', n0', c0', e0', a3', n3', c3', e3', x4, rfl, rfl, rfl, rfl, rfl, rfl, rfl, rfl, rfl, hj⟩ := Zej hi
  exact Zkx Q _ a0 n0 c0 e0 a3 n3 c3 e3 x4 h (hr g x4 h hj (fun a0' n0' c0' e0' a3' n3' c3' e3' x4 h => a0 = a0' ∧ n0 = n0' ∧ c0 = c0' ∧ e0 = e0' ∧ a3 = a3' ∧ n3 = n3' ∧ c3 = c3' ∧ e3 = e3' ∧ ∃ g', m g' < m g ∧ J g' x4 h) fun g' x4 h hlt hj => ⟨rfl, rfl, rfl, rfl, rfl, rfl, rfl, rfl, g', hlt, hj⟩)
 ·intro g env h hi
  obtain ⟨a0', n0', c0', e0', a3', n3', c3', e3', x4, rfl, rfl, rfl, rfl, rfl, rfl, rfl, rfl, rfl, g', hlt, hj⟩ := Zej hi
  exact ⟨g', hlt, rfl, rfl, rfl, rfl, rfl, rfl, rfl, rfl, hj⟩
theorem A3x0i (Q : QT) (a3 : Pt) (n3 c3 : Nat) (e3 : Bool) (h : Zaa) (ht :
 Q (.slice a3 n3 c3 e3) h) : Zpf Q a3 n3 c3 e3 h :=
 At.mk (cast (by kernel_rfl) ht)
theorem call (a0 : Pt) (n0 c0 : Nat) (e0 : Bool) (h : Zaa) (Q : QT) (ht :
 IntKind.i64 = IntKind.i64 ∧ (IntKind.i64 = IntKind.i64 ∧ ((0 ≤ ((((n0 : Nat) : Int)) : Int) ∧ ((((n0 : Nat) : Int)) : Int) ≤ (((n0 : Nat) : Int)) ∧ ((((n0 : Nat) : Int)) : Int) * (((32 : Nat) : Int) + 1) ≤ 140737488355328) ∧ (Zcn (h ++ [.cells Zbq (reps (Int.toNat ((((n0 : Nat) : Int)))) [.str [], .str []]) false]) fun H0 => L3 Q a0 n0 c0 e0 (some (h.length, 0)) (Int.toNat ((((n0 : Nat) : Int)))) (Int.toNat ((((n0 : Nat) : Int)))) true 0 H0)))) : Zae pg Zlo [.slice a0 n0 c0 e0] h Q :=
 Zae.of_body kp (c := cod fn) (fn := fn) Go.Proofs.Tryz.func32 (by kernel_rfl) (by kernel_rfl) (Nat.le_of_ble_eq_true (by kernel_rfl))
  (cast (by kernel_rfl) ht)
end Zgi
namespace Zgk
noncomputable abbrev fn : Func := Go.Proofs.Tryz.f36
def kp : Zcd := [(3000004, [4]), (1000004, [0, 1, 5]), (2000006, [26, 5, 0, 1])]
noncomputable def C (p : List Nat) : Code := (cod fn).sub p
def KR (Q : QT) : KT := Zem pg fn.results.toList Q
abbrev T4 := Pt → Nat → Nat → Bool → Pt → Nat → Nat → Bool → Int → Zaa → Prop
def E4 (R4 : T4) (env : Env) (h : Zaa) : Prop := Zbj 0 env fun v env => xSl (some v) fun a0 n0 c0 e0 => Zbj 1 env fun v env => xSl (some v) fun a1 n1 c1 e1 => Zbj 5 env fun v env => Zda .i64 v fun x5 => Ziw env (R4 a0 n0 c0 e0 a1 n1 c1 e1 x5 h)
theorem Zic {R4 : T4} {env : Env} {h : Zaa} (hi : E4 R4 env h) : ∃ a0, ∃ n0, ∃ c0, ∃ e0, ∃ a1, ∃ n1, ∃ c1, ∃ e1, ∃ x5, env = [(0, .slice a0 n0 c0 e0), (1, .slice a1 n1 c1 e1), (5, .int .i64 x5)] ∧ R4 a0 n0 c0 e0 a1 n1 c1 e1 x5 h := by
 unfold E4 at hi
 have hi0 := hi
 clear hi
 obtain ⟨_, _, rfl, hi1⟩ := Zab hi0
 obtain ⟨a0, n0, c0, e0, rfl, hi2⟩ := Zax hi1
 obtain ⟨_, _, rfl, hi3⟩ := Zab hi2
 obtain ⟨a1, n1, c1, e1, rfl, hi4⟩ := Zax hi3
 obtain ⟨_, _, rfl, hi5⟩ := Zab hi4
 obtain ⟨x5, rfl, hi6⟩ := Zak hi5
 obtain ⟨rfl, hi7⟩ := Zbk hi6
 have hi := hi7
 exact ⟨a0, n0, c0, e0, a1, n1, c1, e1, x5, rfl, hi⟩
def K0 (Q : QT) : KT := andThen (fun env' h' => (match kp.find 4000008 with | some ks => Den pg fn.ntmps (C [1, 1, 1]) (env'.keep ks) h' (KR Q) | none => den pg fn.ntmps kp (C [1, 1, 1]) env' h' (KR Q))) (KR Q)
def K1 (Q : QT) : KT := Zcg 0 (K0 Q)
def K2 (Q : QT) : KT := Zgf kp 4 (K1 Q)
def K3 (Q : QT) (R4 : T4) : KT := rnd ((kp.find 1000004).getD []) (E4 R4) (K2 Q)
def L4 (Q : QT) (a0 : Pt) (n0 c0 : Nat) (e0 : Bool) (a1 : Pt) (n1 c1 : Nat) (e1 : Bool) (x5 : Int) (h : Zaa) : Prop := Zdz (Den pg fn.ntmps (C [1, 1, 0, 1, 0, 0])) ((kp.find 1000004).getD []) (K2 Q) [(0, .slice a0 n0 c0 e0), (1, .slice a1 n1 c1 e1), (5, .int .i64 x5)] h
def Zxx (Q : QT) (h : Zaa) : Prop := At (K1 Q) (.exit 0) [(4, .undef)] h
def L4t (Q : QT) (R4 : T4) (a0 : Pt) (n0 c0 : Nat) (e0 : Bool) (a1 : Pt) (n1 c1 : Nat) (e1 : Bool) (x5 : Int) (h : Zaa) : Prop :=
 bcase (decide ((x5 : Int) < (((n0 : Nat) : Int)))) ((0 ≤ (x5 : Int) ∧ (x5 : Int) < (n0 : Nat)) ∧ (Zbl a0 fun I0 O1 => (0 ≤ (x5 : Int) ∧ (x5 : Int) < (n1 : Nat)) ∧ (Zbl a1 fun I2 O3 => Zcz (Zbx h (.ptr (some (I0, O1 + (Int.toNat x5) * 2))) 2) fun K4 => Zao K4 fun C5 Z6 => Zbp (some C5) fun S7 => Zao Z6 fun C8 Z9 => Zbp (some C8) fun S10 => Zcl Z9 (Zcz (Zbx h (.ptr (some (I2, O3 + (Int.toNat x5) * 2))) 2) fun K11 => Zao K11 fun C12 Z13 => Zbp (some C12) fun S14 => Zao Z13 fun C15 Z16 => Zbp (some C15) fun S17 => Zcl Z16 ((Zbx h (.ptr (some (I0, O1 + (Int.toNat x5) * 2))) 2 = Zbx h (.ptr (some (I0, O1 + (Int.toNat x5) * 2))) 2) ∧ Zae pg Zmn [.agg [.str S7, .str S10], .agg [.str S14, .str S17]] h fun V18 H19 =>
 Zch (some V18) fun B20 => bcase (!B20) (Q (.bool false) H19) (R4 a0 n0 c0 e0 a1 n1 c1 e1 (IntKind.wrap .i64 (x5 + 1)) H19)))))) (Zxx Q h)
theorem Zsz (Q : QT) (R4 : T4) (a0 : Pt) (n0 c0 : Nat) (e0 : Bool) (a1 : Pt) (n1 c1 : Nat) (e1 : Bool) (x5 : Int) (h : Zaa) (ht : L4t Q R4 a0 n0 c0 e0 a1 n1 c1 e1 x5 h) : Den pg fn.ntmps (C [1, 1, 0, 1, 0, 0]) [(0, .slice a0 n0 c0 e0), (1, .slice a1 n1 c1 e1), (5, .int .i64 x5)] h (K3 Q R4) :=
 Zbb (kp := kp) (cast (by kernel_rfl) ht)
theorem L4ind (Q : QT) (a0 : Pt) (n0 c0 : Nat) (e0 : Bool) (a1 : Pt) (n1 c1 : Nat) (e1 : Bool) {G : Type} (J : G → Int → Zaa → Prop) (m : G → Nat)
 (hr : ∀ (g : G) (x5 : Int) (h : Zaa), J g x5 h → ∀ (R4 : T4), (∀ g' (x5 : Int) (h : Zaa), m g' < m g → J g' x5 h → R4 a0 n0 c0 e0 a1 n1 c1 e1 x5 h) → L4t Q R4 a0 n0 c0 e0 a1 n1 c1 e1 x5 h)
 (g : G) (x5 : Int) (h : Zaa) (hj : J g x5 h) : L4 Q a0 n0 c0 e0 a1 n1 c1 e1 x5 h := by
 refine Zdz.inv2 (fun g => E4 fun a0' n0' c0' e0' a1' n1' c1' e1' x5 h => a0 = a0' ∧ n0 = n0' ∧ c0 = c0' ∧ e0 = e0' ∧ a1 = a1' ∧ n1 = n1' ∧ c1 = c1' ∧ e1 = e1' ∧ J g x5 h) (fun g => E4 fun a0' n0' c0' e0' a1' n1' c1' e1' x5 h => a0 = a0' ∧ n0 = n0' ∧ c0 = c0' ∧ e0 = e0' ∧ a1 = a1' ∧ n1 = n1' ∧ c1 = c1' ∧ e1 = e1' ∧ ∃ g', m g' < m g ∧ J g' x5 h) m ?_ ?_ g ⟨rfl, rfl, rfl, rfl, rfl, rfl, rfl, rfl, hj⟩
 ·intro g env h hi
  obtain ⟨a0', n0', c0', e0', a1', n1', c1', e1', x5, rfl, rfl, rfl, rfl, rfl, rfl, rfl, rfl, rfl, hj⟩ := Zic hi
  exact Zsz Q _ a0 n0 c0 e0 a1 n1 c1 e1 x5 h (hr g x5 h hj (fun a0' n0' c0' e0' a1' n1' c1' e1' x5 h => a0 = a0' ∧ n0 = n0' ∧ c0 = c0' ∧ e0 = e0' ∧ a1 = a1' ∧ n1 = n1' ∧ c1 = c1' ∧ e1 = e1' ∧ ∃ g', m g' < m g ∧ J g' x5 h) fun g' x5 h hlt hj => ⟨rfl, rfl, rfl, rfl, rfl, rfl, rfl, rfl, g', hlt, hj⟩)
 ·intro g env h hi
  obtain ⟨a0', n0', c0', e0', a1', n1', c1', e1', x5, rfl, rfl, rfl, rfl, rfl, rfl, rfl, rfl, rfl, g', hlt, hj⟩ := Zic hi
  exact ⟨g', hlt, rfl, rfl, rfl, rfl, rfl, rfl, rfl, rfl, hj⟩
theorem A4x0i (Q : QT) (h : Zaa) (ht :
 Q (.bool true) h) : Zxx Q h :=
 At.mk (cast (by kernel_rfl) ht)
theorem call (a0 : Pt) (n0 c0 : Nat) (e0 : Bool) (a1 : Pt) (n1 c1 : Nat) (e1 : Bool) (h : Zaa) (Q : QT) (ht :
 bcase (!((((n0 : Nat) : Int) : Int) == (((n1 : Nat) : Int)))) (Q (.bool false) h) (L4 Q a0 n0 c0 e0 a1 n1 c1 e1 0 h)) : Zae pg Zlm [.slice a0 n0 c0 e0, .slice a1 n1 c1 e1] h Q :=
 Zae.of_body kp (c := cod fn) (fn := fn) Go.Proofs.Tryz.func36 (by kernel_rfl) (by kernel_rfl) (Nat.le_of_ble_eq_true (by kernel_rfl))
  (cast (by kernel_rfl) ht)
end Zgk
end Go.Sim
