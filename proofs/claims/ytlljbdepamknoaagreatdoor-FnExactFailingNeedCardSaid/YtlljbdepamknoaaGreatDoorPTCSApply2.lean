/- A part of the proof of a statement of this seat: see the text that holds the theorem. No condition. -/
import Derived.Test.YtlljbdepamknoaaGreatDoorNm
set_option linter.unusedVariables false
set_option linter.unusedSimpArgs false
set_option linter.all false
set_option maxRecDepth 100000
set_option linter.unusedVariables false
namespace Go.Sim
open Go Go.RowKit
namespace Zgq
noncomputable abbrev fn : Func := Go.Proofs.Tryz.f83
def kp : Zcf := [(3000006, [0, 3]), (1000006, [0, 3])]
noncomputable def C (p : List Nat) : Code := (cod fn).sub p
def KR (Q : QT) : KT := Zfc pg fn.results.toList Q
abbrev T6 := Int → List Nat → Zaa → Prop
def E6 (R6 : T6) (env : Env) (h : Zaa) : Prop := Zca 0 env fun v env => Zep .i64 v fun x0 => Zca 3 env fun v env => Zaz (some v) fun x3 => Zlf env (R6 x0 x3 h)
theorem Zmz {R6 : T6} {env : Env} {h : Zaa} (hi : E6 R6 env h) : ∃ x0, ∃ x3, env = [(0, .int .i64 x0), (3, .str x3)] ∧ R6 x0 x3 h := by
  unfold E6 at hi
  have hi0 := hi
  clear hi
  obtain ⟨_, _, rfl, hi1⟩ := Zac hi0
  obtain ⟨x0, rfl, hi2⟩ := Zat hi1
  obtain ⟨_, _, rfl, hi3⟩ := Zac hi2
  obtain ⟨x3, rfl, hi4⟩ := Zee hi3
  obtain ⟨rfl, hi5⟩ := Zbq hi4
  have hi := hi5
  exact ⟨x0, x3, rfl, hi⟩
def K0 (Q : QT) : KT := andThen (fun env' h' => (match kp.find 4000009 with | some ks => Den pg fn.ntmps (C [1, 1, 1, 1, 1]) (env'.keep ks) h' (KR Q) | none => den pg fn.ntmps kp (C [1, 1, 1, 1, 1]) env' h' (KR Q))) (KR Q)
def K1 (Q : QT) : KT := Zct 0 (K0 Q)
def K2 (Q : QT) : KT := Zij kp 6 (K1 Q)
def K3 (Q : QT) (R6 : T6) : KT := rnd ((kp.find 1000006).getD []) (E6 R6) (K2 Q)
def L6 (Q : QT) (x0 : Int) (x3 : List Nat) (h : Zaa) : Prop := Zes (Den pg fn.ntmps (C [1, 1, 1, 1, 0, 0, 0])) ((kp.find 1000006).getD []) (K2 Q) [(0, .int .i64 x0), (3, .str x3)] h
def Yfv (Q : QT) (x0 : Int) (x3 : List Nat) (h : Zaa) : Prop := At (K1 Q) (.exit 0) [(0, .int .i64 x0), (3, .str x3)] h
def L6t (Q : QT) (R6 : T6) (x0 : Int) (x3 : List Nat) (h : Zaa) : Prop :=
 bcase (decide ((x0 : Int) > 9)) ((10 : Int) ≠ 0 ∧ (Zck (h ++ [.cells Zzd [.int .u8 (IntKind.wrap .u8 (IntKind.wrap .i64 (48 + (Int.tmod x0 10))))] false]) fun H3 => Zce (rowOf H3 (some (h.length, 0)) 1) fun K4 => Zml K4 fun S5 => List.length S5 + List.length x3 ≤ 9223372036854775807 ∧ ((10 : Int) ≠ 0 ∧ (R6 (IntKind.wrap .i64 (Int.tdiv x0 10)) (S5 ++ x3) H3)))) (Yfv Q x0 x3 h)
theorem Yag (Q : QT) (R6 : T6) (x0 : Int) (x3 : List Nat) (h : Zaa) (ht : L6t Q R6 x0 x3 h) : Den pg fn.ntmps (C [1, 1, 1, 1, 0, 0, 0]) [(0, .int .i64 x0), (3, .str x3)] h (K3 Q R6) :=
  Zbe (kp := kp) (cast (by kernel_rfl) ht)
theorem L6ind (Q : QT) {G : Type} (J : G → Int → List Nat → Zaa → Prop) (m : G → Nat)
 (hr : ∀ (g : G) (x0 : Int) (x3 : List Nat) (h : Zaa), J g x0 x3 h → ∀ (R6 : T6), (∀ g' (x0 : Int) (x3 : List Nat) (h : Zaa), m g' < m g → J g' x0 x3 h → R6 x0 x3 h) → L6t Q R6 x0 x3 h)
 (g : G) (x0 : Int) (x3 : List Nat) (h : Zaa) (hj : J g x0 x3 h) : L6 Q x0 x3 h := by
  refine Zes.inv2 (fun g => E6 fun x0 x3 h => J g x0 x3 h) (fun g => E6 fun x0 x3 h => ∃ g', m g' < m g ∧ J g' x0 x3 h) m ?_ ?_ g hj
  · intro g env h hi
    obtain ⟨x0, x3, rfl, hj⟩ := Zmz hi
    exact Yag Q _ x0 x3 h (hr g x0 x3 h hj (fun x0 x3 h => ∃ g', m g' < m g ∧ J g' x0 x3 h) fun g' x0 x3 h hlt hj => ⟨g', hlt, hj⟩)
  · intro g env h hi
    obtain ⟨x0, x3, rfl, g', hlt, hj⟩ := Zmz hi
    exact ⟨g', hlt, hj⟩
theorem A6x0i (Q : QT) (x0 : Int) (x3 : List Nat) (h : Zaa) (ht :
 Zck (h ++ [.cells Zzd [.int .u8 (IntKind.wrap .u8 (IntKind.wrap .i64 (48 + x0)))] false]) fun H6 => Zce (rowOf H6 (some (h.length, 0)) 1) fun K7 => Zml K7 fun S8 => List.length S8 + List.length x3 ≤ 9223372036854775807 ∧ (Q (.str (S8 ++ x3)) H6)) : Yfv Q x0 x3 h :=
  At.mk (cast (by kernel_rfl) ht)
theorem call (x0 : Int) (h : Zaa) (Q : QT) (ht :
 bcase (decide ((x0 : Int) < (-9223372036854775807))) (Q (.str ([45, 57, 50, 50, 51, 51, 55, 50, 48, 51, 54, 56, 53, 52, 55, 55, 53, 56, 48, 56])) h) (bcase (decide ((x0 : Int) < 0)) (Zag pg Zfw [.int .i64 (IntKind.wrap .i64 (0 - x0))] h fun V0 H1 =>
 Zaz (some V0) fun S2 => List.length [45] + List.length S2 ≤ 9223372036854775807 ∧ (Q (.str ([45] ++ S2)) H1)) (L6 Q x0 [] h))) : Zag pg Zfw [.int .i64 x0] h Q :=
  Zag.of_body kp (c := cod fn) (fn := fn) Go.Proofs.Tryz.func83 (by kernel_rfl) (by kernel_rfl) (Nat.le_of_ble_eq_true (by kernel_rfl))
    (cast (by kernel_rfl) ht)
end Zgq
end Go.Sim

set_option maxRecDepth 100000
set_option linter.unusedVariables false
namespace Go.Sim
open Go Go.RowKit
end Go.Sim

set_option maxRecDepth 100000
set_option linter.unusedVariables false
namespace Go.Sim
open Go Go.RowKit
namespace Zit
noncomputable abbrev fn : Func := Go.Proofs.Tryz.f87
def kp : Zcf := [(3000003, [3]), (1000003, [0, 3, 4])]
noncomputable def C (p : List Nat) : Code := (cod fn).sub p
def KR (Q : QT) : KT := Zfc pg fn.results.toList Q
abbrev T3 := Pt → Nat → Nat → Bool → Pt → Nat → Nat → Bool → Int → Zaa → Prop
def E3 (R3 : T3) (env : Env) (h : Zaa) : Prop := Zca 0 env fun v env => xSl (some v) fun a0 n0 c0 e0 => Zca 3 env fun v env => xSl (some v) fun a3 n3 c3 e3 => Zca 4 env fun v env => Zep .i64 v fun x4 => Zlf env (R3 a0 n0 c0 e0 a3 n3 c3 e3 x4 h)
theorem Zey {R3 : T3} {env : Env} {h : Zaa} (hi : E3 R3 env h) : ∃ a0, ∃ n0, ∃ c0, ∃ e0, ∃ a3, ∃ n3, ∃ c3, ∃ e3, ∃ x4, env = [(0, .slice a0 n0 c0 e0), (3, .slice a3 n3 c3 e3), (4, .int .i64 x4)] ∧ R3 a0 n0 c0 e0 a3 n3 c3 e3 x4 h := by
  unfold E3 at hi
  have hi0 := hi
  clear hi
  obtain ⟨_, _, rfl, hi1⟩ := Zac hi0
  obtain ⟨a0, n0, c0, e0, rfl, hi2⟩ := Zbi hi1
  obtain ⟨_, _, rfl, hi3⟩ := Zac hi2
  obtain ⟨a3, n3, c3, e3, rfl, hi4⟩ := Zbi hi3
  obtain ⟨_, _, rfl, hi5⟩ := Zac hi4
  obtain ⟨x4, rfl, hi6⟩ := Zat hi5
  obtain ⟨rfl, hi7⟩ := Zbq hi6
  have hi := hi7
  exact ⟨a0, n0, c0, e0, a3, n3, c3, e3, x4, rfl, hi⟩
def K0 (Q : QT) : KT := andThen (fun env' h' => (match kp.find 4000006 with | some ks => Den pg fn.ntmps (C [1, 1, 1]) (env'.keep ks) h' (KR Q) | none => den pg fn.ntmps kp (C [1, 1, 1]) env' h' (KR Q))) (KR Q)
def K1 (Q : QT) : KT := Zct 0 (K0 Q)
def K2 (Q : QT) : KT := Zij kp 3 (K1 Q)
def K3 (Q : QT) (R3 : T3) : KT := rnd ((kp.find 1000003).getD []) (E3 R3) (K2 Q)
def L3 (Q : QT) (a0 : Pt) (n0 c0 : Nat) (e0 : Bool) (a3 : Pt) (n3 c3 : Nat) (e3 : Bool) (x4 : Int) (h : Zaa) : Prop := Zes (Den pg fn.ntmps (C [1, 1, 0, 1, 0, 0])) ((kp.find 1000003).getD []) (K2 Q) [(0, .slice a0 n0 c0 e0), (3, .slice a3 n3 c3 e3), (4, .int .i64 x4)] h
def Zpu (Q : QT) (a3 : Pt) (n3 c3 : Nat) (e3 : Bool) (h : Zaa) : Prop := At (K1 Q) (.exit 0) [(3, .slice a3 n3 c3 e3)] h
def L3t (Q : QT) (R3 : T3) (a0 : Pt) (n0 c0 : Nat) (e0 : Bool) (a3 : Pt) (n3 c3 : Nat) (e3 : Bool) (x4 : Int) (h : Zaa) : Prop :=
 bcase (decide ((x4 : Int) < (((n0 : Nat) : Int)))) ((0 ≤ (x4 : Int) ∧ (x4 : Int) < (n0 : Nat)) ∧ (Zbf a0 fun I1 O2 => Zce (Zaw h (.ptr (some (I1, O2 + (Int.toNat x4) * 2))) 2) fun K3 => Zad K3 fun C4 Z5 => Zaz (some C4) fun S6 => Zad Z5 fun C7 Z8 => Zaz (some C7) fun S9 => Zbl Z8 (Zag pg Zcm [.agg [.str S6, .str S9]] h fun V10 H11 =>
 Zic V10 fun K12 => Zad K12 fun C13 Z14 => Zaz (some C13) fun S15 => Zad Z14 fun C16 Z17 => Zaz (some C16) fun S18 => Zbl Z17 ((0 ≤ (x4 : Int) ∧ (x4 : Int) < (n3 : Nat)) ∧ (Zbf a3 fun I19 O20 => Zbw (Zbc H11 (.ptr (some (I19, O20 + (Int.toNat x4) * 2))) [.str S15, .str S18]) fun H21 => R3 a0 n0 c0 e0 a3 n3 c3 e3 (IntKind.wrap .i64 (x4 + 1)) H21))))) (Zpu Q a3 n3 c3 e3 h)
theorem Zmg (Q : QT) (R3 : T3) (a0 : Pt) (n0 c0 : Nat) (e0 : Bool) (a3 : Pt) (n3 c3 : Nat) (e3 : Bool) (x4 : Int) (h : Zaa) (ht : L3t Q R3 a0 n0 c0 e0 a3 n3 c3 e3 x4 h) : Den pg fn.ntmps (C [1, 1, 0, 1, 0, 0]) [(0, .slice a0 n0 c0 e0), (3, .slice a3 n3 c3 e3), (4, .int .i64 x4)] h (K3 Q R3) :=
  Zbe (kp := kp) (cast (by kernel_rfl) ht)
theorem L3ind (Q : QT) (a0 : Pt) (n0 c0 : Nat) (e0 : Bool) (a3 : Pt) (n3 c3 : Nat) (e3 : Bool) {G : Type} (J : G → Int → Zaa → Prop) (m : G → Nat)
 (hr : ∀ (g : G) (x4 : Int) (h : Zaa), J g x4 h → ∀ (R3 : T3), (∀ g' (x4 : Int) (h : Zaa), m g' < m g → J g' x4 h → R3 a0 n0 c0 e0 a3 n3 c3 e3 x4 h) → L3t Q R3 a0 n0 c0 e0 a3 n3 c3 e3 x4 h)
 (g : G) (x4 : Int) (h : Zaa) (hj : J g x4 h) : L3 Q a0 n0 c0 e0 a3 n3 c3 e3 x4 h := by
  refine Zes.inv2 (fun g => E3 fun a0' n0' c0' e0' a3' n3' c3' e3' x4 h => a0 = a0' ∧ n0 = n0' ∧ c0 = c0' ∧ e0 = e0' ∧ a3 = a3' ∧ n3 = n3' ∧ c3 = c3' ∧ e3 = e3' ∧ J g x4 h) (fun g => E3 fun a0' n0' c0' e0' a3' n3' c3' e3' x4 h => a0 = a0' ∧ n0 = n0' ∧ c0 = c0' ∧ e0 = e0' ∧ a3 = a3' ∧ n3 = n3' ∧ c3 = c3' ∧ e3 = e3' ∧ ∃ g', m g' < m g ∧ J g' x4 h) m ?_ ?_ g ⟨rfl, rfl, rfl, rfl, rfl, rfl, rfl, rfl, hj⟩
  · intro g env h hi
    obtain ⟨a0', n0', c0', e0', a3', n3', c3', e3', x4, rfl, rfl, rfl, rfl, rfl, rfl, rfl, rfl, rfl, hj⟩ := Zey hi
    exact Zmg Q _ a0 n0 c0 e0 a3 n3 c3 e3 x4 h (hr g x4 h hj (fun a0' n0' c0' e0' a3' n3' c3' e3' x4 h => a0 = a0' ∧ n0 = n0' ∧ c0 = c0' ∧ e0 = e0' ∧ a3 = a3' ∧ n3 = n3' ∧ c3 = c3' ∧ e3 = e3' ∧ ∃ g', m g' < m g ∧ J g' x4 h) fun g' x4 h hlt hj => ⟨rfl, rfl, rfl, rfl, rfl, rfl, rfl, rfl, g', hlt, hj⟩)
  · intro g env h hi
    obtain ⟨a0', n0', c0', e0', a3', n3', c3', e3', x4, rfl, rfl, rfl, rfl, rfl, rfl, rfl, rfl, rfl, g', hlt, hj⟩ := Zey hi
    exact ⟨g', hlt, rfl, rfl, rfl, rfl, rfl, rfl, rfl, rfl, hj⟩
theorem A3x0i (Q : QT) (a3 : Pt) (n3 c3 : Nat) (e3 : Bool) (h : Zaa) (ht :
 Q (.slice a3 n3 c3 e3) h) : Zpu Q a3 n3 c3 e3 h :=
  At.mk (cast (by kernel_rfl) ht)
theorem call (a0 : Pt) (n0 c0 : Nat) (e0 : Bool) (h : Zaa) (Q : QT) (ht :
 IntKind.i64 = IntKind.i64 ∧ (IntKind.i64 = IntKind.i64 ∧ ((0 ≤ ((((n0 : Nat) : Int)) : Int) ∧ ((((n0 : Nat) : Int)) : Int) ≤ (((n0 : Nat) : Int)) ∧ ((((n0 : Nat) : Int)) : Int) * (((32 : Nat) : Int) + 1) ≤ 140737488355328) ∧ (Zck (h ++ [.cells Zab (reps (Int.toNat ((((n0 : Nat) : Int)))) [.str [], .str []]) false]) fun H0 => L3 Q a0 n0 c0 e0 (some (h.length, 0)) (Int.toNat ((((n0 : Nat) : Int)))) (Int.toNat ((((n0 : Nat) : Int)))) true 0 H0)))) : Zag pg Znk [.slice a0 n0 c0 e0] h Q :=
  Zag.of_body kp (c := cod fn) (fn := fn) Go.Proofs.Tryz.func87 (by kernel_rfl) (by kernel_rfl) (Nat.le_of_ble_eq_true (by kernel_rfl))
    (cast (by kernel_rfl) ht)
end Zit
namespace Ziq
noncomputable abbrev fn : Func := Go.Proofs.Tryz.f97
def kp : Zcf := [(3000004, [4]), (1000004, [0, 1, 5]), (2000006, [26, 5, 0, 1])]
noncomputable def C (p : List Nat) : Code := (cod fn).sub p
def KR (Q : QT) : KT := Zfc pg fn.results.toList Q
abbrev T4 := Pt → Nat → Nat → Bool → Pt → Nat → Nat → Bool → Int → Zaa → Prop
def E4 (R4 : T4) (env : Env) (h : Zaa) : Prop := Zca 0 env fun v env => xSl (some v) fun a0 n0 c0 e0 => Zca 1 env fun v env => xSl (some v) fun a1 n1 c1 e1 => Zca 5 env fun v env => Zep .i64 v fun x5 => Zlf env (R4 a0 n0 c0 e0 a1 n1 c1 e1 x5 h)
theorem Zle {R4 : T4} {env : Env} {h : Zaa} (hi : E4 R4 env h) : ∃ a0, ∃ n0, ∃ c0, ∃ e0, ∃ a1, ∃ n1, ∃ c1, ∃ e1, ∃ x5, env = [(0, .slice a0 n0 c0 e0), (1, .slice a1 n1 c1 e1), (5, .int .i64 x5)] ∧ R4 a0 n0 c0 e0 a1 n1 c1 e1 x5 h := by
  unfold E4 at hi
  have hi0 := hi
  clear hi
  obtain ⟨_, _, rfl, hi1⟩ := Zac hi0
  obtain ⟨a0, n0, c0, e0, rfl, hi2⟩ := Zbi hi1
  obtain ⟨_, _, rfl, hi3⟩ := Zac hi2
  obtain ⟨a1, n1, c1, e1, rfl, hi4⟩ := Zbi hi3
  obtain ⟨_, _, rfl, hi5⟩ := Zac hi4
  obtain ⟨x5, rfl, hi6⟩ := Zat hi5
  obtain ⟨rfl, hi7⟩ := Zbq hi6
  have hi := hi7
  exact ⟨a0, n0, c0, e0, a1, n1, c1, e1, x5, rfl, hi⟩
def K0 (Q : QT) : KT := andThen (fun env' h' => (match kp.find 4000008 with | some ks => Den pg fn.ntmps (C [1, 1, 1]) (env'.keep ks) h' (KR Q) | none => den pg fn.ntmps kp (C [1, 1, 1]) env' h' (KR Q))) (KR Q)
def K1 (Q : QT) : KT := Zct 0 (K0 Q)
def K2 (Q : QT) : KT := Zij kp 4 (K1 Q)
def K3 (Q : QT) (R4 : T4) : KT := rnd ((kp.find 1000004).getD []) (E4 R4) (K2 Q)
def L4 (Q : QT) (a0 : Pt) (n0 c0 : Nat) (e0 : Bool) (a1 : Pt) (n1 c1 : Nat) (e1 : Bool) (x5 : Int) (h : Zaa) : Prop := Zes (Den pg fn.ntmps (C [1, 1, 0, 1, 0, 0])) ((kp.find 1000004).getD []) (K2 Q) [(0, .slice a0 n0 c0 e0), (1, .slice a1 n1 c1 e1), (5, .int .i64 x5)] h
def Ybe (Q : QT) (h : Zaa) : Prop := At (K1 Q) (.exit 0) [(4, .undef)] h
def L4t (Q : QT) (R4 : T4) (a0 : Pt) (n0 c0 : Nat) (e0 : Bool) (a1 : Pt) (n1 c1 : Nat) (e1 : Bool) (x5 : Int) (h : Zaa) : Prop :=
 bcase (decide ((x5 : Int) < (((n0 : Nat) : Int)))) ((0 ≤ (x5 : Int) ∧ (x5 : Int) < (n0 : Nat)) ∧ (Zbf a0 fun I0 O1 => (0 ≤ (x5 : Int) ∧ (x5 : Int) < (n1 : Nat)) ∧ (Zbf a1 fun I2 O3 => Zce (Zaw h (.ptr (some (I0, O1 + (Int.toNat x5) * 2))) 2) fun K4 => Zad K4 fun C5 Z6 => Zaz (some C5) fun S7 => Zad Z6 fun C8 Z9 => Zaz (some C8) fun S10 => Zbl Z9 (Zce (Zaw h (.ptr (some (I2, O3 + (Int.toNat x5) * 2))) 2) fun K11 => Zad K11 fun C12 Z13 => Zaz (some C12) fun S14 => Zad Z13 fun C15 Z16 => Zaz (some C15) fun S17 => Zbl Z16 ((Zaw h (.ptr (some (I0, O1 + (Int.toNat x5) * 2))) 2 = Zaw h (.ptr (some (I0, O1 + (Int.toNat x5) * 2))) 2) ∧ Zag pg Zdb [.agg [.str S7, .str S10], .agg [.str S14, .str S17]] h fun V18 H19 =>
 Zbr (some V18) fun B20 => bcase (!B20) (Q (.bool false) H19) (R4 a0 n0 c0 e0 a1 n1 c1 e1 (IntKind.wrap .i64 (x5 + 1)) H19)))))) (Ybe Q h)
theorem Zwp (Q : QT) (R4 : T4) (a0 : Pt) (n0 c0 : Nat) (e0 : Bool) (a1 : Pt) (n1 c1 : Nat) (e1 : Bool) (x5 : Int) (h : Zaa) (ht : L4t Q R4 a0 n0 c0 e0 a1 n1 c1 e1 x5 h) : Den pg fn.ntmps (C [1, 1, 0, 1, 0, 0]) [(0, .slice a0 n0 c0 e0), (1, .slice a1 n1 c1 e1), (5, .int .i64 x5)] h (K3 Q R4) :=
  Zbe (kp := kp) (cast (by kernel_rfl) ht)
theorem L4ind (Q : QT) (a0 : Pt) (n0 c0 : Nat) (e0 : Bool) (a1 : Pt) (n1 c1 : Nat) (e1 : Bool) {G : Type} (J : G → Int → Zaa → Prop) (m : G → Nat)
 (hr : ∀ (g : G) (x5 : Int) (h : Zaa), J g x5 h → ∀ (R4 : T4), (∀ g' (x5 : Int) (h : Zaa), m g' < m g → J g' x5 h → R4 a0 n0 c0 e0 a1 n1 c1 e1 x5 h) → L4t Q R4 a0 n0 c0 e0 a1 n1 c1 e1 x5 h)
 (g : G) (x5 : Int) (h : Zaa) (hj : J g x5 h) : L4 Q a0 n0 c0 e0 a1 n1 c1 e1 x5 h := by
  refine Zes.inv2 (fun g => E4 fun a0' n0' c0' e0' a1' n1' c1' e1' x5 h => a0 = a0' ∧ n0 = n0' ∧ c0 = c0' ∧ e0 = e0' ∧ a1 = a1' ∧ n1 = n1' ∧ c1 = c1' ∧ e1 = e1' ∧ J g x5 h) (fun g => E4 fun a0' n0' c0' e0' a1' n1' c1' e1' x5 h => a0 = a0' ∧ n0 = n0' ∧ c0 = c0' ∧ e0 = e0' ∧ a1 = a1' ∧ n1 = n1' ∧ c1 = c1' ∧ e1 = e1' ∧ ∃ g', m g' < m g ∧ J g' x5 h) m ?_ ?_ g ⟨rfl, rfl, rfl, rfl, rfl, rfl, rfl, rfl, hj⟩
  · intro g env h hi
    obtain ⟨a0', n0', c0', e0', a1', n1', c1', e1', x5, rfl, rfl, rfl, rfl, rfl, rfl, rfl, rfl, rfl, hj⟩ := Zle hi
    exact Zwp Q _ a0 n0 c0 e0 a1 n1 c1 e1 x5 h (hr g x5 h hj (fun a0' n0' c0' e0' a1' n1' c1' e1' x5 h => a0 = a0' ∧ n0 = n0' ∧ c0 = c0' ∧ e0 = e0' ∧ a1 = a1' ∧ n1 = n1' ∧ c1 = c1' ∧ e1 = e1' ∧ ∃ g', m g' < m g ∧ J g' x5 h) fun g' x5 h hlt hj => ⟨rfl, rfl, rfl, rfl, rfl, rfl, rfl, rfl, g', hlt, hj⟩)
  · intro g env h hi
    obtain ⟨a0', n0', c0', e0', a1', n1', c1', e1', x5, rfl, rfl, rfl, rfl, rfl, rfl, rfl, rfl, rfl, g', hlt, hj⟩ := Zle hi
    exact ⟨g', hlt, rfl, rfl, rfl, rfl, rfl, rfl, rfl, rfl, hj⟩
theorem A4x0i (Q : QT) (h : Zaa) (ht :
 Q (.bool true) h) : Ybe Q h :=
  At.mk (cast (by kernel_rfl) ht)
theorem call (a0 : Pt) (n0 c0 : Nat) (e0 : Bool) (a1 : Pt) (n1 c1 : Nat) (e1 : Bool) (h : Zaa) (Q : QT) (ht :
 bcase (!((((n0 : Nat) : Int) : Int) == (((n1 : Nat) : Int)))) (Q (.bool false) h) (L4 Q a0 n0 c0 e0 a1 n1 c1 e1 0 h)) : Zag pg Znm [.slice a0 n0 c0 e0, .slice a1 n1 c1 e1] h Q :=
  Zag.of_body kp (c := cod fn) (fn := fn) Go.Proofs.Tryz.func97 (by kernel_rfl) (by kernel_rfl) (Nat.le_of_ble_eq_true (by kernel_rfl))
    (cast (by kernel_rfl) ht)
end Ziq
end Go.Sim

set_option maxRecDepth 100000
set_option linter.unusedVariables false
namespace Go.Sim
open Go Go.RowKit
namespace Zte
noncomputable abbrev fn : Func := Go.Proofs.Tryz.f9
def kp : Zcf := []
noncomputable def C (p : List Nat) : Code := (cod fn).sub p
def KR (Q : QT) : KT := Zfc pg fn.results.toList Q
theorem call (x0x0 x0x1 : List Nat) (x1 : Int) (h : Zaa) (Q : QT) (ht :
 Zck (h ++ [.cells Zja [.str x0x0, .str x0x1] false]) fun H0 => Zaz (Zae H0 (.ptr (some (h.length, 0 + 0)))) fun S1 => bcase (decide (((IntKind.wrap .i64 (x1 - (((List.length S1 : Nat) : Int)))) : Int) < 0)) (Q (.int .i64 (-1)) H0) (Zaz (Zae H0 (.ptr (some (h.length, 0 + 1)))) fun S2 => bcase (decide (((IntKind.wrap .i64 ((IntKind.wrap .i64 (x1 - (((List.length S1 : Nat) : Int)))) - (((List.length S2 : Nat) : Int)))) : Int) < 0)) (Q (.int .i64 (-1)) H0) (Q (.int .i64 (IntKind.wrap .i64 ((IntKind.wrap .i64 (x1 - (((List.length S1 : Nat) : Int)))) - (((List.length S2 : Nat) : Int))))) H0))) : Zag pg Zib [.agg [.str x0x0, .str x0x1], .int .i64 x1] h Q :=
  Zag.of_body kp (c := cod fn) (fn := fn) Go.Proofs.Tryz.func9 (by kernel_rfl) (by kernel_rfl) (Nat.le_of_ble_eq_true (by kernel_rfl))
    (cast (by kernel_rfl) ht)
end Zte
namespace Zsk
noncomputable abbrev fn : Func := Go.Proofs.Tryz.f17
def kp : Zcf := []
noncomputable def C (p : List Nat) : Code := (cod fn).sub p
def KR (Q : QT) : KT := Zfc pg fn.results.toList Q
theorem call (x0x0 x0x1 x1x0 x1x1 : List Nat) (h : Zaa) (Q : QT) (ht :
 Zck (h ++ [.cells Zab [.str x0x0, .str x0x1] false]) fun H0 => Zck (H0 ++ [.cells Zab [.str x1x0, .str x1x1] false]) fun H1 => Zaz (Zae H1 (.ptr (some (h.length, 0 + 0)))) fun S2 => Zaz (Zae H1 (.ptr (some (H0.length, 0 + 0)))) fun S3 => bcase (!(decide (S2 = S3))) (Q (.bool false) H1) (Zaz (Zae H1 (.ptr (some (h.length, 0 + 1)))) fun S4 => Zaz (Zae H1 (.ptr (some (H0.length, 0 + 1)))) fun S5 => bcase (!(decide (S4 = S5))) (Q (.bool false) H1) (Q (.bool true) H1))) : Zag pg Zdb [.agg [.str x0x0, .str x0x1], .agg [.str x1x0, .str x1x1]] h Q :=
  Zag.of_body kp (c := cod fn) (fn := fn) Go.Proofs.Tryz.func17 (by kernel_rfl) (by kernel_rfl) (Nat.le_of_ble_eq_true (by kernel_rfl))
    (cast (by kernel_rfl) ht)
end Zsk
namespace Zst
noncomputable abbrev fn : Func := Go.Proofs.Tryz.f12
def kp : Zcf := []
noncomputable def C (p : List Nat) : Code := (cod fn).sub p
def KR (Q : QT) : KT := Zfc pg fn.results.toList Q
theorem call (x0x0 x0x1 : List Nat) (h : Zaa) (Q : QT) (ht :
 Zck (h ++ [.cells Zja [.str x0x0, .str x0x1] false]) fun H0 => Zck (H0 ++ [.cells Zab [.str [], .str []] false]) fun H1 => Zck (H1 ++ [.cells Zab [.str [], .str []] false]) fun H2 => Zaz (Zae H2 (.ptr (some (h.length, 0 + 0)))) fun S3 => Zbw (Zbc H2 (.ptr (some (H1.length, 0 + 0))) [.str S3]) fun H4 => Zaz (Zae H4 (.ptr (some (h.length, 0 + 1)))) fun S5 => Zbw (Zbc H4 (.ptr (some (H1.length, 0 + 1))) [.str S5]) fun H6 => Zce (Zaw H6 (.ptr (some (H1.length, 0))) 2) fun K7 => Zad K7 fun C8 Z9 => Zaz (some C8) fun S10 => Zad Z9 fun C11 Z12 => Zaz (some C11) fun S13 => Zbl Z12 (Zbw (Zbc H6 (.ptr (some (H0.length, 0))) [.str S10, .str S13]) fun H14 => Zce (Zaw H14 (.ptr (some (H0.length, 0))) 2) fun K15 => Zad K15 fun C16 Z17 => Zaz (some C16) fun S18 => Zad Z17 fun C19 Z20 => Zaz (some C19) fun S21 => Zbl Z20 (Q (.agg [.str S18, .str S21]) H14))) : Zag pg Zcm [.agg [.str x0x0, .str x0x1]] h Q :=
  Zag.of_body kp (c := cod fn) (fn := fn) Go.Proofs.Tryz.func12 (by kernel_rfl) (by kernel_rfl) (Nat.le_of_ble_eq_true (by kernel_rfl))
    (cast (by kernel_rfl) ht)
end Zst
namespace Zik
noncomputable abbrev fn : Func := Go.Proofs.Tryz.f80
def kp : Zcf := [(3000005, [1, 4]), (1000005, [0, 1, 5])]
noncomputable def C (p : List Nat) : Code := (cod fn).sub p
def KR (Q : QT) : KT := Zfc pg fn.results.toList Q
abbrev T5 := Pt → Nat → Nat → Bool → Int → Int → Zaa → Prop
def E5 (R5 : T5) (env : Env) (h : Zaa) : Prop := Zca 0 env fun v env => xSl (some v) fun a0 n0 c0 e0 => Zca 1 env fun v env => Zep .i64 v fun x1 => Zca 5 env fun v env => Zep .i64 v fun x5 => Zlf env (R5 a0 n0 c0 e0 x1 x5 h)
theorem Zjf {R5 : T5} {env : Env} {h : Zaa} (hi : E5 R5 env h) : ∃ a0, ∃ n0, ∃ c0, ∃ e0, ∃ x1, ∃ x5, env = [(0, .slice a0 n0 c0 e0), (1, .int .i64 x1), (5, .int .i64 x5)] ∧ R5 a0 n0 c0 e0 x1 x5 h := by
  unfold E5 at hi
  have hi0 := hi
  clear hi
  obtain ⟨_, _, rfl, hi1⟩ := Zac hi0
  obtain ⟨a0, n0, c0, e0, rfl, hi2⟩ := Zbi hi1
  obtain ⟨_, _, rfl, hi3⟩ := Zac hi2
  obtain ⟨x1, rfl, hi4⟩ := Zat hi3
  obtain ⟨_, _, rfl, hi5⟩ := Zac hi4
  obtain ⟨x5, rfl, hi6⟩ := Zat hi5
  obtain ⟨rfl, hi7⟩ := Zbq hi6
  have hi := hi7
  exact ⟨a0, n0, c0, e0, x1, x5, rfl, hi⟩
def K0 (Q : QT) : KT := andThen (fun env' h' => (match kp.find 4000010 with | some ks => Den pg fn.ntmps (C [1, 1, 1, 1]) (env'.keep ks) h' (KR Q) | none => den pg fn.ntmps kp (C [1, 1, 1, 1]) env' h' (KR Q))) (KR Q)
def K1 (Q : QT) : KT := Zct 0 (K0 Q)
def K2 (Q : QT) : KT := Zij kp 5 (K1 Q)
def K3 (Q : QT) (R5 : T5) : KT := rnd ((kp.find 1000005).getD []) (E5 R5) (K2 Q)
def L5 (Q : QT) (a0 : Pt) (n0 c0 : Nat) (e0 : Bool) (x1 x5 : Int) (h : Zaa) : Prop := Zes (Den pg fn.ntmps (C [1, 1, 1, 0, 1, 0, 0])) ((kp.find 1000005).getD []) (K2 Q) [(0, .slice a0 n0 c0 e0), (1, .int .i64 x1), (5, .int .i64 x5)] h
def A5x0 (Q : QT) (x1 : Int) (h : Zaa) : Prop := At (K1 Q) (.exit 0) [(1, .int .i64 x1), (4, .undef)] h
def L5t (Q : QT) (R5 : T5) (a0 : Pt) (n0 c0 : Nat) (e0 : Bool) (x1 x5 : Int) (h : Zaa) : Prop :=
 bcase (decide ((x5 : Int) < (((n0 : Nat) : Int)))) ((0 ≤ (x5 : Int) ∧ (x5 : Int) < (n0 : Nat)) ∧ (Zbf a0 fun I0 O1 => Zce (Zaw h (.ptr (some (I0, O1 + (Int.toNat x5) * 2))) 2) fun K2 => Zad K2 fun C3 Z4 => Zaz (some C3) fun S5 => Zad Z4 fun C6 Z7 => Zaz (some C6) fun S8 => Zbl Z7 (Zag pg Zib [.agg [.str S5, .str S8], .int .i64 x1] h fun V9 H10 =>
 Zem .i64 (some V9) fun X11 => bcase (decide ((X11 : Int) < 0)) (Q (.int .i64 (-1)) H10) (R5 a0 n0 c0 e0 X11 (IntKind.wrap .i64 (x5 + 1)) H10)))) (A5x0 Q x1 h)
theorem Zuc (Q : QT) (R5 : T5) (a0 : Pt) (n0 c0 : Nat) (e0 : Bool) (x1 x5 : Int) (h : Zaa) (ht : L5t Q R5 a0 n0 c0 e0 x1 x5 h) : Den pg fn.ntmps (C [1, 1, 1, 0, 1, 0, 0]) [(0, .slice a0 n0 c0 e0), (1, .int .i64 x1), (5, .int .i64 x5)] h (K3 Q R5) :=
  Zbe (kp := kp) (cast (by kernel_rfl) ht)
theorem L5ind (Q : QT) (a0 : Pt) (n0 c0 : Nat) (e0 : Bool) {G : Type} (J : G → Int → Int → Zaa → Prop) (m : G → Nat)
 (hr : ∀ (g : G) (x1 x5 : Int) (h : Zaa), J g x1 x5 h → ∀ (R5 : T5), (∀ g' (x1 x5 : Int) (h : Zaa), m g' < m g → J g' x1 x5 h → R5 a0 n0 c0 e0 x1 x5 h) → L5t Q R5 a0 n0 c0 e0 x1 x5 h)
 (g : G) (x1 x5 : Int) (h : Zaa) (hj : J g x1 x5 h) : L5 Q a0 n0 c0 e0 x1 x5 h := by
  refine Zes.inv2 (fun g => E5 fun a0' n0' c0' e0' x1 x5 h => a0 = a0' ∧ n0 = n0' ∧ c0 = c0' ∧ e0 = e0' ∧ J g x1 x5 h) (fun g => E5 fun a0' n0' c0' e0' x1 x5 h => a0 = a0' ∧ n0 = n0' ∧ c0 = c0' ∧ e0 = e0' ∧ ∃ g', m g' < m g ∧ J g' x1 x5 h) m ?_ ?_ g ⟨rfl, rfl, rfl, rfl, hj⟩
  · intro g env h hi
    obtain ⟨a0', n0', c0', e0', x1, x5, rfl, rfl, rfl, rfl, rfl, hj⟩ := Zjf hi
    exact Zuc Q _ a0 n0 c0 e0 x1 x5 h (hr g x1 x5 h hj (fun a0' n0' c0' e0' x1 x5 h => a0 = a0' ∧ n0 = n0' ∧ c0 = c0' ∧ e0 = e0' ∧ ∃ g', m g' < m g ∧ J g' x1 x5 h) fun g' x1 x5 h hlt hj => ⟨rfl, rfl, rfl, rfl, g', hlt, hj⟩)
  · intro g env h hi
    obtain ⟨a0', n0', c0', e0', x1, x5, rfl, rfl, rfl, rfl, rfl, g', hlt, hj⟩ := Zjf hi
    exact ⟨g', hlt, rfl, rfl, rfl, rfl, hj⟩
theorem A5x0i (Q : QT) (x1 : Int) (h : Zaa) (ht :
 Q (.int .i64 x1) h) : A5x0 Q x1 h :=
  At.mk (cast (by kernel_rfl) ht)
theorem call (a0 : Pt) (n0 c0 : Nat) (e0 : Bool) (x1 : Int) (h : Zaa) (Q : QT) (ht :
 bcase (decide (((IntKind.wrap .i64 (x1 - (((n0 : Nat) : Int)))) : Int) < 0)) (Q (.int .i64 (-1)) h) (L5 Q a0 n0 c0 e0 (IntKind.wrap .i64 (x1 - (((n0 : Nat) : Int)))) 0 h)) : Zag pg Znj [.slice a0 n0 c0 e0, .int .i64 x1] h Q :=
  Zag.of_body kp (c := cod fn) (fn := fn) Go.Proofs.Tryz.func80 (by kernel_rfl) (by kernel_rfl) (Nat.le_of_ble_eq_true (by kernel_rfl))
    (cast (by kernel_rfl) ht)
end Zik
end Go.Sim

set_option maxRecDepth 100000
set_option linter.unusedVariables false
namespace Go.Sim
open Go Go.RowKit
namespace Zjd
noncomputable abbrev fn : Func := Go.Proofs.Tryz.f111
def kp : Zcf := [(3000003, [3]), (1000003, [0, 3, 7, 8, 9]), (4000007, [9, 8, 7, 0, 3])]
noncomputable def C (p : List Nat) : Code := (cod fn).sub p
def KR (Q : QT) : KT := Zfc pg fn.results.toList Q
abbrev T3 := List Nat → Pt → Nat → Nat → Bool → Pt → Nat → Nat → Bool → Int → Int → Zaa → Prop
def E3 (R3 : T3) (env : Env) (h : Zaa) : Prop := Zca 0 env fun v env => Zaz (some v) fun x0 => Zca 3 env fun v env => xSl (some v) fun a3 n3 c3 e3 => Zca 7 env fun v env => xSl (some v) fun a7 n7 c7 e7 => Zca 8 env fun v env => Zep .i64 v fun x8 => Zca 9 env fun v env => Zep .i64 v fun x9 => Zlf env (R3 x0 a3 n3 c3 e3 a7 n7 c7 e7 x8 x9 h)
theorem Zey {R3 : T3} {env : Env} {h : Zaa} (hi : E3 R3 env h) : ∃ x0, ∃ a3, ∃ n3, ∃ c3, ∃ e3, ∃ a7, ∃ n7, ∃ c7, ∃ e7, ∃ x8, ∃ x9, env = [(0, .str x0), (3, .slice a3 n3 c3 e3), (7, .slice a7 n7 c7 e7), (8, .int .i64 x8), (9, .int .i64 x9)] ∧ R3 x0 a3 n3 c3 e3 a7 n7 c7 e7 x8 x9 h := by
  unfold E3 at hi
  have hi0 := hi
  clear hi
  obtain ⟨_, _, rfl, hi1⟩ := Zac hi0
  obtain ⟨x0, rfl, hi2⟩ := Zee hi1
  obtain ⟨_, _, rfl, hi3⟩ := Zac hi2
  obtain ⟨a3, n3, c3, e3, rfl, hi4⟩ := Zbi hi3
  obtain ⟨_, _, rfl, hi5⟩ := Zac hi4
  obtain ⟨a7, n7, c7, e7, rfl, hi6⟩ := Zbi hi5
  obtain ⟨_, _, rfl, hi7⟩ := Zac hi6
  obtain ⟨x8, rfl, hi8⟩ := Zat hi7
  obtain ⟨_, _, rfl, hi9⟩ := Zac hi8
  obtain ⟨x9, rfl, hi10⟩ := Zat hi9
  obtain ⟨rfl, hi11⟩ := Zbq hi10
  have hi := hi11
  exact ⟨x0, a3, n3, c3, e3, a7, n7, c7, e7, x8, x9, rfl, hi⟩
def K0 (Q : QT) : KT := andThen (fun env' h' => (match kp.find 4000008 with | some ks => Den pg fn.ntmps (C [1, 1, 1]) (env'.keep ks) h' (KR Q) | none => den pg fn.ntmps kp (C [1, 1, 1]) env' h' (KR Q))) (KR Q)
def K1 (Q : QT) : KT := Zct 0 (K0 Q)
def K2 (Q : QT) : KT := Zij kp 3 (K1 Q)
def K3 (Q : QT) (R3 : T3) : KT := rnd ((kp.find 1000003).getD []) (E3 R3) (K2 Q)
def L3 (Q : QT) (x0 : List Nat) (a3 : Pt) (n3 c3 : Nat) (e3 : Bool) (a7 : Pt) (n7 c7 : Nat) (e7 : Bool) (x8 x9 : Int) (h : Zaa) : Prop := Zes (Den pg fn.ntmps (C [1, 1, 0, 1, 0, 0])) ((kp.find 1000003).getD []) (K2 Q) [(0, .str x0), (3, .slice a3 n3 c3 e3), (7, .slice a7 n7 c7 e7), (8, .int .i64 x8), (9, .int .i64 x9)] h
def J7 (Q : QT) (R3 : T3) (x9 x8 : Int) (a7 : Pt) (n7 c7 : Nat) (e7 : Bool) (x0 : List Nat) (a3 : Pt) (n3 c3 : Nat) (e3 : Bool) (h : Zaa) : Prop := Den pg fn.ntmps (C [1, 1, 0, 1, 0, 0, 1, 1, 1]) [(9, .int .i64 x9), (8, .int .i64 x8), (7, .slice a7 n7 c7 e7), (0, .str x0), (3, .slice a3 n3 c3 e3)] h (K3 Q R3)
def Zpu (Q : QT) (a3 : Pt) (n3 c3 : Nat) (e3 : Bool) (h : Zaa) : Prop := At (K1 Q) (.exit 0) [(3, .slice a3 n3 c3 e3)] h
def L3t (Q : QT) (R3 : T3) (x0 : List Nat) (a3 : Pt) (n3 c3 : Nat) (e3 : Bool) (a7 : Pt) (n7 c7 : Nat) (e7 : Bool) (x8 x9 : Int) (h : Zaa) : Prop :=
 bcase (decide ((x9 : Int) < x8)) ((0 ≤ (x9 : Int) ∧ (x9 : Int) < (n7 : Nat)) ∧ (Zbf a7 fun I2 O3 => Zaz (Zae h (.ptr (some (I2, O3 + (Int.toNat x9) * 1)))) fun S4 => Zag pg Zfz [.str x0, .str S4] h fun V5 H6 =>
 Zbr (some V5) fun B7 => bcase B7 (Zck (H6 ++ [.cells Zdm [.str S4] false]) fun H8 => Zcs pg Zts H8 (.slice a3 n3 c3 e3) (.slice (some (H6.length, 0)) 1 1 true) fun V9 H10 => xSl (some V9) fun A11 N12 C13 E14 => J7 Q R3 x9 x8 a7 n7 c7 e7 x0 A11 N12 C13 E14 H10) (J7 Q R3 x9 x8 a7 n7 c7 e7 x0 a3 n3 c3 e3 H6))) (Zpu Q a3 n3 c3 e3 h)
theorem Zmg (Q : QT) (R3 : T3) (x0 : List Nat) (a3 : Pt) (n3 c3 : Nat) (e3 : Bool) (a7 : Pt) (n7 c7 : Nat) (e7 : Bool) (x8 x9 : Int) (h : Zaa) (ht : L3t Q R3 x0 a3 n3 c3 e3 a7 n7 c7 e7 x8 x9 h) : Den pg fn.ntmps (C [1, 1, 0, 1, 0, 0]) [(0, .str x0), (3, .slice a3 n3 c3 e3), (7, .slice a7 n7 c7 e7), (8, .int .i64 x8), (9, .int .i64 x9)] h (K3 Q R3) :=
  Zbe (kp := kp) (cast (by kernel_rfl) ht)
theorem L3ind (Q : QT) (x0 : List Nat) (a7 : Pt) (n7 c7 : Nat) (e7 : Bool) (x8 : Int) {G : Type} (J : G → Pt → Nat → Nat → Bool → Int → Zaa → Prop) (m : G → Nat)
 (hr : ∀ (g : G) (a3 : Pt) (n3 c3 : Nat) (e3 : Bool) (x9 : Int) (h : Zaa), J g a3 n3 c3 e3 x9 h → ∀ (R3 : T3), (∀ g' (a3 : Pt) (n3 c3 : Nat) (e3 : Bool) (x9 : Int) (h : Zaa), m g' < m g → J g' a3 n3 c3 e3 x9 h → R3 x0 a3 n3 c3 e3 a7 n7 c7 e7 x8 x9 h) → L3t Q R3 x0 a3 n3 c3 e3 a7 n7 c7 e7 x8 x9 h)
 (g : G) (a3 : Pt) (n3 c3 : Nat) (e3 : Bool) (x9 : Int) (h : Zaa) (hj : J g a3 n3 c3 e3 x9 h) : L3 Q x0 a3 n3 c3 e3 a7 n7 c7 e7 x8 x9 h := by
  refine Zes.inv2 (fun g => E3 fun x0' a3 n3 c3 e3 a7' n7' c7' e7' x8' x9 h => x0 = x0' ∧ a7 = a7' ∧ n7 = n7' ∧ c7 = c7' ∧ e7 = e7' ∧ x8 = x8' ∧ J g a3 n3 c3 e3 x9 h) (fun g => E3 fun x0' a3 n3 c3 e3 a7' n7' c7' e7' x8' x9 h => x0 = x0' ∧ a7 = a7' ∧ n7 = n7' ∧ c7 = c7' ∧ e7 = e7' ∧ x8 = x8' ∧ ∃ g', m g' < m g ∧ J g' a3 n3 c3 e3 x9 h) m ?_ ?_ g ⟨rfl, rfl, rfl, rfl, rfl, rfl, hj⟩
  · intro g env h hi
    obtain ⟨x0', a3, n3, c3, e3, a7', n7', c7', e7', x8', x9, rfl, rfl, rfl, rfl, rfl, rfl, rfl, hj⟩ := Zey hi
    exact Zmg Q _ x0 a3 n3 c3 e3 a7 n7 c7 e7 x8 x9 h (hr g a3 n3 c3 e3 x9 h hj (fun x0' a3 n3 c3 e3 a7' n7' c7' e7' x8' x9 h => x0 = x0' ∧ a7 = a7' ∧ n7 = n7' ∧ c7 = c7' ∧ e7 = e7' ∧ x8 = x8' ∧ ∃ g', m g' < m g ∧ J g' a3 n3 c3 e3 x9 h) fun g' a3 n3 c3 e3 x9 h hlt hj => ⟨rfl, rfl, rfl, rfl, rfl, rfl, g', hlt, hj⟩)
  · intro g env h hi
    obtain ⟨x0', a3, n3, c3, e3, a7', n7', c7', e7', x8', x9, rfl, rfl, rfl, rfl, rfl, rfl, rfl, g', hlt, hj⟩ := Zey hi
    exact ⟨g', hlt, rfl, rfl, rfl, rfl, rfl, rfl, hj⟩
theorem J7i (Q : QT) (R3 : T3) (x9 x8 : Int) (a7 : Pt) (n7 c7 : Nat) (e7 : Bool) (x0 : List Nat) (a3 : Pt) (n3 c3 : Nat) (e3 : Bool) (h : Zaa) (ht :
 R3 x0 a3 n3 c3 e3 a7 n7 c7 e7 x8 (IntKind.wrap .i64 (x9 + 1)) h) : J7 Q R3 x9 x8 a7 n7 c7 e7 x0 a3 n3 c3 e3 h :=
  Zbe (kp := kp) (cast (by kernel_rfl) ht)
theorem A3x0i (Q : QT) (a3 : Pt) (n3 c3 : Nat) (e3 : Bool) (h : Zaa) (ht :
 Q (.slice a3 n3 c3 e3) h) : Zpu Q a3 n3 c3 e3 h :=
  At.mk (cast (by kernel_rfl) ht)
theorem call (x0 : List Nat) (h : Zaa) (Q : QT) (ht :
 Zck (h ++ [.cells Zdm [] false]) fun H0 => Zck (H0 ++ [.cells Zdm [.str [88], .str [89], .str [90], .str [120], .str [121], .str [122]] false]) fun H1 => L3 Q x0 (some (h.length, 0)) 0 0 true (some (H0.length, 0)) 6 6 true (((6 : Nat) : Int)) 0 H1) : Zag pg Zrx [.str x0] h Q :=
  Zag.of_body kp (c := cod fn) (fn := fn) Go.Proofs.Tryz.func111 (by kernel_rfl) (by kernel_rfl) (Nat.le_of_ble_eq_true (by kernel_rfl))
    (cast (by kernel_rfl) ht)
end Zjd
end Go.Sim

set_option maxRecDepth 100000
set_option linter.unusedVariables false
namespace Go.Sim
open Go Go.RowKit
end Go.Sim

set_option maxRecDepth 100000
set_option linter.unusedVariables false
namespace Go.Sim
open Go Go.RowKit
namespace Zrg
noncomputable abbrev fn : Func := Go.Proofs.Tryz.f38
def kp : Zcf := []
noncomputable def C (p : List Nat) : Code := (cod fn).sub p
def KR (Q : QT) : KT := Zfc pg fn.results.toList Q
theorem call (a0x0 : Pt) (n0x0 c0x0 : Nat) (e0x0 : Bool) (a0x1 : Pt) (n0x1 c0x1 : Nat) (e0x1 : Bool) (x1x0 x1x1 : List Nat) (x2 : Bool) (h : Zaa) (Q : QT) (ht :
 Zck (h ++ [.cells Zal [.slice a0x0 n0x0 c0x0 e0x0, .slice a0x1 n0x1 c0x1 e0x1] false]) fun H0 => Zck (H0 ++ [.cells Zab [.str x1x0, .str x1x1] false]) fun H1 => Zce (Zaw H1 (.ptr (some (h.length, 0))) 2) fun K2 => Zad K2 fun C3 Z4 => xSl (some C3) fun A5 N6 C7 E8 => Zad Z4 fun C9 Z10 => xSl (some C9) fun A11 N12 C13 E14 => Zbl Z10 (Zck (H1 ++ [.cells Zab [] false]) fun H15 => Zck (H15 ++ [.cells Zab [] false]) fun H16 => Zck (H16 ++ [.cells Zcp [.slice A5 N6 C7 E8, .slice A11 N12 C13 E14, .bool x2, .slice (some (H1.length, 0)) 0 0 true, .slice (some (H15.length, 0)) 0 0 true, .str []] false]) fun H17 => Zce (Zaw H17 (.ptr (some (h.length, 0))) 2) fun K18 => Zad K18 fun C19 Z20 => xSl (some C19) fun A21 N22 C23 E24 => Zad Z20 fun C25 Z26 => xSl (some C25) fun A27 N28 C29 E30 => Zbl Z26 (Zce (Zaw H17 (.ptr (some (H0.length, 0))) 2) fun K31 => Zad K31 fun C32 Z33 => Zaz (some C32) fun S34 => Zad Z33 fun C35 Z36 => Zaz (some C35) fun S37 => Zbl Z36 (Zag pg Ziw [.agg [.slice A21 N22 C23 E24, .slice A27 N28 C29 E30], .agg [.str S34, .str S37]] H17 fun V38 H39 =>
 Zbr (some V38) fun B40 => bcase (!B40) (Zbw (Zbc H39 (.ptr (some (H16.length, 0 + 5))) [.str ([119, 114, 111, 110, 103])]) fun H41 => Q (.tup [.ptr (some (H16.length, 0)), .str [], .bool false]) H41) (Zce (Zaw H39 (.ptr (some (H0.length, 0))) 2) fun K42 => Zad K42 fun C43 Z44 => Zaz (some C43) fun S45 => Zad Z44 fun C46 Z47 => Zaz (some C46) fun S48 => Zbl Z47 (Zag pg Zfd [.ptr (some (H16.length, 0)), .agg [.str S45, .str S48], .int .i64 0] H39 fun V49 H50 =>
 Zaz (some V49) fun S51 => Q (.tup [.ptr (some (H16.length, 0)), .str S51, .bool true]) H50)))))) : Zag pg Znp [.agg [.slice a0x0 n0x0 c0x0 e0x0, .slice a0x1 n0x1 c0x1 e0x1], .agg [.str x1x0, .str x1x1], .bool x2] h Q :=
  Zag.of_body kp (c := cod fn) (fn := fn) Go.Proofs.Tryz.func38 (by kernel_rfl) (by kernel_rfl) (Nat.le_of_ble_eq_true (by kernel_rfl))
    (cast (by kernel_rfl) ht)
end Zrg
namespace Zka
noncomputable abbrev fn : Func := Go.Proofs.Tryz.f15
def kp : Zcf := [(4000004, [6, 4]), (2000004, [4, 5])]
noncomputable def C (p : List Nat) : Code := (cod fn).sub p
def KR (Q : QT) : KT := Zfc pg fn.results.toList Q
def J4 (Q : QT) (a6 : Pt) (i4 o4 : Nat) (h : Zaa) : Prop := Den pg fn.ntmps (C [1, 1, 1]) [(6, .ptr a6), (4, .ptr (some (i4, o4)))] h (KR Q)
theorem J4i (Q : QT) (a6 : Pt) (i4 o4 : Nat) (h : Zaa) (ht :
 Zbf a6 fun I54 O55 => Zbf a6 fun I56 O57 => xSl (Zae h (.ptr (some (I54, O55 + 4)))) fun A58 N59 C60 E61 => xSl (Zae h (.ptr (some (I56, O57 + 4)))) fun A62 N63 C64 E65 => (Zae h (.ptr (some (I54, O55 + 4))) = Zae h (.ptr (some (I54, O55 + 4)))) ∧ (0 ≤ (IntKind.wrap .i64 ((((N63 : Nat) : Int)) - 1) : Int) ∧ (IntKind.wrap .i64 ((((N63 : Nat) : Int)) - 1) : Int) < (N59 : Nat)) ∧ (Zbf A58 fun I66 O67 => Zce (Zaw h (.ptr (some (I66, O67 + (Int.toNat (IntKind.wrap .i64 ((((N63 : Nat) : Int)) - 1))) * 2))) 2) fun K68 => Zad K68 fun C69 Z70 => Zaz (some C69) fun S71 => Zad Z70 fun C72 Z73 => Zaz (some C72) fun S74 => Zbl Z73 ((Zae h (.ptr (some (I54, O55 + 4))) = Zae h (.ptr (some (I54, O55 + 4)))) ∧ Zbw (Zbc h (.ptr (some (i4, o4))) [.str S71, .str S74]) fun H75 => Zce (Zaw H75 (.ptr (some (i4, o4))) 2) fun K76 => Zad K76 fun C77 Z78 => Zaz (some C77) fun S79 => Zad Z78 fun C80 Z81 => Zaz (some C80) fun S82 => Zbl Z81 (Q (.tup [.agg [.str S79, .str S82], .bool true]) H75)))) : J4 Q a6 i4 o4 h :=
  Zbe (kp := kp) (cast (by kernel_rfl) ht)
theorem call (a0x0 : Pt) (n0x0 c0x0 : Nat) (e0x0 : Bool) (a0x1 : Pt) (n0x1 c0x1 : Nat) (e0x1 : Bool) (x1x0 x1x1 : List Nat) (h : Zaa) (Q : QT) (ht :
 Zck (h ++ [.cells Zal [.slice a0x0 n0x0 c0x0 e0x0, .slice a0x1 n0x1 c0x1 e0x1] false]) fun H0 => Zck (H0 ++ [.cells Zab [.str x1x0, .str x1x1] false]) fun H1 => Zck (H1 ++ [.cells Zab [.str [], .str []] false]) fun H2 => Zce (Zaw H2 (.ptr (some (h.length, 0))) 2) fun K3 => Zad K3 fun C4 Z5 => xSl (some C4) fun A6 N7 C8 E9 => Zad Z5 fun C10 Z11 => xSl (some C10) fun A12 N13 C14 E15 => Zbl Z11 (Zce (Zaw H2 (.ptr (some (H0.length, 0))) 2) fun K16 => Zad K16 fun C17 Z18 => Zaz (some C17) fun S19 => Zad Z18 fun C20 Z21 => Zaz (some C20) fun S22 => Zbl Z21 (Zag pg Znp [.agg [.slice A6 N7 C8 E9, .slice A12 N13 C14 E15], .agg [.str S19, .str S22], .bool false] H2 fun V23 H24 =>
 Zjg V23 fun K25 => Zad K25 fun C26 Z27 => Zhs (some C26) fun A28 => Zad Z27 fun C29 Z30 => Zaz (some C29) fun S31 => Zad Z30 fun C32 Z33 => Zbr (some C32) fun B34 => Zbl Z33 (bcase (!B34) (Zbw (Zbc H24 (.ptr (some (H1.length, 0))) [.str [], .str []]) fun H35 => Zce (Zaw H35 (.ptr (some (H1.length, 0))) 2) fun K36 => Zad K36 fun C37 Z38 => Zaz (some C37) fun S39 => Zad Z38 fun C40 Z41 => Zaz (some C40) fun S42 => Zbl Z41 (Q (.tup [.agg [.str S39, .str S42], .bool false]) H35)) (Zbf A28 fun I43 O44 => Zaz (Zae H24 (.ptr (some (I43, O44 + 5)))) fun S45 => bcase (decide (S45 = [])) (Zbw (Zbc H24 (.ptr (some (H1.length, 0))) [.str [], .str []]) fun H46 => Zce (Zaw H46 (.ptr (some (H1.length, 0))) 2) fun K47 => Zad K47 fun C48 Z49 => Zaz (some C48) fun S50 => Zad Z49 fun C51 Z52 => Zaz (some C51) fun S53 => Zbl Z52 (Q (.tup [.agg [.str S50, .str S53], .bool false]) H46)) (J4 Q A28 H1.length 0 H24)))))) : Zag pg Zdf [.agg [.slice a0x0 n0x0 c0x0 e0x0, .slice a0x1 n0x1 c0x1 e0x1], .agg [.str x1x0, .str x1x1]] h Q :=
  Zag.of_body kp (c := cod fn) (fn := fn) Go.Proofs.Tryz.func15 (by kernel_rfl) (by kernel_rfl) (Nat.le_of_ble_eq_true (by kernel_rfl))
    (cast (by kernel_rfl) ht)
end Zka
end Go.Sim

set_option maxRecDepth 100000
set_option linter.unusedVariables false
namespace Go.Sim
open Go Go.RowKit
namespace Zgc
noncomputable abbrev fn : Func := Go.Proofs.Tryz.f98
def kp : Zcf := [(2000001, [5, 0, 3]), (2000008, [6, 0]), (4000011, [0])]
noncomputable def C (p : List Nat) : Code := (cod fn).sub p
def KR (Q : QT) : KT := Zfc pg fn.results.toList Q
def J11 (Q : QT) (a0 : Pt) (h : Zaa) : Prop := Den pg fn.ntmps (C [1, 1, 1, 1]) [(0, .ptr a0)] h (KR Q)
theorem J11i (Q : QT) (a0 : Pt) (h : Zaa) (ht :
 Zbf a0 fun I63 O64 => Zbw (Zbc h (.ptr (some (I63, O64 + 5))) [.str ([109, 97, 110, 121])]) fun H65 => Q (.int .i64 (-1)) H65) : J11 Q a0 h :=
  Zbe (kp := kp) (cast (by kernel_rfl) ht)
theorem call (a0 : Pt) (x1x0 x1x1 : List Nat) (h : Zaa) (Q : QT) (ht :
 Zck (h ++ [.cells Zab [.str x1x0, .str x1x1] false]) fun H0 => Zbf a0 fun I1 O2 => Zce (Zaw H0 (.ptr (some (I1, O2 + 0))) 2) fun K3 => Zad K3 fun C4 Z5 => xSl (some C4) fun A6 N7 C8 E9 => Zad Z5 fun C10 Z11 => xSl (some C10) fun A12 N13 C14 E15 => Zbl Z11 (Zce (Zaw H0 (.ptr (some (h.length, 0))) 2) fun K16 => Zad K16 fun C17 Z18 => Zaz (some C17) fun S19 => Zad Z18 fun C20 Z21 => Zaz (some C20) fun S22 => Zbl Z21 ((Zaw H0 (.ptr (some (I1, O2 + 0))) 2 = Zaw H0 (.ptr (some (I1, O2 + 0))) 2) ∧ Zag pg Zgu [.agg [.slice A6 N7 C8 E9, .slice A12 N13 C14 E15], .agg [.str S19, .str S22]] H0 fun V23 H24 =>
 xSl (some V23) fun A25 N26 C27 E28 => bcase ((((N26 : Nat) : Int) : Int) == 0) (Zbf a0 fun I29 O30 => Zbw (Zbc H24 (.ptr (some (I29, O30 + 5))) [.str ([110, 111, 110, 101])]) fun H31 => Q (.int .i64 (-1)) H31) (bcase ((((N26 : Nat) : Int) : Int) == 1) ((0 ≤ (0 : Int) ∧ (0 : Int) < (N26 : Nat)) ∧ (Zbf A25 fun I32 O33 => Zem .i64 (Zae H24 (.ptr (some (I32, O33 + (Int.toNat 0) * 1)))) fun X34 => Q (.int .i64 X34) H24)) (Zbf a0 fun I35 O36 => Zbr (Zae H24 (.ptr (some (I35, O36 + 2)))) fun B37 => bcase B37 (Zbf a0 fun I38 O39 => Zce (Zaw H24 (.ptr (some (I38, O39 + 0))) 2) fun K40 => Zad K40 fun C41 Z42 => xSl (some C41) fun A43 N44 C45 E46 => Zad Z42 fun C47 Z48 => xSl (some C47) fun A49 N50 C51 E52 => Zbl Z48 (Zce (Zaw H24 (.ptr (some (h.length, 0))) 2) fun K53 => Zad K53 fun C54 Z55 => Zaz (some C54) fun S56 => Zad Z55 fun C57 Z58 => Zaz (some C57) fun S59 => Zbl Z58 ((Zaw H24 (.ptr (some (I38, O39 + 0))) 2 = Zaw H24 (.ptr (some (I38, O39 + 0))) 2) ∧ Zag pg Zji [.agg [.slice A43 N44 C45 E46, .slice A49 N50 C51 E52], .agg [.str S56, .str S59]] H24 fun V60 H61 =>
 Zem .i64 (some V60) fun X62 => bcase (decide ((X62 : Int) ≥ 0)) (Q (.int .i64 X62) H61) (J11 Q a0 H61)))) (J11 Q a0 H24)))))) : Zag pg Zel [.ptr a0, .agg [.str x1x0, .str x1x1]] h Q :=
  Zag.of_body kp (c := cod fn) (fn := fn) Go.Proofs.Tryz.func98 (by kernel_rfl) (by kernel_rfl) (Nat.le_of_ble_eq_true (by kernel_rfl))
    (cast (by kernel_rfl) ht)
end Zgc
end Go.Sim

set_option maxRecDepth 100000
set_option linter.unusedVariables false
namespace Go.Sim
open Go Go.RowKit
namespace Zdn
noncomputable abbrev fn : Func := Go.Proofs.Tryz.f62
def kp : Zcf := [(2000001, [0, 4, 2]), (2000005, [2, 0, 4]), (2000012, [9, 0, 7, 8, 2]), (3000018, [8, 10, 0, 2, 6]), (1000018, [0, 2, 8, 10, 78, 79, 80]), (4000027, [0, 2, 10])]
noncomputable def C (p : List Nat) : Code := (cod fn).sub p
def KR (Q : QT) : KT := Zfc pg fn.results.toList Q
abbrev T18 := Pt → Int → Pt → Nat → Nat → Bool → List Nat → Pt → Nat → Nat → Bool → Int → Int → Zaa → Prop
def E18 (R18 : T18) (env : Env) (h : Zaa) : Prop := Zca 0 env fun v env => Zhs (some v) fun a0 => Zca 2 env fun v env => Zep .i64 v fun x2 => Zca 8 env fun v env => xSl (some v) fun a8 n8 c8 e8 => Zca 10 env fun v env => Zaz (some v) fun x10 => Zca 78 env fun v env => xSl (some v) fun a78 n78 c78 e78 => Zca 79 env fun v env => Zep .i64 v fun x79 => Zca 80 env fun v env => Zep .i64 v fun x80 => Zlf env (R18 a0 x2 a8 n8 c8 e8 x10 a78 n78 c78 e78 x79 x80 h)
theorem Ylc {R18 : T18} {env : Env} {h : Zaa} (hi : E18 R18 env h) : ∃ a0, ∃ x2, ∃ a8, ∃ n8, ∃ c8, ∃ e8, ∃ x10, ∃ a78, ∃ n78, ∃ c78, ∃ e78, ∃ x79, ∃ x80, env = [(0, .ptr a0), (2, .int .i64 x2), (8, .slice a8 n8 c8 e8), (10, .str x10), (78, .slice a78 n78 c78 e78), (79, .int .i64 x79), (80, .int .i64 x80)] ∧ R18 a0 x2 a8 n8 c8 e8 x10 a78 n78 c78 e78 x79 x80 h := by
  unfold E18 at hi
  have hi0 := hi
  clear hi
  obtain ⟨_, _, rfl, hi1⟩ := Zac hi0
  obtain ⟨a0, rfl, hi2⟩ := Zcl hi1
  obtain ⟨_, _, rfl, hi3⟩ := Zac hi2
  obtain ⟨x2, rfl, hi4⟩ := Zat hi3
  obtain ⟨_, _, rfl, hi5⟩ := Zac hi4
  obtain ⟨a8, n8, c8, e8, rfl, hi6⟩ := Zbi hi5
  obtain ⟨_, _, rfl, hi7⟩ := Zac hi6
  obtain ⟨x10, rfl, hi8⟩ := Zee hi7
  obtain ⟨_, _, rfl, hi9⟩ := Zac hi8
  obtain ⟨a78, n78, c78, e78, rfl, hi10⟩ := Zbi hi9
  obtain ⟨_, _, rfl, hi11⟩ := Zac hi10
  obtain ⟨x79, rfl, hi12⟩ := Zat hi11
  obtain ⟨_, _, rfl, hi13⟩ := Zac hi12
  obtain ⟨x80, rfl, hi14⟩ := Zat hi13
  obtain ⟨rfl, hi15⟩ := Zbq hi14
  have hi := hi15
  exact ⟨a0, x2, a8, n8, c8, e8, x10, a78, n78, c78, e78, x79, x80, rfl, hi⟩
def K0 (Q : QT) : KT := andThen (fun env' h' => (match kp.find 4000025 with | some ks => Den pg fn.ntmps (C [1, 1, 1, 1, 1, 1, 1, 1, 1, 1, 1]) (env'.keep ks) h' (KR Q) | none => den pg fn.ntmps kp (C [1, 1, 1, 1, 1, 1, 1, 1, 1, 1, 1]) env' h' (KR Q))) (KR Q)
def K1 (Q : QT) : KT := Zct 0 (K0 Q)
def K2 (Q : QT) : KT := Zij kp 18 (K1 Q)
def K3 (Q : QT) (R18 : T18) : KT := rnd ((kp.find 1000018).getD []) (E18 R18) (K2 Q)
def L18 (Q : QT) (a0 : Pt) (x2 : Int) (a8 : Pt) (n8 c8 : Nat) (e8 : Bool) (x10 : List Nat) (a78 : Pt) (n78 c78 : Nat) (e78 : Bool) (x79 x80 : Int) (h : Zaa) : Prop := Zes (Den pg fn.ntmps (C [1, 1, 1, 1, 1, 1, 1, 1, 1, 1, 0, 1, 0, 0])) ((kp.find 1000018).getD []) (K2 Q) [(0, .ptr a0), (2, .int .i64 x2), (8, .slice a8 n8 c8 e8), (10, .str x10), (78, .slice a78 n78 c78 e78), (79, .int .i64 x79), (80, .int .i64 x80)] h
def Ysi (Q : QT) (a8 : Pt) (n8 c8 : Nat) (e8 : Bool) (x10 : List Nat) (a0 : Pt) (x2 : Int) (h : Zaa) : Prop := At (K1 Q) (.exit 0) [(8, .slice a8 n8 c8 e8), (10, .str x10), (0, .ptr a0), (2, .int .i64 x2), (6, .undef)] h
def J27 (Q : QT) (a0 : Pt) (x2 : Int) (x10 : List Nat) (h : Zaa) : Prop := Den pg fn.ntmps (C [1, 1, 1, 1, 1, 1, 1, 1, 1, 1, 1, 1]) [(0, .ptr a0), (2, .int .i64 x2), (10, .str x10)] h (KR Q)
def L18t (Q : QT) (R18 : T18) (a0 : Pt) (x2 : Int) (a8 : Pt) (n8 c8 : Nat) (e8 : Bool) (x10 : List Nat) (a78 : Pt) (n78 c78 : Nat) (e78 : Bool) (x79 x80 : Int) (h : Zaa) : Prop :=
 bcase (decide ((x80 : Int) < x79)) ((0 ≤ (x80 : Int) ∧ (x80 : Int) < (n78 : Nat)) ∧ (Zbf a78 fun I324 O325 => Zce (Zaw h (.ptr (some (I324, O325 + (Int.toNat x80) * 2))) 2) fun K326 => Zad K326 fun C327 Z328 => Zaz (some C327) fun S329 => Zad Z328 fun C330 Z331 => Zaz (some C330) fun S332 => Zbl Z331 (Zck (h ++ [.cells Zab [.str [], .str []] false]) fun H333 => Zbw (Zbc H333 (.ptr (some (h.length, 0))) [.str S329, .str S332]) fun H334 => Zce (Zaw H334 (.ptr (some (h.length, 0))) 2) fun K335 => Zad K335 fun C336 Z337 => Zaz (some C336) fun S338 => Zad Z337 fun C339 Z340 => Zaz (some C339) fun S341 => Zbl Z340 (Zag pg Zfd [.ptr a0, .agg [.str S338, .str S341], .int .i64 (IntKind.wrap .i64 (x2 + 1))] H334 fun V342 H343 =>
 Zaz (some V342) fun S344 => Zbf a0 fun I345 O346 => Zaz (Zae H343 (.ptr (some (I345, O346 + 5)))) fun S347 => bcase (!(decide (S347 = []))) (Q (.str []) H343) ((0 ≤ (x80 : Int) ∧ (x80 : Int) ≤ IntKind.wrap .i64 (x80 + 1) ∧ (IntKind.wrap .i64 (x80 + 1) : Int) ≤ (List.length ([40, 44, 44]) : Nat)) ∧ (List.length x10 + List.length (sub ([40, 44, 44]) x80 (IntKind.wrap .i64 (x80 + 1))) ≤ 9223372036854775807 ∧ (List.length (x10 ++ (sub ([40, 44, 44]) x80 (IntKind.wrap .i64 (x80 + 1)))) + List.length S344 ≤ 9223372036854775807 ∧ (R18 a0 x2 a8 n8 c8 e8 ((x10 ++ (sub ([40, 44, 44]) x80 (IntKind.wrap .i64 (x80 + 1)))) ++ S344) a78 n78 c78 e78 x79 (IntKind.wrap .i64 (x80 + 1)) H343)))))))) (Ysi Q a8 n8 c8 e8 x10 a0 x2 h)
theorem Ysb (Q : QT) (R18 : T18) (a0 : Pt) (x2 : Int) (a8 : Pt) (n8 c8 : Nat) (e8 : Bool) (x10 : List Nat) (a78 : Pt) (n78 c78 : Nat) (e78 : Bool) (x79 x80 : Int) (h : Zaa) (ht : L18t Q R18 a0 x2 a8 n8 c8 e8 x10 a78 n78 c78 e78 x79 x80 h) : Den pg fn.ntmps (C [1, 1, 1, 1, 1, 1, 1, 1, 1, 1, 0, 1, 0, 0]) [(0, .ptr a0), (2, .int .i64 x2), (8, .slice a8 n8 c8 e8), (10, .str x10), (78, .slice a78 n78 c78 e78), (79, .int .i64 x79), (80, .int .i64 x80)] h (K3 Q R18) :=
  Zbe (kp := kp) (cast (by kernel_rfl) ht)
theorem L18ind (Q : QT) (a0 : Pt) (x2 : Int) (a8 : Pt) (n8 c8 : Nat) (e8 : Bool) (a78 : Pt) (n78 c78 : Nat) (e78 : Bool) (x79 : Int) {G : Type} (J : G → List Nat → Int → Zaa → Prop) (m : G → Nat)
 (hr : ∀ (g : G) (x10 : List Nat) (x80 : Int) (h : Zaa), J g x10 x80 h → ∀ (R18 : T18), (∀ g' (x10 : List Nat) (x80 : Int) (h : Zaa), m g' < m g → J g' x10 x80 h → R18 a0 x2 a8 n8 c8 e8 x10 a78 n78 c78 e78 x79 x80 h) → L18t Q R18 a0 x2 a8 n8 c8 e8 x10 a78 n78 c78 e78 x79 x80 h)
 (g : G) (x10 : List Nat) (x80 : Int) (h : Zaa) (hj : J g x10 x80 h) : L18 Q a0 x2 a8 n8 c8 e8 x10 a78 n78 c78 e78 x79 x80 h := by
  refine Zes.inv2 (fun g => E18 fun a0' x2' a8' n8' c8' e8' x10 a78' n78' c78' e78' x79' x80 h => a0 = a0' ∧ x2 = x2' ∧ a8 = a8' ∧ n8 = n8' ∧ c8 = c8' ∧ e8 = e8' ∧ a78 = a78' ∧ n78 = n78' ∧ c78 = c78' ∧ e78 = e78' ∧ x79 = x79' ∧ J g x10 x80 h) (fun g => E18 fun a0' x2' a8' n8' c8' e8' x10 a78' n78' c78' e78' x79' x80 h => a0 = a0' ∧ x2 = x2' ∧ a8 = a8' ∧ n8 = n8' ∧ c8 = c8' ∧ e8 = e8' ∧ a78 = a78' ∧ n78 = n78' ∧ c78 = c78' ∧ e78 = e78' ∧ x79 = x79' ∧ ∃ g', m g' < m g ∧ J g' x10 x80 h) m ?_ ?_ g ⟨rfl, rfl, rfl, rfl, rfl, rfl, rfl, rfl, rfl, rfl, rfl, hj⟩
  · intro g env h hi
    obtain ⟨a0', x2', a8', n8', c8', e8', x10, a78', n78', c78', e78', x79', x80, rfl, rfl, rfl, rfl, rfl, rfl, rfl, rfl, rfl, rfl, rfl, rfl, hj⟩ := Ylc hi
    exact Ysb Q _ a0 x2 a8 n8 c8 e8 x10 a78 n78 c78 e78 x79 x80 h (hr g x10 x80 h hj (fun a0' x2' a8' n8' c8' e8' x10 a78' n78' c78' e78' x79' x80 h => a0 = a0' ∧ x2 = x2' ∧ a8 = a8' ∧ n8 = n8' ∧ c8 = c8' ∧ e8 = e8' ∧ a78 = a78' ∧ n78 = n78' ∧ c78 = c78' ∧ e78 = e78' ∧ x79 = x79' ∧ ∃ g', m g' < m g ∧ J g' x10 x80 h) fun g' x10 x80 h hlt hj => ⟨rfl, rfl, rfl, rfl, rfl, rfl, rfl, rfl, rfl, rfl, rfl, g', hlt, hj⟩)
  · intro g env h hi
    obtain ⟨a0', x2', a8', n8', c8', e8', x10, a78', n78', c78', e78', x79', x80, rfl, rfl, rfl, rfl, rfl, rfl, rfl, rfl, rfl, rfl, rfl, rfl, g', hlt, hj⟩ := Ylc hi
    exact ⟨g', hlt, rfl, rfl, rfl, rfl, rfl, rfl, rfl, rfl, rfl, rfl, rfl, hj⟩
theorem A18x0i (Q : QT) (a8 : Pt) (n8 c8 : Nat) (e8 : Bool) (x10 : List Nat) (a0 : Pt) (x2 : Int) (h : Zaa) (ht :
 bcase (decide (((((n8 : Nat) : Int)) : Int) > 0)) (List.length x10 + List.length [41] ≤ 9223372036854775807 ∧ (J27 Q a0 x2 (x10 ++ [41]) h)) (J27 Q a0 x2 x10 h)) : Ysi Q a8 n8 c8 e8 x10 a0 x2 h :=
  At.mk (cast (by kernel_rfl) ht)
theorem J27i (Q : QT) (a0 : Pt) (x2 : Int) (x10 : List Nat) (h : Zaa) (ht :
 Zbf a0 fun I348 O349 => xSl (Zae h (.ptr (some (I348, O349 + 4)))) fun A350 N351 C352 E353 => Zjr A350 N351 C352 E353 2 none (some (.int .i64 (IntKind.wrap .i64 (x2 + 1)))) none fun V354 => xSl (some V354) fun A355 N356 C357 E358 => Zbf a0 fun I359 O360 => Zbw (Zbc h (.ptr (some (I359, O360 + 4))) [.slice A355 N356 C357 E358]) fun H361 => Q (.str x10) H361) : J27 Q a0 x2 x10 h :=
  Zbe (kp := kp) (cast (by kernel_rfl) ht)
theorem call (a0 : Pt) (x1x0 x1x1 : List Nat) (x2 : Int) (h : Zaa) (Q : QT) (ht :
 Zck (h ++ [.cells Zab [.str x1x0, .str x1x1] false]) fun H0 => Zbf a0 fun I1 O2 => xSl (Zae H0 (.ptr (some (I1, O2 + 4)))) fun A3 N4 C5 E6 => Zjr A3 N4 C5 E6 2 none (some (.int .i64 x2)) none fun V7 => xSl (some V7) fun A8 N9 C10 E11 => Zce (Zaw H0 (.ptr (some (h.length, 0))) 2) fun K12 => Zad K12 fun C13 Z14 => Zaz (some C13) fun S15 => Zad Z14 fun C16 Z17 => Zaz (some C16) fun S18 => Zbl Z17 ((Zck (H0 ++ [.cells Zab [] false]) fun H19 => (Zaw H19 (.ptr (some (h.length, 0))) 2 = Zaw H0 (.ptr (some (h.length, 0))) 2) ∧ (Zae H19 (.ptr (some (I1, O2 + 4))) = Zae H0 (.ptr (some (I1, O2 + 4)))) ∧ (Zcs pg Zbm H19 (.slice (some (H0.length, 0)) 0 0 true) (.slice A8 N9 C10 E11) fun V20 H21 => xSl (some V20) fun A22 N23 C24 E25 => (Zaw H21 (.ptr (some (h.length, 0))) 2 = Zaw H19 (.ptr (some (h.length, 0))) 2) ∧ (Zae H21 (.ptr (some (I1, O2 + 4))) = Zae H19 (.ptr (some (I1, O2 + 4)))) ∧ Zck (H21 ++ [.cells Zab [.str S15, .str S18] false]) fun H26 => (Zae H26 (.ptr (some (I1, O2 + 4))) = Zae H21 (.ptr (some (I1, O2 + 4)))) ∧ Zcs pg Zbm H26 (.slice A22 N23 C24 E25) (.slice (some (H21.length, 0)) 1 1 true) fun V27 H28 => xSl (some V27) fun A29 N30 C31 E32 => (Zaw H28 (.ptr (some (h.length, 0))) 2 = Zaw H26 (.ptr (some (h.length, 0))) 2) ∧ (Zae H28 (.ptr (some (I1, O2 + 4))) = Zae H26 (.ptr (some (I1, O2 + 4)))) ∧ Zbf a0 fun I33 O34 => Zbw (Zbc H28 (.ptr (some (I33, O34 + 4))) [.slice A29 N30 C31 E32]) fun H35 => Zbf a0 fun I36 O37 => xSl (Zae H35 (.ptr (some (I36, O37 + 3)))) fun A38 N39 C40 E41 => bcase (decide (((((N39 : Nat) : Int)) : Int) ≥ 300)) (Zbf a0 fun I42 O43 => Zbw (Zbc H35 (.ptr (some (I42, O43 + 5))) [.str ([108, 111, 110, 103])]) fun H44 => Q (.str []) H44) (Zbf a0 fun I45 O46 => xSl (Zae H35 (.ptr (some (I45, O46 + 3)))) fun A47 N48 C49 E50 => Zce (Zaw H35 (.ptr (some (h.length, 0))) 2) fun K51 => Zad K51 fun C52 Z53 => Zaz (some C52) fun S54 => Zad Z53 fun C55 Z56 => Zaz (some C55) fun S57 => Zbl Z56 ((Zae H35 (.ptr (some (I45, O46 + 3))) = Zae H35 (.ptr (some (I45, O46 + 3)))) ∧ Zck (H35 ++ [.cells Zab [.str S54, .str S57] false]) fun H58 => (Zae H58 (.ptr (some (I45, O46 + 3))) = Zae H35 (.ptr (some (I45, O46 + 3)))) ∧ Zcs pg Zbm H58 (.slice A47 N48 C49 E50) (.slice (some (H35.length, 0)) 1 1 true) fun V59 H60 => xSl (some V59) fun A61 N62 C63 E64 => Zbf a0 fun I65 O66 => Zbw (Zbc H60 (.ptr (some (I65, O66 + 3))) [.slice A61 N62 C63 E64]) fun H67 => bcase (decide ((x2 : Int) > 30)) (Zbf a0 fun I68 O69 => Zbw (Zbc H67 (.ptr (some (I68, O69 + 5))) [.str ([100, 101, 101, 112])]) fun H70 => Q (.str []) H70) (Zce (Zaw H67 (.ptr (some (h.length, 0))) 2) fun K71 => Zad K71 fun C72 Z73 => Zaz (some C72) fun S74 => Zad Z73 fun C75 Z76 => Zaz (some C75) fun S77 => Zbl Z76 (Zag pg Zel [.ptr a0, .agg [.str S74, .str S77]] H67 fun V78 H79 =>
 Zem .i64 (some V78) fun X80 => bcase (decide ((X80 : Int) < 0)) (Q (.str []) H79) (Zbf a0 fun I81 O82 => xSl (Zae H79 (.ptr (some (I81, O82 + 0 + 1)))) fun A83 N84 C85 E86 => (0 ≤ (X80 : Int) ∧ (X80 : Int) < (N84 : Nat)) ∧ (Zbf A83 fun I87 O88 => Zce (Zaw H79 (.ptr (some (I87, O88 + (Int.toNat X80) * 3))) 3) fun K89 => Zad K89 fun C90 Z91 => Zaz (some C90) fun S92 => Zad Z91 fun C93 Z94 => Zaz (some C93) fun S95 => Zad Z94 fun C96 Z97 => xSl (some C96) fun A98 N99 C100 E101 => Zbl Z97 (Zaz (Zae H79 (.ptr (some (h.length, 0 + 1)))) fun S102 => (Zaw H79 (.ptr (some (I87, O88 + (Int.toNat X80) * 3))) 3 = Zaw H79 (.ptr (some (I87, O88 + (Int.toNat X80) * 3))) 3) ∧ (Zae H79 (.ptr (some (I81, O82 + 0 + 1))) = Zae H79 (.ptr (some (I81, O82 + 0 + 1)))) ∧ Zag pg Zgz [.agg [.str S92, .str S95, .slice A98 N99 C100 E101], .str S102] H79 fun V103 H104 =>
 Zjg V103 fun K105 => Zad K105 fun C106 Z107 => xSl (some C106) fun A108 N109 C110 E111 => Zad Z107 fun C112 Z113 => Zbr (some C112) fun B114 => Zbl Z113 ((Zae H104 (.ptr (some (I81, O82 + 0 + 1))) = Zae H79 (.ptr (some (I81, O82 + 0 + 1)))) ∧ bcase (!B114) (Zbf a0 fun I115 O116 => Zbw (Zbc H104 (.ptr (some (I115, O116 + 5))) [.str ([98, 105, 103])]) fun H117 => Q (.str []) H117) (Zag pg Zfw [.int .i64 X80] H104 fun V118 H119 =>
 Zaz (some V118) fun S120 => L18 Q a0 x2 A108 N109 C110 E111 S120 A108 N109 C110 E111 (((N109 : Nat) : Int)) 0 H119)))))))))) ∧ (Zck (H19 ++ [.cells Zab [.str S15, .str S18] false]) fun H121 => (Zae H121 (.ptr (some (I1, O2 + 4))) = Zae H19 (.ptr (some (I1, O2 + 4)))) ∧ Zcs pg Zbm H121 (.slice (some (H0.length, 0)) 0 0 true) (.slice A8 N9 C10 E11) fun V122 H123 => xSl (some V122) fun A124 N125 C126 E127 => (Zaw H123 (.ptr (some (h.length, 0))) 2 = Zaw H121 (.ptr (some (h.length, 0))) 2) ∧ (Zae H123 (.ptr (some (I1, O2 + 4))) = Zae H121 (.ptr (some (I1, O2 + 4)))) ∧ Zcs pg Zbm H123 (.slice A124 N125 C126 E127) (.slice (some (H19.length, 0)) 1 1 true) fun V128 H129 => xSl (some V128) fun A130 N131 C132 E133 => (Zaw H129 (.ptr (some (h.length, 0))) 2 = Zaw H123 (.ptr (some (h.length, 0))) 2) ∧ (Zae H129 (.ptr (some (I1, O2 + 4))) = Zae H123 (.ptr (some (I1, O2 + 4)))) ∧ Zbf a0 fun I134 O135 => Zbw (Zbc H129 (.ptr (some (I134, O135 + 4))) [.slice A130 N131 C132 E133]) fun H136 => Zbf a0 fun I137 O138 => xSl (Zae H136 (.ptr (some (I137, O138 + 3)))) fun A139 N140 C141 E142 => bcase (decide (((((N140 : Nat) : Int)) : Int) ≥ 300)) (Zbf a0 fun I143 O144 => Zbw (Zbc H136 (.ptr (some (I143, O144 + 5))) [.str ([108, 111, 110, 103])]) fun H145 => Q (.str []) H145) (Zbf a0 fun I146 O147 => xSl (Zae H136 (.ptr (some (I146, O147 + 3)))) fun A148 N149 C150 E151 => Zce (Zaw H136 (.ptr (some (h.length, 0))) 2) fun K152 => Zad K152 fun C153 Z154 => Zaz (some C153) fun S155 => Zad Z154 fun C156 Z157 => Zaz (some C156) fun S158 => Zbl Z157 ((Zae H136 (.ptr (some (I146, O147 + 3))) = Zae H136 (.ptr (some (I146, O147 + 3)))) ∧ Zck (H136 ++ [.cells Zab [.str S155, .str S158] false]) fun H159 => (Zae H159 (.ptr (some (I146, O147 + 3))) = Zae H136 (.ptr (some (I146, O147 + 3)))) ∧ Zcs pg Zbm H159 (.slice A148 N149 C150 E151) (.slice (some (H136.length, 0)) 1 1 true) fun V160 H161 => xSl (some V160) fun A162 N163 C164 E165 => Zbf a0 fun I166 O167 => Zbw (Zbc H161 (.ptr (some (I166, O167 + 3))) [.slice A162 N163 C164 E165]) fun H168 => bcase (decide ((x2 : Int) > 30)) (Zbf a0 fun I169 O170 => Zbw (Zbc H168 (.ptr (some (I169, O170 + 5))) [.str ([100, 101, 101, 112])]) fun H171 => Q (.str []) H171) (Zce (Zaw H168 (.ptr (some (h.length, 0))) 2) fun K172 => Zad K172 fun C173 Z174 => Zaz (some C173) fun S175 => Zad Z174 fun C176 Z177 => Zaz (some C176) fun S178 => Zbl Z177 (Zag pg Zel [.ptr a0, .agg [.str S175, .str S178]] H168 fun V179 H180 =>
 Zem .i64 (some V179) fun X181 => bcase (decide ((X181 : Int) < 0)) (Q (.str []) H180) (Zbf a0 fun I182 O183 => xSl (Zae H180 (.ptr (some (I182, O183 + 0 + 1)))) fun A184 N185 C186 E187 => (0 ≤ (X181 : Int) ∧ (X181 : Int) < (N185 : Nat)) ∧ (Zbf A184 fun I188 O189 => Zce (Zaw H180 (.ptr (some (I188, O189 + (Int.toNat X181) * 3))) 3) fun K190 => Zad K190 fun C191 Z192 => Zaz (some C191) fun S193 => Zad Z192 fun C194 Z195 => Zaz (some C194) fun S196 => Zad Z195 fun C197 Z198 => xSl (some C197) fun A199 N200 C201 E202 => Zbl Z198 (Zaz (Zae H180 (.ptr (some (h.length, 0 + 1)))) fun S203 => (Zaw H180 (.ptr (some (I188, O189 + (Int.toNat X181) * 3))) 3 = Zaw H180 (.ptr (some (I188, O189 + (Int.toNat X181) * 3))) 3) ∧ (Zae H180 (.ptr (some (I182, O183 + 0 + 1))) = Zae H180 (.ptr (some (I182, O183 + 0 + 1)))) ∧ Zag pg Zgz [.agg [.str S193, .str S196, .slice A199 N200 C201 E202], .str S203] H180 fun V204 H205 =>
 Zjg V204 fun K206 => Zad K206 fun C207 Z208 => xSl (some C207) fun A209 N210 C211 E212 => Zad Z208 fun C213 Z214 => Zbr (some C213) fun B215 => Zbl Z214 ((Zae H205 (.ptr (some (I182, O183 + 0 + 1))) = Zae H180 (.ptr (some (I182, O183 + 0 + 1)))) ∧ bcase (!B215) (Zbf a0 fun I216 O217 => Zbw (Zbc H205 (.ptr (some (I216, O217 + 5))) [.str ([98, 105, 103])]) fun H218 => Q (.str []) H218) (Zag pg Zfw [.int .i64 X181] H205 fun V219 H220 =>
 Zaz (some V219) fun S221 => L18 Q a0 x2 A209 N210 C211 E212 S221 A209 N210 C211 E212 (((N210 : Nat) : Int)) 0 H220))))))))))) ∧ (Zck (H0 ++ [.cells Zab [.str S15, .str S18] false]) fun H222 => (Zae H222 (.ptr (some (I1, O2 + 4))) = Zae H0 (.ptr (some (I1, O2 + 4)))) ∧ Zck (H222 ++ [.cells Zab [] false]) fun H223 => (Zaw H223 (.ptr (some (h.length, 0))) 2 = Zaw H222 (.ptr (some (h.length, 0))) 2) ∧ (Zae H223 (.ptr (some (I1, O2 + 4))) = Zae H222 (.ptr (some (I1, O2 + 4)))) ∧ Zcs pg Zbm H223 (.slice (some (H222.length, 0)) 0 0 true) (.slice A8 N9 C10 E11) fun V224 H225 => xSl (some V224) fun A226 N227 C228 E229 => (Zaw H225 (.ptr (some (h.length, 0))) 2 = Zaw H223 (.ptr (some (h.length, 0))) 2) ∧ (Zae H225 (.ptr (some (I1, O2 + 4))) = Zae H223 (.ptr (some (I1, O2 + 4)))) ∧ Zcs pg Zbm H225 (.slice A226 N227 C228 E229) (.slice (some (H0.length, 0)) 1 1 true) fun V230 H231 => xSl (some V230) fun A232 N233 C234 E235 => (Zaw H231 (.ptr (some (h.length, 0))) 2 = Zaw H225 (.ptr (some (h.length, 0))) 2) ∧ (Zae H231 (.ptr (some (I1, O2 + 4))) = Zae H225 (.ptr (some (I1, O2 + 4)))) ∧ Zbf a0 fun I236 O237 => Zbw (Zbc H231 (.ptr (some (I236, O237 + 4))) [.slice A232 N233 C234 E235]) fun H238 => Zbf a0 fun I239 O240 => xSl (Zae H238 (.ptr (some (I239, O240 + 3)))) fun A241 N242 C243 E244 => bcase (decide (((((N242 : Nat) : Int)) : Int) ≥ 300)) (Zbf a0 fun I245 O246 => Zbw (Zbc H238 (.ptr (some (I245, O246 + 5))) [.str ([108, 111, 110, 103])]) fun H247 => Q (.str []) H247) (Zbf a0 fun I248 O249 => xSl (Zae H238 (.ptr (some (I248, O249 + 3)))) fun A250 N251 C252 E253 => Zce (Zaw H238 (.ptr (some (h.length, 0))) 2) fun K254 => Zad K254 fun C255 Z256 => Zaz (some C255) fun S257 => Zad Z256 fun C258 Z259 => Zaz (some C258) fun S260 => Zbl Z259 ((Zae H238 (.ptr (some (I248, O249 + 3))) = Zae H238 (.ptr (some (I248, O249 + 3)))) ∧ Zck (H238 ++ [.cells Zab [.str S257, .str S260] false]) fun H261 => (Zae H261 (.ptr (some (I248, O249 + 3))) = Zae H238 (.ptr (some (I248, O249 + 3)))) ∧ Zcs pg Zbm H261 (.slice A250 N251 C252 E253) (.slice (some (H238.length, 0)) 1 1 true) fun V262 H263 => xSl (some V262) fun A264 N265 C266 E267 => Zbf a0 fun I268 O269 => Zbw (Zbc H263 (.ptr (some (I268, O269 + 3))) [.slice A264 N265 C266 E267]) fun H270 => bcase (decide ((x2 : Int) > 30)) (Zbf a0 fun I271 O272 => Zbw (Zbc H270 (.ptr (some (I271, O272 + 5))) [.str ([100, 101, 101, 112])]) fun H273 => Q (.str []) H273) (Zce (Zaw H270 (.ptr (some (h.length, 0))) 2) fun K274 => Zad K274 fun C275 Z276 => Zaz (some C275) fun S277 => Zad Z276 fun C278 Z279 => Zaz (some C278) fun S280 => Zbl Z279 (Zag pg Zel [.ptr a0, .agg [.str S277, .str S280]] H270 fun V281 H282 =>
 Zem .i64 (some V281) fun X283 => bcase (decide ((X283 : Int) < 0)) (Q (.str []) H282) (Zbf a0 fun I284 O285 => xSl (Zae H282 (.ptr (some (I284, O285 + 0 + 1)))) fun A286 N287 C288 E289 => (0 ≤ (X283 : Int) ∧ (X283 : Int) < (N287 : Nat)) ∧ (Zbf A286 fun I290 O291 => Zce (Zaw H282 (.ptr (some (I290, O291 + (Int.toNat X283) * 3))) 3) fun K292 => Zad K292 fun C293 Z294 => Zaz (some C293) fun S295 => Zad Z294 fun C296 Z297 => Zaz (some C296) fun S298 => Zad Z297 fun C299 Z300 => xSl (some C299) fun A301 N302 C303 E304 => Zbl Z300 (Zaz (Zae H282 (.ptr (some (h.length, 0 + 1)))) fun S305 => (Zaw H282 (.ptr (some (I290, O291 + (Int.toNat X283) * 3))) 3 = Zaw H282 (.ptr (some (I290, O291 + (Int.toNat X283) * 3))) 3) ∧ (Zae H282 (.ptr (some (I284, O285 + 0 + 1))) = Zae H282 (.ptr (some (I284, O285 + 0 + 1)))) ∧ Zag pg Zgz [.agg [.str S295, .str S298, .slice A301 N302 C303 E304], .str S305] H282 fun V306 H307 =>
 Zjg V306 fun K308 => Zad K308 fun C309 Z310 => xSl (some C309) fun A311 N312 C313 E314 => Zad Z310 fun C315 Z316 => Zbr (some C315) fun B317 => Zbl Z316 ((Zae H307 (.ptr (some (I284, O285 + 0 + 1))) = Zae H282 (.ptr (some (I284, O285 + 0 + 1)))) ∧ bcase (!B317) (Zbf a0 fun I318 O319 => Zbw (Zbc H307 (.ptr (some (I318, O319 + 5))) [.str ([98, 105, 103])]) fun H320 => Q (.str []) H320) (Zag pg Zfw [.int .i64 X283] H307 fun V321 H322 =>
 Zaz (some V321) fun S323 => L18 Q a0 x2 A311 N312 C313 E314 S323 A311 N312 C313 E314 (((N312 : Nat) : Int)) 0 H322)))))))))))) : Zag pg Zfd [.ptr a0, .agg [.str x1x0, .str x1x1], .int .i64 x2] h Q :=
  Zag.of_body kp (c := cod fn) (fn := fn) Go.Proofs.Tryz.func62 (by kernel_rfl) (by kernel_rfl) (Nat.le_of_ble_eq_true (by kernel_rfl))
    (cast (by kernel_rfl) ht)
end Zdn
end Go.Sim

set_option maxRecDepth 100000
set_option linter.unusedVariables false
namespace Go.Sim
open Go Go.RowKit
namespace Zek
noncomputable abbrev fn : Func := Go.Proofs.Tryz.f120
def kp : Zcf := [(4000004, [0, 6]), (3000006, [8, 6]), (1000006, [6, 8, 26, 27, 28]), (2000008, [28, 27, 26, 8, 6])]
noncomputable def C (p : List Nat) : Code := (cod fn).sub p
def KR (Q : QT) : KT := Zfc pg fn.results.toList Q
abbrev T6 := Nat → Nat → Nat → Nat → Pt → Nat → Nat → Bool → Int → Int → Zaa → Prop
def E6 (R6 : T6) (env : Env) (h : Zaa) : Prop := Zca 6 env fun v env => Zhs (some v) fun a => Zbf a fun i6 o6 => Zca 8 env fun v env => Zhs (some v) fun a => Zbf a fun i8 o8 => Zca 26 env fun v env => xSl (some v) fun a26 n26 c26 e26 => Zca 27 env fun v env => Zep .i64 v fun x27 => Zca 28 env fun v env => Zep .i64 v fun x28 => Zlf env (R6 i6 o6 i8 o8 a26 n26 c26 e26 x27 x28 h)
theorem Zmz {R6 : T6} {env : Env} {h : Zaa} (hi : E6 R6 env h) : ∃ i6, ∃ o6, ∃ i8, ∃ o8, ∃ a26, ∃ n26, ∃ c26, ∃ e26, ∃ x27, ∃ x28, env = [(6, .ptr (some (i6, o6))), (8, .ptr (some (i8, o8))), (26, .slice a26 n26 c26 e26), (27, .int .i64 x27), (28, .int .i64 x28)] ∧ R6 i6 o6 i8 o8 a26 n26 c26 e26 x27 x28 h := by
  unfold E6 at hi
  have hi0 := hi
  clear hi
  obtain ⟨_, _, rfl, hi1⟩ := Zac hi0
  obtain ⟨a, rfl, hi2⟩ := Zcl hi1
  obtain ⟨i6, o6, rfl, hi3⟩ := Zcc hi2
  obtain ⟨_, _, rfl, hi4⟩ := Zac hi3
  obtain ⟨a, rfl, hi5⟩ := Zcl hi4
  obtain ⟨i8, o8, rfl, hi6⟩ := Zcc hi5
  obtain ⟨_, _, rfl, hi7⟩ := Zac hi6
  obtain ⟨a26, n26, c26, e26, rfl, hi8⟩ := Zbi hi7
  obtain ⟨_, _, rfl, hi9⟩ := Zac hi8
  obtain ⟨x27, rfl, hi10⟩ := Zat hi9
  obtain ⟨_, _, rfl, hi11⟩ := Zac hi10
  obtain ⟨x28, rfl, hi12⟩ := Zat hi11
  obtain ⟨rfl, hi13⟩ := Zbq hi12
  have hi := hi13
  exact ⟨i6, o6, i8, o8, a26, n26, c26, e26, x27, x28, rfl, hi⟩
def K0 (Q : QT) : KT := andThen (fun env' h' => (match kp.find 4000010 with | some ks => Den pg fn.ntmps (C [1, 1, 1, 1, 1]) (env'.keep ks) h' (KR Q) | none => den pg fn.ntmps kp (C [1, 1, 1, 1, 1]) env' h' (KR Q))) (KR Q)
def K1 (Q : QT) : KT := Zct 0 (K0 Q)
def K2 (Q : QT) : KT := Zij kp 6 (K1 Q)
def K3 (Q : QT) (R6 : T6) : KT := rnd ((kp.find 1000006).getD []) (E6 R6) (K2 Q)
def J4 (Q : QT) (a0 : Pt) (n0 c0 : Nat) (e0 : Bool) (i6 o6 : Nat) (h : Zaa) : Prop := Den pg fn.ntmps (C [1, 1, 1]) [(0, .slice a0 n0 c0 e0), (6, .ptr (some (i6, o6)))] h (KR Q)
def L6 (Q : QT) (i6 o6 i8 o8 : Nat) (a26 : Pt) (n26 c26 : Nat) (e26 : Bool) (x27 x28 : Int) (h : Zaa) : Prop := Zes (Den pg fn.ntmps (C [1, 1, 1, 1, 0, 1, 0, 0])) ((kp.find 1000006).getD []) (K2 Q) [(6, .ptr (some (i6, o6))), (8, .ptr (some (i8, o8))), (26, .slice a26 n26 c26 e26), (27, .int .i64 x27), (28, .int .i64 x28)] h
def Yfv (Q : QT) (i8 o8 i6 o6 : Nat) (h : Zaa) : Prop := At (K1 Q) (.exit 0) [(8, .ptr (some (i8, o8))), (6, .ptr (some (i6, o6)))] h
theorem J4i (Q : QT) (a0 : Pt) (n0 c0 : Nat) (e0 : Bool) (i6 o6 : Nat) (h : Zaa) (ht :
 Zck (h ++ [.cells Zfl [.int .u8 0, .slice none 0 0 true, .int .u8 0, .slice none 0 0 true, .int .u8 0, .slice none 0 0 true, .int .u8 0, .slice none 0 0 true, .int .u8 0, .slice none 0 0 true, .int .u8 0, .slice none 0 0 true, .int .u8 0, .slice none 0 0 true, .int .u8 0, .slice none 0 0 true, .int .u8 0, .slice none 0 0 true, .int .u8 0, .slice none 0 0 true, .int .u8 0, .slice none 0 0 true, .int .u8 0, .slice none 0 0 true] false]) fun H23 => L6 Q i6 o6 h.length 0 a0 n0 c0 e0 (((n0 : Nat) : Int)) 0 H23) : J4 Q a0 n0 c0 e0 i6 o6 h :=
  Zbe (kp := kp) (cast (by kernel_rfl) ht)
def L6t (Q : QT) (R6 : T6) (i6 o6 i8 o8 : Nat) (a26 : Pt) (n26 c26 : Nat) (e26 : Bool) (x27 x28 : Int) (h : Zaa) : Prop :=
 bcase (decide ((x28 : Int) < x27)) ((0 ≤ (x28 : Int) ∧ (x28 : Int) < (n26 : Nat)) ∧ (Zbf a26 fun I24 O25 => Zce (Zaw h (.ptr (some (I24, O25 + (Int.toNat x28) * 2))) 2) fun K26 => Zad K26 fun C27 Z28 => Zaz (some C27) fun S29 => Zad Z28 fun C30 Z31 => Zaz (some C30) fun S32 => Zbl Z31 (Zck (h ++ [.cells Zbh [.str [], .str []] false]) fun H33 => Zbw (Zbc H33 (.ptr (some (h.length, 0))) [.str S29, .str S32]) fun H34 => Zaz (Zae H34 (.ptr (some (h.length, 0 + 0)))) fun S35 => Zlq S35 0 fun B36 => Zaz (Zae H34 (.ptr (some (h.length, 0 + 1)))) fun S37 => Zag pg Zis [.int .u8 (((B36 : Nat) : Int))] H34 fun V38 H39 =>
 Zem .i64 (some V38) fun X40 => (Zae H39 (.ptr (some (h.length, 0 + 1))) = Zae H34 (.ptr (some (h.length, 0 + 1)))) ∧ (Zae H39 (.ptr (some (h.length, 0 + 0))) = Zae H34 (.ptr (some (h.length, 0 + 0)))) ∧ Zag pg Zgp [.str S37] H39 fun V41 H42 =>
 Zjg V41 fun K43 => Zad K43 fun C44 Z45 => Zic C44 fun K46 => Zad K46 fun C47 Z48 => Zem .u8 (some C47) fun X49 => Zad Z48 fun C50 Z51 => xSl (some C50) fun A52 N53 C54 E55 => Zbl Z51 (Zad Z45 fun C56 Z57 => Zbr (some C56) fun B58 => Zbl Z57 ((Zae H42 (.ptr (some (h.length, 0 + 0))) = Zae H39 (.ptr (some (h.length, 0 + 0)))) ∧ (0 ≤ (X40 : Int) ∧ (X40 : Int) < (12 : Nat)) ∧ (Zbw (Zbc H42 (.ptr (some (i8, o8 + (Int.toNat X40) * 2))) [.int .u8 X49, .slice A52 N53 C54 E55]) fun H59 => R6 i6 o6 i8 o8 a26 n26 c26 e26 x27 (IntKind.wrap .i64 (x28 + 1)) H59)))))) (Yfv Q i8 o8 i6 o6 h)
theorem Yag (Q : QT) (R6 : T6) (i6 o6 i8 o8 : Nat) (a26 : Pt) (n26 c26 : Nat) (e26 : Bool) (x27 x28 : Int) (h : Zaa) (ht : L6t Q R6 i6 o6 i8 o8 a26 n26 c26 e26 x27 x28 h) : Den pg fn.ntmps (C [1, 1, 1, 1, 0, 1, 0, 0]) [(6, .ptr (some (i6, o6))), (8, .ptr (some (i8, o8))), (26, .slice a26 n26 c26 e26), (27, .int .i64 x27), (28, .int .i64 x28)] h (K3 Q R6) :=
  Zbe (kp := kp) (cast (by kernel_rfl) ht)
theorem L6ind (Q : QT) (i6 o6 i8 o8 : Nat) (a26 : Pt) (n26 c26 : Nat) (e26 : Bool) (x27 : Int) {G : Type} (J : G → Int → Zaa → Prop) (m : G → Nat)
 (hr : ∀ (g : G) (x28 : Int) (h : Zaa), J g x28 h → ∀ (R6 : T6), (∀ g' (x28 : Int) (h : Zaa), m g' < m g → J g' x28 h → R6 i6 o6 i8 o8 a26 n26 c26 e26 x27 x28 h) → L6t Q R6 i6 o6 i8 o8 a26 n26 c26 e26 x27 x28 h)
 (g : G) (x28 : Int) (h : Zaa) (hj : J g x28 h) : L6 Q i6 o6 i8 o8 a26 n26 c26 e26 x27 x28 h := by
  refine Zes.inv2 (fun g => E6 fun i6' o6' i8' o8' a26' n26' c26' e26' x27' x28 h => i6 = i6' ∧ o6 = o6' ∧ i8 = i8' ∧ o8 = o8' ∧ a26 = a26' ∧ n26 = n26' ∧ c26 = c26' ∧ e26 = e26' ∧ x27 = x27' ∧ J g x28 h) (fun g => E6 fun i6' o6' i8' o8' a26' n26' c26' e26' x27' x28 h => i6 = i6' ∧ o6 = o6' ∧ i8 = i8' ∧ o8 = o8' ∧ a26 = a26' ∧ n26 = n26' ∧ c26 = c26' ∧ e26 = e26' ∧ x27 = x27' ∧ ∃ g', m g' < m g ∧ J g' x28 h) m ?_ ?_ g ⟨rfl, rfl, rfl, rfl, rfl, rfl, rfl, rfl, rfl, hj⟩
  · intro g env h hi
    obtain ⟨i6', o6', i8', o8', a26', n26', c26', e26', x27', x28, rfl, rfl, rfl, rfl, rfl, rfl, rfl, rfl, rfl, rfl, hj⟩ := Zmz hi
    exact Yag Q _ i6 o6 i8 o8 a26 n26 c26 e26 x27 x28 h (hr g x28 h hj (fun i6' o6' i8' o8' a26' n26' c26' e26' x27' x28 h => i6 = i6' ∧ o6 = o6' ∧ i8 = i8' ∧ o8 = o8' ∧ a26 = a26' ∧ n26 = n26' ∧ c26 = c26' ∧ e26 = e26' ∧ x27 = x27' ∧ ∃ g', m g' < m g ∧ J g' x28 h) fun g' x28 h hlt hj => ⟨rfl, rfl, rfl, rfl, rfl, rfl, rfl, rfl, rfl, g', hlt, hj⟩)
  · intro g env h hi
    obtain ⟨i6', o6', i8', o8', a26', n26', c26', e26', x27', x28, rfl, rfl, rfl, rfl, rfl, rfl, rfl, rfl, rfl, rfl, g', hlt, hj⟩ := Zmz hi
    exact ⟨g', hlt, rfl, rfl, rfl, rfl, rfl, rfl, rfl, rfl, rfl, hj⟩
theorem A6x0i (Q : QT) (i8 o8 i6 o6 : Nat) (h : Zaa) (ht :
 Zce (Zaw h (.ptr (some (i6, o6))) 2) fun K60 => Zad K60 fun C61 Z62 => Zem .u8 (some C61) fun X63 => Zad Z62 fun C64 Z65 => xSl (some C64) fun A66 N67 C68 E69 => Zbl Z65 (Zag pg Zmw [.ptr (some (i8, o8)), .agg [.int .u8 X63, .slice A66 N67 C68 E69]] h fun V70 H71 =>
 Zic V70 fun K72 => Zad K72 fun C73 Z74 => Zem .u8 (some C73) fun X75 => Zad Z74 fun C76 Z77 => xSl (some C76) fun A78 N79 C80 E81 => Zbl Z77 (Zck (H71 ++ [.cells Zaf [.int .u8 0, .slice none 0 0 true] false]) fun H82 => Zbw (Zbc H82 (.ptr (some (H71.length, 0))) [.int .u8 X75, .slice A78 N79 C80 E81]) fun H83 => Zce (Zaw H83 (.ptr (some (H71.length, 0))) 2) fun K84 => Zad K84 fun C85 Z86 => Zem .u8 (some C85) fun X87 => Zad Z86 fun C88 Z89 => xSl (some C88) fun A90 N91 C92 E93 => Zbl Z89 (Zag pg Zhf [.agg [.int .u8 X87, .slice A90 N91 C92 E93]] H83 fun V94 H95 =>
 Zem .i64 (some V94) fun X96 => bcase (decide ((X96 : Int) > 60)) (Q (.tup [.str [], .bool false]) H95) (Zce (Zaw H95 (.ptr (some (H71.length, 0))) 2) fun K97 => Zad K97 fun C98 Z99 => Zem .u8 (some C98) fun X100 => Zad Z99 fun C101 Z102 => xSl (some C101) fun A103 N104 C105 E106 => Zbl Z102 (Zag pg Zgl [.agg [.int .u8 X100, .slice A103 N104 C105 E106]] H95 fun V107 H108 =>
 Zaz (some V107) fun S109 => Q (.tup [.str S109, .bool true]) H108)))))) : Yfv Q i8 o8 i6 o6 h :=
  At.mk (cast (by kernel_rfl) ht)
theorem call (a0 : Pt) (n0 c0 : Nat) (e0 : Bool) (x1 : List Nat) (h : Zaa) (Q : QT) (ht :
 Zag pg Zgp [.str x1] h fun V0 H1 =>
 Zjg V0 fun K2 => Zad K2 fun C3 Z4 => Zic C3 fun K5 => Zad K5 fun C6 Z7 => Zem .u8 (some C6) fun X8 => Zad Z7 fun C9 Z10 => xSl (some C9) fun A11 N12 C13 E14 => Zbl Z10 (Zad Z4 fun C15 Z16 => Zbr (some C15) fun B17 => Zbl Z16 (Zck (H1 ++ [.cells Zaf [.int .u8 0, .slice none 0 0 true] false]) fun H18 => Zbw (Zbc H18 (.ptr (some (H1.length, 0))) [.int .u8 X8, .slice A11 N12 C13 E14]) fun H19 => bcase (!B17) (Q (.tup [.str [], .bool false]) H19) (Zag pg Zii [.slice a0 n0 c0 e0] H19 fun V20 H21 =>
 Zbr (some V20) fun B22 => bcase (!B22) (Q (.tup [.str [], .bool false]) H21) (J4 Q a0 n0 c0 e0 H1.length 0 H21))))) : Zag pg Zid [.slice a0 n0 c0 e0, .str x1] h Q :=
  Zag.of_body kp (c := cod fn) (fn := fn) Go.Proofs.Tryz.func120 (by kernel_rfl) (by kernel_rfl) (Nat.le_of_ble_eq_true (by kernel_rfl))
    (cast (by kernel_rfl) ht)
end Zek
namespace Zip
noncomputable abbrev fn : Func := Go.Proofs.Tryz.f86
def kp : Zcf := [(3000006, [6, 4, 5]), (1000006, [6, 7, 26, 27, 28])]
noncomputable def C (p : List Nat) : Code := (cod fn).sub p
def KR (Q : QT) : KT := Zfc pg fn.results.toList Q
abbrev T6 := Pt → Nat → Nat → Bool → Pt → Nat → Nat → Bool → Pt → Nat → Nat → Bool → Int → Int → Zaa → Prop
def E6 (R6 : T6) (env : Env) (h : Zaa) : Prop := Zca 6 env fun v env => xSl (some v) fun a6 n6 c6 e6 => Zca 7 env fun v env => xSl (some v) fun a7 n7 c7 e7 => Zca 26 env fun v env => xSl (some v) fun a26 n26 c26 e26 => Zca 27 env fun v env => Zep .i64 v fun x27 => Zca 28 env fun v env => Zep .i64 v fun x28 => Zlf env (R6 a6 n6 c6 e6 a7 n7 c7 e7 a26 n26 c26 e26 x27 x28 h)
theorem Zmz {R6 : T6} {env : Env} {h : Zaa} (hi : E6 R6 env h) : ∃ a6, ∃ n6, ∃ c6, ∃ e6, ∃ a7, ∃ n7, ∃ c7, ∃ e7, ∃ a26, ∃ n26, ∃ c26, ∃ e26, ∃ x27, ∃ x28, env = [(6, .slice a6 n6 c6 e6), (7, .slice a7 n7 c7 e7), (26, .slice a26 n26 c26 e26), (27, .int .i64 x27), (28, .int .i64 x28)] ∧ R6 a6 n6 c6 e6 a7 n7 c7 e7 a26 n26 c26 e26 x27 x28 h := by
  unfold E6 at hi
  have hi0 := hi
  clear hi
  obtain ⟨_, _, rfl, hi1⟩ := Zac hi0
  obtain ⟨a6, n6, c6, e6, rfl, hi2⟩ := Zbi hi1
  obtain ⟨_, _, rfl, hi3⟩ := Zac hi2
  obtain ⟨a7, n7, c7, e7, rfl, hi4⟩ := Zbi hi3
  obtain ⟨_, _, rfl, hi5⟩ := Zac hi4
  obtain ⟨a26, n26, c26, e26, rfl, hi6⟩ := Zbi hi5
  obtain ⟨_, _, rfl, hi7⟩ := Zac hi6
  obtain ⟨x27, rfl, hi8⟩ := Zat hi7
  obtain ⟨_, _, rfl, hi9⟩ := Zac hi8
  obtain ⟨x28, rfl, hi10⟩ := Zat hi9
  obtain ⟨rfl, hi11⟩ := Zbq hi10
  have hi := hi11
  exact ⟨a6, n6, c6, e6, a7, n7, c7, e7, a26, n26, c26, e26, x27, x28, rfl, hi⟩
def K0 (Q : QT) : KT := andThen (fun env' h' => (match kp.find 4000013 with | some ks => Den pg fn.ntmps (C [1, 1, 1, 1, 1]) (env'.keep ks) h' (KR Q) | none => den pg fn.ntmps kp (C [1, 1, 1, 1, 1]) env' h' (KR Q))) (KR Q)
def K1 (Q : QT) : KT := Zct 0 (K0 Q)
def K2 (Q : QT) : KT := Zij kp 6 (K1 Q)
def K3 (Q : QT) (R6 : T6) : KT := rnd ((kp.find 1000006).getD []) (E6 R6) (K2 Q)
def L6 (Q : QT) (a6 : Pt) (n6 c6 : Nat) (e6 : Bool) (a7 : Pt) (n7 c7 : Nat) (e7 : Bool) (a26 : Pt) (n26 c26 : Nat) (e26 : Bool) (x27 x28 : Int) (h : Zaa) : Prop := Zes (Den pg fn.ntmps (C [1, 1, 1, 1, 0, 1, 0, 0])) ((kp.find 1000006).getD []) (K2 Q) [(6, .slice a6 n6 c6 e6), (7, .slice a7 n7 c7 e7), (26, .slice a26 n26 c26 e26), (27, .int .i64 x27), (28, .int .i64 x28)] h
def Yfv (Q : QT) (a6 : Pt) (n6 c6 : Nat) (e6 : Bool) (h : Zaa) : Prop := At (K1 Q) (.exit 0) [(6, .slice a6 n6 c6 e6), (4, .undef), (5, .undef)] h
def L6t (Q : QT) (R6 : T6) (a6 : Pt) (n6 c6 : Nat) (e6 : Bool) (a7 : Pt) (n7 c7 : Nat) (e7 : Bool) (a26 : Pt) (n26 c26 : Nat) (e26 : Bool) (x27 x28 : Int) (h : Zaa) : Prop :=
 bcase (decide ((x28 : Int) < x27)) ((0 ≤ (x28 : Int) ∧ (x28 : Int) < (n26 : Nat)) ∧ (Zbf a26 fun I19 O20 => Zce (Zaw h (.ptr (some (I19, O20 + (Int.toNat x28) * 2))) 2) fun K21 => Zad K21 fun C22 Z23 => Zaz (some C22) fun S24 => Zad Z23 fun C25 Z26 => Zaz (some C25) fun S27 => Zbl Z26 (Zck (h ++ [.cells Zab [.str [], .str []] false]) fun H28 => Zbw (Zbc H28 (.ptr (some (h.length, 0))) [.str S24, .str S27]) fun H29 => Zaz (Zae H29 (.ptr (some (h.length, 0 + 1)))) fun S30 => Zag pg Zid [.slice a7 n7 c7 e7, .str S30] H29 fun V31 H32 =>
 Zjg V31 fun K33 => Zad K33 fun C34 Z35 => Zaz (some C34) fun S36 => Zad Z35 fun C37 Z38 => Zbr (some C37) fun B39 => Zbl Z38 (bcase (!B39) (Zck (H32 ++ [.cells Zab [] false]) fun H40 => Q (.tup [.slice (some (H32.length, 0)) 0 0 true, .bool false]) H40) (Zaz (Zae H32 (.ptr (some (h.length, 0 + 0)))) fun S41 => Zck (H32 ++ [.cells Zab [.str S41, .str S36] false]) fun H42 => Zcs pg Zbm H42 (.slice a6 n6 c6 e6) (.slice (some (H32.length, 0)) 1 1 true) fun V43 H44 => xSl (some V43) fun A45 N46 C47 E48 => R6 A45 N46 C47 E48 a7 n7 c7 e7 a26 n26 c26 e26 x27 (IntKind.wrap .i64 (x28 + 1)) H44))))) (Yfv Q a6 n6 c6 e6 h)
theorem Yag (Q : QT) (R6 : T6) (a6 : Pt) (n6 c6 : Nat) (e6 : Bool) (a7 : Pt) (n7 c7 : Nat) (e7 : Bool) (a26 : Pt) (n26 c26 : Nat) (e26 : Bool) (x27 x28 : Int) (h : Zaa) (ht : L6t Q R6 a6 n6 c6 e6 a7 n7 c7 e7 a26 n26 c26 e26 x27 x28 h) : Den pg fn.ntmps (C [1, 1, 1, 1, 0, 1, 0, 0]) [(6, .slice a6 n6 c6 e6), (7, .slice a7 n7 c7 e7), (26, .slice a26 n26 c26 e26), (27, .int .i64 x27), (28, .int .i64 x28)] h (K3 Q R6) :=
  Zbe (kp := kp) (cast (by kernel_rfl) ht)
theorem L6ind (Q : QT) (a7 : Pt) (n7 c7 : Nat) (e7 : Bool) (a26 : Pt) (n26 c26 : Nat) (e26 : Bool) (x27 : Int) {G : Type} (J : G → Pt → Nat → Nat → Bool → Int → Zaa → Prop) (m : G → Nat)
 (hr : ∀ (g : G) (a6 : Pt) (n6 c6 : Nat) (e6 : Bool) (x28 : Int) (h : Zaa), J g a6 n6 c6 e6 x28 h → ∀ (R6 : T6), (∀ g' (a6 : Pt) (n6 c6 : Nat) (e6 : Bool) (x28 : Int) (h : Zaa), m g' < m g → J g' a6 n6 c6 e6 x28 h → R6 a6 n6 c6 e6 a7 n7 c7 e7 a26 n26 c26 e26 x27 x28 h) → L6t Q R6 a6 n6 c6 e6 a7 n7 c7 e7 a26 n26 c26 e26 x27 x28 h)
 (g : G) (a6 : Pt) (n6 c6 : Nat) (e6 : Bool) (x28 : Int) (h : Zaa) (hj : J g a6 n6 c6 e6 x28 h) : L6 Q a6 n6 c6 e6 a7 n7 c7 e7 a26 n26 c26 e26 x27 x28 h := by
  refine Zes.inv2 (fun g => E6 fun a6 n6 c6 e6 a7' n7' c7' e7' a26' n26' c26' e26' x27' x28 h => a7 = a7' ∧ n7 = n7' ∧ c7 = c7' ∧ e7 = e7' ∧ a26 = a26' ∧ n26 = n26' ∧ c26 = c26' ∧ e26 = e26' ∧ x27 = x27' ∧ J g a6 n6 c6 e6 x28 h) (fun g => E6 fun a6 n6 c6 e6 a7' n7' c7' e7' a26' n26' c26' e26' x27' x28 h => a7 = a7' ∧ n7 = n7' ∧ c7 = c7' ∧ e7 = e7' ∧ a26 = a26' ∧ n26 = n26' ∧ c26 = c26' ∧ e26 = e26' ∧ x27 = x27' ∧ ∃ g', m g' < m g ∧ J g' a6 n6 c6 e6 x28 h) m ?_ ?_ g ⟨rfl, rfl, rfl, rfl, rfl, rfl, rfl, rfl, rfl, hj⟩
  · intro g env h hi
    obtain ⟨a6, n6, c6, e6, a7', n7', c7', e7', a26', n26', c26', e26', x27', x28, rfl, rfl, rfl, rfl, rfl, rfl, rfl, rfl, rfl, rfl, hj⟩ := Zmz hi
    exact Yag Q _ a6 n6 c6 e6 a7 n7 c7 e7 a26 n26 c26 e26 x27 x28 h (hr g a6 n6 c6 e6 x28 h hj (fun a6 n6 c6 e6 a7' n7' c7' e7' a26' n26' c26' e26' x27' x28 h => a7 = a7' ∧ n7 = n7' ∧ c7 = c7' ∧ e7 = e7' ∧ a26 = a26' ∧ n26 = n26' ∧ c26 = c26' ∧ e26 = e26' ∧ x27 = x27' ∧ ∃ g', m g' < m g ∧ J g' a6 n6 c6 e6 x28 h) fun g' a6 n6 c6 e6 x28 h hlt hj => ⟨rfl, rfl, rfl, rfl, rfl, rfl, rfl, rfl, rfl, g', hlt, hj⟩)
  · intro g env h hi
    obtain ⟨a6, n6, c6, e6, a7', n7', c7', e7', a26', n26', c26', e26', x27', x28, rfl, rfl, rfl, rfl, rfl, rfl, rfl, rfl, rfl, rfl, g', hlt, hj⟩ := Zmz hi
    exact ⟨g', hlt, rfl, rfl, rfl, rfl, rfl, rfl, rfl, rfl, rfl, hj⟩
theorem A6x0i (Q : QT) (a6 : Pt) (n6 c6 : Nat) (e6 : Bool) (h : Zaa) (ht :
 Q (.tup [.slice a6 n6 c6 e6, .bool true]) h) : Yfv Q a6 n6 c6 e6 h :=
  At.mk (cast (by kernel_rfl) ht)
theorem call (x0x0 x0x1 : List Nat) (a0x2 : Pt) (n0x2 c0x2 : Nat) (e0x2 : Bool) (x1 : List Nat) (h : Zaa) (Q : QT) (ht :
 Zck (h ++ [.cells Zao [.str x0x0, .str x0x1, .slice a0x2 n0x2 c0x2 e0x2] false]) fun H0 => Zck (H0 ++ [.cells Zab [] false]) fun H1 => Zaz (Zae H1 (.ptr (some (h.length, 0 + 0 + 1)))) fun S2 => Zag pg Ziz [.str S2, .str x1] H1 fun V3 H4 =>
 Zjg V3 fun K5 => Zad K5 fun C6 Z7 => xSl (some C6) fun A8 N9 C10 E11 => Zad Z7 fun C12 Z13 => Zbr (some C12) fun B14 => Zbl Z13 (bcase (!B14) (Q (.tup [.slice (some (H0.length, 0)) 0 0 true, .bool false]) H4) (xSl (Zae H4 (.ptr (some (h.length, 0 + 2)))) fun A15 N16 C17 E18 => L6 Q (some (H0.length, 0)) 0 0 true A8 N9 C10 E11 A15 N16 C17 E18 (((N16 : Nat) : Int)) 0 H4))) : Zag pg Zgz [.agg [.str x0x0, .str x0x1, .slice a0x2 n0x2 c0x2 e0x2], .str x1] h Q :=
  Zag.of_body kp (c := cod fn) (fn := fn) Go.Proofs.Tryz.func86 (by kernel_rfl) (by kernel_rfl) (Nat.le_of_ble_eq_true (by kernel_rfl))
    (cast (by kernel_rfl) ht)
end Zip
end Go.Sim
