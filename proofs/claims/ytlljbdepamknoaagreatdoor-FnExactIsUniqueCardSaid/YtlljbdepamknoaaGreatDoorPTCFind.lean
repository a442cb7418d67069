/- A part of the proof of a statement of this seat: see the text that holds the theorem. No condition. -/
import Derived.Test.YtlljbdepamknoaaGreatDoorNm
set_option linter.unusedVariables false
set_option linter.unusedSimpArgs false
set_option linter.all false
set_option maxRecDepth 100000
set_option linter.unusedVariables false
namespace Go.Sim
open Go Go.RowKit
namespace Zfv
noncomputable abbrev fn : Func := Go.Proofs.Tryz.f83
def kp : Zcd := [(3000006, [0, 3]), (1000006, [0, 3])]
noncomputable def C (p : List Nat) : Code := (cod fn).sub p
def KR (Q : QT) : KT := Zem pg fn.results.toList Q
abbrev T6 := Int → List Nat → Zaa → Prop
def E6 (R6 : T6) (env : Env) (h : Zaa) : Prop := Zbj 0 env fun v env => Zda .i64 v fun x0 => Zbj 3 env fun v env => Zbp (some v) fun x3 => Ziw env (R6 x0 x3 h)
theorem Zke {R6 : T6} {env : Env} {h : Zaa} (hi : E6 R6 env h) : ∃ x0, ∃ x3, env = [(0, .int .i64 x0), (3, .str x3)] ∧ R6 x0 x3 h := by
 unfold E6 at hi
 have hi0 := hi
 clear hi
 obtain ⟨_, _, rfl, hi1⟩ := Zab hi0
 obtain ⟨x0, rfl, hi2⟩ := Zak hi1
 obtain ⟨_, _, rfl, hi3⟩ := Zab hi2
 obtain ⟨x3, rfl, hi4⟩ := Zdw hi3
 obtain ⟨rfl, hi5⟩ := Zbk hi4
 have hi := hi5
 exact ⟨x0, x3, rfl, hi⟩
def K0 (Q : QT) : KT := andThen (fun env' h' => (match kp.find 4000009 with | some ks => Den pg fn.ntmps (C [1, 1, 1, 1, 1]) (env'.keep ks) h' (KR Q) | none => den pg fn.ntmps kp (C [1, 1, 1, 1, 1]) env' h' (KR Q))) (KR Q)
def K1 (Q : QT) : KT := Zcg 0 (K0 Q)
def K2 (Q : QT) : KT := Zgf kp 6 (K1 Q)
def K3 (Q : QT) (R6 : T6) : KT := rnd ((kp.find 1000006).getD []) (E6 R6) (K2 Q)
def L6 (Q : QT) (x0 : Int) (x3 : List Nat) (h : Zaa) : Prop := Zdz (Den pg fn.ntmps (C [1, 1, 1, 1, 0, 0, 0])) ((kp.find 1000006).getD []) (K2 Q) [(0, .int .i64 x0), (3, .str x3)] h
def Ybo (Q : QT) (x0 : Int) (x3 : List Nat) (h : Zaa) : Prop := At (K1 Q) (.exit 0) [(0, .int .i64 x0), (3, .str x3)] h
def L6t (Q : QT) (R6 : T6) (x0 : Int) (x3 : List Nat) (h : Zaa) : Prop :=
 bcase (decide ((x0 : Int) > 9)) ((10 : Int) ≠ 0 ∧ (Zcn (h ++ [.cells Zyo [.int .u8 (IntKind.wrap .u8 (IntKind.wrap .i64 (48 + (Int.tmod x0 10))))] false]) fun H3 => Zcz (rowOf H3 (some (h.length, 0)) 1) fun K4 => Zlb K4 fun S5 => List.length S5 + List.length x3 ≤ 9223372036854775807 ∧ ((10 : Int) ≠ 0 ∧ (R6 (IntKind.wrap .i64 (Int.tdiv x0 10)) (S5 ++ x3) H3)))) (Ybo Q x0 x3 h)
theorem Zvy (Q : QT) (R6 : T6) (x0 : Int) (x3 : List Nat) (h : Zaa) (ht : L6t Q R6 x0 x3 h) : Den pg fn.ntmps (C [1, 1, 1, 1, 0, 0, 0]) [(0, .int .i64 x0), (3, .str x3)] h (K3 Q R6) :=
 Zbb (kp := kp) (cast (by kernel_rfl) ht)
theorem L6ind (Q : QT) {G : Type} (J : G → Int → List Nat → Zaa → Prop) (m : G → Nat)
 (hr : ∀ (g : G) (x0 : Int) (x3 : List Nat) (h : Zaa), J g x0 x3 h → ∀ (R6 : T6), (∀ g' (x0 : Int) (x3 : List Nat) (h : Zaa), m g' < m g → J g' x0 x3 h → R6 x0 x3 h) → L6t Q R6 x0 x3 h)
 (g : G) (x0 : Int) (x3 : List Nat) (h : Zaa) (hj : J g x0 x3 h) : L6 Q x0 x3 h := by
 refine Zdz.inv2 (fun g => E6 fun x0 x3 h => J g x0 x3 h) (fun g => E6 fun x0 x3 h => ∃ g', m g' < m g ∧ J g' x0 x3 h) m ?_ ?_ g hj
 ·intro g env h hi
  obtain ⟨x0, x3, rfl, hj⟩ := Zke hi
  exact Zvy Q _ x0 x3 h (hr g x0 x3 h hj (fun x0 x3 h => ∃ g', m g' < m g ∧ J g' x0 x3 h) fun g' x0 x3 h hlt hj => ⟨g', hlt, hj⟩)
 ·intro g env h hi
  obtain ⟨x0, x3, rfl, g', hlt, hj⟩ := Zke hi
  exact ⟨g', hlt, hj⟩
theorem A6x0i (Q : QT) (x0 : Int) (x3 : List Nat) (h : Zaa) (ht :
 Zcn (h ++ [.cells Zyo [.int .u8 (IntKind.wrap .u8 (IntKind.wrap .i64 (48 + x0)))] false]) fun H6 => Zcz (rowOf H6 (some (h.length, 0)) 1) fun K7 => Zlb K7 fun S8 => List.length S8 + List.length x3 ≤ 9223372036854775807 ∧ (Q (.str (S8 ++ x3)) H6)) : Ybo Q x0 x3 h :=
 At.mk (cast (by kernel_rfl) ht)
theorem call (x0 : Int) (h : Zaa) (Q : QT) (ht :
 bcase (decide ((x0 : Int) < (-9223372036854775807))) (Q (.str ([45, 57, 50, 50, 51, 51, 55, 50, 48, 51, 54, 56, 53, 52, 55, 55, 53, 56, 48, 56])) h) (bcase (decide ((x0 : Int) < 0)) (Zae pg Zgu [.int .i64 (IntKind.wrap .i64 (0 - x0))] h fun V0 H1 =>
 Zbp (some V0) fun S2 => List.length [45] + List.length S2 ≤ 9223372036854775807 ∧ (Q (.str ([45] ++ S2)) H1)) (L6 Q x0 [] h))) : Zae pg Zgu [.int .i64 x0] h Q :=
 Zae.of_body kp (c := cod fn) (fn := fn) Go.Proofs.Tryz.func83 (by kernel_rfl) (by kernel_rfl) (Nat.le_of_ble_eq_true (by kernel_rfl))
  (cast (by kernel_rfl) ht)
end Zfv
end Go.Sim

set_option maxRecDepth 100000
set_option linter.unusedVariables false
namespace Go.Sim
open Go Go.RowKit
end Go.Sim

set_option maxRecDepth 100000
set_option linter.unusedVariables false
namespace Go.Sim
open Go Go.RowKit
namespace Zho
noncomputable abbrev fn : Func := Go.Proofs.Tryz.f87
def kp : Zcd := [(3000003, [3]), (1000003, [0, 3, 4])]
noncomputable def C (p : List Nat) : Code := (cod fn).sub p
def KR (Q : QT) : KT := Zem pg fn.results.toList Q
abbrev T3 := Pt → Nat → Nat → Bool → Pt → Nat → Nat → Bool → Int → Zaa → Prop
def E3 (R3 : T3) (env : Env) (h : Zaa) : Prop := Zbj 0 env fun v env => xSl (some v) fun a0 n0 c0 e0 => Zbj 3 env fun v env => xSl (some v) fun a3 n3 c3 e3 => Zbj 4 env fun v env => Zda .i64 v fun x4 => Ziw env (R3 a0 n0 c0 e0 a3 n3 c3 e3 x4 h)
theorem Zej {R3 : T3} {env : Env} {h : Zaa} (hi : E3 R3 env h) : ∃ a0, ∃ n0, ∃ c0, ∃ e0, ∃ a3, ∃ n3, ∃ c3, ∃ e3, ∃ x4, env = [(0, .slice a0 n0 c0 e0), (3, .slice a3 n3 c3 e3), (4, .int .i64 x4)] ∧ R3 a0 n0 c0 e0 a3 n3 c3 e3 x4 h := by
 unfold E3 at hi
 have hi0 := hi
 clear hi
 obtain ⟨_, _, rfl, hi1⟩ := Zab hi0
 obtain ⟨a0, n0, c0, e0, rfl, hi2⟩ := Zax hi1
 obtain ⟨_, _, rfl, hi3⟩ := Zab hi2
 obtain ⟨a3, n3, c3, e3, rfl, hi4⟩ := Zax hi3
 obtain ⟨_, _, rfl, hi5⟩ := Zab hi4
 obtain ⟨x4, rfl, hi6⟩ := Zak hi5
 obtain ⟨rfl, hi7⟩ := Zbk hi6
 have hi := hi7
 exact ⟨a0, n0, c0, e0, a3, n3, c3, e3, x4, rfl, hi⟩
def K0 (Q : QT) : KT := andThen (fun env' h' => (match kp.find 4000006 with | some ks => Den pg fn.ntmps (C [1, 1, 1]) (env'.keep ks) h' (KR Q) | none => den pg fn.ntmps kp (C [1, 1, 1]) env' h' (KR Q))) (KR Q)
def K1 (Q : QT) : KT := Zcg 0 (K0 Q)
def K2 (Q : QT) : KT := Zgf kp 3 (K1 Q)
def K3 (Q : QT) (R3 : T3) : KT := rnd ((kp.find 1000003).getD []) (E3 R3) (K2 Q)
def L3 (Q : QT) (a0 : Pt) (n0 c0 : Nat) (e0 : Bool) (a3 : Pt) (n3 c3 : Nat) (e3 : Bool) (x4 : Int) (h : Zaa) : Prop := Zdz (Den pg fn.ntmps (C [1, 1, 0, 1, 0, 0])) ((kp.find 1000003).getD []) (K2 Q) [(0, .slice a0 n0 c0 e0), (3, .slice a3 n3 c3 e3), (4, .int .i64 x4)] h
def Zpf (Q : QT) (a3 : Pt) (n3 c3 : Nat) (e3 : Bool) (h : Zaa) : Prop := At (K1 Q) (.exit 0) [(3, .slice a3 n3 c3 e3)] h
def L3t (Q : QT) (R3 : T3) (a0 : Pt) (n0 c0 : Nat) (e0 : Bool) (a3 : Pt) (n3 c3 : Nat) (e3 : Bool) (x4 : Int) (h : Zaa) : Prop :=
 bcase (decide ((x4 : Int) < (((n0 : Nat) : Int)))) ((0 ≤ (x4 : Int) ∧ (x4 : Int) < (n0 : Nat)) ∧ (Zbl a0 fun I1 O2 => Zcz (Zbx h (.ptr (some (I1, O2 + (Int.toNat x4) * 2))) 2) fun K3 => Zao K3 fun C4 Z5 => Zbp (some C4) fun S6 => Zao Z5 fun C7 Z8 => Zbp (some C7) fun S9 => Zcl Z8 (Zae pg Zgy [.agg [.str S6, .str S9]] h fun V10 H11 =>
 Zue V10 fun K12 => Zao K12 fun C13 Z14 => Zbp (some C13) fun S15 => Zao Z14 fun C16 Z17 => Zbp (some C16) fun S18 => Zcl Z17 ((0 ≤ (x4 : Int) ∧ (x4 : Int) < (n3 : Nat)) ∧ (Zbl a3 fun I19 O20 => Zcp (Zbn H11 (.ptr (some (I19, O20 + (Int.toNat x4) * 2))) [.str S15, .str S18]) fun H21 => R3 a0 n0 c0 e0 a3 n3 c3 e3 (IntKind.wrap .i64 (x4 + 1)) H21))))) (Zpf Q a3 n3 c3 e3 h)
theorem Zkx (Q : QT) (R3 : T3) (a0 : Pt) (n0 c0 : Nat) (e0 : Bool) (a3 : Pt) (n3 c3 : Nat) (e3 : Bool) (x4 : Int) (h : Zaa) (ht : L3t Q R3 a0 n0 c0 e0 a3 n3 c3 e3 x4 h) : Den pg fn.ntmps (C [1, 1, 0, 1, 0, 0]) [(0, .slice a0 n0 c0 e0), (3, .slice a3 n3 c3 e3), (4, .int .i64 x4)] h (K3 Q R3) :=
 Zbb (kp := kp) (cast (by kernel_rfl) ht)
theorem L3ind (Q : QT) (a0 : Pt) (n0 c0 : Nat) (e0 : Bool) (a3 : Pt) (n3 c3 : Nat) (e3 : Bool) {G : Type} (J : G → Int → Zaa → Prop) (m : G → Nat)
 (hr : ∀ (g : G) (x4 : Int) (h : Zaa), J g x4 h → ∀ (R3 : T3), (∀ g' (x4 : Int) (h : Zaa), m g' < m g → J g' x4 h → R3 a0 n0 c0 e0 a3 n3 c3 e3 x4 h) → L3t Q R3 a0 n0 c0 e0 a3 n3 c3 e3 x4 h)
 (g : G) (x4 : Int) (h : Zaa) (hj : J g x4 h) : L3 Q a0 n0 c0 e0 a3 n3 c3 e3 x4 h := by
 refine Zdz.inv2 (fun g => E3 fun a0' n0' c0' e0' a3' n3' c3' e3' x4 h => a0 = a0' ∧ n0 = n0' ∧ c0 = c0' ∧ e0 = e0' ∧ a3 = a3' ∧ n3 = n3' ∧ c3 = c3' ∧ e3 = e3' ∧ J g x4 h) (fun g => E3 fun a0' n0' c0' e0' a3' n3' c3' e3' x4 h => a0 = a0' ∧ n0 = n0' ∧ c0 = c0' ∧ e0 = e0' ∧ a3 = a3' ∧ n3 = n3' ∧ c3 = c3' ∧ e3 = e3' ∧ ∃ g', m g' < m g ∧ J g' x4 h) m ?_ ?_ g ⟨rfl, rfl, rfl, rfl, rfl, rfl, rfl, rfl, hj⟩
 ·intro g env h hi
  obtain ⟨a0', n0', c0', e0', a3', n3', c3', e3', x4, rfl, rfl, rfl, rfl, rfl, rfl, rfl, rfl, rfl, hj⟩ := Zej hi
  exact Zkx Q _ a0 n0 c0 e0 a3 n3 c3 e3 x4 h (hr g x4 h hj (fun a0' n0' c0' e0' a3' n3' c3' e3' x4 h => a0 = a0' ∧ n0 = n0' ∧ c0 = c0' ∧ e0 = e0' ∧ a3 = a3' ∧ n3 = n3' ∧ c3 = c3' ∧ e3 = e3' ∧ ∃ g', m g' < m g ∧ J g' x4 h) fun g' x4 h hlt hj => ⟨rfl, rfl, rfl, rfl, rfl, rfl, rfl, rfl, g', hlt, hj⟩)
 ·intro g env h hi
  obtain ⟨a0', n0', c0', e0', a3', n3', c3', e3', x4, rfl, rfl, rfl, rfl, rfl, rfl, rfl, rfl, rfl, g', hlt, hj⟩ := Zej hi
  exact ⟨g', hlt, rfl, rfl, rfl, rfl, rfl, rfl, rfl, rfl, hj⟩
theorem A3x0i (Q : QT) (a3 : Pt) (n3 c3 : Nat) (e3 : Bool) (h : Zaa) (ht :
 Q (.slice a3 n3 c3 e3) h) : Zpf Q a3 n3 c3 e3 h :=
 At.mk (cast (by kernel_rfl) ht)
theorem call (a0 : Pt) (n0 c0 : Nat) (e0 : Bool) (h : Zaa) (Q : QT) (ht :
 IntKind.i64 = IntKind.i64 ∧ (IntKind.i64 = IntKind.i64 ∧ ((0 ≤ ((((n0 : Nat) : Int)) : Int) ∧ ((((n0 : Nat) : Int)) : Int) ≤ (((n0 : Nat) : Int)) ∧ ((((n0 : Nat) : Int)) : Int) * (((32 : Nat) : Int) + 1) ≤ 140737488355328) ∧ (Zcn (h ++ [.cells Zad (reps (Int.toNat ((((n0 : Nat) : Int)))) [.str [], .str []]) false]) fun H0 => L3 Q a0 n0 c0 e0 (some (h.length, 0)) (Int.toNat ((((n0 : Nat) : Int)))) (Int.toNat ((((n0 : Nat) : Int)))) true 0 H0)))) : Zae pg Zmh [.slice a0 n0 c0 e0] h Q :=
 Zae.of_body kp (c := cod fn) (fn := fn) Go.Proofs.Tryz.func87 (by kernel_rfl) (by kernel_rfl) (Nat.le_of_ble_eq_true (by kernel_rfl))
  (cast (by kernel_rfl) ht)
end Zho
namespace Zhq
noncomputable abbrev fn : Func := Go.Proofs.Tryz.f97
def kp : Zcd := [(3000004, [4]), (1000004, [0, 1, 5]), (2000006, [26, 5, 0, 1])]
noncomputable def C (p : List Nat) : Code := (cod fn).sub p
def KR (Q : QT) : KT := Zem pg fn.results.toList Q
abbrev T4 := Pt → Nat → Nat → Bool → Pt → Nat → Nat → Bool → Int → Zaa → Prop
def E4 (R4 : T4) (env : Env) (h : Zaa) : Prop := Zbj 0 env fun v env => xSl (some v) fun a0 n0 c0 e0 => Zbj 1 env fun v env => xSl (some v) fun a1 n1 c1 e1 => Zbj 5 env fun v env => Zda .i64 v fun x5 => Ziw env (R4 a0 n0 c0 e0 a1 n1 c1 e1 x5 h)
theorem Zic {R4 : T4} {env : Env} {h : Zaa} (hi : E4 R4 env h) : ∃ a0, ∃ n0, ∃ c0, ∃ e0, ∃ a1, ∃ n1, ∃ c1, ∃ e1, ∃ x5, env = [(0, .slice a0 n0 c0 e0), (1, .slice a1 n1 c1 e1), (5, .int .i64 x5)] ∧ R4 a0 n0 c0 e0 a1 n1 c1 e1 x5 h := by
 unfold E4 at hi
 have hi0 := hi
 clear hi
 obtain ⟨_, _, rfl, hi1⟩ := Zab hi0
 obtain ⟨a0, n0, c0, e0, rfl, hi2⟩ := Zax hi1
 obtain ⟨_, _, rfl, hi3⟩ := Zab hi2
 obtain ⟨a1, n1, c1, e1, rfl, hi4⟩ := Zax hi3
 obtain ⟨_, _, rfl, hi5⟩ := Zab hi4
 obtain ⟨x5, rfl, hi6⟩ := Zak hi5
 obtain ⟨rfl, hi7⟩ := Zbk hi6
 have hi := hi7
 exact ⟨a0, n0, c0, e0, a1, n1, c1, e1, x5, rfl, hi⟩
def K0 (Q : QT) : KT := andThen (fun env' h' => (match kp.find 4000008 with | some ks => Den pg fn.ntmps (C [1, 1, 1]) (env'.keep ks) h' (KR Q) | none => den pg fn.ntmps kp (C [1, 1, 1]) env' h' (KR Q))) (KR Q)
def K1 (Q : QT) : KT := Zcg 0 (K0 Q)
def K2 (Q : QT) : KT := Zgf kp 4 (K1 Q)
def K3 (Q : QT) (R4 : T4) : KT := rnd ((kp.find 1000004).getD []) (E4 R4) (K2 Q)
def L4 (Q : QT) (a0 : Pt) (n0 c0 : Nat) (e0 : Bool) (a1 : Pt) (n1 c1 : Nat) (e1 : Bool) (x5 : Int) (h : Zaa) : Prop := Zdz (Den pg fn.ntmps (C [1, 1, 0, 1, 0, 0])) ((kp.find 1000004).getD []) (K2 Q) [(0, .slice a0 n0 c0 e0), (1, .slice a1 n1 c1 e1), (5, .int .i64 x5)] h
def Zxx (Q : QT) (h : Zaa) : Prop := At (K1 Q) (.exit 0) [(4, .undef)] h
def L4t (Q : QT) (R4 : T4) (a0 : Pt) (n0 c0 : Nat) (e0 : Bool) (a1 : Pt) (n1 c1 : Nat) (e1 : Bool) (x5 : Int) (h : Zaa) : Prop :=
 bcase (decide ((x5 : Int) < (((n0 : Nat) : Int)))) ((0 ≤ (x5 : Int) ∧ (x5 : Int) < (n0 : Nat)) ∧ (Zbl a0 fun I0 O1 => (0 ≤ (x5 : Int) ∧ (x5 : Int) < (n1 : Nat)) ∧ (Zbl a1 fun I2 O3 => Zcz (Zbx h (.ptr (some (I0, O1 + (Int.toNat x5) * 2))) 2) fun K4 => Zao K4 fun C5 Z6 => Zbp (some C5) fun S7 => Zao Z6 fun C8 Z9 => Zbp (some C8) fun S10 => Zcl Z9 (Zcz (Zbx h (.ptr (some (I2, O3 + (Int.toNat x5) * 2))) 2) fun K11 => Zao K11 fun C12 Z13 => Zbp (some C12) fun S14 => Zao Z13 fun C15 Z16 => Zbp (some C15) fun S17 => Zcl Z16 ((Zbx h (.ptr (some (I0, O1 + (Int.toNat x5) * 2))) 2 = Zbx h (.ptr (some (I0, O1 + (Int.toNat x5) * 2))) 2) ∧ Zae pg Zks [.agg [.str S7, .str S10], .agg [.str S14, .str S17]] h fun V18 H19 =>
 Zch (some V18) fun B20 => bcase (!B20) (Q (.bool false) H19) (R4 a0 n0 c0 e0 a1 n1 c1 e1 (IntKind.wrap .i64 (x5 + 1)) H19)))))) (Zxx Q h)
theorem Zsz (Q : QT) (R4 : T4) (a0 : Pt) (n0 c0 : Nat) (e0 : Bool) (a1 : Pt) (n1 c1 : Nat) (e1 : Bool) (x5 : Int) (h : Zaa) (ht : L4t Q R4 a0 n0 c0 e0 a1 n1 c1 e1 x5 h) : Den pg fn.ntmps (C [1, 1, 0, 1, 0, 0]) [(0, .slice a0 n0 c0 e0), (1, .slice a1 n1 c1 e1), (5, .int .i64 x5)] h (K3 Q R4) :=
 Zbb (kp := kp) (cast (by kernel_rfl) ht)
theorem L4ind (Q : QT) (a0 : Pt) (n0 c0 : Nat) (e0 : Bool) (a1 : Pt) (n1 c1 : Nat) (e1 : Bool) {G : Type} (J : G → Int → Zaa → Prop) (m : G → Nat)
 (hr : ∀ (g : G) (x5 : Int) (h : Zaa), J g x5 h → ∀ (R4 : T4), (∀ g' (x5 : Int) (h : Zaa), m g' < m g → J g' x5 h → R4 a0 n0 c0 e0 a1 n1 c1 e1 x5 h) → L4t Q R4 a0 n0 c0 e0 a1 n1 c1 e1 x5 h)
 (g : G) (x5 : Int) (h : Zaa) (hj : J g x5 h) : L4 Q a0 n0 c0 e0 a1 n1 c1 e1 x5 h := by
 refine Zdz.inv2 (fun g => E4 fun a0' n0' c0' e0' a1' n1' c1' e1' x5 h => a0 = a0' ∧ n0 = n0' ∧ c0 = c0' ∧ e0 = e0' ∧ a1 = a1' ∧ n1 = n1' ∧ c1 = c1' ∧ e1 = e1' ∧ J g x5 h) (fun g => E4 fun a0' n0' c0' e0' a1' n1' c1' e1' x5 h => a0 = a0' ∧ n0 = n0' ∧ c0 = c0' ∧ e0 = e0' ∧ a1 = a1' ∧ n1 = n1' ∧ c1 = c1' ∧ e1 = e1' ∧ ∃ g', m g' < m g ∧ J g' x5 h) m ?_ ?_ g ⟨rfl, rfl, rfl, rfl, rfl, rfl, rfl, rfl, hj⟩
 ·intro g env h hi
  obtain ⟨a0', n0', c0', e0', a1', n1', c1', e1', x5, rfl, rfl, rfl, rfl, rfl, rfl, rfl, rfl, rfl, hj⟩ := Zic hi
  exact Zsz Q _ a0 n0 c0 e0 a1 n1 c1 e1 x5 h (hr g x5 h hj (fun a0' n0' c0' e0' a1' n1' c1' e1' x5 h => a0 = a0' ∧ n0 = n0' ∧ c0 = c0' ∧ e0 = e0' ∧ a1 = a1' ∧ n1 = n1' ∧ c1 = c1' ∧ e1 = e1' ∧ ∃ g', m g' < m g ∧ J g' x5 h) fun g' x5 h hlt hj => ⟨rfl, rfl, rfl, rfl, rfl, rfl, rfl, rfl, g', hlt, hj⟩)
 ·intro g env h hi
  obtain ⟨a0', n0', c0', e0', a1', n1', c1', e1', x5, rfl, rfl, rfl, rfl, rfl, rfl, rfl, rfl, rfl, g', hlt, hj⟩ := Zic hi
  exact ⟨g', hlt, rfl, rfl, rfl, rfl, rfl, rfl, rfl, rfl, hj⟩
theorem A4x0i (Q : QT) (h : Zaa) (ht :
 Q (.bool true) h) : Zxx Q h :=
 At.mk (cast (by kernel_rfl) ht)
theorem call (a0 : Pt) (n0 c0 : Nat) (e0 : Bool) (a1 : Pt) (n1 c1 : Nat) (e1 : Bool) (h : Zaa) (Q : QT) (ht :
 bcase (!((((n0 : Nat) : Int) : Int) == (((n1 : Nat) : Int)))) (Q (.bool false) h) (L4 Q a0 n0 c0 e0 a1 n1 c1 e1 0 h)) : Zae pg Zmp [.slice a0 n0 c0 e0, .slice a1 n1 c1 e1] h Q :=
 Zae.of_body kp (c := cod fn) (fn := fn) Go.Proofs.Tryz.func97 (by kernel_rfl) (by kernel_rfl) (Nat.le_of_ble_eq_true (by kernel_rfl))
  (cast (by kernel_rfl) ht)
end Zhq
end Go.Sim

set_option maxRecDepth 100000
set_option linter.unusedVariables false
namespace Go.Sim
open Go Go.RowKit
namespace Zrs
noncomputable abbrev fn : Func := Go.Proofs.Tryz.f9
def kp : Zcd := []
noncomputable def C (p : List Nat) : Code := (cod fn).sub p
def KR (Q : QT) : KT := Zem pg fn.results.toList Q
theorem call (x0x0 x0x1 : List Nat) (x1 : Int) (h : Zaa) (Q : QT) (ht :
 Zcn (h ++ [.cells Zjz [.str x0x0, .str x0x1] false]) fun H0 => Zbp (Zal H0 (.ptr (some (h.length, 0 + 0)))) fun S1 => bcase (decide (((IntKind.wrap .i64 (x1 - (((List.length S1 : Nat) : Int)))) : Int) < 0)) (Q (.int .i64 (-1)) H0) (Zbp (Zal H0 (.ptr (some (h.length, 0 + 1)))) fun S2 => bcase (decide (((IntKind.wrap .i64 ((IntKind.wrap .i64 (x1 - (((List.length S1 : Nat) : Int)))) - (((List.length S2 : Nat) : Int)))) : Int) < 0)) (Q (.int .i64 (-1)) H0) (Q (.int .i64 (IntKind.wrap .i64 ((IntKind.wrap .i64 (x1 - (((List.length S1 : Nat) : Int)))) - (((List.length S2 : Nat) : Int))))) H0))) : Zae pg Zis [.agg [.str x0x0, .str x0x1], .int .i64 x1] h Q :=
 Zae.of_body kp (c := cod fn) (fn := fn) Go.Proofs.Tryz.func9 (by kernel_rfl) (by kernel_rfl) (Nat.le_of_ble_eq_true (by kernel_rfl))
  (cast (by kernel_rfl) ht)
end Zrs
namespace Znh
noncomputable abbrev fn : Func := Go.Proofs.Tryz.f84
def kp : Zcd := []
noncomputable def C (p : List Nat) : Code := (cod fn).sub p
def KR (Q : QT) : KT := Zem pg fn.results.toList Q
theorem call (x0x0 x0x1 : List Nat) (h : Zaa) (Q : QT) (ht :
 Zcn (h ++ [.cells Zad [.str x0x0, .str x0x1] false]) fun H0 => Zbp (Zal H0 (.ptr (some (h.length, 0 + 0)))) fun S1 => List.length S1 + List.length [32] ≤ 9223372036854775807 ∧ (Zbp (Zal H0 (.ptr (some (h.length, 0 + 1)))) fun S2 => List.length (S1 ++ [32]) + List.length S2 ≤ 9223372036854775807 ∧ (Q (.str ((S1 ++ [32]) ++ S2)) H0))) : Zae pg Zjw [.agg [.str x0x0, .str x0x1]] h Q :=
 Zae.of_body kp (c := cod fn) (fn := fn) Go.Proofs.Tryz.func84 (by kernel_rfl) (by kernel_rfl) (Nat.le_of_ble_eq_true (by kernel_rfl))
  (cast (by kernel_rfl) ht)
end Znh
namespace Zmz
noncomputable abbrev fn : Func := Go.Proofs.Tryz.f124
def kp : Zcd := []
noncomputable def C (p : List Nat) : Code := (cod fn).sub p
def KR (Q : QT) : KT := Zem pg fn.results.toList Q
theorem call (x0x0 x0x1 : List Nat) (h : Zaa) (Q : QT) (ht :
 Zcn (h ++ [.cells Zad [.str x0x0, .str x0x1] false]) fun H0 => Zbp (Zal H0 (.ptr (some (h.length, 0 + 0)))) fun S1 => List.length S1 + List.length [32] ≤ 9223372036854775807 ∧ (Zbp (Zal H0 (.ptr (some (h.length, 0 + 1)))) fun S2 => List.length (S1 ++ [32]) + List.length S2 ≤ 9223372036854775807 ∧ (Q (.str ((S1 ++ [32]) ++ S2)) H0))) : Zae pg Zjl [.agg [.str x0x0, .str x0x1]] h Q :=
 Zae.of_body kp (c := cod fn) (fn := fn) Go.Proofs.Tryz.func124 (by kernel_rfl) (by kernel_rfl) (Nat.le_of_ble_eq_true (by kernel_rfl))
  (cast (by kernel_rfl) ht)
end Zmz
namespace Zsm
noncomputable abbrev fn : Func := Go.Proofs.Tryz.f17
def kp : Zcd := []
noncomputable def C (p : List Nat) : Code := (cod fn).sub p
def KR (Q : QT) : KT := Zem pg fn.results.toList Q
theorem call (x0x0 x0x1 x1x0 x1x1 : List Nat) (h : Zaa) (Q : QT) (ht :
 Zcn (h ++ [.cells Zad [.str x0x0, .str x0x1] false]) fun H0 => Zcn (H0 ++ [.cells Zad [.str x1x0, .str x1x1] false]) fun H1 => Zbp (Zal H1 (.ptr (some (h.length, 0 + 0)))) fun S2 => Zbp (Zal H1 (.ptr (some (H0.length, 0 + 0)))) fun S3 => bcase (!(decide (S2 = S3))) (Q (.bool false) H1) (Zbp (Zal H1 (.ptr (some (h.length, 0 + 1)))) fun S4 => Zbp (Zal H1 (.ptr (some (H0.length, 0 + 1)))) fun S5 => bcase (!(decide (S4 = S5))) (Q (.bool false) H1) (Q (.bool true) H1))) : Zae pg Zks [.agg [.str x0x0, .str x0x1], .agg [.str x1x0, .str x1x1]] h Q :=
 Zae.of_body kp (c := cod fn) (fn := fn) Go.Proofs.Tryz.func17 (by kernel_rfl) (by kernel_rfl) (Nat.le_of_ble_eq_true (by kernel_rfl))
  (cast (by kernel_rfl) ht)
end Zsm
namespace Zsl
noncomputable abbrev fn : Func := Go.Proofs.Tryz.f12
def kp : Zcd := []
noncomputable def C (p : List Nat) : Code := (cod fn).sub p
def KR (Q : QT) : KT := Zem pg fn.results.toList Q
theorem call (x0x0 x0x1 : List Nat) (h : Zaa) (Q : QT) (ht :
 Zcn (h ++ [.cells Zjz [.str x0x0, .str x0x1] false]) fun H0 => Zcn (H0 ++ [.cells Zad [.str [], .str []] false]) fun H1 => Zcn (H1 ++ [.cells Zad [.str [], .str []] false]) fun H2 => Zbp (Zal H2 (.ptr (some (h.length, 0 + 0)))) fun S3 => Zcp (Zbn H2 (.ptr (some (H1.length, 0 + 0))) [.str S3]) fun H4 => Zbp (Zal H4 (.ptr (some (h.length, 0 + 1)))) fun S5 => Zcp (Zbn H4 (.ptr (some (H1.length, 0 + 1))) [.str S5]) fun H6 => Zcz (Zbx H6 (.ptr (some (H1.length, 0))) 2) fun K7 => Zao K7 fun C8 Z9 => Zbp (some C8) fun S10 => Zao Z9 fun C11 Z12 => Zbp (some C11) fun S13 => Zcl Z12 (Zcp (Zbn H6 (.ptr (some (H0.length, 0))) [.str S10, .str S13]) fun H14 => Zcz (Zbx H14 (.ptr (some (H0.length, 0))) 2) fun K15 => Zao K15 fun C16 Z17 => Zbp (some C16) fun S18 => Zao Z17 fun C19 Z20 => Zbp (some C19) fun S21 => Zcl Z20 (Q (.agg [.str S18, .str S21]) H14))) : Zae pg Zgy [.agg [.str x0x0, .str x0x1]] h Q :=
 Zae.of_body kp (c := cod fn) (fn := fn) Go.Proofs.Tryz.func12 (by kernel_rfl) (by kernel_rfl) (Nat.le_of_ble_eq_true (by kernel_rfl))
  (cast (by kernel_rfl) ht)
end Zsl
namespace Zhi
noncomputable abbrev fn : Func := Go.Proofs.Tryz.f80
def kp : Zcd := [(3000005, [1, 4]), (1000005, [0, 1, 5])]
noncomputable def C (p : List Nat) : Code := (cod fn).sub p
def KR (Q : QT) : KT := Zem pg fn.results.toList Q
abbrev T5 := Pt → Nat → Nat → Bool → Int → Int → Zaa → Prop
def E5 (R5 : T5) (env : Env) (h : Zaa) : Prop := Zbj 0 env fun v env => xSl (some v) fun a0 n0 c0 e0 => Zbj 1 env fun v env => Zda .i64 v fun x1 => Zbj 5 env fun v env => Zda .i64 v fun x5 => Ziw env (R5 a0 n0 c0 e0 x1 x5 h)
theorem Zie {R5 : T5} {env : Env} {h : Zaa} (hi : E5 R5 env h) : ∃ a0, ∃ n0, ∃ c0, ∃ e0, ∃ x1, ∃ x5, env = [(0, .slice a0 n0 c0 e0), (1, .int .i64 x1), (5, .int .i64 x5)] ∧ R5 a0 n0 c0 e0 x1 x5 h := by
 unfold E5 at hi
 have hi0 := hi
 clear hi
 obtain ⟨_, _, rfl, hi1⟩ := Zab hi0
 obtain ⟨a0, n0, c0, e0, rfl, hi2⟩ := Zax hi1
 obtain ⟨_, _, rfl, hi3⟩ := Zab hi2
 obtain ⟨x1, rfl, hi4⟩ := Zak hi3
 obtain ⟨_, _, rfl, hi5⟩ := Zab hi4
 obtain ⟨x5, rfl, hi6⟩ := Zak hi5
 obtain ⟨rfl, hi7⟩ := Zbk hi6
 have hi := hi7
 exact ⟨a0, n0, c0, e0, x1, x5, rfl, hi⟩
def K0 (Q : QT) : KT := andThen (fun env' h' => (match kp.find 4000010 with | some ks => Den pg fn.ntmps (C [1, 1, 1, 1]) (env'.keep ks) h' (KR Q) | none => den pg fn.ntmps kp (C [1, 1, 1, 1]) env' h' (KR Q))) (KR Q)
def K1 (Q : QT) : KT := Zcg 0 (K0 Q)
def K2 (Q : QT) : KT := Zgf kp 5 (K1 Q)
def K3 (Q : QT) (R5 : T5) : KT := rnd ((kp.find 1000005).getD []) (E5 R5) (K2 Q)
def L5 (Q : QT) (a0 : Pt) (n0 c0 : Nat) (e0 : Bool) (x1 x5 : Int) (h : Zaa) : Prop := Zdz (Den pg fn.ntmps (C [1, 1, 1, 0, 1, 0, 0])) ((kp.find 1000005).getD []) (K2 Q) [(0, .slice a0 n0 c0 e0), (1, .int .i64 x1), (5, .int .i64 x5)] h
def A5x0 (Q : QT) (x1 : Int) (h : Zaa) : Prop := At (K1 Q) (.exit 0) [(1, .int .i64 x1), (4, .undef)] h
def L5t (Q : QT) (R5 : T5) (a0 : Pt) (n0 c0 : Nat) (e0 : Bool) (x1 x5 : Int) (h : Zaa) : Prop :=
 bcase (decide ((x5 : Int) < (((n0 : Nat) : Int)))) ((0 ≤ (x5 : Int) ∧ (x5 : Int) < (n0 : Nat)) ∧ (Zbl a0 fun I0 O1 => Zcz (Zbx h (.ptr (some (I0, O1 + (Int.toNat x5) * 2))) 2) fun K2 => Zao K2 fun C3 Z4 => Zbp (some C3) fun S5 => Zao Z4 fun C6 Z7 => Zbp (some C6) fun S8 => Zcl Z7 (Zae pg Zis [.agg [.str S5, .str S8], .int .i64 x1] h fun V9 H10 =>
 Zen .i64 (some V9) fun X11 => bcase (decide ((X11 : Int) < 0)) (Q (.int .i64 (-1)) H10) (R5 a0 n0 c0 e0 X11 (IntKind.wrap .i64 (x5 + 1)) H10)))) (A5x0 Q x1 h)
theorem Ztn (Q : QT) (R5 : T5) (a0 : Pt) (n0 c0 : Nat) (e0 : Bool) (x1 x5 : Int) (h : Zaa) (ht : L5t Q R5 a0 n0 c0 e0 x1 x5 h) : Den pg fn.ntmps (C [1, 1, 1, 0, 1, 0, 0]) [(0, .slice a0 n0 c0 e0), (1, .int .i64 x1), (5, .int .i64 x5)] h (K3 Q R5) :=
 Zbb (kp := kp) (cast (by kernel_rfl) ht)
theorem L5ind (Q : QT) (a0 : Pt) (n0 c0 : Nat) (e0 : Bool) {G : Type} (J : G → Int → Int → Zaa → Prop) (m : G → Nat)
 (hr : ∀ (g : G) (x1 x5 : Int) (h : Zaa), J g x1 x5 h → ∀ (R5 : T5), (∀ g' (x1 x5 : Int) (h : Zaa), m g' < m g → J g' x1 x5 h → R5 a0 n0 c0 e0 x1 x5 h) → L5t Q R5 a0 n0 c0 e0 x1 x5 h)
 (g : G) (x1 x5 : Int) (h : Zaa) (hj : J g x1 x5 h) : L5 Q a0 n0 c0 e0 x1 x5 h := by
 refine Zdz.inv2 (fun g => E5 fun a0' n0' c0' e0' x1 x5 h => a0 = a0' ∧ n0 = n0' ∧ c0 = c0' ∧ e0 = e0' ∧ J g x1 x5 h) (fun g => E5 fun a0' n0' c0' e0' x1 x5 h => a0 = a0' ∧ n0 = n0' ∧ c0 = c0' ∧ e0 = e0' ∧ ∃ g', m g' < m g ∧ J g' x1 x5 h) m ?_ ?_ g ⟨rfl, rfl, rfl, rfl, hj⟩
 ·intro g env h hi
  obtain ⟨a0', n0', c0', e0', x1, x5, rfl, rfl, rfl, rfl, rfl, hj⟩ := Zie hi
  exact Ztn Q _ a0 n0 c0 e0 x1 x5 h (hr g x1 x5 h hj (fun a0' n0' c0' e0' x1 x5 h => a0 = a0' ∧ n0 = n0' ∧ c0 = c0' ∧ e0 = e0' ∧ ∃ g', m g' < m g ∧ J g' x1 x5 h) fun g' x1 x5 h hlt hj => ⟨rfl, rfl, rfl, rfl, g', hlt, hj⟩)
 ·intro g env h hi
  obtain ⟨a0', n0', c0', e0', x1, x5, rfl, rfl, rfl, rfl, rfl, g', hlt, hj⟩ := Zie hi
  exact ⟨g', hlt, rfl, rfl, rfl, rfl, hj⟩
theorem A5x0i (Q : QT) (x1 : Int) (h : Zaa) (ht :
 Q (.int .i64 x1) h) : A5x0 Q x1 h :=
 At.mk (cast (by kernel_rfl) ht)
theorem call (a0 : Pt) (n0 c0 : Nat) (e0 : Bool) (x1 : Int) (h : Zaa) (Q : QT) (ht :
 bcase (decide (((IntKind.wrap .i64 (x1 - (((n0 : Nat) : Int)))) : Int) < 0)) (Q (.int .i64 (-1)) h) (L5 Q a0 n0 c0 e0 (IntKind.wrap .i64 (x1 - (((n0 : Nat) : Int)))) 0 h)) : Zae pg Zmm [.slice a0 n0 c0 e0, .int .i64 x1] h Q :=
 Zae.of_body kp (c := cod fn) (fn := fn) Go.Proofs.Tryz.func80 (by kernel_rfl) (by kernel_rfl) (Nat.le_of_ble_eq_true (by kernel_rfl))
  (cast (by kernel_rfl) ht)
end Zhi
end Go.Sim

set_option maxRecDepth 100000
set_option linter.unusedVariables false
namespace Go.Sim
open Go Go.RowKit
namespace Zhy
noncomputable abbrev fn : Func := Go.Proofs.Tryz.f111
def kp : Zcd := [(3000003, [3]), (1000003, [0, 3, 7, 8, 9]), (4000007, [9, 8, 7, 0, 3])]
noncomputable def C (p : List Nat) : Code := (cod fn).sub p
def KR (Q : QT) : KT := Zem pg fn.results.toList Q
abbrev T3 := List Nat → Pt → Nat → Nat → Bool → Pt → Nat → Nat → Bool → Int → Int → Zaa → Prop
def E3 (R3 : T3) (env : Env) (h : Zaa) : Prop := Zbj 0 env fun v env => Zbp (some v) fun x0 => Zbj 3 env fun v env => xSl (some v) fun a3 n3 c3 e3 => Zbj 7 env fun v env => xSl (some v) fun a7 n7 c7 e7 => Zbj 8 env fun v env => Zda .i64 v fun x8 => Zbj 9 env fun v env => Zda .i64 v fun x9 => Ziw env (R3 x0 a3 n3 c3 e3 a7 n7 c7 e7 x8 x9 h)
theorem Zej {R3 : T3} {env : Env} {h : Zaa} (hi : E3 R3 env h) : ∃ x0, ∃ a3, ∃ n3, ∃ c3, ∃ e3, ∃ a7, ∃ n7, ∃ c7, ∃ e7, ∃ x8, ∃ x9, env = [(0, .str x0), (3, .slice a3 n3 c3 e3), (7, .slice a7 n7 c7 e7), (8, .int .i64 x8), (9, .int .i64 x9)] ∧ R3 x0 a3 n3 c3 e3 a7 n7 c7 e7 x8 x9 h := by
 unfold E3 at hi
 have hi0 := hi
 clear hi
 obtain ⟨_, _, rfl, hi1⟩ := Zab hi0
 obtain ⟨x0, rfl, hi2⟩ := Zdw hi1
 obtain ⟨_, _, rfl, hi3⟩ := Zab hi2
 obtain ⟨a3, n3, c3, e3, rfl, hi4⟩ := Zax hi3
 obtain ⟨_, _, rfl, hi5⟩ := Zab hi4
 obtain ⟨a7, n7, c7, e7, rfl, hi6⟩ := Zax hi5
 obtain ⟨_, _, rfl, hi7⟩ := Zab hi6
 obtain ⟨x8, rfl, hi8⟩ := Zak hi7
 obtain ⟨_, _, rfl, hi9⟩ := Zab hi8
 obtain ⟨x9, rfl, hi10⟩ := Zak hi9
 obtain ⟨rfl, hi11⟩ := Zbk hi10
 have hi := hi11
 exact ⟨x0, a3, n3, c3, e3, a7, n7, c7, e7, x8, x9, rfl, hi⟩
def K0 (Q : QT) : KT := andThen (fun env' h' => (match kp.find 4000008 with | some ks => Den pg fn.ntmps (C [1, 1, 1]) (env'.keep ks) h' (KR Q) | none => den pg fn.ntmps kp (C [1, 1, 1]) env' h' (KR Q))) (KR Q)
def K1 (Q : QT) : KT := Zcg 0 (K0 Q)
def K2 (Q : QT) : KT := Zgf kp 3 (K1 Q)
def K3 (Q : QT) (R3 : T3) : KT := rnd ((kp.find 1000003).getD []) (E3 R3) (K2 Q)
def L3 (Q : QT) (x0 : List Nat) (a3 : Pt) (n3 c3 : Nat) (e3 : Bool) (a7 : Pt) (n7 c7 : Nat) (e7 : Bool) (x8 x9 : Int) (h : Zaa) : Prop := Zdz (Den pg fn.ntmps (C [1, 1, 0, 1, 0, 0])) ((kp.find 1000003).getD []) (K2 Q) [(0, .str x0), (3, .slice a3 n3 c3 e3), (7, .slice a7 n7 c7 e7), (8, .int .i64 x8), (9, .int .i64 x9)] h
def J7 (Q : QT) (R3 : T3) (x9 x8 : Int) (a7 : Pt) (n7 c7 : Nat) (e7 : Bool) (x0 : List Nat) (a3 : Pt) (n3 c3 : Nat) (e3 : Bool) (h : Zaa) : Prop := Den pg fn.ntmps (C [1, 1, 0, 1, 0, 0, 1, 1, 1]) [(9, .int .i64 x9), (8, .int .i64 x8), (7, .slice a7 n7 c7 e7), (0, .str x0), (3, .slice a3 n3 c3 e3)] h (K3 Q R3)
def Zpf (Q : QT) (a3 : Pt) (n3 c3 : Nat) (e3 : Bool) (h : Zaa) : Prop := At (K1 Q) (.exit 0) [(3, .slice a3 n3 c3 e3)] h
def L3t (Q : QT) (R3 : T3) (x0 : List Nat) (a3 : Pt) (n3 c3 : Nat) (e3 : Bool) (a7 : Pt) (n7 c7 : Nat) (e7 : Bool) (x8 x9 : Int) (h : Zaa) : Prop :=
 bcase (decide ((x9 : Int) < x8)) ((0 ≤ (x9 : Int) ∧ (x9 : Int) < (n7 : Nat)) ∧ (Zbl a7 fun I2 O3 => Zbp (Zal h (.ptr (some (I2, O3 + (Int.toNat x9) * 1)))) fun S4 => Zae pg Zfg [.str x0, .str S4] h fun V5 H6 =>
 Zch (some V5) fun B7 => bcase B7 (Zcn (H6 ++ [.cells Zaz [.str S4] false]) fun H8 => Zdc pg Zbw H8 (.slice a3 n3 c3 e3) (.slice (some (H6.length, 0)) 1 1 true) fun V9 H10 => xSl (some V9) fun A11 N12 C13 E14 => J7 Q R3 x9 x8 a7 n7 c7 e7 x0 A11 N12 C13 E14 H10) (J7 Q R3 x9 x8 a7 n7 c7 e7 x0 a3 n3 c3 e3 H6))) (Zpf Q a3 n3 c3 e3 h)
theorem Zkx (Q : QT) (R3 : T3) (x0 : List Nat) (a3 : Pt) (n3 c3 : Nat) (e3 : Bool) (a7 : Pt) (n7 c7 : Nat) (e7 : Bool) (x8 x9 : Int) (h : Zaa) (ht : L3t Q R3 x0 a3 n3 c3 e3 a7 n7 c7 e7 x8 x9 h) : Den pg fn.ntmps (C [1, 1, 0, 1, 0, 0]) [(0, .str x0), (3, .slice a3 n3 c3 e3), (7, .slice a7 n7 c7 e7), (8, .int .i64 x8), (9, .int .i64 x9)] h (K3 Q R3) :=
 Zbb (kp := kp) (cast (by kernel_rfl) ht)
theorem L3ind (Q : QT) (x0 : List Nat) (a7 : Pt) (n7 c7 : Nat) (e7 : Bool) (x8 : Int) {G : Type} (J : G → Pt → Nat → Nat → Bool → Int → Zaa → Prop) (m : G → Nat)
 (hr : ∀ (g : G) (a3 : Pt) (n3 c3 : Nat) (e3 : Bool) (x9 : Int) (h : Zaa), J g a3 n3 c3 e3 x9 h → ∀ (R3 : T3), (∀ g' (a3 : Pt) (n3 c3 : Nat) (e3 : Bool) (x9 : Int) (h : Zaa), m g' < m g → J g' a3 n3 c3 e3 x9 h → R3 x0 a3 n3 c3 e3 a7 n7 c7 e7 x8 x9 h) → L3t Q R3 x0 a3 n3 c3 e3 a7 n7 c7 e7 x8 x9 h)
 (g : G) (a3 : Pt) (n3 c3 : Nat) (e3 : Bool) (x9 : Int) (h : Zaa) (hj : J g a3 n3 c3 e3 x9 h) : L3 Q x0 a3 n3 c3 e3 a7 n7 c7 e7 x8 x9 h := by
 refine Zdz.inv2 (fun g => E3 fun x0' a3 n3 c3 e3 a7' n7' c7' e7' x8' x9 h => x0 = x0' ∧ a7 = a7' ∧ n7 = n7' ∧ c7 = c7' ∧ e7 = e7' ∧ x8 = x8' ∧ J g a3 n3 c3 e3 x9 h) (fun g => E3 fun x0' a3 n3 c3 e3 a7' n7' c7' e7' x8' x9 h => x0 = x0' ∧ a7 = a7' ∧ n7 = n7' ∧ c7 = c7' ∧ e7 = e7' ∧ x8 = x8' ∧ ∃ g', m g' < m g ∧ J g' a3 n3 c3 e3 x9 h) m ?_ ?_ g ⟨rfl, rfl, rfl, rfl, rfl, rfl, hj⟩
 ·intro g env h hi
  obtain ⟨x0', a3, n3, c3, e3, a7', n7', c7', e7', x8', x9, rfl, rfl, rfl, rfl, rfl, rfl, rfl, hj⟩ := Zej hi
  exact Zkx Q _ x0 a3 n3 c3 e3 a7 n7 c7 e7 x8 x9 h (hr g a3 n3 c3 e3 x9 h hj (fun x0' a3 n3 c3 e3 a7' n7' c7' e7' x8' x9 h => x0 = x0' ∧ a7 = a7' ∧ n7 = n7' ∧ c7 = c7' ∧ e7 = e7' ∧ x8 = x8' ∧ ∃ g', m g' < m g ∧ J g' a3 n3 c3 e3 x9 h) fun g' a3 n3 c3 e3 x9 h hlt hj => ⟨rfl, rfl, rfl, rfl, rfl, rfl, g', hlt, hj⟩)
 ·intro g env h hi
  obtain ⟨x0', a3, n3, c3, e3, a7', n7', c7', e7', x8', x9, rfl, rfl, rfl, rfl, rfl, rfl, rfl, g', hlt, hj⟩ := Zej hi
  exact ⟨g', hlt, rfl, rfl, rfl, rfl, rfl, rfl, hj⟩
theorem J7i (Q : QT) (R3 : T3) (x9 x8 : Int) (a7 : Pt) (n7 c7 : Nat) (e7 : Bool) (x0 : List Nat) (a3 : Pt) (n3 c3 : Nat) (e3 : Bool) (h : Zaa) (ht :
 R3 x0 a3 n3 c3 e3 a7 n7 c7 e7 x8 (IntKind.wrap .i64 (x9 + 1)) h) : J7 Q R3 x9 x8 a7 n7 c7 e7 x0 a3 n3 c3 e3 h :=
 Zbb (kp := kp) (cast (by kernel_rfl) ht)
theorem A3x0i (Q : QT) (a3 : Pt) (n3 c3 : Nat) (e3 : Bool) (h : Zaa) (ht :
 Q (.slice a3 n3 c3 e3) h) : Zpf Q a3 n3 c3 e3 h :=
 At.mk (cast (by kernel_rfl) ht)
theorem call (x0 : List Nat) (h : Zaa) (Q : QT) (ht :
 Zcn (h ++ [.cells Zaz [] false]) fun H0 => Zcn (H0 ++ [.cells Zaz [.str [88], .str [89], .str [90], .str [120], .str [121], .str [122]] false]) fun H1 => L3 Q x0 (some (h.length, 0)) 0 0 true (some (H0.length, 0)) 6 6 true (((6 : Nat) : Int)) 0 H1) : Zae pg Zrh [.str x0] h Q :=
 Zae.of_body kp (c := cod fn) (fn := fn) Go.Proofs.Tryz.func111 (by kernel_rfl) (by kernel_rfl) (Nat.le_of_ble_eq_true (by kernel_rfl))
  (cast (by kernel_rfl) ht)
end Zhy
end Go.Sim

set_option maxRecDepth 100000
set_option linter.unusedVariables false
namespace Go.Sim
open Go Go.RowKit
namespace Zfa
noncomputable abbrev fn : Func := Go.Proofs.Tryz.f147
def kp : Zcd := [(3000003, [1, 3]), (1000003, [1, 3, 7, 8, 9]), (4000009, [3])]
noncomputable def C (p : List Nat) : Code := (cod fn).sub p
def KR (Q : QT) : KT := Zem pg fn.results.toList Q
abbrev T3 := Nat → Nat → Int → Pt → Nat → Nat → Bool → Int → Int → Zaa → Prop
def E3 (R3 : T3) (env : Env) (h : Zaa) : Prop := Zbj 1 env fun v env => Zgg (some v) fun a => Zbl a fun i1 o1 => Zbj 3 env fun v env => Zda .i64 v fun x3 => Zbj 7 env fun v env => xSl (some v) fun a7 n7 c7 e7 => Zbj 8 env fun v env => Zda .i64 v fun x8 => Zbj 9 env fun v env => Zda .i64 v fun x9 => Ziw env (R3 i1 o1 x3 a7 n7 c7 e7 x8 x9 h)
theorem Zej {R3 : T3} {env : Env} {h : Zaa} (hi : E3 R3 env h) : ∃ i1, ∃ o1, ∃ x3, ∃ a7, ∃ n7, ∃ c7, ∃ e7, ∃ x8, ∃ x9, env = [(1, .ptr (some (i1, o1))), (3, .int .i64 x3), (7, .slice a7 n7 c7 e7), (8, .int .i64 x8), (9, .int .i64 x9)] ∧ R3 i1 o1 x3 a7 n7 c7 e7 x8 x9 h := by
 unfold E3 at hi
 have hi0 := hi
 clear hi
 obtain ⟨_, _, rfl, hi1⟩ := Zab hi0
 obtain ⟨a, rfl, hi2⟩ := Zbo hi1
 obtain ⟨i1, o1, rfl, hi3⟩ := Zbs hi2
 obtain ⟨_, _, rfl, hi4⟩ := Zab hi3
 obtain ⟨x3, rfl, hi5⟩ := Zak hi4
 obtain ⟨_, _, rfl, hi6⟩ := Zab hi5
 obtain ⟨a7, n7, c7, e7, rfl, hi7⟩ := Zax hi6
 obtain ⟨_, _, rfl, hi8⟩ := Zab hi7
 obtain ⟨x8, rfl, hi9⟩ := Zak hi8
 obtain ⟨_, _, rfl, hi10⟩ := Zab hi9
 obtain ⟨x9, rfl, hi11⟩ := Zak hi10
 obtain ⟨rfl, hi12⟩ := Zbk hi11
 have hi := hi12
 exact ⟨i1, o1, x3, a7, n7, c7, e7, x8, x9, rfl, hi⟩
def K0 (Q : QT) : KT := andThen (fun env' h' => (match kp.find 4000007 with | some ks => Den pg fn.ntmps (C [1, 1, 1]) (env'.keep ks) h' (KR Q) | none => den pg fn.ntmps kp (C [1, 1, 1]) env' h' (KR Q))) (KR Q)
def K1 (Q : QT) : KT := Zcg 0 (K0 Q)
def K2 (Q : QT) : KT := Zgf kp 3 (K1 Q)
def K3 (Q : QT) (R3 : T3) : KT := rnd ((kp.find 1000003).getD []) (E3 R3) (K2 Q)
def L3 (Q : QT) (i1 o1 : Nat) (x3 : Int) (a7 : Pt) (n7 c7 : Nat) (e7 : Bool) (x8 x9 : Int) (h : Zaa) : Prop := Zdz (Den pg fn.ntmps (C [1, 1, 0, 1, 0, 0])) ((kp.find 1000003).getD []) (K2 Q) [(1, .ptr (some (i1, o1))), (3, .int .i64 x3), (7, .slice a7 n7 c7 e7), (8, .int .i64 x8), (9, .int .i64 x9)] h
def Zpf (Q : QT) (i1 o1 : Nat) (x3 : Int) (h : Zaa) : Prop := At (K1 Q) (.exit 0) [(1, .ptr (some (i1, o1))), (3, .int .i64 x3)] h
def J9 (Q : QT) (x3 : Int) (h : Zaa) : Prop := Den pg fn.ntmps (C [1, 1, 1, 1]) [(3, .int .i64 x3)] h (KR Q)
def L3t (Q : QT) (R3 : T3) (i1 o1 : Nat) (x3 : Int) (a7 : Pt) (n7 c7 : Nat) (e7 : Bool) (x8 x9 : Int) (h : Zaa) : Prop :=
 bcase (decide ((x9 : Int) < x8)) ((0 ≤ (x9 : Int) ∧ (x9 : Int) < (n7 : Nat)) ∧ (Zbl a7 fun I5 O6 => Zcz (Zbx h (.ptr (some (I5, O6 + (Int.toNat x9) * 2))) 2) fun K7 => Zao K7 fun C8 Z9 => Zen .u8 (some C8) fun X10 => Zao Z9 fun C11 Z12 => xSl (some C11) fun A13 N14 C15 E16 => Zcl Z12 (Zcn (h ++ [.cells Zac [.int .u8 0, .slice none 0 0 true] false]) fun H17 => Zcp (Zbn H17 (.ptr (some (h.length, 0))) [.int .u8 X10, .slice A13 N14 C15 E16]) fun H18 => Zcz (Zbx H18 (.ptr (some (h.length, 0))) 2) fun K19 => Zao K19 fun C20 Z21 => Zen .u8 (some C20) fun X22 => Zao Z21 fun C23 Z24 => xSl (some C23) fun A25 N26 C27 E28 => Zcl Z24 (Zae pg Zgn [.agg [.int .u8 X22, .slice A25 N26 C27 E28]] H18 fun V29 H30 =>
 Zen .i64 (some V29) fun X31 => R3 i1 o1 (IntKind.wrap .i64 ((IntKind.wrap .i64 (x3 + 1)) + X31)) a7 n7 c7 e7 x8 (IntKind.wrap .i64 (x9 + 1)) H30)))) (Zpf Q i1 o1 x3 h)
theorem Zkx (Q : QT) (R3 : T3) (i1 o1 : Nat) (x3 : Int) (a7 : Pt) (n7 c7 : Nat) (e7 : Bool) (x8 x9 : Int) (h : Zaa) (ht : L3t Q R3 i1 o1 x3 a7 n7 c7 e7 x8 x9 h) : Den pg fn.ntmps (C [1, 1, 0, 1, 0, 0]) [(1, .ptr (some (i1, o1))), (3, .int .i64 x3), (7, .slice a7 n7 c7 e7), (8, .int .i64 x8), (9, .int .i64 x9)] h (K3 Q R3) :=
 Zbb (kp := kp) (cast (by kernel_rfl) ht)
theorem L3ind (Q : QT) (i1 o1 : Nat) (a7 : Pt) (n7 c7 : Nat) (e7 : Bool) (x8 : Int) {G : Type} (J : G → Int → Int → Zaa → Prop) (m : G → Nat)
 (hr : ∀ (g : G) (x3 x9 : Int) (h : Zaa), J g x3 x9 h → ∀ (R3 : T3), (∀ g' (x3 x9 : Int) (h : Zaa), m g' < m g → J g' x3 x9 h → R3 i1 o1 x3 a7 n7 c7 e7 x8 x9 h) → L3t Q R3 i1 o1 x3 a7 n7 c7 e7 x8 x9 h)
 (g : G) (x3 x9 : Int) (h : Zaa) (hj : J g x3 x9 h) : L3 Q i1 o1 x3 a7 n7 c7 e7 x8 x9 h := by
 refine Zdz.inv2 (fun g => E3 fun i1' o1' x3 a7' n7' c7' e7' x8' x9 h => i1 = i1' ∧ o1 = o1' ∧ a7 = a7' ∧ n7 = n7' ∧ c7 = c7' ∧ e7 = e7' ∧ x8 = x8' ∧ J g x3 x9 h) (fun g => E3 fun i1' o1' x3 a7' n7' c7' e7' x8' x9 h => i1 = i1' ∧ o1 = o1' ∧ a7 = a7' ∧ n7 = n7' ∧ c7 = c7' ∧ e7 = e7' ∧ x8 = x8' ∧ ∃ g', m g' < m g ∧ J g' x3 x9 h) m ?_ ?_ g ⟨rfl, rfl, rfl, rfl, rfl, rfl, rfl, hj⟩
 ·intro g env h hi
  obtain ⟨i1', o1', x3, a7', n7', c7', e7', x8', x9, rfl, rfl, rfl, rfl, rfl, rfl, rfl, rfl, hj⟩ := Zej hi
  exact Zkx Q _ i1 o1 x3 a7 n7 c7 e7 x8 x9 h (hr g x3 x9 h hj (fun i1' o1' x3 a7' n7' c7' e7' x8' x9 h => i1 = i1' ∧ o1 = o1' ∧ a7 = a7' ∧ n7 = n7' ∧ c7 = c7' ∧ e7 = e7' ∧ x8 = x8' ∧ ∃ g', m g' < m g ∧ J g' x3 x9 h) fun g' x3 x9 h hlt hj => ⟨rfl, rfl, rfl, rfl, rfl, rfl, rfl, g', hlt, hj⟩)
 ·intro g env h hi
  obtain ⟨i1', o1', x3, a7', n7', c7', e7', x8', x9, rfl, rfl, rfl, rfl, rfl, rfl, rfl, rfl, g', hlt, hj⟩ := Zej hi
  exact ⟨g', hlt, rfl, rfl, rfl, rfl, rfl, rfl, rfl, hj⟩
theorem A3x0i (Q : QT) (i1 o1 : Nat) (x3 : Int) (h : Zaa) (ht :
 xSl (Zal h (.ptr (some (i1, o1 + 1)))) fun A32 N33 C34 E35 => bcase (decide (((((N33 : Nat) : Int)) : Int) > 0)) (J9 Q (IntKind.wrap .i64 (x3 + 1)) h) (J9 Q x3 h)) : Zpf Q i1 o1 x3 h :=
 At.mk (cast (by kernel_rfl) ht)
theorem J9i (Q : QT) (x3 : Int) (h : Zaa) (ht :
 Q (.int .i64 x3) h) : J9 Q x3 h :=
 Zbb (kp := kp) (cast (by kernel_rfl) ht)
theorem call (x0x0 : Int) (a0x1 : Pt) (n0x1 c0x1 : Nat) (e0x1 : Bool) (h : Zaa) (Q : QT) (ht :
 Zcn (h ++ [.cells Zac [.int .u8 x0x0, .slice a0x1 n0x1 c0x1 e0x1] false]) fun H0 => xSl (Zal H0 (.ptr (some (h.length, 0 + 1)))) fun A1 N2 C3 E4 => L3 Q h.length 0 1 A1 N2 C3 E4 (((N2 : Nat) : Int)) 0 H0) : Zae pg Zgn [.agg [.int .u8 x0x0, .slice a0x1 n0x1 c0x1 e0x1]] h Q :=
 Zae.of_body kp (c := cod fn) (fn := fn) Go.Proofs.Tryz.func147 (by kernel_rfl) (by kernel_rfl) (Nat.le_of_ble_eq_true (by kernel_rfl))
  (cast (by kernel_rfl) ht)
end Zfa
namespace Zeu
noncomputable abbrev fn : Func := Go.Proofs.Tryz.f143
def kp : Zcd := [(3000003, [4, 2, 3]), (1000003, [4, 8, 10]), (2000004, [6, 5, 10, 8, 4]), (4000006, [6, 4, 5, 10, 8]), (2000008, [10, 8, 4]), (4000009, [10, 8, 4])]
noncomputable def C (p : List Nat) : Code := (cod fn).sub p
def KR (Q : QT) : KT := Zem pg fn.results.toList Q
abbrev T3 := Pt → Nat → Nat → Bool → Pt → Int → Zaa → Prop
def E3 (R3 : T3) (env : Env) (h : Zaa) : Prop := Zbj 4 env fun v env => xSl (some v) fun a4 n4 c4 e4 => Zbj 8 env fun v env => Zgg (some v) fun a8 => Zbj 10 env fun v env => Zda .i64 v fun x10 => Ziw env (R3 a4 n4 c4 e4 a8 x10 h)
theorem Zej {R3 : T3} {env : Env} {h : Zaa} (hi : E3 R3 env h) : ∃ a4, ∃ n4, ∃ c4, ∃ e4, ∃ a8, ∃ x10, env = [(4, .slice a4 n4 c4 e4), (8, .ptr a8), (10, .int .i64 x10)] ∧ R3 a4 n4 c4 e4 a8 x10 h := by
 unfold E3 at hi
 have hi0 := hi
 clear hi
 obtain ⟨_, _, rfl, hi1⟩ := Zab hi0
 obtain ⟨a4, n4, c4, e4, rfl, hi2⟩ := Zax hi1
 obtain ⟨_, _, rfl, hi3⟩ := Zab hi2
 obtain ⟨a8, rfl, hi4⟩ := Zbo hi3
 obtain ⟨_, _, rfl, hi5⟩ := Zab hi4
 obtain ⟨x10, rfl, hi6⟩ := Zak hi5
 obtain ⟨rfl, hi7⟩ := Zbk hi6
 have hi := hi7
 exact ⟨a4, n4, c4, e4, a8, x10, rfl, hi⟩
def K0 (Q : QT) : KT := andThen (fun env' h' => (match kp.find 4000010 with | some ks => Den pg fn.ntmps (C [1, 1, 1]) (env'.keep ks) h' (KR Q) | none => den pg fn.ntmps kp (C [1, 1, 1]) env' h' (KR Q))) (KR Q)
def K1 (Q : QT) : KT := Zcg 0 (K0 Q)
def K2 (Q : QT) : KT := Zgf kp 3 (K1 Q)
def K3 (Q : QT) (R3 : T3) : KT := rnd ((kp.find 1000003).getD []) (E3 R3) (K2 Q)
def K4 (Q : QT) (R3 : T3) : KT := andThen (fun env' h' => (match kp.find 4000009 with | some ks => Den pg fn.ntmps (C [1, 1, 0, 1, 0, 0, 1, 1, 1]) (env'.keep ks) h' (K3 Q R3) | none => den pg fn.ntmps kp (C [1, 1, 0, 1, 0, 0, 1, 1, 1]) env' h' (K3 Q R3))) (K3 Q R3)
def K5 (Q : QT) (R3 : T3) : KT := Zcg 1 (K4 Q R3)
def L3 (Q : QT) (a4 : Pt) (n4 c4 : Nat) (e4 : Bool) (a8 : Pt) (x10 : Int) (h : Zaa) : Prop := Zdz (Den pg fn.ntmps (C [1, 1, 0, 1, 0, 0])) ((kp.find 1000003).getD []) (K2 Q) [(4, .slice a4 n4 c4 e4), (8, .ptr a8), (10, .int .i64 x10)] h
def J9 (Q : QT) (R3 : T3) (x10 : Int) (a8 a4 : Pt) (n4 c4 : Nat) (e4 : Bool) (h : Zaa) : Prop := Den pg fn.ntmps (C [1, 1, 0, 1, 0, 0, 1, 1, 1]) [(10, .int .i64 x10), (8, .ptr a8), (4, .slice a4 n4 c4 e4)] h (K3 Q R3)
def J6 (Q : QT) (R3 : T3) (i6 o6 : Nat) (a4 : Pt) (n4 c4 : Nat) (e4 : Bool) (x5 x10 : Int) (a8 : Pt) (h : Zaa) : Prop := Den pg fn.ntmps (C [1, 1, 0, 1, 0, 0, 1, 1, 0, 0, 1, 1]) [(6, .ptr (some (i6, o6))), (4, .slice a4 n4 c4 e4), (5, .int .i64 x5), (10, .int .i64 x10), (8, .ptr a8)] h (K5 Q R3)
def Zpf (Q : QT) (a4 : Pt) (n4 c4 : Nat) (e4 : Bool) (h : Zaa) : Prop := At (K1 Q) (.exit 0) [(4, .slice a4 n4 c4 e4), (2, .undef), (3, .undef)] h
def L3t (Q : QT) (R3 : T3) (a4 : Pt) (n4 c4 : Nat) (e4 : Bool) (a8 : Pt) (x10 : Int) (h : Zaa) : Prop :=
 bcase (decide ((x10 : Int) < 12)) (Zbl a8 fun I3 O4 => (0 ≤ (x10 : Int) ∧ (x10 : Int) < (12 : Nat)) ∧ (Zcz (Zbx h (.ptr (some (I3, O4 + (Int.toNat x10) * 2))) 2) fun K5 => Zao K5 fun C6 Z7 => Zen .u8 (some C6) fun X8 => Zao Z7 fun C9 Z10 => xSl (some C9) fun A11 N12 C13 E14 => Zcl Z10 (Zcn (h ++ [.cells Zac [.int .u8 0, .slice none 0 0 true] false]) fun H15 => (Zbx H15 (.ptr (some (I3, O4 + (Int.toNat x10) * 2))) 2 = Zbx h (.ptr (some (I3, O4 + (Int.toNat x10) * 2))) 2) ∧ Zcp (Zbn H15 (.ptr (some (h.length, 0))) [.int .u8 X8, .slice A11 N12 C13 E14]) fun H16 => Zen .u8 (Zal H16 (.ptr (some (h.length, 0 + 0)))) fun X17 => bcase ((X17 : Int) == 0) (J9 Q R3 x10 a8 a4 n4 c4 e4 H16) (bcase (decide ((x10 : Int) ≥ 6)) (J9 Q R3 x10 a8 a4 n4 c4 e4 H16) (J6 Q R3 h.length 0 a4 n4 c4 e4 x10 x10 a8 H16))))) (Zpf Q a4 n4 c4 e4 h)
theorem Zkx (Q : QT) (R3 : T3) (a4 : Pt) (n4 c4 : Nat) (e4 : Bool) (a8 : Pt) (x10 : Int) (h : Zaa) (ht : L3t Q R3 a4 n4 c4 e4 a8 x10 h) : Den pg fn.ntmps (C [1, 1, 0, 1, 0, 0]) [(4, .slice a4 n4 c4 e4), (8, .ptr a8), (10, .int .i64 x10)] h (K3 Q R3) :=
 Zbb (kp := kp) (cast (by kernel_rfl) ht)
theorem L3ind (Q : QT) (a8 : Pt) {G : Type} (J : G → Pt → Nat → Nat → Bool → Int → Zaa → Prop) (m : G → Nat)
 (hr : ∀ (g : G) (a4 : Pt) (n4 c4 : Nat) (e4 : Bool) (x10 : Int) (h : Zaa), J g a4 n4 c4 e4 x10 h → ∀ (R3 : T3), (∀ g' (a4 : Pt) (n4 c4 : Nat) (e4 : Bool) (x10 : Int) (h : Zaa), m g' < m g → J g' a4 n4 c4 e4 x10 h → R3 a4 n4 c4 e4 a8 x10 h) → L3t Q R3 a4 n4 c4 e4 a8 x10 h)
 (g : G) (a4 : Pt) (n4 c4 : Nat) (e4 : Bool) (x10 : Int) (h : Zaa) (hj : J g a4 n4 c4 e4 x10 h) : L3 Q a4 n4 c4 e4 a8 x10 h := by
 refine Zdz.inv2 (fun g => E3 fun a4 n4 c4 e4 a8' x10 h => a8 = a8' ∧ J g a4 n4 c4 e4 x10 h) (fun g => E3 fun a4 n4 c4 e4 a8' x10 h => a8 = a8' ∧ ∃ g', m g' < m g ∧ J g' a4 n4 c4 e4 x10 h) m ?_ ?_ g ⟨rfl, hj⟩
 ·intro g env h hi
  obtain ⟨a4, n4, c4, e4, a8', x10, rfl, rfl, hj⟩ := Zej hi
  exact Zkx Q _ a4 n4 c4 e4 a8 x10 h (hr g a4 n4 c4 e4 x10 h hj (fun a4 n4 c4 e4 a8' x10 h => a8 = a8' ∧ ∃ g', m g' < m g ∧ J g' a4 n4 c4 e4 x10 h) fun g' a4 n4 c4 e4 x10 h hlt hj => ⟨rfl, g', hlt, hj⟩)
 ·intro g env h hi
  obtain ⟨a4, n4, c4, e4, a8', x10, rfl, rfl, g', hlt, hj⟩ := Zej hi
  exact ⟨g', hlt, rfl, hj⟩
theorem J9i (Q : QT) (R3 : T3) (x10 : Int) (a8 a4 : Pt) (n4 c4 : Nat) (e4 : Bool) (h : Zaa) (ht :
 R3 a4 n4 c4 e4 a8 (IntKind.wrap .i64 (x10 + 1)) h) : J9 Q R3 x10 a8 a4 n4 c4 e4 h :=
 Zbb (kp := kp) (cast (by kernel_rfl) ht)
theorem J6i (Q : QT) (R3 : T3) (i6 o6 : Nat) (a4 : Pt) (n4 c4 : Nat) (e4 : Bool) (x5 x10 : Int) (a8 : Pt) (h : Zaa) (ht :
 Zcz (Zbx h (.ptr (some (i6, o6))) 2) fun K18 => Zao K18 fun C19 Z20 => Zen .u8 (some C19) fun X21 => Zao Z20 fun C22 Z23 => xSl (some C22) fun A24 N25 C26 E27 => Zcl Z23 (Zae pg Zgn [.agg [.int .u8 X21, .slice A24 N25 C26 E27]] h fun V28 H29 =>
 Zen .i64 (some V28) fun X30 => bcase (decide ((X30 : Int) > 60)) (Zcn (H29 ++ [.cells Zbe [] false]) fun H31 => Q (.tup [.slice (some (H29.length, 0)) 0 0 true, .bool false]) H31) ((0 ≤ (x5 : Int) ∧ (x5 : Int) ≤ IntKind.wrap .i64 (x5 + 1) ∧ (IntKind.wrap .i64 (x5 + 1) : Int) ≤ (List.length ([88, 89, 90, 120, 121, 122, 49, 50, 51, 52, 53, 54]) : Nat)) ∧ (Zcz (Zbx H29 (.ptr (some (i6, o6))) 2) fun K32 => Zao K32 fun C33 Z34 => Zen .u8 (some C33) fun X35 => Zao Z34 fun C36 Z37 => xSl (some C36) fun A38 N39 C40 E41 => Zcl Z37 (Zae pg Zfu [.agg [.int .u8 X35, .slice A38 N39 C40 E41]] H29 fun V42 H43 =>
 Zbp (some V42) fun S44 => Zcn (H43 ++ [.cells Zbe [.str (sub ([88, 89, 90, 120, 121, 122, 49, 50, 51, 52, 53, 54]) x5 (IntKind.wrap .i64 (x5 + 1))), .str S44] false]) fun H45 => Zdc pg Zkm H45 (.slice a4 n4 c4 e4) (.slice (some (H43.length, 0)) 1 1 true) fun V46 H47 => xSl (some V46) fun A48 N49 C50 E51 => J9 Q R3 x10 a8 A48 N49 C50 E51 H47))))) : J6 Q R3 i6 o6 a4 n4 c4 e4 x5 x10 a8 h :=
 Zbb (kp := kp) (cast (by kernel_rfl) ht)
theorem A3x0i (Q : QT) (a4 : Pt) (n4 c4 : Nat) (e4 : Bool) (h : Zaa) (ht :
 Q (.tup [.slice a4 n4 c4 e4, .bool true]) h) : Zpf Q a4 n4 c4 e4 h :=
 At.mk (cast (by kernel_rfl) ht)
theorem call (a0 : Pt) (h : Zaa) (Q : QT) (ht :
 Zcn (h ++ [.cells Zbe [] false]) fun H0 => Zbl a0 fun I1 O2 => L3 Q (some (h.length, 0)) 0 0 true a0 0 H0) : Zae pg Zoh [.ptr a0] h Q :=
 Zae.of_body kp (c := cod fn) (fn := fn) Go.Proofs.Tryz.func143 (by kernel_rfl) (by kernel_rfl) (Nat.le_of_ble_eq_true (by kernel_rfl))
  (cast (by kernel_rfl) ht)
end Zeu
namespace Zkk
noncomputable abbrev fn : Func := Go.Proofs.Tryz.f119
def kp : Zcd := [(4000006, [10])]
noncomputable def C (p : List Nat) : Code := (cod fn).sub p
def KR (Q : QT) : KT := Zem pg fn.results.toList Q
def J6 (Q : QT) (i10 o10 : Nat) (h : Zaa) : Prop := Den pg fn.ntmps (C [1, 1, 1, 1, 1]) [(10, .ptr (some (i10, o10)))] h (KR Q)
theorem J6i (Q : QT) (i10 o10 : Nat) (h : Zaa) (ht :
 Zae pg Zoh [.ptr (some (i10, o10))] h fun V67 H68 =>
 Ztq V67 fun K69 => Zao K69 fun C70 Z71 => xSl (some C70) fun A72 N73 C74 E75 => Zao Z71 fun C76 Z77 => Zch (some C76) fun B78 => Zcl Z77 (Q (.tup [.slice A72 N73 C74 E75, .bool B78]) H68)) : J6 Q i10 o10 h :=
 Zbb (kp := kp) (cast (by kernel_rfl) ht)
theorem call (x0 x1 : List Nat) (h : Zaa) (Q : QT) (ht :
 Zae pg Zft [.str x0] h fun V0 H1 =>
 Ztq V0 fun K2 => Zao K2 fun C3 Z4 => Zue C3 fun K5 => Zao K5 fun C6 Z7 => Zen .u8 (some C6) fun X8 => Zao Z7 fun C9 Z10 => xSl (some C9) fun A11 N12 C13 E14 => Zcl Z10 (Zao Z4 fun C15 Z16 => Zch (some C15) fun B17 => Zcl Z16 (Zcn (H1 ++ [.cells Zac [.int .u8 0, .slice none 0 0 true] false]) fun H18 => Zcp (Zbn H18 (.ptr (some (H1.length, 0))) [.int .u8 X8, .slice A11 N12 C13 E14]) fun H19 => Zae pg Zft [.str x1] H19 fun V20 H21 =>
 Ztq V20 fun K22 => Zao K22 fun C23 Z24 => Zue C23 fun K25 => Zao K25 fun C26 Z27 => Zen .u8 (some C26) fun X28 => Zao Z27 fun C29 Z30 => xSl (some C29) fun A31 N32 C33 E34 => Zcl Z30 (Zao Z24 fun C35 Z36 => Zch (some C35) fun B37 => Zcl Z36 (Zcn (H21 ++ [.cells Zac [.int .u8 0, .slice none 0 0 true] false]) fun H38 => Zcp (Zbn H38 (.ptr (some (H21.length, 0))) [.int .u8 X28, .slice A31 N32 C33 E34]) fun H39 => Zcn (H39 ++ [.cells Zew [.int .u8 0, .slice none 0 0 true, .int .u8 0, .slice none 0 0 true, .int .u8 0, .slice none 0 0 true, .int .u8 0, .slice none 0 0 true, .int .u8 0, .slice none 0 0 true, .int .u8 0, .slice none 0 0 true, .int .u8 0, .slice none 0 0 true, .int .u8 0, .slice none 0 0 true, .int .u8 0, .slice none 0 0 true, .int .u8 0, .slice none 0 0 true, .int .u8 0, .slice none 0 0 true, .int .u8 0, .slice none 0 0 true] false]) fun H40 => bcase (!B17) (Zcn (H40 ++ [.cells Zbe [] false]) fun H41 => Q (.tup [.slice (some (H40.length, 0)) 0 0 true, .bool false]) H41) (bcase (!B37) (Zcn (H40 ++ [.cells Zbe [] false]) fun H42 => Q (.tup [.slice (some (H40.length, 0)) 0 0 true, .bool false]) H42) (Zcz (Zbx H40 (.ptr (some (H1.length, 0))) 2) fun K43 => Zao K43 fun C44 Z45 => Zen .u8 (some C44) fun X46 => Zao Z45 fun C47 Z48 => xSl (some C47) fun A49 N50 C51 E52 => Zcl Z48 (Zcz (Zbx H40 (.ptr (some (H21.length, 0))) 2) fun K53 => Zao K53 fun C54 Z55 => Zen .u8 (some C54) fun X56 => Zao Z55 fun C57 Z58 => xSl (some C57) fun A59 N60 C61 E62 => Zcl Z58 (Zae pg Zkc [.ptr (some (H39.length, 0)), .agg [.int .u8 X46, .slice A49 N50 C51 E52], .agg [.int .u8 X56, .slice A59 N60 C61 E62]] H40 fun V63 H64 =>
 Zch (some V63) fun B65 => bcase (!B65) (Zcn (H64 ++ [.cells Zbe [] false]) fun H66 => Q (.tup [.slice (some (H64.length, 0)) 0 0 true, .bool false]) H66) (J6 Q H39.length 0 H64)))))))))) : Zae pg Zhu [.str x0, .str x1] h Q :=
 Zae.of_body kp (c := cod fn) (fn := fn) Go.Proofs.Tryz.func119 (by kernel_rfl) (by kernel_rfl) (Nat.le_of_ble_eq_true (by kernel_rfl))
  (cast (by kernel_rfl) ht)
end Zkk
namespace Zno
noncomputable abbrev fn : Func := Go.Proofs.Tryz.f118
def kp : Zcd := []
noncomputable def C (p : List Nat) : Code := (cod fn).sub p
def KR (Q : QT) : KT := Zem pg fn.results.toList Q
theorem call (x0 x1 : List Nat) (h : Zaa) (Q : QT) (ht :
 Zae pg Zhu [.str x0, .str x1] h fun V0 H1 =>
 Ztq V0 fun K2 => Zao K2 fun C3 Z4 => xSl (some C3) fun A5 N6 C7 E8 => Zao Z4 fun C9 Z10 => Zch (some C9) fun B11 => Zcl Z10 (Q (.bool B11) H1)) : Zae pg Zjk [.str x0, .str x1] h Q :=
 Zae.of_body kp (c := cod fn) (fn := fn) Go.Proofs.Tryz.func118 (by kernel_rfl) (by kernel_rfl) (Nat.le_of_ble_eq_true (by kernel_rfl))
  (cast (by kernel_rfl) ht)
end Zno
end Go.Sim

set_option maxRecDepth 100000
set_option linter.unusedVariables false
namespace Go.Sim
open Go Go.RowKit
namespace Zqn
noncomputable abbrev fn : Func := Go.Proofs.Tryz.f145
def kp : Zcd := []
noncomputable def C (p : List Nat) : Code := (cod fn).sub p
def KR (Q : QT) : KT := Zem pg fn.results.toList Q
theorem call (x0 : Int) (h : Zaa) (Q : QT) (ht :
 Zae pg Zgd [.str ([88, 89, 90, 120, 121, 122, 49, 50, 51, 52, 53, 54]), .int .u8 x0] h fun V0 H1 =>
 Zen .i64 (some V0) fun X2 => Q (.int .i64 X2) H1) : Zae pg Zhm [.int .u8 x0] h Q :=
 Zae.of_body kp (c := cod fn) (fn := fn) Go.Proofs.Tryz.func145 (by kernel_rfl) (by kernel_rfl) (Nat.le_of_ble_eq_true (by kernel_rfl))
  (cast (by kernel_rfl) ht)
end Zqn
namespace Zhg
noncomputable abbrev fn : Func := Go.Proofs.Tryz.f142
def kp : Zcd := [(2000004, []), (2000006, [6]), (3000010, [6]), (1000010, [0, 4, 5, 42, 43]), (2000012, [58, 43, 42, 0, 4, 5])]
noncomputable def C (p : List Nat) : Code := (cod fn).sub p
def KR (Q : QT) : KT := Zem pg fn.results.toList Q
abbrev T10 := Pt → Nat → Nat → Nat → Nat → Int → Int → Zaa → Prop
def E10 (R10 : T10) (env : Env) (h : Zaa) : Prop := Zbj 0 env fun v env => Zgg (some v) fun a0 => Zbj 4 env fun v env => Zgg (some v) fun a => Zbl a fun i4 o4 => Zbj 5 env fun v env => Zgg (some v) fun a => Zbl a fun i5 o5 => Zbj 42 env fun v env => Zda .i64 v fun x42 => Zbj 43 env fun v env => Zda .i64 v fun x43 => Ziw env (R10 a0 i4 o4 i5 o5 x42 x43 h)
theorem Zwn {R10 : T10} {env : Env} {h : Zaa} (hi : E10 R10 env h) : ∃ a0, ∃ i4, ∃ o4, ∃ i5, ∃ o5, ∃ x42, ∃ x43, env = [(0, .ptr a0), (4, .ptr (some (i4, o4))), (5, .ptr (some (i5, o5))), (42, .int .i64 x42), (43, .int .i64 x43)] ∧ R10 a0 i4 o4 i5 o5 x42 x43 h := by
 unfold E10 at hi
 have hi0 := hi
 clear hi
 obtain ⟨_, _, rfl, hi1⟩ := Zab hi0
 obtain ⟨a0, rfl, hi2⟩ := Zbo hi1
 obtain ⟨_, _, rfl, hi3⟩ := Zab hi2
 obtain ⟨a, rfl, hi4⟩ := Zbo hi3
 obtain ⟨i4, o4, rfl, hi5⟩ := Zbs hi4
 obtain ⟨_, _, rfl, hi6⟩ := Zab hi5
 obtain ⟨a, rfl, hi7⟩ := Zbo hi6
 obtain ⟨i5, o5, rfl, hi8⟩ := Zbs hi7
 obtain ⟨_, _, rfl, hi9⟩ := Zab hi8
 obtain ⟨x42, rfl, hi10⟩ := Zak hi9
 obtain ⟨_, _, rfl, hi11⟩ := Zab hi10
 obtain ⟨x43, rfl, hi12⟩ := Zak hi11
 obtain ⟨rfl, hi13⟩ := Zbk hi12
 have hi := hi13
 exact ⟨a0, i4, o4, i5, o5, x42, x43, rfl, hi⟩
def K0 (Q : QT) : KT := andThen (fun env' h' => (match kp.find 4000015 with | some ks => Den pg fn.ntmps (C [1, 1, 1, 1]) (env'.keep ks) h' (KR Q) | none => den pg fn.ntmps kp (C [1, 1, 1, 1]) env' h' (KR Q))) (KR Q)
def K1 (Q : QT) : KT := Zcg 0 (K0 Q)
def K2 (Q : QT) : KT := Zgf kp 10 (K1 Q)
def K3 (Q : QT) (R10 : T10) : KT := rnd ((kp.find 1000010).getD []) (E10 R10) (K2 Q)
def L10 (Q : QT) (a0 : Pt) (i4 o4 i5 o5 : Nat) (x42 x43 : Int) (h : Zaa) : Prop := Zdz (Den pg fn.ntmps (C [1, 1, 1, 0, 1, 0, 0])) ((kp.find 1000010).getD []) (K2 Q) [(0, .ptr a0), (4, .ptr (some (i4, o4))), (5, .ptr (some (i5, o5))), (42, .int .i64 x42), (43, .int .i64 x43)] h
def Ysp (Q : QT) (h : Zaa) : Prop := At (K1 Q) (.exit 0) [(6, .undef)] h
def L10t (Q : QT) (R10 : T10) (a0 : Pt) (i4 o4 i5 o5 : Nat) (x42 x43 : Int) (h : Zaa) : Prop :=
 bcase (decide ((x43 : Int) < x42)) (xSl (Zal h (.ptr (some (i4, o4 + 1)))) fun A56 N57 C58 E59 => (0 ≤ (x43 : Int) ∧ (x43 : Int) < (N57 : Nat)) ∧ (Zbl A56 fun I60 O61 => Zcz (Zbx h (.ptr (some (I60, O61 + (Int.toNat x43) * 2))) 2) fun K62 => Zao K62 fun C63 Z64 => Zen .u8 (some C63) fun X65 => Zao Z64 fun C66 Z67 => xSl (some C66) fun A68 N69 C70 E71 => Zcl Z67 (xSl (Zal h (.ptr (some (i5, o5 + 1)))) fun A72 N73 C74 E75 => (Zbx h (.ptr (some (I60, O61 + (Int.toNat x43) * 2))) 2 = Zbx h (.ptr (some (I60, O61 + (Int.toNat x43) * 2))) 2) ∧ (Zal h (.ptr (some (i4, o4 + 1))) = Zal h (.ptr (some (i4, o4 + 1)))) ∧ (0 ≤ (x43 : Int) ∧ (x43 : Int) < (N73 : Nat)) ∧ (Zbl A72 fun I76 O77 => Zcz (Zbx h (.ptr (some (I76, O77 + (Int.toNat x43) * 2))) 2) fun K78 => Zao K78 fun C79 Z80 => Zen .u8 (some C79) fun X81 => Zao Z80 fun C82 Z83 => xSl (some C82) fun A84 N85 C86 E87 => Zcl Z83 ((Zbx h (.ptr (some (I60, O61 + (Int.toNat x43) * 2))) 2 = Zbx h (.ptr (some (I60, O61 + (Int.toNat x43) * 2))) 2) ∧ (Zal h (.ptr (some (i4, o4 + 1))) = Zal h (.ptr (some (i4, o4 + 1)))) ∧ Zae pg Zkc [.ptr a0, .agg [.int .u8 X65, .slice A68 N69 C70 E71], .agg [.int .u8 X81, .slice A84 N85 C86 E87]] h fun V88 H89 =>
 Zch (some V88) fun B90 => (Zal H89 (.ptr (some (i4, o4 + 1))) = Zal h (.ptr (some (i4, o4 + 1)))) ∧ bcase (!B90) (Q (.bool false) H89) (R10 a0 i4 o4 i5 o5 x42 (IntKind.wrap .i64 (x43 + 1)) H89)))))) (Ysp Q h)
theorem Ylw (Q : QT) (R10 : T10) (a0 : Pt) (i4 o4 i5 o5 : Nat) (x42 x43 : Int) (h : Zaa) (ht : L10t Q R10 a0 i4 o4 i5 o5 x42 x43 h) : Den pg fn.ntmps (C [1, 1, 1, 0, 1, 0, 0]) [(0, .ptr a0), (4, .ptr (some (i4, o4))), (5, .ptr (some (i5, o5))), (42, .int .i64 x42), (43, .int .i64 x43)] h (K3 Q R10) :=
 Zbb (kp := kp) (cast (by kernel_rfl) ht)
theorem L10ind (Q : QT) (a0 : Pt) (i4 o4 i5 o5 : Nat) (x42 : Int) {G : Type} (J : G → Int → Zaa → Prop) (m : G → Nat)
 (hr : ∀ (g : G) (x43 : Int) (h : Zaa), J g x43 h → ∀ (R10 : T10), (∀ g' (x43 : Int) (h : Zaa), m g' < m g → J g' x43 h → R10 a0 i4 o4 i5 o5 x42 x43 h) → L10t Q R10 a0 i4 o4 i5 o5 x42 x43 h)
 (g : G) (x43 : Int) (h : Zaa) (hj : J g x43 h) : L10 Q a0 i4 o4 i5 o5 x42 x43 h := by
 refine Zdz.inv2 (fun g => E10 fun a0' i4' o4' i5' o5' x42' x43 h => a0 = a0' ∧ i4 = i4' ∧ o4 = o4' ∧ i5 = i5' ∧ o5 = o5' ∧ x42 = x42' ∧ J g x43 h) (fun g => E10 fun a0' i4' o4' i5' o5' x42' x43 h => a0 = a0' ∧ i4 = i4' ∧ o4 = o4' ∧ i5 = i5' ∧ o5 = o5' ∧ x42 = x42' ∧ ∃ g', m g' < m g ∧ J g' x43 h) m ?_ ?_ g ⟨rfl, rfl, rfl, rfl, rfl, rfl, hj⟩
 ·intro g env h hi
  obtain ⟨a0', i4', o4', i5', o5', x42', x43, rfl, rfl, rfl, rfl, rfl, rfl, rfl, hj⟩ := Zwn hi
  exact Ylw Q _ a0 i4 o4 i5 o5 x42 x43 h (hr g x43 h hj (fun a0' i4' o4' i5' o5' x42' x43 h => a0 = a0' ∧ i4 = i4' ∧ o4 = o4' ∧ i5 = i5' ∧ o5 = o5' ∧ x42 = x42' ∧ ∃ g', m g' < m g ∧ J g' x43 h) fun g' x43 h hlt hj => ⟨rfl, rfl, rfl, rfl, rfl, rfl, g', hlt, hj⟩)
 ·intro g env h hi
  obtain ⟨a0', i4', o4', i5', o5', x42', x43, rfl, rfl, rfl, rfl, rfl, rfl, rfl, g', hlt, hj⟩ := Zwn hi
  exact ⟨g', hlt, rfl, rfl, rfl, rfl, rfl, rfl, hj⟩
theorem A10x0i (Q : QT) (h : Zaa) (ht :
 Q (.bool true) h) : Ysp Q h :=
 At.mk (cast (by kernel_rfl) ht)
theorem call (a0 : Pt) (x1x0 : Int) (a1x1 : Pt) (n1x1 c1x1 : Nat) (e1x1 : Bool) (x2x0 : Int) (a2x1 : Pt) (n2x1 c2x1 : Nat) (e2x1 : Bool) (h : Zaa) (Q : QT) (ht :
 Zcn (h ++ [.cells Zac [.int .u8 x1x0, .slice a1x1 n1x1 c1x1 e1x1] false]) fun H0 => Zcn (H0 ++ [.cells Zac [.int .u8 x2x0, .slice a2x1 n2x1 c2x1 e2x1] false]) fun H1 => Zen .u8 (Zal H1 (.ptr (some (h.length, 0 + 0)))) fun X2 => Zae pg Zhm [.int .u8 X2] H1 fun V3 H4 =>
 Zen .i64 (some V3) fun X5 => bcase (decide ((X5 : Int) ≥ 0)) (Zbl a0 fun I6 O7 => (0 ≤ (X5 : Int) ∧ (X5 : Int) < (12 : Nat)) ∧ (Zen .u8 (Zal H4 (.ptr (some (I6, O7 + (Int.toNat X5) * 2 + 0)))) fun X8 => bcase ((X8 : Int) == 0) (Zbl a0 fun I9 O10 => Zcz (Zbx H4 (.ptr (some (H0.length, 0))) 2) fun K11 => Zao K11 fun C12 Z13 => Zen .u8 (some C12) fun X14 => Zao Z13 fun C15 Z16 => xSl (some C15) fun A17 N18 C19 E20 => Zcl Z16 ((0 ≤ (X5 : Int) ∧ (X5 : Int) < (12 : Nat)) ∧ (Zcp (Zbn H4 (.ptr (some (I9, O10 + (Int.toNat X5) * 2))) [.int .u8 X14, .slice A17 N18 C19 E20]) fun H21 => Q (.bool true) H21))) (Zbl a0 fun I22 O23 => (0 ≤ (X5 : Int) ∧ (X5 : Int) < (12 : Nat)) ∧ (Zcz (Zbx H4 (.ptr (some (I22, O23 + (Int.toNat X5) * 2))) 2) fun K24 => Zao K24 fun C25 Z26 => Zen .u8 (some C25) fun X27 => Zao Z26 fun C28 Z29 => xSl (some C28) fun A30 N31 C32 E33 => Zcl Z29 (Zcz (Zbx H4 (.ptr (some (H0.length, 0))) 2) fun K34 => Zao K34 fun C35 Z36 => Zen .u8 (some C35) fun X37 => Zao Z36 fun C38 Z39 => xSl (some C38) fun A40 N41 C42 E43 => Zcl Z39 (Zae pg Zfu [.agg [.int .u8 X27, .slice A30 N31 C32 E33]] H4 fun V44 H45 =>
 Zbp (some V44) fun S46 => (Zbx H45 (.ptr (some (H0.length, 0))) 2 = Zbx H4 (.ptr (some (H0.length, 0))) 2) ∧ Zae pg Zfu [.agg [.int .u8 X37, .slice A40 N41 C42 E43]] H45 fun V47 H48 =>
 Zbp (some V47) fun S49 => (Zbx H48 (.ptr (some (I22, O23 + (Int.toNat X5) * 2))) 2 = Zbx H45 (.ptr (some (I22, O23 + (Int.toNat X5) * 2))) 2) ∧ Q (.bool (decide (S46 = S49))) H48)))))) (Zen .u8 (Zal H4 (.ptr (some (h.length, 0 + 0)))) fun X50 => Zen .u8 (Zal H4 (.ptr (some (H0.length, 0 + 0)))) fun X51 => bcase (!((X50 : Int) == X51)) (Q (.bool false) H4) (xSl (Zal H4 (.ptr (some (h.length, 0 + 1)))) fun A52 N53 C54 E55 => L10 Q a0 h.length 0 H0.length 0 (((N53 : Nat) : Int)) 0 H4))) : Zae pg Zkc [.ptr a0, .agg [.int .u8 x1x0, .slice a1x1 n1x1 c1x1 e1x1], .agg [.int .u8 x2x0, .slice a2x1 n2x1 c2x1 e2x1]] h Q :=
 Zae.of_body kp (c := cod fn) (fn := fn) Go.Proofs.Tryz.func142 (by kernel_rfl) (by kernel_rfl) (Nat.le_of_ble_eq_true (by kernel_rfl))
  (cast (by kernel_rfl) ht)
end Zhg
end Go.Sim

set_option maxRecDepth 100000
set_option linter.unusedVariables false
namespace Go.Sim
open Go Go.RowKit
end Go.Sim

set_option maxRecDepth 100000
set_option linter.unusedVariables false
namespace Go.Sim
open Go Go.RowKit
namespace Zos
noncomputable abbrev fn : Func := Go.Proofs.Tryz.f34
def kp : Zcd := []
noncomputable def C (p : List Nat) : Code := (cod fn).sub p
def KR (Q : QT) : KT := Zem pg fn.results.toList Q
theorem call (a0x0 : Pt) (n0x0 c0x0 : Nat) (e0x0 : Bool) (a0x1 : Pt) (n0x1 c0x1 : Nat) (e0x1 : Bool) (x1x0 x1x1 : List Nat) (h : Zaa) (Q : QT) (ht :
 Zcn (h ++ [.cells Zaj [.slice a0x0 n0x0 c0x0 e0x0, .slice a0x1 n0x1 c0x1 e0x1] false]) fun H0 => Zcn (H0 ++ [.cells Zad [.str x1x0, .str x1x1] false]) fun H1 => Zcz (Zbx H1 (.ptr (some (h.length, 0))) 2) fun K2 => Zao K2 fun C3 Z4 => xSl (some C3) fun A5 N6 C7 E8 => Zao Z4 fun C9 Z10 => xSl (some C9) fun A11 N12 C13 E14 => Zcl Z10 (Zae pg Zjs [.agg [.slice A5 N6 C7 E8, .slice A11 N12 C13 E14]] H1 fun V15 H16 =>
 Zch (some V15) fun B17 => bcase B17 (Zcz (Zbx H16 (.ptr (some (h.length, 0))) 2) fun K18 => Zao K18 fun C19 Z20 => xSl (some C19) fun A21 N22 C23 E24 => Zao Z20 fun C25 Z26 => xSl (some C25) fun A27 N28 C29 E30 => Zcl Z26 (Zcz (Zbx H16 (.ptr (some (H0.length, 0))) 2) fun K31 => Zao K31 fun C32 Z33 => Zbp (some C32) fun S34 => Zao Z33 fun C35 Z36 => Zbp (some C35) fun S37 => Zcl Z36 (Zae pg Znw [.agg [.slice A21 N22 C23 E24, .slice A27 N28 C29 E30], .agg [.str S34, .str S37]] H16 fun V38 H39 =>
 Zch (some V38) fun B40 => Q (.bool B40) H39))) (Q (.bool false) H16))) : Zae pg Zkl [.agg [.slice a0x0 n0x0 c0x0 e0x0, .slice a0x1 n0x1 c0x1 e0x1], .agg [.str x1x0, .str x1x1]] h Q :=
 Zae.of_body kp (c := cod fn) (fn := fn) Go.Proofs.Tryz.func34 (by kernel_rfl) (by kernel_rfl) (Nat.le_of_ble_eq_true (by kernel_rfl))
  (cast (by kernel_rfl) ht)
end Zos
namespace Zjd
noncomputable abbrev fn : Func := Go.Proofs.Tryz.f127
def kp : Zcd := []
noncomputable def C (p : List Nat) : Code := (cod fn).sub p
def KR (Q : QT) : KT := Zem pg fn.results.toList Q
theorem call (x0x0 x0x1 : List Nat) (a0x2 : Pt) (n0x2 c0x2 : Nat) (e0x2 : Bool) (v1 : Zaq) (h : Zaa) (Q : QT) (ht :
 Zcn (h ++ [.cells Zai [.str x0x0, .str x0x1, .slice a0x2 n0x2 c0x2 e0x2] false]) fun H0 => Zbp (Zal H0 (.ptr (some (h.length, 0 + 0 + 1)))) fun S1 => Zjm pg Zad v1 1 fun V2 => Zbp (Zal H0 (V2)) fun S3 => Zae pg Zju [.str S1, .str S3] H0 fun V4 H5 =>
 Zch (some V4) fun B6 => Q (.bool B6) H5) : Zae pg Zce [.agg [.str x0x0, .str x0x1, .slice a0x2 n0x2 c0x2 e0x2], v1] h Q :=
 Zae.of_body kp (c := cod fn) (fn := fn) Go.Proofs.Tryz.func127 (by kernel_rfl) (by kernel_rfl) (Nat.le_of_ble_eq_true (by kernel_rfl))
  (cast (by kernel_rfl) ht)
end Zjd
namespace Zbv
noncomputable abbrev fn : Func := Go.Proofs.Tryz.f126
def kp : Zcd := [(3000003, [7]), (1000003, [1, 2, 7, 12, 13, 14]), (4000007, [14, 13, 12, 1, 2, 7])]
noncomputable def C (p : List Nat) : Code := (cod fn).sub p
def KR (Q : QT) : KT := Zem pg fn.results.toList Q
abbrev T3 := List Nat → Zaq → Pt → Nat → Nat → Bool → Pt → Nat → Nat → Bool → Int → Int → Zaa → Prop
def E3 (R3 : T3) (env : Env) (h : Zaa) : Prop := Zbj 1 env fun v env => Zbp (some v) fun x1 => Zbj 2 env fun v env => eFn Zce v fun cs => Zao cs fun c cs' => Zzx (some c) fun v2x0 => Zcl cs' (Zbj 7 env fun v env => xSl (some v) fun a7 n7 c7 e7 => Zbj 12 env fun v env => xSl (some v) fun a12 n12 c12 e12 => Zbj 13 env fun v env => Zda .i64 v fun x13 => Zbj 14 env fun v env => Zda .i64 v fun x14 => Ziw env (R3 x1 v2x0 a7 n7 c7 e7 a12 n12 c12 e12 x13 x14 h))
theorem Zej {R3 : T3} {env : Env} {h : Zaa} (hi : E3 R3 env h) : ∃ x1, ∃ v2x0, ∃ a7, ∃ n7, ∃ c7, ∃ e7, ∃ a12, ∃ n12, ∃ c12, ∃ e12, ∃ x13, ∃ x14, env = [(1, .str x1), (2, .fn Zce [v2x0]), (7, .slice a7 n7 c7 e7), (12, .slice a12 n12 c12 e12), (13, .int .i64 x13), (14, .int .i64 x14)] ∧ R3 x1 v2x0 a7 n7 c7 e7 a12 n12 c12 e12 x13 x14 h := by
 unfold E3 at hi
 have hi0 := hi
 clear hi
 obtain ⟨_, _, rfl, hi1⟩ := Zab hi0
 obtain ⟨x1, rfl, hi2⟩ := Zdw hi1
 obtain ⟨_, _, rfl, hi3⟩ := Zab hi2
 obtain ⟨cs, rfl, hi4⟩ := Zyt hi3
 obtain ⟨c, cs', rfl, hi5⟩ := Ztc hi4
 obtain ⟨v2x0, hx, hi6⟩ := Znm hi5
 replace hx := (Option.some.inj hx).symm
 subst hx
 obtain ⟨rfl, hi7⟩ := Zvb hi6
 obtain ⟨_, _, rfl, hi8⟩ := Zab hi7
 obtain ⟨a7, n7, c7, e7, rfl, hi9⟩ := Zax hi8
 obtain ⟨_, _, rfl, hi10⟩ := Zab hi9
 obtain ⟨a12, n12, c12, e12, rfl, hi11⟩ := Zax hi10
 obtain ⟨_, _, rfl, hi12⟩ := Zab hi11
 obtain ⟨x13, rfl, hi13⟩ := Zak hi12
 obtain ⟨_, _, rfl, hi14⟩ := Zab hi13
 obtain ⟨x14, rfl, hi15⟩ := Zak hi14
 obtain ⟨rfl, hi16⟩ := Zbk hi15
 have hi := hi16
 exact ⟨x1, v2x0, a7, n7, c7, e7, a12, n12, c12, e12, x13, x14, rfl, hi⟩
def K0 (Q : QT) : KT := andThen (fun env' h' => (match kp.find 4000008 with | some ks => Den pg fn.ntmps (C [1, 1, 1]) (env'.keep ks) h' (KR Q) | none => den pg fn.ntmps kp (C [1, 1, 1]) env' h' (KR Q))) (KR Q)
def K1 (Q : QT) : KT := Zcg 0 (K0 Q)
def K2 (Q : QT) : KT := Zgf kp 3 (K1 Q)
def K3 (Q : QT) (R3 : T3) : KT := rnd ((kp.find 1000003).getD []) (E3 R3) (K2 Q)
def L3 (Q : QT) (x1 : List Nat) (v2x0 : Zaq) (a7 : Pt) (n7 c7 : Nat) (e7 : Bool) (a12 : Pt) (n12 c12 : Nat) (e12 : Bool) (x13 x14 : Int) (h : Zaa) : Prop := Zdz (Den pg fn.ntmps (C [1, 1, 0, 1, 0, 0])) ((kp.find 1000003).getD []) (K2 Q) [(1, .str x1), (2, .fn Zce [v2x0]), (7, .slice a7 n7 c7 e7), (12, .slice a12 n12 c12 e12), (13, .int .i64 x13), (14, .int .i64 x14)] h
def J7 (Q : QT) (R3 : T3) (x14 x13 : Int) (a12 : Pt) (n12 c12 : Nat) (e12 : Bool) (x1 : List Nat) (v2x0 : Zaq) (a7 : Pt) (n7 c7 : Nat) (e7 : Bool) (h : Zaa) : Prop := Den pg fn.ntmps (C [1, 1, 0, 1, 0, 0, 1, 1, 1]) [(14, .int .i64 x14), (13, .int .i64 x13), (12, .slice a12 n12 c12 e12), (1, .str x1), (2, .fn Zce [v2x0]), (7, .slice a7 n7 c7 e7)] h (K3 Q R3)
def Zpf (Q : QT) (a7 : Pt) (n7 c7 : Nat) (e7 : Bool) (h : Zaa) : Prop := At (K1 Q) (.exit 0) [(7, .slice a7 n7 c7 e7)] h
def L3t (Q : QT) (R3 : T3) (x1 : List Nat) (v2x0 : Zaq) (a7 : Pt) (n7 c7 : Nat) (e7 : Bool) (a12 : Pt) (n12 c12 : Nat) (e12 : Bool) (x13 x14 : Int) (h : Zaa) : Prop :=
 bcase (decide ((x14 : Int) < x13)) ((0 ≤ (x14 : Int) ∧ (x14 : Int) < (n12 : Nat)) ∧ (Zbl a12 fun I6 O7 => Zcz (Zbx h (.ptr (some (I6, O7 + (Int.toNat x14) * 3))) 3) fun K8 => Zao K8 fun C9 Z10 => Zbp (some C9) fun S11 => Zao Z10 fun C12 Z13 => Zbp (some C12) fun S14 => Zao Z13 fun C15 Z16 => xSl (some C15) fun A17 N18 C19 E20 => Zcl Z16 (Zcn (h ++ [.cells Zai [.str [], .str [], .slice none 0 0 true] false]) fun H21 => Zcp (Zbn H21 (.ptr (some (h.length, 0))) [.str S11, .str S14, .slice A17 N18 C19 E20]) fun H22 => Zbp (Zal H22 (.ptr (some (h.length, 0 + 0 + 0)))) fun S23 => bcase (decide (S23 = x1)) (Zcz (Zbx H22 (.ptr (some (h.length, 0))) 3) fun K24 => Zao K24 fun C25 Z26 => Zbp (some C25) fun S27 => Zao Z26 fun C28 Z29 => Zbp (some C28) fun S30 => Zao Z29 fun C31 Z32 => xSl (some C31) fun A33 N34 C35 E36 => Zcl Z32 (Zae pg Zce [.agg [.str S27, .str S30, .slice A33 N34 C35 E36], v2x0] H22 fun V37 H38 =>
 Zch (some V37) fun B39 => bcase B39 (Zcn (H38 ++ [.cells Zjb [.int .i64 x14] false]) fun H40 => Zdc pg Yep H40 (.slice a7 n7 c7 e7) (.slice (some (H38.length, 0)) 1 1 true) fun V41 H42 => xSl (some V41) fun A43 N44 C45 E46 => J7 Q R3 x14 x13 a12 n12 c12 e12 x1 v2x0 A43 N44 C45 E46 H42) (J7 Q R3 x14 x13 a12 n12 c12 e12 x1 v2x0 a7 n7 c7 e7 H38))) (J7 Q R3 x14 x13 a12 n12 c12 e12 x1 v2x0 a7 n7 c7 e7 H22)))) (Zpf Q a7 n7 c7 e7 h)
theorem Zkx (Q : QT) (R3 : T3) (x1 : List Nat) (v2x0 : Zaq) (a7 : Pt) (n7 c7 : Nat) (e7 : Bool) (a12 : Pt) (n12 c12 : Nat) (e12 : Bool) (x13 x14 : Int) (h : Zaa) (ht : L3t Q R3 x1 v2x0 a7 n7 c7 e7 a12 n12 c12 e12 x13 x14 h) : Den pg fn.ntmps (C [1, 1, 0, 1, 0, 0]) [(1, .str x1), (2, .fn Zce [v2x0]), (7, .slice a7 n7 c7 e7), (12, .slice a12 n12 c12 e12), (13, .int .i64 x13), (14, .int .i64 x14)] h (K3 Q R3) :=
 Zbb (kp := kp) (cast (by kernel_rfl) ht)
theorem L3ind (Q : QT) (x1 : List Nat) (v2x0 : Zaq) (a12 : Pt) (n12 c12 : Nat) (e12 : Bool) (x13 : Int) {G : Type} (J : G → Pt → Nat → Nat → Bool → Int → Zaa → Prop) (m : G → Nat)
 (hr : ∀ (g : G) (a7 : Pt) (n7 c7 : Nat) (e7 : Bool) (x14 : Int) (h : Zaa), J g a7 n7 c7 e7 x14 h → ∀ (R3 : T3), (∀ g' (a7 : Pt) (n7 c7 : Nat) (e7 : Bool) (x14 : Int) (h : Zaa), m g' < m g → J g' a7 n7 c7 e7 x14 h → R3 x1 v2x0 a7 n7 c7 e7 a12 n12 c12 e12 x13 x14 h) → L3t Q R3 x1 v2x0 a7 n7 c7 e7 a12 n12 c12 e12 x13 x14 h)
 (g : G) (a7 : Pt) (n7 c7 : Nat) (e7 : Bool) (x14 : Int) (h : Zaa) (hj : J g a7 n7 c7 e7 x14 h) : L3 Q x1 v2x0 a7 n7 c7 e7 a12 n12 c12 e12 x13 x14 h := by
 refine Zdz.inv2 (fun g => E3 fun x1' v2x0' a7 n7 c7 e7 a12' n12' c12' e12' x13' x14 h => x1 = x1' ∧ v2x0 = v2x0' ∧ a12 = a12' ∧ n12 = n12' ∧ c12 = c12' ∧ e12 = e12' ∧ x13 = x13' ∧ J g a7 n7 c7 e7 x14 h) (fun g => E3 fun x1' v2x0' a7 n7 c7 e7 a12' n12' c12' e12' x13' x14 h => x1 = x1' ∧ v2x0 = v2x0' ∧ a12 = a12' ∧ n12 = n12' ∧ c12 = c12' ∧ e12 = e12' ∧ x13 = x13' ∧ ∃ g', m g' < m g ∧ J g' a7 n7 c7 e7 x14 h) m ?_ ?_ g ⟨rfl, rfl, rfl, rfl, rfl, rfl, rfl, hj⟩
 ·intro g env h hi
  obtain ⟨x1', v2x0', a7, n7, c7, e7, a12', n12', c12', e12', x13', x14, rfl, rfl, rfl, rfl, rfl, rfl, rfl, rfl, hj⟩ := Zej hi
  exact Zkx Q _ x1 v2x0 a7 n7 c7 e7 a12 n12 c12 e12 x13 x14 h (hr g a7 n7 c7 e7 x14 h hj (fun x1' v2x0' a7 n7 c7 e7 a12' n12' c12' e12' x13' x14 h => x1 = x1' ∧ v2x0 = v2x0' ∧ a12 = a12' ∧ n12 = n12' ∧ c12 = c12' ∧ e12 = e12' ∧ x13 = x13' ∧ ∃ g', m g' < m g ∧ J g' a7 n7 c7 e7 x14 h) fun g' a7 n7 c7 e7 x14 h hlt hj => ⟨rfl, rfl, rfl, rfl, rfl, rfl, rfl, g', hlt, hj⟩)
 ·intro g env h hi
  obtain ⟨x1', v2x0', a7, n7, c7, e7, a12', n12', c12', e12', x13', x14, rfl, rfl, rfl, rfl, rfl, rfl, rfl, rfl, g', hlt, hj⟩ := Zej hi
  exact ⟨g', hlt, rfl, rfl, rfl, rfl, rfl, rfl, rfl, hj⟩
theorem J7i (Q : QT) (R3 : T3) (x14 x13 : Int) (a12 : Pt) (n12 c12 : Nat) (e12 : Bool) (x1 : List Nat) (v2x0 : Zaq) (a7 : Pt) (n7 c7 : Nat) (e7 : Bool) (h : Zaa) (ht :
 R3 x1 v2x0 a7 n7 c7 e7 a12 n12 c12 e12 x13 (IntKind.wrap .i64 (x14 + 1)) h) : J7 Q R3 x14 x13 a12 n12 c12 e12 x1 v2x0 a7 n7 c7 e7 h :=
 Zbb (kp := kp) (cast (by kernel_rfl) ht)
theorem A3x0i (Q : QT) (a7 : Pt) (n7 c7 : Nat) (e7 : Bool) (h : Zaa) (ht :
 Q (.slice a7 n7 c7 e7) h) : Zpf Q a7 n7 c7 e7 h :=
 At.mk (cast (by kernel_rfl) ht)
theorem call (a0x0 : Pt) (n0x0 c0x0 : Nat) (e0x0 : Bool) (a0x1 : Pt) (n0x1 c0x1 : Nat) (e0x1 : Bool) (x1 : List Nat) (v2x0 : Zaq) (h : Zaa) (Q : QT) (ht :
 Zcn (h ++ [.cells Zaj [.slice a0x0 n0x0 c0x0 e0x0, .slice a0x1 n0x1 c0x1 e0x1] false]) fun H0 => Zcn (H0 ++ [.cells Zjb [] false]) fun H1 => xSl (Zal H1 (.ptr (some (h.length, 0 + 1)))) fun A2 N3 C4 E5 => L3 Q x1 v2x0 (some (H0.length, 0)) 0 0 true A2 N3 C4 E5 (((N3 : Nat) : Int)) 0 H1) : Zae pg Zpg [.agg [.slice a0x0 n0x0 c0x0 e0x0, .slice a0x1 n0x1 c0x1 e0x1], .str x1, .fn Zce [v2x0]] h Q :=
 Zae.of_body kp (c := cod fn) (fn := fn) Go.Proofs.Tryz.func126 (by kernel_rfl) (by kernel_rfl) (Nat.le_of_ble_eq_true (by kernel_rfl))
  (cast (by kernel_rfl) ht)
end Zbv
namespace Znp
noncomputable abbrev fn : Func := Go.Proofs.Tryz.f92
def kp : Zcd := []
noncomputable def C (p : List Nat) : Code := (cod fn).sub p
def KR (Q : QT) : KT := Zem pg fn.results.toList Q
theorem call (a0x0 : Pt) (n0x0 c0x0 : Nat) (e0x0 : Bool) (a0x1 : Pt) (n0x1 c0x1 : Nat) (e0x1 : Bool) (x1x0 x1x1 : List Nat) (h : Zaa) (Q : QT) (ht :
 Zcn (h ++ [.cells Zaj [.slice a0x0 n0x0 c0x0 e0x0, .slice a0x1 n0x1 c0x1 e0x1] false]) fun H0 => Zcn (H0 ++ [.cells Zad [.str x1x0, .str x1x1] false]) fun H1 => Zcz (Zbx H1 (.ptr (some (h.length, 0))) 2) fun K2 => Zao K2 fun C3 Z4 => xSl (some C3) fun A5 N6 C7 E8 => Zao Z4 fun C9 Z10 => xSl (some C9) fun A11 N12 C13 E14 => Zcl Z10 (Zbp (Zal H1 (.ptr (some (H0.length, 0 + 0)))) fun S15 => Zae pg Zpg [.agg [.slice A5 N6 C7 E8, .slice A11 N12 C13 E14], .str S15, .fn Zce [.ptr (some (H0.length, 0))]] H1 fun V16 H17 =>
 xSl (some V16) fun A18 N19 C20 E21 => Q (.slice A18 N19 C20 E21) H17)) : Zae pg Zjr [.agg [.slice a0x0 n0x0 c0x0 e0x0, .slice a0x1 n0x1 c0x1 e0x1], .agg [.str x1x0, .str x1x1]] h Q :=
 Zae.of_body kp (c := cod fn) (fn := fn) Go.Proofs.Tryz.func92 (by kernel_rfl) (by kernel_rfl) (Nat.le_of_ble_eq_true (by kernel_rfl))
  (cast (by kernel_rfl) ht)
end Znp
namespace Zdh
noncomputable abbrev fn : Func := Go.Proofs.Tryz.f85
def kp : Zcd := [(3000003, [5]), (1000003, [3, 5, 10, 11, 12]), (4000007, [12, 11, 10, 3, 5])]
noncomputable def C (p : List Nat) : Code := (cod fn).sub p
def KR (Q : QT) : KT := Zem pg fn.results.toList Q
abbrev T3 := Nat → Nat → Pt → Nat → Nat → Bool → Pt → Nat → Nat → Bool → Int → Int → Zaa → Prop
def E3 (R3 : T3) (env : Env) (h : Zaa) : Prop := Zbj 3 env fun v env => Zgg (some v) fun a => Zbl a fun i3 o3 => Zbj 5 env fun v env => xSl (some v) fun a5 n5 c5 e5 => Zbj 10 env fun v env => xSl (some v) fun a10 n10 c10 e10 => Zbj 11 env fun v env => Zda .i64 v fun x11 => Zbj 12 env fun v env => Zda .i64 v fun x12 => Ziw env (R3 i3 o3 a5 n5 c5 e5 a10 n10 c10 e10 x11 x12 h)
theorem Zej {R3 : T3} {env : Env} {h : Zaa} (hi : E3 R3 env h) : ∃ i3, ∃ o3, ∃ a5, ∃ n5, ∃ c5, ∃ e5, ∃ a10, ∃ n10, ∃ c10, ∃ e10, ∃ x11, ∃ x12, env = [(3, .ptr (some (i3, o3))), (5, .slice a5 n5 c5 e5), (10, .slice a10 n10 c10 e10), (11, .int .i64 x11), (12, .int .i64 x12)] ∧ R3 i3 o3 a5 n5 c5 e5 a10 n10 c10 e10 x11 x12 h := by
 unfold E3 at hi
 have hi0 := hi
 clear hi
 obtain ⟨_, _, rfl, hi1⟩ := Zab hi0
 obtain ⟨a, rfl, hi2⟩ := Zbo hi1
 obtain ⟨i3, o3, rfl, hi3⟩ := Zbs hi2
 obtain ⟨_, _, rfl, hi4⟩ := Zab hi3
 obtain ⟨a5, n5, c5, e5, rfl, hi5⟩ := Zax hi4
 obtain ⟨_, _, rfl, hi6⟩ := Zab hi5
 obtain ⟨a10, n10, c10, e10, rfl, hi7⟩ := Zax hi6
 obtain ⟨_, _, rfl, hi8⟩ := Zab hi7
 obtain ⟨x11, rfl, hi9⟩ := Zak hi8
 obtain ⟨_, _, rfl, hi10⟩ := Zab hi9
 obtain ⟨x12, rfl, hi11⟩ := Zak hi10
 obtain ⟨rfl, hi12⟩ := Zbk hi11
 have hi := hi12
 exact ⟨i3, o3, a5, n5, c5, e5, a10, n10, c10, e10, x11, x12, rfl, hi⟩
def K0 (Q : QT) : KT := andThen (fun env' h' => (match kp.find 4000008 with | some ks => Den pg fn.ntmps (C [1, 1, 1]) (env'.keep ks) h' (KR Q) | none => den pg fn.ntmps kp (C [1, 1, 1]) env' h' (KR Q))) (KR Q)
def K1 (Q : QT) : KT := Zcg 0 (K0 Q)
def K2 (Q : QT) : KT := Zgf kp 3 (K1 Q)
def K3 (Q : QT) (R3 : T3) : KT := rnd ((kp.find 1000003).getD []) (E3 R3) (K2 Q)
def L3 (Q : QT) (i3 o3 : Nat) (a5 : Pt) (n5 c5 : Nat) (e5 : Bool) (a10 : Pt) (n10 c10 : Nat) (e10 : Bool) (x11 x12 : Int) (h : Zaa) : Prop := Zdz (Den pg fn.ntmps (C [1, 1, 0, 1, 0, 0])) ((kp.find 1000003).getD []) (K2 Q) [(3, .ptr (some (i3, o3))), (5, .slice a5 n5 c5 e5), (10, .slice a10 n10 c10 e10), (11, .int .i64 x11), (12, .int .i64 x12)] h
def J7 (Q : QT) (R3 : T3) (x12 x11 : Int) (a10 : Pt) (n10 c10 : Nat) (e10 : Bool) (i3 o3 : Nat) (a5 : Pt) (n5 c5 : Nat) (e5 : Bool) (h : Zaa) : Prop := Den pg fn.ntmps (C [1, 1, 0, 1, 0, 0, 1, 1, 1]) [(12, .int .i64 x12), (11, .int .i64 x11), (10, .slice a10 n10 c10 e10), (3, .ptr (some (i3, o3))), (5, .slice a5 n5 c5 e5)] h (K3 Q R3)
def Zpf (Q : QT) (a5 : Pt) (n5 c5 : Nat) (e5 : Bool) (h : Zaa) : Prop := At (K1 Q) (.exit 0) [(5, .slice a5 n5 c5 e5)] h
def L3t (Q : QT) (R3 : T3) (i3 o3 : Nat) (a5 : Pt) (n5 c5 : Nat) (e5 : Bool) (a10 : Pt) (n10 c10 : Nat) (e10 : Bool) (x11 x12 : Int) (h : Zaa) : Prop :=
 bcase (decide ((x12 : Int) < x11)) ((0 ≤ (x12 : Int) ∧ (x12 : Int) < (n10 : Nat)) ∧ (Zbl a10 fun I7 O8 => Zcz (Zbx h (.ptr (some (I7, O8 + (Int.toNat x12) * 3))) 3) fun K9 => Zao K9 fun C10 Z11 => Zbp (some C10) fun S12 => Zao Z11 fun C13 Z14 => Zbp (some C13) fun S15 => Zao Z14 fun C16 Z17 => xSl (some C16) fun A18 N19 C20 E21 => Zcl Z17 (Zcn (h ++ [.cells Zai [.str [], .str [], .slice none 0 0 true] false]) fun H22 => Zcp (Zbn H22 (.ptr (some (h.length, 0))) [.str S12, .str S15, .slice A18 N19 C20 E21]) fun H23 => Zbp (Zal H23 (.ptr (some (h.length, 0 + 0 + 0)))) fun S24 => Zbp (Zal H23 (.ptr (some (i3, o3 + 0)))) fun S25 => bcase (decide (S24 = S25)) (Zbp (Zal H23 (.ptr (some (h.length, 0 + 0 + 1)))) fun S26 => Zbp (Zal H23 (.ptr (some (i3, o3 + 1)))) fun S27 => Zae pg Zjk [.str S26, .str S27] H23 fun V28 H29 =>
 Zch (some V28) fun B30 => bcase B30 (Zcn (H29 ++ [.cells Zjb [.int .i64 x12] false]) fun H31 => Zdc pg Yep H31 (.slice a5 n5 c5 e5) (.slice (some (H29.length, 0)) 1 1 true) fun V32 H33 => xSl (some V32) fun A34 N35 C36 E37 => J7 Q R3 x12 x11 a10 n10 c10 e10 i3 o3 A34 N35 C36 E37 H33) (J7 Q R3 x12 x11 a10 n10 c10 e10 i3 o3 a5 n5 c5 e5 H29)) (J7 Q R3 x12 x11 a10 n10 c10 e10 i3 o3 a5 n5 c5 e5 H23)))) (Zpf Q a5 n5 c5 e5 h)
theorem Zkx (Q : QT) (R3 : T3) (i3 o3 : Nat) (a5 : Pt) (n5 c5 : Nat) (e5 : Bool) (a10 : Pt) (n10 c10 : Nat) (e10 : Bool) (x11 x12 : Int) (h : Zaa) (ht : L3t Q R3 i3 o3 a5 n5 c5 e5 a10 n10 c10 e10 x11 x12 h) : Den pg fn.ntmps (C [1, 1, 0, 1, 0, 0]) [(3, .ptr (some (i3, o3))), (5, .slice a5 n5 c5 e5), (10, .slice a10 n10 c10 e10), (11, .int .i64 x11), (12, .int .i64 x12)] h (K3 Q R3) :=
 Zbb (kp := kp) (cast (by kernel_rfl) ht)
theorem L3ind (Q : QT) (i3 o3 : Nat) (a10 : Pt) (n10 c10 : Nat) (e10 : Bool) (x11 : Int) {G : Type} (J : G → Pt → Nat → Nat → Bool → Int → Zaa → Prop) (m : G → Nat)
 (hr : ∀ (g : G) (a5 : Pt) (n5 c5 : Nat) (e5 : Bool) (x12 : Int) (h : Zaa), J g a5 n5 c5 e5 x12 h → ∀ (R3 : T3), (∀ g' (a5 : Pt) (n5 c5 : Nat) (e5 : Bool) (x12 : Int) (h : Zaa), m g' < m g → J g' a5 n5 c5 e5 x12 h → R3 i3 o3 a5 n5 c5 e5 a10 n10 c10 e10 x11 x12 h) → L3t Q R3 i3 o3 a5 n5 c5 e5 a10 n10 c10 e10 x11 x12 h)
 (g : G) (a5 : Pt) (n5 c5 : Nat) (e5 : Bool) (x12 : Int) (h : Zaa) (hj : J g a5 n5 c5 e5 x12 h) : L3 Q i3 o3 a5 n5 c5 e5 a10 n10 c10 e10 x11 x12 h := by
 refine Zdz.inv2 (fun g => E3 fun i3' o3' a5 n5 c5 e5 a10' n10' c10' e10' x11' x12 h => i3 = i3' ∧ o3 = o3' ∧ a10 = a10' ∧ n10 = n10' ∧ c10 = c10' ∧ e10 = e10' ∧ x11 = x11' ∧ J g a5 n5 c5 e5 x12 h) (fun g => E3 fun i3' o3' a5 n5 c5 e5 a10' n10' c10' e10' x11' x12 h => i3 = i3' ∧ o3 = o3' ∧ a10 = a10' ∧ n10 = n10' ∧ c10 = c10' ∧ e10 = e10' ∧ x11 = x11' ∧ ∃ g', m g' < m g ∧ J g' a5 n5 c5 e5 x12 h) m ?_ ?_ g ⟨rfl, rfl, rfl, rfl, rfl, rfl, rfl, hj⟩
 ·intro g env h hi
  obtain ⟨i3', o3', a5, n5, c5, e5, a10', n10', c10', e10', x11', x12, rfl, rfl, rfl, rfl, rfl, rfl, rfl, rfl, hj⟩ := Zej hi
  exact Zkx Q _ i3 o3 a5 n5 c5 e5 a10 n10 c10 e10 x11 x12 h (hr g a5 n5 c5 e5 x12 h hj (fun i3' o3' a5 n5 c5 e5 a10' n10' c10' e10' x11' x12 h => i3 = i3' ∧ o3 = o3' ∧ a10 = a10' ∧ n10 = n10' ∧ c10 = c10' ∧ e10 = e10' ∧ x11 = x11' ∧ ∃ g', m g' < m g ∧ J g' a5 n5 c5 e5 x12 h) fun g' a5 n5 c5 e5 x12 h hlt hj => ⟨rfl, rfl, rfl, rfl, rfl, rfl, rfl, g', hlt, hj⟩)
 ·intro g env h hi
  obtain ⟨i3', o3', a5, n5, c5, e5, a10', n10', c10', e10', x11', x12, rfl, rfl, rfl, rfl, rfl, rfl, rfl, rfl, g', hlt, hj⟩ := Zej hi
  exact ⟨g', hlt, rfl, rfl, rfl, rfl, rfl, rfl, rfl, hj⟩
theorem J7i (Q : QT) (R3 : T3) (x12 x11 : Int) (a10 : Pt) (n10 c10 : Nat) (e10 : Bool) (i3 o3 : Nat) (a5 : Pt) (n5 c5 : Nat) (e5 : Bool) (h : Zaa) (ht :
 R3 i3 o3 a5 n5 c5 e5 a10 n10 c10 e10 x11 (IntKind.wrap .i64 (x12 + 1)) h) : J7 Q R3 x12 x11 a10 n10 c10 e10 i3 o3 a5 n5 c5 e5 h :=
 Zbb (kp := kp) (cast (by kernel_rfl) ht)
theorem A3x0i (Q : QT) (a5 : Pt) (n5 c5 : Nat) (e5 : Bool) (h : Zaa) (ht :
 Q (.slice a5 n5 c5 e5) h) : Zpf Q a5 n5 c5 e5 h :=
 At.mk (cast (by kernel_rfl) ht)
theorem call (a0x0 : Pt) (n0x0 c0x0 : Nat) (e0x0 : Bool) (a0x1 : Pt) (n0x1 c0x1 : Nat) (e0x1 : Bool) (x1x0 x1x1 : List Nat) (h : Zaa) (Q : QT) (ht :
 Zcn (h ++ [.cells Zaj [.slice a0x0 n0x0 c0x0 e0x0, .slice a0x1 n0x1 c0x1 e0x1] false]) fun H0 => Zcn (H0 ++ [.cells Zad [.str x1x0, .str x1x1] false]) fun H1 => Zcn (H1 ++ [.cells Zjb [] false]) fun H2 => xSl (Zal H2 (.ptr (some (h.length, 0 + 1)))) fun A3 N4 C5 E6 => L3 Q H0.length 0 (some (H1.length, 0)) 0 0 true A3 N4 C5 E6 (((N4 : Nat) : Int)) 0 H2) : Zae pg Zib [.agg [.slice a0x0 n0x0 c0x0 e0x0, .slice a0x1 n0x1 c0x1 e0x1], .agg [.str x1x0, .str x1x1]] h Q :=
 Zae.of_body kp (c := cod fn) (fn := fn) Go.Proofs.Tryz.func85 (by kernel_rfl) (by kernel_rfl) (Nat.le_of_ble_eq_true (by kernel_rfl))
  (cast (by kernel_rfl) ht)
end Zdh
end Go.Sim

set_option maxRecDepth 100000
set_option linter.unusedVariables false
namespace Go.Sim
open Go Go.RowKit
end Go.Sim

set_option maxRecDepth 100000
set_option linter.unusedVariables false
namespace Go.Sim
open Go Go.RowKit
end Go.Sim

set_option maxRecDepth 100000
set_option linter.unusedVariables false
namespace Go.Sim
open Go Go.RowKit
end Go.Sim
