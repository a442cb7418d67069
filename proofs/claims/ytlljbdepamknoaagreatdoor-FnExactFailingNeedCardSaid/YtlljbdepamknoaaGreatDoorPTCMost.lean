/- A part of the proof of a statement of this seat: see the text that holds the theorem. No condition. -/
import Derived.Test.YtlljbdepamknoaaGreatDoorNm
set_option linter.unusedVariables false
set_option linter.unusedSimpArgs false
set_option linter.all false
set_option maxRecDepth 100000
set_option linter.unusedVariables false
namespace Go.Sim
open Go Go.RowKit
namespace Zfp
noncomputable abbrev fn : Func := Go.Proofs.Tryz.f147
def kp : Zcf := [(3000003, [1, 3]), (1000003, [1, 3, 7, 8, 9]), (4000009, [3])]
noncomputable def C (p : List Nat) : Code := (cod fn).sub p
def KR (Q : QT) : KT := Zfc pg fn.results.toList Q
abbrev T3 := Nat → Nat → Int → Pt → Nat → Nat → Bool → Int → Int → Zaa → Prop
def E3 (R3 : T3) (env : Env) (h : Zaa) : Prop := Zca 1 env fun v env => Zhs (some v) fun a => Zbf a fun i1 o1 => Zca 3 env fun v env => Zep .i64 v fun x3 => Zca 7 env fun v env => xSl (some v) fun a7 n7 c7 e7 => Zca 8 env fun v env => Zep .i64 v fun x8 => Zca 9 env fun v env => Zep .i64 v fun x9 => Zlf env (R3 i1 o1 x3 a7 n7 c7 e7 x8 x9 h)
theorem Zey {R3 : T3} {env : Env} {h : Zaa} (hi : E3 R3 env h) : ∃ i1, ∃ o1, ∃ x3, ∃ a7, ∃ n7, ∃ c7, ∃ e7, ∃ x8, ∃ x9, env = [(1, .ptr (some (i1, o1))), (3, .int .i64 x3), (7, .slice a7 n7 c7 e7), (8, .int .i64 x8), (9, .int .i64 x9)] ∧ R3 i1 o1 x3 a7 n7 c7 e7 x8 x9 h := by
  unfold E3 at hi
  have hi0 := hi
  clear hi
  obtain ⟨_, _, rfl, hi1⟩ := Zac hi0
  obtain ⟨a, rfl, hi2⟩ := Zcl hi1
  obtain ⟨i1, o1, rfl, hi3⟩ := Zcc hi2
  obtain ⟨_, _, rfl, hi4⟩ := Zac hi3
  obtain ⟨x3, rfl, hi5⟩ := Zat hi4
  obtain ⟨_, _, rfl, hi6⟩ := Zac hi5
  obtain ⟨a7, n7, c7, e7, rfl, hi7⟩ := Zbi hi6
  obtain ⟨_, _, rfl, hi8⟩ := Zac hi7
  obtain ⟨x8, rfl, hi9⟩ := Zat hi8
  obtain ⟨_, _, rfl, hi10⟩ := Zac hi9
  obtain ⟨x9, rfl, hi11⟩ := Zat hi10
  obtain ⟨rfl, hi12⟩ := Zbq hi11
  have hi := hi12
  exact ⟨i1, o1, x3, a7, n7, c7, e7, x8, x9, rfl, hi⟩
def K0 (Q : QT) : KT := andThen (fun env' h' => (match kp.find 4000007 with | some ks => Den pg fn.ntmps (C [1, 1, 1]) (env'.keep ks) h' (KR Q) | none => den pg fn.ntmps kp (C [1, 1, 1]) env' h' (KR Q))) (KR Q)
def K1 (Q : QT) : KT := Zct 0 (K0 Q)
def K2 (Q : QT) : KT := Zij kp 3 (K1 Q)
def K3 (Q : QT) (R3 : T3) : KT := rnd ((kp.find 1000003).getD []) (E3 R3) (K2 Q)
def L3 (Q : QT) (i1 o1 : Nat) (x3 : Int) (a7 : Pt) (n7 c7 : Nat) (e7 : Bool) (x8 x9 : Int) (h : Zaa) : Prop := Zes (Den pg fn.ntmps (C [1, 1, 0, 1, 0, 0])) ((kp.find 1000003).getD []) (K2 Q) [(1, .ptr (some (i1, o1))), (3, .int .i64 x3), (7, .slice a7 n7 c7 e7), (8, .int .i64 x8), (9, .int .i64 x9)] h
def Zpu (Q : QT) (i1 o1 : Nat) (x3 : Int) (h : Zaa) : Prop := At (K1 Q) (.exit 0) [(1, .ptr (some (i1, o1))), (3, .int .i64 x3)] h
def J9 (Q : QT) (x3 : Int) (h : Zaa) : Prop := Den pg fn.ntmps (C [1, 1, 1, 1]) [(3, .int .i64 x3)] h (KR Q)
def L3t (Q : QT) (R3 : T3) (i1 o1 : Nat) (x3 : Int) (a7 : Pt) (n7 c7 : Nat) (e7 : Bool) (x8 x9 : Int) (h : Zaa) : Prop :=
 bcase (decide ((x9 : Int) < x8)) ((0 ≤ (x9 : Int) ∧ (x9 : Int) < (n7 : Nat)) ∧ (Zbf a7 fun I5 O6 => Zce (Zaw h (.ptr (some (I5, O6 + (Int.toNat x9) * 2))) 2) fun K7 => Zad K7 fun C8 Z9 => Zem .u8 (some C8) fun X10 => Zad Z9 fun C11 Z12 => xSl (some C11) fun A13 N14 C15 E16 => Zbl Z12 (Zck (h ++ [.cells Zaf [.int .u8 0, .slice none 0 0 true] false]) fun H17 => Zbw (Zbc H17 (.ptr (some (h.length, 0))) [.int .u8 X10, .slice A13 N14 C15 E16]) fun H18 => Zce (Zaw H18 (.ptr (some (h.length, 0))) 2) fun K19 => Zad K19 fun C20 Z21 => Zem .u8 (some C20) fun X22 => Zad Z21 fun C23 Z24 => xSl (some C23) fun A25 N26 C27 E28 => Zbl Z24 (Zag pg Zhf [.agg [.int .u8 X22, .slice A25 N26 C27 E28]] H18 fun V29 H30 =>
 Zem .i64 (some V29) fun X31 => R3 i1 o1 (IntKind.wrap .i64 ((IntKind.wrap .i64 (x3 + 1)) + X31)) a7 n7 c7 e7 x8 (IntKind.wrap .i64 (x9 + 1)) H30)))) (Zpu Q i1 o1 x3 h)
theorem Zmg (Q : QT) (R3 : T3) (i1 o1 : Nat) (x3 : Int) (a7 : Pt) (n7 c7 : Nat) (e7 : Bool) (x8 x9 : Int) (h : Zaa) (ht : L3t Q R3 i1 o1 x3 a7 n7 c7 e7 x8 x9 h) : Den pg fn.ntmps (C [1, 1, 0, 1, 0, 0]) [(1, .ptr (some (i1, o1))), (3, .int .i64 x3), (7, .slice a7 n7 c7 e7), (8, .int .i64 x8), (9, .int .i64 x9)] h (K3 Q R3) :=
  Zbe (kp := kp) (cast (by kernel_rfl) ht)
theorem L3ind (Q : QT) (i1 o1 : Nat) (a7 : Pt) (n7 c7 : Nat) (e7 : Bool) (x8 : Int) {G : Type} (J : G → Int → Int → Zaa → Prop) (m : G → Nat)
 (hr : ∀ (g : G) (x3 x9 : Int) (h : Zaa), J g x3 x9 h → ∀ (R3 : T3), (∀ g' (x3 x9 : Int) (h : Zaa), m g' < m g → J g' x3 x9 h → R3 i1 o1 x3 a7 n7 c7 e7 x8 x9 h) → L3t Q R3 i1 o1 x3 a7 n7 c7 e7 x8 x9 h)
 (g : G) (x3 x9 : Int) (h : Zaa) (hj : J g x3 x9 h) : L3 Q i1 o1 x3 a7 n7 c7 e7 x8 x9 h := by
  refine Zes.inv2 (fun g => E3 fun i1' o1' x3 a7' n7' c7' e7' x8' x9 h => i1 = i1' ∧ o1 = o1' ∧ a7 = a7' ∧ n7 = n7' ∧ c7 = c7' ∧ e7 = e7' ∧ x8 = x8' ∧ J g x3 x9 h) (fun g => E3 fun i1' o1' x3 a7' n7' c7' e7' x8' x9 h => i1 = i1' ∧ o1 = o1' ∧ a7 = a7' ∧ n7 = n7' ∧ c7 = c7' ∧ e7 = e7' ∧ x8 = x8' ∧ ∃ g', m g' < m g ∧ J g' x3 x9 h) m ?_ ?_ g ⟨rfl, rfl, rfl, rfl, rfl, rfl, rfl, hj⟩
  · intro g env h hi
    obtain ⟨i1', o1', x3, a7', n7', c7', e7', x8', x9, rfl, rfl, rfl, rfl, rfl, rfl, rfl, rfl, hj⟩ := Zey hi
    exact Zmg Q _ i1 o1 x3 a7 n7 c7 e7 x8 x9 h (hr g x3 x9 h hj (fun i1' o1' x3 a7' n7' c7' e7' x8' x9 h => i1 = i1' ∧ o1 = o1' ∧ a7 = a7' ∧ n7 = n7' ∧ c7 = c7' ∧ e7 = e7' ∧ x8 = x8' ∧ ∃ g', m g' < m g ∧ J g' x3 x9 h) fun g' x3 x9 h hlt hj => ⟨rfl, rfl, rfl, rfl, rfl, rfl, rfl, g', hlt, hj⟩)
  · intro g env h hi
    obtain ⟨i1', o1', x3, a7', n7', c7', e7', x8', x9, rfl, rfl, rfl, rfl, rfl, rfl, rfl, rfl, g', hlt, hj⟩ := Zey hi
    exact ⟨g', hlt, rfl, rfl, rfl, rfl, rfl, rfl, rfl, hj⟩
theorem A3x0i (Q : QT) (i1 o1 : Nat) (x3 : Int) (h : Zaa) (ht :
 xSl (Zae h (.ptr (some (i1, o1 + 1)))) fun A32 N33 C34 E35 => bcase (decide (((((N33 : Nat) : Int)) : Int) > 0)) (J9 Q (IntKind.wrap .i64 (x3 + 1)) h) (J9 Q x3 h)) : Zpu Q i1 o1 x3 h :=
  At.mk (cast (by kernel_rfl) ht)
theorem J9i (Q : QT) (x3 : Int) (h : Zaa) (ht :
 Q (.int .i64 x3) h) : J9 Q x3 h :=
  Zbe (kp := kp) (cast (by kernel_rfl) ht)
theorem call (x0x0 : Int) (a0x1 : Pt) (n0x1 c0x1 : Nat) (e0x1 : Bool) (h : Zaa) (Q : QT) (ht :
 Zck (h ++ [.cells Zaf [.int .u8 x0x0, .slice a0x1 n0x1 c0x1 e0x1] false]) fun H0 => xSl (Zae H0 (.ptr (some (h.length, 0 + 1)))) fun A1 N2 C3 E4 => L3 Q h.length 0 1 A1 N2 C3 E4 (((N2 : Nat) : Int)) 0 H0) : Zag pg Zhf [.agg [.int .u8 x0x0, .slice a0x1 n0x1 c0x1 e0x1]] h Q :=
  Zag.of_body kp (c := cod fn) (fn := fn) Go.Proofs.Tryz.func147 (by kernel_rfl) (by kernel_rfl) (Nat.le_of_ble_eq_true (by kernel_rfl))
    (cast (by kernel_rfl) ht)
end Zfp
namespace Zfg
noncomputable abbrev fn : Func := Go.Proofs.Tryz.f143
def kp : Zcf := [(3000003, [4, 2, 3]), (1000003, [4, 8, 10]), (2000004, [6, 5, 10, 8, 4]), (4000006, [6, 4, 5, 10, 8]), (2000008, [10, 8, 4]), (4000009, [10, 8, 4])]
noncomputable def C (p : List Nat) : Code := (cod fn).sub p
def KR (Q : QT) : KT := Zfc pg fn.results.toList Q
abbrev T3 := Pt → Nat → Nat → Bool → Pt → Int → Zaa → Prop
def E3 (R3 : T3) (env : Env) (h : Zaa) : Prop := Zca 4 env fun v env => xSl (some v) fun a4 n4 c4 e4 => Zca 8 env fun v env => Zhs (some v) fun a8 => Zca 10 env fun v env => Zep .i64 v fun x10 => Zlf env (R3 a4 n4 c4 e4 a8 x10 h)
theorem Zey {R3 : T3} {env : Env} {h : Zaa} (hi : E3 R3 env h) : ∃ a4, ∃ n4, ∃ c4, ∃ e4, ∃ a8, ∃ x10, env = [(4, .slice a4 n4 c4 e4), (8, .ptr a8), (10, .int .i64 x10)] ∧ R3 a4 n4 c4 e4 a8 x10 h := by
  unfold E3 at hi
  have hi0 := hi
  clear hi
  obtain ⟨_, _, rfl, hi1⟩ := Zac hi0
  obtain ⟨a4, n4, c4, e4, rfl, hi2⟩ := Zbi hi1
  obtain ⟨_, _, rfl, hi3⟩ := Zac hi2
  obtain ⟨a8, rfl, hi4⟩ := Zcl hi3
  obtain ⟨_, _, rfl, hi5⟩ := Zac hi4
  obtain ⟨x10, rfl, hi6⟩ := Zat hi5
  obtain ⟨rfl, hi7⟩ := Zbq hi6
  have hi := hi7
  exact ⟨a4, n4, c4, e4, a8, x10, rfl, hi⟩
def K0 (Q : QT) : KT := andThen (fun env' h' => (match kp.find 4000010 with | some ks => Den pg fn.ntmps (C [1, 1, 1]) (env'.keep ks) h' (KR Q) | none => den pg fn.ntmps kp (C [1, 1, 1]) env' h' (KR Q))) (KR Q)
def K1 (Q : QT) : KT := Zct 0 (K0 Q)
def K2 (Q : QT) : KT := Zij kp 3 (K1 Q)
def K3 (Q : QT) (R3 : T3) : KT := rnd ((kp.find 1000003).getD []) (E3 R3) (K2 Q)
def K4 (Q : QT) (R3 : T3) : KT := andThen (fun env' h' => (match kp.find 4000009 with | some ks => Den pg fn.ntmps (C [1, 1, 0, 1, 0, 0, 1, 1, 1]) (env'.keep ks) h' (K3 Q R3) | none => den pg fn.ntmps kp (C [1, 1, 0, 1, 0, 0, 1, 1, 1]) env' h' (K3 Q R3))) (K3 Q R3)
def K5 (Q : QT) (R3 : T3) : KT := Zct 1 (K4 Q R3)
def L3 (Q : QT) (a4 : Pt) (n4 c4 : Nat) (e4 : Bool) (a8 : Pt) (x10 : Int) (h : Zaa) : Prop := Zes (Den pg fn.ntmps (C [1, 1, 0, 1, 0, 0])) ((kp.find 1000003).getD []) (K2 Q) [(4, .slice a4 n4 c4 e4), (8, .ptr a8), (10, .int .i64 x10)] h
def J9 (Q : QT) (R3 : T3) (x10 : Int) (a8 a4 : Pt) (n4 c4 : Nat) (e4 : Bool) (h : Zaa) : Prop := Den pg fn.ntmps (C [1, 1, 0, 1, 0, 0, 1, 1, 1]) [(10, .int .i64 x10), (8, .ptr a8), (4, .slice a4 n4 c4 e4)] h (K3 Q R3)
def J6 (Q : QT) (R3 : T3) (i6 o6 : Nat) (a4 : Pt) (n4 c4 : Nat) (e4 : Bool) (x5 x10 : Int) (a8 : Pt) (h : Zaa) : Prop := Den pg fn.ntmps (C [1, 1, 0, 1, 0, 0, 1, 1, 0, 0, 1, 1]) [(6, .ptr (some (i6, o6))), (4, .slice a4 n4 c4 e4), (5, .int .i64 x5), (10, .int .i64 x10), (8, .ptr a8)] h (K5 Q R3)
def Zpu (Q : QT) (a4 : Pt) (n4 c4 : Nat) (e4 : Bool) (h : Zaa) : Prop := At (K1 Q) (.exit 0) [(4, .slice a4 n4 c4 e4), (2, .undef), (3, .undef)] h
def L3t (Q : QT) (R3 : T3) (a4 : Pt) (n4 c4 : Nat) (e4 : Bool) (a8 : Pt) (x10 : Int) (h : Zaa) : Prop :=
 bcase (decide ((x10 : Int) < 12)) (Zbf a8 fun I3 O4 => (0 ≤ (x10 : Int) ∧ (x10 : Int) < (12 : Nat)) ∧ (Zce (Zaw h (.ptr (some (I3, O4 + (Int.toNat x10) * 2))) 2) fun K5 => Zad K5 fun C6 Z7 => Zem .u8 (some C6) fun X8 => Zad Z7 fun C9 Z10 => xSl (some C9) fun A11 N12 C13 E14 => Zbl Z10 (Zck (h ++ [.cells Zaf [.int .u8 0, .slice none 0 0 true] false]) fun H15 => (Zaw H15 (.ptr (some (I3, O4 + (Int.toNat x10) * 2))) 2 = Zaw h (.ptr (some (I3, O4 + (Int.toNat x10) * 2))) 2) ∧ Zbw (Zbc H15 (.ptr (some (h.length, 0))) [.int .u8 X8, .slice A11 N12 C13 E14]) fun H16 => Zem .u8 (Zae H16 (.ptr (some (h.length, 0 + 0)))) fun X17 => bcase ((X17 : Int) == 0) (J9 Q R3 x10 a8 a4 n4 c4 e4 H16) (bcase (decide ((x10 : Int) ≥ 6)) (J9 Q R3 x10 a8 a4 n4 c4 e4 H16) (J6 Q R3 h.length 0 a4 n4 c4 e4 x10 x10 a8 H16))))) (Zpu Q a4 n4 c4 e4 h)
theorem Zmg (Q : QT) (R3 : T3) (a4 : Pt) (n4 c4 : Nat) (e4 : Bool) (a8 : Pt) (x10 : Int) (h : Zaa) (ht : L3t Q R3 a4 n4 c4 e4 a8 x10 h) : Den pg fn.ntmps (C [1, 1, 0, 1, 0, 0]) [(4, .slice a4 n4 c4 e4), (8, .ptr a8), (10, .int .i64 x10)] h (K3 Q R3) :=
  Zbe (kp := kp) (cast (by kernel_rfl) ht)
theorem L3ind (Q : QT) (a8 : Pt) {G : Type} (J : G → Pt → Nat → Nat → Bool → Int → Zaa → Prop) (m : G → Nat)
 (hr : ∀ (g : G) (a4 : Pt) (n4 c4 : Nat) (e4 : Bool) (x10 : Int) (h : Zaa), J g a4 n4 c4 e4 x10 h → ∀ (R3 : T3), (∀ g' (a4 : Pt) (n4 c4 : Nat) (e4 : Bool) (x10 : Int) (h : Zaa), m g' < m g → J g' a4 n4 c4 e4 x10 h → R3 a4 n4 c4 e4 a8 x10 h) → L3t Q R3 a4 n4 c4 e4 a8 x10 h)
 (g : G) (a4 : Pt) (n4 c4 : Nat) (e4 : Bool) (x10 : Int) (h : Zaa) (hj : J g a4 n4 c4 e4 x10 h) : L3 Q a4 n4 c4 e4 a8 x10 h := by
  refine Zes.inv2 (fun g => E3 fun a4 n4 c4 e4 a8' x10 h => a8 = a8' ∧ J g a4 n4 c4 e4 x10 h) (fun g => E3 fun a4 n4 c4 e4 a8' x10 h => a8 = a8' ∧ ∃ g', m g' < m g ∧ J g' a4 n4 c4 e4 x10 h) m ?_ ?_ g ⟨rfl, hj⟩
  · intro g env h hi
    obtain ⟨a4, n4, c4, e4, a8', x10, rfl, rfl, hj⟩ := Zey hi
    exact Zmg Q _ a4 n4 c4 e4 a8 x10 h (hr g a4 n4 c4 e4 x10 h hj (fun a4 n4 c4 e4 a8' x10 h => a8 = a8' ∧ ∃ g', m g' < m g ∧ J g' a4 n4 c4 e4 x10 h) fun g' a4 n4 c4 e4 x10 h hlt hj => ⟨rfl, g', hlt, hj⟩)
  · intro g env h hi
    obtain ⟨a4, n4, c4, e4, a8', x10, rfl, rfl, g', hlt, hj⟩ := Zey hi
    exact ⟨g', hlt, rfl, hj⟩
theorem J9i (Q : QT) (R3 : T3) (x10 : Int) (a8 a4 : Pt) (n4 c4 : Nat) (e4 : Bool) (h : Zaa) (ht :
 R3 a4 n4 c4 e4 a8 (IntKind.wrap .i64 (x10 + 1)) h) : J9 Q R3 x10 a8 a4 n4 c4 e4 h :=
  Zbe (kp := kp) (cast (by kernel_rfl) ht)
theorem J6i (Q : QT) (R3 : T3) (i6 o6 : Nat) (a4 : Pt) (n4 c4 : Nat) (e4 : Bool) (x5 x10 : Int) (a8 : Pt) (h : Zaa) (ht :
 Zce (Zaw h (.ptr (some (i6, o6))) 2) fun K18 => Zad K18 fun C19 Z20 => Zem .u8 (some C19) fun X21 => Zad Z20 fun C22 Z23 => xSl (some C22) fun A24 N25 C26 E27 => Zbl Z23 (Zag pg Zhf [.agg [.int .u8 X21, .slice A24 N25 C26 E27]] h fun V28 H29 =>
 Zem .i64 (some V28) fun X30 => bcase (decide ((X30 : Int) > 60)) (Zck (H29 ++ [.cells Zbh [] false]) fun H31 => Q (.tup [.slice (some (H29.length, 0)) 0 0 true, .bool false]) H31) ((0 ≤ (x5 : Int) ∧ (x5 : Int) ≤ IntKind.wrap .i64 (x5 + 1) ∧ (IntKind.wrap .i64 (x5 + 1) : Int) ≤ (List.length ([88, 89, 90, 120, 121, 122, 49, 50, 51, 52, 53, 54]) : Nat)) ∧ (Zce (Zaw H29 (.ptr (some (i6, o6))) 2) fun K32 => Zad K32 fun C33 Z34 => Zem .u8 (some C33) fun X35 => Zad Z34 fun C36 Z37 => xSl (some C36) fun A38 N39 C40 E41 => Zbl Z37 (Zag pg Zgl [.agg [.int .u8 X35, .slice A38 N39 C40 E41]] H29 fun V42 H43 =>
 Zaz (some V42) fun S44 => Zck (H43 ++ [.cells Zbh [.str (sub ([88, 89, 90, 120, 121, 122, 49, 50, 51, 52, 53, 54]) x5 (IntKind.wrap .i64 (x5 + 1))), .str S44] false]) fun H45 => Zcs pg Zlm H45 (.slice a4 n4 c4 e4) (.slice (some (H43.length, 0)) 1 1 true) fun V46 H47 => xSl (some V46) fun A48 N49 C50 E51 => J9 Q R3 x10 a8 A48 N49 C50 E51 H47))))) : J6 Q R3 i6 o6 a4 n4 c4 e4 x5 x10 a8 h :=
  Zbe (kp := kp) (cast (by kernel_rfl) ht)
theorem A3x0i (Q : QT) (a4 : Pt) (n4 c4 : Nat) (e4 : Bool) (h : Zaa) (ht :
 Q (.tup [.slice a4 n4 c4 e4, .bool true]) h) : Zpu Q a4 n4 c4 e4 h :=
  At.mk (cast (by kernel_rfl) ht)
theorem call (a0 : Pt) (h : Zaa) (Q : QT) (ht :
 Zck (h ++ [.cells Zbh [] false]) fun H0 => Zbf a0 fun I1 O2 => L3 Q (some (h.length, 0)) 0 0 true a0 0 H0) : Zag pg Zoo [.ptr a0] h Q :=
  Zag.of_body kp (c := cod fn) (fn := fn) Go.Proofs.Tryz.func143 (by kernel_rfl) (by kernel_rfl) (Nat.le_of_ble_eq_true (by kernel_rfl))
    (cast (by kernel_rfl) ht)
end Zfg
namespace Zll
noncomputable abbrev fn : Func := Go.Proofs.Tryz.f119
def kp : Zcf := [(4000006, [10])]
noncomputable def C (p : List Nat) : Code := (cod fn).sub p
def KR (Q : QT) : KT := Zfc pg fn.results.toList Q
def J6 (Q : QT) (i10 o10 : Nat) (h : Zaa) : Prop := Den pg fn.ntmps (C [1, 1, 1, 1, 1]) [(10, .ptr (some (i10, o10)))] h (KR Q)
theorem J6i (Q : QT) (i10 o10 : Nat) (h : Zaa) (ht :
 Zag pg Zoo [.ptr (some (i10, o10))] h fun V67 H68 =>
 Zjg V67 fun K69 => Zad K69 fun C70 Z71 => xSl (some C70) fun A72 N73 C74 E75 => Zad Z71 fun C76 Z77 => Zbr (some C76) fun B78 => Zbl Z77 (Q (.tup [.slice A72 N73 C74 E75, .bool B78]) H68)) : J6 Q i10 o10 h :=
  Zbe (kp := kp) (cast (by kernel_rfl) ht)
theorem call (x0 x1 : List Nat) (h : Zaa) (Q : QT) (ht :
 Zag pg Zgp [.str x0] h fun V0 H1 =>
 Zjg V0 fun K2 => Zad K2 fun C3 Z4 => Zic C3 fun K5 => Zad K5 fun C6 Z7 => Zem .u8 (some C6) fun X8 => Zad Z7 fun C9 Z10 => xSl (some C9) fun A11 N12 C13 E14 => Zbl Z10 (Zad Z4 fun C15 Z16 => Zbr (some C15) fun B17 => Zbl Z16 (Zck (H1 ++ [.cells Zaf [.int .u8 0, .slice none 0 0 true] false]) fun H18 => Zbw (Zbc H18 (.ptr (some (H1.length, 0))) [.int .u8 X8, .slice A11 N12 C13 E14]) fun H19 => Zag pg Zgp [.str x1] H19 fun V20 H21 =>
 Zjg V20 fun K22 => Zad K22 fun C23 Z24 => Zic C23 fun K25 => Zad K25 fun C26 Z27 => Zem .u8 (some C26) fun X28 => Zad Z27 fun C29 Z30 => xSl (some C29) fun A31 N32 C33 E34 => Zbl Z30 (Zad Z24 fun C35 Z36 => Zbr (some C35) fun B37 => Zbl Z36 (Zck (H21 ++ [.cells Zaf [.int .u8 0, .slice none 0 0 true] false]) fun H38 => Zbw (Zbc H38 (.ptr (some (H21.length, 0))) [.int .u8 X28, .slice A31 N32 C33 E34]) fun H39 => Zck (H39 ++ [.cells Zfl [.int .u8 0, .slice none 0 0 true, .int .u8 0, .slice none 0 0 true, .int .u8 0, .slice none 0 0 true, .int .u8 0, .slice none 0 0 true, .int .u8 0, .slice none 0 0 true, .int .u8 0, .slice none 0 0 true, .int .u8 0, .slice none 0 0 true, .int .u8 0, .slice none 0 0 true, .int .u8 0, .slice none 0 0 true, .int .u8 0, .slice none 0 0 true, .int .u8 0, .slice none 0 0 true, .int .u8 0, .slice none 0 0 true] false]) fun H40 => bcase (!B17) (Zck (H40 ++ [.cells Zbh [] false]) fun H41 => Q (.tup [.slice (some (H40.length, 0)) 0 0 true, .bool false]) H41) (bcase (!B37) (Zck (H40 ++ [.cells Zbh [] false]) fun H42 => Q (.tup [.slice (some (H40.length, 0)) 0 0 true, .bool false]) H42) (Zce (Zaw H40 (.ptr (some (H1.length, 0))) 2) fun K43 => Zad K43 fun C44 Z45 => Zem .u8 (some C44) fun X46 => Zad Z45 fun C47 Z48 => xSl (some C47) fun A49 N50 C51 E52 => Zbl Z48 (Zce (Zaw H40 (.ptr (some (H21.length, 0))) 2) fun K53 => Zad K53 fun C54 Z55 => Zem .u8 (some C54) fun X56 => Zad Z55 fun C57 Z58 => xSl (some C57) fun A59 N60 C61 E62 => Zbl Z58 (Zag pg Zla [.ptr (some (H39.length, 0)), .agg [.int .u8 X46, .slice A49 N50 C51 E52], .agg [.int .u8 X56, .slice A59 N60 C61 E62]] H40 fun V63 H64 =>
 Zbr (some V63) fun B65 => bcase (!B65) (Zck (H64 ++ [.cells Zbh [] false]) fun H66 => Q (.tup [.slice (some (H64.length, 0)) 0 0 true, .bool false]) H66) (J6 Q H39.length 0 H64)))))))))) : Zag pg Ziz [.str x0, .str x1] h Q :=
  Zag.of_body kp (c := cod fn) (fn := fn) Go.Proofs.Tryz.func119 (by kernel_rfl) (by kernel_rfl) (Nat.le_of_ble_eq_true (by kernel_rfl))
    (cast (by kernel_rfl) ht)
end Zll
namespace Znw
noncomputable abbrev fn : Func := Go.Proofs.Tryz.f118
def kp : Zcf := []
noncomputable def C (p : List Nat) : Code := (cod fn).sub p
def KR (Q : QT) : KT := Zfc pg fn.results.toList Q
theorem call (x0 x1 : List Nat) (h : Zaa) (Q : QT) (ht :
 Zag pg Ziz [.str x0, .str x1] h fun V0 H1 =>
 Zjg V0 fun K2 => Zad K2 fun C3 Z4 => xSl (some C3) fun A5 N6 C7 E8 => Zad Z4 fun C9 Z10 => Zbr (some C9) fun B11 => Zbl Z10 (Q (.bool B11) H1)) : Zag pg Zia [.str x0, .str x1] h Q :=
  Zag.of_body kp (c := cod fn) (fn := fn) Go.Proofs.Tryz.func118 (by kernel_rfl) (by kernel_rfl) (Nat.le_of_ble_eq_true (by kernel_rfl))
    (cast (by kernel_rfl) ht)
end Znw
end Go.Sim

set_option maxRecDepth 100000
set_option linter.unusedVariables false
namespace Go.Sim
open Go Go.RowKit
namespace Zrq
noncomputable abbrev fn : Func := Go.Proofs.Tryz.f145
def kp : Zcf := []
noncomputable def C (p : List Nat) : Code := (cod fn).sub p
def KR (Q : QT) : KT := Zfc pg fn.results.toList Q
theorem call (x0 : Int) (h : Zaa) (Q : QT) (ht :
 Zag pg Zhb [.str ([88, 89, 90, 120, 121, 122, 49, 50, 51, 52, 53, 54]), .int .u8 x0] h fun V0 H1 =>
 Zem .i64 (some V0) fun X2 => Q (.int .i64 X2) H1) : Zag pg Zis [.int .u8 x0] h Q :=
  Zag.of_body kp (c := cod fn) (fn := fn) Go.Proofs.Tryz.func145 (by kernel_rfl) (by kernel_rfl) (Nat.le_of_ble_eq_true (by kernel_rfl))
    (cast (by kernel_rfl) ht)
end Zrq
namespace Zim
noncomputable abbrev fn : Func := Go.Proofs.Tryz.f142
def kp : Zcf := [(2000004, []), (2000006, [6]), (3000010, [6]), (1000010, [0, 4, 5, 42, 43]), (2000012, [58, 43, 42, 0, 4, 5])]
noncomputable def C (p : List Nat) : Code := (cod fn).sub p
def KR (Q : QT) : KT := Zfc pg fn.results.toList Q
abbrev T10 := Pt → Nat → Nat → Nat → Nat → Int → Int → Zaa → Prop
def E10 (R10 : T10) (env : Env) (h : Zaa) : Prop := Zca 0 env fun v env => Zhs (some v) fun a0 => Zca 4 env fun v env => Zhs (some v) fun a => Zbf a fun i4 o4 => Zca 5 env fun v env => Zhs (some v) fun a => Zbf a fun i5 o5 => Zca 42 env fun v env => Zep .i64 v fun x42 => Zca 43 env fun v env => Zep .i64 v fun x43 => Zlf env (R10 a0 i4 o4 i5 o5 x42 x43 h)
theorem Yle {R10 : T10} {env : Env} {h : Zaa} (hi : E10 R10 env h) : ∃ a0, ∃ i4, ∃ o4, ∃ i5, ∃ o5, ∃ x42, ∃ x43, env = [(0, .ptr a0), (4, .ptr (some (i4, o4))), (5, .ptr (some (i5, o5))), (42, .int .i64 x42), (43, .int .i64 x43)] ∧ R10 a0 i4 o4 i5 o5 x42 x43 h := by
  unfold E10 at hi
  have hi0 := hi
  clear hi
  obtain ⟨_, _, rfl, hi1⟩ := Zac hi0
  obtain ⟨a0, rfl, hi2⟩ := Zcl hi1
  obtain ⟨_, _, rfl, hi3⟩ := Zac hi2
  obtain ⟨a, rfl, hi4⟩ := Zcl hi3
  obtain ⟨i4, o4, rfl, hi5⟩ := Zcc hi4
  obtain ⟨_, _, rfl, hi6⟩ := Zac hi5
  obtain ⟨a, rfl, hi7⟩ := Zcl hi6
  obtain ⟨i5, o5, rfl, hi8⟩ := Zcc hi7
  obtain ⟨_, _, rfl, hi9⟩ := Zac hi8
  obtain ⟨x42, rfl, hi10⟩ := Zat hi9
  obtain ⟨_, _, rfl, hi11⟩ := Zac hi10
  obtain ⟨x43, rfl, hi12⟩ := Zat hi11
  obtain ⟨rfl, hi13⟩ := Zbq hi12
  have hi := hi13
  exact ⟨a0, i4, o4, i5, o5, x42, x43, rfl, hi⟩
def K0 (Q : QT) : KT := andThen (fun env' h' => (match kp.find 4000015 with | some ks => Den pg fn.ntmps (C [1, 1, 1, 1]) (env'.keep ks) h' (KR Q) | none => den pg fn.ntmps kp (C [1, 1, 1, 1]) env' h' (KR Q))) (KR Q)
def K1 (Q : QT) : KT := Zct 0 (K0 Q)
def K2 (Q : QT) : KT := Zij kp 10 (K1 Q)
def K3 (Q : QT) (R10 : T10) : KT := rnd ((kp.find 1000010).getD []) (E10 R10) (K2 Q)
def L10 (Q : QT) (a0 : Pt) (i4 o4 i5 o5 : Nat) (x42 x43 : Int) (h : Zaa) : Prop := Zes (Den pg fn.ntmps (C [1, 1, 1, 0, 1, 0, 0])) ((kp.find 1000010).getD []) (K2 Q) [(0, .ptr a0), (4, .ptr (some (i4, o4))), (5, .ptr (some (i5, o5))), (42, .int .i64 x42), (43, .int .i64 x43)] h
def Yra (Q : QT) (h : Zaa) : Prop := At (K1 Q) (.exit 0) [(6, .undef)] h
def L10t (Q : QT) (R10 : T10) (a0 : Pt) (i4 o4 i5 o5 : Nat) (x42 x43 : Int) (h : Zaa) : Prop :=
 bcase (decide ((x43 : Int) < x42)) (xSl (Zae h (.ptr (some (i4, o4 + 1)))) fun A56 N57 C58 E59 => (0 ≤ (x43 : Int) ∧ (x43 : Int) < (N57 : Nat)) ∧ (Zbf A56 fun I60 O61 => Zce (Zaw h (.ptr (some (I60, O61 + (Int.toNat x43) * 2))) 2) fun K62 => Zad K62 fun C63 Z64 => Zem .u8 (some C63) fun X65 => Zad Z64 fun C66 Z67 => xSl (some C66) fun A68 N69 C70 E71 => Zbl Z67 (xSl (Zae h (.ptr (some (i5, o5 + 1)))) fun A72 N73 C74 E75 => (Zaw h (.ptr (some (I60, O61 + (Int.toNat x43) * 2))) 2 = Zaw h (.ptr (some (I60, O61 + (Int.toNat x43) * 2))) 2) ∧ (Zae h (.ptr (some (i4, o4 + 1))) = Zae h (.ptr (some (i4, o4 + 1)))) ∧ (0 ≤ (x43 : Int) ∧ (x43 : Int) < (N73 : Nat)) ∧ (Zbf A72 fun I76 O77 => Zce (Zaw h (.ptr (some (I76, O77 + (Int.toNat x43) * 2))) 2) fun K78 => Zad K78 fun C79 Z80 => Zem .u8 (some C79) fun X81 => Zad Z80 fun C82 Z83 => xSl (some C82) fun A84 N85 C86 E87 => Zbl Z83 ((Zaw h (.ptr (some (I60, O61 + (Int.toNat x43) * 2))) 2 = Zaw h (.ptr (some (I60, O61 + (Int.toNat x43) * 2))) 2) ∧ (Zae h (.ptr (some (i4, o4 + 1))) = Zae h (.ptr (some (i4, o4 + 1)))) ∧ Zag pg Zla [.ptr a0, .agg [.int .u8 X65, .slice A68 N69 C70 E71], .agg [.int .u8 X81, .slice A84 N85 C86 E87]] h fun V88 H89 =>
 Zbr (some V88) fun B90 => (Zae H89 (.ptr (some (i4, o4 + 1))) = Zae h (.ptr (some (i4, o4 + 1)))) ∧ bcase (!B90) (Q (.bool false) H89) (R10 a0 i4 o4 i5 o5 x42 (IntKind.wrap .i64 (x43 + 1)) H89)))))) (Yra Q h)
theorem Yse (Q : QT) (R10 : T10) (a0 : Pt) (i4 o4 i5 o5 : Nat) (x42 x43 : Int) (h : Zaa) (ht : L10t Q R10 a0 i4 o4 i5 o5 x42 x43 h) : Den pg fn.ntmps (C [1, 1, 1, 0, 1, 0, 0]) [(0, .ptr a0), (4, .ptr (some (i4, o4))), (5, .ptr (some (i5, o5))), (42, .int .i64 x42), (43, .int .i64 x43)] h (K3 Q R10) :=
  Zbe (kp := kp) (cast (by kernel_rfl) ht)
theorem L10ind (Q : QT) (a0 : Pt) (i4 o4 i5 o5 : Nat) (x42 : Int) {G : Type} (J : G → Int → Zaa → Prop) (m : G → Nat)
 (hr : ∀ (g : G) (x43 : Int) (h : Zaa), J g x43 h → ∀ (R10 : T10), (∀ g' (x43 : Int) (h : Zaa), m g' < m g → J g' x43 h → R10 a0 i4 o4 i5 o5 x42 x43 h) → L10t Q R10 a0 i4 o4 i5 o5 x42 x43 h)
 (g : G) (x43 : Int) (h : Zaa) (hj : J g x43 h) : L10 Q a0 i4 o4 i5 o5 x42 x43 h := by
  refine Zes.inv2 (fun g => E10 fun a0' i4' o4' i5' o5' x42' x43 h => a0 = a0' ∧ i4 = i4' ∧ o4 = o4' ∧ i5 = i5' ∧ o5 = o5' ∧ x42 = x42' ∧ J g x43 h) (fun g => E10 fun a0' i4' o4' i5' o5' x42' x43 h => a0 = a0' ∧ i4 = i4' ∧ o4 = o4' ∧ i5 = i5' ∧ o5 = o5' ∧ x42 = x42' ∧ ∃ g', m g' < m g ∧ J g' x43 h) m ?_ ?_ g ⟨rfl, rfl, rfl, rfl, rfl, rfl, hj⟩
  · intro g env h hi
    obtain ⟨a0', i4', o4', i5', o5', x42', x43, rfl, rfl, rfl, rfl, rfl, rfl, rfl, hj⟩ := Yle hi
    exact Yse Q _ a0 i4 o4 i5 o5 x42 x43 h (hr g x43 h hj (fun a0' i4' o4' i5' o5' x42' x43 h => a0 = a0' ∧ i4 = i4' ∧ o4 = o4' ∧ i5 = i5' ∧ o5 = o5' ∧ x42 = x42' ∧ ∃ g', m g' < m g ∧ J g' x43 h) fun g' x43 h hlt hj => ⟨rfl, rfl, rfl, rfl, rfl, rfl, g', hlt, hj⟩)
  · intro g env h hi
    obtain ⟨a0', i4', o4', i5', o5', x42', x43, rfl, rfl, rfl, rfl, rfl, rfl, rfl, g', hlt, hj⟩ := Yle hi
    exact ⟨g', hlt, rfl, rfl, rfl, rfl, rfl, rfl, hj⟩
theorem A10x0i (Q : QT) (h : Zaa) (ht :
 Q (.bool true) h) : Yra Q h :=
  At.mk (cast (by kernel_rfl) ht)
theorem call (a0 : Pt) (x1x0 : Int) (a1x1 : Pt) (n1x1 c1x1 : Nat) (e1x1 : Bool) (x2x0 : Int) (a2x1 : Pt) (n2x1 c2x1 : Nat) (e2x1 : Bool) (h : Zaa) (Q : QT) (ht :
 Zck (h ++ [.cells Zaf [.int .u8 x1x0, .slice a1x1 n1x1 c1x1 e1x1] false]) fun H0 => Zck (H0 ++ [.cells Zaf [.int .u8 x2x0, .slice a2x1 n2x1 c2x1 e2x1] false]) fun H1 => Zem .u8 (Zae H1 (.ptr (some (h.length, 0 + 0)))) fun X2 => Zag pg Zis [.int .u8 X2] H1 fun V3 H4 =>
 Zem .i64 (some V3) fun X5 => bcase (decide ((X5 : Int) ≥ 0)) (Zbf a0 fun I6 O7 => (0 ≤ (X5 : Int) ∧ (X5 : Int) < (12 : Nat)) ∧ (Zem .u8 (Zae H4 (.ptr (some (I6, O7 + (Int.toNat X5) * 2 + 0)))) fun X8 => bcase ((X8 : Int) == 0) (Zbf a0 fun I9 O10 => Zce (Zaw H4 (.ptr (some (H0.length, 0))) 2) fun K11 => Zad K11 fun C12 Z13 => Zem .u8 (some C12) fun X14 => Zad Z13 fun C15 Z16 => xSl (some C15) fun A17 N18 C19 E20 => Zbl Z16 ((0 ≤ (X5 : Int) ∧ (X5 : Int) < (12 : Nat)) ∧ (Zbw (Zbc H4 (.ptr (some (I9, O10 + (Int.toNat X5) * 2))) [.int .u8 X14, .slice A17 N18 C19 E20]) fun H21 => Q (.bool true) H21))) (Zbf a0 fun I22 O23 => (0 ≤ (X5 : Int) ∧ (X5 : Int) < (12 : Nat)) ∧ (Zce (Zaw H4 (.ptr (some (I22, O23 + (Int.toNat X5) * 2))) 2) fun K24 => Zad K24 fun C25 Z26 => Zem .u8 (some C25) fun X27 => Zad Z26 fun C28 Z29 => xSl (some C28) fun A30 N31 C32 E33 => Zbl Z29 (Zce (Zaw H4 (.ptr (some (H0.length, 0))) 2) fun K34 => Zad K34 fun C35 Z36 => Zem .u8 (some C35) fun X37 => Zad Z36 fun C38 Z39 => xSl (some C38) fun A40 N41 C42 E43 => Zbl Z39 (Zag pg Zgl [.agg [.int .u8 X27, .slice A30 N31 C32 E33]] H4 fun V44 H45 =>
 Zaz (some V44) fun S46 => (Zaw H45 (.ptr (some (H0.length, 0))) 2 = Zaw H4 (.ptr (some (H0.length, 0))) 2) ∧ Zag pg Zgl [.agg [.int .u8 X37, .slice A40 N41 C42 E43]] H45 fun V47 H48 =>
 Zaz (some V47) fun S49 => (Zaw H48 (.ptr (some (I22, O23 + (Int.toNat X5) * 2))) 2 = Zaw H45 (.ptr (some (I22, O23 + (Int.toNat X5) * 2))) 2) ∧ Q (.bool (decide (S46 = S49))) H48)))))) (Zem .u8 (Zae H4 (.ptr (some (h.length, 0 + 0)))) fun X50 => Zem .u8 (Zae H4 (.ptr (some (H0.length, 0 + 0)))) fun X51 => bcase (!((X50 : Int) == X51)) (Q (.bool false) H4) (xSl (Zae H4 (.ptr (some (h.length, 0 + 1)))) fun A52 N53 C54 E55 => L10 Q a0 h.length 0 H0.length 0 (((N53 : Nat) : Int)) 0 H4))) : Zag pg Zla [.ptr a0, .agg [.int .u8 x1x0, .slice a1x1 n1x1 c1x1 e1x1], .agg [.int .u8 x2x0, .slice a2x1 n2x1 c2x1 e2x1]] h Q :=
  Zag.of_body kp (c := cod fn) (fn := fn) Go.Proofs.Tryz.func142 (by kernel_rfl) (by kernel_rfl) (Nat.le_of_ble_eq_true (by kernel_rfl))
    (cast (by kernel_rfl) ht)
end Zim
end Go.Sim

set_option maxRecDepth 100000
set_option linter.unusedVariables false
namespace Go.Sim
open Go Go.RowKit
namespace Zju
noncomputable abbrev fn : Func := Go.Proofs.Tryz.f133
def kp : Zcf := [(2000001, [4])]
noncomputable def C (p : List Nat) : Code := (cod fn).sub p
def KR (Q : QT) : KT := Zfc pg fn.results.toList Q
theorem call (x0 : Int) (v1 v2 : Zaq) (h : Zaa) (Q : QT) (ht :
 Zhc pg Zal v1 1 fun V0 => Zhc pg Zal v1 1 fun V1 => xSl (Zae h (V0)) fun A2 N3 C4 E5 => Zem .i64 (Zae h (v2)) fun X6 => (0 ≤ (X6 : Int) ∧ (X6 : Int) < (N3 : Nat)) ∧ (Zbf A2 fun I7 O8 => Zce (Zaw h (.ptr (some (I7, O8 + (Int.toNat X6) * 3))) 3) fun K9 => Zad K9 fun C10 Z11 => Zaz (some C10) fun S12 => Zad Z11 fun C13 Z14 => Zaz (some C13) fun S15 => Zad Z14 fun C16 Z17 => xSl (some C16) fun A18 N19 C20 E21 => Zbl Z17 (xSl (Zae h (V1)) fun A22 N23 C24 E25 => (Zaw h (.ptr (some (I7, O8 + (Int.toNat X6) * 3))) 3 = Zaw h (.ptr (some (I7, O8 + (Int.toNat X6) * 3))) 3) ∧ (Zae h (v2) = Zae h (v2)) ∧ (Zae h (V0) = Zae h (V0)) ∧ (0 ≤ (x0 : Int) ∧ (x0 : Int) < (N23 : Nat)) ∧ (Zbf A22 fun I26 O27 => Zce (Zaw h (.ptr (some (I26, O27 + (Int.toNat x0) * 3))) 3) fun K28 => Zad K28 fun C29 Z30 => Zaz (some C29) fun S31 => Zad Z30 fun C32 Z33 => Zaz (some C32) fun S34 => Zad Z33 fun C35 Z36 => xSl (some C35) fun A37 N38 C39 E40 => Zbl Z36 ((Zaw h (.ptr (some (I7, O8 + (Int.toNat X6) * 3))) 3 = Zaw h (.ptr (some (I7, O8 + (Int.toNat X6) * 3))) 3) ∧ (Zae h (v2) = Zae h (v2)) ∧ (Zae h (V0) = Zae h (V0)) ∧ Zag pg Znh [.agg [.str S12, .str S15, .slice A18 N19 C20 E21], .agg [.str S31, .str S34, .slice A37 N38 C39 E40]] h fun V41 H42 =>
 Zbr (some V41) fun B43 => (Zae H42 (v2) = Zae h (v2)) ∧ (Zae H42 (V0) = Zae h (V0)) ∧ Q (.bool (!B43)) H42))))) : Zag pg Zby [.int .i64 x0, v1, v2] h Q :=
  Zag.of_body kp (c := cod fn) (fn := fn) Go.Proofs.Tryz.func133 (by kernel_rfl) (by kernel_rfl) (Nat.le_of_ble_eq_true (by kernel_rfl))
    (cast (by kernel_rfl) ht)
end Zju
namespace Zbs
noncomputable abbrev fn : Func := Go.Proofs.Tryz.f125
def kp : Zcf := [(3000002, [4]), (1000002, [0, 1, 7, 8])]
noncomputable def C (p : List Nat) : Code := (cod fn).sub p
def KR (Q : QT) : KT := Zfc pg fn.results.toList Q
abbrev T2 := Pt → Nat → Nat → Bool → Zaq → Zaq → Int → Int → Zaa → Prop
def E2 (R2 : T2) (env : Env) (h : Zaa) : Prop := Zca 0 env fun v env => xSl (some v) fun a0 n0 c0 e0 => Zca 1 env fun v env => eFn Zby v fun cs => Zad cs fun c cs' => Zxl (some c) fun v1x0 => Zad cs' fun c cs'' => Zxl (some c) fun v1x1 => Zbl cs'' (Zca 7 env fun v env => Zep .i64 v fun x7 => Zca 8 env fun v env => Zep .i64 v fun x8 => Zlf env (R2 a0 n0 c0 e0 v1x0 v1x1 x7 x8 h))
theorem Zex {R2 : T2} {env : Env} {h : Zaa} (hi : E2 R2 env h) : ∃ a0, ∃ n0, ∃ c0, ∃ e0, ∃ v1x0, ∃ v1x1, ∃ x7, ∃ x8, env = [(0, .slice a0 n0 c0 e0), (1, .fn Zby [v1x0, v1x1]), (7, .int .i64 x7), (8, .int .i64 x8)] ∧ R2 a0 n0 c0 e0 v1x0 v1x1 x7 x8 h := by
  unfold E2 at hi
  have hi0 := hi
  clear hi
  obtain ⟨_, _, rfl, hi1⟩ := Zac hi0
  obtain ⟨a0, n0, c0, e0, rfl, hi2⟩ := Zbi hi1
  obtain ⟨_, _, rfl, hi3⟩ := Zac hi2
  obtain ⟨cs, rfl, hi4⟩ := Zvi hi3
  obtain ⟨c, cs', rfl, hi5⟩ := Zoh hi4
  obtain ⟨v1x0, hx, hi6⟩ := Zjx hi5
  replace hx := (Option.some.inj hx).symm
  subst hx
  obtain ⟨c, cs'', rfl, hi7⟩ := Zoh hi6
  obtain ⟨v1x1, hx, hi8⟩ := Zjx hi7
  replace hx := (Option.some.inj hx).symm
  subst hx
  obtain ⟨rfl, hi9⟩ := Zta hi8
  obtain ⟨_, _, rfl, hi10⟩ := Zac hi9
  obtain ⟨x7, rfl, hi11⟩ := Zat hi10
  obtain ⟨_, _, rfl, hi12⟩ := Zac hi11
  obtain ⟨x8, rfl, hi13⟩ := Zat hi12
  obtain ⟨rfl, hi14⟩ := Zbq hi13
  have hi := hi14
  exact ⟨a0, n0, c0, e0, v1x0, v1x1, x7, x8, rfl, hi⟩
def K0 (Q : QT) : KT := andThen (fun env' h' => (match kp.find 4000007 with | some ks => Den pg fn.ntmps (C [1, 1]) (env'.keep ks) h' (KR Q) | none => den pg fn.ntmps kp (C [1, 1]) env' h' (KR Q))) (KR Q)
def K1 (Q : QT) : KT := Zct 0 (K0 Q)
def K2 (Q : QT) : KT := Zij kp 2 (K1 Q)
def K3 (Q : QT) (R2 : T2) : KT := rnd ((kp.find 1000002).getD []) (E2 R2) (K2 Q)
def L2 (Q : QT) (a0 : Pt) (n0 c0 : Nat) (e0 : Bool) (v1x0 v1x1 : Zaq) (x7 x8 : Int) (h : Zaa) : Prop := Zes (Den pg fn.ntmps (C [1, 0, 1, 0, 0])) ((kp.find 1000002).getD []) (K2 Q) [(0, .slice a0 n0 c0 e0), (1, .fn Zby [v1x0, v1x1]), (7, .int .i64 x7), (8, .int .i64 x8)] h
def Zqb (Q : QT) (h : Zaa) : Prop := At (K1 Q) (.exit 0) [(4, .undef)] h
def L2t (Q : QT) (R2 : T2) (a0 : Pt) (n0 c0 : Nat) (e0 : Bool) (v1x0 v1x1 : Zaq) (x7 x8 : Int) (h : Zaa) : Prop :=
 bcase (decide ((x8 : Int) < x7)) ((0 ≤ (x8 : Int) ∧ (x8 : Int) < (n0 : Nat)) ∧ (Zbf a0 fun I0 O1 => Zem .i64 (Zae h (.ptr (some (I0, O1 + (Int.toNat x8) * 1)))) fun X2 => Zag pg Zby [.int .i64 X2, v1x0, v1x1] h fun V3 H4 =>
 Zbr (some V3) fun B5 => bcase B5 (Q (.int .i64 x8) H4) (R2 a0 n0 c0 e0 v1x0 v1x1 x7 (IntKind.wrap .i64 (x8 + 1)) H4))) (Zqb Q h)
theorem Zmi (Q : QT) (R2 : T2) (a0 : Pt) (n0 c0 : Nat) (e0 : Bool) (v1x0 v1x1 : Zaq) (x7 x8 : Int) (h : Zaa) (ht : L2t Q R2 a0 n0 c0 e0 v1x0 v1x1 x7 x8 h) : Den pg fn.ntmps (C [1, 0, 1, 0, 0]) [(0, .slice a0 n0 c0 e0), (1, .fn Zby [v1x0, v1x1]), (7, .int .i64 x7), (8, .int .i64 x8)] h (K3 Q R2) :=
  Zbe (kp := kp) (cast (by kernel_rfl) ht)
theorem L2ind (Q : QT) (a0 : Pt) (n0 c0 : Nat) (e0 : Bool) (v1x0 v1x1 : Zaq) (x7 : Int) {G : Type} (J : G → Int → Zaa → Prop) (m : G → Nat)
 (hr : ∀ (g : G) (x8 : Int) (h : Zaa), J g x8 h → ∀ (R2 : T2), (∀ g' (x8 : Int) (h : Zaa), m g' < m g → J g' x8 h → R2 a0 n0 c0 e0 v1x0 v1x1 x7 x8 h) → L2t Q R2 a0 n0 c0 e0 v1x0 v1x1 x7 x8 h)
 (g : G) (x8 : Int) (h : Zaa) (hj : J g x8 h) : L2 Q a0 n0 c0 e0 v1x0 v1x1 x7 x8 h := by
  refine Zes.inv2 (fun g => E2 fun a0' n0' c0' e0' v1x0' v1x1' x7' x8 h => a0 = a0' ∧ n0 = n0' ∧ c0 = c0' ∧ e0 = e0' ∧ v1x0 = v1x0' ∧ v1x1 = v1x1' ∧ x7 = x7' ∧ J g x8 h) (fun g => E2 fun a0' n0' c0' e0' v1x0' v1x1' x7' x8 h => a0 = a0' ∧ n0 = n0' ∧ c0 = c0' ∧ e0 = e0' ∧ v1x0 = v1x0' ∧ v1x1 = v1x1' ∧ x7 = x7' ∧ ∃ g', m g' < m g ∧ J g' x8 h) m ?_ ?_ g ⟨rfl, rfl, rfl, rfl, rfl, rfl, rfl, hj⟩
  · intro g env h hi
    obtain ⟨a0', n0', c0', e0', v1x0', v1x1', x7', x8, rfl, rfl, rfl, rfl, rfl, rfl, rfl, rfl, hj⟩ := Zex hi
    exact Zmi Q _ a0 n0 c0 e0 v1x0 v1x1 x7 x8 h (hr g x8 h hj (fun a0' n0' c0' e0' v1x0' v1x1' x7' x8 h => a0 = a0' ∧ n0 = n0' ∧ c0 = c0' ∧ e0 = e0' ∧ v1x0 = v1x0' ∧ v1x1 = v1x1' ∧ x7 = x7' ∧ ∃ g', m g' < m g ∧ J g' x8 h) fun g' x8 h hlt hj => ⟨rfl, rfl, rfl, rfl, rfl, rfl, rfl, g', hlt, hj⟩)
  · intro g env h hi
    obtain ⟨a0', n0', c0', e0', v1x0', v1x1', x7', x8, rfl, rfl, rfl, rfl, rfl, rfl, rfl, rfl, g', hlt, hj⟩ := Zex hi
    exact ⟨g', hlt, rfl, rfl, rfl, rfl, rfl, rfl, rfl, hj⟩
theorem A2x0i (Q : QT) (h : Zaa) (ht :
 Q (.int .i64 (-1)) h) : Zqb Q h :=
  At.mk (cast (by kernel_rfl) ht)
theorem call (a0 : Pt) (n0 c0 : Nat) (e0 : Bool) (v1x0 v1x1 : Zaq) (h : Zaa) (Q : QT) (ht :
 L2 Q a0 n0 c0 e0 v1x0 v1x1 (((n0 : Nat) : Int)) 0 h) : Zag pg Zfj [.slice a0 n0 c0 e0, .fn Zby [v1x0, v1x1]] h Q :=
  Zag.of_body kp (c := cod fn) (fn := fn) Go.Proofs.Tryz.func125 (by kernel_rfl) (by kernel_rfl) (Nat.le_of_ble_eq_true (by kernel_rfl))
    (cast (by kernel_rfl) ht)
end Zbs
namespace Zga
noncomputable abbrev fn : Func := Go.Proofs.Tryz.f101
def kp : Zcf := [(3000002, [4]), (1000002, [1, 2, 7, 8, 9])]
noncomputable def C (p : List Nat) : Code := (cod fn).sub p
def KR (Q : QT) : KT := Zfc pg fn.results.toList Q
abbrev T2 := Pt → Nat → Nat → Bool → Nat → Nat → Pt → Nat → Nat → Bool → Int → Int → Zaa → Prop
def E2 (R2 : T2) (env : Env) (h : Zaa) : Prop := Zca 1 env fun v env => xSl (some v) fun a1 n1 c1 e1 => Zca 2 env fun v env => Zhs (some v) fun a => Zbf a fun i2 o2 => Zca 7 env fun v env => xSl (some v) fun a7 n7 c7 e7 => Zca 8 env fun v env => Zep .i64 v fun x8 => Zca 9 env fun v env => Zep .i64 v fun x9 => Zlf env (R2 a1 n1 c1 e1 i2 o2 a7 n7 c7 e7 x8 x9 h)
theorem Zex {R2 : T2} {env : Env} {h : Zaa} (hi : E2 R2 env h) : ∃ a1, ∃ n1, ∃ c1, ∃ e1, ∃ i2, ∃ o2, ∃ a7, ∃ n7, ∃ c7, ∃ e7, ∃ x8, ∃ x9, env = [(1, .slice a1 n1 c1 e1), (2, .ptr (some (i2, o2))), (7, .slice a7 n7 c7 e7), (8, .int .i64 x8), (9, .int .i64 x9)] ∧ R2 a1 n1 c1 e1 i2 o2 a7 n7 c7 e7 x8 x9 h := by
  unfold E2 at hi
  have hi0 := hi
  clear hi
  obtain ⟨_, _, rfl, hi1⟩ := Zac hi0
  obtain ⟨a1, n1, c1, e1, rfl, hi2⟩ := Zbi hi1
  obtain ⟨_, _, rfl, hi3⟩ := Zac hi2
  obtain ⟨a, rfl, hi4⟩ := Zcl hi3
  obtain ⟨i2, o2, rfl, hi5⟩ := Zcc hi4
  obtain ⟨_, _, rfl, hi6⟩ := Zac hi5
  obtain ⟨a7, n7, c7, e7, rfl, hi7⟩ := Zbi hi6
  obtain ⟨_, _, rfl, hi8⟩ := Zac hi7
  obtain ⟨x8, rfl, hi9⟩ := Zat hi8
  obtain ⟨_, _, rfl, hi10⟩ := Zac hi9
  obtain ⟨x9, rfl, hi11⟩ := Zat hi10
  obtain ⟨rfl, hi12⟩ := Zbq hi11
  have hi := hi12
  exact ⟨a1, n1, c1, e1, i2, o2, a7, n7, c7, e7, x8, x9, rfl, hi⟩
def K0 (Q : QT) : KT := andThen (fun env' h' => (match kp.find 4000007 with | some ks => Den pg fn.ntmps (C [1, 1]) (env'.keep ks) h' (KR Q) | none => den pg fn.ntmps kp (C [1, 1]) env' h' (KR Q))) (KR Q)
def K1 (Q : QT) : KT := Zct 0 (K0 Q)
def K2 (Q : QT) : KT := Zij kp 2 (K1 Q)
def K3 (Q : QT) (R2 : T2) : KT := rnd ((kp.find 1000002).getD []) (E2 R2) (K2 Q)
def L2 (Q : QT) (a1 : Pt) (n1 c1 : Nat) (e1 : Bool) (i2 o2 : Nat) (a7 : Pt) (n7 c7 : Nat) (e7 : Bool) (x8 x9 : Int) (h : Zaa) : Prop := Zes (Den pg fn.ntmps (C [1, 0, 1, 0, 0])) ((kp.find 1000002).getD []) (K2 Q) [(1, .slice a1 n1 c1 e1), (2, .ptr (some (i2, o2))), (7, .slice a7 n7 c7 e7), (8, .int .i64 x8), (9, .int .i64 x9)] h
def Zqb (Q : QT) (h : Zaa) : Prop := At (K1 Q) (.exit 0) [(4, .undef)] h
def L2t (Q : QT) (R2 : T2) (a1 : Pt) (n1 c1 : Nat) (e1 : Bool) (i2 o2 : Nat) (a7 : Pt) (n7 c7 : Nat) (e7 : Bool) (x8 x9 : Int) (h : Zaa) : Prop :=
 bcase (decide ((x9 : Int) < x8)) ((0 ≤ (x9 : Int) ∧ (x9 : Int) < (n7 : Nat)) ∧ (Zbf a7 fun I1 O2 => Zem .i64 (Zae h (.ptr (some (I1, O2 + (Int.toNat x9) * 1)))) fun X3 => Zck (h ++ [.cells Zlu [.int .i64 0] false]) fun H4 => Zbw (Zbc H4 (.ptr (some (h.length, 0))) [.int .i64 X3]) fun H5 => Zag pg Zgi [.slice a1 n1 c1 e1, .fn Zby [.ptr (some (i2, o2)), .ptr (some (h.length, 0))]] H5 fun V6 H7 =>
 Zbr (some V6) fun B8 => bcase (!B8) (Zem .i64 (Zae H7 (.ptr (some (h.length, 0)))) fun X9 => Q (.int .i64 X9) H7) (R2 a1 n1 c1 e1 i2 o2 a7 n7 c7 e7 x8 (IntKind.wrap .i64 (x9 + 1)) H7))) (Zqb Q h)
theorem Zmi (Q : QT) (R2 : T2) (a1 : Pt) (n1 c1 : Nat) (e1 : Bool) (i2 o2 : Nat) (a7 : Pt) (n7 c7 : Nat) (e7 : Bool) (x8 x9 : Int) (h : Zaa) (ht : L2t Q R2 a1 n1 c1 e1 i2 o2 a7 n7 c7 e7 x8 x9 h) : Den pg fn.ntmps (C [1, 0, 1, 0, 0]) [(1, .slice a1 n1 c1 e1), (2, .ptr (some (i2, o2))), (7, .slice a7 n7 c7 e7), (8, .int .i64 x8), (9, .int .i64 x9)] h (K3 Q R2) :=
  Zbe (kp := kp) (cast (by kernel_rfl) ht)
theorem L2ind (Q : QT) (a1 : Pt) (n1 c1 : Nat) (e1 : Bool) (i2 o2 : Nat) (a7 : Pt) (n7 c7 : Nat) (e7 : Bool) (x8 : Int) {G : Type} (J : G → Int → Zaa → Prop) (m : G → Nat)
 (hr : ∀ (g : G) (x9 : Int) (h : Zaa), J g x9 h → ∀ (R2 : T2), (∀ g' (x9 : Int) (h : Zaa), m g' < m g → J g' x9 h → R2 a1 n1 c1 e1 i2 o2 a7 n7 c7 e7 x8 x9 h) → L2t Q R2 a1 n1 c1 e1 i2 o2 a7 n7 c7 e7 x8 x9 h)
 (g : G) (x9 : Int) (h : Zaa) (hj : J g x9 h) : L2 Q a1 n1 c1 e1 i2 o2 a7 n7 c7 e7 x8 x9 h := by
  refine Zes.inv2 (fun g => E2 fun a1' n1' c1' e1' i2' o2' a7' n7' c7' e7' x8' x9 h => a1 = a1' ∧ n1 = n1' ∧ c1 = c1' ∧ e1 = e1' ∧ i2 = i2' ∧ o2 = o2' ∧ a7 = a7' ∧ n7 = n7' ∧ c7 = c7' ∧ e7 = e7' ∧ x8 = x8' ∧ J g x9 h) (fun g => E2 fun a1' n1' c1' e1' i2' o2' a7' n7' c7' e7' x8' x9 h => a1 = a1' ∧ n1 = n1' ∧ c1 = c1' ∧ e1 = e1' ∧ i2 = i2' ∧ o2 = o2' ∧ a7 = a7' ∧ n7 = n7' ∧ c7 = c7' ∧ e7 = e7' ∧ x8 = x8' ∧ ∃ g', m g' < m g ∧ J g' x9 h) m ?_ ?_ g ⟨rfl, rfl, rfl, rfl, rfl, rfl, rfl, rfl, rfl, rfl, rfl, hj⟩
  · intro g env h hi
    obtain ⟨a1', n1', c1', e1', i2', o2', a7', n7', c7', e7', x8', x9, rfl, rfl, rfl, rfl, rfl, rfl, rfl, rfl, rfl, rfl, rfl, rfl, hj⟩ := Zex hi
    exact Zmi Q _ a1 n1 c1 e1 i2 o2 a7 n7 c7 e7 x8 x9 h (hr g x9 h hj (fun a1' n1' c1' e1' i2' o2' a7' n7' c7' e7' x8' x9 h => a1 = a1' ∧ n1 = n1' ∧ c1 = c1' ∧ e1 = e1' ∧ i2 = i2' ∧ o2 = o2' ∧ a7 = a7' ∧ n7 = n7' ∧ c7 = c7' ∧ e7 = e7' ∧ x8 = x8' ∧ ∃ g', m g' < m g ∧ J g' x9 h) fun g' x9 h hlt hj => ⟨rfl, rfl, rfl, rfl, rfl, rfl, rfl, rfl, rfl, rfl, rfl, g', hlt, hj⟩)
  · intro g env h hi
    obtain ⟨a1', n1', c1', e1', i2', o2', a7', n7', c7', e7', x8', x9, rfl, rfl, rfl, rfl, rfl, rfl, rfl, rfl, rfl, rfl, rfl, rfl, g', hlt, hj⟩ := Zex hi
    exact ⟨g', hlt, rfl, rfl, rfl, rfl, rfl, rfl, rfl, rfl, rfl, rfl, rfl, hj⟩
theorem A2x0i (Q : QT) (h : Zaa) (ht :
 Q (.int .i64 (-1)) h) : Zqb Q h :=
  At.mk (cast (by kernel_rfl) ht)
theorem call (a0x0 : Pt) (n0x0 c0x0 : Nat) (e0x0 : Bool) (a0x1 : Pt) (n0x1 c0x1 : Nat) (e0x1 : Bool) (a1 : Pt) (n1 c1 : Nat) (e1 : Bool) (h : Zaa) (Q : QT) (ht :
 Zck (h ++ [.cells Zal [.slice a0x0 n0x0 c0x0 e0x0, .slice a0x1 n0x1 c0x1 e0x1] false]) fun H0 => L2 Q a1 n1 c1 e1 h.length 0 a1 n1 c1 e1 (((n1 : Nat) : Int)) 0 H0) : Zag pg Zke [.agg [.slice a0x0 n0x0 c0x0 e0x0, .slice a0x1 n0x1 c0x1 e0x1], .slice a1 n1 c1 e1] h Q :=
  Zag.of_body kp (c := cod fn) (fn := fn) Go.Proofs.Tryz.func101 (by kernel_rfl) (by kernel_rfl) (Nat.le_of_ble_eq_true (by kernel_rfl))
    (cast (by kernel_rfl) ht)
end Zga
namespace Zdo
noncomputable abbrev fn : Func := Go.Proofs.Tryz.f91
def kp : Zcf := []
noncomputable def C (p : List Nat) : Code := (cod fn).sub p
def KR (Q : QT) : KT := Zfc pg fn.results.toList Q
theorem call (a0 : Pt) (n0 c0 : Nat) (e0 : Bool) (v1x0 v1x1 : Zaq) (h : Zaa) (Q : QT) (ht :
 Zag pg Zfj [.slice a0 n0 c0 e0, .fn Zby [v1x0, v1x1]] h fun V0 H1 =>
 Zem .i64 (some V0) fun X2 => Q (.bool (decide ((X2 : Int) ≥ 0))) H1) : Zag pg Zgi [.slice a0 n0 c0 e0, .fn Zby [v1x0, v1x1]] h Q :=
  Zag.of_body kp (c := cod fn) (fn := fn) Go.Proofs.Tryz.func91 (by kernel_rfl) (by kernel_rfl) (Nat.le_of_ble_eq_true (by kernel_rfl))
    (cast (by kernel_rfl) ht)
end Zdo
namespace Zdg
noncomputable abbrev fn : Func := Go.Proofs.Tryz.f132
def kp : Zcf := [(3000003, [4]), (1000003, [2, 5, 18, 19, 20]), (3000007, [9, 8, 20, 19, 18, 5, 2]), (1000007, [2, 5, 8, 9, 18, 19, 20, 24, 25, 26]), (4000010, [26, 25, 24, 9, 2, 8, 20, 19, 18, 5])]
noncomputable def C (p : List Nat) : Code := (cod fn).sub p
def KR (Q : QT) : KT := Zfc pg fn.results.toList Q
abbrev T3 := Nat → Nat → Pt → Nat → Nat → Bool → Pt → Nat → Nat → Bool → Int → Int → Zaa → Prop
def E3 (R3 : T3) (env : Env) (h : Zaa) : Prop := Zca 2 env fun v env => Zhs (some v) fun a => Zbf a fun i2 o2 => Zca 5 env fun v env => xSl (some v) fun a5 n5 c5 e5 => Zca 18 env fun v env => xSl (some v) fun a18 n18 c18 e18 => Zca 19 env fun v env => Zep .i64 v fun x19 => Zca 20 env fun v env => Zep .i64 v fun x20 => Zlf env (R3 i2 o2 a5 n5 c5 e5 a18 n18 c18 e18 x19 x20 h)
theorem Zey {R3 : T3} {env : Env} {h : Zaa} (hi : E3 R3 env h) : ∃ i2, ∃ o2, ∃ a5, ∃ n5, ∃ c5, ∃ e5, ∃ a18, ∃ n18, ∃ c18, ∃ e18, ∃ x19, ∃ x20, env = [(2, .ptr (some (i2, o2))), (5, .slice a5 n5 c5 e5), (18, .slice a18 n18 c18 e18), (19, .int .i64 x19), (20, .int .i64 x20)] ∧ R3 i2 o2 a5 n5 c5 e5 a18 n18 c18 e18 x19 x20 h := by
  unfold E3 at hi
  have hi0 := hi
  clear hi
  obtain ⟨_, _, rfl, hi1⟩ := Zac hi0
  obtain ⟨a, rfl, hi2⟩ := Zcl hi1
  obtain ⟨i2, o2, rfl, hi3⟩ := Zcc hi2
  obtain ⟨_, _, rfl, hi4⟩ := Zac hi3
  obtain ⟨a5, n5, c5, e5, rfl, hi5⟩ := Zbi hi4
  obtain ⟨_, _, rfl, hi6⟩ := Zac hi5
  obtain ⟨a18, n18, c18, e18, rfl, hi7⟩ := Zbi hi6
  obtain ⟨_, _, rfl, hi8⟩ := Zac hi7
  obtain ⟨x19, rfl, hi9⟩ := Zat hi8
  obtain ⟨_, _, rfl, hi10⟩ := Zac hi9
  obtain ⟨x20, rfl, hi11⟩ := Zat hi10
  obtain ⟨rfl, hi12⟩ := Zbq hi11
  have hi := hi12
  exact ⟨i2, o2, a5, n5, c5, e5, a18, n18, c18, e18, x19, x20, rfl, hi⟩
abbrev T7 := Nat → Nat → Pt → Nat → Nat → Bool → Int → Bool → Pt → Nat → Nat → Bool → Int → Int → Pt → Nat → Nat → Bool → Int → Int → Zaa → Prop
def E7 (R7 : T7) (env : Env) (h : Zaa) : Prop := Zca 2 env fun v env => Zhs (some v) fun a => Zbf a fun i2 o2 => Zca 5 env fun v env => xSl (some v) fun a5 n5 c5 e5 => Zca 8 env fun v env => Zep .i64 v fun x8 => Zca 9 env fun v env => Zbr (some v) fun x9 => Zca 18 env fun v env => xSl (some v) fun a18 n18 c18 e18 => Zca 19 env fun v env => Zep .i64 v fun x19 => Zca 20 env fun v env => Zep .i64 v fun x20 => Zca 24 env fun v env => xSl (some v) fun a24 n24 c24 e24 => Zca 25 env fun v env => Zep .i64 v fun x25 => Zca 26 env fun v env => Zep .i64 v fun x26 => Zlf env (R7 i2 o2 a5 n5 c5 e5 x8 x9 a18 n18 c18 e18 x19 x20 a24 n24 c24 e24 x25 x26 h)
theorem Zus {R7 : T7} {env : Env} {h : Zaa} (hi : E7 R7 env h) : ∃ i2, ∃ o2, ∃ a5, ∃ n5, ∃ c5, ∃ e5, ∃ x8, ∃ x9, ∃ a18, ∃ n18, ∃ c18, ∃ e18, ∃ x19, ∃ x20, ∃ a24, ∃ n24, ∃ c24, ∃ e24, ∃ x25, ∃ x26, env = [(2, .ptr (some (i2, o2))), (5, .slice a5 n5 c5 e5), (8, .int .i64 x8), (9, .bool x9), (18, .slice a18 n18 c18 e18), (19, .int .i64 x19), (20, .int .i64 x20), (24, .slice a24 n24 c24 e24), (25, .int .i64 x25), (26, .int .i64 x26)] ∧ R7 i2 o2 a5 n5 c5 e5 x8 x9 a18 n18 c18 e18 x19 x20 a24 n24 c24 e24 x25 x26 h := by
  unfold E7 at hi
  have hi0 := hi
  clear hi
  obtain ⟨_, _, rfl, hi1⟩ := Zac hi0
  obtain ⟨a, rfl, hi2⟩ := Zcl hi1
  obtain ⟨i2, o2, rfl, hi3⟩ := Zcc hi2
  obtain ⟨_, _, rfl, hi4⟩ := Zac hi3
  obtain ⟨a5, n5, c5, e5, rfl, hi5⟩ := Zbi hi4
  obtain ⟨_, _, rfl, hi6⟩ := Zac hi5
  obtain ⟨x8, rfl, hi7⟩ := Zat hi6
  obtain ⟨_, _, rfl, hi8⟩ := Zac hi7
  obtain ⟨x9, rfl, hi9⟩ := Zxz hi8
  obtain ⟨_, _, rfl, hi10⟩ := Zac hi9
  obtain ⟨a18, n18, c18, e18, rfl, hi11⟩ := Zbi hi10
  obtain ⟨_, _, rfl, hi12⟩ := Zac hi11
  obtain ⟨x19, rfl, hi13⟩ := Zat hi12
  obtain ⟨_, _, rfl, hi14⟩ := Zac hi13
  obtain ⟨x20, rfl, hi15⟩ := Zat hi14
  obtain ⟨_, _, rfl, hi16⟩ := Zac hi15
  obtain ⟨a24, n24, c24, e24, rfl, hi17⟩ := Zbi hi16
  obtain ⟨_, _, rfl, hi18⟩ := Zac hi17
  obtain ⟨x25, rfl, hi19⟩ := Zat hi18
  obtain ⟨_, _, rfl, hi20⟩ := Zac hi19
  obtain ⟨x26, rfl, hi21⟩ := Zat hi20
  obtain ⟨rfl, hi22⟩ := Zbq hi21
  have hi := hi22
  exact ⟨i2, o2, a5, n5, c5, e5, x8, x9, a18, n18, c18, e18, x19, x20, a24, n24, c24, e24, x25, x26, rfl, hi⟩
def K0 (Q : QT) : KT := andThen (fun env' h' => (match kp.find 4000014 with | some ks => Den pg fn.ntmps (C [1, 1, 1]) (env'.keep ks) h' (KR Q) | none => den pg fn.ntmps kp (C [1, 1, 1]) env' h' (KR Q))) (KR Q)
def K1 (Q : QT) : KT := Zct 0 (K0 Q)
def K2 (Q : QT) : KT := Zij kp 3 (K1 Q)
def K3 (Q : QT) (R3 : T3) : KT := rnd ((kp.find 1000003).getD []) (E3 R3) (K2 Q)
def K4 (Q : QT) (R3 : T3) : KT := andThen (fun env' h' => (match kp.find 4000013 with | some ks => Den pg fn.ntmps (C [1, 1, 0, 1, 0, 0, 1, 1, 1]) (env'.keep ks) h' (K3 Q R3) | none => den pg fn.ntmps kp (C [1, 1, 0, 1, 0, 0, 1, 1, 1]) env' h' (K3 Q R3))) (K3 Q R3)
def K5 (Q : QT) (R3 : T3) : KT := Zct 1 (K4 Q R3)
def K6 (Q : QT) (R3 : T3) : KT := andThen (fun env' h' => (match kp.find 4000011 with | some ks => Den pg fn.ntmps (C [1, 1, 0, 1, 0, 0, 1, 1, 0, 0, 1, 1, 1]) (env'.keep ks) h' (K5 Q R3) | none => den pg fn.ntmps kp (C [1, 1, 0, 1, 0, 0, 1, 1, 0, 0, 1, 1, 1]) env' h' (K5 Q R3))) (K5 Q R3)
def K7 (Q : QT) (R3 : T3) : KT := Zct 2 (K6 Q R3)
def K8 (Q : QT) (R3 : T3) : KT := Zij kp 7 (K7 Q R3)
def K9 (Q : QT) (R3 : T3) (R7 : T7) : KT := rnd ((kp.find 1000007).getD []) (E7 R7) (K8 Q R3)
def L3 (Q : QT) (i2 o2 : Nat) (a5 : Pt) (n5 c5 : Nat) (e5 : Bool) (a18 : Pt) (n18 c18 : Nat) (e18 : Bool) (x19 x20 : Int) (h : Zaa) : Prop := Zes (Den pg fn.ntmps (C [1, 1, 0, 1, 0, 0])) ((kp.find 1000003).getD []) (K2 Q) [(2, .ptr (some (i2, o2))), (5, .slice a5 n5 c5 e5), (18, .slice a18 n18 c18 e18), (19, .int .i64 x19), (20, .int .i64 x20)] h
def L7 (Q : QT) (R3 : T3) (i2 o2 : Nat) (a5 : Pt) (n5 c5 : Nat) (e5 : Bool) (x8 : Int) (x9 : Bool) (a18 : Pt) (n18 c18 : Nat) (e18 : Bool) (x19 x20 : Int) (a24 : Pt) (n24 c24 : Nat) (e24 : Bool) (x25 x26 : Int) (h : Zaa) : Prop := Zes (Den pg fn.ntmps (C [1, 1, 0, 1, 0, 0, 1, 1, 0, 0, 1, 1, 0, 1, 0, 0])) ((kp.find 1000007).getD []) (K8 Q R3) [(2, .ptr (some (i2, o2))), (5, .slice a5 n5 c5 e5), (8, .int .i64 x8), (9, .bool x9), (18, .slice a18 n18 c18 e18), (19, .int .i64 x19), (20, .int .i64 x20), (24, .slice a24 n24 c24 e24), (25, .int .i64 x25), (26, .int .i64 x26)] h
def Zpu (Q : QT) (h : Zaa) : Prop := At (K1 Q) (.exit 0) [(4, .undef)] h
def J10 (Q : QT) (R3 : T3) (R7 : T7) (x26 x25 : Int) (a24 : Pt) (n24 c24 : Nat) (e24 x9 : Bool) (i2 o2 : Nat) (x8 x20 x19 : Int) (a18 : Pt) (n18 c18 : Nat) (e18 : Bool) (a5 : Pt) (n5 c5 : Nat) (e5 : Bool) (h : Zaa) : Prop := Den pg fn.ntmps (C [1, 1, 0, 1, 0, 0, 1, 1, 0, 0, 1, 1, 0, 1, 0, 0, 1, 1, 1]) [(26, .int .i64 x26), (25, .int .i64 x25), (24, .slice a24 n24 c24 e24), (9, .bool x9), (2, .ptr (some (i2, o2))), (8, .int .i64 x8), (20, .int .i64 x20), (19, .int .i64 x19), (18, .slice a18 n18 c18 e18), (5, .slice a5 n5 c5 e5)] h (K9 Q R3 R7)
def You (Q : QT) (R3 : T3) (x9 : Bool) (x8 x20 x19 : Int) (a18 : Pt) (n18 c18 : Nat) (e18 : Bool) (a5 : Pt) (n5 c5 : Nat) (e5 : Bool) (i2 o2 : Nat) (h : Zaa) : Prop := At (K7 Q R3) (.exit 2) [(9, .bool x9), (8, .int .i64 x8), (20, .int .i64 x20), (19, .int .i64 x19), (18, .slice a18 n18 c18 e18), (5, .slice a5 n5 c5 e5), (2, .ptr (some (i2, o2)))] h
def L3t (Q : QT) (R3 : T3) (i2 o2 : Nat) (a5 : Pt) (n5 c5 : Nat) (e5 : Bool) (a18 : Pt) (n18 c18 : Nat) (e18 : Bool) (x19 x20 : Int) (h : Zaa) : Prop :=
 bcase (decide ((x20 : Int) < x19)) ((0 ≤ (x20 : Int) ∧ (x20 : Int) < (n18 : Nat)) ∧ (Zbf a18 fun I34 O35 => Zem .i64 (Zae h (.ptr (some (I34, O35 + (Int.toNat x20) * 1)))) fun X36 => L7 Q R3 i2 o2 a5 n5 c5 e5 X36 true a18 n18 c18 e18 x19 x20 a5 n5 c5 e5 (((n5 : Nat) : Int)) 0 h)) (Zpu Q h)
theorem Zmg (Q : QT) (R3 : T3) (i2 o2 : Nat) (a5 : Pt) (n5 c5 : Nat) (e5 : Bool) (a18 : Pt) (n18 c18 : Nat) (e18 : Bool) (x19 x20 : Int) (h : Zaa) (ht : L3t Q R3 i2 o2 a5 n5 c5 e5 a18 n18 c18 e18 x19 x20 h) : Den pg fn.ntmps (C [1, 1, 0, 1, 0, 0]) [(2, .ptr (some (i2, o2))), (5, .slice a5 n5 c5 e5), (18, .slice a18 n18 c18 e18), (19, .int .i64 x19), (20, .int .i64 x20)] h (K3 Q R3) :=
  Zbe (kp := kp) (cast (by kernel_rfl) ht)
theorem L3ind (Q : QT) (i2 o2 : Nat) (a5 : Pt) (n5 c5 : Nat) (e5 : Bool) (a18 : Pt) (n18 c18 : Nat) (e18 : Bool) (x19 : Int) {G : Type} (J : G → Int → Zaa → Prop) (m : G → Nat)
 (hr : ∀ (g : G) (x20 : Int) (h : Zaa), J g x20 h → ∀ (R3 : T3), (∀ g' (x20 : Int) (h : Zaa), m g' < m g → J g' x20 h → R3 i2 o2 a5 n5 c5 e5 a18 n18 c18 e18 x19 x20 h) → L3t Q R3 i2 o2 a5 n5 c5 e5 a18 n18 c18 e18 x19 x20 h)
 (g : G) (x20 : Int) (h : Zaa) (hj : J g x20 h) : L3 Q i2 o2 a5 n5 c5 e5 a18 n18 c18 e18 x19 x20 h := by
  refine Zes.inv2 (fun g => E3 fun i2' o2' a5' n5' c5' e5' a18' n18' c18' e18' x19' x20 h => i2 = i2' ∧ o2 = o2' ∧ a5 = a5' ∧ n5 = n5' ∧ c5 = c5' ∧ e5 = e5' ∧ a18 = a18' ∧ n18 = n18' ∧ c18 = c18' ∧ e18 = e18' ∧ x19 = x19' ∧ J g x20 h) (fun g => E3 fun i2' o2' a5' n5' c5' e5' a18' n18' c18' e18' x19' x20 h => i2 = i2' ∧ o2 = o2' ∧ a5 = a5' ∧ n5 = n5' ∧ c5 = c5' ∧ e5 = e5' ∧ a18 = a18' ∧ n18 = n18' ∧ c18 = c18' ∧ e18 = e18' ∧ x19 = x19' ∧ ∃ g', m g' < m g ∧ J g' x20 h) m ?_ ?_ g ⟨rfl, rfl, rfl, rfl, rfl, rfl, rfl, rfl, rfl, rfl, rfl, hj⟩
  · intro g env h hi
    obtain ⟨i2', o2', a5', n5', c5', e5', a18', n18', c18', e18', x19', x20, rfl, rfl, rfl, rfl, rfl, rfl, rfl, rfl, rfl, rfl, rfl, rfl, hj⟩ := Zey hi
    exact Zmg Q _ i2 o2 a5 n5 c5 e5 a18 n18 c18 e18 x19 x20 h (hr g x20 h hj (fun i2' o2' a5' n5' c5' e5' a18' n18' c18' e18' x19' x20 h => i2 = i2' ∧ o2 = o2' ∧ a5 = a5' ∧ n5 = n5' ∧ c5 = c5' ∧ e5 = e5' ∧ a18 = a18' ∧ n18 = n18' ∧ c18 = c18' ∧ e18 = e18' ∧ x19 = x19' ∧ ∃ g', m g' < m g ∧ J g' x20 h) fun g' x20 h hlt hj => ⟨rfl, rfl, rfl, rfl, rfl, rfl, rfl, rfl, rfl, rfl, rfl, g', hlt, hj⟩)
  · intro g env h hi
    obtain ⟨i2', o2', a5', n5', c5', e5', a18', n18', c18', e18', x19', x20, rfl, rfl, rfl, rfl, rfl, rfl, rfl, rfl, rfl, rfl, rfl, rfl, g', hlt, hj⟩ := Zey hi
    exact ⟨g', hlt, rfl, rfl, rfl, rfl, rfl, rfl, rfl, rfl, rfl, rfl, rfl, hj⟩
def L7t (Q : QT) (R3 : T3) (R7 : T7) (i2 o2 : Nat) (a5 : Pt) (n5 c5 : Nat) (e5 : Bool) (x8 : Int) (x9 : Bool) (a18 : Pt) (n18 c18 : Nat) (e18 : Bool) (x19 x20 : Int) (a24 : Pt) (n24 c24 : Nat) (e24 : Bool) (x25 x26 : Int) (h : Zaa) : Prop :=
 bcase (decide ((x26 : Int) < x25)) ((0 ≤ (x26 : Int) ∧ (x26 : Int) < (n24 : Nat)) ∧ (Zbf a24 fun I37 O38 => Zem .i64 (Zae h (.ptr (some (I37, O38 + (Int.toNat x26) * 1)))) fun X39 => bcase x9 (Zce (Zaw h (.ptr (some (i2, o2))) 2) fun K40 => Zad K40 fun C41 Z42 => xSl (some C41) fun A43 N44 C45 E46 => Zad Z42 fun C47 Z48 => xSl (some C47) fun A49 N50 C51 E52 => Zbl Z48 (Zag pg Zlo [.agg [.slice A43 N44 C45 E46, .slice A49 N50 C51 E52], .int .i64 x8, .int .i64 X39] h fun V53 H54 =>
 Zbr (some V53) fun B55 => J10 Q R3 R7 x26 x25 a24 n24 c24 e24 B55 i2 o2 x8 x20 x19 a18 n18 c18 e18 a5 n5 c5 e5 H54)) (J10 Q R3 R7 x26 x25 a24 n24 c24 e24 false i2 o2 x8 x20 x19 a18 n18 c18 e18 a5 n5 c5 e5 h))) (You Q R3 x9 x8 x20 x19 a18 n18 c18 e18 a5 n5 c5 e5 i2 o2 h)
theorem Yjq (Q : QT) (R3 : T3) (R7 : T7) (i2 o2 : Nat) (a5 : Pt) (n5 c5 : Nat) (e5 : Bool) (x8 : Int) (x9 : Bool) (a18 : Pt) (n18 c18 : Nat) (e18 : Bool) (x19 x20 : Int) (a24 : Pt) (n24 c24 : Nat) (e24 : Bool) (x25 x26 : Int) (h : Zaa) (ht : L7t Q R3 R7 i2 o2 a5 n5 c5 e5 x8 x9 a18 n18 c18 e18 x19 x20 a24 n24 c24 e24 x25 x26 h) : Den pg fn.ntmps (C [1, 1, 0, 1, 0, 0, 1, 1, 0, 0, 1, 1, 0, 1, 0, 0]) [(2, .ptr (some (i2, o2))), (5, .slice a5 n5 c5 e5), (8, .int .i64 x8), (9, .bool x9), (18, .slice a18 n18 c18 e18), (19, .int .i64 x19), (20, .int .i64 x20), (24, .slice a24 n24 c24 e24), (25, .int .i64 x25), (26, .int .i64 x26)] h (K9 Q R3 R7) :=
  Zbe (kp := kp) (cast (by kernel_rfl) ht)
theorem L7ind (Q : QT) (R3 : T3) (i2 o2 : Nat) (a5 : Pt) (n5 c5 : Nat) (e5 : Bool) (x8 : Int) (a18 : Pt) (n18 c18 : Nat) (e18 : Bool) (x19 x20 : Int) (a24 : Pt) (n24 c24 : Nat) (e24 : Bool) (x25 : Int) {G : Type} (J : G → Bool → Int → Zaa → Prop) (m : G → Nat)
 (hr : ∀ (g : G) (x9 : Bool) (x26 : Int) (h : Zaa), J g x9 x26 h → ∀ (R7 : T7), (∀ g' (x9 : Bool) (x26 : Int) (h : Zaa), m g' < m g → J g' x9 x26 h → R7 i2 o2 a5 n5 c5 e5 x8 x9 a18 n18 c18 e18 x19 x20 a24 n24 c24 e24 x25 x26 h) → L7t Q R3 R7 i2 o2 a5 n5 c5 e5 x8 x9 a18 n18 c18 e18 x19 x20 a24 n24 c24 e24 x25 x26 h)
 (g : G) (x9 : Bool) (x26 : Int) (h : Zaa) (hj : J g x9 x26 h) : L7 Q R3 i2 o2 a5 n5 c5 e5 x8 x9 a18 n18 c18 e18 x19 x20 a24 n24 c24 e24 x25 x26 h := by
  refine Zes.inv2 (fun g => E7 fun i2' o2' a5' n5' c5' e5' x8' x9 a18' n18' c18' e18' x19' x20' a24' n24' c24' e24' x25' x26 h => i2 = i2' ∧ o2 = o2' ∧ a5 = a5' ∧ n5 = n5' ∧ c5 = c5' ∧ e5 = e5' ∧ x8 = x8' ∧ a18 = a18' ∧ n18 = n18' ∧ c18 = c18' ∧ e18 = e18' ∧ x19 = x19' ∧ x20 = x20' ∧ a24 = a24' ∧ n24 = n24' ∧ c24 = c24' ∧ e24 = e24' ∧ x25 = x25' ∧ J g x9 x26 h) (fun g => E7 fun i2' o2' a5' n5' c5' e5' x8' x9 a18' n18' c18' e18' x19' x20' a24' n24' c24' e24' x25' x26 h => i2 = i2' ∧ o2 = o2' ∧ a5 = a5' ∧ n5 = n5' ∧ c5 = c5' ∧ e5 = e5' ∧ x8 = x8' ∧ a18 = a18' ∧ n18 = n18' ∧ c18 = c18' ∧ e18 = e18' ∧ x19 = x19' ∧ x20 = x20' ∧ a24 = a24' ∧ n24 = n24' ∧ c24 = c24' ∧ e24 = e24' ∧ x25 = x25' ∧ ∃ g', m g' < m g ∧ J g' x9 x26 h) m ?_ ?_ g ⟨rfl, rfl, rfl, rfl, rfl, rfl, rfl, rfl, rfl, rfl, rfl, rfl, rfl, rfl, rfl, rfl, rfl, rfl, hj⟩
  · intro g env h hi
    obtain ⟨i2', o2', a5', n5', c5', e5', x8', x9, a18', n18', c18', e18', x19', x20', a24', n24', c24', e24', x25', x26, rfl, rfl, rfl, rfl, rfl, rfl, rfl, rfl, rfl, rfl, rfl, rfl, rfl, rfl, rfl, rfl, rfl, rfl, rfl, hj⟩ := Zus hi
    exact Yjq Q R3 (fun i2' o2' a5' n5' c5' e5' x8' x9 a18' n18' c18' e18' x19' x20' a24' n24' c24' e24' x25' x26 h => i2 = i2' ∧ o2 = o2' ∧ a5 = a5' ∧ n5 = n5' ∧ c5 = c5' ∧ e5 = e5' ∧ x8 = x8' ∧ a18 = a18' ∧ n18 = n18' ∧ c18 = c18' ∧ e18 = e18' ∧ x19 = x19' ∧ x20 = x20' ∧ a24 = a24' ∧ n24 = n24' ∧ c24 = c24' ∧ e24 = e24' ∧ x25 = x25' ∧ ∃ g', m g' < m g ∧ J g' x9 x26 h) i2 o2 a5 n5 c5 e5 x8 x9 a18 n18 c18 e18 x19 x20 a24 n24 c24 e24 x25 x26 h (hr g x9 x26 h hj (fun i2' o2' a5' n5' c5' e5' x8' x9 a18' n18' c18' e18' x19' x20' a24' n24' c24' e24' x25' x26 h => i2 = i2' ∧ o2 = o2' ∧ a5 = a5' ∧ n5 = n5' ∧ c5 = c5' ∧ e5 = e5' ∧ x8 = x8' ∧ a18 = a18' ∧ n18 = n18' ∧ c18 = c18' ∧ e18 = e18' ∧ x19 = x19' ∧ x20 = x20' ∧ a24 = a24' ∧ n24 = n24' ∧ c24 = c24' ∧ e24 = e24' ∧ x25 = x25' ∧ ∃ g', m g' < m g ∧ J g' x9 x26 h) fun g' x9 x26 h hlt hj => ⟨rfl, rfl, rfl, rfl, rfl, rfl, rfl, rfl, rfl, rfl, rfl, rfl, rfl, rfl, rfl, rfl, rfl, rfl, g', hlt, hj⟩)
  · intro g env h hi
    obtain ⟨i2', o2', a5', n5', c5', e5', x8', x9, a18', n18', c18', e18', x19', x20', a24', n24', c24', e24', x25', x26, rfl, rfl, rfl, rfl, rfl, rfl, rfl, rfl, rfl, rfl, rfl, rfl, rfl, rfl, rfl, rfl, rfl, rfl, rfl, g', hlt, hj⟩ := Zus hi
    exact ⟨g', hlt, rfl, rfl, rfl, rfl, rfl, rfl, rfl, rfl, rfl, rfl, rfl, rfl, rfl, rfl, rfl, rfl, rfl, rfl, hj⟩
theorem A3x0i (Q : QT) (h : Zaa) (ht :
 Q (.int .i64 (-1)) h) : Zpu Q h :=
  At.mk (cast (by kernel_rfl) ht)
theorem J10i (Q : QT) (R3 : T3) (R7 : T7) (x26 x25 : Int) (a24 : Pt) (n24 c24 : Nat) (e24 x9 : Bool) (i2 o2 : Nat) (x8 x20 x19 : Int) (a18 : Pt) (n18 c18 : Nat) (e18 : Bool) (a5 : Pt) (n5 c5 : Nat) (e5 : Bool) (h : Zaa) (ht :
 R7 i2 o2 a5 n5 c5 e5 x8 x9 a18 n18 c18 e18 x19 x20 a24 n24 c24 e24 x25 (IntKind.wrap .i64 (x26 + 1)) h) : J10 Q R3 R7 x26 x25 a24 n24 c24 e24 x9 i2 o2 x8 x20 x19 a18 n18 c18 e18 a5 n5 c5 e5 h :=
  Zbe (kp := kp) (cast (by kernel_rfl) ht)
theorem A7x2i (Q : QT) (R3 : T3) (x9 : Bool) (x8 x20 x19 : Int) (a18 : Pt) (n18 c18 : Nat) (e18 : Bool) (a5 : Pt) (n5 c5 : Nat) (e5 : Bool) (i2 o2 : Nat) (h : Zaa) (ht :
 bcase x9 (Q (.int .i64 x8) h) (R3 i2 o2 a5 n5 c5 e5 a18 n18 c18 e18 x19 (IntKind.wrap .i64 (x20 + 1)) h)) : You Q R3 x9 x8 x20 x19 a18 n18 c18 e18 a5 n5 c5 e5 i2 o2 h :=
  At.mk (cast (by kernel_rfl) ht)
theorem call (a0x0 : Pt) (n0x0 c0x0 : Nat) (e0x0 : Bool) (a0x1 : Pt) (n0x1 c0x1 : Nat) (e0x1 : Bool) (x1x0 x1x1 : List Nat) (h : Zaa) (Q : QT) (ht :
 Zck (h ++ [.cells Zal [.slice a0x0 n0x0 c0x0 e0x0, .slice a0x1 n0x1 c0x1 e0x1] false]) fun H0 => Zck (H0 ++ [.cells Zab [.str x1x0, .str x1x1] false]) fun H1 => Zce (Zaw H1 (.ptr (some (h.length, 0))) 2) fun K2 => Zad K2 fun C3 Z4 => xSl (some C3) fun A5 N6 C7 E8 => Zad Z4 fun C9 Z10 => xSl (some C9) fun A11 N12 C13 E14 => Zbl Z10 (Zce (Zaw H1 (.ptr (some (H0.length, 0))) 2) fun K15 => Zad K15 fun C16 Z17 => Zaz (some C16) fun S18 => Zad Z17 fun C19 Z20 => Zaz (some C19) fun S21 => Zbl Z20 (Zag pg Zjc [.agg [.slice A5 N6 C7 E8, .slice A11 N12 C13 E14], .agg [.str S18, .str S21]] H1 fun V22 H23 =>
 Zjg V22 fun K24 => Zad K24 fun C25 Z26 => xSl (some C25) fun A27 N28 C29 E30 => Zad Z26 fun C31 Z32 => Zbr (some C31) fun B33 => Zbl Z32 (L3 Q h.length 0 A27 N28 C29 E30 A27 N28 C29 E30 (((N28 : Nat) : Int)) 0 H23)))) : Zag pg Zji [.agg [.slice a0x0 n0x0 c0x0 e0x0, .slice a0x1 n0x1 c0x1 e0x1], .agg [.str x1x0, .str x1x1]] h Q :=
  Zag.of_body kp (c := cod fn) (fn := fn) Go.Proofs.Tryz.func132 (by kernel_rfl) (by kernel_rfl) (Nat.le_of_ble_eq_true (by kernel_rfl))
    (cast (by kernel_rfl) ht)
end Zdg
end Go.Sim
