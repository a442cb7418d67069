/- A part of the proof of a statement of this seat: see the text that holds the theorem. No condition. -/
import Derived.Test.YtlljbdepamknoaaGreatDoorNm
set_option linter.unusedVariables false
set_option linter.unusedSimpArgs false
set_option linter.all false
set_option maxRecDepth 100000
set_option linter.unusedVariables false
namespace Go.Sim
open Go Go.RowKit
namespace Zfq
noncomputable abbrev fn : Func := Go.Proofs.Tryz.f147
def kp : Zbz := [(3000003, [1, 3]), (1000003, [1, 3, 7, 8, 9]), (4000009, [3])]
noncomputable def C (p : List Nat) : Code := (cod fn).sub p
def KR (Q : QT) : KT := Zes pg fn.results.toList Q
abbrev T3 := Nat → Nat → Int → Pt → Nat → Nat → Bool → Int → Int → Zaa → Prop
def E3 (R3 : T3) (env : Env) (h : Zaa) : Prop := Zbs 1 env fun v env => Zii (some v) fun a => Zbl a fun i1 o1 => Zbs 3 env fun v env => Zee .i64 v fun x3 => Zbs 7 env fun v env => xSl (some v) fun a7 n7 c7 e7 => Zbs 8 env fun v env => Zee .i64 v fun x8 => Zbs 9 env fun v env => Zee .i64 v fun x9 => Zje env (R3 i1 o1 x3 a7 n7 c7 e7 x8 x9 h)
theorem Zdw {R3 : T3} {env : Env} {h : Zaa} (hi : E3 R3 env h) : ∃ i1, ∃ o1, ∃ x3, ∃ a7, ∃ n7, ∃ c7, ∃ e7, ∃ x8, ∃ x9, env = [(1, .ptr (some (i1, o1))), (3, .int .i64 x3), (7, .slice a7 n7 c7 e7), (8, .int .i64 x8), (9, .int .i64 x9)] ∧ R3 i1 o1 x3 a7 n7 c7 e7 x8 x9 h := by
 unfold E3 at hi
 have hi0 := hi
 clear hi
 obtain ⟨_, _, rfl, hi1⟩ := Zab hi0
 obtain ⟨a, rfl, hi2⟩ := Zbw hi1
 obtain ⟨i1, o1, rfl, hi3⟩ := Zbp hi2
 obtain ⟨_, _, rfl, hi4⟩ := Zab hi3
 obtain ⟨x3, rfl, hi5⟩ := Zao hi4
 obtain ⟨_, _, rfl, hi6⟩ := Zab hi5
 obtain ⟨a7, n7, c7, e7, rfl, hi7⟩ := Zbf hi6
 obtain ⟨_, _, rfl, hi8⟩ := Zab hi7
 obtain ⟨x8, rfl, hi9⟩ := Zao hi8
 obtain ⟨_, _, rfl, hi10⟩ := Zab hi9
 obtain ⟨x9, rfl, hi11⟩ := Zao hi10
 obtain ⟨rfl, hi12⟩ := Zbg hi11
 have hi := hi12
 exact ⟨i1, o1, x3, a7, n7, c7, e7, x8, x9, rfl, hi⟩
def K0 (Q : QT) : KT := andThen (fun env' h' => (match kp.find 4000007 with | some ks => Den pg fn.ntmps (C [1, 1, 1]) (env'.keep ks) h' (KR Q) | none => den pg fn.ntmps kp (C [1, 1, 1]) env' h' (KR Q))) (KR Q)
def K1 (Q : QT) : KT := Zck 0 (K0 Q)
def K2 (Q : QT) : KT := left kp 3 (K1 Q)
def K3 (Q : QT) (R3 : T3) : KT := rnd ((kp.find 1000003).getD []) (E3 R3) (K2 Q)
def L3 (Q : QT) (i1 o1 : Nat) (x3 : Int) (a7 : Pt) (n7 c7 : Nat) (e7 : Bool) (x8 x9 : Int) (h : Zaa) : Prop := Zec (Den pg fn.ntmps (C [1, 1, 0, 1, 0, 0])) ((kp.find 1000003).getD []) (K2 Q) [(1, .ptr (some (i1, o1))), (3, .int .i64 x3), (7, .slice a7 n7 c7 e7), (8, .int .i64 x8), (9, .int .i64 x9)] h
def Znf (Q : QT) (i1 o1 : Nat) (x3 : Int) (h : Zaa) : Prop := At (K1 Q) (.exit 0) [(1, .ptr (some (i1, o1))), (3, .int .i64 x3)] h
def J9 (Q : QT) (x3 : Int) (h : Zaa) : Prop := Den pg fn.ntmps (C [1, 1, 1, 1]) [(3, .int .i64 x3)] h (KR Q)
def L3t (Q : QT) (R3 : T3) (i1 o1 : Nat) (x3 : Int) (a7 : Pt) (n7 c7 : Nat) (e7 : Bool) (x8 x9 : Int) (h : Zaa) : Prop :=
 bcase (decide ((x9 : Int) < x8)) ((0 ≤ (x9 : Int) ∧ (x9 : Int) < (n7 : Nat)) ∧ (Zbl a7 fun I5 O6 => Zdh (Zbv h (.ptr (some (I5, O6 + (Int.toNat x9) * 2))) 2) fun K7 => Zap K7 fun C8 Z9 => Zen .u8 (some C8) fun X10 => Zap Z9 fun C11 Z12 => xSl (some C11) fun A13 N14 C15 E16 => Zcr Z12 (Zdc (h ++ [.cells Zad [.int .u8 0, .slice none 0 0 true] false]) fun H17 => Zcp (Zbk H17 (.ptr (some (h.length, 0))) [.int .u8 X10, .slice A13 N14 C15 E16]) fun H18 => Zdh (Zbv H18 (.ptr (some (h.length, 0))) 2) fun K19 => Zap K19 fun C20 Z21 => Zen .u8 (some C20) fun X22 => Zap Z21 fun C23 Z24 => xSl (some C23) fun A25 N26 C27 E28 => Zcr Z24 (Zae pg Zhj [.agg [.int .u8 X22, .slice A25 N26 C27 E28]] H18 fun V29 H30 =>
 Zen .i64 (some V29) fun X31 => R3 i1 o1 (IntKind.wrap .i64 ((IntKind.wrap .i64 (x3 + 1)) + X31)) a7 n7 c7 e7 x8 (IntKind.wrap .i64 (x9 + 1)) H30)))) (Znf Q i1 o1 x3 h)
theorem Zkh (Q : QT) (R3 : T3) (i1 o1 : Nat) (x3 : Int) (a7 : Pt) (n7 c7 : Nat) (e7 : Bool) (x8 x9 : Int) (h : Zaa) (ht : L3t Q R3 i1 o1 x3 a7 n7 c7 e7 x8 x9 h) : Den pg fn.ntmps (C [1, 1, 0, 1, 0, 0]) [(1, .ptr (some (i1, o1))), (3, .int .i64 x3), (7, .slice a7 n7 c7 e7), (8, .int .i64 x8), (9, .int .i64 x9)] h (K3 Q R3) :=
 Zba (kp := kp) (cast (by kernel_rfl) ht)
theorem L3ind (Q : QT) (i1 o1 : Nat) (a7 : Pt) (n7 c7 : Nat) (e7 : Bool) (x8 : Int) {G : Type} (J : G → Int → Int → Zaa → Prop) (m : G → Nat)
 (hr : ∀ (g : G) (x3 x9 : Int) (h : Zaa), J g x3 x9 h → ∀ (R3 : T3), (∀ g' (x3 x9 : Int) (h : Zaa), m g' < m g → J g' x3 x9 h → R3 i1 o1 x3 a7 n7 c7 e7 x8 x9 h) → L3t Q R3 i1 o1 x3 a7 n7 c7 e7 x8 x9 h)
 (g : G) (x3 x9 : Int) (h : Zaa) (hj : J g x3 x9 h) : L3 Q i1 o1 x3 a7 n7 c7 e7 x8 x9 h := by
 refine Zec.inv2 (fun g => E3 fun i1' o1' x3 a7' n7' c7' e7' x8' x9 h => i1 = i1' ∧ o1 = o1' ∧ a7 = a7' ∧ n7 = n7' ∧ c7 = c7' ∧ e7 = e7' ∧ x8 = x8' ∧ J g x3 x9 h) (fun g => E3 fun i1' o1' x3 a7' n7' c7' e7' x8' x9 h => i1 = i1' ∧ o1 = o1' ∧ a7 = a7' ∧ n7 = n7' ∧ c7 = c7' ∧ e7 = e7' ∧ x8 = x8' ∧ ∃ g', m g' < m g ∧ J g' x3 x9 h) m ?_ ?_ g ⟨rfl, rfl, rfl, rfl, rfl, rfl, rfl, hj⟩
 ·intro g env h hi
  obtain ⟨i1', o1', x3, a7', n7', c7', e7', x8', x9, rfl, rfl, rfl, rfl, rfl, rfl, rfl, rfl, hj⟩ := Zdw hi
  exact Zkh Q _ i1 o1 x3 a7 n7 c7 e7 x8 x9 h (hr g x3 x9 h hj (fun i1' o1' x3 a7' n7' c7' e7' x8' x9 h => i1 = i1' ∧ o1 = o1' ∧ a7 = a7' ∧ n7 = n7' ∧ c7 = c7' ∧ e7 = e7' ∧ x8 = x8' ∧ ∃ g', m g' < m g ∧ J g' x3 x9 h) fun g' x3 x9 h hlt hj => ⟨rfl, rfl, rfl, rfl, rfl, rfl, rfl, g', hlt, hj⟩)
 ·intro g env h hi
  obtain ⟨i1', o1', x3, a7', n7', c7', e7', x8', x9, rfl, rfl, rfl, rfl, rfl, rfl, rfl, rfl, g', hlt, hj⟩ := Zdw hi
  exact ⟨g', hlt, rfl, rfl, rfl, rfl, rfl, rfl, rfl, hj⟩
theorem A3x0i (Q : QT) (i1 o1 : Nat) (x3 : Int) (h : Zaa) (ht :
 xSl (Zak h (.ptr (some (i1, o1 + 1)))) fun A32 N33 C34 E35 => bcase (decide (((((N33 : Nat) : Int)) : Int) > 0)) (J9 Q (IntKind.wrap .i64 (x3 + 1)) h) (J9 Q x3 h)) : Znf Q i1 o1 x3 h :=
 At.mk (cast (by kernel_rfl) ht)
theorem J9i (Q : QT) (x3 : Int) (h : Zaa) (ht :
 Q (.int .i64 x3) h) : J9 Q x3 h :=
 Zba (kp := kp) (cast (by kernel_rfl) ht)
theorem call (x0x0 : Int) (a0x1 : Pt) (n0x1 c0x1 : Nat) (e0x1 : Bool) (h : Zaa) (Q : QT) (ht :
 Zdc (h ++ [.cells Zad [.int .u8 x0x0, .slice a0x1 n0x1 c0x1 e0x1] false]) fun H0 => xSl (Zak H0 (.ptr (some (h.length, 0 + 1)))) fun A1 N2 C3 E4 => L3 Q h.length 0 1 A1 N2 C3 E4 (((N2 : Nat) : Int)) 0 H0) : Zae pg Zhj [.agg [.int .u8 x0x0, .slice a0x1 n0x1 c0x1 e0x1]] h Q :=
 Zae.of_body kp (c := cod fn) (fn := fn) Go.Proofs.Tryz.func147 (by kernel_rfl) (by kernel_rfl) (Nat.le_of_ble_eq_true (by kernel_rfl))
  (cast (by kernel_rfl) ht)
end Zfq
namespace Zfn
noncomputable abbrev fn : Func := Go.Proofs.Tryz.f143
def kp : Zbz := [(3000003, [4, 2, 3]), (1000003, [4, 8, 10]), (2000004, [6, 5, 10, 8, 4]), (4000006, [6, 4, 5, 10, 8]), (2000008, [10, 8, 4]), (4000009, [10, 8, 4])]
noncomputable def C (p : List Nat) : Code := (cod fn).sub p
def KR (Q : QT) : KT := Zes pg fn.results.toList Q
abbrev T3 := Pt → Nat → Nat → Bool → Pt → Int → Zaa → Prop
def E3 (R3 : T3) (env : Env) (h : Zaa) : Prop := Zbs 4 env fun v env => xSl (some v) fun a4 n4 c4 e4 => Zbs 8 env fun v env => Zii (some v) fun a8 => Zbs 10 env fun v env => Zee .i64 v fun x10 => Zje env (R3 a4 n4 c4 e4 a8 x10 h)
theorem Zdw {R3 : T3} {env : Env} {h : Zaa} (hi : E3 R3 env h) : ∃ a4, ∃ n4, ∃ c4, ∃ e4, ∃ a8, ∃ x10, env = [(4, .slice a4 n4 c4 e4), (8, .ptr a8), (10, .int .i64 x10)] ∧ R3 a4 n4 c4 e4 a8 x10 h := by
 unfold E3 at hi
 have hi0 := hi
 clear hi
 obtain ⟨_, _, rfl, hi1⟩ := Zab hi0
 obtain ⟨a4, n4, c4, e4, rfl, hi2⟩ := Zbf hi1
 obtain ⟨_, _, rfl, hi3⟩ := Zab hi2
 obtain ⟨a8, rfl, hi4⟩ := Zbw hi3
 obtain ⟨_, _, rfl, hi5⟩ := Zab hi4
 obtain ⟨x10, rfl, hi6⟩ := Zao hi5
 obtain ⟨rfl, hi7⟩ := Zbg hi6
 have hi := hi7
 exact ⟨a4, n4, c4, e4, a8, x10, rfl, hi⟩
def K0 (Q : QT) : KT := andThen (fun env' h' => (match kp.find 4000010 with | some ks => Den pg fn.ntmps (C [1, 1, 1]) (env'.keep ks) h' (KR Q) | none => den pg fn.ntmps kp (C [1, 1, 1]) env' h' (KR Q))) (KR Q)
def K1 (Q : QT) : KT := Zck 0 (K0 Q)
def K2 (Q : QT) : KT := left kp 3 (K1 Q)
def K3 (Q : QT) (R3 : T3) : KT := rnd ((kp.find 1000003).getD []) (E3 R3) (K2 Q)
def K4 (Q : QT) (R3 : T3) : KT := andThen (fun env' h' => (match kp.find 4000009 with | some ks => Den pg fn.ntmps (C [1, 1, 0, 1, 0, 0, 1, 1, 1]) (env'.keep ks) h' (K3 Q R3) | none => den pg fn.ntmps kp (C [1, 1, 0, 1, 0, 0, 1, 1, 1]) env' h' (K3 Q R3))) (K3 Q R3)
def K5 (Q : QT) (R3 : T3) : KT := Zck 1 (K4 Q R3)
def L3 (Q : QT) (a4 : Pt) (n4 c4 : Nat) (e4 : Bool) (a8 : Pt) (x10 : Int) (h : Zaa) : Prop := Zec (Den pg fn.ntmps (C [1, 1, 0, 1, 0, 0])) ((kp.find 1000003).getD []) (K2 Q) [(4, .slice a4 n4 c4 e4), (8, .ptr a8), (10, .int .i64 x10)] h
def J9 (Q : QT) (R3 : T3) (x10 : Int) (a8 a4 : Pt) (n4 c4 : Nat) (e4 : Bool) (h : Zaa) : Prop := Den pg fn.ntmps (C [1, 1, 0, 1, 0, 0, 1, 1, 1]) [(10, .int .i64 x10), (8, .ptr a8), (4, .slice a4 n4 c4 e4)] h (K3 Q R3)
def J6 (Q : QT) (R3 : T3) (i6 o6 : Nat) (a4 : Pt) (n4 c4 : Nat) (e4 : Bool) (x5 x10 : Int) (a8 : Pt) (h : Zaa) : Prop := Den pg fn.ntmps (C [1, 1, 0, 1, 0, 0, 1, 1, 0, 0, 1, 1]) [(6, .ptr (some (i6, o6))), (4, .slice a4 n4 c4 e4), (5, .int .i64 x5), (10, .int .i64 x10), (8, .ptr a8)] h (K5 Q R3)
def Znf (Q : QT) (a4 : Pt) (n4 c4 : Nat) (e4 : Bool) (h : Zaa) : Prop := At (K1 Q) (.exit 0) [(4, .slice a4 n4 c4 e4), (2, .undef), (3, .undef)] h
def L3t (Q : QT) (R3 : T3) (a4 : Pt) (n4 c4 : Nat) (e4 : Bool) (a8 : Pt) (x10 : Int) (h : Zaa) : Prop :=
 bcase (decide ((x10 : Int) < 12)) (Zbl a8 fun I3 O4 => (0 ≤ (x10 : Int) ∧ (x10 : Int) < (12 : Nat)) ∧ (Zdh (Zbv h (.ptr (some (I3, O4 + (Int.toNat x10) * 2))) 2) fun K5 => Zap K5 fun C6 Z7 => Zen .u8 (some C6) fun X8 => Zap Z7 fun C9 Z10 => xSl (some C9) fun A11 N12 C13 E14 => Zcr Z10 (Zdc (h ++ [.cells Zad [.int .u8 0, .slice none 0 0 true] false]) fun H15 => (Zbv H15 (.ptr (some (I3, O4 + (Int.toNat x10) * 2))) 2 = Zbv h (.ptr (some (I3, O4 + (Int.toNat x10) * 2))) 2) ∧ Zcp (Zbk H15 (.ptr (some (h.length, 0))) [.int .u8 X8, .slice A11 N12 C13 E14]) fun H16 => Zen .u8 (Zak H16 (.ptr (some (h.length, 0 + 0)))) fun X17 => bcase ((X17 : Int) == 0) (J9 Q R3 x10 a8 a4 n4 c4 e4 H16) (bcase (decide ((x10 : Int) ≥ 6)) (J9 Q R3 x10 a8 a4 n4 c4 e4 H16) (J6 Q R3 h.length 0 a4 n4 c4 e4 x10 x10 a8 H16))))) (Znf Q a4 n4 c4 e4 h)
theorem Zkh (Q : QT) (R3 : T3) (a4 : Pt) (n4 c4 : Nat) (e4 : Bool) (a8 : Pt) (x10 : Int) (h : Zaa) (ht : L3t Q R3 a4 n4 c4 e4 a8 x10 h) : Den pg fn.ntmps (C [1, 1, 0, 1, 0, 0]) [(4, .slice a4 n4 c4 e4), (8, .ptr a8), (10, .int .i64 x10)] h (K3 Q R3) :=
 Zba (kp := kp) (cast (by kernel_rfl) ht)
theorem L3ind (Q : QT) (a8 : Pt) {G : Type} (J : G → Pt → Nat → Nat → Bool → Int → Zaa → Prop) (m : G → Nat)
 (hr : ∀ (g : G) (a4 : Pt) (n4 c4 : Nat) (e4 : Bool) (x10 : Int) (h : Zaa), J g a4 n4 c4 e4 x10 h → ∀ (R3 : T3), (∀ g' (a4 : Pt) (n4 c4 : Nat) (e4 : Bool) (x10 : Int) (h : Zaa), m g' < m g → J g' a4 n4 c4 e4 x10 h → R3 a4 n4 c4 e4 a8 x10 h) → L3t Q R3 a4 n4 c4 e4 a8 x10 h)
 (g : G) (a4 : Pt) (n4 c4 : Nat) (e4 : Bool) (x10 : Int) (h : Zaa) (hj : J g a4 n4 c4 e4 x10 h) : L3 Q a4 n4 c4 e4 a8 x10 h := by
 refine Zec.inv2 (fun g => E3 fun a4 n4 c4 e4 a8' x10 h => a8 = a8' ∧ J g a4 n4 c4 e4 x10 h) (fun g => E3 fun a4 n4 c4 e4 a8' x10 h => a8 = a8' ∧ ∃ g', m g' < m g ∧ J g' a4 n4 c4 e4 x10 h) m ?_ ?_ g ⟨rfl, hj⟩
 ·intro g env h hi
  obtain ⟨a4, n4, c4, e4, a8', x10, rfl, rfl, hj⟩ := Zdw hi
  exact Zkh Q _ a4 n4 c4 e4 a8 x10 h (hr g a4 n4 c4 e4 x10 h hj (fun a4 n4 c4 e4 a8' x10 h => a8 = a8' ∧ ∃ g', m g' < m g ∧ J g' a4 n4 c4 e4 x10 h) fun g' a4 n4 c4 e4 x10 h hlt hj => ⟨rfl, g', hlt, hj⟩)
 ·intro g env h hi
  obtain ⟨a4, n4, c4, e4, a8', x10, rfl, rfl, g', hlt, hj⟩ := Zdw hi
  exact ⟨g', hlt, rfl, hj⟩
theorem J9i (Q : QT) (R3 : T3) (x10 : Int) (a8 a4 : Pt) (n4 c4 : Nat) (e4 : Bool) (h : Zaa) (ht :
 R3 a4 n4 c4 e4 a8 (IntKind.wrap .i64 (x10 + 1)) h) : J9 Q R3 x10 a8 a4 n4 c4 e4 h :=
 Zba (kp := kp) (cast (by kernel_rfl) ht)
theorem J6i (Q : QT) (R3 : T3) (i6 o6 : Nat) (a4 : Pt) (n4 c4 : Nat) (e4 : Bool) (x5 x10 : Int) (a8 : Pt) (h : Zaa) (ht :
 Zdh (Zbv h (.ptr (some (i6, o6))) 2) fun K18 => Zap K18 fun C19 Z20 => Zen .u8 (some C19) fun X21 => Zap Z20 fun C22 Z23 => xSl (some C22) fun A24 N25 C26 E27 => Zcr Z23 (Zae pg Zhj [.agg [.int .u8 X21, .slice A24 N25 C26 E27]] h fun V28 H29 =>
 Zen .i64 (some V28) fun X30 => bcase (decide ((X30 : Int) > 60)) (Zdc (H29 ++ [.cells Zbe [] false]) fun H31 => Q (.tup [.slice (some (H29.length, 0)) 0 0 true, .bool false]) H31) ((0 ≤ (x5 : Int) ∧ (x5 : Int) ≤ IntKind.wrap .i64 (x5 + 1) ∧ (IntKind.wrap .i64 (x5 + 1) : Int) ≤ (List.length ([88, 89, 90, 120, 121, 122, 49, 50, 51, 52, 53, 54]) : Nat)) ∧ (Zdh (Zbv H29 (.ptr (some (i6, o6))) 2) fun K32 => Zap K32 fun C33 Z34 => Zen .u8 (some C33) fun X35 => Zap Z34 fun C36 Z37 => xSl (some C36) fun A38 N39 C40 E41 => Zcr Z37 (Zae pg Zgl [.agg [.int .u8 X35, .slice A38 N39 C40 E41]] H29 fun V42 H43 =>
 Zbo (some V42) fun S44 => Zdc (H43 ++ [.cells Zbe [.str (sub ([88, 89, 90, 120, 121, 122, 49, 50, 51, 52, 53, 54]) x5 (IntKind.wrap .i64 (x5 + 1))), .str S44] false]) fun H45 => Zdd pg Zlp H45 (.slice a4 n4 c4 e4) (.slice (some (H43.length, 0)) 1 1 true) fun V46 H47 => xSl (some V46) fun A48 N49 C50 E51 => J9 Q R3 x10 a8 A48 N49 C50 E51 H47))))) : J6 Q R3 i6 o6 a4 n4 c4 e4 x5 x10 a8 h :=
 Zba (kp := kp) (cast (by kernel_rfl) ht)
theorem A3x0i (Q : QT) (a4 : Pt) (n4 c4 : Nat) (e4 : Bool) (h : Zaa) (ht :
 Q (.tup [.slice a4 n4 c4 e4, .bool true]) h) : Znf Q a4 n4 c4 e4 h :=
 At.mk (cast (by kernel_rfl) ht)
theorem call (a0 : Pt) (h : Zaa) (Q : QT) (ht :
 Zdc (h ++ [.cells Zbe [] false]) fun H0 => Zbl a0 fun I1 O2 => L3 Q (some (h.length, 0)) 0 0 true a0 0 H0) : Zae pg Zph [.ptr a0] h Q :=
 Zae.of_body kp (c := cod fn) (fn := fn) Go.Proofs.Tryz.func143 (by kernel_rfl) (by kernel_rfl) (Nat.le_of_ble_eq_true (by kernel_rfl))
  (cast (by kernel_rfl) ht)
end Zfn
namespace Zlt
noncomputable abbrev fn : Func := Go.Proofs.Tryz.f119
def kp : Zbz := [(4000006, [10])]
noncomputable def C (p : List Nat) : Code := (cod fn).sub p
def KR (Q : QT) : KT := Zes pg fn.results.toList Q
def J6 (Q : QT) (i10 o10 : Nat) (h : Zaa) : Prop := Den pg fn.ntmps (C [1, 1, 1, 1, 1]) [(10, .ptr (some (i10, o10)))] h (KR Q)
theorem J6i (Q : QT) (i10 o10 : Nat) (h : Zaa) (ht :
 Zae pg Zph [.ptr (some (i10, o10))] h fun V67 H68 =>
 Zva V67 fun K69 => Zap K69 fun C70 Z71 => xSl (some C70) fun A72 N73 C74 E75 => Zap Z71 fun C76 Z77 => Zci (some C76) fun B78 => Zcr Z77 (Q (.tup [.slice A72 N73 C74 E75, .bool B78]) H68)) : J6 Q i10 o10 h :=
 Zba (kp := kp) (cast (by kernel_rfl) ht)
theorem call (x0 x1 : List Nat) (h : Zaa) (Q : QT) (ht :
 Zae pg Zgt [.str x0] h fun V0 H1 =>
 Zva V0 fun K2 => Zap K2 fun C3 Z4 => Zuw C3 fun K5 => Zap K5 fun C6 Z7 => Zen .u8 (some C6) fun X8 => Zap Z7 fun C9 Z10 => xSl (some C9) fun A11 N12 C13 E14 => Zcr Z10 (Zap Z4 fun C15 Z16 => Zci (some C15) fun B17 => Zcr Z16 (Zdc (H1 ++ [.cells Zad [.int .u8 0, .slice none 0 0 true] false]) fun H18 => Zcp (Zbk H18 (.ptr (some (H1.length, 0))) [.int .u8 X8, .slice A11 N12 C13 E14]) fun H19 => Zae pg Zgt [.str x1] H19 fun V20 H21 =>
 Zva V20 fun K22 => Zap K22 fun C23 Z24 => Zuw C23 fun K25 => Zap K25 fun C26 Z27 => Zen .u8 (some C26) fun X28 => Zap Z27 fun C29 Z30 => xSl (some C29) fun A31 N32 C33 E34 => Zcr Z30 (Zap Z24 fun C35 Z36 => Zci (some C35) fun B37 => Zcr Z36 (Zdc (H21 ++ [.cells Zad [.int .u8 0, .slice none 0 0 true] false]) fun H38 => Zcp (Zbk H38 (.ptr (some (H21.length, 0))) [.int .u8 X28, .slice A31 N32 C33 E34]) fun H39 => Zdc (H39 ++ [.cells Zfb [.int .u8 0, .slice none 0 0 true, .int .u8 0, .slice none 0 0 true, .int .u8 0, .slice none 0 0 true, .int .u8 0, .slice none 0 0 true, .int .u8 0, .slice none 0 0 true, .int .u8 0, .slice none 0 0 true, .int .u8 0, .slice none 0 0 true, .int .u8 0, .slice none 0 0 true, .int .u8 0, .slice none 0 0 true, .int .u8 0, .slice none 0 0 true, .int .u8 0, .slice none 0 0 true, .int .u8 0, .slice none 0 0 true] false]) fun H40 => bcase (!B17) (Zdc (H40 ++ [.cells Zbe [] false]) fun H41 => Q (.tup [.slice (some (H40.length, 0)) 0 0 true, .bool false]) H41) (bcase (!B37) (Zdc (H40 ++ [.cells Zbe [] false]) fun H42 => Q (.tup [.slice (some (H40.length, 0)) 0 0 true, .bool false]) H42) (Zdh (Zbv H40 (.ptr (some (H1.length, 0))) 2) fun K43 => Zap K43 fun C44 Z45 => Zen .u8 (some C44) fun X46 => Zap Z45 fun C47 Z48 => xSl (some C47) fun A49 N50 C51 E52 => Zcr Z48 (Zdh (Zbv H40 (.ptr (some (H21.length, 0))) 2) fun K53 => Zap K53 fun C54 Z55 => Zen .u8 (some C54) fun X56 => Zap Z55 fun C57 Z58 => xSl (some C57) fun A59 N60 C61 E62 => Zcr Z58 (Zae pg Zlf [.ptr (some (H39.length, 0)), .agg [.int .u8 X46, .slice A49 N50 C51 E52], .agg [.int .u8 X56, .slice A59 N60 C61 E62]] H40 fun V63 H64 =>
 Zci (some V63) fun B65 => bcase (!B65) (Zdc (H64 ++ [.cells Zbe [] false]) fun H66 => Q (.tup [.slice (some (H64.length, 0)) 0 0 true, .bool false]) H66) (J6 Q H39.length 0 H64)))))))))) : Zae pg Zjg [.str x0, .str x1] h Q :=
 Zae.of_body kp (c := cod fn) (fn := fn) Go.Proofs.Tryz.func119 (by kernel_rfl) (by kernel_rfl) (Nat.le_of_ble_eq_true (by kernel_rfl))
  (cast (by kernel_rfl) ht)
end Zlt
namespace Zoi
noncomputable abbrev fn : Func := Go.Proofs.Tryz.f118
def kp : Zbz := []
noncomputable def C (p : List Nat) : Code := (cod fn).sub p
def KR (Q : QT) : KT := Zes pg fn.results.toList Q
theorem call (x0 x1 : List Nat) (h : Zaa) (Q : QT) (ht :
 Zae pg Zjg [.str x0, .str x1] h fun V0 H1 =>
 Zva V0 fun K2 => Zap K2 fun C3 Z4 => xSl (some C3) fun A5 N6 C7 E8 => Zap Z4 fun C9 Z10 => Zci (some C9) fun B11 => Zcr Z10 (Q (.bool B11) H1)) : Zae pg Zks [.str x0, .str x1] h Q :=
 Zae.of_body kp (c := cod fn) (fn := fn) Go.Proofs.Tryz.func118 (by kernel_rfl) (by kernel_rfl) (Nat.le_of_ble_eq_true (by kernel_rfl))
  (cast (by kernel_rfl) ht)
end Zoi
end Go.Sim

set_option maxRecDepth 100000
set_option linter.unusedVariables false
namespace Go.Sim
open Go Go.RowKit
namespace Zrq
noncomputable abbrev fn : Func := Go.Proofs.Tryz.f145
def kp : Zbz := []
noncomputable def C (p : List Nat) : Code := (cod fn).sub p
def KR (Q : QT) : KT := Zes pg fn.results.toList Q
theorem call (x0 : Int) (h : Zaa) (Q : QT) (ht :
 Zae pg Zgz [.str ([88, 89, 90, 120, 121, 122, 49, 50, 51, 52, 53, 54]), .int .u8 x0] h fun V0 H1 =>
 Zen .i64 (some V0) fun X2 => Q (.int .i64 X2) H1) : Zae pg Zix [.int .u8 x0] h Q :=
 Zae.of_body kp (c := cod fn) (fn := fn) Go.Proofs.Tryz.func145 (by kernel_rfl) (by kernel_rfl) (Nat.le_of_ble_eq_true (by kernel_rfl))
  (cast (by kernel_rfl) ht)
end Zrq
namespace Ziu
noncomputable abbrev fn : Func := Go.Proofs.Tryz.f142
def kp : Zbz := [(2000004, []), (2000006, [6]), (3000010, [6]), (1000010, [0, 4, 5, 42, 43]), (2000012, [58, 43, 42, 0, 4, 5])]
noncomputable def C (p : List Nat) : Code := (cod fn).sub p
def KR (Q : QT) : KT := Zes pg fn.results.toList Q
abbrev T10 := Pt → Nat → Nat → Nat → Nat → Int → Int → Zaa → Prop
def E10 (R10 : T10) (env : Env) (h : Zaa) : Prop := Zbs 0 env fun v env => Zii (some v) fun a0 => Zbs 4 env fun v env => Zii (some v) fun a => Zbl a fun i4 o4 => Zbs 5 env fun v env => Zii (some v) fun a => Zbl a fun i5 o5 => Zbs 42 env fun v env => Zee .i64 v fun x42 => Zbs 43 env fun v env => Zee .i64 v fun x43 => Zje env (R10 a0 i4 o4 i5 o5 x42 x43 h)
theorem Ymg {R10 : T10} {env : Env} {h : Zaa} (hi : E10 R10 env h) : ∃ a0, ∃ i4, ∃ o4, ∃ i5, ∃ o5, ∃ x42, ∃ x43, env = [(0, .ptr a0), (4, .ptr (some (i4, o4))), (5, .ptr (some (i5, o5))), (42, .int .i64 x42), (43, .int .i64 x43)] ∧ R10 a0 i4 o4 i5 o5 x42 x43 h := by
 unfold E10 at hi
 have hi0 := hi
 clear hi
 obtain ⟨_, _, rfl, hi1⟩ := Zab hi0
 obtain ⟨a0, rfl, hi2⟩ := Zbw hi1
 obtain ⟨_, _, rfl, hi3⟩ := Zab hi2
 obtain ⟨a, rfl, hi4⟩ := Zbw hi3
 obtain ⟨i4, o4, rfl, hi5⟩ := Zbp hi4
 obtain ⟨_, _, rfl, hi6⟩ := Zab hi5
 obtain ⟨a, rfl, hi7⟩ := Zbw hi6
 obtain ⟨i5, o5, rfl, hi8⟩ := Zbp hi7
 obtain ⟨_, _, rfl, hi9⟩ := Zab hi8
 obtain ⟨x42, rfl, hi10⟩ := Zao hi9
 obtain ⟨_, _, rfl, hi11⟩ := Zab hi10
 obtain ⟨x43, rfl, hi12⟩ := Zao hi11
 obtain ⟨rfl, hi13⟩ := Zbg hi12
 have hi := hi13
 exact ⟨a0, i4, o4, i5, o5, x42, x43, rfl, hi⟩
def K0 (Q : QT) : KT := andThen (fun env' h' => (match kp.find 4000015 with | some ks => Den pg fn.ntmps (C [1, 1, 1, 1]) (env'.keep ks) h' (KR Q) | none => den pg fn.ntmps kp (C [1, 1, 1, 1]) env' h' (KR Q))) (KR Q)
def K1 (Q : QT) : KT := Zck 0 (K0 Q)
def K2 (Q : QT) : KT := left kp 10 (K1 Q)
def K3 (Q : QT) (R10 : T10) : KT := rnd ((kp.find 1000010).getD []) (E10 R10) (K2 Q)
def L10 (Q : QT) (a0 : Pt) (i4 o4 i5 o5 : Nat) (x42 x43 : Int) (h : Zaa) : Prop := Zec (Den pg fn.ntmps (C [1, 1, 1, 0, 1, 0, 0])) ((kp.find 1000010).getD []) (K2 Q) [(0, .ptr a0), (4, .ptr (some (i4, o4))), (5, .ptr (some (i5, o5))), (42, .int .i64 x42), (43, .int .i64 x43)] h
def Ysm (Q : QT) (h : Zaa) : Prop := At (K1 Q) (.exit 0) [(6, .undef)] h
def L10t (Q : QT) (R10 : T10) (a0 : Pt) (i4 o4 i5 o5 : Nat) (x42 x43 : Int) (h : Zaa) : Prop :=
 bcase (decide ((x43 : Int) < x42)) (xSl (Zak h (.ptr (some (i4, o4 + 1)))) fun A56 N57 C58 E59 => (0 ≤ (x43 : Int) ∧ (x43 : Int) < (N57 : Nat)) ∧ (Zbl A56 fun I60 O61 => Zdh (Zbv h (.ptr (some (I60, O61 + (Int.toNat x43) * 2))) 2) fun K62 => Zap K62 fun C63 Z64 => Zen .u8 (some C63) fun X65 => Zap Z64 fun C66 Z67 => xSl (some C66) fun A68 N69 C70 E71 => Zcr Z67 (xSl (Zak h (.ptr (some (i5, o5 + 1)))) fun A72 N73 C74 E75 => (Zbv h (.ptr (some (I60, O61 + (Int.toNat x43) * 2))) 2 = Zbv h (.ptr (some (I60, O61 + (Int.toNat x43) * 2))) 2) ∧ (Zak h (.ptr (some (i4, o4 + 1))) = Zak h (.ptr (some (i4, o4 + 1)))) ∧ (0 ≤ (x43 : Int) ∧ (x43 : Int) < (N73 : Nat)) ∧ (Zbl A72 fun I76 O77 => Zdh (Zbv h (.ptr (some (I76, O77 + (Int.toNat x43) * 2))) 2) fun K78 => Zap K78 fun C79 Z80 => Zen .u8 (some C79) fun X81 => Zap Z80 fun C82 Z83 => xSl (some C82) fun A84 N85 C86 E87 => Zcr Z83 ((Zbv h (.ptr (some (I60, O61 + (Int.toNat x43) * 2))) 2 = Zbv h (.ptr (some (I60, O61 + (Int.toNat x43) * 2))) 2) ∧ (Zak h (.ptr (some (i4, o4 + 1))) = Zak h (.ptr (some (i4, o4 + 1)))) ∧ Zae pg Zlf [.ptr a0, .agg [.int .u8 X65, .slice A68 N69 C70 E71], .agg [.int .u8 X81, .slice A84 N85 C86 E87]] h fun V88 H89 =>
 Zci (some V88) fun B90 => (Zak H89 (.ptr (some (i4, o4 + 1))) = Zak h (.ptr (some (i4, o4 + 1)))) ∧ bcase (!B90) (Q (.bool false) H89) (R10 a0 i4 o4 i5 o5 x42 (IntKind.wrap .i64 (x43 + 1)) H89)))))) (Ysm Q h)
theorem Ytm (Q : QT) (R10 : T10) (a0 : Pt) (i4 o4 i5 o5 : Nat) (x42 x43 : Int) (h : Zaa) (ht : L10t Q R10 a0 i4 o4 i5 o5 x42 x43 h) : Den pg fn.ntmps (C [1, 1, 1, 0, 1, 0, 0]) [(0, .ptr a0), (4, .ptr (some (i4, o4))), (5, .ptr (some (i5, o5))), (42, .int .i64 x42), (43, .int .i64 x43)] h (K3 Q R10) :=
 Zba (kp := kp) (cast (by kernel_rfl) ht)
theorem L10ind (Q : QT) (a0 : Pt) (i4 o4 i5 o5 : Nat) (x42 : Int) {G : Type} (J : G → Int → Zaa → Prop) (m : G → Nat)
 (hr : ∀ (g : G) (x43 : Int) (h : Zaa), J g x43 h → ∀ (R10 : T10), (∀ g' (x43 : Int) (h : Zaa), m g' < m g → J g' x43 h → R10 a0 i4 o4 i5 o5 x42 x43 h) → L10t Q R10 a0 i4 o4 i5 o5 x42 x43 h)
 (g : G) (x43 : Int) (h : Zaa) (hj : J g x43 h) : L10 Q a0 i4 o4 i5 o5 x42 x43 h := by
 refine Zec.inv2 (fun g => E10 fun a0' i4' o4' i5' o5' x42' x43 h => a0 = a0' ∧ i4 = i4' ∧ o4 = o4' ∧ i5 = i5' ∧ o5 = o5' ∧ x42 = x42' ∧ J g x43 h) (fun g => E10 fun a0' i4' o4' i5' o5' x42' x43 h => a0 = a0' ∧ i4 = i4' ∧ o4 = o4' ∧ i5 = i5' ∧ o5 = o5' ∧ x42 = x42' ∧ ∃ g', m g' < m g ∧ J g' x43 h) m ?_ ?_ g ⟨rfl, rfl, rfl, rfl, rfl, rfl, hj⟩
 ·intro g env h hi
  obtain ⟨a0', i4', o4', i5', o5', x42', x43, rfl, rfl, rfl, rfl, rfl, rfl, rfl, hj⟩ := Ymg hi
  exact Ytm Q _ a0 i4 o4 i5 o5 x42 x43 h (hr g x43 h hj (fun a0' i4' o4' i5' o5' x42' x43 h => a0 = a0' ∧ i4 = i4' ∧ o4 = o4' ∧ i5 = i5' ∧ o5 = o5' ∧ x42 = x42' ∧ ∃ g', m g' < m g ∧ J g' x43 h) fun g' x43 h hlt hj => ⟨rfl, rfl, rfl, rfl, rfl, rfl, g', hlt, hj⟩)
 ·intro g env h hi
  obtain ⟨a0', i4', o4', i5', o5', x42', x43, rfl, rfl, rfl, rfl, rfl, rfl, rfl, g', hlt, hj⟩ := Ymg hi
  exact ⟨g', hlt, rfl, rfl, rfl, rfl, rfl, rfl, hj⟩
theorem A10x0i (Q : QT) (h : Zaa) (ht :
 Q (.bool true) h) : Ysm Q h :=
 At.mk (cast (by kernel_rfl) ht)
theorem call (a0 : Pt) (x1x0 : Int) (a1x1 : Pt) (n1x1 c1x1 : Nat) (e1x1 : Bool) (x2x0 : Int) (a2x1 : Pt) (n2x1 c2x1 : Nat) (e2x1 : Bool) (h : Zaa) (Q : QT) (ht :
 Zdc (h ++ [.cells Zad [.int .u8 x1x0, .slice a1x1 n1x1 c1x1 e1x1] false]) fun H0 => Zdc (H0 ++ [.cells Zad [.int .u8 x2x0, .slice a2x1 n2x1 c2x1 e2x1] false]) fun H1 => Zen .u8 (Zak H1 (.ptr (some (h.length, 0 + 0)))) fun X2 => Zae pg Zix [.int .u8 X2] H1 fun V3 H4 =>
 Zen .i64 (some V3) fun X5 => bcase (decide ((X5 : Int) ≥ 0)) (Zbl a0 fun I6 O7 => (0 ≤ (X5 : Int) ∧ (X5 : Int) < (12 : Nat)) ∧ (Zen .u8 (Zak H4 (.ptr (some (I6, O7 + (Int.toNat X5) * 2 + 0)))) fun X8 => bcase ((X8 : Int) == 0) (Zbl a0 fun I9 O10 => Zdh (Zbv H4 (.ptr (some (H0.length, 0))) 2) fun K11 => Zap K11 fun C12 Z13 => Zen .u8 (some C12) fun X14 => Zap Z13 fun C15 Z16 => xSl (some C15) fun A17 N18 C19 E20 => Zcr Z16 ((0 ≤ (X5 : Int) ∧ (X5 : Int) < (12 : Nat)) ∧ (Zcp (Zbk H4 (.ptr (some (I9, O10 + (Int.toNat X5) * 2))) [.int .u8 X14, .slice A17 N18 C19 E20]) fun H21 => Q (.bool true) H21))) (Zbl a0 fun I22 O23 => (0 ≤ (X5 : Int) ∧ (X5 : Int) < (12 : Nat)) ∧ (Zdh (Zbv H4 (.ptr (some (I22, O23 + (Int.toNat X5) * 2))) 2) fun K24 => Zap K24 fun C25 Z26 => Zen .u8 (some C25) fun X27 => Zap Z26 fun C28 Z29 => xSl (some C28) fun A30 N31 C32 E33 => Zcr Z29 (Zdh (Zbv H4 (.ptr (some (H0.length, 0))) 2) fun K34 => Zap K34 fun C35 Z36 => Zen .u8 (some C35) fun X37 => Zap Z36 fun C38 Z39 => xSl (some C38) fun A40 N41 C42 E43 => Zcr Z39 (Zae pg Zgl [.agg [.int .u8 X27, .slice A30 N31 C32 E33]] H4 fun V44 H45 =>
 Zbo (some V44) fun S46 => (Zbv H45 (.ptr (some (H0.length, 0))) 2 = Zbv H4 (.ptr (some (H0.length, 0))) 2) ∧ Zae pg Zgl [.agg [.int .u8 X37, .slice A40 N41 C42 E43]] H45 fun V47 H48 =>
 Zbo (some V47) fun S49 => (Zbv H48 (.ptr (some (I22, O23 + (Int.toNat X5) * 2))) 2 = Zbv H45 (.ptr (some (I22, O23 + (Int.toNat X5) * 2))) 2) ∧ Q (.bool (decide (S46 = S49))) H48)))))) (Zen .u8 (Zak H4 (.ptr (some (h.length, 0 + 0)))) fun X50 => Zen .u8 (Zak H4 (.ptr (some (H0.length, 0 + 0)))) fun X51 => bcase (!((X50 : Int) == X51)) (Q (.bool false) H4) (xSl (Zak H4 (.ptr (some (h.length, 0 + 1)))) fun A52 N53 C54 E55 => L10 Q a0 h.length 0 H0.length 0 (((N53 : Nat) : Int)) 0 H4))) : Zae pg Zlf [.ptr a0, .agg [.int .u8 x1x0, .slice a1x1 n1x1 c1x1 e1x1], .agg [.int .u8 x2x0, .slice a2x1 n2x1 c2x1 e2x1]] h Q :=
 Zae.of_body kp (c := cod fn) (fn := fn) Go.Proofs.Tryz.func142 (by kernel_rfl) (by kernel_rfl) (Nat.le_of_ble_eq_true (by kernel_rfl))
  (cast (by kernel_rfl) ht)
end Ziu
end Go.Sim

set_option maxRecDepth 100000
set_option linter.unusedVariables false
namespace Go.Sim
open Go Go.RowKit
end Go.Sim

set_option maxRecDepth 100000
set_option linter.unusedVariables false
namespace Go.Sim
open Go Go.RowKit
namespace Zkm
noncomputable abbrev fn : Func := Go.Proofs.Tryz.f127
def kp : Zbz := []
noncomputable def C (p : List Nat) : Code := (cod fn).sub p
def KR (Q : QT) : KT := Zes pg fn.results.toList Q
theorem call (x0x0 x0x1 : List Nat) (a0x2 : Pt) (n0x2 c0x2 : Nat) (e0x2 : Bool) (v1 : Zam) (h : Zaa) (Q : QT) (ht :
 Zdc (h ++ [.cells Zac [.str x0x0, .str x0x1, .slice a0x2 n0x2 c0x2 e0x2] false]) fun H0 => Zbo (Zak H0 (.ptr (some (h.length, 0 + 0 + 1)))) fun S1 => Zib pg Zaj v1 1 fun V2 => Zbo (Zak H0 (V2)) fun S3 => Zae pg Zlb [.str S1, .str S3] H0 fun V4 H5 =>
 Zci (some V4) fun B6 => Q (.bool B6) H5) : Zae pg Zch [.agg [.str x0x0, .str x0x1, .slice a0x2 n0x2 c0x2 e0x2], v1] h Q :=
 Zae.of_body kp (c := cod fn) (fn := fn) Go.Proofs.Tryz.func127 (by kernel_rfl) (by kernel_rfl) (Nat.le_of_ble_eq_true (by kernel_rfl))
  (cast (by kernel_rfl) ht)
end Zkm
namespace Zbt
noncomputable abbrev fn : Func := Go.Proofs.Tryz.f126
def kp : Zbz := [(3000003, [7]), (1000003, [1, 2, 7, 12, 13, 14]), (4000007, [14, 13, 12, 1, 2, 7])]
noncomputable def C (p : List Nat) : Code := (cod fn).sub p
def KR (Q : QT) : KT := Zes pg fn.results.toList Q
abbrev T3 := List Nat → Zam → Pt → Nat → Nat → Bool → Pt → Nat → Nat → Bool → Int → Int → Zaa → Prop
def E3 (R3 : T3) (env : Env) (h : Zaa) : Prop := Zbs 1 env fun v env => Zbo (some v) fun x1 => Zbs 2 env fun v env => eFn Zch v fun cs => Zap cs fun c cs' => Zwj (some c) fun v2x0 => Zcr cs' (Zbs 7 env fun v env => xSl (some v) fun a7 n7 c7 e7 => Zbs 12 env fun v env => xSl (some v) fun a12 n12 c12 e12 => Zbs 13 env fun v env => Zee .i64 v fun x13 => Zbs 14 env fun v env => Zee .i64 v fun x14 => Zje env (R3 x1 v2x0 a7 n7 c7 e7 a12 n12 c12 e12 x13 x14 h))
theorem Zdw {R3 : T3} {env : Env} {h : Zaa} (hi : E3 R3 env h) : ∃ x1, ∃ v2x0, ∃ a7, ∃ n7, ∃ c7, ∃ e7, ∃ a12, ∃ n12, ∃ c12, ∃ e12, ∃ x13, ∃ x14, env = [(1, .str x1), (2, .fn Zch [v2x0]), (7, .slice a7 n7 c7 e7), (12, .slice a12 n12 c12 e12), (13, .int .i64 x13), (14, .int .i64 x14)] ∧ R3 x1 v2x0 a7 n7 c7 e7 a12 n12 c12 e12 x13 x14 h := by
 unfold E3 at hi
 have hi0 := hi
 clear hi
 obtain ⟨_, _, rfl, hi1⟩ := Zab hi0
 obtain ⟨x1, rfl, hi2⟩ := Zel hi1
 obtain ⟨_, _, rfl, hi3⟩ := Zab hi2
 obtain ⟨cs, rfl, hi4⟩ := Zti hi3
 obtain ⟨c, cs', rfl, hi5⟩ := Zjo hi4
 obtain ⟨v2x0, hx, hi6⟩ := Zhk hi5
 replace hx := (Option.some.inj hx).symm
 subst hx
 obtain ⟨rfl, hi7⟩ := Zqk hi6
 obtain ⟨_, _, rfl, hi8⟩ := Zab hi7
 obtain ⟨a7, n7, c7, e7, rfl, hi9⟩ := Zbf hi8
 obtain ⟨_, _, rfl, hi10⟩ := Zab hi9
 obtain ⟨a12, n12, c12, e12, rfl, hi11⟩ := Zbf hi10
 obtain ⟨_, _, rfl, hi12⟩ := Zab hi11
 obtain ⟨x13, rfl, hi13⟩ := Zao hi12
 obtain ⟨_, _, rfl, hi14⟩ := Zab hi13
 obtain ⟨x14, rfl, hi15⟩ := Zao hi14
 obtain ⟨rfl, hi16⟩ := Zbg hi15
 have hi := hi16
 exact ⟨x1, v2x0, a7, n7, c7, e7, a12, n12, c12, e12, x13, x14, rfl, hi⟩
def K0 (Q : QT) : KT := andThen (fun env' h' => (match kp.find 4000008 with | some ks => Den pg fn.ntmps (C [1, 1, 1]) (env'.keep ks) h' (KR Q) | none => den pg fn.ntmps kp (C [1, 1, 1]) env' h' (KR Q))) (KR Q)
def K1 (Q : QT) : KT := Zck 0 (K0 Q)
def K2 (Q : QT) : KT := left kp 3 (K1 Q)
def K3 (Q : QT) (R3 : T3) : KT := rnd ((kp.find 1000003).getD []) (E3 R3) (K2 Q)
def L3 (Q : QT) (x1 : List Nat) (v2x0 : Zam) (a7 : Pt) (n7 c7 : Nat) (e7 : Bool) (a12 : Pt) (n12 c12 : Nat) (e12 : Bool) (x13 x14 : Int) (h : Zaa) : Prop := Zec (Den pg fn.ntmps (C [1, 1, 0, 1, 0, 0])) ((kp.find 1000003).getD []) (K2 Q) [(1, .str x1), (2, .fn Zch [v2x0]), (7, .slice a7 n7 c7 e7), (12, .slice a12 n12 c12 e12), (13, .int .i64 x13), (14, .int .i64 x14)] h
def J7 (Q : QT) (R3 : T3) (x14 x13 : Int) (a12 : Pt) (n12 c12 : Nat) (e12 : Bool) (x1 : List Nat) (v2x0 : Zam) (a7 : Pt) (n7 c7 : Nat) (e7 : Bool) (h : Zaa) : Prop := Den pg fn.ntmps (C [1, 1, 0, 1, 0, 0, 1, 1, 1]) [(14, .int .i64 x14), (13, .int .i64 x13), (12, .slice a12 n12 c12 e12), (1, .str x1), (2, .fn Zch [v2x0]), (7, .slice a7 n7 c7 e7)] h (K3 Q R3)
def Znf (Q : QT) (a7 : Pt) (n7 c7 : Nat) (e7 : Bool) (h : Zaa) : Prop := At (K1 Q) (.exit 0) [(7, .slice a7 n7 c7 e7)] h
def L3t (Q : QT) (R3 : T3) (x1 : List Nat) (v2x0 : Zam) (a7 : Pt) (n7 c7 : Nat) (e7 : Bool) (a12 : Pt) (n12 c12 : Nat) (e12 : Bool) (x13 x14 : Int) (h : Zaa) : Prop :=
 bcase (decide ((x14 : Int) < x13)) ((0 ≤ (x14 : Int) ∧ (x14 : Int) < (n12 : Nat)) ∧ (Zbl a12 fun I6 O7 => Zdh (Zbv h (.ptr (some (I6, O7 + (Int.toNat x14) * 3))) 3) fun K8 => Zap K8 fun C9 Z10 => Zbo (some C9) fun S11 => Zap Z10 fun C12 Z13 => Zbo (some C12) fun S14 => Zap Z13 fun C15 Z16 => xSl (some C15) fun A17 N18 C19 E20 => Zcr Z16 (Zdc (h ++ [.cells Zac [.str [], .str [], .slice none 0 0 true] false]) fun H21 => Zcp (Zbk H21 (.ptr (some (h.length, 0))) [.str S11, .str S14, .slice A17 N18 C19 E20]) fun H22 => Zbo (Zak H22 (.ptr (some (h.length, 0 + 0 + 0)))) fun S23 => bcase (decide (S23 = x1)) (Zdh (Zbv H22 (.ptr (some (h.length, 0))) 3) fun K24 => Zap K24 fun C25 Z26 => Zbo (some C25) fun S27 => Zap Z26 fun C28 Z29 => Zbo (some C28) fun S30 => Zap Z29 fun C31 Z32 => xSl (some C31) fun A33 N34 C35 E36 => Zcr Z32 (Zae pg Zch [.agg [.str S27, .str S30, .slice A33 N34 C35 E36], v2x0] H22 fun V37 H38 =>
 Zci (some V37) fun B39 => bcase B39 (Zdc (H38 ++ [.cells Zgs [.int .i64 x14] false]) fun H40 => Zdd pg Zvk H40 (.slice a7 n7 c7 e7) (.slice (some (H38.length, 0)) 1 1 true) fun V41 H42 => xSl (some V41) fun A43 N44 C45 E46 => J7 Q R3 x14 x13 a12 n12 c12 e12 x1 v2x0 A43 N44 C45 E46 H42) (J7 Q R3 x14 x13 a12 n12 c12 e12 x1 v2x0 a7 n7 c7 e7 H38))) (J7 Q R3 x14 x13 a12 n12 c12 e12 x1 v2x0 a7 n7 c7 e7 H22)))) (Znf Q a7 n7 c7 e7 h)
theorem Zkh (Q : QT) (R3 : T3) (x1 : List Nat) (v2x0 : Zam) (a7 : Pt) (n7 c7 : Nat) (e7 : Bool) (a12 : Pt) (n12 c12 : Nat) (e12 : Bool) (x13 x14 : Int) (h : Zaa) (ht : L3t Q R3 x1 v2x0 a7 n7 c7 e7 a12 n12 c12 e12 x13 x14 h) : Den pg fn.ntmps (C [1, 1, 0, 1, 0, 0]) [(1, .str x1), (2, .fn Zch [v2x0]), (7, .slice a7 n7 c7 e7), (12, .slice a12 n12 c12 e12), (13, .int .i64 x13), (14, .int .i64 x14)] h (K3 Q R3) :=
 Zba (kp := kp) (cast (by kernel_rfl) ht)
theorem L3ind (Q : QT) (x1 : List Nat) (v2x0 : Zam) (a12 : Pt) (n12 c12 : Nat) (e12 : Bool) (x13 : Int) {G : Type} (J : G → Pt → Nat → Nat → Bool → Int → Zaa → Prop) (m : G → Nat)
 (hr : ∀ (g : G) (a7 : Pt) (n7 c7 : Nat) (e7 : Bool) (x14 : Int) (h : Zaa), J g a7 n7 c7 e7 x14 h → ∀ (R3 : T3), (∀ g' (a7 : Pt) (n7 c7 : Nat) (e7 : Bool) (x14 : Int) (h : Zaa), m g' < m g → J g' a7 n7 c7 e7 x14 h → R3 x1 v2x0 a7 n7 c7 e7 a12 n12 c12 e12 x13 x14 h) → L3t Q R3 x1 v2x0 a7 n7 c7 e7 a12 n12 c12 e12 x13 x14 h)
 (g : G) (a7 : Pt) (n7 c7 : Nat) (e7 : Bool) (x14 : Int) (h : Zaa) (hj : J g a7 n7 c7 e7 x14 h) : L3 Q x1 v2x0 a7 n7 c7 e7 a12 n12 c12 e12 x13 x14 h := by
 refine Zec.inv2 (fun g => E3 fun x1' v2x0' a7 n7 c7 e7 a12' n12' c12' e12' x13' x14 h => x1 = x1' ∧ v2x0 = v2x0' ∧ a12 = a12' ∧ n12 = n12' ∧ c12 = c12' ∧ e12 = e12' ∧ x13 = x13' ∧ J g a7 n7 c7 e7 x14 h) (fun g => E3 fun x1' v2x0' a7 n7 c7 e7 a12' n12' c12' e12' x13' x14 h => x1 = x1' ∧ v2x0 = v2x0' ∧ a12 = a12' ∧ n12 = n12' ∧ c12 = c12' ∧ e12 = e12' ∧ x13 = x13' ∧ ∃ g', m g' < m g ∧ J g' a7 n7 c7 e7 x14 h) m ?_ ?_ g ⟨rfl, rfl, rfl, rfl, rfl, rfl, rfl, hj⟩
 ·intro g env h hi
  obtain ⟨x1', v2x0', a7, n7, c7, e7, a12', n12', c12', e12', x13', x14, rfl, rfl, rfl, rfl, rfl, rfl, rfl, rfl, hj⟩ := Zdw hi
  exact Zkh Q _ x1 v2x0 a7 n7 c7 e7 a12 n12 c12 e12 x13 x14 h (hr g a7 n7 c7 e7 x14 h hj (fun x1' v2x0' a7 n7 c7 e7 a12' n12' c12' e12' x13' x14 h => x1 = x1' ∧ v2x0 = v2x0' ∧ a12 = a12' ∧ n12 = n12' ∧ c12 = c12' ∧ e12 = e12' ∧ x13 = x13' ∧ ∃ g', m g' < m g ∧ J g' a7 n7 c7 e7 x14 h) fun g' a7 n7 c7 e7 x14 h hlt hj => ⟨rfl, rfl, rfl, rfl, rfl, rfl, rfl, g', hlt, hj⟩)
 ·intro g env h hi
  obtain ⟨x1', v2x0', a7, n7, c7, e7, a12', n12', c12', e12', x13', x14, rfl, rfl, rfl, rfl, rfl, rfl, rfl, rfl, g', hlt, hj⟩ := Zdw hi
  exact ⟨g', hlt, rfl, rfl, rfl, rfl, rfl, rfl, rfl, hj⟩
theorem J7i (Q : QT) (R3 : T3) (x14 x13 : Int) (a12 : Pt) (n12 c12 : Nat) (e12 : Bool) (x1 : List Nat) (v2x0 : Zam) (a7 : Pt) (n7 c7 : Nat) (e7 : Bool) (h : Zaa) (ht :
 R3 x1 v2x0 a7 n7 c7 e7 a12 n12 c12 e12 x13 (IntKind.wrap .i64 (x14 + 1)) h) : J7 Q R3 x14 x13 a12 n12 c12 e12 x1 v2x0 a7 n7 c7 e7 h :=
 Zba (kp := kp) (cast (by kernel_rfl) ht)
theorem A3x0i (Q : QT) (a7 : Pt) (n7 c7 : Nat) (e7 : Bool) (h : Zaa) (ht :
 Q (.slice a7 n7 c7 e7) h) : Znf Q a7 n7 c7 e7 h :=
 At.mk (cast (by kernel_rfl) ht)
theorem call (a0x0 : Pt) (n0x0 c0x0 : Nat) (e0x0 : Bool) (a0x1 : Pt) (n0x1 c0x1 : Nat) (e0x1 : Bool) (x1 : List Nat) (v2x0 : Zam) (h : Zaa) (Q : QT) (ht :
 Zdc (h ++ [.cells Zaf [.slice a0x0 n0x0 c0x0 e0x0, .slice a0x1 n0x1 c0x1 e0x1] false]) fun H0 => Zdc (H0 ++ [.cells Zgs [] false]) fun H1 => xSl (Zak H1 (.ptr (some (h.length, 0 + 1)))) fun A2 N3 C4 E5 => L3 Q x1 v2x0 (some (H0.length, 0)) 0 0 true A2 N3 C4 E5 (((N3 : Nat) : Int)) 0 H1) : Zae pg Zqb [.agg [.slice a0x0 n0x0 c0x0 e0x0, .slice a0x1 n0x1 c0x1 e0x1], .str x1, .fn Zch [v2x0]] h Q :=
 Zae.of_body kp (c := cod fn) (fn := fn) Go.Proofs.Tryz.func126 (by kernel_rfl) (by kernel_rfl) (Nat.le_of_ble_eq_true (by kernel_rfl))
  (cast (by kernel_rfl) ht)
end Zbt
namespace Zok
noncomputable abbrev fn : Func := Go.Proofs.Tryz.f92
def kp : Zbz := []
noncomputable def C (p : List Nat) : Code := (cod fn).sub p
def KR (Q : QT) : KT := Zes pg fn.results.toList Q
theorem call (a0x0 : Pt) (n0x0 c0x0 : Nat) (e0x0 : Bool) (a0x1 : Pt) (n0x1 c0x1 : Nat) (e0x1 : Bool) (x1x0 x1x1 : List Nat) (h : Zaa) (Q : QT) (ht :
 Zdc (h ++ [.cells Zaf [.slice a0x0 n0x0 c0x0 e0x0, .slice a0x1 n0x1 c0x1 e0x1] false]) fun H0 => Zdc (H0 ++ [.cells Zaj [.str x1x0, .str x1x1] false]) fun H1 => Zdh (Zbv H1 (.ptr (some (h.length, 0))) 2) fun K2 => Zap K2 fun C3 Z4 => xSl (some C3) fun A5 N6 C7 E8 => Zap Z4 fun C9 Z10 => xSl (some C9) fun A11 N12 C13 E14 => Zcr Z10 (Zbo (Zak H1 (.ptr (some (H0.length, 0 + 0)))) fun S15 => Zae pg Zqb [.agg [.slice A5 N6 C7 E8, .slice A11 N12 C13 E14], .str S15, .fn Zch [.ptr (some (H0.length, 0))]] H1 fun V16 H17 =>
 xSl (some V16) fun A18 N19 C20 E21 => Q (.slice A18 N19 C20 E21) H17)) : Zae pg Zkz [.agg [.slice a0x0 n0x0 c0x0 e0x0, .slice a0x1 n0x1 c0x1 e0x1], .agg [.str x1x0, .str x1x1]] h Q :=
 Zae.of_body kp (c := cod fn) (fn := fn) Go.Proofs.Tryz.func92 (by kernel_rfl) (by kernel_rfl) (Nat.le_of_ble_eq_true (by kernel_rfl))
  (cast (by kernel_rfl) ht)
end Zok
namespace Zdq
noncomputable abbrev fn : Func := Go.Proofs.Tryz.f85
def kp : Zbz := [(3000003, [5]), (1000003, [3, 5, 10, 11, 12]), (4000007, [12, 11, 10, 3, 5])]
noncomputable def C (p : List Nat) : Code := (cod fn).sub p
def KR (Q : QT) : KT := Zes pg fn.results.toList Q
abbrev T3 := Nat → Nat → Pt → Nat → Nat → Bool → Pt → Nat → Nat → Bool → Int → Int → Zaa → Prop
def E3 (R3 : T3) (env : Env) (h : Zaa) : Prop := Zbs 3 env fun v env => Zii (some v) fun a => Zbl a fun i3 o3 => Zbs 5 env fun v env => xSl (some v) fun a5 n5 c5 e5 => Zbs 10 env fun v env => xSl (some v) fun a10 n10 c10 e10 => Zbs 11 env fun v env => Zee .i64 v fun x11 => Zbs 12 env fun v env => Zee .i64 v fun x12 => Zje env (R3 i3 o3 a5 n5 c5 e5 a10 n10 c10 e10 x11 x12 h)
theorem Zdw {R3 : T3} {env : Env} {h : Zaa} (hi : E3 R3 env h) : ∃ i3, ∃ o3, ∃ a5, ∃ n5, ∃ c5, ∃ e5, ∃ a10, ∃ n10, ∃ c10, ∃ e10, ∃ x11, ∃ x12, env = [(3, .ptr (some (i3, o3))), (5, .slice a5 n5 c5 e5), (10, .slice a10 n10 c10 e10), (11, .int .i64 x11), (12, .int .i64 x12)] ∧ R3 i3 o3 a5 n5 c5 e5 a10 n10 c10 e10 x11 x12 h := by
 unfold E3 at hi
 have hi0 := hi
 clear hi
 obtain ⟨_, _, rfl, hi1⟩ := Zab hi0
 obtain ⟨a, rfl, hi2⟩ := Zbw hi1
 obtain ⟨i3, o3, rfl, hi3⟩ := Zbp hi2
 obtain ⟨_, _, rfl, hi4⟩ := Zab hi3
 obtain ⟨a5, n5, c5, e5, rfl, hi5⟩ := Zbf hi4
 obtain ⟨_, _, rfl, hi6⟩ := Zab hi5
 obtain ⟨a10, n10, c10, e10, rfl, hi7⟩ := Zbf hi6
 obtain ⟨_, _, rfl, hi8⟩ := Zab hi7
 obtain ⟨x11, rfl, hi9⟩ := Zao hi8
 obtain ⟨_, _, rfl, hi10⟩ := Zab hi9
 obtain ⟨x12, rfl, hi11⟩ := Zao hi10
 obtain ⟨rfl, hi12⟩ := Zbg hi11
 have hi := hi12
 exact ⟨i3, o3, a5, n5, c5, e5, a10, n10, c10, e10, x11, x12, rfl, hi⟩
def K0 (Q : QT) : KT := andThen (fun env' h' => (match kp.find 4000008 with | some ks => Den pg fn.ntmps (C [1, 1, 1]) (env'.keep ks) h' (KR Q) | none => den pg fn.ntmps kp (C [1, 1, 1]) env' h' (KR Q))) (KR Q)
def K1 (Q : QT) : KT := Zck 0 (K0 Q)
def K2 (Q : QT) : KT := left kp 3 (K1 Q)
def K3 (Q : QT) (R3 : T3) : KT := rnd ((kp.find 1000003).getD []) (E3 R3) (K2 Q)
def L3 (Q : QT) (i3 o3 : Nat) (a5 : Pt) (n5 c5 : Nat) (e5 : Bool) (a10 : Pt) (n10 c10 : Nat) (e10 : Bool) (x11 x12 : Int) (h : Zaa) : Prop := Zec (Den pg fn.ntmps (C [1, 1, 0, 1, 0, 0])) ((kp.find 1000003).getD []) (K2 Q) [(3, .ptr (some (i3, o3))), (5, .slice a5 n5 c5 e5), (10, .slice a10 n10 c10 e10), (11, .int .i64 x11), (12, .int .i64 x12)] h
def J7 (Q : QT) (R3 : T3) (x12 x11 : Int) (a10 : Pt) (n10 c10 : Nat) (e10 : Bool) (i3 o3 : Nat) (a5 : Pt) (n5 c5 : Nat) (e5 : Bool) (h : Zaa) : Prop := Den pg fn.ntmps (C [1, 1, 0, 1, 0, 0, 1, 1, 1]) [(12, .int .i64 x12), (11, .int .i64 x11), (10, .slice a10 n10 c10 e10), (3, .ptr (some (i3, o3))), (5, .slice a5 n5 c5 e5)] h (K3 Q R3)
def Znf (Q : QT) (a5 : Pt) (n5 c5 : Nat) (e5 : Bool) (h : Zaa) : Prop := At (K1 Q) (.exit 0) [(5, .slice a5 n5 c5 e5)] h
def L3t (Q : QT) (R3 : T3) (i3 o3 : Nat) (a5 : Pt) (n5 c5 : Nat) (e5 : Bool) (a10 : Pt) (n10 c10 : Nat) (e10 : Bool) (x11 x12 : Int) (h : Zaa) : Prop :=
 bcase (decide ((x12 : Int) < x11)) ((0 ≤ (x12 : Int) ∧ (x12 : Int) < (n10 : Nat)) ∧ (Zbl a10 fun I7 O8 => Zdh (Zbv h (.ptr (some (I7, O8 + (Int.toNat x12) * 3))) 3) fun K9 => Zap K9 fun C10 Z11 => Zbo (some C10) fun S12 => Zap Z11 fun C13 Z14 => Zbo (some C13) fun S15 => Zap Z14 fun C16 Z17 => xSl (some C16) fun A18 N19 C20 E21 => Zcr Z17 (Zdc (h ++ [.cells Zac [.str [], .str [], .slice none 0 0 true] false]) fun H22 => Zcp (Zbk H22 (.ptr (some (h.length, 0))) [.str S12, .str S15, .slice A18 N19 C20 E21]) fun H23 => Zbo (Zak H23 (.ptr (some (h.length, 0 + 0 + 0)))) fun S24 => Zbo (Zak H23 (.ptr (some (i3, o3 + 0)))) fun S25 => bcase (decide (S24 = S25)) (Zbo (Zak H23 (.ptr (some (h.length, 0 + 0 + 1)))) fun S26 => Zbo (Zak H23 (.ptr (some (i3, o3 + 1)))) fun S27 => Zae pg Zks [.str S26, .str S27] H23 fun V28 H29 =>
 Zci (some V28) fun B30 => bcase B30 (Zdc (H29 ++ [.cells Zgs [.int .i64 x12] false]) fun H31 => Zdd pg Zvk H31 (.slice a5 n5 c5 e5) (.slice (some (H29.length, 0)) 1 1 true) fun V32 H33 => xSl (some V32) fun A34 N35 C36 E37 => J7 Q R3 x12 x11 a10 n10 c10 e10 i3 o3 A34 N35 C36 E37 H33) (J7 Q R3 x12 x11 a10 n10 c10 e10 i3 o3 a5 n5 c5 e5 H29)) (J7 Q R3 x12 x11 a10 n10 c10 e10 i3 o3 a5 n5 c5 e5 H23)))) (Znf Q a5 n5 c5 e5 h)
theorem Zkh (Q : QT) (R3 : T3) (i3 o3 : Nat) (a5 : Pt) (n5 c5 : Nat) (e5 : Bool) (a10 : Pt) (n10 c10 : Nat) (e10 : Bool) (x11 x12 : Int) (h : Zaa) (ht : L3t Q R3 i3 o3 a5 n5 c5 e5 a10 n10 c10 e10 x11 x12 h) : Den pg fn.ntmps (C [1, 1, 0, 1, 0, 0]) [(3, .ptr (some (i3, o3))), (5, .slice a5 n5 c5 e5), (10, .slice a10 n10 c10 e10), (11, .int .i64 x11), (12, .int .i64 x12)] h (K3 Q R3) :=
 Zba (kp := kp) (cast (by kernel_rfl) ht)
theorem L3ind (Q : QT) (i3 o3 : Nat) (a10 : Pt) (n10 c10 : Nat) (e10 : Bool) (x11 : Int) {G : Type} (J : G → Pt → Nat → Nat → Bool → Int → Zaa → Prop) (m : G → Nat)
 (hr : ∀ (g : G) (a5 : Pt) (n5 c5 : Nat) (e5 : Bool) (x12 : Int) (h : Zaa), J g a5 n5 c5 e5 x12 h → ∀ (R3 : T3), (∀ g' (a5 : Pt) (n5 c5 : Nat) (e5 : Bool) (x12 : Int) (h : Zaa), m g' < m g → J g' a5 n5 c5 e5 x12 h → R3 i3 o3 a5 n5 c5 e5 a10 n10 c10 e10 x11 x12 h) → L3t Q R3 i3 o3 a5 n5 c5 e5 a10 n10 c10 e10 x11 x12 h)
 (g : G) (a5 : Pt) (n5 c5 : Nat) (e5 : Bool) (x12 : Int) (h : Zaa) (hj : J g a5 n5 c5 e5 x12 h) : L3 Q i3 o3 a5 n5 c5 e5 a10 n10 c10 e10 x11 x12 h := by
 refine Zec.inv2 (fun g => E3 fun i3' o3' a5 n5 c5 e5 a10' n10' c10' e10' x11' x12 h => i3 = i3' ∧ o3 = o3' ∧ a10 = a10' ∧ n10 = n10' ∧ c10 = c10' ∧ e10 = e10' ∧ x11 = x11' ∧ J g a5 n5 c5 e5 x12 h) (fun g => E3 fun i3' o3' a5 n5 c5 e5 a10' n10' c10' e10' x11' x12 h => i3 = i3' ∧ o3 = o3' ∧ a10 = a10' ∧ n10 = n10' ∧ c10 = c10' ∧ e10 = e10' ∧ x11 = x11' ∧ ∃ g', m g' < m g ∧ J g' a5 n5 c5 e5 x12 h) m ?_ ?_ g ⟨rfl, rfl, rfl, rfl, rfl, rfl, rfl, hj⟩
 ·intro g env h hi
  obtain ⟨i3', o3', a5, n5, c5, e5, a10', n10', c10', e10', x11', x12, rfl, rfl, rfl, rfl, rfl, rfl, rfl, rfl, hj⟩ := Zdw hi
  exact Zkh Q _ i3 o3 a5 n5 c5 e5 a10 n10 c10 e10 x11 x12 h (hr g a5 n5 c5 e5 x12 h hj (fun i3' o3' a5 n5 c5 e5 a10' n10' c10' e10' x11' x12 h => i3 = i3' ∧ o3 = o3' ∧ a10 = a10' ∧ n10 = n10' ∧ c10 = c10' ∧ e10 = e10' ∧ x11 = x11' ∧ ∃ g', m g' < m g ∧ J g' a5 n5 c5 e5 x12 h) fun g' a5 n5 c5 e5 x12 h hlt hj => ⟨rfl, rfl, rfl, rfl, rfl, rfl, rfl, g', hlt, hj⟩)
 ·intro g env h hi
  obtain ⟨i3', o3', a5, n5, c5, e5, a10', n10', c10', e10', x11', x12, rfl, rfl, rfl, rfl, rfl, rfl, rfl, rfl, g', hlt, hj⟩ := Zdw hi
  exact ⟨g', hlt, rfl, rfl, rfl, rfl, rfl, rfl, rfl, hj⟩
theorem J7i (Q : QT) (R3 : T3) (x12 x11 : Int) (a10 : Pt) (n10 c10 : Nat) (e10 : Bool) (i3 o3 : Nat) (a5 : Pt) (n5 c5 : Nat) (e5 : Bool) (h : Zaa) (ht :
 R3 i3 o3 a5 n5 c5 e5 a10 n10 c10 e10 x11 (IntKind.wrap .i64 (x12 + 1)) h) : J7 Q R3 x12 x11 a10 n10 c10 e10 i3 o3 a5 n5 c5 e5 h :=
 Zba (kp := kp) (cast (by kernel_rfl) ht)
theorem A3x0i (Q : QT) (a5 : Pt) (n5 c5 : Nat) (e5 : Bool) (h : Zaa) (ht :
 Q (.slice a5 n5 c5 e5) h) : Znf Q a5 n5 c5 e5 h :=
 At.mk (cast (by kernel_rfl) ht)
theorem call (a0x0 : Pt) (n0x0 c0x0 : Nat) (e0x0 : Bool) (a0x1 : Pt) (n0x1 c0x1 : Nat) (e0x1 : Bool) (x1x0 x1x1 : List Nat) (h : Zaa) (Q : QT) (ht :
 Zdc (h ++ [.cells Zaf [.slice a0x0 n0x0 c0x0 e0x0, .slice a0x1 n0x1 c0x1 e0x1] false]) fun H0 => Zdc (H0 ++ [.cells Zaj [.str x1x0, .str x1x1] false]) fun H1 => Zdc (H1 ++ [.cells Zgs [] false]) fun H2 => xSl (Zak H2 (.ptr (some (h.length, 0 + 1)))) fun A3 N4 C5 E6 => L3 Q H0.length 0 (some (H1.length, 0)) 0 0 true A3 N4 C5 E6 (((N4 : Nat) : Int)) 0 H2) : Zae pg Zjk [.agg [.slice a0x0 n0x0 c0x0 e0x0, .slice a0x1 n0x1 c0x1 e0x1], .agg [.str x1x0, .str x1x1]] h Q :=
 Zae.of_body kp (c := cod fn) (fn := fn) Go.Proofs.Tryz.func85 (by kernel_rfl) (by kernel_rfl) (Nat.le_of_ble_eq_true (by kernel_rfl))
  (cast (by kernel_rfl) ht)
end Zdq
end Go.Sim

set_option maxRecDepth 100000
set_option linter.unusedVariables false
namespace Go.Sim
open Go Go.RowKit
end Go.Sim

set_option maxRecDepth 100000
set_option linter.unusedVariables false
namespace Go.Sim
open Go Go.RowKit
namespace Zhv
noncomputable abbrev fn : Func := Go.Proofs.Tryz.f22
def kp : Zbz := [(3000002, [1]), (1000002, [0, 1, 5])]
noncomputable def C (p : List Nat) : Code := (cod fn).sub p
def KR (Q : QT) : KT := Zes pg fn.results.toList Q
abbrev T2 := Pt → Nat → Nat → Bool → Int → Int → Zaa → Prop
def E2 (R2 : T2) (env : Env) (h : Zaa) : Prop := Zbs 0 env fun v env => xSl (some v) fun a0 n0 c0 e0 => Zbs 1 env fun v env => Zee .i64 v fun x1 => Zbs 5 env fun v env => Zee .i64 v fun x5 => Zje env (R2 a0 n0 c0 e0 x1 x5 h)
theorem Zdg {R2 : T2} {env : Env} {h : Zaa} (hi : E2 R2 env h) : ∃ a0, ∃ n0, ∃ c0, ∃ e0, ∃ x1, ∃ x5, env = [(0, .slice a0 n0 c0 e0), (1, .int .i64 x1), (5, .int .i64 x5)] ∧ R2 a0 n0 c0 e0 x1 x5 h := by
 unfold E2 at hi
 have hi0 := hi
 clear hi
 obtain ⟨_, _, rfl, hi1⟩ := Zab hi0
 obtain ⟨a0, n0, c0, e0, rfl, hi2⟩ := Zbf hi1
 obtain ⟨_, _, rfl, hi3⟩ := Zab hi2
 obtain ⟨x1, rfl, hi4⟩ := Zao hi3
 obtain ⟨_, _, rfl, hi5⟩ := Zab hi4
 obtain ⟨x5, rfl, hi6⟩ := Zao hi5
 obtain ⟨rfl, hi7⟩ := Zbg hi6
 have hi := hi7
 exact ⟨a0, n0, c0, e0, x1, x5, rfl, hi⟩
def K0 (Q : QT) : KT := andThen (fun env' h' => (match kp.find 4000006 with | some ks => Den pg fn.ntmps (C [1, 1]) (env'.keep ks) h' (KR Q) | none => den pg fn.ntmps kp (C [1, 1]) env' h' (KR Q))) (KR Q)
def K1 (Q : QT) : KT := Zck 0 (K0 Q)
def K2 (Q : QT) : KT := left kp 2 (K1 Q)
def K3 (Q : QT) (R2 : T2) : KT := rnd ((kp.find 1000002).getD []) (E2 R2) (K2 Q)
def L2 (Q : QT) (a0 : Pt) (n0 c0 : Nat) (e0 : Bool) (x1 x5 : Int) (h : Zaa) : Prop := Zec (Den pg fn.ntmps (C [1, 0, 1, 0, 0])) ((kp.find 1000002).getD []) (K2 Q) [(0, .slice a0 n0 c0 e0), (1, .int .i64 x1), (5, .int .i64 x5)] h
def Zlg (Q : QT) (x1 : Int) (h : Zaa) : Prop := At (K1 Q) (.exit 0) [(1, .int .i64 x1)] h
def L2t (Q : QT) (R2 : T2) (a0 : Pt) (n0 c0 : Nat) (e0 : Bool) (x1 x5 : Int) (h : Zaa) : Prop :=
 bcase (decide ((x5 : Int) < (((n0 : Nat) : Int)))) ((0 ≤ (x5 : Int) ∧ (x5 : Int) < (n0 : Nat)) ∧ (Zbl a0 fun I0 O1 => Zcp (Zbk h (.ptr (some (I0, O1 + (Int.toNat x5) * 1))) [.int .i64 x1]) fun H2 => R2 a0 n0 c0 e0 (IntKind.wrap .i64 (x1 + 1)) (IntKind.wrap .i64 (x5 + 1)) H2)) (Zlg Q x1 h)
theorem Zhn (Q : QT) (R2 : T2) (a0 : Pt) (n0 c0 : Nat) (e0 : Bool) (x1 x5 : Int) (h : Zaa) (ht : L2t Q R2 a0 n0 c0 e0 x1 x5 h) : Den pg fn.ntmps (C [1, 0, 1, 0, 0]) [(0, .slice a0 n0 c0 e0), (1, .int .i64 x1), (5, .int .i64 x5)] h (K3 Q R2) :=
 Zba (kp := kp) (cast (by kernel_rfl) ht)
theorem L2ind (Q : QT) (a0 : Pt) (n0 c0 : Nat) (e0 : Bool) {G : Type} (J : G → Int → Int → Zaa → Prop) (m : G → Nat)
 (hr : ∀ (g : G) (x1 x5 : Int) (h : Zaa), J g x1 x5 h → ∀ (R2 : T2), (∀ g' (x1 x5 : Int) (h : Zaa), m g' < m g → J g' x1 x5 h → R2 a0 n0 c0 e0 x1 x5 h) → L2t Q R2 a0 n0 c0 e0 x1 x5 h)
 (g : G) (x1 x5 : Int) (h : Zaa) (hj : J g x1 x5 h) : L2 Q a0 n0 c0 e0 x1 x5 h := by
 refine Zec.inv2 (fun g => E2 fun a0' n0' c0' e0' x1 x5 h => a0 = a0' ∧ n0 = n0' ∧ c0 = c0' ∧ e0 = e0' ∧ J g x1 x5 h) (fun g => E2 fun a0' n0' c0' e0' x1 x5 h => a0 = a0' ∧ n0 = n0' ∧ c0 = c0' ∧ e0 = e0' ∧ ∃ g', m g' < m g ∧ J g' x1 x5 h) m ?_ ?_ g ⟨rfl, rfl, rfl, rfl, hj⟩
 ·intro g env h hi
  obtain ⟨a0', n0', c0', e0', x1, x5, rfl, rfl, rfl, rfl, rfl, hj⟩ := Zdg hi
  exact Zhn Q _ a0 n0 c0 e0 x1 x5 h (hr g x1 x5 h hj (fun a0' n0' c0' e0' x1 x5 h => a0 = a0' ∧ n0 = n0' ∧ c0 = c0' ∧ e0 = e0' ∧ ∃ g', m g' < m g ∧ J g' x1 x5 h) fun g' x1 x5 h hlt hj => ⟨rfl, rfl, rfl, rfl, g', hlt, hj⟩)
 ·intro g env h hi
  obtain ⟨a0', n0', c0', e0', x1, x5, rfl, rfl, rfl, rfl, rfl, g', hlt, hj⟩ := Zdg hi
  exact ⟨g', hlt, rfl, rfl, rfl, rfl, hj⟩
theorem A2x0i (Q : QT) (x1 : Int) (h : Zaa) (ht :
 Q (.int .i64 x1) h) : Zlg Q x1 h :=
 At.mk (cast (by kernel_rfl) ht)
theorem call (a0 : Pt) (n0 c0 : Nat) (e0 : Bool) (x1 : Int) (h : Zaa) (Q : QT) (ht :
 L2 Q a0 n0 c0 e0 x1 0 h) : Zae pg Zmo [.slice a0 n0 c0 e0, .int .i64 x1] h Q :=
 Zae.of_body kp (c := cod fn) (fn := fn) Go.Proofs.Tryz.func22 (by kernel_rfl) (by kernel_rfl) (Nat.le_of_ble_eq_true (by kernel_rfl))
  (cast (by kernel_rfl) ht)
end Zhv
namespace Zhu
noncomputable abbrev fn : Func := Go.Proofs.Tryz.f23
def kp : Zbz := [(3000002, [1, 4]), (1000002, [0, 1, 5])]
noncomputable def C (p : List Nat) : Code := (cod fn).sub p
def KR (Q : QT) : KT := Zes pg fn.results.toList Q
abbrev T2 := Pt → Nat → Nat → Bool → Int → Int → Zaa → Prop
def E2 (R2 : T2) (env : Env) (h : Zaa) : Prop := Zbs 0 env fun v env => xSl (some v) fun a0 n0 c0 e0 => Zbs 1 env fun v env => Zee .i64 v fun x1 => Zbs 5 env fun v env => Zee .i64 v fun x5 => Zje env (R2 a0 n0 c0 e0 x1 x5 h)
theorem Zdg {R2 : T2} {env : Env} {h : Zaa} (hi : E2 R2 env h) : ∃ a0, ∃ n0, ∃ c0, ∃ e0, ∃ x1, ∃ x5, env = [(0, .slice a0 n0 c0 e0), (1, .int .i64 x1), (5, .int .i64 x5)] ∧ R2 a0 n0 c0 e0 x1 x5 h := by
 unfold E2 at hi
 have hi0 := hi
 clear hi
 obtain ⟨_, _, rfl, hi1⟩ := Zab hi0
 obtain ⟨a0, n0, c0, e0, rfl, hi2⟩ := Zbf hi1
 obtain ⟨_, _, rfl, hi3⟩ := Zab hi2
 obtain ⟨x1, rfl, hi4⟩ := Zao hi3
 obtain ⟨_, _, rfl, hi5⟩ := Zab hi4
 obtain ⟨x5, rfl, hi6⟩ := Zao hi5
 obtain ⟨rfl, hi7⟩ := Zbg hi6
 have hi := hi7
 exact ⟨a0, n0, c0, e0, x1, x5, rfl, hi⟩
def K0 (Q : QT) : KT := andThen (fun env' h' => (match kp.find 4000007 with | some ks => Den pg fn.ntmps (C [1, 1]) (env'.keep ks) h' (KR Q) | none => den pg fn.ntmps kp (C [1, 1]) env' h' (KR Q))) (KR Q)
def K1 (Q : QT) : KT := Zck 0 (K0 Q)
def K2 (Q : QT) : KT := left kp 2 (K1 Q)
def K3 (Q : QT) (R2 : T2) : KT := rnd ((kp.find 1000002).getD []) (E2 R2) (K2 Q)
def L2 (Q : QT) (a0 : Pt) (n0 c0 : Nat) (e0 : Bool) (x1 x5 : Int) (h : Zaa) : Prop := Zec (Den pg fn.ntmps (C [1, 0, 1, 0, 0])) ((kp.find 1000002).getD []) (K2 Q) [(0, .slice a0 n0 c0 e0), (1, .int .i64 x1), (5, .int .i64 x5)] h
def Zlg (Q : QT) (x1 : Int) (h : Zaa) : Prop := At (K1 Q) (.exit 0) [(1, .int .i64 x1), (4, .undef)] h
def L2t (Q : QT) (R2 : T2) (a0 : Pt) (n0 c0 : Nat) (e0 : Bool) (x1 x5 : Int) (h : Zaa) : Prop :=
 bcase (decide ((x5 : Int) < (((n0 : Nat) : Int)))) ((0 ≤ (x5 : Int) ∧ (x5 : Int) < (n0 : Nat)) ∧ (Zbl a0 fun I0 O1 => Zen .i64 (Zak h (.ptr (some (I0, O1 + (Int.toNat x5) * 1)))) fun X2 => bcase (!((X2 : Int) == x1)) (Q (.int .i64 (-1)) h) (R2 a0 n0 c0 e0 (IntKind.wrap .i64 (x1 + 1)) (IntKind.wrap .i64 (x5 + 1)) h))) (Zlg Q x1 h)
theorem Zhn (Q : QT) (R2 : T2) (a0 : Pt) (n0 c0 : Nat) (e0 : Bool) (x1 x5 : Int) (h : Zaa) (ht : L2t Q R2 a0 n0 c0 e0 x1 x5 h) : Den pg fn.ntmps (C [1, 0, 1, 0, 0]) [(0, .slice a0 n0 c0 e0), (1, .int .i64 x1), (5, .int .i64 x5)] h (K3 Q R2) :=
 Zba (kp := kp) (cast (by kernel_rfl) ht)
theorem L2ind (Q : QT) (a0 : Pt) (n0 c0 : Nat) (e0 : Bool) {G : Type} (J : G → Int → Int → Zaa → Prop) (m : G → Nat)
 (hr : ∀ (g : G) (x1 x5 : Int) (h : Zaa), J g x1 x5 h → ∀ (R2 : T2), (∀ g' (x1 x5 : Int) (h : Zaa), m g' < m g → J g' x1 x5 h → R2 a0 n0 c0 e0 x1 x5 h) → L2t Q R2 a0 n0 c0 e0 x1 x5 h)
 (g : G) (x1 x5 : Int) (h : Zaa) (hj : J g x1 x5 h) : L2 Q a0 n0 c0 e0 x1 x5 h := by
 refine Zec.inv2 (fun g => E2 fun a0' n0' c0' e0' x1 x5 h => a0 = a0' ∧ n0 = n0' ∧ c0 = c0' ∧ e0 = e0' ∧ J g x1 x5 h) (fun g => E2 fun a0' n0' c0' e0' x1 x5 h => a0 = a0' ∧ n0 = n0' ∧ c0 = c0' ∧ e0 = e0' ∧ ∃ g', m g' < m g ∧ J g' x1 x5 h) m ?_ ?_ g ⟨rfl, rfl, rfl, rfl, hj⟩
 ·intro g env h hi
  obtain ⟨a0', n0', c0', e0', x1, x5, rfl, rfl, rfl, rfl, rfl, hj⟩ := Zdg hi
  exact Zhn Q _ a0 n0 c0 e0 x1 x5 h (hr g x1 x5 h hj (fun a0' n0' c0' e0' x1 x5 h => a0 = a0' ∧ n0 = n0' ∧ c0 = c0' ∧ e0 = e0' ∧ ∃ g', m g' < m g ∧ J g' x1 x5 h) fun g' x1 x5 h hlt hj => ⟨rfl, rfl, rfl, rfl, g', hlt, hj⟩)
 ·intro g env h hi
  obtain ⟨a0', n0', c0', e0', x1, x5, rfl, rfl, rfl, rfl, rfl, g', hlt, hj⟩ := Zdg hi
  exact ⟨g', hlt, rfl, rfl, rfl, rfl, hj⟩
theorem A2x0i (Q : QT) (x1 : Int) (h : Zaa) (ht :
 Q (.int .i64 x1) h) : Zlg Q x1 h :=
 At.mk (cast (by kernel_rfl) ht)
theorem call (a0 : Pt) (n0 c0 : Nat) (e0 : Bool) (x1 : Int) (h : Zaa) (Q : QT) (ht :
 L2 Q a0 n0 c0 e0 x1 0 h) : Zae pg Zhq [.slice a0 n0 c0 e0, .int .i64 x1] h Q :=
 Zae.of_body kp (c := cod fn) (fn := fn) Go.Proofs.Tryz.func23 (by kernel_rfl) (by kernel_rfl) (Nat.le_of_ble_eq_true (by kernel_rfl))
  (cast (by kernel_rfl) ht)
end Zhu
end Go.Sim

set_option maxRecDepth 100000
set_option linter.unusedVariables false
namespace Go.Sim
open Go Go.RowKit
namespace Zgf
noncomputable abbrev fn : Func := Go.Proofs.Tryz.f44
def kp : Zbz := [(3000002, [1]), (1000002, [0, 1, 5])]
noncomputable def C (p : List Nat) : Code := (cod fn).sub p
def KR (Q : QT) : KT := Zes pg fn.results.toList Q
abbrev T2 := Pt → Nat → Nat → Bool → Int → Int → Zaa → Prop
def E2 (R2 : T2) (env : Env) (h : Zaa) : Prop := Zbs 0 env fun v env => xSl (some v) fun a0 n0 c0 e0 => Zbs 1 env fun v env => Zee .i64 v fun x1 => Zbs 5 env fun v env => Zee .i64 v fun x5 => Zje env (R2 a0 n0 c0 e0 x1 x5 h)
theorem Zdg {R2 : T2} {env : Env} {h : Zaa} (hi : E2 R2 env h) : ∃ a0, ∃ n0, ∃ c0, ∃ e0, ∃ x1, ∃ x5, env = [(0, .slice a0 n0 c0 e0), (1, .int .i64 x1), (5, .int .i64 x5)] ∧ R2 a0 n0 c0 e0 x1 x5 h := by
 unfold E2 at hi
 have hi0 := hi
 clear hi
 obtain ⟨_, _, rfl, hi1⟩ := Zab hi0
 obtain ⟨a0, n0, c0, e0, rfl, hi2⟩ := Zbf hi1
 obtain ⟨_, _, rfl, hi3⟩ := Zab hi2
 obtain ⟨x1, rfl, hi4⟩ := Zao hi3
 obtain ⟨_, _, rfl, hi5⟩ := Zab hi4
 obtain ⟨x5, rfl, hi6⟩ := Zao hi5
 obtain ⟨rfl, hi7⟩ := Zbg hi6
 have hi := hi7
 exact ⟨a0, n0, c0, e0, x1, x5, rfl, hi⟩
def K0 (Q : QT) : KT := andThen (fun env' h' => (match kp.find 4000008 with | some ks => Den pg fn.ntmps (C [1, 1]) (env'.keep ks) h' (KR Q) | none => den pg fn.ntmps kp (C [1, 1]) env' h' (KR Q))) (KR Q)
def K1 (Q : QT) : KT := Zck 0 (K0 Q)
def K2 (Q : QT) : KT := left kp 2 (K1 Q)
def K3 (Q : QT) (R2 : T2) : KT := rnd ((kp.find 1000002).getD []) (E2 R2) (K2 Q)
def L2 (Q : QT) (a0 : Pt) (n0 c0 : Nat) (e0 : Bool) (x1 x5 : Int) (h : Zaa) : Prop := Zec (Den pg fn.ntmps (C [1, 0, 1, 0, 0])) ((kp.find 1000002).getD []) (K2 Q) [(0, .slice a0 n0 c0 e0), (1, .int .i64 x1), (5, .int .i64 x5)] h
def Zlg (Q : QT) (x1 : Int) (h : Zaa) : Prop := At (K1 Q) (.exit 0) [(1, .int .i64 x1)] h
def L2t (Q : QT) (R2 : T2) (a0 : Pt) (n0 c0 : Nat) (e0 : Bool) (x1 x5 : Int) (h : Zaa) : Prop :=
 bcase (decide ((x5 : Int) < (((n0 : Nat) : Int)))) (Zae pg Zfa [.int .i64 x1] h fun V0 H1 =>
 Zbo (some V0) fun S2 => (0 ≤ (x5 : Int) ∧ (x5 : Int) < (n0 : Nat)) ∧ (Zbl a0 fun I3 O4 => Zcp (Zbk H1 (.ptr (some (I3, O4 + (Int.toNat x5) * 2 + 0))) [.str S2]) fun H5 => Zae pg Zfa [.int .i64 (IntKind.wrap .i64 (x1 + 1))] H5 fun V6 H7 =>
 Zbo (some V6) fun S8 => (0 ≤ (x5 : Int) ∧ (x5 : Int) < (n0 : Nat)) ∧ (Zbl a0 fun I9 O10 => Zcp (Zbk H7 (.ptr (some (I9, O10 + (Int.toNat x5) * 2 + 1))) [.str S8]) fun H11 => R2 a0 n0 c0 e0 (IntKind.wrap .i64 ((IntKind.wrap .i64 (x1 + 1)) + 1)) (IntKind.wrap .i64 (x5 + 1)) H11))) (Zlg Q x1 h)
theorem Zhn (Q : QT) (R2 : T2) (a0 : Pt) (n0 c0 : Nat) (e0 : Bool) (x1 x5 : Int) (h : Zaa) (ht : L2t Q R2 a0 n0 c0 e0 x1 x5 h) : Den pg fn.ntmps (C [1, 0, 1, 0, 0]) [(0, .slice a0 n0 c0 e0), (1, .int .i64 x1), (5, .int .i64 x5)] h (K3 Q R2) :=
 Zba (kp := kp) (cast (by kernel_rfl) ht)
theorem L2ind (Q : QT) (a0 : Pt) (n0 c0 : Nat) (e0 : Bool) {G : Type} (J : G → Int → Int → Zaa → Prop) (m : G → Nat)
 (hr : ∀ (g : G) (x1 x5 : Int) (h : Zaa), J g x1 x5 h → ∀ (R2 : T2), (∀ g' (x1 x5 : Int) (h : Zaa), m g' < m g → J g' x1 x5 h → R2 a0 n0 c0 e0 x1 x5 h) → L2t Q R2 a0 n0 c0 e0 x1 x5 h)
 (g : G) (x1 x5 : Int) (h : Zaa) (hj : J g x1 x5 h) : L2 Q a0 n0 c0 e0 x1 x5 h := by
 refine Zec.inv2 (fun g => E2 fun a0' n0' c0' e0' x1 x5 h => a0 = a0' ∧ n0 = n0' ∧ c0 = c0' ∧ e0 = e0' ∧ J g x1 x5 h) (fun g => E2 fun a0' n0' c0' e0' x1 x5 h => a0 = a0' ∧ n0 = n0' ∧ c0 = c0' ∧ e0 = e0' ∧ ∃ g', m g' < m g ∧ J g' x1 x5 h) m ?_ ?_ g ⟨rfl, rfl, rfl, rfl, hj⟩
 ·intro g env h hi
  obtain ⟨a0', n0', c0', e0', x1, x5, rfl, rfl, rfl, rfl, rfl, hj⟩ := Zdg hi
  exact Zhn Q _ a0 n0 c0 e0 x1 x5 h (hr g x1 x5 h hj (fun a0' n0' c0' e0' x1 x5 h => a0 = a0' ∧ n0 = n0' ∧ c0 = c0' ∧ e0 = e0' ∧ ∃ g', m g' < m g ∧ J g' x1 x5 h) fun g' x1 x5 h hlt hj => ⟨rfl, rfl, rfl, rfl, g', hlt, hj⟩)
 ·intro g env h hi
  obtain ⟨a0', n0', c0', e0', x1, x5, rfl, rfl, rfl, rfl, rfl, g', hlt, hj⟩ := Zdg hi
  exact ⟨g', hlt, rfl, rfl, rfl, rfl, hj⟩
theorem A2x0i (Q : QT) (x1 : Int) (h : Zaa) (ht :
 Q (.int .i64 x1) h) : Zlg Q x1 h :=
 At.mk (cast (by kernel_rfl) ht)
theorem call (a0 : Pt) (n0 c0 : Nat) (e0 : Bool) (x1 : Int) (h : Zaa) (Q : QT) (ht :
 L2 Q a0 n0 c0 e0 x1 0 h) : Zae pg Zlc [.slice a0 n0 c0 e0, .int .i64 x1] h Q :=
 Zae.of_body kp (c := cod fn) (fn := fn) Go.Proofs.Tryz.func44 (by kernel_rfl) (by kernel_rfl) (Nat.le_of_ble_eq_true (by kernel_rfl))
  (cast (by kernel_rfl) ht)
end Zgf
namespace Zfl
noncomputable abbrev fn : Func := Go.Proofs.Tryz.f45
def kp : Zbz := [(3000002, [1]), (1000002, [0, 1, 5])]
noncomputable def C (p : List Nat) : Code := (cod fn).sub p
def KR (Q : QT) : KT := Zes pg fn.results.toList Q
abbrev T2 := Pt → Nat → Nat → Bool → Int → Int → Zaa → Prop
def E2 (R2 : T2) (env : Env) (h : Zaa) : Prop := Zbs 0 env fun v env => xSl (some v) fun a0 n0 c0 e0 => Zbs 1 env fun v env => Zee .i64 v fun x1 => Zbs 5 env fun v env => Zee .i64 v fun x5 => Zje env (R2 a0 n0 c0 e0 x1 x5 h)
theorem Zdg {R2 : T2} {env : Env} {h : Zaa} (hi : E2 R2 env h) : ∃ a0, ∃ n0, ∃ c0, ∃ e0, ∃ x1, ∃ x5, env = [(0, .slice a0 n0 c0 e0), (1, .int .i64 x1), (5, .int .i64 x5)] ∧ R2 a0 n0 c0 e0 x1 x5 h := by
 unfold E2 at hi
 have hi0 := hi
 clear hi
 obtain ⟨_, _, rfl, hi1⟩ := Zab hi0
 obtain ⟨a0, n0, c0, e0, rfl, hi2⟩ := Zbf hi1
 obtain ⟨_, _, rfl, hi3⟩ := Zab hi2
 obtain ⟨x1, rfl, hi4⟩ := Zao hi3
 obtain ⟨_, _, rfl, hi5⟩ := Zab hi4
 obtain ⟨x5, rfl, hi6⟩ := Zao hi5
 obtain ⟨rfl, hi7⟩ := Zbg hi6
 have hi := hi7
 exact ⟨a0, n0, c0, e0, x1, x5, rfl, hi⟩
def K0 (Q : QT) : KT := andThen (fun env' h' => (match kp.find 4000009 with | some ks => Den pg fn.ntmps (C [1, 1]) (env'.keep ks) h' (KR Q) | none => den pg fn.ntmps kp (C [1, 1]) env' h' (KR Q))) (KR Q)
def K1 (Q : QT) : KT := Zck 0 (K0 Q)
def K2 (Q : QT) : KT := left kp 2 (K1 Q)
def K3 (Q : QT) (R2 : T2) : KT := rnd ((kp.find 1000002).getD []) (E2 R2) (K2 Q)
def L2 (Q : QT) (a0 : Pt) (n0 c0 : Nat) (e0 : Bool) (x1 x5 : Int) (h : Zaa) : Prop := Zec (Den pg fn.ntmps (C [1, 0, 1, 0, 0])) ((kp.find 1000002).getD []) (K2 Q) [(0, .slice a0 n0 c0 e0), (1, .int .i64 x1), (5, .int .i64 x5)] h
def Zlg (Q : QT) (x1 : Int) (h : Zaa) : Prop := At (K1 Q) (.exit 0) [(1, .int .i64 x1)] h
def L2t (Q : QT) (R2 : T2) (a0 : Pt) (n0 c0 : Nat) (e0 : Bool) (x1 x5 : Int) (h : Zaa) : Prop :=
 bcase (decide ((x5 : Int) < (((n0 : Nat) : Int)))) (Zae pg Zfa [.int .i64 x1] h fun V0 H1 =>
 Zbo (some V0) fun S2 => (0 ≤ (x5 : Int) ∧ (x5 : Int) < (n0 : Nat)) ∧ (Zbl a0 fun I3 O4 => Zcp (Zbk H1 (.ptr (some (I3, O4 + (Int.toNat x5) * 3 + 0 + 0))) [.str S2]) fun H5 => Zae pg Zfa [.int .i64 (IntKind.wrap .i64 (x1 + 1))] H5 fun V6 H7 =>
 Zbo (some V6) fun S8 => (0 ≤ (x5 : Int) ∧ (x5 : Int) < (n0 : Nat)) ∧ (Zbl a0 fun I9 O10 => Zcp (Zbk H7 (.ptr (some (I9, O10 + (Int.toNat x5) * 3 + 0 + 1))) [.str S8]) fun H11 => (0 ≤ (x5 : Int) ∧ (x5 : Int) < (n0 : Nat)) ∧ (Zbl a0 fun I12 O13 => xSl (Zak H11 (.ptr (some (I12, O13 + (Int.toNat x5) * 3 + 2)))) fun A14 N15 C16 E17 => Zae pg Zls [.slice A14 N15 C16 E17, .int .i64 (IntKind.wrap .i64 ((IntKind.wrap .i64 (x1 + 1)) + 1))] H11 fun V18 H19 =>
 Zen .i64 (some V18) fun X20 => R2 a0 n0 c0 e0 X20 (IntKind.wrap .i64 (x5 + 1)) H19)))) (Zlg Q x1 h)
theorem Zhn (Q : QT) (R2 : T2) (a0 : Pt) (n0 c0 : Nat) (e0 : Bool) (x1 x5 : Int) (h : Zaa) (ht : L2t Q R2 a0 n0 c0 e0 x1 x5 h) : Den pg fn.ntmps (C [1, 0, 1, 0, 0]) [(0, .slice a0 n0 c0 e0), (1, .int .i64 x1), (5, .int .i64 x5)] h (K3 Q R2) :=
 Zba (kp := kp) (cast (by kernel_rfl) ht)
theorem L2ind (Q : QT) (a0 : Pt) (n0 c0 : Nat) (e0 : Bool) {G : Type} (J : G → Int → Int → Zaa → Prop) (m : G → Nat)
 (hr : ∀ (g : G) (x1 x5 : Int) (h : Zaa), J g x1 x5 h → ∀ (R2 : T2), (∀ g' (x1 x5 : Int) (h : Zaa), m g' < m g → J g' x1 x5 h → R2 a0 n0 c0 e0 x1 x5 h) → L2t Q R2 a0 n0 c0 e0 x1 x5 h)
 (g : G) (x1 x5 : Int) (h : Zaa) (hj : J g x1 x5 h) : L2 Q a0 n0 c0 e0 x1 x5 h := by
 refine Zec.inv2 (fun g => E2 fun a0' n0' c0' e0' x1 x5 h => a0 = a0' ∧ n0 = n0' ∧ c0 = c0' ∧ e0 = e0' ∧ J g x1 x5 h) (fun g => E2 fun a0' n0' c0' e0' x1 x5 h => a0 = a0' ∧ n0 = n0' ∧ c0 = c0' ∧ e0 = e0' ∧ ∃ g', m g' < m g ∧ J g' x1 x5 h) m ?_ ?_ g ⟨rfl, rfl, rfl, rfl, hj⟩
 ·intro g env h hi
  obtain ⟨a0', n0', c0', e0', x1, x5, rfl, rfl, rfl, rfl, rfl, hj⟩ := Zdg hi
  exact Zhn Q _ a0 n0 c0 e0 x1 x5 h (hr g x1 x5 h hj (fun a0' n0' c0' e0' x1 x5 h => a0 = a0' ∧ n0 = n0' ∧ c0 = c0' ∧ e0 = e0' ∧ ∃ g', m g' < m g ∧ J g' x1 x5 h) fun g' x1 x5 h hlt hj => ⟨rfl, rfl, rfl, rfl, g', hlt, hj⟩)
 ·intro g env h hi
  obtain ⟨a0', n0', c0', e0', x1, x5, rfl, rfl, rfl, rfl, rfl, g', hlt, hj⟩ := Zdg hi
  exact ⟨g', hlt, rfl, rfl, rfl, rfl, hj⟩
theorem A2x0i (Q : QT) (x1 : Int) (h : Zaa) (ht :
 Q (.int .i64 x1) h) : Zlg Q x1 h :=
 At.mk (cast (by kernel_rfl) ht)
theorem call (a0 : Pt) (n0 c0 : Nat) (e0 : Bool) (x1 : Int) (h : Zaa) (Q : QT) (ht :
 L2 Q a0 n0 c0 e0 x1 0 h) : Zae pg Zio [.slice a0 n0 c0 e0, .int .i64 x1] h Q :=
 Zae.of_body kp (c := cod fn) (fn := fn) Go.Proofs.Tryz.func45 (by kernel_rfl) (by kernel_rfl) (Nat.le_of_ble_eq_true (by kernel_rfl))
  (cast (by kernel_rfl) ht)
end Zfl
namespace Zpt
noncomputable abbrev fn : Func := Go.Proofs.Tryz.f21
def kp : Zbz := []
noncomputable def C (p : List Nat) : Code := (cod fn).sub p
def KR (Q : QT) : KT := Zes pg fn.results.toList Q
theorem call (a0x0 : Pt) (n0x0 c0x0 : Nat) (e0x0 : Bool) (a0x1 : Pt) (n0x1 c0x1 : Nat) (e0x1 : Bool) (x1 : Int) (h : Zaa) (Q : QT) (ht :
 Zdc (h ++ [.cells Zaf [.slice a0x0 n0x0 c0x0 e0x0, .slice a0x1 n0x1 c0x1 e0x1] false]) fun H0 => xSl (Zak H0 (.ptr (some (h.length, 0 + 0)))) fun A1 N2 C3 E4 => Zae pg Zlc [.slice A1 N2 C3 E4, .int .i64 x1] H0 fun V5 H6 =>
 Zen .i64 (some V5) fun X7 => xSl (Zak H6 (.ptr (some (h.length, 0 + 1)))) fun A8 N9 C10 E11 => Zae pg Zio [.slice A8 N9 C10 E11, .int .i64 X7] H6 fun V12 H13 =>
 Zen .i64 (some V12) fun X14 => Q (.int .i64 X14) H13) : Zae pg Zln [.agg [.slice a0x0 n0x0 c0x0 e0x0, .slice a0x1 n0x1 c0x1 e0x1], .int .i64 x1] h Q :=
 Zae.of_body kp (c := cod fn) (fn := fn) Go.Proofs.Tryz.func21 (by kernel_rfl) (by kernel_rfl) (Nat.le_of_ble_eq_true (by kernel_rfl))
  (cast (by kernel_rfl) ht)
end Zpt
end Go.Sim
