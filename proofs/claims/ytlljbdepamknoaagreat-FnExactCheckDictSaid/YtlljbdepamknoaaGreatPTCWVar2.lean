/- A part of the proof of a statement of this seat: see the text that holds the theorem. No condition. -/
import Derived.Test.YtlljbdepamknoaaGreatNm
set_option linter.unusedVariables false
set_option linter.unusedSimpArgs false
set_option linter.all false
set_option maxRecDepth 100000
set_option linter.unusedVariables false
namespace Go.Sim
open Go Go.RowKit
namespace Zeu
noncomputable abbrev fn : Func := Go.Proofs.Tryz.f38
def kp : Zcf := [(3000003, [3]), (1000003, [0, 3, 4])]
noncomputable def C (p : List Nat) : Code := (cod fn).sub p
def KR (Q : QT) : KT := Zey pg fn.results.toList Q
abbrev T3 := Pt → Nat → Nat → Bool → Pt → Nat → Nat → Bool → Int → Zaa → Prop
def E3 (R3 : T3) (env : Env) (h : Zaa) : Prop := Zcc 0 env fun v env => xSl (some v) fun a0 n0 c0 e0 => Zcc 3 env fun v env => xSl (some v) fun a3 n3 c3 e3 => Zcc 4 env fun v env => Zeo .i64 v fun x4 => Zkg env (R3 a0 n0 c0 e0 a3 n3 c3 e3 x4 h)
theorem Zfh {R3 : T3} {env : Env} {h : Zaa} (hi : E3 R3 env h) : ∃ a0, ∃ n0, ∃ c0, ∃ e0, ∃ a3, ∃ n3, ∃ c3, ∃ e3, ∃ x4, env = [(0, .slice a0 n0 c0 e0), (3, .slice a3 n3 c3 e3), (4, .int .i64 x4)] ∧ R3 a0 n0 c0 e0 a3 n3 c3 e3 x4 h := by
  unfold E3 at hi
  have hi0 := hi
  clear hi
  obtain ⟨_, _, rfl, hi1⟩ := Zab hi0
  obtain ⟨a0, n0, c0, e0, rfl, hi2⟩ := Zbl hi1
  obtain ⟨_, _, rfl, hi3⟩ := Zab hi2
  obtain ⟨a3, n3, c3, e3, rfl, hi4⟩ := Zbl hi3
  obtain ⟨_, _, rfl, hi5⟩ := Zab hi4
  obtain ⟨x4, rfl, hi6⟩ := Zaw hi5
  obtain ⟨rfl, hi7⟩ := Zbn hi6
  have hi := hi7
  exact ⟨a0, n0, c0, e0, a3, n3, c3, e3, x4, rfl, hi⟩
def K0 (Q : QT) : KT := andThen (fun env' h' => (match kp.find 4000006 with | some ks => Den pg fn.ntmps (C [1, 1, 1]) (env'.keep ks) h' (KR Q) | none => den pg fn.ntmps kp (C [1, 1, 1]) env' h' (KR Q))) (KR Q)
def K1 (Q : QT) : KT := Zcr 0 (K0 Q)
def K2 (Q : QT) : KT := left kp 3 (K1 Q)
def K3 (Q : QT) (R3 : T3) : KT := rnd ((kp.find 1000003).getD []) (E3 R3) (K2 Q)
def L3 (Q : QT) (a0 : Pt) (n0 c0 : Nat) (e0 : Bool) (a3 : Pt) (n3 c3 : Nat) (e3 : Bool) (x4 : Int) (h : Zaa) : Prop := Zeg (Den pg fn.ntmps (C [1, 1, 0, 1, 0, 0])) ((kp.find 1000003).getD []) (K2 Q) [(0, .slice a0 n0 c0 e0), (3, .slice a3 n3 c3 e3), (4, .int .i64 x4)] h
def Zrz (Q : QT) (a3 : Pt) (n3 c3 : Nat) (e3 : Bool) (h : Zaa) : Prop := At (K1 Q) (.exit 0) [(3, .slice a3 n3 c3 e3)] h
def L3t (Q : QT) (R3 : T3) (a0 : Pt) (n0 c0 : Nat) (e0 : Bool) (a3 : Pt) (n3 c3 : Nat) (e3 : Bool) (x4 : Int) (h : Zaa) : Prop :=
 bcase (decide ((x4 : Int) < (((n0 : Nat) : Int)))) ((0 ≤ (x4 : Int) ∧ (x4 : Int) < (n0 : Nat)) ∧ (Zbi a0 fun I1 O2 => Zcx (Zbp h (.ptr (some (I1, O2 + (Int.toNat x4) * 3))) 3) fun K3 => Zaj K3 fun C4 Z5 => Zbo (some C4) fun S6 => Zaj Z5 fun C7 Z8 => Zbo (some C7) fun S9 => Zaj Z8 fun C10 Z11 => xSl (some C10) fun A12 N13 C14 E15 => Zcg Z11 (Zad pg Zix [.agg [.str S6, .str S9, .slice A12 N13 C14 E15]] h fun V16 H17 =>
 Zph V16 fun K18 => Zaj K18 fun C19 Z20 => Zbo (some C19) fun S21 => Zaj Z20 fun C22 Z23 => Zbo (some C22) fun S24 => Zaj Z23 fun C25 Z26 => xSl (some C25) fun A27 N28 C29 E30 => Zcg Z26 ((0 ≤ (x4 : Int) ∧ (x4 : Int) < (n3 : Nat)) ∧ (Zbi a3 fun I31 O32 => Zcb (Zbd H17 (.ptr (some (I31, O32 + (Int.toNat x4) * 3))) [.str S21, .str S24, .slice A27 N28 C29 E30]) fun H33 => R3 a0 n0 c0 e0 a3 n3 c3 e3 (IntKind.wrap .i64 (x4 + 1)) H33))))) (Zrz Q a3 n3 c3 e3 h)
theorem Znv (Q : QT) (R3 : T3) (a0 : Pt) (n0 c0 : Nat) (e0 : Bool) (a3 : Pt) (n3 c3 : Nat) (e3 : Bool) (x4 : Int) (h : Zaa) (ht : L3t Q R3 a0 n0 c0 e0 a3 n3 c3 e3 x4 h) : Den pg fn.ntmps (C [1, 1, 0, 1, 0, 0]) [(0, .slice a0 n0 c0 e0), (3, .slice a3 n3 c3 e3), (4, .int .i64 x4)] h (K3 Q R3) :=
  Zbc (kp := kp) (cast (by kernel_rfl) ht)
theorem L3ind (Q : QT) (a0 : Pt) (n0 c0 : Nat) (e0 : Bool) (a3 : Pt) (n3 c3 : Nat) (e3 : Bool) {G : Type} (J : G → Int → Zaa → Prop) (m : G → Nat)
 (hr : ∀ (g : G) (x4 : Int) (h : Zaa), J g x4 h → ∀ (R3 : T3), (∀ g' (x4 : Int) (h : Zaa), m g' < m g → J g' x4 h → R3 a0 n0 c0 e0 a3 n3 c3 e3 x4 h) → L3t Q R3 a0 n0 c0 e0 a3 n3 c3 e3 x4 h)
 (g : G) (x4 : Int) (h : Zaa) (hj : J g x4 h) : L3 Q a0 n0 c0 e0 a3 n3 c3 e3 x4 h := by
  refine Zeg.inv2 (fun g => E3 fun a0' n0' c0' e0' a3' n3' c3' e3' x4 h => a0 = a0' ∧ n0 = n0' ∧ c0 = c0' ∧ e0 = e0' ∧ a3 = a3' ∧ n3 = n3' ∧ c3 = c3' ∧ e3 = e3' ∧ J g x4 h) (fun g => E3 fun a0' n0' c0' e0' a3' n3' c3' e3' x4 h => a0 = a0' ∧ n0 = n0' ∧ c0 = c0' ∧ e0 = e0' ∧ a3 = a3' ∧ n3 = n3' ∧ c3 = c3' ∧ e3 = e3' ∧ ∃ g', m g' < m g ∧ J g' x4 h) m ?_ ?_ g ⟨rfl, rfl, rfl, rfl, rfl, rfl, rfl, rfl, hj⟩
  · intro g env h hi
    obtain ⟨a0', n0', c0', e0', a3', n3', c3', e3', x4, rfl, rfl, rfl, rfl, rfl, rfl, rfl, rfl, rfl, hj⟩ := Zfh hi
    exact Znv Q _ a0 n0 c0 e0 a3 n3 c3 e3 x4 h (hr g x4 h hj (fun a0' n0' c0' e0' a3' n3' c3' e3' x4 h => a0 = a0' ∧ n0 = n0' ∧ c0 = c0' ∧ e0 = e0' ∧ a3 = a3' ∧ n3 = n3' ∧ c3 = c3' ∧ e3 = e3' ∧ ∃ g', m g' < m g ∧ J g' x4 h) fun g' x4 h hlt hj => ⟨rfl, rfl, rfl, rfl, rfl, rfl, rfl, rfl, g', hlt, hj⟩)
  · intro g env h hi
    obtain ⟨a0', n0', c0', e0', a3', n3', c3', e3', x4, rfl, rfl, rfl, rfl, rfl, rfl, rfl, rfl, rfl, g', hlt, hj⟩ := Zfh hi
    exact ⟨g', hlt, rfl, rfl, rfl, rfl, rfl, rfl, rfl, rfl, hj⟩
theorem A3x0i (Q : QT) (a3 : Pt) (n3 c3 : Nat) (e3 : Bool) (h : Zaa) (ht :
 Q (.slice a3 n3 c3 e3) h) : Zrz Q a3 n3 c3 e3 h :=
  At.mk (cast (by kernel_rfl) ht)
theorem call (a0 : Pt) (n0 c0 : Nat) (e0 : Bool) (h : Zaa) (Q : QT) (ht :
 IntKind.i64 = IntKind.i64 ∧ (IntKind.i64 = IntKind.i64 ∧ ((0 ≤ ((((n0 : Nat) : Int)) : Int) ∧ ((((n0 : Nat) : Int)) : Int) ≤ (((n0 : Nat) : Int)) ∧ ((((n0 : Nat) : Int)) : Int) * (((56 : Nat) : Int) + 1) ≤ 140737488355328) ∧ (Zdb (h ++ [.cells Zal (reps (Int.toNat ((((n0 : Nat) : Int)))) [.str [], .str [], .slice none 0 0 true]) false]) fun H0 => L3 Q a0 n0 c0 e0 (some (h.length, 0)) (Int.toNat ((((n0 : Nat) : Int)))) (Int.toNat ((((n0 : Nat) : Int)))) true 0 H0)))) : Zad pg Zic [.slice a0 n0 c0 e0] h Q :=
  Zad.of_body kp (c := cod fn) (fn := fn) Go.Proofs.Tryz.func38 (by kernel_rfl) (by kernel_rfl) (Nat.le_of_ble_eq_true (by kernel_rfl))
    (cast (by kernel_rfl) ht)
end Zeu
namespace Zpf
noncomputable abbrev fn : Func := Go.Proofs.Tryz.f10
def kp : Zcf := []
noncomputable def C (p : List Nat) : Code := (cod fn).sub p
def KR (Q : QT) : KT := Zey pg fn.results.toList Q
theorem call (a0x0 : Pt) (n0x0 c0x0 : Nat) (e0x0 : Bool) (a0x1 : Pt) (n0x1 c0x1 : Nat) (e0x1 : Bool) (h : Zaa) (Q : QT) (ht :
 Zdb (h ++ [.cells Zdy [.slice a0x0 n0x0 c0x0 e0x0, .slice a0x1 n0x1 c0x1 e0x1] false]) fun H0 => Zdb (H0 ++ [.cells Zam [.slice none 0 0 true, .slice none 0 0 true] false]) fun H1 => Zdb (H1 ++ [.cells Zam [.slice none 0 0 true, .slice none 0 0 true] false]) fun H2 => xSl (Zae H2 (.ptr (some (h.length, 0 + 0)))) fun A3 N4 C5 E6 => Zad pg Zkp [.slice A3 N4 C5 E6] H2 fun V7 H8 =>
 xSl (some V7) fun A9 N10 C11 E12 => Zcb (Zbd H8 (.ptr (some (H1.length, 0 + 0))) [.slice A9 N10 C11 E12]) fun H13 => xSl (Zae H13 (.ptr (some (h.length, 0 + 1)))) fun A14 N15 C16 E17 => Zad pg Zic [.slice A14 N15 C16 E17] H13 fun V18 H19 =>
 xSl (some V18) fun A20 N21 C22 E23 => Zcb (Zbd H19 (.ptr (some (H1.length, 0 + 1))) [.slice A20 N21 C22 E23]) fun H24 => Zcx (Zbp H24 (.ptr (some (H1.length, 0))) 2) fun K25 => Zaj K25 fun C26 Z27 => xSl (some C26) fun A28 N29 C30 E31 => Zaj Z27 fun C32 Z33 => xSl (some C32) fun A34 N35 C36 E37 => Zcg Z33 (Zcb (Zbd H24 (.ptr (some (H0.length, 0))) [.slice A28 N29 C30 E31, .slice A34 N35 C36 E37]) fun H38 => Zcx (Zbp H38 (.ptr (some (H0.length, 0))) 2) fun K39 => Zaj K39 fun C40 Z41 => xSl (some C40) fun A42 N43 C44 E45 => Zaj Z41 fun C46 Z47 => xSl (some C46) fun A48 N49 C50 E51 => Zcg Z47 (Q (.agg [.slice A42 N43 C44 E45, .slice A48 N49 C50 E51]) H38))) : Zad pg Zhh [.agg [.slice a0x0 n0x0 c0x0 e0x0, .slice a0x1 n0x1 c0x1 e0x1]] h Q :=
  Zad.of_body kp (c := cod fn) (fn := fn) Go.Proofs.Tryz.func10 (by kernel_rfl) (by kernel_rfl) (Nat.le_of_ble_eq_true (by kernel_rfl))
    (cast (by kernel_rfl) ht)
end Zpf
namespace Zlt
noncomputable abbrev fn : Func := Go.Proofs.Tryz.f83
def kp : Zcf := []
noncomputable def C (p : List Nat) : Code := (cod fn).sub p
def KR (Q : QT) : KT := Zey pg fn.results.toList Q
theorem call (x0x0 x0x1 : List Nat) (a0x2 : Pt) (n0x2 c0x2 : Nat) (e0x2 : Bool) (x1x0 x1x1 : List Nat) (a1x2 : Pt) (n1x2 c1x2 : Nat) (e1x2 : Bool) (h : Zaa) (Q : QT) (ht :
 Zdb (h ++ [.cells Zal [.str x0x0, .str x0x1, .slice a0x2 n0x2 c0x2 e0x2] false]) fun H0 => Zdb (H0 ++ [.cells Zal [.str x1x0, .str x1x1, .slice a1x2 n1x2 c1x2 e1x2] false]) fun H1 => Zcx (Zbp H1 (.ptr (some (h.length, 0 + 0))) 2) fun K2 => Zaj K2 fun C3 Z4 => Zbo (some C3) fun S5 => Zaj Z4 fun C6 Z7 => Zbo (some C6) fun S8 => Zcg Z7 (Zcx (Zbp H1 (.ptr (some (H0.length, 0 + 0))) 2) fun K9 => Zaj K9 fun C10 Z11 => Zbo (some C10) fun S12 => Zaj Z11 fun C13 Z14 => Zbo (some C13) fun S15 => Zcg Z14 (Zad pg Zkf [.agg [.str S5, .str S8], .agg [.str S12, .str S15]] H1 fun V16 H17 =>
 Zbx (some V16) fun B18 => bcase (!B18) (Q (.bool false) H17) (xSl (Zae H17 (.ptr (some (h.length, 0 + 2)))) fun A19 N20 C21 E22 => xSl (Zae H17 (.ptr (some (H0.length, 0 + 2)))) fun A23 N24 C25 E26 => Zad pg Zll [.slice A19 N20 C21 E22, .slice A23 N24 C25 E26] H17 fun V27 H28 =>
 Zbx (some V27) fun B29 => bcase (!B29) (Q (.bool false) H28) (Q (.bool true) H28))))) : Zad pg Ziy [.agg [.str x0x0, .str x0x1, .slice a0x2 n0x2 c0x2 e0x2], .agg [.str x1x0, .str x1x1, .slice a1x2 n1x2 c1x2 e1x2]] h Q :=
  Zad.of_body kp (c := cod fn) (fn := fn) Go.Proofs.Tryz.func83 (by kernel_rfl) (by kernel_rfl) (Nat.le_of_ble_eq_true (by kernel_rfl))
    (cast (by kernel_rfl) ht)
end Zlt
namespace Zex
noncomputable abbrev fn : Func := Go.Proofs.Tryz.f43
def kp : Zcf := [(3000004, [4]), (1000004, [0, 1, 5]), (2000006, [26, 5, 0, 1])]
noncomputable def C (p : List Nat) : Code := (cod fn).sub p
def KR (Q : QT) : KT := Zey pg fn.results.toList Q
abbrev T4 := Pt → Nat → Nat → Bool → Pt → Nat → Nat → Bool → Int → Zaa → Prop
def E4 (R4 : T4) (env : Env) (h : Zaa) : Prop := Zcc 0 env fun v env => xSl (some v) fun a0 n0 c0 e0 => Zcc 1 env fun v env => xSl (some v) fun a1 n1 c1 e1 => Zcc 5 env fun v env => Zeo .i64 v fun x5 => Zkg env (R4 a0 n0 c0 e0 a1 n1 c1 e1 x5 h)
theorem Zjn {R4 : T4} {env : Env} {h : Zaa} (hi : E4 R4 env h) : ∃ a0, ∃ n0, ∃ c0, ∃ e0, ∃ a1, ∃ n1, ∃ c1, ∃ e1, ∃ x5, env = [(0, .slice a0 n0 c0 e0), (1, .slice a1 n1 c1 e1), (5, .int .i64 x5)] ∧ R4 a0 n0 c0 e0 a1 n1 c1 e1 x5 h := by
  unfold E4 at hi
  have hi0 := hi
  clear hi
  obtain ⟨_, _, rfl, hi1⟩ := Zab hi0
  obtain ⟨a0, n0, c0, e0, rfl, hi2⟩ := Zbl hi1
  obtain ⟨_, _, rfl, hi3⟩ := Zab hi2
  obtain ⟨a1, n1, c1, e1, rfl, hi4⟩ := Zbl hi3
  obtain ⟨_, _, rfl, hi5⟩ := Zab hi4
  obtain ⟨x5, rfl, hi6⟩ := Zaw hi5
  obtain ⟨rfl, hi7⟩ := Zbn hi6
  have hi := hi7
  exact ⟨a0, n0, c0, e0, a1, n1, c1, e1, x5, rfl, hi⟩
def K0 (Q : QT) : KT := andThen (fun env' h' => (match kp.find 4000008 with | some ks => Den pg fn.ntmps (C [1, 1, 1]) (env'.keep ks) h' (KR Q) | none => den pg fn.ntmps kp (C [1, 1, 1]) env' h' (KR Q))) (KR Q)
def K1 (Q : QT) : KT := Zcr 0 (K0 Q)
def K2 (Q : QT) : KT := left kp 4 (K1 Q)
def K3 (Q : QT) (R4 : T4) : KT := rnd ((kp.find 1000004).getD []) (E4 R4) (K2 Q)
def L4 (Q : QT) (a0 : Pt) (n0 c0 : Nat) (e0 : Bool) (a1 : Pt) (n1 c1 : Nat) (e1 : Bool) (x5 : Int) (h : Zaa) : Prop := Zeg (Den pg fn.ntmps (C [1, 1, 0, 1, 0, 0])) ((kp.find 1000004).getD []) (K2 Q) [(0, .slice a0 n0 c0 e0), (1, .slice a1 n1 c1 e1), (5, .int .i64 x5)] h
def Zyk (Q : QT) (h : Zaa) : Prop := At (K1 Q) (.exit 0) [(4, .undef)] h
def L4t (Q : QT) (R4 : T4) (a0 : Pt) (n0 c0 : Nat) (e0 : Bool) (a1 : Pt) (n1 c1 : Nat) (e1 : Bool) (x5 : Int) (h : Zaa) : Prop :=
 bcase (decide ((x5 : Int) < (((n0 : Nat) : Int)))) ((0 ≤ (x5 : Int) ∧ (x5 : Int) < (n0 : Nat)) ∧ (Zbi a0 fun I0 O1 => (0 ≤ (x5 : Int) ∧ (x5 : Int) < (n1 : Nat)) ∧ (Zbi a1 fun I2 O3 => Zcx (Zbp h (.ptr (some (I0, O1 + (Int.toNat x5) * 3))) 3) fun K4 => Zaj K4 fun C5 Z6 => Zbo (some C5) fun S7 => Zaj Z6 fun C8 Z9 => Zbo (some C8) fun S10 => Zaj Z9 fun C11 Z12 => xSl (some C11) fun A13 N14 C15 E16 => Zcg Z12 (Zcx (Zbp h (.ptr (some (I2, O3 + (Int.toNat x5) * 3))) 3) fun K17 => Zaj K17 fun C18 Z19 => Zbo (some C18) fun S20 => Zaj Z19 fun C21 Z22 => Zbo (some C21) fun S23 => Zaj Z22 fun C24 Z25 => xSl (some C24) fun A26 N27 C28 E29 => Zcg Z25 ((Zbp h (.ptr (some (I0, O1 + (Int.toNat x5) * 3))) 3 = Zbp h (.ptr (some (I0, O1 + (Int.toNat x5) * 3))) 3) ∧ Zad pg Ziy [.agg [.str S7, .str S10, .slice A13 N14 C15 E16], .agg [.str S20, .str S23, .slice A26 N27 C28 E29]] h fun V30 H31 =>
 Zbx (some V30) fun B32 => bcase (!B32) (Q (.bool false) H31) (R4 a0 n0 c0 e0 a1 n1 c1 e1 (IntKind.wrap .i64 (x5 + 1)) H31)))))) (Zyk Q h)
theorem Zts (Q : QT) (R4 : T4) (a0 : Pt) (n0 c0 : Nat) (e0 : Bool) (a1 : Pt) (n1 c1 : Nat) (e1 : Bool) (x5 : Int) (h : Zaa) (ht : L4t Q R4 a0 n0 c0 e0 a1 n1 c1 e1 x5 h) : Den pg fn.ntmps (C [1, 1, 0, 1, 0, 0]) [(0, .slice a0 n0 c0 e0), (1, .slice a1 n1 c1 e1), (5, .int .i64 x5)] h (K3 Q R4) :=
  Zbc (kp := kp) (cast (by kernel_rfl) ht)
theorem L4ind (Q : QT) (a0 : Pt) (n0 c0 : Nat) (e0 : Bool) (a1 : Pt) (n1 c1 : Nat) (e1 : Bool) {G : Type} (J : G → Int → Zaa → Prop) (m : G → Nat)
 (hr : ∀ (g : G) (x5 : Int) (h : Zaa), J g x5 h → ∀ (R4 : T4), (∀ g' (x5 : Int) (h : Zaa), m g' < m g → J g' x5 h → R4 a0 n0 c0 e0 a1 n1 c1 e1 x5 h) → L4t Q R4 a0 n0 c0 e0 a1 n1 c1 e1 x5 h)
 (g : G) (x5 : Int) (h : Zaa) (hj : J g x5 h) : L4 Q a0 n0 c0 e0 a1 n1 c1 e1 x5 h := by
  refine Zeg.inv2 (fun g => E4 fun a0' n0' c0' e0' a1' n1' c1' e1' x5 h => a0 = a0' ∧ n0 = n0' ∧ c0 = c0' ∧ e0 = e0' ∧ a1 = a1' ∧ n1 = n1' ∧ c1 = c1' ∧ e1 = e1' ∧ J g x5 h) (fun g => E4 fun a0' n0' c0' e0' a1' n1' c1' e1' x5 h => a0 = a0' ∧ n0 = n0' ∧ c0 = c0' ∧ e0 = e0' ∧ a1 = a1' ∧ n1 = n1' ∧ c1 = c1' ∧ e1 = e1' ∧ ∃ g', m g' < m g ∧ J g' x5 h) m ?_ ?_ g ⟨rfl, rfl, rfl, rfl, rfl, rfl, rfl, rfl, hj⟩
  · intro g env h hi
    obtain ⟨a0', n0', c0', e0', a1', n1', c1', e1', x5, rfl, rfl, rfl, rfl, rfl, rfl, rfl, rfl, rfl, hj⟩ := Zjn hi
    exact Zts Q _ a0 n0 c0 e0 a1 n1 c1 e1 x5 h (hr g x5 h hj (fun a0' n0' c0' e0' a1' n1' c1' e1' x5 h => a0 = a0' ∧ n0 = n0' ∧ c0 = c0' ∧ e0 = e0' ∧ a1 = a1' ∧ n1 = n1' ∧ c1 = c1' ∧ e1 = e1' ∧ ∃ g', m g' < m g ∧ J g' x5 h) fun g' x5 h hlt hj => ⟨rfl, rfl, rfl, rfl, rfl, rfl, rfl, rfl, g', hlt, hj⟩)
  · intro g env h hi
    obtain ⟨a0', n0', c0', e0', a1', n1', c1', e1', x5, rfl, rfl, rfl, rfl, rfl, rfl, rfl, rfl, rfl, g', hlt, hj⟩ := Zjn hi
    exact ⟨g', hlt, rfl, rfl, rfl, rfl, rfl, rfl, rfl, rfl, hj⟩
theorem A4x0i (Q : QT) (h : Zaa) (ht :
 Q (.bool true) h) : Zyk Q h :=
  At.mk (cast (by kernel_rfl) ht)
theorem call (a0 : Pt) (n0 c0 : Nat) (e0 : Bool) (a1 : Pt) (n1 c1 : Nat) (e1 : Bool) (h : Zaa) (Q : QT) (ht :
 bcase (!((((n0 : Nat) : Int) : Int) == (((n1 : Nat) : Int)))) (Q (.bool false) h) (L4 Q a0 n0 c0 e0 a1 n1 c1 e1 0 h)) : Zad pg Zib [.slice a0 n0 c0 e0, .slice a1 n1 c1 e1] h Q :=
  Zad.of_body kp (c := cod fn) (fn := fn) Go.Proofs.Tryz.func43 (by kernel_rfl) (by kernel_rfl) (Nat.le_of_ble_eq_true (by kernel_rfl))
    (cast (by kernel_rfl) ht)
end Zex
namespace Zor
noncomputable abbrev fn : Func := Go.Proofs.Tryz.f13
def kp : Zcf := []
noncomputable def C (p : List Nat) : Code := (cod fn).sub p
def KR (Q : QT) : KT := Zey pg fn.results.toList Q
theorem call (a0x0 : Pt) (n0x0 c0x0 : Nat) (e0x0 : Bool) (a0x1 : Pt) (n0x1 c0x1 : Nat) (e0x1 : Bool) (a1x0 : Pt) (n1x0 c1x0 : Nat) (e1x0 : Bool) (a1x1 : Pt) (n1x1 c1x1 : Nat) (e1x1 : Bool) (h : Zaa) (Q : QT) (ht :
 Zdb (h ++ [.cells Zam [.slice a0x0 n0x0 c0x0 e0x0, .slice a0x1 n0x1 c0x1 e0x1] false]) fun H0 => Zdb (H0 ++ [.cells Zam [.slice a1x0 n1x0 c1x0 e1x0, .slice a1x1 n1x1 c1x1 e1x1] false]) fun H1 => xSl (Zae H1 (.ptr (some (h.length, 0 + 0)))) fun A2 N3 C4 E5 => xSl (Zae H1 (.ptr (some (H0.length, 0 + 0)))) fun A6 N7 C8 E9 => Zad pg Zkm [.slice A2 N3 C4 E5, .slice A6 N7 C8 E9] H1 fun V10 H11 =>
 Zbx (some V10) fun B12 => bcase (!B12) (Q (.bool false) H11) (xSl (Zae H11 (.ptr (some (h.length, 0 + 1)))) fun A13 N14 C15 E16 => xSl (Zae H11 (.ptr (some (H0.length, 0 + 1)))) fun A17 N18 C19 E20 => Zad pg Zib [.slice A13 N14 C15 E16, .slice A17 N18 C19 E20] H11 fun V21 H22 =>
 Zbx (some V21) fun B23 => bcase (!B23) (Q (.bool false) H22) (Q (.bool true) H22))) : Zad pg Zlq [.agg [.slice a0x0 n0x0 c0x0 e0x0, .slice a0x1 n0x1 c0x1 e0x1], .agg [.slice a1x0 n1x0 c1x0 e1x0, .slice a1x1 n1x1 c1x1 e1x1]] h Q :=
  Zad.of_body kp (c := cod fn) (fn := fn) Go.Proofs.Tryz.func13 (by kernel_rfl) (by kernel_rfl) (Nat.le_of_ble_eq_true (by kernel_rfl))
    (cast (by kernel_rfl) ht)
end Zor
end Go.Sim

set_option maxRecDepth 100000
set_option linter.unusedVariables false
namespace Go.Sim
open Go Go.RowKit
namespace Zly
noncomputable abbrev fn : Func := Go.Proofs.Tryz.f75
def kp : Zcf := []
noncomputable def C (p : List Nat) : Code := (cod fn).sub p
def KR (Q : QT) : KT := Zey pg fn.results.toList Q
theorem call (x0x0 x0x1 : List Nat) (a0x2 : Pt) (n0x2 c0x2 : Nat) (e0x2 : Bool) (x1 : Int) (h : Zaa) (Q : QT) (ht :
 Zdb (h ++ [.cells Zdw [.str x0x0, .str x0x1, .slice a0x2 n0x2 c0x2 e0x2] false]) fun H0 => Zcx (Zbp H0 (.ptr (some (h.length, 0 + 0))) 2) fun K1 => Zaj K1 fun C2 Z3 => Zbo (some C2) fun S4 => Zaj Z3 fun C5 Z6 => Zbo (some C5) fun S7 => Zcg Z6 (Zad pg Zil [.agg [.str S4, .str S7], .int .i64 x1] H0 fun V8 H9 =>
 Zdd .i64 (some V8) fun X10 => bcase (decide ((X10 : Int) < 0)) (Q (.int .i64 (-1)) H9) (xSl (Zae H9 (.ptr (some (h.length, 0 + 2)))) fun A11 N12 C13 E14 => Zad pg Zlh [.slice A11 N12 C13 E14, .int .i64 X10] H9 fun V15 H16 =>
 Zdd .i64 (some V15) fun X17 => bcase (decide ((X17 : Int) < 0)) (Q (.int .i64 (-1)) H16) (Q (.int .i64 X17) H16)))) : Zad pg Zjf [.agg [.str x0x0, .str x0x1, .slice a0x2 n0x2 c0x2 e0x2], .int .i64 x1] h Q :=
  Zad.of_body kp (c := cod fn) (fn := fn) Go.Proofs.Tryz.func75 (by kernel_rfl) (by kernel_rfl) (Nat.le_of_ble_eq_true (by kernel_rfl))
    (cast (by kernel_rfl) ht)
end Zly
namespace Zew
noncomputable abbrev fn : Func := Go.Proofs.Tryz.f33
def kp : Zcf := [(3000005, [1, 4]), (1000005, [0, 1, 5])]
noncomputable def C (p : List Nat) : Code := (cod fn).sub p
def KR (Q : QT) : KT := Zey pg fn.results.toList Q
abbrev T5 := Pt → Nat → Nat → Bool → Int → Int → Zaa → Prop
def E5 (R5 : T5) (env : Env) (h : Zaa) : Prop := Zcc 0 env fun v env => xSl (some v) fun a0 n0 c0 e0 => Zcc 1 env fun v env => Zeo .i64 v fun x1 => Zcc 5 env fun v env => Zeo .i64 v fun x5 => Zkg env (R5 a0 n0 c0 e0 x1 x5 h)
theorem Zhv {R5 : T5} {env : Env} {h : Zaa} (hi : E5 R5 env h) : ∃ a0, ∃ n0, ∃ c0, ∃ e0, ∃ x1, ∃ x5, env = [(0, .slice a0 n0 c0 e0), (1, .int .i64 x1), (5, .int .i64 x5)] ∧ R5 a0 n0 c0 e0 x1 x5 h := by
  unfold E5 at hi
  have hi0 := hi
  clear hi
  obtain ⟨_, _, rfl, hi1⟩ := Zab hi0
  obtain ⟨a0, n0, c0, e0, rfl, hi2⟩ := Zbl hi1
  obtain ⟨_, _, rfl, hi3⟩ := Zab hi2
  obtain ⟨x1, rfl, hi4⟩ := Zaw hi3
  obtain ⟨_, _, rfl, hi5⟩ := Zab hi4
  obtain ⟨x5, rfl, hi6⟩ := Zaw hi5
  obtain ⟨rfl, hi7⟩ := Zbn hi6
  have hi := hi7
  exact ⟨a0, n0, c0, e0, x1, x5, rfl, hi⟩
def K0 (Q : QT) : KT := andThen (fun env' h' => (match kp.find 4000010 with | some ks => Den pg fn.ntmps (C [1, 1, 1, 1]) (env'.keep ks) h' (KR Q) | none => den pg fn.ntmps kp (C [1, 1, 1, 1]) env' h' (KR Q))) (KR Q)
def K1 (Q : QT) : KT := Zcr 0 (K0 Q)
def K2 (Q : QT) : KT := left kp 5 (K1 Q)
def K3 (Q : QT) (R5 : T5) : KT := rnd ((kp.find 1000005).getD []) (E5 R5) (K2 Q)
def L5 (Q : QT) (a0 : Pt) (n0 c0 : Nat) (e0 : Bool) (x1 x5 : Int) (h : Zaa) : Prop := Zeg (Den pg fn.ntmps (C [1, 1, 1, 0, 1, 0, 0])) ((kp.find 1000005).getD []) (K2 Q) [(0, .slice a0 n0 c0 e0), (1, .int .i64 x1), (5, .int .i64 x5)] h
def A5x0 (Q : QT) (x1 : Int) (h : Zaa) : Prop := At (K1 Q) (.exit 0) [(1, .int .i64 x1), (4, .undef)] h
def L5t (Q : QT) (R5 : T5) (a0 : Pt) (n0 c0 : Nat) (e0 : Bool) (x1 x5 : Int) (h : Zaa) : Prop :=
 bcase (decide ((x5 : Int) < (((n0 : Nat) : Int)))) ((0 ≤ (x5 : Int) ∧ (x5 : Int) < (n0 : Nat)) ∧ (Zbi a0 fun I0 O1 => Zcx (Zbp h (.ptr (some (I0, O1 + (Int.toNat x5) * 3))) 3) fun K2 => Zaj K2 fun C3 Z4 => Zbo (some C3) fun S5 => Zaj Z4 fun C6 Z7 => Zbo (some C6) fun S8 => Zaj Z7 fun C9 Z10 => xSl (some C9) fun A11 N12 C13 E14 => Zcg Z10 (Zad pg Zjf [.agg [.str S5, .str S8, .slice A11 N12 C13 E14], .int .i64 x1] h fun V15 H16 =>
 Zdd .i64 (some V15) fun X17 => bcase (decide ((X17 : Int) < 0)) (Q (.int .i64 (-1)) H16) (R5 a0 n0 c0 e0 X17 (IntKind.wrap .i64 (x5 + 1)) H16)))) (A5x0 Q x1 h)
theorem Zrk (Q : QT) (R5 : T5) (a0 : Pt) (n0 c0 : Nat) (e0 : Bool) (x1 x5 : Int) (h : Zaa) (ht : L5t Q R5 a0 n0 c0 e0 x1 x5 h) : Den pg fn.ntmps (C [1, 1, 1, 0, 1, 0, 0]) [(0, .slice a0 n0 c0 e0), (1, .int .i64 x1), (5, .int .i64 x5)] h (K3 Q R5) :=
  Zbc (kp := kp) (cast (by kernel_rfl) ht)
theorem L5ind (Q : QT) (a0 : Pt) (n0 c0 : Nat) (e0 : Bool) {G : Type} (J : G → Int → Int → Zaa → Prop) (m : G → Nat)
 (hr : ∀ (g : G) (x1 x5 : Int) (h : Zaa), J g x1 x5 h → ∀ (R5 : T5), (∀ g' (x1 x5 : Int) (h : Zaa), m g' < m g → J g' x1 x5 h → R5 a0 n0 c0 e0 x1 x5 h) → L5t Q R5 a0 n0 c0 e0 x1 x5 h)
 (g : G) (x1 x5 : Int) (h : Zaa) (hj : J g x1 x5 h) : L5 Q a0 n0 c0 e0 x1 x5 h := by
  refine Zeg.inv2 (fun g => E5 fun a0' n0' c0' e0' x1 x5 h => a0 = a0' ∧ n0 = n0' ∧ c0 = c0' ∧ e0 = e0' ∧ J g x1 x5 h) (fun g => E5 fun a0' n0' c0' e0' x1 x5 h => a0 = a0' ∧ n0 = n0' ∧ c0 = c0' ∧ e0 = e0' ∧ ∃ g', m g' < m g ∧ J g' x1 x5 h) m ?_ ?_ g ⟨rfl, rfl, rfl, rfl, hj⟩
  · intro g env h hi
    obtain ⟨a0', n0', c0', e0', x1, x5, rfl, rfl, rfl, rfl, rfl, hj⟩ := Zhv hi
    exact Zrk Q _ a0 n0 c0 e0 x1 x5 h (hr g x1 x5 h hj (fun a0' n0' c0' e0' x1 x5 h => a0 = a0' ∧ n0 = n0' ∧ c0 = c0' ∧ e0 = e0' ∧ ∃ g', m g' < m g ∧ J g' x1 x5 h) fun g' x1 x5 h hlt hj => ⟨rfl, rfl, rfl, rfl, g', hlt, hj⟩)
  · intro g env h hi
    obtain ⟨a0', n0', c0', e0', x1, x5, rfl, rfl, rfl, rfl, rfl, g', hlt, hj⟩ := Zhv hi
    exact ⟨g', hlt, rfl, rfl, rfl, rfl, hj⟩
theorem A5x0i (Q : QT) (x1 : Int) (h : Zaa) (ht :
 Q (.int .i64 x1) h) : A5x0 Q x1 h :=
  At.mk (cast (by kernel_rfl) ht)
theorem call (a0 : Pt) (n0 c0 : Nat) (e0 : Bool) (x1 : Int) (h : Zaa) (Q : QT) (ht :
 bcase (decide (((IntKind.wrap .i64 (x1 - (((n0 : Nat) : Int)))) : Int) < 0)) (Q (.int .i64 (-1)) h) (L5 Q a0 n0 c0 e0 (IntKind.wrap .i64 (x1 - (((n0 : Nat) : Int)))) 0 h)) : Zad pg Zim [.slice a0 n0 c0 e0, .int .i64 x1] h Q :=
  Zad.of_body kp (c := cod fn) (fn := fn) Go.Proofs.Tryz.func33 (by kernel_rfl) (by kernel_rfl) (Nat.le_of_ble_eq_true (by kernel_rfl))
    (cast (by kernel_rfl) ht)
end Zew
namespace Zow
noncomputable abbrev fn : Func := Go.Proofs.Tryz.f7
def kp : Zcf := []
noncomputable def C (p : List Nat) : Code := (cod fn).sub p
def KR (Q : QT) : KT := Zey pg fn.results.toList Q
theorem call (a0x0 : Pt) (n0x0 c0x0 : Nat) (e0x0 : Bool) (a0x1 : Pt) (n0x1 c0x1 : Nat) (e0x1 : Bool) (x1 : Int) (h : Zaa) (Q : QT) (ht :
 Zdb (h ++ [.cells Zdy [.slice a0x0 n0x0 c0x0 e0x0, .slice a0x1 n0x1 c0x1 e0x1] false]) fun H0 => xSl (Zae H0 (.ptr (some (h.length, 0 + 0)))) fun A1 N2 C3 E4 => Zad pg Zkt [.slice A1 N2 C3 E4, .int .i64 x1] H0 fun V5 H6 =>
 Zdd .i64 (some V5) fun X7 => bcase (decide ((X7 : Int) < 0)) (Q (.int .i64 (-1)) H6) (xSl (Zae H6 (.ptr (some (h.length, 0 + 1)))) fun A8 N9 C10 E11 => Zad pg Zim [.slice A8 N9 C10 E11, .int .i64 X7] H6 fun V12 H13 =>
 Zdd .i64 (some V12) fun X14 => bcase (decide ((X14 : Int) < 0)) (Q (.int .i64 (-1)) H13) (Q (.int .i64 X14) H13))) : Zad pg Zln [.agg [.slice a0x0 n0x0 c0x0 e0x0, .slice a0x1 n0x1 c0x1 e0x1], .int .i64 x1] h Q :=
  Zad.of_body kp (c := cod fn) (fn := fn) Go.Proofs.Tryz.func7 (by kernel_rfl) (by kernel_rfl) (Nat.le_of_ble_eq_true (by kernel_rfl))
    (cast (by kernel_rfl) ht)
end Zow
namespace Zmc
noncomputable abbrev fn : Func := Go.Proofs.Tryz.f79
def kp : Zcf := []
noncomputable def C (p : List Nat) : Code := (cod fn).sub p
def KR (Q : QT) : KT := Zey pg fn.results.toList Q
theorem call (x0x0 x0x1 : List Nat) (a0x2 : Pt) (n0x2 c0x2 : Nat) (e0x2 : Bool) (h : Zaa) (Q : QT) (ht :
 Zdb (h ++ [.cells Zdw [.str x0x0, .str x0x1, .slice a0x2 n0x2 c0x2 e0x2] false]) fun H0 => Zdb (H0 ++ [.cells Zal [.str [], .str [], .slice none 0 0 true] false]) fun H1 => Zdb (H1 ++ [.cells Zal [.str [], .str [], .slice none 0 0 true] false]) fun H2 => Zcx (Zbp H2 (.ptr (some (h.length, 0 + 0))) 2) fun K3 => Zaj K3 fun C4 Z5 => Zbo (some C4) fun S6 => Zaj Z5 fun C7 Z8 => Zbo (some C7) fun S9 => Zcg Z8 (Zad pg Zgw [.agg [.str S6, .str S9]] H2 fun V10 H11 =>
 Zph V10 fun K12 => Zaj K12 fun C13 Z14 => Zbo (some C13) fun S15 => Zaj Z14 fun C16 Z17 => Zbo (some C16) fun S18 => Zcg Z17 (Zcb (Zbd H11 (.ptr (some (H1.length, 0 + 0))) [.str S15, .str S18]) fun H19 => xSl (Zae H19 (.ptr (some (h.length, 0 + 2)))) fun A20 N21 C22 E23 => Zad pg Zlf [.slice A20 N21 C22 E23] H19 fun V24 H25 =>
 xSl (some V24) fun A26 N27 C28 E29 => Zcb (Zbd H25 (.ptr (some (H1.length, 0 + 2))) [.slice A26 N27 C28 E29]) fun H30 => Zcx (Zbp H30 (.ptr (some (H1.length, 0))) 3) fun K31 => Zaj K31 fun C32 Z33 => Zbo (some C32) fun S34 => Zaj Z33 fun C35 Z36 => Zbo (some C35) fun S37 => Zaj Z36 fun C38 Z39 => xSl (some C38) fun A40 N41 C42 E43 => Zcg Z39 (Zcb (Zbd H30 (.ptr (some (H0.length, 0))) [.str S34, .str S37, .slice A40 N41 C42 E43]) fun H44 => Zcx (Zbp H44 (.ptr (some (H0.length, 0))) 3) fun K45 => Zaj K45 fun C46 Z47 => Zbo (some C46) fun S48 => Zaj Z47 fun C49 Z50 => Zbo (some C49) fun S51 => Zaj Z50 fun C52 Z53 => xSl (some C52) fun A54 N55 C56 E57 => Zcg Z53 (Q (.agg [.str S48, .str S51, .slice A54 N55 C56 E57]) H44))))) : Zad pg Zix [.agg [.str x0x0, .str x0x1, .slice a0x2 n0x2 c0x2 e0x2]] h Q :=
  Zad.of_body kp (c := cod fn) (fn := fn) Go.Proofs.Tryz.func79 (by kernel_rfl) (by kernel_rfl) (Nat.le_of_ble_eq_true (by kernel_rfl))
    (cast (by kernel_rfl) ht)
end Zmc
end Go.Sim

set_option maxRecDepth 100000
set_option linter.unusedVariables false
namespace Go.Sim
open Go Go.RowKit
namespace Zox
noncomputable abbrev fn : Func := Go.Proofs.Tryz.f74
def kp : Zcf := []
noncomputable def C (p : List Nat) : Code := (cod fn).sub p
def KR (Q : QT) : KT := Zey pg fn.results.toList Q
theorem call (x0x0 x0x1 : List Nat) (x1 : Int) (h : Zaa) (Q : QT) (ht :
 Zdb (h ++ [.cells Znt [.str x0x0, .str x0x1] false]) fun H0 => Zbo (Zae H0 (.ptr (some (h.length, 0 + 0)))) fun S1 => bcase (decide (((IntKind.wrap .i64 (x1 - (((List.length S1 : Nat) : Int)))) : Int) < 0)) (Q (.int .i64 (-1)) H0) (Zbo (Zae H0 (.ptr (some (h.length, 0 + 1)))) fun S2 => bcase (decide (((IntKind.wrap .i64 ((IntKind.wrap .i64 (x1 - (((List.length S1 : Nat) : Int)))) - (((List.length S2 : Nat) : Int)))) : Int) < 0)) (Q (.int .i64 (-1)) H0) (Q (.int .i64 (IntKind.wrap .i64 ((IntKind.wrap .i64 (x1 - (((List.length S1 : Nat) : Int)))) - (((List.length S2 : Nat) : Int))))) H0))) : Zad pg Zlg [.agg [.str x0x0, .str x0x1], .int .i64 x1] h Q :=
  Zad.of_body kp (c := cod fn) (fn := fn) Go.Proofs.Tryz.func74 (by kernel_rfl) (by kernel_rfl) (Nat.le_of_ble_eq_true (by kernel_rfl))
    (cast (by kernel_rfl) ht)
end Zox
namespace Zpc
noncomputable abbrev fn : Func := Go.Proofs.Tryz.f82
def kp : Zcf := []
noncomputable def C (p : List Nat) : Code := (cod fn).sub p
def KR (Q : QT) : KT := Zey pg fn.results.toList Q
theorem call (x0x0 x0x1 x1x0 x1x1 : List Nat) (h : Zaa) (Q : QT) (ht :
 Zdb (h ++ [.cells Zbr [.str x0x0, .str x0x1] false]) fun H0 => Zdb (H0 ++ [.cells Zbr [.str x1x0, .str x1x1] false]) fun H1 => Zbo (Zae H1 (.ptr (some (h.length, 0 + 0)))) fun S2 => Zbo (Zae H1 (.ptr (some (H0.length, 0 + 0)))) fun S3 => bcase (!(decide (S2 = S3))) (Q (.bool false) H1) (Zbo (Zae H1 (.ptr (some (h.length, 0 + 1)))) fun S4 => Zbo (Zae H1 (.ptr (some (H0.length, 0 + 1)))) fun S5 => bcase (!(decide (S4 = S5))) (Q (.bool false) H1) (Q (.bool true) H1))) : Zad pg Zlk [.agg [.str x0x0, .str x0x1], .agg [.str x1x0, .str x1x1]] h Q :=
  Zad.of_body kp (c := cod fn) (fn := fn) Go.Proofs.Tryz.func82 (by kernel_rfl) (by kernel_rfl) (Nat.le_of_ble_eq_true (by kernel_rfl))
    (cast (by kernel_rfl) ht)
end Zpc
namespace Zoy
noncomputable abbrev fn : Func := Go.Proofs.Tryz.f78
def kp : Zcf := []
noncomputable def C (p : List Nat) : Code := (cod fn).sub p
def KR (Q : QT) : KT := Zey pg fn.results.toList Q
theorem call (x0x0 x0x1 : List Nat) (h : Zaa) (Q : QT) (ht :
 Zdb (h ++ [.cells Znt [.str x0x0, .str x0x1] false]) fun H0 => Zdb (H0 ++ [.cells Zbr [.str [], .str []] false]) fun H1 => Zdb (H1 ++ [.cells Zbr [.str [], .str []] false]) fun H2 => Zbo (Zae H2 (.ptr (some (h.length, 0 + 0)))) fun S3 => Zcb (Zbd H2 (.ptr (some (H1.length, 0 + 0))) [.str S3]) fun H4 => Zbo (Zae H4 (.ptr (some (h.length, 0 + 1)))) fun S5 => Zcb (Zbd H4 (.ptr (some (H1.length, 0 + 1))) [.str S5]) fun H6 => Zcx (Zbp H6 (.ptr (some (H1.length, 0))) 2) fun K7 => Zaj K7 fun C8 Z9 => Zbo (some C8) fun S10 => Zaj Z9 fun C11 Z12 => Zbo (some C11) fun S13 => Zcg Z12 (Zcb (Zbd H6 (.ptr (some (H0.length, 0))) [.str S10, .str S13]) fun H14 => Zcx (Zbp H14 (.ptr (some (H0.length, 0))) 2) fun K15 => Zaj K15 fun C16 Z17 => Zbo (some C16) fun S18 => Zaj Z17 fun C19 Z20 => Zbo (some C19) fun S21 => Zcg Z20 (Q (.agg [.str S18, .str S21]) H14))) : Zad pg Zlp [.agg [.str x0x0, .str x0x1]] h Q :=
  Zad.of_body kp (c := cod fn) (fn := fn) Go.Proofs.Tryz.func78 (by kernel_rfl) (by kernel_rfl) (Nat.le_of_ble_eq_true (by kernel_rfl))
    (cast (by kernel_rfl) ht)
end Zoy
namespace Zgf
noncomputable abbrev fn : Func := Go.Proofs.Tryz.f32
def kp : Zcf := [(3000005, [1, 4]), (1000005, [0, 1, 5])]
noncomputable def C (p : List Nat) : Code := (cod fn).sub p
def KR (Q : QT) : KT := Zey pg fn.results.toList Q
abbrev T5 := Pt → Nat → Nat → Bool → Int → Int → Zaa → Prop
def E5 (R5 : T5) (env : Env) (h : Zaa) : Prop := Zcc 0 env fun v env => xSl (some v) fun a0 n0 c0 e0 => Zcc 1 env fun v env => Zeo .i64 v fun x1 => Zcc 5 env fun v env => Zeo .i64 v fun x5 => Zkg env (R5 a0 n0 c0 e0 x1 x5 h)
theorem Zhv {R5 : T5} {env : Env} {h : Zaa} (hi : E5 R5 env h) : ∃ a0, ∃ n0, ∃ c0, ∃ e0, ∃ x1, ∃ x5, env = [(0, .slice a0 n0 c0 e0), (1, .int .i64 x1), (5, .int .i64 x5)] ∧ R5 a0 n0 c0 e0 x1 x5 h := by
  unfold E5 at hi
  have hi0 := hi
  clear hi
  obtain ⟨_, _, rfl, hi1⟩ := Zab hi0
  obtain ⟨a0, n0, c0, e0, rfl, hi2⟩ := Zbl hi1
  obtain ⟨_, _, rfl, hi3⟩ := Zab hi2
  obtain ⟨x1, rfl, hi4⟩ := Zaw hi3
  obtain ⟨_, _, rfl, hi5⟩ := Zab hi4
  obtain ⟨x5, rfl, hi6⟩ := Zaw hi5
  obtain ⟨rfl, hi7⟩ := Zbn hi6
  have hi := hi7
  exact ⟨a0, n0, c0, e0, x1, x5, rfl, hi⟩
def K0 (Q : QT) : KT := andThen (fun env' h' => (match kp.find 4000010 with | some ks => Den pg fn.ntmps (C [1, 1, 1, 1]) (env'.keep ks) h' (KR Q) | none => den pg fn.ntmps kp (C [1, 1, 1, 1]) env' h' (KR Q))) (KR Q)
def K1 (Q : QT) : KT := Zcr 0 (K0 Q)
def K2 (Q : QT) : KT := left kp 5 (K1 Q)
def K3 (Q : QT) (R5 : T5) : KT := rnd ((kp.find 1000005).getD []) (E5 R5) (K2 Q)
def L5 (Q : QT) (a0 : Pt) (n0 c0 : Nat) (e0 : Bool) (x1 x5 : Int) (h : Zaa) : Prop := Zeg (Den pg fn.ntmps (C [1, 1, 1, 0, 1, 0, 0])) ((kp.find 1000005).getD []) (K2 Q) [(0, .slice a0 n0 c0 e0), (1, .int .i64 x1), (5, .int .i64 x5)] h
def A5x0 (Q : QT) (x1 : Int) (h : Zaa) : Prop := At (K1 Q) (.exit 0) [(1, .int .i64 x1), (4, .undef)] h
def L5t (Q : QT) (R5 : T5) (a0 : Pt) (n0 c0 : Nat) (e0 : Bool) (x1 x5 : Int) (h : Zaa) : Prop :=
 bcase (decide ((x5 : Int) < (((n0 : Nat) : Int)))) ((0 ≤ (x5 : Int) ∧ (x5 : Int) < (n0 : Nat)) ∧ (Zbi a0 fun I0 O1 => Zcx (Zbp h (.ptr (some (I0, O1 + (Int.toNat x5) * 2))) 2) fun K2 => Zaj K2 fun C3 Z4 => Zbo (some C3) fun S5 => Zaj Z4 fun C6 Z7 => Zbo (some C6) fun S8 => Zcg Z7 (Zad pg Zlg [.agg [.str S5, .str S8], .int .i64 x1] h fun V9 H10 =>
 Zdd .i64 (some V9) fun X11 => bcase (decide ((X11 : Int) < 0)) (Q (.int .i64 (-1)) H10) (R5 a0 n0 c0 e0 X11 (IntKind.wrap .i64 (x5 + 1)) H10)))) (A5x0 Q x1 h)
theorem Zrk (Q : QT) (R5 : T5) (a0 : Pt) (n0 c0 : Nat) (e0 : Bool) (x1 x5 : Int) (h : Zaa) (ht : L5t Q R5 a0 n0 c0 e0 x1 x5 h) : Den pg fn.ntmps (C [1, 1, 1, 0, 1, 0, 0]) [(0, .slice a0 n0 c0 e0), (1, .int .i64 x1), (5, .int .i64 x5)] h (K3 Q R5) :=
  Zbc (kp := kp) (cast (by kernel_rfl) ht)
theorem L5ind (Q : QT) (a0 : Pt) (n0 c0 : Nat) (e0 : Bool) {G : Type} (J : G → Int → Int → Zaa → Prop) (m : G → Nat)
 (hr : ∀ (g : G) (x1 x5 : Int) (h : Zaa), J g x1 x5 h → ∀ (R5 : T5), (∀ g' (x1 x5 : Int) (h : Zaa), m g' < m g → J g' x1 x5 h → R5 a0 n0 c0 e0 x1 x5 h) → L5t Q R5 a0 n0 c0 e0 x1 x5 h)
 (g : G) (x1 x5 : Int) (h : Zaa) (hj : J g x1 x5 h) : L5 Q a0 n0 c0 e0 x1 x5 h := by
  refine Zeg.inv2 (fun g => E5 fun a0' n0' c0' e0' x1 x5 h => a0 = a0' ∧ n0 = n0' ∧ c0 = c0' ∧ e0 = e0' ∧ J g x1 x5 h) (fun g => E5 fun a0' n0' c0' e0' x1 x5 h => a0 = a0' ∧ n0 = n0' ∧ c0 = c0' ∧ e0 = e0' ∧ ∃ g', m g' < m g ∧ J g' x1 x5 h) m ?_ ?_ g ⟨rfl, rfl, rfl, rfl, hj⟩
  · intro g env h hi
    obtain ⟨a0', n0', c0', e0', x1, x5, rfl, rfl, rfl, rfl, rfl, hj⟩ := Zhv hi
    exact Zrk Q _ a0 n0 c0 e0 x1 x5 h (hr g x1 x5 h hj (fun a0' n0' c0' e0' x1 x5 h => a0 = a0' ∧ n0 = n0' ∧ c0 = c0' ∧ e0 = e0' ∧ ∃ g', m g' < m g ∧ J g' x1 x5 h) fun g' x1 x5 h hlt hj => ⟨rfl, rfl, rfl, rfl, g', hlt, hj⟩)
  · intro g env h hi
    obtain ⟨a0', n0', c0', e0', x1, x5, rfl, rfl, rfl, rfl, rfl, g', hlt, hj⟩ := Zhv hi
    exact ⟨g', hlt, rfl, rfl, rfl, rfl, hj⟩
theorem A5x0i (Q : QT) (x1 : Int) (h : Zaa) (ht :
 Q (.int .i64 x1) h) : A5x0 Q x1 h :=
  At.mk (cast (by kernel_rfl) ht)
theorem call (a0 : Pt) (n0 c0 : Nat) (e0 : Bool) (x1 : Int) (h : Zaa) (Q : QT) (ht :
 bcase (decide (((IntKind.wrap .i64 (x1 - (((n0 : Nat) : Int)))) : Int) < 0)) (Q (.int .i64 (-1)) h) (L5 Q a0 n0 c0 e0 (IntKind.wrap .i64 (x1 - (((n0 : Nat) : Int)))) 0 h)) : Zad pg Zkt [.slice a0 n0 c0 e0, .int .i64 x1] h Q :=
  Zad.of_body kp (c := cod fn) (fn := fn) Go.Proofs.Tryz.func32 (by kernel_rfl) (by kernel_rfl) (Nat.le_of_ble_eq_true (by kernel_rfl))
    (cast (by kernel_rfl) ht)
end Zgf
namespace Zgo
noncomputable abbrev fn : Func := Go.Proofs.Tryz.f37
def kp : Zcf := [(3000003, [3]), (1000003, [0, 3, 4])]
noncomputable def C (p : List Nat) : Code := (cod fn).sub p
def KR (Q : QT) : KT := Zey pg fn.results.toList Q
abbrev T3 := Pt → Nat → Nat → Bool → Pt → Nat → Nat → Bool → Int → Zaa → Prop
def E3 (R3 : T3) (env : Env) (h : Zaa) : Prop := Zcc 0 env fun v env => xSl (some v) fun a0 n0 c0 e0 => Zcc 3 env fun v env => xSl (some v) fun a3 n3 c3 e3 => Zcc 4 env fun v env => Zeo .i64 v fun x4 => Zkg env (R3 a0 n0 c0 e0 a3 n3 c3 e3 x4 h)
theorem Zfh {R3 : T3} {env : Env} {h : Zaa} (hi : E3 R3 env h) : ∃ a0, ∃ n0, ∃ c0, ∃ e0, ∃ a3, ∃ n3, ∃ c3, ∃ e3, ∃ x4, env = [(0, .slice a0 n0 c0 e0), (3, .slice a3 n3 c3 e3), (4, .int .i64 x4)] ∧ R3 a0 n0 c0 e0 a3 n3 c3 e3 x4 h := by
  unfold E3 at hi
  have hi0 := hi
  clear hi
  obtain ⟨_, _, rfl, hi1⟩ := Zab hi0
  obtain ⟨a0, n0, c0, e0, rfl, hi2⟩ := Zbl hi1
  obtain ⟨_, _, rfl, hi3⟩ := Zab hi2
  obtain ⟨a3, n3, c3, e3, rfl, hi4⟩ := Zbl hi3
  obtain ⟨_, _, rfl, hi5⟩ := Zab hi4
  obtain ⟨x4, rfl, hi6⟩ := Zaw hi5
  obtain ⟨rfl, hi7⟩ := Zbn hi6
  have hi := hi7
  exact ⟨a0, n0, c0, e0, a3, n3, c3, e3, x4, rfl, hi⟩
def K0 (Q : QT) : KT := andThen (fun env' h' => (match kp.find 4000006 with | some ks => Den pg fn.ntmps (C [1, 1, 1]) (env'.keep ks) h' (KR Q) | none => den pg fn.ntmps kp (C [1, 1, 1]) env' h' (KR Q))) (KR Q)
def K1 (Q : QT) : KT := Zcr 0 (K0 Q)
def K2 (Q : QT) : KT := left kp 3 (K1 Q)
def K3 (Q : QT) (R3 : T3) : KT := rnd ((kp.find 1000003).getD []) (E3 R3) (K2 Q)
def L3 (Q : QT) (a0 : Pt) (n0 c0 : Nat) (e0 : Bool) (a3 : Pt) (n3 c3 : Nat) (e3 : Bool) (x4 : Int) (h : Zaa) : Prop := Zeg (Den pg fn.ntmps (C [1, 1, 0, 1, 0, 0])) ((kp.find 1000003).getD []) (K2 Q) [(0, .slice a0 n0 c0 e0), (3, .slice a3 n3 c3 e3), (4, .int .i64 x4)] h
def Zrz (Q : QT) (a3 : Pt) (n3 c3 : Nat) (e3 : Bool) (h : Zaa) : Prop := At (K1 Q) (.exit 0) [(3, .slice a3 n3 c3 e3)] h
def L3t (Q : QT) (R3 : T3) (a0 : Pt) (n0 c0 : Nat) (e0 : Bool) (a3 : Pt) (n3 c3 : Nat) (e3 : Bool) (x4 : Int) (h : Zaa) : Prop :=
 bcase (decide ((x4 : Int) < (((n0 : Nat) : Int)))) ((0 ≤ (x4 : Int) ∧ (x4 : Int) < (n0 : Nat)) ∧ (Zbi a0 fun I1 O2 => Zcx (Zbp h (.ptr (some (I1, O2 + (Int.toNat x4) * 2))) 2) fun K3 => Zaj K3 fun C4 Z5 => Zbo (some C4) fun S6 => Zaj Z5 fun C7 Z8 => Zbo (some C7) fun S9 => Zcg Z8 (Zad pg Zlp [.agg [.str S6, .str S9]] h fun V10 H11 =>
 Zph V10 fun K12 => Zaj K12 fun C13 Z14 => Zbo (some C13) fun S15 => Zaj Z14 fun C16 Z17 => Zbo (some C16) fun S18 => Zcg Z17 ((0 ≤ (x4 : Int) ∧ (x4 : Int) < (n3 : Nat)) ∧ (Zbi a3 fun I19 O20 => Zcb (Zbd H11 (.ptr (some (I19, O20 + (Int.toNat x4) * 2))) [.str S15, .str S18]) fun H21 => R3 a0 n0 c0 e0 a3 n3 c3 e3 (IntKind.wrap .i64 (x4 + 1)) H21))))) (Zrz Q a3 n3 c3 e3 h)
theorem Znv (Q : QT) (R3 : T3) (a0 : Pt) (n0 c0 : Nat) (e0 : Bool) (a3 : Pt) (n3 c3 : Nat) (e3 : Bool) (x4 : Int) (h : Zaa) (ht : L3t Q R3 a0 n0 c0 e0 a3 n3 c3 e3 x4 h) : Den pg fn.ntmps (C [1, 1, 0, 1, 0, 0]) [(0, .slice a0 n0 c0 e0), (3, .slice a3 n3 c3 e3), (4, .int .i64 x4)] h (K3 Q R3) :=
  Zbc (kp := kp) (cast (by kernel_rfl) ht)
theorem L3ind (Q : QT) (a0 : Pt) (n0 c0 : Nat) (e0 : Bool) (a3 : Pt) (n3 c3 : Nat) (e3 : Bool) {G : Type} (J : G → Int → Zaa → Prop) (m : G → Nat)
 (hr : ∀ (g : G) (x4 : Int) (h : Zaa), J g x4 h → ∀ (R3 : T3), (∀ g' (x4 : Int) (h : Zaa), m g' < m g → J g' x4 h → R3 a0 n0 c0 e0 a3 n3 c3 e3 x4 h) → L3t Q R3 a0 n0 c0 e0 a3 n3 c3 e3 x4 h)
 (g : G) (x4 : Int) (h : Zaa) (hj : J g x4 h) : L3 Q a0 n0 c0 e0 a3 n3 c3 e3 x4 h := by
  refine Zeg.inv2 (fun g => E3 fun a0' n0' c0' e0' a3' n3' c3' e3' x4 h => a0 = a0' ∧ n0 = n0' ∧ c0 = c0' ∧ e0 = e0' ∧ a3 = a3' ∧ n3 = n3' ∧ c3 = c3' ∧ e3 = e3' ∧ J g x4 h) (fun g => E3 fun a0' n0' c0' e0' a3' n3' c3' e3' x4 h => a0 = a0' ∧ n0 = n0' ∧ c0 = c0' ∧ e0 = e0' ∧ a3 = a3' ∧ n3 = n3' ∧ c3 = c3' ∧ e3 = e3' ∧ ∃ g', m g' < m g ∧ J g' x4 h) m ?_ ?_ g ⟨rfl, rfl, rfl, rfl, rfl, rfl, rfl, rfl, hj⟩
  · intro g env h hi
    obtain ⟨a0', n0', c0', e0', a3', n3', c3', e3', x4, rfl, rfl, rfl, rfl, rfl, rfl, rfl, rfl, rfl, hj⟩ := Zfh hi
    exact Znv Q _ a0 n0 c0 e0 a3 n3 c3 e3 x4 h (hr g x4 h hj (fun a0' n0' c0' e0' a3' n3' c3' e3' x4 h => a0 = a0' ∧ n0 = n0' ∧ c0 = c0' ∧ e0 = e0' ∧ a3 = a3' ∧ n3 = n3' ∧ c3 = c3' ∧ e3 = e3' ∧ ∃ g', m g' < m g ∧ J g' x4 h) fun g' x4 h hlt hj => ⟨rfl, rfl, rfl, rfl, rfl, rfl, rfl, rfl, g', hlt, hj⟩)
  · intro g env h hi
    obtain ⟨a0', n0', c0', e0', a3', n3', c3', e3', x4, rfl, rfl, rfl, rfl, rfl, rfl, rfl, rfl, rfl, g', hlt, hj⟩ := Zfh hi
    exact ⟨g', hlt, rfl, rfl, rfl, rfl, rfl, rfl, rfl, rfl, hj⟩
theorem A3x0i (Q : QT) (a3 : Pt) (n3 c3 : Nat) (e3 : Bool) (h : Zaa) (ht :
 Q (.slice a3 n3 c3 e3) h) : Zrz Q a3 n3 c3 e3 h :=
  At.mk (cast (by kernel_rfl) ht)
theorem call (a0 : Pt) (n0 c0 : Nat) (e0 : Bool) (h : Zaa) (Q : QT) (ht :
 IntKind.i64 = IntKind.i64 ∧ (IntKind.i64 = IntKind.i64 ∧ ((0 ≤ ((((n0 : Nat) : Int)) : Int) ∧ ((((n0 : Nat) : Int)) : Int) ≤ (((n0 : Nat) : Int)) ∧ ((((n0 : Nat) : Int)) : Int) * (((32 : Nat) : Int) + 1) ≤ 140737488355328) ∧ (Zdb (h ++ [.cells Zbr (reps (Int.toNat ((((n0 : Nat) : Int)))) [.str [], .str []]) false]) fun H0 => L3 Q a0 n0 c0 e0 (some (h.length, 0)) (Int.toNat ((((n0 : Nat) : Int)))) (Int.toNat ((((n0 : Nat) : Int)))) true 0 H0)))) : Zad pg Zkp [.slice a0 n0 c0 e0] h Q :=
  Zad.of_body kp (c := cod fn) (fn := fn) Go.Proofs.Tryz.func37 (by kernel_rfl) (by kernel_rfl) (Nat.le_of_ble_eq_true (by kernel_rfl))
    (cast (by kernel_rfl) ht)
end Zgo
namespace Zgg
noncomputable abbrev fn : Func := Go.Proofs.Tryz.f42
def kp : Zcf := [(3000004, [4]), (1000004, [0, 1, 5]), (2000006, [26, 5, 0, 1])]
noncomputable def C (p : List Nat) : Code := (cod fn).sub p
def KR (Q : QT) : KT := Zey pg fn.results.toList Q
abbrev T4 := Pt → Nat → Nat → Bool → Pt → Nat → Nat → Bool → Int → Zaa → Prop
def E4 (R4 : T4) (env : Env) (h : Zaa) : Prop := Zcc 0 env fun v env => xSl (some v) fun a0 n0 c0 e0 => Zcc 1 env fun v env => xSl (some v) fun a1 n1 c1 e1 => Zcc 5 env fun v env => Zeo .i64 v fun x5 => Zkg env (R4 a0 n0 c0 e0 a1 n1 c1 e1 x5 h)
theorem Zjn {R4 : T4} {env : Env} {h : Zaa} (hi : E4 R4 env h) : ∃ a0, ∃ n0, ∃ c0, ∃ e0, ∃ a1, ∃ n1, ∃ c1, ∃ e1, ∃ x5, env = [(0, .slice a0 n0 c0 e0), (1, .slice a1 n1 c1 e1), (5, .int .i64 x5)] ∧ R4 a0 n0 c0 e0 a1 n1 c1 e1 x5 h := by
  unfold E4 at hi
  have hi0 := hi
  clear hi
  obtain ⟨_, _, rfl, hi1⟩ := Zab hi0
  obtain ⟨a0, n0, c0, e0, rfl, hi2⟩ := Zbl hi1
  obtain ⟨_, _, rfl, hi3⟩ := Zab hi2
  obtain ⟨a1, n1, c1, e1, rfl, hi4⟩ := Zbl hi3
  obtain ⟨_, _, rfl, hi5⟩ := Zab hi4
  obtain ⟨x5, rfl, hi6⟩ := Zaw hi5
  obtain ⟨rfl, hi7⟩ := Zbn hi6
  have hi := hi7
  exact ⟨a0, n0, c0, e0, a1, n1, c1, e1, x5, rfl, hi⟩
def K0 (Q : QT) : KT := andThen (fun env' h' => (match kp.find 4000008 with | some ks => Den pg fn.ntmps (C [1, 1, 1]) (env'.keep ks) h' (KR Q) | none => den pg fn.ntmps kp (C [1, 1, 1]) env' h' (KR Q))) (KR Q)
def K1 (Q : QT) : KT := Zcr 0 (K0 Q)
def K2 (Q : QT) : KT := left kp 4 (K1 Q)
def K3 (Q : QT) (R4 : T4) : KT := rnd ((kp.find 1000004).getD []) (E4 R4) (K2 Q)
def L4 (Q : QT) (a0 : Pt) (n0 c0 : Nat) (e0 : Bool) (a1 : Pt) (n1 c1 : Nat) (e1 : Bool) (x5 : Int) (h : Zaa) : Prop := Zeg (Den pg fn.ntmps (C [1, 1, 0, 1, 0, 0])) ((kp.find 1000004).getD []) (K2 Q) [(0, .slice a0 n0 c0 e0), (1, .slice a1 n1 c1 e1), (5, .int .i64 x5)] h
def Zyk (Q : QT) (h : Zaa) : Prop := At (K1 Q) (.exit 0) [(4, .undef)] h
def L4t (Q : QT) (R4 : T4) (a0 : Pt) (n0 c0 : Nat) (e0 : Bool) (a1 : Pt) (n1 c1 : Nat) (e1 : Bool) (x5 : Int) (h : Zaa) : Prop :=
 bcase (decide ((x5 : Int) < (((n0 : Nat) : Int)))) ((0 ≤ (x5 : Int) ∧ (x5 : Int) < (n0 : Nat)) ∧ (Zbi a0 fun I0 O1 => (0 ≤ (x5 : Int) ∧ (x5 : Int) < (n1 : Nat)) ∧ (Zbi a1 fun I2 O3 => Zcx (Zbp h (.ptr (some (I0, O1 + (Int.toNat x5) * 2))) 2) fun K4 => Zaj K4 fun C5 Z6 => Zbo (some C5) fun S7 => Zaj Z6 fun C8 Z9 => Zbo (some C8) fun S10 => Zcg Z9 (Zcx (Zbp h (.ptr (some (I2, O3 + (Int.toNat x5) * 2))) 2) fun K11 => Zaj K11 fun C12 Z13 => Zbo (some C12) fun S14 => Zaj Z13 fun C15 Z16 => Zbo (some C15) fun S17 => Zcg Z16 ((Zbp h (.ptr (some (I0, O1 + (Int.toNat x5) * 2))) 2 = Zbp h (.ptr (some (I0, O1 + (Int.toNat x5) * 2))) 2) ∧ Zad pg Zlk [.agg [.str S7, .str S10], .agg [.str S14, .str S17]] h fun V18 H19 =>
 Zbx (some V18) fun B20 => bcase (!B20) (Q (.bool false) H19) (R4 a0 n0 c0 e0 a1 n1 c1 e1 (IntKind.wrap .i64 (x5 + 1)) H19)))))) (Zyk Q h)
theorem Zts (Q : QT) (R4 : T4) (a0 : Pt) (n0 c0 : Nat) (e0 : Bool) (a1 : Pt) (n1 c1 : Nat) (e1 : Bool) (x5 : Int) (h : Zaa) (ht : L4t Q R4 a0 n0 c0 e0 a1 n1 c1 e1 x5 h) : Den pg fn.ntmps (C [1, 1, 0, 1, 0, 0]) [(0, .slice a0 n0 c0 e0), (1, .slice a1 n1 c1 e1), (5, .int .i64 x5)] h (K3 Q R4) :=
  Zbc (kp := kp) (cast (by kernel_rfl) ht)
theorem L4ind (Q : QT) (a0 : Pt) (n0 c0 : Nat) (e0 : Bool) (a1 : Pt) (n1 c1 : Nat) (e1 : Bool) {G : Type} (J : G → Int → Zaa → Prop) (m : G → Nat)
 (hr : ∀ (g : G) (x5 : Int) (h : Zaa), J g x5 h → ∀ (R4 : T4), (∀ g' (x5 : Int) (h : Zaa), m g' < m g → J g' x5 h → R4 a0 n0 c0 e0 a1 n1 c1 e1 x5 h) → L4t Q R4 a0 n0 c0 e0 a1 n1 c1 e1 x5 h)
 (g : G) (x5 : Int) (h : Zaa) (hj : J g x5 h) : L4 Q a0 n0 c0 e0 a1 n1 c1 e1 x5 h := by
  refine Zeg.inv2 (fun g => E4 fun a0' n0' c0' e0' a1' n1' c1' e1' x5 h => a0 = a0' ∧ n0 = n0' ∧ c0 = c0' ∧ e0 = e0' ∧ a1 = a1' ∧ n1 = n1' ∧ c1 = c1' ∧ e1 = e1' ∧ J g x5 h) (fun g => E4 fun a0' n0' c0' e0' a1' n1' c1' e1' x5 h => a0 = a0' ∧ n0 = n0' ∧ c0 = c0' ∧ e0 = e0' ∧ a1 = a1' ∧ n1 = n1' ∧ c1 = c1' ∧ e1 = e1' ∧ ∃ g', m g' < m g ∧ J g' x5 h) m ?_ ?_ g ⟨rfl, rfl, rfl, rfl, rfl, rfl, rfl, rfl, hj⟩
  · intro g env h hi
    obtain ⟨a0', n0', c0', e0', a1', n1', c1', e1', x5, rfl, rfl, rfl, rfl, rfl, rfl, rfl, rfl, rfl, hj⟩ := Zjn hi
    exact Zts Q _ a0 n0 c0 e0 a1 n1 c1 e1 x5 h (hr g x5 h hj (fun a0' n0' c0' e0' a1' n1' c1' e1' x5 h => a0 = a0' ∧ n0 = n0' ∧ c0 = c0' ∧ e0 = e0' ∧ a1 = a1' ∧ n1 = n1' ∧ c1 = c1' ∧ e1 = e1' ∧ ∃ g', m g' < m g ∧ J g' x5 h) fun g' x5 h hlt hj => ⟨rfl, rfl, rfl, rfl, rfl, rfl, rfl, rfl, g', hlt, hj⟩)
  · intro g env h hi
    obtain ⟨a0', n0', c0', e0', a1', n1', c1', e1', x5, rfl, rfl, rfl, rfl, rfl, rfl, rfl, rfl, rfl, g', hlt, hj⟩ := Zjn hi
    exact ⟨g', hlt, rfl, rfl, rfl, rfl, rfl, rfl, rfl, rfl, hj⟩
theorem A4x0i (Q : QT) (h : Zaa) (ht :
 Q (.bool true) h) : Zyk Q h :=
  At.mk (cast (by kernel_rfl) ht)
theorem call (a0 : Pt) (n0 c0 : Nat) (e0 : Bool) (a1 : Pt) (n1 c1 : Nat) (e1 : Bool) (h : Zaa) (Q : QT) (ht :
 bcase (!((((n0 : Nat) : Int) : Int) == (((n1 : Nat) : Int)))) (Q (.bool false) h) (L4 Q a0 n0 c0 e0 a1 n1 c1 e1 0 h)) : Zad pg Zkm [.slice a0 n0 c0 e0, .slice a1 n1 c1 e1] h Q :=
  Zad.of_body kp (c := cod fn) (fn := fn) Go.Proofs.Tryz.func42 (by kernel_rfl) (by kernel_rfl) (Nat.le_of_ble_eq_true (by kernel_rfl))
    (cast (by kernel_rfl) ht)
end Zgg
end Go.Sim

set_option maxRecDepth 100000
set_option linter.unusedVariables false
namespace Go.Sim
open Go Go.RowKit
end Go.Sim

set_option maxRecDepth 100000
set_option linter.unusedVariables false
namespace Go.Sim
open Go Go.RowKit
namespace Ziv
noncomputable abbrev fn : Func := Go.Proofs.Tryz.f59
def kp : Zcf := []
noncomputable def C (p : List Nat) : Code := (cod fn).sub p
def KR (Q : QT) : KT := Zey pg fn.results.toList Q
theorem call (x0x0 x0x1 : List Nat) (a0x2 : Pt) (n0x2 c0x2 : Nat) (e0x2 : Bool) (v1 : Zan) (h : Zaa) (Q : QT) (ht :
 Zdb (h ++ [.cells Zal [.str x0x0, .str x0x1, .slice a0x2 n0x2 c0x2 e0x2] false]) fun H0 => Zcx (Zbp H0 (v1) 2) fun K1 => Zaj K1 fun C2 Z3 => xSl (some C2) fun A4 N5 C6 E7 => Zaj Z3 fun C8 Z9 => xSl (some C8) fun A10 N11 C12 E13 => Zcg Z9 (Zcx (Zbp H0 (.ptr (some (h.length, 0))) 3) fun K14 => Zaj K14 fun C15 Z16 => Zbo (some C15) fun S17 => Zaj Z16 fun C18 Z19 => Zbo (some C18) fun S20 => Zaj Z19 fun C21 Z22 => xSl (some C21) fun A23 N24 C25 E26 => Zcg Z22 (Zad pg Zha [.agg [.slice A4 N5 C6 E7, .slice A10 N11 C12 E13], .agg [.str S17, .str S20, .slice A23 N24 C25 E26]] H0 fun V27 H28 =>
 Zbx (some V27) fun B29 => Q (.bool (!B29)) H28))) : Zad pg Zbu [.agg [.str x0x0, .str x0x1, .slice a0x2 n0x2 c0x2 e0x2], v1] h Q :=
  Zad.of_body kp (c := cod fn) (fn := fn) Go.Proofs.Tryz.func59 (by kernel_rfl) (by kernel_rfl) (Nat.le_of_ble_eq_true (by kernel_rfl))
    (cast (by kernel_rfl) ht)
end Ziv
namespace Zba
noncomputable abbrev fn : Func := Go.Proofs.Tryz.f101
def kp : Zcf := [(3000002, [4]), (1000002, [0, 1, 7, 8])]
noncomputable def C (p : List Nat) : Code := (cod fn).sub p
def KR (Q : QT) : KT := Zey pg fn.results.toList Q
abbrev T2 := Pt → Nat → Nat → Bool → Zan → Int → Int → Zaa → Prop
def E2 (R2 : T2) (env : Env) (h : Zaa) : Prop := Zcc 0 env fun v env => xSl (some v) fun a0 n0 c0 e0 => Zcc 1 env fun v env => eFn Zbu v fun cs => Zaj cs fun c cs' => Zyl (some c) fun v1x0 => Zcg cs' (Zcc 7 env fun v env => Zeo .i64 v fun x7 => Zcc 8 env fun v env => Zeo .i64 v fun x8 => Zkg env (R2 a0 n0 c0 e0 v1x0 x7 x8 h))
theorem Zet {R2 : T2} {env : Env} {h : Zaa} (hi : E2 R2 env h) : ∃ a0, ∃ n0, ∃ c0, ∃ e0, ∃ v1x0, ∃ x7, ∃ x8, env = [(0, .slice a0 n0 c0 e0), (1, .fn Zbu [v1x0]), (7, .int .i64 x7), (8, .int .i64 x8)] ∧ R2 a0 n0 c0 e0 v1x0 x7 x8 h := by
  unfold E2 at hi
  have hi0 := hi
  clear hi
  obtain ⟨_, _, rfl, hi1⟩ := Zab hi0
  obtain ⟨a0, n0, c0, e0, rfl, hi2⟩ := Zbl hi1
  obtain ⟨_, _, rfl, hi3⟩ := Zab hi2
  obtain ⟨cs, rfl, hi4⟩ := Ybk hi3
  obtain ⟨c, cs', rfl, hi5⟩ := Zvp hi4
  obtain ⟨v1x0, hx, hi6⟩ := Znr hi5
  replace hx := (Option.some.inj hx).symm
  subst hx
  obtain ⟨rfl, hi7⟩ := Zzb hi6
  obtain ⟨_, _, rfl, hi8⟩ := Zab hi7
  obtain ⟨x7, rfl, hi9⟩ := Zaw hi8
  obtain ⟨_, _, rfl, hi10⟩ := Zab hi9
  obtain ⟨x8, rfl, hi11⟩ := Zaw hi10
  obtain ⟨rfl, hi12⟩ := Zbn hi11
  have hi := hi12
  exact ⟨a0, n0, c0, e0, v1x0, x7, x8, rfl, hi⟩
def K0 (Q : QT) : KT := andThen (fun env' h' => (match kp.find 4000007 with | some ks => Den pg fn.ntmps (C [1, 1]) (env'.keep ks) h' (KR Q) | none => den pg fn.ntmps kp (C [1, 1]) env' h' (KR Q))) (KR Q)
def K1 (Q : QT) : KT := Zcr 0 (K0 Q)
def K2 (Q : QT) : KT := left kp 2 (K1 Q)
def K3 (Q : QT) (R2 : T2) : KT := rnd ((kp.find 1000002).getD []) (E2 R2) (K2 Q)
def L2 (Q : QT) (a0 : Pt) (n0 c0 : Nat) (e0 : Bool) (v1x0 : Zan) (x7 x8 : Int) (h : Zaa) : Prop := Zeg (Den pg fn.ntmps (C [1, 0, 1, 0, 0])) ((kp.find 1000002).getD []) (K2 Q) [(0, .slice a0 n0 c0 e0), (1, .fn Zbu [v1x0]), (7, .int .i64 x7), (8, .int .i64 x8)] h
def Zpx (Q : QT) (h : Zaa) : Prop := At (K1 Q) (.exit 0) [(4, .undef)] h
def L2t (Q : QT) (R2 : T2) (a0 : Pt) (n0 c0 : Nat) (e0 : Bool) (v1x0 : Zan) (x7 x8 : Int) (h : Zaa) : Prop :=
 bcase (decide ((x8 : Int) < x7)) ((0 ≤ (x8 : Int) ∧ (x8 : Int) < (n0 : Nat)) ∧ (Zbi a0 fun I0 O1 => Zcx (Zbp h (.ptr (some (I0, O1 + (Int.toNat x8) * 3))) 3) fun K2 => Zaj K2 fun C3 Z4 => Zbo (some C3) fun S5 => Zaj Z4 fun C6 Z7 => Zbo (some C6) fun S8 => Zaj Z7 fun C9 Z10 => xSl (some C9) fun A11 N12 C13 E14 => Zcg Z10 (Zad pg Zbu [.agg [.str S5, .str S8, .slice A11 N12 C13 E14], v1x0] h fun V15 H16 =>
 Zbx (some V15) fun B17 => bcase B17 (Q (.int .i64 x8) H16) (R2 a0 n0 c0 e0 v1x0 x7 (IntKind.wrap .i64 (x8 + 1)) H16)))) (Zpx Q h)
theorem Zmy (Q : QT) (R2 : T2) (a0 : Pt) (n0 c0 : Nat) (e0 : Bool) (v1x0 : Zan) (x7 x8 : Int) (h : Zaa) (ht : L2t Q R2 a0 n0 c0 e0 v1x0 x7 x8 h) : Den pg fn.ntmps (C [1, 0, 1, 0, 0]) [(0, .slice a0 n0 c0 e0), (1, .fn Zbu [v1x0]), (7, .int .i64 x7), (8, .int .i64 x8)] h (K3 Q R2) :=
  Zbc (kp := kp) (cast (by kernel_rfl) ht)
theorem L2ind (Q : QT) (a0 : Pt) (n0 c0 : Nat) (e0 : Bool) (v1x0 : Zan) (x7 : Int) {G : Type} (J : G → Int → Zaa → Prop) (m : G → Nat)
 (hr : ∀ (g : G) (x8 : Int) (h : Zaa), J g x8 h → ∀ (R2 : T2), (∀ g' (x8 : Int) (h : Zaa), m g' < m g → J g' x8 h → R2 a0 n0 c0 e0 v1x0 x7 x8 h) → L2t Q R2 a0 n0 c0 e0 v1x0 x7 x8 h)
 (g : G) (x8 : Int) (h : Zaa) (hj : J g x8 h) : L2 Q a0 n0 c0 e0 v1x0 x7 x8 h := by
  refine Zeg.inv2 (fun g => E2 fun a0' n0' c0' e0' v1x0' x7' x8 h => a0 = a0' ∧ n0 = n0' ∧ c0 = c0' ∧ e0 = e0' ∧ v1x0 = v1x0' ∧ x7 = x7' ∧ J g x8 h) (fun g => E2 fun a0' n0' c0' e0' v1x0' x7' x8 h => a0 = a0' ∧ n0 = n0' ∧ c0 = c0' ∧ e0 = e0' ∧ v1x0 = v1x0' ∧ x7 = x7' ∧ ∃ g', m g' < m g ∧ J g' x8 h) m ?_ ?_ g ⟨rfl, rfl, rfl, rfl, rfl, rfl, hj⟩
  · intro g env h hi
    obtain ⟨a0', n0', c0', e0', v1x0', x7', x8, rfl, rfl, rfl, rfl, rfl, rfl, rfl, hj⟩ := Zet hi
    exact Zmy Q _ a0 n0 c0 e0 v1x0 x7 x8 h (hr g x8 h hj (fun a0' n0' c0' e0' v1x0' x7' x8 h => a0 = a0' ∧ n0 = n0' ∧ c0 = c0' ∧ e0 = e0' ∧ v1x0 = v1x0' ∧ x7 = x7' ∧ ∃ g', m g' < m g ∧ J g' x8 h) fun g' x8 h hlt hj => ⟨rfl, rfl, rfl, rfl, rfl, rfl, g', hlt, hj⟩)
  · intro g env h hi
    obtain ⟨a0', n0', c0', e0', v1x0', x7', x8, rfl, rfl, rfl, rfl, rfl, rfl, rfl, g', hlt, hj⟩ := Zet hi
    exact ⟨g', hlt, rfl, rfl, rfl, rfl, rfl, rfl, hj⟩
theorem A2x0i (Q : QT) (h : Zaa) (ht :
 Q (.int .i64 (-1)) h) : Zpx Q h :=
  At.mk (cast (by kernel_rfl) ht)
theorem call (a0 : Pt) (n0 c0 : Nat) (e0 : Bool) (v1x0 : Zan) (h : Zaa) (Q : QT) (ht :
 L2 Q a0 n0 c0 e0 v1x0 (((n0 : Nat) : Int)) 0 h) : Zad pg Zcn [.slice a0 n0 c0 e0, .fn Zbu [v1x0]] h Q :=
  Zad.of_body kp (c := cod fn) (fn := fn) Go.Proofs.Tryz.func101 (by kernel_rfl) (by kernel_rfl) (Nat.le_of_ble_eq_true (by kernel_rfl))
    (cast (by kernel_rfl) ht)
end Zba
namespace Zmf
noncomputable abbrev fn : Func := Go.Proofs.Tryz.f22
def kp : Zcf := []
noncomputable def C (p : List Nat) : Code := (cod fn).sub p
def KR (Q : QT) : KT := Zey pg fn.results.toList Q
theorem call (a0x0 : Pt) (n0x0 c0x0 : Nat) (e0x0 : Bool) (a0x1 : Pt) (n0x1 c0x1 : Nat) (e0x1 : Bool) (h : Zaa) (Q : QT) (ht :
 Zdb (h ++ [.cells Zam [.slice a0x0 n0x0 c0x0 e0x0, .slice a0x1 n0x1 c0x1 e0x1] false]) fun H0 => Zcx (Zbp H0 (.ptr (some (h.length, 0))) 2) fun K1 => Zaj K1 fun C2 Z3 => xSl (some C2) fun A4 N5 C6 E7 => Zaj Z3 fun C8 Z9 => xSl (some C8) fun A10 N11 C12 E13 => Zcg Z9 (Zad pg Zho [.agg [.slice A4 N5 C6 E7, .slice A10 N11 C12 E13]] H0 fun V14 H15 =>
 Zbx (some V14) fun B16 => bcase B16 (xSl (Zae H15 (.ptr (some (h.length, 0 + 1)))) fun A17 N18 C19 E20 => bcase (decide (((((N18 : Nat) : Int)) : Int) ≤ 10)) (xSl (Zae H15 (.ptr (some (h.length, 0 + 1)))) fun A21 N22 C23 E24 => Zad pg Zdc [.slice A21 N22 C23 E24, .fn Zbu [.ptr (some (h.length, 0))]] H15 fun V25 H26 =>
 Zbx (some V25) fun B27 => Q (.bool (!B27)) H26) (Q (.bool false) H15)) (Q (.bool false) H15))) : Zad pg Ziz [.agg [.slice a0x0 n0x0 c0x0 e0x0, .slice a0x1 n0x1 c0x1 e0x1]] h Q :=
  Zad.of_body kp (c := cod fn) (fn := fn) Go.Proofs.Tryz.func22 (by kernel_rfl) (by kernel_rfl) (Nat.le_of_ble_eq_true (by kernel_rfl))
    (cast (by kernel_rfl) ht)
end Zmf
namespace Zcd
noncomputable abbrev fn : Func := Go.Proofs.Tryz.f58
def kp : Zcf := []
noncomputable def C (p : List Nat) : Code := (cod fn).sub p
def KR (Q : QT) : KT := Zey pg fn.results.toList Q
theorem call (a0 : Pt) (n0 c0 : Nat) (e0 : Bool) (v1x0 : Zan) (h : Zaa) (Q : QT) (ht :
 Zad pg Zcn [.slice a0 n0 c0 e0, .fn Zbu [v1x0]] h fun V0 H1 =>
 Zdd .i64 (some V0) fun X2 => Q (.bool (decide ((X2 : Int) ≥ 0))) H1) : Zad pg Zdc [.slice a0 n0 c0 e0, .fn Zbu [v1x0]] h Q :=
  Zad.of_body kp (c := cod fn) (fn := fn) Go.Proofs.Tryz.func58 (by kernel_rfl) (by kernel_rfl) (Nat.le_of_ble_eq_true (by kernel_rfl))
    (cast (by kernel_rfl) ht)
end Zcd
namespace Zfd
noncomputable abbrev fn : Func := Go.Proofs.Tryz.f54
def kp : Zcf := [(3000002, [1, 2]), (1000002, [1, 6, 7, 8])]
noncomputable def C (p : List Nat) : Code := (cod fn).sub p
def KR (Q : QT) : KT := Zey pg fn.results.toList Q
abbrev T2 := Nat → Nat → Pt → Nat → Nat → Bool → Int → Int → Zaa → Prop
def E2 (R2 : T2) (env : Env) (h : Zaa) : Prop := Zcc 1 env fun v env => Zis (some v) fun a => Zbi a fun i1 o1 => Zcc 6 env fun v env => xSl (some v) fun a6 n6 c6 e6 => Zcc 7 env fun v env => Zeo .i64 v fun x7 => Zcc 8 env fun v env => Zeo .i64 v fun x8 => Zkg env (R2 i1 o1 a6 n6 c6 e6 x7 x8 h)
theorem Zet {R2 : T2} {env : Env} {h : Zaa} (hi : E2 R2 env h) : ∃ i1, ∃ o1, ∃ a6, ∃ n6, ∃ c6, ∃ e6, ∃ x7, ∃ x8, env = [(1, .ptr (some (i1, o1))), (6, .slice a6 n6 c6 e6), (7, .int .i64 x7), (8, .int .i64 x8)] ∧ R2 i1 o1 a6 n6 c6 e6 x7 x8 h := by
  unfold E2 at hi
  have hi0 := hi
  clear hi
  obtain ⟨_, _, rfl, hi1⟩ := Zab hi0
  obtain ⟨a, rfl, hi2⟩ := Zby hi1
  obtain ⟨i1, o1, rfl, hi3⟩ := Zbw hi2
  obtain ⟨_, _, rfl, hi4⟩ := Zab hi3
  obtain ⟨a6, n6, c6, e6, rfl, hi5⟩ := Zbl hi4
  obtain ⟨_, _, rfl, hi6⟩ := Zab hi5
  obtain ⟨x7, rfl, hi7⟩ := Zaw hi6
  obtain ⟨_, _, rfl, hi8⟩ := Zab hi7
  obtain ⟨x8, rfl, hi9⟩ := Zaw hi8
  obtain ⟨rfl, hi10⟩ := Zbn hi9
  have hi := hi10
  exact ⟨i1, o1, a6, n6, c6, e6, x7, x8, rfl, hi⟩
def K0 (Q : QT) : KT := andThen (fun env' h' => (match kp.find 4000007 with | some ks => Den pg fn.ntmps (C [1, 1]) (env'.keep ks) h' (KR Q) | none => den pg fn.ntmps kp (C [1, 1]) env' h' (KR Q))) (KR Q)
def K1 (Q : QT) : KT := Zcr 0 (K0 Q)
def K2 (Q : QT) : KT := left kp 2 (K1 Q)
def K3 (Q : QT) (R2 : T2) : KT := rnd ((kp.find 1000002).getD []) (E2 R2) (K2 Q)
def L2 (Q : QT) (i1 o1 : Nat) (a6 : Pt) (n6 c6 : Nat) (e6 : Bool) (x7 x8 : Int) (h : Zaa) : Prop := Zeg (Den pg fn.ntmps (C [1, 0, 1, 0, 0])) ((kp.find 1000002).getD []) (K2 Q) [(1, .ptr (some (i1, o1))), (6, .slice a6 n6 c6 e6), (7, .int .i64 x7), (8, .int .i64 x8)] h
def Zpx (Q : QT) (i1 o1 : Nat) (h : Zaa) : Prop := At (K1 Q) (.exit 0) [(1, .ptr (some (i1, o1))), (2, .undef)] h
def L2t (Q : QT) (R2 : T2) (i1 o1 : Nat) (a6 : Pt) (n6 c6 : Nat) (e6 : Bool) (x7 x8 : Int) (h : Zaa) : Prop :=
 bcase (decide ((x8 : Int) < x7)) ((0 ≤ (x8 : Int) ∧ (x8 : Int) < (n6 : Nat)) ∧ (Zbi a6 fun I5 O6 => Zcx (Zbp h (.ptr (some (I5, O6 + (Int.toNat x8) * 3))) 3) fun K7 => Zaj K7 fun C8 Z9 => Zbo (some C8) fun S10 => Zaj Z9 fun C11 Z12 => Zbo (some C11) fun S13 => Zaj Z12 fun C14 Z15 => xSl (some C14) fun A16 N17 C18 E19 => Zcg Z15 (Zdb (h ++ [.cells Zal [.str [], .str [], .slice none 0 0 true] false]) fun H20 => Zcb (Zbd H20 (.ptr (some (h.length, 0))) [.str S10, .str S13, .slice A16 N17 C18 E19]) fun H21 => Zcx (Zbp H21 (.ptr (some (i1, o1))) 2) fun K22 => Zaj K22 fun C23 Z24 => xSl (some C23) fun A25 N26 C27 E28 => Zaj Z24 fun C29 Z30 => xSl (some C29) fun A31 N32 C33 E34 => Zcg Z30 (Zcx (Zbp H21 (.ptr (some (h.length, 0))) 3) fun K35 => Zaj K35 fun C36 Z37 => Zbo (some C36) fun S38 => Zaj Z37 fun C39 Z40 => Zbo (some C39) fun S41 => Zaj Z40 fun C42 Z43 => xSl (some C42) fun A44 N45 C46 E47 => Zcg Z43 (Zad pg Zhb [.agg [.slice A25 N26 C27 E28, .slice A31 N32 C33 E34], .agg [.str S38, .str S41, .slice A44 N45 C46 E47]] H21 fun V48 H49 =>
 Zbx (some V48) fun B50 => bcase (!B50) (Q (.bool false) H49) (R2 i1 o1 a6 n6 c6 e6 x7 (IntKind.wrap .i64 (x8 + 1)) H49)))))) (Zpx Q i1 o1 h)
theorem Zmy (Q : QT) (R2 : T2) (i1 o1 : Nat) (a6 : Pt) (n6 c6 : Nat) (e6 : Bool) (x7 x8 : Int) (h : Zaa) (ht : L2t Q R2 i1 o1 a6 n6 c6 e6 x7 x8 h) : Den pg fn.ntmps (C [1, 0, 1, 0, 0]) [(1, .ptr (some (i1, o1))), (6, .slice a6 n6 c6 e6), (7, .int .i64 x7), (8, .int .i64 x8)] h (K3 Q R2) :=
  Zbc (kp := kp) (cast (by kernel_rfl) ht)
theorem L2ind (Q : QT) (i1 o1 : Nat) (a6 : Pt) (n6 c6 : Nat) (e6 : Bool) (x7 : Int) {G : Type} (J : G → Int → Zaa → Prop) (m : G → Nat)
 (hr : ∀ (g : G) (x8 : Int) (h : Zaa), J g x8 h → ∀ (R2 : T2), (∀ g' (x8 : Int) (h : Zaa), m g' < m g → J g' x8 h → R2 i1 o1 a6 n6 c6 e6 x7 x8 h) → L2t Q R2 i1 o1 a6 n6 c6 e6 x7 x8 h)
 (g : G) (x8 : Int) (h : Zaa) (hj : J g x8 h) : L2 Q i1 o1 a6 n6 c6 e6 x7 x8 h := by
  refine Zeg.inv2 (fun g => E2 fun i1' o1' a6' n6' c6' e6' x7' x8 h => i1 = i1' ∧ o1 = o1' ∧ a6 = a6' ∧ n6 = n6' ∧ c6 = c6' ∧ e6 = e6' ∧ x7 = x7' ∧ J g x8 h) (fun g => E2 fun i1' o1' a6' n6' c6' e6' x7' x8 h => i1 = i1' ∧ o1 = o1' ∧ a6 = a6' ∧ n6 = n6' ∧ c6 = c6' ∧ e6 = e6' ∧ x7 = x7' ∧ ∃ g', m g' < m g ∧ J g' x8 h) m ?_ ?_ g ⟨rfl, rfl, rfl, rfl, rfl, rfl, rfl, hj⟩
  · intro g env h hi
    obtain ⟨i1', o1', a6', n6', c6', e6', x7', x8, rfl, rfl, rfl, rfl, rfl, rfl, rfl, rfl, hj⟩ := Zet hi
    exact Zmy Q _ i1 o1 a6 n6 c6 e6 x7 x8 h (hr g x8 h hj (fun i1' o1' a6' n6' c6' e6' x7' x8 h => i1 = i1' ∧ o1 = o1' ∧ a6 = a6' ∧ n6 = n6' ∧ c6 = c6' ∧ e6 = e6' ∧ x7 = x7' ∧ ∃ g', m g' < m g ∧ J g' x8 h) fun g' x8 h hlt hj => ⟨rfl, rfl, rfl, rfl, rfl, rfl, rfl, g', hlt, hj⟩)
  · intro g env h hi
    obtain ⟨i1', o1', a6', n6', c6', e6', x7', x8, rfl, rfl, rfl, rfl, rfl, rfl, rfl, rfl, g', hlt, hj⟩ := Zet hi
    exact ⟨g', hlt, rfl, rfl, rfl, rfl, rfl, rfl, rfl, hj⟩
theorem A2x0i (Q : QT) (i1 o1 : Nat) (h : Zaa) (ht :
 xSl (Zae h (.ptr (some (i1, o1 + 0)))) fun A51 N52 C53 E54 => Zad pg Zht [.slice A51 N52 C53 E54] h fun V55 H56 =>
 Zbx (some V55) fun B57 => bcase B57 (xSl (Zae H56 (.ptr (some (i1, o1 + 1)))) fun A58 N59 C60 E61 => Q (.bool (decide (((((N59 : Nat) : Int)) : Int) ≤ 10))) H56) (Q (.bool false) H56)) : Zpx Q i1 o1 h :=
  At.mk (cast (by kernel_rfl) ht)
theorem call (a0x0 : Pt) (n0x0 c0x0 : Nat) (e0x0 : Bool) (a0x1 : Pt) (n0x1 c0x1 : Nat) (e0x1 : Bool) (h : Zaa) (Q : QT) (ht :
 Zdb (h ++ [.cells Zam [.slice a0x0 n0x0 c0x0 e0x0, .slice a0x1 n0x1 c0x1 e0x1] false]) fun H0 => xSl (Zae H0 (.ptr (some (h.length, 0 + 1)))) fun A1 N2 C3 E4 => L2 Q h.length 0 A1 N2 C3 E4 (((N2 : Nat) : Int)) 0 H0) : Zad pg Zjb [.agg [.slice a0x0 n0x0 c0x0 e0x0, .slice a0x1 n0x1 c0x1 e0x1]] h Q :=
  Zad.of_body kp (c := cod fn) (fn := fn) Go.Proofs.Tryz.func54 (by kernel_rfl) (by kernel_rfl) (Nat.le_of_ble_eq_true (by kernel_rfl))
    (cast (by kernel_rfl) ht)
end Zfd
namespace Zqj
noncomputable abbrev fn : Func := Go.Proofs.Tryz.f47
def kp : Zcf := []
noncomputable def C (p : List Nat) : Code := (cod fn).sub p
def KR (Q : QT) : KT := Zey pg fn.results.toList Q
theorem call (a0x0 : Pt) (n0x0 c0x0 : Nat) (e0x0 : Bool) (a0x1 : Pt) (n0x1 c0x1 : Nat) (e0x1 : Bool) (x1x0 x1x1 : List Nat) (h : Zaa) (Q : QT) (ht :
 Zdb (h ++ [.cells Zam [.slice a0x0 n0x0 c0x0 e0x0, .slice a0x1 n0x1 c0x1 e0x1] false]) fun H0 => Zdb (H0 ++ [.cells Zar [.str x1x0, .str x1x1] false]) fun H1 => xSl (Zae H1 (.ptr (some (h.length, 0 + 0)))) fun A2 N3 C4 E5 => Zbo (Zae H1 (.ptr (some (H0.length, 0 + 0)))) fun S6 => Zad pg Zhx [.slice A2 N3 C4 E5, .str S6] H1 fun V7 H8 =>
 Zbx (some V7) fun B9 => bcase B9 (Zbo (Zae H8 (.ptr (some (H0.length, 0 + 1)))) fun S10 => Zad pg Zec [.str S10] H8 fun V11 H12 =>
 Zbx (some V11) fun B13 => Q (.bool B13) H12) (Q (.bool false) H8)) : Zad pg Zmw [.agg [.slice a0x0 n0x0 c0x0 e0x0, .slice a0x1 n0x1 c0x1 e0x1], .agg [.str x1x0, .str x1x1]] h Q :=
  Zad.of_body kp (c := cod fn) (fn := fn) Go.Proofs.Tryz.func47 (by kernel_rfl) (by kernel_rfl) (Nat.le_of_ble_eq_true (by kernel_rfl))
    (cast (by kernel_rfl) ht)
end Zqj
namespace Zql
noncomputable abbrev fn : Func := Go.Proofs.Tryz.f77
def kp : Zcf := []
noncomputable def C (p : List Nat) : Code := (cod fn).sub p
def KR (Q : QT) : KT := Zey pg fn.results.toList Q
theorem call (a0x0 : Pt) (n0x0 c0x0 : Nat) (e0x0 : Bool) (a0x1 : Pt) (n0x1 c0x1 : Nat) (e0x1 : Bool) (x1x0 x1x1 : List Nat) (h : Zaa) (Q : QT) (ht :
 Zdb (h ++ [.cells Zam [.slice a0x0 n0x0 c0x0 e0x0, .slice a0x1 n0x1 c0x1 e0x1] false]) fun H0 => Zdb (H0 ++ [.cells Zar [.str x1x0, .str x1x1] false]) fun H1 => Zcx (Zbp H1 (.ptr (some (h.length, 0))) 2) fun K2 => Zaj K2 fun C3 Z4 => xSl (some C3) fun A5 N6 C7 E8 => Zaj Z4 fun C9 Z10 => xSl (some C9) fun A11 N12 C13 E14 => Zcg Z10 (Zbo (Zae H1 (.ptr (some (H0.length, 0 + 0)))) fun S15 => Zad pg Zfv [.agg [.slice A5 N6 C7 E8, .slice A11 N12 C13 E14], .str S15] H1 fun V16 H17 =>
 Zdd .i64 (some V16) fun X18 => bcase (decide ((X18 : Int) ≥ 0)) (Zbo (Zae H17 (.ptr (some (H0.length, 0 + 1)))) fun S19 => Zad pg Zeb [.str S19] H17 fun V20 H21 =>
 Zbx (some V20) fun B22 => Q (.bool B22) H21) (Q (.bool false) H17))) : Zad pg Znc [.agg [.slice a0x0 n0x0 c0x0 e0x0, .slice a0x1 n0x1 c0x1 e0x1], .agg [.str x1x0, .str x1x1]] h Q :=
  Zad.of_body kp (c := cod fn) (fn := fn) Go.Proofs.Tryz.func77 (by kernel_rfl) (by kernel_rfl) (Nat.le_of_ble_eq_true (by kernel_rfl))
    (cast (by kernel_rfl) ht)
end Zql
namespace Znj
noncomputable abbrev fn : Func := Go.Proofs.Tryz.f35
def kp : Zcf := []
noncomputable def C (p : List Nat) : Code := (cod fn).sub p
def KR (Q : QT) : KT := Zey pg fn.results.toList Q
theorem call (a0x0 : Pt) (n0x0 c0x0 : Nat) (e0x0 : Bool) (a0x1 : Pt) (n0x1 c0x1 : Nat) (e0x1 : Bool) (x1x0 x1x1 : List Nat) (h : Zaa) (Q : QT) (ht :
 Zdb (h ++ [.cells Zam [.slice a0x0 n0x0 c0x0 e0x0, .slice a0x1 n0x1 c0x1 e0x1] false]) fun H0 => Zdb (H0 ++ [.cells Zar [.str x1x0, .str x1x1] false]) fun H1 => Zcx (Zbp H1 (.ptr (some (h.length, 0))) 2) fun K2 => Zaj K2 fun C3 Z4 => xSl (some C3) fun A5 N6 C7 E8 => Zaj Z4 fun C9 Z10 => xSl (some C9) fun A11 N12 C13 E14 => Zcg Z10 (Zad pg Zjb [.agg [.slice A5 N6 C7 E8, .slice A11 N12 C13 E14]] H1 fun V15 H16 =>
 Zbx (some V15) fun B17 => bcase B17 (Zcx (Zbp H16 (.ptr (some (h.length, 0))) 2) fun K18 => Zaj K18 fun C19 Z20 => xSl (some C19) fun A21 N22 C23 E24 => Zaj Z20 fun C25 Z26 => xSl (some C25) fun A27 N28 C29 E30 => Zcg Z26 (Zcx (Zbp H16 (.ptr (some (H0.length, 0))) 2) fun K31 => Zaj K31 fun C32 Z33 => Zbo (some C32) fun S34 => Zaj Z33 fun C35 Z36 => Zbo (some C35) fun S37 => Zcg Z36 (Zad pg Znc [.agg [.slice A21 N22 C23 E24, .slice A27 N28 C29 E30], .agg [.str S34, .str S37]] H16 fun V38 H39 =>
 Zbx (some V38) fun B40 => Q (.bool B40) H39))) (Q (.bool false) H16))) : Zad pg Zjt [.agg [.slice a0x0 n0x0 c0x0 e0x0, .slice a0x1 n0x1 c0x1 e0x1], .agg [.str x1x0, .str x1x1]] h Q :=
  Zad.of_body kp (c := cod fn) (fn := fn) Go.Proofs.Tryz.func35 (by kernel_rfl) (by kernel_rfl) (Nat.le_of_ble_eq_true (by kernel_rfl))
    (cast (by kernel_rfl) ht)
end Znj
end Go.Sim

set_option maxRecDepth 100000
set_option linter.unusedVariables false
namespace Go.Sim
open Go Go.RowKit
namespace Zdh
noncomputable abbrev fn : Func := Go.Proofs.Tryz.f98
def kp : Zcf := [(4000003, [3, 2]), (3000004, [4]), (1000004, [2, 3, 47, 48, 49]), (2000006, [80, 49, 48, 47, 2, 3]), (4000008, [49, 48, 47, 2, 3])]
noncomputable def C (p : List Nat) : Code := (cod fn).sub p
def KR (Q : QT) : KT := Zey pg fn.results.toList Q
abbrev T4 := Nat → Nat → Nat → Nat → Pt → Nat → Nat → Bool → Int → Int → Zaa → Prop
def E4 (R4 : T4) (env : Env) (h : Zaa) : Prop := Zcc 2 env fun v env => Zis (some v) fun a => Zbi a fun i2 o2 => Zcc 3 env fun v env => Zis (some v) fun a => Zbi a fun i3 o3 => Zcc 47 env fun v env => xSl (some v) fun a47 n47 c47 e47 => Zcc 48 env fun v env => Zeo .i64 v fun x48 => Zcc 49 env fun v env => Zeo .i64 v fun x49 => Zkg env (R4 i2 o2 i3 o3 a47 n47 c47 e47 x48 x49 h)
theorem Zjn {R4 : T4} {env : Env} {h : Zaa} (hi : E4 R4 env h) : ∃ i2, ∃ o2, ∃ i3, ∃ o3, ∃ a47, ∃ n47, ∃ c47, ∃ e47, ∃ x48, ∃ x49, env = [(2, .ptr (some (i2, o2))), (3, .ptr (some (i3, o3))), (47, .slice a47 n47 c47 e47), (48, .int .i64 x48), (49, .int .i64 x49)] ∧ R4 i2 o2 i3 o3 a47 n47 c47 e47 x48 x49 h := by
  unfold E4 at hi
  have hi0 := hi
  clear hi
  obtain ⟨_, _, rfl, hi1⟩ := Zab hi0
  obtain ⟨a, rfl, hi2⟩ := Zby hi1
  obtain ⟨i2, o2, rfl, hi3⟩ := Zbw hi2
  obtain ⟨_, _, rfl, hi4⟩ := Zab hi3
  obtain ⟨a, rfl, hi5⟩ := Zby hi4
  obtain ⟨i3, o3, rfl, hi6⟩ := Zbw hi5
  obtain ⟨_, _, rfl, hi7⟩ := Zab hi6
  obtain ⟨a47, n47, c47, e47, rfl, hi8⟩ := Zbl hi7
  obtain ⟨_, _, rfl, hi9⟩ := Zab hi8
  obtain ⟨x48, rfl, hi10⟩ := Zaw hi9
  obtain ⟨_, _, rfl, hi11⟩ := Zab hi10
  obtain ⟨x49, rfl, hi12⟩ := Zaw hi11
  obtain ⟨rfl, hi13⟩ := Zbn hi12
  have hi := hi13
  exact ⟨i2, o2, i3, o3, a47, n47, c47, e47, x48, x49, rfl, hi⟩
def K0 (Q : QT) : KT := andThen (fun env' h' => (match kp.find 4000009 with | some ks => Den pg fn.ntmps (C [1, 1, 1]) (env'.keep ks) h' (KR Q) | none => den pg fn.ntmps kp (C [1, 1, 1]) env' h' (KR Q))) (KR Q)
def K1 (Q : QT) : KT := Zcr 0 (K0 Q)
def K2 (Q : QT) : KT := left kp 4 (K1 Q)
def K3 (Q : QT) (R4 : T4) : KT := rnd ((kp.find 1000004).getD []) (E4 R4) (K2 Q)
def J3 (Q : QT) (i3 o3 i2 o2 : Nat) (h : Zaa) : Prop := Den pg fn.ntmps (C [1, 1]) [(3, .ptr (some (i3, o3))), (2, .ptr (some (i2, o2)))] h (KR Q)
def L4 (Q : QT) (i2 o2 i3 o3 : Nat) (a47 : Pt) (n47 c47 : Nat) (e47 : Bool) (x48 x49 : Int) (h : Zaa) : Prop := Zeg (Den pg fn.ntmps (C [1, 1, 0, 1, 0, 0])) ((kp.find 1000004).getD []) (K2 Q) [(2, .ptr (some (i2, o2))), (3, .ptr (some (i3, o3))), (47, .slice a47 n47 c47 e47), (48, .int .i64 x48), (49, .int .i64 x49)] h
def J8 (Q : QT) (R4 : T4) (x49 x48 : Int) (a47 : Pt) (n47 c47 : Nat) (e47 : Bool) (i2 o2 i3 o3 : Nat) (h : Zaa) : Prop := Den pg fn.ntmps (C [1, 1, 0, 1, 0, 0, 1, 1, 1]) [(49, .int .i64 x49), (48, .int .i64 x48), (47, .slice a47 n47 c47 e47), (2, .ptr (some (i2, o2))), (3, .ptr (some (i3, o3)))] h (K3 Q R4)
def Zyk (Q : QT) (h : Zaa) : Prop := At (K1 Q) (.exit 0) [(4, .undef)] h
theorem J3i (Q : QT) (i3 o3 i2 o2 : Nat) (h : Zaa) (ht :
 xSl (Zae h (.ptr (some (i3, o3 + 2)))) fun A40 N41 C42 E43 => L4 Q i2 o2 i3 o3 A40 N41 C42 E43 (((N41 : Nat) : Int)) 0 h) : J3 Q i3 o3 i2 o2 h :=
  Zbc (kp := kp) (cast (by kernel_rfl) ht)
def L4t (Q : QT) (R4 : T4) (i2 o2 i3 o3 : Nat) (a47 : Pt) (n47 c47 : Nat) (e47 : Bool) (x48 x49 : Int) (h : Zaa) : Prop :=
 bcase (decide ((x49 : Int) < x48)) ((0 ≤ (x49 : Int) ∧ (x49 : Int) < (n47 : Nat)) ∧ (Zbi a47 fun I44 O45 => Zcx (Zbp h (.ptr (some (I44, O45 + (Int.toNat x49) * 2))) 2) fun K46 => Zaj K46 fun C47 Z48 => Zbo (some C47) fun S49 => Zaj Z48 fun C50 Z51 => Zbo (some C50) fun S52 => Zcg Z51 (Zdb (h ++ [.cells Zar [.str [], .str []] false]) fun H53 => Zcb (Zbd H53 (.ptr (some (h.length, 0))) [.str S49, .str S52]) fun H54 => Zcx (Zbp H54 (.ptr (some (i2, o2))) 2) fun K55 => Zaj K55 fun C56 Z57 => xSl (some C56) fun A58 N59 C60 E61 => Zaj Z57 fun C62 Z63 => xSl (some C62) fun A64 N65 C66 E67 => Zcg Z63 (Zbo (Zae H54 (.ptr (some (h.length, 0 + 0)))) fun S68 => (Zbp H54 (.ptr (some (i2, o2))) 2 = Zbp H54 (.ptr (some (i2, o2))) 2) ∧ Zad pg Zfv [.agg [.slice A58 N59 C60 E61, .slice A64 N65 C66 E67], .str S68] H54 fun V69 H70 =>
 Zdd .i64 (some V69) fun X71 => bcase (decide ((X71 : Int) < 0)) ((Zbp H70 (.ptr (some (i2, o2))) 2 = Zbp H70 (.ptr (some (i2, o2))) 2) ∧ (Zbp H70 (.ptr (some (i2, o2))) 2 = Zbp H70 (.ptr (some (i2, o2))) 2) ∧ (Zbp H70 (.ptr (some (i2, o2))) 2 = Zbp H70 (.ptr (some (i2, o2))) 2) ∧ (Zae H70 (.tup []) = Zae H70 (.tup [])) ∧ (Zbp H70 (.ptr (some (i2, o2))) 2 = Zbp H70 (.ptr (some (i2, o2))) 2) ∧ (Zae H70 (.tup []) = Zae H70 (.tup [])) ∧ (Zbp H70 (.ptr (some (i2, o2))) 2 = Zbp H70 (.ptr (some (i2, o2))) 2) ∧ (Zae H70 (.tup []) = Zae H70 (.tup [])) ∧ (Zae H70 (.tup []) = Zae H70 (.tup [])) ∧ (Zbp H70 (.ptr (some (i2, o2))) 2 = Zbp H70 (.ptr (some (i2, o2))) 2) ∧ Q (.bool false) H70) (Zbo (Zae H70 (.ptr (some (h.length, 0 + 1)))) fun S72 => (Zbp H70 (.ptr (some (i2, o2))) 2 = Zbp H70 (.ptr (some (i2, o2))) 2) ∧ Zad pg Zeb [.str S72] H70 fun V73 H74 =>
 Zbx (some V73) fun B75 => (Zbp H74 (.ptr (some (i2, o2))) 2 = Zbp H70 (.ptr (some (i2, o2))) 2) ∧ bcase (!B75) ((Zbp H74 (.ptr (some (i2, o2))) 2 = Zbp H74 (.ptr (some (i2, o2))) 2) ∧ (Zae H74 (.tup []) = Zae H74 (.tup [])) ∧ (Zbp H74 (.ptr (some (i2, o2))) 2 = Zbp H74 (.ptr (some (i2, o2))) 2) ∧ (Zae H74 (.tup []) = Zae H74 (.tup [])) ∧ (Zbp H74 (.ptr (some (i2, o2))) 2 = Zbp H74 (.ptr (some (i2, o2))) 2) ∧ (Zae H74 (.tup []) = Zae H74 (.tup [])) ∧ (Zae H74 (.tup []) = Zae H74 (.tup [])) ∧ (Zbp H74 (.ptr (some (i2, o2))) 2 = Zbp H74 (.ptr (some (i2, o2))) 2) ∧ Q (.bool false) H74) (Zbo (Zae H74 (.ptr (some (h.length, 0 + 1)))) fun S76 => (Zbp H74 (.ptr (some (i2, o2))) 2 = Zbp H74 (.ptr (some (i2, o2))) 2) ∧ bcase (decide (((((List.length S76 : Nat) : Int)) : Int) > 20)) ((Zae H74 (.tup []) = Zae H74 (.tup [])) ∧ (Zbp H74 (.ptr (some (i2, o2))) 2 = Zbp H74 (.ptr (some (i2, o2))) 2) ∧ (Zae H74 (.tup []) = Zae H74 (.tup [])) ∧ (Zbp H74 (.ptr (some (i2, o2))) 2 = Zbp H74 (.ptr (some (i2, o2))) 2) ∧ (Zae H74 (.tup []) = Zae H74 (.tup [])) ∧ (Zae H74 (.tup []) = Zae H74 (.tup [])) ∧ (Zbp H74 (.ptr (some (i2, o2))) 2 = Zbp H74 (.ptr (some (i2, o2))) 2) ∧ Q (.bool false) H74) (Zbo (Zae H74 (.ptr (some (h.length, 0 + 1)))) fun S77 => Zbo (Zae H74 (.ptr (some (i3, o3 + 0 + 1)))) fun S78 => Zad pg Zke [.str S77] H74 fun V79 H80 =>
 Zbo (some V79) fun S81 => (Zae H80 (.ptr (some (i3, o3 + 0 + 1))) = Zae H74 (.ptr (some (i3, o3 + 0 + 1)))) ∧ (Zbp H80 (.ptr (some (i2, o2))) 2 = Zbp H74 (.ptr (some (i2, o2))) 2) ∧ Zad pg Zke [.str S78] H80 fun V82 H83 =>
 Zbo (some V82) fun S84 => (Zae H83 (.ptr (some (h.length, 0 + 1))) = Zae H80 (.ptr (some (h.length, 0 + 1)))) ∧ (Zbp H83 (.ptr (some (i2, o2))) 2 = Zbp H80 (.ptr (some (i2, o2))) 2) ∧ Zad pg Zkn [.str S81, .str S84] H83 fun V85 H86 =>
 Zbx (some V85) fun B87 => (Zae H86 (.ptr (some (i3, o3 + 0 + 1))) = Zae H83 (.ptr (some (i3, o3 + 0 + 1)))) ∧ (Zae H86 (.ptr (some (h.length, 0 + 1))) = Zae H83 (.ptr (some (h.length, 0 + 1)))) ∧ (Zbp H86 (.ptr (some (i2, o2))) 2 = Zbp H83 (.ptr (some (i2, o2))) 2) ∧ bcase (!B87) (Q (.bool false) H86) (J8 Q R4 x49 x48 a47 n47 c47 e47 i2 o2 i3 o3 H86)))))))) (Zyk Q h)
theorem Zts (Q : QT) (R4 : T4) (i2 o2 i3 o3 : Nat) (a47 : Pt) (n47 c47 : Nat) (e47 : Bool) (x48 x49 : Int) (h : Zaa) (ht : L4t Q R4 i2 o2 i3 o3 a47 n47 c47 e47 x48 x49 h) : Den pg fn.ntmps (C [1, 1, 0, 1, 0, 0]) [(2, .ptr (some (i2, o2))), (3, .ptr (some (i3, o3))), (47, .slice a47 n47 c47 e47), (48, .int .i64 x48), (49, .int .i64 x49)] h (K3 Q R4) :=
  Zbc (kp := kp) (cast (by kernel_rfl) ht)
theorem L4ind (Q : QT) (i2 o2 i3 o3 : Nat) (a47 : Pt) (n47 c47 : Nat) (e47 : Bool) (x48 : Int) {G : Type} (J : G → Int → Zaa → Prop) (m : G → Nat)
 (hr : ∀ (g : G) (x49 : Int) (h : Zaa), J g x49 h → ∀ (R4 : T4), (∀ g' (x49 : Int) (h : Zaa), m g' < m g → J g' x49 h → R4 i2 o2 i3 o3 a47 n47 c47 e47 x48 x49 h) → L4t Q R4 i2 o2 i3 o3 a47 n47 c47 e47 x48 x49 h)
 (g : G) (x49 : Int) (h : Zaa) (hj : J g x49 h) : L4 Q i2 o2 i3 o3 a47 n47 c47 e47 x48 x49 h := by
  refine Zeg.inv2 (fun g => E4 fun i2' o2' i3' o3' a47' n47' c47' e47' x48' x49 h => i2 = i2' ∧ o2 = o2' ∧ i3 = i3' ∧ o3 = o3' ∧ a47 = a47' ∧ n47 = n47' ∧ c47 = c47' ∧ e47 = e47' ∧ x48 = x48' ∧ J g x49 h) (fun g => E4 fun i2' o2' i3' o3' a47' n47' c47' e47' x48' x49 h => i2 = i2' ∧ o2 = o2' ∧ i3 = i3' ∧ o3 = o3' ∧ a47 = a47' ∧ n47 = n47' ∧ c47 = c47' ∧ e47 = e47' ∧ x48 = x48' ∧ ∃ g', m g' < m g ∧ J g' x49 h) m ?_ ?_ g ⟨rfl, rfl, rfl, rfl, rfl, rfl, rfl, rfl, rfl, hj⟩
  · intro g env h hi
    obtain ⟨i2', o2', i3', o3', a47', n47', c47', e47', x48', x49, rfl, rfl, rfl, rfl, rfl, rfl, rfl, rfl, rfl, rfl, hj⟩ := Zjn hi
    exact Zts Q _ i2 o2 i3 o3 a47 n47 c47 e47 x48 x49 h (hr g x49 h hj (fun i2' o2' i3' o3' a47' n47' c47' e47' x48' x49 h => i2 = i2' ∧ o2 = o2' ∧ i3 = i3' ∧ o3 = o3' ∧ a47 = a47' ∧ n47 = n47' ∧ c47 = c47' ∧ e47 = e47' ∧ x48 = x48' ∧ ∃ g', m g' < m g ∧ J g' x49 h) fun g' x49 h hlt hj => ⟨rfl, rfl, rfl, rfl, rfl, rfl, rfl, rfl, rfl, g', hlt, hj⟩)
  · intro g env h hi
    obtain ⟨i2', o2', i3', o3', a47', n47', c47', e47', x48', x49, rfl, rfl, rfl, rfl, rfl, rfl, rfl, rfl, rfl, rfl, g', hlt, hj⟩ := Zjn hi
    exact ⟨g', hlt, rfl, rfl, rfl, rfl, rfl, rfl, rfl, rfl, rfl, hj⟩
theorem J8i (Q : QT) (R4 : T4) (x49 x48 : Int) (a47 : Pt) (n47 c47 : Nat) (e47 : Bool) (i2 o2 i3 o3 : Nat) (h : Zaa) (ht :
 R4 i2 o2 i3 o3 a47 n47 c47 e47 x48 (IntKind.wrap .i64 (x49 + 1)) h) : J8 Q R4 x49 x48 a47 n47 c47 e47 i2 o2 i3 o3 h :=
  Zbc (kp := kp) (cast (by kernel_rfl) ht)
theorem A4x0i (Q : QT) (h : Zaa) (ht :
 Q (.bool true) h) : Zyk Q h :=
  At.mk (cast (by kernel_rfl) ht)
theorem call (a0x0 : Pt) (n0x0 c0x0 : Nat) (e0x0 : Bool) (a0x1 : Pt) (n0x1 c0x1 : Nat) (e0x1 : Bool) (x1x0 x1x1 : List Nat) (a1x2 : Pt) (n1x2 c1x2 : Nat) (e1x2 : Bool) (h : Zaa) (Q : QT) (ht :
 Zdb (h ++ [.cells Zam [.slice a0x0 n0x0 c0x0 e0x0, .slice a0x1 n0x1 c0x1 e0x1] false]) fun H0 => Zdb (H0 ++ [.cells Zal [.str x1x0, .str x1x1, .slice a1x2 n1x2 c1x2 e1x2] false]) fun H1 => xSl (Zae H1 (.ptr (some (h.length, 0 + 0)))) fun A2 N3 C4 E5 => Zad pg Zht [.slice A2 N3 C4 E5] H1 fun V6 H7 =>
 Zbx (some V6) fun B8 => bcase (!B8) (Q (.bool false) H7) (Zcx (Zbp H7 (.ptr (some (h.length, 0))) 2) fun K9 => Zaj K9 fun C10 Z11 => xSl (some C10) fun A12 N13 C14 E15 => Zaj Z11 fun C16 Z17 => xSl (some C16) fun A18 N19 C20 E21 => Zcg Z17 (Zbo (Zae H7 (.ptr (some (H0.length, 0 + 0 + 0)))) fun S22 => Zad pg Zfv [.agg [.slice A12 N13 C14 E15, .slice A18 N19 C20 E21], .str S22] H7 fun V23 H24 =>
 Zdd .i64 (some V23) fun X25 => bcase (decide ((X25 : Int) < 0)) (Q (.bool false) H24) (Zbo (Zae H24 (.ptr (some (H0.length, 0 + 0 + 1)))) fun S26 => Zad pg Zeb [.str S26] H24 fun V27 H28 =>
 Zbx (some V27) fun B29 => bcase (!B29) (Q (.bool false) H28) (Zbo (Zae H28 (.ptr (some (H0.length, 0 + 0 + 1)))) fun S30 => bcase (decide (((((List.length S30 : Nat) : Int)) : Int) > 20)) (Q (.bool false) H28) (Zbo (Zae H28 (.ptr (some (H0.length, 0 + 0 + 1)))) fun S31 => Zgd S31 0 fun B32 => Zad pg Zff [.int .u8 (((B32 : Nat) : Int))] H28 fun V33 H34 =>
 Zbx (some V33) fun B35 => bcase B35 (Q (.bool false) H34) (xSl (Zae H34 (.ptr (some (H0.length, 0 + 2)))) fun A36 N37 C38 E39 => bcase (decide (((((N37 : Nat) : Int)) : Int) > 3)) (Q (.bool false) H34) (J3 Q H0.length 0 h.length 0 H34)))))))) : Zad pg Zhb [.agg [.slice a0x0 n0x0 c0x0 e0x0, .slice a0x1 n0x1 c0x1 e0x1], .agg [.str x1x0, .str x1x1, .slice a1x2 n1x2 c1x2 e1x2]] h Q :=
  Zad.of_body kp (c := cod fn) (fn := fn) Go.Proofs.Tryz.func98 (by kernel_rfl) (by kernel_rfl) (Nat.le_of_ble_eq_true (by kernel_rfl))
    (cast (by kernel_rfl) ht)
end Zdh
end Go.Sim
