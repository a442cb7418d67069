/- A part of the proof of a statement of this seat: see the text that holds the theorem. No condition. -/
import Derived.Test.YtlljbdepamknoaaGreatDoorNm
set_option linter.unusedVariables false
set_option linter.unusedSimpArgs false
set_option linter.all false
set_option maxRecDepth 100000
set_option linter.unusedVariables false
namespace Go.Sim
open Go Go.RowKit
namespace Zpe
noncomputable abbrev fn : Func := Go.Proofs.Tryz.f34
def kp : Zcf := []
noncomputable def C (p : List Nat) : Code := (cod fn).sub p
def KR (Q : QT) : KT := Zfc pg fn.results.toList Q
theorem call (a0x0 : Pt) (n0x0 c0x0 : Nat) (e0x0 : Bool) (a0x1 : Pt) (n0x1 c0x1 : Nat) (e0x1 : Bool) (x1x0 x1x1 : List Nat) (h : Zaa) (Q : QT) (ht :
 Zck (h ++ [.cells Zal [.slice a0x0 n0x0 c0x0 e0x0, .slice a0x1 n0x1 c0x1 e0x1] false]) fun H0 => Zck (H0 ++ [.cells Zab [.str x1x0, .str x1x1] false]) fun H1 => Zce (Zaw H1 (.ptr (some (h.length, 0))) 2) fun K2 => Zad K2 fun C3 Z4 => xSl (some C3) fun A5 N6 C7 E8 => Zad Z4 fun C9 Z10 => xSl (some C9) fun A11 N12 C13 E14 => Zbl Z10 (Zag pg Zkv [.agg [.slice A5 N6 C7 E8, .slice A11 N12 C13 E14]] H1 fun V15 H16 =>
 Zbr (some V15) fun B17 => bcase B17 (Zce (Zaw H16 (.ptr (some (h.length, 0))) 2) fun K18 => Zad K18 fun C19 Z20 => xSl (some C19) fun A21 N22 C23 E24 => Zad Z20 fun C25 Z26 => xSl (some C25) fun A27 N28 C29 E30 => Zbl Z26 (Zce (Zaw H16 (.ptr (some (H0.length, 0))) 2) fun K31 => Zad K31 fun C32 Z33 => Zaz (some C32) fun S34 => Zad Z33 fun C35 Z36 => Zaz (some C35) fun S37 => Zbl Z36 (Zag pg Zon [.agg [.slice A21 N22 C23 E24, .slice A27 N28 C29 E30], .agg [.str S34, .str S37]] H16 fun V38 H39 =>
 Zbr (some V38) fun B40 => Q (.bool B40) H39))) (Q (.bool false) H16))) : Zag pg Zlj [.agg [.slice a0x0 n0x0 c0x0 e0x0, .slice a0x1 n0x1 c0x1 e0x1], .agg [.str x1x0, .str x1x1]] h Q :=
  Zag.of_body kp (c := cod fn) (fn := fn) Go.Proofs.Tryz.func34 (by kernel_rfl) (by kernel_rfl) (Nat.le_of_ble_eq_true (by kernel_rfl))
    (cast (by kernel_rfl) ht)
end Zpe
namespace Zkm
noncomputable abbrev fn : Func := Go.Proofs.Tryz.f127
def kp : Zcf := []
noncomputable def C (p : List Nat) : Code := (cod fn).sub p
def KR (Q : QT) : KT := Zfc pg fn.results.toList Q
theorem call (x0x0 x0x1 : List Nat) (a0x2 : Pt) (n0x2 c0x2 : Nat) (e0x2 : Bool) (v1 : Zaq) (h : Zaa) (Q : QT) (ht :
 Zck (h ++ [.cells Zao [.str x0x0, .str x0x1, .slice a0x2 n0x2 c0x2 e0x2] false]) fun H0 => Zaz (Zae H0 (.ptr (some (h.length, 0 + 0 + 1)))) fun S1 => Zhc pg Zab v1 1 fun V2 => Zaz (Zae H0 (V2)) fun S3 => Zag pg Zhu [.str S1, .str S3] H0 fun V4 H5 =>
 Zbr (some V4) fun B6 => Q (.bool B6) H5) : Zag pg Zcd [.agg [.str x0x0, .str x0x1, .slice a0x2 n0x2 c0x2 e0x2], v1] h Q :=
  Zag.of_body kp (c := cod fn) (fn := fn) Go.Proofs.Tryz.func127 (by kernel_rfl) (by kernel_rfl) (Nat.le_of_ble_eq_true (by kernel_rfl))
    (cast (by kernel_rfl) ht)
end Zkm
namespace Zbu
noncomputable abbrev fn : Func := Go.Proofs.Tryz.f126
def kp : Zcf := [(3000003, [7]), (1000003, [1, 2, 7, 12, 13, 14]), (4000007, [14, 13, 12, 1, 2, 7])]
noncomputable def C (p : List Nat) : Code := (cod fn).sub p
def KR (Q : QT) : KT := Zfc pg fn.results.toList Q
abbrev T3 := List Nat → Zaq → Pt → Nat → Nat → Bool → Pt → Nat → Nat → Bool → Int → Int → Zaa → Prop
def E3 (R3 : T3) (env : Env) (h : Zaa) : Prop := Zca 1 env fun v env => Zaz (some v) fun x1 => Zca 2 env fun v env => eFn Zcd v fun cs => Zad cs fun c cs' => Zxl (some c) fun v2x0 => Zbl cs' (Zca 7 env fun v env => xSl (some v) fun a7 n7 c7 e7 => Zca 12 env fun v env => xSl (some v) fun a12 n12 c12 e12 => Zca 13 env fun v env => Zep .i64 v fun x13 => Zca 14 env fun v env => Zep .i64 v fun x14 => Zlf env (R3 x1 v2x0 a7 n7 c7 e7 a12 n12 c12 e12 x13 x14 h))
theorem Zey {R3 : T3} {env : Env} {h : Zaa} (hi : E3 R3 env h) : ∃ x1, ∃ v2x0, ∃ a7, ∃ n7, ∃ c7, ∃ e7, ∃ a12, ∃ n12, ∃ c12, ∃ e12, ∃ x13, ∃ x14, env = [(1, .str x1), (2, .fn Zcd [v2x0]), (7, .slice a7 n7 c7 e7), (12, .slice a12 n12 c12 e12), (13, .int .i64 x13), (14, .int .i64 x14)] ∧ R3 x1 v2x0 a7 n7 c7 e7 a12 n12 c12 e12 x13 x14 h := by
  unfold E3 at hi
  have hi0 := hi
  clear hi
  obtain ⟨_, _, rfl, hi1⟩ := Zac hi0
  obtain ⟨x1, rfl, hi2⟩ := Zee hi1
  obtain ⟨_, _, rfl, hi3⟩ := Zac hi2
  obtain ⟨cs, rfl, hi4⟩ := Zvi hi3
  obtain ⟨c, cs', rfl, hi5⟩ := Zoh hi4
  obtain ⟨v2x0, hx, hi6⟩ := Zjx hi5
  replace hx := (Option.some.inj hx).symm
  subst hx
  obtain ⟨rfl, hi7⟩ := Zta hi6
  obtain ⟨_, _, rfl, hi8⟩ := Zac hi7
  obtain ⟨a7, n7, c7, e7, rfl, hi9⟩ := Zbi hi8
  obtain ⟨_, _, rfl, hi10⟩ := Zac hi9
  obtain ⟨a12, n12, c12, e12, rfl, hi11⟩ := Zbi hi10
  obtain ⟨_, _, rfl, hi12⟩ := Zac hi11
  obtain ⟨x13, rfl, hi13⟩ := Zat hi12
  obtain ⟨_, _, rfl, hi14⟩ := Zac hi13
  obtain ⟨x14, rfl, hi15⟩ := Zat hi14
  obtain ⟨rfl, hi16⟩ := Zbq hi15
  have hi := hi16
  exact ⟨x1, v2x0, a7, n7, c7, e7, a12, n12, c12, e12, x13, x14, rfl, hi⟩
def K0 (Q : QT) : KT := andThen (fun env' h' => (match kp.find 4000008 with | some ks => Den pg fn.ntmps (C [1, 1, 1]) (env'.keep ks) h' (KR Q) | none => den pg fn.ntmps kp (C [1, 1, 1]) env' h' (KR Q))) (KR Q)
def K1 (Q : QT) : KT := Zct 0 (K0 Q)
def K2 (Q : QT) : KT := Zij kp 3 (K1 Q)
def K3 (Q : QT) (R3 : T3) : KT := rnd ((kp.find 1000003).getD []) (E3 R3) (K2 Q)
def L3 (Q : QT) (x1 : List Nat) (v2x0 : Zaq) (a7 : Pt) (n7 c7 : Nat) (e7 : Bool) (a12 : Pt) (n12 c12 : Nat) (e12 : Bool) (x13 x14 : Int) (h : Zaa) : Prop := Zes (Den pg fn.ntmps (C [1, 1, 0, 1, 0, 0])) ((kp.find 1000003).getD []) (K2 Q) [(1, .str x1), (2, .fn Zcd [v2x0]), (7, .slice a7 n7 c7 e7), (12, .slice a12 n12 c12 e12), (13, .int .i64 x13), (14, .int .i64 x14)] h
def J7 (Q : QT) (R3 : T3) (x14 x13 : Int) (a12 : Pt) (n12 c12 : Nat) (e12 : Bool) (x1 : List Nat) (v2x0 : Zaq) (a7 : Pt) (n7 c7 : Nat) (e7 : Bool) (h : Zaa) : Prop := Den pg fn.ntmps (C [1, 1, 0, 1, 0, 0, 1, 1, 1]) [(14, .int .i64 x14), (13, .int .i64 x13), (12, .slice a12 n12 c12 e12), (1, .str x1), (2, .fn Zcd [v2x0]), (7, .slice a7 n7 c7 e7)] h (K3 Q R3)
def Zpu (Q : QT) (a7 : Pt) (n7 c7 : Nat) (e7 : Bool) (h : Zaa) : Prop := At (K1 Q) (.exit 0) [(7, .slice a7 n7 c7 e7)] h
def L3t (Q : QT) (R3 : T3) (x1 : List Nat) (v2x0 : Zaq) (a7 : Pt) (n7 c7 : Nat) (e7 : Bool) (a12 : Pt) (n12 c12 : Nat) (e12 : Bool) (x13 x14 : Int) (h : Zaa) : Prop :=
 bcase (decide ((x14 : Int) < x13)) ((0 ≤ (x14 : Int) ∧ (x14 : Int) < (n12 : Nat)) ∧ (Zbf a12 fun I6 O7 => Zce (Zaw h (.ptr (some (I6, O7 + (Int.toNat x14) * 3))) 3) fun K8 => Zad K8 fun C9 Z10 => Zaz (some C9) fun S11 => Zad Z10 fun C12 Z13 => Zaz (some C12) fun S14 => Zad Z13 fun C15 Z16 => xSl (some C15) fun A17 N18 C19 E20 => Zbl Z16 (Zck (h ++ [.cells Zao [.str [], .str [], .slice none 0 0 true] false]) fun H21 => Zbw (Zbc H21 (.ptr (some (h.length, 0))) [.str S11, .str S14, .slice A17 N18 C19 E20]) fun H22 => Zaz (Zae H22 (.ptr (some (h.length, 0 + 0 + 0)))) fun S23 => bcase (decide (S23 = x1)) (Zce (Zaw H22 (.ptr (some (h.length, 0))) 3) fun K24 => Zad K24 fun C25 Z26 => Zaz (some C25) fun S27 => Zad Z26 fun C28 Z29 => Zaz (some C28) fun S30 => Zad Z29 fun C31 Z32 => xSl (some C31) fun A33 N34 C35 E36 => Zbl Z32 (Zag pg Zcd [.agg [.str S27, .str S30, .slice A33 N34 C35 E36], v2x0] H22 fun V37 H38 =>
 Zbr (some V37) fun B39 => bcase B39 (Zck (H38 ++ [.cells Zlu [.int .i64 x14] false]) fun H40 => Zcs pg Yek H40 (.slice a7 n7 c7 e7) (.slice (some (H38.length, 0)) 1 1 true) fun V41 H42 => xSl (some V41) fun A43 N44 C45 E46 => J7 Q R3 x14 x13 a12 n12 c12 e12 x1 v2x0 A43 N44 C45 E46 H42) (J7 Q R3 x14 x13 a12 n12 c12 e12 x1 v2x0 a7 n7 c7 e7 H38))) (J7 Q R3 x14 x13 a12 n12 c12 e12 x1 v2x0 a7 n7 c7 e7 H22)))) (Zpu Q a7 n7 c7 e7 h)
theorem Zmg (Q : QT) (R3 : T3) (x1 : List Nat) (v2x0 : Zaq) (a7 : Pt) (n7 c7 : Nat) (e7 : Bool) (a12 : Pt) (n12 c12 : Nat) (e12 : Bool) (x13 x14 : Int) (h : Zaa) (ht : L3t Q R3 x1 v2x0 a7 n7 c7 e7 a12 n12 c12 e12 x13 x14 h) : Den pg fn.ntmps (C [1, 1, 0, 1, 0, 0]) [(1, .str x1), (2, .fn Zcd [v2x0]), (7, .slice a7 n7 c7 e7), (12, .slice a12 n12 c12 e12), (13, .int .i64 x13), (14, .int .i64 x14)] h (K3 Q R3) :=
  Zbe (kp := kp) (cast (by kernel_rfl) ht)
theorem L3ind (Q : QT) (x1 : List Nat) (v2x0 : Zaq) (a12 : Pt) (n12 c12 : Nat) (e12 : Bool) (x13 : Int) {G : Type} (J : G → Pt → Nat → Nat → Bool → Int → Zaa → Prop) (m : G → Nat)
 (hr : ∀ (g : G) (a7 : Pt) (n7 c7 : Nat) (e7 : Bool) (x14 : Int) (h : Zaa), J g a7 n7 c7 e7 x14 h → ∀ (R3 : T3), (∀ g' (a7 : Pt) (n7 c7 : Nat) (e7 : Bool) (x14 : Int) (h : Zaa), m g' < m g → J g' a7 n7 c7 e7 x14 h → R3 x1 v2x0 a7 n7 c7 e7 a12 n12 c12 e12 x13 x14 h) → L3t Q R3 x1 v2x0 a7 n7 c7 e7 a12 n12 c12 e12 x13 x14 h)
 (g : G) (a7 : Pt) (n7 c7 : Nat) (e7 : Bool) (x14 : Int) (h : Zaa) (hj : J g a7 n7 c7 e7 x14 h) : L3 Q x1 v2x0 a7 n7 c7 e7 a12 n12 c12 e12 x13 x14 h := by
  refine Zes.inv2 (fun g => E3 fun x1' v2x0' a7 n7 c7 e7 a12' n12' c12' e12' x13' x14 h => x1 = x1' ∧ v2x0 = v2x0' ∧ a12 = a12' ∧ n12 = n12' ∧ c12 = c12' ∧ e12 = e12' ∧ x13 = x13' ∧ J g a7 n7 c7 e7 x14 h) (fun g => E3 fun x1' v2x0' a7 n7 c7 e7 a12' n12' c12' e12' x13' x14 h => x1 = x1' ∧ v2x0 = v2x0' ∧ a12 = a12' ∧ n12 = n12' ∧ c12 = c12' ∧ e12 = e12' ∧ x13 = x13' ∧ ∃ g', m g' < m g ∧ J g' a7 n7 c7 e7 x14 h) m ?_ ?_ g ⟨rfl, rfl, rfl, rfl, rfl, rfl, rfl, hj⟩
  · intro g env h hi
    obtain ⟨x1', v2x0', a7, n7, c7, e7, a12', n12', c12', e12', x13', x14, rfl, rfl, rfl, rfl, rfl, rfl, rfl, rfl, hj⟩ := Zey hi
    exact Zmg Q _ x1 v2x0 a7 n7 c7 e7 a12 n12 c12 e12 x13 x14 h (hr g a7 n7 c7 e7 x14 h hj (fun x1' v2x0' a7 n7 c7 e7 a12' n12' c12' e12' x13' x14 h => x1 = x1' ∧ v2x0 = v2x0' ∧ a12 = a12' ∧ n12 = n12' ∧ c12 = c12' ∧ e12 = e12' ∧ x13 = x13' ∧ ∃ g', m g' < m g ∧ J g' a7 n7 c7 e7 x14 h) fun g' a7 n7 c7 e7 x14 h hlt hj => ⟨rfl, rfl, rfl, rfl, rfl, rfl, rfl, g', hlt, hj⟩)
  · intro g env h hi
    obtain ⟨x1', v2x0', a7, n7, c7, e7, a12', n12', c12', e12', x13', x14, rfl, rfl, rfl, rfl, rfl, rfl, rfl, rfl, g', hlt, hj⟩ := Zey hi
    exact ⟨g', hlt, rfl, rfl, rfl, rfl, rfl, rfl, rfl, hj⟩
theorem J7i (Q : QT) (R3 : T3) (x14 x13 : Int) (a12 : Pt) (n12 c12 : Nat) (e12 : Bool) (x1 : List Nat) (v2x0 : Zaq) (a7 : Pt) (n7 c7 : Nat) (e7 : Bool) (h : Zaa) (ht :
 R3 x1 v2x0 a7 n7 c7 e7 a12 n12 c12 e12 x13 (IntKind.wrap .i64 (x14 + 1)) h) : J7 Q R3 x14 x13 a12 n12 c12 e12 x1 v2x0 a7 n7 c7 e7 h :=
  Zbe (kp := kp) (cast (by kernel_rfl) ht)
theorem A3x0i (Q : QT) (a7 : Pt) (n7 c7 : Nat) (e7 : Bool) (h : Zaa) (ht :
 Q (.slice a7 n7 c7 e7) h) : Zpu Q a7 n7 c7 e7 h :=
  At.mk (cast (by kernel_rfl) ht)
theorem call (a0x0 : Pt) (n0x0 c0x0 : Nat) (e0x0 : Bool) (a0x1 : Pt) (n0x1 c0x1 : Nat) (e0x1 : Bool) (x1 : List Nat) (v2x0 : Zaq) (h : Zaa) (Q : QT) (ht :
 Zck (h ++ [.cells Zal [.slice a0x0 n0x0 c0x0 e0x0, .slice a0x1 n0x1 c0x1 e0x1] false]) fun H0 => Zck (H0 ++ [.cells Zlu [] false]) fun H1 => xSl (Zae H1 (.ptr (some (h.length, 0 + 1)))) fun A2 N3 C4 E5 => L3 Q x1 v2x0 (some (H0.length, 0)) 0 0 true A2 N3 C4 E5 (((N3 : Nat) : Int)) 0 H1) : Zag pg Zqg [.agg [.slice a0x0 n0x0 c0x0 e0x0, .slice a0x1 n0x1 c0x1 e0x1], .str x1, .fn Zcd [v2x0]] h Q :=
  Zag.of_body kp (c := cod fn) (fn := fn) Go.Proofs.Tryz.func126 (by kernel_rfl) (by kernel_rfl) (Nat.le_of_ble_eq_true (by kernel_rfl))
    (cast (by kernel_rfl) ht)
end Zbu
namespace Znu
noncomputable abbrev fn : Func := Go.Proofs.Tryz.f92
def kp : Zcf := []
noncomputable def C (p : List Nat) : Code := (cod fn).sub p
def KR (Q : QT) : KT := Zfc pg fn.results.toList Q
theorem call (a0x0 : Pt) (n0x0 c0x0 : Nat) (e0x0 : Bool) (a0x1 : Pt) (n0x1 c0x1 : Nat) (e0x1 : Bool) (x1x0 x1x1 : List Nat) (h : Zaa) (Q : QT) (ht :
 Zck (h ++ [.cells Zal [.slice a0x0 n0x0 c0x0 e0x0, .slice a0x1 n0x1 c0x1 e0x1] false]) fun H0 => Zck (H0 ++ [.cells Zab [.str x1x0, .str x1x1] false]) fun H1 => Zce (Zaw H1 (.ptr (some (h.length, 0))) 2) fun K2 => Zad K2 fun C3 Z4 => xSl (some C3) fun A5 N6 C7 E8 => Zad Z4 fun C9 Z10 => xSl (some C9) fun A11 N12 C13 E14 => Zbl Z10 (Zaz (Zae H1 (.ptr (some (H0.length, 0 + 0)))) fun S15 => Zag pg Zqg [.agg [.slice A5 N6 C7 E8, .slice A11 N12 C13 E14], .str S15, .fn Zcd [.ptr (some (H0.length, 0))]] H1 fun V16 H17 =>
 xSl (some V16) fun A18 N19 C20 E21 => Q (.slice A18 N19 C20 E21) H17)) : Zag pg Zkx [.agg [.slice a0x0 n0x0 c0x0 e0x0, .slice a0x1 n0x1 c0x1 e0x1], .agg [.str x1x0, .str x1x1]] h Q :=
  Zag.of_body kp (c := cod fn) (fn := fn) Go.Proofs.Tryz.func92 (by kernel_rfl) (by kernel_rfl) (Nat.le_of_ble_eq_true (by kernel_rfl))
    (cast (by kernel_rfl) ht)
end Znu
namespace Zdr
noncomputable abbrev fn : Func := Go.Proofs.Tryz.f85
def kp : Zcf := [(3000003, [5]), (1000003, [3, 5, 10, 11, 12]), (4000007, [12, 11, 10, 3, 5])]
noncomputable def C (p : List Nat) : Code := (cod fn).sub p
def KR (Q : QT) : KT := Zfc pg fn.results.toList Q
abbrev T3 := Nat → Nat → Pt → Nat → Nat → Bool → Pt → Nat → Nat → Bool → Int → Int → Zaa → Prop
def E3 (R3 : T3) (env : Env) (h : Zaa) : Prop := Zca 3 env fun v env => Zhs (some v) fun a => Zbf a fun i3 o3 => Zca 5 env fun v env => xSl (some v) fun a5 n5 c5 e5 => Zca 10 env fun v env => xSl (some v) fun a10 n10 c10 e10 => Zca 11 env fun v env => Zep .i64 v fun x11 => Zca 12 env fun v env => Zep .i64 v fun x12 => Zlf env (R3 i3 o3 a5 n5 c5 e5 a10 n10 c10 e10 x11 x12 h)
theorem Zey {R3 : T3} {env : Env} {h : Zaa} (hi : E3 R3 env h) : ∃ i3, ∃ o3, ∃ a5, ∃ n5, ∃ c5, ∃ e5, ∃ a10, ∃ n10, ∃ c10, ∃ e10, ∃ x11, ∃ x12, env = [(3, .ptr (some (i3, o3))), (5, .slice a5 n5 c5 e5), (10, .slice a10 n10 c10 e10), (11, .int .i64 x11), (12, .int .i64 x12)] ∧ R3 i3 o3 a5 n5 c5 e5 a10 n10 c10 e10 x11 x12 h := by
  unfold E3 at hi
  have hi0 := hi
  clear hi
  obtain ⟨_, _, rfl, hi1⟩ := Zac hi0
  obtain ⟨a, rfl, hi2⟩ := Zcl hi1
  obtain ⟨i3, o3, rfl, hi3⟩ := Zcc hi2
  obtain ⟨_, _, rfl, hi4⟩ := Zac hi3
  obtain ⟨a5, n5, c5, e5, rfl, hi5⟩ := Zbi hi4
  obtain ⟨_, _, rfl, hi6⟩ := Zac hi5
  obtain ⟨a10, n10, c10, e10, rfl, hi7⟩ := Zbi hi6
  obtain ⟨_, _, rfl, hi8⟩ := Zac hi7
  obtain ⟨x11, rfl, hi9⟩ := Zat hi8
  obtain ⟨_, _, rfl, hi10⟩ := Zac hi9
  obtain ⟨x12, rfl, hi11⟩ := Zat hi10
  obtain ⟨rfl, hi12⟩ := Zbq hi11
  have hi := hi12
  exact ⟨i3, o3, a5, n5, c5, e5, a10, n10, c10, e10, x11, x12, rfl, hi⟩
def K0 (Q : QT) : KT := andThen (fun env' h' => (match kp.find 4000008 with | some ks => Den pg fn.ntmps (C [1, 1, 1]) (env'.keep ks) h' (KR Q) | none => den pg fn.ntmps kp (C [1, 1, 1]) env' h' (KR Q))) (KR Q)
def K1 (Q : QT) : KT := Zct 0 (K0 Q)
def K2 (Q : QT) : KT := Zij kp 3 (K1 Q)
def K3 (Q : QT) (R3 : T3) : KT := rnd ((kp.find 1000003).getD []) (E3 R3) (K2 Q)
def L3 (Q : QT) (i3 o3 : Nat) (a5 : Pt) (n5 c5 : Nat) (e5 : Bool) (a10 : Pt) (n10 c10 : Nat) (e10 : Bool) (x11 x12 : Int) (h : Zaa) : Prop := Zes (Den pg fn.ntmps (C [1, 1, 0, 1, 0, 0])) ((kp.find 1000003).getD []) (K2 Q) [(3, .ptr (some (i3, o3))), (5, .slice a5 n5 c5 e5), (10, .slice a10 n10 c10 e10), (11, .int .i64 x11), (12, .int .i64 x12)] h
def J7 (Q : QT) (R3 : T3) (x12 x11 : Int) (a10 : Pt) (n10 c10 : Nat) (e10 : Bool) (i3 o3 : Nat) (a5 : Pt) (n5 c5 : Nat) (e5 : Bool) (h : Zaa) : Prop := Den pg fn.ntmps (C [1, 1, 0, 1, 0, 0, 1, 1, 1]) [(12, .int .i64 x12), (11, .int .i64 x11), (10, .slice a10 n10 c10 e10), (3, .ptr (some (i3, o3))), (5, .slice a5 n5 c5 e5)] h (K3 Q R3)
def Zpu (Q : QT) (a5 : Pt) (n5 c5 : Nat) (e5 : Bool) (h : Zaa) : Prop := At (K1 Q) (.exit 0) [(5, .slice a5 n5 c5 e5)] h
def L3t (Q : QT) (R3 : T3) (i3 o3 : Nat) (a5 : Pt) (n5 c5 : Nat) (e5 : Bool) (a10 : Pt) (n10 c10 : Nat) (e10 : Bool) (x11 x12 : Int) (h : Zaa) : Prop :=
 bcase (decide ((x12 : Int) < x11)) ((0 ≤ (x12 : Int) ∧ (x12 : Int) < (n10 : Nat)) ∧ (Zbf a10 fun I7 O8 => Zce (Zaw h (.ptr (some (I7, O8 + (Int.toNat x12) * 3))) 3) fun K9 => Zad K9 fun C10 Z11 => Zaz (some C10) fun S12 => Zad Z11 fun C13 Z14 => Zaz (some C13) fun S15 => Zad Z14 fun C16 Z17 => xSl (some C16) fun A18 N19 C20 E21 => Zbl Z17 (Zck (h ++ [.cells Zao [.str [], .str [], .slice none 0 0 true] false]) fun H22 => Zbw (Zbc H22 (.ptr (some (h.length, 0))) [.str S12, .str S15, .slice A18 N19 C20 E21]) fun H23 => Zaz (Zae H23 (.ptr (some (h.length, 0 + 0 + 0)))) fun S24 => Zaz (Zae H23 (.ptr (some (i3, o3 + 0)))) fun S25 => bcase (decide (S24 = S25)) (Zaz (Zae H23 (.ptr (some (h.length, 0 + 0 + 1)))) fun S26 => Zaz (Zae H23 (.ptr (some (i3, o3 + 1)))) fun S27 => Zag pg Zia [.str S26, .str S27] H23 fun V28 H29 =>
 Zbr (some V28) fun B30 => bcase B30 (Zck (H29 ++ [.cells Zlu [.int .i64 x12] false]) fun H31 => Zcs pg Yek H31 (.slice a5 n5 c5 e5) (.slice (some (H29.length, 0)) 1 1 true) fun V32 H33 => xSl (some V32) fun A34 N35 C36 E37 => J7 Q R3 x12 x11 a10 n10 c10 e10 i3 o3 A34 N35 C36 E37 H33) (J7 Q R3 x12 x11 a10 n10 c10 e10 i3 o3 a5 n5 c5 e5 H29)) (J7 Q R3 x12 x11 a10 n10 c10 e10 i3 o3 a5 n5 c5 e5 H23)))) (Zpu Q a5 n5 c5 e5 h)
theorem Zmg (Q : QT) (R3 : T3) (i3 o3 : Nat) (a5 : Pt) (n5 c5 : Nat) (e5 : Bool) (a10 : Pt) (n10 c10 : Nat) (e10 : Bool) (x11 x12 : Int) (h : Zaa) (ht : L3t Q R3 i3 o3 a5 n5 c5 e5 a10 n10 c10 e10 x11 x12 h) : Den pg fn.ntmps (C [1, 1, 0, 1, 0, 0]) [(3, .ptr (some (i3, o3))), (5, .slice a5 n5 c5 e5), (10, .slice a10 n10 c10 e10), (11, .int .i64 x11), (12, .int .i64 x12)] h (K3 Q R3) :=
  Zbe (kp := kp) (cast (by kernel_rfl) ht)
theorem L3ind (Q : QT) (i3 o3 : Nat) (a10 : Pt) (n10 c10 : Nat) (e10 : Bool) (x11 : Int) {G : Type} (J : G → Pt → Nat → Nat → Bool → Int → Zaa → Prop) (m : G → Nat)
 (hr : ∀ (g : G) (a5 : Pt) (n5 c5 : Nat) (e5 : Bool) (x12 : Int) (h : Zaa), J g a5 n5 c5 e5 x12 h → ∀ (R3 : T3), (∀ g' (a5 : Pt) (n5 c5 : Nat) (e5 : Bool) (x12 : Int) (h : Zaa), m g' < m g → J g' a5 n5 c5 e5 x12 h → R3 i3 o3 a5 n5 c5 e5 a10 n10 c10 e10 x11 x12 h) → L3t Q R3 i3 o3 a5 n5 c5 e5 a10 n10 c10 e10 x11 x12 h)
 (g : G) (a5 : Pt) (n5 c5 : Nat) (e5 : Bool) (x12 : Int) (h : Zaa) (hj : J g a5 n5 c5 e5 x12 h) : L3 Q i3 o3 a5 n5 c5 e5 a10 n10 c10 e10 x11 x12 h := by
  refine Zes.inv2 (fun g => E3 fun i3' o3' a5 n5 c5 e5 a10' n10' c10' e10' x11' x12 h => i3 = i3' ∧ o3 = o3' ∧ a10 = a10' ∧ n10 = n10' ∧ c10 = c10' ∧ e10 = e10' ∧ x11 = x11' ∧ J g a5 n5 c5 e5 x12 h) (fun g => E3 fun i3' o3' a5 n5 c5 e5 a10' n10' c10' e10' x11' x12 h => i3 = i3' ∧ o3 = o3' ∧ a10 = a10' ∧ n10 = n10' ∧ c10 = c10' ∧ e10 = e10' ∧ x11 = x11' ∧ ∃ g', m g' < m g ∧ J g' a5 n5 c5 e5 x12 h) m ?_ ?_ g ⟨rfl, rfl, rfl, rfl, rfl, rfl, rfl, hj⟩
  · intro g env h hi
    obtain ⟨i3', o3', a5, n5, c5, e5, a10', n10', c10', e10', x11', x12, rfl, rfl, rfl, rfl, rfl, rfl, rfl, rfl, hj⟩ := Zey hi
    exact Zmg Q _ i3 o3 a5 n5 c5 e5 a10 n10 c10 e10 x11 x12 h (hr g a5 n5 c5 e5 x12 h hj (fun i3' o3' a5 n5 c5 e5 a10' n10' c10' e10' x11' x12 h => i3 = i3' ∧ o3 = o3' ∧ a10 = a10' ∧ n10 = n10' ∧ c10 = c10' ∧ e10 = e10' ∧ x11 = x11' ∧ ∃ g', m g' < m g ∧ J g' a5 n5 c5 e5 x12 h) fun g' a5 n5 c5 e5 x12 h hlt hj => ⟨rfl, rfl, rfl, rfl, rfl, rfl, rfl, g', hlt, hj⟩)
  · intro g env h hi
    obtain ⟨i3', o3', a5, n5, c5, e5, a10', n10', c10', e10', x11', x12, rfl, rfl, rfl, rfl, rfl, rfl, rfl, rfl, g', hlt, hj⟩ := Zey hi
    exact ⟨g', hlt, rfl, rfl, rfl, rfl, rfl, rfl, rfl, hj⟩
theorem J7i (Q : QT) (R3 : T3) (x12 x11 : Int) (a10 : Pt) (n10 c10 : Nat) (e10 : Bool) (i3 o3 : Nat) (a5 : Pt) (n5 c5 : Nat) (e5 : Bool) (h : Zaa) (ht :
 R3 i3 o3 a5 n5 c5 e5 a10 n10 c10 e10 x11 (IntKind.wrap .i64 (x12 + 1)) h) : J7 Q R3 x12 x11 a10 n10 c10 e10 i3 o3 a5 n5 c5 e5 h :=
  Zbe (kp := kp) (cast (by kernel_rfl) ht)
theorem A3x0i (Q : QT) (a5 : Pt) (n5 c5 : Nat) (e5 : Bool) (h : Zaa) (ht :
 Q (.slice a5 n5 c5 e5) h) : Zpu Q a5 n5 c5 e5 h :=
  At.mk (cast (by kernel_rfl) ht)
theorem call (a0x0 : Pt) (n0x0 c0x0 : Nat) (e0x0 : Bool) (a0x1 : Pt) (n0x1 c0x1 : Nat) (e0x1 : Bool) (x1x0 x1x1 : List Nat) (h : Zaa) (Q : QT) (ht :
 Zck (h ++ [.cells Zal [.slice a0x0 n0x0 c0x0 e0x0, .slice a0x1 n0x1 c0x1 e0x1] false]) fun H0 => Zck (H0 ++ [.cells Zab [.str x1x0, .str x1x1] false]) fun H1 => Zck (H1 ++ [.cells Zlu [] false]) fun H2 => xSl (Zae H2 (.ptr (some (h.length, 0 + 1)))) fun A3 N4 C5 E6 => L3 Q H0.length 0 (some (H1.length, 0)) 0 0 true A3 N4 C5 E6 (((N4 : Nat) : Int)) 0 H2) : Zag pg Zgu [.agg [.slice a0x0 n0x0 c0x0 e0x0, .slice a0x1 n0x1 c0x1 e0x1], .agg [.str x1x0, .str x1x1]] h Q :=
  Zag.of_body kp (c := cod fn) (fn := fn) Go.Proofs.Tryz.func85 (by kernel_rfl) (by kernel_rfl) (Nat.le_of_ble_eq_true (by kernel_rfl))
    (cast (by kernel_rfl) ht)
end Zdr
namespace Zme
noncomputable abbrev fn : Func := Go.Proofs.Tryz.f154
def kp : Zcf := []
noncomputable def C (p : List Nat) : Code := (cod fn).sub p
def KR (Q : QT) : KT := Zfc pg fn.results.toList Q
theorem call (a0x0 : Pt) (n0x0 c0x0 : Nat) (e0x0 : Bool) (a0x1 : Pt) (n0x1 c0x1 : Nat) (e0x1 : Bool) (x1x0 x1x1 : List Nat) (h : Zaa) (Q : QT) (ht :
 Zck (h ++ [.cells Zal [.slice a0x0 n0x0 c0x0 e0x0, .slice a0x1 n0x1 c0x1 e0x1] false]) fun H0 => Zck (H0 ++ [.cells Zab [.str x1x0, .str x1x1] false]) fun H1 => Zce (Zaw H1 (.ptr (some (h.length, 0))) 2) fun K2 => Zad K2 fun C3 Z4 => xSl (some C3) fun A5 N6 C7 E8 => Zad Z4 fun C9 Z10 => xSl (some C9) fun A11 N12 C13 E14 => Zbl Z10 (Zce (Zaw H1 (.ptr (some (H0.length, 0))) 2) fun K15 => Zad K15 fun C16 Z17 => Zaz (some C16) fun S18 => Zad Z17 fun C19 Z20 => Zaz (some C19) fun S21 => Zbl Z20 (Zag pg Ziw [.agg [.slice A5 N6 C7 E8, .slice A11 N12 C13 E14], .agg [.str S18, .str S21]] H1 fun V22 H23 =>
 Zbr (some V22) fun B24 => bcase (!B24) (Zck (H23 ++ [.cells Zlu [] false]) fun H25 => Q (.tup [.slice (some (H23.length, 0)) 0 0 true, .bool false]) H25) (Zce (Zaw H23 (.ptr (some (h.length, 0))) 2) fun K26 => Zad K26 fun C27 Z28 => xSl (some C27) fun A29 N30 C31 E32 => Zad Z28 fun C33 Z34 => xSl (some C33) fun A35 N36 C37 E38 => Zbl Z34 (Zce (Zaw H23 (.ptr (some (H0.length, 0))) 2) fun K39 => Zad K39 fun C40 Z41 => Zaz (some C40) fun S42 => Zad Z41 fun C43 Z44 => Zaz (some C43) fun S45 => Zbl Z44 (Zag pg Zgu [.agg [.slice A29 N30 C31 E32, .slice A35 N36 C37 E38], .agg [.str S42, .str S45]] H23 fun V46 H47 =>
 xSl (some V46) fun A48 N49 C50 E51 => Q (.tup [.slice A48 N49 C50 E51, .bool true]) H47)))))) : Zag pg Zjc [.agg [.slice a0x0 n0x0 c0x0 e0x0, .slice a0x1 n0x1 c0x1 e0x1], .agg [.str x1x0, .str x1x1]] h Q :=
  Zag.of_body kp (c := cod fn) (fn := fn) Go.Proofs.Tryz.func154 (by kernel_rfl) (by kernel_rfl) (Nat.le_of_ble_eq_true (by kernel_rfl))
    (cast (by kernel_rfl) ht)
end Zme
end Go.Sim

set_option maxRecDepth 100000
set_option linter.unusedVariables false
namespace Go.Sim
open Go Go.RowKit
namespace Zrl
noncomputable abbrev fn : Func := Go.Proofs.Tryz.f134
def kp : Zcf := []
noncomputable def C (p : List Nat) : Code := (cod fn).sub p
def KR (Q : QT) : KT := Zfc pg fn.results.toList Q
theorem call (x0x0 x0x1 : List Nat) (a0x2 : Pt) (n0x2 c0x2 : Nat) (e0x2 : Bool) (x1x0 x1x1 : List Nat) (a1x2 : Pt) (n1x2 c1x2 : Nat) (e1x2 : Bool) (h : Zaa) (Q : QT) (ht :
 Zck (h ++ [.cells Zao [.str x0x0, .str x0x1, .slice a0x2 n0x2 c0x2 e0x2] false]) fun H0 => Zck (H0 ++ [.cells Zao [.str x1x0, .str x1x1, .slice a1x2 n1x2 c1x2 e1x2] false]) fun H1 => Zaz (Zae H1 (.ptr (some (h.length, 0 + 0 + 0)))) fun S2 => Zaz (Zae H1 (.ptr (some (H0.length, 0 + 0 + 0)))) fun S3 => bcase (decide (S2 = S3)) (Zaz (Zae H1 (.ptr (some (H0.length, 0 + 0 + 1)))) fun S4 => Zaz (Zae H1 (.ptr (some (h.length, 0 + 0 + 1)))) fun S5 => Zag pg Zhu [.str S4, .str S5] H1 fun V6 H7 =>
 Zbr (some V6) fun B8 => Q (.bool B8) H7) (Q (.bool false) H1)) : Zag pg Znh [.agg [.str x0x0, .str x0x1, .slice a0x2 n0x2 c0x2 e0x2], .agg [.str x1x0, .str x1x1, .slice a1x2 n1x2 c1x2 e1x2]] h Q :=
  Zag.of_body kp (c := cod fn) (fn := fn) Go.Proofs.Tryz.func134 (by kernel_rfl) (by kernel_rfl) (Nat.le_of_ble_eq_true (by kernel_rfl))
    (cast (by kernel_rfl) ht)
end Zrl
namespace Zli
noncomputable abbrev fn : Func := Go.Proofs.Tryz.f155
def kp : Zcf := [(4000003, [3, 1, 2]), (2000003, [6])]
noncomputable def C (p : List Nat) : Code := (cod fn).sub p
def KR (Q : QT) : KT := Zfc pg fn.results.toList Q
def J3 (Q : QT) (i3 o3 : Nat) (x1 x2 : Int) (h : Zaa) : Prop := Den pg fn.ntmps (C [1, 1]) [(3, .ptr (some (i3, o3))), (1, .int .i64 x1), (2, .int .i64 x2)] h (KR Q)
theorem J3i (Q : QT) (i3 o3 : Nat) (x1 x2 : Int) (h : Zaa) (ht :
 xSl (Zae h (.ptr (some (i3, o3 + 1)))) fun A31 N32 C33 E34 => (0 ≤ (x1 : Int) ∧ (x1 : Int) < (N32 : Nat)) ∧ (Zbf A31 fun I35 O36 => Zaz (Zae h (.ptr (some (I35, O36 + (Int.toNat x1) * 3 + 0 + 0)))) fun S37 => xSl (Zae h (.ptr (some (i3, o3 + 1)))) fun A38 N39 C40 E41 => (Zae h (.ptr (some (I35, O36 + (Int.toNat x1) * 3 + 0 + 0))) = Zae h (.ptr (some (I35, O36 + (Int.toNat x1) * 3 + 0 + 0)))) ∧ (Zae h (.ptr (some (i3, o3 + 1))) = Zae h (.ptr (some (i3, o3 + 1)))) ∧ (0 ≤ (x2 : Int) ∧ (x2 : Int) < (N39 : Nat)) ∧ (Zbf A38 fun I42 O43 => Zaz (Zae h (.ptr (some (I42, O43 + (Int.toNat x2) * 3 + 0 + 0)))) fun S44 => (Zae h (.ptr (some (I35, O36 + (Int.toNat x1) * 3 + 0 + 0))) = Zae h (.ptr (some (I35, O36 + (Int.toNat x1) * 3 + 0 + 0)))) ∧ (Zae h (.ptr (some (i3, o3 + 1))) = Zae h (.ptr (some (i3, o3 + 1)))) ∧ bcase (decide (S37 = S44)) (xSl (Zae h (.ptr (some (i3, o3 + 1)))) fun A45 N46 C47 E48 => (0 ≤ (x2 : Int) ∧ (x2 : Int) < (N46 : Nat)) ∧ (Zbf A45 fun I49 O50 => Zaz (Zae h (.ptr (some (I49, O50 + (Int.toNat x2) * 3 + 0 + 1)))) fun S51 => xSl (Zae h (.ptr (some (i3, o3 + 1)))) fun A52 N53 C54 E55 => (Zae h (.ptr (some (I49, O50 + (Int.toNat x2) * 3 + 0 + 1))) = Zae h (.ptr (some (I49, O50 + (Int.toNat x2) * 3 + 0 + 1)))) ∧ (Zae h (.ptr (some (i3, o3 + 1))) = Zae h (.ptr (some (i3, o3 + 1)))) ∧ (Zae h (.ptr (some (I35, O36 + (Int.toNat x1) * 3 + 0 + 0))) = Zae h (.ptr (some (I35, O36 + (Int.toNat x1) * 3 + 0 + 0)))) ∧ (Zae h (.ptr (some (i3, o3 + 1))) = Zae h (.ptr (some (i3, o3 + 1)))) ∧ (0 ≤ (x1 : Int) ∧ (x1 : Int) < (N53 : Nat)) ∧ (Zbf A52 fun I56 O57 => Zaz (Zae h (.ptr (some (I56, O57 + (Int.toNat x1) * 3 + 0 + 1)))) fun S58 => (Zae h (.ptr (some (I49, O50 + (Int.toNat x2) * 3 + 0 + 1))) = Zae h (.ptr (some (I49, O50 + (Int.toNat x2) * 3 + 0 + 1)))) ∧ (Zae h (.ptr (some (i3, o3 + 1))) = Zae h (.ptr (some (i3, o3 + 1)))) ∧ (Zae h (.ptr (some (I35, O36 + (Int.toNat x1) * 3 + 0 + 0))) = Zae h (.ptr (some (I35, O36 + (Int.toNat x1) * 3 + 0 + 0)))) ∧ (Zae h (.ptr (some (i3, o3 + 1))) = Zae h (.ptr (some (i3, o3 + 1)))) ∧ Zag pg Zia [.str S51, .str S58] h fun V59 H60 =>
 Zbr (some V59) fun B61 => (Zae H60 (.ptr (some (i3, o3 + 1))) = Zae h (.ptr (some (i3, o3 + 1)))) ∧ (Zae H60 (.ptr (some (I35, O36 + (Int.toNat x1) * 3 + 0 + 0))) = Zae h (.ptr (some (I35, O36 + (Int.toNat x1) * 3 + 0 + 0)))) ∧ (Zae H60 (.ptr (some (i3, o3 + 1))) = Zae h (.ptr (some (i3, o3 + 1)))) ∧ Q (.bool B61) H60))) ((Zae h (.tup []) = Zae h (.tup [])) ∧ (Zae h (.tup []) = Zae h (.tup [])) ∧ (Zae h (.ptr (some (I35, O36 + (Int.toNat x1) * 3 + 0 + 0))) = Zae h (.ptr (some (I35, O36 + (Int.toNat x1) * 3 + 0 + 0)))) ∧ (Zae h (.ptr (some (i3, o3 + 1))) = Zae h (.ptr (some (i3, o3 + 1)))) ∧ (Zae h (.tup []) = Zae h (.tup [])) ∧ (Zae h (.tup []) = Zae h (.tup [])) ∧ (Zae h (.ptr (some (I35, O36 + (Int.toNat x1) * 3 + 0 + 0))) = Zae h (.ptr (some (I35, O36 + (Int.toNat x1) * 3 + 0 + 0)))) ∧ (Zae h (.ptr (some (i3, o3 + 1))) = Zae h (.ptr (some (i3, o3 + 1)))) ∧ (Zae h (.tup []) = Zae h (.tup [])) ∧ (Zae h (.ptr (some (I35, O36 + (Int.toNat x1) * 3 + 0 + 0))) = Zae h (.ptr (some (I35, O36 + (Int.toNat x1) * 3 + 0 + 0)))) ∧ (Zae h (.ptr (some (i3, o3 + 1))) = Zae h (.ptr (some (i3, o3 + 1)))) ∧ Q (.bool false) h)))) : J3 Q i3 o3 x1 x2 h :=
  Zbe (kp := kp) (cast (by kernel_rfl) ht)
theorem call (a0x0 : Pt) (n0x0 c0x0 : Nat) (e0x0 : Bool) (a0x1 : Pt) (n0x1 c0x1 : Nat) (e0x1 : Bool) (x1 x2 : Int) (h : Zaa) (Q : QT) (ht :
 Zck (h ++ [.cells Zal [.slice a0x0 n0x0 c0x0 e0x0, .slice a0x1 n0x1 c0x1 e0x1] false]) fun H0 => Zce (Zaw H0 (.ptr (some (h.length, 0))) 2) fun K1 => Zad K1 fun C2 Z3 => xSl (some C2) fun A4 N5 C6 E7 => Zad Z3 fun C8 Z9 => xSl (some C8) fun A10 N11 C12 E13 => Zbl Z9 (Zag pg Zhz [.agg [.slice A4 N5 C6 E7, .slice A10 N11 C12 E13]] H0 fun V14 H15 =>
 Zbr (some V14) fun B16 => bcase (!B16) (Q (.bool false) H15) (xSl (Zae H15 (.ptr (some (h.length, 0 + 1)))) fun A17 N18 C19 E20 => Zag pg Zks [.int .i64 x1, .int .i64 0, .int .i64 (IntKind.wrap .i64 ((((N18 : Nat) : Int)) - 1))] H15 fun V21 H22 =>
 Zbr (some V21) fun B23 => bcase (!B23) (Q (.bool false) H22) (xSl (Zae H22 (.ptr (some (h.length, 0 + 1)))) fun A24 N25 C26 E27 => Zag pg Zks [.int .i64 x2, .int .i64 0, .int .i64 (IntKind.wrap .i64 ((((N25 : Nat) : Int)) - 1))] H22 fun V28 H29 =>
 Zbr (some V28) fun B30 => bcase (!B30) (Q (.bool false) H29) (J3 Q h.length 0 x1 x2 H29))))) : Zag pg Zlo [.agg [.slice a0x0 n0x0 c0x0 e0x0, .slice a0x1 n0x1 c0x1 e0x1], .int .i64 x1, .int .i64 x2] h Q :=
  Zag.of_body kp (c := cod fn) (fn := fn) Go.Proofs.Tryz.func155 (by kernel_rfl) (by kernel_rfl) (Nat.le_of_ble_eq_true (by kernel_rfl))
    (cast (by kernel_rfl) ht)
end Zli
end Go.Sim

set_option maxRecDepth 100000
set_option linter.unusedVariables false
namespace Go.Sim
open Go Go.RowKit
namespace Zqi
noncomputable abbrev fn : Func := Go.Proofs.Tryz.f39
def kp : Zcf := []
noncomputable def C (p : List Nat) : Code := (cod fn).sub p
def KR (Q : QT) : KT := Zfc pg fn.results.toList Q
theorem call (a0x0 : Pt) (n0x0 c0x0 : Nat) (e0x0 : Bool) (a0x1 : Pt) (n0x1 c0x1 : Nat) (e0x1 : Bool) (x1x0 x1x1 : List Nat) (x2 : Bool) (h : Zaa) (Q : QT) (ht :
 Zck (h ++ [.cells Zal [.slice a0x0 n0x0 c0x0 e0x0, .slice a0x1 n0x1 c0x1 e0x1] false]) fun H0 => Zck (H0 ++ [.cells Zab [.str x1x0, .str x1x1] false]) fun H1 => Zce (Zaw H1 (.ptr (some (h.length, 0))) 2) fun K2 => Zad K2 fun C3 Z4 => xSl (some C3) fun A5 N6 C7 E8 => Zad Z4 fun C9 Z10 => xSl (some C9) fun A11 N12 C13 E14 => Zbl Z10 (Zck (H1 ++ [.cells Zeu [.slice A5 N6 C7 E8, .slice A11 N12 C13 E14, .bool x2, .fn Zco [], .slice none 0 0 true, .str [], .str [], .slice none 0 0 true] false]) fun H15 => Zce (Zaw H15 (.ptr (some (h.length, 0))) 2) fun K16 => Zad K16 fun C17 Z18 => xSl (some C17) fun A19 N20 C21 E22 => Zad Z18 fun C23 Z24 => xSl (some C23) fun A25 N26 C27 E28 => Zbl Z24 (Zce (Zaw H15 (.ptr (some (H0.length, 0))) 2) fun K29 => Zad K29 fun C30 Z31 => Zaz (some C30) fun S32 => Zad Z31 fun C33 Z34 => Zaz (some C33) fun S35 => Zbl Z34 (Zag pg Zlj [.agg [.slice A19 N20 C21 E22, .slice A25 N26 C27 E28], .agg [.str S32, .str S35]] H15 fun V36 H37 =>
 Zbr (some V36) fun B38 => bcase (!B38) (Q (.tup [.ptr (some (H1.length, 0)), .str [], .str ([119, 114, 111, 110, 103])]) H37) (Zce (Zaw H37 (.ptr (some (H0.length, 0))) 2) fun K39 => Zad K39 fun C40 Z41 => Zaz (some C40) fun S42 => Zad Z41 fun C43 Z44 => Zaz (some C43) fun S45 => Zbl Z44 (Zag pg Zhy [.ptr (some (H1.length, 0)), .agg [.str S42, .str S45], .slice none 0 0 true] H37 fun V46 H47 =>
 Zjg V46 fun K48 => Zad K48 fun C49 Z50 => Zaz (some C49) fun S51 => Zad Z50 fun C52 Z53 => Zaz (some C52) fun S54 => Zbl Z53 (Q (.tup [.ptr (some (H1.length, 0)), .str S51, .str S54]) H47))))))) : Zag pg Zmm [.agg [.slice a0x0 n0x0 c0x0 e0x0, .slice a0x1 n0x1 c0x1 e0x1], .agg [.str x1x0, .str x1x1], .bool x2] h Q :=
  Zag.of_body kp (c := cod fn) (fn := fn) Go.Proofs.Tryz.func39 (by kernel_rfl) (by kernel_rfl) (Nat.le_of_ble_eq_true (by kernel_rfl))
    (cast (by kernel_rfl) ht)
end Zqi
namespace Zjn
noncomputable abbrev fn : Func := Go.Proofs.Tryz.f16
def kp : Zcf := [(4000004, [6, 4])]
noncomputable def C (p : List Nat) : Code := (cod fn).sub p
def KR (Q : QT) : KT := Zfc pg fn.results.toList Q
def J4 (Q : QT) (a6 : Pt) (i4 o4 : Nat) (h : Zaa) : Prop := Den pg fn.ntmps (C [1, 1, 1]) [(6, .ptr a6), (4, .ptr (some (i4, o4)))] h (KR Q)
theorem J4i (Q : QT) (a6 : Pt) (i4 o4 : Nat) (h : Zaa) (ht :
 Zbf a6 fun I51 O52 => Zce (Zaw h (.ptr (some (I51, O52 + 5))) 2) fun K53 => Zad K53 fun C54 Z55 => Zaz (some C54) fun S56 => Zad Z55 fun C57 Z58 => Zaz (some C57) fun S59 => Zbl Z58 (Zbw (Zbc h (.ptr (some (i4, o4))) [.str S56, .str S59]) fun H60 => Zce (Zaw H60 (.ptr (some (i4, o4))) 2) fun K61 => Zad K61 fun C62 Z63 => Zaz (some C62) fun S64 => Zad Z63 fun C65 Z66 => Zaz (some C65) fun S67 => Zbl Z66 (Q (.tup [.agg [.str S64, .str S67], .bool true]) H60))) : J4 Q a6 i4 o4 h :=
  Zbe (kp := kp) (cast (by kernel_rfl) ht)
theorem call (a0x0 : Pt) (n0x0 c0x0 : Nat) (e0x0 : Bool) (a0x1 : Pt) (n0x1 c0x1 : Nat) (e0x1 : Bool) (x1x0 x1x1 : List Nat) (h : Zaa) (Q : QT) (ht :
 Zck (h ++ [.cells Zal [.slice a0x0 n0x0 c0x0 e0x0, .slice a0x1 n0x1 c0x1 e0x1] false]) fun H0 => Zck (H0 ++ [.cells Zab [.str x1x0, .str x1x1] false]) fun H1 => Zck (H1 ++ [.cells Zab [.str [], .str []] false]) fun H2 => Zce (Zaw H2 (.ptr (some (h.length, 0))) 2) fun K3 => Zad K3 fun C4 Z5 => xSl (some C4) fun A6 N7 C8 E9 => Zad Z5 fun C10 Z11 => xSl (some C10) fun A12 N13 C14 E15 => Zbl Z11 (Zce (Zaw H2 (.ptr (some (H0.length, 0))) 2) fun K16 => Zad K16 fun C17 Z18 => Zaz (some C17) fun S19 => Zad Z18 fun C20 Z21 => Zaz (some C20) fun S22 => Zbl Z21 (Zag pg Zmm [.agg [.slice A6 N7 C8 E9, .slice A12 N13 C14 E15], .agg [.str S19, .str S22], .bool false] H2 fun V23 H24 =>
 Zjg V23 fun K25 => Zad K25 fun C26 Z27 => Zhs (some C26) fun A28 => Zad Z27 fun C29 Z30 => Zaz (some C29) fun S31 => Zad Z30 fun C32 Z33 => Zaz (some C32) fun S34 => Zbl Z33 (bcase (decide (S34 = [])) (Zbw (Zbc H24 (.ptr (some (H1.length, 0))) [.str [], .str []]) fun H35 => Zce (Zaw H35 (.ptr (some (H1.length, 0))) 2) fun K36 => Zad K36 fun C37 Z38 => Zaz (some C37) fun S39 => Zad Z38 fun C40 Z41 => Zaz (some C40) fun S42 => Zbl Z41 (Q (.tup [.agg [.str S39, .str S42], .bool false]) H35)) (bcase (decide (S34 = [119, 114, 111, 110, 103])) (Zbw (Zbc H24 (.ptr (some (H1.length, 0))) [.str [], .str []]) fun H43 => Zce (Zaw H43 (.ptr (some (H1.length, 0))) 2) fun K44 => Zad K44 fun C45 Z46 => Zaz (some C45) fun S47 => Zad Z46 fun C48 Z49 => Zaz (some C48) fun S50 => Zbl Z49 (Q (.tup [.agg [.str S47, .str S50], .bool false]) H43)) (J4 Q A28 H1.length 0 H24)))))) : Zag pg Zbx [.agg [.slice a0x0 n0x0 c0x0 e0x0, .slice a0x1 n0x1 c0x1 e0x1], .agg [.str x1x0, .str x1x1]] h Q :=
  Zag.of_body kp (c := cod fn) (fn := fn) Go.Proofs.Tryz.func16 (by kernel_rfl) (by kernel_rfl) (Nat.le_of_ble_eq_true (by kernel_rfl))
    (cast (by kernel_rfl) ht)
end Zjn
end Go.Sim

set_option maxRecDepth 100000
set_option linter.unusedVariables false
namespace Go.Sim
open Go Go.RowKit
namespace Zfm
noncomputable abbrev fn : Func := Go.Proofs.Tryz.f100
def kp : Zcf := []
noncomputable def C (p : List Nat) : Code := (cod fn).sub p
def KR (Q : QT) : KT := Zfc pg fn.results.toList Q
theorem call (a0 : Pt) (n0 c0 : Nat) (e0 : Bool) (h : Zaa) (Q : QT) (ht :
 (a0 = none → e0 = true) ∧ (bcase (Option.isNone a0) (Q (.slice none 0 0 true) h) (Zck (h ++ [.cells Zab [] false]) fun H0 => Zcs pg Zbm H0 (.slice (some (h.length, 0)) 0 0 true) (.slice a0 n0 c0 e0) fun V1 H2 => xSl (some V1) fun A3 N4 C5 E6 => Q (.slice A3 N4 C5 E6) H2))) : Zag pg Zcr [.slice a0 n0 c0 e0] h Q :=
  Zag.of_body kp (c := cod fn) (fn := fn) Go.Proofs.Tryz.func100 (by kernel_rfl) (by kernel_rfl) (Nat.le_of_ble_eq_true (by kernel_rfl))
    (cast (by kernel_rfl) ht)
end Zfm
namespace Zkn
noncomputable abbrev fn : Func := Go.Proofs.Tryz.f99
def kp : Zcf := [(2000001, [0])]
noncomputable def C (p : List Nat) : Code := (cod fn).sub p
def KR (Q : QT) : KT := Zfc pg fn.results.toList Q
theorem call (x0 : List Nat) (v1 v2 v3 : Zaq) (h : Zaa) (Q : QT) (ht :
 Zhs (Zae h (v3)) fun A0 => Zhs (Zae h (v3)) fun A1 => Zce (Zaw h (v1) 2) fun K2 => Zad K2 fun C3 Z4 => Zaz (some C3) fun S5 => Zad Z4 fun C6 Z7 => Zaz (some C6) fun S8 => Zbl Z7 (xSl (Zae h (v2)) fun A9 N10 C11 E12 => (Zaw h (v1) 2 = Zaw h (v1) 2) ∧ (Zae h (v3) = Zae h (v3)) ∧ (Zae h (v3) = Zae h (v3)) ∧ Zag pg Zcr [.slice A9 N10 C11 E12] h fun V13 H14 =>
 xSl (some V13) fun A15 N16 C17 E18 => (Zaw H14 (v1) 2 = Zaw h (v1) 2) ∧ (Zae H14 (v3) = Zae h (v3)) ∧ (Zae H14 (v3) = Zae h (v3)) ∧ Zbf A0 fun I19 O20 => Zbw (Zbc H14 (.ptr (some (I19, O20 + 5))) [.str S5, .str S8]) fun H21 => (Zae H21 (v3) = Zae H14 (v3)) ∧ Zbf A1 fun I22 O23 => Zbw (Zbc H21 (.ptr (some (I22, O23 + 7))) [.slice A15 N16 C17 E18]) fun H24 => Q (.tup [.str [], .str x0]) H24)) : Zag pg Zcn [.str x0, v1, v2, v3] h Q :=
  Zag.of_body kp (c := cod fn) (fn := fn) Go.Proofs.Tryz.func99 (by kernel_rfl) (by kernel_rfl) (Nat.le_of_ble_eq_true (by kernel_rfl))
    (cast (by kernel_rfl) ht)
end Zkn
namespace Zci
noncomputable abbrev fn : Func := Go.Proofs.Tryz.f64
def kp : Zcf := [(2000001, [9, 8, 4, 5, 3]), (2000007, [5, 10, 3, 4]), (2000010, [11, 10, 3, 4, 5]), (4000018, [3, 12, 4, 10, 5]), (2000018, [14, 10, 12, 5, 4, 13, 3]), (2000022, [13, 3, 15, 16]), (3000024, [13, 15, 6, 7]), (1000024, [3, 13, 15, 16, 126, 127, 128]), (4000032, [15, 21, 19, 128, 127, 126, 3, 16, 13]), (4000033, [128, 127, 126, 3, 16, 15, 13]), (4000036, [15])]
noncomputable def C (p : List Nat) : Code := (cod fn).sub p
def KR (Q : QT) : KT := Zfc pg fn.results.toList Q
abbrev T24 := Nat → Nat → Pt → Nat → Nat → Bool → List Nat → Pt → Nat → Nat → Bool → Pt → Nat → Nat → Bool → Int → Int → Zaa → Prop
def E24 (R24 : T24) (env : Env) (h : Zaa) : Prop := Zca 3 env fun v env => Zhs (some v) fun a => Zbf a fun i3 o3 => Zca 13 env fun v env => xSl (some v) fun a13 n13 c13 e13 => Zca 15 env fun v env => Zaz (some v) fun x15 => Zca 16 env fun v env => xSl (some v) fun a16 n16 c16 e16 => Zca 126 env fun v env => xSl (some v) fun a126 n126 c126 e126 => Zca 127 env fun v env => Zep .i64 v fun x127 => Zca 128 env fun v env => Zep .i64 v fun x128 => Zlf env (R24 i3 o3 a13 n13 c13 e13 x15 a16 n16 c16 e16 a126 n126 c126 e126 x127 x128 h)
theorem Ykl {R24 : T24} {env : Env} {h : Zaa} (hi : E24 R24 env h) : ∃ i3, ∃ o3, ∃ a13, ∃ n13, ∃ c13, ∃ e13, ∃ x15, ∃ a16, ∃ n16, ∃ c16, ∃ e16, ∃ a126, ∃ n126, ∃ c126, ∃ e126, ∃ x127, ∃ x128, env = [(3, .ptr (some (i3, o3))), (13, .slice a13 n13 c13 e13), (15, .str x15), (16, .slice a16 n16 c16 e16), (126, .slice a126 n126 c126 e126), (127, .int .i64 x127), (128, .int .i64 x128)] ∧ R24 i3 o3 a13 n13 c13 e13 x15 a16 n16 c16 e16 a126 n126 c126 e126 x127 x128 h := by
  unfold E24 at hi
  have hi0 := hi
  clear hi
  obtain ⟨_, _, rfl, hi1⟩ := Zac hi0
  obtain ⟨a, rfl, hi2⟩ := Zcl hi1
  obtain ⟨i3, o3, rfl, hi3⟩ := Zcc hi2
  obtain ⟨_, _, rfl, hi4⟩ := Zac hi3
  obtain ⟨a13, n13, c13, e13, rfl, hi5⟩ := Zbi hi4
  obtain ⟨_, _, rfl, hi6⟩ := Zac hi5
  obtain ⟨x15, rfl, hi7⟩ := Zee hi6
  obtain ⟨_, _, rfl, hi8⟩ := Zac hi7
  obtain ⟨a16, n16, c16, e16, rfl, hi9⟩ := Zbi hi8
  obtain ⟨_, _, rfl, hi10⟩ := Zac hi9
  obtain ⟨a126, n126, c126, e126, rfl, hi11⟩ := Zbi hi10
  obtain ⟨_, _, rfl, hi12⟩ := Zac hi11
  obtain ⟨x127, rfl, hi13⟩ := Zat hi12
  obtain ⟨_, _, rfl, hi14⟩ := Zac hi13
  obtain ⟨x128, rfl, hi15⟩ := Zat hi14
  obtain ⟨rfl, hi16⟩ := Zbq hi15
  have hi := hi16
  exact ⟨i3, o3, a13, n13, c13, e13, x15, a16, n16, c16, e16, a126, n126, c126, e126, x127, x128, rfl, hi⟩
def K0 (Q : QT) : KT := andThen (fun env' h' => (match kp.find 4000034 with | some ks => Den pg fn.ntmps (C [1, 1, 1, 1, 1, 1, 1, 1, 1, 1, 1, 1, 1, 1, 1]) (env'.keep ks) h' (KR Q) | none => den pg fn.ntmps kp (C [1, 1, 1, 1, 1, 1, 1, 1, 1, 1, 1, 1, 1, 1, 1]) env' h' (KR Q))) (KR Q)
def K1 (Q : QT) : KT := Zct 0 (K0 Q)
def K2 (Q : QT) : KT := Zij kp 24 (K1 Q)
def K3 (Q : QT) (R24 : T24) : KT := rnd ((kp.find 1000024).getD []) (E24 R24) (K2 Q)
def K4 (Q : QT) (R24 : T24) : KT := andThen (fun env' h' => (match kp.find 4000033 with | some ks => Den pg fn.ntmps (C [1, 1, 1, 1, 1, 1, 1, 1, 1, 1, 1, 1, 1, 1, 0, 1, 0, 0, 1, 1, 1]) (env'.keep ks) h' (K3 Q R24) | none => den pg fn.ntmps kp (C [1, 1, 1, 1, 1, 1, 1, 1, 1, 1, 1, 1, 1, 1, 0, 1, 0, 0, 1, 1, 1]) env' h' (K3 Q R24))) (K3 Q R24)
def K5 (Q : QT) (R24 : T24) : KT := Zct 1 (K4 Q R24)
def J18 (Q : QT) (i3 o3 : Nat) (x12 : Int) (i4 o4 i10x0 o10x0 i10x1 o10x1 i10x2 o10x2 i5 o5 : Nat) (h : Zaa) : Prop := Den pg fn.ntmps (C [1, 1, 1, 1, 1, 1, 1, 1, 1, 1]) [(3, .ptr (some (i3, o3))), (12, .int .i64 x12), (4, .ptr (some (i4, o4))), (10, .fn Zcn [.ptr (some (i10x0, o10x0)), .ptr (some (i10x1, o10x1)), .ptr (some (i10x2, o10x2))]), (5, .ptr (some (i5, o5)))] h (KR Q)
def L24 (Q : QT) (i3 o3 : Nat) (a13 : Pt) (n13 c13 : Nat) (e13 : Bool) (x15 : List Nat) (a16 : Pt) (n16 c16 : Nat) (e16 : Bool) (a126 : Pt) (n126 c126 : Nat) (e126 : Bool) (x127 x128 : Int) (h : Zaa) : Prop := Zes (Den pg fn.ntmps (C [1, 1, 1, 1, 1, 1, 1, 1, 1, 1, 1, 1, 1, 1, 0, 1, 0, 0])) ((kp.find 1000024).getD []) (K2 Q) [(3, .ptr (some (i3, o3))), (13, .slice a13 n13 c13 e13), (15, .str x15), (16, .slice a16 n16 c16 e16), (126, .slice a126 n126 c126 e126), (127, .int .i64 x127), (128, .int .i64 x128)] h
def J32 (Q : QT) (R24 : T24) (x15 x21 x19 : List Nat) (x128 x127 : Int) (a126 : Pt) (n126 c126 : Nat) (e126 : Bool) (i3 o3 : Nat) (a16 : Pt) (n16 c16 : Nat) (e16 : Bool) (a13 : Pt) (n13 c13 : Nat) (e13 : Bool) (h : Zaa) : Prop := Den pg fn.ntmps (C [1, 1, 1, 1, 1, 1, 1, 1, 1, 1, 1, 1, 1, 1, 0, 1, 0, 0, 1, 1, 0, 0, 1, 1, 1, 1, 1]) [(15, .str x15), (21, .str x21), (19, .str x19), (128, .int .i64 x128), (127, .int .i64 x127), (126, .slice a126 n126 c126 e126), (3, .ptr (some (i3, o3))), (16, .slice a16 n16 c16 e16), (13, .slice a13 n13 c13 e13)] h (K5 Q R24)
def Yrz (Q : QT) (a13 : Pt) (n13 c13 : Nat) (e13 : Bool) (x15 : List Nat) (h : Zaa) : Prop := At (K1 Q) (.exit 0) [(13, .slice a13 n13 c13 e13), (15, .str x15), (6, .undef), (7, .undef)] h
def J33 (Q : QT) (R24 : T24) (x128 x127 : Int) (a126 : Pt) (n126 c126 : Nat) (e126 : Bool) (i3 o3 : Nat) (a16 : Pt) (n16 c16 : Nat) (e16 : Bool) (x15 : List Nat) (a13 : Pt) (n13 c13 : Nat) (e13 : Bool) (h : Zaa) : Prop := Den pg fn.ntmps (C [1, 1, 1, 1, 1, 1, 1, 1, 1, 1, 1, 1, 1, 1, 0, 1, 0, 0, 1, 1, 1]) [(128, .int .i64 x128), (127, .int .i64 x127), (126, .slice a126 n126 c126 e126), (3, .ptr (some (i3, o3))), (16, .slice a16 n16 c16 e16), (15, .str x15), (13, .slice a13 n13 c13 e13)] h (K3 Q R24)
def J36 (Q : QT) (x15 : List Nat) (h : Zaa) : Prop := Den pg fn.ntmps (C [1, 1, 1, 1, 1, 1, 1, 1, 1, 1, 1, 1, 1, 1, 1, 1]) [(15, .str x15)] h (KR Q)
theorem J18i (Q : QT) (i3 o3 : Nat) (x12 : Int) (i4 o4 i10x0 o10x0 i10x1 o10x1 i10x2 o10x2 i5 o5 : Nat) (h : Zaa) (ht :
 Zhs (Zae h (.ptr (some (i3, o3)))) fun A161 => Zbf A161 fun I162 O163 => xSl (Zae h (.ptr (some (I162, O163 + 0 + 1)))) fun A164 N165 C166 E167 => (0 ≤ (x12 : Int) ∧ (x12 : Int) < (N165 : Nat)) ∧ (Zbf A164 fun I168 O169 => Zce (Zaw h (.ptr (some (I168, O169 + (Int.toNat x12) * 3))) 3) fun K170 => Zad K170 fun C171 Z172 => Zaz (some C171) fun S173 => Zad Z172 fun C174 Z175 => Zaz (some C174) fun S176 => Zad Z175 fun C177 Z178 => xSl (some C177) fun A179 N180 C181 E182 => Zbl Z178 (Zaz (Zae h (.ptr (some (i4, o4 + 1)))) fun S183 => (Zaw h (.ptr (some (I168, O169 + (Int.toNat x12) * 3))) 3 = Zaw h (.ptr (some (I168, O169 + (Int.toNat x12) * 3))) 3) ∧ (Zae h (.ptr (some (I162, O163 + 0 + 1))) = Zae h (.ptr (some (I162, O163 + 0 + 1)))) ∧ (Zae h (.ptr (some (i3, o3))) = Zae h (.ptr (some (i3, o3)))) ∧ Zag pg Zhq [.agg [.str S173, .str S176, .slice A179 N180 C181 E182], .str S183] h fun V184 H185 =>
 Zjg V184 fun K186 => Zad K186 fun C187 Z188 => xSl (some C187) fun A189 N190 C191 E192 => Zad Z188 fun C193 Z194 => Zbr (some C193) fun B195 => Zbl Z194 ((Zae H185 (.ptr (some (I162, O163 + 0 + 1))) = Zae h (.ptr (some (I162, O163 + 0 + 1)))) ∧ (Zae H185 (.ptr (some (i3, o3))) = Zae h (.ptr (some (i3, o3)))) ∧ bcase (!B195) (Zag pg Zcn [.str ([98, 105, 103]), .ptr (some (i10x0, o10x0)), .ptr (some (i10x1, o10x1)), .ptr (some (i10x2, o10x2))] H185 fun V196 H197 =>
 Zjg V196 fun K198 => Zad K198 fun C199 Z200 => Zaz (some C199) fun S201 => Zad Z200 fun C202 Z203 => Zaz (some C202) fun S204 => Zbl Z203 (Q (.tup [.str S201, .str S204]) H197)) (Zag pg Zrs [.int .i64 x12] H185 fun V205 H206 =>
 Zaz (some V205) fun S207 => xSl (Zae H206 (.ptr (some (i5, o5)))) fun A208 N209 C210 E211 => Zce (Zaw H206 (.ptr (some (i4, o4))) 2) fun K212 => Zad K212 fun C213 Z214 => Zaz (some C213) fun S215 => Zad Z214 fun C216 Z217 => Zaz (some C216) fun S218 => Zbl Z217 ((Zag pg Zcr [.slice A208 N209 C210 E211] H206 fun V219 H220 =>
 xSl (some V219) fun A221 N222 C223 E224 => (Zaw H220 (.ptr (some (i4, o4))) 2 = Zaw H206 (.ptr (some (i4, o4))) 2) ∧ Zck (H220 ++ [.cells Zab [.str S215, .str S218] false]) fun H225 => (Zae H225 (.ptr (some (i5, o5))) = Zae H220 (.ptr (some (i5, o5)))) ∧ Zcs pg Zbm H225 (.slice A221 N222 C223 E224) (.slice (some (H220.length, 0)) 1 1 true) fun V226 H227 => xSl (some V226) fun A228 N229 C230 E231 => (Zaw H227 (.ptr (some (i4, o4))) 2 = Zaw H225 (.ptr (some (i4, o4))) 2) ∧ (Zae H227 (.ptr (some (i5, o5))) = Zae H225 (.ptr (some (i5, o5)))) ∧ L24 Q i3 o3 A189 N190 C191 E192 S207 A228 N229 C230 E231 A189 N190 C191 E192 (((N190 : Nat) : Int)) 0 H227) ∧ (Zck (H206 ++ [.cells Zab [.str S215, .str S218] false]) fun H232 => (Zae H232 (.ptr (some (i5, o5))) = Zae H206 (.ptr (some (i5, o5)))) ∧ Zag pg Zcr [.slice A208 N209 C210 E211] H232 fun V233 H234 =>
 xSl (some V233) fun A235 N236 C237 E238 => (Zaw H234 (.ptr (some (i4, o4))) 2 = Zaw H232 (.ptr (some (i4, o4))) 2) ∧ Zcs pg Zbm H234 (.slice A235 N236 C237 E238) (.slice (some (H206.length, 0)) 1 1 true) fun V239 H240 => xSl (some V239) fun A241 N242 C243 E244 => (Zaw H240 (.ptr (some (i4, o4))) 2 = Zaw H234 (.ptr (some (i4, o4))) 2) ∧ (Zae H240 (.ptr (some (i5, o5))) = Zae H234 (.ptr (some (i5, o5)))) ∧ L24 Q i3 o3 A189 N190 C191 E192 S207 A241 N242 C243 E244 A189 N190 C191 E192 (((N190 : Nat) : Int)) 0 H240))))))) : J18 Q i3 o3 x12 i4 o4 i10x0 o10x0 i10x1 o10x1 i10x2 o10x2 i5 o5 h :=
  Zbe (kp := kp) (cast (by kernel_rfl) ht)
def L24t (Q : QT) (R24 : T24) (i3 o3 : Nat) (a13 : Pt) (n13 c13 : Nat) (e13 : Bool) (x15 : List Nat) (a16 : Pt) (n16 c16 : Nat) (e16 : Bool) (a126 : Pt) (n126 c126 : Nat) (e126 : Bool) (x127 x128 : Int) (h : Zaa) : Prop :=
 bcase (decide ((x128 : Int) < x127)) ((0 ≤ (x128 : Int) ∧ (x128 : Int) < (n126 : Nat)) ∧ (Zbf a126 fun I245 O246 => Zce (Zaw h (.ptr (some (I245, O246 + (Int.toNat x128) * 2))) 2) fun K247 => Zad K247 fun C248 Z249 => Zaz (some C248) fun S250 => Zad Z249 fun C251 Z252 => Zaz (some C251) fun S253 => Zbl Z252 (Zck (h ++ [.cells Zab [.str [], .str []] false]) fun H254 => Zbw (Zbc H254 (.ptr (some (h.length, 0))) [.str S250, .str S253]) fun H255 => Zhs (Zae H255 (.ptr (some (i3, o3)))) fun A256 => Zce (Zaw H255 (.ptr (some (h.length, 0))) 2) fun K257 => Zad K257 fun C258 Z259 => Zaz (some C258) fun S260 => Zad Z259 fun C261 Z262 => Zaz (some C261) fun S263 => Zbl Z262 (Zag pg Zhy [.ptr A256, .agg [.str S260, .str S263], .slice a16 n16 c16 e16] H255 fun V264 H265 =>
 Zjg V264 fun K266 => Zad K266 fun C267 Z268 => Zaz (some C267) fun S269 => Zad Z268 fun C270 Z271 => Zaz (some C270) fun S272 => Zbl Z271 (bcase (!(decide (S272 = []))) (Q (.tup [.str [], .str S272]) H265) (bcase ((x128 : Int) == 0) (J32 Q R24 x15 [40] S269 x128 x127 a126 n126 c126 e126 i3 o3 a16 n16 c16 e16 a13 n13 c13 e13 H265) (J32 Q R24 x15 [44] S269 x128 x127 a126 n126 c126 e126 i3 o3 a16 n16 c16 e16 a13 n13 c13 e13 H265))))))) (Yrz Q a13 n13 c13 e13 x15 h)
theorem Yrj (Q : QT) (R24 : T24) (i3 o3 : Nat) (a13 : Pt) (n13 c13 : Nat) (e13 : Bool) (x15 : List Nat) (a16 : Pt) (n16 c16 : Nat) (e16 : Bool) (a126 : Pt) (n126 c126 : Nat) (e126 : Bool) (x127 x128 : Int) (h : Zaa) (ht : L24t Q R24 i3 o3 a13 n13 c13 e13 x15 a16 n16 c16 e16 a126 n126 c126 e126 x127 x128 h) : Den pg fn.ntmps (C [1, 1, 1, 1, 1, 1, 1, 1, 1, 1, 1, 1, 1, 1, 0, 1, 0, 0]) [(3, .ptr (some (i3, o3))), (13, .slice a13 n13 c13 e13), (15, .str x15), (16, .slice a16 n16 c16 e16), (126, .slice a126 n126 c126 e126), (127, .int .i64 x127), (128, .int .i64 x128)] h (K3 Q R24) :=
  Zbe (kp := kp) (cast (by kernel_rfl) ht)
theorem L24ind (Q : QT) (i3 o3 : Nat) (a13 : Pt) (n13 c13 : Nat) (e13 : Bool) (a16 : Pt) (n16 c16 : Nat) (e16 : Bool) (a126 : Pt) (n126 c126 : Nat) (e126 : Bool) (x127 : Int) {G : Type} (J : G → List Nat → Int → Zaa → Prop) (m : G → Nat)
 (hr : ∀ (g : G) (x15 : List Nat) (x128 : Int) (h : Zaa), J g x15 x128 h → ∀ (R24 : T24), (∀ g' (x15 : List Nat) (x128 : Int) (h : Zaa), m g' < m g → J g' x15 x128 h → R24 i3 o3 a13 n13 c13 e13 x15 a16 n16 c16 e16 a126 n126 c126 e126 x127 x128 h) → L24t Q R24 i3 o3 a13 n13 c13 e13 x15 a16 n16 c16 e16 a126 n126 c126 e126 x127 x128 h)
 (g : G) (x15 : List Nat) (x128 : Int) (h : Zaa) (hj : J g x15 x128 h) : L24 Q i3 o3 a13 n13 c13 e13 x15 a16 n16 c16 e16 a126 n126 c126 e126 x127 x128 h := by
  refine Zes.inv2 (fun g => E24 fun i3' o3' a13' n13' c13' e13' x15 a16' n16' c16' e16' a126' n126' c126' e126' x127' x128 h => i3 = i3' ∧ o3 = o3' ∧ a13 = a13' ∧ n13 = n13' ∧ c13 = c13' ∧ e13 = e13' ∧ a16 = a16' ∧ n16 = n16' ∧ c16 = c16' ∧ e16 = e16' ∧ a126 = a126' ∧ n126 = n126' ∧ c126 = c126' ∧ e126 = e126' ∧ x127 = x127' ∧ J g x15 x128 h) (fun g => E24 fun i3' o3' a13' n13' c13' e13' x15 a16' n16' c16' e16' a126' n126' c126' e126' x127' x128 h => i3 = i3' ∧ o3 = o3' ∧ a13 = a13' ∧ n13 = n13' ∧ c13 = c13' ∧ e13 = e13' ∧ a16 = a16' ∧ n16 = n16' ∧ c16 = c16' ∧ e16 = e16' ∧ a126 = a126' ∧ n126 = n126' ∧ c126 = c126' ∧ e126 = e126' ∧ x127 = x127' ∧ ∃ g', m g' < m g ∧ J g' x15 x128 h) m ?_ ?_ g ⟨rfl, rfl, rfl, rfl, rfl, rfl, rfl, rfl, rfl, rfl, rfl, rfl, rfl, rfl, rfl, hj⟩
  · intro g env h hi
    obtain ⟨i3', o3', a13', n13', c13', e13', x15, a16', n16', c16', e16', a126', n126', c126', e126', x127', x128, rfl, rfl, rfl, rfl, rfl, rfl, rfl, rfl, rfl, rfl, rfl, rfl, rfl, rfl, rfl, rfl, hj⟩ := Ykl hi
    exact Yrj Q _ i3 o3 a13 n13 c13 e13 x15 a16 n16 c16 e16 a126 n126 c126 e126 x127 x128 h (hr g x15 x128 h hj (fun i3' o3' a13' n13' c13' e13' x15 a16' n16' c16' e16' a126' n126' c126' e126' x127' x128 h => i3 = i3' ∧ o3 = o3' ∧ a13 = a13' ∧ n13 = n13' ∧ c13 = c13' ∧ e13 = e13' ∧ a16 = a16' ∧ n16 = n16' ∧ c16 = c16' ∧ e16 = e16' ∧ a126 = a126' ∧ n126 = n126' ∧ c126 = c126' ∧ e126 = e126' ∧ x127 = x127' ∧ ∃ g', m g' < m g ∧ J g' x15 x128 h) fun g' x15 x128 h hlt hj => ⟨rfl, rfl, rfl, rfl, rfl, rfl, rfl, rfl, rfl, rfl, rfl, rfl, rfl, rfl, rfl, g', hlt, hj⟩)
  · intro g env h hi
    obtain ⟨i3', o3', a13', n13', c13', e13', x15, a16', n16', c16', e16', a126', n126', c126', e126', x127', x128, rfl, rfl, rfl, rfl, rfl, rfl, rfl, rfl, rfl, rfl, rfl, rfl, rfl, rfl, rfl, rfl, g', hlt, hj⟩ := Ykl hi
    exact ⟨g', hlt, rfl, rfl, rfl, rfl, rfl, rfl, rfl, rfl, rfl, rfl, rfl, rfl, rfl, rfl, rfl, hj⟩
theorem J32i (Q : QT) (R24 : T24) (x15 x21 x19 : List Nat) (x128 x127 : Int) (a126 : Pt) (n126 c126 : Nat) (e126 : Bool) (i3 o3 : Nat) (a16 : Pt) (n16 c16 : Nat) (e16 : Bool) (a13 : Pt) (n13 c13 : Nat) (e13 : Bool) (h : Zaa) (ht :
 List.length x21 + List.length x19 ≤ 9223372036854775807 ∧ (List.length x15 + List.length (x21 ++ x19) ≤ 9223372036854775807 ∧ (J33 Q R24 x128 x127 a126 n126 c126 e126 i3 o3 a16 n16 c16 e16 (x15 ++ (x21 ++ x19)) a13 n13 c13 e13 h))) : J32 Q R24 x15 x21 x19 x128 x127 a126 n126 c126 e126 i3 o3 a16 n16 c16 e16 a13 n13 c13 e13 h :=
  Zbe (kp := kp) (cast (by kernel_rfl) ht)
theorem A24x0i (Q : QT) (a13 : Pt) (n13 c13 : Nat) (e13 : Bool) (x15 : List Nat) (h : Zaa) (ht :
 bcase (decide (((((n13 : Nat) : Int)) : Int) > 0)) (List.length x15 + List.length [41] ≤ 9223372036854775807 ∧ (J36 Q (x15 ++ [41]) h)) (J36 Q x15 h)) : Yrz Q a13 n13 c13 e13 x15 h :=
  At.mk (cast (by kernel_rfl) ht)
theorem J33i (Q : QT) (R24 : T24) (x128 x127 : Int) (a126 : Pt) (n126 c126 : Nat) (e126 : Bool) (i3 o3 : Nat) (a16 : Pt) (n16 c16 : Nat) (e16 : Bool) (x15 : List Nat) (a13 : Pt) (n13 c13 : Nat) (e13 : Bool) (h : Zaa) (ht :
 R24 i3 o3 a13 n13 c13 e13 x15 a16 n16 c16 e16 a126 n126 c126 e126 x127 (IntKind.wrap .i64 (x128 + 1)) h) : J33 Q R24 x128 x127 a126 n126 c126 e126 i3 o3 a16 n16 c16 e16 x15 a13 n13 c13 e13 h :=
  Zbe (kp := kp) (cast (by kernel_rfl) ht)
theorem J36i (Q : QT) (x15 : List Nat) (h : Zaa) (ht :
 Q (.tup [.str x15, .str []]) h) : J36 Q x15 h :=
  Zbe (kp := kp) (cast (by kernel_rfl) ht)
theorem call (a0 : Pt) (x1x0 x1x1 : List Nat) (a2 : Pt) (n2 c2 : Nat) (e2 : Bool) (h : Zaa) (Q : QT) (ht :
 Zck (h ++ [.cells Zfo [.ptr a0] false]) fun H0 => Zck (H0 ++ [.cells Zab [.str x1x0, .str x1x1] false]) fun H1 => Zck (H1 ++ [.cells Zbm [.slice a2 n2 c2 e2] false]) fun H2 => Zhs (Zae H2 (.ptr (some (h.length, 0)))) fun A3 => Zbf A3 fun I4 O5 => Zxl (Zae H2 (.ptr (some (I4, O5 + 3)))) fun V6 => Zce (Zaw H2 (.ptr (some (H0.length, 0))) 2) fun K7 => Zad K7 fun C8 Z9 => Zaz (some C8) fun S10 => Zad Z9 fun C11 Z12 => Zaz (some C11) fun S13 => Zbl Z12 ((Zae H2 (.ptr (some (I4, O5 + 3))) = Zae H2 (.ptr (some (I4, O5 + 3)))) ∧ (Zae H2 (.ptr (some (h.length, 0))) = Zae H2 (.ptr (some (h.length, 0)))) ∧ Yqy V6 fun Y14 W15 => Zag pg Y14 ([.agg [.str S10, .str S13]] ++ W15) H2 fun V16 H17 =>
 Zjg V16 fun K18 => Zad K18 fun C19 Z20 => Zaz (some C19) fun S21 => Zad Z20 fun C22 Z23 => Zbr (some C22) fun B24 => Zbl Z23 ((Zae H17 (.ptr (some (h.length, 0))) = Zae H2 (.ptr (some (h.length, 0)))) ∧ bcase B24 (Q (.tup [.str S21, .str []]) H17) (Zhs (Zae H17 (.ptr (some (h.length, 0)))) fun A25 => Zbf A25 fun I26 O27 => xSl (Zae H17 (.ptr (some (I26, O27 + 4)))) fun A28 N29 C30 E31 => bcase (decide (((((N29 : Nat) : Int)) : Int) ≥ 300)) (Zag pg Zcn [.str ([108, 111, 110, 103]), .ptr (some (H0.length, 0)), .ptr (some (H1.length, 0)), .ptr (some (h.length, 0))] H17 fun V32 H33 =>
 Zjg V32 fun K34 => Zad K34 fun C35 Z36 => Zaz (some C35) fun S37 => Zad Z36 fun C38 Z39 => Zaz (some C38) fun S40 => Zbl Z39 (Q (.tup [.str S37, .str S40]) H33)) (Zhs (Zae H17 (.ptr (some (h.length, 0)))) fun A41 => Zhs (Zae H17 (.ptr (some (h.length, 0)))) fun A42 => Zbf A42 fun I43 O44 => xSl (Zae H17 (.ptr (some (I43, O44 + 4)))) fun A45 N46 C47 E48 => Zce (Zaw H17 (.ptr (some (H0.length, 0))) 2) fun K49 => Zad K49 fun C50 Z51 => Zaz (some C50) fun S52 => Zad Z51 fun C53 Z54 => Zaz (some C53) fun S55 => Zbl Z54 ((Zae H17 (.ptr (some (I43, O44 + 4))) = Zae H17 (.ptr (some (I43, O44 + 4)))) ∧ (Zae H17 (.ptr (some (h.length, 0))) = Zae H17 (.ptr (some (h.length, 0)))) ∧ (Zae H17 (.ptr (some (h.length, 0))) = Zae H17 (.ptr (some (h.length, 0)))) ∧ Zck (H17 ++ [.cells Zab [.str S52, .str S55] false]) fun H56 => (Zae H56 (.ptr (some (I43, O44 + 4))) = Zae H17 (.ptr (some (I43, O44 + 4)))) ∧ (Zae H56 (.ptr (some (h.length, 0))) = Zae H17 (.ptr (some (h.length, 0)))) ∧ (Zae H56 (.ptr (some (h.length, 0))) = Zae H17 (.ptr (some (h.length, 0)))) ∧ Zcs pg Zbm H56 (.slice A45 N46 C47 E48) (.slice (some (H17.length, 0)) 1 1 true) fun V57 H58 => xSl (some V57) fun A59 N60 C61 E62 => (Zae H58 (.ptr (some (h.length, 0))) = Zae H56 (.ptr (some (h.length, 0)))) ∧ (Zae H58 (.ptr (some (h.length, 0))) = Zae H56 (.ptr (some (h.length, 0)))) ∧ Zbf A41 fun I63 O64 => Zbw (Zbc H58 (.ptr (some (I63, O64 + 4))) [.slice A59 N60 C61 E62]) fun H65 => xSl (Zae H65 (.ptr (some (H1.length, 0)))) fun A66 N67 C68 E69 => bcase (decide (((((N67 : Nat) : Int)) : Int) > 30)) (Zag pg Zcn [.str ([100, 101, 101, 112]), .ptr (some (H0.length, 0)), .ptr (some (H1.length, 0)), .ptr (some (h.length, 0))] H65 fun V70 H71 =>
 Zjg V70 fun K72 => Zad K72 fun C73 Z74 => Zaz (some C73) fun S75 => Zad Z74 fun C76 Z77 => Zaz (some C76) fun S78 => Zbl Z77 (Q (.tup [.str S75, .str S78]) H71)) (Zhs (Zae H65 (.ptr (some (h.length, 0)))) fun A79 => Zbf A79 fun I80 O81 => Zce (Zaw H65 (.ptr (some (I80, O81 + 0))) 2) fun K82 => Zad K82 fun C83 Z84 => xSl (some C83) fun A85 N86 C87 E88 => Zad Z84 fun C89 Z90 => xSl (some C89) fun A91 N92 C93 E94 => Zbl Z90 (Zce (Zaw H65 (.ptr (some (H0.length, 0))) 2) fun K95 => Zad K95 fun C96 Z97 => Zaz (some C96) fun S98 => Zad Z97 fun C99 Z100 => Zaz (some C99) fun S101 => Zbl Z100 ((Zaw H65 (.ptr (some (I80, O81 + 0))) 2 = Zaw H65 (.ptr (some (I80, O81 + 0))) 2) ∧ (Zae H65 (.ptr (some (h.length, 0))) = Zae H65 (.ptr (some (h.length, 0)))) ∧ Zag pg Zkx [.agg [.slice A85 N86 C87 E88, .slice A91 N92 C93 E94], .agg [.str S98, .str S101]] H65 fun V102 H103 =>
 xSl (some V102) fun A104 N105 C106 E107 => (Zae H103 (.ptr (some (h.length, 0))) = Zae H65 (.ptr (some (h.length, 0)))) ∧ bcase ((((N105 : Nat) : Int) : Int) == 0) (Zag pg Zcn [.str ([110, 111, 110, 101]), .ptr (some (H0.length, 0)), .ptr (some (H1.length, 0)), .ptr (some (h.length, 0))] H103 fun V108 H109 =>
 Zjg V108 fun K110 => Zad K110 fun C111 Z112 => Zaz (some C111) fun S113 => Zad Z112 fun C114 Z115 => Zaz (some C114) fun S116 => Zbl Z115 (Q (.tup [.str S113, .str S116]) H109)) ((0 ≤ (0 : Int) ∧ (0 : Int) < (N105 : Nat)) ∧ (Zbf A104 fun I117 O118 => Zem .i64 (Zae H103 (.ptr (some (I117, O118 + (Int.toNat 0) * 1)))) fun X119 => bcase (decide (((((N105 : Nat) : Int)) : Int) > 1)) (Zhs (Zae H103 (.ptr (some (h.length, 0)))) fun A120 => Zbf A120 fun I121 O122 => Zce (Zaw H103 (.ptr (some (I121, O122 + 0))) 2) fun K123 => Zad K123 fun C124 Z125 => xSl (some C124) fun A126 N127 C128 E129 => Zad Z125 fun C130 Z131 => xSl (some C130) fun A132 N133 C134 E135 => Zbl Z131 (Zag pg Zke [.agg [.slice A126 N127 C128 E129, .slice A132 N133 C134 E135], .slice A104 N105 C106 E107] H103 fun V136 H137 =>
 Zem .i64 (some V136) fun X138 => Zhs (Zae H137 (.ptr (some (h.length, 0)))) fun A139 => Zbf A139 fun I140 O141 => Zbr (Zae H137 (.ptr (some (I140, O141 + 2)))) fun B142 => bcase (!B142) (Zag pg Zcn [.str ([109, 97, 110, 121]), .ptr (some (H0.length, 0)), .ptr (some (H1.length, 0)), .ptr (some (h.length, 0))] H137 fun V143 H144 =>
 Zjg V143 fun K145 => Zad K145 fun C146 Z147 => Zaz (some C146) fun S148 => Zad Z147 fun C149 Z150 => Zaz (some C149) fun S151 => Zbl Z150 (Q (.tup [.str S148, .str S151]) H144)) (bcase (decide ((X138 : Int) < 0)) (Zag pg Zcn [.str ([109, 97, 110, 121]), .ptr (some (H0.length, 0)), .ptr (some (H1.length, 0)), .ptr (some (h.length, 0))] H137 fun V152 H153 =>
 Zjg V152 fun K154 => Zad K154 fun C155 Z156 => Zaz (some C155) fun S157 => Zad Z156 fun C158 Z159 => Zaz (some C158) fun S160 => Zbl Z159 (Q (.tup [.str S157, .str S160]) H153)) (J18 Q h.length 0 X138 H0.length 0 H0.length 0 H1.length 0 h.length 0 H1.length 0 H137)))) (J18 Q h.length 0 X119 H0.length 0 H0.length 0 H1.length 0 h.length 0 H1.length 0 H103)))))))))))) : Zag pg Zhy [.ptr a0, .agg [.str x1x0, .str x1x1], .slice a2 n2 c2 e2] h Q :=
  Zag.of_body kp (c := cod fn) (fn := fn) Go.Proofs.Tryz.func64 (by kernel_rfl) (by kernel_rfl) (Nat.le_of_ble_eq_true (by kernel_rfl))
    (cast (by kernel_rfl) ht)
end Zci
namespace Zlp
noncomputable abbrev fn : Func := Go.Proofs.Tryz.f63
def kp : Zcf := []
noncomputable def C (p : List Nat) : Code := (cod fn).sub p
def KR (Q : QT) : KT := Zfc pg fn.results.toList Q
theorem call (x0x0 x0x1 : List Nat) (h : Zaa) (Q : QT) (ht :
 Zck (h ++ [.cells Zab [.str x0x0, .str x0x1] false]) fun H0 => Q (.tup [.str [], .bool false]) H0) : Zag pg Zco [.agg [.str x0x0, .str x0x1]] h Q :=
  Zag.of_body kp (c := cod fn) (fn := fn) Go.Proofs.Tryz.func63 (by kernel_rfl) (by kernel_rfl) (Nat.le_of_ble_eq_true (by kernel_rfl))
    (cast (by kernel_rfl) ht)
end Zlp
end Go.Sim
