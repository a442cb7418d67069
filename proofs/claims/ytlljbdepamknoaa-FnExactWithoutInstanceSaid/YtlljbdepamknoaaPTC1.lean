/- A part of the proof of a statement of this seat: see the text that holds the theorem. No condition. -/
import Derived.Test.YtlljbdepamknoaaNm
set_option linter.unusedVariables false
set_option linter.unusedSimpArgs false
set_option linter.all false
set_option maxRecDepth 100000
set_option linter.unusedVariables false
namespace Go.Sim
open Go Go.RowKit
namespace Zkf
noncomputable abbrev fn : Func := Go.Proofs.Try.f125
def kp : Zcg := []
noncomputable def C (p : List Nat) : Code := (cod fn).sub p
def KR (Q : QT) : KT := Zex pg fn.results.toList Q
theorem call (x0x0 x0x1 : List Nat) (v1 : Zag) (h : Zaa) (Q : QT) (ht :
 Zdw (h ++ [.cells Zan [.str x0x0, .str x0x1] false]) fun H0 => Zbs (Zai H0 (.ptr (some (h.length, 0 + 0)))) fun S1 => Zbs (Zai H0 (v1)) fun S2 => Q (.bool (decide (S1 = S2))) H0) : Zae pg Zbz [.agg [.str x0x0, .str x0x1], v1] h Q :=
  Zae.of_body kp (c := cod fn) (fn := fn) Go.Proofs.Try.func125 (by kernel_rfl) (by kernel_rfl) (Nat.le_of_ble_eq_true (by kernel_rfl))
    (cast (by kernel_rfl) ht)
end Zkf
namespace Zaz
noncomputable abbrev fn : Func := Go.Proofs.Try.f137
def kp : Zcg := [(3000002, [4]), (1000002, [0, 1, 7, 8])]
noncomputable def C (p : List Nat) : Code := (cod fn).sub p
def KR (Q : QT) : KT := Zex pg fn.results.toList Q
abbrev T2 := Pt → Nat → Nat → Bool → Zag → Int → Int → Zaa → Prop
def E2 (R2 : T2) (env : Env) (h : Zaa) : Prop := Zcq 0 env fun v env => xSl (some v) fun a0 n0 c0 e0 => Zcq 1 env fun v env => eFn Zbz v fun cs => Zak cs fun c cs' => Zwt (some c) fun v1x0 => Zct cs' (Zcq 7 env fun v env => Zfb .i64 v fun x7 => Zcq 8 env fun v env => Zfb .i64 v fun x8 => Zld env (R2 a0 n0 c0 e0 v1x0 x7 x8 h))
theorem Zdd {R2 : T2} {env : Env} {h : Zaa} (hi : E2 R2 env h) : ∃ a0, ∃ n0, ∃ c0, ∃ e0, ∃ v1x0, ∃ x7, ∃ x8, env = [(0, .slice a0 n0 c0 e0), (1, .fn Zbz [v1x0]), (7, .int .i64 x7), (8, .int .i64 x8)] ∧ R2 a0 n0 c0 e0 v1x0 x7 x8 h := by
  unfold E2 at hi
  have hi0 := hi
  clear hi
  obtain ⟨_, _, rfl, hi1⟩ := Zad hi0
  obtain ⟨a0, n0, c0, e0, rfl, hi2⟩ := Zbo hi1
  obtain ⟨_, _, rfl, hi3⟩ := Zad hi2
  obtain ⟨cs, rfl, hi4⟩ := Zxs hi3
  obtain ⟨c, cs', rfl, hi5⟩ := Zri hi4
  obtain ⟨v1x0, hx, hi6⟩ := Zlx hi5
  replace hx := (Option.some.inj hx).symm
  subst hx
  obtain ⟨rfl, hi7⟩ := Zuk hi6
  obtain ⟨_, _, rfl, hi8⟩ := Zad hi7
  obtain ⟨x7, rfl, hi9⟩ := Zas hi8
  obtain ⟨_, _, rfl, hi10⟩ := Zad hi9
  obtain ⟨x8, rfl, hi11⟩ := Zas hi10
  obtain ⟨rfl, hi12⟩ := Zbm hi11
  have hi := hi12
  exact ⟨a0, n0, c0, e0, v1x0, x7, x8, rfl, hi⟩
def K0 (Q : QT) : KT := andThen (fun env' h' => (match kp.find 4000007 with | some ks => Den pg fn.ntmps (C [1, 1]) (env'.keep ks) h' (KR Q) | none => den pg fn.ntmps kp (C [1, 1]) env' h' (KR Q))) (KR Q)
def K1 (Q : QT) : KT := Zda 0 (K0 Q)
def K2 (Q : QT) : KT := left kp 2 (K1 Q)
def K3 (Q : QT) (R2 : T2) : KT := rnd ((kp.find 1000002).getD []) (E2 R2) (K2 Q)
def L2 (Q : QT) (a0 : Pt) (n0 c0 : Nat) (e0 : Bool) (v1x0 : Zag) (x7 x8 : Int) (h : Zaa) : Prop := Zes (Den pg fn.ntmps (C [1, 0, 1, 0, 0])) ((kp.find 1000002).getD []) (K2 Q) [(0, .slice a0 n0 c0 e0), (1, .fn Zbz [v1x0]), (7, .int .i64 x7), (8, .int .i64 x8)] h
def Zkd (Q : QT) (h : Zaa) : Prop := At (K1 Q) (.exit 0) [(4, .undef)] h
def L2t (Q : QT) (R2 : T2) (a0 : Pt) (n0 c0 : Nat) (e0 : Bool) (v1x0 : Zag) (x7 x8 : Int) (h : Zaa) : Prop :=
 bcase (decide ((x8 : Int) < x7)) ((0 ≤ (x8 : Int) ∧ (x8 : Int) < (n0 : Nat)) ∧ (Zbu a0 fun I0 O1 => Zdg (Zbw h (.ptr (some (I0, O1 + (Int.toNat x8) * 2))) 2) fun K2 => Zak K2 fun C3 Z4 => Zbs (some C3) fun S5 => Zak Z4 fun C6 Z7 => Zbs (some C6) fun S8 => Zct Z7 (Zae pg Zbz [.agg [.str S5, .str S8], v1x0] h fun V9 H10 =>
 Zcv (some V9) fun B11 => bcase B11 (Q (.int .i64 x8) H10) (R2 a0 n0 c0 e0 v1x0 x7 (IntKind.wrap .i64 (x8 + 1)) H10)))) (Zkd Q h)
theorem Zhj (Q : QT) (R2 : T2) (a0 : Pt) (n0 c0 : Nat) (e0 : Bool) (v1x0 : Zag) (x7 x8 : Int) (h : Zaa) (ht : L2t Q R2 a0 n0 c0 e0 v1x0 x7 x8 h) : Den pg fn.ntmps (C [1, 0, 1, 0, 0]) [(0, .slice a0 n0 c0 e0), (1, .fn Zbz [v1x0]), (7, .int .i64 x7), (8, .int .i64 x8)] h (K3 Q R2) :=
  Zbh (kp := kp) (cast (by kernel_rfl) ht)
theorem L2ind (Q : QT) (a0 : Pt) (n0 c0 : Nat) (e0 : Bool) (v1x0 : Zag) (x7 : Int) {G : Type} (J : G → Int → Zaa → Prop) (m : G → Nat)
 (hr : ∀ (g : G) (x8 : Int) (h : Zaa), J g x8 h → ∀ (R2 : T2), (∀ g' (x8 : Int) (h : Zaa), m g' < m g → J g' x8 h → R2 a0 n0 c0 e0 v1x0 x7 x8 h) → L2t Q R2 a0 n0 c0 e0 v1x0 x7 x8 h)
 (g : G) (x8 : Int) (h : Zaa) (hj : J g x8 h) : L2 Q a0 n0 c0 e0 v1x0 x7 x8 h := by
  refine Zes.inv2 (fun g => E2 fun a0' n0' c0' e0' v1x0' x7' x8 h => a0 = a0' ∧ n0 = n0' ∧ c0 = c0' ∧ e0 = e0' ∧ v1x0 = v1x0' ∧ x7 = x7' ∧ J g x8 h) (fun g => E2 fun a0' n0' c0' e0' v1x0' x7' x8 h => a0 = a0' ∧ n0 = n0' ∧ c0 = c0' ∧ e0 = e0' ∧ v1x0 = v1x0' ∧ x7 = x7' ∧ ∃ g', m g' < m g ∧ J g' x8 h) m ?_ ?_ g ⟨rfl, rfl, rfl, rfl, rfl, rfl, hj⟩
  · intro g env h hi
    obtain ⟨a0', n0', c0', e0', v1x0', x7', x8, rfl, rfl, rfl, rfl, rfl, rfl, rfl, hj⟩ := Zdd hi
    exact Zhj Q _ a0 n0 c0 e0 v1x0 x7 x8 h (hr g x8 h hj (fun a0' n0' c0' e0' v1x0' x7' x8 h => a0 = a0' ∧ n0 = n0' ∧ c0 = c0' ∧ e0 = e0' ∧ v1x0 = v1x0' ∧ x7 = x7' ∧ ∃ g', m g' < m g ∧ J g' x8 h) fun g' x8 h hlt hj => ⟨rfl, rfl, rfl, rfl, rfl, rfl, g', hlt, hj⟩)
  · intro g env h hi
    obtain ⟨a0', n0', c0', e0', v1x0', x7', x8, rfl, rfl, rfl, rfl, rfl, rfl, rfl, g', hlt, hj⟩ := Zdd hi
    exact ⟨g', hlt, rfl, rfl, rfl, rfl, rfl, rfl, hj⟩
theorem A2x0i (Q : QT) (h : Zaa) (ht :
 Q (.int .i64 (-1)) h) : Zkd Q h :=
  At.mk (cast (by kernel_rfl) ht)
theorem call (a0 : Pt) (n0 c0 : Nat) (e0 : Bool) (v1x0 : Zag) (h : Zaa) (Q : QT) (ht :
 L2 Q a0 n0 c0 e0 v1x0 (((n0 : Nat) : Int)) 0 h) : Zae pg Zcp [.slice a0 n0 c0 e0, .fn Zbz [v1x0]] h Q :=
  Zae.of_body kp (c := cod fn) (fn := fn) Go.Proofs.Try.func137 (by kernel_rfl) (by kernel_rfl) (Nat.le_of_ble_eq_true (by kernel_rfl))
    (cast (by kernel_rfl) ht)
end Zaz
namespace Zoq
noncomputable abbrev fn : Func := Go.Proofs.Try.f102
def kp : Zcg := []
noncomputable def C (p : List Nat) : Code := (cod fn).sub p
def KR (Q : QT) : KT := Zex pg fn.results.toList Q
theorem call (a0 : Pt) (n0 c0 : Nat) (e0 : Bool) (x1 : List Nat) (h : Zaa) (Q : QT) (ht :
 Zdw (h ++ [.cells Zdl [.str x1] false]) fun H0 => Zae pg Zdc [.slice a0 n0 c0 e0, .fn Zbz [.ptr (some (h.length, 0))]] H0 fun V1 H2 =>
 Zcv (some V1) fun B3 => Q (.bool B3) H2) : Zae pg Zhy [.slice a0 n0 c0 e0, .str x1] h Q :=
  Zae.of_body kp (c := cod fn) (fn := fn) Go.Proofs.Try.func102 (by kernel_rfl) (by kernel_rfl) (Nat.le_of_ble_eq_true (by kernel_rfl))
    (cast (by kernel_rfl) ht)
end Zoq
namespace Zcf
noncomputable abbrev fn : Func := Go.Proofs.Try.f124
def kp : Zcg := []
noncomputable def C (p : List Nat) : Code := (cod fn).sub p
def KR (Q : QT) : KT := Zex pg fn.results.toList Q
theorem call (a0 : Pt) (n0 c0 : Nat) (e0 : Bool) (v1x0 : Zag) (h : Zaa) (Q : QT) (ht :
 Zae pg Zcp [.slice a0 n0 c0 e0, .fn Zbz [v1x0]] h fun V0 H1 =>
 Zgn .i64 (some V0) fun X2 => Q (.bool (decide ((X2 : Int) ≥ 0))) H1) : Zae pg Zdc [.slice a0 n0 c0 e0, .fn Zbz [v1x0]] h Q :=
  Zae.of_body kp (c := cod fn) (fn := fn) Go.Proofs.Try.func124 (by kernel_rfl) (by kernel_rfl) (Nat.le_of_ble_eq_true (by kernel_rfl))
    (cast (by kernel_rfl) ht)
end Zcf
namespace Zge
noncomputable abbrev fn : Func := Go.Proofs.Try.f118
def kp : Zcg := [(3000002, [4]), (1000002, [1, 8, 9, 10])]
noncomputable def C (p : List Nat) : Code := (cod fn).sub p
def KR (Q : QT) : KT := Zex pg fn.results.toList Q
abbrev T2 := List Nat → Pt → Nat → Nat → Bool → Int → Int → Zaa → Prop
def E2 (R2 : T2) (env : Env) (h : Zaa) : Prop := Zcq 1 env fun v env => Zbs (some v) fun x1 => Zcq 8 env fun v env => xSl (some v) fun a8 n8 c8 e8 => Zcq 9 env fun v env => Zfb .i64 v fun x9 => Zcq 10 env fun v env => Zfb .i64 v fun x10 => Zld env (R2 x1 a8 n8 c8 e8 x9 x10 h)
theorem Zdd {R2 : T2} {env : Env} {h : Zaa} (hi : E2 R2 env h) : ∃ x1, ∃ a8, ∃ n8, ∃ c8, ∃ e8, ∃ x9, ∃ x10, env = [(1, .str x1), (8, .slice a8 n8 c8 e8), (9, .int .i64 x9), (10, .int .i64 x10)] ∧ R2 x1 a8 n8 c8 e8 x9 x10 h := by
  unfold E2 at hi
  have hi0 := hi
  clear hi
  obtain ⟨_, _, rfl, hi1⟩ := Zad hi0
  obtain ⟨x1, rfl, hi2⟩ := Zfn hi1
  obtain ⟨_, _, rfl, hi3⟩ := Zad hi2
  obtain ⟨a8, n8, c8, e8, rfl, hi4⟩ := Zbo hi3
  obtain ⟨_, _, rfl, hi5⟩ := Zad hi4
  obtain ⟨x9, rfl, hi6⟩ := Zas hi5
  obtain ⟨_, _, rfl, hi7⟩ := Zad hi6
  obtain ⟨x10, rfl, hi8⟩ := Zas hi7
  obtain ⟨rfl, hi9⟩ := Zbm hi8
  have hi := hi9
  exact ⟨x1, a8, n8, c8, e8, x9, x10, rfl, hi⟩
def K0 (Q : QT) : KT := andThen (fun env' h' => (match kp.find 4000007 with | some ks => Den pg fn.ntmps (C [1, 1]) (env'.keep ks) h' (KR Q) | none => den pg fn.ntmps kp (C [1, 1]) env' h' (KR Q))) (KR Q)
def K1 (Q : QT) : KT := Zda 0 (K0 Q)
def K2 (Q : QT) : KT := left kp 2 (K1 Q)
def K3 (Q : QT) (R2 : T2) : KT := rnd ((kp.find 1000002).getD []) (E2 R2) (K2 Q)
def L2 (Q : QT) (x1 : List Nat) (a8 : Pt) (n8 c8 : Nat) (e8 : Bool) (x9 x10 : Int) (h : Zaa) : Prop := Zes (Den pg fn.ntmps (C [1, 0, 1, 0, 0])) ((kp.find 1000002).getD []) (K2 Q) [(1, .str x1), (8, .slice a8 n8 c8 e8), (9, .int .i64 x9), (10, .int .i64 x10)] h
def Zkd (Q : QT) (h : Zaa) : Prop := At (K1 Q) (.exit 0) [(4, .undef)] h
def L2t (Q : QT) (R2 : T2) (x1 : List Nat) (a8 : Pt) (n8 c8 : Nat) (e8 : Bool) (x9 x10 : Int) (h : Zaa) : Prop :=
 bcase (decide ((x10 : Int) < x9)) ((0 ≤ (x10 : Int) ∧ (x10 : Int) < (n8 : Nat)) ∧ (Zbu a8 fun I5 O6 => Zdg (Zbw h (.ptr (some (I5, O6 + (Int.toNat x10) * 2))) 2) fun K7 => Zak K7 fun C8 Z9 => Zbs (some C8) fun S10 => Zak Z9 fun C11 Z12 => Zbs (some C11) fun S13 => Zct Z12 (Zdw (h ++ [.cells Zan [.str [], .str []] false]) fun H14 => Zcb (Zbc H14 (.ptr (some (h.length, 0))) [.str S10, .str S13]) fun H15 => Zbs (Zai H15 (.ptr (some (h.length, 0 + 0)))) fun S16 => bcase (decide (S16 = x1)) (Q (.int .i64 x10) H15) (R2 x1 a8 n8 c8 e8 x9 (IntKind.wrap .i64 (x10 + 1)) H15)))) (Zkd Q h)
theorem Zhj (Q : QT) (R2 : T2) (x1 : List Nat) (a8 : Pt) (n8 c8 : Nat) (e8 : Bool) (x9 x10 : Int) (h : Zaa) (ht : L2t Q R2 x1 a8 n8 c8 e8 x9 x10 h) : Den pg fn.ntmps (C [1, 0, 1, 0, 0]) [(1, .str x1), (8, .slice a8 n8 c8 e8), (9, .int .i64 x9), (10, .int .i64 x10)] h (K3 Q R2) :=
  Zbh (kp := kp) (cast (by kernel_rfl) ht)
theorem L2ind (Q : QT) (x1 : List Nat) (a8 : Pt) (n8 c8 : Nat) (e8 : Bool) (x9 : Int) {G : Type} (J : G → Int → Zaa → Prop) (m : G → Nat)
 (hr : ∀ (g : G) (x10 : Int) (h : Zaa), J g x10 h → ∀ (R2 : T2), (∀ g' (x10 : Int) (h : Zaa), m g' < m g → J g' x10 h → R2 x1 a8 n8 c8 e8 x9 x10 h) → L2t Q R2 x1 a8 n8 c8 e8 x9 x10 h)
 (g : G) (x10 : Int) (h : Zaa) (hj : J g x10 h) : L2 Q x1 a8 n8 c8 e8 x9 x10 h := by
  refine Zes.inv2 (fun g => E2 fun x1' a8' n8' c8' e8' x9' x10 h => x1 = x1' ∧ a8 = a8' ∧ n8 = n8' ∧ c8 = c8' ∧ e8 = e8' ∧ x9 = x9' ∧ J g x10 h) (fun g => E2 fun x1' a8' n8' c8' e8' x9' x10 h => x1 = x1' ∧ a8 = a8' ∧ n8 = n8' ∧ c8 = c8' ∧ e8 = e8' ∧ x9 = x9' ∧ ∃ g', m g' < m g ∧ J g' x10 h) m ?_ ?_ g ⟨rfl, rfl, rfl, rfl, rfl, rfl, hj⟩
  · intro g env h hi
    obtain ⟨x1', a8', n8', c8', e8', x9', x10, rfl, rfl, rfl, rfl, rfl, rfl, rfl, hj⟩ := Zdd hi
    exact Zhj Q _ x1 a8 n8 c8 e8 x9 x10 h (hr g x10 h hj (fun x1' a8' n8' c8' e8' x9' x10 h => x1 = x1' ∧ a8 = a8' ∧ n8 = n8' ∧ c8 = c8' ∧ e8 = e8' ∧ x9 = x9' ∧ ∃ g', m g' < m g ∧ J g' x10 h) fun g' x10 h hlt hj => ⟨rfl, rfl, rfl, rfl, rfl, rfl, g', hlt, hj⟩)
  · intro g env h hi
    obtain ⟨x1', a8', n8', c8', e8', x9', x10, rfl, rfl, rfl, rfl, rfl, rfl, rfl, g', hlt, hj⟩ := Zdd hi
    exact ⟨g', hlt, rfl, rfl, rfl, rfl, rfl, rfl, hj⟩
theorem A2x0i (Q : QT) (h : Zaa) (ht :
 Q (.int .i64 (-1)) h) : Zkd Q h :=
  At.mk (cast (by kernel_rfl) ht)
theorem call (a0x0 : Pt) (n0x0 c0x0 : Nat) (e0x0 : Bool) (a0x1 : Pt) (n0x1 c0x1 : Nat) (e0x1 : Bool) (x1 : List Nat) (h : Zaa) (Q : QT) (ht :
 Zdw (h ++ [.cells Zac [.slice a0x0 n0x0 c0x0 e0x0, .slice a0x1 n0x1 c0x1 e0x1] false]) fun H0 => xSl (Zai H0 (.ptr (some (h.length, 0 + 0)))) fun A1 N2 C3 E4 => L2 Q x1 A1 N2 C3 E4 (((N2 : Nat) : Int)) 0 H0) : Zae pg Zgg [.agg [.slice a0x0 n0x0 c0x0 e0x0, .slice a0x1 n0x1 c0x1 e0x1], .str x1] h Q :=
  Zae.of_body kp (c := cod fn) (fn := fn) Go.Proofs.Try.func118 (by kernel_rfl) (by kernel_rfl) (Nat.le_of_ble_eq_true (by kernel_rfl))
    (cast (by kernel_rfl) ht)
end Zge
namespace Zby
noncomputable abbrev fn : Func := Go.Proofs.Try.f71
def kp : Zcg := [(3000002, [1, 2]), (1000002, [1, 7, 8, 9]), (2000004, [33, 4, 1, 3, 7, 8, 9]), (4000006, [4, 1, 3, 7, 8, 9]), (3000007, [9, 8, 7, 1, 2]), (1000007, [1, 3, 4, 7, 8, 9, 36, 37]), (2000009, [67, 37, 36, 1, 3, 4, 9, 8, 7]), (4000011, [37, 36, 1, 3, 4, 9, 8, 7]), (4000012, [9, 8, 7, 1])]
noncomputable def C (p : List Nat) : Code := (cod fn).sub p
def KR (Q : QT) : KT := Zex pg fn.results.toList Q
abbrev T2 := Nat → Nat → Pt → Nat → Nat → Bool → Int → Int → Zaa → Prop
def E2 (R2 : T2) (env : Env) (h : Zaa) : Prop := Zcq 1 env fun v env => Znk (some v) fun a => Zbu a fun i1 o1 => Zcq 7 env fun v env => xSl (some v) fun a7 n7 c7 e7 => Zcq 8 env fun v env => Zfb .i64 v fun x8 => Zcq 9 env fun v env => Zfb .i64 v fun x9 => Zld env (R2 i1 o1 a7 n7 c7 e7 x8 x9 h)
theorem Zdd {R2 : T2} {env : Env} {h : Zaa} (hi : E2 R2 env h) : ∃ i1, ∃ o1, ∃ a7, ∃ n7, ∃ c7, ∃ e7, ∃ x8, ∃ x9, env = [(1, .ptr (some (i1, o1))), (7, .slice a7 n7 c7 e7), (8, .int .i64 x8), (9, .int .i64 x9)] ∧ R2 i1 o1 a7 n7 c7 e7 x8 x9 h := by
  unfold E2 at hi
  have hi0 := hi
  clear hi
  obtain ⟨_, _, rfl, hi1⟩ := Zad hi0
  obtain ⟨a, rfl, hi2⟩ := Zdn hi1
  obtain ⟨i1, o1, rfl, hi3⟩ := Zcm hi2
  obtain ⟨_, _, rfl, hi4⟩ := Zad hi3
  obtain ⟨a7, n7, c7, e7, rfl, hi5⟩ := Zbo hi4
  obtain ⟨_, _, rfl, hi6⟩ := Zad hi5
  obtain ⟨x8, rfl, hi7⟩ := Zas hi6
  obtain ⟨_, _, rfl, hi8⟩ := Zad hi7
  obtain ⟨x9, rfl, hi9⟩ := Zas hi8
  obtain ⟨rfl, hi10⟩ := Zbm hi9
  have hi := hi10
  exact ⟨i1, o1, a7, n7, c7, e7, x8, x9, rfl, hi⟩
abbrev T7 := Nat → Nat → Int → Nat → Nat → Pt → Nat → Nat → Bool → Int → Int → Int → Int → Zaa → Prop
def E7 (R7 : T7) (env : Env) (h : Zaa) : Prop := Zcq 1 env fun v env => Znk (some v) fun a => Zbu a fun i1 o1 => Zcq 3 env fun v env => Zfb .i64 v fun x3 => Zcq 4 env fun v env => Znk (some v) fun a => Zbu a fun i4 o4 => Zcq 7 env fun v env => xSl (some v) fun a7 n7 c7 e7 => Zcq 8 env fun v env => Zfb .i64 v fun x8 => Zcq 9 env fun v env => Zfb .i64 v fun x9 => Zcq 36 env fun v env => Zfb .i64 v fun x36 => Zcq 37 env fun v env => Zfb .i64 v fun x37 => Zld env (R7 i1 o1 x3 i4 o4 a7 n7 c7 e7 x8 x9 x36 x37 h)
theorem Zuc {R7 : T7} {env : Env} {h : Zaa} (hi : E7 R7 env h) : ∃ i1, ∃ o1, ∃ x3, ∃ i4, ∃ o4, ∃ a7, ∃ n7, ∃ c7, ∃ e7, ∃ x8, ∃ x9, ∃ x36, ∃ x37, env = [(1, .ptr (some (i1, o1))), (3, .int .i64 x3), (4, .ptr (some (i4, o4))), (7, .slice a7 n7 c7 e7), (8, .int .i64 x8), (9, .int .i64 x9), (36, .int .i64 x36), (37, .int .i64 x37)] ∧ R7 i1 o1 x3 i4 o4 a7 n7 c7 e7 x8 x9 x36 x37 h := by
  unfold E7 at hi
  have hi0 := hi
  clear hi
  obtain ⟨_, _, rfl, hi1⟩ := Zad hi0
  obtain ⟨a, rfl, hi2⟩ := Zdn hi1
  obtain ⟨i1, o1, rfl, hi3⟩ := Zcm hi2
  obtain ⟨_, _, rfl, hi4⟩ := Zad hi3
  obtain ⟨x3, rfl, hi5⟩ := Zas hi4
  obtain ⟨_, _, rfl, hi6⟩ := Zad hi5
  obtain ⟨a, rfl, hi7⟩ := Zdn hi6
  obtain ⟨i4, o4, rfl, hi8⟩ := Zcm hi7
  obtain ⟨_, _, rfl, hi9⟩ := Zad hi8
  obtain ⟨a7, n7, c7, e7, rfl, hi10⟩ := Zbo hi9
  obtain ⟨_, _, rfl, hi11⟩ := Zad hi10
  obtain ⟨x8, rfl, hi12⟩ := Zas hi11
  obtain ⟨_, _, rfl, hi13⟩ := Zad hi12
  obtain ⟨x9, rfl, hi14⟩ := Zas hi13
  obtain ⟨_, _, rfl, hi15⟩ := Zad hi14
  obtain ⟨x36, rfl, hi16⟩ := Zas hi15
  obtain ⟨_, _, rfl, hi17⟩ := Zad hi16
  obtain ⟨x37, rfl, hi18⟩ := Zas hi17
  obtain ⟨rfl, hi19⟩ := Zbm hi18
  have hi := hi19
  exact ⟨i1, o1, x3, i4, o4, a7, n7, c7, e7, x8, x9, x36, x37, rfl, hi⟩
def K0 (Q : QT) : KT := andThen (fun env' h' => (match kp.find 4000013 with | some ks => Den pg fn.ntmps (C [1, 1]) (env'.keep ks) h' (KR Q) | none => den pg fn.ntmps kp (C [1, 1]) env' h' (KR Q))) (KR Q)
def K1 (Q : QT) : KT := Zda 0 (K0 Q)
def K2 (Q : QT) : KT := left kp 2 (K1 Q)
def K3 (Q : QT) (R2 : T2) : KT := rnd ((kp.find 1000002).getD []) (E2 R2) (K2 Q)
def K4 (Q : QT) (R2 : T2) : KT := andThen (fun env' h' => (match kp.find 4000012 with | some ks => Den pg fn.ntmps (C [1, 0, 1, 0, 0, 1, 1, 1]) (env'.keep ks) h' (K3 Q R2) | none => den pg fn.ntmps kp (C [1, 0, 1, 0, 0, 1, 1, 1]) env' h' (K3 Q R2))) (K3 Q R2)
def K5 (Q : QT) (R2 : T2) : KT := Zda 1 (K4 Q R2)
def K6 (Q : QT) (R2 : T2) : KT := Zda 2 (K5 Q R2)
def K7 (Q : QT) (R2 : T2) : KT := left kp 7 (K6 Q R2)
def K8 (Q : QT) (R2 : T2) (R7 : T7) : KT := rnd ((kp.find 1000007).getD []) (E7 R7) (K7 Q R2)
def L2 (Q : QT) (i1 o1 : Nat) (a7 : Pt) (n7 c7 : Nat) (e7 : Bool) (x8 x9 : Int) (h : Zaa) : Prop := Zes (Den pg fn.ntmps (C [1, 0, 1, 0, 0])) ((kp.find 1000002).getD []) (K2 Q) [(1, .ptr (some (i1, o1))), (7, .slice a7 n7 c7 e7), (8, .int .i64 x8), (9, .int .i64 x9)] h
def J6 (Q : QT) (R2 : T2) (i4 o4 i1 o1 : Nat) (x3 : Int) (a7 : Pt) (n7 c7 : Nat) (e7 : Bool) (x8 x9 : Int) (h : Zaa) : Prop := Den pg fn.ntmps (C [1, 0, 1, 0, 0, 1, 1, 0, 0, 1, 1]) [(4, .ptr (some (i4, o4))), (1, .ptr (some (i1, o1))), (3, .int .i64 x3), (7, .slice a7 n7 c7 e7), (8, .int .i64 x8), (9, .int .i64 x9)] h (K5 Q R2)
def Zkd (Q : QT) (i1 o1 : Nat) (h : Zaa) : Prop := At (K1 Q) (.exit 0) [(1, .ptr (some (i1, o1))), (2, .undef)] h
def L7 (Q : QT) (R2 : T2) (i1 o1 : Nat) (x3 : Int) (i4 o4 : Nat) (a7 : Pt) (n7 c7 : Nat) (e7 : Bool) (x8 x9 x36 x37 : Int) (h : Zaa) : Prop := Zes (Den pg fn.ntmps (C [1, 0, 1, 0, 0, 1, 1, 0, 0, 1, 1, 1, 0, 0])) ((kp.find 1000007).getD []) (K7 Q R2) [(1, .ptr (some (i1, o1))), (3, .int .i64 x3), (4, .ptr (some (i4, o4))), (7, .slice a7 n7 c7 e7), (8, .int .i64 x8), (9, .int .i64 x9), (36, .int .i64 x36), (37, .int .i64 x37)] h
def J11 (Q : QT) (R2 : T2) (R7 : T7) (x37 x36 : Int) (i1 o1 : Nat) (x3 : Int) (i4 o4 : Nat) (x9 x8 : Int) (a7 : Pt) (n7 c7 : Nat) (e7 : Bool) (h : Zaa) : Prop := Den pg fn.ntmps (C [1, 0, 1, 0, 0, 1, 1, 0, 0, 1, 1, 1, 0, 0, 1, 1, 1]) [(37, .int .i64 x37), (36, .int .i64 x36), (1, .ptr (some (i1, o1))), (3, .int .i64 x3), (4, .ptr (some (i4, o4))), (9, .int .i64 x9), (8, .int .i64 x8), (7, .slice a7 n7 c7 e7)] h (K8 Q R2 R7)
def Yhb (Q : QT) (R2 : T2) (x9 x8 : Int) (a7 : Pt) (n7 c7 : Nat) (e7 : Bool) (i1 o1 : Nat) (h : Zaa) : Prop := At (K6 Q R2) (.exit 2) [(9, .int .i64 x9), (8, .int .i64 x8), (7, .slice a7 n7 c7 e7), (1, .ptr (some (i1, o1))), (2, .undef)] h
def J12 (Q : QT) (R2 : T2) (x9 x8 : Int) (a7 : Pt) (n7 c7 : Nat) (e7 : Bool) (i1 o1 : Nat) (h : Zaa) : Prop := Den pg fn.ntmps (C [1, 0, 1, 0, 0, 1, 1, 1]) [(9, .int .i64 x9), (8, .int .i64 x8), (7, .slice a7 n7 c7 e7), (1, .ptr (some (i1, o1)))] h (K3 Q R2)
def L2t (Q : QT) (R2 : T2) (i1 o1 : Nat) (a7 : Pt) (n7 c7 : Nat) (e7 : Bool) (x8 x9 : Int) (h : Zaa) : Prop :=
 bcase (decide ((x9 : Int) < x8)) ((0 ≤ (x9 : Int) ∧ (x9 : Int) < (n7 : Nat)) ∧ (Zbu a7 fun I5 O6 => Zdg (Zbw h (.ptr (some (I5, O6 + (Int.toNat x9) * 2))) 2) fun K7 => Zak K7 fun C8 Z9 => Zbs (some C8) fun S10 => Zak Z9 fun C11 Z12 => Zbs (some C11) fun S13 => Zct Z12 (Zdw (h ++ [.cells Zan [.str [], .str []] false]) fun H14 => Zcb (Zbc H14 (.ptr (some (h.length, 0))) [.str S10, .str S13]) fun H15 => Zbs (Zai H15 (.ptr (some (h.length, 0 + 0)))) fun S16 => Zae pg Zjt [.str S16] H15 fun V17 H18 =>
 Zcv (some V17) fun B19 => bcase (!B19) ((Zai H18 (.tup []) = Zai H18 (.tup [])) ∧ (Zai H18 (.tup []) = Zai H18 (.tup [])) ∧ Q (.bool false) H18) (bcase (decide ((x9 : Int) > 0)) (xSl (Zai H18 (.ptr (some (i1, o1 + 0)))) fun A20 N21 C22 E23 => (0 ≤ (IntKind.wrap .i64 (x9 - 1) : Int) ∧ (IntKind.wrap .i64 (x9 - 1) : Int) < (N21 : Nat)) ∧ (Zbu A20 fun I24 O25 => Zbs (Zai H18 (.ptr (some (I24, O25 + (Int.toNat (IntKind.wrap .i64 (x9 - 1))) * 2 + 0)))) fun S26 => Zbs (Zai H18 (.ptr (some (h.length, 0 + 0)))) fun S27 => (Zai H18 (.ptr (some (I24, O25 + (Int.toNat (IntKind.wrap .i64 (x9 - 1))) * 2 + 0))) = Zai H18 (.ptr (some (I24, O25 + (Int.toNat (IntKind.wrap .i64 (x9 - 1))) * 2 + 0)))) ∧ (Zai H18 (.ptr (some (i1, o1 + 0))) = Zai H18 (.ptr (some (i1, o1 + 0)))) ∧ bcase (!Zea S26 S27) (Q (.bool false) H18) (J6 Q R2 h.length 0 i1 o1 x9 a7 n7 c7 e7 x8 x9 H18))) ((Zai H18 (.tup []) = Zai H18 (.tup [])) ∧ (Zai H18 (.tup []) = Zai H18 (.tup [])) ∧ J6 Q R2 h.length 0 i1 o1 x9 a7 n7 c7 e7 x8 x9 H18))))) (Zkd Q i1 o1 h)
theorem Zhj (Q : QT) (R2 : T2) (i1 o1 : Nat) (a7 : Pt) (n7 c7 : Nat) (e7 : Bool) (x8 x9 : Int) (h : Zaa) (ht : L2t Q R2 i1 o1 a7 n7 c7 e7 x8 x9 h) : Den pg fn.ntmps (C [1, 0, 1, 0, 0]) [(1, .ptr (some (i1, o1))), (7, .slice a7 n7 c7 e7), (8, .int .i64 x8), (9, .int .i64 x9)] h (K3 Q R2) :=
  Zbh (kp := kp) (cast (by kernel_rfl) ht)
theorem L2ind (Q : QT) (i1 o1 : Nat) (a7 : Pt) (n7 c7 : Nat) (e7 : Bool) (x8 : Int) {G : Type} (J : G → Int → Zaa → Prop) (m : G → Nat)
 (hr : ∀ (g : G) (x9 : Int) (h : Zaa), J g x9 h → ∀ (R2 : T2), (∀ g' (x9 : Int) (h : Zaa), m g' < m g → J g' x9 h → R2 i1 o1 a7 n7 c7 e7 x8 x9 h) → L2t Q R2 i1 o1 a7 n7 c7 e7 x8 x9 h)
 (g : G) (x9 : Int) (h : Zaa) (hj : J g x9 h) : L2 Q i1 o1 a7 n7 c7 e7 x8 x9 h := by
  refine Zes.inv2 (fun g => E2 fun i1' o1' a7' n7' c7' e7' x8' x9 h => i1 = i1' ∧ o1 = o1' ∧ a7 = a7' ∧ n7 = n7' ∧ c7 = c7' ∧ e7 = e7' ∧ x8 = x8' ∧ J g x9 h) (fun g => E2 fun i1' o1' a7' n7' c7' e7' x8' x9 h => i1 = i1' ∧ o1 = o1' ∧ a7 = a7' ∧ n7 = n7' ∧ c7 = c7' ∧ e7 = e7' ∧ x8 = x8' ∧ ∃ g', m g' < m g ∧ J g' x9 h) m ?_ ?_ g ⟨rfl, rfl, rfl, rfl, rfl, rfl, rfl, hj⟩
  · intro g env h hi
    obtain ⟨i1', o1', a7', n7', c7', e7', x8', x9, rfl, rfl, rfl, rfl, rfl, rfl, rfl, rfl, hj⟩ := Zdd hi
    exact Zhj Q _ i1 o1 a7 n7 c7 e7 x8 x9 h (hr g x9 h hj (fun i1' o1' a7' n7' c7' e7' x8' x9 h => i1 = i1' ∧ o1 = o1' ∧ a7 = a7' ∧ n7 = n7' ∧ c7 = c7' ∧ e7 = e7' ∧ x8 = x8' ∧ ∃ g', m g' < m g ∧ J g' x9 h) fun g' x9 h hlt hj => ⟨rfl, rfl, rfl, rfl, rfl, rfl, rfl, g', hlt, hj⟩)
  · intro g env h hi
    obtain ⟨i1', o1', a7', n7', c7', e7', x8', x9, rfl, rfl, rfl, rfl, rfl, rfl, rfl, rfl, g', hlt, hj⟩ := Zdd hi
    exact ⟨g', hlt, rfl, rfl, rfl, rfl, rfl, rfl, rfl, hj⟩
theorem J6i (Q : QT) (R2 : T2) (i4 o4 i1 o1 : Nat) (x3 : Int) (a7 : Pt) (n7 c7 : Nat) (e7 : Bool) (x8 x9 : Int) (h : Zaa) (ht :
 Zbs (Zai h (.ptr (some (i4, o4 + 1)))) fun S28 => L7 Q R2 i1 o1 x3 i4 o4 a7 n7 c7 e7 x8 x9 (((List.length S28 : Nat) : Int)) 0 h) : J6 Q R2 i4 o4 i1 o1 x3 a7 n7 c7 e7 x8 x9 h :=
  Zbh (kp := kp) (cast (by kernel_rfl) ht)
theorem A2x0i (Q : QT) (i1 o1 : Nat) (h : Zaa) (ht :
 xSl (Zai h (.ptr (some (i1, o1 + 0)))) fun A29 N30 C31 E32 => bcase (decide (((((N30 : Nat) : Int)) : Int) ≥ 1)) (xSl (Zai h (.ptr (some (i1, o1 + 0)))) fun A33 N34 C35 E36 => Q (.bool (decide (((((N34 : Nat) : Int)) : Int) ≤ 4))) h) (Q (.bool false) h)) : Zkd Q i1 o1 h :=
  At.mk (cast (by kernel_rfl) ht)
def L7t (Q : QT) (R2 : T2) (R7 : T7) (i1 o1 : Nat) (x3 : Int) (i4 o4 : Nat) (a7 : Pt) (n7 c7 : Nat) (e7 : Bool) (x8 x9 x36 x37 : Int) (h : Zaa) : Prop :=
 bcase (decide ((x37 : Int) < x36)) (xSl (Zai h (.ptr (some (i1, o1 + 0)))) fun A37 N38 C39 E40 => Zep A37 N38 C39 E40 2 none (some (.int .i64 x3)) none fun V41 => xSl (some V41) fun A42 N43 C44 E45 => Zbs (Zai h (.ptr (some (i4, o4 + 1)))) fun S46 => (Zai h (.ptr (some (i1, o1 + 0))) = Zai h (.ptr (some (i1, o1 + 0)))) ∧ (0 ≤ (x37 : Int) ∧ (x37 : Int) ≤ IntKind.wrap .i64 (x37 + 1) ∧ (IntKind.wrap .i64 (x37 + 1) : Int) ≤ (List.length S46 : Nat)) ∧ (Zae pg Zhy [.slice A42 N43 C44 E45, .str (sub S46 x37 (IntKind.wrap .i64 (x37 + 1)))] h fun V47 H48 =>
 Zcv (some V47) fun B49 => (Zai H48 (.ptr (some (i1, o1 + 0))) = Zai h (.ptr (some (i1, o1 + 0)))) ∧ bcase (!B49) ((Zai H48 (.tup []) = Zai H48 (.tup [])) ∧ (Zai H48 (.ptr (some (i1, o1 + 0))) = Zai H48 (.ptr (some (i1, o1 + 0)))) ∧ Q (.bool false) H48) (bcase (decide ((x37 : Int) > 0)) (Zbs (Zai H48 (.ptr (some (i4, o4 + 1)))) fun S50 => Zjg S50 (IntKind.wrap .i64 (x37 - 1)) fun B51 => Zbs (Zai H48 (.ptr (some (i4, o4 + 1)))) fun S52 => (Zai H48 (.ptr (some (i4, o4 + 1))) = Zai H48 (.ptr (some (i4, o4 + 1)))) ∧ (Zai H48 (.ptr (some (i1, o1 + 0))) = Zai H48 (.ptr (some (i1, o1 + 0)))) ∧ Zjg S52 x37 fun B53 => bcase (decide (((((B51 : Nat) : Int)) : Int) ≥ (((B53 : Nat) : Int)))) (Q (.bool false) H48) (J11 Q R2 R7 x37 x36 i1 o1 x3 i4 o4 x9 x8 a7 n7 c7 e7 H48)) ((Zai H48 (.tup []) = Zai H48 (.tup [])) ∧ (Zai H48 (.ptr (some (i1, o1 + 0))) = Zai H48 (.ptr (some (i1, o1 + 0)))) ∧ J11 Q R2 R7 x37 x36 i1 o1 x3 i4 o4 x9 x8 a7 n7 c7 e7 H48)))) (Yhb Q R2 x9 x8 a7 n7 c7 e7 i1 o1 h)
theorem Yfo (Q : QT) (R2 : T2) (R7 : T7) (i1 o1 : Nat) (x3 : Int) (i4 o4 : Nat) (a7 : Pt) (n7 c7 : Nat) (e7 : Bool) (x8 x9 x36 x37 : Int) (h : Zaa) (ht : L7t Q R2 R7 i1 o1 x3 i4 o4 a7 n7 c7 e7 x8 x9 x36 x37 h) : Den pg fn.ntmps (C [1, 0, 1, 0, 0, 1, 1, 0, 0, 1, 1, 1, 0, 0]) [(1, .ptr (some (i1, o1))), (3, .int .i64 x3), (4, .ptr (some (i4, o4))), (7, .slice a7 n7 c7 e7), (8, .int .i64 x8), (9, .int .i64 x9), (36, .int .i64 x36), (37, .int .i64 x37)] h (K8 Q R2 R7) :=
  Zbh (kp := kp) (cast (by kernel_rfl) ht)
theorem L7ind (Q : QT) (R2 : T2) (i1 o1 : Nat) (x3 : Int) (i4 o4 : Nat) (a7 : Pt) (n7 c7 : Nat) (e7 : Bool) (x8 x9 x36 : Int) {G : Type} (J : G → Int → Zaa → Prop) (m : G → Nat)
 (hr : ∀ (g : G) (x37 : Int) (h : Zaa), J g x37 h → ∀ (R7 : T7), (∀ g' (x37 : Int) (h : Zaa), m g' < m g → J g' x37 h → R7 i1 o1 x3 i4 o4 a7 n7 c7 e7 x8 x9 x36 x37 h) → L7t Q R2 R7 i1 o1 x3 i4 o4 a7 n7 c7 e7 x8 x9 x36 x37 h)
 (g : G) (x37 : Int) (h : Zaa) (hj : J g x37 h) : L7 Q R2 i1 o1 x3 i4 o4 a7 n7 c7 e7 x8 x9 x36 x37 h := by
  refine Zes.inv2 (fun g => E7 fun i1' o1' x3' i4' o4' a7' n7' c7' e7' x8' x9' x36' x37 h => i1 = i1' ∧ o1 = o1' ∧ x3 = x3' ∧ i4 = i4' ∧ o4 = o4' ∧ a7 = a7' ∧ n7 = n7' ∧ c7 = c7' ∧ e7 = e7' ∧ x8 = x8' ∧ x9 = x9' ∧ x36 = x36' ∧ J g x37 h) (fun g => E7 fun i1' o1' x3' i4' o4' a7' n7' c7' e7' x8' x9' x36' x37 h => i1 = i1' ∧ o1 = o1' ∧ x3 = x3' ∧ i4 = i4' ∧ o4 = o4' ∧ a7 = a7' ∧ n7 = n7' ∧ c7 = c7' ∧ e7 = e7' ∧ x8 = x8' ∧ x9 = x9' ∧ x36 = x36' ∧ ∃ g', m g' < m g ∧ J g' x37 h) m ?_ ?_ g ⟨rfl, rfl, rfl, rfl, rfl, rfl, rfl, rfl, rfl, rfl, rfl, rfl, hj⟩
  · intro g env h hi
    obtain ⟨i1', o1', x3', i4', o4', a7', n7', c7', e7', x8', x9', x36', x37, rfl, rfl, rfl, rfl, rfl, rfl, rfl, rfl, rfl, rfl, rfl, rfl, rfl, hj⟩ := Zuc hi
    exact Yfo Q R2 (fun i1' o1' x3' i4' o4' a7' n7' c7' e7' x8' x9' x36' x37 h => i1 = i1' ∧ o1 = o1' ∧ x3 = x3' ∧ i4 = i4' ∧ o4 = o4' ∧ a7 = a7' ∧ n7 = n7' ∧ c7 = c7' ∧ e7 = e7' ∧ x8 = x8' ∧ x9 = x9' ∧ x36 = x36' ∧ ∃ g', m g' < m g ∧ J g' x37 h) i1 o1 x3 i4 o4 a7 n7 c7 e7 x8 x9 x36 x37 h (hr g x37 h hj (fun i1' o1' x3' i4' o4' a7' n7' c7' e7' x8' x9' x36' x37 h => i1 = i1' ∧ o1 = o1' ∧ x3 = x3' ∧ i4 = i4' ∧ o4 = o4' ∧ a7 = a7' ∧ n7 = n7' ∧ c7 = c7' ∧ e7 = e7' ∧ x8 = x8' ∧ x9 = x9' ∧ x36 = x36' ∧ ∃ g', m g' < m g ∧ J g' x37 h) fun g' x37 h hlt hj => ⟨rfl, rfl, rfl, rfl, rfl, rfl, rfl, rfl, rfl, rfl, rfl, rfl, g', hlt, hj⟩)
  · intro g env h hi
    obtain ⟨i1', o1', x3', i4', o4', a7', n7', c7', e7', x8', x9', x36', x37, rfl, rfl, rfl, rfl, rfl, rfl, rfl, rfl, rfl, rfl, rfl, rfl, rfl, g', hlt, hj⟩ := Zuc hi
    exact ⟨g', hlt, rfl, rfl, rfl, rfl, rfl, rfl, rfl, rfl, rfl, rfl, rfl, rfl, hj⟩
theorem J11i (Q : QT) (R2 : T2) (R7 : T7) (x37 x36 : Int) (i1 o1 : Nat) (x3 : Int) (i4 o4 : Nat) (x9 x8 : Int) (a7 : Pt) (n7 c7 : Nat) (e7 : Bool) (h : Zaa) (ht :
 R7 i1 o1 x3 i4 o4 a7 n7 c7 e7 x8 x9 x36 (IntKind.wrap .i64 (x37 + 1)) h) : J11 Q R2 R7 x37 x36 i1 o1 x3 i4 o4 x9 x8 a7 n7 c7 e7 h :=
  Zbh (kp := kp) (cast (by kernel_rfl) ht)
theorem A7x2i (Q : QT) (R2 : T2) (x9 x8 : Int) (a7 : Pt) (n7 c7 : Nat) (e7 : Bool) (i1 o1 : Nat) (h : Zaa) (ht :
 J12 Q R2 x9 x8 a7 n7 c7 e7 i1 o1 h) : Yhb Q R2 x9 x8 a7 n7 c7 e7 i1 o1 h :=
  At.mk (cast (by kernel_rfl) ht)
theorem J12i (Q : QT) (R2 : T2) (x9 x8 : Int) (a7 : Pt) (n7 c7 : Nat) (e7 : Bool) (i1 o1 : Nat) (h : Zaa) (ht :
 R2 i1 o1 a7 n7 c7 e7 x8 (IntKind.wrap .i64 (x9 + 1)) h) : J12 Q R2 x9 x8 a7 n7 c7 e7 i1 o1 h :=
  Zbh (kp := kp) (cast (by kernel_rfl) ht)
theorem call (a0x0 : Pt) (n0x0 c0x0 : Nat) (e0x0 : Bool) (a0x1 : Pt) (n0x1 c0x1 : Nat) (e0x1 : Bool) (h : Zaa) (Q : QT) (ht :
 Zdw (h ++ [.cells Zac [.slice a0x0 n0x0 c0x0 e0x0, .slice a0x1 n0x1 c0x1 e0x1] false]) fun H0 => xSl (Zai H0 (.ptr (some (h.length, 0 + 0)))) fun A1 N2 C3 E4 => L2 Q h.length 0 A1 N2 C3 E4 (((N2 : Nat) : Int)) 0 H0) : Zae pg Zgj [.agg [.slice a0x0 n0x0 c0x0 e0x0, .slice a0x1 n0x1 c0x1 e0x1]] h Q :=
  Zae.of_body kp (c := cod fn) (fn := fn) Go.Proofs.Try.func71 (by kernel_rfl) (by kernel_rfl) (Nat.le_of_ble_eq_true (by kernel_rfl))
    (cast (by kernel_rfl) ht)
end Zby
end Go.Sim

set_option maxRecDepth 100000
set_option linter.unusedVariables false
namespace Go.Sim
open Go Go.RowKit
namespace Zew
noncomputable abbrev fn : Func := Go.Proofs.Try.f47
def kp : Zcg := [(3000002, [1]), (1000002, [0, 1, 5])]
noncomputable def C (p : List Nat) : Code := (cod fn).sub p
def KR (Q : QT) : KT := Zex pg fn.results.toList Q
abbrev T2 := Pt → Nat → Nat → Bool → Int → Int → Zaa → Prop
def E2 (R2 : T2) (env : Env) (h : Zaa) : Prop := Zcq 0 env fun v env => xSl (some v) fun a0 n0 c0 e0 => Zcq 1 env fun v env => Zfb .i64 v fun x1 => Zcq 5 env fun v env => Zfb .i64 v fun x5 => Zld env (R2 a0 n0 c0 e0 x1 x5 h)
theorem Zdd {R2 : T2} {env : Env} {h : Zaa} (hi : E2 R2 env h) : ∃ a0, ∃ n0, ∃ c0, ∃ e0, ∃ x1, ∃ x5, env = [(0, .slice a0 n0 c0 e0), (1, .int .i64 x1), (5, .int .i64 x5)] ∧ R2 a0 n0 c0 e0 x1 x5 h := by
  unfold E2 at hi
  have hi0 := hi
  clear hi
  obtain ⟨_, _, rfl, hi1⟩ := Zad hi0
  obtain ⟨a0, n0, c0, e0, rfl, hi2⟩ := Zbo hi1
  obtain ⟨_, _, rfl, hi3⟩ := Zad hi2
  obtain ⟨x1, rfl, hi4⟩ := Zas hi3
  obtain ⟨_, _, rfl, hi5⟩ := Zad hi4
  obtain ⟨x5, rfl, hi6⟩ := Zas hi5
  obtain ⟨rfl, hi7⟩ := Zbm hi6
  have hi := hi7
  exact ⟨a0, n0, c0, e0, x1, x5, rfl, hi⟩
def K0 (Q : QT) : KT := andThen (fun env' h' => (match kp.find 4000008 with | some ks => Den pg fn.ntmps (C [1, 1]) (env'.keep ks) h' (KR Q) | none => den pg fn.ntmps kp (C [1, 1]) env' h' (KR Q))) (KR Q)
def K1 (Q : QT) : KT := Zda 0 (K0 Q)
def K2 (Q : QT) : KT := left kp 2 (K1 Q)
def K3 (Q : QT) (R2 : T2) : KT := rnd ((kp.find 1000002).getD []) (E2 R2) (K2 Q)
def L2 (Q : QT) (a0 : Pt) (n0 c0 : Nat) (e0 : Bool) (x1 x5 : Int) (h : Zaa) : Prop := Zes (Den pg fn.ntmps (C [1, 0, 1, 0, 0])) ((kp.find 1000002).getD []) (K2 Q) [(0, .slice a0 n0 c0 e0), (1, .int .i64 x1), (5, .int .i64 x5)] h
def Zkd (Q : QT) (x1 : Int) (h : Zaa) : Prop := At (K1 Q) (.exit 0) [(1, .int .i64 x1)] h
def L2t (Q : QT) (R2 : T2) (a0 : Pt) (n0 c0 : Nat) (e0 : Bool) (x1 x5 : Int) (h : Zaa) : Prop :=
 bcase (decide ((x5 : Int) < (((n0 : Nat) : Int)))) (Zae pg Zce [.int .i64 x1] h fun V0 H1 =>
 Zbs (some V0) fun S2 => (0 ≤ (x5 : Int) ∧ (x5 : Int) < (n0 : Nat)) ∧ (Zbu a0 fun I3 O4 => Zcb (Zbc H1 (.ptr (some (I3, O4 + (Int.toNat x5) * 2 + 0))) [.str S2]) fun H5 => Zae pg Zce [.int .i64 (IntKind.wrap .i64 (x1 + 1))] H5 fun V6 H7 =>
 Zbs (some V6) fun S8 => (0 ≤ (x5 : Int) ∧ (x5 : Int) < (n0 : Nat)) ∧ (Zbu a0 fun I9 O10 => Zcb (Zbc H7 (.ptr (some (I9, O10 + (Int.toNat x5) * 2 + 1))) [.str S8]) fun H11 => R2 a0 n0 c0 e0 (IntKind.wrap .i64 ((IntKind.wrap .i64 (x1 + 1)) + 1)) (IntKind.wrap .i64 (x5 + 1)) H11))) (Zkd Q x1 h)
theorem Zhj (Q : QT) (R2 : T2) (a0 : Pt) (n0 c0 : Nat) (e0 : Bool) (x1 x5 : Int) (h : Zaa) (ht : L2t Q R2 a0 n0 c0 e0 x1 x5 h) : Den pg fn.ntmps (C [1, 0, 1, 0, 0]) [(0, .slice a0 n0 c0 e0), (1, .int .i64 x1), (5, .int .i64 x5)] h (K3 Q R2) :=
  Zbh (kp := kp) (cast (by kernel_rfl) ht)
theorem L2ind (Q : QT) (a0 : Pt) (n0 c0 : Nat) (e0 : Bool) {G : Type} (J : G → Int → Int → Zaa → Prop) (m : G → Nat)
 (hr : ∀ (g : G) (x1 x5 : Int) (h : Zaa), J g x1 x5 h → ∀ (R2 : T2), (∀ g' (x1 x5 : Int) (h : Zaa), m g' < m g → J g' x1 x5 h → R2 a0 n0 c0 e0 x1 x5 h) → L2t Q R2 a0 n0 c0 e0 x1 x5 h)
 (g : G) (x1 x5 : Int) (h : Zaa) (hj : J g x1 x5 h) : L2 Q a0 n0 c0 e0 x1 x5 h := by
  refine Zes.inv2 (fun g => E2 fun a0' n0' c0' e0' x1 x5 h => a0 = a0' ∧ n0 = n0' ∧ c0 = c0' ∧ e0 = e0' ∧ J g x1 x5 h) (fun g => E2 fun a0' n0' c0' e0' x1 x5 h => a0 = a0' ∧ n0 = n0' ∧ c0 = c0' ∧ e0 = e0' ∧ ∃ g', m g' < m g ∧ J g' x1 x5 h) m ?_ ?_ g ⟨rfl, rfl, rfl, rfl, hj⟩
  · intro g env h hi
    obtain ⟨a0', n0', c0', e0', x1, x5, rfl, rfl, rfl, rfl, rfl, hj⟩ := Zdd hi
    exact Zhj Q _ a0 n0 c0 e0 x1 x5 h (hr g x1 x5 h hj (fun a0' n0' c0' e0' x1 x5 h => a0 = a0' ∧ n0 = n0' ∧ c0 = c0' ∧ e0 = e0' ∧ ∃ g', m g' < m g ∧ J g' x1 x5 h) fun g' x1 x5 h hlt hj => ⟨rfl, rfl, rfl, rfl, g', hlt, hj⟩)
  · intro g env h hi
    obtain ⟨a0', n0', c0', e0', x1, x5, rfl, rfl, rfl, rfl, rfl, g', hlt, hj⟩ := Zdd hi
    exact ⟨g', hlt, rfl, rfl, rfl, rfl, hj⟩
theorem A2x0i (Q : QT) (x1 : Int) (h : Zaa) (ht :
 Q (.int .i64 x1) h) : Zkd Q x1 h :=
  At.mk (cast (by kernel_rfl) ht)
theorem call (a0 : Pt) (n0 c0 : Nat) (e0 : Bool) (x1 : Int) (h : Zaa) (Q : QT) (ht :
 L2 Q a0 n0 c0 e0 x1 0 h) : Zae pg Zif [.slice a0 n0 c0 e0, .int .i64 x1] h Q :=
  Zae.of_body kp (c := cod fn) (fn := fn) Go.Proofs.Try.func47 (by kernel_rfl) (by kernel_rfl) (Nat.le_of_ble_eq_true (by kernel_rfl))
    (cast (by kernel_rfl) ht)
end Zew
namespace Zey
noncomputable abbrev fn : Func := Go.Proofs.Try.f77
def kp : Zcg := [(3000002, [1, 4]), (1000002, [0, 1, 5]), (2000004, [19, 1, 0, 5]), (2000007, [29, 1, 5, 0])]
noncomputable def C (p : List Nat) : Code := (cod fn).sub p
def KR (Q : QT) : KT := Zex pg fn.results.toList Q
abbrev T2 := Pt → Nat → Nat → Bool → Int → Int → Zaa → Prop
def E2 (R2 : T2) (env : Env) (h : Zaa) : Prop := Zcq 0 env fun v env => xSl (some v) fun a0 n0 c0 e0 => Zcq 1 env fun v env => Zfb .i64 v fun x1 => Zcq 5 env fun v env => Zfb .i64 v fun x5 => Zld env (R2 a0 n0 c0 e0 x1 x5 h)
theorem Zdd {R2 : T2} {env : Env} {h : Zaa} (hi : E2 R2 env h) : ∃ a0, ∃ n0, ∃ c0, ∃ e0, ∃ x1, ∃ x5, env = [(0, .slice a0 n0 c0 e0), (1, .int .i64 x1), (5, .int .i64 x5)] ∧ R2 a0 n0 c0 e0 x1 x5 h := by
  unfold E2 at hi
  have hi0 := hi
  clear hi
  obtain ⟨_, _, rfl, hi1⟩ := Zad hi0
  obtain ⟨a0, n0, c0, e0, rfl, hi2⟩ := Zbo hi1
  obtain ⟨_, _, rfl, hi3⟩ := Zad hi2
  obtain ⟨x1, rfl, hi4⟩ := Zas hi3
  obtain ⟨_, _, rfl, hi5⟩ := Zad hi4
  obtain ⟨x5, rfl, hi6⟩ := Zas hi5
  obtain ⟨rfl, hi7⟩ := Zbm hi6
  have hi := hi7
  exact ⟨a0, n0, c0, e0, x1, x5, rfl, hi⟩
def K0 (Q : QT) : KT := andThen (fun env' h' => (match kp.find 4000010 with | some ks => Den pg fn.ntmps (C [1, 1]) (env'.keep ks) h' (KR Q) | none => den pg fn.ntmps kp (C [1, 1]) env' h' (KR Q))) (KR Q)
def K1 (Q : QT) : KT := Zda 0 (K0 Q)
def K2 (Q : QT) : KT := left kp 2 (K1 Q)
def K3 (Q : QT) (R2 : T2) : KT := rnd ((kp.find 1000002).getD []) (E2 R2) (K2 Q)
def L2 (Q : QT) (a0 : Pt) (n0 c0 : Nat) (e0 : Bool) (x1 x5 : Int) (h : Zaa) : Prop := Zes (Den pg fn.ntmps (C [1, 0, 1, 0, 0])) ((kp.find 1000002).getD []) (K2 Q) [(0, .slice a0 n0 c0 e0), (1, .int .i64 x1), (5, .int .i64 x5)] h
def Zkd (Q : QT) (x1 : Int) (h : Zaa) : Prop := At (K1 Q) (.exit 0) [(1, .int .i64 x1), (4, .undef)] h
def L2t (Q : QT) (R2 : T2) (a0 : Pt) (n0 c0 : Nat) (e0 : Bool) (x1 x5 : Int) (h : Zaa) : Prop :=
 bcase (decide ((x5 : Int) < (((n0 : Nat) : Int)))) ((0 ≤ (x5 : Int) ∧ (x5 : Int) < (n0 : Nat)) ∧ (Zbu a0 fun I0 O1 => Zbs (Zai h (.ptr (some (I0, O1 + (Int.toNat x5) * 2 + 0)))) fun S2 => Zae pg Zce [.int .i64 x1] h fun V3 H4 =>
 Zbs (some V3) fun S5 => (Zai H4 (.ptr (some (I0, O1 + (Int.toNat x5) * 2 + 0))) = Zai h (.ptr (some (I0, O1 + (Int.toNat x5) * 2 + 0)))) ∧ bcase (!(decide (S2 = S5))) (Q (.int .i64 (-1)) H4) ((0 ≤ (x5 : Int) ∧ (x5 : Int) < (n0 : Nat)) ∧ (Zbu a0 fun I6 O7 => Zbs (Zai H4 (.ptr (some (I6, O7 + (Int.toNat x5) * 2 + 1)))) fun S8 => Zae pg Zce [.int .i64 (IntKind.wrap .i64 (x1 + 1))] H4 fun V9 H10 =>
 Zbs (some V9) fun S11 => (Zai H10 (.ptr (some (I6, O7 + (Int.toNat x5) * 2 + 1))) = Zai H4 (.ptr (some (I6, O7 + (Int.toNat x5) * 2 + 1)))) ∧ bcase (!(decide (S8 = S11))) (Q (.int .i64 (-1)) H10) (R2 a0 n0 c0 e0 (IntKind.wrap .i64 ((IntKind.wrap .i64 (x1 + 1)) + 1)) (IntKind.wrap .i64 (x5 + 1)) H10))))) (Zkd Q x1 h)
theorem Zhj (Q : QT) (R2 : T2) (a0 : Pt) (n0 c0 : Nat) (e0 : Bool) (x1 x5 : Int) (h : Zaa) (ht : L2t Q R2 a0 n0 c0 e0 x1 x5 h) : Den pg fn.ntmps (C [1, 0, 1, 0, 0]) [(0, .slice a0 n0 c0 e0), (1, .int .i64 x1), (5, .int .i64 x5)] h (K3 Q R2) :=
  Zbh (kp := kp) (cast (by kernel_rfl) ht)
theorem L2ind (Q : QT) (a0 : Pt) (n0 c0 : Nat) (e0 : Bool) {G : Type} (J : G → Int → Int → Zaa → Prop) (m : G → Nat)
 (hr : ∀ (g : G) (x1 x5 : Int) (h : Zaa), J g x1 x5 h → ∀ (R2 : T2), (∀ g' (x1 x5 : Int) (h : Zaa), m g' < m g → J g' x1 x5 h → R2 a0 n0 c0 e0 x1 x5 h) → L2t Q R2 a0 n0 c0 e0 x1 x5 h)
 (g : G) (x1 x5 : Int) (h : Zaa) (hj : J g x1 x5 h) : L2 Q a0 n0 c0 e0 x1 x5 h := by
  refine Zes.inv2 (fun g => E2 fun a0' n0' c0' e0' x1 x5 h => a0 = a0' ∧ n0 = n0' ∧ c0 = c0' ∧ e0 = e0' ∧ J g x1 x5 h) (fun g => E2 fun a0' n0' c0' e0' x1 x5 h => a0 = a0' ∧ n0 = n0' ∧ c0 = c0' ∧ e0 = e0' ∧ ∃ g', m g' < m g ∧ J g' x1 x5 h) m ?_ ?_ g ⟨rfl, rfl, rfl, rfl, hj⟩
  · intro g env h hi
    obtain ⟨a0', n0', c0', e0', x1, x5, rfl, rfl, rfl, rfl, rfl, hj⟩ := Zdd hi
    exact Zhj Q _ a0 n0 c0 e0 x1 x5 h (hr g x1 x5 h hj (fun a0' n0' c0' e0' x1 x5 h => a0 = a0' ∧ n0 = n0' ∧ c0 = c0' ∧ e0 = e0' ∧ ∃ g', m g' < m g ∧ J g' x1 x5 h) fun g' x1 x5 h hlt hj => ⟨rfl, rfl, rfl, rfl, g', hlt, hj⟩)
  · intro g env h hi
    obtain ⟨a0', n0', c0', e0', x1, x5, rfl, rfl, rfl, rfl, rfl, g', hlt, hj⟩ := Zdd hi
    exact ⟨g', hlt, rfl, rfl, rfl, rfl, hj⟩
theorem A2x0i (Q : QT) (x1 : Int) (h : Zaa) (ht :
 Q (.int .i64 x1) h) : Zkd Q x1 h :=
  At.mk (cast (by kernel_rfl) ht)
theorem call (a0 : Pt) (n0 c0 : Nat) (e0 : Bool) (x1 : Int) (h : Zaa) (Q : QT) (ht :
 L2 Q a0 n0 c0 e0 x1 0 h) : Zae pg Zic [.slice a0 n0 c0 e0, .int .i64 x1] h Q :=
  Zae.of_body kp (c := cod fn) (fn := fn) Go.Proofs.Try.func77 (by kernel_rfl) (by kernel_rfl) (Nat.le_of_ble_eq_true (by kernel_rfl))
    (cast (by kernel_rfl) ht)
end Zey
end Go.Sim

set_option maxRecDepth 100000
set_option linter.unusedVariables false
namespace Go.Sim
open Go Go.RowKit
namespace Zpm
noncomputable abbrev fn : Func := Go.Proofs.Try.f78
def kp : Zcg := []
noncomputable def C (p : List Nat) : Code := (cod fn).sub p
def KR (Q : QT) : KT := Zex pg fn.results.toList Q
theorem call (x0 x1 x2 : Int) (h : Zaa) (Q : QT) (ht :
 bcase (decide ((x0 : Int) ≥ x1)) (Q (.bool (decide ((x0 : Int) ≤ x2))) h) (Q (.bool false) h)) : Zae pg Ziq [.int .i64 x0, .int .i64 x1, .int .i64 x2] h Q :=
  Zae.of_body kp (c := cod fn) (fn := fn) Go.Proofs.Try.func78 (by kernel_rfl) (by kernel_rfl) (Nat.le_of_ble_eq_true (by kernel_rfl))
    (cast (by kernel_rfl) ht)
end Zpm
namespace Zms
noncomputable abbrev fn : Func := Go.Proofs.Try.f101
def kp : Zcg := []
noncomputable def C (p : List Nat) : Code := (cod fn).sub p
def KR (Q : QT) : KT := Zex pg fn.results.toList Q
theorem call (x0 : List Nat) (h : Zaa) (Q : QT) (ht :
 bcase ((((List.length x0 : Nat) : Int) : Int) == 1) (bcase (!Zea x0 [65]) (Q (.bool (Zea x0 [84] || decide (x0 = [84]))) h) (Q (.bool false) h)) (Q (.bool false) h)) : Zae pg Zjt [.str x0] h Q :=
  Zae.of_body kp (c := cod fn) (fn := fn) Go.Proofs.Try.func101 (by kernel_rfl) (by kernel_rfl) (Nat.le_of_ble_eq_true (by kernel_rfl))
    (cast (by kernel_rfl) ht)
end Zms
namespace Zle
noncomputable abbrev fn : Func := Go.Proofs.Try.f123
def kp : Zcg := []
noncomputable def C (p : List Nat) : Code := (cod fn).sub p
def KR (Q : QT) : KT := Zex pg fn.results.toList Q
theorem call (x0 : List Nat) (h : Zaa) (Q : QT) (ht :
 bcase ((((List.length x0 : Nat) : Int) : Int) == 1) (Zjg x0 0 fun B0 => Zae pg Ziq [.int .i64 (IntKind.wrap .i64 (((B0 : Nat) : Int))), .int .i64 65, .int .i64 84] h fun V1 H2 =>
 Zcv (some V1) fun B3 => Q (.bool B3) H2) (Q (.bool false) h)) : Zae pg Zid [.str x0] h Q :=
  Zae.of_body kp (c := cod fn) (fn := fn) Go.Proofs.Try.func123 (by kernel_rfl) (by kernel_rfl) (Nat.le_of_ble_eq_true (by kernel_rfl))
    (cast (by kernel_rfl) ht)
end Zle
end Go.Sim

set_option maxRecDepth 100000
set_option linter.unusedVariables false
namespace Go.Sim
open Go Go.RowKit
namespace Zfz
noncomputable abbrev fn : Func := Go.Proofs.Try.f114
def kp : Zcg := [(3000002, [4]), (1000002, [0, 1, 5])]
noncomputable def C (p : List Nat) : Code := (cod fn).sub p
def KR (Q : QT) : KT := Zex pg fn.results.toList Q
abbrev T2 := List Nat → Int → Int → Zaa → Prop
def E2 (R2 : T2) (env : Env) (h : Zaa) : Prop := Zcq 0 env fun v env => Zbs (some v) fun x0 => Zcq 1 env fun v env => Zfb .u8 v fun x1 => Zcq 5 env fun v env => Zfb .i64 v fun x5 => Zld env (R2 x0 x1 x5 h)
theorem Zdd {R2 : T2} {env : Env} {h : Zaa} (hi : E2 R2 env h) : ∃ x0, ∃ x1, ∃ x5, env = [(0, .str x0), (1, .int .u8 x1), (5, .int .i64 x5)] ∧ R2 x0 x1 x5 h := by
  unfold E2 at hi
  have hi0 := hi
  clear hi
  obtain ⟨_, _, rfl, hi1⟩ := Zad hi0
  obtain ⟨x0, rfl, hi2⟩ := Zfn hi1
  obtain ⟨_, _, rfl, hi3⟩ := Zad hi2
  obtain ⟨x1, rfl, hi4⟩ := Zas hi3
  obtain ⟨_, _, rfl, hi5⟩ := Zad hi4
  obtain ⟨x5, rfl, hi6⟩ := Zas hi5
  obtain ⟨rfl, hi7⟩ := Zbm hi6
  have hi := hi7
  exact ⟨x0, x1, x5, rfl, hi⟩
def K0 (Q : QT) : KT := andThen (fun env' h' => (match kp.find 4000006 with | some ks => Den pg fn.ntmps (C [1, 1]) (env'.keep ks) h' (KR Q) | none => den pg fn.ntmps kp (C [1, 1]) env' h' (KR Q))) (KR Q)
def K1 (Q : QT) : KT := Zda 0 (K0 Q)
def K2 (Q : QT) : KT := left kp 2 (K1 Q)
def K3 (Q : QT) (R2 : T2) : KT := rnd ((kp.find 1000002).getD []) (E2 R2) (K2 Q)
def L2 (Q : QT) (x0 : List Nat) (x1 x5 : Int) (h : Zaa) : Prop := Zes (Den pg fn.ntmps (C [1, 0, 1, 0, 0])) ((kp.find 1000002).getD []) (K2 Q) [(0, .str x0), (1, .int .u8 x1), (5, .int .i64 x5)] h
def Zkd (Q : QT) (h : Zaa) : Prop := At (K1 Q) (.exit 0) [(4, .undef)] h
def L2t (Q : QT) (R2 : T2) (x0 : List Nat) (x1 x5 : Int) (h : Zaa) : Prop :=
 bcase (decide ((x5 : Int) < (((List.length x0 : Nat) : Int)))) (Zjg x0 x5 fun B0 => bcase ((((B0 : Nat) : Int) : Int) == x1) (Q (.int .i64 x5) h) (R2 x0 x1 (IntKind.wrap .i64 (x5 + 1)) h)) (Zkd Q h)
theorem Zhj (Q : QT) (R2 : T2) (x0 : List Nat) (x1 x5 : Int) (h : Zaa) (ht : L2t Q R2 x0 x1 x5 h) : Den pg fn.ntmps (C [1, 0, 1, 0, 0]) [(0, .str x0), (1, .int .u8 x1), (5, .int .i64 x5)] h (K3 Q R2) :=
  Zbh (kp := kp) (cast (by kernel_rfl) ht)
theorem L2ind (Q : QT) (x0 : List Nat) (x1 : Int) {G : Type} (J : G → Int → Zaa → Prop) (m : G → Nat)
 (hr : ∀ (g : G) (x5 : Int) (h : Zaa), J g x5 h → ∀ (R2 : T2), (∀ g' (x5 : Int) (h : Zaa), m g' < m g → J g' x5 h → R2 x0 x1 x5 h) → L2t Q R2 x0 x1 x5 h)
 (g : G) (x5 : Int) (h : Zaa) (hj : J g x5 h) : L2 Q x0 x1 x5 h := by
  refine Zes.inv2 (fun g => E2 fun x0' x1' x5 h => x0 = x0' ∧ x1 = x1' ∧ J g x5 h) (fun g => E2 fun x0' x1' x5 h => x0 = x0' ∧ x1 = x1' ∧ ∃ g', m g' < m g ∧ J g' x5 h) m ?_ ?_ g ⟨rfl, rfl, hj⟩
  · intro g env h hi
    obtain ⟨x0', x1', x5, rfl, rfl, rfl, hj⟩ := Zdd hi
    exact Zhj Q _ x0 x1 x5 h (hr g x5 h hj (fun x0' x1' x5 h => x0 = x0' ∧ x1 = x1' ∧ ∃ g', m g' < m g ∧ J g' x5 h) fun g' x5 h hlt hj => ⟨rfl, rfl, g', hlt, hj⟩)
  · intro g env h hi
    obtain ⟨x0', x1', x5, rfl, rfl, rfl, g', hlt, hj⟩ := Zdd hi
    exact ⟨g', hlt, rfl, rfl, hj⟩
theorem A2x0i (Q : QT) (h : Zaa) (ht :
 Q (.int .i64 (-1)) h) : Zkd Q h :=
  At.mk (cast (by kernel_rfl) ht)
theorem call (x0 : List Nat) (x1 : Int) (h : Zaa) (Q : QT) (ht :
 L2 Q x0 x1 0 h) : Zae pg Zgb [.str x0, .int .u8 x1] h Q :=
  Zae.of_body kp (c := cod fn) (fn := fn) Go.Proofs.Try.func114 (by kernel_rfl) (by kernel_rfl) (Nat.le_of_ble_eq_true (by kernel_rfl))
    (cast (by kernel_rfl) ht)
end Zfz
namespace Zjl
noncomputable abbrev fn : Func := Go.Proofs.Try.f113
def kp : Zcg := [(4000008, [])]
noncomputable def C (p : List Nat) : Code := (cod fn).sub p
def KR (Q : QT) : KT := Zex pg fn.results.toList Q
def J8 (Q : QT) (h : Zaa) : Prop := Den pg fn.ntmps (C [1, 1]) [] h (KR Q)
theorem J8i (Q : QT) (h : Zaa) (ht :
 Q (.int .i64 0) h) : J8 Q h :=
  Zbh (kp := kp) (cast (by kernel_rfl) ht)
theorem call (x0 : Int) (h : Zaa) (Q : QT) (ht :
 Zae pg Zgb [.str ([105, 98, 117, 108, 109, 112, 120, 121, 122, 88, 89, 90]), .int .u8 x0] h fun V0 H1 =>
 Zgn .i64 (some V0) fun X2 => bcase (decide ((X2 : Int) < 0)) (Q (.int .i64 (-1)) H1) (bcase ((X2 : Int) == 3) (Q (.int .i64 1) H1) (bcase ((X2 : Int) == 4) (Q (.int .i64 1) H1) (bcase ((X2 : Int) == 5) (Q (.int .i64 2) H1) (J8 Q H1))))) : Zae pg Zhu [.int .u8 x0] h Q :=
  Zae.of_body kp (c := cod fn) (fn := fn) Go.Proofs.Try.func113 (by kernel_rfl) (by kernel_rfl) (Nat.le_of_ble_eq_true (by kernel_rfl))
    (cast (by kernel_rfl) ht)
end Zjl
namespace Zih
noncomputable abbrev fn : Func := Go.Proofs.Try.f112
def kp : Zcg := [(2000001, [12, 0]), (2000005, [2])]
noncomputable def C (p : List Nat) : Code := (cod fn).sub p
def KR (Q : QT) : KT := Zex pg fn.results.toList Q
theorem call (a0 : Pt) (h : Zaa) (Q : QT) (ht :
 Zbu a0 fun I0 O1 => Zbu a0 fun I2 O3 => Zgn .i64 (Zai h (.ptr (some (I0, O1 + 1)))) fun X4 => Zbs (Zai h (.ptr (some (I2, O3 + 0)))) fun S5 => (Zai h (.ptr (some (I0, O1 + 1))) = Zai h (.ptr (some (I0, O1 + 1)))) ∧ bcase (decide ((X4 : Int) ≥ (((List.length S5 : Nat) : Int)))) (Zbu a0 fun I6 O7 => Zcb (Zbc h (.ptr (some (I6, O7 + 2))) [.bool true]) fun H8 => Q (.int .u8 0) H8) (Zbu a0 fun I9 O10 => Zgn .i64 (Zai h (.ptr (some (I9, O10 + 1)))) fun X11 => Zbu a0 fun I12 O13 => Zcb (Zbc h (.ptr (some (I12, O13 + 1))) [.int .i64 (IntKind.wrap .i64 (X11 + 1))]) fun H14 => Zbu a0 fun I15 O16 => Zbu a0 fun I17 O18 => Zbs (Zai H14 (.ptr (some (I15, O16 + 0)))) fun S19 => Zgn .i64 (Zai H14 (.ptr (some (I17, O18 + 1)))) fun X20 => (Zai H14 (.ptr (some (I15, O16 + 0))) = Zai H14 (.ptr (some (I15, O16 + 0)))) ∧ Zjg S19 (IntKind.wrap .i64 (X20 - 1)) fun B21 => Q (.int .u8 (((B21 : Nat) : Int))) H14)) : Zae pg Zdt [.ptr a0] h Q :=
  Zae.of_body kp (c := cod fn) (fn := fn) Go.Proofs.Try.func112 (by kernel_rfl) (by kernel_rfl) (Nat.le_of_ble_eq_true (by kernel_rfl))
    (cast (by kernel_rfl) ht)
end Zih
namespace Zay
noncomputable abbrev fn : Func := Go.Proofs.Try.f88
def kp : Zcg := [(4000004, [0, 2, 3, 4]), (3000005, [4, 0, 3, 2]), (1000005, [0, 2, 3, 4, 5]), (4000007, [0, 5, 3, 4, 2]), (2000007, [0, 3, 5, 4, 2]), (4000008, [0, 3, 5, 4, 2]), (2000009, [5, 4, 0, 3, 2]), (4000006, [5, 4, 0, 3, 2]), (4000012, [3, 2])]
noncomputable def C (p : List Nat) : Code := (cod fn).sub p
def KR (Q : QT) : KT := Zex pg fn.results.toList Q
abbrev T5 := Pt → Nat → Nat → Nat → Nat → Int → Int → Zaa → Prop
def E5 (R5 : T5) (env : Env) (h : Zaa) : Prop := Zcq 0 env fun v env => Znk (some v) fun a0 => Zcq 2 env fun v env => Znk (some v) fun a => Zbu a fun i2 o2 => Zcq 3 env fun v env => Znk (some v) fun a => Zbu a fun i3 o3 => Zcq 4 env fun v env => Zfb .i64 v fun x4 => Zcq 5 env fun v env => Zfb .i64 v fun x5 => Zld env (R5 a0 i2 o2 i3 o3 x4 x5 h)
theorem Zjh {R5 : T5} {env : Env} {h : Zaa} (hi : E5 R5 env h) : ∃ a0, ∃ i2, ∃ o2, ∃ i3, ∃ o3, ∃ x4, ∃ x5, env = [(0, .ptr a0), (2, .ptr (some (i2, o2))), (3, .ptr (some (i3, o3))), (4, .int .i64 x4), (5, .int .i64 x5)] ∧ R5 a0 i2 o2 i3 o3 x4 x5 h := by
  unfold E5 at hi
  have hi0 := hi
  clear hi
  obtain ⟨_, _, rfl, hi1⟩ := Zad hi0
  obtain ⟨a0, rfl, hi2⟩ := Zdn hi1
  obtain ⟨_, _, rfl, hi3⟩ := Zad hi2
  obtain ⟨a, rfl, hi4⟩ := Zdn hi3
  obtain ⟨i2, o2, rfl, hi5⟩ := Zcm hi4
  obtain ⟨_, _, rfl, hi6⟩ := Zad hi5
  obtain ⟨a, rfl, hi7⟩ := Zdn hi6
  obtain ⟨i3, o3, rfl, hi8⟩ := Zcm hi7
  obtain ⟨_, _, rfl, hi9⟩ := Zad hi8
  obtain ⟨x4, rfl, hi10⟩ := Zas hi9
  obtain ⟨_, _, rfl, hi11⟩ := Zad hi10
  obtain ⟨x5, rfl, hi12⟩ := Zas hi11
  obtain ⟨rfl, hi13⟩ := Zbm hi12
  have hi := hi13
  exact ⟨a0, i2, o2, i3, o3, x4, x5, rfl, hi⟩
def K0 (Q : QT) : KT := andThen (fun env' h' => (match kp.find 4000010 with | some ks => Den pg fn.ntmps (C [1, 1, 1, 1, 1]) (env'.keep ks) h' (KR Q) | none => den pg fn.ntmps kp (C [1, 1, 1, 1, 1]) env' h' (KR Q))) (KR Q)
def K1 (Q : QT) : KT := Zda 0 (K0 Q)
def K2 (Q : QT) : KT := left kp 5 (K1 Q)
def K3 (Q : QT) (R5 : T5) : KT := rnd ((kp.find 1000005).getD []) (E5 R5) (K2 Q)
def K4 (Q : QT) (R5 : T5) : KT := andThen (fun env' h' => (match kp.find 4000006 with | some ks => Den pg fn.ntmps (C [1, 1, 1, 1, 0, 1, 0, 0, 1, 1]) (env'.keep ks) h' (K3 Q R5) | none => den pg fn.ntmps kp (C [1, 1, 1, 1, 0, 1, 0, 0, 1, 1]) env' h' (K3 Q R5))) (K3 Q R5)
def K5 (Q : QT) (R5 : T5) : KT := Zda 1 (K4 Q R5)
def J4 (Q : QT) (a0 : Pt) (i2 o2 i3 o3 : Nat) (x4 : Int) (h : Zaa) : Prop := Den pg fn.ntmps (C [1, 1, 1, 1]) [(0, .ptr a0), (2, .ptr (some (i2, o2))), (3, .ptr (some (i3, o3))), (4, .int .i64 x4)] h (KR Q)
def L5 (Q : QT) (a0 : Pt) (i2 o2 i3 o3 : Nat) (x4 x5 : Int) (h : Zaa) : Prop := Zes (Den pg fn.ntmps (C [1, 1, 1, 1, 0, 1, 0, 0])) ((kp.find 1000005).getD []) (K2 Q) [(0, .ptr a0), (2, .ptr (some (i2, o2))), (3, .ptr (some (i3, o3))), (4, .int .i64 x4), (5, .int .i64 x5)] h
def J7 (Q : QT) (R5 : T5) (a0 : Pt) (x5 : Int) (i3 o3 : Nat) (x4 : Int) (i2 o2 : Nat) (h : Zaa) : Prop := Den pg fn.ntmps (C [1, 1, 1, 1, 0, 1, 0, 0, 1]) [(0, .ptr a0), (5, .int .i64 x5), (3, .ptr (some (i3, o3))), (4, .int .i64 x4), (2, .ptr (some (i2, o2)))] h (K3 Q R5)
def A5x0 (Q : QT) (x4 : Int) (a0 : Pt) (i3 o3 i2 o2 : Nat) (h : Zaa) : Prop := At (K1 Q) (.exit 0) [(4, .int .i64 x4), (0, .ptr a0), (3, .ptr (some (i3, o3))), (2, .ptr (some (i2, o2)))] h
def J8 (Q : QT) (R5 : T5) (a0 : Pt) (i3 o3 : Nat) (x5 x4 : Int) (i2 o2 : Nat) (h : Zaa) : Prop := Den pg fn.ntmps (C [1, 1, 1, 1, 0, 1, 0, 0, 1, 0, 0, 1]) [(0, .ptr a0), (3, .ptr (some (i3, o3))), (5, .int .i64 x5), (4, .int .i64 x4), (2, .ptr (some (i2, o2)))] h (K5 Q R5)
def J12 (Q : QT) (i3 o3 i2 o2 : Nat) (h : Zaa) : Prop := Den pg fn.ntmps (C [1, 1, 1, 1, 1, 1]) [(3, .ptr (some (i3, o3))), (2, .ptr (some (i2, o2)))] h (KR Q)
def J6 (Q : QT) (R5 : T5) (x5 x4 : Int) (a0 : Pt) (i3 o3 i2 o2 : Nat) (h : Zaa) : Prop := Den pg fn.ntmps (C [1, 1, 1, 1, 0, 1, 0, 0, 1, 1]) [(5, .int .i64 x5), (4, .int .i64 x4), (0, .ptr a0), (3, .ptr (some (i3, o3))), (2, .ptr (some (i2, o2)))] h (K3 Q R5)
theorem J4i (Q : QT) (a0 : Pt) (i2 o2 i3 o3 : Nat) (x4 : Int) (h : Zaa) (ht :
 L5 Q a0 i2 o2 i3 o3 x4 0 h) : J4 Q a0 i2 o2 i3 o3 x4 h :=
  Zbh (kp := kp) (cast (by kernel_rfl) ht)
def L5t (Q : QT) (R5 : T5) (a0 : Pt) (i2 o2 i3 o3 : Nat) (x4 x5 : Int) (h : Zaa) : Prop :=
 bcase (decide ((x5 : Int) < x4)) (Zbu a0 fun I20 O21 => Zcv (Zai h (.ptr (some (I20, O21 + 2)))) fun B22 => bcase (!B22) (J7 Q R5 a0 x5 i3 o3 x4 i2 o2 h) (A5x0 Q x4 a0 i3 o3 i2 o2 h)) (A5x0 Q x4 a0 i3 o3 i2 o2 h)
theorem Zsp (Q : QT) (R5 : T5) (a0 : Pt) (i2 o2 i3 o3 : Nat) (x4 x5 : Int) (h : Zaa) (ht : L5t Q R5 a0 i2 o2 i3 o3 x4 x5 h) : Den pg fn.ntmps (C [1, 1, 1, 1, 0, 1, 0, 0]) [(0, .ptr a0), (2, .ptr (some (i2, o2))), (3, .ptr (some (i3, o3))), (4, .int .i64 x4), (5, .int .i64 x5)] h (K3 Q R5) :=
  Zbh (kp := kp) (cast (by kernel_rfl) ht)
theorem L5ind (Q : QT) (a0 : Pt) (i2 o2 i3 o3 : Nat) (x4 : Int) {G : Type} (J : G → Int → Zaa → Prop) (m : G → Nat)
 (hr : ∀ (g : G) (x5 : Int) (h : Zaa), J g x5 h → ∀ (R5 : T5), (∀ g' (x5 : Int) (h : Zaa), m g' < m g → J g' x5 h → R5 a0 i2 o2 i3 o3 x4 x5 h) → L5t Q R5 a0 i2 o2 i3 o3 x4 x5 h)
 (g : G) (x5 : Int) (h : Zaa) (hj : J g x5 h) : L5 Q a0 i2 o2 i3 o3 x4 x5 h := by
  refine Zes.inv2 (fun g => E5 fun a0' i2' o2' i3' o3' x4' x5 h => a0 = a0' ∧ i2 = i2' ∧ o2 = o2' ∧ i3 = i3' ∧ o3 = o3' ∧ x4 = x4' ∧ J g x5 h) (fun g => E5 fun a0' i2' o2' i3' o3' x4' x5 h => a0 = a0' ∧ i2 = i2' ∧ o2 = o2' ∧ i3 = i3' ∧ o3 = o3' ∧ x4 = x4' ∧ ∃ g', m g' < m g ∧ J g' x5 h) m ?_ ?_ g ⟨rfl, rfl, rfl, rfl, rfl, rfl, hj⟩
  · intro g env h hi
    obtain ⟨a0', i2', o2', i3', o3', x4', x5, rfl, rfl, rfl, rfl, rfl, rfl, rfl, hj⟩ := Zjh hi
    exact Zsp Q _ a0 i2 o2 i3 o3 x4 x5 h (hr g x5 h hj (fun a0' i2' o2' i3' o3' x4' x5 h => a0 = a0' ∧ i2 = i2' ∧ o2 = o2' ∧ i3 = i3' ∧ o3 = o3' ∧ x4 = x4' ∧ ∃ g', m g' < m g ∧ J g' x5 h) fun g' x5 h hlt hj => ⟨rfl, rfl, rfl, rfl, rfl, rfl, g', hlt, hj⟩)
  · intro g env h hi
    obtain ⟨a0', i2', o2', i3', o3', x4', x5, rfl, rfl, rfl, rfl, rfl, rfl, rfl, g', hlt, hj⟩ := Zjh hi
    exact ⟨g', hlt, rfl, rfl, rfl, rfl, rfl, rfl, hj⟩
theorem J7i (Q : QT) (R5 : T5) (a0 : Pt) (x5 : Int) (i3 o3 : Nat) (x4 : Int) (i2 o2 : Nat) (h : Zaa) (ht :
 Zjg ([40, 44]) x5 fun B23 => Zae pg Zdt [.ptr a0] h fun V24 H25 =>
 Zgn .u8 (some V24) fun X26 => bcase (!((X26 : Int) == (((B23 : Nat) : Int)))) (Zbu a0 fun I27 O28 => Zcb (Zbc H25 (.ptr (some (I27, O28 + 2))) [.bool true]) fun H29 => J8 Q R5 a0 i3 o3 x5 x4 i2 o2 H29) (Zbu a0 fun I30 O31 => Zcv (Zai H25 (.ptr (some (I30, O31 + 2)))) fun B32 => Zbu a0 fun I33 O34 => Zcb (Zbc H25 (.ptr (some (I33, O34 + 2))) [.bool B32]) fun H35 => J8 Q R5 a0 i3 o3 x5 x4 i2 o2 H35)) : J7 Q R5 a0 x5 i3 o3 x4 i2 o2 h :=
  Zbh (kp := kp) (cast (by kernel_rfl) ht)
theorem A5x0i (Q : QT) (x4 : Int) (a0 : Pt) (i3 o3 i2 o2 : Nat) (h : Zaa) (ht :
 bcase (decide ((x4 : Int) > 0)) (Zbu a0 fun I36 O37 => Zcv (Zai h (.ptr (some (I36, O37 + 2)))) fun B38 => bcase (!B38) (Zae pg Zdt [.ptr a0] h fun V39 H40 =>
 Zgn .u8 (some V39) fun X41 => bcase (!((X41 : Int) == 41)) (Zbu a0 fun I42 O43 => Zcb (Zbc H40 (.ptr (some (I42, O43 + 2))) [.bool true]) fun H44 => J12 Q i3 o3 i2 o2 H44) (Zbu a0 fun I45 O46 => Zcv (Zai H40 (.ptr (some (I45, O46 + 2)))) fun B47 => Zbu a0 fun I48 O49 => Zcb (Zbc H40 (.ptr (some (I48, O49 + 2))) [.bool B47]) fun H50 => J12 Q i3 o3 i2 o2 H50)) (J12 Q i3 o3 i2 o2 h)) (J12 Q i3 o3 i2 o2 h)) : A5x0 Q x4 a0 i3 o3 i2 o2 h :=
  At.mk (cast (by kernel_rfl) ht)
theorem J8i (Q : QT) (R5 : T5) (a0 : Pt) (i3 o3 : Nat) (x5 x4 : Int) (i2 o2 : Nat) (h : Zaa) (ht :
 Zbu a0 fun I51 O52 => Zcv (Zai h (.ptr (some (I51, O52 + 2)))) fun B53 => bcase (!B53) (xSl (Zai h (.ptr (some (i3, o3 + 1)))) fun A54 N55 C56 E57 => Zae pg Zdj [.ptr a0] h fun V58 H59 =>
 Zoc V58 fun K60 => Zak K60 fun C61 Z62 => Zgn .u8 (some C61) fun X63 => Zak Z62 fun C64 Z65 => xSl (some C64) fun A66 N67 C68 E69 => Zct Z65 ((Zai H59 (.ptr (some (i3, o3 + 1))) = Zai h (.ptr (some (i3, o3 + 1)))) ∧ Zdw (H59 ++ [.cells Zaj [.int .u8 X63, .slice A66 N67 C68 E69] false]) fun H70 => (Zai H70 (.ptr (some (i3, o3 + 1))) = Zai H59 (.ptr (some (i3, o3 + 1)))) ∧ Zcy pg Zls H70 (.slice A54 N55 C56 E57) (.slice (some (H59.length, 0)) 1 1 true) fun V71 H72 => xSl (some V71) fun A73 N74 C75 E76 => Zcb (Zbc H72 (.ptr (some (i3, o3 + 1))) [.slice A73 N74 C75 E76]) fun H77 => J6 Q R5 x5 x4 a0 i3 o3 i2 o2 H77)) (J6 Q R5 x5 x4 a0 i3 o3 i2 o2 h)) : J8 Q R5 a0 i3 o3 x5 x4 i2 o2 h :=
  Zbh (kp := kp) (cast (by kernel_rfl) ht)
theorem J12i (Q : QT) (i3 o3 i2 o2 : Nat) (h : Zaa) (ht :
 Zdg (Zbw h (.ptr (some (i3, o3))) 2) fun K78 => Zak K78 fun C79 Z80 => Zgn .u8 (some C79) fun X81 => Zak Z80 fun C82 Z83 => xSl (some C82) fun A84 N85 C86 E87 => Zct Z83 (Zcb (Zbc h (.ptr (some (i2, o2))) [.int .u8 X81, .slice A84 N85 C86 E87]) fun H88 => Zdg (Zbw H88 (.ptr (some (i2, o2))) 2) fun K89 => Zak K89 fun C90 Z91 => Zgn .u8 (some C90) fun X92 => Zak Z91 fun C93 Z94 => xSl (some C93) fun A95 N96 C97 E98 => Zct Z94 (Q (.agg [.int .u8 X92, .slice A95 N96 C97 E98]) H88))) : J12 Q i3 o3 i2 o2 h :=
  Zbh (kp := kp) (cast (by kernel_rfl) ht)
theorem J6i (Q : QT) (R5 : T5) (x5 x4 : Int) (a0 : Pt) (i3 o3 i2 o2 : Nat) (h : Zaa) (ht :
 R5 a0 i2 o2 i3 o3 x4 (IntKind.wrap .i64 (x5 + 1)) h) : J6 Q R5 x5 x4 a0 i3 o3 i2 o2 h :=
  Zbh (kp := kp) (cast (by kernel_rfl) ht)
theorem call (a0 : Pt) (h : Zaa) (Q : QT) (ht :
 Zdw (h ++ [.cells Zaj [.int .u8 0, .slice none 0 0 true] false]) fun H0 => Zae pg Zdt [.ptr a0] H0 fun V1 H2 =>
 Zgn .u8 (some V1) fun X3 => Zdw (H2 ++ [.cells Zaj [] false]) fun H4 => Zdw (H4 ++ [.cells Zaj [.int .u8 0, .slice none 0 0 true] false]) fun H5 => Zcb (Zbc H5 (.ptr (some (H4.length, 0))) [.int .u8 X3, .slice (some (H2.length, 0)) 0 0 true]) fun H6 => Zgn .u8 (Zai H6 (.ptr (some (H4.length, 0 + 0)))) fun X7 => Zae pg Zhu [.int .u8 X7] H6 fun V8 H9 =>
 Zgn .i64 (some V8) fun X10 => Zbu a0 fun I11 O12 => Zcv (Zai H9 (.ptr (some (I11, O12 + 2)))) fun B13 => bcase B13 (Zbu a0 fun I14 O15 => Zcb (Zbc H9 (.ptr (some (I14, O15 + 2))) [.bool true]) fun H16 => J4 Q a0 h.length 0 H4.length 0 X10 H16) (Zbu a0 fun I17 O18 => Zcb (Zbc H9 (.ptr (some (I17, O18 + 2))) [.bool (decide ((X10 : Int) < 0))]) fun H19 => J4 Q a0 h.length 0 H4.length 0 X10 H19)) : Zae pg Zdj [.ptr a0] h Q :=
  Zae.of_body kp (c := cod fn) (fn := fn) Go.Proofs.Try.func88 (by kernel_rfl) (by kernel_rfl) (Nat.le_of_ble_eq_true (by kernel_rfl))
    (cast (by kernel_rfl) ht)
end Zay
namespace Zkq
noncomputable abbrev fn : Func := Go.Proofs.Try.f57
def kp : Zcg := [(4000005, [5, 2])]
noncomputable def C (p : List Nat) : Code := (cod fn).sub p
def KR (Q : QT) : KT := Zex pg fn.results.toList Q
def J5 (Q : QT) (i5 o5 i2 o2 : Nat) (h : Zaa) : Prop := Den pg fn.ntmps (C [1, 1, 1, 1]) [(5, .ptr (some (i5, o5))), (2, .ptr (some (i2, o2)))] h (KR Q)
theorem J5i (Q : QT) (i5 o5 i2 o2 : Nat) (h : Zaa) (ht :
 Zdg (Zbw h (.ptr (some (i5, o5))) 2) fun K51 => Zak K51 fun C52 Z53 => Zgn .u8 (some C52) fun X54 => Zak Z53 fun C55 Z56 => xSl (some C55) fun A57 N58 C59 E60 => Zct Z56 (Zcb (Zbc h (.ptr (some (i2, o2))) [.int .u8 X54, .slice A57 N58 C59 E60]) fun H61 => Zdg (Zbw H61 (.ptr (some (i2, o2))) 2) fun K62 => Zak K62 fun C63 Z64 => Zgn .u8 (some C63) fun X65 => Zak Z64 fun C66 Z67 => xSl (some C66) fun A68 N69 C70 E71 => Zct Z67 (Q (.tup [.agg [.int .u8 X65, .slice A68 N69 C70 E71], .bool true]) H61))) : J5 Q i5 o5 i2 o2 h :=
  Zbh (kp := kp) (cast (by kernel_rfl) ht)
theorem call (x0 : List Nat) (h : Zaa) (Q : QT) (ht :
 Zdw (h ++ [.cells Zaj [.int .u8 0, .slice none 0 0 true] false]) fun H0 => Zdw (H0 ++ [.cells Zcn [.str x0, .int .i64 0, .bool false] false]) fun H1 => Zae pg Zdj [.ptr (some (H0.length, 0))] H1 fun V2 H3 =>
 Zoc V2 fun K4 => Zak K4 fun C5 Z6 => Zgn .u8 (some C5) fun X7 => Zak Z6 fun C8 Z9 => xSl (some C8) fun A10 N11 C12 E13 => Zct Z9 (Zdw (H3 ++ [.cells Zaj [.int .u8 0, .slice none 0 0 true] false]) fun H14 => Zcb (Zbc H14 (.ptr (some (H3.length, 0))) [.int .u8 X7, .slice A10 N11 C12 E13]) fun H15 => Zcv (Zai H15 (.ptr (some (H0.length, 0 + 2)))) fun B16 => bcase B16 (Zcb (Zbc H15 (.ptr (some (h.length, 0))) [.int .u8 0, .slice none 0 0 true]) fun H17 => Zdg (Zbw H17 (.ptr (some (h.length, 0))) 2) fun K18 => Zak K18 fun C19 Z20 => Zgn .u8 (some C19) fun X21 => Zak Z20 fun C22 Z23 => xSl (some C22) fun A24 N25 C26 E27 => Zct Z23 (Q (.tup [.agg [.int .u8 X21, .slice A24 N25 C26 E27], .bool false]) H17)) (Zgn .i64 (Zai H15 (.ptr (some (H0.length, 0 + 1)))) fun X28 => bcase (!((X28 : Int) == (((List.length x0 : Nat) : Int)))) (Zcb (Zbc H15 (.ptr (some (h.length, 0))) [.int .u8 0, .slice none 0 0 true]) fun H29 => Zdg (Zbw H29 (.ptr (some (h.length, 0))) 2) fun K30 => Zak K30 fun C31 Z32 => Zgn .u8 (some C31) fun X33 => Zak Z32 fun C34 Z35 => xSl (some C34) fun A36 N37 C38 E39 => Zct Z35 (Q (.tup [.agg [.int .u8 X33, .slice A36 N37 C38 E39], .bool false]) H29)) (bcase (decide (((((List.length x0 : Nat) : Int)) : Int) > 60)) (Zcb (Zbc H15 (.ptr (some (h.length, 0))) [.int .u8 0, .slice none 0 0 true]) fun H40 => Zdg (Zbw H40 (.ptr (some (h.length, 0))) 2) fun K41 => Zak K41 fun C42 Z43 => Zgn .u8 (some C42) fun X44 => Zak Z43 fun C45 Z46 => xSl (some C45) fun A47 N48 C49 E50 => Zct Z46 (Q (.tup [.agg [.int .u8 X44, .slice A47 N48 C49 E50], .bool false]) H40)) (J5 Q H3.length 0 h.length 0 H15))))) : Zae pg Zkz [.str x0] h Q :=
  Zae.of_body kp (c := cod fn) (fn := fn) Go.Proofs.Try.func57 (by kernel_rfl) (by kernel_rfl) (Nat.le_of_ble_eq_true (by kernel_rfl))
    (cast (by kernel_rfl) ht)
end Zkq
namespace Zli
noncomputable abbrev fn : Func := Go.Proofs.Try.f119
def kp : Zcg := []
noncomputable def C (p : List Nat) : Code := (cod fn).sub p
def KR (Q : QT) : KT := Zex pg fn.results.toList Q
theorem call (x0 : List Nat) (h : Zaa) (Q : QT) (ht :
 Zae pg Zkz [.str x0] h fun V0 H1 =>
 Zys V0 fun K2 => Zak K2 fun C3 Z4 => Zoc C3 fun K5 => Zak K5 fun C6 Z7 => Zgn .u8 (some C6) fun X8 => Zak Z7 fun C9 Z10 => xSl (some C9) fun A11 N12 C13 E14 => Zct Z10 (Zak Z4 fun C15 Z16 => Zcv (some C15) fun B17 => Zct Z16 (Zdw (H1 ++ [.cells Zaj [.int .u8 0, .slice none 0 0 true] false]) fun H18 => Zcb (Zbc H18 (.ptr (some (H1.length, 0))) [.int .u8 X8, .slice A11 N12 C13 E14]) fun H19 => Q (.bool B17) H19))) : Zae pg Zeu [.str x0] h Q :=
  Zae.of_body kp (c := cod fn) (fn := fn) Go.Proofs.Try.func119 (by kernel_rfl) (by kernel_rfl) (Nat.le_of_ble_eq_true (by kernel_rfl))
    (cast (by kernel_rfl) ht)
end Zli
end Go.Sim

set_option maxRecDepth 100000
set_option linter.unusedVariables false
namespace Go.Sim
open Go Go.RowKit
namespace Zlz
noncomputable abbrev fn : Func := Go.Proofs.Try.f107
def kp : Zcg := [(4000009, [])]
noncomputable def C (p : List Nat) : Code := (cod fn).sub p
def KR (Q : QT) : KT := Zex pg fn.results.toList Q
def J9 (Q : QT) (h : Zaa) : Prop := Den pg fn.ntmps (C [1, 1]) [] h (KR Q)
theorem J9i (Q : QT) (h : Zaa) (ht :
 Q (.int .i64 (-1)) h) : J9 Q h :=
  Zbh (kp := kp) (cast (by kernel_rfl) ht)
theorem call (x0 : List Nat) (h : Zaa) (Q : QT) (ht :
 bcase (!((((List.length x0 : Nat) : Int) : Int) == 1)) (Q (.int .i64 (-1)) h) (Zae pg Zee [.str ([105, 98, 117, 120, 121, 122, 88, 89, 90]), .str x0] h fun V0 H1 =>
 Zcv (some V0) fun B2 => bcase B2 (Q (.int .i64 0) H1) (bcase (decide (x0 = [108])) (Q (.int .i64 1) H1) (bcase (decide (x0 = [109])) (Q (.int .i64 1) H1) (bcase (decide (x0 = [112])) (Q (.int .i64 2) H1) (J9 Q H1)))))) : Zae pg Zji [.str x0] h Q :=
  Zae.of_body kp (c := cod fn) (fn := fn) Go.Proofs.Try.func107 (by kernel_rfl) (by kernel_rfl) (Nat.le_of_ble_eq_true (by kernel_rfl))
    (cast (by kernel_rfl) ht)
end Zlz
namespace Zdh
noncomputable abbrev fn : Func := Go.Proofs.Try.f84
def kp : Zcg := [(4000003, [0]), (3000006, [4, 0, 2, 3]), (1000006, [0, 4, 27, 28]), (4000020, [4, 0])]
noncomputable def C (p : List Nat) : Code := (cod fn).sub p
def KR (Q : QT) : KT := Zex pg fn.results.toList Q
abbrev T6 := List Nat → Nat → Nat → Int → Int → Zaa → Prop
def E6 (R6 : T6) (env : Env) (h : Zaa) : Prop := Zcq 0 env fun v env => Zbs (some v) fun x0 => Zcq 4 env fun v env => Znk (some v) fun a => Zbu a fun i4 o4 => Zcq 27 env fun v env => Zfb .i64 v fun x27 => Zcq 28 env fun v env => Zfb .i64 v fun x28 => Zld env (R6 x0 i4 o4 x27 x28 h)
theorem Yfi {R6 : T6} {env : Env} {h : Zaa} (hi : E6 R6 env h) : ∃ x0, ∃ i4, ∃ o4, ∃ x27, ∃ x28, env = [(0, .str x0), (4, .ptr (some (i4, o4))), (27, .int .i64 x27), (28, .int .i64 x28)] ∧ R6 x0 i4 o4 x27 x28 h := by
  unfold E6 at hi
  have hi0 := hi
  clear hi
  obtain ⟨_, _, rfl, hi1⟩ := Zad hi0
  obtain ⟨x0, rfl, hi2⟩ := Zfn hi1
  obtain ⟨_, _, rfl, hi3⟩ := Zad hi2
  obtain ⟨a, rfl, hi4⟩ := Zdn hi3
  obtain ⟨i4, o4, rfl, hi5⟩ := Zcm hi4
  obtain ⟨_, _, rfl, hi6⟩ := Zad hi5
  obtain ⟨x27, rfl, hi7⟩ := Zas hi6
  obtain ⟨_, _, rfl, hi8⟩ := Zad hi7
  obtain ⟨x28, rfl, hi9⟩ := Zas hi8
  obtain ⟨rfl, hi10⟩ := Zbm hi9
  have hi := hi10
  exact ⟨x0, i4, o4, x27, x28, rfl, hi⟩
def K0 (Q : QT) : KT := andThen (fun env' h' => (match kp.find 4000016 with | some ks => Den pg fn.ntmps (C [1, 1, 1, 1, 1]) (env'.keep ks) h' (KR Q) | none => den pg fn.ntmps kp (C [1, 1, 1, 1, 1]) env' h' (KR Q))) (KR Q)
def K1 (Q : QT) : KT := Zda 0 (K0 Q)
def K2 (Q : QT) : KT := left kp 6 (K1 Q)
def K3 (Q : QT) (R6 : T6) : KT := rnd ((kp.find 1000006).getD []) (E6 R6) (K2 Q)
def J3 (Q : QT) (x0 : List Nat) (h : Zaa) : Prop := Den pg fn.ntmps (C [1, 1]) [(0, .str x0)] h (KR Q)
def L6 (Q : QT) (x0 : List Nat) (i4 o4 : Nat) (x27 x28 : Int) (h : Zaa) : Prop := Zes (Den pg fn.ntmps (C [1, 1, 1, 1, 0, 1, 0, 0])) ((kp.find 1000006).getD []) (K2 Q) [(0, .str x0), (4, .ptr (some (i4, o4))), (27, .int .i64 x27), (28, .int .i64 x28)] h
def Yjp (Q : QT) (i4 o4 : Nat) (x0 : List Nat) (h : Zaa) : Prop := At (K1 Q) (.exit 0) [(4, .ptr (some (i4, o4))), (0, .str x0), (2, .undef), (3, .undef)] h
def J20 (Q : QT) (i4 o4 : Nat) (x0 : List Nat) (h : Zaa) : Prop := Den pg fn.ntmps (C [1, 1, 1, 1, 1, 1]) [(4, .ptr (some (i4, o4))), (0, .str x0)] h (KR Q)
theorem J3i (Q : QT) (x0 : List Nat) (h : Zaa) (ht :
 (0 ≤ (0 : Int) ∧ (0 : Int) ≤ 1 ∧ (1 : Int) ≤ (List.length x0 : Nat)) ∧ (Zdw (h ++ [.cells Zdr [.str (sub x0 0 1), .slice none 0 0 true, .ptr none] false]) fun H3 => (0 ≤ (1 : Int) ∧ (1 : Int) ≤ (List.length x0 : Int) ∧ ((List.length x0 : Int) : Int) ≤ (List.length x0 : Nat)) ∧ (Zbs (Zai H3 (.ptr (some (h.length, 0 + 0)))) fun S4 => Zae pg Zji [.str S4] H3 fun V5 H6 =>
 Zgn .i64 (some V5) fun X7 => L6 Q (sub x0 1 ((List.length x0 : Int))) h.length 0 X7 0 H6))) : J3 Q x0 h :=
  Zbh (kp := kp) (cast (by kernel_rfl) ht)
def L6t (Q : QT) (R6 : T6) (x0 : List Nat) (i4 o4 : Nat) (x27 x28 : Int) (h : Zaa) : Prop :=
 bcase (decide ((x28 : Int) < x27)) ((0 ≤ (x28 : Int) ∧ (x28 : Int) ≤ IntKind.wrap .i64 (x28 + 1) ∧ (IntKind.wrap .i64 (x28 + 1) : Int) ≤ (List.length ([40, 44]) : Nat)) ∧ (Zae pg Zgp [.str x0, .str (sub ([40, 44]) x28 (IntKind.wrap .i64 (x28 + 1)))] h fun V8 H9 =>
 Zcv (some V8) fun B10 => bcase (!B10) (Q (.tup [.ptr none, .str x0]) H9) ((0 ≤ (1 : Int) ∧ (1 : Int) ≤ (List.length x0 : Int) ∧ ((List.length x0 : Int) : Int) ≤ (List.length x0 : Nat)) ∧ (Zae pg Zgw [.str (sub x0 1 ((List.length x0 : Int)))] H9 fun V11 H12 =>
 Zys V11 fun K13 => Zak K13 fun C14 Z15 => Znk (some C14) fun A16 => Zak Z15 fun C17 Z18 => Zbs (some C17) fun S19 => Zct Z18 (bcase (Option.isNone A16) (Q (.tup [.ptr none, .str x0]) H12) (xSl (Zai H12 (.ptr (some (i4, o4 + 1)))) fun A20 N21 C22 E23 => Zdw (H12 ++ [.cells Zdu [.ptr A16] false]) fun H24 => Zcy pg Zlo H24 (.slice A20 N21 C22 E23) (.slice (some (H12.length, 0)) 1 1 true) fun V25 H26 => xSl (some V25) fun A27 N28 C29 E30 => Zcb (Zbc H26 (.ptr (some (i4, o4 + 1))) [.slice A27 N28 C29 E30]) fun H31 => R6 S19 i4 o4 x27 (IntKind.wrap .i64 (x28 + 1)) H31)))))) (Yjp Q i4 o4 x0 h)
theorem Yiw (Q : QT) (R6 : T6) (x0 : List Nat) (i4 o4 : Nat) (x27 x28 : Int) (h : Zaa) (ht : L6t Q R6 x0 i4 o4 x27 x28 h) : Den pg fn.ntmps (C [1, 1, 1, 1, 0, 1, 0, 0]) [(0, .str x0), (4, .ptr (some (i4, o4))), (27, .int .i64 x27), (28, .int .i64 x28)] h (K3 Q R6) :=
  Zbh (kp := kp) (cast (by kernel_rfl) ht)
theorem L6ind (Q : QT) (i4 o4 : Nat) (x27 : Int) {G : Type} (J : G → List Nat → Int → Zaa → Prop) (m : G → Nat)
 (hr : ∀ (g : G) (x0 : List Nat) (x28 : Int) (h : Zaa), J g x0 x28 h → ∀ (R6 : T6), (∀ g' (x0 : List Nat) (x28 : Int) (h : Zaa), m g' < m g → J g' x0 x28 h → R6 x0 i4 o4 x27 x28 h) → L6t Q R6 x0 i4 o4 x27 x28 h)
 (g : G) (x0 : List Nat) (x28 : Int) (h : Zaa) (hj : J g x0 x28 h) : L6 Q x0 i4 o4 x27 x28 h := by
  refine Zes.inv2 (fun g => E6 fun x0 i4' o4' x27' x28 h => i4 = i4' ∧ o4 = o4' ∧ x27 = x27' ∧ J g x0 x28 h) (fun g => E6 fun x0 i4' o4' x27' x28 h => i4 = i4' ∧ o4 = o4' ∧ x27 = x27' ∧ ∃ g', m g' < m g ∧ J g' x0 x28 h) m ?_ ?_ g ⟨rfl, rfl, rfl, hj⟩
  · intro g env h hi
    obtain ⟨x0, i4', o4', x27', x28, rfl, rfl, rfl, rfl, hj⟩ := Yfi hi
    exact Yiw Q _ x0 i4 o4 x27 x28 h (hr g x0 x28 h hj (fun x0 i4' o4' x27' x28 h => i4 = i4' ∧ o4 = o4' ∧ x27 = x27' ∧ ∃ g', m g' < m g ∧ J g' x0 x28 h) fun g' x0 x28 h hlt hj => ⟨rfl, rfl, rfl, g', hlt, hj⟩)
  · intro g env h hi
    obtain ⟨x0, i4', o4', x27', x28, rfl, rfl, rfl, rfl, g', hlt, hj⟩ := Yfi hi
    exact ⟨g', hlt, rfl, rfl, rfl, hj⟩
theorem A6x0i (Q : QT) (i4 o4 : Nat) (x0 : List Nat) (h : Zaa) (ht :
 xSl (Zai h (.ptr (some (i4, o4 + 1)))) fun A32 N33 C34 E35 => bcase (decide (((((N33 : Nat) : Int)) : Int) > 0)) (Zae pg Zgp [.str x0, .str [41]] h fun V36 H37 =>
 Zcv (some V36) fun B38 => bcase (!B38) (Q (.tup [.ptr none, .str x0]) H37) ((0 ≤ (1 : Int) ∧ (1 : Int) ≤ (List.length x0 : Int) ∧ ((List.length x0 : Int) : Int) ≤ (List.length x0 : Nat)) ∧ (J20 Q i4 o4 (sub x0 1 ((List.length x0 : Int))) H37))) (J20 Q i4 o4 x0 h)) : Yjp Q i4 o4 x0 h :=
  At.mk (cast (by kernel_rfl) ht)
theorem J20i (Q : QT) (i4 o4 : Nat) (x0 : List Nat) (h : Zaa) (ht :
 Q (.tup [.ptr (some (i4, o4)), .str x0]) h) : J20 Q i4 o4 x0 h :=
  Zbh (kp := kp) (cast (by kernel_rfl) ht)
theorem call (x0 : List Nat) (h : Zaa) (Q : QT) (ht :
 bcase (decide (x0 = [])) (Q (.tup [.ptr none, .str x0]) h) ((0 ≤ (0 : Int) ∧ (0 : Int) ≤ 1 ∧ (1 : Int) ≤ (List.length x0 : Nat)) ∧ (Zae pg Zji [.str (sub x0 0 1)] h fun V0 H1 =>
 Zgn .i64 (some V0) fun X2 => bcase (decide ((X2 : Int) < 0)) (Q (.tup [.ptr none, .str x0]) H1) (J3 Q x0 H1)))) : Zae pg Zgw [.str x0] h Q :=
  Zae.of_body kp (c := cod fn) (fn := fn) Go.Proofs.Try.func84 (by kernel_rfl) (by kernel_rfl) (Nat.le_of_ble_eq_true (by kernel_rfl))
    (cast (by kernel_rfl) ht)
end Zdh
namespace Zne
noncomputable abbrev fn : Func := Go.Proofs.Try.f54
def kp : Zcg := []
noncomputable def C (p : List Nat) : Code := (cod fn).sub p
def KR (Q : QT) : KT := Zex pg fn.results.toList Q
theorem call (x0 : List Nat) (h : Zaa) (Q : QT) (ht :
 bcase (decide (((((List.length x0 : Nat) : Int)) : Int) > 60)) (Q (.ptr none) h) (Zae pg Zgw [.str x0] h fun V0 H1 =>
 Zys V0 fun K2 => Zak K2 fun C3 Z4 => Znk (some C3) fun A5 => Zak Z4 fun C6 Z7 => Zbs (some C6) fun S8 => Zct Z7 (bcase (!(decide (S8 = []))) (Q (.ptr none) H1) (Q (.ptr A5) H1)))) : Zae pg Zkp [.str x0] h Q :=
  Zae.of_body kp (c := cod fn) (fn := fn) Go.Proofs.Try.func54 (by kernel_rfl) (by kernel_rfl) (Nat.le_of_ble_eq_true (by kernel_rfl))
    (cast (by kernel_rfl) ht)
end Zne
namespace Zll
noncomputable abbrev fn : Func := Go.Proofs.Try.f60
def kp : Zcg := []
noncomputable def C (p : List Nat) : Code := (cod fn).sub p
def KR (Q : QT) : KT := Zex pg fn.results.toList Q
theorem call (x0 : List Nat) (h : Zaa) (Q : QT) (ht :
 Zae pg Zkp [.str x0] h fun V0 H1 =>
 Znk (some V0) fun A2 => Q (.bool (!(Option.isNone A2))) H1) : Zae pg Zgk [.str x0] h Q :=
  Zae.of_body kp (c := cod fn) (fn := fn) Go.Proofs.Try.func60 (by kernel_rfl) (by kernel_rfl) (Nat.le_of_ble_eq_true (by kernel_rfl))
    (cast (by kernel_rfl) ht)
end Zll
end Go.Sim

set_option maxRecDepth 100000
set_option linter.unusedVariables false
namespace Go.Sim
open Go Go.RowKit
namespace Zfq
noncomputable abbrev fn : Func := Go.Proofs.Try.f76
def kp : Zcg := [(3000004, [3]), (1000004, [0, 3])]
noncomputable def C (p : List Nat) : Code := (cod fn).sub p
def KR (Q : QT) : KT := Zex pg fn.results.toList Q
abbrev T4 := Int → List Nat → Zaa → Prop
def E4 (R4 : T4) (env : Env) (h : Zaa) : Prop := Zcq 0 env fun v env => Zfb .i64 v fun x0 => Zcq 3 env fun v env => Zbs (some v) fun x3 => Zld env (R4 x0 x3 h)
theorem Zia {R4 : T4} {env : Env} {h : Zaa} (hi : E4 R4 env h) : ∃ x0, ∃ x3, env = [(0, .int .i64 x0), (3, .str x3)] ∧ R4 x0 x3 h := by
  unfold E4 at hi
  have hi0 := hi
  clear hi
  obtain ⟨_, _, rfl, hi1⟩ := Zad hi0
  obtain ⟨x0, rfl, hi2⟩ := Zas hi1
  obtain ⟨_, _, rfl, hi3⟩ := Zad hi2
  obtain ⟨x3, rfl, hi4⟩ := Zfn hi3
  obtain ⟨rfl, hi5⟩ := Zbm hi4
  have hi := hi5
  exact ⟨x0, x3, rfl, hi⟩
def K0 (Q : QT) : KT := andThen (fun env' h' => (match kp.find 4000007 with | some ks => Den pg fn.ntmps (C [1, 1, 1, 1]) (env'.keep ks) h' (KR Q) | none => den pg fn.ntmps kp (C [1, 1, 1, 1]) env' h' (KR Q))) (KR Q)
def K1 (Q : QT) : KT := Zda 0 (K0 Q)
def K2 (Q : QT) : KT := left kp 4 (K1 Q)
def K3 (Q : QT) (R4 : T4) : KT := rnd ((kp.find 1000004).getD []) (E4 R4) (K2 Q)
def L4 (Q : QT) (x0 : Int) (x3 : List Nat) (h : Zaa) : Prop := Zes (Den pg fn.ntmps (C [1, 1, 1, 0, 0, 0])) ((kp.find 1000004).getD []) (K2 Q) [(0, .int .i64 x0), (3, .str x3)] h
def Ztm (Q : QT) (x3 : List Nat) (h : Zaa) : Prop := At (K1 Q) (.exit 0) [(3, .str x3)] h
def L4t (Q : QT) (R4 : T4) (x0 : Int) (x3 : List Nat) (h : Zaa) : Prop :=
 bcase (decide ((x0 : Int) > 0)) ((10 : Int) ≠ 0 ∧ (Zdw (h ++ [.cells Yfz [.int .u8 (IntKind.wrap .u8 (IntKind.wrap .i64 (48 + (Int.tmod x0 10))))] false]) fun H0 => Zdg (rowOf H0 (some (h.length, 0)) 1) fun K1 => Zly K1 fun S2 => List.length S2 + List.length x3 ≤ 9223372036854775807 ∧ ((10 : Int) ≠ 0 ∧ (R4 (IntKind.wrap .i64 (Int.tdiv x0 10)) (S2 ++ x3) H0)))) (Ztm Q x3 h)
theorem Zpt (Q : QT) (R4 : T4) (x0 : Int) (x3 : List Nat) (h : Zaa) (ht : L4t Q R4 x0 x3 h) : Den pg fn.ntmps (C [1, 1, 1, 0, 0, 0]) [(0, .int .i64 x0), (3, .str x3)] h (K3 Q R4) :=
  Zbh (kp := kp) (cast (by kernel_rfl) ht)
theorem L4ind (Q : QT) {G : Type} (J : G → Int → List Nat → Zaa → Prop) (m : G → Nat)
 (hr : ∀ (g : G) (x0 : Int) (x3 : List Nat) (h : Zaa), J g x0 x3 h → ∀ (R4 : T4), (∀ g' (x0 : Int) (x3 : List Nat) (h : Zaa), m g' < m g → J g' x0 x3 h → R4 x0 x3 h) → L4t Q R4 x0 x3 h)
 (g : G) (x0 : Int) (x3 : List Nat) (h : Zaa) (hj : J g x0 x3 h) : L4 Q x0 x3 h := by
  refine Zes.inv2 (fun g => E4 fun x0 x3 h => J g x0 x3 h) (fun g => E4 fun x0 x3 h => ∃ g', m g' < m g ∧ J g' x0 x3 h) m ?_ ?_ g hj
  · intro g env h hi
    obtain ⟨x0, x3, rfl, hj⟩ := Zia hi
    exact Zpt Q _ x0 x3 h (hr g x0 x3 h hj (fun x0 x3 h => ∃ g', m g' < m g ∧ J g' x0 x3 h) fun g' x0 x3 h hlt hj => ⟨g', hlt, hj⟩)
  · intro g env h hi
    obtain ⟨x0, x3, rfl, g', hlt, hj⟩ := Zia hi
    exact ⟨g', hlt, hj⟩
theorem A4x0i (Q : QT) (x3 : List Nat) (h : Zaa) (ht :
 List.length [109] + List.length x3 ≤ 9223372036854775807 ∧ (Q (.str ([109] ++ x3)) h)) : Ztm Q x3 h :=
  At.mk (cast (by kernel_rfl) ht)
theorem call (x0 : Int) (h : Zaa) (Q : QT) (ht :
 bcase (decide ((x0 : Int) ≤ 0)) (Q (.str ([109, 48])) h) (L4 Q x0 [] h)) : Zae pg Zce [.int .i64 x0] h Q :=
  Zae.of_body kp (c := cod fn) (fn := fn) Go.Proofs.Try.func76 (by kernel_rfl) (by kernel_rfl) (Nat.le_of_ble_eq_true (by kernel_rfl))
    (cast (by kernel_rfl) ht)
end Zfq
end Go.Sim
