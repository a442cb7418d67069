/- A part of the proof of a statement of this seat: see the text that holds the theorem. No condition. -/
import Derived.Test.YtlljbdepamknoaaNm
set_option linter.unusedVariables false
set_option linter.unusedSimpArgs false
set_option linter.all false
set_option maxRecDepth 100000
set_option linter.unusedVariables false
namespace Go.Sim
open Go Go.RowKit
namespace Zox
noncomputable abbrev fn : Func := Go.Proofs.Try.f61
def kp : Zcg := []
noncomputable def C (p : List Nat) : Code := (cod fn).sub p
def KR (Q : QT) : KT := Zex pg fn.results.toList Q
theorem call (x0 : List Nat) (h : Zaa) (Q : QT) (ht :
 bcase ((((List.length x0 : Nat) : Int) : Int) == 1) (Zae pg Zee [.str ([120, 121, 122, 88, 89, 90]), .str x0] h fun V0 H1 =>
 Zcv (some V0) fun B2 => Q (.bool B2) H1) (Q (.bool false) h)) : Zae pg Zlq [.str x0] h Q :=
  Zae.of_body kp (c := cod fn) (fn := fn) Go.Proofs.Try.func61 (by kernel_rfl) (by kernel_rfl) (Nat.le_of_ble_eq_true (by kernel_rfl))
    (cast (by kernel_rfl) ht)
end Zox
namespace Zkj
noncomputable abbrev fn : Func := Go.Proofs.Try.f120
def kp : Zcg := []
noncomputable def C (p : List Nat) : Code := (cod fn).sub p
def KR (Q : QT) : KT := Zex pg fn.results.toList Q
theorem call (x0 : Int) (h : Zaa) (Q : QT) (ht :
 Zae pg Zgb [.str ([105, 98, 117, 108, 109, 112, 120, 121, 122, 88, 89, 90]), .int .u8 x0] h fun V0 H1 =>
 Zgn .i64 (some V0) fun X2 => Q (.bool (decide ((X2 : Int) ≥ 6))) H1) : Zae pg Zfu [.int .u8 x0] h Q :=
  Zae.of_body kp (c := cod fn) (fn := fn) Go.Proofs.Try.func120 (by kernel_rfl) (by kernel_rfl) (Nat.le_of_ble_eq_true (by kernel_rfl))
    (cast (by kernel_rfl) ht)
end Zkj
namespace Zdo
noncomputable abbrev fn : Func := Go.Proofs.Try.f136
def kp : Zcg := [(4000003, [0, 1]), (3000005, [5]), (1000005, [0, 1, 5, 22, 23]), (2000007, [31, 5, 23, 22, 0, 1]), (4000009, [23, 22, 0, 1, 5])]
noncomputable def C (p : List Nat) : Code := (cod fn).sub p
def KR (Q : QT) : KT := Zex pg fn.results.toList Q
abbrev T5 := List Nat → List Nat → Int → Int → Int → Zaa → Prop
def E5 (R5 : T5) (env : Env) (h : Zaa) : Prop := Zcq 0 env fun v env => Zbs (some v) fun x0 => Zcq 1 env fun v env => Zbs (some v) fun x1 => Zcq 5 env fun v env => Zfb .i64 v fun x5 => Zcq 22 env fun v env => Zfb .i64 v fun x22 => Zcq 23 env fun v env => Zfb .i64 v fun x23 => Zld env (R5 x0 x1 x5 x22 x23 h)
theorem Zjh {R5 : T5} {env : Env} {h : Zaa} (hi : E5 R5 env h) : ∃ x0, ∃ x1, ∃ x5, ∃ x22, ∃ x23, env = [(0, .str x0), (1, .str x1), (5, .int .i64 x5), (22, .int .i64 x22), (23, .int .i64 x23)] ∧ R5 x0 x1 x5 x22 x23 h := by
  unfold E5 at hi
  have hi0 := hi
  clear hi
  obtain ⟨_, _, rfl, hi1⟩ := Zad hi0
  obtain ⟨x0, rfl, hi2⟩ := Zfn hi1
  obtain ⟨_, _, rfl, hi3⟩ := Zad hi2
  obtain ⟨x1, rfl, hi4⟩ := Zfn hi3
  obtain ⟨_, _, rfl, hi5⟩ := Zad hi4
  obtain ⟨x5, rfl, hi6⟩ := Zas hi5
  obtain ⟨_, _, rfl, hi7⟩ := Zad hi6
  obtain ⟨x22, rfl, hi8⟩ := Zas hi7
  obtain ⟨_, _, rfl, hi9⟩ := Zad hi8
  obtain ⟨x23, rfl, hi10⟩ := Zas hi9
  obtain ⟨rfl, hi11⟩ := Zbm hi10
  have hi := hi11
  exact ⟨x0, x1, x5, x22, x23, rfl, hi⟩
def K0 (Q : QT) : KT := andThen (fun env' h' => (match kp.find 4000010 with | some ks => Den pg fn.ntmps (C [1, 1, 1, 1]) (env'.keep ks) h' (KR Q) | none => den pg fn.ntmps kp (C [1, 1, 1, 1]) env' h' (KR Q))) (KR Q)
def K1 (Q : QT) : KT := Zda 0 (K0 Q)
def K2 (Q : QT) : KT := left kp 5 (K1 Q)
def K3 (Q : QT) (R5 : T5) : KT := rnd ((kp.find 1000005).getD []) (E5 R5) (K2 Q)
def J3 (Q : QT) (x0 x1 : List Nat) (h : Zaa) : Prop := Den pg fn.ntmps (C [1, 1]) [(0, .str x0), (1, .str x1)] h (KR Q)
def L5 (Q : QT) (x0 x1 : List Nat) (x5 x22 x23 : Int) (h : Zaa) : Prop := Zes (Den pg fn.ntmps (C [1, 1, 1, 0, 1, 0, 0])) ((kp.find 1000005).getD []) (K2 Q) [(0, .str x0), (1, .str x1), (5, .int .i64 x5), (22, .int .i64 x22), (23, .int .i64 x23)] h
def J9 (Q : QT) (R5 : T5) (x23 x22 : Int) (x0 x1 : List Nat) (x5 : Int) (h : Zaa) : Prop := Den pg fn.ntmps (C [1, 1, 1, 0, 1, 0, 0, 1, 1, 1]) [(23, .int .i64 x23), (22, .int .i64 x22), (0, .str x0), (1, .str x1), (5, .int .i64 x5)] h (K3 Q R5)
def A5x0 (Q : QT) (x5 : Int) (h : Zaa) : Prop := At (K1 Q) (.exit 0) [(5, .int .i64 x5)] h
theorem J3i (Q : QT) (x0 x1 : List Nat) (h : Zaa) (ht :
 L5 Q x0 x1 0 (((List.length x0 : Nat) : Int)) 0 h) : J3 Q x0 x1 h :=
  Zbh (kp := kp) (cast (by kernel_rfl) ht)
def L5t (Q : QT) (R5 : T5) (x0 x1 : List Nat) (x5 x22 x23 : Int) (h : Zaa) : Prop :=
 bcase (decide ((x23 : Int) < x22)) (Zjg x0 x23 fun B7 => Zjg x1 0 fun B8 => bcase ((((B7 : Nat) : Int) : Int) == (((B8 : Nat) : Int))) (J9 Q R5 x23 x22 x0 x1 (IntKind.wrap .i64 (x5 + 1)) h) (J9 Q R5 x23 x22 x0 x1 x5 h)) (A5x0 Q x5 h)
theorem Zsp (Q : QT) (R5 : T5) (x0 x1 : List Nat) (x5 x22 x23 : Int) (h : Zaa) (ht : L5t Q R5 x0 x1 x5 x22 x23 h) : Den pg fn.ntmps (C [1, 1, 1, 0, 1, 0, 0]) [(0, .str x0), (1, .str x1), (5, .int .i64 x5), (22, .int .i64 x22), (23, .int .i64 x23)] h (K3 Q R5) :=
  Zbh (kp := kp) (cast (by kernel_rfl) ht)
theorem L5ind (Q : QT) (x0 x1 : List Nat) (x22 : Int) {G : Type} (J : G → Int → Int → Zaa → Prop) (m : G → Nat)
 (hr : ∀ (g : G) (x5 x23 : Int) (h : Zaa), J g x5 x23 h → ∀ (R5 : T5), (∀ g' (x5 x23 : Int) (h : Zaa), m g' < m g → J g' x5 x23 h → R5 x0 x1 x5 x22 x23 h) → L5t Q R5 x0 x1 x5 x22 x23 h)
 (g : G) (x5 x23 : Int) (h : Zaa) (hj : J g x5 x23 h) : L5 Q x0 x1 x5 x22 x23 h := by
  refine Zes.inv2 (fun g => E5 fun x0' x1' x5 x22' x23 h => x0 = x0' ∧ x1 = x1' ∧ x22 = x22' ∧ J g x5 x23 h) (fun g => E5 fun x0' x1' x5 x22' x23 h => x0 = x0' ∧ x1 = x1' ∧ x22 = x22' ∧ ∃ g', m g' < m g ∧ J g' x5 x23 h) m ?_ ?_ g ⟨rfl, rfl, rfl, hj⟩
  · intro g env h hi
    obtain ⟨x0', x1', x5, x22', x23, rfl, rfl, rfl, rfl, hj⟩ := Zjh hi
    exact Zsp Q _ x0 x1 x5 x22 x23 h (hr g x5 x23 h hj (fun x0' x1' x5 x22' x23 h => x0 = x0' ∧ x1 = x1' ∧ x22 = x22' ∧ ∃ g', m g' < m g ∧ J g' x5 x23 h) fun g' x5 x23 h hlt hj => ⟨rfl, rfl, rfl, g', hlt, hj⟩)
  · intro g env h hi
    obtain ⟨x0', x1', x5, x22', x23, rfl, rfl, rfl, rfl, g', hlt, hj⟩ := Zjh hi
    exact ⟨g', hlt, rfl, rfl, rfl, hj⟩
theorem J9i (Q : QT) (R5 : T5) (x23 x22 : Int) (x0 x1 : List Nat) (x5 : Int) (h : Zaa) (ht :
 R5 x0 x1 x5 x22 (IntKind.wrap .i64 (x23 + 1)) h) : J9 Q R5 x23 x22 x0 x1 x5 h :=
  Zbh (kp := kp) (cast (by kernel_rfl) ht)
theorem A5x0i (Q : QT) (x5 : Int) (h : Zaa) (ht :
 Q (.int .i64 x5) h) : A5x0 Q x5 h :=
  At.mk (cast (by kernel_rfl) ht)
theorem call (x0 x1 : List Nat) (h : Zaa) (Q : QT) (ht :
 Zae pg Zeu [.str x0] h fun V0 H1 =>
 Zcv (some V0) fun B2 => bcase (!B2) (Q (.int .i64 (-1)) H1) (bcase (!((((List.length x1 : Nat) : Int) : Int) == 1)) (Q (.int .i64 (-1)) H1) (Zjg x1 0 fun B3 => Zae pg Zfu [.int .u8 (((B3 : Nat) : Int))] H1 fun V4 H5 =>
 Zcv (some V4) fun B6 => bcase (!B6) (Q (.int .i64 (-1)) H5) (J3 Q x0 x1 H5)))) : Zae pg Zir [.str x0, .str x1] h Q :=
  Zae.of_body kp (c := cod fn) (fn := fn) Go.Proofs.Try.func136 (by kernel_rfl) (by kernel_rfl) (Nat.le_of_ble_eq_true (by kernel_rfl))
    (cast (by kernel_rfl) ht)
end Zdo
namespace Zeq
noncomputable abbrev fn : Func := Go.Proofs.Try.f122
def kp : Zcg := [(3000003, [3]), (1000003, [0, 3, 6, 7, 8]), (4000007, [8, 7, 6, 0, 3])]
noncomputable def C (p : List Nat) : Code := (cod fn).sub p
def KR (Q : QT) : KT := Zex pg fn.results.toList Q
abbrev T3 := List Nat → List Nat → Pt → Nat → Nat → Bool → Int → Int → Zaa → Prop
def E3 (R3 : T3) (env : Env) (h : Zaa) : Prop := Zcq 0 env fun v env => Zbs (some v) fun x0 => Zcq 3 env fun v env => Zbs (some v) fun x3 => Zcq 6 env fun v env => xSl (some v) fun a6 n6 c6 e6 => Zcq 7 env fun v env => Zfb .i64 v fun x7 => Zcq 8 env fun v env => Zfb .i64 v fun x8 => Zld env (R3 x0 x3 a6 n6 c6 e6 x7 x8 h)
theorem Zgq {R3 : T3} {env : Env} {h : Zaa} (hi : E3 R3 env h) : ∃ x0, ∃ x3, ∃ a6, ∃ n6, ∃ c6, ∃ e6, ∃ x7, ∃ x8, env = [(0, .str x0), (3, .str x3), (6, .slice a6 n6 c6 e6), (7, .int .i64 x7), (8, .int .i64 x8)] ∧ R3 x0 x3 a6 n6 c6 e6 x7 x8 h := by
  unfold E3 at hi
  have hi0 := hi
  clear hi
  obtain ⟨_, _, rfl, hi1⟩ := Zad hi0
  obtain ⟨x0, rfl, hi2⟩ := Zfn hi1
  obtain ⟨_, _, rfl, hi3⟩ := Zad hi2
  obtain ⟨x3, rfl, hi4⟩ := Zfn hi3
  obtain ⟨_, _, rfl, hi5⟩ := Zad hi4
  obtain ⟨a6, n6, c6, e6, rfl, hi6⟩ := Zbo hi5
  obtain ⟨_, _, rfl, hi7⟩ := Zad hi6
  obtain ⟨x7, rfl, hi8⟩ := Zas hi7
  obtain ⟨_, _, rfl, hi9⟩ := Zad hi8
  obtain ⟨x8, rfl, hi10⟩ := Zas hi9
  obtain ⟨rfl, hi11⟩ := Zbm hi10
  have hi := hi11
  exact ⟨x0, x3, a6, n6, c6, e6, x7, x8, rfl, hi⟩
def K0 (Q : QT) : KT := andThen (fun env' h' => (match kp.find 4000008 with | some ks => Den pg fn.ntmps (C [1, 1, 1]) (env'.keep ks) h' (KR Q) | none => den pg fn.ntmps kp (C [1, 1, 1]) env' h' (KR Q))) (KR Q)
def K1 (Q : QT) : KT := Zda 0 (K0 Q)
def K2 (Q : QT) : KT := left kp 3 (K1 Q)
def K3 (Q : QT) (R3 : T3) : KT := rnd ((kp.find 1000003).getD []) (E3 R3) (K2 Q)
def L3 (Q : QT) (x0 x3 : List Nat) (a6 : Pt) (n6 c6 : Nat) (e6 : Bool) (x7 x8 : Int) (h : Zaa) : Prop := Zes (Den pg fn.ntmps (C [1, 1, 0, 1, 0, 0])) ((kp.find 1000003).getD []) (K2 Q) [(0, .str x0), (3, .str x3), (6, .slice a6 n6 c6 e6), (7, .int .i64 x7), (8, .int .i64 x8)] h
def J7 (Q : QT) (R3 : T3) (x8 x7 : Int) (a6 : Pt) (n6 c6 : Nat) (e6 : Bool) (x0 x3 : List Nat) (h : Zaa) : Prop := Den pg fn.ntmps (C [1, 1, 0, 1, 0, 0, 1, 1, 1]) [(8, .int .i64 x8), (7, .int .i64 x7), (6, .slice a6 n6 c6 e6), (0, .str x0), (3, .str x3)] h (K3 Q R3)
def Zrw (Q : QT) (x3 : List Nat) (h : Zaa) : Prop := At (K1 Q) (.exit 0) [(3, .str x3)] h
def L3t (Q : QT) (R3 : T3) (x0 x3 : List Nat) (a6 : Pt) (n6 c6 : Nat) (e6 : Bool) (x7 x8 : Int) (h : Zaa) : Prop :=
 bcase (decide ((x8 : Int) < x7)) ((0 ≤ (x8 : Int) ∧ (x8 : Int) < (n6 : Nat)) ∧ (Zbu a6 fun I1 O2 => Zbs (Zai h (.ptr (some (I1, O2 + (Int.toNat x8) * 1)))) fun S3 => Zae pg Zir [.str x0, .str S3] h fun V4 H5 =>
 Zgn .i64 (some V4) fun X6 => bcase (decide ((X6 : Int) > 0)) (List.length x3 + List.length S3 ≤ 9223372036854775807 ∧ (J7 Q R3 x8 x7 a6 n6 c6 e6 x0 (x3 ++ S3) H5)) (J7 Q R3 x8 x7 a6 n6 c6 e6 x0 x3 H5))) (Zrw Q x3 h)
theorem Zob (Q : QT) (R3 : T3) (x0 x3 : List Nat) (a6 : Pt) (n6 c6 : Nat) (e6 : Bool) (x7 x8 : Int) (h : Zaa) (ht : L3t Q R3 x0 x3 a6 n6 c6 e6 x7 x8 h) : Den pg fn.ntmps (C [1, 1, 0, 1, 0, 0]) [(0, .str x0), (3, .str x3), (6, .slice a6 n6 c6 e6), (7, .int .i64 x7), (8, .int .i64 x8)] h (K3 Q R3) :=
  Zbh (kp := kp) (cast (by kernel_rfl) ht)
theorem L3ind (Q : QT) (x0 : List Nat) (a6 : Pt) (n6 c6 : Nat) (e6 : Bool) (x7 : Int) {G : Type} (J : G → List Nat → Int → Zaa → Prop) (m : G → Nat)
 (hr : ∀ (g : G) (x3 : List Nat) (x8 : Int) (h : Zaa), J g x3 x8 h → ∀ (R3 : T3), (∀ g' (x3 : List Nat) (x8 : Int) (h : Zaa), m g' < m g → J g' x3 x8 h → R3 x0 x3 a6 n6 c6 e6 x7 x8 h) → L3t Q R3 x0 x3 a6 n6 c6 e6 x7 x8 h)
 (g : G) (x3 : List Nat) (x8 : Int) (h : Zaa) (hj : J g x3 x8 h) : L3 Q x0 x3 a6 n6 c6 e6 x7 x8 h := by
  refine Zes.inv2 (fun g => E3 fun x0' x3 a6' n6' c6' e6' x7' x8 h => x0 = x0' ∧ a6 = a6' ∧ n6 = n6' ∧ c6 = c6' ∧ e6 = e6' ∧ x7 = x7' ∧ J g x3 x8 h) (fun g => E3 fun x0' x3 a6' n6' c6' e6' x7' x8 h => x0 = x0' ∧ a6 = a6' ∧ n6 = n6' ∧ c6 = c6' ∧ e6 = e6' ∧ x7 = x7' ∧ ∃ g', m g' < m g ∧ J g' x3 x8 h) m ?_ ?_ g ⟨rfl, rfl, rfl, rfl, rfl, rfl, hj⟩
  · intro g env h hi
    obtain ⟨x0', x3, a6', n6', c6', e6', x7', x8, rfl, rfl, rfl, rfl, rfl, rfl, rfl, hj⟩ := Zgq hi
    exact Zob Q _ x0 x3 a6 n6 c6 e6 x7 x8 h (hr g x3 x8 h hj (fun x0' x3 a6' n6' c6' e6' x7' x8 h => x0 = x0' ∧ a6 = a6' ∧ n6 = n6' ∧ c6 = c6' ∧ e6 = e6' ∧ x7 = x7' ∧ ∃ g', m g' < m g ∧ J g' x3 x8 h) fun g' x3 x8 h hlt hj => ⟨rfl, rfl, rfl, rfl, rfl, rfl, g', hlt, hj⟩)
  · intro g env h hi
    obtain ⟨x0', x3, a6', n6', c6', e6', x7', x8, rfl, rfl, rfl, rfl, rfl, rfl, rfl, g', hlt, hj⟩ := Zgq hi
    exact ⟨g', hlt, rfl, rfl, rfl, rfl, rfl, rfl, hj⟩
theorem J7i (Q : QT) (R3 : T3) (x8 x7 : Int) (a6 : Pt) (n6 c6 : Nat) (e6 : Bool) (x0 x3 : List Nat) (h : Zaa) (ht :
 R3 x0 x3 a6 n6 c6 e6 x7 (IntKind.wrap .i64 (x8 + 1)) h) : J7 Q R3 x8 x7 a6 n6 c6 e6 x0 x3 h :=
  Zbh (kp := kp) (cast (by kernel_rfl) ht)
theorem A3x0i (Q : QT) (x3 : List Nat) (h : Zaa) (ht :
 Q (.str x3) h) : Zrw Q x3 h :=
  At.mk (cast (by kernel_rfl) ht)
theorem call (x0 : List Nat) (h : Zaa) (Q : QT) (ht :
 Zdw (h ++ [.cells Zdl [.str [88], .str [89], .str [90], .str [120], .str [121], .str [122]] false]) fun H0 => L3 Q x0 [] (some (h.length, 0)) 6 6 true (((6 : Nat) : Int)) 0 H0) : Zae pg Zil [.str x0] h Q :=
  Zae.of_body kp (c := cod fn) (fn := fn) Go.Proofs.Try.func122 (by kernel_rfl) (by kernel_rfl) (Nat.le_of_ble_eq_true (by kernel_rfl))
    (cast (by kernel_rfl) ht)
end Zeq
namespace Zfk
noncomputable abbrev fn : Func := Go.Proofs.Try.f121
def kp : Zcg := [(3000002, [4]), (1000002, [0, 1, 7, 8])]
noncomputable def C (p : List Nat) : Code := (cod fn).sub p
def KR (Q : QT) : KT := Zex pg fn.results.toList Q
abbrev T2 := List Nat → List Nat → Int → Int → Zaa → Prop
def E2 (R2 : T2) (env : Env) (h : Zaa) : Prop := Zcq 0 env fun v env => Zbs (some v) fun x0 => Zcq 1 env fun v env => Zbs (some v) fun x1 => Zcq 7 env fun v env => Zfb .i64 v fun x7 => Zcq 8 env fun v env => Zfb .i64 v fun x8 => Zld env (R2 x0 x1 x7 x8 h)
theorem Zdd {R2 : T2} {env : Env} {h : Zaa} (hi : E2 R2 env h) : ∃ x0, ∃ x1, ∃ x7, ∃ x8, env = [(0, .str x0), (1, .str x1), (7, .int .i64 x7), (8, .int .i64 x8)] ∧ R2 x0 x1 x7 x8 h := by
  unfold E2 at hi
  have hi0 := hi
  clear hi
  obtain ⟨_, _, rfl, hi1⟩ := Zad hi0
  obtain ⟨x0, rfl, hi2⟩ := Zfn hi1
  obtain ⟨_, _, rfl, hi3⟩ := Zad hi2
  obtain ⟨x1, rfl, hi4⟩ := Zfn hi3
  obtain ⟨_, _, rfl, hi5⟩ := Zad hi4
  obtain ⟨x7, rfl, hi6⟩ := Zas hi5
  obtain ⟨_, _, rfl, hi7⟩ := Zad hi6
  obtain ⟨x8, rfl, hi8⟩ := Zas hi7
  obtain ⟨rfl, hi9⟩ := Zbm hi8
  have hi := hi9
  exact ⟨x0, x1, x7, x8, rfl, hi⟩
def K0 (Q : QT) : KT := andThen (fun env' h' => (match kp.find 4000007 with | some ks => Den pg fn.ntmps (C [1, 1]) (env'.keep ks) h' (KR Q) | none => den pg fn.ntmps kp (C [1, 1]) env' h' (KR Q))) (KR Q)
def K1 (Q : QT) : KT := Zda 0 (K0 Q)
def K2 (Q : QT) : KT := left kp 2 (K1 Q)
def K3 (Q : QT) (R2 : T2) : KT := rnd ((kp.find 1000002).getD []) (E2 R2) (K2 Q)
def L2 (Q : QT) (x0 x1 : List Nat) (x7 x8 : Int) (h : Zaa) : Prop := Zes (Den pg fn.ntmps (C [1, 0, 1, 0, 0])) ((kp.find 1000002).getD []) (K2 Q) [(0, .str x0), (1, .str x1), (7, .int .i64 x7), (8, .int .i64 x8)] h
def Zkd (Q : QT) (h : Zaa) : Prop := At (K1 Q) (.exit 0) [(4, .undef)] h
def L2t (Q : QT) (R2 : T2) (x0 x1 : List Nat) (x7 x8 : Int) (h : Zaa) : Prop :=
 bcase (decide ((x8 : Int) < x7)) (Zjg x0 x8 fun B0 => Zae pg Zgb [.str x1, .int .u8 (((B0 : Nat) : Int))] h fun V1 H2 =>
 Zgn .i64 (some V1) fun X3 => bcase (decide ((X3 : Int) < 0)) (Q (.bool false) H2) (R2 x0 x1 x7 (IntKind.wrap .i64 (x8 + 1)) H2)) (Zkd Q h)
theorem Zhj (Q : QT) (R2 : T2) (x0 x1 : List Nat) (x7 x8 : Int) (h : Zaa) (ht : L2t Q R2 x0 x1 x7 x8 h) : Den pg fn.ntmps (C [1, 0, 1, 0, 0]) [(0, .str x0), (1, .str x1), (7, .int .i64 x7), (8, .int .i64 x8)] h (K3 Q R2) :=
  Zbh (kp := kp) (cast (by kernel_rfl) ht)
theorem L2ind (Q : QT) (x0 x1 : List Nat) (x7 : Int) {G : Type} (J : G → Int → Zaa → Prop) (m : G → Nat)
 (hr : ∀ (g : G) (x8 : Int) (h : Zaa), J g x8 h → ∀ (R2 : T2), (∀ g' (x8 : Int) (h : Zaa), m g' < m g → J g' x8 h → R2 x0 x1 x7 x8 h) → L2t Q R2 x0 x1 x7 x8 h)
 (g : G) (x8 : Int) (h : Zaa) (hj : J g x8 h) : L2 Q x0 x1 x7 x8 h := by
  refine Zes.inv2 (fun g => E2 fun x0' x1' x7' x8 h => x0 = x0' ∧ x1 = x1' ∧ x7 = x7' ∧ J g x8 h) (fun g => E2 fun x0' x1' x7' x8 h => x0 = x0' ∧ x1 = x1' ∧ x7 = x7' ∧ ∃ g', m g' < m g ∧ J g' x8 h) m ?_ ?_ g ⟨rfl, rfl, rfl, hj⟩
  · intro g env h hi
    obtain ⟨x0', x1', x7', x8, rfl, rfl, rfl, rfl, hj⟩ := Zdd hi
    exact Zhj Q _ x0 x1 x7 x8 h (hr g x8 h hj (fun x0' x1' x7' x8 h => x0 = x0' ∧ x1 = x1' ∧ x7 = x7' ∧ ∃ g', m g' < m g ∧ J g' x8 h) fun g' x8 h hlt hj => ⟨rfl, rfl, rfl, g', hlt, hj⟩)
  · intro g env h hi
    obtain ⟨x0', x1', x7', x8, rfl, rfl, rfl, rfl, g', hlt, hj⟩ := Zdd hi
    exact ⟨g', hlt, rfl, rfl, rfl, hj⟩
theorem A2x0i (Q : QT) (h : Zaa) (ht :
 Q (.bool true) h) : Zkd Q h :=
  At.mk (cast (by kernel_rfl) ht)
theorem call (x0 x1 : List Nat) (h : Zaa) (Q : QT) (ht :
 L2 Q x0 x1 (((List.length x0 : Nat) : Int)) 0 h) : Zae pg Ziw [.str x0, .str x1] h Q :=
  Zae.of_body kp (c := cod fn) (fn := fn) Go.Proofs.Try.func121 (by kernel_rfl) (by kernel_rfl) (Nat.le_of_ble_eq_true (by kernel_rfl))
    (cast (by kernel_rfl) ht)
end Zfk
namespace Zbq
noncomputable abbrev fn : Func := Go.Proofs.Try.f74
def kp : Zcg := [(4000003, [3, 2]), (3000004, [4]), (1000004, [2, 3, 48, 49, 50]), (4000008, [6, 2, 3, 48, 49, 50]), (3000009, [50, 49, 48, 2, 3, 4]), (1000009, [2, 3, 48, 49, 50, 74, 75, 76]), (4000014, [50, 49, 48, 2, 3])]
noncomputable def C (p : List Nat) : Code := (cod fn).sub p
def KR (Q : QT) : KT := Zex pg fn.results.toList Q
abbrev T4 := Nat → Nat → Nat → Nat → Pt → Nat → Nat → Bool → Int → Int → Zaa → Prop
def E4 (R4 : T4) (env : Env) (h : Zaa) : Prop := Zcq 2 env fun v env => Znk (some v) fun a => Zbu a fun i2 o2 => Zcq 3 env fun v env => Znk (some v) fun a => Zbu a fun i3 o3 => Zcq 48 env fun v env => xSl (some v) fun a48 n48 c48 e48 => Zcq 49 env fun v env => Zfb .i64 v fun x49 => Zcq 50 env fun v env => Zfb .i64 v fun x50 => Zld env (R4 i2 o2 i3 o3 a48 n48 c48 e48 x49 x50 h)
theorem Zia {R4 : T4} {env : Env} {h : Zaa} (hi : E4 R4 env h) : ∃ i2, ∃ o2, ∃ i3, ∃ o3, ∃ a48, ∃ n48, ∃ c48, ∃ e48, ∃ x49, ∃ x50, env = [(2, .ptr (some (i2, o2))), (3, .ptr (some (i3, o3))), (48, .slice a48 n48 c48 e48), (49, .int .i64 x49), (50, .int .i64 x50)] ∧ R4 i2 o2 i3 o3 a48 n48 c48 e48 x49 x50 h := by
  unfold E4 at hi
  have hi0 := hi
  clear hi
  obtain ⟨_, _, rfl, hi1⟩ := Zad hi0
  obtain ⟨a, rfl, hi2⟩ := Zdn hi1
  obtain ⟨i2, o2, rfl, hi3⟩ := Zcm hi2
  obtain ⟨_, _, rfl, hi4⟩ := Zad hi3
  obtain ⟨a, rfl, hi5⟩ := Zdn hi4
  obtain ⟨i3, o3, rfl, hi6⟩ := Zcm hi5
  obtain ⟨_, _, rfl, hi7⟩ := Zad hi6
  obtain ⟨a48, n48, c48, e48, rfl, hi8⟩ := Zbo hi7
  obtain ⟨_, _, rfl, hi9⟩ := Zad hi8
  obtain ⟨x49, rfl, hi10⟩ := Zas hi9
  obtain ⟨_, _, rfl, hi11⟩ := Zad hi10
  obtain ⟨x50, rfl, hi12⟩ := Zas hi11
  obtain ⟨rfl, hi13⟩ := Zbm hi12
  have hi := hi13
  exact ⟨i2, o2, i3, o3, a48, n48, c48, e48, x49, x50, rfl, hi⟩
abbrev T9 := Nat → Nat → Nat → Nat → Pt → Nat → Nat → Bool → Int → Int → Pt → Nat → Nat → Bool → Int → Int → Zaa → Prop
def E9 (R9 : T9) (env : Env) (h : Zaa) : Prop := Zcq 2 env fun v env => Znk (some v) fun a => Zbu a fun i2 o2 => Zcq 3 env fun v env => Znk (some v) fun a => Zbu a fun i3 o3 => Zcq 48 env fun v env => xSl (some v) fun a48 n48 c48 e48 => Zcq 49 env fun v env => Zfb .i64 v fun x49 => Zcq 50 env fun v env => Zfb .i64 v fun x50 => Zcq 74 env fun v env => xSl (some v) fun a74 n74 c74 e74 => Zcq 75 env fun v env => Zfb .i64 v fun x75 => Zcq 76 env fun v env => Zfb .i64 v fun x76 => Zld env (R9 i2 o2 i3 o3 a48 n48 c48 e48 x49 x50 a74 n74 c74 e74 x75 x76 h)
theorem Yfa {R9 : T9} {env : Env} {h : Zaa} (hi : E9 R9 env h) : ∃ i2, ∃ o2, ∃ i3, ∃ o3, ∃ a48, ∃ n48, ∃ c48, ∃ e48, ∃ x49, ∃ x50, ∃ a74, ∃ n74, ∃ c74, ∃ e74, ∃ x75, ∃ x76, env = [(2, .ptr (some (i2, o2))), (3, .ptr (some (i3, o3))), (48, .slice a48 n48 c48 e48), (49, .int .i64 x49), (50, .int .i64 x50), (74, .slice a74 n74 c74 e74), (75, .int .i64 x75), (76, .int .i64 x76)] ∧ R9 i2 o2 i3 o3 a48 n48 c48 e48 x49 x50 a74 n74 c74 e74 x75 x76 h := by
  unfold E9 at hi
  have hi0 := hi
  clear hi
  obtain ⟨_, _, rfl, hi1⟩ := Zad hi0
  obtain ⟨a, rfl, hi2⟩ := Zdn hi1
  obtain ⟨i2, o2, rfl, hi3⟩ := Zcm hi2
  obtain ⟨_, _, rfl, hi4⟩ := Zad hi3
  obtain ⟨a, rfl, hi5⟩ := Zdn hi4
  obtain ⟨i3, o3, rfl, hi6⟩ := Zcm hi5
  obtain ⟨_, _, rfl, hi7⟩ := Zad hi6
  obtain ⟨a48, n48, c48, e48, rfl, hi8⟩ := Zbo hi7
  obtain ⟨_, _, rfl, hi9⟩ := Zad hi8
  obtain ⟨x49, rfl, hi10⟩ := Zas hi9
  obtain ⟨_, _, rfl, hi11⟩ := Zad hi10
  obtain ⟨x50, rfl, hi12⟩ := Zas hi11
  obtain ⟨_, _, rfl, hi13⟩ := Zad hi12
  obtain ⟨a74, n74, c74, e74, rfl, hi14⟩ := Zbo hi13
  obtain ⟨_, _, rfl, hi15⟩ := Zad hi14
  obtain ⟨x75, rfl, hi16⟩ := Zas hi15
  obtain ⟨_, _, rfl, hi17⟩ := Zad hi16
  obtain ⟨x76, rfl, hi18⟩ := Zas hi17
  obtain ⟨rfl, hi19⟩ := Zbm hi18
  have hi := hi19
  exact ⟨i2, o2, i3, o3, a48, n48, c48, e48, x49, x50, a74, n74, c74, e74, x75, x76, rfl, hi⟩
def K0 (Q : QT) : KT := andThen (fun env' h' => (match kp.find 4000015 with | some ks => Den pg fn.ntmps (C [1, 1, 1]) (env'.keep ks) h' (KR Q) | none => den pg fn.ntmps kp (C [1, 1, 1]) env' h' (KR Q))) (KR Q)
def K1 (Q : QT) : KT := Zda 0 (K0 Q)
def K2 (Q : QT) : KT := left kp 4 (K1 Q)
def K3 (Q : QT) (R4 : T4) : KT := rnd ((kp.find 1000004).getD []) (E4 R4) (K2 Q)
def K4 (Q : QT) (R4 : T4) : KT := andThen (fun env' h' => (match kp.find 4000014 with | some ks => Den pg fn.ntmps (C [1, 1, 0, 1, 0, 0, 1, 1, 1]) (env'.keep ks) h' (K3 Q R4) | none => den pg fn.ntmps kp (C [1, 1, 0, 1, 0, 0, 1, 1, 1]) env' h' (K3 Q R4))) (K3 Q R4)
def K5 (Q : QT) (R4 : T4) : KT := Zda 1 (K4 Q R4)
def K6 (Q : QT) (R4 : T4) : KT := Zda 2 (K5 Q R4)
def K7 (Q : QT) (R4 : T4) : KT := left kp 9 (K6 Q R4)
def K8 (Q : QT) (R4 : T4) (R9 : T9) : KT := rnd ((kp.find 1000009).getD []) (E9 R9) (K7 Q R4)
def J3 (Q : QT) (i3 o3 i2 o2 : Nat) (h : Zaa) : Prop := Den pg fn.ntmps (C [1, 1]) [(3, .ptr (some (i3, o3))), (2, .ptr (some (i2, o2)))] h (KR Q)
def L4 (Q : QT) (i2 o2 i3 o3 : Nat) (a48 : Pt) (n48 c48 : Nat) (e48 : Bool) (x49 x50 : Int) (h : Zaa) : Prop := Zes (Den pg fn.ntmps (C [1, 1, 0, 1, 0, 0])) ((kp.find 1000004).getD []) (K2 Q) [(2, .ptr (some (i2, o2))), (3, .ptr (some (i3, o3))), (48, .slice a48 n48 c48 e48), (49, .int .i64 x49), (50, .int .i64 x50)] h
def J8 (Q : QT) (R4 : T4) (i6 o6 i2 o2 i3 o3 : Nat) (a48 : Pt) (n48 c48 : Nat) (e48 : Bool) (x49 x50 : Int) (h : Zaa) : Prop := Den pg fn.ntmps (C [1, 1, 0, 1, 0, 0, 1, 1, 0, 0, 1, 1]) [(6, .ptr (some (i6, o6))), (2, .ptr (some (i2, o2))), (3, .ptr (some (i3, o3))), (48, .slice a48 n48 c48 e48), (49, .int .i64 x49), (50, .int .i64 x50)] h (K5 Q R4)
def Ztm (Q : QT) (h : Zaa) : Prop := At (K1 Q) (.exit 0) [(4, .undef)] h
def L9 (Q : QT) (R4 : T4) (i2 o2 i3 o3 : Nat) (a48 : Pt) (n48 c48 : Nat) (e48 : Bool) (x49 x50 : Int) (a74 : Pt) (n74 c74 : Nat) (e74 : Bool) (x75 x76 : Int) (h : Zaa) : Prop := Zes (Den pg fn.ntmps (C [1, 1, 0, 1, 0, 0, 1, 1, 0, 0, 1, 1, 1, 0, 0])) ((kp.find 1000009).getD []) (K7 Q R4) [(2, .ptr (some (i2, o2))), (3, .ptr (some (i3, o3))), (48, .slice a48 n48 c48 e48), (49, .int .i64 x49), (50, .int .i64 x50), (74, .slice a74 n74 c74 e74), (75, .int .i64 x75), (76, .int .i64 x76)] h
def Yjl (Q : QT) (R4 : T4) (x50 x49 : Int) (a48 : Pt) (n48 c48 : Nat) (e48 : Bool) (i2 o2 i3 o3 : Nat) (h : Zaa) : Prop := At (K6 Q R4) (.exit 2) [(50, .int .i64 x50), (49, .int .i64 x49), (48, .slice a48 n48 c48 e48), (2, .ptr (some (i2, o2))), (3, .ptr (some (i3, o3))), (4, .undef)] h
def J14 (Q : QT) (R4 : T4) (x50 x49 : Int) (a48 : Pt) (n48 c48 : Nat) (e48 : Bool) (i2 o2 i3 o3 : Nat) (h : Zaa) : Prop := Den pg fn.ntmps (C [1, 1, 0, 1, 0, 0, 1, 1, 1]) [(50, .int .i64 x50), (49, .int .i64 x49), (48, .slice a48 n48 c48 e48), (2, .ptr (some (i2, o2))), (3, .ptr (some (i3, o3)))] h (K3 Q R4)
theorem J3i (Q : QT) (i3 o3 i2 o2 : Nat) (h : Zaa) (ht :
 xSl (Zai h (.ptr (some (i3, o3 + 2)))) fun A39 N40 C41 E42 => L4 Q i2 o2 i3 o3 A39 N40 C41 E42 (((N40 : Nat) : Int)) 0 h) : J3 Q i3 o3 i2 o2 h :=
  Zbh (kp := kp) (cast (by kernel_rfl) ht)
def L4t (Q : QT) (R4 : T4) (i2 o2 i3 o3 : Nat) (a48 : Pt) (n48 c48 : Nat) (e48 : Bool) (x49 x50 : Int) (h : Zaa) : Prop :=
 bcase (decide ((x50 : Int) < x49)) ((0 ≤ (x50 : Int) ∧ (x50 : Int) < (n48 : Nat)) ∧ (Zbu a48 fun I43 O44 => Zdg (Zbw h (.ptr (some (I43, O44 + (Int.toNat x50) * 2))) 2) fun K45 => Zak K45 fun C46 Z47 => Zbs (some C46) fun S48 => Zak Z47 fun C49 Z50 => Zbs (some C49) fun S51 => Zct Z50 (Zdw (h ++ [.cells Zao [.str [], .str []] false]) fun H52 => Zcb (Zbc H52 (.ptr (some (h.length, 0))) [.str S48, .str S51]) fun H53 => xSl (Zai H53 (.ptr (some (i2, o2 + 0)))) fun A54 N55 C56 E57 => Zbs (Zai H53 (.ptr (some (h.length, 0 + 0)))) fun S58 => Zae pg Zhy [.slice A54 N55 C56 E57, .str S58] H53 fun V59 H60 =>
 Zcv (some V59) fun B61 => bcase (!B61) (Q (.bool false) H60) (Zbs (Zai H60 (.ptr (some (h.length, 0 + 1)))) fun S62 => Zae pg Zgk [.str S62] H60 fun V63 H64 =>
 Zcv (some V63) fun B65 => bcase (!B65) (Q (.bool false) H64) (Zbs (Zai H64 (.ptr (some (h.length, 0 + 1)))) fun S66 => bcase (decide (((((List.length S66 : Nat) : Int)) : Int) > 20)) (Q (.bool false) H64) (J8 Q R4 h.length 0 i2 o2 i3 o3 a48 n48 c48 e48 x49 x50 H64)))))) (Ztm Q h)
theorem Zpt (Q : QT) (R4 : T4) (i2 o2 i3 o3 : Nat) (a48 : Pt) (n48 c48 : Nat) (e48 : Bool) (x49 x50 : Int) (h : Zaa) (ht : L4t Q R4 i2 o2 i3 o3 a48 n48 c48 e48 x49 x50 h) : Den pg fn.ntmps (C [1, 1, 0, 1, 0, 0]) [(2, .ptr (some (i2, o2))), (3, .ptr (some (i3, o3))), (48, .slice a48 n48 c48 e48), (49, .int .i64 x49), (50, .int .i64 x50)] h (K3 Q R4) :=
  Zbh (kp := kp) (cast (by kernel_rfl) ht)
theorem L4ind (Q : QT) (i2 o2 i3 o3 : Nat) (a48 : Pt) (n48 c48 : Nat) (e48 : Bool) (x49 : Int) {G : Type} (J : G → Int → Zaa → Prop) (m : G → Nat)
 (hr : ∀ (g : G) (x50 : Int) (h : Zaa), J g x50 h → ∀ (R4 : T4), (∀ g' (x50 : Int) (h : Zaa), m g' < m g → J g' x50 h → R4 i2 o2 i3 o3 a48 n48 c48 e48 x49 x50 h) → L4t Q R4 i2 o2 i3 o3 a48 n48 c48 e48 x49 x50 h)
 (g : G) (x50 : Int) (h : Zaa) (hj : J g x50 h) : L4 Q i2 o2 i3 o3 a48 n48 c48 e48 x49 x50 h := by
  refine Zes.inv2 (fun g => E4 fun i2' o2' i3' o3' a48' n48' c48' e48' x49' x50 h => i2 = i2' ∧ o2 = o2' ∧ i3 = i3' ∧ o3 = o3' ∧ a48 = a48' ∧ n48 = n48' ∧ c48 = c48' ∧ e48 = e48' ∧ x49 = x49' ∧ J g x50 h) (fun g => E4 fun i2' o2' i3' o3' a48' n48' c48' e48' x49' x50 h => i2 = i2' ∧ o2 = o2' ∧ i3 = i3' ∧ o3 = o3' ∧ a48 = a48' ∧ n48 = n48' ∧ c48 = c48' ∧ e48 = e48' ∧ x49 = x49' ∧ ∃ g', m g' < m g ∧ J g' x50 h) m ?_ ?_ g ⟨rfl, rfl, rfl, rfl, rfl, rfl, rfl, rfl, rfl, hj⟩
  · intro g env h hi
    obtain ⟨i2', o2', i3', o3', a48', n48', c48', e48', x49', x50, rfl, rfl, rfl, rfl, rfl, rfl, rfl, rfl, rfl, rfl, hj⟩ := Zia hi
    exact Zpt Q _ i2 o2 i3 o3 a48 n48 c48 e48 x49 x50 h (hr g x50 h hj (fun i2' o2' i3' o3' a48' n48' c48' e48' x49' x50 h => i2 = i2' ∧ o2 = o2' ∧ i3 = i3' ∧ o3 = o3' ∧ a48 = a48' ∧ n48 = n48' ∧ c48 = c48' ∧ e48 = e48' ∧ x49 = x49' ∧ ∃ g', m g' < m g ∧ J g' x50 h) fun g' x50 h hlt hj => ⟨rfl, rfl, rfl, rfl, rfl, rfl, rfl, rfl, rfl, g', hlt, hj⟩)
  · intro g env h hi
    obtain ⟨i2', o2', i3', o3', a48', n48', c48', e48', x49', x50, rfl, rfl, rfl, rfl, rfl, rfl, rfl, rfl, rfl, rfl, g', hlt, hj⟩ := Zia hi
    exact ⟨g', hlt, rfl, rfl, rfl, rfl, rfl, rfl, rfl, rfl, rfl, hj⟩
theorem J8i (Q : QT) (R4 : T4) (i6 o6 i2 o2 i3 o3 : Nat) (a48 : Pt) (n48 c48 : Nat) (e48 : Bool) (x49 x50 : Int) (h : Zaa) (ht :
 Zbs (Zai h (.ptr (some (i6, o6 + 1)))) fun S67 => Zae pg Znc [.str S67] h fun V68 H69 =>
 xSl (some V68) fun A70 N71 C72 E73 => L9 Q R4 i2 o2 i3 o3 a48 n48 c48 e48 x49 x50 A70 N71 C72 E73 (((N71 : Nat) : Int)) 0 H69) : J8 Q R4 i6 o6 i2 o2 i3 o3 a48 n48 c48 e48 x49 x50 h :=
  Zbh (kp := kp) (cast (by kernel_rfl) ht)
theorem A4x0i (Q : QT) (h : Zaa) (ht :
 Q (.bool true) h) : Ztm Q h :=
  At.mk (cast (by kernel_rfl) ht)
def L9t (Q : QT) (R4 : T4) (R9 : T9) (i2 o2 i3 o3 : Nat) (a48 : Pt) (n48 c48 : Nat) (e48 : Bool) (x49 x50 : Int) (a74 : Pt) (n74 c74 : Nat) (e74 : Bool) (x75 x76 : Int) (h : Zaa) : Prop :=
 bcase (decide ((x76 : Int) < x75)) ((0 ≤ (x76 : Int) ∧ (x76 : Int) < (n74 : Nat)) ∧ (Zbu a74 fun I74 O75 => Zbs (Zai h (.ptr (some (I74, O75 + (Int.toNat x76) * 1)))) fun S76 => Zbs (Zai h (.ptr (some (i3, o3 + 0 + 1)))) fun S77 => Zae pg Zee [.str S77, .str S76] h fun V78 H79 =>
 Zcv (some V78) fun B80 => bcase (!B80) (Q (.bool false) H79) (R9 i2 o2 i3 o3 a48 n48 c48 e48 x49 x50 a74 n74 c74 e74 x75 (IntKind.wrap .i64 (x76 + 1)) H79))) (Yjl Q R4 x50 x49 a48 n48 c48 e48 i2 o2 i3 o3 h)
theorem Yiq (Q : QT) (R4 : T4) (R9 : T9) (i2 o2 i3 o3 : Nat) (a48 : Pt) (n48 c48 : Nat) (e48 : Bool) (x49 x50 : Int) (a74 : Pt) (n74 c74 : Nat) (e74 : Bool) (x75 x76 : Int) (h : Zaa) (ht : L9t Q R4 R9 i2 o2 i3 o3 a48 n48 c48 e48 x49 x50 a74 n74 c74 e74 x75 x76 h) : Den pg fn.ntmps (C [1, 1, 0, 1, 0, 0, 1, 1, 0, 0, 1, 1, 1, 0, 0]) [(2, .ptr (some (i2, o2))), (3, .ptr (some (i3, o3))), (48, .slice a48 n48 c48 e48), (49, .int .i64 x49), (50, .int .i64 x50), (74, .slice a74 n74 c74 e74), (75, .int .i64 x75), (76, .int .i64 x76)] h (K8 Q R4 R9) :=
  Zbh (kp := kp) (cast (by kernel_rfl) ht)
theorem L9ind (Q : QT) (R4 : T4) (i2 o2 i3 o3 : Nat) (a48 : Pt) (n48 c48 : Nat) (e48 : Bool) (x49 x50 : Int) (a74 : Pt) (n74 c74 : Nat) (e74 : Bool) (x75 : Int) {G : Type} (J : G → Int → Zaa → Prop) (m : G → Nat)
 (hr : ∀ (g : G) (x76 : Int) (h : Zaa), J g x76 h → ∀ (R9 : T9), (∀ g' (x76 : Int) (h : Zaa), m g' < m g → J g' x76 h → R9 i2 o2 i3 o3 a48 n48 c48 e48 x49 x50 a74 n74 c74 e74 x75 x76 h) → L9t Q R4 R9 i2 o2 i3 o3 a48 n48 c48 e48 x49 x50 a74 n74 c74 e74 x75 x76 h)
 (g : G) (x76 : Int) (h : Zaa) (hj : J g x76 h) : L9 Q R4 i2 o2 i3 o3 a48 n48 c48 e48 x49 x50 a74 n74 c74 e74 x75 x76 h := by
  refine Zes.inv2 (fun g => E9 fun i2' o2' i3' o3' a48' n48' c48' e48' x49' x50' a74' n74' c74' e74' x75' x76 h => i2 = i2' ∧ o2 = o2' ∧ i3 = i3' ∧ o3 = o3' ∧ a48 = a48' ∧ n48 = n48' ∧ c48 = c48' ∧ e48 = e48' ∧ x49 = x49' ∧ x50 = x50' ∧ a74 = a74' ∧ n74 = n74' ∧ c74 = c74' ∧ e74 = e74' ∧ x75 = x75' ∧ J g x76 h) (fun g => E9 fun i2' o2' i3' o3' a48' n48' c48' e48' x49' x50' a74' n74' c74' e74' x75' x76 h => i2 = i2' ∧ o2 = o2' ∧ i3 = i3' ∧ o3 = o3' ∧ a48 = a48' ∧ n48 = n48' ∧ c48 = c48' ∧ e48 = e48' ∧ x49 = x49' ∧ x50 = x50' ∧ a74 = a74' ∧ n74 = n74' ∧ c74 = c74' ∧ e74 = e74' ∧ x75 = x75' ∧ ∃ g', m g' < m g ∧ J g' x76 h) m ?_ ?_ g ⟨rfl, rfl, rfl, rfl, rfl, rfl, rfl, rfl, rfl, rfl, rfl, rfl, rfl, rfl, rfl, hj⟩
  · intro g env h hi
    obtain ⟨i2', o2', i3', o3', a48', n48', c48', e48', x49', x50', a74', n74', c74', e74', x75', x76, rfl, rfl, rfl, rfl, rfl, rfl, rfl, rfl, rfl, rfl, rfl, rfl, rfl, rfl, rfl, rfl, hj⟩ := Yfa hi
    exact Yiq Q R4 (fun i2' o2' i3' o3' a48' n48' c48' e48' x49' x50' a74' n74' c74' e74' x75' x76 h => i2 = i2' ∧ o2 = o2' ∧ i3 = i3' ∧ o3 = o3' ∧ a48 = a48' ∧ n48 = n48' ∧ c48 = c48' ∧ e48 = e48' ∧ x49 = x49' ∧ x50 = x50' ∧ a74 = a74' ∧ n74 = n74' ∧ c74 = c74' ∧ e74 = e74' ∧ x75 = x75' ∧ ∃ g', m g' < m g ∧ J g' x76 h) i2 o2 i3 o3 a48 n48 c48 e48 x49 x50 a74 n74 c74 e74 x75 x76 h (hr g x76 h hj (fun i2' o2' i3' o3' a48' n48' c48' e48' x49' x50' a74' n74' c74' e74' x75' x76 h => i2 = i2' ∧ o2 = o2' ∧ i3 = i3' ∧ o3 = o3' ∧ a48 = a48' ∧ n48 = n48' ∧ c48 = c48' ∧ e48 = e48' ∧ x49 = x49' ∧ x50 = x50' ∧ a74 = a74' ∧ n74 = n74' ∧ c74 = c74' ∧ e74 = e74' ∧ x75 = x75' ∧ ∃ g', m g' < m g ∧ J g' x76 h) fun g' x76 h hlt hj => ⟨rfl, rfl, rfl, rfl, rfl, rfl, rfl, rfl, rfl, rfl, rfl, rfl, rfl, rfl, rfl, g', hlt, hj⟩)
  · intro g env h hi
    obtain ⟨i2', o2', i3', o3', a48', n48', c48', e48', x49', x50', a74', n74', c74', e74', x75', x76, rfl, rfl, rfl, rfl, rfl, rfl, rfl, rfl, rfl, rfl, rfl, rfl, rfl, rfl, rfl, rfl, g', hlt, hj⟩ := Yfa hi
    exact ⟨g', hlt, rfl, rfl, rfl, rfl, rfl, rfl, rfl, rfl, rfl, rfl, rfl, rfl, rfl, rfl, rfl, hj⟩
theorem A9x2i (Q : QT) (R4 : T4) (x50 x49 : Int) (a48 : Pt) (n48 c48 : Nat) (e48 : Bool) (i2 o2 i3 o3 : Nat) (h : Zaa) (ht :
 J14 Q R4 x50 x49 a48 n48 c48 e48 i2 o2 i3 o3 h) : Yjl Q R4 x50 x49 a48 n48 c48 e48 i2 o2 i3 o3 h :=
  At.mk (cast (by kernel_rfl) ht)
theorem J14i (Q : QT) (R4 : T4) (x50 x49 : Int) (a48 : Pt) (n48 c48 : Nat) (e48 : Bool) (i2 o2 i3 o3 : Nat) (h : Zaa) (ht :
 R4 i2 o2 i3 o3 a48 n48 c48 e48 x49 (IntKind.wrap .i64 (x50 + 1)) h) : J14 Q R4 x50 x49 a48 n48 c48 e48 i2 o2 i3 o3 h :=
  Zbh (kp := kp) (cast (by kernel_rfl) ht)
theorem call (a0x0 : Pt) (n0x0 c0x0 : Nat) (e0x0 : Bool) (a0x1 : Pt) (n0x1 c0x1 : Nat) (e0x1 : Bool) (x1x0 x1x1 : List Nat) (a1x2 : Pt) (n1x2 c1x2 : Nat) (e1x2 : Bool) (h : Zaa) (Q : QT) (ht :
 Zdw (h ++ [.cells Zac [.slice a0x0 n0x0 c0x0 e0x0, .slice a0x1 n0x1 c0x1 e0x1] false]) fun H0 => Zdw (H0 ++ [.cells Zab [.str x1x0, .str x1x1, .slice a1x2 n1x2 c1x2 e1x2] false]) fun H1 => Zdg (Zbw H1 (.ptr (some (h.length, 0))) 2) fun K2 => Zak K2 fun C3 Z4 => xSl (some C3) fun A5 N6 C7 E8 => Zak Z4 fun C9 Z10 => xSl (some C9) fun A11 N12 C13 E14 => Zct Z10 (Zae pg Zgj [.agg [.slice A5 N6 C7 E8, .slice A11 N12 C13 E14]] H1 fun V15 H16 =>
 Zcv (some V15) fun B17 => bcase (!B17) (Q (.bool false) H16) (xSl (Zai H16 (.ptr (some (h.length, 0 + 0)))) fun A18 N19 C20 E21 => Zbs (Zai H16 (.ptr (some (H0.length, 0 + 0 + 0)))) fun S22 => Zae pg Zhy [.slice A18 N19 C20 E21, .str S22] H16 fun V23 H24 =>
 Zcv (some V23) fun B25 => bcase (!B25) (Q (.bool false) H24) (Zbs (Zai H24 (.ptr (some (H0.length, 0 + 0 + 1)))) fun S26 => Zae pg Zgk [.str S26] H24 fun V27 H28 =>
 Zcv (some V27) fun B29 => bcase (!B29) (Q (.bool false) H28) (Zbs (Zai H28 (.ptr (some (H0.length, 0 + 0 + 1)))) fun S30 => bcase (decide (((((List.length S30 : Nat) : Int)) : Int) > 20)) (Q (.bool false) H28) (Zbs (Zai H28 (.ptr (some (H0.length, 0 + 0 + 1)))) fun S31 => Zae pg Zlq [.str S31] H28 fun V32 H33 =>
 Zcv (some V32) fun B34 => bcase B34 (Q (.bool false) H33) (xSl (Zai H33 (.ptr (some (H0.length, 0 + 2)))) fun A35 N36 C37 E38 => bcase (decide (((((N36 : Nat) : Int)) : Int) > 3)) (Q (.bool false) H33) (J3 Q H0.length 0 h.length 0 H33)))))))) : Zae pg Zfy [.agg [.slice a0x0 n0x0 c0x0 e0x0, .slice a0x1 n0x1 c0x1 e0x1], .agg [.str x1x0, .str x1x1, .slice a1x2 n1x2 c1x2 e1x2]] h Q :=
  Zae.of_body kp (c := cod fn) (fn := fn) Go.Proofs.Try.func74 (by kernel_rfl) (by kernel_rfl) (Nat.le_of_ble_eq_true (by kernel_rfl))
    (cast (by kernel_rfl) ht)
end Zbq
end Go.Sim

set_option maxRecDepth 100000
set_option linter.unusedVariables false
namespace Go.Sim
open Go Go.RowKit
namespace Zbx
noncomputable abbrev fn : Func := Go.Proofs.Try.f100
def kp : Zcg := [(3000002, [0, 2]), (1000002, [0, 6, 7, 8]), (2000004, [31, 4, 0, 3, 6, 7, 8]), (4000006, [4, 0, 3, 6, 7, 8]), (3000007, [8, 7, 6, 0, 2]), (1000007, [0, 3, 4, 6, 7, 8, 34, 35]), (2000009, [65, 35, 34, 0, 3, 4, 8, 7, 6]), (4000011, [35, 34, 0, 3, 4, 8, 7, 6]), (4000012, [8, 7, 6, 0])]
noncomputable def C (p : List Nat) : Code := (cod fn).sub p
def KR (Q : QT) : KT := Zex pg fn.results.toList Q
abbrev T2 := Pt → Nat → Nat → Bool → Pt → Nat → Nat → Bool → Int → Int → Zaa → Prop
def E2 (R2 : T2) (env : Env) (h : Zaa) : Prop := Zcq 0 env fun v env => xSl (some v) fun a0 n0 c0 e0 => Zcq 6 env fun v env => xSl (some v) fun a6 n6 c6 e6 => Zcq 7 env fun v env => Zfb .i64 v fun x7 => Zcq 8 env fun v env => Zfb .i64 v fun x8 => Zld env (R2 a0 n0 c0 e0 a6 n6 c6 e6 x7 x8 h)
theorem Zdd {R2 : T2} {env : Env} {h : Zaa} (hi : E2 R2 env h) : ∃ a0, ∃ n0, ∃ c0, ∃ e0, ∃ a6, ∃ n6, ∃ c6, ∃ e6, ∃ x7, ∃ x8, env = [(0, .slice a0 n0 c0 e0), (6, .slice a6 n6 c6 e6), (7, .int .i64 x7), (8, .int .i64 x8)] ∧ R2 a0 n0 c0 e0 a6 n6 c6 e6 x7 x8 h := by
  unfold E2 at hi
  have hi0 := hi
  clear hi
  obtain ⟨_, _, rfl, hi1⟩ := Zad hi0
  obtain ⟨a0, n0, c0, e0, rfl, hi2⟩ := Zbo hi1
  obtain ⟨_, _, rfl, hi3⟩ := Zad hi2
  obtain ⟨a6, n6, c6, e6, rfl, hi4⟩ := Zbo hi3
  obtain ⟨_, _, rfl, hi5⟩ := Zad hi4
  obtain ⟨x7, rfl, hi6⟩ := Zas hi5
  obtain ⟨_, _, rfl, hi7⟩ := Zad hi6
  obtain ⟨x8, rfl, hi8⟩ := Zas hi7
  obtain ⟨rfl, hi9⟩ := Zbm hi8
  have hi := hi9
  exact ⟨a0, n0, c0, e0, a6, n6, c6, e6, x7, x8, rfl, hi⟩
abbrev T7 := Pt → Nat → Nat → Bool → Int → Nat → Nat → Pt → Nat → Nat → Bool → Int → Int → Int → Int → Zaa → Prop
def E7 (R7 : T7) (env : Env) (h : Zaa) : Prop := Zcq 0 env fun v env => xSl (some v) fun a0 n0 c0 e0 => Zcq 3 env fun v env => Zfb .i64 v fun x3 => Zcq 4 env fun v env => Znk (some v) fun a => Zbu a fun i4 o4 => Zcq 6 env fun v env => xSl (some v) fun a6 n6 c6 e6 => Zcq 7 env fun v env => Zfb .i64 v fun x7 => Zcq 8 env fun v env => Zfb .i64 v fun x8 => Zcq 34 env fun v env => Zfb .i64 v fun x34 => Zcq 35 env fun v env => Zfb .i64 v fun x35 => Zld env (R7 a0 n0 c0 e0 x3 i4 o4 a6 n6 c6 e6 x7 x8 x34 x35 h)
theorem Zuc {R7 : T7} {env : Env} {h : Zaa} (hi : E7 R7 env h) : ∃ a0, ∃ n0, ∃ c0, ∃ e0, ∃ x3, ∃ i4, ∃ o4, ∃ a6, ∃ n6, ∃ c6, ∃ e6, ∃ x7, ∃ x8, ∃ x34, ∃ x35, env = [(0, .slice a0 n0 c0 e0), (3, .int .i64 x3), (4, .ptr (some (i4, o4))), (6, .slice a6 n6 c6 e6), (7, .int .i64 x7), (8, .int .i64 x8), (34, .int .i64 x34), (35, .int .i64 x35)] ∧ R7 a0 n0 c0 e0 x3 i4 o4 a6 n6 c6 e6 x7 x8 x34 x35 h := by
  unfold E7 at hi
  have hi0 := hi
  clear hi
  obtain ⟨_, _, rfl, hi1⟩ := Zad hi0
  obtain ⟨a0, n0, c0, e0, rfl, hi2⟩ := Zbo hi1
  obtain ⟨_, _, rfl, hi3⟩ := Zad hi2
  obtain ⟨x3, rfl, hi4⟩ := Zas hi3
  obtain ⟨_, _, rfl, hi5⟩ := Zad hi4
  obtain ⟨a, rfl, hi6⟩ := Zdn hi5
  obtain ⟨i4, o4, rfl, hi7⟩ := Zcm hi6
  obtain ⟨_, _, rfl, hi8⟩ := Zad hi7
  obtain ⟨a6, n6, c6, e6, rfl, hi9⟩ := Zbo hi8
  obtain ⟨_, _, rfl, hi10⟩ := Zad hi9
  obtain ⟨x7, rfl, hi11⟩ := Zas hi10
  obtain ⟨_, _, rfl, hi12⟩ := Zad hi11
  obtain ⟨x8, rfl, hi13⟩ := Zas hi12
  obtain ⟨_, _, rfl, hi14⟩ := Zad hi13
  obtain ⟨x34, rfl, hi15⟩ := Zas hi14
  obtain ⟨_, _, rfl, hi16⟩ := Zad hi15
  obtain ⟨x35, rfl, hi17⟩ := Zas hi16
  obtain ⟨rfl, hi18⟩ := Zbm hi17
  have hi := hi18
  exact ⟨a0, n0, c0, e0, x3, i4, o4, a6, n6, c6, e6, x7, x8, x34, x35, rfl, hi⟩
def K0 (Q : QT) : KT := andThen (fun env' h' => (match kp.find 4000013 with | some ks => Den pg fn.ntmps (C [1, 1]) (env'.keep ks) h' (KR Q) | none => den pg fn.ntmps kp (C [1, 1]) env' h' (KR Q))) (KR Q)
def K1 (Q : QT) : KT := Zda 0 (K0 Q)
def K2 (Q : QT) : KT := left kp 2 (K1 Q)
def K3 (Q : QT) (R2 : T2) : KT := rnd ((kp.find 1000002).getD []) (E2 R2) (K2 Q)
def K4 (Q : QT) (R2 : T2) : KT := andThen (fun env' h' => (match kp.find 4000012 with | some ks => Den pg fn.ntmps (C [1, 0, 1, 0, 0, 1, 1, 1]) (env'.keep ks) h' (K3 Q R2) | none => den pg fn.ntmps kp (C [1, 0, 1, 0, 0, 1, 1, 1]) env' h' (K3 Q R2))) (K3 Q R2)
def K5 (Q : QT) (R2 : T2) : KT := Zda 1 (K4 Q R2)
def K6 (Q : QT) (R2 : T2) : KT := Zda 2 (K5 Q R2)
def K7 (Q : QT) (R2 : T2) : KT := left kp 7 (K6 Q R2)
def K8 (Q : QT) (R2 : T2) (R7 : T7) : KT := rnd ((kp.find 1000007).getD []) (E7 R7) (K7 Q R2)
def L2 (Q : QT) (a0 : Pt) (n0 c0 : Nat) (e0 : Bool) (a6 : Pt) (n6 c6 : Nat) (e6 : Bool) (x7 x8 : Int) (h : Zaa) : Prop := Zes (Den pg fn.ntmps (C [1, 0, 1, 0, 0])) ((kp.find 1000002).getD []) (K2 Q) [(0, .slice a0 n0 c0 e0), (6, .slice a6 n6 c6 e6), (7, .int .i64 x7), (8, .int .i64 x8)] h
def J6 (Q : QT) (R2 : T2) (i4 o4 : Nat) (a0 : Pt) (n0 c0 : Nat) (e0 : Bool) (x3 : Int) (a6 : Pt) (n6 c6 : Nat) (e6 : Bool) (x7 x8 : Int) (h : Zaa) : Prop := Den pg fn.ntmps (C [1, 0, 1, 0, 0, 1, 1, 0, 0, 1, 1]) [(4, .ptr (some (i4, o4))), (0, .slice a0 n0 c0 e0), (3, .int .i64 x3), (6, .slice a6 n6 c6 e6), (7, .int .i64 x7), (8, .int .i64 x8)] h (K5 Q R2)
def Zkd (Q : QT) (a0 : Pt) (n0 c0 : Nat) (e0 : Bool) (h : Zaa) : Prop := At (K1 Q) (.exit 0) [(0, .slice a0 n0 c0 e0), (2, .undef)] h
def L7 (Q : QT) (R2 : T2) (a0 : Pt) (n0 c0 : Nat) (e0 : Bool) (x3 : Int) (i4 o4 : Nat) (a6 : Pt) (n6 c6 : Nat) (e6 : Bool) (x7 x8 x34 x35 : Int) (h : Zaa) : Prop := Zes (Den pg fn.ntmps (C [1, 0, 1, 0, 0, 1, 1, 0, 0, 1, 1, 1, 0, 0])) ((kp.find 1000007).getD []) (K7 Q R2) [(0, .slice a0 n0 c0 e0), (3, .int .i64 x3), (4, .ptr (some (i4, o4))), (6, .slice a6 n6 c6 e6), (7, .int .i64 x7), (8, .int .i64 x8), (34, .int .i64 x34), (35, .int .i64 x35)] h
def J11 (Q : QT) (R2 : T2) (R7 : T7) (x35 x34 : Int) (a0 : Pt) (n0 c0 : Nat) (e0 : Bool) (x3 : Int) (i4 o4 : Nat) (x8 x7 : Int) (a6 : Pt) (n6 c6 : Nat) (e6 : Bool) (h : Zaa) : Prop := Den pg fn.ntmps (C [1, 0, 1, 0, 0, 1, 1, 0, 0, 1, 1, 1, 0, 0, 1, 1, 1]) [(35, .int .i64 x35), (34, .int .i64 x34), (0, .slice a0 n0 c0 e0), (3, .int .i64 x3), (4, .ptr (some (i4, o4))), (8, .int .i64 x8), (7, .int .i64 x7), (6, .slice a6 n6 c6 e6)] h (K8 Q R2 R7)
def Yhb (Q : QT) (R2 : T2) (x8 x7 : Int) (a6 : Pt) (n6 c6 : Nat) (e6 : Bool) (a0 : Pt) (n0 c0 : Nat) (e0 : Bool) (h : Zaa) : Prop := At (K6 Q R2) (.exit 2) [(8, .int .i64 x8), (7, .int .i64 x7), (6, .slice a6 n6 c6 e6), (0, .slice a0 n0 c0 e0), (2, .undef)] h
def J12 (Q : QT) (R2 : T2) (x8 x7 : Int) (a6 : Pt) (n6 c6 : Nat) (e6 : Bool) (a0 : Pt) (n0 c0 : Nat) (e0 : Bool) (h : Zaa) : Prop := Den pg fn.ntmps (C [1, 0, 1, 0, 0, 1, 1, 1]) [(8, .int .i64 x8), (7, .int .i64 x7), (6, .slice a6 n6 c6 e6), (0, .slice a0 n0 c0 e0)] h (K3 Q R2)
def L2t (Q : QT) (R2 : T2) (a0 : Pt) (n0 c0 : Nat) (e0 : Bool) (a6 : Pt) (n6 c6 : Nat) (e6 : Bool) (x7 x8 : Int) (h : Zaa) : Prop :=
 bcase (decide ((x8 : Int) < x7)) ((0 ≤ (x8 : Int) ∧ (x8 : Int) < (n6 : Nat)) ∧ (Zbu a6 fun I0 O1 => Zdg (Zbw h (.ptr (some (I0, O1 + (Int.toNat x8) * 2))) 2) fun K2 => Zak K2 fun C3 Z4 => Zbs (some C3) fun S5 => Zak Z4 fun C6 Z7 => Zbs (some C6) fun S8 => Zct Z7 (Zdw (h ++ [.cells Zan [.str [], .str []] false]) fun H9 => Zcb (Zbc H9 (.ptr (some (h.length, 0))) [.str S5, .str S8]) fun H10 => Zbs (Zai H10 (.ptr (some (h.length, 0 + 0)))) fun S11 => Zae pg Zid [.str S11] H10 fun V12 H13 =>
 Zcv (some V12) fun B14 => bcase (!B14) ((Zai H13 (.tup []) = Zai H13 (.tup [])) ∧ Q (.bool false) H13) (bcase (decide ((x8 : Int) > 0)) ((0 ≤ (IntKind.wrap .i64 (x8 - 1) : Int) ∧ (IntKind.wrap .i64 (x8 - 1) : Int) < (n0 : Nat)) ∧ (Zbu a0 fun I15 O16 => Zbs (Zai H13 (.ptr (some (I15, O16 + (Int.toNat (IntKind.wrap .i64 (x8 - 1))) * 2 + 0)))) fun S17 => Zbs (Zai H13 (.ptr (some (h.length, 0 + 0)))) fun S18 => (Zai H13 (.ptr (some (I15, O16 + (Int.toNat (IntKind.wrap .i64 (x8 - 1))) * 2 + 0))) = Zai H13 (.ptr (some (I15, O16 + (Int.toNat (IntKind.wrap .i64 (x8 - 1))) * 2 + 0)))) ∧ bcase (!Zea S17 S18) (Q (.bool false) H13) (J6 Q R2 h.length 0 a0 n0 c0 e0 x8 a6 n6 c6 e6 x7 x8 H13))) ((Zai H13 (.tup []) = Zai H13 (.tup [])) ∧ J6 Q R2 h.length 0 a0 n0 c0 e0 x8 a6 n6 c6 e6 x7 x8 H13))))) (Zkd Q a0 n0 c0 e0 h)
theorem Zhj (Q : QT) (R2 : T2) (a0 : Pt) (n0 c0 : Nat) (e0 : Bool) (a6 : Pt) (n6 c6 : Nat) (e6 : Bool) (x7 x8 : Int) (h : Zaa) (ht : L2t Q R2 a0 n0 c0 e0 a6 n6 c6 e6 x7 x8 h) : Den pg fn.ntmps (C [1, 0, 1, 0, 0]) [(0, .slice a0 n0 c0 e0), (6, .slice a6 n6 c6 e6), (7, .int .i64 x7), (8, .int .i64 x8)] h (K3 Q R2) :=
  Zbh (kp := kp) (cast (by kernel_rfl) ht)
theorem L2ind (Q : QT) (a0 : Pt) (n0 c0 : Nat) (e0 : Bool) (a6 : Pt) (n6 c6 : Nat) (e6 : Bool) (x7 : Int) {G : Type} (J : G → Int → Zaa → Prop) (m : G → Nat)
 (hr : ∀ (g : G) (x8 : Int) (h : Zaa), J g x8 h → ∀ (R2 : T2), (∀ g' (x8 : Int) (h : Zaa), m g' < m g → J g' x8 h → R2 a0 n0 c0 e0 a6 n6 c6 e6 x7 x8 h) → L2t Q R2 a0 n0 c0 e0 a6 n6 c6 e6 x7 x8 h)
 (g : G) (x8 : Int) (h : Zaa) (hj : J g x8 h) : L2 Q a0 n0 c0 e0 a6 n6 c6 e6 x7 x8 h := by
  refine Zes.inv2 (fun g => E2 fun a0' n0' c0' e0' a6' n6' c6' e6' x7' x8 h => a0 = a0' ∧ n0 = n0' ∧ c0 = c0' ∧ e0 = e0' ∧ a6 = a6' ∧ n6 = n6' ∧ c6 = c6' ∧ e6 = e6' ∧ x7 = x7' ∧ J g x8 h) (fun g => E2 fun a0' n0' c0' e0' a6' n6' c6' e6' x7' x8 h => a0 = a0' ∧ n0 = n0' ∧ c0 = c0' ∧ e0 = e0' ∧ a6 = a6' ∧ n6 = n6' ∧ c6 = c6' ∧ e6 = e6' ∧ x7 = x7' ∧ ∃ g', m g' < m g ∧ J g' x8 h) m ?_ ?_ g ⟨rfl, rfl, rfl, rfl, rfl, rfl, rfl, rfl, rfl, hj⟩
  · intro g env h hi
    obtain ⟨a0', n0', c0', e0', a6', n6', c6', e6', x7', x8, rfl, rfl, rfl, rfl, rfl, rfl, rfl, rfl, rfl, rfl, hj⟩ := Zdd hi
    exact Zhj Q _ a0 n0 c0 e0 a6 n6 c6 e6 x7 x8 h (hr g x8 h hj (fun a0' n0' c0' e0' a6' n6' c6' e6' x7' x8 h => a0 = a0' ∧ n0 = n0' ∧ c0 = c0' ∧ e0 = e0' ∧ a6 = a6' ∧ n6 = n6' ∧ c6 = c6' ∧ e6 = e6' ∧ x7 = x7' ∧ ∃ g', m g' < m g ∧ J g' x8 h) fun g' x8 h hlt hj => ⟨rfl, rfl, rfl, rfl, rfl, rfl, rfl, rfl, rfl, g', hlt, hj⟩)
  · intro g env h hi
    obtain ⟨a0', n0', c0', e0', a6', n6', c6', e6', x7', x8, rfl, rfl, rfl, rfl, rfl, rfl, rfl, rfl, rfl, rfl, g', hlt, hj⟩ := Zdd hi
    exact ⟨g', hlt, rfl, rfl, rfl, rfl, rfl, rfl, rfl, rfl, rfl, hj⟩
theorem J6i (Q : QT) (R2 : T2) (i4 o4 : Nat) (a0 : Pt) (n0 c0 : Nat) (e0 : Bool) (x3 : Int) (a6 : Pt) (n6 c6 : Nat) (e6 : Bool) (x7 x8 : Int) (h : Zaa) (ht :
 Zbs (Zai h (.ptr (some (i4, o4 + 1)))) fun S19 => L7 Q R2 a0 n0 c0 e0 x3 i4 o4 a6 n6 c6 e6 x7 x8 (((List.length S19 : Nat) : Int)) 0 h) : J6 Q R2 i4 o4 a0 n0 c0 e0 x3 a6 n6 c6 e6 x7 x8 h :=
  Zbh (kp := kp) (cast (by kernel_rfl) ht)
theorem A2x0i (Q : QT) (a0 : Pt) (n0 c0 : Nat) (e0 : Bool) (h : Zaa) (ht :
 Zae pg Ziq [.int .i64 (((n0 : Nat) : Int)), .int .i64 1, .int .i64 4] h fun V20 H21 =>
 Zcv (some V20) fun B22 => Q (.bool B22) H21) : Zkd Q a0 n0 c0 e0 h :=
  At.mk (cast (by kernel_rfl) ht)
def L7t (Q : QT) (R2 : T2) (R7 : T7) (a0 : Pt) (n0 c0 : Nat) (e0 : Bool) (x3 : Int) (i4 o4 : Nat) (a6 : Pt) (n6 c6 : Nat) (e6 : Bool) (x7 x8 x34 x35 : Int) (h : Zaa) : Prop :=
 bcase (decide ((x35 : Int) < x34)) (Zep a0 n0 c0 e0 2 none (some (.int .i64 x3)) none fun V23 => xSl (some V23) fun A24 N25 C26 E27 => Zbs (Zai h (.ptr (some (i4, o4 + 1)))) fun S28 => (0 ≤ (x35 : Int) ∧ (x35 : Int) ≤ IntKind.wrap .i64 (x35 + 1) ∧ (IntKind.wrap .i64 (x35 + 1) : Int) ≤ (List.length S28 : Nat)) ∧ (Zae pg Zgg [.agg [.slice A24 N25 C26 E27, .slice none 0 0 true], .str (sub S28 x35 (IntKind.wrap .i64 (x35 + 1)))] h fun V29 H30 =>
 Zgn .i64 (some V29) fun X31 => bcase (decide ((X31 : Int) < 0)) ((Zai H30 (.tup []) = Zai H30 (.tup [])) ∧ Q (.bool false) H30) (bcase (decide ((x35 : Int) > 0)) (Zbs (Zai H30 (.ptr (some (i4, o4 + 1)))) fun S32 => Zjg S32 (IntKind.wrap .i64 (x35 - 1)) fun B33 => Zbs (Zai H30 (.ptr (some (i4, o4 + 1)))) fun S34 => (Zai H30 (.ptr (some (i4, o4 + 1))) = Zai H30 (.ptr (some (i4, o4 + 1)))) ∧ Zjg S34 x35 fun B35 => bcase (decide (((((B33 : Nat) : Int)) : Int) ≥ (((B35 : Nat) : Int)))) (Q (.bool false) H30) (J11 Q R2 R7 x35 x34 a0 n0 c0 e0 x3 i4 o4 x8 x7 a6 n6 c6 e6 H30)) ((Zai H30 (.tup []) = Zai H30 (.tup [])) ∧ J11 Q R2 R7 x35 x34 a0 n0 c0 e0 x3 i4 o4 x8 x7 a6 n6 c6 e6 H30)))) (Yhb Q R2 x8 x7 a6 n6 c6 e6 a0 n0 c0 e0 h)
theorem Yfo (Q : QT) (R2 : T2) (R7 : T7) (a0 : Pt) (n0 c0 : Nat) (e0 : Bool) (x3 : Int) (i4 o4 : Nat) (a6 : Pt) (n6 c6 : Nat) (e6 : Bool) (x7 x8 x34 x35 : Int) (h : Zaa) (ht : L7t Q R2 R7 a0 n0 c0 e0 x3 i4 o4 a6 n6 c6 e6 x7 x8 x34 x35 h) : Den pg fn.ntmps (C [1, 0, 1, 0, 0, 1, 1, 0, 0, 1, 1, 1, 0, 0]) [(0, .slice a0 n0 c0 e0), (3, .int .i64 x3), (4, .ptr (some (i4, o4))), (6, .slice a6 n6 c6 e6), (7, .int .i64 x7), (8, .int .i64 x8), (34, .int .i64 x34), (35, .int .i64 x35)] h (K8 Q R2 R7) :=
  Zbh (kp := kp) (cast (by kernel_rfl) ht)
theorem L7ind (Q : QT) (R2 : T2) (a0 : Pt) (n0 c0 : Nat) (e0 : Bool) (x3 : Int) (i4 o4 : Nat) (a6 : Pt) (n6 c6 : Nat) (e6 : Bool) (x7 x8 x34 : Int) {G : Type} (J : G → Int → Zaa → Prop) (m : G → Nat)
 (hr : ∀ (g : G) (x35 : Int) (h : Zaa), J g x35 h → ∀ (R7 : T7), (∀ g' (x35 : Int) (h : Zaa), m g' < m g → J g' x35 h → R7 a0 n0 c0 e0 x3 i4 o4 a6 n6 c6 e6 x7 x8 x34 x35 h) → L7t Q R2 R7 a0 n0 c0 e0 x3 i4 o4 a6 n6 c6 e6 x7 x8 x34 x35 h)
 (g : G) (x35 : Int) (h : Zaa) (hj : J g x35 h) : L7 Q R2 a0 n0 c0 e0 x3 i4 o4 a6 n6 c6 e6 x7 x8 x34 x35 h := by
  refine Zes.inv2 (fun g => E7 fun a0' n0' c0' e0' x3' i4' o4' a6' n6' c6' e6' x7' x8' x34' x35 h => a0 = a0' ∧ n0 = n0' ∧ c0 = c0' ∧ e0 = e0' ∧ x3 = x3' ∧ i4 = i4' ∧ o4 = o4' ∧ a6 = a6' ∧ n6 = n6' ∧ c6 = c6' ∧ e6 = e6' ∧ x7 = x7' ∧ x8 = x8' ∧ x34 = x34' ∧ J g x35 h) (fun g => E7 fun a0' n0' c0' e0' x3' i4' o4' a6' n6' c6' e6' x7' x8' x34' x35 h => a0 = a0' ∧ n0 = n0' ∧ c0 = c0' ∧ e0 = e0' ∧ x3 = x3' ∧ i4 = i4' ∧ o4 = o4' ∧ a6 = a6' ∧ n6 = n6' ∧ c6 = c6' ∧ e6 = e6' ∧ x7 = x7' ∧ x8 = x8' ∧ x34 = x34' ∧ ∃ g', m g' < m g ∧ J g' x35 h) m ?_ ?_ g ⟨rfl, rfl, rfl, rfl, rfl, rfl, rfl, rfl, rfl, rfl, rfl, rfl, rfl, rfl, hj⟩
  · intro g env h hi
    obtain ⟨a0', n0', c0', e0', x3', i4', o4', a6', n6', c6', e6', x7', x8', x34', x35, rfl, rfl, rfl, rfl, rfl, rfl, rfl, rfl, rfl, rfl, rfl, rfl, rfl, rfl, rfl, hj⟩ := Zuc hi
    exact Yfo Q R2 (fun a0' n0' c0' e0' x3' i4' o4' a6' n6' c6' e6' x7' x8' x34' x35 h => a0 = a0' ∧ n0 = n0' ∧ c0 = c0' ∧ e0 = e0' ∧ x3 = x3' ∧ i4 = i4' ∧ o4 = o4' ∧ a6 = a6' ∧ n6 = n6' ∧ c6 = c6' ∧ e6 = e6' ∧ x7 = x7' ∧ x8 = x8' ∧ x34 = x34' ∧ ∃ g', m g' < m g ∧ J g' x35 h) a0 n0 c0 e0 x3 i4 o4 a6 n6 c6 e6 x7 x8 x34 x35 h (hr g x35 h hj (fun a0' n0' c0' e0' x3' i4' o4' a6' n6' c6' e6' x7' x8' x34' x35 h => a0 = a0' ∧ n0 = n0' ∧ c0 = c0' ∧ e0 = e0' ∧ x3 = x3' ∧ i4 = i4' ∧ o4 = o4' ∧ a6 = a6' ∧ n6 = n6' ∧ c6 = c6' ∧ e6 = e6' ∧ x7 = x7' ∧ x8 = x8' ∧ x34 = x34' ∧ ∃ g', m g' < m g ∧ J g' x35 h) fun g' x35 h hlt hj => ⟨rfl, rfl, rfl, rfl, rfl, rfl, rfl, rfl, rfl, rfl, rfl, rfl, rfl, rfl, g', hlt, hj⟩)
  · intro g env h hi
    obtain ⟨a0', n0', c0', e0', x3', i4', o4', a6', n6', c6', e6', x7', x8', x34', x35, rfl, rfl, rfl, rfl, rfl, rfl, rfl, rfl, rfl, rfl, rfl, rfl, rfl, rfl, rfl, g', hlt, hj⟩ := Zuc hi
    exact ⟨g', hlt, rfl, rfl, rfl, rfl, rfl, rfl, rfl, rfl, rfl, rfl, rfl, rfl, rfl, rfl, hj⟩
theorem J11i (Q : QT) (R2 : T2) (R7 : T7) (x35 x34 : Int) (a0 : Pt) (n0 c0 : Nat) (e0 : Bool) (x3 : Int) (i4 o4 : Nat) (x8 x7 : Int) (a6 : Pt) (n6 c6 : Nat) (e6 : Bool) (h : Zaa) (ht :
 R7 a0 n0 c0 e0 x3 i4 o4 a6 n6 c6 e6 x7 x8 x34 (IntKind.wrap .i64 (x35 + 1)) h) : J11 Q R2 R7 x35 x34 a0 n0 c0 e0 x3 i4 o4 x8 x7 a6 n6 c6 e6 h :=
  Zbh (kp := kp) (cast (by kernel_rfl) ht)
theorem A7x2i (Q : QT) (R2 : T2) (x8 x7 : Int) (a6 : Pt) (n6 c6 : Nat) (e6 : Bool) (a0 : Pt) (n0 c0 : Nat) (e0 : Bool) (h : Zaa) (ht :
 J12 Q R2 x8 x7 a6 n6 c6 e6 a0 n0 c0 e0 h) : Yhb Q R2 x8 x7 a6 n6 c6 e6 a0 n0 c0 e0 h :=
  At.mk (cast (by kernel_rfl) ht)
theorem J12i (Q : QT) (R2 : T2) (x8 x7 : Int) (a6 : Pt) (n6 c6 : Nat) (e6 : Bool) (a0 : Pt) (n0 c0 : Nat) (e0 : Bool) (h : Zaa) (ht :
 R2 a0 n0 c0 e0 a6 n6 c6 e6 x7 (IntKind.wrap .i64 (x8 + 1)) h) : J12 Q R2 x8 x7 a6 n6 c6 e6 a0 n0 c0 e0 h :=
  Zbh (kp := kp) (cast (by kernel_rfl) ht)
theorem call (a0 : Pt) (n0 c0 : Nat) (e0 : Bool) (h : Zaa) (Q : QT) (ht :
 L2 Q a0 n0 c0 e0 a0 n0 c0 e0 (((n0 : Nat) : Int)) 0 h) : Zae pg Zgi [.slice a0 n0 c0 e0] h Q :=
  Zae.of_body kp (c := cod fn) (fn := fn) Go.Proofs.Try.func100 (by kernel_rfl) (by kernel_rfl) (Nat.le_of_ble_eq_true (by kernel_rfl))
    (cast (by kernel_rfl) ht)
end Zbx
end Go.Sim
