/- A part of the proof of a statement of this seat: see the text that holds the theorem. No condition. -/
import Derived.Test.YtlljbdepamknoaaNm
set_option linter.unusedVariables false
set_option linter.unusedSimpArgs false
set_option linter.all false
set_option maxRecDepth 100000
set_option linter.unusedVariables false
namespace Go.Sim
open Go Go.RowKit
namespace Zdb
noncomputable abbrev fn : Func := Go.Proofs.Try.f22
def kp : Zcv := [(3000002, [0, 1, 4]), (1000002, [0, 1, 10, 11]), (2000004, [22, 11, 10, 0, 1])]
noncomputable def C (p : List Nat) : Code := (cod fn).sub p
def KR (Q : QT) : KT := Zic pg fn.results.toList Q
abbrev T2 := Pt → Nat → Nat → Bool → Pt → Nat → Nat → Bool → Int → Int → Zaa → Prop
def E2 (R2 : T2) (env : Env) (h : Zaa) : Prop := Zcu 0 env fun v env => xSl (some v) fun a0 n0 c0 e0 => Zcu 1 env fun v env => xSl (some v) fun a1 n1 c1 e1 => Zcu 10 env fun v env => Zhr .i64 v fun x10 => Zcu 11 env fun v env => Zhr .i64 v fun x11 => Znt env (R2 a0 n0 c0 e0 a1 n1 c1 e1 x10 x11 h)
theorem Zky {R2 : T2} {env : Env} {h : Zaa} (hi : E2 R2 env h) : ∃ a0, ∃ n0, ∃ c0, ∃ e0, ∃ a1, ∃ n1, ∃ c1, ∃ e1, ∃ x10, ∃ x11, env = [(0, .slice a0 n0 c0 e0), (1, .slice a1 n1 c1 e1), (10, .int .i64 x10), (11, .int .i64 x11)] ∧ R2 a0 n0 c0 e0 a1 n1 c1 e1 x10 x11 h := by
  unfold E2 at hi
  have hi0 := hi
  clear hi
  obtain ⟨_, _, rfl, hi1⟩ := Zad hi0
  obtain ⟨a0, n0, c0, e0, rfl, hi2⟩ := Zci hi1
  obtain ⟨_, _, rfl, hi3⟩ := Zad hi2
  obtain ⟨a1, n1, c1, e1, rfl, hi4⟩ := Zci hi3
  obtain ⟨_, _, rfl, hi5⟩ := Zad hi4
  obtain ⟨x10, rfl, hi6⟩ := Zav hi5
  obtain ⟨_, _, rfl, hi7⟩ := Zad hi6
  obtain ⟨x11, rfl, hi8⟩ := Zav hi7
  obtain ⟨rfl, hi9⟩ := Zbx hi8
  have hi := hi9
  exact ⟨a0, n0, c0, e0, a1, n1, c1, e1, x10, x11, rfl, hi⟩
def K0 (Q : QT) : KT := andThen (fun env' h' => (match kp.find 4000007 with | some ks => Den pg fn.ntmps (C [1, 1]) (env'.keep ks) h' (KR Q) | none => den pg fn.ntmps kp (C [1, 1]) env' h' (KR Q))) (KR Q)
def K1 (Q : QT) : KT := Zdp 0 (K0 Q)
def K2 (Q : QT) : KT := left kp 2 (K1 Q)
def K3 (Q : QT) (R2 : T2) : KT := rnd ((kp.find 1000002).getD []) (E2 R2) (K2 Q)
def L2 (Q : QT) (a0 : Pt) (n0 c0 : Nat) (e0 : Bool) (a1 : Pt) (n1 c1 : Nat) (e1 : Bool) (x10 x11 : Int) (h : Zaa) : Prop := Zgw (Den pg fn.ntmps (C [1, 0, 1, 0, 0])) ((kp.find 1000002).getD []) (K2 Q) [(0, .slice a0 n0 c0 e0), (1, .slice a1 n1 c1 e1), (10, .int .i64 x10), (11, .int .i64 x11)] h
def Yam (Q : QT) (a0 : Pt) (n0 c0 : Nat) (e0 : Bool) (a1 : Pt) (n1 c1 : Nat) (e1 : Bool) (h : Zaa) : Prop := At (K1 Q) (.exit 0) [(0, .slice a0 n0 c0 e0), (1, .slice a1 n1 c1 e1), (4, .undef)] h
def L2t (Q : QT) (R2 : T2) (a0 : Pt) (n0 c0 : Nat) (e0 : Bool) (a1 : Pt) (n1 c1 : Nat) (e1 : Bool) (x10 x11 : Int) (h : Zaa) : Prop :=
 bcase (decide ((x11 : Int) < x10)) ((0 ≤ (x11 : Int) ∧ (x11 : Int) < (n0 : Nat)) ∧ (Zbb a0 fun I0 O1 => (0 ≤ (x11 : Int) ∧ (x11 : Int) < (n1 : Nat)) ∧ (Zbb a1 fun I2 O3 => Zep (Zdd h (.ptr (some (I0, O1 + (Int.toNat x11) * 2))) 2) fun K4 => Zar K4 fun C5 Z6 => Zct (some C5) fun S7 => Zar Z6 fun C8 Z9 => Zct (some C8) fun S10 => Zec Z9 (Zep (Zdd h (.ptr (some (I2, O3 + (Int.toNat x11) * 2))) 2) fun K11 => Zar K11 fun C12 Z13 => Zct (some C12) fun S14 => Zar Z13 fun C15 Z16 => Zct (some C15) fun S17 => Zec Z16 ((Zdd h (.ptr (some (I0, O1 + (Int.toNat x11) * 2))) 2 = Zdd h (.ptr (some (I0, O1 + (Int.toNat x11) * 2))) 2) ∧ bcase (!((decide (S7 = S14)) && (decide (S10 = S17)))) (Q (.bool false) h) (R2 a0 n0 c0 e0 a1 n1 c1 e1 x10 (IntKind.wrap .i64 (x11 + 1)) h)))))) (Yam Q a0 n0 c0 e0 a1 n1 c1 e1 h)
theorem Zxp (Q : QT) (R2 : T2) (a0 : Pt) (n0 c0 : Nat) (e0 : Bool) (a1 : Pt) (n1 c1 : Nat) (e1 : Bool) (x10 x11 : Int) (h : Zaa) (ht : L2t Q R2 a0 n0 c0 e0 a1 n1 c1 e1 x10 x11 h) : Den pg fn.ntmps (C [1, 0, 1, 0, 0]) [(0, .slice a0 n0 c0 e0), (1, .slice a1 n1 c1 e1), (10, .int .i64 x10), (11, .int .i64 x11)] h (K3 Q R2) :=
  Zbe (kp := kp) (cast (by kernel_rfl) ht)
theorem L2ind (Q : QT) (a0 : Pt) (n0 c0 : Nat) (e0 : Bool) (a1 : Pt) (n1 c1 : Nat) (e1 : Bool) (x10 : Int) {G : Type} (J : G → Int → Zaa → Prop) (m : G → Nat)
 (hr : ∀ (g : G) (x11 : Int) (h : Zaa), J g x11 h → ∀ (R2 : T2), (∀ g' (x11 : Int) (h : Zaa), m g' < m g → J g' x11 h → R2 a0 n0 c0 e0 a1 n1 c1 e1 x10 x11 h) → L2t Q R2 a0 n0 c0 e0 a1 n1 c1 e1 x10 x11 h)
 (g : G) (x11 : Int) (h : Zaa) (hj : J g x11 h) : L2 Q a0 n0 c0 e0 a1 n1 c1 e1 x10 x11 h := by
  refine Zgw.inv2 (fun g => E2 fun a0' n0' c0' e0' a1' n1' c1' e1' x10' x11 h => a0 = a0' ∧ n0 = n0' ∧ c0 = c0' ∧ e0 = e0' ∧ a1 = a1' ∧ n1 = n1' ∧ c1 = c1' ∧ e1 = e1' ∧ x10 = x10' ∧ J g x11 h) (fun g => E2 fun a0' n0' c0' e0' a1' n1' c1' e1' x10' x11 h => a0 = a0' ∧ n0 = n0' ∧ c0 = c0' ∧ e0 = e0' ∧ a1 = a1' ∧ n1 = n1' ∧ c1 = c1' ∧ e1 = e1' ∧ x10 = x10' ∧ ∃ g', m g' < m g ∧ J g' x11 h) m ?_ ?_ g ⟨rfl, rfl, rfl, rfl, rfl, rfl, rfl, rfl, rfl, hj⟩
  · intro g env h hi
    obtain ⟨a0', n0', c0', e0', a1', n1', c1', e1', x10', x11, rfl, rfl, rfl, rfl, rfl, rfl, rfl, rfl, rfl, rfl, hj⟩ := Zky hi
    exact Zxp Q _ a0 n0 c0 e0 a1 n1 c1 e1 x10 x11 h (hr g x11 h hj (fun a0' n0' c0' e0' a1' n1' c1' e1' x10' x11 h => a0 = a0' ∧ n0 = n0' ∧ c0 = c0' ∧ e0 = e0' ∧ a1 = a1' ∧ n1 = n1' ∧ c1 = c1' ∧ e1 = e1' ∧ x10 = x10' ∧ ∃ g', m g' < m g ∧ J g' x11 h) fun g' x11 h hlt hj => ⟨rfl, rfl, rfl, rfl, rfl, rfl, rfl, rfl, rfl, g', hlt, hj⟩)
  · intro g env h hi
    obtain ⟨a0', n0', c0', e0', a1', n1', c1', e1', x10', x11, rfl, rfl, rfl, rfl, rfl, rfl, rfl, rfl, rfl, rfl, g', hlt, hj⟩ := Zky hi
    exact ⟨g', hlt, rfl, rfl, rfl, rfl, rfl, rfl, rfl, rfl, rfl, hj⟩
theorem A2x0i (Q : QT) (a0 : Pt) (n0 c0 : Nat) (e0 : Bool) (a1 : Pt) (n1 c1 : Nat) (e1 : Bool) (h : Zaa) (ht :
 Q (.bool ((((n0 : Nat) : Int) : Int) == (((n1 : Nat) : Int)))) h) : Yam Q a0 n0 c0 e0 a1 n1 c1 e1 h :=
  At.mk (cast (by kernel_rfl) ht)
theorem call (a0 : Pt) (n0 c0 : Nat) (e0 : Bool) (a1 : Pt) (n1 c1 : Nat) (e1 : Bool) (h : Zaa) (Q : QT) (ht :
 L2 Q a0 n0 c0 e0 a1 n1 c1 e1 (if (((n1 : Nat) : Int) : Int) < (((n0 : Nat) : Int)) then ((n1 : Nat) : Int) else ((n0 : Nat) : Int)) 0 h) : Zae pg Zca [.slice a0 n0 c0 e0, .slice a1 n1 c1 e1] h Q :=
  Zae.of_body kp (c := cod fn) (fn := fn) Go.Proofs.Try.func22 (by kernel_rfl) (by kernel_rfl) (Nat.le_of_ble_eq_true (by kernel_rfl))
    (cast (by kernel_rfl) ht)
end Zdb
namespace Zdl
noncomputable abbrev fn : Func := Go.Proofs.Try.f5
def kp : Zcv := [(4000008, [5, 3, 4]), (3000011, [10, 9, 4, 5, 11, 3]), (1000011, [3, 4, 5, 9, 10, 11, 75, 76, 77])]
noncomputable def C (p : List Nat) : Code := (cod fn).sub p
def KR (Q : QT) : KT := Zic pg fn.results.toList Q
abbrev T11 := List Nat → List Nat → Pt → Nat → Nat → Bool → List Nat → Bool → List Nat → Pt → Nat → Nat → Bool → Int → Int → Zaa → Prop
def E11 (R11 : T11) (env : Env) (h : Zaa) : Prop := Zcu 3 env fun v env => Zct (some v) fun x3 => Zcu 4 env fun v env => Zct (some v) fun x4 => Zcu 5 env fun v env => xSl (some v) fun a5 n5 c5 e5 => Zcu 9 env fun v env => Zct (some v) fun x9 => Zcu 10 env fun v env => Zcg (some v) fun x10 => Zcu 11 env fun v env => Zct (some v) fun x11 => Zcu 75 env fun v env => xSl (some v) fun a75 n75 c75 e75 => Zcu 76 env fun v env => Zhr .i64 v fun x76 => Zcu 77 env fun v env => Zhr .i64 v fun x77 => Znt env (R11 x3 x4 a5 n5 c5 e5 x9 x10 x11 a75 n75 c75 e75 x76 x77 h)
theorem Zlx {R11 : T11} {env : Env} {h : Zaa} (hi : E11 R11 env h) : ∃ x3, ∃ x4, ∃ a5, ∃ n5, ∃ c5, ∃ e5, ∃ x9, ∃ x10, ∃ x11, ∃ a75, ∃ n75, ∃ c75, ∃ e75, ∃ x76, ∃ x77, env = [(3, .str x3), (4, .str x4), (5, .slice a5 n5 c5 e5), (9, .str x9), (10, .bool x10), (11, .str x11), (75, .slice a75 n75 c75 e75), (76, .int .i64 x76), (77, .int .i64 x77)] ∧ R11 x3 x4 a5 n5 c5 e5 x9 x10 x11 a75 n75 c75 e75 x76 x77 h := by
  unfold E11 at hi
  have hi0 := hi
  clear hi
  obtain ⟨_, _, rfl, hi1⟩ := Zad hi0
  obtain ⟨x3, rfl, hi2⟩ := Zda hi1
  obtain ⟨_, _, rfl, hi3⟩ := Zad hi2
  obtain ⟨x4, rfl, hi4⟩ := Zda hi3
  obtain ⟨_, _, rfl, hi5⟩ := Zad hi4
  obtain ⟨a5, n5, c5, e5, rfl, hi6⟩ := Zci hi5
  obtain ⟨_, _, rfl, hi7⟩ := Zad hi6
  obtain ⟨x9, rfl, hi8⟩ := Zda hi7
  obtain ⟨_, _, rfl, hi9⟩ := Zad hi8
  obtain ⟨x10, rfl, hi10⟩ := Zty hi9
  obtain ⟨_, _, rfl, hi11⟩ := Zad hi10
  obtain ⟨x11, rfl, hi12⟩ := Zda hi11
  obtain ⟨_, _, rfl, hi13⟩ := Zad hi12
  obtain ⟨a75, n75, c75, e75, rfl, hi14⟩ := Zci hi13
  obtain ⟨_, _, rfl, hi15⟩ := Zad hi14
  obtain ⟨x76, rfl, hi16⟩ := Zav hi15
  obtain ⟨_, _, rfl, hi17⟩ := Zad hi16
  obtain ⟨x77, rfl, hi18⟩ := Zav hi17
  obtain ⟨rfl, hi19⟩ := Zbx hi18
  have hi := hi19
  exact ⟨x3, x4, a5, n5, c5, e5, x9, x10, x11, a75, n75, c75, e75, x76, x77, rfl, hi⟩
def K0 (Q : QT) : KT := andThen (fun env' h' => (match kp.find 4000015 with | some ks => Den pg fn.ntmps (C [1, 1, 1, 1, 1, 1, 1, 1, 1]) (env'.keep ks) h' (KR Q) | none => den pg fn.ntmps kp (C [1, 1, 1, 1, 1, 1, 1, 1, 1]) env' h' (KR Q))) (KR Q)
def K1 (Q : QT) : KT := Zdp 0 (K0 Q)
def K2 (Q : QT) : KT := left kp 11 (K1 Q)
def K3 (Q : QT) (R11 : T11) : KT := rnd ((kp.find 1000011).getD []) (E11 R11) (K2 Q)
def J8 (Q : QT) (a5 : Pt) (n5 c5 : Nat) (e5 : Bool) (x3 x4 : List Nat) (h : Zaa) : Prop := Den pg fn.ntmps (C [1, 1, 1, 1, 1, 1]) [(5, .slice a5 n5 c5 e5), (3, .str x3), (4, .str x4)] h (KR Q)
def L11 (Q : QT) (x3 x4 : List Nat) (a5 : Pt) (n5 c5 : Nat) (e5 : Bool) (x9 : List Nat) (x10 : Bool) (x11 : List Nat) (a75 : Pt) (n75 c75 : Nat) (e75 : Bool) (x76 x77 : Int) (h : Zaa) : Prop := Zgw (Den pg fn.ntmps (C [1, 1, 1, 1, 1, 1, 1, 1, 0, 1, 0, 0])) ((kp.find 1000011).getD []) (K2 Q) [(3, .str x3), (4, .str x4), (5, .slice a5 n5 c5 e5), (9, .str x9), (10, .bool x10), (11, .str x11), (75, .slice a75 n75 c75 e75), (76, .int .i64 x76), (77, .int .i64 x77)] h
def Zvy (Q : QT) (x10 : Bool) (x9 x4 : List Nat) (a5 : Pt) (n5 c5 : Nat) (e5 : Bool) (x11 x3 : List Nat) (h : Zaa) : Prop := At (K1 Q) (.exit 0) [(10, .bool x10), (9, .str x9), (4, .str x4), (5, .slice a5 n5 c5 e5), (11, .str x11), (3, .str x3)] h
theorem J8i (Q : QT) (a5 : Pt) (n5 c5 : Nat) (e5 : Bool) (x3 x4 : List Nat) (h : Zaa) (ht :
 Zae pg Zeb [.slice a5 n5 c5 e5, .str x3] h fun V63 H64 =>
 Zpd V63 fun K65 => Zar K65 fun C66 Z67 => Zct (some C66) fun S68 => Zar Z67 fun C69 Z70 => Zcg (some C69) fun B71 => Zec Z70 (L11 Q x3 x4 a5 n5 c5 e5 S68 B71 [] a5 n5 c5 e5 (((n5 : Nat) : Int)) 0 H64)) : J8 Q a5 n5 c5 e5 x3 x4 h :=
  Zbe (kp := kp) (cast (by kernel_rfl) ht)
def L11t (Q : QT) (R11 : T11) (x3 x4 : List Nat) (a5 : Pt) (n5 c5 : Nat) (e5 : Bool) (x9 : List Nat) (x10 : Bool) (x11 : List Nat) (a75 : Pt) (n75 c75 : Nat) (e75 : Bool) (x76 x77 : Int) (h : Zaa) : Prop :=
 bcase (decide ((x77 : Int) < x76)) ((0 ≤ (x77 : Int) ∧ (x77 : Int) < (n75 : Nat)) ∧ (Zbb a75 fun I72 O73 => Zep (Zdd h (.ptr (some (I72, O73 + (Int.toNat x77) * 2))) 2) fun K74 => Zar K74 fun C75 Z76 => Zct (some C75) fun S77 => Zar Z76 fun C78 Z79 => Zct (some C78) fun S80 => Zec Z79 (Zev (h ++ [.cells Zag [.str [], .str []] false]) fun H81 => Zcr (Zbi H81 (.ptr (some (h.length, 0))) [.str S77, .str S80]) fun H82 => Zct (Zak H82 (.ptr (some (h.length, 0 + 0)))) fun S83 => List.length x11 + List.length S83 ≤ 9223372036854775807 ∧ (R11 x3 x4 a5 n5 c5 e5 x9 x10 (x11 ++ S83) a75 n75 c75 e75 x76 (IntKind.wrap .i64 (x77 + 1)) H82)))) (Zvy Q x10 x9 x4 a5 n5 c5 e5 x11 x3 h)
theorem Zxg (Q : QT) (R11 : T11) (x3 x4 : List Nat) (a5 : Pt) (n5 c5 : Nat) (e5 : Bool) (x9 : List Nat) (x10 : Bool) (x11 : List Nat) (a75 : Pt) (n75 c75 : Nat) (e75 : Bool) (x76 x77 : Int) (h : Zaa) (ht : L11t Q R11 x3 x4 a5 n5 c5 e5 x9 x10 x11 a75 n75 c75 e75 x76 x77 h) : Den pg fn.ntmps (C [1, 1, 1, 1, 1, 1, 1, 1, 0, 1, 0, 0]) [(3, .str x3), (4, .str x4), (5, .slice a5 n5 c5 e5), (9, .str x9), (10, .bool x10), (11, .str x11), (75, .slice a75 n75 c75 e75), (76, .int .i64 x76), (77, .int .i64 x77)] h (K3 Q R11) :=
  Zbe (kp := kp) (cast (by kernel_rfl) ht)
theorem L11ind (Q : QT) (x3 x4 : List Nat) (a5 : Pt) (n5 c5 : Nat) (e5 : Bool) (x9 : List Nat) (x10 : Bool) (a75 : Pt) (n75 c75 : Nat) (e75 : Bool) (x76 : Int) {G : Type} (J : G → List Nat → Int → Zaa → Prop) (m : G → Nat)
 (hr : ∀ (g : G) (x11 : List Nat) (x77 : Int) (h : Zaa), J g x11 x77 h → ∀ (R11 : T11), (∀ g' (x11 : List Nat) (x77 : Int) (h : Zaa), m g' < m g → J g' x11 x77 h → R11 x3 x4 a5 n5 c5 e5 x9 x10 x11 a75 n75 c75 e75 x76 x77 h) → L11t Q R11 x3 x4 a5 n5 c5 e5 x9 x10 x11 a75 n75 c75 e75 x76 x77 h)
 (g : G) (x11 : List Nat) (x77 : Int) (h : Zaa) (hj : J g x11 x77 h) : L11 Q x3 x4 a5 n5 c5 e5 x9 x10 x11 a75 n75 c75 e75 x76 x77 h := by
  refine Zgw.inv2 (fun g => E11 fun x3' x4' a5' n5' c5' e5' x9' x10' x11 a75' n75' c75' e75' x76' x77 h => x3 = x3' ∧ x4 = x4' ∧ a5 = a5' ∧ n5 = n5' ∧ c5 = c5' ∧ e5 = e5' ∧ x9 = x9' ∧ x10 = x10' ∧ a75 = a75' ∧ n75 = n75' ∧ c75 = c75' ∧ e75 = e75' ∧ x76 = x76' ∧ J g x11 x77 h) (fun g => E11 fun x3' x4' a5' n5' c5' e5' x9' x10' x11 a75' n75' c75' e75' x76' x77 h => x3 = x3' ∧ x4 = x4' ∧ a5 = a5' ∧ n5 = n5' ∧ c5 = c5' ∧ e5 = e5' ∧ x9 = x9' ∧ x10 = x10' ∧ a75 = a75' ∧ n75 = n75' ∧ c75 = c75' ∧ e75 = e75' ∧ x76 = x76' ∧ ∃ g', m g' < m g ∧ J g' x11 x77 h) m ?_ ?_ g ⟨rfl, rfl, rfl, rfl, rfl, rfl, rfl, rfl, rfl, rfl, rfl, rfl, rfl, hj⟩
  · intro g env h hi
    obtain ⟨x3', x4', a5', n5', c5', e5', x9', x10', x11, a75', n75', c75', e75', x76', x77, rfl, rfl, rfl, rfl, rfl, rfl, rfl, rfl, rfl, rfl, rfl, rfl, rfl, rfl, hj⟩ := Zlx hi
    exact Zxg Q _ x3 x4 a5 n5 c5 e5 x9 x10 x11 a75 n75 c75 e75 x76 x77 h (hr g x11 x77 h hj (fun x3' x4' a5' n5' c5' e5' x9' x10' x11 a75' n75' c75' e75' x76' x77 h => x3 = x3' ∧ x4 = x4' ∧ a5 = a5' ∧ n5 = n5' ∧ c5 = c5' ∧ e5 = e5' ∧ x9 = x9' ∧ x10 = x10' ∧ a75 = a75' ∧ n75 = n75' ∧ c75 = c75' ∧ e75 = e75' ∧ x76 = x76' ∧ ∃ g', m g' < m g ∧ J g' x11 x77 h) fun g' x11 x77 h hlt hj => ⟨rfl, rfl, rfl, rfl, rfl, rfl, rfl, rfl, rfl, rfl, rfl, rfl, rfl, g', hlt, hj⟩)
  · intro g env h hi
    obtain ⟨x3', x4', a5', n5', c5', e5', x9', x10', x11, a75', n75', c75', e75', x76', x77, rfl, rfl, rfl, rfl, rfl, rfl, rfl, rfl, rfl, rfl, rfl, rfl, rfl, rfl, g', hlt, hj⟩ := Zlx hi
    exact ⟨g', hlt, rfl, rfl, rfl, rfl, rfl, rfl, rfl, rfl, rfl, rfl, rfl, rfl, rfl, hj⟩
theorem A11x0i (Q : QT) (x10 : Bool) (x9 x4 : List Nat) (a5 : Pt) (n5 c5 : Nat) (e5 : Bool) (x11 x3 : List Nat) (h : Zaa) (ht :
 bcase x10 (bcase (decide (x9 = x4)) (Zae pg Zcz [.slice a5 n5 c5 e5] h fun V84 H85 =>
 Zcg (some V84) fun B86 => bcase B86 (Zae pg Zhl [.str x3] H85 fun V87 H88 =>
 Zct (some V87) fun S89 => bcase (decide (x11 = S89)) (Zae pg Zft [.str x3] H88 fun V90 H91 =>
 Zck .i64 (some V90) fun X92 => Zae pg Zft [.str x4] H91 fun V93 H94 =>
 Zck .i64 (some V93) fun X95 => Q (.bool (decide ((X92 : Int) ≤ X95))) H94) (Q (.bool false) H88)) (Q (.bool false) H85)) (Q (.bool false) h)) (Q (.bool false) h)) : Zvy Q x10 x9 x4 a5 n5 c5 e5 x11 x3 h :=
  At.mk (cast (by kernel_rfl) ht)
theorem call (a0 : Pt) (n0 c0 : Nat) (e0 : Bool) (h : Zaa) (Q : QT) (ht :
 bcase (decide (((((n0 : Nat) : Int)) : Int) > 1048576)) (Q (.bool true) h) (Zae pg Zea [.slice a0 n0 c0 e0] h fun V0 H1 =>
 Zpd V0 fun K2 => Zar K2 fun C3 Z4 => Zct (some C3) fun S5 => Zar Z4 fun C6 Z7 => Zct (some C6) fun S8 => Zec Z7 (Zae pg Zeh [.str S5, .str S8] H1 fun V9 H10 =>
 Zpd V9 fun K11 => Zar K11 fun C12 Z13 => xSl (some C12) fun A14 N15 C16 E17 => Zar Z13 fun C18 Z19 => Zcg (some C18) fun B20 => Zec Z19 (Zae pg Zfm [.str S5, .str S8] H10 fun V21 H22 =>
 Zpd V21 fun K23 => Zar K23 fun C24 Z25 => xSl (some C24) fun A26 N27 C28 E29 => Zar Z25 fun C30 Z31 => Zcg (some C30) fun B32 => Zec Z31 (Zae pg Zca [.slice A14 N15 C16 E17, .slice A26 N27 C28 E29] H22 fun V33 H34 =>
 Zcg (some V33) fun B35 => bcase (!B35) (Zae pg Zca [.slice A14 N15 C16 E17, .slice A26 N27 C28 E29] H34 fun V36 H37 =>
 Zcg (some V36) fun B38 => bcase B38 (bcase (B20 == B32) (Zae pg Zcd [.str S5, .str S8] H37 fun V39 H40 =>
 Zcg (some V39) fun B41 => Q (.bool (B41 == B20)) H40) (Q (.bool false) H37)) (Q (.bool false) H37)) (bcase (!(B20 == B32)) (Zae pg Zca [.slice A14 N15 C16 E17, .slice A26 N27 C28 E29] H34 fun V42 H43 =>
 Zcg (some V42) fun B44 => bcase B44 (bcase (B20 == B32) (Zae pg Zcd [.str S5, .str S8] H43 fun V45 H46 =>
 Zcg (some V45) fun B47 => Q (.bool (B47 == B20)) H46) (Q (.bool false) H43)) (Q (.bool false) H43)) (Zae pg Zcd [.str S5, .str S8] H34 fun V48 H49 =>
 Zcg (some V48) fun B50 => bcase (!(B50 == B20)) (Zae pg Zca [.slice A14 N15 C16 E17, .slice A26 N27 C28 E29] H49 fun V51 H52 =>
 Zcg (some V51) fun B53 => bcase B53 (bcase (B20 == B32) (Zae pg Zcd [.str S5, .str S8] H52 fun V54 H55 =>
 Zcg (some V54) fun B56 => Q (.bool (B56 == B20)) H55) (Q (.bool false) H52)) (Q (.bool false) H52)) (bcase (!B20) (Zae pg Zca [.slice A14 N15 C16 E17, .slice A26 N27 C28 E29] H49 fun V57 H58 =>
 Zcg (some V57) fun B59 => bcase B59 (bcase (B20 == B32) (Zae pg Zcd [.str S5, .str S8] H58 fun V60 H61 =>
 Zcg (some V60) fun B62 => Q (.bool (B62 == B20)) H61) (Q (.bool false) H58)) (Q (.bool false) H58)) (J8 Q A14 N15 C16 E17 S5 S8 H49))))))))) : Zae pg Zji [.slice a0 n0 c0 e0] h Q :=
  Zae.of_body kp (c := cod fn) (fn := fn) Go.Proofs.Try.func5 (by kernel_rfl) (by kernel_rfl) (Nat.le_of_ble_eq_true (by kernel_rfl))
    (cast (by kernel_rfl) ht)
end Zdl
end Go.Sim

set_option maxRecDepth 100000
set_option linter.unusedVariables false
namespace Go.Sim
open Go Go.RowKit
namespace Zfr
noncomputable abbrev fn : Func := Go.Proofs.Try.f104
def kp : Zcv := [(4000005, [0, 1, 2])]
noncomputable def C (p : List Nat) : Code := (cod fn).sub p
def KR (Q : QT) : KT := Zic pg fn.results.toList Q
def J5 (Q : QT) (a0 : Pt) (x1 : Int) (x2 : Bool) (h : Zaa) : Prop := Den pg fn.ntmps (C [1, 1]) [(0, .ptr a0), (1, .int .i64 x1), (2, .bool x2)] h (KR Q)
theorem J5i (Q : QT) (a0 : Pt) (x1 : Int) (x2 : Bool) (h : Zaa) (ht :
 Zae pg Zay [.ptr a0, .int .i64 4] h fun V19 H20 =>
 Zck .i64 (some V19) fun X21 => bcase ((X21 : Int) == 0) (Zae pg Zcp [.ptr a0, .int .i64 (IntKind.wrap .i64 (x1 - 1)), .bool x2] H20 fun V22 H23 =>
 Zct (some V22) fun S24 => List.length ([112, 40]) + List.length S24 ≤ 9223372036854775807 ∧ (List.length (([112, 40]) ++ S24) + List.length [44] ≤ 9223372036854775807 ∧ (Zae pg Zcp [.ptr a0, .int .i64 (IntKind.wrap .i64 (x1 - 1)), .bool x2] H23 fun V25 H26 =>
 Zct (some V25) fun S27 => List.length ((([112, 40]) ++ S24) ++ [44]) + List.length S27 ≤ 9223372036854775807 ∧ (List.length (((([112, 40]) ++ S24) ++ [44]) ++ S27) + List.length [41] ≤ 9223372036854775807 ∧ (Q (.str ((((([112, 40]) ++ S24) ++ [44]) ++ S27) ++ [41])) H26))))) (bcase ((X21 : Int) == 1) (Zae pg Zcp [.ptr a0, .int .i64 (IntKind.wrap .i64 (x1 - 1)), .bool x2] H20 fun V28 H29 =>
 Zct (some V28) fun S30 => List.length ([109, 40]) + List.length S30 ≤ 9223372036854775807 ∧ (List.length (([109, 40]) ++ S30) + List.length [41] ≤ 9223372036854775807 ∧ (Q (.str ((([109, 40]) ++ S30) ++ [41])) H29))) (Zae pg Zcp [.ptr a0, .int .i64 (IntKind.wrap .i64 (x1 - 1)), .bool x2] H20 fun V31 H32 =>
 Zct (some V31) fun S33 => List.length ([108, 40]) + List.length S33 ≤ 9223372036854775807 ∧ (List.length (([108, 40]) ++ S33) + List.length [41] ≤ 9223372036854775807 ∧ (Q (.str ((([108, 40]) ++ S33) ++ [41])) H32))))) : J5 Q a0 x1 x2 h :=
  Zbe (kp := kp) (cast (by kernel_rfl) ht)
theorem call (a0 : Pt) (x1 : Int) (x2 : Bool) (h : Zaa) (Q : QT) (ht :
 bcase ((x1 : Int) == 0) (bcase x2 (Zev (h ++ [.cells Zbg [.str [105], .str [98], .str [105], .str [117]] false]) fun H0 => Zae pg Zbr [.ptr a0, .slice (some (h.length, 0)) 4 4 true] H0 fun V1 H2 =>
 Zct (some V1) fun S3 => Q (.str S3) H2) (Zev (h ++ [.cells Zbg [.str [120], .str [105], .str [121], .str [98], .str [120], .str [122], .str [117]] false]) fun H4 => Zae pg Zbr [.ptr a0, .slice (some (h.length, 0)) 7 7 true] H4 fun V5 H6 =>
 Zct (some V5) fun S7 => Q (.str S7) H6)) (Zae pg Zay [.ptr a0, .int .i64 3] h fun V8 H9 =>
 Zck .i64 (some V8) fun X10 => bcase ((X10 : Int) == 0) (bcase x2 (Zev (H9 ++ [.cells Zbg [.str [105], .str [98], .str [105], .str [117]] false]) fun H11 => Zae pg Zbr [.ptr a0, .slice (some (H9.length, 0)) 4 4 true] H11 fun V12 H13 =>
 Zct (some V12) fun S14 => Q (.str S14) H13) (Zev (H9 ++ [.cells Zbg [.str [120], .str [105], .str [121], .str [98], .str [120], .str [122], .str [117]] false]) fun H15 => Zae pg Zbr [.ptr a0, .slice (some (H9.length, 0)) 7 7 true] H15 fun V16 H17 =>
 Zct (some V16) fun S18 => Q (.str S18) H17)) (J5 Q a0 x1 x2 H9))) : Zae pg Zcp [.ptr a0, .int .i64 x1, .bool x2] h Q :=
  Zae.of_body kp (c := cod fn) (fn := fn) Go.Proofs.Try.func104 (by kernel_rfl) (by kernel_rfl) (Nat.le_of_ble_eq_true (by kernel_rfl))
    (cast (by kernel_rfl) ht)
end Zfr
namespace Zlg
noncomputable abbrev fn : Func := Go.Proofs.Try.f81
def kp : Zcv := [(2000005, [2])]
noncomputable def C (p : List Nat) : Code := (cod fn).sub p
def KR (Q : QT) : KT := Zic pg fn.results.toList Q
theorem call (a0 : Pt) (h : Zaa) (Q : QT) (ht :
 Zae pg Zay [.ptr a0, .int .i64 4] h fun V0 H1 =>
 Zck .i64 (some V0) fun X2 => Zae pg Zay [.ptr a0, .int .i64 2] H1 fun V3 H4 =>
 Zck .i64 (some V3) fun X5 => Zae pg Zcp [.ptr a0, .int .i64 X2, .bool ((X5 : Int) == 0)] H4 fun V6 H7 =>
 Zct (some V6) fun S8 => Zae pg Zay [.ptr a0, .int .i64 16] H7 fun V9 H10 =>
 Zck .i64 (some V9) fun X11 => bcase (decide ((X11 : Int) > 0)) (Q (.str S8) H10) (Zae pg Zay [.ptr a0, .int .i64 (((List.length S8 : Nat) : Int))] H10 fun V12 H13 =>
 Zck .i64 (some V12) fun X14 => (0 ≤ (0 : Int) ∧ (0 : Int) ≤ X14 ∧ (X14 : Int) ≤ (List.length S8 : Nat)) ∧ (Zev (H13 ++ [.cells Zbg [.str [], .str [40], .str [41], .str [44], .str [105], .str [113], .str [88]] false]) fun H15 => Zae pg Zbr [.ptr a0, .slice (some (H13.length, 0)) 7 7 true] H15 fun V16 H17 =>
 Zct (some V16) fun S18 => List.length (sub S8 0 X14) + List.length S18 ≤ 9223372036854775807 ∧ (Zae pg Zay [.ptr a0, .int .i64 2] H17 fun V19 H20 =>
 Zck .i64 (some V19) fun X21 => (0 ≤ (IntKind.wrap .i64 (X14 + X21) : Int) ∧ (IntKind.wrap .i64 (X14 + X21) : Int) ≤ (List.length S8 : Int) ∧ ((List.length S8 : Int) : Int) ≤ (List.length S8 : Nat)) ∧ (List.length ((sub S8 0 X14) ++ S18) + List.length (sub S8 (IntKind.wrap .i64 (X14 + X21)) ((List.length S8 : Int))) ≤ 9223372036854775807 ∧ (Q (.str (((sub S8 0 X14) ++ S18) ++ (sub S8 (IntKind.wrap .i64 (X14 + X21)) ((List.length S8 : Int))))) H20)))))) : Zae pg Zgi [.ptr a0] h Q :=
  Zae.of_body kp (c := cod fn) (fn := fn) Go.Proofs.Try.func81 (by kernel_rfl) (by kernel_rfl) (Nat.le_of_ble_eq_true (by kernel_rfl))
    (cast (by kernel_rfl) ht)
end Zlg
namespace Zet
noncomputable abbrev fn : Func := Go.Proofs.Try.f83
def kp : Zcv := [(3000006, [7, 5]), (1000006, [0, 5, 7, 19]), (2000008, [19, 7, 0, 5])]
noncomputable def C (p : List Nat) : Code := (cod fn).sub p
def KR (Q : QT) : KT := Zic pg fn.results.toList Q
abbrev T6 := Pt → Nat → Nat → Nat → Nat → Int → Zaa → Prop
def E6 (R6 : T6) (env : Env) (h : Zaa) : Prop := Zcu 0 env fun v env => Zid (some v) fun a0 => Zcu 5 env fun v env => Zid (some v) fun a => Zbb a fun i5 o5 => Zcu 7 env fun v env => Zid (some v) fun a => Zbb a fun i7 o7 => Zcu 19 env fun v env => Zhr .i64 v fun x19 => Znt env (R6 a0 i5 o5 i7 o7 x19 h)
theorem Zle {R6 : T6} {env : Env} {h : Zaa} (hi : E6 R6 env h) : ∃ a0, ∃ i5, ∃ o5, ∃ i7, ∃ o7, ∃ x19, env = [(0, .ptr a0), (5, .ptr (some (i5, o5))), (7, .ptr (some (i7, o7))), (19, .int .i64 x19)] ∧ R6 a0 i5 o5 i7 o7 x19 h := by
  unfold E6 at hi
  have hi0 := hi
  clear hi
  obtain ⟨_, _, rfl, hi1⟩ := Zad hi0
  obtain ⟨a0, rfl, hi2⟩ := Zby hi1
  obtain ⟨_, _, rfl, hi3⟩ := Zad hi2
  obtain ⟨a, rfl, hi4⟩ := Zby hi3
  obtain ⟨i5, o5, rfl, hi5⟩ := Zbt hi4
  obtain ⟨_, _, rfl, hi6⟩ := Zad hi5
  obtain ⟨a, rfl, hi7⟩ := Zby hi6
  obtain ⟨i7, o7, rfl, hi8⟩ := Zbt hi7
  obtain ⟨_, _, rfl, hi9⟩ := Zad hi8
  obtain ⟨x19, rfl, hi10⟩ := Zav hi9
  obtain ⟨rfl, hi11⟩ := Zbx hi10
  have hi := hi11
  exact ⟨a0, i5, o5, i7, o7, x19, rfl, hi⟩
def K0 (Q : QT) : KT := andThen (fun env' h' => (match kp.find 4000010 with | some ks => Den pg fn.ntmps (C [1, 1, 1, 1, 1]) (env'.keep ks) h' (KR Q) | none => den pg fn.ntmps kp (C [1, 1, 1, 1, 1]) env' h' (KR Q))) (KR Q)
def K1 (Q : QT) : KT := Zdp 0 (K0 Q)
def K2 (Q : QT) : KT := left kp 6 (K1 Q)
def K3 (Q : QT) (R6 : T6) : KT := rnd ((kp.find 1000006).getD []) (E6 R6) (K2 Q)
def L6 (Q : QT) (a0 : Pt) (i5 o5 i7 o7 : Nat) (x19 : Int) (h : Zaa) : Prop := Zgw (Den pg fn.ntmps (C [1, 1, 1, 1, 0, 1, 0, 0])) ((kp.find 1000006).getD []) (K2 Q) [(0, .ptr a0), (5, .ptr (some (i5, o5))), (7, .ptr (some (i7, o7))), (19, .int .i64 x19)] h
def Yal (Q : QT) (i7 o7 i5 o5 : Nat) (h : Zaa) : Prop := At (K1 Q) (.exit 0) [(7, .ptr (some (i7, o7))), (5, .ptr (some (i5, o5)))] h
def L6t (Q : QT) (R6 : T6) (a0 : Pt) (i5 o5 i7 o7 : Nat) (x19 : Int) (h : Zaa) : Prop :=
 bcase (decide ((x19 : Int) < 12)) (Zae pg Zay [.ptr a0, .int .i64 2] h fun V21 H22 =>
 Zck .i64 (some V21) fun X23 => Zae pg Zay [.ptr a0, .int .i64 2] H22 fun V24 H25 =>
 Zck .i64 (some V24) fun X26 => Zae pg Zcp [.ptr a0, .int .i64 X23, .bool ((X26 : Int) == 0)] H25 fun V27 H28 =>
 Zct (some V27) fun S29 => Zae pg Zdx [.str S29] H28 fun V30 H31 =>
 Zpd V30 fun K32 => Zar K32 fun C33 Z34 => Zsv C33 fun K35 => Zar K35 fun C36 Z37 => Zck .u8 (some C36) fun X38 => Zar Z37 fun C39 Z40 => xSl (some C39) fun A41 N42 C43 E44 => Zec Z40 (Zar Z34 fun C45 Z46 => Zcg (some C45) fun B47 => Zec Z46 ((0 ≤ (x19 : Int) ∧ (x19 : Int) < (12 : Nat)) ∧ (Zcr (Zbi H31 (.ptr (some (i7, o7 + (Int.toNat x19) * 2))) [.int .u8 X38, .slice A41 N42 C43 E44]) fun H48 => R6 a0 i5 o5 i7 o7 (IntKind.wrap .i64 (x19 + 1)) H48)))) (Yal Q i7 o7 i5 o5 h)
theorem Zym (Q : QT) (R6 : T6) (a0 : Pt) (i5 o5 i7 o7 : Nat) (x19 : Int) (h : Zaa) (ht : L6t Q R6 a0 i5 o5 i7 o7 x19 h) : Den pg fn.ntmps (C [1, 1, 1, 1, 0, 1, 0, 0]) [(0, .ptr a0), (5, .ptr (some (i5, o5))), (7, .ptr (some (i7, o7))), (19, .int .i64 x19)] h (K3 Q R6) :=
  Zbe (kp := kp) (cast (by kernel_rfl) ht)
theorem L6ind (Q : QT) (a0 : Pt) (i5 o5 i7 o7 : Nat) {G : Type} (J : G → Int → Zaa → Prop) (m : G → Nat)
 (hr : ∀ (g : G) (x19 : Int) (h : Zaa), J g x19 h → ∀ (R6 : T6), (∀ g' (x19 : Int) (h : Zaa), m g' < m g → J g' x19 h → R6 a0 i5 o5 i7 o7 x19 h) → L6t Q R6 a0 i5 o5 i7 o7 x19 h)
 (g : G) (x19 : Int) (h : Zaa) (hj : J g x19 h) : L6 Q a0 i5 o5 i7 o7 x19 h := by
  refine Zgw.inv2 (fun g => E6 fun a0' i5' o5' i7' o7' x19 h => a0 = a0' ∧ i5 = i5' ∧ o5 = o5' ∧ i7 = i7' ∧ o7 = o7' ∧ J g x19 h) (fun g => E6 fun a0' i5' o5' i7' o7' x19 h => a0 = a0' ∧ i5 = i5' ∧ o5 = o5' ∧ i7 = i7' ∧ o7 = o7' ∧ ∃ g', m g' < m g ∧ J g' x19 h) m ?_ ?_ g ⟨rfl, rfl, rfl, rfl, rfl, hj⟩
  · intro g env h hi
    obtain ⟨a0', i5', o5', i7', o7', x19, rfl, rfl, rfl, rfl, rfl, rfl, hj⟩ := Zle hi
    exact Zym Q _ a0 i5 o5 i7 o7 x19 h (hr g x19 h hj (fun a0' i5' o5' i7' o7' x19 h => a0 = a0' ∧ i5 = i5' ∧ o5 = o5' ∧ i7 = i7' ∧ o7 = o7' ∧ ∃ g', m g' < m g ∧ J g' x19 h) fun g' x19 h hlt hj => ⟨rfl, rfl, rfl, rfl, rfl, g', hlt, hj⟩)
  · intro g env h hi
    obtain ⟨a0', i5', o5', i7', o7', x19, rfl, rfl, rfl, rfl, rfl, rfl, g', hlt, hj⟩ := Zle hi
    exact ⟨g', hlt, rfl, rfl, rfl, rfl, rfl, hj⟩
theorem A6x0i (Q : QT) (i7 o7 i5 o5 : Nat) (h : Zaa) (ht :
 Zep (Zdd h (.ptr (some (i5, o5))) 2) fun K49 => Zar K49 fun C50 Z51 => Zck .u8 (some C50) fun X52 => Zar Z51 fun C53 Z54 => xSl (some C53) fun A55 N56 C57 E58 => Zec Z54 (Zae pg Zgq [.ptr (some (i7, o7)), .agg [.int .u8 X52, .slice A55 N56 C57 E58]] h fun V59 H60 =>
 Zsv V59 fun K61 => Zar K61 fun C62 Z63 => Zck .u8 (some C62) fun X64 => Zar Z63 fun C65 Z66 => xSl (some C65) fun A67 N68 C69 E70 => Zec Z66 (Zev (H60 ++ [.cells Zab [.int .u8 0, .slice none 0 0 true] false]) fun H71 => Zcr (Zbi H71 (.ptr (some (H60.length, 0))) [.int .u8 X64, .slice A67 N68 C69 E70]) fun H72 => Zep (Zdd H72 (.ptr (some (H60.length, 0))) 2) fun K73 => Zar K73 fun C74 Z75 => Zck .u8 (some C74) fun X76 => Zar Z75 fun C77 Z78 => xSl (some C77) fun A79 N80 C81 E82 => Zec Z78 (Zae pg Zdv [.agg [.int .u8 X76, .slice A79 N80 C81 E82]] H72 fun V83 H84 =>
 Zck .i64 (some V83) fun X85 => bcase (decide ((X85 : Int) > 60)) (Q (.str [105]) H84) (Zep (Zdd H84 (.ptr (some (H60.length, 0))) 2) fun K86 => Zar K86 fun C87 Z88 => Zck .u8 (some C87) fun X89 => Zar Z88 fun C90 Z91 => xSl (some C90) fun A92 N93 C94 E95 => Zec Z91 (Zae pg Zde [.agg [.int .u8 X89, .slice A92 N93 C94 E95]] H84 fun V96 H97 =>
 Zct (some V96) fun S98 => Q (.str S98) H97)))))) : Yal Q i7 o7 i5 o5 h :=
  At.mk (cast (by kernel_rfl) ht)
theorem call (a0 : Pt) (x1 : List Nat) (h : Zaa) (Q : QT) (ht :
 Zae pg Zdx [.str x1] h fun V0 H1 =>
 Zpd V0 fun K2 => Zar K2 fun C3 Z4 => Zsv C3 fun K5 => Zar K5 fun C6 Z7 => Zck .u8 (some C6) fun X8 => Zar Z7 fun C9 Z10 => xSl (some C9) fun A11 N12 C13 E14 => Zec Z10 (Zar Z4 fun C15 Z16 => Zcg (some C15) fun B17 => Zec Z16 (Zev (H1 ++ [.cells Zab [.int .u8 0, .slice none 0 0 true] false]) fun H18 => Zcr (Zbi H18 (.ptr (some (H1.length, 0))) [.int .u8 X8, .slice A11 N12 C13 E14]) fun H19 => bcase (!B17) (Q (.str [105]) H19) (Zev (H19 ++ [.cells Zbh [.int .u8 0, .slice none 0 0 true, .int .u8 0, .slice none 0 0 true, .int .u8 0, .slice none 0 0 true, .int .u8 0, .slice none 0 0 true, .int .u8 0, .slice none 0 0 true, .int .u8 0, .slice none 0 0 true, .int .u8 0, .slice none 0 0 true, .int .u8 0, .slice none 0 0 true, .int .u8 0, .slice none 0 0 true, .int .u8 0, .slice none 0 0 true, .int .u8 0, .slice none 0 0 true, .int .u8 0, .slice none 0 0 true] false]) fun H20 => L6 Q a0 H1.length 0 H19.length 0 0 H20)))) : Zae pg Zfs [.ptr a0, .str x1] h Q :=
  Zae.of_body kp (c := cod fn) (fn := fn) Go.Proofs.Try.func83 (by kernel_rfl) (by kernel_rfl) (Nat.le_of_ble_eq_true (by kernel_rfl))
    (cast (by kernel_rfl) ht)
end Zet
namespace Zld
noncomputable abbrev fn : Func := Go.Proofs.Try.f52
def kp : Zcv := []
noncomputable def C (p : List Nat) : Code := (cod fn).sub p
def KR (Q : QT) : KT := Zic pg fn.results.toList Q
theorem call (a0 : Pt) (h : Zaa) (Q : QT) (ht :
 Zae pg Zgi [.ptr a0] h fun V0 H1 =>
 Zct (some V0) fun S2 => Zae pg Zay [.ptr a0, .int .i64 3] H1 fun V3 H4 =>
 Zck .i64 (some V3) fun X5 => bcase ((X5 : Int) == 0) (Zae pg Zfs [.ptr a0, .str S2] H4 fun V6 H7 =>
 Zct (some V6) fun S8 => Q (.tup [.str S2, .str S8]) H7) (bcase ((X5 : Int) == 1) (Zae pg Zfs [.ptr a0, .str S2] H4 fun V9 H10 =>
 Zct (some V9) fun S11 => Q (.tup [.str S11, .str S2]) H10) (Zae pg Zgi [.ptr a0] H4 fun V12 H13 =>
 Zct (some V12) fun S14 => Q (.tup [.str S2, .str S14]) H13))) : Zae pg Zig [.ptr a0] h Q :=
  Zae.of_body kp (c := cod fn) (fn := fn) Go.Proofs.Try.func52 (by kernel_rfl) (by kernel_rfl) (Nat.le_of_ble_eq_true (by kernel_rfl))
    (cast (by kernel_rfl) ht)
end Zld
namespace Zfp
noncomputable abbrev fn : Func := Go.Proofs.Try.f19
def kp : Zcv := []
noncomputable def C (p : List Nat) : Code := (cod fn).sub p
def KR (Q : QT) : KT := Zic pg fn.results.toList Q
theorem call (a0 : Pt) (n0 c0 : Nat) (e0 : Bool) (h : Zaa) (Q : QT) (ht :
 Zae pg Zgv [.slice a0 n0 c0 e0] h fun V0 H1 =>
 Zid (some V0) fun A2 => Zae pg Zig [.ptr A2] H1 fun V3 H4 =>
 Zpd V3 fun K5 => Zar K5 fun C6 Z7 => Zct (some C6) fun S8 => Zar Z7 fun C9 Z10 => Zct (some C9) fun S11 => Zec Z10 (Q (.tup [.str S8, .str S11]) H4)) : Zae pg Zea [.slice a0 n0 c0 e0] h Q :=
  Zae.of_body kp (c := cod fn) (fn := fn) Go.Proofs.Try.func19 (by kernel_rfl) (by kernel_rfl) (Nat.le_of_ble_eq_true (by kernel_rfl))
    (cast (by kernel_rfl) ht)
end Zfp
end Go.Sim

set_option maxRecDepth 100000
set_option linter.unusedVariables false
namespace Go.Sim
open Go Go.RowKit
namespace Zff
noncomputable abbrev fn : Func := Go.Proofs.Try.f53
def kp : Zcv := [(4000003, [0])]
noncomputable def C (p : List Nat) : Code := (cod fn).sub p
def KR (Q : QT) : KT := Zic pg fn.results.toList Q
def J3 (Q : QT) (a0 : Pt) (n0 c0 : Nat) (e0 : Bool) (h : Zaa) : Prop := Den pg fn.ntmps (C [1, 1]) [(0, .slice a0 n0 c0 e0)] h (KR Q)
theorem J3i (Q : QT) (a0 : Pt) (n0 c0 : Nat) (e0 : Bool) (h : Zaa) (ht :
 Zev (h ++ [.cells Zgn [.slice a0 n0 c0 e0, .int .i64 0] false]) fun H5 => Q (.ptr (some (h.length, 0))) H5) : J3 Q a0 n0 c0 e0 h :=
  Zbe (kp := kp) (cast (by kernel_rfl) ht)
theorem call (a0 : Pt) (n0 c0 : Nat) (e0 : Bool) (h : Zaa) (Q : QT) (ht :
 bcase (decide (((((n0 : Nat) : Int)) : Int) > 2000)) (Zjj a0 n0 c0 e0 1 none (some (.int .i64 2000)) none fun V0 => xSl (some V0) fun A1 N2 C3 E4 => J3 Q A1 N2 C3 E4 h) (J3 Q a0 n0 c0 e0 h)) : Zae pg Zgv [.slice a0 n0 c0 e0] h Q :=
  Zae.of_body kp (c := cod fn) (fn := fn) Go.Proofs.Try.func53 (by kernel_rfl) (by kernel_rfl) (Nat.le_of_ble_eq_true (by kernel_rfl))
    (cast (by kernel_rfl) ht)
end Zff
namespace Zfa
noncomputable abbrev fn : Func := Go.Proofs.Try.f82
def kp : Zcv := [(4000004, [0, 1]), (2000007, [6, 1])]
noncomputable def C (p : List Nat) : Code := (cod fn).sub p
def KR (Q : QT) : KT := Zic pg fn.results.toList Q
def J4 (Q : QT) (a0 : Pt) (x1 : Int) (h : Zaa) : Prop := Den pg fn.ntmps (C [1, 1, 1]) [(0, .ptr a0), (1, .int .i64 x1)] h (KR Q)
theorem J4i (Q : QT) (a0 : Pt) (x1 : Int) (h : Zaa) (ht :
 Zbb a0 fun I12 O13 => Zck .i64 (Zak h (.ptr (some (I12, O13 + 1)))) fun X14 => Zbb a0 fun I15 O16 => xSl (Zak h (.ptr (some (I15, O16 + 0)))) fun A17 N18 C19 E20 => bcase (decide (((IntKind.wrap .i64 (X14 - 1)) : Int) < (((N18 : Nat) : Int)))) (Zbb a0 fun I21 O22 => xSl (Zak h (.ptr (some (I21, O22 + 0)))) fun A23 N24 C25 E26 => (0 ≤ (IntKind.wrap .i64 (X14 - 1) : Int) ∧ (IntKind.wrap .i64 (X14 - 1) : Int) < (N24 : Nat)) ∧ (Zbb A23 fun I27 O28 => Zck .u8 (Zak h (.ptr (some (I27, O28 + (Int.toNat (IntKind.wrap .i64 (X14 - 1))) * 1)))) fun X29 => (x1 : Int) ≠ 0 ∧ (Q (.int .i64 (Int.tmod (IntKind.wrap .i64 (X29)) x1)) h))) (Zbb a0 fun I30 O31 => Zbb a0 fun I32 O33 => Zbb a0 fun I34 O35 => Zbb a0 fun I36 O37 => Zbb a0 fun I38 O39 => xSl (Zak h (.ptr (some (I30, O31 + 0)))) fun A40 N41 C42 E43 => xSl (Zak h (.ptr (some (I32, O33 + 0)))) fun A44 N45 C46 E47 => ((((N45 : Nat) : Int)) : Int) ≠ 0 ∧ ((0 ≤ (Int.tmod (IntKind.wrap .i64 (X14 - 1)) (((N45 : Nat) : Int)) : Int) ∧ (Int.tmod (IntKind.wrap .i64 (X14 - 1)) (((N45 : Nat) : Int)) : Int) < (N41 : Nat)) ∧ (Zbb A40 fun I48 O49 => Zck .u8 (Zak h (.ptr (some (I48, O49 + (Int.toNat (Int.tmod (IntKind.wrap .i64 (X14 - 1)) (((N45 : Nat) : Int)))) * 1)))) fun X50 => xSl (Zak h (.ptr (some (I34, O35 + 0)))) fun A51 N52 C53 E54 => xSl (Zak h (.ptr (some (I36, O37 + 0)))) fun A55 N56 C57 E58 => ((((N56 : Nat) : Int)) : Int) ≠ 0 ∧ ((0 ≤ (Int.tmod (IntKind.wrap .i64 ((IntKind.wrap .i64 ((IntKind.wrap .i64 (X14 - 1)) * 7)) + 3)) (((N56 : Nat) : Int)) : Int) ∧ (Int.tmod (IntKind.wrap .i64 ((IntKind.wrap .i64 ((IntKind.wrap .i64 (X14 - 1)) * 7)) + 3)) (((N56 : Nat) : Int)) : Int) < (N52 : Nat)) ∧ (Zbb A51 fun I59 O60 => Zck .u8 (Zak h (.ptr (some (I59, O60 + (Int.toNat (Int.tmod (IntKind.wrap .i64 ((IntKind.wrap .i64 ((IntKind.wrap .i64 (X14 - 1)) * 7)) + 3)) (((N56 : Nat) : Int)))) * 1)))) fun X61 => xSl (Zak h (.ptr (some (I38, O39 + 0)))) fun A62 N63 C64 E65 => (Zak h (.ptr (some (I59, O60 + (Int.toNat (Int.tmod (IntKind.wrap .i64 ((IntKind.wrap .i64 ((IntKind.wrap .i64 (X14 - 1)) * 7)) + 3)) (((N56 : Nat) : Int)))) * 1))) = Zak h (.ptr (some (I59, O60 + (Int.toNat (Int.tmod (IntKind.wrap .i64 ((IntKind.wrap .i64 ((IntKind.wrap .i64 (X14 - 1)) * 7)) + 3)) (((N56 : Nat) : Int)))) * 1)))) ∧ (Zak h (.ptr (some (I36, O37 + 0))) = Zak h (.ptr (some (I36, O37 + 0)))) ∧ (Zak h (.ptr (some (I34, O35 + 0))) = Zak h (.ptr (some (I34, O35 + 0)))) ∧ (Zak h (.ptr (some (I48, O49 + (Int.toNat (Int.tmod (IntKind.wrap .i64 (X14 - 1)) (((N45 : Nat) : Int)))) * 1))) = Zak h (.ptr (some (I48, O49 + (Int.toNat (Int.tmod (IntKind.wrap .i64 (X14 - 1)) (((N45 : Nat) : Int)))) * 1)))) ∧ (Zak h (.ptr (some (I32, O33 + 0))) = Zak h (.ptr (some (I32, O33 + 0)))) ∧ (Zak h (.ptr (some (I30, O31 + 0))) = Zak h (.ptr (some (I30, O31 + 0)))) ∧ ((((N63 : Nat) : Int)) : Int) ≠ 0 ∧ ((64 : Int) ≠ 0 ∧ ((x1 : Int) ≠ 0 ∧ (Q (.int .i64 (Int.tmod (IntKind.wrap .i64 (BitVec.ofInt (IntKind.bits .i64) (IntKind.wrap .i64 ((IntKind.wrap .i64 ((IntKind.wrap .i64 ((IntKind.wrap .i64 ((IntKind.wrap .i64 (X50)) * 131)) + (IntKind.wrap .i64 ((IntKind.wrap .i64 (X61)) * 1117)))) + (IntKind.wrap .i64 ((IntKind.wrap .i64 (X14 - 1)) * 29)))) + (IntKind.wrap .i64 ((IntKind.wrap .i64 (Int.tdiv (IntKind.wrap .i64 (X14 - 1)) (((N63 : Nat) : Int)))) * 53)))) ^^^ BitVec.ofInt (IntKind.bits .i64) (IntKind.wrap .i64 (Int.tdiv (IntKind.wrap .i64 ((IntKind.wrap .i64 ((IntKind.wrap .i64 ((IntKind.wrap .i64 ((IntKind.wrap .i64 (X50)) * 131)) + (IntKind.wrap .i64 ((IntKind.wrap .i64 (X61)) * 1117)))) + (IntKind.wrap .i64 ((IntKind.wrap .i64 (X14 - 1)) * 29)))) + (IntKind.wrap .i64 ((IntKind.wrap .i64 (Int.tdiv (IntKind.wrap .i64 (X14 - 1)) (((N63 : Nat) : Int)))) * 53)))) 64))).toNat) x1)) h))))))))) : J4 Q a0 x1 h :=
  Zbe (kp := kp) (cast (by kernel_rfl) ht)
theorem call (a0 : Pt) (x1 : Int) (h : Zaa) (Q : QT) (ht :
 Zbb a0 fun I0 O1 => Zck .i64 (Zak h (.ptr (some (I0, O1 + 1)))) fun X2 => Zbb a0 fun I3 O4 => Zcr (Zbi h (.ptr (some (I3, O4 + 1))) [.int .i64 (IntKind.wrap .i64 (X2 + 1))]) fun H5 => bcase (decide ((x1 : Int) < 1)) (Q (.int .i64 0) H5) (Zbb a0 fun I6 O7 => xSl (Zak H5 (.ptr (some (I6, O7 + 0)))) fun A8 N9 C10 E11 => bcase ((((N9 : Nat) : Int) : Int) == 0) (Q (.int .i64 0) H5) (J4 Q a0 x1 H5))) : Zae pg Zay [.ptr a0, .int .i64 x1] h Q :=
  Zae.of_body kp (c := cod fn) (fn := fn) Go.Proofs.Try.func82 (by kernel_rfl) (by kernel_rfl) (Nat.le_of_ble_eq_true (by kernel_rfl))
    (cast (by kernel_rfl) ht)
end Zfa
namespace Zif
noncomputable abbrev fn : Func := Go.Proofs.Try.f105
def kp : Zcv := []
noncomputable def C (p : List Nat) : Code := (cod fn).sub p
def KR (Q : QT) : KT := Zic pg fn.results.toList Q
theorem call (a0 a1 : Pt) (n1 c1 : Nat) (e1 : Bool) (h : Zaa) (Q : QT) (ht :
 Zae pg Zay [.ptr a0, .int .i64 (((n1 : Nat) : Int))] h fun V0 H1 =>
 Zck .i64 (some V0) fun X2 => (0 ≤ (X2 : Int) ∧ (X2 : Int) < (n1 : Nat)) ∧ (Zbb a1 fun I3 O4 => Zct (Zak H1 (.ptr (some (I3, O4 + (Int.toNat X2) * 1)))) fun S5 => Q (.str S5) H1)) : Zae pg Zbr [.ptr a0, .slice a1 n1 c1 e1] h Q :=
  Zae.of_body kp (c := cod fn) (fn := fn) Go.Proofs.Try.func105 (by kernel_rfl) (by kernel_rfl) (Nat.le_of_ble_eq_true (by kernel_rfl))
    (cast (by kernel_rfl) ht)
end Zif
end Go.Sim

set_option maxRecDepth 100000
set_option linter.unusedVariables false
namespace Go.Sim
open Go Go.RowKit
namespace Zcs
noncomputable abbrev fn : Func := Go.Proofs.Try.f91
def kp : Zcv := [(3000003, [1, 3]), (1000003, [1, 3, 7, 8, 9]), (4000009, [3])]
noncomputable def C (p : List Nat) : Code := (cod fn).sub p
def KR (Q : QT) : KT := Zic pg fn.results.toList Q
abbrev T3 := Nat → Nat → Int → Pt → Nat → Nat → Bool → Int → Int → Zaa → Prop
def E3 (R3 : T3) (env : Env) (h : Zaa) : Prop := Zcu 1 env fun v env => Zid (some v) fun a => Zbb a fun i1 o1 => Zcu 3 env fun v env => Zhr .i64 v fun x3 => Zcu 7 env fun v env => xSl (some v) fun a7 n7 c7 e7 => Zcu 8 env fun v env => Zhr .i64 v fun x8 => Zcu 9 env fun v env => Zhr .i64 v fun x9 => Znt env (R3 i1 o1 x3 a7 n7 c7 e7 x8 x9 h)
theorem Zgk {R3 : T3} {env : Env} {h : Zaa} (hi : E3 R3 env h) : ∃ i1, ∃ o1, ∃ x3, ∃ a7, ∃ n7, ∃ c7, ∃ e7, ∃ x8, ∃ x9, env = [(1, .ptr (some (i1, o1))), (3, .int .i64 x3), (7, .slice a7 n7 c7 e7), (8, .int .i64 x8), (9, .int .i64 x9)] ∧ R3 i1 o1 x3 a7 n7 c7 e7 x8 x9 h := by
  unfold E3 at hi
  have hi0 := hi
  clear hi
  obtain ⟨_, _, rfl, hi1⟩ := Zad hi0
  obtain ⟨a, rfl, hi2⟩ := Zby hi1
  obtain ⟨i1, o1, rfl, hi3⟩ := Zbt hi2
  obtain ⟨_, _, rfl, hi4⟩ := Zad hi3
  obtain ⟨x3, rfl, hi5⟩ := Zav hi4
  obtain ⟨_, _, rfl, hi6⟩ := Zad hi5
  obtain ⟨a7, n7, c7, e7, rfl, hi7⟩ := Zci hi6
  obtain ⟨_, _, rfl, hi8⟩ := Zad hi7
  obtain ⟨x8, rfl, hi9⟩ := Zav hi8
  obtain ⟨_, _, rfl, hi10⟩ := Zad hi9
  obtain ⟨x9, rfl, hi11⟩ := Zav hi10
  obtain ⟨rfl, hi12⟩ := Zbx hi11
  have hi := hi12
  exact ⟨i1, o1, x3, a7, n7, c7, e7, x8, x9, rfl, hi⟩
def K0 (Q : QT) : KT := andThen (fun env' h' => (match kp.find 4000007 with | some ks => Den pg fn.ntmps (C [1, 1, 1]) (env'.keep ks) h' (KR Q) | none => den pg fn.ntmps kp (C [1, 1, 1]) env' h' (KR Q))) (KR Q)
def K1 (Q : QT) : KT := Zdp 0 (K0 Q)
def K2 (Q : QT) : KT := left kp 3 (K1 Q)
def K3 (Q : QT) (R3 : T3) : KT := rnd ((kp.find 1000003).getD []) (E3 R3) (K2 Q)
def L3 (Q : QT) (i1 o1 : Nat) (x3 : Int) (a7 : Pt) (n7 c7 : Nat) (e7 : Bool) (x8 x9 : Int) (h : Zaa) : Prop := Zgw (Den pg fn.ntmps (C [1, 1, 0, 1, 0, 0])) ((kp.find 1000003).getD []) (K2 Q) [(1, .ptr (some (i1, o1))), (3, .int .i64 x3), (7, .slice a7 n7 c7 e7), (8, .int .i64 x8), (9, .int .i64 x9)] h
def Ztc (Q : QT) (i1 o1 : Nat) (x3 : Int) (h : Zaa) : Prop := At (K1 Q) (.exit 0) [(1, .ptr (some (i1, o1))), (3, .int .i64 x3)] h
def J9 (Q : QT) (x3 : Int) (h : Zaa) : Prop := Den pg fn.ntmps (C [1, 1, 1, 1]) [(3, .int .i64 x3)] h (KR Q)
def L3t (Q : QT) (R3 : T3) (i1 o1 : Nat) (x3 : Int) (a7 : Pt) (n7 c7 : Nat) (e7 : Bool) (x8 x9 : Int) (h : Zaa) : Prop :=
 bcase (decide ((x9 : Int) < x8)) ((0 ≤ (x9 : Int) ∧ (x9 : Int) < (n7 : Nat)) ∧ (Zbb a7 fun I5 O6 => Zep (Zdd h (.ptr (some (I5, O6 + (Int.toNat x9) * 2))) 2) fun K7 => Zar K7 fun C8 Z9 => Zck .u8 (some C8) fun X10 => Zar Z9 fun C11 Z12 => xSl (some C11) fun A13 N14 C15 E16 => Zec Z12 (Zev (h ++ [.cells Zab [.int .u8 0, .slice none 0 0 true] false]) fun H17 => Zcr (Zbi H17 (.ptr (some (h.length, 0))) [.int .u8 X10, .slice A13 N14 C15 E16]) fun H18 => Zep (Zdd H18 (.ptr (some (h.length, 0))) 2) fun K19 => Zar K19 fun C20 Z21 => Zck .u8 (some C20) fun X22 => Zar Z21 fun C23 Z24 => xSl (some C23) fun A25 N26 C27 E28 => Zec Z24 (Zae pg Zdv [.agg [.int .u8 X22, .slice A25 N26 C27 E28]] H18 fun V29 H30 =>
 Zck .i64 (some V29) fun X31 => R3 i1 o1 (IntKind.wrap .i64 ((IntKind.wrap .i64 (x3 + 1)) + X31)) a7 n7 c7 e7 x8 (IntKind.wrap .i64 (x9 + 1)) H30)))) (Ztc Q i1 o1 x3 h)
theorem Zpa (Q : QT) (R3 : T3) (i1 o1 : Nat) (x3 : Int) (a7 : Pt) (n7 c7 : Nat) (e7 : Bool) (x8 x9 : Int) (h : Zaa) (ht : L3t Q R3 i1 o1 x3 a7 n7 c7 e7 x8 x9 h) : Den pg fn.ntmps (C [1, 1, 0, 1, 0, 0]) [(1, .ptr (some (i1, o1))), (3, .int .i64 x3), (7, .slice a7 n7 c7 e7), (8, .int .i64 x8), (9, .int .i64 x9)] h (K3 Q R3) :=
  Zbe (kp := kp) (cast (by kernel_rfl) ht)
theorem L3ind (Q : QT) (i1 o1 : Nat) (a7 : Pt) (n7 c7 : Nat) (e7 : Bool) (x8 : Int) {G : Type} (J : G → Int → Int → Zaa → Prop) (m : G → Nat)
 (hr : ∀ (g : G) (x3 x9 : Int) (h : Zaa), J g x3 x9 h → ∀ (R3 : T3), (∀ g' (x3 x9 : Int) (h : Zaa), m g' < m g → J g' x3 x9 h → R3 i1 o1 x3 a7 n7 c7 e7 x8 x9 h) → L3t Q R3 i1 o1 x3 a7 n7 c7 e7 x8 x9 h)
 (g : G) (x3 x9 : Int) (h : Zaa) (hj : J g x3 x9 h) : L3 Q i1 o1 x3 a7 n7 c7 e7 x8 x9 h := by
  refine Zgw.inv2 (fun g => E3 fun i1' o1' x3 a7' n7' c7' e7' x8' x9 h => i1 = i1' ∧ o1 = o1' ∧ a7 = a7' ∧ n7 = n7' ∧ c7 = c7' ∧ e7 = e7' ∧ x8 = x8' ∧ J g x3 x9 h) (fun g => E3 fun i1' o1' x3 a7' n7' c7' e7' x8' x9 h => i1 = i1' ∧ o1 = o1' ∧ a7 = a7' ∧ n7 = n7' ∧ c7 = c7' ∧ e7 = e7' ∧ x8 = x8' ∧ ∃ g', m g' < m g ∧ J g' x3 x9 h) m ?_ ?_ g ⟨rfl, rfl, rfl, rfl, rfl, rfl, rfl, hj⟩
  · intro g env h hi
    obtain ⟨i1', o1', x3, a7', n7', c7', e7', x8', x9, rfl, rfl, rfl, rfl, rfl, rfl, rfl, rfl, hj⟩ := Zgk hi
    exact Zpa Q _ i1 o1 x3 a7 n7 c7 e7 x8 x9 h (hr g x3 x9 h hj (fun i1' o1' x3 a7' n7' c7' e7' x8' x9 h => i1 = i1' ∧ o1 = o1' ∧ a7 = a7' ∧ n7 = n7' ∧ c7 = c7' ∧ e7 = e7' ∧ x8 = x8' ∧ ∃ g', m g' < m g ∧ J g' x3 x9 h) fun g' x3 x9 h hlt hj => ⟨rfl, rfl, rfl, rfl, rfl, rfl, rfl, g', hlt, hj⟩)
  · intro g env h hi
    obtain ⟨i1', o1', x3, a7', n7', c7', e7', x8', x9, rfl, rfl, rfl, rfl, rfl, rfl, rfl, rfl, g', hlt, hj⟩ := Zgk hi
    exact ⟨g', hlt, rfl, rfl, rfl, rfl, rfl, rfl, rfl, hj⟩
theorem A3x0i (Q : QT) (i1 o1 : Nat) (x3 : Int) (h : Zaa) (ht :
 xSl (Zak h (.ptr (some (i1, o1 + 1)))) fun A32 N33 C34 E35 => bcase (decide (((((N33 : Nat) : Int)) : Int) > 0)) (J9 Q (IntKind.wrap .i64 (x3 + 1)) h) (J9 Q x3 h)) : Ztc Q i1 o1 x3 h :=
  At.mk (cast (by kernel_rfl) ht)
theorem J9i (Q : QT) (x3 : Int) (h : Zaa) (ht :
 Q (.int .i64 x3) h) : J9 Q x3 h :=
  Zbe (kp := kp) (cast (by kernel_rfl) ht)
theorem call (x0x0 : Int) (a0x1 : Pt) (n0x1 c0x1 : Nat) (e0x1 : Bool) (h : Zaa) (Q : QT) (ht :
 Zev (h ++ [.cells Zab [.int .u8 x0x0, .slice a0x1 n0x1 c0x1 e0x1] false]) fun H0 => xSl (Zak H0 (.ptr (some (h.length, 0 + 1)))) fun A1 N2 C3 E4 => L3 Q h.length 0 1 A1 N2 C3 E4 (((N2 : Nat) : Int)) 0 H0) : Zae pg Zdv [.agg [.int .u8 x0x0, .slice a0x1 n0x1 c0x1 e0x1]] h Q :=
  Zae.of_body kp (c := cod fn) (fn := fn) Go.Proofs.Try.func91 (by kernel_rfl) (by kernel_rfl) (Nat.le_of_ble_eq_true (by kernel_rfl))
    (cast (by kernel_rfl) ht)
end Zcs
namespace Zco
noncomputable abbrev fn : Func := Go.Proofs.Try.f59
def kp : Zcv := [(3000003, [4, 2, 3]), (1000003, [4, 8, 10]), (2000004, [6, 5, 10, 8, 4]), (4000006, [6, 4, 5, 10, 8]), (2000008, [10, 8, 4]), (4000009, [10, 8, 4])]
noncomputable def C (p : List Nat) : Code := (cod fn).sub p
def KR (Q : QT) : KT := Zic pg fn.results.toList Q
abbrev T3 := Pt → Nat → Nat → Bool → Pt → Int → Zaa → Prop
def E3 (R3 : T3) (env : Env) (h : Zaa) : Prop := Zcu 4 env fun v env => xSl (some v) fun a4 n4 c4 e4 => Zcu 8 env fun v env => Zid (some v) fun a8 => Zcu 10 env fun v env => Zhr .i64 v fun x10 => Znt env (R3 a4 n4 c4 e4 a8 x10 h)
theorem Zgk {R3 : T3} {env : Env} {h : Zaa} (hi : E3 R3 env h) : ∃ a4, ∃ n4, ∃ c4, ∃ e4, ∃ a8, ∃ x10, env = [(4, .slice a4 n4 c4 e4), (8, .ptr a8), (10, .int .i64 x10)] ∧ R3 a4 n4 c4 e4 a8 x10 h := by
  unfold E3 at hi
  have hi0 := hi
  clear hi
  obtain ⟨_, _, rfl, hi1⟩ := Zad hi0
  obtain ⟨a4, n4, c4, e4, rfl, hi2⟩ := Zci hi1
  obtain ⟨_, _, rfl, hi3⟩ := Zad hi2
  obtain ⟨a8, rfl, hi4⟩ := Zby hi3
  obtain ⟨_, _, rfl, hi5⟩ := Zad hi4
  obtain ⟨x10, rfl, hi6⟩ := Zav hi5
  obtain ⟨rfl, hi7⟩ := Zbx hi6
  have hi := hi7
  exact ⟨a4, n4, c4, e4, a8, x10, rfl, hi⟩
def K0 (Q : QT) : KT := andThen (fun env' h' => (match kp.find 4000010 with | some ks => Den pg fn.ntmps (C [1, 1, 1]) (env'.keep ks) h' (KR Q) | none => den pg fn.ntmps kp (C [1, 1, 1]) env' h' (KR Q))) (KR Q)
def K1 (Q : QT) : KT := Zdp 0 (K0 Q)
def K2 (Q : QT) : KT := left kp 3 (K1 Q)
def K3 (Q : QT) (R3 : T3) : KT := rnd ((kp.find 1000003).getD []) (E3 R3) (K2 Q)
def K4 (Q : QT) (R3 : T3) : KT := andThen (fun env' h' => (match kp.find 4000009 with | some ks => Den pg fn.ntmps (C [1, 1, 0, 1, 0, 0, 1, 1, 1]) (env'.keep ks) h' (K3 Q R3) | none => den pg fn.ntmps kp (C [1, 1, 0, 1, 0, 0, 1, 1, 1]) env' h' (K3 Q R3))) (K3 Q R3)
def K5 (Q : QT) (R3 : T3) : KT := Zdp 1 (K4 Q R3)
def L3 (Q : QT) (a4 : Pt) (n4 c4 : Nat) (e4 : Bool) (a8 : Pt) (x10 : Int) (h : Zaa) : Prop := Zgw (Den pg fn.ntmps (C [1, 1, 0, 1, 0, 0])) ((kp.find 1000003).getD []) (K2 Q) [(4, .slice a4 n4 c4 e4), (8, .ptr a8), (10, .int .i64 x10)] h
def J9 (Q : QT) (R3 : T3) (x10 : Int) (a8 a4 : Pt) (n4 c4 : Nat) (e4 : Bool) (h : Zaa) : Prop := Den pg fn.ntmps (C [1, 1, 0, 1, 0, 0, 1, 1, 1]) [(10, .int .i64 x10), (8, .ptr a8), (4, .slice a4 n4 c4 e4)] h (K3 Q R3)
def J6 (Q : QT) (R3 : T3) (i6 o6 : Nat) (a4 : Pt) (n4 c4 : Nat) (e4 : Bool) (x5 x10 : Int) (a8 : Pt) (h : Zaa) : Prop := Den pg fn.ntmps (C [1, 1, 0, 1, 0, 0, 1, 1, 0, 0, 1, 1]) [(6, .ptr (some (i6, o6))), (4, .slice a4 n4 c4 e4), (5, .int .i64 x5), (10, .int .i64 x10), (8, .ptr a8)] h (K5 Q R3)
def Ztc (Q : QT) (a4 : Pt) (n4 c4 : Nat) (e4 : Bool) (h : Zaa) : Prop := At (K1 Q) (.exit 0) [(4, .slice a4 n4 c4 e4), (2, .undef), (3, .undef)] h
def L3t (Q : QT) (R3 : T3) (a4 : Pt) (n4 c4 : Nat) (e4 : Bool) (a8 : Pt) (x10 : Int) (h : Zaa) : Prop :=
 bcase (decide ((x10 : Int) < 12)) (Zbb a8 fun I3 O4 => (0 ≤ (x10 : Int) ∧ (x10 : Int) < (12 : Nat)) ∧ (Zep (Zdd h (.ptr (some (I3, O4 + (Int.toNat x10) * 2))) 2) fun K5 => Zar K5 fun C6 Z7 => Zck .u8 (some C6) fun X8 => Zar Z7 fun C9 Z10 => xSl (some C9) fun A11 N12 C13 E14 => Zec Z10 (Zev (h ++ [.cells Zab [.int .u8 0, .slice none 0 0 true] false]) fun H15 => (Zdd H15 (.ptr (some (I3, O4 + (Int.toNat x10) * 2))) 2 = Zdd h (.ptr (some (I3, O4 + (Int.toNat x10) * 2))) 2) ∧ Zcr (Zbi H15 (.ptr (some (h.length, 0))) [.int .u8 X8, .slice A11 N12 C13 E14]) fun H16 => Zck .u8 (Zak H16 (.ptr (some (h.length, 0 + 0)))) fun X17 => bcase ((X17 : Int) == 0) (J9 Q R3 x10 a8 a4 n4 c4 e4 H16) (bcase (decide ((x10 : Int) ≥ 6)) (J9 Q R3 x10 a8 a4 n4 c4 e4 H16) (J6 Q R3 h.length 0 a4 n4 c4 e4 x10 x10 a8 H16))))) (Ztc Q a4 n4 c4 e4 h)
theorem Zpa (Q : QT) (R3 : T3) (a4 : Pt) (n4 c4 : Nat) (e4 : Bool) (a8 : Pt) (x10 : Int) (h : Zaa) (ht : L3t Q R3 a4 n4 c4 e4 a8 x10 h) : Den pg fn.ntmps (C [1, 1, 0, 1, 0, 0]) [(4, .slice a4 n4 c4 e4), (8, .ptr a8), (10, .int .i64 x10)] h (K3 Q R3) :=
  Zbe (kp := kp) (cast (by kernel_rfl) ht)
theorem L3ind (Q : QT) (a8 : Pt) {G : Type} (J : G → Pt → Nat → Nat → Bool → Int → Zaa → Prop) (m : G → Nat)
 (hr : ∀ (g : G) (a4 : Pt) (n4 c4 : Nat) (e4 : Bool) (x10 : Int) (h : Zaa), J g a4 n4 c4 e4 x10 h → ∀ (R3 : T3), (∀ g' (a4 : Pt) (n4 c4 : Nat) (e4 : Bool) (x10 : Int) (h : Zaa), m g' < m g → J g' a4 n4 c4 e4 x10 h → R3 a4 n4 c4 e4 a8 x10 h) → L3t Q R3 a4 n4 c4 e4 a8 x10 h)
 (g : G) (a4 : Pt) (n4 c4 : Nat) (e4 : Bool) (x10 : Int) (h : Zaa) (hj : J g a4 n4 c4 e4 x10 h) : L3 Q a4 n4 c4 e4 a8 x10 h := by
  refine Zgw.inv2 (fun g => E3 fun a4 n4 c4 e4 a8' x10 h => a8 = a8' ∧ J g a4 n4 c4 e4 x10 h) (fun g => E3 fun a4 n4 c4 e4 a8' x10 h => a8 = a8' ∧ ∃ g', m g' < m g ∧ J g' a4 n4 c4 e4 x10 h) m ?_ ?_ g ⟨rfl, hj⟩
  · intro g env h hi
    obtain ⟨a4, n4, c4, e4, a8', x10, rfl, rfl, hj⟩ := Zgk hi
    exact Zpa Q _ a4 n4 c4 e4 a8 x10 h (hr g a4 n4 c4 e4 x10 h hj (fun a4 n4 c4 e4 a8' x10 h => a8 = a8' ∧ ∃ g', m g' < m g ∧ J g' a4 n4 c4 e4 x10 h) fun g' a4 n4 c4 e4 x10 h hlt hj => ⟨rfl, g', hlt, hj⟩)
  · intro g env h hi
    obtain ⟨a4, n4, c4, e4, a8', x10, rfl, rfl, g', hlt, hj⟩ := Zgk hi
    exact ⟨g', hlt, rfl, hj⟩
theorem J9i (Q : QT) (R3 : T3) (x10 : Int) (a8 a4 : Pt) (n4 c4 : Nat) (e4 : Bool) (h : Zaa) (ht :
 R3 a4 n4 c4 e4 a8 (IntKind.wrap .i64 (x10 + 1)) h) : J9 Q R3 x10 a8 a4 n4 c4 e4 h :=
  Zbe (kp := kp) (cast (by kernel_rfl) ht)
theorem J6i (Q : QT) (R3 : T3) (i6 o6 : Nat) (a4 : Pt) (n4 c4 : Nat) (e4 : Bool) (x5 x10 : Int) (a8 : Pt) (h : Zaa) (ht :
 Zep (Zdd h (.ptr (some (i6, o6))) 2) fun K18 => Zar K18 fun C19 Z20 => Zck .u8 (some C19) fun X21 => Zar Z20 fun C22 Z23 => xSl (some C22) fun A24 N25 C26 E27 => Zec Z23 (Zae pg Zdv [.agg [.int .u8 X21, .slice A24 N25 C26 E27]] h fun V28 H29 =>
 Zck .i64 (some V28) fun X30 => bcase (decide ((X30 : Int) > 60)) (Zev (H29 ++ [.cells Zag [] false]) fun H31 => Q (.tup [.slice (some (H29.length, 0)) 0 0 true, .bool false]) H31) ((0 ≤ (x5 : Int) ∧ (x5 : Int) ≤ IntKind.wrap .i64 (x5 + 1) ∧ (IntKind.wrap .i64 (x5 + 1) : Int) ≤ (List.length ([88, 89, 90, 120, 121, 122, 49, 50, 51, 52, 53, 54]) : Nat)) ∧ (Zep (Zdd H29 (.ptr (some (i6, o6))) 2) fun K32 => Zar K32 fun C33 Z34 => Zck .u8 (some C33) fun X35 => Zar Z34 fun C36 Z37 => xSl (some C36) fun A38 N39 C40 E41 => Zec Z37 (Zae pg Zde [.agg [.int .u8 X35, .slice A38 N39 C40 E41]] H29 fun V42 H43 =>
 Zct (some V42) fun S44 => Zev (H43 ++ [.cells Zag [.str (sub ([88, 89, 90, 120, 121, 122, 49, 50, 51, 52, 53, 54]) x5 (IntKind.wrap .i64 (x5 + 1))), .str S44] false]) fun H45 => Zcy pg Zfn H45 (.slice a4 n4 c4 e4) (.slice (some (H43.length, 0)) 1 1 true) fun V46 H47 => xSl (some V46) fun A48 N49 C50 E51 => J9 Q R3 x10 a8 A48 N49 C50 E51 H47))))) : J6 Q R3 i6 o6 a4 n4 c4 e4 x5 x10 a8 h :=
  Zbe (kp := kp) (cast (by kernel_rfl) ht)
theorem A3x0i (Q : QT) (a4 : Pt) (n4 c4 : Nat) (e4 : Bool) (h : Zaa) (ht :
 Q (.tup [.slice a4 n4 c4 e4, .bool true]) h) : Ztc Q a4 n4 c4 e4 h :=
  At.mk (cast (by kernel_rfl) ht)
theorem call (a0 : Pt) (h : Zaa) (Q : QT) (ht :
 Zev (h ++ [.cells Zag [] false]) fun H0 => Zbb a0 fun I1 O2 => L3 Q (some (h.length, 0)) 0 0 true a0 0 H0) : Zae pg Zhn [.ptr a0] h Q :=
  Zae.of_body kp (c := cod fn) (fn := fn) Go.Proofs.Try.func59 (by kernel_rfl) (by kernel_rfl) (Nat.le_of_ble_eq_true (by kernel_rfl))
    (cast (by kernel_rfl) ht)
end Zco
namespace Zfk
noncomputable abbrev fn : Func := Go.Proofs.Try.f21
def kp : Zcv := [(4000006, [10])]
noncomputable def C (p : List Nat) : Code := (cod fn).sub p
def KR (Q : QT) : KT := Zic pg fn.results.toList Q
def J6 (Q : QT) (i10 o10 : Nat) (h : Zaa) : Prop := Den pg fn.ntmps (C [1, 1, 1, 1, 1]) [(10, .ptr (some (i10, o10)))] h (KR Q)
theorem J6i (Q : QT) (i10 o10 : Nat) (h : Zaa) (ht :
 Zae pg Zhn [.ptr (some (i10, o10))] h fun V67 H68 =>
 Zpd V67 fun K69 => Zar K69 fun C70 Z71 => xSl (some C70) fun A72 N73 C74 E75 => Zar Z71 fun C76 Z77 => Zcg (some C76) fun B78 => Zec Z77 (Q (.tup [.slice A72 N73 C74 E75, .bool B78]) H68)) : J6 Q i10 o10 h :=
  Zbe (kp := kp) (cast (by kernel_rfl) ht)
theorem call (x0 x1 : List Nat) (h : Zaa) (Q : QT) (ht :
 Zae pg Zdx [.str x0] h fun V0 H1 =>
 Zpd V0 fun K2 => Zar K2 fun C3 Z4 => Zsv C3 fun K5 => Zar K5 fun C6 Z7 => Zck .u8 (some C6) fun X8 => Zar Z7 fun C9 Z10 => xSl (some C9) fun A11 N12 C13 E14 => Zec Z10 (Zar Z4 fun C15 Z16 => Zcg (some C15) fun B17 => Zec Z16 (Zev (H1 ++ [.cells Zab [.int .u8 0, .slice none 0 0 true] false]) fun H18 => Zcr (Zbi H18 (.ptr (some (H1.length, 0))) [.int .u8 X8, .slice A11 N12 C13 E14]) fun H19 => Zae pg Zdx [.str x1] H19 fun V20 H21 =>
 Zpd V20 fun K22 => Zar K22 fun C23 Z24 => Zsv C23 fun K25 => Zar K25 fun C26 Z27 => Zck .u8 (some C26) fun X28 => Zar Z27 fun C29 Z30 => xSl (some C29) fun A31 N32 C33 E34 => Zec Z30 (Zar Z24 fun C35 Z36 => Zcg (some C35) fun B37 => Zec Z36 (Zev (H21 ++ [.cells Zab [.int .u8 0, .slice none 0 0 true] false]) fun H38 => Zcr (Zbi H38 (.ptr (some (H21.length, 0))) [.int .u8 X28, .slice A31 N32 C33 E34]) fun H39 => Zev (H39 ++ [.cells Zbh [.int .u8 0, .slice none 0 0 true, .int .u8 0, .slice none 0 0 true, .int .u8 0, .slice none 0 0 true, .int .u8 0, .slice none 0 0 true, .int .u8 0, .slice none 0 0 true, .int .u8 0, .slice none 0 0 true, .int .u8 0, .slice none 0 0 true, .int .u8 0, .slice none 0 0 true, .int .u8 0, .slice none 0 0 true, .int .u8 0, .slice none 0 0 true, .int .u8 0, .slice none 0 0 true, .int .u8 0, .slice none 0 0 true] false]) fun H40 => bcase (!B17) (Zev (H40 ++ [.cells Zag [] false]) fun H41 => Q (.tup [.slice (some (H40.length, 0)) 0 0 true, .bool false]) H41) (bcase (!B37) (Zev (H40 ++ [.cells Zag [] false]) fun H42 => Q (.tup [.slice (some (H40.length, 0)) 0 0 true, .bool false]) H42) (Zep (Zdd H40 (.ptr (some (H1.length, 0))) 2) fun K43 => Zar K43 fun C44 Z45 => Zck .u8 (some C44) fun X46 => Zar Z45 fun C47 Z48 => xSl (some C47) fun A49 N50 C51 E52 => Zec Z48 (Zep (Zdd H40 (.ptr (some (H21.length, 0))) 2) fun K53 => Zar K53 fun C54 Z55 => Zck .u8 (some C54) fun X56 => Zar Z55 fun C57 Z58 => xSl (some C57) fun A59 N60 C61 E62 => Zec Z58 (Zae pg Zfd [.ptr (some (H39.length, 0)), .agg [.int .u8 X46, .slice A49 N50 C51 E52], .agg [.int .u8 X56, .slice A59 N60 C61 E62]] H40 fun V63 H64 =>
 Zcg (some V63) fun B65 => bcase (!B65) (Zev (H64 ++ [.cells Zag [] false]) fun H66 => Q (.tup [.slice (some (H64.length, 0)) 0 0 true, .bool false]) H66) (J6 Q H39.length 0 H64)))))))))) : Zae pg Zfm [.str x0, .str x1] h Q :=
  Zae.of_body kp (c := cod fn) (fn := fn) Go.Proofs.Try.func21 (by kernel_rfl) (by kernel_rfl) (Nat.le_of_ble_eq_true (by kernel_rfl))
    (cast (by kernel_rfl) ht)
end Zfk
end Go.Sim

set_option maxRecDepth 100000
set_option linter.unusedVariables false
namespace Go.Sim
open Go Go.RowKit
namespace Zjf
noncomputable abbrev fn : Func := Go.Proofs.Try.f89
def kp : Zcv := []
noncomputable def C (p : List Nat) : Code := (cod fn).sub p
def KR (Q : QT) : KT := Zic pg fn.results.toList Q
theorem call (x0 : Int) (h : Zaa) (Q : QT) (ht :
 Zae pg Zfc [.str ([88, 89, 90, 120, 121, 122, 49, 50, 51, 52, 53, 54]), .int .u8 x0] h fun V0 H1 =>
 Zck .i64 (some V0) fun X2 => Q (.int .i64 X2) H1) : Zae pg Zfe [.int .u8 x0] h Q :=
  Zae.of_body kp (c := cod fn) (fn := fn) Go.Proofs.Try.func89 (by kernel_rfl) (by kernel_rfl) (Nat.le_of_ble_eq_true (by kernel_rfl))
    (cast (by kernel_rfl) ht)
end Zjf
namespace Zeg
noncomputable abbrev fn : Func := Go.Proofs.Try.f58
def kp : Zcv := [(2000004, []), (2000006, [6]), (3000010, [6]), (1000010, [0, 4, 5, 42, 43]), (2000012, [58, 43, 42, 0, 4, 5])]
noncomputable def C (p : List Nat) : Code := (cod fn).sub p
def KR (Q : QT) : KT := Zic pg fn.results.toList Q
abbrev T10 := Pt → Nat → Nat → Nat → Nat → Int → Int → Zaa → Prop
def E10 (R10 : T10) (env : Env) (h : Zaa) : Prop := Zcu 0 env fun v env => Zid (some v) fun a0 => Zcu 4 env fun v env => Zid (some v) fun a => Zbb a fun i4 o4 => Zcu 5 env fun v env => Zid (some v) fun a => Zbb a fun i5 o5 => Zcu 42 env fun v env => Zhr .i64 v fun x42 => Zcu 43 env fun v env => Zhr .i64 v fun x43 => Znt env (R10 a0 i4 o4 i5 o5 x42 x43 h)
theorem Zyl {R10 : T10} {env : Env} {h : Zaa} (hi : E10 R10 env h) : ∃ a0, ∃ i4, ∃ o4, ∃ i5, ∃ o5, ∃ x42, ∃ x43, env = [(0, .ptr a0), (4, .ptr (some (i4, o4))), (5, .ptr (some (i5, o5))), (42, .int .i64 x42), (43, .int .i64 x43)] ∧ R10 a0 i4 o4 i5 o5 x42 x43 h := by
  unfold E10 at hi
  have hi0 := hi
  clear hi
  obtain ⟨_, _, rfl, hi1⟩ := Zad hi0
  obtain ⟨a0, rfl, hi2⟩ := Zby hi1
  obtain ⟨_, _, rfl, hi3⟩ := Zad hi2
  obtain ⟨a, rfl, hi4⟩ := Zby hi3
  obtain ⟨i4, o4, rfl, hi5⟩ := Zbt hi4
  obtain ⟨_, _, rfl, hi6⟩ := Zad hi5
  obtain ⟨a, rfl, hi7⟩ := Zby hi6
  obtain ⟨i5, o5, rfl, hi8⟩ := Zbt hi7
  obtain ⟨_, _, rfl, hi9⟩ := Zad hi8
  obtain ⟨x42, rfl, hi10⟩ := Zav hi9
  obtain ⟨_, _, rfl, hi11⟩ := Zad hi10
  obtain ⟨x43, rfl, hi12⟩ := Zav hi11
  obtain ⟨rfl, hi13⟩ := Zbx hi12
  have hi := hi13
  exact ⟨a0, i4, o4, i5, o5, x42, x43, rfl, hi⟩
def K0 (Q : QT) : KT := andThen (fun env' h' => (match kp.find 4000015 with | some ks => Den pg fn.ntmps (C [1, 1, 1, 1]) (env'.keep ks) h' (KR Q) | none => den pg fn.ntmps kp (C [1, 1, 1, 1]) env' h' (KR Q))) (KR Q)
def K1 (Q : QT) : KT := Zdp 0 (K0 Q)
def K2 (Q : QT) : KT := left kp 10 (K1 Q)
def K3 (Q : QT) (R10 : T10) : KT := rnd ((kp.find 1000010).getD []) (E10 R10) (K2 Q)
def L10 (Q : QT) (a0 : Pt) (i4 o4 i5 o5 : Nat) (x42 x43 : Int) (h : Zaa) : Prop := Zgw (Den pg fn.ntmps (C [1, 1, 1, 0, 1, 0, 0])) ((kp.find 1000010).getD []) (K2 Q) [(0, .ptr a0), (4, .ptr (some (i4, o4))), (5, .ptr (some (i5, o5))), (42, .int .i64 x42), (43, .int .i64 x43)] h
def Ycv (Q : QT) (h : Zaa) : Prop := At (K1 Q) (.exit 0) [(6, .undef)] h
def L10t (Q : QT) (R10 : T10) (a0 : Pt) (i4 o4 i5 o5 : Nat) (x42 x43 : Int) (h : Zaa) : Prop :=
 bcase (decide ((x43 : Int) < x42)) (xSl (Zak h (.ptr (some (i4, o4 + 1)))) fun A56 N57 C58 E59 => (0 ≤ (x43 : Int) ∧ (x43 : Int) < (N57 : Nat)) ∧ (Zbb A56 fun I60 O61 => Zep (Zdd h (.ptr (some (I60, O61 + (Int.toNat x43) * 2))) 2) fun K62 => Zar K62 fun C63 Z64 => Zck .u8 (some C63) fun X65 => Zar Z64 fun C66 Z67 => xSl (some C66) fun A68 N69 C70 E71 => Zec Z67 (xSl (Zak h (.ptr (some (i5, o5 + 1)))) fun A72 N73 C74 E75 => (Zdd h (.ptr (some (I60, O61 + (Int.toNat x43) * 2))) 2 = Zdd h (.ptr (some (I60, O61 + (Int.toNat x43) * 2))) 2) ∧ (Zak h (.ptr (some (i4, o4 + 1))) = Zak h (.ptr (some (i4, o4 + 1)))) ∧ (0 ≤ (x43 : Int) ∧ (x43 : Int) < (N73 : Nat)) ∧ (Zbb A72 fun I76 O77 => Zep (Zdd h (.ptr (some (I76, O77 + (Int.toNat x43) * 2))) 2) fun K78 => Zar K78 fun C79 Z80 => Zck .u8 (some C79) fun X81 => Zar Z80 fun C82 Z83 => xSl (some C82) fun A84 N85 C86 E87 => Zec Z83 ((Zdd h (.ptr (some (I60, O61 + (Int.toNat x43) * 2))) 2 = Zdd h (.ptr (some (I60, O61 + (Int.toNat x43) * 2))) 2) ∧ (Zak h (.ptr (some (i4, o4 + 1))) = Zak h (.ptr (some (i4, o4 + 1)))) ∧ Zae pg Zfd [.ptr a0, .agg [.int .u8 X65, .slice A68 N69 C70 E71], .agg [.int .u8 X81, .slice A84 N85 C86 E87]] h fun V88 H89 =>
 Zcg (some V88) fun B90 => (Zak H89 (.ptr (some (i4, o4 + 1))) = Zak h (.ptr (some (i4, o4 + 1)))) ∧ bcase (!B90) (Q (.bool false) H89) (R10 a0 i4 o4 i5 o5 x42 (IntKind.wrap .i64 (x43 + 1)) H89)))))) (Ycv Q h)
theorem Ycm (Q : QT) (R10 : T10) (a0 : Pt) (i4 o4 i5 o5 : Nat) (x42 x43 : Int) (h : Zaa) (ht : L10t Q R10 a0 i4 o4 i5 o5 x42 x43 h) : Den pg fn.ntmps (C [1, 1, 1, 0, 1, 0, 0]) [(0, .ptr a0), (4, .ptr (some (i4, o4))), (5, .ptr (some (i5, o5))), (42, .int .i64 x42), (43, .int .i64 x43)] h (K3 Q R10) :=
  Zbe (kp := kp) (cast (by kernel_rfl) ht)
theorem L10ind (Q : QT) (a0 : Pt) (i4 o4 i5 o5 : Nat) (x42 : Int) {G : Type} (J : G → Int → Zaa → Prop) (m : G → Nat)
 (hr : ∀ (g : G) (x43 : Int) (h : Zaa), J g x43 h → ∀ (R10 : T10), (∀ g' (x43 : Int) (h : Zaa), m g' < m g → J g' x43 h → R10 a0 i4 o4 i5 o5 x42 x43 h) → L10t Q R10 a0 i4 o4 i5 o5 x42 x43 h)
 (g : G) (x43 : Int) (h : Zaa) (hj : J g x43 h) : L10 Q a0 i4 o4 i5 o5 x42 x43 h := by
  refine Zgw.inv2 (fun g => E10 fun a0' i4' o4' i5' o5' x42' x43 h => a0 = a0' ∧ i4 = i4' ∧ o4 = o4' ∧ i5 = i5' ∧ o5 = o5' ∧ x42 = x42' ∧ J g x43 h) (fun g => E10 fun a0' i4' o4' i5' o5' x42' x43 h => a0 = a0' ∧ i4 = i4' ∧ o4 = o4' ∧ i5 = i5' ∧ o5 = o5' ∧ x42 = x42' ∧ ∃ g', m g' < m g ∧ J g' x43 h) m ?_ ?_ g ⟨rfl, rfl, rfl, rfl, rfl, rfl, hj⟩
  · intro g env h hi
    obtain ⟨a0', i4', o4', i5', o5', x42', x43, rfl, rfl, rfl, rfl, rfl, rfl, rfl, hj⟩ := Zyl hi
    exact Ycm Q _ a0 i4 o4 i5 o5 x42 x43 h (hr g x43 h hj (fun a0' i4' o4' i5' o5' x42' x43 h => a0 = a0' ∧ i4 = i4' ∧ o4 = o4' ∧ i5 = i5' ∧ o5 = o5' ∧ x42 = x42' ∧ ∃ g', m g' < m g ∧ J g' x43 h) fun g' x43 h hlt hj => ⟨rfl, rfl, rfl, rfl, rfl, rfl, g', hlt, hj⟩)
  · intro g env h hi
    obtain ⟨a0', i4', o4', i5', o5', x42', x43, rfl, rfl, rfl, rfl, rfl, rfl, rfl, g', hlt, hj⟩ := Zyl hi
    exact ⟨g', hlt, rfl, rfl, rfl, rfl, rfl, rfl, hj⟩
theorem A10x0i (Q : QT) (h : Zaa) (ht :
 Q (.bool true) h) : Ycv Q h :=
  At.mk (cast (by kernel_rfl) ht)
theorem call (a0 : Pt) (x1x0 : Int) (a1x1 : Pt) (n1x1 c1x1 : Nat) (e1x1 : Bool) (x2x0 : Int) (a2x1 : Pt) (n2x1 c2x1 : Nat) (e2x1 : Bool) (h : Zaa) (Q : QT) (ht :
 Zev (h ++ [.cells Zab [.int .u8 x1x0, .slice a1x1 n1x1 c1x1 e1x1] false]) fun H0 => Zev (H0 ++ [.cells Zab [.int .u8 x2x0, .slice a2x1 n2x1 c2x1 e2x1] false]) fun H1 => Zck .u8 (Zak H1 (.ptr (some (h.length, 0 + 0)))) fun X2 => Zae pg Zfe [.int .u8 X2] H1 fun V3 H4 =>
 Zck .i64 (some V3) fun X5 => bcase (decide ((X5 : Int) ≥ 0)) (Zbb a0 fun I6 O7 => (0 ≤ (X5 : Int) ∧ (X5 : Int) < (12 : Nat)) ∧ (Zck .u8 (Zak H4 (.ptr (some (I6, O7 + (Int.toNat X5) * 2 + 0)))) fun X8 => bcase ((X8 : Int) == 0) (Zbb a0 fun I9 O10 => Zep (Zdd H4 (.ptr (some (H0.length, 0))) 2) fun K11 => Zar K11 fun C12 Z13 => Zck .u8 (some C12) fun X14 => Zar Z13 fun C15 Z16 => xSl (some C15) fun A17 N18 C19 E20 => Zec Z16 ((0 ≤ (X5 : Int) ∧ (X5 : Int) < (12 : Nat)) ∧ (Zcr (Zbi H4 (.ptr (some (I9, O10 + (Int.toNat X5) * 2))) [.int .u8 X14, .slice A17 N18 C19 E20]) fun H21 => Q (.bool true) H21))) (Zbb a0 fun I22 O23 => (0 ≤ (X5 : Int) ∧ (X5 : Int) < (12 : Nat)) ∧ (Zep (Zdd H4 (.ptr (some (I22, O23 + (Int.toNat X5) * 2))) 2) fun K24 => Zar K24 fun C25 Z26 => Zck .u8 (some C25) fun X27 => Zar Z26 fun C28 Z29 => xSl (some C28) fun A30 N31 C32 E33 => Zec Z29 (Zep (Zdd H4 (.ptr (some (H0.length, 0))) 2) fun K34 => Zar K34 fun C35 Z36 => Zck .u8 (some C35) fun X37 => Zar Z36 fun C38 Z39 => xSl (some C38) fun A40 N41 C42 E43 => Zec Z39 (Zae pg Zde [.agg [.int .u8 X27, .slice A30 N31 C32 E33]] H4 fun V44 H45 =>
 Zct (some V44) fun S46 => (Zdd H45 (.ptr (some (H0.length, 0))) 2 = Zdd H4 (.ptr (some (H0.length, 0))) 2) ∧ Zae pg Zde [.agg [.int .u8 X37, .slice A40 N41 C42 E43]] H45 fun V47 H48 =>
 Zct (some V47) fun S49 => (Zdd H48 (.ptr (some (I22, O23 + (Int.toNat X5) * 2))) 2 = Zdd H45 (.ptr (some (I22, O23 + (Int.toNat X5) * 2))) 2) ∧ Q (.bool (decide (S46 = S49))) H48)))))) (Zck .u8 (Zak H4 (.ptr (some (h.length, 0 + 0)))) fun X50 => Zck .u8 (Zak H4 (.ptr (some (H0.length, 0 + 0)))) fun X51 => bcase (!((X50 : Int) == X51)) (Q (.bool false) H4) (xSl (Zak H4 (.ptr (some (h.length, 0 + 1)))) fun A52 N53 C54 E55 => L10 Q a0 h.length 0 H0.length 0 (((N53 : Nat) : Int)) 0 H4))) : Zae pg Zfd [.ptr a0, .agg [.int .u8 x1x0, .slice a1x1 n1x1 c1x1 e1x1], .agg [.int .u8 x2x0, .slice a2x1 n2x1 c2x1 e2x1]] h Q :=
  Zae.of_body kp (c := cod fn) (fn := fn) Go.Proofs.Try.func58 (by kernel_rfl) (by kernel_rfl) (Nat.le_of_ble_eq_true (by kernel_rfl))
    (cast (by kernel_rfl) ht)
end Zeg
end Go.Sim

set_option maxRecDepth 100000
set_option linter.unusedVariables false
namespace Go.Sim
open Go Go.RowKit
namespace Zds
noncomputable abbrev fn : Func := Go.Proofs.Try.f56
def kp : Zcv := [(3000003, [3]), (1000003, [0, 3, 9, 10, 11])]
noncomputable def C (p : List Nat) : Code := (cod fn).sub p
def KR (Q : QT) : KT := Zic pg fn.results.toList Q
abbrev T3 := Option Nat → Pt → Nat → Nat → Bool → Pt → Nat → Nat → Bool → Int → Int → Zaa → Prop
def E3 (R3 : T3) (env : Env) (h : Zaa) : Prop := Zcu 0 env fun v env => Zwr (some v) fun m0 => Zcu 3 env fun v env => xSl (some v) fun a3 n3 c3 e3 => Zcu 9 env fun v env => xSl (some v) fun a9 n9 c9 e9 => Zcu 10 env fun v env => Zhr .i64 v fun x10 => Zcu 11 env fun v env => Zhr .i64 v fun x11 => Znt env (R3 m0 a3 n3 c3 e3 a9 n9 c9 e9 x10 x11 h)
theorem Zgk {R3 : T3} {env : Env} {h : Zaa} (hi : E3 R3 env h) : ∃ m0, ∃ a3, ∃ n3, ∃ c3, ∃ e3, ∃ a9, ∃ n9, ∃ c9, ∃ e9, ∃ x10, ∃ x11, env = [(0, .map m0), (3, .slice a3 n3 c3 e3), (9, .slice a9 n9 c9 e9), (10, .int .i64 x10), (11, .int .i64 x11)] ∧ R3 m0 a3 n3 c3 e3 a9 n9 c9 e9 x10 x11 h := by
  unfold E3 at hi
  have hi0 := hi
  clear hi
  obtain ⟨_, _, rfl, hi1⟩ := Zad hi0
  obtain ⟨m0, rfl, hi2⟩ := Zpm hi1
  obtain ⟨_, _, rfl, hi3⟩ := Zad hi2
  obtain ⟨a3, n3, c3, e3, rfl, hi4⟩ := Zci hi3
  obtain ⟨_, _, rfl, hi5⟩ := Zad hi4
  obtain ⟨a9, n9, c9, e9, rfl, hi6⟩ := Zci hi5
  obtain ⟨_, _, rfl, hi7⟩ := Zad hi6
  obtain ⟨x10, rfl, hi8⟩ := Zav hi7
  obtain ⟨_, _, rfl, hi9⟩ := Zad hi8
  obtain ⟨x11, rfl, hi10⟩ := Zav hi9
  obtain ⟨rfl, hi11⟩ := Zbx hi10
  have hi := hi11
  exact ⟨m0, a3, n3, c3, e3, a9, n9, c9, e9, x10, x11, rfl, hi⟩
def K0 (Q : QT) : KT := andThen (fun env' h' => (match kp.find 4000007 with | some ks => Den pg fn.ntmps (C [1, 1, 1]) (env'.keep ks) h' (KR Q) | none => den pg fn.ntmps kp (C [1, 1, 1]) env' h' (KR Q))) (KR Q)
def K1 (Q : QT) : KT := Zdp 0 (K0 Q)
def K2 (Q : QT) : KT := left kp 3 (K1 Q)
def K3 (Q : QT) (R3 : T3) : KT := rnd ((kp.find 1000003).getD []) (E3 R3) (K2 Q)
def L3 (Q : QT) (m0 : Option Nat) (a3 : Pt) (n3 c3 : Nat) (e3 : Bool) (a9 : Pt) (n9 c9 : Nat) (e9 : Bool) (x10 x11 : Int) (h : Zaa) : Prop := Zgw (Den pg fn.ntmps (C [1, 1, 0, 1, 0, 0])) ((kp.find 1000003).getD []) (K2 Q) [(0, .map m0), (3, .slice a3 n3 c3 e3), (9, .slice a9 n9 c9 e9), (10, .int .i64 x10), (11, .int .i64 x11)] h
def Ztc (Q : QT) (a3 : Pt) (n3 c3 : Nat) (e3 : Bool) (h : Zaa) : Prop := At (K1 Q) (.exit 0) [(3, .slice a3 n3 c3 e3)] h
def L3t (Q : QT) (R3 : T3) (m0 : Option Nat) (a3 : Pt) (n3 c3 : Nat) (e3 : Bool) (a9 : Pt) (n9 c9 : Nat) (e9 : Bool) (x10 x11 : Int) (h : Zaa) : Prop :=
 bcase (decide ((x11 : Int) < x10)) ((0 ≤ (x11 : Int) ∧ (x11 : Int) < (n9 : Nat)) ∧ (Zbb a9 fun I10 O11 => Zct (Zak h (.ptr (some (I10, O11 + (Int.toNat x11) * 1)))) fun S12 => Zdu h m0 fun es_13 k_14 => Znm es_13 S12 fun Z15 => Zct (some (Option.getD Z15 (.str []))) fun S16 => Zev (h ++ [.cells Zag [.str S12, .str S16] false]) fun H17 => Zcy pg Zfn H17 (.slice a3 n3 c3 e3) (.slice (some (h.length, 0)) 1 1 true) fun V18 H19 => xSl (some V18) fun A20 N21 C22 E23 => R3 m0 A20 N21 C22 E23 a9 n9 c9 e9 x10 (IntKind.wrap .i64 (x11 + 1)) H19)) (Ztc Q a3 n3 c3 e3 h)
theorem Zpa (Q : QT) (R3 : T3) (m0 : Option Nat) (a3 : Pt) (n3 c3 : Nat) (e3 : Bool) (a9 : Pt) (n9 c9 : Nat) (e9 : Bool) (x10 x11 : Int) (h : Zaa) (ht : L3t Q R3 m0 a3 n3 c3 e3 a9 n9 c9 e9 x10 x11 h) : Den pg fn.ntmps (C [1, 1, 0, 1, 0, 0]) [(0, .map m0), (3, .slice a3 n3 c3 e3), (9, .slice a9 n9 c9 e9), (10, .int .i64 x10), (11, .int .i64 x11)] h (K3 Q R3) :=
  Zbe (kp := kp) (cast (by kernel_rfl) ht)
theorem L3ind (Q : QT) (m0 : Option Nat) (a9 : Pt) (n9 c9 : Nat) (e9 : Bool) (x10 : Int) {G : Type} (J : G → Pt → Nat → Nat → Bool → Int → Zaa → Prop) (m : G → Nat)
 (hr : ∀ (g : G) (a3 : Pt) (n3 c3 : Nat) (e3 : Bool) (x11 : Int) (h : Zaa), J g a3 n3 c3 e3 x11 h → ∀ (R3 : T3), (∀ g' (a3 : Pt) (n3 c3 : Nat) (e3 : Bool) (x11 : Int) (h : Zaa), m g' < m g → J g' a3 n3 c3 e3 x11 h → R3 m0 a3 n3 c3 e3 a9 n9 c9 e9 x10 x11 h) → L3t Q R3 m0 a3 n3 c3 e3 a9 n9 c9 e9 x10 x11 h)
 (g : G) (a3 : Pt) (n3 c3 : Nat) (e3 : Bool) (x11 : Int) (h : Zaa) (hj : J g a3 n3 c3 e3 x11 h) : L3 Q m0 a3 n3 c3 e3 a9 n9 c9 e9 x10 x11 h := by
  refine Zgw.inv2 (fun g => E3 fun m0' a3 n3 c3 e3 a9' n9' c9' e9' x10' x11 h => m0 = m0' ∧ a9 = a9' ∧ n9 = n9' ∧ c9 = c9' ∧ e9 = e9' ∧ x10 = x10' ∧ J g a3 n3 c3 e3 x11 h) (fun g => E3 fun m0' a3 n3 c3 e3 a9' n9' c9' e9' x10' x11 h => m0 = m0' ∧ a9 = a9' ∧ n9 = n9' ∧ c9 = c9' ∧ e9 = e9' ∧ x10 = x10' ∧ ∃ g', m g' < m g ∧ J g' a3 n3 c3 e3 x11 h) m ?_ ?_ g ⟨rfl, rfl, rfl, rfl, rfl, rfl, hj⟩
  · intro g env h hi
    obtain ⟨m0', a3, n3, c3, e3, a9', n9', c9', e9', x10', x11, rfl, rfl, rfl, rfl, rfl, rfl, rfl, hj⟩ := Zgk hi
    exact Zpa Q _ m0 a3 n3 c3 e3 a9 n9 c9 e9 x10 x11 h (hr g a3 n3 c3 e3 x11 h hj (fun m0' a3 n3 c3 e3 a9' n9' c9' e9' x10' x11 h => m0 = m0' ∧ a9 = a9' ∧ n9 = n9' ∧ c9 = c9' ∧ e9 = e9' ∧ x10 = x10' ∧ ∃ g', m g' < m g ∧ J g' a3 n3 c3 e3 x11 h) fun g' a3 n3 c3 e3 x11 h hlt hj => ⟨rfl, rfl, rfl, rfl, rfl, rfl, g', hlt, hj⟩)
  · intro g env h hi
    obtain ⟨m0', a3, n3, c3, e3, a9', n9', c9', e9', x10', x11, rfl, rfl, rfl, rfl, rfl, rfl, rfl, g', hlt, hj⟩ := Zgk hi
    exact ⟨g', hlt, rfl, rfl, rfl, rfl, rfl, rfl, hj⟩
theorem A3x0i (Q : QT) (a3 : Pt) (n3 c3 : Nat) (e3 : Bool) (h : Zaa) (ht :
 Q (.slice a3 n3 c3 e3) h) : Ztc Q a3 n3 c3 e3 h :=
  At.mk (cast (by kernel_rfl) ht)
theorem call (m0 : Option Nat) (h : Zaa) (Q : QT) (ht :
 Zev (h ++ [.cells Zag [] false]) fun H0 => Zae pg Zbu [.map m0] H0 fun V1 H2 =>
 Zsc (some V1) fun V3 => Zae pg Zez [V3] H2 fun V4 H5 =>
 xSl (some V4) fun A6 N7 C8 E9 => L3 Q m0 (some (h.length, 0)) 0 0 true A6 N7 C8 E9 (((N7 : Nat) : Int)) 0 H5) : Zae pg Zfz [.map m0] h Q :=
  Zae.of_body kp (c := cod fn) (fn := fn) Go.Proofs.Try.func56 (by kernel_rfl) (by kernel_rfl) (Nat.le_of_ble_eq_true (by kernel_rfl))
    (cast (by kernel_rfl) ht)
end Zds
namespace Zfl
noncomputable abbrev fn : Func := Go.Proofs.Try.f20
def kp : Zcv := [(4000004, [8])]
noncomputable def C (p : List Nat) : Code := (cod fn).sub p
def KR (Q : QT) : KT := Zic pg fn.results.toList Q
def J4 (Q : QT) (m8 : Option Nat) (h : Zaa) : Prop := Den pg fn.ntmps (C [1, 1, 1]) [(8, .map m8)] h (KR Q)
theorem J4i (Q : QT) (m8 : Option Nat) (h : Zaa) (ht :
 Zae pg Zfz [.map m8] h fun V10 H11 =>
 xSl (some V10) fun A12 N13 C14 E15 => Q (.tup [.slice A12 N13 C14 E15, .bool true]) H11) : J4 Q m8 h :=
  Zbe (kp := kp) (cast (by kernel_rfl) ht)
theorem call (x0 x1 : List Nat) (h : Zaa) (Q : QT) (ht :
 Zae pg Zeu [.str x0] h fun V0 H1 =>
 Zid (some V0) fun A2 => Zae pg Zeu [.str x1] H1 fun V3 H4 =>
 Zid (some V3) fun A5 => Zev (H4 ++ [.map [] 0]) fun H6 => bcase (Option.isNone A2) (Q (.tup [.slice none 0 0 true, .bool false]) H6) (bcase (Option.isNone A5) (Q (.tup [.slice none 0 0 true, .bool false]) H6) (Zae pg Zdw [.ptr A2, .ptr A5, .map ((some H4.length))] H6 fun V7 H8 =>
 Zcg (some V7) fun B9 => bcase (!B9) (Q (.tup [.slice none 0 0 true, .bool false]) H8) (J4 Q ((some H4.length)) H8)))) : Zae pg Zeh [.str x0, .str x1] h Q :=
  Zae.of_body kp (c := cod fn) (fn := fn) Go.Proofs.Try.func20 (by kernel_rfl) (by kernel_rfl) (Nat.le_of_ble_eq_true (by kernel_rfl))
    (cast (by kernel_rfl) ht)
end Zfl
namespace Zhe
noncomputable abbrev fn : Func := Go.Proofs.Try.f23
def kp : Zcv := []
noncomputable def C (p : List Nat) : Code := (cod fn).sub p
def KR (Q : QT) : KT := Zic pg fn.results.toList Q
theorem call (x0 x1 : List Nat) (h : Zaa) (Q : QT) (ht :
 Zae pg Zeh [.str x0, .str x1] h fun V0 H1 =>
 Zpd V0 fun K2 => Zar K2 fun C3 Z4 => xSl (some C3) fun A5 N6 C7 E8 => Zar Z4 fun C9 Z10 => Zcg (some C9) fun B11 => Zec Z10 (Q (.bool B11) H1)) : Zae pg Zcd [.str x0, .str x1] h Q :=
  Zae.of_body kp (c := cod fn) (fn := fn) Go.Proofs.Try.func23 (by kernel_rfl) (by kernel_rfl) (Nat.le_of_ble_eq_true (by kernel_rfl))
    (cast (by kernel_rfl) ht)
end Zhe
end Go.Sim
