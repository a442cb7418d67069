/- A part of the proof of a statement of this seat: see the text that holds the theorem. No condition. -/
import Derived.Test.YtlljbdepamknoaaGreatDoorNm
set_option linter.unusedVariables false
set_option linter.unusedSimpArgs false
set_option linter.all false
set_option maxRecDepth 100000
set_option linter.unusedVariables false
namespace Go.Sim
open Go Go.RowKit
namespace Zui
noncomputable abbrev fn : Func := Go.Proofs.Tryz.f110
def kp : Zbz := []
noncomputable def C (p : List Nat) : Code := (cod fn).sub p
def KR (Q : QT) : KT := Zes pg fn.results.toList Q
theorem call (x0 : List Nat) (h : Zaa) (Q : QT) (ht :
 bcase ((((List.length x0 : Nat) : Int) : Int) == 1) (Zae pg Zfx [.str ([120, 121, 122, 88, 89, 90]), .str x0] h fun V0 H1 =>
 Zci (some V0) fun B2 => Q (.bool B2) H1) (Q (.bool false) h)) : Zae pg Zlk [.str x0] h Q :=
 Zae.of_body kp (c := cod fn) (fn := fn) Go.Proofs.Tryz.func110 (by kernel_rfl) (by kernel_rfl) (Nat.le_of_ble_eq_true (by kernel_rfl))
  (cast (by kernel_rfl) ht)
end Zui
namespace Zom
noncomputable abbrev fn : Func := Go.Proofs.Tryz.f103
def kp : Zbz := []
noncomputable def C (p : List Nat) : Code := (cod fn).sub p
def KR (Q : QT) : KT := Zes pg fn.results.toList Q
theorem call (x0 : Int) (h : Zaa) (Q : QT) (ht :
 Zae pg Zgz [.str ([105, 98, 117, 108, 109, 112, 120, 121, 122, 88, 89, 90]), .int .u8 x0] h fun V0 H1 =>
 Zen .i64 (some V0) fun X2 => Q (.bool (decide ((X2 : Int) ≥ 6))) H1) : Zae pg Zgg [.int .u8 x0] h Q :=
 Zae.of_body kp (c := cod fn) (fn := fn) Go.Proofs.Tryz.func103 (by kernel_rfl) (by kernel_rfl) (Nat.le_of_ble_eq_true (by kernel_rfl))
  (cast (by kernel_rfl) ht)
end Zom
namespace Zey
noncomputable abbrev fn : Func := Go.Proofs.Tryz.f137
def kp : Zbz := [(4000003, [0, 1]), (3000005, [5]), (1000005, [0, 1, 5, 22, 23]), (2000007, [31, 5, 23, 22, 0, 1]), (4000009, [23, 22, 0, 1, 5])]
noncomputable def C (p : List Nat) : Code := (cod fn).sub p
def KR (Q : QT) : KT := Zes pg fn.results.toList Q
abbrev T5 := List Nat → List Nat → Int → Int → Int → Zaa → Prop
def E5 (R5 : T5) (env : Env) (h : Zaa) : Prop := Zbs 0 env fun v env => Zbo (some v) fun x0 => Zbs 1 env fun v env => Zbo (some v) fun x1 => Zbs 5 env fun v env => Zee .i64 v fun x5 => Zbs 22 env fun v env => Zee .i64 v fun x22 => Zbs 23 env fun v env => Zee .i64 v fun x23 => Zje env (R5 x0 x1 x5 x22 x23 h)
theorem Zgi {R5 : T5} {env : Env} {h : Zaa} (hi : E5 R5 env h) : ∃ x0, ∃ x1, ∃ x5, ∃ x22, ∃ x23, env = [(0, .str x0), (1, .str x1), (5, .int .i64 x5), (22, .int .i64 x22), (23, .int .i64 x23)] ∧ R5 x0 x1 x5 x22 x23 h := by
 unfold E5 at hi
 have hi0 := hi
 clear hi
 obtain ⟨_, _, rfl, hi1⟩ := Zab hi0
 obtain ⟨x0, rfl, hi2⟩ := Zel hi1
 obtain ⟨_, _, rfl, hi3⟩ := Zab hi2
 obtain ⟨x1, rfl, hi4⟩ := Zel hi3
 obtain ⟨_, _, rfl, hi5⟩ := Zab hi4
 obtain ⟨x5, rfl, hi6⟩ := Zao hi5
 obtain ⟨_, _, rfl, hi7⟩ := Zab hi6
 obtain ⟨x22, rfl, hi8⟩ := Zao hi7
 obtain ⟨_, _, rfl, hi9⟩ := Zab hi8
 obtain ⟨x23, rfl, hi10⟩ := Zao hi9
 obtain ⟨rfl, hi11⟩ := Zbg hi10
 have hi := hi11
 exact ⟨x0, x1, x5, x22, x23, rfl, hi⟩
def K0 (Q : QT) : KT := andThen (fun env' h' => (match kp.find 4000010 with | some ks => Den pg fn.ntmps (C [1, 1, 1, 1]) (env'.keep ks) h' (KR Q) | none => den pg fn.ntmps kp (C [1, 1, 1, 1]) env' h' (KR Q))) (KR Q)
def K1 (Q : QT) : KT := Zck 0 (K0 Q)
def K2 (Q : QT) : KT := left kp 5 (K1 Q)
def K3 (Q : QT) (R5 : T5) : KT := rnd ((kp.find 1000005).getD []) (E5 R5) (K2 Q)
def J3 (Q : QT) (x0 x1 : List Nat) (h : Zaa) : Prop := Den pg fn.ntmps (C [1, 1]) [(0, .str x0), (1, .str x1)] h (KR Q)
def L5 (Q : QT) (x0 x1 : List Nat) (x5 x22 x23 : Int) (h : Zaa) : Prop := Zec (Den pg fn.ntmps (C [1, 1, 1, 0, 1, 0, 0])) ((kp.find 1000005).getD []) (K2 Q) [(0, .str x0), (1, .str x1), (5, .int .i64 x5), (22, .int .i64 x22), (23, .int .i64 x23)] h
def J9 (Q : QT) (R5 : T5) (x23 x22 : Int) (x0 x1 : List Nat) (x5 : Int) (h : Zaa) : Prop := Den pg fn.ntmps (C [1, 1, 1, 0, 1, 0, 0, 1, 1, 1]) [(23, .int .i64 x23), (22, .int .i64 x22), (0, .str x0), (1, .str x1), (5, .int .i64 x5)] h (K3 Q R5)
def A5x0 (Q : QT) (x5 : Int) (h : Zaa) : Prop := At (K1 Q) (.exit 0) [(5, .int .i64 x5)] h
theorem J3i (Q : QT) (x0 x1 : List Nat) (h : Zaa) (ht :
 L5 Q x0 x1 0 (((List.length x0 : Nat) : Int)) 0 h) : J3 Q x0 x1 h :=
 Zba (kp := kp) (cast (by kernel_rfl) ht)
def L5t (Q : QT) (R5 : T5) (x0 x1 : List Nat) (x5 x22 x23 : Int) (h : Zaa) : Prop :=
 bcase (decide ((x23 : Int) < x22)) (Zlw x0 x23 fun B7 => Zlw x1 0 fun B8 => bcase ((((B7 : Nat) : Int) : Int) == (((B8 : Nat) : Int))) (J9 Q R5 x23 x22 x0 x1 (IntKind.wrap .i64 (x5 + 1)) h) (J9 Q R5 x23 x22 x0 x1 x5 h)) (A5x0 Q x5 h)
theorem Zqg (Q : QT) (R5 : T5) (x0 x1 : List Nat) (x5 x22 x23 : Int) (h : Zaa) (ht : L5t Q R5 x0 x1 x5 x22 x23 h) : Den pg fn.ntmps (C [1, 1, 1, 0, 1, 0, 0]) [(0, .str x0), (1, .str x1), (5, .int .i64 x5), (22, .int .i64 x22), (23, .int .i64 x23)] h (K3 Q R5) :=
 Zba (kp := kp) (cast (by kernel_rfl) ht)
theorem L5ind (Q : QT) (x0 x1 : List Nat) (x22 : Int) {G : Type} (J : G → Int → Int → Zaa → Prop) (m : G → Nat)
 (hr : ∀ (g : G) (x5 x23 : Int) (h : Zaa), J g x5 x23 h → ∀ (R5 : T5), (∀ g' (x5 x23 : Int) (h : Zaa), m g' < m g → J g' x5 x23 h → R5 x0 x1 x5 x22 x23 h) → L5t Q R5 x0 x1 x5 x22 x23 h)
 (g : G) (x5 x23 : Int) (h : Zaa) (hj : J g x5 x23 h) : L5 Q x0 x1 x5 x22 x23 h := by
 refine Zec.inv2 (fun g => E5 fun x0' x1' x5 x22' x23 h => x0 = x0' ∧ x1 = x1' ∧ x22 = x22' ∧ J g x5 x23 h) (fun g => E5 fun x0' x1' x5 x22' x23 h => x0 = x0' ∧ x1 = x1' ∧ x22 = x22' ∧ ∃ g', m g' < m g ∧ J g' x5 x23 h) m ?_ ?_ g ⟨rfl, rfl, rfl, hj⟩
 ·intro g env h hi
  obtain ⟨x0', x1', x5, x22', x23, rfl, rfl, rfl, rfl, hj⟩ := Zgi hi
  exact Zqg Q _ x0 x1 x5 x22 x23 h (hr g x5 x23 h hj (fun x0' x1' x5 x22' x23 h => x0 = x0' ∧ x1 = x1' ∧ x22 = x22' ∧ ∃ g', m g' < m g ∧ J g' x5 x23 h) fun g' x5 x23 h hlt hj => ⟨rfl, rfl, rfl, g', hlt, hj⟩)
 ·intro g env h hi
  obtain ⟨x0', x1', x5, x22', x23, rfl, rfl, rfl, rfl, g', hlt, hj⟩ := Zgi hi
  exact ⟨g', hlt, rfl, rfl, rfl, hj⟩
theorem J9i (Q : QT) (R5 : T5) (x23 x22 : Int) (x0 x1 : List Nat) (x5 : Int) (h : Zaa) (ht :
 R5 x0 x1 x5 x22 (IntKind.wrap .i64 (x23 + 1)) h) : J9 Q R5 x23 x22 x0 x1 x5 h :=
 Zba (kp := kp) (cast (by kernel_rfl) ht)
theorem A5x0i (Q : QT) (x5 : Int) (h : Zaa) (ht :
 Q (.int .i64 x5) h) : A5x0 Q x5 h :=
 At.mk (cast (by kernel_rfl) ht)
theorem call (x0 x1 : List Nat) (h : Zaa) (Q : QT) (ht :
 Zae pg Zfg [.str x0] h fun V0 H1 =>
 Zci (some V0) fun B2 => bcase (!B2) (Q (.int .i64 (-1)) H1) (bcase (!((((List.length x1 : Nat) : Int) : Int) == 1)) (Q (.int .i64 (-1)) H1) (Zlw x1 0 fun B3 => Zae pg Zgg [.int .u8 (((B3 : Nat) : Int))] H1 fun V4 H5 =>
 Zci (some V4) fun B6 => bcase (!B6) (Q (.int .i64 (-1)) H5) (J3 Q x0 x1 H5)))) : Zae pg Zmv [.str x0, .str x1] h Q :=
 Zae.of_body kp (c := cod fn) (fn := fn) Go.Proofs.Tryz.func137 (by kernel_rfl) (by kernel_rfl) (Nat.le_of_ble_eq_true (by kernel_rfl))
  (cast (by kernel_rfl) ht)
end Zey
namespace Zgn
noncomputable abbrev fn : Func := Go.Proofs.Tryz.f105
def kp : Zbz := [(3000003, [3]), (1000003, [0, 3, 6, 7, 8]), (4000007, [8, 7, 6, 0, 3])]
noncomputable def C (p : List Nat) : Code := (cod fn).sub p
def KR (Q : QT) : KT := Zes pg fn.results.toList Q
abbrev T3 := List Nat → List Nat → Pt → Nat → Nat → Bool → Int → Int → Zaa → Prop
def E3 (R3 : T3) (env : Env) (h : Zaa) : Prop := Zbs 0 env fun v env => Zbo (some v) fun x0 => Zbs 3 env fun v env => Zbo (some v) fun x3 => Zbs 6 env fun v env => xSl (some v) fun a6 n6 c6 e6 => Zbs 7 env fun v env => Zee .i64 v fun x7 => Zbs 8 env fun v env => Zee .i64 v fun x8 => Zje env (R3 x0 x3 a6 n6 c6 e6 x7 x8 h)
theorem Zdw {R3 : T3} {env : Env} {h : Zaa} (hi : E3 R3 env h) : ∃ x0, ∃ x3, ∃ a6, ∃ n6, ∃ c6, ∃ e6, ∃ x7, ∃ x8, env = [(0, .str x0), (3, .str x3), (6, .slice a6 n6 c6 e6), (7, .int .i64 x7), (8, .int .i64 x8)] ∧ R3 x0 x3 a6 n6 c6 e6 x7 x8 h := by
 unfold E3 at hi
 have hi0 := hi
 clear hi
 obtain ⟨_, _, rfl, hi1⟩ := Zab hi0
 obtain ⟨x0, rfl, hi2⟩ := Zel hi1
 obtain ⟨_, _, rfl, hi3⟩ := Zab hi2
 obtain ⟨x3, rfl, hi4⟩ := Zel hi3
 obtain ⟨_, _, rfl, hi5⟩ := Zab hi4
 obtain ⟨a6, n6, c6, e6, rfl, hi6⟩ := Zbf hi5
 obtain ⟨_, _, rfl, hi7⟩ := Zab hi6
 obtain ⟨x7, rfl, hi8⟩ := Zao hi7
 obtain ⟨_, _, rfl, hi9⟩ := Zab hi8
 obtain ⟨x8, rfl, hi10⟩ := Zao hi9
 obtain ⟨rfl, hi11⟩ := Zbg hi10
 have hi := hi11
 exact ⟨x0, x3, a6, n6, c6, e6, x7, x8, rfl, hi⟩
def K0 (Q : QT) : KT := andThen (fun env' h' => (match kp.find 4000008 with | some ks => Den pg fn.ntmps (C [1, 1, 1]) (env'.keep ks) h' (KR Q) | none => den pg fn.ntmps kp (C [1, 1, 1]) env' h' (KR Q))) (KR Q)
def K1 (Q : QT) : KT := Zck 0 (K0 Q)
def K2 (Q : QT) : KT := left kp 3 (K1 Q)
def K3 (Q : QT) (R3 : T3) : KT := rnd ((kp.find 1000003).getD []) (E3 R3) (K2 Q)
def L3 (Q : QT) (x0 x3 : List Nat) (a6 : Pt) (n6 c6 : Nat) (e6 : Bool) (x7 x8 : Int) (h : Zaa) : Prop := Zec (Den pg fn.ntmps (C [1, 1, 0, 1, 0, 0])) ((kp.find 1000003).getD []) (K2 Q) [(0, .str x0), (3, .str x3), (6, .slice a6 n6 c6 e6), (7, .int .i64 x7), (8, .int .i64 x8)] h
def J7 (Q : QT) (R3 : T3) (x8 x7 : Int) (a6 : Pt) (n6 c6 : Nat) (e6 : Bool) (x0 x3 : List Nat) (h : Zaa) : Prop := Den pg fn.ntmps (C [1, 1, 0, 1, 0, 0, 1, 1, 1]) [(8, .int .i64 x8), (7, .int .i64 x7), (6, .slice a6 n6 c6 e6), (0, .str x0), (3, .str x3)] h (K3 Q R3)
def Znf (Q : QT) (x3 : List Nat) (h : Zaa) : Prop := At (K1 Q) (.exit 0) [(3, .str x3)] h
def L3t (Q : QT) (R3 : T3) (x0 x3 : List Nat) (a6 : Pt) (n6 c6 : Nat) (e6 : Bool) (x7 x8 : Int) (h : Zaa) : Prop :=
 bcase (decide ((x8 : Int) < x7)) ((0 ≤ (x8 : Int) ∧ (x8 : Int) < (n6 : Nat)) ∧ (Zbl a6 fun I1 O2 => Zbo (Zak h (.ptr (some (I1, O2 + (Int.toNat x8) * 1)))) fun S3 => Zae pg Zmv [.str x0, .str S3] h fun V4 H5 =>
 Zen .i64 (some V4) fun X6 => bcase (decide ((X6 : Int) > 0)) (List.length x3 + List.length S3 ≤ 9223372036854775807 ∧ (J7 Q R3 x8 x7 a6 n6 c6 e6 x0 (x3 ++ S3) H5)) (J7 Q R3 x8 x7 a6 n6 c6 e6 x0 x3 H5))) (Znf Q x3 h)
theorem Zkh (Q : QT) (R3 : T3) (x0 x3 : List Nat) (a6 : Pt) (n6 c6 : Nat) (e6 : Bool) (x7 x8 : Int) (h : Zaa) (ht : L3t Q R3 x0 x3 a6 n6 c6 e6 x7 x8 h) : Den pg fn.ntmps (C [1, 1, 0, 1, 0, 0]) [(0, .str x0), (3, .str x3), (6, .slice a6 n6 c6 e6), (7, .int .i64 x7), (8, .int .i64 x8)] h (K3 Q R3) :=
 Zba (kp := kp) (cast (by kernel_rfl) ht)
theorem L3ind (Q : QT) (x0 : List Nat) (a6 : Pt) (n6 c6 : Nat) (e6 : Bool) (x7 : Int) {G : Type} (J : G → List Nat → Int → Zaa → Prop) (m : G → Nat)
 (hr : ∀ (g : G) (x3 : List Nat) (x8 : Int) (h : Zaa), J g x3 x8 h → ∀ (R3 : T3), (∀ g' (x3 : List Nat) (x8 : Int) (h : Zaa), m g' < m g → J g' x3 x8 h → R3 x0 x3 a6 n6 c6 e6 x7 x8 h) → L3t Q R3 x0 x3 a6 n6 c6 e6 x7 x8 h)
 (g : G) (x3 : List Nat) (x8 : Int) (h : Zaa) (hj : J g x3 x8 h) : L3 Q x0 x3 a6 n6 c6 e6 x7 x8 h := by
 refine Zec.inv2 (fun g => E3 fun x0' x3 a6' n6' c6' e6' x7' x8 h => x0 = x0' ∧ a6 = a6' ∧ n6 = n6' ∧ c6 = c6' ∧ e6 = e6' ∧ x7 = x7' ∧ J g x3 x8 h) (fun g => E3 fun x0' x3 a6' n6' c6' e6' x7' x8 h => x0 = x0' ∧ a6 = a6' ∧ n6 = n6' ∧ c6 = c6' ∧ e6 = e6' ∧ x7 = x7' ∧ ∃ g', m g' < m g ∧ J g' x3 x8 h) m ?_ ?_ g ⟨rfl, rfl, rfl, rfl, rfl, rfl, hj⟩
 ·intro g env h hi
  obtain ⟨x0', x3, a6', n6', c6', e6', x7', x8, rfl, rfl, rfl, rfl, rfl, rfl, rfl, hj⟩ := Zdw hi
  exact Zkh Q _ x0 x3 a6 n6 c6 e6 x7 x8 h (hr g x3 x8 h hj (fun x0' x3 a6' n6' c6' e6' x7' x8 h => x0 = x0' ∧ a6 = a6' ∧ n6 = n6' ∧ c6 = c6' ∧ e6 = e6' ∧ x7 = x7' ∧ ∃ g', m g' < m g ∧ J g' x3 x8 h) fun g' x3 x8 h hlt hj => ⟨rfl, rfl, rfl, rfl, rfl, rfl, g', hlt, hj⟩)
 ·intro g env h hi
  obtain ⟨x0', x3, a6', n6', c6', e6', x7', x8, rfl, rfl, rfl, rfl, rfl, rfl, rfl, g', hlt, hj⟩ := Zdw hi
  exact ⟨g', hlt, rfl, rfl, rfl, rfl, rfl, rfl, hj⟩
theorem J7i (Q : QT) (R3 : T3) (x8 x7 : Int) (a6 : Pt) (n6 c6 : Nat) (e6 : Bool) (x0 x3 : List Nat) (h : Zaa) (ht :
 R3 x0 x3 a6 n6 c6 e6 x7 (IntKind.wrap .i64 (x8 + 1)) h) : J7 Q R3 x8 x7 a6 n6 c6 e6 x0 x3 h :=
 Zba (kp := kp) (cast (by kernel_rfl) ht)
theorem A3x0i (Q : QT) (x3 : List Nat) (h : Zaa) (ht :
 Q (.str x3) h) : Znf Q x3 h :=
 At.mk (cast (by kernel_rfl) ht)
theorem call (x0 : List Nat) (h : Zaa) (Q : QT) (ht :
 Zdc (h ++ [.cells Zcm [.str [88], .str [89], .str [90], .str [120], .str [121], .str [122]] false]) fun H0 => L3 Q x0 [] (some (h.length, 0)) 6 6 true (((6 : Nat) : Int)) 0 H0) : Zae pg Zma [.str x0] h Q :=
 Zae.of_body kp (c := cod fn) (fn := fn) Go.Proofs.Tryz.func105 (by kernel_rfl) (by kernel_rfl) (Nat.le_of_ble_eq_true (by kernel_rfl))
  (cast (by kernel_rfl) ht)
end Zgn
namespace Zhw
noncomputable abbrev fn : Func := Go.Proofs.Tryz.f104
def kp : Zbz := [(3000002, [4]), (1000002, [0, 1, 7, 8])]
noncomputable def C (p : List Nat) : Code := (cod fn).sub p
def KR (Q : QT) : KT := Zes pg fn.results.toList Q
abbrev T2 := List Nat → List Nat → Int → Int → Zaa → Prop
def E2 (R2 : T2) (env : Env) (h : Zaa) : Prop := Zbs 0 env fun v env => Zbo (some v) fun x0 => Zbs 1 env fun v env => Zbo (some v) fun x1 => Zbs 7 env fun v env => Zee .i64 v fun x7 => Zbs 8 env fun v env => Zee .i64 v fun x8 => Zje env (R2 x0 x1 x7 x8 h)
theorem Zdg {R2 : T2} {env : Env} {h : Zaa} (hi : E2 R2 env h) : ∃ x0, ∃ x1, ∃ x7, ∃ x8, env = [(0, .str x0), (1, .str x1), (7, .int .i64 x7), (8, .int .i64 x8)] ∧ R2 x0 x1 x7 x8 h := by
 unfold E2 at hi
 have hi0 := hi
 clear hi
 obtain ⟨_, _, rfl, hi1⟩ := Zab hi0
 obtain ⟨x0, rfl, hi2⟩ := Zel hi1
 obtain ⟨_, _, rfl, hi3⟩ := Zab hi2
 obtain ⟨x1, rfl, hi4⟩ := Zel hi3
 obtain ⟨_, _, rfl, hi5⟩ := Zab hi4
 obtain ⟨x7, rfl, hi6⟩ := Zao hi5
 obtain ⟨_, _, rfl, hi7⟩ := Zab hi6
 obtain ⟨x8, rfl, hi8⟩ := Zao hi7
 obtain ⟨rfl, hi9⟩ := Zbg hi8
 have hi := hi9
 exact ⟨x0, x1, x7, x8, rfl, hi⟩
def K0 (Q : QT) : KT := andThen (fun env' h' => (match kp.find 4000007 with | some ks => Den pg fn.ntmps (C [1, 1]) (env'.keep ks) h' (KR Q) | none => den pg fn.ntmps kp (C [1, 1]) env' h' (KR Q))) (KR Q)
def K1 (Q : QT) : KT := Zck 0 (K0 Q)
def K2 (Q : QT) : KT := left kp 2 (K1 Q)
def K3 (Q : QT) (R2 : T2) : KT := rnd ((kp.find 1000002).getD []) (E2 R2) (K2 Q)
def L2 (Q : QT) (x0 x1 : List Nat) (x7 x8 : Int) (h : Zaa) : Prop := Zec (Den pg fn.ntmps (C [1, 0, 1, 0, 0])) ((kp.find 1000002).getD []) (K2 Q) [(0, .str x0), (1, .str x1), (7, .int .i64 x7), (8, .int .i64 x8)] h
def Zlg (Q : QT) (h : Zaa) : Prop := At (K1 Q) (.exit 0) [(4, .undef)] h
def L2t (Q : QT) (R2 : T2) (x0 x1 : List Nat) (x7 x8 : Int) (h : Zaa) : Prop :=
 bcase (decide ((x8 : Int) < x7)) (Zlw x0 x8 fun B0 => Zae pg Zgz [.str x1, .int .u8 (((B0 : Nat) : Int))] h fun V1 H2 =>
 Zen .i64 (some V1) fun X3 => bcase (decide ((X3 : Int) < 0)) (Q (.bool false) H2) (R2 x0 x1 x7 (IntKind.wrap .i64 (x8 + 1)) H2)) (Zlg Q h)
theorem Zhn (Q : QT) (R2 : T2) (x0 x1 : List Nat) (x7 x8 : Int) (h : Zaa) (ht : L2t Q R2 x0 x1 x7 x8 h) : Den pg fn.ntmps (C [1, 0, 1, 0, 0]) [(0, .str x0), (1, .str x1), (7, .int .i64 x7), (8, .int .i64 x8)] h (K3 Q R2) :=
 Zba (kp := kp) (cast (by kernel_rfl) ht)
theorem L2ind (Q : QT) (x0 x1 : List Nat) (x7 : Int) {G : Type} (J : G → Int → Zaa → Prop) (m : G → Nat)
 (hr : ∀ (g : G) (x8 : Int) (h : Zaa), J g x8 h → ∀ (R2 : T2), (∀ g' (x8 : Int) (h : Zaa), m g' < m g → J g' x8 h → R2 x0 x1 x7 x8 h) → L2t Q R2 x0 x1 x7 x8 h)
 (g : G) (x8 : Int) (h : Zaa) (hj : J g x8 h) : L2 Q x0 x1 x7 x8 h := by
 refine Zec.inv2 (fun g => E2 fun x0' x1' x7' x8 h => x0 = x0' ∧ x1 = x1' ∧ x7 = x7' ∧ J g x8 h) (fun g => E2 fun x0' x1' x7' x8 h => x0 = x0' ∧ x1 = x1' ∧ x7 = x7' ∧ ∃ g', m g' < m g ∧ J g' x8 h) m ?_ ?_ g ⟨rfl, rfl, rfl, hj⟩
 ·intro g env h hi
  obtain ⟨x0', x1', x7', x8, rfl, rfl, rfl, rfl, hj⟩ := Zdg hi
  exact Zhn Q _ x0 x1 x7 x8 h (hr g x8 h hj (fun x0' x1' x7' x8 h => x0 = x0' ∧ x1 = x1' ∧ x7 = x7' ∧ ∃ g', m g' < m g ∧ J g' x8 h) fun g' x8 h hlt hj => ⟨rfl, rfl, rfl, g', hlt, hj⟩)
 ·intro g env h hi
  obtain ⟨x0', x1', x7', x8, rfl, rfl, rfl, rfl, g', hlt, hj⟩ := Zdg hi
  exact ⟨g', hlt, rfl, rfl, rfl, hj⟩
theorem A2x0i (Q : QT) (h : Zaa) (ht :
 Q (.bool true) h) : Zlg Q h :=
 At.mk (cast (by kernel_rfl) ht)
theorem call (x0 x1 : List Nat) (h : Zaa) (Q : QT) (ht :
 L2 Q x0 x1 (((List.length x0 : Nat) : Int)) 0 h) : Zae pg Zmq [.str x0, .str x1] h Q :=
 Zae.of_body kp (c := cod fn) (fn := fn) Go.Proofs.Tryz.func104 (by kernel_rfl) (by kernel_rfl) (Nat.le_of_ble_eq_true (by kernel_rfl))
  (cast (by kernel_rfl) ht)
end Zhw
namespace Zcn
noncomputable abbrev fn : Func := Go.Proofs.Tryz.f70
def kp : Zbz := [(4000003, [3, 2]), (3000004, [4]), (1000004, [2, 3, 48, 49, 50]), (4000008, [6, 2, 3, 48, 49, 50]), (3000009, [50, 49, 48, 2, 3, 4]), (1000009, [2, 3, 48, 49, 50, 74, 75, 76]), (4000014, [50, 49, 48, 2, 3])]
noncomputable def C (p : List Nat) : Code := (cod fn).sub p
def KR (Q : QT) : KT := Zes pg fn.results.toList Q
abbrev T4 := Nat → Nat → Nat → Nat → Pt → Nat → Nat → Bool → Int → Int → Zaa → Prop
def E4 (R4 : T4) (env : Env) (h : Zaa) : Prop := Zbs 2 env fun v env => Zii (some v) fun a => Zbl a fun i2 o2 => Zbs 3 env fun v env => Zii (some v) fun a => Zbl a fun i3 o3 => Zbs 48 env fun v env => xSl (some v) fun a48 n48 c48 e48 => Zbs 49 env fun v env => Zee .i64 v fun x49 => Zbs 50 env fun v env => Zee .i64 v fun x50 => Zje env (R4 i2 o2 i3 o3 a48 n48 c48 e48 x49 x50 h)
theorem Zhp {R4 : T4} {env : Env} {h : Zaa} (hi : E4 R4 env h) : ∃ i2, ∃ o2, ∃ i3, ∃ o3, ∃ a48, ∃ n48, ∃ c48, ∃ e48, ∃ x49, ∃ x50, env = [(2, .ptr (some (i2, o2))), (3, .ptr (some (i3, o3))), (48, .slice a48 n48 c48 e48), (49, .int .i64 x49), (50, .int .i64 x50)] ∧ R4 i2 o2 i3 o3 a48 n48 c48 e48 x49 x50 h := by
 unfold E4 at hi
 have hi0 := hi
 clear hi
 obtain ⟨_, _, rfl, hi1⟩ := Zab hi0
 obtain ⟨a, rfl, hi2⟩ := Zbw hi1
 obtain ⟨i2, o2, rfl, hi3⟩ := Zbp hi2
 obtain ⟨_, _, rfl, hi4⟩ := Zab hi3
 obtain ⟨a, rfl, hi5⟩ := Zbw hi4
 obtain ⟨i3, o3, rfl, hi6⟩ := Zbp hi5
 obtain ⟨_, _, rfl, hi7⟩ := Zab hi6
 obtain ⟨a48, n48, c48, e48, rfl, hi8⟩ := Zbf hi7
 obtain ⟨_, _, rfl, hi9⟩ := Zab hi8
 obtain ⟨x49, rfl, hi10⟩ := Zao hi9
 obtain ⟨_, _, rfl, hi11⟩ := Zab hi10
 obtain ⟨x50, rfl, hi12⟩ := Zao hi11
 obtain ⟨rfl, hi13⟩ := Zbg hi12
 have hi := hi13
 exact ⟨i2, o2, i3, o3, a48, n48, c48, e48, x49, x50, rfl, hi⟩
abbrev T9 := Nat → Nat → Nat → Nat → Pt → Nat → Nat → Bool → Int → Int → Pt → Nat → Nat → Bool → Int → Int → Zaa → Prop
def E9 (R9 : T9) (env : Env) (h : Zaa) : Prop := Zbs 2 env fun v env => Zii (some v) fun a => Zbl a fun i2 o2 => Zbs 3 env fun v env => Zii (some v) fun a => Zbl a fun i3 o3 => Zbs 48 env fun v env => xSl (some v) fun a48 n48 c48 e48 => Zbs 49 env fun v env => Zee .i64 v fun x49 => Zbs 50 env fun v env => Zee .i64 v fun x50 => Zbs 74 env fun v env => xSl (some v) fun a74 n74 c74 e74 => Zbs 75 env fun v env => Zee .i64 v fun x75 => Zbs 76 env fun v env => Zee .i64 v fun x76 => Zje env (R9 i2 o2 i3 o3 a48 n48 c48 e48 x49 x50 a74 n74 c74 e74 x75 x76 h)
theorem Zun {R9 : T9} {env : Env} {h : Zaa} (hi : E9 R9 env h) : ∃ i2, ∃ o2, ∃ i3, ∃ o3, ∃ a48, ∃ n48, ∃ c48, ∃ e48, ∃ x49, ∃ x50, ∃ a74, ∃ n74, ∃ c74, ∃ e74, ∃ x75, ∃ x76, env = [(2, .ptr (some (i2, o2))), (3, .ptr (some (i3, o3))), (48, .slice a48 n48 c48 e48), (49, .int .i64 x49), (50, .int .i64 x50), (74, .slice a74 n74 c74 e74), (75, .int .i64 x75), (76, .int .i64 x76)] ∧ R9 i2 o2 i3 o3 a48 n48 c48 e48 x49 x50 a74 n74 c74 e74 x75 x76 h := by
 unfold E9 at hi
 have hi0 := hi
 clear hi
 obtain ⟨_, _, rfl, hi1⟩ := Zab hi0
 obtain ⟨a, rfl, hi2⟩ := Zbw hi1
 obtain ⟨i2, o2, rfl, hi3⟩ := Zbp hi2
 obtain ⟨_, _, rfl, hi4⟩ := Zab hi3
 obtain ⟨a, rfl, hi5⟩ := Zbw hi4
 obtain ⟨i3, o3, rfl, hi6⟩ := Zbp hi5
 obtain ⟨_, _, rfl, hi7⟩ := Zab hi6
 obtain ⟨a48, n48, c48, e48, rfl, hi8⟩ := Zbf hi7
 obtain ⟨_, _, rfl, hi9⟩ := Zab hi8
 obtain ⟨x49, rfl, hi10⟩ := Zao hi9
 obtain ⟨_, _, rfl, hi11⟩ := Zab hi10
 obtain ⟨x50, rfl, hi12⟩ := Zao hi11
 obtain ⟨_, _, rfl, hi13⟩ := Zab hi12
 obtain ⟨a74, n74, c74, e74, rfl, hi14⟩ := Zbf hi13
 obtain ⟨_, _, rfl, hi15⟩ := Zab hi14
 obtain ⟨x75, rfl, hi16⟩ := Zao hi15
 obtain ⟨_, _, rfl, hi17⟩ := Zab hi16
 obtain ⟨x76, rfl, hi18⟩ := Zao hi17
 obtain ⟨rfl, hi19⟩ := Zbg hi18
 have hi := hi19
 exact ⟨i2, o2, i3, o3, a48, n48, c48, e48, x49, x50, a74, n74, c74, e74, x75, x76, rfl, hi⟩
def K0 (Q : QT) : KT := andThen (fun env' h' => (match kp.find 4000015 with | some ks => Den pg fn.ntmps (C [1, 1, 1]) (env'.keep ks) h' (KR Q) | none => den pg fn.ntmps kp (C [1, 1, 1]) env' h' (KR Q))) (KR Q)
def K1 (Q : QT) : KT := Zck 0 (K0 Q)
def K2 (Q : QT) : KT := left kp 4 (K1 Q)
def K3 (Q : QT) (R4 : T4) : KT := rnd ((kp.find 1000004).getD []) (E4 R4) (K2 Q)
def K4 (Q : QT) (R4 : T4) : KT := andThen (fun env' h' => (match kp.find 4000014 with | some ks => Den pg fn.ntmps (C [1, 1, 0, 1, 0, 0, 1, 1, 1]) (env'.keep ks) h' (K3 Q R4) | none => den pg fn.ntmps kp (C [1, 1, 0, 1, 0, 0, 1, 1, 1]) env' h' (K3 Q R4))) (K3 Q R4)
def K5 (Q : QT) (R4 : T4) : KT := Zck 1 (K4 Q R4)
def K6 (Q : QT) (R4 : T4) : KT := Zck 2 (K5 Q R4)
def K7 (Q : QT) (R4 : T4) : KT := left kp 9 (K6 Q R4)
def K8 (Q : QT) (R4 : T4) (R9 : T9) : KT := rnd ((kp.find 1000009).getD []) (E9 R9) (K7 Q R4)
def J3 (Q : QT) (i3 o3 i2 o2 : Nat) (h : Zaa) : Prop := Den pg fn.ntmps (C [1, 1]) [(3, .ptr (some (i3, o3))), (2, .ptr (some (i2, o2)))] h (KR Q)
def L4 (Q : QT) (i2 o2 i3 o3 : Nat) (a48 : Pt) (n48 c48 : Nat) (e48 : Bool) (x49 x50 : Int) (h : Zaa) : Prop := Zec (Den pg fn.ntmps (C [1, 1, 0, 1, 0, 0])) ((kp.find 1000004).getD []) (K2 Q) [(2, .ptr (some (i2, o2))), (3, .ptr (some (i3, o3))), (48, .slice a48 n48 c48 e48), (49, .int .i64 x49), (50, .int .i64 x50)] h
def J8 (Q : QT) (R4 : T4) (i6 o6 i2 o2 i3 o3 : Nat) (a48 : Pt) (n48 c48 : Nat) (e48 : Bool) (x49 x50 : Int) (h : Zaa) : Prop := Den pg fn.ntmps (C [1, 1, 0, 1, 0, 0, 1, 1, 0, 0, 1, 1]) [(6, .ptr (some (i6, o6))), (2, .ptr (some (i2, o2))), (3, .ptr (some (i3, o3))), (48, .slice a48 n48 c48 e48), (49, .int .i64 x49), (50, .int .i64 x50)] h (K5 Q R4)
def Zwn (Q : QT) (h : Zaa) : Prop := At (K1 Q) (.exit 0) [(4, .undef)] h
def L9 (Q : QT) (R4 : T4) (i2 o2 i3 o3 : Nat) (a48 : Pt) (n48 c48 : Nat) (e48 : Bool) (x49 x50 : Int) (a74 : Pt) (n74 c74 : Nat) (e74 : Bool) (x75 x76 : Int) (h : Zaa) : Prop := Zec (Den pg fn.ntmps (C [1, 1, 0, 1, 0, 0, 1, 1, 0, 0, 1, 1, 1, 0, 0])) ((kp.find 1000009).getD []) (K7 Q R4) [(2, .ptr (some (i2, o2))), (3, .ptr (some (i3, o3))), (48, .slice a48 n48 c48 e48), (49, .int .i64 x49), (50, .int .i64 x50), (74, .slice a74 n74 c74 e74), (75, .int .i64 x75), (76, .int .i64 x76)] h
def A9x2 (Q : QT) (R4 : T4) (x50 x49 : Int) (a48 : Pt) (n48 c48 : Nat) (e48 : Bool) (i2 o2 i3 o3 : Nat) (h : Zaa) : Prop := At (K6 Q R4) (.exit 2) [(50, .int .i64 x50), (49, .int .i64 x49), (48, .slice a48 n48 c48 e48), (2, .ptr (some (i2, o2))), (3, .ptr (some (i3, o3))), (4, .undef)] h
def J14 (Q : QT) (R4 : T4) (x50 x49 : Int) (a48 : Pt) (n48 c48 : Nat) (e48 : Bool) (i2 o2 i3 o3 : Nat) (h : Zaa) : Prop := Den pg fn.ntmps (C [1, 1, 0, 1, 0, 0, 1, 1, 1]) [(50, .int .i64 x50), (49, .int .i64 x49), (48, .slice a48 n48 c48 e48), (2, .ptr (some (i2, o2))), (3, .ptr (some (i3, o3)))] h (K3 Q R4)
theorem J3i (Q : QT) (i3 o3 i2 o2 : Nat) (h : Zaa) (ht :
 xSl (Zak h (.ptr (some (i3, o3 + 2)))) fun A39 N40 C41 E42 => L4 Q i2 o2 i3 o3 A39 N40 C41 E42 (((N40 : Nat) : Int)) 0 h) : J3 Q i3 o3 i2 o2 h :=
 Zba (kp := kp) (cast (by kernel_rfl) ht)
def L4t (Q : QT) (R4 : T4) (i2 o2 i3 o3 : Nat) (a48 : Pt) (n48 c48 : Nat) (e48 : Bool) (x49 x50 : Int) (h : Zaa) : Prop :=
 bcase (decide ((x50 : Int) < x49)) ((0 ≤ (x50 : Int) ∧ (x50 : Int) < (n48 : Nat)) ∧ (Zbl a48 fun I43 O44 => Zdh (Zbv h (.ptr (some (I43, O44 + (Int.toNat x50) * 2))) 2) fun K45 => Zap K45 fun C46 Z47 => Zbo (some C46) fun S48 => Zap Z47 fun C49 Z50 => Zbo (some C49) fun S51 => Zcr Z50 (Zdc (h ++ [.cells Zaj [.str [], .str []] false]) fun H52 => Zcp (Zbk H52 (.ptr (some (h.length, 0))) [.str S48, .str S51]) fun H53 => xSl (Zak H53 (.ptr (some (i2, o2 + 0)))) fun A54 N55 C56 E57 => Zbo (Zak H53 (.ptr (some (h.length, 0 + 0)))) fun S58 => Zae pg Zlh [.slice A54 N55 C56 E57, .str S58] H53 fun V59 H60 =>
 Zci (some V59) fun B61 => bcase (!B61) (Q (.bool false) H60) (Zbo (Zak H60 (.ptr (some (h.length, 0 + 1)))) fun S62 => Zae pg Zft [.str S62] H60 fun V63 H64 =>
 Zci (some V63) fun B65 => bcase (!B65) (Q (.bool false) H64) (Zbo (Zak H64 (.ptr (some (h.length, 0 + 1)))) fun S66 => bcase (decide (((((List.length S66 : Nat) : Int)) : Int) > 20)) (Q (.bool false) H64) (J8 Q R4 h.length 0 i2 o2 i3 o3 a48 n48 c48 e48 x49 x50 H64)))))) (Zwn Q h)
theorem Zsc (Q : QT) (R4 : T4) (i2 o2 i3 o3 : Nat) (a48 : Pt) (n48 c48 : Nat) (e48 : Bool) (x49 x50 : Int) (h : Zaa) (ht : L4t Q R4 i2 o2 i3 o3 a48 n48 c48 e48 x49 x50 h) : Den pg fn.ntmps (C [1, 1, 0, 1, 0, 0]) [(2, .ptr (some (i2, o2))), (3, .ptr (some (i3, o3))), (48, .slice a48 n48 c48 e48), (49, .int .i64 x49), (50, .int .i64 x50)] h (K3 Q R4) :=
 Zba (kp := kp) (cast (by kernel_rfl) ht)
theorem L4ind (Q : QT) (i2 o2 i3 o3 : Nat) (a48 : Pt) (n48 c48 : Nat) (e48 : Bool) (x49 : Int) {G : Type} (J : G → Int → Zaa → Prop) (m : G → Nat)
 (hr : ∀ (g : G) (x50 : Int) (h : Zaa), J g x50 h → ∀ (R4 : T4), (∀ g' (x50 : Int) (h : Zaa), m g' < m g → J g' x50 h → R4 i2 o2 i3 o3 a48 n48 c48 e48 x49 x50 h) → L4t Q R4 i2 o2 i3 o3 a48 n48 c48 e48 x49 x50 h)
 (g : G) (x50 : Int) (h : Zaa) (hj : J g x50 h) : L4 Q i2 o2 i3 o3 a48 n48 c48 e48 x49 x50 h := by
 refine Zec.inv2 (fun g => E4 fun i2' o2' i3' o3' a48' n48' c48' e48' x49' x50 h => i2 = i2' ∧ o2 = o2' ∧ i3 = i3' ∧ o3 = o3' ∧ a48 = a48' ∧ n48 = n48' ∧ c48 = c48' ∧ e48 = e48' ∧ x49 = x49' ∧ J g x50 h) (fun g => E4 fun i2' o2' i3' o3' a48' n48' c48' e48' x49' x50 h => i2 = i2' ∧ o2 = o2' ∧ i3 = i3' ∧ o3 = o3' ∧ a48 = a48' ∧ n48 = n48' ∧ c48 = c48' ∧ e48 = e48' ∧ x49 = x49' ∧ ∃ g', m g' < m g ∧ J g' x50 h) m ?_ ?_ g ⟨rfl, rfl, rfl, rfl, rfl, rfl, rfl, rfl, rfl, hj⟩
 ·intro g env h hi
  obtain ⟨i2', o2', i3', o3', a48', n48', c48', e48', x49', x50, rfl, rfl, rfl, rfl, rfl, rfl, rfl, rfl, rfl, rfl, hj⟩ := Zhp hi
  exact Zsc Q _ i2 o2 i3 o3 a48 n48 c48 e48 x49 x50 h (hr g x50 h hj (fun i2' o2' i3' o3' a48' n48' c48' e48' x49' x50 h => i2 = i2' ∧ o2 = o2' ∧ i3 = i3' ∧ o3 = o3' ∧ a48 = a48' ∧ n48 = n48' ∧ c48 = c48' ∧ e48 = e48' ∧ x49 = x49' ∧ ∃ g', m g' < m g ∧ J g' x50 h) fun g' x50 h hlt hj => ⟨rfl, rfl, rfl, rfl, rfl, rfl, rfl, rfl, rfl, g', hlt, hj⟩)
 ·intro g env h hi
  obtain ⟨i2', o2', i3', o3', a48', n48', c48', e48', x49', x50, rfl, rfl, rfl, rfl, rfl, rfl, rfl, rfl, rfl, rfl, g', hlt, hj⟩ := Zhp hi
  exact ⟨g', hlt, rfl, rfl, rfl, rfl, rfl, rfl, rfl, rfl, rfl, hj⟩
theorem J8i (Q : QT) (R4 : T4) (i6 o6 i2 o2 i3 o3 : Nat) (a48 : Pt) (n48 c48 : Nat) (e48 : Bool) (x49 x50 : Int) (h : Zaa) (ht :
 Zbo (Zak h (.ptr (some (i6, o6 + 1)))) fun S67 => Zae pg Zrz [.str S67] h fun V68 H69 =>
 xSl (some V68) fun A70 N71 C72 E73 => L9 Q R4 i2 o2 i3 o3 a48 n48 c48 e48 x49 x50 A70 N71 C72 E73 (((N71 : Nat) : Int)) 0 H69) : J8 Q R4 i6 o6 i2 o2 i3 o3 a48 n48 c48 e48 x49 x50 h :=
 Zba (kp := kp) (cast (by kernel_rfl) ht)
theorem A4x0i (Q : QT) (h : Zaa) (ht :
 Q (.bool true) h) : Zwn Q h :=
 At.mk (cast (by kernel_rfl) ht)
def L9t (Q : QT) (R4 : T4) (R9 : T9) (i2 o2 i3 o3 : Nat) (a48 : Pt) (n48 c48 : Nat) (e48 : Bool) (x49 x50 : Int) (a74 : Pt) (n74 c74 : Nat) (e74 : Bool) (x75 x76 : Int) (h : Zaa) : Prop :=
 bcase (decide ((x76 : Int) < x75)) ((0 ≤ (x76 : Int) ∧ (x76 : Int) < (n74 : Nat)) ∧ (Zbl a74 fun I74 O75 => Zbo (Zak h (.ptr (some (I74, O75 + (Int.toNat x76) * 1)))) fun S76 => Zbo (Zak h (.ptr (some (i3, o3 + 0 + 1)))) fun S77 => Zae pg Zfx [.str S77, .str S76] h fun V78 H79 =>
 Zci (some V78) fun B80 => bcase (!B80) (Q (.bool false) H79) (R9 i2 o2 i3 o3 a48 n48 c48 e48 x49 x50 a74 n74 c74 e74 x75 (IntKind.wrap .i64 (x76 + 1)) H79))) (A9x2 Q R4 x50 x49 a48 n48 c48 e48 i2 o2 i3 o3 h)
theorem Yjm (Q : QT) (R4 : T4) (R9 : T9) (i2 o2 i3 o3 : Nat) (a48 : Pt) (n48 c48 : Nat) (e48 : Bool) (x49 x50 : Int) (a74 : Pt) (n74 c74 : Nat) (e74 : Bool) (x75 x76 : Int) (h : Zaa) (ht : L9t Q R4 R9 i2 o2 i3 o3 a48 n48 c48 e48 x49 x50 a74 n74 c74 e74 x75 x76 h) : Den pg fn.ntmps (C [1, 1, 0, 1, 0, 0, 1, 1, 0, 0, 1, 1, 1, 0, 0]) [(2, .ptr (some (i2, o2))), (3, .ptr (some (i3, o3))), (48, .slice a48 n48 c48 e48), (49, .int .i64 x49), (50, .int .i64 x50), (74, .slice a74 n74 c74 e74), (75, .int .i64 x75), (76, .int .i64 x76)] h (K8 Q R4 R9) :=
 Zba (kp := kp) (cast (by kernel_rfl) ht)
theorem L9ind (Q : QT) (R4 : T4) (i2 o2 i3 o3 : Nat) (a48 : Pt) (n48 c48 : Nat) (e48 : Bool) (x49 x50 : Int) (a74 : Pt) (n74 c74 : Nat) (e74 : Bool) (x75 : Int) {G : Type} (J : G → Int → Zaa → Prop) (m : G → Nat)
 (hr : ∀ (g : G) (x76 : Int) (h : Zaa), J g x76 h → ∀ (R9 : T9), (∀ g' (x76 : Int) (h : Zaa), m g' < m g → J g' x76 h → R9 i2 o2 i3 o3 a48 n48 c48 e48 x49 x50 a74 n74 c74 e74 x75 x76 h) → L9t Q R4 R9 i2 o2 i3 o3 a48 n48 c48 e48 x49 x50 a74 n74 c74 e74 x75 x76 h)
 (g : G) (x76 : Int) (h : Zaa) (hj : J g x76 h) : L9 Q R4 i2 o2 i3 o3 a48 n48 c48 e48 x49 x50 a74 n74 c74 e74 x75 x76 h := by
 refine Zec.inv2 (fun g => E9 fun i2' o2' i3' o3' a48' n48' c48' e48' x49' x50' a74' n74' c74' e74' x75' x76 h => i2 = i2' ∧ o2 = o2' ∧ i3 = i3' ∧ o3 = o3' ∧ a48 = a48' ∧ n48 = n48' ∧ c48 = c48' ∧ e48 = e48' ∧ x49 = x49' ∧ x50 = x50' ∧ a74 = a74' ∧ n74 = n74' ∧ c74 = c74' ∧ e74 = e74' ∧ x75 = x75' ∧ J g x76 h) (fun g => E9 fun i2' o2' i3' o3' a48' n48' c48' e48' x49' x50' a74' n74' c74' e74' x75' x76 h => i2 = i2' ∧ o2 = o2' ∧ i3 = i3' ∧ o3 = o3' ∧ a48 = a48' ∧ n48 = n48' ∧ c48 = c48' ∧ e48 = e48' ∧ x49 = x49' ∧ x50 = x50' ∧ a74 = a74' ∧ n74 = n74' ∧ c74 = c74' ∧ e74 = e74' ∧ x75 = x75' ∧ ∃ g', m g' < m g ∧ J g' x76 h) m ?_ ?_ g ⟨rfl, rfl, rfl, rfl, rfl, rfl, rfl, rfl, rfl, rfl, rfl, rfl, rfl, rfl, rfl, hj⟩
 ·intro g env h hi
  obtain ⟨i2', o2', i3', o3', a48', n48', c48', e48', x49', x50', a74', n74', c74', e74', x75', x76, rfl, rfl, rfl, rfl, rfl, rfl, rfl, rfl, rfl, rfl, rfl, rfl, rfl, rfl, rfl, rfl, hj⟩ := Zun hi
  exact Yjm Q R4 (fun i2' o2' i3' o3' a48' n48' c48' e48' x49' x50' a74' n74' c74' e74' x75' x76 h => i2 = i2' ∧ o2 = o2' ∧ i3 = i3' ∧ o3 = o3' ∧ a48 = a48' ∧ n48 = n48' ∧ c48 = c48' ∧ e48 = e48' ∧ x49 = x49' ∧ x50 = x50' ∧ a74 = a74' ∧ n74 = n74' ∧ c74 = c74' ∧ e74 = e74' ∧ x75 = x75' ∧ ∃ g', m g' < m g ∧ J g' x76 h) i2 o2 i3 o3 a48 n48 c48 e48 x49 x50 a74 n74 c74 e74 x75 x76 h (hr g x76 h hj (fun i2' o2' i3' o3' a48' n48' c48' e48' x49' x50' a74' n74' c74' e74' x75' x76 h => i2 = i2' ∧ o2 = o2' ∧ i3 = i3' ∧ o3 = o3' ∧ a48 = a48' ∧ n48 = n48' ∧ c48 = c48' ∧ e48 = e48' ∧ x49 = x49' ∧ x50 = x50' ∧ a74 = a74' ∧ n74 = n74' ∧ c74 = c74' ∧ e74 = e74' ∧ x75 = x75' ∧ ∃ g', m g' < m g ∧ J g' x76 h) fun g' x76 h hlt hj => ⟨rfl, rfl, rfl, rfl, rfl, rfl, rfl, rfl, rfl, rfl, rfl, rfl, rfl, rfl, rfl, g', hlt, hj⟩)
 ·intro g env h hi
  obtain ⟨i2', o2', i3', o3', a48', n48', c48', e48', x49', x50', a74', n74', c74', e74', x75', x76, rfl, rfl, rfl, rfl, rfl, rfl, rfl, rfl, rfl, rfl, rfl, rfl, rfl, rfl, rfl, rfl, g', hlt, hj⟩ := Zun hi
  exact ⟨g', hlt, rfl, rfl, rfl, rfl, rfl, rfl, rfl, rfl, rfl, rfl, rfl, rfl, rfl, rfl, rfl, hj⟩
theorem A9x2i (Q : QT) (R4 : T4) (x50 x49 : Int) (a48 : Pt) (n48 c48 : Nat) (e48 : Bool) (i2 o2 i3 o3 : Nat) (h : Zaa) (ht :
 J14 Q R4 x50 x49 a48 n48 c48 e48 i2 o2 i3 o3 h) : A9x2 Q R4 x50 x49 a48 n48 c48 e48 i2 o2 i3 o3 h :=
 At.mk (cast (by kernel_rfl) ht)
theorem J14i (Q : QT) (R4 : T4) (x50 x49 : Int) (a48 : Pt) (n48 c48 : Nat) (e48 : Bool) (i2 o2 i3 o3 : Nat) (h : Zaa) (ht :
 R4 i2 o2 i3 o3 a48 n48 c48 e48 x49 (IntKind.wrap .i64 (x50 + 1)) h) : J14 Q R4 x50 x49 a48 n48 c48 e48 i2 o2 i3 o3 h :=
 Zba (kp := kp) (cast (by kernel_rfl) ht)
theorem call (a0x0 : Pt) (n0x0 c0x0 : Nat) (e0x0 : Bool) (a0x1 : Pt) (n0x1 c0x1 : Nat) (e0x1 : Bool) (x1x0 x1x1 : List Nat) (a1x2 : Pt) (n1x2 c1x2 : Nat) (e1x2 : Bool) (h : Zaa) (Q : QT) (ht :
 Zdc (h ++ [.cells Zaf [.slice a0x0 n0x0 c0x0 e0x0, .slice a0x1 n0x1 c0x1 e0x1] false]) fun H0 => Zdc (H0 ++ [.cells Zac [.str x1x0, .str x1x1, .slice a1x2 n1x2 c1x2 e1x2] false]) fun H1 => Zdh (Zbv H1 (.ptr (some (h.length, 0))) 2) fun K2 => Zap K2 fun C3 Z4 => xSl (some C3) fun A5 N6 C7 E8 => Zap Z4 fun C9 Z10 => xSl (some C9) fun A11 N12 C13 E14 => Zcr Z10 (Zae pg Zjh [.agg [.slice A5 N6 C7 E8, .slice A11 N12 C13 E14]] H1 fun V15 H16 =>
 Zci (some V15) fun B17 => bcase (!B17) (Q (.bool false) H16) (xSl (Zak H16 (.ptr (some (h.length, 0 + 0)))) fun A18 N19 C20 E21 => Zbo (Zak H16 (.ptr (some (H0.length, 0 + 0 + 0)))) fun S22 => Zae pg Zlh [.slice A18 N19 C20 E21, .str S22] H16 fun V23 H24 =>
 Zci (some V23) fun B25 => bcase (!B25) (Q (.bool false) H24) (Zbo (Zak H24 (.ptr (some (H0.length, 0 + 0 + 1)))) fun S26 => Zae pg Zft [.str S26] H24 fun V27 H28 =>
 Zci (some V27) fun B29 => bcase (!B29) (Q (.bool false) H28) (Zbo (Zak H28 (.ptr (some (H0.length, 0 + 0 + 1)))) fun S30 => bcase (decide (((((List.length S30 : Nat) : Int)) : Int) > 20)) (Q (.bool false) H28) (Zbo (Zak H28 (.ptr (some (H0.length, 0 + 0 + 1)))) fun S31 => Zae pg Zlk [.str S31] H28 fun V32 H33 =>
 Zci (some V32) fun B34 => bcase B34 (Q (.bool false) H33) (xSl (Zak H33 (.ptr (some (H0.length, 0 + 2)))) fun A35 N36 C37 E38 => bcase (decide (((((N36 : Nat) : Int)) : Int) > 3)) (Q (.bool false) H33) (J3 Q H0.length 0 h.length 0 H33)))))))) : Zae pg Zih [.agg [.slice a0x0 n0x0 c0x0 e0x0, .slice a0x1 n0x1 c0x1 e0x1], .agg [.str x1x0, .str x1x1, .slice a1x2 n1x2 c1x2 e1x2]] h Q :=
 Zae.of_body kp (c := cod fn) (fn := fn) Go.Proofs.Tryz.func70 (by kernel_rfl) (by kernel_rfl) (Nat.le_of_ble_eq_true (by kernel_rfl))
  (cast (by kernel_rfl) ht)
end Zcn
end Go.Sim

set_option maxRecDepth 100000
set_option linter.unusedVariables false
namespace Go.Sim
open Go Go.RowKit
namespace Zcx
noncomputable abbrev fn : Func := Go.Proofs.Tryz.f66
def kp : Zbz := [(3000002, [0, 2]), (1000002, [0, 6, 7, 8]), (2000004, [31, 4, 0, 3, 6, 7, 8]), (4000006, [4, 0, 3, 6, 7, 8]), (3000007, [8, 7, 6, 0, 2]), (1000007, [0, 3, 4, 6, 7, 8, 34, 35]), (2000009, [65, 35, 34, 0, 3, 4, 8, 7, 6]), (4000011, [35, 34, 0, 3, 4, 8, 7, 6]), (4000012, [8, 7, 6, 0])]
noncomputable def C (p : List Nat) : Code := (cod fn).sub p
def KR (Q : QT) : KT := Zes pg fn.results.toList Q
abbrev T2 := Pt → Nat → Nat → Bool → Pt → Nat → Nat → Bool → Int → Int → Zaa → Prop
def E2 (R2 : T2) (env : Env) (h : Zaa) : Prop := Zbs 0 env fun v env => xSl (some v) fun a0 n0 c0 e0 => Zbs 6 env fun v env => xSl (some v) fun a6 n6 c6 e6 => Zbs 7 env fun v env => Zee .i64 v fun x7 => Zbs 8 env fun v env => Zee .i64 v fun x8 => Zje env (R2 a0 n0 c0 e0 a6 n6 c6 e6 x7 x8 h)
theorem Zdg {R2 : T2} {env : Env} {h : Zaa} (hi : E2 R2 env h) : ∃ a0, ∃ n0, ∃ c0, ∃ e0, ∃ a6, ∃ n6, ∃ c6, ∃ e6, ∃ x7, ∃ x8, env = [(0, .slice a0 n0 c0 e0), (6, .slice a6 n6 c6 e6), (7, .int .i64 x7), (8, .int .i64 x8)] ∧ R2 a0 n0 c0 e0 a6 n6 c6 e6 x7 x8 h := by
 unfold E2 at hi
 have hi0 := hi
 clear hi
 obtain ⟨_, _, rfl, hi1⟩ := Zab hi0
 obtain ⟨a0, n0, c0, e0, rfl, hi2⟩ := Zbf hi1
 obtain ⟨_, _, rfl, hi3⟩ := Zab hi2
 obtain ⟨a6, n6, c6, e6, rfl, hi4⟩ := Zbf hi3
 obtain ⟨_, _, rfl, hi5⟩ := Zab hi4
 obtain ⟨x7, rfl, hi6⟩ := Zao hi5
 obtain ⟨_, _, rfl, hi7⟩ := Zab hi6
 obtain ⟨x8, rfl, hi8⟩ := Zao hi7
 obtain ⟨rfl, hi9⟩ := Zbg hi8
 have hi := hi9
 exact ⟨a0, n0, c0, e0, a6, n6, c6, e6, x7, x8, rfl, hi⟩
abbrev T7 := Pt → Nat → Nat → Bool → Int → Nat → Nat → Pt → Nat → Nat → Bool → Int → Int → Int → Int → Zaa → Prop
def E7 (R7 : T7) (env : Env) (h : Zaa) : Prop := Zbs 0 env fun v env => xSl (some v) fun a0 n0 c0 e0 => Zbs 3 env fun v env => Zee .i64 v fun x3 => Zbs 4 env fun v env => Zii (some v) fun a => Zbl a fun i4 o4 => Zbs 6 env fun v env => xSl (some v) fun a6 n6 c6 e6 => Zbs 7 env fun v env => Zee .i64 v fun x7 => Zbs 8 env fun v env => Zee .i64 v fun x8 => Zbs 34 env fun v env => Zee .i64 v fun x34 => Zbs 35 env fun v env => Zee .i64 v fun x35 => Zje env (R7 a0 n0 c0 e0 x3 i4 o4 a6 n6 c6 e6 x7 x8 x34 x35 h)
theorem Ydf {R7 : T7} {env : Env} {h : Zaa} (hi : E7 R7 env h) : ∃ a0, ∃ n0, ∃ c0, ∃ e0, ∃ x3, ∃ i4, ∃ o4, ∃ a6, ∃ n6, ∃ c6, ∃ e6, ∃ x7, ∃ x8, ∃ x34, ∃ x35, env = [(0, .slice a0 n0 c0 e0), (3, .int .i64 x3), (4, .ptr (some (i4, o4))), (6, .slice a6 n6 c6 e6), (7, .int .i64 x7), (8, .int .i64 x8), (34, .int .i64 x34), (35, .int .i64 x35)] ∧ R7 a0 n0 c0 e0 x3 i4 o4 a6 n6 c6 e6 x7 x8 x34 x35 h := by
 unfold E7 at hi
 have hi0 := hi
 clear hi
 obtain ⟨_, _, rfl, hi1⟩ := Zab hi0
 obtain ⟨a0, n0, c0, e0, rfl, hi2⟩ := Zbf hi1
 obtain ⟨_, _, rfl, hi3⟩ := Zab hi2
 obtain ⟨x3, rfl, hi4⟩ := Zao hi3
 obtain ⟨_, _, rfl, hi5⟩ := Zab hi4
 obtain ⟨a, rfl, hi6⟩ := Zbw hi5
 obtain ⟨i4, o4, rfl, hi7⟩ := Zbp hi6
 obtain ⟨_, _, rfl, hi8⟩ := Zab hi7
 obtain ⟨a6, n6, c6, e6, rfl, hi9⟩ := Zbf hi8
 obtain ⟨_, _, rfl, hi10⟩ := Zab hi9
 obtain ⟨x7, rfl, hi11⟩ := Zao hi10
 obtain ⟨_, _, rfl, hi12⟩ := Zab hi11
 obtain ⟨x8, rfl, hi13⟩ := Zao hi12
 obtain ⟨_, _, rfl, hi14⟩ := Zab hi13
 obtain ⟨x34, rfl, hi15⟩ := Zao hi14
 obtain ⟨_, _, rfl, hi16⟩ := Zab hi15
 obtain ⟨x35, rfl, hi17⟩ := Zao hi16
 obtain ⟨rfl, hi18⟩ := Zbg hi17
 have hi := hi18
 exact ⟨a0, n0, c0, e0, x3, i4, o4, a6, n6, c6, e6, x7, x8, x34, x35, rfl, hi⟩
def K0 (Q : QT) : KT := andThen (fun env' h' => (match kp.find 4000013 with | some ks => Den pg fn.ntmps (C [1, 1]) (env'.keep ks) h' (KR Q) | none => den pg fn.ntmps kp (C [1, 1]) env' h' (KR Q))) (KR Q)
def K1 (Q : QT) : KT := Zck 0 (K0 Q)
def K2 (Q : QT) : KT := left kp 2 (K1 Q)
def K3 (Q : QT) (R2 : T2) : KT := rnd ((kp.find 1000002).getD []) (E2 R2) (K2 Q)
def K4 (Q : QT) (R2 : T2) : KT := andThen (fun env' h' => (match kp.find 4000012 with | some ks => Den pg fn.ntmps (C [1, 0, 1, 0, 0, 1, 1, 1]) (env'.keep ks) h' (K3 Q R2) | none => den pg fn.ntmps kp (C [1, 0, 1, 0, 0, 1, 1, 1]) env' h' (K3 Q R2))) (K3 Q R2)
def K5 (Q : QT) (R2 : T2) : KT := Zck 1 (K4 Q R2)
def K6 (Q : QT) (R2 : T2) : KT := Zck 2 (K5 Q R2)
def K7 (Q : QT) (R2 : T2) : KT := left kp 7 (K6 Q R2)
def K8 (Q : QT) (R2 : T2) (R7 : T7) : KT := rnd ((kp.find 1000007).getD []) (E7 R7) (K7 Q R2)
def L2 (Q : QT) (a0 : Pt) (n0 c0 : Nat) (e0 : Bool) (a6 : Pt) (n6 c6 : Nat) (e6 : Bool) (x7 x8 : Int) (h : Zaa) : Prop := Zec (Den pg fn.ntmps (C [1, 0, 1, 0, 0])) ((kp.find 1000002).getD []) (K2 Q) [(0, .slice a0 n0 c0 e0), (6, .slice a6 n6 c6 e6), (7, .int .i64 x7), (8, .int .i64 x8)] h
def J6 (Q : QT) (R2 : T2) (i4 o4 : Nat) (a0 : Pt) (n0 c0 : Nat) (e0 : Bool) (x3 : Int) (a6 : Pt) (n6 c6 : Nat) (e6 : Bool) (x7 x8 : Int) (h : Zaa) : Prop := Den pg fn.ntmps (C [1, 0, 1, 0, 0, 1, 1, 0, 0, 1, 1]) [(4, .ptr (some (i4, o4))), (0, .slice a0 n0 c0 e0), (3, .int .i64 x3), (6, .slice a6 n6 c6 e6), (7, .int .i64 x7), (8, .int .i64 x8)] h (K5 Q R2)
def Zlg (Q : QT) (a0 : Pt) (n0 c0 : Nat) (e0 : Bool) (h : Zaa) : Prop := At (K1 Q) (.exit 0) [(0, .slice a0 n0 c0 e0), (2, .undef)] h
def L7 (Q : QT) (R2 : T2) (a0 : Pt) (n0 c0 : Nat) (e0 : Bool) (x3 : Int) (i4 o4 : Nat) (a6 : Pt) (n6 c6 : Nat) (e6 : Bool) (x7 x8 x34 x35 : Int) (h : Zaa) : Prop := Zec (Den pg fn.ntmps (C [1, 0, 1, 0, 0, 1, 1, 0, 0, 1, 1, 1, 0, 0])) ((kp.find 1000007).getD []) (K7 Q R2) [(0, .slice a0 n0 c0 e0), (3, .int .i64 x3), (4, .ptr (some (i4, o4))), (6, .slice a6 n6 c6 e6), (7, .int .i64 x7), (8, .int .i64 x8), (34, .int .i64 x34), (35, .int .i64 x35)] h
def J11 (Q : QT) (R2 : T2) (R7 : T7) (x35 x34 : Int) (a0 : Pt) (n0 c0 : Nat) (e0 : Bool) (x3 : Int) (i4 o4 : Nat) (x8 x7 : Int) (a6 : Pt) (n6 c6 : Nat) (e6 : Bool) (h : Zaa) : Prop := Den pg fn.ntmps (C [1, 0, 1, 0, 0, 1, 1, 0, 0, 1, 1, 1, 0, 0, 1, 1, 1]) [(35, .int .i64 x35), (34, .int .i64 x34), (0, .slice a0 n0 c0 e0), (3, .int .i64 x3), (4, .ptr (some (i4, o4))), (8, .int .i64 x8), (7, .int .i64 x7), (6, .slice a6 n6 c6 e6)] h (K8 Q R2 R7)
def Ysq (Q : QT) (R2 : T2) (x8 x7 : Int) (a6 : Pt) (n6 c6 : Nat) (e6 : Bool) (a0 : Pt) (n0 c0 : Nat) (e0 : Bool) (h : Zaa) : Prop := At (K6 Q R2) (.exit 2) [(8, .int .i64 x8), (7, .int .i64 x7), (6, .slice a6 n6 c6 e6), (0, .slice a0 n0 c0 e0), (2, .undef)] h
def J12 (Q : QT) (R2 : T2) (x8 x7 : Int) (a6 : Pt) (n6 c6 : Nat) (e6 : Bool) (a0 : Pt) (n0 c0 : Nat) (e0 : Bool) (h : Zaa) : Prop := Den pg fn.ntmps (C [1, 0, 1, 0, 0, 1, 1, 1]) [(8, .int .i64 x8), (7, .int .i64 x7), (6, .slice a6 n6 c6 e6), (0, .slice a0 n0 c0 e0)] h (K3 Q R2)
def L2t (Q : QT) (R2 : T2) (a0 : Pt) (n0 c0 : Nat) (e0 : Bool) (a6 : Pt) (n6 c6 : Nat) (e6 : Bool) (x7 x8 : Int) (h : Zaa) : Prop :=
 bcase (decide ((x8 : Int) < x7)) ((0 ≤ (x8 : Int) ∧ (x8 : Int) < (n6 : Nat)) ∧ (Zbl a6 fun I0 O1 => Zdh (Zbv h (.ptr (some (I0, O1 + (Int.toNat x8) * 2))) 2) fun K2 => Zap K2 fun C3 Z4 => Zbo (some C3) fun S5 => Zap Z4 fun C6 Z7 => Zbo (some C6) fun S8 => Zcr Z7 (Zdc (h ++ [.cells Zbc [.str [], .str []] false]) fun H9 => Zcp (Zbk H9 (.ptr (some (h.length, 0))) [.str S5, .str S8]) fun H10 => Zbo (Zak H10 (.ptr (some (h.length, 0 + 0)))) fun S11 => Zae pg Zlo [.str S11] H10 fun V12 H13 =>
 Zci (some V12) fun B14 => bcase (!B14) ((Zak H13 (.tup []) = Zak H13 (.tup [])) ∧ Q (.bool false) H13) (bcase (decide ((x8 : Int) > 0)) ((0 ≤ (IntKind.wrap .i64 (x8 - 1) : Int) ∧ (IntKind.wrap .i64 (x8 - 1) : Int) < (n0 : Nat)) ∧ (Zbl a0 fun I15 O16 => Zbo (Zak H13 (.ptr (some (I15, O16 + (Int.toNat (IntKind.wrap .i64 (x8 - 1))) * 2 + 0)))) fun S17 => Zbo (Zak H13 (.ptr (some (h.length, 0 + 0)))) fun S18 => (Zak H13 (.ptr (some (I15, O16 + (Int.toNat (IntKind.wrap .i64 (x8 - 1))) * 2 + 0))) = Zak H13 (.ptr (some (I15, O16 + (Int.toNat (IntKind.wrap .i64 (x8 - 1))) * 2 + 0)))) ∧ bcase (!Zeh S17 S18) (Q (.bool false) H13) (J6 Q R2 h.length 0 a0 n0 c0 e0 x8 a6 n6 c6 e6 x7 x8 H13))) ((Zak H13 (.tup []) = Zak H13 (.tup [])) ∧ J6 Q R2 h.length 0 a0 n0 c0 e0 x8 a6 n6 c6 e6 x7 x8 H13))))) (Zlg Q a0 n0 c0 e0 h)
theorem Zhn (Q : QT) (R2 : T2) (a0 : Pt) (n0 c0 : Nat) (e0 : Bool) (a6 : Pt) (n6 c6 : Nat) (e6 : Bool) (x7 x8 : Int) (h : Zaa) (ht : L2t Q R2 a0 n0 c0 e0 a6 n6 c6 e6 x7 x8 h) : Den pg fn.ntmps (C [1, 0, 1, 0, 0]) [(0, .slice a0 n0 c0 e0), (6, .slice a6 n6 c6 e6), (7, .int .i64 x7), (8, .int .i64 x8)] h (K3 Q R2) :=
 Zba (kp := kp) (cast (by kernel_rfl) ht)
theorem L2ind (Q : QT) (a0 : Pt) (n0 c0 : Nat) (e0 : Bool) (a6 : Pt) (n6 c6 : Nat) (e6 : Bool) (x7 : Int) {G : Type} (J : G → Int → Zaa → Prop) (m : G → Nat)
 (hr : ∀ (g : G) (x8 : Int) (h : Zaa), J g x8 h → ∀ (R2 : T2), (∀ g' (x8 : Int) (h : Zaa), m g' < m g → J g' x8 h → R2 a0 n0 c0 e0 a6 n6 c6 e6 x7 x8 h) → L2t Q R2 a0 n0 c0 e0 a6 n6 c6 e6 x7 x8 h)
 (g : G) (x8 : Int) (h : Zaa) (hj : J g x8 h) : L2 Q a0 n0 c0 e0 a6 n6 c6 e6 x7 x8 h := by
 refine Zec.inv2 (fun g => E2 fun a0' n0' c0' e0' a6' n6' c6' e6' x7' x8 h => a0 = a0' ∧ n0 = n0' ∧ c0 = c0' ∧ e0 = e0' ∧ a6 = a6' ∧ n6 = n6' ∧ c6 = c6' ∧ e6 = e6' ∧ x7 = x7' ∧ J g x8 h) (fun g => E2 fun a0' n0' c0' e0' a6' n6' c6' e6' x7' x8 h => a0 = a0' ∧ n0 = n0' ∧ c0 = c0' ∧ e0 = e0' ∧ a6 = a6' ∧ n6 = n6' ∧ c6 = c6' ∧ e6 = e6' ∧ x7 = x7' ∧ ∃ g', m g' < m g ∧ J g' x8 h) m ?_ ?_ g ⟨rfl, rfl, rfl, rfl, rfl, rfl, rfl, rfl, rfl, hj⟩
 ·intro g env h hi
  obtain ⟨a0', n0', c0', e0', a6', n6', c6', e6', x7', x8, rfl, rfl, rfl, rfl, rfl, rfl, rfl, rfl, rfl, rfl, hj⟩ := Zdg hi
  exact Zhn Q _ a0 n0 c0 e0 a6 n6 c6 e6 x7 x8 h (hr g x8 h hj (fun a0' n0' c0' e0' a6' n6' c6' e6' x7' x8 h => a0 = a0' ∧ n0 = n0' ∧ c0 = c0' ∧ e0 = e0' ∧ a6 = a6' ∧ n6 = n6' ∧ c6 = c6' ∧ e6 = e6' ∧ x7 = x7' ∧ ∃ g', m g' < m g ∧ J g' x8 h) fun g' x8 h hlt hj => ⟨rfl, rfl, rfl, rfl, rfl, rfl, rfl, rfl, rfl, g', hlt, hj⟩)
 ·intro g env h hi
  obtain ⟨a0', n0', c0', e0', a6', n6', c6', e6', x7', x8, rfl, rfl, rfl, rfl, rfl, rfl, rfl, rfl, rfl, rfl, g', hlt, hj⟩ := Zdg hi
  exact ⟨g', hlt, rfl, rfl, rfl, rfl, rfl, rfl, rfl, rfl, rfl, hj⟩
theorem J6i (Q : QT) (R2 : T2) (i4 o4 : Nat) (a0 : Pt) (n0 c0 : Nat) (e0 : Bool) (x3 : Int) (a6 : Pt) (n6 c6 : Nat) (e6 : Bool) (x7 x8 : Int) (h : Zaa) (ht :
 Zbo (Zak h (.ptr (some (i4, o4 + 1)))) fun S19 => L7 Q R2 a0 n0 c0 e0 x3 i4 o4 a6 n6 c6 e6 x7 x8 (((List.length S19 : Nat) : Int)) 0 h) : J6 Q R2 i4 o4 a0 n0 c0 e0 x3 a6 n6 c6 e6 x7 x8 h :=
 Zba (kp := kp) (cast (by kernel_rfl) ht)
theorem A2x0i (Q : QT) (a0 : Pt) (n0 c0 : Nat) (e0 : Bool) (h : Zaa) (ht :
 Zae pg Zpe [.int .i64 (((n0 : Nat) : Int)), .int .i64 1, .int .i64 4] h fun V20 H21 =>
 Zci (some V20) fun B22 => Q (.bool B22) H21) : Zlg Q a0 n0 c0 e0 h :=
 At.mk (cast (by kernel_rfl) ht)
def L7t (Q : QT) (R2 : T2) (R7 : T7) (a0 : Pt) (n0 c0 : Nat) (e0 : Bool) (x3 : Int) (i4 o4 : Nat) (a6 : Pt) (n6 c6 : Nat) (e6 : Bool) (x7 x8 x34 x35 : Int) (h : Zaa) : Prop :=
 bcase (decide ((x35 : Int) < x34)) (Zgq a0 n0 c0 e0 2 none (some (.int .i64 x3)) none fun V23 => xSl (some V23) fun A24 N25 C26 E27 => Zbo (Zak h (.ptr (some (i4, o4 + 1)))) fun S28 => (0 ≤ (x35 : Int) ∧ (x35 : Int) ≤ IntKind.wrap .i64 (x35 + 1) ∧ (IntKind.wrap .i64 (x35 + 1) : Int) ≤ (List.length S28 : Nat)) ∧ (Zae pg Zhd [.agg [.slice A24 N25 C26 E27, .slice none 0 0 true], .str (sub S28 x35 (IntKind.wrap .i64 (x35 + 1)))] h fun V29 H30 =>
 Zen .i64 (some V29) fun X31 => bcase (decide ((X31 : Int) < 0)) ((Zak H30 (.tup []) = Zak H30 (.tup [])) ∧ Q (.bool false) H30) (bcase (decide ((x35 : Int) > 0)) (Zbo (Zak H30 (.ptr (some (i4, o4 + 1)))) fun S32 => Zlw S32 (IntKind.wrap .i64 (x35 - 1)) fun B33 => Zbo (Zak H30 (.ptr (some (i4, o4 + 1)))) fun S34 => (Zak H30 (.ptr (some (i4, o4 + 1))) = Zak H30 (.ptr (some (i4, o4 + 1)))) ∧ Zlw S34 x35 fun B35 => bcase (decide (((((B33 : Nat) : Int)) : Int) ≥ (((B35 : Nat) : Int)))) (Q (.bool false) H30) (J11 Q R2 R7 x35 x34 a0 n0 c0 e0 x3 i4 o4 x8 x7 a6 n6 c6 e6 H30)) ((Zak H30 (.tup []) = Zak H30 (.tup [])) ∧ J11 Q R2 R7 x35 x34 a0 n0 c0 e0 x3 i4 o4 x8 x7 a6 n6 c6 e6 H30)))) (Ysq Q R2 x8 x7 a6 n6 c6 e6 a0 n0 c0 e0 h)
theorem Yqi (Q : QT) (R2 : T2) (R7 : T7) (a0 : Pt) (n0 c0 : Nat) (e0 : Bool) (x3 : Int) (i4 o4 : Nat) (a6 : Pt) (n6 c6 : Nat) (e6 : Bool) (x7 x8 x34 x35 : Int) (h : Zaa) (ht : L7t Q R2 R7 a0 n0 c0 e0 x3 i4 o4 a6 n6 c6 e6 x7 x8 x34 x35 h) : Den pg fn.ntmps (C [1, 0, 1, 0, 0, 1, 1, 0, 0, 1, 1, 1, 0, 0]) [(0, .slice a0 n0 c0 e0), (3, .int .i64 x3), (4, .ptr (some (i4, o4))), (6, .slice a6 n6 c6 e6), (7, .int .i64 x7), (8, .int .i64 x8), (34, .int .i64 x34), (35, .int .i64 x35)] h (K8 Q R2 R7) :=
 Zba (kp := kp) (cast (by kernel_rfl) ht)
theorem L7ind (Q : QT) (R2 : T2) (a0 : Pt) (n0 c0 : Nat) (e0 : Bool) (x3 : Int) (i4 o4 : Nat) (a6 : Pt) (n6 c6 : Nat) (e6 : Bool) (x7 x8 x34 : Int) {G : Type} (J : G → Int → Zaa → Prop) (m : G → Nat)
 (hr : ∀ (g : G) (x35 : Int) (h : Zaa), J g x35 h → ∀ (R7 : T7), (∀ g' (x35 : Int) (h : Zaa), m g' < m g → J g' x35 h → R7 a0 n0 c0 e0 x3 i4 o4 a6 n6 c6 e6 x7 x8 x34 x35 h) → L7t Q R2 R7 a0 n0 c0 e0 x3 i4 o4 a6 n6 c6 e6 x7 x8 x34 x35 h)
 (g : G) (x35 : Int) (h : Zaa) (hj : J g x35 h) : L7 Q R2 a0 n0 c0 e0 x3 i4 o4 a6 n6 c6 e6 x7 x8 x34 x35 h := by
 refine Zec.inv2 (fun g => E7 fun a0' n0' c0' e0' x3' i4' o4' a6' n6' c6' e6' x7' x8' x34' x35 h => a0 = a0' ∧ n0 = n0' ∧ c0 = c0' ∧ e0 = e0' ∧ x3 = x3' ∧ i4 = i4' ∧ o4 = o4' ∧ a6 = a6' ∧ n6 = n6' ∧ c6 = c6' ∧ e6 = e6' ∧ x7 = x7' ∧ x8 = x8' ∧ x34 = x34' ∧ J g x35 h) (fun g => E7 fun a0' n0' c0' e0' x3' i4' o4' a6' n6' c6' e6' x7' x8' x34' x35 h => a0 = a0' ∧ n0 = n0' ∧ c0 = c0' ∧ e0 = e0' ∧ x3 = x3' ∧ i4 = i4' ∧ o4 = o4' ∧ a6 = a6' ∧ n6 = n6' ∧ c6 = c6' ∧ e6 = e6' ∧ x7 = x7' ∧ x8 = x8' ∧ x34 = x34' ∧ ∃ g', m g' < m g ∧ J g' x35 h) m ?_ ?_ g ⟨rfl, rfl, rfl, rfl, rfl, rfl, rfl, rfl, rfl, rfl, rfl, rfl, rfl, rfl, hj⟩
 ·intro g env h hi
  obtain ⟨a0', n0', c0', e0', x3', i4', o4', a6', n6', c6', e6', x7', x8', x34', x35, rfl, rfl, rfl, rfl, rfl, rfl, rfl, rfl, rfl, rfl, rfl, rfl, rfl, rfl, rfl, hj⟩ := Ydf hi
  exact Yqi Q R2 (fun a0' n0' c0' e0' x3' i4' o4' a6' n6' c6' e6' x7' x8' x34' x35 h => a0 = a0' ∧ n0 = n0' ∧ c0 = c0' ∧ e0 = e0' ∧ x3 = x3' ∧ i4 = i4' ∧ o4 = o4' ∧ a6 = a6' ∧ n6 = n6' ∧ c6 = c6' ∧ e6 = e6' ∧ x7 = x7' ∧ x8 = x8' ∧ x34 = x34' ∧ ∃ g', m g' < m g ∧ J g' x35 h) a0 n0 c0 e0 x3 i4 o4 a6 n6 c6 e6 x7 x8 x34 x35 h (hr g x35 h hj (fun a0' n0' c0' e0' x3' i4' o4' a6' n6' c6' e6' x7' x8' x34' x35 h => a0 = a0' ∧ n0 = n0' ∧ c0 = c0' ∧ e0 = e0' ∧ x3 = x3' ∧ i4 = i4' ∧ o4 = o4' ∧ a6 = a6' ∧ n6 = n6' ∧ c6 = c6' ∧ e6 = e6' ∧ x7 = x7' ∧ x8 = x8' ∧ x34 = x34' ∧ ∃ g', m g' < m g ∧ J g' x35 h) fun g' x35 h hlt hj => ⟨rfl, rfl, rfl, rfl, rfl, rfl, rfl, rfl, rfl, rfl, rfl, rfl, rfl, rfl, g', hlt, hj⟩)
 ·intro g env h hi
  obtain ⟨a0', n0', c0', e0', x3', i4', o4', a6', n6', c6', e6', x7', x8', x34', x35, rfl, rfl, rfl, rfl, rfl, rfl, rfl, rfl, rfl, rfl, rfl, rfl, rfl, rfl, rfl, g', hlt, hj⟩ := Ydf hi
  exact ⟨g', hlt, rfl, rfl, rfl, rfl, rfl, rfl, rfl, rfl, rfl, rfl, rfl, rfl, rfl, rfl, hj⟩
theorem J11i (Q : QT) (R2 : T2) (R7 : T7) (x35 x34 : Int) (a0 : Pt) (n0 c0 : Nat) (e0 : Bool) (x3 : Int) (i4 o4 : Nat) (x8 x7 : Int) (a6 : Pt) (n6 c6 : Nat) (e6 : Bool) (h : Zaa) (ht :
 R7 a0 n0 c0 e0 x3 i4 o4 a6 n6 c6 e6 x7 x8 x34 (IntKind.wrap .i64 (x35 + 1)) h) : J11 Q R2 R7 x35 x34 a0 n0 c0 e0 x3 i4 o4 x8 x7 a6 n6 c6 e6 h :=
 Zba (kp := kp) (cast (by kernel_rfl) ht)
theorem A7x2i (Q : QT) (R2 : T2) (x8 x7 : Int) (a6 : Pt) (n6 c6 : Nat) (e6 : Bool) (a0 : Pt) (n0 c0 : Nat) (e0 : Bool) (h : Zaa) (ht :
 J12 Q R2 x8 x7 a6 n6 c6 e6 a0 n0 c0 e0 h) : Ysq Q R2 x8 x7 a6 n6 c6 e6 a0 n0 c0 e0 h :=
 At.mk (cast (by kernel_rfl) ht)
theorem J12i (Q : QT) (R2 : T2) (x8 x7 : Int) (a6 : Pt) (n6 c6 : Nat) (e6 : Bool) (a0 : Pt) (n0 c0 : Nat) (e0 : Bool) (h : Zaa) (ht :
 R2 a0 n0 c0 e0 a6 n6 c6 e6 x7 (IntKind.wrap .i64 (x8 + 1)) h) : J12 Q R2 x8 x7 a6 n6 c6 e6 a0 n0 c0 e0 h :=
 Zba (kp := kp) (cast (by kernel_rfl) ht)
theorem call (a0 : Pt) (n0 c0 : Nat) (e0 : Bool) (h : Zaa) (Q : QT) (ht :
 L2 Q a0 n0 c0 e0 a0 n0 c0 e0 (((n0 : Nat) : Int)) 0 h) : Zae pg Zji [.slice a0 n0 c0 e0] h Q :=
 Zae.of_body kp (c := cod fn) (fn := fn) Go.Proofs.Tryz.func66 (by kernel_rfl) (by kernel_rfl) (Nat.le_of_ble_eq_true (by kernel_rfl))
  (cast (by kernel_rfl) ht)
end Zcx
end Go.Sim

set_option maxRecDepth 100000
set_option linter.unusedVariables false
namespace Go.Sim
open Go Go.RowKit
namespace Zog
noncomputable abbrev fn : Func := Go.Proofs.Tryz.f122
def kp : Zbz := []
noncomputable def C (p : List Nat) : Code := (cod fn).sub p
def KR (Q : QT) : KT := Zes pg fn.results.toList Q
theorem call (x0x0 x0x1 : List Nat) (v1 : Zam) (h : Zaa) (Q : QT) (ht :
 Zdc (h ++ [.cells Zbc [.str x0x0, .str x0x1] false]) fun H0 => Zbo (Zak H0 (.ptr (some (h.length, 0 + 0)))) fun S1 => Zbo (Zak H0 (v1)) fun S2 => Q (.bool (decide (S1 = S2))) H0) : Zae pg Zcy [.agg [.str x0x0, .str x0x1], v1] h Q :=
 Zae.of_body kp (c := cod fn) (fn := fn) Go.Proofs.Tryz.func122 (by kernel_rfl) (by kernel_rfl) (Nat.le_of_ble_eq_true (by kernel_rfl))
  (cast (by kernel_rfl) ht)
end Zog
namespace Zbm
noncomputable abbrev fn : Func := Go.Proofs.Tryz.f149
def kp : Zbz := [(3000002, [4]), (1000002, [0, 1, 7, 8])]
noncomputable def C (p : List Nat) : Code := (cod fn).sub p
def KR (Q : QT) : KT := Zes pg fn.results.toList Q
abbrev T2 := Pt → Nat → Nat → Bool → Zam → Int → Int → Zaa → Prop
def E2 (R2 : T2) (env : Env) (h : Zaa) : Prop := Zbs 0 env fun v env => xSl (some v) fun a0 n0 c0 e0 => Zbs 1 env fun v env => eFn Zcy v fun cs => Zap cs fun c cs' => Zwj (some c) fun v1x0 => Zcr cs' (Zbs 7 env fun v env => Zee .i64 v fun x7 => Zbs 8 env fun v env => Zee .i64 v fun x8 => Zje env (R2 a0 n0 c0 e0 v1x0 x7 x8 h))
theorem Zdg {R2 : T2} {env : Env} {h : Zaa} (hi : E2 R2 env h) : ∃ a0, ∃ n0, ∃ c0, ∃ e0, ∃ v1x0, ∃ x7, ∃ x8, env = [(0, .slice a0 n0 c0 e0), (1, .fn Zcy [v1x0]), (7, .int .i64 x7), (8, .int .i64 x8)] ∧ R2 a0 n0 c0 e0 v1x0 x7 x8 h := by
 unfold E2 at hi
 have hi0 := hi
 clear hi
 obtain ⟨_, _, rfl, hi1⟩ := Zab hi0
 obtain ⟨a0, n0, c0, e0, rfl, hi2⟩ := Zbf hi1
 obtain ⟨_, _, rfl, hi3⟩ := Zab hi2
 obtain ⟨cs, rfl, hi4⟩ := Zti hi3
 obtain ⟨c, cs', rfl, hi5⟩ := Zjo hi4
 obtain ⟨v1x0, hx, hi6⟩ := Zhk hi5
 replace hx := (Option.some.inj hx).symm
 subst hx
 obtain ⟨rfl, hi7⟩ := Zqk hi6
 obtain ⟨_, _, rfl, hi8⟩ := Zab hi7
 obtain ⟨x7, rfl, hi9⟩ := Zao hi8
 obtain ⟨_, _, rfl, hi10⟩ := Zab hi9
 obtain ⟨x8, rfl, hi11⟩ := Zao hi10
 obtain ⟨rfl, hi12⟩ := Zbg hi11
 have hi := hi12
 exact ⟨a0, n0, c0, e0, v1x0, x7, x8, rfl, hi⟩
def K0 (Q : QT) : KT := andThen (fun env' h' => (match kp.find 4000007 with | some ks => Den pg fn.ntmps (C [1, 1]) (env'.keep ks) h' (KR Q) | none => den pg fn.ntmps kp (C [1, 1]) env' h' (KR Q))) (KR Q)
def K1 (Q : QT) : KT := Zck 0 (K0 Q)
def K2 (Q : QT) : KT := left kp 2 (K1 Q)
def K3 (Q : QT) (R2 : T2) : KT := rnd ((kp.find 1000002).getD []) (E2 R2) (K2 Q)
def L2 (Q : QT) (a0 : Pt) (n0 c0 : Nat) (e0 : Bool) (v1x0 : Zam) (x7 x8 : Int) (h : Zaa) : Prop := Zec (Den pg fn.ntmps (C [1, 0, 1, 0, 0])) ((kp.find 1000002).getD []) (K2 Q) [(0, .slice a0 n0 c0 e0), (1, .fn Zcy [v1x0]), (7, .int .i64 x7), (8, .int .i64 x8)] h
def Zlg (Q : QT) (h : Zaa) : Prop := At (K1 Q) (.exit 0) [(4, .undef)] h
def L2t (Q : QT) (R2 : T2) (a0 : Pt) (n0 c0 : Nat) (e0 : Bool) (v1x0 : Zam) (x7 x8 : Int) (h : Zaa) : Prop :=
 bcase (decide ((x8 : Int) < x7)) ((0 ≤ (x8 : Int) ∧ (x8 : Int) < (n0 : Nat)) ∧ (Zbl a0 fun I0 O1 => Zdh (Zbv h (.ptr (some (I0, O1 + (Int.toNat x8) * 2))) 2) fun K2 => Zap K2 fun C3 Z4 => Zbo (some C3) fun S5 => Zap Z4 fun C6 Z7 => Zbo (some C6) fun S8 => Zcr Z7 (Zae pg Zcy [.agg [.str S5, .str S8], v1x0] h fun V9 H10 =>
 Zci (some V9) fun B11 => bcase B11 (Q (.int .i64 x8) H10) (R2 a0 n0 c0 e0 v1x0 x7 (IntKind.wrap .i64 (x8 + 1)) H10)))) (Zlg Q h)
theorem Zhn (Q : QT) (R2 : T2) (a0 : Pt) (n0 c0 : Nat) (e0 : Bool) (v1x0 : Zam) (x7 x8 : Int) (h : Zaa) (ht : L2t Q R2 a0 n0 c0 e0 v1x0 x7 x8 h) : Den pg fn.ntmps (C [1, 0, 1, 0, 0]) [(0, .slice a0 n0 c0 e0), (1, .fn Zcy [v1x0]), (7, .int .i64 x7), (8, .int .i64 x8)] h (K3 Q R2) :=
 Zba (kp := kp) (cast (by kernel_rfl) ht)
theorem L2ind (Q : QT) (a0 : Pt) (n0 c0 : Nat) (e0 : Bool) (v1x0 : Zam) (x7 : Int) {G : Type} (J : G → Int → Zaa → Prop) (m : G → Nat)
 (hr : ∀ (g : G) (x8 : Int) (h : Zaa), J g x8 h → ∀ (R2 : T2), (∀ g' (x8 : Int) (h : Zaa), m g' < m g → J g' x8 h → R2 a0 n0 c0 e0 v1x0 x7 x8 h) → L2t Q R2 a0 n0 c0 e0 v1x0 x7 x8 h)
 (g : G) (x8 : Int) (h : Zaa) (hj : J g x8 h) : L2 Q a0 n0 c0 e0 v1x0 x7 x8 h := by
 refine Zec.inv2 (fun g => E2 fun a0' n0' c0' e0' v1x0' x7' x8 h => a0 = a0' ∧ n0 = n0' ∧ c0 = c0' ∧ e0 = e0' ∧ v1x0 = v1x0' ∧ x7 = x7' ∧ J g x8 h) (fun g => E2 fun a0' n0' c0' e0' v1x0' x7' x8 h => a0 = a0' ∧ n0 = n0' ∧ c0 = c0' ∧ e0 = e0' ∧ v1x0 = v1x0' ∧ x7 = x7' ∧ ∃ g', m g' < m g ∧ J g' x8 h) m ?_ ?_ g ⟨rfl, rfl, rfl, rfl, rfl, rfl, hj⟩
 ·intro g env h hi
  obtain ⟨a0', n0', c0', e0', v1x0', x7', x8, rfl, rfl, rfl, rfl, rfl, rfl, rfl, hj⟩ := Zdg hi
  exact Zhn Q _ a0 n0 c0 e0 v1x0 x7 x8 h (hr g x8 h hj (fun a0' n0' c0' e0' v1x0' x7' x8 h => a0 = a0' ∧ n0 = n0' ∧ c0 = c0' ∧ e0 = e0' ∧ v1x0 = v1x0' ∧ x7 = x7' ∧ ∃ g', m g' < m g ∧ J g' x8 h) fun g' x8 h hlt hj => ⟨rfl, rfl, rfl, rfl, rfl, rfl, g', hlt, hj⟩)
 ·intro g env h hi
  obtain ⟨a0', n0', c0', e0', v1x0', x7', x8, rfl, rfl, rfl, rfl, rfl, rfl, rfl, g', hlt, hj⟩ := Zdg hi
  exact ⟨g', hlt, rfl, rfl, rfl, rfl, rfl, rfl, hj⟩
theorem A2x0i (Q : QT) (h : Zaa) (ht :
 Q (.int .i64 (-1)) h) : Zlg Q h :=
 At.mk (cast (by kernel_rfl) ht)
theorem call (a0 : Pt) (n0 c0 : Nat) (e0 : Bool) (v1x0 : Zam) (h : Zaa) (Q : QT) (ht :
 L2 Q a0 n0 c0 e0 v1x0 (((n0 : Nat) : Int)) 0 h) : Zae pg Zdk [.slice a0 n0 c0 e0, .fn Zcy [v1x0]] h Q :=
 Zae.of_body kp (c := cod fn) (fn := fn) Go.Proofs.Tryz.func149 (by kernel_rfl) (by kernel_rfl) (Nat.le_of_ble_eq_true (by kernel_rfl))
  (cast (by kernel_rfl) ht)
end Zbm
namespace Zut
noncomputable abbrev fn : Func := Go.Proofs.Tryz.f88
def kp : Zbz := []
noncomputable def C (p : List Nat) : Code := (cod fn).sub p
def KR (Q : QT) : KT := Zes pg fn.results.toList Q
theorem call (a0 : Pt) (n0 c0 : Nat) (e0 : Bool) (x1 : List Nat) (h : Zaa) (Q : QT) (ht :
 Zdc (h ++ [.cells Zcm [.str x1] false]) fun H0 => Zae pg Zej [.slice a0 n0 c0 e0, .fn Zcy [.ptr (some (h.length, 0))]] H0 fun V1 H2 =>
 Zci (some V1) fun B3 => Q (.bool B3) H2) : Zae pg Zlh [.slice a0 n0 c0 e0, .str x1] h Q :=
 Zae.of_body kp (c := cod fn) (fn := fn) Go.Proofs.Tryz.func88 (by kernel_rfl) (by kernel_rfl) (Nat.le_of_ble_eq_true (by kernel_rfl))
  (cast (by kernel_rfl) ht)
end Zut
namespace Zdb
noncomputable abbrev fn : Func := Go.Proofs.Tryz.f121
def kp : Zbz := []
noncomputable def C (p : List Nat) : Code := (cod fn).sub p
def KR (Q : QT) : KT := Zes pg fn.results.toList Q
theorem call (a0 : Pt) (n0 c0 : Nat) (e0 : Bool) (v1x0 : Zam) (h : Zaa) (Q : QT) (ht :
 Zae pg Zdk [.slice a0 n0 c0 e0, .fn Zcy [v1x0]] h fun V0 H1 =>
 Zen .i64 (some V0) fun X2 => Q (.bool (decide ((X2 : Int) ≥ 0))) H1) : Zae pg Zej [.slice a0 n0 c0 e0, .fn Zcy [v1x0]] h Q :=
 Zae.of_body kp (c := cod fn) (fn := fn) Go.Proofs.Tryz.func121 (by kernel_rfl) (by kernel_rfl) (Nat.le_of_ble_eq_true (by kernel_rfl))
  (cast (by kernel_rfl) ht)
end Zdb
namespace Zis
noncomputable abbrev fn : Func := Go.Proofs.Tryz.f81
def kp : Zbz := [(3000002, [4]), (1000002, [1, 8, 9, 10])]
noncomputable def C (p : List Nat) : Code := (cod fn).sub p
def KR (Q : QT) : KT := Zes pg fn.results.toList Q
abbrev T2 := List Nat → Pt → Nat → Nat → Bool → Int → Int → Zaa → Prop
def E2 (R2 : T2) (env : Env) (h : Zaa) : Prop := Zbs 1 env fun v env => Zbo (some v) fun x1 => Zbs 8 env fun v env => xSl (some v) fun a8 n8 c8 e8 => Zbs 9 env fun v env => Zee .i64 v fun x9 => Zbs 10 env fun v env => Zee .i64 v fun x10 => Zje env (R2 x1 a8 n8 c8 e8 x9 x10 h)
theorem Zdg {R2 : T2} {env : Env} {h : Zaa} (hi : E2 R2 env h) : ∃ x1, ∃ a8, ∃ n8, ∃ c8, ∃ e8, ∃ x9, ∃ x10, env = [(1, .str x1), (8, .slice a8 n8 c8 e8), (9, .int .i64 x9), (10, .int .i64 x10)] ∧ R2 x1 a8 n8 c8 e8 x9 x10 h := by
 unfold E2 at hi
 have hi0 := hi
 clear hi
 obtain ⟨_, _, rfl, hi1⟩ := Zab hi0
 obtain ⟨x1, rfl, hi2⟩ := Zel hi1
 obtain ⟨_, _, rfl, hi3⟩ := Zab hi2
 obtain ⟨a8, n8, c8, e8, rfl, hi4⟩ := Zbf hi3
 obtain ⟨_, _, rfl, hi5⟩ := Zab hi4
 obtain ⟨x9, rfl, hi6⟩ := Zao hi5
 obtain ⟨_, _, rfl, hi7⟩ := Zab hi6
 obtain ⟨x10, rfl, hi8⟩ := Zao hi7
 obtain ⟨rfl, hi9⟩ := Zbg hi8
 have hi := hi9
 exact ⟨x1, a8, n8, c8, e8, x9, x10, rfl, hi⟩
def K0 (Q : QT) : KT := andThen (fun env' h' => (match kp.find 4000007 with | some ks => Den pg fn.ntmps (C [1, 1]) (env'.keep ks) h' (KR Q) | none => den pg fn.ntmps kp (C [1, 1]) env' h' (KR Q))) (KR Q)
def K1 (Q : QT) : KT := Zck 0 (K0 Q)
def K2 (Q : QT) : KT := left kp 2 (K1 Q)
def K3 (Q : QT) (R2 : T2) : KT := rnd ((kp.find 1000002).getD []) (E2 R2) (K2 Q)
def L2 (Q : QT) (x1 : List Nat) (a8 : Pt) (n8 c8 : Nat) (e8 : Bool) (x9 x10 : Int) (h : Zaa) : Prop := Zec (Den pg fn.ntmps (C [1, 0, 1, 0, 0])) ((kp.find 1000002).getD []) (K2 Q) [(1, .str x1), (8, .slice a8 n8 c8 e8), (9, .int .i64 x9), (10, .int .i64 x10)] h
def Zlg (Q : QT) (h : Zaa) : Prop := At (K1 Q) (.exit 0) [(4, .undef)] h
def L2t (Q : QT) (R2 : T2) (x1 : List Nat) (a8 : Pt) (n8 c8 : Nat) (e8 : Bool) (x9 x10 : Int) (h : Zaa) : Prop :=
 bcase (decide ((x10 : Int) < x9)) ((0 ≤ (x10 : Int) ∧ (x10 : Int) < (n8 : Nat)) ∧ (Zbl a8 fun I5 O6 => Zdh (Zbv h (.ptr (some (I5, O6 + (Int.toNat x10) * 2))) 2) fun K7 => Zap K7 fun C8 Z9 => Zbo (some C8) fun S10 => Zap Z9 fun C11 Z12 => Zbo (some C11) fun S13 => Zcr Z12 (Zdc (h ++ [.cells Zbc [.str [], .str []] false]) fun H14 => Zcp (Zbk H14 (.ptr (some (h.length, 0))) [.str S10, .str S13]) fun H15 => Zbo (Zak H15 (.ptr (some (h.length, 0 + 0)))) fun S16 => bcase (decide (S16 = x1)) (Q (.int .i64 x10) H15) (R2 x1 a8 n8 c8 e8 x9 (IntKind.wrap .i64 (x10 + 1)) H15)))) (Zlg Q h)
theorem Zhn (Q : QT) (R2 : T2) (x1 : List Nat) (a8 : Pt) (n8 c8 : Nat) (e8 : Bool) (x9 x10 : Int) (h : Zaa) (ht : L2t Q R2 x1 a8 n8 c8 e8 x9 x10 h) : Den pg fn.ntmps (C [1, 0, 1, 0, 0]) [(1, .str x1), (8, .slice a8 n8 c8 e8), (9, .int .i64 x9), (10, .int .i64 x10)] h (K3 Q R2) :=
 Zba (kp := kp) (cast (by kernel_rfl) ht)
theorem L2ind (Q : QT) (x1 : List Nat) (a8 : Pt) (n8 c8 : Nat) (e8 : Bool) (x9 : Int) {G : Type} (J : G → Int → Zaa → Prop) (m : G → Nat)
 (hr : ∀ (g : G) (x10 : Int) (h : Zaa), J g x10 h → ∀ (R2 : T2), (∀ g' (x10 : Int) (h : Zaa), m g' < m g → J g' x10 h → R2 x1 a8 n8 c8 e8 x9 x10 h) → L2t Q R2 x1 a8 n8 c8 e8 x9 x10 h)
 (g : G) (x10 : Int) (h : Zaa) (hj : J g x10 h) : L2 Q x1 a8 n8 c8 e8 x9 x10 h := by
 refine Zec.inv2 (fun g => E2 fun x1' a8' n8' c8' e8' x9' x10 h => x1 = x1' ∧ a8 = a8' ∧ n8 = n8' ∧ c8 = c8' ∧ e8 = e8' ∧ x9 = x9' ∧ J g x10 h) (fun g => E2 fun x1' a8' n8' c8' e8' x9' x10 h => x1 = x1' ∧ a8 = a8' ∧ n8 = n8' ∧ c8 = c8' ∧ e8 = e8' ∧ x9 = x9' ∧ ∃ g', m g' < m g ∧ J g' x10 h) m ?_ ?_ g ⟨rfl, rfl, rfl, rfl, rfl, rfl, hj⟩
 ·intro g env h hi
  obtain ⟨x1', a8', n8', c8', e8', x9', x10, rfl, rfl, rfl, rfl, rfl, rfl, rfl, hj⟩ := Zdg hi
  exact Zhn Q _ x1 a8 n8 c8 e8 x9 x10 h (hr g x10 h hj (fun x1' a8' n8' c8' e8' x9' x10 h => x1 = x1' ∧ a8 = a8' ∧ n8 = n8' ∧ c8 = c8' ∧ e8 = e8' ∧ x9 = x9' ∧ ∃ g', m g' < m g ∧ J g' x10 h) fun g' x10 h hlt hj => ⟨rfl, rfl, rfl, rfl, rfl, rfl, g', hlt, hj⟩)
 ·intro g env h hi
  obtain ⟨x1', a8', n8', c8', e8', x9', x10, rfl, rfl, rfl, rfl, rfl, rfl, rfl, g', hlt, hj⟩ := Zdg hi
  exact ⟨g', hlt, rfl, rfl, rfl, rfl, rfl, rfl, hj⟩
theorem A2x0i (Q : QT) (h : Zaa) (ht :
 Q (.int .i64 (-1)) h) : Zlg Q h :=
 At.mk (cast (by kernel_rfl) ht)
theorem call (a0x0 : Pt) (n0x0 c0x0 : Nat) (e0x0 : Bool) (a0x1 : Pt) (n0x1 c0x1 : Nat) (e0x1 : Bool) (x1 : List Nat) (h : Zaa) (Q : QT) (ht :
 Zdc (h ++ [.cells Zaf [.slice a0x0 n0x0 c0x0 e0x0, .slice a0x1 n0x1 c0x1 e0x1] false]) fun H0 => xSl (Zak H0 (.ptr (some (h.length, 0 + 0)))) fun A1 N2 C3 E4 => L2 Q x1 A1 N2 C3 E4 (((N2 : Nat) : Int)) 0 H0) : Zae pg Zhd [.agg [.slice a0x0 n0x0 c0x0 e0x0, .slice a0x1 n0x1 c0x1 e0x1], .str x1] h Q :=
 Zae.of_body kp (c := cod fn) (fn := fn) Go.Proofs.Tryz.func81 (by kernel_rfl) (by kernel_rfl) (Nat.le_of_ble_eq_true (by kernel_rfl))
  (cast (by kernel_rfl) ht)
end Zis
namespace Zcz
noncomputable abbrev fn : Func := Go.Proofs.Tryz.f67
def kp : Zbz := [(3000002, [1, 2]), (1000002, [1, 7, 8, 9]), (2000004, [33, 4, 1, 3, 7, 8, 9]), (4000006, [4, 1, 3, 7, 8, 9]), (3000007, [9, 8, 7, 1, 2]), (1000007, [1, 3, 4, 7, 8, 9, 36, 37]), (2000009, [67, 37, 36, 1, 3, 4, 9, 8, 7]), (4000011, [37, 36, 1, 3, 4, 9, 8, 7]), (4000012, [9, 8, 7, 1])]
noncomputable def C (p : List Nat) : Code := (cod fn).sub p
def KR (Q : QT) : KT := Zes pg fn.results.toList Q
abbrev T2 := Nat → Nat → Pt → Nat → Nat → Bool → Int → Int → Zaa → Prop
def E2 (R2 : T2) (env : Env) (h : Zaa) : Prop := Zbs 1 env fun v env => Zii (some v) fun a => Zbl a fun i1 o1 => Zbs 7 env fun v env => xSl (some v) fun a7 n7 c7 e7 => Zbs 8 env fun v env => Zee .i64 v fun x8 => Zbs 9 env fun v env => Zee .i64 v fun x9 => Zje env (R2 i1 o1 a7 n7 c7 e7 x8 x9 h)
theorem Zdg {R2 : T2} {env : Env} {h : Zaa} (hi : E2 R2 env h) : ∃ i1, ∃ o1, ∃ a7, ∃ n7, ∃ c7, ∃ e7, ∃ x8, ∃ x9, env = [(1, .ptr (some (i1, o1))), (7, .slice a7 n7 c7 e7), (8, .int .i64 x8), (9, .int .i64 x9)] ∧ R2 i1 o1 a7 n7 c7 e7 x8 x9 h := by
 unfold E2 at hi
 have hi0 := hi
 clear hi
 obtain ⟨_, _, rfl, hi1⟩ := Zab hi0
 obtain ⟨a, rfl, hi2⟩ := Zbw hi1
 obtain ⟨i1, o1, rfl, hi3⟩ := Zbp hi2
 obtain ⟨_, _, rfl, hi4⟩ := Zab hi3
 obtain ⟨a7, n7, c7, e7, rfl, hi5⟩ := Zbf hi4
 obtain ⟨_, _, rfl, hi6⟩ := Zab hi5
 obtain ⟨x8, rfl, hi7⟩ := Zao hi6
 obtain ⟨_, _, rfl, hi8⟩ := Zab hi7
 obtain ⟨x9, rfl, hi9⟩ := Zao hi8
 obtain ⟨rfl, hi10⟩ := Zbg hi9
 have hi := hi10
 exact ⟨i1, o1, a7, n7, c7, e7, x8, x9, rfl, hi⟩
abbrev T7 := Nat → Nat → Int → Nat → Nat → Pt → Nat → Nat → Bool → Int → Int → Int → Int → Zaa → Prop
def E7 (R7 : T7) (env : Env) (h : Zaa) : Prop := Zbs 1 env fun v env => Zii (some v) fun a => Zbl a fun i1 o1 => Zbs 3 env fun v env => Zee .i64 v fun x3 => Zbs 4 env fun v env => Zii (some v) fun a => Zbl a fun i4 o4 => Zbs 7 env fun v env => xSl (some v) fun a7 n7 c7 e7 => Zbs 8 env fun v env => Zee .i64 v fun x8 => Zbs 9 env fun v env => Zee .i64 v fun x9 => Zbs 36 env fun v env => Zee .i64 v fun x36 => Zbs 37 env fun v env => Zee .i64 v fun x37 => Zje env (R7 i1 o1 x3 i4 o4 a7 n7 c7 e7 x8 x9 x36 x37 h)
theorem Ydf {R7 : T7} {env : Env} {h : Zaa} (hi : E7 R7 env h) : ∃ i1, ∃ o1, ∃ x3, ∃ i4, ∃ o4, ∃ a7, ∃ n7, ∃ c7, ∃ e7, ∃ x8, ∃ x9, ∃ x36, ∃ x37, env = [(1, .ptr (some (i1, o1))), (3, .int .i64 x3), (4, .ptr (some (i4, o4))), (7, .slice a7 n7 c7 e7), (8, .int .i64 x8), (9, .int .i64 x9), (36, .int .i64 x36), (37, .int .i64 x37)] ∧ R7 i1 o1 x3 i4 o4 a7 n7 c7 e7 x8 x9 x36 x37 h := by
 unfold E7 at hi
 have hi0 := hi
 clear hi
 obtain ⟨_, _, rfl, hi1⟩ := Zab hi0
 obtain ⟨a, rfl, hi2⟩ := Zbw hi1
 obtain ⟨i1, o1, rfl, hi3⟩ := Zbp hi2
 obtain ⟨_, _, rfl, hi4⟩ := Zab hi3
 obtain ⟨x3, rfl, hi5⟩ := Zao hi4
 obtain ⟨_, _, rfl, hi6⟩ := Zab hi5
 obtain ⟨a, rfl, hi7⟩ := Zbw hi6
 obtain ⟨i4, o4, rfl, hi8⟩ := Zbp hi7
 obtain ⟨_, _, rfl, hi9⟩ := Zab hi8
 obtain ⟨a7, n7, c7, e7, rfl, hi10⟩ := Zbf hi9
 obtain ⟨_, _, rfl, hi11⟩ := Zab hi10
 obtain ⟨x8, rfl, hi12⟩ := Zao hi11
 obtain ⟨_, _, rfl, hi13⟩ := Zab hi12
 obtain ⟨x9, rfl, hi14⟩ := Zao hi13
 obtain ⟨_, _, rfl, hi15⟩ := Zab hi14
 obtain ⟨x36, rfl, hi16⟩ := Zao hi15
 obtain ⟨_, _, rfl, hi17⟩ := Zab hi16
 obtain ⟨x37, rfl, hi18⟩ := Zao hi17
 obtain ⟨rfl, hi19⟩ := Zbg hi18
 have hi := hi19
 exact ⟨i1, o1, x3, i4, o4, a7, n7, c7, e7, x8, x9, x36, x37, rfl, hi⟩
def K0 (Q : QT) : KT := andThen (fun env' h' => (match kp.find 4000013 with | some ks => Den pg fn.ntmps (C [1, 1]) (env'.keep ks) h' (KR Q) | none => den pg fn.ntmps kp (C [1, 1]) env' h' (KR Q))) (KR Q)
def K1 (Q : QT) : KT := Zck 0 (K0 Q)
def K2 (Q : QT) : KT := left kp 2 (K1 Q)
def K3 (Q : QT) (R2 : T2) : KT := rnd ((kp.find 1000002).getD []) (E2 R2) (K2 Q)
def K4 (Q : QT) (R2 : T2) : KT := andThen (fun env' h' => (match kp.find 4000012 with | some ks => Den pg fn.ntmps (C [1, 0, 1, 0, 0, 1, 1, 1]) (env'.keep ks) h' (K3 Q R2) | none => den pg fn.ntmps kp (C [1, 0, 1, 0, 0, 1, 1, 1]) env' h' (K3 Q R2))) (K3 Q R2)
def K5 (Q : QT) (R2 : T2) : KT := Zck 1 (K4 Q R2)
def K6 (Q : QT) (R2 : T2) : KT := Zck 2 (K5 Q R2)
def K7 (Q : QT) (R2 : T2) : KT := left kp 7 (K6 Q R2)
def K8 (Q : QT) (R2 : T2) (R7 : T7) : KT := rnd ((kp.find 1000007).getD []) (E7 R7) (K7 Q R2)
def L2 (Q : QT) (i1 o1 : Nat) (a7 : Pt) (n7 c7 : Nat) (e7 : Bool) (x8 x9 : Int) (h : Zaa) : Prop := Zec (Den pg fn.ntmps (C [1, 0, 1, 0, 0])) ((kp.find 1000002).getD []) (K2 Q) [(1, .ptr (some (i1, o1))), (7, .slice a7 n7 c7 e7), (8, .int .i64 x8), (9, .int .i64 x9)] h
def J6 (Q : QT) (R2 : T2) (i4 o4 i1 o1 : Nat) (x3 : Int) (a7 : Pt) (n7 c7 : Nat) (e7 : Bool) (x8 x9 : Int) (h : Zaa) : Prop := Den pg fn.ntmps (C [1, 0, 1, 0, 0, 1, 1, 0, 0, 1, 1]) [(4, .ptr (some (i4, o4))), (1, .ptr (some (i1, o1))), (3, .int .i64 x3), (7, .slice a7 n7 c7 e7), (8, .int .i64 x8), (9, .int .i64 x9)] h (K5 Q R2)
def Zlg (Q : QT) (i1 o1 : Nat) (h : Zaa) : Prop := At (K1 Q) (.exit 0) [(1, .ptr (some (i1, o1))), (2, .undef)] h
def L7 (Q : QT) (R2 : T2) (i1 o1 : Nat) (x3 : Int) (i4 o4 : Nat) (a7 : Pt) (n7 c7 : Nat) (e7 : Bool) (x8 x9 x36 x37 : Int) (h : Zaa) : Prop := Zec (Den pg fn.ntmps (C [1, 0, 1, 0, 0, 1, 1, 0, 0, 1, 1, 1, 0, 0])) ((kp.find 1000007).getD []) (K7 Q R2) [(1, .ptr (some (i1, o1))), (3, .int .i64 x3), (4, .ptr (some (i4, o4))), (7, .slice a7 n7 c7 e7), (8, .int .i64 x8), (9, .int .i64 x9), (36, .int .i64 x36), (37, .int .i64 x37)] h
def J11 (Q : QT) (R2 : T2) (R7 : T7) (x37 x36 : Int) (i1 o1 : Nat) (x3 : Int) (i4 o4 : Nat) (x9 x8 : Int) (a7 : Pt) (n7 c7 : Nat) (e7 : Bool) (h : Zaa) : Prop := Den pg fn.ntmps (C [1, 0, 1, 0, 0, 1, 1, 0, 0, 1, 1, 1, 0, 0, 1, 1, 1]) [(37, .int .i64 x37), (36, .int .i64 x36), (1, .ptr (some (i1, o1))), (3, .int .i64 x3), (4, .ptr (some (i4, o4))), (9, .int .i64 x9), (8, .int .i64 x8), (7, .slice a7 n7 c7 e7)] h (K8 Q R2 R7)
def Ysq (Q : QT) (R2 : T2) (x9 x8 : Int) (a7 : Pt) (n7 c7 : Nat) (e7 : Bool) (i1 o1 : Nat) (h : Zaa) : Prop := At (K6 Q R2) (.exit 2) [(9, .int .i64 x9), (8, .int .i64 x8), (7, .slice a7 n7 c7 e7), (1, .ptr (some (i1, o1))), (2, .undef)] h
def J12 (Q : QT) (R2 : T2) (x9 x8 : Int) (a7 : Pt) (n7 c7 : Nat) (e7 : Bool) (i1 o1 : Nat) (h : Zaa) : Prop := Den pg fn.ntmps (C [1, 0, 1, 0, 0, 1, 1, 1]) [(9, .int .i64 x9), (8, .int .i64 x8), (7, .slice a7 n7 c7 e7), (1, .ptr (some (i1, o1)))] h (K3 Q R2)
def L2t (Q : QT) (R2 : T2) (i1 o1 : Nat) (a7 : Pt) (n7 c7 : Nat) (e7 : Bool) (x8 x9 : Int) (h : Zaa) : Prop :=
 bcase (decide ((x9 : Int) < x8)) ((0 ≤ (x9 : Int) ∧ (x9 : Int) < (n7 : Nat)) ∧ (Zbl a7 fun I5 O6 => Zdh (Zbv h (.ptr (some (I5, O6 + (Int.toNat x9) * 2))) 2) fun K7 => Zap K7 fun C8 Z9 => Zbo (some C8) fun S10 => Zap Z9 fun C11 Z12 => Zbo (some C11) fun S13 => Zcr Z12 (Zdc (h ++ [.cells Zbc [.str [], .str []] false]) fun H14 => Zcp (Zbk H14 (.ptr (some (h.length, 0))) [.str S10, .str S13]) fun H15 => Zbo (Zak H15 (.ptr (some (h.length, 0 + 0)))) fun S16 => Zae pg Znu [.str S16] H15 fun V17 H18 =>
 Zci (some V17) fun B19 => bcase (!B19) ((Zak H18 (.tup []) = Zak H18 (.tup [])) ∧ (Zak H18 (.tup []) = Zak H18 (.tup [])) ∧ Q (.bool false) H18) (bcase (decide ((x9 : Int) > 0)) (xSl (Zak H18 (.ptr (some (i1, o1 + 0)))) fun A20 N21 C22 E23 => (0 ≤ (IntKind.wrap .i64 (x9 - 1) : Int) ∧ (IntKind.wrap .i64 (x9 - 1) : Int) < (N21 : Nat)) ∧ (Zbl A20 fun I24 O25 => Zbo (Zak H18 (.ptr (some (I24, O25 + (Int.toNat (IntKind.wrap .i64 (x9 - 1))) * 2 + 0)))) fun S26 => Zbo (Zak H18 (.ptr (some (h.length, 0 + 0)))) fun S27 => (Zak H18 (.ptr (some (I24, O25 + (Int.toNat (IntKind.wrap .i64 (x9 - 1))) * 2 + 0))) = Zak H18 (.ptr (some (I24, O25 + (Int.toNat (IntKind.wrap .i64 (x9 - 1))) * 2 + 0)))) ∧ (Zak H18 (.ptr (some (i1, o1 + 0))) = Zak H18 (.ptr (some (i1, o1 + 0)))) ∧ bcase (!Zeh S26 S27) (Q (.bool false) H18) (J6 Q R2 h.length 0 i1 o1 x9 a7 n7 c7 e7 x8 x9 H18))) ((Zak H18 (.tup []) = Zak H18 (.tup [])) ∧ (Zak H18 (.tup []) = Zak H18 (.tup [])) ∧ J6 Q R2 h.length 0 i1 o1 x9 a7 n7 c7 e7 x8 x9 H18))))) (Zlg Q i1 o1 h)
theorem Zhn (Q : QT) (R2 : T2) (i1 o1 : Nat) (a7 : Pt) (n7 c7 : Nat) (e7 : Bool) (x8 x9 : Int) (h : Zaa) (ht : L2t Q R2 i1 o1 a7 n7 c7 e7 x8 x9 h) : Den pg fn.ntmps (C [1, 0, 1, 0, 0]) [(1, .ptr (some (i1, o1))), (7, .slice a7 n7 c7 e7), (8, .int .i64 x8), (9, .int .i64 x9)] h (K3 Q R2) :=
 Zba (kp := kp) (cast (by kernel_rfl) ht)
theorem L2ind (Q : QT) (i1 o1 : Nat) (a7 : Pt) (n7 c7 : Nat) (e7 : Bool) (x8 : Int) {G : Type} (J : G → Int → Zaa → Prop) (m : G → Nat)
 (hr : ∀ (g : G) (x9 : Int) (h : Zaa), J g x9 h → ∀ (R2 : T2), (∀ g' (x9 : Int) (h : Zaa), m g' < m g → J g' x9 h → R2 i1 o1 a7 n7 c7 e7 x8 x9 h) → L2t Q R2 i1 o1 a7 n7 c7 e7 x8 x9 h)
 (g : G) (x9 : Int) (h : Zaa) (hj : J g x9 h) : L2 Q i1 o1 a7 n7 c7 e7 x8 x9 h := by
 refine Zec.inv2 (fun g => E2 fun i1' o1' a7' n7' c7' e7' x8' x9 h => i1 = i1' ∧ o1 = o1' ∧ a7 = a7' ∧ n7 = n7' ∧ c7 = c7' ∧ e7 = e7' ∧ x8 = x8' ∧ J g x9 h) (fun g => E2 fun i1' o1' a7' n7' c7' e7' x8' x9 h => i1 = i1' ∧ o1 = o1' ∧ a7 = a7' ∧ n7 = n7' ∧ c7 = c7' ∧ e7 = e7' ∧ x8 = x8' ∧ ∃ g', m g' < m g ∧ J g' x9 h) m ?_ ?_ g ⟨rfl, rfl, rfl, rfl, rfl, rfl, rfl, hj⟩
 ·intro g env h hi
  obtain ⟨i1', o1', a7', n7', c7', e7', x8', x9, rfl, rfl, rfl, rfl, rfl, rfl, rfl, rfl, hj⟩ := Zdg hi
  exact Zhn Q _ i1 o1 a7 n7 c7 e7 x8 x9 h (hr g x9 h hj (fun i1' o1' a7' n7' c7' e7' x8' x9 h => i1 = i1' ∧ o1 = o1' ∧ a7 = a7' ∧ n7 = n7' ∧ c7 = c7' ∧ e7 = e7' ∧ x8 = x8' ∧ ∃ g', m g' < m g ∧ J g' x9 h) fun g' x9 h hlt hj => ⟨rfl, rfl, rfl, rfl, rfl, rfl, rfl, g', hlt, hj⟩)
 ·intro g env h hi
  obtain ⟨i1', o1', a7', n7', c7', e7', x8', x9, rfl, rfl, rfl, rfl, rfl, rfl, rfl, rfl, g', hlt, hj⟩ := Zdg hi
  exact ⟨g', hlt, rfl, rfl, rfl, rfl, rfl, rfl, rfl, hj⟩
theorem J6i (Q : QT) (R2 : T2) (i4 o4 i1 o1 : Nat) (x3 : Int) (a7 : Pt) (n7 c7 : Nat) (e7 : Bool) (x8 x9 : Int) (h : Zaa) (ht :
 Zbo (Zak h (.ptr (some (i4, o4 + 1)))) fun S28 => L7 Q R2 i1 o1 x3 i4 o4 a7 n7 c7 e7 x8 x9 (((List.length S28 : Nat) : Int)) 0 h) : J6 Q R2 i4 o4 i1 o1 x3 a7 n7 c7 e7 x8 x9 h :=
 Zba (kp := kp) (cast (by kernel_rfl) ht)
theorem A2x0i (Q : QT) (i1 o1 : Nat) (h : Zaa) (ht :
 xSl (Zak h (.ptr (some (i1, o1 + 0)))) fun A29 N30 C31 E32 => bcase (decide (((((N30 : Nat) : Int)) : Int) ≥ 1)) (xSl (Zak h (.ptr (some (i1, o1 + 0)))) fun A33 N34 C35 E36 => Q (.bool (decide (((((N34 : Nat) : Int)) : Int) ≤ 4))) h) (Q (.bool false) h)) : Zlg Q i1 o1 h :=
 At.mk (cast (by kernel_rfl) ht)
def L7t (Q : QT) (R2 : T2) (R7 : T7) (i1 o1 : Nat) (x3 : Int) (i4 o4 : Nat) (a7 : Pt) (n7 c7 : Nat) (e7 : Bool) (x8 x9 x36 x37 : Int) (h : Zaa) : Prop :=
 bcase (decide ((x37 : Int) < x36)) (xSl (Zak h (.ptr (some (i1, o1 + 0)))) fun A37 N38 C39 E40 => Zgq A37 N38 C39 E40 2 none (some (.int .i64 x3)) none fun V41 => xSl (some V41) fun A42 N43 C44 E45 => Zbo (Zak h (.ptr (some (i4, o4 + 1)))) fun S46 => (Zak h (.ptr (some (i1, o1 + 0))) = Zak h (.ptr (some (i1, o1 + 0)))) ∧ (0 ≤ (x37 : Int) ∧ (x37 : Int) ≤ IntKind.wrap .i64 (x37 + 1) ∧ (IntKind.wrap .i64 (x37 + 1) : Int) ≤ (List.length S46 : Nat)) ∧ (Zae pg Zlh [.slice A42 N43 C44 E45, .str (sub S46 x37 (IntKind.wrap .i64 (x37 + 1)))] h fun V47 H48 =>
 Zci (some V47) fun B49 => (Zak H48 (.ptr (some (i1, o1 + 0))) = Zak h (.ptr (some (i1, o1 + 0)))) ∧ bcase (!B49) ((Zak H48 (.tup []) = Zak H48 (.tup [])) ∧ (Zak H48 (.ptr (some (i1, o1 + 0))) = Zak H48 (.ptr (some (i1, o1 + 0)))) ∧ Q (.bool false) H48) (bcase (decide ((x37 : Int) > 0)) (Zbo (Zak H48 (.ptr (some (i4, o4 + 1)))) fun S50 => Zlw S50 (IntKind.wrap .i64 (x37 - 1)) fun B51 => Zbo (Zak H48 (.ptr (some (i4, o4 + 1)))) fun S52 => (Zak H48 (.ptr (some (i4, o4 + 1))) = Zak H48 (.ptr (some (i4, o4 + 1)))) ∧ (Zak H48 (.ptr (some (i1, o1 + 0))) = Zak H48 (.ptr (some (i1, o1 + 0)))) ∧ Zlw S52 x37 fun B53 => bcase (decide (((((B51 : Nat) : Int)) : Int) ≥ (((B53 : Nat) : Int)))) (Q (.bool false) H48) (J11 Q R2 R7 x37 x36 i1 o1 x3 i4 o4 x9 x8 a7 n7 c7 e7 H48)) ((Zak H48 (.tup []) = Zak H48 (.tup [])) ∧ (Zak H48 (.ptr (some (i1, o1 + 0))) = Zak H48 (.ptr (some (i1, o1 + 0)))) ∧ J11 Q R2 R7 x37 x36 i1 o1 x3 i4 o4 x9 x8 a7 n7 c7 e7 H48)))) (Ysq Q R2 x9 x8 a7 n7 c7 e7 i1 o1 h)
theorem Yqi (Q : QT) (R2 : T2) (R7 : T7) (i1 o1 : Nat) (x3 : Int) (i4 o4 : Nat) (a7 : Pt) (n7 c7 : Nat) (e7 : Bool) (x8 x9 x36 x37 : Int) (h : Zaa) (ht : L7t Q R2 R7 i1 o1 x3 i4 o4 a7 n7 c7 e7 x8 x9 x36 x37 h) : Den pg fn.ntmps (C [1, 0, 1, 0, 0, 1, 1, 0, 0, 1, 1, 1, 0, 0]) [(1, .ptr (some (i1, o1))), (3, .int .i64 x3), (4, .ptr (some (i4, o4))), (7, .slice a7 n7 c7 e7), (8, .int .i64 x8), (9, .int .i64 x9), (36, .int .i64 x36), (37, .int .i64 x37)] h (K8 Q R2 R7) :=
 Zba (kp := kp) (cast (by kernel_rfl) ht)
theorem L7ind (Q : QT) (R2 : T2) (i1 o1 : Nat) (x3 : Int) (i4 o4 : Nat) (a7 : Pt) (n7 c7 : Nat) (e7 : Bool) (x8 x9 x36 : Int) {G : Type} (J : G → Int → Zaa → Prop) (m : G → Nat)
 (hr : ∀ (g : G) (x37 : Int) (h : Zaa), J g x37 h → ∀ (R7 : T7), (∀ g' (x37 : Int) (h : Zaa), m g' < m g → J g' x37 h → R7 i1 o1 x3 i4 o4 a7 n7 c7 e7 x8 x9 x36 x37 h) → L7t Q R2 R7 i1 o1 x3 i4 o4 a7 n7 c7 e7 x8 x9 x36 x37 h)
 (g : G) (x37 : Int) (h : Zaa) (hj : J g x37 h) : L7 Q R2 i1 o1 x3 i4 o4 a7 n7 c7 e7 x8 x9 x36 x37 h := by
 refine Zec.inv2 (fun g => E7 fun i1' o1' x3' i4' o4' a7' n7' c7' e7' x8' x9' x36' x37 h => i1 = i1' ∧ o1 = o1' ∧ x3 = x3' ∧ i4 = i4' ∧ o4 = o4' ∧ a7 = a7' ∧ n7 = n7' ∧ c7 = c7' ∧ e7 = e7' ∧ x8 = x8' ∧ x9 = x9' ∧ x36 = x36' ∧ J g x37 h) (fun g => E7 fun i1' o1' x3' i4' o4' a7' n7' c7' e7' x8' x9' x36' x37 h => i1 = i1' ∧ o1 = o1' ∧ x3 = x3' ∧ i4 = i4' ∧ o4 = o4' ∧ a7 = a7' ∧ n7 = n7' ∧ c7 = c7' ∧ e7 = e7' ∧ x8 = x8' ∧ x9 = x9' ∧ x36 = x36' ∧ ∃ g', m g' < m g ∧ J g' x37 h) m ?_ ?_ g ⟨rfl, rfl, rfl, rfl, rfl, rfl, rfl, rfl, rfl, rfl, rfl, rfl, hj⟩
 ·intro g env h hi
  obtain ⟨i1', o1', x3', i4', o4', a7', n7', c7', e7', x8', x9', x36', x37, rfl, rfl, rfl, rfl, rfl, rfl, rfl, rfl, rfl, rfl, rfl, rfl, rfl, hj⟩ := Ydf hi
  exact Yqi Q R2 (fun i1' o1' x3' i4' o4' a7' n7' c7' e7' x8' x9' x36' x37 h => i1 = i1' ∧ o1 = o1' ∧ x3 = x3' ∧ i4 = i4' ∧ o4 = o4' ∧ a7 = a7' ∧ n7 = n7' ∧ c7 = c7' ∧ e7 = e7' ∧ x8 = x8' ∧ x9 = x9' ∧ x36 = x36' ∧ ∃ g', m g' < m g ∧ J g' x37 h) i1 o1 x3 i4 o4 a7 n7 c7 e7 x8 x9 x36 x37 h (hr g x37 h hj (fun i1' o1' x3' i4' o4' a7' n7' c7' e7' x8' x9' x36' x37 h => i1 = i1' ∧ o1 = o1' ∧ x3 = x3' ∧ i4 = i4' ∧ o4 = o4' ∧ a7 = a7' ∧ n7 = n7' ∧ c7 = c7' ∧ e7 = e7' ∧ x8 = x8' ∧ x9 = x9' ∧ x36 = x36' ∧ ∃ g', m g' < m g ∧ J g' x37 h) fun g' x37 h hlt hj => ⟨rfl, rfl, rfl, rfl, rfl, rfl, rfl, rfl, rfl, rfl, rfl, rfl, g', hlt, hj⟩)
 ·intro g env h hi
  obtain ⟨i1', o1', x3', i4', o4', a7', n7', c7', e7', x8', x9', x36', x37, rfl, rfl, rfl, rfl, rfl, rfl, rfl, rfl, rfl, rfl, rfl, rfl, rfl, g', hlt, hj⟩ := Ydf hi
  exact ⟨g', hlt, rfl, rfl, rfl, rfl, rfl, rfl, rfl, rfl, rfl, rfl, rfl, rfl, hj⟩
theorem J11i (Q : QT) (R2 : T2) (R7 : T7) (x37 x36 : Int) (i1 o1 : Nat) (x3 : Int) (i4 o4 : Nat) (x9 x8 : Int) (a7 : Pt) (n7 c7 : Nat) (e7 : Bool) (h : Zaa) (ht :
 R7 i1 o1 x3 i4 o4 a7 n7 c7 e7 x8 x9 x36 (IntKind.wrap .i64 (x37 + 1)) h) : J11 Q R2 R7 x37 x36 i1 o1 x3 i4 o4 x9 x8 a7 n7 c7 e7 h :=
 Zba (kp := kp) (cast (by kernel_rfl) ht)
theorem A7x2i (Q : QT) (R2 : T2) (x9 x8 : Int) (a7 : Pt) (n7 c7 : Nat) (e7 : Bool) (i1 o1 : Nat) (h : Zaa) (ht :
 J12 Q R2 x9 x8 a7 n7 c7 e7 i1 o1 h) : Ysq Q R2 x9 x8 a7 n7 c7 e7 i1 o1 h :=
 At.mk (cast (by kernel_rfl) ht)
theorem J12i (Q : QT) (R2 : T2) (x9 x8 : Int) (a7 : Pt) (n7 c7 : Nat) (e7 : Bool) (i1 o1 : Nat) (h : Zaa) (ht :
 R2 i1 o1 a7 n7 c7 e7 x8 (IntKind.wrap .i64 (x9 + 1)) h) : J12 Q R2 x9 x8 a7 n7 c7 e7 i1 o1 h :=
 Zba (kp := kp) (cast (by kernel_rfl) ht)
theorem call (a0x0 : Pt) (n0x0 c0x0 : Nat) (e0x0 : Bool) (a0x1 : Pt) (n0x1 c0x1 : Nat) (e0x1 : Bool) (h : Zaa) (Q : QT) (ht :
 Zdc (h ++ [.cells Zaf [.slice a0x0 n0x0 c0x0 e0x0, .slice a0x1 n0x1 c0x1 e0x1] false]) fun H0 => xSl (Zak H0 (.ptr (some (h.length, 0 + 0)))) fun A1 N2 C3 E4 => L2 Q h.length 0 A1 N2 C3 E4 (((N2 : Nat) : Int)) 0 H0) : Zae pg Zjh [.agg [.slice a0x0 n0x0 c0x0 e0x0, .slice a0x1 n0x1 c0x1 e0x1]] h Q :=
 Zae.of_body kp (c := cod fn) (fn := fn) Go.Proofs.Tryz.func67 (by kernel_rfl) (by kernel_rfl) (Nat.le_of_ble_eq_true (by kernel_rfl))
  (cast (by kernel_rfl) ht)
end Zcz
end Go.Sim
