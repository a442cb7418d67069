/- A part of the proof of a statement of this seat: see the text that holds the theorem. No condition. -/
import Derived.Test.YtlljbdepamknoaaGreatNm
set_option linter.unusedVariables false
set_option linter.unusedSimpArgs false
set_option linter.all false
set_option maxRecDepth 100000
set_option linter.unusedVariables false
namespace Go.Sim
open Go Go.RowKit
namespace Zlv
noncomputable abbrev fn : Func := Go.Proofs.Tryz.f126
def kp : Zcf := []
noncomputable def C (p : List Nat) : Code := (cod fn).sub p
def KR (Q : QT) : KT := Zey pg fn.results.toList Q
theorem call (x0x0 x0x1 : List Nat) (v1 : Zan) (h : Zaa) (Q : QT) (ht :
 Zdb (h ++ [.cells Zbr [.str x0x0, .str x0x1] false]) fun H0 => Zbo (Zae H0 (.ptr (some (h.length, 0 + 0)))) fun S1 => Zbo (Zae H0 (v1)) fun S2 => Q (.bool (decide (S1 = S2))) H0) : Zad pg Zcl [.agg [.str x0x0, .str x0x1], v1] h Q :=
  Zad.of_body kp (c := cod fn) (fn := fn) Go.Proofs.Tryz.func126 (by kernel_rfl) (by kernel_rfl) (Nat.le_of_ble_eq_true (by kernel_rfl))
    (cast (by kernel_rfl) ht)
end Zlv
namespace Zbg
noncomputable abbrev fn : Func := Go.Proofs.Tryz.f152
def kp : Zcf := [(3000002, [4]), (1000002, [0, 1, 7, 8])]
noncomputable def C (p : List Nat) : Code := (cod fn).sub p
def KR (Q : QT) : KT := Zey pg fn.results.toList Q
abbrev T2 := Pt → Nat → Nat → Bool → Zan → Int → Int → Zaa → Prop
def E2 (R2 : T2) (env : Env) (h : Zaa) : Prop := Zcc 0 env fun v env => xSl (some v) fun a0 n0 c0 e0 => Zcc 1 env fun v env => eFn Zcl v fun cs => Zaj cs fun c cs' => Zyl (some c) fun v1x0 => Zcg cs' (Zcc 7 env fun v env => Zeo .i64 v fun x7 => Zcc 8 env fun v env => Zeo .i64 v fun x8 => Zkg env (R2 a0 n0 c0 e0 v1x0 x7 x8 h))
theorem Zet {R2 : T2} {env : Env} {h : Zaa} (hi : E2 R2 env h) : ∃ a0, ∃ n0, ∃ c0, ∃ e0, ∃ v1x0, ∃ x7, ∃ x8, env = [(0, .slice a0 n0 c0 e0), (1, .fn Zcl [v1x0]), (7, .int .i64 x7), (8, .int .i64 x8)] ∧ R2 a0 n0 c0 e0 v1x0 x7 x8 h := by
  unfold E2 at hi
  have hi0 := hi
  clear hi
  obtain ⟨_, _, rfl, hi1⟩ := Zab hi0
  obtain ⟨a0, n0, c0, e0, rfl, hi2⟩ := Zbl hi1
  obtain ⟨_, _, rfl, hi3⟩ := Zab hi2
  obtain ⟨cs, rfl, hi4⟩ := Ybk hi3
  obtain ⟨c, cs', rfl, hi5⟩ := Zvp hi4
  obtain ⟨v1x0, hx, hi6⟩ := Znr hi5
  replace hx := (Option.some.inj hx).symm
  subst hx
  obtain ⟨rfl, hi7⟩ := Zzb hi6
  obtain ⟨_, _, rfl, hi8⟩ := Zab hi7
  obtain ⟨x7, rfl, hi9⟩ := Zaw hi8
  obtain ⟨_, _, rfl, hi10⟩ := Zab hi9
  obtain ⟨x8, rfl, hi11⟩ := Zaw hi10
  obtain ⟨rfl, hi12⟩ := Zbn hi11
  have hi := hi12
  exact ⟨a0, n0, c0, e0, v1x0, x7, x8, rfl, hi⟩
def K0 (Q : QT) : KT := andThen (fun env' h' => (match kp.find 4000007 with | some ks => Den pg fn.ntmps (C [1, 1]) (env'.keep ks) h' (KR Q) | none => den pg fn.ntmps kp (C [1, 1]) env' h' (KR Q))) (KR Q)
def K1 (Q : QT) : KT := Zcr 0 (K0 Q)
def K2 (Q : QT) : KT := left kp 2 (K1 Q)
def K3 (Q : QT) (R2 : T2) : KT := rnd ((kp.find 1000002).getD []) (E2 R2) (K2 Q)
def L2 (Q : QT) (a0 : Pt) (n0 c0 : Nat) (e0 : Bool) (v1x0 : Zan) (x7 x8 : Int) (h : Zaa) : Prop := Zeg (Den pg fn.ntmps (C [1, 0, 1, 0, 0])) ((kp.find 1000002).getD []) (K2 Q) [(0, .slice a0 n0 c0 e0), (1, .fn Zcl [v1x0]), (7, .int .i64 x7), (8, .int .i64 x8)] h
def Zpx (Q : QT) (h : Zaa) : Prop := At (K1 Q) (.exit 0) [(4, .undef)] h
def L2t (Q : QT) (R2 : T2) (a0 : Pt) (n0 c0 : Nat) (e0 : Bool) (v1x0 : Zan) (x7 x8 : Int) (h : Zaa) : Prop :=
 bcase (decide ((x8 : Int) < x7)) ((0 ≤ (x8 : Int) ∧ (x8 : Int) < (n0 : Nat)) ∧ (Zbi a0 fun I0 O1 => Zcx (Zbp h (.ptr (some (I0, O1 + (Int.toNat x8) * 2))) 2) fun K2 => Zaj K2 fun C3 Z4 => Zbo (some C3) fun S5 => Zaj Z4 fun C6 Z7 => Zbo (some C6) fun S8 => Zcg Z7 (Zad pg Zcl [.agg [.str S5, .str S8], v1x0] h fun V9 H10 =>
 Zbx (some V9) fun B11 => bcase B11 (Q (.int .i64 x8) H10) (R2 a0 n0 c0 e0 v1x0 x7 (IntKind.wrap .i64 (x8 + 1)) H10)))) (Zpx Q h)
theorem Zmy (Q : QT) (R2 : T2) (a0 : Pt) (n0 c0 : Nat) (e0 : Bool) (v1x0 : Zan) (x7 x8 : Int) (h : Zaa) (ht : L2t Q R2 a0 n0 c0 e0 v1x0 x7 x8 h) : Den pg fn.ntmps (C [1, 0, 1, 0, 0]) [(0, .slice a0 n0 c0 e0), (1, .fn Zcl [v1x0]), (7, .int .i64 x7), (8, .int .i64 x8)] h (K3 Q R2) :=
  Zbc (kp := kp) (cast (by kernel_rfl) ht)
theorem L2ind (Q : QT) (a0 : Pt) (n0 c0 : Nat) (e0 : Bool) (v1x0 : Zan) (x7 : Int) {G : Type} (J : G → Int → Zaa → Prop) (m : G → Nat)
 (hr : ∀ (g : G) (x8 : Int) (h : Zaa), J g x8 h → ∀ (R2 : T2), (∀ g' (x8 : Int) (h : Zaa), m g' < m g → J g' x8 h → R2 a0 n0 c0 e0 v1x0 x7 x8 h) → L2t Q R2 a0 n0 c0 e0 v1x0 x7 x8 h)
 (g : G) (x8 : Int) (h : Zaa) (hj : J g x8 h) : L2 Q a0 n0 c0 e0 v1x0 x7 x8 h := by
  refine Zeg.inv2 (fun g => E2 fun a0' n0' c0' e0' v1x0' x7' x8 h => a0 = a0' ∧ n0 = n0' ∧ c0 = c0' ∧ e0 = e0' ∧ v1x0 = v1x0' ∧ x7 = x7' ∧ J g x8 h) (fun g => E2 fun a0' n0' c0' e0' v1x0' x7' x8 h => a0 = a0' ∧ n0 = n0' ∧ c0 = c0' ∧ e0 = e0' ∧ v1x0 = v1x0' ∧ x7 = x7' ∧ ∃ g', m g' < m g ∧ J g' x8 h) m ?_ ?_ g ⟨rfl, rfl, rfl, rfl, rfl, rfl, hj⟩
  · intro g env h hi
    obtain ⟨a0', n0', c0', e0', v1x0', x7', x8, rfl, rfl, rfl, rfl, rfl, rfl, rfl, hj⟩ := Zet hi
    exact Zmy Q _ a0 n0 c0 e0 v1x0 x7 x8 h (hr g x8 h hj (fun a0' n0' c0' e0' v1x0' x7' x8 h => a0 = a0' ∧ n0 = n0' ∧ c0 = c0' ∧ e0 = e0' ∧ v1x0 = v1x0' ∧ x7 = x7' ∧ ∃ g', m g' < m g ∧ J g' x8 h) fun g' x8 h hlt hj => ⟨rfl, rfl, rfl, rfl, rfl, rfl, g', hlt, hj⟩)
  · intro g env h hi
    obtain ⟨a0', n0', c0', e0', v1x0', x7', x8, rfl, rfl, rfl, rfl, rfl, rfl, rfl, g', hlt, hj⟩ := Zet hi
    exact ⟨g', hlt, rfl, rfl, rfl, rfl, rfl, rfl, hj⟩
theorem A2x0i (Q : QT) (h : Zaa) (ht :
 Q (.int .i64 (-1)) h) : Zpx Q h :=
  At.mk (cast (by kernel_rfl) ht)
theorem call (a0 : Pt) (n0 c0 : Nat) (e0 : Bool) (v1x0 : Zan) (h : Zaa) (Q : QT) (ht :
 L2 Q a0 n0 c0 e0 v1x0 (((n0 : Nat) : Int)) 0 h) : Zad pg Zcy [.slice a0 n0 c0 e0, .fn Zcl [v1x0]] h Q :=
  Zad.of_body kp (c := cod fn) (fn := fn) Go.Proofs.Tryz.func152 (by kernel_rfl) (by kernel_rfl) (Nat.le_of_ble_eq_true (by kernel_rfl))
    (cast (by kernel_rfl) ht)
end Zbg
namespace Zsb
noncomputable abbrev fn : Func := Go.Proofs.Tryz.f89
def kp : Zcf := []
noncomputable def C (p : List Nat) : Code := (cod fn).sub p
def KR (Q : QT) : KT := Zey pg fn.results.toList Q
theorem call (a0 : Pt) (n0 c0 : Nat) (e0 : Bool) (x1 : List Nat) (h : Zaa) (Q : QT) (ht :
 Zdb (h ++ [.cells Zcz [.str x1] false]) fun H0 => Zad pg Zdm [.slice a0 n0 c0 e0, .fn Zcl [.ptr (some (h.length, 0))]] H0 fun V1 H2 =>
 Zbx (some V1) fun B3 => Q (.bool B3) H2) : Zad pg Zhx [.slice a0 n0 c0 e0, .str x1] h Q :=
  Zad.of_body kp (c := cod fn) (fn := fn) Go.Proofs.Tryz.func89 (by kernel_rfl) (by kernel_rfl) (Nat.le_of_ble_eq_true (by kernel_rfl))
    (cast (by kernel_rfl) ht)
end Zsb
namespace Zco
noncomputable abbrev fn : Func := Go.Proofs.Tryz.f125
def kp : Zcf := []
noncomputable def C (p : List Nat) : Code := (cod fn).sub p
def KR (Q : QT) : KT := Zey pg fn.results.toList Q
theorem call (a0 : Pt) (n0 c0 : Nat) (e0 : Bool) (v1x0 : Zan) (h : Zaa) (Q : QT) (ht :
 Zad pg Zcy [.slice a0 n0 c0 e0, .fn Zcl [v1x0]] h fun V0 H1 =>
 Zdd .i64 (some V0) fun X2 => Q (.bool (decide ((X2 : Int) ≥ 0))) H1) : Zad pg Zdm [.slice a0 n0 c0 e0, .fn Zcl [v1x0]] h Q :=
  Zad.of_body kp (c := cod fn) (fn := fn) Go.Proofs.Tryz.func125 (by kernel_rfl) (by kernel_rfl) (Nat.le_of_ble_eq_true (by kernel_rfl))
    (cast (by kernel_rfl) ht)
end Zco
namespace Zhl
noncomputable abbrev fn : Func := Go.Proofs.Tryz.f121
def kp : Zcf := [(3000002, [4]), (1000002, [1, 8, 9, 10])]
noncomputable def C (p : List Nat) : Code := (cod fn).sub p
def KR (Q : QT) : KT := Zey pg fn.results.toList Q
abbrev T2 := List Nat → Pt → Nat → Nat → Bool → Int → Int → Zaa → Prop
def E2 (R2 : T2) (env : Env) (h : Zaa) : Prop := Zcc 1 env fun v env => Zbo (some v) fun x1 => Zcc 8 env fun v env => xSl (some v) fun a8 n8 c8 e8 => Zcc 9 env fun v env => Zeo .i64 v fun x9 => Zcc 10 env fun v env => Zeo .i64 v fun x10 => Zkg env (R2 x1 a8 n8 c8 e8 x9 x10 h)
theorem Zet {R2 : T2} {env : Env} {h : Zaa} (hi : E2 R2 env h) : ∃ x1, ∃ a8, ∃ n8, ∃ c8, ∃ e8, ∃ x9, ∃ x10, env = [(1, .str x1), (8, .slice a8 n8 c8 e8), (9, .int .i64 x9), (10, .int .i64 x10)] ∧ R2 x1 a8 n8 c8 e8 x9 x10 h := by
  unfold E2 at hi
  have hi0 := hi
  clear hi
  obtain ⟨_, _, rfl, hi1⟩ := Zab hi0
  obtain ⟨x1, rfl, hi2⟩ := Zea hi1
  obtain ⟨_, _, rfl, hi3⟩ := Zab hi2
  obtain ⟨a8, n8, c8, e8, rfl, hi4⟩ := Zbl hi3
  obtain ⟨_, _, rfl, hi5⟩ := Zab hi4
  obtain ⟨x9, rfl, hi6⟩ := Zaw hi5
  obtain ⟨_, _, rfl, hi7⟩ := Zab hi6
  obtain ⟨x10, rfl, hi8⟩ := Zaw hi7
  obtain ⟨rfl, hi9⟩ := Zbn hi8
  have hi := hi9
  exact ⟨x1, a8, n8, c8, e8, x9, x10, rfl, hi⟩
def K0 (Q : QT) : KT := andThen (fun env' h' => (match kp.find 4000007 with | some ks => Den pg fn.ntmps (C [1, 1]) (env'.keep ks) h' (KR Q) | none => den pg fn.ntmps kp (C [1, 1]) env' h' (KR Q))) (KR Q)
def K1 (Q : QT) : KT := Zcr 0 (K0 Q)
def K2 (Q : QT) : KT := left kp 2 (K1 Q)
def K3 (Q : QT) (R2 : T2) : KT := rnd ((kp.find 1000002).getD []) (E2 R2) (K2 Q)
def L2 (Q : QT) (x1 : List Nat) (a8 : Pt) (n8 c8 : Nat) (e8 : Bool) (x9 x10 : Int) (h : Zaa) : Prop := Zeg (Den pg fn.ntmps (C [1, 0, 1, 0, 0])) ((kp.find 1000002).getD []) (K2 Q) [(1, .str x1), (8, .slice a8 n8 c8 e8), (9, .int .i64 x9), (10, .int .i64 x10)] h
def Zpx (Q : QT) (h : Zaa) : Prop := At (K1 Q) (.exit 0) [(4, .undef)] h
def L2t (Q : QT) (R2 : T2) (x1 : List Nat) (a8 : Pt) (n8 c8 : Nat) (e8 : Bool) (x9 x10 : Int) (h : Zaa) : Prop :=
 bcase (decide ((x10 : Int) < x9)) ((0 ≤ (x10 : Int) ∧ (x10 : Int) < (n8 : Nat)) ∧ (Zbi a8 fun I5 O6 => Zcx (Zbp h (.ptr (some (I5, O6 + (Int.toNat x10) * 2))) 2) fun K7 => Zaj K7 fun C8 Z9 => Zbo (some C8) fun S10 => Zaj Z9 fun C11 Z12 => Zbo (some C11) fun S13 => Zcg Z12 (Zdb (h ++ [.cells Zbr [.str [], .str []] false]) fun H14 => Zcb (Zbd H14 (.ptr (some (h.length, 0))) [.str S10, .str S13]) fun H15 => Zbo (Zae H15 (.ptr (some (h.length, 0 + 0)))) fun S16 => bcase (decide (S16 = x1)) (Q (.int .i64 x10) H15) (R2 x1 a8 n8 c8 e8 x9 (IntKind.wrap .i64 (x10 + 1)) H15)))) (Zpx Q h)
theorem Zmy (Q : QT) (R2 : T2) (x1 : List Nat) (a8 : Pt) (n8 c8 : Nat) (e8 : Bool) (x9 x10 : Int) (h : Zaa) (ht : L2t Q R2 x1 a8 n8 c8 e8 x9 x10 h) : Den pg fn.ntmps (C [1, 0, 1, 0, 0]) [(1, .str x1), (8, .slice a8 n8 c8 e8), (9, .int .i64 x9), (10, .int .i64 x10)] h (K3 Q R2) :=
  Zbc (kp := kp) (cast (by kernel_rfl) ht)
theorem L2ind (Q : QT) (x1 : List Nat) (a8 : Pt) (n8 c8 : Nat) (e8 : Bool) (x9 : Int) {G : Type} (J : G → Int → Zaa → Prop) (m : G → Nat)
 (hr : ∀ (g : G) (x10 : Int) (h : Zaa), J g x10 h → ∀ (R2 : T2), (∀ g' (x10 : Int) (h : Zaa), m g' < m g → J g' x10 h → R2 x1 a8 n8 c8 e8 x9 x10 h) → L2t Q R2 x1 a8 n8 c8 e8 x9 x10 h)
 (g : G) (x10 : Int) (h : Zaa) (hj : J g x10 h) : L2 Q x1 a8 n8 c8 e8 x9 x10 h := by
  refine Zeg.inv2 (fun g => E2 fun x1' a8' n8' c8' e8' x9' x10 h => x1 = x1' ∧ a8 = a8' ∧ n8 = n8' ∧ c8 = c8' ∧ e8 = e8' ∧ x9 = x9' ∧ J g x10 h) (fun g => E2 fun x1' a8' n8' c8' e8' x9' x10 h => x1 = x1' ∧ a8 = a8' ∧ n8 = n8' ∧ c8 = c8' ∧ e8 = e8' ∧ x9 = x9' ∧ ∃ g', m g' < m g ∧ J g' x10 h) m ?_ ?_ g ⟨rfl, rfl, rfl, rfl, rfl, rfl, hj⟩
  · intro g env h hi
    obtain ⟨x1', a8', n8', c8', e8', x9', x10, rfl, rfl, rfl, rfl, rfl, rfl, rfl, hj⟩ := Zet hi
    exact Zmy Q _ x1 a8 n8 c8 e8 x9 x10 h (hr g x10 h hj (fun x1' a8' n8' c8' e8' x9' x10 h => x1 = x1' ∧ a8 = a8' ∧ n8 = n8' ∧ c8 = c8' ∧ e8 = e8' ∧ x9 = x9' ∧ ∃ g', m g' < m g ∧ J g' x10 h) fun g' x10 h hlt hj => ⟨rfl, rfl, rfl, rfl, rfl, rfl, g', hlt, hj⟩)
  · intro g env h hi
    obtain ⟨x1', a8', n8', c8', e8', x9', x10, rfl, rfl, rfl, rfl, rfl, rfl, rfl, g', hlt, hj⟩ := Zet hi
    exact ⟨g', hlt, rfl, rfl, rfl, rfl, rfl, rfl, hj⟩
theorem A2x0i (Q : QT) (h : Zaa) (ht :
 Q (.int .i64 (-1)) h) : Zpx Q h :=
  At.mk (cast (by kernel_rfl) ht)
theorem call (a0x0 : Pt) (n0x0 c0x0 : Nat) (e0x0 : Bool) (a0x1 : Pt) (n0x1 c0x1 : Nat) (e0x1 : Bool) (x1 : List Nat) (h : Zaa) (Q : QT) (ht :
 Zdb (h ++ [.cells Zam [.slice a0x0 n0x0 c0x0 e0x0, .slice a0x1 n0x1 c0x1 e0x1] false]) fun H0 => xSl (Zae H0 (.ptr (some (h.length, 0 + 0)))) fun A1 N2 C3 E4 => L2 Q x1 A1 N2 C3 E4 (((N2 : Nat) : Int)) 0 H0) : Zad pg Zfv [.agg [.slice a0x0 n0x0 c0x0 e0x0, .slice a0x1 n0x1 c0x1 e0x1], .str x1] h Q :=
  Zad.of_body kp (c := cod fn) (fn := fn) Go.Proofs.Tryz.func121 (by kernel_rfl) (by kernel_rfl) (Nat.le_of_ble_eq_true (by kernel_rfl))
    (cast (by kernel_rfl) ht)
end Zhl
namespace Zck
noncomputable abbrev fn : Func := Go.Proofs.Tryz.f57
def kp : Zcf := [(3000002, [1, 2]), (1000002, [1, 7, 8, 9]), (2000004, [33, 4, 1, 3, 7, 8, 9]), (4000006, [4, 1, 3, 7, 8, 9]), (3000007, [9, 8, 7, 1, 2]), (1000007, [1, 3, 4, 7, 8, 9, 36, 37]), (2000009, [67, 37, 36, 1, 3, 4, 9, 8, 7]), (4000011, [37, 36, 1, 3, 4, 9, 8, 7]), (4000012, [9, 8, 7, 1])]
noncomputable def C (p : List Nat) : Code := (cod fn).sub p
def KR (Q : QT) : KT := Zey pg fn.results.toList Q
abbrev T2 := Nat → Nat → Pt → Nat → Nat → Bool → Int → Int → Zaa → Prop
def E2 (R2 : T2) (env : Env) (h : Zaa) : Prop := Zcc 1 env fun v env => Zis (some v) fun a => Zbi a fun i1 o1 => Zcc 7 env fun v env => xSl (some v) fun a7 n7 c7 e7 => Zcc 8 env fun v env => Zeo .i64 v fun x8 => Zcc 9 env fun v env => Zeo .i64 v fun x9 => Zkg env (R2 i1 o1 a7 n7 c7 e7 x8 x9 h)
theorem Zet {R2 : T2} {env : Env} {h : Zaa} (hi : E2 R2 env h) : ∃ i1, ∃ o1, ∃ a7, ∃ n7, ∃ c7, ∃ e7, ∃ x8, ∃ x9, env = [(1, .ptr (some (i1, o1))), (7, .slice a7 n7 c7 e7), (8, .int .i64 x8), (9, .int .i64 x9)] ∧ R2 i1 o1 a7 n7 c7 e7 x8 x9 h := by
  unfold E2 at hi
  have hi0 := hi
  clear hi
  obtain ⟨_, _, rfl, hi1⟩ := Zab hi0
  obtain ⟨a, rfl, hi2⟩ := Zby hi1
  obtain ⟨i1, o1, rfl, hi3⟩ := Zbw hi2
  obtain ⟨_, _, rfl, hi4⟩ := Zab hi3
  obtain ⟨a7, n7, c7, e7, rfl, hi5⟩ := Zbl hi4
  obtain ⟨_, _, rfl, hi6⟩ := Zab hi5
  obtain ⟨x8, rfl, hi7⟩ := Zaw hi6
  obtain ⟨_, _, rfl, hi8⟩ := Zab hi7
  obtain ⟨x9, rfl, hi9⟩ := Zaw hi8
  obtain ⟨rfl, hi10⟩ := Zbn hi9
  have hi := hi10
  exact ⟨i1, o1, a7, n7, c7, e7, x8, x9, rfl, hi⟩
abbrev T7 := Nat → Nat → Int → Nat → Nat → Pt → Nat → Nat → Bool → Int → Int → Int → Int → Zaa → Prop
def E7 (R7 : T7) (env : Env) (h : Zaa) : Prop := Zcc 1 env fun v env => Zis (some v) fun a => Zbi a fun i1 o1 => Zcc 3 env fun v env => Zeo .i64 v fun x3 => Zcc 4 env fun v env => Zis (some v) fun a => Zbi a fun i4 o4 => Zcc 7 env fun v env => xSl (some v) fun a7 n7 c7 e7 => Zcc 8 env fun v env => Zeo .i64 v fun x8 => Zcc 9 env fun v env => Zeo .i64 v fun x9 => Zcc 36 env fun v env => Zeo .i64 v fun x36 => Zcc 37 env fun v env => Zeo .i64 v fun x37 => Zkg env (R7 i1 o1 x3 i4 o4 a7 n7 c7 e7 x8 x9 x36 x37 h)
theorem Zrs {R7 : T7} {env : Env} {h : Zaa} (hi : E7 R7 env h) : ∃ i1, ∃ o1, ∃ x3, ∃ i4, ∃ o4, ∃ a7, ∃ n7, ∃ c7, ∃ e7, ∃ x8, ∃ x9, ∃ x36, ∃ x37, env = [(1, .ptr (some (i1, o1))), (3, .int .i64 x3), (4, .ptr (some (i4, o4))), (7, .slice a7 n7 c7 e7), (8, .int .i64 x8), (9, .int .i64 x9), (36, .int .i64 x36), (37, .int .i64 x37)] ∧ R7 i1 o1 x3 i4 o4 a7 n7 c7 e7 x8 x9 x36 x37 h := by
  unfold E7 at hi
  have hi0 := hi
  clear hi
  obtain ⟨_, _, rfl, hi1⟩ := Zab hi0
  obtain ⟨a, rfl, hi2⟩ := Zby hi1
  obtain ⟨i1, o1, rfl, hi3⟩ := Zbw hi2
  obtain ⟨_, _, rfl, hi4⟩ := Zab hi3
  obtain ⟨x3, rfl, hi5⟩ := Zaw hi4
  obtain ⟨_, _, rfl, hi6⟩ := Zab hi5
  obtain ⟨a, rfl, hi7⟩ := Zby hi6
  obtain ⟨i4, o4, rfl, hi8⟩ := Zbw hi7
  obtain ⟨_, _, rfl, hi9⟩ := Zab hi8
  obtain ⟨a7, n7, c7, e7, rfl, hi10⟩ := Zbl hi9
  obtain ⟨_, _, rfl, hi11⟩ := Zab hi10
  obtain ⟨x8, rfl, hi12⟩ := Zaw hi11
  obtain ⟨_, _, rfl, hi13⟩ := Zab hi12
  obtain ⟨x9, rfl, hi14⟩ := Zaw hi13
  obtain ⟨_, _, rfl, hi15⟩ := Zab hi14
  obtain ⟨x36, rfl, hi16⟩ := Zaw hi15
  obtain ⟨_, _, rfl, hi17⟩ := Zab hi16
  obtain ⟨x37, rfl, hi18⟩ := Zaw hi17
  obtain ⟨rfl, hi19⟩ := Zbn hi18
  have hi := hi19
  exact ⟨i1, o1, x3, i4, o4, a7, n7, c7, e7, x8, x9, x36, x37, rfl, hi⟩
def K0 (Q : QT) : KT := andThen (fun env' h' => (match kp.find 4000013 with | some ks => Den pg fn.ntmps (C [1, 1]) (env'.keep ks) h' (KR Q) | none => den pg fn.ntmps kp (C [1, 1]) env' h' (KR Q))) (KR Q)
def K1 (Q : QT) : KT := Zcr 0 (K0 Q)
def K2 (Q : QT) : KT := left kp 2 (K1 Q)
def K3 (Q : QT) (R2 : T2) : KT := rnd ((kp.find 1000002).getD []) (E2 R2) (K2 Q)
def K4 (Q : QT) (R2 : T2) : KT := andThen (fun env' h' => (match kp.find 4000012 with | some ks => Den pg fn.ntmps (C [1, 0, 1, 0, 0, 1, 1, 1]) (env'.keep ks) h' (K3 Q R2) | none => den pg fn.ntmps kp (C [1, 0, 1, 0, 0, 1, 1, 1]) env' h' (K3 Q R2))) (K3 Q R2)
def K5 (Q : QT) (R2 : T2) : KT := Zcr 1 (K4 Q R2)
def K6 (Q : QT) (R2 : T2) : KT := Zcr 2 (K5 Q R2)
def K7 (Q : QT) (R2 : T2) : KT := left kp 7 (K6 Q R2)
def K8 (Q : QT) (R2 : T2) (R7 : T7) : KT := rnd ((kp.find 1000007).getD []) (E7 R7) (K7 Q R2)
def L2 (Q : QT) (i1 o1 : Nat) (a7 : Pt) (n7 c7 : Nat) (e7 : Bool) (x8 x9 : Int) (h : Zaa) : Prop := Zeg (Den pg fn.ntmps (C [1, 0, 1, 0, 0])) ((kp.find 1000002).getD []) (K2 Q) [(1, .ptr (some (i1, o1))), (7, .slice a7 n7 c7 e7), (8, .int .i64 x8), (9, .int .i64 x9)] h
def J6 (Q : QT) (R2 : T2) (i4 o4 i1 o1 : Nat) (x3 : Int) (a7 : Pt) (n7 c7 : Nat) (e7 : Bool) (x8 x9 : Int) (h : Zaa) : Prop := Den pg fn.ntmps (C [1, 0, 1, 0, 0, 1, 1, 0, 0, 1, 1]) [(4, .ptr (some (i4, o4))), (1, .ptr (some (i1, o1))), (3, .int .i64 x3), (7, .slice a7 n7 c7 e7), (8, .int .i64 x8), (9, .int .i64 x9)] h (K5 Q R2)
def Zpx (Q : QT) (i1 o1 : Nat) (h : Zaa) : Prop := At (K1 Q) (.exit 0) [(1, .ptr (some (i1, o1))), (2, .undef)] h
def L7 (Q : QT) (R2 : T2) (i1 o1 : Nat) (x3 : Int) (i4 o4 : Nat) (a7 : Pt) (n7 c7 : Nat) (e7 : Bool) (x8 x9 x36 x37 : Int) (h : Zaa) : Prop := Zeg (Den pg fn.ntmps (C [1, 0, 1, 0, 0, 1, 1, 0, 0, 1, 1, 1, 0, 0])) ((kp.find 1000007).getD []) (K7 Q R2) [(1, .ptr (some (i1, o1))), (3, .int .i64 x3), (4, .ptr (some (i4, o4))), (7, .slice a7 n7 c7 e7), (8, .int .i64 x8), (9, .int .i64 x9), (36, .int .i64 x36), (37, .int .i64 x37)] h
def J11 (Q : QT) (R2 : T2) (R7 : T7) (x37 x36 : Int) (i1 o1 : Nat) (x3 : Int) (i4 o4 : Nat) (x9 x8 : Int) (a7 : Pt) (n7 c7 : Nat) (e7 : Bool) (h : Zaa) : Prop := Den pg fn.ntmps (C [1, 0, 1, 0, 0, 1, 1, 0, 0, 1, 1, 1, 0, 0, 1, 1, 1]) [(37, .int .i64 x37), (36, .int .i64 x36), (1, .ptr (some (i1, o1))), (3, .int .i64 x3), (4, .ptr (some (i4, o4))), (9, .int .i64 x9), (8, .int .i64 x8), (7, .slice a7 n7 c7 e7)] h (K8 Q R2 R7)
def Ymp (Q : QT) (R2 : T2) (x9 x8 : Int) (a7 : Pt) (n7 c7 : Nat) (e7 : Bool) (i1 o1 : Nat) (h : Zaa) : Prop := At (K6 Q R2) (.exit 2) [(9, .int .i64 x9), (8, .int .i64 x8), (7, .slice a7 n7 c7 e7), (1, .ptr (some (i1, o1))), (2, .undef)] h
def J12 (Q : QT) (R2 : T2) (x9 x8 : Int) (a7 : Pt) (n7 c7 : Nat) (e7 : Bool) (i1 o1 : Nat) (h : Zaa) : Prop := Den pg fn.ntmps (C [1, 0, 1, 0, 0, 1, 1, 1]) [(9, .int .i64 x9), (8, .int .i64 x8), (7, .slice a7 n7 c7 e7), (1, .ptr (some (i1, o1)))] h (K3 Q R2)
def L2t (Q : QT) (R2 : T2) (i1 o1 : Nat) (a7 : Pt) (n7 c7 : Nat) (e7 : Bool) (x8 x9 : Int) (h : Zaa) : Prop :=
 bcase (decide ((x9 : Int) < x8)) ((0 ≤ (x9 : Int) ∧ (x9 : Int) < (n7 : Nat)) ∧ (Zbi a7 fun I5 O6 => Zcx (Zbp h (.ptr (some (I5, O6 + (Int.toNat x9) * 2))) 2) fun K7 => Zaj K7 fun C8 Z9 => Zbo (some C8) fun S10 => Zaj Z9 fun C11 Z12 => Zbo (some C11) fun S13 => Zcg Z12 (Zdb (h ++ [.cells Zbr [.str [], .str []] false]) fun H14 => Zcb (Zbd H14 (.ptr (some (h.length, 0))) [.str S10, .str S13]) fun H15 => Zbo (Zae H15 (.ptr (some (h.length, 0 + 0)))) fun S16 => Zad pg Zlm [.str S16] H15 fun V17 H18 =>
 Zbx (some V17) fun B19 => bcase (!B19) ((Zae H18 (.tup []) = Zae H18 (.tup [])) ∧ (Zae H18 (.tup []) = Zae H18 (.tup [])) ∧ Q (.bool false) H18) (bcase (decide ((x9 : Int) > 0)) (xSl (Zae H18 (.ptr (some (i1, o1 + 0)))) fun A20 N21 C22 E23 => (0 ≤ (IntKind.wrap .i64 (x9 - 1) : Int) ∧ (IntKind.wrap .i64 (x9 - 1) : Int) < (N21 : Nat)) ∧ (Zbi A20 fun I24 O25 => Zbo (Zae H18 (.ptr (some (I24, O25 + (Int.toNat (IntKind.wrap .i64 (x9 - 1))) * 2 + 0)))) fun S26 => Zbo (Zae H18 (.ptr (some (h.length, 0 + 0)))) fun S27 => (Zae H18 (.ptr (some (I24, O25 + (Int.toNat (IntKind.wrap .i64 (x9 - 1))) * 2 + 0))) = Zae H18 (.ptr (some (I24, O25 + (Int.toNat (IntKind.wrap .i64 (x9 - 1))) * 2 + 0)))) ∧ (Zae H18 (.ptr (some (i1, o1 + 0))) = Zae H18 (.ptr (some (i1, o1 + 0)))) ∧ bcase (!Zdk S26 S27) (Q (.bool false) H18) (J6 Q R2 h.length 0 i1 o1 x9 a7 n7 c7 e7 x8 x9 H18))) ((Zae H18 (.tup []) = Zae H18 (.tup [])) ∧ (Zae H18 (.tup []) = Zae H18 (.tup [])) ∧ J6 Q R2 h.length 0 i1 o1 x9 a7 n7 c7 e7 x8 x9 H18))))) (Zpx Q i1 o1 h)
theorem Zmy (Q : QT) (R2 : T2) (i1 o1 : Nat) (a7 : Pt) (n7 c7 : Nat) (e7 : Bool) (x8 x9 : Int) (h : Zaa) (ht : L2t Q R2 i1 o1 a7 n7 c7 e7 x8 x9 h) : Den pg fn.ntmps (C [1, 0, 1, 0, 0]) [(1, .ptr (some (i1, o1))), (7, .slice a7 n7 c7 e7), (8, .int .i64 x8), (9, .int .i64 x9)] h (K3 Q R2) :=
  Zbc (kp := kp) (cast (by kernel_rfl) ht)
theorem L2ind (Q : QT) (i1 o1 : Nat) (a7 : Pt) (n7 c7 : Nat) (e7 : Bool) (x8 : Int) {G : Type} (J : G → Int → Zaa → Prop) (m : G → Nat)
 (hr : ∀ (g : G) (x9 : Int) (h : Zaa), J g x9 h → ∀ (R2 : T2), (∀ g' (x9 : Int) (h : Zaa), m g' < m g → J g' x9 h → R2 i1 o1 a7 n7 c7 e7 x8 x9 h) → L2t Q R2 i1 o1 a7 n7 c7 e7 x8 x9 h)
 (g : G) (x9 : Int) (h : Zaa) (hj : J g x9 h) : L2 Q i1 o1 a7 n7 c7 e7 x8 x9 h := by
  refine Zeg.inv2 (fun g => E2 fun i1' o1' a7' n7' c7' e7' x8' x9 h => i1 = i1' ∧ o1 = o1' ∧ a7 = a7' ∧ n7 = n7' ∧ c7 = c7' ∧ e7 = e7' ∧ x8 = x8' ∧ J g x9 h) (fun g => E2 fun i1' o1' a7' n7' c7' e7' x8' x9 h => i1 = i1' ∧ o1 = o1' ∧ a7 = a7' ∧ n7 = n7' ∧ c7 = c7' ∧ e7 = e7' ∧ x8 = x8' ∧ ∃ g', m g' < m g ∧ J g' x9 h) m ?_ ?_ g ⟨rfl, rfl, rfl, rfl, rfl, rfl, rfl, hj⟩
  · intro g env h hi
    obtain ⟨i1', o1', a7', n7', c7', e7', x8', x9, rfl, rfl, rfl, rfl, rfl, rfl, rfl, rfl, hj⟩ := Zet hi
    exact Zmy Q _ i1 o1 a7 n7 c7 e7 x8 x9 h (hr g x9 h hj (fun i1' o1' a7' n7' c7' e7' x8' x9 h => i1 = i1' ∧ o1 = o1' ∧ a7 = a7' ∧ n7 = n7' ∧ c7 = c7' ∧ e7 = e7' ∧ x8 = x8' ∧ ∃ g', m g' < m g ∧ J g' x9 h) fun g' x9 h hlt hj => ⟨rfl, rfl, rfl, rfl, rfl, rfl, rfl, g', hlt, hj⟩)
  · intro g env h hi
    obtain ⟨i1', o1', a7', n7', c7', e7', x8', x9, rfl, rfl, rfl, rfl, rfl, rfl, rfl, rfl, g', hlt, hj⟩ := Zet hi
    exact ⟨g', hlt, rfl, rfl, rfl, rfl, rfl, rfl, rfl, hj⟩
theorem J6i (Q : QT) (R2 : T2) (i4 o4 i1 o1 : Nat) (x3 : Int) (a7 : Pt) (n7 c7 : Nat) (e7 : Bool) (x8 x9 : Int) (h : Zaa) (ht :
 Zbo (Zae h (.ptr (some (i4, o4 + 1)))) fun S28 => L7 Q R2 i1 o1 x3 i4 o4 a7 n7 c7 e7 x8 x9 (((List.length S28 : Nat) : Int)) 0 h) : J6 Q R2 i4 o4 i1 o1 x3 a7 n7 c7 e7 x8 x9 h :=
  Zbc (kp := kp) (cast (by kernel_rfl) ht)
theorem A2x0i (Q : QT) (i1 o1 : Nat) (h : Zaa) (ht :
 xSl (Zae h (.ptr (some (i1, o1 + 0)))) fun A29 N30 C31 E32 => bcase (decide (((((N30 : Nat) : Int)) : Int) ≥ 1)) (xSl (Zae h (.ptr (some (i1, o1 + 0)))) fun A33 N34 C35 E36 => Q (.bool (decide (((((N34 : Nat) : Int)) : Int) ≤ 4))) h) (Q (.bool false) h)) : Zpx Q i1 o1 h :=
  At.mk (cast (by kernel_rfl) ht)
def L7t (Q : QT) (R2 : T2) (R7 : T7) (i1 o1 : Nat) (x3 : Int) (i4 o4 : Nat) (a7 : Pt) (n7 c7 : Nat) (e7 : Bool) (x8 x9 x36 x37 : Int) (h : Zaa) : Prop :=
 bcase (decide ((x37 : Int) < x36)) (xSl (Zae h (.ptr (some (i1, o1 + 0)))) fun A37 N38 C39 E40 => Zmv A37 N38 C39 E40 2 none (some (.int .i64 x3)) none fun V41 => xSl (some V41) fun A42 N43 C44 E45 => Zbo (Zae h (.ptr (some (i4, o4 + 1)))) fun S46 => (Zae h (.ptr (some (i1, o1 + 0))) = Zae h (.ptr (some (i1, o1 + 0)))) ∧ (0 ≤ (x37 : Int) ∧ (x37 : Int) ≤ IntKind.wrap .i64 (x37 + 1) ∧ (IntKind.wrap .i64 (x37 + 1) : Int) ≤ (List.length S46 : Nat)) ∧ (Zad pg Zhx [.slice A42 N43 C44 E45, .str (sub S46 x37 (IntKind.wrap .i64 (x37 + 1)))] h fun V47 H48 =>
 Zbx (some V47) fun B49 => (Zae H48 (.ptr (some (i1, o1 + 0))) = Zae h (.ptr (some (i1, o1 + 0)))) ∧ bcase (!B49) ((Zae H48 (.tup []) = Zae H48 (.tup [])) ∧ (Zae H48 (.ptr (some (i1, o1 + 0))) = Zae H48 (.ptr (some (i1, o1 + 0)))) ∧ Q (.bool false) H48) (bcase (decide ((x37 : Int) > 0)) (Zbo (Zae H48 (.ptr (some (i4, o4 + 1)))) fun S50 => Zgd S50 (IntKind.wrap .i64 (x37 - 1)) fun B51 => Zbo (Zae H48 (.ptr (some (i4, o4 + 1)))) fun S52 => (Zae H48 (.ptr (some (i4, o4 + 1))) = Zae H48 (.ptr (some (i4, o4 + 1)))) ∧ (Zae H48 (.ptr (some (i1, o1 + 0))) = Zae H48 (.ptr (some (i1, o1 + 0)))) ∧ Zgd S52 x37 fun B53 => bcase (decide (((((B51 : Nat) : Int)) : Int) ≥ (((B53 : Nat) : Int)))) (Q (.bool false) H48) (J11 Q R2 R7 x37 x36 i1 o1 x3 i4 o4 x9 x8 a7 n7 c7 e7 H48)) ((Zae H48 (.tup []) = Zae H48 (.tup [])) ∧ (Zae H48 (.ptr (some (i1, o1 + 0))) = Zae H48 (.ptr (some (i1, o1 + 0)))) ∧ J11 Q R2 R7 x37 x36 i1 o1 x3 i4 o4 x9 x8 a7 n7 c7 e7 H48)))) (Ymp Q R2 x9 x8 a7 n7 c7 e7 i1 o1 h)
theorem Yhh (Q : QT) (R2 : T2) (R7 : T7) (i1 o1 : Nat) (x3 : Int) (i4 o4 : Nat) (a7 : Pt) (n7 c7 : Nat) (e7 : Bool) (x8 x9 x36 x37 : Int) (h : Zaa) (ht : L7t Q R2 R7 i1 o1 x3 i4 o4 a7 n7 c7 e7 x8 x9 x36 x37 h) : Den pg fn.ntmps (C [1, 0, 1, 0, 0, 1, 1, 0, 0, 1, 1, 1, 0, 0]) [(1, .ptr (some (i1, o1))), (3, .int .i64 x3), (4, .ptr (some (i4, o4))), (7, .slice a7 n7 c7 e7), (8, .int .i64 x8), (9, .int .i64 x9), (36, .int .i64 x36), (37, .int .i64 x37)] h (K8 Q R2 R7) :=
  Zbc (kp := kp) (cast (by kernel_rfl) ht)
theorem L7ind (Q : QT) (R2 : T2) (i1 o1 : Nat) (x3 : Int) (i4 o4 : Nat) (a7 : Pt) (n7 c7 : Nat) (e7 : Bool) (x8 x9 x36 : Int) {G : Type} (J : G → Int → Zaa → Prop) (m : G → Nat)
 (hr : ∀ (g : G) (x37 : Int) (h : Zaa), J g x37 h → ∀ (R7 : T7), (∀ g' (x37 : Int) (h : Zaa), m g' < m g → J g' x37 h → R7 i1 o1 x3 i4 o4 a7 n7 c7 e7 x8 x9 x36 x37 h) → L7t Q R2 R7 i1 o1 x3 i4 o4 a7 n7 c7 e7 x8 x9 x36 x37 h)
 (g : G) (x37 : Int) (h : Zaa) (hj : J g x37 h) : L7 Q R2 i1 o1 x3 i4 o4 a7 n7 c7 e7 x8 x9 x36 x37 h := by
  refine Zeg.inv2 (fun g => E7 fun i1' o1' x3' i4' o4' a7' n7' c7' e7' x8' x9' x36' x37 h => i1 = i1' ∧ o1 = o1' ∧ x3 = x3' ∧ i4 = i4' ∧ o4 = o4' ∧ a7 = a7' ∧ n7 = n7' ∧ c7 = c7' ∧ e7 = e7' ∧ x8 = x8' ∧ x9 = x9' ∧ x36 = x36' ∧ J g x37 h) (fun g => E7 fun i1' o1' x3' i4' o4' a7' n7' c7' e7' x8' x9' x36' x37 h => i1 = i1' ∧ o1 = o1' ∧ x3 = x3' ∧ i4 = i4' ∧ o4 = o4' ∧ a7 = a7' ∧ n7 = n7' ∧ c7 = c7' ∧ e7 = e7' ∧ x8 = x8' ∧ x9 = x9' ∧ x36 = x36' ∧ ∃ g', m g' < m g ∧ J g' x37 h) m ?_ ?_ g ⟨rfl, rfl, rfl, rfl, rfl, rfl, rfl, rfl, rfl, rfl, rfl, rfl, hj⟩
  · intro g env h hi
    obtain ⟨i1', o1', x3', i4', o4', a7', n7', c7', e7', x8', x9', x36', x37, rfl, rfl, rfl, rfl, rfl, rfl, rfl, rfl, rfl, rfl, rfl, rfl, rfl, hj⟩ := Zrs hi
    exact Yhh Q R2 (fun i1' o1' x3' i4' o4' a7' n7' c7' e7' x8' x9' x36' x37 h => i1 = i1' ∧ o1 = o1' ∧ x3 = x3' ∧ i4 = i4' ∧ o4 = o4' ∧ a7 = a7' ∧ n7 = n7' ∧ c7 = c7' ∧ e7 = e7' ∧ x8 = x8' ∧ x9 = x9' ∧ x36 = x36' ∧ ∃ g', m g' < m g ∧ J g' x37 h) i1 o1 x3 i4 o4 a7 n7 c7 e7 x8 x9 x36 x37 h (hr g x37 h hj (fun i1' o1' x3' i4' o4' a7' n7' c7' e7' x8' x9' x36' x37 h => i1 = i1' ∧ o1 = o1' ∧ x3 = x3' ∧ i4 = i4' ∧ o4 = o4' ∧ a7 = a7' ∧ n7 = n7' ∧ c7 = c7' ∧ e7 = e7' ∧ x8 = x8' ∧ x9 = x9' ∧ x36 = x36' ∧ ∃ g', m g' < m g ∧ J g' x37 h) fun g' x37 h hlt hj => ⟨rfl, rfl, rfl, rfl, rfl, rfl, rfl, rfl, rfl, rfl, rfl, rfl, g', hlt, hj⟩)
  · intro g env h hi
    obtain ⟨i1', o1', x3', i4', o4', a7', n7', c7', e7', x8', x9', x36', x37, rfl, rfl, rfl, rfl, rfl, rfl, rfl, rfl, rfl, rfl, rfl, rfl, rfl, g', hlt, hj⟩ := Zrs hi
    exact ⟨g', hlt, rfl, rfl, rfl, rfl, rfl, rfl, rfl, rfl, rfl, rfl, rfl, rfl, hj⟩
theorem J11i (Q : QT) (R2 : T2) (R7 : T7) (x37 x36 : Int) (i1 o1 : Nat) (x3 : Int) (i4 o4 : Nat) (x9 x8 : Int) (a7 : Pt) (n7 c7 : Nat) (e7 : Bool) (h : Zaa) (ht :
 R7 i1 o1 x3 i4 o4 a7 n7 c7 e7 x8 x9 x36 (IntKind.wrap .i64 (x37 + 1)) h) : J11 Q R2 R7 x37 x36 i1 o1 x3 i4 o4 x9 x8 a7 n7 c7 e7 h :=
  Zbc (kp := kp) (cast (by kernel_rfl) ht)
theorem A7x2i (Q : QT) (R2 : T2) (x9 x8 : Int) (a7 : Pt) (n7 c7 : Nat) (e7 : Bool) (i1 o1 : Nat) (h : Zaa) (ht :
 J12 Q R2 x9 x8 a7 n7 c7 e7 i1 o1 h) : Ymp Q R2 x9 x8 a7 n7 c7 e7 i1 o1 h :=
  At.mk (cast (by kernel_rfl) ht)
theorem J12i (Q : QT) (R2 : T2) (x9 x8 : Int) (a7 : Pt) (n7 c7 : Nat) (e7 : Bool) (i1 o1 : Nat) (h : Zaa) (ht :
 R2 i1 o1 a7 n7 c7 e7 x8 (IntKind.wrap .i64 (x9 + 1)) h) : J12 Q R2 x9 x8 a7 n7 c7 e7 i1 o1 h :=
  Zbc (kp := kp) (cast (by kernel_rfl) ht)
theorem call (a0x0 : Pt) (n0x0 c0x0 : Nat) (e0x0 : Bool) (a0x1 : Pt) (n0x1 c0x1 : Nat) (e0x1 : Bool) (h : Zaa) (Q : QT) (ht :
 Zdb (h ++ [.cells Zam [.slice a0x0 n0x0 c0x0 e0x0, .slice a0x1 n0x1 c0x1 e0x1] false]) fun H0 => xSl (Zae H0 (.ptr (some (h.length, 0 + 0)))) fun A1 N2 C3 E4 => L2 Q h.length 0 A1 N2 C3 E4 (((N2 : Nat) : Int)) 0 H0) : Zad pg Zho [.agg [.slice a0x0 n0x0 c0x0 e0x0, .slice a0x1 n0x1 c0x1 e0x1]] h Q :=
  Zad.of_body kp (c := cod fn) (fn := fn) Go.Proofs.Tryz.func57 (by kernel_rfl) (by kernel_rfl) (Nat.le_of_ble_eq_true (by kernel_rfl))
    (cast (by kernel_rfl) ht)
end Zck
end Go.Sim

set_option maxRecDepth 100000
set_option linter.unusedVariables false
namespace Go.Sim
open Go Go.RowKit
namespace Zty
noncomputable abbrev fn : Func := Go.Proofs.Tryz.f55
def kp : Zcf := []
noncomputable def C (p : List Nat) : Code := (cod fn).sub p
def KR (Q : QT) : KT := Zey pg fn.results.toList Q
theorem call (x0 x1 x2 : Int) (h : Zaa) (Q : QT) (ht :
 bcase (decide ((x0 : Int) ≥ x1)) (Q (.bool (decide ((x0 : Int) ≤ x2))) h) (Q (.bool false) h)) : Zad pg Zkr [.int .i64 x0, .int .i64 x1, .int .i64 x2] h Q :=
  Zad.of_body kp (c := cod fn) (fn := fn) Go.Proofs.Tryz.func55 (by kernel_rfl) (by kernel_rfl) (Nat.le_of_ble_eq_true (by kernel_rfl))
    (cast (by kernel_rfl) ht)
end Zty
namespace Zop
noncomputable abbrev fn : Func := Go.Proofs.Tryz.f90
def kp : Zcf := []
noncomputable def C (p : List Nat) : Code := (cod fn).sub p
def KR (Q : QT) : KT := Zey pg fn.results.toList Q
theorem call (x0 : List Nat) (h : Zaa) (Q : QT) (ht :
 bcase ((((List.length x0 : Nat) : Int) : Int) == 1) (bcase (!Zdk x0 [65]) (Q (.bool (Zdk x0 [84] || decide (x0 = [84]))) h) (Q (.bool false) h)) (Q (.bool false) h)) : Zad pg Zlm [.str x0] h Q :=
  Zad.of_body kp (c := cod fn) (fn := fn) Go.Proofs.Tryz.func90 (by kernel_rfl) (by kernel_rfl) (Nat.le_of_ble_eq_true (by kernel_rfl))
    (cast (by kernel_rfl) ht)
end Zop
namespace Zni
noncomputable abbrev fn : Func := Go.Proofs.Tryz.f137
def kp : Zcf := []
noncomputable def C (p : List Nat) : Code := (cod fn).sub p
def KR (Q : QT) : KT := Zey pg fn.results.toList Q
theorem call (x0 : List Nat) (h : Zaa) (Q : QT) (ht :
 bcase ((((List.length x0 : Nat) : Int) : Int) == 1) (Zgd x0 0 fun B0 => Zad pg Zkr [.int .i64 (IntKind.wrap .i64 (((B0 : Nat) : Int))), .int .i64 65, .int .i64 84] h fun V1 H2 =>
 Zbx (some V1) fun B3 => Q (.bool B3) H2) (Q (.bool false) h)) : Zad pg Zjr [.str x0] h Q :=
  Zad.of_body kp (c := cod fn) (fn := fn) Go.Proofs.Tryz.func137 (by kernel_rfl) (by kernel_rfl) (Nat.le_of_ble_eq_true (by kernel_rfl))
    (cast (by kernel_rfl) ht)
end Zni
end Go.Sim

set_option maxRecDepth 100000
set_option linter.unusedVariables false
namespace Go.Sim
open Go Go.RowKit
end Go.Sim

set_option maxRecDepth 100000
set_option linter.unusedVariables false
namespace Go.Sim
open Go Go.RowKit
namespace Zhf
noncomputable abbrev fn : Func := Go.Proofs.Tryz.f84
def kp : Zcf := [(3000002, [4]), (1000002, [0, 1, 5])]
noncomputable def C (p : List Nat) : Code := (cod fn).sub p
def KR (Q : QT) : KT := Zey pg fn.results.toList Q
abbrev T2 := List Nat → Int → Int → Zaa → Prop
def E2 (R2 : T2) (env : Env) (h : Zaa) : Prop := Zcc 0 env fun v env => Zbo (some v) fun x0 => Zcc 1 env fun v env => Zeo .u8 v fun x1 => Zcc 5 env fun v env => Zeo .i64 v fun x5 => Zkg env (R2 x0 x1 x5 h)
theorem Zet {R2 : T2} {env : Env} {h : Zaa} (hi : E2 R2 env h) : ∃ x0, ∃ x1, ∃ x5, env = [(0, .str x0), (1, .int .u8 x1), (5, .int .i64 x5)] ∧ R2 x0 x1 x5 h := by
  unfold E2 at hi
  have hi0 := hi
  clear hi
  obtain ⟨_, _, rfl, hi1⟩ := Zab hi0
  obtain ⟨x0, rfl, hi2⟩ := Zea hi1
  obtain ⟨_, _, rfl, hi3⟩ := Zab hi2
  obtain ⟨x1, rfl, hi4⟩ := Zaw hi3
  obtain ⟨_, _, rfl, hi5⟩ := Zab hi4
  obtain ⟨x5, rfl, hi6⟩ := Zaw hi5
  obtain ⟨rfl, hi7⟩ := Zbn hi6
  have hi := hi7
  exact ⟨x0, x1, x5, rfl, hi⟩
def K0 (Q : QT) : KT := andThen (fun env' h' => (match kp.find 4000006 with | some ks => Den pg fn.ntmps (C [1, 1]) (env'.keep ks) h' (KR Q) | none => den pg fn.ntmps kp (C [1, 1]) env' h' (KR Q))) (KR Q)
def K1 (Q : QT) : KT := Zcr 0 (K0 Q)
def K2 (Q : QT) : KT := left kp 2 (K1 Q)
def K3 (Q : QT) (R2 : T2) : KT := rnd ((kp.find 1000002).getD []) (E2 R2) (K2 Q)
def L2 (Q : QT) (x0 : List Nat) (x1 x5 : Int) (h : Zaa) : Prop := Zeg (Den pg fn.ntmps (C [1, 0, 1, 0, 0])) ((kp.find 1000002).getD []) (K2 Q) [(0, .str x0), (1, .int .u8 x1), (5, .int .i64 x5)] h
def Zpx (Q : QT) (h : Zaa) : Prop := At (K1 Q) (.exit 0) [(4, .undef)] h
def L2t (Q : QT) (R2 : T2) (x0 : List Nat) (x1 x5 : Int) (h : Zaa) : Prop :=
 bcase (decide ((x5 : Int) < (((List.length x0 : Nat) : Int)))) (Zgd x0 x5 fun B0 => bcase ((((B0 : Nat) : Int) : Int) == x1) (Q (.int .i64 x5) h) (R2 x0 x1 (IntKind.wrap .i64 (x5 + 1)) h)) (Zpx Q h)
theorem Zmy (Q : QT) (R2 : T2) (x0 : List Nat) (x1 x5 : Int) (h : Zaa) (ht : L2t Q R2 x0 x1 x5 h) : Den pg fn.ntmps (C [1, 0, 1, 0, 0]) [(0, .str x0), (1, .int .u8 x1), (5, .int .i64 x5)] h (K3 Q R2) :=
  Zbc (kp := kp) (cast (by kernel_rfl) ht)
theorem L2ind (Q : QT) (x0 : List Nat) (x1 : Int) {G : Type} (J : G → Int → Zaa → Prop) (m : G → Nat)
 (hr : ∀ (g : G) (x5 : Int) (h : Zaa), J g x5 h → ∀ (R2 : T2), (∀ g' (x5 : Int) (h : Zaa), m g' < m g → J g' x5 h → R2 x0 x1 x5 h) → L2t Q R2 x0 x1 x5 h)
 (g : G) (x5 : Int) (h : Zaa) (hj : J g x5 h) : L2 Q x0 x1 x5 h := by
  refine Zeg.inv2 (fun g => E2 fun x0' x1' x5 h => x0 = x0' ∧ x1 = x1' ∧ J g x5 h) (fun g => E2 fun x0' x1' x5 h => x0 = x0' ∧ x1 = x1' ∧ ∃ g', m g' < m g ∧ J g' x5 h) m ?_ ?_ g ⟨rfl, rfl, hj⟩
  · intro g env h hi
    obtain ⟨x0', x1', x5, rfl, rfl, rfl, hj⟩ := Zet hi
    exact Zmy Q _ x0 x1 x5 h (hr g x5 h hj (fun x0' x1' x5 h => x0 = x0' ∧ x1 = x1' ∧ ∃ g', m g' < m g ∧ J g' x5 h) fun g' x5 h hlt hj => ⟨rfl, rfl, g', hlt, hj⟩)
  · intro g env h hi
    obtain ⟨x0', x1', x5, rfl, rfl, rfl, g', hlt, hj⟩ := Zet hi
    exact ⟨g', hlt, rfl, rfl, hj⟩
theorem A2x0i (Q : QT) (h : Zaa) (ht :
 Q (.int .i64 (-1)) h) : Zpx Q h :=
  At.mk (cast (by kernel_rfl) ht)
theorem call (x0 : List Nat) (x1 : Int) (h : Zaa) (Q : QT) (ht :
 L2 Q x0 x1 0 h) : Zad pg Zfu [.str x0, .int .u8 x1] h Q :=
  Zad.of_body kp (c := cod fn) (fn := fn) Go.Proofs.Tryz.func84 (by kernel_rfl) (by kernel_rfl) (Nat.le_of_ble_eq_true (by kernel_rfl))
    (cast (by kernel_rfl) ht)
end Zhf
namespace Zli
noncomputable abbrev fn : Func := Go.Proofs.Tryz.f160
def kp : Zcf := [(4000008, [])]
noncomputable def C (p : List Nat) : Code := (cod fn).sub p
def KR (Q : QT) : KT := Zey pg fn.results.toList Q
def J8 (Q : QT) (h : Zaa) : Prop := Den pg fn.ntmps (C [1, 1]) [] h (KR Q)
theorem J8i (Q : QT) (h : Zaa) (ht :
 Q (.int .i64 0) h) : J8 Q h :=
  Zbc (kp := kp) (cast (by kernel_rfl) ht)
theorem call (x0 : Int) (h : Zaa) (Q : QT) (ht :
 Zad pg Zfu [.str ([105, 98, 117, 108, 109, 112, 120, 121, 122, 88, 89, 90]), .int .u8 x0] h fun V0 H1 =>
 Zdd .i64 (some V0) fun X2 => bcase (decide ((X2 : Int) < 0)) (Q (.int .i64 (-1)) H1) (bcase ((X2 : Int) == 3) (Q (.int .i64 1) H1) (bcase ((X2 : Int) == 4) (Q (.int .i64 1) H1) (bcase ((X2 : Int) == 5) (Q (.int .i64 2) H1) (J8 Q H1))))) : Zad pg Zjj [.int .u8 x0] h Q :=
  Zad.of_body kp (c := cod fn) (fn := fn) Go.Proofs.Tryz.func160 (by kernel_rfl) (by kernel_rfl) (Nat.le_of_ble_eq_true (by kernel_rfl))
    (cast (by kernel_rfl) ht)
end Zli
namespace Zkc
noncomputable abbrev fn : Func := Go.Proofs.Tryz.f159
def kp : Zcf := [(2000001, [12, 0]), (2000005, [2])]
noncomputable def C (p : List Nat) : Code := (cod fn).sub p
def KR (Q : QT) : KT := Zey pg fn.results.toList Q
theorem call (a0 : Pt) (h : Zaa) (Q : QT) (ht :
 Zbi a0 fun I0 O1 => Zbi a0 fun I2 O3 => Zdd .i64 (Zae h (.ptr (some (I0, O1 + 1)))) fun X4 => Zbo (Zae h (.ptr (some (I2, O3 + 0)))) fun S5 => (Zae h (.ptr (some (I0, O1 + 1))) = Zae h (.ptr (some (I0, O1 + 1)))) ∧ bcase (decide ((X4 : Int) ≥ (((List.length S5 : Nat) : Int)))) (Zbi a0 fun I6 O7 => Zcb (Zbd h (.ptr (some (I6, O7 + 2))) [.bool true]) fun H8 => Q (.int .u8 0) H8) (Zbi a0 fun I9 O10 => Zdd .i64 (Zae h (.ptr (some (I9, O10 + 1)))) fun X11 => Zbi a0 fun I12 O13 => Zcb (Zbd h (.ptr (some (I12, O13 + 1))) [.int .i64 (IntKind.wrap .i64 (X11 + 1))]) fun H14 => Zbi a0 fun I15 O16 => Zbi a0 fun I17 O18 => Zbo (Zae H14 (.ptr (some (I15, O16 + 0)))) fun S19 => Zdd .i64 (Zae H14 (.ptr (some (I17, O18 + 1)))) fun X20 => (Zae H14 (.ptr (some (I15, O16 + 0))) = Zae H14 (.ptr (some (I15, O16 + 0)))) ∧ Zgd S19 (IntKind.wrap .i64 (X20 - 1)) fun B21 => Q (.int .u8 (((B21 : Nat) : Int))) H14)) : Zad pg Zef [.ptr a0] h Q :=
  Zad.of_body kp (c := cod fn) (fn := fn) Go.Proofs.Tryz.func159 (by kernel_rfl) (by kernel_rfl) (Nat.le_of_ble_eq_true (by kernel_rfl))
    (cast (by kernel_rfl) ht)
end Zkc
namespace Zbf
noncomputable abbrev fn : Func := Go.Proofs.Tryz.f141
def kp : Zcf := [(4000004, [0, 2, 3, 4]), (3000005, [4, 0, 3, 2]), (1000005, [0, 2, 3, 4, 5]), (4000007, [0, 5, 3, 4, 2]), (2000007, [0, 3, 5, 4, 2]), (4000008, [0, 3, 5, 4, 2]), (2000009, [5, 4, 0, 3, 2]), (4000006, [5, 4, 0, 3, 2]), (4000012, [3, 2])]
noncomputable def C (p : List Nat) : Code := (cod fn).sub p
def KR (Q : QT) : KT := Zey pg fn.results.toList Q
abbrev T5 := Pt → Nat → Nat → Nat → Nat → Int → Int → Zaa → Prop
def E5 (R5 : T5) (env : Env) (h : Zaa) : Prop := Zcc 0 env fun v env => Zis (some v) fun a0 => Zcc 2 env fun v env => Zis (some v) fun a => Zbi a fun i2 o2 => Zcc 3 env fun v env => Zis (some v) fun a => Zbi a fun i3 o3 => Zcc 4 env fun v env => Zeo .i64 v fun x4 => Zcc 5 env fun v env => Zeo .i64 v fun x5 => Zkg env (R5 a0 i2 o2 i3 o3 x4 x5 h)
theorem Zhv {R5 : T5} {env : Env} {h : Zaa} (hi : E5 R5 env h) : ∃ a0, ∃ i2, ∃ o2, ∃ i3, ∃ o3, ∃ x4, ∃ x5, env = [(0, .ptr a0), (2, .ptr (some (i2, o2))), (3, .ptr (some (i3, o3))), (4, .int .i64 x4), (5, .int .i64 x5)] ∧ R5 a0 i2 o2 i3 o3 x4 x5 h := by
  unfold E5 at hi
  have hi0 := hi
  clear hi
  obtain ⟨_, _, rfl, hi1⟩ := Zab hi0
  obtain ⟨a0, rfl, hi2⟩ := Zby hi1
  obtain ⟨_, _, rfl, hi3⟩ := Zab hi2
  obtain ⟨a, rfl, hi4⟩ := Zby hi3
  obtain ⟨i2, o2, rfl, hi5⟩ := Zbw hi4
  obtain ⟨_, _, rfl, hi6⟩ := Zab hi5
  obtain ⟨a, rfl, hi7⟩ := Zby hi6
  obtain ⟨i3, o3, rfl, hi8⟩ := Zbw hi7
  obtain ⟨_, _, rfl, hi9⟩ := Zab hi8
  obtain ⟨x4, rfl, hi10⟩ := Zaw hi9
  obtain ⟨_, _, rfl, hi11⟩ := Zab hi10
  obtain ⟨x5, rfl, hi12⟩ := Zaw hi11
  obtain ⟨rfl, hi13⟩ := Zbn hi12
  have hi := hi13
  exact ⟨a0, i2, o2, i3, o3, x4, x5, rfl, hi⟩
def K0 (Q : QT) : KT := andThen (fun env' h' => (match kp.find 4000010 with | some ks => Den pg fn.ntmps (C [1, 1, 1, 1, 1]) (env'.keep ks) h' (KR Q) | none => den pg fn.ntmps kp (C [1, 1, 1, 1, 1]) env' h' (KR Q))) (KR Q)
def K1 (Q : QT) : KT := Zcr 0 (K0 Q)
def K2 (Q : QT) : KT := left kp 5 (K1 Q)
def K3 (Q : QT) (R5 : T5) : KT := rnd ((kp.find 1000005).getD []) (E5 R5) (K2 Q)
def K4 (Q : QT) (R5 : T5) : KT := andThen (fun env' h' => (match kp.find 4000006 with | some ks => Den pg fn.ntmps (C [1, 1, 1, 1, 0, 1, 0, 0, 1, 1]) (env'.keep ks) h' (K3 Q R5) | none => den pg fn.ntmps kp (C [1, 1, 1, 1, 0, 1, 0, 0, 1, 1]) env' h' (K3 Q R5))) (K3 Q R5)
def K5 (Q : QT) (R5 : T5) : KT := Zcr 1 (K4 Q R5)
def J4 (Q : QT) (a0 : Pt) (i2 o2 i3 o3 : Nat) (x4 : Int) (h : Zaa) : Prop := Den pg fn.ntmps (C [1, 1, 1, 1]) [(0, .ptr a0), (2, .ptr (some (i2, o2))), (3, .ptr (some (i3, o3))), (4, .int .i64 x4)] h (KR Q)
def L5 (Q : QT) (a0 : Pt) (i2 o2 i3 o3 : Nat) (x4 x5 : Int) (h : Zaa) : Prop := Zeg (Den pg fn.ntmps (C [1, 1, 1, 1, 0, 1, 0, 0])) ((kp.find 1000005).getD []) (K2 Q) [(0, .ptr a0), (2, .ptr (some (i2, o2))), (3, .ptr (some (i3, o3))), (4, .int .i64 x4), (5, .int .i64 x5)] h
def J7 (Q : QT) (R5 : T5) (a0 : Pt) (x5 : Int) (i3 o3 : Nat) (x4 : Int) (i2 o2 : Nat) (h : Zaa) : Prop := Den pg fn.ntmps (C [1, 1, 1, 1, 0, 1, 0, 0, 1]) [(0, .ptr a0), (5, .int .i64 x5), (3, .ptr (some (i3, o3))), (4, .int .i64 x4), (2, .ptr (some (i2, o2)))] h (K3 Q R5)
def A5x0 (Q : QT) (x4 : Int) (a0 : Pt) (i3 o3 i2 o2 : Nat) (h : Zaa) : Prop := At (K1 Q) (.exit 0) [(4, .int .i64 x4), (0, .ptr a0), (3, .ptr (some (i3, o3))), (2, .ptr (some (i2, o2)))] h
def J8 (Q : QT) (R5 : T5) (a0 : Pt) (i3 o3 : Nat) (x5 x4 : Int) (i2 o2 : Nat) (h : Zaa) : Prop := Den pg fn.ntmps (C [1, 1, 1, 1, 0, 1, 0, 0, 1, 0, 0, 1]) [(0, .ptr a0), (3, .ptr (some (i3, o3))), (5, .int .i64 x5), (4, .int .i64 x4), (2, .ptr (some (i2, o2)))] h (K5 Q R5)
def J12 (Q : QT) (i3 o3 i2 o2 : Nat) (h : Zaa) : Prop := Den pg fn.ntmps (C [1, 1, 1, 1, 1, 1]) [(3, .ptr (some (i3, o3))), (2, .ptr (some (i2, o2)))] h (KR Q)
def J6 (Q : QT) (R5 : T5) (x5 x4 : Int) (a0 : Pt) (i3 o3 i2 o2 : Nat) (h : Zaa) : Prop := Den pg fn.ntmps (C [1, 1, 1, 1, 0, 1, 0, 0, 1, 1]) [(5, .int .i64 x5), (4, .int .i64 x4), (0, .ptr a0), (3, .ptr (some (i3, o3))), (2, .ptr (some (i2, o2)))] h (K3 Q R5)
theorem J4i (Q : QT) (a0 : Pt) (i2 o2 i3 o3 : Nat) (x4 : Int) (h : Zaa) (ht :
 L5 Q a0 i2 o2 i3 o3 x4 0 h) : J4 Q a0 i2 o2 i3 o3 x4 h :=
  Zbc (kp := kp) (cast (by kernel_rfl) ht)
def L5t (Q : QT) (R5 : T5) (a0 : Pt) (i2 o2 i3 o3 : Nat) (x4 x5 : Int) (h : Zaa) : Prop :=
 bcase (decide ((x5 : Int) < x4)) (Zbi a0 fun I20 O21 => Zbx (Zae h (.ptr (some (I20, O21 + 2)))) fun B22 => bcase (!B22) (J7 Q R5 a0 x5 i3 o3 x4 i2 o2 h) (A5x0 Q x4 a0 i3 o3 i2 o2 h)) (A5x0 Q x4 a0 i3 o3 i2 o2 h)
theorem Zrk (Q : QT) (R5 : T5) (a0 : Pt) (i2 o2 i3 o3 : Nat) (x4 x5 : Int) (h : Zaa) (ht : L5t Q R5 a0 i2 o2 i3 o3 x4 x5 h) : Den pg fn.ntmps (C [1, 1, 1, 1, 0, 1, 0, 0]) [(0, .ptr a0), (2, .ptr (some (i2, o2))), (3, .ptr (some (i3, o3))), (4, .int .i64 x4), (5, .int .i64 x5)] h (K3 Q R5) :=
  Zbc (kp := kp) (cast (by kernel_rfl) ht)
theorem L5ind (Q : QT) (a0 : Pt) (i2 o2 i3 o3 : Nat) (x4 : Int) {G : Type} (J : G → Int → Zaa → Prop) (m : G → Nat)
 (hr : ∀ (g : G) (x5 : Int) (h : Zaa), J g x5 h → ∀ (R5 : T5), (∀ g' (x5 : Int) (h : Zaa), m g' < m g → J g' x5 h → R5 a0 i2 o2 i3 o3 x4 x5 h) → L5t Q R5 a0 i2 o2 i3 o3 x4 x5 h)
 (g : G) (x5 : Int) (h : Zaa) (hj : J g x5 h) : L5 Q a0 i2 o2 i3 o3 x4 x5 h := by
  refine Zeg.inv2 (fun g => E5 fun a0' i2' o2' i3' o3' x4' x5 h => a0 = a0' ∧ i2 = i2' ∧ o2 = o2' ∧ i3 = i3' ∧ o3 = o3' ∧ x4 = x4' ∧ J g x5 h) (fun g => E5 fun a0' i2' o2' i3' o3' x4' x5 h => a0 = a0' ∧ i2 = i2' ∧ o2 = o2' ∧ i3 = i3' ∧ o3 = o3' ∧ x4 = x4' ∧ ∃ g', m g' < m g ∧ J g' x5 h) m ?_ ?_ g ⟨rfl, rfl, rfl, rfl, rfl, rfl, hj⟩
  · intro g env h hi
    obtain ⟨a0', i2', o2', i3', o3', x4', x5, rfl, rfl, rfl, rfl, rfl, rfl, rfl, hj⟩ := Zhv hi
    exact Zrk Q _ a0 i2 o2 i3 o3 x4 x5 h (hr g x5 h hj (fun a0' i2' o2' i3' o3' x4' x5 h => a0 = a0' ∧ i2 = i2' ∧ o2 = o2' ∧ i3 = i3' ∧ o3 = o3' ∧ x4 = x4' ∧ ∃ g', m g' < m g ∧ J g' x5 h) fun g' x5 h hlt hj => ⟨rfl, rfl, rfl, rfl, rfl, rfl, g', hlt, hj⟩)
  · intro g env h hi
    obtain ⟨a0', i2', o2', i3', o3', x4', x5, rfl, rfl, rfl, rfl, rfl, rfl, rfl, g', hlt, hj⟩ := Zhv hi
    exact ⟨g', hlt, rfl, rfl, rfl, rfl, rfl, rfl, hj⟩
theorem J7i (Q : QT) (R5 : T5) (a0 : Pt) (x5 : Int) (i3 o3 : Nat) (x4 : Int) (i2 o2 : Nat) (h : Zaa) (ht :
 Zgd ([40, 44]) x5 fun B23 => Zad pg Zef [.ptr a0] h fun V24 H25 =>
 Zdd .u8 (some V24) fun X26 => bcase (!((X26 : Int) == (((B23 : Nat) : Int)))) (Zbi a0 fun I27 O28 => Zcb (Zbd H25 (.ptr (some (I27, O28 + 2))) [.bool true]) fun H29 => J8 Q R5 a0 i3 o3 x5 x4 i2 o2 H29) (Zbi a0 fun I30 O31 => Zbx (Zae H25 (.ptr (some (I30, O31 + 2)))) fun B32 => Zbi a0 fun I33 O34 => Zcb (Zbd H25 (.ptr (some (I33, O34 + 2))) [.bool B32]) fun H35 => J8 Q R5 a0 i3 o3 x5 x4 i2 o2 H35)) : J7 Q R5 a0 x5 i3 o3 x4 i2 o2 h :=
  Zbc (kp := kp) (cast (by kernel_rfl) ht)
theorem A5x0i (Q : QT) (x4 : Int) (a0 : Pt) (i3 o3 i2 o2 : Nat) (h : Zaa) (ht :
 bcase (decide ((x4 : Int) > 0)) (Zbi a0 fun I36 O37 => Zbx (Zae h (.ptr (some (I36, O37 + 2)))) fun B38 => bcase (!B38) (Zad pg Zef [.ptr a0] h fun V39 H40 =>
 Zdd .u8 (some V39) fun X41 => bcase (!((X41 : Int) == 41)) (Zbi a0 fun I42 O43 => Zcb (Zbd H40 (.ptr (some (I42, O43 + 2))) [.bool true]) fun H44 => J12 Q i3 o3 i2 o2 H44) (Zbi a0 fun I45 O46 => Zbx (Zae H40 (.ptr (some (I45, O46 + 2)))) fun B47 => Zbi a0 fun I48 O49 => Zcb (Zbd H40 (.ptr (some (I48, O49 + 2))) [.bool B47]) fun H50 => J12 Q i3 o3 i2 o2 H50)) (J12 Q i3 o3 i2 o2 h)) (J12 Q i3 o3 i2 o2 h)) : A5x0 Q x4 a0 i3 o3 i2 o2 h :=
  At.mk (cast (by kernel_rfl) ht)
theorem J8i (Q : QT) (R5 : T5) (a0 : Pt) (i3 o3 : Nat) (x5 x4 : Int) (i2 o2 : Nat) (h : Zaa) (ht :
 Zbi a0 fun I51 O52 => Zbx (Zae h (.ptr (some (I51, O52 + 2)))) fun B53 => bcase (!B53) (xSl (Zae h (.ptr (some (i3, o3 + 1)))) fun A54 N55 C56 E57 => Zad pg Zdr [.ptr a0] h fun V58 H59 =>
 Zph V58 fun K60 => Zaj K60 fun C61 Z62 => Zdd .u8 (some C61) fun X63 => Zaj Z62 fun C64 Z65 => xSl (some C64) fun A66 N67 C68 E69 => Zcg Z65 ((Zae H59 (.ptr (some (i3, o3 + 1))) = Zae h (.ptr (some (i3, o3 + 1)))) ∧ Zdb (H59 ++ [.cells Zac [.int .u8 X63, .slice A66 N67 C68 E69] false]) fun H70 => (Zae H70 (.ptr (some (i3, o3 + 1))) = Zae H59 (.ptr (some (i3, o3 + 1)))) ∧ Zdn pg Zid H70 (.slice A54 N55 C56 E57) (.slice (some (H59.length, 0)) 1 1 true) fun V71 H72 => xSl (some V71) fun A73 N74 C75 E76 => Zcb (Zbd H72 (.ptr (some (i3, o3 + 1))) [.slice A73 N74 C75 E76]) fun H77 => J6 Q R5 x5 x4 a0 i3 o3 i2 o2 H77)) (J6 Q R5 x5 x4 a0 i3 o3 i2 o2 h)) : J8 Q R5 a0 i3 o3 x5 x4 i2 o2 h :=
  Zbc (kp := kp) (cast (by kernel_rfl) ht)
theorem J12i (Q : QT) (i3 o3 i2 o2 : Nat) (h : Zaa) (ht :
 Zcx (Zbp h (.ptr (some (i3, o3))) 2) fun K78 => Zaj K78 fun C79 Z80 => Zdd .u8 (some C79) fun X81 => Zaj Z80 fun C82 Z83 => xSl (some C82) fun A84 N85 C86 E87 => Zcg Z83 (Zcb (Zbd h (.ptr (some (i2, o2))) [.int .u8 X81, .slice A84 N85 C86 E87]) fun H88 => Zcx (Zbp H88 (.ptr (some (i2, o2))) 2) fun K89 => Zaj K89 fun C90 Z91 => Zdd .u8 (some C90) fun X92 => Zaj Z91 fun C93 Z94 => xSl (some C93) fun A95 N96 C97 E98 => Zcg Z94 (Q (.agg [.int .u8 X92, .slice A95 N96 C97 E98]) H88))) : J12 Q i3 o3 i2 o2 h :=
  Zbc (kp := kp) (cast (by kernel_rfl) ht)
theorem J6i (Q : QT) (R5 : T5) (x5 x4 : Int) (a0 : Pt) (i3 o3 i2 o2 : Nat) (h : Zaa) (ht :
 R5 a0 i2 o2 i3 o3 x4 (IntKind.wrap .i64 (x5 + 1)) h) : J6 Q R5 x5 x4 a0 i3 o3 i2 o2 h :=
  Zbc (kp := kp) (cast (by kernel_rfl) ht)
theorem call (a0 : Pt) (h : Zaa) (Q : QT) (ht :
 Zdb (h ++ [.cells Zac [.int .u8 0, .slice none 0 0 true] false]) fun H0 => Zad pg Zef [.ptr a0] H0 fun V1 H2 =>
 Zdd .u8 (some V1) fun X3 => Zdb (H2 ++ [.cells Zac [] false]) fun H4 => Zdb (H4 ++ [.cells Zac [.int .u8 0, .slice none 0 0 true] false]) fun H5 => Zcb (Zbd H5 (.ptr (some (H4.length, 0))) [.int .u8 X3, .slice (some (H2.length, 0)) 0 0 true]) fun H6 => Zdd .u8 (Zae H6 (.ptr (some (H4.length, 0 + 0)))) fun X7 => Zad pg Zjj [.int .u8 X7] H6 fun V8 H9 =>
 Zdd .i64 (some V8) fun X10 => Zbi a0 fun I11 O12 => Zbx (Zae H9 (.ptr (some (I11, O12 + 2)))) fun B13 => bcase B13 (Zbi a0 fun I14 O15 => Zcb (Zbd H9 (.ptr (some (I14, O15 + 2))) [.bool true]) fun H16 => J4 Q a0 h.length 0 H4.length 0 X10 H16) (Zbi a0 fun I17 O18 => Zcb (Zbd H9 (.ptr (some (I17, O18 + 2))) [.bool (decide ((X10 : Int) < 0))]) fun H19 => J4 Q a0 h.length 0 H4.length 0 X10 H19)) : Zad pg Zdr [.ptr a0] h Q :=
  Zad.of_body kp (c := cod fn) (fn := fn) Go.Proofs.Tryz.func141 (by kernel_rfl) (by kernel_rfl) (Nat.le_of_ble_eq_true (by kernel_rfl))
    (cast (by kernel_rfl) ht)
end Zbf
namespace Zmx
noncomputable abbrev fn : Func := Go.Proofs.Tryz.f106
def kp : Zcf := [(4000005, [5, 2])]
noncomputable def C (p : List Nat) : Code := (cod fn).sub p
def KR (Q : QT) : KT := Zey pg fn.results.toList Q
def J5 (Q : QT) (i5 o5 i2 o2 : Nat) (h : Zaa) : Prop := Den pg fn.ntmps (C [1, 1, 1, 1]) [(5, .ptr (some (i5, o5))), (2, .ptr (some (i2, o2)))] h (KR Q)
theorem J5i (Q : QT) (i5 o5 i2 o2 : Nat) (h : Zaa) (ht :
 Zcx (Zbp h (.ptr (some (i5, o5))) 2) fun K51 => Zaj K51 fun C52 Z53 => Zdd .u8 (some C52) fun X54 => Zaj Z53 fun C55 Z56 => xSl (some C55) fun A57 N58 C59 E60 => Zcg Z56 (Zcb (Zbd h (.ptr (some (i2, o2))) [.int .u8 X54, .slice A57 N58 C59 E60]) fun H61 => Zcx (Zbp H61 (.ptr (some (i2, o2))) 2) fun K62 => Zaj K62 fun C63 Z64 => Zdd .u8 (some C63) fun X65 => Zaj Z64 fun C66 Z67 => xSl (some C66) fun A68 N69 C70 E71 => Zcg Z67 (Q (.tup [.agg [.int .u8 X65, .slice A68 N69 C70 E71], .bool true]) H61))) : J5 Q i5 o5 i2 o2 h :=
  Zbc (kp := kp) (cast (by kernel_rfl) ht)
theorem call (x0 : List Nat) (h : Zaa) (Q : QT) (ht :
 Zdb (h ++ [.cells Zac [.int .u8 0, .slice none 0 0 true] false]) fun H0 => Zdb (H0 ++ [.cells Zcw [.str x0, .int .i64 0, .bool false] false]) fun H1 => Zad pg Zdr [.ptr (some (H0.length, 0))] H1 fun V2 H3 =>
 Zph V2 fun K4 => Zaj K4 fun C5 Z6 => Zdd .u8 (some C5) fun X7 => Zaj Z6 fun C8 Z9 => xSl (some C8) fun A10 N11 C12 E13 => Zcg Z9 (Zdb (H3 ++ [.cells Zac [.int .u8 0, .slice none 0 0 true] false]) fun H14 => Zcb (Zbd H14 (.ptr (some (H3.length, 0))) [.int .u8 X7, .slice A10 N11 C12 E13]) fun H15 => Zbx (Zae H15 (.ptr (some (H0.length, 0 + 2)))) fun B16 => bcase B16 (Zcb (Zbd H15 (.ptr (some (h.length, 0))) [.int .u8 0, .slice none 0 0 true]) fun H17 => Zcx (Zbp H17 (.ptr (some (h.length, 0))) 2) fun K18 => Zaj K18 fun C19 Z20 => Zdd .u8 (some C19) fun X21 => Zaj Z20 fun C22 Z23 => xSl (some C22) fun A24 N25 C26 E27 => Zcg Z23 (Q (.tup [.agg [.int .u8 X21, .slice A24 N25 C26 E27], .bool false]) H17)) (Zdd .i64 (Zae H15 (.ptr (some (H0.length, 0 + 1)))) fun X28 => bcase (!((X28 : Int) == (((List.length x0 : Nat) : Int)))) (Zcb (Zbd H15 (.ptr (some (h.length, 0))) [.int .u8 0, .slice none 0 0 true]) fun H29 => Zcx (Zbp H29 (.ptr (some (h.length, 0))) 2) fun K30 => Zaj K30 fun C31 Z32 => Zdd .u8 (some C31) fun X33 => Zaj Z32 fun C34 Z35 => xSl (some C34) fun A36 N37 C38 E39 => Zcg Z35 (Q (.tup [.agg [.int .u8 X33, .slice A36 N37 C38 E39], .bool false]) H29)) (bcase (decide (((((List.length x0 : Nat) : Int)) : Int) > 60)) (Zcb (Zbd H15 (.ptr (some (h.length, 0))) [.int .u8 0, .slice none 0 0 true]) fun H40 => Zcx (Zbp H40 (.ptr (some (h.length, 0))) 2) fun K41 => Zaj K41 fun C42 Z43 => Zdd .u8 (some C42) fun X44 => Zaj Z43 fun C45 Z46 => xSl (some C45) fun A47 N48 C49 E50 => Zcg Z46 (Q (.tup [.agg [.int .u8 X44, .slice A47 N48 C49 E50], .bool false]) H40)) (J5 Q H3.length 0 h.length 0 H15))))) : Zad pg Zfj [.str x0] h Q :=
  Zad.of_body kp (c := cod fn) (fn := fn) Go.Proofs.Tryz.func106 (by kernel_rfl) (by kernel_rfl) (Nat.le_of_ble_eq_true (by kernel_rfl))
    (cast (by kernel_rfl) ht)
end Zmx
namespace Znh
noncomputable abbrev fn : Func := Go.Proofs.Tryz.f122
def kp : Zcf := []
noncomputable def C (p : List Nat) : Code := (cod fn).sub p
def KR (Q : QT) : KT := Zey pg fn.results.toList Q
theorem call (x0 : List Nat) (h : Zaa) (Q : QT) (ht :
 Zad pg Zfj [.str x0] h fun V0 H1 =>
 Zsk V0 fun K2 => Zaj K2 fun C3 Z4 => Zph C3 fun K5 => Zaj K5 fun C6 Z7 => Zdd .u8 (some C6) fun X8 => Zaj Z7 fun C9 Z10 => xSl (some C9) fun A11 N12 C13 E14 => Zcg Z10 (Zaj Z4 fun C15 Z16 => Zbx (some C15) fun B17 => Zcg Z16 (Zdb (H1 ++ [.cells Zac [.int .u8 0, .slice none 0 0 true] false]) fun H18 => Zcb (Zbd H18 (.ptr (some (H1.length, 0))) [.int .u8 X8, .slice A11 N12 C13 E14]) fun H19 => Q (.bool B17) H19))) : Zad pg Zeb [.str x0] h Q :=
  Zad.of_body kp (c := cod fn) (fn := fn) Go.Proofs.Tryz.func122 (by kernel_rfl) (by kernel_rfl) (Nat.le_of_ble_eq_true (by kernel_rfl))
    (cast (by kernel_rfl) ht)
end Znh
end Go.Sim

set_option maxRecDepth 100000
set_option linter.unusedVariables false
namespace Go.Sim
open Go Go.RowKit
namespace Znw
noncomputable abbrev fn : Func := Go.Proofs.Tryz.f144
def kp : Zcf := [(4000009, [])]
noncomputable def C (p : List Nat) : Code := (cod fn).sub p
def KR (Q : QT) : KT := Zey pg fn.results.toList Q
def J9 (Q : QT) (h : Zaa) : Prop := Den pg fn.ntmps (C [1, 1]) [] h (KR Q)
theorem J9i (Q : QT) (h : Zaa) (ht :
 Q (.int .i64 (-1)) h) : J9 Q h :=
  Zbc (kp := kp) (cast (by kernel_rfl) ht)
theorem call (x0 : List Nat) (h : Zaa) (Q : QT) (ht :
 bcase (!((((List.length x0 : Nat) : Int) : Int) == 1)) (Q (.int .i64 (-1)) h) (Zad pg Zev [.str ([105, 98, 117, 120, 121, 122, 88, 89, 90]), .str x0] h fun V0 H1 =>
 Zbx (some V0) fun B2 => bcase B2 (Q (.int .i64 0) H1) (bcase (decide (x0 = [108])) (Q (.int .i64 1) H1) (bcase (decide (x0 = [109])) (Q (.int .i64 1) H1) (bcase (decide (x0 = [112])) (Q (.int .i64 2) H1) (J9 Q H1)))))) : Zad pg Zlc [.str x0] h Q :=
  Zad.of_body kp (c := cod fn) (fn := fn) Go.Proofs.Tryz.func144 (by kernel_rfl) (by kernel_rfl) (Nat.le_of_ble_eq_true (by kernel_rfl))
    (cast (by kernel_rfl) ht)
end Znw
namespace Zdq
noncomputable abbrev fn : Func := Go.Proofs.Tryz.f113
def kp : Zcf := [(4000003, [0]), (3000006, [4, 0, 2, 3]), (1000006, [0, 4, 27, 28]), (4000020, [4, 0])]
noncomputable def C (p : List Nat) : Code := (cod fn).sub p
def KR (Q : QT) : KT := Zey pg fn.results.toList Q
abbrev T6 := List Nat → Nat → Nat → Int → Int → Zaa → Prop
def E6 (R6 : T6) (env : Env) (h : Zaa) : Prop := Zcc 0 env fun v env => Zbo (some v) fun x0 => Zcc 4 env fun v env => Zis (some v) fun a => Zbi a fun i4 o4 => Zcc 27 env fun v env => Zeo .i64 v fun x27 => Zcc 28 env fun v env => Zeo .i64 v fun x28 => Zkg env (R6 x0 i4 o4 x27 x28 h)
theorem Zob {R6 : T6} {env : Env} {h : Zaa} (hi : E6 R6 env h) : ∃ x0, ∃ i4, ∃ o4, ∃ x27, ∃ x28, env = [(0, .str x0), (4, .ptr (some (i4, o4))), (27, .int .i64 x27), (28, .int .i64 x28)] ∧ R6 x0 i4 o4 x27 x28 h := by
  unfold E6 at hi
  have hi0 := hi
  clear hi
  obtain ⟨_, _, rfl, hi1⟩ := Zab hi0
  obtain ⟨x0, rfl, hi2⟩ := Zea hi1
  obtain ⟨_, _, rfl, hi3⟩ := Zab hi2
  obtain ⟨a, rfl, hi4⟩ := Zby hi3
  obtain ⟨i4, o4, rfl, hi5⟩ := Zbw hi4
  obtain ⟨_, _, rfl, hi6⟩ := Zab hi5
  obtain ⟨x27, rfl, hi7⟩ := Zaw hi6
  obtain ⟨_, _, rfl, hi8⟩ := Zab hi7
  obtain ⟨x28, rfl, hi9⟩ := Zaw hi8
  obtain ⟨rfl, hi10⟩ := Zbn hi9
  have hi := hi10
  exact ⟨x0, i4, o4, x27, x28, rfl, hi⟩
def K0 (Q : QT) : KT := andThen (fun env' h' => (match kp.find 4000016 with | some ks => Den pg fn.ntmps (C [1, 1, 1, 1, 1]) (env'.keep ks) h' (KR Q) | none => den pg fn.ntmps kp (C [1, 1, 1, 1, 1]) env' h' (KR Q))) (KR Q)
def K1 (Q : QT) : KT := Zcr 0 (K0 Q)
def K2 (Q : QT) : KT := left kp 6 (K1 Q)
def K3 (Q : QT) (R6 : T6) : KT := rnd ((kp.find 1000006).getD []) (E6 R6) (K2 Q)
def J3 (Q : QT) (x0 : List Nat) (h : Zaa) : Prop := Den pg fn.ntmps (C [1, 1]) [(0, .str x0)] h (KR Q)
def L6 (Q : QT) (x0 : List Nat) (i4 o4 : Nat) (x27 x28 : Int) (h : Zaa) : Prop := Zeg (Den pg fn.ntmps (C [1, 1, 1, 1, 0, 1, 0, 0])) ((kp.find 1000006).getD []) (K2 Q) [(0, .str x0), (4, .ptr (some (i4, o4))), (27, .int .i64 x27), (28, .int .i64 x28)] h
def Ygq (Q : QT) (i4 o4 : Nat) (x0 : List Nat) (h : Zaa) : Prop := At (K1 Q) (.exit 0) [(4, .ptr (some (i4, o4))), (0, .str x0), (2, .undef), (3, .undef)] h
def J20 (Q : QT) (i4 o4 : Nat) (x0 : List Nat) (h : Zaa) : Prop := Den pg fn.ntmps (C [1, 1, 1, 1, 1, 1]) [(4, .ptr (some (i4, o4))), (0, .str x0)] h (KR Q)
theorem J3i (Q : QT) (x0 : List Nat) (h : Zaa) (ht :
 (0 ≤ (0 : Int) ∧ (0 : Int) ≤ 1 ∧ (1 : Int) ≤ (List.length x0 : Nat)) ∧ (Zdb (h ++ [.cells Zdv [.str (sub x0 0 1), .slice none 0 0 true, .ptr none] false]) fun H3 => (0 ≤ (1 : Int) ∧ (1 : Int) ≤ (List.length x0 : Int) ∧ ((List.length x0 : Int) : Int) ≤ (List.length x0 : Nat)) ∧ (Zbo (Zae H3 (.ptr (some (h.length, 0 + 0)))) fun S4 => Zad pg Zlc [.str S4] H3 fun V5 H6 =>
 Zdd .i64 (some V5) fun X7 => L6 Q (sub x0 1 ((List.length x0 : Int))) h.length 0 X7 0 H6))) : J3 Q x0 h :=
  Zbc (kp := kp) (cast (by kernel_rfl) ht)
def L6t (Q : QT) (R6 : T6) (x0 : List Nat) (i4 o4 : Nat) (x27 x28 : Int) (h : Zaa) : Prop :=
 bcase (decide ((x28 : Int) < x27)) ((0 ≤ (x28 : Int) ∧ (x28 : Int) ≤ IntKind.wrap .i64 (x28 + 1) ∧ (IntKind.wrap .i64 (x28 + 1) : Int) ≤ (List.length ([40, 44]) : Nat)) ∧ (Zad pg Zcu [.str x0, .str (sub ([40, 44]) x28 (IntKind.wrap .i64 (x28 + 1)))] h fun V8 H9 =>
 Zbx (some V8) fun B10 => bcase (!B10) (Q (.tup [.ptr none, .str x0]) H9) ((0 ≤ (1 : Int) ∧ (1 : Int) ≤ (List.length x0 : Int) ∧ ((List.length x0 : Int) : Int) ≤ (List.length x0 : Nat)) ∧ (Zad pg Zig [.str (sub x0 1 ((List.length x0 : Int)))] H9 fun V11 H12 =>
 Zsk V11 fun K13 => Zaj K13 fun C14 Z15 => Zis (some C14) fun A16 => Zaj Z15 fun C17 Z18 => Zbo (some C17) fun S19 => Zcg Z18 (bcase (Option.isNone A16) (Q (.tup [.ptr none, .str x0]) H12) (xSl (Zae H12 (.ptr (some (i4, o4 + 1)))) fun A20 N21 C22 E23 => Zdb (H12 ++ [.cells Zeh [.ptr A16] false]) fun H24 => Zdn pg Zoa H24 (.slice A20 N21 C22 E23) (.slice (some (H12.length, 0)) 1 1 true) fun V25 H26 => xSl (some V25) fun A27 N28 C29 E30 => Zcb (Zbd H26 (.ptr (some (i4, o4 + 1))) [.slice A27 N28 C29 E30]) fun H31 => R6 S19 i4 o4 x27 (IntKind.wrap .i64 (x28 + 1)) H31)))))) (Ygq Q i4 o4 x0 h)
theorem Ybd (Q : QT) (R6 : T6) (x0 : List Nat) (i4 o4 : Nat) (x27 x28 : Int) (h : Zaa) (ht : L6t Q R6 x0 i4 o4 x27 x28 h) : Den pg fn.ntmps (C [1, 1, 1, 1, 0, 1, 0, 0]) [(0, .str x0), (4, .ptr (some (i4, o4))), (27, .int .i64 x27), (28, .int .i64 x28)] h (K3 Q R6) :=
  Zbc (kp := kp) (cast (by kernel_rfl) ht)
theorem L6ind (Q : QT) (i4 o4 : Nat) (x27 : Int) {G : Type} (J : G → List Nat → Int → Zaa → Prop) (m : G → Nat)
 (hr : ∀ (g : G) (x0 : List Nat) (x28 : Int) (h : Zaa), J g x0 x28 h → ∀ (R6 : T6), (∀ g' (x0 : List Nat) (x28 : Int) (h : Zaa), m g' < m g → J g' x0 x28 h → R6 x0 i4 o4 x27 x28 h) → L6t Q R6 x0 i4 o4 x27 x28 h)
 (g : G) (x0 : List Nat) (x28 : Int) (h : Zaa) (hj : J g x0 x28 h) : L6 Q x0 i4 o4 x27 x28 h := by
  refine Zeg.inv2 (fun g => E6 fun x0 i4' o4' x27' x28 h => i4 = i4' ∧ o4 = o4' ∧ x27 = x27' ∧ J g x0 x28 h) (fun g => E6 fun x0 i4' o4' x27' x28 h => i4 = i4' ∧ o4 = o4' ∧ x27 = x27' ∧ ∃ g', m g' < m g ∧ J g' x0 x28 h) m ?_ ?_ g ⟨rfl, rfl, rfl, hj⟩
  · intro g env h hi
    obtain ⟨x0, i4', o4', x27', x28, rfl, rfl, rfl, rfl, hj⟩ := Zob hi
    exact Ybd Q _ x0 i4 o4 x27 x28 h (hr g x0 x28 h hj (fun x0 i4' o4' x27' x28 h => i4 = i4' ∧ o4 = o4' ∧ x27 = x27' ∧ ∃ g', m g' < m g ∧ J g' x0 x28 h) fun g' x0 x28 h hlt hj => ⟨rfl, rfl, rfl, g', hlt, hj⟩)
  · intro g env h hi
    obtain ⟨x0, i4', o4', x27', x28, rfl, rfl, rfl, rfl, g', hlt, hj⟩ := Zob hi
    exact ⟨g', hlt, rfl, rfl, rfl, hj⟩
theorem A6x0i (Q : QT) (i4 o4 : Nat) (x0 : List Nat) (h : Zaa) (ht :
 xSl (Zae h (.ptr (some (i4, o4 + 1)))) fun A32 N33 C34 E35 => bcase (decide (((((N33 : Nat) : Int)) : Int) > 0)) (Zad pg Zcu [.str x0, .str [41]] h fun V36 H37 =>
 Zbx (some V36) fun B38 => bcase (!B38) (Q (.tup [.ptr none, .str x0]) H37) ((0 ≤ (1 : Int) ∧ (1 : Int) ≤ (List.length x0 : Int) ∧ ((List.length x0 : Int) : Int) ≤ (List.length x0 : Nat)) ∧ (J20 Q i4 o4 (sub x0 1 ((List.length x0 : Int))) H37))) (J20 Q i4 o4 x0 h)) : Ygq Q i4 o4 x0 h :=
  At.mk (cast (by kernel_rfl) ht)
theorem J20i (Q : QT) (i4 o4 : Nat) (x0 : List Nat) (h : Zaa) (ht :
 Q (.tup [.ptr (some (i4, o4)), .str x0]) h) : J20 Q i4 o4 x0 h :=
  Zbc (kp := kp) (cast (by kernel_rfl) ht)
theorem call (x0 : List Nat) (h : Zaa) (Q : QT) (ht :
 bcase (decide (x0 = [])) (Q (.tup [.ptr none, .str x0]) h) ((0 ≤ (0 : Int) ∧ (0 : Int) ≤ 1 ∧ (1 : Int) ≤ (List.length x0 : Nat)) ∧ (Zad pg Zlc [.str (sub x0 0 1)] h fun V0 H1 =>
 Zdd .i64 (some V0) fun X2 => bcase (decide ((X2 : Int) < 0)) (Q (.tup [.ptr none, .str x0]) H1) (J3 Q x0 H1)))) : Zad pg Zig [.str x0] h Q :=
  Zad.of_body kp (c := cod fn) (fn := fn) Go.Proofs.Tryz.func113 (by kernel_rfl) (by kernel_rfl) (Nat.le_of_ble_eq_true (by kernel_rfl))
    (cast (by kernel_rfl) ht)
end Zdq
namespace Zps
noncomputable abbrev fn : Func := Go.Proofs.Tryz.f67
def kp : Zcf := []
noncomputable def C (p : List Nat) : Code := (cod fn).sub p
def KR (Q : QT) : KT := Zey pg fn.results.toList Q
theorem call (x0 : List Nat) (h : Zaa) (Q : QT) (ht :
 bcase (decide (((((List.length x0 : Nat) : Int)) : Int) > 60)) (Q (.ptr none) h) (Zad pg Zig [.str x0] h fun V0 H1 =>
 Zsk V0 fun K2 => Zaj K2 fun C3 Z4 => Zis (some C3) fun A5 => Zaj Z4 fun C6 Z7 => Zbo (some C6) fun S8 => Zcg Z7 (bcase (!(decide (S8 = []))) (Q (.ptr none) H1) (Q (.ptr A5) H1)))) : Zad pg Zii [.str x0] h Q :=
  Zad.of_body kp (c := cod fn) (fn := fn) Go.Proofs.Tryz.func67 (by kernel_rfl) (by kernel_rfl) (Nat.le_of_ble_eq_true (by kernel_rfl))
    (cast (by kernel_rfl) ht)
end Zps
namespace Znl
noncomputable abbrev fn : Func := Go.Proofs.Tryz.f71
def kp : Zcf := []
noncomputable def C (p : List Nat) : Code := (cod fn).sub p
def KR (Q : QT) : KT := Zey pg fn.results.toList Q
theorem call (x0 : List Nat) (h : Zaa) (Q : QT) (ht :
 Zad pg Zii [.str x0] h fun V0 H1 =>
 Zis (some V0) fun A2 => Q (.bool (!(Option.isNone A2))) H1) : Zad pg Zec [.str x0] h Q :=
  Zad.of_body kp (c := cod fn) (fn := fn) Go.Proofs.Tryz.func71 (by kernel_rfl) (by kernel_rfl) (Nat.le_of_ble_eq_true (by kernel_rfl))
    (cast (by kernel_rfl) ht)
end Znl
end Go.Sim

set_option maxRecDepth 100000
set_option linter.unusedVariables false
namespace Go.Sim
open Go Go.RowKit
namespace Zhd
noncomputable abbrev fn : Func := Go.Proofs.Tryz.f16
def kp : Zcf := [(3000003, [3]), (1000003, [0, 3, 4])]
noncomputable def C (p : List Nat) : Code := (cod fn).sub p
def KR (Q : QT) : KT := Zey pg fn.results.toList Q
abbrev T3 := Pt → Nat → Nat → Bool → Pt → Nat → Nat → Bool → Int → Zaa → Prop
def E3 (R3 : T3) (env : Env) (h : Zaa) : Prop := Zcc 0 env fun v env => xSl (some v) fun a0 n0 c0 e0 => Zcc 3 env fun v env => xSl (some v) fun a3 n3 c3 e3 => Zcc 4 env fun v env => Zeo .i64 v fun x4 => Zkg env (R3 a0 n0 c0 e0 a3 n3 c3 e3 x4 h)
theorem Zfh {R3 : T3} {env : Env} {h : Zaa} (hi : E3 R3 env h) : ∃ a0, ∃ n0, ∃ c0, ∃ e0, ∃ a3, ∃ n3, ∃ c3, ∃ e3, ∃ x4, env = [(0, .slice a0 n0 c0 e0), (3, .slice a3 n3 c3 e3), (4, .int .i64 x4)] ∧ R3 a0 n0 c0 e0 a3 n3 c3 e3 x4 h := by
  unfold E3 at hi
  have hi0 := hi
  clear hi
  obtain ⟨_, _, rfl, hi1⟩ := Zab hi0
  obtain ⟨a0, n0, c0, e0, rfl, hi2⟩ := Zbl hi1
  obtain ⟨_, _, rfl, hi3⟩ := Zab hi2
  obtain ⟨a3, n3, c3, e3, rfl, hi4⟩ := Zbl hi3
  obtain ⟨_, _, rfl, hi5⟩ := Zab hi4
  obtain ⟨x4, rfl, hi6⟩ := Zaw hi5
  obtain ⟨rfl, hi7⟩ := Zbn hi6
  have hi := hi7
  exact ⟨a0, n0, c0, e0, a3, n3, c3, e3, x4, rfl, hi⟩
def K0 (Q : QT) : KT := andThen (fun env' h' => (match kp.find 4000006 with | some ks => Den pg fn.ntmps (C [1, 1, 1]) (env'.keep ks) h' (KR Q) | none => den pg fn.ntmps kp (C [1, 1, 1]) env' h' (KR Q))) (KR Q)
def K1 (Q : QT) : KT := Zcr 0 (K0 Q)
def K2 (Q : QT) : KT := left kp 3 (K1 Q)
def K3 (Q : QT) (R3 : T3) : KT := rnd ((kp.find 1000003).getD []) (E3 R3) (K2 Q)
def L3 (Q : QT) (a0 : Pt) (n0 c0 : Nat) (e0 : Bool) (a3 : Pt) (n3 c3 : Nat) (e3 : Bool) (x4 : Int) (h : Zaa) : Prop := Zeg (Den pg fn.ntmps (C [1, 1, 0, 1, 0, 0])) ((kp.find 1000003).getD []) (K2 Q) [(0, .slice a0 n0 c0 e0), (3, .slice a3 n3 c3 e3), (4, .int .i64 x4)] h
def Zrz (Q : QT) (a3 : Pt) (n3 c3 : Nat) (e3 : Bool) (h : Zaa) : Prop := At (K1 Q) (.exit 0) [(3, .slice a3 n3 c3 e3)] h
def L3t (Q : QT) (R3 : T3) (a0 : Pt) (n0 c0 : Nat) (e0 : Bool) (a3 : Pt) (n3 c3 : Nat) (e3 : Bool) (x4 : Int) (h : Zaa) : Prop :=
 bcase (decide ((x4 : Int) < (((n0 : Nat) : Int)))) ((0 ≤ (x4 : Int) ∧ (x4 : Int) < (n0 : Nat)) ∧ (Zbi a0 fun I1 O2 => Zcx (Zbp h (.ptr (some (I1, O2 + (Int.toNat x4) * 2))) 2) fun K3 => Zaj K3 fun C4 Z5 => Zbo (some C4) fun S6 => Zaj Z5 fun C7 Z8 => Zbo (some C7) fun S9 => Zcg Z8 (Zad pg Zgw [.agg [.str S6, .str S9]] h fun V10 H11 =>
 Zph V10 fun K12 => Zaj K12 fun C13 Z14 => Zbo (some C13) fun S15 => Zaj Z14 fun C16 Z17 => Zbo (some C16) fun S18 => Zcg Z17 ((0 ≤ (x4 : Int) ∧ (x4 : Int) < (n3 : Nat)) ∧ (Zbi a3 fun I19 O20 => Zcb (Zbd H11 (.ptr (some (I19, O20 + (Int.toNat x4) * 2))) [.str S15, .str S18]) fun H21 => R3 a0 n0 c0 e0 a3 n3 c3 e3 (IntKind.wrap .i64 (x4 + 1)) H21))))) (Zrz Q a3 n3 c3 e3 h)
theorem Znv (Q : QT) (R3 : T3) (a0 : Pt) (n0 c0 : Nat) (e0 : Bool) (a3 : Pt) (n3 c3 : Nat) (e3 : Bool) (x4 : Int) (h : Zaa) (ht : L3t Q R3 a0 n0 c0 e0 a3 n3 c3 e3 x4 h) : Den pg fn.ntmps (C [1, 1, 0, 1, 0, 0]) [(0, .slice a0 n0 c0 e0), (3, .slice a3 n3 c3 e3), (4, .int .i64 x4)] h (K3 Q R3) :=
  Zbc (kp := kp) (cast (by kernel_rfl) ht)
theorem L3ind (Q : QT) (a0 : Pt) (n0 c0 : Nat) (e0 : Bool) (a3 : Pt) (n3 c3 : Nat) (e3 : Bool) {G : Type} (J : G → Int → Zaa → Prop) (m : G → Nat)
 (hr : ∀ (g : G) (x4 : Int) (h : Zaa), J g x4 h → ∀ (R3 : T3), (∀ g' (x4 : Int) (h : Zaa), m g' < m g → J g' x4 h → R3 a0 n0 c0 e0 a3 n3 c3 e3 x4 h) → L3t Q R3 a0 n0 c0 e0 a3 n3 c3 e3 x4 h)
 (g : G) (x4 : Int) (h : Zaa) (hj : J g x4 h) : L3 Q a0 n0 c0 e0 a3 n3 c3 e3 x4 h := by
  refine Zeg.inv2 (fun g => E3 fun a0' n0' c0' e0' a3' n3' c3' e3' x4 h => a0 = a0' ∧ n0 = n0' ∧ c0 = c0' ∧ e0 = e0' ∧ a3 = a3' ∧ n3 = n3' ∧ c3 = c3' ∧ e3 = e3' ∧ J g x4 h) (fun g => E3 fun a0' n0' c0' e0' a3' n3' c3' e3' x4 h => a0 = a0' ∧ n0 = n0' ∧ c0 = c0' ∧ e0 = e0' ∧ a3 = a3' ∧ n3 = n3' ∧ c3 = c3' ∧ e3 = e3' ∧ ∃ g', m g' < m g ∧ J g' x4 h) m ?_ ?_ g ⟨rfl, rfl, rfl, rfl, rfl, rfl, rfl, rfl, hj⟩
  · intro g env h hi
    obtain ⟨a0', n0', c0', e0', a3', n3', c3', e3', x4, rfl, rfl, rfl, rfl, rfl, rfl, rfl, rfl, rfl, hj⟩ := Zfh hi
    exact Znv Q _ a0 n0 c0 e0 a3 n3 c3 e3 x4 h (hr g x4 h hj (fun a0' n0' c0' e0' a3' n3' c3' e3' x4 h => a0 = a0' ∧ n0 = n0' ∧ c0 = c0' ∧ e0 = e0' ∧ a3 = a3' ∧ n3 = n3' ∧ c3 = c3' ∧ e3 = e3' ∧ ∃ g', m g' < m g ∧ J g' x4 h) fun g' x4 h hlt hj => ⟨rfl, rfl, rfl, rfl, rfl, rfl, rfl, rfl, g', hlt, hj⟩)
  · intro g env h hi
    obtain ⟨a0', n0', c0', e0', a3', n3', c3', e3', x4, rfl, rfl, rfl, rfl, rfl, rfl, rfl, rfl, rfl, g', hlt, hj⟩ := Zfh hi
    exact ⟨g', hlt, rfl, rfl, rfl, rfl, rfl, rfl, rfl, rfl, hj⟩
theorem A3x0i (Q : QT) (a3 : Pt) (n3 c3 : Nat) (e3 : Bool) (h : Zaa) (ht :
 Q (.slice a3 n3 c3 e3) h) : Zrz Q a3 n3 c3 e3 h :=
  At.mk (cast (by kernel_rfl) ht)
theorem call (a0 : Pt) (n0 c0 : Nat) (e0 : Bool) (h : Zaa) (Q : QT) (ht :
 IntKind.i64 = IntKind.i64 ∧ (IntKind.i64 = IntKind.i64 ∧ ((0 ≤ ((((n0 : Nat) : Int)) : Int) ∧ ((((n0 : Nat) : Int)) : Int) ≤ (((n0 : Nat) : Int)) ∧ ((((n0 : Nat) : Int)) : Int) * (((32 : Nat) : Int) + 1) ≤ 140737488355328) ∧ (Zdb (h ++ [.cells Zar (reps (Int.toNat ((((n0 : Nat) : Int)))) [.str [], .str []]) false]) fun H0 => L3 Q a0 n0 c0 e0 (some (h.length, 0)) (Int.toNat ((((n0 : Nat) : Int)))) (Int.toNat ((((n0 : Nat) : Int)))) true 0 H0)))) : Zad pg Zlf [.slice a0 n0 c0 e0] h Q :=
  Zad.of_body kp (c := cod fn) (fn := fn) Go.Proofs.Tryz.func16 (by kernel_rfl) (by kernel_rfl) (Nat.le_of_ble_eq_true (by kernel_rfl))
    (cast (by kernel_rfl) ht)
end Zhd
namespace Zhj
noncomputable abbrev fn : Func := Go.Proofs.Tryz.f18
def kp : Zcf := [(3000004, [4]), (1000004, [0, 1, 5]), (2000006, [26, 5, 0, 1])]
noncomputable def C (p : List Nat) : Code := (cod fn).sub p
def KR (Q : QT) : KT := Zey pg fn.results.toList Q
abbrev T4 := Pt → Nat → Nat → Bool → Pt → Nat → Nat → Bool → Int → Zaa → Prop
def E4 (R4 : T4) (env : Env) (h : Zaa) : Prop := Zcc 0 env fun v env => xSl (some v) fun a0 n0 c0 e0 => Zcc 1 env fun v env => xSl (some v) fun a1 n1 c1 e1 => Zcc 5 env fun v env => Zeo .i64 v fun x5 => Zkg env (R4 a0 n0 c0 e0 a1 n1 c1 e1 x5 h)
theorem Zjn {R4 : T4} {env : Env} {h : Zaa} (hi : E4 R4 env h) : ∃ a0, ∃ n0, ∃ c0, ∃ e0, ∃ a1, ∃ n1, ∃ c1, ∃ e1, ∃ x5, env = [(0, .slice a0 n0 c0 e0), (1, .slice a1 n1 c1 e1), (5, .int .i64 x5)] ∧ R4 a0 n0 c0 e0 a1 n1 c1 e1 x5 h := by
  unfold E4 at hi
  have hi0 := hi
  clear hi
  obtain ⟨_, _, rfl, hi1⟩ := Zab hi0
  obtain ⟨a0, n0, c0, e0, rfl, hi2⟩ := Zbl hi1
  obtain ⟨_, _, rfl, hi3⟩ := Zab hi2
  obtain ⟨a1, n1, c1, e1, rfl, hi4⟩ := Zbl hi3
  obtain ⟨_, _, rfl, hi5⟩ := Zab hi4
  obtain ⟨x5, rfl, hi6⟩ := Zaw hi5
  obtain ⟨rfl, hi7⟩ := Zbn hi6
  have hi := hi7
  exact ⟨a0, n0, c0, e0, a1, n1, c1, e1, x5, rfl, hi⟩
def K0 (Q : QT) : KT := andThen (fun env' h' => (match kp.find 4000008 with | some ks => Den pg fn.ntmps (C [1, 1, 1]) (env'.keep ks) h' (KR Q) | none => den pg fn.ntmps kp (C [1, 1, 1]) env' h' (KR Q))) (KR Q)
def K1 (Q : QT) : KT := Zcr 0 (K0 Q)
def K2 (Q : QT) : KT := left kp 4 (K1 Q)
def K3 (Q : QT) (R4 : T4) : KT := rnd ((kp.find 1000004).getD []) (E4 R4) (K2 Q)
def L4 (Q : QT) (a0 : Pt) (n0 c0 : Nat) (e0 : Bool) (a1 : Pt) (n1 c1 : Nat) (e1 : Bool) (x5 : Int) (h : Zaa) : Prop := Zeg (Den pg fn.ntmps (C [1, 1, 0, 1, 0, 0])) ((kp.find 1000004).getD []) (K2 Q) [(0, .slice a0 n0 c0 e0), (1, .slice a1 n1 c1 e1), (5, .int .i64 x5)] h
def Zyk (Q : QT) (h : Zaa) : Prop := At (K1 Q) (.exit 0) [(4, .undef)] h
def L4t (Q : QT) (R4 : T4) (a0 : Pt) (n0 c0 : Nat) (e0 : Bool) (a1 : Pt) (n1 c1 : Nat) (e1 : Bool) (x5 : Int) (h : Zaa) : Prop :=
 bcase (decide ((x5 : Int) < (((n0 : Nat) : Int)))) ((0 ≤ (x5 : Int) ∧ (x5 : Int) < (n0 : Nat)) ∧ (Zbi a0 fun I0 O1 => (0 ≤ (x5 : Int) ∧ (x5 : Int) < (n1 : Nat)) ∧ (Zbi a1 fun I2 O3 => Zcx (Zbp h (.ptr (some (I0, O1 + (Int.toNat x5) * 2))) 2) fun K4 => Zaj K4 fun C5 Z6 => Zbo (some C5) fun S7 => Zaj Z6 fun C8 Z9 => Zbo (some C8) fun S10 => Zcg Z9 (Zcx (Zbp h (.ptr (some (I2, O3 + (Int.toNat x5) * 2))) 2) fun K11 => Zaj K11 fun C12 Z13 => Zbo (some C12) fun S14 => Zaj Z13 fun C15 Z16 => Zbo (some C15) fun S17 => Zcg Z16 ((Zbp h (.ptr (some (I0, O1 + (Int.toNat x5) * 2))) 2 = Zbp h (.ptr (some (I0, O1 + (Int.toNat x5) * 2))) 2) ∧ Zad pg Zkf [.agg [.str S7, .str S10], .agg [.str S14, .str S17]] h fun V18 H19 =>
 Zbx (some V18) fun B20 => bcase (!B20) (Q (.bool false) H19) (R4 a0 n0 c0 e0 a1 n1 c1 e1 (IntKind.wrap .i64 (x5 + 1)) H19)))))) (Zyk Q h)
theorem Zts (Q : QT) (R4 : T4) (a0 : Pt) (n0 c0 : Nat) (e0 : Bool) (a1 : Pt) (n1 c1 : Nat) (e1 : Bool) (x5 : Int) (h : Zaa) (ht : L4t Q R4 a0 n0 c0 e0 a1 n1 c1 e1 x5 h) : Den pg fn.ntmps (C [1, 1, 0, 1, 0, 0]) [(0, .slice a0 n0 c0 e0), (1, .slice a1 n1 c1 e1), (5, .int .i64 x5)] h (K3 Q R4) :=
  Zbc (kp := kp) (cast (by kernel_rfl) ht)
theorem L4ind (Q : QT) (a0 : Pt) (n0 c0 : Nat) (e0 : Bool) (a1 : Pt) (n1 c1 : Nat) (e1 : Bool) {G : Type} (J : G → Int → Zaa → Prop) (m : G → Nat)
 (hr : ∀ (g : G) (x5 : Int) (h : Zaa), J g x5 h → ∀ (R4 : T4), (∀ g' (x5 : Int) (h : Zaa), m g' < m g → J g' x5 h → R4 a0 n0 c0 e0 a1 n1 c1 e1 x5 h) → L4t Q R4 a0 n0 c0 e0 a1 n1 c1 e1 x5 h)
 (g : G) (x5 : Int) (h : Zaa) (hj : J g x5 h) : L4 Q a0 n0 c0 e0 a1 n1 c1 e1 x5 h := by
  refine Zeg.inv2 (fun g => E4 fun a0' n0' c0' e0' a1' n1' c1' e1' x5 h => a0 = a0' ∧ n0 = n0' ∧ c0 = c0' ∧ e0 = e0' ∧ a1 = a1' ∧ n1 = n1' ∧ c1 = c1' ∧ e1 = e1' ∧ J g x5 h) (fun g => E4 fun a0' n0' c0' e0' a1' n1' c1' e1' x5 h => a0 = a0' ∧ n0 = n0' ∧ c0 = c0' ∧ e0 = e0' ∧ a1 = a1' ∧ n1 = n1' ∧ c1 = c1' ∧ e1 = e1' ∧ ∃ g', m g' < m g ∧ J g' x5 h) m ?_ ?_ g ⟨rfl, rfl, rfl, rfl, rfl, rfl, rfl, rfl, hj⟩
  · intro g env h hi
    obtain ⟨a0', n0', c0', e0', a1', n1', c1', e1', x5, rfl, rfl, rfl, rfl, rfl, rfl, rfl, rfl, rfl, hj⟩ := Zjn hi
    exact Zts Q _ a0 n0 c0 e0 a1 n1 c1 e1 x5 h (hr g x5 h hj (fun a0' n0' c0' e0' a1' n1' c1' e1' x5 h => a0 = a0' ∧ n0 = n0' ∧ c0 = c0' ∧ e0 = e0' ∧ a1 = a1' ∧ n1 = n1' ∧ c1 = c1' ∧ e1 = e1' ∧ ∃ g', m g' < m g ∧ J g' x5 h) fun g' x5 h hlt hj => ⟨rfl, rfl, rfl, rfl, rfl, rfl, rfl, rfl, g', hlt, hj⟩)
  · intro g env h hi
    obtain ⟨a0', n0', c0', e0', a1', n1', c1', e1', x5, rfl, rfl, rfl, rfl, rfl, rfl, rfl, rfl, rfl, g', hlt, hj⟩ := Zjn hi
    exact ⟨g', hlt, rfl, rfl, rfl, rfl, rfl, rfl, rfl, rfl, hj⟩
theorem A4x0i (Q : QT) (h : Zaa) (ht :
 Q (.bool true) h) : Zyk Q h :=
  At.mk (cast (by kernel_rfl) ht)
theorem call (a0 : Pt) (n0 c0 : Nat) (e0 : Bool) (a1 : Pt) (n1 c1 : Nat) (e1 : Bool) (h : Zaa) (Q : QT) (ht :
 bcase (!((((n0 : Nat) : Int) : Int) == (((n1 : Nat) : Int)))) (Q (.bool false) h) (L4 Q a0 n0 c0 e0 a1 n1 c1 e1 0 h)) : Zad pg Zll [.slice a0 n0 c0 e0, .slice a1 n1 c1 e1] h Q :=
  Zad.of_body kp (c := cod fn) (fn := fn) Go.Proofs.Tryz.func18 (by kernel_rfl) (by kernel_rfl) (Nat.le_of_ble_eq_true (by kernel_rfl))
    (cast (by kernel_rfl) ht)
end Zhj
end Go.Sim
