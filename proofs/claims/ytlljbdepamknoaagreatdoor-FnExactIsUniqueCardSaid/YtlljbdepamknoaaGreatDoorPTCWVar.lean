/- A part of the proof of a statement of this seat: see the text that holds the theorem. No condition. -/
import Derived.Test.YtlljbdepamknoaaGreatDoorNm
set_option linter.unusedVariables false
set_option linter.unusedSimpArgs false
set_option linter.all false
set_option maxRecDepth 100000
set_option linter.unusedVariables false
namespace Go.Sim
open Go Go.RowKit
namespace Zjg
noncomputable abbrev fn : Func := Go.Proofs.Tryz.f69
def kp : Zcd := []
noncomputable def C (p : List Nat) : Code := (cod fn).sub p
def KR (Q : QT) : KT := Zem pg fn.results.toList Q
theorem call (x0x0 x0x1 : List Nat) (a0x2 : Pt) (n0x2 c0x2 : Nat) (e0x2 : Bool) (v1 : Zaq) (h : Zaa) (Q : QT) (ht :
 Zcn (h ++ [.cells Zai [.str x0x0, .str x0x1, .slice a0x2 n0x2 c0x2 e0x2] false]) fun H0 => Zcz (Zbx H0 (v1) 2) fun K1 => Zao K1 fun C2 Z3 => xSl (some C2) fun A4 N5 C6 E7 => Zao Z3 fun C8 Z9 => xSl (some C8) fun A10 N11 C12 E13 => Zcl Z9 (Zcz (Zbx H0 (.ptr (some (h.length, 0))) 3) fun K14 => Zao K14 fun C15 Z16 => Zbp (some C15) fun S17 => Zao Z16 fun C18 Z19 => Zbp (some C18) fun S20 => Zao Z19 fun C21 Z22 => xSl (some C21) fun A23 N24 C25 E26 => Zcl Z22 (Zae pg Zhf [.agg [.slice A4 N5 C6 E7, .slice A10 N11 C12 E13], .agg [.str S17, .str S20, .slice A23 N24 C25 E26]] H0 fun V27 H28 =>
 Zch (some V27) fun B29 => Q (.bool (!B29)) H28))) : Zae pg Zcb [.agg [.str x0x0, .str x0x1, .slice a0x2 n0x2 c0x2 e0x2], v1] h Q :=
 Zae.of_body kp (c := cod fn) (fn := fn) Go.Proofs.Tryz.func69 (by kernel_rfl) (by kernel_rfl) (Nat.le_of_ble_eq_true (by kernel_rfl))
  (cast (by kernel_rfl) ht)
end Zjg
namespace Zbd
noncomputable abbrev fn : Func := Go.Proofs.Tryz.f109
def kp : Zcd := [(3000002, [4]), (1000002, [0, 1, 7, 8])]
noncomputable def C (p : List Nat) : Code := (cod fn).sub p
def KR (Q : QT) : KT := Zem pg fn.results.toList Q
abbrev T2 := Pt → Nat → Nat → Bool → Zaq → Int → Int → Zaa → Prop
def E2 (R2 : T2) (env : Env) (h : Zaa) : Prop := Zbj 0 env fun v env => xSl (some v) fun a0 n0 c0 e0 => Zbj 1 env fun v env => eFn Zcb v fun cs => Zao cs fun c cs' => Zzx (some c) fun v1x0 => Zcl cs' (Zbj 7 env fun v env => Zda .i64 v fun x7 => Zbj 8 env fun v env => Zda .i64 v fun x8 => Ziw env (R2 a0 n0 c0 e0 v1x0 x7 x8 h))
theorem Zex {R2 : T2} {env : Env} {h : Zaa} (hi : E2 R2 env h) : ∃ a0, ∃ n0, ∃ c0, ∃ e0, ∃ v1x0, ∃ x7, ∃ x8, env = [(0, .slice a0 n0 c0 e0), (1, .fn Zcb [v1x0]), (7, .int .i64 x7), (8, .int .i64 x8)] ∧ R2 a0 n0 c0 e0 v1x0 x7 x8 h := by
 unfold E2 at hi
 have hi0 := hi
 clear hi
 obtain ⟨_, _, rfl, hi1⟩ := Zab hi0
 obtain ⟨a0, n0, c0, e0, rfl, hi2⟩ := Zax hi1
 obtain ⟨_, _, rfl, hi3⟩ := Zab hi2
 obtain ⟨cs, rfl, hi4⟩ := Zyt hi3
 obtain ⟨c, cs', rfl, hi5⟩ := Ztc hi4
 obtain ⟨v1x0, hx, hi6⟩ := Znm hi5
 replace hx := (Option.some.inj hx).symm
 subst hx
 obtain ⟨rfl, hi7⟩ := Zvb hi6
 obtain ⟨_, _, rfl, hi8⟩ := Zab hi7
 obtain ⟨x7, rfl, hi9⟩ := Zak hi8
 obtain ⟨_, _, rfl, hi10⟩ := Zab hi9
 obtain ⟨x8, rfl, hi11⟩ := Zak hi10
 obtain ⟨rfl, hi12⟩ := Zbk hi11
 have hi := hi12
 exact ⟨a0, n0, c0, e0, v1x0, x7, x8, rfl, hi⟩
def K0 (Q : QT) : KT := andThen (fun env' h' => (match kp.find 4000007 with | some ks => Den pg fn.ntmps (C [1, 1]) (env'.keep ks) h' (KR Q) | none => den pg fn.ntmps kp (C [1, 1]) env' h' (KR Q))) (KR Q)
def K1 (Q : QT) : KT := Zcg 0 (K0 Q)
def K2 (Q : QT) : KT := Zgf kp 2 (K1 Q)
def K3 (Q : QT) (R2 : T2) : KT := rnd ((kp.find 1000002).getD []) (E2 R2) (K2 Q)
def L2 (Q : QT) (a0 : Pt) (n0 c0 : Nat) (e0 : Bool) (v1x0 : Zaq) (x7 x8 : Int) (h : Zaa) : Prop := Zdz (Den pg fn.ntmps (C [1, 0, 1, 0, 0])) ((kp.find 1000002).getD []) (K2 Q) [(0, .slice a0 n0 c0 e0), (1, .fn Zcb [v1x0]), (7, .int .i64 x7), (8, .int .i64 x8)] h
def Zqs (Q : QT) (h : Zaa) : Prop := At (K1 Q) (.exit 0) [(4, .undef)] h
def L2t (Q : QT) (R2 : T2) (a0 : Pt) (n0 c0 : Nat) (e0 : Bool) (v1x0 : Zaq) (x7 x8 : Int) (h : Zaa) : Prop :=
 bcase (decide ((x8 : Int) < x7)) ((0 ≤ (x8 : Int) ∧ (x8 : Int) < (n0 : Nat)) ∧ (Zbl a0 fun I0 O1 => Zcz (Zbx h (.ptr (some (I0, O1 + (Int.toNat x8) * 3))) 3) fun K2 => Zao K2 fun C3 Z4 => Zbp (some C3) fun S5 => Zao Z4 fun C6 Z7 => Zbp (some C6) fun S8 => Zao Z7 fun C9 Z10 => xSl (some C9) fun A11 N12 C13 E14 => Zcl Z10 (Zae pg Zcb [.agg [.str S5, .str S8, .slice A11 N12 C13 E14], v1x0] h fun V15 H16 =>
 Zch (some V15) fun B17 => bcase B17 (Q (.int .i64 x8) H16) (R2 a0 n0 c0 e0 v1x0 x7 (IntKind.wrap .i64 (x8 + 1)) H16)))) (Zqs Q h)
theorem Zmo (Q : QT) (R2 : T2) (a0 : Pt) (n0 c0 : Nat) (e0 : Bool) (v1x0 : Zaq) (x7 x8 : Int) (h : Zaa) (ht : L2t Q R2 a0 n0 c0 e0 v1x0 x7 x8 h) : Den pg fn.ntmps (C [1, 0, 1, 0, 0]) [(0, .slice a0 n0 c0 e0), (1, .fn Zcb [v1x0]), (7, .int .i64 x7), (8, .int .i64 x8)] h (K3 Q R2) :=
 Zbb (kp := kp) (cast (by kernel_rfl) ht)
theorem L2ind (Q : QT) (a0 : Pt) (n0 c0 : Nat) (e0 : Bool) (v1x0 : Zaq) (x7 : Int) {G : Type} (J : G → Int → Zaa → Prop) (m : G → Nat)
 (hr : ∀ (g : G) (x8 : Int) (h : Zaa), J g x8 h → ∀ (R2 : T2), (∀ g' (x8 : Int) (h : Zaa), m g' < m g → J g' x8 h → R2 a0 n0 c0 e0 v1x0 x7 x8 h) → L2t Q R2 a0 n0 c0 e0 v1x0 x7 x8 h)
 (g : G) (x8 : Int) (h : Zaa) (hj : J g x8 h) : L2 Q a0 n0 c0 e0 v1x0 x7 x8 h := by
 refine Zdz.inv2 (fun g => E2 fun a0' n0' c0' e0' v1x0' x7' x8 h => a0 = a0' ∧ n0 = n0' ∧ c0 = c0' ∧ e0 = e0' ∧ v1x0 = v1x0' ∧ x7 = x7' ∧ J g x8 h) (fun g => E2 fun a0' n0' c0' e0' v1x0' x7' x8 h => a0 = a0' ∧ n0 = n0' ∧ c0 = c0' ∧ e0 = e0' ∧ v1x0 = v1x0' ∧ x7 = x7' ∧ ∃ g', m g' < m g ∧ J g' x8 h) m ?_ ?_ g ⟨rfl, rfl, rfl, rfl, rfl, rfl, hj⟩
 ·intro g env h hi
  obtain ⟨a0', n0', c0', e0', v1x0', x7', x8, rfl, rfl, rfl, rfl, rfl, rfl, rfl, hj⟩ := Zex hi
  exact Zmo Q _ a0 n0 c0 e0 v1x0 x7 x8 h (hr g x8 h hj (fun a0' n0' c0' e0' v1x0' x7' x8 h => a0 = a0' ∧ n0 = n0' ∧ c0 = c0' ∧ e0 = e0' ∧ v1x0 = v1x0' ∧ x7 = x7' ∧ ∃ g', m g' < m g ∧ J g' x8 h) fun g' x8 h hlt hj => ⟨rfl, rfl, rfl, rfl, rfl, rfl, g', hlt, hj⟩)
 ·intro g env h hi
  obtain ⟨a0', n0', c0', e0', v1x0', x7', x8, rfl, rfl, rfl, rfl, rfl, rfl, rfl, g', hlt, hj⟩ := Zex hi
  exact ⟨g', hlt, rfl, rfl, rfl, rfl, rfl, rfl, hj⟩
theorem A2x0i (Q : QT) (h : Zaa) (ht :
 Q (.int .i64 (-1)) h) : Zqs Q h :=
 At.mk (cast (by kernel_rfl) ht)
theorem call (a0 : Pt) (n0 c0 : Nat) (e0 : Bool) (v1x0 : Zaq) (h : Zaa) (Q : QT) (ht :
 L2 Q a0 n0 c0 e0 v1x0 (((n0 : Nat) : Int)) 0 h) : Zae pg Zcu [.slice a0 n0 c0 e0, .fn Zcb [v1x0]] h Q :=
 Zae.of_body kp (c := cod fn) (fn := fn) Go.Proofs.Tryz.func109 (by kernel_rfl) (by kernel_rfl) (Nat.le_of_ble_eq_true (by kernel_rfl))
  (cast (by kernel_rfl) ht)
end Zbd
namespace Znn
noncomputable abbrev fn : Func := Go.Proofs.Tryz.f42
def kp : Zcd := []
noncomputable def C (p : List Nat) : Code := (cod fn).sub p
def KR (Q : QT) : KT := Zem pg fn.results.toList Q
theorem call (a0x0 : Pt) (n0x0 c0x0 : Nat) (e0x0 : Bool) (a0x1 : Pt) (n0x1 c0x1 : Nat) (e0x1 : Bool) (h : Zaa) (Q : QT) (ht :
 Zcn (h ++ [.cells Zaj [.slice a0x0 n0x0 c0x0 e0x0, .slice a0x1 n0x1 c0x1 e0x1] false]) fun H0 => Zcz (Zbx H0 (.ptr (some (h.length, 0))) 2) fun K1 => Zao K1 fun C2 Z3 => xSl (some C2) fun A4 N5 C6 E7 => Zao Z3 fun C8 Z9 => xSl (some C8) fun A10 N11 C12 E13 => Zcl Z9 (Zae pg Zhw [.agg [.slice A4 N5 C6 E7, .slice A10 N11 C12 E13]] H0 fun V14 H15 =>
 Zch (some V14) fun B16 => bcase B16 (xSl (Zal H15 (.ptr (some (h.length, 0 + 1)))) fun A17 N18 C19 E20 => bcase (decide (((((N18 : Nat) : Int)) : Int) ≤ 10)) (xSl (Zal H15 (.ptr (some (h.length, 0 + 1)))) fun A21 N22 C23 E24 => Zae pg Zdi [.slice A21 N22 C23 E24, .fn Zcb [.ptr (some (h.length, 0))]] H15 fun V25 H26 =>
 Zch (some V25) fun B27 => Q (.bool (!B27)) H26) (Q (.bool false) H15)) (Q (.bool false) H15))) : Zae pg Zjs [.agg [.slice a0x0 n0x0 c0x0 e0x0, .slice a0x1 n0x1 c0x1 e0x1]] h Q :=
 Zae.of_body kp (c := cod fn) (fn := fn) Go.Proofs.Tryz.func42 (by kernel_rfl) (by kernel_rfl) (Nat.le_of_ble_eq_true (by kernel_rfl))
  (cast (by kernel_rfl) ht)
end Znn
namespace Zcj
noncomputable abbrev fn : Func := Go.Proofs.Tryz.f68
def kp : Zcd := []
noncomputable def C (p : List Nat) : Code := (cod fn).sub p
def KR (Q : QT) : KT := Zem pg fn.results.toList Q
theorem call (a0 : Pt) (n0 c0 : Nat) (e0 : Bool) (v1x0 : Zaq) (h : Zaa) (Q : QT) (ht :
 Zae pg Zcu [.slice a0 n0 c0 e0, .fn Zcb [v1x0]] h fun V0 H1 =>
 Zen .i64 (some V0) fun X2 => Q (.bool (decide ((X2 : Int) ≥ 0))) H1) : Zae pg Zdi [.slice a0 n0 c0 e0, .fn Zcb [v1x0]] h Q :=
 Zae.of_body kp (c := cod fn) (fn := fn) Go.Proofs.Tryz.func68 (by kernel_rfl) (by kernel_rfl) (Nat.le_of_ble_eq_true (by kernel_rfl))
  (cast (by kernel_rfl) ht)
end Zcj
namespace Zfn
noncomputable abbrev fn : Func := Go.Proofs.Tryz.f40
def kp : Zcd := [(3000002, [1, 2]), (1000002, [1, 6, 7, 8])]
noncomputable def C (p : List Nat) : Code := (cod fn).sub p
def KR (Q : QT) : KT := Zem pg fn.results.toList Q
abbrev T2 := Nat → Nat → Pt → Nat → Nat → Bool → Int → Int → Zaa → Prop
def E2 (R2 : T2) (env : Env) (h : Zaa) : Prop := Zbj 1 env fun v env => Zgg (some v) fun a => Zbl a fun i1 o1 => Zbj 6 env fun v env => xSl (some v) fun a6 n6 c6 e6 => Zbj 7 env fun v env => Zda .i64 v fun x7 => Zbj 8 env fun v env => Zda .i64 v fun x8 => Ziw env (R2 i1 o1 a6 n6 c6 e6 x7 x8 h)
theorem Zex {R2 : T2} {env : Env} {h : Zaa} (hi : E2 R2 env h) : ∃ i1, ∃ o1, ∃ a6, ∃ n6, ∃ c6, ∃ e6, ∃ x7, ∃ x8, env = [(1, .ptr (some (i1, o1))), (6, .slice a6 n6 c6 e6), (7, .int .i64 x7), (8, .int .i64 x8)] ∧ R2 i1 o1 a6 n6 c6 e6 x7 x8 h := by
 unfold E2 at hi
 have hi0 := hi
 clear hi
 obtain ⟨_, _, rfl, hi1⟩ := Zab hi0
 obtain ⟨a, rfl, hi2⟩ := Zbo hi1
 obtain ⟨i1, o1, rfl, hi3⟩ := Zbs hi2
 obtain ⟨_, _, rfl, hi4⟩ := Zab hi3
 obtain ⟨a6, n6, c6, e6, rfl, hi5⟩ := Zax hi4
 obtain ⟨_, _, rfl, hi6⟩ := Zab hi5
 obtain ⟨x7, rfl, hi7⟩ := Zak hi6
 obtain ⟨_, _, rfl, hi8⟩ := Zab hi7
 obtain ⟨x8, rfl, hi9⟩ := Zak hi8
 obtain ⟨rfl, hi10⟩ := Zbk hi9
 have hi := hi10
 exact ⟨i1, o1, a6, n6, c6, e6, x7, x8, rfl, hi⟩
def K0 (Q : QT) : KT := andThen (fun env' h' => (match kp.find 4000007 with | some ks => Den pg fn.ntmps (C [1, 1]) (env'.keep ks) h' (KR Q) | none => den pg fn.ntmps kp (C [1, 1]) env' h' (KR Q))) (KR Q)
def K1 (Q : QT) : KT := Zcg 0 (K0 Q)
def K2 (Q : QT) : KT := Zgf kp 2 (K1 Q)
def K3 (Q : QT) (R2 : T2) : KT := rnd ((kp.find 1000002).getD []) (E2 R2) (K2 Q)
def L2 (Q : QT) (i1 o1 : Nat) (a6 : Pt) (n6 c6 : Nat) (e6 : Bool) (x7 x8 : Int) (h : Zaa) : Prop := Zdz (Den pg fn.ntmps (C [1, 0, 1, 0, 0])) ((kp.find 1000002).getD []) (K2 Q) [(1, .ptr (some (i1, o1))), (6, .slice a6 n6 c6 e6), (7, .int .i64 x7), (8, .int .i64 x8)] h
def Zqs (Q : QT) (i1 o1 : Nat) (h : Zaa) : Prop := At (K1 Q) (.exit 0) [(1, .ptr (some (i1, o1))), (2, .undef)] h
def L2t (Q : QT) (R2 : T2) (i1 o1 : Nat) (a6 : Pt) (n6 c6 : Nat) (e6 : Bool) (x7 x8 : Int) (h : Zaa) : Prop :=
 bcase (decide ((x8 : Int) < x7)) ((0 ≤ (x8 : Int) ∧ (x8 : Int) < (n6 : Nat)) ∧ (Zbl a6 fun I5 O6 => Zcz (Zbx h (.ptr (some (I5, O6 + (Int.toNat x8) * 3))) 3) fun K7 => Zao K7 fun C8 Z9 => Zbp (some C8) fun S10 => Zao Z9 fun C11 Z12 => Zbp (some C11) fun S13 => Zao Z12 fun C14 Z15 => xSl (some C14) fun A16 N17 C18 E19 => Zcl Z15 (Zcn (h ++ [.cells Zai [.str [], .str [], .slice none 0 0 true] false]) fun H20 => Zcp (Zbn H20 (.ptr (some (h.length, 0))) [.str S10, .str S13, .slice A16 N17 C18 E19]) fun H21 => Zcz (Zbx H21 (.ptr (some (i1, o1))) 2) fun K22 => Zao K22 fun C23 Z24 => xSl (some C23) fun A25 N26 C27 E28 => Zao Z24 fun C29 Z30 => xSl (some C29) fun A31 N32 C33 E34 => Zcl Z30 (Zcz (Zbx H21 (.ptr (some (h.length, 0))) 3) fun K35 => Zao K35 fun C36 Z37 => Zbp (some C36) fun S38 => Zao Z37 fun C39 Z40 => Zbp (some C39) fun S41 => Zao Z40 fun C42 Z43 => xSl (some C42) fun A44 N45 C46 E47 => Zcl Z43 (Zae pg Zha [.agg [.slice A25 N26 C27 E28, .slice A31 N32 C33 E34], .agg [.str S38, .str S41, .slice A44 N45 C46 E47]] H21 fun V48 H49 =>
 Zch (some V48) fun B50 => bcase (!B50) (Q (.bool false) H49) (R2 i1 o1 a6 n6 c6 e6 x7 (IntKind.wrap .i64 (x8 + 1)) H49)))))) (Zqs Q i1 o1 h)
theorem Zmo (Q : QT) (R2 : T2) (i1 o1 : Nat) (a6 : Pt) (n6 c6 : Nat) (e6 : Bool) (x7 x8 : Int) (h : Zaa) (ht : L2t Q R2 i1 o1 a6 n6 c6 e6 x7 x8 h) : Den pg fn.ntmps (C [1, 0, 1, 0, 0]) [(1, .ptr (some (i1, o1))), (6, .slice a6 n6 c6 e6), (7, .int .i64 x7), (8, .int .i64 x8)] h (K3 Q R2) :=
 Zbb (kp := kp) (cast (by kernel_rfl) ht)
theorem L2ind (Q : QT) (i1 o1 : Nat) (a6 : Pt) (n6 c6 : Nat) (e6 : Bool) (x7 : Int) {G : Type} (J : G → Int → Zaa → Prop) (m : G → Nat)
 (hr : ∀ (g : G) (x8 : Int) (h : Zaa), J g x8 h → ∀ (R2 : T2), (∀ g' (x8 : Int) (h : Zaa), m g' < m g → J g' x8 h → R2 i1 o1 a6 n6 c6 e6 x7 x8 h) → L2t Q R2 i1 o1 a6 n6 c6 e6 x7 x8 h)
 (g : G) (x8 : Int) (h : Zaa) (hj : J g x8 h) : L2 Q i1 o1 a6 n6 c6 e6 x7 x8 h := by
 refine Zdz.inv2 (fun g => E2 fun i1' o1' a6' n6' c6' e6' x7' x8 h => i1 = i1' ∧ o1 = o1' ∧ a6 = a6' ∧ n6 = n6' ∧ c6 = c6' ∧ e6 = e6' ∧ x7 = x7' ∧ J g x8 h) (fun g => E2 fun i1' o1' a6' n6' c6' e6' x7' x8 h => i1 = i1' ∧ o1 = o1' ∧ a6 = a6' ∧ n6 = n6' ∧ c6 = c6' ∧ e6 = e6' ∧ x7 = x7' ∧ ∃ g', m g' < m g ∧ J g' x8 h) m ?_ ?_ g ⟨rfl, rfl, rfl, rfl, rfl, rfl, rfl, hj⟩
 ·intro g env h hi
  obtain ⟨i1', o1', a6', n6', c6', e6', x7', x8, rfl, rfl, rfl, rfl, rfl, rfl, rfl, rfl, hj⟩ := Zex hi
  exact Zmo Q _ i1 o1 a6 n6 c6 e6 x7 x8 h (hr g x8 h hj (fun i1' o1' a6' n6' c6' e6' x7' x8 h => i1 = i1' ∧ o1 = o1' ∧ a6 = a6' ∧ n6 = n6' ∧ c6 = c6' ∧ e6 = e6' ∧ x7 = x7' ∧ ∃ g', m g' < m g ∧ J g' x8 h) fun g' x8 h hlt hj => ⟨rfl, rfl, rfl, rfl, rfl, rfl, rfl, g', hlt, hj⟩)
 ·intro g env h hi
  obtain ⟨i1', o1', a6', n6', c6', e6', x7', x8, rfl, rfl, rfl, rfl, rfl, rfl, rfl, rfl, g', hlt, hj⟩ := Zex hi
  exact ⟨g', hlt, rfl, rfl, rfl, rfl, rfl, rfl, rfl, hj⟩
theorem A2x0i (Q : QT) (i1 o1 : Nat) (h : Zaa) (ht :
 xSl (Zal h (.ptr (some (i1, o1 + 0)))) fun A51 N52 C53 E54 => Zae pg Zhs [.slice A51 N52 C53 E54] h fun V55 H56 =>
 Zch (some V55) fun B57 => bcase B57 (xSl (Zal H56 (.ptr (some (i1, o1 + 1)))) fun A58 N59 C60 E61 => Q (.bool (decide (((((N59 : Nat) : Int)) : Int) ≤ 10))) H56) (Q (.bool false) H56)) : Zqs Q i1 o1 h :=
 At.mk (cast (by kernel_rfl) ht)
theorem call (a0x0 : Pt) (n0x0 c0x0 : Nat) (e0x0 : Bool) (a0x1 : Pt) (n0x1 c0x1 : Nat) (e0x1 : Bool) (h : Zaa) (Q : QT) (ht :
 Zcn (h ++ [.cells Zaj [.slice a0x0 n0x0 c0x0 e0x0, .slice a0x1 n0x1 c0x1 e0x1] false]) fun H0 => xSl (Zal H0 (.ptr (some (h.length, 0 + 1)))) fun A1 N2 C3 E4 => L2 Q h.length 0 A1 N2 C3 E4 (((N2 : Nat) : Int)) 0 H0) : Zae pg Zka [.agg [.slice a0x0 n0x0 c0x0 e0x0, .slice a0x1 n0x1 c0x1 e0x1]] h Q :=
 Zae.of_body kp (c := cod fn) (fn := fn) Go.Proofs.Tryz.func40 (by kernel_rfl) (by kernel_rfl) (Nat.le_of_ble_eq_true (by kernel_rfl))
  (cast (by kernel_rfl) ht)
end Zfn
namespace Zrw
noncomputable abbrev fn : Func := Go.Proofs.Tryz.f57
def kp : Zcd := []
noncomputable def C (p : List Nat) : Code := (cod fn).sub p
def KR (Q : QT) : KT := Zem pg fn.results.toList Q
theorem call (a0x0 : Pt) (n0x0 c0x0 : Nat) (e0x0 : Bool) (a0x1 : Pt) (n0x1 c0x1 : Nat) (e0x1 : Bool) (x1x0 x1x1 : List Nat) (h : Zaa) (Q : QT) (ht :
 Zcn (h ++ [.cells Zaj [.slice a0x0 n0x0 c0x0 e0x0, .slice a0x1 n0x1 c0x1 e0x1] false]) fun H0 => Zcn (H0 ++ [.cells Zad [.str x1x0, .str x1x1] false]) fun H1 => xSl (Zal H1 (.ptr (some (h.length, 0 + 0)))) fun A2 N3 C4 E5 => Zbp (Zal H1 (.ptr (some (H0.length, 0 + 0)))) fun S6 => Zae pg Zid [.slice A2 N3 C4 E5, .str S6] H1 fun V7 H8 =>
 Zch (some V7) fun B9 => bcase B9 (Zbp (Zal H8 (.ptr (some (H0.length, 0 + 1)))) fun S10 => Zae pg Zeq [.str S10] H8 fun V11 H12 =>
 Zch (some V11) fun B13 => Q (.bool B13) H12) (Q (.bool false) H8)) : Zae pg Znw [.agg [.slice a0x0 n0x0 c0x0 e0x0, .slice a0x1 n0x1 c0x1 e0x1], .agg [.str x1x0, .str x1x1]] h Q :=
 Zae.of_body kp (c := cod fn) (fn := fn) Go.Proofs.Tryz.func57 (by kernel_rfl) (by kernel_rfl) (Nat.le_of_ble_eq_true (by kernel_rfl))
  (cast (by kernel_rfl) ht)
end Zrw
namespace Zsi
noncomputable abbrev fn : Func := Go.Proofs.Tryz.f50
def kp : Zcd := []
noncomputable def C (p : List Nat) : Code := (cod fn).sub p
def KR (Q : QT) : KT := Zem pg fn.results.toList Q
theorem call (a0x0 : Pt) (n0x0 c0x0 : Nat) (e0x0 : Bool) (a0x1 : Pt) (n0x1 c0x1 : Nat) (e0x1 : Bool) (x1x0 x1x1 : List Nat) (h : Zaa) (Q : QT) (ht :
 Zcn (h ++ [.cells Zaj [.slice a0x0 n0x0 c0x0 e0x0, .slice a0x1 n0x1 c0x1 e0x1] false]) fun H0 => Zcn (H0 ++ [.cells Zad [.str x1x0, .str x1x1] false]) fun H1 => Zcz (Zbx H1 (.ptr (some (h.length, 0))) 2) fun K2 => Zao K2 fun C3 Z4 => xSl (some C3) fun A5 N6 C7 E8 => Zao Z4 fun C9 Z10 => xSl (some C9) fun A11 N12 C13 E14 => Zcl Z10 (Zbp (Zal H1 (.ptr (some (H0.length, 0 + 0)))) fun S15 => Zae pg Zga [.agg [.slice A5 N6 C7 E8, .slice A11 N12 C13 E14], .str S15] H1 fun V16 H17 =>
 Zen .i64 (some V16) fun X18 => bcase (decide ((X18 : Int) ≥ 0)) (Zbp (Zal H17 (.ptr (some (H0.length, 0 + 1)))) fun S19 => Zae pg Zep [.str S19] H17 fun V20 H21 =>
 Zch (some V20) fun B22 => Q (.bool B22) H21) (Q (.bool false) H17))) : Zae pg Zoc [.agg [.slice a0x0 n0x0 c0x0 e0x0, .slice a0x1 n0x1 c0x1 e0x1], .agg [.str x1x0, .str x1x1]] h Q :=
 Zae.of_body kp (c := cod fn) (fn := fn) Go.Proofs.Tryz.func50 (by kernel_rfl) (by kernel_rfl) (Nat.le_of_ble_eq_true (by kernel_rfl))
  (cast (by kernel_rfl) ht)
end Zsi
namespace Zop
noncomputable abbrev fn : Func := Go.Proofs.Tryz.f30
def kp : Zcd := []
noncomputable def C (p : List Nat) : Code := (cod fn).sub p
def KR (Q : QT) : KT := Zem pg fn.results.toList Q
theorem call (a0x0 : Pt) (n0x0 c0x0 : Nat) (e0x0 : Bool) (a0x1 : Pt) (n0x1 c0x1 : Nat) (e0x1 : Bool) (x1x0 x1x1 : List Nat) (h : Zaa) (Q : QT) (ht :
 Zcn (h ++ [.cells Zaj [.slice a0x0 n0x0 c0x0 e0x0, .slice a0x1 n0x1 c0x1 e0x1] false]) fun H0 => Zcn (H0 ++ [.cells Zad [.str x1x0, .str x1x1] false]) fun H1 => Zcz (Zbx H1 (.ptr (some (h.length, 0))) 2) fun K2 => Zao K2 fun C3 Z4 => xSl (some C3) fun A5 N6 C7 E8 => Zao Z4 fun C9 Z10 => xSl (some C9) fun A11 N12 C13 E14 => Zcl Z10 (Zae pg Zka [.agg [.slice A5 N6 C7 E8, .slice A11 N12 C13 E14]] H1 fun V15 H16 =>
 Zch (some V15) fun B17 => bcase B17 (Zcz (Zbx H16 (.ptr (some (h.length, 0))) 2) fun K18 => Zao K18 fun C19 Z20 => xSl (some C19) fun A21 N22 C23 E24 => Zao Z20 fun C25 Z26 => xSl (some C25) fun A27 N28 C29 E30 => Zcl Z26 (Zcz (Zbx H16 (.ptr (some (H0.length, 0))) 2) fun K31 => Zao K31 fun C32 Z33 => Zbp (some C32) fun S34 => Zao Z33 fun C35 Z36 => Zbp (some C35) fun S37 => Zcl Z36 (Zae pg Zoc [.agg [.slice A21 N22 C23 E24, .slice A27 N28 C29 E30], .agg [.str S34, .str S37]] H16 fun V38 H39 =>
 Zch (some V38) fun B40 => Q (.bool B40) H39))) (Q (.bool false) H16))) : Zae pg Zki [.agg [.slice a0x0 n0x0 c0x0 e0x0, .slice a0x1 n0x1 c0x1 e0x1], .agg [.str x1x0, .str x1x1]] h Q :=
 Zae.of_body kp (c := cod fn) (fn := fn) Go.Proofs.Tryz.func30 (by kernel_rfl) (by kernel_rfl) (Nat.le_of_ble_eq_true (by kernel_rfl))
  (cast (by kernel_rfl) ht)
end Zop
end Go.Sim

set_option maxRecDepth 100000
set_option linter.unusedVariables false
namespace Go.Sim
open Go Go.RowKit
namespace Zdo
noncomputable abbrev fn : Func := Go.Proofs.Tryz.f65
def kp : Zcd := [(4000003, [3, 2]), (3000004, [4]), (1000004, [2, 3, 47, 48, 49]), (2000006, [80, 49, 48, 47, 2, 3]), (4000008, [49, 48, 47, 2, 3])]
noncomputable def C (p : List Nat) : Code := (cod fn).sub p
def KR (Q : QT) : KT := Zem pg fn.results.toList Q
abbrev T4 := Nat → Nat → Nat → Nat → Pt → Nat → Nat → Bool → Int → Int → Zaa → Prop
def E4 (R4 : T4) (env : Env) (h : Zaa) : Prop := Zbj 2 env fun v env => Zgg (some v) fun a => Zbl a fun i2 o2 => Zbj 3 env fun v env => Zgg (some v) fun a => Zbl a fun i3 o3 => Zbj 47 env fun v env => xSl (some v) fun a47 n47 c47 e47 => Zbj 48 env fun v env => Zda .i64 v fun x48 => Zbj 49 env fun v env => Zda .i64 v fun x49 => Ziw env (R4 i2 o2 i3 o3 a47 n47 c47 e47 x48 x49 h)
theorem Zic {R4 : T4} {env : Env} {h : Zaa} (hi : E4 R4 env h) : ∃ i2, ∃ o2, ∃ i3, ∃ o3, ∃ a47, ∃ n47, ∃ c47, ∃ e47, ∃ x48, ∃ x49, env = [(2, .ptr (some (i2, o2))), (3, .ptr (some (i3, o3))), (47, .slice a47 n47 c47 e47), (48, .int .i64 x48), (49, .int .i64 x49)] ∧ R4 i2 o2 i3 o3 a47 n47 c47 e47 x48 x49 h := by
 unfold E4 at hi
 have hi0 := hi
 clear hi
 obtain ⟨_, _, rfl, hi1⟩ := Zab hi0
 obtain ⟨a, rfl, hi2⟩ := Zbo hi1
 obtain ⟨i2, o2, rfl, hi3⟩ := Zbs hi2
 obtain ⟨_, _, rfl, hi4⟩ := Zab hi3
 obtain ⟨a, rfl, hi5⟩ := Zbo hi4
 obtain ⟨i3, o3, rfl, hi6⟩ := Zbs hi5
 obtain ⟨_, _, rfl, hi7⟩ := Zab hi6
 obtain ⟨a47, n47, c47, e47, rfl, hi8⟩ := Zax hi7
 obtain ⟨_, _, rfl, hi9⟩ := Zab hi8
 obtain ⟨x48, rfl, hi10⟩ := Zak hi9
 obtain ⟨_, _, rfl, hi11⟩ := Zab hi10
 obtain ⟨x49, rfl, hi12⟩ := Zak hi11
 obtain ⟨rfl, hi13⟩ := Zbk hi12
 have hi := hi13
 exact ⟨i2, o2, i3, o3, a47, n47, c47, e47, x48, x49, rfl, hi⟩
def K0 (Q : QT) : KT := andThen (fun env' h' => (match kp.find 4000009 with | some ks => Den pg fn.ntmps (C [1, 1, 1]) (env'.keep ks) h' (KR Q) | none => den pg fn.ntmps kp (C [1, 1, 1]) env' h' (KR Q))) (KR Q)
def K1 (Q : QT) : KT := Zcg 0 (K0 Q)
def K2 (Q : QT) : KT := Zgf kp 4 (K1 Q)
def K3 (Q : QT) (R4 : T4) : KT := rnd ((kp.find 1000004).getD []) (E4 R4) (K2 Q)
def J3 (Q : QT) (i3 o3 i2 o2 : Nat) (h : Zaa) : Prop := Den pg fn.ntmps (C [1, 1]) [(3, .ptr (some (i3, o3))), (2, .ptr (some (i2, o2)))] h (KR Q)
def L4 (Q : QT) (i2 o2 i3 o3 : Nat) (a47 : Pt) (n47 c47 : Nat) (e47 : Bool) (x48 x49 : Int) (h : Zaa) : Prop := Zdz (Den pg fn.ntmps (C [1, 1, 0, 1, 0, 0])) ((kp.find 1000004).getD []) (K2 Q) [(2, .ptr (some (i2, o2))), (3, .ptr (some (i3, o3))), (47, .slice a47 n47 c47 e47), (48, .int .i64 x48), (49, .int .i64 x49)] h
def J8 (Q : QT) (R4 : T4) (x49 x48 : Int) (a47 : Pt) (n47 c47 : Nat) (e47 : Bool) (i2 o2 i3 o3 : Nat) (h : Zaa) : Prop := Den pg fn.ntmps (C [1, 1, 0, 1, 0, 0, 1, 1, 1]) [(49, .int .i64 x49), (48, .int .i64 x48), (47, .slice a47 n47 c47 e47), (2, .ptr (some (i2, o2))), (3, .ptr (some (i3, o3)))] h (K3 Q R4)
def Zxx (Q : QT) (h : Zaa) : Prop := At (K1 Q) (.exit 0) [(4, .undef)] h
theorem J3i (Q : QT) (i3 o3 i2 o2 : Nat) (h : Zaa) (ht :
 xSl (Zal h (.ptr (some (i3, o3 + 2)))) fun A40 N41 C42 E43 => L4 Q i2 o2 i3 o3 A40 N41 C42 E43 (((N41 : Nat) : Int)) 0 h) : J3 Q i3 o3 i2 o2 h :=
 Zbb (kp := kp) (cast (by kernel_rfl) ht)
def L4t (Q : QT) (R4 : T4) (i2 o2 i3 o3 : Nat) (a47 : Pt) (n47 c47 : Nat) (e47 : Bool) (x48 x49 : Int) (h : Zaa) : Prop :=
 bcase (decide ((x49 : Int) < x48)) ((0 ≤ (x49 : Int) ∧ (x49 : Int) < (n47 : Nat)) ∧ (Zbl a47 fun I44 O45 => Zcz (Zbx h (.ptr (some (I44, O45 + (Int.toNat x49) * 2))) 2) fun K46 => Zao K46 fun C47 Z48 => Zbp (some C47) fun S49 => Zao Z48 fun C50 Z51 => Zbp (some C50) fun S52 => Zcl Z51 (Zcn (h ++ [.cells Zad [.str [], .str []] false]) fun H53 => Zcp (Zbn H53 (.ptr (some (h.length, 0))) [.str S49, .str S52]) fun H54 => Zcz (Zbx H54 (.ptr (some (i2, o2))) 2) fun K55 => Zao K55 fun C56 Z57 => xSl (some C56) fun A58 N59 C60 E61 => Zao Z57 fun C62 Z63 => xSl (some C62) fun A64 N65 C66 E67 => Zcl Z63 (Zbp (Zal H54 (.ptr (some (h.length, 0 + 0)))) fun S68 => (Zbx H54 (.ptr (some (i2, o2))) 2 = Zbx H54 (.ptr (some (i2, o2))) 2) ∧ Zae pg Zga [.agg [.slice A58 N59 C60 E61, .slice A64 N65 C66 E67], .str S68] H54 fun V69 H70 =>
 Zen .i64 (some V69) fun X71 => bcase (decide ((X71 : Int) < 0)) ((Zbx H70 (.ptr (some (i2, o2))) 2 = Zbx H70 (.ptr (some (i2, o2))) 2) ∧ (Zbx H70 (.ptr (some (i2, o2))) 2 = Zbx H70 (.ptr (some (i2, o2))) 2) ∧ (Zbx H70 (.ptr (some (i2, o2))) 2 = Zbx H70 (.ptr (some (i2, o2))) 2) ∧ (Zal H70 (.tup []) = Zal H70 (.tup [])) ∧ (Zbx H70 (.ptr (some (i2, o2))) 2 = Zbx H70 (.ptr (some (i2, o2))) 2) ∧ (Zal H70 (.tup []) = Zal H70 (.tup [])) ∧ (Zbx H70 (.ptr (some (i2, o2))) 2 = Zbx H70 (.ptr (some (i2, o2))) 2) ∧ (Zal H70 (.tup []) = Zal H70 (.tup [])) ∧ (Zal H70 (.tup []) = Zal H70 (.tup [])) ∧ (Zbx H70 (.ptr (some (i2, o2))) 2 = Zbx H70 (.ptr (some (i2, o2))) 2) ∧ Q (.bool false) H70) (Zbp (Zal H70 (.ptr (some (h.length, 0 + 1)))) fun S72 => (Zbx H70 (.ptr (some (i2, o2))) 2 = Zbx H70 (.ptr (some (i2, o2))) 2) ∧ Zae pg Zep [.str S72] H70 fun V73 H74 =>
 Zch (some V73) fun B75 => (Zbx H74 (.ptr (some (i2, o2))) 2 = Zbx H70 (.ptr (some (i2, o2))) 2) ∧ bcase (!B75) ((Zbx H74 (.ptr (some (i2, o2))) 2 = Zbx H74 (.ptr (some (i2, o2))) 2) ∧ (Zal H74 (.tup []) = Zal H74 (.tup [])) ∧ (Zbx H74 (.ptr (some (i2, o2))) 2 = Zbx H74 (.ptr (some (i2, o2))) 2) ∧ (Zal H74 (.tup []) = Zal H74 (.tup [])) ∧ (Zbx H74 (.ptr (some (i2, o2))) 2 = Zbx H74 (.ptr (some (i2, o2))) 2) ∧ (Zal H74 (.tup []) = Zal H74 (.tup [])) ∧ (Zal H74 (.tup []) = Zal H74 (.tup [])) ∧ (Zbx H74 (.ptr (some (i2, o2))) 2 = Zbx H74 (.ptr (some (i2, o2))) 2) ∧ Q (.bool false) H74) (Zbp (Zal H74 (.ptr (some (h.length, 0 + 1)))) fun S76 => (Zbx H74 (.ptr (some (i2, o2))) 2 = Zbx H74 (.ptr (some (i2, o2))) 2) ∧ bcase (decide (((((List.length S76 : Nat) : Int)) : Int) > 20)) ((Zal H74 (.tup []) = Zal H74 (.tup [])) ∧ (Zbx H74 (.ptr (some (i2, o2))) 2 = Zbx H74 (.ptr (some (i2, o2))) 2) ∧ (Zal H74 (.tup []) = Zal H74 (.tup [])) ∧ (Zbx H74 (.ptr (some (i2, o2))) 2 = Zbx H74 (.ptr (some (i2, o2))) 2) ∧ (Zal H74 (.tup []) = Zal H74 (.tup [])) ∧ (Zal H74 (.tup []) = Zal H74 (.tup [])) ∧ (Zbx H74 (.ptr (some (i2, o2))) 2 = Zbx H74 (.ptr (some (i2, o2))) 2) ∧ Q (.bool false) H74) (Zbp (Zal H74 (.ptr (some (h.length, 0 + 1)))) fun S77 => Zbp (Zal H74 (.ptr (some (i3, o3 + 0 + 1)))) fun S78 => Zae pg Zkt [.str S77] H74 fun V79 H80 =>
 Zbp (some V79) fun S81 => (Zal H80 (.ptr (some (i3, o3 + 0 + 1))) = Zal H74 (.ptr (some (i3, o3 + 0 + 1)))) ∧ (Zbx H80 (.ptr (some (i2, o2))) 2 = Zbx H74 (.ptr (some (i2, o2))) 2) ∧ Zae pg Zkt [.str S78] H80 fun V82 H83 =>
 Zbp (some V82) fun S84 => (Zal H83 (.ptr (some (h.length, 0 + 1))) = Zal H80 (.ptr (some (h.length, 0 + 1)))) ∧ (Zbx H83 (.ptr (some (i2, o2))) 2 = Zbx H80 (.ptr (some (i2, o2))) 2) ∧ Zae pg Zla [.str S81, .str S84] H83 fun V85 H86 =>
 Zch (some V85) fun B87 => (Zal H86 (.ptr (some (i3, o3 + 0 + 1))) = Zal H83 (.ptr (some (i3, o3 + 0 + 1)))) ∧ (Zal H86 (.ptr (some (h.length, 0 + 1))) = Zal H83 (.ptr (some (h.length, 0 + 1)))) ∧ (Zbx H86 (.ptr (some (i2, o2))) 2 = Zbx H83 (.ptr (some (i2, o2))) 2) ∧ bcase (!B87) (Q (.bool false) H86) (J8 Q R4 x49 x48 a47 n47 c47 e47 i2 o2 i3 o3 H86)))))))) (Zxx Q h)
theorem Zsz (Q : QT) (R4 : T4) (i2 o2 i3 o3 : Nat) (a47 : Pt) (n47 c47 : Nat) (e47 : Bool) (x48 x49 : Int) (h : Zaa) (ht : L4t Q R4 i2 o2 i3 o3 a47 n47 c47 e47 x48 x49 h) : Den pg fn.ntmps (C [1, 1, 0, 1, 0, 0]) [(2, .ptr (some (i2, o2))), (3, .ptr (some (i3, o3))), (47, .slice a47 n47 c47 e47), (48, .int .i64 x48), (49, .int .i64 x49)] h (K3 Q R4) :=
 Zbb (kp := kp) (cast (by kernel_rfl) ht)
theorem L4ind (Q : QT) (i2 o2 i3 o3 : Nat) (a47 : Pt) (n47 c47 : Nat) (e47 : Bool) (x48 : Int) {G : Type} (J : G → Int → Zaa → Prop) (m : G → Nat)
 (hr : ∀ (g : G) (x49 : Int) (h : Zaa), J g x49 h → ∀ (R4 : T4), (∀ g' (x49 : Int) (h : Zaa), m g' < m g → J g' x49 h → R4 i2 o2 i3 o3 a47 n47 c47 e47 x48 x49 h) → L4t Q R4 i2 o2 i3 o3 a47 n47 c47 e47 x48 x49 h)
 (g : G) (x49 : Int) (h : Zaa) (hj : J g x49 h) : L4 Q i2 o2 i3 o3 a47 n47 c47 e47 x48 x49 h := by
 refine Zdz.inv2 (fun g => E4 fun i2' o2' i3' o3' a47' n47' c47' e47' x48' x49 h => i2 = i2' ∧ o2 = o2' ∧ i3 = i3' ∧ o3 = o3' ∧ a47 = a47' ∧ n47 = n47' ∧ c47 = c47' ∧ e47 = e47' ∧ x48 = x48' ∧ J g x49 h) (fun g => E4 fun i2' o2' i3' o3' a47' n47' c47' e47' x48' x49 h => i2 = i2' ∧ o2 = o2' ∧ i3 = i3' ∧ o3 = o3' ∧ a47 = a47' ∧ n47 = n47' ∧ c47 = c47' ∧ e47 = e47' ∧ x48 = x48' ∧ ∃ g', m g' < m g ∧ J g' x49 h) m ?_ ?_ g ⟨rfl, rfl, rfl, rfl, rfl, rfl, rfl, rfl, rfl, hj⟩
 ·intro g env h hi
  obtain ⟨i2', o2', i3', o3', a47', n47', c47', e47', x48', x49, rfl, rfl, rfl, rfl, rfl, rfl, rfl, rfl, rfl, rfl, hj⟩ := Zic hi
  exact Zsz Q _ i2 o2 i3 o3 a47 n47 c47 e47 x48 x49 h (hr g x49 h hj (fun i2' o2' i3' o3' a47' n47' c47' e47' x48' x49 h => i2 = i2' ∧ o2 = o2' ∧ i3 = i3' ∧ o3 = o3' ∧ a47 = a47' ∧ n47 = n47' ∧ c47 = c47' ∧ e47 = e47' ∧ x48 = x48' ∧ ∃ g', m g' < m g ∧ J g' x49 h) fun g' x49 h hlt hj => ⟨rfl, rfl, rfl, rfl, rfl, rfl, rfl, rfl, rfl, g', hlt, hj⟩)
 ·intro g env h hi
  obtain ⟨i2', o2', i3', o3', a47', n47', c47', e47', x48', x49, rfl, rfl, rfl, rfl, rfl, rfl, rfl, rfl, rfl, rfl, g', hlt, hj⟩ := Zic hi
  exact ⟨g', hlt, rfl, rfl, rfl, rfl, rfl, rfl, rfl, rfl, rfl, hj⟩
theorem J8i (Q : QT) (R4 : T4) (x49 x48 : Int) (a47 : Pt) (n47 c47 : Nat) (e47 : Bool) (i2 o2 i3 o3 : Nat) (h : Zaa) (ht :
 R4 i2 o2 i3 o3 a47 n47 c47 e47 x48 (IntKind.wrap .i64 (x49 + 1)) h) : J8 Q R4 x49 x48 a47 n47 c47 e47 i2 o2 i3 o3 h :=
 Zbb (kp := kp) (cast (by kernel_rfl) ht)
theorem A4x0i (Q : QT) (h : Zaa) (ht :
 Q (.bool true) h) : Zxx Q h :=
 At.mk (cast (by kernel_rfl) ht)
theorem call (a0x0 : Pt) (n0x0 c0x0 : Nat) (e0x0 : Bool) (a0x1 : Pt) (n0x1 c0x1 : Nat) (e0x1 : Bool) (x1x0 x1x1 : List Nat) (a1x2 : Pt) (n1x2 c1x2 : Nat) (e1x2 : Bool) (h : Zaa) (Q : QT) (ht :
 Zcn (h ++ [.cells Zaj [.slice a0x0 n0x0 c0x0 e0x0, .slice a0x1 n0x1 c0x1 e0x1] false]) fun H0 => Zcn (H0 ++ [.cells Zai [.str x1x0, .str x1x1, .slice a1x2 n1x2 c1x2 e1x2] false]) fun H1 => xSl (Zal H1 (.ptr (some (h.length, 0 + 0)))) fun A2 N3 C4 E5 => Zae pg Zhs [.slice A2 N3 C4 E5] H1 fun V6 H7 =>
 Zch (some V6) fun B8 => bcase (!B8) (Q (.bool false) H7) (Zcz (Zbx H7 (.ptr (some (h.length, 0))) 2) fun K9 => Zao K9 fun C10 Z11 => xSl (some C10) fun A12 N13 C14 E15 => Zao Z11 fun C16 Z17 => xSl (some C16) fun A18 N19 C20 E21 => Zcl Z17 (Zbp (Zal H7 (.ptr (some (H0.length, 0 + 0 + 0)))) fun S22 => Zae pg Zga [.agg [.slice A12 N13 C14 E15, .slice A18 N19 C20 E21], .str S22] H7 fun V23 H24 =>
 Zen .i64 (some V23) fun X25 => bcase (decide ((X25 : Int) < 0)) (Q (.bool false) H24) (Zbp (Zal H24 (.ptr (some (H0.length, 0 + 0 + 1)))) fun S26 => Zae pg Zep [.str S26] H24 fun V27 H28 =>
 Zch (some V27) fun B29 => bcase (!B29) (Q (.bool false) H28) (Zbp (Zal H28 (.ptr (some (H0.length, 0 + 0 + 1)))) fun S30 => bcase (decide (((((List.length S30 : Nat) : Int)) : Int) > 20)) (Q (.bool false) H28) (Zbp (Zal H28 (.ptr (some (H0.length, 0 + 0 + 1)))) fun S31 => Zkp S31 0 fun B32 => Zae pg Zfk [.int .u8 (((B32 : Nat) : Int))] H28 fun V33 H34 =>
 Zch (some V33) fun B35 => bcase B35 (Q (.bool false) H34) (xSl (Zal H34 (.ptr (some (H0.length, 0 + 2)))) fun A36 N37 C38 E39 => bcase (decide (((((N37 : Nat) : Int)) : Int) > 3)) (Q (.bool false) H34) (J3 Q H0.length 0 h.length 0 H34)))))))) : Zae pg Zha [.agg [.slice a0x0 n0x0 c0x0 e0x0, .slice a0x1 n0x1 c0x1 e0x1], .agg [.str x1x0, .str x1x1, .slice a1x2 n1x2 c1x2 e1x2]] h Q :=
 Zae.of_body kp (c := cod fn) (fn := fn) Go.Proofs.Tryz.func65 (by kernel_rfl) (by kernel_rfl) (Nat.le_of_ble_eq_true (by kernel_rfl))
  (cast (by kernel_rfl) ht)
end Zdo
end Go.Sim

set_option maxRecDepth 100000
set_option linter.unusedVariables false
namespace Go.Sim
open Go Go.RowKit
namespace Ztw
noncomputable abbrev fn : Func := Go.Proofs.Tryz.f110
def kp : Zcd := []
noncomputable def C (p : List Nat) : Code := (cod fn).sub p
def KR (Q : QT) : KT := Zem pg fn.results.toList Q
theorem call (x0 : List Nat) (h : Zaa) (Q : QT) (ht :
 bcase ((((List.length x0 : Nat) : Int) : Int) == 1) (Zae pg Zfg [.str ([120, 121, 122, 88, 89, 90]), .str x0] h fun V0 H1 =>
 Zch (some V0) fun B2 => Q (.bool B2) H1) (Q (.bool false) h)) : Zae pg Zkd [.str x0] h Q :=
 Zae.of_body kp (c := cod fn) (fn := fn) Go.Proofs.Tryz.func110 (by kernel_rfl) (by kernel_rfl) (Nat.le_of_ble_eq_true (by kernel_rfl))
  (cast (by kernel_rfl) ht)
end Ztw
namespace Znt
noncomputable abbrev fn : Func := Go.Proofs.Tryz.f103
def kp : Zcd := []
noncomputable def C (p : List Nat) : Code := (cod fn).sub p
def KR (Q : QT) : KT := Zem pg fn.results.toList Q
theorem call (x0 : Int) (h : Zaa) (Q : QT) (ht :
 Zae pg Zgd [.str ([105, 98, 117, 108, 109, 112, 120, 121, 122, 88, 89, 90]), .int .u8 x0] h fun V0 H1 =>
 Zen .i64 (some V0) fun X2 => Q (.bool (decide ((X2 : Int) ≥ 6))) H1) : Zae pg Zfk [.int .u8 x0] h Q :=
 Zae.of_body kp (c := cod fn) (fn := fn) Go.Proofs.Tryz.func103 (by kernel_rfl) (by kernel_rfl) (Nat.le_of_ble_eq_true (by kernel_rfl))
  (cast (by kernel_rfl) ht)
end Znt
namespace Zel
noncomputable abbrev fn : Func := Go.Proofs.Tryz.f137
def kp : Zcd := [(4000003, [0, 1]), (3000005, [5]), (1000005, [0, 1, 5, 22, 23]), (2000007, [31, 5, 23, 22, 0, 1]), (4000009, [23, 22, 0, 1, 5])]
noncomputable def C (p : List Nat) : Code := (cod fn).sub p
def KR (Q : QT) : KT := Zem pg fn.results.toList Q
abbrev T5 := List Nat → List Nat → Int → Int → Int → Zaa → Prop
def E5 (R5 : T5) (env : Env) (h : Zaa) : Prop := Zbj 0 env fun v env => Zbp (some v) fun x0 => Zbj 1 env fun v env => Zbp (some v) fun x1 => Zbj 5 env fun v env => Zda .i64 v fun x5 => Zbj 22 env fun v env => Zda .i64 v fun x22 => Zbj 23 env fun v env => Zda .i64 v fun x23 => Ziw env (R5 x0 x1 x5 x22 x23 h)
theorem Zie {R5 : T5} {env : Env} {h : Zaa} (hi : E5 R5 env h) : ∃ x0, ∃ x1, ∃ x5, ∃ x22, ∃ x23, env = [(0, .str x0), (1, .str x1), (5, .int .i64 x5), (22, .int .i64 x22), (23, .int .i64 x23)] ∧ R5 x0 x1 x5 x22 x23 h := by
 unfold E5 at hi
 have hi0 := hi
 clear hi
 obtain ⟨_, _, rfl, hi1⟩ := Zab hi0
 obtain ⟨x0, rfl, hi2⟩ := Zdw hi1
 obtain ⟨_, _, rfl, hi3⟩ := Zab hi2
 obtain ⟨x1, rfl, hi4⟩ := Zdw hi3
 obtain ⟨_, _, rfl, hi5⟩ := Zab hi4
 obtain ⟨x5, rfl, hi6⟩ := Zak hi5
 obtain ⟨_, _, rfl, hi7⟩ := Zab hi6
 obtain ⟨x22, rfl, hi8⟩ := Zak hi7
 obtain ⟨_, _, rfl, hi9⟩ := Zab hi8
 obtain ⟨x23, rfl, hi10⟩ := Zak hi9
 obtain ⟨rfl, hi11⟩ := Zbk hi10
 have hi := hi11
 exact ⟨x0, x1, x5, x22, x23, rfl, hi⟩
def K0 (Q : QT) : KT := andThen (fun env' h' => (match kp.find 4000010 with | some ks => Den pg fn.ntmps (C [1, 1, 1, 1]) (env'.keep ks) h' (KR Q) | none => den pg fn.ntmps kp (C [1, 1, 1, 1]) env' h' (KR Q))) (KR Q)
def K1 (Q : QT) : KT := Zcg 0 (K0 Q)
def K2 (Q : QT) : KT := Zgf kp 5 (K1 Q)
def K3 (Q : QT) (R5 : T5) : KT := rnd ((kp.find 1000005).getD []) (E5 R5) (K2 Q)
def J3 (Q : QT) (x0 x1 : List Nat) (h : Zaa) : Prop := Den pg fn.ntmps (C [1, 1]) [(0, .str x0), (1, .str x1)] h (KR Q)
def L5 (Q : QT) (x0 x1 : List Nat) (x5 x22 x23 : Int) (h : Zaa) : Prop := Zdz (Den pg fn.ntmps (C [1, 1, 1, 0, 1, 0, 0])) ((kp.find 1000005).getD []) (K2 Q) [(0, .str x0), (1, .str x1), (5, .int .i64 x5), (22, .int .i64 x22), (23, .int .i64 x23)] h
def J9 (Q : QT) (R5 : T5) (x23 x22 : Int) (x0 x1 : List Nat) (x5 : Int) (h : Zaa) : Prop := Den pg fn.ntmps (C [1, 1, 1, 0, 1, 0, 0, 1, 1, 1]) [(23, .int .i64 x23), (22, .int .i64 x22), (0, .str x0), (1, .str x1), (5, .int .i64 x5)] h (K3 Q R5)
def A5x0 (Q : QT) (x5 : Int) (h : Zaa) : Prop := At (K1 Q) (.exit 0) [(5, .int .i64 x5)] h
theorem J3i (Q : QT) (x0 x1 : List Nat) (h : Zaa) (ht :
 L5 Q x0 x1 0 (((List.length x0 : Nat) : Int)) 0 h) : J3 Q x0 x1 h :=
 Zbb (kp := kp) (cast (by kernel_rfl) ht)
def L5t (Q : QT) (R5 : T5) (x0 x1 : List Nat) (x5 x22 x23 : Int) (h : Zaa) : Prop :=
 bcase (decide ((x23 : Int) < x22)) (Zkp x0 x23 fun B7 => Zkp x1 0 fun B8 => bcase ((((B7 : Nat) : Int) : Int) == (((B8 : Nat) : Int))) (J9 Q R5 x23 x22 x0 x1 (IntKind.wrap .i64 (x5 + 1)) h) (J9 Q R5 x23 x22 x0 x1 x5 h)) (A5x0 Q x5 h)
theorem Ztn (Q : QT) (R5 : T5) (x0 x1 : List Nat) (x5 x22 x23 : Int) (h : Zaa) (ht : L5t Q R5 x0 x1 x5 x22 x23 h) : Den pg fn.ntmps (C [1, 1, 1, 0, 1, 0, 0]) [(0, .str x0), (1, .str x1), (5, .int .i64 x5), (22, .int .i64 x22), (23, .int .i64 x23)] h (K3 Q R5) :=
 Zbb (kp := kp) (cast (by kernel_rfl) ht)
theorem L5ind (Q : QT) (x0 x1 : List Nat) (x22 : Int) {G : Type} (J : G → Int → Int → Zaa → Prop) (m : G → Nat)
 (hr : ∀ (g : G) (x5 x23 : Int) (h : Zaa), J g x5 x23 h → ∀ (R5 : T5), (∀ g' (x5 x23 : Int) (h : Zaa), m g' < m g → J g' x5 x23 h → R5 x0 x1 x5 x22 x23 h) → L5t Q R5 x0 x1 x5 x22 x23 h)
 (g : G) (x5 x23 : Int) (h : Zaa) (hj : J g x5 x23 h) : L5 Q x0 x1 x5 x22 x23 h := by
 refine Zdz.inv2 (fun g => E5 fun x0' x1' x5 x22' x23 h => x0 = x0' ∧ x1 = x1' ∧ x22 = x22' ∧ J g x5 x23 h) (fun g => E5 fun x0' x1' x5 x22' x23 h => x0 = x0' ∧ x1 = x1' ∧ x22 = x22' ∧ ∃ g', m g' < m g ∧ J g' x5 x23 h) m ?_ ?_ g ⟨rfl, rfl, rfl, hj⟩
 ·intro g env h hi
  obtain ⟨x0', x1', x5, x22', x23, rfl, rfl, rfl, rfl, hj⟩ := Zie hi
  exact Ztn Q _ x0 x1 x5 x22 x23 h (hr g x5 x23 h hj (fun x0' x1' x5 x22' x23 h => x0 = x0' ∧ x1 = x1' ∧ x22 = x22' ∧ ∃ g', m g' < m g ∧ J g' x5 x23 h) fun g' x5 x23 h hlt hj => ⟨rfl, rfl, rfl, g', hlt, hj⟩)
 ·intro g env h hi
  obtain ⟨x0', x1', x5, x22', x23, rfl, rfl, rfl, rfl, g', hlt, hj⟩ := Zie hi
  exact ⟨g', hlt, rfl, rfl, rfl, hj⟩
theorem J9i (Q : QT) (R5 : T5) (x23 x22 : Int) (x0 x1 : List Nat) (x5 : Int) (h : Zaa) (ht :
 R5 x0 x1 x5 x22 (IntKind.wrap .i64 (x23 + 1)) h) : J9 Q R5 x23 x22 x0 x1 x5 h :=
 Zbb (kp := kp) (cast (by kernel_rfl) ht)
theorem A5x0i (Q : QT) (x5 : Int) (h : Zaa) (ht :
 Q (.int .i64 x5) h) : A5x0 Q x5 h :=
 At.mk (cast (by kernel_rfl) ht)
theorem call (x0 x1 : List Nat) (h : Zaa) (Q : QT) (ht :
 Zae pg Zep [.str x0] h fun V0 H1 =>
 Zch (some V0) fun B2 => bcase (!B2) (Q (.int .i64 (-1)) H1) (bcase (!((((List.length x1 : Nat) : Int) : Int) == 1)) (Q (.int .i64 (-1)) H1) (Zkp x1 0 fun B3 => Zae pg Zfk [.int .u8 (((B3 : Nat) : Int))] H1 fun V4 H5 =>
 Zch (some V4) fun B6 => bcase (!B6) (Q (.int .i64 (-1)) H5) (J3 Q x0 x1 H5)))) : Zae pg Zli [.str x0, .str x1] h Q :=
 Zae.of_body kp (c := cod fn) (fn := fn) Go.Proofs.Tryz.func137 (by kernel_rfl) (by kernel_rfl) (Nat.le_of_ble_eq_true (by kernel_rfl))
  (cast (by kernel_rfl) ht)
end Zel
namespace Zfx
noncomputable abbrev fn : Func := Go.Proofs.Tryz.f105
def kp : Zcd := [(3000003, [3]), (1000003, [0, 3, 6, 7, 8]), (4000007, [8, 7, 6, 0, 3])]
noncomputable def C (p : List Nat) : Code := (cod fn).sub p
def KR (Q : QT) : KT := Zem pg fn.results.toList Q
abbrev T3 := List Nat → List Nat → Pt → Nat → Nat → Bool → Int → Int → Zaa → Prop
def E3 (R3 : T3) (env : Env) (h : Zaa) : Prop := Zbj 0 env fun v env => Zbp (some v) fun x0 => Zbj 3 env fun v env => Zbp (some v) fun x3 => Zbj 6 env fun v env => xSl (some v) fun a6 n6 c6 e6 => Zbj 7 env fun v env => Zda .i64 v fun x7 => Zbj 8 env fun v env => Zda .i64 v fun x8 => Ziw env (R3 x0 x3 a6 n6 c6 e6 x7 x8 h)
theorem Zej {R3 : T3} {env : Env} {h : Zaa} (hi : E3 R3 env h) : ∃ x0, ∃ x3, ∃ a6, ∃ n6, ∃ c6, ∃ e6, ∃ x7, ∃ x8, env = [(0, .str x0), (3, .str x3), (6, .slice a6 n6 c6 e6), (7, .int .i64 x7), (8, .int .i64 x8)] ∧ R3 x0 x3 a6 n6 c6 e6 x7 x8 h := by
 unfold E3 at hi
 have hi0 := hi
 clear hi
 obtain ⟨_, _, rfl, hi1⟩ := Zab hi0
 obtain ⟨x0, rfl, hi2⟩ := Zdw hi1
 obtain ⟨_, _, rfl, hi3⟩ := Zab hi2
 obtain ⟨x3, rfl, hi4⟩ := Zdw hi3
 obtain ⟨_, _, rfl, hi5⟩ := Zab hi4
 obtain ⟨a6, n6, c6, e6, rfl, hi6⟩ := Zax hi5
 obtain ⟨_, _, rfl, hi7⟩ := Zab hi6
 obtain ⟨x7, rfl, hi8⟩ := Zak hi7
 obtain ⟨_, _, rfl, hi9⟩ := Zab hi8
 obtain ⟨x8, rfl, hi10⟩ := Zak hi9
 obtain ⟨rfl, hi11⟩ := Zbk hi10
 have hi := hi11
 exact ⟨x0, x3, a6, n6, c6, e6, x7, x8, rfl, hi⟩
def K0 (Q : QT) : KT := andThen (fun env' h' => (match kp.find 4000008 with | some ks => Den pg fn.ntmps (C [1, 1, 1]) (env'.keep ks) h' (KR Q) | none => den pg fn.ntmps kp (C [1, 1, 1]) env' h' (KR Q))) (KR Q)
def K1 (Q : QT) : KT := Zcg 0 (K0 Q)
def K2 (Q : QT) : KT := Zgf kp 3 (K1 Q)
def K3 (Q : QT) (R3 : T3) : KT := rnd ((kp.find 1000003).getD []) (E3 R3) (K2 Q)
def L3 (Q : QT) (x0 x3 : List Nat) (a6 : Pt) (n6 c6 : Nat) (e6 : Bool) (x7 x8 : Int) (h : Zaa) : Prop := Zdz (Den pg fn.ntmps (C [1, 1, 0, 1, 0, 0])) ((kp.find 1000003).getD []) (K2 Q) [(0, .str x0), (3, .str x3), (6, .slice a6 n6 c6 e6), (7, .int .i64 x7), (8, .int .i64 x8)] h
def J7 (Q : QT) (R3 : T3) (x8 x7 : Int) (a6 : Pt) (n6 c6 : Nat) (e6 : Bool) (x0 x3 : List Nat) (h : Zaa) : Prop := Den pg fn.ntmps (C [1, 1, 0, 1, 0, 0, 1, 1, 1]) [(8, .int .i64 x8), (7, .int .i64 x7), (6, .slice a6 n6 c6 e6), (0, .str x0), (3, .str x3)] h (K3 Q R3)
def Zpf (Q : QT) (x3 : List Nat) (h : Zaa) : Prop := At (K1 Q) (.exit 0) [(3, .str x3)] h
def L3t (Q : QT) (R3 : T3) (x0 x3 : List Nat) (a6 : Pt) (n6 c6 : Nat) (e6 : Bool) (x7 x8 : Int) (h : Zaa) : Prop :=
 bcase (decide ((x8 : Int) < x7)) ((0 ≤ (x8 : Int) ∧ (x8 : Int) < (n6 : Nat)) ∧ (Zbl a6 fun I1 O2 => Zbp (Zal h (.ptr (some (I1, O2 + (Int.toNat x8) * 1)))) fun S3 => Zae pg Zli [.str x0, .str S3] h fun V4 H5 =>
 Zen .i64 (some V4) fun X6 => bcase (decide ((X6 : Int) > 0)) (List.length x3 + List.length S3 ≤ 9223372036854775807 ∧ (J7 Q R3 x8 x7 a6 n6 c6 e6 x0 (x3 ++ S3) H5)) (J7 Q R3 x8 x7 a6 n6 c6 e6 x0 x3 H5))) (Zpf Q x3 h)
theorem Zkx (Q : QT) (R3 : T3) (x0 x3 : List Nat) (a6 : Pt) (n6 c6 : Nat) (e6 : Bool) (x7 x8 : Int) (h : Zaa) (ht : L3t Q R3 x0 x3 a6 n6 c6 e6 x7 x8 h) : Den pg fn.ntmps (C [1, 1, 0, 1, 0, 0]) [(0, .str x0), (3, .str x3), (6, .slice a6 n6 c6 e6), (7, .int .i64 x7), (8, .int .i64 x8)] h (K3 Q R3) :=
 Zbb (kp := kp) (cast (by kernel_rfl) ht)
theorem L3ind (Q : QT) (x0 : List Nat) (a6 : Pt) (n6 c6 : Nat) (e6 : Bool) (x7 : Int) {G : Type} (J : G → List Nat → Int → Zaa → Prop) (m : G → Nat)
 (hr : ∀ (g : G) (x3 : List Nat) (x8 : Int) (h : Zaa), J g x3 x8 h → ∀ (R3 : T3), (∀ g' (x3 : List Nat) (x8 : Int) (h : Zaa), m g' < m g → J g' x3 x8 h → R3 x0 x3 a6 n6 c6 e6 x7 x8 h) → L3t Q R3 x0 x3 a6 n6 c6 e6 x7 x8 h)
 (g : G) (x3 : List Nat) (x8 : Int) (h : Zaa) (hj : J g x3 x8 h) : L3 Q x0 x3 a6 n6 c6 e6 x7 x8 h := by
 refine Zdz.inv2 (fun g => E3 fun x0' x3 a6' n6' c6' e6' x7' x8 h => x0 = x0' ∧ a6 = a6' ∧ n6 = n6' ∧ c6 = c6' ∧ e6 = e6' ∧ x7 = x7' ∧ J g x3 x8 h) (fun g => E3 fun x0' x3 a6' n6' c6' e6' x7' x8 h => x0 = x0' ∧ a6 = a6' ∧ n6 = n6' ∧ c6 = c6' ∧ e6 = e6' ∧ x7 = x7' ∧ ∃ g', m g' < m g ∧ J g' x3 x8 h) m ?_ ?_ g ⟨rfl, rfl, rfl, rfl, rfl, rfl, hj⟩
 ·intro g env h hi
  obtain ⟨x0', x3, a6', n6', c6', e6', x7', x8, rfl, rfl, rfl, rfl, rfl, rfl, rfl, hj⟩ := Zej hi
  exact Zkx Q _ x0 x3 a6 n6 c6 e6 x7 x8 h (hr g x3 x8 h hj (fun x0' x3 a6' n6' c6' e6' x7' x8 h => x0 = x0' ∧ a6 = a6' ∧ n6 = n6' ∧ c6 = c6' ∧ e6 = e6' ∧ x7 = x7' ∧ ∃ g', m g' < m g ∧ J g' x3 x8 h) fun g' x3 x8 h hlt hj => ⟨rfl, rfl, rfl, rfl, rfl, rfl, g', hlt, hj⟩)
 ·intro g env h hi
  obtain ⟨x0', x3, a6', n6', c6', e6', x7', x8, rfl, rfl, rfl, rfl, rfl, rfl, rfl, g', hlt, hj⟩ := Zej hi
  exact ⟨g', hlt, rfl, rfl, rfl, rfl, rfl, rfl, hj⟩
theorem J7i (Q : QT) (R3 : T3) (x8 x7 : Int) (a6 : Pt) (n6 c6 : Nat) (e6 : Bool) (x0 x3 : List Nat) (h : Zaa) (ht :
 R3 x0 x3 a6 n6 c6 e6 x7 (IntKind.wrap .i64 (x8 + 1)) h) : J7 Q R3 x8 x7 a6 n6 c6 e6 x0 x3 h :=
 Zbb (kp := kp) (cast (by kernel_rfl) ht)
theorem A3x0i (Q : QT) (x3 : List Nat) (h : Zaa) (ht :
 Q (.str x3) h) : Zpf Q x3 h :=
 At.mk (cast (by kernel_rfl) ht)
theorem call (x0 : List Nat) (h : Zaa) (Q : QT) (ht :
 Zcn (h ++ [.cells Zaz [.str [88], .str [89], .str [90], .str [120], .str [121], .str [122]] false]) fun H0 => L3 Q x0 [] (some (h.length, 0)) 6 6 true (((6 : Nat) : Int)) 0 H0) : Zae pg Zkt [.str x0] h Q :=
 Zae.of_body kp (c := cod fn) (fn := fn) Go.Proofs.Tryz.func105 (by kernel_rfl) (by kernel_rfl) (Nat.le_of_ble_eq_true (by kernel_rfl))
  (cast (by kernel_rfl) ht)
end Zfx
namespace Zgq
noncomputable abbrev fn : Func := Go.Proofs.Tryz.f104
def kp : Zcd := [(3000002, [4]), (1000002, [0, 1, 7, 8])]
noncomputable def C (p : List Nat) : Code := (cod fn).sub p
def KR (Q : QT) : KT := Zem pg fn.results.toList Q
abbrev T2 := List Nat → List Nat → Int → Int → Zaa → Prop
def E2 (R2 : T2) (env : Env) (h : Zaa) : Prop := Zbj 0 env fun v env => Zbp (some v) fun x0 => Zbj 1 env fun v env => Zbp (some v) fun x1 => Zbj 7 env fun v env => Zda .i64 v fun x7 => Zbj 8 env fun v env => Zda .i64 v fun x8 => Ziw env (R2 x0 x1 x7 x8 h)
theorem Zex {R2 : T2} {env : Env} {h : Zaa} (hi : E2 R2 env h) : ∃ x0, ∃ x1, ∃ x7, ∃ x8, env = [(0, .str x0), (1, .str x1), (7, .int .i64 x7), (8, .int .i64 x8)] ∧ R2 x0 x1 x7 x8 h := by
 unfold E2 at hi
 have hi0 := hi
 clear hi
 obtain ⟨_, _, rfl, hi1⟩ := Zab hi0
 obtain ⟨x0, rfl, hi2⟩ := Zdw hi1
 obtain ⟨_, _, rfl, hi3⟩ := Zab hi2
 obtain ⟨x1, rfl, hi4⟩ := Zdw hi3
 obtain ⟨_, _, rfl, hi5⟩ := Zab hi4
 obtain ⟨x7, rfl, hi6⟩ := Zak hi5
 obtain ⟨_, _, rfl, hi7⟩ := Zab hi6
 obtain ⟨x8, rfl, hi8⟩ := Zak hi7
 obtain ⟨rfl, hi9⟩ := Zbk hi8
 have hi := hi9
 exact ⟨x0, x1, x7, x8, rfl, hi⟩
def K0 (Q : QT) : KT := andThen (fun env' h' => (match kp.find 4000007 with | some ks => Den pg fn.ntmps (C [1, 1]) (env'.keep ks) h' (KR Q) | none => den pg fn.ntmps kp (C [1, 1]) env' h' (KR Q))) (KR Q)
def K1 (Q : QT) : KT := Zcg 0 (K0 Q)
def K2 (Q : QT) : KT := Zgf kp 2 (K1 Q)
def K3 (Q : QT) (R2 : T2) : KT := rnd ((kp.find 1000002).getD []) (E2 R2) (K2 Q)
def L2 (Q : QT) (x0 x1 : List Nat) (x7 x8 : Int) (h : Zaa) : Prop := Zdz (Den pg fn.ntmps (C [1, 0, 1, 0, 0])) ((kp.find 1000002).getD []) (K2 Q) [(0, .str x0), (1, .str x1), (7, .int .i64 x7), (8, .int .i64 x8)] h
def Zqs (Q : QT) (h : Zaa) : Prop := At (K1 Q) (.exit 0) [(4, .undef)] h
def L2t (Q : QT) (R2 : T2) (x0 x1 : List Nat) (x7 x8 : Int) (h : Zaa) : Prop :=
 bcase (decide ((x8 : Int) < x7)) (Zkp x0 x8 fun B0 => Zae pg Zgd [.str x1, .int .u8 (((B0 : Nat) : Int))] h fun V1 H2 =>
 Zen .i64 (some V1) fun X3 => bcase (decide ((X3 : Int) < 0)) (Q (.bool false) H2) (R2 x0 x1 x7 (IntKind.wrap .i64 (x8 + 1)) H2)) (Zqs Q h)
theorem Zmo (Q : QT) (R2 : T2) (x0 x1 : List Nat) (x7 x8 : Int) (h : Zaa) (ht : L2t Q R2 x0 x1 x7 x8 h) : Den pg fn.ntmps (C [1, 0, 1, 0, 0]) [(0, .str x0), (1, .str x1), (7, .int .i64 x7), (8, .int .i64 x8)] h (K3 Q R2) :=
 Zbb (kp := kp) (cast (by kernel_rfl) ht)
theorem L2ind (Q : QT) (x0 x1 : List Nat) (x7 : Int) {G : Type} (J : G → Int → Zaa → Prop) (m : G → Nat)
 (hr : ∀ (g : G) (x8 : Int) (h : Zaa), J g x8 h → ∀ (R2 : T2), (∀ g' (x8 : Int) (h : Zaa), m g' < m g → J g' x8 h → R2 x0 x1 x7 x8 h) → L2t Q R2 x0 x1 x7 x8 h)
 (g : G) (x8 : Int) (h : Zaa) (hj : J g x8 h) : L2 Q x0 x1 x7 x8 h := by
 refine Zdz.inv2 (fun g => E2 fun x0' x1' x7' x8 h => x0 = x0' ∧ x1 = x1' ∧ x7 = x7' ∧ J g x8 h) (fun g => E2 fun x0' x1' x7' x8 h => x0 = x0' ∧ x1 = x1' ∧ x7 = x7' ∧ ∃ g', m g' < m g ∧ J g' x8 h) m ?_ ?_ g ⟨rfl, rfl, rfl, hj⟩
 ·intro g env h hi
  obtain ⟨x0', x1', x7', x8, rfl, rfl, rfl, rfl, hj⟩ := Zex hi
  exact Zmo Q _ x0 x1 x7 x8 h (hr g x8 h hj (fun x0' x1' x7' x8 h => x0 = x0' ∧ x1 = x1' ∧ x7 = x7' ∧ ∃ g', m g' < m g ∧ J g' x8 h) fun g' x8 h hlt hj => ⟨rfl, rfl, rfl, g', hlt, hj⟩)
 ·intro g env h hi
  obtain ⟨x0', x1', x7', x8, rfl, rfl, rfl, rfl, g', hlt, hj⟩ := Zex hi
  exact ⟨g', hlt, rfl, rfl, rfl, hj⟩
theorem A2x0i (Q : QT) (h : Zaa) (ht :
 Q (.bool true) h) : Zqs Q h :=
 At.mk (cast (by kernel_rfl) ht)
theorem call (x0 x1 : List Nat) (h : Zaa) (Q : QT) (ht :
 L2 Q x0 x1 (((List.length x0 : Nat) : Int)) 0 h) : Zae pg Zla [.str x0, .str x1] h Q :=
 Zae.of_body kp (c := cod fn) (fn := fn) Go.Proofs.Tryz.func104 (by kernel_rfl) (by kernel_rfl) (Nat.le_of_ble_eq_true (by kernel_rfl))
  (cast (by kernel_rfl) ht)
end Zgq
namespace Zck
noncomputable abbrev fn : Func := Go.Proofs.Tryz.f70
def kp : Zcd := [(4000003, [3, 2]), (3000004, [4]), (1000004, [2, 3, 48, 49, 50]), (4000008, [6, 2, 3, 48, 49, 50]), (3000009, [50, 49, 48, 2, 3, 4]), (1000009, [2, 3, 48, 49, 50, 74, 75, 76]), (4000014, [50, 49, 48, 2, 3])]
noncomputable def C (p : List Nat) : Code := (cod fn).sub p
def KR (Q : QT) : KT := Zem pg fn.results.toList Q
abbrev T4 := Nat → Nat → Nat → Nat → Pt → Nat → Nat → Bool → Int → Int → Zaa → Prop
def E4 (R4 : T4) (env : Env) (h : Zaa) : Prop := Zbj 2 env fun v env => Zgg (some v) fun a => Zbl a fun i2 o2 => Zbj 3 env fun v env => Zgg (some v) fun a => Zbl a fun i3 o3 => Zbj 48 env fun v env => xSl (some v) fun a48 n48 c48 e48 => Zbj 49 env fun v env => Zda .i64 v fun x49 => Zbj 50 env fun v env => Zda .i64 v fun x50 => Ziw env (R4 i2 o2 i3 o3 a48 n48 c48 e48 x49 x50 h)
theorem Zic {R4 : T4} {env : Env} {h : Zaa} (hi : E4 R4 env h) : ∃ i2, ∃ o2, ∃ i3, ∃ o3, ∃ a48, ∃ n48, ∃ c48, ∃ e48, ∃ x49, ∃ x50, env = [(2, .ptr (some (i2, o2))), (3, .ptr (some (i3, o3))), (48, .slice a48 n48 c48 e48), (49, .int .i64 x49), (50, .int .i64 x50)] ∧ R4 i2 o2 i3 o3 a48 n48 c48 e48 x49 x50 h := by
 unfold E4 at hi
 have hi0 := hi
 clear hi
 obtain ⟨_, _, rfl, hi1⟩ := Zab hi0
 obtain ⟨a, rfl, hi2⟩ := Zbo hi1
 obtain ⟨i2, o2, rfl, hi3⟩ := Zbs hi2
 obtain ⟨_, _, rfl, hi4⟩ := Zab hi3
 obtain ⟨a, rfl, hi5⟩ := Zbo hi4
 obtain ⟨i3, o3, rfl, hi6⟩ := Zbs hi5
 obtain ⟨_, _, rfl, hi7⟩ := Zab hi6
 obtain ⟨a48, n48, c48, e48, rfl, hi8⟩ := Zax hi7
 obtain ⟨_, _, rfl, hi9⟩ := Zab hi8
 obtain ⟨x49, rfl, hi10⟩ := Zak hi9
 obtain ⟨_, _, rfl, hi11⟩ := Zab hi10
 obtain ⟨x50, rfl, hi12⟩ := Zak hi11
 obtain ⟨rfl, hi13⟩ := Zbk hi12
 have hi := hi13
 exact ⟨i2, o2, i3, o3, a48, n48, c48, e48, x49, x50, rfl, hi⟩
abbrev T9 := Nat → Nat → Nat → Nat → Pt → Nat → Nat → Bool → Int → Int → Pt → Nat → Nat → Bool → Int → Int → Zaa → Prop
def E9 (R9 : T9) (env : Env) (h : Zaa) : Prop := Zbj 2 env fun v env => Zgg (some v) fun a => Zbl a fun i2 o2 => Zbj 3 env fun v env => Zgg (some v) fun a => Zbl a fun i3 o3 => Zbj 48 env fun v env => xSl (some v) fun a48 n48 c48 e48 => Zbj 49 env fun v env => Zda .i64 v fun x49 => Zbj 50 env fun v env => Zda .i64 v fun x50 => Zbj 74 env fun v env => xSl (some v) fun a74 n74 c74 e74 => Zbj 75 env fun v env => Zda .i64 v fun x75 => Zbj 76 env fun v env => Zda .i64 v fun x76 => Ziw env (R9 i2 o2 i3 o3 a48 n48 c48 e48 x49 x50 a74 n74 c74 e74 x75 x76 h)
theorem Yah {R9 : T9} {env : Env} {h : Zaa} (hi : E9 R9 env h) : ∃ i2, ∃ o2, ∃ i3, ∃ o3, ∃ a48, ∃ n48, ∃ c48, ∃ e48, ∃ x49, ∃ x50, ∃ a74, ∃ n74, ∃ c74, ∃ e74, ∃ x75, ∃ x76, env = [(2, .ptr (some (i2, o2))), (3, .ptr (some (i3, o3))), (48, .slice a48 n48 c48 e48), (49, .int .i64 x49), (50, .int .i64 x50), (74, .slice a74 n74 c74 e74), (75, .int .i64 x75), (76, .int .i64 x76)] ∧ R9 i2 o2 i3 o3 a48 n48 c48 e48 x49 x50 a74 n74 c74 e74 x75 x76 h := by
 unfold E9 at hi
 have hi0 := hi
 clear hi
 obtain ⟨_, _, rfl, hi1⟩ := Zab hi0
 obtain ⟨a, rfl, hi2⟩ := Zbo hi1
 obtain ⟨i2, o2, rfl, hi3⟩ := Zbs hi2
 obtain ⟨_, _, rfl, hi4⟩ := Zab hi3
 obtain ⟨a, rfl, hi5⟩ := Zbo hi4
 obtain ⟨i3, o3, rfl, hi6⟩ := Zbs hi5
 obtain ⟨_, _, rfl, hi7⟩ := Zab hi6
 obtain ⟨a48, n48, c48, e48, rfl, hi8⟩ := Zax hi7
 obtain ⟨_, _, rfl, hi9⟩ := Zab hi8
 obtain ⟨x49, rfl, hi10⟩ := Zak hi9
 obtain ⟨_, _, rfl, hi11⟩ := Zab hi10
 obtain ⟨x50, rfl, hi12⟩ := Zak hi11
 obtain ⟨_, _, rfl, hi13⟩ := Zab hi12
 obtain ⟨a74, n74, c74, e74, rfl, hi14⟩ := Zax hi13
 obtain ⟨_, _, rfl, hi15⟩ := Zab hi14
 obtain ⟨x75, rfl, hi16⟩ := Zak hi15
 obtain ⟨_, _, rfl, hi17⟩ := Zab hi16
 obtain ⟨x76, rfl, hi18⟩ := Zak hi17
 obtain ⟨rfl, hi19⟩ := Zbk hi18
 have hi := hi19
 exact ⟨i2, o2, i3, o3, a48, n48, c48, e48, x49, x50, a74, n74, c74, e74, x75, x76, rfl, hi⟩
def K0 (Q : QT) : KT := andThen (fun env' h' => (match kp.find 4000015 with | some ks => Den pg fn.ntmps (C [1, 1, 1]) (env'.keep ks) h' (KR Q) | none => den pg fn.ntmps kp (C [1, 1, 1]) env' h' (KR Q))) (KR Q)
def K1 (Q : QT) : KT := Zcg 0 (K0 Q)
def K2 (Q : QT) : KT := Zgf kp 4 (K1 Q)
def K3 (Q : QT) (R4 : T4) : KT := rnd ((kp.find 1000004).getD []) (E4 R4) (K2 Q)
def K4 (Q : QT) (R4 : T4) : KT := andThen (fun env' h' => (match kp.find 4000014 with | some ks => Den pg fn.ntmps (C [1, 1, 0, 1, 0, 0, 1, 1, 1]) (env'.keep ks) h' (K3 Q R4) | none => den pg fn.ntmps kp (C [1, 1, 0, 1, 0, 0, 1, 1, 1]) env' h' (K3 Q R4))) (K3 Q R4)
def K5 (Q : QT) (R4 : T4) : KT := Zcg 1 (K4 Q R4)
def K6 (Q : QT) (R4 : T4) : KT := Zcg 2 (K5 Q R4)
def K7 (Q : QT) (R4 : T4) : KT := Zgf kp 9 (K6 Q R4)
def K8 (Q : QT) (R4 : T4) (R9 : T9) : KT := rnd ((kp.find 1000009).getD []) (E9 R9) (K7 Q R4)
def J3 (Q : QT) (i3 o3 i2 o2 : Nat) (h : Zaa) : Prop := Den pg fn.ntmps (C [1, 1]) [(3, .ptr (some (i3, o3))), (2, .ptr (some (i2, o2)))] h (KR Q)
def L4 (Q : QT) (i2 o2 i3 o3 : Nat) (a48 : Pt) (n48 c48 : Nat) (e48 : Bool) (x49 x50 : Int) (h : Zaa) : Prop := Zdz (Den pg fn.ntmps (C [1, 1, 0, 1, 0, 0])) ((kp.find 1000004).getD []) (K2 Q) [(2, .ptr (some (i2, o2))), (3, .ptr (some (i3, o3))), (48, .slice a48 n48 c48 e48), (49, .int .i64 x49), (50, .int .i64 x50)] h
def J8 (Q : QT) (R4 : T4) (i6 o6 i2 o2 i3 o3 : Nat) (a48 : Pt) (n48 c48 : Nat) (e48 : Bool) (x49 x50 : Int) (h : Zaa) : Prop := Den pg fn.ntmps (C [1, 1, 0, 1, 0, 0, 1, 1, 0, 0, 1, 1]) [(6, .ptr (some (i6, o6))), (2, .ptr (some (i2, o2))), (3, .ptr (some (i3, o3))), (48, .slice a48 n48 c48 e48), (49, .int .i64 x49), (50, .int .i64 x50)] h (K5 Q R4)
def Zxx (Q : QT) (h : Zaa) : Prop := At (K1 Q) (.exit 0) [(4, .undef)] h
def L9 (Q : QT) (R4 : T4) (i2 o2 i3 o3 : Nat) (a48 : Pt) (n48 c48 : Nat) (e48 : Bool) (x49 x50 : Int) (a74 : Pt) (n74 c74 : Nat) (e74 : Bool) (x75 x76 : Int) (h : Zaa) : Prop := Zdz (Den pg fn.ntmps (C [1, 1, 0, 1, 0, 0, 1, 1, 0, 0, 1, 1, 1, 0, 0])) ((kp.find 1000009).getD []) (K7 Q R4) [(2, .ptr (some (i2, o2))), (3, .ptr (some (i3, o3))), (48, .slice a48 n48 c48 e48), (49, .int .i64 x49), (50, .int .i64 x50), (74, .slice a74 n74 c74 e74), (75, .int .i64 x75), (76, .int .i64 x76)] h
def A9x2 (Q : QT) (R4 : T4) (x50 x49 : Int) (a48 : Pt) (n48 c48 : Nat) (e48 : Bool) (i2 o2 i3 o3 : Nat) (h : Zaa) : Prop := At (K6 Q R4) (.exit 2) [(50, .int .i64 x50), (49, .int .i64 x49), (48, .slice a48 n48 c48 e48), (2, .ptr (some (i2, o2))), (3, .ptr (some (i3, o3))), (4, .undef)] h
def J14 (Q : QT) (R4 : T4) (x50 x49 : Int) (a48 : Pt) (n48 c48 : Nat) (e48 : Bool) (i2 o2 i3 o3 : Nat) (h : Zaa) : Prop := Den pg fn.ntmps (C [1, 1, 0, 1, 0, 0, 1, 1, 1]) [(50, .int .i64 x50), (49, .int .i64 x49), (48, .slice a48 n48 c48 e48), (2, .ptr (some (i2, o2))), (3, .ptr (some (i3, o3)))] h (K3 Q R4)
theorem J3i (Q : QT) (i3 o3 i2 o2 : Nat) (h : Zaa) (ht :
 xSl (Zal h (.ptr (some (i3, o3 + 2)))) fun A39 N40 C41 E42 => L4 Q i2 o2 i3 o3 A39 N40 C41 E42 (((N40 : Nat) : Int)) 0 h) : J3 Q i3 o3 i2 o2 h :=
 Zbb (kp := kp) (cast (by kernel_rfl) ht)
def L4t (Q : QT) (R4 : T4) (i2 o2 i3 o3 : Nat) (a48 : Pt) (n48 c48 : Nat) (e48 : Bool) (x49 x50 : Int) (h : Zaa) : Prop :=
 bcase (decide ((x50 : Int) < x49)) ((0 ≤ (x50 : Int) ∧ (x50 : Int) < (n48 : Nat)) ∧ (Zbl a48 fun I43 O44 => Zcz (Zbx h (.ptr (some (I43, O44 + (Int.toNat x50) * 2))) 2) fun K45 => Zao K45 fun C46 Z47 => Zbp (some C46) fun S48 => Zao Z47 fun C49 Z50 => Zbp (some C49) fun S51 => Zcl Z50 (Zcn (h ++ [.cells Zad [.str [], .str []] false]) fun H52 => Zcp (Zbn H52 (.ptr (some (h.length, 0))) [.str S48, .str S51]) fun H53 => xSl (Zal H53 (.ptr (some (i2, o2 + 0)))) fun A54 N55 C56 E57 => Zbp (Zal H53 (.ptr (some (h.length, 0 + 0)))) fun S58 => Zae pg Zid [.slice A54 N55 C56 E57, .str S58] H53 fun V59 H60 =>
 Zch (some V59) fun B61 => bcase (!B61) (Q (.bool false) H60) (Zbp (Zal H60 (.ptr (some (h.length, 0 + 1)))) fun S62 => Zae pg Zeq [.str S62] H60 fun V63 H64 =>
 Zch (some V63) fun B65 => bcase (!B65) (Q (.bool false) H64) (Zbp (Zal H64 (.ptr (some (h.length, 0 + 1)))) fun S66 => bcase (decide (((((List.length S66 : Nat) : Int)) : Int) > 20)) (Q (.bool false) H64) (J8 Q R4 h.length 0 i2 o2 i3 o3 a48 n48 c48 e48 x49 x50 H64)))))) (Zxx Q h)
theorem Zsz (Q : QT) (R4 : T4) (i2 o2 i3 o3 : Nat) (a48 : Pt) (n48 c48 : Nat) (e48 : Bool) (x49 x50 : Int) (h : Zaa) (ht : L4t Q R4 i2 o2 i3 o3 a48 n48 c48 e48 x49 x50 h) : Den pg fn.ntmps (C [1, 1, 0, 1, 0, 0]) [(2, .ptr (some (i2, o2))), (3, .ptr (some (i3, o3))), (48, .slice a48 n48 c48 e48), (49, .int .i64 x49), (50, .int .i64 x50)] h (K3 Q R4) :=
 Zbb (kp := kp) (cast (by kernel_rfl) ht)
theorem L4ind (Q : QT) (i2 o2 i3 o3 : Nat) (a48 : Pt) (n48 c48 : Nat) (e48 : Bool) (x49 : Int) {G : Type} (J : G → Int → Zaa → Prop) (m : G → Nat)
 (hr : ∀ (g : G) (x50 : Int) (h : Zaa), J g x50 h → ∀ (R4 : T4), (∀ g' (x50 : Int) (h : Zaa), m g' < m g → J g' x50 h → R4 i2 o2 i3 o3 a48 n48 c48 e48 x49 x50 h) → L4t Q R4 i2 o2 i3 o3 a48 n48 c48 e48 x49 x50 h)
 (g : G) (x50 : Int) (h : Zaa) (hj : J g x50 h) : L4 Q i2 o2 i3 o3 a48 n48 c48 e48 x49 x50 h := by
 refine Zdz.inv2 (fun g => E4 fun i2' o2' i3' o3' a48' n48' c48' e48' x49' x50 h => i2 = i2' ∧ o2 = o2' ∧ i3 = i3' ∧ o3 = o3' ∧ a48 = a48' ∧ n48 = n48' ∧ c48 = c48' ∧ e48 = e48' ∧ x49 = x49' ∧ J g x50 h) (fun g => E4 fun i2' o2' i3' o3' a48' n48' c48' e48' x49' x50 h => i2 = i2' ∧ o2 = o2' ∧ i3 = i3' ∧ o3 = o3' ∧ a48 = a48' ∧ n48 = n48' ∧ c48 = c48' ∧ e48 = e48' ∧ x49 = x49' ∧ ∃ g', m g' < m g ∧ J g' x50 h) m ?_ ?_ g ⟨rfl, rfl, rfl, rfl, rfl, rfl, rfl, rfl, rfl, hj⟩
 ·intro g env h hi
  obtain ⟨i2', o2', i3', o3', a48', n48', c48', e48', x49', x50, rfl, rfl, rfl, rfl, rfl, rfl, rfl, rfl, rfl, rfl, hj⟩ := Zic hi
  exact Zsz Q _ i2 o2 i3 o3 a48 n48 c48 e48 x49 x50 h (hr g x50 h hj (fun i2' o2' i3' o3' a48' n48' c48' e48' x49' x50 h => i2 = i2' ∧ o2 = o2' ∧ i3 = i3' ∧ o3 = o3' ∧ a48 = a48' ∧ n48 = n48' ∧ c48 = c48' ∧ e48 = e48' ∧ x49 = x49' ∧ ∃ g', m g' < m g ∧ J g' x50 h) fun g' x50 h hlt hj => ⟨rfl, rfl, rfl, rfl, rfl, rfl, rfl, rfl, rfl, g', hlt, hj⟩)
 ·intro g env h hi
  obtain ⟨i2', o2', i3', o3', a48', n48', c48', e48', x49', x50, rfl, rfl, rfl, rfl, rfl, rfl, rfl, rfl, rfl, rfl, g', hlt, hj⟩ := Zic hi
  exact ⟨g', hlt, rfl, rfl, rfl, rfl, rfl, rfl, rfl, rfl, rfl, hj⟩
theorem J8i (Q : QT) (R4 : T4) (i6 o6 i2 o2 i3 o3 : Nat) (a48 : Pt) (n48 c48 : Nat) (e48 : Bool) (x49 x50 : Int) (h : Zaa) (ht :
 Zbp (Zal h (.ptr (some (i6, o6 + 1)))) fun S67 => Zae pg Zrh [.str S67] h fun V68 H69 =>
 xSl (some V68) fun A70 N71 C72 E73 => L9 Q R4 i2 o2 i3 o3 a48 n48 c48 e48 x49 x50 A70 N71 C72 E73 (((N71 : Nat) : Int)) 0 H69) : J8 Q R4 i6 o6 i2 o2 i3 o3 a48 n48 c48 e48 x49 x50 h :=
 Zbb (kp := kp) (cast (by kernel_rfl) ht)
theorem A4x0i (Q : QT) (h : Zaa) (ht :
 Q (.bool true) h) : Zxx Q h :=
 At.mk (cast (by kernel_rfl) ht)
def L9t (Q : QT) (R4 : T4) (R9 : T9) (i2 o2 i3 o3 : Nat) (a48 : Pt) (n48 c48 : Nat) (e48 : Bool) (x49 x50 : Int) (a74 : Pt) (n74 c74 : Nat) (e74 : Bool) (x75 x76 : Int) (h : Zaa) : Prop :=
 bcase (decide ((x76 : Int) < x75)) ((0 ≤ (x76 : Int) ∧ (x76 : Int) < (n74 : Nat)) ∧ (Zbl a74 fun I74 O75 => Zbp (Zal h (.ptr (some (I74, O75 + (Int.toNat x76) * 1)))) fun S76 => Zbp (Zal h (.ptr (some (i3, o3 + 0 + 1)))) fun S77 => Zae pg Zfg [.str S77, .str S76] h fun V78 H79 =>
 Zch (some V78) fun B80 => bcase (!B80) (Q (.bool false) H79) (R9 i2 o2 i3 o3 a48 n48 c48 e48 x49 x50 a74 n74 c74 e74 x75 (IntKind.wrap .i64 (x76 + 1)) H79))) (A9x2 Q R4 x50 x49 a48 n48 c48 e48 i2 o2 i3 o3 h)
theorem Yqd (Q : QT) (R4 : T4) (R9 : T9) (i2 o2 i3 o3 : Nat) (a48 : Pt) (n48 c48 : Nat) (e48 : Bool) (x49 x50 : Int) (a74 : Pt) (n74 c74 : Nat) (e74 : Bool) (x75 x76 : Int) (h : Zaa) (ht : L9t Q R4 R9 i2 o2 i3 o3 a48 n48 c48 e48 x49 x50 a74 n74 c74 e74 x75 x76 h) : Den pg fn.ntmps (C [1, 1, 0, 1, 0, 0, 1, 1, 0, 0, 1, 1, 1, 0, 0]) [(2, .ptr (some (i2, o2))), (3, .ptr (some (i3, o3))), (48, .slice a48 n48 c48 e48), (49, .int .i64 x49), (50, .int .i64 x50), (74, .slice a74 n74 c74 e74), (75, .int .i64 x75), (76, .int .i64 x76)] h (K8 Q R4 R9) :=
 Zbb (kp := kp) (cast (by kernel_rfl) ht)
theorem L9ind (Q : QT) (R4 : T4) (i2 o2 i3 o3 : Nat) (a48 : Pt) (n48 c48 : Nat) (e48 : Bool) (x49 x50 : Int) (a74 : Pt) (n74 c74 : Nat) (e74 : Bool) (x75 : Int) {G : Type} (J : G → Int → Zaa → Prop) (m : G → Nat)
 (hr : ∀ (g : G) (x76 : Int) (h : Zaa), J g x76 h → ∀ (R9 : T9), (∀ g' (x76 : Int) (h : Zaa), m g' < m g → J g' x76 h → R9 i2 o2 i3 o3 a48 n48 c48 e48 x49 x50 a74 n74 c74 e74 x75 x76 h) → L9t Q R4 R9 i2 o2 i3 o3 a48 n48 c48 e48 x49 x50 a74 n74 c74 e74 x75 x76 h)
 (g : G) (x76 : Int) (h : Zaa) (hj : J g x76 h) : L9 Q R4 i2 o2 i3 o3 a48 n48 c48 e48 x49 x50 a74 n74 c74 e74 x75 x76 h := by
 refine Zdz.inv2 (fun g => E9 fun i2' o2' i3' o3' a48' n48' c48' e48' x49' x50' a74' n74' c74' e74' x75' x76 h => i2 = i2' ∧ o2 = o2' ∧ i3 = i3' ∧ o3 = o3' ∧ a48 = a48' ∧ n48 = n48' ∧ c48 = c48' ∧ e48 = e48' ∧ x49 = x49' ∧ x50 = x50' ∧ a74 = a74' ∧ n74 = n74' ∧ c74 = c74' ∧ e74 = e74' ∧ x75 = x75' ∧ J g x76 h) (fun g => E9 fun i2' o2' i3' o3' a48' n48' c48' e48' x49' x50' a74' n74' c74' e74' x75' x76 h => i2 = i2' ∧ o2 = o2' ∧ i3 = i3' ∧ o3 = o3' ∧ a48 = a48' ∧ n48 = n48' ∧ c48 = c48' ∧ e48 = e48' ∧ x49 = x49' ∧ x50 = x50' ∧ a74 = a74' ∧ n74 = n74' ∧ c74 = c74' ∧ e74 = e74' ∧ x75 = x75' ∧ ∃ g', m g' < m g ∧ J g' x76 h) m ?_ ?_ g ⟨rfl, rfl, rfl, rfl, rfl, rfl, rfl, rfl, rfl, rfl, rfl, rfl, rfl, rfl, rfl, hj⟩
 ·intro g env h hi
  obtain ⟨i2', o2', i3', o3', a48', n48', c48', e48', x49', x50', a74', n74', c74', e74', x75', x76, rfl, rfl, rfl, rfl, rfl, rfl, rfl, rfl, rfl, rfl, rfl, rfl, rfl, rfl, rfl, rfl, hj⟩ := Yah hi
  exact Yqd Q R4 (fun i2' o2' i3' o3' a48' n48' c48' e48' x49' x50' a74' n74' c74' e74' x75' x76 h => i2 = i2' ∧ o2 = o2' ∧ i3 = i3' ∧ o3 = o3' ∧ a48 = a48' ∧ n48 = n48' ∧ c48 = c48' ∧ e48 = e48' ∧ x49 = x49' ∧ x50 = x50' ∧ a74 = a74' ∧ n74 = n74' ∧ c74 = c74' ∧ e74 = e74' ∧ x75 = x75' ∧ ∃ g', m g' < m g ∧ J g' x76 h) i2 o2 i3 o3 a48 n48 c48 e48 x49 x50 a74 n74 c74 e74 x75 x76 h (hr g x76 h hj (fun i2' o2' i3' o3' a48' n48' c48' e48' x49' x50' a74' n74' c74' e74' x75' x76 h => i2 = i2' ∧ o2 = o2' ∧ i3 = i3' ∧ o3 = o3' ∧ a48 = a48' ∧ n48 = n48' ∧ c48 = c48' ∧ e48 = e48' ∧ x49 = x49' ∧ x50 = x50' ∧ a74 = a74' ∧ n74 = n74' ∧ c74 = c74' ∧ e74 = e74' ∧ x75 = x75' ∧ ∃ g', m g' < m g ∧ J g' x76 h) fun g' x76 h hlt hj => ⟨rfl, rfl, rfl, rfl, rfl, rfl, rfl, rfl, rfl, rfl, rfl, rfl, rfl, rfl, rfl, g', hlt, hj⟩)
 ·intro g env h hi
  obtain ⟨i2', o2', i3', o3', a48', n48', c48', e48', x49', x50', a74', n74', c74', e74', x75', x76, rfl, rfl, rfl, rfl, rfl, rfl, rfl, rfl, rfl, rfl, rfl, rfl, rfl, rfl, rfl, rfl, g', hlt, hj⟩ := Yah hi
  exact ⟨g', hlt, rfl, rfl, rfl, rfl, rfl, rfl, rfl, rfl, rfl, rfl, rfl, rfl, rfl, rfl, rfl, hj⟩
theorem A9x2i (Q : QT) (R4 : T4) (x50 x49 : Int) (a48 : Pt) (n48 c48 : Nat) (e48 : Bool) (i2 o2 i3 o3 : Nat) (h : Zaa) (ht :
 J14 Q R4 x50 x49 a48 n48 c48 e48 i2 o2 i3 o3 h) : A9x2 Q R4 x50 x49 a48 n48 c48 e48 i2 o2 i3 o3 h :=
 At.mk (cast (by kernel_rfl) ht)
theorem J14i (Q : QT) (R4 : T4) (x50 x49 : Int) (a48 : Pt) (n48 c48 : Nat) (e48 : Bool) (i2 o2 i3 o3 : Nat) (h : Zaa) (ht :
 R4 i2 o2 i3 o3 a48 n48 c48 e48 x49 (IntKind.wrap .i64 (x50 + 1)) h) : J14 Q R4 x50 x49 a48 n48 c48 e48 i2 o2 i3 o3 h :=
 Zbb (kp := kp) (cast (by kernel_rfl) ht)
theorem call (a0x0 : Pt) (n0x0 c0x0 : Nat) (e0x0 : Bool) (a0x1 : Pt) (n0x1 c0x1 : Nat) (e0x1 : Bool) (x1x0 x1x1 : List Nat) (a1x2 : Pt) (n1x2 c1x2 : Nat) (e1x2 : Bool) (h : Zaa) (Q : QT) (ht :
 Zcn (h ++ [.cells Zaj [.slice a0x0 n0x0 c0x0 e0x0, .slice a0x1 n0x1 c0x1 e0x1] false]) fun H0 => Zcn (H0 ++ [.cells Zai [.str x1x0, .str x1x1, .slice a1x2 n1x2 c1x2 e1x2] false]) fun H1 => Zcz (Zbx H1 (.ptr (some (h.length, 0))) 2) fun K2 => Zao K2 fun C3 Z4 => xSl (some C3) fun A5 N6 C7 E8 => Zao Z4 fun C9 Z10 => xSl (some C9) fun A11 N12 C13 E14 => Zcl Z10 (Zae pg Zhw [.agg [.slice A5 N6 C7 E8, .slice A11 N12 C13 E14]] H1 fun V15 H16 =>
 Zch (some V15) fun B17 => bcase (!B17) (Q (.bool false) H16) (xSl (Zal H16 (.ptr (some (h.length, 0 + 0)))) fun A18 N19 C20 E21 => Zbp (Zal H16 (.ptr (some (H0.length, 0 + 0 + 0)))) fun S22 => Zae pg Zid [.slice A18 N19 C20 E21, .str S22] H16 fun V23 H24 =>
 Zch (some V23) fun B25 => bcase (!B25) (Q (.bool false) H24) (Zbp (Zal H24 (.ptr (some (H0.length, 0 + 0 + 1)))) fun S26 => Zae pg Zeq [.str S26] H24 fun V27 H28 =>
 Zch (some V27) fun B29 => bcase (!B29) (Q (.bool false) H28) (Zbp (Zal H28 (.ptr (some (H0.length, 0 + 0 + 1)))) fun S30 => bcase (decide (((((List.length S30 : Nat) : Int)) : Int) > 20)) (Q (.bool false) H28) (Zbp (Zal H28 (.ptr (some (H0.length, 0 + 0 + 1)))) fun S31 => Zae pg Zkd [.str S31] H28 fun V32 H33 =>
 Zch (some V32) fun B34 => bcase B34 (Q (.bool false) H33) (xSl (Zal H33 (.ptr (some (H0.length, 0 + 2)))) fun A35 N36 C37 E38 => bcase (decide (((((N36 : Nat) : Int)) : Int) > 3)) (Q (.bool false) H33) (J3 Q H0.length 0 h.length 0 H33)))))))) : Zae pg Zhf [.agg [.slice a0x0 n0x0 c0x0 e0x0, .slice a0x1 n0x1 c0x1 e0x1], .agg [.str x1x0, .str x1x1, .slice a1x2 n1x2 c1x2 e1x2]] h Q :=
 Zae.of_body kp (c := cod fn) (fn := fn) Go.Proofs.Tryz.func70 (by kernel_rfl) (by kernel_rfl) (Nat.le_of_ble_eq_true (by kernel_rfl))
  (cast (by kernel_rfl) ht)
end Zck
end Go.Sim
