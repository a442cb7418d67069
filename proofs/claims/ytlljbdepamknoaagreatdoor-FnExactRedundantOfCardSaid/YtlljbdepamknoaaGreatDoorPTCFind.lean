/- A part of the proof of a statement of this seat: see the text that holds the theorem. No condition. -/
import Derived.Test.YtlljbdepamknoaaGreatDoorNm
set_option linter.unusedVariables false
set_option linter.unusedSimpArgs false
set_option linter.all false
set_option maxRecDepth 100000
set_option linter.unusedVariables false
namespace Go.Sim
open Go Go.RowKit
namespace Zdo
noncomputable abbrev fn : Func := Go.Proofs.Tryz.f91
def kp : Zbz := []
noncomputable def C (p : List Nat) : Code := (cod fn).sub p
def KR (Q : QT) : KT := Zes pg fn.results.toList Q
theorem call (a0 : Pt) (n0 c0 : Nat) (e0 : Bool) (v1x0 v1x1 v1x2 : Zam) (h : Zaa) (Q : QT) (ht :
 Zae pg Zhe [.slice a0 n0 c0 e0, .fn Zce [v1x0, v1x1, v1x2]] h fun V0 H1 =>
 Zen .i64 (some V0) fun X2 => Q (.bool (decide ((X2 : Int) ≥ 0))) H1) : Zae pg Zev [.slice a0 n0 c0 e0, .fn Zce [v1x0, v1x1, v1x2]] h Q :=
 Zae.of_body kp (c := cod fn) (fn := fn) Go.Proofs.Tryz.func91 (by kernel_rfl) (by kernel_rfl) (Nat.le_of_ble_eq_true (by kernel_rfl))
  (cast (by kernel_rfl) ht)
end Zdo
namespace Zbu
noncomputable abbrev fn : Func := Go.Proofs.Tryz.f125
def kp : Zbz := [(3000002, [4]), (1000002, [0, 1, 7, 8])]
noncomputable def C (p : List Nat) : Code := (cod fn).sub p
def KR (Q : QT) : KT := Zes pg fn.results.toList Q
abbrev T2 := Pt → Nat → Nat → Bool → Zam → Zam → Zam → Int → Int → Zaa → Prop
def E2 (R2 : T2) (env : Env) (h : Zaa) : Prop := Zbs 0 env fun v env => xSl (some v) fun a0 n0 c0 e0 => Zbs 1 env fun v env => eFn Zce v fun cs => Zap cs fun c cs' => Zwj (some c) fun v1x0 => Zap cs' fun c cs'' => Zwj (some c) fun v1x1 => Zap cs'' fun c cs''' => Zwj (some c) fun v1x2 => Zcr cs''' (Zbs 7 env fun v env => Zee .i64 v fun x7 => Zbs 8 env fun v env => Zee .i64 v fun x8 => Zje env (R2 a0 n0 c0 e0 v1x0 v1x1 v1x2 x7 x8 h))
theorem Zdg {R2 : T2} {env : Env} {h : Zaa} (hi : E2 R2 env h) : ∃ a0, ∃ n0, ∃ c0, ∃ e0, ∃ v1x0, ∃ v1x1, ∃ v1x2, ∃ x7, ∃ x8, env = [(0, .slice a0 n0 c0 e0), (1, .fn Zce [v1x0, v1x1, v1x2]), (7, .int .i64 x7), (8, .int .i64 x8)] ∧ R2 a0 n0 c0 e0 v1x0 v1x1 v1x2 x7 x8 h := by
 unfold E2 at hi
 have hi0 := hi
 clear hi
 obtain ⟨_, _, rfl, hi1⟩ := Zab hi0
 obtain ⟨a0, n0, c0, e0, rfl, hi2⟩ := Zbf hi1
 obtain ⟨_, _, rfl, hi3⟩ := Zab hi2
 obtain ⟨cs, rfl, hi4⟩ := Zti hi3
 obtain ⟨c, cs', rfl, hi5⟩ := Zjo hi4
 obtain ⟨v1x0, hx, hi6⟩ := Zhk hi5
 replace hx := (Option.some.inj hx).symm
 subst hx
 obtain ⟨c, cs'', rfl, hi7⟩ := Zjo hi6
 obtain ⟨v1x1, hx, hi8⟩ := Zhk hi7
 replace hx := (Option.some.inj hx).symm
 subst hx
 obtain ⟨c, cs''', rfl, hi9⟩ := Zjo hi8
 obtain ⟨v1x2, hx, hi10⟩ := Zhk hi9
 replace hx := (Option.some.inj hx).symm
 subst hx
 obtain ⟨rfl, hi11⟩ := Zqk hi10
 obtain ⟨_, _, rfl, hi12⟩ := Zab hi11
 obtain ⟨x7, rfl, hi13⟩ := Zao hi12
 obtain ⟨_, _, rfl, hi14⟩ := Zab hi13
 obtain ⟨x8, rfl, hi15⟩ := Zao hi14
 obtain ⟨rfl, hi16⟩ := Zbg hi15
 have hi := hi16
 exact ⟨a0, n0, c0, e0, v1x0, v1x1, v1x2, x7, x8, rfl, hi⟩
def K0 (Q : QT) : KT := andThen (fun env' h' => (match kp.find 4000007 with | some ks => Den pg fn.ntmps (C [1, 1]) (env'.keep ks) h' (KR Q) | none => den pg fn.ntmps kp (C [1, 1]) env' h' (KR Q))) (KR Q)
def K1 (Q : QT) : KT := Zck 0 (K0 Q)
def K2 (Q : QT) : KT := left kp 2 (K1 Q)
def K3 (Q : QT) (R2 : T2) : KT := rnd ((kp.find 1000002).getD []) (E2 R2) (K2 Q)
def L2 (Q : QT) (a0 : Pt) (n0 c0 : Nat) (e0 : Bool) (v1x0 v1x1 v1x2 : Zam) (x7 x8 : Int) (h : Zaa) : Prop := Zec (Den pg fn.ntmps (C [1, 0, 1, 0, 0])) ((kp.find 1000002).getD []) (K2 Q) [(0, .slice a0 n0 c0 e0), (1, .fn Zce [v1x0, v1x1, v1x2]), (7, .int .i64 x7), (8, .int .i64 x8)] h
def Zlg (Q : QT) (h : Zaa) : Prop := At (K1 Q) (.exit 0) [(4, .undef)] h
def L2t (Q : QT) (R2 : T2) (a0 : Pt) (n0 c0 : Nat) (e0 : Bool) (v1x0 v1x1 v1x2 : Zam) (x7 x8 : Int) (h : Zaa) : Prop :=
 bcase (decide ((x8 : Int) < x7)) ((0 ≤ (x8 : Int) ∧ (x8 : Int) < (n0 : Nat)) ∧ (Zbl a0 fun I0 O1 => Zen .i64 (Zak h (.ptr (some (I0, O1 + (Int.toNat x8) * 1)))) fun X2 => Zae pg Zce [.int .i64 X2, v1x0, v1x1, v1x2] h fun V3 H4 =>
 Zci (some V3) fun B5 => bcase B5 (Q (.int .i64 x8) H4) (R2 a0 n0 c0 e0 v1x0 v1x1 v1x2 x7 (IntKind.wrap .i64 (x8 + 1)) H4))) (Zlg Q h)
theorem Zhn (Q : QT) (R2 : T2) (a0 : Pt) (n0 c0 : Nat) (e0 : Bool) (v1x0 v1x1 v1x2 : Zam) (x7 x8 : Int) (h : Zaa) (ht : L2t Q R2 a0 n0 c0 e0 v1x0 v1x1 v1x2 x7 x8 h) : Den pg fn.ntmps (C [1, 0, 1, 0, 0]) [(0, .slice a0 n0 c0 e0), (1, .fn Zce [v1x0, v1x1, v1x2]), (7, .int .i64 x7), (8, .int .i64 x8)] h (K3 Q R2) :=
 Zba (kp := kp) (cast (by kernel_rfl) ht)
theorem L2ind (Q : QT) (a0 : Pt) (n0 c0 : Nat) (e0 : Bool) (v1x0 v1x1 v1x2 : Zam) (x7 : Int) {G : Type} (J : G → Int → Zaa → Prop) (m : G → Nat)
 (hr : ∀ (g : G) (x8 : Int) (h : Zaa), J g x8 h → ∀ (R2 : T2), (∀ g' (x8 : Int) (h : Zaa), m g' < m g → J g' x8 h → R2 a0 n0 c0 e0 v1x0 v1x1 v1x2 x7 x8 h) → L2t Q R2 a0 n0 c0 e0 v1x0 v1x1 v1x2 x7 x8 h)
 (g : G) (x8 : Int) (h : Zaa) (hj : J g x8 h) : L2 Q a0 n0 c0 e0 v1x0 v1x1 v1x2 x7 x8 h := by
 refine Zec.inv2 (fun g => E2 fun a0' n0' c0' e0' v1x0' v1x1' v1x2' x7' x8 h => a0 = a0' ∧ n0 = n0' ∧ c0 = c0' ∧ e0 = e0' ∧ v1x0 = v1x0' ∧ v1x1 = v1x1' ∧ v1x2 = v1x2' ∧ x7 = x7' ∧ J g x8 h) (fun g => E2 fun a0' n0' c0' e0' v1x0' v1x1' v1x2' x7' x8 h => a0 = a0' ∧ n0 = n0' ∧ c0 = c0' ∧ e0 = e0' ∧ v1x0 = v1x0' ∧ v1x1 = v1x1' ∧ v1x2 = v1x2' ∧ x7 = x7' ∧ ∃ g', m g' < m g ∧ J g' x8 h) m ?_ ?_ g ⟨rfl, rfl, rfl, rfl, rfl, rfl, rfl, rfl, hj⟩
 ·intro g env h hi
  obtain ⟨a0', n0', c0', e0', v1x0', v1x1', v1x2', x7', x8, rfl, rfl, rfl, rfl, rfl, rfl, rfl, rfl, rfl, hj⟩ := Zdg hi
  exact Zhn Q _ a0 n0 c0 e0 v1x0 v1x1 v1x2 x7 x8 h (hr g x8 h hj (fun a0' n0' c0' e0' v1x0' v1x1' v1x2' x7' x8 h => a0 = a0' ∧ n0 = n0' ∧ c0 = c0' ∧ e0 = e0' ∧ v1x0 = v1x0' ∧ v1x1 = v1x1' ∧ v1x2 = v1x2' ∧ x7 = x7' ∧ ∃ g', m g' < m g ∧ J g' x8 h) fun g' x8 h hlt hj => ⟨rfl, rfl, rfl, rfl, rfl, rfl, rfl, rfl, g', hlt, hj⟩)
 ·intro g env h hi
  obtain ⟨a0', n0', c0', e0', v1x0', v1x1', v1x2', x7', x8, rfl, rfl, rfl, rfl, rfl, rfl, rfl, rfl, rfl, g', hlt, hj⟩ := Zdg hi
  exact ⟨g', hlt, rfl, rfl, rfl, rfl, rfl, rfl, rfl, rfl, hj⟩
theorem A2x0i (Q : QT) (h : Zaa) (ht :
 Q (.int .i64 (-1)) h) : Zlg Q h :=
 At.mk (cast (by kernel_rfl) ht)
theorem call (a0 : Pt) (n0 c0 : Nat) (e0 : Bool) (v1x0 v1x1 v1x2 : Zam) (h : Zaa) (Q : QT) (ht :
 L2 Q a0 n0 c0 e0 v1x0 v1x1 v1x2 (((n0 : Nat) : Int)) 0 h) : Zae pg Zhe [.slice a0 n0 c0 e0, .fn Zce [v1x0, v1x1, v1x2]] h Q :=
 Zae.of_body kp (c := cod fn) (fn := fn) Go.Proofs.Tryz.func125 (by kernel_rfl) (by kernel_rfl) (Nat.le_of_ble_eq_true (by kernel_rfl))
  (cast (by kernel_rfl) ht)
end Zbu
namespace Zpp
noncomputable abbrev fn : Func := Go.Proofs.Tryz.f59
def kp : Zbz := [(2000001, [8, 7, 3, 4, 5]), (2000004, [3, 4, 5, 9]), (2000005, [9])]
noncomputable def C (p : List Nat) : Code := (cod fn).sub p
def KR (Q : QT) : KT := Zes pg fn.results.toList Q
theorem call (a0 : Pt) (x1x0 x1x1 : List Nat) (x2 : Int) (h : Zaa) (Q : QT) (ht :
 Zdc (h ++ [.cells Zic [.ptr a0] false]) fun H0 => Zdc (H0 ++ [.cells Zaj [.str x1x0, .str x1x1] false]) fun H1 => Zdc (H1 ++ [.cells Zgs [.int .i64 x2] false]) fun H2 => Zii (Zak H2 (.ptr (some (h.length, 0)))) fun A3 => Zbl A3 fun I4 O5 => Yhz (Zak H2 (.ptr (some (I4, O5 + 3)))) fun m_6 => Zdh (Zbv H2 (.ptr (some (H0.length, 0))) 2) fun K7 => Zap K7 fun C8 Z9 => Zbo (some C8) fun S10 => Zap Z9 fun C11 Z12 => Zbo (some C11) fun S13 => Zcr Z12 (Zen .i64 (Zak H2 (.ptr (some (H1.length, 0)))) fun X14 => (Zbv H2 (.ptr (some (H0.length, 0))) 2 = Zbv H2 (.ptr (some (H0.length, 0))) 2) ∧ (Zak H2 (.ptr (some (I4, O5 + 3))) = Zak H2 (.ptr (some (I4, O5 + 3)))) ∧ (Zak H2 (.ptr (some (h.length, 0))) = Zak H2 (.ptr (some (h.length, 0)))) ∧ Zae pg Zqp [.agg [.str S10, .str S13], .int .i64 X14] H2 fun V15 H16 =>
 Zbo (some V15) fun S17 => (Zak H16 (.ptr (some (I4, O5 + 3))) = Zak H2 (.ptr (some (I4, O5 + 3)))) ∧ (Zak H16 (.ptr (some (h.length, 0))) = Zak H2 (.ptr (some (h.length, 0)))) ∧ Zga H16 m_6 fun es_18 k_19 => Ztq es_18 S17 fun Z20 => Zci (some (Option.getD Z20 (.bool false))) fun B21 => (Zbv H16 (.ptr (some (H0.length, 0))) 2 = Zbv H16 (.ptr (some (H0.length, 0))) 2) ∧ (Zak H16 (.ptr (some (h.length, 0))) = Zak H16 (.ptr (some (h.length, 0)))) ∧ bcase (Option.isSome Z20) (Q (.bool B21) H16) (Zii (Zak H16 (.ptr (some (h.length, 0)))) fun A22 => Zbl A22 fun I23 O24 => Zdh (Zbv H16 (.ptr (some (I23, O24 + 0))) 2) fun K25 => Zap K25 fun C26 Z27 => xSl (some C26) fun A28 N29 C30 E31 => Zap Z27 fun C32 Z33 => xSl (some C32) fun A34 N35 C36 E37 => Zcr Z33 (Zdh (Zbv H16 (.ptr (some (H0.length, 0))) 2) fun K38 => Zap K38 fun C39 Z40 => Zbo (some C39) fun S41 => Zap Z40 fun C42 Z43 => Zbo (some C42) fun S44 => Zcr Z43 ((Zbv H16 (.ptr (some (I23, O24 + 0))) 2 = Zbv H16 (.ptr (some (I23, O24 + 0))) 2) ∧ (Zak H16 (.ptr (some (h.length, 0))) = Zak H16 (.ptr (some (h.length, 0)))) ∧ Zae pg Zkz [.agg [.slice A28 N29 C30 E31, .slice A34 N35 C36 E37], .agg [.str S41, .str S44]] H16 fun V45 H46 =>
 xSl (some V45) fun A47 N48 C49 E50 => (Zak H46 (.ptr (some (h.length, 0))) = Zak H16 (.ptr (some (h.length, 0)))) ∧ Zae pg Zev [.slice A47 N48 C49 E50, .fn Zce [.ptr (some (h.length, 0)), .ptr (some (H0.length, 0)), .ptr (some (H1.length, 0))]] H46 fun V51 H52 =>
 Zci (some V51) fun B53 => (Zbv H52 (.ptr (some (I23, O24 + 0))) 2 = Zbv H46 (.ptr (some (I23, O24 + 0))) 2) ∧ (Zak H52 (.ptr (some (h.length, 0))) = Zak H46 (.ptr (some (h.length, 0)))) ∧ Zii (Zak H52 (.ptr (some (h.length, 0)))) fun A54 => Zbl A54 fun I55 O56 => Yhz (Zak H52 (.ptr (some (I55, O56 + 3)))) fun m_57 => Zdh (Zbv H52 (.ptr (some (H0.length, 0))) 2) fun K58 => Zap K58 fun C59 Z60 => Zbo (some C59) fun S61 => Zap Z60 fun C62 Z63 => Zbo (some C62) fun S64 => Zcr Z63 (Zen .i64 (Zak H52 (.ptr (some (H1.length, 0)))) fun X65 => (Zbv H52 (.ptr (some (H0.length, 0))) 2 = Zbv H52 (.ptr (some (H0.length, 0))) 2) ∧ (Zak H52 (.ptr (some (I55, O56 + 3))) = Zak H52 (.ptr (some (I55, O56 + 3)))) ∧ (Zak H52 (.ptr (some (h.length, 0))) = Zak H52 (.ptr (some (h.length, 0)))) ∧ Zae pg Zqp [.agg [.str S61, .str S64], .int .i64 X65] H52 fun V66 H67 =>
 Zbo (some V66) fun S68 => (Zak H67 (.ptr (some (I55, O56 + 3))) = Zak H52 (.ptr (some (I55, O56 + 3)))) ∧ (Zak H67 (.ptr (some (h.length, 0))) = Zak H52 (.ptr (some (h.length, 0)))) ∧ xMp m_57 fun I69 => Zga H67 (some I69) fun es_70 k_71 => Yin es_70 k_71 S68 (.bool B53) fun es_72 k_73 => Zdc (List.set H67 I69 (.map es_72 k_73)) fun H74 => Q (.bool B53) H74)))))) : Zae pg Zjc [.ptr a0, .agg [.str x1x0, .str x1x1], .int .i64 x2] h Q :=
 Zae.of_body kp (c := cod fn) (fn := fn) Go.Proofs.Tryz.func59 (by kernel_rfl) (by kernel_rfl) (Nat.le_of_ble_eq_true (by kernel_rfl))
  (cast (by kernel_rfl) ht)
end Zpp
namespace Zip
noncomputable abbrev fn : Func := Go.Proofs.Tryz.f35
def kp : Zbz := [(3000003, [4]), (1000003, [3, 5, 9])]
noncomputable def C (p : List Nat) : Code := (cod fn).sub p
def KR (Q : QT) : KT := Zes pg fn.results.toList Q
abbrev T3 := Nat → Nat → Pt → Int → Zaa → Prop
def E3 (R3 : T3) (env : Env) (h : Zaa) : Prop := Zbs 3 env fun v env => Zii (some v) fun a => Zbl a fun i3 o3 => Zbs 5 env fun v env => Zii (some v) fun a5 => Zbs 9 env fun v env => Zee .i64 v fun x9 => Zje env (R3 i3 o3 a5 x9 h)
theorem Zdw {R3 : T3} {env : Env} {h : Zaa} (hi : E3 R3 env h) : ∃ i3, ∃ o3, ∃ a5, ∃ x9, env = [(3, .ptr (some (i3, o3))), (5, .ptr a5), (9, .int .i64 x9)] ∧ R3 i3 o3 a5 x9 h := by
 unfold E3 at hi
 have hi0 := hi
 clear hi
 obtain ⟨_, _, rfl, hi1⟩ := Zab hi0
 obtain ⟨a, rfl, hi2⟩ := Zbw hi1
 obtain ⟨i3, o3, rfl, hi3⟩ := Zbp hi2
 obtain ⟨_, _, rfl, hi4⟩ := Zab hi3
 obtain ⟨a5, rfl, hi5⟩ := Zbw hi4
 obtain ⟨_, _, rfl, hi6⟩ := Zab hi5
 obtain ⟨x9, rfl, hi7⟩ := Zao hi6
 obtain ⟨rfl, hi8⟩ := Zbg hi7
 have hi := hi8
 exact ⟨i3, o3, a5, x9, rfl, hi⟩
def K0 (Q : QT) : KT := andThen (fun env' h' => (match kp.find 4000008 with | some ks => Den pg fn.ntmps (C [1, 1, 1]) (env'.keep ks) h' (KR Q) | none => den pg fn.ntmps kp (C [1, 1, 1]) env' h' (KR Q))) (KR Q)
def K1 (Q : QT) : KT := Zck 0 (K0 Q)
def K2 (Q : QT) : KT := left kp 3 (K1 Q)
def K3 (Q : QT) (R3 : T3) : KT := rnd ((kp.find 1000003).getD []) (E3 R3) (K2 Q)
def L3 (Q : QT) (i3 o3 : Nat) (a5 : Pt) (x9 : Int) (h : Zaa) : Prop := Zec (Den pg fn.ntmps (C [1, 1, 0, 1, 0, 0])) ((kp.find 1000003).getD []) (K2 Q) [(3, .ptr (some (i3, o3))), (5, .ptr a5), (9, .int .i64 x9)] h
def Znf (Q : QT) (h : Zaa) : Prop := At (K1 Q) (.exit 0) [(4, .undef)] h
def L3t (Q : QT) (R3 : T3) (i3 o3 : Nat) (a5 : Pt) (x9 : Int) (h : Zaa) : Prop :=
 bcase (decide ((x9 : Int) < 7)) (Zdh (Zbv h (.ptr (some (i3, o3))) 2) fun K18 => Zap K18 fun C19 Z20 => Zbo (some C19) fun S21 => Zap Z20 fun C22 Z23 => Zbo (some C22) fun S24 => Zcr Z23 (Zae pg Zjc [.ptr a5, .agg [.str S21, .str S24], .int .i64 x9] h fun V25 H26 =>
 Zci (some V25) fun B27 => bcase B27 (Q (.int .i64 x9) H26) (R3 i3 o3 a5 (IntKind.wrap .i64 (x9 + 1)) H26))) (Znf Q h)
theorem Zkh (Q : QT) (R3 : T3) (i3 o3 : Nat) (a5 : Pt) (x9 : Int) (h : Zaa) (ht : L3t Q R3 i3 o3 a5 x9 h) : Den pg fn.ntmps (C [1, 1, 0, 1, 0, 0]) [(3, .ptr (some (i3, o3))), (5, .ptr a5), (9, .int .i64 x9)] h (K3 Q R3) :=
 Zba (kp := kp) (cast (by kernel_rfl) ht)
theorem L3ind (Q : QT) (i3 o3 : Nat) (a5 : Pt) {G : Type} (J : G → Int → Zaa → Prop) (m : G → Nat)
 (hr : ∀ (g : G) (x9 : Int) (h : Zaa), J g x9 h → ∀ (R3 : T3), (∀ g' (x9 : Int) (h : Zaa), m g' < m g → J g' x9 h → R3 i3 o3 a5 x9 h) → L3t Q R3 i3 o3 a5 x9 h)
 (g : G) (x9 : Int) (h : Zaa) (hj : J g x9 h) : L3 Q i3 o3 a5 x9 h := by
 refine Zec.inv2 (fun g => E3 fun i3' o3' a5' x9 h => i3 = i3' ∧ o3 = o3' ∧ a5 = a5' ∧ J g x9 h) (fun g => E3 fun i3' o3' a5' x9 h => i3 = i3' ∧ o3 = o3' ∧ a5 = a5' ∧ ∃ g', m g' < m g ∧ J g' x9 h) m ?_ ?_ g ⟨rfl, rfl, rfl, hj⟩
 ·intro g env h hi
  obtain ⟨i3', o3', a5', x9, rfl, rfl, rfl, rfl, hj⟩ := Zdw hi
  exact Zkh Q _ i3 o3 a5 x9 h (hr g x9 h hj (fun i3' o3' a5' x9 h => i3 = i3' ∧ o3 = o3' ∧ a5 = a5' ∧ ∃ g', m g' < m g ∧ J g' x9 h) fun g' x9 h hlt hj => ⟨rfl, rfl, rfl, g', hlt, hj⟩)
 ·intro g env h hi
  obtain ⟨i3', o3', a5', x9, rfl, rfl, rfl, rfl, g', hlt, hj⟩ := Zdw hi
  exact ⟨g', hlt, rfl, rfl, rfl, hj⟩
theorem A3x0i (Q : QT) (h : Zaa) (ht :
 Q (.int .i64 (-1)) h) : Znf Q h :=
 At.mk (cast (by kernel_rfl) ht)
theorem call (a0x0 : Pt) (n0x0 c0x0 : Nat) (e0x0 : Bool) (a0x1 : Pt) (n0x1 c0x1 : Nat) (e0x1 : Bool) (x1x0 x1x1 : List Nat) (h : Zaa) (Q : QT) (ht :
 Zdc (h ++ [.cells Zaf [.slice a0x0 n0x0 c0x0 e0x0, .slice a0x1 n0x1 c0x1 e0x1] false]) fun H0 => Zdc (H0 ++ [.cells Zaj [.str x1x0, .str x1x1] false]) fun H1 => Zdh (Zbv H1 (.ptr (some (h.length, 0))) 2) fun K2 => Zap K2 fun C3 Z4 => xSl (some C3) fun A5 N6 C7 E8 => Zap Z4 fun C9 Z10 => xSl (some C9) fun A11 N12 C13 E14 => Zcr Z10 (Zae pg Zuv [.agg [.slice A5 N6 C7 E8, .slice A11 N12 C13 E14]] H1 fun V15 H16 =>
 Zii (some V15) fun A17 => L3 Q H0.length 0 A17 0 H16)) : Zae pg Znr [.agg [.slice a0x0 n0x0 c0x0 e0x0, .slice a0x1 n0x1 c0x1 e0x1], .agg [.str x1x0, .str x1x1]] h Q :=
 Zae.of_body kp (c := cod fn) (fn := fn) Go.Proofs.Tryz.func35 (by kernel_rfl) (by kernel_rfl) (Nat.le_of_ble_eq_true (by kernel_rfl))
  (cast (by kernel_rfl) ht)
end Zip
namespace Zuu
noncomputable abbrev fn : Func := Go.Proofs.Tryz.f58
def kp : Zbz := []
noncomputable def C (p : List Nat) : Code := (cod fn).sub p
def KR (Q : QT) : KT := Zes pg fn.results.toList Q
theorem call (a0x0 : Pt) (n0x0 c0x0 : Nat) (e0x0 : Bool) (a0x1 : Pt) (n0x1 c0x1 : Nat) (e0x1 : Bool) (h : Zaa) (Q : QT) (ht :
 Zdc (h ++ [.cells Zaf [.slice a0x0 n0x0 c0x0 e0x0, .slice a0x1 n0x1 c0x1 e0x1] false]) fun H0 => Zdh (Zbv H0 (.ptr (some (h.length, 0))) 2) fun K1 => Zap K1 fun C2 Z3 => xSl (some C2) fun A4 N5 C6 E7 => Zap Z3 fun C8 Z9 => xSl (some C8) fun A10 N11 C12 E13 => Zcr Z9 (Zdc (H0 ++ [.map [] 0]) fun H14 => Zdc (H14 ++ [.map [] 0]) fun H15 => Zdc (H15 ++ [.cells Zpi [.slice A4 N5 C6 E7, .slice A10 N11 C12 E13, .map ((some H0.length)), .map ((some H14.length)), .bool true] false]) fun H16 => Q (.ptr (some (H15.length, 0))) H16)) : Zae pg Zuv [.agg [.slice a0x0 n0x0 c0x0 e0x0, .slice a0x1 n0x1 c0x1 e0x1]] h Q :=
 Zae.of_body kp (c := cod fn) (fn := fn) Go.Proofs.Tryz.func58 (by kernel_rfl) (by kernel_rfl) (Nat.le_of_ble_eq_true (by kernel_rfl))
  (cast (by kernel_rfl) ht)
end Zuu
end Go.Sim

set_option maxRecDepth 100000
set_option linter.unusedVariables false
namespace Go.Sim
open Go Go.RowKit
namespace Zym
noncomputable abbrev fn : Func := Go.Proofs.Tryz.f90
def kp : Zbz := []
noncomputable def C (p : List Nat) : Code := (cod fn).sub p
def KR (Q : QT) : KT := Zes pg fn.results.toList Q
theorem call (x0x0 x0x1 : List Nat) (x1 : Int) (h : Zaa) (Q : QT) (ht :
 Zdc (h ++ [.cells Zaj [.str x0x0, .str x0x1] false]) fun H0 => Zdh (Zbv H0 (.ptr (some (h.length, 0))) 2) fun K1 => Zap K1 fun C2 Z3 => Zbo (some C2) fun S4 => Zap Z3 fun C5 Z6 => Zbo (some C5) fun S7 => Zcr Z6 (Zae pg Zkv [.agg [.str S4, .str S7]] H0 fun V8 H9 =>
 Zbo (some V8) fun S10 => List.length S10 + List.length [32] ≤ 9223372036854775807 ∧ (Zae pg Zrr [.int .i64 x1] H9 fun V11 H12 =>
 Zbo (some V11) fun S13 => List.length (S10 ++ [32]) + List.length S13 ≤ 9223372036854775807 ∧ (Q (.str ((S10 ++ [32]) ++ S13)) H12)))) : Zae pg Zqp [.agg [.str x0x0, .str x0x1], .int .i64 x1] h Q :=
 Zae.of_body kp (c := cod fn) (fn := fn) Go.Proofs.Tryz.func90 (by kernel_rfl) (by kernel_rfl) (Nat.le_of_ble_eq_true (by kernel_rfl))
  (cast (by kernel_rfl) ht)
end Zym
namespace Zbx
noncomputable abbrev fn : Func := Go.Proofs.Tryz.f95
def kp : Zbz := []
noncomputable def C (p : List Nat) : Code := (cod fn).sub p
def KR (Q : QT) : KT := Zes pg fn.results.toList Q
theorem call (a0 : Pt) (n0 c0 : Nat) (e0 : Bool) (v1x0 v1x1 : Zam) (h : Zaa) (Q : QT) (ht :
 Zae pg Zex [.slice a0 n0 c0 e0, .fn Zbn [v1x0, v1x1]] h fun V0 H1 =>
 Zen .i64 (some V0) fun X2 => Q (.bool (decide ((X2 : Int) ≥ 0))) H1) : Zae pg Zcc [.slice a0 n0 c0 e0, .fn Zbn [v1x0, v1x1]] h Q :=
 Zae.of_body kp (c := cod fn) (fn := fn) Go.Proofs.Tryz.func95 (by kernel_rfl) (by kernel_rfl) (Nat.le_of_ble_eq_true (by kernel_rfl))
  (cast (by kernel_rfl) ht)
end Zbx
namespace Zav
noncomputable abbrev fn : Func := Go.Proofs.Tryz.f131
def kp : Zbz := [(3000002, [4]), (1000002, [0, 1, 7, 8])]
noncomputable def C (p : List Nat) : Code := (cod fn).sub p
def KR (Q : QT) : KT := Zes pg fn.results.toList Q
abbrev T2 := Pt → Nat → Nat → Bool → Zam → Zam → Int → Int → Zaa → Prop
def E2 (R2 : T2) (env : Env) (h : Zaa) : Prop := Zbs 0 env fun v env => xSl (some v) fun a0 n0 c0 e0 => Zbs 1 env fun v env => eFn Zbn v fun cs => Zap cs fun c cs' => Zwj (some c) fun v1x0 => Zap cs' fun c cs'' => Zwj (some c) fun v1x1 => Zcr cs'' (Zbs 7 env fun v env => Zee .i64 v fun x7 => Zbs 8 env fun v env => Zee .i64 v fun x8 => Zje env (R2 a0 n0 c0 e0 v1x0 v1x1 x7 x8 h))
theorem Zdg {R2 : T2} {env : Env} {h : Zaa} (hi : E2 R2 env h) : ∃ a0, ∃ n0, ∃ c0, ∃ e0, ∃ v1x0, ∃ v1x1, ∃ x7, ∃ x8, env = [(0, .slice a0 n0 c0 e0), (1, .fn Zbn [v1x0, v1x1]), (7, .int .i64 x7), (8, .int .i64 x8)] ∧ R2 a0 n0 c0 e0 v1x0 v1x1 x7 x8 h := by
 unfold E2 at hi
 have hi0 := hi
 clear hi
 obtain ⟨_, _, rfl, hi1⟩ := Zab hi0
 obtain ⟨a0, n0, c0, e0, rfl, hi2⟩ := Zbf hi1
 obtain ⟨_, _, rfl, hi3⟩ := Zab hi2
 obtain ⟨cs, rfl, hi4⟩ := Zti hi3
 obtain ⟨c, cs', rfl, hi5⟩ := Zjo hi4
 obtain ⟨v1x0, hx, hi6⟩ := Zhk hi5
 replace hx := (Option.some.inj hx).symm
 subst hx
 obtain ⟨c, cs'', rfl, hi7⟩ := Zjo hi6
 obtain ⟨v1x1, hx, hi8⟩ := Zhk hi7
 replace hx := (Option.some.inj hx).symm
 subst hx
 obtain ⟨rfl, hi9⟩ := Zqk hi8
 obtain ⟨_, _, rfl, hi10⟩ := Zab hi9
 obtain ⟨x7, rfl, hi11⟩ := Zao hi10
 obtain ⟨_, _, rfl, hi12⟩ := Zab hi11
 obtain ⟨x8, rfl, hi13⟩ := Zao hi12
 obtain ⟨rfl, hi14⟩ := Zbg hi13
 have hi := hi14
 exact ⟨a0, n0, c0, e0, v1x0, v1x1, x7, x8, rfl, hi⟩
def K0 (Q : QT) : KT := andThen (fun env' h' => (match kp.find 4000007 with | some ks => Den pg fn.ntmps (C [1, 1]) (env'.keep ks) h' (KR Q) | none => den pg fn.ntmps kp (C [1, 1]) env' h' (KR Q))) (KR Q)
def K1 (Q : QT) : KT := Zck 0 (K0 Q)
def K2 (Q : QT) : KT := left kp 2 (K1 Q)
def K3 (Q : QT) (R2 : T2) : KT := rnd ((kp.find 1000002).getD []) (E2 R2) (K2 Q)
def L2 (Q : QT) (a0 : Pt) (n0 c0 : Nat) (e0 : Bool) (v1x0 v1x1 : Zam) (x7 x8 : Int) (h : Zaa) : Prop := Zec (Den pg fn.ntmps (C [1, 0, 1, 0, 0])) ((kp.find 1000002).getD []) (K2 Q) [(0, .slice a0 n0 c0 e0), (1, .fn Zbn [v1x0, v1x1]), (7, .int .i64 x7), (8, .int .i64 x8)] h
def Zlg (Q : QT) (h : Zaa) : Prop := At (K1 Q) (.exit 0) [(4, .undef)] h
def L2t (Q : QT) (R2 : T2) (a0 : Pt) (n0 c0 : Nat) (e0 : Bool) (v1x0 v1x1 : Zam) (x7 x8 : Int) (h : Zaa) : Prop :=
 bcase (decide ((x8 : Int) < x7)) ((0 ≤ (x8 : Int) ∧ (x8 : Int) < (n0 : Nat)) ∧ (Zbl a0 fun I0 O1 => Zdh (Zbv h (.ptr (some (I0, O1 + (Int.toNat x8) * 2))) 2) fun K2 => Zap K2 fun C3 Z4 => Zbo (some C3) fun S5 => Zap Z4 fun C6 Z7 => Zbo (some C6) fun S8 => Zcr Z7 (Zae pg Zbn [.agg [.str S5, .str S8], v1x0, v1x1] h fun V9 H10 =>
 Zci (some V9) fun B11 => bcase B11 (Q (.int .i64 x8) H10) (R2 a0 n0 c0 e0 v1x0 v1x1 x7 (IntKind.wrap .i64 (x8 + 1)) H10)))) (Zlg Q h)
theorem Zhn (Q : QT) (R2 : T2) (a0 : Pt) (n0 c0 : Nat) (e0 : Bool) (v1x0 v1x1 : Zam) (x7 x8 : Int) (h : Zaa) (ht : L2t Q R2 a0 n0 c0 e0 v1x0 v1x1 x7 x8 h) : Den pg fn.ntmps (C [1, 0, 1, 0, 0]) [(0, .slice a0 n0 c0 e0), (1, .fn Zbn [v1x0, v1x1]), (7, .int .i64 x7), (8, .int .i64 x8)] h (K3 Q R2) :=
 Zba (kp := kp) (cast (by kernel_rfl) ht)
theorem L2ind (Q : QT) (a0 : Pt) (n0 c0 : Nat) (e0 : Bool) (v1x0 v1x1 : Zam) (x7 : Int) {G : Type} (J : G → Int → Zaa → Prop) (m : G → Nat)
 (hr : ∀ (g : G) (x8 : Int) (h : Zaa), J g x8 h → ∀ (R2 : T2), (∀ g' (x8 : Int) (h : Zaa), m g' < m g → J g' x8 h → R2 a0 n0 c0 e0 v1x0 v1x1 x7 x8 h) → L2t Q R2 a0 n0 c0 e0 v1x0 v1x1 x7 x8 h)
 (g : G) (x8 : Int) (h : Zaa) (hj : J g x8 h) : L2 Q a0 n0 c0 e0 v1x0 v1x1 x7 x8 h := by
 refine Zec.inv2 (fun g => E2 fun a0' n0' c0' e0' v1x0' v1x1' x7' x8 h => a0 = a0' ∧ n0 = n0' ∧ c0 = c0' ∧ e0 = e0' ∧ v1x0 = v1x0' ∧ v1x1 = v1x1' ∧ x7 = x7' ∧ J g x8 h) (fun g => E2 fun a0' n0' c0' e0' v1x0' v1x1' x7' x8 h => a0 = a0' ∧ n0 = n0' ∧ c0 = c0' ∧ e0 = e0' ∧ v1x0 = v1x0' ∧ v1x1 = v1x1' ∧ x7 = x7' ∧ ∃ g', m g' < m g ∧ J g' x8 h) m ?_ ?_ g ⟨rfl, rfl, rfl, rfl, rfl, rfl, rfl, hj⟩
 ·intro g env h hi
  obtain ⟨a0', n0', c0', e0', v1x0', v1x1', x7', x8, rfl, rfl, rfl, rfl, rfl, rfl, rfl, rfl, hj⟩ := Zdg hi
  exact Zhn Q _ a0 n0 c0 e0 v1x0 v1x1 x7 x8 h (hr g x8 h hj (fun a0' n0' c0' e0' v1x0' v1x1' x7' x8 h => a0 = a0' ∧ n0 = n0' ∧ c0 = c0' ∧ e0 = e0' ∧ v1x0 = v1x0' ∧ v1x1 = v1x1' ∧ x7 = x7' ∧ ∃ g', m g' < m g ∧ J g' x8 h) fun g' x8 h hlt hj => ⟨rfl, rfl, rfl, rfl, rfl, rfl, rfl, g', hlt, hj⟩)
 ·intro g env h hi
  obtain ⟨a0', n0', c0', e0', v1x0', v1x1', x7', x8, rfl, rfl, rfl, rfl, rfl, rfl, rfl, rfl, g', hlt, hj⟩ := Zdg hi
  exact ⟨g', hlt, rfl, rfl, rfl, rfl, rfl, rfl, rfl, hj⟩
theorem A2x0i (Q : QT) (h : Zaa) (ht :
 Q (.int .i64 (-1)) h) : Zlg Q h :=
 At.mk (cast (by kernel_rfl) ht)
theorem call (a0 : Pt) (n0 c0 : Nat) (e0 : Bool) (v1x0 v1x1 : Zam) (h : Zaa) (Q : QT) (ht :
 L2 Q a0 n0 c0 e0 v1x0 v1x1 (((n0 : Nat) : Int)) 0 h) : Zae pg Zex [.slice a0 n0 c0 e0, .fn Zbn [v1x0, v1x1]] h Q :=
 Zae.of_body kp (c := cod fn) (fn := fn) Go.Proofs.Tryz.func131 (by kernel_rfl) (by kernel_rfl) (Nat.le_of_ble_eq_true (by kernel_rfl))
  (cast (by kernel_rfl) ht)
end Zav
namespace Zig
noncomputable abbrev fn : Func := Go.Proofs.Tryz.f96
def kp : Zbz := []
noncomputable def C (p : List Nat) : Code := (cod fn).sub p
def KR (Q : QT) : KT := Zes pg fn.results.toList Q
theorem call (x0x0 x0x1 : List Nat) (v1 v2 : Zam) (h : Zaa) (Q : QT) (ht :
 Zdc (h ++ [.cells Zaj [.str x0x0, .str x0x1] false]) fun H0 => Zii (Zak H0 (v1)) fun A1 => Zdh (Zbv H0 (.ptr (some (h.length, 0))) 2) fun K2 => Zap K2 fun C3 Z4 => Zbo (some C3) fun S5 => Zap Z4 fun C6 Z7 => Zbo (some C6) fun S8 => Zcr Z7 (Zen .i64 (Zak H0 (v2)) fun X9 => Zae pg Zjc [.ptr A1, .agg [.str S5, .str S8], .int .i64 (IntKind.wrap .i64 (X9 - 1))] H0 fun V10 H11 =>
 Zci (some V10) fun B12 => Q (.bool (!B12)) H11)) : Zae pg Zbn [.agg [.str x0x0, .str x0x1], v1, v2] h Q :=
 Zae.of_body kp (c := cod fn) (fn := fn) Go.Proofs.Tryz.func96 (by kernel_rfl) (by kernel_rfl) (Nat.le_of_ble_eq_true (by kernel_rfl))
  (cast (by kernel_rfl) ht)
end Zig
namespace Zlj
noncomputable abbrev fn : Func := Go.Proofs.Tryz.f93
def kp : Zbz := [(2000001, [7, 6, 3, 1])]
noncomputable def C (p : List Nat) : Code := (cod fn).sub p
def KR (Q : QT) : KT := Zes pg fn.results.toList Q
theorem call (x0 : Int) (v1 v2 v3 : Zam) (h : Zaa) (Q : QT) (ht :
 Zib pg Zaj v2 1 fun V0 => Zii (Zak h (v1)) fun A1 => Zbl A1 fun I2 O3 => xSl (Zak h (.ptr (some (I2, O3 + 0 + 1)))) fun A4 N5 C6 E7 => (0 ≤ (x0 : Int) ∧ (x0 : Int) < (N5 : Nat)) ∧ (Zbl A4 fun I8 O9 => Zdh (Zbv h (.ptr (some (I8, O9 + (Int.toNat x0) * 3))) 3) fun K10 => Zap K10 fun C11 Z12 => Zbo (some C11) fun S13 => Zap Z12 fun C14 Z15 => Zbo (some C14) fun S16 => Zap Z15 fun C17 Z18 => xSl (some C17) fun A19 N20 C21 E22 => Zcr Z18 (Zbo (Zak h (V0)) fun S23 => (Zbv h (.ptr (some (I8, O9 + (Int.toNat x0) * 3))) 3 = Zbv h (.ptr (some (I8, O9 + (Int.toNat x0) * 3))) 3) ∧ (Zak h (.ptr (some (I2, O3 + 0 + 1))) = Zak h (.ptr (some (I2, O3 + 0 + 1)))) ∧ (Zak h (v1) = Zak h (v1)) ∧ Zae pg Zhm [.agg [.str S13, .str S16, .slice A19 N20 C21 E22], .str S23] h fun V24 H25 =>
 Zva V24 fun K26 => Zap K26 fun C27 Z28 => xSl (some C27) fun A29 N30 C31 E32 => Zap Z28 fun C33 Z34 => Zci (some C33) fun B35 => Zcr Z34 ((Zak H25 (.ptr (some (I2, O3 + 0 + 1))) = Zak h (.ptr (some (I2, O3 + 0 + 1)))) ∧ (Zak H25 (v1) = Zak h (v1)) ∧ bcase B35 (bcase ((((N30 : Nat) : Int) : Int) == 0) (Zae pg Zcc [.slice A29 N30 C31 E32, .fn Zbn [v1, v3]] H25 fun V36 H37 =>
 Zci (some V36) fun B38 => Q (.bool (!B38)) H37) (Zen .i64 (Zak H25 (v3)) fun X39 => bcase (decide ((X39 : Int) > 0)) (Zae pg Zcc [.slice A29 N30 C31 E32, .fn Zbn [v1, v3]] H25 fun V40 H41 =>
 Zci (some V40) fun B42 => Q (.bool (!B42)) H41) (Q (.bool false) H25))) (Q (.bool false) H25))))) : Zae pg Zce [.int .i64 x0, v1, v2, v3] h Q :=
 Zae.of_body kp (c := cod fn) (fn := fn) Go.Proofs.Tryz.func93 (by kernel_rfl) (by kernel_rfl) (Nat.le_of_ble_eq_true (by kernel_rfl))
  (cast (by kernel_rfl) ht)
end Zlj
end Go.Sim

set_option maxRecDepth 100000
set_option linter.unusedVariables false
namespace Go.Sim
open Go Go.RowKit
namespace Zcd
noncomputable abbrev fn : Func := Go.Proofs.Tryz.f53
def kp : Zbz := [(3000003, [6]), (1000003, [0, 2, 4, 7, 21, 22, 23]), (2000005, [11, 10, 2, 23, 22, 21, 7, 4, 0]), (4000007, [10, 0, 2, 4, 7, 21, 22, 23]), (3000009, [12, 23, 22, 21, 7, 4, 2, 0]), (1000009, [0, 2, 4, 7, 12, 21, 22, 23, 49, 50, 51]), (4000012, [51, 50, 49, 12, 0, 2, 23, 22, 21, 7, 4]), (4000015, [23, 22, 21, 7, 4, 2, 0])]
noncomputable def C (p : List Nat) : Code := (cod fn).sub p
def KR (Q : QT) : KT := Zes pg fn.results.toList Q
abbrev T3 := Pt → Int → Nat → Nat → Nat → Nat → Pt → Nat → Nat → Bool → Int → Int → Zaa → Prop
def E3 (R3 : T3) (env : Env) (h : Zaa) : Prop := Zbs 0 env fun v env => Zii (some v) fun a0 => Zbs 2 env fun v env => Zee .i64 v fun x2 => Zbs 4 env fun v env => Zii (some v) fun a => Zbl a fun i4 o4 => Zbs 7 env fun v env => Zii (some v) fun a => Zbl a fun i7 o7 => Zbs 21 env fun v env => xSl (some v) fun a21 n21 c21 e21 => Zbs 22 env fun v env => Zee .i64 v fun x22 => Zbs 23 env fun v env => Zee .i64 v fun x23 => Zje env (R3 a0 x2 i4 o4 i7 o7 a21 n21 c21 e21 x22 x23 h)
theorem Zdw {R3 : T3} {env : Env} {h : Zaa} (hi : E3 R3 env h) : ∃ a0, ∃ x2, ∃ i4, ∃ o4, ∃ i7, ∃ o7, ∃ a21, ∃ n21, ∃ c21, ∃ e21, ∃ x22, ∃ x23, env = [(0, .ptr a0), (2, .int .i64 x2), (4, .ptr (some (i4, o4))), (7, .ptr (some (i7, o7))), (21, .slice a21 n21 c21 e21), (22, .int .i64 x22), (23, .int .i64 x23)] ∧ R3 a0 x2 i4 o4 i7 o7 a21 n21 c21 e21 x22 x23 h := by
 unfold E3 at hi
 have hi0 := hi
 clear hi
 obtain ⟨_, _, rfl, hi1⟩ := Zab hi0
 obtain ⟨a0, rfl, hi2⟩ := Zbw hi1
 obtain ⟨_, _, rfl, hi3⟩ := Zab hi2
 obtain ⟨x2, rfl, hi4⟩ := Zao hi3
 obtain ⟨_, _, rfl, hi5⟩ := Zab hi4
 obtain ⟨a, rfl, hi6⟩ := Zbw hi5
 obtain ⟨i4, o4, rfl, hi7⟩ := Zbp hi6
 obtain ⟨_, _, rfl, hi8⟩ := Zab hi7
 obtain ⟨a, rfl, hi9⟩ := Zbw hi8
 obtain ⟨i7, o7, rfl, hi10⟩ := Zbp hi9
 obtain ⟨_, _, rfl, hi11⟩ := Zab hi10
 obtain ⟨a21, n21, c21, e21, rfl, hi12⟩ := Zbf hi11
 obtain ⟨_, _, rfl, hi13⟩ := Zab hi12
 obtain ⟨x22, rfl, hi14⟩ := Zao hi13
 obtain ⟨_, _, rfl, hi15⟩ := Zab hi14
 obtain ⟨x23, rfl, hi16⟩ := Zao hi15
 obtain ⟨rfl, hi17⟩ := Zbg hi16
 have hi := hi17
 exact ⟨a0, x2, i4, o4, i7, o7, a21, n21, c21, e21, x22, x23, rfl, hi⟩
abbrev T9 := Pt → Int → Nat → Nat → Nat → Nat → Bool → Pt → Nat → Nat → Bool → Int → Int → Pt → Nat → Nat → Bool → Int → Int → Zaa → Prop
def E9 (R9 : T9) (env : Env) (h : Zaa) : Prop := Zbs 0 env fun v env => Zii (some v) fun a0 => Zbs 2 env fun v env => Zee .i64 v fun x2 => Zbs 4 env fun v env => Zii (some v) fun a => Zbl a fun i4 o4 => Zbs 7 env fun v env => Zii (some v) fun a => Zbl a fun i7 o7 => Zbs 12 env fun v env => Zci (some v) fun x12 => Zbs 21 env fun v env => xSl (some v) fun a21 n21 c21 e21 => Zbs 22 env fun v env => Zee .i64 v fun x22 => Zbs 23 env fun v env => Zee .i64 v fun x23 => Zbs 49 env fun v env => xSl (some v) fun a49 n49 c49 e49 => Zbs 50 env fun v env => Zee .i64 v fun x50 => Zbs 51 env fun v env => Zee .i64 v fun x51 => Zje env (R9 a0 x2 i4 o4 i7 o7 x12 a21 n21 c21 e21 x22 x23 a49 n49 c49 e49 x50 x51 h)
theorem Zun {R9 : T9} {env : Env} {h : Zaa} (hi : E9 R9 env h) : ∃ a0, ∃ x2, ∃ i4, ∃ o4, ∃ i7, ∃ o7, ∃ x12, ∃ a21, ∃ n21, ∃ c21, ∃ e21, ∃ x22, ∃ x23, ∃ a49, ∃ n49, ∃ c49, ∃ e49, ∃ x50, ∃ x51, env = [(0, .ptr a0), (2, .int .i64 x2), (4, .ptr (some (i4, o4))), (7, .ptr (some (i7, o7))), (12, .bool x12), (21, .slice a21 n21 c21 e21), (22, .int .i64 x22), (23, .int .i64 x23), (49, .slice a49 n49 c49 e49), (50, .int .i64 x50), (51, .int .i64 x51)] ∧ R9 a0 x2 i4 o4 i7 o7 x12 a21 n21 c21 e21 x22 x23 a49 n49 c49 e49 x50 x51 h := by
 unfold E9 at hi
 have hi0 := hi
 clear hi
 obtain ⟨_, _, rfl, hi1⟩ := Zab hi0
 obtain ⟨a0, rfl, hi2⟩ := Zbw hi1
 obtain ⟨_, _, rfl, hi3⟩ := Zab hi2
 obtain ⟨x2, rfl, hi4⟩ := Zao hi3
 obtain ⟨_, _, rfl, hi5⟩ := Zab hi4
 obtain ⟨a, rfl, hi6⟩ := Zbw hi5
 obtain ⟨i4, o4, rfl, hi7⟩ := Zbp hi6
 obtain ⟨_, _, rfl, hi8⟩ := Zab hi7
 obtain ⟨a, rfl, hi9⟩ := Zbw hi8
 obtain ⟨i7, o7, rfl, hi10⟩ := Zbp hi9
 obtain ⟨_, _, rfl, hi11⟩ := Zab hi10
 obtain ⟨x12, rfl, hi12⟩ := Zyp hi11
 obtain ⟨_, _, rfl, hi13⟩ := Zab hi12
 obtain ⟨a21, n21, c21, e21, rfl, hi14⟩ := Zbf hi13
 obtain ⟨_, _, rfl, hi15⟩ := Zab hi14
 obtain ⟨x22, rfl, hi16⟩ := Zao hi15
 obtain ⟨_, _, rfl, hi17⟩ := Zab hi16
 obtain ⟨x23, rfl, hi18⟩ := Zao hi17
 obtain ⟨_, _, rfl, hi19⟩ := Zab hi18
 obtain ⟨a49, n49, c49, e49, rfl, hi20⟩ := Zbf hi19
 obtain ⟨_, _, rfl, hi21⟩ := Zab hi20
 obtain ⟨x50, rfl, hi22⟩ := Zao hi21
 obtain ⟨_, _, rfl, hi23⟩ := Zab hi22
 obtain ⟨x51, rfl, hi24⟩ := Zao hi23
 obtain ⟨rfl, hi25⟩ := Zbg hi24
 have hi := hi25
 exact ⟨a0, x2, i4, o4, i7, o7, x12, a21, n21, c21, e21, x22, x23, a49, n49, c49, e49, x50, x51, rfl, hi⟩
def K0 (Q : QT) : KT := andThen (fun env' h' => (match kp.find 4000016 with | some ks => Den pg fn.ntmps (C [1, 1, 1]) (env'.keep ks) h' (KR Q) | none => den pg fn.ntmps kp (C [1, 1, 1]) env' h' (KR Q))) (KR Q)
def K1 (Q : QT) : KT := Zck 0 (K0 Q)
def K2 (Q : QT) : KT := left kp 3 (K1 Q)
def K3 (Q : QT) (R3 : T3) : KT := rnd ((kp.find 1000003).getD []) (E3 R3) (K2 Q)
def K4 (Q : QT) (R3 : T3) : KT := andThen (fun env' h' => (match kp.find 4000015 with | some ks => Den pg fn.ntmps (C [1, 1, 0, 1, 0, 0, 1, 1, 1]) (env'.keep ks) h' (K3 Q R3) | none => den pg fn.ntmps kp (C [1, 1, 0, 1, 0, 0, 1, 1, 1]) env' h' (K3 Q R3))) (K3 Q R3)
def K5 (Q : QT) (R3 : T3) : KT := Zck 1 (K4 Q R3)
def K6 (Q : QT) (R3 : T3) : KT := andThen (fun env' h' => (match kp.find 4000013 with | some ks => Den pg fn.ntmps (C [1, 1, 0, 1, 0, 0, 1, 1, 0, 0, 1, 1, 1, 1, 1]) (env'.keep ks) h' (K5 Q R3) | none => den pg fn.ntmps kp (C [1, 1, 0, 1, 0, 0, 1, 1, 0, 0, 1, 1, 1, 1, 1]) env' h' (K5 Q R3))) (K5 Q R3)
def K7 (Q : QT) (R3 : T3) : KT := Zck 2 (K6 Q R3)
def K8 (Q : QT) (R3 : T3) : KT := left kp 9 (K7 Q R3)
def K9 (Q : QT) (R3 : T3) (R9 : T9) : KT := rnd ((kp.find 1000009).getD []) (E9 R9) (K8 Q R3)
def L3 (Q : QT) (a0 : Pt) (x2 : Int) (i4 o4 i7 o7 : Nat) (a21 : Pt) (n21 c21 : Nat) (e21 : Bool) (x22 x23 : Int) (h : Zaa) : Prop := Zec (Den pg fn.ntmps (C [1, 1, 0, 1, 0, 0])) ((kp.find 1000003).getD []) (K2 Q) [(0, .ptr a0), (2, .int .i64 x2), (4, .ptr (some (i4, o4))), (7, .ptr (some (i7, o7))), (21, .slice a21 n21 c21 e21), (22, .int .i64 x22), (23, .int .i64 x23)] h
def J15 (Q : QT) (R3 : T3) (x23 x22 : Int) (a21 : Pt) (n21 c21 : Nat) (e21 : Bool) (i7 o7 i4 o4 : Nat) (x2 : Int) (a0 : Pt) (h : Zaa) : Prop := Den pg fn.ntmps (C [1, 1, 0, 1, 0, 0, 1, 1, 1]) [(23, .int .i64 x23), (22, .int .i64 x22), (21, .slice a21 n21 c21 e21), (7, .ptr (some (i7, o7))), (4, .ptr (some (i4, o4))), (2, .int .i64 x2), (0, .ptr a0)] h (K3 Q R3)
def J7 (Q : QT) (R3 : T3) (a10 : Pt) (n10 c10 : Nat) (e10 : Bool) (a0 : Pt) (x2 : Int) (i4 o4 i7 o7 : Nat) (a21 : Pt) (n21 c21 : Nat) (e21 : Bool) (x22 x23 : Int) (h : Zaa) : Prop := Den pg fn.ntmps (C [1, 1, 0, 1, 0, 0, 1, 1, 0, 0, 1, 1, 1]) [(10, .slice a10 n10 c10 e10), (0, .ptr a0), (2, .int .i64 x2), (4, .ptr (some (i4, o4))), (7, .ptr (some (i7, o7))), (21, .slice a21 n21 c21 e21), (22, .int .i64 x22), (23, .int .i64 x23)] h (K5 Q R3)
def Znf (Q : QT) (h : Zaa) : Prop := At (K1 Q) (.exit 0) [(6, .undef)] h
def L9 (Q : QT) (R3 : T3) (a0 : Pt) (x2 : Int) (i4 o4 i7 o7 : Nat) (x12 : Bool) (a21 : Pt) (n21 c21 : Nat) (e21 : Bool) (x22 x23 : Int) (a49 : Pt) (n49 c49 : Nat) (e49 : Bool) (x50 x51 : Int) (h : Zaa) : Prop := Zec (Den pg fn.ntmps (C [1, 1, 0, 1, 0, 0, 1, 1, 0, 0, 1, 1, 1, 1, 0, 1, 0, 0])) ((kp.find 1000009).getD []) (K8 Q R3) [(0, .ptr a0), (2, .int .i64 x2), (4, .ptr (some (i4, o4))), (7, .ptr (some (i7, o7))), (12, .bool x12), (21, .slice a21 n21 c21 e21), (22, .int .i64 x22), (23, .int .i64 x23), (49, .slice a49 n49 c49 e49), (50, .int .i64 x50), (51, .int .i64 x51)] h
def J12 (Q : QT) (R3 : T3) (R9 : T9) (x51 x50 : Int) (a49 : Pt) (n49 c49 : Nat) (e49 x12 : Bool) (a0 : Pt) (x2 x23 x22 : Int) (a21 : Pt) (n21 c21 : Nat) (e21 : Bool) (i7 o7 i4 o4 : Nat) (h : Zaa) : Prop := Den pg fn.ntmps (C [1, 1, 0, 1, 0, 0, 1, 1, 0, 0, 1, 1, 1, 1, 0, 1, 0, 0, 1, 1, 1]) [(51, .int .i64 x51), (50, .int .i64 x50), (49, .slice a49 n49 c49 e49), (12, .bool x12), (0, .ptr a0), (2, .int .i64 x2), (23, .int .i64 x23), (22, .int .i64 x22), (21, .slice a21 n21 c21 e21), (7, .ptr (some (i7, o7))), (4, .ptr (some (i4, o4)))] h (K9 Q R3 R9)
def A9x2 (Q : QT) (R3 : T3) (x12 : Bool) (x23 x22 : Int) (a21 : Pt) (n21 c21 : Nat) (e21 : Bool) (i7 o7 i4 o4 : Nat) (x2 : Int) (a0 : Pt) (h : Zaa) : Prop := At (K7 Q R3) (.exit 2) [(12, .bool x12), (23, .int .i64 x23), (22, .int .i64 x22), (21, .slice a21 n21 c21 e21), (7, .ptr (some (i7, o7))), (4, .ptr (some (i4, o4))), (2, .int .i64 x2), (0, .ptr a0)] h
def L3t (Q : QT) (R3 : T3) (a0 : Pt) (x2 : Int) (i4 o4 i7 o7 : Nat) (a21 : Pt) (n21 c21 : Nat) (e21 : Bool) (x22 x23 : Int) (h : Zaa) : Prop :=
 bcase (decide ((x23 : Int) < x22)) ((0 ≤ (x23 : Int) ∧ (x23 : Int) < (n21 : Nat)) ∧ (Zbl a21 fun I44 O45 => Zen .i64 (Zak h (.ptr (some (I44, O45 + (Int.toNat x23) * 1)))) fun X46 => xSl (Zak h (.ptr (some (i7, o7 + 1)))) fun A47 N48 C49 E50 => (0 ≤ (X46 : Int) ∧ (X46 : Int) < (N48 : Nat)) ∧ (Zbl A47 fun I51 O52 => Zdh (Zbv h (.ptr (some (I51, O52 + (Int.toNat X46) * 3))) 3) fun K53 => Zap K53 fun C54 Z55 => Zbo (some C54) fun S56 => Zap Z55 fun C57 Z58 => Zbo (some C57) fun S59 => Zap Z58 fun C60 Z61 => xSl (some C60) fun A62 N63 C64 E65 => Zcr Z61 (Zbo (Zak h (.ptr (some (i4, o4 + 1)))) fun S66 => (Zbv h (.ptr (some (I51, O52 + (Int.toNat X46) * 3))) 3 = Zbv h (.ptr (some (I51, O52 + (Int.toNat X46) * 3))) 3) ∧ (Zak h (.ptr (some (i7, o7 + 1))) = Zak h (.ptr (some (i7, o7 + 1)))) ∧ Zae pg Znl [.agg [.str S56, .str S59, .slice A62 N63 C64 E65], .str S66] h fun V67 H68 =>
 Zva V67 fun K69 => Zap K69 fun C70 Z71 => xSl (some C70) fun A72 N73 C74 E75 => Zap Z71 fun C76 Z77 => Zci (some C76) fun B78 => Zcr Z77 ((Zak H68 (.ptr (some (i7, o7 + 1))) = Zak h (.ptr (some (i7, o7 + 1)))) ∧ bcase (!B78) (J15 Q R3 x23 x22 a21 n21 c21 e21 i7 o7 i4 o4 x2 a0 H68) (bcase (decide (((((N73 : Nat) : Int)) : Int) > 0)) (bcase ((x2 : Int) == 0) (J15 Q R3 x23 x22 a21 n21 c21 e21 i7 o7 i4 o4 x2 a0 H68) (J7 Q R3 A72 N73 C74 E75 a0 x2 i4 o4 i7 o7 a21 n21 c21 e21 x22 x23 H68)) (J7 Q R3 A72 N73 C74 E75 a0 x2 i4 o4 i7 o7 a21 n21 c21 e21 x22 x23 H68))))))) (Znf Q h)
theorem Zkh (Q : QT) (R3 : T3) (a0 : Pt) (x2 : Int) (i4 o4 i7 o7 : Nat) (a21 : Pt) (n21 c21 : Nat) (e21 : Bool) (x22 x23 : Int) (h : Zaa) (ht : L3t Q R3 a0 x2 i4 o4 i7 o7 a21 n21 c21 e21 x22 x23 h) : Den pg fn.ntmps (C [1, 1, 0, 1, 0, 0]) [(0, .ptr a0), (2, .int .i64 x2), (4, .ptr (some (i4, o4))), (7, .ptr (some (i7, o7))), (21, .slice a21 n21 c21 e21), (22, .int .i64 x22), (23, .int .i64 x23)] h (K3 Q R3) :=
 Zba (kp := kp) (cast (by kernel_rfl) ht)
theorem L3ind (Q : QT) (a0 : Pt) (x2 : Int) (i4 o4 i7 o7 : Nat) (a21 : Pt) (n21 c21 : Nat) (e21 : Bool) (x22 : Int) {G : Type} (J : G → Int → Zaa → Prop) (m : G → Nat)
 (hr : ∀ (g : G) (x23 : Int) (h : Zaa), J g x23 h → ∀ (R3 : T3), (∀ g' (x23 : Int) (h : Zaa), m g' < m g → J g' x23 h → R3 a0 x2 i4 o4 i7 o7 a21 n21 c21 e21 x22 x23 h) → L3t Q R3 a0 x2 i4 o4 i7 o7 a21 n21 c21 e21 x22 x23 h)
 (g : G) (x23 : Int) (h : Zaa) (hj : J g x23 h) : L3 Q a0 x2 i4 o4 i7 o7 a21 n21 c21 e21 x22 x23 h := by
 refine Zec.inv2 (fun g => E3 fun a0' x2' i4' o4' i7' o7' a21' n21' c21' e21' x22' x23 h => a0 = a0' ∧ x2 = x2' ∧ i4 = i4' ∧ o4 = o4' ∧ i7 = i7' ∧ o7 = o7' ∧ a21 = a21' ∧ n21 = n21' ∧ c21 = c21' ∧ e21 = e21' ∧ x22 = x22' ∧ J g x23 h) (fun g => E3 fun a0' x2' i4' o4' i7' o7' a21' n21' c21' e21' x22' x23 h => a0 = a0' ∧ x2 = x2' ∧ i4 = i4' ∧ o4 = o4' ∧ i7 = i7' ∧ o7 = o7' ∧ a21 = a21' ∧ n21 = n21' ∧ c21 = c21' ∧ e21 = e21' ∧ x22 = x22' ∧ ∃ g', m g' < m g ∧ J g' x23 h) m ?_ ?_ g ⟨rfl, rfl, rfl, rfl, rfl, rfl, rfl, rfl, rfl, rfl, rfl, hj⟩
 ·intro g env h hi
  obtain ⟨a0', x2', i4', o4', i7', o7', a21', n21', c21', e21', x22', x23, rfl, rfl, rfl, rfl, rfl, rfl, rfl, rfl, rfl, rfl, rfl, rfl, hj⟩ := Zdw hi
  exact Zkh Q _ a0 x2 i4 o4 i7 o7 a21 n21 c21 e21 x22 x23 h (hr g x23 h hj (fun a0' x2' i4' o4' i7' o7' a21' n21' c21' e21' x22' x23 h => a0 = a0' ∧ x2 = x2' ∧ i4 = i4' ∧ o4 = o4' ∧ i7 = i7' ∧ o7 = o7' ∧ a21 = a21' ∧ n21 = n21' ∧ c21 = c21' ∧ e21 = e21' ∧ x22 = x22' ∧ ∃ g', m g' < m g ∧ J g' x23 h) fun g' x23 h hlt hj => ⟨rfl, rfl, rfl, rfl, rfl, rfl, rfl, rfl, rfl, rfl, rfl, g', hlt, hj⟩)
 ·intro g env h hi
  obtain ⟨a0', x2', i4', o4', i7', o7', a21', n21', c21', e21', x22', x23, rfl, rfl, rfl, rfl, rfl, rfl, rfl, rfl, rfl, rfl, rfl, rfl, g', hlt, hj⟩ := Zdw hi
  exact ⟨g', hlt, rfl, rfl, rfl, rfl, rfl, rfl, rfl, rfl, rfl, rfl, rfl, hj⟩
theorem J15i (Q : QT) (R3 : T3) (x23 x22 : Int) (a21 : Pt) (n21 c21 : Nat) (e21 : Bool) (i7 o7 i4 o4 : Nat) (x2 : Int) (a0 : Pt) (h : Zaa) (ht :
 R3 a0 x2 i4 o4 i7 o7 a21 n21 c21 e21 x22 (IntKind.wrap .i64 (x23 + 1)) h) : J15 Q R3 x23 x22 a21 n21 c21 e21 i7 o7 i4 o4 x2 a0 h :=
 Zba (kp := kp) (cast (by kernel_rfl) ht)
theorem J7i (Q : QT) (R3 : T3) (a10 : Pt) (n10 c10 : Nat) (e10 : Bool) (a0 : Pt) (x2 : Int) (i4 o4 i7 o7 : Nat) (a21 : Pt) (n21 c21 : Nat) (e21 : Bool) (x22 x23 : Int) (h : Zaa) (ht :
 L9 Q R3 a0 x2 i4 o4 i7 o7 true a21 n21 c21 e21 x22 x23 a10 n10 c10 e10 (((n10 : Nat) : Int)) 0 h) : J7 Q R3 a10 n10 c10 e10 a0 x2 i4 o4 i7 o7 a21 n21 c21 e21 x22 x23 h :=
 Zba (kp := kp) (cast (by kernel_rfl) ht)
theorem A3x0i (Q : QT) (h : Zaa) (ht :
 Q (.bool false) h) : Znf Q h :=
 At.mk (cast (by kernel_rfl) ht)
def L9t (Q : QT) (R3 : T3) (R9 : T9) (a0 : Pt) (x2 : Int) (i4 o4 i7 o7 : Nat) (x12 : Bool) (a21 : Pt) (n21 c21 : Nat) (e21 : Bool) (x22 x23 : Int) (a49 : Pt) (n49 c49 : Nat) (e49 : Bool) (x50 x51 : Int) (h : Zaa) : Prop :=
 bcase (decide ((x51 : Int) < x50)) ((0 ≤ (x51 : Int) ∧ (x51 : Int) < (n49 : Nat)) ∧ (Zbl a49 fun I79 O80 => Zdh (Zbv h (.ptr (some (I79, O80 + (Int.toNat x51) * 2))) 2) fun K81 => Zap K81 fun C82 Z83 => Zbo (some C82) fun S84 => Zap Z83 fun C85 Z86 => Zbo (some C85) fun S87 => Zcr Z86 (Zdc (h ++ [.cells Zaj [.str [], .str []] false]) fun H88 => Zcp (Zbk H88 (.ptr (some (h.length, 0))) [.str S84, .str S87]) fun H89 => bcase x12 (Zdh (Zbv H89 (.ptr (some (h.length, 0))) 2) fun K90 => Zap K90 fun C91 Z92 => Zbo (some C91) fun S93 => Zap Z92 fun C94 Z95 => Zbo (some C94) fun S96 => Zcr Z95 (Zae pg Zhg [.ptr a0, .agg [.str S93, .str S96], .int .i64 (IntKind.wrap .i64 (x2 - 1))] H89 fun V97 H98 =>
 Zci (some V97) fun B99 => J12 Q R3 R9 x51 x50 a49 n49 c49 e49 B99 a0 x2 x23 x22 a21 n21 c21 e21 i7 o7 i4 o4 H98)) (J12 Q R3 R9 x51 x50 a49 n49 c49 e49 false a0 x2 x23 x22 a21 n21 c21 e21 i7 o7 i4 o4 H89)))) (A9x2 Q R3 x12 x23 x22 a21 n21 c21 e21 i7 o7 i4 o4 x2 a0 h)
theorem Yjm (Q : QT) (R3 : T3) (R9 : T9) (a0 : Pt) (x2 : Int) (i4 o4 i7 o7 : Nat) (x12 : Bool) (a21 : Pt) (n21 c21 : Nat) (e21 : Bool) (x22 x23 : Int) (a49 : Pt) (n49 c49 : Nat) (e49 : Bool) (x50 x51 : Int) (h : Zaa) (ht : L9t Q R3 R9 a0 x2 i4 o4 i7 o7 x12 a21 n21 c21 e21 x22 x23 a49 n49 c49 e49 x50 x51 h) : Den pg fn.ntmps (C [1, 1, 0, 1, 0, 0, 1, 1, 0, 0, 1, 1, 1, 1, 0, 1, 0, 0]) [(0, .ptr a0), (2, .int .i64 x2), (4, .ptr (some (i4, o4))), (7, .ptr (some (i7, o7))), (12, .bool x12), (21, .slice a21 n21 c21 e21), (22, .int .i64 x22), (23, .int .i64 x23), (49, .slice a49 n49 c49 e49), (50, .int .i64 x50), (51, .int .i64 x51)] h (K9 Q R3 R9) :=
 Zba (kp := kp) (cast (by kernel_rfl) ht)
theorem L9ind (Q : QT) (R3 : T3) (a0 : Pt) (x2 : Int) (i4 o4 i7 o7 : Nat) (a21 : Pt) (n21 c21 : Nat) (e21 : Bool) (x22 x23 : Int) (a49 : Pt) (n49 c49 : Nat) (e49 : Bool) (x50 : Int) {G : Type} (J : G → Bool → Int → Zaa → Prop) (m : G → Nat)
 (hr : ∀ (g : G) (x12 : Bool) (x51 : Int) (h : Zaa), J g x12 x51 h → ∀ (R9 : T9), (∀ g' (x12 : Bool) (x51 : Int) (h : Zaa), m g' < m g → J g' x12 x51 h → R9 a0 x2 i4 o4 i7 o7 x12 a21 n21 c21 e21 x22 x23 a49 n49 c49 e49 x50 x51 h) → L9t Q R3 R9 a0 x2 i4 o4 i7 o7 x12 a21 n21 c21 e21 x22 x23 a49 n49 c49 e49 x50 x51 h)
 (g : G) (x12 : Bool) (x51 : Int) (h : Zaa) (hj : J g x12 x51 h) : L9 Q R3 a0 x2 i4 o4 i7 o7 x12 a21 n21 c21 e21 x22 x23 a49 n49 c49 e49 x50 x51 h := by
 refine Zec.inv2 (fun g => E9 fun a0' x2' i4' o4' i7' o7' x12 a21' n21' c21' e21' x22' x23' a49' n49' c49' e49' x50' x51 h => a0 = a0' ∧ x2 = x2' ∧ i4 = i4' ∧ o4 = o4' ∧ i7 = i7' ∧ o7 = o7' ∧ a21 = a21' ∧ n21 = n21' ∧ c21 = c21' ∧ e21 = e21' ∧ x22 = x22' ∧ x23 = x23' ∧ a49 = a49' ∧ n49 = n49' ∧ c49 = c49' ∧ e49 = e49' ∧ x50 = x50' ∧ J g x12 x51 h) (fun g => E9 fun a0' x2' i4' o4' i7' o7' x12 a21' n21' c21' e21' x22' x23' a49' n49' c49' e49' x50' x51 h => a0 = a0' ∧ x2 = x2' ∧ i4 = i4' ∧ o4 = o4' ∧ i7 = i7' ∧ o7 = o7' ∧ a21 = a21' ∧ n21 = n21' ∧ c21 = c21' ∧ e21 = e21' ∧ x22 = x22' ∧ x23 = x23' ∧ a49 = a49' ∧ n49 = n49' ∧ c49 = c49' ∧ e49 = e49' ∧ x50 = x50' ∧ ∃ g', m g' < m g ∧ J g' x12 x51 h) m ?_ ?_ g ⟨rfl, rfl, rfl, rfl, rfl, rfl, rfl, rfl, rfl, rfl, rfl, rfl, rfl, rfl, rfl, rfl, rfl, hj⟩
 ·intro g env h hi
  obtain ⟨a0', x2', i4', o4', i7', o7', x12, a21', n21', c21', e21', x22', x23', a49', n49', c49', e49', x50', x51, rfl, rfl, rfl, rfl, rfl, rfl, rfl, rfl, rfl, rfl, rfl, rfl, rfl, rfl, rfl, rfl, rfl, rfl, hj⟩ := Zun hi
  exact Yjm Q R3 (fun a0' x2' i4' o4' i7' o7' x12 a21' n21' c21' e21' x22' x23' a49' n49' c49' e49' x50' x51 h => a0 = a0' ∧ x2 = x2' ∧ i4 = i4' ∧ o4 = o4' ∧ i7 = i7' ∧ o7 = o7' ∧ a21 = a21' ∧ n21 = n21' ∧ c21 = c21' ∧ e21 = e21' ∧ x22 = x22' ∧ x23 = x23' ∧ a49 = a49' ∧ n49 = n49' ∧ c49 = c49' ∧ e49 = e49' ∧ x50 = x50' ∧ ∃ g', m g' < m g ∧ J g' x12 x51 h) a0 x2 i4 o4 i7 o7 x12 a21 n21 c21 e21 x22 x23 a49 n49 c49 e49 x50 x51 h (hr g x12 x51 h hj (fun a0' x2' i4' o4' i7' o7' x12 a21' n21' c21' e21' x22' x23' a49' n49' c49' e49' x50' x51 h => a0 = a0' ∧ x2 = x2' ∧ i4 = i4' ∧ o4 = o4' ∧ i7 = i7' ∧ o7 = o7' ∧ a21 = a21' ∧ n21 = n21' ∧ c21 = c21' ∧ e21 = e21' ∧ x22 = x22' ∧ x23 = x23' ∧ a49 = a49' ∧ n49 = n49' ∧ c49 = c49' ∧ e49 = e49' ∧ x50 = x50' ∧ ∃ g', m g' < m g ∧ J g' x12 x51 h) fun g' x12 x51 h hlt hj => ⟨rfl, rfl, rfl, rfl, rfl, rfl, rfl, rfl, rfl, rfl, rfl, rfl, rfl, rfl, rfl, rfl, rfl, g', hlt, hj⟩)
 ·intro g env h hi
  obtain ⟨a0', x2', i4', o4', i7', o7', x12, a21', n21', c21', e21', x22', x23', a49', n49', c49', e49', x50', x51, rfl, rfl, rfl, rfl, rfl, rfl, rfl, rfl, rfl, rfl, rfl, rfl, rfl, rfl, rfl, rfl, rfl, rfl, g', hlt, hj⟩ := Zun hi
  exact ⟨g', hlt, rfl, rfl, rfl, rfl, rfl, rfl, rfl, rfl, rfl, rfl, rfl, rfl, rfl, rfl, rfl, rfl, rfl, hj⟩
theorem J12i (Q : QT) (R3 : T3) (R9 : T9) (x51 x50 : Int) (a49 : Pt) (n49 c49 : Nat) (e49 x12 : Bool) (a0 : Pt) (x2 x23 x22 : Int) (a21 : Pt) (n21 c21 : Nat) (e21 : Bool) (i7 o7 i4 o4 : Nat) (h : Zaa) (ht :
 R9 a0 x2 i4 o4 i7 o7 x12 a21 n21 c21 e21 x22 x23 a49 n49 c49 e49 x50 (IntKind.wrap .i64 (x51 + 1)) h) : J12 Q R3 R9 x51 x50 a49 n49 c49 e49 x12 a0 x2 x23 x22 a21 n21 c21 e21 i7 o7 i4 o4 h :=
 Zba (kp := kp) (cast (by kernel_rfl) ht)
theorem A9x2i (Q : QT) (R3 : T3) (x12 : Bool) (x23 x22 : Int) (a21 : Pt) (n21 c21 : Nat) (e21 : Bool) (i7 o7 i4 o4 : Nat) (x2 : Int) (a0 : Pt) (h : Zaa) (ht :
 bcase x12 (Q (.bool true) h) (J15 Q R3 x23 x22 a21 n21 c21 e21 i7 o7 i4 o4 x2 a0 h)) : A9x2 Q R3 x12 x23 x22 a21 n21 c21 e21 i7 o7 i4 o4 x2 a0 h :=
 At.mk (cast (by kernel_rfl) ht)
theorem call (a0 : Pt) (x1x0 x1x1 : List Nat) (x2 : Int) (h : Zaa) (Q : QT) (ht :
 Zdc (h ++ [.cells Zaj [.str x1x0, .str x1x1] false]) fun H0 => Zbl a0 fun I1 O2 => Zdh (Zbv H0 (.ptr (some (I1, O2 + 0))) 2) fun K3 => Zap K3 fun C4 Z5 => xSl (some C4) fun A6 N7 C8 E9 => Zap Z5 fun C10 Z11 => xSl (some C10) fun A12 N13 C14 E15 => Zcr Z11 (Zdc (H0 ++ [.cells Zaf [.slice none 0 0 true, .slice none 0 0 true] false]) fun H16 => Zcp (Zbk H16 (.ptr (some (H0.length, 0))) [.slice A6 N7 C8 E9, .slice A12 N13 C14 E15]) fun H17 => Zdh (Zbv H17 (.ptr (some (H0.length, 0))) 2) fun K18 => Zap K18 fun C19 Z20 => xSl (some C19) fun A21 N22 C23 E24 => Zap Z20 fun C25 Z26 => xSl (some C25) fun A27 N28 C29 E30 => Zcr Z26 (Zdh (Zbv H17 (.ptr (some (h.length, 0))) 2) fun K31 => Zap K31 fun C32 Z33 => Zbo (some C32) fun S34 => Zap Z33 fun C35 Z36 => Zbo (some C35) fun S37 => Zcr Z36 (Zae pg Zjk [.agg [.slice A21 N22 C23 E24, .slice A27 N28 C29 E30], .agg [.str S34, .str S37]] H17 fun V38 H39 =>
 xSl (some V38) fun A40 N41 C42 E43 => L3 Q a0 x2 h.length 0 H0.length 0 A40 N41 C42 E43 (((N41 : Nat) : Int)) 0 H39)))) : Zae pg Zjn [.ptr a0, .agg [.str x1x0, .str x1x1], .int .i64 x2] h Q :=
 Zae.of_body kp (c := cod fn) (fn := fn) Go.Proofs.Tryz.func53 (by kernel_rfl) (by kernel_rfl) (Nat.le_of_ble_eq_true (by kernel_rfl))
  (cast (by kernel_rfl) ht)
end Zcd
namespace Znc
noncomputable abbrev fn : Func := Go.Proofs.Tryz.f31
def kp : Zbz := []
noncomputable def C (p : List Nat) : Code := (cod fn).sub p
def KR (Q : QT) : KT := Zes pg fn.results.toList Q
theorem call (a0 : Pt) (x1x0 x1x1 : List Nat) (x2 : Int) (h : Zaa) (Q : QT) (ht :
 Zdc (h ++ [.cells Zaj [.str x1x0, .str x1x1] false]) fun H0 => Zdh (Zbv H0 (.ptr (some (h.length, 0))) 2) fun K1 => Zap K1 fun C2 Z3 => Zbo (some C2) fun S4 => Zap Z3 fun C5 Z6 => Zbo (some C5) fun S7 => Zcr Z6 (Zae pg Zqe [.agg [.str S4, .str S7], .int .i64 x2] H0 fun V8 H9 =>
 Zbo (some V8) fun S10 => Zae pg Zla [.ptr a0, .str S10] H9 fun V11 H12 =>
 Zen .i64 (some V11) fun X13 => bcase (decide ((X13 : Int) ≥ 0)) (Zbl a0 fun I14 O15 => xSl (Zak H12 (.ptr (some (I14, O15 + 4)))) fun A16 N17 C18 E19 => (0 ≤ (X13 : Int) ∧ (X13 : Int) < (N17 : Nat)) ∧ (Zbl A16 fun I20 O21 => Zci (Zak H12 (.ptr (some (I20, O21 + (Int.toNat X13) * 1)))) fun B22 => Q (.bool B22) H12)) (Zdh (Zbv H12 (.ptr (some (h.length, 0))) 2) fun K23 => Zap K23 fun C24 Z25 => Zbo (some C24) fun S26 => Zap Z25 fun C27 Z28 => Zbo (some C27) fun S29 => Zcr Z28 (Zae pg Zjn [.ptr a0, .agg [.str S26, .str S29], .int .i64 x2] H12 fun V30 H31 =>
 Zci (some V30) fun B32 => Zae pg Zjr [.ptr a0, .str S10, .slice none 0 0 true, .bool B32] H31 fun V33 H34 =>
 Q (.bool B32) H34)))) : Zae pg Zhg [.ptr a0, .agg [.str x1x0, .str x1x1], .int .i64 x2] h Q :=
 Zae.of_body kp (c := cod fn) (fn := fn) Go.Proofs.Tryz.func31 (by kernel_rfl) (by kernel_rfl) (Nat.le_of_ble_eq_true (by kernel_rfl))
  (cast (by kernel_rfl) ht)
end Znc
namespace Zfz
noncomputable abbrev fn : Func := Go.Proofs.Tryz.f10
def kp : Zbz := [(3000003, [4]), (1000003, [2, 3, 5, 10]), (4000007, [10, 2, 3, 5])]
noncomputable def C (p : List Nat) : Code := (cod fn).sub p
def KR (Q : QT) : KT := Zes pg fn.results.toList Q
abbrev T3 := Nat → Nat → Nat → Nat → Nat → Nat → Int → Zaa → Prop
def E3 (R3 : T3) (env : Env) (h : Zaa) : Prop := Zbs 2 env fun v env => Zii (some v) fun a => Zbl a fun i2 o2 => Zbs 3 env fun v env => Zii (some v) fun a => Zbl a fun i3 o3 => Zbs 5 env fun v env => Zii (some v) fun a => Zbl a fun i5 o5 => Zbs 10 env fun v env => Zee .i64 v fun x10 => Zje env (R3 i2 o2 i3 o3 i5 o5 x10 h)
theorem Zdw {R3 : T3} {env : Env} {h : Zaa} (hi : E3 R3 env h) : ∃ i2, ∃ o2, ∃ i3, ∃ o3, ∃ i5, ∃ o5, ∃ x10, env = [(2, .ptr (some (i2, o2))), (3, .ptr (some (i3, o3))), (5, .ptr (some (i5, o5))), (10, .int .i64 x10)] ∧ R3 i2 o2 i3 o3 i5 o5 x10 h := by
 unfold E3 at hi
 have hi0 := hi
 clear hi
 obtain ⟨_, _, rfl, hi1⟩ := Zab hi0
 obtain ⟨a, rfl, hi2⟩ := Zbw hi1
 obtain ⟨i2, o2, rfl, hi3⟩ := Zbp hi2
 obtain ⟨_, _, rfl, hi4⟩ := Zab hi3
 obtain ⟨a, rfl, hi5⟩ := Zbw hi4
 obtain ⟨i3, o3, rfl, hi6⟩ := Zbp hi5
 obtain ⟨_, _, rfl, hi7⟩ := Zab hi6
 obtain ⟨a, rfl, hi8⟩ := Zbw hi7
 obtain ⟨i5, o5, rfl, hi9⟩ := Zbp hi8
 obtain ⟨_, _, rfl, hi10⟩ := Zab hi9
 obtain ⟨x10, rfl, hi11⟩ := Zao hi10
 obtain ⟨rfl, hi12⟩ := Zbg hi11
 have hi := hi12
 exact ⟨i2, o2, i3, o3, i5, o5, x10, rfl, hi⟩
def K0 (Q : QT) : KT := andThen (fun env' h' => (match kp.find 4000008 with | some ks => Den pg fn.ntmps (C [1, 1, 1]) (env'.keep ks) h' (KR Q) | none => den pg fn.ntmps kp (C [1, 1, 1]) env' h' (KR Q))) (KR Q)
def K1 (Q : QT) : KT := Zck 0 (K0 Q)
def K2 (Q : QT) : KT := left kp 3 (K1 Q)
def K3 (Q : QT) (R3 : T3) : KT := rnd ((kp.find 1000003).getD []) (E3 R3) (K2 Q)
def L3 (Q : QT) (i2 o2 i3 o3 i5 o5 : Nat) (x10 : Int) (h : Zaa) : Prop := Zec (Den pg fn.ntmps (C [1, 1, 0, 1, 0, 0])) ((kp.find 1000003).getD []) (K2 Q) [(2, .ptr (some (i2, o2))), (3, .ptr (some (i3, o3))), (5, .ptr (some (i5, o5))), (10, .int .i64 x10)] h
def J7 (Q : QT) (R3 : T3) (x10 : Int) (i2 o2 i3 o3 i5 o5 : Nat) (h : Zaa) : Prop := Den pg fn.ntmps (C [1, 1, 0, 1, 0, 0, 1, 1, 1]) [(10, .int .i64 x10), (2, .ptr (some (i2, o2))), (3, .ptr (some (i3, o3))), (5, .ptr (some (i5, o5)))] h (K3 Q R3)
def Znf (Q : QT) (h : Zaa) : Prop := At (K1 Q) (.exit 0) [(4, .undef)] h
def L3t (Q : QT) (R3 : T3) (i2 o2 i3 o3 i5 o5 : Nat) (x10 : Int) (h : Zaa) : Prop :=
 bcase (decide ((x10 : Int) < 7)) (Zdh (Zbv h (.ptr (some (i2, o2))) 2) fun K16 => Zap K16 fun C17 Z18 => xSl (some C17) fun A19 N20 C21 E22 => Zap Z18 fun C23 Z24 => xSl (some C23) fun A25 N26 C27 E28 => Zcr Z24 (Zdh (Zbv h (.ptr (some (i3, o3))) 2) fun K29 => Zap K29 fun C30 Z31 => Zbo (some C30) fun S32 => Zap Z31 fun C33 Z34 => Zbo (some C33) fun S35 => Zcr Z34 (Zae pg Zlq [.agg [.slice A19 N20 C21 E22, .slice A25 N26 C27 E28], .agg [.str S32, .str S35]] h fun V36 H37 =>
 Zci (some V36) fun B38 => bcase B38 (Zdh (Zbv H37 (.ptr (some (i3, o3))) 2) fun K39 => Zap K39 fun C40 Z41 => Zbo (some C40) fun S42 => Zap Z41 fun C43 Z44 => Zbo (some C43) fun S45 => Zcr Z44 (Zae pg Zhg [.ptr (some (i5, o5)), .agg [.str S42, .str S45], .int .i64 x10] H37 fun V46 H47 =>
 Zci (some V46) fun B48 => bcase B48 (Q (.int .i64 x10) H47) (J7 Q R3 x10 i2 o2 i3 o3 i5 o5 H47))) (J7 Q R3 x10 i2 o2 i3 o3 i5 o5 H37)))) (Znf Q h)
theorem Zkh (Q : QT) (R3 : T3) (i2 o2 i3 o3 i5 o5 : Nat) (x10 : Int) (h : Zaa) (ht : L3t Q R3 i2 o2 i3 o3 i5 o5 x10 h) : Den pg fn.ntmps (C [1, 1, 0, 1, 0, 0]) [(2, .ptr (some (i2, o2))), (3, .ptr (some (i3, o3))), (5, .ptr (some (i5, o5))), (10, .int .i64 x10)] h (K3 Q R3) :=
 Zba (kp := kp) (cast (by kernel_rfl) ht)
theorem L3ind (Q : QT) (i2 o2 i3 o3 i5 o5 : Nat) {G : Type} (J : G → Int → Zaa → Prop) (m : G → Nat)
 (hr : ∀ (g : G) (x10 : Int) (h : Zaa), J g x10 h → ∀ (R3 : T3), (∀ g' (x10 : Int) (h : Zaa), m g' < m g → J g' x10 h → R3 i2 o2 i3 o3 i5 o5 x10 h) → L3t Q R3 i2 o2 i3 o3 i5 o5 x10 h)
 (g : G) (x10 : Int) (h : Zaa) (hj : J g x10 h) : L3 Q i2 o2 i3 o3 i5 o5 x10 h := by
 refine Zec.inv2 (fun g => E3 fun i2' o2' i3' o3' i5' o5' x10 h => i2 = i2' ∧ o2 = o2' ∧ i3 = i3' ∧ o3 = o3' ∧ i5 = i5' ∧ o5 = o5' ∧ J g x10 h) (fun g => E3 fun i2' o2' i3' o3' i5' o5' x10 h => i2 = i2' ∧ o2 = o2' ∧ i3 = i3' ∧ o3 = o3' ∧ i5 = i5' ∧ o5 = o5' ∧ ∃ g', m g' < m g ∧ J g' x10 h) m ?_ ?_ g ⟨rfl, rfl, rfl, rfl, rfl, rfl, hj⟩
 ·intro g env h hi
  obtain ⟨i2', o2', i3', o3', i5', o5', x10, rfl, rfl, rfl, rfl, rfl, rfl, rfl, hj⟩ := Zdw hi
  exact Zkh Q _ i2 o2 i3 o3 i5 o5 x10 h (hr g x10 h hj (fun i2' o2' i3' o3' i5' o5' x10 h => i2 = i2' ∧ o2 = o2' ∧ i3 = i3' ∧ o3 = o3' ∧ i5 = i5' ∧ o5 = o5' ∧ ∃ g', m g' < m g ∧ J g' x10 h) fun g' x10 h hlt hj => ⟨rfl, rfl, rfl, rfl, rfl, rfl, g', hlt, hj⟩)
 ·intro g env h hi
  obtain ⟨i2', o2', i3', o3', i5', o5', x10, rfl, rfl, rfl, rfl, rfl, rfl, rfl, g', hlt, hj⟩ := Zdw hi
  exact ⟨g', hlt, rfl, rfl, rfl, rfl, rfl, rfl, hj⟩
theorem J7i (Q : QT) (R3 : T3) (x10 : Int) (i2 o2 i3 o3 i5 o5 : Nat) (h : Zaa) (ht :
 R3 i2 o2 i3 o3 i5 o5 (IntKind.wrap .i64 (x10 + 1)) h) : J7 Q R3 x10 i2 o2 i3 o3 i5 o5 h :=
 Zba (kp := kp) (cast (by kernel_rfl) ht)
theorem A3x0i (Q : QT) (h : Zaa) (ht :
 Q (.int .i64 (-1)) h) : Znf Q h :=
 At.mk (cast (by kernel_rfl) ht)
theorem call (a0x0 : Pt) (n0x0 c0x0 : Nat) (e0x0 : Bool) (a0x1 : Pt) (n0x1 c0x1 : Nat) (e0x1 : Bool) (x1x0 x1x1 : List Nat) (h : Zaa) (Q : QT) (ht :
 Zdc (h ++ [.cells Zaf [.slice a0x0 n0x0 c0x0 e0x0, .slice a0x1 n0x1 c0x1 e0x1] false]) fun H0 => Zdc (H0 ++ [.cells Zaj [.str x1x0, .str x1x1] false]) fun H1 => Zdh (Zbv H1 (.ptr (some (h.length, 0))) 2) fun K2 => Zap K2 fun C3 Z4 => xSl (some C3) fun A5 N6 C7 E8 => Zap Z4 fun C9 Z10 => xSl (some C9) fun A11 N12 C13 E14 => Zcr Z10 (Zdc (H1 ++ [.cells Zcg [.slice A5 N6 C7 E8, .slice A11 N12 C13 E14, .slice none 0 0 true, .slice none 0 0 true, .slice none 0 0 true] false]) fun H15 => L3 Q h.length 0 H0.length 0 H1.length 0 0 H15)) : Zae pg Znt [.agg [.slice a0x0 n0x0 c0x0 e0x0, .slice a0x1 n0x1 c0x1 e0x1], .agg [.str x1x0, .str x1x1]] h Q :=
 Zae.of_body kp (c := cod fn) (fn := fn) Go.Proofs.Tryz.func10 (by kernel_rfl) (by kernel_rfl) (Nat.le_of_ble_eq_true (by kernel_rfl))
  (cast (by kernel_rfl) ht)
end Zfz
end Go.Sim

set_option maxRecDepth 100000
set_option linter.unusedVariables false
namespace Go.Sim
open Go Go.RowKit
namespace Zup
noncomputable abbrev fn : Func := Go.Proofs.Tryz.f51
def kp : Zbz := [(2000001, [4])]
noncomputable def C (p : List Nat) : Code := (cod fn).sub p
def KR (Q : QT) : KT := Zes pg fn.results.toList Q
theorem call (x0x0 x0x1 : List Nat) (x1 : Int) (h : Zaa) (Q : QT) (ht :
 Zdc (h ++ [.cells Zaj [.str x0x0, .str x0x1] false]) fun H0 => Zdh (Zbv H0 (.ptr (some (h.length, 0))) 2) fun K1 => Zap K1 fun C2 Z3 => Zbo (some C2) fun S4 => Zap Z3 fun C5 Z6 => Zbo (some C5) fun S7 => Zcr Z6 (Zae pg Zka [.int .i64 x1] H0 fun V8 H9 =>
 Zbo (some V8) fun S10 => (Zbv H9 (.ptr (some (h.length, 0))) 2 = Zbv H0 (.ptr (some (h.length, 0))) 2) ∧ Zae pg Zku [.agg [.str S4, .str S7]] H9 fun V11 H12 =>
 Zbo (some V11) fun S13 => List.length S10 + List.length S13 ≤ 9223372036854775807 ∧ (Q (.str (S10 ++ S13)) H12))) : Zae pg Zqe [.agg [.str x0x0, .str x0x1], .int .i64 x1] h Q :=
 Zae.of_body kp (c := cod fn) (fn := fn) Go.Proofs.Tryz.func51 (by kernel_rfl) (by kernel_rfl) (Nat.le_of_ble_eq_true (by kernel_rfl))
  (cast (by kernel_rfl) ht)
end Zup
namespace Zgd
noncomputable abbrev fn : Func := Go.Proofs.Tryz.f52
def kp : Zbz := [(3000002, [4]), (1000002, [1, 10, 11, 12])]
noncomputable def C (p : List Nat) : Code := (cod fn).sub p
def KR (Q : QT) : KT := Zes pg fn.results.toList Q
abbrev T2 := List Nat → Pt → Nat → Nat → Bool → Int → Int → Zaa → Prop
def E2 (R2 : T2) (env : Env) (h : Zaa) : Prop := Zbs 1 env fun v env => Zbo (some v) fun x1 => Zbs 10 env fun v env => xSl (some v) fun a10 n10 c10 e10 => Zbs 11 env fun v env => Zee .i64 v fun x11 => Zbs 12 env fun v env => Zee .i64 v fun x12 => Zje env (R2 x1 a10 n10 c10 e10 x11 x12 h)
theorem Zdg {R2 : T2} {env : Env} {h : Zaa} (hi : E2 R2 env h) : ∃ x1, ∃ a10, ∃ n10, ∃ c10, ∃ e10, ∃ x11, ∃ x12, env = [(1, .str x1), (10, .slice a10 n10 c10 e10), (11, .int .i64 x11), (12, .int .i64 x12)] ∧ R2 x1 a10 n10 c10 e10 x11 x12 h := by
 unfold E2 at hi
 have hi0 := hi
 clear hi
 obtain ⟨_, _, rfl, hi1⟩ := Zab hi0
 obtain ⟨x1, rfl, hi2⟩ := Zel hi1
 obtain ⟨_, _, rfl, hi3⟩ := Zab hi2
 obtain ⟨a10, n10, c10, e10, rfl, hi4⟩ := Zbf hi3
 obtain ⟨_, _, rfl, hi5⟩ := Zab hi4
 obtain ⟨x11, rfl, hi6⟩ := Zao hi5
 obtain ⟨_, _, rfl, hi7⟩ := Zab hi6
 obtain ⟨x12, rfl, hi8⟩ := Zao hi7
 obtain ⟨rfl, hi9⟩ := Zbg hi8
 have hi := hi9
 exact ⟨x1, a10, n10, c10, e10, x11, x12, rfl, hi⟩
def K0 (Q : QT) : KT := andThen (fun env' h' => (match kp.find 4000007 with | some ks => Den pg fn.ntmps (C [1, 1]) (env'.keep ks) h' (KR Q) | none => den pg fn.ntmps kp (C [1, 1]) env' h' (KR Q))) (KR Q)
def K1 (Q : QT) : KT := Zck 0 (K0 Q)
def K2 (Q : QT) : KT := left kp 2 (K1 Q)
def K3 (Q : QT) (R2 : T2) : KT := rnd ((kp.find 1000002).getD []) (E2 R2) (K2 Q)
def L2 (Q : QT) (x1 : List Nat) (a10 : Pt) (n10 c10 : Nat) (e10 : Bool) (x11 x12 : Int) (h : Zaa) : Prop := Zec (Den pg fn.ntmps (C [1, 0, 1, 0, 0])) ((kp.find 1000002).getD []) (K2 Q) [(1, .str x1), (10, .slice a10 n10 c10 e10), (11, .int .i64 x11), (12, .int .i64 x12)] h
def Zlg (Q : QT) (h : Zaa) : Prop := At (K1 Q) (.exit 0) [(4, .undef)] h
def L2t (Q : QT) (R2 : T2) (x1 : List Nat) (a10 : Pt) (n10 c10 : Nat) (e10 : Bool) (x11 x12 : Int) (h : Zaa) : Prop :=
 bcase (decide ((x12 : Int) < x11)) ((0 ≤ (x12 : Int) ∧ (x12 : Int) < (n10 : Nat)) ∧ (Zbl a10 fun I6 O7 => Zbo (Zak h (.ptr (some (I6, O7 + (Int.toNat x12) * 1)))) fun S8 => bcase (decide (S8 = x1)) (Q (.int .i64 x12) h) (R2 x1 a10 n10 c10 e10 x11 (IntKind.wrap .i64 (x12 + 1)) h))) (Zlg Q h)
theorem Zhn (Q : QT) (R2 : T2) (x1 : List Nat) (a10 : Pt) (n10 c10 : Nat) (e10 : Bool) (x11 x12 : Int) (h : Zaa) (ht : L2t Q R2 x1 a10 n10 c10 e10 x11 x12 h) : Den pg fn.ntmps (C [1, 0, 1, 0, 0]) [(1, .str x1), (10, .slice a10 n10 c10 e10), (11, .int .i64 x11), (12, .int .i64 x12)] h (K3 Q R2) :=
 Zba (kp := kp) (cast (by kernel_rfl) ht)
theorem L2ind (Q : QT) (x1 : List Nat) (a10 : Pt) (n10 c10 : Nat) (e10 : Bool) (x11 : Int) {G : Type} (J : G → Int → Zaa → Prop) (m : G → Nat)
 (hr : ∀ (g : G) (x12 : Int) (h : Zaa), J g x12 h → ∀ (R2 : T2), (∀ g' (x12 : Int) (h : Zaa), m g' < m g → J g' x12 h → R2 x1 a10 n10 c10 e10 x11 x12 h) → L2t Q R2 x1 a10 n10 c10 e10 x11 x12 h)
 (g : G) (x12 : Int) (h : Zaa) (hj : J g x12 h) : L2 Q x1 a10 n10 c10 e10 x11 x12 h := by
 refine Zec.inv2 (fun g => E2 fun x1' a10' n10' c10' e10' x11' x12 h => x1 = x1' ∧ a10 = a10' ∧ n10 = n10' ∧ c10 = c10' ∧ e10 = e10' ∧ x11 = x11' ∧ J g x12 h) (fun g => E2 fun x1' a10' n10' c10' e10' x11' x12 h => x1 = x1' ∧ a10 = a10' ∧ n10 = n10' ∧ c10 = c10' ∧ e10 = e10' ∧ x11 = x11' ∧ ∃ g', m g' < m g ∧ J g' x12 h) m ?_ ?_ g ⟨rfl, rfl, rfl, rfl, rfl, rfl, hj⟩
 ·intro g env h hi
  obtain ⟨x1', a10', n10', c10', e10', x11', x12, rfl, rfl, rfl, rfl, rfl, rfl, rfl, hj⟩ := Zdg hi
  exact Zhn Q _ x1 a10 n10 c10 e10 x11 x12 h (hr g x12 h hj (fun x1' a10' n10' c10' e10' x11' x12 h => x1 = x1' ∧ a10 = a10' ∧ n10 = n10' ∧ c10 = c10' ∧ e10 = e10' ∧ x11 = x11' ∧ ∃ g', m g' < m g ∧ J g' x12 h) fun g' x12 h hlt hj => ⟨rfl, rfl, rfl, rfl, rfl, rfl, g', hlt, hj⟩)
 ·intro g env h hi
  obtain ⟨x1', a10', n10', c10', e10', x11', x12, rfl, rfl, rfl, rfl, rfl, rfl, rfl, g', hlt, hj⟩ := Zdg hi
  exact ⟨g', hlt, rfl, rfl, rfl, rfl, rfl, rfl, hj⟩
theorem A2x0i (Q : QT) (h : Zaa) (ht :
 Q (.int .i64 (-1)) h) : Zlg Q h :=
 At.mk (cast (by kernel_rfl) ht)
theorem call (a0 : Pt) (x1 : List Nat) (h : Zaa) (Q : QT) (ht :
 Zbl a0 fun I0 O1 => xSl (Zak h (.ptr (some (I0, O1 + 2)))) fun A2 N3 C4 E5 => L2 Q x1 A2 N3 C4 E5 (((N3 : Nat) : Int)) 0 h) : Zae pg Zla [.ptr a0, .str x1] h Q :=
 Zae.of_body kp (c := cod fn) (fn := fn) Go.Proofs.Tryz.func52 (by kernel_rfl) (by kernel_rfl) (Nat.le_of_ble_eq_true (by kernel_rfl))
  (cast (by kernel_rfl) ht)
end Zgd
namespace Zmy
noncomputable abbrev fn : Func := Go.Proofs.Tryz.f54
def kp : Zbz := []
noncomputable def C (p : List Nat) : Code := (cod fn).sub p
def KR (Q : QT) : KT := Zes pg fn.results.toList Q
theorem call (a0 : Pt) (x1 : List Nat) (a2 : Pt) (n2 c2 : Nat) (e2 x3 : Bool) (h : Zaa) (Q : QT) (ht :
 Zbl a0 fun I0 O1 => xSl (Zak h (.ptr (some (I0, O1 + 2)))) fun A2 N3 C4 E5 => Zdc (h ++ [.cells Zcm [.str x1] false]) fun H6 => Zdd pg Zfd H6 (.slice A2 N3 C4 E5) (.slice (some (h.length, 0)) 1 1 true) fun V7 H8 => xSl (some V7) fun A9 N10 C11 E12 => Zbl a0 fun I13 O14 => Zcp (Zbk H8 (.ptr (some (I13, O14 + 2))) [.slice A9 N10 C11 E12]) fun H15 => Zbl a0 fun I16 O17 => xSl (Zak H15 (.ptr (some (I16, O17 + 3)))) fun A18 N19 C20 E21 => Zdc (H15 ++ [.cells Zfd [.slice a2 n2 c2 e2] false]) fun H22 => Zdd pg Zur H22 (.slice A18 N19 C20 E21) (.slice (some (H15.length, 0)) 1 1 true) fun V23 H24 => xSl (some V23) fun A25 N26 C27 E28 => Zbl a0 fun I29 O30 => Zcp (Zbk H24 (.ptr (some (I29, O30 + 3))) [.slice A25 N26 C27 E28]) fun H31 => Zbl a0 fun I32 O33 => xSl (Zak H31 (.ptr (some (I32, O33 + 4)))) fun A34 N35 C36 E37 => Zdc (H31 ++ [.cells Zvq [.bool x3] false]) fun H38 => Zdd pg Ygh H38 (.slice A34 N35 C36 E37) (.slice (some (H31.length, 0)) 1 1 true) fun V39 H40 => xSl (some V39) fun A41 N42 C43 E44 => Zbl a0 fun I45 O46 => Zcp (Zbk H40 (.ptr (some (I45, O46 + 4))) [.slice A41 N42 C43 E44]) fun H47 => Q (.tup []) H47) : Zae pg Zjr [.ptr a0, .str x1, .slice a2 n2 c2 e2, .bool x3] h Q :=
 Zae.of_body kp (c := cod fn) (fn := fn) Go.Proofs.Tryz.func54 (by kernel_rfl) (by kernel_rfl) (Nat.le_of_ble_eq_true (by kernel_rfl))
  (cast (by kernel_rfl) ht)
end Zmy
end Go.Sim

set_option maxRecDepth 100000
set_option linter.unusedVariables false
namespace Go.Sim
open Go Go.RowKit
end Go.Sim
