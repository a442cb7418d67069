/- A part of the proof of a statement of this seat: see the text that holds the theorem. No condition. -/
import Derived.Test.YtlljbdepamknoaaGreatDoorNm
set_option linter.unusedVariables false
set_option linter.unusedSimpArgs false
set_option linter.all false
set_option maxRecDepth 100000
set_option linter.unusedVariables false
namespace Go.Sim
open Go Go.RowKit
namespace Zuc
noncomputable abbrev fn : Func := Go.Proofs.Tryz.f58
def kp : Zcd := []
noncomputable def C (p : List Nat) : Code := (cod fn).sub p
def KR (Q : QT) : KT := Zem pg fn.results.toList Q
theorem call (a0x0 : Pt) (n0x0 c0x0 : Nat) (e0x0 : Bool) (a0x1 : Pt) (n0x1 c0x1 : Nat) (e0x1 : Bool) (h : Zaa) (Q : QT) (ht :
 Zcn (h ++ [.cells Zaj [.slice a0x0 n0x0 c0x0 e0x0, .slice a0x1 n0x1 c0x1 e0x1] false]) fun H0 => Zcz (Zbx H0 (.ptr (some (h.length, 0))) 2) fun K1 => Zao K1 fun C2 Z3 => xSl (some C2) fun A4 N5 C6 E7 => Zao Z3 fun C8 Z9 => xSl (some C8) fun A10 N11 C12 E13 => Zcl Z9 (Zcn (H0 ++ [.map [] 0]) fun H14 => Zcn (H14 ++ [.map [] 0]) fun H15 => Zcn (H15 ++ [.cells Zld [.slice A4 N5 C6 E7, .slice A10 N11 C12 E13, .map ((some H0.length)), .map ((some H14.length)), .bool true] false]) fun H16 => Q (.ptr (some (H15.length, 0))) H16)) : Zae pg Ztz [.agg [.slice a0x0 n0x0 c0x0 e0x0, .slice a0x1 n0x1 c0x1 e0x1]] h Q :=
 Zae.of_body kp (c := cod fn) (fn := fn) Go.Proofs.Tryz.func58 (by kernel_rfl) (by kernel_rfl) (Nat.le_of_ble_eq_true (by kernel_rfl))
  (cast (by kernel_rfl) ht)
end Zuc
end Go.Sim

set_option maxRecDepth 100000
set_option linter.unusedVariables false
namespace Go.Sim
open Go Go.RowKit
namespace Zyj
noncomputable abbrev fn : Func := Go.Proofs.Tryz.f90
def kp : Zcd := []
noncomputable def C (p : List Nat) : Code := (cod fn).sub p
def KR (Q : QT) : KT := Zem pg fn.results.toList Q
theorem call (x0x0 x0x1 : List Nat) (x1 : Int) (h : Zaa) (Q : QT) (ht :
 Zcn (h ++ [.cells Zad [.str x0x0, .str x0x1] false]) fun H0 => Zcz (Zbx H0 (.ptr (some (h.length, 0))) 2) fun K1 => Zao K1 fun C2 Z3 => Zbp (some C2) fun S4 => Zao Z3 fun C5 Z6 => Zbp (some C5) fun S7 => Zcl Z6 (Zae pg Zjl [.agg [.str S4, .str S7]] H0 fun V8 H9 =>
 Zbp (some V8) fun S10 => List.length S10 + List.length [32] ≤ 9223372036854775807 ∧ (Zae pg Zmu [.int .i64 x1] H9 fun V11 H12 =>
 Zbp (some V11) fun S13 => List.length (S10 ++ [32]) + List.length S13 ≤ 9223372036854775807 ∧ (Q (.str ((S10 ++ [32]) ++ S13)) H12)))) : Zae pg Zqa [.agg [.str x0x0, .str x0x1], .int .i64 x1] h Q :=
 Zae.of_body kp (c := cod fn) (fn := fn) Go.Proofs.Tryz.func90 (by kernel_rfl) (by kernel_rfl) (Nat.le_of_ble_eq_true (by kernel_rfl))
  (cast (by kernel_rfl) ht)
end Zyj
end Go.Sim

set_option maxRecDepth 100000
set_option linter.unusedVariables false
namespace Go.Sim
open Go Go.RowKit
namespace Zee
noncomputable abbrev fn : Func := Go.Proofs.Tryz.f120
def kp : Zcd := [(4000004, [0, 6]), (3000006, [8, 6]), (1000006, [6, 8, 26, 27, 28]), (2000008, [28, 27, 26, 8, 6])]
noncomputable def C (p : List Nat) : Code := (cod fn).sub p
def KR (Q : QT) : KT := Zem pg fn.results.toList Q
abbrev T6 := Nat → Nat → Nat → Nat → Pt → Nat → Nat → Bool → Int → Int → Zaa → Prop
def E6 (R6 : T6) (env : Env) (h : Zaa) : Prop := Zbj 6 env fun v env => Zgg (some v) fun a => Zbl a fun i6 o6 => Zbj 8 env fun v env => Zgg (some v) fun a => Zbl a fun i8 o8 => Zbj 26 env fun v env => xSl (some v) fun a26 n26 c26 e26 => Zbj 27 env fun v env => Zda .i64 v fun x27 => Zbj 28 env fun v env => Zda .i64 v fun x28 => Ziw env (R6 i6 o6 i8 o8 a26 n26 c26 e26 x27 x28 h)
theorem Zke {R6 : T6} {env : Env} {h : Zaa} (hi : E6 R6 env h) : ∃ i6, ∃ o6, ∃ i8, ∃ o8, ∃ a26, ∃ n26, ∃ c26, ∃ e26, ∃ x27, ∃ x28, env = [(6, .ptr (some (i6, o6))), (8, .ptr (some (i8, o8))), (26, .slice a26 n26 c26 e26), (27, .int .i64 x27), (28, .int .i64 x28)] ∧ R6 i6 o6 i8 o8 a26 n26 c26 e26 x27 x28 h := by
 unfold E6 at hi
 have hi0 := hi
 clear hi
 obtain ⟨_, _, rfl, hi1⟩ := Zab hi0
 obtain ⟨a, rfl, hi2⟩ := Zbo hi1
 obtain ⟨i6, o6, rfl, hi3⟩ := Zbs hi2
 obtain ⟨_, _, rfl, hi4⟩ := Zab hi3
 obtain ⟨a, rfl, hi5⟩ := Zbo hi4
 obtain ⟨i8, o8, rfl, hi6⟩ := Zbs hi5
 obtain ⟨_, _, rfl, hi7⟩ := Zab hi6
 obtain ⟨a26, n26, c26, e26, rfl, hi8⟩ := Zax hi7
 obtain ⟨_, _, rfl, hi9⟩ := Zab hi8
 obtain ⟨x27, rfl, hi10⟩ := Zak hi9
 obtain ⟨_, _, rfl, hi11⟩ := Zab hi10
 obtain ⟨x28, rfl, hi12⟩ := Zak hi11
 obtain ⟨rfl, hi13⟩ := Zbk hi12
 have hi := hi13
 exact ⟨i6, o6, i8, o8, a26, n26, c26, e26, x27, x28, rfl, hi⟩
def K0 (Q : QT) : KT := andThen (fun env' h' => (match kp.find 4000010 with | some ks => Den pg fn.ntmps (C [1, 1, 1, 1, 1]) (env'.keep ks) h' (KR Q) | none => den pg fn.ntmps kp (C [1, 1, 1, 1, 1]) env' h' (KR Q))) (KR Q)
def K1 (Q : QT) : KT := Zcg 0 (K0 Q)
def K2 (Q : QT) : KT := Zgf kp 6 (K1 Q)
def K3 (Q : QT) (R6 : T6) : KT := rnd ((kp.find 1000006).getD []) (E6 R6) (K2 Q)
def J4 (Q : QT) (a0 : Pt) (n0 c0 : Nat) (e0 : Bool) (i6 o6 : Nat) (h : Zaa) : Prop := Den pg fn.ntmps (C [1, 1, 1]) [(0, .slice a0 n0 c0 e0), (6, .ptr (some (i6, o6)))] h (KR Q)
def L6 (Q : QT) (i6 o6 i8 o8 : Nat) (a26 : Pt) (n26 c26 : Nat) (e26 : Bool) (x27 x28 : Int) (h : Zaa) : Prop := Zdz (Den pg fn.ntmps (C [1, 1, 1, 1, 0, 1, 0, 0])) ((kp.find 1000006).getD []) (K2 Q) [(6, .ptr (some (i6, o6))), (8, .ptr (some (i8, o8))), (26, .slice a26 n26 c26 e26), (27, .int .i64 x27), (28, .int .i64 x28)] h
def Ybo (Q : QT) (i8 o8 i6 o6 : Nat) (h : Zaa) : Prop := At (K1 Q) (.exit 0) [(8, .ptr (some (i8, o8))), (6, .ptr (some (i6, o6)))] h
theorem J4i (Q : QT) (a0 : Pt) (n0 c0 : Nat) (e0 : Bool) (i6 o6 : Nat) (h : Zaa) (ht :
 Zcn (h ++ [.cells Zew [.int .u8 0, .slice none 0 0 true, .int .u8 0, .slice none 0 0 true, .int .u8 0, .slice none 0 0 true, .int .u8 0, .slice none 0 0 true, .int .u8 0, .slice none 0 0 true, .int .u8 0, .slice none 0 0 true, .int .u8 0, .slice none 0 0 true, .int .u8 0, .slice none 0 0 true, .int .u8 0, .slice none 0 0 true, .int .u8 0, .slice none 0 0 true, .int .u8 0, .slice none 0 0 true, .int .u8 0, .slice none 0 0 true] false]) fun H23 => L6 Q i6 o6 h.length 0 a0 n0 c0 e0 (((n0 : Nat) : Int)) 0 H23) : J4 Q a0 n0 c0 e0 i6 o6 h :=
 Zbb (kp := kp) (cast (by kernel_rfl) ht)
def L6t (Q : QT) (R6 : T6) (i6 o6 i8 o8 : Nat) (a26 : Pt) (n26 c26 : Nat) (e26 : Bool) (x27 x28 : Int) (h : Zaa) : Prop :=
 bcase (decide ((x28 : Int) < x27)) ((0 ≤ (x28 : Int) ∧ (x28 : Int) < (n26 : Nat)) ∧ (Zbl a26 fun I24 O25 => Zcz (Zbx h (.ptr (some (I24, O25 + (Int.toNat x28) * 2))) 2) fun K26 => Zao K26 fun C27 Z28 => Zbp (some C27) fun S29 => Zao Z28 fun C30 Z31 => Zbp (some C30) fun S32 => Zcl Z31 (Zcn (h ++ [.cells Zbe [.str [], .str []] false]) fun H33 => Zcp (Zbn H33 (.ptr (some (h.length, 0))) [.str S29, .str S32]) fun H34 => Zbp (Zal H34 (.ptr (some (h.length, 0 + 0)))) fun S35 => Zkp S35 0 fun B36 => Zbp (Zal H34 (.ptr (some (h.length, 0 + 1)))) fun S37 => Zae pg Zhm [.int .u8 (((B36 : Nat) : Int))] H34 fun V38 H39 =>
 Zen .i64 (some V38) fun X40 => (Zal H39 (.ptr (some (h.length, 0 + 1))) = Zal H34 (.ptr (some (h.length, 0 + 1)))) ∧ (Zal H39 (.ptr (some (h.length, 0 + 0))) = Zal H34 (.ptr (some (h.length, 0 + 0)))) ∧ Zae pg Zft [.str S37] H39 fun V41 H42 =>
 Ztq V41 fun K43 => Zao K43 fun C44 Z45 => Zue C44 fun K46 => Zao K46 fun C47 Z48 => Zen .u8 (some C47) fun X49 => Zao Z48 fun C50 Z51 => xSl (some C50) fun A52 N53 C54 E55 => Zcl Z51 (Zao Z45 fun C56 Z57 => Zch (some C56) fun B58 => Zcl Z57 ((Zal H42 (.ptr (some (h.length, 0 + 0))) = Zal H39 (.ptr (some (h.length, 0 + 0)))) ∧ (0 ≤ (X40 : Int) ∧ (X40 : Int) < (12 : Nat)) ∧ (Zcp (Zbn H42 (.ptr (some (i8, o8 + (Int.toNat X40) * 2))) [.int .u8 X49, .slice A52 N53 C54 E55]) fun H59 => R6 i6 o6 i8 o8 a26 n26 c26 e26 x27 (IntKind.wrap .i64 (x28 + 1)) H59)))))) (Ybo Q i8 o8 i6 o6 h)
theorem Zvy (Q : QT) (R6 : T6) (i6 o6 i8 o8 : Nat) (a26 : Pt) (n26 c26 : Nat) (e26 : Bool) (x27 x28 : Int) (h : Zaa) (ht : L6t Q R6 i6 o6 i8 o8 a26 n26 c26 e26 x27 x28 h) : Den pg fn.ntmps (C [1, 1, 1, 1, 0, 1, 0, 0]) [(6, .ptr (some (i6, o6))), (8, .ptr (some (i8, o8))), (26, .slice a26 n26 c26 e26), (27, .int .i64 x27), (28, .int .i64 x28)] h (K3 Q R6) :=
 Zbb (kp := kp) (cast (by kernel_rfl) ht)
theorem L6ind (Q : QT) (i6 o6 i8 o8 : Nat) (a26 : Pt) (n26 c26 : Nat) (e26 : Bool) (x27 : Int) {G : Type} (J : G → Int → Zaa → Prop) (m : G → Nat)
 (hr : ∀ (g : G) (x28 : Int) (h : Zaa), J g x28 h → ∀ (R6 : T6), (∀ g' (x28 : Int) (h : Zaa), m g' < m g → J g' x28 h → R6 i6 o6 i8 o8 a26 n26 c26 e26 x27 x28 h) → L6t Q R6 i6 o6 i8 o8 a26 n26 c26 e26 x27 x28 h)
 (g : G) (x28 : Int) (h : Zaa) (hj : J g x28 h) : L6 Q i6 o6 i8 o8 a26 n26 c26 e26 x27 x28 h := by
 refine Zdz.inv2 (fun g => E6 fun i6' o6' i8' o8' a26' n26' c26' e26' x27' x28 h => i6 = i6' ∧ o6 = o6' ∧ i8 = i8' ∧ o8 = o8' ∧ a26 = a26' ∧ n26 = n26' ∧ c26 = c26' ∧ e26 = e26' ∧ x27 = x27' ∧ J g x28 h) (fun g => E6 fun i6' o6' i8' o8' a26' n26' c26' e26' x27' x28 h => i6 = i6' ∧ o6 = o6' ∧ i8 = i8' ∧ o8 = o8' ∧ a26 = a26' ∧ n26 = n26' ∧ c26 = c26' ∧ e26 = e26' ∧ x27 = x27' ∧ ∃ g', m g' < m g ∧ J g' x28 h) m ?_ ?_ g ⟨rfl, rfl, rfl, rfl, rfl, rfl, rfl, rfl, rfl, hj⟩
 ·intro g env h hi
  obtain ⟨i6', o6', i8', o8', a26', n26', c26', e26', x27', x28, rfl, rfl, rfl, rfl, rfl, rfl, rfl, rfl, rfl, rfl, hj⟩ := Zke hi
  exact Zvy Q _ i6 o6 i8 o8 a26 n26 c26 e26 x27 x28 h (hr g x28 h hj (fun i6' o6' i8' o8' a26' n26' c26' e26' x27' x28 h => i6 = i6' ∧ o6 = o6' ∧ i8 = i8' ∧ o8 = o8' ∧ a26 = a26' ∧ n26 = n26' ∧ c26 = c26' ∧ e26 = e26' ∧ x27 = x27' ∧ ∃ g', m g' < m g ∧ J g' x28 h) fun g' x28 h hlt hj => ⟨rfl, rfl, rfl, rfl, rfl, rfl, rfl, rfl, rfl, g', hlt, hj⟩)
 ·intro g env h hi
  obtain ⟨i6', o6', i8', o8', a26', n26', c26', e26', x27', x28, rfl, rfl, rfl, rfl, rfl, rfl, rfl, rfl, rfl, rfl, g', hlt, hj⟩ := Zke hi
  exact ⟨g', hlt, rfl, rfl, rfl, rfl, rfl, rfl, rfl, rfl, rfl, hj⟩
theorem A6x0i (Q : QT) (i8 o8 i6 o6 : Nat) (h : Zaa) (ht :
 Zcz (Zbx h (.ptr (some (i6, o6))) 2) fun K60 => Zao K60 fun C61 Z62 => Zen .u8 (some C61) fun X63 => Zao Z62 fun C64 Z65 => xSl (some C64) fun A66 N67 C68 E69 => Zcl Z65 (Zae pg Zmd [.ptr (some (i8, o8)), .agg [.int .u8 X63, .slice A66 N67 C68 E69]] h fun V70 H71 =>
 Zue V70 fun K72 => Zao K72 fun C73 Z74 => Zen .u8 (some C73) fun X75 => Zao Z74 fun C76 Z77 => xSl (some C76) fun A78 N79 C80 E81 => Zcl Z77 (Zcn (H71 ++ [.cells Zac [.int .u8 0, .slice none 0 0 true] false]) fun H82 => Zcp (Zbn H82 (.ptr (some (H71.length, 0))) [.int .u8 X75, .slice A78 N79 C80 E81]) fun H83 => Zcz (Zbx H83 (.ptr (some (H71.length, 0))) 2) fun K84 => Zao K84 fun C85 Z86 => Zen .u8 (some C85) fun X87 => Zao Z86 fun C88 Z89 => xSl (some C88) fun A90 N91 C92 E93 => Zcl Z89 (Zae pg Zgn [.agg [.int .u8 X87, .slice A90 N91 C92 E93]] H83 fun V94 H95 =>
 Zen .i64 (some V94) fun X96 => bcase (decide ((X96 : Int) > 60)) (Q (.tup [.str [], .bool false]) H95) (Zcz (Zbx H95 (.ptr (some (H71.length, 0))) 2) fun K97 => Zao K97 fun C98 Z99 => Zen .u8 (some C98) fun X100 => Zao Z99 fun C101 Z102 => xSl (some C101) fun A103 N104 C105 E106 => Zcl Z102 (Zae pg Zfu [.agg [.int .u8 X100, .slice A103 N104 C105 E106]] H95 fun V107 H108 =>
 Zbp (some V107) fun S109 => Q (.tup [.str S109, .bool true]) H108)))))) : Ybo Q i8 o8 i6 o6 h :=
 At.mk (cast (by kernel_rfl) ht)
theorem call (a0 : Pt) (n0 c0 : Nat) (e0 : Bool) (x1 : List Nat) (h : Zaa) (Q : QT) (ht :
 Zae pg Zft [.str x1] h fun V0 H1 =>
 Ztq V0 fun K2 => Zao K2 fun C3 Z4 => Zue C3 fun K5 => Zao K5 fun C6 Z7 => Zen .u8 (some C6) fun X8 => Zao Z7 fun C9 Z10 => xSl (some C9) fun A11 N12 C13 E14 => Zcl Z10 (Zao Z4 fun C15 Z16 => Zch (some C15) fun B17 => Zcl Z16 (Zcn (H1 ++ [.cells Zac [.int .u8 0, .slice none 0 0 true] false]) fun H18 => Zcp (Zbn H18 (.ptr (some (H1.length, 0))) [.int .u8 X8, .slice A11 N12 C13 E14]) fun H19 => bcase (!B17) (Q (.tup [.str [], .bool false]) H19) (Zae pg Zhd [.slice a0 n0 c0 e0] H19 fun V20 H21 =>
 Zch (some V20) fun B22 => bcase (!B22) (Q (.tup [.str [], .bool false]) H21) (J4 Q a0 n0 c0 e0 H1.length 0 H21))))) : Zae pg Zhe [.slice a0 n0 c0 e0, .str x1] h Q :=
 Zae.of_body kp (c := cod fn) (fn := fn) Go.Proofs.Tryz.func120 (by kernel_rfl) (by kernel_rfl) (Nat.le_of_ble_eq_true (by kernel_rfl))
  (cast (by kernel_rfl) ht)
end Zee
namespace Zhn
noncomputable abbrev fn : Func := Go.Proofs.Tryz.f86
def kp : Zcd := [(3000006, [6, 4, 5]), (1000006, [6, 7, 26, 27, 28])]
noncomputable def C (p : List Nat) : Code := (cod fn).sub p
def KR (Q : QT) : KT := Zem pg fn.results.toList Q
abbrev T6 := Pt → Nat → Nat → Bool → Pt → Nat → Nat → Bool → Pt → Nat → Nat → Bool → Int → Int → Zaa → Prop
def E6 (R6 : T6) (env : Env) (h : Zaa) : Prop := Zbj 6 env fun v env => xSl (some v) fun a6 n6 c6 e6 => Zbj 7 env fun v env => xSl (some v) fun a7 n7 c7 e7 => Zbj 26 env fun v env => xSl (some v) fun a26 n26 c26 e26 => Zbj 27 env fun v env => Zda .i64 v fun x27 => Zbj 28 env fun v env => Zda .i64 v fun x28 => Ziw env (R6 a6 n6 c6 e6 a7 n7 c7 e7 a26 n26 c26 e26 x27 x28 h)
theorem Zke {R6 : T6} {env : Env} {h : Zaa} (hi : E6 R6 env h) : ∃ a6, ∃ n6, ∃ c6, ∃ e6, ∃ a7, ∃ n7, ∃ c7, ∃ e7, ∃ a26, ∃ n26, ∃ c26, ∃ e26, ∃ x27, ∃ x28, env = [(6, .slice a6 n6 c6 e6), (7, .slice a7 n7 c7 e7), (26, .slice a26 n26 c26 e26), (27, .int .i64 x27), (28, .int .i64 x28)] ∧ R6 a6 n6 c6 e6 a7 n7 c7 e7 a26 n26 c26 e26 x27 x28 h := by
 unfold E6 at hi
 have hi0 := hi
 clear hi
 obtain ⟨_, _, rfl, hi1⟩ := Zab hi0
 obtain ⟨a6, n6, c6, e6, rfl, hi2⟩ := Zax hi1
 obtain ⟨_, _, rfl, hi3⟩ := Zab hi2
 obtain ⟨a7, n7, c7, e7, rfl, hi4⟩ := Zax hi3
 obtain ⟨_, _, rfl, hi5⟩ := Zab hi4
 obtain ⟨a26, n26, c26, e26, rfl, hi6⟩ := Zax hi5
 obtain ⟨_, _, rfl, hi7⟩ := Zab hi6
 obtain ⟨x27, rfl, hi8⟩ := Zak hi7
 obtain ⟨_, _, rfl, hi9⟩ := Zab hi8
 obtain ⟨x28, rfl, hi10⟩ := Zak hi9
 obtain ⟨rfl, hi11⟩ := Zbk hi10
 have hi := hi11
 exact ⟨a6, n6, c6, e6, a7, n7, c7, e7, a26, n26, c26, e26, x27, x28, rfl, hi⟩
def K0 (Q : QT) : KT := andThen (fun env' h' => (match kp.find 4000013 with | some ks => Den pg fn.ntmps (C [1, 1, 1, 1, 1]) (env'.keep ks) h' (KR Q) | none => den pg fn.ntmps kp (C [1, 1, 1, 1, 1]) env' h' (KR Q))) (KR Q)
def K1 (Q : QT) : KT := Zcg 0 (K0 Q)
def K2 (Q : QT) : KT := Zgf kp 6 (K1 Q)
def K3 (Q : QT) (R6 : T6) : KT := rnd ((kp.find 1000006).getD []) (E6 R6) (K2 Q)
def L6 (Q : QT) (a6 : Pt) (n6 c6 : Nat) (e6 : Bool) (a7 : Pt) (n7 c7 : Nat) (e7 : Bool) (a26 : Pt) (n26 c26 : Nat) (e26 : Bool) (x27 x28 : Int) (h : Zaa) : Prop := Zdz (Den pg fn.ntmps (C [1, 1, 1, 1, 0, 1, 0, 0])) ((kp.find 1000006).getD []) (K2 Q) [(6, .slice a6 n6 c6 e6), (7, .slice a7 n7 c7 e7), (26, .slice a26 n26 c26 e26), (27, .int .i64 x27), (28, .int .i64 x28)] h
def Ybo (Q : QT) (a6 : Pt) (n6 c6 : Nat) (e6 : Bool) (h : Zaa) : Prop := At (K1 Q) (.exit 0) [(6, .slice a6 n6 c6 e6), (4, .undef), (5, .undef)] h
def L6t (Q : QT) (R6 : T6) (a6 : Pt) (n6 c6 : Nat) (e6 : Bool) (a7 : Pt) (n7 c7 : Nat) (e7 : Bool) (a26 : Pt) (n26 c26 : Nat) (e26 : Bool) (x27 x28 : Int) (h : Zaa) : Prop :=
 bcase (decide ((x28 : Int) < x27)) ((0 ≤ (x28 : Int) ∧ (x28 : Int) < (n26 : Nat)) ∧ (Zbl a26 fun I19 O20 => Zcz (Zbx h (.ptr (some (I19, O20 + (Int.toNat x28) * 2))) 2) fun K21 => Zao K21 fun C22 Z23 => Zbp (some C22) fun S24 => Zao Z23 fun C25 Z26 => Zbp (some C25) fun S27 => Zcl Z26 (Zcn (h ++ [.cells Zad [.str [], .str []] false]) fun H28 => Zcp (Zbn H28 (.ptr (some (h.length, 0))) [.str S24, .str S27]) fun H29 => Zbp (Zal H29 (.ptr (some (h.length, 0 + 1)))) fun S30 => Zae pg Zhe [.slice a7 n7 c7 e7, .str S30] H29 fun V31 H32 =>
 Ztq V31 fun K33 => Zao K33 fun C34 Z35 => Zbp (some C34) fun S36 => Zao Z35 fun C37 Z38 => Zch (some C37) fun B39 => Zcl Z38 (bcase (!B39) (Zcn (H32 ++ [.cells Zad [] false]) fun H40 => Q (.tup [.slice (some (H32.length, 0)) 0 0 true, .bool false]) H40) (Zbp (Zal H32 (.ptr (some (h.length, 0 + 0)))) fun S41 => Zcn (H32 ++ [.cells Zad [.str S41, .str S36] false]) fun H42 => Zdc pg Zir H42 (.slice a6 n6 c6 e6) (.slice (some (H32.length, 0)) 1 1 true) fun V43 H44 => xSl (some V43) fun A45 N46 C47 E48 => R6 A45 N46 C47 E48 a7 n7 c7 e7 a26 n26 c26 e26 x27 (IntKind.wrap .i64 (x28 + 1)) H44))))) (Ybo Q a6 n6 c6 e6 h)
theorem Zvy (Q : QT) (R6 : T6) (a6 : Pt) (n6 c6 : Nat) (e6 : Bool) (a7 : Pt) (n7 c7 : Nat) (e7 : Bool) (a26 : Pt) (n26 c26 : Nat) (e26 : Bool) (x27 x28 : Int) (h : Zaa) (ht : L6t Q R6 a6 n6 c6 e6 a7 n7 c7 e7 a26 n26 c26 e26 x27 x28 h) : Den pg fn.ntmps (C [1, 1, 1, 1, 0, 1, 0, 0]) [(6, .slice a6 n6 c6 e6), (7, .slice a7 n7 c7 e7), (26, .slice a26 n26 c26 e26), (27, .int .i64 x27), (28, .int .i64 x28)] h (K3 Q R6) :=
 Zbb (kp := kp) (cast (by kernel_rfl) ht)
theorem L6ind (Q : QT) (a7 : Pt) (n7 c7 : Nat) (e7 : Bool) (a26 : Pt) (n26 c26 : Nat) (e26 : Bool) (x27 : Int) {G : Type} (J : G → Pt → Nat → Nat → Bool → Int → Zaa → Prop) (m : G → Nat)
 (hr : ∀ (g : G) (a6 : Pt) (n6 c6 : Nat) (e6 : Bool) (x28 : Int) (h : Zaa), J g a6 n6 c6 e6 x28 h → ∀ (R6 : T6), (∀ g' (a6 : Pt) (n6 c6 : Nat) (e6 : Bool) (x28 : Int) (h : Zaa), m g' < m g → J g' a6 n6 c6 e6 x28 h → R6 a6 n6 c6 e6 a7 n7 c7 e7 a26 n26 c26 e26 x27 x28 h) → L6t Q R6 a6 n6 c6 e6 a7 n7 c7 e7 a26 n26 c26 e26 x27 x28 h)
 (g : G) (a6 : Pt) (n6 c6 : Nat) (e6 : Bool) (x28 : Int) (h : Zaa) (hj : J g a6 n6 c6 e6 x28 h) : L6 Q a6 n6 c6 e6 a7 n7 c7 e7 a26 n26 c26 e26 x27 x28 h := by
 refine Zdz.inv2 (fun g => E6 fun a6 n6 c6 e6 a7' n7' c7' e7' a26' n26' c26' e26' x27' x28 h => a7 = a7' ∧ n7 = n7' ∧ c7 = c7' ∧ e7 = e7' ∧ a26 = a26' ∧ n26 = n26' ∧ c26 = c26' ∧ e26 = e26' ∧ x27 = x27' ∧ J g a6 n6 c6 e6 x28 h) (fun g => E6 fun a6 n6 c6 e6 a7' n7' c7' e7' a26' n26' c26' e26' x27' x28 h => a7 = a7' ∧ n7 = n7' ∧ c7 = c7' ∧ e7 = e7' ∧ a26 = a26' ∧ n26 = n26' ∧ c26 = c26' ∧ e26 = e26' ∧ x27 = x27' ∧ ∃ g', m g' < m g ∧ J g' a6 n6 c6 e6 x28 h) m ?_ ?_ g ⟨rfl, rfl, rfl, rfl, rfl, rfl, rfl, rfl, rfl, hj⟩
 ·intro g env h hi
  obtain ⟨a6, n6, c6, e6, a7', n7', c7', e7', a26', n26', c26', e26', x27', x28, rfl, rfl, rfl, rfl, rfl, rfl, rfl, rfl, rfl, rfl, hj⟩ := Zke hi
  exact Zvy Q _ a6 n6 c6 e6 a7 n7 c7 e7 a26 n26 c26 e26 x27 x28 h (hr g a6 n6 c6 e6 x28 h hj (fun a6 n6 c6 e6 a7' n7' c7' e7' a26' n26' c26' e26' x27' x28 h => a7 = a7' ∧ n7 = n7' ∧ c7 = c7' ∧ e7 = e7' ∧ a26 = a26' ∧ n26 = n26' ∧ c26 = c26' ∧ e26 = e26' ∧ x27 = x27' ∧ ∃ g', m g' < m g ∧ J g' a6 n6 c6 e6 x28 h) fun g' a6 n6 c6 e6 x28 h hlt hj => ⟨rfl, rfl, rfl, rfl, rfl, rfl, rfl, rfl, rfl, g', hlt, hj⟩)
 ·intro g env h hi
  obtain ⟨a6, n6, c6, e6, a7', n7', c7', e7', a26', n26', c26', e26', x27', x28, rfl, rfl, rfl, rfl, rfl, rfl, rfl, rfl, rfl, rfl, g', hlt, hj⟩ := Zke hi
  exact ⟨g', hlt, rfl, rfl, rfl, rfl, rfl, rfl, rfl, rfl, rfl, hj⟩
theorem A6x0i (Q : QT) (a6 : Pt) (n6 c6 : Nat) (e6 : Bool) (h : Zaa) (ht :
 Q (.tup [.slice a6 n6 c6 e6, .bool true]) h) : Ybo Q a6 n6 c6 e6 h :=
 At.mk (cast (by kernel_rfl) ht)
theorem call (x0x0 x0x1 : List Nat) (a0x2 : Pt) (n0x2 c0x2 : Nat) (e0x2 : Bool) (x1 : List Nat) (h : Zaa) (Q : QT) (ht :
 Zcn (h ++ [.cells Zai [.str x0x0, .str x0x1, .slice a0x2 n0x2 c0x2 e0x2] false]) fun H0 => Zcn (H0 ++ [.cells Zad [] false]) fun H1 => Zbp (Zal H1 (.ptr (some (h.length, 0 + 0 + 1)))) fun S2 => Zae pg Zhu [.str S2, .str x1] H1 fun V3 H4 =>
 Ztq V3 fun K5 => Zao K5 fun C6 Z7 => xSl (some C6) fun A8 N9 C10 E11 => Zao Z7 fun C12 Z13 => Zch (some C12) fun B14 => Zcl Z13 (bcase (!B14) (Q (.tup [.slice (some (H0.length, 0)) 0 0 true, .bool false]) H4) (xSl (Zal H4 (.ptr (some (h.length, 0 + 2)))) fun A15 N16 C17 E18 => L6 Q (some (H0.length, 0)) 0 0 true A8 N9 C10 E11 A15 N16 C17 E18 (((N16 : Nat) : Int)) 0 H4))) : Zae pg Zmr [.agg [.str x0x0, .str x0x1, .slice a0x2 n0x2 c0x2 e0x2], .str x1] h Q :=
 Zae.of_body kp (c := cod fn) (fn := fn) Go.Proofs.Tryz.func86 (by kernel_rfl) (by kernel_rfl) (Nat.le_of_ble_eq_true (by kernel_rfl))
  (cast (by kernel_rfl) ht)
end Zhn
end Go.Sim

set_option maxRecDepth 100000
set_option linter.unusedVariables false
namespace Go.Sim
open Go Go.RowKit
namespace Zdm
noncomputable abbrev fn : Func := Go.Proofs.Tryz.f144
def kp : Zcd := [(3000002, [2]), (1000002, [0, 5, 6, 7]), (2000004, [43, 7, 6, 5, 0]), (4000006, [7, 6, 5, 0])]
noncomputable def C (p : List Nat) : Code := (cod fn).sub p
def KR (Q : QT) : KT := Zem pg fn.results.toList Q
abbrev T2 := Pt → Nat → Nat → Bool → Pt → Nat → Nat → Bool → Int → Int → Zaa → Prop
def E2 (R2 : T2) (env : Env) (h : Zaa) : Prop := Zbj 0 env fun v env => xSl (some v) fun a0 n0 c0 e0 => Zbj 5 env fun v env => xSl (some v) fun a5 n5 c5 e5 => Zbj 6 env fun v env => Zda .i64 v fun x6 => Zbj 7 env fun v env => Zda .i64 v fun x7 => Ziw env (R2 a0 n0 c0 e0 a5 n5 c5 e5 x6 x7 h)
theorem Zex {R2 : T2} {env : Env} {h : Zaa} (hi : E2 R2 env h) : ∃ a0, ∃ n0, ∃ c0, ∃ e0, ∃ a5, ∃ n5, ∃ c5, ∃ e5, ∃ x6, ∃ x7, env = [(0, .slice a0 n0 c0 e0), (5, .slice a5 n5 c5 e5), (6, .int .i64 x6), (7, .int .i64 x7)] ∧ R2 a0 n0 c0 e0 a5 n5 c5 e5 x6 x7 h := by
 unfold E2 at hi
 have hi0 := hi
 clear hi
 obtain ⟨_, _, rfl, hi1⟩ := Zab hi0
 obtain ⟨a0, n0, c0, e0, rfl, hi2⟩ := Zax hi1
 obtain ⟨_, _, rfl, hi3⟩ := Zab hi2
 obtain ⟨a5, n5, c5, e5, rfl, hi4⟩ := Zax hi3
 obtain ⟨_, _, rfl, hi5⟩ := Zab hi4
 obtain ⟨x6, rfl, hi6⟩ := Zak hi5
 obtain ⟨_, _, rfl, hi7⟩ := Zab hi6
 obtain ⟨x7, rfl, hi8⟩ := Zak hi7
 obtain ⟨rfl, hi9⟩ := Zbk hi8
 have hi := hi9
 exact ⟨a0, n0, c0, e0, a5, n5, c5, e5, x6, x7, rfl, hi⟩
def K0 (Q : QT) : KT := andThen (fun env' h' => (match kp.find 4000007 with | some ks => Den pg fn.ntmps (C [1, 1]) (env'.keep ks) h' (KR Q) | none => den pg fn.ntmps kp (C [1, 1]) env' h' (KR Q))) (KR Q)
def K1 (Q : QT) : KT := Zcg 0 (K0 Q)
def K2 (Q : QT) : KT := Zgf kp 2 (K1 Q)
def K3 (Q : QT) (R2 : T2) : KT := rnd ((kp.find 1000002).getD []) (E2 R2) (K2 Q)
def L2 (Q : QT) (a0 : Pt) (n0 c0 : Nat) (e0 : Bool) (a5 : Pt) (n5 c5 : Nat) (e5 : Bool) (x6 x7 : Int) (h : Zaa) : Prop := Zdz (Den pg fn.ntmps (C [1, 0, 1, 0, 0])) ((kp.find 1000002).getD []) (K2 Q) [(0, .slice a0 n0 c0 e0), (5, .slice a5 n5 c5 e5), (6, .int .i64 x6), (7, .int .i64 x7)] h
def J6 (Q : QT) (R2 : T2) (x7 x6 : Int) (a5 : Pt) (n5 c5 : Nat) (e5 : Bool) (a0 : Pt) (n0 c0 : Nat) (e0 : Bool) (h : Zaa) : Prop := Den pg fn.ntmps (C [1, 0, 1, 0, 0, 1, 1, 1]) [(7, .int .i64 x7), (6, .int .i64 x6), (5, .slice a5 n5 c5 e5), (0, .slice a0 n0 c0 e0)] h (K3 Q R2)
def Zqs (Q : QT) (h : Zaa) : Prop := At (K1 Q) (.exit 0) [(2, .undef)] h
def L2t (Q : QT) (R2 : T2) (a0 : Pt) (n0 c0 : Nat) (e0 : Bool) (a5 : Pt) (n5 c5 : Nat) (e5 : Bool) (x6 x7 : Int) (h : Zaa) : Prop :=
 bcase (decide ((x7 : Int) < x6)) ((0 ≤ (x7 : Int) ∧ (x7 : Int) < (n5 : Nat)) ∧ (Zbl a5 fun I0 O1 => Zcz (Zbx h (.ptr (some (I0, O1 + (Int.toNat x7) * 2))) 2) fun K2 => Zao K2 fun C3 Z4 => Zbp (some C3) fun S5 => Zao Z4 fun C6 Z7 => Zbp (some C6) fun S8 => Zcl Z7 (Zcn (h ++ [.cells Zbe [.str [], .str []] false]) fun H9 => Zcp (Zbn H9 (.ptr (some (h.length, 0))) [.str S5, .str S8]) fun H10 => Zbp (Zal H10 (.ptr (some (h.length, 0 + 0)))) fun S11 => bcase (!((((List.length S11 : Nat) : Int) : Int) == 1)) ((Zal H10 (.tup []) = Zal H10 (.tup [])) ∧ Q (.bool false) H10) (Zbp (Zal H10 (.ptr (some (h.length, 0 + 0)))) fun S12 => Zkp S12 0 fun B13 => Zae pg Zfk [.int .u8 (((B13 : Nat) : Int))] H10 fun V14 H15 =>
 Zch (some V14) fun B16 => bcase (!B16) ((Zal H15 (.tup []) = Zal H15 (.tup [])) ∧ Q (.bool false) H15) (Zbp (Zal H15 (.ptr (some (h.length, 0 + 1)))) fun S17 => Zae pg Zep [.str S17] H15 fun V18 H19 =>
 Zch (some V18) fun B20 => bcase (!B20) ((Zal H19 (.tup []) = Zal H19 (.tup [])) ∧ Q (.bool false) H19) (bcase (decide ((x7 : Int) > 0)) ((0 ≤ (IntKind.wrap .i64 (x7 - 1) : Int) ∧ (IntKind.wrap .i64 (x7 - 1) : Int) < (n0 : Nat)) ∧ (Zbl a0 fun I21 O22 => Zbp (Zal H19 (.ptr (some (I21, O22 + (Int.toNat (IntKind.wrap .i64 (x7 - 1))) * 2 + 0)))) fun S23 => Zbp (Zal H19 (.ptr (some (h.length, 0 + 0)))) fun S24 => (Zal H19 (.ptr (some (I21, O22 + (Int.toNat (IntKind.wrap .i64 (x7 - 1))) * 2 + 0))) = Zal H19 (.ptr (some (I21, O22 + (Int.toNat (IntKind.wrap .i64 (x7 - 1))) * 2 + 0)))) ∧ bcase (!Zdu S23 S24) (Q (.bool false) H19) (J6 Q R2 x7 x6 a5 n5 c5 e5 a0 n0 c0 e0 H19))) ((Zal H19 (.tup []) = Zal H19 (.tup [])) ∧ J6 Q R2 x7 x6 a5 n5 c5 e5 a0 n0 c0 e0 H19))))))) (Zqs Q h)
theorem Zmo (Q : QT) (R2 : T2) (a0 : Pt) (n0 c0 : Nat) (e0 : Bool) (a5 : Pt) (n5 c5 : Nat) (e5 : Bool) (x6 x7 : Int) (h : Zaa) (ht : L2t Q R2 a0 n0 c0 e0 a5 n5 c5 e5 x6 x7 h) : Den pg fn.ntmps (C [1, 0, 1, 0, 0]) [(0, .slice a0 n0 c0 e0), (5, .slice a5 n5 c5 e5), (6, .int .i64 x6), (7, .int .i64 x7)] h (K3 Q R2) :=
 Zbb (kp := kp) (cast (by kernel_rfl) ht)
theorem L2ind (Q : QT) (a0 : Pt) (n0 c0 : Nat) (e0 : Bool) (a5 : Pt) (n5 c5 : Nat) (e5 : Bool) (x6 : Int) {G : Type} (J : G → Int → Zaa → Prop) (m : G → Nat)
 (hr : ∀ (g : G) (x7 : Int) (h : Zaa), J g x7 h → ∀ (R2 : T2), (∀ g' (x7 : Int) (h : Zaa), m g' < m g → J g' x7 h → R2 a0 n0 c0 e0 a5 n5 c5 e5 x6 x7 h) → L2t Q R2 a0 n0 c0 e0 a5 n5 c5 e5 x6 x7 h)
 (g : G) (x7 : Int) (h : Zaa) (hj : J g x7 h) : L2 Q a0 n0 c0 e0 a5 n5 c5 e5 x6 x7 h := by
 refine Zdz.inv2 (fun g => E2 fun a0' n0' c0' e0' a5' n5' c5' e5' x6' x7 h => a0 = a0' ∧ n0 = n0' ∧ c0 = c0' ∧ e0 = e0' ∧ a5 = a5' ∧ n5 = n5' ∧ c5 = c5' ∧ e5 = e5' ∧ x6 = x6' ∧ J g x7 h) (fun g => E2 fun a0' n0' c0' e0' a5' n5' c5' e5' x6' x7 h => a0 = a0' ∧ n0 = n0' ∧ c0 = c0' ∧ e0 = e0' ∧ a5 = a5' ∧ n5 = n5' ∧ c5 = c5' ∧ e5 = e5' ∧ x6 = x6' ∧ ∃ g', m g' < m g ∧ J g' x7 h) m ?_ ?_ g ⟨rfl, rfl, rfl, rfl, rfl, rfl, rfl, rfl, rfl, hj⟩
 ·intro g env h hi
  obtain ⟨a0', n0', c0', e0', a5', n5', c5', e5', x6', x7, rfl, rfl, rfl, rfl, rfl, rfl, rfl, rfl, rfl, rfl, hj⟩ := Zex hi
  exact Zmo Q _ a0 n0 c0 e0 a5 n5 c5 e5 x6 x7 h (hr g x7 h hj (fun a0' n0' c0' e0' a5' n5' c5' e5' x6' x7 h => a0 = a0' ∧ n0 = n0' ∧ c0 = c0' ∧ e0 = e0' ∧ a5 = a5' ∧ n5 = n5' ∧ c5 = c5' ∧ e5 = e5' ∧ x6 = x6' ∧ ∃ g', m g' < m g ∧ J g' x7 h) fun g' x7 h hlt hj => ⟨rfl, rfl, rfl, rfl, rfl, rfl, rfl, rfl, rfl, g', hlt, hj⟩)
 ·intro g env h hi
  obtain ⟨a0', n0', c0', e0', a5', n5', c5', e5', x6', x7, rfl, rfl, rfl, rfl, rfl, rfl, rfl, rfl, rfl, rfl, g', hlt, hj⟩ := Zex hi
  exact ⟨g', hlt, rfl, rfl, rfl, rfl, rfl, rfl, rfl, rfl, rfl, hj⟩
theorem J6i (Q : QT) (R2 : T2) (x7 x6 : Int) (a5 : Pt) (n5 c5 : Nat) (e5 : Bool) (a0 : Pt) (n0 c0 : Nat) (e0 : Bool) (h : Zaa) (ht :
 R2 a0 n0 c0 e0 a5 n5 c5 e5 x6 (IntKind.wrap .i64 (x7 + 1)) h) : J6 Q R2 x7 x6 a5 n5 c5 e5 a0 n0 c0 e0 h :=
 Zbb (kp := kp) (cast (by kernel_rfl) ht)
theorem A2x0i (Q : QT) (h : Zaa) (ht :
 Q (.bool true) h) : Zqs Q h :=
 At.mk (cast (by kernel_rfl) ht)
theorem call (a0 : Pt) (n0 c0 : Nat) (e0 : Bool) (h : Zaa) (Q : QT) (ht :
 L2 Q a0 n0 c0 e0 a0 n0 c0 e0 (((n0 : Nat) : Int)) 0 h) : Zae pg Zhd [.slice a0 n0 c0 e0] h Q :=
 Zae.of_body kp (c := cod fn) (fn := fn) Go.Proofs.Tryz.func144 (by kernel_rfl) (by kernel_rfl) (Nat.le_of_ble_eq_true (by kernel_rfl))
  (cast (by kernel_rfl) ht)
end Zdm
namespace Zgp
noncomputable abbrev fn : Func := Go.Proofs.Tryz.f146
def kp : Zcd := [(4000004, [3, 0, 4]), (3000006, [6, 4]), (1000006, [0, 4, 6, 33, 34, 35]), (2000008, [35, 34, 33, 6, 0, 4])]
noncomputable def C (p : List Nat) : Code := (cod fn).sub p
def KR (Q : QT) : KT := Zem pg fn.results.toList Q
abbrev T6 := Pt → Nat → Nat → Nat → Nat → Pt → Nat → Nat → Bool → Int → Int → Zaa → Prop
def E6 (R6 : T6) (env : Env) (h : Zaa) : Prop := Zbj 0 env fun v env => Zgg (some v) fun a0 => Zbj 4 env fun v env => Zgg (some v) fun a => Zbl a fun i4 o4 => Zbj 6 env fun v env => Zgg (some v) fun a => Zbl a fun i6 o6 => Zbj 33 env fun v env => xSl (some v) fun a33 n33 c33 e33 => Zbj 34 env fun v env => Zda .i64 v fun x34 => Zbj 35 env fun v env => Zda .i64 v fun x35 => Ziw env (R6 a0 i4 o4 i6 o6 a33 n33 c33 e33 x34 x35 h)
theorem Zke {R6 : T6} {env : Env} {h : Zaa} (hi : E6 R6 env h) : ∃ a0, ∃ i4, ∃ o4, ∃ i6, ∃ o6, ∃ a33, ∃ n33, ∃ c33, ∃ e33, ∃ x34, ∃ x35, env = [(0, .ptr a0), (4, .ptr (some (i4, o4))), (6, .ptr (some (i6, o6))), (33, .slice a33 n33 c33 e33), (34, .int .i64 x34), (35, .int .i64 x35)] ∧ R6 a0 i4 o4 i6 o6 a33 n33 c33 e33 x34 x35 h := by
 unfold E6 at hi
 have hi0 := hi
 clear hi
 obtain ⟨_, _, rfl, hi1⟩ := Zab hi0
 obtain ⟨a0, rfl, hi2⟩ := Zbo hi1
 obtain ⟨_, _, rfl, hi3⟩ := Zab hi2
 obtain ⟨a, rfl, hi4⟩ := Zbo hi3
 obtain ⟨i4, o4, rfl, hi5⟩ := Zbs hi4
 obtain ⟨_, _, rfl, hi6⟩ := Zab hi5
 obtain ⟨a, rfl, hi7⟩ := Zbo hi6
 obtain ⟨i6, o6, rfl, hi8⟩ := Zbs hi7
 obtain ⟨_, _, rfl, hi9⟩ := Zab hi8
 obtain ⟨a33, n33, c33, e33, rfl, hi10⟩ := Zax hi9
 obtain ⟨_, _, rfl, hi11⟩ := Zab hi10
 obtain ⟨x34, rfl, hi12⟩ := Zak hi11
 obtain ⟨_, _, rfl, hi13⟩ := Zab hi12
 obtain ⟨x35, rfl, hi14⟩ := Zak hi13
 obtain ⟨rfl, hi15⟩ := Zbk hi14
 have hi := hi15
 exact ⟨a0, i4, o4, i6, o6, a33, n33, c33, e33, x34, x35, rfl, hi⟩
def K0 (Q : QT) : KT := andThen (fun env' h' => (match kp.find 4000010 with | some ks => Den pg fn.ntmps (C [1, 1, 1, 1]) (env'.keep ks) h' (KR Q) | none => den pg fn.ntmps kp (C [1, 1, 1, 1]) env' h' (KR Q))) (KR Q)
def K1 (Q : QT) : KT := Zcg 0 (K0 Q)
def K2 (Q : QT) : KT := Zgf kp 6 (K1 Q)
def K3 (Q : QT) (R6 : T6) : KT := rnd ((kp.find 1000006).getD []) (E6 R6) (K2 Q)
def J4 (Q : QT) (i3 o3 : Nat) (a0 : Pt) (i4 o4 : Nat) (h : Zaa) : Prop := Den pg fn.ntmps (C [1, 1]) [(3, .ptr (some (i3, o3))), (0, .ptr a0), (4, .ptr (some (i4, o4)))] h (KR Q)
def L6 (Q : QT) (a0 : Pt) (i4 o4 i6 o6 : Nat) (a33 : Pt) (n33 c33 : Nat) (e33 : Bool) (x34 x35 : Int) (h : Zaa) : Prop := Zdz (Den pg fn.ntmps (C [1, 1, 1, 0, 1, 0, 0])) ((kp.find 1000006).getD []) (K2 Q) [(0, .ptr a0), (4, .ptr (some (i4, o4))), (6, .ptr (some (i6, o6))), (33, .slice a33 n33 c33 e33), (34, .int .i64 x34), (35, .int .i64 x35)] h
def Ybo (Q : QT) (i6 o6 i4 o4 : Nat) (h : Zaa) : Prop := At (K1 Q) (.exit 0) [(6, .ptr (some (i6, o6))), (4, .ptr (some (i4, o4)))] h
theorem J4i (Q : QT) (i3 o3 : Nat) (a0 : Pt) (i4 o4 : Nat) (h : Zaa) (ht :
 Zen .u8 (Zal h (.ptr (some (i3, o3 + 0)))) fun X32 => Zcn (h ++ [.cells Zac [] false]) fun H33 => Zcn (H33 ++ [.cells Zac [.int .u8 0, .slice none 0 0 true] false]) fun H34 => Zcp (Zbn H34 (.ptr (some (H33.length, 0))) [.int .u8 X32, .slice (some (h.length, 0)) 0 0 true]) fun H35 => xSl (Zal H35 (.ptr (some (i3, o3 + 1)))) fun A36 N37 C38 E39 => L6 Q a0 i4 o4 H33.length 0 A36 N37 C38 E39 (((N37 : Nat) : Int)) 0 H35) : J4 Q i3 o3 a0 i4 o4 h :=
 Zbb (kp := kp) (cast (by kernel_rfl) ht)
def L6t (Q : QT) (R6 : T6) (a0 : Pt) (i4 o4 i6 o6 : Nat) (a33 : Pt) (n33 c33 : Nat) (e33 : Bool) (x34 x35 : Int) (h : Zaa) : Prop :=
 bcase (decide ((x35 : Int) < x34)) ((0 ≤ (x35 : Int) ∧ (x35 : Int) < (n33 : Nat)) ∧ (Zbl a33 fun I40 O41 => Zcz (Zbx h (.ptr (some (I40, O41 + (Int.toNat x35) * 2))) 2) fun K42 => Zao K42 fun C43 Z44 => Zen .u8 (some C43) fun X45 => Zao Z44 fun C46 Z47 => xSl (some C46) fun A48 N49 C50 E51 => Zcl Z47 (Zcn (h ++ [.cells Zac [.int .u8 0, .slice none 0 0 true] false]) fun H52 => Zcp (Zbn H52 (.ptr (some (h.length, 0))) [.int .u8 X45, .slice A48 N49 C50 E51]) fun H53 => xSl (Zal H53 (.ptr (some (i6, o6 + 1)))) fun A54 N55 C56 E57 => Zcz (Zbx H53 (.ptr (some (h.length, 0))) 2) fun K58 => Zao K58 fun C59 Z60 => Zen .u8 (some C59) fun X61 => Zao Z60 fun C62 Z63 => xSl (some C62) fun A64 N65 C66 E67 => Zcl Z63 ((Zal H53 (.ptr (some (i6, o6 + 1))) = Zal H53 (.ptr (some (i6, o6 + 1)))) ∧ Zae pg Zmd [.ptr a0, .agg [.int .u8 X61, .slice A64 N65 C66 E67]] H53 fun V68 H69 =>
 Zue V68 fun K70 => Zao K70 fun C71 Z72 => Zen .u8 (some C71) fun X73 => Zao Z72 fun C74 Z75 => xSl (some C74) fun A76 N77 C78 E79 => Zcl Z75 ((Zal H69 (.ptr (some (i6, o6 + 1))) = Zal H53 (.ptr (some (i6, o6 + 1)))) ∧ Zcn (H69 ++ [.cells Zac [.int .u8 X73, .slice A76 N77 C78 E79] false]) fun H80 => (Zal H80 (.ptr (some (i6, o6 + 1))) = Zal H69 (.ptr (some (i6, o6 + 1)))) ∧ Zdc pg Zik H80 (.slice A54 N55 C56 E57) (.slice (some (H69.length, 0)) 1 1 true) fun V81 H82 => xSl (some V81) fun A83 N84 C85 E86 => Zcp (Zbn H82 (.ptr (some (i6, o6 + 1))) [.slice A83 N84 C85 E86]) fun H87 => R6 a0 i4 o4 i6 o6 a33 n33 c33 e33 x34 (IntKind.wrap .i64 (x35 + 1)) H87))))) (Ybo Q i6 o6 i4 o4 h)
theorem Zvy (Q : QT) (R6 : T6) (a0 : Pt) (i4 o4 i6 o6 : Nat) (a33 : Pt) (n33 c33 : Nat) (e33 : Bool) (x34 x35 : Int) (h : Zaa) (ht : L6t Q R6 a0 i4 o4 i6 o6 a33 n33 c33 e33 x34 x35 h) : Den pg fn.ntmps (C [1, 1, 1, 0, 1, 0, 0]) [(0, .ptr a0), (4, .ptr (some (i4, o4))), (6, .ptr (some (i6, o6))), (33, .slice a33 n33 c33 e33), (34, .int .i64 x34), (35, .int .i64 x35)] h (K3 Q R6) :=
 Zbb (kp := kp) (cast (by kernel_rfl) ht)
theorem L6ind (Q : QT) (a0 : Pt) (i4 o4 i6 o6 : Nat) (a33 : Pt) (n33 c33 : Nat) (e33 : Bool) (x34 : Int) {G : Type} (J : G → Int → Zaa → Prop) (m : G → Nat)
 (hr : ∀ (g : G) (x35 : Int) (h : Zaa), J g x35 h → ∀ (R6 : T6), (∀ g' (x35 : Int) (h : Zaa), m g' < m g → J g' x35 h → R6 a0 i4 o4 i6 o6 a33 n33 c33 e33 x34 x35 h) → L6t Q R6 a0 i4 o4 i6 o6 a33 n33 c33 e33 x34 x35 h)
 (g : G) (x35 : Int) (h : Zaa) (hj : J g x35 h) : L6 Q a0 i4 o4 i6 o6 a33 n33 c33 e33 x34 x35 h := by
 refine Zdz.inv2 (fun g => E6 fun a0' i4' o4' i6' o6' a33' n33' c33' e33' x34' x35 h => a0 = a0' ∧ i4 = i4' ∧ o4 = o4' ∧ i6 = i6' ∧ o6 = o6' ∧ a33 = a33' ∧ n33 = n33' ∧ c33 = c33' ∧ e33 = e33' ∧ x34 = x34' ∧ J g x35 h) (fun g => E6 fun a0' i4' o4' i6' o6' a33' n33' c33' e33' x34' x35 h => a0 = a0' ∧ i4 = i4' ∧ o4 = o4' ∧ i6 = i6' ∧ o6 = o6' ∧ a33 = a33' ∧ n33 = n33' ∧ c33 = c33' ∧ e33 = e33' ∧ x34 = x34' ∧ ∃ g', m g' < m g ∧ J g' x35 h) m ?_ ?_ g ⟨rfl, rfl, rfl, rfl, rfl, rfl, rfl, rfl, rfl, rfl, hj⟩
 ·intro g env h hi
  obtain ⟨a0', i4', o4', i6', o6', a33', n33', c33', e33', x34', x35, rfl, rfl, rfl, rfl, rfl, rfl, rfl, rfl, rfl, rfl, rfl, hj⟩ := Zke hi
  exact Zvy Q _ a0 i4 o4 i6 o6 a33 n33 c33 e33 x34 x35 h (hr g x35 h hj (fun a0' i4' o4' i6' o6' a33' n33' c33' e33' x34' x35 h => a0 = a0' ∧ i4 = i4' ∧ o4 = o4' ∧ i6 = i6' ∧ o6 = o6' ∧ a33 = a33' ∧ n33 = n33' ∧ c33 = c33' ∧ e33 = e33' ∧ x34 = x34' ∧ ∃ g', m g' < m g ∧ J g' x35 h) fun g' x35 h hlt hj => ⟨rfl, rfl, rfl, rfl, rfl, rfl, rfl, rfl, rfl, rfl, g', hlt, hj⟩)
 ·intro g env h hi
  obtain ⟨a0', i4', o4', i6', o6', a33', n33', c33', e33', x34', x35, rfl, rfl, rfl, rfl, rfl, rfl, rfl, rfl, rfl, rfl, rfl, g', hlt, hj⟩ := Zke hi
  exact ⟨g', hlt, rfl, rfl, rfl, rfl, rfl, rfl, rfl, rfl, rfl, rfl, hj⟩
theorem A6x0i (Q : QT) (i6 o6 i4 o4 : Nat) (h : Zaa) (ht :
 Zcz (Zbx h (.ptr (some (i6, o6))) 2) fun K88 => Zao K88 fun C89 Z90 => Zen .u8 (some C89) fun X91 => Zao Z90 fun C92 Z93 => xSl (some C92) fun A94 N95 C96 E97 => Zcl Z93 (Zcp (Zbn h (.ptr (some (i4, o4))) [.int .u8 X91, .slice A94 N95 C96 E97]) fun H98 => Zcz (Zbx H98 (.ptr (some (i4, o4))) 2) fun K99 => Zao K99 fun C100 Z101 => Zen .u8 (some C100) fun X102 => Zao Z101 fun C103 Z104 => xSl (some C103) fun A105 N106 C107 E108 => Zcl Z104 (Q (.agg [.int .u8 X102, .slice A105 N106 C107 E108]) H98))) : Ybo Q i6 o6 i4 o4 h :=
 At.mk (cast (by kernel_rfl) ht)
theorem call (a0 : Pt) (x1x0 : Int) (a1x1 : Pt) (n1x1 c1x1 : Nat) (e1x1 : Bool) (h : Zaa) (Q : QT) (ht :
 Zcn (h ++ [.cells Zac [.int .u8 x1x0, .slice a1x1 n1x1 c1x1 e1x1] false]) fun H0 => Zcn (H0 ++ [.cells Zac [.int .u8 0, .slice none 0 0 true] false]) fun H1 => Zen .u8 (Zal H1 (.ptr (some (h.length, 0 + 0)))) fun X2 => Zae pg Zhm [.int .u8 X2] H1 fun V3 H4 =>
 Zen .i64 (some V3) fun X5 => bcase (decide ((X5 : Int) ≥ 0)) (Zbl a0 fun I6 O7 => (0 ≤ (X5 : Int) ∧ (X5 : Int) < (12 : Nat)) ∧ (Zen .u8 (Zal H4 (.ptr (some (I6, O7 + (Int.toNat X5) * 2 + 0)))) fun X8 => bcase (!((X8 : Int) == 0)) (Zbl a0 fun I9 O10 => (0 ≤ (X5 : Int) ∧ (X5 : Int) < (12 : Nat)) ∧ (Zcz (Zbx H4 (.ptr (some (I9, O10 + (Int.toNat X5) * 2))) 2) fun K11 => Zao K11 fun C12 Z13 => Zen .u8 (some C12) fun X14 => Zao Z13 fun C15 Z16 => xSl (some C15) fun A17 N18 C19 E20 => Zcl Z16 (Zcp (Zbn H4 (.ptr (some (H0.length, 0))) [.int .u8 X14, .slice A17 N18 C19 E20]) fun H21 => Zcz (Zbx H21 (.ptr (some (H0.length, 0))) 2) fun K22 => Zao K22 fun C23 Z24 => Zen .u8 (some C23) fun X25 => Zao Z24 fun C26 Z27 => xSl (some C26) fun A28 N29 C30 E31 => Zcl Z27 (Q (.agg [.int .u8 X25, .slice A28 N29 C30 E31]) H21)))) (J4 Q h.length 0 a0 H0.length 0 H4))) (J4 Q h.length 0 a0 H0.length 0 H4)) : Zae pg Zmd [.ptr a0, .agg [.int .u8 x1x0, .slice a1x1 n1x1 c1x1 e1x1]] h Q :=
 Zae.of_body kp (c := cod fn) (fn := fn) Go.Proofs.Tryz.func146 (by kernel_rfl) (by kernel_rfl) (Nat.le_of_ble_eq_true (by kernel_rfl))
  (cast (by kernel_rfl) ht)
end Zgp
end Go.Sim

set_option maxRecDepth 100000
set_option linter.unusedVariables false
namespace Go.Sim
open Go Go.RowKit
namespace Zdn
noncomputable abbrev fn : Func := Go.Proofs.Tryz.f153
def kp : Zcd := [(3000002, [2]), (1000002, [0, 5, 6, 7]), (2000004, [36, 7, 6, 5, 0]), (4000006, [7, 6, 5, 0])]
noncomputable def C (p : List Nat) : Code := (cod fn).sub p
def KR (Q : QT) : KT := Zem pg fn.results.toList Q
abbrev T2 := Pt → Nat → Nat → Bool → Pt → Nat → Nat → Bool → Int → Int → Zaa → Prop
def E2 (R2 : T2) (env : Env) (h : Zaa) : Prop := Zbj 0 env fun v env => xSl (some v) fun a0 n0 c0 e0 => Zbj 5 env fun v env => xSl (some v) fun a5 n5 c5 e5 => Zbj 6 env fun v env => Zda .i64 v fun x6 => Zbj 7 env fun v env => Zda .i64 v fun x7 => Ziw env (R2 a0 n0 c0 e0 a5 n5 c5 e5 x6 x7 h)
theorem Zex {R2 : T2} {env : Env} {h : Zaa} (hi : E2 R2 env h) : ∃ a0, ∃ n0, ∃ c0, ∃ e0, ∃ a5, ∃ n5, ∃ c5, ∃ e5, ∃ x6, ∃ x7, env = [(0, .slice a0 n0 c0 e0), (5, .slice a5 n5 c5 e5), (6, .int .i64 x6), (7, .int .i64 x7)] ∧ R2 a0 n0 c0 e0 a5 n5 c5 e5 x6 x7 h := by
 unfold E2 at hi
 have hi0 := hi
 clear hi
 obtain ⟨_, _, rfl, hi1⟩ := Zab hi0
 obtain ⟨a0, n0, c0, e0, rfl, hi2⟩ := Zax hi1
 obtain ⟨_, _, rfl, hi3⟩ := Zab hi2
 obtain ⟨a5, n5, c5, e5, rfl, hi4⟩ := Zax hi3
 obtain ⟨_, _, rfl, hi5⟩ := Zab hi4
 obtain ⟨x6, rfl, hi6⟩ := Zak hi5
 obtain ⟨_, _, rfl, hi7⟩ := Zab hi6
 obtain ⟨x7, rfl, hi8⟩ := Zak hi7
 obtain ⟨rfl, hi9⟩ := Zbk hi8
 have hi := hi9
 exact ⟨a0, n0, c0, e0, a5, n5, c5, e5, x6, x7, rfl, hi⟩
def K0 (Q : QT) : KT := andThen (fun env' h' => (match kp.find 4000007 with | some ks => Den pg fn.ntmps (C [1, 1]) (env'.keep ks) h' (KR Q) | none => den pg fn.ntmps kp (C [1, 1]) env' h' (KR Q))) (KR Q)
def K1 (Q : QT) : KT := Zcg 0 (K0 Q)
def K2 (Q : QT) : KT := Zgf kp 2 (K1 Q)
def K3 (Q : QT) (R2 : T2) : KT := rnd ((kp.find 1000002).getD []) (E2 R2) (K2 Q)
def L2 (Q : QT) (a0 : Pt) (n0 c0 : Nat) (e0 : Bool) (a5 : Pt) (n5 c5 : Nat) (e5 : Bool) (x6 x7 : Int) (h : Zaa) : Prop := Zdz (Den pg fn.ntmps (C [1, 0, 1, 0, 0])) ((kp.find 1000002).getD []) (K2 Q) [(0, .slice a0 n0 c0 e0), (5, .slice a5 n5 c5 e5), (6, .int .i64 x6), (7, .int .i64 x7)] h
def J6 (Q : QT) (R2 : T2) (x7 x6 : Int) (a5 : Pt) (n5 c5 : Nat) (e5 : Bool) (a0 : Pt) (n0 c0 : Nat) (e0 : Bool) (h : Zaa) : Prop := Den pg fn.ntmps (C [1, 0, 1, 0, 0, 1, 1, 1]) [(7, .int .i64 x7), (6, .int .i64 x6), (5, .slice a5 n5 c5 e5), (0, .slice a0 n0 c0 e0)] h (K3 Q R2)
def Zqs (Q : QT) (h : Zaa) : Prop := At (K1 Q) (.exit 0) [(2, .undef)] h
def L2t (Q : QT) (R2 : T2) (a0 : Pt) (n0 c0 : Nat) (e0 : Bool) (a5 : Pt) (n5 c5 : Nat) (e5 : Bool) (x6 x7 : Int) (h : Zaa) : Prop :=
 bcase (decide ((x7 : Int) < x6)) ((0 ≤ (x7 : Int) ∧ (x7 : Int) < (n5 : Nat)) ∧ (Zbl a5 fun I0 O1 => Zcz (Zbx h (.ptr (some (I0, O1 + (Int.toNat x7) * 2))) 2) fun K2 => Zao K2 fun C3 Z4 => Zbp (some C3) fun S5 => Zao Z4 fun C6 Z7 => Zbp (some C6) fun S8 => Zcl Z7 (Zcn (h ++ [.cells Zbe [.str [], .str []] false]) fun H9 => Zcp (Zbn H9 (.ptr (some (h.length, 0))) [.str S5, .str S8]) fun H10 => Zbp (Zal H10 (.ptr (some (h.length, 0 + 0)))) fun S11 => Zae pg Zkd [.str S11] H10 fun V12 H13 =>
 Zch (some V12) fun B14 => bcase (!B14) ((Zal H13 (.tup []) = Zal H13 (.tup [])) ∧ Q (.bool false) H13) (Zbp (Zal H13 (.ptr (some (h.length, 0 + 1)))) fun S15 => Zae pg Zeq [.str S15] H13 fun V16 H17 =>
 Zch (some V16) fun B18 => bcase (!B18) ((Zal H17 (.tup []) = Zal H17 (.tup [])) ∧ Q (.bool false) H17) (bcase (decide ((x7 : Int) > 0)) ((0 ≤ (IntKind.wrap .i64 (x7 - 1) : Int) ∧ (IntKind.wrap .i64 (x7 - 1) : Int) < (n0 : Nat)) ∧ (Zbl a0 fun I19 O20 => Zbp (Zal H17 (.ptr (some (I19, O20 + (Int.toNat (IntKind.wrap .i64 (x7 - 1))) * 2 + 0)))) fun S21 => Zbp (Zal H17 (.ptr (some (h.length, 0 + 0)))) fun S22 => (Zal H17 (.ptr (some (I19, O20 + (Int.toNat (IntKind.wrap .i64 (x7 - 1))) * 2 + 0))) = Zal H17 (.ptr (some (I19, O20 + (Int.toNat (IntKind.wrap .i64 (x7 - 1))) * 2 + 0)))) ∧ bcase (!Zdu S21 S22) (Q (.bool false) H17) (J6 Q R2 x7 x6 a5 n5 c5 e5 a0 n0 c0 e0 H17))) ((Zal H17 (.tup []) = Zal H17 (.tup [])) ∧ J6 Q R2 x7 x6 a5 n5 c5 e5 a0 n0 c0 e0 H17)))))) (Zqs Q h)
theorem Zmo (Q : QT) (R2 : T2) (a0 : Pt) (n0 c0 : Nat) (e0 : Bool) (a5 : Pt) (n5 c5 : Nat) (e5 : Bool) (x6 x7 : Int) (h : Zaa) (ht : L2t Q R2 a0 n0 c0 e0 a5 n5 c5 e5 x6 x7 h) : Den pg fn.ntmps (C [1, 0, 1, 0, 0]) [(0, .slice a0 n0 c0 e0), (5, .slice a5 n5 c5 e5), (6, .int .i64 x6), (7, .int .i64 x7)] h (K3 Q R2) :=
 Zbb (kp := kp) (cast (by kernel_rfl) ht)
theorem L2ind (Q : QT) (a0 : Pt) (n0 c0 : Nat) (e0 : Bool) (a5 : Pt) (n5 c5 : Nat) (e5 : Bool) (x6 : Int) {G : Type} (J : G → Int → Zaa → Prop) (m : G → Nat)
 (hr : ∀ (g : G) (x7 : Int) (h : Zaa), J g x7 h → ∀ (R2 : T2), (∀ g' (x7 : Int) (h : Zaa), m g' < m g → J g' x7 h → R2 a0 n0 c0 e0 a5 n5 c5 e5 x6 x7 h) → L2t Q R2 a0 n0 c0 e0 a5 n5 c5 e5 x6 x7 h)
 (g : G) (x7 : Int) (h : Zaa) (hj : J g x7 h) : L2 Q a0 n0 c0 e0 a5 n5 c5 e5 x6 x7 h := by
 refine Zdz.inv2 (fun g => E2 fun a0' n0' c0' e0' a5' n5' c5' e5' x6' x7 h => a0 = a0' ∧ n0 = n0' ∧ c0 = c0' ∧ e0 = e0' ∧ a5 = a5' ∧ n5 = n5' ∧ c5 = c5' ∧ e5 = e5' ∧ x6 = x6' ∧ J g x7 h) (fun g => E2 fun a0' n0' c0' e0' a5' n5' c5' e5' x6' x7 h => a0 = a0' ∧ n0 = n0' ∧ c0 = c0' ∧ e0 = e0' ∧ a5 = a5' ∧ n5 = n5' ∧ c5 = c5' ∧ e5 = e5' ∧ x6 = x6' ∧ ∃ g', m g' < m g ∧ J g' x7 h) m ?_ ?_ g ⟨rfl, rfl, rfl, rfl, rfl, rfl, rfl, rfl, rfl, hj⟩
 ·intro g env h hi
  obtain ⟨a0', n0', c0', e0', a5', n5', c5', e5', x6', x7, rfl, rfl, rfl, rfl, rfl, rfl, rfl, rfl, rfl, rfl, hj⟩ := Zex hi
  exact Zmo Q _ a0 n0 c0 e0 a5 n5 c5 e5 x6 x7 h (hr g x7 h hj (fun a0' n0' c0' e0' a5' n5' c5' e5' x6' x7 h => a0 = a0' ∧ n0 = n0' ∧ c0 = c0' ∧ e0 = e0' ∧ a5 = a5' ∧ n5 = n5' ∧ c5 = c5' ∧ e5 = e5' ∧ x6 = x6' ∧ ∃ g', m g' < m g ∧ J g' x7 h) fun g' x7 h hlt hj => ⟨rfl, rfl, rfl, rfl, rfl, rfl, rfl, rfl, rfl, g', hlt, hj⟩)
 ·intro g env h hi
  obtain ⟨a0', n0', c0', e0', a5', n5', c5', e5', x6', x7, rfl, rfl, rfl, rfl, rfl, rfl, rfl, rfl, rfl, rfl, g', hlt, hj⟩ := Zex hi
  exact ⟨g', hlt, rfl, rfl, rfl, rfl, rfl, rfl, rfl, rfl, rfl, hj⟩
theorem J6i (Q : QT) (R2 : T2) (x7 x6 : Int) (a5 : Pt) (n5 c5 : Nat) (e5 : Bool) (a0 : Pt) (n0 c0 : Nat) (e0 : Bool) (h : Zaa) (ht :
 R2 a0 n0 c0 e0 a5 n5 c5 e5 x6 (IntKind.wrap .i64 (x7 + 1)) h) : J6 Q R2 x7 x6 a5 n5 c5 e5 a0 n0 c0 e0 h :=
 Zbb (kp := kp) (cast (by kernel_rfl) ht)
theorem A2x0i (Q : QT) (h : Zaa) (ht :
 Q (.bool true) h) : Zqs Q h :=
 At.mk (cast (by kernel_rfl) ht)
theorem call (a0 : Pt) (n0 c0 : Nat) (e0 : Bool) (h : Zaa) (Q : QT) (ht :
 L2 Q a0 n0 c0 e0 a0 n0 c0 e0 (((n0 : Nat) : Int)) 0 h) : Zae pg Zhb [.slice a0 n0 c0 e0] h Q :=
 Zae.of_body kp (c := cod fn) (fn := fn) Go.Proofs.Tryz.func153 (by kernel_rfl) (by kernel_rfl) (Nat.le_of_ble_eq_true (by kernel_rfl))
  (cast (by kernel_rfl) ht)
end Zdn
namespace Zco
noncomputable abbrev fn : Func := Go.Proofs.Tryz.f130
def kp : Zcd := [(4000003, [1, 0]), (3000005, [6]), (1000005, [0, 1, 6, 20, 21]), (3000009, [6, 8, 21, 20, 1, 0]), (1000009, [0, 1, 6, 8, 20, 21, 29, 30, 31])]
noncomputable def C (p : List Nat) : Code := (cod fn).sub p
def KR (Q : QT) : KT := Zem pg fn.results.toList Q
abbrev T5 := Pt → Nat → Nat → Bool → List Nat → List Nat → Int → Int → Zaa → Prop
def E5 (R5 : T5) (env : Env) (h : Zaa) : Prop := Zbj 0 env fun v env => xSl (some v) fun a0 n0 c0 e0 => Zbj 1 env fun v env => Zbp (some v) fun x1 => Zbj 6 env fun v env => Zbp (some v) fun x6 => Zbj 20 env fun v env => Zda .i64 v fun x20 => Zbj 21 env fun v env => Zda .i64 v fun x21 => Ziw env (R5 a0 n0 c0 e0 x1 x6 x20 x21 h)
theorem Zie {R5 : T5} {env : Env} {h : Zaa} (hi : E5 R5 env h) : ∃ a0, ∃ n0, ∃ c0, ∃ e0, ∃ x1, ∃ x6, ∃ x20, ∃ x21, env = [(0, .slice a0 n0 c0 e0), (1, .str x1), (6, .str x6), (20, .int .i64 x20), (21, .int .i64 x21)] ∧ R5 a0 n0 c0 e0 x1 x6 x20 x21 h := by
 unfold E5 at hi
 have hi0 := hi
 clear hi
 obtain ⟨_, _, rfl, hi1⟩ := Zab hi0
 obtain ⟨a0, n0, c0, e0, rfl, hi2⟩ := Zax hi1
 obtain ⟨_, _, rfl, hi3⟩ := Zab hi2
 obtain ⟨x1, rfl, hi4⟩ := Zdw hi3
 obtain ⟨_, _, rfl, hi5⟩ := Zab hi4
 obtain ⟨x6, rfl, hi6⟩ := Zdw hi5
 obtain ⟨_, _, rfl, hi7⟩ := Zab hi6
 obtain ⟨x20, rfl, hi8⟩ := Zak hi7
 obtain ⟨_, _, rfl, hi9⟩ := Zab hi8
 obtain ⟨x21, rfl, hi10⟩ := Zak hi9
 obtain ⟨rfl, hi11⟩ := Zbk hi10
 have hi := hi11
 exact ⟨a0, n0, c0, e0, x1, x6, x20, x21, rfl, hi⟩
abbrev T9 := Pt → Nat → Nat → Bool → List Nat → List Nat → List Nat → Int → Int → Pt → Nat → Nat → Bool → Int → Int → Zaa → Prop
def E9 (R9 : T9) (env : Env) (h : Zaa) : Prop := Zbj 0 env fun v env => xSl (some v) fun a0 n0 c0 e0 => Zbj 1 env fun v env => Zbp (some v) fun x1 => Zbj 6 env fun v env => Zbp (some v) fun x6 => Zbj 8 env fun v env => Zbp (some v) fun x8 => Zbj 20 env fun v env => Zda .i64 v fun x20 => Zbj 21 env fun v env => Zda .i64 v fun x21 => Zbj 29 env fun v env => xSl (some v) fun a29 n29 c29 e29 => Zbj 30 env fun v env => Zda .i64 v fun x30 => Zbj 31 env fun v env => Zda .i64 v fun x31 => Ziw env (R9 a0 n0 c0 e0 x1 x6 x8 x20 x21 a29 n29 c29 e29 x30 x31 h)
theorem Yah {R9 : T9} {env : Env} {h : Zaa} (hi : E9 R9 env h) : ∃ a0, ∃ n0, ∃ c0, ∃ e0, ∃ x1, ∃ x6, ∃ x8, ∃ x20, ∃ x21, ∃ a29, ∃ n29, ∃ c29, ∃ e29, ∃ x30, ∃ x31, env = [(0, .slice a0 n0 c0 e0), (1, .str x1), (6, .str x6), (8, .str x8), (20, .int .i64 x20), (21, .int .i64 x21), (29, .slice a29 n29 c29 e29), (30, .int .i64 x30), (31, .int .i64 x31)] ∧ R9 a0 n0 c0 e0 x1 x6 x8 x20 x21 a29 n29 c29 e29 x30 x31 h := by
 unfold E9 at hi
 have hi0 := hi
 clear hi
 obtain ⟨_, _, rfl, hi1⟩ := Zab hi0
 obtain ⟨a0, n0, c0, e0, rfl, hi2⟩ := Zax hi1
 obtain ⟨_, _, rfl, hi3⟩ := Zab hi2
 obtain ⟨x1, rfl, hi4⟩ := Zdw hi3
 obtain ⟨_, _, rfl, hi5⟩ := Zab hi4
 obtain ⟨x6, rfl, hi6⟩ := Zdw hi5
 obtain ⟨_, _, rfl, hi7⟩ := Zab hi6
 obtain ⟨x8, rfl, hi8⟩ := Zdw hi7
 obtain ⟨_, _, rfl, hi9⟩ := Zab hi8
 obtain ⟨x20, rfl, hi10⟩ := Zak hi9
 obtain ⟨_, _, rfl, hi11⟩ := Zab hi10
 obtain ⟨x21, rfl, hi12⟩ := Zak hi11
 obtain ⟨_, _, rfl, hi13⟩ := Zab hi12
 obtain ⟨a29, n29, c29, e29, rfl, hi14⟩ := Zax hi13
 obtain ⟨_, _, rfl, hi15⟩ := Zab hi14
 obtain ⟨x30, rfl, hi16⟩ := Zak hi15
 obtain ⟨_, _, rfl, hi17⟩ := Zab hi16
 obtain ⟨x31, rfl, hi18⟩ := Zak hi17
 obtain ⟨rfl, hi19⟩ := Zbk hi18
 have hi := hi19
 exact ⟨a0, n0, c0, e0, x1, x6, x8, x20, x21, a29, n29, c29, e29, x30, x31, rfl, hi⟩
def K0 (Q : QT) : KT := andThen (fun env' h' => (match kp.find 4000016 with | some ks => Den pg fn.ntmps (C [1, 1, 1, 1]) (env'.keep ks) h' (KR Q) | none => den pg fn.ntmps kp (C [1, 1, 1, 1]) env' h' (KR Q))) (KR Q)
def K1 (Q : QT) : KT := Zcg 0 (K0 Q)
def K2 (Q : QT) : KT := Zgf kp 5 (K1 Q)
def K3 (Q : QT) (R5 : T5) : KT := rnd ((kp.find 1000005).getD []) (E5 R5) (K2 Q)
def K4 (Q : QT) (R5 : T5) : KT := andThen (fun env' h' => (match kp.find 4000015 with | some ks => Den pg fn.ntmps (C [1, 1, 1, 0, 1, 0, 0, 1, 1, 1]) (env'.keep ks) h' (K3 Q R5) | none => den pg fn.ntmps kp (C [1, 1, 1, 0, 1, 0, 0, 1, 1, 1]) env' h' (K3 Q R5))) (K3 Q R5)
def K5 (Q : QT) (R5 : T5) : KT := Zcg 1 (K4 Q R5)
def K6 (Q : QT) (R5 : T5) : KT := andThen (fun env' h' => (match kp.find 4000014 with | some ks => Den pg fn.ntmps (C [1, 1, 1, 0, 1, 0, 0, 1, 1, 0, 0, 1, 1, 1]) (env'.keep ks) h' (K5 Q R5) | none => den pg fn.ntmps kp (C [1, 1, 1, 0, 1, 0, 0, 1, 1, 0, 0, 1, 1, 1]) env' h' (K5 Q R5))) (K5 Q R5)
def K7 (Q : QT) (R5 : T5) : KT := Zcg 2 (K6 Q R5)
def K8 (Q : QT) (R5 : T5) : KT := Zgf kp 9 (K7 Q R5)
def K9 (Q : QT) (R5 : T5) (R9 : T9) : KT := rnd ((kp.find 1000009).getD []) (E9 R9) (K8 Q R5)
def J3 (Q : QT) (x1 : List Nat) (a0 : Pt) (n0 c0 : Nat) (e0 : Bool) (h : Zaa) : Prop := Den pg fn.ntmps (C [1, 1]) [(1, .str x1), (0, .slice a0 n0 c0 e0)] h (KR Q)
def L5 (Q : QT) (a0 : Pt) (n0 c0 : Nat) (e0 : Bool) (x1 x6 : List Nat) (x20 x21 : Int) (h : Zaa) : Prop := Zdz (Den pg fn.ntmps (C [1, 1, 1, 0, 1, 0, 0])) ((kp.find 1000005).getD []) (K2 Q) [(0, .slice a0 n0 c0 e0), (1, .str x1), (6, .str x6), (20, .int .i64 x20), (21, .int .i64 x21)] h
def L9 (Q : QT) (R5 : T5) (a0 : Pt) (n0 c0 : Nat) (e0 : Bool) (x1 x6 x8 : List Nat) (x20 x21 : Int) (a29 : Pt) (n29 c29 : Nat) (e29 : Bool) (x30 x31 : Int) (h : Zaa) : Prop := Zdz (Den pg fn.ntmps (C [1, 1, 1, 0, 1, 0, 0, 1, 1, 0, 0, 1, 1, 0, 1, 0, 0])) ((kp.find 1000009).getD []) (K8 Q R5) [(0, .slice a0 n0 c0 e0), (1, .str x1), (6, .str x6), (8, .str x8), (20, .int .i64 x20), (21, .int .i64 x21), (29, .slice a29 n29 c29 e29), (30, .int .i64 x30), (31, .int .i64 x31)] h
def A5x0 (Q : QT) (x6 : List Nat) (h : Zaa) : Prop := At (K1 Q) (.exit 0) [(6, .str x6)] h
def A9x2 (Q : QT) (R5 : T5) (x6 x8 : List Nat) (x21 x20 : Int) (x1 : List Nat) (a0 : Pt) (n0 c0 : Nat) (e0 : Bool) (h : Zaa) : Prop := At (K7 Q R5) (.exit 2) [(6, .str x6), (8, .str x8), (21, .int .i64 x21), (20, .int .i64 x20), (1, .str x1), (0, .slice a0 n0 c0 e0)] h
theorem J3i (Q : QT) (x1 : List Nat) (a0 : Pt) (n0 c0 : Nat) (e0 : Bool) (h : Zaa) (ht :
 L5 Q a0 n0 c0 e0 x1 [] (((List.length x1 : Nat) : Int)) 0 h) : J3 Q x1 a0 n0 c0 e0 h :=
 Zbb (kp := kp) (cast (by kernel_rfl) ht)
def L5t (Q : QT) (R5 : T5) (a0 : Pt) (n0 c0 : Nat) (e0 : Bool) (x1 x6 : List Nat) (x20 x21 : Int) (h : Zaa) : Prop :=
 bcase (decide ((x21 : Int) < x20)) ((0 ≤ (x21 : Int) ∧ (x21 : Int) ≤ IntKind.wrap .i64 (x21 + 1) ∧ (IntKind.wrap .i64 (x21 + 1) : Int) ≤ (List.length x1 : Nat)) ∧ (L9 Q R5 a0 n0 c0 e0 x1 x6 (sub x1 x21 (IntKind.wrap .i64 (x21 + 1))) x20 x21 a0 n0 c0 e0 (((n0 : Nat) : Int)) 0 h)) (A5x0 Q x6 h)
theorem Ztn (Q : QT) (R5 : T5) (a0 : Pt) (n0 c0 : Nat) (e0 : Bool) (x1 x6 : List Nat) (x20 x21 : Int) (h : Zaa) (ht : L5t Q R5 a0 n0 c0 e0 x1 x6 x20 x21 h) : Den pg fn.ntmps (C [1, 1, 1, 0, 1, 0, 0]) [(0, .slice a0 n0 c0 e0), (1, .str x1), (6, .str x6), (20, .int .i64 x20), (21, .int .i64 x21)] h (K3 Q R5) :=
 Zbb (kp := kp) (cast (by kernel_rfl) ht)
theorem L5ind (Q : QT) (a0 : Pt) (n0 c0 : Nat) (e0 : Bool) (x1 : List Nat) (x20 : Int) {G : Type} (J : G → List Nat → Int → Zaa → Prop) (m : G → Nat)
 (hr : ∀ (g : G) (x6 : List Nat) (x21 : Int) (h : Zaa), J g x6 x21 h → ∀ (R5 : T5), (∀ g' (x6 : List Nat) (x21 : Int) (h : Zaa), m g' < m g → J g' x6 x21 h → R5 a0 n0 c0 e0 x1 x6 x20 x21 h) → L5t Q R5 a0 n0 c0 e0 x1 x6 x20 x21 h)
 (g : G) (x6 : List Nat) (x21 : Int) (h : Zaa) (hj : J g x6 x21 h) : L5 Q a0 n0 c0 e0 x1 x6 x20 x21 h := by
 refine Zdz.inv2 (fun g => E5 fun a0' n0' c0' e0' x1' x6 x20' x21 h => a0 = a0' ∧ n0 = n0' ∧ c0 = c0' ∧ e0 = e0' ∧ x1 = x1' ∧ x20 = x20' ∧ J g x6 x21 h) (fun g => E5 fun a0' n0' c0' e0' x1' x6 x20' x21 h => a0 = a0' ∧ n0 = n0' ∧ c0 = c0' ∧ e0 = e0' ∧ x1 = x1' ∧ x20 = x20' ∧ ∃ g', m g' < m g ∧ J g' x6 x21 h) m ?_ ?_ g ⟨rfl, rfl, rfl, rfl, rfl, rfl, hj⟩
 ·intro g env h hi
  obtain ⟨a0', n0', c0', e0', x1', x6, x20', x21, rfl, rfl, rfl, rfl, rfl, rfl, rfl, hj⟩ := Zie hi
  exact Ztn Q _ a0 n0 c0 e0 x1 x6 x20 x21 h (hr g x6 x21 h hj (fun a0' n0' c0' e0' x1' x6 x20' x21 h => a0 = a0' ∧ n0 = n0' ∧ c0 = c0' ∧ e0 = e0' ∧ x1 = x1' ∧ x20 = x20' ∧ ∃ g', m g' < m g ∧ J g' x6 x21 h) fun g' x6 x21 h hlt hj => ⟨rfl, rfl, rfl, rfl, rfl, rfl, g', hlt, hj⟩)
 ·intro g env h hi
  obtain ⟨a0', n0', c0', e0', x1', x6, x20', x21, rfl, rfl, rfl, rfl, rfl, rfl, rfl, g', hlt, hj⟩ := Zie hi
  exact ⟨g', hlt, rfl, rfl, rfl, rfl, rfl, rfl, hj⟩
def L9t (Q : QT) (R5 : T5) (R9 : T9) (a0 : Pt) (n0 c0 : Nat) (e0 : Bool) (x1 x6 x8 : List Nat) (x20 x21 : Int) (a29 : Pt) (n29 c29 : Nat) (e29 : Bool) (x30 x31 : Int) (h : Zaa) : Prop :=
 bcase (decide ((x31 : Int) < x30)) ((0 ≤ (x31 : Int) ∧ (x31 : Int) < (n29 : Nat)) ∧ (Zbl a29 fun I6 O7 => Zcz (Zbx h (.ptr (some (I6, O7 + (Int.toNat x31) * 2))) 2) fun K8 => Zao K8 fun C9 Z10 => Zbp (some C9) fun S11 => Zao Z10 fun C12 Z13 => Zbp (some C12) fun S14 => Zcl Z13 (Zcn (h ++ [.cells Zbe [.str [], .str []] false]) fun H15 => Zcp (Zbn H15 (.ptr (some (h.length, 0))) [.str S11, .str S14]) fun H16 => Zbp (Zal H16 (.ptr (some (h.length, 0 + 0)))) fun S17 => bcase (decide (S17 = x8)) (Zbp (Zal H16 (.ptr (some (h.length, 0 + 1)))) fun S18 => A9x2 Q R5 x6 S18 x21 x20 x1 a0 n0 c0 e0 H16) (R9 a0 n0 c0 e0 x1 x6 x8 x20 x21 a29 n29 c29 e29 x30 (IntKind.wrap .i64 (x31 + 1)) H16)))) (A9x2 Q R5 x6 x8 x21 x20 x1 a0 n0 c0 e0 h)
theorem Yqd (Q : QT) (R5 : T5) (R9 : T9) (a0 : Pt) (n0 c0 : Nat) (e0 : Bool) (x1 x6 x8 : List Nat) (x20 x21 : Int) (a29 : Pt) (n29 c29 : Nat) (e29 : Bool) (x30 x31 : Int) (h : Zaa) (ht : L9t Q R5 R9 a0 n0 c0 e0 x1 x6 x8 x20 x21 a29 n29 c29 e29 x30 x31 h) : Den pg fn.ntmps (C [1, 1, 1, 0, 1, 0, 0, 1, 1, 0, 0, 1, 1, 0, 1, 0, 0]) [(0, .slice a0 n0 c0 e0), (1, .str x1), (6, .str x6), (8, .str x8), (20, .int .i64 x20), (21, .int .i64 x21), (29, .slice a29 n29 c29 e29), (30, .int .i64 x30), (31, .int .i64 x31)] h (K9 Q R5 R9) :=
 Zbb (kp := kp) (cast (by kernel_rfl) ht)
theorem L9ind (Q : QT) (R5 : T5) (a0 : Pt) (n0 c0 : Nat) (e0 : Bool) (x1 x6 : List Nat) (x20 x21 : Int) (a29 : Pt) (n29 c29 : Nat) (e29 : Bool) (x30 : Int) {G : Type} (J : G → List Nat → Int → Zaa → Prop) (m : G → Nat)
 (hr : ∀ (g : G) (x8 : List Nat) (x31 : Int) (h : Zaa), J g x8 x31 h → ∀ (R9 : T9), (∀ g' (x8 : List Nat) (x31 : Int) (h : Zaa), m g' < m g → J g' x8 x31 h → R9 a0 n0 c0 e0 x1 x6 x8 x20 x21 a29 n29 c29 e29 x30 x31 h) → L9t Q R5 R9 a0 n0 c0 e0 x1 x6 x8 x20 x21 a29 n29 c29 e29 x30 x31 h)
 (g : G) (x8 : List Nat) (x31 : Int) (h : Zaa) (hj : J g x8 x31 h) : L9 Q R5 a0 n0 c0 e0 x1 x6 x8 x20 x21 a29 n29 c29 e29 x30 x31 h := by
 refine Zdz.inv2 (fun g => E9 fun a0' n0' c0' e0' x1' x6' x8 x20' x21' a29' n29' c29' e29' x30' x31 h => a0 = a0' ∧ n0 = n0' ∧ c0 = c0' ∧ e0 = e0' ∧ x1 = x1' ∧ x6 = x6' ∧ x20 = x20' ∧ x21 = x21' ∧ a29 = a29' ∧ n29 = n29' ∧ c29 = c29' ∧ e29 = e29' ∧ x30 = x30' ∧ J g x8 x31 h) (fun g => E9 fun a0' n0' c0' e0' x1' x6' x8 x20' x21' a29' n29' c29' e29' x30' x31 h => a0 = a0' ∧ n0 = n0' ∧ c0 = c0' ∧ e0 = e0' ∧ x1 = x1' ∧ x6 = x6' ∧ x20 = x20' ∧ x21 = x21' ∧ a29 = a29' ∧ n29 = n29' ∧ c29 = c29' ∧ e29 = e29' ∧ x30 = x30' ∧ ∃ g', m g' < m g ∧ J g' x8 x31 h) m ?_ ?_ g ⟨rfl, rfl, rfl, rfl, rfl, rfl, rfl, rfl, rfl, rfl, rfl, rfl, rfl, hj⟩
 ·intro g env h hi
  obtain ⟨a0', n0', c0', e0', x1', x6', x8, x20', x21', a29', n29', c29', e29', x30', x31, rfl, rfl, rfl, rfl, rfl, rfl, rfl, rfl, rfl, rfl, rfl, rfl, rfl, rfl, hj⟩ := Yah hi
  exact Yqd Q R5 (fun a0' n0' c0' e0' x1' x6' x8 x20' x21' a29' n29' c29' e29' x30' x31 h => a0 = a0' ∧ n0 = n0' ∧ c0 = c0' ∧ e0 = e0' ∧ x1 = x1' ∧ x6 = x6' ∧ x20 = x20' ∧ x21 = x21' ∧ a29 = a29' ∧ n29 = n29' ∧ c29 = c29' ∧ e29 = e29' ∧ x30 = x30' ∧ ∃ g', m g' < m g ∧ J g' x8 x31 h) a0 n0 c0 e0 x1 x6 x8 x20 x21 a29 n29 c29 e29 x30 x31 h (hr g x8 x31 h hj (fun a0' n0' c0' e0' x1' x6' x8 x20' x21' a29' n29' c29' e29' x30' x31 h => a0 = a0' ∧ n0 = n0' ∧ c0 = c0' ∧ e0 = e0' ∧ x1 = x1' ∧ x6 = x6' ∧ x20 = x20' ∧ x21 = x21' ∧ a29 = a29' ∧ n29 = n29' ∧ c29 = c29' ∧ e29 = e29' ∧ x30 = x30' ∧ ∃ g', m g' < m g ∧ J g' x8 x31 h) fun g' x8 x31 h hlt hj => ⟨rfl, rfl, rfl, rfl, rfl, rfl, rfl, rfl, rfl, rfl, rfl, rfl, rfl, g', hlt, hj⟩)
 ·intro g env h hi
  obtain ⟨a0', n0', c0', e0', x1', x6', x8, x20', x21', a29', n29', c29', e29', x30', x31, rfl, rfl, rfl, rfl, rfl, rfl, rfl, rfl, rfl, rfl, rfl, rfl, rfl, rfl, g', hlt, hj⟩ := Yah hi
  exact ⟨g', hlt, rfl, rfl, rfl, rfl, rfl, rfl, rfl, rfl, rfl, rfl, rfl, rfl, rfl, hj⟩
theorem A5x0i (Q : QT) (x6 : List Nat) (h : Zaa) (ht :
 bcase (decide (((((List.length x6 : Nat) : Int)) : Int) > 60)) (Q (.tup [.str [], .bool false]) h) (Q (.tup [.str x6, .bool true]) h)) : A5x0 Q x6 h :=
 At.mk (cast (by kernel_rfl) ht)
theorem A9x2i (Q : QT) (R5 : T5) (x6 x8 : List Nat) (x21 x20 : Int) (x1 : List Nat) (a0 : Pt) (n0 c0 : Nat) (e0 : Bool) (h : Zaa) (ht :
 List.length x6 + List.length x8 ≤ 9223372036854775807 ∧ (R5 a0 n0 c0 e0 x1 (x6 ++ x8) x20 (IntKind.wrap .i64 (x21 + 1)) h)) : A9x2 Q R5 x6 x8 x21 x20 x1 a0 n0 c0 e0 h :=
 At.mk (cast (by kernel_rfl) ht)
theorem call (a0 : Pt) (n0 c0 : Nat) (e0 : Bool) (x1 : List Nat) (h : Zaa) (Q : QT) (ht :
 Zae pg Zhb [.slice a0 n0 c0 e0] h fun V0 H1 =>
 Zch (some V0) fun B2 => bcase (!B2) (Q (.tup [.str [], .bool false]) H1) (Zae pg Zeq [.str x1] H1 fun V3 H4 =>
 Zch (some V3) fun B5 => bcase (!B5) (Q (.tup [.str [], .bool false]) H4) (J3 Q x1 a0 n0 c0 e0 H4))) : Zae pg Zhc [.slice a0 n0 c0 e0, .str x1] h Q :=
 Zae.of_body kp (c := cod fn) (fn := fn) Go.Proofs.Tryz.func130 (by kernel_rfl) (by kernel_rfl) (Nat.le_of_ble_eq_true (by kernel_rfl))
  (cast (by kernel_rfl) ht)
end Zco
namespace Zdb
noncomputable abbrev fn : Func := Go.Proofs.Tryz.f94
def kp : Zcd := [(3000004, [7, 8]), (1000004, [6, 7, 8, 23, 24, 25]), (4000008, [8, 10, 11, 25, 24, 23, 6, 7]), (4000009, [25, 24, 23, 6, 7, 8])]
noncomputable def C (p : List Nat) : Code := (cod fn).sub p
def KR (Q : QT) : KT := Zem pg fn.results.toList Q
abbrev T4 := Pt → Nat → Nat → Bool → Bool → Pt → Nat → Nat → Bool → Pt → Nat → Nat → Bool → Int → Int → Zaa → Prop
def E4 (R4 : T4) (env : Env) (h : Zaa) : Prop := Zbj 6 env fun v env => xSl (some v) fun a6 n6 c6 e6 => Zbj 7 env fun v env => Zch (some v) fun x7 => Zbj 8 env fun v env => xSl (some v) fun a8 n8 c8 e8 => Zbj 23 env fun v env => xSl (some v) fun a23 n23 c23 e23 => Zbj 24 env fun v env => Zda .i64 v fun x24 => Zbj 25 env fun v env => Zda .i64 v fun x25 => Ziw env (R4 a6 n6 c6 e6 x7 a8 n8 c8 e8 a23 n23 c23 e23 x24 x25 h)
theorem Zic {R4 : T4} {env : Env} {h : Zaa} (hi : E4 R4 env h) : ∃ a6, ∃ n6, ∃ c6, ∃ e6, ∃ x7, ∃ a8, ∃ n8, ∃ c8, ∃ e8, ∃ a23, ∃ n23, ∃ c23, ∃ e23, ∃ x24, ∃ x25, env = [(6, .slice a6 n6 c6 e6), (7, .bool x7), (8, .slice a8 n8 c8 e8), (23, .slice a23 n23 c23 e23), (24, .int .i64 x24), (25, .int .i64 x25)] ∧ R4 a6 n6 c6 e6 x7 a8 n8 c8 e8 a23 n23 c23 e23 x24 x25 h := by
 unfold E4 at hi
 have hi0 := hi
 clear hi
 obtain ⟨_, _, rfl, hi1⟩ := Zab hi0
 obtain ⟨a6, n6, c6, e6, rfl, hi2⟩ := Zax hi1
 obtain ⟨_, _, rfl, hi3⟩ := Zab hi2
 obtain ⟨x7, rfl, hi4⟩ := Ygy hi3
 obtain ⟨_, _, rfl, hi5⟩ := Zab hi4
 obtain ⟨a8, n8, c8, e8, rfl, hi6⟩ := Zax hi5
 obtain ⟨_, _, rfl, hi7⟩ := Zab hi6
 obtain ⟨a23, n23, c23, e23, rfl, hi8⟩ := Zax hi7
 obtain ⟨_, _, rfl, hi9⟩ := Zab hi8
 obtain ⟨x24, rfl, hi10⟩ := Zak hi9
 obtain ⟨_, _, rfl, hi11⟩ := Zab hi10
 obtain ⟨x25, rfl, hi12⟩ := Zak hi11
 obtain ⟨rfl, hi13⟩ := Zbk hi12
 have hi := hi13
 exact ⟨a6, n6, c6, e6, x7, a8, n8, c8, e8, a23, n23, c23, e23, x24, x25, rfl, hi⟩
def K0 (Q : QT) : KT := andThen (fun env' h' => (match kp.find 4000010 with | some ks => Den pg fn.ntmps (C [1, 1, 1, 1]) (env'.keep ks) h' (KR Q) | none => den pg fn.ntmps kp (C [1, 1, 1, 1]) env' h' (KR Q))) (KR Q)
def K1 (Q : QT) : KT := Zcg 0 (K0 Q)
def K2 (Q : QT) : KT := Zgf kp 4 (K1 Q)
def K3 (Q : QT) (R4 : T4) : KT := rnd ((kp.find 1000004).getD []) (E4 R4) (K2 Q)
def K4 (Q : QT) (R4 : T4) : KT := andThen (fun env' h' => (match kp.find 4000009 with | some ks => Den pg fn.ntmps (C [1, 1, 1, 0, 1, 0, 0, 1, 1, 1]) (env'.keep ks) h' (K3 Q R4) | none => den pg fn.ntmps kp (C [1, 1, 1, 0, 1, 0, 0, 1, 1, 1]) env' h' (K3 Q R4))) (K3 Q R4)
def K5 (Q : QT) (R4 : T4) : KT := Zcg 1 (K4 Q R4)
def L4 (Q : QT) (a6 : Pt) (n6 c6 : Nat) (e6 x7 : Bool) (a8 : Pt) (n8 c8 : Nat) (e8 : Bool) (a23 : Pt) (n23 c23 : Nat) (e23 : Bool) (x24 x25 : Int) (h : Zaa) : Prop := Zdz (Den pg fn.ntmps (C [1, 1, 1, 0, 1, 0, 0])) ((kp.find 1000004).getD []) (K2 Q) [(6, .slice a6 n6 c6 e6), (7, .bool x7), (8, .slice a8 n8 c8 e8), (23, .slice a23 n23 c23 e23), (24, .int .i64 x24), (25, .int .i64 x25)] h
def J8 (Q : QT) (R4 : T4) (a8 : Pt) (n8 c8 : Nat) (e8 : Bool) (i10 o10 : Nat) (x11 : List Nat) (x25 x24 : Int) (a23 : Pt) (n23 c23 : Nat) (e23 : Bool) (a6 : Pt) (n6 c6 : Nat) (e6 x7 : Bool) (h : Zaa) : Prop := Den pg fn.ntmps (C [1, 1, 1, 0, 1, 0, 0, 1, 1, 0, 0, 1, 1, 1]) [(8, .slice a8 n8 c8 e8), (10, .ptr (some (i10, o10))), (11, .str x11), (25, .int .i64 x25), (24, .int .i64 x24), (23, .slice a23 n23 c23 e23), (6, .slice a6 n6 c6 e6), (7, .bool x7)] h (K5 Q R4)
def Zxx (Q : QT) (x7 : Bool) (a8 : Pt) (n8 c8 : Nat) (e8 : Bool) (h : Zaa) : Prop := At (K1 Q) (.exit 0) [(7, .bool x7), (8, .slice a8 n8 c8 e8)] h
def J9 (Q : QT) (R4 : T4) (x25 x24 : Int) (a23 : Pt) (n23 c23 : Nat) (e23 : Bool) (a6 : Pt) (n6 c6 : Nat) (e6 x7 : Bool) (a8 : Pt) (n8 c8 : Nat) (e8 : Bool) (h : Zaa) : Prop := Den pg fn.ntmps (C [1, 1, 1, 0, 1, 0, 0, 1, 1, 1]) [(25, .int .i64 x25), (24, .int .i64 x24), (23, .slice a23 n23 c23 e23), (6, .slice a6 n6 c6 e6), (7, .bool x7), (8, .slice a8 n8 c8 e8)] h (K3 Q R4)
def L4t (Q : QT) (R4 : T4) (a6 : Pt) (n6 c6 : Nat) (e6 x7 : Bool) (a8 : Pt) (n8 c8 : Nat) (e8 : Bool) (a23 : Pt) (n23 c23 : Nat) (e23 : Bool) (x24 x25 : Int) (h : Zaa) : Prop :=
 bcase (decide ((x25 : Int) < x24)) ((0 ≤ (x25 : Int) ∧ (x25 : Int) < (n23 : Nat)) ∧ (Zbl a23 fun I19 O20 => Zcz (Zbx h (.ptr (some (I19, O20 + (Int.toNat x25) * 2))) 2) fun K21 => Zao K21 fun C22 Z23 => Zbp (some C22) fun S24 => Zao Z23 fun C25 Z26 => Zbp (some C25) fun S27 => Zcl Z26 (Zcn (h ++ [.cells Zad [.str [], .str []] false]) fun H28 => Zcp (Zbn H28 (.ptr (some (h.length, 0))) [.str S24, .str S27]) fun H29 => Zbp (Zal H29 (.ptr (some (h.length, 0 + 1)))) fun S30 => Zae pg Zhc [.slice a6 n6 c6 e6, .str S30] H29 fun V31 H32 =>
 Ztq V31 fun K33 => Zao K33 fun C34 Z35 => Zbp (some C34) fun S36 => Zao Z35 fun C37 Z38 => Zch (some C37) fun B39 => Zcl Z38 (bcase x7 (J8 Q R4 a8 n8 c8 e8 h.length 0 S36 x25 x24 a23 n23 c23 e23 a6 n6 c6 e6 B39 H32) (J8 Q R4 a8 n8 c8 e8 h.length 0 S36 x25 x24 a23 n23 c23 e23 a6 n6 c6 e6 false H32))))) (Zxx Q x7 a8 n8 c8 e8 h)
theorem Zsz (Q : QT) (R4 : T4) (a6 : Pt) (n6 c6 : Nat) (e6 x7 : Bool) (a8 : Pt) (n8 c8 : Nat) (e8 : Bool) (a23 : Pt) (n23 c23 : Nat) (e23 : Bool) (x24 x25 : Int) (h : Zaa) (ht : L4t Q R4 a6 n6 c6 e6 x7 a8 n8 c8 e8 a23 n23 c23 e23 x24 x25 h) : Den pg fn.ntmps (C [1, 1, 1, 0, 1, 0, 0]) [(6, .slice a6 n6 c6 e6), (7, .bool x7), (8, .slice a8 n8 c8 e8), (23, .slice a23 n23 c23 e23), (24, .int .i64 x24), (25, .int .i64 x25)] h (K3 Q R4) :=
 Zbb (kp := kp) (cast (by kernel_rfl) ht)
theorem L4ind (Q : QT) (a6 : Pt) (n6 c6 : Nat) (e6 : Bool) (a23 : Pt) (n23 c23 : Nat) (e23 : Bool) (x24 : Int) {G : Type} (J : G → Bool → Pt → Nat → Nat → Bool → Int → Zaa → Prop) (m : G → Nat)
 (hr : ∀ (g : G) (x7 : Bool) (a8 : Pt) (n8 c8 : Nat) (e8 : Bool) (x25 : Int) (h : Zaa), J g x7 a8 n8 c8 e8 x25 h → ∀ (R4 : T4), (∀ g' (x7 : Bool) (a8 : Pt) (n8 c8 : Nat) (e8 : Bool) (x25 : Int) (h : Zaa), m g' < m g → J g' x7 a8 n8 c8 e8 x25 h → R4 a6 n6 c6 e6 x7 a8 n8 c8 e8 a23 n23 c23 e23 x24 x25 h) → L4t Q R4 a6 n6 c6 e6 x7 a8 n8 c8 e8 a23 n23 c23 e23 x24 x25 h)
 (g : G) (x7 : Bool) (a8 : Pt) (n8 c8 : Nat) (e8 : Bool) (x25 : Int) (h : Zaa) (hj : J g x7 a8 n8 c8 e8 x25 h) : L4 Q a6 n6 c6 e6 x7 a8 n8 c8 e8 a23 n23 c23 e23 x24 x25 h := by
 refine Zdz.inv2 (fun g => E4 fun a6' n6' c6' e6' x7 a8 n8 c8 e8 a23' n23' c23' e23' x24' x25 h => a6 = a6' ∧ n6 = n6' ∧ c6 = c6' ∧ e6 = e6' ∧ a23 = a23' ∧ n23 = n23' ∧ c23 = c23' ∧ e23 = e23' ∧ x24 = x24' ∧ J g x7 a8 n8 c8 e8 x25 h) (fun g => E4 fun a6' n6' c6' e6' x7 a8 n8 c8 e8 a23' n23' c23' e23' x24' x25 h => a6 = a6' ∧ n6 = n6' ∧ c6 = c6' ∧ e6 = e6' ∧ a23 = a23' ∧ n23 = n23' ∧ c23 = c23' ∧ e23 = e23' ∧ x24 = x24' ∧ ∃ g', m g' < m g ∧ J g' x7 a8 n8 c8 e8 x25 h) m ?_ ?_ g ⟨rfl, rfl, rfl, rfl, rfl, rfl, rfl, rfl, rfl, hj⟩
 ·intro g env h hi
  obtain ⟨a6', n6', c6', e6', x7, a8, n8, c8, e8, a23', n23', c23', e23', x24', x25, rfl, rfl, rfl, rfl, rfl, rfl, rfl, rfl, rfl, rfl, hj⟩ := Zic hi
  exact Zsz Q _ a6 n6 c6 e6 x7 a8 n8 c8 e8 a23 n23 c23 e23 x24 x25 h (hr g x7 a8 n8 c8 e8 x25 h hj (fun a6' n6' c6' e6' x7 a8 n8 c8 e8 a23' n23' c23' e23' x24' x25 h => a6 = a6' ∧ n6 = n6' ∧ c6 = c6' ∧ e6 = e6' ∧ a23 = a23' ∧ n23 = n23' ∧ c23 = c23' ∧ e23 = e23' ∧ x24 = x24' ∧ ∃ g', m g' < m g ∧ J g' x7 a8 n8 c8 e8 x25 h) fun g' x7 a8 n8 c8 e8 x25 h hlt hj => ⟨rfl, rfl, rfl, rfl, rfl, rfl, rfl, rfl, rfl, g', hlt, hj⟩)
 ·intro g env h hi
  obtain ⟨a6', n6', c6', e6', x7, a8, n8, c8, e8, a23', n23', c23', e23', x24', x25, rfl, rfl, rfl, rfl, rfl, rfl, rfl, rfl, rfl, rfl, g', hlt, hj⟩ := Zic hi
  exact ⟨g', hlt, rfl, rfl, rfl, rfl, rfl, rfl, rfl, rfl, rfl, hj⟩
theorem J8i (Q : QT) (R4 : T4) (a8 : Pt) (n8 c8 : Nat) (e8 : Bool) (i10 o10 : Nat) (x11 : List Nat) (x25 x24 : Int) (a23 : Pt) (n23 c23 : Nat) (e23 : Bool) (a6 : Pt) (n6 c6 : Nat) (e6 x7 : Bool) (h : Zaa) (ht :
 Zbp (Zal h (.ptr (some (i10, o10 + 0)))) fun S40 => Zcn (h ++ [.cells Zad [.str S40, .str x11] false]) fun H41 => Zdc pg Zir H41 (.slice a8 n8 c8 e8) (.slice (some (h.length, 0)) 1 1 true) fun V42 H43 => xSl (some V42) fun A44 N45 C46 E47 => J9 Q R4 x25 x24 a23 n23 c23 e23 a6 n6 c6 e6 x7 A44 N45 C46 E47 H43) : J8 Q R4 a8 n8 c8 e8 i10 o10 x11 x25 x24 a23 n23 c23 e23 a6 n6 c6 e6 x7 h :=
 Zbb (kp := kp) (cast (by kernel_rfl) ht)
theorem A4x0i (Q : QT) (x7 : Bool) (a8 : Pt) (n8 c8 : Nat) (e8 : Bool) (h : Zaa) (ht :
 bcase (!x7) (Q (.tup [.slice none 0 0 true, .bool false]) h) (Q (.tup [.slice a8 n8 c8 e8, .bool true]) h)) : Zxx Q x7 a8 n8 c8 e8 h :=
 At.mk (cast (by kernel_rfl) ht)
theorem J9i (Q : QT) (R4 : T4) (x25 x24 : Int) (a23 : Pt) (n23 c23 : Nat) (e23 : Bool) (a6 : Pt) (n6 c6 : Nat) (e6 x7 : Bool) (a8 : Pt) (n8 c8 : Nat) (e8 : Bool) (h : Zaa) (ht :
 R4 a6 n6 c6 e6 x7 a8 n8 c8 e8 a23 n23 c23 e23 x24 (IntKind.wrap .i64 (x25 + 1)) h) : J9 Q R4 x25 x24 a23 n23 c23 e23 a6 n6 c6 e6 x7 a8 n8 c8 e8 h :=
 Zbb (kp := kp) (cast (by kernel_rfl) ht)
theorem call (x0x0 x0x1 : List Nat) (a0x2 : Pt) (n0x2 c0x2 : Nat) (e0x2 : Bool) (x1 : List Nat) (h : Zaa) (Q : QT) (ht :
 Zcn (h ++ [.cells Zai [.str x0x0, .str x0x1, .slice a0x2 n0x2 c0x2 e0x2] false]) fun H0 => Zbp (Zal H0 (.ptr (some (h.length, 0 + 0 + 1)))) fun S1 => Zae pg Zht [.str S1, .str x1] H0 fun V2 H3 =>
 Ztq V2 fun K4 => Zao K4 fun C5 Z6 => xSl (some C5) fun A7 N8 C9 E10 => Zao Z6 fun C11 Z12 => Zch (some C11) fun B13 => Zcl Z12 (Zcn (H3 ++ [.cells Zad [] false]) fun H14 => xSl (Zal H14 (.ptr (some (h.length, 0 + 2)))) fun A15 N16 C17 E18 => L4 Q A7 N8 C9 E10 B13 (some (H3.length, 0)) 0 0 true A15 N16 C17 E18 (((N16 : Nat) : Int)) 0 H14)) : Zae pg Zgs [.agg [.str x0x0, .str x0x1, .slice a0x2 n0x2 c0x2 e0x2], .str x1] h Q :=
 Zae.of_body kp (c := cod fn) (fn := fn) Go.Proofs.Tryz.func94 (by kernel_rfl) (by kernel_rfl) (Nat.le_of_ble_eq_true (by kernel_rfl))
  (cast (by kernel_rfl) ht)
end Zdb
end Go.Sim

set_option maxRecDepth 100000
set_option linter.unusedVariables false
namespace Go.Sim
open Go Go.RowKit
namespace Zgm
noncomputable abbrev fn : Func := Go.Proofs.Tryz.f152
def kp : Zcd := [(3000003, [3]), (1000003, [0, 3, 9, 10, 11])]
noncomputable def C (p : List Nat) : Code := (cod fn).sub p
def KR (Q : QT) : KT := Zem pg fn.results.toList Q
abbrev T3 := Option Nat → Pt → Nat → Nat → Bool → Pt → Nat → Nat → Bool → Int → Int → Zaa → Prop
def E3 (R3 : T3) (env : Env) (h : Zaa) : Prop := Zbj 0 env fun v env => Yhr (some v) fun m0 => Zbj 3 env fun v env => xSl (some v) fun a3 n3 c3 e3 => Zbj 9 env fun v env => xSl (some v) fun a9 n9 c9 e9 => Zbj 10 env fun v env => Zda .i64 v fun x10 => Zbj 11 env fun v env => Zda .i64 v fun x11 => Ziw env (R3 m0 a3 n3 c3 e3 a9 n9 c9 e9 x10 x11 h)
theorem Zej {R3 : T3} {env : Env} {h : Zaa} (hi : E3 R3 env h) : ∃ m0, ∃ a3, ∃ n3, ∃ c3, ∃ e3, ∃ a9, ∃ n9, ∃ c9, ∃ e9, ∃ x10, ∃ x11, env = [(0, .map m0), (3, .slice a3 n3 c3 e3), (9, .slice a9 n9 c9 e9), (10, .int .i64 x10), (11, .int .i64 x11)] ∧ R3 m0 a3 n3 c3 e3 a9 n9 c9 e9 x10 x11 h := by
 unfold E3 at hi
 have hi0 := hi
 clear hi
 obtain ⟨_, _, rfl, hi1⟩ := Zab hi0
 obtain ⟨m0, rfl, hi2⟩ := Ybt hi1
 obtain ⟨_, _, rfl, hi3⟩ := Zab hi2
 obtain ⟨a3, n3, c3, e3, rfl, hi4⟩ := Zax hi3
 obtain ⟨_, _, rfl, hi5⟩ := Zab hi4
 obtain ⟨a9, n9, c9, e9, rfl, hi6⟩ := Zax hi5
 obtain ⟨_, _, rfl, hi7⟩ := Zab hi6
 obtain ⟨x10, rfl, hi8⟩ := Zak hi7
 obtain ⟨_, _, rfl, hi9⟩ := Zab hi8
 obtain ⟨x11, rfl, hi10⟩ := Zak hi9
 obtain ⟨rfl, hi11⟩ := Zbk hi10
 have hi := hi11
 exact ⟨m0, a3, n3, c3, e3, a9, n9, c9, e9, x10, x11, rfl, hi⟩
def K0 (Q : QT) : KT := andThen (fun env' h' => (match kp.find 4000007 with | some ks => Den pg fn.ntmps (C [1, 1, 1]) (env'.keep ks) h' (KR Q) | none => den pg fn.ntmps kp (C [1, 1, 1]) env' h' (KR Q))) (KR Q)
def K1 (Q : QT) : KT := Zcg 0 (K0 Q)
def K2 (Q : QT) : KT := Zgf kp 3 (K1 Q)
def K3 (Q : QT) (R3 : T3) : KT := rnd ((kp.find 1000003).getD []) (E3 R3) (K2 Q)
def L3 (Q : QT) (m0 : Option Nat) (a3 : Pt) (n3 c3 : Nat) (e3 : Bool) (a9 : Pt) (n9 c9 : Nat) (e9 : Bool) (x10 x11 : Int) (h : Zaa) : Prop := Zdz (Den pg fn.ntmps (C [1, 1, 0, 1, 0, 0])) ((kp.find 1000003).getD []) (K2 Q) [(0, .map m0), (3, .slice a3 n3 c3 e3), (9, .slice a9 n9 c9 e9), (10, .int .i64 x10), (11, .int .i64 x11)] h
def Zpf (Q : QT) (a3 : Pt) (n3 c3 : Nat) (e3 : Bool) (h : Zaa) : Prop := At (K1 Q) (.exit 0) [(3, .slice a3 n3 c3 e3)] h
def L3t (Q : QT) (R3 : T3) (m0 : Option Nat) (a3 : Pt) (n3 c3 : Nat) (e3 : Bool) (a9 : Pt) (n9 c9 : Nat) (e9 : Bool) (x10 x11 : Int) (h : Zaa) : Prop :=
 bcase (decide ((x11 : Int) < x10)) ((0 ≤ (x11 : Int) ∧ (x11 : Int) < (n9 : Nat)) ∧ (Zbl a9 fun I10 O11 => Zbp (Zal h (.ptr (some (I10, O11 + (Int.toNat x11) * 1)))) fun S12 => Zfi h m0 fun es_13 k_14 => Zre es_13 S12 fun Z15 => Zbp (some (Option.getD Z15 (.str []))) fun S16 => Zcn (h ++ [.cells Zbe [.str S12, .str S16] false]) fun H17 => Zdc pg Zkm H17 (.slice a3 n3 c3 e3) (.slice (some (h.length, 0)) 1 1 true) fun V18 H19 => xSl (some V18) fun A20 N21 C22 E23 => R3 m0 A20 N21 C22 E23 a9 n9 c9 e9 x10 (IntKind.wrap .i64 (x11 + 1)) H19)) (Zpf Q a3 n3 c3 e3 h)
theorem Zkx (Q : QT) (R3 : T3) (m0 : Option Nat) (a3 : Pt) (n3 c3 : Nat) (e3 : Bool) (a9 : Pt) (n9 c9 : Nat) (e9 : Bool) (x10 x11 : Int) (h : Zaa) (ht : L3t Q R3 m0 a3 n3 c3 e3 a9 n9 c9 e9 x10 x11 h) : Den pg fn.ntmps (C [1, 1, 0, 1, 0, 0]) [(0, .map m0), (3, .slice a3 n3 c3 e3), (9, .slice a9 n9 c9 e9), (10, .int .i64 x10), (11, .int .i64 x11)] h (K3 Q R3) :=
 Zbb (kp := kp) (cast (by kernel_rfl) ht)
theorem L3ind (Q : QT) (m0 : Option Nat) (a9 : Pt) (n9 c9 : Nat) (e9 : Bool) (x10 : Int) {G : Type} (J : G → Pt → Nat → Nat → Bool → Int → Zaa → Prop) (m : G → Nat)
 (hr : ∀ (g : G) (a3 : Pt) (n3 c3 : Nat) (e3 : Bool) (x11 : Int) (h : Zaa), J g a3 n3 c3 e3 x11 h → ∀ (R3 : T3), (∀ g' (a3 : Pt) (n3 c3 : Nat) (e3 : Bool) (x11 : Int) (h : Zaa), m g' < m g → J g' a3 n3 c3 e3 x11 h → R3 m0 a3 n3 c3 e3 a9 n9 c9 e9 x10 x11 h) → L3t Q R3 m0 a3 n3 c3 e3 a9 n9 c9 e9 x10 x11 h)
 (g : G) (a3 : Pt) (n3 c3 : Nat) (e3 : Bool) (x11 : Int) (h : Zaa) (hj : J g a3 n3 c3 e3 x11 h) : L3 Q m0 a3 n3 c3 e3 a9 n9 c9 e9 x10 x11 h := by
 refine Zdz.inv2 (fun g => E3 fun m0' a3 n3 c3 e3 a9' n9' c9' e9' x10' x11 h => m0 = m0' ∧ a9 = a9' ∧ n9 = n9' ∧ c9 = c9' ∧ e9 = e9' ∧ x10 = x10' ∧ J g a3 n3 c3 e3 x11 h) (fun g => E3 fun m0' a3 n3 c3 e3 a9' n9' c9' e9' x10' x11 h => m0 = m0' ∧ a9 = a9' ∧ n9 = n9' ∧ c9 = c9' ∧ e9 = e9' ∧ x10 = x10' ∧ ∃ g', m g' < m g ∧ J g' a3 n3 c3 e3 x11 h) m ?_ ?_ g ⟨rfl, rfl, rfl, rfl, rfl, rfl, hj⟩
 ·intro g env h hi
  obtain ⟨m0', a3, n3, c3, e3, a9', n9', c9', e9', x10', x11, rfl, rfl, rfl, rfl, rfl, rfl, rfl, hj⟩ := Zej hi
  exact Zkx Q _ m0 a3 n3 c3 e3 a9 n9 c9 e9 x10 x11 h (hr g a3 n3 c3 e3 x11 h hj (fun m0' a3 n3 c3 e3 a9' n9' c9' e9' x10' x11 h => m0 = m0' ∧ a9 = a9' ∧ n9 = n9' ∧ c9 = c9' ∧ e9 = e9' ∧ x10 = x10' ∧ ∃ g', m g' < m g ∧ J g' a3 n3 c3 e3 x11 h) fun g' a3 n3 c3 e3 x11 h hlt hj => ⟨rfl, rfl, rfl, rfl, rfl, rfl, g', hlt, hj⟩)
 ·intro g env h hi
  obtain ⟨m0', a3, n3, c3, e3, a9', n9', c9', e9', x10', x11, rfl, rfl, rfl, rfl, rfl, rfl, rfl, g', hlt, hj⟩ := Zej hi
  exact ⟨g', hlt, rfl, rfl, rfl, rfl, rfl, rfl, hj⟩
theorem A3x0i (Q : QT) (a3 : Pt) (n3 c3 : Nat) (e3 : Bool) (h : Zaa) (ht :
 Q (.slice a3 n3 c3 e3) h) : Zpf Q a3 n3 c3 e3 h :=
 At.mk (cast (by kernel_rfl) ht)
theorem call (m0 : Option Nat) (h : Zaa) (Q : QT) (ht :
 Zcn (h ++ [.cells Zbe [] false]) fun H0 => Zae pg Zec [.map m0] H0 fun V1 H2 =>
 Zzx (some V1) fun V3 => Zae pg Zje [V3] H2 fun V4 H5 =>
 xSl (some V4) fun A6 N7 C8 E9 => L3 Q m0 (some (h.length, 0)) 0 0 true A6 N7 C8 E9 (((N7 : Nat) : Int)) 0 H5) : Zae pg Zls [.map m0] h Q :=
 Zae.of_body kp (c := cod fn) (fn := fn) Go.Proofs.Tryz.func152 (by kernel_rfl) (by kernel_rfl) (Nat.le_of_ble_eq_true (by kernel_rfl))
  (cast (by kernel_rfl) ht)
end Zgm
namespace Zkn
noncomputable abbrev fn : Func := Go.Proofs.Tryz.f129
def kp : Zcd := [(4000004, [8])]
noncomputable def C (p : List Nat) : Code := (cod fn).sub p
def KR (Q : QT) : KT := Zem pg fn.results.toList Q
def J4 (Q : QT) (m8 : Option Nat) (h : Zaa) : Prop := Den pg fn.ntmps (C [1, 1, 1]) [(8, .map m8)] h (KR Q)
theorem J4i (Q : QT) (m8 : Option Nat) (h : Zaa) (ht :
 Zae pg Zls [.map m8] h fun V10 H11 =>
 xSl (some V10) fun A12 N13 C14 E15 => Q (.tup [.slice A12 N13 C14 E15, .bool true]) H11) : J4 Q m8 h :=
 Zbb (kp := kp) (cast (by kernel_rfl) ht)
theorem call (x0 x1 : List Nat) (h : Zaa) (Q : QT) (ht :
 Zae pg Ziq [.str x0] h fun V0 H1 =>
 Zgg (some V0) fun A2 => Zae pg Ziq [.str x1] H1 fun V3 H4 =>
 Zgg (some V3) fun A5 => Zcn (H4 ++ [.map [] 0]) fun H6 => bcase (Option.isNone A2) (Q (.tup [.slice none 0 0 true, .bool false]) H6) (bcase (Option.isNone A5) (Q (.tup [.slice none 0 0 true, .bool false]) H6) (Zae pg Zgx [.ptr A2, .ptr A5, .map ((some H4.length))] H6 fun V7 H8 =>
 Zch (some V7) fun B9 => bcase (!B9) (Q (.tup [.slice none 0 0 true, .bool false]) H8) (J4 Q ((some H4.length)) H8)))) : Zae pg Zht [.str x0, .str x1] h Q :=
 Zae.of_body kp (c := cod fn) (fn := fn) Go.Proofs.Tryz.func129 (by kernel_rfl) (by kernel_rfl) (Nat.le_of_ble_eq_true (by kernel_rfl))
  (cast (by kernel_rfl) ht)
end Zkn
namespace Znb
noncomputable abbrev fn : Func := Go.Proofs.Tryz.f128
def kp : Zcd := []
noncomputable def C (p : List Nat) : Code := (cod fn).sub p
def KR (Q : QT) : KT := Zem pg fn.results.toList Q
theorem call (x0 x1 : List Nat) (h : Zaa) (Q : QT) (ht :
 Zae pg Zht [.str x0, .str x1] h fun V0 H1 =>
 Ztq V0 fun K2 => Zao K2 fun C3 Z4 => xSl (some C3) fun A5 N6 C7 E8 => Zao Z4 fun C9 Z10 => Zch (some C9) fun B11 => Zcl Z10 (Q (.bool B11) H1)) : Zae pg Zju [.str x0, .str x1] h Q :=
 Zae.of_body kp (c := cod fn) (fn := fn) Go.Proofs.Tryz.func128 (by kernel_rfl) (by kernel_rfl) (Nat.le_of_ble_eq_true (by kernel_rfl))
  (cast (by kernel_rfl) ht)
end Znb
end Go.Sim
