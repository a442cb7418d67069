/- A part of the proof of a statement of this seat: see the text that holds the theorem. No condition. -/
import Derived.Test.YtlljbdepamknoaaGreatDoorNm
set_option linter.unusedVariables false
set_option linter.unusedSimpArgs false
set_option linter.all false
/- Printed by wip/tool: what the functions' bodies do, in the words of 'den'. -/
set_option maxRecDepth 100000
set_option linter.unusedVariables false
namespace Go.Sim
open Go Go.RowKit
/-! Function loop.example/instancesearch/spec.ApplyBindings -/
namespace F_spec_ApplyBindings
noncomputable abbrev fn : Func := Go.Proofs.Tryz.f120
def kp : Keeps := [(4000004, [0, 6]), (3000006, [8, 6]), (1000006, [6, 8, 26, 27, 28]), (2000008, [28, 27, 26, 8, 6])]
noncomputable def C (p : List Nat) : Code := (cod fn).sub p
def KR (Q : QT) : KT := retA pg fn.results.toList Q
abbrev T6 := Nat → Nat → Nat → Nat → Pt → Nat → Nat → Bool → Int → Int → AHeap → Prop
def E6 (R6 : T6) (env : Env) (h : AHeap) : Prop := eVal 6 env fun v env => xPtr (some v) fun a => xSome a fun i6 o6 => eVal 8 env fun v env => xPtr (some v) fun a => xSome a fun i8 o8 => eVal 26 env fun v env => xSl (some v) fun a26 n26 c26 e26 => eVal 27 env fun v env => eInt .i64 v fun x27 => eVal 28 env fun v env => eInt .i64 v fun x28 => eNil env (R6 i6 o6 i8 o8 a26 n26 c26 e26 x27 x28 h)
theorem E6elim {R6 : T6} {env : Env} {h : AHeap} (hi : E6 R6 env h) : ∃ i6, ∃ o6, ∃ i8, ∃ o8, ∃ a26, ∃ n26, ∃ c26, ∃ e26, ∃ x27, ∃ x28, env = [(6, .ptr (some (i6, o6))), (8, .ptr (some (i8, o8))), (26, .slice a26 n26 c26 e26), (27, .int .i64 x27), (28, .int .i64 x28)] ∧ R6 i6 o6 i8 o8 a26 n26 c26 e26 x27 x28 h := by
  unfold E6 at hi
  have hi0 := hi
  clear hi
  obtain ⟨_, _, rfl, hi1⟩ := eVal_elim hi0
  obtain ⟨a, rfl, hi2⟩ := xPtr_elim hi1
  obtain ⟨i6, o6, rfl, hi3⟩ := xSome_elim hi2
  obtain ⟨_, _, rfl, hi4⟩ := eVal_elim hi3
  obtain ⟨a, rfl, hi5⟩ := xPtr_elim hi4
  obtain ⟨i8, o8, rfl, hi6⟩ := xSome_elim hi5
  obtain ⟨_, _, rfl, hi7⟩ := eVal_elim hi6
  obtain ⟨a26, n26, c26, e26, rfl, hi8⟩ := xSl_elim hi7
  obtain ⟨_, _, rfl, hi9⟩ := eVal_elim hi8
  obtain ⟨x27, rfl, hi10⟩ := eInt_elim hi9
  obtain ⟨_, _, rfl, hi11⟩ := eVal_elim hi10
  obtain ⟨x28, rfl, hi12⟩ := eInt_elim hi11
  obtain ⟨rfl, hi13⟩ := eNil_elim hi12
  have hi := hi13
  exact ⟨i6, o6, i8, o8, a26, n26, c26, e26, x27, x28, rfl, hi⟩
def K0 (Q : QT) : KT := andThen (fun env' h' => (match kp.find 4000010 with | some ks => Den pg fn.ntmps (C [1, 1, 1, 1, 1]) (env'.keep ks) h' (KR Q) | none => den pg fn.ntmps kp (C [1, 1, 1, 1, 1]) env' h' (KR Q))) (KR Q)
def K1 (Q : QT) : KT := onExit 0 (K0 Q)
def K2 (Q : QT) : KT := left kp 6 (K1 Q)
def K3 (Q : QT) (R6 : T6) : KT := rnd ((kp.find 1000006).getD []) (E6 R6) (K2 Q)
def J4 (Q : QT) (a0 : Pt) (n0 c0 : Nat) (e0 : Bool) (i6 o6 : Nat) (h : AHeap) : Prop := Den pg fn.ntmps (C [1, 1, 1]) [(0, .slice a0 n0 c0 e0), (6, .ptr (some (i6, o6)))] h (KR Q)
def L6 (Q : QT) (i6 o6 i8 o8 : Nat) (a26 : Pt) (n26 c26 : Nat) (e26 : Bool) (x27 x28 : Int) (h : AHeap) : Prop := Loop (Den pg fn.ntmps (C [1, 1, 1, 1, 0, 1, 0, 0])) ((kp.find 1000006).getD []) (K2 Q) [(6, .ptr (some (i6, o6))), (8, .ptr (some (i8, o8))), (26, .slice a26 n26 c26 e26), (27, .int .i64 x27), (28, .int .i64 x28)] h
def A6x0 (Q : QT) (i8 o8 i6 o6 : Nat) (h : AHeap) : Prop := At (K1 Q) (.exit 0) [(8, .ptr (some (i8, o8))), (6, .ptr (some (i6, o6)))] h
theorem J4i (Q : QT) (a0 : Pt) (n0 c0 : Nat) (e0 : Bool) (i6 o6 : Nat) (h : AHeap) (ht :
 letH (h ++ [.cells t_spec_l2Map [.int .u8 0, .slice none 0 0 true, .int .u8 0, .slice none 0 0 true, .int .u8 0, .slice none 0 0 true, .int .u8 0, .slice none 0 0 true, .int .u8 0, .slice none 0 0 true, .int .u8 0, .slice none 0 0 true, .int .u8 0, .slice none 0 0 true, .int .u8 0, .slice none 0 0 true, .int .u8 0, .slice none 0 0 true, .int .u8 0, .slice none 0 0 true, .int .u8 0, .slice none 0 0 true, .int .u8 0, .slice none 0 0 true] false]) fun H23 => L6 Q i6 o6 h.length 0 a0 n0 c0 e0 (((n0 : Nat) : Int)) 0 H23) : J4 Q a0 n0 c0 e0 i6 o6 h :=
  den_Den (kp := kp) (cast (by kernel_rfl) ht)
def L6t (Q : QT) (R6 : T6) (i6 o6 i8 o8 : Nat) (a26 : Pt) (n26 c26 : Nat) (e26 : Bool) (x27 x28 : Int) (h : AHeap) : Prop :=
 bcase (decide ((x28 : Int) < x27)) ((0 ≤ (x28 : Int) ∧ (x28 : Int) < (n26 : Nat)) ∧ (xSome a26 fun I24 O25 => xRow (hRow h (.ptr (some (I24, O25 + (Int.toNat x28) * 2))) 2) fun K26 => xCons K26 fun C27 Z28 => xStr (some C27) fun S29 => xCons Z28 fun C30 Z31 => xStr (some C30) fun S32 => xNil Z31 (letH (h ++ [.cells t_impl_Binding [.str [], .str []] false]) fun H33 => xHeap (hStore H33 (.ptr (some (h.length, 0))) [.str S29, .str S32]) fun H34 => xStr (hCell H34 (.ptr (some (h.length, 0 + 0)))) fun S35 => byteAt S35 0 fun B36 => xStr (hCell H34 (.ptr (some (h.length, 0 + 1)))) fun S37 => SCall pg n_spec_l2Index [.int .u8 (((B36 : Nat) : Int))] H34 fun V38 H39 =>
 xInt .i64 (some V38) fun X40 => (hCell H39 (.ptr (some (h.length, 0 + 1))) = hCell H34 (.ptr (some (h.length, 0 + 1)))) ∧ (hCell H39 (.ptr (some (h.length, 0 + 0))) = hCell H34 (.ptr (some (h.length, 0 + 0)))) ∧ SCall pg n_spec_l1Read [.str S37] H39 fun V41 H42 =>
 xTup V41 fun K43 => xCons K43 fun C44 Z45 => xAgg C44 fun K46 => xCons K46 fun C47 Z48 => xInt .u8 (some C47) fun X49 => xCons Z48 fun C50 Z51 => xSl (some C50) fun A52 N53 C54 E55 => xNil Z51 (xCons Z45 fun C56 Z57 => xBool (some C56) fun B58 => xNil Z57 ((hCell H42 (.ptr (some (h.length, 0 + 0))) = hCell H39 (.ptr (some (h.length, 0 + 0)))) ∧ (0 ≤ (X40 : Int) ∧ (X40 : Int) < (12 : Nat)) ∧ (xHeap (hStore H42 (.ptr (some (i8, o8 + (Int.toNat X40) * 2))) [.int .u8 X49, .slice A52 N53 C54 E55]) fun H59 => R6 i6 o6 i8 o8 a26 n26 c26 e26 x27 (IntKind.wrap .i64 (x28 + 1)) H59)))))) (A6x0 Q i8 o8 i6 o6 h)
theorem L6den (Q : QT) (R6 : T6) (i6 o6 i8 o8 : Nat) (a26 : Pt) (n26 c26 : Nat) (e26 : Bool) (x27 x28 : Int) (h : AHeap) (ht : L6t Q R6 i6 o6 i8 o8 a26 n26 c26 e26 x27 x28 h) : Den pg fn.ntmps (C [1, 1, 1, 1, 0, 1, 0, 0]) [(6, .ptr (some (i6, o6))), (8, .ptr (some (i8, o8))), (26, .slice a26 n26 c26 e26), (27, .int .i64 x27), (28, .int .i64 x28)] h (K3 Q R6) :=
  den_Den (kp := kp) (cast (by kernel_rfl) ht)
theorem L6ind (Q : QT) (i6 o6 i8 o8 : Nat) (a26 : Pt) (n26 c26 : Nat) (e26 : Bool) (x27 : Int) {G : Type} (J : G → Int → AHeap → Prop) (m : G → Nat)
 (hr : ∀ (g : G) (x28 : Int) (h : AHeap), J g x28 h → ∀ (R6 : T6), (∀ g' (x28 : Int) (h : AHeap), m g' < m g → J g' x28 h → R6 i6 o6 i8 o8 a26 n26 c26 e26 x27 x28 h) → L6t Q R6 i6 o6 i8 o8 a26 n26 c26 e26 x27 x28 h)
 (g : G) (x28 : Int) (h : AHeap) (hj : J g x28 h) : L6 Q i6 o6 i8 o8 a26 n26 c26 e26 x27 x28 h := by
  refine Loop.inv2 (fun g => E6 fun i6' o6' i8' o8' a26' n26' c26' e26' x27' x28 h => i6 = i6' ∧ o6 = o6' ∧ i8 = i8' ∧ o8 = o8' ∧ a26 = a26' ∧ n26 = n26' ∧ c26 = c26' ∧ e26 = e26' ∧ x27 = x27' ∧ J g x28 h) (fun g => E6 fun i6' o6' i8' o8' a26' n26' c26' e26' x27' x28 h => i6 = i6' ∧ o6 = o6' ∧ i8 = i8' ∧ o8 = o8' ∧ a26 = a26' ∧ n26 = n26' ∧ c26 = c26' ∧ e26 = e26' ∧ x27 = x27' ∧ ∃ g', m g' < m g ∧ J g' x28 h) m ?_ ?_ g ⟨rfl, rfl, rfl, rfl, rfl, rfl, rfl, rfl, rfl, hj⟩
  · intro g env h hi
    obtain ⟨i6', o6', i8', o8', a26', n26', c26', e26', x27', x28, rfl, rfl, rfl, rfl, rfl, rfl, rfl, rfl, rfl, rfl, hj⟩ := E6elim hi
    exact L6den Q _ i6 o6 i8 o8 a26 n26 c26 e26 x27 x28 h (hr g x28 h hj (fun i6' o6' i8' o8' a26' n26' c26' e26' x27' x28 h => i6 = i6' ∧ o6 = o6' ∧ i8 = i8' ∧ o8 = o8' ∧ a26 = a26' ∧ n26 = n26' ∧ c26 = c26' ∧ e26 = e26' ∧ x27 = x27' ∧ ∃ g', m g' < m g ∧ J g' x28 h) fun g' x28 h hlt hj => ⟨rfl, rfl, rfl, rfl, rfl, rfl, rfl, rfl, rfl, g', hlt, hj⟩)
  · intro g env h hi
    obtain ⟨i6', o6', i8', o8', a26', n26', c26', e26', x27', x28, rfl, rfl, rfl, rfl, rfl, rfl, rfl, rfl, rfl, rfl, g', hlt, hj⟩ := E6elim hi
    exact ⟨g', hlt, rfl, rfl, rfl, rfl, rfl, rfl, rfl, rfl, rfl, hj⟩
theorem A6x0i (Q : QT) (i8 o8 i6 o6 : Nat) (h : AHeap) (ht :
 xRow (hRow h (.ptr (some (i6, o6))) 2) fun K60 => xCons K60 fun C61 Z62 => xInt .u8 (some C61) fun X63 => xCons Z62 fun C64 Z65 => xSl (some C64) fun A66 N67 C68 E69 => xNil Z65 (SCall pg n_spec_l2Put [.ptr (some (i8, o8)), .agg [.int .u8 X63, .slice A66 N67 C68 E69]] h fun V70 H71 =>
 xAgg V70 fun K72 => xCons K72 fun C73 Z74 => xInt .u8 (some C73) fun X75 => xCons Z74 fun C76 Z77 => xSl (some C76) fun A78 N79 C80 E81 => xNil Z77 (letH (H71 ++ [.cells t_spec_l1Node [.int .u8 0, .slice none 0 0 true] false]) fun H82 => xHeap (hStore H82 (.ptr (some (H71.length, 0))) [.int .u8 X75, .slice A78 N79 C80 E81]) fun H83 => xRow (hRow H83 (.ptr (some (H71.length, 0))) 2) fun K84 => xCons K84 fun C85 Z86 => xInt .u8 (some C85) fun X87 => xCons Z86 fun C88 Z89 => xSl (some C88) fun A90 N91 C92 E93 => xNil Z89 (SCall pg n_spec_l2Length [.agg [.int .u8 X87, .slice A90 N91 C92 E93]] H83 fun V94 H95 =>
 xInt .i64 (some V94) fun X96 => bcase (decide ((X96 : Int) > 60)) (Q (.tup [.str [], .bool false]) H95) (xRow (hRow H95 (.ptr (some (H71.length, 0))) 2) fun K97 => xCons K97 fun C98 Z99 => xInt .u8 (some C98) fun X100 => xCons Z99 fun C101 Z102 => xSl (some C101) fun A103 N104 C105 E106 => xNil Z102 (SCall pg n_spec_l1Text [.agg [.int .u8 X100, .slice A103 N104 C105 E106]] H95 fun V107 H108 =>
 xStr (some V107) fun S109 => Q (.tup [.str S109, .bool true]) H108)))))) : A6x0 Q i8 o8 i6 o6 h :=
  At.mk (cast (by kernel_rfl) ht)
theorem call (a0 : Pt) (n0 c0 : Nat) (e0 : Bool) (x1 : List Nat) (h : AHeap) (Q : QT) (ht :
 SCall pg n_spec_l1Read [.str x1] h fun V0 H1 =>
 xTup V0 fun K2 => xCons K2 fun C3 Z4 => xAgg C3 fun K5 => xCons K5 fun C6 Z7 => xInt .u8 (some C6) fun X8 => xCons Z7 fun C9 Z10 => xSl (some C9) fun A11 N12 C13 E14 => xNil Z10 (xCons Z4 fun C15 Z16 => xBool (some C15) fun B17 => xNil Z16 (letH (H1 ++ [.cells t_spec_l1Node [.int .u8 0, .slice none 0 0 true] false]) fun H18 => xHeap (hStore H18 (.ptr (some (H1.length, 0))) [.int .u8 X8, .slice A11 N12 C13 E14]) fun H19 => bcase (!B17) (Q (.tup [.str [], .bool false]) H19) (SCall pg n_spec_BindingsValid [.slice a0 n0 c0 e0] H19 fun V20 H21 =>
 xBool (some V20) fun B22 => bcase (!B22) (Q (.tup [.str [], .bool false]) H21) (J4 Q a0 n0 c0 e0 H1.length 0 H21))))) : SCall pg n_spec_ApplyBindings [.slice a0 n0 c0 e0, .str x1] h Q :=
  SCall.of_body kp (c := cod fn) (fn := fn) Go.Proofs.Tryz.func120 (by kernel_rfl) (by kernel_rfl) (Nat.le_of_ble_eq_true (by kernel_rfl))
    (cast (by kernel_rfl) ht)
end F_spec_ApplyBindings
/-! Function loop.example/instancesearch/spec.l4Needs -/
namespace F_spec_l4Needs
noncomputable abbrev fn : Func := Go.Proofs.Tryz.f86
def kp : Keeps := [(3000006, [6, 4, 5]), (1000006, [6, 7, 26, 27, 28])]
noncomputable def C (p : List Nat) : Code := (cod fn).sub p
def KR (Q : QT) : KT := retA pg fn.results.toList Q
abbrev T6 := Pt → Nat → Nat → Bool → Pt → Nat → Nat → Bool → Pt → Nat → Nat → Bool → Int → Int → AHeap → Prop
def E6 (R6 : T6) (env : Env) (h : AHeap) : Prop := eVal 6 env fun v env => xSl (some v) fun a6 n6 c6 e6 => eVal 7 env fun v env => xSl (some v) fun a7 n7 c7 e7 => eVal 26 env fun v env => xSl (some v) fun a26 n26 c26 e26 => eVal 27 env fun v env => eInt .i64 v fun x27 => eVal 28 env fun v env => eInt .i64 v fun x28 => eNil env (R6 a6 n6 c6 e6 a7 n7 c7 e7 a26 n26 c26 e26 x27 x28 h)
theorem E6elim {R6 : T6} {env : Env} {h : AHeap} (hi : E6 R6 env h) : ∃ a6, ∃ n6, ∃ c6, ∃ e6, ∃ a7, ∃ n7, ∃ c7, ∃ e7, ∃ a26, ∃ n26, ∃ c26, ∃ e26, ∃ x27, ∃ x28, env = [(6, .slice a6 n6 c6 e6), (7, .slice a7 n7 c7 e7), (26, .slice a26 n26 c26 e26), (27, .int .i64 x27), (28, .int .i64 x28)] ∧ R6 a6 n6 c6 e6 a7 n7 c7 e7 a26 n26 c26 e26 x27 x28 h := by
  unfold E6 at hi
  have hi0 := hi
  clear hi
  obtain ⟨_, _, rfl, hi1⟩ := eVal_elim hi0
  obtain ⟨a6, n6, c6, e6, rfl, hi2⟩ := xSl_elim hi1
  obtain ⟨_, _, rfl, hi3⟩ := eVal_elim hi2
  obtain ⟨a7, n7, c7, e7, rfl, hi4⟩ := xSl_elim hi3
  obtain ⟨_, _, rfl, hi5⟩ := eVal_elim hi4
  obtain ⟨a26, n26, c26, e26, rfl, hi6⟩ := xSl_elim hi5
  obtain ⟨_, _, rfl, hi7⟩ := eVal_elim hi6
  obtain ⟨x27, rfl, hi8⟩ := eInt_elim hi7
  obtain ⟨_, _, rfl, hi9⟩ := eVal_elim hi8
  obtain ⟨x28, rfl, hi10⟩ := eInt_elim hi9
  obtain ⟨rfl, hi11⟩ := eNil_elim hi10
  have hi := hi11
  exact ⟨a6, n6, c6, e6, a7, n7, c7, e7, a26, n26, c26, e26, x27, x28, rfl, hi⟩
def K0 (Q : QT) : KT := andThen (fun env' h' => (match kp.find 4000013 with | some ks => Den pg fn.ntmps (C [1, 1, 1, 1, 1]) (env'.keep ks) h' (KR Q) | none => den pg fn.ntmps kp (C [1, 1, 1, 1, 1]) env' h' (KR Q))) (KR Q)
def K1 (Q : QT) : KT := onExit 0 (K0 Q)
def K2 (Q : QT) : KT := left kp 6 (K1 Q)
def K3 (Q : QT) (R6 : T6) : KT := rnd ((kp.find 1000006).getD []) (E6 R6) (K2 Q)
def L6 (Q : QT) (a6 : Pt) (n6 c6 : Nat) (e6 : Bool) (a7 : Pt) (n7 c7 : Nat) (e7 : Bool) (a26 : Pt) (n26 c26 : Nat) (e26 : Bool) (x27 x28 : Int) (h : AHeap) : Prop := Loop (Den pg fn.ntmps (C [1, 1, 1, 1, 0, 1, 0, 0])) ((kp.find 1000006).getD []) (K2 Q) [(6, .slice a6 n6 c6 e6), (7, .slice a7 n7 c7 e7), (26, .slice a26 n26 c26 e26), (27, .int .i64 x27), (28, .int .i64 x28)] h
def A6x0 (Q : QT) (a6 : Pt) (n6 c6 : Nat) (e6 : Bool) (h : AHeap) : Prop := At (K1 Q) (.exit 0) [(6, .slice a6 n6 c6 e6), (4, .undef), (5, .undef)] h
def L6t (Q : QT) (R6 : T6) (a6 : Pt) (n6 c6 : Nat) (e6 : Bool) (a7 : Pt) (n7 c7 : Nat) (e7 : Bool) (a26 : Pt) (n26 c26 : Nat) (e26 : Bool) (x27 x28 : Int) (h : AHeap) : Prop :=
 bcase (decide ((x28 : Int) < x27)) ((0 ≤ (x28 : Int) ∧ (x28 : Int) < (n26 : Nat)) ∧ (xSome a26 fun I19 O20 => xRow (hRow h (.ptr (some (I19, O20 + (Int.toNat x28) * 2))) 2) fun K21 => xCons K21 fun C22 Z23 => xStr (some C22) fun S24 => xCons Z23 fun C25 Z26 => xStr (some C25) fun S27 => xNil Z26 (letH (h ++ [.cells t_impl_Need [.str [], .str []] false]) fun H28 => xHeap (hStore H28 (.ptr (some (h.length, 0))) [.str S24, .str S27]) fun H29 => xStr (hCell H29 (.ptr (some (h.length, 0 + 1)))) fun S30 => SCall pg n_spec_ApplyBindings [.slice a7 n7 c7 e7, .str S30] H29 fun V31 H32 =>
 xTup V31 fun K33 => xCons K33 fun C34 Z35 => xStr (some C34) fun S36 => xCons Z35 fun C37 Z38 => xBool (some C37) fun B39 => xNil Z38 (bcase (!B39) (letH (H32 ++ [.cells t_impl_Need [] false]) fun H40 => Q (.tup [.slice (some (H32.length, 0)) 0 0 true, .bool false]) H40) (xStr (hCell H32 (.ptr (some (h.length, 0 + 0)))) fun S41 => letH (H32 ++ [.cells t_impl_Need [.str S41, .str S36] false]) fun H42 => appendA pg t_L_impl_Need H42 (.slice a6 n6 c6 e6) (.slice (some (H32.length, 0)) 1 1 true) fun V43 H44 => xSl (some V43) fun A45 N46 C47 E48 => R6 A45 N46 C47 E48 a7 n7 c7 e7 a26 n26 c26 e26 x27 (IntKind.wrap .i64 (x28 + 1)) H44))))) (A6x0 Q a6 n6 c6 e6 h)
theorem L6den (Q : QT) (R6 : T6) (a6 : Pt) (n6 c6 : Nat) (e6 : Bool) (a7 : Pt) (n7 c7 : Nat) (e7 : Bool) (a26 : Pt) (n26 c26 : Nat) (e26 : Bool) (x27 x28 : Int) (h : AHeap) (ht : L6t Q R6 a6 n6 c6 e6 a7 n7 c7 e7 a26 n26 c26 e26 x27 x28 h) : Den pg fn.ntmps (C [1, 1, 1, 1, 0, 1, 0, 0]) [(6, .slice a6 n6 c6 e6), (7, .slice a7 n7 c7 e7), (26, .slice a26 n26 c26 e26), (27, .int .i64 x27), (28, .int .i64 x28)] h (K3 Q R6) :=
  den_Den (kp := kp) (cast (by kernel_rfl) ht)
theorem L6ind (Q : QT) (a7 : Pt) (n7 c7 : Nat) (e7 : Bool) (a26 : Pt) (n26 c26 : Nat) (e26 : Bool) (x27 : Int) {G : Type} (J : G → Pt → Nat → Nat → Bool → Int → AHeap → Prop) (m : G → Nat)
 (hr : ∀ (g : G) (a6 : Pt) (n6 c6 : Nat) (e6 : Bool) (x28 : Int) (h : AHeap), J g a6 n6 c6 e6 x28 h → ∀ (R6 : T6), (∀ g' (a6 : Pt) (n6 c6 : Nat) (e6 : Bool) (x28 : Int) (h : AHeap), m g' < m g → J g' a6 n6 c6 e6 x28 h → R6 a6 n6 c6 e6 a7 n7 c7 e7 a26 n26 c26 e26 x27 x28 h) → L6t Q R6 a6 n6 c6 e6 a7 n7 c7 e7 a26 n26 c26 e26 x27 x28 h)
 (g : G) (a6 : Pt) (n6 c6 : Nat) (e6 : Bool) (x28 : Int) (h : AHeap) (hj : J g a6 n6 c6 e6 x28 h) : L6 Q a6 n6 c6 e6 a7 n7 c7 e7 a26 n26 c26 e26 x27 x28 h := by
  refine Loop.inv2 (fun g => E6 fun a6 n6 c6 e6 a7' n7' c7' e7' a26' n26' c26' e26' x27' x28 h => a7 = a7' ∧ n7 = n7' ∧ c7 = c7' ∧ e7 = e7' ∧ a26 = a26' ∧ n26 = n26' ∧ c26 = c26' ∧ e26 = e26' ∧ x27 = x27' ∧ J g a6 n6 c6 e6 x28 h) (fun g => E6 fun a6 n6 c6 e6 a7' n7' c7' e7' a26' n26' c26' e26' x27' x28 h => a7 = a7' ∧ n7 = n7' ∧ c7 = c7' ∧ e7 = e7' ∧ a26 = a26' ∧ n26 = n26' ∧ c26 = c26' ∧ e26 = e26' ∧ x27 = x27' ∧ ∃ g', m g' < m g ∧ J g' a6 n6 c6 e6 x28 h) m ?_ ?_ g ⟨rfl, rfl, rfl, rfl, rfl, rfl, rfl, rfl, rfl, hj⟩
  · intro g env h hi
    obtain ⟨a6, n6, c6, e6, a7', n7', c7', e7', a26', n26', c26', e26', x27', x28, rfl, rfl, rfl, rfl, rfl, rfl, rfl, rfl, rfl, rfl, hj⟩ := E6elim hi
    exact L6den Q _ a6 n6 c6 e6 a7 n7 c7 e7 a26 n26 c26 e26 x27 x28 h (hr g a6 n6 c6 e6 x28 h hj (fun a6 n6 c6 e6 a7' n7' c7' e7' a26' n26' c26' e26' x27' x28 h => a7 = a7' ∧ n7 = n7' ∧ c7 = c7' ∧ e7 = e7' ∧ a26 = a26' ∧ n26 = n26' ∧ c26 = c26' ∧ e26 = e26' ∧ x27 = x27' ∧ ∃ g', m g' < m g ∧ J g' a6 n6 c6 e6 x28 h) fun g' a6 n6 c6 e6 x28 h hlt hj => ⟨rfl, rfl, rfl, rfl, rfl, rfl, rfl, rfl, rfl, g', hlt, hj⟩)
  · intro g env h hi
    obtain ⟨a6, n6, c6, e6, a7', n7', c7', e7', a26', n26', c26', e26', x27', x28, rfl, rfl, rfl, rfl, rfl, rfl, rfl, rfl, rfl, rfl, g', hlt, hj⟩ := E6elim hi
    exact ⟨g', hlt, rfl, rfl, rfl, rfl, rfl, rfl, rfl, rfl, rfl, hj⟩
theorem A6x0i (Q : QT) (a6 : Pt) (n6 c6 : Nat) (e6 : Bool) (h : AHeap) (ht :
 Q (.tup [.slice a6 n6 c6 e6, .bool true]) h) : A6x0 Q a6 n6 c6 e6 h :=
  At.mk (cast (by kernel_rfl) ht)
theorem call (x0x0 x0x1 : List Nat) (a0x2 : Pt) (n0x2 c0x2 : Nat) (e0x2 : Bool) (x1 : List Nat) (h : AHeap) (Q : QT) (ht :
 letH (h ++ [.cells t_impl_Instance [.str x0x0, .str x0x1, .slice a0x2 n0x2 c0x2 e0x2] false]) fun H0 => letH (H0 ++ [.cells t_impl_Need [] false]) fun H1 => xStr (hCell H1 (.ptr (some (h.length, 0 + 0 + 1)))) fun S2 => SCall pg n_spec_MatchType [.str S2, .str x1] H1 fun V3 H4 =>
 xTup V3 fun K5 => xCons K5 fun C6 Z7 => xSl (some C6) fun A8 N9 C10 E11 => xCons Z7 fun C12 Z13 => xBool (some C12) fun B14 => xNil Z13 (bcase (!B14) (Q (.tup [.slice (some (H0.length, 0)) 0 0 true, .bool false]) H4) (xSl (hCell H4 (.ptr (some (h.length, 0 + 2)))) fun A15 N16 C17 E18 => L6 Q (some (H0.length, 0)) 0 0 true A8 N9 C10 E11 A15 N16 C17 E18 (((N16 : Nat) : Int)) 0 H4))) : SCall pg n_spec_l4Needs [.agg [.str x0x0, .str x0x1, .slice a0x2 n0x2 c0x2 e0x2], .str x1] h Q :=
  SCall.of_body kp (c := cod fn) (fn := fn) Go.Proofs.Tryz.func86 (by kernel_rfl) (by kernel_rfl) (Nat.le_of_ble_eq_true (by kernel_rfl))
    (cast (by kernel_rfl) ht)
end F_spec_l4Needs
end Go.Sim

/- Printed by wip/tool: what the functions' bodies do, in the words of 'den'. -/
set_option maxRecDepth 100000
set_option linter.unusedVariables false
namespace Go.Sim
open Go Go.RowKit
/-! Function loop.example/instancesearch/spec.BindingsValid -/
namespace F_spec_BindingsValid
noncomputable abbrev fn : Func := Go.Proofs.Tryz.f144
def kp : Keeps := [(3000002, [2]), (1000002, [0, 5, 6, 7]), (2000004, [43, 7, 6, 5, 0]), (4000006, [7, 6, 5, 0])]
noncomputable def C (p : List Nat) : Code := (cod fn).sub p
def KR (Q : QT) : KT := retA pg fn.results.toList Q
abbrev T2 := Pt → Nat → Nat → Bool → Pt → Nat → Nat → Bool → Int → Int → AHeap → Prop
def E2 (R2 : T2) (env : Env) (h : AHeap) : Prop := eVal 0 env fun v env => xSl (some v) fun a0 n0 c0 e0 => eVal 5 env fun v env => xSl (some v) fun a5 n5 c5 e5 => eVal 6 env fun v env => eInt .i64 v fun x6 => eVal 7 env fun v env => eInt .i64 v fun x7 => eNil env (R2 a0 n0 c0 e0 a5 n5 c5 e5 x6 x7 h)
theorem E2elim {R2 : T2} {env : Env} {h : AHeap} (hi : E2 R2 env h) : ∃ a0, ∃ n0, ∃ c0, ∃ e0, ∃ a5, ∃ n5, ∃ c5, ∃ e5, ∃ x6, ∃ x7, env = [(0, .slice a0 n0 c0 e0), (5, .slice a5 n5 c5 e5), (6, .int .i64 x6), (7, .int .i64 x7)] ∧ R2 a0 n0 c0 e0 a5 n5 c5 e5 x6 x7 h := by
  unfold E2 at hi
  have hi0 := hi
  clear hi
  obtain ⟨_, _, rfl, hi1⟩ := eVal_elim hi0
  obtain ⟨a0, n0, c0, e0, rfl, hi2⟩ := xSl_elim hi1
  obtain ⟨_, _, rfl, hi3⟩ := eVal_elim hi2
  obtain ⟨a5, n5, c5, e5, rfl, hi4⟩ := xSl_elim hi3
  obtain ⟨_, _, rfl, hi5⟩ := eVal_elim hi4
  obtain ⟨x6, rfl, hi6⟩ := eInt_elim hi5
  obtain ⟨_, _, rfl, hi7⟩ := eVal_elim hi6
  obtain ⟨x7, rfl, hi8⟩ := eInt_elim hi7
  obtain ⟨rfl, hi9⟩ := eNil_elim hi8
  have hi := hi9
  exact ⟨a0, n0, c0, e0, a5, n5, c5, e5, x6, x7, rfl, hi⟩
def K0 (Q : QT) : KT := andThen (fun env' h' => (match kp.find 4000007 with | some ks => Den pg fn.ntmps (C [1, 1]) (env'.keep ks) h' (KR Q) | none => den pg fn.ntmps kp (C [1, 1]) env' h' (KR Q))) (KR Q)
def K1 (Q : QT) : KT := onExit 0 (K0 Q)
def K2 (Q : QT) : KT := left kp 2 (K1 Q)
def K3 (Q : QT) (R2 : T2) : KT := rnd ((kp.find 1000002).getD []) (E2 R2) (K2 Q)
def L2 (Q : QT) (a0 : Pt) (n0 c0 : Nat) (e0 : Bool) (a5 : Pt) (n5 c5 : Nat) (e5 : Bool) (x6 x7 : Int) (h : AHeap) : Prop := Loop (Den pg fn.ntmps (C [1, 0, 1, 0, 0])) ((kp.find 1000002).getD []) (K2 Q) [(0, .slice a0 n0 c0 e0), (5, .slice a5 n5 c5 e5), (6, .int .i64 x6), (7, .int .i64 x7)] h
def J6 (Q : QT) (R2 : T2) (x7 x6 : Int) (a5 : Pt) (n5 c5 : Nat) (e5 : Bool) (a0 : Pt) (n0 c0 : Nat) (e0 : Bool) (h : AHeap) : Prop := Den pg fn.ntmps (C [1, 0, 1, 0, 0, 1, 1, 1]) [(7, .int .i64 x7), (6, .int .i64 x6), (5, .slice a5 n5 c5 e5), (0, .slice a0 n0 c0 e0)] h (K3 Q R2)
def A2x0 (Q : QT) (h : AHeap) : Prop := At (K1 Q) (.exit 0) [(2, .undef)] h
def L2t (Q : QT) (R2 : T2) (a0 : Pt) (n0 c0 : Nat) (e0 : Bool) (a5 : Pt) (n5 c5 : Nat) (e5 : Bool) (x6 x7 : Int) (h : AHeap) : Prop :=
 bcase (decide ((x7 : Int) < x6)) ((0 ≤ (x7 : Int) ∧ (x7 : Int) < (n5 : Nat)) ∧ (xSome a5 fun I0 O1 => xRow (hRow h (.ptr (some (I0, O1 + (Int.toNat x7) * 2))) 2) fun K2 => xCons K2 fun C3 Z4 => xStr (some C3) fun S5 => xCons Z4 fun C6 Z7 => xStr (some C6) fun S8 => xNil Z7 (letH (h ++ [.cells t_impl_Binding [.str [], .str []] false]) fun H9 => xHeap (hStore H9 (.ptr (some (h.length, 0))) [.str S5, .str S8]) fun H10 => xStr (hCell H10 (.ptr (some (h.length, 0 + 0)))) fun S11 => bcase (!((((List.length S11 : Nat) : Int) : Int) == 1)) ((hCell H10 (.tup []) = hCell H10 (.tup [])) ∧ Q (.bool false) H10) (xStr (hCell H10 (.ptr (some (h.length, 0 + 0)))) fun S12 => byteAt S12 0 fun B13 => SCall pg n_spec_l1Variable [.int .u8 (((B13 : Nat) : Int))] H10 fun V14 H15 =>
 xBool (some V14) fun B16 => bcase (!B16) ((hCell H15 (.tup []) = hCell H15 (.tup [])) ∧ Q (.bool false) H15) (xStr (hCell H15 (.ptr (some (h.length, 0 + 1)))) fun S17 => SCall pg n_spec_TypeValid [.str S17] H15 fun V18 H19 =>
 xBool (some V18) fun B20 => bcase (!B20) ((hCell H19 (.tup []) = hCell H19 (.tup [])) ∧ Q (.bool false) H19) (bcase (decide ((x7 : Int) > 0)) ((0 ≤ (IntKind.wrap .i64 (x7 - 1) : Int) ∧ (IntKind.wrap .i64 (x7 - 1) : Int) < (n0 : Nat)) ∧ (xSome a0 fun I21 O22 => xStr (hCell H19 (.ptr (some (I21, O22 + (Int.toNat (IntKind.wrap .i64 (x7 - 1))) * 2 + 0)))) fun S23 => xStr (hCell H19 (.ptr (some (h.length, 0 + 0)))) fun S24 => (hCell H19 (.ptr (some (I21, O22 + (Int.toNat (IntKind.wrap .i64 (x7 - 1))) * 2 + 0))) = hCell H19 (.ptr (some (I21, O22 + (Int.toNat (IntKind.wrap .i64 (x7 - 1))) * 2 + 0)))) ∧ bcase (!natLess S23 S24) (Q (.bool false) H19) (J6 Q R2 x7 x6 a5 n5 c5 e5 a0 n0 c0 e0 H19))) ((hCell H19 (.tup []) = hCell H19 (.tup [])) ∧ J6 Q R2 x7 x6 a5 n5 c5 e5 a0 n0 c0 e0 H19))))))) (A2x0 Q h)
theorem L2den (Q : QT) (R2 : T2) (a0 : Pt) (n0 c0 : Nat) (e0 : Bool) (a5 : Pt) (n5 c5 : Nat) (e5 : Bool) (x6 x7 : Int) (h : AHeap) (ht : L2t Q R2 a0 n0 c0 e0 a5 n5 c5 e5 x6 x7 h) : Den pg fn.ntmps (C [1, 0, 1, 0, 0]) [(0, .slice a0 n0 c0 e0), (5, .slice a5 n5 c5 e5), (6, .int .i64 x6), (7, .int .i64 x7)] h (K3 Q R2) :=
  den_Den (kp := kp) (cast (by kernel_rfl) ht)
theorem L2ind (Q : QT) (a0 : Pt) (n0 c0 : Nat) (e0 : Bool) (a5 : Pt) (n5 c5 : Nat) (e5 : Bool) (x6 : Int) {G : Type} (J : G → Int → AHeap → Prop) (m : G → Nat)
 (hr : ∀ (g : G) (x7 : Int) (h : AHeap), J g x7 h → ∀ (R2 : T2), (∀ g' (x7 : Int) (h : AHeap), m g' < m g → J g' x7 h → R2 a0 n0 c0 e0 a5 n5 c5 e5 x6 x7 h) → L2t Q R2 a0 n0 c0 e0 a5 n5 c5 e5 x6 x7 h)
 (g : G) (x7 : Int) (h : AHeap) (hj : J g x7 h) : L2 Q a0 n0 c0 e0 a5 n5 c5 e5 x6 x7 h := by
  refine Loop.inv2 (fun g => E2 fun a0' n0' c0' e0' a5' n5' c5' e5' x6' x7 h => a0 = a0' ∧ n0 = n0' ∧ c0 = c0' ∧ e0 = e0' ∧ a5 = a5' ∧ n5 = n5' ∧ c5 = c5' ∧ e5 = e5' ∧ x6 = x6' ∧ J g x7 h) (fun g => E2 fun a0' n0' c0' e0' a5' n5' c5' e5' x6' x7 h => a0 = a0' ∧ n0 = n0' ∧ c0 = c0' ∧ e0 = e0' ∧ a5 = a5' ∧ n5 = n5' ∧ c5 = c5' ∧ e5 = e5' ∧ x6 = x6' ∧ ∃ g', m g' < m g ∧ J g' x7 h) m ?_ ?_ g ⟨rfl, rfl, rfl, rfl, rfl, rfl, rfl, rfl, rfl, hj⟩
  · intro g env h hi
    obtain ⟨a0', n0', c0', e0', a5', n5', c5', e5', x6', x7, rfl, rfl, rfl, rfl, rfl, rfl, rfl, rfl, rfl, rfl, hj⟩ := E2elim hi
    exact L2den Q _ a0 n0 c0 e0 a5 n5 c5 e5 x6 x7 h (hr g x7 h hj (fun a0' n0' c0' e0' a5' n5' c5' e5' x6' x7 h => a0 = a0' ∧ n0 = n0' ∧ c0 = c0' ∧ e0 = e0' ∧ a5 = a5' ∧ n5 = n5' ∧ c5 = c5' ∧ e5 = e5' ∧ x6 = x6' ∧ ∃ g', m g' < m g ∧ J g' x7 h) fun g' x7 h hlt hj => ⟨rfl, rfl, rfl, rfl, rfl, rfl, rfl, rfl, rfl, g', hlt, hj⟩)
  · intro g env h hi
    obtain ⟨a0', n0', c0', e0', a5', n5', c5', e5', x6', x7, rfl, rfl, rfl, rfl, rfl, rfl, rfl, rfl, rfl, rfl, g', hlt, hj⟩ := E2elim hi
    exact ⟨g', hlt, rfl, rfl, rfl, rfl, rfl, rfl, rfl, rfl, rfl, hj⟩
theorem J6i (Q : QT) (R2 : T2) (x7 x6 : Int) (a5 : Pt) (n5 c5 : Nat) (e5 : Bool) (a0 : Pt) (n0 c0 : Nat) (e0 : Bool) (h : AHeap) (ht :
 R2 a0 n0 c0 e0 a5 n5 c5 e5 x6 (IntKind.wrap .i64 (x7 + 1)) h) : J6 Q R2 x7 x6 a5 n5 c5 e5 a0 n0 c0 e0 h :=
  den_Den (kp := kp) (cast (by kernel_rfl) ht)
theorem A2x0i (Q : QT) (h : AHeap) (ht :
 Q (.bool true) h) : A2x0 Q h :=
  At.mk (cast (by kernel_rfl) ht)
theorem call (a0 : Pt) (n0 c0 : Nat) (e0 : Bool) (h : AHeap) (Q : QT) (ht :
 L2 Q a0 n0 c0 e0 a0 n0 c0 e0 (((n0 : Nat) : Int)) 0 h) : SCall pg n_spec_BindingsValid [.slice a0 n0 c0 e0] h Q :=
  SCall.of_body kp (c := cod fn) (fn := fn) Go.Proofs.Tryz.func144 (by kernel_rfl) (by kernel_rfl) (Nat.le_of_ble_eq_true (by kernel_rfl))
    (cast (by kernel_rfl) ht)
end F_spec_BindingsValid
/-! Function loop.example/instancesearch/spec.l2Put -/
namespace F_spec_l2Put
noncomputable abbrev fn : Func := Go.Proofs.Tryz.f146
def kp : Keeps := [(4000004, [3, 0, 4]), (3000006, [6, 4]), (1000006, [0, 4, 6, 33, 34, 35]), (2000008, [35, 34, 33, 6, 0, 4])]
noncomputable def C (p : List Nat) : Code := (cod fn).sub p
def KR (Q : QT) : KT := retA pg fn.results.toList Q
abbrev T6 := Pt → Nat → Nat → Nat → Nat → Pt → Nat → Nat → Bool → Int → Int → AHeap → Prop
def E6 (R6 : T6) (env : Env) (h : AHeap) : Prop := eVal 0 env fun v env => xPtr (some v) fun a0 => eVal 4 env fun v env => xPtr (some v) fun a => xSome a fun i4 o4 => eVal 6 env fun v env => xPtr (some v) fun a => xSome a fun i6 o6 => eVal 33 env fun v env => xSl (some v) fun a33 n33 c33 e33 => eVal 34 env fun v env => eInt .i64 v fun x34 => eVal 35 env fun v env => eInt .i64 v fun x35 => eNil env (R6 a0 i4 o4 i6 o6 a33 n33 c33 e33 x34 x35 h)
theorem E6elim {R6 : T6} {env : Env} {h : AHeap} (hi : E6 R6 env h) : ∃ a0, ∃ i4, ∃ o4, ∃ i6, ∃ o6, ∃ a33, ∃ n33, ∃ c33, ∃ e33, ∃ x34, ∃ x35, env = [(0, .ptr a0), (4, .ptr (some (i4, o4))), (6, .ptr (some (i6, o6))), (33, .slice a33 n33 c33 e33), (34, .int .i64 x34), (35, .int .i64 x35)] ∧ R6 a0 i4 o4 i6 o6 a33 n33 c33 e33 x34 x35 h := by
  unfold E6 at hi
  have hi0 := hi
  clear hi
  obtain ⟨_, _, rfl, hi1⟩ := eVal_elim hi0
  obtain ⟨a0, rfl, hi2⟩ := xPtr_elim hi1
  obtain ⟨_, _, rfl, hi3⟩ := eVal_elim hi2
  obtain ⟨a, rfl, hi4⟩ := xPtr_elim hi3
  obtain ⟨i4, o4, rfl, hi5⟩ := xSome_elim hi4
  obtain ⟨_, _, rfl, hi6⟩ := eVal_elim hi5
  obtain ⟨a, rfl, hi7⟩ := xPtr_elim hi6
  obtain ⟨i6, o6, rfl, hi8⟩ := xSome_elim hi7
  obtain ⟨_, _, rfl, hi9⟩ := eVal_elim hi8
  obtain ⟨a33, n33, c33, e33, rfl, hi10⟩ := xSl_elim hi9
  obtain ⟨_, _, rfl, hi11⟩ := eVal_elim hi10
  obtain ⟨x34, rfl, hi12⟩ := eInt_elim hi11
  obtain ⟨_, _, rfl, hi13⟩ := eVal_elim hi12
  obtain ⟨x35, rfl, hi14⟩ := eInt_elim hi13
  obtain ⟨rfl, hi15⟩ := eNil_elim hi14
  have hi := hi15
  exact ⟨a0, i4, o4, i6, o6, a33, n33, c33, e33, x34, x35, rfl, hi⟩
def K0 (Q : QT) : KT := andThen (fun env' h' => (match kp.find 4000010 with | some ks => Den pg fn.ntmps (C [1, 1, 1, 1]) (env'.keep ks) h' (KR Q) | none => den pg fn.ntmps kp (C [1, 1, 1, 1]) env' h' (KR Q))) (KR Q)
def K1 (Q : QT) : KT := onExit 0 (K0 Q)
def K2 (Q : QT) : KT := left kp 6 (K1 Q)
def K3 (Q : QT) (R6 : T6) : KT := rnd ((kp.find 1000006).getD []) (E6 R6) (K2 Q)
def J4 (Q : QT) (i3 o3 : Nat) (a0 : Pt) (i4 o4 : Nat) (h : AHeap) : Prop := Den pg fn.ntmps (C [1, 1]) [(3, .ptr (some (i3, o3))), (0, .ptr a0), (4, .ptr (some (i4, o4)))] h (KR Q)
def L6 (Q : QT) (a0 : Pt) (i4 o4 i6 o6 : Nat) (a33 : Pt) (n33 c33 : Nat) (e33 : Bool) (x34 x35 : Int) (h : AHeap) : Prop := Loop (Den pg fn.ntmps (C [1, 1, 1, 0, 1, 0, 0])) ((kp.find 1000006).getD []) (K2 Q) [(0, .ptr a0), (4, .ptr (some (i4, o4))), (6, .ptr (some (i6, o6))), (33, .slice a33 n33 c33 e33), (34, .int .i64 x34), (35, .int .i64 x35)] h
def A6x0 (Q : QT) (i6 o6 i4 o4 : Nat) (h : AHeap) : Prop := At (K1 Q) (.exit 0) [(6, .ptr (some (i6, o6))), (4, .ptr (some (i4, o4)))] h
theorem J4i (Q : QT) (i3 o3 : Nat) (a0 : Pt) (i4 o4 : Nat) (h : AHeap) (ht :
 xInt .u8 (hCell h (.ptr (some (i3, o3 + 0)))) fun X32 => letH (h ++ [.cells t_spec_l1Node [] false]) fun H33 => letH (H33 ++ [.cells t_spec_l1Node [.int .u8 0, .slice none 0 0 true] false]) fun H34 => xHeap (hStore H34 (.ptr (some (H33.length, 0))) [.int .u8 X32, .slice (some (h.length, 0)) 0 0 true]) fun H35 => xSl (hCell H35 (.ptr (some (i3, o3 + 1)))) fun A36 N37 C38 E39 => L6 Q a0 i4 o4 H33.length 0 A36 N37 C38 E39 (((N37 : Nat) : Int)) 0 H35) : J4 Q i3 o3 a0 i4 o4 h :=
  den_Den (kp := kp) (cast (by kernel_rfl) ht)
def L6t (Q : QT) (R6 : T6) (a0 : Pt) (i4 o4 i6 o6 : Nat) (a33 : Pt) (n33 c33 : Nat) (e33 : Bool) (x34 x35 : Int) (h : AHeap) : Prop :=
 bcase (decide ((x35 : Int) < x34)) ((0 ≤ (x35 : Int) ∧ (x35 : Int) < (n33 : Nat)) ∧ (xSome a33 fun I40 O41 => xRow (hRow h (.ptr (some (I40, O41 + (Int.toNat x35) * 2))) 2) fun K42 => xCons K42 fun C43 Z44 => xInt .u8 (some C43) fun X45 => xCons Z44 fun C46 Z47 => xSl (some C46) fun A48 N49 C50 E51 => xNil Z47 (letH (h ++ [.cells t_spec_l1Node [.int .u8 0, .slice none 0 0 true] false]) fun H52 => xHeap (hStore H52 (.ptr (some (h.length, 0))) [.int .u8 X45, .slice A48 N49 C50 E51]) fun H53 => xSl (hCell H53 (.ptr (some (i6, o6 + 1)))) fun A54 N55 C56 E57 => xRow (hRow H53 (.ptr (some (h.length, 0))) 2) fun K58 => xCons K58 fun C59 Z60 => xInt .u8 (some C59) fun X61 => xCons Z60 fun C62 Z63 => xSl (some C62) fun A64 N65 C66 E67 => xNil Z63 ((hCell H53 (.ptr (some (i6, o6 + 1))) = hCell H53 (.ptr (some (i6, o6 + 1)))) ∧ SCall pg n_spec_l2Put [.ptr a0, .agg [.int .u8 X61, .slice A64 N65 C66 E67]] H53 fun V68 H69 =>
 xAgg V68 fun K70 => xCons K70 fun C71 Z72 => xInt .u8 (some C71) fun X73 => xCons Z72 fun C74 Z75 => xSl (some C74) fun A76 N77 C78 E79 => xNil Z75 ((hCell H69 (.ptr (some (i6, o6 + 1))) = hCell H53 (.ptr (some (i6, o6 + 1)))) ∧ letH (H69 ++ [.cells t_spec_l1Node [.int .u8 X73, .slice A76 N77 C78 E79] false]) fun H80 => (hCell H80 (.ptr (some (i6, o6 + 1))) = hCell H69 (.ptr (some (i6, o6 + 1)))) ∧ appendA pg t_L_spec_l1Node H80 (.slice A54 N55 C56 E57) (.slice (some (H69.length, 0)) 1 1 true) fun V81 H82 => xSl (some V81) fun A83 N84 C85 E86 => xHeap (hStore H82 (.ptr (some (i6, o6 + 1))) [.slice A83 N84 C85 E86]) fun H87 => R6 a0 i4 o4 i6 o6 a33 n33 c33 e33 x34 (IntKind.wrap .i64 (x35 + 1)) H87))))) (A6x0 Q i6 o6 i4 o4 h)
theorem L6den (Q : QT) (R6 : T6) (a0 : Pt) (i4 o4 i6 o6 : Nat) (a33 : Pt) (n33 c33 : Nat) (e33 : Bool) (x34 x35 : Int) (h : AHeap) (ht : L6t Q R6 a0 i4 o4 i6 o6 a33 n33 c33 e33 x34 x35 h) : Den pg fn.ntmps (C [1, 1, 1, 0, 1, 0, 0]) [(0, .ptr a0), (4, .ptr (some (i4, o4))), (6, .ptr (some (i6, o6))), (33, .slice a33 n33 c33 e33), (34, .int .i64 x34), (35, .int .i64 x35)] h (K3 Q R6) :=
  den_Den (kp := kp) (cast (by kernel_rfl) ht)
theorem L6ind (Q : QT) (a0 : Pt) (i4 o4 i6 o6 : Nat) (a33 : Pt) (n33 c33 : Nat) (e33 : Bool) (x34 : Int) {G : Type} (J : G → Int → AHeap → Prop) (m : G → Nat)
 (hr : ∀ (g : G) (x35 : Int) (h : AHeap), J g x35 h → ∀ (R6 : T6), (∀ g' (x35 : Int) (h : AHeap), m g' < m g → J g' x35 h → R6 a0 i4 o4 i6 o6 a33 n33 c33 e33 x34 x35 h) → L6t Q R6 a0 i4 o4 i6 o6 a33 n33 c33 e33 x34 x35 h)
 (g : G) (x35 : Int) (h : AHeap) (hj : J g x35 h) : L6 Q a0 i4 o4 i6 o6 a33 n33 c33 e33 x34 x35 h := by
  refine Loop.inv2 (fun g => E6 fun a0' i4' o4' i6' o6' a33' n33' c33' e33' x34' x35 h => a0 = a0' ∧ i4 = i4' ∧ o4 = o4' ∧ i6 = i6' ∧ o6 = o6' ∧ a33 = a33' ∧ n33 = n33' ∧ c33 = c33' ∧ e33 = e33' ∧ x34 = x34' ∧ J g x35 h) (fun g => E6 fun a0' i4' o4' i6' o6' a33' n33' c33' e33' x34' x35 h => a0 = a0' ∧ i4 = i4' ∧ o4 = o4' ∧ i6 = i6' ∧ o6 = o6' ∧ a33 = a33' ∧ n33 = n33' ∧ c33 = c33' ∧ e33 = e33' ∧ x34 = x34' ∧ ∃ g', m g' < m g ∧ J g' x35 h) m ?_ ?_ g ⟨rfl, rfl, rfl, rfl, rfl, rfl, rfl, rfl, rfl, rfl, hj⟩
  · intro g env h hi
    obtain ⟨a0', i4', o4', i6', o6', a33', n33', c33', e33', x34', x35, rfl, rfl, rfl, rfl, rfl, rfl, rfl, rfl, rfl, rfl, rfl, hj⟩ := E6elim hi
    exact L6den Q _ a0 i4 o4 i6 o6 a33 n33 c33 e33 x34 x35 h (hr g x35 h hj (fun a0' i4' o4' i6' o6' a33' n33' c33' e33' x34' x35 h => a0 = a0' ∧ i4 = i4' ∧ o4 = o4' ∧ i6 = i6' ∧ o6 = o6' ∧ a33 = a33' ∧ n33 = n33' ∧ c33 = c33' ∧ e33 = e33' ∧ x34 = x34' ∧ ∃ g', m g' < m g ∧ J g' x35 h) fun g' x35 h hlt hj => ⟨rfl, rfl, rfl, rfl, rfl, rfl, rfl, rfl, rfl, rfl, g', hlt, hj⟩)
  · intro g env h hi
    obtain ⟨a0', i4', o4', i6', o6', a33', n33', c33', e33', x34', x35, rfl, rfl, rfl, rfl, rfl, rfl, rfl, rfl, rfl, rfl, rfl, g', hlt, hj⟩ := E6elim hi
    exact ⟨g', hlt, rfl, rfl, rfl, rfl, rfl, rfl, rfl, rfl, rfl, rfl, hj⟩
theorem A6x0i (Q : QT) (i6 o6 i4 o4 : Nat) (h : AHeap) (ht :
 xRow (hRow h (.ptr (some (i6, o6))) 2) fun K88 => xCons K88 fun C89 Z90 => xInt .u8 (some C89) fun X91 => xCons Z90 fun C92 Z93 => xSl (some C92) fun A94 N95 C96 E97 => xNil Z93 (xHeap (hStore h (.ptr (some (i4, o4))) [.int .u8 X91, .slice A94 N95 C96 E97]) fun H98 => xRow (hRow H98 (.ptr (some (i4, o4))) 2) fun K99 => xCons K99 fun C100 Z101 => xInt .u8 (some C100) fun X102 => xCons Z101 fun C103 Z104 => xSl (some C103) fun A105 N106 C107 E108 => xNil Z104 (Q (.agg [.int .u8 X102, .slice A105 N106 C107 E108]) H98))) : A6x0 Q i6 o6 i4 o4 h :=
  At.mk (cast (by kernel_rfl) ht)
theorem call (a0 : Pt) (x1x0 : Int) (a1x1 : Pt) (n1x1 c1x1 : Nat) (e1x1 : Bool) (h : AHeap) (Q : QT) (ht :
 letH (h ++ [.cells t_spec_l1Node [.int .u8 x1x0, .slice a1x1 n1x1 c1x1 e1x1] false]) fun H0 => letH (H0 ++ [.cells t_spec_l1Node [.int .u8 0, .slice none 0 0 true] false]) fun H1 => xInt .u8 (hCell H1 (.ptr (some (h.length, 0 + 0)))) fun X2 => SCall pg n_spec_l2Index [.int .u8 X2] H1 fun V3 H4 =>
 xInt .i64 (some V3) fun X5 => bcase (decide ((X5 : Int) ≥ 0)) (xSome a0 fun I6 O7 => (0 ≤ (X5 : Int) ∧ (X5 : Int) < (12 : Nat)) ∧ (xInt .u8 (hCell H4 (.ptr (some (I6, O7 + (Int.toNat X5) * 2 + 0)))) fun X8 => bcase (!((X8 : Int) == 0)) (xSome a0 fun I9 O10 => (0 ≤ (X5 : Int) ∧ (X5 : Int) < (12 : Nat)) ∧ (xRow (hRow H4 (.ptr (some (I9, O10 + (Int.toNat X5) * 2))) 2) fun K11 => xCons K11 fun C12 Z13 => xInt .u8 (some C12) fun X14 => xCons Z13 fun C15 Z16 => xSl (some C15) fun A17 N18 C19 E20 => xNil Z16 (xHeap (hStore H4 (.ptr (some (H0.length, 0))) [.int .u8 X14, .slice A17 N18 C19 E20]) fun H21 => xRow (hRow H21 (.ptr (some (H0.length, 0))) 2) fun K22 => xCons K22 fun C23 Z24 => xInt .u8 (some C23) fun X25 => xCons Z24 fun C26 Z27 => xSl (some C26) fun A28 N29 C30 E31 => xNil Z27 (Q (.agg [.int .u8 X25, .slice A28 N29 C30 E31]) H21)))) (J4 Q h.length 0 a0 H0.length 0 H4))) (J4 Q h.length 0 a0 H0.length 0 H4)) : SCall pg n_spec_l2Put [.ptr a0, .agg [.int .u8 x1x0, .slice a1x1 n1x1 c1x1 e1x1]] h Q :=
  SCall.of_body kp (c := cod fn) (fn := fn) Go.Proofs.Tryz.func146 (by kernel_rfl) (by kernel_rfl) (Nat.le_of_ble_eq_true (by kernel_rfl))
    (cast (by kernel_rfl) ht)
end F_spec_l2Put
end Go.Sim

/- Printed by wip/tool: what the functions' bodies do, in the words of 'den'. -/
set_option maxRecDepth 100000
set_option linter.unusedVariables false
namespace Go.Sim
open Go Go.RowKit
/-! Function loop.example/instancesearch/impl.BindingsValid -/
namespace F_impl_BindingsValid
noncomputable abbrev fn : Func := Go.Proofs.Tryz.f153
def kp : Keeps := [(3000002, [2]), (1000002, [0, 5, 6, 7]), (2000004, [36, 7, 6, 5, 0]), (4000006, [7, 6, 5, 0])]
noncomputable def C (p : List Nat) : Code := (cod fn).sub p
def KR (Q : QT) : KT := retA pg fn.results.toList Q
abbrev T2 := Pt → Nat → Nat → Bool → Pt → Nat → Nat → Bool → Int → Int → AHeap → Prop
def E2 (R2 : T2) (env : Env) (h : AHeap) : Prop := eVal 0 env fun v env => xSl (some v) fun a0 n0 c0 e0 => eVal 5 env fun v env => xSl (some v) fun a5 n5 c5 e5 => eVal 6 env fun v env => eInt .i64 v fun x6 => eVal 7 env fun v env => eInt .i64 v fun x7 => eNil env (R2 a0 n0 c0 e0 a5 n5 c5 e5 x6 x7 h)
theorem E2elim {R2 : T2} {env : Env} {h : AHeap} (hi : E2 R2 env h) : ∃ a0, ∃ n0, ∃ c0, ∃ e0, ∃ a5, ∃ n5, ∃ c5, ∃ e5, ∃ x6, ∃ x7, env = [(0, .slice a0 n0 c0 e0), (5, .slice a5 n5 c5 e5), (6, .int .i64 x6), (7, .int .i64 x7)] ∧ R2 a0 n0 c0 e0 a5 n5 c5 e5 x6 x7 h := by
  unfold E2 at hi
  have hi0 := hi
  clear hi
  obtain ⟨_, _, rfl, hi1⟩ := eVal_elim hi0
  obtain ⟨a0, n0, c0, e0, rfl, hi2⟩ := xSl_elim hi1
  obtain ⟨_, _, rfl, hi3⟩ := eVal_elim hi2
  obtain ⟨a5, n5, c5, e5, rfl, hi4⟩ := xSl_elim hi3
  obtain ⟨_, _, rfl, hi5⟩ := eVal_elim hi4
  obtain ⟨x6, rfl, hi6⟩ := eInt_elim hi5
  obtain ⟨_, _, rfl, hi7⟩ := eVal_elim hi6
  obtain ⟨x7, rfl, hi8⟩ := eInt_elim hi7
  obtain ⟨rfl, hi9⟩ := eNil_elim hi8
  have hi := hi9
  exact ⟨a0, n0, c0, e0, a5, n5, c5, e5, x6, x7, rfl, hi⟩
def K0 (Q : QT) : KT := andThen (fun env' h' => (match kp.find 4000007 with | some ks => Den pg fn.ntmps (C [1, 1]) (env'.keep ks) h' (KR Q) | none => den pg fn.ntmps kp (C [1, 1]) env' h' (KR Q))) (KR Q)
def K1 (Q : QT) : KT := onExit 0 (K0 Q)
def K2 (Q : QT) : KT := left kp 2 (K1 Q)
def K3 (Q : QT) (R2 : T2) : KT := rnd ((kp.find 1000002).getD []) (E2 R2) (K2 Q)
def L2 (Q : QT) (a0 : Pt) (n0 c0 : Nat) (e0 : Bool) (a5 : Pt) (n5 c5 : Nat) (e5 : Bool) (x6 x7 : Int) (h : AHeap) : Prop := Loop (Den pg fn.ntmps (C [1, 0, 1, 0, 0])) ((kp.find 1000002).getD []) (K2 Q) [(0, .slice a0 n0 c0 e0), (5, .slice a5 n5 c5 e5), (6, .int .i64 x6), (7, .int .i64 x7)] h
def J6 (Q : QT) (R2 : T2) (x7 x6 : Int) (a5 : Pt) (n5 c5 : Nat) (e5 : Bool) (a0 : Pt) (n0 c0 : Nat) (e0 : Bool) (h : AHeap) : Prop := Den pg fn.ntmps (C [1, 0, 1, 0, 0, 1, 1, 1]) [(7, .int .i64 x7), (6, .int .i64 x6), (5, .slice a5 n5 c5 e5), (0, .slice a0 n0 c0 e0)] h (K3 Q R2)
def A2x0 (Q : QT) (h : AHeap) : Prop := At (K1 Q) (.exit 0) [(2, .undef)] h
def L2t (Q : QT) (R2 : T2) (a0 : Pt) (n0 c0 : Nat) (e0 : Bool) (a5 : Pt) (n5 c5 : Nat) (e5 : Bool) (x6 x7 : Int) (h : AHeap) : Prop :=
 bcase (decide ((x7 : Int) < x6)) ((0 ≤ (x7 : Int) ∧ (x7 : Int) < (n5 : Nat)) ∧ (xSome a5 fun I0 O1 => xRow (hRow h (.ptr (some (I0, O1 + (Int.toNat x7) * 2))) 2) fun K2 => xCons K2 fun C3 Z4 => xStr (some C3) fun S5 => xCons Z4 fun C6 Z7 => xStr (some C6) fun S8 => xNil Z7 (letH (h ++ [.cells t_impl_Binding [.str [], .str []] false]) fun H9 => xHeap (hStore H9 (.ptr (some (h.length, 0))) [.str S5, .str S8]) fun H10 => xStr (hCell H10 (.ptr (some (h.length, 0 + 0)))) fun S11 => SCall pg n_impl_isVar [.str S11] H10 fun V12 H13 =>
 xBool (some V12) fun B14 => bcase (!B14) ((hCell H13 (.tup []) = hCell H13 (.tup [])) ∧ Q (.bool false) H13) (xStr (hCell H13 (.ptr (some (h.length, 0 + 1)))) fun S15 => SCall pg n_impl_TypeValid [.str S15] H13 fun V16 H17 =>
 xBool (some V16) fun B18 => bcase (!B18) ((hCell H17 (.tup []) = hCell H17 (.tup [])) ∧ Q (.bool false) H17) (bcase (decide ((x7 : Int) > 0)) ((0 ≤ (IntKind.wrap .i64 (x7 - 1) : Int) ∧ (IntKind.wrap .i64 (x7 - 1) : Int) < (n0 : Nat)) ∧ (xSome a0 fun I19 O20 => xStr (hCell H17 (.ptr (some (I19, O20 + (Int.toNat (IntKind.wrap .i64 (x7 - 1))) * 2 + 0)))) fun S21 => xStr (hCell H17 (.ptr (some (h.length, 0 + 0)))) fun S22 => (hCell H17 (.ptr (some (I19, O20 + (Int.toNat (IntKind.wrap .i64 (x7 - 1))) * 2 + 0))) = hCell H17 (.ptr (some (I19, O20 + (Int.toNat (IntKind.wrap .i64 (x7 - 1))) * 2 + 0)))) ∧ bcase (!natLess S21 S22) (Q (.bool false) H17) (J6 Q R2 x7 x6 a5 n5 c5 e5 a0 n0 c0 e0 H17))) ((hCell H17 (.tup []) = hCell H17 (.tup [])) ∧ J6 Q R2 x7 x6 a5 n5 c5 e5 a0 n0 c0 e0 H17)))))) (A2x0 Q h)
theorem L2den (Q : QT) (R2 : T2) (a0 : Pt) (n0 c0 : Nat) (e0 : Bool) (a5 : Pt) (n5 c5 : Nat) (e5 : Bool) (x6 x7 : Int) (h : AHeap) (ht : L2t Q R2 a0 n0 c0 e0 a5 n5 c5 e5 x6 x7 h) : Den pg fn.ntmps (C [1, 0, 1, 0, 0]) [(0, .slice a0 n0 c0 e0), (5, .slice a5 n5 c5 e5), (6, .int .i64 x6), (7, .int .i64 x7)] h (K3 Q R2) :=
  den_Den (kp := kp) (cast (by kernel_rfl) ht)
theorem L2ind (Q : QT) (a0 : Pt) (n0 c0 : Nat) (e0 : Bool) (a5 : Pt) (n5 c5 : Nat) (e5 : Bool) (x6 : Int) {G : Type} (J : G → Int → AHeap → Prop) (m : G → Nat)
 (hr : ∀ (g : G) (x7 : Int) (h : AHeap), J g x7 h → ∀ (R2 : T2), (∀ g' (x7 : Int) (h : AHeap), m g' < m g → J g' x7 h → R2 a0 n0 c0 e0 a5 n5 c5 e5 x6 x7 h) → L2t Q R2 a0 n0 c0 e0 a5 n5 c5 e5 x6 x7 h)
 (g : G) (x7 : Int) (h : AHeap) (hj : J g x7 h) : L2 Q a0 n0 c0 e0 a5 n5 c5 e5 x6 x7 h := by
  refine Loop.inv2 (fun g => E2 fun a0' n0' c0' e0' a5' n5' c5' e5' x6' x7 h => a0 = a0' ∧ n0 = n0' ∧ c0 = c0' ∧ e0 = e0' ∧ a5 = a5' ∧ n5 = n5' ∧ c5 = c5' ∧ e5 = e5' ∧ x6 = x6' ∧ J g x7 h) (fun g => E2 fun a0' n0' c0' e0' a5' n5' c5' e5' x6' x7 h => a0 = a0' ∧ n0 = n0' ∧ c0 = c0' ∧ e0 = e0' ∧ a5 = a5' ∧ n5 = n5' ∧ c5 = c5' ∧ e5 = e5' ∧ x6 = x6' ∧ ∃ g', m g' < m g ∧ J g' x7 h) m ?_ ?_ g ⟨rfl, rfl, rfl, rfl, rfl, rfl, rfl, rfl, rfl, hj⟩
  · intro g env h hi
    obtain ⟨a0', n0', c0', e0', a5', n5', c5', e5', x6', x7, rfl, rfl, rfl, rfl, rfl, rfl, rfl, rfl, rfl, rfl, hj⟩ := E2elim hi
    exact L2den Q _ a0 n0 c0 e0 a5 n5 c5 e5 x6 x7 h (hr g x7 h hj (fun a0' n0' c0' e0' a5' n5' c5' e5' x6' x7 h => a0 = a0' ∧ n0 = n0' ∧ c0 = c0' ∧ e0 = e0' ∧ a5 = a5' ∧ n5 = n5' ∧ c5 = c5' ∧ e5 = e5' ∧ x6 = x6' ∧ ∃ g', m g' < m g ∧ J g' x7 h) fun g' x7 h hlt hj => ⟨rfl, rfl, rfl, rfl, rfl, rfl, rfl, rfl, rfl, g', hlt, hj⟩)
  · intro g env h hi
    obtain ⟨a0', n0', c0', e0', a5', n5', c5', e5', x6', x7, rfl, rfl, rfl, rfl, rfl, rfl, rfl, rfl, rfl, rfl, g', hlt, hj⟩ := E2elim hi
    exact ⟨g', hlt, rfl, rfl, rfl, rfl, rfl, rfl, rfl, rfl, rfl, hj⟩
theorem J6i (Q : QT) (R2 : T2) (x7 x6 : Int) (a5 : Pt) (n5 c5 : Nat) (e5 : Bool) (a0 : Pt) (n0 c0 : Nat) (e0 : Bool) (h : AHeap) (ht :
 R2 a0 n0 c0 e0 a5 n5 c5 e5 x6 (IntKind.wrap .i64 (x7 + 1)) h) : J6 Q R2 x7 x6 a5 n5 c5 e5 a0 n0 c0 e0 h :=
  den_Den (kp := kp) (cast (by kernel_rfl) ht)
theorem A2x0i (Q : QT) (h : AHeap) (ht :
 Q (.bool true) h) : A2x0 Q h :=
  At.mk (cast (by kernel_rfl) ht)
theorem call (a0 : Pt) (n0 c0 : Nat) (e0 : Bool) (h : AHeap) (Q : QT) (ht :
 L2 Q a0 n0 c0 e0 a0 n0 c0 e0 (((n0 : Nat) : Int)) 0 h) : SCall pg n_impl_BindingsValid [.slice a0 n0 c0 e0] h Q :=
  SCall.of_body kp (c := cod fn) (fn := fn) Go.Proofs.Tryz.func153 (by kernel_rfl) (by kernel_rfl) (Nat.le_of_ble_eq_true (by kernel_rfl))
    (cast (by kernel_rfl) ht)
end F_impl_BindingsValid
/-! Function loop.example/instancesearch/impl.ApplyBindings -/
namespace F_impl_ApplyBindings
noncomputable abbrev fn : Func := Go.Proofs.Tryz.f130
def kp : Keeps := [(4000003, [1, 0]), (3000005, [6]), (1000005, [0, 1, 6, 20, 21]), (3000009, [6, 8, 21, 20, 1, 0]), (1000009, [0, 1, 6, 8, 20, 21, 29, 30, 31])]
noncomputable def C (p : List Nat) : Code := (cod fn).sub p
def KR (Q : QT) : KT := retA pg fn.results.toList Q
abbrev T5 := Pt → Nat → Nat → Bool → List Nat → List Nat → Int → Int → AHeap → Prop
def E5 (R5 : T5) (env : Env) (h : AHeap) : Prop := eVal 0 env fun v env => xSl (some v) fun a0 n0 c0 e0 => eVal 1 env fun v env => xStr (some v) fun x1 => eVal 6 env fun v env => xStr (some v) fun x6 => eVal 20 env fun v env => eInt .i64 v fun x20 => eVal 21 env fun v env => eInt .i64 v fun x21 => eNil env (R5 a0 n0 c0 e0 x1 x6 x20 x21 h)
theorem E5elim {R5 : T5} {env : Env} {h : AHeap} (hi : E5 R5 env h) : ∃ a0, ∃ n0, ∃ c0, ∃ e0, ∃ x1, ∃ x6, ∃ x20, ∃ x21, env = [(0, .slice a0 n0 c0 e0), (1, .str x1), (6, .str x6), (20, .int .i64 x20), (21, .int .i64 x21)] ∧ R5 a0 n0 c0 e0 x1 x6 x20 x21 h := by
  unfold E5 at hi
  have hi0 := hi
  clear hi
  obtain ⟨_, _, rfl, hi1⟩ := eVal_elim hi0
  obtain ⟨a0, n0, c0, e0, rfl, hi2⟩ := xSl_elim hi1
  obtain ⟨_, _, rfl, hi3⟩ := eVal_elim hi2
  obtain ⟨x1, rfl, hi4⟩ := xStr_elim hi3
  obtain ⟨_, _, rfl, hi5⟩ := eVal_elim hi4
  obtain ⟨x6, rfl, hi6⟩ := xStr_elim hi5
  obtain ⟨_, _, rfl, hi7⟩ := eVal_elim hi6
  obtain ⟨x20, rfl, hi8⟩ := eInt_elim hi7
  obtain ⟨_, _, rfl, hi9⟩ := eVal_elim hi8
  obtain ⟨x21, rfl, hi10⟩ := eInt_elim hi9
  obtain ⟨rfl, hi11⟩ := eNil_elim hi10
  have hi := hi11
  exact ⟨a0, n0, c0, e0, x1, x6, x20, x21, rfl, hi⟩
abbrev T9 := Pt → Nat → Nat → Bool → List Nat → List Nat → List Nat → Int → Int → Pt → Nat → Nat → Bool → Int → Int → AHeap → Prop
def E9 (R9 : T9) (env : Env) (h : AHeap) : Prop := eVal 0 env fun v env => xSl (some v) fun a0 n0 c0 e0 => eVal 1 env fun v env => xStr (some v) fun x1 => eVal 6 env fun v env => xStr (some v) fun x6 => eVal 8 env fun v env => xStr (some v) fun x8 => eVal 20 env fun v env => eInt .i64 v fun x20 => eVal 21 env fun v env => eInt .i64 v fun x21 => eVal 29 env fun v env => xSl (some v) fun a29 n29 c29 e29 => eVal 30 env fun v env => eInt .i64 v fun x30 => eVal 31 env fun v env => eInt .i64 v fun x31 => eNil env (R9 a0 n0 c0 e0 x1 x6 x8 x20 x21 a29 n29 c29 e29 x30 x31 h)
theorem E9elim {R9 : T9} {env : Env} {h : AHeap} (hi : E9 R9 env h) : ∃ a0, ∃ n0, ∃ c0, ∃ e0, ∃ x1, ∃ x6, ∃ x8, ∃ x20, ∃ x21, ∃ a29, ∃ n29, ∃ c29, ∃ e29, ∃ x30, ∃ x31, env = [(0, .slice a0 n0 c0 e0), (1, .str x1), (6, .str x6), (8, .str x8), (20, .int .i64 x20), (21, .int .i64 x21), (29, .slice a29 n29 c29 e29), (30, .int .i64 x30), (31, .int .i64 x31)] ∧ R9 a0 n0 c0 e0 x1 x6 x8 x20 x21 a29 n29 c29 e29 x30 x31 h := by
  unfold E9 at hi
  have hi0 := hi
  clear hi
  obtain ⟨_, _, rfl, hi1⟩ := eVal_elim hi0
  obtain ⟨a0, n0, c0, e0, rfl, hi2⟩ := xSl_elim hi1
  obtain ⟨_, _, rfl, hi3⟩ := eVal_elim hi2
  obtain ⟨x1, rfl, hi4⟩ := xStr_elim hi3
  obtain ⟨_, _, rfl, hi5⟩ := eVal_elim hi4
  obtain ⟨x6, rfl, hi6⟩ := xStr_elim hi5
  obtain ⟨_, _, rfl, hi7⟩ := eVal_elim hi6
  obtain ⟨x8, rfl, hi8⟩ := xStr_elim hi7
  obtain ⟨_, _, rfl, hi9⟩ := eVal_elim hi8
  obtain ⟨x20, rfl, hi10⟩ := eInt_elim hi9
  obtain ⟨_, _, rfl, hi11⟩ := eVal_elim hi10
  obtain ⟨x21, rfl, hi12⟩ := eInt_elim hi11
  obtain ⟨_, _, rfl, hi13⟩ := eVal_elim hi12
  obtain ⟨a29, n29, c29, e29, rfl, hi14⟩ := xSl_elim hi13
  obtain ⟨_, _, rfl, hi15⟩ := eVal_elim hi14
  obtain ⟨x30, rfl, hi16⟩ := eInt_elim hi15
  obtain ⟨_, _, rfl, hi17⟩ := eVal_elim hi16
  obtain ⟨x31, rfl, hi18⟩ := eInt_elim hi17
  obtain ⟨rfl, hi19⟩ := eNil_elim hi18
  have hi := hi19
  exact ⟨a0, n0, c0, e0, x1, x6, x8, x20, x21, a29, n29, c29, e29, x30, x31, rfl, hi⟩
def K0 (Q : QT) : KT := andThen (fun env' h' => (match kp.find 4000016 with | some ks => Den pg fn.ntmps (C [1, 1, 1, 1]) (env'.keep ks) h' (KR Q) | none => den pg fn.ntmps kp (C [1, 1, 1, 1]) env' h' (KR Q))) (KR Q)
def K1 (Q : QT) : KT := onExit 0 (K0 Q)
def K2 (Q : QT) : KT := left kp 5 (K1 Q)
def K3 (Q : QT) (R5 : T5) : KT := rnd ((kp.find 1000005).getD []) (E5 R5) (K2 Q)
def K4 (Q : QT) (R5 : T5) : KT := andThen (fun env' h' => (match kp.find 4000015 with | some ks => Den pg fn.ntmps (C [1, 1, 1, 0, 1, 0, 0, 1, 1, 1]) (env'.keep ks) h' (K3 Q R5) | none => den pg fn.ntmps kp (C [1, 1, 1, 0, 1, 0, 0, 1, 1, 1]) env' h' (K3 Q R5))) (K3 Q R5)
def K5 (Q : QT) (R5 : T5) : KT := onExit 1 (K4 Q R5)
def K6 (Q : QT) (R5 : T5) : KT := andThen (fun env' h' => (match kp.find 4000014 with | some ks => Den pg fn.ntmps (C [1, 1, 1, 0, 1, 0, 0, 1, 1, 0, 0, 1, 1, 1]) (env'.keep ks) h' (K5 Q R5) | none => den pg fn.ntmps kp (C [1, 1, 1, 0, 1, 0, 0, 1, 1, 0, 0, 1, 1, 1]) env' h' (K5 Q R5))) (K5 Q R5)
def K7 (Q : QT) (R5 : T5) : KT := onExit 2 (K6 Q R5)
def K8 (Q : QT) (R5 : T5) : KT := left kp 9 (K7 Q R5)
def K9 (Q : QT) (R5 : T5) (R9 : T9) : KT := rnd ((kp.find 1000009).getD []) (E9 R9) (K8 Q R5)
def J3 (Q : QT) (x1 : List Nat) (a0 : Pt) (n0 c0 : Nat) (e0 : Bool) (h : AHeap) : Prop := Den pg fn.ntmps (C [1, 1]) [(1, .str x1), (0, .slice a0 n0 c0 e0)] h (KR Q)
def L5 (Q : QT) (a0 : Pt) (n0 c0 : Nat) (e0 : Bool) (x1 x6 : List Nat) (x20 x21 : Int) (h : AHeap) : Prop := Loop (Den pg fn.ntmps (C [1, 1, 1, 0, 1, 0, 0])) ((kp.find 1000005).getD []) (K2 Q) [(0, .slice a0 n0 c0 e0), (1, .str x1), (6, .str x6), (20, .int .i64 x20), (21, .int .i64 x21)] h
def L9 (Q : QT) (R5 : T5) (a0 : Pt) (n0 c0 : Nat) (e0 : Bool) (x1 x6 x8 : List Nat) (x20 x21 : Int) (a29 : Pt) (n29 c29 : Nat) (e29 : Bool) (x30 x31 : Int) (h : AHeap) : Prop := Loop (Den pg fn.ntmps (C [1, 1, 1, 0, 1, 0, 0, 1, 1, 0, 0, 1, 1, 0, 1, 0, 0])) ((kp.find 1000009).getD []) (K8 Q R5) [(0, .slice a0 n0 c0 e0), (1, .str x1), (6, .str x6), (8, .str x8), (20, .int .i64 x20), (21, .int .i64 x21), (29, .slice a29 n29 c29 e29), (30, .int .i64 x30), (31, .int .i64 x31)] h
def A5x0 (Q : QT) (x6 : List Nat) (h : AHeap) : Prop := At (K1 Q) (.exit 0) [(6, .str x6)] h
def A9x2 (Q : QT) (R5 : T5) (x6 x8 : List Nat) (x21 x20 : Int) (x1 : List Nat) (a0 : Pt) (n0 c0 : Nat) (e0 : Bool) (h : AHeap) : Prop := At (K7 Q R5) (.exit 2) [(6, .str x6), (8, .str x8), (21, .int .i64 x21), (20, .int .i64 x20), (1, .str x1), (0, .slice a0 n0 c0 e0)] h
theorem J3i (Q : QT) (x1 : List Nat) (a0 : Pt) (n0 c0 : Nat) (e0 : Bool) (h : AHeap) (ht :
 L5 Q a0 n0 c0 e0 x1 [] (((List.length x1 : Nat) : Int)) 0 h) : J3 Q x1 a0 n0 c0 e0 h :=
  den_Den (kp := kp) (cast (by kernel_rfl) ht)
def L5t (Q : QT) (R5 : T5) (a0 : Pt) (n0 c0 : Nat) (e0 : Bool) (x1 x6 : List Nat) (x20 x21 : Int) (h : AHeap) : Prop :=
 bcase (decide ((x21 : Int) < x20)) ((0 ≤ (x21 : Int) ∧ (x21 : Int) ≤ IntKind.wrap .i64 (x21 + 1) ∧ (IntKind.wrap .i64 (x21 + 1) : Int) ≤ (List.length x1 : Nat)) ∧ (L9 Q R5 a0 n0 c0 e0 x1 x6 (sub x1 x21 (IntKind.wrap .i64 (x21 + 1))) x20 x21 a0 n0 c0 e0 (((n0 : Nat) : Int)) 0 h)) (A5x0 Q x6 h)
theorem L5den (Q : QT) (R5 : T5) (a0 : Pt) (n0 c0 : Nat) (e0 : Bool) (x1 x6 : List Nat) (x20 x21 : Int) (h : AHeap) (ht : L5t Q R5 a0 n0 c0 e0 x1 x6 x20 x21 h) : Den pg fn.ntmps (C [1, 1, 1, 0, 1, 0, 0]) [(0, .slice a0 n0 c0 e0), (1, .str x1), (6, .str x6), (20, .int .i64 x20), (21, .int .i64 x21)] h (K3 Q R5) :=
  den_Den (kp := kp) (cast (by kernel_rfl) ht)
theorem L5ind (Q : QT) (a0 : Pt) (n0 c0 : Nat) (e0 : Bool) (x1 : List Nat) (x20 : Int) {G : Type} (J : G → List Nat → Int → AHeap → Prop) (m : G → Nat)
 (hr : ∀ (g : G) (x6 : List Nat) (x21 : Int) (h : AHeap), J g x6 x21 h → ∀ (R5 : T5), (∀ g' (x6 : List Nat) (x21 : Int) (h : AHeap), m g' < m g → J g' x6 x21 h → R5 a0 n0 c0 e0 x1 x6 x20 x21 h) → L5t Q R5 a0 n0 c0 e0 x1 x6 x20 x21 h)
 (g : G) (x6 : List Nat) (x21 : Int) (h : AHeap) (hj : J g x6 x21 h) : L5 Q a0 n0 c0 e0 x1 x6 x20 x21 h := by
  refine Loop.inv2 (fun g => E5 fun a0' n0' c0' e0' x1' x6 x20' x21 h => a0 = a0' ∧ n0 = n0' ∧ c0 = c0' ∧ e0 = e0' ∧ x1 = x1' ∧ x20 = x20' ∧ J g x6 x21 h) (fun g => E5 fun a0' n0' c0' e0' x1' x6 x20' x21 h => a0 = a0' ∧ n0 = n0' ∧ c0 = c0' ∧ e0 = e0' ∧ x1 = x1' ∧ x20 = x20' ∧ ∃ g', m g' < m g ∧ J g' x6 x21 h) m ?_ ?_ g ⟨rfl, rfl, rfl, rfl, rfl, rfl, hj⟩
  · intro g env h hi
    obtain ⟨a0', n0', c0', e0', x1', x6, x20', x21, rfl, rfl, rfl, rfl, rfl, rfl, rfl, hj⟩ := E5elim hi
    exact L5den Q _ a0 n0 c0 e0 x1 x6 x20 x21 h (hr g x6 x21 h hj (fun a0' n0' c0' e0' x1' x6 x20' x21 h => a0 = a0' ∧ n0 = n0' ∧ c0 = c0' ∧ e0 = e0' ∧ x1 = x1' ∧ x20 = x20' ∧ ∃ g', m g' < m g ∧ J g' x6 x21 h) fun g' x6 x21 h hlt hj => ⟨rfl, rfl, rfl, rfl, rfl, rfl, g', hlt, hj⟩)
  · intro g env h hi
    obtain ⟨a0', n0', c0', e0', x1', x6, x20', x21, rfl, rfl, rfl, rfl, rfl, rfl, rfl, g', hlt, hj⟩ := E5elim hi
    exact ⟨g', hlt, rfl, rfl, rfl, rfl, rfl, rfl, hj⟩
def L9t (Q : QT) (R5 : T5) (R9 : T9) (a0 : Pt) (n0 c0 : Nat) (e0 : Bool) (x1 x6 x8 : List Nat) (x20 x21 : Int) (a29 : Pt) (n29 c29 : Nat) (e29 : Bool) (x30 x31 : Int) (h : AHeap) : Prop :=
 bcase (decide ((x31 : Int) < x30)) ((0 ≤ (x31 : Int) ∧ (x31 : Int) < (n29 : Nat)) ∧ (xSome a29 fun I6 O7 => xRow (hRow h (.ptr (some (I6, O7 + (Int.toNat x31) * 2))) 2) fun K8 => xCons K8 fun C9 Z10 => xStr (some C9) fun S11 => xCons Z10 fun C12 Z13 => xStr (some C12) fun S14 => xNil Z13 (letH (h ++ [.cells t_impl_Binding [.str [], .str []] false]) fun H15 => xHeap (hStore H15 (.ptr (some (h.length, 0))) [.str S11, .str S14]) fun H16 => xStr (hCell H16 (.ptr (some (h.length, 0 + 0)))) fun S17 => bcase (decide (S17 = x8)) (xStr (hCell H16 (.ptr (some (h.length, 0 + 1)))) fun S18 => A9x2 Q R5 x6 S18 x21 x20 x1 a0 n0 c0 e0 H16) (R9 a0 n0 c0 e0 x1 x6 x8 x20 x21 a29 n29 c29 e29 x30 (IntKind.wrap .i64 (x31 + 1)) H16)))) (A9x2 Q R5 x6 x8 x21 x20 x1 a0 n0 c0 e0 h)
theorem L9den (Q : QT) (R5 : T5) (R9 : T9) (a0 : Pt) (n0 c0 : Nat) (e0 : Bool) (x1 x6 x8 : List Nat) (x20 x21 : Int) (a29 : Pt) (n29 c29 : Nat) (e29 : Bool) (x30 x31 : Int) (h : AHeap) (ht : L9t Q R5 R9 a0 n0 c0 e0 x1 x6 x8 x20 x21 a29 n29 c29 e29 x30 x31 h) : Den pg fn.ntmps (C [1, 1, 1, 0, 1, 0, 0, 1, 1, 0, 0, 1, 1, 0, 1, 0, 0]) [(0, .slice a0 n0 c0 e0), (1, .str x1), (6, .str x6), (8, .str x8), (20, .int .i64 x20), (21, .int .i64 x21), (29, .slice a29 n29 c29 e29), (30, .int .i64 x30), (31, .int .i64 x31)] h (K9 Q R5 R9) :=
  den_Den (kp := kp) (cast (by kernel_rfl) ht)
theorem L9ind (Q : QT) (R5 : T5) (a0 : Pt) (n0 c0 : Nat) (e0 : Bool) (x1 x6 : List Nat) (x20 x21 : Int) (a29 : Pt) (n29 c29 : Nat) (e29 : Bool) (x30 : Int) {G : Type} (J : G → List Nat → Int → AHeap → Prop) (m : G → Nat)
 (hr : ∀ (g : G) (x8 : List Nat) (x31 : Int) (h : AHeap), J g x8 x31 h → ∀ (R9 : T9), (∀ g' (x8 : List Nat) (x31 : Int) (h : AHeap), m g' < m g → J g' x8 x31 h → R9 a0 n0 c0 e0 x1 x6 x8 x20 x21 a29 n29 c29 e29 x30 x31 h) → L9t Q R5 R9 a0 n0 c0 e0 x1 x6 x8 x20 x21 a29 n29 c29 e29 x30 x31 h)
 (g : G) (x8 : List Nat) (x31 : Int) (h : AHeap) (hj : J g x8 x31 h) : L9 Q R5 a0 n0 c0 e0 x1 x6 x8 x20 x21 a29 n29 c29 e29 x30 x31 h := by
  refine Loop.inv2 (fun g => E9 fun a0' n0' c0' e0' x1' x6' x8 x20' x21' a29' n29' c29' e29' x30' x31 h => a0 = a0' ∧ n0 = n0' ∧ c0 = c0' ∧ e0 = e0' ∧ x1 = x1' ∧ x6 = x6' ∧ x20 = x20' ∧ x21 = x21' ∧ a29 = a29' ∧ n29 = n29' ∧ c29 = c29' ∧ e29 = e29' ∧ x30 = x30' ∧ J g x8 x31 h) (fun g => E9 fun a0' n0' c0' e0' x1' x6' x8 x20' x21' a29' n29' c29' e29' x30' x31 h => a0 = a0' ∧ n0 = n0' ∧ c0 = c0' ∧ e0 = e0' ∧ x1 = x1' ∧ x6 = x6' ∧ x20 = x20' ∧ x21 = x21' ∧ a29 = a29' ∧ n29 = n29' ∧ c29 = c29' ∧ e29 = e29' ∧ x30 = x30' ∧ ∃ g', m g' < m g ∧ J g' x8 x31 h) m ?_ ?_ g ⟨rfl, rfl, rfl, rfl, rfl, rfl, rfl, rfl, rfl, rfl, rfl, rfl, rfl, hj⟩
  · intro g env h hi
    obtain ⟨a0', n0', c0', e0', x1', x6', x8, x20', x21', a29', n29', c29', e29', x30', x31, rfl, rfl, rfl, rfl, rfl, rfl, rfl, rfl, rfl, rfl, rfl, rfl, rfl, rfl, hj⟩ := E9elim hi
    exact L9den Q R5 (fun a0' n0' c0' e0' x1' x6' x8 x20' x21' a29' n29' c29' e29' x30' x31 h => a0 = a0' ∧ n0 = n0' ∧ c0 = c0' ∧ e0 = e0' ∧ x1 = x1' ∧ x6 = x6' ∧ x20 = x20' ∧ x21 = x21' ∧ a29 = a29' ∧ n29 = n29' ∧ c29 = c29' ∧ e29 = e29' ∧ x30 = x30' ∧ ∃ g', m g' < m g ∧ J g' x8 x31 h) a0 n0 c0 e0 x1 x6 x8 x20 x21 a29 n29 c29 e29 x30 x31 h (hr g x8 x31 h hj (fun a0' n0' c0' e0' x1' x6' x8 x20' x21' a29' n29' c29' e29' x30' x31 h => a0 = a0' ∧ n0 = n0' ∧ c0 = c0' ∧ e0 = e0' ∧ x1 = x1' ∧ x6 = x6' ∧ x20 = x20' ∧ x21 = x21' ∧ a29 = a29' ∧ n29 = n29' ∧ c29 = c29' ∧ e29 = e29' ∧ x30 = x30' ∧ ∃ g', m g' < m g ∧ J g' x8 x31 h) fun g' x8 x31 h hlt hj => ⟨rfl, rfl, rfl, rfl, rfl, rfl, rfl, rfl, rfl, rfl, rfl, rfl, rfl, g', hlt, hj⟩)
  · intro g env h hi
    obtain ⟨a0', n0', c0', e0', x1', x6', x8, x20', x21', a29', n29', c29', e29', x30', x31, rfl, rfl, rfl, rfl, rfl, rfl, rfl, rfl, rfl, rfl, rfl, rfl, rfl, rfl, g', hlt, hj⟩ := E9elim hi
    exact ⟨g', hlt, rfl, rfl, rfl, rfl, rfl, rfl, rfl, rfl, rfl, rfl, rfl, rfl, rfl, hj⟩
theorem A5x0i (Q : QT) (x6 : List Nat) (h : AHeap) (ht :
 bcase (decide (((((List.length x6 : Nat) : Int)) : Int) > 60)) (Q (.tup [.str [], .bool false]) h) (Q (.tup [.str x6, .bool true]) h)) : A5x0 Q x6 h :=
  At.mk (cast (by kernel_rfl) ht)
theorem A9x2i (Q : QT) (R5 : T5) (x6 x8 : List Nat) (x21 x20 : Int) (x1 : List Nat) (a0 : Pt) (n0 c0 : Nat) (e0 : Bool) (h : AHeap) (ht :
 List.length x6 + List.length x8 ≤ 9223372036854775807 ∧ (R5 a0 n0 c0 e0 x1 (x6 ++ x8) x20 (IntKind.wrap .i64 (x21 + 1)) h)) : A9x2 Q R5 x6 x8 x21 x20 x1 a0 n0 c0 e0 h :=
  At.mk (cast (by kernel_rfl) ht)
theorem call (a0 : Pt) (n0 c0 : Nat) (e0 : Bool) (x1 : List Nat) (h : AHeap) (Q : QT) (ht :
 SCall pg n_impl_BindingsValid [.slice a0 n0 c0 e0] h fun V0 H1 =>
 xBool (some V0) fun B2 => bcase (!B2) (Q (.tup [.str [], .bool false]) H1) (SCall pg n_impl_TypeValid [.str x1] H1 fun V3 H4 =>
 xBool (some V3) fun B5 => bcase (!B5) (Q (.tup [.str [], .bool false]) H4) (J3 Q x1 a0 n0 c0 e0 H4))) : SCall pg n_impl_ApplyBindings [.slice a0 n0 c0 e0, .str x1] h Q :=
  SCall.of_body kp (c := cod fn) (fn := fn) Go.Proofs.Tryz.func130 (by kernel_rfl) (by kernel_rfl) (Nat.le_of_ble_eq_true (by kernel_rfl))
    (cast (by kernel_rfl) ht)
end F_impl_ApplyBindings
/-! Function (loop.example/instancesearch/impl.Instance).needs -/
namespace F_impl_Instance_needs
noncomputable abbrev fn : Func := Go.Proofs.Tryz.f94
def kp : Keeps := [(3000004, [7, 8]), (1000004, [6, 7, 8, 23, 24, 25]), (4000008, [8, 10, 11, 25, 24, 23, 6, 7]), (4000009, [25, 24, 23, 6, 7, 8])]
noncomputable def C (p : List Nat) : Code := (cod fn).sub p
def KR (Q : QT) : KT := retA pg fn.results.toList Q
abbrev T4 := Pt → Nat → Nat → Bool → Bool → Pt → Nat → Nat → Bool → Pt → Nat → Nat → Bool → Int → Int → AHeap → Prop
def E4 (R4 : T4) (env : Env) (h : AHeap) : Prop := eVal 6 env fun v env => xSl (some v) fun a6 n6 c6 e6 => eVal 7 env fun v env => xBool (some v) fun x7 => eVal 8 env fun v env => xSl (some v) fun a8 n8 c8 e8 => eVal 23 env fun v env => xSl (some v) fun a23 n23 c23 e23 => eVal 24 env fun v env => eInt .i64 v fun x24 => eVal 25 env fun v env => eInt .i64 v fun x25 => eNil env (R4 a6 n6 c6 e6 x7 a8 n8 c8 e8 a23 n23 c23 e23 x24 x25 h)
theorem E4elim {R4 : T4} {env : Env} {h : AHeap} (hi : E4 R4 env h) : ∃ a6, ∃ n6, ∃ c6, ∃ e6, ∃ x7, ∃ a8, ∃ n8, ∃ c8, ∃ e8, ∃ a23, ∃ n23, ∃ c23, ∃ e23, ∃ x24, ∃ x25, env = [(6, .slice a6 n6 c6 e6), (7, .bool x7), (8, .slice a8 n8 c8 e8), (23, .slice a23 n23 c23 e23), (24, .int .i64 x24), (25, .int .i64 x25)] ∧ R4 a6 n6 c6 e6 x7 a8 n8 c8 e8 a23 n23 c23 e23 x24 x25 h := by
  unfold E4 at hi
  have hi0 := hi
  clear hi
  obtain ⟨_, _, rfl, hi1⟩ := eVal_elim hi0
  obtain ⟨a6, n6, c6, e6, rfl, hi2⟩ := xSl_elim hi1
  obtain ⟨_, _, rfl, hi3⟩ := eVal_elim hi2
  obtain ⟨x7, rfl, hi4⟩ := xBool_elim hi3
  obtain ⟨_, _, rfl, hi5⟩ := eVal_elim hi4
  obtain ⟨a8, n8, c8, e8, rfl, hi6⟩ := xSl_elim hi5
  obtain ⟨_, _, rfl, hi7⟩ := eVal_elim hi6
  obtain ⟨a23, n23, c23, e23, rfl, hi8⟩ := xSl_elim hi7
  obtain ⟨_, _, rfl, hi9⟩ := eVal_elim hi8
  obtain ⟨x24, rfl, hi10⟩ := eInt_elim hi9
  obtain ⟨_, _, rfl, hi11⟩ := eVal_elim hi10
  obtain ⟨x25, rfl, hi12⟩ := eInt_elim hi11
  obtain ⟨rfl, hi13⟩ := eNil_elim hi12
  have hi := hi13
  exact ⟨a6, n6, c6, e6, x7, a8, n8, c8, e8, a23, n23, c23, e23, x24, x25, rfl, hi⟩
def K0 (Q : QT) : KT := andThen (fun env' h' => (match kp.find 4000010 with | some ks => Den pg fn.ntmps (C [1, 1, 1, 1]) (env'.keep ks) h' (KR Q) | none => den pg fn.ntmps kp (C [1, 1, 1, 1]) env' h' (KR Q))) (KR Q)
def K1 (Q : QT) : KT := onExit 0 (K0 Q)
def K2 (Q : QT) : KT := left kp 4 (K1 Q)
def K3 (Q : QT) (R4 : T4) : KT := rnd ((kp.find 1000004).getD []) (E4 R4) (K2 Q)
def K4 (Q : QT) (R4 : T4) : KT := andThen (fun env' h' => (match kp.find 4000009 with | some ks => Den pg fn.ntmps (C [1, 1, 1, 0, 1, 0, 0, 1, 1, 1]) (env'.keep ks) h' (K3 Q R4) | none => den pg fn.ntmps kp (C [1, 1, 1, 0, 1, 0, 0, 1, 1, 1]) env' h' (K3 Q R4))) (K3 Q R4)
def K5 (Q : QT) (R4 : T4) : KT := onExit 1 (K4 Q R4)
def L4 (Q : QT) (a6 : Pt) (n6 c6 : Nat) (e6 x7 : Bool) (a8 : Pt) (n8 c8 : Nat) (e8 : Bool) (a23 : Pt) (n23 c23 : Nat) (e23 : Bool) (x24 x25 : Int) (h : AHeap) : Prop := Loop (Den pg fn.ntmps (C [1, 1, 1, 0, 1, 0, 0])) ((kp.find 1000004).getD []) (K2 Q) [(6, .slice a6 n6 c6 e6), (7, .bool x7), (8, .slice a8 n8 c8 e8), (23, .slice a23 n23 c23 e23), (24, .int .i64 x24), (25, .int .i64 x25)] h
def J8 (Q : QT) (R4 : T4) (a8 : Pt) (n8 c8 : Nat) (e8 : Bool) (i10 o10 : Nat) (x11 : List Nat) (x25 x24 : Int) (a23 : Pt) (n23 c23 : Nat) (e23 : Bool) (a6 : Pt) (n6 c6 : Nat) (e6 x7 : Bool) (h : AHeap) : Prop := Den pg fn.ntmps (C [1, 1, 1, 0, 1, 0, 0, 1, 1, 0, 0, 1, 1, 1]) [(8, .slice a8 n8 c8 e8), (10, .ptr (some (i10, o10))), (11, .str x11), (25, .int .i64 x25), (24, .int .i64 x24), (23, .slice a23 n23 c23 e23), (6, .slice a6 n6 c6 e6), (7, .bool x7)] h (K5 Q R4)
def A4x0 (Q : QT) (x7 : Bool) (a8 : Pt) (n8 c8 : Nat) (e8 : Bool) (h : AHeap) : Prop := At (K1 Q) (.exit 0) [(7, .bool x7), (8, .slice a8 n8 c8 e8)] h
def J9 (Q : QT) (R4 : T4) (x25 x24 : Int) (a23 : Pt) (n23 c23 : Nat) (e23 : Bool) (a6 : Pt) (n6 c6 : Nat) (e6 x7 : Bool) (a8 : Pt) (n8 c8 : Nat) (e8 : Bool) (h : AHeap) : Prop := Den pg fn.ntmps (C [1, 1, 1, 0, 1, 0, 0, 1, 1, 1]) [(25, .int .i64 x25), (24, .int .i64 x24), (23, .slice a23 n23 c23 e23), (6, .slice a6 n6 c6 e6), (7, .bool x7), (8, .slice a8 n8 c8 e8)] h (K3 Q R4)
def L4t (Q : QT) (R4 : T4) (a6 : Pt) (n6 c6 : Nat) (e6 x7 : Bool) (a8 : Pt) (n8 c8 : Nat) (e8 : Bool) (a23 : Pt) (n23 c23 : Nat) (e23 : Bool) (x24 x25 : Int) (h : AHeap) : Prop :=
 bcase (decide ((x25 : Int) < x24)) ((0 ≤ (x25 : Int) ∧ (x25 : Int) < (n23 : Nat)) ∧ (xSome a23 fun I19 O20 => xRow (hRow h (.ptr (some (I19, O20 + (Int.toNat x25) * 2))) 2) fun K21 => xCons K21 fun C22 Z23 => xStr (some C22) fun S24 => xCons Z23 fun C25 Z26 => xStr (some C25) fun S27 => xNil Z26 (letH (h ++ [.cells t_impl_Need [.str [], .str []] false]) fun H28 => xHeap (hStore H28 (.ptr (some (h.length, 0))) [.str S24, .str S27]) fun H29 => xStr (hCell H29 (.ptr (some (h.length, 0 + 1)))) fun S30 => SCall pg n_impl_ApplyBindings [.slice a6 n6 c6 e6, .str S30] H29 fun V31 H32 =>
 xTup V31 fun K33 => xCons K33 fun C34 Z35 => xStr (some C34) fun S36 => xCons Z35 fun C37 Z38 => xBool (some C37) fun B39 => xNil Z38 (bcase x7 (J8 Q R4 a8 n8 c8 e8 h.length 0 S36 x25 x24 a23 n23 c23 e23 a6 n6 c6 e6 B39 H32) (J8 Q R4 a8 n8 c8 e8 h.length 0 S36 x25 x24 a23 n23 c23 e23 a6 n6 c6 e6 false H32))))) (A4x0 Q x7 a8 n8 c8 e8 h)
theorem L4den (Q : QT) (R4 : T4) (a6 : Pt) (n6 c6 : Nat) (e6 x7 : Bool) (a8 : Pt) (n8 c8 : Nat) (e8 : Bool) (a23 : Pt) (n23 c23 : Nat) (e23 : Bool) (x24 x25 : Int) (h : AHeap) (ht : L4t Q R4 a6 n6 c6 e6 x7 a8 n8 c8 e8 a23 n23 c23 e23 x24 x25 h) : Den pg fn.ntmps (C [1, 1, 1, 0, 1, 0, 0]) [(6, .slice a6 n6 c6 e6), (7, .bool x7), (8, .slice a8 n8 c8 e8), (23, .slice a23 n23 c23 e23), (24, .int .i64 x24), (25, .int .i64 x25)] h (K3 Q R4) :=
  den_Den (kp := kp) (cast (by kernel_rfl) ht)
theorem L4ind (Q : QT) (a6 : Pt) (n6 c6 : Nat) (e6 : Bool) (a23 : Pt) (n23 c23 : Nat) (e23 : Bool) (x24 : Int) {G : Type} (J : G → Bool → Pt → Nat → Nat → Bool → Int → AHeap → Prop) (m : G → Nat)
 (hr : ∀ (g : G) (x7 : Bool) (a8 : Pt) (n8 c8 : Nat) (e8 : Bool) (x25 : Int) (h : AHeap), J g x7 a8 n8 c8 e8 x25 h → ∀ (R4 : T4), (∀ g' (x7 : Bool) (a8 : Pt) (n8 c8 : Nat) (e8 : Bool) (x25 : Int) (h : AHeap), m g' < m g → J g' x7 a8 n8 c8 e8 x25 h → R4 a6 n6 c6 e6 x7 a8 n8 c8 e8 a23 n23 c23 e23 x24 x25 h) → L4t Q R4 a6 n6 c6 e6 x7 a8 n8 c8 e8 a23 n23 c23 e23 x24 x25 h)
 (g : G) (x7 : Bool) (a8 : Pt) (n8 c8 : Nat) (e8 : Bool) (x25 : Int) (h : AHeap) (hj : J g x7 a8 n8 c8 e8 x25 h) : L4 Q a6 n6 c6 e6 x7 a8 n8 c8 e8 a23 n23 c23 e23 x24 x25 h := by
  refine Loop.inv2 (fun g => E4 fun a6' n6' c6' e6' x7 a8 n8 c8 e8 a23' n23' c23' e23' x24' x25 h => a6 = a6' ∧ n6 = n6' ∧ c6 = c6' ∧ e6 = e6' ∧ a23 = a23' ∧ n23 = n23' ∧ c23 = c23' ∧ e23 = e23' ∧ x24 = x24' ∧ J g x7 a8 n8 c8 e8 x25 h) (fun g => E4 fun a6' n6' c6' e6' x7 a8 n8 c8 e8 a23' n23' c23' e23' x24' x25 h => a6 = a6' ∧ n6 = n6' ∧ c6 = c6' ∧ e6 = e6' ∧ a23 = a23' ∧ n23 = n23' ∧ c23 = c23' ∧ e23 = e23' ∧ x24 = x24' ∧ ∃ g', m g' < m g ∧ J g' x7 a8 n8 c8 e8 x25 h) m ?_ ?_ g ⟨rfl, rfl, rfl, rfl, rfl, rfl, rfl, rfl, rfl, hj⟩
  · intro g env h hi
    obtain ⟨a6', n6', c6', e6', x7, a8, n8, c8, e8, a23', n23', c23', e23', x24', x25, rfl, rfl, rfl, rfl, rfl, rfl, rfl, rfl, rfl, rfl, hj⟩ := E4elim hi
    exact L4den Q _ a6 n6 c6 e6 x7 a8 n8 c8 e8 a23 n23 c23 e23 x24 x25 h (hr g x7 a8 n8 c8 e8 x25 h hj (fun a6' n6' c6' e6' x7 a8 n8 c8 e8 a23' n23' c23' e23' x24' x25 h => a6 = a6' ∧ n6 = n6' ∧ c6 = c6' ∧ e6 = e6' ∧ a23 = a23' ∧ n23 = n23' ∧ c23 = c23' ∧ e23 = e23' ∧ x24 = x24' ∧ ∃ g', m g' < m g ∧ J g' x7 a8 n8 c8 e8 x25 h) fun g' x7 a8 n8 c8 e8 x25 h hlt hj => ⟨rfl, rfl, rfl, rfl, rfl, rfl, rfl, rfl, rfl, g', hlt, hj⟩)
  · intro g env h hi
    obtain ⟨a6', n6', c6', e6', x7, a8, n8, c8, e8, a23', n23', c23', e23', x24', x25, rfl, rfl, rfl, rfl, rfl, rfl, rfl, rfl, rfl, rfl, g', hlt, hj⟩ := E4elim hi
    exact ⟨g', hlt, rfl, rfl, rfl, rfl, rfl, rfl, rfl, rfl, rfl, hj⟩
theorem J8i (Q : QT) (R4 : T4) (a8 : Pt) (n8 c8 : Nat) (e8 : Bool) (i10 o10 : Nat) (x11 : List Nat) (x25 x24 : Int) (a23 : Pt) (n23 c23 : Nat) (e23 : Bool) (a6 : Pt) (n6 c6 : Nat) (e6 x7 : Bool) (h : AHeap) (ht :
 xStr (hCell h (.ptr (some (i10, o10 + 0)))) fun S40 => letH (h ++ [.cells t_impl_Need [.str S40, .str x11] false]) fun H41 => appendA pg t_L_impl_Need H41 (.slice a8 n8 c8 e8) (.slice (some (h.length, 0)) 1 1 true) fun V42 H43 => xSl (some V42) fun A44 N45 C46 E47 => J9 Q R4 x25 x24 a23 n23 c23 e23 a6 n6 c6 e6 x7 A44 N45 C46 E47 H43) : J8 Q R4 a8 n8 c8 e8 i10 o10 x11 x25 x24 a23 n23 c23 e23 a6 n6 c6 e6 x7 h :=
  den_Den (kp := kp) (cast (by kernel_rfl) ht)
theorem A4x0i (Q : QT) (x7 : Bool) (a8 : Pt) (n8 c8 : Nat) (e8 : Bool) (h : AHeap) (ht :
 bcase (!x7) (Q (.tup [.slice none 0 0 true, .bool false]) h) (Q (.tup [.slice a8 n8 c8 e8, .bool true]) h)) : A4x0 Q x7 a8 n8 c8 e8 h :=
  At.mk (cast (by kernel_rfl) ht)
theorem J9i (Q : QT) (R4 : T4) (x25 x24 : Int) (a23 : Pt) (n23 c23 : Nat) (e23 : Bool) (a6 : Pt) (n6 c6 : Nat) (e6 x7 : Bool) (a8 : Pt) (n8 c8 : Nat) (e8 : Bool) (h : AHeap) (ht :
 R4 a6 n6 c6 e6 x7 a8 n8 c8 e8 a23 n23 c23 e23 x24 (IntKind.wrap .i64 (x25 + 1)) h) : J9 Q R4 x25 x24 a23 n23 c23 e23 a6 n6 c6 e6 x7 a8 n8 c8 e8 h :=
  den_Den (kp := kp) (cast (by kernel_rfl) ht)
theorem call (x0x0 x0x1 : List Nat) (a0x2 : Pt) (n0x2 c0x2 : Nat) (e0x2 : Bool) (x1 : List Nat) (h : AHeap) (Q : QT) (ht :
 letH (h ++ [.cells t_impl_Instance [.str x0x0, .str x0x1, .slice a0x2 n0x2 c0x2 e0x2] false]) fun H0 => xStr (hCell H0 (.ptr (some (h.length, 0 + 0 + 1)))) fun S1 => SCall pg n_impl_MatchType [.str S1, .str x1] H0 fun V2 H3 =>
 xTup V2 fun K4 => xCons K4 fun C5 Z6 => xSl (some C5) fun A7 N8 C9 E10 => xCons Z6 fun C11 Z12 => xBool (some C11) fun B13 => xNil Z12 (letH (H3 ++ [.cells t_impl_Need [] false]) fun H14 => xSl (hCell H14 (.ptr (some (h.length, 0 + 2)))) fun A15 N16 C17 E18 => L4 Q A7 N8 C9 E10 B13 (some (H3.length, 0)) 0 0 true A15 N16 C17 E18 (((N16 : Nat) : Int)) 0 H14)) : SCall pg n_impl_Instance_needs [.agg [.str x0x0, .str x0x1, .slice a0x2 n0x2 c0x2 e0x2], .str x1] h Q :=
  SCall.of_body kp (c := cod fn) (fn := fn) Go.Proofs.Tryz.func94 (by kernel_rfl) (by kernel_rfl) (Nat.le_of_ble_eq_true (by kernel_rfl))
    (cast (by kernel_rfl) ht)
end F_impl_Instance_needs
end Go.Sim

/- Printed by wip/tool: what the functions' bodies do, in the words of 'den'. -/
set_option maxRecDepth 100000
set_option linter.unusedVariables false
namespace Go.Sim
open Go Go.RowKit
/-! Function loop.example/instancesearch/impl.bindings -/
namespace F_impl_bindings
noncomputable abbrev fn : Func := Go.Proofs.Tryz.f152
def kp : Keeps := [(3000003, [3]), (1000003, [0, 3, 9, 10, 11])]
noncomputable def C (p : List Nat) : Code := (cod fn).sub p
def KR (Q : QT) : KT := retA pg fn.results.toList Q
abbrev T3 := Option Nat → Pt → Nat → Nat → Bool → Pt → Nat → Nat → Bool → Int → Int → AHeap → Prop
def E3 (R3 : T3) (env : Env) (h : AHeap) : Prop := eVal 0 env fun v env => xMap (some v) fun m0 => eVal 3 env fun v env => xSl (some v) fun a3 n3 c3 e3 => eVal 9 env fun v env => xSl (some v) fun a9 n9 c9 e9 => eVal 10 env fun v env => eInt .i64 v fun x10 => eVal 11 env fun v env => eInt .i64 v fun x11 => eNil env (R3 m0 a3 n3 c3 e3 a9 n9 c9 e9 x10 x11 h)
theorem E3elim {R3 : T3} {env : Env} {h : AHeap} (hi : E3 R3 env h) : ∃ m0, ∃ a3, ∃ n3, ∃ c3, ∃ e3, ∃ a9, ∃ n9, ∃ c9, ∃ e9, ∃ x10, ∃ x11, env = [(0, .map m0), (3, .slice a3 n3 c3 e3), (9, .slice a9 n9 c9 e9), (10, .int .i64 x10), (11, .int .i64 x11)] ∧ R3 m0 a3 n3 c3 e3 a9 n9 c9 e9 x10 x11 h := by
  unfold E3 at hi
  have hi0 := hi
  clear hi
  obtain ⟨_, _, rfl, hi1⟩ := eVal_elim hi0
  obtain ⟨m0, rfl, hi2⟩ := xMap_elim hi1
  obtain ⟨_, _, rfl, hi3⟩ := eVal_elim hi2
  obtain ⟨a3, n3, c3, e3, rfl, hi4⟩ := xSl_elim hi3
  obtain ⟨_, _, rfl, hi5⟩ := eVal_elim hi4
  obtain ⟨a9, n9, c9, e9, rfl, hi6⟩ := xSl_elim hi5
  obtain ⟨_, _, rfl, hi7⟩ := eVal_elim hi6
  obtain ⟨x10, rfl, hi8⟩ := eInt_elim hi7
  obtain ⟨_, _, rfl, hi9⟩ := eVal_elim hi8
  obtain ⟨x11, rfl, hi10⟩ := eInt_elim hi9
  obtain ⟨rfl, hi11⟩ := eNil_elim hi10
  have hi := hi11
  exact ⟨m0, a3, n3, c3, e3, a9, n9, c9, e9, x10, x11, rfl, hi⟩
def K0 (Q : QT) : KT := andThen (fun env' h' => (match kp.find 4000007 with | some ks => Den pg fn.ntmps (C [1, 1, 1]) (env'.keep ks) h' (KR Q) | none => den pg fn.ntmps kp (C [1, 1, 1]) env' h' (KR Q))) (KR Q)
def K1 (Q : QT) : KT := onExit 0 (K0 Q)
def K2 (Q : QT) : KT := left kp 3 (K1 Q)
def K3 (Q : QT) (R3 : T3) : KT := rnd ((kp.find 1000003).getD []) (E3 R3) (K2 Q)
def L3 (Q : QT) (m0 : Option Nat) (a3 : Pt) (n3 c3 : Nat) (e3 : Bool) (a9 : Pt) (n9 c9 : Nat) (e9 : Bool) (x10 x11 : Int) (h : AHeap) : Prop := Loop (Den pg fn.ntmps (C [1, 1, 0, 1, 0, 0])) ((kp.find 1000003).getD []) (K2 Q) [(0, .map m0), (3, .slice a3 n3 c3 e3), (9, .slice a9 n9 c9 e9), (10, .int .i64 x10), (11, .int .i64 x11)] h
def A3x0 (Q : QT) (a3 : Pt) (n3 c3 : Nat) (e3 : Bool) (h : AHeap) : Prop := At (K1 Q) (.exit 0) [(3, .slice a3 n3 c3 e3)] h
def L3t (Q : QT) (R3 : T3) (m0 : Option Nat) (a3 : Pt) (n3 c3 : Nat) (e3 : Bool) (a9 : Pt) (n9 c9 : Nat) (e9 : Bool) (x10 x11 : Int) (h : AHeap) : Prop :=
 bcase (decide ((x11 : Int) < x10)) ((0 ≤ (x11 : Int) ∧ (x11 : Int) < (n9 : Nat)) ∧ (xSome a9 fun I10 O11 => xStr (hCell h (.ptr (some (I10, O11 + (Int.toNat x11) * 1)))) fun S12 => xMapObj h m0 fun es_13 k_14 => lookS es_13 S12 fun Z15 => xStr (some (Option.getD Z15 (.str []))) fun S16 => letH (h ++ [.cells t_impl_Binding [.str S12, .str S16] false]) fun H17 => appendA pg t_L_impl_Binding H17 (.slice a3 n3 c3 e3) (.slice (some (h.length, 0)) 1 1 true) fun V18 H19 => xSl (some V18) fun A20 N21 C22 E23 => R3 m0 A20 N21 C22 E23 a9 n9 c9 e9 x10 (IntKind.wrap .i64 (x11 + 1)) H19)) (A3x0 Q a3 n3 c3 e3 h)
theorem L3den (Q : QT) (R3 : T3) (m0 : Option Nat) (a3 : Pt) (n3 c3 : Nat) (e3 : Bool) (a9 : Pt) (n9 c9 : Nat) (e9 : Bool) (x10 x11 : Int) (h : AHeap) (ht : L3t Q R3 m0 a3 n3 c3 e3 a9 n9 c9 e9 x10 x11 h) : Den pg fn.ntmps (C [1, 1, 0, 1, 0, 0]) [(0, .map m0), (3, .slice a3 n3 c3 e3), (9, .slice a9 n9 c9 e9), (10, .int .i64 x10), (11, .int .i64 x11)] h (K3 Q R3) :=
  den_Den (kp := kp) (cast (by kernel_rfl) ht)
theorem L3ind (Q : QT) (m0 : Option Nat) (a9 : Pt) (n9 c9 : Nat) (e9 : Bool) (x10 : Int) {G : Type} (J : G → Pt → Nat → Nat → Bool → Int → AHeap → Prop) (m : G → Nat)
 (hr : ∀ (g : G) (a3 : Pt) (n3 c3 : Nat) (e3 : Bool) (x11 : Int) (h : AHeap), J g a3 n3 c3 e3 x11 h → ∀ (R3 : T3), (∀ g' (a3 : Pt) (n3 c3 : Nat) (e3 : Bool) (x11 : Int) (h : AHeap), m g' < m g → J g' a3 n3 c3 e3 x11 h → R3 m0 a3 n3 c3 e3 a9 n9 c9 e9 x10 x11 h) → L3t Q R3 m0 a3 n3 c3 e3 a9 n9 c9 e9 x10 x11 h)
 (g : G) (a3 : Pt) (n3 c3 : Nat) (e3 : Bool) (x11 : Int) (h : AHeap) (hj : J g a3 n3 c3 e3 x11 h) : L3 Q m0 a3 n3 c3 e3 a9 n9 c9 e9 x10 x11 h := by
  refine Loop.inv2 (fun g => E3 fun m0' a3 n3 c3 e3 a9' n9' c9' e9' x10' x11 h => m0 = m0' ∧ a9 = a9' ∧ n9 = n9' ∧ c9 = c9' ∧ e9 = e9' ∧ x10 = x10' ∧ J g a3 n3 c3 e3 x11 h) (fun g => E3 fun m0' a3 n3 c3 e3 a9' n9' c9' e9' x10' x11 h => m0 = m0' ∧ a9 = a9' ∧ n9 = n9' ∧ c9 = c9' ∧ e9 = e9' ∧ x10 = x10' ∧ ∃ g', m g' < m g ∧ J g' a3 n3 c3 e3 x11 h) m ?_ ?_ g ⟨rfl, rfl, rfl, rfl, rfl, rfl, hj⟩
  · intro g env h hi
    obtain ⟨m0', a3, n3, c3, e3, a9', n9', c9', e9', x10', x11, rfl, rfl, rfl, rfl, rfl, rfl, rfl, hj⟩ := E3elim hi
    exact L3den Q _ m0 a3 n3 c3 e3 a9 n9 c9 e9 x10 x11 h (hr g a3 n3 c3 e3 x11 h hj (fun m0' a3 n3 c3 e3 a9' n9' c9' e9' x10' x11 h => m0 = m0' ∧ a9 = a9' ∧ n9 = n9' ∧ c9 = c9' ∧ e9 = e9' ∧ x10 = x10' ∧ ∃ g', m g' < m g ∧ J g' a3 n3 c3 e3 x11 h) fun g' a3 n3 c3 e3 x11 h hlt hj => ⟨rfl, rfl, rfl, rfl, rfl, rfl, g', hlt, hj⟩)
  · intro g env h hi
    obtain ⟨m0', a3, n3, c3, e3, a9', n9', c9', e9', x10', x11, rfl, rfl, rfl, rfl, rfl, rfl, rfl, g', hlt, hj⟩ := E3elim hi
    exact ⟨g', hlt, rfl, rfl, rfl, rfl, rfl, rfl, hj⟩
theorem A3x0i (Q : QT) (a3 : Pt) (n3 c3 : Nat) (e3 : Bool) (h : AHeap) (ht :
 Q (.slice a3 n3 c3 e3) h) : A3x0 Q a3 n3 c3 e3 h :=
  At.mk (cast (by kernel_rfl) ht)
theorem call (m0 : Option Nat) (h : AHeap) (Q : QT) (ht :
 letH (h ++ [.cells t_impl_Binding [] false]) fun H0 => SCall pg n_maps_Keys_map_string_string_string_string [.map m0] H0 fun V1 H2 =>
 xAny (some V1) fun V3 => SCall pg n_slices_Sorted_string [V3] H2 fun V4 H5 =>
 xSl (some V4) fun A6 N7 C8 E9 => L3 Q m0 (some (h.length, 0)) 0 0 true A6 N7 C8 E9 (((N7 : Nat) : Int)) 0 H5) : SCall pg n_impl_bindings [.map m0] h Q :=
  SCall.of_body kp (c := cod fn) (fn := fn) Go.Proofs.Tryz.func152 (by kernel_rfl) (by kernel_rfl) (Nat.le_of_ble_eq_true (by kernel_rfl))
    (cast (by kernel_rfl) ht)
end F_impl_bindings
/-! Function loop.example/instancesearch/impl.MatchType -/
namespace F_impl_MatchType
noncomputable abbrev fn : Func := Go.Proofs.Tryz.f129
def kp : Keeps := [(4000004, [8])]
noncomputable def C (p : List Nat) : Code := (cod fn).sub p
def KR (Q : QT) : KT := retA pg fn.results.toList Q
def J4 (Q : QT) (m8 : Option Nat) (h : AHeap) : Prop := Den pg fn.ntmps (C [1, 1, 1]) [(8, .map m8)] h (KR Q)
theorem J4i (Q : QT) (m8 : Option Nat) (h : AHeap) (ht :
 SCall pg n_impl_bindings [.map m8] h fun V10 H11 =>
 xSl (some V10) fun A12 N13 C14 E15 => Q (.tup [.slice A12 N13 C14 E15, .bool true]) H11) : J4 Q m8 h :=
  den_Den (kp := kp) (cast (by kernel_rfl) ht)
theorem call (x0 x1 : List Nat) (h : AHeap) (Q : QT) (ht :
 SCall pg n_impl_typeOf [.str x0] h fun V0 H1 =>
 xPtr (some V0) fun A2 => SCall pg n_impl_typeOf [.str x1] H1 fun V3 H4 =>
 xPtr (some V3) fun A5 => letH (H4 ++ [.map [] 0]) fun H6 => bcase (Option.isNone A2) (Q (.tup [.slice none 0 0 true, .bool false]) H6) (bcase (Option.isNone A5) (Q (.tup [.slice none 0 0 true, .bool false]) H6) (SCall pg n_impl_node_match [.ptr A2, .ptr A5, .map ((some H4.length))] H6 fun V7 H8 =>
 xBool (some V7) fun B9 => bcase (!B9) (Q (.tup [.slice none 0 0 true, .bool false]) H8) (J4 Q ((some H4.length)) H8)))) : SCall pg n_impl_MatchType [.str x0, .str x1] h Q :=
  SCall.of_body kp (c := cod fn) (fn := fn) Go.Proofs.Tryz.func129 (by kernel_rfl) (by kernel_rfl) (Nat.le_of_ble_eq_true (by kernel_rfl))
    (cast (by kernel_rfl) ht)
end F_impl_MatchType
/-! Function loop.example/instancesearch/impl.IsInstance -/
namespace F_impl_IsInstance
noncomputable abbrev fn : Func := Go.Proofs.Tryz.f128
def kp : Keeps := []
noncomputable def C (p : List Nat) : Code := (cod fn).sub p
def KR (Q : QT) : KT := retA pg fn.results.toList Q
theorem call (x0 x1 : List Nat) (h : AHeap) (Q : QT) (ht :
 SCall pg n_impl_MatchType [.str x0, .str x1] h fun V0 H1 =>
 xTup V0 fun K2 => xCons K2 fun C3 Z4 => xSl (some C3) fun A5 N6 C7 E8 => xCons Z4 fun C9 Z10 => xBool (some C9) fun B11 => xNil Z10 (Q (.bool B11) H1)) : SCall pg n_impl_IsInstance [.str x0, .str x1] h Q :=
  SCall.of_body kp (c := cod fn) (fn := fn) Go.Proofs.Tryz.func128 (by kernel_rfl) (by kernel_rfl) (Nat.le_of_ble_eq_true (by kernel_rfl))
    (cast (by kernel_rfl) ht)
end F_impl_IsInstance
end Go.Sim
