/- A part of the proof of a statement of this seat: see the text that holds the theorem. No condition. -/
import Derived.Test.YtlljbdepamknoaaGreatDoorNm
set_option linter.unusedVariables false
set_option linter.unusedSimpArgs false
set_option linter.all false
/- Printed by wip/tool: what the functions' bodies do, in the words of 'den'. -/
set_option maxRecDepth 100000
set_option linter.unusedVariables false
namespace Go.Sim
open Go Go.RowKit
/-! Function loop.example/instancesearch/impl.arity -/
namespace F_impl_arity
noncomputable abbrev fn : Func := Go.Proofs.Tryz.f163
def kp : Keeps := [(4000009, [])]
noncomputable def C (p : List Nat) : Code := (cod fn).sub p
def KR (Q : QT) : KT := retA pg fn.results.toList Q
def J9 (Q : QT) (h : AHeap) : Prop := Den pg fn.ntmps (C [1, 1]) [] h (KR Q)
theorem J9i (Q : QT) (h : AHeap) (ht :
 Q (.int .i64 (-1)) h) : J9 Q h :=
  den_Den (kp := kp) (cast (by kernel_rfl) ht)
theorem call (x0 : List Nat) (h : AHeap) (Q : QT) (ht :
 bcase (!((((List.length x0 : Nat) : Int) : Int) == 1)) (Q (.int .i64 (-1)) h) (SCall pg n_strings_Contains [.str ([105, 98, 117, 120, 121, 122, 88, 89, 90]), .str x0] h fun V0 H1 =>
 xBool (some V0) fun B2 => bcase B2 (Q (.int .i64 0) H1) (bcase (decide (x0 = [108])) (Q (.int .i64 1) H1) (bcase (decide (x0 = [109])) (Q (.int .i64 1) H1) (bcase (decide (x0 = [112])) (Q (.int .i64 2) H1) (J9 Q H1)))))) : SCall pg n_impl_arity [.str x0] h Q :=
  SCall.of_body kp (c := cod fn) (fn := fn) Go.Proofs.Tryz.func163 (by kernel_rfl) (by kernel_rfl) (Nat.le_of_ble_eq_true (by kernel_rfl))
    (cast (by kernel_rfl) ht)
end F_impl_arity
/-! Function loop.example/instancesearch/impl.readType -/
namespace F_impl_readType
noncomputable abbrev fn : Func := Go.Proofs.Tryz.f150
def kp : Keeps := [(4000003, [0]), (3000006, [4, 0, 2, 3]), (1000006, [0, 4, 27, 28]), (4000020, [4, 0])]
noncomputable def C (p : List Nat) : Code := (cod fn).sub p
def KR (Q : QT) : KT := retA pg fn.results.toList Q
abbrev T6 := List Nat → Nat → Nat → Int → Int → AHeap → Prop
def E6 (R6 : T6) (env : Env) (h : AHeap) : Prop := eVal 0 env fun v env => xStr (some v) fun x0 => eVal 4 env fun v env => xPtr (some v) fun a => xSome a fun i4 o4 => eVal 27 env fun v env => eInt .i64 v fun x27 => eVal 28 env fun v env => eInt .i64 v fun x28 => eNil env (R6 x0 i4 o4 x27 x28 h)
theorem E6elim {R6 : T6} {env : Env} {h : AHeap} (hi : E6 R6 env h) : ∃ x0, ∃ i4, ∃ o4, ∃ x27, ∃ x28, env = [(0, .str x0), (4, .ptr (some (i4, o4))), (27, .int .i64 x27), (28, .int .i64 x28)] ∧ R6 x0 i4 o4 x27 x28 h := by
  unfold E6 at hi
  have hi0 := hi
  clear hi
  obtain ⟨_, _, rfl, hi1⟩ := eVal_elim hi0
  obtain ⟨x0, rfl, hi2⟩ := xStr_elim hi1
  obtain ⟨_, _, rfl, hi3⟩ := eVal_elim hi2
  obtain ⟨a, rfl, hi4⟩ := xPtr_elim hi3
  obtain ⟨i4, o4, rfl, hi5⟩ := xSome_elim hi4
  obtain ⟨_, _, rfl, hi6⟩ := eVal_elim hi5
  obtain ⟨x27, rfl, hi7⟩ := eInt_elim hi6
  obtain ⟨_, _, rfl, hi8⟩ := eVal_elim hi7
  obtain ⟨x28, rfl, hi9⟩ := eInt_elim hi8
  obtain ⟨rfl, hi10⟩ := eNil_elim hi9
  have hi := hi10
  exact ⟨x0, i4, o4, x27, x28, rfl, hi⟩
def K0 (Q : QT) : KT := andThen (fun env' h' => (match kp.find 4000016 with | some ks => Den pg fn.ntmps (C [1, 1, 1, 1, 1]) (env'.keep ks) h' (KR Q) | none => den pg fn.ntmps kp (C [1, 1, 1, 1, 1]) env' h' (KR Q))) (KR Q)
def K1 (Q : QT) : KT := onExit 0 (K0 Q)
def K2 (Q : QT) : KT := left kp 6 (K1 Q)
def K3 (Q : QT) (R6 : T6) : KT := rnd ((kp.find 1000006).getD []) (E6 R6) (K2 Q)
def J3 (Q : QT) (x0 : List Nat) (h : AHeap) : Prop := Den pg fn.ntmps (C [1, 1]) [(0, .str x0)] h (KR Q)
def L6 (Q : QT) (x0 : List Nat) (i4 o4 : Nat) (x27 x28 : Int) (h : AHeap) : Prop := Loop (Den pg fn.ntmps (C [1, 1, 1, 1, 0, 1, 0, 0])) ((kp.find 1000006).getD []) (K2 Q) [(0, .str x0), (4, .ptr (some (i4, o4))), (27, .int .i64 x27), (28, .int .i64 x28)] h
def A6x0 (Q : QT) (i4 o4 : Nat) (x0 : List Nat) (h : AHeap) : Prop := At (K1 Q) (.exit 0) [(4, .ptr (some (i4, o4))), (0, .str x0), (2, .undef), (3, .undef)] h
def J20 (Q : QT) (i4 o4 : Nat) (x0 : List Nat) (h : AHeap) : Prop := Den pg fn.ntmps (C [1, 1, 1, 1, 1, 1]) [(4, .ptr (some (i4, o4))), (0, .str x0)] h (KR Q)
theorem J3i (Q : QT) (x0 : List Nat) (h : AHeap) (ht :
 (0 ≤ (0 : Int) ∧ (0 : Int) ≤ 1 ∧ (1 : Int) ≤ (List.length x0 : Nat)) ∧ (letH (h ++ [.cells t_impl_node [.str (sub x0 0 1), .slice none 0 0 true, .ptr none] false]) fun H3 => (0 ≤ (1 : Int) ∧ (1 : Int) ≤ (List.length x0 : Int) ∧ ((List.length x0 : Int) : Int) ≤ (List.length x0 : Nat)) ∧ (xStr (hCell H3 (.ptr (some (h.length, 0 + 0)))) fun S4 => SCall pg n_impl_arity [.str S4] H3 fun V5 H6 =>
 xInt .i64 (some V5) fun X7 => L6 Q (sub x0 1 ((List.length x0 : Int))) h.length 0 X7 0 H6))) : J3 Q x0 h :=
  den_Den (kp := kp) (cast (by kernel_rfl) ht)
def L6t (Q : QT) (R6 : T6) (x0 : List Nat) (i4 o4 : Nat) (x27 x28 : Int) (h : AHeap) : Prop :=
 bcase (decide ((x28 : Int) < x27)) ((0 ≤ (x28 : Int) ∧ (x28 : Int) ≤ IntKind.wrap .i64 (x28 + 1) ∧ (IntKind.wrap .i64 (x28 + 1) : Int) ≤ (List.length ([40, 44]) : Nat)) ∧ (SCall pg n_strings_HasPrefix [.str x0, .str (sub ([40, 44]) x28 (IntKind.wrap .i64 (x28 + 1)))] h fun V8 H9 =>
 xBool (some V8) fun B10 => bcase (!B10) (Q (.tup [.ptr none, .str x0]) H9) ((0 ≤ (1 : Int) ∧ (1 : Int) ≤ (List.length x0 : Int) ∧ ((List.length x0 : Int) : Int) ≤ (List.length x0 : Nat)) ∧ (SCall pg n_impl_readType [.str (sub x0 1 ((List.length x0 : Int)))] H9 fun V11 H12 =>
 xTup V11 fun K13 => xCons K13 fun C14 Z15 => xPtr (some C14) fun A16 => xCons Z15 fun C17 Z18 => xStr (some C17) fun S19 => xNil Z18 (bcase (Option.isNone A16) (Q (.tup [.ptr none, .str x0]) H12) (xSl (hCell H12 (.ptr (some (i4, o4 + 1)))) fun A20 N21 C22 E23 => letH (H12 ++ [.cells t_P_impl_node [.ptr A16] false]) fun H24 => appendA pg t_L_P_impl_node H24 (.slice A20 N21 C22 E23) (.slice (some (H12.length, 0)) 1 1 true) fun V25 H26 => xSl (some V25) fun A27 N28 C29 E30 => xHeap (hStore H26 (.ptr (some (i4, o4 + 1))) [.slice A27 N28 C29 E30]) fun H31 => R6 S19 i4 o4 x27 (IntKind.wrap .i64 (x28 + 1)) H31)))))) (A6x0 Q i4 o4 x0 h)
theorem L6den (Q : QT) (R6 : T6) (x0 : List Nat) (i4 o4 : Nat) (x27 x28 : Int) (h : AHeap) (ht : L6t Q R6 x0 i4 o4 x27 x28 h) : Den pg fn.ntmps (C [1, 1, 1, 1, 0, 1, 0, 0]) [(0, .str x0), (4, .ptr (some (i4, o4))), (27, .int .i64 x27), (28, .int .i64 x28)] h (K3 Q R6) :=
  den_Den (kp := kp) (cast (by kernel_rfl) ht)
theorem L6ind (Q : QT) (i4 o4 : Nat) (x27 : Int) {G : Type} (J : G → List Nat → Int → AHeap → Prop) (m : G → Nat)
 (hr : ∀ (g : G) (x0 : List Nat) (x28 : Int) (h : AHeap), J g x0 x28 h → ∀ (R6 : T6), (∀ g' (x0 : List Nat) (x28 : Int) (h : AHeap), m g' < m g → J g' x0 x28 h → R6 x0 i4 o4 x27 x28 h) → L6t Q R6 x0 i4 o4 x27 x28 h)
 (g : G) (x0 : List Nat) (x28 : Int) (h : AHeap) (hj : J g x0 x28 h) : L6 Q x0 i4 o4 x27 x28 h := by
  refine Loop.inv2 (fun g => E6 fun x0 i4' o4' x27' x28 h => i4 = i4' ∧ o4 = o4' ∧ x27 = x27' ∧ J g x0 x28 h) (fun g => E6 fun x0 i4' o4' x27' x28 h => i4 = i4' ∧ o4 = o4' ∧ x27 = x27' ∧ ∃ g', m g' < m g ∧ J g' x0 x28 h) m ?_ ?_ g ⟨rfl, rfl, rfl, hj⟩
  · intro g env h hi
    obtain ⟨x0, i4', o4', x27', x28, rfl, rfl, rfl, rfl, hj⟩ := E6elim hi
    exact L6den Q _ x0 i4 o4 x27 x28 h (hr g x0 x28 h hj (fun x0 i4' o4' x27' x28 h => i4 = i4' ∧ o4 = o4' ∧ x27 = x27' ∧ ∃ g', m g' < m g ∧ J g' x0 x28 h) fun g' x0 x28 h hlt hj => ⟨rfl, rfl, rfl, g', hlt, hj⟩)
  · intro g env h hi
    obtain ⟨x0, i4', o4', x27', x28, rfl, rfl, rfl, rfl, g', hlt, hj⟩ := E6elim hi
    exact ⟨g', hlt, rfl, rfl, rfl, hj⟩
theorem A6x0i (Q : QT) (i4 o4 : Nat) (x0 : List Nat) (h : AHeap) (ht :
 xSl (hCell h (.ptr (some (i4, o4 + 1)))) fun A32 N33 C34 E35 => bcase (decide (((((N33 : Nat) : Int)) : Int) > 0)) (SCall pg n_strings_HasPrefix [.str x0, .str [41]] h fun V36 H37 =>
 xBool (some V36) fun B38 => bcase (!B38) (Q (.tup [.ptr none, .str x0]) H37) ((0 ≤ (1 : Int) ∧ (1 : Int) ≤ (List.length x0 : Int) ∧ ((List.length x0 : Int) : Int) ≤ (List.length x0 : Nat)) ∧ (J20 Q i4 o4 (sub x0 1 ((List.length x0 : Int))) H37))) (J20 Q i4 o4 x0 h)) : A6x0 Q i4 o4 x0 h :=
  At.mk (cast (by kernel_rfl) ht)
theorem J20i (Q : QT) (i4 o4 : Nat) (x0 : List Nat) (h : AHeap) (ht :
 Q (.tup [.ptr (some (i4, o4)), .str x0]) h) : J20 Q i4 o4 x0 h :=
  den_Den (kp := kp) (cast (by kernel_rfl) ht)
theorem call (x0 : List Nat) (h : AHeap) (Q : QT) (ht :
 bcase (decide (x0 = [])) (Q (.tup [.ptr none, .str x0]) h) ((0 ≤ (0 : Int) ∧ (0 : Int) ≤ 1 ∧ (1 : Int) ≤ (List.length x0 : Nat)) ∧ (SCall pg n_impl_arity [.str (sub x0 0 1)] h fun V0 H1 =>
 xInt .i64 (some V0) fun X2 => bcase (decide ((X2 : Int) < 0)) (Q (.tup [.ptr none, .str x0]) H1) (J3 Q x0 H1)))) : SCall pg n_impl_readType [.str x0] h Q :=
  SCall.of_body kp (c := cod fn) (fn := fn) Go.Proofs.Tryz.func150 (by kernel_rfl) (by kernel_rfl) (Nat.le_of_ble_eq_true (by kernel_rfl))
    (cast (by kernel_rfl) ht)
end F_impl_readType
/-! Function loop.example/instancesearch/impl.typeOf -/
namespace F_impl_typeOf
noncomputable abbrev fn : Func := Go.Proofs.Tryz.f123
def kp : Keeps := []
noncomputable def C (p : List Nat) : Code := (cod fn).sub p
def KR (Q : QT) : KT := retA pg fn.results.toList Q
theorem call (x0 : List Nat) (h : AHeap) (Q : QT) (ht :
 bcase (decide (((((List.length x0 : Nat) : Int)) : Int) > 60)) (Q (.ptr none) h) (SCall pg n_impl_readType [.str x0] h fun V0 H1 =>
 xTup V0 fun K2 => xCons K2 fun C3 Z4 => xPtr (some C3) fun A5 => xCons Z4 fun C6 Z7 => xStr (some C6) fun S8 => xNil Z7 (bcase (!(decide (S8 = []))) (Q (.ptr none) H1) (Q (.ptr A5) H1)))) : SCall pg n_impl_typeOf [.str x0] h Q :=
  SCall.of_body kp (c := cod fn) (fn := fn) Go.Proofs.Tryz.func123 (by kernel_rfl) (by kernel_rfl) (Nat.le_of_ble_eq_true (by kernel_rfl))
    (cast (by kernel_rfl) ht)
end F_impl_typeOf
/-! Function loop.example/instancesearch/impl.TypeValid -/
namespace F_impl_TypeValid
noncomputable abbrev fn : Func := Go.Proofs.Tryz.f89
def kp : Keeps := []
noncomputable def C (p : List Nat) : Code := (cod fn).sub p
def KR (Q : QT) : KT := retA pg fn.results.toList Q
theorem call (x0 : List Nat) (h : AHeap) (Q : QT) (ht :
 SCall pg n_impl_typeOf [.str x0] h fun V0 H1 =>
 xPtr (some V0) fun A2 => Q (.bool (!(Option.isNone A2))) H1) : SCall pg n_impl_TypeValid [.str x0] h Q :=
  SCall.of_body kp (c := cod fn) (fn := fn) Go.Proofs.Tryz.func89 (by kernel_rfl) (by kernel_rfl) (Nat.le_of_ble_eq_true (by kernel_rfl))
    (cast (by kernel_rfl) ht)
end F_impl_TypeValid
end Go.Sim

/- Printed by wip/tool: what the functions' bodies do, in the words of 'den'. -/
set_option maxRecDepth 100000
set_option linter.unusedVariables false
namespace Go.Sim
open Go Go.RowKit
/-! Function loop.example/instancesearch/spec.l13Dec -/
namespace F_spec_l13Dec
noncomputable abbrev fn : Func := Go.Proofs.Tryz.f83
def kp : Keeps := [(3000006, [0, 3]), (1000006, [0, 3])]
noncomputable def C (p : List Nat) : Code := (cod fn).sub p
def KR (Q : QT) : KT := retA pg fn.results.toList Q
abbrev T6 := Int → List Nat → AHeap → Prop
def E6 (R6 : T6) (env : Env) (h : AHeap) : Prop := eVal 0 env fun v env => eInt .i64 v fun x0 => eVal 3 env fun v env => xStr (some v) fun x3 => eNil env (R6 x0 x3 h)
theorem E6elim {R6 : T6} {env : Env} {h : AHeap} (hi : E6 R6 env h) : ∃ x0, ∃ x3, env = [(0, .int .i64 x0), (3, .str x3)] ∧ R6 x0 x3 h := by
  unfold E6 at hi
  have hi0 := hi
  clear hi
  obtain ⟨_, _, rfl, hi1⟩ := eVal_elim hi0
  obtain ⟨x0, rfl, hi2⟩ := eInt_elim hi1
  obtain ⟨_, _, rfl, hi3⟩ := eVal_elim hi2
  obtain ⟨x3, rfl, hi4⟩ := xStr_elim hi3
  obtain ⟨rfl, hi5⟩ := eNil_elim hi4
  have hi := hi5
  exact ⟨x0, x3, rfl, hi⟩
def K0 (Q : QT) : KT := andThen (fun env' h' => (match kp.find 4000009 with | some ks => Den pg fn.ntmps (C [1, 1, 1, 1, 1]) (env'.keep ks) h' (KR Q) | none => den pg fn.ntmps kp (C [1, 1, 1, 1, 1]) env' h' (KR Q))) (KR Q)
def K1 (Q : QT) : KT := onExit 0 (K0 Q)
def K2 (Q : QT) : KT := left kp 6 (K1 Q)
def K3 (Q : QT) (R6 : T6) : KT := rnd ((kp.find 1000006).getD []) (E6 R6) (K2 Q)
def L6 (Q : QT) (x0 : Int) (x3 : List Nat) (h : AHeap) : Prop := Loop (Den pg fn.ntmps (C [1, 1, 1, 1, 0, 0, 0])) ((kp.find 1000006).getD []) (K2 Q) [(0, .int .i64 x0), (3, .str x3)] h
def A6x0 (Q : QT) (x0 : Int) (x3 : List Nat) (h : AHeap) : Prop := At (K1 Q) (.exit 0) [(0, .int .i64 x0), (3, .str x3)] h
def L6t (Q : QT) (R6 : T6) (x0 : Int) (x3 : List Nat) (h : AHeap) : Prop :=
 bcase (decide ((x0 : Int) > 9)) ((10 : Int) ≠ 0 ∧ (letH (h ++ [.cells t_uint8 [.int .u8 (IntKind.wrap .u8 (IntKind.wrap .i64 (48 + (Int.tmod x0 10))))] false]) fun H3 => xRow (rowOf H3 (some (h.length, 0)) 1) fun K4 => bytesA K4 fun S5 => List.length S5 + List.length x3 ≤ 9223372036854775807 ∧ ((10 : Int) ≠ 0 ∧ (R6 (IntKind.wrap .i64 (Int.tdiv x0 10)) (S5 ++ x3) H3)))) (A6x0 Q x0 x3 h)
theorem L6den (Q : QT) (R6 : T6) (x0 : Int) (x3 : List Nat) (h : AHeap) (ht : L6t Q R6 x0 x3 h) : Den pg fn.ntmps (C [1, 1, 1, 1, 0, 0, 0]) [(0, .int .i64 x0), (3, .str x3)] h (K3 Q R6) :=
  den_Den (kp := kp) (cast (by kernel_rfl) ht)
theorem L6ind (Q : QT) {G : Type} (J : G → Int → List Nat → AHeap → Prop) (m : G → Nat)
 (hr : ∀ (g : G) (x0 : Int) (x3 : List Nat) (h : AHeap), J g x0 x3 h → ∀ (R6 : T6), (∀ g' (x0 : Int) (x3 : List Nat) (h : AHeap), m g' < m g → J g' x0 x3 h → R6 x0 x3 h) → L6t Q R6 x0 x3 h)
 (g : G) (x0 : Int) (x3 : List Nat) (h : AHeap) (hj : J g x0 x3 h) : L6 Q x0 x3 h := by
  refine Loop.inv2 (fun g => E6 fun x0 x3 h => J g x0 x3 h) (fun g => E6 fun x0 x3 h => ∃ g', m g' < m g ∧ J g' x0 x3 h) m ?_ ?_ g hj
  · intro g env h hi
    obtain ⟨x0, x3, rfl, hj⟩ := E6elim hi
    exact L6den Q _ x0 x3 h (hr g x0 x3 h hj (fun x0 x3 h => ∃ g', m g' < m g ∧ J g' x0 x3 h) fun g' x0 x3 h hlt hj => ⟨g', hlt, hj⟩)
  · intro g env h hi
    obtain ⟨x0, x3, rfl, g', hlt, hj⟩ := E6elim hi
    exact ⟨g', hlt, hj⟩
theorem A6x0i (Q : QT) (x0 : Int) (x3 : List Nat) (h : AHeap) (ht :
 letH (h ++ [.cells t_uint8 [.int .u8 (IntKind.wrap .u8 (IntKind.wrap .i64 (48 + x0)))] false]) fun H6 => xRow (rowOf H6 (some (h.length, 0)) 1) fun K7 => bytesA K7 fun S8 => List.length S8 + List.length x3 ≤ 9223372036854775807 ∧ (Q (.str (S8 ++ x3)) H6)) : A6x0 Q x0 x3 h :=
  At.mk (cast (by kernel_rfl) ht)
theorem call (x0 : Int) (h : AHeap) (Q : QT) (ht :
 bcase (decide ((x0 : Int) < (-9223372036854775807))) (Q (.str ([45, 57, 50, 50, 51, 51, 55, 50, 48, 51, 54, 56, 53, 52, 55, 55, 53, 56, 48, 56])) h) (bcase (decide ((x0 : Int) < 0)) (SCall pg n_spec_l13Dec [.int .i64 (IntKind.wrap .i64 (0 - x0))] h fun V0 H1 =>
 xStr (some V0) fun S2 => List.length [45] + List.length S2 ≤ 9223372036854775807 ∧ (Q (.str ([45] ++ S2)) H1)) (L6 Q x0 [] h))) : SCall pg n_spec_l13Dec [.int .i64 x0] h Q :=
  SCall.of_body kp (c := cod fn) (fn := fn) Go.Proofs.Tryz.func83 (by kernel_rfl) (by kernel_rfl) (Nat.le_of_ble_eq_true (by kernel_rfl))
    (cast (by kernel_rfl) ht)
end F_spec_l13Dec
/-! Function loop.example/instancesearch/laws.eqIntS -/
end Go.Sim

/- Printed by wip/tool: what the functions' bodies do, in the words of 'den'. -/
set_option maxRecDepth 100000
set_option linter.unusedVariables false
namespace Go.Sim
open Go Go.RowKit
/-! Function loop.example/instancesearch/laws.markText -/
end Go.Sim

/- Printed by wip/tool: what the functions' bodies do, in the words of 'den'. -/
set_option maxRecDepth 100000
set_option linter.unusedVariables false
namespace Go.Sim
open Go Go.RowKit
/-! Function loop.example/instancesearch/laws.toNeedS -/
namespace F_laws_toNeedS
noncomputable abbrev fn : Func := Go.Proofs.Tryz.f87
def kp : Keeps := [(3000003, [3]), (1000003, [0, 3, 4])]
noncomputable def C (p : List Nat) : Code := (cod fn).sub p
def KR (Q : QT) : KT := retA pg fn.results.toList Q
abbrev T3 := Pt → Nat → Nat → Bool → Pt → Nat → Nat → Bool → Int → AHeap → Prop
def E3 (R3 : T3) (env : Env) (h : AHeap) : Prop := eVal 0 env fun v env => xSl (some v) fun a0 n0 c0 e0 => eVal 3 env fun v env => xSl (some v) fun a3 n3 c3 e3 => eVal 4 env fun v env => eInt .i64 v fun x4 => eNil env (R3 a0 n0 c0 e0 a3 n3 c3 e3 x4 h)
theorem E3elim {R3 : T3} {env : Env} {h : AHeap} (hi : E3 R3 env h) : ∃ a0, ∃ n0, ∃ c0, ∃ e0, ∃ a3, ∃ n3, ∃ c3, ∃ e3, ∃ x4, env = [(0, .slice a0 n0 c0 e0), (3, .slice a3 n3 c3 e3), (4, .int .i64 x4)] ∧ R3 a0 n0 c0 e0 a3 n3 c3 e3 x4 h := by
  unfold E3 at hi
  have hi0 := hi
  clear hi
  obtain ⟨_, _, rfl, hi1⟩ := eVal_elim hi0
  obtain ⟨a0, n0, c0, e0, rfl, hi2⟩ := xSl_elim hi1
  obtain ⟨_, _, rfl, hi3⟩ := eVal_elim hi2
  obtain ⟨a3, n3, c3, e3, rfl, hi4⟩ := xSl_elim hi3
  obtain ⟨_, _, rfl, hi5⟩ := eVal_elim hi4
  obtain ⟨x4, rfl, hi6⟩ := eInt_elim hi5
  obtain ⟨rfl, hi7⟩ := eNil_elim hi6
  have hi := hi7
  exact ⟨a0, n0, c0, e0, a3, n3, c3, e3, x4, rfl, hi⟩
def K0 (Q : QT) : KT := andThen (fun env' h' => (match kp.find 4000006 with | some ks => Den pg fn.ntmps (C [1, 1, 1]) (env'.keep ks) h' (KR Q) | none => den pg fn.ntmps kp (C [1, 1, 1]) env' h' (KR Q))) (KR Q)
def K1 (Q : QT) : KT := onExit 0 (K0 Q)
def K2 (Q : QT) : KT := left kp 3 (K1 Q)
def K3 (Q : QT) (R3 : T3) : KT := rnd ((kp.find 1000003).getD []) (E3 R3) (K2 Q)
def L3 (Q : QT) (a0 : Pt) (n0 c0 : Nat) (e0 : Bool) (a3 : Pt) (n3 c3 : Nat) (e3 : Bool) (x4 : Int) (h : AHeap) : Prop := Loop (Den pg fn.ntmps (C [1, 1, 0, 1, 0, 0])) ((kp.find 1000003).getD []) (K2 Q) [(0, .slice a0 n0 c0 e0), (3, .slice a3 n3 c3 e3), (4, .int .i64 x4)] h
def A3x0 (Q : QT) (a3 : Pt) (n3 c3 : Nat) (e3 : Bool) (h : AHeap) : Prop := At (K1 Q) (.exit 0) [(3, .slice a3 n3 c3 e3)] h
def L3t (Q : QT) (R3 : T3) (a0 : Pt) (n0 c0 : Nat) (e0 : Bool) (a3 : Pt) (n3 c3 : Nat) (e3 : Bool) (x4 : Int) (h : AHeap) : Prop :=
 bcase (decide ((x4 : Int) < (((n0 : Nat) : Int)))) ((0 ≤ (x4 : Int) ∧ (x4 : Int) < (n0 : Nat)) ∧ (xSome a0 fun I1 O2 => xRow (hRow h (.ptr (some (I1, O2 + (Int.toNat x4) * 2))) 2) fun K3 => xCons K3 fun C4 Z5 => xStr (some C4) fun S6 => xCons Z5 fun C7 Z8 => xStr (some C7) fun S9 => xNil Z8 (SCall pg n_laws_toNeed [.agg [.str S6, .str S9]] h fun V10 H11 =>
 xAgg V10 fun K12 => xCons K12 fun C13 Z14 => xStr (some C13) fun S15 => xCons Z14 fun C16 Z17 => xStr (some C16) fun S18 => xNil Z17 ((0 ≤ (x4 : Int) ∧ (x4 : Int) < (n3 : Nat)) ∧ (xSome a3 fun I19 O20 => xHeap (hStore H11 (.ptr (some (I19, O20 + (Int.toNat x4) * 2))) [.str S15, .str S18]) fun H21 => R3 a0 n0 c0 e0 a3 n3 c3 e3 (IntKind.wrap .i64 (x4 + 1)) H21))))) (A3x0 Q a3 n3 c3 e3 h)
theorem L3den (Q : QT) (R3 : T3) (a0 : Pt) (n0 c0 : Nat) (e0 : Bool) (a3 : Pt) (n3 c3 : Nat) (e3 : Bool) (x4 : Int) (h : AHeap) (ht : L3t Q R3 a0 n0 c0 e0 a3 n3 c3 e3 x4 h) : Den pg fn.ntmps (C [1, 1, 0, 1, 0, 0]) [(0, .slice a0 n0 c0 e0), (3, .slice a3 n3 c3 e3), (4, .int .i64 x4)] h (K3 Q R3) :=
  den_Den (kp := kp) (cast (by kernel_rfl) ht)
theorem L3ind (Q : QT) (a0 : Pt) (n0 c0 : Nat) (e0 : Bool) (a3 : Pt) (n3 c3 : Nat) (e3 : Bool) {G : Type} (J : G → Int → AHeap → Prop) (m : G → Nat)
 (hr : ∀ (g : G) (x4 : Int) (h : AHeap), J g x4 h → ∀ (R3 : T3), (∀ g' (x4 : Int) (h : AHeap), m g' < m g → J g' x4 h → R3 a0 n0 c0 e0 a3 n3 c3 e3 x4 h) → L3t Q R3 a0 n0 c0 e0 a3 n3 c3 e3 x4 h)
 (g : G) (x4 : Int) (h : AHeap) (hj : J g x4 h) : L3 Q a0 n0 c0 e0 a3 n3 c3 e3 x4 h := by
  refine Loop.inv2 (fun g => E3 fun a0' n0' c0' e0' a3' n3' c3' e3' x4 h => a0 = a0' ∧ n0 = n0' ∧ c0 = c0' ∧ e0 = e0' ∧ a3 = a3' ∧ n3 = n3' ∧ c3 = c3' ∧ e3 = e3' ∧ J g x4 h) (fun g => E3 fun a0' n0' c0' e0' a3' n3' c3' e3' x4 h => a0 = a0' ∧ n0 = n0' ∧ c0 = c0' ∧ e0 = e0' ∧ a3 = a3' ∧ n3 = n3' ∧ c3 = c3' ∧ e3 = e3' ∧ ∃ g', m g' < m g ∧ J g' x4 h) m ?_ ?_ g ⟨rfl, rfl, rfl, rfl, rfl, rfl, rfl, rfl, hj⟩
  · intro g env h hi
    obtain ⟨a0', n0', c0', e0', a3', n3', c3', e3', x4, rfl, rfl, rfl, rfl, rfl, rfl, rfl, rfl, rfl, hj⟩ := E3elim hi
    exact L3den Q _ a0 n0 c0 e0 a3 n3 c3 e3 x4 h (hr g x4 h hj (fun a0' n0' c0' e0' a3' n3' c3' e3' x4 h => a0 = a0' ∧ n0 = n0' ∧ c0 = c0' ∧ e0 = e0' ∧ a3 = a3' ∧ n3 = n3' ∧ c3 = c3' ∧ e3 = e3' ∧ ∃ g', m g' < m g ∧ J g' x4 h) fun g' x4 h hlt hj => ⟨rfl, rfl, rfl, rfl, rfl, rfl, rfl, rfl, g', hlt, hj⟩)
  · intro g env h hi
    obtain ⟨a0', n0', c0', e0', a3', n3', c3', e3', x4, rfl, rfl, rfl, rfl, rfl, rfl, rfl, rfl, rfl, g', hlt, hj⟩ := E3elim hi
    exact ⟨g', hlt, rfl, rfl, rfl, rfl, rfl, rfl, rfl, rfl, hj⟩
theorem A3x0i (Q : QT) (a3 : Pt) (n3 c3 : Nat) (e3 : Bool) (h : AHeap) (ht :
 Q (.slice a3 n3 c3 e3) h) : A3x0 Q a3 n3 c3 e3 h :=
  At.mk (cast (by kernel_rfl) ht)
theorem call (a0 : Pt) (n0 c0 : Nat) (e0 : Bool) (h : AHeap) (Q : QT) (ht :
 IntKind.i64 = IntKind.i64 ∧ (IntKind.i64 = IntKind.i64 ∧ ((0 ≤ ((((n0 : Nat) : Int)) : Int) ∧ ((((n0 : Nat) : Int)) : Int) ≤ (((n0 : Nat) : Int)) ∧ ((((n0 : Nat) : Int)) : Int) * (((32 : Nat) : Int) + 1) ≤ 140737488355328) ∧ (letH (h ++ [.cells t_impl_Need (reps (Int.toNat ((((n0 : Nat) : Int)))) [.str [], .str []]) false]) fun H0 => L3 Q a0 n0 c0 e0 (some (h.length, 0)) (Int.toNat ((((n0 : Nat) : Int)))) (Int.toNat ((((n0 : Nat) : Int)))) true 0 H0)))) : SCall pg n_laws_toNeedS [.slice a0 n0 c0 e0] h Q :=
  SCall.of_body kp (c := cod fn) (fn := fn) Go.Proofs.Tryz.func87 (by kernel_rfl) (by kernel_rfl) (Nat.le_of_ble_eq_true (by kernel_rfl))
    (cast (by kernel_rfl) ht)
end F_laws_toNeedS
/-! Function loop.example/instancesearch/laws.eqNeedS -/
namespace F_laws_eqNeedS
noncomputable abbrev fn : Func := Go.Proofs.Tryz.f97
def kp : Keeps := [(3000004, [4]), (1000004, [0, 1, 5]), (2000006, [26, 5, 0, 1])]
noncomputable def C (p : List Nat) : Code := (cod fn).sub p
def KR (Q : QT) : KT := retA pg fn.results.toList Q
abbrev T4 := Pt → Nat → Nat → Bool → Pt → Nat → Nat → Bool → Int → AHeap → Prop
def E4 (R4 : T4) (env : Env) (h : AHeap) : Prop := eVal 0 env fun v env => xSl (some v) fun a0 n0 c0 e0 => eVal 1 env fun v env => xSl (some v) fun a1 n1 c1 e1 => eVal 5 env fun v env => eInt .i64 v fun x5 => eNil env (R4 a0 n0 c0 e0 a1 n1 c1 e1 x5 h)
theorem E4elim {R4 : T4} {env : Env} {h : AHeap} (hi : E4 R4 env h) : ∃ a0, ∃ n0, ∃ c0, ∃ e0, ∃ a1, ∃ n1, ∃ c1, ∃ e1, ∃ x5, env = [(0, .slice a0 n0 c0 e0), (1, .slice a1 n1 c1 e1), (5, .int .i64 x5)] ∧ R4 a0 n0 c0 e0 a1 n1 c1 e1 x5 h := by
  unfold E4 at hi
  have hi0 := hi
  clear hi
  obtain ⟨_, _, rfl, hi1⟩ := eVal_elim hi0
  obtain ⟨a0, n0, c0, e0, rfl, hi2⟩ := xSl_elim hi1
  obtain ⟨_, _, rfl, hi3⟩ := eVal_elim hi2
  obtain ⟨a1, n1, c1, e1, rfl, hi4⟩ := xSl_elim hi3
  obtain ⟨_, _, rfl, hi5⟩ := eVal_elim hi4
  obtain ⟨x5, rfl, hi6⟩ := eInt_elim hi5
  obtain ⟨rfl, hi7⟩ := eNil_elim hi6
  have hi := hi7
  exact ⟨a0, n0, c0, e0, a1, n1, c1, e1, x5, rfl, hi⟩
def K0 (Q : QT) : KT := andThen (fun env' h' => (match kp.find 4000008 with | some ks => Den pg fn.ntmps (C [1, 1, 1]) (env'.keep ks) h' (KR Q) | none => den pg fn.ntmps kp (C [1, 1, 1]) env' h' (KR Q))) (KR Q)
def K1 (Q : QT) : KT := onExit 0 (K0 Q)
def K2 (Q : QT) : KT := left kp 4 (K1 Q)
def K3 (Q : QT) (R4 : T4) : KT := rnd ((kp.find 1000004).getD []) (E4 R4) (K2 Q)
def L4 (Q : QT) (a0 : Pt) (n0 c0 : Nat) (e0 : Bool) (a1 : Pt) (n1 c1 : Nat) (e1 : Bool) (x5 : Int) (h : AHeap) : Prop := Loop (Den pg fn.ntmps (C [1, 1, 0, 1, 0, 0])) ((kp.find 1000004).getD []) (K2 Q) [(0, .slice a0 n0 c0 e0), (1, .slice a1 n1 c1 e1), (5, .int .i64 x5)] h
def A4x0 (Q : QT) (h : AHeap) : Prop := At (K1 Q) (.exit 0) [(4, .undef)] h
def L4t (Q : QT) (R4 : T4) (a0 : Pt) (n0 c0 : Nat) (e0 : Bool) (a1 : Pt) (n1 c1 : Nat) (e1 : Bool) (x5 : Int) (h : AHeap) : Prop :=
 bcase (decide ((x5 : Int) < (((n0 : Nat) : Int)))) ((0 ≤ (x5 : Int) ∧ (x5 : Int) < (n0 : Nat)) ∧ (xSome a0 fun I0 O1 => (0 ≤ (x5 : Int) ∧ (x5 : Int) < (n1 : Nat)) ∧ (xSome a1 fun I2 O3 => xRow (hRow h (.ptr (some (I0, O1 + (Int.toNat x5) * 2))) 2) fun K4 => xCons K4 fun C5 Z6 => xStr (some C5) fun S7 => xCons Z6 fun C8 Z9 => xStr (some C8) fun S10 => xNil Z9 (xRow (hRow h (.ptr (some (I2, O3 + (Int.toNat x5) * 2))) 2) fun K11 => xCons K11 fun C12 Z13 => xStr (some C12) fun S14 => xCons Z13 fun C15 Z16 => xStr (some C15) fun S17 => xNil Z16 ((hRow h (.ptr (some (I0, O1 + (Int.toNat x5) * 2))) 2 = hRow h (.ptr (some (I0, O1 + (Int.toNat x5) * 2))) 2) ∧ SCall pg n_laws_eqNeed [.agg [.str S7, .str S10], .agg [.str S14, .str S17]] h fun V18 H19 =>
 xBool (some V18) fun B20 => bcase (!B20) (Q (.bool false) H19) (R4 a0 n0 c0 e0 a1 n1 c1 e1 (IntKind.wrap .i64 (x5 + 1)) H19)))))) (A4x0 Q h)
theorem L4den (Q : QT) (R4 : T4) (a0 : Pt) (n0 c0 : Nat) (e0 : Bool) (a1 : Pt) (n1 c1 : Nat) (e1 : Bool) (x5 : Int) (h : AHeap) (ht : L4t Q R4 a0 n0 c0 e0 a1 n1 c1 e1 x5 h) : Den pg fn.ntmps (C [1, 1, 0, 1, 0, 0]) [(0, .slice a0 n0 c0 e0), (1, .slice a1 n1 c1 e1), (5, .int .i64 x5)] h (K3 Q R4) :=
  den_Den (kp := kp) (cast (by kernel_rfl) ht)
theorem L4ind (Q : QT) (a0 : Pt) (n0 c0 : Nat) (e0 : Bool) (a1 : Pt) (n1 c1 : Nat) (e1 : Bool) {G : Type} (J : G → Int → AHeap → Prop) (m : G → Nat)
 (hr : ∀ (g : G) (x5 : Int) (h : AHeap), J g x5 h → ∀ (R4 : T4), (∀ g' (x5 : Int) (h : AHeap), m g' < m g → J g' x5 h → R4 a0 n0 c0 e0 a1 n1 c1 e1 x5 h) → L4t Q R4 a0 n0 c0 e0 a1 n1 c1 e1 x5 h)
 (g : G) (x5 : Int) (h : AHeap) (hj : J g x5 h) : L4 Q a0 n0 c0 e0 a1 n1 c1 e1 x5 h := by
  refine Loop.inv2 (fun g => E4 fun a0' n0' c0' e0' a1' n1' c1' e1' x5 h => a0 = a0' ∧ n0 = n0' ∧ c0 = c0' ∧ e0 = e0' ∧ a1 = a1' ∧ n1 = n1' ∧ c1 = c1' ∧ e1 = e1' ∧ J g x5 h) (fun g => E4 fun a0' n0' c0' e0' a1' n1' c1' e1' x5 h => a0 = a0' ∧ n0 = n0' ∧ c0 = c0' ∧ e0 = e0' ∧ a1 = a1' ∧ n1 = n1' ∧ c1 = c1' ∧ e1 = e1' ∧ ∃ g', m g' < m g ∧ J g' x5 h) m ?_ ?_ g ⟨rfl, rfl, rfl, rfl, rfl, rfl, rfl, rfl, hj⟩
  · intro g env h hi
    obtain ⟨a0', n0', c0', e0', a1', n1', c1', e1', x5, rfl, rfl, rfl, rfl, rfl, rfl, rfl, rfl, rfl, hj⟩ := E4elim hi
    exact L4den Q _ a0 n0 c0 e0 a1 n1 c1 e1 x5 h (hr g x5 h hj (fun a0' n0' c0' e0' a1' n1' c1' e1' x5 h => a0 = a0' ∧ n0 = n0' ∧ c0 = c0' ∧ e0 = e0' ∧ a1 = a1' ∧ n1 = n1' ∧ c1 = c1' ∧ e1 = e1' ∧ ∃ g', m g' < m g ∧ J g' x5 h) fun g' x5 h hlt hj => ⟨rfl, rfl, rfl, rfl, rfl, rfl, rfl, rfl, g', hlt, hj⟩)
  · intro g env h hi
    obtain ⟨a0', n0', c0', e0', a1', n1', c1', e1', x5, rfl, rfl, rfl, rfl, rfl, rfl, rfl, rfl, rfl, g', hlt, hj⟩ := E4elim hi
    exact ⟨g', hlt, rfl, rfl, rfl, rfl, rfl, rfl, rfl, rfl, hj⟩
theorem A4x0i (Q : QT) (h : AHeap) (ht :
 Q (.bool true) h) : A4x0 Q h :=
  At.mk (cast (by kernel_rfl) ht)
theorem call (a0 : Pt) (n0 c0 : Nat) (e0 : Bool) (a1 : Pt) (n1 c1 : Nat) (e1 : Bool) (h : AHeap) (Q : QT) (ht :
 bcase (!((((n0 : Nat) : Int) : Int) == (((n1 : Nat) : Int)))) (Q (.bool false) h) (L4 Q a0 n0 c0 e0 a1 n1 c1 e1 0 h)) : SCall pg n_laws_eqNeedS [.slice a0 n0 c0 e0, .slice a1 n1 c1 e1] h Q :=
  SCall.of_body kp (c := cod fn) (fn := fn) Go.Proofs.Tryz.func97 (by kernel_rfl) (by kernel_rfl) (Nat.le_of_ble_eq_true (by kernel_rfl))
    (cast (by kernel_rfl) ht)
end F_laws_eqNeedS
end Go.Sim

/- Printed by wip/tool: what the functions' bodies do, in the words of 'den'. -/
set_option maxRecDepth 100000
set_option linter.unusedVariables false
namespace Go.Sim
open Go Go.RowKit
/-! Function loop.example/instancesearch/laws.szNeed -/
namespace F_laws_szNeed
noncomputable abbrev fn : Func := Go.Proofs.Tryz.f9
def kp : Keeps := []
noncomputable def C (p : List Nat) : Code := (cod fn).sub p
def KR (Q : QT) : KT := retA pg fn.results.toList Q
theorem call (x0x0 x0x1 : List Nat) (x1 : Int) (h : AHeap) (Q : QT) (ht :
 letH (h ++ [.cells t_laws_Need [.str x0x0, .str x0x1] false]) fun H0 => xStr (hCell H0 (.ptr (some (h.length, 0 + 0)))) fun S1 => bcase (decide (((IntKind.wrap .i64 (x1 - (((List.length S1 : Nat) : Int)))) : Int) < 0)) (Q (.int .i64 (-1)) H0) (xStr (hCell H0 (.ptr (some (h.length, 0 + 1)))) fun S2 => bcase (decide (((IntKind.wrap .i64 ((IntKind.wrap .i64 (x1 - (((List.length S1 : Nat) : Int)))) - (((List.length S2 : Nat) : Int)))) : Int) < 0)) (Q (.int .i64 (-1)) H0) (Q (.int .i64 (IntKind.wrap .i64 ((IntKind.wrap .i64 (x1 - (((List.length S1 : Nat) : Int)))) - (((List.length S2 : Nat) : Int))))) H0))) : SCall pg n_laws_szNeed [.agg [.str x0x0, .str x0x1], .int .i64 x1] h Q :=
  SCall.of_body kp (c := cod fn) (fn := fn) Go.Proofs.Tryz.func9 (by kernel_rfl) (by kernel_rfl) (Nat.le_of_ble_eq_true (by kernel_rfl))
    (cast (by kernel_rfl) ht)
end F_laws_szNeed
/-! Function loop.example/instancesearch/spec.FormatNeed -/
namespace F_spec_FormatNeed
noncomputable abbrev fn : Func := Go.Proofs.Tryz.f84
def kp : Keeps := []
noncomputable def C (p : List Nat) : Code := (cod fn).sub p
def KR (Q : QT) : KT := retA pg fn.results.toList Q
theorem call (x0x0 x0x1 : List Nat) (h : AHeap) (Q : QT) (ht :
 letH (h ++ [.cells t_impl_Need [.str x0x0, .str x0x1] false]) fun H0 => xStr (hCell H0 (.ptr (some (h.length, 0 + 0)))) fun S1 => List.length S1 + List.length [32] ≤ 9223372036854775807 ∧ (xStr (hCell H0 (.ptr (some (h.length, 0 + 1)))) fun S2 => List.length (S1 ++ [32]) + List.length S2 ≤ 9223372036854775807 ∧ (Q (.str ((S1 ++ [32]) ++ S2)) H0))) : SCall pg n_spec_FormatNeed [.agg [.str x0x0, .str x0x1]] h Q :=
  SCall.of_body kp (c := cod fn) (fn := fn) Go.Proofs.Tryz.func84 (by kernel_rfl) (by kernel_rfl) (Nat.le_of_ble_eq_true (by kernel_rfl))
    (cast (by kernel_rfl) ht)
end F_spec_FormatNeed
/-! Function loop.example/instancesearch/impl.FormatNeed -/
namespace F_impl_FormatNeed
noncomputable abbrev fn : Func := Go.Proofs.Tryz.f124
def kp : Keeps := []
noncomputable def C (p : List Nat) : Code := (cod fn).sub p
def KR (Q : QT) : KT := retA pg fn.results.toList Q
theorem call (x0x0 x0x1 : List Nat) (h : AHeap) (Q : QT) (ht :
 letH (h ++ [.cells t_impl_Need [.str x0x0, .str x0x1] false]) fun H0 => xStr (hCell H0 (.ptr (some (h.length, 0 + 0)))) fun S1 => List.length S1 + List.length [32] ≤ 9223372036854775807 ∧ (xStr (hCell H0 (.ptr (some (h.length, 0 + 1)))) fun S2 => List.length (S1 ++ [32]) + List.length S2 ≤ 9223372036854775807 ∧ (Q (.str ((S1 ++ [32]) ++ S2)) H0))) : SCall pg n_impl_FormatNeed [.agg [.str x0x0, .str x0x1]] h Q :=
  SCall.of_body kp (c := cod fn) (fn := fn) Go.Proofs.Tryz.func124 (by kernel_rfl) (by kernel_rfl) (Nat.le_of_ble_eq_true (by kernel_rfl))
    (cast (by kernel_rfl) ht)
end F_impl_FormatNeed
/-! Function loop.example/instancesearch/laws.eqNeed -/
namespace F_laws_eqNeed
noncomputable abbrev fn : Func := Go.Proofs.Tryz.f17
def kp : Keeps := []
noncomputable def C (p : List Nat) : Code := (cod fn).sub p
def KR (Q : QT) : KT := retA pg fn.results.toList Q
theorem call (x0x0 x0x1 x1x0 x1x1 : List Nat) (h : AHeap) (Q : QT) (ht :
 letH (h ++ [.cells t_impl_Need [.str x0x0, .str x0x1] false]) fun H0 => letH (H0 ++ [.cells t_impl_Need [.str x1x0, .str x1x1] false]) fun H1 => xStr (hCell H1 (.ptr (some (h.length, 0 + 0)))) fun S2 => xStr (hCell H1 (.ptr (some (H0.length, 0 + 0)))) fun S3 => bcase (!(decide (S2 = S3))) (Q (.bool false) H1) (xStr (hCell H1 (.ptr (some (h.length, 0 + 1)))) fun S4 => xStr (hCell H1 (.ptr (some (H0.length, 0 + 1)))) fun S5 => bcase (!(decide (S4 = S5))) (Q (.bool false) H1) (Q (.bool true) H1))) : SCall pg n_laws_eqNeed [.agg [.str x0x0, .str x0x1], .agg [.str x1x0, .str x1x1]] h Q :=
  SCall.of_body kp (c := cod fn) (fn := fn) Go.Proofs.Tryz.func17 (by kernel_rfl) (by kernel_rfl) (Nat.le_of_ble_eq_true (by kernel_rfl))
    (cast (by kernel_rfl) ht)
end F_laws_eqNeed
/-! Function loop.example/instancesearch/laws.toNeed -/
namespace F_laws_toNeed
noncomputable abbrev fn : Func := Go.Proofs.Tryz.f12
def kp : Keeps := []
noncomputable def C (p : List Nat) : Code := (cod fn).sub p
def KR (Q : QT) : KT := retA pg fn.results.toList Q
theorem call (x0x0 x0x1 : List Nat) (h : AHeap) (Q : QT) (ht :
 letH (h ++ [.cells t_laws_Need [.str x0x0, .str x0x1] false]) fun H0 => letH (H0 ++ [.cells t_impl_Need [.str [], .str []] false]) fun H1 => letH (H1 ++ [.cells t_impl_Need [.str [], .str []] false]) fun H2 => xStr (hCell H2 (.ptr (some (h.length, 0 + 0)))) fun S3 => xHeap (hStore H2 (.ptr (some (H1.length, 0 + 0))) [.str S3]) fun H4 => xStr (hCell H4 (.ptr (some (h.length, 0 + 1)))) fun S5 => xHeap (hStore H4 (.ptr (some (H1.length, 0 + 1))) [.str S5]) fun H6 => xRow (hRow H6 (.ptr (some (H1.length, 0))) 2) fun K7 => xCons K7 fun C8 Z9 => xStr (some C8) fun S10 => xCons Z9 fun C11 Z12 => xStr (some C11) fun S13 => xNil Z12 (xHeap (hStore H6 (.ptr (some (H0.length, 0))) [.str S10, .str S13]) fun H14 => xRow (hRow H14 (.ptr (some (H0.length, 0))) 2) fun K15 => xCons K15 fun C16 Z17 => xStr (some C16) fun S18 => xCons Z17 fun C19 Z20 => xStr (some C19) fun S21 => xNil Z20 (Q (.agg [.str S18, .str S21]) H14))) : SCall pg n_laws_toNeed [.agg [.str x0x0, .str x0x1]] h Q :=
  SCall.of_body kp (c := cod fn) (fn := fn) Go.Proofs.Tryz.func12 (by kernel_rfl) (by kernel_rfl) (Nat.le_of_ble_eq_true (by kernel_rfl))
    (cast (by kernel_rfl) ht)
end F_laws_toNeed
/-! Function loop.example/instancesearch/laws.szNeedS -/
namespace F_laws_szNeedS
noncomputable abbrev fn : Func := Go.Proofs.Tryz.f80
def kp : Keeps := [(3000005, [1, 4]), (1000005, [0, 1, 5])]
noncomputable def C (p : List Nat) : Code := (cod fn).sub p
def KR (Q : QT) : KT := retA pg fn.results.toList Q
abbrev T5 := Pt → Nat → Nat → Bool → Int → Int → AHeap → Prop
def E5 (R5 : T5) (env : Env) (h : AHeap) : Prop := eVal 0 env fun v env => xSl (some v) fun a0 n0 c0 e0 => eVal 1 env fun v env => eInt .i64 v fun x1 => eVal 5 env fun v env => eInt .i64 v fun x5 => eNil env (R5 a0 n0 c0 e0 x1 x5 h)
theorem E5elim {R5 : T5} {env : Env} {h : AHeap} (hi : E5 R5 env h) : ∃ a0, ∃ n0, ∃ c0, ∃ e0, ∃ x1, ∃ x5, env = [(0, .slice a0 n0 c0 e0), (1, .int .i64 x1), (5, .int .i64 x5)] ∧ R5 a0 n0 c0 e0 x1 x5 h := by
  unfold E5 at hi
  have hi0 := hi
  clear hi
  obtain ⟨_, _, rfl, hi1⟩ := eVal_elim hi0
  obtain ⟨a0, n0, c0, e0, rfl, hi2⟩ := xSl_elim hi1
  obtain ⟨_, _, rfl, hi3⟩ := eVal_elim hi2
  obtain ⟨x1, rfl, hi4⟩ := eInt_elim hi3
  obtain ⟨_, _, rfl, hi5⟩ := eVal_elim hi4
  obtain ⟨x5, rfl, hi6⟩ := eInt_elim hi5
  obtain ⟨rfl, hi7⟩ := eNil_elim hi6
  have hi := hi7
  exact ⟨a0, n0, c0, e0, x1, x5, rfl, hi⟩
def K0 (Q : QT) : KT := andThen (fun env' h' => (match kp.find 4000010 with | some ks => Den pg fn.ntmps (C [1, 1, 1, 1]) (env'.keep ks) h' (KR Q) | none => den pg fn.ntmps kp (C [1, 1, 1, 1]) env' h' (KR Q))) (KR Q)
def K1 (Q : QT) : KT := onExit 0 (K0 Q)
def K2 (Q : QT) : KT := left kp 5 (K1 Q)
def K3 (Q : QT) (R5 : T5) : KT := rnd ((kp.find 1000005).getD []) (E5 R5) (K2 Q)
def L5 (Q : QT) (a0 : Pt) (n0 c0 : Nat) (e0 : Bool) (x1 x5 : Int) (h : AHeap) : Prop := Loop (Den pg fn.ntmps (C [1, 1, 1, 0, 1, 0, 0])) ((kp.find 1000005).getD []) (K2 Q) [(0, .slice a0 n0 c0 e0), (1, .int .i64 x1), (5, .int .i64 x5)] h
def A5x0 (Q : QT) (x1 : Int) (h : AHeap) : Prop := At (K1 Q) (.exit 0) [(1, .int .i64 x1), (4, .undef)] h
def L5t (Q : QT) (R5 : T5) (a0 : Pt) (n0 c0 : Nat) (e0 : Bool) (x1 x5 : Int) (h : AHeap) : Prop :=
 bcase (decide ((x5 : Int) < (((n0 : Nat) : Int)))) ((0 ≤ (x5 : Int) ∧ (x5 : Int) < (n0 : Nat)) ∧ (xSome a0 fun I0 O1 => xRow (hRow h (.ptr (some (I0, O1 + (Int.toNat x5) * 2))) 2) fun K2 => xCons K2 fun C3 Z4 => xStr (some C3) fun S5 => xCons Z4 fun C6 Z7 => xStr (some C6) fun S8 => xNil Z7 (SCall pg n_laws_szNeed [.agg [.str S5, .str S8], .int .i64 x1] h fun V9 H10 =>
 xInt .i64 (some V9) fun X11 => bcase (decide ((X11 : Int) < 0)) (Q (.int .i64 (-1)) H10) (R5 a0 n0 c0 e0 X11 (IntKind.wrap .i64 (x5 + 1)) H10)))) (A5x0 Q x1 h)
theorem L5den (Q : QT) (R5 : T5) (a0 : Pt) (n0 c0 : Nat) (e0 : Bool) (x1 x5 : Int) (h : AHeap) (ht : L5t Q R5 a0 n0 c0 e0 x1 x5 h) : Den pg fn.ntmps (C [1, 1, 1, 0, 1, 0, 0]) [(0, .slice a0 n0 c0 e0), (1, .int .i64 x1), (5, .int .i64 x5)] h (K3 Q R5) :=
  den_Den (kp := kp) (cast (by kernel_rfl) ht)
theorem L5ind (Q : QT) (a0 : Pt) (n0 c0 : Nat) (e0 : Bool) {G : Type} (J : G → Int → Int → AHeap → Prop) (m : G → Nat)
 (hr : ∀ (g : G) (x1 x5 : Int) (h : AHeap), J g x1 x5 h → ∀ (R5 : T5), (∀ g' (x1 x5 : Int) (h : AHeap), m g' < m g → J g' x1 x5 h → R5 a0 n0 c0 e0 x1 x5 h) → L5t Q R5 a0 n0 c0 e0 x1 x5 h)
 (g : G) (x1 x5 : Int) (h : AHeap) (hj : J g x1 x5 h) : L5 Q a0 n0 c0 e0 x1 x5 h := by
  refine Loop.inv2 (fun g => E5 fun a0' n0' c0' e0' x1 x5 h => a0 = a0' ∧ n0 = n0' ∧ c0 = c0' ∧ e0 = e0' ∧ J g x1 x5 h) (fun g => E5 fun a0' n0' c0' e0' x1 x5 h => a0 = a0' ∧ n0 = n0' ∧ c0 = c0' ∧ e0 = e0' ∧ ∃ g', m g' < m g ∧ J g' x1 x5 h) m ?_ ?_ g ⟨rfl, rfl, rfl, rfl, hj⟩
  · intro g env h hi
    obtain ⟨a0', n0', c0', e0', x1, x5, rfl, rfl, rfl, rfl, rfl, hj⟩ := E5elim hi
    exact L5den Q _ a0 n0 c0 e0 x1 x5 h (hr g x1 x5 h hj (fun a0' n0' c0' e0' x1 x5 h => a0 = a0' ∧ n0 = n0' ∧ c0 = c0' ∧ e0 = e0' ∧ ∃ g', m g' < m g ∧ J g' x1 x5 h) fun g' x1 x5 h hlt hj => ⟨rfl, rfl, rfl, rfl, g', hlt, hj⟩)
  · intro g env h hi
    obtain ⟨a0', n0', c0', e0', x1, x5, rfl, rfl, rfl, rfl, rfl, g', hlt, hj⟩ := E5elim hi
    exact ⟨g', hlt, rfl, rfl, rfl, rfl, hj⟩
theorem A5x0i (Q : QT) (x1 : Int) (h : AHeap) (ht :
 Q (.int .i64 x1) h) : A5x0 Q x1 h :=
  At.mk (cast (by kernel_rfl) ht)
theorem call (a0 : Pt) (n0 c0 : Nat) (e0 : Bool) (x1 : Int) (h : AHeap) (Q : QT) (ht :
 bcase (decide (((IntKind.wrap .i64 (x1 - (((n0 : Nat) : Int)))) : Int) < 0)) (Q (.int .i64 (-1)) h) (L5 Q a0 n0 c0 e0 (IntKind.wrap .i64 (x1 - (((n0 : Nat) : Int)))) 0 h)) : SCall pg n_laws_szNeedS [.slice a0 n0 c0 e0, .int .i64 x1] h Q :=
  SCall.of_body kp (c := cod fn) (fn := fn) Go.Proofs.Tryz.func80 (by kernel_rfl) (by kernel_rfl) (Nat.le_of_ble_eq_true (by kernel_rfl))
    (cast (by kernel_rfl) ht)
end F_laws_szNeedS
end Go.Sim

/- Printed by wip/tool: what the functions' bodies do, in the words of 'den'. -/
set_option maxRecDepth 100000
set_option linter.unusedVariables false
namespace Go.Sim
open Go Go.RowKit
/-! Function loop.example/instancesearch/impl.vars -/
namespace F_impl_vars
noncomputable abbrev fn : Func := Go.Proofs.Tryz.f111
def kp : Keeps := [(3000003, [3]), (1000003, [0, 3, 7, 8, 9]), (4000007, [9, 8, 7, 0, 3])]
noncomputable def C (p : List Nat) : Code := (cod fn).sub p
def KR (Q : QT) : KT := retA pg fn.results.toList Q
abbrev T3 := List Nat → Pt → Nat → Nat → Bool → Pt → Nat → Nat → Bool → Int → Int → AHeap → Prop
def E3 (R3 : T3) (env : Env) (h : AHeap) : Prop := eVal 0 env fun v env => xStr (some v) fun x0 => eVal 3 env fun v env => xSl (some v) fun a3 n3 c3 e3 => eVal 7 env fun v env => xSl (some v) fun a7 n7 c7 e7 => eVal 8 env fun v env => eInt .i64 v fun x8 => eVal 9 env fun v env => eInt .i64 v fun x9 => eNil env (R3 x0 a3 n3 c3 e3 a7 n7 c7 e7 x8 x9 h)
theorem E3elim {R3 : T3} {env : Env} {h : AHeap} (hi : E3 R3 env h) : ∃ x0, ∃ a3, ∃ n3, ∃ c3, ∃ e3, ∃ a7, ∃ n7, ∃ c7, ∃ e7, ∃ x8, ∃ x9, env = [(0, .str x0), (3, .slice a3 n3 c3 e3), (7, .slice a7 n7 c7 e7), (8, .int .i64 x8), (9, .int .i64 x9)] ∧ R3 x0 a3 n3 c3 e3 a7 n7 c7 e7 x8 x9 h := by
  unfold E3 at hi
  have hi0 := hi
  clear hi
  obtain ⟨_, _, rfl, hi1⟩ := eVal_elim hi0
  obtain ⟨x0, rfl, hi2⟩ := xStr_elim hi1
  obtain ⟨_, _, rfl, hi3⟩ := eVal_elim hi2
  obtain ⟨a3, n3, c3, e3, rfl, hi4⟩ := xSl_elim hi3
  obtain ⟨_, _, rfl, hi5⟩ := eVal_elim hi4
  obtain ⟨a7, n7, c7, e7, rfl, hi6⟩ := xSl_elim hi5
  obtain ⟨_, _, rfl, hi7⟩ := eVal_elim hi6
  obtain ⟨x8, rfl, hi8⟩ := eInt_elim hi7
  obtain ⟨_, _, rfl, hi9⟩ := eVal_elim hi8
  obtain ⟨x9, rfl, hi10⟩ := eInt_elim hi9
  obtain ⟨rfl, hi11⟩ := eNil_elim hi10
  have hi := hi11
  exact ⟨x0, a3, n3, c3, e3, a7, n7, c7, e7, x8, x9, rfl, hi⟩
def K0 (Q : QT) : KT := andThen (fun env' h' => (match kp.find 4000008 with | some ks => Den pg fn.ntmps (C [1, 1, 1]) (env'.keep ks) h' (KR Q) | none => den pg fn.ntmps kp (C [1, 1, 1]) env' h' (KR Q))) (KR Q)
def K1 (Q : QT) : KT := onExit 0 (K0 Q)
def K2 (Q : QT) : KT := left kp 3 (K1 Q)
def K3 (Q : QT) (R3 : T3) : KT := rnd ((kp.find 1000003).getD []) (E3 R3) (K2 Q)
def L3 (Q : QT) (x0 : List Nat) (a3 : Pt) (n3 c3 : Nat) (e3 : Bool) (a7 : Pt) (n7 c7 : Nat) (e7 : Bool) (x8 x9 : Int) (h : AHeap) : Prop := Loop (Den pg fn.ntmps (C [1, 1, 0, 1, 0, 0])) ((kp.find 1000003).getD []) (K2 Q) [(0, .str x0), (3, .slice a3 n3 c3 e3), (7, .slice a7 n7 c7 e7), (8, .int .i64 x8), (9, .int .i64 x9)] h
def J7 (Q : QT) (R3 : T3) (x9 x8 : Int) (a7 : Pt) (n7 c7 : Nat) (e7 : Bool) (x0 : List Nat) (a3 : Pt) (n3 c3 : Nat) (e3 : Bool) (h : AHeap) : Prop := Den pg fn.ntmps (C [1, 1, 0, 1, 0, 0, 1, 1, 1]) [(9, .int .i64 x9), (8, .int .i64 x8), (7, .slice a7 n7 c7 e7), (0, .str x0), (3, .slice a3 n3 c3 e3)] h (K3 Q R3)
def A3x0 (Q : QT) (a3 : Pt) (n3 c3 : Nat) (e3 : Bool) (h : AHeap) : Prop := At (K1 Q) (.exit 0) [(3, .slice a3 n3 c3 e3)] h
def L3t (Q : QT) (R3 : T3) (x0 : List Nat) (a3 : Pt) (n3 c3 : Nat) (e3 : Bool) (a7 : Pt) (n7 c7 : Nat) (e7 : Bool) (x8 x9 : Int) (h : AHeap) : Prop :=
 bcase (decide ((x9 : Int) < x8)) ((0 ≤ (x9 : Int) ∧ (x9 : Int) < (n7 : Nat)) ∧ (xSome a7 fun I2 O3 => xStr (hCell h (.ptr (some (I2, O3 + (Int.toNat x9) * 1)))) fun S4 => SCall pg n_strings_Contains [.str x0, .str S4] h fun V5 H6 =>
 xBool (some V5) fun B7 => bcase B7 (letH (H6 ++ [.cells t_string [.str S4] false]) fun H8 => appendA pg t_L_string H8 (.slice a3 n3 c3 e3) (.slice (some (H6.length, 0)) 1 1 true) fun V9 H10 => xSl (some V9) fun A11 N12 C13 E14 => J7 Q R3 x9 x8 a7 n7 c7 e7 x0 A11 N12 C13 E14 H10) (J7 Q R3 x9 x8 a7 n7 c7 e7 x0 a3 n3 c3 e3 H6))) (A3x0 Q a3 n3 c3 e3 h)
theorem L3den (Q : QT) (R3 : T3) (x0 : List Nat) (a3 : Pt) (n3 c3 : Nat) (e3 : Bool) (a7 : Pt) (n7 c7 : Nat) (e7 : Bool) (x8 x9 : Int) (h : AHeap) (ht : L3t Q R3 x0 a3 n3 c3 e3 a7 n7 c7 e7 x8 x9 h) : Den pg fn.ntmps (C [1, 1, 0, 1, 0, 0]) [(0, .str x0), (3, .slice a3 n3 c3 e3), (7, .slice a7 n7 c7 e7), (8, .int .i64 x8), (9, .int .i64 x9)] h (K3 Q R3) :=
  den_Den (kp := kp) (cast (by kernel_rfl) ht)
theorem L3ind (Q : QT) (x0 : List Nat) (a7 : Pt) (n7 c7 : Nat) (e7 : Bool) (x8 : Int) {G : Type} (J : G → Pt → Nat → Nat → Bool → Int → AHeap → Prop) (m : G → Nat)
 (hr : ∀ (g : G) (a3 : Pt) (n3 c3 : Nat) (e3 : Bool) (x9 : Int) (h : AHeap), J g a3 n3 c3 e3 x9 h → ∀ (R3 : T3), (∀ g' (a3 : Pt) (n3 c3 : Nat) (e3 : Bool) (x9 : Int) (h : AHeap), m g' < m g → J g' a3 n3 c3 e3 x9 h → R3 x0 a3 n3 c3 e3 a7 n7 c7 e7 x8 x9 h) → L3t Q R3 x0 a3 n3 c3 e3 a7 n7 c7 e7 x8 x9 h)
 (g : G) (a3 : Pt) (n3 c3 : Nat) (e3 : Bool) (x9 : Int) (h : AHeap) (hj : J g a3 n3 c3 e3 x9 h) : L3 Q x0 a3 n3 c3 e3 a7 n7 c7 e7 x8 x9 h := by
  refine Loop.inv2 (fun g => E3 fun x0' a3 n3 c3 e3 a7' n7' c7' e7' x8' x9 h => x0 = x0' ∧ a7 = a7' ∧ n7 = n7' ∧ c7 = c7' ∧ e7 = e7' ∧ x8 = x8' ∧ J g a3 n3 c3 e3 x9 h) (fun g => E3 fun x0' a3 n3 c3 e3 a7' n7' c7' e7' x8' x9 h => x0 = x0' ∧ a7 = a7' ∧ n7 = n7' ∧ c7 = c7' ∧ e7 = e7' ∧ x8 = x8' ∧ ∃ g', m g' < m g ∧ J g' a3 n3 c3 e3 x9 h) m ?_ ?_ g ⟨rfl, rfl, rfl, rfl, rfl, rfl, hj⟩
  · intro g env h hi
    obtain ⟨x0', a3, n3, c3, e3, a7', n7', c7', e7', x8', x9, rfl, rfl, rfl, rfl, rfl, rfl, rfl, hj⟩ := E3elim hi
    exact L3den Q _ x0 a3 n3 c3 e3 a7 n7 c7 e7 x8 x9 h (hr g a3 n3 c3 e3 x9 h hj (fun x0' a3 n3 c3 e3 a7' n7' c7' e7' x8' x9 h => x0 = x0' ∧ a7 = a7' ∧ n7 = n7' ∧ c7 = c7' ∧ e7 = e7' ∧ x8 = x8' ∧ ∃ g', m g' < m g ∧ J g' a3 n3 c3 e3 x9 h) fun g' a3 n3 c3 e3 x9 h hlt hj => ⟨rfl, rfl, rfl, rfl, rfl, rfl, g', hlt, hj⟩)
  · intro g env h hi
    obtain ⟨x0', a3, n3, c3, e3, a7', n7', c7', e7', x8', x9, rfl, rfl, rfl, rfl, rfl, rfl, rfl, g', hlt, hj⟩ := E3elim hi
    exact ⟨g', hlt, rfl, rfl, rfl, rfl, rfl, rfl, hj⟩
theorem J7i (Q : QT) (R3 : T3) (x9 x8 : Int) (a7 : Pt) (n7 c7 : Nat) (e7 : Bool) (x0 : List Nat) (a3 : Pt) (n3 c3 : Nat) (e3 : Bool) (h : AHeap) (ht :
 R3 x0 a3 n3 c3 e3 a7 n7 c7 e7 x8 (IntKind.wrap .i64 (x9 + 1)) h) : J7 Q R3 x9 x8 a7 n7 c7 e7 x0 a3 n3 c3 e3 h :=
  den_Den (kp := kp) (cast (by kernel_rfl) ht)
theorem A3x0i (Q : QT) (a3 : Pt) (n3 c3 : Nat) (e3 : Bool) (h : AHeap) (ht :
 Q (.slice a3 n3 c3 e3) h) : A3x0 Q a3 n3 c3 e3 h :=
  At.mk (cast (by kernel_rfl) ht)
theorem call (x0 : List Nat) (h : AHeap) (Q : QT) (ht :
 letH (h ++ [.cells t_string [] false]) fun H0 => letH (H0 ++ [.cells t_string [.str [88], .str [89], .str [90], .str [120], .str [121], .str [122]] false]) fun H1 => L3 Q x0 (some (h.length, 0)) 0 0 true (some (H0.length, 0)) 6 6 true (((6 : Nat) : Int)) 0 H1) : SCall pg n_impl_vars [.str x0] h Q :=
  SCall.of_body kp (c := cod fn) (fn := fn) Go.Proofs.Tryz.func111 (by kernel_rfl) (by kernel_rfl) (Nat.le_of_ble_eq_true (by kernel_rfl))
    (cast (by kernel_rfl) ht)
end F_impl_vars
end Go.Sim

/- Printed by wip/tool: what the functions' bodies do, in the words of 'den'. -/
set_option maxRecDepth 100000
set_option linter.unusedVariables false
namespace Go.Sim
open Go Go.RowKit
/-! Function loop.example/instancesearch/spec.l2Length -/
namespace F_spec_l2Length
noncomputable abbrev fn : Func := Go.Proofs.Tryz.f147
def kp : Keeps := [(3000003, [1, 3]), (1000003, [1, 3, 7, 8, 9]), (4000009, [3])]
noncomputable def C (p : List Nat) : Code := (cod fn).sub p
def KR (Q : QT) : KT := retA pg fn.results.toList Q
abbrev T3 := Nat → Nat → Int → Pt → Nat → Nat → Bool → Int → Int → AHeap → Prop
def E3 (R3 : T3) (env : Env) (h : AHeap) : Prop := eVal 1 env fun v env => xPtr (some v) fun a => xSome a fun i1 o1 => eVal 3 env fun v env => eInt .i64 v fun x3 => eVal 7 env fun v env => xSl (some v) fun a7 n7 c7 e7 => eVal 8 env fun v env => eInt .i64 v fun x8 => eVal 9 env fun v env => eInt .i64 v fun x9 => eNil env (R3 i1 o1 x3 a7 n7 c7 e7 x8 x9 h)
theorem E3elim {R3 : T3} {env : Env} {h : AHeap} (hi : E3 R3 env h) : ∃ i1, ∃ o1, ∃ x3, ∃ a7, ∃ n7, ∃ c7, ∃ e7, ∃ x8, ∃ x9, env = [(1, .ptr (some (i1, o1))), (3, .int .i64 x3), (7, .slice a7 n7 c7 e7), (8, .int .i64 x8), (9, .int .i64 x9)] ∧ R3 i1 o1 x3 a7 n7 c7 e7 x8 x9 h := by
  unfold E3 at hi
  have hi0 := hi
  clear hi
  obtain ⟨_, _, rfl, hi1⟩ := eVal_elim hi0
  obtain ⟨a, rfl, hi2⟩ := xPtr_elim hi1
  obtain ⟨i1, o1, rfl, hi3⟩ := xSome_elim hi2
  obtain ⟨_, _, rfl, hi4⟩ := eVal_elim hi3
  obtain ⟨x3, rfl, hi5⟩ := eInt_elim hi4
  obtain ⟨_, _, rfl, hi6⟩ := eVal_elim hi5
  obtain ⟨a7, n7, c7, e7, rfl, hi7⟩ := xSl_elim hi6
  obtain ⟨_, _, rfl, hi8⟩ := eVal_elim hi7
  obtain ⟨x8, rfl, hi9⟩ := eInt_elim hi8
  obtain ⟨_, _, rfl, hi10⟩ := eVal_elim hi9
  obtain ⟨x9, rfl, hi11⟩ := eInt_elim hi10
  obtain ⟨rfl, hi12⟩ := eNil_elim hi11
  have hi := hi12
  exact ⟨i1, o1, x3, a7, n7, c7, e7, x8, x9, rfl, hi⟩
def K0 (Q : QT) : KT := andThen (fun env' h' => (match kp.find 4000007 with | some ks => Den pg fn.ntmps (C [1, 1, 1]) (env'.keep ks) h' (KR Q) | none => den pg fn.ntmps kp (C [1, 1, 1]) env' h' (KR Q))) (KR Q)
def K1 (Q : QT) : KT := onExit 0 (K0 Q)
def K2 (Q : QT) : KT := left kp 3 (K1 Q)
def K3 (Q : QT) (R3 : T3) : KT := rnd ((kp.find 1000003).getD []) (E3 R3) (K2 Q)
def L3 (Q : QT) (i1 o1 : Nat) (x3 : Int) (a7 : Pt) (n7 c7 : Nat) (e7 : Bool) (x8 x9 : Int) (h : AHeap) : Prop := Loop (Den pg fn.ntmps (C [1, 1, 0, 1, 0, 0])) ((kp.find 1000003).getD []) (K2 Q) [(1, .ptr (some (i1, o1))), (3, .int .i64 x3), (7, .slice a7 n7 c7 e7), (8, .int .i64 x8), (9, .int .i64 x9)] h
def A3x0 (Q : QT) (i1 o1 : Nat) (x3 : Int) (h : AHeap) : Prop := At (K1 Q) (.exit 0) [(1, .ptr (some (i1, o1))), (3, .int .i64 x3)] h
def J9 (Q : QT) (x3 : Int) (h : AHeap) : Prop := Den pg fn.ntmps (C [1, 1, 1, 1]) [(3, .int .i64 x3)] h (KR Q)
def L3t (Q : QT) (R3 : T3) (i1 o1 : Nat) (x3 : Int) (a7 : Pt) (n7 c7 : Nat) (e7 : Bool) (x8 x9 : Int) (h : AHeap) : Prop :=
 bcase (decide ((x9 : Int) < x8)) ((0 ≤ (x9 : Int) ∧ (x9 : Int) < (n7 : Nat)) ∧ (xSome a7 fun I5 O6 => xRow (hRow h (.ptr (some (I5, O6 + (Int.toNat x9) * 2))) 2) fun K7 => xCons K7 fun C8 Z9 => xInt .u8 (some C8) fun X10 => xCons Z9 fun C11 Z12 => xSl (some C11) fun A13 N14 C15 E16 => xNil Z12 (letH (h ++ [.cells t_spec_l1Node [.int .u8 0, .slice none 0 0 true] false]) fun H17 => xHeap (hStore H17 (.ptr (some (h.length, 0))) [.int .u8 X10, .slice A13 N14 C15 E16]) fun H18 => xRow (hRow H18 (.ptr (some (h.length, 0))) 2) fun K19 => xCons K19 fun C20 Z21 => xInt .u8 (some C20) fun X22 => xCons Z21 fun C23 Z24 => xSl (some C23) fun A25 N26 C27 E28 => xNil Z24 (SCall pg n_spec_l2Length [.agg [.int .u8 X22, .slice A25 N26 C27 E28]] H18 fun V29 H30 =>
 xInt .i64 (some V29) fun X31 => R3 i1 o1 (IntKind.wrap .i64 ((IntKind.wrap .i64 (x3 + 1)) + X31)) a7 n7 c7 e7 x8 (IntKind.wrap .i64 (x9 + 1)) H30)))) (A3x0 Q i1 o1 x3 h)
theorem L3den (Q : QT) (R3 : T3) (i1 o1 : Nat) (x3 : Int) (a7 : Pt) (n7 c7 : Nat) (e7 : Bool) (x8 x9 : Int) (h : AHeap) (ht : L3t Q R3 i1 o1 x3 a7 n7 c7 e7 x8 x9 h) : Den pg fn.ntmps (C [1, 1, 0, 1, 0, 0]) [(1, .ptr (some (i1, o1))), (3, .int .i64 x3), (7, .slice a7 n7 c7 e7), (8, .int .i64 x8), (9, .int .i64 x9)] h (K3 Q R3) :=
  den_Den (kp := kp) (cast (by kernel_rfl) ht)
theorem L3ind (Q : QT) (i1 o1 : Nat) (a7 : Pt) (n7 c7 : Nat) (e7 : Bool) (x8 : Int) {G : Type} (J : G → Int → Int → AHeap → Prop) (m : G → Nat)
 (hr : ∀ (g : G) (x3 x9 : Int) (h : AHeap), J g x3 x9 h → ∀ (R3 : T3), (∀ g' (x3 x9 : Int) (h : AHeap), m g' < m g → J g' x3 x9 h → R3 i1 o1 x3 a7 n7 c7 e7 x8 x9 h) → L3t Q R3 i1 o1 x3 a7 n7 c7 e7 x8 x9 h)
 (g : G) (x3 x9 : Int) (h : AHeap) (hj : J g x3 x9 h) : L3 Q i1 o1 x3 a7 n7 c7 e7 x8 x9 h := by
  refine Loop.inv2 (fun g => E3 fun i1' o1' x3 a7' n7' c7' e7' x8' x9 h => i1 = i1' ∧ o1 = o1' ∧ a7 = a7' ∧ n7 = n7' ∧ c7 = c7' ∧ e7 = e7' ∧ x8 = x8' ∧ J g x3 x9 h) (fun g => E3 fun i1' o1' x3 a7' n7' c7' e7' x8' x9 h => i1 = i1' ∧ o1 = o1' ∧ a7 = a7' ∧ n7 = n7' ∧ c7 = c7' ∧ e7 = e7' ∧ x8 = x8' ∧ ∃ g', m g' < m g ∧ J g' x3 x9 h) m ?_ ?_ g ⟨rfl, rfl, rfl, rfl, rfl, rfl, rfl, hj⟩
  · intro g env h hi
    obtain ⟨i1', o1', x3, a7', n7', c7', e7', x8', x9, rfl, rfl, rfl, rfl, rfl, rfl, rfl, rfl, hj⟩ := E3elim hi
    exact L3den Q _ i1 o1 x3 a7 n7 c7 e7 x8 x9 h (hr g x3 x9 h hj (fun i1' o1' x3 a7' n7' c7' e7' x8' x9 h => i1 = i1' ∧ o1 = o1' ∧ a7 = a7' ∧ n7 = n7' ∧ c7 = c7' ∧ e7 = e7' ∧ x8 = x8' ∧ ∃ g', m g' < m g ∧ J g' x3 x9 h) fun g' x3 x9 h hlt hj => ⟨rfl, rfl, rfl, rfl, rfl, rfl, rfl, g', hlt, hj⟩)
  · intro g env h hi
    obtain ⟨i1', o1', x3, a7', n7', c7', e7', x8', x9, rfl, rfl, rfl, rfl, rfl, rfl, rfl, rfl, g', hlt, hj⟩ := E3elim hi
    exact ⟨g', hlt, rfl, rfl, rfl, rfl, rfl, rfl, rfl, hj⟩
theorem A3x0i (Q : QT) (i1 o1 : Nat) (x3 : Int) (h : AHeap) (ht :
 xSl (hCell h (.ptr (some (i1, o1 + 1)))) fun A32 N33 C34 E35 => bcase (decide (((((N33 : Nat) : Int)) : Int) > 0)) (J9 Q (IntKind.wrap .i64 (x3 + 1)) h) (J9 Q x3 h)) : A3x0 Q i1 o1 x3 h :=
  At.mk (cast (by kernel_rfl) ht)
theorem J9i (Q : QT) (x3 : Int) (h : AHeap) (ht :
 Q (.int .i64 x3) h) : J9 Q x3 h :=
  den_Den (kp := kp) (cast (by kernel_rfl) ht)
theorem call (x0x0 : Int) (a0x1 : Pt) (n0x1 c0x1 : Nat) (e0x1 : Bool) (h : AHeap) (Q : QT) (ht :
 letH (h ++ [.cells t_spec_l1Node [.int .u8 x0x0, .slice a0x1 n0x1 c0x1 e0x1] false]) fun H0 => xSl (hCell H0 (.ptr (some (h.length, 0 + 1)))) fun A1 N2 C3 E4 => L3 Q h.length 0 1 A1 N2 C3 E4 (((N2 : Nat) : Int)) 0 H0) : SCall pg n_spec_l2Length [.agg [.int .u8 x0x0, .slice a0x1 n0x1 c0x1 e0x1]] h Q :=
  SCall.of_body kp (c := cod fn) (fn := fn) Go.Proofs.Tryz.func147 (by kernel_rfl) (by kernel_rfl) (Nat.le_of_ble_eq_true (by kernel_rfl))
    (cast (by kernel_rfl) ht)
end F_spec_l2Length
/-! Function loop.example/instancesearch/spec.l2Told -/
namespace F_spec_l2Told
noncomputable abbrev fn : Func := Go.Proofs.Tryz.f143
def kp : Keeps := [(3000003, [4, 2, 3]), (1000003, [4, 8, 10]), (2000004, [6, 5, 10, 8, 4]), (4000006, [6, 4, 5, 10, 8]), (2000008, [10, 8, 4]), (4000009, [10, 8, 4])]
noncomputable def C (p : List Nat) : Code := (cod fn).sub p
def KR (Q : QT) : KT := retA pg fn.results.toList Q
abbrev T3 := Pt → Nat → Nat → Bool → Pt → Int → AHeap → Prop
def E3 (R3 : T3) (env : Env) (h : AHeap) : Prop := eVal 4 env fun v env => xSl (some v) fun a4 n4 c4 e4 => eVal 8 env fun v env => xPtr (some v) fun a8 => eVal 10 env fun v env => eInt .i64 v fun x10 => eNil env (R3 a4 n4 c4 e4 a8 x10 h)
theorem E3elim {R3 : T3} {env : Env} {h : AHeap} (hi : E3 R3 env h) : ∃ a4, ∃ n4, ∃ c4, ∃ e4, ∃ a8, ∃ x10, env = [(4, .slice a4 n4 c4 e4), (8, .ptr a8), (10, .int .i64 x10)] ∧ R3 a4 n4 c4 e4 a8 x10 h := by
  unfold E3 at hi
  have hi0 := hi
  clear hi
  obtain ⟨_, _, rfl, hi1⟩ := eVal_elim hi0
  obtain ⟨a4, n4, c4, e4, rfl, hi2⟩ := xSl_elim hi1
  obtain ⟨_, _, rfl, hi3⟩ := eVal_elim hi2
  obtain ⟨a8, rfl, hi4⟩ := xPtr_elim hi3
  obtain ⟨_, _, rfl, hi5⟩ := eVal_elim hi4
  obtain ⟨x10, rfl, hi6⟩ := eInt_elim hi5
  obtain ⟨rfl, hi7⟩ := eNil_elim hi6
  have hi := hi7
  exact ⟨a4, n4, c4, e4, a8, x10, rfl, hi⟩
def K0 (Q : QT) : KT := andThen (fun env' h' => (match kp.find 4000010 with | some ks => Den pg fn.ntmps (C [1, 1, 1]) (env'.keep ks) h' (KR Q) | none => den pg fn.ntmps kp (C [1, 1, 1]) env' h' (KR Q))) (KR Q)
def K1 (Q : QT) : KT := onExit 0 (K0 Q)
def K2 (Q : QT) : KT := left kp 3 (K1 Q)
def K3 (Q : QT) (R3 : T3) : KT := rnd ((kp.find 1000003).getD []) (E3 R3) (K2 Q)
def K4 (Q : QT) (R3 : T3) : KT := andThen (fun env' h' => (match kp.find 4000009 with | some ks => Den pg fn.ntmps (C [1, 1, 0, 1, 0, 0, 1, 1, 1]) (env'.keep ks) h' (K3 Q R3) | none => den pg fn.ntmps kp (C [1, 1, 0, 1, 0, 0, 1, 1, 1]) env' h' (K3 Q R3))) (K3 Q R3)
def K5 (Q : QT) (R3 : T3) : KT := onExit 1 (K4 Q R3)
def L3 (Q : QT) (a4 : Pt) (n4 c4 : Nat) (e4 : Bool) (a8 : Pt) (x10 : Int) (h : AHeap) : Prop := Loop (Den pg fn.ntmps (C [1, 1, 0, 1, 0, 0])) ((kp.find 1000003).getD []) (K2 Q) [(4, .slice a4 n4 c4 e4), (8, .ptr a8), (10, .int .i64 x10)] h
def J9 (Q : QT) (R3 : T3) (x10 : Int) (a8 a4 : Pt) (n4 c4 : Nat) (e4 : Bool) (h : AHeap) : Prop := Den pg fn.ntmps (C [1, 1, 0, 1, 0, 0, 1, 1, 1]) [(10, .int .i64 x10), (8, .ptr a8), (4, .slice a4 n4 c4 e4)] h (K3 Q R3)
def J6 (Q : QT) (R3 : T3) (i6 o6 : Nat) (a4 : Pt) (n4 c4 : Nat) (e4 : Bool) (x5 x10 : Int) (a8 : Pt) (h : AHeap) : Prop := Den pg fn.ntmps (C [1, 1, 0, 1, 0, 0, 1, 1, 0, 0, 1, 1]) [(6, .ptr (some (i6, o6))), (4, .slice a4 n4 c4 e4), (5, .int .i64 x5), (10, .int .i64 x10), (8, .ptr a8)] h (K5 Q R3)
def A3x0 (Q : QT) (a4 : Pt) (n4 c4 : Nat) (e4 : Bool) (h : AHeap) : Prop := At (K1 Q) (.exit 0) [(4, .slice a4 n4 c4 e4), (2, .undef), (3, .undef)] h
def L3t (Q : QT) (R3 : T3) (a4 : Pt) (n4 c4 : Nat) (e4 : Bool) (a8 : Pt) (x10 : Int) (h : AHeap) : Prop :=
 bcase (decide ((x10 : Int) < 12)) (xSome a8 fun I3 O4 => (0 ≤ (x10 : Int) ∧ (x10 : Int) < (12 : Nat)) ∧ (xRow (hRow h (.ptr (some (I3, O4 + (Int.toNat x10) * 2))) 2) fun K5 => xCons K5 fun C6 Z7 => xInt .u8 (some C6) fun X8 => xCons Z7 fun C9 Z10 => xSl (some C9) fun A11 N12 C13 E14 => xNil Z10 (letH (h ++ [.cells t_spec_l1Node [.int .u8 0, .slice none 0 0 true] false]) fun H15 => (hRow H15 (.ptr (some (I3, O4 + (Int.toNat x10) * 2))) 2 = hRow h (.ptr (some (I3, O4 + (Int.toNat x10) * 2))) 2) ∧ xHeap (hStore H15 (.ptr (some (h.length, 0))) [.int .u8 X8, .slice A11 N12 C13 E14]) fun H16 => xInt .u8 (hCell H16 (.ptr (some (h.length, 0 + 0)))) fun X17 => bcase ((X17 : Int) == 0) (J9 Q R3 x10 a8 a4 n4 c4 e4 H16) (bcase (decide ((x10 : Int) ≥ 6)) (J9 Q R3 x10 a8 a4 n4 c4 e4 H16) (J6 Q R3 h.length 0 a4 n4 c4 e4 x10 x10 a8 H16))))) (A3x0 Q a4 n4 c4 e4 h)
theorem L3den (Q : QT) (R3 : T3) (a4 : Pt) (n4 c4 : Nat) (e4 : Bool) (a8 : Pt) (x10 : Int) (h : AHeap) (ht : L3t Q R3 a4 n4 c4 e4 a8 x10 h) : Den pg fn.ntmps (C [1, 1, 0, 1, 0, 0]) [(4, .slice a4 n4 c4 e4), (8, .ptr a8), (10, .int .i64 x10)] h (K3 Q R3) :=
  den_Den (kp := kp) (cast (by kernel_rfl) ht)
theorem L3ind (Q : QT) (a8 : Pt) {G : Type} (J : G → Pt → Nat → Nat → Bool → Int → AHeap → Prop) (m : G → Nat)
 (hr : ∀ (g : G) (a4 : Pt) (n4 c4 : Nat) (e4 : Bool) (x10 : Int) (h : AHeap), J g a4 n4 c4 e4 x10 h → ∀ (R3 : T3), (∀ g' (a4 : Pt) (n4 c4 : Nat) (e4 : Bool) (x10 : Int) (h : AHeap), m g' < m g → J g' a4 n4 c4 e4 x10 h → R3 a4 n4 c4 e4 a8 x10 h) → L3t Q R3 a4 n4 c4 e4 a8 x10 h)
 (g : G) (a4 : Pt) (n4 c4 : Nat) (e4 : Bool) (x10 : Int) (h : AHeap) (hj : J g a4 n4 c4 e4 x10 h) : L3 Q a4 n4 c4 e4 a8 x10 h := by
  refine Loop.inv2 (fun g => E3 fun a4 n4 c4 e4 a8' x10 h => a8 = a8' ∧ J g a4 n4 c4 e4 x10 h) (fun g => E3 fun a4 n4 c4 e4 a8' x10 h => a8 = a8' ∧ ∃ g', m g' < m g ∧ J g' a4 n4 c4 e4 x10 h) m ?_ ?_ g ⟨rfl, hj⟩
  · intro g env h hi
    obtain ⟨a4, n4, c4, e4, a8', x10, rfl, rfl, hj⟩ := E3elim hi
    exact L3den Q _ a4 n4 c4 e4 a8 x10 h (hr g a4 n4 c4 e4 x10 h hj (fun a4 n4 c4 e4 a8' x10 h => a8 = a8' ∧ ∃ g', m g' < m g ∧ J g' a4 n4 c4 e4 x10 h) fun g' a4 n4 c4 e4 x10 h hlt hj => ⟨rfl, g', hlt, hj⟩)
  · intro g env h hi
    obtain ⟨a4, n4, c4, e4, a8', x10, rfl, rfl, g', hlt, hj⟩ := E3elim hi
    exact ⟨g', hlt, rfl, hj⟩
theorem J9i (Q : QT) (R3 : T3) (x10 : Int) (a8 a4 : Pt) (n4 c4 : Nat) (e4 : Bool) (h : AHeap) (ht :
 R3 a4 n4 c4 e4 a8 (IntKind.wrap .i64 (x10 + 1)) h) : J9 Q R3 x10 a8 a4 n4 c4 e4 h :=
  den_Den (kp := kp) (cast (by kernel_rfl) ht)
theorem J6i (Q : QT) (R3 : T3) (i6 o6 : Nat) (a4 : Pt) (n4 c4 : Nat) (e4 : Bool) (x5 x10 : Int) (a8 : Pt) (h : AHeap) (ht :
 xRow (hRow h (.ptr (some (i6, o6))) 2) fun K18 => xCons K18 fun C19 Z20 => xInt .u8 (some C19) fun X21 => xCons Z20 fun C22 Z23 => xSl (some C22) fun A24 N25 C26 E27 => xNil Z23 (SCall pg n_spec_l2Length [.agg [.int .u8 X21, .slice A24 N25 C26 E27]] h fun V28 H29 =>
 xInt .i64 (some V28) fun X30 => bcase (decide ((X30 : Int) > 60)) (letH (H29 ++ [.cells t_impl_Binding [] false]) fun H31 => Q (.tup [.slice (some (H29.length, 0)) 0 0 true, .bool false]) H31) ((0 ≤ (x5 : Int) ∧ (x5 : Int) ≤ IntKind.wrap .i64 (x5 + 1) ∧ (IntKind.wrap .i64 (x5 + 1) : Int) ≤ (List.length ([88, 89, 90, 120, 121, 122, 49, 50, 51, 52, 53, 54]) : Nat)) ∧ (xRow (hRow H29 (.ptr (some (i6, o6))) 2) fun K32 => xCons K32 fun C33 Z34 => xInt .u8 (some C33) fun X35 => xCons Z34 fun C36 Z37 => xSl (some C36) fun A38 N39 C40 E41 => xNil Z37 (SCall pg n_spec_l1Text [.agg [.int .u8 X35, .slice A38 N39 C40 E41]] H29 fun V42 H43 =>
 xStr (some V42) fun S44 => letH (H43 ++ [.cells t_impl_Binding [.str (sub ([88, 89, 90, 120, 121, 122, 49, 50, 51, 52, 53, 54]) x5 (IntKind.wrap .i64 (x5 + 1))), .str S44] false]) fun H45 => appendA pg t_L_impl_Binding H45 (.slice a4 n4 c4 e4) (.slice (some (H43.length, 0)) 1 1 true) fun V46 H47 => xSl (some V46) fun A48 N49 C50 E51 => J9 Q R3 x10 a8 A48 N49 C50 E51 H47))))) : J6 Q R3 i6 o6 a4 n4 c4 e4 x5 x10 a8 h :=
  den_Den (kp := kp) (cast (by kernel_rfl) ht)
theorem A3x0i (Q : QT) (a4 : Pt) (n4 c4 : Nat) (e4 : Bool) (h : AHeap) (ht :
 Q (.tup [.slice a4 n4 c4 e4, .bool true]) h) : A3x0 Q a4 n4 c4 e4 h :=
  At.mk (cast (by kernel_rfl) ht)
theorem call (a0 : Pt) (h : AHeap) (Q : QT) (ht :
 letH (h ++ [.cells t_impl_Binding [] false]) fun H0 => xSome a0 fun I1 O2 => L3 Q (some (h.length, 0)) 0 0 true a0 0 H0) : SCall pg n_spec_l2Told [.ptr a0] h Q :=
  SCall.of_body kp (c := cod fn) (fn := fn) Go.Proofs.Tryz.func143 (by kernel_rfl) (by kernel_rfl) (Nat.le_of_ble_eq_true (by kernel_rfl))
    (cast (by kernel_rfl) ht)
end F_spec_l2Told
/-! Function loop.example/instancesearch/spec.MatchType -/
namespace F_spec_MatchType
noncomputable abbrev fn : Func := Go.Proofs.Tryz.f119
def kp : Keeps := [(4000006, [10])]
noncomputable def C (p : List Nat) : Code := (cod fn).sub p
def KR (Q : QT) : KT := retA pg fn.results.toList Q
def J6 (Q : QT) (i10 o10 : Nat) (h : AHeap) : Prop := Den pg fn.ntmps (C [1, 1, 1, 1, 1]) [(10, .ptr (some (i10, o10)))] h (KR Q)
theorem J6i (Q : QT) (i10 o10 : Nat) (h : AHeap) (ht :
 SCall pg n_spec_l2Told [.ptr (some (i10, o10))] h fun V67 H68 =>
 xTup V67 fun K69 => xCons K69 fun C70 Z71 => xSl (some C70) fun A72 N73 C74 E75 => xCons Z71 fun C76 Z77 => xBool (some C76) fun B78 => xNil Z77 (Q (.tup [.slice A72 N73 C74 E75, .bool B78]) H68)) : J6 Q i10 o10 h :=
  den_Den (kp := kp) (cast (by kernel_rfl) ht)
theorem call (x0 x1 : List Nat) (h : AHeap) (Q : QT) (ht :
 SCall pg n_spec_l1Read [.str x0] h fun V0 H1 =>
 xTup V0 fun K2 => xCons K2 fun C3 Z4 => xAgg C3 fun K5 => xCons K5 fun C6 Z7 => xInt .u8 (some C6) fun X8 => xCons Z7 fun C9 Z10 => xSl (some C9) fun A11 N12 C13 E14 => xNil Z10 (xCons Z4 fun C15 Z16 => xBool (some C15) fun B17 => xNil Z16 (letH (H1 ++ [.cells t_spec_l1Node [.int .u8 0, .slice none 0 0 true] false]) fun H18 => xHeap (hStore H18 (.ptr (some (H1.length, 0))) [.int .u8 X8, .slice A11 N12 C13 E14]) fun H19 => SCall pg n_spec_l1Read [.str x1] H19 fun V20 H21 =>
 xTup V20 fun K22 => xCons K22 fun C23 Z24 => xAgg C23 fun K25 => xCons K25 fun C26 Z27 => xInt .u8 (some C26) fun X28 => xCons Z27 fun C29 Z30 => xSl (some C29) fun A31 N32 C33 E34 => xNil Z30 (xCons Z24 fun C35 Z36 => xBool (some C35) fun B37 => xNil Z36 (letH (H21 ++ [.cells t_spec_l1Node [.int .u8 0, .slice none 0 0 true] false]) fun H38 => xHeap (hStore H38 (.ptr (some (H21.length, 0))) [.int .u8 X28, .slice A31 N32 C33 E34]) fun H39 => letH (H39 ++ [.cells t_spec_l2Map [.int .u8 0, .slice none 0 0 true, .int .u8 0, .slice none 0 0 true, .int .u8 0, .slice none 0 0 true, .int .u8 0, .slice none 0 0 true, .int .u8 0, .slice none 0 0 true, .int .u8 0, .slice none 0 0 true, .int .u8 0, .slice none 0 0 true, .int .u8 0, .slice none 0 0 true, .int .u8 0, .slice none 0 0 true, .int .u8 0, .slice none 0 0 true, .int .u8 0, .slice none 0 0 true, .int .u8 0, .slice none 0 0 true] false]) fun H40 => bcase (!B17) (letH (H40 ++ [.cells t_impl_Binding [] false]) fun H41 => Q (.tup [.slice (some (H40.length, 0)) 0 0 true, .bool false]) H41) (bcase (!B37) (letH (H40 ++ [.cells t_impl_Binding [] false]) fun H42 => Q (.tup [.slice (some (H40.length, 0)) 0 0 true, .bool false]) H42) (xRow (hRow H40 (.ptr (some (H1.length, 0))) 2) fun K43 => xCons K43 fun C44 Z45 => xInt .u8 (some C44) fun X46 => xCons Z45 fun C47 Z48 => xSl (some C47) fun A49 N50 C51 E52 => xNil Z48 (xRow (hRow H40 (.ptr (some (H21.length, 0))) 2) fun K53 => xCons K53 fun C54 Z55 => xInt .u8 (some C54) fun X56 => xCons Z55 fun C57 Z58 => xSl (some C57) fun A59 N60 C61 E62 => xNil Z58 (SCall pg n_spec_l2Match [.ptr (some (H39.length, 0)), .agg [.int .u8 X46, .slice A49 N50 C51 E52], .agg [.int .u8 X56, .slice A59 N60 C61 E62]] H40 fun V63 H64 =>
 xBool (some V63) fun B65 => bcase (!B65) (letH (H64 ++ [.cells t_impl_Binding [] false]) fun H66 => Q (.tup [.slice (some (H64.length, 0)) 0 0 true, .bool false]) H66) (J6 Q H39.length 0 H64)))))))))) : SCall pg n_spec_MatchType [.str x0, .str x1] h Q :=
  SCall.of_body kp (c := cod fn) (fn := fn) Go.Proofs.Tryz.func119 (by kernel_rfl) (by kernel_rfl) (Nat.le_of_ble_eq_true (by kernel_rfl))
    (cast (by kernel_rfl) ht)
end F_spec_MatchType
/-! Function loop.example/instancesearch/spec.IsInstance -/
namespace F_spec_IsInstance
noncomputable abbrev fn : Func := Go.Proofs.Tryz.f118
def kp : Keeps := []
noncomputable def C (p : List Nat) : Code := (cod fn).sub p
def KR (Q : QT) : KT := retA pg fn.results.toList Q
theorem call (x0 x1 : List Nat) (h : AHeap) (Q : QT) (ht :
 SCall pg n_spec_MatchType [.str x0, .str x1] h fun V0 H1 =>
 xTup V0 fun K2 => xCons K2 fun C3 Z4 => xSl (some C3) fun A5 N6 C7 E8 => xCons Z4 fun C9 Z10 => xBool (some C9) fun B11 => xNil Z10 (Q (.bool B11) H1)) : SCall pg n_spec_IsInstance [.str x0, .str x1] h Q :=
  SCall.of_body kp (c := cod fn) (fn := fn) Go.Proofs.Tryz.func118 (by kernel_rfl) (by kernel_rfl) (Nat.le_of_ble_eq_true (by kernel_rfl))
    (cast (by kernel_rfl) ht)
end F_spec_IsInstance
end Go.Sim

/- Printed by wip/tool: what the functions' bodies do, in the words of 'den'. -/
set_option maxRecDepth 100000
set_option linter.unusedVariables false
namespace Go.Sim
open Go Go.RowKit
/-! Function loop.example/instancesearch/spec.l2Index -/
namespace F_spec_l2Index
noncomputable abbrev fn : Func := Go.Proofs.Tryz.f145
def kp : Keeps := []
noncomputable def C (p : List Nat) : Code := (cod fn).sub p
def KR (Q : QT) : KT := retA pg fn.results.toList Q
theorem call (x0 : Int) (h : AHeap) (Q : QT) (ht :
 SCall pg n_spec_l13Find [.str ([88, 89, 90, 120, 121, 122, 49, 50, 51, 52, 53, 54]), .int .u8 x0] h fun V0 H1 =>
 xInt .i64 (some V0) fun X2 => Q (.int .i64 X2) H1) : SCall pg n_spec_l2Index [.int .u8 x0] h Q :=
  SCall.of_body kp (c := cod fn) (fn := fn) Go.Proofs.Tryz.func145 (by kernel_rfl) (by kernel_rfl) (Nat.le_of_ble_eq_true (by kernel_rfl))
    (cast (by kernel_rfl) ht)
end F_spec_l2Index
/-! Function loop.example/instancesearch/spec.l2Match -/
namespace F_spec_l2Match
noncomputable abbrev fn : Func := Go.Proofs.Tryz.f142
def kp : Keeps := [(2000004, []), (2000006, [6]), (3000010, [6]), (1000010, [0, 4, 5, 42, 43]), (2000012, [58, 43, 42, 0, 4, 5])]
noncomputable def C (p : List Nat) : Code := (cod fn).sub p
def KR (Q : QT) : KT := retA pg fn.results.toList Q
abbrev T10 := Pt → Nat → Nat → Nat → Nat → Int → Int → AHeap → Prop
def E10 (R10 : T10) (env : Env) (h : AHeap) : Prop := eVal 0 env fun v env => xPtr (some v) fun a0 => eVal 4 env fun v env => xPtr (some v) fun a => xSome a fun i4 o4 => eVal 5 env fun v env => xPtr (some v) fun a => xSome a fun i5 o5 => eVal 42 env fun v env => eInt .i64 v fun x42 => eVal 43 env fun v env => eInt .i64 v fun x43 => eNil env (R10 a0 i4 o4 i5 o5 x42 x43 h)
theorem E10elim {R10 : T10} {env : Env} {h : AHeap} (hi : E10 R10 env h) : ∃ a0, ∃ i4, ∃ o4, ∃ i5, ∃ o5, ∃ x42, ∃ x43, env = [(0, .ptr a0), (4, .ptr (some (i4, o4))), (5, .ptr (some (i5, o5))), (42, .int .i64 x42), (43, .int .i64 x43)] ∧ R10 a0 i4 o4 i5 o5 x42 x43 h := by
  unfold E10 at hi
  have hi0 := hi
  clear hi
  obtain ⟨_, _, rfl, hi1⟩ := eVal_elim hi0
  obtain ⟨a0, rfl, hi2⟩ := xPtr_elim hi1
  obtain ⟨_, _, rfl, hi3⟩ := eVal_elim hi2
  obtain ⟨a, rfl, hi4⟩ := xPtr_elim hi3
  obtain ⟨i4, o4, rfl, hi5⟩ := xSome_elim hi4
  obtain ⟨_, _, rfl, hi6⟩ := eVal_elim hi5
  obtain ⟨a, rfl, hi7⟩ := xPtr_elim hi6
  obtain ⟨i5, o5, rfl, hi8⟩ := xSome_elim hi7
  obtain ⟨_, _, rfl, hi9⟩ := eVal_elim hi8
  obtain ⟨x42, rfl, hi10⟩ := eInt_elim hi9
  obtain ⟨_, _, rfl, hi11⟩ := eVal_elim hi10
  obtain ⟨x43, rfl, hi12⟩ := eInt_elim hi11
  obtain ⟨rfl, hi13⟩ := eNil_elim hi12
  have hi := hi13
  exact ⟨a0, i4, o4, i5, o5, x42, x43, rfl, hi⟩
def K0 (Q : QT) : KT := andThen (fun env' h' => (match kp.find 4000015 with | some ks => Den pg fn.ntmps (C [1, 1, 1, 1]) (env'.keep ks) h' (KR Q) | none => den pg fn.ntmps kp (C [1, 1, 1, 1]) env' h' (KR Q))) (KR Q)
def K1 (Q : QT) : KT := onExit 0 (K0 Q)
def K2 (Q : QT) : KT := left kp 10 (K1 Q)
def K3 (Q : QT) (R10 : T10) : KT := rnd ((kp.find 1000010).getD []) (E10 R10) (K2 Q)
def L10 (Q : QT) (a0 : Pt) (i4 o4 i5 o5 : Nat) (x42 x43 : Int) (h : AHeap) : Prop := Loop (Den pg fn.ntmps (C [1, 1, 1, 0, 1, 0, 0])) ((kp.find 1000010).getD []) (K2 Q) [(0, .ptr a0), (4, .ptr (some (i4, o4))), (5, .ptr (some (i5, o5))), (42, .int .i64 x42), (43, .int .i64 x43)] h
def A10x0 (Q : QT) (h : AHeap) : Prop := At (K1 Q) (.exit 0) [(6, .undef)] h
def L10t (Q : QT) (R10 : T10) (a0 : Pt) (i4 o4 i5 o5 : Nat) (x42 x43 : Int) (h : AHeap) : Prop :=
 bcase (decide ((x43 : Int) < x42)) (xSl (hCell h (.ptr (some (i4, o4 + 1)))) fun A56 N57 C58 E59 => (0 ≤ (x43 : Int) ∧ (x43 : Int) < (N57 : Nat)) ∧ (xSome A56 fun I60 O61 => xRow (hRow h (.ptr (some (I60, O61 + (Int.toNat x43) * 2))) 2) fun K62 => xCons K62 fun C63 Z64 => xInt .u8 (some C63) fun X65 => xCons Z64 fun C66 Z67 => xSl (some C66) fun A68 N69 C70 E71 => xNil Z67 (xSl (hCell h (.ptr (some (i5, o5 + 1)))) fun A72 N73 C74 E75 => (hRow h (.ptr (some (I60, O61 + (Int.toNat x43) * 2))) 2 = hRow h (.ptr (some (I60, O61 + (Int.toNat x43) * 2))) 2) ∧ (hCell h (.ptr (some (i4, o4 + 1))) = hCell h (.ptr (some (i4, o4 + 1)))) ∧ (0 ≤ (x43 : Int) ∧ (x43 : Int) < (N73 : Nat)) ∧ (xSome A72 fun I76 O77 => xRow (hRow h (.ptr (some (I76, O77 + (Int.toNat x43) * 2))) 2) fun K78 => xCons K78 fun C79 Z80 => xInt .u8 (some C79) fun X81 => xCons Z80 fun C82 Z83 => xSl (some C82) fun A84 N85 C86 E87 => xNil Z83 ((hRow h (.ptr (some (I60, O61 + (Int.toNat x43) * 2))) 2 = hRow h (.ptr (some (I60, O61 + (Int.toNat x43) * 2))) 2) ∧ (hCell h (.ptr (some (i4, o4 + 1))) = hCell h (.ptr (some (i4, o4 + 1)))) ∧ SCall pg n_spec_l2Match [.ptr a0, .agg [.int .u8 X65, .slice A68 N69 C70 E71], .agg [.int .u8 X81, .slice A84 N85 C86 E87]] h fun V88 H89 =>
 xBool (some V88) fun B90 => (hCell H89 (.ptr (some (i4, o4 + 1))) = hCell h (.ptr (some (i4, o4 + 1)))) ∧ bcase (!B90) (Q (.bool false) H89) (R10 a0 i4 o4 i5 o5 x42 (IntKind.wrap .i64 (x43 + 1)) H89)))))) (A10x0 Q h)
theorem L10den (Q : QT) (R10 : T10) (a0 : Pt) (i4 o4 i5 o5 : Nat) (x42 x43 : Int) (h : AHeap) (ht : L10t Q R10 a0 i4 o4 i5 o5 x42 x43 h) : Den pg fn.ntmps (C [1, 1, 1, 0, 1, 0, 0]) [(0, .ptr a0), (4, .ptr (some (i4, o4))), (5, .ptr (some (i5, o5))), (42, .int .i64 x42), (43, .int .i64 x43)] h (K3 Q R10) :=
  den_Den (kp := kp) (cast (by kernel_rfl) ht)
theorem L10ind (Q : QT) (a0 : Pt) (i4 o4 i5 o5 : Nat) (x42 : Int) {G : Type} (J : G → Int → AHeap → Prop) (m : G → Nat)
 (hr : ∀ (g : G) (x43 : Int) (h : AHeap), J g x43 h → ∀ (R10 : T10), (∀ g' (x43 : Int) (h : AHeap), m g' < m g → J g' x43 h → R10 a0 i4 o4 i5 o5 x42 x43 h) → L10t Q R10 a0 i4 o4 i5 o5 x42 x43 h)
 (g : G) (x43 : Int) (h : AHeap) (hj : J g x43 h) : L10 Q a0 i4 o4 i5 o5 x42 x43 h := by
  refine Loop.inv2 (fun g => E10 fun a0' i4' o4' i5' o5' x42' x43 h => a0 = a0' ∧ i4 = i4' ∧ o4 = o4' ∧ i5 = i5' ∧ o5 = o5' ∧ x42 = x42' ∧ J g x43 h) (fun g => E10 fun a0' i4' o4' i5' o5' x42' x43 h => a0 = a0' ∧ i4 = i4' ∧ o4 = o4' ∧ i5 = i5' ∧ o5 = o5' ∧ x42 = x42' ∧ ∃ g', m g' < m g ∧ J g' x43 h) m ?_ ?_ g ⟨rfl, rfl, rfl, rfl, rfl, rfl, hj⟩
  · intro g env h hi
    obtain ⟨a0', i4', o4', i5', o5', x42', x43, rfl, rfl, rfl, rfl, rfl, rfl, rfl, hj⟩ := E10elim hi
    exact L10den Q _ a0 i4 o4 i5 o5 x42 x43 h (hr g x43 h hj (fun a0' i4' o4' i5' o5' x42' x43 h => a0 = a0' ∧ i4 = i4' ∧ o4 = o4' ∧ i5 = i5' ∧ o5 = o5' ∧ x42 = x42' ∧ ∃ g', m g' < m g ∧ J g' x43 h) fun g' x43 h hlt hj => ⟨rfl, rfl, rfl, rfl, rfl, rfl, g', hlt, hj⟩)
  · intro g env h hi
    obtain ⟨a0', i4', o4', i5', o5', x42', x43, rfl, rfl, rfl, rfl, rfl, rfl, rfl, g', hlt, hj⟩ := E10elim hi
    exact ⟨g', hlt, rfl, rfl, rfl, rfl, rfl, rfl, hj⟩
theorem A10x0i (Q : QT) (h : AHeap) (ht :
 Q (.bool true) h) : A10x0 Q h :=
  At.mk (cast (by kernel_rfl) ht)
theorem call (a0 : Pt) (x1x0 : Int) (a1x1 : Pt) (n1x1 c1x1 : Nat) (e1x1 : Bool) (x2x0 : Int) (a2x1 : Pt) (n2x1 c2x1 : Nat) (e2x1 : Bool) (h : AHeap) (Q : QT) (ht :
 letH (h ++ [.cells t_spec_l1Node [.int .u8 x1x0, .slice a1x1 n1x1 c1x1 e1x1] false]) fun H0 => letH (H0 ++ [.cells t_spec_l1Node [.int .u8 x2x0, .slice a2x1 n2x1 c2x1 e2x1] false]) fun H1 => xInt .u8 (hCell H1 (.ptr (some (h.length, 0 + 0)))) fun X2 => SCall pg n_spec_l2Index [.int .u8 X2] H1 fun V3 H4 =>
 xInt .i64 (some V3) fun X5 => bcase (decide ((X5 : Int) ≥ 0)) (xSome a0 fun I6 O7 => (0 ≤ (X5 : Int) ∧ (X5 : Int) < (12 : Nat)) ∧ (xInt .u8 (hCell H4 (.ptr (some (I6, O7 + (Int.toNat X5) * 2 + 0)))) fun X8 => bcase ((X8 : Int) == 0) (xSome a0 fun I9 O10 => xRow (hRow H4 (.ptr (some (H0.length, 0))) 2) fun K11 => xCons K11 fun C12 Z13 => xInt .u8 (some C12) fun X14 => xCons Z13 fun C15 Z16 => xSl (some C15) fun A17 N18 C19 E20 => xNil Z16 ((0 ≤ (X5 : Int) ∧ (X5 : Int) < (12 : Nat)) ∧ (xHeap (hStore H4 (.ptr (some (I9, O10 + (Int.toNat X5) * 2))) [.int .u8 X14, .slice A17 N18 C19 E20]) fun H21 => Q (.bool true) H21))) (xSome a0 fun I22 O23 => (0 ≤ (X5 : Int) ∧ (X5 : Int) < (12 : Nat)) ∧ (xRow (hRow H4 (.ptr (some (I22, O23 + (Int.toNat X5) * 2))) 2) fun K24 => xCons K24 fun C25 Z26 => xInt .u8 (some C25) fun X27 => xCons Z26 fun C28 Z29 => xSl (some C28) fun A30 N31 C32 E33 => xNil Z29 (xRow (hRow H4 (.ptr (some (H0.length, 0))) 2) fun K34 => xCons K34 fun C35 Z36 => xInt .u8 (some C35) fun X37 => xCons Z36 fun C38 Z39 => xSl (some C38) fun A40 N41 C42 E43 => xNil Z39 (SCall pg n_spec_l1Text [.agg [.int .u8 X27, .slice A30 N31 C32 E33]] H4 fun V44 H45 =>
 xStr (some V44) fun S46 => (hRow H45 (.ptr (some (H0.length, 0))) 2 = hRow H4 (.ptr (some (H0.length, 0))) 2) ∧ SCall pg n_spec_l1Text [.agg [.int .u8 X37, .slice A40 N41 C42 E43]] H45 fun V47 H48 =>
 xStr (some V47) fun S49 => (hRow H48 (.ptr (some (I22, O23 + (Int.toNat X5) * 2))) 2 = hRow H45 (.ptr (some (I22, O23 + (Int.toNat X5) * 2))) 2) ∧ Q (.bool (decide (S46 = S49))) H48)))))) (xInt .u8 (hCell H4 (.ptr (some (h.length, 0 + 0)))) fun X50 => xInt .u8 (hCell H4 (.ptr (some (H0.length, 0 + 0)))) fun X51 => bcase (!((X50 : Int) == X51)) (Q (.bool false) H4) (xSl (hCell H4 (.ptr (some (h.length, 0 + 1)))) fun A52 N53 C54 E55 => L10 Q a0 h.length 0 H0.length 0 (((N53 : Nat) : Int)) 0 H4))) : SCall pg n_spec_l2Match [.ptr a0, .agg [.int .u8 x1x0, .slice a1x1 n1x1 c1x1 e1x1], .agg [.int .u8 x2x0, .slice a2x1 n2x1 c2x1 e2x1]] h Q :=
  SCall.of_body kp (c := cod fn) (fn := fn) Go.Proofs.Tryz.func142 (by kernel_rfl) (by kernel_rfl) (Nat.le_of_ble_eq_true (by kernel_rfl))
    (cast (by kernel_rfl) ht)
end F_spec_l2Match
end Go.Sim

/- Printed by wip/tool: what the functions' bodies do, in the words of 'den'. -/
set_option maxRecDepth 100000
set_option linter.unusedVariables false
namespace Go.Sim
open Go Go.RowKit
/-! Function loop.example/instancesearch/impl.mostSpecial$1 -/
/-! Function slices.IndexFunc[[]int,int] -/
/-! Function loop.example/instancesearch/impl.mostSpecial -/
/-! Function slices.ContainsFunc[[]int,int] -/
/-! Function loop.example/instancesearch/spec.MostSpecial -/
end Go.Sim
