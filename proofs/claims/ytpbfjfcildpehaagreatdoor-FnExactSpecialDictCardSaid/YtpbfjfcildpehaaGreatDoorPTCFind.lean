/- A part of the proof of a statement of this seat: see the text that holds the theorem. No condition. -/
import Derived.Test.YtpbfjfcildpehaaGreatDoorNm
set_option linter.unusedVariables false
set_option linter.unusedSimpArgs false
set_option linter.all false
/- Printed by wip/tool: what the functions' bodies do, in the words of 'den'. -/
set_option maxRecDepth 100000
set_option linter.unusedVariables false
namespace Go.Sim
open Go Go.RowKit
/-! Function loop.example/instancesearch/impl.mostSpecial$1 -/
namespace F_impl_mostSpecial_lit1
noncomputable abbrev fn : Func := Go.Proofs.Tryz.f142
def kp : Keeps := [(2000001, [4])]
noncomputable def C (p : List Nat) : Code := (cod fn).sub p
def KR (Q : QT) : KT := retA pg fn.results.toList Q
theorem call (x0 : Int) (v1 v2 : AVal) (h : AHeap) (Q : QT) (ht :
 fieldAddrA pg t_impl_World v1 1 fun V0 => fieldAddrA pg t_impl_World v1 1 fun V1 => xSl (hCell h (V0)) fun A2 N3 C4 E5 => xInt .i64 (hCell h (v2)) fun X6 => (0 ≤ (X6 : Int) ∧ (X6 : Int) < (N3 : Nat)) ∧ (xSome A2 fun I7 O8 => xRow (hRow h (.ptr (some (I7, O8 + (Int.toNat X6) * 3))) 3) fun K9 => xCons K9 fun C10 Z11 => xStr (some C10) fun S12 => xCons Z11 fun C13 Z14 => xStr (some C13) fun S15 => xCons Z14 fun C16 Z17 => xSl (some C16) fun A18 N19 C20 E21 => xNil Z17 (xSl (hCell h (V1)) fun A22 N23 C24 E25 => (hRow h (.ptr (some (I7, O8 + (Int.toNat X6) * 3))) 3 = hRow h (.ptr (some (I7, O8 + (Int.toNat X6) * 3))) 3) ∧ (hCell h (v2) = hCell h (v2)) ∧ (hCell h (V0) = hCell h (V0)) ∧ (0 ≤ (x0 : Int) ∧ (x0 : Int) < (N23 : Nat)) ∧ (xSome A22 fun I26 O27 => xRow (hRow h (.ptr (some (I26, O27 + (Int.toNat x0) * 3))) 3) fun K28 => xCons K28 fun C29 Z30 => xStr (some C29) fun S31 => xCons Z30 fun C32 Z33 => xStr (some C32) fun S34 => xCons Z33 fun C35 Z36 => xSl (some C35) fun A37 N38 C39 E40 => xNil Z36 ((hRow h (.ptr (some (I7, O8 + (Int.toNat X6) * 3))) 3 = hRow h (.ptr (some (I7, O8 + (Int.toNat X6) * 3))) 3) ∧ (hCell h (v2) = hCell h (v2)) ∧ (hCell h (V0) = hCell h (V0)) ∧ SCall pg n_impl_special [.agg [.str S12, .str S15, .slice A18 N19 C20 E21], .agg [.str S31, .str S34, .slice A37 N38 C39 E40]] h fun V41 H42 =>
 xBool (some V41) fun B43 => (hCell H42 (v2) = hCell h (v2)) ∧ (hCell H42 (V0) = hCell h (V0)) ∧ Q (.bool (!B43)) H42))))) : SCall pg n_impl_mostSpecial_lit1 [.int .i64 x0, v1, v2] h Q :=
  SCall.of_body kp (c := cod fn) (fn := fn) Go.Proofs.Tryz.func142 (by kernel_rfl) (by kernel_rfl) (Nat.le_of_ble_eq_true (by kernel_rfl))
    (cast (by kernel_rfl) ht)
end F_impl_mostSpecial_lit1
/-! Function slices.IndexFunc[[]int,int] -/
namespace F_slices_IndexFunc_L_int_int__impl_mostSpecial_lit1
noncomputable abbrev fn : Func := Go.Proofs.Tryz.f134
def kp : Keeps := [(3000002, [4]), (1000002, [0, 1, 7, 8])]
noncomputable def C (p : List Nat) : Code := (cod fn).sub p
def KR (Q : QT) : KT := retA pg fn.results.toList Q
abbrev T2 := Pt → Nat → Nat → Bool → AVal → AVal → Int → Int → AHeap → Prop
def E2 (R2 : T2) (env : Env) (h : AHeap) : Prop := eVal 0 env fun v env => xSl (some v) fun a0 n0 c0 e0 => eVal 1 env fun v env => eFn n_impl_mostSpecial_lit1 v fun cs => xCons cs fun c cs' => xAny (some c) fun v1x0 => xCons cs' fun c cs'' => xAny (some c) fun v1x1 => xNil cs'' (eVal 7 env fun v env => eInt .i64 v fun x7 => eVal 8 env fun v env => eInt .i64 v fun x8 => eNil env (R2 a0 n0 c0 e0 v1x0 v1x1 x7 x8 h))
theorem E2elim {R2 : T2} {env : Env} {h : AHeap} (hi : E2 R2 env h) : ∃ a0, ∃ n0, ∃ c0, ∃ e0, ∃ v1x0, ∃ v1x1, ∃ x7, ∃ x8, env = [(0, .slice a0 n0 c0 e0), (1, .fn n_impl_mostSpecial_lit1 [v1x0, v1x1]), (7, .int .i64 x7), (8, .int .i64 x8)] ∧ R2 a0 n0 c0 e0 v1x0 v1x1 x7 x8 h := by
  unfold E2 at hi
  have hi0 := hi
  clear hi
  obtain ⟨_, _, rfl, hi1⟩ := eVal_elim hi0
  obtain ⟨a0, n0, c0, e0, rfl, hi2⟩ := xSl_elim hi1
  obtain ⟨_, _, rfl, hi3⟩ := eVal_elim hi2
  obtain ⟨cs, rfl, hi4⟩ := eFn_elim hi3
  obtain ⟨c, cs', rfl, hi5⟩ := xCons_elim hi4
  obtain ⟨v1x0, hx, hi6⟩ := xAny_elim hi5
  replace hx := (Option.some.inj hx).symm
  subst hx
  obtain ⟨c, cs'', rfl, hi7⟩ := xCons_elim hi6
  obtain ⟨v1x1, hx, hi8⟩ := xAny_elim hi7
  replace hx := (Option.some.inj hx).symm
  subst hx
  obtain ⟨rfl, hi9⟩ := xNil_elim hi8
  obtain ⟨_, _, rfl, hi10⟩ := eVal_elim hi9
  obtain ⟨x7, rfl, hi11⟩ := eInt_elim hi10
  obtain ⟨_, _, rfl, hi12⟩ := eVal_elim hi11
  obtain ⟨x8, rfl, hi13⟩ := eInt_elim hi12
  obtain ⟨rfl, hi14⟩ := eNil_elim hi13
  have hi := hi14
  exact ⟨a0, n0, c0, e0, v1x0, v1x1, x7, x8, rfl, hi⟩
def K0 (Q : QT) : KT := andThen (fun env' h' => (match kp.find 4000007 with | some ks => Den pg fn.ntmps (C [1, 1]) (env'.keep ks) h' (KR Q) | none => den pg fn.ntmps kp (C [1, 1]) env' h' (KR Q))) (KR Q)
def K1 (Q : QT) : KT := onExit 0 (K0 Q)
def K2 (Q : QT) : KT := left kp 2 (K1 Q)
def K3 (Q : QT) (R2 : T2) : KT := rnd ((kp.find 1000002).getD []) (E2 R2) (K2 Q)
def L2 (Q : QT) (a0 : Pt) (n0 c0 : Nat) (e0 : Bool) (v1x0 v1x1 : AVal) (x7 x8 : Int) (h : AHeap) : Prop := Loop (Den pg fn.ntmps (C [1, 0, 1, 0, 0])) ((kp.find 1000002).getD []) (K2 Q) [(0, .slice a0 n0 c0 e0), (1, .fn n_impl_mostSpecial_lit1 [v1x0, v1x1]), (7, .int .i64 x7), (8, .int .i64 x8)] h
def A2x0 (Q : QT) (h : AHeap) : Prop := At (K1 Q) (.exit 0) [(4, .undef)] h
def L2t (Q : QT) (R2 : T2) (a0 : Pt) (n0 c0 : Nat) (e0 : Bool) (v1x0 v1x1 : AVal) (x7 x8 : Int) (h : AHeap) : Prop :=
 bcase (decide ((x8 : Int) < x7)) ((0 ≤ (x8 : Int) ∧ (x8 : Int) < (n0 : Nat)) ∧ (xSome a0 fun I0 O1 => xInt .i64 (hCell h (.ptr (some (I0, O1 + (Int.toNat x8) * 1)))) fun X2 => SCall pg n_impl_mostSpecial_lit1 [.int .i64 X2, v1x0, v1x1] h fun V3 H4 =>
 xBool (some V3) fun B5 => bcase B5 (Q (.int .i64 x8) H4) (R2 a0 n0 c0 e0 v1x0 v1x1 x7 (IntKind.wrap .i64 (x8 + 1)) H4))) (A2x0 Q h)
theorem L2den (Q : QT) (R2 : T2) (a0 : Pt) (n0 c0 : Nat) (e0 : Bool) (v1x0 v1x1 : AVal) (x7 x8 : Int) (h : AHeap) (ht : L2t Q R2 a0 n0 c0 e0 v1x0 v1x1 x7 x8 h) : Den pg fn.ntmps (C [1, 0, 1, 0, 0]) [(0, .slice a0 n0 c0 e0), (1, .fn n_impl_mostSpecial_lit1 [v1x0, v1x1]), (7, .int .i64 x7), (8, .int .i64 x8)] h (K3 Q R2) :=
  den_Den (kp := kp) (cast (by kernel_rfl) ht)
theorem L2ind (Q : QT) (a0 : Pt) (n0 c0 : Nat) (e0 : Bool) (v1x0 v1x1 : AVal) (x7 : Int) {G : Type} (J : G → Int → AHeap → Prop) (m : G → Nat)
 (hr : ∀ (g : G) (x8 : Int) (h : AHeap), J g x8 h → ∀ (R2 : T2), (∀ g' (x8 : Int) (h : AHeap), m g' < m g → J g' x8 h → R2 a0 n0 c0 e0 v1x0 v1x1 x7 x8 h) → L2t Q R2 a0 n0 c0 e0 v1x0 v1x1 x7 x8 h)
 (g : G) (x8 : Int) (h : AHeap) (hj : J g x8 h) : L2 Q a0 n0 c0 e0 v1x0 v1x1 x7 x8 h := by
  refine Loop.inv2 (fun g => E2 fun a0' n0' c0' e0' v1x0' v1x1' x7' x8 h => a0 = a0' ∧ n0 = n0' ∧ c0 = c0' ∧ e0 = e0' ∧ v1x0 = v1x0' ∧ v1x1 = v1x1' ∧ x7 = x7' ∧ J g x8 h) (fun g => E2 fun a0' n0' c0' e0' v1x0' v1x1' x7' x8 h => a0 = a0' ∧ n0 = n0' ∧ c0 = c0' ∧ e0 = e0' ∧ v1x0 = v1x0' ∧ v1x1 = v1x1' ∧ x7 = x7' ∧ ∃ g', m g' < m g ∧ J g' x8 h) m ?_ ?_ g ⟨rfl, rfl, rfl, rfl, rfl, rfl, rfl, hj⟩
  · intro g env h hi
    obtain ⟨a0', n0', c0', e0', v1x0', v1x1', x7', x8, rfl, rfl, rfl, rfl, rfl, rfl, rfl, rfl, hj⟩ := E2elim hi
    exact L2den Q _ a0 n0 c0 e0 v1x0 v1x1 x7 x8 h (hr g x8 h hj (fun a0' n0' c0' e0' v1x0' v1x1' x7' x8 h => a0 = a0' ∧ n0 = n0' ∧ c0 = c0' ∧ e0 = e0' ∧ v1x0 = v1x0' ∧ v1x1 = v1x1' ∧ x7 = x7' ∧ ∃ g', m g' < m g ∧ J g' x8 h) fun g' x8 h hlt hj => ⟨rfl, rfl, rfl, rfl, rfl, rfl, rfl, g', hlt, hj⟩)
  · intro g env h hi
    obtain ⟨a0', n0', c0', e0', v1x0', v1x1', x7', x8, rfl, rfl, rfl, rfl, rfl, rfl, rfl, rfl, g', hlt, hj⟩ := E2elim hi
    exact ⟨g', hlt, rfl, rfl, rfl, rfl, rfl, rfl, rfl, hj⟩
theorem A2x0i (Q : QT) (h : AHeap) (ht :
 Q (.int .i64 (-1)) h) : A2x0 Q h :=
  At.mk (cast (by kernel_rfl) ht)
theorem call (a0 : Pt) (n0 c0 : Nat) (e0 : Bool) (v1x0 v1x1 : AVal) (h : AHeap) (Q : QT) (ht :
 L2 Q a0 n0 c0 e0 v1x0 v1x1 (((n0 : Nat) : Int)) 0 h) : SCall pg n_slices_IndexFunc_L_int_int [.slice a0 n0 c0 e0, .fn n_impl_mostSpecial_lit1 [v1x0, v1x1]] h Q :=
  SCall.of_body kp (c := cod fn) (fn := fn) Go.Proofs.Tryz.func134 (by kernel_rfl) (by kernel_rfl) (Nat.le_of_ble_eq_true (by kernel_rfl))
    (cast (by kernel_rfl) ht)
end F_slices_IndexFunc_L_int_int__impl_mostSpecial_lit1
/-! Function loop.example/instancesearch/impl.mostSpecial -/
namespace F_impl_mostSpecial
noncomputable abbrev fn : Func := Go.Proofs.Tryz.f110
def kp : Keeps := [(3000002, [4]), (1000002, [1, 2, 7, 8, 9])]
noncomputable def C (p : List Nat) : Code := (cod fn).sub p
def KR (Q : QT) : KT := retA pg fn.results.toList Q
abbrev T2 := Pt → Nat → Nat → Bool → Nat → Nat → Pt → Nat → Nat → Bool → Int → Int → AHeap → Prop
def E2 (R2 : T2) (env : Env) (h : AHeap) : Prop := eVal 1 env fun v env => xSl (some v) fun a1 n1 c1 e1 => eVal 2 env fun v env => xPtr (some v) fun a => xSome a fun i2 o2 => eVal 7 env fun v env => xSl (some v) fun a7 n7 c7 e7 => eVal 8 env fun v env => eInt .i64 v fun x8 => eVal 9 env fun v env => eInt .i64 v fun x9 => eNil env (R2 a1 n1 c1 e1 i2 o2 a7 n7 c7 e7 x8 x9 h)
theorem E2elim {R2 : T2} {env : Env} {h : AHeap} (hi : E2 R2 env h) : ∃ a1, ∃ n1, ∃ c1, ∃ e1, ∃ i2, ∃ o2, ∃ a7, ∃ n7, ∃ c7, ∃ e7, ∃ x8, ∃ x9, env = [(1, .slice a1 n1 c1 e1), (2, .ptr (some (i2, o2))), (7, .slice a7 n7 c7 e7), (8, .int .i64 x8), (9, .int .i64 x9)] ∧ R2 a1 n1 c1 e1 i2 o2 a7 n7 c7 e7 x8 x9 h := by
  unfold E2 at hi
  have hi0 := hi
  clear hi
  obtain ⟨_, _, rfl, hi1⟩ := eVal_elim hi0
  obtain ⟨a1, n1, c1, e1, rfl, hi2⟩ := xSl_elim hi1
  obtain ⟨_, _, rfl, hi3⟩ := eVal_elim hi2
  obtain ⟨a, rfl, hi4⟩ := xPtr_elim hi3
  obtain ⟨i2, o2, rfl, hi5⟩ := xSome_elim hi4
  obtain ⟨_, _, rfl, hi6⟩ := eVal_elim hi5
  obtain ⟨a7, n7, c7, e7, rfl, hi7⟩ := xSl_elim hi6
  obtain ⟨_, _, rfl, hi8⟩ := eVal_elim hi7
  obtain ⟨x8, rfl, hi9⟩ := eInt_elim hi8
  obtain ⟨_, _, rfl, hi10⟩ := eVal_elim hi9
  obtain ⟨x9, rfl, hi11⟩ := eInt_elim hi10
  obtain ⟨rfl, hi12⟩ := eNil_elim hi11
  have hi := hi12
  exact ⟨a1, n1, c1, e1, i2, o2, a7, n7, c7, e7, x8, x9, rfl, hi⟩
def K0 (Q : QT) : KT := andThen (fun env' h' => (match kp.find 4000007 with | some ks => Den pg fn.ntmps (C [1, 1]) (env'.keep ks) h' (KR Q) | none => den pg fn.ntmps kp (C [1, 1]) env' h' (KR Q))) (KR Q)
def K1 (Q : QT) : KT := onExit 0 (K0 Q)
def K2 (Q : QT) : KT := left kp 2 (K1 Q)
def K3 (Q : QT) (R2 : T2) : KT := rnd ((kp.find 1000002).getD []) (E2 R2) (K2 Q)
def L2 (Q : QT) (a1 : Pt) (n1 c1 : Nat) (e1 : Bool) (i2 o2 : Nat) (a7 : Pt) (n7 c7 : Nat) (e7 : Bool) (x8 x9 : Int) (h : AHeap) : Prop := Loop (Den pg fn.ntmps (C [1, 0, 1, 0, 0])) ((kp.find 1000002).getD []) (K2 Q) [(1, .slice a1 n1 c1 e1), (2, .ptr (some (i2, o2))), (7, .slice a7 n7 c7 e7), (8, .int .i64 x8), (9, .int .i64 x9)] h
def A2x0 (Q : QT) (h : AHeap) : Prop := At (K1 Q) (.exit 0) [(4, .undef)] h
def L2t (Q : QT) (R2 : T2) (a1 : Pt) (n1 c1 : Nat) (e1 : Bool) (i2 o2 : Nat) (a7 : Pt) (n7 c7 : Nat) (e7 : Bool) (x8 x9 : Int) (h : AHeap) : Prop :=
 bcase (decide ((x9 : Int) < x8)) ((0 ≤ (x9 : Int) ∧ (x9 : Int) < (n7 : Nat)) ∧ (xSome a7 fun I1 O2 => xInt .i64 (hCell h (.ptr (some (I1, O2 + (Int.toNat x9) * 1)))) fun X3 => letH (h ++ [.cells t_int [.int .i64 0] false]) fun H4 => xHeap (hStore H4 (.ptr (some (h.length, 0))) [.int .i64 X3]) fun H5 => SCall pg n_slices_ContainsFunc_L_int_int [.slice a1 n1 c1 e1, .fn n_impl_mostSpecial_lit1 [.ptr (some (i2, o2)), .ptr (some (h.length, 0))]] H5 fun V6 H7 =>
 xBool (some V6) fun B8 => bcase (!B8) (xInt .i64 (hCell H7 (.ptr (some (h.length, 0)))) fun X9 => Q (.int .i64 X9) H7) (R2 a1 n1 c1 e1 i2 o2 a7 n7 c7 e7 x8 (IntKind.wrap .i64 (x9 + 1)) H7))) (A2x0 Q h)
theorem L2den (Q : QT) (R2 : T2) (a1 : Pt) (n1 c1 : Nat) (e1 : Bool) (i2 o2 : Nat) (a7 : Pt) (n7 c7 : Nat) (e7 : Bool) (x8 x9 : Int) (h : AHeap) (ht : L2t Q R2 a1 n1 c1 e1 i2 o2 a7 n7 c7 e7 x8 x9 h) : Den pg fn.ntmps (C [1, 0, 1, 0, 0]) [(1, .slice a1 n1 c1 e1), (2, .ptr (some (i2, o2))), (7, .slice a7 n7 c7 e7), (8, .int .i64 x8), (9, .int .i64 x9)] h (K3 Q R2) :=
  den_Den (kp := kp) (cast (by kernel_rfl) ht)
theorem L2ind (Q : QT) (a1 : Pt) (n1 c1 : Nat) (e1 : Bool) (i2 o2 : Nat) (a7 : Pt) (n7 c7 : Nat) (e7 : Bool) (x8 : Int) {G : Type} (J : G → Int → AHeap → Prop) (m : G → Nat)
 (hr : ∀ (g : G) (x9 : Int) (h : AHeap), J g x9 h → ∀ (R2 : T2), (∀ g' (x9 : Int) (h : AHeap), m g' < m g → J g' x9 h → R2 a1 n1 c1 e1 i2 o2 a7 n7 c7 e7 x8 x9 h) → L2t Q R2 a1 n1 c1 e1 i2 o2 a7 n7 c7 e7 x8 x9 h)
 (g : G) (x9 : Int) (h : AHeap) (hj : J g x9 h) : L2 Q a1 n1 c1 e1 i2 o2 a7 n7 c7 e7 x8 x9 h := by
  refine Loop.inv2 (fun g => E2 fun a1' n1' c1' e1' i2' o2' a7' n7' c7' e7' x8' x9 h => a1 = a1' ∧ n1 = n1' ∧ c1 = c1' ∧ e1 = e1' ∧ i2 = i2' ∧ o2 = o2' ∧ a7 = a7' ∧ n7 = n7' ∧ c7 = c7' ∧ e7 = e7' ∧ x8 = x8' ∧ J g x9 h) (fun g => E2 fun a1' n1' c1' e1' i2' o2' a7' n7' c7' e7' x8' x9 h => a1 = a1' ∧ n1 = n1' ∧ c1 = c1' ∧ e1 = e1' ∧ i2 = i2' ∧ o2 = o2' ∧ a7 = a7' ∧ n7 = n7' ∧ c7 = c7' ∧ e7 = e7' ∧ x8 = x8' ∧ ∃ g', m g' < m g ∧ J g' x9 h) m ?_ ?_ g ⟨rfl, rfl, rfl, rfl, rfl, rfl, rfl, rfl, rfl, rfl, rfl, hj⟩
  · intro g env h hi
    obtain ⟨a1', n1', c1', e1', i2', o2', a7', n7', c7', e7', x8', x9, rfl, rfl, rfl, rfl, rfl, rfl, rfl, rfl, rfl, rfl, rfl, rfl, hj⟩ := E2elim hi
    exact L2den Q _ a1 n1 c1 e1 i2 o2 a7 n7 c7 e7 x8 x9 h (hr g x9 h hj (fun a1' n1' c1' e1' i2' o2' a7' n7' c7' e7' x8' x9 h => a1 = a1' ∧ n1 = n1' ∧ c1 = c1' ∧ e1 = e1' ∧ i2 = i2' ∧ o2 = o2' ∧ a7 = a7' ∧ n7 = n7' ∧ c7 = c7' ∧ e7 = e7' ∧ x8 = x8' ∧ ∃ g', m g' < m g ∧ J g' x9 h) fun g' x9 h hlt hj => ⟨rfl, rfl, rfl, rfl, rfl, rfl, rfl, rfl, rfl, rfl, rfl, g', hlt, hj⟩)
  · intro g env h hi
    obtain ⟨a1', n1', c1', e1', i2', o2', a7', n7', c7', e7', x8', x9, rfl, rfl, rfl, rfl, rfl, rfl, rfl, rfl, rfl, rfl, rfl, rfl, g', hlt, hj⟩ := E2elim hi
    exact ⟨g', hlt, rfl, rfl, rfl, rfl, rfl, rfl, rfl, rfl, rfl, rfl, rfl, hj⟩
theorem A2x0i (Q : QT) (h : AHeap) (ht :
 Q (.int .i64 (-1)) h) : A2x0 Q h :=
  At.mk (cast (by kernel_rfl) ht)
theorem call (a0x0 : Pt) (n0x0 c0x0 : Nat) (e0x0 : Bool) (a0x1 : Pt) (n0x1 c0x1 : Nat) (e0x1 : Bool) (a1 : Pt) (n1 c1 : Nat) (e1 : Bool) (h : AHeap) (Q : QT) (ht :
 letH (h ++ [.cells t_impl_World [.slice a0x0 n0x0 c0x0 e0x0, .slice a0x1 n0x1 c0x1 e0x1] false]) fun H0 => L2 Q a1 n1 c1 e1 h.length 0 a1 n1 c1 e1 (((n1 : Nat) : Int)) 0 H0) : SCall pg n_impl_mostSpecial [.agg [.slice a0x0 n0x0 c0x0 e0x0, .slice a0x1 n0x1 c0x1 e0x1], .slice a1 n1 c1 e1] h Q :=
  SCall.of_body kp (c := cod fn) (fn := fn) Go.Proofs.Tryz.func110 (by kernel_rfl) (by kernel_rfl) (Nat.le_of_ble_eq_true (by kernel_rfl))
    (cast (by kernel_rfl) ht)
end F_impl_mostSpecial
/-! Function slices.ContainsFunc[[]int,int] -/
namespace F_slices_ContainsFunc_L_int_int__impl_mostSpecial_lit1
noncomputable abbrev fn : Func := Go.Proofs.Tryz.f100
def kp : Keeps := []
noncomputable def C (p : List Nat) : Code := (cod fn).sub p
def KR (Q : QT) : KT := retA pg fn.results.toList Q
theorem call (a0 : Pt) (n0 c0 : Nat) (e0 : Bool) (v1x0 v1x1 : AVal) (h : AHeap) (Q : QT) (ht :
 SCall pg n_slices_IndexFunc_L_int_int [.slice a0 n0 c0 e0, .fn n_impl_mostSpecial_lit1 [v1x0, v1x1]] h fun V0 H1 =>
 xInt .i64 (some V0) fun X2 => Q (.bool (decide ((X2 : Int) ≥ 0))) H1) : SCall pg n_slices_ContainsFunc_L_int_int [.slice a0 n0 c0 e0, .fn n_impl_mostSpecial_lit1 [v1x0, v1x1]] h Q :=
  SCall.of_body kp (c := cod fn) (fn := fn) Go.Proofs.Tryz.func100 (by kernel_rfl) (by kernel_rfl) (Nat.le_of_ble_eq_true (by kernel_rfl))
    (cast (by kernel_rfl) ht)
end F_slices_ContainsFunc_L_int_int__impl_mostSpecial_lit1
/-! Function loop.example/instancesearch/spec.MostSpecial -/
namespace F_spec_MostSpecial
noncomputable abbrev fn : Func := Go.Proofs.Tryz.f141
def kp : Keeps := [(3000003, [4]), (1000003, [2, 5, 18, 19, 20]), (3000007, [9, 8, 20, 19, 18, 5, 2]), (1000007, [2, 5, 8, 9, 18, 19, 20, 24, 25, 26]), (4000010, [26, 25, 24, 9, 2, 8, 20, 19, 18, 5])]
noncomputable def C (p : List Nat) : Code := (cod fn).sub p
def KR (Q : QT) : KT := retA pg fn.results.toList Q
abbrev T3 := Nat → Nat → Pt → Nat → Nat → Bool → Pt → Nat → Nat → Bool → Int → Int → AHeap → Prop
def E3 (R3 : T3) (env : Env) (h : AHeap) : Prop := eVal 2 env fun v env => xPtr (some v) fun a => xSome a fun i2 o2 => eVal 5 env fun v env => xSl (some v) fun a5 n5 c5 e5 => eVal 18 env fun v env => xSl (some v) fun a18 n18 c18 e18 => eVal 19 env fun v env => eInt .i64 v fun x19 => eVal 20 env fun v env => eInt .i64 v fun x20 => eNil env (R3 i2 o2 a5 n5 c5 e5 a18 n18 c18 e18 x19 x20 h)
theorem E3elim {R3 : T3} {env : Env} {h : AHeap} (hi : E3 R3 env h) : ∃ i2, ∃ o2, ∃ a5, ∃ n5, ∃ c5, ∃ e5, ∃ a18, ∃ n18, ∃ c18, ∃ e18, ∃ x19, ∃ x20, env = [(2, .ptr (some (i2, o2))), (5, .slice a5 n5 c5 e5), (18, .slice a18 n18 c18 e18), (19, .int .i64 x19), (20, .int .i64 x20)] ∧ R3 i2 o2 a5 n5 c5 e5 a18 n18 c18 e18 x19 x20 h := by
  unfold E3 at hi
  have hi0 := hi
  clear hi
  obtain ⟨_, _, rfl, hi1⟩ := eVal_elim hi0
  obtain ⟨a, rfl, hi2⟩ := xPtr_elim hi1
  obtain ⟨i2, o2, rfl, hi3⟩ := xSome_elim hi2
  obtain ⟨_, _, rfl, hi4⟩ := eVal_elim hi3
  obtain ⟨a5, n5, c5, e5, rfl, hi5⟩ := xSl_elim hi4
  obtain ⟨_, _, rfl, hi6⟩ := eVal_elim hi5
  obtain ⟨a18, n18, c18, e18, rfl, hi7⟩ := xSl_elim hi6
  obtain ⟨_, _, rfl, hi8⟩ := eVal_elim hi7
  obtain ⟨x19, rfl, hi9⟩ := eInt_elim hi8
  obtain ⟨_, _, rfl, hi10⟩ := eVal_elim hi9
  obtain ⟨x20, rfl, hi11⟩ := eInt_elim hi10
  obtain ⟨rfl, hi12⟩ := eNil_elim hi11
  have hi := hi12
  exact ⟨i2, o2, a5, n5, c5, e5, a18, n18, c18, e18, x19, x20, rfl, hi⟩
abbrev T7 := Nat → Nat → Pt → Nat → Nat → Bool → Int → Bool → Pt → Nat → Nat → Bool → Int → Int → Pt → Nat → Nat → Bool → Int → Int → AHeap → Prop
def E7 (R7 : T7) (env : Env) (h : AHeap) : Prop := eVal 2 env fun v env => xPtr (some v) fun a => xSome a fun i2 o2 => eVal 5 env fun v env => xSl (some v) fun a5 n5 c5 e5 => eVal 8 env fun v env => eInt .i64 v fun x8 => eVal 9 env fun v env => xBool (some v) fun x9 => eVal 18 env fun v env => xSl (some v) fun a18 n18 c18 e18 => eVal 19 env fun v env => eInt .i64 v fun x19 => eVal 20 env fun v env => eInt .i64 v fun x20 => eVal 24 env fun v env => xSl (some v) fun a24 n24 c24 e24 => eVal 25 env fun v env => eInt .i64 v fun x25 => eVal 26 env fun v env => eInt .i64 v fun x26 => eNil env (R7 i2 o2 a5 n5 c5 e5 x8 x9 a18 n18 c18 e18 x19 x20 a24 n24 c24 e24 x25 x26 h)
theorem E7elim {R7 : T7} {env : Env} {h : AHeap} (hi : E7 R7 env h) : ∃ i2, ∃ o2, ∃ a5, ∃ n5, ∃ c5, ∃ e5, ∃ x8, ∃ x9, ∃ a18, ∃ n18, ∃ c18, ∃ e18, ∃ x19, ∃ x20, ∃ a24, ∃ n24, ∃ c24, ∃ e24, ∃ x25, ∃ x26, env = [(2, .ptr (some (i2, o2))), (5, .slice a5 n5 c5 e5), (8, .int .i64 x8), (9, .bool x9), (18, .slice a18 n18 c18 e18), (19, .int .i64 x19), (20, .int .i64 x20), (24, .slice a24 n24 c24 e24), (25, .int .i64 x25), (26, .int .i64 x26)] ∧ R7 i2 o2 a5 n5 c5 e5 x8 x9 a18 n18 c18 e18 x19 x20 a24 n24 c24 e24 x25 x26 h := by
  unfold E7 at hi
  have hi0 := hi
  clear hi
  obtain ⟨_, _, rfl, hi1⟩ := eVal_elim hi0
  obtain ⟨a, rfl, hi2⟩ := xPtr_elim hi1
  obtain ⟨i2, o2, rfl, hi3⟩ := xSome_elim hi2
  obtain ⟨_, _, rfl, hi4⟩ := eVal_elim hi3
  obtain ⟨a5, n5, c5, e5, rfl, hi5⟩ := xSl_elim hi4
  obtain ⟨_, _, rfl, hi6⟩ := eVal_elim hi5
  obtain ⟨x8, rfl, hi7⟩ := eInt_elim hi6
  obtain ⟨_, _, rfl, hi8⟩ := eVal_elim hi7
  obtain ⟨x9, rfl, hi9⟩ := xBool_elim hi8
  obtain ⟨_, _, rfl, hi10⟩ := eVal_elim hi9
  obtain ⟨a18, n18, c18, e18, rfl, hi11⟩ := xSl_elim hi10
  obtain ⟨_, _, rfl, hi12⟩ := eVal_elim hi11
  obtain ⟨x19, rfl, hi13⟩ := eInt_elim hi12
  obtain ⟨_, _, rfl, hi14⟩ := eVal_elim hi13
  obtain ⟨x20, rfl, hi15⟩ := eInt_elim hi14
  obtain ⟨_, _, rfl, hi16⟩ := eVal_elim hi15
  obtain ⟨a24, n24, c24, e24, rfl, hi17⟩ := xSl_elim hi16
  obtain ⟨_, _, rfl, hi18⟩ := eVal_elim hi17
  obtain ⟨x25, rfl, hi19⟩ := eInt_elim hi18
  obtain ⟨_, _, rfl, hi20⟩ := eVal_elim hi19
  obtain ⟨x26, rfl, hi21⟩ := eInt_elim hi20
  obtain ⟨rfl, hi22⟩ := eNil_elim hi21
  have hi := hi22
  exact ⟨i2, o2, a5, n5, c5, e5, x8, x9, a18, n18, c18, e18, x19, x20, a24, n24, c24, e24, x25, x26, rfl, hi⟩
def K0 (Q : QT) : KT := andThen (fun env' h' => (match kp.find 4000014 with | some ks => Den pg fn.ntmps (C [1, 1, 1]) (env'.keep ks) h' (KR Q) | none => den pg fn.ntmps kp (C [1, 1, 1]) env' h' (KR Q))) (KR Q)
def K1 (Q : QT) : KT := onExit 0 (K0 Q)
def K2 (Q : QT) : KT := left kp 3 (K1 Q)
def K3 (Q : QT) (R3 : T3) : KT := rnd ((kp.find 1000003).getD []) (E3 R3) (K2 Q)
def K4 (Q : QT) (R3 : T3) : KT := andThen (fun env' h' => (match kp.find 4000013 with | some ks => Den pg fn.ntmps (C [1, 1, 0, 1, 0, 0, 1, 1, 1]) (env'.keep ks) h' (K3 Q R3) | none => den pg fn.ntmps kp (C [1, 1, 0, 1, 0, 0, 1, 1, 1]) env' h' (K3 Q R3))) (K3 Q R3)
def K5 (Q : QT) (R3 : T3) : KT := onExit 1 (K4 Q R3)
def K6 (Q : QT) (R3 : T3) : KT := andThen (fun env' h' => (match kp.find 4000011 with | some ks => Den pg fn.ntmps (C [1, 1, 0, 1, 0, 0, 1, 1, 0, 0, 1, 1, 1]) (env'.keep ks) h' (K5 Q R3) | none => den pg fn.ntmps kp (C [1, 1, 0, 1, 0, 0, 1, 1, 0, 0, 1, 1, 1]) env' h' (K5 Q R3))) (K5 Q R3)
def K7 (Q : QT) (R3 : T3) : KT := onExit 2 (K6 Q R3)
def K8 (Q : QT) (R3 : T3) : KT := left kp 7 (K7 Q R3)
def K9 (Q : QT) (R3 : T3) (R7 : T7) : KT := rnd ((kp.find 1000007).getD []) (E7 R7) (K8 Q R3)
def L3 (Q : QT) (i2 o2 : Nat) (a5 : Pt) (n5 c5 : Nat) (e5 : Bool) (a18 : Pt) (n18 c18 : Nat) (e18 : Bool) (x19 x20 : Int) (h : AHeap) : Prop := Loop (Den pg fn.ntmps (C [1, 1, 0, 1, 0, 0])) ((kp.find 1000003).getD []) (K2 Q) [(2, .ptr (some (i2, o2))), (5, .slice a5 n5 c5 e5), (18, .slice a18 n18 c18 e18), (19, .int .i64 x19), (20, .int .i64 x20)] h
def L7 (Q : QT) (R3 : T3) (i2 o2 : Nat) (a5 : Pt) (n5 c5 : Nat) (e5 : Bool) (x8 : Int) (x9 : Bool) (a18 : Pt) (n18 c18 : Nat) (e18 : Bool) (x19 x20 : Int) (a24 : Pt) (n24 c24 : Nat) (e24 : Bool) (x25 x26 : Int) (h : AHeap) : Prop := Loop (Den pg fn.ntmps (C [1, 1, 0, 1, 0, 0, 1, 1, 0, 0, 1, 1, 0, 1, 0, 0])) ((kp.find 1000007).getD []) (K8 Q R3) [(2, .ptr (some (i2, o2))), (5, .slice a5 n5 c5 e5), (8, .int .i64 x8), (9, .bool x9), (18, .slice a18 n18 c18 e18), (19, .int .i64 x19), (20, .int .i64 x20), (24, .slice a24 n24 c24 e24), (25, .int .i64 x25), (26, .int .i64 x26)] h
def A3x0 (Q : QT) (h : AHeap) : Prop := At (K1 Q) (.exit 0) [(4, .undef)] h
def J10 (Q : QT) (R3 : T3) (R7 : T7) (x26 x25 : Int) (a24 : Pt) (n24 c24 : Nat) (e24 x9 : Bool) (i2 o2 : Nat) (x8 x20 x19 : Int) (a18 : Pt) (n18 c18 : Nat) (e18 : Bool) (a5 : Pt) (n5 c5 : Nat) (e5 : Bool) (h : AHeap) : Prop := Den pg fn.ntmps (C [1, 1, 0, 1, 0, 0, 1, 1, 0, 0, 1, 1, 0, 1, 0, 0, 1, 1, 1]) [(26, .int .i64 x26), (25, .int .i64 x25), (24, .slice a24 n24 c24 e24), (9, .bool x9), (2, .ptr (some (i2, o2))), (8, .int .i64 x8), (20, .int .i64 x20), (19, .int .i64 x19), (18, .slice a18 n18 c18 e18), (5, .slice a5 n5 c5 e5)] h (K9 Q R3 R7)
def A7x2 (Q : QT) (R3 : T3) (x9 : Bool) (x8 x20 x19 : Int) (a18 : Pt) (n18 c18 : Nat) (e18 : Bool) (a5 : Pt) (n5 c5 : Nat) (e5 : Bool) (i2 o2 : Nat) (h : AHeap) : Prop := At (K7 Q R3) (.exit 2) [(9, .bool x9), (8, .int .i64 x8), (20, .int .i64 x20), (19, .int .i64 x19), (18, .slice a18 n18 c18 e18), (5, .slice a5 n5 c5 e5), (2, .ptr (some (i2, o2)))] h
def L3t (Q : QT) (R3 : T3) (i2 o2 : Nat) (a5 : Pt) (n5 c5 : Nat) (e5 : Bool) (a18 : Pt) (n18 c18 : Nat) (e18 : Bool) (x19 x20 : Int) (h : AHeap) : Prop :=
 bcase (decide ((x20 : Int) < x19)) ((0 ≤ (x20 : Int) ∧ (x20 : Int) < (n18 : Nat)) ∧ (xSome a18 fun I34 O35 => xInt .i64 (hCell h (.ptr (some (I34, O35 + (Int.toNat x20) * 1)))) fun X36 => L7 Q R3 i2 o2 a5 n5 c5 e5 X36 true a18 n18 c18 e18 x19 x20 a5 n5 c5 e5 (((n5 : Nat) : Int)) 0 h)) (A3x0 Q h)
theorem L3den (Q : QT) (R3 : T3) (i2 o2 : Nat) (a5 : Pt) (n5 c5 : Nat) (e5 : Bool) (a18 : Pt) (n18 c18 : Nat) (e18 : Bool) (x19 x20 : Int) (h : AHeap) (ht : L3t Q R3 i2 o2 a5 n5 c5 e5 a18 n18 c18 e18 x19 x20 h) : Den pg fn.ntmps (C [1, 1, 0, 1, 0, 0]) [(2, .ptr (some (i2, o2))), (5, .slice a5 n5 c5 e5), (18, .slice a18 n18 c18 e18), (19, .int .i64 x19), (20, .int .i64 x20)] h (K3 Q R3) :=
  den_Den (kp := kp) (cast (by kernel_rfl) ht)
theorem L3ind (Q : QT) (i2 o2 : Nat) (a5 : Pt) (n5 c5 : Nat) (e5 : Bool) (a18 : Pt) (n18 c18 : Nat) (e18 : Bool) (x19 : Int) {G : Type} (J : G → Int → AHeap → Prop) (m : G → Nat)
 (hr : ∀ (g : G) (x20 : Int) (h : AHeap), J g x20 h → ∀ (R3 : T3), (∀ g' (x20 : Int) (h : AHeap), m g' < m g → J g' x20 h → R3 i2 o2 a5 n5 c5 e5 a18 n18 c18 e18 x19 x20 h) → L3t Q R3 i2 o2 a5 n5 c5 e5 a18 n18 c18 e18 x19 x20 h)
 (g : G) (x20 : Int) (h : AHeap) (hj : J g x20 h) : L3 Q i2 o2 a5 n5 c5 e5 a18 n18 c18 e18 x19 x20 h := by
  refine Loop.inv2 (fun g => E3 fun i2' o2' a5' n5' c5' e5' a18' n18' c18' e18' x19' x20 h => i2 = i2' ∧ o2 = o2' ∧ a5 = a5' ∧ n5 = n5' ∧ c5 = c5' ∧ e5 = e5' ∧ a18 = a18' ∧ n18 = n18' ∧ c18 = c18' ∧ e18 = e18' ∧ x19 = x19' ∧ J g x20 h) (fun g => E3 fun i2' o2' a5' n5' c5' e5' a18' n18' c18' e18' x19' x20 h => i2 = i2' ∧ o2 = o2' ∧ a5 = a5' ∧ n5 = n5' ∧ c5 = c5' ∧ e5 = e5' ∧ a18 = a18' ∧ n18 = n18' ∧ c18 = c18' ∧ e18 = e18' ∧ x19 = x19' ∧ ∃ g', m g' < m g ∧ J g' x20 h) m ?_ ?_ g ⟨rfl, rfl, rfl, rfl, rfl, rfl, rfl, rfl, rfl, rfl, rfl, hj⟩
  · intro g env h hi
    obtain ⟨i2', o2', a5', n5', c5', e5', a18', n18', c18', e18', x19', x20, rfl, rfl, rfl, rfl, rfl, rfl, rfl, rfl, rfl, rfl, rfl, rfl, hj⟩ := E3elim hi
    exact L3den Q _ i2 o2 a5 n5 c5 e5 a18 n18 c18 e18 x19 x20 h (hr g x20 h hj (fun i2' o2' a5' n5' c5' e5' a18' n18' c18' e18' x19' x20 h => i2 = i2' ∧ o2 = o2' ∧ a5 = a5' ∧ n5 = n5' ∧ c5 = c5' ∧ e5 = e5' ∧ a18 = a18' ∧ n18 = n18' ∧ c18 = c18' ∧ e18 = e18' ∧ x19 = x19' ∧ ∃ g', m g' < m g ∧ J g' x20 h) fun g' x20 h hlt hj => ⟨rfl, rfl, rfl, rfl, rfl, rfl, rfl, rfl, rfl, rfl, rfl, g', hlt, hj⟩)
  · intro g env h hi
    obtain ⟨i2', o2', a5', n5', c5', e5', a18', n18', c18', e18', x19', x20, rfl, rfl, rfl, rfl, rfl, rfl, rfl, rfl, rfl, rfl, rfl, rfl, g', hlt, hj⟩ := E3elim hi
    exact ⟨g', hlt, rfl, rfl, rfl, rfl, rfl, rfl, rfl, rfl, rfl, rfl, rfl, hj⟩
def L7t (Q : QT) (R3 : T3) (R7 : T7) (i2 o2 : Nat) (a5 : Pt) (n5 c5 : Nat) (e5 : Bool) (x8 : Int) (x9 : Bool) (a18 : Pt) (n18 c18 : Nat) (e18 : Bool) (x19 x20 : Int) (a24 : Pt) (n24 c24 : Nat) (e24 : Bool) (x25 x26 : Int) (h : AHeap) : Prop :=
 bcase (decide ((x26 : Int) < x25)) ((0 ≤ (x26 : Int) ∧ (x26 : Int) < (n24 : Nat)) ∧ (xSome a24 fun I37 O38 => xInt .i64 (hCell h (.ptr (some (I37, O38 + (Int.toNat x26) * 1)))) fun X39 => bcase x9 (xRow (hRow h (.ptr (some (i2, o2))) 2) fun K40 => xCons K40 fun C41 Z42 => xSl (some C41) fun A43 N44 C45 E46 => xCons Z42 fun C47 Z48 => xSl (some C47) fun A49 N50 C51 E52 => xNil Z48 (SCall pg n_spec_IsSpecial [.agg [.slice A43 N44 C45 E46, .slice A49 N50 C51 E52], .int .i64 x8, .int .i64 X39] h fun V53 H54 =>
 xBool (some V53) fun B55 => J10 Q R3 R7 x26 x25 a24 n24 c24 e24 B55 i2 o2 x8 x20 x19 a18 n18 c18 e18 a5 n5 c5 e5 H54)) (J10 Q R3 R7 x26 x25 a24 n24 c24 e24 false i2 o2 x8 x20 x19 a18 n18 c18 e18 a5 n5 c5 e5 h))) (A7x2 Q R3 x9 x8 x20 x19 a18 n18 c18 e18 a5 n5 c5 e5 i2 o2 h)
theorem L7den (Q : QT) (R3 : T3) (R7 : T7) (i2 o2 : Nat) (a5 : Pt) (n5 c5 : Nat) (e5 : Bool) (x8 : Int) (x9 : Bool) (a18 : Pt) (n18 c18 : Nat) (e18 : Bool) (x19 x20 : Int) (a24 : Pt) (n24 c24 : Nat) (e24 : Bool) (x25 x26 : Int) (h : AHeap) (ht : L7t Q R3 R7 i2 o2 a5 n5 c5 e5 x8 x9 a18 n18 c18 e18 x19 x20 a24 n24 c24 e24 x25 x26 h) : Den pg fn.ntmps (C [1, 1, 0, 1, 0, 0, 1, 1, 0, 0, 1, 1, 0, 1, 0, 0]) [(2, .ptr (some (i2, o2))), (5, .slice a5 n5 c5 e5), (8, .int .i64 x8), (9, .bool x9), (18, .slice a18 n18 c18 e18), (19, .int .i64 x19), (20, .int .i64 x20), (24, .slice a24 n24 c24 e24), (25, .int .i64 x25), (26, .int .i64 x26)] h (K9 Q R3 R7) :=
  den_Den (kp := kp) (cast (by kernel_rfl) ht)
theorem L7ind (Q : QT) (R3 : T3) (i2 o2 : Nat) (a5 : Pt) (n5 c5 : Nat) (e5 : Bool) (x8 : Int) (a18 : Pt) (n18 c18 : Nat) (e18 : Bool) (x19 x20 : Int) (a24 : Pt) (n24 c24 : Nat) (e24 : Bool) (x25 : Int) {G : Type} (J : G → Bool → Int → AHeap → Prop) (m : G → Nat)
 (hr : ∀ (g : G) (x9 : Bool) (x26 : Int) (h : AHeap), J g x9 x26 h → ∀ (R7 : T7), (∀ g' (x9 : Bool) (x26 : Int) (h : AHeap), m g' < m g → J g' x9 x26 h → R7 i2 o2 a5 n5 c5 e5 x8 x9 a18 n18 c18 e18 x19 x20 a24 n24 c24 e24 x25 x26 h) → L7t Q R3 R7 i2 o2 a5 n5 c5 e5 x8 x9 a18 n18 c18 e18 x19 x20 a24 n24 c24 e24 x25 x26 h)
 (g : G) (x9 : Bool) (x26 : Int) (h : AHeap) (hj : J g x9 x26 h) : L7 Q R3 i2 o2 a5 n5 c5 e5 x8 x9 a18 n18 c18 e18 x19 x20 a24 n24 c24 e24 x25 x26 h := by
  refine Loop.inv2 (fun g => E7 fun i2' o2' a5' n5' c5' e5' x8' x9 a18' n18' c18' e18' x19' x20' a24' n24' c24' e24' x25' x26 h => i2 = i2' ∧ o2 = o2' ∧ a5 = a5' ∧ n5 = n5' ∧ c5 = c5' ∧ e5 = e5' ∧ x8 = x8' ∧ a18 = a18' ∧ n18 = n18' ∧ c18 = c18' ∧ e18 = e18' ∧ x19 = x19' ∧ x20 = x20' ∧ a24 = a24' ∧ n24 = n24' ∧ c24 = c24' ∧ e24 = e24' ∧ x25 = x25' ∧ J g x9 x26 h) (fun g => E7 fun i2' o2' a5' n5' c5' e5' x8' x9 a18' n18' c18' e18' x19' x20' a24' n24' c24' e24' x25' x26 h => i2 = i2' ∧ o2 = o2' ∧ a5 = a5' ∧ n5 = n5' ∧ c5 = c5' ∧ e5 = e5' ∧ x8 = x8' ∧ a18 = a18' ∧ n18 = n18' ∧ c18 = c18' ∧ e18 = e18' ∧ x19 = x19' ∧ x20 = x20' ∧ a24 = a24' ∧ n24 = n24' ∧ c24 = c24' ∧ e24 = e24' ∧ x25 = x25' ∧ ∃ g', m g' < m g ∧ J g' x9 x26 h) m ?_ ?_ g ⟨rfl, rfl, rfl, rfl, rfl, rfl, rfl, rfl, rfl, rfl, rfl, rfl, rfl, rfl, rfl, rfl, rfl, rfl, hj⟩
  · intro g env h hi
    obtain ⟨i2', o2', a5', n5', c5', e5', x8', x9, a18', n18', c18', e18', x19', x20', a24', n24', c24', e24', x25', x26, rfl, rfl, rfl, rfl, rfl, rfl, rfl, rfl, rfl, rfl, rfl, rfl, rfl, rfl, rfl, rfl, rfl, rfl, rfl, hj⟩ := E7elim hi
    exact L7den Q R3 (fun i2' o2' a5' n5' c5' e5' x8' x9 a18' n18' c18' e18' x19' x20' a24' n24' c24' e24' x25' x26 h => i2 = i2' ∧ o2 = o2' ∧ a5 = a5' ∧ n5 = n5' ∧ c5 = c5' ∧ e5 = e5' ∧ x8 = x8' ∧ a18 = a18' ∧ n18 = n18' ∧ c18 = c18' ∧ e18 = e18' ∧ x19 = x19' ∧ x20 = x20' ∧ a24 = a24' ∧ n24 = n24' ∧ c24 = c24' ∧ e24 = e24' ∧ x25 = x25' ∧ ∃ g', m g' < m g ∧ J g' x9 x26 h) i2 o2 a5 n5 c5 e5 x8 x9 a18 n18 c18 e18 x19 x20 a24 n24 c24 e24 x25 x26 h (hr g x9 x26 h hj (fun i2' o2' a5' n5' c5' e5' x8' x9 a18' n18' c18' e18' x19' x20' a24' n24' c24' e24' x25' x26 h => i2 = i2' ∧ o2 = o2' ∧ a5 = a5' ∧ n5 = n5' ∧ c5 = c5' ∧ e5 = e5' ∧ x8 = x8' ∧ a18 = a18' ∧ n18 = n18' ∧ c18 = c18' ∧ e18 = e18' ∧ x19 = x19' ∧ x20 = x20' ∧ a24 = a24' ∧ n24 = n24' ∧ c24 = c24' ∧ e24 = e24' ∧ x25 = x25' ∧ ∃ g', m g' < m g ∧ J g' x9 x26 h) fun g' x9 x26 h hlt hj => ⟨rfl, rfl, rfl, rfl, rfl, rfl, rfl, rfl, rfl, rfl, rfl, rfl, rfl, rfl, rfl, rfl, rfl, rfl, g', hlt, hj⟩)
  · intro g env h hi
    obtain ⟨i2', o2', a5', n5', c5', e5', x8', x9, a18', n18', c18', e18', x19', x20', a24', n24', c24', e24', x25', x26, rfl, rfl, rfl, rfl, rfl, rfl, rfl, rfl, rfl, rfl, rfl, rfl, rfl, rfl, rfl, rfl, rfl, rfl, rfl, g', hlt, hj⟩ := E7elim hi
    exact ⟨g', hlt, rfl, rfl, rfl, rfl, rfl, rfl, rfl, rfl, rfl, rfl, rfl, rfl, rfl, rfl, rfl, rfl, rfl, rfl, hj⟩
theorem A3x0i (Q : QT) (h : AHeap) (ht :
 Q (.int .i64 (-1)) h) : A3x0 Q h :=
  At.mk (cast (by kernel_rfl) ht)
theorem J10i (Q : QT) (R3 : T3) (R7 : T7) (x26 x25 : Int) (a24 : Pt) (n24 c24 : Nat) (e24 x9 : Bool) (i2 o2 : Nat) (x8 x20 x19 : Int) (a18 : Pt) (n18 c18 : Nat) (e18 : Bool) (a5 : Pt) (n5 c5 : Nat) (e5 : Bool) (h : AHeap) (ht :
 R7 i2 o2 a5 n5 c5 e5 x8 x9 a18 n18 c18 e18 x19 x20 a24 n24 c24 e24 x25 (IntKind.wrap .i64 (x26 + 1)) h) : J10 Q R3 R7 x26 x25 a24 n24 c24 e24 x9 i2 o2 x8 x20 x19 a18 n18 c18 e18 a5 n5 c5 e5 h :=
  den_Den (kp := kp) (cast (by kernel_rfl) ht)
theorem A7x2i (Q : QT) (R3 : T3) (x9 : Bool) (x8 x20 x19 : Int) (a18 : Pt) (n18 c18 : Nat) (e18 : Bool) (a5 : Pt) (n5 c5 : Nat) (e5 : Bool) (i2 o2 : Nat) (h : AHeap) (ht :
 bcase x9 (Q (.int .i64 x8) h) (R3 i2 o2 a5 n5 c5 e5 a18 n18 c18 e18 x19 (IntKind.wrap .i64 (x20 + 1)) h)) : A7x2 Q R3 x9 x8 x20 x19 a18 n18 c18 e18 a5 n5 c5 e5 i2 o2 h :=
  At.mk (cast (by kernel_rfl) ht)
theorem call (a0x0 : Pt) (n0x0 c0x0 : Nat) (e0x0 : Bool) (a0x1 : Pt) (n0x1 c0x1 : Nat) (e0x1 : Bool) (x1x0 x1x1 : List Nat) (h : AHeap) (Q : QT) (ht :
 letH (h ++ [.cells t_impl_World [.slice a0x0 n0x0 c0x0 e0x0, .slice a0x1 n0x1 c0x1 e0x1] false]) fun H0 => letH (H0 ++ [.cells t_impl_Need [.str x1x0, .str x1x1] false]) fun H1 => xRow (hRow H1 (.ptr (some (h.length, 0))) 2) fun K2 => xCons K2 fun C3 Z4 => xSl (some C3) fun A5 N6 C7 E8 => xCons Z4 fun C9 Z10 => xSl (some C9) fun A11 N12 C13 E14 => xNil Z10 (xRow (hRow H1 (.ptr (some (H0.length, 0))) 2) fun K15 => xCons K15 fun C16 Z17 => xStr (some C16) fun S18 => xCons Z17 fun C19 Z20 => xStr (some C19) fun S21 => xNil Z20 (SCall pg n_spec_CandidatesOf [.agg [.slice A5 N6 C7 E8, .slice A11 N12 C13 E14], .agg [.str S18, .str S21]] H1 fun V22 H23 =>
 xTup V22 fun K24 => xCons K24 fun C25 Z26 => xSl (some C25) fun A27 N28 C29 E30 => xCons Z26 fun C31 Z32 => xBool (some C31) fun B33 => xNil Z32 (L3 Q h.length 0 A27 N28 C29 E30 A27 N28 C29 E30 (((N28 : Nat) : Int)) 0 H23)))) : SCall pg n_spec_MostSpecial [.agg [.slice a0x0 n0x0 c0x0 e0x0, .slice a0x1 n0x1 c0x1 e0x1], .agg [.str x1x0, .str x1x1]] h Q :=
  SCall.of_body kp (c := cod fn) (fn := fn) Go.Proofs.Tryz.func141 (by kernel_rfl) (by kernel_rfl) (Nat.le_of_ble_eq_true (by kernel_rfl))
    (cast (by kernel_rfl) ht)
end F_spec_MostSpecial
end Go.Sim

/- Printed by wip/tool: what the functions' bodies do, in the words of 'den'. -/
set_option maxRecDepth 100000
set_option linter.unusedVariables false
namespace Go.Sim
open Go Go.RowKit
/-! Function loop.example/instancesearch/impl.NeedValid -/
namespace F_impl_NeedValid
noncomputable abbrev fn : Func := Go.Proofs.Tryz.f43
def kp : Keeps := []
noncomputable def C (p : List Nat) : Code := (cod fn).sub p
def KR (Q : QT) : KT := retA pg fn.results.toList Q
theorem call (a0x0 : Pt) (n0x0 c0x0 : Nat) (e0x0 : Bool) (a0x1 : Pt) (n0x1 c0x1 : Nat) (e0x1 : Bool) (x1x0 x1x1 : List Nat) (h : AHeap) (Q : QT) (ht :
 letH (h ++ [.cells t_impl_World [.slice a0x0 n0x0 c0x0 e0x0, .slice a0x1 n0x1 c0x1 e0x1] false]) fun H0 => letH (H0 ++ [.cells t_impl_Need [.str x1x0, .str x1x1] false]) fun H1 => xRow (hRow H1 (.ptr (some (h.length, 0))) 2) fun K2 => xCons K2 fun C3 Z4 => xSl (some C3) fun A5 N6 C7 E8 => xCons Z4 fun C9 Z10 => xSl (some C9) fun A11 N12 C13 E14 => xNil Z10 (SCall pg n_impl_WorldValid [.agg [.slice A5 N6 C7 E8, .slice A11 N12 C13 E14]] H1 fun V15 H16 =>
 xBool (some V15) fun B17 => bcase B17 (xRow (hRow H16 (.ptr (some (h.length, 0))) 2) fun K18 => xCons K18 fun C19 Z20 => xSl (some C19) fun A21 N22 C23 E24 => xCons Z20 fun C25 Z26 => xSl (some C25) fun A27 N28 C29 E30 => xNil Z26 (xRow (hRow H16 (.ptr (some (H0.length, 0))) 2) fun K31 => xCons K31 fun C32 Z33 => xStr (some C32) fun S34 => xCons Z33 fun C35 Z36 => xStr (some C35) fun S37 => xNil Z36 (SCall pg n_impl_needOk [.agg [.slice A21 N22 C23 E24, .slice A27 N28 C29 E30], .agg [.str S34, .str S37]] H16 fun V38 H39 =>
 xBool (some V38) fun B40 => Q (.bool B40) H39))) (Q (.bool false) H16))) : SCall pg n_impl_NeedValid [.agg [.slice a0x0 n0x0 c0x0 e0x0, .slice a0x1 n0x1 c0x1 e0x1], .agg [.str x1x0, .str x1x1]] h Q :=
  SCall.of_body kp (c := cod fn) (fn := fn) Go.Proofs.Tryz.func43 (by kernel_rfl) (by kernel_rfl) (Nat.le_of_ble_eq_true (by kernel_rfl))
    (cast (by kernel_rfl) ht)
end F_impl_NeedValid
/-! Function loop.example/instancesearch/impl.candidates$1 -/
namespace F_impl_candidates_lit1
noncomputable abbrev fn : Func := Go.Proofs.Tryz.f136
def kp : Keeps := []
noncomputable def C (p : List Nat) : Code := (cod fn).sub p
def KR (Q : QT) : KT := retA pg fn.results.toList Q
theorem call (x0x0 x0x1 : List Nat) (a0x2 : Pt) (n0x2 c0x2 : Nat) (e0x2 : Bool) (v1 : AVal) (h : AHeap) (Q : QT) (ht :
 letH (h ++ [.cells t_impl_Instance [.str x0x0, .str x0x1, .slice a0x2 n0x2 c0x2 e0x2] false]) fun H0 => xStr (hCell H0 (.ptr (some (h.length, 0 + 0 + 1)))) fun S1 => fieldAddrA pg t_impl_Need v1 1 fun V2 => xStr (hCell H0 (V2)) fun S3 => SCall pg n_impl_IsInstance [.str S1, .str S3] H0 fun V4 H5 =>
 xBool (some V4) fun B6 => Q (.bool B6) H5) : SCall pg n_impl_candidates_lit1 [.agg [.str x0x0, .str x0x1, .slice a0x2 n0x2 c0x2 e0x2], v1] h Q :=
  SCall.of_body kp (c := cod fn) (fn := fn) Go.Proofs.Tryz.func136 (by kernel_rfl) (by kernel_rfl) (Nat.le_of_ble_eq_true (by kernel_rfl))
    (cast (by kernel_rfl) ht)
end F_impl_candidates_lit1
/-! Function loop.example/instancesearch/impl.among -/
namespace F_impl_among__impl_candidates_lit1
noncomputable abbrev fn : Func := Go.Proofs.Tryz.f135
def kp : Keeps := [(3000003, [7]), (1000003, [1, 2, 7, 12, 13, 14]), (4000007, [14, 13, 12, 1, 2, 7])]
noncomputable def C (p : List Nat) : Code := (cod fn).sub p
def KR (Q : QT) : KT := retA pg fn.results.toList Q
abbrev T3 := List Nat → AVal → Pt → Nat → Nat → Bool → Pt → Nat → Nat → Bool → Int → Int → AHeap → Prop
def E3 (R3 : T3) (env : Env) (h : AHeap) : Prop := eVal 1 env fun v env => xStr (some v) fun x1 => eVal 2 env fun v env => eFn n_impl_candidates_lit1 v fun cs => xCons cs fun c cs' => xAny (some c) fun v2x0 => xNil cs' (eVal 7 env fun v env => xSl (some v) fun a7 n7 c7 e7 => eVal 12 env fun v env => xSl (some v) fun a12 n12 c12 e12 => eVal 13 env fun v env => eInt .i64 v fun x13 => eVal 14 env fun v env => eInt .i64 v fun x14 => eNil env (R3 x1 v2x0 a7 n7 c7 e7 a12 n12 c12 e12 x13 x14 h))
theorem E3elim {R3 : T3} {env : Env} {h : AHeap} (hi : E3 R3 env h) : ∃ x1, ∃ v2x0, ∃ a7, ∃ n7, ∃ c7, ∃ e7, ∃ a12, ∃ n12, ∃ c12, ∃ e12, ∃ x13, ∃ x14, env = [(1, .str x1), (2, .fn n_impl_candidates_lit1 [v2x0]), (7, .slice a7 n7 c7 e7), (12, .slice a12 n12 c12 e12), (13, .int .i64 x13), (14, .int .i64 x14)] ∧ R3 x1 v2x0 a7 n7 c7 e7 a12 n12 c12 e12 x13 x14 h := by
  unfold E3 at hi
  have hi0 := hi
  clear hi
  obtain ⟨_, _, rfl, hi1⟩ := eVal_elim hi0
  obtain ⟨x1, rfl, hi2⟩ := xStr_elim hi1
  obtain ⟨_, _, rfl, hi3⟩ := eVal_elim hi2
  obtain ⟨cs, rfl, hi4⟩ := eFn_elim hi3
  obtain ⟨c, cs', rfl, hi5⟩ := xCons_elim hi4
  obtain ⟨v2x0, hx, hi6⟩ := xAny_elim hi5
  replace hx := (Option.some.inj hx).symm
  subst hx
  obtain ⟨rfl, hi7⟩ := xNil_elim hi6
  obtain ⟨_, _, rfl, hi8⟩ := eVal_elim hi7
  obtain ⟨a7, n7, c7, e7, rfl, hi9⟩ := xSl_elim hi8
  obtain ⟨_, _, rfl, hi10⟩ := eVal_elim hi9
  obtain ⟨a12, n12, c12, e12, rfl, hi11⟩ := xSl_elim hi10
  obtain ⟨_, _, rfl, hi12⟩ := eVal_elim hi11
  obtain ⟨x13, rfl, hi13⟩ := eInt_elim hi12
  obtain ⟨_, _, rfl, hi14⟩ := eVal_elim hi13
  obtain ⟨x14, rfl, hi15⟩ := eInt_elim hi14
  obtain ⟨rfl, hi16⟩ := eNil_elim hi15
  have hi := hi16
  exact ⟨x1, v2x0, a7, n7, c7, e7, a12, n12, c12, e12, x13, x14, rfl, hi⟩
def K0 (Q : QT) : KT := andThen (fun env' h' => (match kp.find 4000008 with | some ks => Den pg fn.ntmps (C [1, 1, 1]) (env'.keep ks) h' (KR Q) | none => den pg fn.ntmps kp (C [1, 1, 1]) env' h' (KR Q))) (KR Q)
def K1 (Q : QT) : KT := onExit 0 (K0 Q)
def K2 (Q : QT) : KT := left kp 3 (K1 Q)
def K3 (Q : QT) (R3 : T3) : KT := rnd ((kp.find 1000003).getD []) (E3 R3) (K2 Q)
def L3 (Q : QT) (x1 : List Nat) (v2x0 : AVal) (a7 : Pt) (n7 c7 : Nat) (e7 : Bool) (a12 : Pt) (n12 c12 : Nat) (e12 : Bool) (x13 x14 : Int) (h : AHeap) : Prop := Loop (Den pg fn.ntmps (C [1, 1, 0, 1, 0, 0])) ((kp.find 1000003).getD []) (K2 Q) [(1, .str x1), (2, .fn n_impl_candidates_lit1 [v2x0]), (7, .slice a7 n7 c7 e7), (12, .slice a12 n12 c12 e12), (13, .int .i64 x13), (14, .int .i64 x14)] h
def J7 (Q : QT) (R3 : T3) (x14 x13 : Int) (a12 : Pt) (n12 c12 : Nat) (e12 : Bool) (x1 : List Nat) (v2x0 : AVal) (a7 : Pt) (n7 c7 : Nat) (e7 : Bool) (h : AHeap) : Prop := Den pg fn.ntmps (C [1, 1, 0, 1, 0, 0, 1, 1, 1]) [(14, .int .i64 x14), (13, .int .i64 x13), (12, .slice a12 n12 c12 e12), (1, .str x1), (2, .fn n_impl_candidates_lit1 [v2x0]), (7, .slice a7 n7 c7 e7)] h (K3 Q R3)
def A3x0 (Q : QT) (a7 : Pt) (n7 c7 : Nat) (e7 : Bool) (h : AHeap) : Prop := At (K1 Q) (.exit 0) [(7, .slice a7 n7 c7 e7)] h
def L3t (Q : QT) (R3 : T3) (x1 : List Nat) (v2x0 : AVal) (a7 : Pt) (n7 c7 : Nat) (e7 : Bool) (a12 : Pt) (n12 c12 : Nat) (e12 : Bool) (x13 x14 : Int) (h : AHeap) : Prop :=
 bcase (decide ((x14 : Int) < x13)) ((0 ≤ (x14 : Int) ∧ (x14 : Int) < (n12 : Nat)) ∧ (xSome a12 fun I6 O7 => xRow (hRow h (.ptr (some (I6, O7 + (Int.toNat x14) * 3))) 3) fun K8 => xCons K8 fun C9 Z10 => xStr (some C9) fun S11 => xCons Z10 fun C12 Z13 => xStr (some C12) fun S14 => xCons Z13 fun C15 Z16 => xSl (some C15) fun A17 N18 C19 E20 => xNil Z16 (letH (h ++ [.cells t_impl_Instance [.str [], .str [], .slice none 0 0 true] false]) fun H21 => xHeap (hStore H21 (.ptr (some (h.length, 0))) [.str S11, .str S14, .slice A17 N18 C19 E20]) fun H22 => xStr (hCell H22 (.ptr (some (h.length, 0 + 0 + 0)))) fun S23 => bcase (decide (S23 = x1)) (xRow (hRow H22 (.ptr (some (h.length, 0))) 3) fun K24 => xCons K24 fun C25 Z26 => xStr (some C25) fun S27 => xCons Z26 fun C28 Z29 => xStr (some C28) fun S30 => xCons Z29 fun C31 Z32 => xSl (some C31) fun A33 N34 C35 E36 => xNil Z32 (SCall pg n_impl_candidates_lit1 [.agg [.str S27, .str S30, .slice A33 N34 C35 E36], v2x0] H22 fun V37 H38 =>
 xBool (some V37) fun B39 => bcase B39 (letH (H38 ++ [.cells t_int [.int .i64 x14] false]) fun H40 => appendA pg t_L_int H40 (.slice a7 n7 c7 e7) (.slice (some (H38.length, 0)) 1 1 true) fun V41 H42 => xSl (some V41) fun A43 N44 C45 E46 => J7 Q R3 x14 x13 a12 n12 c12 e12 x1 v2x0 A43 N44 C45 E46 H42) (J7 Q R3 x14 x13 a12 n12 c12 e12 x1 v2x0 a7 n7 c7 e7 H38))) (J7 Q R3 x14 x13 a12 n12 c12 e12 x1 v2x0 a7 n7 c7 e7 H22)))) (A3x0 Q a7 n7 c7 e7 h)
theorem L3den (Q : QT) (R3 : T3) (x1 : List Nat) (v2x0 : AVal) (a7 : Pt) (n7 c7 : Nat) (e7 : Bool) (a12 : Pt) (n12 c12 : Nat) (e12 : Bool) (x13 x14 : Int) (h : AHeap) (ht : L3t Q R3 x1 v2x0 a7 n7 c7 e7 a12 n12 c12 e12 x13 x14 h) : Den pg fn.ntmps (C [1, 1, 0, 1, 0, 0]) [(1, .str x1), (2, .fn n_impl_candidates_lit1 [v2x0]), (7, .slice a7 n7 c7 e7), (12, .slice a12 n12 c12 e12), (13, .int .i64 x13), (14, .int .i64 x14)] h (K3 Q R3) :=
  den_Den (kp := kp) (cast (by kernel_rfl) ht)
theorem L3ind (Q : QT) (x1 : List Nat) (v2x0 : AVal) (a12 : Pt) (n12 c12 : Nat) (e12 : Bool) (x13 : Int) {G : Type} (J : G → Pt → Nat → Nat → Bool → Int → AHeap → Prop) (m : G → Nat)
 (hr : ∀ (g : G) (a7 : Pt) (n7 c7 : Nat) (e7 : Bool) (x14 : Int) (h : AHeap), J g a7 n7 c7 e7 x14 h → ∀ (R3 : T3), (∀ g' (a7 : Pt) (n7 c7 : Nat) (e7 : Bool) (x14 : Int) (h : AHeap), m g' < m g → J g' a7 n7 c7 e7 x14 h → R3 x1 v2x0 a7 n7 c7 e7 a12 n12 c12 e12 x13 x14 h) → L3t Q R3 x1 v2x0 a7 n7 c7 e7 a12 n12 c12 e12 x13 x14 h)
 (g : G) (a7 : Pt) (n7 c7 : Nat) (e7 : Bool) (x14 : Int) (h : AHeap) (hj : J g a7 n7 c7 e7 x14 h) : L3 Q x1 v2x0 a7 n7 c7 e7 a12 n12 c12 e12 x13 x14 h := by
  refine Loop.inv2 (fun g => E3 fun x1' v2x0' a7 n7 c7 e7 a12' n12' c12' e12' x13' x14 h => x1 = x1' ∧ v2x0 = v2x0' ∧ a12 = a12' ∧ n12 = n12' ∧ c12 = c12' ∧ e12 = e12' ∧ x13 = x13' ∧ J g a7 n7 c7 e7 x14 h) (fun g => E3 fun x1' v2x0' a7 n7 c7 e7 a12' n12' c12' e12' x13' x14 h => x1 = x1' ∧ v2x0 = v2x0' ∧ a12 = a12' ∧ n12 = n12' ∧ c12 = c12' ∧ e12 = e12' ∧ x13 = x13' ∧ ∃ g', m g' < m g ∧ J g' a7 n7 c7 e7 x14 h) m ?_ ?_ g ⟨rfl, rfl, rfl, rfl, rfl, rfl, rfl, hj⟩
  · intro g env h hi
    obtain ⟨x1', v2x0', a7, n7, c7, e7, a12', n12', c12', e12', x13', x14, rfl, rfl, rfl, rfl, rfl, rfl, rfl, rfl, hj⟩ := E3elim hi
    exact L3den Q _ x1 v2x0 a7 n7 c7 e7 a12 n12 c12 e12 x13 x14 h (hr g a7 n7 c7 e7 x14 h hj (fun x1' v2x0' a7 n7 c7 e7 a12' n12' c12' e12' x13' x14 h => x1 = x1' ∧ v2x0 = v2x0' ∧ a12 = a12' ∧ n12 = n12' ∧ c12 = c12' ∧ e12 = e12' ∧ x13 = x13' ∧ ∃ g', m g' < m g ∧ J g' a7 n7 c7 e7 x14 h) fun g' a7 n7 c7 e7 x14 h hlt hj => ⟨rfl, rfl, rfl, rfl, rfl, rfl, rfl, g', hlt, hj⟩)
  · intro g env h hi
    obtain ⟨x1', v2x0', a7, n7, c7, e7, a12', n12', c12', e12', x13', x14, rfl, rfl, rfl, rfl, rfl, rfl, rfl, rfl, g', hlt, hj⟩ := E3elim hi
    exact ⟨g', hlt, rfl, rfl, rfl, rfl, rfl, rfl, rfl, hj⟩
theorem J7i (Q : QT) (R3 : T3) (x14 x13 : Int) (a12 : Pt) (n12 c12 : Nat) (e12 : Bool) (x1 : List Nat) (v2x0 : AVal) (a7 : Pt) (n7 c7 : Nat) (e7 : Bool) (h : AHeap) (ht :
 R3 x1 v2x0 a7 n7 c7 e7 a12 n12 c12 e12 x13 (IntKind.wrap .i64 (x14 + 1)) h) : J7 Q R3 x14 x13 a12 n12 c12 e12 x1 v2x0 a7 n7 c7 e7 h :=
  den_Den (kp := kp) (cast (by kernel_rfl) ht)
theorem A3x0i (Q : QT) (a7 : Pt) (n7 c7 : Nat) (e7 : Bool) (h : AHeap) (ht :
 Q (.slice a7 n7 c7 e7) h) : A3x0 Q a7 n7 c7 e7 h :=
  At.mk (cast (by kernel_rfl) ht)
theorem call (a0x0 : Pt) (n0x0 c0x0 : Nat) (e0x0 : Bool) (a0x1 : Pt) (n0x1 c0x1 : Nat) (e0x1 : Bool) (x1 : List Nat) (v2x0 : AVal) (h : AHeap) (Q : QT) (ht :
 letH (h ++ [.cells t_impl_World [.slice a0x0 n0x0 c0x0 e0x0, .slice a0x1 n0x1 c0x1 e0x1] false]) fun H0 => letH (H0 ++ [.cells t_int [] false]) fun H1 => xSl (hCell H1 (.ptr (some (h.length, 0 + 1)))) fun A2 N3 C4 E5 => L3 Q x1 v2x0 (some (H0.length, 0)) 0 0 true A2 N3 C4 E5 (((N3 : Nat) : Int)) 0 H1) : SCall pg n_impl_among [.agg [.slice a0x0 n0x0 c0x0 e0x0, .slice a0x1 n0x1 c0x1 e0x1], .str x1, .fn n_impl_candidates_lit1 [v2x0]] h Q :=
  SCall.of_body kp (c := cod fn) (fn := fn) Go.Proofs.Tryz.func135 (by kernel_rfl) (by kernel_rfl) (Nat.le_of_ble_eq_true (by kernel_rfl))
    (cast (by kernel_rfl) ht)
end F_impl_among__impl_candidates_lit1
/-! Function loop.example/instancesearch/impl.candidates -/
namespace F_impl_candidates
noncomputable abbrev fn : Func := Go.Proofs.Tryz.f101
def kp : Keeps := []
noncomputable def C (p : List Nat) : Code := (cod fn).sub p
def KR (Q : QT) : KT := retA pg fn.results.toList Q
theorem call (a0x0 : Pt) (n0x0 c0x0 : Nat) (e0x0 : Bool) (a0x1 : Pt) (n0x1 c0x1 : Nat) (e0x1 : Bool) (x1x0 x1x1 : List Nat) (h : AHeap) (Q : QT) (ht :
 letH (h ++ [.cells t_impl_World [.slice a0x0 n0x0 c0x0 e0x0, .slice a0x1 n0x1 c0x1 e0x1] false]) fun H0 => letH (H0 ++ [.cells t_impl_Need [.str x1x0, .str x1x1] false]) fun H1 => xRow (hRow H1 (.ptr (some (h.length, 0))) 2) fun K2 => xCons K2 fun C3 Z4 => xSl (some C3) fun A5 N6 C7 E8 => xCons Z4 fun C9 Z10 => xSl (some C9) fun A11 N12 C13 E14 => xNil Z10 (xStr (hCell H1 (.ptr (some (H0.length, 0 + 0)))) fun S15 => SCall pg n_impl_among [.agg [.slice A5 N6 C7 E8, .slice A11 N12 C13 E14], .str S15, .fn n_impl_candidates_lit1 [.ptr (some (H0.length, 0))]] H1 fun V16 H17 =>
 xSl (some V16) fun A18 N19 C20 E21 => Q (.slice A18 N19 C20 E21) H17)) : SCall pg n_impl_candidates [.agg [.slice a0x0 n0x0 c0x0 e0x0, .slice a0x1 n0x1 c0x1 e0x1], .agg [.str x1x0, .str x1x1]] h Q :=
  SCall.of_body kp (c := cod fn) (fn := fn) Go.Proofs.Tryz.func101 (by kernel_rfl) (by kernel_rfl) (Nat.le_of_ble_eq_true (by kernel_rfl))
    (cast (by kernel_rfl) ht)
end F_impl_candidates
/-! Function loop.example/instancesearch/spec.l4Candidates -/
namespace F_spec_l4Candidates
noncomputable abbrev fn : Func := Go.Proofs.Tryz.f94
def kp : Keeps := [(3000003, [5]), (1000003, [3, 5, 10, 11, 12]), (4000007, [12, 11, 10, 3, 5])]
noncomputable def C (p : List Nat) : Code := (cod fn).sub p
def KR (Q : QT) : KT := retA pg fn.results.toList Q
abbrev T3 := Nat → Nat → Pt → Nat → Nat → Bool → Pt → Nat → Nat → Bool → Int → Int → AHeap → Prop
def E3 (R3 : T3) (env : Env) (h : AHeap) : Prop := eVal 3 env fun v env => xPtr (some v) fun a => xSome a fun i3 o3 => eVal 5 env fun v env => xSl (some v) fun a5 n5 c5 e5 => eVal 10 env fun v env => xSl (some v) fun a10 n10 c10 e10 => eVal 11 env fun v env => eInt .i64 v fun x11 => eVal 12 env fun v env => eInt .i64 v fun x12 => eNil env (R3 i3 o3 a5 n5 c5 e5 a10 n10 c10 e10 x11 x12 h)
theorem E3elim {R3 : T3} {env : Env} {h : AHeap} (hi : E3 R3 env h) : ∃ i3, ∃ o3, ∃ a5, ∃ n5, ∃ c5, ∃ e5, ∃ a10, ∃ n10, ∃ c10, ∃ e10, ∃ x11, ∃ x12, env = [(3, .ptr (some (i3, o3))), (5, .slice a5 n5 c5 e5), (10, .slice a10 n10 c10 e10), (11, .int .i64 x11), (12, .int .i64 x12)] ∧ R3 i3 o3 a5 n5 c5 e5 a10 n10 c10 e10 x11 x12 h := by
  unfold E3 at hi
  have hi0 := hi
  clear hi
  obtain ⟨_, _, rfl, hi1⟩ := eVal_elim hi0
  obtain ⟨a, rfl, hi2⟩ := xPtr_elim hi1
  obtain ⟨i3, o3, rfl, hi3⟩ := xSome_elim hi2
  obtain ⟨_, _, rfl, hi4⟩ := eVal_elim hi3
  obtain ⟨a5, n5, c5, e5, rfl, hi5⟩ := xSl_elim hi4
  obtain ⟨_, _, rfl, hi6⟩ := eVal_elim hi5
  obtain ⟨a10, n10, c10, e10, rfl, hi7⟩ := xSl_elim hi6
  obtain ⟨_, _, rfl, hi8⟩ := eVal_elim hi7
  obtain ⟨x11, rfl, hi9⟩ := eInt_elim hi8
  obtain ⟨_, _, rfl, hi10⟩ := eVal_elim hi9
  obtain ⟨x12, rfl, hi11⟩ := eInt_elim hi10
  obtain ⟨rfl, hi12⟩ := eNil_elim hi11
  have hi := hi12
  exact ⟨i3, o3, a5, n5, c5, e5, a10, n10, c10, e10, x11, x12, rfl, hi⟩
def K0 (Q : QT) : KT := andThen (fun env' h' => (match kp.find 4000008 with | some ks => Den pg fn.ntmps (C [1, 1, 1]) (env'.keep ks) h' (KR Q) | none => den pg fn.ntmps kp (C [1, 1, 1]) env' h' (KR Q))) (KR Q)
def K1 (Q : QT) : KT := onExit 0 (K0 Q)
def K2 (Q : QT) : KT := left kp 3 (K1 Q)
def K3 (Q : QT) (R3 : T3) : KT := rnd ((kp.find 1000003).getD []) (E3 R3) (K2 Q)
def L3 (Q : QT) (i3 o3 : Nat) (a5 : Pt) (n5 c5 : Nat) (e5 : Bool) (a10 : Pt) (n10 c10 : Nat) (e10 : Bool) (x11 x12 : Int) (h : AHeap) : Prop := Loop (Den pg fn.ntmps (C [1, 1, 0, 1, 0, 0])) ((kp.find 1000003).getD []) (K2 Q) [(3, .ptr (some (i3, o3))), (5, .slice a5 n5 c5 e5), (10, .slice a10 n10 c10 e10), (11, .int .i64 x11), (12, .int .i64 x12)] h
def J7 (Q : QT) (R3 : T3) (x12 x11 : Int) (a10 : Pt) (n10 c10 : Nat) (e10 : Bool) (i3 o3 : Nat) (a5 : Pt) (n5 c5 : Nat) (e5 : Bool) (h : AHeap) : Prop := Den pg fn.ntmps (C [1, 1, 0, 1, 0, 0, 1, 1, 1]) [(12, .int .i64 x12), (11, .int .i64 x11), (10, .slice a10 n10 c10 e10), (3, .ptr (some (i3, o3))), (5, .slice a5 n5 c5 e5)] h (K3 Q R3)
def A3x0 (Q : QT) (a5 : Pt) (n5 c5 : Nat) (e5 : Bool) (h : AHeap) : Prop := At (K1 Q) (.exit 0) [(5, .slice a5 n5 c5 e5)] h
def L3t (Q : QT) (R3 : T3) (i3 o3 : Nat) (a5 : Pt) (n5 c5 : Nat) (e5 : Bool) (a10 : Pt) (n10 c10 : Nat) (e10 : Bool) (x11 x12 : Int) (h : AHeap) : Prop :=
 bcase (decide ((x12 : Int) < x11)) ((0 ≤ (x12 : Int) ∧ (x12 : Int) < (n10 : Nat)) ∧ (xSome a10 fun I7 O8 => xRow (hRow h (.ptr (some (I7, O8 + (Int.toNat x12) * 3))) 3) fun K9 => xCons K9 fun C10 Z11 => xStr (some C10) fun S12 => xCons Z11 fun C13 Z14 => xStr (some C13) fun S15 => xCons Z14 fun C16 Z17 => xSl (some C16) fun A18 N19 C20 E21 => xNil Z17 (letH (h ++ [.cells t_impl_Instance [.str [], .str [], .slice none 0 0 true] false]) fun H22 => xHeap (hStore H22 (.ptr (some (h.length, 0))) [.str S12, .str S15, .slice A18 N19 C20 E21]) fun H23 => xStr (hCell H23 (.ptr (some (h.length, 0 + 0 + 0)))) fun S24 => xStr (hCell H23 (.ptr (some (i3, o3 + 0)))) fun S25 => bcase (decide (S24 = S25)) (xStr (hCell H23 (.ptr (some (h.length, 0 + 0 + 1)))) fun S26 => xStr (hCell H23 (.ptr (some (i3, o3 + 1)))) fun S27 => SCall pg n_spec_IsInstance [.str S26, .str S27] H23 fun V28 H29 =>
 xBool (some V28) fun B30 => bcase B30 (letH (H29 ++ [.cells t_int [.int .i64 x12] false]) fun H31 => appendA pg t_L_int H31 (.slice a5 n5 c5 e5) (.slice (some (H29.length, 0)) 1 1 true) fun V32 H33 => xSl (some V32) fun A34 N35 C36 E37 => J7 Q R3 x12 x11 a10 n10 c10 e10 i3 o3 A34 N35 C36 E37 H33) (J7 Q R3 x12 x11 a10 n10 c10 e10 i3 o3 a5 n5 c5 e5 H29)) (J7 Q R3 x12 x11 a10 n10 c10 e10 i3 o3 a5 n5 c5 e5 H23)))) (A3x0 Q a5 n5 c5 e5 h)
theorem L3den (Q : QT) (R3 : T3) (i3 o3 : Nat) (a5 : Pt) (n5 c5 : Nat) (e5 : Bool) (a10 : Pt) (n10 c10 : Nat) (e10 : Bool) (x11 x12 : Int) (h : AHeap) (ht : L3t Q R3 i3 o3 a5 n5 c5 e5 a10 n10 c10 e10 x11 x12 h) : Den pg fn.ntmps (C [1, 1, 0, 1, 0, 0]) [(3, .ptr (some (i3, o3))), (5, .slice a5 n5 c5 e5), (10, .slice a10 n10 c10 e10), (11, .int .i64 x11), (12, .int .i64 x12)] h (K3 Q R3) :=
  den_Den (kp := kp) (cast (by kernel_rfl) ht)
theorem L3ind (Q : QT) (i3 o3 : Nat) (a10 : Pt) (n10 c10 : Nat) (e10 : Bool) (x11 : Int) {G : Type} (J : G → Pt → Nat → Nat → Bool → Int → AHeap → Prop) (m : G → Nat)
 (hr : ∀ (g : G) (a5 : Pt) (n5 c5 : Nat) (e5 : Bool) (x12 : Int) (h : AHeap), J g a5 n5 c5 e5 x12 h → ∀ (R3 : T3), (∀ g' (a5 : Pt) (n5 c5 : Nat) (e5 : Bool) (x12 : Int) (h : AHeap), m g' < m g → J g' a5 n5 c5 e5 x12 h → R3 i3 o3 a5 n5 c5 e5 a10 n10 c10 e10 x11 x12 h) → L3t Q R3 i3 o3 a5 n5 c5 e5 a10 n10 c10 e10 x11 x12 h)
 (g : G) (a5 : Pt) (n5 c5 : Nat) (e5 : Bool) (x12 : Int) (h : AHeap) (hj : J g a5 n5 c5 e5 x12 h) : L3 Q i3 o3 a5 n5 c5 e5 a10 n10 c10 e10 x11 x12 h := by
  refine Loop.inv2 (fun g => E3 fun i3' o3' a5 n5 c5 e5 a10' n10' c10' e10' x11' x12 h => i3 = i3' ∧ o3 = o3' ∧ a10 = a10' ∧ n10 = n10' ∧ c10 = c10' ∧ e10 = e10' ∧ x11 = x11' ∧ J g a5 n5 c5 e5 x12 h) (fun g => E3 fun i3' o3' a5 n5 c5 e5 a10' n10' c10' e10' x11' x12 h => i3 = i3' ∧ o3 = o3' ∧ a10 = a10' ∧ n10 = n10' ∧ c10 = c10' ∧ e10 = e10' ∧ x11 = x11' ∧ ∃ g', m g' < m g ∧ J g' a5 n5 c5 e5 x12 h) m ?_ ?_ g ⟨rfl, rfl, rfl, rfl, rfl, rfl, rfl, hj⟩
  · intro g env h hi
    obtain ⟨i3', o3', a5, n5, c5, e5, a10', n10', c10', e10', x11', x12, rfl, rfl, rfl, rfl, rfl, rfl, rfl, rfl, hj⟩ := E3elim hi
    exact L3den Q _ i3 o3 a5 n5 c5 e5 a10 n10 c10 e10 x11 x12 h (hr g a5 n5 c5 e5 x12 h hj (fun i3' o3' a5 n5 c5 e5 a10' n10' c10' e10' x11' x12 h => i3 = i3' ∧ o3 = o3' ∧ a10 = a10' ∧ n10 = n10' ∧ c10 = c10' ∧ e10 = e10' ∧ x11 = x11' ∧ ∃ g', m g' < m g ∧ J g' a5 n5 c5 e5 x12 h) fun g' a5 n5 c5 e5 x12 h hlt hj => ⟨rfl, rfl, rfl, rfl, rfl, rfl, rfl, g', hlt, hj⟩)
  · intro g env h hi
    obtain ⟨i3', o3', a5, n5, c5, e5, a10', n10', c10', e10', x11', x12, rfl, rfl, rfl, rfl, rfl, rfl, rfl, rfl, g', hlt, hj⟩ := E3elim hi
    exact ⟨g', hlt, rfl, rfl, rfl, rfl, rfl, rfl, rfl, hj⟩
theorem J7i (Q : QT) (R3 : T3) (x12 x11 : Int) (a10 : Pt) (n10 c10 : Nat) (e10 : Bool) (i3 o3 : Nat) (a5 : Pt) (n5 c5 : Nat) (e5 : Bool) (h : AHeap) (ht :
 R3 i3 o3 a5 n5 c5 e5 a10 n10 c10 e10 x11 (IntKind.wrap .i64 (x12 + 1)) h) : J7 Q R3 x12 x11 a10 n10 c10 e10 i3 o3 a5 n5 c5 e5 h :=
  den_Den (kp := kp) (cast (by kernel_rfl) ht)
theorem A3x0i (Q : QT) (a5 : Pt) (n5 c5 : Nat) (e5 : Bool) (h : AHeap) (ht :
 Q (.slice a5 n5 c5 e5) h) : A3x0 Q a5 n5 c5 e5 h :=
  At.mk (cast (by kernel_rfl) ht)
theorem call (a0x0 : Pt) (n0x0 c0x0 : Nat) (e0x0 : Bool) (a0x1 : Pt) (n0x1 c0x1 : Nat) (e0x1 : Bool) (x1x0 x1x1 : List Nat) (h : AHeap) (Q : QT) (ht :
 letH (h ++ [.cells t_impl_World [.slice a0x0 n0x0 c0x0 e0x0, .slice a0x1 n0x1 c0x1 e0x1] false]) fun H0 => letH (H0 ++ [.cells t_impl_Need [.str x1x0, .str x1x1] false]) fun H1 => letH (H1 ++ [.cells t_int [] false]) fun H2 => xSl (hCell H2 (.ptr (some (h.length, 0 + 1)))) fun A3 N4 C5 E6 => L3 Q H0.length 0 (some (H1.length, 0)) 0 0 true A3 N4 C5 E6 (((N4 : Nat) : Int)) 0 H2) : SCall pg n_spec_l4Candidates [.agg [.slice a0x0 n0x0 c0x0 e0x0, .slice a0x1 n0x1 c0x1 e0x1], .agg [.str x1x0, .str x1x1]] h Q :=
  SCall.of_body kp (c := cod fn) (fn := fn) Go.Proofs.Tryz.func94 (by kernel_rfl) (by kernel_rfl) (Nat.le_of_ble_eq_true (by kernel_rfl))
    (cast (by kernel_rfl) ht)
end F_spec_l4Candidates
/-! Function loop.example/instancesearch/spec.CandidatesOf -/
namespace F_spec_CandidatesOf
noncomputable abbrev fn : Func := Go.Proofs.Tryz.f163
def kp : Keeps := []
noncomputable def C (p : List Nat) : Code := (cod fn).sub p
def KR (Q : QT) : KT := retA pg fn.results.toList Q
theorem call (a0x0 : Pt) (n0x0 c0x0 : Nat) (e0x0 : Bool) (a0x1 : Pt) (n0x1 c0x1 : Nat) (e0x1 : Bool) (x1x0 x1x1 : List Nat) (h : AHeap) (Q : QT) (ht :
 letH (h ++ [.cells t_impl_World [.slice a0x0 n0x0 c0x0 e0x0, .slice a0x1 n0x1 c0x1 e0x1] false]) fun H0 => letH (H0 ++ [.cells t_impl_Need [.str x1x0, .str x1x1] false]) fun H1 => xRow (hRow H1 (.ptr (some (h.length, 0))) 2) fun K2 => xCons K2 fun C3 Z4 => xSl (some C3) fun A5 N6 C7 E8 => xCons Z4 fun C9 Z10 => xSl (some C9) fun A11 N12 C13 E14 => xNil Z10 (xRow (hRow H1 (.ptr (some (H0.length, 0))) 2) fun K15 => xCons K15 fun C16 Z17 => xStr (some C16) fun S18 => xCons Z17 fun C19 Z20 => xStr (some C19) fun S21 => xNil Z20 (SCall pg n_spec_NeedValid [.agg [.slice A5 N6 C7 E8, .slice A11 N12 C13 E14], .agg [.str S18, .str S21]] H1 fun V22 H23 =>
 xBool (some V22) fun B24 => bcase (!B24) (letH (H23 ++ [.cells t_int [] false]) fun H25 => Q (.tup [.slice (some (H23.length, 0)) 0 0 true, .bool false]) H25) (xRow (hRow H23 (.ptr (some (h.length, 0))) 2) fun K26 => xCons K26 fun C27 Z28 => xSl (some C27) fun A29 N30 C31 E32 => xCons Z28 fun C33 Z34 => xSl (some C33) fun A35 N36 C37 E38 => xNil Z34 (xRow (hRow H23 (.ptr (some (H0.length, 0))) 2) fun K39 => xCons K39 fun C40 Z41 => xStr (some C40) fun S42 => xCons Z41 fun C43 Z44 => xStr (some C43) fun S45 => xNil Z44 (SCall pg n_spec_l4Candidates [.agg [.slice A29 N30 C31 E32, .slice A35 N36 C37 E38], .agg [.str S42, .str S45]] H23 fun V46 H47 =>
 xSl (some V46) fun A48 N49 C50 E51 => Q (.tup [.slice A48 N49 C50 E51, .bool true]) H47)))))) : SCall pg n_spec_CandidatesOf [.agg [.slice a0x0 n0x0 c0x0 e0x0, .slice a0x1 n0x1 c0x1 e0x1], .agg [.str x1x0, .str x1x1]] h Q :=
  SCall.of_body kp (c := cod fn) (fn := fn) Go.Proofs.Tryz.func163 (by kernel_rfl) (by kernel_rfl) (Nat.le_of_ble_eq_true (by kernel_rfl))
    (cast (by kernel_rfl) ht)
end F_spec_CandidatesOf
end Go.Sim

/- Printed by wip/tool: what the functions' bodies do, in the words of 'den'. -/
set_option maxRecDepth 100000
set_option linter.unusedVariables false
namespace Go.Sim
open Go Go.RowKit
/-! Function loop.example/instancesearch/impl.special -/
namespace F_impl_special
noncomputable abbrev fn : Func := Go.Proofs.Tryz.f143
def kp : Keeps := []
noncomputable def C (p : List Nat) : Code := (cod fn).sub p
def KR (Q : QT) : KT := retA pg fn.results.toList Q
theorem call (x0x0 x0x1 : List Nat) (a0x2 : Pt) (n0x2 c0x2 : Nat) (e0x2 : Bool) (x1x0 x1x1 : List Nat) (a1x2 : Pt) (n1x2 c1x2 : Nat) (e1x2 : Bool) (h : AHeap) (Q : QT) (ht :
 letH (h ++ [.cells t_impl_Instance [.str x0x0, .str x0x1, .slice a0x2 n0x2 c0x2 e0x2] false]) fun H0 => letH (H0 ++ [.cells t_impl_Instance [.str x1x0, .str x1x1, .slice a1x2 n1x2 c1x2 e1x2] false]) fun H1 => xStr (hCell H1 (.ptr (some (h.length, 0 + 0 + 0)))) fun S2 => xStr (hCell H1 (.ptr (some (H0.length, 0 + 0 + 0)))) fun S3 => bcase (decide (S2 = S3)) (xStr (hCell H1 (.ptr (some (H0.length, 0 + 0 + 1)))) fun S4 => xStr (hCell H1 (.ptr (some (h.length, 0 + 0 + 1)))) fun S5 => SCall pg n_impl_IsInstance [.str S4, .str S5] H1 fun V6 H7 =>
 xBool (some V6) fun B8 => Q (.bool B8) H7) (Q (.bool false) H1)) : SCall pg n_impl_special [.agg [.str x0x0, .str x0x1, .slice a0x2 n0x2 c0x2 e0x2], .agg [.str x1x0, .str x1x1, .slice a1x2 n1x2 c1x2 e1x2]] h Q :=
  SCall.of_body kp (c := cod fn) (fn := fn) Go.Proofs.Tryz.func143 (by kernel_rfl) (by kernel_rfl) (Nat.le_of_ble_eq_true (by kernel_rfl))
    (cast (by kernel_rfl) ht)
end F_impl_special
/-! Function loop.example/instancesearch/spec.IsSpecial -/
namespace F_spec_IsSpecial
noncomputable abbrev fn : Func := Go.Proofs.Tryz.f164
def kp : Keeps := [(4000003, [3, 1, 2]), (2000003, [6])]
noncomputable def C (p : List Nat) : Code := (cod fn).sub p
def KR (Q : QT) : KT := retA pg fn.results.toList Q
def J3 (Q : QT) (i3 o3 : Nat) (x1 x2 : Int) (h : AHeap) : Prop := Den pg fn.ntmps (C [1, 1]) [(3, .ptr (some (i3, o3))), (1, .int .i64 x1), (2, .int .i64 x2)] h (KR Q)
theorem J3i (Q : QT) (i3 o3 : Nat) (x1 x2 : Int) (h : AHeap) (ht :
 xSl (hCell h (.ptr (some (i3, o3 + 1)))) fun A31 N32 C33 E34 => (0 ≤ (x1 : Int) ∧ (x1 : Int) < (N32 : Nat)) ∧ (xSome A31 fun I35 O36 => xStr (hCell h (.ptr (some (I35, O36 + (Int.toNat x1) * 3 + 0 + 0)))) fun S37 => xSl (hCell h (.ptr (some (i3, o3 + 1)))) fun A38 N39 C40 E41 => (hCell h (.ptr (some (I35, O36 + (Int.toNat x1) * 3 + 0 + 0))) = hCell h (.ptr (some (I35, O36 + (Int.toNat x1) * 3 + 0 + 0)))) ∧ (hCell h (.ptr (some (i3, o3 + 1))) = hCell h (.ptr (some (i3, o3 + 1)))) ∧ (0 ≤ (x2 : Int) ∧ (x2 : Int) < (N39 : Nat)) ∧ (xSome A38 fun I42 O43 => xStr (hCell h (.ptr (some (I42, O43 + (Int.toNat x2) * 3 + 0 + 0)))) fun S44 => (hCell h (.ptr (some (I35, O36 + (Int.toNat x1) * 3 + 0 + 0))) = hCell h (.ptr (some (I35, O36 + (Int.toNat x1) * 3 + 0 + 0)))) ∧ (hCell h (.ptr (some (i3, o3 + 1))) = hCell h (.ptr (some (i3, o3 + 1)))) ∧ bcase (decide (S37 = S44)) (xSl (hCell h (.ptr (some (i3, o3 + 1)))) fun A45 N46 C47 E48 => (0 ≤ (x2 : Int) ∧ (x2 : Int) < (N46 : Nat)) ∧ (xSome A45 fun I49 O50 => xStr (hCell h (.ptr (some (I49, O50 + (Int.toNat x2) * 3 + 0 + 1)))) fun S51 => xSl (hCell h (.ptr (some (i3, o3 + 1)))) fun A52 N53 C54 E55 => (hCell h (.ptr (some (I49, O50 + (Int.toNat x2) * 3 + 0 + 1))) = hCell h (.ptr (some (I49, O50 + (Int.toNat x2) * 3 + 0 + 1)))) ∧ (hCell h (.ptr (some (i3, o3 + 1))) = hCell h (.ptr (some (i3, o3 + 1)))) ∧ (hCell h (.ptr (some (I35, O36 + (Int.toNat x1) * 3 + 0 + 0))) = hCell h (.ptr (some (I35, O36 + (Int.toNat x1) * 3 + 0 + 0)))) ∧ (hCell h (.ptr (some (i3, o3 + 1))) = hCell h (.ptr (some (i3, o3 + 1)))) ∧ (0 ≤ (x1 : Int) ∧ (x1 : Int) < (N53 : Nat)) ∧ (xSome A52 fun I56 O57 => xStr (hCell h (.ptr (some (I56, O57 + (Int.toNat x1) * 3 + 0 + 1)))) fun S58 => (hCell h (.ptr (some (I49, O50 + (Int.toNat x2) * 3 + 0 + 1))) = hCell h (.ptr (some (I49, O50 + (Int.toNat x2) * 3 + 0 + 1)))) ∧ (hCell h (.ptr (some (i3, o3 + 1))) = hCell h (.ptr (some (i3, o3 + 1)))) ∧ (hCell h (.ptr (some (I35, O36 + (Int.toNat x1) * 3 + 0 + 0))) = hCell h (.ptr (some (I35, O36 + (Int.toNat x1) * 3 + 0 + 0)))) ∧ (hCell h (.ptr (some (i3, o3 + 1))) = hCell h (.ptr (some (i3, o3 + 1)))) ∧ SCall pg n_spec_IsInstance [.str S51, .str S58] h fun V59 H60 =>
 xBool (some V59) fun B61 => (hCell H60 (.ptr (some (i3, o3 + 1))) = hCell h (.ptr (some (i3, o3 + 1)))) ∧ (hCell H60 (.ptr (some (I35, O36 + (Int.toNat x1) * 3 + 0 + 0))) = hCell h (.ptr (some (I35, O36 + (Int.toNat x1) * 3 + 0 + 0)))) ∧ (hCell H60 (.ptr (some (i3, o3 + 1))) = hCell h (.ptr (some (i3, o3 + 1)))) ∧ Q (.bool B61) H60))) ((hCell h (.tup []) = hCell h (.tup [])) ∧ (hCell h (.tup []) = hCell h (.tup [])) ∧ (hCell h (.ptr (some (I35, O36 + (Int.toNat x1) * 3 + 0 + 0))) = hCell h (.ptr (some (I35, O36 + (Int.toNat x1) * 3 + 0 + 0)))) ∧ (hCell h (.ptr (some (i3, o3 + 1))) = hCell h (.ptr (some (i3, o3 + 1)))) ∧ (hCell h (.tup []) = hCell h (.tup [])) ∧ (hCell h (.tup []) = hCell h (.tup [])) ∧ (hCell h (.ptr (some (I35, O36 + (Int.toNat x1) * 3 + 0 + 0))) = hCell h (.ptr (some (I35, O36 + (Int.toNat x1) * 3 + 0 + 0)))) ∧ (hCell h (.ptr (some (i3, o3 + 1))) = hCell h (.ptr (some (i3, o3 + 1)))) ∧ (hCell h (.tup []) = hCell h (.tup [])) ∧ (hCell h (.ptr (some (I35, O36 + (Int.toNat x1) * 3 + 0 + 0))) = hCell h (.ptr (some (I35, O36 + (Int.toNat x1) * 3 + 0 + 0)))) ∧ (hCell h (.ptr (some (i3, o3 + 1))) = hCell h (.ptr (some (i3, o3 + 1)))) ∧ Q (.bool false) h)))) : J3 Q i3 o3 x1 x2 h :=
  den_Den (kp := kp) (cast (by kernel_rfl) ht)
theorem call (a0x0 : Pt) (n0x0 c0x0 : Nat) (e0x0 : Bool) (a0x1 : Pt) (n0x1 c0x1 : Nat) (e0x1 : Bool) (x1 x2 : Int) (h : AHeap) (Q : QT) (ht :
 letH (h ++ [.cells t_impl_World [.slice a0x0 n0x0 c0x0 e0x0, .slice a0x1 n0x1 c0x1 e0x1] false]) fun H0 => xRow (hRow H0 (.ptr (some (h.length, 0))) 2) fun K1 => xCons K1 fun C2 Z3 => xSl (some C2) fun A4 N5 C6 E7 => xCons Z3 fun C8 Z9 => xSl (some C8) fun A10 N11 C12 E13 => xNil Z9 (SCall pg n_spec_WorldValid [.agg [.slice A4 N5 C6 E7, .slice A10 N11 C12 E13]] H0 fun V14 H15 =>
 xBool (some V14) fun B16 => bcase (!B16) (Q (.bool false) H15) (xSl (hCell H15 (.ptr (some (h.length, 0 + 1)))) fun A17 N18 C19 E20 => SCall pg n_spec_l1In [.int .i64 x1, .int .i64 0, .int .i64 (IntKind.wrap .i64 ((((N18 : Nat) : Int)) - 1))] H15 fun V21 H22 =>
 xBool (some V21) fun B23 => bcase (!B23) (Q (.bool false) H22) (xSl (hCell H22 (.ptr (some (h.length, 0 + 1)))) fun A24 N25 C26 E27 => SCall pg n_spec_l1In [.int .i64 x2, .int .i64 0, .int .i64 (IntKind.wrap .i64 ((((N25 : Nat) : Int)) - 1))] H22 fun V28 H29 =>
 xBool (some V28) fun B30 => bcase (!B30) (Q (.bool false) H29) (J3 Q h.length 0 x1 x2 H29))))) : SCall pg n_spec_IsSpecial [.agg [.slice a0x0 n0x0 c0x0 e0x0, .slice a0x1 n0x1 c0x1 e0x1], .int .i64 x1, .int .i64 x2] h Q :=
  SCall.of_body kp (c := cod fn) (fn := fn) Go.Proofs.Tryz.func164 (by kernel_rfl) (by kernel_rfl) (Nat.le_of_ble_eq_true (by kernel_rfl))
    (cast (by kernel_rfl) ht)
end F_spec_IsSpecial
end Go.Sim

/- Printed by wip/tool: what the functions' bodies do, in the words of 'den'. -/
set_option maxRecDepth 100000
set_option linter.unusedVariables false
namespace Go.Sim
open Go Go.RowKit
/-! Function loop.example/instancesearch/impl.searched -/
namespace F_impl_searched
noncomputable abbrev fn : Func := Go.Proofs.Tryz.f48
def kp : Keeps := []
noncomputable def C (p : List Nat) : Code := (cod fn).sub p
def KR (Q : QT) : KT := retA pg fn.results.toList Q
theorem call (a0x0 : Pt) (n0x0 c0x0 : Nat) (e0x0 : Bool) (a0x1 : Pt) (n0x1 c0x1 : Nat) (e0x1 : Bool) (x1x0 x1x1 : List Nat) (x2 : Bool) (h : AHeap) (Q : QT) (ht :
 letH (h ++ [.cells t_impl_World [.slice a0x0 n0x0 c0x0 e0x0, .slice a0x1 n0x1 c0x1 e0x1] false]) fun H0 => letH (H0 ++ [.cells t_impl_Need [.str x1x0, .str x1x1] false]) fun H1 => xRow (hRow H1 (.ptr (some (h.length, 0))) 2) fun K2 => xCons K2 fun C3 Z4 => xSl (some C3) fun A5 N6 C7 E8 => xCons Z4 fun C9 Z10 => xSl (some C9) fun A11 N12 C13 E14 => xNil Z10 (letH (H1 ++ [.cells t_impl_search [.slice A5 N6 C7 E8, .slice A11 N12 C13 E14, .bool x2, .fn n_impl_searched_lit1 [], .slice none 0 0 true, .str [], .str [], .slice none 0 0 true] false]) fun H15 => xRow (hRow H15 (.ptr (some (h.length, 0))) 2) fun K16 => xCons K16 fun C17 Z18 => xSl (some C17) fun A19 N20 C21 E22 => xCons Z18 fun C23 Z24 => xSl (some C23) fun A25 N26 C27 E28 => xNil Z24 (xRow (hRow H15 (.ptr (some (H0.length, 0))) 2) fun K29 => xCons K29 fun C30 Z31 => xStr (some C30) fun S32 => xCons Z31 fun C33 Z34 => xStr (some C33) fun S35 => xNil Z34 (SCall pg n_impl_NeedValid [.agg [.slice A19 N20 C21 E22, .slice A25 N26 C27 E28], .agg [.str S32, .str S35]] H15 fun V36 H37 =>
 xBool (some V36) fun B38 => bcase (!B38) (Q (.tup [.ptr (some (H1.length, 0)), .str [], .str ([119, 114, 111, 110, 103])]) H37) (xRow (hRow H37 (.ptr (some (H0.length, 0))) 2) fun K39 => xCons K39 fun C40 Z41 => xStr (some C40) fun S42 => xCons Z41 fun C43 Z44 => xStr (some C43) fun S45 => xNil Z44 (SCall pg n_impl_search_ask [.ptr (some (H1.length, 0)), .agg [.str S42, .str S45], .slice none 0 0 true] H37 fun V46 H47 =>
 xTup V46 fun K48 => xCons K48 fun C49 Z50 => xStr (some C49) fun S51 => xCons Z50 fun C52 Z53 => xStr (some C52) fun S54 => xNil Z53 (Q (.tup [.ptr (some (H1.length, 0)), .str S51, .str S54]) H47))))))) : SCall pg n_impl_searched [.agg [.slice a0x0 n0x0 c0x0 e0x0, .slice a0x1 n0x1 c0x1 e0x1], .agg [.str x1x0, .str x1x1], .bool x2] h Q :=
  SCall.of_body kp (c := cod fn) (fn := fn) Go.Proofs.Tryz.func48 (by kernel_rfl) (by kernel_rfl) (Nat.le_of_ble_eq_true (by kernel_rfl))
    (cast (by kernel_rfl) ht)
end F_impl_searched
/-! Function loop.example/instancesearch/impl.FindDict -/
/-! Function loop.example/instancesearch/impl.SpecialDict -/
namespace F_impl_SpecialDict
noncomputable abbrev fn : Func := Go.Proofs.Tryz.f21
def kp : Keeps := []
noncomputable def C (p : List Nat) : Code := (cod fn).sub p
def KR (Q : QT) : KT := retA pg fn.results.toList Q
theorem call (a0x0 : Pt) (n0x0 c0x0 : Nat) (e0x0 : Bool) (a0x1 : Pt) (n0x1 c0x1 : Nat) (e0x1 : Bool) (x1x0 x1x1 : List Nat) (h : AHeap) (Q : QT) (ht :
 letH (h ++ [.cells t_impl_World [.slice a0x0 n0x0 c0x0 e0x0, .slice a0x1 n0x1 c0x1 e0x1] false]) fun H0 => letH (H0 ++ [.cells t_impl_Need [.str x1x0, .str x1x1] false]) fun H1 => xRow (hRow H1 (.ptr (some (h.length, 0))) 2) fun K2 => xCons K2 fun C3 Z4 => xSl (some C3) fun A5 N6 C7 E8 => xCons Z4 fun C9 Z10 => xSl (some C9) fun A11 N12 C13 E14 => xNil Z10 (xRow (hRow H1 (.ptr (some (H0.length, 0))) 2) fun K15 => xCons K15 fun C16 Z17 => xStr (some C16) fun S18 => xCons Z17 fun C19 Z20 => xStr (some C19) fun S21 => xNil Z20 (SCall pg n_impl_searched [.agg [.slice A5 N6 C7 E8, .slice A11 N12 C13 E14], .agg [.str S18, .str S21], .bool true] H1 fun V22 H23 =>
 xTup V22 fun K24 => xCons K24 fun C25 Z26 => xPtr (some C25) fun A27 => xCons Z26 fun C28 Z29 => xStr (some C28) fun S30 => xCons Z29 fun C31 Z32 => xStr (some C31) fun S33 => xNil Z32 (Q (.tup [.str S30, .str S33]) H23)))) : SCall pg n_impl_SpecialDict [.agg [.slice a0x0 n0x0 c0x0 e0x0, .slice a0x1 n0x1 c0x1 e0x1], .agg [.str x1x0, .str x1x1]] h Q :=
  SCall.of_body kp (c := cod fn) (fn := fn) Go.Proofs.Tryz.func21 (by kernel_rfl) (by kernel_rfl) (Nat.le_of_ble_eq_true (by kernel_rfl))
    (cast (by kernel_rfl) ht)
end F_impl_SpecialDict
/-! Function loop.example/instancesearch/impl.HasInstance -/
/-! Function loop.example/instancesearch/impl.FailingNeed -/
end Go.Sim
