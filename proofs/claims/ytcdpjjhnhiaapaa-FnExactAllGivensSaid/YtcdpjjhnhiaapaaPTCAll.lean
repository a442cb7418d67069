/- A part of the proof of a statement of this seat: see the text that holds the theorem. No condition. -/
import Derived.Test.YtcdpjjhnhiaapaaNm
set_option linter.unusedVariables false
set_option linter.unusedSimpArgs false
set_option linter.all false
/- Printed by wip/tool: what the functions' bodies do, in the words of 'den'. -/
set_option maxRecDepth 100000
set_option linter.unusedVariables false
namespace Go.Sim
open Go Go.RowKit
/-! Function loop.example/instancesearch/spec.AllGivens -/
namespace F_spec_AllGivens
noncomputable abbrev fn : Func := Go.Proofs.Try.f35
def kp : Keeps := [(3000005, [6]), (1000005, [2, 6, 18, 19, 20]), (3000009, [20, 19, 18, 2, 6]), (1000009, [2, 6, 8, 9, 10, 18, 19, 20]), (4000014, [6, 11, 10, 9, 8, 20, 19, 18, 2]), (4000010, [10, 9, 8, 6, 20, 19, 18, 2])]
noncomputable def C (p : List Nat) : Code := (cod fn).sub p
def KR (Q : QT) : KT := retA pg fn.results.toList Q
abbrev T5 := Nat → Nat → Pt → Nat → Nat → Bool → Pt → Nat → Nat → Bool → Int → Int → AHeap → Prop
def E5 (R5 : T5) (env : Env) (h : AHeap) : Prop := eVal 2 env fun v env => xPtr (some v) fun a => xSome a fun i2 o2 => eVal 6 env fun v env => xSl (some v) fun a6 n6 c6 e6 => eVal 18 env fun v env => xSl (some v) fun a18 n18 c18 e18 => eVal 19 env fun v env => eInt .i64 v fun x19 => eVal 20 env fun v env => eInt .i64 v fun x20 => eNil env (R5 i2 o2 a6 n6 c6 e6 a18 n18 c18 e18 x19 x20 h)
theorem E5elim {R5 : T5} {env : Env} {h : AHeap} (hi : E5 R5 env h) : ∃ i2, ∃ o2, ∃ a6, ∃ n6, ∃ c6, ∃ e6, ∃ a18, ∃ n18, ∃ c18, ∃ e18, ∃ x19, ∃ x20, env = [(2, .ptr (some (i2, o2))), (6, .slice a6 n6 c6 e6), (18, .slice a18 n18 c18 e18), (19, .int .i64 x19), (20, .int .i64 x20)] ∧ R5 i2 o2 a6 n6 c6 e6 a18 n18 c18 e18 x19 x20 h := by
  unfold E5 at hi
  have hi0 := hi
  clear hi
  obtain ⟨v, env, rfl, hi1⟩ := eVal_elim hi0
  obtain ⟨a, rfl, hi2⟩ := xPtr_elim hi1
  obtain ⟨i2, o2, rfl, hi3⟩ := xSome_elim hi2
  obtain ⟨v, env, rfl, hi4⟩ := eVal_elim hi3
  obtain ⟨a6, n6, c6, e6, rfl, hi5⟩ := xSl_elim hi4
  obtain ⟨v, env, rfl, hi6⟩ := eVal_elim hi5
  obtain ⟨a18, n18, c18, e18, rfl, hi7⟩ := xSl_elim hi6
  obtain ⟨v, env, rfl, hi8⟩ := eVal_elim hi7
  obtain ⟨x19, rfl, hi9⟩ := eInt_elim hi8
  obtain ⟨v, env, rfl, hi10⟩ := eVal_elim hi9
  obtain ⟨x20, rfl, hi11⟩ := eInt_elim hi10
  obtain ⟨rfl, hi12⟩ := eNil_elim hi11
  have hi := hi12
  exact ⟨i2, o2, a6, n6, c6, e6, a18, n18, c18, e18, x19, x20, rfl, hi⟩
abbrev T9 := Nat → Nat → Pt → Nat → Nat → Bool → Nat → Nat → List Nat → Int → Pt → Nat → Nat → Bool → Int → Int → AHeap → Prop
def E9 (R9 : T9) (env : Env) (h : AHeap) : Prop := eVal 2 env fun v env => xPtr (some v) fun a => xSome a fun i2 o2 => eVal 6 env fun v env => xSl (some v) fun a6 n6 c6 e6 => eVal 8 env fun v env => xPtr (some v) fun a => xSome a fun i8 o8 => eVal 9 env fun v env => xStr (some v) fun x9 => eVal 10 env fun v env => eInt .i64 v fun x10 => eVal 18 env fun v env => xSl (some v) fun a18 n18 c18 e18 => eVal 19 env fun v env => eInt .i64 v fun x19 => eVal 20 env fun v env => eInt .i64 v fun x20 => eNil env (R9 i2 o2 a6 n6 c6 e6 i8 o8 x9 x10 a18 n18 c18 e18 x19 x20 h)
theorem E9elim {R9 : T9} {env : Env} {h : AHeap} (hi : E9 R9 env h) : ∃ i2, ∃ o2, ∃ a6, ∃ n6, ∃ c6, ∃ e6, ∃ i8, ∃ o8, ∃ x9, ∃ x10, ∃ a18, ∃ n18, ∃ c18, ∃ e18, ∃ x19, ∃ x20, env = [(2, .ptr (some (i2, o2))), (6, .slice a6 n6 c6 e6), (8, .ptr (some (i8, o8))), (9, .str x9), (10, .int .i64 x10), (18, .slice a18 n18 c18 e18), (19, .int .i64 x19), (20, .int .i64 x20)] ∧ R9 i2 o2 a6 n6 c6 e6 i8 o8 x9 x10 a18 n18 c18 e18 x19 x20 h := by
  unfold E9 at hi
  have hi0 := hi
  clear hi
  obtain ⟨v, env, rfl, hi1⟩ := eVal_elim hi0
  obtain ⟨a, rfl, hi2⟩ := xPtr_elim hi1
  obtain ⟨i2, o2, rfl, hi3⟩ := xSome_elim hi2
  obtain ⟨v, env, rfl, hi4⟩ := eVal_elim hi3
  obtain ⟨a6, n6, c6, e6, rfl, hi5⟩ := xSl_elim hi4
  obtain ⟨v, env, rfl, hi6⟩ := eVal_elim hi5
  obtain ⟨a, rfl, hi7⟩ := xPtr_elim hi6
  obtain ⟨i8, o8, rfl, hi8⟩ := xSome_elim hi7
  obtain ⟨v, env, rfl, hi9⟩ := eVal_elim hi8
  obtain ⟨x9, rfl, hi10⟩ := xStr_elim hi9
  obtain ⟨v, env, rfl, hi11⟩ := eVal_elim hi10
  obtain ⟨x10, rfl, hi12⟩ := eInt_elim hi11
  obtain ⟨v, env, rfl, hi13⟩ := eVal_elim hi12
  obtain ⟨a18, n18, c18, e18, rfl, hi14⟩ := xSl_elim hi13
  obtain ⟨v, env, rfl, hi15⟩ := eVal_elim hi14
  obtain ⟨x19, rfl, hi16⟩ := eInt_elim hi15
  obtain ⟨v, env, rfl, hi17⟩ := eVal_elim hi16
  obtain ⟨x20, rfl, hi18⟩ := eInt_elim hi17
  obtain ⟨rfl, hi19⟩ := eNil_elim hi18
  have hi := hi19
  exact ⟨i2, o2, a6, n6, c6, e6, i8, o8, x9, x10, a18, n18, c18, e18, x19, x20, rfl, hi⟩
def K0 (Q : QT) : KT := andThen (fun env' h' => (match kp.find 4000017 with | some ks => Den pg fn.ntmps (C [1, 1, 1, 1]) (env'.keep ks) h' (KR Q) | none => den pg fn.ntmps kp (C [1, 1, 1, 1]) env' h' (KR Q))) (KR Q)
def K1 (Q : QT) : KT := onExit 0 (K0 Q)
def K2 (Q : QT) : KT := left kp 5 (K1 Q)
def K3 (Q : QT) (R5 : T5) : KT := rnd ((kp.find 1000005).getD []) (E5 R5) (K2 Q)
def K4 (Q : QT) (R5 : T5) : KT := andThen (fun env' h' => (match kp.find 4000016 with | some ks => Den pg fn.ntmps (C [1, 1, 1, 0, 1, 0, 0, 1, 1, 1]) (env'.keep ks) h' (K3 Q R5) | none => den pg fn.ntmps kp (C [1, 1, 1, 0, 1, 0, 0, 1, 1, 1]) env' h' (K3 Q R5))) (K3 Q R5)
def K5 (Q : QT) (R5 : T5) : KT := onExit 1 (K4 Q R5)
def K6 (Q : QT) (R5 : T5) : KT := onExit 2 (K5 Q R5)
def K7 (Q : QT) (R5 : T5) : KT := left kp 9 (K6 Q R5)
def K8 (Q : QT) (R5 : T5) (R9 : T9) : KT := rnd ((kp.find 1000009).getD []) (E9 R9) (K7 Q R5)
def K9 (Q : QT) (R5 : T5) (R9 : T9) : KT := andThen (fun env' h' => (match kp.find 4000010 with | some ks => Den pg fn.ntmps (C [1, 1, 1, 0, 1, 0, 0, 1, 1, 0, 0, 1, 1, 1, 0, 0, 1, 1]) (env'.keep ks) h' (K8 Q R5 R9) | none => den pg fn.ntmps kp (C [1, 1, 1, 0, 1, 0, 0, 1, 1, 0, 0, 1, 1, 1, 0, 0, 1, 1]) env' h' (K8 Q R5 R9))) (K8 Q R5 R9)
def K10 (Q : QT) (R5 : T5) (R9 : T9) : KT := onExit 3 (K9 Q R5 R9)
def L5 (Q : QT) (i2 o2 : Nat) (a6 : Pt) (n6 c6 : Nat) (e6 : Bool) (a18 : Pt) (n18 c18 : Nat) (e18 : Bool) (x19 x20 : Int) (h : AHeap) : Prop := Loop (Den pg fn.ntmps (C [1, 1, 1, 0, 1, 0, 0])) ((kp.find 1000005).getD []) (K2 Q) [(2, .ptr (some (i2, o2))), (6, .slice a6 n6 c6 e6), (18, .slice a18 n18 c18 e18), (19, .int .i64 x19), (20, .int .i64 x20)] h
def L9 (Q : QT) (R5 : T5) (i2 o2 : Nat) (a6 : Pt) (n6 c6 : Nat) (e6 : Bool) (i8 o8 : Nat) (x9 : List Nat) (x10 : Int) (a18 : Pt) (n18 c18 : Nat) (e18 : Bool) (x19 x20 : Int) (h : AHeap) : Prop := Loop (Den pg fn.ntmps (C [1, 1, 1, 0, 1, 0, 0, 1, 1, 0, 0, 1, 1, 1, 0, 0])) ((kp.find 1000009).getD []) (K7 Q R5) [(2, .ptr (some (i2, o2))), (6, .slice a6 n6 c6 e6), (8, .ptr (some (i8, o8))), (9, .str x9), (10, .int .i64 x10), (18, .slice a18 n18 c18 e18), (19, .int .i64 x19), (20, .int .i64 x20)] h
def A5x0 (Q : QT) (a6 : Pt) (n6 c6 : Nat) (e6 : Bool) (h : AHeap) : Prop := At (K1 Q) (.exit 0) [(6, .slice a6 n6 c6 e6)] h
def J14 (Q : QT) (R5 : T5) (R9 : T9) (a6 : Pt) (n6 c6 : Nat) (e6 : Bool) (i11 o11 : Nat) (x10 : Int) (x9 : List Nat) (i8 o8 : Nat) (x20 x19 : Int) (a18 : Pt) (n18 c18 : Nat) (e18 : Bool) (i2 o2 : Nat) (h : AHeap) : Prop := Den pg fn.ntmps (C [1, 1, 1, 0, 1, 0, 0, 1, 1, 0, 0, 1, 1, 1, 0, 0, 1, 0, 0, 1, 1]) [(6, .slice a6 n6 c6 e6), (11, .ptr (some (i11, o11))), (10, .int .i64 x10), (9, .str x9), (8, .ptr (some (i8, o8))), (20, .int .i64 x20), (19, .int .i64 x19), (18, .slice a18 n18 c18 e18), (2, .ptr (some (i2, o2)))] h (K10 Q R5 R9)
def A9x2 (Q : QT) (R5 : T5) (x20 x19 : Int) (a18 : Pt) (n18 c18 : Nat) (e18 : Bool) (i2 o2 : Nat) (a6 : Pt) (n6 c6 : Nat) (e6 : Bool) (h : AHeap) : Prop := At (K6 Q R5) (.exit 2) [(20, .int .i64 x20), (19, .int .i64 x19), (18, .slice a18 n18 c18 e18), (2, .ptr (some (i2, o2))), (6, .slice a6 n6 c6 e6)] h
def J10 (Q : QT) (R5 : T5) (R9 : T9) (x10 : Int) (x9 : List Nat) (i8 o8 : Nat) (a6 : Pt) (n6 c6 : Nat) (e6 : Bool) (x20 x19 : Int) (a18 : Pt) (n18 c18 : Nat) (e18 : Bool) (i2 o2 : Nat) (h : AHeap) : Prop := Den pg fn.ntmps (C [1, 1, 1, 0, 1, 0, 0, 1, 1, 0, 0, 1, 1, 1, 0, 0, 1, 1]) [(10, .int .i64 x10), (9, .str x9), (8, .ptr (some (i8, o8))), (6, .slice a6 n6 c6 e6), (20, .int .i64 x20), (19, .int .i64 x19), (18, .slice a18 n18 c18 e18), (2, .ptr (some (i2, o2)))] h (K8 Q R5 R9)
def L5t (Q : QT) (R5 : T5) (i2 o2 : Nat) (a6 : Pt) (n6 c6 : Nat) (e6 : Bool) (a18 : Pt) (n18 c18 : Nat) (e18 : Bool) (x19 x20 : Int) (h : AHeap) : Prop :=
 bcase (decide ((x20 : Int) < x19)) ((0 ≤ (x20 : Int) ∧ (x20 : Int) < (n18 : Nat)) ∧ (xSome a18 fun i_18 o_19 => xRow (hRow h (.ptr (some (i_18, o_19 + (Int.toNat x20) * 2))) 2) fun cs_20 => xCons cs_20 fun c_21 r_22 => xStr (some c_21) fun s_23 => xCons r_22 fun c_24 r_25 => xStr (some c_24) fun s_26 => xNil r_25 (letH (h ++ [.cells t_impl_Need [.str [], .str []] false]) fun h_27 => xHeap (hStore h_27 (.ptr (some (List.length h, 0))) [.str s_23, .str s_26]) fun h_28 => xRow (hRow h_28 (.ptr (some (i2, o2))) 2) fun cs_29 => xCons cs_29 fun c_30 r_31 => xSl (some c_30) fun a_32 n_33 c_34 e_35 => xCons r_31 fun c_36 r_37 => xSl (some c_36) fun a_38 n_39 c_40 e_41 => xNil r_37 (xStr (hCell h_28 (.ptr (some (List.length h, 0 + 0)))) fun s_42 => SCall pg n_spec_SupersOf [.agg [.slice a_32 n_33 c_34 e_35, .slice a_38 n_39 c_40 e_41], .str s_42] h_28 fun v_43 h_44 =>
 xStr (some v_43) fun s_45 => L9 Q R5 i2 o2 a6 n6 c6 e6 (List.length h) 0 s_45 (-1) a18 n18 c18 e18 x19 x20 h_44)))) (A5x0 Q a6 n6 c6 e6 h)
theorem L5den (Q : QT) (R5 : T5) (i2 o2 : Nat) (a6 : Pt) (n6 c6 : Nat) (e6 : Bool) (a18 : Pt) (n18 c18 : Nat) (e18 : Bool) (x19 x20 : Int) (h : AHeap) (ht : L5t Q R5 i2 o2 a6 n6 c6 e6 a18 n18 c18 e18 x19 x20 h) : Den pg fn.ntmps (C [1, 1, 1, 0, 1, 0, 0]) [(2, .ptr (some (i2, o2))), (6, .slice a6 n6 c6 e6), (18, .slice a18 n18 c18 e18), (19, .int .i64 x19), (20, .int .i64 x20)] h (K3 Q R5) :=
  den_Den (kp := kp) (@cast _ (den pg fn.ntmps kp (C [1, 1, 1, 0, 1, 0, 0]) [(2, .ptr (some (i2, o2))), (6, .slice a6 n6 c6 e6), (18, .slice a18 n18 c18 e18), (19, .int .i64 x19), (20, .int .i64 x20)] h (K3 Q R5)) (by kernel_rfl) ht)
theorem L5ind (Q : QT) (i2 o2 : Nat) (a18 : Pt) (n18 c18 : Nat) (e18 : Bool) (x19 : Int) {G : Type} (J : G → Pt → Nat → Nat → Bool → Int → AHeap → Prop) (m : G → Nat)
 (hr : ∀ (g : G) (a6 : Pt) (n6 c6 : Nat) (e6 : Bool) (x20 : Int) (h : AHeap), J g a6 n6 c6 e6 x20 h → ∀ (R5 : T5), (∀ g' (a6 : Pt) (n6 c6 : Nat) (e6 : Bool) (x20 : Int) (h : AHeap), m g' < m g → J g' a6 n6 c6 e6 x20 h → R5 i2 o2 a6 n6 c6 e6 a18 n18 c18 e18 x19 x20 h) → L5t Q R5 i2 o2 a6 n6 c6 e6 a18 n18 c18 e18 x19 x20 h)
 (g : G) (a6 : Pt) (n6 c6 : Nat) (e6 : Bool) (x20 : Int) (h : AHeap) (hj : J g a6 n6 c6 e6 x20 h) : L5 Q i2 o2 a6 n6 c6 e6 a18 n18 c18 e18 x19 x20 h := by
  refine Loop.inv2 (fun g => E5 fun i2' o2' a6 n6 c6 e6 a18' n18' c18' e18' x19' x20 h => i2 = i2' ∧ o2 = o2' ∧ a18 = a18' ∧ n18 = n18' ∧ c18 = c18' ∧ e18 = e18' ∧ x19 = x19' ∧ J g a6 n6 c6 e6 x20 h) (fun g => E5 fun i2' o2' a6 n6 c6 e6 a18' n18' c18' e18' x19' x20 h => i2 = i2' ∧ o2 = o2' ∧ a18 = a18' ∧ n18 = n18' ∧ c18 = c18' ∧ e18 = e18' ∧ x19 = x19' ∧ ∃ g', m g' < m g ∧ J g' a6 n6 c6 e6 x20 h) m ?_ ?_ g ⟨rfl, rfl, rfl, rfl, rfl, rfl, rfl, hj⟩
  · intro g env h hi
    obtain ⟨i2', o2', a6, n6, c6, e6, a18', n18', c18', e18', x19', x20, rfl, rfl, rfl, rfl, rfl, rfl, rfl, rfl, hj⟩ := E5elim hi
    exact L5den Q (fun i2' o2' a6 n6 c6 e6 a18' n18' c18' e18' x19' x20 h => i2 = i2' ∧ o2 = o2' ∧ a18 = a18' ∧ n18 = n18' ∧ c18 = c18' ∧ e18 = e18' ∧ x19 = x19' ∧ ∃ g', m g' < m g ∧ J g' a6 n6 c6 e6 x20 h) i2 o2 a6 n6 c6 e6 a18 n18 c18 e18 x19 x20 h (hr g a6 n6 c6 e6 x20 h hj (fun i2' o2' a6 n6 c6 e6 a18' n18' c18' e18' x19' x20 h => i2 = i2' ∧ o2 = o2' ∧ a18 = a18' ∧ n18 = n18' ∧ c18 = c18' ∧ e18 = e18' ∧ x19 = x19' ∧ ∃ g', m g' < m g ∧ J g' a6 n6 c6 e6 x20 h) fun g' a6 n6 c6 e6 x20 h hlt hj => ⟨rfl, rfl, rfl, rfl, rfl, rfl, rfl, g', hlt, hj⟩)
  · intro g env h hi
    obtain ⟨i2', o2', a6, n6, c6, e6, a18', n18', c18', e18', x19', x20, rfl, rfl, rfl, rfl, rfl, rfl, rfl, rfl, g', hlt, hj⟩ := E5elim hi
    exact ⟨g', hlt, rfl, rfl, rfl, rfl, rfl, rfl, rfl, hj⟩
def L9t (Q : QT) (R5 : T5) (R9 : T9) (i2 o2 : Nat) (a6 : Pt) (n6 c6 : Nat) (e6 : Bool) (i8 o8 : Nat) (x9 : List Nat) (x10 : Int) (a18 : Pt) (n18 c18 : Nat) (e18 : Bool) (x19 x20 : Int) (h : AHeap) : Prop :=
 bcase (decide ((x10 : Int) < (((List.length x9 : Nat) : Int)))) (xRow (hRow h (.ptr (some (i8, o8))) 2) fun cs_46 => xCons cs_46 fun c_47 r_48 => xStr (some c_47) fun s_49 => xCons r_48 fun c_50 r_51 => xStr (some c_50) fun s_52 => xNil r_51 (letH (h ++ [.cells t_impl_Need [.str [], .str []] false]) fun h_53 => xHeap (hStore h_53 (.ptr (some (List.length h, 0))) [.str s_49, .str s_52]) fun h_54 => bcase (decide ((x10 : Int) ≥ 0)) ((0 ≤ (x10 : Int) ∧ (x10 : Int) ≤ IntKind.wrap .i64 (x10 + 1) ∧ (IntKind.wrap .i64 (x10 + 1) : Int) ≤ (List.length x9 : Nat)) ∧ (xHeap (hStore h_54 (.ptr (some (List.length h, 0 + 0))) [.str (sub x9 x10 (IntKind.wrap .i64 (x10 + 1)))]) fun h_55 => J14 Q R5 R9 a6 n6 c6 e6 (List.length h) 0 x10 x9 i8 o8 x20 x19 a18 n18 c18 e18 i2 o2 h_55)) (J14 Q R5 R9 a6 n6 c6 e6 (List.length h) 0 x10 x9 i8 o8 x20 x19 a18 n18 c18 e18 i2 o2 h_54))) (A9x2 Q R5 x20 x19 a18 n18 c18 e18 i2 o2 a6 n6 c6 e6 h)
theorem L9den (Q : QT) (R5 : T5) (R9 : T9) (i2 o2 : Nat) (a6 : Pt) (n6 c6 : Nat) (e6 : Bool) (i8 o8 : Nat) (x9 : List Nat) (x10 : Int) (a18 : Pt) (n18 c18 : Nat) (e18 : Bool) (x19 x20 : Int) (h : AHeap) (ht : L9t Q R5 R9 i2 o2 a6 n6 c6 e6 i8 o8 x9 x10 a18 n18 c18 e18 x19 x20 h) : Den pg fn.ntmps (C [1, 1, 1, 0, 1, 0, 0, 1, 1, 0, 0, 1, 1, 1, 0, 0]) [(2, .ptr (some (i2, o2))), (6, .slice a6 n6 c6 e6), (8, .ptr (some (i8, o8))), (9, .str x9), (10, .int .i64 x10), (18, .slice a18 n18 c18 e18), (19, .int .i64 x19), (20, .int .i64 x20)] h (K8 Q R5 R9) :=
  den_Den (kp := kp) (@cast _ (den pg fn.ntmps kp (C [1, 1, 1, 0, 1, 0, 0, 1, 1, 0, 0, 1, 1, 1, 0, 0]) [(2, .ptr (some (i2, o2))), (6, .slice a6 n6 c6 e6), (8, .ptr (some (i8, o8))), (9, .str x9), (10, .int .i64 x10), (18, .slice a18 n18 c18 e18), (19, .int .i64 x19), (20, .int .i64 x20)] h (K8 Q R5 R9)) (by kernel_rfl) ht)
theorem L9ind (Q : QT) (R5 : T5) (i2 o2 i8 o8 : Nat) (x9 : List Nat) (a18 : Pt) (n18 c18 : Nat) (e18 : Bool) (x19 x20 : Int) {G : Type} (J : G → Pt → Nat → Nat → Bool → Int → AHeap → Prop) (m : G → Nat)
 (hr : ∀ (g : G) (a6 : Pt) (n6 c6 : Nat) (e6 : Bool) (x10 : Int) (h : AHeap), J g a6 n6 c6 e6 x10 h → ∀ (R9 : T9), (∀ g' (a6 : Pt) (n6 c6 : Nat) (e6 : Bool) (x10 : Int) (h : AHeap), m g' < m g → J g' a6 n6 c6 e6 x10 h → R9 i2 o2 a6 n6 c6 e6 i8 o8 x9 x10 a18 n18 c18 e18 x19 x20 h) → L9t Q R5 R9 i2 o2 a6 n6 c6 e6 i8 o8 x9 x10 a18 n18 c18 e18 x19 x20 h)
 (g : G) (a6 : Pt) (n6 c6 : Nat) (e6 : Bool) (x10 : Int) (h : AHeap) (hj : J g a6 n6 c6 e6 x10 h) : L9 Q R5 i2 o2 a6 n6 c6 e6 i8 o8 x9 x10 a18 n18 c18 e18 x19 x20 h := by
  refine Loop.inv2 (fun g => E9 fun i2' o2' a6 n6 c6 e6 i8' o8' x9' x10 a18' n18' c18' e18' x19' x20' h => i2 = i2' ∧ o2 = o2' ∧ i8 = i8' ∧ o8 = o8' ∧ x9 = x9' ∧ a18 = a18' ∧ n18 = n18' ∧ c18 = c18' ∧ e18 = e18' ∧ x19 = x19' ∧ x20 = x20' ∧ J g a6 n6 c6 e6 x10 h) (fun g => E9 fun i2' o2' a6 n6 c6 e6 i8' o8' x9' x10 a18' n18' c18' e18' x19' x20' h => i2 = i2' ∧ o2 = o2' ∧ i8 = i8' ∧ o8 = o8' ∧ x9 = x9' ∧ a18 = a18' ∧ n18 = n18' ∧ c18 = c18' ∧ e18 = e18' ∧ x19 = x19' ∧ x20 = x20' ∧ ∃ g', m g' < m g ∧ J g' a6 n6 c6 e6 x10 h) m ?_ ?_ g ⟨rfl, rfl, rfl, rfl, rfl, rfl, rfl, rfl, rfl, rfl, rfl, hj⟩
  · intro g env h hi
    obtain ⟨i2', o2', a6, n6, c6, e6, i8', o8', x9', x10, a18', n18', c18', e18', x19', x20', rfl, rfl, rfl, rfl, rfl, rfl, rfl, rfl, rfl, rfl, rfl, rfl, hj⟩ := E9elim hi
    exact L9den Q R5 (fun i2' o2' a6 n6 c6 e6 i8' o8' x9' x10 a18' n18' c18' e18' x19' x20' h => i2 = i2' ∧ o2 = o2' ∧ i8 = i8' ∧ o8 = o8' ∧ x9 = x9' ∧ a18 = a18' ∧ n18 = n18' ∧ c18 = c18' ∧ e18 = e18' ∧ x19 = x19' ∧ x20 = x20' ∧ ∃ g', m g' < m g ∧ J g' a6 n6 c6 e6 x10 h) i2 o2 a6 n6 c6 e6 i8 o8 x9 x10 a18 n18 c18 e18 x19 x20 h (hr g a6 n6 c6 e6 x10 h hj (fun i2' o2' a6 n6 c6 e6 i8' o8' x9' x10 a18' n18' c18' e18' x19' x20' h => i2 = i2' ∧ o2 = o2' ∧ i8 = i8' ∧ o8 = o8' ∧ x9 = x9' ∧ a18 = a18' ∧ n18 = n18' ∧ c18 = c18' ∧ e18 = e18' ∧ x19 = x19' ∧ x20 = x20' ∧ ∃ g', m g' < m g ∧ J g' a6 n6 c6 e6 x10 h) fun g' a6 n6 c6 e6 x10 h hlt hj => ⟨rfl, rfl, rfl, rfl, rfl, rfl, rfl, rfl, rfl, rfl, rfl, g', hlt, hj⟩)
  · intro g env h hi
    obtain ⟨i2', o2', a6, n6, c6, e6, i8', o8', x9', x10, a18', n18', c18', e18', x19', x20', rfl, rfl, rfl, rfl, rfl, rfl, rfl, rfl, rfl, rfl, rfl, rfl, g', hlt, hj⟩ := E9elim hi
    exact ⟨g', hlt, rfl, rfl, rfl, rfl, rfl, rfl, rfl, rfl, rfl, rfl, rfl, hj⟩
theorem A5x0i (Q : QT) (a6 : Pt) (n6 c6 : Nat) (e6 : Bool) (h : AHeap) (ht :
 Q (.tup [.slice a6 n6 c6 e6, .bool true]) h) : A5x0 Q a6 n6 c6 e6 h :=
  At.mk (@cast _ ((K1 Q) (.exit 0) [(6, .slice a6 n6 c6 e6)] h) (by kernel_rfl) ht)
theorem J14i (Q : QT) (R5 : T5) (R9 : T9) (a6 : Pt) (n6 c6 : Nat) (e6 : Bool) (i11 o11 : Nat) (x10 : Int) (x9 : List Nat) (i8 o8 : Nat) (x20 x19 : Int) (a18 : Pt) (n18 c18 : Nat) (e18 : Bool) (i2 o2 : Nat) (h : AHeap) (ht :
 xRow (hRow h (.ptr (some (i11, o11))) 2) fun cs_56 => xCons cs_56 fun c_57 r_58 => xStr (some c_57) fun s_59 => xCons r_58 fun c_60 r_61 => xStr (some c_60) fun s_62 => xNil r_61 (SCall pg n_spec_l9In [.slice a6 n6 c6 e6, .agg [.str s_59, .str s_62]] h fun v_63 h_64 =>
 xBool (some v_63) fun b_65 => bcase (!b_65) (xRow (hRow h_64 (.ptr (some (i11, o11))) 2) fun cs_66 => xCons cs_66 fun c_67 r_68 => xStr (some c_67) fun s_69 => xCons r_68 fun c_70 r_71 => xStr (some c_70) fun s_72 => xNil r_71 (letH (h_64 ++ [.cells t_impl_Need [.str s_69, .str s_72] false]) fun h_73 => appendA pg t_L_impl_Need h_73 (.slice a6 n6 c6 e6) (.slice (some (List.length h_64, 0)) 1 1 true) fun v_74 h_75 => xSl (some v_74) fun a_76 n_77 c_78 e_79 => J10 Q R5 R9 x10 x9 i8 o8 a_76 n_77 c_78 e_79 x20 x19 a18 n18 c18 e18 i2 o2 h_75)) (J10 Q R5 R9 x10 x9 i8 o8 a6 n6 c6 e6 x20 x19 a18 n18 c18 e18 i2 o2 h_64))) : J14 Q R5 R9 a6 n6 c6 e6 i11 o11 x10 x9 i8 o8 x20 x19 a18 n18 c18 e18 i2 o2 h :=
  den_Den (kp := kp) (@cast _ (den pg fn.ntmps kp (C [1, 1, 1, 0, 1, 0, 0, 1, 1, 0, 0, 1, 1, 1, 0, 0, 1, 0, 0, 1, 1]) [(6, .slice a6 n6 c6 e6), (11, .ptr (some (i11, o11))), (10, .int .i64 x10), (9, .str x9), (8, .ptr (some (i8, o8))), (20, .int .i64 x20), (19, .int .i64 x19), (18, .slice a18 n18 c18 e18), (2, .ptr (some (i2, o2)))] h (K10 Q R5 R9)) (by kernel_rfl) ht)
theorem A9x2i (Q : QT) (R5 : T5) (x20 x19 : Int) (a18 : Pt) (n18 c18 : Nat) (e18 : Bool) (i2 o2 : Nat) (a6 : Pt) (n6 c6 : Nat) (e6 : Bool) (h : AHeap) (ht :
 R5 i2 o2 a6 n6 c6 e6 a18 n18 c18 e18 x19 (IntKind.wrap .i64 (x20 + 1)) h) : A9x2 Q R5 x20 x19 a18 n18 c18 e18 i2 o2 a6 n6 c6 e6 h :=
  At.mk (@cast _ ((K6 Q R5) (.exit 2) [(20, .int .i64 x20), (19, .int .i64 x19), (18, .slice a18 n18 c18 e18), (2, .ptr (some (i2, o2))), (6, .slice a6 n6 c6 e6)] h) (by kernel_rfl) ht)
theorem J10i (Q : QT) (R5 : T5) (R9 : T9) (x10 : Int) (x9 : List Nat) (i8 o8 : Nat) (a6 : Pt) (n6 c6 : Nat) (e6 : Bool) (x20 x19 : Int) (a18 : Pt) (n18 c18 : Nat) (e18 : Bool) (i2 o2 : Nat) (h : AHeap) (ht :
 R9 i2 o2 a6 n6 c6 e6 i8 o8 x9 (IntKind.wrap .i64 (x10 + 1)) a18 n18 c18 e18 x19 x20 h) : J10 Q R5 R9 x10 x9 i8 o8 a6 n6 c6 e6 x20 x19 a18 n18 c18 e18 i2 o2 h :=
  den_Den (kp := kp) (@cast _ (den pg fn.ntmps kp (C [1, 1, 1, 0, 1, 0, 0, 1, 1, 0, 0, 1, 1, 1, 0, 0, 1, 1]) [(10, .int .i64 x10), (9, .str x9), (8, .ptr (some (i8, o8))), (6, .slice a6 n6 c6 e6), (20, .int .i64 x20), (19, .int .i64 x19), (18, .slice a18 n18 c18 e18), (2, .ptr (some (i2, o2)))] h (K8 Q R5 R9)) (by kernel_rfl) ht)
theorem call (a0x0 : Pt) (n0x0 c0x0 : Nat) (e0x0 : Bool) (a0x1 : Pt) (n0x1 c0x1 : Nat) (e0x1 : Bool) (a1 : Pt) (n1 c1 : Nat) (e1 : Bool) (h : AHeap) (Q : QT) (ht :
 letH (h ++ [.cells t_impl_World [.slice a0x0 n0x0 c0x0 e0x0, .slice a0x1 n0x1 c0x1 e0x1] false]) fun h_0 => letH (h_0 ++ [.cells t_impl_Need [] false]) fun h_1 => xRow (hRow h_1 (.ptr (some (List.length h, 0))) 2) fun cs_2 => xCons cs_2 fun c_3 r_4 => xSl (some c_3) fun a_5 n_6 c_7 e_8 => xCons r_4 fun c_9 r_10 => xSl (some c_9) fun a_11 n_12 c_13 e_14 => xNil r_10 (SCall pg n_spec_GivensValid [.agg [.slice a_5 n_6 c_7 e_8, .slice a_11 n_12 c_13 e_14], .slice a1 n1 c1 e1] h_1 fun v_15 h_16 =>
 xBool (some v_15) fun b_17 => bcase (!b_17) (Q (.tup [.slice (some (List.length h_0, 0)) 0 0 true, .bool false]) h_16) (L5 Q (List.length h) 0 (some (List.length h_0, 0)) 0 0 true a1 n1 c1 e1 (((n1 : Nat) : Int)) 0 h_16))) : SCall pg n_spec_AllGivens [.agg [.slice a0x0 n0x0 c0x0 e0x0, .slice a0x1 n0x1 c0x1 e0x1], .slice a1 n1 c1 e1] h Q :=
  SCall.of_body kp (c := cod fn) (fn := fn) Go.Proofs.Try.func35 (by kernel_rfl) (by kernel_rfl) (Nat.le_of_ble_eq_true (by kernel_rfl))
    (@cast _ (den pg fn.ntmps kp (cod fn) (Env.args 0 [.agg [.slice a0x0 n0x0 c0x0 e0x0, .slice a0x1 n0x1 c0x1 e0x1], .slice a1 n1 c1 e1]) h (KR Q)) (by kernel_rfl) ht)
end F_spec_AllGivens
end Go.Sim

/- Printed by wip/tool: what the functions' bodies do, in the words of 'den'. -/
set_option maxRecDepth 100000
set_option linter.unusedVariables false
namespace Go.Sim
open Go Go.RowKit
/-! Function loop.example/instancesearch/impl.AllGivens -/
namespace F_impl_AllGivens
noncomputable abbrev fn : Func := Go.Proofs.Try.f36
def kp : Keeps := [(3000005, [6]), (1000005, [2, 6, 16, 17, 18]), (3000009, [18, 17, 16, 6, 2]), (1000009, [2, 6, 8, 16, 17, 18, 29, 30, 31])]
noncomputable def C (p : List Nat) : Code := (cod fn).sub p
def KR (Q : QT) : KT := retA pg fn.results.toList Q
abbrev T5 := Nat → Nat → Pt → Nat → Nat → Bool → Pt → Nat → Nat → Bool → Int → Int → AHeap → Prop
def E5 (R5 : T5) (env : Env) (h : AHeap) : Prop := eVal 2 env fun v env => xPtr (some v) fun a => xSome a fun i2 o2 => eVal 6 env fun v env => xSl (some v) fun a6 n6 c6 e6 => eVal 16 env fun v env => xSl (some v) fun a16 n16 c16 e16 => eVal 17 env fun v env => eInt .i64 v fun x17 => eVal 18 env fun v env => eInt .i64 v fun x18 => eNil env (R5 i2 o2 a6 n6 c6 e6 a16 n16 c16 e16 x17 x18 h)
theorem E5elim {R5 : T5} {env : Env} {h : AHeap} (hi : E5 R5 env h) : ∃ i2, ∃ o2, ∃ a6, ∃ n6, ∃ c6, ∃ e6, ∃ a16, ∃ n16, ∃ c16, ∃ e16, ∃ x17, ∃ x18, env = [(2, .ptr (some (i2, o2))), (6, .slice a6 n6 c6 e6), (16, .slice a16 n16 c16 e16), (17, .int .i64 x17), (18, .int .i64 x18)] ∧ R5 i2 o2 a6 n6 c6 e6 a16 n16 c16 e16 x17 x18 h := by
  unfold E5 at hi
  have hi0 := hi
  clear hi
  obtain ⟨v, env, rfl, hi1⟩ := eVal_elim hi0
  obtain ⟨a, rfl, hi2⟩ := xPtr_elim hi1
  obtain ⟨i2, o2, rfl, hi3⟩ := xSome_elim hi2
  obtain ⟨v, env, rfl, hi4⟩ := eVal_elim hi3
  obtain ⟨a6, n6, c6, e6, rfl, hi5⟩ := xSl_elim hi4
  obtain ⟨v, env, rfl, hi6⟩ := eVal_elim hi5
  obtain ⟨a16, n16, c16, e16, rfl, hi7⟩ := xSl_elim hi6
  obtain ⟨v, env, rfl, hi8⟩ := eVal_elim hi7
  obtain ⟨x17, rfl, hi9⟩ := eInt_elim hi8
  obtain ⟨v, env, rfl, hi10⟩ := eVal_elim hi9
  obtain ⟨x18, rfl, hi11⟩ := eInt_elim hi10
  obtain ⟨rfl, hi12⟩ := eNil_elim hi11
  have hi := hi12
  exact ⟨i2, o2, a6, n6, c6, e6, a16, n16, c16, e16, x17, x18, rfl, hi⟩
abbrev T9 := Nat → Nat → Pt → Nat → Nat → Bool → Nat → Nat → Pt → Nat → Nat → Bool → Int → Int → Pt → Nat → Nat → Bool → Int → Int → AHeap → Prop
def E9 (R9 : T9) (env : Env) (h : AHeap) : Prop := eVal 2 env fun v env => xPtr (some v) fun a => xSome a fun i2 o2 => eVal 6 env fun v env => xSl (some v) fun a6 n6 c6 e6 => eVal 8 env fun v env => xPtr (some v) fun a => xSome a fun i8 o8 => eVal 16 env fun v env => xSl (some v) fun a16 n16 c16 e16 => eVal 17 env fun v env => eInt .i64 v fun x17 => eVal 18 env fun v env => eInt .i64 v fun x18 => eVal 29 env fun v env => xSl (some v) fun a29 n29 c29 e29 => eVal 30 env fun v env => eInt .i64 v fun x30 => eVal 31 env fun v env => eInt .i64 v fun x31 => eNil env (R9 i2 o2 a6 n6 c6 e6 i8 o8 a16 n16 c16 e16 x17 x18 a29 n29 c29 e29 x30 x31 h)
theorem E9elim {R9 : T9} {env : Env} {h : AHeap} (hi : E9 R9 env h) : ∃ i2, ∃ o2, ∃ a6, ∃ n6, ∃ c6, ∃ e6, ∃ i8, ∃ o8, ∃ a16, ∃ n16, ∃ c16, ∃ e16, ∃ x17, ∃ x18, ∃ a29, ∃ n29, ∃ c29, ∃ e29, ∃ x30, ∃ x31, env = [(2, .ptr (some (i2, o2))), (6, .slice a6 n6 c6 e6), (8, .ptr (some (i8, o8))), (16, .slice a16 n16 c16 e16), (17, .int .i64 x17), (18, .int .i64 x18), (29, .slice a29 n29 c29 e29), (30, .int .i64 x30), (31, .int .i64 x31)] ∧ R9 i2 o2 a6 n6 c6 e6 i8 o8 a16 n16 c16 e16 x17 x18 a29 n29 c29 e29 x30 x31 h := by
  unfold E9 at hi
  have hi0 := hi
  clear hi
  obtain ⟨v, env, rfl, hi1⟩ := eVal_elim hi0
  obtain ⟨a, rfl, hi2⟩ := xPtr_elim hi1
  obtain ⟨i2, o2, rfl, hi3⟩ := xSome_elim hi2
  obtain ⟨v, env, rfl, hi4⟩ := eVal_elim hi3
  obtain ⟨a6, n6, c6, e6, rfl, hi5⟩ := xSl_elim hi4
  obtain ⟨v, env, rfl, hi6⟩ := eVal_elim hi5
  obtain ⟨a, rfl, hi7⟩ := xPtr_elim hi6
  obtain ⟨i8, o8, rfl, hi8⟩ := xSome_elim hi7
  obtain ⟨v, env, rfl, hi9⟩ := eVal_elim hi8
  obtain ⟨a16, n16, c16, e16, rfl, hi10⟩ := xSl_elim hi9
  obtain ⟨v, env, rfl, hi11⟩ := eVal_elim hi10
  obtain ⟨x17, rfl, hi12⟩ := eInt_elim hi11
  obtain ⟨v, env, rfl, hi13⟩ := eVal_elim hi12
  obtain ⟨x18, rfl, hi14⟩ := eInt_elim hi13
  obtain ⟨v, env, rfl, hi15⟩ := eVal_elim hi14
  obtain ⟨a29, n29, c29, e29, rfl, hi16⟩ := xSl_elim hi15
  obtain ⟨v, env, rfl, hi17⟩ := eVal_elim hi16
  obtain ⟨x30, rfl, hi18⟩ := eInt_elim hi17
  obtain ⟨v, env, rfl, hi19⟩ := eVal_elim hi18
  obtain ⟨x31, rfl, hi20⟩ := eInt_elim hi19
  obtain ⟨rfl, hi21⟩ := eNil_elim hi20
  have hi := hi21
  exact ⟨i2, o2, a6, n6, c6, e6, i8, o8, a16, n16, c16, e16, x17, x18, a29, n29, c29, e29, x30, x31, rfl, hi⟩
def K0 (Q : QT) : KT := andThen (fun env' h' => (match kp.find 4000014 with | some ks => Den pg fn.ntmps (C [1, 1, 1, 1]) (env'.keep ks) h' (KR Q) | none => den pg fn.ntmps kp (C [1, 1, 1, 1]) env' h' (KR Q))) (KR Q)
def K1 (Q : QT) : KT := onExit 0 (K0 Q)
def K2 (Q : QT) : KT := left kp 5 (K1 Q)
def K3 (Q : QT) (R5 : T5) : KT := rnd ((kp.find 1000005).getD []) (E5 R5) (K2 Q)
def K4 (Q : QT) (R5 : T5) : KT := andThen (fun env' h' => (match kp.find 4000013 with | some ks => Den pg fn.ntmps (C [1, 1, 1, 0, 1, 0, 0, 1, 1, 1]) (env'.keep ks) h' (K3 Q R5) | none => den pg fn.ntmps kp (C [1, 1, 1, 0, 1, 0, 0, 1, 1, 1]) env' h' (K3 Q R5))) (K3 Q R5)
def K5 (Q : QT) (R5 : T5) : KT := onExit 1 (K4 Q R5)
def K6 (Q : QT) (R5 : T5) : KT := onExit 2 (K5 Q R5)
def K7 (Q : QT) (R5 : T5) : KT := left kp 9 (K6 Q R5)
def K8 (Q : QT) (R5 : T5) (R9 : T9) : KT := rnd ((kp.find 1000009).getD []) (E9 R9) (K7 Q R5)
def L5 (Q : QT) (i2 o2 : Nat) (a6 : Pt) (n6 c6 : Nat) (e6 : Bool) (a16 : Pt) (n16 c16 : Nat) (e16 : Bool) (x17 x18 : Int) (h : AHeap) : Prop := Loop (Den pg fn.ntmps (C [1, 1, 1, 0, 1, 0, 0])) ((kp.find 1000005).getD []) (K2 Q) [(2, .ptr (some (i2, o2))), (6, .slice a6 n6 c6 e6), (16, .slice a16 n16 c16 e16), (17, .int .i64 x17), (18, .int .i64 x18)] h
def L9 (Q : QT) (R5 : T5) (i2 o2 : Nat) (a6 : Pt) (n6 c6 : Nat) (e6 : Bool) (i8 o8 : Nat) (a16 : Pt) (n16 c16 : Nat) (e16 : Bool) (x17 x18 : Int) (a29 : Pt) (n29 c29 : Nat) (e29 : Bool) (x30 x31 : Int) (h : AHeap) : Prop := Loop (Den pg fn.ntmps (C [1, 1, 1, 0, 1, 0, 0, 1, 1, 0, 0, 1, 1, 1, 0, 0])) ((kp.find 1000009).getD []) (K7 Q R5) [(2, .ptr (some (i2, o2))), (6, .slice a6 n6 c6 e6), (8, .ptr (some (i8, o8))), (16, .slice a16 n16 c16 e16), (17, .int .i64 x17), (18, .int .i64 x18), (29, .slice a29 n29 c29 e29), (30, .int .i64 x30), (31, .int .i64 x31)] h
def A5x0 (Q : QT) (a6 : Pt) (n6 c6 : Nat) (e6 : Bool) (h : AHeap) : Prop := At (K1 Q) (.exit 0) [(6, .slice a6 n6 c6 e6)] h
def A9x2 (Q : QT) (R5 : T5) (x18 x17 : Int) (a16 : Pt) (n16 c16 : Nat) (e16 : Bool) (a6 : Pt) (n6 c6 : Nat) (e6 : Bool) (i2 o2 : Nat) (h : AHeap) : Prop := At (K6 Q R5) (.exit 2) [(18, .int .i64 x18), (17, .int .i64 x17), (16, .slice a16 n16 c16 e16), (6, .slice a6 n6 c6 e6), (2, .ptr (some (i2, o2)))] h
def L5t (Q : QT) (R5 : T5) (i2 o2 : Nat) (a6 : Pt) (n6 c6 : Nat) (e6 : Bool) (a16 : Pt) (n16 c16 : Nat) (e16 : Bool) (x17 x18 : Int) (h : AHeap) : Prop :=
 bcase (decide ((x18 : Int) < x17)) ((0 ≤ (x18 : Int) ∧ (x18 : Int) < (n16 : Nat)) ∧ (xSome a16 fun i_18 o_19 => xRow (hRow h (.ptr (some (i_18, o_19 + (Int.toNat x18) * 2))) 2) fun cs_20 => xCons cs_20 fun c_21 r_22 => xStr (some c_21) fun s_23 => xCons r_22 fun c_24 r_25 => xStr (some c_24) fun s_26 => xNil r_25 (letH (h ++ [.cells t_impl_Need [.str [], .str []] false]) fun h_27 => xHeap (hStore h_27 (.ptr (some (List.length h, 0))) [.str s_23, .str s_26]) fun h_28 => xRow (hRow h_28 (.ptr (some (List.length h, 0))) 2) fun cs_29 => xCons cs_29 fun c_30 r_31 => xStr (some c_30) fun s_32 => xCons r_31 fun c_33 r_34 => xStr (some c_33) fun s_35 => xNil r_34 (letH (h_28 ++ [.cells t_impl_Need [.str s_32, .str s_35] false]) fun h_36 => SCall pg n_impl_once [.slice a6 n6 c6 e6, .slice (some (List.length h_28, 0)) 1 1 true] h_36 fun v_37 h_38 =>
 xSl (some v_37) fun a_39 n_40 c_41 e_42 => xRow (hRow h_38 (.ptr (some (i2, o2))) 2) fun cs_43 => xCons cs_43 fun c_44 r_45 => xSl (some c_44) fun a_46 n_47 c_48 e_49 => xCons r_45 fun c_50 r_51 => xSl (some c_50) fun a_52 n_53 c_54 e_55 => xNil r_51 (xStr (hCell h_38 (.ptr (some (List.length h, 0 + 0)))) fun s_56 => SCall pg n_impl_supers [.agg [.slice a_46 n_47 c_48 e_49, .slice a_52 n_53 c_54 e_55], .str s_56] h_38 fun v_57 h_58 =>
 xSl (some v_57) fun a_59 n_60 c_61 e_62 => L9 Q R5 i2 o2 a_39 n_40 c_41 e_42 (List.length h) 0 a16 n16 c16 e16 x17 x18 a_59 n_60 c_61 e_62 (((n_60 : Nat) : Int)) 0 h_58))))) (A5x0 Q a6 n6 c6 e6 h)
theorem L5den (Q : QT) (R5 : T5) (i2 o2 : Nat) (a6 : Pt) (n6 c6 : Nat) (e6 : Bool) (a16 : Pt) (n16 c16 : Nat) (e16 : Bool) (x17 x18 : Int) (h : AHeap) (ht : L5t Q R5 i2 o2 a6 n6 c6 e6 a16 n16 c16 e16 x17 x18 h) : Den pg fn.ntmps (C [1, 1, 1, 0, 1, 0, 0]) [(2, .ptr (some (i2, o2))), (6, .slice a6 n6 c6 e6), (16, .slice a16 n16 c16 e16), (17, .int .i64 x17), (18, .int .i64 x18)] h (K3 Q R5) :=
  den_Den (kp := kp) (@cast _ (den pg fn.ntmps kp (C [1, 1, 1, 0, 1, 0, 0]) [(2, .ptr (some (i2, o2))), (6, .slice a6 n6 c6 e6), (16, .slice a16 n16 c16 e16), (17, .int .i64 x17), (18, .int .i64 x18)] h (K3 Q R5)) (by kernel_rfl) ht)
theorem L5ind (Q : QT) (i2 o2 : Nat) (a16 : Pt) (n16 c16 : Nat) (e16 : Bool) (x17 : Int) {G : Type} (J : G → Pt → Nat → Nat → Bool → Int → AHeap → Prop) (m : G → Nat)
 (hr : ∀ (g : G) (a6 : Pt) (n6 c6 : Nat) (e6 : Bool) (x18 : Int) (h : AHeap), J g a6 n6 c6 e6 x18 h → ∀ (R5 : T5), (∀ g' (a6 : Pt) (n6 c6 : Nat) (e6 : Bool) (x18 : Int) (h : AHeap), m g' < m g → J g' a6 n6 c6 e6 x18 h → R5 i2 o2 a6 n6 c6 e6 a16 n16 c16 e16 x17 x18 h) → L5t Q R5 i2 o2 a6 n6 c6 e6 a16 n16 c16 e16 x17 x18 h)
 (g : G) (a6 : Pt) (n6 c6 : Nat) (e6 : Bool) (x18 : Int) (h : AHeap) (hj : J g a6 n6 c6 e6 x18 h) : L5 Q i2 o2 a6 n6 c6 e6 a16 n16 c16 e16 x17 x18 h := by
  refine Loop.inv2 (fun g => E5 fun i2' o2' a6 n6 c6 e6 a16' n16' c16' e16' x17' x18 h => i2 = i2' ∧ o2 = o2' ∧ a16 = a16' ∧ n16 = n16' ∧ c16 = c16' ∧ e16 = e16' ∧ x17 = x17' ∧ J g a6 n6 c6 e6 x18 h) (fun g => E5 fun i2' o2' a6 n6 c6 e6 a16' n16' c16' e16' x17' x18 h => i2 = i2' ∧ o2 = o2' ∧ a16 = a16' ∧ n16 = n16' ∧ c16 = c16' ∧ e16 = e16' ∧ x17 = x17' ∧ ∃ g', m g' < m g ∧ J g' a6 n6 c6 e6 x18 h) m ?_ ?_ g ⟨rfl, rfl, rfl, rfl, rfl, rfl, rfl, hj⟩
  · intro g env h hi
    obtain ⟨i2', o2', a6, n6, c6, e6, a16', n16', c16', e16', x17', x18, rfl, rfl, rfl, rfl, rfl, rfl, rfl, rfl, hj⟩ := E5elim hi
    exact L5den Q (fun i2' o2' a6 n6 c6 e6 a16' n16' c16' e16' x17' x18 h => i2 = i2' ∧ o2 = o2' ∧ a16 = a16' ∧ n16 = n16' ∧ c16 = c16' ∧ e16 = e16' ∧ x17 = x17' ∧ ∃ g', m g' < m g ∧ J g' a6 n6 c6 e6 x18 h) i2 o2 a6 n6 c6 e6 a16 n16 c16 e16 x17 x18 h (hr g a6 n6 c6 e6 x18 h hj (fun i2' o2' a6 n6 c6 e6 a16' n16' c16' e16' x17' x18 h => i2 = i2' ∧ o2 = o2' ∧ a16 = a16' ∧ n16 = n16' ∧ c16 = c16' ∧ e16 = e16' ∧ x17 = x17' ∧ ∃ g', m g' < m g ∧ J g' a6 n6 c6 e6 x18 h) fun g' a6 n6 c6 e6 x18 h hlt hj => ⟨rfl, rfl, rfl, rfl, rfl, rfl, rfl, g', hlt, hj⟩)
  · intro g env h hi
    obtain ⟨i2', o2', a6, n6, c6, e6, a16', n16', c16', e16', x17', x18, rfl, rfl, rfl, rfl, rfl, rfl, rfl, rfl, g', hlt, hj⟩ := E5elim hi
    exact ⟨g', hlt, rfl, rfl, rfl, rfl, rfl, rfl, rfl, hj⟩
def L9t (Q : QT) (R5 : T5) (R9 : T9) (i2 o2 : Nat) (a6 : Pt) (n6 c6 : Nat) (e6 : Bool) (i8 o8 : Nat) (a16 : Pt) (n16 c16 : Nat) (e16 : Bool) (x17 x18 : Int) (a29 : Pt) (n29 c29 : Nat) (e29 : Bool) (x30 x31 : Int) (h : AHeap) : Prop :=
 bcase (decide ((x31 : Int) < x30)) ((0 ≤ (x31 : Int) ∧ (x31 : Int) < (n29 : Nat)) ∧ (xSome a29 fun i_63 o_64 => xStr (hCell h (.ptr (some (i_63, o_64 + (Int.toNat x31) * 1)))) fun s_65 => xStr (hCell h (.ptr (some (i8, o8 + 1)))) fun s_66 => letH (h ++ [.cells t_impl_Need [.str s_65, .str s_66] false]) fun h_67 => SCall pg n_impl_once [.slice a6 n6 c6 e6, .slice (some (List.length h, 0)) 1 1 true] h_67 fun v_68 h_69 =>
 xSl (some v_68) fun a_70 n_71 c_72 e_73 => R9 i2 o2 a_70 n_71 c_72 e_73 i8 o8 a16 n16 c16 e16 x17 x18 a29 n29 c29 e29 x30 (IntKind.wrap .i64 (x31 + 1)) h_69)) (A9x2 Q R5 x18 x17 a16 n16 c16 e16 a6 n6 c6 e6 i2 o2 h)
theorem L9den (Q : QT) (R5 : T5) (R9 : T9) (i2 o2 : Nat) (a6 : Pt) (n6 c6 : Nat) (e6 : Bool) (i8 o8 : Nat) (a16 : Pt) (n16 c16 : Nat) (e16 : Bool) (x17 x18 : Int) (a29 : Pt) (n29 c29 : Nat) (e29 : Bool) (x30 x31 : Int) (h : AHeap) (ht : L9t Q R5 R9 i2 o2 a6 n6 c6 e6 i8 o8 a16 n16 c16 e16 x17 x18 a29 n29 c29 e29 x30 x31 h) : Den pg fn.ntmps (C [1, 1, 1, 0, 1, 0, 0, 1, 1, 0, 0, 1, 1, 1, 0, 0]) [(2, .ptr (some (i2, o2))), (6, .slice a6 n6 c6 e6), (8, .ptr (some (i8, o8))), (16, .slice a16 n16 c16 e16), (17, .int .i64 x17), (18, .int .i64 x18), (29, .slice a29 n29 c29 e29), (30, .int .i64 x30), (31, .int .i64 x31)] h (K8 Q R5 R9) :=
  den_Den (kp := kp) (@cast _ (den pg fn.ntmps kp (C [1, 1, 1, 0, 1, 0, 0, 1, 1, 0, 0, 1, 1, 1, 0, 0]) [(2, .ptr (some (i2, o2))), (6, .slice a6 n6 c6 e6), (8, .ptr (some (i8, o8))), (16, .slice a16 n16 c16 e16), (17, .int .i64 x17), (18, .int .i64 x18), (29, .slice a29 n29 c29 e29), (30, .int .i64 x30), (31, .int .i64 x31)] h (K8 Q R5 R9)) (by kernel_rfl) ht)
theorem L9ind (Q : QT) (R5 : T5) (i2 o2 i8 o8 : Nat) (a16 : Pt) (n16 c16 : Nat) (e16 : Bool) (x17 x18 : Int) (a29 : Pt) (n29 c29 : Nat) (e29 : Bool) (x30 : Int) {G : Type} (J : G → Pt → Nat → Nat → Bool → Int → AHeap → Prop) (m : G → Nat)
 (hr : ∀ (g : G) (a6 : Pt) (n6 c6 : Nat) (e6 : Bool) (x31 : Int) (h : AHeap), J g a6 n6 c6 e6 x31 h → ∀ (R9 : T9), (∀ g' (a6 : Pt) (n6 c6 : Nat) (e6 : Bool) (x31 : Int) (h : AHeap), m g' < m g → J g' a6 n6 c6 e6 x31 h → R9 i2 o2 a6 n6 c6 e6 i8 o8 a16 n16 c16 e16 x17 x18 a29 n29 c29 e29 x30 x31 h) → L9t Q R5 R9 i2 o2 a6 n6 c6 e6 i8 o8 a16 n16 c16 e16 x17 x18 a29 n29 c29 e29 x30 x31 h)
 (g : G) (a6 : Pt) (n6 c6 : Nat) (e6 : Bool) (x31 : Int) (h : AHeap) (hj : J g a6 n6 c6 e6 x31 h) : L9 Q R5 i2 o2 a6 n6 c6 e6 i8 o8 a16 n16 c16 e16 x17 x18 a29 n29 c29 e29 x30 x31 h := by
  refine Loop.inv2 (fun g => E9 fun i2' o2' a6 n6 c6 e6 i8' o8' a16' n16' c16' e16' x17' x18' a29' n29' c29' e29' x30' x31 h => i2 = i2' ∧ o2 = o2' ∧ i8 = i8' ∧ o8 = o8' ∧ a16 = a16' ∧ n16 = n16' ∧ c16 = c16' ∧ e16 = e16' ∧ x17 = x17' ∧ x18 = x18' ∧ a29 = a29' ∧ n29 = n29' ∧ c29 = c29' ∧ e29 = e29' ∧ x30 = x30' ∧ J g a6 n6 c6 e6 x31 h) (fun g => E9 fun i2' o2' a6 n6 c6 e6 i8' o8' a16' n16' c16' e16' x17' x18' a29' n29' c29' e29' x30' x31 h => i2 = i2' ∧ o2 = o2' ∧ i8 = i8' ∧ o8 = o8' ∧ a16 = a16' ∧ n16 = n16' ∧ c16 = c16' ∧ e16 = e16' ∧ x17 = x17' ∧ x18 = x18' ∧ a29 = a29' ∧ n29 = n29' ∧ c29 = c29' ∧ e29 = e29' ∧ x30 = x30' ∧ ∃ g', m g' < m g ∧ J g' a6 n6 c6 e6 x31 h) m ?_ ?_ g ⟨rfl, rfl, rfl, rfl, rfl, rfl, rfl, rfl, rfl, rfl, rfl, rfl, rfl, rfl, rfl, hj⟩
  · intro g env h hi
    obtain ⟨i2', o2', a6, n6, c6, e6, i8', o8', a16', n16', c16', e16', x17', x18', a29', n29', c29', e29', x30', x31, rfl, rfl, rfl, rfl, rfl, rfl, rfl, rfl, rfl, rfl, rfl, rfl, rfl, rfl, rfl, rfl, hj⟩ := E9elim hi
    exact L9den Q R5 (fun i2' o2' a6 n6 c6 e6 i8' o8' a16' n16' c16' e16' x17' x18' a29' n29' c29' e29' x30' x31 h => i2 = i2' ∧ o2 = o2' ∧ i8 = i8' ∧ o8 = o8' ∧ a16 = a16' ∧ n16 = n16' ∧ c16 = c16' ∧ e16 = e16' ∧ x17 = x17' ∧ x18 = x18' ∧ a29 = a29' ∧ n29 = n29' ∧ c29 = c29' ∧ e29 = e29' ∧ x30 = x30' ∧ ∃ g', m g' < m g ∧ J g' a6 n6 c6 e6 x31 h) i2 o2 a6 n6 c6 e6 i8 o8 a16 n16 c16 e16 x17 x18 a29 n29 c29 e29 x30 x31 h (hr g a6 n6 c6 e6 x31 h hj (fun i2' o2' a6 n6 c6 e6 i8' o8' a16' n16' c16' e16' x17' x18' a29' n29' c29' e29' x30' x31 h => i2 = i2' ∧ o2 = o2' ∧ i8 = i8' ∧ o8 = o8' ∧ a16 = a16' ∧ n16 = n16' ∧ c16 = c16' ∧ e16 = e16' ∧ x17 = x17' ∧ x18 = x18' ∧ a29 = a29' ∧ n29 = n29' ∧ c29 = c29' ∧ e29 = e29' ∧ x30 = x30' ∧ ∃ g', m g' < m g ∧ J g' a6 n6 c6 e6 x31 h) fun g' a6 n6 c6 e6 x31 h hlt hj => ⟨rfl, rfl, rfl, rfl, rfl, rfl, rfl, rfl, rfl, rfl, rfl, rfl, rfl, rfl, rfl, g', hlt, hj⟩)
  · intro g env h hi
    obtain ⟨i2', o2', a6, n6, c6, e6, i8', o8', a16', n16', c16', e16', x17', x18', a29', n29', c29', e29', x30', x31, rfl, rfl, rfl, rfl, rfl, rfl, rfl, rfl, rfl, rfl, rfl, rfl, rfl, rfl, rfl, rfl, g', hlt, hj⟩ := E9elim hi
    exact ⟨g', hlt, rfl, rfl, rfl, rfl, rfl, rfl, rfl, rfl, rfl, rfl, rfl, rfl, rfl, rfl, rfl, hj⟩
theorem A5x0i (Q : QT) (a6 : Pt) (n6 c6 : Nat) (e6 : Bool) (h : AHeap) (ht :
 Q (.tup [.slice a6 n6 c6 e6, .bool true]) h) : A5x0 Q a6 n6 c6 e6 h :=
  At.mk (@cast _ ((K1 Q) (.exit 0) [(6, .slice a6 n6 c6 e6)] h) (by kernel_rfl) ht)
theorem A9x2i (Q : QT) (R5 : T5) (x18 x17 : Int) (a16 : Pt) (n16 c16 : Nat) (e16 : Bool) (a6 : Pt) (n6 c6 : Nat) (e6 : Bool) (i2 o2 : Nat) (h : AHeap) (ht :
 R5 i2 o2 a6 n6 c6 e6 a16 n16 c16 e16 x17 (IntKind.wrap .i64 (x18 + 1)) h) : A9x2 Q R5 x18 x17 a16 n16 c16 e16 a6 n6 c6 e6 i2 o2 h :=
  At.mk (@cast _ ((K6 Q R5) (.exit 2) [(18, .int .i64 x18), (17, .int .i64 x17), (16, .slice a16 n16 c16 e16), (6, .slice a6 n6 c6 e6), (2, .ptr (some (i2, o2)))] h) (by kernel_rfl) ht)
theorem call (a0x0 : Pt) (n0x0 c0x0 : Nat) (e0x0 : Bool) (a0x1 : Pt) (n0x1 c0x1 : Nat) (e0x1 : Bool) (a1 : Pt) (n1 c1 : Nat) (e1 : Bool) (h : AHeap) (Q : QT) (ht :
 letH (h ++ [.cells t_impl_World [.slice a0x0 n0x0 c0x0 e0x0, .slice a0x1 n0x1 c0x1 e0x1] false]) fun h_0 => xRow (hRow h_0 (.ptr (some (List.length h, 0))) 2) fun cs_1 => xCons cs_1 fun c_2 r_3 => xSl (some c_2) fun a_4 n_5 c_6 e_7 => xCons r_3 fun c_8 r_9 => xSl (some c_8) fun a_10 n_11 c_12 e_13 => xNil r_9 (SCall pg n_impl_GivensValid [.agg [.slice a_4 n_5 c_6 e_7, .slice a_10 n_11 c_12 e_13], .slice a1 n1 c1 e1] h_0 fun v_14 h_15 =>
 xBool (some v_14) fun b_16 => bcase (!b_16) (Q (.tup [.slice none 0 0 true, .bool false]) h_15) (letH (h_15 ++ [.cells t_impl_Need [] false]) fun h_17 => L5 Q (List.length h) 0 (some (List.length h_15, 0)) 0 0 true a1 n1 c1 e1 (((n1 : Nat) : Int)) 0 h_17))) : SCall pg n_impl_AllGivens [.agg [.slice a0x0 n0x0 c0x0 e0x0, .slice a0x1 n0x1 c0x1 e0x1], .slice a1 n1 c1 e1] h Q :=
  SCall.of_body kp (c := cod fn) (fn := fn) Go.Proofs.Try.func36 (by kernel_rfl) (by kernel_rfl) (Nat.le_of_ble_eq_true (by kernel_rfl))
    (@cast _ (den pg fn.ntmps kp (cod fn) (Env.args 0 [.agg [.slice a0x0 n0x0 c0x0 e0x0, .slice a0x1 n0x1 c0x1 e0x1], .slice a1 n1 c1 e1]) h (KR Q)) (by kernel_rfl) ht)
end F_impl_AllGivens
end Go.Sim

/- Printed by wip/tool: what the functions' bodies do, in the words of 'den'. -/
set_option maxRecDepth 100000
set_option linter.unusedVariables false
namespace Go.Sim
open Go Go.RowKit
/-! Function loop.example/instancesearch/impl.supers -/
namespace F_impl_supers
noncomputable abbrev fn : Func := Go.Proofs.Try.f79
def kp : Keeps := [(3000003, [5]), (1000003, [5, 12])]
noncomputable def C (p : List Nat) : Code := (cod fn).sub p
def KR (Q : QT) : KT := retA pg fn.results.toList Q
abbrev T3 := Pt → Nat → Nat → Bool → Nat → AHeap → Prop
def E3 (R3 : T3) (env : Env) (h : AHeap) : Prop := eVal 5 env fun v env => xSl (some v) fun a5 n5 c5 e5 => eVal 12 env fun v env => eIter v fun r12 => eNil env (R3 a5 n5 c5 e5 r12 h)
theorem E3elim {R3 : T3} {env : Env} {h : AHeap} (hi : E3 R3 env h) : ∃ a5, ∃ n5, ∃ c5, ∃ e5, ∃ r12, env = [(5, .slice a5 n5 c5 e5), (12, .iter r12)] ∧ R3 a5 n5 c5 e5 r12 h := by
  unfold E3 at hi
  have hi0 := hi
  clear hi
  obtain ⟨v, env, rfl, hi1⟩ := eVal_elim hi0
  obtain ⟨a5, n5, c5, e5, rfl, hi2⟩ := xSl_elim hi1
  obtain ⟨v, env, rfl, hi3⟩ := eVal_elim hi2
  obtain ⟨r12, rfl, hi4⟩ := eIter_elim hi3
  obtain ⟨rfl, hi5⟩ := eNil_elim hi4
  have hi := hi5
  exact ⟨a5, n5, c5, e5, r12, rfl, hi⟩
def K0 (Q : QT) : KT := andThen (fun env' h' => (match kp.find 4000006 with | some ks => Den pg fn.ntmps (C [1, 1, 1]) (env'.keep ks) h' (KR Q) | none => den pg fn.ntmps kp (C [1, 1, 1]) env' h' (KR Q))) (KR Q)
def K1 (Q : QT) : KT := onExit 0 (K0 Q)
def K2 (Q : QT) : KT := left kp 3 (K1 Q)
def K3 (Q : QT) (R3 : T3) : KT := rnd ((kp.find 1000003).getD []) (E3 R3) (K2 Q)
def L3 (Q : QT) (a5 : Pt) (n5 c5 : Nat) (e5 : Bool) (r12 : Nat) (h : AHeap) : Prop := Loop (Den pg fn.ntmps (C [1, 1, 0, 1, 0, 0])) ((kp.find 1000003).getD []) (K2 Q) [(5, .slice a5 n5 c5 e5), (12, .iter r12)] h
def A3x0 (Q : QT) (a5 : Pt) (n5 c5 : Nat) (e5 : Bool) (h : AHeap) : Prop := At (K1 Q) (.exit 0) [(5, .slice a5 n5 c5 e5)] h
def L3t (Q : QT) (R3 : T3) (a5 : Pt) (n5 c5 : Nat) (e5 : Bool) (r12 : Nat) (h : AHeap) : Prop :=
 xIter h r12 fun s_19 q_20 => (q_20 < List.length s_19 → List.getD s_19 q_20 0 < 128 ∧ (letH (List.set h r12 (.iter s_19 (q_20 + 1))) fun h_21 => (0 ≤ (((List.getD s_19 q_20 0 : Nat) : Int) : Int) ∧ (((List.getD s_19 q_20 0 : Nat) : Int) : Int) < 128) ∧ (letH (h_21 ++ [.cells t_string [.str ([Int.toNat (((List.getD s_19 q_20 0 : Nat) : Int))])] false]) fun h_22 => appendA pg t_L_string h_22 (.slice a5 n5 c5 e5) (.slice (some (List.length h_21, 0)) 1 1 true) fun v_23 h_24 => xSl (some v_23) fun a_25 n_26 c_27 e_28 => R3 a_25 n_26 c_27 e_28 r12 h_24))) ∧ (List.length s_19 ≤ q_20 → A3x0 Q a5 n5 c5 e5 h)
theorem L3den (Q : QT) (R3 : T3) (a5 : Pt) (n5 c5 : Nat) (e5 : Bool) (r12 : Nat) (h : AHeap) (ht : L3t Q R3 a5 n5 c5 e5 r12 h) : Den pg fn.ntmps (C [1, 1, 0, 1, 0, 0]) [(5, .slice a5 n5 c5 e5), (12, .iter r12)] h (K3 Q R3) :=
  den_Den (kp := kp) (@cast _ (den pg fn.ntmps kp (C [1, 1, 0, 1, 0, 0]) [(5, .slice a5 n5 c5 e5), (12, .iter r12)] h (K3 Q R3)) (by kernel_rfl) ht)
theorem L3ind (Q : QT) (r12 : Nat) {G : Type} (J : G → Pt → Nat → Nat → Bool → AHeap → Prop) (m : G → Nat)
 (hr : ∀ (g : G) (a5 : Pt) (n5 c5 : Nat) (e5 : Bool) (h : AHeap), J g a5 n5 c5 e5 h → ∀ (R3 : T3), (∀ g' (a5 : Pt) (n5 c5 : Nat) (e5 : Bool) (h : AHeap), m g' < m g → J g' a5 n5 c5 e5 h → R3 a5 n5 c5 e5 r12 h) → L3t Q R3 a5 n5 c5 e5 r12 h)
 (g : G) (a5 : Pt) (n5 c5 : Nat) (e5 : Bool) (h : AHeap) (hj : J g a5 n5 c5 e5 h) : L3 Q a5 n5 c5 e5 r12 h := by
  refine Loop.inv2 (fun g => E3 fun a5 n5 c5 e5 r12' h => r12 = r12' ∧ J g a5 n5 c5 e5 h) (fun g => E3 fun a5 n5 c5 e5 r12' h => r12 = r12' ∧ ∃ g', m g' < m g ∧ J g' a5 n5 c5 e5 h) m ?_ ?_ g ⟨rfl, hj⟩
  · intro g env h hi
    obtain ⟨a5, n5, c5, e5, r12', rfl, rfl, hj⟩ := E3elim hi
    exact L3den Q (fun a5 n5 c5 e5 r12' h => r12 = r12' ∧ ∃ g', m g' < m g ∧ J g' a5 n5 c5 e5 h) a5 n5 c5 e5 r12 h (hr g a5 n5 c5 e5 h hj (fun a5 n5 c5 e5 r12' h => r12 = r12' ∧ ∃ g', m g' < m g ∧ J g' a5 n5 c5 e5 h) fun g' a5 n5 c5 e5 h hlt hj => ⟨rfl, g', hlt, hj⟩)
  · intro g env h hi
    obtain ⟨a5, n5, c5, e5, r12', rfl, rfl, g', hlt, hj⟩ := E3elim hi
    exact ⟨g', hlt, rfl, hj⟩
theorem A3x0i (Q : QT) (a5 : Pt) (n5 c5 : Nat) (e5 : Bool) (h : AHeap) (ht :
 Q (.slice a5 n5 c5 e5) h) : A3x0 Q a5 n5 c5 e5 h :=
  At.mk (@cast _ ((K1 Q) (.exit 0) [(5, .slice a5 n5 c5 e5)] h) (by kernel_rfl) ht)
theorem call (a0x0 : Pt) (n0x0 c0x0 : Nat) (e0x0 : Bool) (a0x1 : Pt) (n0x1 c0x1 : Nat) (e0x1 : Bool) (x1 : List Nat) (h : AHeap) (Q : QT) (ht :
 letH (h ++ [.cells t_impl_World [.slice a0x0 n0x0 c0x0 e0x0, .slice a0x1 n0x1 c0x1 e0x1] false]) fun h_0 => letH (h_0 ++ [.cells t_string [] false]) fun h_1 => xRow (hRow h_1 (.ptr (some (List.length h, 0))) 2) fun cs_2 => xCons cs_2 fun c_3 r_4 => xSl (some c_3) fun a_5 n_6 c_7 e_8 => xCons r_4 fun c_9 r_10 => xSl (some c_9) fun a_11 n_12 c_13 e_14 => xNil r_10 (SCall pg n_impl_SupersOf [.agg [.slice a_5 n_6 c_7 e_8, .slice a_11 n_12 c_13 e_14], .str x1] h_1 fun v_15 h_16 =>
 xStr (some v_15) fun s_17 => letH (h_16 ++ [.iter s_17 0]) fun h_18 => L3 Q (some (List.length h_0, 0)) 0 0 true (List.length h_16) h_18)) : SCall pg n_impl_supers [.agg [.slice a0x0 n0x0 c0x0 e0x0, .slice a0x1 n0x1 c0x1 e0x1], .str x1] h Q :=
  SCall.of_body kp (c := cod fn) (fn := fn) Go.Proofs.Try.func79 (by kernel_rfl) (by kernel_rfl) (Nat.le_of_ble_eq_true (by kernel_rfl))
    (@cast _ (den pg fn.ntmps kp (cod fn) (Env.args 0 [.agg [.slice a0x0 n0x0 c0x0 e0x0, .slice a0x1 n0x1 c0x1 e0x1], .str x1]) h (KR Q)) (by kernel_rfl) ht)
end F_impl_supers
end Go.Sim

/- Printed by wip/tool: what the functions' bodies do, in the words of 'den'. -/
set_option maxRecDepth 100000
set_option linter.unusedVariables false
namespace Go.Sim
open Go Go.RowKit
/-! Function slices.Index[[]loop.example/instancesearch/impl.Need,loop.example/instancesearch/impl.Need] -/
namespace F_slices_Index_L_impl_Need_impl_Need
noncomputable abbrev fn : Func := Go.Proofs.Try.f149
def kp : Keeps := [(3000002, [4]), (1000002, [0, 3, 7, 8]), (2000004, [16, 5, 8, 7, 3, 0])]
noncomputable def C (p : List Nat) : Code := (cod fn).sub p
def KR (Q : QT) : KT := retA pg fn.results.toList Q
abbrev T2 := Pt → Nat → Nat → Bool → Nat → Nat → Int → Int → AHeap → Prop
def E2 (R2 : T2) (env : Env) (h : AHeap) : Prop := eVal 0 env fun v env => xSl (some v) fun a0 n0 c0 e0 => eVal 3 env fun v env => xPtr (some v) fun a => xSome a fun i3 o3 => eVal 7 env fun v env => eInt .i64 v fun x7 => eVal 8 env fun v env => eInt .i64 v fun x8 => eNil env (R2 a0 n0 c0 e0 i3 o3 x7 x8 h)
theorem E2elim {R2 : T2} {env : Env} {h : AHeap} (hi : E2 R2 env h) : ∃ a0, ∃ n0, ∃ c0, ∃ e0, ∃ i3, ∃ o3, ∃ x7, ∃ x8, env = [(0, .slice a0 n0 c0 e0), (3, .ptr (some (i3, o3))), (7, .int .i64 x7), (8, .int .i64 x8)] ∧ R2 a0 n0 c0 e0 i3 o3 x7 x8 h := by
  unfold E2 at hi
  have hi0 := hi
  clear hi
  obtain ⟨v, env, rfl, hi1⟩ := eVal_elim hi0
  obtain ⟨a0, n0, c0, e0, rfl, hi2⟩ := xSl_elim hi1
  obtain ⟨v, env, rfl, hi3⟩ := eVal_elim hi2
  obtain ⟨a, rfl, hi4⟩ := xPtr_elim hi3
  obtain ⟨i3, o3, rfl, hi5⟩ := xSome_elim hi4
  obtain ⟨v, env, rfl, hi6⟩ := eVal_elim hi5
  obtain ⟨x7, rfl, hi7⟩ := eInt_elim hi6
  obtain ⟨v, env, rfl, hi8⟩ := eVal_elim hi7
  obtain ⟨x8, rfl, hi9⟩ := eInt_elim hi8
  obtain ⟨rfl, hi10⟩ := eNil_elim hi9
  have hi := hi10
  exact ⟨a0, n0, c0, e0, i3, o3, x7, x8, rfl, hi⟩
def K0 (Q : QT) : KT := andThen (fun env' h' => (match kp.find 4000007 with | some ks => Den pg fn.ntmps (C [1, 1]) (env'.keep ks) h' (KR Q) | none => den pg fn.ntmps kp (C [1, 1]) env' h' (KR Q))) (KR Q)
def K1 (Q : QT) : KT := onExit 0 (K0 Q)
def K2 (Q : QT) : KT := left kp 2 (K1 Q)
def K3 (Q : QT) (R2 : T2) : KT := rnd ((kp.find 1000002).getD []) (E2 R2) (K2 Q)
def L2 (Q : QT) (a0 : Pt) (n0 c0 : Nat) (e0 : Bool) (i3 o3 : Nat) (x7 x8 : Int) (h : AHeap) : Prop := Loop (Den pg fn.ntmps (C [1, 0, 1, 0, 0])) ((kp.find 1000002).getD []) (K2 Q) [(0, .slice a0 n0 c0 e0), (3, .ptr (some (i3, o3))), (7, .int .i64 x7), (8, .int .i64 x8)] h
def A2x0 (Q : QT) (h : AHeap) : Prop := At (K1 Q) (.exit 0) [(4, .undef)] h
def L2t (Q : QT) (R2 : T2) (a0 : Pt) (n0 c0 : Nat) (e0 : Bool) (i3 o3 : Nat) (x7 x8 : Int) (h : AHeap) : Prop :=
 bcase (decide ((x8 : Int) < x7)) ((0 ≤ (x8 : Int) ∧ (x8 : Int) < (n0 : Nat)) ∧ (xSome a0 fun i_1 o_2 => xRow (hRow h (.ptr (some (i3, o3))) 2) fun cs_3 => xCons cs_3 fun c_4 r_5 => xStr (some c_4) fun s_6 => xCons r_5 fun c_7 r_8 => xStr (some c_7) fun s_9 => xNil r_8 (xRow (hRow h (.ptr (some (i_1, o_2 + (Int.toNat x8) * 2))) 2) fun cs_10 => xCons cs_10 fun c_11 r_12 => xStr (some c_11) fun s_13 => xCons r_12 fun c_14 r_15 => xStr (some c_14) fun s_16 => xNil r_15 ((hRow h (.ptr (some (i3, o3))) 2 = hRow h (.ptr (some (i3, o3))) 2) ∧ bcase ((decide (s_6 = s_13)) && (decide (s_9 = s_16))) (Q (.int .i64 x8) h) (R2 a0 n0 c0 e0 i3 o3 x7 (IntKind.wrap .i64 (x8 + 1)) h))))) (A2x0 Q h)
theorem L2den (Q : QT) (R2 : T2) (a0 : Pt) (n0 c0 : Nat) (e0 : Bool) (i3 o3 : Nat) (x7 x8 : Int) (h : AHeap) (ht : L2t Q R2 a0 n0 c0 e0 i3 o3 x7 x8 h) : Den pg fn.ntmps (C [1, 0, 1, 0, 0]) [(0, .slice a0 n0 c0 e0), (3, .ptr (some (i3, o3))), (7, .int .i64 x7), (8, .int .i64 x8)] h (K3 Q R2) :=
  den_Den (kp := kp) (@cast _ (den pg fn.ntmps kp (C [1, 0, 1, 0, 0]) [(0, .slice a0 n0 c0 e0), (3, .ptr (some (i3, o3))), (7, .int .i64 x7), (8, .int .i64 x8)] h (K3 Q R2)) (by kernel_rfl) ht)
theorem L2ind (Q : QT) (a0 : Pt) (n0 c0 : Nat) (e0 : Bool) (i3 o3 : Nat) (x7 : Int) {G : Type} (J : G → Int → AHeap → Prop) (m : G → Nat)
 (hr : ∀ (g : G) (x8 : Int) (h : AHeap), J g x8 h → ∀ (R2 : T2), (∀ g' (x8 : Int) (h : AHeap), m g' < m g → J g' x8 h → R2 a0 n0 c0 e0 i3 o3 x7 x8 h) → L2t Q R2 a0 n0 c0 e0 i3 o3 x7 x8 h)
 (g : G) (x8 : Int) (h : AHeap) (hj : J g x8 h) : L2 Q a0 n0 c0 e0 i3 o3 x7 x8 h := by
  refine Loop.inv2 (fun g => E2 fun a0' n0' c0' e0' i3' o3' x7' x8 h => a0 = a0' ∧ n0 = n0' ∧ c0 = c0' ∧ e0 = e0' ∧ i3 = i3' ∧ o3 = o3' ∧ x7 = x7' ∧ J g x8 h) (fun g => E2 fun a0' n0' c0' e0' i3' o3' x7' x8 h => a0 = a0' ∧ n0 = n0' ∧ c0 = c0' ∧ e0 = e0' ∧ i3 = i3' ∧ o3 = o3' ∧ x7 = x7' ∧ ∃ g', m g' < m g ∧ J g' x8 h) m ?_ ?_ g ⟨rfl, rfl, rfl, rfl, rfl, rfl, rfl, hj⟩
  · intro g env h hi
    obtain ⟨a0', n0', c0', e0', i3', o3', x7', x8, rfl, rfl, rfl, rfl, rfl, rfl, rfl, rfl, hj⟩ := E2elim hi
    exact L2den Q (fun a0' n0' c0' e0' i3' o3' x7' x8 h => a0 = a0' ∧ n0 = n0' ∧ c0 = c0' ∧ e0 = e0' ∧ i3 = i3' ∧ o3 = o3' ∧ x7 = x7' ∧ ∃ g', m g' < m g ∧ J g' x8 h) a0 n0 c0 e0 i3 o3 x7 x8 h (hr g x8 h hj (fun a0' n0' c0' e0' i3' o3' x7' x8 h => a0 = a0' ∧ n0 = n0' ∧ c0 = c0' ∧ e0 = e0' ∧ i3 = i3' ∧ o3 = o3' ∧ x7 = x7' ∧ ∃ g', m g' < m g ∧ J g' x8 h) fun g' x8 h hlt hj => ⟨rfl, rfl, rfl, rfl, rfl, rfl, rfl, g', hlt, hj⟩)
  · intro g env h hi
    obtain ⟨a0', n0', c0', e0', i3', o3', x7', x8, rfl, rfl, rfl, rfl, rfl, rfl, rfl, rfl, g', hlt, hj⟩ := E2elim hi
    exact ⟨g', hlt, rfl, rfl, rfl, rfl, rfl, rfl, rfl, hj⟩
theorem A2x0i (Q : QT) (h : AHeap) (ht :
 Q (.int .i64 (-1)) h) : A2x0 Q h :=
  At.mk (@cast _ ((K1 Q) (.exit 0) [(4, .undef)] h) (by kernel_rfl) ht)
theorem call (a0 : Pt) (n0 c0 : Nat) (e0 : Bool) (x1x0 x1x1 : List Nat) (h : AHeap) (Q : QT) (ht :
 letH (h ++ [.cells t_impl_Need [.str x1x0, .str x1x1] false]) fun h_0 => L2 Q a0 n0 c0 e0 (List.length h) 0 (((n0 : Nat) : Int)) 0 h_0) : SCall pg n_slices_Index_L_impl_Need_impl_Need [.slice a0 n0 c0 e0, .agg [.str x1x0, .str x1x1]] h Q :=
  SCall.of_body kp (c := cod fn) (fn := fn) Go.Proofs.Try.func149 (by kernel_rfl) (by kernel_rfl) (Nat.le_of_ble_eq_true (by kernel_rfl))
    (@cast _ (den pg fn.ntmps kp (cod fn) (Env.args 0 [.slice a0 n0 c0 e0, .agg [.str x1x0, .str x1x1]]) h (KR Q)) (by kernel_rfl) ht)
end F_slices_Index_L_impl_Need_impl_Need
/-! Function slices.Contains[[]loop.example/instancesearch/impl.Need,loop.example/instancesearch/impl.Need] -/
namespace F_slices_Contains_L_impl_Need_impl_Need
noncomputable abbrev fn : Func := Go.Proofs.Try.f118
def kp : Keeps := []
noncomputable def C (p : List Nat) : Code := (cod fn).sub p
def KR (Q : QT) : KT := retA pg fn.results.toList Q
theorem call (a0 : Pt) (n0 c0 : Nat) (e0 : Bool) (x1x0 x1x1 : List Nat) (h : AHeap) (Q : QT) (ht :
 letH (h ++ [.cells t_impl_Need [.str x1x0, .str x1x1] false]) fun h_0 => xRow (hRow h_0 (.ptr (some (List.length h, 0))) 2) fun cs_1 => xCons cs_1 fun c_2 r_3 => xStr (some c_2) fun s_4 => xCons r_3 fun c_5 r_6 => xStr (some c_5) fun s_7 => xNil r_6 (SCall pg n_slices_Index_L_impl_Need_impl_Need [.slice a0 n0 c0 e0, .agg [.str s_4, .str s_7]] h_0 fun v_8 h_9 =>
 xInt .i64 (some v_8) fun x_10 => Q (.bool (decide ((x_10 : Int) ≥ 0))) h_9)) : SCall pg n_slices_Contains_L_impl_Need_impl_Need [.slice a0 n0 c0 e0, .agg [.str x1x0, .str x1x1]] h Q :=
  SCall.of_body kp (c := cod fn) (fn := fn) Go.Proofs.Try.func118 (by kernel_rfl) (by kernel_rfl) (Nat.le_of_ble_eq_true (by kernel_rfl))
    (@cast _ (den pg fn.ntmps kp (cod fn) (Env.args 0 [.slice a0 n0 c0 e0, .agg [.str x1x0, .str x1x1]]) h (KR Q)) (by kernel_rfl) ht)
end F_slices_Contains_L_impl_Need_impl_Need
/-! Function loop.example/instancesearch/spec.l9In -/
namespace F_spec_l9In
noncomputable abbrev fn : Func := Go.Proofs.Try.f77
def kp : Keeps := [(3000002, [4]), (1000002, [3, 7, 8, 9])]
noncomputable def C (p : List Nat) : Code := (cod fn).sub p
def KR (Q : QT) : KT := retA pg fn.results.toList Q
abbrev T2 := Nat → Nat → Pt → Nat → Nat → Bool → Int → Int → AHeap → Prop
def E2 (R2 : T2) (env : Env) (h : AHeap) : Prop := eVal 3 env fun v env => xPtr (some v) fun a => xSome a fun i3 o3 => eVal 7 env fun v env => xSl (some v) fun a7 n7 c7 e7 => eVal 8 env fun v env => eInt .i64 v fun x8 => eVal 9 env fun v env => eInt .i64 v fun x9 => eNil env (R2 i3 o3 a7 n7 c7 e7 x8 x9 h)
theorem E2elim {R2 : T2} {env : Env} {h : AHeap} (hi : E2 R2 env h) : ∃ i3, ∃ o3, ∃ a7, ∃ n7, ∃ c7, ∃ e7, ∃ x8, ∃ x9, env = [(3, .ptr (some (i3, o3))), (7, .slice a7 n7 c7 e7), (8, .int .i64 x8), (9, .int .i64 x9)] ∧ R2 i3 o3 a7 n7 c7 e7 x8 x9 h := by
  unfold E2 at hi
  have hi0 := hi
  clear hi
  obtain ⟨v, env, rfl, hi1⟩ := eVal_elim hi0
  obtain ⟨a, rfl, hi2⟩ := xPtr_elim hi1
  obtain ⟨i3, o3, rfl, hi3⟩ := xSome_elim hi2
  obtain ⟨v, env, rfl, hi4⟩ := eVal_elim hi3
  obtain ⟨a7, n7, c7, e7, rfl, hi5⟩ := xSl_elim hi4
  obtain ⟨v, env, rfl, hi6⟩ := eVal_elim hi5
  obtain ⟨x8, rfl, hi7⟩ := eInt_elim hi6
  obtain ⟨v, env, rfl, hi8⟩ := eVal_elim hi7
  obtain ⟨x9, rfl, hi9⟩ := eInt_elim hi8
  obtain ⟨rfl, hi10⟩ := eNil_elim hi9
  have hi := hi10
  exact ⟨i3, o3, a7, n7, c7, e7, x8, x9, rfl, hi⟩
def K0 (Q : QT) : KT := andThen (fun env' h' => (match kp.find 4000007 with | some ks => Den pg fn.ntmps (C [1, 1]) (env'.keep ks) h' (KR Q) | none => den pg fn.ntmps kp (C [1, 1]) env' h' (KR Q))) (KR Q)
def K1 (Q : QT) : KT := onExit 0 (K0 Q)
def K2 (Q : QT) : KT := left kp 2 (K1 Q)
def K3 (Q : QT) (R2 : T2) : KT := rnd ((kp.find 1000002).getD []) (E2 R2) (K2 Q)
def L2 (Q : QT) (i3 o3 : Nat) (a7 : Pt) (n7 c7 : Nat) (e7 : Bool) (x8 x9 : Int) (h : AHeap) : Prop := Loop (Den pg fn.ntmps (C [1, 0, 1, 0, 0])) ((kp.find 1000002).getD []) (K2 Q) [(3, .ptr (some (i3, o3))), (7, .slice a7 n7 c7 e7), (8, .int .i64 x8), (9, .int .i64 x9)] h
def A2x0 (Q : QT) (h : AHeap) : Prop := At (K1 Q) (.exit 0) [(4, .undef)] h
def L2t (Q : QT) (R2 : T2) (i3 o3 : Nat) (a7 : Pt) (n7 c7 : Nat) (e7 : Bool) (x8 x9 : Int) (h : AHeap) : Prop :=
 bcase (decide ((x9 : Int) < x8)) ((0 ≤ (x9 : Int) ∧ (x9 : Int) < (n7 : Nat)) ∧ (xSome a7 fun i_1 o_2 => xRow (hRow h (.ptr (some (i_1, o_2 + (Int.toNat x9) * 2))) 2) fun cs_3 => xCons cs_3 fun c_4 r_5 => xStr (some c_4) fun s_6 => xCons r_5 fun c_7 r_8 => xStr (some c_7) fun s_9 => xNil r_8 (letH (h ++ [.cells t_impl_Need [.str [], .str []] false]) fun h_10 => xHeap (hStore h_10 (.ptr (some (List.length h, 0))) [.str s_6, .str s_9]) fun h_11 => xRow (hRow h_11 (.ptr (some (List.length h, 0))) 2) fun cs_12 => xCons cs_12 fun c_13 r_14 => xStr (some c_13) fun s_15 => xCons r_14 fun c_16 r_17 => xStr (some c_16) fun s_18 => xNil r_17 (xRow (hRow h_11 (.ptr (some (i3, o3))) 2) fun cs_19 => xCons cs_19 fun c_20 r_21 => xStr (some c_20) fun s_22 => xCons r_21 fun c_23 r_24 => xStr (some c_23) fun s_25 => xNil r_24 (bcase ((decide (s_15 = s_22)) && (decide (s_18 = s_25))) (Q (.bool true) h_11) (R2 i3 o3 a7 n7 c7 e7 x8 (IntKind.wrap .i64 (x9 + 1)) h_11)))))) (A2x0 Q h)
theorem L2den (Q : QT) (R2 : T2) (i3 o3 : Nat) (a7 : Pt) (n7 c7 : Nat) (e7 : Bool) (x8 x9 : Int) (h : AHeap) (ht : L2t Q R2 i3 o3 a7 n7 c7 e7 x8 x9 h) : Den pg fn.ntmps (C [1, 0, 1, 0, 0]) [(3, .ptr (some (i3, o3))), (7, .slice a7 n7 c7 e7), (8, .int .i64 x8), (9, .int .i64 x9)] h (K3 Q R2) :=
  den_Den (kp := kp) (@cast _ (den pg fn.ntmps kp (C [1, 0, 1, 0, 0]) [(3, .ptr (some (i3, o3))), (7, .slice a7 n7 c7 e7), (8, .int .i64 x8), (9, .int .i64 x9)] h (K3 Q R2)) (by kernel_rfl) ht)
theorem L2ind (Q : QT) (i3 o3 : Nat) (a7 : Pt) (n7 c7 : Nat) (e7 : Bool) (x8 : Int) {G : Type} (J : G → Int → AHeap → Prop) (m : G → Nat)
 (hr : ∀ (g : G) (x9 : Int) (h : AHeap), J g x9 h → ∀ (R2 : T2), (∀ g' (x9 : Int) (h : AHeap), m g' < m g → J g' x9 h → R2 i3 o3 a7 n7 c7 e7 x8 x9 h) → L2t Q R2 i3 o3 a7 n7 c7 e7 x8 x9 h)
 (g : G) (x9 : Int) (h : AHeap) (hj : J g x9 h) : L2 Q i3 o3 a7 n7 c7 e7 x8 x9 h := by
  refine Loop.inv2 (fun g => E2 fun i3' o3' a7' n7' c7' e7' x8' x9 h => i3 = i3' ∧ o3 = o3' ∧ a7 = a7' ∧ n7 = n7' ∧ c7 = c7' ∧ e7 = e7' ∧ x8 = x8' ∧ J g x9 h) (fun g => E2 fun i3' o3' a7' n7' c7' e7' x8' x9 h => i3 = i3' ∧ o3 = o3' ∧ a7 = a7' ∧ n7 = n7' ∧ c7 = c7' ∧ e7 = e7' ∧ x8 = x8' ∧ ∃ g', m g' < m g ∧ J g' x9 h) m ?_ ?_ g ⟨rfl, rfl, rfl, rfl, rfl, rfl, rfl, hj⟩
  · intro g env h hi
    obtain ⟨i3', o3', a7', n7', c7', e7', x8', x9, rfl, rfl, rfl, rfl, rfl, rfl, rfl, rfl, hj⟩ := E2elim hi
    exact L2den Q (fun i3' o3' a7' n7' c7' e7' x8' x9 h => i3 = i3' ∧ o3 = o3' ∧ a7 = a7' ∧ n7 = n7' ∧ c7 = c7' ∧ e7 = e7' ∧ x8 = x8' ∧ ∃ g', m g' < m g ∧ J g' x9 h) i3 o3 a7 n7 c7 e7 x8 x9 h (hr g x9 h hj (fun i3' o3' a7' n7' c7' e7' x8' x9 h => i3 = i3' ∧ o3 = o3' ∧ a7 = a7' ∧ n7 = n7' ∧ c7 = c7' ∧ e7 = e7' ∧ x8 = x8' ∧ ∃ g', m g' < m g ∧ J g' x9 h) fun g' x9 h hlt hj => ⟨rfl, rfl, rfl, rfl, rfl, rfl, rfl, g', hlt, hj⟩)
  · intro g env h hi
    obtain ⟨i3', o3', a7', n7', c7', e7', x8', x9, rfl, rfl, rfl, rfl, rfl, rfl, rfl, rfl, g', hlt, hj⟩ := E2elim hi
    exact ⟨g', hlt, rfl, rfl, rfl, rfl, rfl, rfl, rfl, hj⟩
theorem A2x0i (Q : QT) (h : AHeap) (ht :
 Q (.bool false) h) : A2x0 Q h :=
  At.mk (@cast _ ((K1 Q) (.exit 0) [(4, .undef)] h) (by kernel_rfl) ht)
theorem call (a0 : Pt) (n0 c0 : Nat) (e0 : Bool) (x1x0 x1x1 : List Nat) (h : AHeap) (Q : QT) (ht :
 letH (h ++ [.cells t_impl_Need [.str x1x0, .str x1x1] false]) fun h_0 => L2 Q (List.length h) 0 a0 n0 c0 e0 (((n0 : Nat) : Int)) 0 h_0) : SCall pg n_spec_l9In [.slice a0 n0 c0 e0, .agg [.str x1x0, .str x1x1]] h Q :=
  SCall.of_body kp (c := cod fn) (fn := fn) Go.Proofs.Try.func77 (by kernel_rfl) (by kernel_rfl) (Nat.le_of_ble_eq_true (by kernel_rfl))
    (@cast _ (den pg fn.ntmps kp (cod fn) (Env.args 0 [.slice a0 n0 c0 e0, .agg [.str x1x0, .str x1x1]]) h (KR Q)) (by kernel_rfl) ht)
end F_spec_l9In
/-! Function loop.example/instancesearch/impl.once -/
namespace F_impl_once
noncomputable abbrev fn : Func := Go.Proofs.Try.f78
def kp : Keeps := [(3000002, [0]), (1000002, [0, 7, 8, 9]), (4000006, [9, 8, 7, 0])]
noncomputable def C (p : List Nat) : Code := (cod fn).sub p
def KR (Q : QT) : KT := retA pg fn.results.toList Q
abbrev T2 := Pt → Nat → Nat → Bool → Pt → Nat → Nat → Bool → Int → Int → AHeap → Prop
def E2 (R2 : T2) (env : Env) (h : AHeap) : Prop := eVal 0 env fun v env => xSl (some v) fun a0 n0 c0 e0 => eVal 7 env fun v env => xSl (some v) fun a7 n7 c7 e7 => eVal 8 env fun v env => eInt .i64 v fun x8 => eVal 9 env fun v env => eInt .i64 v fun x9 => eNil env (R2 a0 n0 c0 e0 a7 n7 c7 e7 x8 x9 h)
theorem E2elim {R2 : T2} {env : Env} {h : AHeap} (hi : E2 R2 env h) : ∃ a0, ∃ n0, ∃ c0, ∃ e0, ∃ a7, ∃ n7, ∃ c7, ∃ e7, ∃ x8, ∃ x9, env = [(0, .slice a0 n0 c0 e0), (7, .slice a7 n7 c7 e7), (8, .int .i64 x8), (9, .int .i64 x9)] ∧ R2 a0 n0 c0 e0 a7 n7 c7 e7 x8 x9 h := by
  unfold E2 at hi
  have hi0 := hi
  clear hi
  obtain ⟨v, env, rfl, hi1⟩ := eVal_elim hi0
  obtain ⟨a0, n0, c0, e0, rfl, hi2⟩ := xSl_elim hi1
  obtain ⟨v, env, rfl, hi3⟩ := eVal_elim hi2
  obtain ⟨a7, n7, c7, e7, rfl, hi4⟩ := xSl_elim hi3
  obtain ⟨v, env, rfl, hi5⟩ := eVal_elim hi4
  obtain ⟨x8, rfl, hi6⟩ := eInt_elim hi5
  obtain ⟨v, env, rfl, hi7⟩ := eVal_elim hi6
  obtain ⟨x9, rfl, hi8⟩ := eInt_elim hi7
  obtain ⟨rfl, hi9⟩ := eNil_elim hi8
  have hi := hi9
  exact ⟨a0, n0, c0, e0, a7, n7, c7, e7, x8, x9, rfl, hi⟩
def K0 (Q : QT) : KT := andThen (fun env' h' => (match kp.find 4000007 with | some ks => Den pg fn.ntmps (C [1, 1]) (env'.keep ks) h' (KR Q) | none => den pg fn.ntmps kp (C [1, 1]) env' h' (KR Q))) (KR Q)
def K1 (Q : QT) : KT := onExit 0 (K0 Q)
def K2 (Q : QT) : KT := left kp 2 (K1 Q)
def K3 (Q : QT) (R2 : T2) : KT := rnd ((kp.find 1000002).getD []) (E2 R2) (K2 Q)
def L2 (Q : QT) (a0 : Pt) (n0 c0 : Nat) (e0 : Bool) (a7 : Pt) (n7 c7 : Nat) (e7 : Bool) (x8 x9 : Int) (h : AHeap) : Prop := Loop (Den pg fn.ntmps (C [1, 0, 1, 0, 0])) ((kp.find 1000002).getD []) (K2 Q) [(0, .slice a0 n0 c0 e0), (7, .slice a7 n7 c7 e7), (8, .int .i64 x8), (9, .int .i64 x9)] h
def J6 (Q : QT) (R2 : T2) (x9 x8 : Int) (a7 : Pt) (n7 c7 : Nat) (e7 : Bool) (a0 : Pt) (n0 c0 : Nat) (e0 : Bool) (h : AHeap) : Prop := Den pg fn.ntmps (C [1, 0, 1, 0, 0, 1, 1, 1]) [(9, .int .i64 x9), (8, .int .i64 x8), (7, .slice a7 n7 c7 e7), (0, .slice a0 n0 c0 e0)] h (K3 Q R2)
def A2x0 (Q : QT) (a0 : Pt) (n0 c0 : Nat) (e0 : Bool) (h : AHeap) : Prop := At (K1 Q) (.exit 0) [(0, .slice a0 n0 c0 e0)] h
def L2t (Q : QT) (R2 : T2) (a0 : Pt) (n0 c0 : Nat) (e0 : Bool) (a7 : Pt) (n7 c7 : Nat) (e7 : Bool) (x8 x9 : Int) (h : AHeap) : Prop :=
 bcase (decide ((x9 : Int) < x8)) ((0 ≤ (x9 : Int) ∧ (x9 : Int) < (n7 : Nat)) ∧ (xSome a7 fun i_0 o_1 => xRow (hRow h (.ptr (some (i_0, o_1 + (Int.toNat x9) * 2))) 2) fun cs_2 => xCons cs_2 fun c_3 r_4 => xStr (some c_3) fun s_5 => xCons r_4 fun c_6 r_7 => xStr (some c_6) fun s_8 => xNil r_7 (letH (h ++ [.cells t_impl_Need [.str [], .str []] false]) fun h_9 => xHeap (hStore h_9 (.ptr (some (List.length h, 0))) [.str s_5, .str s_8]) fun h_10 => xRow (hRow h_10 (.ptr (some (List.length h, 0))) 2) fun cs_11 => xCons cs_11 fun c_12 r_13 => xStr (some c_12) fun s_14 => xCons r_13 fun c_15 r_16 => xStr (some c_15) fun s_17 => xNil r_16 (SCall pg n_slices_Contains_L_impl_Need_impl_Need [.slice a0 n0 c0 e0, .agg [.str s_14, .str s_17]] h_10 fun v_18 h_19 =>
 xBool (some v_18) fun b_20 => bcase (!b_20) (xRow (hRow h_19 (.ptr (some (List.length h, 0))) 2) fun cs_21 => xCons cs_21 fun c_22 r_23 => xStr (some c_22) fun s_24 => xCons r_23 fun c_25 r_26 => xStr (some c_25) fun s_27 => xNil r_26 (letH (h_19 ++ [.cells t_impl_Need [.str s_24, .str s_27] false]) fun h_28 => appendA pg t_L_impl_Need h_28 (.slice a0 n0 c0 e0) (.slice (some (List.length h_19, 0)) 1 1 true) fun v_29 h_30 => xSl (some v_29) fun a_31 n_32 c_33 e_34 => J6 Q R2 x9 x8 a7 n7 c7 e7 a_31 n_32 c_33 e_34 h_30)) (J6 Q R2 x9 x8 a7 n7 c7 e7 a0 n0 c0 e0 h_19))))) (A2x0 Q a0 n0 c0 e0 h)
theorem L2den (Q : QT) (R2 : T2) (a0 : Pt) (n0 c0 : Nat) (e0 : Bool) (a7 : Pt) (n7 c7 : Nat) (e7 : Bool) (x8 x9 : Int) (h : AHeap) (ht : L2t Q R2 a0 n0 c0 e0 a7 n7 c7 e7 x8 x9 h) : Den pg fn.ntmps (C [1, 0, 1, 0, 0]) [(0, .slice a0 n0 c0 e0), (7, .slice a7 n7 c7 e7), (8, .int .i64 x8), (9, .int .i64 x9)] h (K3 Q R2) :=
  den_Den (kp := kp) (@cast _ (den pg fn.ntmps kp (C [1, 0, 1, 0, 0]) [(0, .slice a0 n0 c0 e0), (7, .slice a7 n7 c7 e7), (8, .int .i64 x8), (9, .int .i64 x9)] h (K3 Q R2)) (by kernel_rfl) ht)
theorem L2ind (Q : QT) (a7 : Pt) (n7 c7 : Nat) (e7 : Bool) (x8 : Int) {G : Type} (J : G → Pt → Nat → Nat → Bool → Int → AHeap → Prop) (m : G → Nat)
 (hr : ∀ (g : G) (a0 : Pt) (n0 c0 : Nat) (e0 : Bool) (x9 : Int) (h : AHeap), J g a0 n0 c0 e0 x9 h → ∀ (R2 : T2), (∀ g' (a0 : Pt) (n0 c0 : Nat) (e0 : Bool) (x9 : Int) (h : AHeap), m g' < m g → J g' a0 n0 c0 e0 x9 h → R2 a0 n0 c0 e0 a7 n7 c7 e7 x8 x9 h) → L2t Q R2 a0 n0 c0 e0 a7 n7 c7 e7 x8 x9 h)
 (g : G) (a0 : Pt) (n0 c0 : Nat) (e0 : Bool) (x9 : Int) (h : AHeap) (hj : J g a0 n0 c0 e0 x9 h) : L2 Q a0 n0 c0 e0 a7 n7 c7 e7 x8 x9 h := by
  refine Loop.inv2 (fun g => E2 fun a0 n0 c0 e0 a7' n7' c7' e7' x8' x9 h => a7 = a7' ∧ n7 = n7' ∧ c7 = c7' ∧ e7 = e7' ∧ x8 = x8' ∧ J g a0 n0 c0 e0 x9 h) (fun g => E2 fun a0 n0 c0 e0 a7' n7' c7' e7' x8' x9 h => a7 = a7' ∧ n7 = n7' ∧ c7 = c7' ∧ e7 = e7' ∧ x8 = x8' ∧ ∃ g', m g' < m g ∧ J g' a0 n0 c0 e0 x9 h) m ?_ ?_ g ⟨rfl, rfl, rfl, rfl, rfl, hj⟩
  · intro g env h hi
    obtain ⟨a0, n0, c0, e0, a7', n7', c7', e7', x8', x9, rfl, rfl, rfl, rfl, rfl, rfl, hj⟩ := E2elim hi
    exact L2den Q (fun a0 n0 c0 e0 a7' n7' c7' e7' x8' x9 h => a7 = a7' ∧ n7 = n7' ∧ c7 = c7' ∧ e7 = e7' ∧ x8 = x8' ∧ ∃ g', m g' < m g ∧ J g' a0 n0 c0 e0 x9 h) a0 n0 c0 e0 a7 n7 c7 e7 x8 x9 h (hr g a0 n0 c0 e0 x9 h hj (fun a0 n0 c0 e0 a7' n7' c7' e7' x8' x9 h => a7 = a7' ∧ n7 = n7' ∧ c7 = c7' ∧ e7 = e7' ∧ x8 = x8' ∧ ∃ g', m g' < m g ∧ J g' a0 n0 c0 e0 x9 h) fun g' a0 n0 c0 e0 x9 h hlt hj => ⟨rfl, rfl, rfl, rfl, rfl, g', hlt, hj⟩)
  · intro g env h hi
    obtain ⟨a0, n0, c0, e0, a7', n7', c7', e7', x8', x9, rfl, rfl, rfl, rfl, rfl, rfl, g', hlt, hj⟩ := E2elim hi
    exact ⟨g', hlt, rfl, rfl, rfl, rfl, rfl, hj⟩
theorem J6i (Q : QT) (R2 : T2) (x9 x8 : Int) (a7 : Pt) (n7 c7 : Nat) (e7 : Bool) (a0 : Pt) (n0 c0 : Nat) (e0 : Bool) (h : AHeap) (ht :
 R2 a0 n0 c0 e0 a7 n7 c7 e7 x8 (IntKind.wrap .i64 (x9 + 1)) h) : J6 Q R2 x9 x8 a7 n7 c7 e7 a0 n0 c0 e0 h :=
  den_Den (kp := kp) (@cast _ (den pg fn.ntmps kp (C [1, 0, 1, 0, 0, 1, 1, 1]) [(9, .int .i64 x9), (8, .int .i64 x8), (7, .slice a7 n7 c7 e7), (0, .slice a0 n0 c0 e0)] h (K3 Q R2)) (by kernel_rfl) ht)
theorem A2x0i (Q : QT) (a0 : Pt) (n0 c0 : Nat) (e0 : Bool) (h : AHeap) (ht :
 Q (.slice a0 n0 c0 e0) h) : A2x0 Q a0 n0 c0 e0 h :=
  At.mk (@cast _ ((K1 Q) (.exit 0) [(0, .slice a0 n0 c0 e0)] h) (by kernel_rfl) ht)
theorem call (a0 : Pt) (n0 c0 : Nat) (e0 : Bool) (a1 : Pt) (n1 c1 : Nat) (e1 : Bool) (h : AHeap) (Q : QT) (ht :
 L2 Q a0 n0 c0 e0 a1 n1 c1 e1 (((n1 : Nat) : Int)) 0 h) : SCall pg n_impl_once [.slice a0 n0 c0 e0, .slice a1 n1 c1 e1] h Q :=
  SCall.of_body kp (c := cod fn) (fn := fn) Go.Proofs.Try.func78 (by kernel_rfl) (by kernel_rfl) (Nat.le_of_ble_eq_true (by kernel_rfl))
    (@cast _ (den pg fn.ntmps kp (cod fn) (Env.args 0 [.slice a0 n0 c0 e0, .slice a1 n1 c1 e1]) h (KR Q)) (by kernel_rfl) ht)
end F_impl_once
end Go.Sim
