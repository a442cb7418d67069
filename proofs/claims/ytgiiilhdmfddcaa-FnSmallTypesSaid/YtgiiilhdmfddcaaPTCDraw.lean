/- Printed by wip/tool: what the functions' bodies do, in the words of 'den'. -/
import Derived.Test.YtgiiilhdmfddcaaNm
set_option linter.unusedSimpArgs false
set_option linter.all false
set_option maxRecDepth 100000
set_option linter.unusedVariables false
namespace Go.Sim
open Go Go.RowKit
/-! Function loop.example/instancesearch/spec.l13Open -/
namespace F_spec_l13Open
noncomputable abbrev fn : Func := Go.Proofs.Try.f37
def kp : Keeps := [(4000003, [0])]
noncomputable def C (p : List Nat) : Code := (cod fn).sub p
def KR (Q : QT) : KT := retA pg fn.results.toList Q
def J3 (Q : QT) (a0 : Pt) (n0 c0 : Nat) (e0 : Bool) (h : AHeap) : Prop := Den pg fn.ntmps (C [1, 1]) [(0, .slice a0 n0 c0 e0)] h (KR Q)
theorem J3i (Q : QT) (a0 : Pt) (n0 c0 : Nat) (e0 : Bool) (h : AHeap) (ht :
 letH (h ++ [.cells t_spec_l13Rd [.slice a0 n0 c0 e0, .int .i64 0] false]) fun h_5 => Q (.ptr (some (List.length h, 0))) h_5) : J3 Q a0 n0 c0 e0 h :=
  den_Den (kp := kp) (@cast _ (den pg fn.ntmps kp (C [1, 1]) [(0, .slice a0 n0 c0 e0)] h (KR Q)) (by kernel_rfl) ht)
theorem call (a0 : Pt) (n0 c0 : Nat) (e0 : Bool) (h : AHeap) (Q : QT) (ht :
 bcase (decide (((((n0 : Nat) : Int)) : Int) > 2000)) (sliceSl a0 n0 c0 e0 1 none (some (.int .i64 2000)) none fun v_0 => xSl (some v_0) fun a_1 n_2 c_3 e_4 => J3 Q a_1 n_2 c_3 e_4 h) (J3 Q a0 n0 c0 e0 h)) : SCall pg n_spec_l13Open [.slice a0 n0 c0 e0] h Q :=
  SCall.of_body kp (c := cod fn) (fn := fn) Go.Proofs.Try.func37 (by kernel_rfl) (by kernel_rfl) (Nat.le_of_ble_eq_true (by kernel_rfl))
    (@cast _ (den pg fn.ntmps kp (cod fn) (Env.args 0 [.slice a0 n0 c0 e0]) h (KR Q)) (by kernel_rfl) ht)
end F_spec_l13Open
/-! Function (*loop.example/instancesearch/spec.l13Rd).pick -/
namespace F_spec_l13Rd_pick
noncomputable abbrev fn : Func := Go.Proofs.Try.f46
def kp : Keeps := [(4000004, [0, 1]), (2000007, [6, 1])]
noncomputable def C (p : List Nat) : Code := (cod fn).sub p
def KR (Q : QT) : KT := retA pg fn.results.toList Q
def J4 (Q : QT) (a0 : Pt) (x1 : Int) (h : AHeap) : Prop := Den pg fn.ntmps (C [1, 1, 1]) [(0, .ptr a0), (1, .int .i64 x1)] h (KR Q)
theorem J4i (Q : QT) (a0 : Pt) (x1 : Int) (h : AHeap) (ht :
 xSome a0 fun i_12 o_13 => xInt .i64 (hCell h (.ptr (some (i_12, o_13 + 1)))) fun x_14 => xSome a0 fun i_15 o_16 => xSl (hCell h (.ptr (some (i_15, o_16 + 0)))) fun a_17 n_18 c_19 e_20 => bcase (decide (((IntKind.wrap .i64 (x_14 - 1)) : Int) < (((n_18 : Nat) : Int)))) (xSome a0 fun i_21 o_22 => xSl (hCell h (.ptr (some (i_21, o_22 + 0)))) fun a_23 n_24 c_25 e_26 => (0 ≤ (IntKind.wrap .i64 (x_14 - 1) : Int) ∧ (IntKind.wrap .i64 (x_14 - 1) : Int) < (n_24 : Nat)) ∧ (xSome a_23 fun i_27 o_28 => xInt .u8 (hCell h (.ptr (some (i_27, o_28 + (Int.toNat (IntKind.wrap .i64 (x_14 - 1))) * 1)))) fun x_29 => (x1 : Int) ≠ 0 ∧ (Q (.int .i64 (Int.tmod (IntKind.wrap .i64 (x_29)) x1)) h))) (xSome a0 fun i_30 o_31 => xSome a0 fun i_32 o_33 => xSome a0 fun i_34 o_35 => xSome a0 fun i_36 o_37 => xSome a0 fun i_38 o_39 => xSl (hCell h (.ptr (some (i_30, o_31 + 0)))) fun a_40 n_41 c_42 e_43 => xSl (hCell h (.ptr (some (i_32, o_33 + 0)))) fun a_44 n_45 c_46 e_47 => ((((n_45 : Nat) : Int)) : Int) ≠ 0 ∧ ((0 ≤ (Int.tmod (IntKind.wrap .i64 (x_14 - 1)) (((n_45 : Nat) : Int)) : Int) ∧ (Int.tmod (IntKind.wrap .i64 (x_14 - 1)) (((n_45 : Nat) : Int)) : Int) < (n_41 : Nat)) ∧ (xSome a_40 fun i_48 o_49 => xInt .u8 (hCell h (.ptr (some (i_48, o_49 + (Int.toNat (Int.tmod (IntKind.wrap .i64 (x_14 - 1)) (((n_45 : Nat) : Int)))) * 1)))) fun x_50 => xSl (hCell h (.ptr (some (i_34, o_35 + 0)))) fun a_51 n_52 c_53 e_54 => xSl (hCell h (.ptr (some (i_36, o_37 + 0)))) fun a_55 n_56 c_57 e_58 => ((((n_56 : Nat) : Int)) : Int) ≠ 0 ∧ ((0 ≤ (Int.tmod (IntKind.wrap .i64 ((IntKind.wrap .i64 ((IntKind.wrap .i64 (x_14 - 1)) * 7)) + 3)) (((n_56 : Nat) : Int)) : Int) ∧ (Int.tmod (IntKind.wrap .i64 ((IntKind.wrap .i64 ((IntKind.wrap .i64 (x_14 - 1)) * 7)) + 3)) (((n_56 : Nat) : Int)) : Int) < (n_52 : Nat)) ∧ (xSome a_51 fun i_59 o_60 => xInt .u8 (hCell h (.ptr (some (i_59, o_60 + (Int.toNat (Int.tmod (IntKind.wrap .i64 ((IntKind.wrap .i64 ((IntKind.wrap .i64 (x_14 - 1)) * 7)) + 3)) (((n_56 : Nat) : Int)))) * 1)))) fun x_61 => xSl (hCell h (.ptr (some (i_38, o_39 + 0)))) fun a_62 n_63 c_64 e_65 => (hCell h (.ptr (some (i_59, o_60 + (Int.toNat (Int.tmod (IntKind.wrap .i64 ((IntKind.wrap .i64 ((IntKind.wrap .i64 (x_14 - 1)) * 7)) + 3)) (((n_56 : Nat) : Int)))) * 1))) = hCell h (.ptr (some (i_59, o_60 + (Int.toNat (Int.tmod (IntKind.wrap .i64 ((IntKind.wrap .i64 ((IntKind.wrap .i64 (x_14 - 1)) * 7)) + 3)) (((n_56 : Nat) : Int)))) * 1)))) ∧ (hCell h (.ptr (some (i_36, o_37 + 0))) = hCell h (.ptr (some (i_36, o_37 + 0)))) ∧ (hCell h (.ptr (some (i_34, o_35 + 0))) = hCell h (.ptr (some (i_34, o_35 + 0)))) ∧ (hCell h (.ptr (some (i_48, o_49 + (Int.toNat (Int.tmod (IntKind.wrap .i64 (x_14 - 1)) (((n_45 : Nat) : Int)))) * 1))) = hCell h (.ptr (some (i_48, o_49 + (Int.toNat (Int.tmod (IntKind.wrap .i64 (x_14 - 1)) (((n_45 : Nat) : Int)))) * 1)))) ∧ (hCell h (.ptr (some (i_32, o_33 + 0))) = hCell h (.ptr (some (i_32, o_33 + 0)))) ∧ (hCell h (.ptr (some (i_30, o_31 + 0))) = hCell h (.ptr (some (i_30, o_31 + 0)))) ∧ ((((n_63 : Nat) : Int)) : Int) ≠ 0 ∧ ((64 : Int) ≠ 0 ∧ ((x1 : Int) ≠ 0 ∧ (Q (.int .i64 (Int.tmod (IntKind.wrap .i64 (BitVec.ofInt (IntKind.bits .i64) (IntKind.wrap .i64 ((IntKind.wrap .i64 ((IntKind.wrap .i64 ((IntKind.wrap .i64 ((IntKind.wrap .i64 (x_50)) * 131)) + (IntKind.wrap .i64 ((IntKind.wrap .i64 (x_61)) * 1117)))) + (IntKind.wrap .i64 ((IntKind.wrap .i64 (x_14 - 1)) * 29)))) + (IntKind.wrap .i64 ((IntKind.wrap .i64 (Int.tdiv (IntKind.wrap .i64 (x_14 - 1)) (((n_63 : Nat) : Int)))) * 53)))) ^^^ BitVec.ofInt (IntKind.bits .i64) (IntKind.wrap .i64 (Int.tdiv (IntKind.wrap .i64 ((IntKind.wrap .i64 ((IntKind.wrap .i64 ((IntKind.wrap .i64 ((IntKind.wrap .i64 (x_50)) * 131)) + (IntKind.wrap .i64 ((IntKind.wrap .i64 (x_61)) * 1117)))) + (IntKind.wrap .i64 ((IntKind.wrap .i64 (x_14 - 1)) * 29)))) + (IntKind.wrap .i64 ((IntKind.wrap .i64 (Int.tdiv (IntKind.wrap .i64 (x_14 - 1)) (((n_63 : Nat) : Int)))) * 53)))) 64))).toNat) x1)) h))))))))) : J4 Q a0 x1 h :=
  den_Den (kp := kp) (@cast _ (den pg fn.ntmps kp (C [1, 1, 1]) [(0, .ptr a0), (1, .int .i64 x1)] h (KR Q)) (by kernel_rfl) ht)
theorem call (a0 : Pt) (x1 : Int) (h : AHeap) (Q : QT) (ht :
 xSome a0 fun i_0 o_1 => xInt .i64 (hCell h (.ptr (some (i_0, o_1 + 1)))) fun x_2 => xSome a0 fun i_3 o_4 => xHeap (hStore h (.ptr (some (i_3, o_4 + 1))) [.int .i64 (IntKind.wrap .i64 (x_2 + 1))]) fun h_5 => bcase (decide ((x1 : Int) < 1)) (Q (.int .i64 0) h_5) (xSome a0 fun i_6 o_7 => xSl (hCell h_5 (.ptr (some (i_6, o_7 + 0)))) fun a_8 n_9 c_10 e_11 => bcase ((((n_9 : Nat) : Int) : Int) == 0) (Q (.int .i64 0) h_5) (J4 Q a0 x1 h_5))) : SCall pg n_spec_l13Rd_pick [.ptr a0, .int .i64 x1] h Q :=
  SCall.of_body kp (c := cod fn) (fn := fn) Go.Proofs.Try.func46 (by kernel_rfl) (by kernel_rfl) (Nat.le_of_ble_eq_true (by kernel_rfl))
    (@cast _ (den pg fn.ntmps kp (cod fn) (Env.args 0 [.ptr a0, .int .i64 x1]) h (KR Q)) (by kernel_rfl) ht)
end F_spec_l13Rd_pick
/-! Function (*loop.example/instancesearch/spec.l13Rd).num -/
namespace F_spec_l13Rd_num
noncomputable abbrev fn : Func := Go.Proofs.Try.f38
def kp : Keeps := []
noncomputable def C (p : List Nat) : Code := (cod fn).sub p
def KR (Q : QT) : KT := retA pg fn.results.toList Q
theorem call (a0 a1 : Pt) (n1 c1 : Nat) (e1 : Bool) (h : AHeap) (Q : QT) (ht :
 SCall pg n_spec_l13Rd_pick [.ptr a0, .int .i64 (((n1 : Nat) : Int))] h fun v_0 h_1 =>
 xInt .i64 (some v_0) fun x_2 => (0 ≤ (x_2 : Int) ∧ (x_2 : Int) < (n1 : Nat)) ∧ (xSome a1 fun i_3 o_4 => xInt .i64 (hCell h_1 (.ptr (some (i_3, o_4 + (Int.toNat x_2) * 1)))) fun x_5 => Q (.int .i64 x_5) h_1)) : SCall pg n_spec_l13Rd_num [.ptr a0, .slice a1 n1 c1 e1] h Q :=
  SCall.of_body kp (c := cod fn) (fn := fn) Go.Proofs.Try.func38 (by kernel_rfl) (by kernel_rfl) (Nat.le_of_ble_eq_true (by kernel_rfl))
    (@cast _ (den pg fn.ntmps kp (cod fn) (Env.args 0 [.ptr a0, .slice a1 n1 c1 e1]) h (KR Q)) (by kernel_rfl) ht)
end F_spec_l13Rd_num
end Go.Sim
