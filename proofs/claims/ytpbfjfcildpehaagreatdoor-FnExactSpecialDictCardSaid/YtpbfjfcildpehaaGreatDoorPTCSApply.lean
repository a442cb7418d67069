/- A part of the proof of a statement of this seat: see the text that holds the theorem. No condition. -/
import Derived.Test.YtpbfjfcildpehaaGreatDoorNm
set_option linter.unusedVariables false
set_option linter.unusedSimpArgs false
set_option linter.all false
/- Printed by wip/tool: what the functions' bodies do, in the words of 'den'. -/
set_option maxRecDepth 100000
set_option linter.unusedVariables false
namespace Go.Sim
open Go Go.RowKit
/-! Function loop.example/instancesearch/laws.FnExactSpecialDict -/
namespace F_laws_FnExactSpecialDict
noncomputable abbrev fn : Func := Go.Proofs.Tryz.f5
def kp : Keeps := [(2000008, [2, 3, 6, 7]), (2000010, [9, 6, 10, 7, 8, 2]), (4000013, [8, 2]), (2000013, [50])]
noncomputable def C (p : List Nat) : Code := (cod fn).sub p
def KR (Q : QT) : KT := retA pg fn.results.toList Q
def J13 (Q : QT) (i8 o8 i2 o2 : Nat) (h : AHeap) : Prop := Den pg fn.ntmps (C [1, 1, 1, 1, 1, 1, 1, 1, 1, 1]) [(8, .ptr (some (i8, o8))), (2, .ptr (some (i2, o2)))] h (KR Q)
theorem J13i (Q : QT) (i8 o8 i2 o2 : Nat) (h : AHeap) (ht :
 xRow (hRow h (.ptr (some (i8, o8))) 2) fun K149 => xCons K149 fun C150 Z151 => xSl (some C150) fun A152 N153 C154 E155 => xCons Z151 fun C156 Z157 => xSl (some C156) fun A158 N159 C160 E161 => xNil Z157 (xRow (hRow h (.ptr (some (i2, o2))) 2) fun K162 => xCons K162 fun C163 Z164 => xSl (some C163) fun A165 N166 C167 E168 => xCons Z164 fun C169 Z170 => xSl (some C169) fun A171 N172 C173 E174 => xNil Z170 ((hRow h (.ptr (some (i8, o8))) 2 = hRow h (.ptr (some (i8, o8))) 2) ∧ SCall pg n_laws_toWorld [.agg [.slice A165 N166 C167 E168, .slice A171 N172 C173 E174]] h fun V175 H176 =>
 xAgg V175 fun K177 => xCons K177 fun C178 Z179 => xSl (some C178) fun A180 N181 C182 E183 => xCons Z179 fun C184 Z185 => xSl (some C184) fun A186 N187 C188 E189 => xNil Z185 ((hRow H176 (.ptr (some (i8, o8))) 2 = hRow h (.ptr (some (i8, o8))) 2) ∧ SCall pg n_laws_eqWorld [.agg [.slice A152 N153 C154 E155, .slice A158 N159 C160 E161], .agg [.slice A180 N181 C182 E183, .slice A186 N187 C188 E189]] H176 fun V190 H191 =>
 xBool (some V190) fun B192 => bcase (!B192) (Q (.bool false) H191) (Q (.bool true) H191))))) : J13 Q i8 o8 i2 o2 h :=
  den_Den (kp := kp) (cast (by kernel_rfl) ht)
theorem call (a0x0 : Pt) (n0x0 c0x0 : Nat) (e0x0 : Bool) (a0x1 : Pt) (n0x1 c0x1 : Nat) (e0x1 : Bool) (x1x0 x1x1 : List Nat) (h : AHeap) (Q : QT) (ht :
 letH (h ++ [.cells t_laws_World [.slice a0x0 n0x0 c0x0 e0x0, .slice a0x1 n0x1 c0x1 e0x1] false]) fun H0 => letH (H0 ++ [.cells t_laws_Need [.str x1x0, .str x1x1] false]) fun H1 => xRow (hRow H1 (.ptr (some (h.length, 0))) 2) fun K2 => xCons K2 fun C3 Z4 => xSl (some C3) fun A5 N6 C7 E8 => xCons Z4 fun C9 Z10 => xSl (some C9) fun A11 N12 C13 E14 => xNil Z10 (SCall pg n_laws_szWorld [.agg [.slice A5 N6 C7 E8, .slice A11 N12 C13 E14], .int .i64 1048576] H1 fun V15 H16 =>
 xInt .i64 (some V15) fun X17 => bcase (decide ((X17 : Int) < 0)) (Q (.bool true) H16) (xRow (hRow H16 (.ptr (some (H0.length, 0))) 2) fun K18 => xCons K18 fun C19 Z20 => xStr (some C19) fun S21 => xCons Z20 fun C22 Z23 => xStr (some C22) fun S24 => xNil Z23 (SCall pg n_laws_szNeed [.agg [.str S21, .str S24], .int .i64 X17] H16 fun V25 H26 =>
 xInt .i64 (some V25) fun X27 => bcase (decide ((X27 : Int) < 0)) (Q (.bool true) H26) (xRow (hRow H26 (.ptr (some (h.length, 0))) 2) fun K28 => xCons K28 fun C29 Z30 => xSl (some C29) fun A31 N32 C33 E34 => xCons Z30 fun C35 Z36 => xSl (some C35) fun A37 N38 C39 E40 => xNil Z36 (xRow (hRow H26 (.ptr (some (H0.length, 0))) 2) fun K41 => xCons K41 fun C42 Z43 => xStr (some C42) fun S44 => xCons Z43 fun C45 Z46 => xStr (some C45) fun S47 => xNil Z46 (SCall pg n_laws_toWorld [.agg [.slice A31 N32 C33 E34, .slice A37 N38 C39 E40]] H26 fun V48 H49 =>
 xAgg V48 fun K50 => xCons K50 fun C51 Z52 => xSl (some C51) fun A53 N54 C55 E56 => xCons Z52 fun C57 Z58 => xSl (some C57) fun A59 N60 C61 E62 => xNil Z58 ((hRow H49 (.ptr (some (H0.length, 0))) 2 = hRow H26 (.ptr (some (H0.length, 0))) 2) ∧ SCall pg n_laws_toNeed [.agg [.str S44, .str S47]] H49 fun V63 H64 =>
 xAgg V63 fun K65 => xCons K65 fun C66 Z67 => xStr (some C66) fun S68 => xCons Z67 fun C69 Z70 => xStr (some C69) fun S71 => xNil Z70 ((hRow H64 (.ptr (some (h.length, 0))) 2 = hRow H49 (.ptr (some (h.length, 0))) 2) ∧ SCall pg n_spec_SpecialDict [.agg [.slice A53 N54 C55 E56, .slice A59 N60 C61 E62], .agg [.str S68, .str S71]] H64 fun V72 H73 =>
 xTup V72 fun K74 => xCons K74 fun C75 Z76 => xStr (some C75) fun S77 => xCons Z76 fun C78 Z79 => xStr (some C78) fun S80 => xNil Z79 ((hRow H73 (.ptr (some (H0.length, 0))) 2 = hRow H64 (.ptr (some (H0.length, 0))) 2) ∧ (hRow H73 (.ptr (some (h.length, 0))) 2 = hRow H64 (.ptr (some (h.length, 0))) 2) ∧ xRow (hRow H73 (.ptr (some (h.length, 0))) 2) fun K81 => xCons K81 fun C82 Z83 => xSl (some C82) fun A84 N85 C86 E87 => xCons Z83 fun C88 Z89 => xSl (some C88) fun A90 N91 C92 E93 => xNil Z89 (SCall pg n_laws_toWorld [.agg [.slice A84 N85 C86 E87, .slice A90 N91 C92 E93]] H73 fun V94 H95 =>
 xAgg V94 fun K96 => xCons K96 fun C97 Z98 => xSl (some C97) fun A99 N100 C101 E102 => xCons Z98 fun C103 Z104 => xSl (some C103) fun A105 N106 C107 E108 => xNil Z104 (letH (H95 ++ [.cells t_impl_World [.slice none 0 0 true, .slice none 0 0 true] false]) fun H109 => xHeap (hStore H109 (.ptr (some (H95.length, 0))) [.slice A99 N100 C101 E102, .slice A105 N106 C107 E108]) fun H110 => xRow (hRow H110 (.ptr (some (H95.length, 0))) 2) fun K111 => xCons K111 fun C112 Z113 => xSl (some C112) fun A114 N115 C116 E117 => xCons Z113 fun C118 Z119 => xSl (some C118) fun A120 N121 C122 E123 => xNil Z119 (xRow (hRow H110 (.ptr (some (H0.length, 0))) 2) fun K124 => xCons K124 fun C125 Z126 => xStr (some C125) fun S127 => xCons Z126 fun C128 Z129 => xStr (some C128) fun S130 => xNil Z129 ((hRow H110 (.ptr (some (H95.length, 0))) 2 = hRow H110 (.ptr (some (H95.length, 0))) 2) ∧ SCall pg n_laws_toNeed [.agg [.str S127, .str S130]] H110 fun V131 H132 =>
 xAgg V131 fun K133 => xCons K133 fun C134 Z135 => xStr (some C134) fun S136 => xCons Z135 fun C137 Z138 => xStr (some C137) fun S139 => xNil Z138 ((hRow H132 (.ptr (some (H95.length, 0))) 2 = hRow H110 (.ptr (some (H95.length, 0))) 2) ∧ SCall pg n_impl_SpecialDict [.agg [.slice A114 N115 C116 E117, .slice A120 N121 C122 E123], .agg [.str S136, .str S139]] H132 fun V140 H141 =>
 xTup V140 fun K142 => xCons K142 fun C143 Z144 => xStr (some C143) fun S145 => xCons Z144 fun C146 Z147 => xStr (some C146) fun S148 => xNil Z147 (bcase (!(decide (S145 = S77))) (Q (.bool false) H141) (bcase (!(decide (S148 = S80))) (Q (.bool false) H141) (J13 Q H95.length 0 h.length 0 H141)))))))))))))))))) : SCall pg n_laws_FnExactSpecialDict [.agg [.slice a0x0 n0x0 c0x0 e0x0, .slice a0x1 n0x1 c0x1 e0x1], .agg [.str x1x0, .str x1x1]] h Q :=
  SCall.of_body kp (c := cod fn) (fn := fn) Go.Proofs.Tryz.func5 (by kernel_rfl) (by kernel_rfl) (Nat.le_of_ble_eq_true (by kernel_rfl))
    (cast (by kernel_rfl) ht)
end F_laws_FnExactSpecialDict
end Go.Sim

/- Printed by wip/tool: what the functions' bodies do, in the words of 'den'. -/
set_option maxRecDepth 100000
set_option linter.unusedVariables false
namespace Go.Sim
open Go Go.RowKit
/-! Function loop.example/instancesearch/spec.l5Found -/
namespace F_spec_l5Found
noncomputable abbrev fn : Func := Go.Proofs.Tryz.f47
def kp : Keeps := []
noncomputable def C (p : List Nat) : Code := (cod fn).sub p
def KR (Q : QT) : KT := retA pg fn.results.toList Q
theorem call (a0x0 : Pt) (n0x0 c0x0 : Nat) (e0x0 : Bool) (a0x1 : Pt) (n0x1 c0x1 : Nat) (e0x1 : Bool) (x1x0 x1x1 : List Nat) (x2 : Bool) (h : AHeap) (Q : QT) (ht :
 letH (h ++ [.cells t_impl_World [.slice a0x0 n0x0 c0x0 e0x0, .slice a0x1 n0x1 c0x1 e0x1] false]) fun H0 => letH (H0 ++ [.cells t_impl_Need [.str x1x0, .str x1x1] false]) fun H1 => xRow (hRow H1 (.ptr (some (h.length, 0))) 2) fun K2 => xCons K2 fun C3 Z4 => xSl (some C3) fun A5 N6 C7 E8 => xCons Z4 fun C9 Z10 => xSl (some C9) fun A11 N12 C13 E14 => xNil Z10 (letH (H1 ++ [.cells t_impl_Need [] false]) fun H15 => letH (H15 ++ [.cells t_impl_Need [] false]) fun H16 => letH (H16 ++ [.cells t_spec_l5Search [.slice A5 N6 C7 E8, .slice A11 N12 C13 E14, .bool x2, .slice (some (H1.length, 0)) 0 0 true, .slice (some (H15.length, 0)) 0 0 true, .str []] false]) fun H17 => xRow (hRow H17 (.ptr (some (h.length, 0))) 2) fun K18 => xCons K18 fun C19 Z20 => xSl (some C19) fun A21 N22 C23 E24 => xCons Z20 fun C25 Z26 => xSl (some C25) fun A27 N28 C29 E30 => xNil Z26 (xRow (hRow H17 (.ptr (some (H0.length, 0))) 2) fun K31 => xCons K31 fun C32 Z33 => xStr (some C32) fun S34 => xCons Z33 fun C35 Z36 => xStr (some C35) fun S37 => xNil Z36 (SCall pg n_spec_NeedValid [.agg [.slice A21 N22 C23 E24, .slice A27 N28 C29 E30], .agg [.str S34, .str S37]] H17 fun V38 H39 =>
 xBool (some V38) fun B40 => bcase (!B40) (xHeap (hStore H39 (.ptr (some (H16.length, 0 + 5))) [.str ([119, 114, 111, 110, 103])]) fun H41 => Q (.tup [.ptr (some (H16.length, 0)), .str [], .bool false]) H41) (xRow (hRow H39 (.ptr (some (H0.length, 0))) 2) fun K42 => xCons K42 fun C43 Z44 => xStr (some C43) fun S45 => xCons Z44 fun C46 Z47 => xStr (some C46) fun S48 => xNil Z47 (SCall pg n_spec_l5Search_find [.ptr (some (H16.length, 0)), .agg [.str S45, .str S48], .int .i64 0] H39 fun V49 H50 =>
 xStr (some V49) fun S51 => Q (.tup [.ptr (some (H16.length, 0)), .str S51, .bool true]) H50)))))) : SCall pg n_spec_l5Found [.agg [.slice a0x0 n0x0 c0x0 e0x0, .slice a0x1 n0x1 c0x1 e0x1], .agg [.str x1x0, .str x1x1], .bool x2] h Q :=
  SCall.of_body kp (c := cod fn) (fn := fn) Go.Proofs.Tryz.func47 (by kernel_rfl) (by kernel_rfl) (Nat.le_of_ble_eq_true (by kernel_rfl))
    (cast (by kernel_rfl) ht)
end F_spec_l5Found
/-! Function loop.example/instancesearch/spec.FindDict -/
/-! Function loop.example/instancesearch/spec.SpecialDict -/
namespace F_spec_SpecialDict
noncomputable abbrev fn : Func := Go.Proofs.Tryz.f20
def kp : Keeps := [(2000002, [4, 5])]
noncomputable def C (p : List Nat) : Code := (cod fn).sub p
def KR (Q : QT) : KT := retA pg fn.results.toList Q
theorem call (a0x0 : Pt) (n0x0 c0x0 : Nat) (e0x0 : Bool) (a0x1 : Pt) (n0x1 c0x1 : Nat) (e0x1 : Bool) (x1x0 x1x1 : List Nat) (h : AHeap) (Q : QT) (ht :
 letH (h ++ [.cells t_impl_World [.slice a0x0 n0x0 c0x0 e0x0, .slice a0x1 n0x1 c0x1 e0x1] false]) fun H0 => letH (H0 ++ [.cells t_impl_Need [.str x1x0, .str x1x1] false]) fun H1 => xRow (hRow H1 (.ptr (some (h.length, 0))) 2) fun K2 => xCons K2 fun C3 Z4 => xSl (some C3) fun A5 N6 C7 E8 => xCons Z4 fun C9 Z10 => xSl (some C9) fun A11 N12 C13 E14 => xNil Z10 (xRow (hRow H1 (.ptr (some (H0.length, 0))) 2) fun K15 => xCons K15 fun C16 Z17 => xStr (some C16) fun S18 => xCons Z17 fun C19 Z20 => xStr (some C19) fun S21 => xNil Z20 (SCall pg n_spec_l5Found [.agg [.slice A5 N6 C7 E8, .slice A11 N12 C13 E14], .agg [.str S18, .str S21], .bool true] H1 fun V22 H23 =>
 xTup V22 fun K24 => xCons K24 fun C25 Z26 => xPtr (some C25) fun A27 => xCons Z26 fun C28 Z29 => xStr (some C28) fun S30 => xCons Z29 fun C31 Z32 => xBool (some C31) fun B33 => xNil Z32 (xSome A27 fun I34 O35 => xStr (hCell H23 (.ptr (some (I34, O35 + 5)))) fun S36 => Q (.tup [.str S30, .str S36]) H23)))) : SCall pg n_spec_SpecialDict [.agg [.slice a0x0 n0x0 c0x0 e0x0, .slice a0x1 n0x1 c0x1 e0x1], .agg [.str x1x0, .str x1x1]] h Q :=
  SCall.of_body kp (c := cod fn) (fn := fn) Go.Proofs.Tryz.func20 (by kernel_rfl) (by kernel_rfl) (Nat.le_of_ble_eq_true (by kernel_rfl))
    (cast (by kernel_rfl) ht)
end F_spec_SpecialDict
/-! Function loop.example/instancesearch/spec.HasInstance -/
/-! Function loop.example/instancesearch/spec.FailingNeed -/
end Go.Sim

/- Printed by wip/tool: what the functions' bodies do, in the words of 'den'. -/
set_option maxRecDepth 100000
set_option linter.unusedVariables false
namespace Go.Sim
open Go Go.RowKit
/-! Function (*loop.example/instancesearch/spec.l5Search).pick -/
namespace F_spec_l5Search_pick
noncomputable abbrev fn : Func := Go.Proofs.Tryz.f107
def kp : Keeps := [(2000001, [5, 0, 3]), (2000008, [6, 0]), (4000011, [0])]
noncomputable def C (p : List Nat) : Code := (cod fn).sub p
def KR (Q : QT) : KT := retA pg fn.results.toList Q
def J11 (Q : QT) (a0 : Pt) (h : AHeap) : Prop := Den pg fn.ntmps (C [1, 1, 1, 1]) [(0, .ptr a0)] h (KR Q)
theorem J11i (Q : QT) (a0 : Pt) (h : AHeap) (ht :
 xSome a0 fun I63 O64 => xHeap (hStore h (.ptr (some (I63, O64 + 5))) [.str ([109, 97, 110, 121])]) fun H65 => Q (.int .i64 (-1)) H65) : J11 Q a0 h :=
  den_Den (kp := kp) (cast (by kernel_rfl) ht)
theorem call (a0 : Pt) (x1x0 x1x1 : List Nat) (h : AHeap) (Q : QT) (ht :
 letH (h ++ [.cells t_impl_Need [.str x1x0, .str x1x1] false]) fun H0 => xSome a0 fun I1 O2 => xRow (hRow H0 (.ptr (some (I1, O2 + 0))) 2) fun K3 => xCons K3 fun C4 Z5 => xSl (some C4) fun A6 N7 C8 E9 => xCons Z5 fun C10 Z11 => xSl (some C10) fun A12 N13 C14 E15 => xNil Z11 (xRow (hRow H0 (.ptr (some (h.length, 0))) 2) fun K16 => xCons K16 fun C17 Z18 => xStr (some C17) fun S19 => xCons Z18 fun C20 Z21 => xStr (some C20) fun S22 => xNil Z21 ((hRow H0 (.ptr (some (I1, O2 + 0))) 2 = hRow H0 (.ptr (some (I1, O2 + 0))) 2) ∧ SCall pg n_spec_l4Candidates [.agg [.slice A6 N7 C8 E9, .slice A12 N13 C14 E15], .agg [.str S19, .str S22]] H0 fun V23 H24 =>
 xSl (some V23) fun A25 N26 C27 E28 => bcase ((((N26 : Nat) : Int) : Int) == 0) (xSome a0 fun I29 O30 => xHeap (hStore H24 (.ptr (some (I29, O30 + 5))) [.str ([110, 111, 110, 101])]) fun H31 => Q (.int .i64 (-1)) H31) (bcase ((((N26 : Nat) : Int) : Int) == 1) ((0 ≤ (0 : Int) ∧ (0 : Int) < (N26 : Nat)) ∧ (xSome A25 fun I32 O33 => xInt .i64 (hCell H24 (.ptr (some (I32, O33 + (Int.toNat 0) * 1)))) fun X34 => Q (.int .i64 X34) H24)) (xSome a0 fun I35 O36 => xBool (hCell H24 (.ptr (some (I35, O36 + 2)))) fun B37 => bcase B37 (xSome a0 fun I38 O39 => xRow (hRow H24 (.ptr (some (I38, O39 + 0))) 2) fun K40 => xCons K40 fun C41 Z42 => xSl (some C41) fun A43 N44 C45 E46 => xCons Z42 fun C47 Z48 => xSl (some C47) fun A49 N50 C51 E52 => xNil Z48 (xRow (hRow H24 (.ptr (some (h.length, 0))) 2) fun K53 => xCons K53 fun C54 Z55 => xStr (some C54) fun S56 => xCons Z55 fun C57 Z58 => xStr (some C57) fun S59 => xNil Z58 ((hRow H24 (.ptr (some (I38, O39 + 0))) 2 = hRow H24 (.ptr (some (I38, O39 + 0))) 2) ∧ SCall pg n_spec_MostSpecial [.agg [.slice A43 N44 C45 E46, .slice A49 N50 C51 E52], .agg [.str S56, .str S59]] H24 fun V60 H61 =>
 xInt .i64 (some V60) fun X62 => bcase (decide ((X62 : Int) ≥ 0)) (Q (.int .i64 X62) H61) (J11 Q a0 H61)))) (J11 Q a0 H24)))))) : SCall pg n_spec_l5Search_pick [.ptr a0, .agg [.str x1x0, .str x1x1]] h Q :=
  SCall.of_body kp (c := cod fn) (fn := fn) Go.Proofs.Tryz.func107 (by kernel_rfl) (by kernel_rfl) (Nat.le_of_ble_eq_true (by kernel_rfl))
    (cast (by kernel_rfl) ht)
end F_spec_l5Search_pick
end Go.Sim

/- Printed by wip/tool: what the functions' bodies do, in the words of 'den'. -/
set_option maxRecDepth 100000
set_option linter.unusedVariables false
namespace Go.Sim
open Go Go.RowKit
/-! Function (*loop.example/instancesearch/spec.l5Search).find -/
namespace F_spec_l5Search_find
noncomputable abbrev fn : Func := Go.Proofs.Tryz.f71
def kp : Keeps := [(2000001, [0, 4, 2]), (2000005, [2, 0, 4]), (2000012, [9, 0, 7, 8, 2]), (3000018, [8, 10, 0, 2, 6]), (1000018, [0, 2, 8, 10, 78, 79, 80]), (4000027, [0, 2, 10])]
noncomputable def C (p : List Nat) : Code := (cod fn).sub p
def KR (Q : QT) : KT := retA pg fn.results.toList Q
abbrev T18 := Pt → Int → Pt → Nat → Nat → Bool → List Nat → Pt → Nat → Nat → Bool → Int → Int → AHeap → Prop
def E18 (R18 : T18) (env : Env) (h : AHeap) : Prop := eVal 0 env fun v env => xPtr (some v) fun a0 => eVal 2 env fun v env => eInt .i64 v fun x2 => eVal 8 env fun v env => xSl (some v) fun a8 n8 c8 e8 => eVal 10 env fun v env => xStr (some v) fun x10 => eVal 78 env fun v env => xSl (some v) fun a78 n78 c78 e78 => eVal 79 env fun v env => eInt .i64 v fun x79 => eVal 80 env fun v env => eInt .i64 v fun x80 => eNil env (R18 a0 x2 a8 n8 c8 e8 x10 a78 n78 c78 e78 x79 x80 h)
theorem E18elim {R18 : T18} {env : Env} {h : AHeap} (hi : E18 R18 env h) : ∃ a0, ∃ x2, ∃ a8, ∃ n8, ∃ c8, ∃ e8, ∃ x10, ∃ a78, ∃ n78, ∃ c78, ∃ e78, ∃ x79, ∃ x80, env = [(0, .ptr a0), (2, .int .i64 x2), (8, .slice a8 n8 c8 e8), (10, .str x10), (78, .slice a78 n78 c78 e78), (79, .int .i64 x79), (80, .int .i64 x80)] ∧ R18 a0 x2 a8 n8 c8 e8 x10 a78 n78 c78 e78 x79 x80 h := by
  unfold E18 at hi
  have hi0 := hi
  clear hi
  obtain ⟨_, _, rfl, hi1⟩ := eVal_elim hi0
  obtain ⟨a0, rfl, hi2⟩ := xPtr_elim hi1
  obtain ⟨_, _, rfl, hi3⟩ := eVal_elim hi2
  obtain ⟨x2, rfl, hi4⟩ := eInt_elim hi3
  obtain ⟨_, _, rfl, hi5⟩ := eVal_elim hi4
  obtain ⟨a8, n8, c8, e8, rfl, hi6⟩ := xSl_elim hi5
  obtain ⟨_, _, rfl, hi7⟩ := eVal_elim hi6
  obtain ⟨x10, rfl, hi8⟩ := xStr_elim hi7
  obtain ⟨_, _, rfl, hi9⟩ := eVal_elim hi8
  obtain ⟨a78, n78, c78, e78, rfl, hi10⟩ := xSl_elim hi9
  obtain ⟨_, _, rfl, hi11⟩ := eVal_elim hi10
  obtain ⟨x79, rfl, hi12⟩ := eInt_elim hi11
  obtain ⟨_, _, rfl, hi13⟩ := eVal_elim hi12
  obtain ⟨x80, rfl, hi14⟩ := eInt_elim hi13
  obtain ⟨rfl, hi15⟩ := eNil_elim hi14
  have hi := hi15
  exact ⟨a0, x2, a8, n8, c8, e8, x10, a78, n78, c78, e78, x79, x80, rfl, hi⟩
def K0 (Q : QT) : KT := andThen (fun env' h' => (match kp.find 4000025 with | some ks => Den pg fn.ntmps (C [1, 1, 1, 1, 1, 1, 1, 1, 1, 1, 1]) (env'.keep ks) h' (KR Q) | none => den pg fn.ntmps kp (C [1, 1, 1, 1, 1, 1, 1, 1, 1, 1, 1]) env' h' (KR Q))) (KR Q)
def K1 (Q : QT) : KT := onExit 0 (K0 Q)
def K2 (Q : QT) : KT := left kp 18 (K1 Q)
def K3 (Q : QT) (R18 : T18) : KT := rnd ((kp.find 1000018).getD []) (E18 R18) (K2 Q)
def L18 (Q : QT) (a0 : Pt) (x2 : Int) (a8 : Pt) (n8 c8 : Nat) (e8 : Bool) (x10 : List Nat) (a78 : Pt) (n78 c78 : Nat) (e78 : Bool) (x79 x80 : Int) (h : AHeap) : Prop := Loop (Den pg fn.ntmps (C [1, 1, 1, 1, 1, 1, 1, 1, 1, 1, 0, 1, 0, 0])) ((kp.find 1000018).getD []) (K2 Q) [(0, .ptr a0), (2, .int .i64 x2), (8, .slice a8 n8 c8 e8), (10, .str x10), (78, .slice a78 n78 c78 e78), (79, .int .i64 x79), (80, .int .i64 x80)] h
def A18x0 (Q : QT) (a8 : Pt) (n8 c8 : Nat) (e8 : Bool) (x10 : List Nat) (a0 : Pt) (x2 : Int) (h : AHeap) : Prop := At (K1 Q) (.exit 0) [(8, .slice a8 n8 c8 e8), (10, .str x10), (0, .ptr a0), (2, .int .i64 x2), (6, .undef)] h
def J27 (Q : QT) (a0 : Pt) (x2 : Int) (x10 : List Nat) (h : AHeap) : Prop := Den pg fn.ntmps (C [1, 1, 1, 1, 1, 1, 1, 1, 1, 1, 1, 1]) [(0, .ptr a0), (2, .int .i64 x2), (10, .str x10)] h (KR Q)
def L18t (Q : QT) (R18 : T18) (a0 : Pt) (x2 : Int) (a8 : Pt) (n8 c8 : Nat) (e8 : Bool) (x10 : List Nat) (a78 : Pt) (n78 c78 : Nat) (e78 : Bool) (x79 x80 : Int) (h : AHeap) : Prop :=
 bcase (decide ((x80 : Int) < x79)) ((0 ≤ (x80 : Int) ∧ (x80 : Int) < (n78 : Nat)) ∧ (xSome a78 fun I324 O325 => xRow (hRow h (.ptr (some (I324, O325 + (Int.toNat x80) * 2))) 2) fun K326 => xCons K326 fun C327 Z328 => xStr (some C327) fun S329 => xCons Z328 fun C330 Z331 => xStr (some C330) fun S332 => xNil Z331 (letH (h ++ [.cells t_impl_Need [.str [], .str []] false]) fun H333 => xHeap (hStore H333 (.ptr (some (h.length, 0))) [.str S329, .str S332]) fun H334 => xRow (hRow H334 (.ptr (some (h.length, 0))) 2) fun K335 => xCons K335 fun C336 Z337 => xStr (some C336) fun S338 => xCons Z337 fun C339 Z340 => xStr (some C339) fun S341 => xNil Z340 (SCall pg n_spec_l5Search_find [.ptr a0, .agg [.str S338, .str S341], .int .i64 (IntKind.wrap .i64 (x2 + 1))] H334 fun V342 H343 =>
 xStr (some V342) fun S344 => xSome a0 fun I345 O346 => xStr (hCell H343 (.ptr (some (I345, O346 + 5)))) fun S347 => bcase (!(decide (S347 = []))) (Q (.str []) H343) ((0 ≤ (x80 : Int) ∧ (x80 : Int) ≤ IntKind.wrap .i64 (x80 + 1) ∧ (IntKind.wrap .i64 (x80 + 1) : Int) ≤ (List.length ([40, 44, 44]) : Nat)) ∧ (List.length x10 + List.length (sub ([40, 44, 44]) x80 (IntKind.wrap .i64 (x80 + 1))) ≤ 9223372036854775807 ∧ (List.length (x10 ++ (sub ([40, 44, 44]) x80 (IntKind.wrap .i64 (x80 + 1)))) + List.length S344 ≤ 9223372036854775807 ∧ (R18 a0 x2 a8 n8 c8 e8 ((x10 ++ (sub ([40, 44, 44]) x80 (IntKind.wrap .i64 (x80 + 1)))) ++ S344) a78 n78 c78 e78 x79 (IntKind.wrap .i64 (x80 + 1)) H343)))))))) (A18x0 Q a8 n8 c8 e8 x10 a0 x2 h)
theorem L18den (Q : QT) (R18 : T18) (a0 : Pt) (x2 : Int) (a8 : Pt) (n8 c8 : Nat) (e8 : Bool) (x10 : List Nat) (a78 : Pt) (n78 c78 : Nat) (e78 : Bool) (x79 x80 : Int) (h : AHeap) (ht : L18t Q R18 a0 x2 a8 n8 c8 e8 x10 a78 n78 c78 e78 x79 x80 h) : Den pg fn.ntmps (C [1, 1, 1, 1, 1, 1, 1, 1, 1, 1, 0, 1, 0, 0]) [(0, .ptr a0), (2, .int .i64 x2), (8, .slice a8 n8 c8 e8), (10, .str x10), (78, .slice a78 n78 c78 e78), (79, .int .i64 x79), (80, .int .i64 x80)] h (K3 Q R18) :=
  den_Den (kp := kp) (cast (by kernel_rfl) ht)
theorem L18ind (Q : QT) (a0 : Pt) (x2 : Int) (a8 : Pt) (n8 c8 : Nat) (e8 : Bool) (a78 : Pt) (n78 c78 : Nat) (e78 : Bool) (x79 : Int) {G : Type} (J : G → List Nat → Int → AHeap → Prop) (m : G → Nat)
 (hr : ∀ (g : G) (x10 : List Nat) (x80 : Int) (h : AHeap), J g x10 x80 h → ∀ (R18 : T18), (∀ g' (x10 : List Nat) (x80 : Int) (h : AHeap), m g' < m g → J g' x10 x80 h → R18 a0 x2 a8 n8 c8 e8 x10 a78 n78 c78 e78 x79 x80 h) → L18t Q R18 a0 x2 a8 n8 c8 e8 x10 a78 n78 c78 e78 x79 x80 h)
 (g : G) (x10 : List Nat) (x80 : Int) (h : AHeap) (hj : J g x10 x80 h) : L18 Q a0 x2 a8 n8 c8 e8 x10 a78 n78 c78 e78 x79 x80 h := by
  refine Loop.inv2 (fun g => E18 fun a0' x2' a8' n8' c8' e8' x10 a78' n78' c78' e78' x79' x80 h => a0 = a0' ∧ x2 = x2' ∧ a8 = a8' ∧ n8 = n8' ∧ c8 = c8' ∧ e8 = e8' ∧ a78 = a78' ∧ n78 = n78' ∧ c78 = c78' ∧ e78 = e78' ∧ x79 = x79' ∧ J g x10 x80 h) (fun g => E18 fun a0' x2' a8' n8' c8' e8' x10 a78' n78' c78' e78' x79' x80 h => a0 = a0' ∧ x2 = x2' ∧ a8 = a8' ∧ n8 = n8' ∧ c8 = c8' ∧ e8 = e8' ∧ a78 = a78' ∧ n78 = n78' ∧ c78 = c78' ∧ e78 = e78' ∧ x79 = x79' ∧ ∃ g', m g' < m g ∧ J g' x10 x80 h) m ?_ ?_ g ⟨rfl, rfl, rfl, rfl, rfl, rfl, rfl, rfl, rfl, rfl, rfl, hj⟩
  · intro g env h hi
    obtain ⟨a0', x2', a8', n8', c8', e8', x10, a78', n78', c78', e78', x79', x80, rfl, rfl, rfl, rfl, rfl, rfl, rfl, rfl, rfl, rfl, rfl, rfl, hj⟩ := E18elim hi
    exact L18den Q _ a0 x2 a8 n8 c8 e8 x10 a78 n78 c78 e78 x79 x80 h (hr g x10 x80 h hj (fun a0' x2' a8' n8' c8' e8' x10 a78' n78' c78' e78' x79' x80 h => a0 = a0' ∧ x2 = x2' ∧ a8 = a8' ∧ n8 = n8' ∧ c8 = c8' ∧ e8 = e8' ∧ a78 = a78' ∧ n78 = n78' ∧ c78 = c78' ∧ e78 = e78' ∧ x79 = x79' ∧ ∃ g', m g' < m g ∧ J g' x10 x80 h) fun g' x10 x80 h hlt hj => ⟨rfl, rfl, rfl, rfl, rfl, rfl, rfl, rfl, rfl, rfl, rfl, g', hlt, hj⟩)
  · intro g env h hi
    obtain ⟨a0', x2', a8', n8', c8', e8', x10, a78', n78', c78', e78', x79', x80, rfl, rfl, rfl, rfl, rfl, rfl, rfl, rfl, rfl, rfl, rfl, rfl, g', hlt, hj⟩ := E18elim hi
    exact ⟨g', hlt, rfl, rfl, rfl, rfl, rfl, rfl, rfl, rfl, rfl, rfl, rfl, hj⟩
theorem A18x0i (Q : QT) (a8 : Pt) (n8 c8 : Nat) (e8 : Bool) (x10 : List Nat) (a0 : Pt) (x2 : Int) (h : AHeap) (ht :
 bcase (decide (((((n8 : Nat) : Int)) : Int) > 0)) (List.length x10 + List.length [41] ≤ 9223372036854775807 ∧ (J27 Q a0 x2 (x10 ++ [41]) h)) (J27 Q a0 x2 x10 h)) : A18x0 Q a8 n8 c8 e8 x10 a0 x2 h :=
  At.mk (cast (by kernel_rfl) ht)
theorem J27i (Q : QT) (a0 : Pt) (x2 : Int) (x10 : List Nat) (h : AHeap) (ht :
 xSome a0 fun I348 O349 => xSl (hCell h (.ptr (some (I348, O349 + 4)))) fun A350 N351 C352 E353 => sliceSl A350 N351 C352 E353 2 none (some (.int .i64 (IntKind.wrap .i64 (x2 + 1)))) none fun V354 => xSl (some V354) fun A355 N356 C357 E358 => xSome a0 fun I359 O360 => xHeap (hStore h (.ptr (some (I359, O360 + 4))) [.slice A355 N356 C357 E358]) fun H361 => Q (.str x10) H361) : J27 Q a0 x2 x10 h :=
  den_Den (kp := kp) (cast (by kernel_rfl) ht)
theorem call (a0 : Pt) (x1x0 x1x1 : List Nat) (x2 : Int) (h : AHeap) (Q : QT) (ht :
 letH (h ++ [.cells t_impl_Need [.str x1x0, .str x1x1] false]) fun H0 => xSome a0 fun I1 O2 => xSl (hCell H0 (.ptr (some (I1, O2 + 4)))) fun A3 N4 C5 E6 => sliceSl A3 N4 C5 E6 2 none (some (.int .i64 x2)) none fun V7 => xSl (some V7) fun A8 N9 C10 E11 => xRow (hRow H0 (.ptr (some (h.length, 0))) 2) fun K12 => xCons K12 fun C13 Z14 => xStr (some C13) fun S15 => xCons Z14 fun C16 Z17 => xStr (some C16) fun S18 => xNil Z17 ((letH (H0 ++ [.cells t_impl_Need [] false]) fun H19 => (hRow H19 (.ptr (some (h.length, 0))) 2 = hRow H0 (.ptr (some (h.length, 0))) 2) ∧ (hCell H19 (.ptr (some (I1, O2 + 4))) = hCell H0 (.ptr (some (I1, O2 + 4)))) ∧ (appendA pg t_L_impl_Need H19 (.slice (some (H0.length, 0)) 0 0 true) (.slice A8 N9 C10 E11) fun V20 H21 => xSl (some V20) fun A22 N23 C24 E25 => (hRow H21 (.ptr (some (h.length, 0))) 2 = hRow H19 (.ptr (some (h.length, 0))) 2) ∧ (hCell H21 (.ptr (some (I1, O2 + 4))) = hCell H19 (.ptr (some (I1, O2 + 4)))) ∧ letH (H21 ++ [.cells t_impl_Need [.str S15, .str S18] false]) fun H26 => (hCell H26 (.ptr (some (I1, O2 + 4))) = hCell H21 (.ptr (some (I1, O2 + 4)))) ∧ appendA pg t_L_impl_Need H26 (.slice A22 N23 C24 E25) (.slice (some (H21.length, 0)) 1 1 true) fun V27 H28 => xSl (some V27) fun A29 N30 C31 E32 => (hRow H28 (.ptr (some (h.length, 0))) 2 = hRow H26 (.ptr (some (h.length, 0))) 2) ∧ (hCell H28 (.ptr (some (I1, O2 + 4))) = hCell H26 (.ptr (some (I1, O2 + 4)))) ∧ xSome a0 fun I33 O34 => xHeap (hStore H28 (.ptr (some (I33, O34 + 4))) [.slice A29 N30 C31 E32]) fun H35 => xSome a0 fun I36 O37 => xSl (hCell H35 (.ptr (some (I36, O37 + 3)))) fun A38 N39 C40 E41 => bcase (decide (((((N39 : Nat) : Int)) : Int) ≥ 300)) (xSome a0 fun I42 O43 => xHeap (hStore H35 (.ptr (some (I42, O43 + 5))) [.str ([108, 111, 110, 103])]) fun H44 => Q (.str []) H44) (xSome a0 fun I45 O46 => xSl (hCell H35 (.ptr (some (I45, O46 + 3)))) fun A47 N48 C49 E50 => xRow (hRow H35 (.ptr (some (h.length, 0))) 2) fun K51 => xCons K51 fun C52 Z53 => xStr (some C52) fun S54 => xCons Z53 fun C55 Z56 => xStr (some C55) fun S57 => xNil Z56 ((hCell H35 (.ptr (some (I45, O46 + 3))) = hCell H35 (.ptr (some (I45, O46 + 3)))) ∧ letH (H35 ++ [.cells t_impl_Need [.str S54, .str S57] false]) fun H58 => (hCell H58 (.ptr (some (I45, O46 + 3))) = hCell H35 (.ptr (some (I45, O46 + 3)))) ∧ appendA pg t_L_impl_Need H58 (.slice A47 N48 C49 E50) (.slice (some (H35.length, 0)) 1 1 true) fun V59 H60 => xSl (some V59) fun A61 N62 C63 E64 => xSome a0 fun I65 O66 => xHeap (hStore H60 (.ptr (some (I65, O66 + 3))) [.slice A61 N62 C63 E64]) fun H67 => bcase (decide ((x2 : Int) > 30)) (xSome a0 fun I68 O69 => xHeap (hStore H67 (.ptr (some (I68, O69 + 5))) [.str ([100, 101, 101, 112])]) fun H70 => Q (.str []) H70) (xRow (hRow H67 (.ptr (some (h.length, 0))) 2) fun K71 => xCons K71 fun C72 Z73 => xStr (some C72) fun S74 => xCons Z73 fun C75 Z76 => xStr (some C75) fun S77 => xNil Z76 (SCall pg n_spec_l5Search_pick [.ptr a0, .agg [.str S74, .str S77]] H67 fun V78 H79 =>
 xInt .i64 (some V78) fun X80 => bcase (decide ((X80 : Int) < 0)) (Q (.str []) H79) (xSome a0 fun I81 O82 => xSl (hCell H79 (.ptr (some (I81, O82 + 0 + 1)))) fun A83 N84 C85 E86 => (0 ≤ (X80 : Int) ∧ (X80 : Int) < (N84 : Nat)) ∧ (xSome A83 fun I87 O88 => xRow (hRow H79 (.ptr (some (I87, O88 + (Int.toNat X80) * 3))) 3) fun K89 => xCons K89 fun C90 Z91 => xStr (some C90) fun S92 => xCons Z91 fun C93 Z94 => xStr (some C93) fun S95 => xCons Z94 fun C96 Z97 => xSl (some C96) fun A98 N99 C100 E101 => xNil Z97 (xStr (hCell H79 (.ptr (some (h.length, 0 + 1)))) fun S102 => (hRow H79 (.ptr (some (I87, O88 + (Int.toNat X80) * 3))) 3 = hRow H79 (.ptr (some (I87, O88 + (Int.toNat X80) * 3))) 3) ∧ (hCell H79 (.ptr (some (I81, O82 + 0 + 1))) = hCell H79 (.ptr (some (I81, O82 + 0 + 1)))) ∧ SCall pg n_spec_l4Needs [.agg [.str S92, .str S95, .slice A98 N99 C100 E101], .str S102] H79 fun V103 H104 =>
 xTup V103 fun K105 => xCons K105 fun C106 Z107 => xSl (some C106) fun A108 N109 C110 E111 => xCons Z107 fun C112 Z113 => xBool (some C112) fun B114 => xNil Z113 ((hCell H104 (.ptr (some (I81, O82 + 0 + 1))) = hCell H79 (.ptr (some (I81, O82 + 0 + 1)))) ∧ bcase (!B114) (xSome a0 fun I115 O116 => xHeap (hStore H104 (.ptr (some (I115, O116 + 5))) [.str ([98, 105, 103])]) fun H117 => Q (.str []) H117) (SCall pg n_spec_l13Dec [.int .i64 X80] H104 fun V118 H119 =>
 xStr (some V118) fun S120 => L18 Q a0 x2 A108 N109 C110 E111 S120 A108 N109 C110 E111 (((N109 : Nat) : Int)) 0 H119)))))))))) ∧ (letH (H19 ++ [.cells t_impl_Need [.str S15, .str S18] false]) fun H121 => (hCell H121 (.ptr (some (I1, O2 + 4))) = hCell H19 (.ptr (some (I1, O2 + 4)))) ∧ appendA pg t_L_impl_Need H121 (.slice (some (H0.length, 0)) 0 0 true) (.slice A8 N9 C10 E11) fun V122 H123 => xSl (some V122) fun A124 N125 C126 E127 => (hRow H123 (.ptr (some (h.length, 0))) 2 = hRow H121 (.ptr (some (h.length, 0))) 2) ∧ (hCell H123 (.ptr (some (I1, O2 + 4))) = hCell H121 (.ptr (some (I1, O2 + 4)))) ∧ appendA pg t_L_impl_Need H123 (.slice A124 N125 C126 E127) (.slice (some (H19.length, 0)) 1 1 true) fun V128 H129 => xSl (some V128) fun A130 N131 C132 E133 => (hRow H129 (.ptr (some (h.length, 0))) 2 = hRow H123 (.ptr (some (h.length, 0))) 2) ∧ (hCell H129 (.ptr (some (I1, O2 + 4))) = hCell H123 (.ptr (some (I1, O2 + 4)))) ∧ xSome a0 fun I134 O135 => xHeap (hStore H129 (.ptr (some (I134, O135 + 4))) [.slice A130 N131 C132 E133]) fun H136 => xSome a0 fun I137 O138 => xSl (hCell H136 (.ptr (some (I137, O138 + 3)))) fun A139 N140 C141 E142 => bcase (decide (((((N140 : Nat) : Int)) : Int) ≥ 300)) (xSome a0 fun I143 O144 => xHeap (hStore H136 (.ptr (some (I143, O144 + 5))) [.str ([108, 111, 110, 103])]) fun H145 => Q (.str []) H145) (xSome a0 fun I146 O147 => xSl (hCell H136 (.ptr (some (I146, O147 + 3)))) fun A148 N149 C150 E151 => xRow (hRow H136 (.ptr (some (h.length, 0))) 2) fun K152 => xCons K152 fun C153 Z154 => xStr (some C153) fun S155 => xCons Z154 fun C156 Z157 => xStr (some C156) fun S158 => xNil Z157 ((hCell H136 (.ptr (some (I146, O147 + 3))) = hCell H136 (.ptr (some (I146, O147 + 3)))) ∧ letH (H136 ++ [.cells t_impl_Need [.str S155, .str S158] false]) fun H159 => (hCell H159 (.ptr (some (I146, O147 + 3))) = hCell H136 (.ptr (some (I146, O147 + 3)))) ∧ appendA pg t_L_impl_Need H159 (.slice A148 N149 C150 E151) (.slice (some (H136.length, 0)) 1 1 true) fun V160 H161 => xSl (some V160) fun A162 N163 C164 E165 => xSome a0 fun I166 O167 => xHeap (hStore H161 (.ptr (some (I166, O167 + 3))) [.slice A162 N163 C164 E165]) fun H168 => bcase (decide ((x2 : Int) > 30)) (xSome a0 fun I169 O170 => xHeap (hStore H168 (.ptr (some (I169, O170 + 5))) [.str ([100, 101, 101, 112])]) fun H171 => Q (.str []) H171) (xRow (hRow H168 (.ptr (some (h.length, 0))) 2) fun K172 => xCons K172 fun C173 Z174 => xStr (some C173) fun S175 => xCons Z174 fun C176 Z177 => xStr (some C176) fun S178 => xNil Z177 (SCall pg n_spec_l5Search_pick [.ptr a0, .agg [.str S175, .str S178]] H168 fun V179 H180 =>
 xInt .i64 (some V179) fun X181 => bcase (decide ((X181 : Int) < 0)) (Q (.str []) H180) (xSome a0 fun I182 O183 => xSl (hCell H180 (.ptr (some (I182, O183 + 0 + 1)))) fun A184 N185 C186 E187 => (0 ≤ (X181 : Int) ∧ (X181 : Int) < (N185 : Nat)) ∧ (xSome A184 fun I188 O189 => xRow (hRow H180 (.ptr (some (I188, O189 + (Int.toNat X181) * 3))) 3) fun K190 => xCons K190 fun C191 Z192 => xStr (some C191) fun S193 => xCons Z192 fun C194 Z195 => xStr (some C194) fun S196 => xCons Z195 fun C197 Z198 => xSl (some C197) fun A199 N200 C201 E202 => xNil Z198 (xStr (hCell H180 (.ptr (some (h.length, 0 + 1)))) fun S203 => (hRow H180 (.ptr (some (I188, O189 + (Int.toNat X181) * 3))) 3 = hRow H180 (.ptr (some (I188, O189 + (Int.toNat X181) * 3))) 3) ∧ (hCell H180 (.ptr (some (I182, O183 + 0 + 1))) = hCell H180 (.ptr (some (I182, O183 + 0 + 1)))) ∧ SCall pg n_spec_l4Needs [.agg [.str S193, .str S196, .slice A199 N200 C201 E202], .str S203] H180 fun V204 H205 =>
 xTup V204 fun K206 => xCons K206 fun C207 Z208 => xSl (some C207) fun A209 N210 C211 E212 => xCons Z208 fun C213 Z214 => xBool (some C213) fun B215 => xNil Z214 ((hCell H205 (.ptr (some (I182, O183 + 0 + 1))) = hCell H180 (.ptr (some (I182, O183 + 0 + 1)))) ∧ bcase (!B215) (xSome a0 fun I216 O217 => xHeap (hStore H205 (.ptr (some (I216, O217 + 5))) [.str ([98, 105, 103])]) fun H218 => Q (.str []) H218) (SCall pg n_spec_l13Dec [.int .i64 X181] H205 fun V219 H220 =>
 xStr (some V219) fun S221 => L18 Q a0 x2 A209 N210 C211 E212 S221 A209 N210 C211 E212 (((N210 : Nat) : Int)) 0 H220))))))))))) ∧ (letH (H0 ++ [.cells t_impl_Need [.str S15, .str S18] false]) fun H222 => (hCell H222 (.ptr (some (I1, O2 + 4))) = hCell H0 (.ptr (some (I1, O2 + 4)))) ∧ letH (H222 ++ [.cells t_impl_Need [] false]) fun H223 => (hRow H223 (.ptr (some (h.length, 0))) 2 = hRow H222 (.ptr (some (h.length, 0))) 2) ∧ (hCell H223 (.ptr (some (I1, O2 + 4))) = hCell H222 (.ptr (some (I1, O2 + 4)))) ∧ appendA pg t_L_impl_Need H223 (.slice (some (H222.length, 0)) 0 0 true) (.slice A8 N9 C10 E11) fun V224 H225 => xSl (some V224) fun A226 N227 C228 E229 => (hRow H225 (.ptr (some (h.length, 0))) 2 = hRow H223 (.ptr (some (h.length, 0))) 2) ∧ (hCell H225 (.ptr (some (I1, O2 + 4))) = hCell H223 (.ptr (some (I1, O2 + 4)))) ∧ appendA pg t_L_impl_Need H225 (.slice A226 N227 C228 E229) (.slice (some (H0.length, 0)) 1 1 true) fun V230 H231 => xSl (some V230) fun A232 N233 C234 E235 => (hRow H231 (.ptr (some (h.length, 0))) 2 = hRow H225 (.ptr (some (h.length, 0))) 2) ∧ (hCell H231 (.ptr (some (I1, O2 + 4))) = hCell H225 (.ptr (some (I1, O2 + 4)))) ∧ xSome a0 fun I236 O237 => xHeap (hStore H231 (.ptr (some (I236, O237 + 4))) [.slice A232 N233 C234 E235]) fun H238 => xSome a0 fun I239 O240 => xSl (hCell H238 (.ptr (some (I239, O240 + 3)))) fun A241 N242 C243 E244 => bcase (decide (((((N242 : Nat) : Int)) : Int) ≥ 300)) (xSome a0 fun I245 O246 => xHeap (hStore H238 (.ptr (some (I245, O246 + 5))) [.str ([108, 111, 110, 103])]) fun H247 => Q (.str []) H247) (xSome a0 fun I248 O249 => xSl (hCell H238 (.ptr (some (I248, O249 + 3)))) fun A250 N251 C252 E253 => xRow (hRow H238 (.ptr (some (h.length, 0))) 2) fun K254 => xCons K254 fun C255 Z256 => xStr (some C255) fun S257 => xCons Z256 fun C258 Z259 => xStr (some C258) fun S260 => xNil Z259 ((hCell H238 (.ptr (some (I248, O249 + 3))) = hCell H238 (.ptr (some (I248, O249 + 3)))) ∧ letH (H238 ++ [.cells t_impl_Need [.str S257, .str S260] false]) fun H261 => (hCell H261 (.ptr (some (I248, O249 + 3))) = hCell H238 (.ptr (some (I248, O249 + 3)))) ∧ appendA pg t_L_impl_Need H261 (.slice A250 N251 C252 E253) (.slice (some (H238.length, 0)) 1 1 true) fun V262 H263 => xSl (some V262) fun A264 N265 C266 E267 => xSome a0 fun I268 O269 => xHeap (hStore H263 (.ptr (some (I268, O269 + 3))) [.slice A264 N265 C266 E267]) fun H270 => bcase (decide ((x2 : Int) > 30)) (xSome a0 fun I271 O272 => xHeap (hStore H270 (.ptr (some (I271, O272 + 5))) [.str ([100, 101, 101, 112])]) fun H273 => Q (.str []) H273) (xRow (hRow H270 (.ptr (some (h.length, 0))) 2) fun K274 => xCons K274 fun C275 Z276 => xStr (some C275) fun S277 => xCons Z276 fun C278 Z279 => xStr (some C278) fun S280 => xNil Z279 (SCall pg n_spec_l5Search_pick [.ptr a0, .agg [.str S277, .str S280]] H270 fun V281 H282 =>
 xInt .i64 (some V281) fun X283 => bcase (decide ((X283 : Int) < 0)) (Q (.str []) H282) (xSome a0 fun I284 O285 => xSl (hCell H282 (.ptr (some (I284, O285 + 0 + 1)))) fun A286 N287 C288 E289 => (0 ≤ (X283 : Int) ∧ (X283 : Int) < (N287 : Nat)) ∧ (xSome A286 fun I290 O291 => xRow (hRow H282 (.ptr (some (I290, O291 + (Int.toNat X283) * 3))) 3) fun K292 => xCons K292 fun C293 Z294 => xStr (some C293) fun S295 => xCons Z294 fun C296 Z297 => xStr (some C296) fun S298 => xCons Z297 fun C299 Z300 => xSl (some C299) fun A301 N302 C303 E304 => xNil Z300 (xStr (hCell H282 (.ptr (some (h.length, 0 + 1)))) fun S305 => (hRow H282 (.ptr (some (I290, O291 + (Int.toNat X283) * 3))) 3 = hRow H282 (.ptr (some (I290, O291 + (Int.toNat X283) * 3))) 3) ∧ (hCell H282 (.ptr (some (I284, O285 + 0 + 1))) = hCell H282 (.ptr (some (I284, O285 + 0 + 1)))) ∧ SCall pg n_spec_l4Needs [.agg [.str S295, .str S298, .slice A301 N302 C303 E304], .str S305] H282 fun V306 H307 =>
 xTup V306 fun K308 => xCons K308 fun C309 Z310 => xSl (some C309) fun A311 N312 C313 E314 => xCons Z310 fun C315 Z316 => xBool (some C315) fun B317 => xNil Z316 ((hCell H307 (.ptr (some (I284, O285 + 0 + 1))) = hCell H282 (.ptr (some (I284, O285 + 0 + 1)))) ∧ bcase (!B317) (xSome a0 fun I318 O319 => xHeap (hStore H307 (.ptr (some (I318, O319 + 5))) [.str ([98, 105, 103])]) fun H320 => Q (.str []) H320) (SCall pg n_spec_l13Dec [.int .i64 X283] H307 fun V321 H322 =>
 xStr (some V321) fun S323 => L18 Q a0 x2 A311 N312 C313 E314 S323 A311 N312 C313 E314 (((N312 : Nat) : Int)) 0 H322)))))))))))) : SCall pg n_spec_l5Search_find [.ptr a0, .agg [.str x1x0, .str x1x1], .int .i64 x2] h Q :=
  SCall.of_body kp (c := cod fn) (fn := fn) Go.Proofs.Tryz.func71 (by kernel_rfl) (by kernel_rfl) (Nat.le_of_ble_eq_true (by kernel_rfl))
    (cast (by kernel_rfl) ht)
end F_spec_l5Search_find
end Go.Sim

/- Printed by wip/tool: what the functions' bodies do, in the words of 'den'. -/
set_option maxRecDepth 100000
set_option linter.unusedVariables false
namespace Go.Sim
open Go Go.RowKit
/-! Function loop.example/instancesearch/spec.ApplyBindings -/
namespace F_spec_ApplyBindings
noncomputable abbrev fn : Func := Go.Proofs.Tryz.f129
def kp : Keeps := [(4000004, [0, 6]), (3000006, [8, 6]), (1000006, [6, 8, 26, 27, 28]), (2000008, [28, 27, 26, 8, 6])]
noncomputable def C (p : List Nat) : Code := (cod fn).sub p
def KR (Q : QT) : KT := retA pg fn.results.toList Q
abbrev T6 := Nat → Nat → Nat → Nat → Pt → Nat → Nat → Bool → Int → Int → AHeap → Prop
def E6 (R6 : T6) (env : Env) (h : AHeap) : Prop := eVal 6 env fun v env => xPtr (some v) fun a => xSome a fun i6 o6 => eVal 8 env fun v env => xPtr (some v) fun a => xSome a fun i8 o8 => eVal 26 env fun v env => xSl (some v) fun a26 n26 c26 e26 => eVal 27 env fun v env => eInt .i64 v fun x27 => eVal 28 env fun v env => eInt .i64 v fun x28 => eNil env (R6 i6 o6 i8 o8 a26 n26 c26 e26 x27 x28 h)
theorem E6elim {R6 : T6} {env : Env} {h : AHeap} (hi : E6 R6 env h) : ∃ i6, ∃ o6, ∃ i8, ∃ o8, ∃ a26, ∃ n26, ∃ c26, ∃ e26, ∃ x27, ∃ x28, env = [(6, .ptr (some (i6, o6))), (8, .ptr (some (i8, o8))), (26, .slice a26 n26 c26 e26), (27, .int .i64 x27), (28, .int .i64 x28)] ∧ R6 i6 o6 i8 o8 a26 n26 c26 e26 x27 x28 h := by
  unfold E6 at hi
  have hi0 := hi
  clear hi
  obtain ⟨_, _, rfl, hi1⟩ := eVal_elim hi0
  obtain ⟨a, rfl, hi2⟩ := xPtr_elim hi1
  obtain ⟨i6, o6, rfl, hi3⟩ := xSome_elim hi2
  obtain ⟨_, _, rfl, hi4⟩ := eVal_elim hi3
  obtain ⟨a, rfl, hi5⟩ := xPtr_elim hi4
  obtain ⟨i8, o8, rfl, hi6⟩ := xSome_elim hi5
  obtain ⟨_, _, rfl, hi7⟩ := eVal_elim hi6
  obtain ⟨a26, n26, c26, e26, rfl, hi8⟩ := xSl_elim hi7
  obtain ⟨_, _, rfl, hi9⟩ := eVal_elim hi8
  obtain ⟨x27, rfl, hi10⟩ := eInt_elim hi9
  obtain ⟨_, _, rfl, hi11⟩ := eVal_elim hi10
  obtain ⟨x28, rfl, hi12⟩ := eInt_elim hi11
  obtain ⟨rfl, hi13⟩ := eNil_elim hi12
  have hi := hi13
  exact ⟨i6, o6, i8, o8, a26, n26, c26, e26, x27, x28, rfl, hi⟩
def K0 (Q : QT) : KT := andThen (fun env' h' => (match kp.find 4000010 with | some ks => Den pg fn.ntmps (C [1, 1, 1, 1, 1]) (env'.keep ks) h' (KR Q) | none => den pg fn.ntmps kp (C [1, 1, 1, 1, 1]) env' h' (KR Q))) (KR Q)
def K1 (Q : QT) : KT := onExit 0 (K0 Q)
def K2 (Q : QT) : KT := left kp 6 (K1 Q)
def K3 (Q : QT) (R6 : T6) : KT := rnd ((kp.find 1000006).getD []) (E6 R6) (K2 Q)
def J4 (Q : QT) (a0 : Pt) (n0 c0 : Nat) (e0 : Bool) (i6 o6 : Nat) (h : AHeap) : Prop := Den pg fn.ntmps (C [1, 1, 1]) [(0, .slice a0 n0 c0 e0), (6, .ptr (some (i6, o6)))] h (KR Q)
def L6 (Q : QT) (i6 o6 i8 o8 : Nat) (a26 : Pt) (n26 c26 : Nat) (e26 : Bool) (x27 x28 : Int) (h : AHeap) : Prop := Loop (Den pg fn.ntmps (C [1, 1, 1, 1, 0, 1, 0, 0])) ((kp.find 1000006).getD []) (K2 Q) [(6, .ptr (some (i6, o6))), (8, .ptr (some (i8, o8))), (26, .slice a26 n26 c26 e26), (27, .int .i64 x27), (28, .int .i64 x28)] h
def A6x0 (Q : QT) (i8 o8 i6 o6 : Nat) (h : AHeap) : Prop := At (K1 Q) (.exit 0) [(8, .ptr (some (i8, o8))), (6, .ptr (some (i6, o6)))] h
theorem J4i (Q : QT) (a0 : Pt) (n0 c0 : Nat) (e0 : Bool) (i6 o6 : Nat) (h : AHeap) (ht :
 letH (h ++ [.cells t_spec_l2Map [.int .u8 0, .slice none 0 0 true, .int .u8 0, .slice none 0 0 true, .int .u8 0, .slice none 0 0 true, .int .u8 0, .slice none 0 0 true, .int .u8 0, .slice none 0 0 true, .int .u8 0, .slice none 0 0 true, .int .u8 0, .slice none 0 0 true, .int .u8 0, .slice none 0 0 true, .int .u8 0, .slice none 0 0 true, .int .u8 0, .slice none 0 0 true, .int .u8 0, .slice none 0 0 true, .int .u8 0, .slice none 0 0 true] false]) fun H23 => L6 Q i6 o6 h.length 0 a0 n0 c0 e0 (((n0 : Nat) : Int)) 0 H23) : J4 Q a0 n0 c0 e0 i6 o6 h :=
  den_Den (kp := kp) (cast (by kernel_rfl) ht)
def L6t (Q : QT) (R6 : T6) (i6 o6 i8 o8 : Nat) (a26 : Pt) (n26 c26 : Nat) (e26 : Bool) (x27 x28 : Int) (h : AHeap) : Prop :=
 bcase (decide ((x28 : Int) < x27)) ((0 ≤ (x28 : Int) ∧ (x28 : Int) < (n26 : Nat)) ∧ (xSome a26 fun I24 O25 => xRow (hRow h (.ptr (some (I24, O25 + (Int.toNat x28) * 2))) 2) fun K26 => xCons K26 fun C27 Z28 => xStr (some C27) fun S29 => xCons Z28 fun C30 Z31 => xStr (some C30) fun S32 => xNil Z31 (letH (h ++ [.cells t_impl_Binding [.str [], .str []] false]) fun H33 => xHeap (hStore H33 (.ptr (some (h.length, 0))) [.str S29, .str S32]) fun H34 => xStr (hCell H34 (.ptr (some (h.length, 0 + 0)))) fun S35 => byteAt S35 0 fun B36 => xStr (hCell H34 (.ptr (some (h.length, 0 + 1)))) fun S37 => SCall pg n_spec_l2Index [.int .u8 (((B36 : Nat) : Int))] H34 fun V38 H39 =>
 xInt .i64 (some V38) fun X40 => (hCell H39 (.ptr (some (h.length, 0 + 1))) = hCell H34 (.ptr (some (h.length, 0 + 1)))) ∧ (hCell H39 (.ptr (some (h.length, 0 + 0))) = hCell H34 (.ptr (some (h.length, 0 + 0)))) ∧ SCall pg n_spec_l1Read [.str S37] H39 fun V41 H42 =>
 xTup V41 fun K43 => xCons K43 fun C44 Z45 => xAgg C44 fun K46 => xCons K46 fun C47 Z48 => xInt .u8 (some C47) fun X49 => xCons Z48 fun C50 Z51 => xSl (some C50) fun A52 N53 C54 E55 => xNil Z51 (xCons Z45 fun C56 Z57 => xBool (some C56) fun B58 => xNil Z57 ((hCell H42 (.ptr (some (h.length, 0 + 0))) = hCell H39 (.ptr (some (h.length, 0 + 0)))) ∧ (0 ≤ (X40 : Int) ∧ (X40 : Int) < (12 : Nat)) ∧ (xHeap (hStore H42 (.ptr (some (i8, o8 + (Int.toNat X40) * 2))) [.int .u8 X49, .slice A52 N53 C54 E55]) fun H59 => R6 i6 o6 i8 o8 a26 n26 c26 e26 x27 (IntKind.wrap .i64 (x28 + 1)) H59)))))) (A6x0 Q i8 o8 i6 o6 h)
theorem L6den (Q : QT) (R6 : T6) (i6 o6 i8 o8 : Nat) (a26 : Pt) (n26 c26 : Nat) (e26 : Bool) (x27 x28 : Int) (h : AHeap) (ht : L6t Q R6 i6 o6 i8 o8 a26 n26 c26 e26 x27 x28 h) : Den pg fn.ntmps (C [1, 1, 1, 1, 0, 1, 0, 0]) [(6, .ptr (some (i6, o6))), (8, .ptr (some (i8, o8))), (26, .slice a26 n26 c26 e26), (27, .int .i64 x27), (28, .int .i64 x28)] h (K3 Q R6) :=
  den_Den (kp := kp) (cast (by kernel_rfl) ht)
theorem L6ind (Q : QT) (i6 o6 i8 o8 : Nat) (a26 : Pt) (n26 c26 : Nat) (e26 : Bool) (x27 : Int) {G : Type} (J : G → Int → AHeap → Prop) (m : G → Nat)
 (hr : ∀ (g : G) (x28 : Int) (h : AHeap), J g x28 h → ∀ (R6 : T6), (∀ g' (x28 : Int) (h : AHeap), m g' < m g → J g' x28 h → R6 i6 o6 i8 o8 a26 n26 c26 e26 x27 x28 h) → L6t Q R6 i6 o6 i8 o8 a26 n26 c26 e26 x27 x28 h)
 (g : G) (x28 : Int) (h : AHeap) (hj : J g x28 h) : L6 Q i6 o6 i8 o8 a26 n26 c26 e26 x27 x28 h := by
  refine Loop.inv2 (fun g => E6 fun i6' o6' i8' o8' a26' n26' c26' e26' x27' x28 h => i6 = i6' ∧ o6 = o6' ∧ i8 = i8' ∧ o8 = o8' ∧ a26 = a26' ∧ n26 = n26' ∧ c26 = c26' ∧ e26 = e26' ∧ x27 = x27' ∧ J g x28 h) (fun g => E6 fun i6' o6' i8' o8' a26' n26' c26' e26' x27' x28 h => i6 = i6' ∧ o6 = o6' ∧ i8 = i8' ∧ o8 = o8' ∧ a26 = a26' ∧ n26 = n26' ∧ c26 = c26' ∧ e26 = e26' ∧ x27 = x27' ∧ ∃ g', m g' < m g ∧ J g' x28 h) m ?_ ?_ g ⟨rfl, rfl, rfl, rfl, rfl, rfl, rfl, rfl, rfl, hj⟩
  · intro g env h hi
    obtain ⟨i6', o6', i8', o8', a26', n26', c26', e26', x27', x28, rfl, rfl, rfl, rfl, rfl, rfl, rfl, rfl, rfl, rfl, hj⟩ := E6elim hi
    exact L6den Q _ i6 o6 i8 o8 a26 n26 c26 e26 x27 x28 h (hr g x28 h hj (fun i6' o6' i8' o8' a26' n26' c26' e26' x27' x28 h => i6 = i6' ∧ o6 = o6' ∧ i8 = i8' ∧ o8 = o8' ∧ a26 = a26' ∧ n26 = n26' ∧ c26 = c26' ∧ e26 = e26' ∧ x27 = x27' ∧ ∃ g', m g' < m g ∧ J g' x28 h) fun g' x28 h hlt hj => ⟨rfl, rfl, rfl, rfl, rfl, rfl, rfl, rfl, rfl, g', hlt, hj⟩)
  · intro g env h hi
    obtain ⟨i6', o6', i8', o8', a26', n26', c26', e26', x27', x28, rfl, rfl, rfl, rfl, rfl, rfl, rfl, rfl, rfl, rfl, g', hlt, hj⟩ := E6elim hi
    exact ⟨g', hlt, rfl, rfl, rfl, rfl, rfl, rfl, rfl, rfl, rfl, hj⟩
theorem A6x0i (Q : QT) (i8 o8 i6 o6 : Nat) (h : AHeap) (ht :
 xRow (hRow h (.ptr (some (i6, o6))) 2) fun K60 => xCons K60 fun C61 Z62 => xInt .u8 (some C61) fun X63 => xCons Z62 fun C64 Z65 => xSl (some C64) fun A66 N67 C68 E69 => xNil Z65 (SCall pg n_spec_l2Put [.ptr (some (i8, o8)), .agg [.int .u8 X63, .slice A66 N67 C68 E69]] h fun V70 H71 =>
 xAgg V70 fun K72 => xCons K72 fun C73 Z74 => xInt .u8 (some C73) fun X75 => xCons Z74 fun C76 Z77 => xSl (some C76) fun A78 N79 C80 E81 => xNil Z77 (letH (H71 ++ [.cells t_spec_l1Node [.int .u8 0, .slice none 0 0 true] false]) fun H82 => xHeap (hStore H82 (.ptr (some (H71.length, 0))) [.int .u8 X75, .slice A78 N79 C80 E81]) fun H83 => xRow (hRow H83 (.ptr (some (H71.length, 0))) 2) fun K84 => xCons K84 fun C85 Z86 => xInt .u8 (some C85) fun X87 => xCons Z86 fun C88 Z89 => xSl (some C88) fun A90 N91 C92 E93 => xNil Z89 (SCall pg n_spec_l2Length [.agg [.int .u8 X87, .slice A90 N91 C92 E93]] H83 fun V94 H95 =>
 xInt .i64 (some V94) fun X96 => bcase (decide ((X96 : Int) > 60)) (Q (.tup [.str [], .bool false]) H95) (xRow (hRow H95 (.ptr (some (H71.length, 0))) 2) fun K97 => xCons K97 fun C98 Z99 => xInt .u8 (some C98) fun X100 => xCons Z99 fun C101 Z102 => xSl (some C101) fun A103 N104 C105 E106 => xNil Z102 (SCall pg n_spec_l1Text [.agg [.int .u8 X100, .slice A103 N104 C105 E106]] H95 fun V107 H108 =>
 xStr (some V107) fun S109 => Q (.tup [.str S109, .bool true]) H108)))))) : A6x0 Q i8 o8 i6 o6 h :=
  At.mk (cast (by kernel_rfl) ht)
theorem call (a0 : Pt) (n0 c0 : Nat) (e0 : Bool) (x1 : List Nat) (h : AHeap) (Q : QT) (ht :
 SCall pg n_spec_l1Read [.str x1] h fun V0 H1 =>
 xTup V0 fun K2 => xCons K2 fun C3 Z4 => xAgg C3 fun K5 => xCons K5 fun C6 Z7 => xInt .u8 (some C6) fun X8 => xCons Z7 fun C9 Z10 => xSl (some C9) fun A11 N12 C13 E14 => xNil Z10 (xCons Z4 fun C15 Z16 => xBool (some C15) fun B17 => xNil Z16 (letH (H1 ++ [.cells t_spec_l1Node [.int .u8 0, .slice none 0 0 true] false]) fun H18 => xHeap (hStore H18 (.ptr (some (H1.length, 0))) [.int .u8 X8, .slice A11 N12 C13 E14]) fun H19 => bcase (!B17) (Q (.tup [.str [], .bool false]) H19) (SCall pg n_spec_BindingsValid [.slice a0 n0 c0 e0] H19 fun V20 H21 =>
 xBool (some V20) fun B22 => bcase (!B22) (Q (.tup [.str [], .bool false]) H21) (J4 Q a0 n0 c0 e0 H1.length 0 H21))))) : SCall pg n_spec_ApplyBindings [.slice a0 n0 c0 e0, .str x1] h Q :=
  SCall.of_body kp (c := cod fn) (fn := fn) Go.Proofs.Tryz.func129 (by kernel_rfl) (by kernel_rfl) (Nat.le_of_ble_eq_true (by kernel_rfl))
    (cast (by kernel_rfl) ht)
end F_spec_ApplyBindings
/-! Function loop.example/instancesearch/spec.l4Needs -/
namespace F_spec_l4Needs
noncomputable abbrev fn : Func := Go.Proofs.Tryz.f95
def kp : Keeps := [(3000006, [6, 4, 5]), (1000006, [6, 7, 26, 27, 28])]
noncomputable def C (p : List Nat) : Code := (cod fn).sub p
def KR (Q : QT) : KT := retA pg fn.results.toList Q
abbrev T6 := Pt → Nat → Nat → Bool → Pt → Nat → Nat → Bool → Pt → Nat → Nat → Bool → Int → Int → AHeap → Prop
def E6 (R6 : T6) (env : Env) (h : AHeap) : Prop := eVal 6 env fun v env => xSl (some v) fun a6 n6 c6 e6 => eVal 7 env fun v env => xSl (some v) fun a7 n7 c7 e7 => eVal 26 env fun v env => xSl (some v) fun a26 n26 c26 e26 => eVal 27 env fun v env => eInt .i64 v fun x27 => eVal 28 env fun v env => eInt .i64 v fun x28 => eNil env (R6 a6 n6 c6 e6 a7 n7 c7 e7 a26 n26 c26 e26 x27 x28 h)
theorem E6elim {R6 : T6} {env : Env} {h : AHeap} (hi : E6 R6 env h) : ∃ a6, ∃ n6, ∃ c6, ∃ e6, ∃ a7, ∃ n7, ∃ c7, ∃ e7, ∃ a26, ∃ n26, ∃ c26, ∃ e26, ∃ x27, ∃ x28, env = [(6, .slice a6 n6 c6 e6), (7, .slice a7 n7 c7 e7), (26, .slice a26 n26 c26 e26), (27, .int .i64 x27), (28, .int .i64 x28)] ∧ R6 a6 n6 c6 e6 a7 n7 c7 e7 a26 n26 c26 e26 x27 x28 h := by
  unfold E6 at hi
  have hi0 := hi
  clear hi
  obtain ⟨_, _, rfl, hi1⟩ := eVal_elim hi0
  obtain ⟨a6, n6, c6, e6, rfl, hi2⟩ := xSl_elim hi1
  obtain ⟨_, _, rfl, hi3⟩ := eVal_elim hi2
  obtain ⟨a7, n7, c7, e7, rfl, hi4⟩ := xSl_elim hi3
  obtain ⟨_, _, rfl, hi5⟩ := eVal_elim hi4
  obtain ⟨a26, n26, c26, e26, rfl, hi6⟩ := xSl_elim hi5
  obtain ⟨_, _, rfl, hi7⟩ := eVal_elim hi6
  obtain ⟨x27, rfl, hi8⟩ := eInt_elim hi7
  obtain ⟨_, _, rfl, hi9⟩ := eVal_elim hi8
  obtain ⟨x28, rfl, hi10⟩ := eInt_elim hi9
  obtain ⟨rfl, hi11⟩ := eNil_elim hi10
  have hi := hi11
  exact ⟨a6, n6, c6, e6, a7, n7, c7, e7, a26, n26, c26, e26, x27, x28, rfl, hi⟩
def K0 (Q : QT) : KT := andThen (fun env' h' => (match kp.find 4000013 with | some ks => Den pg fn.ntmps (C [1, 1, 1, 1, 1]) (env'.keep ks) h' (KR Q) | none => den pg fn.ntmps kp (C [1, 1, 1, 1, 1]) env' h' (KR Q))) (KR Q)
def K1 (Q : QT) : KT := onExit 0 (K0 Q)
def K2 (Q : QT) : KT := left kp 6 (K1 Q)
def K3 (Q : QT) (R6 : T6) : KT := rnd ((kp.find 1000006).getD []) (E6 R6) (K2 Q)
def L6 (Q : QT) (a6 : Pt) (n6 c6 : Nat) (e6 : Bool) (a7 : Pt) (n7 c7 : Nat) (e7 : Bool) (a26 : Pt) (n26 c26 : Nat) (e26 : Bool) (x27 x28 : Int) (h : AHeap) : Prop := Loop (Den pg fn.ntmps (C [1, 1, 1, 1, 0, 1, 0, 0])) ((kp.find 1000006).getD []) (K2 Q) [(6, .slice a6 n6 c6 e6), (7, .slice a7 n7 c7 e7), (26, .slice a26 n26 c26 e26), (27, .int .i64 x27), (28, .int .i64 x28)] h
def A6x0 (Q : QT) (a6 : Pt) (n6 c6 : Nat) (e6 : Bool) (h : AHeap) : Prop := At (K1 Q) (.exit 0) [(6, .slice a6 n6 c6 e6), (4, .undef), (5, .undef)] h
def L6t (Q : QT) (R6 : T6) (a6 : Pt) (n6 c6 : Nat) (e6 : Bool) (a7 : Pt) (n7 c7 : Nat) (e7 : Bool) (a26 : Pt) (n26 c26 : Nat) (e26 : Bool) (x27 x28 : Int) (h : AHeap) : Prop :=
 bcase (decide ((x28 : Int) < x27)) ((0 ≤ (x28 : Int) ∧ (x28 : Int) < (n26 : Nat)) ∧ (xSome a26 fun I19 O20 => xRow (hRow h (.ptr (some (I19, O20 + (Int.toNat x28) * 2))) 2) fun K21 => xCons K21 fun C22 Z23 => xStr (some C22) fun S24 => xCons Z23 fun C25 Z26 => xStr (some C25) fun S27 => xNil Z26 (letH (h ++ [.cells t_impl_Need [.str [], .str []] false]) fun H28 => xHeap (hStore H28 (.ptr (some (h.length, 0))) [.str S24, .str S27]) fun H29 => xStr (hCell H29 (.ptr (some (h.length, 0 + 1)))) fun S30 => SCall pg n_spec_ApplyBindings [.slice a7 n7 c7 e7, .str S30] H29 fun V31 H32 =>
 xTup V31 fun K33 => xCons K33 fun C34 Z35 => xStr (some C34) fun S36 => xCons Z35 fun C37 Z38 => xBool (some C37) fun B39 => xNil Z38 (bcase (!B39) (letH (H32 ++ [.cells t_impl_Need [] false]) fun H40 => Q (.tup [.slice (some (H32.length, 0)) 0 0 true, .bool false]) H40) (xStr (hCell H32 (.ptr (some (h.length, 0 + 0)))) fun S41 => letH (H32 ++ [.cells t_impl_Need [.str S41, .str S36] false]) fun H42 => appendA pg t_L_impl_Need H42 (.slice a6 n6 c6 e6) (.slice (some (H32.length, 0)) 1 1 true) fun V43 H44 => xSl (some V43) fun A45 N46 C47 E48 => R6 A45 N46 C47 E48 a7 n7 c7 e7 a26 n26 c26 e26 x27 (IntKind.wrap .i64 (x28 + 1)) H44))))) (A6x0 Q a6 n6 c6 e6 h)
theorem L6den (Q : QT) (R6 : T6) (a6 : Pt) (n6 c6 : Nat) (e6 : Bool) (a7 : Pt) (n7 c7 : Nat) (e7 : Bool) (a26 : Pt) (n26 c26 : Nat) (e26 : Bool) (x27 x28 : Int) (h : AHeap) (ht : L6t Q R6 a6 n6 c6 e6 a7 n7 c7 e7 a26 n26 c26 e26 x27 x28 h) : Den pg fn.ntmps (C [1, 1, 1, 1, 0, 1, 0, 0]) [(6, .slice a6 n6 c6 e6), (7, .slice a7 n7 c7 e7), (26, .slice a26 n26 c26 e26), (27, .int .i64 x27), (28, .int .i64 x28)] h (K3 Q R6) :=
  den_Den (kp := kp) (cast (by kernel_rfl) ht)
theorem L6ind (Q : QT) (a7 : Pt) (n7 c7 : Nat) (e7 : Bool) (a26 : Pt) (n26 c26 : Nat) (e26 : Bool) (x27 : Int) {G : Type} (J : G → Pt → Nat → Nat → Bool → Int → AHeap → Prop) (m : G → Nat)
 (hr : ∀ (g : G) (a6 : Pt) (n6 c6 : Nat) (e6 : Bool) (x28 : Int) (h : AHeap), J g a6 n6 c6 e6 x28 h → ∀ (R6 : T6), (∀ g' (a6 : Pt) (n6 c6 : Nat) (e6 : Bool) (x28 : Int) (h : AHeap), m g' < m g → J g' a6 n6 c6 e6 x28 h → R6 a6 n6 c6 e6 a7 n7 c7 e7 a26 n26 c26 e26 x27 x28 h) → L6t Q R6 a6 n6 c6 e6 a7 n7 c7 e7 a26 n26 c26 e26 x27 x28 h)
 (g : G) (a6 : Pt) (n6 c6 : Nat) (e6 : Bool) (x28 : Int) (h : AHeap) (hj : J g a6 n6 c6 e6 x28 h) : L6 Q a6 n6 c6 e6 a7 n7 c7 e7 a26 n26 c26 e26 x27 x28 h := by
  refine Loop.inv2 (fun g => E6 fun a6 n6 c6 e6 a7' n7' c7' e7' a26' n26' c26' e26' x27' x28 h => a7 = a7' ∧ n7 = n7' ∧ c7 = c7' ∧ e7 = e7' ∧ a26 = a26' ∧ n26 = n26' ∧ c26 = c26' ∧ e26 = e26' ∧ x27 = x27' ∧ J g a6 n6 c6 e6 x28 h) (fun g => E6 fun a6 n6 c6 e6 a7' n7' c7' e7' a26' n26' c26' e26' x27' x28 h => a7 = a7' ∧ n7 = n7' ∧ c7 = c7' ∧ e7 = e7' ∧ a26 = a26' ∧ n26 = n26' ∧ c26 = c26' ∧ e26 = e26' ∧ x27 = x27' ∧ ∃ g', m g' < m g ∧ J g' a6 n6 c6 e6 x28 h) m ?_ ?_ g ⟨rfl, rfl, rfl, rfl, rfl, rfl, rfl, rfl, rfl, hj⟩
  · intro g env h hi
    obtain ⟨a6, n6, c6, e6, a7', n7', c7', e7', a26', n26', c26', e26', x27', x28, rfl, rfl, rfl, rfl, rfl, rfl, rfl, rfl, rfl, rfl, hj⟩ := E6elim hi
    exact L6den Q _ a6 n6 c6 e6 a7 n7 c7 e7 a26 n26 c26 e26 x27 x28 h (hr g a6 n6 c6 e6 x28 h hj (fun a6 n6 c6 e6 a7' n7' c7' e7' a26' n26' c26' e26' x27' x28 h => a7 = a7' ∧ n7 = n7' ∧ c7 = c7' ∧ e7 = e7' ∧ a26 = a26' ∧ n26 = n26' ∧ c26 = c26' ∧ e26 = e26' ∧ x27 = x27' ∧ ∃ g', m g' < m g ∧ J g' a6 n6 c6 e6 x28 h) fun g' a6 n6 c6 e6 x28 h hlt hj => ⟨rfl, rfl, rfl, rfl, rfl, rfl, rfl, rfl, rfl, g', hlt, hj⟩)
  · intro g env h hi
    obtain ⟨a6, n6, c6, e6, a7', n7', c7', e7', a26', n26', c26', e26', x27', x28, rfl, rfl, rfl, rfl, rfl, rfl, rfl, rfl, rfl, rfl, g', hlt, hj⟩ := E6elim hi
    exact ⟨g', hlt, rfl, rfl, rfl, rfl, rfl, rfl, rfl, rfl, rfl, hj⟩
theorem A6x0i (Q : QT) (a6 : Pt) (n6 c6 : Nat) (e6 : Bool) (h : AHeap) (ht :
 Q (.tup [.slice a6 n6 c6 e6, .bool true]) h) : A6x0 Q a6 n6 c6 e6 h :=
  At.mk (cast (by kernel_rfl) ht)
theorem call (x0x0 x0x1 : List Nat) (a0x2 : Pt) (n0x2 c0x2 : Nat) (e0x2 : Bool) (x1 : List Nat) (h : AHeap) (Q : QT) (ht :
 letH (h ++ [.cells t_impl_Instance [.str x0x0, .str x0x1, .slice a0x2 n0x2 c0x2 e0x2] false]) fun H0 => letH (H0 ++ [.cells t_impl_Need [] false]) fun H1 => xStr (hCell H1 (.ptr (some (h.length, 0 + 0 + 1)))) fun S2 => SCall pg n_spec_MatchType [.str S2, .str x1] H1 fun V3 H4 =>
 xTup V3 fun K5 => xCons K5 fun C6 Z7 => xSl (some C6) fun A8 N9 C10 E11 => xCons Z7 fun C12 Z13 => xBool (some C12) fun B14 => xNil Z13 (bcase (!B14) (Q (.tup [.slice (some (H0.length, 0)) 0 0 true, .bool false]) H4) (xSl (hCell H4 (.ptr (some (h.length, 0 + 2)))) fun A15 N16 C17 E18 => L6 Q (some (H0.length, 0)) 0 0 true A8 N9 C10 E11 A15 N16 C17 E18 (((N16 : Nat) : Int)) 0 H4))) : SCall pg n_spec_l4Needs [.agg [.str x0x0, .str x0x1, .slice a0x2 n0x2 c0x2 e0x2], .str x1] h Q :=
  SCall.of_body kp (c := cod fn) (fn := fn) Go.Proofs.Tryz.func95 (by kernel_rfl) (by kernel_rfl) (Nat.le_of_ble_eq_true (by kernel_rfl))
    (cast (by kernel_rfl) ht)
end F_spec_l4Needs
end Go.Sim

/- Printed by wip/tool: what the functions' bodies do, in the words of 'den'. -/
set_option maxRecDepth 100000
set_option linter.unusedVariables false
namespace Go.Sim
open Go Go.RowKit
/-! Function loop.example/instancesearch/spec.BindingsValid -/
namespace F_spec_BindingsValid
noncomputable abbrev fn : Func := Go.Proofs.Tryz.f153
def kp : Keeps := [(3000002, [2]), (1000002, [0, 5, 6, 7]), (2000004, [43, 7, 6, 5, 0]), (4000006, [7, 6, 5, 0])]
noncomputable def C (p : List Nat) : Code := (cod fn).sub p
def KR (Q : QT) : KT := retA pg fn.results.toList Q
abbrev T2 := Pt → Nat → Nat → Bool → Pt → Nat → Nat → Bool → Int → Int → AHeap → Prop
def E2 (R2 : T2) (env : Env) (h : AHeap) : Prop := eVal 0 env fun v env => xSl (some v) fun a0 n0 c0 e0 => eVal 5 env fun v env => xSl (some v) fun a5 n5 c5 e5 => eVal 6 env fun v env => eInt .i64 v fun x6 => eVal 7 env fun v env => eInt .i64 v fun x7 => eNil env (R2 a0 n0 c0 e0 a5 n5 c5 e5 x6 x7 h)
theorem E2elim {R2 : T2} {env : Env} {h : AHeap} (hi : E2 R2 env h) : ∃ a0, ∃ n0, ∃ c0, ∃ e0, ∃ a5, ∃ n5, ∃ c5, ∃ e5, ∃ x6, ∃ x7, env = [(0, .slice a0 n0 c0 e0), (5, .slice a5 n5 c5 e5), (6, .int .i64 x6), (7, .int .i64 x7)] ∧ R2 a0 n0 c0 e0 a5 n5 c5 e5 x6 x7 h := by
  unfold E2 at hi
  have hi0 := hi
  clear hi
  obtain ⟨_, _, rfl, hi1⟩ := eVal_elim hi0
  obtain ⟨a0, n0, c0, e0, rfl, hi2⟩ := xSl_elim hi1
  obtain ⟨_, _, rfl, hi3⟩ := eVal_elim hi2
  obtain ⟨a5, n5, c5, e5, rfl, hi4⟩ := xSl_elim hi3
  obtain ⟨_, _, rfl, hi5⟩ := eVal_elim hi4
  obtain ⟨x6, rfl, hi6⟩ := eInt_elim hi5
  obtain ⟨_, _, rfl, hi7⟩ := eVal_elim hi6
  obtain ⟨x7, rfl, hi8⟩ := eInt_elim hi7
  obtain ⟨rfl, hi9⟩ := eNil_elim hi8
  have hi := hi9
  exact ⟨a0, n0, c0, e0, a5, n5, c5, e5, x6, x7, rfl, hi⟩
def K0 (Q : QT) : KT := andThen (fun env' h' => (match kp.find 4000007 with | some ks => Den pg fn.ntmps (C [1, 1]) (env'.keep ks) h' (KR Q) | none => den pg fn.ntmps kp (C [1, 1]) env' h' (KR Q))) (KR Q)
def K1 (Q : QT) : KT := onExit 0 (K0 Q)
def K2 (Q : QT) : KT := left kp 2 (K1 Q)
def K3 (Q : QT) (R2 : T2) : KT := rnd ((kp.find 1000002).getD []) (E2 R2) (K2 Q)
def L2 (Q : QT) (a0 : Pt) (n0 c0 : Nat) (e0 : Bool) (a5 : Pt) (n5 c5 : Nat) (e5 : Bool) (x6 x7 : Int) (h : AHeap) : Prop := Loop (Den pg fn.ntmps (C [1, 0, 1, 0, 0])) ((kp.find 1000002).getD []) (K2 Q) [(0, .slice a0 n0 c0 e0), (5, .slice a5 n5 c5 e5), (6, .int .i64 x6), (7, .int .i64 x7)] h
def J6 (Q : QT) (R2 : T2) (x7 x6 : Int) (a5 : Pt) (n5 c5 : Nat) (e5 : Bool) (a0 : Pt) (n0 c0 : Nat) (e0 : Bool) (h : AHeap) : Prop := Den pg fn.ntmps (C [1, 0, 1, 0, 0, 1, 1, 1]) [(7, .int .i64 x7), (6, .int .i64 x6), (5, .slice a5 n5 c5 e5), (0, .slice a0 n0 c0 e0)] h (K3 Q R2)
def A2x0 (Q : QT) (h : AHeap) : Prop := At (K1 Q) (.exit 0) [(2, .undef)] h
def L2t (Q : QT) (R2 : T2) (a0 : Pt) (n0 c0 : Nat) (e0 : Bool) (a5 : Pt) (n5 c5 : Nat) (e5 : Bool) (x6 x7 : Int) (h : AHeap) : Prop :=
 bcase (decide ((x7 : Int) < x6)) ((0 ≤ (x7 : Int) ∧ (x7 : Int) < (n5 : Nat)) ∧ (xSome a5 fun I0 O1 => xRow (hRow h (.ptr (some (I0, O1 + (Int.toNat x7) * 2))) 2) fun K2 => xCons K2 fun C3 Z4 => xStr (some C3) fun S5 => xCons Z4 fun C6 Z7 => xStr (some C6) fun S8 => xNil Z7 (letH (h ++ [.cells t_impl_Binding [.str [], .str []] false]) fun H9 => xHeap (hStore H9 (.ptr (some (h.length, 0))) [.str S5, .str S8]) fun H10 => xStr (hCell H10 (.ptr (some (h.length, 0 + 0)))) fun S11 => bcase (!((((List.length S11 : Nat) : Int) : Int) == 1)) ((hCell H10 (.tup []) = hCell H10 (.tup [])) ∧ Q (.bool false) H10) (xStr (hCell H10 (.ptr (some (h.length, 0 + 0)))) fun S12 => byteAt S12 0 fun B13 => SCall pg n_spec_l1Variable [.int .u8 (((B13 : Nat) : Int))] H10 fun V14 H15 =>
 xBool (some V14) fun B16 => bcase (!B16) ((hCell H15 (.tup []) = hCell H15 (.tup [])) ∧ Q (.bool false) H15) (xStr (hCell H15 (.ptr (some (h.length, 0 + 1)))) fun S17 => SCall pg n_spec_TypeValid [.str S17] H15 fun V18 H19 =>
 xBool (some V18) fun B20 => bcase (!B20) ((hCell H19 (.tup []) = hCell H19 (.tup [])) ∧ Q (.bool false) H19) (bcase (decide ((x7 : Int) > 0)) ((0 ≤ (IntKind.wrap .i64 (x7 - 1) : Int) ∧ (IntKind.wrap .i64 (x7 - 1) : Int) < (n0 : Nat)) ∧ (xSome a0 fun I21 O22 => xStr (hCell H19 (.ptr (some (I21, O22 + (Int.toNat (IntKind.wrap .i64 (x7 - 1))) * 2 + 0)))) fun S23 => xStr (hCell H19 (.ptr (some (h.length, 0 + 0)))) fun S24 => (hCell H19 (.ptr (some (I21, O22 + (Int.toNat (IntKind.wrap .i64 (x7 - 1))) * 2 + 0))) = hCell H19 (.ptr (some (I21, O22 + (Int.toNat (IntKind.wrap .i64 (x7 - 1))) * 2 + 0)))) ∧ bcase (!natLess S23 S24) (Q (.bool false) H19) (J6 Q R2 x7 x6 a5 n5 c5 e5 a0 n0 c0 e0 H19))) ((hCell H19 (.tup []) = hCell H19 (.tup [])) ∧ J6 Q R2 x7 x6 a5 n5 c5 e5 a0 n0 c0 e0 H19))))))) (A2x0 Q h)
theorem L2den (Q : QT) (R2 : T2) (a0 : Pt) (n0 c0 : Nat) (e0 : Bool) (a5 : Pt) (n5 c5 : Nat) (e5 : Bool) (x6 x7 : Int) (h : AHeap) (ht : L2t Q R2 a0 n0 c0 e0 a5 n5 c5 e5 x6 x7 h) : Den pg fn.ntmps (C [1, 0, 1, 0, 0]) [(0, .slice a0 n0 c0 e0), (5, .slice a5 n5 c5 e5), (6, .int .i64 x6), (7, .int .i64 x7)] h (K3 Q R2) :=
  den_Den (kp := kp) (cast (by kernel_rfl) ht)
theorem L2ind (Q : QT) (a0 : Pt) (n0 c0 : Nat) (e0 : Bool) (a5 : Pt) (n5 c5 : Nat) (e5 : Bool) (x6 : Int) {G : Type} (J : G → Int → AHeap → Prop) (m : G → Nat)
 (hr : ∀ (g : G) (x7 : Int) (h : AHeap), J g x7 h → ∀ (R2 : T2), (∀ g' (x7 : Int) (h : AHeap), m g' < m g → J g' x7 h → R2 a0 n0 c0 e0 a5 n5 c5 e5 x6 x7 h) → L2t Q R2 a0 n0 c0 e0 a5 n5 c5 e5 x6 x7 h)
 (g : G) (x7 : Int) (h : AHeap) (hj : J g x7 h) : L2 Q a0 n0 c0 e0 a5 n5 c5 e5 x6 x7 h := by
  refine Loop.inv2 (fun g => E2 fun a0' n0' c0' e0' a5' n5' c5' e5' x6' x7 h => a0 = a0' ∧ n0 = n0' ∧ c0 = c0' ∧ e0 = e0' ∧ a5 = a5' ∧ n5 = n5' ∧ c5 = c5' ∧ e5 = e5' ∧ x6 = x6' ∧ J g x7 h) (fun g => E2 fun a0' n0' c0' e0' a5' n5' c5' e5' x6' x7 h => a0 = a0' ∧ n0 = n0' ∧ c0 = c0' ∧ e0 = e0' ∧ a5 = a5' ∧ n5 = n5' ∧ c5 = c5' ∧ e5 = e5' ∧ x6 = x6' ∧ ∃ g', m g' < m g ∧ J g' x7 h) m ?_ ?_ g ⟨rfl, rfl, rfl, rfl, rfl, rfl, rfl, rfl, rfl, hj⟩
  · intro g env h hi
    obtain ⟨a0', n0', c0', e0', a5', n5', c5', e5', x6', x7, rfl, rfl, rfl, rfl, rfl, rfl, rfl, rfl, rfl, rfl, hj⟩ := E2elim hi
    exact L2den Q _ a0 n0 c0 e0 a5 n5 c5 e5 x6 x7 h (hr g x7 h hj (fun a0' n0' c0' e0' a5' n5' c5' e5' x6' x7 h => a0 = a0' ∧ n0 = n0' ∧ c0 = c0' ∧ e0 = e0' ∧ a5 = a5' ∧ n5 = n5' ∧ c5 = c5' ∧ e5 = e5' ∧ x6 = x6' ∧ ∃ g', m g' < m g ∧ J g' x7 h) fun g' x7 h hlt hj => ⟨rfl, rfl, rfl, rfl, rfl, rfl, rfl, rfl, rfl, g', hlt, hj⟩)
  · intro g env h hi
    obtain ⟨a0', n0', c0', e0', a5', n5', c5', e5', x6', x7, rfl, rfl, rfl, rfl, rfl, rfl, rfl, rfl, rfl, rfl, g', hlt, hj⟩ := E2elim hi
    exact ⟨g', hlt, rfl, rfl, rfl, rfl, rfl, rfl, rfl, rfl, rfl, hj⟩
theorem J6i (Q : QT) (R2 : T2) (x7 x6 : Int) (a5 : Pt) (n5 c5 : Nat) (e5 : Bool) (a0 : Pt) (n0 c0 : Nat) (e0 : Bool) (h : AHeap) (ht :
 R2 a0 n0 c0 e0 a5 n5 c5 e5 x6 (IntKind.wrap .i64 (x7 + 1)) h) : J6 Q R2 x7 x6 a5 n5 c5 e5 a0 n0 c0 e0 h :=
  den_Den (kp := kp) (cast (by kernel_rfl) ht)
theorem A2x0i (Q : QT) (h : AHeap) (ht :
 Q (.bool true) h) : A2x0 Q h :=
  At.mk (cast (by kernel_rfl) ht)
theorem call (a0 : Pt) (n0 c0 : Nat) (e0 : Bool) (h : AHeap) (Q : QT) (ht :
 L2 Q a0 n0 c0 e0 a0 n0 c0 e0 (((n0 : Nat) : Int)) 0 h) : SCall pg n_spec_BindingsValid [.slice a0 n0 c0 e0] h Q :=
  SCall.of_body kp (c := cod fn) (fn := fn) Go.Proofs.Tryz.func153 (by kernel_rfl) (by kernel_rfl) (Nat.le_of_ble_eq_true (by kernel_rfl))
    (cast (by kernel_rfl) ht)
end F_spec_BindingsValid
/-! Function loop.example/instancesearch/spec.l2Put -/
namespace F_spec_l2Put
noncomputable abbrev fn : Func := Go.Proofs.Tryz.f155
def kp : Keeps := [(4000004, [3, 0, 4]), (3000006, [6, 4]), (1000006, [0, 4, 6, 33, 34, 35]), (2000008, [35, 34, 33, 6, 0, 4])]
noncomputable def C (p : List Nat) : Code := (cod fn).sub p
def KR (Q : QT) : KT := retA pg fn.results.toList Q
abbrev T6 := Pt → Nat → Nat → Nat → Nat → Pt → Nat → Nat → Bool → Int → Int → AHeap → Prop
def E6 (R6 : T6) (env : Env) (h : AHeap) : Prop := eVal 0 env fun v env => xPtr (some v) fun a0 => eVal 4 env fun v env => xPtr (some v) fun a => xSome a fun i4 o4 => eVal 6 env fun v env => xPtr (some v) fun a => xSome a fun i6 o6 => eVal 33 env fun v env => xSl (some v) fun a33 n33 c33 e33 => eVal 34 env fun v env => eInt .i64 v fun x34 => eVal 35 env fun v env => eInt .i64 v fun x35 => eNil env (R6 a0 i4 o4 i6 o6 a33 n33 c33 e33 x34 x35 h)
theorem E6elim {R6 : T6} {env : Env} {h : AHeap} (hi : E6 R6 env h) : ∃ a0, ∃ i4, ∃ o4, ∃ i6, ∃ o6, ∃ a33, ∃ n33, ∃ c33, ∃ e33, ∃ x34, ∃ x35, env = [(0, .ptr a0), (4, .ptr (some (i4, o4))), (6, .ptr (some (i6, o6))), (33, .slice a33 n33 c33 e33), (34, .int .i64 x34), (35, .int .i64 x35)] ∧ R6 a0 i4 o4 i6 o6 a33 n33 c33 e33 x34 x35 h := by
  unfold E6 at hi
  have hi0 := hi
  clear hi
  obtain ⟨_, _, rfl, hi1⟩ := eVal_elim hi0
  obtain ⟨a0, rfl, hi2⟩ := xPtr_elim hi1
  obtain ⟨_, _, rfl, hi3⟩ := eVal_elim hi2
  obtain ⟨a, rfl, hi4⟩ := xPtr_elim hi3
  obtain ⟨i4, o4, rfl, hi5⟩ := xSome_elim hi4
  obtain ⟨_, _, rfl, hi6⟩ := eVal_elim hi5
  obtain ⟨a, rfl, hi7⟩ := xPtr_elim hi6
  obtain ⟨i6, o6, rfl, hi8⟩ := xSome_elim hi7
  obtain ⟨_, _, rfl, hi9⟩ := eVal_elim hi8
  obtain ⟨a33, n33, c33, e33, rfl, hi10⟩ := xSl_elim hi9
  obtain ⟨_, _, rfl, hi11⟩ := eVal_elim hi10
  obtain ⟨x34, rfl, hi12⟩ := eInt_elim hi11
  obtain ⟨_, _, rfl, hi13⟩ := eVal_elim hi12
  obtain ⟨x35, rfl, hi14⟩ := eInt_elim hi13
  obtain ⟨rfl, hi15⟩ := eNil_elim hi14
  have hi := hi15
  exact ⟨a0, i4, o4, i6, o6, a33, n33, c33, e33, x34, x35, rfl, hi⟩
def K0 (Q : QT) : KT := andThen (fun env' h' => (match kp.find 4000010 with | some ks => Den pg fn.ntmps (C [1, 1, 1, 1]) (env'.keep ks) h' (KR Q) | none => den pg fn.ntmps kp (C [1, 1, 1, 1]) env' h' (KR Q))) (KR Q)
def K1 (Q : QT) : KT := onExit 0 (K0 Q)
def K2 (Q : QT) : KT := left kp 6 (K1 Q)
def K3 (Q : QT) (R6 : T6) : KT := rnd ((kp.find 1000006).getD []) (E6 R6) (K2 Q)
def J4 (Q : QT) (i3 o3 : Nat) (a0 : Pt) (i4 o4 : Nat) (h : AHeap) : Prop := Den pg fn.ntmps (C [1, 1]) [(3, .ptr (some (i3, o3))), (0, .ptr a0), (4, .ptr (some (i4, o4)))] h (KR Q)
def L6 (Q : QT) (a0 : Pt) (i4 o4 i6 o6 : Nat) (a33 : Pt) (n33 c33 : Nat) (e33 : Bool) (x34 x35 : Int) (h : AHeap) : Prop := Loop (Den pg fn.ntmps (C [1, 1, 1, 0, 1, 0, 0])) ((kp.find 1000006).getD []) (K2 Q) [(0, .ptr a0), (4, .ptr (some (i4, o4))), (6, .ptr (some (i6, o6))), (33, .slice a33 n33 c33 e33), (34, .int .i64 x34), (35, .int .i64 x35)] h
def A6x0 (Q : QT) (i6 o6 i4 o4 : Nat) (h : AHeap) : Prop := At (K1 Q) (.exit 0) [(6, .ptr (some (i6, o6))), (4, .ptr (some (i4, o4)))] h
theorem J4i (Q : QT) (i3 o3 : Nat) (a0 : Pt) (i4 o4 : Nat) (h : AHeap) (ht :
 xInt .u8 (hCell h (.ptr (some (i3, o3 + 0)))) fun X32 => letH (h ++ [.cells t_spec_l1Node [] false]) fun H33 => letH (H33 ++ [.cells t_spec_l1Node [.int .u8 0, .slice none 0 0 true] false]) fun H34 => xHeap (hStore H34 (.ptr (some (H33.length, 0))) [.int .u8 X32, .slice (some (h.length, 0)) 0 0 true]) fun H35 => xSl (hCell H35 (.ptr (some (i3, o3 + 1)))) fun A36 N37 C38 E39 => L6 Q a0 i4 o4 H33.length 0 A36 N37 C38 E39 (((N37 : Nat) : Int)) 0 H35) : J4 Q i3 o3 a0 i4 o4 h :=
  den_Den (kp := kp) (cast (by kernel_rfl) ht)
def L6t (Q : QT) (R6 : T6) (a0 : Pt) (i4 o4 i6 o6 : Nat) (a33 : Pt) (n33 c33 : Nat) (e33 : Bool) (x34 x35 : Int) (h : AHeap) : Prop :=
 bcase (decide ((x35 : Int) < x34)) ((0 ≤ (x35 : Int) ∧ (x35 : Int) < (n33 : Nat)) ∧ (xSome a33 fun I40 O41 => xRow (hRow h (.ptr (some (I40, O41 + (Int.toNat x35) * 2))) 2) fun K42 => xCons K42 fun C43 Z44 => xInt .u8 (some C43) fun X45 => xCons Z44 fun C46 Z47 => xSl (some C46) fun A48 N49 C50 E51 => xNil Z47 (letH (h ++ [.cells t_spec_l1Node [.int .u8 0, .slice none 0 0 true] false]) fun H52 => xHeap (hStore H52 (.ptr (some (h.length, 0))) [.int .u8 X45, .slice A48 N49 C50 E51]) fun H53 => xSl (hCell H53 (.ptr (some (i6, o6 + 1)))) fun A54 N55 C56 E57 => xRow (hRow H53 (.ptr (some (h.length, 0))) 2) fun K58 => xCons K58 fun C59 Z60 => xInt .u8 (some C59) fun X61 => xCons Z60 fun C62 Z63 => xSl (some C62) fun A64 N65 C66 E67 => xNil Z63 ((hCell H53 (.ptr (some (i6, o6 + 1))) = hCell H53 (.ptr (some (i6, o6 + 1)))) ∧ SCall pg n_spec_l2Put [.ptr a0, .agg [.int .u8 X61, .slice A64 N65 C66 E67]] H53 fun V68 H69 =>
 xAgg V68 fun K70 => xCons K70 fun C71 Z72 => xInt .u8 (some C71) fun X73 => xCons Z72 fun C74 Z75 => xSl (some C74) fun A76 N77 C78 E79 => xNil Z75 ((hCell H69 (.ptr (some (i6, o6 + 1))) = hCell H53 (.ptr (some (i6, o6 + 1)))) ∧ letH (H69 ++ [.cells t_spec_l1Node [.int .u8 X73, .slice A76 N77 C78 E79] false]) fun H80 => (hCell H80 (.ptr (some (i6, o6 + 1))) = hCell H69 (.ptr (some (i6, o6 + 1)))) ∧ appendA pg t_L_spec_l1Node H80 (.slice A54 N55 C56 E57) (.slice (some (H69.length, 0)) 1 1 true) fun V81 H82 => xSl (some V81) fun A83 N84 C85 E86 => xHeap (hStore H82 (.ptr (some (i6, o6 + 1))) [.slice A83 N84 C85 E86]) fun H87 => R6 a0 i4 o4 i6 o6 a33 n33 c33 e33 x34 (IntKind.wrap .i64 (x35 + 1)) H87))))) (A6x0 Q i6 o6 i4 o4 h)
theorem L6den (Q : QT) (R6 : T6) (a0 : Pt) (i4 o4 i6 o6 : Nat) (a33 : Pt) (n33 c33 : Nat) (e33 : Bool) (x34 x35 : Int) (h : AHeap) (ht : L6t Q R6 a0 i4 o4 i6 o6 a33 n33 c33 e33 x34 x35 h) : Den pg fn.ntmps (C [1, 1, 1, 0, 1, 0, 0]) [(0, .ptr a0), (4, .ptr (some (i4, o4))), (6, .ptr (some (i6, o6))), (33, .slice a33 n33 c33 e33), (34, .int .i64 x34), (35, .int .i64 x35)] h (K3 Q R6) :=
  den_Den (kp := kp) (cast (by kernel_rfl) ht)
theorem L6ind (Q : QT) (a0 : Pt) (i4 o4 i6 o6 : Nat) (a33 : Pt) (n33 c33 : Nat) (e33 : Bool) (x34 : Int) {G : Type} (J : G → Int → AHeap → Prop) (m : G → Nat)
 (hr : ∀ (g : G) (x35 : Int) (h : AHeap), J g x35 h → ∀ (R6 : T6), (∀ g' (x35 : Int) (h : AHeap), m g' < m g → J g' x35 h → R6 a0 i4 o4 i6 o6 a33 n33 c33 e33 x34 x35 h) → L6t Q R6 a0 i4 o4 i6 o6 a33 n33 c33 e33 x34 x35 h)
 (g : G) (x35 : Int) (h : AHeap) (hj : J g x35 h) : L6 Q a0 i4 o4 i6 o6 a33 n33 c33 e33 x34 x35 h := by
  refine Loop.inv2 (fun g => E6 fun a0' i4' o4' i6' o6' a33' n33' c33' e33' x34' x35 h => a0 = a0' ∧ i4 = i4' ∧ o4 = o4' ∧ i6 = i6' ∧ o6 = o6' ∧ a33 = a33' ∧ n33 = n33' ∧ c33 = c33' ∧ e33 = e33' ∧ x34 = x34' ∧ J g x35 h) (fun g => E6 fun a0' i4' o4' i6' o6' a33' n33' c33' e33' x34' x35 h => a0 = a0' ∧ i4 = i4' ∧ o4 = o4' ∧ i6 = i6' ∧ o6 = o6' ∧ a33 = a33' ∧ n33 = n33' ∧ c33 = c33' ∧ e33 = e33' ∧ x34 = x34' ∧ ∃ g', m g' < m g ∧ J g' x35 h) m ?_ ?_ g ⟨rfl, rfl, rfl, rfl, rfl, rfl, rfl, rfl, rfl, rfl, hj⟩
  · intro g env h hi
    obtain ⟨a0', i4', o4', i6', o6', a33', n33', c33', e33', x34', x35, rfl, rfl, rfl, rfl, rfl, rfl, rfl, rfl, rfl, rfl, rfl, hj⟩ := E6elim hi
    exact L6den Q _ a0 i4 o4 i6 o6 a33 n33 c33 e33 x34 x35 h (hr g x35 h hj (fun a0' i4' o4' i6' o6' a33' n33' c33' e33' x34' x35 h => a0 = a0' ∧ i4 = i4' ∧ o4 = o4' ∧ i6 = i6' ∧ o6 = o6' ∧ a33 = a33' ∧ n33 = n33' ∧ c33 = c33' ∧ e33 = e33' ∧ x34 = x34' ∧ ∃ g', m g' < m g ∧ J g' x35 h) fun g' x35 h hlt hj => ⟨rfl, rfl, rfl, rfl, rfl, rfl, rfl, rfl, rfl, rfl, g', hlt, hj⟩)
  · intro g env h hi
    obtain ⟨a0', i4', o4', i6', o6', a33', n33', c33', e33', x34', x35, rfl, rfl, rfl, rfl, rfl, rfl, rfl, rfl, rfl, rfl, rfl, g', hlt, hj⟩ := E6elim hi
    exact ⟨g', hlt, rfl, rfl, rfl, rfl, rfl, rfl, rfl, rfl, rfl, rfl, hj⟩
theorem A6x0i (Q : QT) (i6 o6 i4 o4 : Nat) (h : AHeap) (ht :
 xRow (hRow h (.ptr (some (i6, o6))) 2) fun K88 => xCons K88 fun C89 Z90 => xInt .u8 (some C89) fun X91 => xCons Z90 fun C92 Z93 => xSl (some C92) fun A94 N95 C96 E97 => xNil Z93 (xHeap (hStore h (.ptr (some (i4, o4))) [.int .u8 X91, .slice A94 N95 C96 E97]) fun H98 => xRow (hRow H98 (.ptr (some (i4, o4))) 2) fun K99 => xCons K99 fun C100 Z101 => xInt .u8 (some C100) fun X102 => xCons Z101 fun C103 Z104 => xSl (some C103) fun A105 N106 C107 E108 => xNil Z104 (Q (.agg [.int .u8 X102, .slice A105 N106 C107 E108]) H98))) : A6x0 Q i6 o6 i4 o4 h :=
  At.mk (cast (by kernel_rfl) ht)
theorem call (a0 : Pt) (x1x0 : Int) (a1x1 : Pt) (n1x1 c1x1 : Nat) (e1x1 : Bool) (h : AHeap) (Q : QT) (ht :
 letH (h ++ [.cells t_spec_l1Node [.int .u8 x1x0, .slice a1x1 n1x1 c1x1 e1x1] false]) fun H0 => letH (H0 ++ [.cells t_spec_l1Node [.int .u8 0, .slice none 0 0 true] false]) fun H1 => xInt .u8 (hCell H1 (.ptr (some (h.length, 0 + 0)))) fun X2 => SCall pg n_spec_l2Index [.int .u8 X2] H1 fun V3 H4 =>
 xInt .i64 (some V3) fun X5 => bcase (decide ((X5 : Int) ≥ 0)) (xSome a0 fun I6 O7 => (0 ≤ (X5 : Int) ∧ (X5 : Int) < (12 : Nat)) ∧ (xInt .u8 (hCell H4 (.ptr (some (I6, O7 + (Int.toNat X5) * 2 + 0)))) fun X8 => bcase (!((X8 : Int) == 0)) (xSome a0 fun I9 O10 => (0 ≤ (X5 : Int) ∧ (X5 : Int) < (12 : Nat)) ∧ (xRow (hRow H4 (.ptr (some (I9, O10 + (Int.toNat X5) * 2))) 2) fun K11 => xCons K11 fun C12 Z13 => xInt .u8 (some C12) fun X14 => xCons Z13 fun C15 Z16 => xSl (some C15) fun A17 N18 C19 E20 => xNil Z16 (xHeap (hStore H4 (.ptr (some (H0.length, 0))) [.int .u8 X14, .slice A17 N18 C19 E20]) fun H21 => xRow (hRow H21 (.ptr (some (H0.length, 0))) 2) fun K22 => xCons K22 fun C23 Z24 => xInt .u8 (some C23) fun X25 => xCons Z24 fun C26 Z27 => xSl (some C26) fun A28 N29 C30 E31 => xNil Z27 (Q (.agg [.int .u8 X25, .slice A28 N29 C30 E31]) H21)))) (J4 Q h.length 0 a0 H0.length 0 H4))) (J4 Q h.length 0 a0 H0.length 0 H4)) : SCall pg n_spec_l2Put [.ptr a0, .agg [.int .u8 x1x0, .slice a1x1 n1x1 c1x1 e1x1]] h Q :=
  SCall.of_body kp (c := cod fn) (fn := fn) Go.Proofs.Tryz.func155 (by kernel_rfl) (by kernel_rfl) (Nat.le_of_ble_eq_true (by kernel_rfl))
    (cast (by kernel_rfl) ht)
end F_spec_l2Put
end Go.Sim
