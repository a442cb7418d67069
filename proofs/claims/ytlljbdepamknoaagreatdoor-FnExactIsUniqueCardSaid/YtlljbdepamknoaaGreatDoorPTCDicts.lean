/- A part of the proof of a statement of this seat: see the text that holds the theorem. No condition. -/
import Derived.Test.YtlljbdepamknoaaGreatDoorNm
set_option linter.unusedVariables false
set_option linter.unusedSimpArgs false
set_option linter.all false
set_option maxRecDepth 100000
set_option linter.unusedVariables false
namespace Go.Sim
open Go Go.RowKit
namespace Zjj
noncomputable abbrev fn : Func := Go.Proofs.Tryz.f7
def kp : Zcd := [(2000008, [3, 4, 2, 8]), (2000010, [10, 8, 9, 3]), (2000013, [41])]
noncomputable def C (p : List Nat) : Code := (cod fn).sub p
def KR (Q : QT) : KT := Zem pg fn.results.toList Q
theorem call (a0x0 : Pt) (n0x0 c0x0 : Nat) (e0x0 : Bool) (a0x1 : Pt) (n0x1 c0x1 : Nat) (e0x1 : Bool) (x1x0 x1x1 : List Nat) (x2 : Int) (h : Zaa) (Q : QT) (ht :
 Zcn (h ++ [.cells Zek [.slice a0x0 n0x0 c0x0 e0x0, .slice a0x1 n0x1 c0x1 e0x1] false]) fun H0 => Zcn (H0 ++ [.cells Zjz [.str x1x0, .str x1x1] false]) fun H1 => Zcz (Zbx H1 (.ptr (some (h.length, 0))) 2) fun K2 => Zao K2 fun C3 Z4 => xSl (some C3) fun A5 N6 C7 E8 => Zao Z4 fun C9 Z10 => xSl (some C9) fun A11 N12 C13 E14 => Zcl Z10 (Zae pg Zmq [.agg [.slice A5 N6 C7 E8, .slice A11 N12 C13 E14], .int .i64 1048576] H1 fun V15 H16 =>
 Zen .i64 (some V15) fun X17 => bcase (decide ((X17 : Int) < 0)) (Q (.bool true) H16) (Zcz (Zbx H16 (.ptr (some (H0.length, 0))) 2) fun K18 => Zao K18 fun C19 Z20 => Zbp (some C19) fun S21 => Zao Z20 fun C22 Z23 => Zbp (some C22) fun S24 => Zcl Z23 (Zae pg Zis [.agg [.str S21, .str S24], .int .i64 X17] H16 fun V25 H26 =>
 Zen .i64 (some V25) fun X27 => bcase (decide ((X27 : Int) < 0)) (Q (.bool true) H26) (Zcz (Zbx H26 (.ptr (some (h.length, 0))) 2) fun K28 => Zao K28 fun C29 Z30 => xSl (some C29) fun A31 N32 C33 E34 => Zao Z30 fun C35 Z36 => xSl (some C35) fun A37 N38 C39 E40 => Zcl Z36 (Zcz (Zbx H26 (.ptr (some (H0.length, 0))) 2) fun K41 => Zao K41 fun C42 Z43 => Zbp (some C42) fun S44 => Zao Z43 fun C45 Z46 => Zbp (some C45) fun S47 => Zcl Z46 (Zae pg Zhp [.agg [.slice A31 N32 C33 E34, .slice A37 N38 C39 E40]] H26 fun V48 H49 =>
 Zue V48 fun K50 => Zao K50 fun C51 Z52 => xSl (some C51) fun A53 N54 C55 E56 => Zao Z52 fun C57 Z58 => xSl (some C57) fun A59 N60 C61 E62 => Zcl Z58 ((Zbx H49 (.ptr (some (H0.length, 0))) 2 = Zbx H26 (.ptr (some (H0.length, 0))) 2) ∧ Zae pg Zgy [.agg [.str S44, .str S47]] H49 fun V63 H64 =>
 Zue V63 fun K65 => Zao K65 fun C66 Z67 => Zbp (some C66) fun S68 => Zao Z67 fun C69 Z70 => Zbp (some C69) fun S71 => Zcl Z70 ((Zbx H64 (.ptr (some (h.length, 0))) 2 = Zbx H49 (.ptr (some (h.length, 0))) 2) ∧ Zae pg Zlk [.agg [.slice A53 N54 C55 E56, .slice A59 N60 C61 E62], .agg [.str S68, .str S71], .int .i64 x2] H64 fun V72 H73 =>
 Zch (some V72) fun B74 => (Zbx H73 (.ptr (some (H0.length, 0))) 2 = Zbx H64 (.ptr (some (H0.length, 0))) 2) ∧ (Zbx H73 (.ptr (some (h.length, 0))) 2 = Zbx H64 (.ptr (some (h.length, 0))) 2) ∧ Zcz (Zbx H73 (.ptr (some (h.length, 0))) 2) fun K75 => Zao K75 fun C76 Z77 => xSl (some C76) fun A78 N79 C80 E81 => Zao Z77 fun C82 Z83 => xSl (some C82) fun A84 N85 C86 E87 => Zcl Z83 (Zae pg Zhp [.agg [.slice A78 N79 C80 E81, .slice A84 N85 C86 E87]] H73 fun V88 H89 =>
 Zue V88 fun K90 => Zao K90 fun C91 Z92 => xSl (some C91) fun A93 N94 C95 E96 => Zao Z92 fun C97 Z98 => xSl (some C97) fun A99 N100 C101 E102 => Zcl Z98 (Zcn (H89 ++ [.cells Zaj [.slice none 0 0 true, .slice none 0 0 true] false]) fun H103 => Zcp (Zbn H103 (.ptr (some (H89.length, 0))) [.slice A93 N94 C95 E96, .slice A99 N100 C101 E102]) fun H104 => Zcz (Zbx H104 (.ptr (some (H89.length, 0))) 2) fun K105 => Zao K105 fun C106 Z107 => xSl (some C106) fun A108 N109 C110 E111 => Zao Z107 fun C112 Z113 => xSl (some C112) fun A114 N115 C116 E117 => Zcl Z113 (Zcz (Zbx H104 (.ptr (some (H0.length, 0))) 2) fun K118 => Zao K118 fun C119 Z120 => Zbp (some C119) fun S121 => Zao Z120 fun C122 Z123 => Zbp (some C122) fun S124 => Zcl Z123 ((Zbx H104 (.ptr (some (H89.length, 0))) 2 = Zbx H104 (.ptr (some (H89.length, 0))) 2) ∧ Zae pg Zgy [.agg [.str S121, .str S124]] H104 fun V125 H126 =>
 Zue V125 fun K127 => Zao K127 fun C128 Z129 => Zbp (some C128) fun S130 => Zao Z129 fun C131 Z132 => Zbp (some C131) fun S133 => Zcl Z132 ((Zbx H126 (.ptr (some (H89.length, 0))) 2 = Zbx H104 (.ptr (some (H89.length, 0))) 2) ∧ Zae pg Zkz [.agg [.slice A108 N109 C110 E111, .slice A114 N115 C116 E117], .agg [.str S130, .str S133], .int .i64 x2] H126 fun V134 H135 =>
 Zch (some V134) fun B136 => bcase (!(B136 == B74)) (Q (.bool false) H135) (Zcz (Zbx H135 (.ptr (some (H89.length, 0))) 2) fun K137 => Zao K137 fun C138 Z139 => xSl (some C138) fun A140 N141 C142 E143 => Zao Z139 fun C144 Z145 => xSl (some C144) fun A146 N147 C148 E149 => Zcl Z145 (Zcz (Zbx H135 (.ptr (some (h.length, 0))) 2) fun K150 => Zao K150 fun C151 Z152 => xSl (some C151) fun A153 N154 C155 E156 => Zao Z152 fun C157 Z158 => xSl (some C157) fun A159 N160 C161 E162 => Zcl Z158 ((Zbx H135 (.ptr (some (H89.length, 0))) 2 = Zbx H135 (.ptr (some (H89.length, 0))) 2) ∧ Zae pg Zhp [.agg [.slice A153 N154 C155 E156, .slice A159 N160 C161 E162]] H135 fun V163 H164 =>
 Zue V163 fun K165 => Zao K165 fun C166 Z167 => xSl (some C166) fun A168 N169 C170 E171 => Zao Z167 fun C172 Z173 => xSl (some C172) fun A174 N175 C176 E177 => Zcl Z173 ((Zbx H164 (.ptr (some (H89.length, 0))) 2 = Zbx H135 (.ptr (some (H89.length, 0))) 2) ∧ Zae pg Zmk [.agg [.slice A140 N141 C142 E143, .slice A146 N147 C148 E149], .agg [.slice A168 N169 C170 E171, .slice A174 N175 C176 E177]] H164 fun V178 H179 =>
 Zch (some V178) fun B180 => bcase (!B180) (Q (.bool false) H179) (Q (.bool true) H179))))))))))))))))))) : Zae pg Zjh [.agg [.slice a0x0 n0x0 c0x0 e0x0, .slice a0x1 n0x1 c0x1 e0x1], .agg [.str x1x0, .str x1x1], .int .i64 x2] h Q :=
 Zae.of_body kp (c := cod fn) (fn := fn) Go.Proofs.Tryz.func7 (by kernel_rfl) (by kernel_rfl) (Nat.le_of_ble_eq_true (by kernel_rfl))
  (cast (by kernel_rfl) ht)
end Zjj
end Go.Sim

set_option maxRecDepth 100000
set_option linter.unusedVariables false
namespace Go.Sim
open Go Go.RowKit
namespace Zln
noncomputable abbrev fn : Func := Go.Proofs.Tryz.f47
def kp : Zcd := [(4000003, [3, 4, 2])]
noncomputable def C (p : List Nat) : Code := (cod fn).sub p
def KR (Q : QT) : KT := Zem pg fn.results.toList Q
def J3 (Q : QT) (i3 o3 i4 o4 : Nat) (x2 : Int) (h : Zaa) : Prop := Den pg fn.ntmps (C [1, 1]) [(3, .ptr (some (i3, o3))), (4, .ptr (some (i4, o4))), (2, .int .i64 x2)] h (KR Q)
theorem J3i (Q : QT) (i3 o3 i4 o4 : Nat) (x2 : Int) (h : Zaa) (ht :
 Zcz (Zbx h (.ptr (some (i3, o3))) 2) fun K25 => Zao K25 fun C26 Z27 => xSl (some C26) fun A28 N29 C30 E31 => Zao Z27 fun C32 Z33 => xSl (some C32) fun A34 N35 C36 E37 => Zcl Z33 (Zae pg Ztz [.agg [.slice A28 N29 C30 E31, .slice A34 N35 C36 E37]] h fun V38 H39 =>
 Zgg (some V38) fun A40 => Zcz (Zbx H39 (.ptr (some (i4, o4))) 2) fun K41 => Zao K41 fun C42 Z43 => Zbp (some C42) fun S44 => Zao Z43 fun C45 Z46 => Zbp (some C45) fun S47 => Zcl Z46 (Zae pg Zix [.ptr A40, .agg [.str S44, .str S47], .int .i64 x2] H39 fun V48 H49 =>
 xSl (some V48) fun A50 N51 C52 E53 => Zbl A40 fun I54 O55 => Zch (Zal H49 (.ptr (some (I54, O55 + 4)))) fun B56 => bcase (!B56) (Q (.tup [.slice none 0 0 true, .bool false]) H49) (Zae pg Zdp [.slice A50 N51 C52 E53] H49 fun V57 H58 =>
 xSl (some V57) fun A59 N60 C61 E62 => Q (.tup [.slice A59 N60 C61 E62, .bool true]) H58)))) : J3 Q i3 o3 i4 o4 x2 h :=
 Zbb (kp := kp) (cast (by kernel_rfl) ht)
theorem call (a0x0 : Pt) (n0x0 c0x0 : Nat) (e0x0 : Bool) (a0x1 : Pt) (n0x1 c0x1 : Nat) (e0x1 : Bool) (x1x0 x1x1 : List Nat) (x2 : Int) (h : Zaa) (Q : QT) (ht :
 Zcn (h ++ [.cells Zaj [.slice a0x0 n0x0 c0x0 e0x0, .slice a0x1 n0x1 c0x1 e0x1] false]) fun H0 => Zcn (H0 ++ [.cells Zad [.str x1x0, .str x1x1] false]) fun H1 => Zcz (Zbx H1 (.ptr (some (h.length, 0))) 2) fun K2 => Zao K2 fun C3 Z4 => xSl (some C3) fun A5 N6 C7 E8 => Zao Z4 fun C9 Z10 => xSl (some C9) fun A11 N12 C13 E14 => Zcl Z10 (Zcz (Zbx H1 (.ptr (some (H0.length, 0))) 2) fun K15 => Zao K15 fun C16 Z17 => Zbp (some C16) fun S18 => Zao Z17 fun C19 Z20 => Zbp (some C19) fun S21 => Zcl Z20 (Zae pg Zkl [.agg [.slice A5 N6 C7 E8, .slice A11 N12 C13 E14], .agg [.str S18, .str S21]] H1 fun V22 H23 =>
 Zch (some V22) fun B24 => bcase (!B24) (Q (.tup [.slice none 0 0 true, .bool false]) H23) (bcase (decide ((x2 : Int) < 0)) (Q (.tup [.slice none 0 0 true, .bool false]) H23) (bcase (decide ((x2 : Int) > 6)) (Q (.tup [.slice none 0 0 true, .bool false]) H23) (J3 Q h.length 0 H0.length 0 x2 H23)))))) : Zae pg Zlg [.agg [.slice a0x0 n0x0 c0x0 e0x0, .slice a0x1 n0x1 c0x1 e0x1], .agg [.str x1x0, .str x1x1], .int .i64 x2] h Q :=
 Zae.of_body kp (c := cod fn) (fn := fn) Go.Proofs.Tryz.func47 (by kernel_rfl) (by kernel_rfl) (Nat.le_of_ble_eq_true (by kernel_rfl))
  (cast (by kernel_rfl) ht)
end Zln
namespace Zmy
noncomputable abbrev fn : Func := Go.Proofs.Tryz.f25
def kp : Zcd := []
noncomputable def C (p : List Nat) : Code := (cod fn).sub p
def KR (Q : QT) : KT := Zem pg fn.results.toList Q
theorem call (a0x0 : Pt) (n0x0 c0x0 : Nat) (e0x0 : Bool) (a0x1 : Pt) (n0x1 c0x1 : Nat) (e0x1 : Bool) (x1x0 x1x1 : List Nat) (x2 : Int) (h : Zaa) (Q : QT) (ht :
 Zcn (h ++ [.cells Zaj [.slice a0x0 n0x0 c0x0 e0x0, .slice a0x1 n0x1 c0x1 e0x1] false]) fun H0 => Zcn (H0 ++ [.cells Zad [.str x1x0, .str x1x1] false]) fun H1 => Zcz (Zbx H1 (.ptr (some (h.length, 0))) 2) fun K2 => Zao K2 fun C3 Z4 => xSl (some C3) fun A5 N6 C7 E8 => Zao Z4 fun C9 Z10 => xSl (some C9) fun A11 N12 C13 E14 => Zcl Z10 (Zcz (Zbx H1 (.ptr (some (H0.length, 0))) 2) fun K15 => Zao K15 fun C16 Z17 => Zbp (some C16) fun S18 => Zao Z17 fun C19 Z20 => Zbp (some C19) fun S21 => Zcl Z20 (Zae pg Zlg [.agg [.slice A5 N6 C7 E8, .slice A11 N12 C13 E14], .agg [.str S18, .str S21], .int .i64 x2] H1 fun V22 H23 =>
 Ztq V22 fun K24 => Zao K24 fun C25 Z26 => xSl (some C25) fun A27 N28 C29 E30 => Zao Z26 fun C31 Z32 => Zch (some C31) fun B33 => Zcl Z32 (bcase (!B33) (Q (.int .i64 (-1)) H23) (Q (.int .i64 (((N28 : Nat) : Int))) H23))))) : Zae pg Zjv [.agg [.slice a0x0 n0x0 c0x0 e0x0, .slice a0x1 n0x1 c0x1 e0x1], .agg [.str x1x0, .str x1x1], .int .i64 x2] h Q :=
 Zae.of_body kp (c := cod fn) (fn := fn) Go.Proofs.Tryz.func25 (by kernel_rfl) (by kernel_rfl) (Nat.le_of_ble_eq_true (by kernel_rfl))
  (cast (by kernel_rfl) ht)
end Zmy
namespace Zps
noncomputable abbrev fn : Func := Go.Proofs.Tryz.f27
def kp : Zcd := []
noncomputable def C (p : List Nat) : Code := (cod fn).sub p
def KR (Q : QT) : KT := Zem pg fn.results.toList Q
theorem call (a0x0 : Pt) (n0x0 c0x0 : Nat) (e0x0 : Bool) (a0x1 : Pt) (n0x1 c0x1 : Nat) (e0x1 : Bool) (x1x0 x1x1 : List Nat) (x2 : Int) (h : Zaa) (Q : QT) (ht :
 Zcn (h ++ [.cells Zaj [.slice a0x0 n0x0 c0x0 e0x0, .slice a0x1 n0x1 c0x1 e0x1] false]) fun H0 => Zcn (H0 ++ [.cells Zad [.str x1x0, .str x1x1] false]) fun H1 => Zcz (Zbx H1 (.ptr (some (h.length, 0))) 2) fun K2 => Zao K2 fun C3 Z4 => xSl (some C3) fun A5 N6 C7 E8 => Zao Z4 fun C9 Z10 => xSl (some C9) fun A11 N12 C13 E14 => Zcl Z10 (Zcz (Zbx H1 (.ptr (some (H0.length, 0))) 2) fun K15 => Zao K15 fun C16 Z17 => Zbp (some C16) fun S18 => Zao Z17 fun C19 Z20 => Zbp (some C19) fun S21 => Zcl Z20 (Zae pg Zjv [.agg [.slice A5 N6 C7 E8, .slice A11 N12 C13 E14], .agg [.str S18, .str S21], .int .i64 x2] H1 fun V22 H23 =>
 Zen .i64 (some V22) fun X24 => Q (.bool ((X24 : Int) == 1)) H23))) : Zae pg Zkz [.agg [.slice a0x0 n0x0 c0x0 e0x0, .slice a0x1 n0x1 c0x1 e0x1], .agg [.str x1x0, .str x1x1], .int .i64 x2] h Q :=
 Zae.of_body kp (c := cod fn) (fn := fn) Go.Proofs.Tryz.func27 (by kernel_rfl) (by kernel_rfl) (Nat.le_of_ble_eq_true (by kernel_rfl))
  (cast (by kernel_rfl) ht)
end Zps
namespace Zmc
noncomputable abbrev fn : Func := Go.Proofs.Tryz.f77
def kp : Zcd := [(2000004, [6, 7])]
noncomputable def C (p : List Nat) : Code := (cod fn).sub p
def KR (Q : QT) : KT := Zem pg fn.results.toList Q
theorem call (a0 : Pt) (x1x0 x1x1 : List Nat) (x2 : Int) (h : Zaa) (Q : QT) (ht :
 Zcn (h ++ [.cells Zad [.str x1x0, .str x1x1] false]) fun H0 => Zcz (Zbx H0 (.ptr (some (h.length, 0))) 2) fun K1 => Zao K1 fun C2 Z3 => Zbp (some C2) fun S4 => Zao Z3 fun C5 Z6 => Zbp (some C5) fun S7 => Zcl Z6 (Zae pg Zpa [.agg [.str S4, .str S7], .int .i64 x2] H0 fun V8 H9 =>
 Zbp (some V8) fun S10 => Zae pg Zjp [.ptr a0, .str S10] H9 fun V11 H12 =>
 Zen .i64 (some V11) fun X13 => bcase (decide ((X13 : Int) ≥ 0)) (Zbl a0 fun I14 O15 => Zbl a0 fun I16 O17 => xSl (Zal H12 (.ptr (some (I14, O15 + 3)))) fun A18 N19 C20 E21 => (0 ≤ (X13 : Int) ∧ (X13 : Int) < (N19 : Nat)) ∧ (Zbl A18 fun I22 O23 => xSl (Zal H12 (.ptr (some (I22, O23 + (Int.toNat X13) * 1)))) fun A24 N25 C26 E27 => xSl (Zal H12 (.ptr (some (I16, O17 + 4)))) fun A28 N29 C30 E31 => (Zal H12 (.ptr (some (I22, O23 + (Int.toNat X13) * 1))) = Zal H12 (.ptr (some (I22, O23 + (Int.toNat X13) * 1)))) ∧ (Zal H12 (.ptr (some (I14, O15 + 3))) = Zal H12 (.ptr (some (I14, O15 + 3)))) ∧ (0 ≤ (X13 : Int) ∧ (X13 : Int) < (N29 : Nat)) ∧ (Zbl A28 fun I32 O33 => Zch (Zal H12 (.ptr (some (I32, O33 + (Int.toNat X13) * 1)))) fun B34 => (Zal H12 (.ptr (some (I22, O23 + (Int.toNat X13) * 1))) = Zal H12 (.ptr (some (I22, O23 + (Int.toNat X13) * 1)))) ∧ (Zal H12 (.ptr (some (I14, O15 + 3))) = Zal H12 (.ptr (some (I14, O15 + 3)))) ∧ Q (.tup [.slice A24 N25 C26 E27, .bool B34]) H12))) (Zcz (Zbx H12 (.ptr (some (h.length, 0))) 2) fun K35 => Zao K35 fun C36 Z37 => Zbp (some C36) fun S38 => Zao Z37 fun C39 Z40 => Zbp (some C39) fun S41 => Zcl Z40 (Zae pg Zhz [.ptr a0, .agg [.str S38, .str S41], .int .i64 x2] H12 fun V42 H43 =>
 Ztq V42 fun K44 => Zao K44 fun C45 Z46 => xSl (some C45) fun A47 N48 C49 E50 => Zao Z46 fun C51 Z52 => Zch (some C51) fun B53 => Zcl Z52 (Zae pg Zij [.ptr a0, .str S10, .slice A47 N48 C49 E50, .bool B53] H43 fun V54 H55 =>
 Q (.tup [.slice A47 N48 C49 E50, .bool B53]) H55))))) : Zae pg Zge [.ptr a0, .agg [.str x1x0, .str x1x1], .int .i64 x2] h Q :=
 Zae.of_body kp (c := cod fn) (fn := fn) Go.Proofs.Tryz.func77 (by kernel_rfl) (by kernel_rfl) (Nat.le_of_ble_eq_true (by kernel_rfl))
  (cast (by kernel_rfl) ht)
end Zmc
namespace Zpc
noncomputable abbrev fn : Func := Go.Proofs.Tryz.f46
def kp : Zcd := []
noncomputable def C (p : List Nat) : Code := (cod fn).sub p
def KR (Q : QT) : KT := Zem pg fn.results.toList Q
theorem call (a0x0 : Pt) (n0x0 c0x0 : Nat) (e0x0 : Bool) (a0x1 : Pt) (n0x1 c0x1 : Nat) (e0x1 : Bool) (x1x0 x1x1 : List Nat) (x2 : Int) (h : Zaa) (Q : QT) (ht :
 Zcn (h ++ [.cells Zaj [.slice a0x0 n0x0 c0x0 e0x0, .slice a0x1 n0x1 c0x1 e0x1] false]) fun H0 => Zcn (H0 ++ [.cells Zad [.str x1x0, .str x1x1] false]) fun H1 => Zcz (Zbx H1 (.ptr (some (h.length, 0))) 2) fun K2 => Zao K2 fun C3 Z4 => xSl (some C3) fun A5 N6 C7 E8 => Zao Z4 fun C9 Z10 => xSl (some C9) fun A11 N12 C13 E14 => Zcl Z10 (Zae pg Zil [.agg [.slice A5 N6 C7 E8, .slice A11 N12 C13 E14]] H1 fun V15 H16 =>
 Zue V15 fun K17 => Zao K17 fun C18 Z19 => xSl (some C18) fun A20 N21 C22 E23 => Zao Z19 fun C24 Z25 => xSl (some C24) fun A26 N27 C28 E29 => Zcl Z25 (Zcp (Zbn H16 (.ptr (some (h.length, 0))) [.slice A20 N21 C22 E23, .slice A26 N27 C28 E29]) fun H30 => Zcz (Zbx H30 (.ptr (some (h.length, 0))) 2) fun K31 => Zao K31 fun C32 Z33 => xSl (some C32) fun A34 N35 C36 E37 => Zao Z33 fun C38 Z39 => xSl (some C38) fun A40 N41 C42 E43 => Zcl Z39 (Zcz (Zbx H30 (.ptr (some (H0.length, 0))) 2) fun K44 => Zao K44 fun C45 Z46 => Zbp (some C45) fun S47 => Zao Z46 fun C48 Z49 => Zbp (some C48) fun S50 => Zcl Z49 (Zae pg Zmt [.agg [.slice A34 N35 C36 E37, .slice A40 N41 C42 E43], .agg [.str S47, .str S50], .int .i64 x2] H30 fun V51 H52 =>
 Zch (some V51) fun B53 => bcase (!B53) (Zcn (H52 ++ [.cells Zaz [] false]) fun H54 => Q (.tup [.slice (some (H52.length, 0)) 0 0 true, .bool false]) H54) (Zcz (Zbx H52 (.ptr (some (h.length, 0))) 2) fun K55 => Zao K55 fun C56 Z57 => xSl (some C56) fun A58 N59 C60 E61 => Zao Z57 fun C62 Z63 => xSl (some C62) fun A64 N65 C66 E67 => Zcl Z63 (Zcn (H52 ++ [.cells Zby [.slice A58 N59 C60 E61, .slice A64 N65 C66 E67, .slice none 0 0 true, .slice none 0 0 true, .slice none 0 0 true] false]) fun H68 => Zcz (Zbx H68 (.ptr (some (H0.length, 0))) 2) fun K69 => Zao K69 fun C70 Z71 => Zbp (some C70) fun S72 => Zao Z71 fun C73 Z74 => Zbp (some C73) fun S75 => Zcl Z74 (Zae pg Zge [.ptr (some (H52.length, 0)), .agg [.str S72, .str S75], .int .i64 x2] H68 fun V76 H77 =>
 Ztq V76 fun K78 => Zao K78 fun C79 Z80 => xSl (some C79) fun A81 N82 C83 E84 => Zao Z80 fun C85 Z86 => Zch (some C85) fun B87 => Zcl Z86 (Q (.tup [.slice A81 N82 C83 E84, .bool B87]) H77))))))))) : Zae pg Zlr [.agg [.slice a0x0 n0x0 c0x0 e0x0, .slice a0x1 n0x1 c0x1 e0x1], .agg [.str x1x0, .str x1x1], .int .i64 x2] h Q :=
 Zae.of_body kp (c := cod fn) (fn := fn) Go.Proofs.Tryz.func46 (by kernel_rfl) (by kernel_rfl) (Nat.le_of_ble_eq_true (by kernel_rfl))
  (cast (by kernel_rfl) ht)
end Zpc
namespace Zqw
noncomputable abbrev fn : Func := Go.Proofs.Tryz.f76
def kp : Zcd := []
noncomputable def C (p : List Nat) : Code := (cod fn).sub p
def KR (Q : QT) : KT := Zem pg fn.results.toList Q
theorem call (a0x0 : Pt) (n0x0 c0x0 : Nat) (e0x0 : Bool) (a0x1 : Pt) (n0x1 c0x1 : Nat) (e0x1 : Bool) (x1x0 x1x1 : List Nat) (x2 : Int) (h : Zaa) (Q : QT) (ht :
 Zcn (h ++ [.cells Zaj [.slice a0x0 n0x0 c0x0 e0x0, .slice a0x1 n0x1 c0x1 e0x1] false]) fun H0 => Zcn (H0 ++ [.cells Zad [.str x1x0, .str x1x1] false]) fun H1 => Zcz (Zbx H1 (.ptr (some (h.length, 0))) 2) fun K2 => Zao K2 fun C3 Z4 => xSl (some C3) fun A5 N6 C7 E8 => Zao Z4 fun C9 Z10 => xSl (some C9) fun A11 N12 C13 E14 => Zcl Z10 (Zcz (Zbx H1 (.ptr (some (H0.length, 0))) 2) fun K15 => Zao K15 fun C16 Z17 => Zbp (some C16) fun S18 => Zao Z17 fun C19 Z20 => Zbp (some C19) fun S21 => Zcl Z20 (Zae pg Zki [.agg [.slice A5 N6 C7 E8, .slice A11 N12 C13 E14], .agg [.str S18, .str S21]] H1 fun V22 H23 =>
 Zch (some V22) fun B24 => bcase B24 (Zae pg Zlc [.int .i64 x2, .int .i64 0, .int .i64 6] H23 fun V25 H26 =>
 Zch (some V25) fun B27 => Q (.bool B27) H26) (Q (.bool false) H23)))) : Zae pg Zmt [.agg [.slice a0x0 n0x0 c0x0 e0x0, .slice a0x1 n0x1 c0x1 e0x1], .agg [.str x1x0, .str x1x1], .int .i64 x2] h Q :=
 Zae.of_body kp (c := cod fn) (fn := fn) Go.Proofs.Tryz.func76 (by kernel_rfl) (by kernel_rfl) (Nat.le_of_ble_eq_true (by kernel_rfl))
  (cast (by kernel_rfl) ht)
end Zqw
namespace Znf
noncomputable abbrev fn : Func := Go.Proofs.Tryz.f24
def kp : Zcd := []
noncomputable def C (p : List Nat) : Code := (cod fn).sub p
def KR (Q : QT) : KT := Zem pg fn.results.toList Q
theorem call (a0x0 : Pt) (n0x0 c0x0 : Nat) (e0x0 : Bool) (a0x1 : Pt) (n0x1 c0x1 : Nat) (e0x1 : Bool) (x1x0 x1x1 : List Nat) (x2 : Int) (h : Zaa) (Q : QT) (ht :
 Zcn (h ++ [.cells Zaj [.slice a0x0 n0x0 c0x0 e0x0, .slice a0x1 n0x1 c0x1 e0x1] false]) fun H0 => Zcn (H0 ++ [.cells Zad [.str x1x0, .str x1x1] false]) fun H1 => Zcz (Zbx H1 (.ptr (some (h.length, 0))) 2) fun K2 => Zao K2 fun C3 Z4 => xSl (some C3) fun A5 N6 C7 E8 => Zao Z4 fun C9 Z10 => xSl (some C9) fun A11 N12 C13 E14 => Zcl Z10 (Zcz (Zbx H1 (.ptr (some (H0.length, 0))) 2) fun K15 => Zao K15 fun C16 Z17 => Zbp (some C16) fun S18 => Zao Z17 fun C19 Z20 => Zbp (some C19) fun S21 => Zcl Z20 (Zae pg Zlr [.agg [.slice A5 N6 C7 E8, .slice A11 N12 C13 E14], .agg [.str S18, .str S21], .int .i64 x2] H1 fun V22 H23 =>
 Ztq V22 fun K24 => Zao K24 fun C25 Z26 => xSl (some C25) fun A27 N28 C29 E30 => Zao Z26 fun C31 Z32 => Zch (some C31) fun B33 => Zcl Z32 (bcase (!B33) (Q (.int .i64 (-1)) H23) (Q (.int .i64 (((N28 : Nat) : Int))) H23))))) : Zae pg Zjy [.agg [.slice a0x0 n0x0 c0x0 e0x0, .slice a0x1 n0x1 c0x1 e0x1], .agg [.str x1x0, .str x1x1], .int .i64 x2] h Q :=
 Zae.of_body kp (c := cod fn) (fn := fn) Go.Proofs.Tryz.func24 (by kernel_rfl) (by kernel_rfl) (Nat.le_of_ble_eq_true (by kernel_rfl))
  (cast (by kernel_rfl) ht)
end Znf
namespace Zpo
noncomputable abbrev fn : Func := Go.Proofs.Tryz.f26
def kp : Zcd := []
noncomputable def C (p : List Nat) : Code := (cod fn).sub p
def KR (Q : QT) : KT := Zem pg fn.results.toList Q
theorem call (a0x0 : Pt) (n0x0 c0x0 : Nat) (e0x0 : Bool) (a0x1 : Pt) (n0x1 c0x1 : Nat) (e0x1 : Bool) (x1x0 x1x1 : List Nat) (x2 : Int) (h : Zaa) (Q : QT) (ht :
 Zcn (h ++ [.cells Zaj [.slice a0x0 n0x0 c0x0 e0x0, .slice a0x1 n0x1 c0x1 e0x1] false]) fun H0 => Zcn (H0 ++ [.cells Zad [.str x1x0, .str x1x1] false]) fun H1 => Zcz (Zbx H1 (.ptr (some (h.length, 0))) 2) fun K2 => Zao K2 fun C3 Z4 => xSl (some C3) fun A5 N6 C7 E8 => Zao Z4 fun C9 Z10 => xSl (some C9) fun A11 N12 C13 E14 => Zcl Z10 (Zcz (Zbx H1 (.ptr (some (H0.length, 0))) 2) fun K15 => Zao K15 fun C16 Z17 => Zbp (some C16) fun S18 => Zao Z17 fun C19 Z20 => Zbp (some C19) fun S21 => Zcl Z20 (Zae pg Zjy [.agg [.slice A5 N6 C7 E8, .slice A11 N12 C13 E14], .agg [.str S18, .str S21], .int .i64 x2] H1 fun V22 H23 =>
 Zen .i64 (some V22) fun X24 => Q (.bool ((X24 : Int) == 1)) H23))) : Zae pg Zlk [.agg [.slice a0x0 n0x0 c0x0 e0x0, .slice a0x1 n0x1 c0x1 e0x1], .agg [.str x1x0, .str x1x1], .int .i64 x2] h Q :=
 Zae.of_body kp (c := cod fn) (fn := fn) Go.Proofs.Tryz.func26 (by kernel_rfl) (by kernel_rfl) (Nat.le_of_ble_eq_true (by kernel_rfl))
  (cast (by kernel_rfl) ht)
end Zpo
end Go.Sim
