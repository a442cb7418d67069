/- A part of the proof of a statement of this seat: see the text that holds the theorem. No condition. -/
import Derived.Test.YtlljbdepamknoaaGreatDoorNm
set_option linter.unusedVariables false
set_option linter.unusedSimpArgs false
set_option linter.all false
/- Printed by wip/tool: what the functions' bodies do, in the words of 'den'. -/
set_option maxRecDepth 100000
set_option linter.unusedVariables false
namespace Go.Sim
open Go Go.RowKit
/-! Function loop.example/instancesearch/laws.FnExactLevelOf -/
namespace F_laws_FnExactLevelOf
noncomputable abbrev fn : Func := Go.Proofs.Tryz.f3
def kp : Keeps := [(2000008, [2, 3, 6]), (2000010, [8, 6, 7, 2]), (2000013, [37])]
noncomputable def C (p : List Nat) : Code := (cod fn).sub p
def KR (Q : QT) : KT := retA pg fn.results.toList Q
theorem call (a0x0 : Pt) (n0x0 c0x0 : Nat) (e0x0 : Bool) (a0x1 : Pt) (n0x1 c0x1 : Nat) (e0x1 : Bool) (x1x0 x1x1 : List Nat) (h : AHeap) (Q : QT) (ht :
 letH (h ++ [.cells t_laws_World [.slice a0x0 n0x0 c0x0 e0x0, .slice a0x1 n0x1 c0x1 e0x1] false]) fun H0 => letH (H0 ++ [.cells t_laws_Need [.str x1x0, .str x1x1] false]) fun H1 => xRow (hRow H1 (.ptr (some (h.length, 0))) 2) fun K2 => xCons K2 fun C3 Z4 => xSl (some C3) fun A5 N6 C7 E8 => xCons Z4 fun C9 Z10 => xSl (some C9) fun A11 N12 C13 E14 => xNil Z10 (SCall pg n_laws_szWorld [.agg [.slice A5 N6 C7 E8, .slice A11 N12 C13 E14], .int .i64 1048576] H1 fun V15 H16 =>
 xInt .i64 (some V15) fun X17 => bcase (decide ((X17 : Int) < 0)) (Q (.bool true) H16) (xRow (hRow H16 (.ptr (some (H0.length, 0))) 2) fun K18 => xCons K18 fun C19 Z20 => xStr (some C19) fun S21 => xCons Z20 fun C22 Z23 => xStr (some C22) fun S24 => xNil Z23 (SCall pg n_laws_szNeed [.agg [.str S21, .str S24], .int .i64 X17] H16 fun V25 H26 =>
 xInt .i64 (some V25) fun X27 => bcase (decide ((X27 : Int) < 0)) (Q (.bool true) H26) (xRow (hRow H26 (.ptr (some (h.length, 0))) 2) fun K28 => xCons K28 fun C29 Z30 => xSl (some C29) fun A31 N32 C33 E34 => xCons Z30 fun C35 Z36 => xSl (some C35) fun A37 N38 C39 E40 => xNil Z36 (xRow (hRow H26 (.ptr (some (H0.length, 0))) 2) fun K41 => xCons K41 fun C42 Z43 => xStr (some C42) fun S44 => xCons Z43 fun C45 Z46 => xStr (some C45) fun S47 => xNil Z46 (SCall pg n_laws_toWorld [.agg [.slice A31 N32 C33 E34, .slice A37 N38 C39 E40]] H26 fun V48 H49 =>
 xAgg V48 fun K50 => xCons K50 fun C51 Z52 => xSl (some C51) fun A53 N54 C55 E56 => xCons Z52 fun C57 Z58 => xSl (some C57) fun A59 N60 C61 E62 => xNil Z58 ((hRow H49 (.ptr (some (H0.length, 0))) 2 = hRow H26 (.ptr (some (H0.length, 0))) 2) ∧ SCall pg n_laws_toNeed [.agg [.str S44, .str S47]] H49 fun V63 H64 =>
 xAgg V63 fun K65 => xCons K65 fun C66 Z67 => xStr (some C66) fun S68 => xCons Z67 fun C69 Z70 => xStr (some C69) fun S71 => xNil Z70 ((hRow H64 (.ptr (some (h.length, 0))) 2 = hRow H49 (.ptr (some (h.length, 0))) 2) ∧ SCall pg n_spec_LevelOf [.agg [.slice A53 N54 C55 E56, .slice A59 N60 C61 E62], .agg [.str S68, .str S71]] H64 fun V72 H73 =>
 xInt .i64 (some V72) fun X74 => (hRow H73 (.ptr (some (H0.length, 0))) 2 = hRow H64 (.ptr (some (H0.length, 0))) 2) ∧ (hRow H73 (.ptr (some (h.length, 0))) 2 = hRow H64 (.ptr (some (h.length, 0))) 2) ∧ xRow (hRow H73 (.ptr (some (h.length, 0))) 2) fun K75 => xCons K75 fun C76 Z77 => xSl (some C76) fun A78 N79 C80 E81 => xCons Z77 fun C82 Z83 => xSl (some C82) fun A84 N85 C86 E87 => xNil Z83 (SCall pg n_laws_toWorld [.agg [.slice A78 N79 C80 E81, .slice A84 N85 C86 E87]] H73 fun V88 H89 =>
 xAgg V88 fun K90 => xCons K90 fun C91 Z92 => xSl (some C91) fun A93 N94 C95 E96 => xCons Z92 fun C97 Z98 => xSl (some C97) fun A99 N100 C101 E102 => xNil Z98 (letH (H89 ++ [.cells t_impl_World [.slice none 0 0 true, .slice none 0 0 true] false]) fun H103 => xHeap (hStore H103 (.ptr (some (H89.length, 0))) [.slice A93 N94 C95 E96, .slice A99 N100 C101 E102]) fun H104 => xRow (hRow H104 (.ptr (some (H89.length, 0))) 2) fun K105 => xCons K105 fun C106 Z107 => xSl (some C106) fun A108 N109 C110 E111 => xCons Z107 fun C112 Z113 => xSl (some C112) fun A114 N115 C116 E117 => xNil Z113 (xRow (hRow H104 (.ptr (some (H0.length, 0))) 2) fun K118 => xCons K118 fun C119 Z120 => xStr (some C119) fun S121 => xCons Z120 fun C122 Z123 => xStr (some C122) fun S124 => xNil Z123 ((hRow H104 (.ptr (some (H89.length, 0))) 2 = hRow H104 (.ptr (some (H89.length, 0))) 2) ∧ SCall pg n_laws_toNeed [.agg [.str S121, .str S124]] H104 fun V125 H126 =>
 xAgg V125 fun K127 => xCons K127 fun C128 Z129 => xStr (some C128) fun S130 => xCons Z129 fun C131 Z132 => xStr (some C131) fun S133 => xNil Z132 ((hRow H126 (.ptr (some (H89.length, 0))) 2 = hRow H104 (.ptr (some (H89.length, 0))) 2) ∧ SCall pg n_impl_LevelOf [.agg [.slice A108 N109 C110 E111, .slice A114 N115 C116 E117], .agg [.str S130, .str S133]] H126 fun V134 H135 =>
 xInt .i64 (some V134) fun X136 => bcase (!((X136 : Int) == X74)) (Q (.bool false) H135) (xRow (hRow H135 (.ptr (some (H89.length, 0))) 2) fun K137 => xCons K137 fun C138 Z139 => xSl (some C138) fun A140 N141 C142 E143 => xCons Z139 fun C144 Z145 => xSl (some C144) fun A146 N147 C148 E149 => xNil Z145 (xRow (hRow H135 (.ptr (some (h.length, 0))) 2) fun K150 => xCons K150 fun C151 Z152 => xSl (some C151) fun A153 N154 C155 E156 => xCons Z152 fun C157 Z158 => xSl (some C157) fun A159 N160 C161 E162 => xNil Z158 ((hRow H135 (.ptr (some (H89.length, 0))) 2 = hRow H135 (.ptr (some (H89.length, 0))) 2) ∧ SCall pg n_laws_toWorld [.agg [.slice A153 N154 C155 E156, .slice A159 N160 C161 E162]] H135 fun V163 H164 =>
 xAgg V163 fun K165 => xCons K165 fun C166 Z167 => xSl (some C166) fun A168 N169 C170 E171 => xCons Z167 fun C172 Z173 => xSl (some C172) fun A174 N175 C176 E177 => xNil Z173 ((hRow H164 (.ptr (some (H89.length, 0))) 2 = hRow H135 (.ptr (some (H89.length, 0))) 2) ∧ SCall pg n_laws_eqWorld [.agg [.slice A140 N141 C142 E143, .slice A146 N147 C148 E149], .agg [.slice A168 N169 C170 E171, .slice A174 N175 C176 E177]] H164 fun V178 H179 =>
 xBool (some V178) fun B180 => bcase (!B180) (Q (.bool false) H179) (Q (.bool true) H179))))))))))))))))))) : SCall pg n_laws_FnExactLevelOf [.agg [.slice a0x0 n0x0 c0x0 e0x0, .slice a0x1 n0x1 c0x1 e0x1], .agg [.str x1x0, .str x1x1]] h Q :=
  SCall.of_body kp (c := cod fn) (fn := fn) Go.Proofs.Tryz.func3 (by kernel_rfl) (by kernel_rfl) (Nat.le_of_ble_eq_true (by kernel_rfl))
    (cast (by kernel_rfl) ht)
end F_laws_FnExactLevelOf
end Go.Sim

/- Printed by wip/tool: what the functions' bodies do, in the words of 'den'. -/
set_option maxRecDepth 100000
set_option linter.unusedVariables false
namespace Go.Sim
open Go Go.RowKit
/-! Function (*loop.example/instancesearch/spec.l7Table).some -/
namespace F_spec_l7Table_some
noncomputable abbrev fn : Func := Go.Proofs.Tryz.f53
def kp : Keeps := [(3000003, [6]), (1000003, [0, 2, 4, 7, 21, 22, 23]), (2000005, [11, 10, 2, 23, 22, 21, 7, 4, 0]), (4000007, [10, 0, 2, 4, 7, 21, 22, 23]), (3000009, [12, 23, 22, 21, 7, 4, 2, 0]), (1000009, [0, 2, 4, 7, 12, 21, 22, 23, 49, 50, 51]), (4000012, [51, 50, 49, 12, 0, 2, 23, 22, 21, 7, 4]), (4000015, [23, 22, 21, 7, 4, 2, 0])]
noncomputable def C (p : List Nat) : Code := (cod fn).sub p
def KR (Q : QT) : KT := retA pg fn.results.toList Q
abbrev T3 := Pt → Int → Nat → Nat → Nat → Nat → Pt → Nat → Nat → Bool → Int → Int → AHeap → Prop
def E3 (R3 : T3) (env : Env) (h : AHeap) : Prop := eVal 0 env fun v env => xPtr (some v) fun a0 => eVal 2 env fun v env => eInt .i64 v fun x2 => eVal 4 env fun v env => xPtr (some v) fun a => xSome a fun i4 o4 => eVal 7 env fun v env => xPtr (some v) fun a => xSome a fun i7 o7 => eVal 21 env fun v env => xSl (some v) fun a21 n21 c21 e21 => eVal 22 env fun v env => eInt .i64 v fun x22 => eVal 23 env fun v env => eInt .i64 v fun x23 => eNil env (R3 a0 x2 i4 o4 i7 o7 a21 n21 c21 e21 x22 x23 h)
theorem E3elim {R3 : T3} {env : Env} {h : AHeap} (hi : E3 R3 env h) : ∃ a0, ∃ x2, ∃ i4, ∃ o4, ∃ i7, ∃ o7, ∃ a21, ∃ n21, ∃ c21, ∃ e21, ∃ x22, ∃ x23, env = [(0, .ptr a0), (2, .int .i64 x2), (4, .ptr (some (i4, o4))), (7, .ptr (some (i7, o7))), (21, .slice a21 n21 c21 e21), (22, .int .i64 x22), (23, .int .i64 x23)] ∧ R3 a0 x2 i4 o4 i7 o7 a21 n21 c21 e21 x22 x23 h := by
  unfold E3 at hi
  have hi0 := hi
  clear hi
  obtain ⟨_, _, rfl, hi1⟩ := eVal_elim hi0
  obtain ⟨a0, rfl, hi2⟩ := xPtr_elim hi1
  obtain ⟨_, _, rfl, hi3⟩ := eVal_elim hi2
  obtain ⟨x2, rfl, hi4⟩ := eInt_elim hi3
  obtain ⟨_, _, rfl, hi5⟩ := eVal_elim hi4
  obtain ⟨a, rfl, hi6⟩ := xPtr_elim hi5
  obtain ⟨i4, o4, rfl, hi7⟩ := xSome_elim hi6
  obtain ⟨_, _, rfl, hi8⟩ := eVal_elim hi7
  obtain ⟨a, rfl, hi9⟩ := xPtr_elim hi8
  obtain ⟨i7, o7, rfl, hi10⟩ := xSome_elim hi9
  obtain ⟨_, _, rfl, hi11⟩ := eVal_elim hi10
  obtain ⟨a21, n21, c21, e21, rfl, hi12⟩ := xSl_elim hi11
  obtain ⟨_, _, rfl, hi13⟩ := eVal_elim hi12
  obtain ⟨x22, rfl, hi14⟩ := eInt_elim hi13
  obtain ⟨_, _, rfl, hi15⟩ := eVal_elim hi14
  obtain ⟨x23, rfl, hi16⟩ := eInt_elim hi15
  obtain ⟨rfl, hi17⟩ := eNil_elim hi16
  have hi := hi17
  exact ⟨a0, x2, i4, o4, i7, o7, a21, n21, c21, e21, x22, x23, rfl, hi⟩
abbrev T9 := Pt → Int → Nat → Nat → Nat → Nat → Bool → Pt → Nat → Nat → Bool → Int → Int → Pt → Nat → Nat → Bool → Int → Int → AHeap → Prop
def E9 (R9 : T9) (env : Env) (h : AHeap) : Prop := eVal 0 env fun v env => xPtr (some v) fun a0 => eVal 2 env fun v env => eInt .i64 v fun x2 => eVal 4 env fun v env => xPtr (some v) fun a => xSome a fun i4 o4 => eVal 7 env fun v env => xPtr (some v) fun a => xSome a fun i7 o7 => eVal 12 env fun v env => xBool (some v) fun x12 => eVal 21 env fun v env => xSl (some v) fun a21 n21 c21 e21 => eVal 22 env fun v env => eInt .i64 v fun x22 => eVal 23 env fun v env => eInt .i64 v fun x23 => eVal 49 env fun v env => xSl (some v) fun a49 n49 c49 e49 => eVal 50 env fun v env => eInt .i64 v fun x50 => eVal 51 env fun v env => eInt .i64 v fun x51 => eNil env (R9 a0 x2 i4 o4 i7 o7 x12 a21 n21 c21 e21 x22 x23 a49 n49 c49 e49 x50 x51 h)
theorem E9elim {R9 : T9} {env : Env} {h : AHeap} (hi : E9 R9 env h) : ∃ a0, ∃ x2, ∃ i4, ∃ o4, ∃ i7, ∃ o7, ∃ x12, ∃ a21, ∃ n21, ∃ c21, ∃ e21, ∃ x22, ∃ x23, ∃ a49, ∃ n49, ∃ c49, ∃ e49, ∃ x50, ∃ x51, env = [(0, .ptr a0), (2, .int .i64 x2), (4, .ptr (some (i4, o4))), (7, .ptr (some (i7, o7))), (12, .bool x12), (21, .slice a21 n21 c21 e21), (22, .int .i64 x22), (23, .int .i64 x23), (49, .slice a49 n49 c49 e49), (50, .int .i64 x50), (51, .int .i64 x51)] ∧ R9 a0 x2 i4 o4 i7 o7 x12 a21 n21 c21 e21 x22 x23 a49 n49 c49 e49 x50 x51 h := by
  unfold E9 at hi
  have hi0 := hi
  clear hi
  obtain ⟨_, _, rfl, hi1⟩ := eVal_elim hi0
  obtain ⟨a0, rfl, hi2⟩ := xPtr_elim hi1
  obtain ⟨_, _, rfl, hi3⟩ := eVal_elim hi2
  obtain ⟨x2, rfl, hi4⟩ := eInt_elim hi3
  obtain ⟨_, _, rfl, hi5⟩ := eVal_elim hi4
  obtain ⟨a, rfl, hi6⟩ := xPtr_elim hi5
  obtain ⟨i4, o4, rfl, hi7⟩ := xSome_elim hi6
  obtain ⟨_, _, rfl, hi8⟩ := eVal_elim hi7
  obtain ⟨a, rfl, hi9⟩ := xPtr_elim hi8
  obtain ⟨i7, o7, rfl, hi10⟩ := xSome_elim hi9
  obtain ⟨_, _, rfl, hi11⟩ := eVal_elim hi10
  obtain ⟨x12, rfl, hi12⟩ := xBool_elim hi11
  obtain ⟨_, _, rfl, hi13⟩ := eVal_elim hi12
  obtain ⟨a21, n21, c21, e21, rfl, hi14⟩ := xSl_elim hi13
  obtain ⟨_, _, rfl, hi15⟩ := eVal_elim hi14
  obtain ⟨x22, rfl, hi16⟩ := eInt_elim hi15
  obtain ⟨_, _, rfl, hi17⟩ := eVal_elim hi16
  obtain ⟨x23, rfl, hi18⟩ := eInt_elim hi17
  obtain ⟨_, _, rfl, hi19⟩ := eVal_elim hi18
  obtain ⟨a49, n49, c49, e49, rfl, hi20⟩ := xSl_elim hi19
  obtain ⟨_, _, rfl, hi21⟩ := eVal_elim hi20
  obtain ⟨x50, rfl, hi22⟩ := eInt_elim hi21
  obtain ⟨_, _, rfl, hi23⟩ := eVal_elim hi22
  obtain ⟨x51, rfl, hi24⟩ := eInt_elim hi23
  obtain ⟨rfl, hi25⟩ := eNil_elim hi24
  have hi := hi25
  exact ⟨a0, x2, i4, o4, i7, o7, x12, a21, n21, c21, e21, x22, x23, a49, n49, c49, e49, x50, x51, rfl, hi⟩
def K0 (Q : QT) : KT := andThen (fun env' h' => (match kp.find 4000016 with | some ks => Den pg fn.ntmps (C [1, 1, 1]) (env'.keep ks) h' (KR Q) | none => den pg fn.ntmps kp (C [1, 1, 1]) env' h' (KR Q))) (KR Q)
def K1 (Q : QT) : KT := onExit 0 (K0 Q)
def K2 (Q : QT) : KT := left kp 3 (K1 Q)
def K3 (Q : QT) (R3 : T3) : KT := rnd ((kp.find 1000003).getD []) (E3 R3) (K2 Q)
def K4 (Q : QT) (R3 : T3) : KT := andThen (fun env' h' => (match kp.find 4000015 with | some ks => Den pg fn.ntmps (C [1, 1, 0, 1, 0, 0, 1, 1, 1]) (env'.keep ks) h' (K3 Q R3) | none => den pg fn.ntmps kp (C [1, 1, 0, 1, 0, 0, 1, 1, 1]) env' h' (K3 Q R3))) (K3 Q R3)
def K5 (Q : QT) (R3 : T3) : KT := onExit 1 (K4 Q R3)
def K6 (Q : QT) (R3 : T3) : KT := andThen (fun env' h' => (match kp.find 4000013 with | some ks => Den pg fn.ntmps (C [1, 1, 0, 1, 0, 0, 1, 1, 0, 0, 1, 1, 1, 1, 1]) (env'.keep ks) h' (K5 Q R3) | none => den pg fn.ntmps kp (C [1, 1, 0, 1, 0, 0, 1, 1, 0, 0, 1, 1, 1, 1, 1]) env' h' (K5 Q R3))) (K5 Q R3)
def K7 (Q : QT) (R3 : T3) : KT := onExit 2 (K6 Q R3)
def K8 (Q : QT) (R3 : T3) : KT := left kp 9 (K7 Q R3)
def K9 (Q : QT) (R3 : T3) (R9 : T9) : KT := rnd ((kp.find 1000009).getD []) (E9 R9) (K8 Q R3)
def L3 (Q : QT) (a0 : Pt) (x2 : Int) (i4 o4 i7 o7 : Nat) (a21 : Pt) (n21 c21 : Nat) (e21 : Bool) (x22 x23 : Int) (h : AHeap) : Prop := Loop (Den pg fn.ntmps (C [1, 1, 0, 1, 0, 0])) ((kp.find 1000003).getD []) (K2 Q) [(0, .ptr a0), (2, .int .i64 x2), (4, .ptr (some (i4, o4))), (7, .ptr (some (i7, o7))), (21, .slice a21 n21 c21 e21), (22, .int .i64 x22), (23, .int .i64 x23)] h
def J15 (Q : QT) (R3 : T3) (x23 x22 : Int) (a21 : Pt) (n21 c21 : Nat) (e21 : Bool) (i7 o7 i4 o4 : Nat) (x2 : Int) (a0 : Pt) (h : AHeap) : Prop := Den pg fn.ntmps (C [1, 1, 0, 1, 0, 0, 1, 1, 1]) [(23, .int .i64 x23), (22, .int .i64 x22), (21, .slice a21 n21 c21 e21), (7, .ptr (some (i7, o7))), (4, .ptr (some (i4, o4))), (2, .int .i64 x2), (0, .ptr a0)] h (K3 Q R3)
def J7 (Q : QT) (R3 : T3) (a10 : Pt) (n10 c10 : Nat) (e10 : Bool) (a0 : Pt) (x2 : Int) (i4 o4 i7 o7 : Nat) (a21 : Pt) (n21 c21 : Nat) (e21 : Bool) (x22 x23 : Int) (h : AHeap) : Prop := Den pg fn.ntmps (C [1, 1, 0, 1, 0, 0, 1, 1, 0, 0, 1, 1, 1]) [(10, .slice a10 n10 c10 e10), (0, .ptr a0), (2, .int .i64 x2), (4, .ptr (some (i4, o4))), (7, .ptr (some (i7, o7))), (21, .slice a21 n21 c21 e21), (22, .int .i64 x22), (23, .int .i64 x23)] h (K5 Q R3)
def A3x0 (Q : QT) (h : AHeap) : Prop := At (K1 Q) (.exit 0) [(6, .undef)] h
def L9 (Q : QT) (R3 : T3) (a0 : Pt) (x2 : Int) (i4 o4 i7 o7 : Nat) (x12 : Bool) (a21 : Pt) (n21 c21 : Nat) (e21 : Bool) (x22 x23 : Int) (a49 : Pt) (n49 c49 : Nat) (e49 : Bool) (x50 x51 : Int) (h : AHeap) : Prop := Loop (Den pg fn.ntmps (C [1, 1, 0, 1, 0, 0, 1, 1, 0, 0, 1, 1, 1, 1, 0, 1, 0, 0])) ((kp.find 1000009).getD []) (K8 Q R3) [(0, .ptr a0), (2, .int .i64 x2), (4, .ptr (some (i4, o4))), (7, .ptr (some (i7, o7))), (12, .bool x12), (21, .slice a21 n21 c21 e21), (22, .int .i64 x22), (23, .int .i64 x23), (49, .slice a49 n49 c49 e49), (50, .int .i64 x50), (51, .int .i64 x51)] h
def J12 (Q : QT) (R3 : T3) (R9 : T9) (x51 x50 : Int) (a49 : Pt) (n49 c49 : Nat) (e49 x12 : Bool) (a0 : Pt) (x2 x23 x22 : Int) (a21 : Pt) (n21 c21 : Nat) (e21 : Bool) (i7 o7 i4 o4 : Nat) (h : AHeap) : Prop := Den pg fn.ntmps (C [1, 1, 0, 1, 0, 0, 1, 1, 0, 0, 1, 1, 1, 1, 0, 1, 0, 0, 1, 1, 1]) [(51, .int .i64 x51), (50, .int .i64 x50), (49, .slice a49 n49 c49 e49), (12, .bool x12), (0, .ptr a0), (2, .int .i64 x2), (23, .int .i64 x23), (22, .int .i64 x22), (21, .slice a21 n21 c21 e21), (7, .ptr (some (i7, o7))), (4, .ptr (some (i4, o4)))] h (K9 Q R3 R9)
def A9x2 (Q : QT) (R3 : T3) (x12 : Bool) (x23 x22 : Int) (a21 : Pt) (n21 c21 : Nat) (e21 : Bool) (i7 o7 i4 o4 : Nat) (x2 : Int) (a0 : Pt) (h : AHeap) : Prop := At (K7 Q R3) (.exit 2) [(12, .bool x12), (23, .int .i64 x23), (22, .int .i64 x22), (21, .slice a21 n21 c21 e21), (7, .ptr (some (i7, o7))), (4, .ptr (some (i4, o4))), (2, .int .i64 x2), (0, .ptr a0)] h
def L3t (Q : QT) (R3 : T3) (a0 : Pt) (x2 : Int) (i4 o4 i7 o7 : Nat) (a21 : Pt) (n21 c21 : Nat) (e21 : Bool) (x22 x23 : Int) (h : AHeap) : Prop :=
 bcase (decide ((x23 : Int) < x22)) ((0 ≤ (x23 : Int) ∧ (x23 : Int) < (n21 : Nat)) ∧ (xSome a21 fun I44 O45 => xInt .i64 (hCell h (.ptr (some (I44, O45 + (Int.toNat x23) * 1)))) fun X46 => xSl (hCell h (.ptr (some (i7, o7 + 1)))) fun A47 N48 C49 E50 => (0 ≤ (X46 : Int) ∧ (X46 : Int) < (N48 : Nat)) ∧ (xSome A47 fun I51 O52 => xRow (hRow h (.ptr (some (I51, O52 + (Int.toNat X46) * 3))) 3) fun K53 => xCons K53 fun C54 Z55 => xStr (some C54) fun S56 => xCons Z55 fun C57 Z58 => xStr (some C57) fun S59 => xCons Z58 fun C60 Z61 => xSl (some C60) fun A62 N63 C64 E65 => xNil Z61 (xStr (hCell h (.ptr (some (i4, o4 + 1)))) fun S66 => (hRow h (.ptr (some (I51, O52 + (Int.toNat X46) * 3))) 3 = hRow h (.ptr (some (I51, O52 + (Int.toNat X46) * 3))) 3) ∧ (hCell h (.ptr (some (i7, o7 + 1))) = hCell h (.ptr (some (i7, o7 + 1)))) ∧ SCall pg n_spec_l4Needs [.agg [.str S56, .str S59, .slice A62 N63 C64 E65], .str S66] h fun V67 H68 =>
 xTup V67 fun K69 => xCons K69 fun C70 Z71 => xSl (some C70) fun A72 N73 C74 E75 => xCons Z71 fun C76 Z77 => xBool (some C76) fun B78 => xNil Z77 ((hCell H68 (.ptr (some (i7, o7 + 1))) = hCell h (.ptr (some (i7, o7 + 1)))) ∧ bcase (!B78) (J15 Q R3 x23 x22 a21 n21 c21 e21 i7 o7 i4 o4 x2 a0 H68) (bcase (decide (((((N73 : Nat) : Int)) : Int) > 0)) (bcase ((x2 : Int) == 0) (J15 Q R3 x23 x22 a21 n21 c21 e21 i7 o7 i4 o4 x2 a0 H68) (J7 Q R3 A72 N73 C74 E75 a0 x2 i4 o4 i7 o7 a21 n21 c21 e21 x22 x23 H68)) (J7 Q R3 A72 N73 C74 E75 a0 x2 i4 o4 i7 o7 a21 n21 c21 e21 x22 x23 H68))))))) (A3x0 Q h)
theorem L3den (Q : QT) (R3 : T3) (a0 : Pt) (x2 : Int) (i4 o4 i7 o7 : Nat) (a21 : Pt) (n21 c21 : Nat) (e21 : Bool) (x22 x23 : Int) (h : AHeap) (ht : L3t Q R3 a0 x2 i4 o4 i7 o7 a21 n21 c21 e21 x22 x23 h) : Den pg fn.ntmps (C [1, 1, 0, 1, 0, 0]) [(0, .ptr a0), (2, .int .i64 x2), (4, .ptr (some (i4, o4))), (7, .ptr (some (i7, o7))), (21, .slice a21 n21 c21 e21), (22, .int .i64 x22), (23, .int .i64 x23)] h (K3 Q R3) :=
  den_Den (kp := kp) (cast (by kernel_rfl) ht)
theorem L3ind (Q : QT) (a0 : Pt) (x2 : Int) (i4 o4 i7 o7 : Nat) (a21 : Pt) (n21 c21 : Nat) (e21 : Bool) (x22 : Int) {G : Type} (J : G → Int → AHeap → Prop) (m : G → Nat)
 (hr : ∀ (g : G) (x23 : Int) (h : AHeap), J g x23 h → ∀ (R3 : T3), (∀ g' (x23 : Int) (h : AHeap), m g' < m g → J g' x23 h → R3 a0 x2 i4 o4 i7 o7 a21 n21 c21 e21 x22 x23 h) → L3t Q R3 a0 x2 i4 o4 i7 o7 a21 n21 c21 e21 x22 x23 h)
 (g : G) (x23 : Int) (h : AHeap) (hj : J g x23 h) : L3 Q a0 x2 i4 o4 i7 o7 a21 n21 c21 e21 x22 x23 h := by
  refine Loop.inv2 (fun g => E3 fun a0' x2' i4' o4' i7' o7' a21' n21' c21' e21' x22' x23 h => a0 = a0' ∧ x2 = x2' ∧ i4 = i4' ∧ o4 = o4' ∧ i7 = i7' ∧ o7 = o7' ∧ a21 = a21' ∧ n21 = n21' ∧ c21 = c21' ∧ e21 = e21' ∧ x22 = x22' ∧ J g x23 h) (fun g => E3 fun a0' x2' i4' o4' i7' o7' a21' n21' c21' e21' x22' x23 h => a0 = a0' ∧ x2 = x2' ∧ i4 = i4' ∧ o4 = o4' ∧ i7 = i7' ∧ o7 = o7' ∧ a21 = a21' ∧ n21 = n21' ∧ c21 = c21' ∧ e21 = e21' ∧ x22 = x22' ∧ ∃ g', m g' < m g ∧ J g' x23 h) m ?_ ?_ g ⟨rfl, rfl, rfl, rfl, rfl, rfl, rfl, rfl, rfl, rfl, rfl, hj⟩
  · intro g env h hi
    obtain ⟨a0', x2', i4', o4', i7', o7', a21', n21', c21', e21', x22', x23, rfl, rfl, rfl, rfl, rfl, rfl, rfl, rfl, rfl, rfl, rfl, rfl, hj⟩ := E3elim hi
    exact L3den Q _ a0 x2 i4 o4 i7 o7 a21 n21 c21 e21 x22 x23 h (hr g x23 h hj (fun a0' x2' i4' o4' i7' o7' a21' n21' c21' e21' x22' x23 h => a0 = a0' ∧ x2 = x2' ∧ i4 = i4' ∧ o4 = o4' ∧ i7 = i7' ∧ o7 = o7' ∧ a21 = a21' ∧ n21 = n21' ∧ c21 = c21' ∧ e21 = e21' ∧ x22 = x22' ∧ ∃ g', m g' < m g ∧ J g' x23 h) fun g' x23 h hlt hj => ⟨rfl, rfl, rfl, rfl, rfl, rfl, rfl, rfl, rfl, rfl, rfl, g', hlt, hj⟩)
  · intro g env h hi
    obtain ⟨a0', x2', i4', o4', i7', o7', a21', n21', c21', e21', x22', x23, rfl, rfl, rfl, rfl, rfl, rfl, rfl, rfl, rfl, rfl, rfl, rfl, g', hlt, hj⟩ := E3elim hi
    exact ⟨g', hlt, rfl, rfl, rfl, rfl, rfl, rfl, rfl, rfl, rfl, rfl, rfl, hj⟩
theorem J15i (Q : QT) (R3 : T3) (x23 x22 : Int) (a21 : Pt) (n21 c21 : Nat) (e21 : Bool) (i7 o7 i4 o4 : Nat) (x2 : Int) (a0 : Pt) (h : AHeap) (ht :
 R3 a0 x2 i4 o4 i7 o7 a21 n21 c21 e21 x22 (IntKind.wrap .i64 (x23 + 1)) h) : J15 Q R3 x23 x22 a21 n21 c21 e21 i7 o7 i4 o4 x2 a0 h :=
  den_Den (kp := kp) (cast (by kernel_rfl) ht)
theorem J7i (Q : QT) (R3 : T3) (a10 : Pt) (n10 c10 : Nat) (e10 : Bool) (a0 : Pt) (x2 : Int) (i4 o4 i7 o7 : Nat) (a21 : Pt) (n21 c21 : Nat) (e21 : Bool) (x22 x23 : Int) (h : AHeap) (ht :
 L9 Q R3 a0 x2 i4 o4 i7 o7 true a21 n21 c21 e21 x22 x23 a10 n10 c10 e10 (((n10 : Nat) : Int)) 0 h) : J7 Q R3 a10 n10 c10 e10 a0 x2 i4 o4 i7 o7 a21 n21 c21 e21 x22 x23 h :=
  den_Den (kp := kp) (cast (by kernel_rfl) ht)
theorem A3x0i (Q : QT) (h : AHeap) (ht :
 Q (.bool false) h) : A3x0 Q h :=
  At.mk (cast (by kernel_rfl) ht)
def L9t (Q : QT) (R3 : T3) (R9 : T9) (a0 : Pt) (x2 : Int) (i4 o4 i7 o7 : Nat) (x12 : Bool) (a21 : Pt) (n21 c21 : Nat) (e21 : Bool) (x22 x23 : Int) (a49 : Pt) (n49 c49 : Nat) (e49 : Bool) (x50 x51 : Int) (h : AHeap) : Prop :=
 bcase (decide ((x51 : Int) < x50)) ((0 ≤ (x51 : Int) ∧ (x51 : Int) < (n49 : Nat)) ∧ (xSome a49 fun I79 O80 => xRow (hRow h (.ptr (some (I79, O80 + (Int.toNat x51) * 2))) 2) fun K81 => xCons K81 fun C82 Z83 => xStr (some C82) fun S84 => xCons Z83 fun C85 Z86 => xStr (some C85) fun S87 => xNil Z86 (letH (h ++ [.cells t_impl_Need [.str [], .str []] false]) fun H88 => xHeap (hStore H88 (.ptr (some (h.length, 0))) [.str S84, .str S87]) fun H89 => bcase x12 (xRow (hRow H89 (.ptr (some (h.length, 0))) 2) fun K90 => xCons K90 fun C91 Z92 => xStr (some C91) fun S93 => xCons Z92 fun C94 Z95 => xStr (some C94) fun S96 => xNil Z95 (SCall pg n_spec_l7Table_has [.ptr a0, .agg [.str S93, .str S96], .int .i64 (IntKind.wrap .i64 (x2 - 1))] H89 fun V97 H98 =>
 xBool (some V97) fun B99 => J12 Q R3 R9 x51 x50 a49 n49 c49 e49 B99 a0 x2 x23 x22 a21 n21 c21 e21 i7 o7 i4 o4 H98)) (J12 Q R3 R9 x51 x50 a49 n49 c49 e49 false a0 x2 x23 x22 a21 n21 c21 e21 i7 o7 i4 o4 H89)))) (A9x2 Q R3 x12 x23 x22 a21 n21 c21 e21 i7 o7 i4 o4 x2 a0 h)
theorem L9den (Q : QT) (R3 : T3) (R9 : T9) (a0 : Pt) (x2 : Int) (i4 o4 i7 o7 : Nat) (x12 : Bool) (a21 : Pt) (n21 c21 : Nat) (e21 : Bool) (x22 x23 : Int) (a49 : Pt) (n49 c49 : Nat) (e49 : Bool) (x50 x51 : Int) (h : AHeap) (ht : L9t Q R3 R9 a0 x2 i4 o4 i7 o7 x12 a21 n21 c21 e21 x22 x23 a49 n49 c49 e49 x50 x51 h) : Den pg fn.ntmps (C [1, 1, 0, 1, 0, 0, 1, 1, 0, 0, 1, 1, 1, 1, 0, 1, 0, 0]) [(0, .ptr a0), (2, .int .i64 x2), (4, .ptr (some (i4, o4))), (7, .ptr (some (i7, o7))), (12, .bool x12), (21, .slice a21 n21 c21 e21), (22, .int .i64 x22), (23, .int .i64 x23), (49, .slice a49 n49 c49 e49), (50, .int .i64 x50), (51, .int .i64 x51)] h (K9 Q R3 R9) :=
  den_Den (kp := kp) (cast (by kernel_rfl) ht)
theorem L9ind (Q : QT) (R3 : T3) (a0 : Pt) (x2 : Int) (i4 o4 i7 o7 : Nat) (a21 : Pt) (n21 c21 : Nat) (e21 : Bool) (x22 x23 : Int) (a49 : Pt) (n49 c49 : Nat) (e49 : Bool) (x50 : Int) {G : Type} (J : G → Bool → Int → AHeap → Prop) (m : G → Nat)
 (hr : ∀ (g : G) (x12 : Bool) (x51 : Int) (h : AHeap), J g x12 x51 h → ∀ (R9 : T9), (∀ g' (x12 : Bool) (x51 : Int) (h : AHeap), m g' < m g → J g' x12 x51 h → R9 a0 x2 i4 o4 i7 o7 x12 a21 n21 c21 e21 x22 x23 a49 n49 c49 e49 x50 x51 h) → L9t Q R3 R9 a0 x2 i4 o4 i7 o7 x12 a21 n21 c21 e21 x22 x23 a49 n49 c49 e49 x50 x51 h)
 (g : G) (x12 : Bool) (x51 : Int) (h : AHeap) (hj : J g x12 x51 h) : L9 Q R3 a0 x2 i4 o4 i7 o7 x12 a21 n21 c21 e21 x22 x23 a49 n49 c49 e49 x50 x51 h := by
  refine Loop.inv2 (fun g => E9 fun a0' x2' i4' o4' i7' o7' x12 a21' n21' c21' e21' x22' x23' a49' n49' c49' e49' x50' x51 h => a0 = a0' ∧ x2 = x2' ∧ i4 = i4' ∧ o4 = o4' ∧ i7 = i7' ∧ o7 = o7' ∧ a21 = a21' ∧ n21 = n21' ∧ c21 = c21' ∧ e21 = e21' ∧ x22 = x22' ∧ x23 = x23' ∧ a49 = a49' ∧ n49 = n49' ∧ c49 = c49' ∧ e49 = e49' ∧ x50 = x50' ∧ J g x12 x51 h) (fun g => E9 fun a0' x2' i4' o4' i7' o7' x12 a21' n21' c21' e21' x22' x23' a49' n49' c49' e49' x50' x51 h => a0 = a0' ∧ x2 = x2' ∧ i4 = i4' ∧ o4 = o4' ∧ i7 = i7' ∧ o7 = o7' ∧ a21 = a21' ∧ n21 = n21' ∧ c21 = c21' ∧ e21 = e21' ∧ x22 = x22' ∧ x23 = x23' ∧ a49 = a49' ∧ n49 = n49' ∧ c49 = c49' ∧ e49 = e49' ∧ x50 = x50' ∧ ∃ g', m g' < m g ∧ J g' x12 x51 h) m ?_ ?_ g ⟨rfl, rfl, rfl, rfl, rfl, rfl, rfl, rfl, rfl, rfl, rfl, rfl, rfl, rfl, rfl, rfl, rfl, hj⟩
  · intro g env h hi
    obtain ⟨a0', x2', i4', o4', i7', o7', x12, a21', n21', c21', e21', x22', x23', a49', n49', c49', e49', x50', x51, rfl, rfl, rfl, rfl, rfl, rfl, rfl, rfl, rfl, rfl, rfl, rfl, rfl, rfl, rfl, rfl, rfl, rfl, hj⟩ := E9elim hi
    exact L9den Q R3 (fun a0' x2' i4' o4' i7' o7' x12 a21' n21' c21' e21' x22' x23' a49' n49' c49' e49' x50' x51 h => a0 = a0' ∧ x2 = x2' ∧ i4 = i4' ∧ o4 = o4' ∧ i7 = i7' ∧ o7 = o7' ∧ a21 = a21' ∧ n21 = n21' ∧ c21 = c21' ∧ e21 = e21' ∧ x22 = x22' ∧ x23 = x23' ∧ a49 = a49' ∧ n49 = n49' ∧ c49 = c49' ∧ e49 = e49' ∧ x50 = x50' ∧ ∃ g', m g' < m g ∧ J g' x12 x51 h) a0 x2 i4 o4 i7 o7 x12 a21 n21 c21 e21 x22 x23 a49 n49 c49 e49 x50 x51 h (hr g x12 x51 h hj (fun a0' x2' i4' o4' i7' o7' x12 a21' n21' c21' e21' x22' x23' a49' n49' c49' e49' x50' x51 h => a0 = a0' ∧ x2 = x2' ∧ i4 = i4' ∧ o4 = o4' ∧ i7 = i7' ∧ o7 = o7' ∧ a21 = a21' ∧ n21 = n21' ∧ c21 = c21' ∧ e21 = e21' ∧ x22 = x22' ∧ x23 = x23' ∧ a49 = a49' ∧ n49 = n49' ∧ c49 = c49' ∧ e49 = e49' ∧ x50 = x50' ∧ ∃ g', m g' < m g ∧ J g' x12 x51 h) fun g' x12 x51 h hlt hj => ⟨rfl, rfl, rfl, rfl, rfl, rfl, rfl, rfl, rfl, rfl, rfl, rfl, rfl, rfl, rfl, rfl, rfl, g', hlt, hj⟩)
  · intro g env h hi
    obtain ⟨a0', x2', i4', o4', i7', o7', x12, a21', n21', c21', e21', x22', x23', a49', n49', c49', e49', x50', x51, rfl, rfl, rfl, rfl, rfl, rfl, rfl, rfl, rfl, rfl, rfl, rfl, rfl, rfl, rfl, rfl, rfl, rfl, g', hlt, hj⟩ := E9elim hi
    exact ⟨g', hlt, rfl, rfl, rfl, rfl, rfl, rfl, rfl, rfl, rfl, rfl, rfl, rfl, rfl, rfl, rfl, rfl, rfl, hj⟩
theorem J12i (Q : QT) (R3 : T3) (R9 : T9) (x51 x50 : Int) (a49 : Pt) (n49 c49 : Nat) (e49 x12 : Bool) (a0 : Pt) (x2 x23 x22 : Int) (a21 : Pt) (n21 c21 : Nat) (e21 : Bool) (i7 o7 i4 o4 : Nat) (h : AHeap) (ht :
 R9 a0 x2 i4 o4 i7 o7 x12 a21 n21 c21 e21 x22 x23 a49 n49 c49 e49 x50 (IntKind.wrap .i64 (x51 + 1)) h) : J12 Q R3 R9 x51 x50 a49 n49 c49 e49 x12 a0 x2 x23 x22 a21 n21 c21 e21 i7 o7 i4 o4 h :=
  den_Den (kp := kp) (cast (by kernel_rfl) ht)
theorem A9x2i (Q : QT) (R3 : T3) (x12 : Bool) (x23 x22 : Int) (a21 : Pt) (n21 c21 : Nat) (e21 : Bool) (i7 o7 i4 o4 : Nat) (x2 : Int) (a0 : Pt) (h : AHeap) (ht :
 bcase x12 (Q (.bool true) h) (J15 Q R3 x23 x22 a21 n21 c21 e21 i7 o7 i4 o4 x2 a0 h)) : A9x2 Q R3 x12 x23 x22 a21 n21 c21 e21 i7 o7 i4 o4 x2 a0 h :=
  At.mk (cast (by kernel_rfl) ht)
theorem call (a0 : Pt) (x1x0 x1x1 : List Nat) (x2 : Int) (h : AHeap) (Q : QT) (ht :
 letH (h ++ [.cells t_impl_Need [.str x1x0, .str x1x1] false]) fun H0 => xSome a0 fun I1 O2 => xRow (hRow H0 (.ptr (some (I1, O2 + 0))) 2) fun K3 => xCons K3 fun C4 Z5 => xSl (some C4) fun A6 N7 C8 E9 => xCons Z5 fun C10 Z11 => xSl (some C10) fun A12 N13 C14 E15 => xNil Z11 (letH (H0 ++ [.cells t_impl_World [.slice none 0 0 true, .slice none 0 0 true] false]) fun H16 => xHeap (hStore H16 (.ptr (some (H0.length, 0))) [.slice A6 N7 C8 E9, .slice A12 N13 C14 E15]) fun H17 => xRow (hRow H17 (.ptr (some (H0.length, 0))) 2) fun K18 => xCons K18 fun C19 Z20 => xSl (some C19) fun A21 N22 C23 E24 => xCons Z20 fun C25 Z26 => xSl (some C25) fun A27 N28 C29 E30 => xNil Z26 (xRow (hRow H17 (.ptr (some (h.length, 0))) 2) fun K31 => xCons K31 fun C32 Z33 => xStr (some C32) fun S34 => xCons Z33 fun C35 Z36 => xStr (some C35) fun S37 => xNil Z36 (SCall pg n_spec_l4Candidates [.agg [.slice A21 N22 C23 E24, .slice A27 N28 C29 E30], .agg [.str S34, .str S37]] H17 fun V38 H39 =>
 xSl (some V38) fun A40 N41 C42 E43 => L3 Q a0 x2 h.length 0 H0.length 0 A40 N41 C42 E43 (((N41 : Nat) : Int)) 0 H39)))) : SCall pg n_spec_l7Table_some [.ptr a0, .agg [.str x1x0, .str x1x1], .int .i64 x2] h Q :=
  SCall.of_body kp (c := cod fn) (fn := fn) Go.Proofs.Tryz.func53 (by kernel_rfl) (by kernel_rfl) (Nat.le_of_ble_eq_true (by kernel_rfl))
    (cast (by kernel_rfl) ht)
end F_spec_l7Table_some
/-! Function (*loop.example/instancesearch/spec.l7Table).has -/
namespace F_spec_l7Table_has
noncomputable abbrev fn : Func := Go.Proofs.Tryz.f31
def kp : Keeps := []
noncomputable def C (p : List Nat) : Code := (cod fn).sub p
def KR (Q : QT) : KT := retA pg fn.results.toList Q
theorem call (a0 : Pt) (x1x0 x1x1 : List Nat) (x2 : Int) (h : AHeap) (Q : QT) (ht :
 letH (h ++ [.cells t_impl_Need [.str x1x0, .str x1x1] false]) fun H0 => xRow (hRow H0 (.ptr (some (h.length, 0))) 2) fun K1 => xCons K1 fun C2 Z3 => xStr (some C2) fun S4 => xCons Z3 fun C5 Z6 => xStr (some C5) fun S7 => xNil Z6 (SCall pg n_spec_l7Key [.agg [.str S4, .str S7], .int .i64 x2] H0 fun V8 H9 =>
 xStr (some V8) fun S10 => SCall pg n_spec_l7Table_at [.ptr a0, .str S10] H9 fun V11 H12 =>
 xInt .i64 (some V11) fun X13 => bcase (decide ((X13 : Int) ≥ 0)) (xSome a0 fun I14 O15 => xSl (hCell H12 (.ptr (some (I14, O15 + 4)))) fun A16 N17 C18 E19 => (0 ≤ (X13 : Int) ∧ (X13 : Int) < (N17 : Nat)) ∧ (xSome A16 fun I20 O21 => xBool (hCell H12 (.ptr (some (I20, O21 + (Int.toNat X13) * 1)))) fun B22 => Q (.bool B22) H12)) (xRow (hRow H12 (.ptr (some (h.length, 0))) 2) fun K23 => xCons K23 fun C24 Z25 => xStr (some C24) fun S26 => xCons Z25 fun C27 Z28 => xStr (some C27) fun S29 => xNil Z28 (SCall pg n_spec_l7Table_some [.ptr a0, .agg [.str S26, .str S29], .int .i64 x2] H12 fun V30 H31 =>
 xBool (some V30) fun B32 => SCall pg n_spec_l7Table_put [.ptr a0, .str S10, .slice none 0 0 true, .bool B32] H31 fun V33 H34 =>
 Q (.bool B32) H34)))) : SCall pg n_spec_l7Table_has [.ptr a0, .agg [.str x1x0, .str x1x1], .int .i64 x2] h Q :=
  SCall.of_body kp (c := cod fn) (fn := fn) Go.Proofs.Tryz.func31 (by kernel_rfl) (by kernel_rfl) (Nat.le_of_ble_eq_true (by kernel_rfl))
    (cast (by kernel_rfl) ht)
end F_spec_l7Table_has
/-! Function loop.example/instancesearch/spec.LevelOf -/
namespace F_spec_LevelOf
noncomputable abbrev fn : Func := Go.Proofs.Tryz.f10
def kp : Keeps := [(3000003, [4]), (1000003, [2, 3, 5, 10]), (4000007, [10, 2, 3, 5])]
noncomputable def C (p : List Nat) : Code := (cod fn).sub p
def KR (Q : QT) : KT := retA pg fn.results.toList Q
abbrev T3 := Nat → Nat → Nat → Nat → Nat → Nat → Int → AHeap → Prop
def E3 (R3 : T3) (env : Env) (h : AHeap) : Prop := eVal 2 env fun v env => xPtr (some v) fun a => xSome a fun i2 o2 => eVal 3 env fun v env => xPtr (some v) fun a => xSome a fun i3 o3 => eVal 5 env fun v env => xPtr (some v) fun a => xSome a fun i5 o5 => eVal 10 env fun v env => eInt .i64 v fun x10 => eNil env (R3 i2 o2 i3 o3 i5 o5 x10 h)
theorem E3elim {R3 : T3} {env : Env} {h : AHeap} (hi : E3 R3 env h) : ∃ i2, ∃ o2, ∃ i3, ∃ o3, ∃ i5, ∃ o5, ∃ x10, env = [(2, .ptr (some (i2, o2))), (3, .ptr (some (i3, o3))), (5, .ptr (some (i5, o5))), (10, .int .i64 x10)] ∧ R3 i2 o2 i3 o3 i5 o5 x10 h := by
  unfold E3 at hi
  have hi0 := hi
  clear hi
  obtain ⟨_, _, rfl, hi1⟩ := eVal_elim hi0
  obtain ⟨a, rfl, hi2⟩ := xPtr_elim hi1
  obtain ⟨i2, o2, rfl, hi3⟩ := xSome_elim hi2
  obtain ⟨_, _, rfl, hi4⟩ := eVal_elim hi3
  obtain ⟨a, rfl, hi5⟩ := xPtr_elim hi4
  obtain ⟨i3, o3, rfl, hi6⟩ := xSome_elim hi5
  obtain ⟨_, _, rfl, hi7⟩ := eVal_elim hi6
  obtain ⟨a, rfl, hi8⟩ := xPtr_elim hi7
  obtain ⟨i5, o5, rfl, hi9⟩ := xSome_elim hi8
  obtain ⟨_, _, rfl, hi10⟩ := eVal_elim hi9
  obtain ⟨x10, rfl, hi11⟩ := eInt_elim hi10
  obtain ⟨rfl, hi12⟩ := eNil_elim hi11
  have hi := hi12
  exact ⟨i2, o2, i3, o3, i5, o5, x10, rfl, hi⟩
def K0 (Q : QT) : KT := andThen (fun env' h' => (match kp.find 4000008 with | some ks => Den pg fn.ntmps (C [1, 1, 1]) (env'.keep ks) h' (KR Q) | none => den pg fn.ntmps kp (C [1, 1, 1]) env' h' (KR Q))) (KR Q)
def K1 (Q : QT) : KT := onExit 0 (K0 Q)
def K2 (Q : QT) : KT := left kp 3 (K1 Q)
def K3 (Q : QT) (R3 : T3) : KT := rnd ((kp.find 1000003).getD []) (E3 R3) (K2 Q)
def L3 (Q : QT) (i2 o2 i3 o3 i5 o5 : Nat) (x10 : Int) (h : AHeap) : Prop := Loop (Den pg fn.ntmps (C [1, 1, 0, 1, 0, 0])) ((kp.find 1000003).getD []) (K2 Q) [(2, .ptr (some (i2, o2))), (3, .ptr (some (i3, o3))), (5, .ptr (some (i5, o5))), (10, .int .i64 x10)] h
def J7 (Q : QT) (R3 : T3) (x10 : Int) (i2 o2 i3 o3 i5 o5 : Nat) (h : AHeap) : Prop := Den pg fn.ntmps (C [1, 1, 0, 1, 0, 0, 1, 1, 1]) [(10, .int .i64 x10), (2, .ptr (some (i2, o2))), (3, .ptr (some (i3, o3))), (5, .ptr (some (i5, o5)))] h (K3 Q R3)
def A3x0 (Q : QT) (h : AHeap) : Prop := At (K1 Q) (.exit 0) [(4, .undef)] h
def L3t (Q : QT) (R3 : T3) (i2 o2 i3 o3 i5 o5 : Nat) (x10 : Int) (h : AHeap) : Prop :=
 bcase (decide ((x10 : Int) < 7)) (xRow (hRow h (.ptr (some (i2, o2))) 2) fun K16 => xCons K16 fun C17 Z18 => xSl (some C17) fun A19 N20 C21 E22 => xCons Z18 fun C23 Z24 => xSl (some C23) fun A25 N26 C27 E28 => xNil Z24 (xRow (hRow h (.ptr (some (i3, o3))) 2) fun K29 => xCons K29 fun C30 Z31 => xStr (some C30) fun S32 => xCons Z31 fun C33 Z34 => xStr (some C33) fun S35 => xNil Z34 (SCall pg n_spec_NeedValid [.agg [.slice A19 N20 C21 E22, .slice A25 N26 C27 E28], .agg [.str S32, .str S35]] h fun V36 H37 =>
 xBool (some V36) fun B38 => bcase B38 (xRow (hRow H37 (.ptr (some (i3, o3))) 2) fun K39 => xCons K39 fun C40 Z41 => xStr (some C40) fun S42 => xCons Z41 fun C43 Z44 => xStr (some C43) fun S45 => xNil Z44 (SCall pg n_spec_l7Table_has [.ptr (some (i5, o5)), .agg [.str S42, .str S45], .int .i64 x10] H37 fun V46 H47 =>
 xBool (some V46) fun B48 => bcase B48 (Q (.int .i64 x10) H47) (J7 Q R3 x10 i2 o2 i3 o3 i5 o5 H47))) (J7 Q R3 x10 i2 o2 i3 o3 i5 o5 H37)))) (A3x0 Q h)
theorem L3den (Q : QT) (R3 : T3) (i2 o2 i3 o3 i5 o5 : Nat) (x10 : Int) (h : AHeap) (ht : L3t Q R3 i2 o2 i3 o3 i5 o5 x10 h) : Den pg fn.ntmps (C [1, 1, 0, 1, 0, 0]) [(2, .ptr (some (i2, o2))), (3, .ptr (some (i3, o3))), (5, .ptr (some (i5, o5))), (10, .int .i64 x10)] h (K3 Q R3) :=
  den_Den (kp := kp) (cast (by kernel_rfl) ht)
theorem L3ind (Q : QT) (i2 o2 i3 o3 i5 o5 : Nat) {G : Type} (J : G → Int → AHeap → Prop) (m : G → Nat)
 (hr : ∀ (g : G) (x10 : Int) (h : AHeap), J g x10 h → ∀ (R3 : T3), (∀ g' (x10 : Int) (h : AHeap), m g' < m g → J g' x10 h → R3 i2 o2 i3 o3 i5 o5 x10 h) → L3t Q R3 i2 o2 i3 o3 i5 o5 x10 h)
 (g : G) (x10 : Int) (h : AHeap) (hj : J g x10 h) : L3 Q i2 o2 i3 o3 i5 o5 x10 h := by
  refine Loop.inv2 (fun g => E3 fun i2' o2' i3' o3' i5' o5' x10 h => i2 = i2' ∧ o2 = o2' ∧ i3 = i3' ∧ o3 = o3' ∧ i5 = i5' ∧ o5 = o5' ∧ J g x10 h) (fun g => E3 fun i2' o2' i3' o3' i5' o5' x10 h => i2 = i2' ∧ o2 = o2' ∧ i3 = i3' ∧ o3 = o3' ∧ i5 = i5' ∧ o5 = o5' ∧ ∃ g', m g' < m g ∧ J g' x10 h) m ?_ ?_ g ⟨rfl, rfl, rfl, rfl, rfl, rfl, hj⟩
  · intro g env h hi
    obtain ⟨i2', o2', i3', o3', i5', o5', x10, rfl, rfl, rfl, rfl, rfl, rfl, rfl, hj⟩ := E3elim hi
    exact L3den Q _ i2 o2 i3 o3 i5 o5 x10 h (hr g x10 h hj (fun i2' o2' i3' o3' i5' o5' x10 h => i2 = i2' ∧ o2 = o2' ∧ i3 = i3' ∧ o3 = o3' ∧ i5 = i5' ∧ o5 = o5' ∧ ∃ g', m g' < m g ∧ J g' x10 h) fun g' x10 h hlt hj => ⟨rfl, rfl, rfl, rfl, rfl, rfl, g', hlt, hj⟩)
  · intro g env h hi
    obtain ⟨i2', o2', i3', o3', i5', o5', x10, rfl, rfl, rfl, rfl, rfl, rfl, rfl, g', hlt, hj⟩ := E3elim hi
    exact ⟨g', hlt, rfl, rfl, rfl, rfl, rfl, rfl, hj⟩
theorem J7i (Q : QT) (R3 : T3) (x10 : Int) (i2 o2 i3 o3 i5 o5 : Nat) (h : AHeap) (ht :
 R3 i2 o2 i3 o3 i5 o5 (IntKind.wrap .i64 (x10 + 1)) h) : J7 Q R3 x10 i2 o2 i3 o3 i5 o5 h :=
  den_Den (kp := kp) (cast (by kernel_rfl) ht)
theorem A3x0i (Q : QT) (h : AHeap) (ht :
 Q (.int .i64 (-1)) h) : A3x0 Q h :=
  At.mk (cast (by kernel_rfl) ht)
theorem call (a0x0 : Pt) (n0x0 c0x0 : Nat) (e0x0 : Bool) (a0x1 : Pt) (n0x1 c0x1 : Nat) (e0x1 : Bool) (x1x0 x1x1 : List Nat) (h : AHeap) (Q : QT) (ht :
 letH (h ++ [.cells t_impl_World [.slice a0x0 n0x0 c0x0 e0x0, .slice a0x1 n0x1 c0x1 e0x1] false]) fun H0 => letH (H0 ++ [.cells t_impl_Need [.str x1x0, .str x1x1] false]) fun H1 => xRow (hRow H1 (.ptr (some (h.length, 0))) 2) fun K2 => xCons K2 fun C3 Z4 => xSl (some C3) fun A5 N6 C7 E8 => xCons Z4 fun C9 Z10 => xSl (some C9) fun A11 N12 C13 E14 => xNil Z10 (letH (H1 ++ [.cells t_spec_l7Table [.slice A5 N6 C7 E8, .slice A11 N12 C13 E14, .slice none 0 0 true, .slice none 0 0 true, .slice none 0 0 true] false]) fun H15 => L3 Q h.length 0 H0.length 0 H1.length 0 0 H15)) : SCall pg n_spec_LevelOf [.agg [.slice a0x0 n0x0 c0x0 e0x0, .slice a0x1 n0x1 c0x1 e0x1], .agg [.str x1x0, .str x1x1]] h Q :=
  SCall.of_body kp (c := cod fn) (fn := fn) Go.Proofs.Tryz.func10 (by kernel_rfl) (by kernel_rfl) (Nat.le_of_ble_eq_true (by kernel_rfl))
    (cast (by kernel_rfl) ht)
end F_spec_LevelOf
end Go.Sim

/- Printed by wip/tool: what the functions' bodies do, in the words of 'den'. -/
set_option maxRecDepth 100000
set_option linter.unusedVariables false
namespace Go.Sim
open Go Go.RowKit
/-! Function loop.example/instancesearch/spec.l7Key -/
namespace F_spec_l7Key
noncomputable abbrev fn : Func := Go.Proofs.Tryz.f51
def kp : Keeps := [(2000001, [4])]
noncomputable def C (p : List Nat) : Code := (cod fn).sub p
def KR (Q : QT) : KT := retA pg fn.results.toList Q
theorem call (x0x0 x0x1 : List Nat) (x1 : Int) (h : AHeap) (Q : QT) (ht :
 letH (h ++ [.cells t_impl_Need [.str x0x0, .str x0x1] false]) fun H0 => xRow (hRow H0 (.ptr (some (h.length, 0))) 2) fun K1 => xCons K1 fun C2 Z3 => xStr (some C2) fun S4 => xCons Z3 fun C5 Z6 => xStr (some C5) fun S7 => xNil Z6 (SCall pg n_spec_l13Dec [.int .i64 x1] H0 fun V8 H9 =>
 xStr (some V8) fun S10 => (hRow H9 (.ptr (some (h.length, 0))) 2 = hRow H0 (.ptr (some (h.length, 0))) 2) ∧ SCall pg n_spec_FormatNeed [.agg [.str S4, .str S7]] H9 fun V11 H12 =>
 xStr (some V11) fun S13 => List.length S10 + List.length S13 ≤ 9223372036854775807 ∧ (Q (.str (S10 ++ S13)) H12))) : SCall pg n_spec_l7Key [.agg [.str x0x0, .str x0x1], .int .i64 x1] h Q :=
  SCall.of_body kp (c := cod fn) (fn := fn) Go.Proofs.Tryz.func51 (by kernel_rfl) (by kernel_rfl) (Nat.le_of_ble_eq_true (by kernel_rfl))
    (cast (by kernel_rfl) ht)
end F_spec_l7Key
/-! Function (*loop.example/instancesearch/spec.l7Table).at -/
namespace F_spec_l7Table_at
noncomputable abbrev fn : Func := Go.Proofs.Tryz.f52
def kp : Keeps := [(3000002, [4]), (1000002, [1, 10, 11, 12])]
noncomputable def C (p : List Nat) : Code := (cod fn).sub p
def KR (Q : QT) : KT := retA pg fn.results.toList Q
abbrev T2 := List Nat → Pt → Nat → Nat → Bool → Int → Int → AHeap → Prop
def E2 (R2 : T2) (env : Env) (h : AHeap) : Prop := eVal 1 env fun v env => xStr (some v) fun x1 => eVal 10 env fun v env => xSl (some v) fun a10 n10 c10 e10 => eVal 11 env fun v env => eInt .i64 v fun x11 => eVal 12 env fun v env => eInt .i64 v fun x12 => eNil env (R2 x1 a10 n10 c10 e10 x11 x12 h)
theorem E2elim {R2 : T2} {env : Env} {h : AHeap} (hi : E2 R2 env h) : ∃ x1, ∃ a10, ∃ n10, ∃ c10, ∃ e10, ∃ x11, ∃ x12, env = [(1, .str x1), (10, .slice a10 n10 c10 e10), (11, .int .i64 x11), (12, .int .i64 x12)] ∧ R2 x1 a10 n10 c10 e10 x11 x12 h := by
  unfold E2 at hi
  have hi0 := hi
  clear hi
  obtain ⟨_, _, rfl, hi1⟩ := eVal_elim hi0
  obtain ⟨x1, rfl, hi2⟩ := xStr_elim hi1
  obtain ⟨_, _, rfl, hi3⟩ := eVal_elim hi2
  obtain ⟨a10, n10, c10, e10, rfl, hi4⟩ := xSl_elim hi3
  obtain ⟨_, _, rfl, hi5⟩ := eVal_elim hi4
  obtain ⟨x11, rfl, hi6⟩ := eInt_elim hi5
  obtain ⟨_, _, rfl, hi7⟩ := eVal_elim hi6
  obtain ⟨x12, rfl, hi8⟩ := eInt_elim hi7
  obtain ⟨rfl, hi9⟩ := eNil_elim hi8
  have hi := hi9
  exact ⟨x1, a10, n10, c10, e10, x11, x12, rfl, hi⟩
def K0 (Q : QT) : KT := andThen (fun env' h' => (match kp.find 4000007 with | some ks => Den pg fn.ntmps (C [1, 1]) (env'.keep ks) h' (KR Q) | none => den pg fn.ntmps kp (C [1, 1]) env' h' (KR Q))) (KR Q)
def K1 (Q : QT) : KT := onExit 0 (K0 Q)
def K2 (Q : QT) : KT := left kp 2 (K1 Q)
def K3 (Q : QT) (R2 : T2) : KT := rnd ((kp.find 1000002).getD []) (E2 R2) (K2 Q)
def L2 (Q : QT) (x1 : List Nat) (a10 : Pt) (n10 c10 : Nat) (e10 : Bool) (x11 x12 : Int) (h : AHeap) : Prop := Loop (Den pg fn.ntmps (C [1, 0, 1, 0, 0])) ((kp.find 1000002).getD []) (K2 Q) [(1, .str x1), (10, .slice a10 n10 c10 e10), (11, .int .i64 x11), (12, .int .i64 x12)] h
def A2x0 (Q : QT) (h : AHeap) : Prop := At (K1 Q) (.exit 0) [(4, .undef)] h
def L2t (Q : QT) (R2 : T2) (x1 : List Nat) (a10 : Pt) (n10 c10 : Nat) (e10 : Bool) (x11 x12 : Int) (h : AHeap) : Prop :=
 bcase (decide ((x12 : Int) < x11)) ((0 ≤ (x12 : Int) ∧ (x12 : Int) < (n10 : Nat)) ∧ (xSome a10 fun I6 O7 => xStr (hCell h (.ptr (some (I6, O7 + (Int.toNat x12) * 1)))) fun S8 => bcase (decide (S8 = x1)) (Q (.int .i64 x12) h) (R2 x1 a10 n10 c10 e10 x11 (IntKind.wrap .i64 (x12 + 1)) h))) (A2x0 Q h)
theorem L2den (Q : QT) (R2 : T2) (x1 : List Nat) (a10 : Pt) (n10 c10 : Nat) (e10 : Bool) (x11 x12 : Int) (h : AHeap) (ht : L2t Q R2 x1 a10 n10 c10 e10 x11 x12 h) : Den pg fn.ntmps (C [1, 0, 1, 0, 0]) [(1, .str x1), (10, .slice a10 n10 c10 e10), (11, .int .i64 x11), (12, .int .i64 x12)] h (K3 Q R2) :=
  den_Den (kp := kp) (cast (by kernel_rfl) ht)
theorem L2ind (Q : QT) (x1 : List Nat) (a10 : Pt) (n10 c10 : Nat) (e10 : Bool) (x11 : Int) {G : Type} (J : G → Int → AHeap → Prop) (m : G → Nat)
 (hr : ∀ (g : G) (x12 : Int) (h : AHeap), J g x12 h → ∀ (R2 : T2), (∀ g' (x12 : Int) (h : AHeap), m g' < m g → J g' x12 h → R2 x1 a10 n10 c10 e10 x11 x12 h) → L2t Q R2 x1 a10 n10 c10 e10 x11 x12 h)
 (g : G) (x12 : Int) (h : AHeap) (hj : J g x12 h) : L2 Q x1 a10 n10 c10 e10 x11 x12 h := by
  refine Loop.inv2 (fun g => E2 fun x1' a10' n10' c10' e10' x11' x12 h => x1 = x1' ∧ a10 = a10' ∧ n10 = n10' ∧ c10 = c10' ∧ e10 = e10' ∧ x11 = x11' ∧ J g x12 h) (fun g => E2 fun x1' a10' n10' c10' e10' x11' x12 h => x1 = x1' ∧ a10 = a10' ∧ n10 = n10' ∧ c10 = c10' ∧ e10 = e10' ∧ x11 = x11' ∧ ∃ g', m g' < m g ∧ J g' x12 h) m ?_ ?_ g ⟨rfl, rfl, rfl, rfl, rfl, rfl, hj⟩
  · intro g env h hi
    obtain ⟨x1', a10', n10', c10', e10', x11', x12, rfl, rfl, rfl, rfl, rfl, rfl, rfl, hj⟩ := E2elim hi
    exact L2den Q _ x1 a10 n10 c10 e10 x11 x12 h (hr g x12 h hj (fun x1' a10' n10' c10' e10' x11' x12 h => x1 = x1' ∧ a10 = a10' ∧ n10 = n10' ∧ c10 = c10' ∧ e10 = e10' ∧ x11 = x11' ∧ ∃ g', m g' < m g ∧ J g' x12 h) fun g' x12 h hlt hj => ⟨rfl, rfl, rfl, rfl, rfl, rfl, g', hlt, hj⟩)
  · intro g env h hi
    obtain ⟨x1', a10', n10', c10', e10', x11', x12, rfl, rfl, rfl, rfl, rfl, rfl, rfl, g', hlt, hj⟩ := E2elim hi
    exact ⟨g', hlt, rfl, rfl, rfl, rfl, rfl, rfl, hj⟩
theorem A2x0i (Q : QT) (h : AHeap) (ht :
 Q (.int .i64 (-1)) h) : A2x0 Q h :=
  At.mk (cast (by kernel_rfl) ht)
theorem call (a0 : Pt) (x1 : List Nat) (h : AHeap) (Q : QT) (ht :
 xSome a0 fun I0 O1 => xSl (hCell h (.ptr (some (I0, O1 + 2)))) fun A2 N3 C4 E5 => L2 Q x1 A2 N3 C4 E5 (((N3 : Nat) : Int)) 0 h) : SCall pg n_spec_l7Table_at [.ptr a0, .str x1] h Q :=
  SCall.of_body kp (c := cod fn) (fn := fn) Go.Proofs.Tryz.func52 (by kernel_rfl) (by kernel_rfl) (Nat.le_of_ble_eq_true (by kernel_rfl))
    (cast (by kernel_rfl) ht)
end F_spec_l7Table_at
/-! Function (*loop.example/instancesearch/spec.l7Table).put -/
namespace F_spec_l7Table_put
noncomputable abbrev fn : Func := Go.Proofs.Tryz.f54
def kp : Keeps := []
noncomputable def C (p : List Nat) : Code := (cod fn).sub p
def KR (Q : QT) : KT := retA pg fn.results.toList Q
theorem call (a0 : Pt) (x1 : List Nat) (a2 : Pt) (n2 c2 : Nat) (e2 x3 : Bool) (h : AHeap) (Q : QT) (ht :
 xSome a0 fun I0 O1 => xSl (hCell h (.ptr (some (I0, O1 + 2)))) fun A2 N3 C4 E5 => letH (h ++ [.cells t_string [.str x1] false]) fun H6 => appendA pg t_L_string H6 (.slice A2 N3 C4 E5) (.slice (some (h.length, 0)) 1 1 true) fun V7 H8 => xSl (some V7) fun A9 N10 C11 E12 => xSome a0 fun I13 O14 => xHeap (hStore H8 (.ptr (some (I13, O14 + 2))) [.slice A9 N10 C11 E12]) fun H15 => xSome a0 fun I16 O17 => xSl (hCell H15 (.ptr (some (I16, O17 + 3)))) fun A18 N19 C20 E21 => letH (H15 ++ [.cells t_L_string [.slice a2 n2 c2 e2] false]) fun H22 => appendA pg t_L_L_string H22 (.slice A18 N19 C20 E21) (.slice (some (H15.length, 0)) 1 1 true) fun V23 H24 => xSl (some V23) fun A25 N26 C27 E28 => xSome a0 fun I29 O30 => xHeap (hStore H24 (.ptr (some (I29, O30 + 3))) [.slice A25 N26 C27 E28]) fun H31 => xSome a0 fun I32 O33 => xSl (hCell H31 (.ptr (some (I32, O33 + 4)))) fun A34 N35 C36 E37 => letH (H31 ++ [.cells t_bool [.bool x3] false]) fun H38 => appendA pg t_L_bool H38 (.slice A34 N35 C36 E37) (.slice (some (H31.length, 0)) 1 1 true) fun V39 H40 => xSl (some V39) fun A41 N42 C43 E44 => xSome a0 fun I45 O46 => xHeap (hStore H40 (.ptr (some (I45, O46 + 4))) [.slice A41 N42 C43 E44]) fun H47 => Q (.tup []) H47) : SCall pg n_spec_l7Table_put [.ptr a0, .str x1, .slice a2 n2 c2 e2, .bool x3] h Q :=
  SCall.of_body kp (c := cod fn) (fn := fn) Go.Proofs.Tryz.func54 (by kernel_rfl) (by kernel_rfl) (Nat.le_of_ble_eq_true (by kernel_rfl))
    (cast (by kernel_rfl) ht)
end F_spec_l7Table_put
end Go.Sim

/- Printed by wip/tool: what the functions' bodies do, in the words of 'den'. -/
set_option maxRecDepth 100000
set_option linter.unusedVariables false
namespace Go.Sim
open Go Go.RowKit
/-! Function slices.ContainsFunc[[]int,int] -/
namespace F_slices_ContainsFunc_L_int_int__impl_ways_some_lit1
noncomputable abbrev fn : Func := Go.Proofs.Tryz.f91
def kp : Keeps := []
noncomputable def C (p : List Nat) : Code := (cod fn).sub p
def KR (Q : QT) : KT := retA pg fn.results.toList Q
theorem call (a0 : Pt) (n0 c0 : Nat) (e0 : Bool) (v1x0 v1x1 v1x2 : AVal) (h : AHeap) (Q : QT) (ht :
 SCall pg n_slices_IndexFunc_L_int_int [.slice a0 n0 c0 e0, .fn n_impl_ways_some_lit1 [v1x0, v1x1, v1x2]] h fun V0 H1 =>
 xInt .i64 (some V0) fun X2 => Q (.bool (decide ((X2 : Int) ≥ 0))) H1) : SCall pg n_slices_ContainsFunc_L_int_int [.slice a0 n0 c0 e0, .fn n_impl_ways_some_lit1 [v1x0, v1x1, v1x2]] h Q :=
  SCall.of_body kp (c := cod fn) (fn := fn) Go.Proofs.Tryz.func91 (by kernel_rfl) (by kernel_rfl) (Nat.le_of_ble_eq_true (by kernel_rfl))
    (cast (by kernel_rfl) ht)
end F_slices_ContainsFunc_L_int_int__impl_ways_some_lit1
/-! Function slices.IndexFunc[[]int,int] -/
namespace F_slices_IndexFunc_L_int_int__impl_ways_some_lit1
noncomputable abbrev fn : Func := Go.Proofs.Tryz.f125
def kp : Keeps := [(3000002, [4]), (1000002, [0, 1, 7, 8])]
noncomputable def C (p : List Nat) : Code := (cod fn).sub p
def KR (Q : QT) : KT := retA pg fn.results.toList Q
abbrev T2 := Pt → Nat → Nat → Bool → AVal → AVal → AVal → Int → Int → AHeap → Prop
def E2 (R2 : T2) (env : Env) (h : AHeap) : Prop := eVal 0 env fun v env => xSl (some v) fun a0 n0 c0 e0 => eVal 1 env fun v env => eFn n_impl_ways_some_lit1 v fun cs => xCons cs fun c cs' => xAny (some c) fun v1x0 => xCons cs' fun c cs'' => xAny (some c) fun v1x1 => xCons cs'' fun c cs''' => xAny (some c) fun v1x2 => xNil cs''' (eVal 7 env fun v env => eInt .i64 v fun x7 => eVal 8 env fun v env => eInt .i64 v fun x8 => eNil env (R2 a0 n0 c0 e0 v1x0 v1x1 v1x2 x7 x8 h))
theorem E2elim {R2 : T2} {env : Env} {h : AHeap} (hi : E2 R2 env h) : ∃ a0, ∃ n0, ∃ c0, ∃ e0, ∃ v1x0, ∃ v1x1, ∃ v1x2, ∃ x7, ∃ x8, env = [(0, .slice a0 n0 c0 e0), (1, .fn n_impl_ways_some_lit1 [v1x0, v1x1, v1x2]), (7, .int .i64 x7), (8, .int .i64 x8)] ∧ R2 a0 n0 c0 e0 v1x0 v1x1 v1x2 x7 x8 h := by
  unfold E2 at hi
  have hi0 := hi
  clear hi
  obtain ⟨_, _, rfl, hi1⟩ := eVal_elim hi0
  obtain ⟨a0, n0, c0, e0, rfl, hi2⟩ := xSl_elim hi1
  obtain ⟨_, _, rfl, hi3⟩ := eVal_elim hi2
  obtain ⟨cs, rfl, hi4⟩ := eFn_elim hi3
  obtain ⟨c, cs', rfl, hi5⟩ := xCons_elim hi4
  obtain ⟨v1x0, hx, hi6⟩ := xAny_elim hi5
  replace hx := (Option.some.inj hx).symm
  subst hx
  obtain ⟨c, cs'', rfl, hi7⟩ := xCons_elim hi6
  obtain ⟨v1x1, hx, hi8⟩ := xAny_elim hi7
  replace hx := (Option.some.inj hx).symm
  subst hx
  obtain ⟨c, cs''', rfl, hi9⟩ := xCons_elim hi8
  obtain ⟨v1x2, hx, hi10⟩ := xAny_elim hi9
  replace hx := (Option.some.inj hx).symm
  subst hx
  obtain ⟨rfl, hi11⟩ := xNil_elim hi10
  obtain ⟨_, _, rfl, hi12⟩ := eVal_elim hi11
  obtain ⟨x7, rfl, hi13⟩ := eInt_elim hi12
  obtain ⟨_, _, rfl, hi14⟩ := eVal_elim hi13
  obtain ⟨x8, rfl, hi15⟩ := eInt_elim hi14
  obtain ⟨rfl, hi16⟩ := eNil_elim hi15
  have hi := hi16
  exact ⟨a0, n0, c0, e0, v1x0, v1x1, v1x2, x7, x8, rfl, hi⟩
def K0 (Q : QT) : KT := andThen (fun env' h' => (match kp.find 4000007 with | some ks => Den pg fn.ntmps (C [1, 1]) (env'.keep ks) h' (KR Q) | none => den pg fn.ntmps kp (C [1, 1]) env' h' (KR Q))) (KR Q)
def K1 (Q : QT) : KT := onExit 0 (K0 Q)
def K2 (Q : QT) : KT := left kp 2 (K1 Q)
def K3 (Q : QT) (R2 : T2) : KT := rnd ((kp.find 1000002).getD []) (E2 R2) (K2 Q)
def L2 (Q : QT) (a0 : Pt) (n0 c0 : Nat) (e0 : Bool) (v1x0 v1x1 v1x2 : AVal) (x7 x8 : Int) (h : AHeap) : Prop := Loop (Den pg fn.ntmps (C [1, 0, 1, 0, 0])) ((kp.find 1000002).getD []) (K2 Q) [(0, .slice a0 n0 c0 e0), (1, .fn n_impl_ways_some_lit1 [v1x0, v1x1, v1x2]), (7, .int .i64 x7), (8, .int .i64 x8)] h
def A2x0 (Q : QT) (h : AHeap) : Prop := At (K1 Q) (.exit 0) [(4, .undef)] h
def L2t (Q : QT) (R2 : T2) (a0 : Pt) (n0 c0 : Nat) (e0 : Bool) (v1x0 v1x1 v1x2 : AVal) (x7 x8 : Int) (h : AHeap) : Prop :=
 bcase (decide ((x8 : Int) < x7)) ((0 ≤ (x8 : Int) ∧ (x8 : Int) < (n0 : Nat)) ∧ (xSome a0 fun I0 O1 => xInt .i64 (hCell h (.ptr (some (I0, O1 + (Int.toNat x8) * 1)))) fun X2 => SCall pg n_impl_ways_some_lit1 [.int .i64 X2, v1x0, v1x1, v1x2] h fun V3 H4 =>
 xBool (some V3) fun B5 => bcase B5 (Q (.int .i64 x8) H4) (R2 a0 n0 c0 e0 v1x0 v1x1 v1x2 x7 (IntKind.wrap .i64 (x8 + 1)) H4))) (A2x0 Q h)
theorem L2den (Q : QT) (R2 : T2) (a0 : Pt) (n0 c0 : Nat) (e0 : Bool) (v1x0 v1x1 v1x2 : AVal) (x7 x8 : Int) (h : AHeap) (ht : L2t Q R2 a0 n0 c0 e0 v1x0 v1x1 v1x2 x7 x8 h) : Den pg fn.ntmps (C [1, 0, 1, 0, 0]) [(0, .slice a0 n0 c0 e0), (1, .fn n_impl_ways_some_lit1 [v1x0, v1x1, v1x2]), (7, .int .i64 x7), (8, .int .i64 x8)] h (K3 Q R2) :=
  den_Den (kp := kp) (cast (by kernel_rfl) ht)
theorem L2ind (Q : QT) (a0 : Pt) (n0 c0 : Nat) (e0 : Bool) (v1x0 v1x1 v1x2 : AVal) (x7 : Int) {G : Type} (J : G → Int → AHeap → Prop) (m : G → Nat)
 (hr : ∀ (g : G) (x8 : Int) (h : AHeap), J g x8 h → ∀ (R2 : T2), (∀ g' (x8 : Int) (h : AHeap), m g' < m g → J g' x8 h → R2 a0 n0 c0 e0 v1x0 v1x1 v1x2 x7 x8 h) → L2t Q R2 a0 n0 c0 e0 v1x0 v1x1 v1x2 x7 x8 h)
 (g : G) (x8 : Int) (h : AHeap) (hj : J g x8 h) : L2 Q a0 n0 c0 e0 v1x0 v1x1 v1x2 x7 x8 h := by
  refine Loop.inv2 (fun g => E2 fun a0' n0' c0' e0' v1x0' v1x1' v1x2' x7' x8 h => a0 = a0' ∧ n0 = n0' ∧ c0 = c0' ∧ e0 = e0' ∧ v1x0 = v1x0' ∧ v1x1 = v1x1' ∧ v1x2 = v1x2' ∧ x7 = x7' ∧ J g x8 h) (fun g => E2 fun a0' n0' c0' e0' v1x0' v1x1' v1x2' x7' x8 h => a0 = a0' ∧ n0 = n0' ∧ c0 = c0' ∧ e0 = e0' ∧ v1x0 = v1x0' ∧ v1x1 = v1x1' ∧ v1x2 = v1x2' ∧ x7 = x7' ∧ ∃ g', m g' < m g ∧ J g' x8 h) m ?_ ?_ g ⟨rfl, rfl, rfl, rfl, rfl, rfl, rfl, rfl, hj⟩
  · intro g env h hi
    obtain ⟨a0', n0', c0', e0', v1x0', v1x1', v1x2', x7', x8, rfl, rfl, rfl, rfl, rfl, rfl, rfl, rfl, rfl, hj⟩ := E2elim hi
    exact L2den Q _ a0 n0 c0 e0 v1x0 v1x1 v1x2 x7 x8 h (hr g x8 h hj (fun a0' n0' c0' e0' v1x0' v1x1' v1x2' x7' x8 h => a0 = a0' ∧ n0 = n0' ∧ c0 = c0' ∧ e0 = e0' ∧ v1x0 = v1x0' ∧ v1x1 = v1x1' ∧ v1x2 = v1x2' ∧ x7 = x7' ∧ ∃ g', m g' < m g ∧ J g' x8 h) fun g' x8 h hlt hj => ⟨rfl, rfl, rfl, rfl, rfl, rfl, rfl, rfl, g', hlt, hj⟩)
  · intro g env h hi
    obtain ⟨a0', n0', c0', e0', v1x0', v1x1', v1x2', x7', x8, rfl, rfl, rfl, rfl, rfl, rfl, rfl, rfl, rfl, g', hlt, hj⟩ := E2elim hi
    exact ⟨g', hlt, rfl, rfl, rfl, rfl, rfl, rfl, rfl, rfl, hj⟩
theorem A2x0i (Q : QT) (h : AHeap) (ht :
 Q (.int .i64 (-1)) h) : A2x0 Q h :=
  At.mk (cast (by kernel_rfl) ht)
theorem call (a0 : Pt) (n0 c0 : Nat) (e0 : Bool) (v1x0 v1x1 v1x2 : AVal) (h : AHeap) (Q : QT) (ht :
 L2 Q a0 n0 c0 e0 v1x0 v1x1 v1x2 (((n0 : Nat) : Int)) 0 h) : SCall pg n_slices_IndexFunc_L_int_int [.slice a0 n0 c0 e0, .fn n_impl_ways_some_lit1 [v1x0, v1x1, v1x2]] h Q :=
  SCall.of_body kp (c := cod fn) (fn := fn) Go.Proofs.Tryz.func125 (by kernel_rfl) (by kernel_rfl) (Nat.le_of_ble_eq_true (by kernel_rfl))
    (cast (by kernel_rfl) ht)
end F_slices_IndexFunc_L_int_int__impl_ways_some_lit1
/-! Function (*loop.example/instancesearch/impl.ways).some -/
namespace F_impl_ways_some
noncomputable abbrev fn : Func := Go.Proofs.Tryz.f59
def kp : Keeps := [(2000001, [8, 7, 3, 4, 5]), (2000004, [3, 4, 5, 9]), (2000005, [9])]
noncomputable def C (p : List Nat) : Code := (cod fn).sub p
def KR (Q : QT) : KT := retA pg fn.results.toList Q
theorem call (a0 : Pt) (x1x0 x1x1 : List Nat) (x2 : Int) (h : AHeap) (Q : QT) (ht :
 letH (h ++ [.cells t_P_impl_ways [.ptr a0] false]) fun H0 => letH (H0 ++ [.cells t_impl_Need [.str x1x0, .str x1x1] false]) fun H1 => letH (H1 ++ [.cells t_int [.int .i64 x2] false]) fun H2 => xPtr (hCell H2 (.ptr (some (h.length, 0)))) fun A3 => xSome A3 fun I4 O5 => xMap (hCell H2 (.ptr (some (I4, O5 + 3)))) fun m_6 => xRow (hRow H2 (.ptr (some (H0.length, 0))) 2) fun K7 => xCons K7 fun C8 Z9 => xStr (some C8) fun S10 => xCons Z9 fun C11 Z12 => xStr (some C11) fun S13 => xNil Z12 (xInt .i64 (hCell H2 (.ptr (some (H1.length, 0)))) fun X14 => (hRow H2 (.ptr (some (H0.length, 0))) 2 = hRow H2 (.ptr (some (H0.length, 0))) 2) ∧ (hCell H2 (.ptr (some (I4, O5 + 3))) = hCell H2 (.ptr (some (I4, O5 + 3)))) ∧ (hCell H2 (.ptr (some (h.length, 0))) = hCell H2 (.ptr (some (h.length, 0)))) ∧ SCall pg n_impl_key [.agg [.str S10, .str S13], .int .i64 X14] H2 fun V15 H16 =>
 xStr (some V15) fun S17 => (hCell H16 (.ptr (some (I4, O5 + 3))) = hCell H2 (.ptr (some (I4, O5 + 3)))) ∧ (hCell H16 (.ptr (some (h.length, 0))) = hCell H2 (.ptr (some (h.length, 0)))) ∧ xMapObj H16 m_6 fun es_18 k_19 => lookS es_18 S17 fun Z20 => xBool (some (Option.getD Z20 (.bool false))) fun B21 => (hRow H16 (.ptr (some (H0.length, 0))) 2 = hRow H16 (.ptr (some (H0.length, 0))) 2) ∧ (hCell H16 (.ptr (some (h.length, 0))) = hCell H16 (.ptr (some (h.length, 0)))) ∧ bcase (Option.isSome Z20) (Q (.bool B21) H16) (xPtr (hCell H16 (.ptr (some (h.length, 0)))) fun A22 => xSome A22 fun I23 O24 => xRow (hRow H16 (.ptr (some (I23, O24 + 0))) 2) fun K25 => xCons K25 fun C26 Z27 => xSl (some C26) fun A28 N29 C30 E31 => xCons Z27 fun C32 Z33 => xSl (some C32) fun A34 N35 C36 E37 => xNil Z33 (xRow (hRow H16 (.ptr (some (H0.length, 0))) 2) fun K38 => xCons K38 fun C39 Z40 => xStr (some C39) fun S41 => xCons Z40 fun C42 Z43 => xStr (some C42) fun S44 => xNil Z43 ((hRow H16 (.ptr (some (I23, O24 + 0))) 2 = hRow H16 (.ptr (some (I23, O24 + 0))) 2) ∧ (hCell H16 (.ptr (some (h.length, 0))) = hCell H16 (.ptr (some (h.length, 0)))) ∧ SCall pg n_impl_candidates [.agg [.slice A28 N29 C30 E31, .slice A34 N35 C36 E37], .agg [.str S41, .str S44]] H16 fun V45 H46 =>
 xSl (some V45) fun A47 N48 C49 E50 => (hCell H46 (.ptr (some (h.length, 0))) = hCell H16 (.ptr (some (h.length, 0)))) ∧ SCall pg n_slices_ContainsFunc_L_int_int [.slice A47 N48 C49 E50, .fn n_impl_ways_some_lit1 [.ptr (some (h.length, 0)), .ptr (some (H0.length, 0)), .ptr (some (H1.length, 0))]] H46 fun V51 H52 =>
 xBool (some V51) fun B53 => (hRow H52 (.ptr (some (I23, O24 + 0))) 2 = hRow H46 (.ptr (some (I23, O24 + 0))) 2) ∧ (hCell H52 (.ptr (some (h.length, 0))) = hCell H46 (.ptr (some (h.length, 0)))) ∧ xPtr (hCell H52 (.ptr (some (h.length, 0)))) fun A54 => xSome A54 fun I55 O56 => xMap (hCell H52 (.ptr (some (I55, O56 + 3)))) fun m_57 => xRow (hRow H52 (.ptr (some (H0.length, 0))) 2) fun K58 => xCons K58 fun C59 Z60 => xStr (some C59) fun S61 => xCons Z60 fun C62 Z63 => xStr (some C62) fun S64 => xNil Z63 (xInt .i64 (hCell H52 (.ptr (some (H1.length, 0)))) fun X65 => (hRow H52 (.ptr (some (H0.length, 0))) 2 = hRow H52 (.ptr (some (H0.length, 0))) 2) ∧ (hCell H52 (.ptr (some (I55, O56 + 3))) = hCell H52 (.ptr (some (I55, O56 + 3)))) ∧ (hCell H52 (.ptr (some (h.length, 0))) = hCell H52 (.ptr (some (h.length, 0)))) ∧ SCall pg n_impl_key [.agg [.str S61, .str S64], .int .i64 X65] H52 fun V66 H67 =>
 xStr (some V66) fun S68 => (hCell H67 (.ptr (some (I55, O56 + 3))) = hCell H52 (.ptr (some (I55, O56 + 3)))) ∧ (hCell H67 (.ptr (some (h.length, 0))) = hCell H52 (.ptr (some (h.length, 0)))) ∧ xMp m_57 fun I69 => xMapObj H67 (some I69) fun es_70 k_71 => putS es_70 k_71 S68 (.bool B53) fun es_72 k_73 => letH (List.set H67 I69 (.map es_72 k_73)) fun H74 => Q (.bool B53) H74)))))) : SCall pg n_impl_ways_some [.ptr a0, .agg [.str x1x0, .str x1x1], .int .i64 x2] h Q :=
  SCall.of_body kp (c := cod fn) (fn := fn) Go.Proofs.Tryz.func59 (by kernel_rfl) (by kernel_rfl) (Nat.le_of_ble_eq_true (by kernel_rfl))
    (cast (by kernel_rfl) ht)
end F_impl_ways_some
/-! Function loop.example/instancesearch/impl.levelOf -/
namespace F_impl_levelOf
noncomputable abbrev fn : Func := Go.Proofs.Tryz.f35
def kp : Keeps := [(3000003, [4]), (1000003, [3, 5, 9])]
noncomputable def C (p : List Nat) : Code := (cod fn).sub p
def KR (Q : QT) : KT := retA pg fn.results.toList Q
abbrev T3 := Nat → Nat → Pt → Int → AHeap → Prop
def E3 (R3 : T3) (env : Env) (h : AHeap) : Prop := eVal 3 env fun v env => xPtr (some v) fun a => xSome a fun i3 o3 => eVal 5 env fun v env => xPtr (some v) fun a5 => eVal 9 env fun v env => eInt .i64 v fun x9 => eNil env (R3 i3 o3 a5 x9 h)
theorem E3elim {R3 : T3} {env : Env} {h : AHeap} (hi : E3 R3 env h) : ∃ i3, ∃ o3, ∃ a5, ∃ x9, env = [(3, .ptr (some (i3, o3))), (5, .ptr a5), (9, .int .i64 x9)] ∧ R3 i3 o3 a5 x9 h := by
  unfold E3 at hi
  have hi0 := hi
  clear hi
  obtain ⟨_, _, rfl, hi1⟩ := eVal_elim hi0
  obtain ⟨a, rfl, hi2⟩ := xPtr_elim hi1
  obtain ⟨i3, o3, rfl, hi3⟩ := xSome_elim hi2
  obtain ⟨_, _, rfl, hi4⟩ := eVal_elim hi3
  obtain ⟨a5, rfl, hi5⟩ := xPtr_elim hi4
  obtain ⟨_, _, rfl, hi6⟩ := eVal_elim hi5
  obtain ⟨x9, rfl, hi7⟩ := eInt_elim hi6
  obtain ⟨rfl, hi8⟩ := eNil_elim hi7
  have hi := hi8
  exact ⟨i3, o3, a5, x9, rfl, hi⟩
def K0 (Q : QT) : KT := andThen (fun env' h' => (match kp.find 4000008 with | some ks => Den pg fn.ntmps (C [1, 1, 1]) (env'.keep ks) h' (KR Q) | none => den pg fn.ntmps kp (C [1, 1, 1]) env' h' (KR Q))) (KR Q)
def K1 (Q : QT) : KT := onExit 0 (K0 Q)
def K2 (Q : QT) : KT := left kp 3 (K1 Q)
def K3 (Q : QT) (R3 : T3) : KT := rnd ((kp.find 1000003).getD []) (E3 R3) (K2 Q)
def L3 (Q : QT) (i3 o3 : Nat) (a5 : Pt) (x9 : Int) (h : AHeap) : Prop := Loop (Den pg fn.ntmps (C [1, 1, 0, 1, 0, 0])) ((kp.find 1000003).getD []) (K2 Q) [(3, .ptr (some (i3, o3))), (5, .ptr a5), (9, .int .i64 x9)] h
def A3x0 (Q : QT) (h : AHeap) : Prop := At (K1 Q) (.exit 0) [(4, .undef)] h
def L3t (Q : QT) (R3 : T3) (i3 o3 : Nat) (a5 : Pt) (x9 : Int) (h : AHeap) : Prop :=
 bcase (decide ((x9 : Int) < 7)) (xRow (hRow h (.ptr (some (i3, o3))) 2) fun K18 => xCons K18 fun C19 Z20 => xStr (some C19) fun S21 => xCons Z20 fun C22 Z23 => xStr (some C22) fun S24 => xNil Z23 (SCall pg n_impl_ways_some [.ptr a5, .agg [.str S21, .str S24], .int .i64 x9] h fun V25 H26 =>
 xBool (some V25) fun B27 => bcase B27 (Q (.int .i64 x9) H26) (R3 i3 o3 a5 (IntKind.wrap .i64 (x9 + 1)) H26))) (A3x0 Q h)
theorem L3den (Q : QT) (R3 : T3) (i3 o3 : Nat) (a5 : Pt) (x9 : Int) (h : AHeap) (ht : L3t Q R3 i3 o3 a5 x9 h) : Den pg fn.ntmps (C [1, 1, 0, 1, 0, 0]) [(3, .ptr (some (i3, o3))), (5, .ptr a5), (9, .int .i64 x9)] h (K3 Q R3) :=
  den_Den (kp := kp) (cast (by kernel_rfl) ht)
theorem L3ind (Q : QT) (i3 o3 : Nat) (a5 : Pt) {G : Type} (J : G → Int → AHeap → Prop) (m : G → Nat)
 (hr : ∀ (g : G) (x9 : Int) (h : AHeap), J g x9 h → ∀ (R3 : T3), (∀ g' (x9 : Int) (h : AHeap), m g' < m g → J g' x9 h → R3 i3 o3 a5 x9 h) → L3t Q R3 i3 o3 a5 x9 h)
 (g : G) (x9 : Int) (h : AHeap) (hj : J g x9 h) : L3 Q i3 o3 a5 x9 h := by
  refine Loop.inv2 (fun g => E3 fun i3' o3' a5' x9 h => i3 = i3' ∧ o3 = o3' ∧ a5 = a5' ∧ J g x9 h) (fun g => E3 fun i3' o3' a5' x9 h => i3 = i3' ∧ o3 = o3' ∧ a5 = a5' ∧ ∃ g', m g' < m g ∧ J g' x9 h) m ?_ ?_ g ⟨rfl, rfl, rfl, hj⟩
  · intro g env h hi
    obtain ⟨i3', o3', a5', x9, rfl, rfl, rfl, rfl, hj⟩ := E3elim hi
    exact L3den Q _ i3 o3 a5 x9 h (hr g x9 h hj (fun i3' o3' a5' x9 h => i3 = i3' ∧ o3 = o3' ∧ a5 = a5' ∧ ∃ g', m g' < m g ∧ J g' x9 h) fun g' x9 h hlt hj => ⟨rfl, rfl, rfl, g', hlt, hj⟩)
  · intro g env h hi
    obtain ⟨i3', o3', a5', x9, rfl, rfl, rfl, rfl, g', hlt, hj⟩ := E3elim hi
    exact ⟨g', hlt, rfl, rfl, rfl, hj⟩
theorem A3x0i (Q : QT) (h : AHeap) (ht :
 Q (.int .i64 (-1)) h) : A3x0 Q h :=
  At.mk (cast (by kernel_rfl) ht)
theorem call (a0x0 : Pt) (n0x0 c0x0 : Nat) (e0x0 : Bool) (a0x1 : Pt) (n0x1 c0x1 : Nat) (e0x1 : Bool) (x1x0 x1x1 : List Nat) (h : AHeap) (Q : QT) (ht :
 letH (h ++ [.cells t_impl_World [.slice a0x0 n0x0 c0x0 e0x0, .slice a0x1 n0x1 c0x1 e0x1] false]) fun H0 => letH (H0 ++ [.cells t_impl_Need [.str x1x0, .str x1x1] false]) fun H1 => xRow (hRow H1 (.ptr (some (h.length, 0))) 2) fun K2 => xCons K2 fun C3 Z4 => xSl (some C3) fun A5 N6 C7 E8 => xCons Z4 fun C9 Z10 => xSl (some C9) fun A11 N12 C13 E14 => xNil Z10 (SCall pg n_impl_begin [.agg [.slice A5 N6 C7 E8, .slice A11 N12 C13 E14]] H1 fun V15 H16 =>
 xPtr (some V15) fun A17 => L3 Q H0.length 0 A17 0 H16)) : SCall pg n_impl_levelOf [.agg [.slice a0x0 n0x0 c0x0 e0x0, .slice a0x1 n0x1 c0x1 e0x1], .agg [.str x1x0, .str x1x1]] h Q :=
  SCall.of_body kp (c := cod fn) (fn := fn) Go.Proofs.Tryz.func35 (by kernel_rfl) (by kernel_rfl) (Nat.le_of_ble_eq_true (by kernel_rfl))
    (cast (by kernel_rfl) ht)
end F_impl_levelOf
/-! Function loop.example/instancesearch/impl.begin -/
namespace F_impl_begin
noncomputable abbrev fn : Func := Go.Proofs.Tryz.f58
def kp : Keeps := []
noncomputable def C (p : List Nat) : Code := (cod fn).sub p
def KR (Q : QT) : KT := retA pg fn.results.toList Q
theorem call (a0x0 : Pt) (n0x0 c0x0 : Nat) (e0x0 : Bool) (a0x1 : Pt) (n0x1 c0x1 : Nat) (e0x1 : Bool) (h : AHeap) (Q : QT) (ht :
 letH (h ++ [.cells t_impl_World [.slice a0x0 n0x0 c0x0 e0x0, .slice a0x1 n0x1 c0x1 e0x1] false]) fun H0 => xRow (hRow H0 (.ptr (some (h.length, 0))) 2) fun K1 => xCons K1 fun C2 Z3 => xSl (some C2) fun A4 N5 C6 E7 => xCons Z3 fun C8 Z9 => xSl (some C8) fun A10 N11 C12 E13 => xNil Z9 (letH (H0 ++ [.map [] 0]) fun H14 => letH (H14 ++ [.map [] 0]) fun H15 => letH (H15 ++ [.cells t_impl_ways [.slice A4 N5 C6 E7, .slice A10 N11 C12 E13, .map ((some H0.length)), .map ((some H14.length)), .bool true] false]) fun H16 => Q (.ptr (some (H15.length, 0))) H16)) : SCall pg n_impl_begin [.agg [.slice a0x0 n0x0 c0x0 e0x0, .slice a0x1 n0x1 c0x1 e0x1]] h Q :=
  SCall.of_body kp (c := cod fn) (fn := fn) Go.Proofs.Tryz.func58 (by kernel_rfl) (by kernel_rfl) (Nat.le_of_ble_eq_true (by kernel_rfl))
    (cast (by kernel_rfl) ht)
end F_impl_begin
/-! Function loop.example/instancesearch/impl.LevelOf -/
namespace F_impl_LevelOf
noncomputable abbrev fn : Func := Go.Proofs.Tryz.f13
def kp : Keeps := []
noncomputable def C (p : List Nat) : Code := (cod fn).sub p
def KR (Q : QT) : KT := retA pg fn.results.toList Q
theorem call (a0x0 : Pt) (n0x0 c0x0 : Nat) (e0x0 : Bool) (a0x1 : Pt) (n0x1 c0x1 : Nat) (e0x1 : Bool) (x1x0 x1x1 : List Nat) (h : AHeap) (Q : QT) (ht :
 letH (h ++ [.cells t_impl_World [.slice a0x0 n0x0 c0x0 e0x0, .slice a0x1 n0x1 c0x1 e0x1] false]) fun H0 => letH (H0 ++ [.cells t_impl_Need [.str x1x0, .str x1x1] false]) fun H1 => xRow (hRow H1 (.ptr (some (h.length, 0))) 2) fun K2 => xCons K2 fun C3 Z4 => xSl (some C3) fun A5 N6 C7 E8 => xCons Z4 fun C9 Z10 => xSl (some C9) fun A11 N12 C13 E14 => xNil Z10 (xRow (hRow H1 (.ptr (some (H0.length, 0))) 2) fun K15 => xCons K15 fun C16 Z17 => xStr (some C16) fun S18 => xCons Z17 fun C19 Z20 => xStr (some C19) fun S21 => xNil Z20 (SCall pg n_impl_NeedValid [.agg [.slice A5 N6 C7 E8, .slice A11 N12 C13 E14], .agg [.str S18, .str S21]] H1 fun V22 H23 =>
 xBool (some V22) fun B24 => bcase (!B24) (Q (.int .i64 (-1)) H23) (xRow (hRow H23 (.ptr (some (h.length, 0))) 2) fun K25 => xCons K25 fun C26 Z27 => xSl (some C26) fun A28 N29 C30 E31 => xCons Z27 fun C32 Z33 => xSl (some C32) fun A34 N35 C36 E37 => xNil Z33 (xRow (hRow H23 (.ptr (some (H0.length, 0))) 2) fun K38 => xCons K38 fun C39 Z40 => xStr (some C39) fun S41 => xCons Z40 fun C42 Z43 => xStr (some C42) fun S44 => xNil Z43 (SCall pg n_impl_levelOf [.agg [.slice A28 N29 C30 E31, .slice A34 N35 C36 E37], .agg [.str S41, .str S44]] H23 fun V45 H46 =>
 xInt .i64 (some V45) fun X47 => Q (.int .i64 X47) H46)))))) : SCall pg n_impl_LevelOf [.agg [.slice a0x0 n0x0 c0x0 e0x0, .slice a0x1 n0x1 c0x1 e0x1], .agg [.str x1x0, .str x1x1]] h Q :=
  SCall.of_body kp (c := cod fn) (fn := fn) Go.Proofs.Tryz.func13 (by kernel_rfl) (by kernel_rfl) (Nat.le_of_ble_eq_true (by kernel_rfl))
    (cast (by kernel_rfl) ht)
end F_impl_LevelOf
end Go.Sim

/- Printed by wip/tool: what the functions' bodies do, in the words of 'den'. -/
set_option maxRecDepth 100000
set_option linter.unusedVariables false
namespace Go.Sim
open Go Go.RowKit
/-! Function loop.example/instancesearch/impl.key -/
namespace F_impl_key
noncomputable abbrev fn : Func := Go.Proofs.Tryz.f90
def kp : Keeps := []
noncomputable def C (p : List Nat) : Code := (cod fn).sub p
def KR (Q : QT) : KT := retA pg fn.results.toList Q
theorem call (x0x0 x0x1 : List Nat) (x1 : Int) (h : AHeap) (Q : QT) (ht :
 letH (h ++ [.cells t_impl_Need [.str x0x0, .str x0x1] false]) fun H0 => xRow (hRow H0 (.ptr (some (h.length, 0))) 2) fun K1 => xCons K1 fun C2 Z3 => xStr (some C2) fun S4 => xCons Z3 fun C5 Z6 => xStr (some C5) fun S7 => xNil Z6 (SCall pg n_impl_FormatNeed [.agg [.str S4, .str S7]] H0 fun V8 H9 =>
 xStr (some V8) fun S10 => List.length S10 + List.length [32] ≤ 9223372036854775807 ∧ (SCall pg n_strconv_Itoa [.int .i64 x1] H9 fun V11 H12 =>
 xStr (some V11) fun S13 => List.length (S10 ++ [32]) + List.length S13 ≤ 9223372036854775807 ∧ (Q (.str ((S10 ++ [32]) ++ S13)) H12)))) : SCall pg n_impl_key [.agg [.str x0x0, .str x0x1], .int .i64 x1] h Q :=
  SCall.of_body kp (c := cod fn) (fn := fn) Go.Proofs.Tryz.func90 (by kernel_rfl) (by kernel_rfl) (Nat.le_of_ble_eq_true (by kernel_rfl))
    (cast (by kernel_rfl) ht)
end F_impl_key
/-! Function slices.ContainsFunc[[]loop.example/instancesearch/impl.Need,loop.example/instancesearch/impl.Need] -/
namespace F_slices_ContainsFunc_L_impl_Need_impl_Need__impl_ways_some_lit1_lit1
noncomputable abbrev fn : Func := Go.Proofs.Tryz.f95
def kp : Keeps := []
noncomputable def C (p : List Nat) : Code := (cod fn).sub p
def KR (Q : QT) : KT := retA pg fn.results.toList Q
theorem call (a0 : Pt) (n0 c0 : Nat) (e0 : Bool) (v1x0 v1x1 : AVal) (h : AHeap) (Q : QT) (ht :
 SCall pg n_slices_IndexFunc_L_impl_Need_impl_Need [.slice a0 n0 c0 e0, .fn n_impl_ways_some_lit1_lit1 [v1x0, v1x1]] h fun V0 H1 =>
 xInt .i64 (some V0) fun X2 => Q (.bool (decide ((X2 : Int) ≥ 0))) H1) : SCall pg n_slices_ContainsFunc_L_impl_Need_impl_Need [.slice a0 n0 c0 e0, .fn n_impl_ways_some_lit1_lit1 [v1x0, v1x1]] h Q :=
  SCall.of_body kp (c := cod fn) (fn := fn) Go.Proofs.Tryz.func95 (by kernel_rfl) (by kernel_rfl) (Nat.le_of_ble_eq_true (by kernel_rfl))
    (cast (by kernel_rfl) ht)
end F_slices_ContainsFunc_L_impl_Need_impl_Need__impl_ways_some_lit1_lit1
/-! Function slices.IndexFunc[[]loop.example/instancesearch/impl.Need,loop.example/instancesearch/impl.Need] -/
namespace F_slices_IndexFunc_L_impl_Need_impl_Need__impl_ways_some_lit1_lit1
noncomputable abbrev fn : Func := Go.Proofs.Tryz.f131
def kp : Keeps := [(3000002, [4]), (1000002, [0, 1, 7, 8])]
noncomputable def C (p : List Nat) : Code := (cod fn).sub p
def KR (Q : QT) : KT := retA pg fn.results.toList Q
abbrev T2 := Pt → Nat → Nat → Bool → AVal → AVal → Int → Int → AHeap → Prop
def E2 (R2 : T2) (env : Env) (h : AHeap) : Prop := eVal 0 env fun v env => xSl (some v) fun a0 n0 c0 e0 => eVal 1 env fun v env => eFn n_impl_ways_some_lit1_lit1 v fun cs => xCons cs fun c cs' => xAny (some c) fun v1x0 => xCons cs' fun c cs'' => xAny (some c) fun v1x1 => xNil cs'' (eVal 7 env fun v env => eInt .i64 v fun x7 => eVal 8 env fun v env => eInt .i64 v fun x8 => eNil env (R2 a0 n0 c0 e0 v1x0 v1x1 x7 x8 h))
theorem E2elim {R2 : T2} {env : Env} {h : AHeap} (hi : E2 R2 env h) : ∃ a0, ∃ n0, ∃ c0, ∃ e0, ∃ v1x0, ∃ v1x1, ∃ x7, ∃ x8, env = [(0, .slice a0 n0 c0 e0), (1, .fn n_impl_ways_some_lit1_lit1 [v1x0, v1x1]), (7, .int .i64 x7), (8, .int .i64 x8)] ∧ R2 a0 n0 c0 e0 v1x0 v1x1 x7 x8 h := by
  unfold E2 at hi
  have hi0 := hi
  clear hi
  obtain ⟨_, _, rfl, hi1⟩ := eVal_elim hi0
  obtain ⟨a0, n0, c0, e0, rfl, hi2⟩ := xSl_elim hi1
  obtain ⟨_, _, rfl, hi3⟩ := eVal_elim hi2
  obtain ⟨cs, rfl, hi4⟩ := eFn_elim hi3
  obtain ⟨c, cs', rfl, hi5⟩ := xCons_elim hi4
  obtain ⟨v1x0, hx, hi6⟩ := xAny_elim hi5
  replace hx := (Option.some.inj hx).symm
  subst hx
  obtain ⟨c, cs'', rfl, hi7⟩ := xCons_elim hi6
  obtain ⟨v1x1, hx, hi8⟩ := xAny_elim hi7
  replace hx := (Option.some.inj hx).symm
  subst hx
  obtain ⟨rfl, hi9⟩ := xNil_elim hi8
  obtain ⟨_, _, rfl, hi10⟩ := eVal_elim hi9
  obtain ⟨x7, rfl, hi11⟩ := eInt_elim hi10
  obtain ⟨_, _, rfl, hi12⟩ := eVal_elim hi11
  obtain ⟨x8, rfl, hi13⟩ := eInt_elim hi12
  obtain ⟨rfl, hi14⟩ := eNil_elim hi13
  have hi := hi14
  exact ⟨a0, n0, c0, e0, v1x0, v1x1, x7, x8, rfl, hi⟩
def K0 (Q : QT) : KT := andThen (fun env' h' => (match kp.find 4000007 with | some ks => Den pg fn.ntmps (C [1, 1]) (env'.keep ks) h' (KR Q) | none => den pg fn.ntmps kp (C [1, 1]) env' h' (KR Q))) (KR Q)
def K1 (Q : QT) : KT := onExit 0 (K0 Q)
def K2 (Q : QT) : KT := left kp 2 (K1 Q)
def K3 (Q : QT) (R2 : T2) : KT := rnd ((kp.find 1000002).getD []) (E2 R2) (K2 Q)
def L2 (Q : QT) (a0 : Pt) (n0 c0 : Nat) (e0 : Bool) (v1x0 v1x1 : AVal) (x7 x8 : Int) (h : AHeap) : Prop := Loop (Den pg fn.ntmps (C [1, 0, 1, 0, 0])) ((kp.find 1000002).getD []) (K2 Q) [(0, .slice a0 n0 c0 e0), (1, .fn n_impl_ways_some_lit1_lit1 [v1x0, v1x1]), (7, .int .i64 x7), (8, .int .i64 x8)] h
def A2x0 (Q : QT) (h : AHeap) : Prop := At (K1 Q) (.exit 0) [(4, .undef)] h
def L2t (Q : QT) (R2 : T2) (a0 : Pt) (n0 c0 : Nat) (e0 : Bool) (v1x0 v1x1 : AVal) (x7 x8 : Int) (h : AHeap) : Prop :=
 bcase (decide ((x8 : Int) < x7)) ((0 ≤ (x8 : Int) ∧ (x8 : Int) < (n0 : Nat)) ∧ (xSome a0 fun I0 O1 => xRow (hRow h (.ptr (some (I0, O1 + (Int.toNat x8) * 2))) 2) fun K2 => xCons K2 fun C3 Z4 => xStr (some C3) fun S5 => xCons Z4 fun C6 Z7 => xStr (some C6) fun S8 => xNil Z7 (SCall pg n_impl_ways_some_lit1_lit1 [.agg [.str S5, .str S8], v1x0, v1x1] h fun V9 H10 =>
 xBool (some V9) fun B11 => bcase B11 (Q (.int .i64 x8) H10) (R2 a0 n0 c0 e0 v1x0 v1x1 x7 (IntKind.wrap .i64 (x8 + 1)) H10)))) (A2x0 Q h)
theorem L2den (Q : QT) (R2 : T2) (a0 : Pt) (n0 c0 : Nat) (e0 : Bool) (v1x0 v1x1 : AVal) (x7 x8 : Int) (h : AHeap) (ht : L2t Q R2 a0 n0 c0 e0 v1x0 v1x1 x7 x8 h) : Den pg fn.ntmps (C [1, 0, 1, 0, 0]) [(0, .slice a0 n0 c0 e0), (1, .fn n_impl_ways_some_lit1_lit1 [v1x0, v1x1]), (7, .int .i64 x7), (8, .int .i64 x8)] h (K3 Q R2) :=
  den_Den (kp := kp) (cast (by kernel_rfl) ht)
theorem L2ind (Q : QT) (a0 : Pt) (n0 c0 : Nat) (e0 : Bool) (v1x0 v1x1 : AVal) (x7 : Int) {G : Type} (J : G → Int → AHeap → Prop) (m : G → Nat)
 (hr : ∀ (g : G) (x8 : Int) (h : AHeap), J g x8 h → ∀ (R2 : T2), (∀ g' (x8 : Int) (h : AHeap), m g' < m g → J g' x8 h → R2 a0 n0 c0 e0 v1x0 v1x1 x7 x8 h) → L2t Q R2 a0 n0 c0 e0 v1x0 v1x1 x7 x8 h)
 (g : G) (x8 : Int) (h : AHeap) (hj : J g x8 h) : L2 Q a0 n0 c0 e0 v1x0 v1x1 x7 x8 h := by
  refine Loop.inv2 (fun g => E2 fun a0' n0' c0' e0' v1x0' v1x1' x7' x8 h => a0 = a0' ∧ n0 = n0' ∧ c0 = c0' ∧ e0 = e0' ∧ v1x0 = v1x0' ∧ v1x1 = v1x1' ∧ x7 = x7' ∧ J g x8 h) (fun g => E2 fun a0' n0' c0' e0' v1x0' v1x1' x7' x8 h => a0 = a0' ∧ n0 = n0' ∧ c0 = c0' ∧ e0 = e0' ∧ v1x0 = v1x0' ∧ v1x1 = v1x1' ∧ x7 = x7' ∧ ∃ g', m g' < m g ∧ J g' x8 h) m ?_ ?_ g ⟨rfl, rfl, rfl, rfl, rfl, rfl, rfl, hj⟩
  · intro g env h hi
    obtain ⟨a0', n0', c0', e0', v1x0', v1x1', x7', x8, rfl, rfl, rfl, rfl, rfl, rfl, rfl, rfl, hj⟩ := E2elim hi
    exact L2den Q _ a0 n0 c0 e0 v1x0 v1x1 x7 x8 h (hr g x8 h hj (fun a0' n0' c0' e0' v1x0' v1x1' x7' x8 h => a0 = a0' ∧ n0 = n0' ∧ c0 = c0' ∧ e0 = e0' ∧ v1x0 = v1x0' ∧ v1x1 = v1x1' ∧ x7 = x7' ∧ ∃ g', m g' < m g ∧ J g' x8 h) fun g' x8 h hlt hj => ⟨rfl, rfl, rfl, rfl, rfl, rfl, rfl, g', hlt, hj⟩)
  · intro g env h hi
    obtain ⟨a0', n0', c0', e0', v1x0', v1x1', x7', x8, rfl, rfl, rfl, rfl, rfl, rfl, rfl, rfl, g', hlt, hj⟩ := E2elim hi
    exact ⟨g', hlt, rfl, rfl, rfl, rfl, rfl, rfl, rfl, hj⟩
theorem A2x0i (Q : QT) (h : AHeap) (ht :
 Q (.int .i64 (-1)) h) : A2x0 Q h :=
  At.mk (cast (by kernel_rfl) ht)
theorem call (a0 : Pt) (n0 c0 : Nat) (e0 : Bool) (v1x0 v1x1 : AVal) (h : AHeap) (Q : QT) (ht :
 L2 Q a0 n0 c0 e0 v1x0 v1x1 (((n0 : Nat) : Int)) 0 h) : SCall pg n_slices_IndexFunc_L_impl_Need_impl_Need [.slice a0 n0 c0 e0, .fn n_impl_ways_some_lit1_lit1 [v1x0, v1x1]] h Q :=
  SCall.of_body kp (c := cod fn) (fn := fn) Go.Proofs.Tryz.func131 (by kernel_rfl) (by kernel_rfl) (Nat.le_of_ble_eq_true (by kernel_rfl))
    (cast (by kernel_rfl) ht)
end F_slices_IndexFunc_L_impl_Need_impl_Need__impl_ways_some_lit1_lit1
/-! Function (*loop.example/instancesearch/impl.ways).some$1$1 -/
namespace F_impl_ways_some_lit1_lit1
noncomputable abbrev fn : Func := Go.Proofs.Tryz.f96
def kp : Keeps := []
noncomputable def C (p : List Nat) : Code := (cod fn).sub p
def KR (Q : QT) : KT := retA pg fn.results.toList Q
theorem call (x0x0 x0x1 : List Nat) (v1 v2 : AVal) (h : AHeap) (Q : QT) (ht :
 letH (h ++ [.cells t_impl_Need [.str x0x0, .str x0x1] false]) fun H0 => xPtr (hCell H0 (v1)) fun A1 => xRow (hRow H0 (.ptr (some (h.length, 0))) 2) fun K2 => xCons K2 fun C3 Z4 => xStr (some C3) fun S5 => xCons Z4 fun C6 Z7 => xStr (some C6) fun S8 => xNil Z7 (xInt .i64 (hCell H0 (v2)) fun X9 => SCall pg n_impl_ways_some [.ptr A1, .agg [.str S5, .str S8], .int .i64 (IntKind.wrap .i64 (X9 - 1))] H0 fun V10 H11 =>
 xBool (some V10) fun B12 => Q (.bool (!B12)) H11)) : SCall pg n_impl_ways_some_lit1_lit1 [.agg [.str x0x0, .str x0x1], v1, v2] h Q :=
  SCall.of_body kp (c := cod fn) (fn := fn) Go.Proofs.Tryz.func96 (by kernel_rfl) (by kernel_rfl) (Nat.le_of_ble_eq_true (by kernel_rfl))
    (cast (by kernel_rfl) ht)
end F_impl_ways_some_lit1_lit1
/-! Function (*loop.example/instancesearch/impl.ways).some$1 -/
namespace F_impl_ways_some_lit1
noncomputable abbrev fn : Func := Go.Proofs.Tryz.f93
def kp : Keeps := [(2000001, [7, 6, 3, 1])]
noncomputable def C (p : List Nat) : Code := (cod fn).sub p
def KR (Q : QT) : KT := retA pg fn.results.toList Q
theorem call (x0 : Int) (v1 v2 v3 : AVal) (h : AHeap) (Q : QT) (ht :
 fieldAddrA pg t_impl_Need v2 1 fun V0 => xPtr (hCell h (v1)) fun A1 => xSome A1 fun I2 O3 => xSl (hCell h (.ptr (some (I2, O3 + 0 + 1)))) fun A4 N5 C6 E7 => (0 ≤ (x0 : Int) ∧ (x0 : Int) < (N5 : Nat)) ∧ (xSome A4 fun I8 O9 => xRow (hRow h (.ptr (some (I8, O9 + (Int.toNat x0) * 3))) 3) fun K10 => xCons K10 fun C11 Z12 => xStr (some C11) fun S13 => xCons Z12 fun C14 Z15 => xStr (some C14) fun S16 => xCons Z15 fun C17 Z18 => xSl (some C17) fun A19 N20 C21 E22 => xNil Z18 (xStr (hCell h (V0)) fun S23 => (hRow h (.ptr (some (I8, O9 + (Int.toNat x0) * 3))) 3 = hRow h (.ptr (some (I8, O9 + (Int.toNat x0) * 3))) 3) ∧ (hCell h (.ptr (some (I2, O3 + 0 + 1))) = hCell h (.ptr (some (I2, O3 + 0 + 1)))) ∧ (hCell h (v1) = hCell h (v1)) ∧ SCall pg n_impl_Instance_needs [.agg [.str S13, .str S16, .slice A19 N20 C21 E22], .str S23] h fun V24 H25 =>
 xTup V24 fun K26 => xCons K26 fun C27 Z28 => xSl (some C27) fun A29 N30 C31 E32 => xCons Z28 fun C33 Z34 => xBool (some C33) fun B35 => xNil Z34 ((hCell H25 (.ptr (some (I2, O3 + 0 + 1))) = hCell h (.ptr (some (I2, O3 + 0 + 1)))) ∧ (hCell H25 (v1) = hCell h (v1)) ∧ bcase B35 (bcase ((((N30 : Nat) : Int) : Int) == 0) (SCall pg n_slices_ContainsFunc_L_impl_Need_impl_Need [.slice A29 N30 C31 E32, .fn n_impl_ways_some_lit1_lit1 [v1, v3]] H25 fun V36 H37 =>
 xBool (some V36) fun B38 => Q (.bool (!B38)) H37) (xInt .i64 (hCell H25 (v3)) fun X39 => bcase (decide ((X39 : Int) > 0)) (SCall pg n_slices_ContainsFunc_L_impl_Need_impl_Need [.slice A29 N30 C31 E32, .fn n_impl_ways_some_lit1_lit1 [v1, v3]] H25 fun V40 H41 =>
 xBool (some V40) fun B42 => Q (.bool (!B42)) H41) (Q (.bool false) H25))) (Q (.bool false) H25))))) : SCall pg n_impl_ways_some_lit1 [.int .i64 x0, v1, v2, v3] h Q :=
  SCall.of_body kp (c := cod fn) (fn := fn) Go.Proofs.Tryz.func93 (by kernel_rfl) (by kernel_rfl) (Nat.le_of_ble_eq_true (by kernel_rfl))
    (cast (by kernel_rfl) ht)
end F_impl_ways_some_lit1
end Go.Sim
