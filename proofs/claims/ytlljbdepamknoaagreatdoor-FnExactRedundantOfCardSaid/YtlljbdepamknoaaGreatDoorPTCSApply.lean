/- A part of the proof of a statement of this seat: see the text that holds the theorem. No condition. -/
import Derived.Test.YtlljbdepamknoaaGreatDoorNm
set_option linter.unusedVariables false
set_option linter.unusedSimpArgs false
set_option linter.all false
set_option maxRecDepth 100000
set_option linter.unusedVariables false
namespace Go.Sim
open Go Go.RowKit
namespace Zed
noncomputable abbrev fn : Func := Go.Proofs.Tryz.f5
def kp : Zbz := [(4000010, [6, 1, 7, 4, 8, 5]), (2000010, [45, 6, 7, 4, 8, 5, 1]), (4000016, [7, 1, 4, 5]), (4000027, [7, 10])]
noncomputable def C (p : List Nat) : Code := (cod fn).sub p
def KR (Q : QT) : KT := Zes pg fn.results.toList Q
def J10 (Q : QT) (i6 o6 i1 o1 : Nat) (a7 : Pt) (n7 c7 : Nat) (e7 : Bool) (a4 : Pt) (n4 c4 : Nat) (e4 x8 x5 : Bool) (h : Zaa) : Prop := Den pg fn.ntmps (C [1, 1, 1, 1, 1, 1, 1, 1]) [(6, .ptr (some (i6, o6))), (1, .ptr (some (i1, o1))), (7, .slice a7 n7 c7 e7), (4, .slice a4 n4 c4 e4), (8, .bool x8), (5, .bool x5)] h (KR Q)
def J16 (Q : QT) (a7 : Pt) (n7 c7 : Nat) (e7 : Bool) (i1 o1 : Nat) (a4 : Pt) (n4 c4 : Nat) (e4 x5 : Bool) (h : Zaa) : Prop := Den pg fn.ntmps (C [1, 1, 1, 1, 1, 1, 1, 1, 1, 1, 1, 1]) [(7, .slice a7 n7 c7 e7), (1, .ptr (some (i1, o1))), (4, .slice a4 n4 c4 e4), (5, .bool x5)] h (KR Q)
def J27 (Q : QT) (a7 : Pt) (n7 c7 : Nat) (e7 : Bool) (x10 : Int) (h : Zaa) : Prop := Den pg fn.ntmps (C [1, 1, 1, 1, 1, 1, 1, 1, 1, 1, 1, 1, 1, 1, 1, 1, 1, 1, 1, 1]) [(7, .slice a7 n7 c7 e7), (10, .int .i64 x10)] h (KR Q)
theorem J10i (Q : QT) (i6 o6 i1 o1 : Nat) (a7 : Pt) (n7 c7 : Nat) (e7 : Bool) (a4 : Pt) (n4 c4 : Nat) (e4 x8 x5 : Bool) (h : Zaa) (ht :
 Zdh (Zbv h (.ptr (some (i6, o6))) 2) fun K115 => Zap K115 fun C116 Z117 => xSl (some C116) fun A118 N119 C120 E121 => Zap Z117 fun C122 Z123 => xSl (some C122) fun A124 N125 C126 E127 => Zcr Z123 (Zdh (Zbv h (.ptr (some (i1, o1))) 2) fun K128 => Zap K128 fun C129 Z130 => xSl (some C129) fun A131 N132 C133 E134 => Zap Z130 fun C135 Z136 => xSl (some C135) fun A137 N138 C139 E140 => Zcr Z136 ((Zbv h (.ptr (some (i6, o6))) 2 = Zbv h (.ptr (some (i6, o6))) 2) ∧ Zae pg Zhc [.agg [.slice A131 N132 C133 E134, .slice A137 N138 C139 E140]] h fun V141 H142 =>
 Zuw V141 fun K143 => Zap K143 fun C144 Z145 => xSl (some C144) fun A146 N147 C148 E149 => Zap Z145 fun C150 Z151 => xSl (some C150) fun A152 N153 C154 E155 => Zcr Z151 ((Zbv H142 (.ptr (some (i6, o6))) 2 = Zbv h (.ptr (some (i6, o6))) 2) ∧ Zae pg Znx [.agg [.slice A118 N119 C120 E121, .slice A124 N125 C126 E127], .agg [.slice A146 N147 C148 E149, .slice A152 N153 C154 E155]] H142 fun V156 H157 =>
 Zci (some V156) fun B158 => bcase (!B158) (Q (.bool false) H157) (Zdh (Zbv H157 (.ptr (some (i6, o6))) 2) fun K159 => Zap K159 fun C160 Z161 => xSl (some C160) fun A162 N163 C164 E165 => Zap Z161 fun C166 Z167 => xSl (some C166) fun A168 N169 C170 E171 => Zcr Z167 (Zae pg Zln [.agg [.slice A162 N163 C164 E165, .slice A168 N169 C170 E171], .int .i64 1] H157 fun V172 H173 =>
 Zen .i64 (some V172) fun X174 => bcase (decide ((X174 : Int) < 0)) (Q (.bool false) H173) (Zae pg Zif [.slice a7 n7 c7 e7, .slice a4 n4 c4 e4] H173 fun V175 H176 =>
 Zci (some V175) fun B177 => bcase (!B177) (Q (.bool false) H176) (bcase (!(x8 == x5)) (Q (.bool false) H176) (J16 Q a7 n7 c7 e7 i1 o1 a4 n4 c4 e4 x5 H176))))))))) : J10 Q i6 o6 i1 o1 a7 n7 c7 e7 a4 n4 c4 e4 x8 x5 h :=
 Zba (kp := kp) (cast (by kernel_rfl) ht)
theorem J16i (Q : QT) (a7 : Pt) (n7 c7 : Nat) (e7 : Bool) (i1 o1 : Nat) (a4 : Pt) (n4 c4 : Nat) (e4 x5 : Bool) (h : Zaa) (ht :
 Zae pg Zmo [.slice a7 n7 c7 e7, .int .i64 1] h fun V178 H179 =>
 Zen .i64 (some V178) fun X180 => Zae pg Zhq [.slice a7 n7 c7 e7, .int .i64 1] H179 fun V181 H182 =>
 Zen .i64 (some V181) fun X183 => bcase (decide ((X183 : Int) < 0)) (Q (.bool false) H182) (bcase (!((X183 : Int) == X180)) (Q (.bool false) H182) (Zdh (Zbv H182 (.ptr (some (i1, o1))) 2) fun K184 => Zap K184 fun C185 Z186 => xSl (some C185) fun A187 N188 C189 E190 => Zap Z186 fun C191 Z192 => xSl (some C191) fun A193 N194 C195 E196 => Zcr Z192 (Zae pg Zhc [.agg [.slice A187 N188 C189 E190, .slice A193 N194 C195 E196]] H182 fun V197 H198 =>
 Zuw V197 fun K199 => Zap K199 fun C200 Z201 => xSl (some C200) fun A202 N203 C204 E205 => Zap Z201 fun C206 Z207 => xSl (some C206) fun A208 N209 C210 E211 => Zcr Z207 (Zae pg Zhf [.agg [.slice A202 N203 C204 E205, .slice A208 N209 C210 E211]] H198 fun V212 H213 =>
 Zva V212 fun K214 => Zap K214 fun C215 Z216 => xSl (some C215) fun A217 N218 C219 E220 => Zap Z216 fun C221 Z222 => Zci (some C221) fun B223 => Zcr Z222 (Zae pg Zif [.slice A217 N218 C219 E220, .slice a4 n4 c4 e4] H213 fun V224 H225 =>
 Zci (some V224) fun B226 => bcase (!B226) (Q (.bool false) H225) (bcase (!(B223 == x5)) (Q (.bool false) H225) (J27 Q a7 n7 c7 e7 X180 H225)))))))) : J16 Q a7 n7 c7 e7 i1 o1 a4 n4 c4 e4 x5 h :=
 Zba (kp := kp) (cast (by kernel_rfl) ht)
theorem J27i (Q : QT) (a7 : Pt) (n7 c7 : Nat) (e7 : Bool) (x10 : Int) (h : Zaa) (ht :
 Zae pg Zhq [.slice a7 n7 c7 e7, .int .i64 1] h fun V227 H228 =>
 Zen .i64 (some V227) fun X229 => bcase (decide ((X229 : Int) < 0)) (Q (.bool false) H228) (bcase (!((X229 : Int) == x10)) (Q (.bool false) H228) (Q (.bool true) H228))) : J27 Q a7 n7 c7 e7 x10 h :=
 Zba (kp := kp) (cast (by kernel_rfl) ht)
theorem call (a0x0 : Pt) (n0x0 c0x0 : Nat) (e0x0 : Bool) (a0x1 : Pt) (n0x1 c0x1 : Nat) (e0x1 : Bool) (h : Zaa) (Q : QT) (ht :
 Zdc (h ++ [.cells Zez [.slice a0x0 n0x0 c0x0 e0x0, .slice a0x1 n0x1 c0x1 e0x1] false]) fun H0 => Zdh (Zbv H0 (.ptr (some (h.length, 0))) 2) fun K1 => Zap K1 fun C2 Z3 => xSl (some C2) fun A4 N5 C6 E7 => Zap Z3 fun C8 Z9 => xSl (some C8) fun A10 N11 C12 E13 => Zcr Z9 (Zae pg Znn [.agg [.slice A4 N5 C6 E7, .slice A10 N11 C12 E13], .int .i64 1048576] H0 fun V14 H15 =>
 Zen .i64 (some V14) fun X16 => bcase (decide ((X16 : Int) < 0)) (Q (.bool true) H15) (Zdh (Zbv H15 (.ptr (some (h.length, 0))) 2) fun K17 => Zap K17 fun C18 Z19 => xSl (some C18) fun A20 N21 C22 E23 => Zap Z19 fun C24 Z25 => xSl (some C24) fun A26 N27 C28 E29 => Zcr Z25 (Zae pg Zhc [.agg [.slice A20 N21 C22 E23, .slice A26 N27 C28 E29]] H15 fun V30 H31 =>
 Zuw V30 fun K32 => Zap K32 fun C33 Z34 => xSl (some C33) fun A35 N36 C37 E38 => Zap Z34 fun C39 Z40 => xSl (some C39) fun A41 N42 C43 E44 => Zcr Z40 (Zae pg Zkb [.agg [.slice A35 N36 C37 E38, .slice A41 N42 C43 E44]] H31 fun V45 H46 =>
 Zva V45 fun K47 => Zap K47 fun C48 Z49 => xSl (some C48) fun A50 N51 C52 E53 => Zap Z49 fun C54 Z55 => Zci (some C54) fun B56 => Zcr Z55 (Zdh (Zbv H46 (.ptr (some (h.length, 0))) 2) fun K57 => Zap K57 fun C58 Z59 => xSl (some C58) fun A60 N61 C62 E63 => Zap Z59 fun C64 Z65 => xSl (some C64) fun A66 N67 C68 E69 => Zcr Z65 (Zae pg Zhc [.agg [.slice A60 N61 C62 E63, .slice A66 N67 C68 E69]] H46 fun V70 H71 =>
 Zuw V70 fun K72 => Zap K72 fun C73 Z74 => xSl (some C73) fun A75 N76 C77 E78 => Zap Z74 fun C79 Z80 => xSl (some C79) fun A81 N82 C83 E84 => Zcr Z80 (Zdc (H71 ++ [.cells Zaf [.slice none 0 0 true, .slice none 0 0 true] false]) fun H85 => Zcp (Zbk H85 (.ptr (some (H71.length, 0))) [.slice A75 N76 C77 E78, .slice A81 N82 C83 E84]) fun H86 => Zdh (Zbv H86 (.ptr (some (H71.length, 0))) 2) fun K87 => Zap K87 fun C88 Z89 => xSl (some C88) fun A90 N91 C92 E93 => Zap Z89 fun C94 Z95 => xSl (some C94) fun A96 N97 C98 E99 => Zcr Z95 (Zae pg Zhf [.agg [.slice A90 N91 C92 E93, .slice A96 N97 C98 E99]] H86 fun V100 H101 =>
 Zva V100 fun K102 => Zap K102 fun C103 Z104 => xSl (some C103) fun A105 N106 C107 E108 => Zap Z104 fun C109 Z110 => Zci (some C109) fun B111 => Zcr Z110 (Zae pg Zif [.slice A105 N106 C107 E108, .slice A50 N51 C52 E53] H101 fun V112 H113 =>
 Zci (some V112) fun B114 => bcase (!B114) (Q (.bool false) H113) (bcase (!(B111 == B56)) (Q (.bool false) H113) (J10 Q H71.length 0 h.length 0 A105 N106 C107 E108 A50 N51 C52 E53 B111 B56 H113)))))))))))) : Zae pg Zja [.agg [.slice a0x0 n0x0 c0x0 e0x0, .slice a0x1 n0x1 c0x1 e0x1]] h Q :=
 Zae.of_body kp (c := cod fn) (fn := fn) Go.Proofs.Tryz.func5 (by kernel_rfl) (by kernel_rfl) (Nat.le_of_ble_eq_true (by kernel_rfl))
  (cast (by kernel_rfl) ht)
end Zed
end Go.Sim

set_option maxRecDepth 100000
set_option linter.unusedVariables false
namespace Go.Sim
open Go Go.RowKit
namespace Zdy
noncomputable abbrev fn : Func := Go.Proofs.Tryz.f19
def kp : Zbz := [(3000005, [4]), (1000005, [1, 4, 12, 13, 14]), (2000007, [31, 4, 5, 14, 13, 12, 1]), (4000009, [14, 13, 12, 1, 4])]
noncomputable def C (p : List Nat) : Code := (cod fn).sub p
def KR (Q : QT) : KT := Zes pg fn.results.toList Q
abbrev T5 := Nat → Nat → Pt → Nat → Nat → Bool → Pt → Nat → Nat → Bool → Int → Int → Zaa → Prop
def E5 (R5 : T5) (env : Env) (h : Zaa) : Prop := Zbs 1 env fun v env => Zii (some v) fun a => Zbl a fun i1 o1 => Zbs 4 env fun v env => xSl (some v) fun a4 n4 c4 e4 => Zbs 12 env fun v env => xSl (some v) fun a12 n12 c12 e12 => Zbs 13 env fun v env => Zee .i64 v fun x13 => Zbs 14 env fun v env => Zee .i64 v fun x14 => Zje env (R5 i1 o1 a4 n4 c4 e4 a12 n12 c12 e12 x13 x14 h)
theorem Zgi {R5 : T5} {env : Env} {h : Zaa} (hi : E5 R5 env h) : ∃ i1, ∃ o1, ∃ a4, ∃ n4, ∃ c4, ∃ e4, ∃ a12, ∃ n12, ∃ c12, ∃ e12, ∃ x13, ∃ x14, env = [(1, .ptr (some (i1, o1))), (4, .slice a4 n4 c4 e4), (12, .slice a12 n12 c12 e12), (13, .int .i64 x13), (14, .int .i64 x14)] ∧ R5 i1 o1 a4 n4 c4 e4 a12 n12 c12 e12 x13 x14 h := by
 unfold E5 at hi
 have hi0 := hi
 clear hi
 obtain ⟨_, _, rfl, hi1⟩ := Zab hi0
 obtain ⟨a, rfl, hi2⟩ := Zbw hi1
 obtain ⟨i1, o1, rfl, hi3⟩ := Zbp hi2
 obtain ⟨_, _, rfl, hi4⟩ := Zab hi3
 obtain ⟨a4, n4, c4, e4, rfl, hi5⟩ := Zbf hi4
 obtain ⟨_, _, rfl, hi6⟩ := Zab hi5
 obtain ⟨a12, n12, c12, e12, rfl, hi7⟩ := Zbf hi6
 obtain ⟨_, _, rfl, hi8⟩ := Zab hi7
 obtain ⟨x13, rfl, hi9⟩ := Zao hi8
 obtain ⟨_, _, rfl, hi10⟩ := Zab hi9
 obtain ⟨x14, rfl, hi11⟩ := Zao hi10
 obtain ⟨rfl, hi12⟩ := Zbg hi11
 have hi := hi12
 exact ⟨i1, o1, a4, n4, c4, e4, a12, n12, c12, e12, x13, x14, rfl, hi⟩
def K0 (Q : QT) : KT := andThen (fun env' h' => (match kp.find 4000010 with | some ks => Den pg fn.ntmps (C [1, 1, 1, 1]) (env'.keep ks) h' (KR Q) | none => den pg fn.ntmps kp (C [1, 1, 1, 1]) env' h' (KR Q))) (KR Q)
def K1 (Q : QT) : KT := Zck 0 (K0 Q)
def K2 (Q : QT) : KT := left kp 5 (K1 Q)
def K3 (Q : QT) (R5 : T5) : KT := rnd ((kp.find 1000005).getD []) (E5 R5) (K2 Q)
def L5 (Q : QT) (i1 o1 : Nat) (a4 : Pt) (n4 c4 : Nat) (e4 : Bool) (a12 : Pt) (n12 c12 : Nat) (e12 : Bool) (x13 x14 : Int) (h : Zaa) : Prop := Zec (Den pg fn.ntmps (C [1, 1, 1, 0, 1, 0, 0])) ((kp.find 1000005).getD []) (K2 Q) [(1, .ptr (some (i1, o1))), (4, .slice a4 n4 c4 e4), (12, .slice a12 n12 c12 e12), (13, .int .i64 x13), (14, .int .i64 x14)] h
def J9 (Q : QT) (R5 : T5) (x14 x13 : Int) (a12 : Pt) (n12 c12 : Nat) (e12 : Bool) (i1 o1 : Nat) (a4 : Pt) (n4 c4 : Nat) (e4 : Bool) (h : Zaa) : Prop := Den pg fn.ntmps (C [1, 1, 1, 0, 1, 0, 0, 1, 1, 1]) [(14, .int .i64 x14), (13, .int .i64 x13), (12, .slice a12 n12 c12 e12), (1, .ptr (some (i1, o1))), (4, .slice a4 n4 c4 e4)] h (K3 Q R5)
def A5x0 (Q : QT) (a4 : Pt) (n4 c4 : Nat) (e4 : Bool) (h : Zaa) : Prop := At (K1 Q) (.exit 0) [(4, .slice a4 n4 c4 e4)] h
def L5t (Q : QT) (R5 : T5) (i1 o1 : Nat) (a4 : Pt) (n4 c4 : Nat) (e4 : Bool) (a12 : Pt) (n12 c12 : Nat) (e12 : Bool) (x13 x14 : Int) (h : Zaa) : Prop :=
 bcase (decide ((x14 : Int) < x13)) ((0 ≤ (x14 : Int) ∧ (x14 : Int) < (n12 : Nat)) ∧ (Zbl a12 fun I22 O23 => Zdh (Zbv h (.ptr (some (I22, O23 + (Int.toNat x14) * 3))) 3) fun K24 => Zap K24 fun C25 Z26 => Zbo (some C25) fun S27 => Zap Z26 fun C28 Z29 => Zbo (some C28) fun S30 => Zap Z29 fun C31 Z32 => xSl (some C31) fun A33 N34 C35 E36 => Zcr Z32 (Zdc (h ++ [.cells Zac [.str [], .str [], .slice none 0 0 true] false]) fun H37 => Zcp (Zbk H37 (.ptr (some (h.length, 0))) [.str S27, .str S30, .slice A33 N34 C35 E36]) fun H38 => xSl (Zak H38 (.ptr (some (h.length, 0 + 2)))) fun A39 N40 C41 E42 => bcase ((((N40 : Nat) : Int) : Int) == 0) (Zdh (Zbv H38 (.ptr (some (i1, o1))) 2) fun K43 => Zap K43 fun C44 Z45 => xSl (some C44) fun A46 N47 C48 E49 => Zap Z45 fun C50 Z51 => xSl (some C50) fun A52 N53 C54 E55 => Zcr Z51 (Zdh (Zbv H38 (.ptr (some (h.length, 0 + 0))) 2) fun K56 => Zap K56 fun C57 Z58 => Zbo (some C57) fun S59 => Zap Z58 fun C60 Z61 => Zbo (some C60) fun S62 => Zcr Z61 (Zae pg Znq [.agg [.slice A46 N47 C48 E49, .slice A52 N53 C54 E55], .int .i64 x14] H38 fun V63 H64 =>
 Zuw V63 fun K65 => Zap K65 fun C66 Z67 => xSl (some C66) fun A68 N69 C70 E71 => Zap Z67 fun C72 Z73 => xSl (some C72) fun A74 N75 C76 E77 => Zcr Z73 ((Zbv H64 (.ptr (some (h.length, 0 + 0))) 2 = Zbv H38 (.ptr (some (h.length, 0 + 0))) 2) ∧ Zae pg Znr [.agg [.slice A68 N69 C70 E71, .slice A74 N75 C76 E77], .agg [.str S59, .str S62]] H64 fun V78 H79 =>
 Zen .i64 (some V78) fun X80 => (Zbv H79 (.ptr (some (i1, o1))) 2 = Zbv H64 (.ptr (some (i1, o1))) 2) ∧ bcase (decide ((X80 : Int) ≥ 0)) (Zdc (H79 ++ [.cells Zgs [.int .i64 x14] false]) fun H81 => Zdd pg Zvk H81 (.slice a4 n4 c4 e4) (.slice (some (H79.length, 0)) 1 1 true) fun V82 H83 => xSl (some V82) fun A84 N85 C86 E87 => J9 Q R5 x14 x13 a12 n12 c12 e12 i1 o1 A84 N85 C86 E87 H83) (J9 Q R5 x14 x13 a12 n12 c12 e12 i1 o1 a4 n4 c4 e4 H79))))) ((Zbv H38 (.tup []) 2 = Zbv H38 (.tup []) 2) ∧ (Zbv H38 (.ptr (some (i1, o1))) 2 = Zbv H38 (.ptr (some (i1, o1))) 2) ∧ J9 Q R5 x14 x13 a12 n12 c12 e12 i1 o1 a4 n4 c4 e4 H38)))) (A5x0 Q a4 n4 c4 e4 h)
theorem Zqg (Q : QT) (R5 : T5) (i1 o1 : Nat) (a4 : Pt) (n4 c4 : Nat) (e4 : Bool) (a12 : Pt) (n12 c12 : Nat) (e12 : Bool) (x13 x14 : Int) (h : Zaa) (ht : L5t Q R5 i1 o1 a4 n4 c4 e4 a12 n12 c12 e12 x13 x14 h) : Den pg fn.ntmps (C [1, 1, 1, 0, 1, 0, 0]) [(1, .ptr (some (i1, o1))), (4, .slice a4 n4 c4 e4), (12, .slice a12 n12 c12 e12), (13, .int .i64 x13), (14, .int .i64 x14)] h (K3 Q R5) :=
 Zba (kp := kp) (cast (by kernel_rfl) ht)
theorem L5ind (Q : QT) (i1 o1 : Nat) (a12 : Pt) (n12 c12 : Nat) (e12 : Bool) (x13 : Int) {G : Type} (J : G → Pt → Nat → Nat → Bool → Int → Zaa → Prop) (m : G → Nat)
 (hr : ∀ (g : G) (a4 : Pt) (n4 c4 : Nat) (e4 : Bool) (x14 : Int) (h : Zaa), J g a4 n4 c4 e4 x14 h → ∀ (R5 : T5), (∀ g' (a4 : Pt) (n4 c4 : Nat) (e4 : Bool) (x14 : Int) (h : Zaa), m g' < m g → J g' a4 n4 c4 e4 x14 h → R5 i1 o1 a4 n4 c4 e4 a12 n12 c12 e12 x13 x14 h) → L5t Q R5 i1 o1 a4 n4 c4 e4 a12 n12 c12 e12 x13 x14 h)
 (g : G) (a4 : Pt) (n4 c4 : Nat) (e4 : Bool) (x14 : Int) (h : Zaa) (hj : J g a4 n4 c4 e4 x14 h) : L5 Q i1 o1 a4 n4 c4 e4 a12 n12 c12 e12 x13 x14 h := by
 refine Zec.inv2 (fun g => E5 fun i1' o1' a4 n4 c4 e4 a12' n12' c12' e12' x13' x14 h => i1 = i1' ∧ o1 = o1' ∧ a12 = a12' ∧ n12 = n12' ∧ c12 = c12' ∧ e12 = e12' ∧ x13 = x13' ∧ J g a4 n4 c4 e4 x14 h) (fun g => E5 fun i1' o1' a4 n4 c4 e4 a12' n12' c12' e12' x13' x14 h => i1 = i1' ∧ o1 = o1' ∧ a12 = a12' ∧ n12 = n12' ∧ c12 = c12' ∧ e12 = e12' ∧ x13 = x13' ∧ ∃ g', m g' < m g ∧ J g' a4 n4 c4 e4 x14 h) m ?_ ?_ g ⟨rfl, rfl, rfl, rfl, rfl, rfl, rfl, hj⟩
 ·intro g env h hi
  obtain ⟨i1', o1', a4, n4, c4, e4, a12', n12', c12', e12', x13', x14, rfl, rfl, rfl, rfl, rfl, rfl, rfl, rfl, hj⟩ := Zgi hi
  exact Zqg Q _ i1 o1 a4 n4 c4 e4 a12 n12 c12 e12 x13 x14 h (hr g a4 n4 c4 e4 x14 h hj (fun i1' o1' a4 n4 c4 e4 a12' n12' c12' e12' x13' x14 h => i1 = i1' ∧ o1 = o1' ∧ a12 = a12' ∧ n12 = n12' ∧ c12 = c12' ∧ e12 = e12' ∧ x13 = x13' ∧ ∃ g', m g' < m g ∧ J g' a4 n4 c4 e4 x14 h) fun g' a4 n4 c4 e4 x14 h hlt hj => ⟨rfl, rfl, rfl, rfl, rfl, rfl, rfl, g', hlt, hj⟩)
 ·intro g env h hi
  obtain ⟨i1', o1', a4, n4, c4, e4, a12', n12', c12', e12', x13', x14, rfl, rfl, rfl, rfl, rfl, rfl, rfl, rfl, g', hlt, hj⟩ := Zgi hi
  exact ⟨g', hlt, rfl, rfl, rfl, rfl, rfl, rfl, rfl, hj⟩
theorem J9i (Q : QT) (R5 : T5) (x14 x13 : Int) (a12 : Pt) (n12 c12 : Nat) (e12 : Bool) (i1 o1 : Nat) (a4 : Pt) (n4 c4 : Nat) (e4 : Bool) (h : Zaa) (ht :
 R5 i1 o1 a4 n4 c4 e4 a12 n12 c12 e12 x13 (IntKind.wrap .i64 (x14 + 1)) h) : J9 Q R5 x14 x13 a12 n12 c12 e12 i1 o1 a4 n4 c4 e4 h :=
 Zba (kp := kp) (cast (by kernel_rfl) ht)
theorem A5x0i (Q : QT) (a4 : Pt) (n4 c4 : Nat) (e4 : Bool) (h : Zaa) (ht :
 Q (.tup [.slice a4 n4 c4 e4, .bool true]) h) : A5x0 Q a4 n4 c4 e4 h :=
 At.mk (cast (by kernel_rfl) ht)
theorem call (a0x0 : Pt) (n0x0 c0x0 : Nat) (e0x0 : Bool) (a0x1 : Pt) (n0x1 c0x1 : Nat) (e0x1 : Bool) (h : Zaa) (Q : QT) (ht :
 Zdc (h ++ [.cells Zaf [.slice a0x0 n0x0 c0x0 e0x0, .slice a0x1 n0x1 c0x1 e0x1] false]) fun H0 => Zdh (Zbv H0 (.ptr (some (h.length, 0))) 2) fun K1 => Zap K1 fun C2 Z3 => xSl (some C2) fun A4 N5 C6 E7 => Zap Z3 fun C8 Z9 => xSl (some C8) fun A10 N11 C12 E13 => Zcr Z9 (Zae pg Zkr [.agg [.slice A4 N5 C6 E7, .slice A10 N11 C12 E13]] H0 fun V14 H15 =>
 Zci (some V14) fun B16 => bcase (!B16) (Q (.tup [.slice none 0 0 true, .bool false]) H15) (Zdc (H15 ++ [.cells Zgs [] false]) fun H17 => xSl (Zak H17 (.ptr (some (h.length, 0 + 1)))) fun A18 N19 C20 E21 => L5 Q h.length 0 (some (H15.length, 0)) 0 0 true A18 N19 C20 E21 (((N19 : Nat) : Int)) 0 H17))) : Zae pg Zhf [.agg [.slice a0x0 n0x0 c0x0 e0x0, .slice a0x1 n0x1 c0x1 e0x1]] h Q :=
 Zae.of_body kp (c := cod fn) (fn := fn) Go.Proofs.Tryz.func19 (by kernel_rfl) (by kernel_rfl) (Nat.le_of_ble_eq_true (by kernel_rfl))
  (cast (by kernel_rfl) ht)
end Zdy
namespace Zdz
noncomputable abbrev fn : Func := Go.Proofs.Tryz.f18
def kp : Zbz := [(3000005, [4]), (1000005, [1, 4, 13, 14, 15]), (2000007, [32, 4, 5, 15, 14, 13, 1]), (4000009, [15, 14, 13, 1, 4])]
noncomputable def C (p : List Nat) : Code := (cod fn).sub p
def KR (Q : QT) : KT := Zes pg fn.results.toList Q
abbrev T5 := Nat → Nat → Pt → Nat → Nat → Bool → Pt → Nat → Nat → Bool → Int → Int → Zaa → Prop
def E5 (R5 : T5) (env : Env) (h : Zaa) : Prop := Zbs 1 env fun v env => Zii (some v) fun a => Zbl a fun i1 o1 => Zbs 4 env fun v env => xSl (some v) fun a4 n4 c4 e4 => Zbs 13 env fun v env => xSl (some v) fun a13 n13 c13 e13 => Zbs 14 env fun v env => Zee .i64 v fun x14 => Zbs 15 env fun v env => Zee .i64 v fun x15 => Zje env (R5 i1 o1 a4 n4 c4 e4 a13 n13 c13 e13 x14 x15 h)
theorem Zgi {R5 : T5} {env : Env} {h : Zaa} (hi : E5 R5 env h) : ∃ i1, ∃ o1, ∃ a4, ∃ n4, ∃ c4, ∃ e4, ∃ a13, ∃ n13, ∃ c13, ∃ e13, ∃ x14, ∃ x15, env = [(1, .ptr (some (i1, o1))), (4, .slice a4 n4 c4 e4), (13, .slice a13 n13 c13 e13), (14, .int .i64 x14), (15, .int .i64 x15)] ∧ R5 i1 o1 a4 n4 c4 e4 a13 n13 c13 e13 x14 x15 h := by
 unfold E5 at hi
 have hi0 := hi
 clear hi
 obtain ⟨_, _, rfl, hi1⟩ := Zab hi0
 obtain ⟨a, rfl, hi2⟩ := Zbw hi1
 obtain ⟨i1, o1, rfl, hi3⟩ := Zbp hi2
 obtain ⟨_, _, rfl, hi4⟩ := Zab hi3
 obtain ⟨a4, n4, c4, e4, rfl, hi5⟩ := Zbf hi4
 obtain ⟨_, _, rfl, hi6⟩ := Zab hi5
 obtain ⟨a13, n13, c13, e13, rfl, hi7⟩ := Zbf hi6
 obtain ⟨_, _, rfl, hi8⟩ := Zab hi7
 obtain ⟨x14, rfl, hi9⟩ := Zao hi8
 obtain ⟨_, _, rfl, hi10⟩ := Zab hi9
 obtain ⟨x15, rfl, hi11⟩ := Zao hi10
 obtain ⟨rfl, hi12⟩ := Zbg hi11
 have hi := hi12
 exact ⟨i1, o1, a4, n4, c4, e4, a13, n13, c13, e13, x14, x15, rfl, hi⟩
def K0 (Q : QT) : KT := andThen (fun env' h' => (match kp.find 4000010 with | some ks => Den pg fn.ntmps (C [1, 1, 1, 1]) (env'.keep ks) h' (KR Q) | none => den pg fn.ntmps kp (C [1, 1, 1, 1]) env' h' (KR Q))) (KR Q)
def K1 (Q : QT) : KT := Zck 0 (K0 Q)
def K2 (Q : QT) : KT := left kp 5 (K1 Q)
def K3 (Q : QT) (R5 : T5) : KT := rnd ((kp.find 1000005).getD []) (E5 R5) (K2 Q)
def L5 (Q : QT) (i1 o1 : Nat) (a4 : Pt) (n4 c4 : Nat) (e4 : Bool) (a13 : Pt) (n13 c13 : Nat) (e13 : Bool) (x14 x15 : Int) (h : Zaa) : Prop := Zec (Den pg fn.ntmps (C [1, 1, 1, 0, 1, 0, 0])) ((kp.find 1000005).getD []) (K2 Q) [(1, .ptr (some (i1, o1))), (4, .slice a4 n4 c4 e4), (13, .slice a13 n13 c13 e13), (14, .int .i64 x14), (15, .int .i64 x15)] h
def J9 (Q : QT) (R5 : T5) (x15 x14 : Int) (a13 : Pt) (n13 c13 : Nat) (e13 : Bool) (i1 o1 : Nat) (a4 : Pt) (n4 c4 : Nat) (e4 : Bool) (h : Zaa) : Prop := Den pg fn.ntmps (C [1, 1, 1, 0, 1, 0, 0, 1, 1, 1]) [(15, .int .i64 x15), (14, .int .i64 x14), (13, .slice a13 n13 c13 e13), (1, .ptr (some (i1, o1))), (4, .slice a4 n4 c4 e4)] h (K3 Q R5)
def A5x0 (Q : QT) (a4 : Pt) (n4 c4 : Nat) (e4 : Bool) (h : Zaa) : Prop := At (K1 Q) (.exit 0) [(4, .slice a4 n4 c4 e4)] h
def L5t (Q : QT) (R5 : T5) (i1 o1 : Nat) (a4 : Pt) (n4 c4 : Nat) (e4 : Bool) (a13 : Pt) (n13 c13 : Nat) (e13 : Bool) (x14 x15 : Int) (h : Zaa) : Prop :=
 bcase (decide ((x15 : Int) < x14)) ((0 ≤ (x15 : Int) ∧ (x15 : Int) < (n13 : Nat)) ∧ (Zbl a13 fun I22 O23 => Zdh (Zbv h (.ptr (some (I22, O23 + (Int.toNat x15) * 3))) 3) fun K24 => Zap K24 fun C25 Z26 => Zbo (some C25) fun S27 => Zap Z26 fun C28 Z29 => Zbo (some C28) fun S30 => Zap Z29 fun C31 Z32 => xSl (some C31) fun A33 N34 C35 E36 => Zcr Z32 (Zdc (h ++ [.cells Zac [.str [], .str [], .slice none 0 0 true] false]) fun H37 => Zcp (Zbk H37 (.ptr (some (h.length, 0))) [.str S27, .str S30, .slice A33 N34 C35 E36]) fun H38 => xSl (Zak H38 (.ptr (some (h.length, 0 + 2)))) fun A39 N40 C41 E42 => bcase ((((N40 : Nat) : Int) : Int) == 0) (Zdh (Zbv H38 (.ptr (some (i1, o1))) 2) fun K43 => Zap K43 fun C44 Z45 => xSl (some C44) fun A46 N47 C48 E49 => Zap Z45 fun C50 Z51 => xSl (some C50) fun A52 N53 C54 E55 => Zcr Z51 (Zdh (Zbv H38 (.ptr (some (h.length, 0 + 0))) 2) fun K56 => Zap K56 fun C57 Z58 => Zbo (some C57) fun S59 => Zap Z58 fun C60 Z61 => Zbo (some C60) fun S62 => Zcr Z61 (Zae pg Zlm [.agg [.slice A46 N47 C48 E49, .slice A52 N53 C54 E55], .int .i64 x15] H38 fun V63 H64 =>
 Zuw V63 fun K65 => Zap K65 fun C66 Z67 => xSl (some C66) fun A68 N69 C70 E71 => Zap Z67 fun C72 Z73 => xSl (some C72) fun A74 N75 C76 E77 => Zcr Z73 ((Zbv H64 (.ptr (some (h.length, 0 + 0))) 2 = Zbv H38 (.ptr (some (h.length, 0 + 0))) 2) ∧ Zae pg Znt [.agg [.slice A68 N69 C70 E71, .slice A74 N75 C76 E77], .agg [.str S59, .str S62]] H64 fun V78 H79 =>
 Zen .i64 (some V78) fun X80 => (Zbv H79 (.ptr (some (i1, o1))) 2 = Zbv H64 (.ptr (some (i1, o1))) 2) ∧ bcase (decide ((X80 : Int) ≥ 0)) (Zdc (H79 ++ [.cells Zgs [.int .i64 x15] false]) fun H81 => Zdd pg Zvk H81 (.slice a4 n4 c4 e4) (.slice (some (H79.length, 0)) 1 1 true) fun V82 H83 => xSl (some V82) fun A84 N85 C86 E87 => J9 Q R5 x15 x14 a13 n13 c13 e13 i1 o1 A84 N85 C86 E87 H83) (J9 Q R5 x15 x14 a13 n13 c13 e13 i1 o1 a4 n4 c4 e4 H79))))) ((Zbv H38 (.tup []) 2 = Zbv H38 (.tup []) 2) ∧ (Zbv H38 (.ptr (some (i1, o1))) 2 = Zbv H38 (.ptr (some (i1, o1))) 2) ∧ J9 Q R5 x15 x14 a13 n13 c13 e13 i1 o1 a4 n4 c4 e4 H38)))) (A5x0 Q a4 n4 c4 e4 h)
theorem Zqg (Q : QT) (R5 : T5) (i1 o1 : Nat) (a4 : Pt) (n4 c4 : Nat) (e4 : Bool) (a13 : Pt) (n13 c13 : Nat) (e13 : Bool) (x14 x15 : Int) (h : Zaa) (ht : L5t Q R5 i1 o1 a4 n4 c4 e4 a13 n13 c13 e13 x14 x15 h) : Den pg fn.ntmps (C [1, 1, 1, 0, 1, 0, 0]) [(1, .ptr (some (i1, o1))), (4, .slice a4 n4 c4 e4), (13, .slice a13 n13 c13 e13), (14, .int .i64 x14), (15, .int .i64 x15)] h (K3 Q R5) :=
 Zba (kp := kp) (cast (by kernel_rfl) ht)
theorem L5ind (Q : QT) (i1 o1 : Nat) (a13 : Pt) (n13 c13 : Nat) (e13 : Bool) (x14 : Int) {G : Type} (J : G → Pt → Nat → Nat → Bool → Int → Zaa → Prop) (m : G → Nat)
 (hr : ∀ (g : G) (a4 : Pt) (n4 c4 : Nat) (e4 : Bool) (x15 : Int) (h : Zaa), J g a4 n4 c4 e4 x15 h → ∀ (R5 : T5), (∀ g' (a4 : Pt) (n4 c4 : Nat) (e4 : Bool) (x15 : Int) (h : Zaa), m g' < m g → J g' a4 n4 c4 e4 x15 h → R5 i1 o1 a4 n4 c4 e4 a13 n13 c13 e13 x14 x15 h) → L5t Q R5 i1 o1 a4 n4 c4 e4 a13 n13 c13 e13 x14 x15 h)
 (g : G) (a4 : Pt) (n4 c4 : Nat) (e4 : Bool) (x15 : Int) (h : Zaa) (hj : J g a4 n4 c4 e4 x15 h) : L5 Q i1 o1 a4 n4 c4 e4 a13 n13 c13 e13 x14 x15 h := by
 refine Zec.inv2 (fun g => E5 fun i1' o1' a4 n4 c4 e4 a13' n13' c13' e13' x14' x15 h => i1 = i1' ∧ o1 = o1' ∧ a13 = a13' ∧ n13 = n13' ∧ c13 = c13' ∧ e13 = e13' ∧ x14 = x14' ∧ J g a4 n4 c4 e4 x15 h) (fun g => E5 fun i1' o1' a4 n4 c4 e4 a13' n13' c13' e13' x14' x15 h => i1 = i1' ∧ o1 = o1' ∧ a13 = a13' ∧ n13 = n13' ∧ c13 = c13' ∧ e13 = e13' ∧ x14 = x14' ∧ ∃ g', m g' < m g ∧ J g' a4 n4 c4 e4 x15 h) m ?_ ?_ g ⟨rfl, rfl, rfl, rfl, rfl, rfl, rfl, hj⟩
 ·intro g env h hi
  obtain ⟨i1', o1', a4, n4, c4, e4, a13', n13', c13', e13', x14', x15, rfl, rfl, rfl, rfl, rfl, rfl, rfl, rfl, hj⟩ := Zgi hi
  exact Zqg Q _ i1 o1 a4 n4 c4 e4 a13 n13 c13 e13 x14 x15 h (hr g a4 n4 c4 e4 x15 h hj (fun i1' o1' a4 n4 c4 e4 a13' n13' c13' e13' x14' x15 h => i1 = i1' ∧ o1 = o1' ∧ a13 = a13' ∧ n13 = n13' ∧ c13 = c13' ∧ e13 = e13' ∧ x14 = x14' ∧ ∃ g', m g' < m g ∧ J g' a4 n4 c4 e4 x15 h) fun g' a4 n4 c4 e4 x15 h hlt hj => ⟨rfl, rfl, rfl, rfl, rfl, rfl, rfl, g', hlt, hj⟩)
 ·intro g env h hi
  obtain ⟨i1', o1', a4, n4, c4, e4, a13', n13', c13', e13', x14', x15, rfl, rfl, rfl, rfl, rfl, rfl, rfl, rfl, g', hlt, hj⟩ := Zgi hi
  exact ⟨g', hlt, rfl, rfl, rfl, rfl, rfl, rfl, rfl, hj⟩
theorem J9i (Q : QT) (R5 : T5) (x15 x14 : Int) (a13 : Pt) (n13 c13 : Nat) (e13 : Bool) (i1 o1 : Nat) (a4 : Pt) (n4 c4 : Nat) (e4 : Bool) (h : Zaa) (ht :
 R5 i1 o1 a4 n4 c4 e4 a13 n13 c13 e13 x14 (IntKind.wrap .i64 (x15 + 1)) h) : J9 Q R5 x15 x14 a13 n13 c13 e13 i1 o1 a4 n4 c4 e4 h :=
 Zba (kp := kp) (cast (by kernel_rfl) ht)
theorem A5x0i (Q : QT) (a4 : Pt) (n4 c4 : Nat) (e4 : Bool) (h : Zaa) (ht :
 Q (.tup [.slice a4 n4 c4 e4, .bool true]) h) : A5x0 Q a4 n4 c4 e4 h :=
 At.mk (cast (by kernel_rfl) ht)
theorem call (a0x0 : Pt) (n0x0 c0x0 : Nat) (e0x0 : Bool) (a0x1 : Pt) (n0x1 c0x1 : Nat) (e0x1 : Bool) (h : Zaa) (Q : QT) (ht :
 Zdc (h ++ [.cells Zaf [.slice a0x0 n0x0 c0x0 e0x0, .slice a0x1 n0x1 c0x1 e0x1] false]) fun H0 => Zdc (H0 ++ [.cells Zgs [] false]) fun H1 => Zdh (Zbv H1 (.ptr (some (h.length, 0))) 2) fun K2 => Zap K2 fun C3 Z4 => xSl (some C3) fun A5 N6 C7 E8 => Zap Z4 fun C9 Z10 => xSl (some C9) fun A11 N12 C13 E14 => Zcr Z10 (Zae pg Zie [.agg [.slice A5 N6 C7 E8, .slice A11 N12 C13 E14]] H1 fun V15 H16 =>
 Zci (some V15) fun B17 => bcase (!B17) (Q (.tup [.slice (some (H0.length, 0)) 0 0 true, .bool false]) H16) (xSl (Zak H16 (.ptr (some (h.length, 0 + 1)))) fun A18 N19 C20 E21 => L5 Q h.length 0 (some (H0.length, 0)) 0 0 true A18 N19 C20 E21 (((N19 : Nat) : Int)) 0 H16))) : Zae pg Zkb [.agg [.slice a0x0 n0x0 c0x0 e0x0, .slice a0x1 n0x1 c0x1 e0x1]] h Q :=
 Zae.of_body kp (c := cod fn) (fn := fn) Go.Proofs.Tryz.func18 (by kernel_rfl) (by kernel_rfl) (Nat.le_of_ble_eq_true (by kernel_rfl))
  (cast (by kernel_rfl) ht)
end Zdz
end Go.Sim

set_option maxRecDepth 100000
set_option linter.unusedVariables false
namespace Go.Sim
open Go Go.RowKit
namespace Zrp
noncomputable abbrev fn : Func := Go.Proofs.Tryz.f43
def kp : Zbz := []
noncomputable def C (p : List Nat) : Code := (cod fn).sub p
def KR (Q : QT) : KT := Zes pg fn.results.toList Q
theorem call (a0x0 : Pt) (n0x0 c0x0 : Nat) (e0x0 : Bool) (a0x1 : Pt) (n0x1 c0x1 : Nat) (e0x1 : Bool) (x1 : Int) (h : Zaa) (Q : QT) (ht :
 Zdc (h ++ [.cells Zaf [.slice a0x0 n0x0 c0x0 e0x0, .slice a0x1 n0x1 c0x1 e0x1] false]) fun H0 => Zdc (H0 ++ [.cells Zaf [.slice none 0 0 true, .slice none 0 0 true] false]) fun H1 => Zdh (Zbv H1 (.ptr (some (h.length, 0))) 2) fun K2 => Zap K2 fun C3 Z4 => xSl (some C3) fun A5 N6 C7 E8 => Zap Z4 fun C9 Z10 => xSl (some C9) fun A11 N12 C13 E14 => Zcr Z10 (Zae pg Zpk [.agg [.slice A5 N6 C7 E8, .slice A11 N12 C13 E14]] H1 fun V15 H16 =>
 Zuw V15 fun K17 => Zap K17 fun C18 Z19 => xSl (some C18) fun A20 N21 C22 E23 => Zap Z19 fun C24 Z25 => xSl (some C24) fun A26 N27 C28 E29 => Zcr Z25 (Zdc (H16 ++ [.cells Zaf [.slice none 0 0 true, .slice none 0 0 true] false]) fun H30 => Zcp (Zbk H30 (.ptr (some (H16.length, 0))) [.slice A20 N21 C22 E23, .slice A26 N27 C28 E29]) fun H31 => xSl (Zak H31 (.ptr (some (H16.length, 0 + 1)))) fun A32 N33 C34 E35 => Zae pg Zde [.slice A32 N33 C34 E35, .int .i64 x1, .int .i64 (IntKind.wrap .i64 (x1 + 1))] H31 fun V36 H37 =>
 xSl (some V36) fun A38 N39 C40 E41 => Zcp (Zbk H37 (.ptr (some (H16.length, 0 + 1))) [.slice A38 N39 C40 E41]) fun H42 => Zdh (Zbv H42 (.ptr (some (H16.length, 0))) 2) fun K43 => Zap K43 fun C44 Z45 => xSl (some C44) fun A46 N47 C48 E49 => Zap Z45 fun C50 Z51 => xSl (some C50) fun A52 N53 C54 E55 => Zcr Z51 (Zcp (Zbk H42 (.ptr (some (H0.length, 0))) [.slice A46 N47 C48 E49, .slice A52 N53 C54 E55]) fun H56 => Zdh (Zbv H56 (.ptr (some (H0.length, 0))) 2) fun K57 => Zap K57 fun C58 Z59 => xSl (some C58) fun A60 N61 C62 E63 => Zap Z59 fun C64 Z65 => xSl (some C64) fun A66 N67 C68 E69 => Zcr Z65 (Q (.agg [.slice A60 N61 C62 E63, .slice A66 N67 C68 E69]) H56))))) : Zae pg Znq [.agg [.slice a0x0 n0x0 c0x0 e0x0, .slice a0x1 n0x1 c0x1 e0x1], .int .i64 x1] h Q :=
 Zae.of_body kp (c := cod fn) (fn := fn) Go.Proofs.Tryz.func43 (by kernel_rfl) (by kernel_rfl) (Nat.le_of_ble_eq_true (by kernel_rfl))
  (cast (by kernel_rfl) ht)
end Zrp
namespace Zpv
noncomputable abbrev fn : Func := Go.Proofs.Tryz.f41
def kp : Zbz := [(2000001, [4])]
noncomputable def C (p : List Nat) : Code := (cod fn).sub p
def KR (Q : QT) : KT := Zes pg fn.results.toList Q
theorem call (a0x0 : Pt) (n0x0 c0x0 : Nat) (e0x0 : Bool) (a0x1 : Pt) (n0x1 c0x1 : Nat) (e0x1 : Bool) (x1 : Int) (h : Zaa) (Q : QT) (ht :
 Zdc (h ++ [.cells Zaf [.slice a0x0 n0x0 c0x0 e0x0, .slice a0x1 n0x1 c0x1 e0x1] false]) fun H0 => Zdc (H0 ++ [.cells Zaf [.slice none 0 0 true, .slice none 0 0 true] false]) fun H1 => xSl (Zak H1 (.ptr (some (h.length, 0 + 0)))) fun A2 N3 C4 E5 => xSl (Zak H1 (.ptr (some (h.length, 0 + 1)))) fun A6 N7 C8 E9 => Zgq A6 N7 C8 E9 3 none (some (.int .i64 x1)) none fun V10 => xSl (some V10) fun A11 N12 C13 E14 => xSl (Zak H1 (.ptr (some (h.length, 0 + 1)))) fun A15 N16 C17 E18 => Zgq A15 N16 C17 E18 3 (some (.int .i64 (IntKind.wrap .i64 (x1 + 1)))) none none fun V19 => xSl (some V19) fun A20 N21 C22 E23 => Zdc (H1 ++ [.cells Zac [] false]) fun H24 => (Zak H24 (.ptr (some (h.length, 0 + 1))) = Zak H1 (.ptr (some (h.length, 0 + 1)))) ∧ (Zak H24 (.ptr (some (h.length, 0 + 1))) = Zak H1 (.ptr (some (h.length, 0 + 1)))) ∧ (Zak H24 (.ptr (some (h.length, 0 + 0))) = Zak H1 (.ptr (some (h.length, 0 + 0)))) ∧ Zdd pg Zdl H24 (.slice (some (H1.length, 0)) 0 0 true) (.slice A11 N12 C13 E14) fun V25 H26 => xSl (some V25) fun A27 N28 C29 E30 => (Zak H26 (.ptr (some (h.length, 0 + 1))) = Zak H24 (.ptr (some (h.length, 0 + 1)))) ∧ (Zak H26 (.ptr (some (h.length, 0 + 1))) = Zak H24 (.ptr (some (h.length, 0 + 1)))) ∧ (Zak H26 (.ptr (some (h.length, 0 + 0))) = Zak H24 (.ptr (some (h.length, 0 + 0)))) ∧ Zdd pg Zdl H26 (.slice A27 N28 C29 E30) (.slice A20 N21 C22 E23) fun V31 H32 => xSl (some V31) fun A33 N34 C35 E36 => (Zak H32 (.ptr (some (h.length, 0 + 1))) = Zak H26 (.ptr (some (h.length, 0 + 1)))) ∧ (Zak H32 (.ptr (some (h.length, 0 + 1))) = Zak H26 (.ptr (some (h.length, 0 + 1)))) ∧ (Zak H32 (.ptr (some (h.length, 0 + 0))) = Zak H26 (.ptr (some (h.length, 0 + 0)))) ∧ Zcp (Zbk H32 (.ptr (some (H0.length, 0))) [.slice A2 N3 C4 E5, .slice A33 N34 C35 E36]) fun H37 => Zdh (Zbv H37 (.ptr (some (H0.length, 0))) 2) fun K38 => Zap K38 fun C39 Z40 => xSl (some C39) fun A41 N42 C43 E44 => Zap Z40 fun C45 Z46 => xSl (some C45) fun A47 N48 C49 E50 => Zcr Z46 (Q (.agg [.slice A41 N42 C43 E44, .slice A47 N48 C49 E50]) H37)) : Zae pg Zlm [.agg [.slice a0x0 n0x0 c0x0 e0x0, .slice a0x1 n0x1 c0x1 e0x1], .int .i64 x1] h Q :=
 Zae.of_body kp (c := cod fn) (fn := fn) Go.Proofs.Tryz.func41 (by kernel_rfl) (by kernel_rfl) (Nat.le_of_ble_eq_true (by kernel_rfl))
  (cast (by kernel_rfl) ht)
end Zpv
end Go.Sim

set_option maxRecDepth 100000
set_option linter.unusedVariables false
namespace Go.Sim
open Go Go.RowKit
namespace Zei
noncomputable abbrev fn : Func := Go.Proofs.Tryz.f72
def kp : Zbz := [(2000005, [0, 7])]
noncomputable def C (p : List Nat) : Code := (cod fn).sub p
def KR (Q : QT) : KT := Zes pg fn.results.toList Q
theorem call (a0 : Pt) (n0 c0 : Nat) (e0 : Bool) (x1 x2 : Int) (h : Zaa) (Q : QT) (ht :
 Zgq a0 n0 c0 e0 3 (some (.int .i64 x1)) (some (.int .i64 x2)) (some (.int .i64 (((n0 : Nat) : Int)))) fun V0 => xSl (some V0) fun A1 N2 C3 E4 => bcase ((x1 : Int) == x2) (Q (.slice a0 n0 c0 e0) h) (Zgq a0 n0 c0 e0 3 none (some (.int .i64 x1)) none fun V5 => xSl (some V5) fun A6 N7 C8 E9 => Zgq a0 n0 c0 e0 3 (some (.int .i64 x2)) none none fun V10 => xSl (some V10) fun A11 N12 C13 E14 => Zdd pg Zdl h (.slice A6 N7 C8 E9) (.slice A11 N12 C13 E14) fun V15 H16 => xSl (some V15) fun A17 N18 C19 E20 => Zgq A17 N18 C19 E20 3 (some (.int .i64 (((N18 : Nat) : Int)))) (some (.int .i64 (((n0 : Nat) : Int)))) none fun V21 => xSl (some V21) fun A22 N23 C24 E25 => Zvu pg Zdl H16 (.slice A22 N23 C24 E25) fun V26 H27 => Q (.slice A17 N18 C19 E20) H27)) : Zae pg Zde [.slice a0 n0 c0 e0, .int .i64 x1, .int .i64 x2] h Q :=
 Zae.of_body kp (c := cod fn) (fn := fn) Go.Proofs.Tryz.func72 (by kernel_rfl) (by kernel_rfl) (Nat.le_of_ble_eq_true (by kernel_rfl))
  (cast (by kernel_rfl) ht)
end Zei
end Go.Sim

set_option maxRecDepth 100000
set_option linter.unusedVariables false
namespace Go.Sim
open Go Go.RowKit
namespace Zfe
noncomputable abbrev fn : Func := Go.Proofs.Tryz.f113
def kp : Zbz := []
noncomputable def C (p : List Nat) : Code := (cod fn).sub p
def KR (Q : QT) : KT := Zes pg fn.results.toList Q
theorem call (a0 : Pt) (n0 c0 : Nat) (e0 : Bool) (h : Zaa) (Q : QT) (ht :
 (a0 = none → e0 = true) ∧ (bcase (Option.isNone a0) (Q (.slice none 0 0 true) h) (Zdc (h ++ [.cells Zbc [] false]) fun H0 => Zdd pg Zrl H0 (.slice (some (h.length, 0)) 0 0 true) (.slice a0 n0 c0 e0) fun V1 H2 => xSl (some V1) fun A3 N4 C5 E6 => Q (.slice A3 N4 C5 E6) H2))) : Zae pg Zds [.slice a0 n0 c0 e0] h Q :=
 Zae.of_body kp (c := cod fn) (fn := fn) Go.Proofs.Tryz.func113 (by kernel_rfl) (by kernel_rfl) (Nat.le_of_ble_eq_true (by kernel_rfl))
  (cast (by kernel_rfl) ht)
end Zfe
namespace Zkd
noncomputable abbrev fn : Func := Go.Proofs.Tryz.f71
def kp : Zbz := [(3000003, [3, 2]), (1000003, [2, 3, 11, 12, 13])]
noncomputable def C (p : List Nat) : Code := (cod fn).sub p
def KR (Q : QT) : KT := Zes pg fn.results.toList Q
abbrev T3 := Nat → Nat → Nat → Nat → Pt → Nat → Nat → Bool → Int → Int → Zaa → Prop
def E3 (R3 : T3) (env : Env) (h : Zaa) : Prop := Zbs 2 env fun v env => Zii (some v) fun a => Zbl a fun i2 o2 => Zbs 3 env fun v env => Zii (some v) fun a => Zbl a fun i3 o3 => Zbs 11 env fun v env => xSl (some v) fun a11 n11 c11 e11 => Zbs 12 env fun v env => Zee .i64 v fun x12 => Zbs 13 env fun v env => Zee .i64 v fun x13 => Zje env (R3 i2 o2 i3 o3 a11 n11 c11 e11 x12 x13 h)
theorem Zdw {R3 : T3} {env : Env} {h : Zaa} (hi : E3 R3 env h) : ∃ i2, ∃ o2, ∃ i3, ∃ o3, ∃ a11, ∃ n11, ∃ c11, ∃ e11, ∃ x12, ∃ x13, env = [(2, .ptr (some (i2, o2))), (3, .ptr (some (i3, o3))), (11, .slice a11 n11 c11 e11), (12, .int .i64 x12), (13, .int .i64 x13)] ∧ R3 i2 o2 i3 o3 a11 n11 c11 e11 x12 x13 h := by
 unfold E3 at hi
 have hi0 := hi
 clear hi
 obtain ⟨_, _, rfl, hi1⟩ := Zab hi0
 obtain ⟨a, rfl, hi2⟩ := Zbw hi1
 obtain ⟨i2, o2, rfl, hi3⟩ := Zbp hi2
 obtain ⟨_, _, rfl, hi4⟩ := Zab hi3
 obtain ⟨a, rfl, hi5⟩ := Zbw hi4
 obtain ⟨i3, o3, rfl, hi6⟩ := Zbp hi5
 obtain ⟨_, _, rfl, hi7⟩ := Zab hi6
 obtain ⟨a11, n11, c11, e11, rfl, hi8⟩ := Zbf hi7
 obtain ⟨_, _, rfl, hi9⟩ := Zab hi8
 obtain ⟨x12, rfl, hi10⟩ := Zao hi9
 obtain ⟨_, _, rfl, hi11⟩ := Zab hi10
 obtain ⟨x13, rfl, hi12⟩ := Zao hi11
 obtain ⟨rfl, hi13⟩ := Zbg hi12
 have hi := hi13
 exact ⟨i2, o2, i3, o3, a11, n11, c11, e11, x12, x13, rfl, hi⟩
def K0 (Q : QT) : KT := andThen (fun env' h' => (match kp.find 4000008 with | some ks => Den pg fn.ntmps (C [1, 1, 1]) (env'.keep ks) h' (KR Q) | none => den pg fn.ntmps kp (C [1, 1, 1]) env' h' (KR Q))) (KR Q)
def K1 (Q : QT) : KT := Zck 0 (K0 Q)
def K2 (Q : QT) : KT := left kp 3 (K1 Q)
def K3 (Q : QT) (R3 : T3) : KT := rnd ((kp.find 1000003).getD []) (E3 R3) (K2 Q)
def L3 (Q : QT) (i2 o2 i3 o3 : Nat) (a11 : Pt) (n11 c11 : Nat) (e11 : Bool) (x12 x13 : Int) (h : Zaa) : Prop := Zec (Den pg fn.ntmps (C [1, 1, 0, 1, 0, 0])) ((kp.find 1000003).getD []) (K2 Q) [(2, .ptr (some (i2, o2))), (3, .ptr (some (i3, o3))), (11, .slice a11 n11 c11 e11), (12, .int .i64 x12), (13, .int .i64 x13)] h
def Znf (Q : QT) (i3 o3 i2 o2 : Nat) (h : Zaa) : Prop := At (K1 Q) (.exit 0) [(3, .ptr (some (i3, o3))), (2, .ptr (some (i2, o2)))] h
def L3t (Q : QT) (R3 : T3) (i2 o2 i3 o3 : Nat) (a11 : Pt) (n11 c11 : Nat) (e11 : Bool) (x12 x13 : Int) (h : Zaa) : Prop :=
 bcase (decide ((x13 : Int) < x12)) ((0 ≤ (x13 : Int) ∧ (x13 : Int) < (n11 : Nat)) ∧ (Zbl a11 fun I18 O19 => Zdh (Zbv h (.ptr (some (I18, O19 + (Int.toNat x13) * 3))) 3) fun K20 => Zap K20 fun C21 Z22 => Zbo (some C21) fun S23 => Zap Z22 fun C24 Z25 => Zbo (some C24) fun S26 => Zap Z25 fun C27 Z28 => xSl (some C27) fun A29 N30 C31 E32 => Zcr Z28 (Zdc (h ++ [.cells Zac [.str [], .str [], .slice none 0 0 true] false]) fun H33 => Zcp (Zbk H33 (.ptr (some (h.length, 0))) [.str S23, .str S26, .slice A29 N30 C31 E32]) fun H34 => xSl (Zak H34 (.ptr (some (h.length, 0 + 2)))) fun A35 N36 C37 E38 => Zae pg Zea [.slice A35 N36 C37 E38] H34 fun V39 H40 =>
 xSl (some V39) fun A41 N42 C43 E44 => Zcp (Zbk H40 (.ptr (some (h.length, 0 + 2))) [.slice A41 N42 C43 E44]) fun H45 => xSl (Zak H45 (.ptr (some (i3, o3 + 1)))) fun A46 N47 C48 E49 => Zdh (Zbv H45 (.ptr (some (h.length, 0))) 3) fun K50 => Zap K50 fun C51 Z52 => Zbo (some C51) fun S53 => Zap Z52 fun C54 Z55 => Zbo (some C54) fun S56 => Zap Z55 fun C57 Z58 => xSl (some C57) fun A59 N60 C61 E62 => Zcr Z58 (Zdc (H45 ++ [.cells Zac [.str S53, .str S56, .slice A59 N60 C61 E62] false]) fun H63 => Zdd pg Zdl H63 (.slice A46 N47 C48 E49) (.slice (some (H45.length, 0)) 1 1 true) fun V64 H65 => xSl (some V64) fun A66 N67 C68 E69 => Zcp (Zbk H65 (.ptr (some (i3, o3 + 1))) [.slice A66 N67 C68 E69]) fun H70 => R3 i2 o2 i3 o3 a11 n11 c11 e11 x12 (IntKind.wrap .i64 (x13 + 1)) H70)))) (Znf Q i3 o3 i2 o2 h)
theorem Zkh (Q : QT) (R3 : T3) (i2 o2 i3 o3 : Nat) (a11 : Pt) (n11 c11 : Nat) (e11 : Bool) (x12 x13 : Int) (h : Zaa) (ht : L3t Q R3 i2 o2 i3 o3 a11 n11 c11 e11 x12 x13 h) : Den pg fn.ntmps (C [1, 1, 0, 1, 0, 0]) [(2, .ptr (some (i2, o2))), (3, .ptr (some (i3, o3))), (11, .slice a11 n11 c11 e11), (12, .int .i64 x12), (13, .int .i64 x13)] h (K3 Q R3) :=
 Zba (kp := kp) (cast (by kernel_rfl) ht)
theorem L3ind (Q : QT) (i2 o2 i3 o3 : Nat) (a11 : Pt) (n11 c11 : Nat) (e11 : Bool) (x12 : Int) {G : Type} (J : G → Int → Zaa → Prop) (m : G → Nat)
 (hr : ∀ (g : G) (x13 : Int) (h : Zaa), J g x13 h → ∀ (R3 : T3), (∀ g' (x13 : Int) (h : Zaa), m g' < m g → J g' x13 h → R3 i2 o2 i3 o3 a11 n11 c11 e11 x12 x13 h) → L3t Q R3 i2 o2 i3 o3 a11 n11 c11 e11 x12 x13 h)
 (g : G) (x13 : Int) (h : Zaa) (hj : J g x13 h) : L3 Q i2 o2 i3 o3 a11 n11 c11 e11 x12 x13 h := by
 refine Zec.inv2 (fun g => E3 fun i2' o2' i3' o3' a11' n11' c11' e11' x12' x13 h => i2 = i2' ∧ o2 = o2' ∧ i3 = i3' ∧ o3 = o3' ∧ a11 = a11' ∧ n11 = n11' ∧ c11 = c11' ∧ e11 = e11' ∧ x12 = x12' ∧ J g x13 h) (fun g => E3 fun i2' o2' i3' o3' a11' n11' c11' e11' x12' x13 h => i2 = i2' ∧ o2 = o2' ∧ i3 = i3' ∧ o3 = o3' ∧ a11 = a11' ∧ n11 = n11' ∧ c11 = c11' ∧ e11 = e11' ∧ x12 = x12' ∧ ∃ g', m g' < m g ∧ J g' x13 h) m ?_ ?_ g ⟨rfl, rfl, rfl, rfl, rfl, rfl, rfl, rfl, rfl, hj⟩
 ·intro g env h hi
  obtain ⟨i2', o2', i3', o3', a11', n11', c11', e11', x12', x13, rfl, rfl, rfl, rfl, rfl, rfl, rfl, rfl, rfl, rfl, hj⟩ := Zdw hi
  exact Zkh Q _ i2 o2 i3 o3 a11 n11 c11 e11 x12 x13 h (hr g x13 h hj (fun i2' o2' i3' o3' a11' n11' c11' e11' x12' x13 h => i2 = i2' ∧ o2 = o2' ∧ i3 = i3' ∧ o3 = o3' ∧ a11 = a11' ∧ n11 = n11' ∧ c11 = c11' ∧ e11 = e11' ∧ x12 = x12' ∧ ∃ g', m g' < m g ∧ J g' x13 h) fun g' x13 h hlt hj => ⟨rfl, rfl, rfl, rfl, rfl, rfl, rfl, rfl, rfl, g', hlt, hj⟩)
 ·intro g env h hi
  obtain ⟨i2', o2', i3', o3', a11', n11', c11', e11', x12', x13, rfl, rfl, rfl, rfl, rfl, rfl, rfl, rfl, rfl, rfl, g', hlt, hj⟩ := Zdw hi
  exact ⟨g', hlt, rfl, rfl, rfl, rfl, rfl, rfl, rfl, rfl, rfl, hj⟩
theorem A3x0i (Q : QT) (i3 o3 i2 o2 : Nat) (h : Zaa) (ht :
 Zdh (Zbv h (.ptr (some (i3, o3))) 2) fun K71 => Zap K71 fun C72 Z73 => xSl (some C72) fun A74 N75 C76 E77 => Zap Z73 fun C78 Z79 => xSl (some C78) fun A80 N81 C82 E83 => Zcr Z79 (Zcp (Zbk h (.ptr (some (i2, o2))) [.slice A74 N75 C76 E77, .slice A80 N81 C82 E83]) fun H84 => Zdh (Zbv H84 (.ptr (some (i2, o2))) 2) fun K85 => Zap K85 fun C86 Z87 => xSl (some C86) fun A88 N89 C90 E91 => Zap Z87 fun C92 Z93 => xSl (some C92) fun A94 N95 C96 E97 => Zcr Z93 (Q (.agg [.slice A88 N89 C90 E91, .slice A94 N95 C96 E97]) H84))) : Znf Q i3 o3 i2 o2 h :=
 At.mk (cast (by kernel_rfl) ht)
theorem call (a0x0 : Pt) (n0x0 c0x0 : Nat) (e0x0 : Bool) (a0x1 : Pt) (n0x1 c0x1 : Nat) (e0x1 : Bool) (h : Zaa) (Q : QT) (ht :
 Zdc (h ++ [.cells Zaf [.slice a0x0 n0x0 c0x0 e0x0, .slice a0x1 n0x1 c0x1 e0x1] false]) fun H0 => Zdc (H0 ++ [.cells Zaf [.slice none 0 0 true, .slice none 0 0 true] false]) fun H1 => xSl (Zak H1 (.ptr (some (h.length, 0 + 0)))) fun A2 N3 C4 E5 => Zae pg Zds [.slice A2 N3 C4 E5] H1 fun V6 H7 =>
 xSl (some V6) fun A8 N9 C10 E11 => Zdc (H7 ++ [.cells Zaf [.slice none 0 0 true, .slice none 0 0 true] false]) fun H12 => Zcp (Zbk H12 (.ptr (some (H7.length, 0))) [.slice A8 N9 C10 E11, .slice none 0 0 true]) fun H13 => xSl (Zak H13 (.ptr (some (h.length, 0 + 1)))) fun A14 N15 C16 E17 => L3 Q H0.length 0 H7.length 0 A14 N15 C16 E17 (((N15 : Nat) : Int)) 0 H13) : Zae pg Zpk [.agg [.slice a0x0 n0x0 c0x0 e0x0, .slice a0x1 n0x1 c0x1 e0x1]] h Q :=
 Zae.of_body kp (c := cod fn) (fn := fn) Go.Proofs.Tryz.func71 (by kernel_rfl) (by kernel_rfl) (Nat.le_of_ble_eq_true (by kernel_rfl))
  (cast (by kernel_rfl) ht)
end Zkd
end Go.Sim

set_option maxRecDepth 100000
set_option linter.unusedVariables false
namespace Go.Sim
open Go Go.RowKit
namespace Zfo
noncomputable abbrev fn : Func := Go.Proofs.Tryz.f100
def kp : Zbz := []
noncomputable def C (p : List Nat) : Code := (cod fn).sub p
def KR (Q : QT) : KT := Zes pg fn.results.toList Q
theorem call (a0 : Pt) (n0 c0 : Nat) (e0 : Bool) (h : Zaa) (Q : QT) (ht :
 (a0 = none → e0 = true) ∧ (bcase (Option.isNone a0) (Q (.slice none 0 0 true) h) (Zdc (h ++ [.cells Zaj [] false]) fun H0 => Zdd pg Zkl H0 (.slice (some (h.length, 0)) 0 0 true) (.slice a0 n0 c0 e0) fun V1 H2 => xSl (some V1) fun A3 N4 C5 E6 => Q (.slice A3 N4 C5 E6) H2))) : Zae pg Zea [.slice a0 n0 c0 e0] h Q :=
 Zae.of_body kp (c := cod fn) (fn := fn) Go.Proofs.Tryz.func100 (by kernel_rfl) (by kernel_rfl) (Nat.le_of_ble_eq_true (by kernel_rfl))
  (cast (by kernel_rfl) ht)
end Zfo
end Go.Sim

set_option maxRecDepth 100000
set_option linter.unusedVariables false
namespace Go.Sim
open Go Go.RowKit
namespace Zer
noncomputable abbrev fn : Func := Go.Proofs.Tryz.f120
def kp : Zbz := [(4000004, [0, 6]), (3000006, [8, 6]), (1000006, [6, 8, 26, 27, 28]), (2000008, [28, 27, 26, 8, 6])]
noncomputable def C (p : List Nat) : Code := (cod fn).sub p
def KR (Q : QT) : KT := Zes pg fn.results.toList Q
abbrev T6 := Nat → Nat → Nat → Nat → Pt → Nat → Nat → Bool → Int → Int → Zaa → Prop
def E6 (R6 : T6) (env : Env) (h : Zaa) : Prop := Zbs 6 env fun v env => Zii (some v) fun a => Zbl a fun i6 o6 => Zbs 8 env fun v env => Zii (some v) fun a => Zbl a fun i8 o8 => Zbs 26 env fun v env => xSl (some v) fun a26 n26 c26 e26 => Zbs 27 env fun v env => Zee .i64 v fun x27 => Zbs 28 env fun v env => Zee .i64 v fun x28 => Zje env (R6 i6 o6 i8 o8 a26 n26 c26 e26 x27 x28 h)
theorem Znh {R6 : T6} {env : Env} {h : Zaa} (hi : E6 R6 env h) : ∃ i6, ∃ o6, ∃ i8, ∃ o8, ∃ a26, ∃ n26, ∃ c26, ∃ e26, ∃ x27, ∃ x28, env = [(6, .ptr (some (i6, o6))), (8, .ptr (some (i8, o8))), (26, .slice a26 n26 c26 e26), (27, .int .i64 x27), (28, .int .i64 x28)] ∧ R6 i6 o6 i8 o8 a26 n26 c26 e26 x27 x28 h := by
 unfold E6 at hi
 have hi0 := hi
 clear hi
 obtain ⟨_, _, rfl, hi1⟩ := Zab hi0
 obtain ⟨a, rfl, hi2⟩ := Zbw hi1
 obtain ⟨i6, o6, rfl, hi3⟩ := Zbp hi2
 obtain ⟨_, _, rfl, hi4⟩ := Zab hi3
 obtain ⟨a, rfl, hi5⟩ := Zbw hi4
 obtain ⟨i8, o8, rfl, hi6⟩ := Zbp hi5
 obtain ⟨_, _, rfl, hi7⟩ := Zab hi6
 obtain ⟨a26, n26, c26, e26, rfl, hi8⟩ := Zbf hi7
 obtain ⟨_, _, rfl, hi9⟩ := Zab hi8
 obtain ⟨x27, rfl, hi10⟩ := Zao hi9
 obtain ⟨_, _, rfl, hi11⟩ := Zab hi10
 obtain ⟨x28, rfl, hi12⟩ := Zao hi11
 obtain ⟨rfl, hi13⟩ := Zbg hi12
 have hi := hi13
 exact ⟨i6, o6, i8, o8, a26, n26, c26, e26, x27, x28, rfl, hi⟩
def K0 (Q : QT) : KT := andThen (fun env' h' => (match kp.find 4000010 with | some ks => Den pg fn.ntmps (C [1, 1, 1, 1, 1]) (env'.keep ks) h' (KR Q) | none => den pg fn.ntmps kp (C [1, 1, 1, 1, 1]) env' h' (KR Q))) (KR Q)
def K1 (Q : QT) : KT := Zck 0 (K0 Q)
def K2 (Q : QT) : KT := left kp 6 (K1 Q)
def K3 (Q : QT) (R6 : T6) : KT := rnd ((kp.find 1000006).getD []) (E6 R6) (K2 Q)
def J4 (Q : QT) (a0 : Pt) (n0 c0 : Nat) (e0 : Bool) (i6 o6 : Nat) (h : Zaa) : Prop := Den pg fn.ntmps (C [1, 1, 1]) [(0, .slice a0 n0 c0 e0), (6, .ptr (some (i6, o6)))] h (KR Q)
def L6 (Q : QT) (i6 o6 i8 o8 : Nat) (a26 : Pt) (n26 c26 : Nat) (e26 : Bool) (x27 x28 : Int) (h : Zaa) : Prop := Zec (Den pg fn.ntmps (C [1, 1, 1, 1, 0, 1, 0, 0])) ((kp.find 1000006).getD []) (K2 Q) [(6, .ptr (some (i6, o6))), (8, .ptr (some (i8, o8))), (26, .slice a26 n26 c26 e26), (27, .int .i64 x27), (28, .int .i64 x28)] h
def Ygk (Q : QT) (i8 o8 i6 o6 : Nat) (h : Zaa) : Prop := At (K1 Q) (.exit 0) [(8, .ptr (some (i8, o8))), (6, .ptr (some (i6, o6)))] h
theorem J4i (Q : QT) (a0 : Pt) (n0 c0 : Nat) (e0 : Bool) (i6 o6 : Nat) (h : Zaa) (ht :
 Zdc (h ++ [.cells Zfb [.int .u8 0, .slice none 0 0 true, .int .u8 0, .slice none 0 0 true, .int .u8 0, .slice none 0 0 true, .int .u8 0, .slice none 0 0 true, .int .u8 0, .slice none 0 0 true, .int .u8 0, .slice none 0 0 true, .int .u8 0, .slice none 0 0 true, .int .u8 0, .slice none 0 0 true, .int .u8 0, .slice none 0 0 true, .int .u8 0, .slice none 0 0 true, .int .u8 0, .slice none 0 0 true, .int .u8 0, .slice none 0 0 true] false]) fun H23 => L6 Q i6 o6 h.length 0 a0 n0 c0 e0 (((n0 : Nat) : Int)) 0 H23) : J4 Q a0 n0 c0 e0 i6 o6 h :=
 Zba (kp := kp) (cast (by kernel_rfl) ht)
def L6t (Q : QT) (R6 : T6) (i6 o6 i8 o8 : Nat) (a26 : Pt) (n26 c26 : Nat) (e26 : Bool) (x27 x28 : Int) (h : Zaa) : Prop :=
 bcase (decide ((x28 : Int) < x27)) ((0 ≤ (x28 : Int) ∧ (x28 : Int) < (n26 : Nat)) ∧ (Zbl a26 fun I24 O25 => Zdh (Zbv h (.ptr (some (I24, O25 + (Int.toNat x28) * 2))) 2) fun K26 => Zap K26 fun C27 Z28 => Zbo (some C27) fun S29 => Zap Z28 fun C30 Z31 => Zbo (some C30) fun S32 => Zcr Z31 (Zdc (h ++ [.cells Zbe [.str [], .str []] false]) fun H33 => Zcp (Zbk H33 (.ptr (some (h.length, 0))) [.str S29, .str S32]) fun H34 => Zbo (Zak H34 (.ptr (some (h.length, 0 + 0)))) fun S35 => Zlw S35 0 fun B36 => Zbo (Zak H34 (.ptr (some (h.length, 0 + 1)))) fun S37 => Zae pg Zix [.int .u8 (((B36 : Nat) : Int))] H34 fun V38 H39 =>
 Zen .i64 (some V38) fun X40 => (Zak H39 (.ptr (some (h.length, 0 + 1))) = Zak H34 (.ptr (some (h.length, 0 + 1)))) ∧ (Zak H39 (.ptr (some (h.length, 0 + 0))) = Zak H34 (.ptr (some (h.length, 0 + 0)))) ∧ Zae pg Zgt [.str S37] H39 fun V41 H42 =>
 Zva V41 fun K43 => Zap K43 fun C44 Z45 => Zuw C44 fun K46 => Zap K46 fun C47 Z48 => Zen .u8 (some C47) fun X49 => Zap Z48 fun C50 Z51 => xSl (some C50) fun A52 N53 C54 E55 => Zcr Z51 (Zap Z45 fun C56 Z57 => Zci (some C56) fun B58 => Zcr Z57 ((Zak H42 (.ptr (some (h.length, 0 + 0))) = Zak H39 (.ptr (some (h.length, 0 + 0)))) ∧ (0 ≤ (X40 : Int) ∧ (X40 : Int) < (12 : Nat)) ∧ (Zcp (Zbk H42 (.ptr (some (i8, o8 + (Int.toNat X40) * 2))) [.int .u8 X49, .slice A52 N53 C54 E55]) fun H59 => R6 i6 o6 i8 o8 a26 n26 c26 e26 x27 (IntKind.wrap .i64 (x28 + 1)) H59)))))) (Ygk Q i8 o8 i6 o6 h)
theorem Yaj (Q : QT) (R6 : T6) (i6 o6 i8 o8 : Nat) (a26 : Pt) (n26 c26 : Nat) (e26 : Bool) (x27 x28 : Int) (h : Zaa) (ht : L6t Q R6 i6 o6 i8 o8 a26 n26 c26 e26 x27 x28 h) : Den pg fn.ntmps (C [1, 1, 1, 1, 0, 1, 0, 0]) [(6, .ptr (some (i6, o6))), (8, .ptr (some (i8, o8))), (26, .slice a26 n26 c26 e26), (27, .int .i64 x27), (28, .int .i64 x28)] h (K3 Q R6) :=
 Zba (kp := kp) (cast (by kernel_rfl) ht)
theorem L6ind (Q : QT) (i6 o6 i8 o8 : Nat) (a26 : Pt) (n26 c26 : Nat) (e26 : Bool) (x27 : Int) {G : Type} (J : G → Int → Zaa → Prop) (m : G → Nat)
 (hr : ∀ (g : G) (x28 : Int) (h : Zaa), J g x28 h → ∀ (R6 : T6), (∀ g' (x28 : Int) (h : Zaa), m g' < m g → J g' x28 h → R6 i6 o6 i8 o8 a26 n26 c26 e26 x27 x28 h) → L6t Q R6 i6 o6 i8 o8 a26 n26 c26 e26 x27 x28 h)
 (g : G) (x28 : Int) (h : Zaa) (hj : J g x28 h) : L6 Q i6 o6 i8 o8 a26 n26 c26 e26 x27 x28 h := by
 refine Zec.inv2 (fun g => E6 fun i6' o6' i8' o8' a26' n26' c26' e26' x27' x28 h => i6 = i6' ∧ o6 = o6' ∧ i8 = i8' ∧ o8 = o8' ∧ a26 = a26' ∧ n26 = n26' ∧ c26 = c26' ∧ e26 = e26' ∧ x27 = x27' ∧ J g x28 h) (fun g => E6 fun i6' o6' i8' o8' a26' n26' c26' e26' x27' x28 h => i6 = i6' ∧ o6 = o6' ∧ i8 = i8' ∧ o8 = o8' ∧ a26 = a26' ∧ n26 = n26' ∧ c26 = c26' ∧ e26 = e26' ∧ x27 = x27' ∧ ∃ g', m g' < m g ∧ J g' x28 h) m ?_ ?_ g ⟨rfl, rfl, rfl, rfl, rfl, rfl, rfl, rfl, rfl, hj⟩
 ·intro g env h hi
  obtain ⟨i6', o6', i8', o8', a26', n26', c26', e26', x27', x28, rfl, rfl, rfl, rfl, rfl, rfl, rfl, rfl, rfl, rfl, hj⟩ := Znh hi
  exact Yaj Q _ i6 o6 i8 o8 a26 n26 c26 e26 x27 x28 h (hr g x28 h hj (fun i6' o6' i8' o8' a26' n26' c26' e26' x27' x28 h => i6 = i6' ∧ o6 = o6' ∧ i8 = i8' ∧ o8 = o8' ∧ a26 = a26' ∧ n26 = n26' ∧ c26 = c26' ∧ e26 = e26' ∧ x27 = x27' ∧ ∃ g', m g' < m g ∧ J g' x28 h) fun g' x28 h hlt hj => ⟨rfl, rfl, rfl, rfl, rfl, rfl, rfl, rfl, rfl, g', hlt, hj⟩)
 ·intro g env h hi
  obtain ⟨i6', o6', i8', o8', a26', n26', c26', e26', x27', x28, rfl, rfl, rfl, rfl, rfl, rfl, rfl, rfl, rfl, rfl, g', hlt, hj⟩ := Znh hi
  exact ⟨g', hlt, rfl, rfl, rfl, rfl, rfl, rfl, rfl, rfl, rfl, hj⟩
theorem A6x0i (Q : QT) (i8 o8 i6 o6 : Nat) (h : Zaa) (ht :
 Zdh (Zbv h (.ptr (some (i6, o6))) 2) fun K60 => Zap K60 fun C61 Z62 => Zen .u8 (some C61) fun X63 => Zap Z62 fun C64 Z65 => xSl (some C64) fun A66 N67 C68 E69 => Zcr Z65 (Zae pg Zni [.ptr (some (i8, o8)), .agg [.int .u8 X63, .slice A66 N67 C68 E69]] h fun V70 H71 =>
 Zuw V70 fun K72 => Zap K72 fun C73 Z74 => Zen .u8 (some C73) fun X75 => Zap Z74 fun C76 Z77 => xSl (some C76) fun A78 N79 C80 E81 => Zcr Z77 (Zdc (H71 ++ [.cells Zad [.int .u8 0, .slice none 0 0 true] false]) fun H82 => Zcp (Zbk H82 (.ptr (some (H71.length, 0))) [.int .u8 X75, .slice A78 N79 C80 E81]) fun H83 => Zdh (Zbv H83 (.ptr (some (H71.length, 0))) 2) fun K84 => Zap K84 fun C85 Z86 => Zen .u8 (some C85) fun X87 => Zap Z86 fun C88 Z89 => xSl (some C88) fun A90 N91 C92 E93 => Zcr Z89 (Zae pg Zhj [.agg [.int .u8 X87, .slice A90 N91 C92 E93]] H83 fun V94 H95 =>
 Zen .i64 (some V94) fun X96 => bcase (decide ((X96 : Int) > 60)) (Q (.tup [.str [], .bool false]) H95) (Zdh (Zbv H95 (.ptr (some (H71.length, 0))) 2) fun K97 => Zap K97 fun C98 Z99 => Zen .u8 (some C98) fun X100 => Zap Z99 fun C101 Z102 => xSl (some C101) fun A103 N104 C105 E106 => Zcr Z102 (Zae pg Zgl [.agg [.int .u8 X100, .slice A103 N104 C105 E106]] H95 fun V107 H108 =>
 Zbo (some V107) fun S109 => Q (.tup [.str S109, .bool true]) H108)))))) : Ygk Q i8 o8 i6 o6 h :=
 At.mk (cast (by kernel_rfl) ht)
theorem call (a0 : Pt) (n0 c0 : Nat) (e0 : Bool) (x1 : List Nat) (h : Zaa) (Q : QT) (ht :
 Zae pg Zgt [.str x1] h fun V0 H1 =>
 Zva V0 fun K2 => Zap K2 fun C3 Z4 => Zuw C3 fun K5 => Zap K5 fun C6 Z7 => Zen .u8 (some C6) fun X8 => Zap Z7 fun C9 Z10 => xSl (some C9) fun A11 N12 C13 E14 => Zcr Z10 (Zap Z4 fun C15 Z16 => Zci (some C15) fun B17 => Zcr Z16 (Zdc (H1 ++ [.cells Zad [.int .u8 0, .slice none 0 0 true] false]) fun H18 => Zcp (Zbk H18 (.ptr (some (H1.length, 0))) [.int .u8 X8, .slice A11 N12 C13 E14]) fun H19 => bcase (!B17) (Q (.tup [.str [], .bool false]) H19) (Zae pg Zim [.slice a0 n0 c0 e0] H19 fun V20 H21 =>
 Zci (some V20) fun B22 => bcase (!B22) (Q (.tup [.str [], .bool false]) H21) (J4 Q a0 n0 c0 e0 H1.length 0 H21))))) : Zae pg Zin [.slice a0 n0 c0 e0, .str x1] h Q :=
 Zae.of_body kp (c := cod fn) (fn := fn) Go.Proofs.Tryz.func120 (by kernel_rfl) (by kernel_rfl) (Nat.le_of_ble_eq_true (by kernel_rfl))
  (cast (by kernel_rfl) ht)
end Zer
namespace Zjb
noncomputable abbrev fn : Func := Go.Proofs.Tryz.f86
def kp : Zbz := [(3000006, [6, 4, 5]), (1000006, [6, 7, 26, 27, 28])]
noncomputable def C (p : List Nat) : Code := (cod fn).sub p
def KR (Q : QT) : KT := Zes pg fn.results.toList Q
abbrev T6 := Pt → Nat → Nat → Bool → Pt → Nat → Nat → Bool → Pt → Nat → Nat → Bool → Int → Int → Zaa → Prop
def E6 (R6 : T6) (env : Env) (h : Zaa) : Prop := Zbs 6 env fun v env => xSl (some v) fun a6 n6 c6 e6 => Zbs 7 env fun v env => xSl (some v) fun a7 n7 c7 e7 => Zbs 26 env fun v env => xSl (some v) fun a26 n26 c26 e26 => Zbs 27 env fun v env => Zee .i64 v fun x27 => Zbs 28 env fun v env => Zee .i64 v fun x28 => Zje env (R6 a6 n6 c6 e6 a7 n7 c7 e7 a26 n26 c26 e26 x27 x28 h)
theorem Znh {R6 : T6} {env : Env} {h : Zaa} (hi : E6 R6 env h) : ∃ a6, ∃ n6, ∃ c6, ∃ e6, ∃ a7, ∃ n7, ∃ c7, ∃ e7, ∃ a26, ∃ n26, ∃ c26, ∃ e26, ∃ x27, ∃ x28, env = [(6, .slice a6 n6 c6 e6), (7, .slice a7 n7 c7 e7), (26, .slice a26 n26 c26 e26), (27, .int .i64 x27), (28, .int .i64 x28)] ∧ R6 a6 n6 c6 e6 a7 n7 c7 e7 a26 n26 c26 e26 x27 x28 h := by
 unfold E6 at hi
 have hi0 := hi
 clear hi
 obtain ⟨_, _, rfl, hi1⟩ := Zab hi0
 obtain ⟨a6, n6, c6, e6, rfl, hi2⟩ := Zbf hi1
 obtain ⟨_, _, rfl, hi3⟩ := Zab hi2
 obtain ⟨a7, n7, c7, e7, rfl, hi4⟩ := Zbf hi3
 obtain ⟨_, _, rfl, hi5⟩ := Zab hi4
 obtain ⟨a26, n26, c26, e26, rfl, hi6⟩ := Zbf hi5
 obtain ⟨_, _, rfl, hi7⟩ := Zab hi6
 obtain ⟨x27, rfl, hi8⟩ := Zao hi7
 obtain ⟨_, _, rfl, hi9⟩ := Zab hi8
 obtain ⟨x28, rfl, hi10⟩ := Zao hi9
 obtain ⟨rfl, hi11⟩ := Zbg hi10
 have hi := hi11
 exact ⟨a6, n6, c6, e6, a7, n7, c7, e7, a26, n26, c26, e26, x27, x28, rfl, hi⟩
def K0 (Q : QT) : KT := andThen (fun env' h' => (match kp.find 4000013 with | some ks => Den pg fn.ntmps (C [1, 1, 1, 1, 1]) (env'.keep ks) h' (KR Q) | none => den pg fn.ntmps kp (C [1, 1, 1, 1, 1]) env' h' (KR Q))) (KR Q)
def K1 (Q : QT) : KT := Zck 0 (K0 Q)
def K2 (Q : QT) : KT := left kp 6 (K1 Q)
def K3 (Q : QT) (R6 : T6) : KT := rnd ((kp.find 1000006).getD []) (E6 R6) (K2 Q)
def L6 (Q : QT) (a6 : Pt) (n6 c6 : Nat) (e6 : Bool) (a7 : Pt) (n7 c7 : Nat) (e7 : Bool) (a26 : Pt) (n26 c26 : Nat) (e26 : Bool) (x27 x28 : Int) (h : Zaa) : Prop := Zec (Den pg fn.ntmps (C [1, 1, 1, 1, 0, 1, 0, 0])) ((kp.find 1000006).getD []) (K2 Q) [(6, .slice a6 n6 c6 e6), (7, .slice a7 n7 c7 e7), (26, .slice a26 n26 c26 e26), (27, .int .i64 x27), (28, .int .i64 x28)] h
def Ygk (Q : QT) (a6 : Pt) (n6 c6 : Nat) (e6 : Bool) (h : Zaa) : Prop := At (K1 Q) (.exit 0) [(6, .slice a6 n6 c6 e6), (4, .undef), (5, .undef)] h
def L6t (Q : QT) (R6 : T6) (a6 : Pt) (n6 c6 : Nat) (e6 : Bool) (a7 : Pt) (n7 c7 : Nat) (e7 : Bool) (a26 : Pt) (n26 c26 : Nat) (e26 : Bool) (x27 x28 : Int) (h : Zaa) : Prop :=
 bcase (decide ((x28 : Int) < x27)) ((0 ≤ (x28 : Int) ∧ (x28 : Int) < (n26 : Nat)) ∧ (Zbl a26 fun I19 O20 => Zdh (Zbv h (.ptr (some (I19, O20 + (Int.toNat x28) * 2))) 2) fun K21 => Zap K21 fun C22 Z23 => Zbo (some C22) fun S24 => Zap Z23 fun C25 Z26 => Zbo (some C25) fun S27 => Zcr Z26 (Zdc (h ++ [.cells Zaj [.str [], .str []] false]) fun H28 => Zcp (Zbk H28 (.ptr (some (h.length, 0))) [.str S24, .str S27]) fun H29 => Zbo (Zak H29 (.ptr (some (h.length, 0 + 1)))) fun S30 => Zae pg Zin [.slice a7 n7 c7 e7, .str S30] H29 fun V31 H32 =>
 Zva V31 fun K33 => Zap K33 fun C34 Z35 => Zbo (some C34) fun S36 => Zap Z35 fun C37 Z38 => Zci (some C37) fun B39 => Zcr Z38 (bcase (!B39) (Zdc (H32 ++ [.cells Zaj [] false]) fun H40 => Q (.tup [.slice (some (H32.length, 0)) 0 0 true, .bool false]) H40) (Zbo (Zak H32 (.ptr (some (h.length, 0 + 0)))) fun S41 => Zdc (H32 ++ [.cells Zaj [.str S41, .str S36] false]) fun H42 => Zdd pg Zkl H42 (.slice a6 n6 c6 e6) (.slice (some (H32.length, 0)) 1 1 true) fun V43 H44 => xSl (some V43) fun A45 N46 C47 E48 => R6 A45 N46 C47 E48 a7 n7 c7 e7 a26 n26 c26 e26 x27 (IntKind.wrap .i64 (x28 + 1)) H44))))) (Ygk Q a6 n6 c6 e6 h)
theorem Yaj (Q : QT) (R6 : T6) (a6 : Pt) (n6 c6 : Nat) (e6 : Bool) (a7 : Pt) (n7 c7 : Nat) (e7 : Bool) (a26 : Pt) (n26 c26 : Nat) (e26 : Bool) (x27 x28 : Int) (h : Zaa) (ht : L6t Q R6 a6 n6 c6 e6 a7 n7 c7 e7 a26 n26 c26 e26 x27 x28 h) : Den pg fn.ntmps (C [1, 1, 1, 1, 0, 1, 0, 0]) [(6, .slice a6 n6 c6 e6), (7, .slice a7 n7 c7 e7), (26, .slice a26 n26 c26 e26), (27, .int .i64 x27), (28, .int .i64 x28)] h (K3 Q R6) :=
 Zba (kp := kp) (cast (by kernel_rfl) ht)
theorem L6ind (Q : QT) (a7 : Pt) (n7 c7 : Nat) (e7 : Bool) (a26 : Pt) (n26 c26 : Nat) (e26 : Bool) (x27 : Int) {G : Type} (J : G → Pt → Nat → Nat → Bool → Int → Zaa → Prop) (m : G → Nat)
 (hr : ∀ (g : G) (a6 : Pt) (n6 c6 : Nat) (e6 : Bool) (x28 : Int) (h : Zaa), J g a6 n6 c6 e6 x28 h → ∀ (R6 : T6), (∀ g' (a6 : Pt) (n6 c6 : Nat) (e6 : Bool) (x28 : Int) (h : Zaa), m g' < m g → J g' a6 n6 c6 e6 x28 h → R6 a6 n6 c6 e6 a7 n7 c7 e7 a26 n26 c26 e26 x27 x28 h) → L6t Q R6 a6 n6 c6 e6 a7 n7 c7 e7 a26 n26 c26 e26 x27 x28 h)
 (g : G) (a6 : Pt) (n6 c6 : Nat) (e6 : Bool) (x28 : Int) (h : Zaa) (hj : J g a6 n6 c6 e6 x28 h) : L6 Q a6 n6 c6 e6 a7 n7 c7 e7 a26 n26 c26 e26 x27 x28 h := by
 refine Zec.inv2 (fun g => E6 fun a6 n6 c6 e6 a7' n7' c7' e7' a26' n26' c26' e26' x27' x28 h => a7 = a7' ∧ n7 = n7' ∧ c7 = c7' ∧ e7 = e7' ∧ a26 = a26' ∧ n26 = n26' ∧ c26 = c26' ∧ e26 = e26' ∧ x27 = x27' ∧ J g a6 n6 c6 e6 x28 h) (fun g => E6 fun a6 n6 c6 e6 a7' n7' c7' e7' a26' n26' c26' e26' x27' x28 h => a7 = a7' ∧ n7 = n7' ∧ c7 = c7' ∧ e7 = e7' ∧ a26 = a26' ∧ n26 = n26' ∧ c26 = c26' ∧ e26 = e26' ∧ x27 = x27' ∧ ∃ g', m g' < m g ∧ J g' a6 n6 c6 e6 x28 h) m ?_ ?_ g ⟨rfl, rfl, rfl, rfl, rfl, rfl, rfl, rfl, rfl, hj⟩
 ·intro g env h hi
  obtain ⟨a6, n6, c6, e6, a7', n7', c7', e7', a26', n26', c26', e26', x27', x28, rfl, rfl, rfl, rfl, rfl, rfl, rfl, rfl, rfl, rfl, hj⟩ := Znh hi
  exact Yaj Q _ a6 n6 c6 e6 a7 n7 c7 e7 a26 n26 c26 e26 x27 x28 h (hr g a6 n6 c6 e6 x28 h hj (fun a6 n6 c6 e6 a7' n7' c7' e7' a26' n26' c26' e26' x27' x28 h => a7 = a7' ∧ n7 = n7' ∧ c7 = c7' ∧ e7 = e7' ∧ a26 = a26' ∧ n26 = n26' ∧ c26 = c26' ∧ e26 = e26' ∧ x27 = x27' ∧ ∃ g', m g' < m g ∧ J g' a6 n6 c6 e6 x28 h) fun g' a6 n6 c6 e6 x28 h hlt hj => ⟨rfl, rfl, rfl, rfl, rfl, rfl, rfl, rfl, rfl, g', hlt, hj⟩)
 ·intro g env h hi
  obtain ⟨a6, n6, c6, e6, a7', n7', c7', e7', a26', n26', c26', e26', x27', x28, rfl, rfl, rfl, rfl, rfl, rfl, rfl, rfl, rfl, rfl, g', hlt, hj⟩ := Znh hi
  exact ⟨g', hlt, rfl, rfl, rfl, rfl, rfl, rfl, rfl, rfl, rfl, hj⟩
theorem A6x0i (Q : QT) (a6 : Pt) (n6 c6 : Nat) (e6 : Bool) (h : Zaa) (ht :
 Q (.tup [.slice a6 n6 c6 e6, .bool true]) h) : Ygk Q a6 n6 c6 e6 h :=
 At.mk (cast (by kernel_rfl) ht)
theorem call (x0x0 x0x1 : List Nat) (a0x2 : Pt) (n0x2 c0x2 : Nat) (e0x2 : Bool) (x1 : List Nat) (h : Zaa) (Q : QT) (ht :
 Zdc (h ++ [.cells Zac [.str x0x0, .str x0x1, .slice a0x2 n0x2 c0x2 e0x2] false]) fun H0 => Zdc (H0 ++ [.cells Zaj [] false]) fun H1 => Zbo (Zak H1 (.ptr (some (h.length, 0 + 0 + 1)))) fun S2 => Zae pg Zjg [.str S2, .str x1] H1 fun V3 H4 =>
 Zva V3 fun K5 => Zap K5 fun C6 Z7 => xSl (some C6) fun A8 N9 C10 E11 => Zap Z7 fun C12 Z13 => Zci (some C12) fun B14 => Zcr Z13 (bcase (!B14) (Q (.tup [.slice (some (H0.length, 0)) 0 0 true, .bool false]) H4) (xSl (Zak H4 (.ptr (some (h.length, 0 + 2)))) fun A15 N16 C17 E18 => L6 Q (some (H0.length, 0)) 0 0 true A8 N9 C10 E11 A15 N16 C17 E18 (((N16 : Nat) : Int)) 0 H4))) : Zae pg Znl [.agg [.str x0x0, .str x0x1, .slice a0x2 n0x2 c0x2 e0x2], .str x1] h Q :=
 Zae.of_body kp (c := cod fn) (fn := fn) Go.Proofs.Tryz.func86 (by kernel_rfl) (by kernel_rfl) (Nat.le_of_ble_eq_true (by kernel_rfl))
  (cast (by kernel_rfl) ht)
end Zjb
end Go.Sim

set_option maxRecDepth 100000
set_option linter.unusedVariables false
namespace Go.Sim
open Go Go.RowKit
namespace Zdv
noncomputable abbrev fn : Func := Go.Proofs.Tryz.f144
def kp : Zbz := [(3000002, [2]), (1000002, [0, 5, 6, 7]), (2000004, [43, 7, 6, 5, 0]), (4000006, [7, 6, 5, 0])]
noncomputable def C (p : List Nat) : Code := (cod fn).sub p
def KR (Q : QT) : KT := Zes pg fn.results.toList Q
abbrev T2 := Pt → Nat → Nat → Bool → Pt → Nat → Nat → Bool → Int → Int → Zaa → Prop
def E2 (R2 : T2) (env : Env) (h : Zaa) : Prop := Zbs 0 env fun v env => xSl (some v) fun a0 n0 c0 e0 => Zbs 5 env fun v env => xSl (some v) fun a5 n5 c5 e5 => Zbs 6 env fun v env => Zee .i64 v fun x6 => Zbs 7 env fun v env => Zee .i64 v fun x7 => Zje env (R2 a0 n0 c0 e0 a5 n5 c5 e5 x6 x7 h)
theorem Zdg {R2 : T2} {env : Env} {h : Zaa} (hi : E2 R2 env h) : ∃ a0, ∃ n0, ∃ c0, ∃ e0, ∃ a5, ∃ n5, ∃ c5, ∃ e5, ∃ x6, ∃ x7, env = [(0, .slice a0 n0 c0 e0), (5, .slice a5 n5 c5 e5), (6, .int .i64 x6), (7, .int .i64 x7)] ∧ R2 a0 n0 c0 e0 a5 n5 c5 e5 x6 x7 h := by
 unfold E2 at hi
 have hi0 := hi
 clear hi
 obtain ⟨_, _, rfl, hi1⟩ := Zab hi0
 obtain ⟨a0, n0, c0, e0, rfl, hi2⟩ := Zbf hi1
 obtain ⟨_, _, rfl, hi3⟩ := Zab hi2
 obtain ⟨a5, n5, c5, e5, rfl, hi4⟩ := Zbf hi3
 obtain ⟨_, _, rfl, hi5⟩ := Zab hi4
 obtain ⟨x6, rfl, hi6⟩ := Zao hi5
 obtain ⟨_, _, rfl, hi7⟩ := Zab hi6
 obtain ⟨x7, rfl, hi8⟩ := Zao hi7
 obtain ⟨rfl, hi9⟩ := Zbg hi8
 have hi := hi9
 exact ⟨a0, n0, c0, e0, a5, n5, c5, e5, x6, x7, rfl, hi⟩
def K0 (Q : QT) : KT := andThen (fun env' h' => (match kp.find 4000007 with | some ks => Den pg fn.ntmps (C [1, 1]) (env'.keep ks) h' (KR Q) | none => den pg fn.ntmps kp (C [1, 1]) env' h' (KR Q))) (KR Q)
def K1 (Q : QT) : KT := Zck 0 (K0 Q)
def K2 (Q : QT) : KT := left kp 2 (K1 Q)
def K3 (Q : QT) (R2 : T2) : KT := rnd ((kp.find 1000002).getD []) (E2 R2) (K2 Q)
def L2 (Q : QT) (a0 : Pt) (n0 c0 : Nat) (e0 : Bool) (a5 : Pt) (n5 c5 : Nat) (e5 : Bool) (x6 x7 : Int) (h : Zaa) : Prop := Zec (Den pg fn.ntmps (C [1, 0, 1, 0, 0])) ((kp.find 1000002).getD []) (K2 Q) [(0, .slice a0 n0 c0 e0), (5, .slice a5 n5 c5 e5), (6, .int .i64 x6), (7, .int .i64 x7)] h
def J6 (Q : QT) (R2 : T2) (x7 x6 : Int) (a5 : Pt) (n5 c5 : Nat) (e5 : Bool) (a0 : Pt) (n0 c0 : Nat) (e0 : Bool) (h : Zaa) : Prop := Den pg fn.ntmps (C [1, 0, 1, 0, 0, 1, 1, 1]) [(7, .int .i64 x7), (6, .int .i64 x6), (5, .slice a5 n5 c5 e5), (0, .slice a0 n0 c0 e0)] h (K3 Q R2)
def Zlg (Q : QT) (h : Zaa) : Prop := At (K1 Q) (.exit 0) [(2, .undef)] h
def L2t (Q : QT) (R2 : T2) (a0 : Pt) (n0 c0 : Nat) (e0 : Bool) (a5 : Pt) (n5 c5 : Nat) (e5 : Bool) (x6 x7 : Int) (h : Zaa) : Prop :=
 bcase (decide ((x7 : Int) < x6)) ((0 ≤ (x7 : Int) ∧ (x7 : Int) < (n5 : Nat)) ∧ (Zbl a5 fun I0 O1 => Zdh (Zbv h (.ptr (some (I0, O1 + (Int.toNat x7) * 2))) 2) fun K2 => Zap K2 fun C3 Z4 => Zbo (some C3) fun S5 => Zap Z4 fun C6 Z7 => Zbo (some C6) fun S8 => Zcr Z7 (Zdc (h ++ [.cells Zbe [.str [], .str []] false]) fun H9 => Zcp (Zbk H9 (.ptr (some (h.length, 0))) [.str S5, .str S8]) fun H10 => Zbo (Zak H10 (.ptr (some (h.length, 0 + 0)))) fun S11 => bcase (!((((List.length S11 : Nat) : Int) : Int) == 1)) ((Zak H10 (.tup []) = Zak H10 (.tup [])) ∧ Q (.bool false) H10) (Zbo (Zak H10 (.ptr (some (h.length, 0 + 0)))) fun S12 => Zlw S12 0 fun B13 => Zae pg Zgg [.int .u8 (((B13 : Nat) : Int))] H10 fun V14 H15 =>
 Zci (some V14) fun B16 => bcase (!B16) ((Zak H15 (.tup []) = Zak H15 (.tup [])) ∧ Q (.bool false) H15) (Zbo (Zak H15 (.ptr (some (h.length, 0 + 1)))) fun S17 => Zae pg Zfg [.str S17] H15 fun V18 H19 =>
 Zci (some V18) fun B20 => bcase (!B20) ((Zak H19 (.tup []) = Zak H19 (.tup [])) ∧ Q (.bool false) H19) (bcase (decide ((x7 : Int) > 0)) ((0 ≤ (IntKind.wrap .i64 (x7 - 1) : Int) ∧ (IntKind.wrap .i64 (x7 - 1) : Int) < (n0 : Nat)) ∧ (Zbl a0 fun I21 O22 => Zbo (Zak H19 (.ptr (some (I21, O22 + (Int.toNat (IntKind.wrap .i64 (x7 - 1))) * 2 + 0)))) fun S23 => Zbo (Zak H19 (.ptr (some (h.length, 0 + 0)))) fun S24 => (Zak H19 (.ptr (some (I21, O22 + (Int.toNat (IntKind.wrap .i64 (x7 - 1))) * 2 + 0))) = Zak H19 (.ptr (some (I21, O22 + (Int.toNat (IntKind.wrap .i64 (x7 - 1))) * 2 + 0)))) ∧ bcase (!Zeh S23 S24) (Q (.bool false) H19) (J6 Q R2 x7 x6 a5 n5 c5 e5 a0 n0 c0 e0 H19))) ((Zak H19 (.tup []) = Zak H19 (.tup [])) ∧ J6 Q R2 x7 x6 a5 n5 c5 e5 a0 n0 c0 e0 H19))))))) (Zlg Q h)
theorem Zhn (Q : QT) (R2 : T2) (a0 : Pt) (n0 c0 : Nat) (e0 : Bool) (a5 : Pt) (n5 c5 : Nat) (e5 : Bool) (x6 x7 : Int) (h : Zaa) (ht : L2t Q R2 a0 n0 c0 e0 a5 n5 c5 e5 x6 x7 h) : Den pg fn.ntmps (C [1, 0, 1, 0, 0]) [(0, .slice a0 n0 c0 e0), (5, .slice a5 n5 c5 e5), (6, .int .i64 x6), (7, .int .i64 x7)] h (K3 Q R2) :=
 Zba (kp := kp) (cast (by kernel_rfl) ht)
theorem L2ind (Q : QT) (a0 : Pt) (n0 c0 : Nat) (e0 : Bool) (a5 : Pt) (n5 c5 : Nat) (e5 : Bool) (x6 : Int) {G : Type} (J : G → Int → Zaa → Prop) (m : G → Nat)
 (hr : ∀ (g : G) (x7 : Int) (h : Zaa), J g x7 h → ∀ (R2 : T2), (∀ g' (x7 : Int) (h : Zaa), m g' < m g → J g' x7 h → R2 a0 n0 c0 e0 a5 n5 c5 e5 x6 x7 h) → L2t Q R2 a0 n0 c0 e0 a5 n5 c5 e5 x6 x7 h)
 (g : G) (x7 : Int) (h : Zaa) (hj : J g x7 h) : L2 Q a0 n0 c0 e0 a5 n5 c5 e5 x6 x7 h := by
 refine Zec.inv2 (fun g => E2 fun a0' n0' c0' e0' a5' n5' c5' e5' x6' x7 h => a0 = a0' ∧ n0 = n0' ∧ c0 = c0' ∧ e0 = e0' ∧ a5 = a5' ∧ n5 = n5' ∧ c5 = c5' ∧ e5 = e5' ∧ x6 = x6' ∧ J g x7 h) (fun g => E2 fun a0' n0' c0' e0' a5' n5' c5' e5' x6' x7 h => a0 = a0' ∧ n0 = n0' ∧ c0 = c0' ∧ e0 = e0' ∧ a5 = a5' ∧ n5 = n5' ∧ c5 = c5' ∧ e5 = e5' ∧ x6 = x6' ∧ ∃ g', m g' < m g ∧ J g' x7 h) m ?_ ?_ g ⟨rfl, rfl, rfl, rfl, rfl, rfl, rfl, rfl, rfl, hj⟩
 ·intro g env h hi
  obtain ⟨a0', n0', c0', e0', a5', n5', c5', e5', x6', x7, rfl, rfl, rfl, rfl, rfl, rfl, rfl, rfl, rfl, rfl, hj⟩ := Zdg hi
  exact Zhn Q _ a0 n0 c0 e0 a5 n5 c5 e5 x6 x7 h (hr g x7 h hj (fun a0' n0' c0' e0' a5' n5' c5' e5' x6' x7 h => a0 = a0' ∧ n0 = n0' ∧ c0 = c0' ∧ e0 = e0' ∧ a5 = a5' ∧ n5 = n5' ∧ c5 = c5' ∧ e5 = e5' ∧ x6 = x6' ∧ ∃ g', m g' < m g ∧ J g' x7 h) fun g' x7 h hlt hj => ⟨rfl, rfl, rfl, rfl, rfl, rfl, rfl, rfl, rfl, g', hlt, hj⟩)
 ·intro g env h hi
  obtain ⟨a0', n0', c0', e0', a5', n5', c5', e5', x6', x7, rfl, rfl, rfl, rfl, rfl, rfl, rfl, rfl, rfl, rfl, g', hlt, hj⟩ := Zdg hi
  exact ⟨g', hlt, rfl, rfl, rfl, rfl, rfl, rfl, rfl, rfl, rfl, hj⟩
theorem J6i (Q : QT) (R2 : T2) (x7 x6 : Int) (a5 : Pt) (n5 c5 : Nat) (e5 : Bool) (a0 : Pt) (n0 c0 : Nat) (e0 : Bool) (h : Zaa) (ht :
 R2 a0 n0 c0 e0 a5 n5 c5 e5 x6 (IntKind.wrap .i64 (x7 + 1)) h) : J6 Q R2 x7 x6 a5 n5 c5 e5 a0 n0 c0 e0 h :=
 Zba (kp := kp) (cast (by kernel_rfl) ht)
theorem A2x0i (Q : QT) (h : Zaa) (ht :
 Q (.bool true) h) : Zlg Q h :=
 At.mk (cast (by kernel_rfl) ht)
theorem call (a0 : Pt) (n0 c0 : Nat) (e0 : Bool) (h : Zaa) (Q : QT) (ht :
 L2 Q a0 n0 c0 e0 a0 n0 c0 e0 (((n0 : Nat) : Int)) 0 h) : Zae pg Zim [.slice a0 n0 c0 e0] h Q :=
 Zae.of_body kp (c := cod fn) (fn := fn) Go.Proofs.Tryz.func144 (by kernel_rfl) (by kernel_rfl) (Nat.le_of_ble_eq_true (by kernel_rfl))
  (cast (by kernel_rfl) ht)
end Zdv
namespace Zhs
noncomputable abbrev fn : Func := Go.Proofs.Tryz.f146
def kp : Zbz := [(4000004, [3, 0, 4]), (3000006, [6, 4]), (1000006, [0, 4, 6, 33, 34, 35]), (2000008, [35, 34, 33, 6, 0, 4])]
noncomputable def C (p : List Nat) : Code := (cod fn).sub p
def KR (Q : QT) : KT := Zes pg fn.results.toList Q
abbrev T6 := Pt → Nat → Nat → Nat → Nat → Pt → Nat → Nat → Bool → Int → Int → Zaa → Prop
def E6 (R6 : T6) (env : Env) (h : Zaa) : Prop := Zbs 0 env fun v env => Zii (some v) fun a0 => Zbs 4 env fun v env => Zii (some v) fun a => Zbl a fun i4 o4 => Zbs 6 env fun v env => Zii (some v) fun a => Zbl a fun i6 o6 => Zbs 33 env fun v env => xSl (some v) fun a33 n33 c33 e33 => Zbs 34 env fun v env => Zee .i64 v fun x34 => Zbs 35 env fun v env => Zee .i64 v fun x35 => Zje env (R6 a0 i4 o4 i6 o6 a33 n33 c33 e33 x34 x35 h)
theorem Znh {R6 : T6} {env : Env} {h : Zaa} (hi : E6 R6 env h) : ∃ a0, ∃ i4, ∃ o4, ∃ i6, ∃ o6, ∃ a33, ∃ n33, ∃ c33, ∃ e33, ∃ x34, ∃ x35, env = [(0, .ptr a0), (4, .ptr (some (i4, o4))), (6, .ptr (some (i6, o6))), (33, .slice a33 n33 c33 e33), (34, .int .i64 x34), (35, .int .i64 x35)] ∧ R6 a0 i4 o4 i6 o6 a33 n33 c33 e33 x34 x35 h := by
 unfold E6 at hi
 have hi0 := hi
 clear hi
 obtain ⟨_, _, rfl, hi1⟩ := Zab hi0
 obtain ⟨a0, rfl, hi2⟩ := Zbw hi1
 obtain ⟨_, _, rfl, hi3⟩ := Zab hi2
 obtain ⟨a, rfl, hi4⟩ := Zbw hi3
 obtain ⟨i4, o4, rfl, hi5⟩ := Zbp hi4
 obtain ⟨_, _, rfl, hi6⟩ := Zab hi5
 obtain ⟨a, rfl, hi7⟩ := Zbw hi6
 obtain ⟨i6, o6, rfl, hi8⟩ := Zbp hi7
 obtain ⟨_, _, rfl, hi9⟩ := Zab hi8
 obtain ⟨a33, n33, c33, e33, rfl, hi10⟩ := Zbf hi9
 obtain ⟨_, _, rfl, hi11⟩ := Zab hi10
 obtain ⟨x34, rfl, hi12⟩ := Zao hi11
 obtain ⟨_, _, rfl, hi13⟩ := Zab hi12
 obtain ⟨x35, rfl, hi14⟩ := Zao hi13
 obtain ⟨rfl, hi15⟩ := Zbg hi14
 have hi := hi15
 exact ⟨a0, i4, o4, i6, o6, a33, n33, c33, e33, x34, x35, rfl, hi⟩
def K0 (Q : QT) : KT := andThen (fun env' h' => (match kp.find 4000010 with | some ks => Den pg fn.ntmps (C [1, 1, 1, 1]) (env'.keep ks) h' (KR Q) | none => den pg fn.ntmps kp (C [1, 1, 1, 1]) env' h' (KR Q))) (KR Q)
def K1 (Q : QT) : KT := Zck 0 (K0 Q)
def K2 (Q : QT) : KT := left kp 6 (K1 Q)
def K3 (Q : QT) (R6 : T6) : KT := rnd ((kp.find 1000006).getD []) (E6 R6) (K2 Q)
def J4 (Q : QT) (i3 o3 : Nat) (a0 : Pt) (i4 o4 : Nat) (h : Zaa) : Prop := Den pg fn.ntmps (C [1, 1]) [(3, .ptr (some (i3, o3))), (0, .ptr a0), (4, .ptr (some (i4, o4)))] h (KR Q)
def L6 (Q : QT) (a0 : Pt) (i4 o4 i6 o6 : Nat) (a33 : Pt) (n33 c33 : Nat) (e33 : Bool) (x34 x35 : Int) (h : Zaa) : Prop := Zec (Den pg fn.ntmps (C [1, 1, 1, 0, 1, 0, 0])) ((kp.find 1000006).getD []) (K2 Q) [(0, .ptr a0), (4, .ptr (some (i4, o4))), (6, .ptr (some (i6, o6))), (33, .slice a33 n33 c33 e33), (34, .int .i64 x34), (35, .int .i64 x35)] h
def Ygk (Q : QT) (i6 o6 i4 o4 : Nat) (h : Zaa) : Prop := At (K1 Q) (.exit 0) [(6, .ptr (some (i6, o6))), (4, .ptr (some (i4, o4)))] h
theorem J4i (Q : QT) (i3 o3 : Nat) (a0 : Pt) (i4 o4 : Nat) (h : Zaa) (ht :
 Zen .u8 (Zak h (.ptr (some (i3, o3 + 0)))) fun X32 => Zdc (h ++ [.cells Zad [] false]) fun H33 => Zdc (H33 ++ [.cells Zad [.int .u8 0, .slice none 0 0 true] false]) fun H34 => Zcp (Zbk H34 (.ptr (some (H33.length, 0))) [.int .u8 X32, .slice (some (h.length, 0)) 0 0 true]) fun H35 => xSl (Zak H35 (.ptr (some (i3, o3 + 1)))) fun A36 N37 C38 E39 => L6 Q a0 i4 o4 H33.length 0 A36 N37 C38 E39 (((N37 : Nat) : Int)) 0 H35) : J4 Q i3 o3 a0 i4 o4 h :=
 Zba (kp := kp) (cast (by kernel_rfl) ht)
def L6t (Q : QT) (R6 : T6) (a0 : Pt) (i4 o4 i6 o6 : Nat) (a33 : Pt) (n33 c33 : Nat) (e33 : Bool) (x34 x35 : Int) (h : Zaa) : Prop :=
 bcase (decide ((x35 : Int) < x34)) ((0 ≤ (x35 : Int) ∧ (x35 : Int) < (n33 : Nat)) ∧ (Zbl a33 fun I40 O41 => Zdh (Zbv h (.ptr (some (I40, O41 + (Int.toNat x35) * 2))) 2) fun K42 => Zap K42 fun C43 Z44 => Zen .u8 (some C43) fun X45 => Zap Z44 fun C46 Z47 => xSl (some C46) fun A48 N49 C50 E51 => Zcr Z47 (Zdc (h ++ [.cells Zad [.int .u8 0, .slice none 0 0 true] false]) fun H52 => Zcp (Zbk H52 (.ptr (some (h.length, 0))) [.int .u8 X45, .slice A48 N49 C50 E51]) fun H53 => xSl (Zak H53 (.ptr (some (i6, o6 + 1)))) fun A54 N55 C56 E57 => Zdh (Zbv H53 (.ptr (some (h.length, 0))) 2) fun K58 => Zap K58 fun C59 Z60 => Zen .u8 (some C59) fun X61 => Zap Z60 fun C62 Z63 => xSl (some C62) fun A64 N65 C66 E67 => Zcr Z63 ((Zak H53 (.ptr (some (i6, o6 + 1))) = Zak H53 (.ptr (some (i6, o6 + 1)))) ∧ Zae pg Zni [.ptr a0, .agg [.int .u8 X61, .slice A64 N65 C66 E67]] H53 fun V68 H69 =>
 Zuw V68 fun K70 => Zap K70 fun C71 Z72 => Zen .u8 (some C71) fun X73 => Zap Z72 fun C74 Z75 => xSl (some C74) fun A76 N77 C78 E79 => Zcr Z75 ((Zak H69 (.ptr (some (i6, o6 + 1))) = Zak H53 (.ptr (some (i6, o6 + 1)))) ∧ Zdc (H69 ++ [.cells Zad [.int .u8 X73, .slice A76 N77 C78 E79] false]) fun H80 => (Zak H80 (.ptr (some (i6, o6 + 1))) = Zak H69 (.ptr (some (i6, o6 + 1)))) ∧ Zdd pg Zjz H80 (.slice A54 N55 C56 E57) (.slice (some (H69.length, 0)) 1 1 true) fun V81 H82 => xSl (some V81) fun A83 N84 C85 E86 => Zcp (Zbk H82 (.ptr (some (i6, o6 + 1))) [.slice A83 N84 C85 E86]) fun H87 => R6 a0 i4 o4 i6 o6 a33 n33 c33 e33 x34 (IntKind.wrap .i64 (x35 + 1)) H87))))) (Ygk Q i6 o6 i4 o4 h)
theorem Yaj (Q : QT) (R6 : T6) (a0 : Pt) (i4 o4 i6 o6 : Nat) (a33 : Pt) (n33 c33 : Nat) (e33 : Bool) (x34 x35 : Int) (h : Zaa) (ht : L6t Q R6 a0 i4 o4 i6 o6 a33 n33 c33 e33 x34 x35 h) : Den pg fn.ntmps (C [1, 1, 1, 0, 1, 0, 0]) [(0, .ptr a0), (4, .ptr (some (i4, o4))), (6, .ptr (some (i6, o6))), (33, .slice a33 n33 c33 e33), (34, .int .i64 x34), (35, .int .i64 x35)] h (K3 Q R6) :=
 Zba (kp := kp) (cast (by kernel_rfl) ht)
theorem L6ind (Q : QT) (a0 : Pt) (i4 o4 i6 o6 : Nat) (a33 : Pt) (n33 c33 : Nat) (e33 : Bool) (x34 : Int) {G : Type} (J : G → Int → Zaa → Prop) (m : G → Nat)
 (hr : ∀ (g : G) (x35 : Int) (h : Zaa), J g x35 h → ∀ (R6 : T6), (∀ g' (x35 : Int) (h : Zaa), m g' < m g → J g' x35 h → R6 a0 i4 o4 i6 o6 a33 n33 c33 e33 x34 x35 h) → L6t Q R6 a0 i4 o4 i6 o6 a33 n33 c33 e33 x34 x35 h)
 (g : G) (x35 : Int) (h : Zaa) (hj : J g x35 h) : L6 Q a0 i4 o4 i6 o6 a33 n33 c33 e33 x34 x35 h := by
 refine Zec.inv2 (fun g => E6 fun a0' i4' o4' i6' o6' a33' n33' c33' e33' x34' x35 h => a0 = a0' ∧ i4 = i4' ∧ o4 = o4' ∧ i6 = i6' ∧ o6 = o6' ∧ a33 = a33' ∧ n33 = n33' ∧ c33 = c33' ∧ e33 = e33' ∧ x34 = x34' ∧ J g x35 h) (fun g => E6 fun a0' i4' o4' i6' o6' a33' n33' c33' e33' x34' x35 h => a0 = a0' ∧ i4 = i4' ∧ o4 = o4' ∧ i6 = i6' ∧ o6 = o6' ∧ a33 = a33' ∧ n33 = n33' ∧ c33 = c33' ∧ e33 = e33' ∧ x34 = x34' ∧ ∃ g', m g' < m g ∧ J g' x35 h) m ?_ ?_ g ⟨rfl, rfl, rfl, rfl, rfl, rfl, rfl, rfl, rfl, rfl, hj⟩
 ·intro g env h hi
  obtain ⟨a0', i4', o4', i6', o6', a33', n33', c33', e33', x34', x35, rfl, rfl, rfl, rfl, rfl, rfl, rfl, rfl, rfl, rfl, rfl, hj⟩ := Znh hi
  exact Yaj Q _ a0 i4 o4 i6 o6 a33 n33 c33 e33 x34 x35 h (hr g x35 h hj (fun a0' i4' o4' i6' o6' a33' n33' c33' e33' x34' x35 h => a0 = a0' ∧ i4 = i4' ∧ o4 = o4' ∧ i6 = i6' ∧ o6 = o6' ∧ a33 = a33' ∧ n33 = n33' ∧ c33 = c33' ∧ e33 = e33' ∧ x34 = x34' ∧ ∃ g', m g' < m g ∧ J g' x35 h) fun g' x35 h hlt hj => ⟨rfl, rfl, rfl, rfl, rfl, rfl, rfl, rfl, rfl, rfl, g', hlt, hj⟩)
 ·intro g env h hi
  obtain ⟨a0', i4', o4', i6', o6', a33', n33', c33', e33', x34', x35, rfl, rfl, rfl, rfl, rfl, rfl, rfl, rfl, rfl, rfl, rfl, g', hlt, hj⟩ := Znh hi
  exact ⟨g', hlt, rfl, rfl, rfl, rfl, rfl, rfl, rfl, rfl, rfl, rfl, hj⟩
theorem A6x0i (Q : QT) (i6 o6 i4 o4 : Nat) (h : Zaa) (ht :
 Zdh (Zbv h (.ptr (some (i6, o6))) 2) fun K88 => Zap K88 fun C89 Z90 => Zen .u8 (some C89) fun X91 => Zap Z90 fun C92 Z93 => xSl (some C92) fun A94 N95 C96 E97 => Zcr Z93 (Zcp (Zbk h (.ptr (some (i4, o4))) [.int .u8 X91, .slice A94 N95 C96 E97]) fun H98 => Zdh (Zbv H98 (.ptr (some (i4, o4))) 2) fun K99 => Zap K99 fun C100 Z101 => Zen .u8 (some C100) fun X102 => Zap Z101 fun C103 Z104 => xSl (some C103) fun A105 N106 C107 E108 => Zcr Z104 (Q (.agg [.int .u8 X102, .slice A105 N106 C107 E108]) H98))) : Ygk Q i6 o6 i4 o4 h :=
 At.mk (cast (by kernel_rfl) ht)
theorem call (a0 : Pt) (x1x0 : Int) (a1x1 : Pt) (n1x1 c1x1 : Nat) (e1x1 : Bool) (h : Zaa) (Q : QT) (ht :
 Zdc (h ++ [.cells Zad [.int .u8 x1x0, .slice a1x1 n1x1 c1x1 e1x1] false]) fun H0 => Zdc (H0 ++ [.cells Zad [.int .u8 0, .slice none 0 0 true] false]) fun H1 => Zen .u8 (Zak H1 (.ptr (some (h.length, 0 + 0)))) fun X2 => Zae pg Zix [.int .u8 X2] H1 fun V3 H4 =>
 Zen .i64 (some V3) fun X5 => bcase (decide ((X5 : Int) ≥ 0)) (Zbl a0 fun I6 O7 => (0 ≤ (X5 : Int) ∧ (X5 : Int) < (12 : Nat)) ∧ (Zen .u8 (Zak H4 (.ptr (some (I6, O7 + (Int.toNat X5) * 2 + 0)))) fun X8 => bcase (!((X8 : Int) == 0)) (Zbl a0 fun I9 O10 => (0 ≤ (X5 : Int) ∧ (X5 : Int) < (12 : Nat)) ∧ (Zdh (Zbv H4 (.ptr (some (I9, O10 + (Int.toNat X5) * 2))) 2) fun K11 => Zap K11 fun C12 Z13 => Zen .u8 (some C12) fun X14 => Zap Z13 fun C15 Z16 => xSl (some C15) fun A17 N18 C19 E20 => Zcr Z16 (Zcp (Zbk H4 (.ptr (some (H0.length, 0))) [.int .u8 X14, .slice A17 N18 C19 E20]) fun H21 => Zdh (Zbv H21 (.ptr (some (H0.length, 0))) 2) fun K22 => Zap K22 fun C23 Z24 => Zen .u8 (some C23) fun X25 => Zap Z24 fun C26 Z27 => xSl (some C26) fun A28 N29 C30 E31 => Zcr Z27 (Q (.agg [.int .u8 X25, .slice A28 N29 C30 E31]) H21)))) (J4 Q h.length 0 a0 H0.length 0 H4))) (J4 Q h.length 0 a0 H0.length 0 H4)) : Zae pg Zni [.ptr a0, .agg [.int .u8 x1x0, .slice a1x1 n1x1 c1x1 e1x1]] h Q :=
 Zae.of_body kp (c := cod fn) (fn := fn) Go.Proofs.Tryz.func146 (by kernel_rfl) (by kernel_rfl) (Nat.le_of_ble_eq_true (by kernel_rfl))
  (cast (by kernel_rfl) ht)
end Zhs
end Go.Sim
