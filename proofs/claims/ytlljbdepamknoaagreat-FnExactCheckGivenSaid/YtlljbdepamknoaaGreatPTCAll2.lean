/- A part of the proof of a statement of this seat: see the text that holds the theorem. No condition. -/
import Derived.Test.YtlljbdepamknoaaGreatNm
set_option linter.unusedVariables false
set_option linter.unusedSimpArgs false
set_option linter.all false
set_option maxRecDepth 100000
set_option linter.unusedVariables false
namespace Go.Sim
open Go Go.RowKit
namespace Ziv
noncomputable abbrev fn : Func := Go.Proofs.Tryz.f4
def kp : Zcb := [(2000013, [4, 1, 6, 3, 10]), (2000016, [13, 10, 11, 4, 12, 1]), (2000019, [57, 12, 1])]
noncomputable def C (p : List Nat) : Code := (cod fn).sub p
def KR (Q : QT) : KT := Zez pg fn.results.toList Q
theorem call (a0x0 : Pt) (n0x0 c0x0 : Nat) (e0x0 : Bool) (a0x1 : Pt) (n0x1 c0x1 : Nat) (e0x1 : Bool) (a1 : Pt) (n1 c1 : Nat) (e1 : Bool) (x2x0 x2x1 x3 : List Nat) (h : Zaa) (Q : QT) (ht :
 Zdg (h ++ [.cells Zer [.slice a0x0 n0x0 c0x0 e0x0, .slice a0x1 n0x1 c0x1 e0x1] false]) fun H0 => Zdg (H0 ++ [.cells Zke [.str x2x0, .str x2x1] false]) fun H1 => bcase (decide (((((List.length x3 : Nat) : Int)) : Int) > 1048576)) (Q (.bool true) H1) (Zcx (Zbp H1 (.ptr (some (h.length, 0))) 2) fun K2 => Zam K2 fun C3 Z4 => xSl (some C3) fun A5 N6 C7 E8 => Zam Z4 fun C9 Z10 => xSl (some C9) fun A11 N12 C13 E14 => Zci Z10 (Zad pg Zmq [.agg [.slice A5 N6 C7 E8, .slice A11 N12 C13 E14], .int .i64 1048576] H1 fun V15 H16 =>
 Zds .i64 (some V15) fun X17 => bcase (decide ((X17 : Int) < 0)) (Q (.bool true) H16) (Zad pg Zkq [.slice a1 n1 c1 e1, .int .i64 X17] H16 fun V18 H19 =>
 Zds .i64 (some V18) fun X20 => bcase (decide ((X20 : Int) < 0)) (Q (.bool true) H19) (Zcx (Zbp H19 (.ptr (some (H0.length, 0))) 2) fun K21 => Zam K21 fun C22 Z23 => Zbk (some C22) fun S24 => Zam Z23 fun C25 Z26 => Zbk (some C25) fun S27 => Zci Z26 (Zad pg Zjf [.agg [.str S24, .str S27], .int .i64 X20] H19 fun V28 H29 =>
 Zds .i64 (some V28) fun X30 => bcase (decide ((X30 : Int) < 0)) (Q (.bool true) H29) (Zcx (Zbp H29 (.ptr (some (h.length, 0))) 2) fun K31 => Zam K31 fun C32 Z33 => xSl (some C32) fun A34 N35 C36 E37 => Zam Z33 fun C38 Z39 => xSl (some C38) fun A40 N41 C42 E43 => Zci Z39 (Zcx (Zbp H29 (.ptr (some (H0.length, 0))) 2) fun K44 => Zam K44 fun C45 Z46 => Zbk (some C45) fun S47 => Zam Z46 fun C48 Z49 => Zbk (some C48) fun S50 => Zci Z49 (Zad pg Zif [.agg [.slice A34 N35 C36 E37, .slice A40 N41 C42 E43]] H29 fun V51 H52 =>
 Ztu V51 fun K53 => Zam K53 fun C54 Z55 => xSl (some C54) fun A56 N57 C58 E59 => Zam Z55 fun C60 Z61 => xSl (some C60) fun A62 N63 C64 E65 => Zci Z61 ((Zbp H52 (.ptr (some (H0.length, 0))) 2 = Zbp H29 (.ptr (some (H0.length, 0))) 2) ∧ Zad pg Zgb [.slice a1 n1 c1 e1] H52 fun V66 H67 =>
 xSl (some V66) fun A68 N69 C70 E71 => (Zbp H67 (.ptr (some (H0.length, 0))) 2 = Zbp H52 (.ptr (some (H0.length, 0))) 2) ∧ (Zbp H67 (.ptr (some (h.length, 0))) 2 = Zbp H52 (.ptr (some (h.length, 0))) 2) ∧ Zad pg Zhr [.agg [.str S47, .str S50]] H67 fun V72 H73 =>
 Ztu V72 fun K74 => Zam K74 fun C75 Z76 => Zbk (some C75) fun S77 => Zam Z76 fun C78 Z79 => Zbk (some C78) fun S80 => Zci Z79 ((Zbp H73 (.ptr (some (h.length, 0))) 2 = Zbp H67 (.ptr (some (h.length, 0))) 2) ∧ Zad pg Zkg [.agg [.slice A56 N57 C58 E59, .slice A62 N63 C64 E65], .slice A68 N69 C70 E71, .agg [.str S77, .str S80], .str x3] H73 fun V81 H82 =>
 Zbk (some V81) fun S83 => (Zbp H82 (.ptr (some (H0.length, 0))) 2 = Zbp H73 (.ptr (some (H0.length, 0))) 2) ∧ (Zbp H82 (.ptr (some (h.length, 0))) 2 = Zbp H73 (.ptr (some (h.length, 0))) 2) ∧ Zcx (Zbp H82 (.ptr (some (h.length, 0))) 2) fun K84 => Zam K84 fun C85 Z86 => xSl (some C85) fun A87 N88 C89 E90 => Zam Z86 fun C91 Z92 => xSl (some C91) fun A93 N94 C95 E96 => Zci Z92 (Zad pg Zif [.agg [.slice A87 N88 C89 E90, .slice A93 N94 C95 E96]] H82 fun V97 H98 =>
 Ztu V97 fun K99 => Zam K99 fun C100 Z101 => xSl (some C100) fun A102 N103 C104 E105 => Zam Z101 fun C106 Z107 => xSl (some C106) fun A108 N109 C110 E111 => Zci Z107 (Zdg (H98 ++ [.cells Zak [.slice none 0 0 true, .slice none 0 0 true] false]) fun H112 => Zcu (Zbn H112 (.ptr (some (H98.length, 0))) [.slice A102 N103 C104 E105, .slice A108 N109 C110 E111]) fun H113 => Zad pg Zgb [.slice a1 n1 c1 e1] H113 fun V114 H115 =>
 xSl (some V114) fun A116 N117 C118 E119 => Zcx (Zbp H115 (.ptr (some (H98.length, 0))) 2) fun K120 => Zam K120 fun C121 Z122 => xSl (some C121) fun A123 N124 C125 E126 => Zam Z122 fun C127 Z128 => xSl (some C127) fun A129 N130 C131 E132 => Zci Z128 (Zcx (Zbp H115 (.ptr (some (H0.length, 0))) 2) fun K133 => Zam K133 fun C134 Z135 => Zbk (some C134) fun S136 => Zam Z135 fun C137 Z138 => Zbk (some C137) fun S139 => Zci Z138 ((Zbp H115 (.ptr (some (H98.length, 0))) 2 = Zbp H115 (.ptr (some (H98.length, 0))) 2) ∧ Zad pg Zhr [.agg [.str S136, .str S139]] H115 fun V140 H141 =>
 Ztu V140 fun K142 => Zam K142 fun C143 Z144 => Zbk (some C143) fun S145 => Zam Z144 fun C146 Z147 => Zbk (some C146) fun S148 => Zci Z147 ((Zbp H141 (.ptr (some (H98.length, 0))) 2 = Zbp H115 (.ptr (some (H98.length, 0))) 2) ∧ Zad pg Zjy [.agg [.slice A123 N124 C125 E126, .slice A129 N130 C131 E132], .slice A116 N117 C118 E119, .agg [.str S145, .str S148], .str x3] H141 fun V149 H150 =>
 Zbk (some V149) fun S151 => bcase (!(decide (S151 = S83))) (Q (.bool false) H150) (Zcx (Zbp H150 (.ptr (some (H98.length, 0))) 2) fun K152 => Zam K152 fun C153 Z154 => xSl (some C153) fun A155 N156 C157 E158 => Zam Z154 fun C159 Z160 => xSl (some C159) fun A161 N162 C163 E164 => Zci Z160 (Zcx (Zbp H150 (.ptr (some (h.length, 0))) 2) fun K165 => Zam K165 fun C166 Z167 => xSl (some C166) fun A168 N169 C170 E171 => Zam Z167 fun C172 Z173 => xSl (some C172) fun A174 N175 C176 E177 => Zci Z173 ((Zbp H150 (.ptr (some (H98.length, 0))) 2 = Zbp H150 (.ptr (some (H98.length, 0))) 2) ∧ Zad pg Zif [.agg [.slice A168 N169 C170 E171, .slice A174 N175 C176 E177]] H150 fun V178 H179 =>
 Ztu V178 fun K180 => Zam K180 fun C181 Z182 => xSl (some C181) fun A183 N184 C185 E186 => Zam Z182 fun C187 Z188 => xSl (some C187) fun A189 N190 C191 E192 => Zci Z188 ((Zbp H179 (.ptr (some (H98.length, 0))) 2 = Zbp H150 (.ptr (some (H98.length, 0))) 2) ∧ Zad pg Zmx [.agg [.slice A155 N156 C157 E158, .slice A161 N162 C163 E164], .agg [.slice A183 N184 C185 E186, .slice A189 N190 C191 E192]] H179 fun V193 H194 =>
 Zbz (some V193) fun B195 => bcase (!B195) (Q (.bool false) H194) (Zad pg Zgb [.slice a1 n1 c1 e1] H194 fun V196 H197 =>
 xSl (some V196) fun A198 N199 C200 E201 => Zad pg Zko [.slice A116 N117 C118 E119, .slice A198 N199 C200 E201] H197 fun V202 H203 =>
 Zbz (some V202) fun B204 => bcase (!B204) (Q (.bool false) H203) (Q (.bool true) H203)))))))))))))))))))))) : Zad pg Zis [.agg [.slice a0x0 n0x0 c0x0 e0x0, .slice a0x1 n0x1 c0x1 e0x1], .slice a1 n1 c1 e1, .agg [.str x2x0, .str x2x1], .str x3] h Q :=
  Zad.of_body kp (c := cod fn) (fn := fn) Go.Proofs.Tryz.func4 (by kernel_rfl) (by kernel_rfl) (Nat.le_of_ble_eq_true (by kernel_rfl))
    (cast (by kernel_rfl) ht)
end Ziv
end Go.Sim

set_option maxRecDepth 100000
set_option linter.unusedVariables false
namespace Go.Sim
open Go Go.RowKit
namespace Zcv
noncomputable abbrev fn : Func := Go.Proofs.Tryz.f45
def kp : Zcb := [(2000005, [69, 0, 5, 3]), (4000007, [0, 5, 3]), (2000007, [7, 6, 0]), (3000011, [6, 0, 4]), (1000011, [0, 6, 86, 87, 88]), (2000013, [97, 0, 9, 88, 87, 86, 6]), (4000024, [])]
noncomputable def C (p : List Nat) : Code := (cod fn).sub p
def KR (Q : QT) : KT := Zez pg fn.results.toList Q
abbrev T11 := Pt → Pt → Nat → Nat → Bool → Pt → Nat → Nat → Bool → Int → Int → Zaa → Prop
def E11 (R11 : T11) (env : Env) (h : Zaa) : Prop := Zbt 0 env fun v env => Zkx (some v) fun a0 => Zbt 6 env fun v env => xSl (some v) fun a6 n6 c6 e6 => Zbt 86 env fun v env => xSl (some v) fun a86 n86 c86 e86 => Zbt 87 env fun v env => Zei .i64 v fun x87 => Zbt 88 env fun v env => Zei .i64 v fun x88 => Zjr env (R11 a0 a6 n6 c6 e6 a86 n86 c86 e86 x87 x88 h)
theorem Zwd {R11 : T11} {env : Env} {h : Zaa} (hi : E11 R11 env h) : ∃ a0, ∃ a6, ∃ n6, ∃ c6, ∃ e6, ∃ a86, ∃ n86, ∃ c86, ∃ e86, ∃ x87, ∃ x88, env = [(0, .ptr a0), (6, .slice a6 n6 c6 e6), (86, .slice a86 n86 c86 e86), (87, .int .i64 x87), (88, .int .i64 x88)] ∧ R11 a0 a6 n6 c6 e6 a86 n86 c86 e86 x87 x88 h := by
  unfold E11 at hi
  have hi0 := hi
  clear hi
  obtain ⟨_, _, rfl, hi1⟩ := Zab hi0
  obtain ⟨a0, rfl, hi2⟩ := Zce hi1
  obtain ⟨_, _, rfl, hi3⟩ := Zab hi2
  obtain ⟨a6, n6, c6, e6, rfl, hi4⟩ := Zbh hi3
  obtain ⟨_, _, rfl, hi5⟩ := Zab hi4
  obtain ⟨a86, n86, c86, e86, rfl, hi6⟩ := Zbh hi5
  obtain ⟨_, _, rfl, hi7⟩ := Zab hi6
  obtain ⟨x87, rfl, hi8⟩ := Zat hi7
  obtain ⟨_, _, rfl, hi9⟩ := Zab hi8
  obtain ⟨x88, rfl, hi10⟩ := Zat hi9
  obtain ⟨rfl, hi11⟩ := Zbi hi10
  have hi := hi11
  exact ⟨a0, a6, n6, c6, e6, a86, n86, c86, e86, x87, x88, rfl, hi⟩
def K0 (Q : QT) : KT := andThen (fun env' h' => (match kp.find 4000020 with | some ks => Den pg fn.ntmps (C [1, 1, 1, 1, 1, 1, 1, 1]) (env'.keep ks) h' (KR Q) | none => den pg fn.ntmps kp (C [1, 1, 1, 1, 1, 1, 1, 1]) env' h' (KR Q))) (KR Q)
def K1 (Q : QT) : KT := Zcg 0 (K0 Q)
def K2 (Q : QT) : KT := Zgz kp 11 (K1 Q)
def K3 (Q : QT) (R11 : T11) : KT := rnd ((kp.find 1000011).getD []) (E11 R11) (K2 Q)
def J7 (Q : QT) (a0 : Pt) (x5 : Int) (i3 o3 : Nat) (h : Zaa) : Prop := Den pg fn.ntmps (C [1, 1, 1, 1, 1]) [(0, .ptr a0), (5, .int .i64 x5), (3, .ptr (some (i3, o3)))] h (KR Q)
def L11 (Q : QT) (a0 a6 : Pt) (n6 c6 : Nat) (e6 : Bool) (a86 : Pt) (n86 c86 : Nat) (e86 : Bool) (x87 x88 : Int) (h : Zaa) : Prop := Zed (Den pg fn.ntmps (C [1, 1, 1, 1, 1, 1, 1, 0, 1, 0, 0])) ((kp.find 1000011).getD []) (K2 Q) [(0, .ptr a0), (6, .slice a6 n6 c6 e6), (86, .slice a86 n86 c86 e86), (87, .int .i64 x87), (88, .int .i64 x88)] h
def Yhm (Q : QT) (a6 : Pt) (n6 c6 : Nat) (e6 : Bool) (a0 : Pt) (h : Zaa) : Prop := At (K1 Q) (.exit 0) [(6, .slice a6 n6 c6 e6), (0, .ptr a0), (4, .undef)] h
def J24 (Q : QT) (h : Zaa) : Prop := Den pg fn.ntmps (C [1, 1, 1, 1, 1, 1, 1, 1, 1]) [] h (KR Q)
theorem J7i (Q : QT) (a0 : Pt) (x5 : Int) (i3 o3 : Nat) (h : Zaa) (ht :
 Zbl a0 fun I58 O59 => xSl (Zag h (.ptr (some (I58, O59 + 0 + 1)))) fun A60 N61 C62 E63 => (0 ≤ (x5 : Int) ∧ (x5 : Int) < (N61 : Nat)) ∧ (Zbl A60 fun I64 O65 => Zcx (Zbp h (.ptr (some (I64, O65 + (Int.toNat x5) * 3))) 3) fun K66 => Zam K66 fun C67 Z68 => Zbk (some C67) fun S69 => Zam Z68 fun C70 Z71 => Zbk (some C70) fun S72 => Zam Z71 fun C73 Z74 => xSl (some C73) fun A75 N76 C77 E78 => Zci Z74 (Zbk (Zag h (.ptr (some (i3, o3 + 1)))) fun S79 => (Zbp h (.ptr (some (I64, O65 + (Int.toNat x5) * 3))) 3 = Zbp h (.ptr (some (I64, O65 + (Int.toNat x5) * 3))) 3) ∧ (Zag h (.ptr (some (I58, O59 + 0 + 1))) = Zag h (.ptr (some (I58, O59 + 0 + 1)))) ∧ Zad pg Zmw [.agg [.str S69, .str S72, .slice A75 N76 C77 E78], .str S79] h fun V80 H81 =>
 Zuc V80 fun K82 => Zam K82 fun C83 Z84 => xSl (some C83) fun A85 N86 C87 E88 => Zam Z84 fun C89 Z90 => Zbz (some C89) fun B91 => Zci Z90 ((Zag H81 (.ptr (some (I58, O59 + 0 + 1))) = Zag h (.ptr (some (I58, O59 + 0 + 1)))) ∧ bcase (!B91) (Q (.str ([98, 105, 103])) H81) (L11 Q a0 A85 N86 C87 E88 A85 N86 C87 E88 (((N86 : Nat) : Int)) 0 H81))))) : J7 Q a0 x5 i3 o3 h :=
  Zay (kp := kp) (cast (by kernel_rfl) ht)
def L11t (Q : QT) (R11 : T11) (a0 a6 : Pt) (n6 c6 : Nat) (e6 : Bool) (a86 : Pt) (n86 c86 : Nat) (e86 : Bool) (x87 x88 : Int) (h : Zaa) : Prop :=
 bcase (decide ((x88 : Int) < x87)) ((0 ≤ (x88 : Int) ∧ (x88 : Int) < (n86 : Nat)) ∧ (Zbl a86 fun I92 O93 => Zcx (Zbp h (.ptr (some (I92, O93 + (Int.toNat x88) * 2))) 2) fun K94 => Zam K94 fun C95 Z96 => Zbk (some C95) fun S97 => Zam Z96 fun C98 Z99 => Zbk (some C98) fun S100 => Zci Z99 (Zdg (h ++ [.cells Zaj [.str [], .str []] false]) fun H101 => Zcu (Zbn H101 (.ptr (some (h.length, 0))) [.str S97, .str S100]) fun H102 => Zfg ([40, 44, 44]) x88 fun B103 => Zad pg Zcz [.ptr a0] H102 fun V104 H105 =>
 Zds .u8 (some V104) fun X106 => bcase (!((X106 : Int) == (((B103 : Nat) : Int)))) (Q (.str ([112, 97, 114, 116, 115])) H105) (Zbl a0 fun I107 O108 => Zds .i64 (Zag H105 (.ptr (some (I107, O108 + 4)))) fun X109 => Zbl a0 fun I110 O111 => Zcu (Zbn H105 (.ptr (some (I110, O111 + 4))) [.int .i64 (IntKind.wrap .i64 (X109 + 1))]) fun H112 => Zcx (Zbp H112 (.ptr (some (h.length, 0))) 2) fun K113 => Zam K113 fun C114 Z115 => Zbk (some C114) fun S116 => Zam Z115 fun C117 Z118 => Zbk (some C117) fun S119 => Zci Z118 (Zad pg Zfo [.ptr a0, .agg [.str S116, .str S119]] H112 fun V120 H121 =>
 Zbk (some V120) fun S122 => bcase (!(decide (S122 = [111, 107]))) (Q (.str S122) H121) (R11 a0 a6 n6 c6 e6 a86 n86 c86 e86 x87 (IntKind.wrap .i64 (x88 + 1)) H121)))))) (Yhm Q a6 n6 c6 e6 a0 h)
theorem Ykb (Q : QT) (R11 : T11) (a0 a6 : Pt) (n6 c6 : Nat) (e6 : Bool) (a86 : Pt) (n86 c86 : Nat) (e86 : Bool) (x87 x88 : Int) (h : Zaa) (ht : L11t Q R11 a0 a6 n6 c6 e6 a86 n86 c86 e86 x87 x88 h) : Den pg fn.ntmps (C [1, 1, 1, 1, 1, 1, 1, 0, 1, 0, 0]) [(0, .ptr a0), (6, .slice a6 n6 c6 e6), (86, .slice a86 n86 c86 e86), (87, .int .i64 x87), (88, .int .i64 x88)] h (K3 Q R11) :=
  Zay (kp := kp) (cast (by kernel_rfl) ht)
theorem L11ind (Q : QT) (a0 a6 : Pt) (n6 c6 : Nat) (e6 : Bool) (a86 : Pt) (n86 c86 : Nat) (e86 : Bool) (x87 : Int) {G : Type} (J : G → Int → Zaa → Prop) (m : G → Nat)
 (hr : ∀ (g : G) (x88 : Int) (h : Zaa), J g x88 h → ∀ (R11 : T11), (∀ g' (x88 : Int) (h : Zaa), m g' < m g → J g' x88 h → R11 a0 a6 n6 c6 e6 a86 n86 c86 e86 x87 x88 h) → L11t Q R11 a0 a6 n6 c6 e6 a86 n86 c86 e86 x87 x88 h)
 (g : G) (x88 : Int) (h : Zaa) (hj : J g x88 h) : L11 Q a0 a6 n6 c6 e6 a86 n86 c86 e86 x87 x88 h := by
  refine Zed.inv2 (fun g => E11 fun a0' a6' n6' c6' e6' a86' n86' c86' e86' x87' x88 h => a0 = a0' ∧ a6 = a6' ∧ n6 = n6' ∧ c6 = c6' ∧ e6 = e6' ∧ a86 = a86' ∧ n86 = n86' ∧ c86 = c86' ∧ e86 = e86' ∧ x87 = x87' ∧ J g x88 h) (fun g => E11 fun a0' a6' n6' c6' e6' a86' n86' c86' e86' x87' x88 h => a0 = a0' ∧ a6 = a6' ∧ n6 = n6' ∧ c6 = c6' ∧ e6 = e6' ∧ a86 = a86' ∧ n86 = n86' ∧ c86 = c86' ∧ e86 = e86' ∧ x87 = x87' ∧ ∃ g', m g' < m g ∧ J g' x88 h) m ?_ ?_ g ⟨rfl, rfl, rfl, rfl, rfl, rfl, rfl, rfl, rfl, rfl, hj⟩
  · intro g env h hi
    obtain ⟨a0', a6', n6', c6', e6', a86', n86', c86', e86', x87', x88, rfl, rfl, rfl, rfl, rfl, rfl, rfl, rfl, rfl, rfl, rfl, hj⟩ := Zwd hi
    exact Ykb Q _ a0 a6 n6 c6 e6 a86 n86 c86 e86 x87 x88 h (hr g x88 h hj (fun a0' a6' n6' c6' e6' a86' n86' c86' e86' x87' x88 h => a0 = a0' ∧ a6 = a6' ∧ n6 = n6' ∧ c6 = c6' ∧ e6 = e6' ∧ a86 = a86' ∧ n86 = n86' ∧ c86 = c86' ∧ e86 = e86' ∧ x87 = x87' ∧ ∃ g', m g' < m g ∧ J g' x88 h) fun g' x88 h hlt hj => ⟨rfl, rfl, rfl, rfl, rfl, rfl, rfl, rfl, rfl, rfl, g', hlt, hj⟩)
  · intro g env h hi
    obtain ⟨a0', a6', n6', c6', e6', a86', n86', c86', e86', x87', x88, rfl, rfl, rfl, rfl, rfl, rfl, rfl, rfl, rfl, rfl, rfl, g', hlt, hj⟩ := Zwd hi
    exact ⟨g', hlt, rfl, rfl, rfl, rfl, rfl, rfl, rfl, rfl, rfl, rfl, hj⟩
theorem A11x0i (Q : QT) (a6 : Pt) (n6 c6 : Nat) (e6 : Bool) (a0 : Pt) (h : Zaa) (ht :
 bcase (decide (((((n6 : Nat) : Int)) : Int) > 0)) (Zad pg Zcz [.ptr a0] h fun V123 H124 =>
 Zds .u8 (some V123) fun X125 => bcase (!((X125 : Int) == 41)) (Q (.str ([112, 97, 114, 116, 115])) H124) (Zbl a0 fun I126 O127 => Zds .i64 (Zag H124 (.ptr (some (I126, O127 + 4)))) fun X128 => Zbl a0 fun I129 O130 => Zcu (Zbn H124 (.ptr (some (I129, O130 + 4))) [.int .i64 (IntKind.wrap .i64 (X128 + 1))]) fun H131 => J24 Q H131)) (J24 Q h)) : Yhm Q a6 n6 c6 e6 a0 h :=
  At.mk (cast (by kernel_rfl) ht)
theorem J24i (Q : QT) (h : Zaa) (ht :
 Q (.str ([111, 107])) h) : J24 Q h :=
  Zay (kp := kp) (cast (by kernel_rfl) ht)
theorem call (a0 : Pt) (x1x0 x1x1 : List Nat) (h : Zaa) (Q : QT) (ht :
 Zdg (h ++ [.cells Zaj [.str x1x0, .str x1x1] false]) fun H0 => Zad pg Zcz [.ptr a0] H0 fun V1 H2 =>
 Zds .u8 (some V1) fun X3 => Zad pg Zdz [.str ([97, 98, 99, 100, 101, 102]), .int .u8 X3] H2 fun V4 H5 =>
 Zds .i64 (some V4) fun X6 => bcase (decide ((X6 : Int) ≥ 0)) (Zcx (Zbp H5 (.ptr (some (h.length, 0))) 2) fun K7 => Zam K7 fun C8 Z9 => Zbk (some C8) fun S10 => Zam Z9 fun C11 Z12 => Zbk (some C11) fun S13 => Zci Z12 (Zad pg Zgx [.ptr a0, .agg [.str S10, .str S13]] H5 fun V14 H15 =>
 Zbk (some V14) fun S16 => Q (.str S16) H15)) (Zad pg Zcz [.ptr a0] H5 fun V17 H18 =>
 Zds .u8 (some V17) fun X19 => Zbl a0 fun I20 O21 => Zds .i64 (Zag H18 (.ptr (some (I20, O21 + 4)))) fun X22 => Zbl a0 fun I23 O24 => Zcu (Zbn H18 (.ptr (some (I23, O24 + 4))) [.int .i64 (IntKind.wrap .i64 (X22 + 1))]) fun H25 => Zbl a0 fun I26 O27 => xSl (Zag H25 (.ptr (some (I26, O27 + 0 + 1)))) fun A28 N29 C30 E31 => Zad pg Zjz [.int .i64 (IntKind.wrap .i64 ((IntKind.wrap .i64 (X19)) - 48)), .int .i64 0, .int .i64 (IntKind.wrap .i64 ((((N29 : Nat) : Int)) - 1))] H25 fun V32 H33 =>
 Zbz (some V32) fun B34 => bcase (!B34) ((Zag H33 (.tup []) = Zag H33 (.tup [])) ∧ (Zag H33 (.tup []) = Zag H33 (.tup [])) ∧ (Zag H33 (.tup []) = Zag H33 (.tup [])) ∧ (Zag H33 (.tup []) = Zag H33 (.tup [])) ∧ (Zag H33 (.tup []) = Zag H33 (.tup [])) ∧ (Zag H33 (.tup []) = Zag H33 (.tup [])) ∧ (Zag H33 (.tup []) = Zag H33 (.tup [])) ∧ (Zag H33 (.tup []) = Zag H33 (.tup [])) ∧ (Zag H33 (.tup []) = Zag H33 (.tup [])) ∧ Q (.str ([105, 110, 115, 116, 97, 110, 99, 101])) H33) (Zbl a0 fun I35 O36 => xSl (Zag H33 (.ptr (some (I35, O36 + 0 + 1)))) fun A37 N38 C39 E40 => (0 ≤ (IntKind.wrap .i64 ((IntKind.wrap .i64 (X19)) - 48) : Int) ∧ (IntKind.wrap .i64 ((IntKind.wrap .i64 (X19)) - 48) : Int) < (N38 : Nat)) ∧ (Zbl A37 fun I41 O42 => Zbk (Zag H33 (.ptr (some (I41, O42 + (Int.toNat (IntKind.wrap .i64 ((IntKind.wrap .i64 (X19)) - 48))) * 3 + 0 + 0)))) fun S43 => Zbk (Zag H33 (.ptr (some (h.length, 0 + 0)))) fun S44 => (Zag H33 (.ptr (some (I41, O42 + (Int.toNat (IntKind.wrap .i64 ((IntKind.wrap .i64 (X19)) - 48))) * 3 + 0 + 0))) = Zag H33 (.ptr (some (I41, O42 + (Int.toNat (IntKind.wrap .i64 ((IntKind.wrap .i64 (X19)) - 48))) * 3 + 0 + 0)))) ∧ (Zag H33 (.ptr (some (I35, O36 + 0 + 1))) = Zag H33 (.ptr (some (I35, O36 + 0 + 1)))) ∧ bcase (!(decide (S43 = S44))) ((Zag H33 (.tup []) = Zag H33 (.tup [])) ∧ (Zag H33 (.tup []) = Zag H33 (.tup [])) ∧ (Zag H33 (.ptr (some (I41, O42 + (Int.toNat (IntKind.wrap .i64 ((IntKind.wrap .i64 (X19)) - 48))) * 3 + 0 + 0))) = Zag H33 (.ptr (some (I41, O42 + (Int.toNat (IntKind.wrap .i64 ((IntKind.wrap .i64 (X19)) - 48))) * 3 + 0 + 0)))) ∧ (Zag H33 (.ptr (some (I35, O36 + 0 + 1))) = Zag H33 (.ptr (some (I35, O36 + 0 + 1)))) ∧ (Zag H33 (.tup []) = Zag H33 (.tup [])) ∧ (Zag H33 (.ptr (some (I41, O42 + (Int.toNat (IntKind.wrap .i64 ((IntKind.wrap .i64 (X19)) - 48))) * 3 + 0 + 0))) = Zag H33 (.ptr (some (I41, O42 + (Int.toNat (IntKind.wrap .i64 ((IntKind.wrap .i64 (X19)) - 48))) * 3 + 0 + 0)))) ∧ (Zag H33 (.ptr (some (I35, O36 + 0 + 1))) = Zag H33 (.ptr (some (I35, O36 + 0 + 1)))) ∧ Q (.str ([105, 110, 115, 116, 97, 110, 99, 101])) H33) (Zbl a0 fun I45 O46 => xSl (Zag H33 (.ptr (some (I45, O46 + 0 + 1)))) fun A47 N48 C49 E50 => (0 ≤ (IntKind.wrap .i64 ((IntKind.wrap .i64 (X19)) - 48) : Int) ∧ (IntKind.wrap .i64 ((IntKind.wrap .i64 (X19)) - 48) : Int) < (N48 : Nat)) ∧ (Zbl A47 fun I51 O52 => Zbk (Zag H33 (.ptr (some (I51, O52 + (Int.toNat (IntKind.wrap .i64 ((IntKind.wrap .i64 (X19)) - 48))) * 3 + 0 + 1)))) fun S53 => Zbk (Zag H33 (.ptr (some (h.length, 0 + 1)))) fun S54 => (Zag H33 (.ptr (some (I51, O52 + (Int.toNat (IntKind.wrap .i64 ((IntKind.wrap .i64 (X19)) - 48))) * 3 + 0 + 1))) = Zag H33 (.ptr (some (I51, O52 + (Int.toNat (IntKind.wrap .i64 ((IntKind.wrap .i64 (X19)) - 48))) * 3 + 0 + 1)))) ∧ (Zag H33 (.ptr (some (I45, O46 + 0 + 1))) = Zag H33 (.ptr (some (I45, O46 + 0 + 1)))) ∧ (Zag H33 (.ptr (some (I41, O42 + (Int.toNat (IntKind.wrap .i64 ((IntKind.wrap .i64 (X19)) - 48))) * 3 + 0 + 0))) = Zag H33 (.ptr (some (I41, O42 + (Int.toNat (IntKind.wrap .i64 ((IntKind.wrap .i64 (X19)) - 48))) * 3 + 0 + 0)))) ∧ (Zag H33 (.ptr (some (I35, O36 + 0 + 1))) = Zag H33 (.ptr (some (I35, O36 + 0 + 1)))) ∧ Zad pg Zkd [.str S53, .str S54] H33 fun V55 H56 =>
 Zbz (some V55) fun B57 => (Zag H56 (.ptr (some (I45, O46 + 0 + 1))) = Zag H33 (.ptr (some (I45, O46 + 0 + 1)))) ∧ (Zag H56 (.ptr (some (I41, O42 + (Int.toNat (IntKind.wrap .i64 ((IntKind.wrap .i64 (X19)) - 48))) * 3 + 0 + 0))) = Zag H33 (.ptr (some (I41, O42 + (Int.toNat (IntKind.wrap .i64 ((IntKind.wrap .i64 (X19)) - 48))) * 3 + 0 + 0)))) ∧ (Zag H56 (.ptr (some (I35, O36 + 0 + 1))) = Zag H33 (.ptr (some (I35, O36 + 0 + 1)))) ∧ bcase (!B57) (Q (.str ([105, 110, 115, 116, 97, 110, 99, 101])) H56) (J7 Q a0 (IntKind.wrap .i64 ((IntKind.wrap .i64 (X19)) - 48)) h.length 0 H56))))))) : Zad pg Zfo [.ptr a0, .agg [.str x1x0, .str x1x1]] h Q :=
  Zad.of_body kp (c := cod fn) (fn := fn) Go.Proofs.Tryz.func45 (by kernel_rfl) (by kernel_rfl) (Nat.le_of_ble_eq_true (by kernel_rfl))
    (cast (by kernel_rfl) ht)
end Zcv
namespace Zgf
noncomputable abbrev fn : Func := Go.Proofs.Tryz.f15
def kp : Zcb := [(4000003, [4, 1, 3, 6]), (4000007, [10])]
noncomputable def C (p : List Nat) : Code := (cod fn).sub p
def KR (Q : QT) : KT := Zez pg fn.results.toList Q
def J3 (Q : QT) (i4 o4 : Nat) (a1 : Pt) (n1 c1 : Nat) (e1 : Bool) (x3 : List Nat) (i6 o6 : Nat) (h : Zaa) : Prop := Den pg fn.ntmps (C [1, 1]) [(4, .ptr (some (i4, o4))), (1, .slice a1 n1 c1 e1), (3, .str x3), (6, .ptr (some (i6, o6)))] h (KR Q)
def J7 (Q : QT) (x10 : List Nat) (h : Zaa) : Prop := Den pg fn.ntmps (C [1, 1, 1, 1, 1]) [(10, .str x10)] h (KR Q)
theorem J3i (Q : QT) (i4 o4 : Nat) (a1 : Pt) (n1 c1 : Nat) (e1 : Bool) (x3 : List Nat) (i6 o6 : Nat) (h : Zaa) (ht :
 Zcx (Zbp h (.ptr (some (i4, o4))) 2) fun K41 => Zam K41 fun C42 Z43 => xSl (some C42) fun A44 N45 C46 E47 => Zam Z43 fun C48 Z49 => xSl (some C48) fun A50 N51 C52 E53 => Zci Z49 (Zdg (h ++ [.cells Zew [.slice A44 N45 C46 E47, .slice A50 N51 C52 E53, .slice a1 n1 c1 e1, .str x3, .int .i64 0] false]) fun H54 => Zcx (Zbp H54 (.ptr (some (i6, o6))) 2) fun K55 => Zam K55 fun C56 Z57 => Zbk (some C56) fun S58 => Zam Z57 fun C59 Z60 => Zbk (some C59) fun S61 => Zci Z60 (Zad pg Zfo [.ptr (some (h.length, 0)), .agg [.str S58, .str S61]] H54 fun V62 H63 =>
 Zbk (some V62) fun S64 => bcase (decide (S64 = [111, 107])) (Zds .i64 (Zag H63 (.ptr (some (h.length, 0 + 4)))) fun X65 => bcase (!((X65 : Int) == (((List.length x3 : Nat) : Int)))) (Q (.str ([114, 101, 115, 116])) H63) (J7 Q S64 H63)) (J7 Q S64 H63)))) : J3 Q i4 o4 a1 n1 c1 e1 x3 i6 o6 h :=
  Zay (kp := kp) (cast (by kernel_rfl) ht)
theorem J7i (Q : QT) (x10 : List Nat) (h : Zaa) (ht :
 Q (.str x10) h) : J7 Q x10 h :=
  Zay (kp := kp) (cast (by kernel_rfl) ht)
theorem call (a0x0 : Pt) (n0x0 c0x0 : Nat) (e0x0 : Bool) (a0x1 : Pt) (n0x1 c0x1 : Nat) (e0x1 : Bool) (a1 : Pt) (n1 c1 : Nat) (e1 : Bool) (x2x0 x2x1 x3 : List Nat) (h : Zaa) (Q : QT) (ht :
 Zdg (h ++ [.cells Zak [.slice a0x0 n0x0 c0x0 e0x0, .slice a0x1 n0x1 c0x1 e0x1] false]) fun H0 => Zdg (H0 ++ [.cells Zaj [.str x2x0, .str x2x1] false]) fun H1 => Zcx (Zbp H1 (.ptr (some (h.length, 0))) 2) fun K2 => Zam K2 fun C3 Z4 => xSl (some C3) fun A5 N6 C7 E8 => Zam Z4 fun C9 Z10 => xSl (some C9) fun A11 N12 C13 E14 => Zci Z10 (Zad pg Zjc [.agg [.slice A5 N6 C7 E8, .slice A11 N12 C13 E14], .slice a1 n1 c1 e1] H1 fun V15 H16 =>
 Zbz (some V15) fun B17 => bcase (!B17) (Q (.str ([119, 114, 111, 110, 103])) H16) (Zcx (Zbp H16 (.ptr (some (h.length, 0))) 2) fun K18 => Zam K18 fun C19 Z20 => xSl (some C19) fun A21 N22 C23 E24 => Zam Z20 fun C25 Z26 => xSl (some C25) fun A27 N28 C29 E30 => Zci Z26 (Zcx (Zbp H16 (.ptr (some (H0.length, 0))) 2) fun K31 => Zam K31 fun C32 Z33 => Zbk (some C32) fun S34 => Zam Z33 fun C35 Z36 => Zbk (some C35) fun S37 => Zci Z36 (Zad pg Zip [.agg [.slice A21 N22 C23 E24, .slice A27 N28 C29 E30], .agg [.str S34, .str S37]] H16 fun V38 H39 =>
 Zbz (some V38) fun B40 => bcase (!B40) (Q (.str ([119, 114, 111, 110, 103])) H39) (J3 Q h.length 0 a1 n1 c1 e1 x3 H0.length 0 H39)))))) : Zad pg Zkg [.agg [.slice a0x0 n0x0 c0x0 e0x0, .slice a0x1 n0x1 c0x1 e0x1], .slice a1 n1 c1 e1, .agg [.str x2x0, .str x2x1], .str x3] h Q :=
  Zad.of_body kp (c := cod fn) (fn := fn) Go.Proofs.Tryz.func15 (by kernel_rfl) (by kernel_rfl) (Nat.le_of_ble_eq_true (by kernel_rfl))
    (cast (by kernel_rfl) ht)
end Zgf
end Go.Sim

set_option maxRecDepth 100000
set_option linter.unusedVariables false
namespace Go.Sim
open Go Go.RowKit
namespace Zku
noncomputable abbrev fn : Func := Go.Proofs.Tryz.f85
def kp : Zcb := [(2000001, [12, 0]), (2000003, [2])]
noncomputable def C (p : List Nat) : Code := (cod fn).sub p
def KR (Q : QT) : KT := Zez pg fn.results.toList Q
theorem call (a0 : Pt) (h : Zaa) (Q : QT) (ht :
 Zbl a0 fun I0 O1 => Zbl a0 fun I2 O3 => Zds .i64 (Zag h (.ptr (some (I0, O1 + 4)))) fun X4 => Zbk (Zag h (.ptr (some (I2, O3 + 3)))) fun S5 => (Zag h (.ptr (some (I0, O1 + 4))) = Zag h (.ptr (some (I0, O1 + 4)))) ∧ bcase (decide ((X4 : Int) ≥ (((List.length S5 : Nat) : Int)))) (Q (.int .u8 0) h) (Zbl a0 fun I6 O7 => Zbl a0 fun I8 O9 => Zbk (Zag h (.ptr (some (I6, O7 + 3)))) fun S10 => Zds .i64 (Zag h (.ptr (some (I8, O9 + 4)))) fun X11 => (Zag h (.ptr (some (I6, O7 + 3))) = Zag h (.ptr (some (I6, O7 + 3)))) ∧ Zfg S10 X11 fun B12 => Q (.int .u8 (((B12 : Nat) : Int))) h)) : Zad pg Zcz [.ptr a0] h Q :=
  Zad.of_body kp (c := cod fn) (fn := fn) Go.Proofs.Tryz.func85 (by kernel_rfl) (by kernel_rfl) (Nat.le_of_ble_eq_true (by kernel_rfl))
    (cast (by kernel_rfl) ht)
end Zku
namespace Zfp
noncomputable abbrev fn : Func := Go.Proofs.Tryz.f86
def kp : Zcb := [(2000007, [0, 6, 7, 3]), (2000009, [67, 7, 6, 3]), (4000012, [6, 3])]
noncomputable def C (p : List Nat) : Code := (cod fn).sub p
def KR (Q : QT) : KT := Zez pg fn.results.toList Q
def J12 (Q : QT) (i6 o6 i3 o3 : Nat) (h : Zaa) : Prop := Den pg fn.ntmps (C [1, 1, 1, 1, 1, 1]) [(6, .ptr (some (i6, o6))), (3, .ptr (some (i3, o3)))] h (KR Q)
theorem J12i (Q : QT) (i6 o6 i3 o3 : Nat) (h : Zaa) (ht :
 Zcx (Zbp h (.ptr (some (i6, o6))) 2) fun K81 => Zam K81 fun C82 Z83 => Zbk (some C82) fun S84 => Zam Z83 fun C85 Z86 => Zbk (some C85) fun S87 => Zci Z86 (Zcx (Zbp h (.ptr (some (i3, o3))) 2) fun K88 => Zam K88 fun C89 Z90 => Zbk (some C89) fun S91 => Zam Z90 fun C92 Z93 => Zbk (some C92) fun S94 => Zci Z93 (bcase (!((decide (S84 = S91)) && (decide (S87 = S94)))) (Q (.str ([103, 105, 118, 101, 110])) h) (Q (.str ([111, 107])) h)))) : J12 Q i6 o6 i3 o3 h :=
  Zay (kp := kp) (cast (by kernel_rfl) ht)
theorem call (a0 : Pt) (x1x0 x1x1 : List Nat) (h : Zaa) (Q : QT) (ht :
 Zdg (h ++ [.cells Zaj [.str x1x0, .str x1x1] false]) fun H0 => Zad pg Zcz [.ptr a0] H0 fun V1 H2 =>
 Zds .u8 (some V1) fun X3 => Zad pg Zdz [.str ([97, 98, 99, 100, 101, 102]), .int .u8 X3] H2 fun V4 H5 =>
 Zds .i64 (some V4) fun X6 => Zbl a0 fun I7 O8 => Zds .i64 (Zag H5 (.ptr (some (I7, O8 + 4)))) fun X9 => Zbl a0 fun I10 O11 => Zcu (Zbn H5 (.ptr (some (I10, O11 + 4))) [.int .i64 (IntKind.wrap .i64 (X9 + 1))]) fun H12 => Zbl a0 fun I13 O14 => xSl (Zag H12 (.ptr (some (I13, O14 + 2)))) fun A15 N16 C17 E18 => bcase (decide ((X6 : Int) ≥ (((N16 : Nat) : Int)))) (Q (.str ([103, 105, 118, 101, 110])) H12) (Zbl a0 fun I19 O20 => xSl (Zag H12 (.ptr (some (I19, O20 + 2)))) fun A21 N22 C23 E24 => (0 ≤ (X6 : Int) ∧ (X6 : Int) < (N22 : Nat)) ∧ (Zbl A21 fun I25 O26 => Zcx (Zbp H12 (.ptr (some (I25, O26 + (Int.toNat X6) * 2))) 2) fun K27 => Zam K27 fun C28 Z29 => Zbk (some C28) fun S30 => Zam Z29 fun C31 Z32 => Zbk (some C31) fun S33 => Zci Z32 (Zdg (H12 ++ [.cells Zaj [.str [], .str []] false]) fun H34 => Zcu (Zbn H34 (.ptr (some (H12.length, 0))) [.str S30, .str S33]) fun H35 => Zad pg Zcz [.ptr a0] H35 fun V36 H37 =>
 Zds .u8 (some V36) fun X38 => Zad pg Zjz [.int .i64 (IntKind.wrap .i64 (X38)), .int .i64 65, .int .i64 84] H37 fun V39 H40 =>
 Zbz (some V39) fun B41 => bcase B41 (Zbl a0 fun I42 O43 => Zbl a0 fun I44 O45 => Zbl a0 fun I46 O47 => Zbk (Zag H40 (.ptr (some (I42, O43 + 3)))) fun S48 => Zds .i64 (Zag H40 (.ptr (some (I44, O45 + 4)))) fun X49 => Zds .i64 (Zag H40 (.ptr (some (I46, O47 + 4)))) fun X50 => (Zag H40 (.ptr (some (I44, O45 + 4))) = Zag H40 (.ptr (some (I44, O45 + 4)))) ∧ (Zag H40 (.ptr (some (I42, O43 + 3))) = Zag H40 (.ptr (some (I42, O43 + 3)))) ∧ (0 ≤ (X49 : Int) ∧ (X49 : Int) ≤ IntKind.wrap .i64 (X50 + 1) ∧ (IntKind.wrap .i64 (X50 + 1) : Int) ≤ (List.length S48 : Nat)) ∧ (Zbl a0 fun I51 O52 => Zds .i64 (Zag H40 (.ptr (some (I51, O52 + 4)))) fun X53 => Zbl a0 fun I54 O55 => Zcu (Zbn H40 (.ptr (some (I54, O55 + 4))) [.int .i64 (IntKind.wrap .i64 (X53 + 1))]) fun H56 => Zbl a0 fun I57 O58 => Zfg (sub S48 X49 (IntKind.wrap .i64 (X50 + 1))) 0 fun B59 => Zcx (Zbp H56 (.ptr (some (I57, O58 + 0))) 2) fun K60 => Zam K60 fun C61 Z62 => xSl (some C61) fun A63 N64 C65 E66 => Zam Z62 fun C67 Z68 => xSl (some C67) fun A69 N70 C71 E72 => Zci Z68 (Zbk (Zag H56 (.ptr (some (H12.length, 0 + 0)))) fun S73 => (Zbp H56 (.ptr (some (I57, O58 + 0))) 2 = Zbp H56 (.ptr (some (I57, O58 + 0))) 2) ∧ Zad pg Zln [.agg [.slice A63 N64 C65 E66, .slice A69 N70 C71 E72], .str S73] H56 fun V74 H75 =>
 Zbk (some V74) fun S76 => Zad pg Zdz [.str S76, .int .u8 (((B59 : Nat) : Int))] H75 fun V77 H78 =>
 Zds .i64 (some V77) fun X79 => (Zbp H78 (.ptr (some (I57, O58 + 0))) 2 = Zbp H75 (.ptr (some (I57, O58 + 0))) 2) ∧ bcase (decide ((X79 : Int) < 0)) (Q (.str ([103, 105, 118, 101, 110])) H78) (Zcu (Zbn H78 (.ptr (some (H12.length, 0 + 0))) [.str (sub S48 X49 (IntKind.wrap .i64 (X50 + 1)))]) fun H80 => J12 Q H12.length 0 h.length 0 H80)))) (J12 Q H12.length 0 h.length 0 H40))))) : Zad pg Zgx [.ptr a0, .agg [.str x1x0, .str x1x1]] h Q :=
  Zad.of_body kp (c := cod fn) (fn := fn) Go.Proofs.Tryz.func86 (by kernel_rfl) (by kernel_rfl) (Nat.le_of_ble_eq_true (by kernel_rfl))
    (cast (by kernel_rfl) ht)
end Zfp
end Go.Sim

set_option maxRecDepth 100000
set_option linter.unusedVariables false
namespace Go.Sim
open Go Go.RowKit
namespace Zhb
noncomputable abbrev fn : Func := Go.Proofs.Tryz.f93
def kp : Zcb := []
noncomputable def C (p : List Nat) : Code := (cod fn).sub p
def KR (Q : QT) : KT := Zez pg fn.results.toList Q
theorem call (a0 : Pt) (n0 c0 : Nat) (e0 : Bool) (x1 : Int) (h : Zaa) (Q : QT) (ht :
 Zad pg Ziu [.slice a0 n0 c0 e0, .int .i64 x1] h fun V0 H1 =>
 Zds .i64 (some V0) fun X2 => Q (.bool (decide ((X2 : Int) ≥ 0))) H1) : Zad pg Zfk [.slice a0 n0 c0 e0, .int .i64 x1] h Q :=
  Zad.of_body kp (c := cod fn) (fn := fn) Go.Proofs.Tryz.func93 (by kernel_rfl) (by kernel_rfl) (Nat.le_of_ble_eq_true (by kernel_rfl))
    (cast (by kernel_rfl) ht)
end Zhb
namespace Zdy
noncomputable abbrev fn : Func := Go.Proofs.Tryz.f129
def kp : Zcb := [(3000002, [4]), (1000002, [0, 1, 7, 8])]
noncomputable def C (p : List Nat) : Code := (cod fn).sub p
def KR (Q : QT) : KT := Zez pg fn.results.toList Q
abbrev T2 := Pt → Nat → Nat → Bool → Int → Int → Int → Zaa → Prop
def E2 (R2 : T2) (env : Env) (h : Zaa) : Prop := Zbt 0 env fun v env => xSl (some v) fun a0 n0 c0 e0 => Zbt 1 env fun v env => Zei .i64 v fun x1 => Zbt 7 env fun v env => Zei .i64 v fun x7 => Zbt 8 env fun v env => Zei .i64 v fun x8 => Zjr env (R2 a0 n0 c0 e0 x1 x7 x8 h)
theorem Zdx {R2 : T2} {env : Env} {h : Zaa} (hi : E2 R2 env h) : ∃ a0, ∃ n0, ∃ c0, ∃ e0, ∃ x1, ∃ x7, ∃ x8, env = [(0, .slice a0 n0 c0 e0), (1, .int .i64 x1), (7, .int .i64 x7), (8, .int .i64 x8)] ∧ R2 a0 n0 c0 e0 x1 x7 x8 h := by
  unfold E2 at hi
  have hi0 := hi
  clear hi
  obtain ⟨_, _, rfl, hi1⟩ := Zab hi0
  obtain ⟨a0, n0, c0, e0, rfl, hi2⟩ := Zbh hi1
  obtain ⟨_, _, rfl, hi3⟩ := Zab hi2
  obtain ⟨x1, rfl, hi4⟩ := Zat hi3
  obtain ⟨_, _, rfl, hi5⟩ := Zab hi4
  obtain ⟨x7, rfl, hi6⟩ := Zat hi5
  obtain ⟨_, _, rfl, hi7⟩ := Zab hi6
  obtain ⟨x8, rfl, hi8⟩ := Zat hi7
  obtain ⟨rfl, hi9⟩ := Zbi hi8
  have hi := hi9
  exact ⟨a0, n0, c0, e0, x1, x7, x8, rfl, hi⟩
def K0 (Q : QT) : KT := andThen (fun env' h' => (match kp.find 4000007 with | some ks => Den pg fn.ntmps (C [1, 1]) (env'.keep ks) h' (KR Q) | none => den pg fn.ntmps kp (C [1, 1]) env' h' (KR Q))) (KR Q)
def K1 (Q : QT) : KT := Zcg 0 (K0 Q)
def K2 (Q : QT) : KT := Zgz kp 2 (K1 Q)
def K3 (Q : QT) (R2 : T2) : KT := rnd ((kp.find 1000002).getD []) (E2 R2) (K2 Q)
def L2 (Q : QT) (a0 : Pt) (n0 c0 : Nat) (e0 : Bool) (x1 x7 x8 : Int) (h : Zaa) : Prop := Zed (Den pg fn.ntmps (C [1, 0, 1, 0, 0])) ((kp.find 1000002).getD []) (K2 Q) [(0, .slice a0 n0 c0 e0), (1, .int .i64 x1), (7, .int .i64 x7), (8, .int .i64 x8)] h
def Zno (Q : QT) (h : Zaa) : Prop := At (K1 Q) (.exit 0) [(4, .undef)] h
def L2t (Q : QT) (R2 : T2) (a0 : Pt) (n0 c0 : Nat) (e0 : Bool) (x1 x7 x8 : Int) (h : Zaa) : Prop :=
 bcase (decide ((x8 : Int) < x7)) ((0 ≤ (x8 : Int) ∧ (x8 : Int) < (n0 : Nat)) ∧ (Zbl a0 fun I0 O1 => Zds .i64 (Zag h (.ptr (some (I0, O1 + (Int.toNat x8) * 1)))) fun X2 => bcase ((x1 : Int) == X2) (Q (.int .i64 x8) h) (R2 a0 n0 c0 e0 x1 x7 (IntKind.wrap .i64 (x8 + 1)) h))) (Zno Q h)
theorem Zkf (Q : QT) (R2 : T2) (a0 : Pt) (n0 c0 : Nat) (e0 : Bool) (x1 x7 x8 : Int) (h : Zaa) (ht : L2t Q R2 a0 n0 c0 e0 x1 x7 x8 h) : Den pg fn.ntmps (C [1, 0, 1, 0, 0]) [(0, .slice a0 n0 c0 e0), (1, .int .i64 x1), (7, .int .i64 x7), (8, .int .i64 x8)] h (K3 Q R2) :=
  Zay (kp := kp) (cast (by kernel_rfl) ht)
theorem L2ind (Q : QT) (a0 : Pt) (n0 c0 : Nat) (e0 : Bool) (x1 x7 : Int) {G : Type} (J : G → Int → Zaa → Prop) (m : G → Nat)
 (hr : ∀ (g : G) (x8 : Int) (h : Zaa), J g x8 h → ∀ (R2 : T2), (∀ g' (x8 : Int) (h : Zaa), m g' < m g → J g' x8 h → R2 a0 n0 c0 e0 x1 x7 x8 h) → L2t Q R2 a0 n0 c0 e0 x1 x7 x8 h)
 (g : G) (x8 : Int) (h : Zaa) (hj : J g x8 h) : L2 Q a0 n0 c0 e0 x1 x7 x8 h := by
  refine Zed.inv2 (fun g => E2 fun a0' n0' c0' e0' x1' x7' x8 h => a0 = a0' ∧ n0 = n0' ∧ c0 = c0' ∧ e0 = e0' ∧ x1 = x1' ∧ x7 = x7' ∧ J g x8 h) (fun g => E2 fun a0' n0' c0' e0' x1' x7' x8 h => a0 = a0' ∧ n0 = n0' ∧ c0 = c0' ∧ e0 = e0' ∧ x1 = x1' ∧ x7 = x7' ∧ ∃ g', m g' < m g ∧ J g' x8 h) m ?_ ?_ g ⟨rfl, rfl, rfl, rfl, rfl, rfl, hj⟩
  · intro g env h hi
    obtain ⟨a0', n0', c0', e0', x1', x7', x8, rfl, rfl, rfl, rfl, rfl, rfl, rfl, hj⟩ := Zdx hi
    exact Zkf Q _ a0 n0 c0 e0 x1 x7 x8 h (hr g x8 h hj (fun a0' n0' c0' e0' x1' x7' x8 h => a0 = a0' ∧ n0 = n0' ∧ c0 = c0' ∧ e0 = e0' ∧ x1 = x1' ∧ x7 = x7' ∧ ∃ g', m g' < m g ∧ J g' x8 h) fun g' x8 h hlt hj => ⟨rfl, rfl, rfl, rfl, rfl, rfl, g', hlt, hj⟩)
  · intro g env h hi
    obtain ⟨a0', n0', c0', e0', x1', x7', x8, rfl, rfl, rfl, rfl, rfl, rfl, rfl, g', hlt, hj⟩ := Zdx hi
    exact ⟨g', hlt, rfl, rfl, rfl, rfl, rfl, rfl, hj⟩
theorem A2x0i (Q : QT) (h : Zaa) (ht :
 Q (.int .i64 (-1)) h) : Zno Q h :=
  At.mk (cast (by kernel_rfl) ht)
theorem call (a0 : Pt) (n0 c0 : Nat) (e0 : Bool) (x1 : Int) (h : Zaa) (Q : QT) (ht :
 L2 Q a0 n0 c0 e0 x1 (((n0 : Nat) : Int)) 0 h) : Zad pg Ziu [.slice a0 n0 c0 e0, .int .i64 x1] h Q :=
  Zad.of_body kp (c := cod fn) (fn := fn) Go.Proofs.Tryz.func129 (by kernel_rfl) (by kernel_rfl) (Nat.le_of_ble_eq_true (by kernel_rfl))
    (cast (by kernel_rfl) ht)
end Zdy
namespace Zfx
noncomputable abbrev fn : Func := Go.Proofs.Tryz.f91
def kp : Zcb := []
noncomputable def C (p : List Nat) : Code := (cod fn).sub p
def KR (Q : QT) : KT := Zez pg fn.results.toList Q
theorem call (a0 : Pt) (n0 c0 : Nat) (e0 : Bool) (x1 : List Nat) (h : Zaa) (Q : QT) (ht :
 Zad pg Zgl [.slice a0 n0 c0 e0, .str x1] h fun V0 H1 =>
 Zds .i64 (some V0) fun X2 => Q (.bool (decide ((X2 : Int) ≥ 0))) H1) : Zad pg Zec [.slice a0 n0 c0 e0, .str x1] h Q :=
  Zad.of_body kp (c := cod fn) (fn := fn) Go.Proofs.Tryz.func91 (by kernel_rfl) (by kernel_rfl) (Nat.le_of_ble_eq_true (by kernel_rfl))
    (cast (by kernel_rfl) ht)
end Zfx
namespace Zcy
noncomputable abbrev fn : Func := Go.Proofs.Tryz.f127
def kp : Zcb := [(3000002, [4]), (1000002, [0, 1, 7, 8])]
noncomputable def C (p : List Nat) : Code := (cod fn).sub p
def KR (Q : QT) : KT := Zez pg fn.results.toList Q
abbrev T2 := Pt → Nat → Nat → Bool → List Nat → Int → Int → Zaa → Prop
def E2 (R2 : T2) (env : Env) (h : Zaa) : Prop := Zbt 0 env fun v env => xSl (some v) fun a0 n0 c0 e0 => Zbt 1 env fun v env => Zbk (some v) fun x1 => Zbt 7 env fun v env => Zei .i64 v fun x7 => Zbt 8 env fun v env => Zei .i64 v fun x8 => Zjr env (R2 a0 n0 c0 e0 x1 x7 x8 h)
theorem Zdx {R2 : T2} {env : Env} {h : Zaa} (hi : E2 R2 env h) : ∃ a0, ∃ n0, ∃ c0, ∃ e0, ∃ x1, ∃ x7, ∃ x8, env = [(0, .slice a0 n0 c0 e0), (1, .str x1), (7, .int .i64 x7), (8, .int .i64 x8)] ∧ R2 a0 n0 c0 e0 x1 x7 x8 h := by
  unfold E2 at hi
  have hi0 := hi
  clear hi
  obtain ⟨_, _, rfl, hi1⟩ := Zab hi0
  obtain ⟨a0, n0, c0, e0, rfl, hi2⟩ := Zbh hi1
  obtain ⟨_, _, rfl, hi3⟩ := Zab hi2
  obtain ⟨x1, rfl, hi4⟩ := Zch hi3
  obtain ⟨_, _, rfl, hi5⟩ := Zab hi4
  obtain ⟨x7, rfl, hi6⟩ := Zat hi5
  obtain ⟨_, _, rfl, hi7⟩ := Zab hi6
  obtain ⟨x8, rfl, hi8⟩ := Zat hi7
  obtain ⟨rfl, hi9⟩ := Zbi hi8
  have hi := hi9
  exact ⟨a0, n0, c0, e0, x1, x7, x8, rfl, hi⟩
def K0 (Q : QT) : KT := andThen (fun env' h' => (match kp.find 4000007 with | some ks => Den pg fn.ntmps (C [1, 1]) (env'.keep ks) h' (KR Q) | none => den pg fn.ntmps kp (C [1, 1]) env' h' (KR Q))) (KR Q)
def K1 (Q : QT) : KT := Zcg 0 (K0 Q)
def K2 (Q : QT) : KT := Zgz kp 2 (K1 Q)
def K3 (Q : QT) (R2 : T2) : KT := rnd ((kp.find 1000002).getD []) (E2 R2) (K2 Q)
def L2 (Q : QT) (a0 : Pt) (n0 c0 : Nat) (e0 : Bool) (x1 : List Nat) (x7 x8 : Int) (h : Zaa) : Prop := Zed (Den pg fn.ntmps (C [1, 0, 1, 0, 0])) ((kp.find 1000002).getD []) (K2 Q) [(0, .slice a0 n0 c0 e0), (1, .str x1), (7, .int .i64 x7), (8, .int .i64 x8)] h
def Zno (Q : QT) (h : Zaa) : Prop := At (K1 Q) (.exit 0) [(4, .undef)] h
def L2t (Q : QT) (R2 : T2) (a0 : Pt) (n0 c0 : Nat) (e0 : Bool) (x1 : List Nat) (x7 x8 : Int) (h : Zaa) : Prop :=
 bcase (decide ((x8 : Int) < x7)) ((0 ≤ (x8 : Int) ∧ (x8 : Int) < (n0 : Nat)) ∧ (Zbl a0 fun I0 O1 => Zbk (Zag h (.ptr (some (I0, O1 + (Int.toNat x8) * 1)))) fun S2 => bcase (decide (x1 = S2)) (Q (.int .i64 x8) h) (R2 a0 n0 c0 e0 x1 x7 (IntKind.wrap .i64 (x8 + 1)) h))) (Zno Q h)
theorem Zkf (Q : QT) (R2 : T2) (a0 : Pt) (n0 c0 : Nat) (e0 : Bool) (x1 : List Nat) (x7 x8 : Int) (h : Zaa) (ht : L2t Q R2 a0 n0 c0 e0 x1 x7 x8 h) : Den pg fn.ntmps (C [1, 0, 1, 0, 0]) [(0, .slice a0 n0 c0 e0), (1, .str x1), (7, .int .i64 x7), (8, .int .i64 x8)] h (K3 Q R2) :=
  Zay (kp := kp) (cast (by kernel_rfl) ht)
theorem L2ind (Q : QT) (a0 : Pt) (n0 c0 : Nat) (e0 : Bool) (x1 : List Nat) (x7 : Int) {G : Type} (J : G → Int → Zaa → Prop) (m : G → Nat)
 (hr : ∀ (g : G) (x8 : Int) (h : Zaa), J g x8 h → ∀ (R2 : T2), (∀ g' (x8 : Int) (h : Zaa), m g' < m g → J g' x8 h → R2 a0 n0 c0 e0 x1 x7 x8 h) → L2t Q R2 a0 n0 c0 e0 x1 x7 x8 h)
 (g : G) (x8 : Int) (h : Zaa) (hj : J g x8 h) : L2 Q a0 n0 c0 e0 x1 x7 x8 h := by
  refine Zed.inv2 (fun g => E2 fun a0' n0' c0' e0' x1' x7' x8 h => a0 = a0' ∧ n0 = n0' ∧ c0 = c0' ∧ e0 = e0' ∧ x1 = x1' ∧ x7 = x7' ∧ J g x8 h) (fun g => E2 fun a0' n0' c0' e0' x1' x7' x8 h => a0 = a0' ∧ n0 = n0' ∧ c0 = c0' ∧ e0 = e0' ∧ x1 = x1' ∧ x7 = x7' ∧ ∃ g', m g' < m g ∧ J g' x8 h) m ?_ ?_ g ⟨rfl, rfl, rfl, rfl, rfl, rfl, hj⟩
  · intro g env h hi
    obtain ⟨a0', n0', c0', e0', x1', x7', x8, rfl, rfl, rfl, rfl, rfl, rfl, rfl, hj⟩ := Zdx hi
    exact Zkf Q _ a0 n0 c0 e0 x1 x7 x8 h (hr g x8 h hj (fun a0' n0' c0' e0' x1' x7' x8 h => a0 = a0' ∧ n0 = n0' ∧ c0 = c0' ∧ e0 = e0' ∧ x1 = x1' ∧ x7 = x7' ∧ ∃ g', m g' < m g ∧ J g' x8 h) fun g' x8 h hlt hj => ⟨rfl, rfl, rfl, rfl, rfl, rfl, g', hlt, hj⟩)
  · intro g env h hi
    obtain ⟨a0', n0', c0', e0', x1', x7', x8, rfl, rfl, rfl, rfl, rfl, rfl, rfl, g', hlt, hj⟩ := Zdx hi
    exact ⟨g', hlt, rfl, rfl, rfl, rfl, rfl, rfl, hj⟩
theorem A2x0i (Q : QT) (h : Zaa) (ht :
 Q (.int .i64 (-1)) h) : Zno Q h :=
  At.mk (cast (by kernel_rfl) ht)
theorem call (a0 : Pt) (n0 c0 : Nat) (e0 : Bool) (x1 : List Nat) (h : Zaa) (Q : QT) (ht :
 L2 Q a0 n0 c0 e0 x1 (((n0 : Nat) : Int)) 0 h) : Zad pg Zgl [.slice a0 n0 c0 e0, .str x1] h Q :=
  Zad.of_body kp (c := cod fn) (fn := fn) Go.Proofs.Tryz.func127 (by kernel_rfl) (by kernel_rfl) (Nat.le_of_ble_eq_true (by kernel_rfl))
    (cast (by kernel_rfl) ht)
end Zcy
namespace Zbw
noncomputable abbrev fn : Func := Go.Proofs.Tryz.f48
def kp : Zcb := [(2000008, [60, 3, 11, 6]), (4000012, [11, 6, 3]), (4000015, [3, 4, 6, 1]), (2000015, [94, 3, 4, 6, 1]), (4000017, [4, 3, 6, 1]), (2000017, [13, 3, 12, 1, 4]), (3000022, [12, 3, 8, 9]), (1000022, [1, 3, 4, 12, 114, 115, 116]), (4000027, [3, 16, 4, 1, 15, 116, 115, 114, 12]), (2000029, [18, 17, 116, 115, 114, 4, 1, 12]), (4000033, [116, 115, 114, 3, 4, 1, 12])]
noncomputable def C (p : List Nat) : Code := (cod fn).sub p
def KR (Q : QT) : KT := Zez pg fn.results.toList Q
abbrev T22 := Pt → Nat → Nat → Bool → List Nat → Nat → Nat → Pt → Nat → Nat → Bool → Pt → Nat → Nat → Bool → Int → Int → Zaa → Prop
def E22 (R22 : T22) (env : Env) (h : Zaa) : Prop := Zbt 1 env fun v env => xSl (some v) fun a1 n1 c1 e1 => Zbt 3 env fun v env => Zbk (some v) fun x3 => Zbt 4 env fun v env => Zkx (some v) fun a => Zbl a fun i4 o4 => Zbt 12 env fun v env => xSl (some v) fun a12 n12 c12 e12 => Zbt 114 env fun v env => xSl (some v) fun a114 n114 c114 e114 => Zbt 115 env fun v env => Zei .i64 v fun x115 => Zbt 116 env fun v env => Zei .i64 v fun x116 => Zjr env (R22 a1 n1 c1 e1 x3 i4 o4 a12 n12 c12 e12 a114 n114 c114 e114 x115 x116 h)
theorem Yir {R22 : T22} {env : Env} {h : Zaa} (hi : E22 R22 env h) : ∃ a1, ∃ n1, ∃ c1, ∃ e1, ∃ x3, ∃ i4, ∃ o4, ∃ a12, ∃ n12, ∃ c12, ∃ e12, ∃ a114, ∃ n114, ∃ c114, ∃ e114, ∃ x115, ∃ x116, env = [(1, .slice a1 n1 c1 e1), (3, .str x3), (4, .ptr (some (i4, o4))), (12, .slice a12 n12 c12 e12), (114, .slice a114 n114 c114 e114), (115, .int .i64 x115), (116, .int .i64 x116)] ∧ R22 a1 n1 c1 e1 x3 i4 o4 a12 n12 c12 e12 a114 n114 c114 e114 x115 x116 h := by
  unfold E22 at hi
  have hi0 := hi
  clear hi
  obtain ⟨_, _, rfl, hi1⟩ := Zab hi0
  obtain ⟨a1, n1, c1, e1, rfl, hi2⟩ := Zbh hi1
  obtain ⟨_, _, rfl, hi3⟩ := Zab hi2
  obtain ⟨x3, rfl, hi4⟩ := Zch hi3
  obtain ⟨_, _, rfl, hi5⟩ := Zab hi4
  obtain ⟨a, rfl, hi6⟩ := Zce hi5
  obtain ⟨i4, o4, rfl, hi7⟩ := Zby hi6
  obtain ⟨_, _, rfl, hi8⟩ := Zab hi7
  obtain ⟨a12, n12, c12, e12, rfl, hi9⟩ := Zbh hi8
  obtain ⟨_, _, rfl, hi10⟩ := Zab hi9
  obtain ⟨a114, n114, c114, e114, rfl, hi11⟩ := Zbh hi10
  obtain ⟨_, _, rfl, hi12⟩ := Zab hi11
  obtain ⟨x115, rfl, hi13⟩ := Zat hi12
  obtain ⟨_, _, rfl, hi14⟩ := Zab hi13
  obtain ⟨x116, rfl, hi15⟩ := Zat hi14
  obtain ⟨rfl, hi16⟩ := Zbi hi15
  have hi := hi16
  exact ⟨a1, n1, c1, e1, x3, i4, o4, a12, n12, c12, e12, a114, n114, c114, e114, x115, x116, rfl, hi⟩
def K0 (Q : QT) : KT := andThen (fun env' h' => (match kp.find 4000015 with | some ks => Den pg fn.ntmps (C [1, 1]) (env'.keep ks) h' (KR Q) | none => den pg fn.ntmps kp (C [1, 1]) env' h' (KR Q))) (KR Q)
def K1 (Q : QT) : KT := andThen (fun env' h' => (match kp.find 4000034 with | some ks => Den pg fn.ntmps (C [1, 1, 1, 1, 1, 1, 1]) (env'.keep ks) h' (KR Q) | none => den pg fn.ntmps kp (C [1, 1, 1, 1, 1, 1, 1]) env' h' (KR Q))) (KR Q)
def K2 (Q : QT) : KT := Zcg 0 (K1 Q)
def K3 (Q : QT) : KT := Zgz kp 22 (K2 Q)
def K4 (Q : QT) (R22 : T22) : KT := rnd ((kp.find 1000022).getD []) (E22 R22) (K3 Q)
def K5 (Q : QT) (R22 : T22) : KT := andThen (fun env' h' => (match kp.find 4000033 with | some ks => Den pg fn.ntmps (C [1, 1, 1, 1, 1, 1, 0, 1, 0, 0, 1, 1, 1]) (env'.keep ks) h' (K4 Q R22) | none => den pg fn.ntmps kp (C [1, 1, 1, 1, 1, 1, 0, 1, 0, 0, 1, 1, 1]) env' h' (K4 Q R22))) (K4 Q R22)
def K6 (Q : QT) (R22 : T22) : KT := Zcg 1 (K5 Q R22)
def J12 (Q : QT) (i11 o11 i6 o6 : Nat) (x3 : List Nat) (h : Zaa) : Prop := Den pg fn.ntmps (C [1, 0, 1, 0, 1, 1, 1, 1, 1]) [(11, .ptr (some (i11, o11))), (6, .ptr (some (i6, o6))), (3, .str x3)] h (K0 Q)
def J15 (Q : QT) (x3 : List Nat) (i4 o4 i6 o6 : Nat) (a1 : Pt) (n1 c1 : Nat) (e1 : Bool) (h : Zaa) : Prop := Den pg fn.ntmps (C [1, 1]) [(3, .str x3), (4, .ptr (some (i4, o4))), (6, .ptr (some (i6, o6))), (1, .slice a1 n1 c1 e1)] h (KR Q)
def J17 (Q : QT) (i4 o4 : Nat) (x3 : List Nat) (i6 o6 : Nat) (a1 : Pt) (n1 c1 : Nat) (e1 : Bool) (h : Zaa) : Prop := Den pg fn.ntmps (C [1, 1, 1]) [(4, .ptr (some (i4, o4))), (3, .str x3), (6, .ptr (some (i6, o6))), (1, .slice a1 n1 c1 e1)] h (KR Q)
def L22 (Q : QT) (a1 : Pt) (n1 c1 : Nat) (e1 : Bool) (x3 : List Nat) (i4 o4 : Nat) (a12 : Pt) (n12 c12 : Nat) (e12 : Bool) (a114 : Pt) (n114 c114 : Nat) (e114 : Bool) (x115 x116 : Int) (h : Zaa) : Prop := Zed (Den pg fn.ntmps (C [1, 1, 1, 1, 1, 1, 0, 1, 0, 0])) ((kp.find 1000022).getD []) (K3 Q) [(1, .slice a1 n1 c1 e1), (3, .str x3), (4, .ptr (some (i4, o4))), (12, .slice a12 n12 c12 e12), (114, .slice a114 n114 c114 e114), (115, .int .i64 x115), (116, .int .i64 x116)] h
def J27 (Q : QT) (R22 : T22) (x3 x16 : List Nat) (i4 o4 : Nat) (a1 : Pt) (n1 c1 : Nat) (e1 : Bool) (i15 o15 : Nat) (x116 x115 : Int) (a114 : Pt) (n114 c114 : Nat) (e114 : Bool) (a12 : Pt) (n12 c12 : Nat) (e12 : Bool) (h : Zaa) : Prop := Den pg fn.ntmps (C [1, 1, 1, 1, 1, 1, 0, 1, 0, 0, 1, 1, 0, 0, 1, 1, 1]) [(3, .str x3), (16, .str x16), (4, .ptr (some (i4, o4))), (1, .slice a1 n1 c1 e1), (15, .ptr (some (i15, o15))), (116, .int .i64 x116), (115, .int .i64 x115), (114, .slice a114 n114 c114 e114), (12, .slice a12 n12 c12 e12)] h (K6 Q R22)
def Ypm (Q : QT) (a12 : Pt) (n12 c12 : Nat) (e12 : Bool) (x3 : List Nat) (h : Zaa) : Prop := At (K2 Q) (.exit 0) [(12, .slice a12 n12 c12 e12), (3, .str x3), (8, .undef), (9, .undef)] h
def J33 (Q : QT) (R22 : T22) (x116 x115 : Int) (a114 : Pt) (n114 c114 : Nat) (e114 : Bool) (x3 : List Nat) (i4 o4 : Nat) (a1 : Pt) (n1 c1 : Nat) (e1 : Bool) (a12 : Pt) (n12 c12 : Nat) (e12 : Bool) (h : Zaa) : Prop := Den pg fn.ntmps (C [1, 1, 1, 1, 1, 1, 0, 1, 0, 0, 1, 1, 1]) [(116, .int .i64 x116), (115, .int .i64 x115), (114, .slice a114 n114 c114 e114), (3, .str x3), (4, .ptr (some (i4, o4))), (1, .slice a1 n1 c1 e1), (12, .slice a12 n12 c12 e12)] h (K4 Q R22)
theorem J12i (Q : QT) (i11 o11 i6 o6 : Nat) (x3 : List Nat) (h : Zaa) (ht :
 Zcx (Zbp h (.ptr (some (i11, o11))) 2) fun K43 => Zam K43 fun C44 Z45 => Zbk (some C44) fun S46 => Zam Z45 fun C47 Z48 => Zbk (some C47) fun S49 => Zci Z48 (Zcx (Zbp h (.ptr (some (i6, o6))) 2) fun K50 => Zam K50 fun C51 Z52 => Zbk (some C51) fun S53 => Zam Z52 fun C54 Z55 => Zbk (some C54) fun S56 => Zci Z55 (bcase (!((decide (S46 = S53)) && (decide (S49 = S56)))) (Q (.tup [.str x3, .str ([103, 105, 118, 101, 110])]) h) (Q (.tup [.str x3, .str ([111, 107])]) h)))) : J12 Q i11 o11 i6 o6 x3 h :=
  Zay (kp := kp) (cast (by kernel_rfl) ht)
theorem J15i (Q : QT) (x3 : List Nat) (i4 o4 i6 o6 : Nat) (a1 : Pt) (n1 c1 : Nat) (e1 : Bool) (h : Zaa) (ht :
 bcase (decide (x3 = [])) ((Zbp h (.ptr (some (i4, o4))) 2 = Zbp h (.ptr (some (i4, o4))) 2) ∧ (Zbp h (.ptr (some (i4, o4))) 2 = Zbp h (.ptr (some (i4, o4))) 2) ∧ Q (.tup [.str x3, .str ([105, 110, 115, 116, 97, 110, 99, 101])]) h) (Zfg x3 0 fun B57 => bcase (decide (((((B57 : Nat) : Int)) : Int) < 48)) ((Zbp h (.ptr (some (i4, o4))) 2 = Zbp h (.ptr (some (i4, o4))) 2) ∧ (Zbp h (.ptr (some (i4, o4))) 2 = Zbp h (.ptr (some (i4, o4))) 2) ∧ Q (.tup [.str x3, .str ([105, 110, 115, 116, 97, 110, 99, 101])]) h) (Zfg x3 0 fun B58 => bcase (decide (((((B58 : Nat) : Int)) : Int) > 57)) ((Zbp h (.ptr (some (i4, o4))) 2 = Zbp h (.ptr (some (i4, o4))) 2) ∧ (Zbp h (.ptr (some (i4, o4))) 2 = Zbp h (.ptr (some (i4, o4))) 2) ∧ Q (.tup [.str x3, .str ([105, 110, 115, 116, 97, 110, 99, 101])]) h) (Zfg x3 0 fun B59 => Zcx (Zbp h (.ptr (some (i4, o4))) 2) fun K60 => Zam K60 fun C61 Z62 => xSl (some C61) fun A63 N64 C65 E66 => Zam Z62 fun C67 Z68 => xSl (some C67) fun A69 N70 C71 E72 => Zci Z68 (Zcx (Zbp h (.ptr (some (i6, o6))) 2) fun K73 => Zam K73 fun C74 Z75 => Zbk (some C74) fun S76 => Zam Z75 fun C77 Z78 => Zbk (some C77) fun S79 => Zci Z78 ((Zbp h (.ptr (some (i4, o4))) 2 = Zbp h (.ptr (some (i4, o4))) 2) ∧ Zad pg Zjx [.agg [.slice A63 N64 C65 E66, .slice A69 N70 C71 E72], .agg [.str S76, .str S79]] h fun V80 H81 =>
 xSl (some V80) fun A82 N83 C84 E85 => Zad pg Zfk [.slice A82 N83 C84 E85, .int .i64 (IntKind.wrap .i64 (IntKind.wrap .u8 ((((B59 : Nat) : Int)) - 48)))] H81 fun V86 H87 =>
 Zbz (some V86) fun B88 => (Zbp H87 (.ptr (some (i4, o4))) 2 = Zbp H81 (.ptr (some (i4, o4))) 2) ∧ bcase (!B88) (Q (.tup [.str x3, .str ([105, 110, 115, 116, 97, 110, 99, 101])]) H87) (J17 Q i4 o4 x3 i6 o6 a1 n1 c1 e1 H87))))))) : J15 Q x3 i4 o4 i6 o6 a1 n1 c1 e1 h :=
  Zay (kp := kp) (cast (by kernel_rfl) ht)
theorem J17i (Q : QT) (i4 o4 : Nat) (x3 : List Nat) (i6 o6 : Nat) (a1 : Pt) (n1 c1 : Nat) (e1 : Bool) (h : Zaa) (ht :
 Zfg x3 0 fun B89 => xSl (Zag h (.ptr (some (i4, o4 + 1)))) fun A90 N91 C92 E93 => (0 ≤ (IntKind.wrap .u8 ((((B89 : Nat) : Int)) - 48) : Int) ∧ (IntKind.wrap .u8 ((((B89 : Nat) : Int)) - 48) : Int) < (N91 : Nat)) ∧ (Zbl A90 fun I94 O95 => Zcx (Zbp h (.ptr (some (I94, O95 + (Int.toNat (IntKind.wrap .u8 ((((B89 : Nat) : Int)) - 48))) * 3))) 3) fun K96 => Zam K96 fun C97 Z98 => Zbk (some C97) fun S99 => Zam Z98 fun C100 Z101 => Zbk (some C100) fun S102 => Zam Z101 fun C103 Z104 => xSl (some C103) fun A105 N106 C107 E108 => Zci Z104 (Zbk (Zag h (.ptr (some (i6, o6 + 1)))) fun S109 => (Zbp h (.ptr (some (I94, O95 + (Int.toNat (IntKind.wrap .u8 ((((B89 : Nat) : Int)) - 48))) * 3))) 3 = Zbp h (.ptr (some (I94, O95 + (Int.toNat (IntKind.wrap .u8 ((((B89 : Nat) : Int)) - 48))) * 3))) 3) ∧ (Zag h (.ptr (some (i4, o4 + 1))) = Zag h (.ptr (some (i4, o4 + 1)))) ∧ Zad pg Zhn [.agg [.str S99, .str S102, .slice A105 N106 C107 E108], .str S109] h fun V110 H111 =>
 Zuc V110 fun K112 => Zam K112 fun C113 Z114 => xSl (some C113) fun A115 N116 C117 E118 => Zam Z114 fun C119 Z120 => Zbz (some C119) fun B121 => Zci Z120 ((Zag H111 (.ptr (some (i4, o4 + 1))) = Zag h (.ptr (some (i4, o4 + 1)))) ∧ bcase (!B121) (Q (.tup [.str x3, .str ([98, 105, 103])]) H111) ((0 ≤ (1 : Int) ∧ (1 : Int) ≤ (List.length x3 : Int) ∧ ((List.length x3 : Int) : Int) ≤ (List.length x3 : Nat)) ∧ (L22 Q a1 n1 c1 e1 (sub x3 1 ((List.length x3 : Int))) i4 o4 A115 N116 C117 E118 A115 N116 C117 E118 (((N116 : Nat) : Int)) 0 H111)))))) : J17 Q i4 o4 x3 i6 o6 a1 n1 c1 e1 h :=
  Zay (kp := kp) (cast (by kernel_rfl) ht)
def L22t (Q : QT) (R22 : T22) (a1 : Pt) (n1 c1 : Nat) (e1 : Bool) (x3 : List Nat) (i4 o4 : Nat) (a12 : Pt) (n12 c12 : Nat) (e12 : Bool) (a114 : Pt) (n114 c114 : Nat) (e114 : Bool) (x115 x116 : Int) (h : Zaa) : Prop :=
 bcase (decide ((x116 : Int) < x115)) ((0 ≤ (x116 : Int) ∧ (x116 : Int) < (n114 : Nat)) ∧ (Zbl a114 fun I122 O123 => Zcx (Zbp h (.ptr (some (I122, O123 + (Int.toNat x116) * 2))) 2) fun K124 => Zam K124 fun C125 Z126 => Zbk (some C125) fun S127 => Zam Z126 fun C128 Z129 => Zbk (some C128) fun S130 => Zci Z129 (Zdg (h ++ [.cells Zaj [.str [], .str []] false]) fun H131 => Zcu (Zbn H131 (.ptr (some (h.length, 0))) [.str S127, .str S130]) fun H132 => bcase ((x116 : Int) == 0) (J27 Q R22 x3 [40] i4 o4 a1 n1 c1 e1 h.length 0 x116 x115 a114 n114 c114 e114 a12 n12 c12 e12 H132) (J27 Q R22 x3 [44] i4 o4 a1 n1 c1 e1 h.length 0 x116 x115 a114 n114 c114 e114 a12 n12 c12 e12 H132)))) (Ypm Q a12 n12 c12 e12 x3 h)
theorem Ypj (Q : QT) (R22 : T22) (a1 : Pt) (n1 c1 : Nat) (e1 : Bool) (x3 : List Nat) (i4 o4 : Nat) (a12 : Pt) (n12 c12 : Nat) (e12 : Bool) (a114 : Pt) (n114 c114 : Nat) (e114 : Bool) (x115 x116 : Int) (h : Zaa) (ht : L22t Q R22 a1 n1 c1 e1 x3 i4 o4 a12 n12 c12 e12 a114 n114 c114 e114 x115 x116 h) : Den pg fn.ntmps (C [1, 1, 1, 1, 1, 1, 0, 1, 0, 0]) [(1, .slice a1 n1 c1 e1), (3, .str x3), (4, .ptr (some (i4, o4))), (12, .slice a12 n12 c12 e12), (114, .slice a114 n114 c114 e114), (115, .int .i64 x115), (116, .int .i64 x116)] h (K4 Q R22) :=
  Zay (kp := kp) (cast (by kernel_rfl) ht)
theorem L22ind (Q : QT) (a1 : Pt) (n1 c1 : Nat) (e1 : Bool) (i4 o4 : Nat) (a12 : Pt) (n12 c12 : Nat) (e12 : Bool) (a114 : Pt) (n114 c114 : Nat) (e114 : Bool) (x115 : Int) {G : Type} (J : G → List Nat → Int → Zaa → Prop) (m : G → Nat)
 (hr : ∀ (g : G) (x3 : List Nat) (x116 : Int) (h : Zaa), J g x3 x116 h → ∀ (R22 : T22), (∀ g' (x3 : List Nat) (x116 : Int) (h : Zaa), m g' < m g → J g' x3 x116 h → R22 a1 n1 c1 e1 x3 i4 o4 a12 n12 c12 e12 a114 n114 c114 e114 x115 x116 h) → L22t Q R22 a1 n1 c1 e1 x3 i4 o4 a12 n12 c12 e12 a114 n114 c114 e114 x115 x116 h)
 (g : G) (x3 : List Nat) (x116 : Int) (h : Zaa) (hj : J g x3 x116 h) : L22 Q a1 n1 c1 e1 x3 i4 o4 a12 n12 c12 e12 a114 n114 c114 e114 x115 x116 h := by
  refine Zed.inv2 (fun g => E22 fun a1' n1' c1' e1' x3 i4' o4' a12' n12' c12' e12' a114' n114' c114' e114' x115' x116 h => a1 = a1' ∧ n1 = n1' ∧ c1 = c1' ∧ e1 = e1' ∧ i4 = i4' ∧ o4 = o4' ∧ a12 = a12' ∧ n12 = n12' ∧ c12 = c12' ∧ e12 = e12' ∧ a114 = a114' ∧ n114 = n114' ∧ c114 = c114' ∧ e114 = e114' ∧ x115 = x115' ∧ J g x3 x116 h) (fun g => E22 fun a1' n1' c1' e1' x3 i4' o4' a12' n12' c12' e12' a114' n114' c114' e114' x115' x116 h => a1 = a1' ∧ n1 = n1' ∧ c1 = c1' ∧ e1 = e1' ∧ i4 = i4' ∧ o4 = o4' ∧ a12 = a12' ∧ n12 = n12' ∧ c12 = c12' ∧ e12 = e12' ∧ a114 = a114' ∧ n114 = n114' ∧ c114 = c114' ∧ e114 = e114' ∧ x115 = x115' ∧ ∃ g', m g' < m g ∧ J g' x3 x116 h) m ?_ ?_ g ⟨rfl, rfl, rfl, rfl, rfl, rfl, rfl, rfl, rfl, rfl, rfl, rfl, rfl, rfl, rfl, hj⟩
  · intro g env h hi
    obtain ⟨a1', n1', c1', e1', x3, i4', o4', a12', n12', c12', e12', a114', n114', c114', e114', x115', x116, rfl, rfl, rfl, rfl, rfl, rfl, rfl, rfl, rfl, rfl, rfl, rfl, rfl, rfl, rfl, rfl, hj⟩ := Yir hi
    exact Ypj Q _ a1 n1 c1 e1 x3 i4 o4 a12 n12 c12 e12 a114 n114 c114 e114 x115 x116 h (hr g x3 x116 h hj (fun a1' n1' c1' e1' x3 i4' o4' a12' n12' c12' e12' a114' n114' c114' e114' x115' x116 h => a1 = a1' ∧ n1 = n1' ∧ c1 = c1' ∧ e1 = e1' ∧ i4 = i4' ∧ o4 = o4' ∧ a12 = a12' ∧ n12 = n12' ∧ c12 = c12' ∧ e12 = e12' ∧ a114 = a114' ∧ n114 = n114' ∧ c114 = c114' ∧ e114 = e114' ∧ x115 = x115' ∧ ∃ g', m g' < m g ∧ J g' x3 x116 h) fun g' x3 x116 h hlt hj => ⟨rfl, rfl, rfl, rfl, rfl, rfl, rfl, rfl, rfl, rfl, rfl, rfl, rfl, rfl, rfl, g', hlt, hj⟩)
  · intro g env h hi
    obtain ⟨a1', n1', c1', e1', x3, i4', o4', a12', n12', c12', e12', a114', n114', c114', e114', x115', x116, rfl, rfl, rfl, rfl, rfl, rfl, rfl, rfl, rfl, rfl, rfl, rfl, rfl, rfl, rfl, rfl, g', hlt, hj⟩ := Yir hi
    exact ⟨g', hlt, rfl, rfl, rfl, rfl, rfl, rfl, rfl, rfl, rfl, rfl, rfl, rfl, rfl, rfl, rfl, hj⟩
theorem J27i (Q : QT) (R22 : T22) (x3 x16 : List Nat) (i4 o4 : Nat) (a1 : Pt) (n1 c1 : Nat) (e1 : Bool) (i15 o15 : Nat) (x116 x115 : Int) (a114 : Pt) (n114 c114 : Nat) (e114 : Bool) (a12 : Pt) (n12 c12 : Nat) (e12 : Bool) (h : Zaa) (ht :
 Zad pg Zfn [.str x3, .str x16] h fun V133 H134 =>
 Zbz (some V133) fun B135 => bcase (!B135) (Q (.tup [.str x3, .str ([112, 97, 114, 116, 115])]) H134) ((0 ≤ (1 : Int) ∧ (1 : Int) ≤ (List.length x3 : Int) ∧ ((List.length x3 : Int) : Int) ≤ (List.length x3 : Nat)) ∧ (Zcx (Zbp H134 (.ptr (some (i4, o4))) 2) fun K136 => Zam K136 fun C137 Z138 => xSl (some C137) fun A139 N140 C141 E142 => Zam Z138 fun C143 Z144 => xSl (some C143) fun A145 N146 C147 E148 => Zci Z144 (Zcx (Zbp H134 (.ptr (some (i15, o15))) 2) fun K149 => Zam K149 fun C150 Z151 => Zbk (some C150) fun S152 => Zam Z151 fun C153 Z154 => Zbk (some C153) fun S155 => Zci Z154 ((Zbp H134 (.ptr (some (i4, o4))) 2 = Zbp H134 (.ptr (some (i4, o4))) 2) ∧ Zad pg Zgm [.agg [.slice A139 N140 C141 E142, .slice A145 N146 C147 E148], .slice a1 n1 c1 e1, .agg [.str S152, .str S155], .str (sub x3 1 ((List.length x3 : Int)))] H134 fun V156 H157 =>
 Zuc V156 fun K158 => Zam K158 fun C159 Z160 => Zbk (some C159) fun S161 => Zam Z160 fun C162 Z163 => Zbk (some C162) fun S164 => Zci Z163 (bcase (!(decide (S164 = [111, 107]))) (Q (.tup [.str S161, .str S164]) H157) (J33 Q R22 x116 x115 a114 n114 c114 e114 S161 i4 o4 a1 n1 c1 e1 a12 n12 c12 e12 H157))))))) : J27 Q R22 x3 x16 i4 o4 a1 n1 c1 e1 i15 o15 x116 x115 a114 n114 c114 e114 a12 n12 c12 e12 h :=
  Zay (kp := kp) (cast (by kernel_rfl) ht)
theorem A22x0i (Q : QT) (a12 : Pt) (n12 c12 : Nat) (e12 : Bool) (x3 : List Nat) (h : Zaa) (ht :
 bcase ((((n12 : Nat) : Int) : Int) == 0) (Q (.tup [.str x3, .str ([111, 107])]) h) (Zad pg Zfn [.str x3, .str [41]] h fun V165 H166 =>
 Zbz (some V165) fun B167 => bcase (!B167) (Q (.tup [.str x3, .str ([112, 97, 114, 116, 115])]) H166) ((0 ≤ (1 : Int) ∧ (1 : Int) ≤ (List.length x3 : Int) ∧ ((List.length x3 : Int) : Int) ≤ (List.length x3 : Nat)) ∧ (Q (.tup [.str (sub x3 1 ((List.length x3 : Int))), .str ([111, 107])]) H166)))) : Ypm Q a12 n12 c12 e12 x3 h :=
  At.mk (cast (by kernel_rfl) ht)
theorem J33i (Q : QT) (R22 : T22) (x116 x115 : Int) (a114 : Pt) (n114 c114 : Nat) (e114 : Bool) (x3 : List Nat) (i4 o4 : Nat) (a1 : Pt) (n1 c1 : Nat) (e1 : Bool) (a12 : Pt) (n12 c12 : Nat) (e12 : Bool) (h : Zaa) (ht :
 R22 a1 n1 c1 e1 x3 i4 o4 a12 n12 c12 e12 a114 n114 c114 e114 x115 (IntKind.wrap .i64 (x116 + 1)) h) : J33 Q R22 x116 x115 a114 n114 c114 e114 x3 i4 o4 a1 n1 c1 e1 a12 n12 c12 e12 h :=
  Zay (kp := kp) (cast (by kernel_rfl) ht)
theorem call (a0x0 : Pt) (n0x0 c0x0 : Nat) (e0x0 : Bool) (a0x1 : Pt) (n0x1 c0x1 : Nat) (e0x1 : Bool) (a1 : Pt) (n1 c1 : Nat) (e1 : Bool) (x2x0 x2x1 x3 : List Nat) (h : Zaa) (Q : QT) (ht :
 Zdg (h ++ [.cells Zak [.slice a0x0 n0x0 c0x0 e0x0, .slice a0x1 n0x1 c0x1 e0x1] false]) fun H0 => Zdg (H0 ++ [.cells Zaj [.str x2x0, .str x2x1] false]) fun H1 => bcase (!(decide (x3 = []))) (Zfg x3 0 fun B2 => bcase (decide (((((B2 : Nat) : Int)) : Int) ≥ 97)) (Zfg x3 0 fun B3 => bcase (decide (((((B3 : Nat) : Int)) : Int) ≤ 102)) (Zfg x3 0 fun B4 => (0 ≤ (1 : Int) ∧ (1 : Int) ≤ (List.length x3 : Int) ∧ ((List.length x3 : Int) : Int) ≤ (List.length x3 : Nat)) ∧ (bcase (decide (((IntKind.wrap .i64 (IntKind.wrap .u8 ((((B4 : Nat) : Int)) - 97))) : Int) ≥ (((n1 : Nat) : Int)))) (Q (.tup [.str (sub x3 1 ((List.length x3 : Int))), .str ([103, 105, 118, 101, 110])]) H1) ((0 ≤ (IntKind.wrap .i64 (IntKind.wrap .u8 ((((B4 : Nat) : Int)) - 97)) : Int) ∧ (IntKind.wrap .i64 (IntKind.wrap .u8 ((((B4 : Nat) : Int)) - 97)) : Int) < (n1 : Nat)) ∧ (Zbl a1 fun I5 O6 => Zcx (Zbp H1 (.ptr (some (I5, O6 + (Int.toNat (IntKind.wrap .i64 (IntKind.wrap .u8 ((((B4 : Nat) : Int)) - 97)))) * 2))) 2) fun K7 => Zam K7 fun C8 Z9 => Zbk (some C8) fun S10 => Zam Z9 fun C11 Z12 => Zbk (some C11) fun S13 => Zci Z12 (Zdg (H1 ++ [.cells Zaj [.str [], .str []] false]) fun H14 => Zcu (Zbn H14 (.ptr (some (H1.length, 0))) [.str S10, .str S13]) fun H15 => bcase (!(decide (sub x3 1 ((List.length x3 : Int)) = []))) ((0 ≤ (0 : Int) ∧ (0 : Int) ≤ 1 ∧ (1 : Int) ≤ (List.length (sub x3 1 ((List.length x3 : Int))) : Nat)) ∧ (Zad pg Zkm [.str (sub (sub x3 1 ((List.length x3 : Int))) 0 1)] H15 fun V16 H17 =>
 Zbz (some V16) fun B18 => bcase B18 ((0 ≤ (0 : Int) ∧ (0 : Int) ≤ 1 ∧ (1 : Int) ≤ (List.length (sub x3 1 ((List.length x3 : Int))) : Nat)) ∧ (Zcx (Zbp H17 (.ptr (some (h.length, 0))) 2) fun K19 => Zam K19 fun C20 Z21 => xSl (some C20) fun A22 N23 C24 E25 => Zam Z21 fun C26 Z27 => xSl (some C26) fun A28 N29 C30 E31 => Zci Z27 (Zbk (Zag H17 (.ptr (some (H1.length, 0 + 0)))) fun S32 => (Zbp H17 (.ptr (some (h.length, 0))) 2 = Zbp H17 (.ptr (some (h.length, 0))) 2) ∧ Zad pg Zoe [.agg [.slice A22 N23 C24 E25, .slice A28 N29 C30 E31], .str S32] H17 fun V33 H34 =>
 xSl (some V33) fun A35 N36 C37 E38 => Zad pg Zec [.slice A35 N36 C37 E38, .str (sub (sub x3 1 ((List.length x3 : Int))) 0 1)] H34 fun V39 H40 =>
 Zbz (some V39) fun B41 => (Zbp H40 (.ptr (some (h.length, 0))) 2 = Zbp H34 (.ptr (some (h.length, 0))) 2) ∧ bcase (!B41) (Q (.tup [.str (sub x3 1 ((List.length x3 : Int))), .str ([103, 105, 118, 101, 110])]) H40) ((0 ≤ (0 : Int) ∧ (0 : Int) ≤ 1 ∧ (1 : Int) ≤ (List.length (sub x3 1 ((List.length x3 : Int))) : Nat)) ∧ (Zcu (Zbn H40 (.ptr (some (H1.length, 0 + 0))) [.str (sub (sub x3 1 ((List.length x3 : Int))) 0 1)]) fun H42 => (0 ≤ (1 : Int) ∧ (1 : Int) ≤ (List.length (sub x3 1 ((List.length x3 : Int))) : Int) ∧ ((List.length (sub x3 1 ((List.length x3 : Int))) : Int) : Int) ≤ (List.length (sub x3 1 ((List.length x3 : Int))) : Nat)) ∧ (J12 Q H1.length 0 H0.length 0 (sub (sub x3 1 ((List.length x3 : Int))) 1 ((List.length (sub x3 1 ((List.length x3 : Int))) : Int))) H42)))))) (J12 Q H1.length 0 H0.length 0 (sub x3 1 ((List.length x3 : Int))) H17))) (J12 Q H1.length 0 H0.length 0 (sub x3 1 ((List.length x3 : Int))) H15)))))) (J15 Q x3 h.length 0 H0.length 0 a1 n1 c1 e1 H1)) (J15 Q x3 h.length 0 H0.length 0 a1 n1 c1 e1 H1)) (J15 Q x3 h.length 0 H0.length 0 a1 n1 c1 e1 H1)) : Zad pg Zgm [.agg [.slice a0x0 n0x0 c0x0 e0x0, .slice a0x1 n0x1 c0x1 e0x1], .slice a1 n1 c1 e1, .agg [.str x2x0, .str x2x1], .str x3] h Q :=
  Zad.of_body kp (c := cod fn) (fn := fn) Go.Proofs.Tryz.func48 (by kernel_rfl) (by kernel_rfl) (Nat.le_of_ble_eq_true (by kernel_rfl))
    (cast (by kernel_rfl) ht)
end Zbw
namespace Zge
noncomputable abbrev fn : Func := Go.Proofs.Tryz.f17
def kp : Zcb := [(4000003, [4, 1, 6, 3]), (4000006, [10])]
noncomputable def C (p : List Nat) : Code := (cod fn).sub p
def KR (Q : QT) : KT := Zez pg fn.results.toList Q
def J3 (Q : QT) (i4 o4 : Nat) (a1 : Pt) (n1 c1 : Nat) (e1 : Bool) (i6 o6 : Nat) (x3 : List Nat) (h : Zaa) : Prop := Den pg fn.ntmps (C [1, 1]) [(4, .ptr (some (i4, o4))), (1, .slice a1 n1 c1 e1), (6, .ptr (some (i6, o6))), (3, .str x3)] h (KR Q)
def J6 (Q : QT) (x10 : List Nat) (h : Zaa) : Prop := Den pg fn.ntmps (C [1, 1, 1, 1]) [(10, .str x10)] h (KR Q)
theorem J3i (Q : QT) (i4 o4 : Nat) (a1 : Pt) (n1 c1 : Nat) (e1 : Bool) (i6 o6 : Nat) (x3 : List Nat) (h : Zaa) (ht :
 Zcx (Zbp h (.ptr (some (i4, o4))) 2) fun K41 => Zam K41 fun C42 Z43 => xSl (some C42) fun A44 N45 C46 E47 => Zam Z43 fun C48 Z49 => xSl (some C48) fun A50 N51 C52 E53 => Zci Z49 (Zcx (Zbp h (.ptr (some (i6, o6))) 2) fun K54 => Zam K54 fun C55 Z56 => Zbk (some C55) fun S57 => Zam Z56 fun C58 Z59 => Zbk (some C58) fun S60 => Zci Z59 (Zad pg Zgm [.agg [.slice A44 N45 C46 E47, .slice A50 N51 C52 E53], .slice a1 n1 c1 e1, .agg [.str S57, .str S60], .str x3] h fun V61 H62 =>
 Zuc V61 fun K63 => Zam K63 fun C64 Z65 => Zbk (some C64) fun S66 => Zam Z65 fun C67 Z68 => Zbk (some C67) fun S69 => Zci Z68 (bcase (decide (S69 = [111, 107])) (bcase (!(decide (S66 = []))) (Q (.str ([114, 101, 115, 116])) H62) (J6 Q S69 H62)) (J6 Q S69 H62))))) : J3 Q i4 o4 a1 n1 c1 e1 i6 o6 x3 h :=
  Zay (kp := kp) (cast (by kernel_rfl) ht)
theorem J6i (Q : QT) (x10 : List Nat) (h : Zaa) (ht :
 Q (.str x10) h) : J6 Q x10 h :=
  Zay (kp := kp) (cast (by kernel_rfl) ht)
theorem call (a0x0 : Pt) (n0x0 c0x0 : Nat) (e0x0 : Bool) (a0x1 : Pt) (n0x1 c0x1 : Nat) (e0x1 : Bool) (a1 : Pt) (n1 c1 : Nat) (e1 : Bool) (x2x0 x2x1 x3 : List Nat) (h : Zaa) (Q : QT) (ht :
 Zdg (h ++ [.cells Zak [.slice a0x0 n0x0 c0x0 e0x0, .slice a0x1 n0x1 c0x1 e0x1] false]) fun H0 => Zdg (H0 ++ [.cells Zaj [.str x2x0, .str x2x1] false]) fun H1 => Zcx (Zbp H1 (.ptr (some (h.length, 0))) 2) fun K2 => Zam K2 fun C3 Z4 => xSl (some C3) fun A5 N6 C7 E8 => Zam Z4 fun C9 Z10 => xSl (some C9) fun A11 N12 C13 E14 => Zci Z10 (Zad pg Ziz [.agg [.slice A5 N6 C7 E8, .slice A11 N12 C13 E14], .slice a1 n1 c1 e1] H1 fun V15 H16 =>
 Zbz (some V15) fun B17 => bcase (!B17) (Q (.str ([119, 114, 111, 110, 103])) H16) (Zcx (Zbp H16 (.ptr (some (h.length, 0))) 2) fun K18 => Zam K18 fun C19 Z20 => xSl (some C19) fun A21 N22 C23 E24 => Zam Z20 fun C25 Z26 => xSl (some C25) fun A27 N28 C29 E30 => Zci Z26 (Zcx (Zbp H16 (.ptr (some (H0.length, 0))) 2) fun K31 => Zam K31 fun C32 Z33 => Zbk (some C32) fun S34 => Zam Z33 fun C35 Z36 => Zbk (some C35) fun S37 => Zci Z36 (Zad pg Zlf [.agg [.slice A21 N22 C23 E24, .slice A27 N28 C29 E30], .agg [.str S34, .str S37]] H16 fun V38 H39 =>
 Zbz (some V38) fun B40 => bcase (!B40) (Q (.str ([119, 114, 111, 110, 103])) H39) (J3 Q h.length 0 a1 n1 c1 e1 H0.length 0 x3 H39)))))) : Zad pg Zjy [.agg [.slice a0x0 n0x0 c0x0 e0x0, .slice a0x1 n0x1 c0x1 e0x1], .slice a1 n1 c1 e1, .agg [.str x2x0, .str x2x1], .str x3] h Q :=
  Zad.of_body kp (c := cod fn) (fn := fn) Go.Proofs.Tryz.func17 (by kernel_rfl) (by kernel_rfl) (Nat.le_of_ble_eq_true (by kernel_rfl))
    (cast (by kernel_rfl) ht)
end Zge
end Go.Sim

set_option maxRecDepth 100000
set_option linter.unusedVariables false
namespace Go.Sim
open Go Go.RowKit
namespace Zjk
noncomputable abbrev fn : Func := Go.Proofs.Tryz.f92
def kp : Zcb := [(3000003, [5]), (1000003, [5, 12])]
noncomputable def C (p : List Nat) : Code := (cod fn).sub p
def KR (Q : QT) : KT := Zez pg fn.results.toList Q
abbrev T3 := Pt → Nat → Nat → Bool → Nat → Zaa → Prop
def E3 (R3 : T3) (env : Env) (h : Zaa) : Prop := Zbt 5 env fun v env => xSl (some v) fun a5 n5 c5 e5 => Zbt 12 env fun v env => Ync v fun r12 => Zjr env (R3 a5 n5 c5 e5 r12 h)
theorem Zes {R3 : T3} {env : Env} {h : Zaa} (hi : E3 R3 env h) : ∃ a5, ∃ n5, ∃ c5, ∃ e5, ∃ r12, env = [(5, .slice a5 n5 c5 e5), (12, .iter r12)] ∧ R3 a5 n5 c5 e5 r12 h := by
  unfold E3 at hi
  have hi0 := hi
  clear hi
  obtain ⟨_, _, rfl, hi1⟩ := Zab hi0
  obtain ⟨a5, n5, c5, e5, rfl, hi2⟩ := Zbh hi1
  obtain ⟨_, _, rfl, hi3⟩ := Zab hi2
  obtain ⟨r12, rfl, hi4⟩ := Ygn hi3
  obtain ⟨rfl, hi5⟩ := Zbi hi4
  have hi := hi5
  exact ⟨a5, n5, c5, e5, r12, rfl, hi⟩
def K0 (Q : QT) : KT := andThen (fun env' h' => (match kp.find 4000006 with | some ks => Den pg fn.ntmps (C [1, 1, 1]) (env'.keep ks) h' (KR Q) | none => den pg fn.ntmps kp (C [1, 1, 1]) env' h' (KR Q))) (KR Q)
def K1 (Q : QT) : KT := Zcg 0 (K0 Q)
def K2 (Q : QT) : KT := Zgz kp 3 (K1 Q)
def K3 (Q : QT) (R3 : T3) : KT := rnd ((kp.find 1000003).getD []) (E3 R3) (K2 Q)
def L3 (Q : QT) (a5 : Pt) (n5 c5 : Nat) (e5 : Bool) (r12 : Nat) (h : Zaa) : Prop := Zed (Den pg fn.ntmps (C [1, 1, 0, 1, 0, 0])) ((kp.find 1000003).getD []) (K2 Q) [(5, .slice a5 n5 c5 e5), (12, .iter r12)] h
def Zpo (Q : QT) (a5 : Pt) (n5 c5 : Nat) (e5 : Bool) (h : Zaa) : Prop := At (K1 Q) (.exit 0) [(5, .slice a5 n5 c5 e5)] h
def L3t (Q : QT) (R3 : T3) (a5 : Pt) (n5 c5 : Nat) (e5 : Bool) (r12 : Nat) (h : Zaa) : Prop :=
 Zyt h r12 fun S19 W20 => (W20 < List.length S19 → List.getD S19 W20 0 < 128 ∧ (Zdg (List.set h r12 (.iter S19 (W20 + 1))) fun H21 => (0 ≤ (((List.getD S19 W20 0 : Nat) : Int) : Int) ∧ (((List.getD S19 W20 0 : Nat) : Int) : Int) < 128) ∧ (Zdg (H21 ++ [.cells Zcm [.str ([Int.toNat (((List.getD S19 W20 0 : Nat) : Int))])] false]) fun H22 => Zey pg Zpp H22 (.slice a5 n5 c5 e5) (.slice (some (H21.length, 0)) 1 1 true) fun V23 H24 => xSl (some V23) fun A25 N26 C27 E28 => R3 A25 N26 C27 E28 r12 H24))) ∧ (List.length S19 ≤ W20 → Zpo Q a5 n5 c5 e5 h)
theorem Zme (Q : QT) (R3 : T3) (a5 : Pt) (n5 c5 : Nat) (e5 : Bool) (r12 : Nat) (h : Zaa) (ht : L3t Q R3 a5 n5 c5 e5 r12 h) : Den pg fn.ntmps (C [1, 1, 0, 1, 0, 0]) [(5, .slice a5 n5 c5 e5), (12, .iter r12)] h (K3 Q R3) :=
  Zay (kp := kp) (cast (by kernel_rfl) ht)
theorem L3ind (Q : QT) (r12 : Nat) {G : Type} (J : G → Pt → Nat → Nat → Bool → Zaa → Prop) (m : G → Nat)
 (hr : ∀ (g : G) (a5 : Pt) (n5 c5 : Nat) (e5 : Bool) (h : Zaa), J g a5 n5 c5 e5 h → ∀ (R3 : T3), (∀ g' (a5 : Pt) (n5 c5 : Nat) (e5 : Bool) (h : Zaa), m g' < m g → J g' a5 n5 c5 e5 h → R3 a5 n5 c5 e5 r12 h) → L3t Q R3 a5 n5 c5 e5 r12 h)
 (g : G) (a5 : Pt) (n5 c5 : Nat) (e5 : Bool) (h : Zaa) (hj : J g a5 n5 c5 e5 h) : L3 Q a5 n5 c5 e5 r12 h := by
  refine Zed.inv2 (fun g => E3 fun a5 n5 c5 e5 r12' h => r12 = r12' ∧ J g a5 n5 c5 e5 h) (fun g => E3 fun a5 n5 c5 e5 r12' h => r12 = r12' ∧ ∃ g', m g' < m g ∧ J g' a5 n5 c5 e5 h) m ?_ ?_ g ⟨rfl, hj⟩
  · intro g env h hi
    obtain ⟨a5, n5, c5, e5, r12', rfl, rfl, hj⟩ := Zes hi
    exact Zme Q _ a5 n5 c5 e5 r12 h (hr g a5 n5 c5 e5 h hj (fun a5 n5 c5 e5 r12' h => r12 = r12' ∧ ∃ g', m g' < m g ∧ J g' a5 n5 c5 e5 h) fun g' a5 n5 c5 e5 h hlt hj => ⟨rfl, g', hlt, hj⟩)
  · intro g env h hi
    obtain ⟨a5, n5, c5, e5, r12', rfl, rfl, g', hlt, hj⟩ := Zes hi
    exact ⟨g', hlt, rfl, hj⟩
theorem A3x0i (Q : QT) (a5 : Pt) (n5 c5 : Nat) (e5 : Bool) (h : Zaa) (ht :
 Q (.slice a5 n5 c5 e5) h) : Zpo Q a5 n5 c5 e5 h :=
  At.mk (cast (by kernel_rfl) ht)
theorem call (a0x0 : Pt) (n0x0 c0x0 : Nat) (e0x0 : Bool) (a0x1 : Pt) (n0x1 c0x1 : Nat) (e0x1 : Bool) (x1 : List Nat) (h : Zaa) (Q : QT) (ht :
 Zdg (h ++ [.cells Zak [.slice a0x0 n0x0 c0x0 e0x0, .slice a0x1 n0x1 c0x1 e0x1] false]) fun H0 => Zdg (H0 ++ [.cells Zcm [] false]) fun H1 => Zcx (Zbp H1 (.ptr (some (h.length, 0))) 2) fun K2 => Zam K2 fun C3 Z4 => xSl (some C3) fun A5 N6 C7 E8 => Zam Z4 fun C9 Z10 => xSl (some C9) fun A11 N12 C13 E14 => Zci Z10 (Zad pg Zls [.agg [.slice A5 N6 C7 E8, .slice A11 N12 C13 E14], .str x1] H1 fun V15 H16 =>
 Zbk (some V15) fun S17 => Zdg (H16 ++ [.iter S17 0]) fun H18 => L3 Q (some (H0.length, 0)) 0 0 true H16.length H18)) : Zad pg Zoe [.agg [.slice a0x0 n0x0 c0x0 e0x0, .slice a0x1 n0x1 c0x1 e0x1], .str x1] h Q :=
  Zad.of_body kp (c := cod fn) (fn := fn) Go.Proofs.Tryz.func92 (by kernel_rfl) (by kernel_rfl) (Nat.le_of_ble_eq_true (by kernel_rfl))
    (cast (by kernel_rfl) ht)
end Zjk
end Go.Sim
