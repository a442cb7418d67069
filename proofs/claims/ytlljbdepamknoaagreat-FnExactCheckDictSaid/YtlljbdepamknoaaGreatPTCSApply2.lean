/- A part of the proof of a statement of this seat: see the text that holds the theorem. No condition. -/
import Derived.Test.YtlljbdepamknoaaGreatNm
set_option linter.unusedVariables false
set_option linter.unusedSimpArgs false
set_option linter.all false
set_option maxRecDepth 100000
set_option linter.unusedVariables false
namespace Go.Sim
open Go Go.RowKit
namespace Zip
noncomputable abbrev fn : Func := Go.Proofs.Tryz.f3
def kp : Zcf := [(2000010, [3, 4, 2, 8]), (2000012, [10, 8, 9, 3]), (2000015, [44])]
noncomputable def C (p : List Nat) : Code := (cod fn).sub p
def KR (Q : QT) : KT := Zey pg fn.results.toList Q
theorem call (a0x0 : Pt) (n0x0 c0x0 : Nat) (e0x0 : Bool) (a0x1 : Pt) (n0x1 c0x1 : Nat) (e0x1 : Bool) (x1x0 x1x1 x2 : List Nat) (h : Zaa) (Q : QT) (ht :
 Zdb (h ++ [.cells Zdy [.slice a0x0 n0x0 c0x0 e0x0, .slice a0x1 n0x1 c0x1 e0x1] false]) fun H0 => Zdb (H0 ++ [.cells Zjg [.str x1x0, .str x1x1] false]) fun H1 => bcase (decide (((((List.length x2 : Nat) : Int)) : Int) > 1048576)) (Q (.bool true) H1) (Zcx (Zbp H1 (.ptr (some (h.length, 0))) 2) fun K2 => Zaj K2 fun C3 Z4 => xSl (some C3) fun A5 N6 C7 E8 => Zaj Z4 fun C9 Z10 => xSl (some C9) fun A11 N12 C13 E14 => Zcg Z10 (Zad pg Zln [.agg [.slice A5 N6 C7 E8, .slice A11 N12 C13 E14], .int .i64 1048576] H1 fun V15 H16 =>
 Zdd .i64 (some V15) fun X17 => bcase (decide ((X17 : Int) < 0)) (Q (.bool true) H16) (Zcx (Zbp H16 (.ptr (some (H0.length, 0))) 2) fun K18 => Zaj K18 fun C19 Z20 => Zbo (some C19) fun S21 => Zaj Z20 fun C22 Z23 => Zbo (some C22) fun S24 => Zcg Z23 (Zad pg Zil [.agg [.str S21, .str S24], .int .i64 X17] H16 fun V25 H26 =>
 Zdd .i64 (some V25) fun X27 => bcase (decide ((X27 : Int) < 0)) (Q (.bool true) H26) (Zcx (Zbp H26 (.ptr (some (h.length, 0))) 2) fun K28 => Zaj K28 fun C29 Z30 => xSl (some C29) fun A31 N32 C33 E34 => Zaj Z30 fun C35 Z36 => xSl (some C35) fun A37 N38 C39 E40 => Zcg Z36 (Zcx (Zbp H26 (.ptr (some (H0.length, 0))) 2) fun K41 => Zaj K41 fun C42 Z43 => Zbo (some C42) fun S44 => Zaj Z43 fun C45 Z46 => Zbo (some C45) fun S47 => Zcg Z46 (Zad pg Zhh [.agg [.slice A31 N32 C33 E34, .slice A37 N38 C39 E40]] H26 fun V48 H49 =>
 Zph V48 fun K50 => Zaj K50 fun C51 Z52 => xSl (some C51) fun A53 N54 C55 E56 => Zaj Z52 fun C57 Z58 => xSl (some C57) fun A59 N60 C61 E62 => Zcg Z58 ((Zbp H49 (.ptr (some (H0.length, 0))) 2 = Zbp H26 (.ptr (some (H0.length, 0))) 2) ∧ Zad pg Zgw [.agg [.str S44, .str S47]] H49 fun V63 H64 =>
 Zph V63 fun K65 => Zaj K65 fun C66 Z67 => Zbo (some C66) fun S68 => Zaj Z67 fun C69 Z70 => Zbo (some C69) fun S71 => Zcg Z70 ((Zbp H64 (.ptr (some (h.length, 0))) 2 = Zbp H49 (.ptr (some (h.length, 0))) 2) ∧ Zad pg Zjs [.agg [.slice A53 N54 C55 E56, .slice A59 N60 C61 E62], .agg [.str S68, .str S71], .str x2] H64 fun V72 H73 =>
 Zbo (some V72) fun S74 => (Zbp H73 (.ptr (some (H0.length, 0))) 2 = Zbp H64 (.ptr (some (H0.length, 0))) 2) ∧ (Zbp H73 (.ptr (some (h.length, 0))) 2 = Zbp H64 (.ptr (some (h.length, 0))) 2) ∧ Zcx (Zbp H73 (.ptr (some (h.length, 0))) 2) fun K75 => Zaj K75 fun C76 Z77 => xSl (some C76) fun A78 N79 C80 E81 => Zaj Z77 fun C82 Z83 => xSl (some C82) fun A84 N85 C86 E87 => Zcg Z83 (Zad pg Zhh [.agg [.slice A78 N79 C80 E81, .slice A84 N85 C86 E87]] H73 fun V88 H89 =>
 Zph V88 fun K90 => Zaj K90 fun C91 Z92 => xSl (some C91) fun A93 N94 C95 E96 => Zaj Z92 fun C97 Z98 => xSl (some C97) fun A99 N100 C101 E102 => Zcg Z98 (Zdb (H89 ++ [.cells Zam [.slice none 0 0 true, .slice none 0 0 true] false]) fun H103 => Zcb (Zbd H103 (.ptr (some (H89.length, 0))) [.slice A93 N94 C95 E96, .slice A99 N100 C101 E102]) fun H104 => Zcx (Zbp H104 (.ptr (some (H89.length, 0))) 2) fun K105 => Zaj K105 fun C106 Z107 => xSl (some C106) fun A108 N109 C110 E111 => Zaj Z107 fun C112 Z113 => xSl (some C112) fun A114 N115 C116 E117 => Zcg Z113 (Zcx (Zbp H104 (.ptr (some (H0.length, 0))) 2) fun K118 => Zaj K118 fun C119 Z120 => Zbo (some C119) fun S121 => Zaj Z120 fun C122 Z123 => Zbo (some C122) fun S124 => Zcg Z123 ((Zbp H104 (.ptr (some (H89.length, 0))) 2 = Zbp H104 (.ptr (some (H89.length, 0))) 2) ∧ Zad pg Zgw [.agg [.str S121, .str S124]] H104 fun V125 H126 =>
 Zph V125 fun K127 => Zaj K127 fun C128 Z129 => Zbo (some C128) fun S130 => Zaj Z129 fun C131 Z132 => Zbo (some C131) fun S133 => Zcg Z132 ((Zbp H126 (.ptr (some (H89.length, 0))) 2 = Zbp H104 (.ptr (some (H89.length, 0))) 2) ∧ Zad pg Zjx [.agg [.slice A108 N109 C110 E111, .slice A114 N115 C116 E117], .agg [.str S130, .str S133], .str x2] H126 fun V134 H135 =>
 Zbo (some V134) fun S136 => bcase (!(decide (S136 = S74))) (Q (.bool false) H135) (Zcx (Zbp H135 (.ptr (some (H89.length, 0))) 2) fun K137 => Zaj K137 fun C138 Z139 => xSl (some C138) fun A140 N141 C142 E143 => Zaj Z139 fun C144 Z145 => xSl (some C144) fun A146 N147 C148 E149 => Zcg Z145 (Zcx (Zbp H135 (.ptr (some (h.length, 0))) 2) fun K150 => Zaj K150 fun C151 Z152 => xSl (some C151) fun A153 N154 C155 E156 => Zaj Z152 fun C157 Z158 => xSl (some C157) fun A159 N160 C161 E162 => Zcg Z158 ((Zbp H135 (.ptr (some (H89.length, 0))) 2 = Zbp H135 (.ptr (some (H89.length, 0))) 2) ∧ Zad pg Zhh [.agg [.slice A153 N154 C155 E156, .slice A159 N160 C161 E162]] H135 fun V163 H164 =>
 Zph V163 fun K165 => Zaj K165 fun C166 Z167 => xSl (some C166) fun A168 N169 C170 E171 => Zaj Z167 fun C172 Z173 => xSl (some C172) fun A174 N175 C176 E177 => Zcg Z173 ((Zbp H164 (.ptr (some (H89.length, 0))) 2 = Zbp H135 (.ptr (some (H89.length, 0))) 2) ∧ Zad pg Zlq [.agg [.slice A140 N141 C142 E143, .slice A146 N147 C148 E149], .agg [.slice A168 N169 C170 E171, .slice A174 N175 C176 E177]] H164 fun V178 H179 =>
 Zbx (some V178) fun B180 => bcase (!B180) (Q (.bool false) H179) (Q (.bool true) H179)))))))))))))))))))) : Zad pg Ziq [.agg [.slice a0x0 n0x0 c0x0 e0x0, .slice a0x1 n0x1 c0x1 e0x1], .agg [.str x1x0, .str x1x1], .str x2] h Q :=
  Zad.of_body kp (c := cod fn) (fn := fn) Go.Proofs.Tryz.func3 (by kernel_rfl) (by kernel_rfl) (Nat.le_of_ble_eq_true (by kernel_rfl))
    (cast (by kernel_rfl) ht)
end Zip
end Go.Sim

set_option maxRecDepth 100000
set_option linter.unusedVariables false
namespace Go.Sim
open Go Go.RowKit
namespace Zmu
noncomputable abbrev fn : Func := Go.Proofs.Tryz.f34
def kp : Zcf := [(4000007, [5, 2])]
noncomputable def C (p : List Nat) : Code := (cod fn).sub p
def KR (Q : QT) : KT := Zey pg fn.results.toList Q
def J7 (Q : QT) (i5 o5 i2 o2 : Nat) (h : Zaa) : Prop := Den pg fn.ntmps (C [1, 1, 1, 1, 1]) [(5, .ptr (some (i5, o5))), (2, .ptr (some (i2, o2)))] h (KR Q)
theorem J7i (Q : QT) (i5 o5 i2 o2 : Nat) (h : Zaa) (ht :
 Zcx (Zbp h (.ptr (some (i5, o5))) 2) fun K51 => Zaj K51 fun C52 Z53 => Zdd .i64 (some C52) fun X54 => Zaj Z53 fun C55 Z56 => xSl (some C55) fun A57 N58 C59 E60 => Zcg Z56 (Zcb (Zbd h (.ptr (some (i2, o2))) [.int .i64 X54, .slice A57 N58 C59 E60]) fun H61 => Zcx (Zbp H61 (.ptr (some (i2, o2))) 2) fun K62 => Zaj K62 fun C63 Z64 => Zdd .i64 (some C63) fun X65 => Zaj Z64 fun C66 Z67 => xSl (some C66) fun A68 N69 C70 E71 => Zcg Z67 (Q (.tup [.agg [.int .i64 X65, .slice A68 N69 C70 E71], .bool true]) H61))) : J7 Q i5 o5 i2 o2 h :=
  Zbc (kp := kp) (cast (by kernel_rfl) ht)
theorem call (x0 : List Nat) (h : Zaa) (Q : QT) (ht :
 Zdb (h ++ [.cells Zat [.int .i64 0, .slice none 0 0 true] false]) fun H0 => bcase (decide (((((List.length x0 : Nat) : Int)) : Int) > 1200)) (Zcb (Zbd H0 (.ptr (some (h.length, 0))) [.int .i64 0, .slice none 0 0 true]) fun H1 => Zcx (Zbp H1 (.ptr (some (h.length, 0))) 2) fun K2 => Zaj K2 fun C3 Z4 => Zdd .i64 (some C3) fun X5 => Zaj Z4 fun C6 Z7 => xSl (some C6) fun A8 N9 C10 E11 => Zcg Z7 (Q (.tup [.agg [.int .i64 X5, .slice A8 N9 C10 E11], .bool false]) H1)) (Zdb (H0 ++ [.cells Zel [.str x0, .int .i64 0, .bool false] false]) fun H12 => Zad pg Zca [.ptr (some (H0.length, 0))] H12 fun V13 H14 =>
 Zph V13 fun K15 => Zaj K15 fun C16 Z17 => Zdd .i64 (some C16) fun X18 => Zaj Z17 fun C19 Z20 => xSl (some C19) fun A21 N22 C23 E24 => Zcg Z20 (Zdb (H14 ++ [.cells Zat [.int .i64 0, .slice none 0 0 true] false]) fun H25 => Zcb (Zbd H25 (.ptr (some (H14.length, 0))) [.int .i64 X18, .slice A21 N22 C23 E24]) fun H26 => Zbx (Zae H26 (.ptr (some (H0.length, 0 + 2)))) fun B27 => bcase B27 (Zcb (Zbd H26 (.ptr (some (h.length, 0))) [.int .i64 0, .slice none 0 0 true]) fun H28 => Zcx (Zbp H28 (.ptr (some (h.length, 0))) 2) fun K29 => Zaj K29 fun C30 Z31 => Zdd .i64 (some C30) fun X32 => Zaj Z31 fun C33 Z34 => xSl (some C33) fun A35 N36 C37 E38 => Zcg Z34 (Q (.tup [.agg [.int .i64 X32, .slice A35 N36 C37 E38], .bool false]) H28)) (Zdd .i64 (Zae H26 (.ptr (some (H0.length, 0 + 1)))) fun X39 => bcase (!((X39 : Int) == (((List.length x0 : Nat) : Int)))) (Zcb (Zbd H26 (.ptr (some (h.length, 0))) [.int .i64 0, .slice none 0 0 true]) fun H40 => Zcx (Zbp H40 (.ptr (some (h.length, 0))) 2) fun K41 => Zaj K41 fun C42 Z43 => Zdd .i64 (some C42) fun X44 => Zaj Z43 fun C45 Z46 => xSl (some C45) fun A47 N48 C49 E50 => Zcg Z46 (Q (.tup [.agg [.int .i64 X44, .slice A47 N48 C49 E50], .bool false]) H40)) (J7 Q H14.length 0 h.length 0 H26))))) : Zad pg Zmz [.str x0] h Q :=
  Zad.of_body kp (c := cod fn) (fn := fn) Go.Proofs.Tryz.func34 (by kernel_rfl) (by kernel_rfl) (Nat.le_of_ble_eq_true (by kernel_rfl))
    (cast (by kernel_rfl) ht)
end Zmu
namespace Zhg
noncomputable abbrev fn : Func := Go.Proofs.Tryz.f36
def kp : Zcf := [(3000014, [6]), (1000014, [3, 5, 55, 56, 57]), (2000016, [12, 57, 56, 55, 3, 5])]
noncomputable def C (p : List Nat) : Code := (cod fn).sub p
def KR (Q : QT) : KT := Zey pg fn.results.toList Q
abbrev T14 := Nat → Nat → Nat → Nat → Pt → Nat → Nat → Bool → Int → Int → Zaa → Prop
def E14 (R14 : T14) (env : Env) (h : Zaa) : Prop := Zcc 3 env fun v env => Zis (some v) fun a => Zbi a fun i3 o3 => Zcc 5 env fun v env => Zis (some v) fun a => Zbi a fun i5 o5 => Zcc 55 env fun v env => xSl (some v) fun a55 n55 c55 e55 => Zcc 56 env fun v env => Zeo .i64 v fun x56 => Zcc 57 env fun v env => Zeo .i64 v fun x57 => Zkg env (R14 i3 o3 i5 o5 a55 n55 c55 e55 x56 x57 h)
theorem Ztt {R14 : T14} {env : Env} {h : Zaa} (hi : E14 R14 env h) : ∃ i3, ∃ o3, ∃ i5, ∃ o5, ∃ a55, ∃ n55, ∃ c55, ∃ e55, ∃ x56, ∃ x57, env = [(3, .ptr (some (i3, o3))), (5, .ptr (some (i5, o5))), (55, .slice a55 n55 c55 e55), (56, .int .i64 x56), (57, .int .i64 x57)] ∧ R14 i3 o3 i5 o5 a55 n55 c55 e55 x56 x57 h := by
  unfold E14 at hi
  have hi0 := hi
  clear hi
  obtain ⟨_, _, rfl, hi1⟩ := Zab hi0
  obtain ⟨a, rfl, hi2⟩ := Zby hi1
  obtain ⟨i3, o3, rfl, hi3⟩ := Zbw hi2
  obtain ⟨_, _, rfl, hi4⟩ := Zab hi3
  obtain ⟨a, rfl, hi5⟩ := Zby hi4
  obtain ⟨i5, o5, rfl, hi6⟩ := Zbw hi5
  obtain ⟨_, _, rfl, hi7⟩ := Zab hi6
  obtain ⟨a55, n55, c55, e55, rfl, hi8⟩ := Zbl hi7
  obtain ⟨_, _, rfl, hi9⟩ := Zab hi8
  obtain ⟨x56, rfl, hi10⟩ := Zaw hi9
  obtain ⟨_, _, rfl, hi11⟩ := Zab hi10
  obtain ⟨x57, rfl, hi12⟩ := Zaw hi11
  obtain ⟨rfl, hi13⟩ := Zbn hi12
  have hi := hi13
  exact ⟨i3, o3, i5, o5, a55, n55, c55, e55, x56, x57, rfl, hi⟩
def K0 (Q : QT) : KT := andThen (fun env' h' => (match kp.find 4000020 with | some ks => Den pg fn.ntmps (C [1, 1, 1, 1, 1, 1, 1, 1]) (env'.keep ks) h' (KR Q) | none => den pg fn.ntmps kp (C [1, 1, 1, 1, 1, 1, 1, 1]) env' h' (KR Q))) (KR Q)
def K1 (Q : QT) : KT := Zcr 1 (K0 Q)
def K2 (Q : QT) : KT := left kp 14 (K1 Q)
def K3 (Q : QT) (R14 : T14) : KT := rnd ((kp.find 1000014).getD []) (E14 R14) (K2 Q)
def L14 (Q : QT) (i3 o3 i5 o5 : Nat) (a55 : Pt) (n55 c55 : Nat) (e55 : Bool) (x56 x57 : Int) (h : Zaa) : Prop := Zeg (Den pg fn.ntmps (C [1, 1, 1, 1, 1, 1, 1, 0, 1, 0, 0])) ((kp.find 1000014).getD []) (K2 Q) [(3, .ptr (some (i3, o3))), (5, .ptr (some (i5, o5))), (55, .slice a55 n55 c55 e55), (56, .int .i64 x56), (57, .int .i64 x57)] h
def Ygt (Q : QT) (h : Zaa) : Prop := At (K1 Q) (.exit 1) [(6, .undef)] h
def L14t (Q : QT) (R14 : T14) (i3 o3 i5 o5 : Nat) (a55 : Pt) (n55 c55 : Nat) (e55 : Bool) (x56 x57 : Int) (h : Zaa) : Prop :=
 bcase (decide ((x57 : Int) < x56)) ((0 ≤ (x57 : Int) ∧ (x57 : Int) < (n55 : Nat)) ∧ (Zbi a55 fun I67 O68 => Zcx (Zbp h (.ptr (some (I67, O68 + (Int.toNat x57) * 2))) 2) fun K69 => Zaj K69 fun C70 Z71 => Zbo (some C70) fun S72 => Zaj Z71 fun C73 Z74 => Zbo (some C73) fun S75 => Zcg Z74 (Zdb (h ++ [.cells Zar [.str [], .str []] false]) fun H76 => Zcb (Zbd H76 (.ptr (some (h.length, 0))) [.str S72, .str S75]) fun H77 => Zcx (Zbp H77 (.ptr (some (i3, o3))) 2) fun K78 => Zaj K78 fun C79 Z80 => xSl (some C79) fun A81 N82 C83 E84 => Zaj Z80 fun C85 Z86 => xSl (some C85) fun A87 N88 C89 E90 => Zcg Z86 (Zcx (Zbp H77 (.ptr (some (h.length, 0))) 2) fun K91 => Zaj K91 fun C92 Z93 => Zbo (some C92) fun S94 => Zaj Z93 fun C95 Z96 => Zbo (some C95) fun S97 => Zcg Z96 (xSl (Zae H77 (.ptr (some (i5, o5 + 1)))) fun A98 N99 C100 E101 => (Zbp H77 (.ptr (some (h.length, 0))) 2 = Zbp H77 (.ptr (some (h.length, 0))) 2) ∧ (Zbp H77 (.ptr (some (i3, o3))) 2 = Zbp H77 (.ptr (some (i3, o3))) 2) ∧ (0 ≤ (x57 : Int) ∧ (x57 : Int) < (N99 : Nat)) ∧ (Zbi A98 fun I102 O103 => Zcx (Zbp H77 (.ptr (some (I102, O103 + (Int.toNat x57) * 2))) 2) fun K104 => Zaj K104 fun C105 Z106 => Zdd .i64 (some C105) fun X107 => Zaj Z106 fun C108 Z109 => xSl (some C108) fun A110 N111 C112 E113 => Zcg Z109 ((Zbp H77 (.ptr (some (h.length, 0))) 2 = Zbp H77 (.ptr (some (h.length, 0))) 2) ∧ (Zbp H77 (.ptr (some (i3, o3))) 2 = Zbp H77 (.ptr (some (i3, o3))) 2) ∧ Zad pg Zjh [.agg [.slice A81 N82 C83 E84, .slice A87 N88 C89 E90], .agg [.str S94, .str S97], .agg [.int .i64 X107, .slice A110 N111 C112 E113]] H77 fun V114 H115 =>
 Zbo (some V114) fun S116 => bcase (!(decide (S116 = [111, 107]))) (Q (.str S116) H115) (R14 i3 o3 i5 o5 a55 n55 c55 e55 x56 (IntKind.wrap .i64 (x57 + 1)) H115)))))))) (Ygt Q h)
theorem Yhv (Q : QT) (R14 : T14) (i3 o3 i5 o5 : Nat) (a55 : Pt) (n55 c55 : Nat) (e55 : Bool) (x56 x57 : Int) (h : Zaa) (ht : L14t Q R14 i3 o3 i5 o5 a55 n55 c55 e55 x56 x57 h) : Den pg fn.ntmps (C [1, 1, 1, 1, 1, 1, 1, 0, 1, 0, 0]) [(3, .ptr (some (i3, o3))), (5, .ptr (some (i5, o5))), (55, .slice a55 n55 c55 e55), (56, .int .i64 x56), (57, .int .i64 x57)] h (K3 Q R14) :=
  Zbc (kp := kp) (cast (by kernel_rfl) ht)
theorem L14ind (Q : QT) (i3 o3 i5 o5 : Nat) (a55 : Pt) (n55 c55 : Nat) (e55 : Bool) (x56 : Int) {G : Type} (J : G → Int → Zaa → Prop) (m : G → Nat)
 (hr : ∀ (g : G) (x57 : Int) (h : Zaa), J g x57 h → ∀ (R14 : T14), (∀ g' (x57 : Int) (h : Zaa), m g' < m g → J g' x57 h → R14 i3 o3 i5 o5 a55 n55 c55 e55 x56 x57 h) → L14t Q R14 i3 o3 i5 o5 a55 n55 c55 e55 x56 x57 h)
 (g : G) (x57 : Int) (h : Zaa) (hj : J g x57 h) : L14 Q i3 o3 i5 o5 a55 n55 c55 e55 x56 x57 h := by
  refine Zeg.inv2 (fun g => E14 fun i3' o3' i5' o5' a55' n55' c55' e55' x56' x57 h => i3 = i3' ∧ o3 = o3' ∧ i5 = i5' ∧ o5 = o5' ∧ a55 = a55' ∧ n55 = n55' ∧ c55 = c55' ∧ e55 = e55' ∧ x56 = x56' ∧ J g x57 h) (fun g => E14 fun i3' o3' i5' o5' a55' n55' c55' e55' x56' x57 h => i3 = i3' ∧ o3 = o3' ∧ i5 = i5' ∧ o5 = o5' ∧ a55 = a55' ∧ n55 = n55' ∧ c55 = c55' ∧ e55 = e55' ∧ x56 = x56' ∧ ∃ g', m g' < m g ∧ J g' x57 h) m ?_ ?_ g ⟨rfl, rfl, rfl, rfl, rfl, rfl, rfl, rfl, rfl, hj⟩
  · intro g env h hi
    obtain ⟨i3', o3', i5', o5', a55', n55', c55', e55', x56', x57, rfl, rfl, rfl, rfl, rfl, rfl, rfl, rfl, rfl, rfl, hj⟩ := Ztt hi
    exact Yhv Q _ i3 o3 i5 o5 a55 n55 c55 e55 x56 x57 h (hr g x57 h hj (fun i3' o3' i5' o5' a55' n55' c55' e55' x56' x57 h => i3 = i3' ∧ o3 = o3' ∧ i5 = i5' ∧ o5 = o5' ∧ a55 = a55' ∧ n55 = n55' ∧ c55 = c55' ∧ e55 = e55' ∧ x56 = x56' ∧ ∃ g', m g' < m g ∧ J g' x57 h) fun g' x57 h hlt hj => ⟨rfl, rfl, rfl, rfl, rfl, rfl, rfl, rfl, rfl, g', hlt, hj⟩)
  · intro g env h hi
    obtain ⟨i3', o3', i5', o5', a55', n55', c55', e55', x56', x57, rfl, rfl, rfl, rfl, rfl, rfl, rfl, rfl, rfl, rfl, g', hlt, hj⟩ := Ztt hi
    exact ⟨g', hlt, rfl, rfl, rfl, rfl, rfl, rfl, rfl, rfl, rfl, hj⟩
theorem A14x1i (Q : QT) (h : Zaa) (ht :
 Q (.str ([111, 107])) h) : Ygt Q h :=
  At.mk (cast (by kernel_rfl) ht)
theorem call (a0x0 : Pt) (n0x0 c0x0 : Nat) (e0x0 : Bool) (a0x1 : Pt) (n0x1 c0x1 : Nat) (e0x1 : Bool) (x1x0 x1x1 : List Nat) (x2x0 : Int) (a2x1 : Pt) (n2x1 c2x1 : Nat) (e2x1 : Bool) (h : Zaa) (Q : QT) (ht :
 Zdb (h ++ [.cells Zam [.slice a0x0 n0x0 c0x0 e0x0, .slice a0x1 n0x1 c0x1 e0x1] false]) fun H0 => Zdb (H0 ++ [.cells Zar [.str x1x0, .str x1x1] false]) fun H1 => Zdb (H1 ++ [.cells Zat [.int .i64 x2x0, .slice a2x1 n2x1 c2x1 e2x1] false]) fun H2 => Zdd .i64 (Zae H2 (.ptr (some (H1.length, 0 + 0)))) fun X3 => xSl (Zae H2 (.ptr (some (h.length, 0 + 1)))) fun A4 N5 C6 E7 => bcase (decide ((X3 : Int) ≥ (((N5 : Nat) : Int)))) (Q (.str ([105, 110, 115, 116, 97, 110, 99, 101])) H2) (xSl (Zae H2 (.ptr (some (h.length, 0 + 1)))) fun A8 N9 C10 E11 => Zdd .i64 (Zae H2 (.ptr (some (H1.length, 0 + 0)))) fun X12 => (0 ≤ (X12 : Int) ∧ (X12 : Int) < (N9 : Nat)) ∧ (Zbi A8 fun I13 O14 => Zcx (Zbp H2 (.ptr (some (I13, O14 + (Int.toNat X12) * 3))) 3) fun K15 => Zaj K15 fun C16 Z17 => Zbo (some C16) fun S18 => Zaj Z17 fun C19 Z20 => Zbo (some C19) fun S21 => Zaj Z20 fun C22 Z23 => xSl (some C22) fun A24 N25 C26 E27 => Zcg Z23 (Zdb (H2 ++ [.cells Zal [.str [], .str [], .slice none 0 0 true] false]) fun H28 => Zcb (Zbd H28 (.ptr (some (H2.length, 0))) [.str S18, .str S21, .slice A24 N25 C26 E27]) fun H29 => Zbo (Zae H29 (.ptr (some (H2.length, 0 + 0 + 0)))) fun S30 => Zbo (Zae H29 (.ptr (some (H0.length, 0 + 0)))) fun S31 => bcase (!(decide (S30 = S31))) (Q (.str ([99, 108, 97, 115, 115])) H29) (Zbo (Zae H29 (.ptr (some (H2.length, 0 + 0 + 1)))) fun S32 => Zbo (Zae H29 (.ptr (some (H0.length, 0 + 1)))) fun S33 => Zad pg Zjc [.str S32, .str S33] H29 fun V34 H35 =>
 Zbx (some V34) fun B36 => bcase (!B36) (Q (.str ([102, 111, 114, 109])) H35) (Zcx (Zbp H35 (.ptr (some (H2.length, 0))) 3) fun K37 => Zaj K37 fun C38 Z39 => Zbo (some C38) fun S40 => Zaj Z39 fun C41 Z42 => Zbo (some C41) fun S43 => Zaj Z42 fun C44 Z45 => xSl (some C44) fun A46 N47 C48 E49 => Zcg Z45 (Zbo (Zae H35 (.ptr (some (H0.length, 0 + 1)))) fun S50 => Zad pg Zlj [.agg [.str S40, .str S43, .slice A46 N47 C48 E49], .str S50] H35 fun V51 H52 =>
 Zsk V51 fun K53 => Zaj K53 fun C54 Z55 => xSl (some C54) fun A56 N57 C58 E59 => Zaj Z55 fun C60 Z61 => Zbx (some C60) fun B62 => Zcg Z61 (bcase (!B62) (Q (.str ([98, 105, 103])) H52) (xSl (Zae H52 (.ptr (some (H1.length, 0 + 1)))) fun A63 N64 C65 E66 => bcase (!((((N57 : Nat) : Int) : Int) == (((N64 : Nat) : Int)))) (Q (.str ([112, 97, 114, 116, 115])) H52) (L14 Q h.length 0 H1.length 0 A56 N57 C58 E59 (((N57 : Nat) : Int)) 0 H52)))))))))) : Zad pg Zjh [.agg [.slice a0x0 n0x0 c0x0 e0x0, .slice a0x1 n0x1 c0x1 e0x1], .agg [.str x1x0, .str x1x1], .agg [.int .i64 x2x0, .slice a2x1 n2x1 c2x1 e2x1]] h Q :=
  Zad.of_body kp (c := cod fn) (fn := fn) Go.Proofs.Tryz.func36 (by kernel_rfl) (by kernel_rfl) (Nat.le_of_ble_eq_true (by kernel_rfl))
    (cast (by kernel_rfl) ht)
end Zhg
namespace Zjy
noncomputable abbrev fn : Func := Go.Proofs.Tryz.f9
def kp : Zcf := [(4000004, [3, 4, 7])]
noncomputable def C (p : List Nat) : Code := (cod fn).sub p
def KR (Q : QT) : KT := Zey pg fn.results.toList Q
def J4 (Q : QT) (i3 o3 i4 o4 i7 o7 : Nat) (h : Zaa) : Prop := Den pg fn.ntmps (C [1, 1, 1]) [(3, .ptr (some (i3, o3))), (4, .ptr (some (i4, o4))), (7, .ptr (some (i7, o7)))] h (KR Q)
theorem J4i (Q : QT) (i3 o3 i4 o4 i7 o7 : Nat) (h : Zaa) (ht :
 Zcx (Zbp h (.ptr (some (i3, o3))) 2) fun K45 => Zaj K45 fun C46 Z47 => xSl (some C46) fun A48 N49 C50 E51 => Zaj Z47 fun C52 Z53 => xSl (some C52) fun A54 N55 C56 E57 => Zcg Z53 (Zcx (Zbp h (.ptr (some (i4, o4))) 2) fun K58 => Zaj K58 fun C59 Z60 => Zbo (some C59) fun S61 => Zaj Z60 fun C62 Z63 => Zbo (some C62) fun S64 => Zcg Z63 (Zcx (Zbp h (.ptr (some (i7, o7))) 2) fun K65 => Zaj K65 fun C66 Z67 => Zdd .i64 (some C66) fun X68 => Zaj Z67 fun C69 Z70 => xSl (some C69) fun A71 N72 C73 E74 => Zcg Z70 (Zad pg Zjh [.agg [.slice A48 N49 C50 E51, .slice A54 N55 C56 E57], .agg [.str S61, .str S64], .agg [.int .i64 X68, .slice A71 N72 C73 E74]] h fun V75 H76 =>
 Zbo (some V75) fun S77 => Q (.str S77) H76)))) : J4 Q i3 o3 i4 o4 i7 o7 h :=
  Zbc (kp := kp) (cast (by kernel_rfl) ht)
theorem call (a0x0 : Pt) (n0x0 c0x0 : Nat) (e0x0 : Bool) (a0x1 : Pt) (n0x1 c0x1 : Nat) (e0x1 : Bool) (x1x0 x1x1 x2 : List Nat) (h : Zaa) (Q : QT) (ht :
 Zdb (h ++ [.cells Zam [.slice a0x0 n0x0 c0x0 e0x0, .slice a0x1 n0x1 c0x1 e0x1] false]) fun H0 => Zdb (H0 ++ [.cells Zar [.str x1x0, .str x1x1] false]) fun H1 => Zad pg Zmz [.str x2] H1 fun V2 H3 =>
 Zsk V2 fun K4 => Zaj K4 fun C5 Z6 => Zph C5 fun K7 => Zaj K7 fun C8 Z9 => Zdd .i64 (some C8) fun X10 => Zaj Z9 fun C11 Z12 => xSl (some C11) fun A13 N14 C15 E16 => Zcg Z12 (Zaj Z6 fun C17 Z18 => Zbx (some C17) fun B19 => Zcg Z18 (Zdb (H3 ++ [.cells Zat [.int .i64 0, .slice none 0 0 true] false]) fun H20 => Zcb (Zbd H20 (.ptr (some (H3.length, 0))) [.int .i64 X10, .slice A13 N14 C15 E16]) fun H21 => bcase (!B19) (Q (.str ([119, 114, 111, 110, 103])) H21) (Zcx (Zbp H21 (.ptr (some (h.length, 0))) 2) fun K22 => Zaj K22 fun C23 Z24 => xSl (some C23) fun A25 N26 C27 E28 => Zaj Z24 fun C29 Z30 => xSl (some C29) fun A31 N32 C33 E34 => Zcg Z30 (Zcx (Zbp H21 (.ptr (some (H0.length, 0))) 2) fun K35 => Zaj K35 fun C36 Z37 => Zbo (some C36) fun S38 => Zaj Z37 fun C39 Z40 => Zbo (some C39) fun S41 => Zcg Z40 (Zad pg Zjt [.agg [.slice A25 N26 C27 E28, .slice A31 N32 C33 E34], .agg [.str S38, .str S41]] H21 fun V42 H43 =>
 Zbx (some V42) fun B44 => bcase (!B44) (Q (.str ([119, 114, 111, 110, 103])) H43) (J4 Q h.length 0 H0.length 0 H3.length 0 H43))))))) : Zad pg Zjs [.agg [.slice a0x0 n0x0 c0x0 e0x0, .slice a0x1 n0x1 c0x1 e0x1], .agg [.str x1x0, .str x1x1], .str x2] h Q :=
  Zad.of_body kp (c := cod fn) (fn := fn) Go.Proofs.Tryz.func9 (by kernel_rfl) (by kernel_rfl) (Nat.le_of_ble_eq_true (by kernel_rfl))
    (cast (by kernel_rfl) ht)
end Zjy
end Go.Sim

set_option maxRecDepth 100000
set_option linter.unusedVariables false
namespace Go.Sim
open Go Go.RowKit
namespace Zbz
noncomputable abbrev fn : Func := Go.Proofs.Tryz.f76
def kp : Zcf := [(2000001, [27, 0, 2]), (4000004, [0, 2]), (2000004, [0, 3, 2]), (2000008, [0, 2, 3]), (3000009, [0, 3, 2]), (1000009, [0, 2, 3]), (4000010, [3, 0, 2]), (2000010, [0, 3, 2]), (4000012, [3, 2])]
noncomputable def C (p : List Nat) : Code := (cod fn).sub p
def KR (Q : QT) : KT := Zey pg fn.results.toList Q
abbrev T9 := Pt → Nat → Nat → Nat → Nat → Zaa → Prop
def E9 (R9 : T9) (env : Env) (h : Zaa) : Prop := Zcc 0 env fun v env => Zis (some v) fun a0 => Zcc 2 env fun v env => Zis (some v) fun a => Zbi a fun i2 o2 => Zcc 3 env fun v env => Zis (some v) fun a => Zbi a fun i3 o3 => Zkg env (R9 a0 i2 o2 i3 o3 h)
theorem Zrt {R9 : T9} {env : Env} {h : Zaa} (hi : E9 R9 env h) : ∃ a0, ∃ i2, ∃ o2, ∃ i3, ∃ o3, env = [(0, .ptr a0), (2, .ptr (some (i2, o2))), (3, .ptr (some (i3, o3)))] ∧ R9 a0 i2 o2 i3 o3 h := by
  unfold E9 at hi
  have hi0 := hi
  clear hi
  obtain ⟨_, _, rfl, hi1⟩ := Zab hi0
  obtain ⟨a0, rfl, hi2⟩ := Zby hi1
  obtain ⟨_, _, rfl, hi3⟩ := Zab hi2
  obtain ⟨a, rfl, hi4⟩ := Zby hi3
  obtain ⟨i2, o2, rfl, hi5⟩ := Zbw hi4
  obtain ⟨_, _, rfl, hi6⟩ := Zab hi5
  obtain ⟨a, rfl, hi7⟩ := Zby hi6
  obtain ⟨i3, o3, rfl, hi8⟩ := Zbw hi7
  obtain ⟨rfl, hi9⟩ := Zbn hi8
  have hi := hi9
  exact ⟨a0, i2, o2, i3, o3, rfl, hi⟩
def K0 (Q : QT) : KT := andThen (fun env' h' => (match kp.find 4000011 with | some ks => Den pg fn.ntmps (C [1, 1, 1, 1, 1, 1, 1]) (env'.keep ks) h' (KR Q) | none => den pg fn.ntmps kp (C [1, 1, 1, 1, 1, 1, 1]) env' h' (KR Q))) (KR Q)
def K1 (Q : QT) : KT := Zcr 0 (K0 Q)
def K2 (Q : QT) : KT := left kp 9 (K1 Q)
def K3 (Q : QT) (R9 : T9) : KT := rnd ((kp.find 1000009).getD []) (E9 R9) (K2 Q)
def J4 (Q : QT) (a0 : Pt) (i2 o2 : Nat) (h : Zaa) : Prop := Den pg fn.ntmps (C [1, 1]) [(0, .ptr a0), (2, .ptr (some (i2, o2)))] h (KR Q)
def L9 (Q : QT) (a0 : Pt) (i2 o2 i3 o3 : Nat) (h : Zaa) : Prop := Zeg (Den pg fn.ntmps (C [1, 1, 1, 1, 1, 1, 0, 0, 0])) ((kp.find 1000009).getD []) (K2 Q) [(0, .ptr a0), (2, .ptr (some (i2, o2))), (3, .ptr (some (i3, o3)))] h
def J10 (Q : QT) (R9 : T9) (i3 o3 : Nat) (a0 : Pt) (i2 o2 : Nat) (h : Zaa) : Prop := Den pg fn.ntmps (C [1, 1, 1, 1, 1, 1, 0, 0, 0, 1]) [(3, .ptr (some (i3, o3))), (0, .ptr a0), (2, .ptr (some (i2, o2)))] h (K3 Q R9)
def A9x0 (Q : QT) (a0 : Pt) (i3 o3 i2 o2 : Nat) (h : Zaa) : Prop := At (K1 Q) (.exit 0) [(0, .ptr a0), (3, .ptr (some (i3, o3))), (2, .ptr (some (i2, o2)))] h
def J12 (Q : QT) (i3 o3 i2 o2 : Nat) (h : Zaa) : Prop := Den pg fn.ntmps (C [1, 1, 1, 1, 1, 1, 1, 1]) [(3, .ptr (some (i3, o3))), (2, .ptr (some (i2, o2)))] h (KR Q)
theorem J4i (Q : QT) (a0 : Pt) (i2 o2 : Nat) (h : Zaa) (ht :
 Zbi a0 fun I45 O46 => Zbi a0 fun I47 O48 => Zbo (Zae h (.ptr (some (I45, O46 + 0)))) fun S49 => Zdd .i64 (Zae h (.ptr (some (I47, O48 + 1)))) fun X50 => Zgd S49 X50 fun B51 => (Zdb (h ++ [.cells Zat [] false]) fun H52 => (Zae H52 (.ptr (some (I47, O48 + 1))) = Zae h (.ptr (some (I47, O48 + 1)))) ∧ (Zae H52 (.ptr (some (I45, O46 + 0))) = Zae h (.ptr (some (I45, O46 + 0)))) ∧ Zdb (H52 ++ [.cells Zat [.int .i64 0, .slice none 0 0 true] false]) fun H53 => (Zae H53 (.ptr (some (I47, O48 + 1))) = Zae H52 (.ptr (some (I47, O48 + 1)))) ∧ (Zae H53 (.ptr (some (I45, O46 + 0))) = Zae H52 (.ptr (some (I45, O46 + 0)))) ∧ Zcb (Zbd H53 (.ptr (some (H52.length, 0))) [.int .i64 (IntKind.wrap .i64 ((IntKind.wrap .i64 (((B51 : Nat) : Int))) - 48)), .slice (some (h.length, 0)) 0 0 true]) fun H54 => Zbi a0 fun I55 O56 => Zdd .i64 (Zae H54 (.ptr (some (I55, O56 + 1)))) fun X57 => Zbi a0 fun I58 O59 => Zcb (Zbd H54 (.ptr (some (I58, O59 + 1))) [.int .i64 (IntKind.wrap .i64 (X57 + 1))]) fun H60 => Zad pg Zdo [.ptr a0, .int .u8 40] H60 fun V61 H62 =>
 Zbx (some V61) fun B63 => bcase (!B63) (Zcx (Zbp H62 (.ptr (some (H52.length, 0))) 2) fun K64 => Zaj K64 fun C65 Z66 => Zdd .i64 (some C65) fun X67 => Zaj Z66 fun C68 Z69 => xSl (some C68) fun A70 N71 C72 E73 => Zcg Z69 (Zcb (Zbd H62 (.ptr (some (i2, o2))) [.int .i64 X67, .slice A70 N71 C72 E73]) fun H74 => Zcx (Zbp H74 (.ptr (some (i2, o2))) 2) fun K75 => Zaj K75 fun C76 Z77 => Zdd .i64 (some C76) fun X78 => Zaj Z77 fun C79 Z80 => xSl (some C79) fun A81 N82 C83 E84 => Zcg Z80 (Q (.agg [.int .i64 X78, .slice A81 N82 C83 E84]) H74))) (xSl (Zae H62 (.ptr (some (H52.length, 0 + 1)))) fun A85 N86 C87 E88 => Zad pg Zca [.ptr a0] H62 fun V89 H90 =>
 Zph V89 fun K91 => Zaj K91 fun C92 Z93 => Zdd .i64 (some C92) fun X94 => Zaj Z93 fun C95 Z96 => xSl (some C95) fun A97 N98 C99 E100 => Zcg Z96 ((Zae H90 (.ptr (some (H52.length, 0 + 1))) = Zae H62 (.ptr (some (H52.length, 0 + 1)))) ∧ Zdb (H90 ++ [.cells Zat [.int .i64 X94, .slice A97 N98 C99 E100] false]) fun H101 => (Zae H101 (.ptr (some (H52.length, 0 + 1))) = Zae H90 (.ptr (some (H52.length, 0 + 1)))) ∧ Zdn pg Zfb H101 (.slice A85 N86 C87 E88) (.slice (some (H90.length, 0)) 1 1 true) fun V102 H103 => xSl (some V102) fun A104 N105 C106 E107 => Zcb (Zbd H103 (.ptr (some (H52.length, 0 + 1))) [.slice A104 N105 C106 E107]) fun H108 => L9 Q a0 i2 o2 H52.length 0 H108))) ∧ (Zdb (h ++ [.cells Zat [.int .i64 0, .slice none 0 0 true] false]) fun H109 => (Zae H109 (.ptr (some (I47, O48 + 1))) = Zae h (.ptr (some (I47, O48 + 1)))) ∧ (Zae H109 (.ptr (some (I45, O46 + 0))) = Zae h (.ptr (some (I45, O46 + 0)))) ∧ Zdb (H109 ++ [.cells Zat [] false]) fun H110 => (Zae H110 (.ptr (some (I47, O48 + 1))) = Zae H109 (.ptr (some (I47, O48 + 1)))) ∧ (Zae H110 (.ptr (some (I45, O46 + 0))) = Zae H109 (.ptr (some (I45, O46 + 0)))) ∧ Zcb (Zbd H110 (.ptr (some (h.length, 0))) [.int .i64 (IntKind.wrap .i64 ((IntKind.wrap .i64 (((B51 : Nat) : Int))) - 48)), .slice (some (H109.length, 0)) 0 0 true]) fun H111 => Zbi a0 fun I112 O113 => Zdd .i64 (Zae H111 (.ptr (some (I112, O113 + 1)))) fun X114 => Zbi a0 fun I115 O116 => Zcb (Zbd H111 (.ptr (some (I115, O116 + 1))) [.int .i64 (IntKind.wrap .i64 (X114 + 1))]) fun H117 => Zad pg Zdo [.ptr a0, .int .u8 40] H117 fun V118 H119 =>
 Zbx (some V118) fun B120 => bcase (!B120) (Zcx (Zbp H119 (.ptr (some (h.length, 0))) 2) fun K121 => Zaj K121 fun C122 Z123 => Zdd .i64 (some C122) fun X124 => Zaj Z123 fun C125 Z126 => xSl (some C125) fun A127 N128 C129 E130 => Zcg Z126 (Zcb (Zbd H119 (.ptr (some (i2, o2))) [.int .i64 X124, .slice A127 N128 C129 E130]) fun H131 => Zcx (Zbp H131 (.ptr (some (i2, o2))) 2) fun K132 => Zaj K132 fun C133 Z134 => Zdd .i64 (some C133) fun X135 => Zaj Z134 fun C136 Z137 => xSl (some C136) fun A138 N139 C140 E141 => Zcg Z137 (Q (.agg [.int .i64 X135, .slice A138 N139 C140 E141]) H131))) (xSl (Zae H119 (.ptr (some (h.length, 0 + 1)))) fun A142 N143 C144 E145 => Zad pg Zca [.ptr a0] H119 fun V146 H147 =>
 Zph V146 fun K148 => Zaj K148 fun C149 Z150 => Zdd .i64 (some C149) fun X151 => Zaj Z150 fun C152 Z153 => xSl (some C152) fun A154 N155 C156 E157 => Zcg Z153 ((Zae H147 (.ptr (some (h.length, 0 + 1))) = Zae H119 (.ptr (some (h.length, 0 + 1)))) ∧ Zdb (H147 ++ [.cells Zat [.int .i64 X151, .slice A154 N155 C156 E157] false]) fun H158 => (Zae H158 (.ptr (some (h.length, 0 + 1))) = Zae H147 (.ptr (some (h.length, 0 + 1)))) ∧ Zdn pg Zfb H158 (.slice A142 N143 C144 E145) (.slice (some (H147.length, 0)) 1 1 true) fun V159 H160 => xSl (some V159) fun A161 N162 C163 E164 => Zcb (Zbd H160 (.ptr (some (h.length, 0 + 1))) [.slice A161 N162 C163 E164]) fun H165 => L9 Q a0 i2 o2 h.length 0 H165)))) : J4 Q a0 i2 o2 h :=
  Zbc (kp := kp) (cast (by kernel_rfl) ht)
def L9t (Q : QT) (R9 : T9) (a0 : Pt) (i2 o2 i3 o3 : Nat) (h : Zaa) : Prop :=
 Zbi a0 fun I166 O167 => Zbx (Zae h (.ptr (some (I166, O167 + 2)))) fun B168 => bcase (!B168) (Zad pg Zdo [.ptr a0, .int .u8 44] h fun V169 H170 =>
 Zbx (some V169) fun B171 => bcase B171 (J10 Q R9 i3 o3 a0 i2 o2 H170) (A9x0 Q a0 i3 o3 i2 o2 H170)) (A9x0 Q a0 i3 o3 i2 o2 h)
theorem Yhn (Q : QT) (R9 : T9) (a0 : Pt) (i2 o2 i3 o3 : Nat) (h : Zaa) (ht : L9t Q R9 a0 i2 o2 i3 o3 h) : Den pg fn.ntmps (C [1, 1, 1, 1, 1, 1, 0, 0, 0]) [(0, .ptr a0), (2, .ptr (some (i2, o2))), (3, .ptr (some (i3, o3)))] h (K3 Q R9) :=
  Zbc (kp := kp) (cast (by kernel_rfl) ht)
theorem L9ind (Q : QT) (a0 : Pt) (i2 o2 i3 o3 : Nat) {G : Type} (J : G → Zaa → Prop) (m : G → Nat)
 (hr : ∀ (g : G) (h : Zaa), J g  h → ∀ (R9 : T9), (∀ g' (h : Zaa), m g' < m g → J g'  h → R9 a0 i2 o2 i3 o3 h) → L9t Q R9 a0 i2 o2 i3 o3 h)
 (g : G) (h : Zaa) (hj : J g  h) : L9 Q a0 i2 o2 i3 o3 h := by
  refine Zeg.inv2 (fun g => E9 fun a0' i2' o2' i3' o3' h => a0 = a0' ∧ i2 = i2' ∧ o2 = o2' ∧ i3 = i3' ∧ o3 = o3' ∧ J g  h) (fun g => E9 fun a0' i2' o2' i3' o3' h => a0 = a0' ∧ i2 = i2' ∧ o2 = o2' ∧ i3 = i3' ∧ o3 = o3' ∧ ∃ g', m g' < m g ∧ J g'  h) m ?_ ?_ g ⟨rfl, rfl, rfl, rfl, rfl, hj⟩
  · intro g env h hi
    obtain ⟨a0', i2', o2', i3', o3', rfl, rfl, rfl, rfl, rfl, rfl, hj⟩ := Zrt hi
    exact Yhn Q _ a0 i2 o2 i3 o3 h (hr g  h hj (fun a0' i2' o2' i3' o3' h => a0 = a0' ∧ i2 = i2' ∧ o2 = o2' ∧ i3 = i3' ∧ o3 = o3' ∧ ∃ g', m g' < m g ∧ J g'  h) fun g'  h hlt hj => ⟨rfl, rfl, rfl, rfl, rfl, g', hlt, hj⟩)
  · intro g env h hi
    obtain ⟨a0', i2', o2', i3', o3', rfl, rfl, rfl, rfl, rfl, rfl, g', hlt, hj⟩ := Zrt hi
    exact ⟨g', hlt, rfl, rfl, rfl, rfl, rfl, hj⟩
theorem J10i (Q : QT) (R9 : T9) (i3 o3 : Nat) (a0 : Pt) (i2 o2 : Nat) (h : Zaa) (ht :
 xSl (Zae h (.ptr (some (i3, o3 + 1)))) fun A172 N173 C174 E175 => Zad pg Zca [.ptr a0] h fun V176 H177 =>
 Zph V176 fun K178 => Zaj K178 fun C179 Z180 => Zdd .i64 (some C179) fun X181 => Zaj Z180 fun C182 Z183 => xSl (some C182) fun A184 N185 C186 E187 => Zcg Z183 ((Zae H177 (.ptr (some (i3, o3 + 1))) = Zae h (.ptr (some (i3, o3 + 1)))) ∧ Zdb (H177 ++ [.cells Zat [.int .i64 X181, .slice A184 N185 C186 E187] false]) fun H188 => (Zae H188 (.ptr (some (i3, o3 + 1))) = Zae H177 (.ptr (some (i3, o3 + 1)))) ∧ Zdn pg Zfb H188 (.slice A172 N173 C174 E175) (.slice (some (H177.length, 0)) 1 1 true) fun V189 H190 => xSl (some V189) fun A191 N192 C193 E194 => Zcb (Zbd H190 (.ptr (some (i3, o3 + 1))) [.slice A191 N192 C193 E194]) fun H195 => R9 a0 i2 o2 i3 o3 H195)) : J10 Q R9 i3 o3 a0 i2 o2 h :=
  Zbc (kp := kp) (cast (by kernel_rfl) ht)
theorem A9x0i (Q : QT) (a0 : Pt) (i3 o3 i2 o2 : Nat) (h : Zaa) (ht :
 Zbi a0 fun I196 O197 => Zbx (Zae h (.ptr (some (I196, O197 + 2)))) fun B198 => bcase B198 (Zbi a0 fun I199 O200 => Zcb (Zbd h (.ptr (some (I199, O200 + 2))) [.bool true]) fun H201 => J12 Q i3 o3 i2 o2 H201) (Zad pg Zdo [.ptr a0, .int .u8 41] h fun V202 H203 =>
 Zbx (some V202) fun B204 => bcase (!B204) (Zbi a0 fun I205 O206 => Zcb (Zbd H203 (.ptr (some (I205, O206 + 2))) [.bool true]) fun H207 => J12 Q i3 o3 i2 o2 H207) (xSl (Zae H203 (.ptr (some (i3, o3 + 1)))) fun A208 N209 C210 E211 => Zbi a0 fun I212 O213 => Zcb (Zbd H203 (.ptr (some (I212, O213 + 2))) [.bool (decide (((((N209 : Nat) : Int)) : Int) > 3))]) fun H214 => J12 Q i3 o3 i2 o2 H214))) : A9x0 Q a0 i3 o3 i2 o2 h :=
  At.mk (cast (by kernel_rfl) ht)
theorem J12i (Q : QT) (i3 o3 i2 o2 : Nat) (h : Zaa) (ht :
 Zcx (Zbp h (.ptr (some (i3, o3))) 2) fun K215 => Zaj K215 fun C216 Z217 => Zdd .i64 (some C216) fun X218 => Zaj Z217 fun C219 Z220 => xSl (some C219) fun A221 N222 C223 E224 => Zcg Z220 (Zcb (Zbd h (.ptr (some (i2, o2))) [.int .i64 X218, .slice A221 N222 C223 E224]) fun H225 => Zcx (Zbp H225 (.ptr (some (i2, o2))) 2) fun K226 => Zaj K226 fun C227 Z228 => Zdd .i64 (some C227) fun X229 => Zaj Z228 fun C230 Z231 => xSl (some C230) fun A232 N233 C234 E235 => Zcg Z231 (Q (.agg [.int .i64 X229, .slice A232 N233 C234 E235]) H225))) : J12 Q i3 o3 i2 o2 h :=
  Zbc (kp := kp) (cast (by kernel_rfl) ht)
theorem call (a0 : Pt) (h : Zaa) (Q : QT) (ht :
 Zdb (h ++ [.cells Zat [.int .i64 0, .slice none 0 0 true] false]) fun H0 => Zbi a0 fun I1 O2 => Zbi a0 fun I3 O4 => Zdd .i64 (Zae H0 (.ptr (some (I1, O2 + 1)))) fun X5 => Zbo (Zae H0 (.ptr (some (I3, O4 + 0)))) fun S6 => (Zae H0 (.ptr (some (I1, O2 + 1))) = Zae H0 (.ptr (some (I1, O2 + 1)))) ∧ bcase (decide ((X5 : Int) ≥ (((List.length S6 : Nat) : Int)))) ((Zae H0 (.tup []) = Zae H0 (.tup [])) ∧ (Zae H0 (.ptr (some (I1, O2 + 1))) = Zae H0 (.ptr (some (I1, O2 + 1)))) ∧ (Zae H0 (.tup []) = Zae H0 (.tup [])) ∧ (Zae H0 (.ptr (some (I1, O2 + 1))) = Zae H0 (.ptr (some (I1, O2 + 1)))) ∧ Zbi a0 fun I7 O8 => Zcb (Zbd H0 (.ptr (some (I7, O8 + 2))) [.bool true]) fun H9 => Zcb (Zbd H9 (.ptr (some (h.length, 0))) [.int .i64 0, .slice none 0 0 true]) fun H10 => Zcx (Zbp H10 (.ptr (some (h.length, 0))) 2) fun K11 => Zaj K11 fun C12 Z13 => Zdd .i64 (some C12) fun X14 => Zaj Z13 fun C15 Z16 => xSl (some C15) fun A17 N18 C19 E20 => Zcg Z16 (Q (.agg [.int .i64 X14, .slice A17 N18 C19 E20]) H10)) (Zbi a0 fun I21 O22 => Zbi a0 fun I23 O24 => Zbo (Zae H0 (.ptr (some (I21, O22 + 0)))) fun S25 => Zdd .i64 (Zae H0 (.ptr (some (I23, O24 + 1)))) fun X26 => (Zae H0 (.ptr (some (I21, O22 + 0))) = Zae H0 (.ptr (some (I21, O22 + 0)))) ∧ (Zae H0 (.ptr (some (I1, O2 + 1))) = Zae H0 (.ptr (some (I1, O2 + 1)))) ∧ Zgd S25 X26 fun B27 => Zad pg Zkr [.int .i64 (IntKind.wrap .i64 (((B27 : Nat) : Int))), .int .i64 48, .int .i64 57] H0 fun V28 H29 =>
 Zbx (some V28) fun B30 => (Zae H29 (.ptr (some (I21, O22 + 0))) = Zae H0 (.ptr (some (I21, O22 + 0)))) ∧ (Zae H29 (.ptr (some (I1, O2 + 1))) = Zae H0 (.ptr (some (I1, O2 + 1)))) ∧ bcase (!B30) (Zbi a0 fun I31 O32 => Zcb (Zbd H29 (.ptr (some (I31, O32 + 2))) [.bool true]) fun H33 => Zcb (Zbd H33 (.ptr (some (h.length, 0))) [.int .i64 0, .slice none 0 0 true]) fun H34 => Zcx (Zbp H34 (.ptr (some (h.length, 0))) 2) fun K35 => Zaj K35 fun C36 Z37 => Zdd .i64 (some C36) fun X38 => Zaj Z37 fun C39 Z40 => xSl (some C39) fun A41 N42 C43 E44 => Zcg Z40 (Q (.agg [.int .i64 X38, .slice A41 N42 C43 E44]) H34)) (J4 Q a0 h.length 0 H29))) : Zad pg Zca [.ptr a0] h Q :=
  Zad.of_body kp (c := cod fn) (fn := fn) Go.Proofs.Tryz.func76 (by kernel_rfl) (by kernel_rfl) (Nat.le_of_ble_eq_true (by kernel_rfl))
    (cast (by kernel_rfl) ht)
end Zbz
end Go.Sim

set_option maxRecDepth 100000
set_option linter.unusedVariables false
namespace Go.Sim
open Go Go.RowKit
namespace Zgb
noncomputable abbrev fn : Func := Go.Proofs.Tryz.f120
def kp : Zcf := [(2000001, [27, 0]), (4000004, [])]
noncomputable def C (p : List Nat) : Code := (cod fn).sub p
def KR (Q : QT) : KT := Zey pg fn.results.toList Q
def J4 (Q : QT) (h : Zaa) : Prop := Den pg fn.ntmps (C [1, 1]) [] h (KR Q)
theorem J4i (Q : QT) (h : Zaa) (ht :
 Q (.bool false) h) : J4 Q h :=
  Zbc (kp := kp) (cast (by kernel_rfl) ht)
theorem call (a0 : Pt) (x1 : Int) (h : Zaa) (Q : QT) (ht :
 Zbi a0 fun I0 O1 => Zbi a0 fun I2 O3 => Zdd .i64 (Zae h (.ptr (some (I0, O1 + 1)))) fun X4 => Zbo (Zae h (.ptr (some (I2, O3 + 0)))) fun S5 => (Zae h (.ptr (some (I0, O1 + 1))) = Zae h (.ptr (some (I0, O1 + 1)))) ∧ bcase (decide ((X4 : Int) < (((List.length S5 : Nat) : Int)))) (Zbi a0 fun I6 O7 => Zbi a0 fun I8 O9 => Zbo (Zae h (.ptr (some (I6, O7 + 0)))) fun S10 => Zdd .i64 (Zae h (.ptr (some (I8, O9 + 1)))) fun X11 => (Zae h (.ptr (some (I6, O7 + 0))) = Zae h (.ptr (some (I6, O7 + 0)))) ∧ (Zae h (.ptr (some (I0, O1 + 1))) = Zae h (.ptr (some (I0, O1 + 1)))) ∧ Zgd S10 X11 fun B12 => bcase ((((B12 : Nat) : Int) : Int) == x1) (Zbi a0 fun I13 O14 => Zdd .i64 (Zae h (.ptr (some (I13, O14 + 1)))) fun X15 => Zbi a0 fun I16 O17 => Zcb (Zbd h (.ptr (some (I16, O17 + 1))) [.int .i64 (IntKind.wrap .i64 (X15 + 1))]) fun H18 => Q (.bool true) H18) (J4 Q h)) ((Zae h (.tup []) = Zae h (.tup [])) ∧ (Zae h (.ptr (some (I0, O1 + 1))) = Zae h (.ptr (some (I0, O1 + 1)))) ∧ J4 Q h)) : Zad pg Zdo [.ptr a0, .int .u8 x1] h Q :=
  Zad.of_body kp (c := cod fn) (fn := fn) Go.Proofs.Tryz.func120 (by kernel_rfl) (by kernel_rfl) (Nat.le_of_ble_eq_true (by kernel_rfl))
    (cast (by kernel_rfl) ht)
end Zgb
end Go.Sim

set_option maxRecDepth 100000
set_option linter.unusedVariables false
namespace Go.Sim
open Go Go.RowKit
namespace Zqo
noncomputable abbrev fn : Func := Go.Proofs.Tryz.f39
def kp : Zcf := []
noncomputable def C (p : List Nat) : Code := (cod fn).sub p
def KR (Q : QT) : KT := Zey pg fn.results.toList Q
theorem call (x0 : List Nat) (h : Zaa) (Q : QT) (ht :
 bcase (decide (((((List.length x0 : Nat) : Int)) : Int) > 1200)) (Q (.ptr none) h) (Zad pg Zie [.str x0] h fun V0 H1 =>
 Zsk V0 fun K2 => Zaj K2 fun C3 Z4 => Zis (some C3) fun A5 => Zaj Z4 fun C6 Z7 => Zbo (some C6) fun S8 => Zcg Z7 (bcase (!(decide (S8 = []))) (Q (.ptr none) H1) (Q (.ptr A5) H1)))) : Zad pg Zms [.str x0] h Q :=
  Zad.of_body kp (c := cod fn) (fn := fn) Go.Proofs.Tryz.func39 (by kernel_rfl) (by kernel_rfl) (Nat.le_of_ble_eq_true (by kernel_rfl))
    (cast (by kernel_rfl) ht)
end Zqo
namespace Zfc
noncomputable abbrev fn : Func := Go.Proofs.Tryz.f41
def kp : Zcf := [(2000001, [20, 4, 0, 5]), (2000003, [7, 5, 0, 4]), (3000014, [6]), (1000014, [0, 4, 61, 62, 63]), (2000016, [12, 63, 62, 61, 0, 4])]
noncomputable def C (p : List Nat) : Code := (cod fn).sub p
def KR (Q : QT) : KT := Zey pg fn.results.toList Q
abbrev T14 := Pt → Nat → Nat → Pt → Nat → Nat → Bool → Int → Int → Zaa → Prop
def E14 (R14 : T14) (env : Env) (h : Zaa) : Prop := Zcc 0 env fun v env => Zis (some v) fun a0 => Zcc 4 env fun v env => Zis (some v) fun a => Zbi a fun i4 o4 => Zcc 61 env fun v env => xSl (some v) fun a61 n61 c61 e61 => Zcc 62 env fun v env => Zeo .i64 v fun x62 => Zcc 63 env fun v env => Zeo .i64 v fun x63 => Zkg env (R14 a0 i4 o4 a61 n61 c61 e61 x62 x63 h)
theorem Ztt {R14 : T14} {env : Env} {h : Zaa} (hi : E14 R14 env h) : ∃ a0, ∃ i4, ∃ o4, ∃ a61, ∃ n61, ∃ c61, ∃ e61, ∃ x62, ∃ x63, env = [(0, .ptr a0), (4, .ptr (some (i4, o4))), (61, .slice a61 n61 c61 e61), (62, .int .i64 x62), (63, .int .i64 x63)] ∧ R14 a0 i4 o4 a61 n61 c61 e61 x62 x63 h := by
  unfold E14 at hi
  have hi0 := hi
  clear hi
  obtain ⟨_, _, rfl, hi1⟩ := Zab hi0
  obtain ⟨a0, rfl, hi2⟩ := Zby hi1
  obtain ⟨_, _, rfl, hi3⟩ := Zab hi2
  obtain ⟨a, rfl, hi4⟩ := Zby hi3
  obtain ⟨i4, o4, rfl, hi5⟩ := Zbw hi4
  obtain ⟨_, _, rfl, hi6⟩ := Zab hi5
  obtain ⟨a61, n61, c61, e61, rfl, hi7⟩ := Zbl hi6
  obtain ⟨_, _, rfl, hi8⟩ := Zab hi7
  obtain ⟨x62, rfl, hi9⟩ := Zaw hi8
  obtain ⟨_, _, rfl, hi10⟩ := Zab hi9
  obtain ⟨x63, rfl, hi11⟩ := Zaw hi10
  obtain ⟨rfl, hi12⟩ := Zbn hi11
  have hi := hi12
  exact ⟨a0, i4, o4, a61, n61, c61, e61, x62, x63, rfl, hi⟩
def K0 (Q : QT) : KT := andThen (fun env' h' => (match kp.find 4000020 with | some ks => Den pg fn.ntmps (C [1, 1, 1, 1, 1, 1, 1, 1]) (env'.keep ks) h' (KR Q) | none => den pg fn.ntmps kp (C [1, 1, 1, 1, 1, 1, 1, 1]) env' h' (KR Q))) (KR Q)
def K1 (Q : QT) : KT := Zcr 1 (K0 Q)
def K2 (Q : QT) : KT := left kp 14 (K1 Q)
def K3 (Q : QT) (R14 : T14) : KT := rnd ((kp.find 1000014).getD []) (E14 R14) (K2 Q)
def L14 (Q : QT) (a0 : Pt) (i4 o4 : Nat) (a61 : Pt) (n61 c61 : Nat) (e61 : Bool) (x62 x63 : Int) (h : Zaa) : Prop := Zeg (Den pg fn.ntmps (C [1, 1, 1, 1, 1, 1, 1, 0, 1, 0, 0])) ((kp.find 1000014).getD []) (K2 Q) [(0, .ptr a0), (4, .ptr (some (i4, o4))), (61, .slice a61 n61 c61 e61), (62, .int .i64 x62), (63, .int .i64 x63)] h
def Ygt (Q : QT) (h : Zaa) : Prop := At (K1 Q) (.exit 1) [(6, .undef)] h
def L14t (Q : QT) (R14 : T14) (a0 : Pt) (i4 o4 : Nat) (a61 : Pt) (n61 c61 : Nat) (e61 : Bool) (x62 x63 : Int) (h : Zaa) : Prop :=
 bcase (decide ((x63 : Int) < x62)) ((0 ≤ (x63 : Int) ∧ (x63 : Int) < (n61 : Nat)) ∧ (Zbi a61 fun I72 O73 => Zcx (Zbp h (.ptr (some (I72, O73 + (Int.toNat x63) * 2))) 2) fun K74 => Zaj K74 fun C75 Z76 => Zbo (some C75) fun S77 => Zaj Z76 fun C78 Z79 => Zbo (some C78) fun S80 => Zcg Z79 (Zdb (h ++ [.cells Zar [.str [], .str []] false]) fun H81 => Zcb (Zbd H81 (.ptr (some (h.length, 0))) [.str S77, .str S80]) fun H82 => Zbi a0 fun I83 O84 => xSl (Zae H82 (.ptr (some (I83, O84 + 1)))) fun A85 N86 C87 E88 => (0 ≤ (x63 : Int) ∧ (x63 : Int) < (N86 : Nat)) ∧ (Zbi A85 fun I89 O90 => Zis (Zae H82 (.ptr (some (I89, O90 + (Int.toNat x63) * 1)))) fun A91 => Zcx (Zbp H82 (.ptr (some (i4, o4))) 2) fun K92 => Zaj K92 fun C93 Z94 => xSl (some C93) fun A95 N96 C97 E98 => Zaj Z94 fun C99 Z100 => xSl (some C99) fun A101 N102 C103 E104 => Zcg Z100 (Zcx (Zbp H82 (.ptr (some (h.length, 0))) 2) fun K105 => Zaj K105 fun C106 Z107 => Zbo (some C106) fun S108 => Zaj Z107 fun C109 Z110 => Zbo (some C109) fun S111 => Zcg Z110 ((Zbp H82 (.ptr (some (i4, o4))) 2 = Zbp H82 (.ptr (some (i4, o4))) 2) ∧ (Zae H82 (.ptr (some (I89, O90 + (Int.toNat x63) * 1))) = Zae H82 (.ptr (some (I89, O90 + (Int.toNat x63) * 1)))) ∧ (Zae H82 (.ptr (some (I83, O84 + 1))) = Zae H82 (.ptr (some (I83, O84 + 1)))) ∧ Zad pg Zgv [.ptr A91, .agg [.slice A95 N96 C97 E98, .slice A101 N102 C103 E104], .agg [.str S108, .str S111]] H82 fun V112 H113 =>
 Zbo (some V112) fun S114 => (Zae H113 (.ptr (some (I83, O84 + 1))) = Zae H82 (.ptr (some (I83, O84 + 1)))) ∧ bcase (!(decide (S114 = [111, 107]))) (Q (.str S114) H113) (R14 a0 i4 o4 a61 n61 c61 e61 x62 (IntKind.wrap .i64 (x63 + 1)) H113))))))) (Ygt Q h)
theorem Yhv (Q : QT) (R14 : T14) (a0 : Pt) (i4 o4 : Nat) (a61 : Pt) (n61 c61 : Nat) (e61 : Bool) (x62 x63 : Int) (h : Zaa) (ht : L14t Q R14 a0 i4 o4 a61 n61 c61 e61 x62 x63 h) : Den pg fn.ntmps (C [1, 1, 1, 1, 1, 1, 1, 0, 1, 0, 0]) [(0, .ptr a0), (4, .ptr (some (i4, o4))), (61, .slice a61 n61 c61 e61), (62, .int .i64 x62), (63, .int .i64 x63)] h (K3 Q R14) :=
  Zbc (kp := kp) (cast (by kernel_rfl) ht)
theorem L14ind (Q : QT) (a0 : Pt) (i4 o4 : Nat) (a61 : Pt) (n61 c61 : Nat) (e61 : Bool) (x62 : Int) {G : Type} (J : G → Int → Zaa → Prop) (m : G → Nat)
 (hr : ∀ (g : G) (x63 : Int) (h : Zaa), J g x63 h → ∀ (R14 : T14), (∀ g' (x63 : Int) (h : Zaa), m g' < m g → J g' x63 h → R14 a0 i4 o4 a61 n61 c61 e61 x62 x63 h) → L14t Q R14 a0 i4 o4 a61 n61 c61 e61 x62 x63 h)
 (g : G) (x63 : Int) (h : Zaa) (hj : J g x63 h) : L14 Q a0 i4 o4 a61 n61 c61 e61 x62 x63 h := by
  refine Zeg.inv2 (fun g => E14 fun a0' i4' o4' a61' n61' c61' e61' x62' x63 h => a0 = a0' ∧ i4 = i4' ∧ o4 = o4' ∧ a61 = a61' ∧ n61 = n61' ∧ c61 = c61' ∧ e61 = e61' ∧ x62 = x62' ∧ J g x63 h) (fun g => E14 fun a0' i4' o4' a61' n61' c61' e61' x62' x63 h => a0 = a0' ∧ i4 = i4' ∧ o4 = o4' ∧ a61 = a61' ∧ n61 = n61' ∧ c61 = c61' ∧ e61 = e61' ∧ x62 = x62' ∧ ∃ g', m g' < m g ∧ J g' x63 h) m ?_ ?_ g ⟨rfl, rfl, rfl, rfl, rfl, rfl, rfl, rfl, hj⟩
  · intro g env h hi
    obtain ⟨a0', i4', o4', a61', n61', c61', e61', x62', x63, rfl, rfl, rfl, rfl, rfl, rfl, rfl, rfl, rfl, hj⟩ := Ztt hi
    exact Yhv Q _ a0 i4 o4 a61 n61 c61 e61 x62 x63 h (hr g x63 h hj (fun a0' i4' o4' a61' n61' c61' e61' x62' x63 h => a0 = a0' ∧ i4 = i4' ∧ o4 = o4' ∧ a61 = a61' ∧ n61 = n61' ∧ c61 = c61' ∧ e61 = e61' ∧ x62 = x62' ∧ ∃ g', m g' < m g ∧ J g' x63 h) fun g' x63 h hlt hj => ⟨rfl, rfl, rfl, rfl, rfl, rfl, rfl, rfl, g', hlt, hj⟩)
  · intro g env h hi
    obtain ⟨a0', i4', o4', a61', n61', c61', e61', x62', x63, rfl, rfl, rfl, rfl, rfl, rfl, rfl, rfl, rfl, g', hlt, hj⟩ := Ztt hi
    exact ⟨g', hlt, rfl, rfl, rfl, rfl, rfl, rfl, rfl, rfl, hj⟩
theorem A14x1i (Q : QT) (h : Zaa) (ht :
 Q (.str ([111, 107])) h) : Ygt Q h :=
  At.mk (cast (by kernel_rfl) ht)
theorem call (a0 a1x0 : Pt) (n1x0 c1x0 : Nat) (e1x0 : Bool) (a1x1 : Pt) (n1x1 c1x1 : Nat) (e1x1 : Bool) (x2x0 x2x1 : List Nat) (h : Zaa) (Q : QT) (ht :
 Zdb (h ++ [.cells Zam [.slice a1x0 n1x0 c1x0 e1x0, .slice a1x1 n1x1 c1x1 e1x1] false]) fun H0 => Zdb (H0 ++ [.cells Zar [.str x2x0, .str x2x1] false]) fun H1 => Zbi a0 fun I2 O3 => Zdd .i64 (Zae H1 (.ptr (some (I2, O3 + 0)))) fun X4 => xSl (Zae H1 (.ptr (some (h.length, 0 + 1)))) fun A5 N6 C7 E8 => (Zae H1 (.ptr (some (I2, O3 + 0))) = Zae H1 (.ptr (some (I2, O3 + 0)))) ∧ bcase (decide ((X4 : Int) ≥ (((N6 : Nat) : Int)))) (Q (.str ([105, 110, 115, 116, 97, 110, 99, 101])) H1) (Zbi a0 fun I9 O10 => xSl (Zae H1 (.ptr (some (h.length, 0 + 1)))) fun A11 N12 C13 E14 => Zdd .i64 (Zae H1 (.ptr (some (I9, O10 + 0)))) fun X15 => (0 ≤ (X15 : Int) ∧ (X15 : Int) < (N12 : Nat)) ∧ (Zbi A11 fun I16 O17 => Zcx (Zbp H1 (.ptr (some (I16, O17 + (Int.toNat X15) * 3))) 3) fun K18 => Zaj K18 fun C19 Z20 => Zbo (some C19) fun S21 => Zaj Z20 fun C22 Z23 => Zbo (some C22) fun S24 => Zaj Z23 fun C25 Z26 => xSl (some C25) fun A27 N28 C29 E30 => Zcg Z26 (Zdb (H1 ++ [.cells Zal [.str [], .str [], .slice none 0 0 true] false]) fun H31 => (Zbp H31 (.ptr (some (I16, O17 + (Int.toNat X15) * 3))) 3 = Zbp H1 (.ptr (some (I16, O17 + (Int.toNat X15) * 3))) 3) ∧ (Zae H31 (.ptr (some (I9, O10 + 0))) = Zae H1 (.ptr (some (I9, O10 + 0)))) ∧ (Zae H31 (.ptr (some (h.length, 0 + 1))) = Zae H1 (.ptr (some (h.length, 0 + 1)))) ∧ Zcb (Zbd H31 (.ptr (some (H1.length, 0))) [.str S21, .str S24, .slice A27 N28 C29 E30]) fun H32 => Zbo (Zae H32 (.ptr (some (H1.length, 0 + 0 + 0)))) fun S33 => Zbo (Zae H32 (.ptr (some (H0.length, 0 + 0)))) fun S34 => bcase (!(decide (S33 = S34))) (Q (.str ([99, 108, 97, 115, 115])) H32) (Zbo (Zae H32 (.ptr (some (H1.length, 0 + 0 + 1)))) fun S35 => Zbo (Zae H32 (.ptr (some (H0.length, 0 + 1)))) fun S36 => Zad pg Zja [.str S35, .str S36] H32 fun V37 H38 =>
 Zbx (some V37) fun B39 => bcase (!B39) (Q (.str ([102, 111, 114, 109])) H38) (Zcx (Zbp H38 (.ptr (some (H1.length, 0))) 3) fun K40 => Zaj K40 fun C41 Z42 => Zbo (some C41) fun S43 => Zaj Z42 fun C44 Z45 => Zbo (some C44) fun S46 => Zaj Z45 fun C47 Z48 => xSl (some C47) fun A49 N50 C51 E52 => Zcg Z48 (Zbo (Zae H38 (.ptr (some (H0.length, 0 + 1)))) fun S53 => Zad pg Zgj [.agg [.str S43, .str S46, .slice A49 N50 C51 E52], .str S53] H38 fun V54 H55 =>
 Zsk V54 fun K56 => Zaj K56 fun C57 Z58 => xSl (some C57) fun A59 N60 C61 E62 => Zaj Z58 fun C63 Z64 => Zbx (some C63) fun B65 => Zcg Z64 (bcase (!B65) (Q (.str ([98, 105, 103])) H55) (Zbi a0 fun I66 O67 => xSl (Zae H55 (.ptr (some (I66, O67 + 1)))) fun A68 N69 C70 E71 => bcase (!((((N60 : Nat) : Int) : Int) == (((N69 : Nat) : Int)))) (Q (.str ([112, 97, 114, 116, 115])) H55) (L14 Q a0 h.length 0 A59 N60 C61 E62 (((N60 : Nat) : Int)) 0 H55)))))))))) : Zad pg Zgv [.ptr a0, .agg [.slice a1x0 n1x0 c1x0 e1x0, .slice a1x1 n1x1 c1x1 e1x1], .agg [.str x2x0, .str x2x1]] h Q :=
  Zad.of_body kp (c := cod fn) (fn := fn) Go.Proofs.Tryz.func41 (by kernel_rfl) (by kernel_rfl) (Nat.le_of_ble_eq_true (by kernel_rfl))
    (cast (by kernel_rfl) ht)
end Zfc
namespace Zjz
noncomputable abbrev fn : Func := Go.Proofs.Tryz.f12
def kp : Zcf := [(4000004, [7, 3, 4])]
noncomputable def C (p : List Nat) : Code := (cod fn).sub p
def KR (Q : QT) : KT := Zey pg fn.results.toList Q
def J4 (Q : QT) (a7 : Pt) (i3 o3 i4 o4 : Nat) (h : Zaa) : Prop := Den pg fn.ntmps (C [1, 1, 1]) [(7, .ptr a7), (3, .ptr (some (i3, o3))), (4, .ptr (some (i4, o4)))] h (KR Q)
theorem J4i (Q : QT) (a7 : Pt) (i3 o3 i4 o4 : Nat) (h : Zaa) (ht :
 Zcx (Zbp h (.ptr (some (i3, o3))) 2) fun K28 => Zaj K28 fun C29 Z30 => xSl (some C29) fun A31 N32 C33 E34 => Zaj Z30 fun C35 Z36 => xSl (some C35) fun A37 N38 C39 E40 => Zcg Z36 (Zcx (Zbp h (.ptr (some (i4, o4))) 2) fun K41 => Zaj K41 fun C42 Z43 => Zbo (some C42) fun S44 => Zaj Z43 fun C45 Z46 => Zbo (some C45) fun S47 => Zcg Z46 (Zad pg Zgv [.ptr a7, .agg [.slice A31 N32 C33 E34, .slice A37 N38 C39 E40], .agg [.str S44, .str S47]] h fun V48 H49 =>
 Zbo (some V48) fun S50 => Q (.str S50) H49))) : J4 Q a7 i3 o3 i4 o4 h :=
  Zbc (kp := kp) (cast (by kernel_rfl) ht)
theorem call (a0x0 : Pt) (n0x0 c0x0 : Nat) (e0x0 : Bool) (a0x1 : Pt) (n0x1 c0x1 : Nat) (e0x1 : Bool) (x1x0 x1x1 x2 : List Nat) (h : Zaa) (Q : QT) (ht :
 Zdb (h ++ [.cells Zam [.slice a0x0 n0x0 c0x0 e0x0, .slice a0x1 n0x1 c0x1 e0x1] false]) fun H0 => Zdb (H0 ++ [.cells Zar [.str x1x0, .str x1x1] false]) fun H1 => Zad pg Zms [.str x2] H1 fun V2 H3 =>
 Zis (some V2) fun A4 => bcase (Option.isNone A4) (Q (.str ([119, 114, 111, 110, 103])) H3) (Zcx (Zbp H3 (.ptr (some (h.length, 0))) 2) fun K5 => Zaj K5 fun C6 Z7 => xSl (some C6) fun A8 N9 C10 E11 => Zaj Z7 fun C12 Z13 => xSl (some C12) fun A14 N15 C16 E17 => Zcg Z13 (Zcx (Zbp H3 (.ptr (some (H0.length, 0))) 2) fun K18 => Zaj K18 fun C19 Z20 => Zbo (some C19) fun S21 => Zaj Z20 fun C22 Z23 => Zbo (some C22) fun S24 => Zcg Z23 (Zad pg Zjw [.agg [.slice A8 N9 C10 E11, .slice A14 N15 C16 E17], .agg [.str S21, .str S24]] H3 fun V25 H26 =>
 Zbx (some V25) fun B27 => bcase (!B27) (Q (.str ([119, 114, 111, 110, 103])) H26) (J4 Q A4 h.length 0 H0.length 0 H26))))) : Zad pg Zjx [.agg [.slice a0x0 n0x0 c0x0 e0x0, .slice a0x1 n0x1 c0x1 e0x1], .agg [.str x1x0, .str x1x1], .str x2] h Q :=
  Zad.of_body kp (c := cod fn) (fn := fn) Go.Proofs.Tryz.func12 (by kernel_rfl) (by kernel_rfl) (Nat.le_of_ble_eq_true (by kernel_rfl))
    (cast (by kernel_rfl) ht)
end Zjz
end Go.Sim

set_option maxRecDepth 100000
set_option linter.unusedVariables false
namespace Go.Sim
open Go Go.RowKit
namespace Zcq
noncomputable abbrev fn : Func := Go.Proofs.Tryz.f80
def kp : Zcf := [(4000003, [0]), (3000007, [0, 4, 2, 3]), (1000007, [0, 4]), (4000008, [0, 4]), (4000015, [4, 0]), (2000015, [2, 3])]
noncomputable def C (p : List Nat) : Code := (cod fn).sub p
def KR (Q : QT) : KT := Zey pg fn.results.toList Q
abbrev T7 := List Nat → Nat → Nat → Zaa → Prop
def E7 (R7 : T7) (env : Env) (h : Zaa) : Prop := Zcc 0 env fun v env => Zbo (some v) fun x0 => Zcc 4 env fun v env => Zis (some v) fun a => Zbi a fun i4 o4 => Zkg env (R7 x0 i4 o4 h)
theorem Zrs {R7 : T7} {env : Env} {h : Zaa} (hi : E7 R7 env h) : ∃ x0, ∃ i4, ∃ o4, env = [(0, .str x0), (4, .ptr (some (i4, o4)))] ∧ R7 x0 i4 o4 h := by
  unfold E7 at hi
  have hi0 := hi
  clear hi
  obtain ⟨_, _, rfl, hi1⟩ := Zab hi0
  obtain ⟨x0, rfl, hi2⟩ := Zea hi1
  obtain ⟨_, _, rfl, hi3⟩ := Zab hi2
  obtain ⟨a, rfl, hi4⟩ := Zby hi3
  obtain ⟨i4, o4, rfl, hi5⟩ := Zbw hi4
  obtain ⟨rfl, hi6⟩ := Zbn hi5
  have hi := hi6
  exact ⟨x0, i4, o4, rfl, hi⟩
def K0 (Q : QT) : KT := andThen (fun env' h' => (match kp.find 4000013 with | some ks => Den pg fn.ntmps (C [1, 1, 1, 1, 1, 1]) (env'.keep ks) h' (KR Q) | none => den pg fn.ntmps kp (C [1, 1, 1, 1, 1, 1]) env' h' (KR Q))) (KR Q)
def K1 (Q : QT) : KT := Zcr 0 (K0 Q)
def K2 (Q : QT) : KT := left kp 7 (K1 Q)
def K3 (Q : QT) (R7 : T7) : KT := rnd ((kp.find 1000007).getD []) (E7 R7) (K2 Q)
def J3 (Q : QT) (x0 : List Nat) (h : Zaa) : Prop := Den pg fn.ntmps (C [1, 1]) [(0, .str x0)] h (KR Q)
def L7 (Q : QT) (x0 : List Nat) (i4 o4 : Nat) (h : Zaa) : Prop := Zeg (Den pg fn.ntmps (C [1, 1, 1, 1, 1, 0, 0, 0])) ((kp.find 1000007).getD []) (K2 Q) [(0, .str x0), (4, .ptr (some (i4, o4)))] h
def J8 (Q : QT) (R7 : T7) (x0 : List Nat) (i4 o4 : Nat) (h : Zaa) : Prop := Den pg fn.ntmps (C [1, 1, 1, 1, 1, 0, 0, 0, 1]) [(0, .str x0), (4, .ptr (some (i4, o4)))] h (K3 Q R7)
def A7x0 (Q : QT) (x0 : List Nat) (i4 o4 : Nat) (h : Zaa) : Prop := At (K1 Q) (.exit 0) [(0, .str x0), (4, .ptr (some (i4, o4))), (2, .undef), (3, .undef)] h
def J15 (Q : QT) (i4 o4 : Nat) (x0 : List Nat) (h : Zaa) : Prop := Den pg fn.ntmps (C [1, 1, 1, 1, 1, 1, 1]) [(4, .ptr (some (i4, o4))), (0, .str x0)] h (KR Q)
theorem J3i (Q : QT) (x0 : List Nat) (h : Zaa) (ht :
 Zgd x0 0 fun B2 => Zdb (h ++ [.cells Zfl [.int .i64 (IntKind.wrap .i64 (IntKind.wrap .u8 ((((B2 : Nat) : Int)) - 48))), .slice none 0 0 true] false]) fun H3 => (0 ≤ (1 : Int) ∧ (1 : Int) ≤ (List.length x0 : Int) ∧ ((List.length x0 : Int) : Int) ≤ (List.length x0 : Nat)) ∧ (Zad pg Zcu [.str (sub x0 1 ((List.length x0 : Int))), .str [40]] H3 fun V4 H5 =>
 Zbx (some V4) fun B6 => bcase (!B6) (Q (.tup [.ptr (some (h.length, 0)), .str (sub x0 1 ((List.length x0 : Int)))]) H5) (L7 Q (sub x0 1 ((List.length x0 : Int))) h.length 0 H5))) : J3 Q x0 h :=
  Zbc (kp := kp) (cast (by kernel_rfl) ht)
def L7t (Q : QT) (R7 : T7) (x0 : List Nat) (i4 o4 : Nat) (h : Zaa) : Prop :=
 Zad pg Zcu [.str x0, .str [40]] h fun V7 H8 =>
 Zbx (some V7) fun B9 => bcase B9 (xSl (Zae H8 (.ptr (some (i4, o4 + 1)))) fun A10 N11 C12 E13 => bcase ((((N11 : Nat) : Int) : Int) == 0) (J8 Q R7 x0 i4 o4 H8) (Zad pg Zcu [.str x0, .str [44]] H8 fun V14 H15 =>
 Zbx (some V14) fun B16 => bcase B16 (J8 Q R7 x0 i4 o4 H15) (A7x0 Q x0 i4 o4 H15))) (Zad pg Zcu [.str x0, .str [44]] H8 fun V17 H18 =>
 Zbx (some V17) fun B19 => bcase B19 (J8 Q R7 x0 i4 o4 H18) (A7x0 Q x0 i4 o4 H18))
theorem Yhh (Q : QT) (R7 : T7) (x0 : List Nat) (i4 o4 : Nat) (h : Zaa) (ht : L7t Q R7 x0 i4 o4 h) : Den pg fn.ntmps (C [1, 1, 1, 1, 1, 0, 0, 0]) [(0, .str x0), (4, .ptr (some (i4, o4)))] h (K3 Q R7) :=
  Zbc (kp := kp) (cast (by kernel_rfl) ht)
theorem L7ind (Q : QT) (i4 o4 : Nat) {G : Type} (J : G → List Nat → Zaa → Prop) (m : G → Nat)
 (hr : ∀ (g : G) (x0 : List Nat) (h : Zaa), J g x0 h → ∀ (R7 : T7), (∀ g' (x0 : List Nat) (h : Zaa), m g' < m g → J g' x0 h → R7 x0 i4 o4 h) → L7t Q R7 x0 i4 o4 h)
 (g : G) (x0 : List Nat) (h : Zaa) (hj : J g x0 h) : L7 Q x0 i4 o4 h := by
  refine Zeg.inv2 (fun g => E7 fun x0 i4' o4' h => i4 = i4' ∧ o4 = o4' ∧ J g x0 h) (fun g => E7 fun x0 i4' o4' h => i4 = i4' ∧ o4 = o4' ∧ ∃ g', m g' < m g ∧ J g' x0 h) m ?_ ?_ g ⟨rfl, rfl, hj⟩
  · intro g env h hi
    obtain ⟨x0, i4', o4', rfl, rfl, rfl, hj⟩ := Zrs hi
    exact Yhh Q _ x0 i4 o4 h (hr g x0 h hj (fun x0 i4' o4' h => i4 = i4' ∧ o4 = o4' ∧ ∃ g', m g' < m g ∧ J g' x0 h) fun g' x0 h hlt hj => ⟨rfl, rfl, g', hlt, hj⟩)
  · intro g env h hi
    obtain ⟨x0, i4', o4', rfl, rfl, rfl, g', hlt, hj⟩ := Zrs hi
    exact ⟨g', hlt, rfl, rfl, hj⟩
theorem J8i (Q : QT) (R7 : T7) (x0 : List Nat) (i4 o4 : Nat) (h : Zaa) (ht :
 (0 ≤ (1 : Int) ∧ (1 : Int) ≤ (List.length x0 : Int) ∧ ((List.length x0 : Int) : Int) ≤ (List.length x0 : Nat)) ∧ (Zad pg Zie [.str (sub x0 1 ((List.length x0 : Int)))] h fun V20 H21 =>
 Zsk V20 fun K22 => Zaj K22 fun C23 Z24 => Zis (some C23) fun A25 => Zaj Z24 fun C26 Z27 => Zbo (some C26) fun S28 => Zcg Z27 (bcase (Option.isNone A25) (Q (.tup [.ptr none, .str x0]) H21) (xSl (Zae H21 (.ptr (some (i4, o4 + 1)))) fun A29 N30 C31 E32 => Zdb (H21 ++ [.cells Zfk [.ptr A25] false]) fun H33 => Zdn pg Zod H33 (.slice A29 N30 C31 E32) (.slice (some (H21.length, 0)) 1 1 true) fun V34 H35 => xSl (some V34) fun A36 N37 C38 E39 => Zcb (Zbd H35 (.ptr (some (i4, o4 + 1))) [.slice A36 N37 C38 E39]) fun H40 => R7 S28 i4 o4 H40)))) : J8 Q R7 x0 i4 o4 h :=
  Zbc (kp := kp) (cast (by kernel_rfl) ht)
theorem A7x0i (Q : QT) (x0 : List Nat) (i4 o4 : Nat) (h : Zaa) (ht :
 Zad pg Zcu [.str x0, .str [41]] h fun V41 H42 =>
 Zbx (some V41) fun B43 => bcase (!B43) (Q (.tup [.ptr none, .str x0]) H42) (xSl (Zae H42 (.ptr (some (i4, o4 + 1)))) fun A44 N45 C46 E47 => bcase (decide (((((N45 : Nat) : Int)) : Int) > 3)) (Q (.tup [.ptr none, .str x0]) H42) (J15 Q i4 o4 x0 H42))) : A7x0 Q x0 i4 o4 h :=
  At.mk (cast (by kernel_rfl) ht)
theorem J15i (Q : QT) (i4 o4 : Nat) (x0 : List Nat) (h : Zaa) (ht :
 (0 ≤ (1 : Int) ∧ (1 : Int) ≤ (List.length x0 : Int) ∧ ((List.length x0 : Int) : Int) ≤ (List.length x0 : Nat)) ∧ (Q (.tup [.ptr (some (i4, o4)), .str (sub x0 1 ((List.length x0 : Int)))]) h)) : J15 Q i4 o4 x0 h :=
  Zbc (kp := kp) (cast (by kernel_rfl) ht)
theorem call (x0 : List Nat) (h : Zaa) (Q : QT) (ht :
 bcase (decide (x0 = [])) (Q (.tup [.ptr none, .str x0]) h) (Zgd x0 0 fun B0 => bcase (decide (((((B0 : Nat) : Int)) : Int) < 48)) (Q (.tup [.ptr none, .str x0]) h) (Zgd x0 0 fun B1 => bcase (decide (((((B1 : Nat) : Int)) : Int) > 57)) (Q (.tup [.ptr none, .str x0]) h) (J3 Q x0 h)))) : Zad pg Zie [.str x0] h Q :=
  Zad.of_body kp (c := cod fn) (fn := fn) Go.Proofs.Tryz.func80 (by kernel_rfl) (by kernel_rfl) (Nat.le_of_ble_eq_true (by kernel_rfl))
    (cast (by kernel_rfl) ht)
end Zcq
end Go.Sim

set_option maxRecDepth 100000
set_option linter.unusedVariables false
namespace Go.Sim
open Go Go.RowKit
namespace Zds
noncomputable abbrev fn : Func := Go.Proofs.Tryz.f112
def kp : Zcf := [(4000004, [0, 6]), (3000006, [8, 6]), (1000006, [6, 8, 26, 27, 28]), (2000008, [28, 27, 26, 8, 6])]
noncomputable def C (p : List Nat) : Code := (cod fn).sub p
def KR (Q : QT) : KT := Zey pg fn.results.toList Q
abbrev T6 := Nat → Nat → Nat → Nat → Pt → Nat → Nat → Bool → Int → Int → Zaa → Prop
def E6 (R6 : T6) (env : Env) (h : Zaa) : Prop := Zcc 6 env fun v env => Zis (some v) fun a => Zbi a fun i6 o6 => Zcc 8 env fun v env => Zis (some v) fun a => Zbi a fun i8 o8 => Zcc 26 env fun v env => xSl (some v) fun a26 n26 c26 e26 => Zcc 27 env fun v env => Zeo .i64 v fun x27 => Zcc 28 env fun v env => Zeo .i64 v fun x28 => Zkg env (R6 i6 o6 i8 o8 a26 n26 c26 e26 x27 x28 h)
theorem Zob {R6 : T6} {env : Env} {h : Zaa} (hi : E6 R6 env h) : ∃ i6, ∃ o6, ∃ i8, ∃ o8, ∃ a26, ∃ n26, ∃ c26, ∃ e26, ∃ x27, ∃ x28, env = [(6, .ptr (some (i6, o6))), (8, .ptr (some (i8, o8))), (26, .slice a26 n26 c26 e26), (27, .int .i64 x27), (28, .int .i64 x28)] ∧ R6 i6 o6 i8 o8 a26 n26 c26 e26 x27 x28 h := by
  unfold E6 at hi
  have hi0 := hi
  clear hi
  obtain ⟨_, _, rfl, hi1⟩ := Zab hi0
  obtain ⟨a, rfl, hi2⟩ := Zby hi1
  obtain ⟨i6, o6, rfl, hi3⟩ := Zbw hi2
  obtain ⟨_, _, rfl, hi4⟩ := Zab hi3
  obtain ⟨a, rfl, hi5⟩ := Zby hi4
  obtain ⟨i8, o8, rfl, hi6⟩ := Zbw hi5
  obtain ⟨_, _, rfl, hi7⟩ := Zab hi6
  obtain ⟨a26, n26, c26, e26, rfl, hi8⟩ := Zbl hi7
  obtain ⟨_, _, rfl, hi9⟩ := Zab hi8
  obtain ⟨x27, rfl, hi10⟩ := Zaw hi9
  obtain ⟨_, _, rfl, hi11⟩ := Zab hi10
  obtain ⟨x28, rfl, hi12⟩ := Zaw hi11
  obtain ⟨rfl, hi13⟩ := Zbn hi12
  have hi := hi13
  exact ⟨i6, o6, i8, o8, a26, n26, c26, e26, x27, x28, rfl, hi⟩
def K0 (Q : QT) : KT := andThen (fun env' h' => (match kp.find 4000010 with | some ks => Den pg fn.ntmps (C [1, 1, 1, 1, 1]) (env'.keep ks) h' (KR Q) | none => den pg fn.ntmps kp (C [1, 1, 1, 1, 1]) env' h' (KR Q))) (KR Q)
def K1 (Q : QT) : KT := Zcr 0 (K0 Q)
def K2 (Q : QT) : KT := left kp 6 (K1 Q)
def K3 (Q : QT) (R6 : T6) : KT := rnd ((kp.find 1000006).getD []) (E6 R6) (K2 Q)
def J4 (Q : QT) (a0 : Pt) (n0 c0 : Nat) (e0 : Bool) (i6 o6 : Nat) (h : Zaa) : Prop := Den pg fn.ntmps (C [1, 1, 1]) [(0, .slice a0 n0 c0 e0), (6, .ptr (some (i6, o6)))] h (KR Q)
def L6 (Q : QT) (i6 o6 i8 o8 : Nat) (a26 : Pt) (n26 c26 : Nat) (e26 : Bool) (x27 x28 : Int) (h : Zaa) : Prop := Zeg (Den pg fn.ntmps (C [1, 1, 1, 1, 0, 1, 0, 0])) ((kp.find 1000006).getD []) (K2 Q) [(6, .ptr (some (i6, o6))), (8, .ptr (some (i8, o8))), (26, .slice a26 n26 c26 e26), (27, .int .i64 x27), (28, .int .i64 x28)] h
def Ygq (Q : QT) (i8 o8 i6 o6 : Nat) (h : Zaa) : Prop := At (K1 Q) (.exit 0) [(8, .ptr (some (i8, o8))), (6, .ptr (some (i6, o6)))] h
theorem J4i (Q : QT) (a0 : Pt) (n0 c0 : Nat) (e0 : Bool) (i6 o6 : Nat) (h : Zaa) (ht :
 Zdb (h ++ [.cells Zdx [.int .u8 0, .slice none 0 0 true, .int .u8 0, .slice none 0 0 true, .int .u8 0, .slice none 0 0 true, .int .u8 0, .slice none 0 0 true, .int .u8 0, .slice none 0 0 true, .int .u8 0, .slice none 0 0 true, .int .u8 0, .slice none 0 0 true, .int .u8 0, .slice none 0 0 true, .int .u8 0, .slice none 0 0 true, .int .u8 0, .slice none 0 0 true, .int .u8 0, .slice none 0 0 true, .int .u8 0, .slice none 0 0 true] false]) fun H23 => L6 Q i6 o6 h.length 0 a0 n0 c0 e0 (((n0 : Nat) : Int)) 0 H23) : J4 Q a0 n0 c0 e0 i6 o6 h :=
  Zbc (kp := kp) (cast (by kernel_rfl) ht)
def L6t (Q : QT) (R6 : T6) (i6 o6 i8 o8 : Nat) (a26 : Pt) (n26 c26 : Nat) (e26 : Bool) (x27 x28 : Int) (h : Zaa) : Prop :=
 bcase (decide ((x28 : Int) < x27)) ((0 ≤ (x28 : Int) ∧ (x28 : Int) < (n26 : Nat)) ∧ (Zbi a26 fun I24 O25 => Zcx (Zbp h (.ptr (some (I24, O25 + (Int.toNat x28) * 2))) 2) fun K26 => Zaj K26 fun C27 Z28 => Zbo (some C27) fun S29 => Zaj Z28 fun C30 Z31 => Zbo (some C30) fun S32 => Zcg Z31 (Zdb (h ++ [.cells Zbb [.str [], .str []] false]) fun H33 => Zcb (Zbd H33 (.ptr (some (h.length, 0))) [.str S29, .str S32]) fun H34 => Zbo (Zae H34 (.ptr (some (h.length, 0 + 0)))) fun S35 => Zgd S35 0 fun B36 => Zbo (Zae H34 (.ptr (some (h.length, 0 + 1)))) fun S37 => Zad pg Zhi [.int .u8 (((B36 : Nat) : Int))] H34 fun V38 H39 =>
 Zdd .i64 (some V38) fun X40 => (Zae H39 (.ptr (some (h.length, 0 + 1))) = Zae H34 (.ptr (some (h.length, 0 + 1)))) ∧ (Zae H39 (.ptr (some (h.length, 0 + 0))) = Zae H34 (.ptr (some (h.length, 0 + 0)))) ∧ Zad pg Zfj [.str S37] H39 fun V41 H42 =>
 Zsk V41 fun K43 => Zaj K43 fun C44 Z45 => Zph C44 fun K46 => Zaj K46 fun C47 Z48 => Zdd .u8 (some C47) fun X49 => Zaj Z48 fun C50 Z51 => xSl (some C50) fun A52 N53 C54 E55 => Zcg Z51 (Zaj Z45 fun C56 Z57 => Zbx (some C56) fun B58 => Zcg Z57 ((Zae H42 (.ptr (some (h.length, 0 + 0))) = Zae H39 (.ptr (some (h.length, 0 + 0)))) ∧ (0 ≤ (X40 : Int) ∧ (X40 : Int) < (12 : Nat)) ∧ (Zcb (Zbd H42 (.ptr (some (i8, o8 + (Int.toNat X40) * 2))) [.int .u8 X49, .slice A52 N53 C54 E55]) fun H59 => R6 i6 o6 i8 o8 a26 n26 c26 e26 x27 (IntKind.wrap .i64 (x28 + 1)) H59)))))) (Ygq Q i8 o8 i6 o6 h)
theorem Ybd (Q : QT) (R6 : T6) (i6 o6 i8 o8 : Nat) (a26 : Pt) (n26 c26 : Nat) (e26 : Bool) (x27 x28 : Int) (h : Zaa) (ht : L6t Q R6 i6 o6 i8 o8 a26 n26 c26 e26 x27 x28 h) : Den pg fn.ntmps (C [1, 1, 1, 1, 0, 1, 0, 0]) [(6, .ptr (some (i6, o6))), (8, .ptr (some (i8, o8))), (26, .slice a26 n26 c26 e26), (27, .int .i64 x27), (28, .int .i64 x28)] h (K3 Q R6) :=
  Zbc (kp := kp) (cast (by kernel_rfl) ht)
theorem L6ind (Q : QT) (i6 o6 i8 o8 : Nat) (a26 : Pt) (n26 c26 : Nat) (e26 : Bool) (x27 : Int) {G : Type} (J : G → Int → Zaa → Prop) (m : G → Nat)
 (hr : ∀ (g : G) (x28 : Int) (h : Zaa), J g x28 h → ∀ (R6 : T6), (∀ g' (x28 : Int) (h : Zaa), m g' < m g → J g' x28 h → R6 i6 o6 i8 o8 a26 n26 c26 e26 x27 x28 h) → L6t Q R6 i6 o6 i8 o8 a26 n26 c26 e26 x27 x28 h)
 (g : G) (x28 : Int) (h : Zaa) (hj : J g x28 h) : L6 Q i6 o6 i8 o8 a26 n26 c26 e26 x27 x28 h := by
  refine Zeg.inv2 (fun g => E6 fun i6' o6' i8' o8' a26' n26' c26' e26' x27' x28 h => i6 = i6' ∧ o6 = o6' ∧ i8 = i8' ∧ o8 = o8' ∧ a26 = a26' ∧ n26 = n26' ∧ c26 = c26' ∧ e26 = e26' ∧ x27 = x27' ∧ J g x28 h) (fun g => E6 fun i6' o6' i8' o8' a26' n26' c26' e26' x27' x28 h => i6 = i6' ∧ o6 = o6' ∧ i8 = i8' ∧ o8 = o8' ∧ a26 = a26' ∧ n26 = n26' ∧ c26 = c26' ∧ e26 = e26' ∧ x27 = x27' ∧ ∃ g', m g' < m g ∧ J g' x28 h) m ?_ ?_ g ⟨rfl, rfl, rfl, rfl, rfl, rfl, rfl, rfl, rfl, hj⟩
  · intro g env h hi
    obtain ⟨i6', o6', i8', o8', a26', n26', c26', e26', x27', x28, rfl, rfl, rfl, rfl, rfl, rfl, rfl, rfl, rfl, rfl, hj⟩ := Zob hi
    exact Ybd Q _ i6 o6 i8 o8 a26 n26 c26 e26 x27 x28 h (hr g x28 h hj (fun i6' o6' i8' o8' a26' n26' c26' e26' x27' x28 h => i6 = i6' ∧ o6 = o6' ∧ i8 = i8' ∧ o8 = o8' ∧ a26 = a26' ∧ n26 = n26' ∧ c26 = c26' ∧ e26 = e26' ∧ x27 = x27' ∧ ∃ g', m g' < m g ∧ J g' x28 h) fun g' x28 h hlt hj => ⟨rfl, rfl, rfl, rfl, rfl, rfl, rfl, rfl, rfl, g', hlt, hj⟩)
  · intro g env h hi
    obtain ⟨i6', o6', i8', o8', a26', n26', c26', e26', x27', x28, rfl, rfl, rfl, rfl, rfl, rfl, rfl, rfl, rfl, rfl, g', hlt, hj⟩ := Zob hi
    exact ⟨g', hlt, rfl, rfl, rfl, rfl, rfl, rfl, rfl, rfl, rfl, hj⟩
theorem A6x0i (Q : QT) (i8 o8 i6 o6 : Nat) (h : Zaa) (ht :
 Zcx (Zbp h (.ptr (some (i6, o6))) 2) fun K60 => Zaj K60 fun C61 Z62 => Zdd .u8 (some C61) fun X63 => Zaj Z62 fun C64 Z65 => xSl (some C64) fun A66 N67 C68 E69 => Zcg Z65 (Zad pg Zld [.ptr (some (i8, o8)), .agg [.int .u8 X63, .slice A66 N67 C68 E69]] h fun V70 H71 =>
 Zph V70 fun K72 => Zaj K72 fun C73 Z74 => Zdd .u8 (some C73) fun X75 => Zaj Z74 fun C76 Z77 => xSl (some C76) fun A78 N79 C80 E81 => Zcg Z77 (Zdb (H71 ++ [.cells Zac [.int .u8 0, .slice none 0 0 true] false]) fun H82 => Zcb (Zbd H82 (.ptr (some (H71.length, 0))) [.int .u8 X75, .slice A78 N79 C80 E81]) fun H83 => Zcx (Zbp H83 (.ptr (some (H71.length, 0))) 2) fun K84 => Zaj K84 fun C85 Z86 => Zdd .u8 (some C85) fun X87 => Zaj Z86 fun C88 Z89 => xSl (some C88) fun A90 N91 C92 E93 => Zcg Z89 (Zad pg Zgl [.agg [.int .u8 X87, .slice A90 N91 C92 E93]] H83 fun V94 H95 =>
 Zdd .i64 (some V94) fun X96 => bcase (decide ((X96 : Int) > 60)) (Q (.tup [.str [], .bool false]) H95) (Zcx (Zbp H95 (.ptr (some (H71.length, 0))) 2) fun K97 => Zaj K97 fun C98 Z99 => Zdd .u8 (some C98) fun X100 => Zaj Z99 fun C101 Z102 => xSl (some C101) fun A103 N104 C105 E106 => Zcg Z102 (Zad pg Zfp [.agg [.int .u8 X100, .slice A103 N104 C105 E106]] H95 fun V107 H108 =>
 Zbo (some V107) fun S109 => Q (.tup [.str S109, .bool true]) H108)))))) : Ygq Q i8 o8 i6 o6 h :=
  At.mk (cast (by kernel_rfl) ht)
theorem call (a0 : Pt) (n0 c0 : Nat) (e0 : Bool) (x1 : List Nat) (h : Zaa) (Q : QT) (ht :
 Zad pg Zfj [.str x1] h fun V0 H1 =>
 Zsk V0 fun K2 => Zaj K2 fun C3 Z4 => Zph C3 fun K5 => Zaj K5 fun C6 Z7 => Zdd .u8 (some C6) fun X8 => Zaj Z7 fun C9 Z10 => xSl (some C9) fun A11 N12 C13 E14 => Zcg Z10 (Zaj Z4 fun C15 Z16 => Zbx (some C15) fun B17 => Zcg Z16 (Zdb (H1 ++ [.cells Zac [.int .u8 0, .slice none 0 0 true] false]) fun H18 => Zcb (Zbd H18 (.ptr (some (H1.length, 0))) [.int .u8 X8, .slice A11 N12 C13 E14]) fun H19 => bcase (!B17) (Q (.tup [.str [], .bool false]) H19) (Zad pg Zgx [.slice a0 n0 c0 e0] H19 fun V20 H21 =>
 Zbx (some V20) fun B22 => bcase (!B22) (Q (.tup [.str [], .bool false]) H21) (J4 Q a0 n0 c0 e0 H1.length 0 H21))))) : Zad pg Zgy [.slice a0 n0 c0 e0, .str x1] h Q :=
  Zad.of_body kp (c := cod fn) (fn := fn) Go.Proofs.Tryz.func112 (by kernel_rfl) (by kernel_rfl) (Nat.le_of_ble_eq_true (by kernel_rfl))
    (cast (by kernel_rfl) ht)
end Zds
namespace Zhk
noncomputable abbrev fn : Func := Go.Proofs.Tryz.f66
def kp : Zcf := [(3000006, [6, 4, 5]), (1000006, [6, 7, 26, 27, 28])]
noncomputable def C (p : List Nat) : Code := (cod fn).sub p
def KR (Q : QT) : KT := Zey pg fn.results.toList Q
abbrev T6 := Pt → Nat → Nat → Bool → Pt → Nat → Nat → Bool → Pt → Nat → Nat → Bool → Int → Int → Zaa → Prop
def E6 (R6 : T6) (env : Env) (h : Zaa) : Prop := Zcc 6 env fun v env => xSl (some v) fun a6 n6 c6 e6 => Zcc 7 env fun v env => xSl (some v) fun a7 n7 c7 e7 => Zcc 26 env fun v env => xSl (some v) fun a26 n26 c26 e26 => Zcc 27 env fun v env => Zeo .i64 v fun x27 => Zcc 28 env fun v env => Zeo .i64 v fun x28 => Zkg env (R6 a6 n6 c6 e6 a7 n7 c7 e7 a26 n26 c26 e26 x27 x28 h)
theorem Zob {R6 : T6} {env : Env} {h : Zaa} (hi : E6 R6 env h) : ∃ a6, ∃ n6, ∃ c6, ∃ e6, ∃ a7, ∃ n7, ∃ c7, ∃ e7, ∃ a26, ∃ n26, ∃ c26, ∃ e26, ∃ x27, ∃ x28, env = [(6, .slice a6 n6 c6 e6), (7, .slice a7 n7 c7 e7), (26, .slice a26 n26 c26 e26), (27, .int .i64 x27), (28, .int .i64 x28)] ∧ R6 a6 n6 c6 e6 a7 n7 c7 e7 a26 n26 c26 e26 x27 x28 h := by
  unfold E6 at hi
  have hi0 := hi
  clear hi
  obtain ⟨_, _, rfl, hi1⟩ := Zab hi0
  obtain ⟨a6, n6, c6, e6, rfl, hi2⟩ := Zbl hi1
  obtain ⟨_, _, rfl, hi3⟩ := Zab hi2
  obtain ⟨a7, n7, c7, e7, rfl, hi4⟩ := Zbl hi3
  obtain ⟨_, _, rfl, hi5⟩ := Zab hi4
  obtain ⟨a26, n26, c26, e26, rfl, hi6⟩ := Zbl hi5
  obtain ⟨_, _, rfl, hi7⟩ := Zab hi6
  obtain ⟨x27, rfl, hi8⟩ := Zaw hi7
  obtain ⟨_, _, rfl, hi9⟩ := Zab hi8
  obtain ⟨x28, rfl, hi10⟩ := Zaw hi9
  obtain ⟨rfl, hi11⟩ := Zbn hi10
  have hi := hi11
  exact ⟨a6, n6, c6, e6, a7, n7, c7, e7, a26, n26, c26, e26, x27, x28, rfl, hi⟩
def K0 (Q : QT) : KT := andThen (fun env' h' => (match kp.find 4000013 with | some ks => Den pg fn.ntmps (C [1, 1, 1, 1, 1]) (env'.keep ks) h' (KR Q) | none => den pg fn.ntmps kp (C [1, 1, 1, 1, 1]) env' h' (KR Q))) (KR Q)
def K1 (Q : QT) : KT := Zcr 0 (K0 Q)
def K2 (Q : QT) : KT := left kp 6 (K1 Q)
def K3 (Q : QT) (R6 : T6) : KT := rnd ((kp.find 1000006).getD []) (E6 R6) (K2 Q)
def L6 (Q : QT) (a6 : Pt) (n6 c6 : Nat) (e6 : Bool) (a7 : Pt) (n7 c7 : Nat) (e7 : Bool) (a26 : Pt) (n26 c26 : Nat) (e26 : Bool) (x27 x28 : Int) (h : Zaa) : Prop := Zeg (Den pg fn.ntmps (C [1, 1, 1, 1, 0, 1, 0, 0])) ((kp.find 1000006).getD []) (K2 Q) [(6, .slice a6 n6 c6 e6), (7, .slice a7 n7 c7 e7), (26, .slice a26 n26 c26 e26), (27, .int .i64 x27), (28, .int .i64 x28)] h
def Ygq (Q : QT) (a6 : Pt) (n6 c6 : Nat) (e6 : Bool) (h : Zaa) : Prop := At (K1 Q) (.exit 0) [(6, .slice a6 n6 c6 e6), (4, .undef), (5, .undef)] h
def L6t (Q : QT) (R6 : T6) (a6 : Pt) (n6 c6 : Nat) (e6 : Bool) (a7 : Pt) (n7 c7 : Nat) (e7 : Bool) (a26 : Pt) (n26 c26 : Nat) (e26 : Bool) (x27 x28 : Int) (h : Zaa) : Prop :=
 bcase (decide ((x28 : Int) < x27)) ((0 ≤ (x28 : Int) ∧ (x28 : Int) < (n26 : Nat)) ∧ (Zbi a26 fun I19 O20 => Zcx (Zbp h (.ptr (some (I19, O20 + (Int.toNat x28) * 2))) 2) fun K21 => Zaj K21 fun C22 Z23 => Zbo (some C22) fun S24 => Zaj Z23 fun C25 Z26 => Zbo (some C25) fun S27 => Zcg Z26 (Zdb (h ++ [.cells Zar [.str [], .str []] false]) fun H28 => Zcb (Zbd H28 (.ptr (some (h.length, 0))) [.str S24, .str S27]) fun H29 => Zbo (Zae H29 (.ptr (some (h.length, 0 + 1)))) fun S30 => Zad pg Zgy [.slice a7 n7 c7 e7, .str S30] H29 fun V31 H32 =>
 Zsk V31 fun K33 => Zaj K33 fun C34 Z35 => Zbo (some C34) fun S36 => Zaj Z35 fun C37 Z38 => Zbx (some C37) fun B39 => Zcg Z38 (bcase (!B39) (Zdb (H32 ++ [.cells Zar [] false]) fun H40 => Q (.tup [.slice (some (H32.length, 0)) 0 0 true, .bool false]) H40) (Zbo (Zae H32 (.ptr (some (h.length, 0 + 0)))) fun S41 => Zdb (H32 ++ [.cells Zar [.str S41, .str S36] false]) fun H42 => Zdn pg Zmm H42 (.slice a6 n6 c6 e6) (.slice (some (H32.length, 0)) 1 1 true) fun V43 H44 => xSl (some V43) fun A45 N46 C47 E48 => R6 A45 N46 C47 E48 a7 n7 c7 e7 a26 n26 c26 e26 x27 (IntKind.wrap .i64 (x28 + 1)) H44))))) (Ygq Q a6 n6 c6 e6 h)
theorem Ybd (Q : QT) (R6 : T6) (a6 : Pt) (n6 c6 : Nat) (e6 : Bool) (a7 : Pt) (n7 c7 : Nat) (e7 : Bool) (a26 : Pt) (n26 c26 : Nat) (e26 : Bool) (x27 x28 : Int) (h : Zaa) (ht : L6t Q R6 a6 n6 c6 e6 a7 n7 c7 e7 a26 n26 c26 e26 x27 x28 h) : Den pg fn.ntmps (C [1, 1, 1, 1, 0, 1, 0, 0]) [(6, .slice a6 n6 c6 e6), (7, .slice a7 n7 c7 e7), (26, .slice a26 n26 c26 e26), (27, .int .i64 x27), (28, .int .i64 x28)] h (K3 Q R6) :=
  Zbc (kp := kp) (cast (by kernel_rfl) ht)
theorem L6ind (Q : QT) (a7 : Pt) (n7 c7 : Nat) (e7 : Bool) (a26 : Pt) (n26 c26 : Nat) (e26 : Bool) (x27 : Int) {G : Type} (J : G → Pt → Nat → Nat → Bool → Int → Zaa → Prop) (m : G → Nat)
 (hr : ∀ (g : G) (a6 : Pt) (n6 c6 : Nat) (e6 : Bool) (x28 : Int) (h : Zaa), J g a6 n6 c6 e6 x28 h → ∀ (R6 : T6), (∀ g' (a6 : Pt) (n6 c6 : Nat) (e6 : Bool) (x28 : Int) (h : Zaa), m g' < m g → J g' a6 n6 c6 e6 x28 h → R6 a6 n6 c6 e6 a7 n7 c7 e7 a26 n26 c26 e26 x27 x28 h) → L6t Q R6 a6 n6 c6 e6 a7 n7 c7 e7 a26 n26 c26 e26 x27 x28 h)
 (g : G) (a6 : Pt) (n6 c6 : Nat) (e6 : Bool) (x28 : Int) (h : Zaa) (hj : J g a6 n6 c6 e6 x28 h) : L6 Q a6 n6 c6 e6 a7 n7 c7 e7 a26 n26 c26 e26 x27 x28 h := by
  refine Zeg.inv2 (fun g => E6 fun a6 n6 c6 e6 a7' n7' c7' e7' a26' n26' c26' e26' x27' x28 h => a7 = a7' ∧ n7 = n7' ∧ c7 = c7' ∧ e7 = e7' ∧ a26 = a26' ∧ n26 = n26' ∧ c26 = c26' ∧ e26 = e26' ∧ x27 = x27' ∧ J g a6 n6 c6 e6 x28 h) (fun g => E6 fun a6 n6 c6 e6 a7' n7' c7' e7' a26' n26' c26' e26' x27' x28 h => a7 = a7' ∧ n7 = n7' ∧ c7 = c7' ∧ e7 = e7' ∧ a26 = a26' ∧ n26 = n26' ∧ c26 = c26' ∧ e26 = e26' ∧ x27 = x27' ∧ ∃ g', m g' < m g ∧ J g' a6 n6 c6 e6 x28 h) m ?_ ?_ g ⟨rfl, rfl, rfl, rfl, rfl, rfl, rfl, rfl, rfl, hj⟩
  · intro g env h hi
    obtain ⟨a6, n6, c6, e6, a7', n7', c7', e7', a26', n26', c26', e26', x27', x28, rfl, rfl, rfl, rfl, rfl, rfl, rfl, rfl, rfl, rfl, hj⟩ := Zob hi
    exact Ybd Q _ a6 n6 c6 e6 a7 n7 c7 e7 a26 n26 c26 e26 x27 x28 h (hr g a6 n6 c6 e6 x28 h hj (fun a6 n6 c6 e6 a7' n7' c7' e7' a26' n26' c26' e26' x27' x28 h => a7 = a7' ∧ n7 = n7' ∧ c7 = c7' ∧ e7 = e7' ∧ a26 = a26' ∧ n26 = n26' ∧ c26 = c26' ∧ e26 = e26' ∧ x27 = x27' ∧ ∃ g', m g' < m g ∧ J g' a6 n6 c6 e6 x28 h) fun g' a6 n6 c6 e6 x28 h hlt hj => ⟨rfl, rfl, rfl, rfl, rfl, rfl, rfl, rfl, rfl, g', hlt, hj⟩)
  · intro g env h hi
    obtain ⟨a6, n6, c6, e6, a7', n7', c7', e7', a26', n26', c26', e26', x27', x28, rfl, rfl, rfl, rfl, rfl, rfl, rfl, rfl, rfl, rfl, g', hlt, hj⟩ := Zob hi
    exact ⟨g', hlt, rfl, rfl, rfl, rfl, rfl, rfl, rfl, rfl, rfl, hj⟩
theorem A6x0i (Q : QT) (a6 : Pt) (n6 c6 : Nat) (e6 : Bool) (h : Zaa) (ht :
 Q (.tup [.slice a6 n6 c6 e6, .bool true]) h) : Ygq Q a6 n6 c6 e6 h :=
  At.mk (cast (by kernel_rfl) ht)
theorem call (x0x0 x0x1 : List Nat) (a0x2 : Pt) (n0x2 c0x2 : Nat) (e0x2 : Bool) (x1 : List Nat) (h : Zaa) (Q : QT) (ht :
 Zdb (h ++ [.cells Zal [.str x0x0, .str x0x1, .slice a0x2 n0x2 c0x2 e0x2] false]) fun H0 => Zdb (H0 ++ [.cells Zar [] false]) fun H1 => Zbo (Zae H1 (.ptr (some (h.length, 0 + 0 + 1)))) fun S2 => Zad pg Zhs [.str S2, .str x1] H1 fun V3 H4 =>
 Zsk V3 fun K5 => Zaj K5 fun C6 Z7 => xSl (some C6) fun A8 N9 C10 E11 => Zaj Z7 fun C12 Z13 => Zbx (some C12) fun B14 => Zcg Z13 (bcase (!B14) (Q (.tup [.slice (some (H0.length, 0)) 0 0 true, .bool false]) H4) (xSl (Zae H4 (.ptr (some (h.length, 0 + 2)))) fun A15 N16 C17 E18 => L6 Q (some (H0.length, 0)) 0 0 true A8 N9 C10 E11 A15 N16 C17 E18 (((N16 : Nat) : Int)) 0 H4))) : Zad pg Zlj [.agg [.str x0x0, .str x0x1, .slice a0x2 n0x2 c0x2 e0x2], .str x1] h Q :=
  Zad.of_body kp (c := cod fn) (fn := fn) Go.Proofs.Tryz.func66 (by kernel_rfl) (by kernel_rfl) (Nat.le_of_ble_eq_true (by kernel_rfl))
    (cast (by kernel_rfl) ht)
end Zhk
end Go.Sim
