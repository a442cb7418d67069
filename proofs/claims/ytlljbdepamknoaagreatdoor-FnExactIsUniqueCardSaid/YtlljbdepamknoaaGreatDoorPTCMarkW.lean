/- A part of the proof of a statement of this seat: see the text that holds the theorem. No condition. -/
import Derived.Test.YtlljbdepamknoaaGreatDoorNm
set_option linter.unusedVariables false
set_option linter.unusedSimpArgs false
set_option linter.all false
set_option maxRecDepth 100000
set_option linter.unusedVariables false
namespace Go.Sim
open Go Go.RowKit
namespace Zkg
noncomputable abbrev fn : Func := Go.Proofs.Tryz.f139
def kp : Zcd := []
noncomputable def C (p : List Nat) : Code := (cod fn).sub p
def KR (Q : QT) : KT := Zem pg fn.results.toList Q
theorem call (x0x0 x0x1 : List Nat) (a0x2 : Pt) (n0x2 c0x2 : Nat) (e0x2 : Bool) (h : Zaa) (Q : QT) (ht :
 Zcn (h ++ [.cells Zai [.str x0x0, .str x0x1, .slice a0x2 n0x2 c0x2 e0x2] false]) fun H0 => Zcn (H0 ++ [.cells Zai [.str [], .str [], .slice none 0 0 true] false]) fun H1 => Zcn (H1 ++ [.cells Zad [] false]) fun H2 => xSl (Zal H2 (.ptr (some (h.length, 0 + 2)))) fun A3 N4 C5 E6 => Zdc pg Zir H2 (.slice (some (H1.length, 0)) 0 0 true) (.slice A3 N4 C5 E6) fun V7 H8 => xSl (some V7) fun A9 N10 C11 E12 => Zcp (Zbn H8 (.ptr (some (h.length, 0 + 2))) [.slice A9 N10 C11 E12]) fun H13 => Zcz (Zbx H13 (.ptr (some (h.length, 0))) 3) fun K14 => Zao K14 fun C15 Z16 => Zbp (some C15) fun S17 => Zao Z16 fun C18 Z19 => Zbp (some C18) fun S20 => Zao Z19 fun C21 Z22 => xSl (some C21) fun A23 N24 C25 E26 => Zcl Z22 (Zcp (Zbn H13 (.ptr (some (H0.length, 0))) [.str S17, .str S20, .slice A23 N24 C25 E26]) fun H27 => Zcz (Zbx H27 (.ptr (some (H0.length, 0))) 3) fun K28 => Zao K28 fun C29 Z30 => Zbp (some C29) fun S31 => Zao Z30 fun C32 Z33 => Zbp (some C32) fun S34 => Zao Z33 fun C35 Z36 => xSl (some C35) fun A37 N38 C39 E40 => Zcl Z36 (Q (.agg [.str S31, .str S34, .slice A37 N38 C39 E40]) H27))) : Zae pg Zgo [.agg [.str x0x0, .str x0x1, .slice a0x2 n0x2 c0x2 e0x2]] h Q :=
 Zae.of_body kp (c := cod fn) (fn := fn) Go.Proofs.Tryz.func139 (by kernel_rfl) (by kernel_rfl) (Nat.le_of_ble_eq_true (by kernel_rfl))
  (cast (by kernel_rfl) ht)
end Zkg
namespace Zds
noncomputable abbrev fn : Func := Go.Proofs.Tryz.f114
def kp : Zcd := [(3000003, [3]), (1000003, [3, 7, 8, 9])]
noncomputable def C (p : List Nat) : Code := (cod fn).sub p
def KR (Q : QT) : KT := Zem pg fn.results.toList Q
abbrev T3 := Pt → Nat → Nat → Bool → Pt → Nat → Nat → Bool → Int → Int → Zaa → Prop
def E3 (R3 : T3) (env : Env) (h : Zaa) : Prop := Zbj 3 env fun v env => xSl (some v) fun a3 n3 c3 e3 => Zbj 7 env fun v env => xSl (some v) fun a7 n7 c7 e7 => Zbj 8 env fun v env => Zda .i64 v fun x8 => Zbj 9 env fun v env => Zda .i64 v fun x9 => Ziw env (R3 a3 n3 c3 e3 a7 n7 c7 e7 x8 x9 h)
theorem Zej {R3 : T3} {env : Env} {h : Zaa} (hi : E3 R3 env h) : ∃ a3, ∃ n3, ∃ c3, ∃ e3, ∃ a7, ∃ n7, ∃ c7, ∃ e7, ∃ x8, ∃ x9, env = [(3, .slice a3 n3 c3 e3), (7, .slice a7 n7 c7 e7), (8, .int .i64 x8), (9, .int .i64 x9)] ∧ R3 a3 n3 c3 e3 a7 n7 c7 e7 x8 x9 h := by
 unfold E3 at hi
 have hi0 := hi
 clear hi
 obtain ⟨_, _, rfl, hi1⟩ := Zab hi0
 obtain ⟨a3, n3, c3, e3, rfl, hi2⟩ := Zax hi1
 obtain ⟨_, _, rfl, hi3⟩ := Zab hi2
 obtain ⟨a7, n7, c7, e7, rfl, hi4⟩ := Zax hi3
 obtain ⟨_, _, rfl, hi5⟩ := Zab hi4
 obtain ⟨x8, rfl, hi6⟩ := Zak hi5
 obtain ⟨_, _, rfl, hi7⟩ := Zab hi6
 obtain ⟨x9, rfl, hi8⟩ := Zak hi7
 obtain ⟨rfl, hi9⟩ := Zbk hi8
 have hi := hi9
 exact ⟨a3, n3, c3, e3, a7, n7, c7, e7, x8, x9, rfl, hi⟩
def K0 (Q : QT) : KT := andThen (fun env' h' => (match kp.find 4000007 with | some ks => Den pg fn.ntmps (C [1, 1, 1]) (env'.keep ks) h' (KR Q) | none => den pg fn.ntmps kp (C [1, 1, 1]) env' h' (KR Q))) (KR Q)
def K1 (Q : QT) : KT := Zcg 0 (K0 Q)
def K2 (Q : QT) : KT := Zgf kp 3 (K1 Q)
def K3 (Q : QT) (R3 : T3) : KT := rnd ((kp.find 1000003).getD []) (E3 R3) (K2 Q)
def L3 (Q : QT) (a3 : Pt) (n3 c3 : Nat) (e3 : Bool) (a7 : Pt) (n7 c7 : Nat) (e7 : Bool) (x8 x9 : Int) (h : Zaa) : Prop := Zdz (Den pg fn.ntmps (C [1, 1, 0, 1, 0, 0])) ((kp.find 1000003).getD []) (K2 Q) [(3, .slice a3 n3 c3 e3), (7, .slice a7 n7 c7 e7), (8, .int .i64 x8), (9, .int .i64 x9)] h
def Zpf (Q : QT) (a3 : Pt) (n3 c3 : Nat) (e3 : Bool) (h : Zaa) : Prop := At (K1 Q) (.exit 0) [(3, .slice a3 n3 c3 e3)] h
def L3t (Q : QT) (R3 : T3) (a3 : Pt) (n3 c3 : Nat) (e3 : Bool) (a7 : Pt) (n7 c7 : Nat) (e7 : Bool) (x8 x9 : Int) (h : Zaa) : Prop :=
 bcase (decide ((x9 : Int) < x8)) ((0 ≤ (x9 : Int) ∧ (x9 : Int) < (n7 : Nat)) ∧ (Zbl a7 fun I1 O2 => Zcz (Zbx h (.ptr (some (I1, O2 + (Int.toNat x9) * 3))) 3) fun K3 => Zao K3 fun C4 Z5 => Zbp (some C4) fun S6 => Zao Z5 fun C7 Z8 => Zbp (some C7) fun S9 => Zao Z8 fun C10 Z11 => xSl (some C10) fun A12 N13 C14 E15 => Zcl Z11 (Zcn (h ++ [.cells Zai [.str [], .str [], .slice none 0 0 true] false]) fun H16 => Zcp (Zbn H16 (.ptr (some (h.length, 0))) [.str S6, .str S9, .slice A12 N13 C14 E15]) fun H17 => Zcz (Zbx H17 (.ptr (some (h.length, 0))) 3) fun K18 => Zao K18 fun C19 Z20 => Zbp (some C19) fun S21 => Zao Z20 fun C22 Z23 => Zbp (some C22) fun S24 => Zao Z23 fun C25 Z26 => xSl (some C25) fun A27 N28 C29 E30 => Zcl Z26 (Zae pg Zgo [.agg [.str S21, .str S24, .slice A27 N28 C29 E30]] H17 fun V31 H32 =>
 Zue V31 fun K33 => Zao K33 fun C34 Z35 => Zbp (some C34) fun S36 => Zao Z35 fun C37 Z38 => Zbp (some C37) fun S39 => Zao Z38 fun C40 Z41 => xSl (some C40) fun A42 N43 C44 E45 => Zcl Z41 (Zcn (H32 ++ [.cells Zai [.str S36, .str S39, .slice A42 N43 C44 E45] false]) fun H46 => Zdc pg Zna H46 (.slice a3 n3 c3 e3) (.slice (some (H32.length, 0)) 1 1 true) fun V47 H48 => xSl (some V47) fun A49 N50 C51 E52 => R3 A49 N50 C51 E52 a7 n7 c7 e7 x8 (IntKind.wrap .i64 (x9 + 1)) H48))))) (Zpf Q a3 n3 c3 e3 h)
theorem Zkx (Q : QT) (R3 : T3) (a3 : Pt) (n3 c3 : Nat) (e3 : Bool) (a7 : Pt) (n7 c7 : Nat) (e7 : Bool) (x8 x9 : Int) (h : Zaa) (ht : L3t Q R3 a3 n3 c3 e3 a7 n7 c7 e7 x8 x9 h) : Den pg fn.ntmps (C [1, 1, 0, 1, 0, 0]) [(3, .slice a3 n3 c3 e3), (7, .slice a7 n7 c7 e7), (8, .int .i64 x8), (9, .int .i64 x9)] h (K3 Q R3) :=
 Zbb (kp := kp) (cast (by kernel_rfl) ht)
theorem L3ind (Q : QT) (a7 : Pt) (n7 c7 : Nat) (e7 : Bool) (x8 : Int) {G : Type} (J : G → Pt → Nat → Nat → Bool → Int → Zaa → Prop) (m : G → Nat)
 (hr : ∀ (g : G) (a3 : Pt) (n3 c3 : Nat) (e3 : Bool) (x9 : Int) (h : Zaa), J g a3 n3 c3 e3 x9 h → ∀ (R3 : T3), (∀ g' (a3 : Pt) (n3 c3 : Nat) (e3 : Bool) (x9 : Int) (h : Zaa), m g' < m g → J g' a3 n3 c3 e3 x9 h → R3 a3 n3 c3 e3 a7 n7 c7 e7 x8 x9 h) → L3t Q R3 a3 n3 c3 e3 a7 n7 c7 e7 x8 x9 h)
 (g : G) (a3 : Pt) (n3 c3 : Nat) (e3 : Bool) (x9 : Int) (h : Zaa) (hj : J g a3 n3 c3 e3 x9 h) : L3 Q a3 n3 c3 e3 a7 n7 c7 e7 x8 x9 h := by
 refine Zdz.inv2 (fun g => E3 fun a3 n3 c3 e3 a7' n7' c7' e7' x8' x9 h => a7 = a7' ∧ n7 = n7' ∧ c7 = c7' ∧ e7 = e7' ∧ x8 = x8' ∧ J g a3 n3 c3 e3 x9 h) (fun g => E3 fun a3 n3 c3 e3 a7' n7' c7' e7' x8' x9 h => a7 = a7' ∧ n7 = n7' ∧ c7 = c7' ∧ e7 = e7' ∧ x8 = x8' ∧ ∃ g', m g' < m g ∧ J g' a3 n3 c3 e3 x9 h) m ?_ ?_ g ⟨rfl, rfl, rfl, rfl, rfl, hj⟩
 ·intro g env h hi
  obtain ⟨a3, n3, c3, e3, a7', n7', c7', e7', x8', x9, rfl, rfl, rfl, rfl, rfl, rfl, hj⟩ := Zej hi
  exact Zkx Q _ a3 n3 c3 e3 a7 n7 c7 e7 x8 x9 h (hr g a3 n3 c3 e3 x9 h hj (fun a3 n3 c3 e3 a7' n7' c7' e7' x8' x9 h => a7 = a7' ∧ n7 = n7' ∧ c7 = c7' ∧ e7 = e7' ∧ x8 = x8' ∧ ∃ g', m g' < m g ∧ J g' a3 n3 c3 e3 x9 h) fun g' a3 n3 c3 e3 x9 h hlt hj => ⟨rfl, rfl, rfl, rfl, rfl, g', hlt, hj⟩)
 ·intro g env h hi
  obtain ⟨a3, n3, c3, e3, a7', n7', c7', e7', x8', x9, rfl, rfl, rfl, rfl, rfl, rfl, g', hlt, hj⟩ := Zej hi
  exact ⟨g', hlt, rfl, rfl, rfl, rfl, rfl, hj⟩
theorem A3x0i (Q : QT) (a3 : Pt) (n3 c3 : Nat) (e3 : Bool) (h : Zaa) (ht :
 Q (.slice a3 n3 c3 e3) h) : Zpf Q a3 n3 c3 e3 h :=
 At.mk (cast (by kernel_rfl) ht)
theorem call (a0 : Pt) (n0 c0 : Nat) (e0 : Bool) (h : Zaa) (Q : QT) (ht :
 Zcn (h ++ [.cells Zai [] false]) fun H0 => L3 Q (some (h.length, 0)) 0 0 true a0 n0 c0 e0 (((n0 : Nat) : Int)) 0 H0) : Zae pg Zfj [.slice a0 n0 c0 e0] h Q :=
 Zae.of_body kp (c := cod fn) (fn := fn) Go.Proofs.Tryz.func114 (by kernel_rfl) (by kernel_rfl) (Nat.le_of_ble_eq_true (by kernel_rfl))
  (cast (by kernel_rfl) ht)
end Zds
namespace Zly
noncomputable abbrev fn : Func := Go.Proofs.Tryz.f75
def kp : Zcd := []
noncomputable def C (p : List Nat) : Code := (cod fn).sub p
def KR (Q : QT) : KT := Zem pg fn.results.toList Q
theorem call (a0x0 : Pt) (n0x0 c0x0 : Nat) (e0x0 : Bool) (a0x1 : Pt) (n0x1 c0x1 : Nat) (e0x1 : Bool) (h : Zaa) (Q : QT) (ht :
 Zcn (h ++ [.cells Zaj [.slice a0x0 n0x0 c0x0 e0x0, .slice a0x1 n0x1 c0x1 e0x1] false]) fun H0 => Zcn (H0 ++ [.cells Zaj [.slice none 0 0 true, .slice none 0 0 true] false]) fun H1 => Zcn (H1 ++ [.cells Zbq [] false]) fun H2 => xSl (Zal H2 (.ptr (some (h.length, 0 + 0)))) fun A3 N4 C5 E6 => Zdc pg Zqj H2 (.slice (some (H1.length, 0)) 0 0 true) (.slice A3 N4 C5 E6) fun V7 H8 => xSl (some V7) fun A9 N10 C11 E12 => Zcp (Zbn H8 (.ptr (some (h.length, 0 + 0))) [.slice A9 N10 C11 E12]) fun H13 => xSl (Zal H13 (.ptr (some (h.length, 0 + 1)))) fun A14 N15 C16 E17 => Zae pg Zfj [.slice A14 N15 C16 E17] H13 fun V18 H19 =>
 xSl (some V18) fun A20 N21 C22 E23 => Zcp (Zbn H19 (.ptr (some (h.length, 0 + 1))) [.slice A20 N21 C22 E23]) fun H24 => Zcz (Zbx H24 (.ptr (some (h.length, 0))) 2) fun K25 => Zao K25 fun C26 Z27 => xSl (some C26) fun A28 N29 C30 E31 => Zao Z27 fun C32 Z33 => xSl (some C32) fun A34 N35 C36 E37 => Zcl Z33 (Zcp (Zbn H24 (.ptr (some (H0.length, 0))) [.slice A28 N29 C30 E31, .slice A34 N35 C36 E37]) fun H38 => Zcz (Zbx H38 (.ptr (some (H0.length, 0))) 2) fun K39 => Zao K39 fun C40 Z41 => xSl (some C40) fun A42 N43 C44 E45 => Zao Z41 fun C46 Z47 => xSl (some C46) fun A48 N49 C50 E51 => Zcl Z47 (Q (.agg [.slice A42 N43 C44 E45, .slice A48 N49 C50 E51]) H38))) : Zae pg Zil [.agg [.slice a0x0 n0x0 c0x0 e0x0, .slice a0x1 n0x1 c0x1 e0x1]] h Q :=
 Zae.of_body kp (c := cod fn) (fn := fn) Go.Proofs.Tryz.func75 (by kernel_rfl) (by kernel_rfl) (Nat.le_of_ble_eq_true (by kernel_rfl))
  (cast (by kernel_rfl) ht)
end Zly
end Go.Sim

set_option maxRecDepth 100000
set_option linter.unusedVariables false
namespace Go.Sim
open Go Go.RowKit
end Go.Sim

set_option maxRecDepth 100000
set_option linter.unusedVariables false
namespace Go.Sim
open Go Go.RowKit
end Go.Sim
