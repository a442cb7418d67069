/- A part of the proof of a statement of this seat: see the text that holds the theorem. No condition. -/
import Derived.Test.YtlljbdepamknoaaGreatDoorNm
set_option linter.unusedVariables false
set_option linter.unusedSimpArgs false
set_option linter.all false
set_option maxRecDepth 100000
set_option linter.unusedVariables false
namespace Go.Sim
open Go Go.RowKit
namespace Zbt
noncomputable abbrev fn : Func := Go.Proofs.Tryz.f78
def kp : Zcd := [(2000001, [8, 0, 7, 4, 2]), (4000004, [0, 4, 2]), (2000005, [0, 2, 4, 9, 52, 53, 54]), (3000006, [0, 4, 2, 9, 6]), (1000006, [0, 2, 4, 9, 52, 53, 54]), (2000008, [13, 12, 2, 54, 53, 52, 0, 4, 9, 11]), (4000010, [12, 0, 2, 4, 9, 11, 52, 53, 54]), (3000012, [14, 0, 2, 4, 9, 11, 52, 53, 54, 6]), (1000012, [0, 2, 4, 9, 11, 14, 52, 53, 54, 85, 86, 87]), (3000019, [18, 0, 87, 86, 85, 2, 4, 9, 11, 52, 53, 54]), (1000019, [0, 2, 4, 9, 11, 17, 18, 52, 53, 54, 85, 86, 87, 102, 103, 104]), (3000022, [104, 103, 102, 17, 18, 0, 87, 86, 85, 2, 4, 9, 11, 52, 53, 54]), (1000022, [0, 2, 4, 9, 11, 17, 18, 20, 52, 53, 54, 85, 86, 87, 102, 103, 104, 108, 109, 110]), (3000033, [54, 53, 52, 0, 4, 2, 9, 6]), (1000033, [0, 2, 4, 9, 11, 52, 53, 54, 132, 133, 134]), (4000040, [134, 133, 132, 11, 9, 0, 54, 53, 52, 4, 2]), (4000041, [54, 53, 52, 0, 4, 2, 9]), (2000042, [9])]
noncomputable def C (p : List Nat) : Code := (cod fn).sub p
def KR (Q : QT) : KT := Zem pg fn.results.toList Q
abbrev T6 := Pt → Int → Nat → Nat → Pt → Nat → Nat → Bool → Pt → Nat → Nat → Bool → Int → Int → Zaa → Prop
def E6 (R6 : T6) (env : Env) (h : Zaa) : Prop := Zbj 0 env fun v env => Zgg (some v) fun a0 => Zbj 2 env fun v env => Zda .i64 v fun x2 => Zbj 4 env fun v env => Zgg (some v) fun a => Zbl a fun i4 o4 => Zbj 9 env fun v env => xSl (some v) fun a9 n9 c9 e9 => Zbj 52 env fun v env => xSl (some v) fun a52 n52 c52 e52 => Zbj 53 env fun v env => Zda .i64 v fun x53 => Zbj 54 env fun v env => Zda .i64 v fun x54 => Ziw env (R6 a0 x2 i4 o4 a9 n9 c9 e9 a52 n52 c52 e52 x53 x54 h)
theorem Zke {R6 : T6} {env : Env} {h : Zaa} (hi : E6 R6 env h) : ∃ a0, ∃ x2, ∃ i4, ∃ o4, ∃ a9, ∃ n9, ∃ c9, ∃ e9, ∃ a52, ∃ n52, ∃ c52, ∃ e52, ∃ x53, ∃ x54, env = [(0, .ptr a0), (2, .int .i64 x2), (4, .ptr (some (i4, o4))), (9, .slice a9 n9 c9 e9), (52, .slice a52 n52 c52 e52), (53, .int .i64 x53), (54, .int .i64 x54)] ∧ R6 a0 x2 i4 o4 a9 n9 c9 e9 a52 n52 c52 e52 x53 x54 h := by
 unfold E6 at hi
 have hi0 := hi
 clear hi
 obtain ⟨_, _, rfl, hi1⟩ := Zab hi0
 obtain ⟨a0, rfl, hi2⟩ := Zbo hi1
 obtain ⟨_, _, rfl, hi3⟩ := Zab hi2
 obtain ⟨x2, rfl, hi4⟩ := Zak hi3
 obtain ⟨_, _, rfl, hi5⟩ := Zab hi4
 obtain ⟨a, rfl, hi6⟩ := Zbo hi5
 obtain ⟨i4, o4, rfl, hi7⟩ := Zbs hi6
 obtain ⟨_, _, rfl, hi8⟩ := Zab hi7
 obtain ⟨a9, n9, c9, e9, rfl, hi9⟩ := Zax hi8
 obtain ⟨_, _, rfl, hi10⟩ := Zab hi9
 obtain ⟨a52, n52, c52, e52, rfl, hi11⟩ := Zax hi10
 obtain ⟨_, _, rfl, hi12⟩ := Zab hi11
 obtain ⟨x53, rfl, hi13⟩ := Zak hi12
 obtain ⟨_, _, rfl, hi14⟩ := Zab hi13
 obtain ⟨x54, rfl, hi15⟩ := Zak hi14
 obtain ⟨rfl, hi16⟩ := Zbk hi15
 have hi := hi16
 exact ⟨a0, x2, i4, o4, a9, n9, c9, e9, a52, n52, c52, e52, x53, x54, rfl, hi⟩
abbrev T12 := Pt → Int → Nat → Nat → Pt → Nat → Nat → Bool → Int → Pt → Nat → Nat → Bool → Pt → Nat → Nat → Bool → Int → Int → Pt → Nat → Nat → Bool → Int → Int → Zaa → Prop
def E12 (R12 : T12) (env : Env) (h : Zaa) : Prop := Zbj 0 env fun v env => Zgg (some v) fun a0 => Zbj 2 env fun v env => Zda .i64 v fun x2 => Zbj 4 env fun v env => Zgg (some v) fun a => Zbl a fun i4 o4 => Zbj 9 env fun v env => xSl (some v) fun a9 n9 c9 e9 => Zbj 11 env fun v env => Zda .i64 v fun x11 => Zbj 14 env fun v env => xSl (some v) fun a14 n14 c14 e14 => Zbj 52 env fun v env => xSl (some v) fun a52 n52 c52 e52 => Zbj 53 env fun v env => Zda .i64 v fun x53 => Zbj 54 env fun v env => Zda .i64 v fun x54 => Zbj 85 env fun v env => xSl (some v) fun a85 n85 c85 e85 => Zbj 86 env fun v env => Zda .i64 v fun x86 => Zbj 87 env fun v env => Zda .i64 v fun x87 => Ziw env (R12 a0 x2 i4 o4 a9 n9 c9 e9 x11 a14 n14 c14 e14 a52 n52 c52 e52 x53 x54 a85 n85 c85 e85 x86 x87 h)
theorem Ylh {R12 : T12} {env : Env} {h : Zaa} (hi : E12 R12 env h) : ∃ a0, ∃ x2, ∃ i4, ∃ o4, ∃ a9, ∃ n9, ∃ c9, ∃ e9, ∃ x11, ∃ a14, ∃ n14, ∃ c14, ∃ e14, ∃ a52, ∃ n52, ∃ c52, ∃ e52, ∃ x53, ∃ x54, ∃ a85, ∃ n85, ∃ c85, ∃ e85, ∃ x86, ∃ x87, env = [(0, .ptr a0), (2, .int .i64 x2), (4, .ptr (some (i4, o4))), (9, .slice a9 n9 c9 e9), (11, .int .i64 x11), (14, .slice a14 n14 c14 e14), (52, .slice a52 n52 c52 e52), (53, .int .i64 x53), (54, .int .i64 x54), (85, .slice a85 n85 c85 e85), (86, .int .i64 x86), (87, .int .i64 x87)] ∧ R12 a0 x2 i4 o4 a9 n9 c9 e9 x11 a14 n14 c14 e14 a52 n52 c52 e52 x53 x54 a85 n85 c85 e85 x86 x87 h := by
 unfold E12 at hi
 have hi0 := hi
 clear hi
 obtain ⟨_, _, rfl, hi1⟩ := Zab hi0
 obtain ⟨a0, rfl, hi2⟩ := Zbo hi1
 obtain ⟨_, _, rfl, hi3⟩ := Zab hi2
 obtain ⟨x2, rfl, hi4⟩ := Zak hi3
 obtain ⟨_, _, rfl, hi5⟩ := Zab hi4
 obtain ⟨a, rfl, hi6⟩ := Zbo hi5
 obtain ⟨i4, o4, rfl, hi7⟩ := Zbs hi6
 obtain ⟨_, _, rfl, hi8⟩ := Zab hi7
 obtain ⟨a9, n9, c9, e9, rfl, hi9⟩ := Zax hi8
 obtain ⟨_, _, rfl, hi10⟩ := Zab hi9
 obtain ⟨x11, rfl, hi11⟩ := Zak hi10
 obtain ⟨_, _, rfl, hi12⟩ := Zab hi11
 obtain ⟨a14, n14, c14, e14, rfl, hi13⟩ := Zax hi12
 obtain ⟨_, _, rfl, hi14⟩ := Zab hi13
 obtain ⟨a52, n52, c52, e52, rfl, hi15⟩ := Zax hi14
 obtain ⟨_, _, rfl, hi16⟩ := Zab hi15
 obtain ⟨x53, rfl, hi17⟩ := Zak hi16
 obtain ⟨_, _, rfl, hi18⟩ := Zab hi17
 obtain ⟨x54, rfl, hi19⟩ := Zak hi18
 obtain ⟨_, _, rfl, hi20⟩ := Zab hi19
 obtain ⟨a85, n85, c85, e85, rfl, hi21⟩ := Zax hi20
 obtain ⟨_, _, rfl, hi22⟩ := Zab hi21
 obtain ⟨x86, rfl, hi23⟩ := Zak hi22
 obtain ⟨_, _, rfl, hi24⟩ := Zab hi23
 obtain ⟨x87, rfl, hi25⟩ := Zak hi24
 obtain ⟨rfl, hi26⟩ := Zbk hi25
 have hi := hi26
 exact ⟨a0, x2, i4, o4, a9, n9, c9, e9, x11, a14, n14, c14, e14, a52, n52, c52, e52, x53, x54, a85, n85, c85, e85, x86, x87, rfl, hi⟩
abbrev T19 := Pt → Int → Nat → Nat → Pt → Nat → Nat → Bool → Int → Pt → Nat → Nat → Bool → Pt → Nat → Nat → Bool → Pt → Nat → Nat → Bool → Int → Int → Pt → Nat → Nat → Bool → Int → Int → Pt → Nat → Nat → Bool → Int → Int → Zaa → Prop
def E19 (R19 : T19) (env : Env) (h : Zaa) : Prop := Zbj 0 env fun v env => Zgg (some v) fun a0 => Zbj 2 env fun v env => Zda .i64 v fun x2 => Zbj 4 env fun v env => Zgg (some v) fun a => Zbl a fun i4 o4 => Zbj 9 env fun v env => xSl (some v) fun a9 n9 c9 e9 => Zbj 11 env fun v env => Zda .i64 v fun x11 => Zbj 17 env fun v env => xSl (some v) fun a17 n17 c17 e17 => Zbj 18 env fun v env => xSl (some v) fun a18 n18 c18 e18 => Zbj 52 env fun v env => xSl (some v) fun a52 n52 c52 e52 => Zbj 53 env fun v env => Zda .i64 v fun x53 => Zbj 54 env fun v env => Zda .i64 v fun x54 => Zbj 85 env fun v env => xSl (some v) fun a85 n85 c85 e85 => Zbj 86 env fun v env => Zda .i64 v fun x86 => Zbj 87 env fun v env => Zda .i64 v fun x87 => Zbj 102 env fun v env => xSl (some v) fun a102 n102 c102 e102 => Zbj 103 env fun v env => Zda .i64 v fun x103 => Zbj 104 env fun v env => Zda .i64 v fun x104 => Ziw env (R19 a0 x2 i4 o4 a9 n9 c9 e9 x11 a17 n17 c17 e17 a18 n18 c18 e18 a52 n52 c52 e52 x53 x54 a85 n85 c85 e85 x86 x87 a102 n102 c102 e102 x103 x104 h)
theorem Yju {R19 : T19} {env : Env} {h : Zaa} (hi : E19 R19 env h) : ∃ a0, ∃ x2, ∃ i4, ∃ o4, ∃ a9, ∃ n9, ∃ c9, ∃ e9, ∃ x11, ∃ a17, ∃ n17, ∃ c17, ∃ e17, ∃ a18, ∃ n18, ∃ c18, ∃ e18, ∃ a52, ∃ n52, ∃ c52, ∃ e52, ∃ x53, ∃ x54, ∃ a85, ∃ n85, ∃ c85, ∃ e85, ∃ x86, ∃ x87, ∃ a102, ∃ n102, ∃ c102, ∃ e102, ∃ x103, ∃ x104, env = [(0, .ptr a0), (2, .int .i64 x2), (4, .ptr (some (i4, o4))), (9, .slice a9 n9 c9 e9), (11, .int .i64 x11), (17, .slice a17 n17 c17 e17), (18, .slice a18 n18 c18 e18), (52, .slice a52 n52 c52 e52), (53, .int .i64 x53), (54, .int .i64 x54), (85, .slice a85 n85 c85 e85), (86, .int .i64 x86), (87, .int .i64 x87), (102, .slice a102 n102 c102 e102), (103, .int .i64 x103), (104, .int .i64 x104)] ∧ R19 a0 x2 i4 o4 a9 n9 c9 e9 x11 a17 n17 c17 e17 a18 n18 c18 e18 a52 n52 c52 e52 x53 x54 a85 n85 c85 e85 x86 x87 a102 n102 c102 e102 x103 x104 h := by
 unfold E19 at hi
 have hi0 := hi
 clear hi
 obtain ⟨_, _, rfl, hi1⟩ := Zab hi0
 obtain ⟨a0, rfl, hi2⟩ := Zbo hi1
 obtain ⟨_, _, rfl, hi3⟩ := Zab hi2
 obtain ⟨x2, rfl, hi4⟩ := Zak hi3
 obtain ⟨_, _, rfl, hi5⟩ := Zab hi4
 obtain ⟨a, rfl, hi6⟩ := Zbo hi5
 obtain ⟨i4, o4, rfl, hi7⟩ := Zbs hi6
 obtain ⟨_, _, rfl, hi8⟩ := Zab hi7
 obtain ⟨a9, n9, c9, e9, rfl, hi9⟩ := Zax hi8
 obtain ⟨_, _, rfl, hi10⟩ := Zab hi9
 obtain ⟨x11, rfl, hi11⟩ := Zak hi10
 obtain ⟨_, _, rfl, hi12⟩ := Zab hi11
 obtain ⟨a17, n17, c17, e17, rfl, hi13⟩ := Zax hi12
 obtain ⟨_, _, rfl, hi14⟩ := Zab hi13
 obtain ⟨a18, n18, c18, e18, rfl, hi15⟩ := Zax hi14
 obtain ⟨_, _, rfl, hi16⟩ := Zab hi15
 obtain ⟨a52, n52, c52, e52, rfl, hi17⟩ := Zax hi16
 obtain ⟨_, _, rfl, hi18⟩ := Zab hi17
 obtain ⟨x53, rfl, hi19⟩ := Zak hi18
 obtain ⟨_, _, rfl, hi20⟩ := Zab hi19
 obtain ⟨x54, rfl, hi21⟩ := Zak hi20
 obtain ⟨_, _, rfl, hi22⟩ := Zab hi21
 obtain ⟨a85, n85, c85, e85, rfl, hi23⟩ := Zax hi22
 obtain ⟨_, _, rfl, hi24⟩ := Zab hi23
 obtain ⟨x86, rfl, hi25⟩ := Zak hi24
 obtain ⟨_, _, rfl, hi26⟩ := Zab hi25
 obtain ⟨x87, rfl, hi27⟩ := Zak hi26
 obtain ⟨_, _, rfl, hi28⟩ := Zab hi27
 obtain ⟨a102, n102, c102, e102, rfl, hi29⟩ := Zax hi28
 obtain ⟨_, _, rfl, hi30⟩ := Zab hi29
 obtain ⟨x103, rfl, hi31⟩ := Zak hi30
 obtain ⟨_, _, rfl, hi32⟩ := Zab hi31
 obtain ⟨x104, rfl, hi33⟩ := Zak hi32
 obtain ⟨rfl, hi34⟩ := Zbk hi33
 have hi := hi34
 exact ⟨a0, x2, i4, o4, a9, n9, c9, e9, x11, a17, n17, c17, e17, a18, n18, c18, e18, a52, n52, c52, e52, x53, x54, a85, n85, c85, e85, x86, x87, a102, n102, c102, e102, x103, x104, rfl, hi⟩
abbrev T22 := Pt → Int → Nat → Nat → Pt → Nat → Nat → Bool → Int → Pt → Nat → Nat → Bool → Pt → Nat → Nat → Bool → Pt → Nat → Nat → Bool → Pt → Nat → Nat → Bool → Int → Int → Pt → Nat → Nat → Bool → Int → Int → Pt → Nat → Nat → Bool → Int → Int → Pt → Nat → Nat → Bool → Int → Int → Zaa → Prop
def E22 (R22 : T22) (env : Env) (h : Zaa) : Prop := Zbj 0 env fun v env => Zgg (some v) fun a0 => Zbj 2 env fun v env => Zda .i64 v fun x2 => Zbj 4 env fun v env => Zgg (some v) fun a => Zbl a fun i4 o4 => Zbj 9 env fun v env => xSl (some v) fun a9 n9 c9 e9 => Zbj 11 env fun v env => Zda .i64 v fun x11 => Zbj 17 env fun v env => xSl (some v) fun a17 n17 c17 e17 => Zbj 18 env fun v env => xSl (some v) fun a18 n18 c18 e18 => Zbj 20 env fun v env => xSl (some v) fun a20 n20 c20 e20 => Zbj 52 env fun v env => xSl (some v) fun a52 n52 c52 e52 => Zbj 53 env fun v env => Zda .i64 v fun x53 => Zbj 54 env fun v env => Zda .i64 v fun x54 => Zbj 85 env fun v env => xSl (some v) fun a85 n85 c85 e85 => Zbj 86 env fun v env => Zda .i64 v fun x86 => Zbj 87 env fun v env => Zda .i64 v fun x87 => Zbj 102 env fun v env => xSl (some v) fun a102 n102 c102 e102 => Zbj 103 env fun v env => Zda .i64 v fun x103 => Zbj 104 env fun v env => Zda .i64 v fun x104 => Zbj 108 env fun v env => xSl (some v) fun a108 n108 c108 e108 => Zbj 109 env fun v env => Zda .i64 v fun x109 => Zbj 110 env fun v env => Zda .i64 v fun x110 => Ziw env (R22 a0 x2 i4 o4 a9 n9 c9 e9 x11 a17 n17 c17 e17 a18 n18 c18 e18 a20 n20 c20 e20 a52 n52 c52 e52 x53 x54 a85 n85 c85 e85 x86 x87 a102 n102 c102 e102 x103 x104 a108 n108 c108 e108 x109 x110 h)
theorem Ykg {R22 : T22} {env : Env} {h : Zaa} (hi : E22 R22 env h) : ∃ a0, ∃ x2, ∃ i4, ∃ o4, ∃ a9, ∃ n9, ∃ c9, ∃ e9, ∃ x11, ∃ a17, ∃ n17, ∃ c17, ∃ e17, ∃ a18, ∃ n18, ∃ c18, ∃ e18, ∃ a20, ∃ n20, ∃ c20, ∃ e20, ∃ a52, ∃ n52, ∃ c52, ∃ e52, ∃ x53, ∃ x54, ∃ a85, ∃ n85, ∃ c85, ∃ e85, ∃ x86, ∃ x87, ∃ a102, ∃ n102, ∃ c102, ∃ e102, ∃ x103, ∃ x104, ∃ a108, ∃ n108, ∃ c108, ∃ e108, ∃ x109, ∃ x110, env = [(0, .ptr a0), (2, .int .i64 x2), (4, .ptr (some (i4, o4))), (9, .slice a9 n9 c9 e9), (11, .int .i64 x11), (17, .slice a17 n17 c17 e17), (18, .slice a18 n18 c18 e18), (20, .slice a20 n20 c20 e20), (52, .slice a52 n52 c52 e52), (53, .int .i64 x53), (54, .int .i64 x54), (85, .slice a85 n85 c85 e85), (86, .int .i64 x86), (87, .int .i64 x87), (102, .slice a102 n102 c102 e102), (103, .int .i64 x103), (104, .int .i64 x104), (108, .slice a108 n108 c108 e108), (109, .int .i64 x109), (110, .int .i64 x110)] ∧ R22 a0 x2 i4 o4 a9 n9 c9 e9 x11 a17 n17 c17 e17 a18 n18 c18 e18 a20 n20 c20 e20 a52 n52 c52 e52 x53 x54 a85 n85 c85 e85 x86 x87 a102 n102 c102 e102 x103 x104 a108 n108 c108 e108 x109 x110 h := by
 unfold E22 at hi
 have hi0 := hi
 clear hi
 obtain ⟨_, _, rfl, hi1⟩ := Zab hi0
 obtain ⟨a0, rfl, hi2⟩ := Zbo hi1
 obtain ⟨_, _, rfl, hi3⟩ := Zab hi2
 obtain ⟨x2, rfl, hi4⟩ := Zak hi3
 obtain ⟨_, _, rfl, hi5⟩ := Zab hi4
 obtain ⟨a, rfl, hi6⟩ := Zbo hi5
 obtain ⟨i4, o4, rfl, hi7⟩ := Zbs hi6
 obtain ⟨_, _, rfl, hi8⟩ := Zab hi7
 obtain ⟨a9, n9, c9, e9, rfl, hi9⟩ := Zax hi8
 obtain ⟨_, _, rfl, hi10⟩ := Zab hi9
 obtain ⟨x11, rfl, hi11⟩ := Zak hi10
 obtain ⟨_, _, rfl, hi12⟩ := Zab hi11
 obtain ⟨a17, n17, c17, e17, rfl, hi13⟩ := Zax hi12
 obtain ⟨_, _, rfl, hi14⟩ := Zab hi13
 obtain ⟨a18, n18, c18, e18, rfl, hi15⟩ := Zax hi14
 obtain ⟨_, _, rfl, hi16⟩ := Zab hi15
 obtain ⟨a20, n20, c20, e20, rfl, hi17⟩ := Zax hi16
 obtain ⟨_, _, rfl, hi18⟩ := Zab hi17
 obtain ⟨a52, n52, c52, e52, rfl, hi19⟩ := Zax hi18
 obtain ⟨_, _, rfl, hi20⟩ := Zab hi19
 obtain ⟨x53, rfl, hi21⟩ := Zak hi20
 obtain ⟨_, _, rfl, hi22⟩ := Zab hi21
 obtain ⟨x54, rfl, hi23⟩ := Zak hi22
 obtain ⟨_, _, rfl, hi24⟩ := Zab hi23
 obtain ⟨a85, n85, c85, e85, rfl, hi25⟩ := Zax hi24
 obtain ⟨_, _, rfl, hi26⟩ := Zab hi25
 obtain ⟨x86, rfl, hi27⟩ := Zak hi26
 obtain ⟨_, _, rfl, hi28⟩ := Zab hi27
 obtain ⟨x87, rfl, hi29⟩ := Zak hi28
 obtain ⟨_, _, rfl, hi30⟩ := Zab hi29
 obtain ⟨a102, n102, c102, e102, rfl, hi31⟩ := Zax hi30
 obtain ⟨_, _, rfl, hi32⟩ := Zab hi31
 obtain ⟨x103, rfl, hi33⟩ := Zak hi32
 obtain ⟨_, _, rfl, hi34⟩ := Zab hi33
 obtain ⟨x104, rfl, hi35⟩ := Zak hi34
 obtain ⟨_, _, rfl, hi36⟩ := Zab hi35
 obtain ⟨a108, n108, c108, e108, rfl, hi37⟩ := Zax hi36
 obtain ⟨_, _, rfl, hi38⟩ := Zab hi37
 obtain ⟨x109, rfl, hi39⟩ := Zak hi38
 obtain ⟨_, _, rfl, hi40⟩ := Zab hi39
 obtain ⟨x110, rfl, hi41⟩ := Zak hi40
 obtain ⟨rfl, hi42⟩ := Zbk hi41
 have hi := hi42
 exact ⟨a0, x2, i4, o4, a9, n9, c9, e9, x11, a17, n17, c17, e17, a18, n18, c18, e18, a20, n20, c20, e20, a52, n52, c52, e52, x53, x54, a85, n85, c85, e85, x86, x87, a102, n102, c102, e102, x103, x104, a108, n108, c108, e108, x109, x110, rfl, hi⟩
abbrev T33 := Pt → Int → Nat → Nat → Pt → Nat → Nat → Bool → Int → Pt → Nat → Nat → Bool → Int → Int → Pt → Nat → Nat → Bool → Int → Int → Zaa → Prop
def E33 (R33 : T33) (env : Env) (h : Zaa) : Prop := Zbj 0 env fun v env => Zgg (some v) fun a0 => Zbj 2 env fun v env => Zda .i64 v fun x2 => Zbj 4 env fun v env => Zgg (some v) fun a => Zbl a fun i4 o4 => Zbj 9 env fun v env => xSl (some v) fun a9 n9 c9 e9 => Zbj 11 env fun v env => Zda .i64 v fun x11 => Zbj 52 env fun v env => xSl (some v) fun a52 n52 c52 e52 => Zbj 53 env fun v env => Zda .i64 v fun x53 => Zbj 54 env fun v env => Zda .i64 v fun x54 => Zbj 132 env fun v env => xSl (some v) fun a132 n132 c132 e132 => Zbj 133 env fun v env => Zda .i64 v fun x133 => Zbj 134 env fun v env => Zda .i64 v fun x134 => Ziw env (R33 a0 x2 i4 o4 a9 n9 c9 e9 x11 a52 n52 c52 e52 x53 x54 a132 n132 c132 e132 x133 x134 h)
theorem Yks {R33 : T33} {env : Env} {h : Zaa} (hi : E33 R33 env h) : ∃ a0, ∃ x2, ∃ i4, ∃ o4, ∃ a9, ∃ n9, ∃ c9, ∃ e9, ∃ x11, ∃ a52, ∃ n52, ∃ c52, ∃ e52, ∃ x53, ∃ x54, ∃ a132, ∃ n132, ∃ c132, ∃ e132, ∃ x133, ∃ x134, env = [(0, .ptr a0), (2, .int .i64 x2), (4, .ptr (some (i4, o4))), (9, .slice a9 n9 c9 e9), (11, .int .i64 x11), (52, .slice a52 n52 c52 e52), (53, .int .i64 x53), (54, .int .i64 x54), (132, .slice a132 n132 c132 e132), (133, .int .i64 x133), (134, .int .i64 x134)] ∧ R33 a0 x2 i4 o4 a9 n9 c9 e9 x11 a52 n52 c52 e52 x53 x54 a132 n132 c132 e132 x133 x134 h := by
 unfold E33 at hi
 have hi0 := hi
 clear hi
 obtain ⟨_, _, rfl, hi1⟩ := Zab hi0
 obtain ⟨a0, rfl, hi2⟩ := Zbo hi1
 obtain ⟨_, _, rfl, hi3⟩ := Zab hi2
 obtain ⟨x2, rfl, hi4⟩ := Zak hi3
 obtain ⟨_, _, rfl, hi5⟩ := Zab hi4
 obtain ⟨a, rfl, hi6⟩ := Zbo hi5
 obtain ⟨i4, o4, rfl, hi7⟩ := Zbs hi6
 obtain ⟨_, _, rfl, hi8⟩ := Zab hi7
 obtain ⟨a9, n9, c9, e9, rfl, hi9⟩ := Zax hi8
 obtain ⟨_, _, rfl, hi10⟩ := Zab hi9
 obtain ⟨x11, rfl, hi11⟩ := Zak hi10
 obtain ⟨_, _, rfl, hi12⟩ := Zab hi11
 obtain ⟨a52, n52, c52, e52, rfl, hi13⟩ := Zax hi12
 obtain ⟨_, _, rfl, hi14⟩ := Zab hi13
 obtain ⟨x53, rfl, hi15⟩ := Zak hi14
 obtain ⟨_, _, rfl, hi16⟩ := Zab hi15
 obtain ⟨x54, rfl, hi17⟩ := Zak hi16
 obtain ⟨_, _, rfl, hi18⟩ := Zab hi17
 obtain ⟨a132, n132, c132, e132, rfl, hi19⟩ := Zax hi18
 obtain ⟨_, _, rfl, hi20⟩ := Zab hi19
 obtain ⟨x133, rfl, hi21⟩ := Zak hi20
 obtain ⟨_, _, rfl, hi22⟩ := Zab hi21
 obtain ⟨x134, rfl, hi23⟩ := Zak hi22
 obtain ⟨rfl, hi24⟩ := Zbk hi23
 have hi := hi24
 exact ⟨a0, x2, i4, o4, a9, n9, c9, e9, x11, a52, n52, c52, e52, x53, x54, a132, n132, c132, e132, x133, x134, rfl, hi⟩
def K0 (Q : QT) : KT := andThen (fun env' h' => (match kp.find 4000042 with | some ks => Den pg fn.ntmps (C [1, 1, 1, 1]) (env'.keep ks) h' (KR Q) | none => den pg fn.ntmps kp (C [1, 1, 1, 1]) env' h' (KR Q))) (KR Q)
def K1 (Q : QT) : KT := Zcg 0 (K0 Q)
def K2 (Q : QT) : KT := Zgf kp 6 (K1 Q)
def K3 (Q : QT) (R6 : T6) : KT := rnd ((kp.find 1000006).getD []) (E6 R6) (K2 Q)
def K4 (Q : QT) (R6 : T6) : KT := andThen (fun env' h' => (match kp.find 4000041 with | some ks => Den pg fn.ntmps (C [1, 1, 1, 0, 1, 0, 0, 1, 1, 1]) (env'.keep ks) h' (K3 Q R6) | none => den pg fn.ntmps kp (C [1, 1, 1, 0, 1, 0, 0, 1, 1, 1]) env' h' (K3 Q R6))) (K3 Q R6)
def K5 (Q : QT) (R6 : T6) : KT := Zcg 1 (K4 Q R6)
def K6 (Q : QT) (R6 : T6) : KT := andThen (fun env' h' => (match kp.find 4000032 with | some ks => Den pg fn.ntmps (C [1, 1, 1, 0, 1, 0, 0, 1, 1, 0, 0, 1, 1, 1, 1, 1]) (env'.keep ks) h' (K5 Q R6) | none => den pg fn.ntmps kp (C [1, 1, 1, 0, 1, 0, 0, 1, 1, 0, 0, 1, 1, 1, 1, 1]) env' h' (K5 Q R6))) (K5 Q R6)
def K7 (Q : QT) (R6 : T6) : KT := Zcg 2 (K6 Q R6)
def K8 (Q : QT) (R6 : T6) : KT := Zgf kp 12 (K7 Q R6)
def K9 (Q : QT) (R6 : T6) (R12 : T12) : KT := rnd ((kp.find 1000012).getD []) (E12 R12) (K8 Q R6)
def K10 (Q : QT) (R6 : T6) (R12 : T12) : KT := andThen (fun env' h' => (match kp.find 4000031 with | some ks => Den pg fn.ntmps (C [1, 1, 1, 0, 1, 0, 0, 1, 1, 0, 0, 1, 1, 1, 1, 0, 1, 0, 0, 1, 1, 1]) (env'.keep ks) h' (K9 Q R6 R12) | none => den pg fn.ntmps kp (C [1, 1, 1, 0, 1, 0, 0, 1, 1, 0, 0, 1, 1, 1, 1, 0, 1, 0, 0, 1, 1, 1]) env' h' (K9 Q R6 R12))) (K9 Q R6 R12)
def K11 (Q : QT) (R6 : T6) (R12 : T12) : KT := Zcg 3 (K10 Q R6 R12)
def K12 (Q : QT) (R6 : T6) (R12 : T12) : KT := andThen (fun env' h' => (match kp.find 4000027 with | some ks => Den pg fn.ntmps (C [1, 1, 1, 0, 1, 0, 0, 1, 1, 0, 0, 1, 1, 1, 1, 0, 1, 0, 0, 1, 1, 0, 0, 1, 1, 1, 1, 1]) (env'.keep ks) h' (K11 Q R6 R12) | none => den pg fn.ntmps kp (C [1, 1, 1, 0, 1, 0, 0, 1, 1, 0, 0, 1, 1, 1, 1, 0, 1, 0, 0, 1, 1, 0, 0, 1, 1, 1, 1, 1]) env' h' (K11 Q R6 R12))) (K11 Q R6 R12)
def K13 (Q : QT) (R6 : T6) (R12 : T12) : KT := Zcg 4 (K12 Q R6 R12)
def K14 (Q : QT) (R6 : T6) (R12 : T12) : KT := Zgf kp 19 (K13 Q R6 R12)
def K15 (Q : QT) (R6 : T6) (R12 : T12) (R19 : T19) : KT := rnd ((kp.find 1000019).getD []) (E19 R19) (K14 Q R6 R12)
def K16 (Q : QT) (R6 : T6) (R12 : T12) (R19 : T19) : KT := andThen (fun env' h' => (match kp.find 4000026 with | some ks => Den pg fn.ntmps (C [1, 1, 1, 0, 1, 0, 0, 1, 1, 0, 0, 1, 1, 1, 1, 0, 1, 0, 0, 1, 1, 0, 0, 1, 1, 1, 1, 0, 1, 0, 0, 1, 1, 1]) (env'.keep ks) h' (K15 Q R6 R12 R19) | none => den pg fn.ntmps kp (C [1, 1, 1, 0, 1, 0, 0, 1, 1, 0, 0, 1, 1, 1, 1, 0, 1, 0, 0, 1, 1, 0, 0, 1, 1, 1, 1, 0, 1, 0, 0, 1, 1, 1]) env' h' (K15 Q R6 R12 R19))) (K15 Q R6 R12 R19)
def K17 (Q : QT) (R6 : T6) (R12 : T12) (R19 : T19) : KT := Zcg 5 (K16 Q R6 R12 R19)
def K18 (Q : QT) (R6 : T6) (R12 : T12) (R19 : T19) : KT := Zcg 6 (K17 Q R6 R12 R19)
def K19 (Q : QT) (R6 : T6) (R12 : T12) (R19 : T19) : KT := Zgf kp 22 (K18 Q R6 R12 R19)
def K20 (Q : QT) (R6 : T6) (R12 : T12) (R19 : T19) (R22 : T22) : KT := rnd ((kp.find 1000022).getD []) (E22 R22) (K19 Q R6 R12 R19)
def K21 (Q : QT) (R6 : T6) : KT := Zcg 8 (K5 Q R6)
def K22 (Q : QT) (R6 : T6) : KT := Zgf kp 33 (K21 Q R6)
def K23 (Q : QT) (R6 : T6) (R33 : T33) : KT := rnd ((kp.find 1000033).getD []) (E33 R33) (K22 Q R6)
def J4 (Q : QT) (a0 : Pt) (i4 o4 : Nat) (x2 : Int) (h : Zaa) : Prop := Den pg fn.ntmps (C [1, 1]) [(0, .ptr a0), (4, .ptr (some (i4, o4))), (2, .int .i64 x2)] h (KR Q)
def L6 (Q : QT) (a0 : Pt) (x2 : Int) (i4 o4 : Nat) (a9 : Pt) (n9 c9 : Nat) (e9 : Bool) (a52 : Pt) (n52 c52 : Nat) (e52 : Bool) (x53 x54 : Int) (h : Zaa) : Prop := Zdz (Den pg fn.ntmps (C [1, 1, 1, 0, 1, 0, 0])) ((kp.find 1000006).getD []) (K2 Q) [(0, .ptr a0), (2, .int .i64 x2), (4, .ptr (some (i4, o4))), (9, .slice a9 n9 c9 e9), (52, .slice a52 n52 c52 e52), (53, .int .i64 x53), (54, .int .i64 x54)] h
def J41 (Q : QT) (R6 : T6) (x54 x53 : Int) (a52 : Pt) (n52 c52 : Nat) (e52 : Bool) (a0 : Pt) (i4 o4 : Nat) (x2 : Int) (a9 : Pt) (n9 c9 : Nat) (e9 : Bool) (h : Zaa) : Prop := Den pg fn.ntmps (C [1, 1, 1, 0, 1, 0, 0, 1, 1, 1]) [(54, .int .i64 x54), (53, .int .i64 x53), (52, .slice a52 n52 c52 e52), (0, .ptr a0), (4, .ptr (some (i4, o4))), (2, .int .i64 x2), (9, .slice a9 n9 c9 e9)] h (K3 Q R6)
def J10 (Q : QT) (R6 : T6) (a12 : Pt) (n12 c12 : Nat) (e12 : Bool) (a0 : Pt) (x2 : Int) (i4 o4 : Nat) (a9 : Pt) (n9 c9 : Nat) (e9 : Bool) (x11 : Int) (a52 : Pt) (n52 c52 : Nat) (e52 : Bool) (x53 x54 : Int) (h : Zaa) : Prop := Den pg fn.ntmps (C [1, 1, 1, 0, 1, 0, 0, 1, 1, 0, 0, 1, 1, 1]) [(12, .slice a12 n12 c12 e12), (0, .ptr a0), (2, .int .i64 x2), (4, .ptr (some (i4, o4))), (9, .slice a9 n9 c9 e9), (11, .int .i64 x11), (52, .slice a52 n52 c52 e52), (53, .int .i64 x53), (54, .int .i64 x54)] h (K5 Q R6)
def Ybo (Q : QT) (a0 : Pt) (i4 o4 : Nat) (x2 : Int) (a9 : Pt) (n9 c9 : Nat) (e9 : Bool) (h : Zaa) : Prop := At (K1 Q) (.exit 0) [(0, .ptr a0), (4, .ptr (some (i4, o4))), (2, .int .i64 x2), (9, .slice a9 n9 c9 e9), (6, .undef)] h
def L12 (Q : QT) (R6 : T6) (a0 : Pt) (x2 : Int) (i4 o4 : Nat) (a9 : Pt) (n9 c9 : Nat) (e9 : Bool) (x11 : Int) (a14 : Pt) (n14 c14 : Nat) (e14 : Bool) (a52 : Pt) (n52 c52 : Nat) (e52 : Bool) (x53 x54 : Int) (a85 : Pt) (n85 c85 : Nat) (e85 : Bool) (x86 x87 : Int) (h : Zaa) : Prop := Zdz (Den pg fn.ntmps (C [1, 1, 1, 0, 1, 0, 0, 1, 1, 0, 0, 1, 1, 1, 1, 0, 1, 0, 0])) ((kp.find 1000012).getD []) (K8 Q R6) [(0, .ptr a0), (2, .int .i64 x2), (4, .ptr (some (i4, o4))), (9, .slice a9 n9 c9 e9), (11, .int .i64 x11), (14, .slice a14 n14 c14 e14), (52, .slice a52 n52 c52 e52), (53, .int .i64 x53), (54, .int .i64 x54), (85, .slice a85 n85 c85 e85), (86, .int .i64 x86), (87, .int .i64 x87)] h
def L19 (Q : QT) (R6 : T6) (R12 : T12) (a0 : Pt) (x2 : Int) (i4 o4 : Nat) (a9 : Pt) (n9 c9 : Nat) (e9 : Bool) (x11 : Int) (a17 : Pt) (n17 c17 : Nat) (e17 : Bool) (a18 : Pt) (n18 c18 : Nat) (e18 : Bool) (a52 : Pt) (n52 c52 : Nat) (e52 : Bool) (x53 x54 : Int) (a85 : Pt) (n85 c85 : Nat) (e85 : Bool) (x86 x87 : Int) (a102 : Pt) (n102 c102 : Nat) (e102 : Bool) (x103 x104 : Int) (h : Zaa) : Prop := Zdz (Den pg fn.ntmps (C [1, 1, 1, 0, 1, 0, 0, 1, 1, 0, 0, 1, 1, 1, 1, 0, 1, 0, 0, 1, 1, 0, 0, 1, 1, 1, 1, 0, 1, 0, 0])) ((kp.find 1000019).getD []) (K14 Q R6 R12) [(0, .ptr a0), (2, .int .i64 x2), (4, .ptr (some (i4, o4))), (9, .slice a9 n9 c9 e9), (11, .int .i64 x11), (17, .slice a17 n17 c17 e17), (18, .slice a18 n18 c18 e18), (52, .slice a52 n52 c52 e52), (53, .int .i64 x53), (54, .int .i64 x54), (85, .slice a85 n85 c85 e85), (86, .int .i64 x86), (87, .int .i64 x87), (102, .slice a102 n102 c102 e102), (103, .int .i64 x103), (104, .int .i64 x104)] h
def Ysw (Q : QT) (R6 : T6) (a14 : Pt) (n14 c14 : Nat) (e14 : Bool) (a0 : Pt) (x2 : Int) (i4 o4 : Nat) (a9 : Pt) (n9 c9 : Nat) (e9 : Bool) (x11 : Int) (a52 : Pt) (n52 c52 : Nat) (e52 : Bool) (x53 x54 : Int) (h : Zaa) : Prop := At (K7 Q R6) (.exit 2) [(14, .slice a14 n14 c14 e14), (0, .ptr a0), (2, .int .i64 x2), (4, .ptr (some (i4, o4))), (9, .slice a9 n9 c9 e9), (11, .int .i64 x11), (52, .slice a52 n52 c52 e52), (53, .int .i64 x53), (54, .int .i64 x54), (6, .undef)] h
def L22 (Q : QT) (R6 : T6) (R12 : T12) (R19 : T19) (a0 : Pt) (x2 : Int) (i4 o4 : Nat) (a9 : Pt) (n9 c9 : Nat) (e9 : Bool) (x11 : Int) (a17 : Pt) (n17 c17 : Nat) (e17 : Bool) (a18 : Pt) (n18 c18 : Nat) (e18 : Bool) (a20 : Pt) (n20 c20 : Nat) (e20 : Bool) (a52 : Pt) (n52 c52 : Nat) (e52 : Bool) (x53 x54 : Int) (a85 : Pt) (n85 c85 : Nat) (e85 : Bool) (x86 x87 : Int) (a102 : Pt) (n102 c102 : Nat) (e102 : Bool) (x103 x104 : Int) (a108 : Pt) (n108 c108 : Nat) (e108 : Bool) (x109 x110 : Int) (h : Zaa) : Prop := Zdz (Den pg fn.ntmps (C [1, 1, 1, 0, 1, 0, 0, 1, 1, 0, 0, 1, 1, 1, 1, 0, 1, 0, 0, 1, 1, 0, 0, 1, 1, 1, 1, 0, 1, 0, 0, 1, 1, 0, 0, 1, 1, 0, 0])) ((kp.find 1000022).getD []) (K19 Q R6 R12 R19) [(0, .ptr a0), (2, .int .i64 x2), (4, .ptr (some (i4, o4))), (9, .slice a9 n9 c9 e9), (11, .int .i64 x11), (17, .slice a17 n17 c17 e17), (18, .slice a18 n18 c18 e18), (20, .slice a20 n20 c20 e20), (52, .slice a52 n52 c52 e52), (53, .int .i64 x53), (54, .int .i64 x54), (85, .slice a85 n85 c85 e85), (86, .int .i64 x86), (87, .int .i64 x87), (102, .slice a102 n102 c102 e102), (103, .int .i64 x103), (104, .int .i64 x104), (108, .slice a108 n108 c108 e108), (109, .int .i64 x109), (110, .int .i64 x110)] h
def Ytd (Q : QT) (R6 : T6) (R12 : T12) (a18 : Pt) (n18 c18 : Nat) (e18 : Bool) (a0 : Pt) (x87 x86 : Int) (a85 : Pt) (n85 c85 : Nat) (e85 : Bool) (x2 : Int) (i4 o4 : Nat) (a9 : Pt) (n9 c9 : Nat) (e9 : Bool) (x11 : Int) (a52 : Pt) (n52 c52 : Nat) (e52 : Bool) (x53 x54 : Int) (h : Zaa) : Prop := At (K13 Q R6 R12) (.exit 4) [(18, .slice a18 n18 c18 e18), (0, .ptr a0), (87, .int .i64 x87), (86, .int .i64 x86), (85, .slice a85 n85 c85 e85), (2, .int .i64 x2), (4, .ptr (some (i4, o4))), (9, .slice a9 n9 c9 e9), (11, .int .i64 x11), (52, .slice a52 n52 c52 e52), (53, .int .i64 x53), (54, .int .i64 x54)] h
def L33 (Q : QT) (R6 : T6) (a0 : Pt) (x2 : Int) (i4 o4 : Nat) (a9 : Pt) (n9 c9 : Nat) (e9 : Bool) (x11 : Int) (a52 : Pt) (n52 c52 : Nat) (e52 : Bool) (x53 x54 : Int) (a132 : Pt) (n132 c132 : Nat) (e132 : Bool) (x133 x134 : Int) (h : Zaa) : Prop := Zdz (Den pg fn.ntmps (C [1, 1, 1, 0, 1, 0, 0, 1, 1, 0, 0, 1, 1, 1, 1, 1, 1, 0, 0])) ((kp.find 1000033).getD []) (K22 Q R6) [(0, .ptr a0), (2, .int .i64 x2), (4, .ptr (some (i4, o4))), (9, .slice a9 n9 c9 e9), (11, .int .i64 x11), (52, .slice a52 n52 c52 e52), (53, .int .i64 x53), (54, .int .i64 x54), (132, .slice a132 n132 c132 e132), (133, .int .i64 x133), (134, .int .i64 x134)] h
def Ysz (Q : QT) (R6 : T6) (R12 : T12) (R19 : T19) (x104 x103 : Int) (a102 : Pt) (n102 c102 : Nat) (e102 : Bool) (a17 : Pt) (n17 c17 : Nat) (e17 : Bool) (a18 : Pt) (n18 c18 : Nat) (e18 : Bool) (a0 : Pt) (x87 x86 : Int) (a85 : Pt) (n85 c85 : Nat) (e85 : Bool) (x2 : Int) (i4 o4 : Nat) (a9 : Pt) (n9 c9 : Nat) (e9 : Bool) (x11 : Int) (a52 : Pt) (n52 c52 : Nat) (e52 : Bool) (x53 x54 : Int) (h : Zaa) : Prop := At (K18 Q R6 R12 R19) (.exit 6) [(104, .int .i64 x104), (103, .int .i64 x103), (102, .slice a102 n102 c102 e102), (17, .slice a17 n17 c17 e17), (18, .slice a18 n18 c18 e18), (0, .ptr a0), (87, .int .i64 x87), (86, .int .i64 x86), (85, .slice a85 n85 c85 e85), (2, .int .i64 x2), (4, .ptr (some (i4, o4))), (9, .slice a9 n9 c9 e9), (11, .int .i64 x11), (52, .slice a52 n52 c52 e52), (53, .int .i64 x53), (54, .int .i64 x54)] h
def J40 (Q : QT) (R6 : T6) (R33 : T33) (x134 x133 : Int) (a132 : Pt) (n132 c132 : Nat) (e132 : Bool) (x11 : Int) (a9 : Pt) (n9 c9 : Nat) (e9 : Bool) (a0 : Pt) (x54 x53 : Int) (a52 : Pt) (n52 c52 : Nat) (e52 : Bool) (i4 o4 : Nat) (x2 : Int) (h : Zaa) : Prop := Den pg fn.ntmps (C [1, 1, 1, 0, 1, 0, 0, 1, 1, 0, 0, 1, 1, 1, 1, 1, 1, 0, 0, 1, 1, 1]) [(134, .int .i64 x134), (133, .int .i64 x133), (132, .slice a132 n132 c132 e132), (11, .int .i64 x11), (9, .slice a9 n9 c9 e9), (0, .ptr a0), (54, .int .i64 x54), (53, .int .i64 x53), (52, .slice a52 n52 c52 e52), (4, .ptr (some (i4, o4))), (2, .int .i64 x2)] h (K23 Q R6 R33)
def Yrf (Q : QT) (R6 : T6) (x54 x53 : Int) (a52 : Pt) (n52 c52 : Nat) (e52 : Bool) (a0 : Pt) (i4 o4 : Nat) (x2 : Int) (a9 : Pt) (n9 c9 : Nat) (e9 : Bool) (h : Zaa) : Prop := At (K21 Q R6) (.exit 8) [(54, .int .i64 x54), (53, .int .i64 x53), (52, .slice a52 n52 c52 e52), (0, .ptr a0), (4, .ptr (some (i4, o4))), (2, .int .i64 x2), (9, .slice a9 n9 c9 e9), (6, .undef)] h
theorem J4i (Q : QT) (a0 : Pt) (i4 o4 : Nat) (x2 : Int) (h : Zaa) (ht :
 Zcn (h ++ [.cells Zaz [] false]) fun H24 => Zbl a0 fun I25 O26 => Zcz (Zbx H24 (.ptr (some (I25, O26 + 0))) 2) fun K27 => Zao K27 fun C28 Z29 => xSl (some C28) fun A30 N31 C32 E33 => Zao Z29 fun C34 Z35 => xSl (some C34) fun A36 N37 C38 E39 => Zcl Z35 (Zcz (Zbx H24 (.ptr (some (i4, o4))) 2) fun K40 => Zao K40 fun C41 Z42 => Zbp (some C41) fun S43 => Zao Z42 fun C44 Z45 => Zbp (some C44) fun S46 => Zcl Z45 ((Zbx H24 (.ptr (some (I25, O26 + 0))) 2 = Zbx H24 (.ptr (some (I25, O26 + 0))) 2) ∧ Zae pg Zjr [.agg [.slice A30 N31 C32 E33, .slice A36 N37 C38 E39], .agg [.str S43, .str S46]] H24 fun V47 H48 =>
 xSl (some V47) fun A49 N50 C51 E52 => L6 Q a0 x2 i4 o4 (some (h.length, 0)) 0 0 true A49 N50 C51 E52 (((N50 : Nat) : Int)) 0 H48))) : J4 Q a0 i4 o4 x2 h :=
 Zbb (kp := kp) (cast (by kernel_rfl) ht)
def L6t (Q : QT) (R6 : T6) (a0 : Pt) (x2 : Int) (i4 o4 : Nat) (a9 : Pt) (n9 c9 : Nat) (e9 : Bool) (a52 : Pt) (n52 c52 : Nat) (e52 : Bool) (x53 x54 : Int) (h : Zaa) : Prop :=
 bcase (decide ((x54 : Int) < x53)) ((0 ≤ (x54 : Int) ∧ (x54 : Int) < (n52 : Nat)) ∧ (Zbl a52 fun I53 O54 => Zen .i64 (Zal h (.ptr (some (I53, O54 + (Int.toNat x54) * 1)))) fun X55 => Zbl a0 fun I56 O57 => xSl (Zal h (.ptr (some (I56, O57 + 0 + 1)))) fun A58 N59 C60 E61 => (0 ≤ (X55 : Int) ∧ (X55 : Int) < (N59 : Nat)) ∧ (Zbl A58 fun I62 O63 => Zcz (Zbx h (.ptr (some (I62, O63 + (Int.toNat X55) * 3))) 3) fun K64 => Zao K64 fun C65 Z66 => Zbp (some C65) fun S67 => Zao Z66 fun C68 Z69 => Zbp (some C68) fun S70 => Zao Z69 fun C71 Z72 => xSl (some C71) fun A73 N74 C75 E76 => Zcl Z72 (Zbp (Zal h (.ptr (some (i4, o4 + 1)))) fun S77 => (Zbx h (.ptr (some (I62, O63 + (Int.toNat X55) * 3))) 3 = Zbx h (.ptr (some (I62, O63 + (Int.toNat X55) * 3))) 3) ∧ (Zal h (.ptr (some (I56, O57 + 0 + 1))) = Zal h (.ptr (some (I56, O57 + 0 + 1)))) ∧ Zae pg Zgs [.agg [.str S67, .str S70, .slice A73 N74 C75 E76], .str S77] h fun V78 H79 =>
 Ztq V78 fun K80 => Zao K80 fun C81 Z82 => xSl (some C81) fun A83 N84 C85 E86 => Zao Z82 fun C87 Z88 => Zch (some C87) fun B89 => Zcl Z88 ((Zal H79 (.ptr (some (I56, O57 + 0 + 1))) = Zal h (.ptr (some (I56, O57 + 0 + 1)))) ∧ bcase (!B89) (J41 Q R6 x54 x53 a52 n52 c52 e52 a0 i4 o4 x2 a9 n9 c9 e9 H79) (bcase (decide (((((N84 : Nat) : Int)) : Int) > 0)) (bcase ((x2 : Int) == 0) (J41 Q R6 x54 x53 a52 n52 c52 e52 a0 i4 o4 x2 a9 n9 c9 e9 H79) (J10 Q R6 A83 N84 C85 E86 a0 x2 i4 o4 a9 n9 c9 e9 X55 a52 n52 c52 e52 x53 x54 H79)) (J10 Q R6 A83 N84 C85 E86 a0 x2 i4 o4 a9 n9 c9 e9 X55 a52 n52 c52 e52 x53 x54 H79))))))) (Ybo Q a0 i4 o4 x2 a9 n9 c9 e9 h)
theorem Zvy (Q : QT) (R6 : T6) (a0 : Pt) (x2 : Int) (i4 o4 : Nat) (a9 : Pt) (n9 c9 : Nat) (e9 : Bool) (a52 : Pt) (n52 c52 : Nat) (e52 : Bool) (x53 x54 : Int) (h : Zaa) (ht : L6t Q R6 a0 x2 i4 o4 a9 n9 c9 e9 a52 n52 c52 e52 x53 x54 h) : Den pg fn.ntmps (C [1, 1, 1, 0, 1, 0, 0]) [(0, .ptr a0), (2, .int .i64 x2), (4, .ptr (some (i4, o4))), (9, .slice a9 n9 c9 e9), (52, .slice a52 n52 c52 e52), (53, .int .i64 x53), (54, .int .i64 x54)] h (K3 Q R6) :=
 Zbb (kp := kp) (cast (by kernel_rfl) ht)
theorem L6ind (Q : QT) (a0 : Pt) (x2 : Int) (i4 o4 : Nat) (a52 : Pt) (n52 c52 : Nat) (e52 : Bool) (x53 : Int) {G : Type} (J : G → Pt → Nat → Nat → Bool → Int → Zaa → Prop) (m : G → Nat)
 (hr : ∀ (g : G) (a9 : Pt) (n9 c9 : Nat) (e9 : Bool) (x54 : Int) (h : Zaa), J g a9 n9 c9 e9 x54 h → ∀ (R6 : T6), (∀ g' (a9 : Pt) (n9 c9 : Nat) (e9 : Bool) (x54 : Int) (h : Zaa), m g' < m g → J g' a9 n9 c9 e9 x54 h → R6 a0 x2 i4 o4 a9 n9 c9 e9 a52 n52 c52 e52 x53 x54 h) → L6t Q R6 a0 x2 i4 o4 a9 n9 c9 e9 a52 n52 c52 e52 x53 x54 h)
 (g : G) (a9 : Pt) (n9 c9 : Nat) (e9 : Bool) (x54 : Int) (h : Zaa) (hj : J g a9 n9 c9 e9 x54 h) : L6 Q a0 x2 i4 o4 a9 n9 c9 e9 a52 n52 c52 e52 x53 x54 h := by
 refine Zdz.inv2 (fun g => E6 fun a0' x2' i4' o4' a9 n9 c9 e9 a52' n52' c52' e52' x53' x54 h => a0 = a0' ∧ x2 = x2' ∧ i4 = i4' ∧ o4 = o4' ∧ a52 = a52' ∧ n52 = n52' ∧ c52 = c52' ∧ e52 = e52' ∧ x53 = x53' ∧ J g a9 n9 c9 e9 x54 h) (fun g => E6 fun a0' x2' i4' o4' a9 n9 c9 e9 a52' n52' c52' e52' x53' x54 h => a0 = a0' ∧ x2 = x2' ∧ i4 = i4' ∧ o4 = o4' ∧ a52 = a52' ∧ n52 = n52' ∧ c52 = c52' ∧ e52 = e52' ∧ x53 = x53' ∧ ∃ g', m g' < m g ∧ J g' a9 n9 c9 e9 x54 h) m ?_ ?_ g ⟨rfl, rfl, rfl, rfl, rfl, rfl, rfl, rfl, rfl, hj⟩
 ·intro g env h hi
  obtain ⟨a0', x2', i4', o4', a9, n9, c9, e9, a52', n52', c52', e52', x53', x54, rfl, rfl, rfl, rfl, rfl, rfl, rfl, rfl, rfl, rfl, hj⟩ := Zke hi
  exact Zvy Q _ a0 x2 i4 o4 a9 n9 c9 e9 a52 n52 c52 e52 x53 x54 h (hr g a9 n9 c9 e9 x54 h hj (fun a0' x2' i4' o4' a9 n9 c9 e9 a52' n52' c52' e52' x53' x54 h => a0 = a0' ∧ x2 = x2' ∧ i4 = i4' ∧ o4 = o4' ∧ a52 = a52' ∧ n52 = n52' ∧ c52 = c52' ∧ e52 = e52' ∧ x53 = x53' ∧ ∃ g', m g' < m g ∧ J g' a9 n9 c9 e9 x54 h) fun g' a9 n9 c9 e9 x54 h hlt hj => ⟨rfl, rfl, rfl, rfl, rfl, rfl, rfl, rfl, rfl, g', hlt, hj⟩)
 ·intro g env h hi
  obtain ⟨a0', x2', i4', o4', a9, n9, c9, e9, a52', n52', c52', e52', x53', x54, rfl, rfl, rfl, rfl, rfl, rfl, rfl, rfl, rfl, rfl, g', hlt, hj⟩ := Zke hi
  exact ⟨g', hlt, rfl, rfl, rfl, rfl, rfl, rfl, rfl, rfl, rfl, hj⟩
theorem J41i (Q : QT) (R6 : T6) (x54 x53 : Int) (a52 : Pt) (n52 c52 : Nat) (e52 : Bool) (a0 : Pt) (i4 o4 : Nat) (x2 : Int) (a9 : Pt) (n9 c9 : Nat) (e9 : Bool) (h : Zaa) (ht :
 R6 a0 x2 i4 o4 a9 n9 c9 e9 a52 n52 c52 e52 x53 (IntKind.wrap .i64 (x54 + 1)) h) : J41 Q R6 x54 x53 a52 n52 c52 e52 a0 i4 o4 x2 a9 n9 c9 e9 h :=
 Zbb (kp := kp) (cast (by kernel_rfl) ht)
theorem J10i (Q : QT) (R6 : T6) (a12 : Pt) (n12 c12 : Nat) (e12 : Bool) (a0 : Pt) (x2 : Int) (i4 o4 : Nat) (a9 : Pt) (n9 c9 : Nat) (e9 : Bool) (x11 : Int) (a52 : Pt) (n52 c52 : Nat) (e52 : Bool) (x53 x54 : Int) (h : Zaa) (ht :
 Zcn (h ++ [.cells Zaz [] false]) fun H90 => Zcn (H90 ++ [.cells Zbw [.slice (some (h.length, 0)) 0 0 true] false]) fun H91 => L12 Q R6 a0 x2 i4 o4 a9 n9 c9 e9 x11 (some (H90.length, 0)) 1 1 true a52 n52 c52 e52 x53 x54 a12 n12 c12 e12 (((n12 : Nat) : Int)) 0 H91) : J10 Q R6 a12 n12 c12 e12 a0 x2 i4 o4 a9 n9 c9 e9 x11 a52 n52 c52 e52 x53 x54 h :=
 Zbb (kp := kp) (cast (by kernel_rfl) ht)
theorem A6x0i (Q : QT) (a0 : Pt) (i4 o4 : Nat) (x2 : Int) (a9 : Pt) (n9 c9 : Nat) (e9 : Bool) (h : Zaa) (ht :
 Zbl a0 fun I92 O93 => Yhr (Zal h (.ptr (some (I92, O93 + 2)))) fun m_94 => Zcz (Zbx h (.ptr (some (i4, o4))) 2) fun K95 => Zao K95 fun C96 Z97 => Zbp (some C96) fun S98 => Zao Z97 fun C99 Z100 => Zbp (some C99) fun S101 => Zcl Z100 ((Zal h (.ptr (some (I92, O93 + 2))) = Zal h (.ptr (some (I92, O93 + 2)))) ∧ Zae pg Zqa [.agg [.str S98, .str S101], .int .i64 x2] h fun V102 H103 =>
 Zbp (some V102) fun S104 => (Zal H103 (.ptr (some (I92, O93 + 2))) = Zal h (.ptr (some (I92, O93 + 2)))) ∧ xMp m_94 fun I105 => Zfi H103 (some I105) fun es_106 k_107 => Yds es_106 k_107 S104 (.slice a9 n9 c9 e9) fun es_108 k_109 => Zcn (List.set H103 I105 (.map es_108 k_109)) fun H110 => Q (.slice a9 n9 c9 e9) H110)) : Ybo Q a0 i4 o4 x2 a9 n9 c9 e9 h :=
 At.mk (cast (by kernel_rfl) ht)
def L12t (Q : QT) (R6 : T6) (R12 : T12) (a0 : Pt) (x2 : Int) (i4 o4 : Nat) (a9 : Pt) (n9 c9 : Nat) (e9 : Bool) (x11 : Int) (a14 : Pt) (n14 c14 : Nat) (e14 : Bool) (a52 : Pt) (n52 c52 : Nat) (e52 : Bool) (x53 x54 : Int) (a85 : Pt) (n85 c85 : Nat) (e85 : Bool) (x86 x87 : Int) (h : Zaa) : Prop :=
 bcase (decide ((x87 : Int) < x86)) ((0 ≤ (x87 : Int) ∧ (x87 : Int) < (n85 : Nat)) ∧ (Zbl a85 fun I111 O112 => Zcz (Zbx h (.ptr (some (I111, O112 + (Int.toNat x87) * 2))) 2) fun K113 => Zao K113 fun C114 Z115 => Zbp (some C114) fun S116 => Zao Z115 fun C117 Z118 => Zbp (some C117) fun S119 => Zcl Z118 (Zcn (h ++ [.cells Zad [.str [], .str []] false]) fun H120 => Zcp (Zbn H120 (.ptr (some (h.length, 0))) [.str S116, .str S119]) fun H121 => Zcz (Zbx H121 (.ptr (some (h.length, 0))) 2) fun K122 => Zao K122 fun C123 Z124 => Zbp (some C123) fun S125 => Zao Z124 fun C126 Z127 => Zbp (some C126) fun S128 => Zcl Z127 (Zae pg Zix [.ptr a0, .agg [.str S125, .str S128], .int .i64 (IntKind.wrap .i64 (x2 - 1))] H121 fun V129 H130 =>
 xSl (some V129) fun A131 N132 C133 E134 => Zbl a0 fun I135 O136 => Zch (Zal H130 (.ptr (some (I135, O136 + 4)))) fun B137 => bcase (!B137) (Q (.slice none 0 0 true) H130) (Zcn (H130 ++ [.cells Zbw [] false]) fun H138 => L19 Q R6 R12 a0 x2 i4 o4 a9 n9 c9 e9 x11 A131 N132 C133 E134 (some (H130.length, 0)) 0 0 true a52 n52 c52 e52 x53 x54 a85 n85 c85 e85 x86 x87 a14 n14 c14 e14 (((n14 : Nat) : Int)) 0 H138))))) (Ysw Q R6 a14 n14 c14 e14 a0 x2 i4 o4 a9 n9 c9 e9 x11 a52 n52 c52 e52 x53 x54 h)
theorem Ysm (Q : QT) (R6 : T6) (R12 : T12) (a0 : Pt) (x2 : Int) (i4 o4 : Nat) (a9 : Pt) (n9 c9 : Nat) (e9 : Bool) (x11 : Int) (a14 : Pt) (n14 c14 : Nat) (e14 : Bool) (a52 : Pt) (n52 c52 : Nat) (e52 : Bool) (x53 x54 : Int) (a85 : Pt) (n85 c85 : Nat) (e85 : Bool) (x86 x87 : Int) (h : Zaa) (ht : L12t Q R6 R12 a0 x2 i4 o4 a9 n9 c9 e9 x11 a14 n14 c14 e14 a52 n52 c52 e52 x53 x54 a85 n85 c85 e85 x86 x87 h) : Den pg fn.ntmps (C [1, 1, 1, 0, 1, 0, 0, 1, 1, 0, 0, 1, 1, 1, 1, 0, 1, 0, 0]) [(0, .ptr a0), (2, .int .i64 x2), (4, .ptr (some (i4, o4))), (9, .slice a9 n9 c9 e9), (11, .int .i64 x11), (14, .slice a14 n14 c14 e14), (52, .slice a52 n52 c52 e52), (53, .int .i64 x53), (54, .int .i64 x54), (85, .slice a85 n85 c85 e85), (86, .int .i64 x86), (87, .int .i64 x87)] h (K9 Q R6 R12) :=
 Zbb (kp := kp) (cast (by kernel_rfl) ht)
theorem L12ind (Q : QT) (R6 : T6) (a0 : Pt) (x2 : Int) (i4 o4 : Nat) (a9 : Pt) (n9 c9 : Nat) (e9 : Bool) (x11 : Int) (a52 : Pt) (n52 c52 : Nat) (e52 : Bool) (x53 x54 : Int) (a85 : Pt) (n85 c85 : Nat) (e85 : Bool) (x86 : Int) {G : Type} (J : G → Pt → Nat → Nat → Bool → Int → Zaa → Prop) (m : G → Nat)
 (hr : ∀ (g : G) (a14 : Pt) (n14 c14 : Nat) (e14 : Bool) (x87 : Int) (h : Zaa), J g a14 n14 c14 e14 x87 h → ∀ (R12 : T12), (∀ g' (a14 : Pt) (n14 c14 : Nat) (e14 : Bool) (x87 : Int) (h : Zaa), m g' < m g → J g' a14 n14 c14 e14 x87 h → R12 a0 x2 i4 o4 a9 n9 c9 e9 x11 a14 n14 c14 e14 a52 n52 c52 e52 x53 x54 a85 n85 c85 e85 x86 x87 h) → L12t Q R6 R12 a0 x2 i4 o4 a9 n9 c9 e9 x11 a14 n14 c14 e14 a52 n52 c52 e52 x53 x54 a85 n85 c85 e85 x86 x87 h)
 (g : G) (a14 : Pt) (n14 c14 : Nat) (e14 : Bool) (x87 : Int) (h : Zaa) (hj : J g a14 n14 c14 e14 x87 h) : L12 Q R6 a0 x2 i4 o4 a9 n9 c9 e9 x11 a14 n14 c14 e14 a52 n52 c52 e52 x53 x54 a85 n85 c85 e85 x86 x87 h := by
 refine Zdz.inv2 (fun g => E12 fun a0' x2' i4' o4' a9' n9' c9' e9' x11' a14 n14 c14 e14 a52' n52' c52' e52' x53' x54' a85' n85' c85' e85' x86' x87 h => a0 = a0' ∧ x2 = x2' ∧ i4 = i4' ∧ o4 = o4' ∧ a9 = a9' ∧ n9 = n9' ∧ c9 = c9' ∧ e9 = e9' ∧ x11 = x11' ∧ a52 = a52' ∧ n52 = n52' ∧ c52 = c52' ∧ e52 = e52' ∧ x53 = x53' ∧ x54 = x54' ∧ a85 = a85' ∧ n85 = n85' ∧ c85 = c85' ∧ e85 = e85' ∧ x86 = x86' ∧ J g a14 n14 c14 e14 x87 h) (fun g => E12 fun a0' x2' i4' o4' a9' n9' c9' e9' x11' a14 n14 c14 e14 a52' n52' c52' e52' x53' x54' a85' n85' c85' e85' x86' x87 h => a0 = a0' ∧ x2 = x2' ∧ i4 = i4' ∧ o4 = o4' ∧ a9 = a9' ∧ n9 = n9' ∧ c9 = c9' ∧ e9 = e9' ∧ x11 = x11' ∧ a52 = a52' ∧ n52 = n52' ∧ c52 = c52' ∧ e52 = e52' ∧ x53 = x53' ∧ x54 = x54' ∧ a85 = a85' ∧ n85 = n85' ∧ c85 = c85' ∧ e85 = e85' ∧ x86 = x86' ∧ ∃ g', m g' < m g ∧ J g' a14 n14 c14 e14 x87 h) m ?_ ?_ g ⟨rfl, rfl, rfl, rfl, rfl, rfl, rfl, rfl, rfl, rfl, rfl, rfl, rfl, rfl, rfl, rfl, rfl, rfl, rfl, rfl, hj⟩
 ·intro g env h hi
  obtain ⟨a0', x2', i4', o4', a9', n9', c9', e9', x11', a14, n14, c14, e14, a52', n52', c52', e52', x53', x54', a85', n85', c85', e85', x86', x87, rfl, rfl, rfl, rfl, rfl, rfl, rfl, rfl, rfl, rfl, rfl, rfl, rfl, rfl, rfl, rfl, rfl, rfl, rfl, rfl, rfl, hj⟩ := Ylh hi
  exact Ysm Q R6 (fun a0' x2' i4' o4' a9' n9' c9' e9' x11' a14 n14 c14 e14 a52' n52' c52' e52' x53' x54' a85' n85' c85' e85' x86' x87 h => a0 = a0' ∧ x2 = x2' ∧ i4 = i4' ∧ o4 = o4' ∧ a9 = a9' ∧ n9 = n9' ∧ c9 = c9' ∧ e9 = e9' ∧ x11 = x11' ∧ a52 = a52' ∧ n52 = n52' ∧ c52 = c52' ∧ e52 = e52' ∧ x53 = x53' ∧ x54 = x54' ∧ a85 = a85' ∧ n85 = n85' ∧ c85 = c85' ∧ e85 = e85' ∧ x86 = x86' ∧ ∃ g', m g' < m g ∧ J g' a14 n14 c14 e14 x87 h) a0 x2 i4 o4 a9 n9 c9 e9 x11 a14 n14 c14 e14 a52 n52 c52 e52 x53 x54 a85 n85 c85 e85 x86 x87 h (hr g a14 n14 c14 e14 x87 h hj (fun a0' x2' i4' o4' a9' n9' c9' e9' x11' a14 n14 c14 e14 a52' n52' c52' e52' x53' x54' a85' n85' c85' e85' x86' x87 h => a0 = a0' ∧ x2 = x2' ∧ i4 = i4' ∧ o4 = o4' ∧ a9 = a9' ∧ n9 = n9' ∧ c9 = c9' ∧ e9 = e9' ∧ x11 = x11' ∧ a52 = a52' ∧ n52 = n52' ∧ c52 = c52' ∧ e52 = e52' ∧ x53 = x53' ∧ x54 = x54' ∧ a85 = a85' ∧ n85 = n85' ∧ c85 = c85' ∧ e85 = e85' ∧ x86 = x86' ∧ ∃ g', m g' < m g ∧ J g' a14 n14 c14 e14 x87 h) fun g' a14 n14 c14 e14 x87 h hlt hj => ⟨rfl, rfl, rfl, rfl, rfl, rfl, rfl, rfl, rfl, rfl, rfl, rfl, rfl, rfl, rfl, rfl, rfl, rfl, rfl, rfl, g', hlt, hj⟩)
 ·intro g env h hi
  obtain ⟨a0', x2', i4', o4', a9', n9', c9', e9', x11', a14, n14, c14, e14, a52', n52', c52', e52', x53', x54', a85', n85', c85', e85', x86', x87, rfl, rfl, rfl, rfl, rfl, rfl, rfl, rfl, rfl, rfl, rfl, rfl, rfl, rfl, rfl, rfl, rfl, rfl, rfl, rfl, rfl, g', hlt, hj⟩ := Ylh hi
  exact ⟨g', hlt, rfl, rfl, rfl, rfl, rfl, rfl, rfl, rfl, rfl, rfl, rfl, rfl, rfl, rfl, rfl, rfl, rfl, rfl, rfl, rfl, hj⟩
def L19t (Q : QT) (R6 : T6) (R12 : T12) (R19 : T19) (a0 : Pt) (x2 : Int) (i4 o4 : Nat) (a9 : Pt) (n9 c9 : Nat) (e9 : Bool) (x11 : Int) (a17 : Pt) (n17 c17 : Nat) (e17 : Bool) (a18 : Pt) (n18 c18 : Nat) (e18 : Bool) (a52 : Pt) (n52 c52 : Nat) (e52 : Bool) (x53 x54 : Int) (a85 : Pt) (n85 c85 : Nat) (e85 : Bool) (x86 x87 : Int) (a102 : Pt) (n102 c102 : Nat) (e102 : Bool) (x103 x104 : Int) (h : Zaa) : Prop :=
 bcase (decide ((x104 : Int) < x103)) ((0 ≤ (x104 : Int) ∧ (x104 : Int) < (n102 : Nat)) ∧ (Zbl a102 fun I139 O140 => xSl (Zal h (.ptr (some (I139, O140 + (Int.toNat x104) * 1)))) fun A141 N142 C143 E144 => L22 Q R6 R12 R19 a0 x2 i4 o4 a9 n9 c9 e9 x11 a17 n17 c17 e17 a18 n18 c18 e18 A141 N142 C143 E144 a52 n52 c52 e52 x53 x54 a85 n85 c85 e85 x86 x87 a102 n102 c102 e102 x103 x104 a17 n17 c17 e17 (((n17 : Nat) : Int)) 0 h)) (Ytd Q R6 R12 a18 n18 c18 e18 a0 x87 x86 a85 n85 c85 e85 x2 i4 o4 a9 n9 c9 e9 x11 a52 n52 c52 e52 x53 x54 h)
theorem Ysj (Q : QT) (R6 : T6) (R12 : T12) (R19 : T19) (a0 : Pt) (x2 : Int) (i4 o4 : Nat) (a9 : Pt) (n9 c9 : Nat) (e9 : Bool) (x11 : Int) (a17 : Pt) (n17 c17 : Nat) (e17 : Bool) (a18 : Pt) (n18 c18 : Nat) (e18 : Bool) (a52 : Pt) (n52 c52 : Nat) (e52 : Bool) (x53 x54 : Int) (a85 : Pt) (n85 c85 : Nat) (e85 : Bool) (x86 x87 : Int) (a102 : Pt) (n102 c102 : Nat) (e102 : Bool) (x103 x104 : Int) (h : Zaa) (ht : L19t Q R6 R12 R19 a0 x2 i4 o4 a9 n9 c9 e9 x11 a17 n17 c17 e17 a18 n18 c18 e18 a52 n52 c52 e52 x53 x54 a85 n85 c85 e85 x86 x87 a102 n102 c102 e102 x103 x104 h) : Den pg fn.ntmps (C [1, 1, 1, 0, 1, 0, 0, 1, 1, 0, 0, 1, 1, 1, 1, 0, 1, 0, 0, 1, 1, 0, 0, 1, 1, 1, 1, 0, 1, 0, 0]) [(0, .ptr a0), (2, .int .i64 x2), (4, .ptr (some (i4, o4))), (9, .slice a9 n9 c9 e9), (11, .int .i64 x11), (17, .slice a17 n17 c17 e17), (18, .slice a18 n18 c18 e18), (52, .slice a52 n52 c52 e52), (53, .int .i64 x53), (54, .int .i64 x54), (85, .slice a85 n85 c85 e85), (86, .int .i64 x86), (87, .int .i64 x87), (102, .slice a102 n102 c102 e102), (103, .int .i64 x103), (104, .int .i64 x104)] h (K15 Q R6 R12 R19) :=
 Zbb (kp := kp) (cast (by kernel_rfl) ht)
theorem L19ind (Q : QT) (R6 : T6) (R12 : T12) (a0 : Pt) (x2 : Int) (i4 o4 : Nat) (a9 : Pt) (n9 c9 : Nat) (e9 : Bool) (x11 : Int) (a17 : Pt) (n17 c17 : Nat) (e17 : Bool) (a52 : Pt) (n52 c52 : Nat) (e52 : Bool) (x53 x54 : Int) (a85 : Pt) (n85 c85 : Nat) (e85 : Bool) (x86 x87 : Int) (a102 : Pt) (n102 c102 : Nat) (e102 : Bool) (x103 : Int) {G : Type} (J : G → Pt → Nat → Nat → Bool → Int → Zaa → Prop) (m : G → Nat)
 (hr : ∀ (g : G) (a18 : Pt) (n18 c18 : Nat) (e18 : Bool) (x104 : Int) (h : Zaa), J g a18 n18 c18 e18 x104 h → ∀ (R19 : T19), (∀ g' (a18 : Pt) (n18 c18 : Nat) (e18 : Bool) (x104 : Int) (h : Zaa), m g' < m g → J g' a18 n18 c18 e18 x104 h → R19 a0 x2 i4 o4 a9 n9 c9 e9 x11 a17 n17 c17 e17 a18 n18 c18 e18 a52 n52 c52 e52 x53 x54 a85 n85 c85 e85 x86 x87 a102 n102 c102 e102 x103 x104 h) → L19t Q R6 R12 R19 a0 x2 i4 o4 a9 n9 c9 e9 x11 a17 n17 c17 e17 a18 n18 c18 e18 a52 n52 c52 e52 x53 x54 a85 n85 c85 e85 x86 x87 a102 n102 c102 e102 x103 x104 h)
 (g : G) (a18 : Pt) (n18 c18 : Nat) (e18 : Bool) (x104 : Int) (h : Zaa) (hj : J g a18 n18 c18 e18 x104 h) : L19 Q R6 R12 a0 x2 i4 o4 a9 n9 c9 e9 x11 a17 n17 c17 e17 a18 n18 c18 e18 a52 n52 c52 e52 x53 x54 a85 n85 c85 e85 x86 x87 a102 n102 c102 e102 x103 x104 h := by
 refine Zdz.inv2 (fun g => E19 fun a0' x2' i4' o4' a9' n9' c9' e9' x11' a17' n17' c17' e17' a18 n18 c18 e18 a52' n52' c52' e52' x53' x54' a85' n85' c85' e85' x86' x87' a102' n102' c102' e102' x103' x104 h => a0 = a0' ∧ x2 = x2' ∧ i4 = i4' ∧ o4 = o4' ∧ a9 = a9' ∧ n9 = n9' ∧ c9 = c9' ∧ e9 = e9' ∧ x11 = x11' ∧ a17 = a17' ∧ n17 = n17' ∧ c17 = c17' ∧ e17 = e17' ∧ a52 = a52' ∧ n52 = n52' ∧ c52 = c52' ∧ e52 = e52' ∧ x53 = x53' ∧ x54 = x54' ∧ a85 = a85' ∧ n85 = n85' ∧ c85 = c85' ∧ e85 = e85' ∧ x86 = x86' ∧ x87 = x87' ∧ a102 = a102' ∧ n102 = n102' ∧ c102 = c102' ∧ e102 = e102' ∧ x103 = x103' ∧ J g a18 n18 c18 e18 x104 h) (fun g => E19 fun a0' x2' i4' o4' a9' n9' c9' e9' x11' a17' n17' c17' e17' a18 n18 c18 e18 a52' n52' c52' e52' x53' x54' a85' n85' c85' e85' x86' x87' a102' n102' c102' e102' x103' x104 h => a0 = a0' ∧ x2 = x2' ∧ i4 = i4' ∧ o4 = o4' ∧ a9 = a9' ∧ n9 = n9' ∧ c9 = c9' ∧ e9 = e9' ∧ x11 = x11' ∧ a17 = a17' ∧ n17 = n17' ∧ c17 = c17' ∧ e17 = e17' ∧ a52 = a52' ∧ n52 = n52' ∧ c52 = c52' ∧ e52 = e52' ∧ x53 = x53' ∧ x54 = x54' ∧ a85 = a85' ∧ n85 = n85' ∧ c85 = c85' ∧ e85 = e85' ∧ x86 = x86' ∧ x87 = x87' ∧ a102 = a102' ∧ n102 = n102' ∧ c102 = c102' ∧ e102 = e102' ∧ x103 = x103' ∧ ∃ g', m g' < m g ∧ J g' a18 n18 c18 e18 x104 h) m ?_ ?_ g ⟨rfl, rfl, rfl, rfl, rfl, rfl, rfl, rfl, rfl, rfl, rfl, rfl, rfl, rfl, rfl, rfl, rfl, rfl, rfl, rfl, rfl, rfl, rfl, rfl, rfl, rfl, rfl, rfl, rfl, rfl, hj⟩
 ·intro g env h hi
  obtain ⟨a0', x2', i4', o4', a9', n9', c9', e9', x11', a17', n17', c17', e17', a18, n18, c18, e18, a52', n52', c52', e52', x53', x54', a85', n85', c85', e85', x86', x87', a102', n102', c102', e102', x103', x104, rfl, rfl, rfl, rfl, rfl, rfl, rfl, rfl, rfl, rfl, rfl, rfl, rfl, rfl, rfl, rfl, rfl, rfl, rfl, rfl, rfl, rfl, rfl, rfl, rfl, rfl, rfl, rfl, rfl, rfl, rfl, hj⟩ := Yju hi
  exact Ysj Q R6 R12 (fun a0' x2' i4' o4' a9' n9' c9' e9' x11' a17' n17' c17' e17' a18 n18 c18 e18 a52' n52' c52' e52' x53' x54' a85' n85' c85' e85' x86' x87' a102' n102' c102' e102' x103' x104 h => a0 = a0' ∧ x2 = x2' ∧ i4 = i4' ∧ o4 = o4' ∧ a9 = a9' ∧ n9 = n9' ∧ c9 = c9' ∧ e9 = e9' ∧ x11 = x11' ∧ a17 = a17' ∧ n17 = n17' ∧ c17 = c17' ∧ e17 = e17' ∧ a52 = a52' ∧ n52 = n52' ∧ c52 = c52' ∧ e52 = e52' ∧ x53 = x53' ∧ x54 = x54' ∧ a85 = a85' ∧ n85 = n85' ∧ c85 = c85' ∧ e85 = e85' ∧ x86 = x86' ∧ x87 = x87' ∧ a102 = a102' ∧ n102 = n102' ∧ c102 = c102' ∧ e102 = e102' ∧ x103 = x103' ∧ ∃ g', m g' < m g ∧ J g' a18 n18 c18 e18 x104 h) a0 x2 i4 o4 a9 n9 c9 e9 x11 a17 n17 c17 e17 a18 n18 c18 e18 a52 n52 c52 e52 x53 x54 a85 n85 c85 e85 x86 x87 a102 n102 c102 e102 x103 x104 h (hr g a18 n18 c18 e18 x104 h hj (fun a0' x2' i4' o4' a9' n9' c9' e9' x11' a17' n17' c17' e17' a18 n18 c18 e18 a52' n52' c52' e52' x53' x54' a85' n85' c85' e85' x86' x87' a102' n102' c102' e102' x103' x104 h => a0 = a0' ∧ x2 = x2' ∧ i4 = i4' ∧ o4 = o4' ∧ a9 = a9' ∧ n9 = n9' ∧ c9 = c9' ∧ e9 = e9' ∧ x11 = x11' ∧ a17 = a17' ∧ n17 = n17' ∧ c17 = c17' ∧ e17 = e17' ∧ a52 = a52' ∧ n52 = n52' ∧ c52 = c52' ∧ e52 = e52' ∧ x53 = x53' ∧ x54 = x54' ∧ a85 = a85' ∧ n85 = n85' ∧ c85 = c85' ∧ e85 = e85' ∧ x86 = x86' ∧ x87 = x87' ∧ a102 = a102' ∧ n102 = n102' ∧ c102 = c102' ∧ e102 = e102' ∧ x103 = x103' ∧ ∃ g', m g' < m g ∧ J g' a18 n18 c18 e18 x104 h) fun g' a18 n18 c18 e18 x104 h hlt hj => ⟨rfl, rfl, rfl, rfl, rfl, rfl, rfl, rfl, rfl, rfl, rfl, rfl, rfl, rfl, rfl, rfl, rfl, rfl, rfl, rfl, rfl, rfl, rfl, rfl, rfl, rfl, rfl, rfl, rfl, rfl, g', hlt, hj⟩)
 ·intro g env h hi
  obtain ⟨a0', x2', i4', o4', a9', n9', c9', e9', x11', a17', n17', c17', e17', a18, n18, c18, e18, a52', n52', c52', e52', x53', x54', a85', n85', c85', e85', x86', x87', a102', n102', c102', e102', x103', x104, rfl, rfl, rfl, rfl, rfl, rfl, rfl, rfl, rfl, rfl, rfl, rfl, rfl, rfl, rfl, rfl, rfl, rfl, rfl, rfl, rfl, rfl, rfl, rfl, rfl, rfl, rfl, rfl, rfl, rfl, rfl, g', hlt, hj⟩ := Yju hi
  exact ⟨g', hlt, rfl, rfl, rfl, rfl, rfl, rfl, rfl, rfl, rfl, rfl, rfl, rfl, rfl, rfl, rfl, rfl, rfl, rfl, rfl, rfl, rfl, rfl, rfl, rfl, rfl, rfl, rfl, rfl, rfl, rfl, hj⟩
theorem A12x2i (Q : QT) (R6 : T6) (a14 : Pt) (n14 c14 : Nat) (e14 : Bool) (a0 : Pt) (x2 : Int) (i4 o4 : Nat) (a9 : Pt) (n9 c9 : Nat) (e9 : Bool) (x11 : Int) (a52 : Pt) (n52 c52 : Nat) (e52 : Bool) (x53 x54 : Int) (h : Zaa) (ht :
 L33 Q R6 a0 x2 i4 o4 a9 n9 c9 e9 x11 a52 n52 c52 e52 x53 x54 a14 n14 c14 e14 (((n14 : Nat) : Int)) 0 h) : Ysw Q R6 a14 n14 c14 e14 a0 x2 i4 o4 a9 n9 c9 e9 x11 a52 n52 c52 e52 x53 x54 h :=
 At.mk (cast (by kernel_rfl) ht)
def L22t (Q : QT) (R6 : T6) (R12 : T12) (R19 : T19) (R22 : T22) (a0 : Pt) (x2 : Int) (i4 o4 : Nat) (a9 : Pt) (n9 c9 : Nat) (e9 : Bool) (x11 : Int) (a17 : Pt) (n17 c17 : Nat) (e17 : Bool) (a18 : Pt) (n18 c18 : Nat) (e18 : Bool) (a20 : Pt) (n20 c20 : Nat) (e20 : Bool) (a52 : Pt) (n52 c52 : Nat) (e52 : Bool) (x53 x54 : Int) (a85 : Pt) (n85 c85 : Nat) (e85 : Bool) (x86 x87 : Int) (a102 : Pt) (n102 c102 : Nat) (e102 : Bool) (x103 x104 : Int) (a108 : Pt) (n108 c108 : Nat) (e108 : Bool) (x109 x110 : Int) (h : Zaa) : Prop :=
 bcase (decide ((x110 : Int) < x109)) ((0 ≤ (x110 : Int) ∧ (x110 : Int) < (n108 : Nat)) ∧ (Zbl a108 fun I145 O146 => Zbp (Zal h (.ptr (some (I145, O146 + (Int.toNat x110) * 1)))) fun S147 => Zae pg Zdp [.slice a20 n20 c20 e20] h fun V148 H149 =>
 xSl (some V148) fun A150 N151 C152 E153 => Zcn (H149 ++ [.cells Zaz [.str S147] false]) fun H154 => Zdc pg Zbw H154 (.slice A150 N151 C152 E153) (.slice (some (H149.length, 0)) 1 1 true) fun V155 H156 => xSl (some V155) fun A157 N158 C159 E160 => Zcn (H156 ++ [.cells Zbw [.slice A157 N158 C159 E160] false]) fun H161 => Zdc pg Zma H161 (.slice a18 n18 c18 e18) (.slice (some (H156.length, 0)) 1 1 true) fun V162 H163 => xSl (some V162) fun A164 N165 C166 E167 => R22 a0 x2 i4 o4 a9 n9 c9 e9 x11 a17 n17 c17 e17 A164 N165 C166 E167 a20 n20 c20 e20 a52 n52 c52 e52 x53 x54 a85 n85 c85 e85 x86 x87 a102 n102 c102 e102 x103 x104 a108 n108 c108 e108 x109 (IntKind.wrap .i64 (x110 + 1)) H163)) (Ysz Q R6 R12 R19 x104 x103 a102 n102 c102 e102 a17 n17 c17 e17 a18 n18 c18 e18 a0 x87 x86 a85 n85 c85 e85 x2 i4 o4 a9 n9 c9 e9 x11 a52 n52 c52 e52 x53 x54 h)
theorem Yte (Q : QT) (R6 : T6) (R12 : T12) (R19 : T19) (R22 : T22) (a0 : Pt) (x2 : Int) (i4 o4 : Nat) (a9 : Pt) (n9 c9 : Nat) (e9 : Bool) (x11 : Int) (a17 : Pt) (n17 c17 : Nat) (e17 : Bool) (a18 : Pt) (n18 c18 : Nat) (e18 : Bool) (a20 : Pt) (n20 c20 : Nat) (e20 : Bool) (a52 : Pt) (n52 c52 : Nat) (e52 : Bool) (x53 x54 : Int) (a85 : Pt) (n85 c85 : Nat) (e85 : Bool) (x86 x87 : Int) (a102 : Pt) (n102 c102 : Nat) (e102 : Bool) (x103 x104 : Int) (a108 : Pt) (n108 c108 : Nat) (e108 : Bool) (x109 x110 : Int) (h : Zaa) (ht : L22t Q R6 R12 R19 R22 a0 x2 i4 o4 a9 n9 c9 e9 x11 a17 n17 c17 e17 a18 n18 c18 e18 a20 n20 c20 e20 a52 n52 c52 e52 x53 x54 a85 n85 c85 e85 x86 x87 a102 n102 c102 e102 x103 x104 a108 n108 c108 e108 x109 x110 h) : Den pg fn.ntmps (C [1, 1, 1, 0, 1, 0, 0, 1, 1, 0, 0, 1, 1, 1, 1, 0, 1, 0, 0, 1, 1, 0, 0, 1, 1, 1, 1, 0, 1, 0, 0, 1, 1, 0, 0, 1, 1, 0, 0]) [(0, .ptr a0), (2, .int .i64 x2), (4, .ptr (some (i4, o4))), (9, .slice a9 n9 c9 e9), (11, .int .i64 x11), (17, .slice a17 n17 c17 e17), (18, .slice a18 n18 c18 e18), (20, .slice a20 n20 c20 e20), (52, .slice a52 n52 c52 e52), (53, .int .i64 x53), (54, .int .i64 x54), (85, .slice a85 n85 c85 e85), (86, .int .i64 x86), (87, .int .i64 x87), (102, .slice a102 n102 c102 e102), (103, .int .i64 x103), (104, .int .i64 x104), (108, .slice a108 n108 c108 e108), (109, .int .i64 x109), (110, .int .i64 x110)] h (K20 Q R6 R12 R19 R22) :=
 Zbb (kp := kp) (cast (by kernel_rfl) ht)
theorem L22ind (Q : QT) (R6 : T6) (R12 : T12) (R19 : T19) (a0 : Pt) (x2 : Int) (i4 o4 : Nat) (a9 : Pt) (n9 c9 : Nat) (e9 : Bool) (x11 : Int) (a17 : Pt) (n17 c17 : Nat) (e17 : Bool) (a20 : Pt) (n20 c20 : Nat) (e20 : Bool) (a52 : Pt) (n52 c52 : Nat) (e52 : Bool) (x53 x54 : Int) (a85 : Pt) (n85 c85 : Nat) (e85 : Bool) (x86 x87 : Int) (a102 : Pt) (n102 c102 : Nat) (e102 : Bool) (x103 x104 : Int) (a108 : Pt) (n108 c108 : Nat) (e108 : Bool) (x109 : Int) {G : Type} (J : G → Pt → Nat → Nat → Bool → Int → Zaa → Prop) (m : G → Nat)
 (hr : ∀ (g : G) (a18 : Pt) (n18 c18 : Nat) (e18 : Bool) (x110 : Int) (h : Zaa), J g a18 n18 c18 e18 x110 h → ∀ (R22 : T22), (∀ g' (a18 : Pt) (n18 c18 : Nat) (e18 : Bool) (x110 : Int) (h : Zaa), m g' < m g → J g' a18 n18 c18 e18 x110 h → R22 a0 x2 i4 o4 a9 n9 c9 e9 x11 a17 n17 c17 e17 a18 n18 c18 e18 a20 n20 c20 e20 a52 n52 c52 e52 x53 x54 a85 n85 c85 e85 x86 x87 a102 n102 c102 e102 x103 x104 a108 n108 c108 e108 x109 x110 h) → L22t Q R6 R12 R19 R22 a0 x2 i4 o4 a9 n9 c9 e9 x11 a17 n17 c17 e17 a18 n18 c18 e18 a20 n20 c20 e20 a52 n52 c52 e52 x53 x54 a85 n85 c85 e85 x86 x87 a102 n102 c102 e102 x103 x104 a108 n108 c108 e108 x109 x110 h)
 (g : G) (a18 : Pt) (n18 c18 : Nat) (e18 : Bool) (x110 : Int) (h : Zaa) (hj : J g a18 n18 c18 e18 x110 h) : L22 Q R6 R12 R19 a0 x2 i4 o4 a9 n9 c9 e9 x11 a17 n17 c17 e17 a18 n18 c18 e18 a20 n20 c20 e20 a52 n52 c52 e52 x53 x54 a85 n85 c85 e85 x86 x87 a102 n102 c102 e102 x103 x104 a108 n108 c108 e108 x109 x110 h := by
 refine Zdz.inv2 (fun g => E22 fun a0' x2' i4' o4' a9' n9' c9' e9' x11' a17' n17' c17' e17' a18 n18 c18 e18 a20' n20' c20' e20' a52' n52' c52' e52' x53' x54' a85' n85' c85' e85' x86' x87' a102' n102' c102' e102' x103' x104' a108' n108' c108' e108' x109' x110 h => a0 = a0' ∧ x2 = x2' ∧ i4 = i4' ∧ o4 = o4' ∧ a9 = a9' ∧ n9 = n9' ∧ c9 = c9' ∧ e9 = e9' ∧ x11 = x11' ∧ a17 = a17' ∧ n17 = n17' ∧ c17 = c17' ∧ e17 = e17' ∧ a20 = a20' ∧ n20 = n20' ∧ c20 = c20' ∧ e20 = e20' ∧ a52 = a52' ∧ n52 = n52' ∧ c52 = c52' ∧ e52 = e52' ∧ x53 = x53' ∧ x54 = x54' ∧ a85 = a85' ∧ n85 = n85' ∧ c85 = c85' ∧ e85 = e85' ∧ x86 = x86' ∧ x87 = x87' ∧ a102 = a102' ∧ n102 = n102' ∧ c102 = c102' ∧ e102 = e102' ∧ x103 = x103' ∧ x104 = x104' ∧ a108 = a108' ∧ n108 = n108' ∧ c108 = c108' ∧ e108 = e108' ∧ x109 = x109' ∧ J g a18 n18 c18 e18 x110 h) (fun g => E22 fun a0' x2' i4' o4' a9' n9' c9' e9' x11' a17' n17' c17' e17' a18 n18 c18 e18 a20' n20' c20' e20' a52' n52' c52' e52' x53' x54' a85' n85' c85' e85' x86' x87' a102' n102' c102' e102' x103' x104' a108' n108' c108' e108' x109' x110 h => a0 = a0' ∧ x2 = x2' ∧ i4 = i4' ∧ o4 = o4' ∧ a9 = a9' ∧ n9 = n9' ∧ c9 = c9' ∧ e9 = e9' ∧ x11 = x11' ∧ a17 = a17' ∧ n17 = n17' ∧ c17 = c17' ∧ e17 = e17' ∧ a20 = a20' ∧ n20 = n20' ∧ c20 = c20' ∧ e20 = e20' ∧ a52 = a52' ∧ n52 = n52' ∧ c52 = c52' ∧ e52 = e52' ∧ x53 = x53' ∧ x54 = x54' ∧ a85 = a85' ∧ n85 = n85' ∧ c85 = c85' ∧ e85 = e85' ∧ x86 = x86' ∧ x87 = x87' ∧ a102 = a102' ∧ n102 = n102' ∧ c102 = c102' ∧ e102 = e102' ∧ x103 = x103' ∧ x104 = x104' ∧ a108 = a108' ∧ n108 = n108' ∧ c108 = c108' ∧ e108 = e108' ∧ x109 = x109' ∧ ∃ g', m g' < m g ∧ J g' a18 n18 c18 e18 x110 h) m ?_ ?_ g ⟨rfl, rfl, rfl, rfl, rfl, rfl, rfl, rfl, rfl, rfl, rfl, rfl, rfl, rfl, rfl, rfl, rfl, rfl, rfl, rfl, rfl, rfl, rfl, rfl, rfl, rfl, rfl, rfl, rfl, rfl, rfl, rfl, rfl, rfl, rfl, rfl, rfl, rfl, rfl, rfl, hj⟩
 ·intro g env h hi
  obtain ⟨a0', x2', i4', o4', a9', n9', c9', e9', x11', a17', n17', c17', e17', a18, n18, c18, e18, a20', n20', c20', e20', a52', n52', c52', e52', x53', x54', a85', n85', c85', e85', x86', x87', a102', n102', c102', e102', x103', x104', a108', n108', c108', e108', x109', x110, rfl, rfl, rfl, rfl, rfl, rfl, rfl, rfl, rfl, rfl, rfl, rfl, rfl, rfl, rfl, rfl, rfl, rfl, rfl, rfl, rfl, rfl, rfl, rfl, rfl, rfl, rfl, rfl, rfl, rfl, rfl, rfl, rfl, rfl, rfl, rfl, rfl, rfl, rfl, rfl, rfl, hj⟩ := Ykg hi
  exact Yte Q R6 R12 R19 (fun a0' x2' i4' o4' a9' n9' c9' e9' x11' a17' n17' c17' e17' a18 n18 c18 e18 a20' n20' c20' e20' a52' n52' c52' e52' x53' x54' a85' n85' c85' e85' x86' x87' a102' n102' c102' e102' x103' x104' a108' n108' c108' e108' x109' x110 h => a0 = a0' ∧ x2 = x2' ∧ i4 = i4' ∧ o4 = o4' ∧ a9 = a9' ∧ n9 = n9' ∧ c9 = c9' ∧ e9 = e9' ∧ x11 = x11' ∧ a17 = a17' ∧ n17 = n17' ∧ c17 = c17' ∧ e17 = e17' ∧ a20 = a20' ∧ n20 = n20' ∧ c20 = c20' ∧ e20 = e20' ∧ a52 = a52' ∧ n52 = n52' ∧ c52 = c52' ∧ e52 = e52' ∧ x53 = x53' ∧ x54 = x54' ∧ a85 = a85' ∧ n85 = n85' ∧ c85 = c85' ∧ e85 = e85' ∧ x86 = x86' ∧ x87 = x87' ∧ a102 = a102' ∧ n102 = n102' ∧ c102 = c102' ∧ e102 = e102' ∧ x103 = x103' ∧ x104 = x104' ∧ a108 = a108' ∧ n108 = n108' ∧ c108 = c108' ∧ e108 = e108' ∧ x109 = x109' ∧ ∃ g', m g' < m g ∧ J g' a18 n18 c18 e18 x110 h) a0 x2 i4 o4 a9 n9 c9 e9 x11 a17 n17 c17 e17 a18 n18 c18 e18 a20 n20 c20 e20 a52 n52 c52 e52 x53 x54 a85 n85 c85 e85 x86 x87 a102 n102 c102 e102 x103 x104 a108 n108 c108 e108 x109 x110 h (hr g a18 n18 c18 e18 x110 h hj (fun a0' x2' i4' o4' a9' n9' c9' e9' x11' a17' n17' c17' e17' a18 n18 c18 e18 a20' n20' c20' e20' a52' n52' c52' e52' x53' x54' a85' n85' c85' e85' x86' x87' a102' n102' c102' e102' x103' x104' a108' n108' c108' e108' x109' x110 h => a0 = a0' ∧ x2 = x2' ∧ i4 = i4' ∧ o4 = o4' ∧ a9 = a9' ∧ n9 = n9' ∧ c9 = c9' ∧ e9 = e9' ∧ x11 = x11' ∧ a17 = a17' ∧ n17 = n17' ∧ c17 = c17' ∧ e17 = e17' ∧ a20 = a20' ∧ n20 = n20' ∧ c20 = c20' ∧ e20 = e20' ∧ a52 = a52' ∧ n52 = n52' ∧ c52 = c52' ∧ e52 = e52' ∧ x53 = x53' ∧ x54 = x54' ∧ a85 = a85' ∧ n85 = n85' ∧ c85 = c85' ∧ e85 = e85' ∧ x86 = x86' ∧ x87 = x87' ∧ a102 = a102' ∧ n102 = n102' ∧ c102 = c102' ∧ e102 = e102' ∧ x103 = x103' ∧ x104 = x104' ∧ a108 = a108' ∧ n108 = n108' ∧ c108 = c108' ∧ e108 = e108' ∧ x109 = x109' ∧ ∃ g', m g' < m g ∧ J g' a18 n18 c18 e18 x110 h) fun g' a18 n18 c18 e18 x110 h hlt hj => ⟨rfl, rfl, rfl, rfl, rfl, rfl, rfl, rfl, rfl, rfl, rfl, rfl, rfl, rfl, rfl, rfl, rfl, rfl, rfl, rfl, rfl, rfl, rfl, rfl, rfl, rfl, rfl, rfl, rfl, rfl, rfl, rfl, rfl, rfl, rfl, rfl, rfl, rfl, rfl, rfl, g', hlt, hj⟩)
 ·intro g env h hi
  obtain ⟨a0', x2', i4', o4', a9', n9', c9', e9', x11', a17', n17', c17', e17', a18, n18, c18, e18, a20', n20', c20', e20', a52', n52', c52', e52', x53', x54', a85', n85', c85', e85', x86', x87', a102', n102', c102', e102', x103', x104', a108', n108', c108', e108', x109', x110, rfl, rfl, rfl, rfl, rfl, rfl, rfl, rfl, rfl, rfl, rfl, rfl, rfl, rfl, rfl, rfl, rfl, rfl, rfl, rfl, rfl, rfl, rfl, rfl, rfl, rfl, rfl, rfl, rfl, rfl, rfl, rfl, rfl, rfl, rfl, rfl, rfl, rfl, rfl, rfl, rfl, g', hlt, hj⟩ := Ykg hi
  exact ⟨g', hlt, rfl, rfl, rfl, rfl, rfl, rfl, rfl, rfl, rfl, rfl, rfl, rfl, rfl, rfl, rfl, rfl, rfl, rfl, rfl, rfl, rfl, rfl, rfl, rfl, rfl, rfl, rfl, rfl, rfl, rfl, rfl, rfl, rfl, rfl, rfl, rfl, rfl, rfl, rfl, rfl, hj⟩
theorem A19x4i (Q : QT) (R6 : T6) (R12 : T12) (a18 : Pt) (n18 c18 : Nat) (e18 : Bool) (a0 : Pt) (x87 x86 : Int) (a85 : Pt) (n85 c85 : Nat) (e85 : Bool) (x2 : Int) (i4 o4 : Nat) (a9 : Pt) (n9 c9 : Nat) (e9 : Bool) (x11 : Int) (a52 : Pt) (n52 c52 : Nat) (e52 : Bool) (x53 x54 : Int) (h : Zaa) (ht :
 bcase (decide (((((n18 : Nat) : Int)) : Int) > 60)) (Zbl a0 fun I168 O169 => Zcp (Zbn h (.ptr (some (I168, O169 + 4))) [.bool false]) fun H170 => Q (.slice none 0 0 true) H170) (R12 a0 x2 i4 o4 a9 n9 c9 e9 x11 a18 n18 c18 e18 a52 n52 c52 e52 x53 x54 a85 n85 c85 e85 x86 (IntKind.wrap .i64 (x87 + 1)) h)) : Ytd Q R6 R12 a18 n18 c18 e18 a0 x87 x86 a85 n85 c85 e85 x2 i4 o4 a9 n9 c9 e9 x11 a52 n52 c52 e52 x53 x54 h :=
 At.mk (cast (by kernel_rfl) ht)
def L33t (Q : QT) (R6 : T6) (R33 : T33) (a0 : Pt) (x2 : Int) (i4 o4 : Nat) (a9 : Pt) (n9 c9 : Nat) (e9 : Bool) (x11 : Int) (a52 : Pt) (n52 c52 : Nat) (e52 : Bool) (x53 x54 : Int) (a132 : Pt) (n132 c132 : Nat) (e132 : Bool) (x133 x134 : Int) (h : Zaa) : Prop :=
 bcase (decide ((x134 : Int) < x133)) ((0 ≤ (x134 : Int) ∧ (x134 : Int) < (n132 : Nat)) ∧ (Zbl a132 fun I171 O172 => xSl (Zal h (.ptr (some (I171, O172 + (Int.toNat x134) * 1)))) fun A173 N174 C175 E176 => Zae pg Zmu [.int .i64 x11] h fun V177 H178 =>
 Zbp (some V177) fun S179 => Zae pg Znv [.str S179, .slice A173 N174 C175 E176] H178 fun V180 H181 =>
 Zbp (some V180) fun S182 => Zcn (H181 ++ [.cells Zaz [.str S182] false]) fun H183 => Zdc pg Zbw H183 (.slice a9 n9 c9 e9) (.slice (some (H181.length, 0)) 1 1 true) fun V184 H185 => xSl (some V184) fun A186 N187 C188 E189 => bcase (decide (((((N187 : Nat) : Int)) : Int) > 60)) (Zbl a0 fun I190 O191 => Zcp (Zbn H185 (.ptr (some (I190, O191 + 4))) [.bool false]) fun H192 => Q (.slice none 0 0 true) H192) (bcase (decide (((((List.length S182 : Nat) : Int)) : Int) > 1200)) (Zbl a0 fun I193 O194 => Zcp (Zbn H185 (.ptr (some (I193, O194 + 4))) [.bool false]) fun H195 => Q (.slice none 0 0 true) H195) (J40 Q R6 R33 x134 x133 a132 n132 c132 e132 x11 A186 N187 C188 E189 a0 x54 x53 a52 n52 c52 e52 i4 o4 x2 H185)))) (Yrf Q R6 x54 x53 a52 n52 c52 e52 a0 i4 o4 x2 a9 n9 c9 e9 h)
theorem Yta (Q : QT) (R6 : T6) (R33 : T33) (a0 : Pt) (x2 : Int) (i4 o4 : Nat) (a9 : Pt) (n9 c9 : Nat) (e9 : Bool) (x11 : Int) (a52 : Pt) (n52 c52 : Nat) (e52 : Bool) (x53 x54 : Int) (a132 : Pt) (n132 c132 : Nat) (e132 : Bool) (x133 x134 : Int) (h : Zaa) (ht : L33t Q R6 R33 a0 x2 i4 o4 a9 n9 c9 e9 x11 a52 n52 c52 e52 x53 x54 a132 n132 c132 e132 x133 x134 h) : Den pg fn.ntmps (C [1, 1, 1, 0, 1, 0, 0, 1, 1, 0, 0, 1, 1, 1, 1, 1, 1, 0, 0]) [(0, .ptr a0), (2, .int .i64 x2), (4, .ptr (some (i4, o4))), (9, .slice a9 n9 c9 e9), (11, .int .i64 x11), (52, .slice a52 n52 c52 e52), (53, .int .i64 x53), (54, .int .i64 x54), (132, .slice a132 n132 c132 e132), (133, .int .i64 x133), (134, .int .i64 x134)] h (K23 Q R6 R33) :=
 Zbb (kp := kp) (cast (by kernel_rfl) ht)
theorem L33ind (Q : QT) (R6 : T6) (a0 : Pt) (x2 : Int) (i4 o4 : Nat) (x11 : Int) (a52 : Pt) (n52 c52 : Nat) (e52 : Bool) (x53 x54 : Int) (a132 : Pt) (n132 c132 : Nat) (e132 : Bool) (x133 : Int) {G : Type} (J : G → Pt → Nat → Nat → Bool → Int → Zaa → Prop) (m : G → Nat)
 (hr : ∀ (g : G) (a9 : Pt) (n9 c9 : Nat) (e9 : Bool) (x134 : Int) (h : Zaa), J g a9 n9 c9 e9 x134 h → ∀ (R33 : T33), (∀ g' (a9 : Pt) (n9 c9 : Nat) (e9 : Bool) (x134 : Int) (h : Zaa), m g' < m g → J g' a9 n9 c9 e9 x134 h → R33 a0 x2 i4 o4 a9 n9 c9 e9 x11 a52 n52 c52 e52 x53 x54 a132 n132 c132 e132 x133 x134 h) → L33t Q R6 R33 a0 x2 i4 o4 a9 n9 c9 e9 x11 a52 n52 c52 e52 x53 x54 a132 n132 c132 e132 x133 x134 h)
 (g : G) (a9 : Pt) (n9 c9 : Nat) (e9 : Bool) (x134 : Int) (h : Zaa) (hj : J g a9 n9 c9 e9 x134 h) : L33 Q R6 a0 x2 i4 o4 a9 n9 c9 e9 x11 a52 n52 c52 e52 x53 x54 a132 n132 c132 e132 x133 x134 h := by
 refine Zdz.inv2 (fun g => E33 fun a0' x2' i4' o4' a9 n9 c9 e9 x11' a52' n52' c52' e52' x53' x54' a132' n132' c132' e132' x133' x134 h => a0 = a0' ∧ x2 = x2' ∧ i4 = i4' ∧ o4 = o4' ∧ x11 = x11' ∧ a52 = a52' ∧ n52 = n52' ∧ c52 = c52' ∧ e52 = e52' ∧ x53 = x53' ∧ x54 = x54' ∧ a132 = a132' ∧ n132 = n132' ∧ c132 = c132' ∧ e132 = e132' ∧ x133 = x133' ∧ J g a9 n9 c9 e9 x134 h) (fun g => E33 fun a0' x2' i4' o4' a9 n9 c9 e9 x11' a52' n52' c52' e52' x53' x54' a132' n132' c132' e132' x133' x134 h => a0 = a0' ∧ x2 = x2' ∧ i4 = i4' ∧ o4 = o4' ∧ x11 = x11' ∧ a52 = a52' ∧ n52 = n52' ∧ c52 = c52' ∧ e52 = e52' ∧ x53 = x53' ∧ x54 = x54' ∧ a132 = a132' ∧ n132 = n132' ∧ c132 = c132' ∧ e132 = e132' ∧ x133 = x133' ∧ ∃ g', m g' < m g ∧ J g' a9 n9 c9 e9 x134 h) m ?_ ?_ g ⟨rfl, rfl, rfl, rfl, rfl, rfl, rfl, rfl, rfl, rfl, rfl, rfl, rfl, rfl, rfl, rfl, hj⟩
 ·intro g env h hi
  obtain ⟨a0', x2', i4', o4', a9, n9, c9, e9, x11', a52', n52', c52', e52', x53', x54', a132', n132', c132', e132', x133', x134, rfl, rfl, rfl, rfl, rfl, rfl, rfl, rfl, rfl, rfl, rfl, rfl, rfl, rfl, rfl, rfl, rfl, hj⟩ := Yks hi
  exact Yta Q R6 (fun a0' x2' i4' o4' a9 n9 c9 e9 x11' a52' n52' c52' e52' x53' x54' a132' n132' c132' e132' x133' x134 h => a0 = a0' ∧ x2 = x2' ∧ i4 = i4' ∧ o4 = o4' ∧ x11 = x11' ∧ a52 = a52' ∧ n52 = n52' ∧ c52 = c52' ∧ e52 = e52' ∧ x53 = x53' ∧ x54 = x54' ∧ a132 = a132' ∧ n132 = n132' ∧ c132 = c132' ∧ e132 = e132' ∧ x133 = x133' ∧ ∃ g', m g' < m g ∧ J g' a9 n9 c9 e9 x134 h) a0 x2 i4 o4 a9 n9 c9 e9 x11 a52 n52 c52 e52 x53 x54 a132 n132 c132 e132 x133 x134 h (hr g a9 n9 c9 e9 x134 h hj (fun a0' x2' i4' o4' a9 n9 c9 e9 x11' a52' n52' c52' e52' x53' x54' a132' n132' c132' e132' x133' x134 h => a0 = a0' ∧ x2 = x2' ∧ i4 = i4' ∧ o4 = o4' ∧ x11 = x11' ∧ a52 = a52' ∧ n52 = n52' ∧ c52 = c52' ∧ e52 = e52' ∧ x53 = x53' ∧ x54 = x54' ∧ a132 = a132' ∧ n132 = n132' ∧ c132 = c132' ∧ e132 = e132' ∧ x133 = x133' ∧ ∃ g', m g' < m g ∧ J g' a9 n9 c9 e9 x134 h) fun g' a9 n9 c9 e9 x134 h hlt hj => ⟨rfl, rfl, rfl, rfl, rfl, rfl, rfl, rfl, rfl, rfl, rfl, rfl, rfl, rfl, rfl, rfl, g', hlt, hj⟩)
 ·intro g env h hi
  obtain ⟨a0', x2', i4', o4', a9, n9, c9, e9, x11', a52', n52', c52', e52', x53', x54', a132', n132', c132', e132', x133', x134, rfl, rfl, rfl, rfl, rfl, rfl, rfl, rfl, rfl, rfl, rfl, rfl, rfl, rfl, rfl, rfl, rfl, g', hlt, hj⟩ := Yks hi
  exact ⟨g', hlt, rfl, rfl, rfl, rfl, rfl, rfl, rfl, rfl, rfl, rfl, rfl, rfl, rfl, rfl, rfl, rfl, hj⟩
theorem A22x6i (Q : QT) (R6 : T6) (R12 : T12) (R19 : T19) (x104 x103 : Int) (a102 : Pt) (n102 c102 : Nat) (e102 : Bool) (a17 : Pt) (n17 c17 : Nat) (e17 : Bool) (a18 : Pt) (n18 c18 : Nat) (e18 : Bool) (a0 : Pt) (x87 x86 : Int) (a85 : Pt) (n85 c85 : Nat) (e85 : Bool) (x2 : Int) (i4 o4 : Nat) (a9 : Pt) (n9 c9 : Nat) (e9 : Bool) (x11 : Int) (a52 : Pt) (n52 c52 : Nat) (e52 : Bool) (x53 x54 : Int) (h : Zaa) (ht :
 R19 a0 x2 i4 o4 a9 n9 c9 e9 x11 a17 n17 c17 e17 a18 n18 c18 e18 a52 n52 c52 e52 x53 x54 a85 n85 c85 e85 x86 x87 a102 n102 c102 e102 x103 (IntKind.wrap .i64 (x104 + 1)) h) : Ysz Q R6 R12 R19 x104 x103 a102 n102 c102 e102 a17 n17 c17 e17 a18 n18 c18 e18 a0 x87 x86 a85 n85 c85 e85 x2 i4 o4 a9 n9 c9 e9 x11 a52 n52 c52 e52 x53 x54 h :=
 At.mk (cast (by kernel_rfl) ht)
theorem J40i (Q : QT) (R6 : T6) (R33 : T33) (x134 x133 : Int) (a132 : Pt) (n132 c132 : Nat) (e132 : Bool) (x11 : Int) (a9 : Pt) (n9 c9 : Nat) (e9 : Bool) (a0 : Pt) (x54 x53 : Int) (a52 : Pt) (n52 c52 : Nat) (e52 : Bool) (i4 o4 : Nat) (x2 : Int) (h : Zaa) (ht :
 R33 a0 x2 i4 o4 a9 n9 c9 e9 x11 a52 n52 c52 e52 x53 x54 a132 n132 c132 e132 x133 (IntKind.wrap .i64 (x134 + 1)) h) : J40 Q R6 R33 x134 x133 a132 n132 c132 e132 x11 a9 n9 c9 e9 a0 x54 x53 a52 n52 c52 e52 i4 o4 x2 h :=
 Zbb (kp := kp) (cast (by kernel_rfl) ht)
theorem A33x8i (Q : QT) (R6 : T6) (x54 x53 : Int) (a52 : Pt) (n52 c52 : Nat) (e52 : Bool) (a0 : Pt) (i4 o4 : Nat) (x2 : Int) (a9 : Pt) (n9 c9 : Nat) (e9 : Bool) (h : Zaa) (ht :
 J41 Q R6 x54 x53 a52 n52 c52 e52 a0 i4 o4 x2 a9 n9 c9 e9 h) : Yrf Q R6 x54 x53 a52 n52 c52 e52 a0 i4 o4 x2 a9 n9 c9 e9 h :=
 At.mk (cast (by kernel_rfl) ht)
theorem call (a0 : Pt) (x1x0 x1x1 : List Nat) (x2 : Int) (h : Zaa) (Q : QT) (ht :
 Zcn (h ++ [.cells Zad [.str x1x0, .str x1x1] false]) fun H0 => Zbl a0 fun I1 O2 => Yhr (Zal H0 (.ptr (some (I1, O2 + 2)))) fun m_3 => Zcz (Zbx H0 (.ptr (some (h.length, 0))) 2) fun K4 => Zao K4 fun C5 Z6 => Zbp (some C5) fun S7 => Zao Z6 fun C8 Z9 => Zbp (some C8) fun S10 => Zcl Z9 ((Zal H0 (.ptr (some (I1, O2 + 2))) = Zal H0 (.ptr (some (I1, O2 + 2)))) ∧ Zae pg Zqa [.agg [.str S7, .str S10], .int .i64 x2] H0 fun V11 H12 =>
 Zbp (some V11) fun S13 => (Zal H12 (.ptr (some (I1, O2 + 2))) = Zal H0 (.ptr (some (I1, O2 + 2)))) ∧ Zfi H12 m_3 fun es_14 k_15 => Zre es_14 S13 fun Z16 => xSl (some (Option.getD Z16 (.slice none 0 0 true))) fun A17 N18 C19 E20 => bcase (Option.isSome Z16) (Q (.slice A17 N18 C19 E20) H12) (Zbl a0 fun I21 O22 => Zch (Zal H12 (.ptr (some (I21, O22 + 4)))) fun B23 => bcase (!B23) (Q (.slice A17 N18 C19 E20) H12) (J4 Q a0 h.length 0 x2 H12)))) : Zae pg Zix [.ptr a0, .agg [.str x1x0, .str x1x1], .int .i64 x2] h Q :=
 Zae.of_body kp (c := cod fn) (fn := fn) Go.Proofs.Tryz.func78 (by kernel_rfl) (by kernel_rfl) (Nat.le_of_ble_eq_true (by kernel_rfl))
  (cast (by kernel_rfl) ht)
end Zbt
end Go.Sim

set_option maxRecDepth 100000
set_option linter.unusedVariables false
namespace Go.Sim
open Go Go.RowKit
namespace Zfp
noncomputable abbrev fn : Func := Go.Proofs.Tryz.f79
def kp : Zcd := []
noncomputable def C (p : List Nat) : Code := (cod fn).sub p
def KR (Q : QT) : KT := Zem pg fn.results.toList Q
theorem call (a0 : Pt) (n0 c0 : Nat) (e0 : Bool) (h : Zaa) (Q : QT) (ht :
 (a0 = none → e0 = true) ∧ (bcase (Option.isNone a0) (Q (.slice none 0 0 true) h) (Zcn (h ++ [.cells Zaz [] false]) fun H0 => Zdc pg Zbw H0 (.slice (some (h.length, 0)) 0 0 true) (.slice a0 n0 c0 e0) fun V1 H2 => xSl (some V1) fun A3 N4 C5 E6 => Q (.slice A3 N4 C5 E6) H2))) : Zae pg Zdp [.slice a0 n0 c0 e0] h Q :=
 Zae.of_body kp (c := cod fn) (fn := fn) Go.Proofs.Tryz.func79 (by kernel_rfl) (by kernel_rfl) (Nat.le_of_ble_eq_true (by kernel_rfl))
  (cast (by kernel_rfl) ht)
end Zfp
namespace Zsq
noncomputable abbrev fn : Func := Go.Proofs.Tryz.f116
def kp : Zcd := []
noncomputable def C (p : List Nat) : Code := (cod fn).sub p
def KR (Q : QT) : KT := Zem pg fn.results.toList Q
theorem call (x0 : List Nat) (a1 : Pt) (n1 c1 : Nat) (e1 : Bool) (h : Zaa) (Q : QT) (ht :
 bcase ((((n1 : Nat) : Int) : Int) == 0) (Q (.str x0) h) (List.length x0 + List.length [40] ≤ 9223372036854775807 ∧ (Zae pg Zml [.slice a1 n1 c1 e1, .str [44]] h fun V0 H1 =>
 Zbp (some V0) fun S2 => List.length (x0 ++ [40]) + List.length S2 ≤ 9223372036854775807 ∧ (List.length ((x0 ++ [40]) ++ S2) + List.length [41] ≤ 9223372036854775807 ∧ (Q (.str (((x0 ++ [40]) ++ S2) ++ [41])) H1))))) : Zae pg Znv [.str x0, .slice a1 n1 c1 e1] h Q :=
 Zae.of_body kp (c := cod fn) (fn := fn) Go.Proofs.Tryz.func116 (by kernel_rfl) (by kernel_rfl) (Nat.le_of_ble_eq_true (by kernel_rfl))
  (cast (by kernel_rfl) ht)
end Zsq
end Go.Sim

set_option maxRecDepth 100000
set_option linter.unusedVariables false
namespace Go.Sim
open Go Go.RowKit
namespace Ztv
noncomputable abbrev fn : Func := Go.Proofs.Tryz.f51
def kp : Zcd := [(2000001, [4])]
noncomputable def C (p : List Nat) : Code := (cod fn).sub p
def KR (Q : QT) : KT := Zem pg fn.results.toList Q
theorem call (x0x0 x0x1 : List Nat) (x1 : Int) (h : Zaa) (Q : QT) (ht :
 Zcn (h ++ [.cells Zad [.str x0x0, .str x0x1] false]) fun H0 => Zcz (Zbx H0 (.ptr (some (h.length, 0))) 2) fun K1 => Zao K1 fun C2 Z3 => Zbp (some C2) fun S4 => Zao Z3 fun C5 Z6 => Zbp (some C5) fun S7 => Zcl Z6 (Zae pg Zgu [.int .i64 x1] H0 fun V8 H9 =>
 Zbp (some V8) fun S10 => (Zbx H9 (.ptr (some (h.length, 0))) 2 = Zbx H0 (.ptr (some (h.length, 0))) 2) ∧ Zae pg Zjw [.agg [.str S4, .str S7]] H9 fun V11 H12 =>
 Zbp (some V11) fun S13 => List.length S10 + List.length S13 ≤ 9223372036854775807 ∧ (Q (.str (S10 ++ S13)) H12))) : Zae pg Zpa [.agg [.str x0x0, .str x0x1], .int .i64 x1] h Q :=
 Zae.of_body kp (c := cod fn) (fn := fn) Go.Proofs.Tryz.func51 (by kernel_rfl) (by kernel_rfl) (Nat.le_of_ble_eq_true (by kernel_rfl))
  (cast (by kernel_rfl) ht)
end Ztv
namespace Zfm
noncomputable abbrev fn : Func := Go.Proofs.Tryz.f52
def kp : Zcd := [(3000002, [4]), (1000002, [1, 10, 11, 12])]
noncomputable def C (p : List Nat) : Code := (cod fn).sub p
def KR (Q : QT) : KT := Zem pg fn.results.toList Q
abbrev T2 := List Nat → Pt → Nat → Nat → Bool → Int → Int → Zaa → Prop
def E2 (R2 : T2) (env : Env) (h : Zaa) : Prop := Zbj 1 env fun v env => Zbp (some v) fun x1 => Zbj 10 env fun v env => xSl (some v) fun a10 n10 c10 e10 => Zbj 11 env fun v env => Zda .i64 v fun x11 => Zbj 12 env fun v env => Zda .i64 v fun x12 => Ziw env (R2 x1 a10 n10 c10 e10 x11 x12 h)
theorem Zex {R2 : T2} {env : Env} {h : Zaa} (hi : E2 R2 env h) : ∃ x1, ∃ a10, ∃ n10, ∃ c10, ∃ e10, ∃ x11, ∃ x12, env = [(1, .str x1), (10, .slice a10 n10 c10 e10), (11, .int .i64 x11), (12, .int .i64 x12)] ∧ R2 x1 a10 n10 c10 e10 x11 x12 h := by
 unfold E2 at hi
 have hi0 := hi
 clear hi
 obtain ⟨_, _, rfl, hi1⟩ := Zab hi0
 obtain ⟨x1, rfl, hi2⟩ := Zdw hi1
 obtain ⟨_, _, rfl, hi3⟩ := Zab hi2
 obtain ⟨a10, n10, c10, e10, rfl, hi4⟩ := Zax hi3
 obtain ⟨_, _, rfl, hi5⟩ := Zab hi4
 obtain ⟨x11, rfl, hi6⟩ := Zak hi5
 obtain ⟨_, _, rfl, hi7⟩ := Zab hi6
 obtain ⟨x12, rfl, hi8⟩ := Zak hi7
 obtain ⟨rfl, hi9⟩ := Zbk hi8
 have hi := hi9
 exact ⟨x1, a10, n10, c10, e10, x11, x12, rfl, hi⟩
def K0 (Q : QT) : KT := andThen (fun env' h' => (match kp.find 4000007 with | some ks => Den pg fn.ntmps (C [1, 1]) (env'.keep ks) h' (KR Q) | none => den pg fn.ntmps kp (C [1, 1]) env' h' (KR Q))) (KR Q)
def K1 (Q : QT) : KT := Zcg 0 (K0 Q)
def K2 (Q : QT) : KT := Zgf kp 2 (K1 Q)
def K3 (Q : QT) (R2 : T2) : KT := rnd ((kp.find 1000002).getD []) (E2 R2) (K2 Q)
def L2 (Q : QT) (x1 : List Nat) (a10 : Pt) (n10 c10 : Nat) (e10 : Bool) (x11 x12 : Int) (h : Zaa) : Prop := Zdz (Den pg fn.ntmps (C [1, 0, 1, 0, 0])) ((kp.find 1000002).getD []) (K2 Q) [(1, .str x1), (10, .slice a10 n10 c10 e10), (11, .int .i64 x11), (12, .int .i64 x12)] h
def Zqs (Q : QT) (h : Zaa) : Prop := At (K1 Q) (.exit 0) [(4, .undef)] h
def L2t (Q : QT) (R2 : T2) (x1 : List Nat) (a10 : Pt) (n10 c10 : Nat) (e10 : Bool) (x11 x12 : Int) (h : Zaa) : Prop :=
 bcase (decide ((x12 : Int) < x11)) ((0 ≤ (x12 : Int) ∧ (x12 : Int) < (n10 : Nat)) ∧ (Zbl a10 fun I6 O7 => Zbp (Zal h (.ptr (some (I6, O7 + (Int.toNat x12) * 1)))) fun S8 => bcase (decide (S8 = x1)) (Q (.int .i64 x12) h) (R2 x1 a10 n10 c10 e10 x11 (IntKind.wrap .i64 (x12 + 1)) h))) (Zqs Q h)
theorem Zmo (Q : QT) (R2 : T2) (x1 : List Nat) (a10 : Pt) (n10 c10 : Nat) (e10 : Bool) (x11 x12 : Int) (h : Zaa) (ht : L2t Q R2 x1 a10 n10 c10 e10 x11 x12 h) : Den pg fn.ntmps (C [1, 0, 1, 0, 0]) [(1, .str x1), (10, .slice a10 n10 c10 e10), (11, .int .i64 x11), (12, .int .i64 x12)] h (K3 Q R2) :=
 Zbb (kp := kp) (cast (by kernel_rfl) ht)
theorem L2ind (Q : QT) (x1 : List Nat) (a10 : Pt) (n10 c10 : Nat) (e10 : Bool) (x11 : Int) {G : Type} (J : G → Int → Zaa → Prop) (m : G → Nat)
 (hr : ∀ (g : G) (x12 : Int) (h : Zaa), J g x12 h → ∀ (R2 : T2), (∀ g' (x12 : Int) (h : Zaa), m g' < m g → J g' x12 h → R2 x1 a10 n10 c10 e10 x11 x12 h) → L2t Q R2 x1 a10 n10 c10 e10 x11 x12 h)
 (g : G) (x12 : Int) (h : Zaa) (hj : J g x12 h) : L2 Q x1 a10 n10 c10 e10 x11 x12 h := by
 refine Zdz.inv2 (fun g => E2 fun x1' a10' n10' c10' e10' x11' x12 h => x1 = x1' ∧ a10 = a10' ∧ n10 = n10' ∧ c10 = c10' ∧ e10 = e10' ∧ x11 = x11' ∧ J g x12 h) (fun g => E2 fun x1' a10' n10' c10' e10' x11' x12 h => x1 = x1' ∧ a10 = a10' ∧ n10 = n10' ∧ c10 = c10' ∧ e10 = e10' ∧ x11 = x11' ∧ ∃ g', m g' < m g ∧ J g' x12 h) m ?_ ?_ g ⟨rfl, rfl, rfl, rfl, rfl, rfl, hj⟩
 ·intro g env h hi
  obtain ⟨x1', a10', n10', c10', e10', x11', x12, rfl, rfl, rfl, rfl, rfl, rfl, rfl, hj⟩ := Zex hi
  exact Zmo Q _ x1 a10 n10 c10 e10 x11 x12 h (hr g x12 h hj (fun x1' a10' n10' c10' e10' x11' x12 h => x1 = x1' ∧ a10 = a10' ∧ n10 = n10' ∧ c10 = c10' ∧ e10 = e10' ∧ x11 = x11' ∧ ∃ g', m g' < m g ∧ J g' x12 h) fun g' x12 h hlt hj => ⟨rfl, rfl, rfl, rfl, rfl, rfl, g', hlt, hj⟩)
 ·intro g env h hi
  obtain ⟨x1', a10', n10', c10', e10', x11', x12, rfl, rfl, rfl, rfl, rfl, rfl, rfl, g', hlt, hj⟩ := Zex hi
  exact ⟨g', hlt, rfl, rfl, rfl, rfl, rfl, rfl, hj⟩
theorem A2x0i (Q : QT) (h : Zaa) (ht :
 Q (.int .i64 (-1)) h) : Zqs Q h :=
 At.mk (cast (by kernel_rfl) ht)
theorem call (a0 : Pt) (x1 : List Nat) (h : Zaa) (Q : QT) (ht :
 Zbl a0 fun I0 O1 => xSl (Zal h (.ptr (some (I0, O1 + 2)))) fun A2 N3 C4 E5 => L2 Q x1 A2 N3 C4 E5 (((N3 : Nat) : Int)) 0 h) : Zae pg Zjp [.ptr a0, .str x1] h Q :=
 Zae.of_body kp (c := cod fn) (fn := fn) Go.Proofs.Tryz.func52 (by kernel_rfl) (by kernel_rfl) (Nat.le_of_ble_eq_true (by kernel_rfl))
  (cast (by kernel_rfl) ht)
end Zfm
namespace Zmf
noncomputable abbrev fn : Func := Go.Proofs.Tryz.f54
def kp : Zcd := []
noncomputable def C (p : List Nat) : Code := (cod fn).sub p
def KR (Q : QT) : KT := Zem pg fn.results.toList Q
theorem call (a0 : Pt) (x1 : List Nat) (a2 : Pt) (n2 c2 : Nat) (e2 x3 : Bool) (h : Zaa) (Q : QT) (ht :
 Zbl a0 fun I0 O1 => xSl (Zal h (.ptr (some (I0, O1 + 2)))) fun A2 N3 C4 E5 => Zcn (h ++ [.cells Zaz [.str x1] false]) fun H6 => Zdc pg Zbw H6 (.slice A2 N3 C4 E5) (.slice (some (h.length, 0)) 1 1 true) fun V7 H8 => xSl (some V7) fun A9 N10 C11 E12 => Zbl a0 fun I13 O14 => Zcp (Zbn H8 (.ptr (some (I13, O14 + 2))) [.slice A9 N10 C11 E12]) fun H15 => Zbl a0 fun I16 O17 => xSl (Zal H15 (.ptr (some (I16, O17 + 3)))) fun A18 N19 C20 E21 => Zcn (H15 ++ [.cells Zbw [.slice a2 n2 c2 e2] false]) fun H22 => Zdc pg Zma H22 (.slice A18 N19 C20 E21) (.slice (some (H15.length, 0)) 1 1 true) fun V23 H24 => xSl (some V23) fun A25 N26 C27 E28 => Zbl a0 fun I29 O30 => Zcp (Zbn H24 (.ptr (some (I29, O30 + 3))) [.slice A25 N26 C27 E28]) fun H31 => Zbl a0 fun I32 O33 => xSl (Zal H31 (.ptr (some (I32, O33 + 4)))) fun A34 N35 C36 E37 => Zcn (H31 ++ [.cells Zub [.bool x3] false]) fun H38 => Zdc pg Ygg H38 (.slice A34 N35 C36 E37) (.slice (some (H31.length, 0)) 1 1 true) fun V39 H40 => xSl (some V39) fun A41 N42 C43 E44 => Zbl a0 fun I45 O46 => Zcp (Zbn H40 (.ptr (some (I45, O46 + 4))) [.slice A41 N42 C43 E44]) fun H47 => Q (.tup []) H47) : Zae pg Zij [.ptr a0, .str x1, .slice a2 n2 c2 e2, .bool x3] h Q :=
 Zae.of_body kp (c := cod fn) (fn := fn) Go.Proofs.Tryz.func54 (by kernel_rfl) (by kernel_rfl) (Nat.le_of_ble_eq_true (by kernel_rfl))
  (cast (by kernel_rfl) ht)
end Zmf
end Go.Sim
