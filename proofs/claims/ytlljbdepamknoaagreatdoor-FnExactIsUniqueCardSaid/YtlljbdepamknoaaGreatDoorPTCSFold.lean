/- A part of the proof of a statement of this seat: see the text that holds the theorem. No condition. -/
import Derived.Test.YtlljbdepamknoaaGreatDoorNm
set_option linter.unusedVariables false
set_option linter.unusedSimpArgs false
set_option linter.all false
set_option maxRecDepth 100000
set_option linter.unusedVariables false
namespace Go.Sim
open Go Go.RowKit
namespace Zbc
noncomputable abbrev fn : Func := Go.Proofs.Tryz.f115
def kp : Zcd := [(3000004, [9, 6, 7]), (1000004, [0, 2, 4, 8, 9, 33, 34, 35]), (2000006, [13, 12, 2, 35, 34, 33, 8, 4, 0, 9, 11]), (4000008, [11, 12, 0, 2, 4, 8, 9, 33, 34, 35]), (3000010, [14, 0, 2, 4, 8, 9, 12, 33, 34, 35, 6, 7]), (1000010, [0, 2, 4, 8, 9, 12, 14, 33, 34, 35, 64, 65, 66]), (3000017, [19, 66, 65, 64, 0, 2, 4, 8, 9, 12, 33, 34, 35]), (1000017, [0, 2, 4, 8, 9, 12, 15, 17, 19, 33, 34, 35, 64, 65, 66, 83, 84, 85]), (3000020, [85, 84, 83, 17, 15, 19, 66, 65, 64, 0, 2, 4, 8, 9, 12, 33, 34, 35]), (1000020, [0, 2, 4, 8, 9, 12, 15, 17, 19, 21, 33, 34, 35, 64, 65, 66, 83, 84, 85, 89, 90, 91]), (3000030, [9, 35, 34, 33, 8, 4, 2, 0, 6, 7]), (1000030, [0, 2, 4, 8, 9, 12, 33, 34, 35, 114, 115, 116]), (4000034, [25, 9, 116, 115, 114, 12, 35, 34, 33, 8, 4, 2, 0]), (4000037, [116, 115, 114, 12, 9, 35, 34, 33, 8, 4, 2, 0]), (4000040, [35, 34, 33, 8, 4, 2, 0, 9])]
noncomputable def C (p : List Nat) : Code := (cod fn).sub p
def KR (Q : QT) : KT := Zem pg fn.results.toList Q
abbrev T4 := Pt → Int → Nat → Nat → Nat → Nat → Pt → Nat → Nat → Bool → Pt → Nat → Nat → Bool → Int → Int → Zaa → Prop
def E4 (R4 : T4) (env : Env) (h : Zaa) : Prop := Zbj 0 env fun v env => Zgg (some v) fun a0 => Zbj 2 env fun v env => Zda .i64 v fun x2 => Zbj 4 env fun v env => Zgg (some v) fun a => Zbl a fun i4 o4 => Zbj 8 env fun v env => Zgg (some v) fun a => Zbl a fun i8 o8 => Zbj 9 env fun v env => xSl (some v) fun a9 n9 c9 e9 => Zbj 33 env fun v env => xSl (some v) fun a33 n33 c33 e33 => Zbj 34 env fun v env => Zda .i64 v fun x34 => Zbj 35 env fun v env => Zda .i64 v fun x35 => Ziw env (R4 a0 x2 i4 o4 i8 o8 a9 n9 c9 e9 a33 n33 c33 e33 x34 x35 h)
theorem Zic {R4 : T4} {env : Env} {h : Zaa} (hi : E4 R4 env h) : ∃ a0, ∃ x2, ∃ i4, ∃ o4, ∃ i8, ∃ o8, ∃ a9, ∃ n9, ∃ c9, ∃ e9, ∃ a33, ∃ n33, ∃ c33, ∃ e33, ∃ x34, ∃ x35, env = [(0, .ptr a0), (2, .int .i64 x2), (4, .ptr (some (i4, o4))), (8, .ptr (some (i8, o8))), (9, .slice a9 n9 c9 e9), (33, .slice a33 n33 c33 e33), (34, .int .i64 x34), (35, .int .i64 x35)] ∧ R4 a0 x2 i4 o4 i8 o8 a9 n9 c9 e9 a33 n33 c33 e33 x34 x35 h := by
 unfold E4 at hi
 have hi0 := hi
 clear hi
 obtain ⟨_, _, rfl, hi1⟩ := Zab hi0
 obtain ⟨a0, rfl, hi2⟩ := Zbo hi1
 obtain ⟨_, _, rfl, hi3⟩ := Zab hi2
 obtain ⟨x2, rfl, hi4⟩ := Zak hi3
 obtain ⟨_, _, rfl, hi5⟩ := Zab hi4
 obtain ⟨a, rfl, hi6⟩ := Zbo hi5
 obtain ⟨i4, o4, rfl, hi7⟩ := Zbs hi6
 obtain ⟨_, _, rfl, hi8⟩ := Zab hi7
 obtain ⟨a, rfl, hi9⟩ := Zbo hi8
 obtain ⟨i8, o8, rfl, hi10⟩ := Zbs hi9
 obtain ⟨_, _, rfl, hi11⟩ := Zab hi10
 obtain ⟨a9, n9, c9, e9, rfl, hi12⟩ := Zax hi11
 obtain ⟨_, _, rfl, hi13⟩ := Zab hi12
 obtain ⟨a33, n33, c33, e33, rfl, hi14⟩ := Zax hi13
 obtain ⟨_, _, rfl, hi15⟩ := Zab hi14
 obtain ⟨x34, rfl, hi16⟩ := Zak hi15
 obtain ⟨_, _, rfl, hi17⟩ := Zab hi16
 obtain ⟨x35, rfl, hi18⟩ := Zak hi17
 obtain ⟨rfl, hi19⟩ := Zbk hi18
 have hi := hi19
 exact ⟨a0, x2, i4, o4, i8, o8, a9, n9, c9, e9, a33, n33, c33, e33, x34, x35, rfl, hi⟩
abbrev T10 := Pt → Int → Nat → Nat → Nat → Nat → Pt → Nat → Nat → Bool → Pt → Nat → Nat → Bool → Pt → Nat → Nat → Bool → Pt → Nat → Nat → Bool → Int → Int → Pt → Nat → Nat → Bool → Int → Int → Zaa → Prop
def E10 (R10 : T10) (env : Env) (h : Zaa) : Prop := Zbj 0 env fun v env => Zgg (some v) fun a0 => Zbj 2 env fun v env => Zda .i64 v fun x2 => Zbj 4 env fun v env => Zgg (some v) fun a => Zbl a fun i4 o4 => Zbj 8 env fun v env => Zgg (some v) fun a => Zbl a fun i8 o8 => Zbj 9 env fun v env => xSl (some v) fun a9 n9 c9 e9 => Zbj 12 env fun v env => xSl (some v) fun a12 n12 c12 e12 => Zbj 14 env fun v env => xSl (some v) fun a14 n14 c14 e14 => Zbj 33 env fun v env => xSl (some v) fun a33 n33 c33 e33 => Zbj 34 env fun v env => Zda .i64 v fun x34 => Zbj 35 env fun v env => Zda .i64 v fun x35 => Zbj 64 env fun v env => xSl (some v) fun a64 n64 c64 e64 => Zbj 65 env fun v env => Zda .i64 v fun x65 => Zbj 66 env fun v env => Zda .i64 v fun x66 => Ziw env (R10 a0 x2 i4 o4 i8 o8 a9 n9 c9 e9 a12 n12 c12 e12 a14 n14 c14 e14 a33 n33 c33 e33 x34 x35 a64 n64 c64 e64 x65 x66 h)
theorem Zwn {R10 : T10} {env : Env} {h : Zaa} (hi : E10 R10 env h) : ∃ a0, ∃ x2, ∃ i4, ∃ o4, ∃ i8, ∃ o8, ∃ a9, ∃ n9, ∃ c9, ∃ e9, ∃ a12, ∃ n12, ∃ c12, ∃ e12, ∃ a14, ∃ n14, ∃ c14, ∃ e14, ∃ a33, ∃ n33, ∃ c33, ∃ e33, ∃ x34, ∃ x35, ∃ a64, ∃ n64, ∃ c64, ∃ e64, ∃ x65, ∃ x66, env = [(0, .ptr a0), (2, .int .i64 x2), (4, .ptr (some (i4, o4))), (8, .ptr (some (i8, o8))), (9, .slice a9 n9 c9 e9), (12, .slice a12 n12 c12 e12), (14, .slice a14 n14 c14 e14), (33, .slice a33 n33 c33 e33), (34, .int .i64 x34), (35, .int .i64 x35), (64, .slice a64 n64 c64 e64), (65, .int .i64 x65), (66, .int .i64 x66)] ∧ R10 a0 x2 i4 o4 i8 o8 a9 n9 c9 e9 a12 n12 c12 e12 a14 n14 c14 e14 a33 n33 c33 e33 x34 x35 a64 n64 c64 e64 x65 x66 h := by
 unfold E10 at hi
 have hi0 := hi
 clear hi
 obtain ⟨_, _, rfl, hi1⟩ := Zab hi0
 obtain ⟨a0, rfl, hi2⟩ := Zbo hi1
 obtain ⟨_, _, rfl, hi3⟩ := Zab hi2
 obtain ⟨x2, rfl, hi4⟩ := Zak hi3
 obtain ⟨_, _, rfl, hi5⟩ := Zab hi4
 obtain ⟨a, rfl, hi6⟩ := Zbo hi5
 obtain ⟨i4, o4, rfl, hi7⟩ := Zbs hi6
 obtain ⟨_, _, rfl, hi8⟩ := Zab hi7
 obtain ⟨a, rfl, hi9⟩ := Zbo hi8
 obtain ⟨i8, o8, rfl, hi10⟩ := Zbs hi9
 obtain ⟨_, _, rfl, hi11⟩ := Zab hi10
 obtain ⟨a9, n9, c9, e9, rfl, hi12⟩ := Zax hi11
 obtain ⟨_, _, rfl, hi13⟩ := Zab hi12
 obtain ⟨a12, n12, c12, e12, rfl, hi14⟩ := Zax hi13
 obtain ⟨_, _, rfl, hi15⟩ := Zab hi14
 obtain ⟨a14, n14, c14, e14, rfl, hi16⟩ := Zax hi15
 obtain ⟨_, _, rfl, hi17⟩ := Zab hi16
 obtain ⟨a33, n33, c33, e33, rfl, hi18⟩ := Zax hi17
 obtain ⟨_, _, rfl, hi19⟩ := Zab hi18
 obtain ⟨x34, rfl, hi20⟩ := Zak hi19
 obtain ⟨_, _, rfl, hi21⟩ := Zab hi20
 obtain ⟨x35, rfl, hi22⟩ := Zak hi21
 obtain ⟨_, _, rfl, hi23⟩ := Zab hi22
 obtain ⟨a64, n64, c64, e64, rfl, hi24⟩ := Zax hi23
 obtain ⟨_, _, rfl, hi25⟩ := Zab hi24
 obtain ⟨x65, rfl, hi26⟩ := Zak hi25
 obtain ⟨_, _, rfl, hi27⟩ := Zab hi26
 obtain ⟨x66, rfl, hi28⟩ := Zak hi27
 obtain ⟨rfl, hi29⟩ := Zbk hi28
 have hi := hi29
 exact ⟨a0, x2, i4, o4, i8, o8, a9, n9, c9, e9, a12, n12, c12, e12, a14, n14, c14, e14, a33, n33, c33, e33, x34, x35, a64, n64, c64, e64, x65, x66, rfl, hi⟩
abbrev T17 := Pt → Int → Nat → Nat → Nat → Nat → Pt → Nat → Nat → Bool → Pt → Nat → Nat → Bool → Int → Pt → Nat → Nat → Bool → Pt → Nat → Nat → Bool → Pt → Nat → Nat → Bool → Int → Int → Pt → Nat → Nat → Bool → Int → Int → Pt → Nat → Nat → Bool → Int → Int → Zaa → Prop
def E17 (R17 : T17) (env : Env) (h : Zaa) : Prop := Zbj 0 env fun v env => Zgg (some v) fun a0 => Zbj 2 env fun v env => Zda .i64 v fun x2 => Zbj 4 env fun v env => Zgg (some v) fun a => Zbl a fun i4 o4 => Zbj 8 env fun v env => Zgg (some v) fun a => Zbl a fun i8 o8 => Zbj 9 env fun v env => xSl (some v) fun a9 n9 c9 e9 => Zbj 12 env fun v env => xSl (some v) fun a12 n12 c12 e12 => Zbj 15 env fun v env => Zda .i64 v fun x15 => Zbj 17 env fun v env => xSl (some v) fun a17 n17 c17 e17 => Zbj 19 env fun v env => xSl (some v) fun a19 n19 c19 e19 => Zbj 33 env fun v env => xSl (some v) fun a33 n33 c33 e33 => Zbj 34 env fun v env => Zda .i64 v fun x34 => Zbj 35 env fun v env => Zda .i64 v fun x35 => Zbj 64 env fun v env => xSl (some v) fun a64 n64 c64 e64 => Zbj 65 env fun v env => Zda .i64 v fun x65 => Zbj 66 env fun v env => Zda .i64 v fun x66 => Zbj 83 env fun v env => xSl (some v) fun a83 n83 c83 e83 => Zbj 84 env fun v env => Zda .i64 v fun x84 => Zbj 85 env fun v env => Zda .i64 v fun x85 => Ziw env (R17 a0 x2 i4 o4 i8 o8 a9 n9 c9 e9 a12 n12 c12 e12 x15 a17 n17 c17 e17 a19 n19 c19 e19 a33 n33 c33 e33 x34 x35 a64 n64 c64 e64 x65 x66 a83 n83 c83 e83 x84 x85 h)
theorem Ykf {R17 : T17} {env : Env} {h : Zaa} (hi : E17 R17 env h) : ∃ a0, ∃ x2, ∃ i4, ∃ o4, ∃ i8, ∃ o8, ∃ a9, ∃ n9, ∃ c9, ∃ e9, ∃ a12, ∃ n12, ∃ c12, ∃ e12, ∃ x15, ∃ a17, ∃ n17, ∃ c17, ∃ e17, ∃ a19, ∃ n19, ∃ c19, ∃ e19, ∃ a33, ∃ n33, ∃ c33, ∃ e33, ∃ x34, ∃ x35, ∃ a64, ∃ n64, ∃ c64, ∃ e64, ∃ x65, ∃ x66, ∃ a83, ∃ n83, ∃ c83, ∃ e83, ∃ x84, ∃ x85, env = [(0, .ptr a0), (2, .int .i64 x2), (4, .ptr (some (i4, o4))), (8, .ptr (some (i8, o8))), (9, .slice a9 n9 c9 e9), (12, .slice a12 n12 c12 e12), (15, .int .i64 x15), (17, .slice a17 n17 c17 e17), (19, .slice a19 n19 c19 e19), (33, .slice a33 n33 c33 e33), (34, .int .i64 x34), (35, .int .i64 x35), (64, .slice a64 n64 c64 e64), (65, .int .i64 x65), (66, .int .i64 x66), (83, .slice a83 n83 c83 e83), (84, .int .i64 x84), (85, .int .i64 x85)] ∧ R17 a0 x2 i4 o4 i8 o8 a9 n9 c9 e9 a12 n12 c12 e12 x15 a17 n17 c17 e17 a19 n19 c19 e19 a33 n33 c33 e33 x34 x35 a64 n64 c64 e64 x65 x66 a83 n83 c83 e83 x84 x85 h := by
 unfold E17 at hi
 have hi0 := hi
 clear hi
 obtain ⟨_, _, rfl, hi1⟩ := Zab hi0
 obtain ⟨a0, rfl, hi2⟩ := Zbo hi1
 obtain ⟨_, _, rfl, hi3⟩ := Zab hi2
 obtain ⟨x2, rfl, hi4⟩ := Zak hi3
 obtain ⟨_, _, rfl, hi5⟩ := Zab hi4
 obtain ⟨a, rfl, hi6⟩ := Zbo hi5
 obtain ⟨i4, o4, rfl, hi7⟩ := Zbs hi6
 obtain ⟨_, _, rfl, hi8⟩ := Zab hi7
 obtain ⟨a, rfl, hi9⟩ := Zbo hi8
 obtain ⟨i8, o8, rfl, hi10⟩ := Zbs hi9
 obtain ⟨_, _, rfl, hi11⟩ := Zab hi10
 obtain ⟨a9, n9, c9, e9, rfl, hi12⟩ := Zax hi11
 obtain ⟨_, _, rfl, hi13⟩ := Zab hi12
 obtain ⟨a12, n12, c12, e12, rfl, hi14⟩ := Zax hi13
 obtain ⟨_, _, rfl, hi15⟩ := Zab hi14
 obtain ⟨x15, rfl, hi16⟩ := Zak hi15
 obtain ⟨_, _, rfl, hi17⟩ := Zab hi16
 obtain ⟨a17, n17, c17, e17, rfl, hi18⟩ := Zax hi17
 obtain ⟨_, _, rfl, hi19⟩ := Zab hi18
 obtain ⟨a19, n19, c19, e19, rfl, hi20⟩ := Zax hi19
 obtain ⟨_, _, rfl, hi21⟩ := Zab hi20
 obtain ⟨a33, n33, c33, e33, rfl, hi22⟩ := Zax hi21
 obtain ⟨_, _, rfl, hi23⟩ := Zab hi22
 obtain ⟨x34, rfl, hi24⟩ := Zak hi23
 obtain ⟨_, _, rfl, hi25⟩ := Zab hi24
 obtain ⟨x35, rfl, hi26⟩ := Zak hi25
 obtain ⟨_, _, rfl, hi27⟩ := Zab hi26
 obtain ⟨a64, n64, c64, e64, rfl, hi28⟩ := Zax hi27
 obtain ⟨_, _, rfl, hi29⟩ := Zab hi28
 obtain ⟨x65, rfl, hi30⟩ := Zak hi29
 obtain ⟨_, _, rfl, hi31⟩ := Zab hi30
 obtain ⟨x66, rfl, hi32⟩ := Zak hi31
 obtain ⟨_, _, rfl, hi33⟩ := Zab hi32
 obtain ⟨a83, n83, c83, e83, rfl, hi34⟩ := Zax hi33
 obtain ⟨_, _, rfl, hi35⟩ := Zab hi34
 obtain ⟨x84, rfl, hi36⟩ := Zak hi35
 obtain ⟨_, _, rfl, hi37⟩ := Zab hi36
 obtain ⟨x85, rfl, hi38⟩ := Zak hi37
 obtain ⟨rfl, hi39⟩ := Zbk hi38
 have hi := hi39
 exact ⟨a0, x2, i4, o4, i8, o8, a9, n9, c9, e9, a12, n12, c12, e12, x15, a17, n17, c17, e17, a19, n19, c19, e19, a33, n33, c33, e33, x34, x35, a64, n64, c64, e64, x65, x66, a83, n83, c83, e83, x84, x85, rfl, hi⟩
abbrev T20 := Pt → Int → Nat → Nat → Nat → Nat → Pt → Nat → Nat → Bool → Pt → Nat → Nat → Bool → Int → Pt → Nat → Nat → Bool → Pt → Nat → Nat → Bool → List Nat → Pt → Nat → Nat → Bool → Int → Int → Pt → Nat → Nat → Bool → Int → Int → Pt → Nat → Nat → Bool → Int → Int → Pt → Nat → Nat → Bool → Int → Int → Zaa → Prop
def E20 (R20 : T20) (env : Env) (h : Zaa) : Prop := Zbj 0 env fun v env => Zgg (some v) fun a0 => Zbj 2 env fun v env => Zda .i64 v fun x2 => Zbj 4 env fun v env => Zgg (some v) fun a => Zbl a fun i4 o4 => Zbj 8 env fun v env => Zgg (some v) fun a => Zbl a fun i8 o8 => Zbj 9 env fun v env => xSl (some v) fun a9 n9 c9 e9 => Zbj 12 env fun v env => xSl (some v) fun a12 n12 c12 e12 => Zbj 15 env fun v env => Zda .i64 v fun x15 => Zbj 17 env fun v env => xSl (some v) fun a17 n17 c17 e17 => Zbj 19 env fun v env => xSl (some v) fun a19 n19 c19 e19 => Zbj 21 env fun v env => Zbp (some v) fun x21 => Zbj 33 env fun v env => xSl (some v) fun a33 n33 c33 e33 => Zbj 34 env fun v env => Zda .i64 v fun x34 => Zbj 35 env fun v env => Zda .i64 v fun x35 => Zbj 64 env fun v env => xSl (some v) fun a64 n64 c64 e64 => Zbj 65 env fun v env => Zda .i64 v fun x65 => Zbj 66 env fun v env => Zda .i64 v fun x66 => Zbj 83 env fun v env => xSl (some v) fun a83 n83 c83 e83 => Zbj 84 env fun v env => Zda .i64 v fun x84 => Zbj 85 env fun v env => Zda .i64 v fun x85 => Zbj 89 env fun v env => xSl (some v) fun a89 n89 c89 e89 => Zbj 90 env fun v env => Zda .i64 v fun x90 => Zbj 91 env fun v env => Zda .i64 v fun x91 => Ziw env (R20 a0 x2 i4 o4 i8 o8 a9 n9 c9 e9 a12 n12 c12 e12 x15 a17 n17 c17 e17 a19 n19 c19 e19 x21 a33 n33 c33 e33 x34 x35 a64 n64 c64 e64 x65 x66 a83 n83 c83 e83 x84 x85 a89 n89 c89 e89 x90 x91 h)
theorem Yjk {R20 : T20} {env : Env} {h : Zaa} (hi : E20 R20 env h) : ∃ a0, ∃ x2, ∃ i4, ∃ o4, ∃ i8, ∃ o8, ∃ a9, ∃ n9, ∃ c9, ∃ e9, ∃ a12, ∃ n12, ∃ c12, ∃ e12, ∃ x15, ∃ a17, ∃ n17, ∃ c17, ∃ e17, ∃ a19, ∃ n19, ∃ c19, ∃ e19, ∃ x21, ∃ a33, ∃ n33, ∃ c33, ∃ e33, ∃ x34, ∃ x35, ∃ a64, ∃ n64, ∃ c64, ∃ e64, ∃ x65, ∃ x66, ∃ a83, ∃ n83, ∃ c83, ∃ e83, ∃ x84, ∃ x85, ∃ a89, ∃ n89, ∃ c89, ∃ e89, ∃ x90, ∃ x91, env = [(0, .ptr a0), (2, .int .i64 x2), (4, .ptr (some (i4, o4))), (8, .ptr (some (i8, o8))), (9, .slice a9 n9 c9 e9), (12, .slice a12 n12 c12 e12), (15, .int .i64 x15), (17, .slice a17 n17 c17 e17), (19, .slice a19 n19 c19 e19), (21, .str x21), (33, .slice a33 n33 c33 e33), (34, .int .i64 x34), (35, .int .i64 x35), (64, .slice a64 n64 c64 e64), (65, .int .i64 x65), (66, .int .i64 x66), (83, .slice a83 n83 c83 e83), (84, .int .i64 x84), (85, .int .i64 x85), (89, .slice a89 n89 c89 e89), (90, .int .i64 x90), (91, .int .i64 x91)] ∧ R20 a0 x2 i4 o4 i8 o8 a9 n9 c9 e9 a12 n12 c12 e12 x15 a17 n17 c17 e17 a19 n19 c19 e19 x21 a33 n33 c33 e33 x34 x35 a64 n64 c64 e64 x65 x66 a83 n83 c83 e83 x84 x85 a89 n89 c89 e89 x90 x91 h := by
 unfold E20 at hi
 have hi0 := hi
 clear hi
 obtain ⟨_, _, rfl, hi1⟩ := Zab hi0
 obtain ⟨a0, rfl, hi2⟩ := Zbo hi1
 obtain ⟨_, _, rfl, hi3⟩ := Zab hi2
 obtain ⟨x2, rfl, hi4⟩ := Zak hi3
 obtain ⟨_, _, rfl, hi5⟩ := Zab hi4
 obtain ⟨a, rfl, hi6⟩ := Zbo hi5
 obtain ⟨i4, o4, rfl, hi7⟩ := Zbs hi6
 obtain ⟨_, _, rfl, hi8⟩ := Zab hi7
 obtain ⟨a, rfl, hi9⟩ := Zbo hi8
 obtain ⟨i8, o8, rfl, hi10⟩ := Zbs hi9
 obtain ⟨_, _, rfl, hi11⟩ := Zab hi10
 obtain ⟨a9, n9, c9, e9, rfl, hi12⟩ := Zax hi11
 obtain ⟨_, _, rfl, hi13⟩ := Zab hi12
 obtain ⟨a12, n12, c12, e12, rfl, hi14⟩ := Zax hi13
 obtain ⟨_, _, rfl, hi15⟩ := Zab hi14
 obtain ⟨x15, rfl, hi16⟩ := Zak hi15
 obtain ⟨_, _, rfl, hi17⟩ := Zab hi16
 obtain ⟨a17, n17, c17, e17, rfl, hi18⟩ := Zax hi17
 obtain ⟨_, _, rfl, hi19⟩ := Zab hi18
 obtain ⟨a19, n19, c19, e19, rfl, hi20⟩ := Zax hi19
 obtain ⟨_, _, rfl, hi21⟩ := Zab hi20
 obtain ⟨x21, rfl, hi22⟩ := Zdw hi21
 obtain ⟨_, _, rfl, hi23⟩ := Zab hi22
 obtain ⟨a33, n33, c33, e33, rfl, hi24⟩ := Zax hi23
 obtain ⟨_, _, rfl, hi25⟩ := Zab hi24
 obtain ⟨x34, rfl, hi26⟩ := Zak hi25
 obtain ⟨_, _, rfl, hi27⟩ := Zab hi26
 obtain ⟨x35, rfl, hi28⟩ := Zak hi27
 obtain ⟨_, _, rfl, hi29⟩ := Zab hi28
 obtain ⟨a64, n64, c64, e64, rfl, hi30⟩ := Zax hi29
 obtain ⟨_, _, rfl, hi31⟩ := Zab hi30
 obtain ⟨x65, rfl, hi32⟩ := Zak hi31
 obtain ⟨_, _, rfl, hi33⟩ := Zab hi32
 obtain ⟨x66, rfl, hi34⟩ := Zak hi33
 obtain ⟨_, _, rfl, hi35⟩ := Zab hi34
 obtain ⟨a83, n83, c83, e83, rfl, hi36⟩ := Zax hi35
 obtain ⟨_, _, rfl, hi37⟩ := Zab hi36
 obtain ⟨x84, rfl, hi38⟩ := Zak hi37
 obtain ⟨_, _, rfl, hi39⟩ := Zab hi38
 obtain ⟨x85, rfl, hi40⟩ := Zak hi39
 obtain ⟨_, _, rfl, hi41⟩ := Zab hi40
 obtain ⟨a89, n89, c89, e89, rfl, hi42⟩ := Zax hi41
 obtain ⟨_, _, rfl, hi43⟩ := Zab hi42
 obtain ⟨x90, rfl, hi44⟩ := Zak hi43
 obtain ⟨_, _, rfl, hi45⟩ := Zab hi44
 obtain ⟨x91, rfl, hi46⟩ := Zak hi45
 obtain ⟨rfl, hi47⟩ := Zbk hi46
 have hi := hi47
 exact ⟨a0, x2, i4, o4, i8, o8, a9, n9, c9, e9, a12, n12, c12, e12, x15, a17, n17, c17, e17, a19, n19, c19, e19, x21, a33, n33, c33, e33, x34, x35, a64, n64, c64, e64, x65, x66, a83, n83, c83, e83, x84, x85, a89, n89, c89, e89, x90, x91, rfl, hi⟩
abbrev T30 := Pt → Int → Nat → Nat → Nat → Nat → Pt → Nat → Nat → Bool → Pt → Nat → Nat → Bool → Pt → Nat → Nat → Bool → Int → Int → Pt → Nat → Nat → Bool → Int → Int → Zaa → Prop
def E30 (R30 : T30) (env : Env) (h : Zaa) : Prop := Zbj 0 env fun v env => Zgg (some v) fun a0 => Zbj 2 env fun v env => Zda .i64 v fun x2 => Zbj 4 env fun v env => Zgg (some v) fun a => Zbl a fun i4 o4 => Zbj 8 env fun v env => Zgg (some v) fun a => Zbl a fun i8 o8 => Zbj 9 env fun v env => xSl (some v) fun a9 n9 c9 e9 => Zbj 12 env fun v env => xSl (some v) fun a12 n12 c12 e12 => Zbj 33 env fun v env => xSl (some v) fun a33 n33 c33 e33 => Zbj 34 env fun v env => Zda .i64 v fun x34 => Zbj 35 env fun v env => Zda .i64 v fun x35 => Zbj 114 env fun v env => xSl (some v) fun a114 n114 c114 e114 => Zbj 115 env fun v env => Zda .i64 v fun x115 => Zbj 116 env fun v env => Zda .i64 v fun x116 => Ziw env (R30 a0 x2 i4 o4 i8 o8 a9 n9 c9 e9 a12 n12 c12 e12 a33 n33 c33 e33 x34 x35 a114 n114 c114 e114 x115 x116 h)
theorem Yky {R30 : T30} {env : Env} {h : Zaa} (hi : E30 R30 env h) : ∃ a0, ∃ x2, ∃ i4, ∃ o4, ∃ i8, ∃ o8, ∃ a9, ∃ n9, ∃ c9, ∃ e9, ∃ a12, ∃ n12, ∃ c12, ∃ e12, ∃ a33, ∃ n33, ∃ c33, ∃ e33, ∃ x34, ∃ x35, ∃ a114, ∃ n114, ∃ c114, ∃ e114, ∃ x115, ∃ x116, env = [(0, .ptr a0), (2, .int .i64 x2), (4, .ptr (some (i4, o4))), (8, .ptr (some (i8, o8))), (9, .slice a9 n9 c9 e9), (12, .slice a12 n12 c12 e12), (33, .slice a33 n33 c33 e33), (34, .int .i64 x34), (35, .int .i64 x35), (114, .slice a114 n114 c114 e114), (115, .int .i64 x115), (116, .int .i64 x116)] ∧ R30 a0 x2 i4 o4 i8 o8 a9 n9 c9 e9 a12 n12 c12 e12 a33 n33 c33 e33 x34 x35 a114 n114 c114 e114 x115 x116 h := by
 unfold E30 at hi
 have hi0 := hi
 clear hi
 obtain ⟨_, _, rfl, hi1⟩ := Zab hi0
 obtain ⟨a0, rfl, hi2⟩ := Zbo hi1
 obtain ⟨_, _, rfl, hi3⟩ := Zab hi2
 obtain ⟨x2, rfl, hi4⟩ := Zak hi3
 obtain ⟨_, _, rfl, hi5⟩ := Zab hi4
 obtain ⟨a, rfl, hi6⟩ := Zbo hi5
 obtain ⟨i4, o4, rfl, hi7⟩ := Zbs hi6
 obtain ⟨_, _, rfl, hi8⟩ := Zab hi7
 obtain ⟨a, rfl, hi9⟩ := Zbo hi8
 obtain ⟨i8, o8, rfl, hi10⟩ := Zbs hi9
 obtain ⟨_, _, rfl, hi11⟩ := Zab hi10
 obtain ⟨a9, n9, c9, e9, rfl, hi12⟩ := Zax hi11
 obtain ⟨_, _, rfl, hi13⟩ := Zab hi12
 obtain ⟨a12, n12, c12, e12, rfl, hi14⟩ := Zax hi13
 obtain ⟨_, _, rfl, hi15⟩ := Zab hi14
 obtain ⟨a33, n33, c33, e33, rfl, hi16⟩ := Zax hi15
 obtain ⟨_, _, rfl, hi17⟩ := Zab hi16
 obtain ⟨x34, rfl, hi18⟩ := Zak hi17
 obtain ⟨_, _, rfl, hi19⟩ := Zab hi18
 obtain ⟨x35, rfl, hi20⟩ := Zak hi19
 obtain ⟨_, _, rfl, hi21⟩ := Zab hi20
 obtain ⟨a114, n114, c114, e114, rfl, hi22⟩ := Zax hi21
 obtain ⟨_, _, rfl, hi23⟩ := Zab hi22
 obtain ⟨x115, rfl, hi24⟩ := Zak hi23
 obtain ⟨_, _, rfl, hi25⟩ := Zab hi24
 obtain ⟨x116, rfl, hi26⟩ := Zak hi25
 obtain ⟨rfl, hi27⟩ := Zbk hi26
 have hi := hi27
 exact ⟨a0, x2, i4, o4, i8, o8, a9, n9, c9, e9, a12, n12, c12, e12, a33, n33, c33, e33, x34, x35, a114, n114, c114, e114, x115, x116, rfl, hi⟩
def K0 (Q : QT) : KT := andThen (fun env' h' => (match kp.find 4000041 with | some ks => Den pg fn.ntmps (C [1, 1, 1, 1]) (env'.keep ks) h' (KR Q) | none => den pg fn.ntmps kp (C [1, 1, 1, 1]) env' h' (KR Q))) (KR Q)
def K1 (Q : QT) : KT := Zcg 0 (K0 Q)
def K2 (Q : QT) : KT := Zgf kp 4 (K1 Q)
def K3 (Q : QT) (R4 : T4) : KT := rnd ((kp.find 1000004).getD []) (E4 R4) (K2 Q)
def K4 (Q : QT) (R4 : T4) : KT := andThen (fun env' h' => (match kp.find 4000040 with | some ks => Den pg fn.ntmps (C [1, 1, 1, 0, 1, 0, 0, 1, 1, 1]) (env'.keep ks) h' (K3 Q R4) | none => den pg fn.ntmps kp (C [1, 1, 1, 0, 1, 0, 0, 1, 1, 1]) env' h' (K3 Q R4))) (K3 Q R4)
def K5 (Q : QT) (R4 : T4) : KT := Zcg 1 (K4 Q R4)
def K6 (Q : QT) (R4 : T4) : KT := andThen (fun env' h' => (match kp.find 4000029 with | some ks => Den pg fn.ntmps (C [1, 1, 1, 0, 1, 0, 0, 1, 1, 0, 0, 1, 1, 1, 1, 1]) (env'.keep ks) h' (K5 Q R4) | none => den pg fn.ntmps kp (C [1, 1, 1, 0, 1, 0, 0, 1, 1, 0, 0, 1, 1, 1, 1, 1]) env' h' (K5 Q R4))) (K5 Q R4)
def K7 (Q : QT) (R4 : T4) : KT := Zcg 2 (K6 Q R4)
def K8 (Q : QT) (R4 : T4) : KT := Zgf kp 10 (K7 Q R4)
def K9 (Q : QT) (R4 : T4) (R10 : T10) : KT := rnd ((kp.find 1000010).getD []) (E10 R10) (K8 Q R4)
def K10 (Q : QT) (R4 : T4) (R10 : T10) : KT := andThen (fun env' h' => (match kp.find 4000028 with | some ks => Den pg fn.ntmps (C [1, 1, 1, 0, 1, 0, 0, 1, 1, 0, 0, 1, 1, 1, 1, 0, 1, 0, 0, 1, 1, 1]) (env'.keep ks) h' (K9 Q R4 R10) | none => den pg fn.ntmps kp (C [1, 1, 1, 0, 1, 0, 0, 1, 1, 0, 0, 1, 1, 1, 1, 0, 1, 0, 0, 1, 1, 1]) env' h' (K9 Q R4 R10))) (K9 Q R4 R10)
def K11 (Q : QT) (R4 : T4) (R10 : T10) : KT := Zcg 3 (K10 Q R4 R10)
def K12 (Q : QT) (R4 : T4) (R10 : T10) : KT := andThen (fun env' h' => (match kp.find 4000025 with | some ks => Den pg fn.ntmps (C [1, 1, 1, 0, 1, 0, 0, 1, 1, 0, 0, 1, 1, 1, 1, 0, 1, 0, 0, 1, 1, 0, 0, 1, 1, 1, 1, 1]) (env'.keep ks) h' (K11 Q R4 R10) | none => den pg fn.ntmps kp (C [1, 1, 1, 0, 1, 0, 0, 1, 1, 0, 0, 1, 1, 1, 1, 0, 1, 0, 0, 1, 1, 0, 0, 1, 1, 1, 1, 1]) env' h' (K11 Q R4 R10))) (K11 Q R4 R10)
def K13 (Q : QT) (R4 : T4) (R10 : T10) : KT := Zcg 4 (K12 Q R4 R10)
def K14 (Q : QT) (R4 : T4) (R10 : T10) : KT := Zgf kp 17 (K13 Q R4 R10)
def K15 (Q : QT) (R4 : T4) (R10 : T10) (R17 : T17) : KT := rnd ((kp.find 1000017).getD []) (E17 R17) (K14 Q R4 R10)
def K16 (Q : QT) (R4 : T4) (R10 : T10) (R17 : T17) : KT := andThen (fun env' h' => (match kp.find 4000024 with | some ks => Den pg fn.ntmps (C [1, 1, 1, 0, 1, 0, 0, 1, 1, 0, 0, 1, 1, 1, 1, 0, 1, 0, 0, 1, 1, 0, 0, 1, 1, 1, 1, 0, 1, 0, 0, 1, 1, 1]) (env'.keep ks) h' (K15 Q R4 R10 R17) | none => den pg fn.ntmps kp (C [1, 1, 1, 0, 1, 0, 0, 1, 1, 0, 0, 1, 1, 1, 1, 0, 1, 0, 0, 1, 1, 0, 0, 1, 1, 1, 1, 0, 1, 0, 0, 1, 1, 1]) env' h' (K15 Q R4 R10 R17))) (K15 Q R4 R10 R17)
def K17 (Q : QT) (R4 : T4) (R10 : T10) (R17 : T17) : KT := Zcg 5 (K16 Q R4 R10 R17)
def K18 (Q : QT) (R4 : T4) (R10 : T10) (R17 : T17) : KT := Zcg 6 (K17 Q R4 R10 R17)
def K19 (Q : QT) (R4 : T4) (R10 : T10) (R17 : T17) : KT := Zgf kp 20 (K18 Q R4 R10 R17)
def K20 (Q : QT) (R4 : T4) (R10 : T10) (R17 : T17) (R20 : T20) : KT := rnd ((kp.find 1000020).getD []) (E20 R20) (K19 Q R4 R10 R17)
def K21 (Q : QT) (R4 : T4) : KT := andThen (fun env' h' => (match kp.find 4000038 with | some ks => Den pg fn.ntmps (C [1, 1, 1, 0, 1, 0, 0, 1, 1, 0, 0, 1, 1, 1, 1, 1, 1]) (env'.keep ks) h' (K5 Q R4) | none => den pg fn.ntmps kp (C [1, 1, 1, 0, 1, 0, 0, 1, 1, 0, 0, 1, 1, 1, 1, 1, 1]) env' h' (K5 Q R4))) (K5 Q R4)
def K22 (Q : QT) (R4 : T4) : KT := Zcg 8 (K21 Q R4)
def K23 (Q : QT) (R4 : T4) : KT := Zgf kp 30 (K22 Q R4)
def K24 (Q : QT) (R4 : T4) (R30 : T30) : KT := rnd ((kp.find 1000030).getD []) (E30 R30) (K23 Q R4)
def K25 (Q : QT) (R4 : T4) (R30 : T30) : KT := andThen (fun env' h' => (match kp.find 4000037 with | some ks => Den pg fn.ntmps (C [1, 1, 1, 0, 1, 0, 0, 1, 1, 0, 0, 1, 1, 1, 1, 1, 0, 1, 0, 0, 1, 1, 1]) (env'.keep ks) h' (K24 Q R4 R30) | none => den pg fn.ntmps kp (C [1, 1, 1, 0, 1, 0, 0, 1, 1, 0, 0, 1, 1, 1, 1, 1, 0, 1, 0, 0, 1, 1, 1]) env' h' (K24 Q R4 R30))) (K24 Q R4 R30)
def K26 (Q : QT) (R4 : T4) (R30 : T30) : KT := Zcg 9 (K25 Q R4 R30)
def L4 (Q : QT) (a0 : Pt) (x2 : Int) (i4 o4 i8 o8 : Nat) (a9 : Pt) (n9 c9 : Nat) (e9 : Bool) (a33 : Pt) (n33 c33 : Nat) (e33 : Bool) (x34 x35 : Int) (h : Zaa) : Prop := Zdz (Den pg fn.ntmps (C [1, 1, 1, 0, 1, 0, 0])) ((kp.find 1000004).getD []) (K2 Q) [(0, .ptr a0), (2, .int .i64 x2), (4, .ptr (some (i4, o4))), (8, .ptr (some (i8, o8))), (9, .slice a9 n9 c9 e9), (33, .slice a33 n33 c33 e33), (34, .int .i64 x34), (35, .int .i64 x35)] h
def J40 (Q : QT) (R4 : T4) (x35 x34 : Int) (a33 : Pt) (n33 c33 : Nat) (e33 : Bool) (i8 o8 i4 o4 : Nat) (x2 : Int) (a0 a9 : Pt) (n9 c9 : Nat) (e9 : Bool) (h : Zaa) : Prop := Den pg fn.ntmps (C [1, 1, 1, 0, 1, 0, 0, 1, 1, 1]) [(35, .int .i64 x35), (34, .int .i64 x34), (33, .slice a33 n33 c33 e33), (8, .ptr (some (i8, o8))), (4, .ptr (some (i4, o4))), (2, .int .i64 x2), (0, .ptr a0), (9, .slice a9 n9 c9 e9)] h (K3 Q R4)
def J8 (Q : QT) (R4 : T4) (x11 : Int) (a12 : Pt) (n12 c12 : Nat) (e12 : Bool) (a0 : Pt) (x2 : Int) (i4 o4 i8 o8 : Nat) (a9 : Pt) (n9 c9 : Nat) (e9 : Bool) (a33 : Pt) (n33 c33 : Nat) (e33 : Bool) (x34 x35 : Int) (h : Zaa) : Prop := Den pg fn.ntmps (C [1, 1, 1, 0, 1, 0, 0, 1, 1, 0, 0, 1, 1, 1]) [(11, .int .i64 x11), (12, .slice a12 n12 c12 e12), (0, .ptr a0), (2, .int .i64 x2), (4, .ptr (some (i4, o4))), (8, .ptr (some (i8, o8))), (9, .slice a9 n9 c9 e9), (33, .slice a33 n33 c33 e33), (34, .int .i64 x34), (35, .int .i64 x35)] h (K5 Q R4)
def Zxx (Q : QT) (a9 : Pt) (n9 c9 : Nat) (e9 : Bool) (h : Zaa) : Prop := At (K1 Q) (.exit 0) [(9, .slice a9 n9 c9 e9), (6, .undef), (7, .undef)] h
def L10 (Q : QT) (R4 : T4) (a0 : Pt) (x2 : Int) (i4 o4 i8 o8 : Nat) (a9 : Pt) (n9 c9 : Nat) (e9 : Bool) (a12 : Pt) (n12 c12 : Nat) (e12 : Bool) (a14 : Pt) (n14 c14 : Nat) (e14 : Bool) (a33 : Pt) (n33 c33 : Nat) (e33 : Bool) (x34 x35 : Int) (a64 : Pt) (n64 c64 : Nat) (e64 : Bool) (x65 x66 : Int) (h : Zaa) : Prop := Zdz (Den pg fn.ntmps (C [1, 1, 1, 0, 1, 0, 0, 1, 1, 0, 0, 1, 1, 1, 1, 0, 1, 0, 0])) ((kp.find 1000010).getD []) (K8 Q R4) [(0, .ptr a0), (2, .int .i64 x2), (4, .ptr (some (i4, o4))), (8, .ptr (some (i8, o8))), (9, .slice a9 n9 c9 e9), (12, .slice a12 n12 c12 e12), (14, .slice a14 n14 c14 e14), (33, .slice a33 n33 c33 e33), (34, .int .i64 x34), (35, .int .i64 x35), (64, .slice a64 n64 c64 e64), (65, .int .i64 x65), (66, .int .i64 x66)] h
def L17 (Q : QT) (R4 : T4) (R10 : T10) (a0 : Pt) (x2 : Int) (i4 o4 i8 o8 : Nat) (a9 : Pt) (n9 c9 : Nat) (e9 : Bool) (a12 : Pt) (n12 c12 : Nat) (e12 : Bool) (x15 : Int) (a17 : Pt) (n17 c17 : Nat) (e17 : Bool) (a19 : Pt) (n19 c19 : Nat) (e19 : Bool) (a33 : Pt) (n33 c33 : Nat) (e33 : Bool) (x34 x35 : Int) (a64 : Pt) (n64 c64 : Nat) (e64 : Bool) (x65 x66 : Int) (a83 : Pt) (n83 c83 : Nat) (e83 : Bool) (x84 x85 : Int) (h : Zaa) : Prop := Zdz (Den pg fn.ntmps (C [1, 1, 1, 0, 1, 0, 0, 1, 1, 0, 0, 1, 1, 1, 1, 0, 1, 0, 0, 1, 1, 0, 0, 1, 1, 1, 1, 0, 1, 0, 0])) ((kp.find 1000017).getD []) (K14 Q R4 R10) [(0, .ptr a0), (2, .int .i64 x2), (4, .ptr (some (i4, o4))), (8, .ptr (some (i8, o8))), (9, .slice a9 n9 c9 e9), (12, .slice a12 n12 c12 e12), (15, .int .i64 x15), (17, .slice a17 n17 c17 e17), (19, .slice a19 n19 c19 e19), (33, .slice a33 n33 c33 e33), (34, .int .i64 x34), (35, .int .i64 x35), (64, .slice a64 n64 c64 e64), (65, .int .i64 x65), (66, .int .i64 x66), (83, .slice a83 n83 c83 e83), (84, .int .i64 x84), (85, .int .i64 x85)] h
def Yrx (Q : QT) (R4 : T4) (a14 : Pt) (n14 c14 : Nat) (e14 : Bool) (a0 : Pt) (x2 : Int) (i4 o4 i8 o8 : Nat) (a9 : Pt) (n9 c9 : Nat) (e9 : Bool) (a12 : Pt) (n12 c12 : Nat) (e12 : Bool) (a33 : Pt) (n33 c33 : Nat) (e33 : Bool) (x34 x35 : Int) (h : Zaa) : Prop := At (K7 Q R4) (.exit 2) [(14, .slice a14 n14 c14 e14), (0, .ptr a0), (2, .int .i64 x2), (4, .ptr (some (i4, o4))), (8, .ptr (some (i8, o8))), (9, .slice a9 n9 c9 e9), (12, .slice a12 n12 c12 e12), (33, .slice a33 n33 c33 e33), (34, .int .i64 x34), (35, .int .i64 x35), (6, .undef), (7, .undef)] h
def L20 (Q : QT) (R4 : T4) (R10 : T10) (R17 : T17) (a0 : Pt) (x2 : Int) (i4 o4 i8 o8 : Nat) (a9 : Pt) (n9 c9 : Nat) (e9 : Bool) (a12 : Pt) (n12 c12 : Nat) (e12 : Bool) (x15 : Int) (a17 : Pt) (n17 c17 : Nat) (e17 : Bool) (a19 : Pt) (n19 c19 : Nat) (e19 : Bool) (x21 : List Nat) (a33 : Pt) (n33 c33 : Nat) (e33 : Bool) (x34 x35 : Int) (a64 : Pt) (n64 c64 : Nat) (e64 : Bool) (x65 x66 : Int) (a83 : Pt) (n83 c83 : Nat) (e83 : Bool) (x84 x85 : Int) (a89 : Pt) (n89 c89 : Nat) (e89 : Bool) (x90 x91 : Int) (h : Zaa) : Prop := Zdz (Den pg fn.ntmps (C [1, 1, 1, 0, 1, 0, 0, 1, 1, 0, 0, 1, 1, 1, 1, 0, 1, 0, 0, 1, 1, 0, 0, 1, 1, 1, 1, 0, 1, 0, 0, 1, 1, 0, 0, 1, 1, 0, 0])) ((kp.find 1000020).getD []) (K19 Q R4 R10 R17) [(0, .ptr a0), (2, .int .i64 x2), (4, .ptr (some (i4, o4))), (8, .ptr (some (i8, o8))), (9, .slice a9 n9 c9 e9), (12, .slice a12 n12 c12 e12), (15, .int .i64 x15), (17, .slice a17 n17 c17 e17), (19, .slice a19 n19 c19 e19), (21, .str x21), (33, .slice a33 n33 c33 e33), (34, .int .i64 x34), (35, .int .i64 x35), (64, .slice a64 n64 c64 e64), (65, .int .i64 x65), (66, .int .i64 x66), (83, .slice a83 n83 c83 e83), (84, .int .i64 x84), (85, .int .i64 x85), (89, .slice a89 n89 c89 e89), (90, .int .i64 x90), (91, .int .i64 x91)] h
def Yri (Q : QT) (R4 : T4) (R10 : T10) (a19 : Pt) (n19 c19 : Nat) (e19 : Bool) (x66 x65 : Int) (a64 : Pt) (n64 c64 : Nat) (e64 : Bool) (a0 : Pt) (x2 : Int) (i4 o4 i8 o8 : Nat) (a9 : Pt) (n9 c9 : Nat) (e9 : Bool) (a12 : Pt) (n12 c12 : Nat) (e12 : Bool) (a33 : Pt) (n33 c33 : Nat) (e33 : Bool) (x34 x35 : Int) (h : Zaa) : Prop := At (K13 Q R4 R10) (.exit 4) [(19, .slice a19 n19 c19 e19), (66, .int .i64 x66), (65, .int .i64 x65), (64, .slice a64 n64 c64 e64), (0, .ptr a0), (2, .int .i64 x2), (4, .ptr (some (i4, o4))), (8, .ptr (some (i8, o8))), (9, .slice a9 n9 c9 e9), (12, .slice a12 n12 c12 e12), (33, .slice a33 n33 c33 e33), (34, .int .i64 x34), (35, .int .i64 x35)] h
def L30 (Q : QT) (R4 : T4) (a0 : Pt) (x2 : Int) (i4 o4 i8 o8 : Nat) (a9 : Pt) (n9 c9 : Nat) (e9 : Bool) (a12 : Pt) (n12 c12 : Nat) (e12 : Bool) (a33 : Pt) (n33 c33 : Nat) (e33 : Bool) (x34 x35 : Int) (a114 : Pt) (n114 c114 : Nat) (e114 : Bool) (x115 x116 : Int) (h : Zaa) : Prop := Zdz (Den pg fn.ntmps (C [1, 1, 1, 0, 1, 0, 0, 1, 1, 0, 0, 1, 1, 1, 1, 1, 0, 1, 0, 0])) ((kp.find 1000030).getD []) (K23 Q R4) [(0, .ptr a0), (2, .int .i64 x2), (4, .ptr (some (i4, o4))), (8, .ptr (some (i8, o8))), (9, .slice a9 n9 c9 e9), (12, .slice a12 n12 c12 e12), (33, .slice a33 n33 c33 e33), (34, .int .i64 x34), (35, .int .i64 x35), (114, .slice a114 n114 c114 e114), (115, .int .i64 x115), (116, .int .i64 x116)] h
def Yso (Q : QT) (R4 : T4) (R10 : T10) (R17 : T17) (x85 x84 : Int) (a83 : Pt) (n83 c83 : Nat) (e83 : Bool) (a17 : Pt) (n17 c17 : Nat) (e17 : Bool) (x15 : Int) (a19 : Pt) (n19 c19 : Nat) (e19 : Bool) (x66 x65 : Int) (a64 : Pt) (n64 c64 : Nat) (e64 : Bool) (a0 : Pt) (x2 : Int) (i4 o4 i8 o8 : Nat) (a9 : Pt) (n9 c9 : Nat) (e9 : Bool) (a12 : Pt) (n12 c12 : Nat) (e12 : Bool) (a33 : Pt) (n33 c33 : Nat) (e33 : Bool) (x34 x35 : Int) (h : Zaa) : Prop := At (K18 Q R4 R10 R17) (.exit 6) [(85, .int .i64 x85), (84, .int .i64 x84), (83, .slice a83 n83 c83 e83), (17, .slice a17 n17 c17 e17), (15, .int .i64 x15), (19, .slice a19 n19 c19 e19), (66, .int .i64 x66), (65, .int .i64 x65), (64, .slice a64 n64 c64 e64), (0, .ptr a0), (2, .int .i64 x2), (4, .ptr (some (i4, o4))), (8, .ptr (some (i8, o8))), (9, .slice a9 n9 c9 e9), (12, .slice a12 n12 c12 e12), (33, .slice a33 n33 c33 e33), (34, .int .i64 x34), (35, .int .i64 x35)] h
def J34 (Q : QT) (R4 : T4) (R30 : T30) (x25 : List Nat) (a9 : Pt) (n9 c9 : Nat) (e9 : Bool) (x116 x115 : Int) (a114 : Pt) (n114 c114 : Nat) (e114 : Bool) (a12 : Pt) (n12 c12 : Nat) (e12 : Bool) (x35 x34 : Int) (a33 : Pt) (n33 c33 : Nat) (e33 : Bool) (i8 o8 i4 o4 : Nat) (x2 : Int) (a0 : Pt) (h : Zaa) : Prop := Den pg fn.ntmps (C [1, 1, 1, 0, 1, 0, 0, 1, 1, 0, 0, 1, 1, 1, 1, 1, 0, 1, 0, 0, 1, 1, 0, 0, 1, 1]) [(25, .str x25), (9, .slice a9 n9 c9 e9), (116, .int .i64 x116), (115, .int .i64 x115), (114, .slice a114 n114 c114 e114), (12, .slice a12 n12 c12 e12), (35, .int .i64 x35), (34, .int .i64 x34), (33, .slice a33 n33 c33 e33), (8, .ptr (some (i8, o8))), (4, .ptr (some (i4, o4))), (2, .int .i64 x2), (0, .ptr a0)] h (K26 Q R4 R30)
def Yrl (Q : QT) (R4 : T4) (a9 : Pt) (n9 c9 : Nat) (e9 : Bool) (x35 x34 : Int) (a33 : Pt) (n33 c33 : Nat) (e33 : Bool) (i8 o8 i4 o4 : Nat) (x2 : Int) (a0 : Pt) (h : Zaa) : Prop := At (K22 Q R4) (.exit 8) [(9, .slice a9 n9 c9 e9), (35, .int .i64 x35), (34, .int .i64 x34), (33, .slice a33 n33 c33 e33), (8, .ptr (some (i8, o8))), (4, .ptr (some (i4, o4))), (2, .int .i64 x2), (0, .ptr a0), (6, .undef), (7, .undef)] h
def J37 (Q : QT) (R4 : T4) (R30 : T30) (x116 x115 : Int) (a114 : Pt) (n114 c114 : Nat) (e114 : Bool) (a12 : Pt) (n12 c12 : Nat) (e12 : Bool) (a9 : Pt) (n9 c9 : Nat) (e9 : Bool) (x35 x34 : Int) (a33 : Pt) (n33 c33 : Nat) (e33 : Bool) (i8 o8 i4 o4 : Nat) (x2 : Int) (a0 : Pt) (h : Zaa) : Prop := Den pg fn.ntmps (C [1, 1, 1, 0, 1, 0, 0, 1, 1, 0, 0, 1, 1, 1, 1, 1, 0, 1, 0, 0, 1, 1, 1]) [(116, .int .i64 x116), (115, .int .i64 x115), (114, .slice a114 n114 c114 e114), (12, .slice a12 n12 c12 e12), (9, .slice a9 n9 c9 e9), (35, .int .i64 x35), (34, .int .i64 x34), (33, .slice a33 n33 c33 e33), (8, .ptr (some (i8, o8))), (4, .ptr (some (i4, o4))), (2, .int .i64 x2), (0, .ptr a0)] h (K24 Q R4 R30)
def L4t (Q : QT) (R4 : T4) (a0 : Pt) (x2 : Int) (i4 o4 i8 o8 : Nat) (a9 : Pt) (n9 c9 : Nat) (e9 : Bool) (a33 : Pt) (n33 c33 : Nat) (e33 : Bool) (x34 x35 : Int) (h : Zaa) : Prop :=
 bcase (decide ((x35 : Int) < x34)) ((0 ≤ (x35 : Int) ∧ (x35 : Int) < (n33 : Nat)) ∧ (Zbl a33 fun I45 O46 => Zen .i64 (Zal h (.ptr (some (I45, O46 + (Int.toNat x35) * 1)))) fun X47 => xSl (Zal h (.ptr (some (i8, o8 + 1)))) fun A48 N49 C50 E51 => (0 ≤ (X47 : Int) ∧ (X47 : Int) < (N49 : Nat)) ∧ (Zbl A48 fun I52 O53 => Zcz (Zbx h (.ptr (some (I52, O53 + (Int.toNat X47) * 3))) 3) fun K54 => Zao K54 fun C55 Z56 => Zbp (some C55) fun S57 => Zao Z56 fun C58 Z59 => Zbp (some C58) fun S60 => Zao Z59 fun C61 Z62 => xSl (some C61) fun A63 N64 C65 E66 => Zcl Z62 (Zbp (Zal h (.ptr (some (i4, o4 + 1)))) fun S67 => (Zbx h (.ptr (some (I52, O53 + (Int.toNat X47) * 3))) 3 = Zbx h (.ptr (some (I52, O53 + (Int.toNat X47) * 3))) 3) ∧ (Zal h (.ptr (some (i8, o8 + 1))) = Zal h (.ptr (some (i8, o8 + 1)))) ∧ Zae pg Zmr [.agg [.str S57, .str S60, .slice A63 N64 C65 E66], .str S67] h fun V68 H69 =>
 Ztq V68 fun K70 => Zao K70 fun C71 Z72 => xSl (some C71) fun A73 N74 C75 E76 => Zao Z72 fun C77 Z78 => Zch (some C77) fun B79 => Zcl Z78 ((Zal H69 (.ptr (some (i8, o8 + 1))) = Zal h (.ptr (some (i8, o8 + 1)))) ∧ bcase (!B79) (J40 Q R4 x35 x34 a33 n33 c33 e33 i8 o8 i4 o4 x2 a0 a9 n9 c9 e9 H69) (bcase (decide (((((N74 : Nat) : Int)) : Int) > 0)) (bcase ((x2 : Int) == 0) (J40 Q R4 x35 x34 a33 n33 c33 e33 i8 o8 i4 o4 x2 a0 a9 n9 c9 e9 H69) (J8 Q R4 X47 A73 N74 C75 E76 a0 x2 i4 o4 i8 o8 a9 n9 c9 e9 a33 n33 c33 e33 x34 x35 H69)) (J8 Q R4 X47 A73 N74 C75 E76 a0 x2 i4 o4 i8 o8 a9 n9 c9 e9 a33 n33 c33 e33 x34 x35 H69))))))) (Zxx Q a9 n9 c9 e9 h)
theorem Zsz (Q : QT) (R4 : T4) (a0 : Pt) (x2 : Int) (i4 o4 i8 o8 : Nat) (a9 : Pt) (n9 c9 : Nat) (e9 : Bool) (a33 : Pt) (n33 c33 : Nat) (e33 : Bool) (x34 x35 : Int) (h : Zaa) (ht : L4t Q R4 a0 x2 i4 o4 i8 o8 a9 n9 c9 e9 a33 n33 c33 e33 x34 x35 h) : Den pg fn.ntmps (C [1, 1, 1, 0, 1, 0, 0]) [(0, .ptr a0), (2, .int .i64 x2), (4, .ptr (some (i4, o4))), (8, .ptr (some (i8, o8))), (9, .slice a9 n9 c9 e9), (33, .slice a33 n33 c33 e33), (34, .int .i64 x34), (35, .int .i64 x35)] h (K3 Q R4) :=
 Zbb (kp := kp) (cast (by kernel_rfl) ht)
theorem L4ind (Q : QT) (a0 : Pt) (x2 : Int) (i4 o4 i8 o8 : Nat) (a33 : Pt) (n33 c33 : Nat) (e33 : Bool) (x34 : Int) {G : Type} (J : G → Pt → Nat → Nat → Bool → Int → Zaa → Prop) (m : G → Nat)
 (hr : ∀ (g : G) (a9 : Pt) (n9 c9 : Nat) (e9 : Bool) (x35 : Int) (h : Zaa), J g a9 n9 c9 e9 x35 h → ∀ (R4 : T4), (∀ g' (a9 : Pt) (n9 c9 : Nat) (e9 : Bool) (x35 : Int) (h : Zaa), m g' < m g → J g' a9 n9 c9 e9 x35 h → R4 a0 x2 i4 o4 i8 o8 a9 n9 c9 e9 a33 n33 c33 e33 x34 x35 h) → L4t Q R4 a0 x2 i4 o4 i8 o8 a9 n9 c9 e9 a33 n33 c33 e33 x34 x35 h)
 (g : G) (a9 : Pt) (n9 c9 : Nat) (e9 : Bool) (x35 : Int) (h : Zaa) (hj : J g a9 n9 c9 e9 x35 h) : L4 Q a0 x2 i4 o4 i8 o8 a9 n9 c9 e9 a33 n33 c33 e33 x34 x35 h := by
 refine Zdz.inv2 (fun g => E4 fun a0' x2' i4' o4' i8' o8' a9 n9 c9 e9 a33' n33' c33' e33' x34' x35 h => a0 = a0' ∧ x2 = x2' ∧ i4 = i4' ∧ o4 = o4' ∧ i8 = i8' ∧ o8 = o8' ∧ a33 = a33' ∧ n33 = n33' ∧ c33 = c33' ∧ e33 = e33' ∧ x34 = x34' ∧ J g a9 n9 c9 e9 x35 h) (fun g => E4 fun a0' x2' i4' o4' i8' o8' a9 n9 c9 e9 a33' n33' c33' e33' x34' x35 h => a0 = a0' ∧ x2 = x2' ∧ i4 = i4' ∧ o4 = o4' ∧ i8 = i8' ∧ o8 = o8' ∧ a33 = a33' ∧ n33 = n33' ∧ c33 = c33' ∧ e33 = e33' ∧ x34 = x34' ∧ ∃ g', m g' < m g ∧ J g' a9 n9 c9 e9 x35 h) m ?_ ?_ g ⟨rfl, rfl, rfl, rfl, rfl, rfl, rfl, rfl, rfl, rfl, rfl, hj⟩
 ·intro g env h hi
  obtain ⟨a0', x2', i4', o4', i8', o8', a9, n9, c9, e9, a33', n33', c33', e33', x34', x35, rfl, rfl, rfl, rfl, rfl, rfl, rfl, rfl, rfl, rfl, rfl, rfl, hj⟩ := Zic hi
  exact Zsz Q _ a0 x2 i4 o4 i8 o8 a9 n9 c9 e9 a33 n33 c33 e33 x34 x35 h (hr g a9 n9 c9 e9 x35 h hj (fun a0' x2' i4' o4' i8' o8' a9 n9 c9 e9 a33' n33' c33' e33' x34' x35 h => a0 = a0' ∧ x2 = x2' ∧ i4 = i4' ∧ o4 = o4' ∧ i8 = i8' ∧ o8 = o8' ∧ a33 = a33' ∧ n33 = n33' ∧ c33 = c33' ∧ e33 = e33' ∧ x34 = x34' ∧ ∃ g', m g' < m g ∧ J g' a9 n9 c9 e9 x35 h) fun g' a9 n9 c9 e9 x35 h hlt hj => ⟨rfl, rfl, rfl, rfl, rfl, rfl, rfl, rfl, rfl, rfl, rfl, g', hlt, hj⟩)
 ·intro g env h hi
  obtain ⟨a0', x2', i4', o4', i8', o8', a9, n9, c9, e9, a33', n33', c33', e33', x34', x35, rfl, rfl, rfl, rfl, rfl, rfl, rfl, rfl, rfl, rfl, rfl, rfl, g', hlt, hj⟩ := Zic hi
  exact ⟨g', hlt, rfl, rfl, rfl, rfl, rfl, rfl, rfl, rfl, rfl, rfl, rfl, hj⟩
theorem J40i (Q : QT) (R4 : T4) (x35 x34 : Int) (a33 : Pt) (n33 c33 : Nat) (e33 : Bool) (i8 o8 i4 o4 : Nat) (x2 : Int) (a0 a9 : Pt) (n9 c9 : Nat) (e9 : Bool) (h : Zaa) (ht :
 R4 a0 x2 i4 o4 i8 o8 a9 n9 c9 e9 a33 n33 c33 e33 x34 (IntKind.wrap .i64 (x35 + 1)) h) : J40 Q R4 x35 x34 a33 n33 c33 e33 i8 o8 i4 o4 x2 a0 a9 n9 c9 e9 h :=
 Zbb (kp := kp) (cast (by kernel_rfl) ht)
theorem J8i (Q : QT) (R4 : T4) (x11 : Int) (a12 : Pt) (n12 c12 : Nat) (e12 : Bool) (a0 : Pt) (x2 : Int) (i4 o4 i8 o8 : Nat) (a9 : Pt) (n9 c9 : Nat) (e9 : Bool) (a33 : Pt) (n33 c33 : Nat) (e33 : Bool) (x34 x35 : Int) (h : Zaa) (ht :
 Zae pg Zgu [.int .i64 x11] h fun V80 H81 =>
 Zbp (some V80) fun S82 => Zcn (H81 ++ [.cells Zaz [.str S82] false]) fun H83 => L10 Q R4 a0 x2 i4 o4 i8 o8 a9 n9 c9 e9 a12 n12 c12 e12 (some (H81.length, 0)) 1 1 true a33 n33 c33 e33 x34 x35 a12 n12 c12 e12 (((n12 : Nat) : Int)) 0 H83) : J8 Q R4 x11 a12 n12 c12 e12 a0 x2 i4 o4 i8 o8 a9 n9 c9 e9 a33 n33 c33 e33 x34 x35 h :=
 Zbb (kp := kp) (cast (by kernel_rfl) ht)
theorem A4x0i (Q : QT) (a9 : Pt) (n9 c9 : Nat) (e9 : Bool) (h : Zaa) (ht :
 Q (.tup [.slice a9 n9 c9 e9, .bool true]) h) : Zxx Q a9 n9 c9 e9 h :=
 At.mk (cast (by kernel_rfl) ht)
def L10t (Q : QT) (R4 : T4) (R10 : T10) (a0 : Pt) (x2 : Int) (i4 o4 i8 o8 : Nat) (a9 : Pt) (n9 c9 : Nat) (e9 : Bool) (a12 : Pt) (n12 c12 : Nat) (e12 : Bool) (a14 : Pt) (n14 c14 : Nat) (e14 : Bool) (a33 : Pt) (n33 c33 : Nat) (e33 : Bool) (x34 x35 : Int) (a64 : Pt) (n64 c64 : Nat) (e64 : Bool) (x65 x66 : Int) (h : Zaa) : Prop :=
 bcase (decide ((x66 : Int) < x65)) ((0 ≤ (x66 : Int) ∧ (x66 : Int) < (n64 : Nat)) ∧ (Zbl a64 fun I84 O85 => Zcz (Zbx h (.ptr (some (I84, O85 + (Int.toNat x66) * 2))) 2) fun K86 => Zao K86 fun C87 Z88 => Zbp (some C87) fun S89 => Zao Z88 fun C90 Z91 => Zbp (some C90) fun S92 => Zcl Z91 (Zcn (h ++ [.cells Zad [.str [], .str []] false]) fun H93 => Zcp (Zbn H93 (.ptr (some (h.length, 0))) [.str S89, .str S92]) fun H94 => Zcz (Zbx H94 (.ptr (some (h.length, 0))) 2) fun K95 => Zao K95 fun C96 Z97 => Zbp (some C96) fun S98 => Zao Z97 fun C99 Z100 => Zbp (some C99) fun S101 => Zcl Z100 (Zae pg Zge [.ptr a0, .agg [.str S98, .str S101], .int .i64 (IntKind.wrap .i64 (x2 - 1))] H94 fun V102 H103 =>
 Ztq V102 fun K104 => Zao K104 fun C105 Z106 => xSl (some C105) fun A107 N108 C109 E110 => Zao Z106 fun C111 Z112 => Zch (some C111) fun B113 => Zcl Z112 (bcase (!B113) (Zcn (H103 ++ [.cells Zaz [] false]) fun H114 => Q (.tup [.slice (some (H103.length, 0)) 0 0 true, .bool false]) H114) (Zcn (H103 ++ [.cells Zaz [] false]) fun H115 => L17 Q R4 R10 a0 x2 i4 o4 i8 o8 a9 n9 c9 e9 a12 n12 c12 e12 x66 A107 N108 C109 E110 (some (H103.length, 0)) 0 0 true a33 n33 c33 e33 x34 x35 a64 n64 c64 e64 x65 x66 a14 n14 c14 e14 (((n14 : Nat) : Int)) 0 H115)))))) (Yrx Q R4 a14 n14 c14 e14 a0 x2 i4 o4 i8 o8 a9 n9 c9 e9 a12 n12 c12 e12 a33 n33 c33 e33 x34 x35 h)
theorem Ylw (Q : QT) (R4 : T4) (R10 : T10) (a0 : Pt) (x2 : Int) (i4 o4 i8 o8 : Nat) (a9 : Pt) (n9 c9 : Nat) (e9 : Bool) (a12 : Pt) (n12 c12 : Nat) (e12 : Bool) (a14 : Pt) (n14 c14 : Nat) (e14 : Bool) (a33 : Pt) (n33 c33 : Nat) (e33 : Bool) (x34 x35 : Int) (a64 : Pt) (n64 c64 : Nat) (e64 : Bool) (x65 x66 : Int) (h : Zaa) (ht : L10t Q R4 R10 a0 x2 i4 o4 i8 o8 a9 n9 c9 e9 a12 n12 c12 e12 a14 n14 c14 e14 a33 n33 c33 e33 x34 x35 a64 n64 c64 e64 x65 x66 h) : Den pg fn.ntmps (C [1, 1, 1, 0, 1, 0, 0, 1, 1, 0, 0, 1, 1, 1, 1, 0, 1, 0, 0]) [(0, .ptr a0), (2, .int .i64 x2), (4, .ptr (some (i4, o4))), (8, .ptr (some (i8, o8))), (9, .slice a9 n9 c9 e9), (12, .slice a12 n12 c12 e12), (14, .slice a14 n14 c14 e14), (33, .slice a33 n33 c33 e33), (34, .int .i64 x34), (35, .int .i64 x35), (64, .slice a64 n64 c64 e64), (65, .int .i64 x65), (66, .int .i64 x66)] h (K9 Q R4 R10) :=
 Zbb (kp := kp) (cast (by kernel_rfl) ht)
theorem L10ind (Q : QT) (R4 : T4) (a0 : Pt) (x2 : Int) (i4 o4 i8 o8 : Nat) (a9 : Pt) (n9 c9 : Nat) (e9 : Bool) (a12 : Pt) (n12 c12 : Nat) (e12 : Bool) (a33 : Pt) (n33 c33 : Nat) (e33 : Bool) (x34 x35 : Int) (a64 : Pt) (n64 c64 : Nat) (e64 : Bool) (x65 : Int) {G : Type} (J : G → Pt → Nat → Nat → Bool → Int → Zaa → Prop) (m : G → Nat)
 (hr : ∀ (g : G) (a14 : Pt) (n14 c14 : Nat) (e14 : Bool) (x66 : Int) (h : Zaa), J g a14 n14 c14 e14 x66 h → ∀ (R10 : T10), (∀ g' (a14 : Pt) (n14 c14 : Nat) (e14 : Bool) (x66 : Int) (h : Zaa), m g' < m g → J g' a14 n14 c14 e14 x66 h → R10 a0 x2 i4 o4 i8 o8 a9 n9 c9 e9 a12 n12 c12 e12 a14 n14 c14 e14 a33 n33 c33 e33 x34 x35 a64 n64 c64 e64 x65 x66 h) → L10t Q R4 R10 a0 x2 i4 o4 i8 o8 a9 n9 c9 e9 a12 n12 c12 e12 a14 n14 c14 e14 a33 n33 c33 e33 x34 x35 a64 n64 c64 e64 x65 x66 h)
 (g : G) (a14 : Pt) (n14 c14 : Nat) (e14 : Bool) (x66 : Int) (h : Zaa) (hj : J g a14 n14 c14 e14 x66 h) : L10 Q R4 a0 x2 i4 o4 i8 o8 a9 n9 c9 e9 a12 n12 c12 e12 a14 n14 c14 e14 a33 n33 c33 e33 x34 x35 a64 n64 c64 e64 x65 x66 h := by
 refine Zdz.inv2 (fun g => E10 fun a0' x2' i4' o4' i8' o8' a9' n9' c9' e9' a12' n12' c12' e12' a14 n14 c14 e14 a33' n33' c33' e33' x34' x35' a64' n64' c64' e64' x65' x66 h => a0 = a0' ∧ x2 = x2' ∧ i4 = i4' ∧ o4 = o4' ∧ i8 = i8' ∧ o8 = o8' ∧ a9 = a9' ∧ n9 = n9' ∧ c9 = c9' ∧ e9 = e9' ∧ a12 = a12' ∧ n12 = n12' ∧ c12 = c12' ∧ e12 = e12' ∧ a33 = a33' ∧ n33 = n33' ∧ c33 = c33' ∧ e33 = e33' ∧ x34 = x34' ∧ x35 = x35' ∧ a64 = a64' ∧ n64 = n64' ∧ c64 = c64' ∧ e64 = e64' ∧ x65 = x65' ∧ J g a14 n14 c14 e14 x66 h) (fun g => E10 fun a0' x2' i4' o4' i8' o8' a9' n9' c9' e9' a12' n12' c12' e12' a14 n14 c14 e14 a33' n33' c33' e33' x34' x35' a64' n64' c64' e64' x65' x66 h => a0 = a0' ∧ x2 = x2' ∧ i4 = i4' ∧ o4 = o4' ∧ i8 = i8' ∧ o8 = o8' ∧ a9 = a9' ∧ n9 = n9' ∧ c9 = c9' ∧ e9 = e9' ∧ a12 = a12' ∧ n12 = n12' ∧ c12 = c12' ∧ e12 = e12' ∧ a33 = a33' ∧ n33 = n33' ∧ c33 = c33' ∧ e33 = e33' ∧ x34 = x34' ∧ x35 = x35' ∧ a64 = a64' ∧ n64 = n64' ∧ c64 = c64' ∧ e64 = e64' ∧ x65 = x65' ∧ ∃ g', m g' < m g ∧ J g' a14 n14 c14 e14 x66 h) m ?_ ?_ g ⟨rfl, rfl, rfl, rfl, rfl, rfl, rfl, rfl, rfl, rfl, rfl, rfl, rfl, rfl, rfl, rfl, rfl, rfl, rfl, rfl, rfl, rfl, rfl, rfl, rfl, hj⟩
 ·intro g env h hi
  obtain ⟨a0', x2', i4', o4', i8', o8', a9', n9', c9', e9', a12', n12', c12', e12', a14, n14, c14, e14, a33', n33', c33', e33', x34', x35', a64', n64', c64', e64', x65', x66, rfl, rfl, rfl, rfl, rfl, rfl, rfl, rfl, rfl, rfl, rfl, rfl, rfl, rfl, rfl, rfl, rfl, rfl, rfl, rfl, rfl, rfl, rfl, rfl, rfl, rfl, hj⟩ := Zwn hi
  exact Ylw Q R4 (fun a0' x2' i4' o4' i8' o8' a9' n9' c9' e9' a12' n12' c12' e12' a14 n14 c14 e14 a33' n33' c33' e33' x34' x35' a64' n64' c64' e64' x65' x66 h => a0 = a0' ∧ x2 = x2' ∧ i4 = i4' ∧ o4 = o4' ∧ i8 = i8' ∧ o8 = o8' ∧ a9 = a9' ∧ n9 = n9' ∧ c9 = c9' ∧ e9 = e9' ∧ a12 = a12' ∧ n12 = n12' ∧ c12 = c12' ∧ e12 = e12' ∧ a33 = a33' ∧ n33 = n33' ∧ c33 = c33' ∧ e33 = e33' ∧ x34 = x34' ∧ x35 = x35' ∧ a64 = a64' ∧ n64 = n64' ∧ c64 = c64' ∧ e64 = e64' ∧ x65 = x65' ∧ ∃ g', m g' < m g ∧ J g' a14 n14 c14 e14 x66 h) a0 x2 i4 o4 i8 o8 a9 n9 c9 e9 a12 n12 c12 e12 a14 n14 c14 e14 a33 n33 c33 e33 x34 x35 a64 n64 c64 e64 x65 x66 h (hr g a14 n14 c14 e14 x66 h hj (fun a0' x2' i4' o4' i8' o8' a9' n9' c9' e9' a12' n12' c12' e12' a14 n14 c14 e14 a33' n33' c33' e33' x34' x35' a64' n64' c64' e64' x65' x66 h => a0 = a0' ∧ x2 = x2' ∧ i4 = i4' ∧ o4 = o4' ∧ i8 = i8' ∧ o8 = o8' ∧ a9 = a9' ∧ n9 = n9' ∧ c9 = c9' ∧ e9 = e9' ∧ a12 = a12' ∧ n12 = n12' ∧ c12 = c12' ∧ e12 = e12' ∧ a33 = a33' ∧ n33 = n33' ∧ c33 = c33' ∧ e33 = e33' ∧ x34 = x34' ∧ x35 = x35' ∧ a64 = a64' ∧ n64 = n64' ∧ c64 = c64' ∧ e64 = e64' ∧ x65 = x65' ∧ ∃ g', m g' < m g ∧ J g' a14 n14 c14 e14 x66 h) fun g' a14 n14 c14 e14 x66 h hlt hj => ⟨rfl, rfl, rfl, rfl, rfl, rfl, rfl, rfl, rfl, rfl, rfl, rfl, rfl, rfl, rfl, rfl, rfl, rfl, rfl, rfl, rfl, rfl, rfl, rfl, rfl, g', hlt, hj⟩)
 ·intro g env h hi
  obtain ⟨a0', x2', i4', o4', i8', o8', a9', n9', c9', e9', a12', n12', c12', e12', a14, n14, c14, e14, a33', n33', c33', e33', x34', x35', a64', n64', c64', e64', x65', x66, rfl, rfl, rfl, rfl, rfl, rfl, rfl, rfl, rfl, rfl, rfl, rfl, rfl, rfl, rfl, rfl, rfl, rfl, rfl, rfl, rfl, rfl, rfl, rfl, rfl, rfl, g', hlt, hj⟩ := Zwn hi
  exact ⟨g', hlt, rfl, rfl, rfl, rfl, rfl, rfl, rfl, rfl, rfl, rfl, rfl, rfl, rfl, rfl, rfl, rfl, rfl, rfl, rfl, rfl, rfl, rfl, rfl, rfl, rfl, hj⟩
def L17t (Q : QT) (R4 : T4) (R10 : T10) (R17 : T17) (a0 : Pt) (x2 : Int) (i4 o4 i8 o8 : Nat) (a9 : Pt) (n9 c9 : Nat) (e9 : Bool) (a12 : Pt) (n12 c12 : Nat) (e12 : Bool) (x15 : Int) (a17 : Pt) (n17 c17 : Nat) (e17 : Bool) (a19 : Pt) (n19 c19 : Nat) (e19 : Bool) (a33 : Pt) (n33 c33 : Nat) (e33 : Bool) (x34 x35 : Int) (a64 : Pt) (n64 c64 : Nat) (e64 : Bool) (x65 x66 : Int) (a83 : Pt) (n83 c83 : Nat) (e83 : Bool) (x84 x85 : Int) (h : Zaa) : Prop :=
 bcase (decide ((x85 : Int) < x84)) ((0 ≤ (x85 : Int) ∧ (x85 : Int) < (n83 : Nat)) ∧ (Zbl a83 fun I116 O117 => Zbp (Zal h (.ptr (some (I116, O117 + (Int.toNat x85) * 1)))) fun S118 => L20 Q R4 R10 R17 a0 x2 i4 o4 i8 o8 a9 n9 c9 e9 a12 n12 c12 e12 x15 a17 n17 c17 e17 a19 n19 c19 e19 S118 a33 n33 c33 e33 x34 x35 a64 n64 c64 e64 x65 x66 a83 n83 c83 e83 x84 x85 a17 n17 c17 e17 (((n17 : Nat) : Int)) 0 h)) (Yri Q R4 R10 a19 n19 c19 e19 x66 x65 a64 n64 c64 e64 a0 x2 i4 o4 i8 o8 a9 n9 c9 e9 a12 n12 c12 e12 a33 n33 c33 e33 x34 x35 h)
theorem Yrz (Q : QT) (R4 : T4) (R10 : T10) (R17 : T17) (a0 : Pt) (x2 : Int) (i4 o4 i8 o8 : Nat) (a9 : Pt) (n9 c9 : Nat) (e9 : Bool) (a12 : Pt) (n12 c12 : Nat) (e12 : Bool) (x15 : Int) (a17 : Pt) (n17 c17 : Nat) (e17 : Bool) (a19 : Pt) (n19 c19 : Nat) (e19 : Bool) (a33 : Pt) (n33 c33 : Nat) (e33 : Bool) (x34 x35 : Int) (a64 : Pt) (n64 c64 : Nat) (e64 : Bool) (x65 x66 : Int) (a83 : Pt) (n83 c83 : Nat) (e83 : Bool) (x84 x85 : Int) (h : Zaa) (ht : L17t Q R4 R10 R17 a0 x2 i4 o4 i8 o8 a9 n9 c9 e9 a12 n12 c12 e12 x15 a17 n17 c17 e17 a19 n19 c19 e19 a33 n33 c33 e33 x34 x35 a64 n64 c64 e64 x65 x66 a83 n83 c83 e83 x84 x85 h) : Den pg fn.ntmps (C [1, 1, 1, 0, 1, 0, 0, 1, 1, 0, 0, 1, 1, 1, 1, 0, 1, 0, 0, 1, 1, 0, 0, 1, 1, 1, 1, 0, 1, 0, 0]) [(0, .ptr a0), (2, .int .i64 x2), (4, .ptr (some (i4, o4))), (8, .ptr (some (i8, o8))), (9, .slice a9 n9 c9 e9), (12, .slice a12 n12 c12 e12), (15, .int .i64 x15), (17, .slice a17 n17 c17 e17), (19, .slice a19 n19 c19 e19), (33, .slice a33 n33 c33 e33), (34, .int .i64 x34), (35, .int .i64 x35), (64, .slice a64 n64 c64 e64), (65, .int .i64 x65), (66, .int .i64 x66), (83, .slice a83 n83 c83 e83), (84, .int .i64 x84), (85, .int .i64 x85)] h (K15 Q R4 R10 R17) :=
 Zbb (kp := kp) (cast (by kernel_rfl) ht)
theorem L17ind (Q : QT) (R4 : T4) (R10 : T10) (a0 : Pt) (x2 : Int) (i4 o4 i8 o8 : Nat) (a9 : Pt) (n9 c9 : Nat) (e9 : Bool) (a12 : Pt) (n12 c12 : Nat) (e12 : Bool) (x15 : Int) (a17 : Pt) (n17 c17 : Nat) (e17 : Bool) (a33 : Pt) (n33 c33 : Nat) (e33 : Bool) (x34 x35 : Int) (a64 : Pt) (n64 c64 : Nat) (e64 : Bool) (x65 x66 : Int) (a83 : Pt) (n83 c83 : Nat) (e83 : Bool) (x84 : Int) {G : Type} (J : G → Pt → Nat → Nat → Bool → Int → Zaa → Prop) (m : G → Nat)
 (hr : ∀ (g : G) (a19 : Pt) (n19 c19 : Nat) (e19 : Bool) (x85 : Int) (h : Zaa), J g a19 n19 c19 e19 x85 h → ∀ (R17 : T17), (∀ g' (a19 : Pt) (n19 c19 : Nat) (e19 : Bool) (x85 : Int) (h : Zaa), m g' < m g → J g' a19 n19 c19 e19 x85 h → R17 a0 x2 i4 o4 i8 o8 a9 n9 c9 e9 a12 n12 c12 e12 x15 a17 n17 c17 e17 a19 n19 c19 e19 a33 n33 c33 e33 x34 x35 a64 n64 c64 e64 x65 x66 a83 n83 c83 e83 x84 x85 h) → L17t Q R4 R10 R17 a0 x2 i4 o4 i8 o8 a9 n9 c9 e9 a12 n12 c12 e12 x15 a17 n17 c17 e17 a19 n19 c19 e19 a33 n33 c33 e33 x34 x35 a64 n64 c64 e64 x65 x66 a83 n83 c83 e83 x84 x85 h)
 (g : G) (a19 : Pt) (n19 c19 : Nat) (e19 : Bool) (x85 : Int) (h : Zaa) (hj : J g a19 n19 c19 e19 x85 h) : L17 Q R4 R10 a0 x2 i4 o4 i8 o8 a9 n9 c9 e9 a12 n12 c12 e12 x15 a17 n17 c17 e17 a19 n19 c19 e19 a33 n33 c33 e33 x34 x35 a64 n64 c64 e64 x65 x66 a83 n83 c83 e83 x84 x85 h := by
 refine Zdz.inv2 (fun g => E17 fun a0' x2' i4' o4' i8' o8' a9' n9' c9' e9' a12' n12' c12' e12' x15' a17' n17' c17' e17' a19 n19 c19 e19 a33' n33' c33' e33' x34' x35' a64' n64' c64' e64' x65' x66' a83' n83' c83' e83' x84' x85 h => a0 = a0' ∧ x2 = x2' ∧ i4 = i4' ∧ o4 = o4' ∧ i8 = i8' ∧ o8 = o8' ∧ a9 = a9' ∧ n9 = n9' ∧ c9 = c9' ∧ e9 = e9' ∧ a12 = a12' ∧ n12 = n12' ∧ c12 = c12' ∧ e12 = e12' ∧ x15 = x15' ∧ a17 = a17' ∧ n17 = n17' ∧ c17 = c17' ∧ e17 = e17' ∧ a33 = a33' ∧ n33 = n33' ∧ c33 = c33' ∧ e33 = e33' ∧ x34 = x34' ∧ x35 = x35' ∧ a64 = a64' ∧ n64 = n64' ∧ c64 = c64' ∧ e64 = e64' ∧ x65 = x65' ∧ x66 = x66' ∧ a83 = a83' ∧ n83 = n83' ∧ c83 = c83' ∧ e83 = e83' ∧ x84 = x84' ∧ J g a19 n19 c19 e19 x85 h) (fun g => E17 fun a0' x2' i4' o4' i8' o8' a9' n9' c9' e9' a12' n12' c12' e12' x15' a17' n17' c17' e17' a19 n19 c19 e19 a33' n33' c33' e33' x34' x35' a64' n64' c64' e64' x65' x66' a83' n83' c83' e83' x84' x85 h => a0 = a0' ∧ x2 = x2' ∧ i4 = i4' ∧ o4 = o4' ∧ i8 = i8' ∧ o8 = o8' ∧ a9 = a9' ∧ n9 = n9' ∧ c9 = c9' ∧ e9 = e9' ∧ a12 = a12' ∧ n12 = n12' ∧ c12 = c12' ∧ e12 = e12' ∧ x15 = x15' ∧ a17 = a17' ∧ n17 = n17' ∧ c17 = c17' ∧ e17 = e17' ∧ a33 = a33' ∧ n33 = n33' ∧ c33 = c33' ∧ e33 = e33' ∧ x34 = x34' ∧ x35 = x35' ∧ a64 = a64' ∧ n64 = n64' ∧ c64 = c64' ∧ e64 = e64' ∧ x65 = x65' ∧ x66 = x66' ∧ a83 = a83' ∧ n83 = n83' ∧ c83 = c83' ∧ e83 = e83' ∧ x84 = x84' ∧ ∃ g', m g' < m g ∧ J g' a19 n19 c19 e19 x85 h) m ?_ ?_ g ⟨rfl, rfl, rfl, rfl, rfl, rfl, rfl, rfl, rfl, rfl, rfl, rfl, rfl, rfl, rfl, rfl, rfl, rfl, rfl, rfl, rfl, rfl, rfl, rfl, rfl, rfl, rfl, rfl, rfl, rfl, rfl, rfl, rfl, rfl, rfl, rfl, hj⟩
 ·intro g env h hi
  obtain ⟨a0', x2', i4', o4', i8', o8', a9', n9', c9', e9', a12', n12', c12', e12', x15', a17', n17', c17', e17', a19, n19, c19, e19, a33', n33', c33', e33', x34', x35', a64', n64', c64', e64', x65', x66', a83', n83', c83', e83', x84', x85, rfl, rfl, rfl, rfl, rfl, rfl, rfl, rfl, rfl, rfl, rfl, rfl, rfl, rfl, rfl, rfl, rfl, rfl, rfl, rfl, rfl, rfl, rfl, rfl, rfl, rfl, rfl, rfl, rfl, rfl, rfl, rfl, rfl, rfl, rfl, rfl, rfl, hj⟩ := Ykf hi
  exact Yrz Q R4 R10 (fun a0' x2' i4' o4' i8' o8' a9' n9' c9' e9' a12' n12' c12' e12' x15' a17' n17' c17' e17' a19 n19 c19 e19 a33' n33' c33' e33' x34' x35' a64' n64' c64' e64' x65' x66' a83' n83' c83' e83' x84' x85 h => a0 = a0' ∧ x2 = x2' ∧ i4 = i4' ∧ o4 = o4' ∧ i8 = i8' ∧ o8 = o8' ∧ a9 = a9' ∧ n9 = n9' ∧ c9 = c9' ∧ e9 = e9' ∧ a12 = a12' ∧ n12 = n12' ∧ c12 = c12' ∧ e12 = e12' ∧ x15 = x15' ∧ a17 = a17' ∧ n17 = n17' ∧ c17 = c17' ∧ e17 = e17' ∧ a33 = a33' ∧ n33 = n33' ∧ c33 = c33' ∧ e33 = e33' ∧ x34 = x34' ∧ x35 = x35' ∧ a64 = a64' ∧ n64 = n64' ∧ c64 = c64' ∧ e64 = e64' ∧ x65 = x65' ∧ x66 = x66' ∧ a83 = a83' ∧ n83 = n83' ∧ c83 = c83' ∧ e83 = e83' ∧ x84 = x84' ∧ ∃ g', m g' < m g ∧ J g' a19 n19 c19 e19 x85 h) a0 x2 i4 o4 i8 o8 a9 n9 c9 e9 a12 n12 c12 e12 x15 a17 n17 c17 e17 a19 n19 c19 e19 a33 n33 c33 e33 x34 x35 a64 n64 c64 e64 x65 x66 a83 n83 c83 e83 x84 x85 h (hr g a19 n19 c19 e19 x85 h hj (fun a0' x2' i4' o4' i8' o8' a9' n9' c9' e9' a12' n12' c12' e12' x15' a17' n17' c17' e17' a19 n19 c19 e19 a33' n33' c33' e33' x34' x35' a64' n64' c64' e64' x65' x66' a83' n83' c83' e83' x84' x85 h => a0 = a0' ∧ x2 = x2' ∧ i4 = i4' ∧ o4 = o4' ∧ i8 = i8' ∧ o8 = o8' ∧ a9 = a9' ∧ n9 = n9' ∧ c9 = c9' ∧ e9 = e9' ∧ a12 = a12' ∧ n12 = n12' ∧ c12 = c12' ∧ e12 = e12' ∧ x15 = x15' ∧ a17 = a17' ∧ n17 = n17' ∧ c17 = c17' ∧ e17 = e17' ∧ a33 = a33' ∧ n33 = n33' ∧ c33 = c33' ∧ e33 = e33' ∧ x34 = x34' ∧ x35 = x35' ∧ a64 = a64' ∧ n64 = n64' ∧ c64 = c64' ∧ e64 = e64' ∧ x65 = x65' ∧ x66 = x66' ∧ a83 = a83' ∧ n83 = n83' ∧ c83 = c83' ∧ e83 = e83' ∧ x84 = x84' ∧ ∃ g', m g' < m g ∧ J g' a19 n19 c19 e19 x85 h) fun g' a19 n19 c19 e19 x85 h hlt hj => ⟨rfl, rfl, rfl, rfl, rfl, rfl, rfl, rfl, rfl, rfl, rfl, rfl, rfl, rfl, rfl, rfl, rfl, rfl, rfl, rfl, rfl, rfl, rfl, rfl, rfl, rfl, rfl, rfl, rfl, rfl, rfl, rfl, rfl, rfl, rfl, rfl, g', hlt, hj⟩)
 ·intro g env h hi
  obtain ⟨a0', x2', i4', o4', i8', o8', a9', n9', c9', e9', a12', n12', c12', e12', x15', a17', n17', c17', e17', a19, n19, c19, e19, a33', n33', c33', e33', x34', x35', a64', n64', c64', e64', x65', x66', a83', n83', c83', e83', x84', x85, rfl, rfl, rfl, rfl, rfl, rfl, rfl, rfl, rfl, rfl, rfl, rfl, rfl, rfl, rfl, rfl, rfl, rfl, rfl, rfl, rfl, rfl, rfl, rfl, rfl, rfl, rfl, rfl, rfl, rfl, rfl, rfl, rfl, rfl, rfl, rfl, rfl, g', hlt, hj⟩ := Ykf hi
  exact ⟨g', hlt, rfl, rfl, rfl, rfl, rfl, rfl, rfl, rfl, rfl, rfl, rfl, rfl, rfl, rfl, rfl, rfl, rfl, rfl, rfl, rfl, rfl, rfl, rfl, rfl, rfl, rfl, rfl, rfl, rfl, rfl, rfl, rfl, rfl, rfl, rfl, rfl, hj⟩
theorem A10x2i (Q : QT) (R4 : T4) (a14 : Pt) (n14 c14 : Nat) (e14 : Bool) (a0 : Pt) (x2 : Int) (i4 o4 i8 o8 : Nat) (a9 : Pt) (n9 c9 : Nat) (e9 : Bool) (a12 : Pt) (n12 c12 : Nat) (e12 : Bool) (a33 : Pt) (n33 c33 : Nat) (e33 : Bool) (x34 x35 : Int) (h : Zaa) (ht :
 L30 Q R4 a0 x2 i4 o4 i8 o8 a9 n9 c9 e9 a12 n12 c12 e12 a33 n33 c33 e33 x34 x35 a14 n14 c14 e14 (((n14 : Nat) : Int)) 0 h) : Yrx Q R4 a14 n14 c14 e14 a0 x2 i4 o4 i8 o8 a9 n9 c9 e9 a12 n12 c12 e12 a33 n33 c33 e33 x34 x35 h :=
 At.mk (cast (by kernel_rfl) ht)
def L20t (Q : QT) (R4 : T4) (R10 : T10) (R17 : T17) (R20 : T20) (a0 : Pt) (x2 : Int) (i4 o4 i8 o8 : Nat) (a9 : Pt) (n9 c9 : Nat) (e9 : Bool) (a12 : Pt) (n12 c12 : Nat) (e12 : Bool) (x15 : Int) (a17 : Pt) (n17 c17 : Nat) (e17 : Bool) (a19 : Pt) (n19 c19 : Nat) (e19 : Bool) (x21 : List Nat) (a33 : Pt) (n33 c33 : Nat) (e33 : Bool) (x34 x35 : Int) (a64 : Pt) (n64 c64 : Nat) (e64 : Bool) (x65 x66 : Int) (a83 : Pt) (n83 c83 : Nat) (e83 : Bool) (x84 x85 : Int) (a89 : Pt) (n89 c89 : Nat) (e89 : Bool) (x90 x91 : Int) (h : Zaa) : Prop :=
 bcase (decide ((x91 : Int) < x90)) ((0 ≤ (x91 : Int) ∧ (x91 : Int) < (n89 : Nat)) ∧ (Zbl a89 fun I119 O120 => Zbp (Zal h (.ptr (some (I119, O120 + (Int.toNat x91) * 1)))) fun S121 => (0 ≤ (x15 : Int) ∧ (x15 : Int) ≤ IntKind.wrap .i64 (x15 + 1) ∧ (IntKind.wrap .i64 (x15 + 1) : Int) ≤ (List.length ([40, 44, 44]) : Nat)) ∧ (List.length x21 + List.length (sub ([40, 44, 44]) x15 (IntKind.wrap .i64 (x15 + 1))) ≤ 9223372036854775807 ∧ (List.length (x21 ++ (sub ([40, 44, 44]) x15 (IntKind.wrap .i64 (x15 + 1)))) + List.length S121 ≤ 9223372036854775807 ∧ (Zcn (h ++ [.cells Zaz [.str ((x21 ++ (sub ([40, 44, 44]) x15 (IntKind.wrap .i64 (x15 + 1)))) ++ S121)] false]) fun H122 => Zdc pg Zbw H122 (.slice a19 n19 c19 e19) (.slice (some (h.length, 0)) 1 1 true) fun V123 H124 => xSl (some V123) fun A125 N126 C127 E128 => R20 a0 x2 i4 o4 i8 o8 a9 n9 c9 e9 a12 n12 c12 e12 x15 a17 n17 c17 e17 A125 N126 C127 E128 x21 a33 n33 c33 e33 x34 x35 a64 n64 c64 e64 x65 x66 a83 n83 c83 e83 x84 x85 a89 n89 c89 e89 x90 (IntKind.wrap .i64 (x91 + 1)) H124))))) (Yso Q R4 R10 R17 x85 x84 a83 n83 c83 e83 a17 n17 c17 e17 x15 a19 n19 c19 e19 x66 x65 a64 n64 c64 e64 a0 x2 i4 o4 i8 o8 a9 n9 c9 e9 a12 n12 c12 e12 a33 n33 c33 e33 x34 x35 h)
theorem Ysr (Q : QT) (R4 : T4) (R10 : T10) (R17 : T17) (R20 : T20) (a0 : Pt) (x2 : Int) (i4 o4 i8 o8 : Nat) (a9 : Pt) (n9 c9 : Nat) (e9 : Bool) (a12 : Pt) (n12 c12 : Nat) (e12 : Bool) (x15 : Int) (a17 : Pt) (n17 c17 : Nat) (e17 : Bool) (a19 : Pt) (n19 c19 : Nat) (e19 : Bool) (x21 : List Nat) (a33 : Pt) (n33 c33 : Nat) (e33 : Bool) (x34 x35 : Int) (a64 : Pt) (n64 c64 : Nat) (e64 : Bool) (x65 x66 : Int) (a83 : Pt) (n83 c83 : Nat) (e83 : Bool) (x84 x85 : Int) (a89 : Pt) (n89 c89 : Nat) (e89 : Bool) (x90 x91 : Int) (h : Zaa) (ht : L20t Q R4 R10 R17 R20 a0 x2 i4 o4 i8 o8 a9 n9 c9 e9 a12 n12 c12 e12 x15 a17 n17 c17 e17 a19 n19 c19 e19 x21 a33 n33 c33 e33 x34 x35 a64 n64 c64 e64 x65 x66 a83 n83 c83 e83 x84 x85 a89 n89 c89 e89 x90 x91 h) : Den pg fn.ntmps (C [1, 1, 1, 0, 1, 0, 0, 1, 1, 0, 0, 1, 1, 1, 1, 0, 1, 0, 0, 1, 1, 0, 0, 1, 1, 1, 1, 0, 1, 0, 0, 1, 1, 0, 0, 1, 1, 0, 0]) [(0, .ptr a0), (2, .int .i64 x2), (4, .ptr (some (i4, o4))), (8, .ptr (some (i8, o8))), (9, .slice a9 n9 c9 e9), (12, .slice a12 n12 c12 e12), (15, .int .i64 x15), (17, .slice a17 n17 c17 e17), (19, .slice a19 n19 c19 e19), (21, .str x21), (33, .slice a33 n33 c33 e33), (34, .int .i64 x34), (35, .int .i64 x35), (64, .slice a64 n64 c64 e64), (65, .int .i64 x65), (66, .int .i64 x66), (83, .slice a83 n83 c83 e83), (84, .int .i64 x84), (85, .int .i64 x85), (89, .slice a89 n89 c89 e89), (90, .int .i64 x90), (91, .int .i64 x91)] h (K20 Q R4 R10 R17 R20) :=
 Zbb (kp := kp) (cast (by kernel_rfl) ht)
theorem L20ind (Q : QT) (R4 : T4) (R10 : T10) (R17 : T17) (a0 : Pt) (x2 : Int) (i4 o4 i8 o8 : Nat) (a9 : Pt) (n9 c9 : Nat) (e9 : Bool) (a12 : Pt) (n12 c12 : Nat) (e12 : Bool) (x15 : Int) (a17 : Pt) (n17 c17 : Nat) (e17 : Bool) (x21 : List Nat) (a33 : Pt) (n33 c33 : Nat) (e33 : Bool) (x34 x35 : Int) (a64 : Pt) (n64 c64 : Nat) (e64 : Bool) (x65 x66 : Int) (a83 : Pt) (n83 c83 : Nat) (e83 : Bool) (x84 x85 : Int) (a89 : Pt) (n89 c89 : Nat) (e89 : Bool) (x90 : Int) {G : Type} (J : G → Pt → Nat → Nat → Bool → Int → Zaa → Prop) (m : G → Nat)
 (hr : ∀ (g : G) (a19 : Pt) (n19 c19 : Nat) (e19 : Bool) (x91 : Int) (h : Zaa), J g a19 n19 c19 e19 x91 h → ∀ (R20 : T20), (∀ g' (a19 : Pt) (n19 c19 : Nat) (e19 : Bool) (x91 : Int) (h : Zaa), m g' < m g → J g' a19 n19 c19 e19 x91 h → R20 a0 x2 i4 o4 i8 o8 a9 n9 c9 e9 a12 n12 c12 e12 x15 a17 n17 c17 e17 a19 n19 c19 e19 x21 a33 n33 c33 e33 x34 x35 a64 n64 c64 e64 x65 x66 a83 n83 c83 e83 x84 x85 a89 n89 c89 e89 x90 x91 h) → L20t Q R4 R10 R17 R20 a0 x2 i4 o4 i8 o8 a9 n9 c9 e9 a12 n12 c12 e12 x15 a17 n17 c17 e17 a19 n19 c19 e19 x21 a33 n33 c33 e33 x34 x35 a64 n64 c64 e64 x65 x66 a83 n83 c83 e83 x84 x85 a89 n89 c89 e89 x90 x91 h)
 (g : G) (a19 : Pt) (n19 c19 : Nat) (e19 : Bool) (x91 : Int) (h : Zaa) (hj : J g a19 n19 c19 e19 x91 h) : L20 Q R4 R10 R17 a0 x2 i4 o4 i8 o8 a9 n9 c9 e9 a12 n12 c12 e12 x15 a17 n17 c17 e17 a19 n19 c19 e19 x21 a33 n33 c33 e33 x34 x35 a64 n64 c64 e64 x65 x66 a83 n83 c83 e83 x84 x85 a89 n89 c89 e89 x90 x91 h := by
 refine Zdz.inv2 (fun g => E20 fun a0' x2' i4' o4' i8' o8' a9' n9' c9' e9' a12' n12' c12' e12' x15' a17' n17' c17' e17' a19 n19 c19 e19 x21' a33' n33' c33' e33' x34' x35' a64' n64' c64' e64' x65' x66' a83' n83' c83' e83' x84' x85' a89' n89' c89' e89' x90' x91 h => a0 = a0' ∧ x2 = x2' ∧ i4 = i4' ∧ o4 = o4' ∧ i8 = i8' ∧ o8 = o8' ∧ a9 = a9' ∧ n9 = n9' ∧ c9 = c9' ∧ e9 = e9' ∧ a12 = a12' ∧ n12 = n12' ∧ c12 = c12' ∧ e12 = e12' ∧ x15 = x15' ∧ a17 = a17' ∧ n17 = n17' ∧ c17 = c17' ∧ e17 = e17' ∧ x21 = x21' ∧ a33 = a33' ∧ n33 = n33' ∧ c33 = c33' ∧ e33 = e33' ∧ x34 = x34' ∧ x35 = x35' ∧ a64 = a64' ∧ n64 = n64' ∧ c64 = c64' ∧ e64 = e64' ∧ x65 = x65' ∧ x66 = x66' ∧ a83 = a83' ∧ n83 = n83' ∧ c83 = c83' ∧ e83 = e83' ∧ x84 = x84' ∧ x85 = x85' ∧ a89 = a89' ∧ n89 = n89' ∧ c89 = c89' ∧ e89 = e89' ∧ x90 = x90' ∧ J g a19 n19 c19 e19 x91 h) (fun g => E20 fun a0' x2' i4' o4' i8' o8' a9' n9' c9' e9' a12' n12' c12' e12' x15' a17' n17' c17' e17' a19 n19 c19 e19 x21' a33' n33' c33' e33' x34' x35' a64' n64' c64' e64' x65' x66' a83' n83' c83' e83' x84' x85' a89' n89' c89' e89' x90' x91 h => a0 = a0' ∧ x2 = x2' ∧ i4 = i4' ∧ o4 = o4' ∧ i8 = i8' ∧ o8 = o8' ∧ a9 = a9' ∧ n9 = n9' ∧ c9 = c9' ∧ e9 = e9' ∧ a12 = a12' ∧ n12 = n12' ∧ c12 = c12' ∧ e12 = e12' ∧ x15 = x15' ∧ a17 = a17' ∧ n17 = n17' ∧ c17 = c17' ∧ e17 = e17' ∧ x21 = x21' ∧ a33 = a33' ∧ n33 = n33' ∧ c33 = c33' ∧ e33 = e33' ∧ x34 = x34' ∧ x35 = x35' ∧ a64 = a64' ∧ n64 = n64' ∧ c64 = c64' ∧ e64 = e64' ∧ x65 = x65' ∧ x66 = x66' ∧ a83 = a83' ∧ n83 = n83' ∧ c83 = c83' ∧ e83 = e83' ∧ x84 = x84' ∧ x85 = x85' ∧ a89 = a89' ∧ n89 = n89' ∧ c89 = c89' ∧ e89 = e89' ∧ x90 = x90' ∧ ∃ g', m g' < m g ∧ J g' a19 n19 c19 e19 x91 h) m ?_ ?_ g ⟨rfl, rfl, rfl, rfl, rfl, rfl, rfl, rfl, rfl, rfl, rfl, rfl, rfl, rfl, rfl, rfl, rfl, rfl, rfl, rfl, rfl, rfl, rfl, rfl, rfl, rfl, rfl, rfl, rfl, rfl, rfl, rfl, rfl, rfl, rfl, rfl, rfl, rfl, rfl, rfl, rfl, rfl, rfl, hj⟩
 ·intro g env h hi
  obtain ⟨a0', x2', i4', o4', i8', o8', a9', n9', c9', e9', a12', n12', c12', e12', x15', a17', n17', c17', e17', a19, n19, c19, e19, x21', a33', n33', c33', e33', x34', x35', a64', n64', c64', e64', x65', x66', a83', n83', c83', e83', x84', x85', a89', n89', c89', e89', x90', x91, rfl, rfl, rfl, rfl, rfl, rfl, rfl, rfl, rfl, rfl, rfl, rfl, rfl, rfl, rfl, rfl, rfl, rfl, rfl, rfl, rfl, rfl, rfl, rfl, rfl, rfl, rfl, rfl, rfl, rfl, rfl, rfl, rfl, rfl, rfl, rfl, rfl, rfl, rfl, rfl, rfl, rfl, rfl, rfl, hj⟩ := Yjk hi
  exact Ysr Q R4 R10 R17 (fun a0' x2' i4' o4' i8' o8' a9' n9' c9' e9' a12' n12' c12' e12' x15' a17' n17' c17' e17' a19 n19 c19 e19 x21' a33' n33' c33' e33' x34' x35' a64' n64' c64' e64' x65' x66' a83' n83' c83' e83' x84' x85' a89' n89' c89' e89' x90' x91 h => a0 = a0' ∧ x2 = x2' ∧ i4 = i4' ∧ o4 = o4' ∧ i8 = i8' ∧ o8 = o8' ∧ a9 = a9' ∧ n9 = n9' ∧ c9 = c9' ∧ e9 = e9' ∧ a12 = a12' ∧ n12 = n12' ∧ c12 = c12' ∧ e12 = e12' ∧ x15 = x15' ∧ a17 = a17' ∧ n17 = n17' ∧ c17 = c17' ∧ e17 = e17' ∧ x21 = x21' ∧ a33 = a33' ∧ n33 = n33' ∧ c33 = c33' ∧ e33 = e33' ∧ x34 = x34' ∧ x35 = x35' ∧ a64 = a64' ∧ n64 = n64' ∧ c64 = c64' ∧ e64 = e64' ∧ x65 = x65' ∧ x66 = x66' ∧ a83 = a83' ∧ n83 = n83' ∧ c83 = c83' ∧ e83 = e83' ∧ x84 = x84' ∧ x85 = x85' ∧ a89 = a89' ∧ n89 = n89' ∧ c89 = c89' ∧ e89 = e89' ∧ x90 = x90' ∧ ∃ g', m g' < m g ∧ J g' a19 n19 c19 e19 x91 h) a0 x2 i4 o4 i8 o8 a9 n9 c9 e9 a12 n12 c12 e12 x15 a17 n17 c17 e17 a19 n19 c19 e19 x21 a33 n33 c33 e33 x34 x35 a64 n64 c64 e64 x65 x66 a83 n83 c83 e83 x84 x85 a89 n89 c89 e89 x90 x91 h (hr g a19 n19 c19 e19 x91 h hj (fun a0' x2' i4' o4' i8' o8' a9' n9' c9' e9' a12' n12' c12' e12' x15' a17' n17' c17' e17' a19 n19 c19 e19 x21' a33' n33' c33' e33' x34' x35' a64' n64' c64' e64' x65' x66' a83' n83' c83' e83' x84' x85' a89' n89' c89' e89' x90' x91 h => a0 = a0' ∧ x2 = x2' ∧ i4 = i4' ∧ o4 = o4' ∧ i8 = i8' ∧ o8 = o8' ∧ a9 = a9' ∧ n9 = n9' ∧ c9 = c9' ∧ e9 = e9' ∧ a12 = a12' ∧ n12 = n12' ∧ c12 = c12' ∧ e12 = e12' ∧ x15 = x15' ∧ a17 = a17' ∧ n17 = n17' ∧ c17 = c17' ∧ e17 = e17' ∧ x21 = x21' ∧ a33 = a33' ∧ n33 = n33' ∧ c33 = c33' ∧ e33 = e33' ∧ x34 = x34' ∧ x35 = x35' ∧ a64 = a64' ∧ n64 = n64' ∧ c64 = c64' ∧ e64 = e64' ∧ x65 = x65' ∧ x66 = x66' ∧ a83 = a83' ∧ n83 = n83' ∧ c83 = c83' ∧ e83 = e83' ∧ x84 = x84' ∧ x85 = x85' ∧ a89 = a89' ∧ n89 = n89' ∧ c89 = c89' ∧ e89 = e89' ∧ x90 = x90' ∧ ∃ g', m g' < m g ∧ J g' a19 n19 c19 e19 x91 h) fun g' a19 n19 c19 e19 x91 h hlt hj => ⟨rfl, rfl, rfl, rfl, rfl, rfl, rfl, rfl, rfl, rfl, rfl, rfl, rfl, rfl, rfl, rfl, rfl, rfl, rfl, rfl, rfl, rfl, rfl, rfl, rfl, rfl, rfl, rfl, rfl, rfl, rfl, rfl, rfl, rfl, rfl, rfl, rfl, rfl, rfl, rfl, rfl, rfl, rfl, g', hlt, hj⟩)
 ·intro g env h hi
  obtain ⟨a0', x2', i4', o4', i8', o8', a9', n9', c9', e9', a12', n12', c12', e12', x15', a17', n17', c17', e17', a19, n19, c19, e19, x21', a33', n33', c33', e33', x34', x35', a64', n64', c64', e64', x65', x66', a83', n83', c83', e83', x84', x85', a89', n89', c89', e89', x90', x91, rfl, rfl, rfl, rfl, rfl, rfl, rfl, rfl, rfl, rfl, rfl, rfl, rfl, rfl, rfl, rfl, rfl, rfl, rfl, rfl, rfl, rfl, rfl, rfl, rfl, rfl, rfl, rfl, rfl, rfl, rfl, rfl, rfl, rfl, rfl, rfl, rfl, rfl, rfl, rfl, rfl, rfl, rfl, rfl, g', hlt, hj⟩ := Yjk hi
  exact ⟨g', hlt, rfl, rfl, rfl, rfl, rfl, rfl, rfl, rfl, rfl, rfl, rfl, rfl, rfl, rfl, rfl, rfl, rfl, rfl, rfl, rfl, rfl, rfl, rfl, rfl, rfl, rfl, rfl, rfl, rfl, rfl, rfl, rfl, rfl, rfl, rfl, rfl, rfl, rfl, rfl, rfl, rfl, rfl, rfl, hj⟩
theorem A17x4i (Q : QT) (R4 : T4) (R10 : T10) (a19 : Pt) (n19 c19 : Nat) (e19 : Bool) (x66 x65 : Int) (a64 : Pt) (n64 c64 : Nat) (e64 : Bool) (a0 : Pt) (x2 : Int) (i4 o4 i8 o8 : Nat) (a9 : Pt) (n9 c9 : Nat) (e9 : Bool) (a12 : Pt) (n12 c12 : Nat) (e12 : Bool) (a33 : Pt) (n33 c33 : Nat) (e33 : Bool) (x34 x35 : Int) (h : Zaa) (ht :
 bcase (decide (((((n19 : Nat) : Int)) : Int) > 60)) (Zcn (h ++ [.cells Zaz [] false]) fun H129 => Q (.tup [.slice (some (h.length, 0)) 0 0 true, .bool false]) H129) (R10 a0 x2 i4 o4 i8 o8 a9 n9 c9 e9 a12 n12 c12 e12 a19 n19 c19 e19 a33 n33 c33 e33 x34 x35 a64 n64 c64 e64 x65 (IntKind.wrap .i64 (x66 + 1)) h)) : Yri Q R4 R10 a19 n19 c19 e19 x66 x65 a64 n64 c64 e64 a0 x2 i4 o4 i8 o8 a9 n9 c9 e9 a12 n12 c12 e12 a33 n33 c33 e33 x34 x35 h :=
 At.mk (cast (by kernel_rfl) ht)
def L30t (Q : QT) (R4 : T4) (R30 : T30) (a0 : Pt) (x2 : Int) (i4 o4 i8 o8 : Nat) (a9 : Pt) (n9 c9 : Nat) (e9 : Bool) (a12 : Pt) (n12 c12 : Nat) (e12 : Bool) (a33 : Pt) (n33 c33 : Nat) (e33 : Bool) (x34 x35 : Int) (a114 : Pt) (n114 c114 : Nat) (e114 : Bool) (x115 x116 : Int) (h : Zaa) : Prop :=
 bcase (decide ((x116 : Int) < x115)) ((0 ≤ (x116 : Int) ∧ (x116 : Int) < (n114 : Nat)) ∧ (Zbl a114 fun I130 O131 => Zbp (Zal h (.ptr (some (I130, O131 + (Int.toNat x116) * 1)))) fun S132 => bcase (decide (((((n12 : Nat) : Int)) : Int) > 0)) (List.length S132 + List.length [41] ≤ 9223372036854775807 ∧ (J34 Q R4 R30 (S132 ++ [41]) a9 n9 c9 e9 x116 x115 a114 n114 c114 e114 a12 n12 c12 e12 x35 x34 a33 n33 c33 e33 i8 o8 i4 o4 x2 a0 h)) (J34 Q R4 R30 S132 a9 n9 c9 e9 x116 x115 a114 n114 c114 e114 a12 n12 c12 e12 x35 x34 a33 n33 c33 e33 i8 o8 i4 o4 x2 a0 h))) (Yrl Q R4 a9 n9 c9 e9 x35 x34 a33 n33 c33 e33 i8 o8 i4 o4 x2 a0 h)
theorem Yrn (Q : QT) (R4 : T4) (R30 : T30) (a0 : Pt) (x2 : Int) (i4 o4 i8 o8 : Nat) (a9 : Pt) (n9 c9 : Nat) (e9 : Bool) (a12 : Pt) (n12 c12 : Nat) (e12 : Bool) (a33 : Pt) (n33 c33 : Nat) (e33 : Bool) (x34 x35 : Int) (a114 : Pt) (n114 c114 : Nat) (e114 : Bool) (x115 x116 : Int) (h : Zaa) (ht : L30t Q R4 R30 a0 x2 i4 o4 i8 o8 a9 n9 c9 e9 a12 n12 c12 e12 a33 n33 c33 e33 x34 x35 a114 n114 c114 e114 x115 x116 h) : Den pg fn.ntmps (C [1, 1, 1, 0, 1, 0, 0, 1, 1, 0, 0, 1, 1, 1, 1, 1, 0, 1, 0, 0]) [(0, .ptr a0), (2, .int .i64 x2), (4, .ptr (some (i4, o4))), (8, .ptr (some (i8, o8))), (9, .slice a9 n9 c9 e9), (12, .slice a12 n12 c12 e12), (33, .slice a33 n33 c33 e33), (34, .int .i64 x34), (35, .int .i64 x35), (114, .slice a114 n114 c114 e114), (115, .int .i64 x115), (116, .int .i64 x116)] h (K24 Q R4 R30) :=
 Zbb (kp := kp) (cast (by kernel_rfl) ht)
theorem L30ind (Q : QT) (R4 : T4) (a0 : Pt) (x2 : Int) (i4 o4 i8 o8 : Nat) (a12 : Pt) (n12 c12 : Nat) (e12 : Bool) (a33 : Pt) (n33 c33 : Nat) (e33 : Bool) (x34 x35 : Int) (a114 : Pt) (n114 c114 : Nat) (e114 : Bool) (x115 : Int) {G : Type} (J : G → Pt → Nat → Nat → Bool → Int → Zaa → Prop) (m : G → Nat)
 (hr : ∀ (g : G) (a9 : Pt) (n9 c9 : Nat) (e9 : Bool) (x116 : Int) (h : Zaa), J g a9 n9 c9 e9 x116 h → ∀ (R30 : T30), (∀ g' (a9 : Pt) (n9 c9 : Nat) (e9 : Bool) (x116 : Int) (h : Zaa), m g' < m g → J g' a9 n9 c9 e9 x116 h → R30 a0 x2 i4 o4 i8 o8 a9 n9 c9 e9 a12 n12 c12 e12 a33 n33 c33 e33 x34 x35 a114 n114 c114 e114 x115 x116 h) → L30t Q R4 R30 a0 x2 i4 o4 i8 o8 a9 n9 c9 e9 a12 n12 c12 e12 a33 n33 c33 e33 x34 x35 a114 n114 c114 e114 x115 x116 h)
 (g : G) (a9 : Pt) (n9 c9 : Nat) (e9 : Bool) (x116 : Int) (h : Zaa) (hj : J g a9 n9 c9 e9 x116 h) : L30 Q R4 a0 x2 i4 o4 i8 o8 a9 n9 c9 e9 a12 n12 c12 e12 a33 n33 c33 e33 x34 x35 a114 n114 c114 e114 x115 x116 h := by
 refine Zdz.inv2 (fun g => E30 fun a0' x2' i4' o4' i8' o8' a9 n9 c9 e9 a12' n12' c12' e12' a33' n33' c33' e33' x34' x35' a114' n114' c114' e114' x115' x116 h => a0 = a0' ∧ x2 = x2' ∧ i4 = i4' ∧ o4 = o4' ∧ i8 = i8' ∧ o8 = o8' ∧ a12 = a12' ∧ n12 = n12' ∧ c12 = c12' ∧ e12 = e12' ∧ a33 = a33' ∧ n33 = n33' ∧ c33 = c33' ∧ e33 = e33' ∧ x34 = x34' ∧ x35 = x35' ∧ a114 = a114' ∧ n114 = n114' ∧ c114 = c114' ∧ e114 = e114' ∧ x115 = x115' ∧ J g a9 n9 c9 e9 x116 h) (fun g => E30 fun a0' x2' i4' o4' i8' o8' a9 n9 c9 e9 a12' n12' c12' e12' a33' n33' c33' e33' x34' x35' a114' n114' c114' e114' x115' x116 h => a0 = a0' ∧ x2 = x2' ∧ i4 = i4' ∧ o4 = o4' ∧ i8 = i8' ∧ o8 = o8' ∧ a12 = a12' ∧ n12 = n12' ∧ c12 = c12' ∧ e12 = e12' ∧ a33 = a33' ∧ n33 = n33' ∧ c33 = c33' ∧ e33 = e33' ∧ x34 = x34' ∧ x35 = x35' ∧ a114 = a114' ∧ n114 = n114' ∧ c114 = c114' ∧ e114 = e114' ∧ x115 = x115' ∧ ∃ g', m g' < m g ∧ J g' a9 n9 c9 e9 x116 h) m ?_ ?_ g ⟨rfl, rfl, rfl, rfl, rfl, rfl, rfl, rfl, rfl, rfl, rfl, rfl, rfl, rfl, rfl, rfl, rfl, rfl, rfl, rfl, rfl, hj⟩
 ·intro g env h hi
  obtain ⟨a0', x2', i4', o4', i8', o8', a9, n9, c9, e9, a12', n12', c12', e12', a33', n33', c33', e33', x34', x35', a114', n114', c114', e114', x115', x116, rfl, rfl, rfl, rfl, rfl, rfl, rfl, rfl, rfl, rfl, rfl, rfl, rfl, rfl, rfl, rfl, rfl, rfl, rfl, rfl, rfl, rfl, hj⟩ := Yky hi
  exact Yrn Q R4 (fun a0' x2' i4' o4' i8' o8' a9 n9 c9 e9 a12' n12' c12' e12' a33' n33' c33' e33' x34' x35' a114' n114' c114' e114' x115' x116 h => a0 = a0' ∧ x2 = x2' ∧ i4 = i4' ∧ o4 = o4' ∧ i8 = i8' ∧ o8 = o8' ∧ a12 = a12' ∧ n12 = n12' ∧ c12 = c12' ∧ e12 = e12' ∧ a33 = a33' ∧ n33 = n33' ∧ c33 = c33' ∧ e33 = e33' ∧ x34 = x34' ∧ x35 = x35' ∧ a114 = a114' ∧ n114 = n114' ∧ c114 = c114' ∧ e114 = e114' ∧ x115 = x115' ∧ ∃ g', m g' < m g ∧ J g' a9 n9 c9 e9 x116 h) a0 x2 i4 o4 i8 o8 a9 n9 c9 e9 a12 n12 c12 e12 a33 n33 c33 e33 x34 x35 a114 n114 c114 e114 x115 x116 h (hr g a9 n9 c9 e9 x116 h hj (fun a0' x2' i4' o4' i8' o8' a9 n9 c9 e9 a12' n12' c12' e12' a33' n33' c33' e33' x34' x35' a114' n114' c114' e114' x115' x116 h => a0 = a0' ∧ x2 = x2' ∧ i4 = i4' ∧ o4 = o4' ∧ i8 = i8' ∧ o8 = o8' ∧ a12 = a12' ∧ n12 = n12' ∧ c12 = c12' ∧ e12 = e12' ∧ a33 = a33' ∧ n33 = n33' ∧ c33 = c33' ∧ e33 = e33' ∧ x34 = x34' ∧ x35 = x35' ∧ a114 = a114' ∧ n114 = n114' ∧ c114 = c114' ∧ e114 = e114' ∧ x115 = x115' ∧ ∃ g', m g' < m g ∧ J g' a9 n9 c9 e9 x116 h) fun g' a9 n9 c9 e9 x116 h hlt hj => ⟨rfl, rfl, rfl, rfl, rfl, rfl, rfl, rfl, rfl, rfl, rfl, rfl, rfl, rfl, rfl, rfl, rfl, rfl, rfl, rfl, rfl, g', hlt, hj⟩)
 ·intro g env h hi
  obtain ⟨a0', x2', i4', o4', i8', o8', a9, n9, c9, e9, a12', n12', c12', e12', a33', n33', c33', e33', x34', x35', a114', n114', c114', e114', x115', x116, rfl, rfl, rfl, rfl, rfl, rfl, rfl, rfl, rfl, rfl, rfl, rfl, rfl, rfl, rfl, rfl, rfl, rfl, rfl, rfl, rfl, rfl, g', hlt, hj⟩ := Yky hi
  exact ⟨g', hlt, rfl, rfl, rfl, rfl, rfl, rfl, rfl, rfl, rfl, rfl, rfl, rfl, rfl, rfl, rfl, rfl, rfl, rfl, rfl, rfl, rfl, hj⟩
theorem A20x6i (Q : QT) (R4 : T4) (R10 : T10) (R17 : T17) (x85 x84 : Int) (a83 : Pt) (n83 c83 : Nat) (e83 : Bool) (a17 : Pt) (n17 c17 : Nat) (e17 : Bool) (x15 : Int) (a19 : Pt) (n19 c19 : Nat) (e19 : Bool) (x66 x65 : Int) (a64 : Pt) (n64 c64 : Nat) (e64 : Bool) (a0 : Pt) (x2 : Int) (i4 o4 i8 o8 : Nat) (a9 : Pt) (n9 c9 : Nat) (e9 : Bool) (a12 : Pt) (n12 c12 : Nat) (e12 : Bool) (a33 : Pt) (n33 c33 : Nat) (e33 : Bool) (x34 x35 : Int) (h : Zaa) (ht :
 R17 a0 x2 i4 o4 i8 o8 a9 n9 c9 e9 a12 n12 c12 e12 x15 a17 n17 c17 e17 a19 n19 c19 e19 a33 n33 c33 e33 x34 x35 a64 n64 c64 e64 x65 x66 a83 n83 c83 e83 x84 (IntKind.wrap .i64 (x85 + 1)) h) : Yso Q R4 R10 R17 x85 x84 a83 n83 c83 e83 a17 n17 c17 e17 x15 a19 n19 c19 e19 x66 x65 a64 n64 c64 e64 a0 x2 i4 o4 i8 o8 a9 n9 c9 e9 a12 n12 c12 e12 a33 n33 c33 e33 x34 x35 h :=
 At.mk (cast (by kernel_rfl) ht)
theorem J34i (Q : QT) (R4 : T4) (R30 : T30) (x25 : List Nat) (a9 : Pt) (n9 c9 : Nat) (e9 : Bool) (x116 x115 : Int) (a114 : Pt) (n114 c114 : Nat) (e114 : Bool) (a12 : Pt) (n12 c12 : Nat) (e12 : Bool) (x35 x34 : Int) (a33 : Pt) (n33 c33 : Nat) (e33 : Bool) (i8 o8 i4 o4 : Nat) (x2 : Int) (a0 : Pt) (h : Zaa) (ht :
 bcase (decide (((((List.length x25 : Nat) : Int)) : Int) > 1200)) (Zcn (h ++ [.cells Zaz [] false]) fun H133 => Q (.tup [.slice (some (h.length, 0)) 0 0 true, .bool false]) H133) (Zcn (h ++ [.cells Zaz [.str x25] false]) fun H134 => Zdc pg Zbw H134 (.slice a9 n9 c9 e9) (.slice (some (h.length, 0)) 1 1 true) fun V135 H136 => xSl (some V135) fun A137 N138 C139 E140 => J37 Q R4 R30 x116 x115 a114 n114 c114 e114 a12 n12 c12 e12 A137 N138 C139 E140 x35 x34 a33 n33 c33 e33 i8 o8 i4 o4 x2 a0 H136)) : J34 Q R4 R30 x25 a9 n9 c9 e9 x116 x115 a114 n114 c114 e114 a12 n12 c12 e12 x35 x34 a33 n33 c33 e33 i8 o8 i4 o4 x2 a0 h :=
 Zbb (kp := kp) (cast (by kernel_rfl) ht)
theorem A30x8i (Q : QT) (R4 : T4) (a9 : Pt) (n9 c9 : Nat) (e9 : Bool) (x35 x34 : Int) (a33 : Pt) (n33 c33 : Nat) (e33 : Bool) (i8 o8 i4 o4 : Nat) (x2 : Int) (a0 : Pt) (h : Zaa) (ht :
 bcase (decide (((((n9 : Nat) : Int)) : Int) > 60)) (Zcn (h ++ [.cells Zaz [] false]) fun H141 => Q (.tup [.slice (some (h.length, 0)) 0 0 true, .bool false]) H141) (J40 Q R4 x35 x34 a33 n33 c33 e33 i8 o8 i4 o4 x2 a0 a9 n9 c9 e9 h)) : Yrl Q R4 a9 n9 c9 e9 x35 x34 a33 n33 c33 e33 i8 o8 i4 o4 x2 a0 h :=
 At.mk (cast (by kernel_rfl) ht)
theorem J37i (Q : QT) (R4 : T4) (R30 : T30) (x116 x115 : Int) (a114 : Pt) (n114 c114 : Nat) (e114 : Bool) (a12 : Pt) (n12 c12 : Nat) (e12 : Bool) (a9 : Pt) (n9 c9 : Nat) (e9 : Bool) (x35 x34 : Int) (a33 : Pt) (n33 c33 : Nat) (e33 : Bool) (i8 o8 i4 o4 : Nat) (x2 : Int) (a0 : Pt) (h : Zaa) (ht :
 R30 a0 x2 i4 o4 i8 o8 a9 n9 c9 e9 a12 n12 c12 e12 a33 n33 c33 e33 x34 x35 a114 n114 c114 e114 x115 (IntKind.wrap .i64 (x116 + 1)) h) : J37 Q R4 R30 x116 x115 a114 n114 c114 e114 a12 n12 c12 e12 a9 n9 c9 e9 x35 x34 a33 n33 c33 e33 i8 o8 i4 o4 x2 a0 h :=
 Zbb (kp := kp) (cast (by kernel_rfl) ht)
theorem call (a0 : Pt) (x1x0 x1x1 : List Nat) (x2 : Int) (h : Zaa) (Q : QT) (ht :
 Zcn (h ++ [.cells Zad [.str x1x0, .str x1x1] false]) fun H0 => Zbl a0 fun I1 O2 => Zcz (Zbx H0 (.ptr (some (I1, O2 + 0))) 2) fun K3 => Zao K3 fun C4 Z5 => xSl (some C4) fun A6 N7 C8 E9 => Zao Z5 fun C10 Z11 => xSl (some C10) fun A12 N13 C14 E15 => Zcl Z11 (Zcn (H0 ++ [.cells Zaj [.slice none 0 0 true, .slice none 0 0 true] false]) fun H16 => Zcp (Zbn H16 (.ptr (some (H0.length, 0))) [.slice A6 N7 C8 E9, .slice A12 N13 C14 E15]) fun H17 => Zcn (H17 ++ [.cells Zaz [] false]) fun H18 => Zcz (Zbx H18 (.ptr (some (H0.length, 0))) 2) fun K19 => Zao K19 fun C20 Z21 => xSl (some C20) fun A22 N23 C24 E25 => Zao Z21 fun C26 Z27 => xSl (some C26) fun A28 N29 C30 E31 => Zcl Z27 (Zcz (Zbx H18 (.ptr (some (h.length, 0))) 2) fun K32 => Zao K32 fun C33 Z34 => Zbp (some C33) fun S35 => Zao Z34 fun C36 Z37 => Zbp (some C36) fun S38 => Zcl Z37 (Zae pg Zib [.agg [.slice A22 N23 C24 E25, .slice A28 N29 C30 E31], .agg [.str S35, .str S38]] H18 fun V39 H40 =>
 xSl (some V39) fun A41 N42 C43 E44 => L4 Q a0 x2 h.length 0 H0.length 0 (some (H17.length, 0)) 0 0 true A41 N42 C43 E44 (((N42 : Nat) : Int)) 0 H40)))) : Zae pg Zhz [.ptr a0, .agg [.str x1x0, .str x1x1], .int .i64 x2] h Q :=
 Zae.of_body kp (c := cod fn) (fn := fn) Go.Proofs.Tryz.func115 (by kernel_rfl) (by kernel_rfl) (Nat.le_of_ble_eq_true (by kernel_rfl))
  (cast (by kernel_rfl) ht)
end Zbc
end Go.Sim

set_option maxRecDepth 100000
set_option linter.unusedVariables false
namespace Go.Sim
open Go Go.RowKit
end Go.Sim

set_option maxRecDepth 100000
set_option linter.unusedVariables false
namespace Go.Sim
open Go Go.RowKit
end Go.Sim

set_option maxRecDepth 100000
set_option linter.unusedVariables false
namespace Go.Sim
open Go Go.RowKit
end Go.Sim
