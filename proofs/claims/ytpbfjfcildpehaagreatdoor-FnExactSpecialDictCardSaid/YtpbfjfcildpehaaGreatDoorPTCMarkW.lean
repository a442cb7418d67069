/- A part of the proof of a statement of this seat: see the text that holds the theorem. No condition. -/
import Derived.Test.YtpbfjfcildpehaaGreatDoorNm
set_option linter.unusedVariables false
set_option linter.unusedSimpArgs false
set_option linter.all false
/- Printed by wip/tool: what the functions' bodies do, in the words of 'den'. -/
set_option maxRecDepth 100000
set_option linter.unusedVariables false
namespace Go.Sim
open Go Go.RowKit
/-! Function slices.Clone[[]loop.example/instancesearch/impl.Need,loop.example/instancesearch/impl.Need] -/
namespace F_slices_Clone_L_impl_Need_impl_Need
noncomputable abbrev fn : Func := Go.Proofs.Tryz.f109
def kp : Keeps := []
noncomputable def C (p : List Nat) : Code := (cod fn).sub p
def KR (Q : QT) : KT := retA pg fn.results.toList Q
theorem call (a0 : Pt) (n0 c0 : Nat) (e0 : Bool) (h : AHeap) (Q : QT) (ht :
 (a0 = none → e0 = true) ∧ (bcase (Option.isNone a0) (Q (.slice none 0 0 true) h) (letH (h ++ [.cells t_impl_Need [] false]) fun H0 => appendA pg t_L_impl_Need H0 (.slice (some (h.length, 0)) 0 0 true) (.slice a0 n0 c0 e0) fun V1 H2 => xSl (some V1) fun A3 N4 C5 E6 => Q (.slice A3 N4 C5 E6) H2))) : SCall pg n_slices_Clone_L_impl_Need_impl_Need [.slice a0 n0 c0 e0] h Q :=
  SCall.of_body kp (c := cod fn) (fn := fn) Go.Proofs.Tryz.func109 (by kernel_rfl) (by kernel_rfl) (Nat.le_of_ble_eq_true (by kernel_rfl))
    (cast (by kernel_rfl) ht)
end F_slices_Clone_L_impl_Need_impl_Need
/-! Function (*loop.example/instancesearch/impl.search).ask$1 -/
namespace F_impl_search_ask_lit1
noncomputable abbrev fn : Func := Go.Proofs.Tryz.f108
def kp : Keeps := [(2000001, [0])]
noncomputable def C (p : List Nat) : Code := (cod fn).sub p
def KR (Q : QT) : KT := retA pg fn.results.toList Q
theorem call (x0 : List Nat) (v1 v2 v3 : AVal) (h : AHeap) (Q : QT) (ht :
 xPtr (hCell h (v3)) fun A0 => xPtr (hCell h (v3)) fun A1 => xRow (hRow h (v1) 2) fun K2 => xCons K2 fun C3 Z4 => xStr (some C3) fun S5 => xCons Z4 fun C6 Z7 => xStr (some C6) fun S8 => xNil Z7 (xSl (hCell h (v2)) fun A9 N10 C11 E12 => (hRow h (v1) 2 = hRow h (v1) 2) ∧ (hCell h (v3) = hCell h (v3)) ∧ (hCell h (v3) = hCell h (v3)) ∧ SCall pg n_slices_Clone_L_impl_Need_impl_Need [.slice A9 N10 C11 E12] h fun V13 H14 =>
 xSl (some V13) fun A15 N16 C17 E18 => (hRow H14 (v1) 2 = hRow h (v1) 2) ∧ (hCell H14 (v3) = hCell h (v3)) ∧ (hCell H14 (v3) = hCell h (v3)) ∧ xSome A0 fun I19 O20 => xHeap (hStore H14 (.ptr (some (I19, O20 + 5))) [.str S5, .str S8]) fun H21 => (hCell H21 (v3) = hCell H14 (v3)) ∧ xSome A1 fun I22 O23 => xHeap (hStore H21 (.ptr (some (I22, O23 + 7))) [.slice A15 N16 C17 E18]) fun H24 => Q (.tup [.str [], .str x0]) H24)) : SCall pg n_impl_search_ask_lit1 [.str x0, v1, v2, v3] h Q :=
  SCall.of_body kp (c := cod fn) (fn := fn) Go.Proofs.Tryz.func108 (by kernel_rfl) (by kernel_rfl) (Nat.le_of_ble_eq_true (by kernel_rfl))
    (cast (by kernel_rfl) ht)
end F_impl_search_ask_lit1
/-! Function (*loop.example/instancesearch/impl.search).ask -/
namespace F_impl_search_ask
noncomputable abbrev fn : Func := Go.Proofs.Tryz.f73
def kp : Keeps := [(2000001, [9, 8, 4, 5, 3]), (2000007, [5, 10, 3, 4]), (2000010, [11, 10, 3, 4, 5]), (4000018, [3, 12, 4, 10, 5]), (2000018, [14, 10, 12, 5, 4, 13, 3]), (2000022, [13, 3, 15, 16]), (3000024, [13, 15, 6, 7]), (1000024, [3, 13, 15, 16, 126, 127, 128]), (4000032, [15, 21, 19, 128, 127, 126, 3, 16, 13]), (4000033, [128, 127, 126, 3, 16, 15, 13]), (4000036, [15])]
noncomputable def C (p : List Nat) : Code := (cod fn).sub p
def KR (Q : QT) : KT := retA pg fn.results.toList Q
abbrev T24 := Nat → Nat → Pt → Nat → Nat → Bool → List Nat → Pt → Nat → Nat → Bool → Pt → Nat → Nat → Bool → Int → Int → AHeap → Prop
def E24 (R24 : T24) (env : Env) (h : AHeap) : Prop := eVal 3 env fun v env => xPtr (some v) fun a => xSome a fun i3 o3 => eVal 13 env fun v env => xSl (some v) fun a13 n13 c13 e13 => eVal 15 env fun v env => xStr (some v) fun x15 => eVal 16 env fun v env => xSl (some v) fun a16 n16 c16 e16 => eVal 126 env fun v env => xSl (some v) fun a126 n126 c126 e126 => eVal 127 env fun v env => eInt .i64 v fun x127 => eVal 128 env fun v env => eInt .i64 v fun x128 => eNil env (R24 i3 o3 a13 n13 c13 e13 x15 a16 n16 c16 e16 a126 n126 c126 e126 x127 x128 h)
theorem E24elim {R24 : T24} {env : Env} {h : AHeap} (hi : E24 R24 env h) : ∃ i3, ∃ o3, ∃ a13, ∃ n13, ∃ c13, ∃ e13, ∃ x15, ∃ a16, ∃ n16, ∃ c16, ∃ e16, ∃ a126, ∃ n126, ∃ c126, ∃ e126, ∃ x127, ∃ x128, env = [(3, .ptr (some (i3, o3))), (13, .slice a13 n13 c13 e13), (15, .str x15), (16, .slice a16 n16 c16 e16), (126, .slice a126 n126 c126 e126), (127, .int .i64 x127), (128, .int .i64 x128)] ∧ R24 i3 o3 a13 n13 c13 e13 x15 a16 n16 c16 e16 a126 n126 c126 e126 x127 x128 h := by
  unfold E24 at hi
  have hi0 := hi
  clear hi
  obtain ⟨_, _, rfl, hi1⟩ := eVal_elim hi0
  obtain ⟨a, rfl, hi2⟩ := xPtr_elim hi1
  obtain ⟨i3, o3, rfl, hi3⟩ := xSome_elim hi2
  obtain ⟨_, _, rfl, hi4⟩ := eVal_elim hi3
  obtain ⟨a13, n13, c13, e13, rfl, hi5⟩ := xSl_elim hi4
  obtain ⟨_, _, rfl, hi6⟩ := eVal_elim hi5
  obtain ⟨x15, rfl, hi7⟩ := xStr_elim hi6
  obtain ⟨_, _, rfl, hi8⟩ := eVal_elim hi7
  obtain ⟨a16, n16, c16, e16, rfl, hi9⟩ := xSl_elim hi8
  obtain ⟨_, _, rfl, hi10⟩ := eVal_elim hi9
  obtain ⟨a126, n126, c126, e126, rfl, hi11⟩ := xSl_elim hi10
  obtain ⟨_, _, rfl, hi12⟩ := eVal_elim hi11
  obtain ⟨x127, rfl, hi13⟩ := eInt_elim hi12
  obtain ⟨_, _, rfl, hi14⟩ := eVal_elim hi13
  obtain ⟨x128, rfl, hi15⟩ := eInt_elim hi14
  obtain ⟨rfl, hi16⟩ := eNil_elim hi15
  have hi := hi16
  exact ⟨i3, o3, a13, n13, c13, e13, x15, a16, n16, c16, e16, a126, n126, c126, e126, x127, x128, rfl, hi⟩
def K0 (Q : QT) : KT := andThen (fun env' h' => (match kp.find 4000034 with | some ks => Den pg fn.ntmps (C [1, 1, 1, 1, 1, 1, 1, 1, 1, 1, 1, 1, 1, 1, 1]) (env'.keep ks) h' (KR Q) | none => den pg fn.ntmps kp (C [1, 1, 1, 1, 1, 1, 1, 1, 1, 1, 1, 1, 1, 1, 1]) env' h' (KR Q))) (KR Q)
def K1 (Q : QT) : KT := onExit 0 (K0 Q)
def K2 (Q : QT) : KT := left kp 24 (K1 Q)
def K3 (Q : QT) (R24 : T24) : KT := rnd ((kp.find 1000024).getD []) (E24 R24) (K2 Q)
def K4 (Q : QT) (R24 : T24) : KT := andThen (fun env' h' => (match kp.find 4000033 with | some ks => Den pg fn.ntmps (C [1, 1, 1, 1, 1, 1, 1, 1, 1, 1, 1, 1, 1, 1, 0, 1, 0, 0, 1, 1, 1]) (env'.keep ks) h' (K3 Q R24) | none => den pg fn.ntmps kp (C [1, 1, 1, 1, 1, 1, 1, 1, 1, 1, 1, 1, 1, 1, 0, 1, 0, 0, 1, 1, 1]) env' h' (K3 Q R24))) (K3 Q R24)
def K5 (Q : QT) (R24 : T24) : KT := onExit 1 (K4 Q R24)
def J18 (Q : QT) (i3 o3 : Nat) (x12 : Int) (i4 o4 i10x0 o10x0 i10x1 o10x1 i10x2 o10x2 i5 o5 : Nat) (h : AHeap) : Prop := Den pg fn.ntmps (C [1, 1, 1, 1, 1, 1, 1, 1, 1, 1]) [(3, .ptr (some (i3, o3))), (12, .int .i64 x12), (4, .ptr (some (i4, o4))), (10, .fn n_impl_search_ask_lit1 [.ptr (some (i10x0, o10x0)), .ptr (some (i10x1, o10x1)), .ptr (some (i10x2, o10x2))]), (5, .ptr (some (i5, o5)))] h (KR Q)
def L24 (Q : QT) (i3 o3 : Nat) (a13 : Pt) (n13 c13 : Nat) (e13 : Bool) (x15 : List Nat) (a16 : Pt) (n16 c16 : Nat) (e16 : Bool) (a126 : Pt) (n126 c126 : Nat) (e126 : Bool) (x127 x128 : Int) (h : AHeap) : Prop := Loop (Den pg fn.ntmps (C [1, 1, 1, 1, 1, 1, 1, 1, 1, 1, 1, 1, 1, 1, 0, 1, 0, 0])) ((kp.find 1000024).getD []) (K2 Q) [(3, .ptr (some (i3, o3))), (13, .slice a13 n13 c13 e13), (15, .str x15), (16, .slice a16 n16 c16 e16), (126, .slice a126 n126 c126 e126), (127, .int .i64 x127), (128, .int .i64 x128)] h
def J32 (Q : QT) (R24 : T24) (x15 x21 x19 : List Nat) (x128 x127 : Int) (a126 : Pt) (n126 c126 : Nat) (e126 : Bool) (i3 o3 : Nat) (a16 : Pt) (n16 c16 : Nat) (e16 : Bool) (a13 : Pt) (n13 c13 : Nat) (e13 : Bool) (h : AHeap) : Prop := Den pg fn.ntmps (C [1, 1, 1, 1, 1, 1, 1, 1, 1, 1, 1, 1, 1, 1, 0, 1, 0, 0, 1, 1, 0, 0, 1, 1, 1, 1, 1]) [(15, .str x15), (21, .str x21), (19, .str x19), (128, .int .i64 x128), (127, .int .i64 x127), (126, .slice a126 n126 c126 e126), (3, .ptr (some (i3, o3))), (16, .slice a16 n16 c16 e16), (13, .slice a13 n13 c13 e13)] h (K5 Q R24)
def A24x0 (Q : QT) (a13 : Pt) (n13 c13 : Nat) (e13 : Bool) (x15 : List Nat) (h : AHeap) : Prop := At (K1 Q) (.exit 0) [(13, .slice a13 n13 c13 e13), (15, .str x15), (6, .undef), (7, .undef)] h
def J33 (Q : QT) (R24 : T24) (x128 x127 : Int) (a126 : Pt) (n126 c126 : Nat) (e126 : Bool) (i3 o3 : Nat) (a16 : Pt) (n16 c16 : Nat) (e16 : Bool) (x15 : List Nat) (a13 : Pt) (n13 c13 : Nat) (e13 : Bool) (h : AHeap) : Prop := Den pg fn.ntmps (C [1, 1, 1, 1, 1, 1, 1, 1, 1, 1, 1, 1, 1, 1, 0, 1, 0, 0, 1, 1, 1]) [(128, .int .i64 x128), (127, .int .i64 x127), (126, .slice a126 n126 c126 e126), (3, .ptr (some (i3, o3))), (16, .slice a16 n16 c16 e16), (15, .str x15), (13, .slice a13 n13 c13 e13)] h (K3 Q R24)
def J36 (Q : QT) (x15 : List Nat) (h : AHeap) : Prop := Den pg fn.ntmps (C [1, 1, 1, 1, 1, 1, 1, 1, 1, 1, 1, 1, 1, 1, 1, 1]) [(15, .str x15)] h (KR Q)
theorem J18i (Q : QT) (i3 o3 : Nat) (x12 : Int) (i4 o4 i10x0 o10x0 i10x1 o10x1 i10x2 o10x2 i5 o5 : Nat) (h : AHeap) (ht :
 xPtr (hCell h (.ptr (some (i3, o3)))) fun A161 => xSome A161 fun I162 O163 => xSl (hCell h (.ptr (some (I162, O163 + 0 + 1)))) fun A164 N165 C166 E167 => (0 ≤ (x12 : Int) ∧ (x12 : Int) < (N165 : Nat)) ∧ (xSome A164 fun I168 O169 => xRow (hRow h (.ptr (some (I168, O169 + (Int.toNat x12) * 3))) 3) fun K170 => xCons K170 fun C171 Z172 => xStr (some C171) fun S173 => xCons Z172 fun C174 Z175 => xStr (some C174) fun S176 => xCons Z175 fun C177 Z178 => xSl (some C177) fun A179 N180 C181 E182 => xNil Z178 (xStr (hCell h (.ptr (some (i4, o4 + 1)))) fun S183 => (hRow h (.ptr (some (I168, O169 + (Int.toNat x12) * 3))) 3 = hRow h (.ptr (some (I168, O169 + (Int.toNat x12) * 3))) 3) ∧ (hCell h (.ptr (some (I162, O163 + 0 + 1))) = hCell h (.ptr (some (I162, O163 + 0 + 1)))) ∧ (hCell h (.ptr (some (i3, o3))) = hCell h (.ptr (some (i3, o3)))) ∧ SCall pg n_impl_Instance_needs [.agg [.str S173, .str S176, .slice A179 N180 C181 E182], .str S183] h fun V184 H185 =>
 xTup V184 fun K186 => xCons K186 fun C187 Z188 => xSl (some C187) fun A189 N190 C191 E192 => xCons Z188 fun C193 Z194 => xBool (some C193) fun B195 => xNil Z194 ((hCell H185 (.ptr (some (I162, O163 + 0 + 1))) = hCell h (.ptr (some (I162, O163 + 0 + 1)))) ∧ (hCell H185 (.ptr (some (i3, o3))) = hCell h (.ptr (some (i3, o3)))) ∧ bcase (!B195) (SCall pg n_impl_search_ask_lit1 [.str ([98, 105, 103]), .ptr (some (i10x0, o10x0)), .ptr (some (i10x1, o10x1)), .ptr (some (i10x2, o10x2))] H185 fun V196 H197 =>
 xTup V196 fun K198 => xCons K198 fun C199 Z200 => xStr (some C199) fun S201 => xCons Z200 fun C202 Z203 => xStr (some C202) fun S204 => xNil Z203 (Q (.tup [.str S201, .str S204]) H197)) (SCall pg n_strconv_Itoa [.int .i64 x12] H185 fun V205 H206 =>
 xStr (some V205) fun S207 => xSl (hCell H206 (.ptr (some (i5, o5)))) fun A208 N209 C210 E211 => xRow (hRow H206 (.ptr (some (i4, o4))) 2) fun K212 => xCons K212 fun C213 Z214 => xStr (some C213) fun S215 => xCons Z214 fun C216 Z217 => xStr (some C216) fun S218 => xNil Z217 ((SCall pg n_slices_Clone_L_impl_Need_impl_Need [.slice A208 N209 C210 E211] H206 fun V219 H220 =>
 xSl (some V219) fun A221 N222 C223 E224 => (hRow H220 (.ptr (some (i4, o4))) 2 = hRow H206 (.ptr (some (i4, o4))) 2) ∧ letH (H220 ++ [.cells t_impl_Need [.str S215, .str S218] false]) fun H225 => (hCell H225 (.ptr (some (i5, o5))) = hCell H220 (.ptr (some (i5, o5)))) ∧ appendA pg t_L_impl_Need H225 (.slice A221 N222 C223 E224) (.slice (some (H220.length, 0)) 1 1 true) fun V226 H227 => xSl (some V226) fun A228 N229 C230 E231 => (hRow H227 (.ptr (some (i4, o4))) 2 = hRow H225 (.ptr (some (i4, o4))) 2) ∧ (hCell H227 (.ptr (some (i5, o5))) = hCell H225 (.ptr (some (i5, o5)))) ∧ L24 Q i3 o3 A189 N190 C191 E192 S207 A228 N229 C230 E231 A189 N190 C191 E192 (((N190 : Nat) : Int)) 0 H227) ∧ (letH (H206 ++ [.cells t_impl_Need [.str S215, .str S218] false]) fun H232 => (hCell H232 (.ptr (some (i5, o5))) = hCell H206 (.ptr (some (i5, o5)))) ∧ SCall pg n_slices_Clone_L_impl_Need_impl_Need [.slice A208 N209 C210 E211] H232 fun V233 H234 =>
 xSl (some V233) fun A235 N236 C237 E238 => (hRow H234 (.ptr (some (i4, o4))) 2 = hRow H232 (.ptr (some (i4, o4))) 2) ∧ appendA pg t_L_impl_Need H234 (.slice A235 N236 C237 E238) (.slice (some (H206.length, 0)) 1 1 true) fun V239 H240 => xSl (some V239) fun A241 N242 C243 E244 => (hRow H240 (.ptr (some (i4, o4))) 2 = hRow H234 (.ptr (some (i4, o4))) 2) ∧ (hCell H240 (.ptr (some (i5, o5))) = hCell H234 (.ptr (some (i5, o5)))) ∧ L24 Q i3 o3 A189 N190 C191 E192 S207 A241 N242 C243 E244 A189 N190 C191 E192 (((N190 : Nat) : Int)) 0 H240))))))) : J18 Q i3 o3 x12 i4 o4 i10x0 o10x0 i10x1 o10x1 i10x2 o10x2 i5 o5 h :=
  den_Den (kp := kp) (cast (by kernel_rfl) ht)
def L24t (Q : QT) (R24 : T24) (i3 o3 : Nat) (a13 : Pt) (n13 c13 : Nat) (e13 : Bool) (x15 : List Nat) (a16 : Pt) (n16 c16 : Nat) (e16 : Bool) (a126 : Pt) (n126 c126 : Nat) (e126 : Bool) (x127 x128 : Int) (h : AHeap) : Prop :=
 bcase (decide ((x128 : Int) < x127)) ((0 ≤ (x128 : Int) ∧ (x128 : Int) < (n126 : Nat)) ∧ (xSome a126 fun I245 O246 => xRow (hRow h (.ptr (some (I245, O246 + (Int.toNat x128) * 2))) 2) fun K247 => xCons K247 fun C248 Z249 => xStr (some C248) fun S250 => xCons Z249 fun C251 Z252 => xStr (some C251) fun S253 => xNil Z252 (letH (h ++ [.cells t_impl_Need [.str [], .str []] false]) fun H254 => xHeap (hStore H254 (.ptr (some (h.length, 0))) [.str S250, .str S253]) fun H255 => xPtr (hCell H255 (.ptr (some (i3, o3)))) fun A256 => xRow (hRow H255 (.ptr (some (h.length, 0))) 2) fun K257 => xCons K257 fun C258 Z259 => xStr (some C258) fun S260 => xCons Z259 fun C261 Z262 => xStr (some C261) fun S263 => xNil Z262 (SCall pg n_impl_search_ask [.ptr A256, .agg [.str S260, .str S263], .slice a16 n16 c16 e16] H255 fun V264 H265 =>
 xTup V264 fun K266 => xCons K266 fun C267 Z268 => xStr (some C267) fun S269 => xCons Z268 fun C270 Z271 => xStr (some C270) fun S272 => xNil Z271 (bcase (!(decide (S272 = []))) (Q (.tup [.str [], .str S272]) H265) (bcase ((x128 : Int) == 0) (J32 Q R24 x15 [40] S269 x128 x127 a126 n126 c126 e126 i3 o3 a16 n16 c16 e16 a13 n13 c13 e13 H265) (J32 Q R24 x15 [44] S269 x128 x127 a126 n126 c126 e126 i3 o3 a16 n16 c16 e16 a13 n13 c13 e13 H265))))))) (A24x0 Q a13 n13 c13 e13 x15 h)
theorem L24den (Q : QT) (R24 : T24) (i3 o3 : Nat) (a13 : Pt) (n13 c13 : Nat) (e13 : Bool) (x15 : List Nat) (a16 : Pt) (n16 c16 : Nat) (e16 : Bool) (a126 : Pt) (n126 c126 : Nat) (e126 : Bool) (x127 x128 : Int) (h : AHeap) (ht : L24t Q R24 i3 o3 a13 n13 c13 e13 x15 a16 n16 c16 e16 a126 n126 c126 e126 x127 x128 h) : Den pg fn.ntmps (C [1, 1, 1, 1, 1, 1, 1, 1, 1, 1, 1, 1, 1, 1, 0, 1, 0, 0]) [(3, .ptr (some (i3, o3))), (13, .slice a13 n13 c13 e13), (15, .str x15), (16, .slice a16 n16 c16 e16), (126, .slice a126 n126 c126 e126), (127, .int .i64 x127), (128, .int .i64 x128)] h (K3 Q R24) :=
  den_Den (kp := kp) (cast (by kernel_rfl) ht)
theorem L24ind (Q : QT) (i3 o3 : Nat) (a13 : Pt) (n13 c13 : Nat) (e13 : Bool) (a16 : Pt) (n16 c16 : Nat) (e16 : Bool) (a126 : Pt) (n126 c126 : Nat) (e126 : Bool) (x127 : Int) {G : Type} (J : G → List Nat → Int → AHeap → Prop) (m : G → Nat)
 (hr : ∀ (g : G) (x15 : List Nat) (x128 : Int) (h : AHeap), J g x15 x128 h → ∀ (R24 : T24), (∀ g' (x15 : List Nat) (x128 : Int) (h : AHeap), m g' < m g → J g' x15 x128 h → R24 i3 o3 a13 n13 c13 e13 x15 a16 n16 c16 e16 a126 n126 c126 e126 x127 x128 h) → L24t Q R24 i3 o3 a13 n13 c13 e13 x15 a16 n16 c16 e16 a126 n126 c126 e126 x127 x128 h)
 (g : G) (x15 : List Nat) (x128 : Int) (h : AHeap) (hj : J g x15 x128 h) : L24 Q i3 o3 a13 n13 c13 e13 x15 a16 n16 c16 e16 a126 n126 c126 e126 x127 x128 h := by
  refine Loop.inv2 (fun g => E24 fun i3' o3' a13' n13' c13' e13' x15 a16' n16' c16' e16' a126' n126' c126' e126' x127' x128 h => i3 = i3' ∧ o3 = o3' ∧ a13 = a13' ∧ n13 = n13' ∧ c13 = c13' ∧ e13 = e13' ∧ a16 = a16' ∧ n16 = n16' ∧ c16 = c16' ∧ e16 = e16' ∧ a126 = a126' ∧ n126 = n126' ∧ c126 = c126' ∧ e126 = e126' ∧ x127 = x127' ∧ J g x15 x128 h) (fun g => E24 fun i3' o3' a13' n13' c13' e13' x15 a16' n16' c16' e16' a126' n126' c126' e126' x127' x128 h => i3 = i3' ∧ o3 = o3' ∧ a13 = a13' ∧ n13 = n13' ∧ c13 = c13' ∧ e13 = e13' ∧ a16 = a16' ∧ n16 = n16' ∧ c16 = c16' ∧ e16 = e16' ∧ a126 = a126' ∧ n126 = n126' ∧ c126 = c126' ∧ e126 = e126' ∧ x127 = x127' ∧ ∃ g', m g' < m g ∧ J g' x15 x128 h) m ?_ ?_ g ⟨rfl, rfl, rfl, rfl, rfl, rfl, rfl, rfl, rfl, rfl, rfl, rfl, rfl, rfl, rfl, hj⟩
  · intro g env h hi
    obtain ⟨i3', o3', a13', n13', c13', e13', x15, a16', n16', c16', e16', a126', n126', c126', e126', x127', x128, rfl, rfl, rfl, rfl, rfl, rfl, rfl, rfl, rfl, rfl, rfl, rfl, rfl, rfl, rfl, rfl, hj⟩ := E24elim hi
    exact L24den Q _ i3 o3 a13 n13 c13 e13 x15 a16 n16 c16 e16 a126 n126 c126 e126 x127 x128 h (hr g x15 x128 h hj (fun i3' o3' a13' n13' c13' e13' x15 a16' n16' c16' e16' a126' n126' c126' e126' x127' x128 h => i3 = i3' ∧ o3 = o3' ∧ a13 = a13' ∧ n13 = n13' ∧ c13 = c13' ∧ e13 = e13' ∧ a16 = a16' ∧ n16 = n16' ∧ c16 = c16' ∧ e16 = e16' ∧ a126 = a126' ∧ n126 = n126' ∧ c126 = c126' ∧ e126 = e126' ∧ x127 = x127' ∧ ∃ g', m g' < m g ∧ J g' x15 x128 h) fun g' x15 x128 h hlt hj => ⟨rfl, rfl, rfl, rfl, rfl, rfl, rfl, rfl, rfl, rfl, rfl, rfl, rfl, rfl, rfl, g', hlt, hj⟩)
  · intro g env h hi
    obtain ⟨i3', o3', a13', n13', c13', e13', x15, a16', n16', c16', e16', a126', n126', c126', e126', x127', x128, rfl, rfl, rfl, rfl, rfl, rfl, rfl, rfl, rfl, rfl, rfl, rfl, rfl, rfl, rfl, rfl, g', hlt, hj⟩ := E24elim hi
    exact ⟨g', hlt, rfl, rfl, rfl, rfl, rfl, rfl, rfl, rfl, rfl, rfl, rfl, rfl, rfl, rfl, rfl, hj⟩
theorem J32i (Q : QT) (R24 : T24) (x15 x21 x19 : List Nat) (x128 x127 : Int) (a126 : Pt) (n126 c126 : Nat) (e126 : Bool) (i3 o3 : Nat) (a16 : Pt) (n16 c16 : Nat) (e16 : Bool) (a13 : Pt) (n13 c13 : Nat) (e13 : Bool) (h : AHeap) (ht :
 List.length x21 + List.length x19 ≤ 9223372036854775807 ∧ (List.length x15 + List.length (x21 ++ x19) ≤ 9223372036854775807 ∧ (J33 Q R24 x128 x127 a126 n126 c126 e126 i3 o3 a16 n16 c16 e16 (x15 ++ (x21 ++ x19)) a13 n13 c13 e13 h))) : J32 Q R24 x15 x21 x19 x128 x127 a126 n126 c126 e126 i3 o3 a16 n16 c16 e16 a13 n13 c13 e13 h :=
  den_Den (kp := kp) (cast (by kernel_rfl) ht)
theorem A24x0i (Q : QT) (a13 : Pt) (n13 c13 : Nat) (e13 : Bool) (x15 : List Nat) (h : AHeap) (ht :
 bcase (decide (((((n13 : Nat) : Int)) : Int) > 0)) (List.length x15 + List.length [41] ≤ 9223372036854775807 ∧ (J36 Q (x15 ++ [41]) h)) (J36 Q x15 h)) : A24x0 Q a13 n13 c13 e13 x15 h :=
  At.mk (cast (by kernel_rfl) ht)
theorem J33i (Q : QT) (R24 : T24) (x128 x127 : Int) (a126 : Pt) (n126 c126 : Nat) (e126 : Bool) (i3 o3 : Nat) (a16 : Pt) (n16 c16 : Nat) (e16 : Bool) (x15 : List Nat) (a13 : Pt) (n13 c13 : Nat) (e13 : Bool) (h : AHeap) (ht :
 R24 i3 o3 a13 n13 c13 e13 x15 a16 n16 c16 e16 a126 n126 c126 e126 x127 (IntKind.wrap .i64 (x128 + 1)) h) : J33 Q R24 x128 x127 a126 n126 c126 e126 i3 o3 a16 n16 c16 e16 x15 a13 n13 c13 e13 h :=
  den_Den (kp := kp) (cast (by kernel_rfl) ht)
theorem J36i (Q : QT) (x15 : List Nat) (h : AHeap) (ht :
 Q (.tup [.str x15, .str []]) h) : J36 Q x15 h :=
  den_Den (kp := kp) (cast (by kernel_rfl) ht)
theorem call (a0 : Pt) (x1x0 x1x1 : List Nat) (a2 : Pt) (n2 c2 : Nat) (e2 : Bool) (h : AHeap) (Q : QT) (ht :
 letH (h ++ [.cells t_P_impl_search [.ptr a0] false]) fun H0 => letH (H0 ++ [.cells t_impl_Need [.str x1x0, .str x1x1] false]) fun H1 => letH (H1 ++ [.cells t_L_impl_Need [.slice a2 n2 c2 e2] false]) fun H2 => xPtr (hCell H2 (.ptr (some (h.length, 0)))) fun A3 => xSome A3 fun I4 O5 => xAny (hCell H2 (.ptr (some (I4, O5 + 3)))) fun V6 => xRow (hRow H2 (.ptr (some (H0.length, 0))) 2) fun K7 => xCons K7 fun C8 Z9 => xStr (some C8) fun S10 => xCons Z9 fun C11 Z12 => xStr (some C11) fun S13 => xNil Z12 ((hCell H2 (.ptr (some (I4, O5 + 3))) = hCell H2 (.ptr (some (I4, O5 + 3)))) ∧ (hCell H2 (.ptr (some (h.length, 0))) = hCell H2 (.ptr (some (h.length, 0)))) ∧ dynF V6 fun Y14 W15 => SCall pg Y14 ([.agg [.str S10, .str S13]] ++ W15) H2 fun V16 H17 =>
 xTup V16 fun K18 => xCons K18 fun C19 Z20 => xStr (some C19) fun S21 => xCons Z20 fun C22 Z23 => xBool (some C22) fun B24 => xNil Z23 ((hCell H17 (.ptr (some (h.length, 0))) = hCell H2 (.ptr (some (h.length, 0)))) ∧ bcase B24 (Q (.tup [.str S21, .str []]) H17) (xPtr (hCell H17 (.ptr (some (h.length, 0)))) fun A25 => xSome A25 fun I26 O27 => xSl (hCell H17 (.ptr (some (I26, O27 + 4)))) fun A28 N29 C30 E31 => bcase (decide (((((N29 : Nat) : Int)) : Int) ≥ 300)) (SCall pg n_impl_search_ask_lit1 [.str ([108, 111, 110, 103]), .ptr (some (H0.length, 0)), .ptr (some (H1.length, 0)), .ptr (some (h.length, 0))] H17 fun V32 H33 =>
 xTup V32 fun K34 => xCons K34 fun C35 Z36 => xStr (some C35) fun S37 => xCons Z36 fun C38 Z39 => xStr (some C38) fun S40 => xNil Z39 (Q (.tup [.str S37, .str S40]) H33)) (xPtr (hCell H17 (.ptr (some (h.length, 0)))) fun A41 => xPtr (hCell H17 (.ptr (some (h.length, 0)))) fun A42 => xSome A42 fun I43 O44 => xSl (hCell H17 (.ptr (some (I43, O44 + 4)))) fun A45 N46 C47 E48 => xRow (hRow H17 (.ptr (some (H0.length, 0))) 2) fun K49 => xCons K49 fun C50 Z51 => xStr (some C50) fun S52 => xCons Z51 fun C53 Z54 => xStr (some C53) fun S55 => xNil Z54 ((hCell H17 (.ptr (some (I43, O44 + 4))) = hCell H17 (.ptr (some (I43, O44 + 4)))) ∧ (hCell H17 (.ptr (some (h.length, 0))) = hCell H17 (.ptr (some (h.length, 0)))) ∧ (hCell H17 (.ptr (some (h.length, 0))) = hCell H17 (.ptr (some (h.length, 0)))) ∧ letH (H17 ++ [.cells t_impl_Need [.str S52, .str S55] false]) fun H56 => (hCell H56 (.ptr (some (I43, O44 + 4))) = hCell H17 (.ptr (some (I43, O44 + 4)))) ∧ (hCell H56 (.ptr (some (h.length, 0))) = hCell H17 (.ptr (some (h.length, 0)))) ∧ (hCell H56 (.ptr (some (h.length, 0))) = hCell H17 (.ptr (some (h.length, 0)))) ∧ appendA pg t_L_impl_Need H56 (.slice A45 N46 C47 E48) (.slice (some (H17.length, 0)) 1 1 true) fun V57 H58 => xSl (some V57) fun A59 N60 C61 E62 => (hCell H58 (.ptr (some (h.length, 0))) = hCell H56 (.ptr (some (h.length, 0)))) ∧ (hCell H58 (.ptr (some (h.length, 0))) = hCell H56 (.ptr (some (h.length, 0)))) ∧ xSome A41 fun I63 O64 => xHeap (hStore H58 (.ptr (some (I63, O64 + 4))) [.slice A59 N60 C61 E62]) fun H65 => xSl (hCell H65 (.ptr (some (H1.length, 0)))) fun A66 N67 C68 E69 => bcase (decide (((((N67 : Nat) : Int)) : Int) > 30)) (SCall pg n_impl_search_ask_lit1 [.str ([100, 101, 101, 112]), .ptr (some (H0.length, 0)), .ptr (some (H1.length, 0)), .ptr (some (h.length, 0))] H65 fun V70 H71 =>
 xTup V70 fun K72 => xCons K72 fun C73 Z74 => xStr (some C73) fun S75 => xCons Z74 fun C76 Z77 => xStr (some C76) fun S78 => xNil Z77 (Q (.tup [.str S75, .str S78]) H71)) (xPtr (hCell H65 (.ptr (some (h.length, 0)))) fun A79 => xSome A79 fun I80 O81 => xRow (hRow H65 (.ptr (some (I80, O81 + 0))) 2) fun K82 => xCons K82 fun C83 Z84 => xSl (some C83) fun A85 N86 C87 E88 => xCons Z84 fun C89 Z90 => xSl (some C89) fun A91 N92 C93 E94 => xNil Z90 (xRow (hRow H65 (.ptr (some (H0.length, 0))) 2) fun K95 => xCons K95 fun C96 Z97 => xStr (some C96) fun S98 => xCons Z97 fun C99 Z100 => xStr (some C99) fun S101 => xNil Z100 ((hRow H65 (.ptr (some (I80, O81 + 0))) 2 = hRow H65 (.ptr (some (I80, O81 + 0))) 2) ∧ (hCell H65 (.ptr (some (h.length, 0))) = hCell H65 (.ptr (some (h.length, 0)))) ∧ SCall pg n_impl_candidates [.agg [.slice A85 N86 C87 E88, .slice A91 N92 C93 E94], .agg [.str S98, .str S101]] H65 fun V102 H103 =>
 xSl (some V102) fun A104 N105 C106 E107 => (hCell H103 (.ptr (some (h.length, 0))) = hCell H65 (.ptr (some (h.length, 0)))) ∧ bcase ((((N105 : Nat) : Int) : Int) == 0) (SCall pg n_impl_search_ask_lit1 [.str ([110, 111, 110, 101]), .ptr (some (H0.length, 0)), .ptr (some (H1.length, 0)), .ptr (some (h.length, 0))] H103 fun V108 H109 =>
 xTup V108 fun K110 => xCons K110 fun C111 Z112 => xStr (some C111) fun S113 => xCons Z112 fun C114 Z115 => xStr (some C114) fun S116 => xNil Z115 (Q (.tup [.str S113, .str S116]) H109)) ((0 ≤ (0 : Int) ∧ (0 : Int) < (N105 : Nat)) ∧ (xSome A104 fun I117 O118 => xInt .i64 (hCell H103 (.ptr (some (I117, O118 + (Int.toNat 0) * 1)))) fun X119 => bcase (decide (((((N105 : Nat) : Int)) : Int) > 1)) (xPtr (hCell H103 (.ptr (some (h.length, 0)))) fun A120 => xSome A120 fun I121 O122 => xRow (hRow H103 (.ptr (some (I121, O122 + 0))) 2) fun K123 => xCons K123 fun C124 Z125 => xSl (some C124) fun A126 N127 C128 E129 => xCons Z125 fun C130 Z131 => xSl (some C130) fun A132 N133 C134 E135 => xNil Z131 (SCall pg n_impl_mostSpecial [.agg [.slice A126 N127 C128 E129, .slice A132 N133 C134 E135], .slice A104 N105 C106 E107] H103 fun V136 H137 =>
 xInt .i64 (some V136) fun X138 => xPtr (hCell H137 (.ptr (some (h.length, 0)))) fun A139 => xSome A139 fun I140 O141 => xBool (hCell H137 (.ptr (some (I140, O141 + 2)))) fun B142 => bcase (!B142) (SCall pg n_impl_search_ask_lit1 [.str ([109, 97, 110, 121]), .ptr (some (H0.length, 0)), .ptr (some (H1.length, 0)), .ptr (some (h.length, 0))] H137 fun V143 H144 =>
 xTup V143 fun K145 => xCons K145 fun C146 Z147 => xStr (some C146) fun S148 => xCons Z147 fun C149 Z150 => xStr (some C149) fun S151 => xNil Z150 (Q (.tup [.str S148, .str S151]) H144)) (bcase (decide ((X138 : Int) < 0)) (SCall pg n_impl_search_ask_lit1 [.str ([109, 97, 110, 121]), .ptr (some (H0.length, 0)), .ptr (some (H1.length, 0)), .ptr (some (h.length, 0))] H137 fun V152 H153 =>
 xTup V152 fun K154 => xCons K154 fun C155 Z156 => xStr (some C155) fun S157 => xCons Z156 fun C158 Z159 => xStr (some C158) fun S160 => xNil Z159 (Q (.tup [.str S157, .str S160]) H153)) (J18 Q h.length 0 X138 H0.length 0 H0.length 0 H1.length 0 h.length 0 H1.length 0 H137)))) (J18 Q h.length 0 X119 H0.length 0 H0.length 0 H1.length 0 h.length 0 H1.length 0 H103)))))))))))) : SCall pg n_impl_search_ask [.ptr a0, .agg [.str x1x0, .str x1x1], .slice a2 n2 c2 e2] h Q :=
  SCall.of_body kp (c := cod fn) (fn := fn) Go.Proofs.Tryz.func73 (by kernel_rfl) (by kernel_rfl) (Nat.le_of_ble_eq_true (by kernel_rfl))
    (cast (by kernel_rfl) ht)
end F_impl_search_ask
/-! Function loop.example/instancesearch/impl.searched$1 -/
namespace F_impl_searched_lit1
noncomputable abbrev fn : Func := Go.Proofs.Tryz.f72
def kp : Keeps := []
noncomputable def C (p : List Nat) : Code := (cod fn).sub p
def KR (Q : QT) : KT := retA pg fn.results.toList Q
theorem call (x0x0 x0x1 : List Nat) (h : AHeap) (Q : QT) (ht :
 letH (h ++ [.cells t_impl_Need [.str x0x0, .str x0x1] false]) fun H0 => Q (.tup [.str [], .bool false]) H0) : SCall pg n_impl_searched_lit1 [.agg [.str x0x0, .str x0x1]] h Q :=
  SCall.of_body kp (c := cod fn) (fn := fn) Go.Proofs.Tryz.func72 (by kernel_rfl) (by kernel_rfl) (Nat.le_of_ble_eq_true (by kernel_rfl))
    (cast (by kernel_rfl) ht)
end F_impl_searched_lit1
end Go.Sim

/- Printed by wip/tool: what the functions' bodies do, in the words of 'den'. -/
set_option maxRecDepth 100000
set_option linter.unusedVariables false
namespace Go.Sim
open Go Go.RowKit
/-! Function loop.example/instancesearch/laws.markIntS -/
/-! Function loop.example/instancesearch/laws.heldIntS -/
end Go.Sim

/- Printed by wip/tool: what the functions' bodies do, in the words of 'den'. -/
set_option maxRecDepth 100000
set_option linter.unusedVariables false
namespace Go.Sim
open Go Go.RowKit
/-! Function loop.example/instancesearch/laws.markClassS -/
/-! Function loop.example/instancesearch/laws.markInstanceS -/
/-! Function loop.example/instancesearch/laws.markWorld -/
end Go.Sim
