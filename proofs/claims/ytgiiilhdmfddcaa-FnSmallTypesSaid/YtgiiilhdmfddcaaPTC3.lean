/- Printed by wip/tool: what the functions' bodies do, in the words of 'den'. -/
import Derived.Test.YtgiiilhdmfddcaaNm
set_option linter.unusedSimpArgs false
set_option linter.all false
set_option maxRecDepth 100000
set_option linter.unusedVariables false
namespace Go.Sim
open Go Go.RowKit
/-! Function loop.example/instancesearch/spec.l11Types -/
namespace F_spec_l11Types
noncomputable abbrev fn : Func := Go.Proofs.Try.f42
def kp : Keeps := [(3000007, [0, 3]), (1000007, [0, 3, 20, 21, 22]), (3000010, [22, 21, 20, 0, 3]), (1000010, [0, 3, 5, 20, 21, 22, 28, 29, 30]), (3000016, [3]), (1000016, [0, 3, 8]), (3000019, [8, 0, 3]), (1000019, [0, 3, 8, 51, 52, 53]), (3000022, [53, 52, 51, 0, 8, 3]), (1000022, [0, 3, 8, 10, 51, 52, 53, 61, 62, 63])]
noncomputable def C (p : List Nat) : Code := (cod fn).sub p
def KR (Q : QT) : KT := retA pg fn.results.toList Q
abbrev T7 := Int → Pt → Nat → Nat → Bool → Pt → Nat → Nat → Bool → Int → Int → AHeap → Prop
def E7 (R7 : T7) (env : Env) (h : AHeap) : Prop := eVal 0 env fun v env => eInt .i64 v fun x0 => eVal 3 env fun v env => xSl (some v) fun a3 n3 c3 e3 => eVal 20 env fun v env => xSl (some v) fun a20 n20 c20 e20 => eVal 21 env fun v env => eInt .i64 v fun x21 => eVal 22 env fun v env => eInt .i64 v fun x22 => eNil env (R7 x0 a3 n3 c3 e3 a20 n20 c20 e20 x21 x22 h)
theorem E7elim {R7 : T7} {env : Env} {h : AHeap} (hi : E7 R7 env h) : ∃ x0, ∃ a3, ∃ n3, ∃ c3, ∃ e3, ∃ a20, ∃ n20, ∃ c20, ∃ e20, ∃ x21, ∃ x22, env = [(0, .int .i64 x0), (3, .slice a3 n3 c3 e3), (20, .slice a20 n20 c20 e20), (21, .int .i64 x21), (22, .int .i64 x22)] ∧ R7 x0 a3 n3 c3 e3 a20 n20 c20 e20 x21 x22 h := by
  unfold E7 at hi
  have hi0 := hi
  clear hi
  obtain ⟨v, env, rfl, hi1⟩ := eVal_elim hi0
  obtain ⟨x0, rfl, hi2⟩ := eInt_elim hi1
  obtain ⟨v, env, rfl, hi3⟩ := eVal_elim hi2
  obtain ⟨a3, n3, c3, e3, rfl, hi4⟩ := xSl_elim hi3
  obtain ⟨v, env, rfl, hi5⟩ := eVal_elim hi4
  obtain ⟨a20, n20, c20, e20, rfl, hi6⟩ := xSl_elim hi5
  obtain ⟨v, env, rfl, hi7⟩ := eVal_elim hi6
  obtain ⟨x21, rfl, hi8⟩ := eInt_elim hi7
  obtain ⟨v, env, rfl, hi9⟩ := eVal_elim hi8
  obtain ⟨x22, rfl, hi10⟩ := eInt_elim hi9
  obtain ⟨rfl, hi11⟩ := eNil_elim hi10
  have hi := hi11
  exact ⟨x0, a3, n3, c3, e3, a20, n20, c20, e20, x21, x22, rfl, hi⟩
abbrev T10 := Int → Pt → Nat → Nat → Bool → List Nat → Pt → Nat → Nat → Bool → Int → Int → Pt → Nat → Nat → Bool → Int → Int → AHeap → Prop
def E10 (R10 : T10) (env : Env) (h : AHeap) : Prop := eVal 0 env fun v env => eInt .i64 v fun x0 => eVal 3 env fun v env => xSl (some v) fun a3 n3 c3 e3 => eVal 5 env fun v env => xStr (some v) fun x5 => eVal 20 env fun v env => xSl (some v) fun a20 n20 c20 e20 => eVal 21 env fun v env => eInt .i64 v fun x21 => eVal 22 env fun v env => eInt .i64 v fun x22 => eVal 28 env fun v env => xSl (some v) fun a28 n28 c28 e28 => eVal 29 env fun v env => eInt .i64 v fun x29 => eVal 30 env fun v env => eInt .i64 v fun x30 => eNil env (R10 x0 a3 n3 c3 e3 x5 a20 n20 c20 e20 x21 x22 a28 n28 c28 e28 x29 x30 h)
theorem E10elim {R10 : T10} {env : Env} {h : AHeap} (hi : E10 R10 env h) : ∃ x0, ∃ a3, ∃ n3, ∃ c3, ∃ e3, ∃ x5, ∃ a20, ∃ n20, ∃ c20, ∃ e20, ∃ x21, ∃ x22, ∃ a28, ∃ n28, ∃ c28, ∃ e28, ∃ x29, ∃ x30, env = [(0, .int .i64 x0), (3, .slice a3 n3 c3 e3), (5, .str x5), (20, .slice a20 n20 c20 e20), (21, .int .i64 x21), (22, .int .i64 x22), (28, .slice a28 n28 c28 e28), (29, .int .i64 x29), (30, .int .i64 x30)] ∧ R10 x0 a3 n3 c3 e3 x5 a20 n20 c20 e20 x21 x22 a28 n28 c28 e28 x29 x30 h := by
  unfold E10 at hi
  have hi0 := hi
  clear hi
  obtain ⟨v, env, rfl, hi1⟩ := eVal_elim hi0
  obtain ⟨x0, rfl, hi2⟩ := eInt_elim hi1
  obtain ⟨v, env, rfl, hi3⟩ := eVal_elim hi2
  obtain ⟨a3, n3, c3, e3, rfl, hi4⟩ := xSl_elim hi3
  obtain ⟨v, env, rfl, hi5⟩ := eVal_elim hi4
  obtain ⟨x5, rfl, hi6⟩ := xStr_elim hi5
  obtain ⟨v, env, rfl, hi7⟩ := eVal_elim hi6
  obtain ⟨a20, n20, c20, e20, rfl, hi8⟩ := xSl_elim hi7
  obtain ⟨v, env, rfl, hi9⟩ := eVal_elim hi8
  obtain ⟨x21, rfl, hi10⟩ := eInt_elim hi9
  obtain ⟨v, env, rfl, hi11⟩ := eVal_elim hi10
  obtain ⟨x22, rfl, hi12⟩ := eInt_elim hi11
  obtain ⟨v, env, rfl, hi13⟩ := eVal_elim hi12
  obtain ⟨a28, n28, c28, e28, rfl, hi14⟩ := xSl_elim hi13
  obtain ⟨v, env, rfl, hi15⟩ := eVal_elim hi14
  obtain ⟨x29, rfl, hi16⟩ := eInt_elim hi15
  obtain ⟨v, env, rfl, hi17⟩ := eVal_elim hi16
  obtain ⟨x30, rfl, hi18⟩ := eInt_elim hi17
  obtain ⟨rfl, hi19⟩ := eNil_elim hi18
  have hi := hi19
  exact ⟨x0, a3, n3, c3, e3, x5, a20, n20, c20, e20, x21, x22, a28, n28, c28, e28, x29, x30, rfl, hi⟩
abbrev T16 := Int → Pt → Nat → Nat → Bool → Int → AHeap → Prop
def E16 (R16 : T16) (env : Env) (h : AHeap) : Prop := eVal 0 env fun v env => eInt .i64 v fun x0 => eVal 3 env fun v env => xSl (some v) fun a3 n3 c3 e3 => eVal 8 env fun v env => eInt .i64 v fun x8 => eNil env (R16 x0 a3 n3 c3 e3 x8 h)
theorem E16elim {R16 : T16} {env : Env} {h : AHeap} (hi : E16 R16 env h) : ∃ x0, ∃ a3, ∃ n3, ∃ c3, ∃ e3, ∃ x8, env = [(0, .int .i64 x0), (3, .slice a3 n3 c3 e3), (8, .int .i64 x8)] ∧ R16 x0 a3 n3 c3 e3 x8 h := by
  unfold E16 at hi
  have hi0 := hi
  clear hi
  obtain ⟨v, env, rfl, hi1⟩ := eVal_elim hi0
  obtain ⟨x0, rfl, hi2⟩ := eInt_elim hi1
  obtain ⟨v, env, rfl, hi3⟩ := eVal_elim hi2
  obtain ⟨a3, n3, c3, e3, rfl, hi4⟩ := xSl_elim hi3
  obtain ⟨v, env, rfl, hi5⟩ := eVal_elim hi4
  obtain ⟨x8, rfl, hi6⟩ := eInt_elim hi5
  obtain ⟨rfl, hi7⟩ := eNil_elim hi6
  have hi := hi7
  exact ⟨x0, a3, n3, c3, e3, x8, rfl, hi⟩
abbrev T19 := Int → Pt → Nat → Nat → Bool → Int → Pt → Nat → Nat → Bool → Int → Int → AHeap → Prop
def E19 (R19 : T19) (env : Env) (h : AHeap) : Prop := eVal 0 env fun v env => eInt .i64 v fun x0 => eVal 3 env fun v env => xSl (some v) fun a3 n3 c3 e3 => eVal 8 env fun v env => eInt .i64 v fun x8 => eVal 51 env fun v env => xSl (some v) fun a51 n51 c51 e51 => eVal 52 env fun v env => eInt .i64 v fun x52 => eVal 53 env fun v env => eInt .i64 v fun x53 => eNil env (R19 x0 a3 n3 c3 e3 x8 a51 n51 c51 e51 x52 x53 h)
theorem E19elim {R19 : T19} {env : Env} {h : AHeap} (hi : E19 R19 env h) : ∃ x0, ∃ a3, ∃ n3, ∃ c3, ∃ e3, ∃ x8, ∃ a51, ∃ n51, ∃ c51, ∃ e51, ∃ x52, ∃ x53, env = [(0, .int .i64 x0), (3, .slice a3 n3 c3 e3), (8, .int .i64 x8), (51, .slice a51 n51 c51 e51), (52, .int .i64 x52), (53, .int .i64 x53)] ∧ R19 x0 a3 n3 c3 e3 x8 a51 n51 c51 e51 x52 x53 h := by
  unfold E19 at hi
  have hi0 := hi
  clear hi
  obtain ⟨v, env, rfl, hi1⟩ := eVal_elim hi0
  obtain ⟨x0, rfl, hi2⟩ := eInt_elim hi1
  obtain ⟨v, env, rfl, hi3⟩ := eVal_elim hi2
  obtain ⟨a3, n3, c3, e3, rfl, hi4⟩ := xSl_elim hi3
  obtain ⟨v, env, rfl, hi5⟩ := eVal_elim hi4
  obtain ⟨x8, rfl, hi6⟩ := eInt_elim hi5
  obtain ⟨v, env, rfl, hi7⟩ := eVal_elim hi6
  obtain ⟨a51, n51, c51, e51, rfl, hi8⟩ := xSl_elim hi7
  obtain ⟨v, env, rfl, hi9⟩ := eVal_elim hi8
  obtain ⟨x52, rfl, hi10⟩ := eInt_elim hi9
  obtain ⟨v, env, rfl, hi11⟩ := eVal_elim hi10
  obtain ⟨x53, rfl, hi12⟩ := eInt_elim hi11
  obtain ⟨rfl, hi13⟩ := eNil_elim hi12
  have hi := hi13
  exact ⟨x0, a3, n3, c3, e3, x8, a51, n51, c51, e51, x52, x53, rfl, hi⟩
abbrev T22 := Int → Pt → Nat → Nat → Bool → Int → List Nat → Pt → Nat → Nat → Bool → Int → Int → Pt → Nat → Nat → Bool → Int → Int → AHeap → Prop
def E22 (R22 : T22) (env : Env) (h : AHeap) : Prop := eVal 0 env fun v env => eInt .i64 v fun x0 => eVal 3 env fun v env => xSl (some v) fun a3 n3 c3 e3 => eVal 8 env fun v env => eInt .i64 v fun x8 => eVal 10 env fun v env => xStr (some v) fun x10 => eVal 51 env fun v env => xSl (some v) fun a51 n51 c51 e51 => eVal 52 env fun v env => eInt .i64 v fun x52 => eVal 53 env fun v env => eInt .i64 v fun x53 => eVal 61 env fun v env => xSl (some v) fun a61 n61 c61 e61 => eVal 62 env fun v env => eInt .i64 v fun x62 => eVal 63 env fun v env => eInt .i64 v fun x63 => eNil env (R22 x0 a3 n3 c3 e3 x8 x10 a51 n51 c51 e51 x52 x53 a61 n61 c61 e61 x62 x63 h)
theorem E22elim {R22 : T22} {env : Env} {h : AHeap} (hi : E22 R22 env h) : ∃ x0, ∃ a3, ∃ n3, ∃ c3, ∃ e3, ∃ x8, ∃ x10, ∃ a51, ∃ n51, ∃ c51, ∃ e51, ∃ x52, ∃ x53, ∃ a61, ∃ n61, ∃ c61, ∃ e61, ∃ x62, ∃ x63, env = [(0, .int .i64 x0), (3, .slice a3 n3 c3 e3), (8, .int .i64 x8), (10, .str x10), (51, .slice a51 n51 c51 e51), (52, .int .i64 x52), (53, .int .i64 x53), (61, .slice a61 n61 c61 e61), (62, .int .i64 x62), (63, .int .i64 x63)] ∧ R22 x0 a3 n3 c3 e3 x8 x10 a51 n51 c51 e51 x52 x53 a61 n61 c61 e61 x62 x63 h := by
  unfold E22 at hi
  have hi0 := hi
  clear hi
  obtain ⟨v, env, rfl, hi1⟩ := eVal_elim hi0
  obtain ⟨x0, rfl, hi2⟩ := eInt_elim hi1
  obtain ⟨v, env, rfl, hi3⟩ := eVal_elim hi2
  obtain ⟨a3, n3, c3, e3, rfl, hi4⟩ := xSl_elim hi3
  obtain ⟨v, env, rfl, hi5⟩ := eVal_elim hi4
  obtain ⟨x8, rfl, hi6⟩ := eInt_elim hi5
  obtain ⟨v, env, rfl, hi7⟩ := eVal_elim hi6
  obtain ⟨x10, rfl, hi8⟩ := xStr_elim hi7
  obtain ⟨v, env, rfl, hi9⟩ := eVal_elim hi8
  obtain ⟨a51, n51, c51, e51, rfl, hi10⟩ := xSl_elim hi9
  obtain ⟨v, env, rfl, hi11⟩ := eVal_elim hi10
  obtain ⟨x52, rfl, hi12⟩ := eInt_elim hi11
  obtain ⟨v, env, rfl, hi13⟩ := eVal_elim hi12
  obtain ⟨x53, rfl, hi14⟩ := eInt_elim hi13
  obtain ⟨v, env, rfl, hi15⟩ := eVal_elim hi14
  obtain ⟨a61, n61, c61, e61, rfl, hi16⟩ := xSl_elim hi15
  obtain ⟨v, env, rfl, hi17⟩ := eVal_elim hi16
  obtain ⟨x62, rfl, hi18⟩ := eInt_elim hi17
  obtain ⟨v, env, rfl, hi19⟩ := eVal_elim hi18
  obtain ⟨x63, rfl, hi20⟩ := eInt_elim hi19
  obtain ⟨rfl, hi21⟩ := eNil_elim hi20
  have hi := hi21
  exact ⟨x0, a3, n3, c3, e3, x8, x10, a51, n51, c51, e51, x52, x53, a61, n61, c61, e61, x62, x63, rfl, hi⟩
def K0 (Q : QT) : KT := andThen (fun env' h' => (match kp.find 4000015 with | some ks => Den pg fn.ntmps (C [1, 1, 1, 1, 1]) (env'.keep ks) h' (KR Q) | none => den pg fn.ntmps kp (C [1, 1, 1, 1, 1]) env' h' (KR Q))) (KR Q)
def K1 (Q : QT) : KT := onExit 0 (K0 Q)
def K2 (Q : QT) : KT := left kp 7 (K1 Q)
def K3 (Q : QT) (R7 : T7) : KT := rnd ((kp.find 1000007).getD []) (E7 R7) (K2 Q)
def K4 (Q : QT) (R7 : T7) : KT := andThen (fun env' h' => (match kp.find 4000014 with | some ks => Den pg fn.ntmps (C [1, 1, 1, 1, 0, 1, 0, 0, 1, 1, 1]) (env'.keep ks) h' (K3 Q R7) | none => den pg fn.ntmps kp (C [1, 1, 1, 1, 0, 1, 0, 0, 1, 1, 1]) env' h' (K3 Q R7))) (K3 Q R7)
def K5 (Q : QT) (R7 : T7) : KT := onExit 1 (K4 Q R7)
def K6 (Q : QT) (R7 : T7) : KT := onExit 2 (K5 Q R7)
def K7 (Q : QT) (R7 : T7) : KT := left kp 10 (K6 Q R7)
def K8 (Q : QT) (R7 : T7) (R10 : T10) : KT := rnd ((kp.find 1000010).getD []) (E10 R10) (K7 Q R7)
def K9 (Q : QT) : KT := andThen (fun env' h' => (match kp.find 4000027 with | some ks => Den pg fn.ntmps (C [1, 1, 1, 1, 1, 1]) (env'.keep ks) h' (KR Q) | none => den pg fn.ntmps kp (C [1, 1, 1, 1, 1, 1]) env' h' (KR Q))) (KR Q)
def K10 (Q : QT) : KT := onExit 4 (K9 Q)
def K11 (Q : QT) : KT := left kp 16 (K10 Q)
def K12 (Q : QT) (R16 : T16) : KT := rnd ((kp.find 1000016).getD []) (E16 R16) (K11 Q)
def K13 (Q : QT) (R16 : T16) : KT := andThen (fun env' h' => (match kp.find 4000017 with | some ks => Den pg fn.ntmps (C [1, 1, 1, 1, 1, 0, 1, 0, 0, 1, 1]) (env'.keep ks) h' (K12 Q R16) | none => den pg fn.ntmps kp (C [1, 1, 1, 1, 1, 0, 1, 0, 0, 1, 1]) env' h' (K12 Q R16))) (K12 Q R16)
def K14 (Q : QT) (R16 : T16) : KT := onExit 5 (K13 Q R16)
def K15 (Q : QT) (R16 : T16) : KT := onExit 6 (K14 Q R16)
def K16 (Q : QT) (R16 : T16) : KT := left kp 19 (K15 Q R16)
def K17 (Q : QT) (R16 : T16) (R19 : T19) : KT := rnd ((kp.find 1000019).getD []) (E19 R19) (K16 Q R16)
def K18 (Q : QT) (R16 : T16) (R19 : T19) : KT := andThen (fun env' h' => (match kp.find 4000026 with | some ks => Den pg fn.ntmps (C [1, 1, 1, 1, 1, 0, 1, 0, 0, 1, 0, 0, 1, 0, 0, 1, 1, 1]) (env'.keep ks) h' (K17 Q R16 R19) | none => den pg fn.ntmps kp (C [1, 1, 1, 1, 1, 0, 1, 0, 0, 1, 0, 0, 1, 0, 0, 1, 1, 1]) env' h' (K17 Q R16 R19))) (K17 Q R16 R19)
def K19 (Q : QT) (R16 : T16) (R19 : T19) : KT := onExit 7 (K18 Q R16 R19)
def K20 (Q : QT) (R16 : T16) (R19 : T19) : KT := onExit 8 (K19 Q R16 R19)
def K21 (Q : QT) (R16 : T16) (R19 : T19) : KT := left kp 22 (K20 Q R16 R19)
def K22 (Q : QT) (R16 : T16) (R19 : T19) (R22 : T22) : KT := rnd ((kp.find 1000022).getD []) (E22 R22) (K21 Q R16 R19)
def L7 (Q : QT) (x0 : Int) (a3 : Pt) (n3 c3 : Nat) (e3 : Bool) (a20 : Pt) (n20 c20 : Nat) (e20 : Bool) (x21 x22 : Int) (h : AHeap) : Prop := Loop (Den pg fn.ntmps (C [1, 1, 1, 1, 0, 1, 0, 0])) ((kp.find 1000007).getD []) (K2 Q) [(0, .int .i64 x0), (3, .slice a3 n3 c3 e3), (20, .slice a20 n20 c20 e20), (21, .int .i64 x21), (22, .int .i64 x22)] h
def L10 (Q : QT) (R7 : T7) (x0 : Int) (a3 : Pt) (n3 c3 : Nat) (e3 : Bool) (x5 : List Nat) (a20 : Pt) (n20 c20 : Nat) (e20 : Bool) (x21 x22 : Int) (a28 : Pt) (n28 c28 : Nat) (e28 : Bool) (x29 x30 : Int) (h : AHeap) : Prop := Loop (Den pg fn.ntmps (C [1, 1, 1, 1, 0, 1, 0, 0, 1, 1, 0, 0, 1, 1, 0, 0])) ((kp.find 1000010).getD []) (K7 Q R7) [(0, .int .i64 x0), (3, .slice a3 n3 c3 e3), (5, .str x5), (20, .slice a20 n20 c20 e20), (21, .int .i64 x21), (22, .int .i64 x22), (28, .slice a28 n28 c28 e28), (29, .int .i64 x29), (30, .int .i64 x30)] h
def A7x0 (Q : QT) (x0 : Int) (a3 : Pt) (n3 c3 : Nat) (e3 : Bool) (h : AHeap) : Prop := At (K1 Q) (.exit 0) [(0, .int .i64 x0), (3, .slice a3 n3 c3 e3)] h
def A10x2 (Q : QT) (R7 : T7) (x22 x21 : Int) (a20 : Pt) (n20 c20 : Nat) (e20 : Bool) (x0 : Int) (a3 : Pt) (n3 c3 : Nat) (e3 : Bool) (h : AHeap) : Prop := At (K6 Q R7) (.exit 2) [(22, .int .i64 x22), (21, .int .i64 x21), (20, .slice a20 n20 c20 e20), (0, .int .i64 x0), (3, .slice a3 n3 c3 e3)] h
def L16 (Q : QT) (x0 : Int) (a3 : Pt) (n3 c3 : Nat) (e3 : Bool) (x8 : Int) (h : AHeap) : Prop := Loop (Den pg fn.ntmps (C [1, 1, 1, 1, 1, 0, 1, 0, 0])) ((kp.find 1000016).getD []) (K11 Q) [(0, .int .i64 x0), (3, .slice a3 n3 c3 e3), (8, .int .i64 x8)] h
def L19 (Q : QT) (R16 : T16) (x0 : Int) (a3 : Pt) (n3 c3 : Nat) (e3 : Bool) (x8 : Int) (a51 : Pt) (n51 c51 : Nat) (e51 : Bool) (x52 x53 : Int) (h : AHeap) : Prop := Loop (Den pg fn.ntmps (C [1, 1, 1, 1, 1, 0, 1, 0, 0, 1, 0, 0, 1, 0, 0])) ((kp.find 1000019).getD []) (K16 Q R16) [(0, .int .i64 x0), (3, .slice a3 n3 c3 e3), (8, .int .i64 x8), (51, .slice a51 n51 c51 e51), (52, .int .i64 x52), (53, .int .i64 x53)] h
def A16x4 (Q : QT) (a3 : Pt) (n3 c3 : Nat) (e3 : Bool) (h : AHeap) : Prop := At (K10 Q) (.exit 4) [(3, .slice a3 n3 c3 e3)] h
def L22 (Q : QT) (R16 : T16) (R19 : T19) (x0 : Int) (a3 : Pt) (n3 c3 : Nat) (e3 : Bool) (x8 : Int) (x10 : List Nat) (a51 : Pt) (n51 c51 : Nat) (e51 : Bool) (x52 x53 : Int) (a61 : Pt) (n61 c61 : Nat) (e61 : Bool) (x62 x63 : Int) (h : AHeap) : Prop := Loop (Den pg fn.ntmps (C [1, 1, 1, 1, 1, 0, 1, 0, 0, 1, 0, 0, 1, 0, 0, 1, 1, 0, 0, 1, 1, 0, 0])) ((kp.find 1000022).getD []) (K21 Q R16 R19) [(0, .int .i64 x0), (3, .slice a3 n3 c3 e3), (8, .int .i64 x8), (10, .str x10), (51, .slice a51 n51 c51 e51), (52, .int .i64 x52), (53, .int .i64 x53), (61, .slice a61 n61 c61 e61), (62, .int .i64 x62), (63, .int .i64 x63)] h
def A19x6 (Q : QT) (R16 : T16) (x8 x0 : Int) (a3 : Pt) (n3 c3 : Nat) (e3 : Bool) (h : AHeap) : Prop := At (K15 Q R16) (.exit 6) [(8, .int .i64 x8), (0, .int .i64 x0), (3, .slice a3 n3 c3 e3)] h
def A22x8 (Q : QT) (R16 : T16) (R19 : T19) (x53 x52 : Int) (a51 : Pt) (n51 c51 : Nat) (e51 : Bool) (x0 x8 : Int) (a3 : Pt) (n3 c3 : Nat) (e3 : Bool) (h : AHeap) : Prop := At (K20 Q R16 R19) (.exit 8) [(53, .int .i64 x53), (52, .int .i64 x52), (51, .slice a51 n51 c51 e51), (0, .int .i64 x0), (8, .int .i64 x8), (3, .slice a3 n3 c3 e3)] h
def L7t (Q : QT) (R7 : T7) (x0 : Int) (a3 : Pt) (n3 c3 : Nat) (e3 : Bool) (a20 : Pt) (n20 c20 : Nat) (e20 : Bool) (x21 x22 : Int) (h : AHeap) : Prop :=
 bcase (decide ((x22 : Int) < x21)) ((0 ≤ (x22 : Int) ∧ (x22 : Int) < (n20 : Nat)) ∧ (xSome a20 fun i_3 o_4 => xStr (hCell h (.ptr (some (i_3, o_4 + (Int.toNat x22) * 1)))) fun s_5 => SCall pg n_spec_l11Types [.int .i64 (IntKind.wrap .i64 (x0 - 1))] h fun v_6 h_7 =>
 xSl (some v_6) fun a_8 n_9 c_10 e_11 => L10 Q R7 x0 a3 n3 c3 e3 s_5 a20 n20 c20 e20 x21 x22 a_8 n_9 c_10 e_11 (((n_9 : Nat) : Int)) 0 h_7)) (A7x0 Q x0 a3 n3 c3 e3 h)
theorem L7den (Q : QT) (R7 : T7) (x0 : Int) (a3 : Pt) (n3 c3 : Nat) (e3 : Bool) (a20 : Pt) (n20 c20 : Nat) (e20 : Bool) (x21 x22 : Int) (h : AHeap) (ht : L7t Q R7 x0 a3 n3 c3 e3 a20 n20 c20 e20 x21 x22 h) : Den pg fn.ntmps (C [1, 1, 1, 1, 0, 1, 0, 0]) [(0, .int .i64 x0), (3, .slice a3 n3 c3 e3), (20, .slice a20 n20 c20 e20), (21, .int .i64 x21), (22, .int .i64 x22)] h (K3 Q R7) :=
  den_Den (kp := kp) (@cast _ (den pg fn.ntmps kp (C [1, 1, 1, 1, 0, 1, 0, 0]) [(0, .int .i64 x0), (3, .slice a3 n3 c3 e3), (20, .slice a20 n20 c20 e20), (21, .int .i64 x21), (22, .int .i64 x22)] h (K3 Q R7)) (by kernel_rfl) ht)
theorem L7ind (Q : QT) (x0 : Int) (a20 : Pt) (n20 c20 : Nat) (e20 : Bool) (x21 : Int) {G : Type} (J : G → Pt → Nat → Nat → Bool → Int → AHeap → Prop) (m : G → Nat)
 (hr : ∀ (g : G) (a3 : Pt) (n3 c3 : Nat) (e3 : Bool) (x22 : Int) (h : AHeap), J g a3 n3 c3 e3 x22 h → ∀ (R7 : T7), (∀ g' (a3 : Pt) (n3 c3 : Nat) (e3 : Bool) (x22 : Int) (h : AHeap), m g' < m g → J g' a3 n3 c3 e3 x22 h → R7 x0 a3 n3 c3 e3 a20 n20 c20 e20 x21 x22 h) → L7t Q R7 x0 a3 n3 c3 e3 a20 n20 c20 e20 x21 x22 h)
 (g : G) (a3 : Pt) (n3 c3 : Nat) (e3 : Bool) (x22 : Int) (h : AHeap) (hj : J g a3 n3 c3 e3 x22 h) : L7 Q x0 a3 n3 c3 e3 a20 n20 c20 e20 x21 x22 h := by
  refine Loop.inv2 (fun g => E7 fun x0' a3 n3 c3 e3 a20' n20' c20' e20' x21' x22 h => x0 = x0' ∧ a20 = a20' ∧ n20 = n20' ∧ c20 = c20' ∧ e20 = e20' ∧ x21 = x21' ∧ J g a3 n3 c3 e3 x22 h) (fun g => E7 fun x0' a3 n3 c3 e3 a20' n20' c20' e20' x21' x22 h => x0 = x0' ∧ a20 = a20' ∧ n20 = n20' ∧ c20 = c20' ∧ e20 = e20' ∧ x21 = x21' ∧ ∃ g', m g' < m g ∧ J g' a3 n3 c3 e3 x22 h) m ?_ ?_ g ⟨rfl, rfl, rfl, rfl, rfl, rfl, hj⟩
  · intro g env h hi
    obtain ⟨x0', a3, n3, c3, e3, a20', n20', c20', e20', x21', x22, rfl, rfl, rfl, rfl, rfl, rfl, rfl, hj⟩ := E7elim hi
    exact L7den Q (fun x0' a3 n3 c3 e3 a20' n20' c20' e20' x21' x22 h => x0 = x0' ∧ a20 = a20' ∧ n20 = n20' ∧ c20 = c20' ∧ e20 = e20' ∧ x21 = x21' ∧ ∃ g', m g' < m g ∧ J g' a3 n3 c3 e3 x22 h) x0 a3 n3 c3 e3 a20 n20 c20 e20 x21 x22 h (hr g a3 n3 c3 e3 x22 h hj (fun x0' a3 n3 c3 e3 a20' n20' c20' e20' x21' x22 h => x0 = x0' ∧ a20 = a20' ∧ n20 = n20' ∧ c20 = c20' ∧ e20 = e20' ∧ x21 = x21' ∧ ∃ g', m g' < m g ∧ J g' a3 n3 c3 e3 x22 h) fun g' a3 n3 c3 e3 x22 h hlt hj => ⟨rfl, rfl, rfl, rfl, rfl, rfl, g', hlt, hj⟩)
  · intro g env h hi
    obtain ⟨x0', a3, n3, c3, e3, a20', n20', c20', e20', x21', x22, rfl, rfl, rfl, rfl, rfl, rfl, rfl, g', hlt, hj⟩ := E7elim hi
    exact ⟨g', hlt, rfl, rfl, rfl, rfl, rfl, rfl, hj⟩
def L10t (Q : QT) (R7 : T7) (R10 : T10) (x0 : Int) (a3 : Pt) (n3 c3 : Nat) (e3 : Bool) (x5 : List Nat) (a20 : Pt) (n20 c20 : Nat) (e20 : Bool) (x21 x22 : Int) (a28 : Pt) (n28 c28 : Nat) (e28 : Bool) (x29 x30 : Int) (h : AHeap) : Prop :=
 bcase (decide ((x30 : Int) < x29)) ((0 ≤ (x30 : Int) ∧ (x30 : Int) < (n28 : Nat)) ∧ (xSome a28 fun i_12 o_13 => xStr (hCell h (.ptr (some (i_12, o_13 + (Int.toNat x30) * 1)))) fun s_14 => List.length x5 + List.length [40] ≤ 9223372036854775807 ∧ (List.length (x5 ++ [40]) + List.length s_14 ≤ 9223372036854775807 ∧ (List.length ((x5 ++ [40]) ++ s_14) + List.length [41] ≤ 9223372036854775807 ∧ (letH (h ++ [.cells t_string [.str (((x5 ++ [40]) ++ s_14) ++ [41])] false]) fun h_15 => appendA pg t_L_string h_15 (.slice a3 n3 c3 e3) (.slice (some (List.length h, 0)) 1 1 true) fun v_16 h_17 => xSl (some v_16) fun a_18 n_19 c_20 e_21 => R10 x0 a_18 n_19 c_20 e_21 x5 a20 n20 c20 e20 x21 x22 a28 n28 c28 e28 x29 (IntKind.wrap .i64 (x30 + 1)) h_17))))) (A10x2 Q R7 x22 x21 a20 n20 c20 e20 x0 a3 n3 c3 e3 h)
theorem L10den (Q : QT) (R7 : T7) (R10 : T10) (x0 : Int) (a3 : Pt) (n3 c3 : Nat) (e3 : Bool) (x5 : List Nat) (a20 : Pt) (n20 c20 : Nat) (e20 : Bool) (x21 x22 : Int) (a28 : Pt) (n28 c28 : Nat) (e28 : Bool) (x29 x30 : Int) (h : AHeap) (ht : L10t Q R7 R10 x0 a3 n3 c3 e3 x5 a20 n20 c20 e20 x21 x22 a28 n28 c28 e28 x29 x30 h) : Den pg fn.ntmps (C [1, 1, 1, 1, 0, 1, 0, 0, 1, 1, 0, 0, 1, 1, 0, 0]) [(0, .int .i64 x0), (3, .slice a3 n3 c3 e3), (5, .str x5), (20, .slice a20 n20 c20 e20), (21, .int .i64 x21), (22, .int .i64 x22), (28, .slice a28 n28 c28 e28), (29, .int .i64 x29), (30, .int .i64 x30)] h (K8 Q R7 R10) :=
  den_Den (kp := kp) (@cast _ (den pg fn.ntmps kp (C [1, 1, 1, 1, 0, 1, 0, 0, 1, 1, 0, 0, 1, 1, 0, 0]) [(0, .int .i64 x0), (3, .slice a3 n3 c3 e3), (5, .str x5), (20, .slice a20 n20 c20 e20), (21, .int .i64 x21), (22, .int .i64 x22), (28, .slice a28 n28 c28 e28), (29, .int .i64 x29), (30, .int .i64 x30)] h (K8 Q R7 R10)) (by kernel_rfl) ht)
theorem L10ind (Q : QT) (R7 : T7) (x0 : Int) (x5 : List Nat) (a20 : Pt) (n20 c20 : Nat) (e20 : Bool) (x21 x22 : Int) (a28 : Pt) (n28 c28 : Nat) (e28 : Bool) (x29 : Int) {G : Type} (J : G → Pt → Nat → Nat → Bool → Int → AHeap → Prop) (m : G → Nat)
 (hr : ∀ (g : G) (a3 : Pt) (n3 c3 : Nat) (e3 : Bool) (x30 : Int) (h : AHeap), J g a3 n3 c3 e3 x30 h → ∀ (R10 : T10), (∀ g' (a3 : Pt) (n3 c3 : Nat) (e3 : Bool) (x30 : Int) (h : AHeap), m g' < m g → J g' a3 n3 c3 e3 x30 h → R10 x0 a3 n3 c3 e3 x5 a20 n20 c20 e20 x21 x22 a28 n28 c28 e28 x29 x30 h) → L10t Q R7 R10 x0 a3 n3 c3 e3 x5 a20 n20 c20 e20 x21 x22 a28 n28 c28 e28 x29 x30 h)
 (g : G) (a3 : Pt) (n3 c3 : Nat) (e3 : Bool) (x30 : Int) (h : AHeap) (hj : J g a3 n3 c3 e3 x30 h) : L10 Q R7 x0 a3 n3 c3 e3 x5 a20 n20 c20 e20 x21 x22 a28 n28 c28 e28 x29 x30 h := by
  refine Loop.inv2 (fun g => E10 fun x0' a3 n3 c3 e3 x5' a20' n20' c20' e20' x21' x22' a28' n28' c28' e28' x29' x30 h => x0 = x0' ∧ x5 = x5' ∧ a20 = a20' ∧ n20 = n20' ∧ c20 = c20' ∧ e20 = e20' ∧ x21 = x21' ∧ x22 = x22' ∧ a28 = a28' ∧ n28 = n28' ∧ c28 = c28' ∧ e28 = e28' ∧ x29 = x29' ∧ J g a3 n3 c3 e3 x30 h) (fun g => E10 fun x0' a3 n3 c3 e3 x5' a20' n20' c20' e20' x21' x22' a28' n28' c28' e28' x29' x30 h => x0 = x0' ∧ x5 = x5' ∧ a20 = a20' ∧ n20 = n20' ∧ c20 = c20' ∧ e20 = e20' ∧ x21 = x21' ∧ x22 = x22' ∧ a28 = a28' ∧ n28 = n28' ∧ c28 = c28' ∧ e28 = e28' ∧ x29 = x29' ∧ ∃ g', m g' < m g ∧ J g' a3 n3 c3 e3 x30 h) m ?_ ?_ g ⟨rfl, rfl, rfl, rfl, rfl, rfl, rfl, rfl, rfl, rfl, rfl, rfl, rfl, hj⟩
  · intro g env h hi
    obtain ⟨x0', a3, n3, c3, e3, x5', a20', n20', c20', e20', x21', x22', a28', n28', c28', e28', x29', x30, rfl, rfl, rfl, rfl, rfl, rfl, rfl, rfl, rfl, rfl, rfl, rfl, rfl, rfl, hj⟩ := E10elim hi
    exact L10den Q R7 (fun x0' a3 n3 c3 e3 x5' a20' n20' c20' e20' x21' x22' a28' n28' c28' e28' x29' x30 h => x0 = x0' ∧ x5 = x5' ∧ a20 = a20' ∧ n20 = n20' ∧ c20 = c20' ∧ e20 = e20' ∧ x21 = x21' ∧ x22 = x22' ∧ a28 = a28' ∧ n28 = n28' ∧ c28 = c28' ∧ e28 = e28' ∧ x29 = x29' ∧ ∃ g', m g' < m g ∧ J g' a3 n3 c3 e3 x30 h) x0 a3 n3 c3 e3 x5 a20 n20 c20 e20 x21 x22 a28 n28 c28 e28 x29 x30 h (hr g a3 n3 c3 e3 x30 h hj (fun x0' a3 n3 c3 e3 x5' a20' n20' c20' e20' x21' x22' a28' n28' c28' e28' x29' x30 h => x0 = x0' ∧ x5 = x5' ∧ a20 = a20' ∧ n20 = n20' ∧ c20 = c20' ∧ e20 = e20' ∧ x21 = x21' ∧ x22 = x22' ∧ a28 = a28' ∧ n28 = n28' ∧ c28 = c28' ∧ e28 = e28' ∧ x29 = x29' ∧ ∃ g', m g' < m g ∧ J g' a3 n3 c3 e3 x30 h) fun g' a3 n3 c3 e3 x30 h hlt hj => ⟨rfl, rfl, rfl, rfl, rfl, rfl, rfl, rfl, rfl, rfl, rfl, rfl, rfl, g', hlt, hj⟩)
  · intro g env h hi
    obtain ⟨x0', a3, n3, c3, e3, x5', a20', n20', c20', e20', x21', x22', a28', n28', c28', e28', x29', x30, rfl, rfl, rfl, rfl, rfl, rfl, rfl, rfl, rfl, rfl, rfl, rfl, rfl, rfl, g', hlt, hj⟩ := E10elim hi
    exact ⟨g', hlt, rfl, rfl, rfl, rfl, rfl, rfl, rfl, rfl, rfl, rfl, rfl, rfl, rfl, hj⟩
theorem A7x0i (Q : QT) (x0 : Int) (a3 : Pt) (n3 c3 : Nat) (e3 : Bool) (h : AHeap) (ht :
 L16 Q x0 a3 n3 c3 e3 1 h) : A7x0 Q x0 a3 n3 c3 e3 h :=
  At.mk (@cast _ ((K1 Q) (.exit 0) [(0, .int .i64 x0), (3, .slice a3 n3 c3 e3)] h) (by kernel_rfl) ht)
theorem A10x2i (Q : QT) (R7 : T7) (x22 x21 : Int) (a20 : Pt) (n20 c20 : Nat) (e20 : Bool) (x0 : Int) (a3 : Pt) (n3 c3 : Nat) (e3 : Bool) (h : AHeap) (ht :
 R7 x0 a3 n3 c3 e3 a20 n20 c20 e20 x21 (IntKind.wrap .i64 (x22 + 1)) h) : A10x2 Q R7 x22 x21 a20 n20 c20 e20 x0 a3 n3 c3 e3 h :=
  At.mk (@cast _ ((K6 Q R7) (.exit 2) [(22, .int .i64 x22), (21, .int .i64 x21), (20, .slice a20 n20 c20 e20), (0, .int .i64 x0), (3, .slice a3 n3 c3 e3)] h) (by kernel_rfl) ht)
def L16t (Q : QT) (R16 : T16) (x0 : Int) (a3 : Pt) (n3 c3 : Nat) (e3 : Bool) (x8 : Int) (h : AHeap) : Prop :=
 bcase (decide ((x8 : Int) < (IntKind.wrap .i64 (x0 - 1)))) (SCall pg n_spec_l11Types [.int .i64 x8] h fun v_22 h_23 =>
 xSl (some v_22) fun a_24 n_25 c_26 e_27 => L19 Q R16 x0 a3 n3 c3 e3 x8 a_24 n_25 c_26 e_27 (((n_25 : Nat) : Int)) 0 h_23) (A16x4 Q a3 n3 c3 e3 h)
theorem L16den (Q : QT) (R16 : T16) (x0 : Int) (a3 : Pt) (n3 c3 : Nat) (e3 : Bool) (x8 : Int) (h : AHeap) (ht : L16t Q R16 x0 a3 n3 c3 e3 x8 h) : Den pg fn.ntmps (C [1, 1, 1, 1, 1, 0, 1, 0, 0]) [(0, .int .i64 x0), (3, .slice a3 n3 c3 e3), (8, .int .i64 x8)] h (K12 Q R16) :=
  den_Den (kp := kp) (@cast _ (den pg fn.ntmps kp (C [1, 1, 1, 1, 1, 0, 1, 0, 0]) [(0, .int .i64 x0), (3, .slice a3 n3 c3 e3), (8, .int .i64 x8)] h (K12 Q R16)) (by kernel_rfl) ht)
theorem L16ind (Q : QT) (x0 : Int) {G : Type} (J : G → Pt → Nat → Nat → Bool → Int → AHeap → Prop) (m : G → Nat)
 (hr : ∀ (g : G) (a3 : Pt) (n3 c3 : Nat) (e3 : Bool) (x8 : Int) (h : AHeap), J g a3 n3 c3 e3 x8 h → ∀ (R16 : T16), (∀ g' (a3 : Pt) (n3 c3 : Nat) (e3 : Bool) (x8 : Int) (h : AHeap), m g' < m g → J g' a3 n3 c3 e3 x8 h → R16 x0 a3 n3 c3 e3 x8 h) → L16t Q R16 x0 a3 n3 c3 e3 x8 h)
 (g : G) (a3 : Pt) (n3 c3 : Nat) (e3 : Bool) (x8 : Int) (h : AHeap) (hj : J g a3 n3 c3 e3 x8 h) : L16 Q x0 a3 n3 c3 e3 x8 h := by
  refine Loop.inv2 (fun g => E16 fun x0' a3 n3 c3 e3 x8 h => x0 = x0' ∧ J g a3 n3 c3 e3 x8 h) (fun g => E16 fun x0' a3 n3 c3 e3 x8 h => x0 = x0' ∧ ∃ g', m g' < m g ∧ J g' a3 n3 c3 e3 x8 h) m ?_ ?_ g ⟨rfl, hj⟩
  · intro g env h hi
    obtain ⟨x0', a3, n3, c3, e3, x8, rfl, rfl, hj⟩ := E16elim hi
    exact L16den Q (fun x0' a3 n3 c3 e3 x8 h => x0 = x0' ∧ ∃ g', m g' < m g ∧ J g' a3 n3 c3 e3 x8 h) x0 a3 n3 c3 e3 x8 h (hr g a3 n3 c3 e3 x8 h hj (fun x0' a3 n3 c3 e3 x8 h => x0 = x0' ∧ ∃ g', m g' < m g ∧ J g' a3 n3 c3 e3 x8 h) fun g' a3 n3 c3 e3 x8 h hlt hj => ⟨rfl, g', hlt, hj⟩)
  · intro g env h hi
    obtain ⟨x0', a3, n3, c3, e3, x8, rfl, rfl, g', hlt, hj⟩ := E16elim hi
    exact ⟨g', hlt, rfl, hj⟩
def L19t (Q : QT) (R16 : T16) (R19 : T19) (x0 : Int) (a3 : Pt) (n3 c3 : Nat) (e3 : Bool) (x8 : Int) (a51 : Pt) (n51 c51 : Nat) (e51 : Bool) (x52 x53 : Int) (h : AHeap) : Prop :=
 bcase (decide ((x53 : Int) < x52)) ((0 ≤ (x53 : Int) ∧ (x53 : Int) < (n51 : Nat)) ∧ (xSome a51 fun i_28 o_29 => xStr (hCell h (.ptr (some (i_28, o_29 + (Int.toNat x53) * 1)))) fun s_30 => SCall pg n_spec_l11Types [.int .i64 (IntKind.wrap .i64 ((IntKind.wrap .i64 (x0 - 1)) - x8))] h fun v_31 h_32 =>
 xSl (some v_31) fun a_33 n_34 c_35 e_36 => L22 Q R16 R19 x0 a3 n3 c3 e3 x8 s_30 a51 n51 c51 e51 x52 x53 a_33 n_34 c_35 e_36 (((n_34 : Nat) : Int)) 0 h_32)) (A19x6 Q R16 x8 x0 a3 n3 c3 e3 h)
theorem L19den (Q : QT) (R16 : T16) (R19 : T19) (x0 : Int) (a3 : Pt) (n3 c3 : Nat) (e3 : Bool) (x8 : Int) (a51 : Pt) (n51 c51 : Nat) (e51 : Bool) (x52 x53 : Int) (h : AHeap) (ht : L19t Q R16 R19 x0 a3 n3 c3 e3 x8 a51 n51 c51 e51 x52 x53 h) : Den pg fn.ntmps (C [1, 1, 1, 1, 1, 0, 1, 0, 0, 1, 0, 0, 1, 0, 0]) [(0, .int .i64 x0), (3, .slice a3 n3 c3 e3), (8, .int .i64 x8), (51, .slice a51 n51 c51 e51), (52, .int .i64 x52), (53, .int .i64 x53)] h (K17 Q R16 R19) :=
  den_Den (kp := kp) (@cast _ (den pg fn.ntmps kp (C [1, 1, 1, 1, 1, 0, 1, 0, 0, 1, 0, 0, 1, 0, 0]) [(0, .int .i64 x0), (3, .slice a3 n3 c3 e3), (8, .int .i64 x8), (51, .slice a51 n51 c51 e51), (52, .int .i64 x52), (53, .int .i64 x53)] h (K17 Q R16 R19)) (by kernel_rfl) ht)
theorem L19ind (Q : QT) (R16 : T16) (x0 x8 : Int) (a51 : Pt) (n51 c51 : Nat) (e51 : Bool) (x52 : Int) {G : Type} (J : G → Pt → Nat → Nat → Bool → Int → AHeap → Prop) (m : G → Nat)
 (hr : ∀ (g : G) (a3 : Pt) (n3 c3 : Nat) (e3 : Bool) (x53 : Int) (h : AHeap), J g a3 n3 c3 e3 x53 h → ∀ (R19 : T19), (∀ g' (a3 : Pt) (n3 c3 : Nat) (e3 : Bool) (x53 : Int) (h : AHeap), m g' < m g → J g' a3 n3 c3 e3 x53 h → R19 x0 a3 n3 c3 e3 x8 a51 n51 c51 e51 x52 x53 h) → L19t Q R16 R19 x0 a3 n3 c3 e3 x8 a51 n51 c51 e51 x52 x53 h)
 (g : G) (a3 : Pt) (n3 c3 : Nat) (e3 : Bool) (x53 : Int) (h : AHeap) (hj : J g a3 n3 c3 e3 x53 h) : L19 Q R16 x0 a3 n3 c3 e3 x8 a51 n51 c51 e51 x52 x53 h := by
  refine Loop.inv2 (fun g => E19 fun x0' a3 n3 c3 e3 x8' a51' n51' c51' e51' x52' x53 h => x0 = x0' ∧ x8 = x8' ∧ a51 = a51' ∧ n51 = n51' ∧ c51 = c51' ∧ e51 = e51' ∧ x52 = x52' ∧ J g a3 n3 c3 e3 x53 h) (fun g => E19 fun x0' a3 n3 c3 e3 x8' a51' n51' c51' e51' x52' x53 h => x0 = x0' ∧ x8 = x8' ∧ a51 = a51' ∧ n51 = n51' ∧ c51 = c51' ∧ e51 = e51' ∧ x52 = x52' ∧ ∃ g', m g' < m g ∧ J g' a3 n3 c3 e3 x53 h) m ?_ ?_ g ⟨rfl, rfl, rfl, rfl, rfl, rfl, rfl, hj⟩
  · intro g env h hi
    obtain ⟨x0', a3, n3, c3, e3, x8', a51', n51', c51', e51', x52', x53, rfl, rfl, rfl, rfl, rfl, rfl, rfl, rfl, hj⟩ := E19elim hi
    exact L19den Q R16 (fun x0' a3 n3 c3 e3 x8' a51' n51' c51' e51' x52' x53 h => x0 = x0' ∧ x8 = x8' ∧ a51 = a51' ∧ n51 = n51' ∧ c51 = c51' ∧ e51 = e51' ∧ x52 = x52' ∧ ∃ g', m g' < m g ∧ J g' a3 n3 c3 e3 x53 h) x0 a3 n3 c3 e3 x8 a51 n51 c51 e51 x52 x53 h (hr g a3 n3 c3 e3 x53 h hj (fun x0' a3 n3 c3 e3 x8' a51' n51' c51' e51' x52' x53 h => x0 = x0' ∧ x8 = x8' ∧ a51 = a51' ∧ n51 = n51' ∧ c51 = c51' ∧ e51 = e51' ∧ x52 = x52' ∧ ∃ g', m g' < m g ∧ J g' a3 n3 c3 e3 x53 h) fun g' a3 n3 c3 e3 x53 h hlt hj => ⟨rfl, rfl, rfl, rfl, rfl, rfl, rfl, g', hlt, hj⟩)
  · intro g env h hi
    obtain ⟨x0', a3, n3, c3, e3, x8', a51', n51', c51', e51', x52', x53, rfl, rfl, rfl, rfl, rfl, rfl, rfl, rfl, g', hlt, hj⟩ := E19elim hi
    exact ⟨g', hlt, rfl, rfl, rfl, rfl, rfl, rfl, rfl, hj⟩
theorem A16x4i (Q : QT) (a3 : Pt) (n3 c3 : Nat) (e3 : Bool) (h : AHeap) (ht :
 Q (.slice a3 n3 c3 e3) h) : A16x4 Q a3 n3 c3 e3 h :=
  At.mk (@cast _ ((K10 Q) (.exit 4) [(3, .slice a3 n3 c3 e3)] h) (by kernel_rfl) ht)
def L22t (Q : QT) (R16 : T16) (R19 : T19) (R22 : T22) (x0 : Int) (a3 : Pt) (n3 c3 : Nat) (e3 : Bool) (x8 : Int) (x10 : List Nat) (a51 : Pt) (n51 c51 : Nat) (e51 : Bool) (x52 x53 : Int) (a61 : Pt) (n61 c61 : Nat) (e61 : Bool) (x62 x63 : Int) (h : AHeap) : Prop :=
 bcase (decide ((x63 : Int) < x62)) ((0 ≤ (x63 : Int) ∧ (x63 : Int) < (n61 : Nat)) ∧ (xSome a61 fun i_37 o_38 => xStr (hCell h (.ptr (some (i_37, o_38 + (Int.toNat x63) * 1)))) fun s_39 => List.length ([112, 40]) + List.length x10 ≤ 9223372036854775807 ∧ (List.length (([112, 40]) ++ x10) + List.length [44] ≤ 9223372036854775807 ∧ (List.length ((([112, 40]) ++ x10) ++ [44]) + List.length s_39 ≤ 9223372036854775807 ∧ (List.length (((([112, 40]) ++ x10) ++ [44]) ++ s_39) + List.length [41] ≤ 9223372036854775807 ∧ (letH (h ++ [.cells t_string [.str ((((([112, 40]) ++ x10) ++ [44]) ++ s_39) ++ [41])] false]) fun h_40 => appendA pg t_L_string h_40 (.slice a3 n3 c3 e3) (.slice (some (List.length h, 0)) 1 1 true) fun v_41 h_42 => xSl (some v_41) fun a_43 n_44 c_45 e_46 => R22 x0 a_43 n_44 c_45 e_46 x8 x10 a51 n51 c51 e51 x52 x53 a61 n61 c61 e61 x62 (IntKind.wrap .i64 (x63 + 1)) h_42)))))) (A22x8 Q R16 R19 x53 x52 a51 n51 c51 e51 x0 x8 a3 n3 c3 e3 h)
theorem L22den (Q : QT) (R16 : T16) (R19 : T19) (R22 : T22) (x0 : Int) (a3 : Pt) (n3 c3 : Nat) (e3 : Bool) (x8 : Int) (x10 : List Nat) (a51 : Pt) (n51 c51 : Nat) (e51 : Bool) (x52 x53 : Int) (a61 : Pt) (n61 c61 : Nat) (e61 : Bool) (x62 x63 : Int) (h : AHeap) (ht : L22t Q R16 R19 R22 x0 a3 n3 c3 e3 x8 x10 a51 n51 c51 e51 x52 x53 a61 n61 c61 e61 x62 x63 h) : Den pg fn.ntmps (C [1, 1, 1, 1, 1, 0, 1, 0, 0, 1, 0, 0, 1, 0, 0, 1, 1, 0, 0, 1, 1, 0, 0]) [(0, .int .i64 x0), (3, .slice a3 n3 c3 e3), (8, .int .i64 x8), (10, .str x10), (51, .slice a51 n51 c51 e51), (52, .int .i64 x52), (53, .int .i64 x53), (61, .slice a61 n61 c61 e61), (62, .int .i64 x62), (63, .int .i64 x63)] h (K22 Q R16 R19 R22) :=
  den_Den (kp := kp) (@cast _ (den pg fn.ntmps kp (C [1, 1, 1, 1, 1, 0, 1, 0, 0, 1, 0, 0, 1, 0, 0, 1, 1, 0, 0, 1, 1, 0, 0]) [(0, .int .i64 x0), (3, .slice a3 n3 c3 e3), (8, .int .i64 x8), (10, .str x10), (51, .slice a51 n51 c51 e51), (52, .int .i64 x52), (53, .int .i64 x53), (61, .slice a61 n61 c61 e61), (62, .int .i64 x62), (63, .int .i64 x63)] h (K22 Q R16 R19 R22)) (by kernel_rfl) ht)
theorem L22ind (Q : QT) (R16 : T16) (R19 : T19) (x0 x8 : Int) (x10 : List Nat) (a51 : Pt) (n51 c51 : Nat) (e51 : Bool) (x52 x53 : Int) (a61 : Pt) (n61 c61 : Nat) (e61 : Bool) (x62 : Int) {G : Type} (J : G → Pt → Nat → Nat → Bool → Int → AHeap → Prop) (m : G → Nat)
 (hr : ∀ (g : G) (a3 : Pt) (n3 c3 : Nat) (e3 : Bool) (x63 : Int) (h : AHeap), J g a3 n3 c3 e3 x63 h → ∀ (R22 : T22), (∀ g' (a3 : Pt) (n3 c3 : Nat) (e3 : Bool) (x63 : Int) (h : AHeap), m g' < m g → J g' a3 n3 c3 e3 x63 h → R22 x0 a3 n3 c3 e3 x8 x10 a51 n51 c51 e51 x52 x53 a61 n61 c61 e61 x62 x63 h) → L22t Q R16 R19 R22 x0 a3 n3 c3 e3 x8 x10 a51 n51 c51 e51 x52 x53 a61 n61 c61 e61 x62 x63 h)
 (g : G) (a3 : Pt) (n3 c3 : Nat) (e3 : Bool) (x63 : Int) (h : AHeap) (hj : J g a3 n3 c3 e3 x63 h) : L22 Q R16 R19 x0 a3 n3 c3 e3 x8 x10 a51 n51 c51 e51 x52 x53 a61 n61 c61 e61 x62 x63 h := by
  refine Loop.inv2 (fun g => E22 fun x0' a3 n3 c3 e3 x8' x10' a51' n51' c51' e51' x52' x53' a61' n61' c61' e61' x62' x63 h => x0 = x0' ∧ x8 = x8' ∧ x10 = x10' ∧ a51 = a51' ∧ n51 = n51' ∧ c51 = c51' ∧ e51 = e51' ∧ x52 = x52' ∧ x53 = x53' ∧ a61 = a61' ∧ n61 = n61' ∧ c61 = c61' ∧ e61 = e61' ∧ x62 = x62' ∧ J g a3 n3 c3 e3 x63 h) (fun g => E22 fun x0' a3 n3 c3 e3 x8' x10' a51' n51' c51' e51' x52' x53' a61' n61' c61' e61' x62' x63 h => x0 = x0' ∧ x8 = x8' ∧ x10 = x10' ∧ a51 = a51' ∧ n51 = n51' ∧ c51 = c51' ∧ e51 = e51' ∧ x52 = x52' ∧ x53 = x53' ∧ a61 = a61' ∧ n61 = n61' ∧ c61 = c61' ∧ e61 = e61' ∧ x62 = x62' ∧ ∃ g', m g' < m g ∧ J g' a3 n3 c3 e3 x63 h) m ?_ ?_ g ⟨rfl, rfl, rfl, rfl, rfl, rfl, rfl, rfl, rfl, rfl, rfl, rfl, rfl, rfl, hj⟩
  · intro g env h hi
    obtain ⟨x0', a3, n3, c3, e3, x8', x10', a51', n51', c51', e51', x52', x53', a61', n61', c61', e61', x62', x63, rfl, rfl, rfl, rfl, rfl, rfl, rfl, rfl, rfl, rfl, rfl, rfl, rfl, rfl, rfl, hj⟩ := E22elim hi
    exact L22den Q R16 R19 (fun x0' a3 n3 c3 e3 x8' x10' a51' n51' c51' e51' x52' x53' a61' n61' c61' e61' x62' x63 h => x0 = x0' ∧ x8 = x8' ∧ x10 = x10' ∧ a51 = a51' ∧ n51 = n51' ∧ c51 = c51' ∧ e51 = e51' ∧ x52 = x52' ∧ x53 = x53' ∧ a61 = a61' ∧ n61 = n61' ∧ c61 = c61' ∧ e61 = e61' ∧ x62 = x62' ∧ ∃ g', m g' < m g ∧ J g' a3 n3 c3 e3 x63 h) x0 a3 n3 c3 e3 x8 x10 a51 n51 c51 e51 x52 x53 a61 n61 c61 e61 x62 x63 h (hr g a3 n3 c3 e3 x63 h hj (fun x0' a3 n3 c3 e3 x8' x10' a51' n51' c51' e51' x52' x53' a61' n61' c61' e61' x62' x63 h => x0 = x0' ∧ x8 = x8' ∧ x10 = x10' ∧ a51 = a51' ∧ n51 = n51' ∧ c51 = c51' ∧ e51 = e51' ∧ x52 = x52' ∧ x53 = x53' ∧ a61 = a61' ∧ n61 = n61' ∧ c61 = c61' ∧ e61 = e61' ∧ x62 = x62' ∧ ∃ g', m g' < m g ∧ J g' a3 n3 c3 e3 x63 h) fun g' a3 n3 c3 e3 x63 h hlt hj => ⟨rfl, rfl, rfl, rfl, rfl, rfl, rfl, rfl, rfl, rfl, rfl, rfl, rfl, rfl, g', hlt, hj⟩)
  · intro g env h hi
    obtain ⟨x0', a3, n3, c3, e3, x8', x10', a51', n51', c51', e51', x52', x53', a61', n61', c61', e61', x62', x63, rfl, rfl, rfl, rfl, rfl, rfl, rfl, rfl, rfl, rfl, rfl, rfl, rfl, rfl, rfl, g', hlt, hj⟩ := E22elim hi
    exact ⟨g', hlt, rfl, rfl, rfl, rfl, rfl, rfl, rfl, rfl, rfl, rfl, rfl, rfl, rfl, rfl, hj⟩
theorem A19x6i (Q : QT) (R16 : T16) (x8 x0 : Int) (a3 : Pt) (n3 c3 : Nat) (e3 : Bool) (h : AHeap) (ht :
 R16 x0 a3 n3 c3 e3 (IntKind.wrap .i64 (x8 + 1)) h) : A19x6 Q R16 x8 x0 a3 n3 c3 e3 h :=
  At.mk (@cast _ ((K15 Q R16) (.exit 6) [(8, .int .i64 x8), (0, .int .i64 x0), (3, .slice a3 n3 c3 e3)] h) (by kernel_rfl) ht)
theorem A22x8i (Q : QT) (R16 : T16) (R19 : T19) (x53 x52 : Int) (a51 : Pt) (n51 c51 : Nat) (e51 : Bool) (x0 x8 : Int) (a3 : Pt) (n3 c3 : Nat) (e3 : Bool) (h : AHeap) (ht :
 R19 x0 a3 n3 c3 e3 x8 a51 n51 c51 e51 x52 (IntKind.wrap .i64 (x53 + 1)) h) : A22x8 Q R16 R19 x53 x52 a51 n51 c51 e51 x0 x8 a3 n3 c3 e3 h :=
  At.mk (@cast _ ((K20 Q R16 R19) (.exit 8) [(53, .int .i64 x53), (52, .int .i64 x52), (51, .slice a51 n51 c51 e51), (0, .int .i64 x0), (8, .int .i64 x8), (3, .slice a3 n3 c3 e3)] h) (by kernel_rfl) ht)
theorem call (x0 : Int) (h : AHeap) (Q : QT) (ht :
 letH (h ++ [.cells t_string [] false]) fun h_0 => bcase (decide ((x0 : Int) < 1)) (Q (.slice (some (List.length h, 0)) 0 0 true) h_0) (bcase ((x0 : Int) == 1) (letH (h_0 ++ [.cells t_string [.str [105], .str [98], .str [117]] false]) fun h_1 => Q (.slice (some (List.length h_0, 0)) 3 3 true) h_1) (letH (h_0 ++ [.cells t_string [.str [108], .str [109]] false]) fun h_2 => L7 Q x0 (some (List.length h, 0)) 0 0 true (some (List.length h_0, 0)) 2 2 true (((2 : Nat) : Int)) 0 h_2))) : SCall pg n_spec_l11Types [.int .i64 x0] h Q :=
  SCall.of_body kp (c := cod fn) (fn := fn) Go.Proofs.Try.func42 (by kernel_rfl) (by kernel_rfl) (Nat.le_of_ble_eq_true (by kernel_rfl))
    (@cast _ (den pg fn.ntmps kp (cod fn) (Env.args 0 [.int .i64 x0]) h (KR Q)) (by kernel_rfl) ht)
end F_spec_l11Types
/-! Function loop.example/instancesearch/spec.l11Small -/
namespace F_spec_l11Small
noncomputable abbrev fn : Func := Go.Proofs.Try.f26
def kp : Keeps := [(3000003, [3]), (1000003, [3, 6, 7])]
noncomputable def C (p : List Nat) : Code := (cod fn).sub p
def KR (Q : QT) : KT := retA pg fn.results.toList Q
abbrev T3 := Pt → Nat → Nat → Bool → Int → Int → AHeap → Prop
def E3 (R3 : T3) (env : Env) (h : AHeap) : Prop := eVal 3 env fun v env => xSl (some v) fun a3 n3 c3 e3 => eVal 6 env fun v env => eInt .i64 v fun x6 => eVal 7 env fun v env => eInt .i64 v fun x7 => eNil env (R3 a3 n3 c3 e3 x6 x7 h)
theorem E3elim {R3 : T3} {env : Env} {h : AHeap} (hi : E3 R3 env h) : ∃ a3, ∃ n3, ∃ c3, ∃ e3, ∃ x6, ∃ x7, env = [(3, .slice a3 n3 c3 e3), (6, .int .i64 x6), (7, .int .i64 x7)] ∧ R3 a3 n3 c3 e3 x6 x7 h := by
  unfold E3 at hi
  have hi0 := hi
  clear hi
  obtain ⟨v, env, rfl, hi1⟩ := eVal_elim hi0
  obtain ⟨a3, n3, c3, e3, rfl, hi2⟩ := xSl_elim hi1
  obtain ⟨v, env, rfl, hi3⟩ := eVal_elim hi2
  obtain ⟨x6, rfl, hi4⟩ := eInt_elim hi3
  obtain ⟨v, env, rfl, hi5⟩ := eVal_elim hi4
  obtain ⟨x7, rfl, hi6⟩ := eInt_elim hi5
  obtain ⟨rfl, hi7⟩ := eNil_elim hi6
  have hi := hi7
  exact ⟨a3, n3, c3, e3, x6, x7, rfl, hi⟩
def K0 (Q : QT) : KT := andThen (fun env' h' => (match kp.find 4000007 with | some ks => Den pg fn.ntmps (C [1, 1, 1]) (env'.keep ks) h' (KR Q) | none => den pg fn.ntmps kp (C [1, 1, 1]) env' h' (KR Q))) (KR Q)
def K1 (Q : QT) : KT := onExit 0 (K0 Q)
def K2 (Q : QT) : KT := left kp 3 (K1 Q)
def K3 (Q : QT) (R3 : T3) : KT := rnd ((kp.find 1000003).getD []) (E3 R3) (K2 Q)
def L3 (Q : QT) (a3 : Pt) (n3 c3 : Nat) (e3 : Bool) (x6 x7 : Int) (h : AHeap) : Prop := Loop (Den pg fn.ntmps (C [1, 1, 0, 1, 0, 0])) ((kp.find 1000003).getD []) (K2 Q) [(3, .slice a3 n3 c3 e3), (6, .int .i64 x6), (7, .int .i64 x7)] h
def A3x0 (Q : QT) (a3 : Pt) (n3 c3 : Nat) (e3 : Bool) (h : AHeap) : Prop := At (K1 Q) (.exit 0) [(3, .slice a3 n3 c3 e3)] h
def L3t (Q : QT) (R3 : T3) (a3 : Pt) (n3 c3 : Nat) (e3 : Bool) (x6 x7 : Int) (h : AHeap) : Prop :=
 bcase (decide ((x7 : Int) < x6)) (SCall pg n_spec_l11Types [.int .i64 (IntKind.wrap .i64 (x7 + 1))] h fun v_1 h_2 =>
 xSl (some v_1) fun a_3 n_4 c_5 e_6 => appendA pg t_L_string h_2 (.slice a3 n3 c3 e3) (.slice a_3 n_4 c_5 e_6) fun v_7 h_8 => xSl (some v_7) fun a_9 n_10 c_11 e_12 => R3 a_9 n_10 c_11 e_12 x6 (IntKind.wrap .i64 (x7 + 1)) h_8) (A3x0 Q a3 n3 c3 e3 h)
theorem L3den (Q : QT) (R3 : T3) (a3 : Pt) (n3 c3 : Nat) (e3 : Bool) (x6 x7 : Int) (h : AHeap) (ht : L3t Q R3 a3 n3 c3 e3 x6 x7 h) : Den pg fn.ntmps (C [1, 1, 0, 1, 0, 0]) [(3, .slice a3 n3 c3 e3), (6, .int .i64 x6), (7, .int .i64 x7)] h (K3 Q R3) :=
  den_Den (kp := kp) (@cast _ (den pg fn.ntmps kp (C [1, 1, 0, 1, 0, 0]) [(3, .slice a3 n3 c3 e3), (6, .int .i64 x6), (7, .int .i64 x7)] h (K3 Q R3)) (by kernel_rfl) ht)
theorem L3ind (Q : QT) (x6 : Int) {G : Type} (J : G → Pt → Nat → Nat → Bool → Int → AHeap → Prop) (m : G → Nat)
 (hr : ∀ (g : G) (a3 : Pt) (n3 c3 : Nat) (e3 : Bool) (x7 : Int) (h : AHeap), J g a3 n3 c3 e3 x7 h → ∀ (R3 : T3), (∀ g' (a3 : Pt) (n3 c3 : Nat) (e3 : Bool) (x7 : Int) (h : AHeap), m g' < m g → J g' a3 n3 c3 e3 x7 h → R3 a3 n3 c3 e3 x6 x7 h) → L3t Q R3 a3 n3 c3 e3 x6 x7 h)
 (g : G) (a3 : Pt) (n3 c3 : Nat) (e3 : Bool) (x7 : Int) (h : AHeap) (hj : J g a3 n3 c3 e3 x7 h) : L3 Q a3 n3 c3 e3 x6 x7 h := by
  refine Loop.inv2 (fun g => E3 fun a3 n3 c3 e3 x6' x7 h => x6 = x6' ∧ J g a3 n3 c3 e3 x7 h) (fun g => E3 fun a3 n3 c3 e3 x6' x7 h => x6 = x6' ∧ ∃ g', m g' < m g ∧ J g' a3 n3 c3 e3 x7 h) m ?_ ?_ g ⟨rfl, hj⟩
  · intro g env h hi
    obtain ⟨a3, n3, c3, e3, x6', x7, rfl, rfl, hj⟩ := E3elim hi
    exact L3den Q (fun a3 n3 c3 e3 x6' x7 h => x6 = x6' ∧ ∃ g', m g' < m g ∧ J g' a3 n3 c3 e3 x7 h) a3 n3 c3 e3 x6 x7 h (hr g a3 n3 c3 e3 x7 h hj (fun a3 n3 c3 e3 x6' x7 h => x6 = x6' ∧ ∃ g', m g' < m g ∧ J g' a3 n3 c3 e3 x7 h) fun g' a3 n3 c3 e3 x7 h hlt hj => ⟨rfl, g', hlt, hj⟩)
  · intro g env h hi
    obtain ⟨a3, n3, c3, e3, x6', x7, rfl, rfl, g', hlt, hj⟩ := E3elim hi
    exact ⟨g', hlt, rfl, hj⟩
theorem A3x0i (Q : QT) (a3 : Pt) (n3 c3 : Nat) (e3 : Bool) (h : AHeap) (ht :
 Q (.slice a3 n3 c3 e3) h) : A3x0 Q a3 n3 c3 e3 h :=
  At.mk (@cast _ ((K1 Q) (.exit 0) [(3, .slice a3 n3 c3 e3)] h) (by kernel_rfl) ht)
theorem call (x0 : Int) (h : AHeap) (Q : QT) (ht :
 letH (h ++ [.cells t_string [] false]) fun h_0 => L3 Q (some (List.length h, 0)) 0 0 true x0 0 h_0) : SCall pg n_spec_l11Small [.int .i64 x0] h Q :=
  SCall.of_body kp (c := cod fn) (fn := fn) Go.Proofs.Try.func26 (by kernel_rfl) (by kernel_rfl) (Nat.le_of_ble_eq_true (by kernel_rfl))
    (@cast _ (den pg fn.ntmps kp (cod fn) (Env.args 0 [.int .i64 x0]) h (KR Q)) (by kernel_rfl) ht)
end F_spec_l11Small
/-! Function loop.example/instancesearch/impl.SmallTypes -/
namespace F_impl_SmallTypes
noncomputable abbrev fn : Func := Go.Proofs.Try.f8
def kp : Keeps := [(4000003, [0]), (3000005, [4]), (1000005, [0, 4, 5])]
noncomputable def C (p : List Nat) : Code := (cod fn).sub p
def KR (Q : QT) : KT := retA pg fn.results.toList Q
abbrev T5 := Int → Pt → Nat → Nat → Bool → Int → AHeap → Prop
def E5 (R5 : T5) (env : Env) (h : AHeap) : Prop := eVal 0 env fun v env => eInt .i64 v fun x0 => eVal 4 env fun v env => xSl (some v) fun a4 n4 c4 e4 => eVal 5 env fun v env => eInt .i64 v fun x5 => eNil env (R5 x0 a4 n4 c4 e4 x5 h)
theorem E5elim {R5 : T5} {env : Env} {h : AHeap} (hi : E5 R5 env h) : ∃ x0, ∃ a4, ∃ n4, ∃ c4, ∃ e4, ∃ x5, env = [(0, .int .i64 x0), (4, .slice a4 n4 c4 e4), (5, .int .i64 x5)] ∧ R5 x0 a4 n4 c4 e4 x5 h := by
  unfold E5 at hi
  have hi0 := hi
  clear hi
  obtain ⟨v, env, rfl, hi1⟩ := eVal_elim hi0
  obtain ⟨x0, rfl, hi2⟩ := eInt_elim hi1
  obtain ⟨v, env, rfl, hi3⟩ := eVal_elim hi2
  obtain ⟨a4, n4, c4, e4, rfl, hi4⟩ := xSl_elim hi3
  obtain ⟨v, env, rfl, hi5⟩ := eVal_elim hi4
  obtain ⟨x5, rfl, hi6⟩ := eInt_elim hi5
  obtain ⟨rfl, hi7⟩ := eNil_elim hi6
  have hi := hi7
  exact ⟨x0, a4, n4, c4, e4, x5, rfl, hi⟩
def K0 (Q : QT) : KT := andThen (fun env' h' => (match kp.find 4000008 with | some ks => Den pg fn.ntmps (C [1, 1, 1, 1]) (env'.keep ks) h' (KR Q) | none => den pg fn.ntmps kp (C [1, 1, 1, 1]) env' h' (KR Q))) (KR Q)
def K1 (Q : QT) : KT := onExit 0 (K0 Q)
def K2 (Q : QT) : KT := left kp 5 (K1 Q)
def K3 (Q : QT) (R5 : T5) : KT := rnd ((kp.find 1000005).getD []) (E5 R5) (K2 Q)
def J3 (Q : QT) (x0 : Int) (h : AHeap) : Prop := Den pg fn.ntmps (C [1, 1]) [(0, .int .i64 x0)] h (KR Q)
def L5 (Q : QT) (x0 : Int) (a4 : Pt) (n4 c4 : Nat) (e4 : Bool) (x5 : Int) (h : AHeap) : Prop := Loop (Den pg fn.ntmps (C [1, 1, 1, 0, 1, 0, 0])) ((kp.find 1000005).getD []) (K2 Q) [(0, .int .i64 x0), (4, .slice a4 n4 c4 e4), (5, .int .i64 x5)] h
def A5x0 (Q : QT) (a4 : Pt) (n4 c4 : Nat) (e4 : Bool) (h : AHeap) : Prop := At (K1 Q) (.exit 0) [(4, .slice a4 n4 c4 e4)] h
theorem J3i (Q : QT) (x0 : Int) (h : AHeap) (ht :
 letH (h ++ [.cells t_string [] false]) fun h_0 => L5 Q x0 (some (List.length h, 0)) 0 0 true 1 h_0) : J3 Q x0 h :=
  den_Den (kp := kp) (@cast _ (den pg fn.ntmps kp (C [1, 1]) [(0, .int .i64 x0)] h (KR Q)) (by kernel_rfl) ht)
def L5t (Q : QT) (R5 : T5) (x0 : Int) (a4 : Pt) (n4 c4 : Nat) (e4 : Bool) (x5 : Int) (h : AHeap) : Prop :=
 bcase (decide ((x5 : Int) ≤ x0)) (SCall pg n_impl_sized [.int .i64 x5] h fun v_1 h_2 =>
 xSl (some v_1) fun a_3 n_4 c_5 e_6 => appendA pg t_L_string h_2 (.slice a4 n4 c4 e4) (.slice a_3 n_4 c_5 e_6) fun v_7 h_8 => xSl (some v_7) fun a_9 n_10 c_11 e_12 => R5 x0 a_9 n_10 c_11 e_12 (IntKind.wrap .i64 (x5 + 1)) h_8) (A5x0 Q a4 n4 c4 e4 h)
theorem L5den (Q : QT) (R5 : T5) (x0 : Int) (a4 : Pt) (n4 c4 : Nat) (e4 : Bool) (x5 : Int) (h : AHeap) (ht : L5t Q R5 x0 a4 n4 c4 e4 x5 h) : Den pg fn.ntmps (C [1, 1, 1, 0, 1, 0, 0]) [(0, .int .i64 x0), (4, .slice a4 n4 c4 e4), (5, .int .i64 x5)] h (K3 Q R5) :=
  den_Den (kp := kp) (@cast _ (den pg fn.ntmps kp (C [1, 1, 1, 0, 1, 0, 0]) [(0, .int .i64 x0), (4, .slice a4 n4 c4 e4), (5, .int .i64 x5)] h (K3 Q R5)) (by kernel_rfl) ht)
theorem L5ind (Q : QT) (x0 : Int) {G : Type} (J : G → Pt → Nat → Nat → Bool → Int → AHeap → Prop) (m : G → Nat)
 (hr : ∀ (g : G) (a4 : Pt) (n4 c4 : Nat) (e4 : Bool) (x5 : Int) (h : AHeap), J g a4 n4 c4 e4 x5 h → ∀ (R5 : T5), (∀ g' (a4 : Pt) (n4 c4 : Nat) (e4 : Bool) (x5 : Int) (h : AHeap), m g' < m g → J g' a4 n4 c4 e4 x5 h → R5 x0 a4 n4 c4 e4 x5 h) → L5t Q R5 x0 a4 n4 c4 e4 x5 h)
 (g : G) (a4 : Pt) (n4 c4 : Nat) (e4 : Bool) (x5 : Int) (h : AHeap) (hj : J g a4 n4 c4 e4 x5 h) : L5 Q x0 a4 n4 c4 e4 x5 h := by
  refine Loop.inv2 (fun g => E5 fun x0' a4 n4 c4 e4 x5 h => x0 = x0' ∧ J g a4 n4 c4 e4 x5 h) (fun g => E5 fun x0' a4 n4 c4 e4 x5 h => x0 = x0' ∧ ∃ g', m g' < m g ∧ J g' a4 n4 c4 e4 x5 h) m ?_ ?_ g ⟨rfl, hj⟩
  · intro g env h hi
    obtain ⟨x0', a4, n4, c4, e4, x5, rfl, rfl, hj⟩ := E5elim hi
    exact L5den Q (fun x0' a4 n4 c4 e4 x5 h => x0 = x0' ∧ ∃ g', m g' < m g ∧ J g' a4 n4 c4 e4 x5 h) x0 a4 n4 c4 e4 x5 h (hr g a4 n4 c4 e4 x5 h hj (fun x0' a4 n4 c4 e4 x5 h => x0 = x0' ∧ ∃ g', m g' < m g ∧ J g' a4 n4 c4 e4 x5 h) fun g' a4 n4 c4 e4 x5 h hlt hj => ⟨rfl, g', hlt, hj⟩)
  · intro g env h hi
    obtain ⟨x0', a4, n4, c4, e4, x5, rfl, rfl, g', hlt, hj⟩ := E5elim hi
    exact ⟨g', hlt, rfl, hj⟩
theorem A5x0i (Q : QT) (a4 : Pt) (n4 c4 : Nat) (e4 : Bool) (h : AHeap) (ht :
 Q (.tup [.slice a4 n4 c4 e4, .bool true]) h) : A5x0 Q a4 n4 c4 e4 h :=
  At.mk (@cast _ ((K1 Q) (.exit 0) [(4, .slice a4 n4 c4 e4)] h) (by kernel_rfl) ht)
theorem call (x0 : Int) (h : AHeap) (Q : QT) (ht :
 bcase (decide ((x0 : Int) < 1)) (Q (.tup [.slice none 0 0 true, .bool false]) h) (bcase (decide ((x0 : Int) > 4)) (Q (.tup [.slice none 0 0 true, .bool false]) h) (J3 Q x0 h))) : SCall pg n_impl_SmallTypes [.int .i64 x0] h Q :=
  SCall.of_body kp (c := cod fn) (fn := fn) Go.Proofs.Try.func8 (by kernel_rfl) (by kernel_rfl) (Nat.le_of_ble_eq_true (by kernel_rfl))
    (@cast _ (den pg fn.ntmps kp (cod fn) (Env.args 0 [.int .i64 x0]) h (KR Q)) (by kernel_rfl) ht)
end F_impl_SmallTypes
/-! Function loop.example/instancesearch/spec.l1In -/
namespace F_spec_l1In
noncomputable abbrev fn : Func := Go.Proofs.Try.f25
def kp : Keeps := []
noncomputable def C (p : List Nat) : Code := (cod fn).sub p
def KR (Q : QT) : KT := retA pg fn.results.toList Q
theorem call (x0 x1 x2 : Int) (h : AHeap) (Q : QT) (ht :
 bcase (decide ((x0 : Int) ≥ x1)) (Q (.bool (decide ((x0 : Int) ≤ x2))) h) (Q (.bool false) h)) : SCall pg n_spec_l1In [.int .i64 x0, .int .i64 x1, .int .i64 x2] h Q :=
  SCall.of_body kp (c := cod fn) (fn := fn) Go.Proofs.Try.func25 (by kernel_rfl) (by kernel_rfl) (Nat.le_of_ble_eq_true (by kernel_rfl))
    (@cast _ (den pg fn.ntmps kp (cod fn) (Env.args 0 [.int .i64 x0, .int .i64 x1, .int .i64 x2]) h (KR Q)) (by kernel_rfl) ht)
end F_spec_l1In
/-! Function loop.example/instancesearch/spec.SmallTypes -/
namespace F_spec_SmallTypes
noncomputable abbrev fn : Func := Go.Proofs.Try.f7
def kp : Keeps := []
noncomputable def C (p : List Nat) : Code := (cod fn).sub p
def KR (Q : QT) : KT := retA pg fn.results.toList Q
theorem call (x0 : Int) (h : AHeap) (Q : QT) (ht :
 SCall pg n_spec_l1In [.int .i64 x0, .int .i64 1, .int .i64 4] h fun v_0 h_1 =>
 xBool (some v_0) fun b_2 => bcase (!b_2) (letH (h_1 ++ [.cells t_string [] false]) fun h_3 => Q (.tup [.slice (some (List.length h_1, 0)) 0 0 true, .bool false]) h_3) (SCall pg n_spec_l11Small [.int .i64 x0] h_1 fun v_4 h_5 =>
 xSl (some v_4) fun a_6 n_7 c_8 e_9 => Q (.tup [.slice a_6 n_7 c_8 e_9, .bool true]) h_5)) : SCall pg n_spec_SmallTypes [.int .i64 x0] h Q :=
  SCall.of_body kp (c := cod fn) (fn := fn) Go.Proofs.Try.func7 (by kernel_rfl) (by kernel_rfl) (Nat.le_of_ble_eq_true (by kernel_rfl))
    (@cast _ (den pg fn.ntmps kp (cod fn) (Env.args 0 [.int .i64 x0]) h (KR Q)) (by kernel_rfl) ht)
end F_spec_SmallTypes
/-! Function loop.example/instancesearch/laws.FnExactSmallTypes -/
namespace F_laws_FnExactSmallTypes
noncomputable abbrev fn : Func := Go.Proofs.Try.f3
def kp : Keeps := [(4000005, [5, 0, 3, 4]), (4000016, [5, 7])]
noncomputable def C (p : List Nat) : Code := (cod fn).sub p
def KR (Q : QT) : KT := retA pg fn.results.toList Q
def J5 (Q : QT) (a5 : Pt) (n5 c5 : Nat) (e5 : Bool) (x0 : Int) (a3 : Pt) (n3 c3 : Nat) (e3 x4 : Bool) (h : AHeap) : Prop := Den pg fn.ntmps (C [1, 1, 1, 1]) [(5, .slice a5 n5 c5 e5), (0, .int .i64 x0), (3, .slice a3 n3 c3 e3), (4, .bool x4)] h (KR Q)
def J16 (Q : QT) (a5 : Pt) (n5 c5 : Nat) (e5 : Bool) (x7 : Int) (h : AHeap) : Prop := Den pg fn.ntmps (C [1, 1, 1, 1, 1, 1, 1, 1, 1, 1, 1, 1]) [(5, .slice a5 n5 c5 e5), (7, .int .i64 x7)] h (KR Q)
theorem J5i (Q : QT) (a5 : Pt) (n5 c5 : Nat) (e5 : Bool) (x0 : Int) (a3 : Pt) (n3 c3 : Nat) (e3 x4 : Bool) (h : AHeap) (ht :
 SCall pg n_laws_markStringS [.slice a5 n5 c5 e5, .int .i64 1] h fun v_27 h_28 =>
 xInt .i64 (some v_27) fun x_29 => SCall pg n_laws_heldStringS [.slice a5 n5 c5 e5, .int .i64 1] h_28 fun v_30 h_31 =>
 xInt .i64 (some v_30) fun x_32 => bcase (decide ((x_32 : Int) < 0)) (Q (.bool false) h_31) (bcase (!((x_32 : Int) == x_29)) (Q (.bool false) h_31) (SCall pg n_impl_SmallTypes [.int .i64 x0] h_31 fun v_33 h_34 =>
 xTup v_33 fun cs_35 => xCons cs_35 fun c_36 r_37 => xSl (some c_36) fun a_38 n_39 c_40 e_41 => xCons r_37 fun c_42 r_43 => xBool (some c_42) fun b_44 => xNil r_43 (SCall pg n_laws_eqStringS [.slice a_38 n_39 c_40 e_41, .slice a3 n3 c3 e3] h_34 fun v_45 h_46 =>
 xBool (some v_45) fun b_47 => bcase (!b_47) (Q (.bool false) h_46) (bcase (!(b_44 == x4)) (Q (.bool false) h_46) (J16 Q a5 n5 c5 e5 x_29 h_46)))))) : J5 Q a5 n5 c5 e5 x0 a3 n3 c3 e3 x4 h :=
  den_Den (kp := kp) (@cast _ (den pg fn.ntmps kp (C [1, 1, 1, 1]) [(5, .slice a5 n5 c5 e5), (0, .int .i64 x0), (3, .slice a3 n3 c3 e3), (4, .bool x4)] h (KR Q)) (by kernel_rfl) ht)
theorem J16i (Q : QT) (a5 : Pt) (n5 c5 : Nat) (e5 : Bool) (x7 : Int) (h : AHeap) (ht :
 SCall pg n_laws_heldStringS [.slice a5 n5 c5 e5, .int .i64 1] h fun v_48 h_49 =>
 xInt .i64 (some v_48) fun x_50 => bcase (decide ((x_50 : Int) < 0)) (Q (.bool false) h_49) (bcase (!((x_50 : Int) == x7)) (Q (.bool false) h_49) (Q (.bool true) h_49))) : J16 Q a5 n5 c5 e5 x7 h :=
  den_Den (kp := kp) (@cast _ (den pg fn.ntmps kp (C [1, 1, 1, 1, 1, 1, 1, 1, 1, 1, 1, 1]) [(5, .slice a5 n5 c5 e5), (7, .int .i64 x7)] h (KR Q)) (by kernel_rfl) ht)
theorem call (x0 : Int) (h : AHeap) (Q : QT) (ht :
 SCall pg n_spec_SmallTypes [.int .i64 x0] h fun v_0 h_1 =>
 xTup v_0 fun cs_2 => xCons cs_2 fun c_3 r_4 => xSl (some c_3) fun a_5 n_6 c_7 e_8 => xCons r_4 fun c_9 r_10 => xBool (some c_9) fun b_11 => xNil r_10 (SCall pg n_impl_SmallTypes [.int .i64 x0] h_1 fun v_12 h_13 =>
 xTup v_12 fun cs_14 => xCons cs_14 fun c_15 r_16 => xSl (some c_15) fun a_17 n_18 c_19 e_20 => xCons r_16 fun c_21 r_22 => xBool (some c_21) fun b_23 => xNil r_22 (SCall pg n_laws_eqStringS [.slice a_17 n_18 c_19 e_20, .slice a_5 n_6 c_7 e_8] h_13 fun v_24 h_25 =>
 xBool (some v_24) fun b_26 => bcase (!b_26) (Q (.bool false) h_25) (bcase (!(b_23 == b_11)) (Q (.bool false) h_25) (J5 Q a_17 n_18 c_19 e_20 x0 a_5 n_6 c_7 e_8 b_11 h_25))))) : SCall pg n_laws_FnExactSmallTypes [.int .i64 x0] h Q :=
  SCall.of_body kp (c := cod fn) (fn := fn) Go.Proofs.Try.func3 (by kernel_rfl) (by kernel_rfl) (Nat.le_of_ble_eq_true (by kernel_rfl))
    (@cast _ (den pg fn.ntmps kp (cod fn) (Env.args 0 [.int .i64 x0]) h (KR Q)) (by kernel_rfl) ht)
end F_laws_FnExactSmallTypes
end Go.Sim
