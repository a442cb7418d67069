/- Printed by wip/tool: what the functions' bodies do, in the words of 'den'. -/
import Derived.Test.YtgiiilhdmfddcaaNm
set_option linter.unusedSimpArgs false
set_option linter.all false
set_option maxRecDepth 100000
set_option linter.unusedVariables false
namespace Go.Sim
open Go Go.RowKit
/-! Function loop.example/instancesearch/impl.sized -/
namespace F_impl_sized
noncomputable abbrev fn : Func := Go.Proofs.Try.f27
def kp : Keeps := [(3000005, [0, 3]), (1000005, [0, 3, 17, 18, 19]), (3000008, [19, 18, 17, 0, 3]), (1000008, [0, 3, 5, 17, 18, 19, 25, 26, 27]), (3000014, [3]), (1000014, [0, 3, 8]), (3000017, [8, 0, 3]), (1000017, [0, 3, 8, 48, 49, 50]), (3000020, [50, 49, 48, 0, 8, 3]), (1000020, [0, 3, 8, 10, 48, 49, 50, 58, 59, 60])]
noncomputable def C (p : List Nat) : Code := (cod fn).sub p
def KR (Q : QT) : KT := retA pg fn.results.toList Q
abbrev T5 := Int → Pt → Nat → Nat → Bool → Pt → Nat → Nat → Bool → Int → Int → AHeap → Prop
def E5 (R5 : T5) (env : Env) (h : AHeap) : Prop := eVal 0 env fun v env => eInt .i64 v fun x0 => eVal 3 env fun v env => xSl (some v) fun a3 n3 c3 e3 => eVal 17 env fun v env => xSl (some v) fun a17 n17 c17 e17 => eVal 18 env fun v env => eInt .i64 v fun x18 => eVal 19 env fun v env => eInt .i64 v fun x19 => eNil env (R5 x0 a3 n3 c3 e3 a17 n17 c17 e17 x18 x19 h)
theorem E5elim {R5 : T5} {env : Env} {h : AHeap} (hi : E5 R5 env h) : ∃ x0, ∃ a3, ∃ n3, ∃ c3, ∃ e3, ∃ a17, ∃ n17, ∃ c17, ∃ e17, ∃ x18, ∃ x19, env = [(0, .int .i64 x0), (3, .slice a3 n3 c3 e3), (17, .slice a17 n17 c17 e17), (18, .int .i64 x18), (19, .int .i64 x19)] ∧ R5 x0 a3 n3 c3 e3 a17 n17 c17 e17 x18 x19 h := by
  unfold E5 at hi
  have hi0 := hi
  clear hi
  obtain ⟨v, env, rfl, hi1⟩ := eVal_elim hi0
  obtain ⟨x0, rfl, hi2⟩ := eInt_elim hi1
  obtain ⟨v, env, rfl, hi3⟩ := eVal_elim hi2
  obtain ⟨a3, n3, c3, e3, rfl, hi4⟩ := xSl_elim hi3
  obtain ⟨v, env, rfl, hi5⟩ := eVal_elim hi4
  obtain ⟨a17, n17, c17, e17, rfl, hi6⟩ := xSl_elim hi5
  obtain ⟨v, env, rfl, hi7⟩ := eVal_elim hi6
  obtain ⟨x18, rfl, hi8⟩ := eInt_elim hi7
  obtain ⟨v, env, rfl, hi9⟩ := eVal_elim hi8
  obtain ⟨x19, rfl, hi10⟩ := eInt_elim hi9
  obtain ⟨rfl, hi11⟩ := eNil_elim hi10
  have hi := hi11
  exact ⟨x0, a3, n3, c3, e3, a17, n17, c17, e17, x18, x19, rfl, hi⟩
abbrev T8 := Int → Pt → Nat → Nat → Bool → List Nat → Pt → Nat → Nat → Bool → Int → Int → Pt → Nat → Nat → Bool → Int → Int → AHeap → Prop
def E8 (R8 : T8) (env : Env) (h : AHeap) : Prop := eVal 0 env fun v env => eInt .i64 v fun x0 => eVal 3 env fun v env => xSl (some v) fun a3 n3 c3 e3 => eVal 5 env fun v env => xStr (some v) fun x5 => eVal 17 env fun v env => xSl (some v) fun a17 n17 c17 e17 => eVal 18 env fun v env => eInt .i64 v fun x18 => eVal 19 env fun v env => eInt .i64 v fun x19 => eVal 25 env fun v env => xSl (some v) fun a25 n25 c25 e25 => eVal 26 env fun v env => eInt .i64 v fun x26 => eVal 27 env fun v env => eInt .i64 v fun x27 => eNil env (R8 x0 a3 n3 c3 e3 x5 a17 n17 c17 e17 x18 x19 a25 n25 c25 e25 x26 x27 h)
theorem E8elim {R8 : T8} {env : Env} {h : AHeap} (hi : E8 R8 env h) : ∃ x0, ∃ a3, ∃ n3, ∃ c3, ∃ e3, ∃ x5, ∃ a17, ∃ n17, ∃ c17, ∃ e17, ∃ x18, ∃ x19, ∃ a25, ∃ n25, ∃ c25, ∃ e25, ∃ x26, ∃ x27, env = [(0, .int .i64 x0), (3, .slice a3 n3 c3 e3), (5, .str x5), (17, .slice a17 n17 c17 e17), (18, .int .i64 x18), (19, .int .i64 x19), (25, .slice a25 n25 c25 e25), (26, .int .i64 x26), (27, .int .i64 x27)] ∧ R8 x0 a3 n3 c3 e3 x5 a17 n17 c17 e17 x18 x19 a25 n25 c25 e25 x26 x27 h := by
  unfold E8 at hi
  have hi0 := hi
  clear hi
  obtain ⟨v, env, rfl, hi1⟩ := eVal_elim hi0
  obtain ⟨x0, rfl, hi2⟩ := eInt_elim hi1
  obtain ⟨v, env, rfl, hi3⟩ := eVal_elim hi2
  obtain ⟨a3, n3, c3, e3, rfl, hi4⟩ := xSl_elim hi3
  obtain ⟨v, env, rfl, hi5⟩ := eVal_elim hi4
  obtain ⟨x5, rfl, hi6⟩ := xStr_elim hi5
  obtain ⟨v, env, rfl, hi7⟩ := eVal_elim hi6
  obtain ⟨a17, n17, c17, e17, rfl, hi8⟩ := xSl_elim hi7
  obtain ⟨v, env, rfl, hi9⟩ := eVal_elim hi8
  obtain ⟨x18, rfl, hi10⟩ := eInt_elim hi9
  obtain ⟨v, env, rfl, hi11⟩ := eVal_elim hi10
  obtain ⟨x19, rfl, hi12⟩ := eInt_elim hi11
  obtain ⟨v, env, rfl, hi13⟩ := eVal_elim hi12
  obtain ⟨a25, n25, c25, e25, rfl, hi14⟩ := xSl_elim hi13
  obtain ⟨v, env, rfl, hi15⟩ := eVal_elim hi14
  obtain ⟨x26, rfl, hi16⟩ := eInt_elim hi15
  obtain ⟨v, env, rfl, hi17⟩ := eVal_elim hi16
  obtain ⟨x27, rfl, hi18⟩ := eInt_elim hi17
  obtain ⟨rfl, hi19⟩ := eNil_elim hi18
  have hi := hi19
  exact ⟨x0, a3, n3, c3, e3, x5, a17, n17, c17, e17, x18, x19, a25, n25, c25, e25, x26, x27, rfl, hi⟩
abbrev T14 := Int → Pt → Nat → Nat → Bool → Int → AHeap → Prop
def E14 (R14 : T14) (env : Env) (h : AHeap) : Prop := eVal 0 env fun v env => eInt .i64 v fun x0 => eVal 3 env fun v env => xSl (some v) fun a3 n3 c3 e3 => eVal 8 env fun v env => eInt .i64 v fun x8 => eNil env (R14 x0 a3 n3 c3 e3 x8 h)
theorem E14elim {R14 : T14} {env : Env} {h : AHeap} (hi : E14 R14 env h) : ∃ x0, ∃ a3, ∃ n3, ∃ c3, ∃ e3, ∃ x8, env = [(0, .int .i64 x0), (3, .slice a3 n3 c3 e3), (8, .int .i64 x8)] ∧ R14 x0 a3 n3 c3 e3 x8 h := by
  unfold E14 at hi
  have hi0 := hi
  clear hi
  obtain ⟨v, env, rfl, hi1⟩ := eVal_elim hi0
  obtain ⟨x0, rfl, hi2⟩ := eInt_elim hi1
  obtain ⟨v, env, rfl, hi3⟩ := eVal_elim hi2
  obtain ⟨a3, n3, c3, e3, rfl, hi4⟩ := xSl_elim hi3
  obtain ⟨v, env, rfl, hi5⟩ := eVal_elim hi4
  obtain ⟨x8, rfl, hi6⟩ := eInt_elim hi5
  obtain ⟨rfl, hi7⟩ := eNil_elim hi6
  have hi := hi7
  exact ⟨x0, a3, n3, c3, e3, x8, rfl, hi⟩
abbrev T17 := Int → Pt → Nat → Nat → Bool → Int → Pt → Nat → Nat → Bool → Int → Int → AHeap → Prop
def E17 (R17 : T17) (env : Env) (h : AHeap) : Prop := eVal 0 env fun v env => eInt .i64 v fun x0 => eVal 3 env fun v env => xSl (some v) fun a3 n3 c3 e3 => eVal 8 env fun v env => eInt .i64 v fun x8 => eVal 48 env fun v env => xSl (some v) fun a48 n48 c48 e48 => eVal 49 env fun v env => eInt .i64 v fun x49 => eVal 50 env fun v env => eInt .i64 v fun x50 => eNil env (R17 x0 a3 n3 c3 e3 x8 a48 n48 c48 e48 x49 x50 h)
theorem E17elim {R17 : T17} {env : Env} {h : AHeap} (hi : E17 R17 env h) : ∃ x0, ∃ a3, ∃ n3, ∃ c3, ∃ e3, ∃ x8, ∃ a48, ∃ n48, ∃ c48, ∃ e48, ∃ x49, ∃ x50, env = [(0, .int .i64 x0), (3, .slice a3 n3 c3 e3), (8, .int .i64 x8), (48, .slice a48 n48 c48 e48), (49, .int .i64 x49), (50, .int .i64 x50)] ∧ R17 x0 a3 n3 c3 e3 x8 a48 n48 c48 e48 x49 x50 h := by
  unfold E17 at hi
  have hi0 := hi
  clear hi
  obtain ⟨v, env, rfl, hi1⟩ := eVal_elim hi0
  obtain ⟨x0, rfl, hi2⟩ := eInt_elim hi1
  obtain ⟨v, env, rfl, hi3⟩ := eVal_elim hi2
  obtain ⟨a3, n3, c3, e3, rfl, hi4⟩ := xSl_elim hi3
  obtain ⟨v, env, rfl, hi5⟩ := eVal_elim hi4
  obtain ⟨x8, rfl, hi6⟩ := eInt_elim hi5
  obtain ⟨v, env, rfl, hi7⟩ := eVal_elim hi6
  obtain ⟨a48, n48, c48, e48, rfl, hi8⟩ := xSl_elim hi7
  obtain ⟨v, env, rfl, hi9⟩ := eVal_elim hi8
  obtain ⟨x49, rfl, hi10⟩ := eInt_elim hi9
  obtain ⟨v, env, rfl, hi11⟩ := eVal_elim hi10
  obtain ⟨x50, rfl, hi12⟩ := eInt_elim hi11
  obtain ⟨rfl, hi13⟩ := eNil_elim hi12
  have hi := hi13
  exact ⟨x0, a3, n3, c3, e3, x8, a48, n48, c48, e48, x49, x50, rfl, hi⟩
abbrev T20 := Int → Pt → Nat → Nat → Bool → Int → List Nat → Pt → Nat → Nat → Bool → Int → Int → Pt → Nat → Nat → Bool → Int → Int → AHeap → Prop
def E20 (R20 : T20) (env : Env) (h : AHeap) : Prop := eVal 0 env fun v env => eInt .i64 v fun x0 => eVal 3 env fun v env => xSl (some v) fun a3 n3 c3 e3 => eVal 8 env fun v env => eInt .i64 v fun x8 => eVal 10 env fun v env => xStr (some v) fun x10 => eVal 48 env fun v env => xSl (some v) fun a48 n48 c48 e48 => eVal 49 env fun v env => eInt .i64 v fun x49 => eVal 50 env fun v env => eInt .i64 v fun x50 => eVal 58 env fun v env => xSl (some v) fun a58 n58 c58 e58 => eVal 59 env fun v env => eInt .i64 v fun x59 => eVal 60 env fun v env => eInt .i64 v fun x60 => eNil env (R20 x0 a3 n3 c3 e3 x8 x10 a48 n48 c48 e48 x49 x50 a58 n58 c58 e58 x59 x60 h)
theorem E20elim {R20 : T20} {env : Env} {h : AHeap} (hi : E20 R20 env h) : ∃ x0, ∃ a3, ∃ n3, ∃ c3, ∃ e3, ∃ x8, ∃ x10, ∃ a48, ∃ n48, ∃ c48, ∃ e48, ∃ x49, ∃ x50, ∃ a58, ∃ n58, ∃ c58, ∃ e58, ∃ x59, ∃ x60, env = [(0, .int .i64 x0), (3, .slice a3 n3 c3 e3), (8, .int .i64 x8), (10, .str x10), (48, .slice a48 n48 c48 e48), (49, .int .i64 x49), (50, .int .i64 x50), (58, .slice a58 n58 c58 e58), (59, .int .i64 x59), (60, .int .i64 x60)] ∧ R20 x0 a3 n3 c3 e3 x8 x10 a48 n48 c48 e48 x49 x50 a58 n58 c58 e58 x59 x60 h := by
  unfold E20 at hi
  have hi0 := hi
  clear hi
  obtain ⟨v, env, rfl, hi1⟩ := eVal_elim hi0
  obtain ⟨x0, rfl, hi2⟩ := eInt_elim hi1
  obtain ⟨v, env, rfl, hi3⟩ := eVal_elim hi2
  obtain ⟨a3, n3, c3, e3, rfl, hi4⟩ := xSl_elim hi3
  obtain ⟨v, env, rfl, hi5⟩ := eVal_elim hi4
  obtain ⟨x8, rfl, hi6⟩ := eInt_elim hi5
  obtain ⟨v, env, rfl, hi7⟩ := eVal_elim hi6
  obtain ⟨x10, rfl, hi8⟩ := xStr_elim hi7
  obtain ⟨v, env, rfl, hi9⟩ := eVal_elim hi8
  obtain ⟨a48, n48, c48, e48, rfl, hi10⟩ := xSl_elim hi9
  obtain ⟨v, env, rfl, hi11⟩ := eVal_elim hi10
  obtain ⟨x49, rfl, hi12⟩ := eInt_elim hi11
  obtain ⟨v, env, rfl, hi13⟩ := eVal_elim hi12
  obtain ⟨x50, rfl, hi14⟩ := eInt_elim hi13
  obtain ⟨v, env, rfl, hi15⟩ := eVal_elim hi14
  obtain ⟨a58, n58, c58, e58, rfl, hi16⟩ := xSl_elim hi15
  obtain ⟨v, env, rfl, hi17⟩ := eVal_elim hi16
  obtain ⟨x59, rfl, hi18⟩ := eInt_elim hi17
  obtain ⟨v, env, rfl, hi19⟩ := eVal_elim hi18
  obtain ⟨x60, rfl, hi20⟩ := eInt_elim hi19
  obtain ⟨rfl, hi21⟩ := eNil_elim hi20
  have hi := hi21
  exact ⟨x0, a3, n3, c3, e3, x8, x10, a48, n48, c48, e48, x49, x50, a58, n58, c58, e58, x59, x60, rfl, hi⟩
def K0 (Q : QT) : KT := andThen (fun env' h' => (match kp.find 4000013 with | some ks => Den pg fn.ntmps (C [1, 1, 1, 1]) (env'.keep ks) h' (KR Q) | none => den pg fn.ntmps kp (C [1, 1, 1, 1]) env' h' (KR Q))) (KR Q)
def K1 (Q : QT) : KT := onExit 0 (K0 Q)
def K2 (Q : QT) : KT := left kp 5 (K1 Q)
def K3 (Q : QT) (R5 : T5) : KT := rnd ((kp.find 1000005).getD []) (E5 R5) (K2 Q)
def K4 (Q : QT) (R5 : T5) : KT := andThen (fun env' h' => (match kp.find 4000012 with | some ks => Den pg fn.ntmps (C [1, 1, 1, 0, 1, 0, 0, 1, 1, 1]) (env'.keep ks) h' (K3 Q R5) | none => den pg fn.ntmps kp (C [1, 1, 1, 0, 1, 0, 0, 1, 1, 1]) env' h' (K3 Q R5))) (K3 Q R5)
def K5 (Q : QT) (R5 : T5) : KT := onExit 1 (K4 Q R5)
def K6 (Q : QT) (R5 : T5) : KT := onExit 2 (K5 Q R5)
def K7 (Q : QT) (R5 : T5) : KT := left kp 8 (K6 Q R5)
def K8 (Q : QT) (R5 : T5) (R8 : T8) : KT := rnd ((kp.find 1000008).getD []) (E8 R8) (K7 Q R5)
def K9 (Q : QT) : KT := andThen (fun env' h' => (match kp.find 4000025 with | some ks => Den pg fn.ntmps (C [1, 1, 1, 1, 1]) (env'.keep ks) h' (KR Q) | none => den pg fn.ntmps kp (C [1, 1, 1, 1, 1]) env' h' (KR Q))) (KR Q)
def K10 (Q : QT) : KT := onExit 4 (K9 Q)
def K11 (Q : QT) : KT := left kp 14 (K10 Q)
def K12 (Q : QT) (R14 : T14) : KT := rnd ((kp.find 1000014).getD []) (E14 R14) (K11 Q)
def K13 (Q : QT) (R14 : T14) : KT := andThen (fun env' h' => (match kp.find 4000015 with | some ks => Den pg fn.ntmps (C [1, 1, 1, 1, 0, 1, 0, 0, 1, 1]) (env'.keep ks) h' (K12 Q R14) | none => den pg fn.ntmps kp (C [1, 1, 1, 1, 0, 1, 0, 0, 1, 1]) env' h' (K12 Q R14))) (K12 Q R14)
def K14 (Q : QT) (R14 : T14) : KT := onExit 5 (K13 Q R14)
def K15 (Q : QT) (R14 : T14) : KT := onExit 6 (K14 Q R14)
def K16 (Q : QT) (R14 : T14) : KT := left kp 17 (K15 Q R14)
def K17 (Q : QT) (R14 : T14) (R17 : T17) : KT := rnd ((kp.find 1000017).getD []) (E17 R17) (K16 Q R14)
def K18 (Q : QT) (R14 : T14) (R17 : T17) : KT := andThen (fun env' h' => (match kp.find 4000024 with | some ks => Den pg fn.ntmps (C [1, 1, 1, 1, 0, 1, 0, 0, 1, 0, 0, 1, 0, 0, 1, 1, 1]) (env'.keep ks) h' (K17 Q R14 R17) | none => den pg fn.ntmps kp (C [1, 1, 1, 1, 0, 1, 0, 0, 1, 0, 0, 1, 0, 0, 1, 1, 1]) env' h' (K17 Q R14 R17))) (K17 Q R14 R17)
def K19 (Q : QT) (R14 : T14) (R17 : T17) : KT := onExit 7 (K18 Q R14 R17)
def K20 (Q : QT) (R14 : T14) (R17 : T17) : KT := onExit 8 (K19 Q R14 R17)
def K21 (Q : QT) (R14 : T14) (R17 : T17) : KT := left kp 20 (K20 Q R14 R17)
def K22 (Q : QT) (R14 : T14) (R17 : T17) (R20 : T20) : KT := rnd ((kp.find 1000020).getD []) (E20 R20) (K21 Q R14 R17)
def L5 (Q : QT) (x0 : Int) (a3 : Pt) (n3 c3 : Nat) (e3 : Bool) (a17 : Pt) (n17 c17 : Nat) (e17 : Bool) (x18 x19 : Int) (h : AHeap) : Prop := Loop (Den pg fn.ntmps (C [1, 1, 1, 0, 1, 0, 0])) ((kp.find 1000005).getD []) (K2 Q) [(0, .int .i64 x0), (3, .slice a3 n3 c3 e3), (17, .slice a17 n17 c17 e17), (18, .int .i64 x18), (19, .int .i64 x19)] h
def L8 (Q : QT) (R5 : T5) (x0 : Int) (a3 : Pt) (n3 c3 : Nat) (e3 : Bool) (x5 : List Nat) (a17 : Pt) (n17 c17 : Nat) (e17 : Bool) (x18 x19 : Int) (a25 : Pt) (n25 c25 : Nat) (e25 : Bool) (x26 x27 : Int) (h : AHeap) : Prop := Loop (Den pg fn.ntmps (C [1, 1, 1, 0, 1, 0, 0, 1, 1, 0, 0, 1, 1, 0, 0])) ((kp.find 1000008).getD []) (K7 Q R5) [(0, .int .i64 x0), (3, .slice a3 n3 c3 e3), (5, .str x5), (17, .slice a17 n17 c17 e17), (18, .int .i64 x18), (19, .int .i64 x19), (25, .slice a25 n25 c25 e25), (26, .int .i64 x26), (27, .int .i64 x27)] h
def A5x0 (Q : QT) (x0 : Int) (a3 : Pt) (n3 c3 : Nat) (e3 : Bool) (h : AHeap) : Prop := At (K1 Q) (.exit 0) [(0, .int .i64 x0), (3, .slice a3 n3 c3 e3)] h
def A8x2 (Q : QT) (R5 : T5) (x19 x18 : Int) (a17 : Pt) (n17 c17 : Nat) (e17 : Bool) (x0 : Int) (a3 : Pt) (n3 c3 : Nat) (e3 : Bool) (h : AHeap) : Prop := At (K6 Q R5) (.exit 2) [(19, .int .i64 x19), (18, .int .i64 x18), (17, .slice a17 n17 c17 e17), (0, .int .i64 x0), (3, .slice a3 n3 c3 e3)] h
def L14 (Q : QT) (x0 : Int) (a3 : Pt) (n3 c3 : Nat) (e3 : Bool) (x8 : Int) (h : AHeap) : Prop := Loop (Den pg fn.ntmps (C [1, 1, 1, 1, 0, 1, 0, 0])) ((kp.find 1000014).getD []) (K11 Q) [(0, .int .i64 x0), (3, .slice a3 n3 c3 e3), (8, .int .i64 x8)] h
def L17 (Q : QT) (R14 : T14) (x0 : Int) (a3 : Pt) (n3 c3 : Nat) (e3 : Bool) (x8 : Int) (a48 : Pt) (n48 c48 : Nat) (e48 : Bool) (x49 x50 : Int) (h : AHeap) : Prop := Loop (Den pg fn.ntmps (C [1, 1, 1, 1, 0, 1, 0, 0, 1, 0, 0, 1, 0, 0])) ((kp.find 1000017).getD []) (K16 Q R14) [(0, .int .i64 x0), (3, .slice a3 n3 c3 e3), (8, .int .i64 x8), (48, .slice a48 n48 c48 e48), (49, .int .i64 x49), (50, .int .i64 x50)] h
def A14x4 (Q : QT) (a3 : Pt) (n3 c3 : Nat) (e3 : Bool) (h : AHeap) : Prop := At (K10 Q) (.exit 4) [(3, .slice a3 n3 c3 e3)] h
def L20 (Q : QT) (R14 : T14) (R17 : T17) (x0 : Int) (a3 : Pt) (n3 c3 : Nat) (e3 : Bool) (x8 : Int) (x10 : List Nat) (a48 : Pt) (n48 c48 : Nat) (e48 : Bool) (x49 x50 : Int) (a58 : Pt) (n58 c58 : Nat) (e58 : Bool) (x59 x60 : Int) (h : AHeap) : Prop := Loop (Den pg fn.ntmps (C [1, 1, 1, 1, 0, 1, 0, 0, 1, 0, 0, 1, 0, 0, 1, 1, 0, 0, 1, 1, 0, 0])) ((kp.find 1000020).getD []) (K21 Q R14 R17) [(0, .int .i64 x0), (3, .slice a3 n3 c3 e3), (8, .int .i64 x8), (10, .str x10), (48, .slice a48 n48 c48 e48), (49, .int .i64 x49), (50, .int .i64 x50), (58, .slice a58 n58 c58 e58), (59, .int .i64 x59), (60, .int .i64 x60)] h
def A17x6 (Q : QT) (R14 : T14) (x8 x0 : Int) (a3 : Pt) (n3 c3 : Nat) (e3 : Bool) (h : AHeap) : Prop := At (K15 Q R14) (.exit 6) [(8, .int .i64 x8), (0, .int .i64 x0), (3, .slice a3 n3 c3 e3)] h
def A20x8 (Q : QT) (R14 : T14) (R17 : T17) (x50 x49 : Int) (a48 : Pt) (n48 c48 : Nat) (e48 : Bool) (x0 x8 : Int) (a3 : Pt) (n3 c3 : Nat) (e3 : Bool) (h : AHeap) : Prop := At (K20 Q R14 R17) (.exit 8) [(50, .int .i64 x50), (49, .int .i64 x49), (48, .slice a48 n48 c48 e48), (0, .int .i64 x0), (8, .int .i64 x8), (3, .slice a3 n3 c3 e3)] h
def L5t (Q : QT) (R5 : T5) (x0 : Int) (a3 : Pt) (n3 c3 : Nat) (e3 : Bool) (a17 : Pt) (n17 c17 : Nat) (e17 : Bool) (x18 x19 : Int) (h : AHeap) : Prop :=
 bcase (decide ((x19 : Int) < x18)) ((0 ≤ (x19 : Int) ∧ (x19 : Int) < (n17 : Nat)) ∧ (xSome a17 fun i_3 o_4 => xStr (hCell h (.ptr (some (i_3, o_4 + (Int.toNat x19) * 1)))) fun s_5 => SCall pg n_impl_sized [.int .i64 (IntKind.wrap .i64 (x0 - 1))] h fun v_6 h_7 =>
 xSl (some v_6) fun a_8 n_9 c_10 e_11 => L8 Q R5 x0 a3 n3 c3 e3 s_5 a17 n17 c17 e17 x18 x19 a_8 n_9 c_10 e_11 (((n_9 : Nat) : Int)) 0 h_7)) (A5x0 Q x0 a3 n3 c3 e3 h)
theorem L5den (Q : QT) (R5 : T5) (x0 : Int) (a3 : Pt) (n3 c3 : Nat) (e3 : Bool) (a17 : Pt) (n17 c17 : Nat) (e17 : Bool) (x18 x19 : Int) (h : AHeap) (ht : L5t Q R5 x0 a3 n3 c3 e3 a17 n17 c17 e17 x18 x19 h) : Den pg fn.ntmps (C [1, 1, 1, 0, 1, 0, 0]) [(0, .int .i64 x0), (3, .slice a3 n3 c3 e3), (17, .slice a17 n17 c17 e17), (18, .int .i64 x18), (19, .int .i64 x19)] h (K3 Q R5) :=
  den_Den (kp := kp) (@cast _ (den pg fn.ntmps kp (C [1, 1, 1, 0, 1, 0, 0]) [(0, .int .i64 x0), (3, .slice a3 n3 c3 e3), (17, .slice a17 n17 c17 e17), (18, .int .i64 x18), (19, .int .i64 x19)] h (K3 Q R5)) (by kernel_rfl) ht)
theorem L5ind (Q : QT) (x0 : Int) (a17 : Pt) (n17 c17 : Nat) (e17 : Bool) (x18 : Int) {G : Type} (J : G → Pt → Nat → Nat → Bool → Int → AHeap → Prop) (m : G → Nat)
 (hr : ∀ (g : G) (a3 : Pt) (n3 c3 : Nat) (e3 : Bool) (x19 : Int) (h : AHeap), J g a3 n3 c3 e3 x19 h → ∀ (R5 : T5), (∀ g' (a3 : Pt) (n3 c3 : Nat) (e3 : Bool) (x19 : Int) (h : AHeap), m g' < m g → J g' a3 n3 c3 e3 x19 h → R5 x0 a3 n3 c3 e3 a17 n17 c17 e17 x18 x19 h) → L5t Q R5 x0 a3 n3 c3 e3 a17 n17 c17 e17 x18 x19 h)
 (g : G) (a3 : Pt) (n3 c3 : Nat) (e3 : Bool) (x19 : Int) (h : AHeap) (hj : J g a3 n3 c3 e3 x19 h) : L5 Q x0 a3 n3 c3 e3 a17 n17 c17 e17 x18 x19 h := by
  refine Loop.inv2 (fun g => E5 fun x0' a3 n3 c3 e3 a17' n17' c17' e17' x18' x19 h => x0 = x0' ∧ a17 = a17' ∧ n17 = n17' ∧ c17 = c17' ∧ e17 = e17' ∧ x18 = x18' ∧ J g a3 n3 c3 e3 x19 h) (fun g => E5 fun x0' a3 n3 c3 e3 a17' n17' c17' e17' x18' x19 h => x0 = x0' ∧ a17 = a17' ∧ n17 = n17' ∧ c17 = c17' ∧ e17 = e17' ∧ x18 = x18' ∧ ∃ g', m g' < m g ∧ J g' a3 n3 c3 e3 x19 h) m ?_ ?_ g ⟨rfl, rfl, rfl, rfl, rfl, rfl, hj⟩
  · intro g env h hi
    obtain ⟨x0', a3, n3, c3, e3, a17', n17', c17', e17', x18', x19, rfl, rfl, rfl, rfl, rfl, rfl, rfl, hj⟩ := E5elim hi
    exact L5den Q (fun x0' a3 n3 c3 e3 a17' n17' c17' e17' x18' x19 h => x0 = x0' ∧ a17 = a17' ∧ n17 = n17' ∧ c17 = c17' ∧ e17 = e17' ∧ x18 = x18' ∧ ∃ g', m g' < m g ∧ J g' a3 n3 c3 e3 x19 h) x0 a3 n3 c3 e3 a17 n17 c17 e17 x18 x19 h (hr g a3 n3 c3 e3 x19 h hj (fun x0' a3 n3 c3 e3 a17' n17' c17' e17' x18' x19 h => x0 = x0' ∧ a17 = a17' ∧ n17 = n17' ∧ c17 = c17' ∧ e17 = e17' ∧ x18 = x18' ∧ ∃ g', m g' < m g ∧ J g' a3 n3 c3 e3 x19 h) fun g' a3 n3 c3 e3 x19 h hlt hj => ⟨rfl, rfl, rfl, rfl, rfl, rfl, g', hlt, hj⟩)
  · intro g env h hi
    obtain ⟨x0', a3, n3, c3, e3, a17', n17', c17', e17', x18', x19, rfl, rfl, rfl, rfl, rfl, rfl, rfl, g', hlt, hj⟩ := E5elim hi
    exact ⟨g', hlt, rfl, rfl, rfl, rfl, rfl, rfl, hj⟩
def L8t (Q : QT) (R5 : T5) (R8 : T8) (x0 : Int) (a3 : Pt) (n3 c3 : Nat) (e3 : Bool) (x5 : List Nat) (a17 : Pt) (n17 c17 : Nat) (e17 : Bool) (x18 x19 : Int) (a25 : Pt) (n25 c25 : Nat) (e25 : Bool) (x26 x27 : Int) (h : AHeap) : Prop :=
 bcase (decide ((x27 : Int) < x26)) ((0 ≤ (x27 : Int) ∧ (x27 : Int) < (n25 : Nat)) ∧ (xSome a25 fun i_12 o_13 => xStr (hCell h (.ptr (some (i_12, o_13 + (Int.toNat x27) * 1)))) fun s_14 => List.length x5 + List.length [40] ≤ 9223372036854775807 ∧ (List.length (x5 ++ [40]) + List.length s_14 ≤ 9223372036854775807 ∧ (List.length ((x5 ++ [40]) ++ s_14) + List.length [41] ≤ 9223372036854775807 ∧ (letH (h ++ [.cells t_string [.str (((x5 ++ [40]) ++ s_14) ++ [41])] false]) fun h_15 => appendA pg t_L_string h_15 (.slice a3 n3 c3 e3) (.slice (some (List.length h, 0)) 1 1 true) fun v_16 h_17 => xSl (some v_16) fun a_18 n_19 c_20 e_21 => R8 x0 a_18 n_19 c_20 e_21 x5 a17 n17 c17 e17 x18 x19 a25 n25 c25 e25 x26 (IntKind.wrap .i64 (x27 + 1)) h_17))))) (A8x2 Q R5 x19 x18 a17 n17 c17 e17 x0 a3 n3 c3 e3 h)
theorem L8den (Q : QT) (R5 : T5) (R8 : T8) (x0 : Int) (a3 : Pt) (n3 c3 : Nat) (e3 : Bool) (x5 : List Nat) (a17 : Pt) (n17 c17 : Nat) (e17 : Bool) (x18 x19 : Int) (a25 : Pt) (n25 c25 : Nat) (e25 : Bool) (x26 x27 : Int) (h : AHeap) (ht : L8t Q R5 R8 x0 a3 n3 c3 e3 x5 a17 n17 c17 e17 x18 x19 a25 n25 c25 e25 x26 x27 h) : Den pg fn.ntmps (C [1, 1, 1, 0, 1, 0, 0, 1, 1, 0, 0, 1, 1, 0, 0]) [(0, .int .i64 x0), (3, .slice a3 n3 c3 e3), (5, .str x5), (17, .slice a17 n17 c17 e17), (18, .int .i64 x18), (19, .int .i64 x19), (25, .slice a25 n25 c25 e25), (26, .int .i64 x26), (27, .int .i64 x27)] h (K8 Q R5 R8) :=
  den_Den (kp := kp) (@cast _ (den pg fn.ntmps kp (C [1, 1, 1, 0, 1, 0, 0, 1, 1, 0, 0, 1, 1, 0, 0]) [(0, .int .i64 x0), (3, .slice a3 n3 c3 e3), (5, .str x5), (17, .slice a17 n17 c17 e17), (18, .int .i64 x18), (19, .int .i64 x19), (25, .slice a25 n25 c25 e25), (26, .int .i64 x26), (27, .int .i64 x27)] h (K8 Q R5 R8)) (by kernel_rfl) ht)
theorem L8ind (Q : QT) (R5 : T5) (x0 : Int) (x5 : List Nat) (a17 : Pt) (n17 c17 : Nat) (e17 : Bool) (x18 x19 : Int) (a25 : Pt) (n25 c25 : Nat) (e25 : Bool) (x26 : Int) {G : Type} (J : G → Pt → Nat → Nat → Bool → Int → AHeap → Prop) (m : G → Nat)
 (hr : ∀ (g : G) (a3 : Pt) (n3 c3 : Nat) (e3 : Bool) (x27 : Int) (h : AHeap), J g a3 n3 c3 e3 x27 h → ∀ (R8 : T8), (∀ g' (a3 : Pt) (n3 c3 : Nat) (e3 : Bool) (x27 : Int) (h : AHeap), m g' < m g → J g' a3 n3 c3 e3 x27 h → R8 x0 a3 n3 c3 e3 x5 a17 n17 c17 e17 x18 x19 a25 n25 c25 e25 x26 x27 h) → L8t Q R5 R8 x0 a3 n3 c3 e3 x5 a17 n17 c17 e17 x18 x19 a25 n25 c25 e25 x26 x27 h)
 (g : G) (a3 : Pt) (n3 c3 : Nat) (e3 : Bool) (x27 : Int) (h : AHeap) (hj : J g a3 n3 c3 e3 x27 h) : L8 Q R5 x0 a3 n3 c3 e3 x5 a17 n17 c17 e17 x18 x19 a25 n25 c25 e25 x26 x27 h := by
  refine Loop.inv2 (fun g => E8 fun x0' a3 n3 c3 e3 x5' a17' n17' c17' e17' x18' x19' a25' n25' c25' e25' x26' x27 h => x0 = x0' ∧ x5 = x5' ∧ a17 = a17' ∧ n17 = n17' ∧ c17 = c17' ∧ e17 = e17' ∧ x18 = x18' ∧ x19 = x19' ∧ a25 = a25' ∧ n25 = n25' ∧ c25 = c25' ∧ e25 = e25' ∧ x26 = x26' ∧ J g a3 n3 c3 e3 x27 h) (fun g => E8 fun x0' a3 n3 c3 e3 x5' a17' n17' c17' e17' x18' x19' a25' n25' c25' e25' x26' x27 h => x0 = x0' ∧ x5 = x5' ∧ a17 = a17' ∧ n17 = n17' ∧ c17 = c17' ∧ e17 = e17' ∧ x18 = x18' ∧ x19 = x19' ∧ a25 = a25' ∧ n25 = n25' ∧ c25 = c25' ∧ e25 = e25' ∧ x26 = x26' ∧ ∃ g', m g' < m g ∧ J g' a3 n3 c3 e3 x27 h) m ?_ ?_ g ⟨rfl, rfl, rfl, rfl, rfl, rfl, rfl, rfl, rfl, rfl, rfl, rfl, rfl, hj⟩
  · intro g env h hi
    obtain ⟨x0', a3, n3, c3, e3, x5', a17', n17', c17', e17', x18', x19', a25', n25', c25', e25', x26', x27, rfl, rfl, rfl, rfl, rfl, rfl, rfl, rfl, rfl, rfl, rfl, rfl, rfl, rfl, hj⟩ := E8elim hi
    exact L8den Q R5 (fun x0' a3 n3 c3 e3 x5' a17' n17' c17' e17' x18' x19' a25' n25' c25' e25' x26' x27 h => x0 = x0' ∧ x5 = x5' ∧ a17 = a17' ∧ n17 = n17' ∧ c17 = c17' ∧ e17 = e17' ∧ x18 = x18' ∧ x19 = x19' ∧ a25 = a25' ∧ n25 = n25' ∧ c25 = c25' ∧ e25 = e25' ∧ x26 = x26' ∧ ∃ g', m g' < m g ∧ J g' a3 n3 c3 e3 x27 h) x0 a3 n3 c3 e3 x5 a17 n17 c17 e17 x18 x19 a25 n25 c25 e25 x26 x27 h (hr g a3 n3 c3 e3 x27 h hj (fun x0' a3 n3 c3 e3 x5' a17' n17' c17' e17' x18' x19' a25' n25' c25' e25' x26' x27 h => x0 = x0' ∧ x5 = x5' ∧ a17 = a17' ∧ n17 = n17' ∧ c17 = c17' ∧ e17 = e17' ∧ x18 = x18' ∧ x19 = x19' ∧ a25 = a25' ∧ n25 = n25' ∧ c25 = c25' ∧ e25 = e25' ∧ x26 = x26' ∧ ∃ g', m g' < m g ∧ J g' a3 n3 c3 e3 x27 h) fun g' a3 n3 c3 e3 x27 h hlt hj => ⟨rfl, rfl, rfl, rfl, rfl, rfl, rfl, rfl, rfl, rfl, rfl, rfl, rfl, g', hlt, hj⟩)
  · intro g env h hi
    obtain ⟨x0', a3, n3, c3, e3, x5', a17', n17', c17', e17', x18', x19', a25', n25', c25', e25', x26', x27, rfl, rfl, rfl, rfl, rfl, rfl, rfl, rfl, rfl, rfl, rfl, rfl, rfl, rfl, g', hlt, hj⟩ := E8elim hi
    exact ⟨g', hlt, rfl, rfl, rfl, rfl, rfl, rfl, rfl, rfl, rfl, rfl, rfl, rfl, rfl, hj⟩
theorem A5x0i (Q : QT) (x0 : Int) (a3 : Pt) (n3 c3 : Nat) (e3 : Bool) (h : AHeap) (ht :
 L14 Q x0 a3 n3 c3 e3 1 h) : A5x0 Q x0 a3 n3 c3 e3 h :=
  At.mk (@cast _ ((K1 Q) (.exit 0) [(0, .int .i64 x0), (3, .slice a3 n3 c3 e3)] h) (by kernel_rfl) ht)
theorem A8x2i (Q : QT) (R5 : T5) (x19 x18 : Int) (a17 : Pt) (n17 c17 : Nat) (e17 : Bool) (x0 : Int) (a3 : Pt) (n3 c3 : Nat) (e3 : Bool) (h : AHeap) (ht :
 R5 x0 a3 n3 c3 e3 a17 n17 c17 e17 x18 (IntKind.wrap .i64 (x19 + 1)) h) : A8x2 Q R5 x19 x18 a17 n17 c17 e17 x0 a3 n3 c3 e3 h :=
  At.mk (@cast _ ((K6 Q R5) (.exit 2) [(19, .int .i64 x19), (18, .int .i64 x18), (17, .slice a17 n17 c17 e17), (0, .int .i64 x0), (3, .slice a3 n3 c3 e3)] h) (by kernel_rfl) ht)
def L14t (Q : QT) (R14 : T14) (x0 : Int) (a3 : Pt) (n3 c3 : Nat) (e3 : Bool) (x8 : Int) (h : AHeap) : Prop :=
 bcase (decide ((x8 : Int) < (IntKind.wrap .i64 (x0 - 1)))) (SCall pg n_impl_sized [.int .i64 x8] h fun v_22 h_23 =>
 xSl (some v_22) fun a_24 n_25 c_26 e_27 => L17 Q R14 x0 a3 n3 c3 e3 x8 a_24 n_25 c_26 e_27 (((n_25 : Nat) : Int)) 0 h_23) (A14x4 Q a3 n3 c3 e3 h)
theorem L14den (Q : QT) (R14 : T14) (x0 : Int) (a3 : Pt) (n3 c3 : Nat) (e3 : Bool) (x8 : Int) (h : AHeap) (ht : L14t Q R14 x0 a3 n3 c3 e3 x8 h) : Den pg fn.ntmps (C [1, 1, 1, 1, 0, 1, 0, 0]) [(0, .int .i64 x0), (3, .slice a3 n3 c3 e3), (8, .int .i64 x8)] h (K12 Q R14) :=
  den_Den (kp := kp) (@cast _ (den pg fn.ntmps kp (C [1, 1, 1, 1, 0, 1, 0, 0]) [(0, .int .i64 x0), (3, .slice a3 n3 c3 e3), (8, .int .i64 x8)] h (K12 Q R14)) (by kernel_rfl) ht)
theorem L14ind (Q : QT) (x0 : Int) {G : Type} (J : G → Pt → Nat → Nat → Bool → Int → AHeap → Prop) (m : G → Nat)
 (hr : ∀ (g : G) (a3 : Pt) (n3 c3 : Nat) (e3 : Bool) (x8 : Int) (h : AHeap), J g a3 n3 c3 e3 x8 h → ∀ (R14 : T14), (∀ g' (a3 : Pt) (n3 c3 : Nat) (e3 : Bool) (x8 : Int) (h : AHeap), m g' < m g → J g' a3 n3 c3 e3 x8 h → R14 x0 a3 n3 c3 e3 x8 h) → L14t Q R14 x0 a3 n3 c3 e3 x8 h)
 (g : G) (a3 : Pt) (n3 c3 : Nat) (e3 : Bool) (x8 : Int) (h : AHeap) (hj : J g a3 n3 c3 e3 x8 h) : L14 Q x0 a3 n3 c3 e3 x8 h := by
  refine Loop.inv2 (fun g => E14 fun x0' a3 n3 c3 e3 x8 h => x0 = x0' ∧ J g a3 n3 c3 e3 x8 h) (fun g => E14 fun x0' a3 n3 c3 e3 x8 h => x0 = x0' ∧ ∃ g', m g' < m g ∧ J g' a3 n3 c3 e3 x8 h) m ?_ ?_ g ⟨rfl, hj⟩
  · intro g env h hi
    obtain ⟨x0', a3, n3, c3, e3, x8, rfl, rfl, hj⟩ := E14elim hi
    exact L14den Q (fun x0' a3 n3 c3 e3 x8 h => x0 = x0' ∧ ∃ g', m g' < m g ∧ J g' a3 n3 c3 e3 x8 h) x0 a3 n3 c3 e3 x8 h (hr g a3 n3 c3 e3 x8 h hj (fun x0' a3 n3 c3 e3 x8 h => x0 = x0' ∧ ∃ g', m g' < m g ∧ J g' a3 n3 c3 e3 x8 h) fun g' a3 n3 c3 e3 x8 h hlt hj => ⟨rfl, g', hlt, hj⟩)
  · intro g env h hi
    obtain ⟨x0', a3, n3, c3, e3, x8, rfl, rfl, g', hlt, hj⟩ := E14elim hi
    exact ⟨g', hlt, rfl, hj⟩
def L17t (Q : QT) (R14 : T14) (R17 : T17) (x0 : Int) (a3 : Pt) (n3 c3 : Nat) (e3 : Bool) (x8 : Int) (a48 : Pt) (n48 c48 : Nat) (e48 : Bool) (x49 x50 : Int) (h : AHeap) : Prop :=
 bcase (decide ((x50 : Int) < x49)) ((0 ≤ (x50 : Int) ∧ (x50 : Int) < (n48 : Nat)) ∧ (xSome a48 fun i_28 o_29 => xStr (hCell h (.ptr (some (i_28, o_29 + (Int.toNat x50) * 1)))) fun s_30 => SCall pg n_impl_sized [.int .i64 (IntKind.wrap .i64 ((IntKind.wrap .i64 (x0 - 1)) - x8))] h fun v_31 h_32 =>
 xSl (some v_31) fun a_33 n_34 c_35 e_36 => L20 Q R14 R17 x0 a3 n3 c3 e3 x8 s_30 a48 n48 c48 e48 x49 x50 a_33 n_34 c_35 e_36 (((n_34 : Nat) : Int)) 0 h_32)) (A17x6 Q R14 x8 x0 a3 n3 c3 e3 h)
theorem L17den (Q : QT) (R14 : T14) (R17 : T17) (x0 : Int) (a3 : Pt) (n3 c3 : Nat) (e3 : Bool) (x8 : Int) (a48 : Pt) (n48 c48 : Nat) (e48 : Bool) (x49 x50 : Int) (h : AHeap) (ht : L17t Q R14 R17 x0 a3 n3 c3 e3 x8 a48 n48 c48 e48 x49 x50 h) : Den pg fn.ntmps (C [1, 1, 1, 1, 0, 1, 0, 0, 1, 0, 0, 1, 0, 0]) [(0, .int .i64 x0), (3, .slice a3 n3 c3 e3), (8, .int .i64 x8), (48, .slice a48 n48 c48 e48), (49, .int .i64 x49), (50, .int .i64 x50)] h (K17 Q R14 R17) :=
  den_Den (kp := kp) (@cast _ (den pg fn.ntmps kp (C [1, 1, 1, 1, 0, 1, 0, 0, 1, 0, 0, 1, 0, 0]) [(0, .int .i64 x0), (3, .slice a3 n3 c3 e3), (8, .int .i64 x8), (48, .slice a48 n48 c48 e48), (49, .int .i64 x49), (50, .int .i64 x50)] h (K17 Q R14 R17)) (by kernel_rfl) ht)
theorem L17ind (Q : QT) (R14 : T14) (x0 x8 : Int) (a48 : Pt) (n48 c48 : Nat) (e48 : Bool) (x49 : Int) {G : Type} (J : G → Pt → Nat → Nat → Bool → Int → AHeap → Prop) (m : G → Nat)
 (hr : ∀ (g : G) (a3 : Pt) (n3 c3 : Nat) (e3 : Bool) (x50 : Int) (h : AHeap), J g a3 n3 c3 e3 x50 h → ∀ (R17 : T17), (∀ g' (a3 : Pt) (n3 c3 : Nat) (e3 : Bool) (x50 : Int) (h : AHeap), m g' < m g → J g' a3 n3 c3 e3 x50 h → R17 x0 a3 n3 c3 e3 x8 a48 n48 c48 e48 x49 x50 h) → L17t Q R14 R17 x0 a3 n3 c3 e3 x8 a48 n48 c48 e48 x49 x50 h)
 (g : G) (a3 : Pt) (n3 c3 : Nat) (e3 : Bool) (x50 : Int) (h : AHeap) (hj : J g a3 n3 c3 e3 x50 h) : L17 Q R14 x0 a3 n3 c3 e3 x8 a48 n48 c48 e48 x49 x50 h := by
  refine Loop.inv2 (fun g => E17 fun x0' a3 n3 c3 e3 x8' a48' n48' c48' e48' x49' x50 h => x0 = x0' ∧ x8 = x8' ∧ a48 = a48' ∧ n48 = n48' ∧ c48 = c48' ∧ e48 = e48' ∧ x49 = x49' ∧ J g a3 n3 c3 e3 x50 h) (fun g => E17 fun x0' a3 n3 c3 e3 x8' a48' n48' c48' e48' x49' x50 h => x0 = x0' ∧ x8 = x8' ∧ a48 = a48' ∧ n48 = n48' ∧ c48 = c48' ∧ e48 = e48' ∧ x49 = x49' ∧ ∃ g', m g' < m g ∧ J g' a3 n3 c3 e3 x50 h) m ?_ ?_ g ⟨rfl, rfl, rfl, rfl, rfl, rfl, rfl, hj⟩
  · intro g env h hi
    obtain ⟨x0', a3, n3, c3, e3, x8', a48', n48', c48', e48', x49', x50, rfl, rfl, rfl, rfl, rfl, rfl, rfl, rfl, hj⟩ := E17elim hi
    exact L17den Q R14 (fun x0' a3 n3 c3 e3 x8' a48' n48' c48' e48' x49' x50 h => x0 = x0' ∧ x8 = x8' ∧ a48 = a48' ∧ n48 = n48' ∧ c48 = c48' ∧ e48 = e48' ∧ x49 = x49' ∧ ∃ g', m g' < m g ∧ J g' a3 n3 c3 e3 x50 h) x0 a3 n3 c3 e3 x8 a48 n48 c48 e48 x49 x50 h (hr g a3 n3 c3 e3 x50 h hj (fun x0' a3 n3 c3 e3 x8' a48' n48' c48' e48' x49' x50 h => x0 = x0' ∧ x8 = x8' ∧ a48 = a48' ∧ n48 = n48' ∧ c48 = c48' ∧ e48 = e48' ∧ x49 = x49' ∧ ∃ g', m g' < m g ∧ J g' a3 n3 c3 e3 x50 h) fun g' a3 n3 c3 e3 x50 h hlt hj => ⟨rfl, rfl, rfl, rfl, rfl, rfl, rfl, g', hlt, hj⟩)
  · intro g env h hi
    obtain ⟨x0', a3, n3, c3, e3, x8', a48', n48', c48', e48', x49', x50, rfl, rfl, rfl, rfl, rfl, rfl, rfl, rfl, g', hlt, hj⟩ := E17elim hi
    exact ⟨g', hlt, rfl, rfl, rfl, rfl, rfl, rfl, rfl, hj⟩
theorem A14x4i (Q : QT) (a3 : Pt) (n3 c3 : Nat) (e3 : Bool) (h : AHeap) (ht :
 Q (.slice a3 n3 c3 e3) h) : A14x4 Q a3 n3 c3 e3 h :=
  At.mk (@cast _ ((K10 Q) (.exit 4) [(3, .slice a3 n3 c3 e3)] h) (by kernel_rfl) ht)
def L20t (Q : QT) (R14 : T14) (R17 : T17) (R20 : T20) (x0 : Int) (a3 : Pt) (n3 c3 : Nat) (e3 : Bool) (x8 : Int) (x10 : List Nat) (a48 : Pt) (n48 c48 : Nat) (e48 : Bool) (x49 x50 : Int) (a58 : Pt) (n58 c58 : Nat) (e58 : Bool) (x59 x60 : Int) (h : AHeap) : Prop :=
 bcase (decide ((x60 : Int) < x59)) ((0 ≤ (x60 : Int) ∧ (x60 : Int) < (n58 : Nat)) ∧ (xSome a58 fun i_37 o_38 => xStr (hCell h (.ptr (some (i_37, o_38 + (Int.toNat x60) * 1)))) fun s_39 => List.length ([112, 40]) + List.length x10 ≤ 9223372036854775807 ∧ (List.length (([112, 40]) ++ x10) + List.length [44] ≤ 9223372036854775807 ∧ (List.length ((([112, 40]) ++ x10) ++ [44]) + List.length s_39 ≤ 9223372036854775807 ∧ (List.length (((([112, 40]) ++ x10) ++ [44]) ++ s_39) + List.length [41] ≤ 9223372036854775807 ∧ (letH (h ++ [.cells t_string [.str ((((([112, 40]) ++ x10) ++ [44]) ++ s_39) ++ [41])] false]) fun h_40 => appendA pg t_L_string h_40 (.slice a3 n3 c3 e3) (.slice (some (List.length h, 0)) 1 1 true) fun v_41 h_42 => xSl (some v_41) fun a_43 n_44 c_45 e_46 => R20 x0 a_43 n_44 c_45 e_46 x8 x10 a48 n48 c48 e48 x49 x50 a58 n58 c58 e58 x59 (IntKind.wrap .i64 (x60 + 1)) h_42)))))) (A20x8 Q R14 R17 x50 x49 a48 n48 c48 e48 x0 x8 a3 n3 c3 e3 h)
theorem L20den (Q : QT) (R14 : T14) (R17 : T17) (R20 : T20) (x0 : Int) (a3 : Pt) (n3 c3 : Nat) (e3 : Bool) (x8 : Int) (x10 : List Nat) (a48 : Pt) (n48 c48 : Nat) (e48 : Bool) (x49 x50 : Int) (a58 : Pt) (n58 c58 : Nat) (e58 : Bool) (x59 x60 : Int) (h : AHeap) (ht : L20t Q R14 R17 R20 x0 a3 n3 c3 e3 x8 x10 a48 n48 c48 e48 x49 x50 a58 n58 c58 e58 x59 x60 h) : Den pg fn.ntmps (C [1, 1, 1, 1, 0, 1, 0, 0, 1, 0, 0, 1, 0, 0, 1, 1, 0, 0, 1, 1, 0, 0]) [(0, .int .i64 x0), (3, .slice a3 n3 c3 e3), (8, .int .i64 x8), (10, .str x10), (48, .slice a48 n48 c48 e48), (49, .int .i64 x49), (50, .int .i64 x50), (58, .slice a58 n58 c58 e58), (59, .int .i64 x59), (60, .int .i64 x60)] h (K22 Q R14 R17 R20) :=
  den_Den (kp := kp) (@cast _ (den pg fn.ntmps kp (C [1, 1, 1, 1, 0, 1, 0, 0, 1, 0, 0, 1, 0, 0, 1, 1, 0, 0, 1, 1, 0, 0]) [(0, .int .i64 x0), (3, .slice a3 n3 c3 e3), (8, .int .i64 x8), (10, .str x10), (48, .slice a48 n48 c48 e48), (49, .int .i64 x49), (50, .int .i64 x50), (58, .slice a58 n58 c58 e58), (59, .int .i64 x59), (60, .int .i64 x60)] h (K22 Q R14 R17 R20)) (by kernel_rfl) ht)
theorem L20ind (Q : QT) (R14 : T14) (R17 : T17) (x0 x8 : Int) (x10 : List Nat) (a48 : Pt) (n48 c48 : Nat) (e48 : Bool) (x49 x50 : Int) (a58 : Pt) (n58 c58 : Nat) (e58 : Bool) (x59 : Int) {G : Type} (J : G → Pt → Nat → Nat → Bool → Int → AHeap → Prop) (m : G → Nat)
 (hr : ∀ (g : G) (a3 : Pt) (n3 c3 : Nat) (e3 : Bool) (x60 : Int) (h : AHeap), J g a3 n3 c3 e3 x60 h → ∀ (R20 : T20), (∀ g' (a3 : Pt) (n3 c3 : Nat) (e3 : Bool) (x60 : Int) (h : AHeap), m g' < m g → J g' a3 n3 c3 e3 x60 h → R20 x0 a3 n3 c3 e3 x8 x10 a48 n48 c48 e48 x49 x50 a58 n58 c58 e58 x59 x60 h) → L20t Q R14 R17 R20 x0 a3 n3 c3 e3 x8 x10 a48 n48 c48 e48 x49 x50 a58 n58 c58 e58 x59 x60 h)
 (g : G) (a3 : Pt) (n3 c3 : Nat) (e3 : Bool) (x60 : Int) (h : AHeap) (hj : J g a3 n3 c3 e3 x60 h) : L20 Q R14 R17 x0 a3 n3 c3 e3 x8 x10 a48 n48 c48 e48 x49 x50 a58 n58 c58 e58 x59 x60 h := by
  refine Loop.inv2 (fun g => E20 fun x0' a3 n3 c3 e3 x8' x10' a48' n48' c48' e48' x49' x50' a58' n58' c58' e58' x59' x60 h => x0 = x0' ∧ x8 = x8' ∧ x10 = x10' ∧ a48 = a48' ∧ n48 = n48' ∧ c48 = c48' ∧ e48 = e48' ∧ x49 = x49' ∧ x50 = x50' ∧ a58 = a58' ∧ n58 = n58' ∧ c58 = c58' ∧ e58 = e58' ∧ x59 = x59' ∧ J g a3 n3 c3 e3 x60 h) (fun g => E20 fun x0' a3 n3 c3 e3 x8' x10' a48' n48' c48' e48' x49' x50' a58' n58' c58' e58' x59' x60 h => x0 = x0' ∧ x8 = x8' ∧ x10 = x10' ∧ a48 = a48' ∧ n48 = n48' ∧ c48 = c48' ∧ e48 = e48' ∧ x49 = x49' ∧ x50 = x50' ∧ a58 = a58' ∧ n58 = n58' ∧ c58 = c58' ∧ e58 = e58' ∧ x59 = x59' ∧ ∃ g', m g' < m g ∧ J g' a3 n3 c3 e3 x60 h) m ?_ ?_ g ⟨rfl, rfl, rfl, rfl, rfl, rfl, rfl, rfl, rfl, rfl, rfl, rfl, rfl, rfl, hj⟩
  · intro g env h hi
    obtain ⟨x0', a3, n3, c3, e3, x8', x10', a48', n48', c48', e48', x49', x50', a58', n58', c58', e58', x59', x60, rfl, rfl, rfl, rfl, rfl, rfl, rfl, rfl, rfl, rfl, rfl, rfl, rfl, rfl, rfl, hj⟩ := E20elim hi
    exact L20den Q R14 R17 (fun x0' a3 n3 c3 e3 x8' x10' a48' n48' c48' e48' x49' x50' a58' n58' c58' e58' x59' x60 h => x0 = x0' ∧ x8 = x8' ∧ x10 = x10' ∧ a48 = a48' ∧ n48 = n48' ∧ c48 = c48' ∧ e48 = e48' ∧ x49 = x49' ∧ x50 = x50' ∧ a58 = a58' ∧ n58 = n58' ∧ c58 = c58' ∧ e58 = e58' ∧ x59 = x59' ∧ ∃ g', m g' < m g ∧ J g' a3 n3 c3 e3 x60 h) x0 a3 n3 c3 e3 x8 x10 a48 n48 c48 e48 x49 x50 a58 n58 c58 e58 x59 x60 h (hr g a3 n3 c3 e3 x60 h hj (fun x0' a3 n3 c3 e3 x8' x10' a48' n48' c48' e48' x49' x50' a58' n58' c58' e58' x59' x60 h => x0 = x0' ∧ x8 = x8' ∧ x10 = x10' ∧ a48 = a48' ∧ n48 = n48' ∧ c48 = c48' ∧ e48 = e48' ∧ x49 = x49' ∧ x50 = x50' ∧ a58 = a58' ∧ n58 = n58' ∧ c58 = c58' ∧ e58 = e58' ∧ x59 = x59' ∧ ∃ g', m g' < m g ∧ J g' a3 n3 c3 e3 x60 h) fun g' a3 n3 c3 e3 x60 h hlt hj => ⟨rfl, rfl, rfl, rfl, rfl, rfl, rfl, rfl, rfl, rfl, rfl, rfl, rfl, rfl, g', hlt, hj⟩)
  · intro g env h hi
    obtain ⟨x0', a3, n3, c3, e3, x8', x10', a48', n48', c48', e48', x49', x50', a58', n58', c58', e58', x59', x60, rfl, rfl, rfl, rfl, rfl, rfl, rfl, rfl, rfl, rfl, rfl, rfl, rfl, rfl, rfl, g', hlt, hj⟩ := E20elim hi
    exact ⟨g', hlt, rfl, rfl, rfl, rfl, rfl, rfl, rfl, rfl, rfl, rfl, rfl, rfl, rfl, rfl, hj⟩
theorem A17x6i (Q : QT) (R14 : T14) (x8 x0 : Int) (a3 : Pt) (n3 c3 : Nat) (e3 : Bool) (h : AHeap) (ht :
 R14 x0 a3 n3 c3 e3 (IntKind.wrap .i64 (x8 + 1)) h) : A17x6 Q R14 x8 x0 a3 n3 c3 e3 h :=
  At.mk (@cast _ ((K15 Q R14) (.exit 6) [(8, .int .i64 x8), (0, .int .i64 x0), (3, .slice a3 n3 c3 e3)] h) (by kernel_rfl) ht)
theorem A20x8i (Q : QT) (R14 : T14) (R17 : T17) (x50 x49 : Int) (a48 : Pt) (n48 c48 : Nat) (e48 : Bool) (x0 x8 : Int) (a3 : Pt) (n3 c3 : Nat) (e3 : Bool) (h : AHeap) (ht :
 R17 x0 a3 n3 c3 e3 x8 a48 n48 c48 e48 x49 (IntKind.wrap .i64 (x50 + 1)) h) : A20x8 Q R14 R17 x50 x49 a48 n48 c48 e48 x0 x8 a3 n3 c3 e3 h :=
  At.mk (@cast _ ((K20 Q R14 R17) (.exit 8) [(50, .int .i64 x50), (49, .int .i64 x49), (48, .slice a48 n48 c48 e48), (0, .int .i64 x0), (8, .int .i64 x8), (3, .slice a3 n3 c3 e3)] h) (by kernel_rfl) ht)
theorem call (x0 : Int) (h : AHeap) (Q : QT) (ht :
 bcase ((x0 : Int) == 1) (letH (h ++ [.cells t_string [.str [105], .str [98], .str [117]] false]) fun h_0 => Q (.slice (some (List.length h, 0)) 3 3 true) h_0) (letH (h ++ [.cells t_string [] false]) fun h_1 => letH (h_1 ++ [.cells t_string [.str [108], .str [109]] false]) fun h_2 => L5 Q x0 (some (List.length h, 0)) 0 0 true (some (List.length h_1, 0)) 2 2 true (((2 : Nat) : Int)) 0 h_2)) : SCall pg n_impl_sized [.int .i64 x0] h Q :=
  SCall.of_body kp (c := cod fn) (fn := fn) Go.Proofs.Try.func27 (by kernel_rfl) (by kernel_rfl) (Nat.le_of_ble_eq_true (by kernel_rfl))
    (@cast _ (den pg fn.ntmps kp (cod fn) (Env.args 0 [.int .i64 x0]) h (KR Q)) (by kernel_rfl) ht)
end F_impl_sized
end Go.Sim
