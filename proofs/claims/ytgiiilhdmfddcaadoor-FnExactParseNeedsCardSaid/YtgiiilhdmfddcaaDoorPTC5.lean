/- Printed by wip/tool: what the functions' bodies do, in the words of 'den'. -/
import Derived.Test.YtgiiilhdmfddcaaDoorNm
set_option linter.unusedSimpArgs false
set_option linter.all false
set_option maxRecDepth 100000
set_option linter.unusedVariables false
namespace Go.Sim
open Go Go.RowKit
/-! Function loop.example/instancesearch/laws.eqNeed -/
namespace F_laws_eqNeed
noncomputable abbrev fn : Func := Go.Proofs.Tryd.f43
def kp : Keeps := []
noncomputable def C (p : List Nat) : Code := (cod fn).sub p
def KR (Q : QT) : KT := retA pg fn.results.toList Q
theorem call (x0x0 x0x1 x1x0 x1x1 : List Nat) (h : AHeap) (Q : QT) (ht :
 letH (h ++ [.cells t_impl_Need [.str x0x0, .str x0x1] false]) fun h_0 => letH (h_0 ++ [.cells t_impl_Need [.str x1x0, .str x1x1] false]) fun h_1 => xStr (hCell h_1 (.ptr (some (List.length h, 0 + 0)))) fun s_2 => xStr (hCell h_1 (.ptr (some (List.length h_0, 0 + 0)))) fun s_3 => bcase (!(decide (s_2 = s_3))) (Q (.bool false) h_1) (xStr (hCell h_1 (.ptr (some (List.length h, 0 + 1)))) fun s_4 => xStr (hCell h_1 (.ptr (some (List.length h_0, 0 + 1)))) fun s_5 => bcase (!(decide (s_4 = s_5))) (Q (.bool false) h_1) (Q (.bool true) h_1))) : SCall pg n_laws_eqNeed [.agg [.str x0x0, .str x0x1], .agg [.str x1x0, .str x1x1]] h Q :=
  SCall.of_body kp (c := cod fn) (fn := fn) Go.Proofs.Tryd.func43 (by kernel_rfl) (by kernel_rfl) (Nat.le_of_ble_eq_true (by kernel_rfl))
    (@cast _ (den pg fn.ntmps kp (cod fn) (Env.args 0 [.agg [.str x0x0, .str x0x1], .agg [.str x1x0, .str x1x1]]) h (KR Q)) (by kernel_rfl) ht)
end F_laws_eqNeed
end Go.Sim
