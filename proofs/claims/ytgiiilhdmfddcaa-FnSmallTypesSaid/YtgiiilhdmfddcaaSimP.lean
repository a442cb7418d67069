/- What the printed texts speak of: readings of a loop's environment, pieces of code, a loop's rule. -/
import Derived.Test.YtgiiilhdmfddcaaSimO
set_option linter.unusedVariables false
set_option linter.all false
set_option linter.unusedSimpArgs false
namespace Go.Sim
open Go Go.RowKit

abbrev Pt := Option (Nat × Nat)
abbrev QT := AVal → AHeap → Prop
abbrev KT := Exit → Env → AHeap → Prop
def cod (f : Func) : Code := (f.body).getD .skip
def _root_.Go.Code.sub : Code → List Nat → Code
  | c, [] => c
  | .seq a _, 0 :: p => a.sub p
  | .seq _ b, _ :: p => b.sub p
  | .cond _ a _, 0 :: p => a.sub p
  | .cond _ _ b, _ :: p => b.sub p
  | .block _ c, _ :: p => c.sub p
  | .loop c, _ :: p => c.sub p
  | c, _ => c

def eVal (k : Nat) (env : Env) (K : AVal → Env → Prop) : Prop := match env with | (k', v) :: r => chk (k' = k) (K v r) | [] => False
def eNil (env : Env) (K : Prop) : Prop := match env with | [] => K | _ => False
def eInt (k : IntKind) (v : AVal) (K : Int → Prop) : Prop := match v with | .int k' n => chk (k' = k) (K n) | _ => False
def eUndef (v : AVal) (K : Prop) : Prop := match v with | .undef => K | _ => False
def eFn (f : Nat) (v : AVal) (K : List AVal → Prop) : Prop := match v with | .fn g cs => chk (g = f) (K cs) | _ => False
def eNilFn (v : AVal) (K : Prop) : Prop := match v with | .nilFn => K | _ => False
def eIter (v : AVal) (K : Nat → Prop) : Prop := match v with | .iter r => K r | _ => False
theorem eVal_elim {k : Nat} {env : Env} {K : AVal → Env → Prop} (h : eVal k env K) : ∃ v r, env = (k, v) :: r ∧ K v r := by
  unfold eVal at h
  split at h
  · replace h := chk_elim h; obtain ⟨rfl, h⟩ := h; exact ⟨_, _, rfl, h⟩
  · exact h.elim
theorem eNil_elim {env : Env} {K : Prop} (h : eNil env K) : env = [] ∧ K := by unfold eNil at h; split at h; exact ⟨rfl, h⟩; exact h.elim
theorem eInt_elim {k : IntKind} {v : AVal} {K : Int → Prop} (h : eInt k v K) : ∃ n, v = .int k n ∧ K n := by
  unfold eInt at h
  split at h
  · replace h := chk_elim h; obtain ⟨rfl, h⟩ := h; exact ⟨_, rfl, h⟩
  · exact h.elim
theorem eUndef_elim {v : AVal} {K : Prop} (h : eUndef v K) : v = .undef ∧ K := by unfold eUndef at h; split at h; exact ⟨rfl, h⟩; exact h.elim
theorem eNilFn_elim {v : AVal} {K : Prop} (h : eNilFn v K) : v = .nilFn ∧ K := by unfold eNilFn at h; split at h; exact ⟨rfl, h⟩; exact h.elim
theorem eFn_elim {f : Nat} {v : AVal} {K : List AVal → Prop} (h : eFn f v K) : ∃ cs, v = .fn f cs ∧ K cs := by
  unfold eFn at h
  split at h
  · replace h := chk_elim h; obtain ⟨rfl, h⟩ := h; exact ⟨_, rfl, h⟩
  · exact h.elim
theorem eIter_elim {v : AVal} {K : Nat → Prop} (h : eIter v K) : ∃ r, v = .iter r ∧ K r := by unfold eIter at h; split at h; exact ⟨_, rfl, h⟩; exact h.elim
theorem xBool_elim {v : AVal} {K : Bool → Prop} (h : xBool (some v) K) : ∃ b, v = .bool b ∧ K b := by unfold xBool at h; split at h; · rename_i e; cases e; exact ⟨_, rfl, h⟩
                                                                                                      · exact h.elim
theorem xInt_elim {k : IntKind} {v : AVal} {K : Int → Prop} (h : xInt k (some v) K) : ∃ b, v = .int k b ∧ K b := by
  unfold xInt at h; split at h
  · rename_i e; cases e; obtain ⟨rfl, h⟩ := h; exact ⟨_, rfl, h⟩
  · exact h.elim
theorem xStr_elim {v : AVal} {K : List Nat → Prop} (h : xStr (some v) K) : ∃ b, v = .str b ∧ K b := by
  unfold xStr at h; split at h
  · rename_i e; cases e; exact ⟨_, rfl, h⟩
  · exact h.elim
theorem xPtr_elim {v : AVal} {K : Option (Nat × Nat) → Prop} (h : xPtr (some v) K) : ∃ b, v = .ptr b ∧ K b := by
  unfold xPtr at h; split at h
  · rename_i e; cases e; exact ⟨_, rfl, h⟩
  · exact h.elim
theorem xSl_elim {v : AVal} {K : Option (Nat × Nat) → Nat → Nat → Bool → Prop} (h : xSl (some v) K) : ∃ a n c e, v = .slice a n c e ∧ K a n c e := by
  unfold xSl at h; split at h
  · rename_i e; cases e; exact ⟨_, _, _, _, rfl, h⟩
  · exact h.elim
theorem xMap_elim {v : AVal} {K : Option Nat → Prop} (h : xMap (some v) K) : ∃ b, v = .map b ∧ K b := by
  unfold xMap at h; split at h
  · rename_i e; cases e; exact ⟨_, rfl, h⟩
  · exact h.elim
theorem xAgg_elim {v : AVal} {K : List AVal → Prop} (h : xAgg v K) : ∃ cs, v = .agg cs ∧ K cs := by unfold xAgg at h; split at h; exact ⟨_, rfl, h⟩; exact h.elim
theorem xTup_elim {v : AVal} {K : List AVal → Prop} (h : xTup v K) : ∃ cs, v = .tup cs ∧ K cs := by unfold xTup at h; split at h; exact ⟨_, rfl, h⟩; exact h.elim
theorem xCons_elim {cs : List AVal} {K : AVal → List AVal → Prop} (h : xCons cs K) : ∃ c r, cs = c :: r ∧ K c r := by unfold xCons at h; split at h; exact ⟨_, _, rfl, h⟩; exact h.elim
theorem xNil_elim {cs : List AVal} {K : Prop} (h : xNil cs K) : cs = [] ∧ K := by unfold xNil at h; split at h; exact ⟨rfl, h⟩; exact h.elim

theorem Loop.inv2 {B : Env → AHeap → (Exit → Env → AHeap → Prop) → Prop} {ks : List Nat} {K : Exit → Env → AHeap → Prop} {G : Type} (I N : G → Env → AHeap → Prop) (m : G → Nat)
    (hr : ∀ g env h, I g env h → B env h (rnd ks (N g) K)) (hN : ∀ g env h, N g env h → ∃ g', m g' < m g ∧ I g' env h) (g : G) : ∀ {env : Env} {h : AHeap}, I g env h → Loop B ks K env h := by
  induction hn : m g using Nat.strongRecOn generalizing g with
  | _ n ih =>
    intro env h hI
    refine Loop.mk _ (hr g env h hI) ?_ ?_
    · intro env' h' hk
      obtain ⟨g', hlt, hI'⟩ := hN _ _ _ hk
      exact ih (m g') (hn ▸ hlt) g' rfl hI'
    · intro e env' h' hne hk
      cases e with
      | normal => exact absurd rfl hne
      | _ => exact hk
end Go.Sim
