/- All operations that neither look at memory nor write it: one law. -/
import Derived.Test.YtgiiilhdmfddcaaSimF
set_option linter.unusedVariables false
set_option linter.all false
set_option linter.unusedSimpArgs false
namespace Go.Sim
open Go Go.RowKit

section
variable {P : Program} {μ : List Pl}

theorem Pure.val {s : Sem Value} {K : AVal → Prop} (h : Pure P μ s K) : ∃ x v, (∀ w, (do pure (.value (← s)) : Sem Next).run P w = .ok (.value x) w) ∧ VR μ v x ∧ K v := by
  obtain ⟨x, v, hr, hv, hk⟩ := h
  exact ⟨x, v, fun w => by simp [hr w], hv, hk⟩

theorem pure_ok {env : Env} {ρ : Operand → Value} (hρ : EvRel μ env ρ) {o : Oper} {K : AVal → Prop} (hk : pureA P env o K) :
    ∃ x v, (∀ w, (execOp ρ o).run P w = .ok (.value x) w) ∧ VR μ v x ∧ K v := by
  unfold pureA at hk
  obtain ⟨dst, op, type, pos, after, guard⟩ := o
  cases op <;> simp only at hk <;> simp only [execOp]
  case move x => exact ⟨_, _, fun w => rfl, hρ x, hk⟩
  case assign x => exact ⟨_, _, fun w => rfl, hρ x, hk⟩
  case pick c a b => exact pick_ok (hρ c) (hρ a) (hρ b) hk
  case binOp op t x y yt => exact (bin_ok (hρ x) (hρ y) hk).val
  case unOp op t x => exact (un_ok (hρ x) hk).val
  case nilCheck x =>
    have := hρ x
    unfold nilA at hk
    split at hk
    · rename_i he
      obtain ⟨b, o, rfl, hk⟩ := xSome_elim hk
      rw [he] at this
      cases hy : ρ x with
      | pointer a =>
        rw [hy] at this
        cases this with
        | ptr hi => exact ⟨_, _, fun w => rfl, .ptr hi, hk⟩
      | _ => rw [hy] at this; cases this
    · rename_i f cs he
      rw [he] at this
      cases hy : ρ x with
      | func fn first cap =>
        rw [hy] at this
        cases this with
        | fn hs => exact ⟨_, _, fun w => rfl, .fn hs, hk⟩
      | _ => rw [hy] at this; cases this
    · exact hk.elim
  case extract x i => exact (extract_ok (hρ x) hk).val
  case field t x i => exact (field_ok (hρ x) hk).val
  case fieldAddr t x i => exact (fieldAddr_ok (hρ x) hk).val
  case indexAddr t x i => exact (indexAddr_ok (hρ x) (hρ i) hk).val
  case index t x i => exact (index_ok (hρ x) (hρ i) hk).val
  case convert s d x => exact (conv_ok (hρ x) hk).val
  case slice t x lo hi mx =>
    refine Pure.val ?_
    unfold sliceA at hk
    split at hk
    · rename_i hu
      split at hk
      · rename_i s he
        replace hk := chk_elim hk; obtain ⟨hm, hk⟩ := hk
        have := hρ x
        rw [he] at this
        cases mx with
        | some m => simp at hm
        | none =>
          cases hy : ρ x with
          | string s' => rw [hy] at this; cases this; exact sliceStr_ok hρ hu hk
          | _ => rw [hy] at this; cases this
      · exact hk.elim
    · rename_i e hu
      split at hk
      · rename_i a len cap ex he
        replace hk := chk_elim hk; obtain ⟨hs, hk⟩ := hk
        replace hk := chk_elim hk; obtain ⟨hm, hk⟩ := hk
        have := hρ x
        rw [he] at this
        exact sliceSl_ok hρ this hu hs hm hk
      · exact hk.elim
    · exact hk.elim
  case makeFunc fn first caps =>
    cases fn <;> simp only at hk
    case func f =>
      replace hk := chk_elim hk; obtain ⟨h0, hk⟩ := hk
      have : first.map ρ = #[] := by simpa using h0
      exact ⟨_, _, fun w => by simp [Instr.makeFunc, this], .fn (args_ok hρ caps), hk⟩
    all_goals exact hk.elim
  case call c =>
    obtain ⟨callee, args, ats⟩ := c
    cases callee <;> simp only at hk
    case builtin b =>
      cases b <;> simp only at hk
      case len =>
        refine (len_ok (c := ⟨.builtin .len, args, ats⟩) hρ type hk).val.imp fun x ⟨v, hr, h⟩ => ⟨v, fun w => ?_, h⟩
        have := hr w
        simpa [resolve, invoke, builtin] using this
      all_goals exact hk.elim
    all_goals exact hk.elim
  all_goals exact hk.elim
end
end Go.Sim
