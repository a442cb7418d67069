/- A part of the proof of a statement of this seat: see the text that holds the theorem. No condition. -/
import Derived.Test.YtgiiilhdmfddcaaDoorPTC6
import Derived.Test.YtgiiilhdmfddcaaDoorC5
set_option linter.unusedSimpArgs false
set_option linter.all false
set_option linter.unusedVariables false
namespace Go.Sim
open Go Go.RowKit
theorem prs_take : ∀ (l : List (List Nat × List Nat)) (k : Nat), (prs l).take (k * 2) = prs (l.take k)
  | l, 0 => by simp
  | [], k + 1 => by simp
  | p :: l, k + 1 => by rw [Nat.succ_mul]; simpa using prs_take l k
theorem store_two {h : AHeap} {i k : Nat} {t : TypeId} {L : List (List Nat × List Nat)} {a b : List Nat} (hi : h[i]? = some (.cells t (prs L) false)) (hk : k < L.length) :
    hStore h (.ptr (some (i, k * 2))) [.str a, .str b] = some (h.set i (.cells t (prs (L.take k ++ [(a, b)] ++ L.drop (k + 1))) false)) := by
  have hle : k * 2 + 2 ≤ (prs L).length := by rw [prs_length]; omega
  simp only [hStore, hi, List.length_cons, List.length_nil, Nat.zero_add, hle, if_true, putRow]
  rw [prs_take, show k * 2 + (1 + 1) = (k + 1) * 2 by omega, prs_drop]
  simp
theorem reps_two (n : Nat) : reps n [.str [], .str []] = prs (List.replicate n ([], [])) := by
  unfold reps
  induction n with
  | zero => rfl
  | succ n ih => rw [List.replicate_succ, List.flatten_cons, ih, List.replicate_succ]; rfl
theorem eqNeeds_ok {h : AHeap} {a0 a1 : Pt} {n0 n1 c0 c1 : Nat} {e0 e1 : Bool} {l0 l1 : List (List Nat × List Nat)} (r0 : Row h.length h a0 (n0 * 2) (prs l0)) (r1 : Row h.length h a1 (n1 * 2) (prs l1)) (hn : n0 ≤ 4611686018427387904) (heq : l0 = l1) :
    SCall pg n_laws_eqNeedS [.slice a0 n0 c0 e0, .slice a1 n1 c1 e1] h fun v h' => v = .bool true ∧ Same h.length h h' := by
  subst heq
  have hl0 : l0.length = n0 := by have := r0.1; rw [prs_length] at this; omega
  have hl1 : l0.length = n1 := by have := r1.1; rw [prs_length] at this; omega
  have : n1 = n0 := by omega
  subst this
  apply F_laws_eqNeedS.call
  simp only [beq_self_eq_true, Bool.not_true, bcase_false]
  refine F_laws_eqNeedS.L4ind _ _ _ _ _ _ _ _ _ (J := fun (k : Nat) x5 h' => Same h.length h h' ∧ x5 = (k : Int) ∧ k ≤ n1) (fun k => n1 - k) ?_ 0 0 h ⟨Same.refl _ _, rfl, by omega⟩
  rintro k x5 h' ⟨hs, rfl, hk⟩ R hR
  unfold F_laws_eqNeedS.L4t
  refine bcase_dec (fun hlt => ?_) (fun hge => F_laws_eqNeedS.A4x0i _ _ ⟨rfl, hs⟩)
  have hlt' : k < n1 := by omega
  obtain ⟨i, o, hgl, rfl, _, hc0⟩ := (r0.same hs).pair hlt'
  obtain ⟨i', o', _, rfl, _, hc1⟩ := (r1.same hs).pair hlt'
  simp only [xSome_some, Int.toNat_natCast, hc0, hc1, xRow_some, xCons_cons, xNil_nil, xStr_some, true_and]
  refine ⟨⟨by omega, by omega⟩, ⟨by omega, by omega⟩, eqNeed_ok.mono fun v h1 ⟨hv, hs1⟩ => ?_⟩
  subst hv
  simp only [xBool_some, decide_true, Bool.and_self, Bool.not_true, bcase_false]
  rw [wrap_succ hlt' (by omega)]
  exact hR (k + 1) _ _ (by omega) ⟨hs.trans (hs1.mono hs.le), rfl, by omega⟩

def need (p : List Nat × List Nat) : List Nat := p.1 ++ [32] ++ p.2
def amp (l : List (List Nat × List Nat)) : List Nat := [38].intercalate (l.map need)
theorem tot_need (l : List (List Nat × List Nat)) : tot (l.map need) = tot2 l + l.length := by
  induction l with
  | nil => rfl
  | cons p l ih =>
    have h1 : tot ((p :: l).map need) = (need p).length + tot (l.map need) := by simp [tot]
    have h2 : tot2 (p :: l) = (p.1.length + p.2.length) + tot2 l := by simp [tot2]
    rw [h1, h2, ih]; simp [need]; omega
theorem amp_len : ∀ (l : List (List Nat)), ([38].intercalate l).length ≤ tot l + l.length
  | [] => by simp [List.intercalate]
  | [x] => by simp [tot, List.intercalate]
  | x :: y :: l => by
    have := amp_len (y :: l)
    simp only [tot, List.intercalate, List.intersperse_cons_cons, List.flatten_cons, List.length_append, List.map_cons, List.sum_cons, List.length_cons, List.length_nil] at this ⊢
    omega
theorem amp_le (l : List (List Nat × List Nat)) : (amp l).length ≤ tot2 l + 2 * l.length := by
  have := amp_len (l.map need)
  rw [tot_need, List.length_map] at this
  unfold amp; omega
end Go.Sim
