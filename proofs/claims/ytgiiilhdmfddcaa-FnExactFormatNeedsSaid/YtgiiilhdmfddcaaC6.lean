/- A part of the proof of a statement of this seat: see the text that holds the theorem. No condition. -/
import Derived.Test.YtgiiilhdmfddcaaC5
set_option linter.unusedSimpArgs false
set_option linter.unusedVariables false
namespace Go.Sim
open Go Go.RowKit
theorem prs_take : ∀ (l : List (List Nat × List Nat)) (k : Nat), (prs l).take (k * 2) = prs (l.take k)
  | l, 0 => by simp
  | [], k + 1 => by simp
  | p :: l, k + 1 => by rw [Nat.succ_mul]; simpa using prs_take l k
theorem store_two {h : AHeap} {i k : Nat} {t : TypeId} {L : List (List Nat × List Nat)} {a b : List Nat} (hi : h[i]? = some (.cells t (prs L) false)) (hk : k < L.length) :
    hStore h (.ptr (some (i, k * 2))) [.str a, .str b] = some (h.set i (.cells t (prs (L.take k ++ [(a, b)] ++ L.drop (k + 1))) false)) := by
  have hle : k * 2 + 2 ≤ (prs L).length := by rw [prs_length]; omega
  simp only [hStore, hi, List.length_cons, List.length_nil, Nat.zero_add, hle, if_true, putRow]
  rw [prs_take, show k * 2 + (1 + 1) = (k + 1) * 2 by omega, prs_drop]
  simp
theorem reps_two (n : Nat) : reps n [.str [], .str []] = prs (List.replicate n ([], [])) := by
  unfold reps
  induction n with
  | zero => rfl
  | succ n ih => rw [List.replicate_succ, List.flatten_cons, ih, List.replicate_succ]; rfl
theorem toNeeds_ok {h : AHeap} {a : Pt} {n c : Nat} {e : Bool} {l : List (List Nat × List Nat)} (r : Row h.length h a (n * 2) (prs l)) (hn : n ≤ 1048576) :
    SCall pg 18 [.slice a n c e] h fun v h' => ∃ a' c' e', v = .slice a' n c' e' ∧ Same h.length h h' ∧ Row h'.length h' a' (n * 2) (prs l) := by
  have hll : l.length = n := by have := r.1; rw [prs_length] at this; omega
  apply F18.call
  refine ⟨rfl, rfl, by omega, ?_⟩
  simp only [letH_def, Int.toNat_natCast, reps_two]
  refine F18.L3ind _ _ _ _ _ _ _ _ _ (J := fun (g : Nat) x4 h' => x4 = (g : Int) ∧ g ≤ n ∧ Same h.length h h' ∧ h'[h.length]? = some (.cells 51 (prs (l.take g ++ List.replicate (n - g) ([], []))) false)) (fun g => n - g) ?_ 0 0 _ ⟨rfl, by omega, Same.app (Nat.le_refl _) _, by simp⟩
  rintro g x4 h' ⟨rfl, hg, hs, hi⟩ R hR
  unfold F18.L3t
  refine bcase_dec (fun hlt => ?_) (fun hge => ?_)
  · have hlt' : g < n := by omega
    obtain ⟨i, o, hgl, rfl, hi', hc⟩ := (r.same hs).pair hlt'
    simp only [xSome_some, Int.toNat_natCast, hc, xRow_some, xCons_cons, xNil_nil, xStr_some]
    refine ⟨by omega, toNeed_ok.mono fun v h1 ⟨hv, hs1⟩ => ?_⟩
    subst hv
    have hi1 : h1[h.length]? = some (.cells 51 (prs (l.take g ++ List.replicate (n - g) ([], []))) false) := by rw [hs1.eq _ (Own.lt hi)]; exact hi
    simp only [xAgg_agg, xCons_cons, xNil_nil, xStr_some, Nat.zero_add]
    have hmin : min g l.length = g := Nat.min_eq_left (by omega)
    rw [store_two hi1 (by simp; omega)]
    simp only [xHeap_some]
    rw [wrap_succ hlt' (by omega)]
    have hset : (l.take g ++ List.replicate (n - g) ([], [])).take g ++ [(l[g].1, l[g].2)] ++ (l.take g ++ List.replicate (n - g) (([] : List Nat), ([] : List Nat))).drop (g + 1) = l.take (g + 1) ++ List.replicate (n - (g + 1)) ([], []) := by
      have hl1 : (l.take g).length = g := by rw [List.length_take, hmin]
      rw [List.take_left' hl1, List.take_succ_eq_append_getElem hgl, List.drop_append, hl1, List.drop_of_length_le (by omega), List.nil_append, List.drop_replicate]
      congr 2; omega
    rw [hset]
    exact ⟨⟨by omega, by omega⟩, hR (g + 1) _ _ (by omega) ⟨rfl, by omega, (hs.trans (hs1.mono hs.le)).trans (Same.set (Nat.le_refl _) _), getElem_set_self' hi1⟩⟩
  · have : g = n := by omega
    subst this
    rw [List.take_of_length_le (by omega), Nat.sub_self, List.replicate_zero, List.append_nil] at hi
    refine F18.A3x0i _ _ _ _ _ _ ⟨_, _, _, rfl, hs, ?_⟩
    have := (Own.row (b := 0) (a := some (h.length, 0)) ⟨h.length, rfl, by omega, hi⟩)
    rw [prs_length, hll] at this
    exact this
theorem eqNeeds_ok {h : AHeap} {a0 a1 : Pt} {n0 n1 c0 c1 : Nat} {e0 e1 : Bool} {l0 l1 : List (List Nat × List Nat)} (r0 : Row h.length h a0 (n0 * 2) (prs l0)) (r1 : Row h.length h a1 (n1 * 2) (prs l1)) (hn : n0 ≤ 4611686018427387904) (heq : l0 = l1) :
    SCall pg 20 [.slice a0 n0 c0 e0, .slice a1 n1 c1 e1] h fun v h' => v = .bool true ∧ Same h.length h h' := by
  subst heq
  have hl0 : l0.length = n0 := by have := r0.1; rw [prs_length] at this; omega
  have hl1 : l0.length = n1 := by have := r1.1; rw [prs_length] at this; omega
  have : n1 = n0 := by omega
  subst this
  apply F20.call
  simp only [beq_self_eq_true, Bool.not_true, bcase_false]
  refine F20.L4ind _ _ _ _ _ _ _ _ _ (J := fun (k : Nat) x5 h' => Same h.length h h' ∧ x5 = (k : Int) ∧ k ≤ n1) (fun k => n1 - k) ?_ 0 0 h ⟨Same.refl _ _, rfl, by omega⟩
  rintro k x5 h' ⟨hs, rfl, hk⟩ R hR
  unfold F20.L4t
  refine bcase_dec (fun hlt => ?_) (fun hge => F20.A4x0i _ _ ⟨rfl, hs⟩)
  have hlt' : k < n1 := by omega
  obtain ⟨i, o, hgl, rfl, _, hc0⟩ := (r0.same hs).pair hlt'
  obtain ⟨i', o', _, rfl, _, hc1⟩ := (r1.same hs).pair hlt'
  simp only [xSome_some, Int.toNat_natCast, hc0, hc1, xRow_some, xCons_cons, xNil_nil, xStr_some, true_and]
  refine ⟨⟨by omega, by omega⟩, ⟨by omega, by omega⟩, eqNeed_ok.mono fun v h1 ⟨hv, hs1⟩ => ?_⟩
  subst hv
  simp only [xBool_some, decide_true, Bool.and_self, Bool.not_true, bcase_false]
  rw [wrap_succ hlt' (by omega)]
  exact hR (k + 1) _ _ (by omega) ⟨hs.trans (hs1.mono hs.le), rfl, by omega⟩

def need (p : List Nat × List Nat) : List Nat := p.1 ++ [32] ++ p.2
def amp (l : List (List Nat × List Nat)) : List Nat := [38].intercalate (l.map need)
theorem tot_need (l : List (List Nat × List Nat)) : tot (l.map need) = tot2 l + l.length := by
  induction l with
  | nil => rfl
  | cons p l ih =>
    have h1 : tot ((p :: l).map need) = (need p).length + tot (l.map need) := by simp [tot]
    have h2 : tot2 (p :: l) = (p.1.length + p.2.length) + tot2 l := by simp [tot2]
    rw [h1, h2, ih]; simp [need]; omega
theorem amp_len : ∀ (l : List (List Nat)), ([38].intercalate l).length ≤ tot l + l.length
  | [] => by simp [List.intercalate]
  | [x] => by simp [tot, List.intercalate]
  | x :: y :: l => by
    have := amp_len (y :: l)
    simp only [tot, List.intercalate, List.intersperse_cons_cons, List.flatten_cons, List.length_append, List.map_cons, List.sum_cons, List.length_cons, List.length_nil] at this ⊢
    omega
theorem amp_le (l : List (List Nat × List Nat)) : (amp l).length ≤ tot2 l + 2 * l.length := by
  have := amp_len (l.map need)
  rw [tot_need, List.length_map] at this
  unfold amp; omega
theorem specNeeds_ok {h : AHeap} {a : Pt} {n c : Nat} {e : Bool} {l : List (List Nat × List Nat)} (r : Row h.length h a (n * 2) (prs l)) (hn : n + tot2 l ≤ 1048576) :
    SCall pg 17 [.slice a n c e] h fun v h' => v = .str (dash (amp l)) ∧ Same h.length h h' := by
  have hll : l.length = n := by have := r.1; rw [prs_length] at this; omega
  apply F17.call
  refine F17.L3ind _ _ _ _ _ _ (J := fun (g : Nat) x3 x8 h' => x8 = (g : Int) ∧ Same h.length h h' ∧ g ≤ n ∧ x3 = amp (l.take g)) (fun g => n - g) ?_ 0 _ 0 h ⟨rfl, Same.refl _ _, by omega, by simp [amp, List.intercalate]⟩
  rintro g x3 x8 h' ⟨rfl, hs, hg, rfl⟩ R hR
  unfold F17.L3t
  have hb1 := amp_le (l.take g)
  have hb2 := tot2_take_le l g
  have hmin : min g l.length = g := Nat.min_eq_left (by omega)
  rw [List.length_take, hmin] at hb1
  refine bcase_dec (fun hlt => ?_) (fun hge => ?_)
  · have hlt' : g < n := by omega
    obtain ⟨i, o, hgl, rfl, hi', hc⟩ := (r.same hs).pair hlt'
    have hb3 := tot2_get hgl
    have hst : hStore (h' ++ [.cells 51 [.str [], .str []] false]) (.ptr (some (h'.length, 0))) [.str l[g].1, .str l[g].2] = some (h' ++ [.cells 51 [.str l[g].1, .str l[g].2] false]) := by
      simp [hStore, putRow]
    have hs2 : Same h.length h (h' ++ [.cells 51 [.str l[g].1, .str l[g].2] false]) := hs.trans (Same.app hs.le _)
    have hrw : hRow (h' ++ [.cells 51 [.str l[g].1, .str l[g].2] false]) (.ptr (some (h'.length, 0))) 2 = some [.str l[g].1, .str l[g].2] := by simp [hRow]
    simp only [xSome_some, Int.toNat_natCast, hc, xRow_some, xCons_cons, xNil_nil, xStr_some, letH_def, hst, xHeap_some]
    have fin : ∀ (Q : QT) y, y ++ need l[g] = amp (l.take (g + 1)) → y.length ≤ 4000000 → F17.J7 Q R y h'.length 0 g (n : Int) (some (i, o)) n c e (h' ++ [.cells 51 [.str l[g].1, .str l[g].2] false]) := by
      intro Q y hy hyl
      refine F17.J7i _ _ _ _ _ _ _ _ _ _ _ _ ?_
      simp only [hrw, xRow_some, xCons_cons, xNil_nil, xStr_some]
      refine (need33_ok (by omega)).mono fun v h1 ⟨hv, hs1⟩ => ?_
      subst hv
      simp only [xStr_some]
      refine ⟨by simp; omega, F17.J8i _ _ _ _ _ _ _ _ _ _ ?_⟩
      rw [wrap_succ hlt' (by omega)]
      exact hR (g + 1) _ _ _ (by omega) ⟨rfl, hs2.trans (hs1.mono hs2.le), by omega, hy⟩
    refine ⟨by omega, bcase_dec (fun h0 => ⟨by simp; omega, fin _ _ ?_ (by simp; omega)⟩) (fun h0 => fin _ _ ?_ (by omega))⟩
    · unfold amp
      rw [List.take_succ_eq_append_getElem hgl, List.map_append]
      exact (inter_snoc _ _ _ (by intro hnil; have := congrArg List.length hnil; rw [List.length_map, List.length_take, hmin] at this; simp at this; omega)).symm
    · have : g = 0 := by omega
      subst this
      unfold amp
      rw [List.take_succ_eq_append_getElem hgl]; simp [List.intercalate]
  · have : g = n := by omega
    subst this
    rw [List.take_of_length_le (by omega)]
    exact F17.A3x0i _ _ _ (bcase_dec (fun e => ⟨by simp [dash, e], hs⟩) (fun e => ⟨by simp [dash, e], hs⟩))
end Go.Sim
