/- A part of the proof of a statement of this seat: see the text that holds the theorem. No condition. -/
import Derived.Test.YtgiiilhdmfddcaaPTC1
import Derived.Test.YtgiiilhdmfddcaaSimW
set_option linter.unusedSimpArgs false
set_option linter.all false
set_option linter.unusedVariables false
namespace Go.Sim
open Go Go.RowKit

theorem u22 : pg.underlying t_L_string = some (.slice t_string) := by kernel_rfl
theorem c9 : pg.cellsOf t_string = 1 := by kernel_rfl
theorem k9 : pg.okElem t_string = true := by kernel_rfl
theorem b9 : pg.bytesOf t_string = 16 := by kernel_rfl

/-- A counting index, one further. -/
theorem wrap_succ {k n : Nat} (h : k < n) (hn : n ≤ 4611686018427387904) : IntKind.wrap .i64 ((k : Int) + 1) = ((k + 1 : Nat) : Int) := by rw [IntWalk.i64_in _ (by omega)]; omega

theorem eqStrings_ok {h : AHeap} {a0 a1 : Pt} {n0 n1 c0 c1 : Nat} {e0 e1 : Bool} {l0 l1 : List (List Nat)} (r0 : Row h.length h a0 n0 (strs l0)) (r1 : Row h.length h a1 n1 (strs l1)) (hn : n0 ≤ 4611686018427387904) :
    SCall pg n_laws_eqStringS [.slice a0 n0 c0 e0, .slice a1 n1 c1 e1] h fun v h' => v = .bool (decide (l0 = l1)) ∧ h' = h := by
  have hl0 : l0.length = n0 := by simpa using r0.1
  have hl1 : l1.length = n1 := by simpa using r1.1
  apply F_laws_eqStringS.call
  by_cases hne : n0 = n1
  · subst hne
    simp only [beq_self_eq_true, Bool.not_true, bcase_false]
    refine F_laws_eqStringS.L4ind _ _ _ _ _ _ _ _ _ (J := fun (k : Nat) x5 h' => h' = h ∧ x5 = (k : Int) ∧ k ≤ n0 ∧ l0.take k = l1.take k) (fun k => n0 - k) ?_ 0 0 h ⟨rfl, rfl, by omega, by simp⟩
    rintro k x5 _ ⟨rfl, rfl, hk, ht⟩ R hR
    unfold F_laws_eqStringS.L4t
    refine bcase_dec (fun hlt => ?_) (fun hge => ?_)
    · have hlt' : k < n0 := by omega
      obtain ⟨i, o, rfl, _, hc0⟩ := r0.at hlt'
      obtain ⟨i', o', rfl, _, hc1⟩ := r1.at hlt'
      rw [strs_get, List.getElem?_eq_getElem (by omega)] at hc0 hc1
      simp only [xSome_some, Int.toNat_natCast, Nat.mul_one, hc0, hc1, Option.map_some, xStr_some, true_and]
      refine ⟨⟨by omega, by omega⟩, ⟨by omega, by omega⟩, ?_⟩
      by_cases he : l0[k] = l1[k]
      · simp only [he, decide_true, Bool.not_true, bcase_false]
        refine hR (k + 1) _ _ (by omega) ⟨rfl, wrap_succ hlt' hn, by omega, ?_⟩
        rw [List.take_succ_eq_append_getElem (by omega), List.take_succ_eq_append_getElem (by omega), ht, he]
      · simp only [he, decide_false, Bool.not_false, bcase_true]
        refine ⟨?_, by trivial⟩
        congr 1; symm
        simp only [decide_eq_false_iff_not]
        rintro rfl; exact he rfl
    · refine F_laws_eqStringS.A4x0i _ _ ⟨?_, rfl⟩
      congr 1; symm
      have : k = n0 := by omega
      subst this
      rw [List.take_of_length_le (by omega), List.take_of_length_le (by omega)] at ht
      simpa using ht
  · have : ((n0 : Int) == (n1 : Int)) = false := by simp; omega
    simp only [this, Bool.not_false, bcase_true]
    refine ⟨?_, by trivial⟩
    congr 1; symm
    simp only [decide_eq_false_iff_not]
    rintro rfl; omega

/-- A number's digits. -/
def digs (k : Nat) (acc : List Nat) : List Nat := if h : k = 0 then acc else digs (k / 10) ((48 + k % 10) :: acc)
  termination_by k
  decreasing_by omega
theorem digs_zero (acc : List Nat) : digs 0 acc = acc := by unfold digs; simp
theorem digs_pos {k : Nat} (h : k ≠ 0) (acc : List Nat) : digs k acc = digs (k / 10) ((48 + k % 10) :: acc) := by
  conv => lhs; unfold digs
  rw [dif_neg h]
def markT (k : Int) : List Nat := if k ≤ 0 then [109, 48] else 109 :: digs k.toNat []
theorem rowOf_last {h : AHeap} {t : TypeId} {cs : List AVal} {n : Nat} (hn : cs.length = n) : rowOf (h ++ [.cells t cs false]) (some (h.length, 0)) n = some cs := by
  subst hn
  exact (Own.row (b := 0) (t := t) ⟨h.length, rfl, by omega, by simp⟩).rowOf
theorem rowOf_one {h : AHeap} {t : TypeId} {v : AVal} : rowOf (h ++ [.cells t [v] false]) (some (h.length, 0)) 1 = some [v] := rowOf_last rfl
theorem markText_ok {h : AHeap} {k : Int} (hk : k ≤ 4611686018427387904) : SCall pg n_laws_markText [.int .i64 k] h fun v h' => v = .str (markT k) ∧ Same h.length h h' := by
  apply F_laws_markText.call
  refine bcase_dec (fun hle => ?_) (fun hgt => ?_)
  · exact ⟨by simp [markT, hle], Same.refl _ _⟩
  · refine F_laws_markText.L4ind _ (J := fun (g : Nat) x0 x3 h' => x0 = (g : Int) ∧ Same h.length h h' ∧ digs g x3 = digs k.toNat [] ∧ (x3.length : Int) + g ≤ k) (fun g => g) ?_ k.toNat k [] h ⟨by omega, Same.refl _ _, rfl, by simp; omega⟩
    rintro g x0 x3 h' ⟨rfl, hs, hd, hb⟩ R hR
    unfold F_laws_markText.L4t
    refine bcase_dec (fun hlt => ?_) (fun hge => ?_)
    · have h1 : Int.tmod (g : Int) 10 = ((g % 10 : Nat) : Int) := by rw [Int.tmod_eq_emod_of_nonneg (by omega)]; omega
      have h2 : Int.tdiv (g : Int) 10 = ((g / 10 : Nat) : Int) := by rw [Int.tdiv_eq_ediv_of_nonneg (by omega)]; omega
      rw [h1, h2, IntWalk.i64_in _ (by omega), IntWalk.u8_in _ (by omega), IntWalk.i64_in _ (by omega)]
      simp only [letH_def, rowOf_one, xRow_some]
      refine ⟨by omega, ?_⟩
      simp only [bytesA, chk, decide_true]
      refine ⟨by omega, ?_, by omega, hR (g / 10) _ _ _ (by omega) ⟨rfl, hs.trans (Same.app hs.le _), ?_, ?_⟩⟩
      · simp; omega
      · rw [← hd, digs_pos (k := g) (by omega)]
        congr 2
      · simp; omega
    · have : g = 0 := by omega
      subst this
      refine F_laws_markText.A4x0i _ _ _ ⟨by simp; omega, ?_, hs⟩
      rw [digs_zero] at hd
      unfold markT
      rw [if_neg (by omega), ← hd]; rfl

theorem store_one {h : AHeap} {i k : Nat} {t : TypeId} {cs : List AVal} {v : AVal} (hi : h[i]? = some (.cells t cs false)) (hk : k < cs.length) :
    hStore h (.ptr (some (i, k))) [v] = some (h.set i (.cells t (cs.set k v) false)) := by
  have hle : k + 1 ≤ cs.length := hk
  simp only [hStore, hi, List.length_cons, List.length_nil, Nat.zero_add, hle, if_true, putRow]
  rw [show cs.set k v = cs.take k ++ [v] ++ cs.drop (k + 1) by rw [List.set_eq_take_append_cons_drop, if_pos hk]; simp]
theorem getElem_set_self' {h : AHeap} {i : Nat} {x y : AObj} (hi : h[i]? = some y) : (h.set i x)[i]? = some x := by
  have := Own.lt hi
  simp [this]
def marks (k : Int) (n : Nat) : List (List Nat) := (List.range n).map fun (j : Nat) => markT (k + j)
@[simp] theorem marks_length (k : Int) (n : Nat) : (marks k n).length = n := by simp [marks]
theorem marks_succ (k : Int) (n : Nat) : marks k (n + 1) = marks k n ++ [markT (k + n)] := by simp [marks, List.range_succ]

theorem mark_ok {h : AHeap} {b : Nat} {a : Pt} {n c : Nat} {e : Bool} {l : List (List Nat)} {k : Int} (f : Fresh b h a n t_string (strs l)) (hb : b ≤ h.length) (hk : 0 ≤ k ∧ k + n ≤ 4611686018427387904) :
    SCall pg n_laws_markStringS [.slice a n c e, .int .i64 k] h fun v h' => v = .int .i64 (k + n) ∧ Same b h h' ∧ Fresh b h' a n t_string (strs (marks k n)) := by
  have hl : l.length = n := by simpa using f.1
  apply F_laws_markStringS.call
  refine F_laws_markStringS.L2ind _ _ _ _ _ (J := fun (g : Nat) x1 x5 h' => x5 = (g : Int) ∧ x1 = k + g ∧ g ≤ n ∧ Same b h h' ∧ Fresh b h' a n t_string (strs (marks k g ++ l.drop g))) (fun g => n - g) ?_ 0 k 0 h ⟨rfl, by simp, by omega, Same.refl _ _, by simpa [marks] using f⟩
  rintro g x1 x5 h' ⟨rfl, rfl, hg, hs, hf⟩ R hR
  unfold F_laws_markStringS.L2t
  refine bcase_dec (fun hlt => ?_) (fun hge => ?_)
  · have hlt' : g < n := by omega
    refine (markText_ok (by omega)).mono fun v h1 ⟨hv, hs1⟩ => ?_
    subst hv
    simp only [xStr_some]
    refine ⟨⟨by omega, by omega⟩, ?_⟩
    obtain ⟨hfl, h0 | ⟨i, rfl, hbi, hi⟩⟩ := hf
    · omega
    have hi1 : h1[i]? = some (.cells t_string (strs (marks k g ++ l.drop g)) false) := by rw [hs1.eq i (Own.lt hi)]; exact hi
    simp only [xSome_some, Int.toNat_natCast, Nat.mul_one, Nat.zero_add]
    rw [store_one hi1 (by rw [hfl]; exact hlt')]
    simp only [xHeap_some]
    rw [IntWalk.i64_in _ (by omega), IntWalk.i64_in _ (by omega)]
    have hset : (strs (marks k g ++ l.drop g)).set g (.str (markT (k + g))) = strs (marks k (g + 1) ++ l.drop (g + 1)) := by
      rw [marks_succ, List.drop_eq_getElem_cons (i := g) (by omega)]
      simp only [strs, List.map_append, List.map_cons, List.map_nil]
      rw [List.set_append_right _ _ (by simp)]
      simp
    rw [hset]
    refine hR (g + 1) _ _ _ (by omega) ⟨by omega, by omega, by omega, (hs.trans (hs1.mono (Nat.le_trans hb hs.le))).trans (Same.set hbi _), ?_⟩
    refine ⟨by simp; omega, .inr ⟨i, rfl, hbi, getElem_set_self' hi1⟩⟩
  · have : g = n := by omega
    subst this
    refine F_laws_markStringS.A2x0i _ _ _ ⟨rfl, hs, ?_⟩
    rw [List.drop_of_length_le (by omega), List.append_nil] at hf
    exact hf

theorem held_ok {h : AHeap} {a : Pt} {n c : Nat} {e : Bool} {k : Int} (r : Row h.length h a n (strs (marks k n))) (hk : 0 ≤ k ∧ k + n ≤ 4611686018427387904) :
    SCall pg n_laws_heldStringS [.slice a n c e, .int .i64 k] h fun v h' => v = .int .i64 (k + n) ∧ Same h.length h h' := by
  apply F_laws_heldStringS.call
  refine F_laws_heldStringS.L2ind _ _ _ _ _ (J := fun (g : Nat) x1 x5 h' => x5 = (g : Int) ∧ x1 = k + g ∧ g ≤ n ∧ Same h.length h h') (fun g => n - g) ?_ 0 k 0 h ⟨rfl, by simp, by omega, Same.refl _ _⟩
  rintro g x1 x5 h' ⟨rfl, rfl, hg, hs⟩ R hR
  unfold F_laws_heldStringS.L2t
  refine bcase_dec (fun hlt => ?_) (fun hge => ?_)
  · have hlt' : g < n := by omega
    obtain ⟨i, o, rfl, hi, hc⟩ := r.at hlt'
    rw [strs_get, marks, List.getElem?_map, List.getElem?_range hlt'] at hc
    have hc1 := hs.cell hi hc
    simp only [xSome_some, Int.toNat_natCast, Nat.mul_one, hc1, Option.map_some, xStr_some]
    refine ⟨⟨by omega, by omega⟩, (markText_ok (by omega)).mono fun v h1 ⟨hv, hs1⟩ => ?_⟩
    subst hv
    have hc2 := (hs.trans (hs1.mono hs.le)).cell hi hc
    simp only [xStr_some, hc2, Option.map_some, decide_true, Bool.not_true, bcase_false, true_and]
    rw [IntWalk.i64_in _ (by omega), IntWalk.i64_in _ (by omega)]
    exact hR (g + 1) _ _ _ (by omega) ⟨by omega, by omega, by omega, hs.trans (hs1.mono hs.le)⟩
  · have : g = n := by omega
    subst this
    exact F_laws_heldStringS.A2x0i _ _ _ ⟨rfl, hs⟩
end Go.Sim
