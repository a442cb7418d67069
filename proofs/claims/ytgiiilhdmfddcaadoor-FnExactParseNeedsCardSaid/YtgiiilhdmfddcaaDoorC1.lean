/- A part of the proof of a statement of this seat: see the text that holds the theorem. No condition. -/
import Derived.Test.YtgiiilhdmfddcaaDoorPTC1
import Derived.Test.YtgiiilhdmfddcaaDoorSimW
set_option linter.unusedSimpArgs false
set_option linter.all false
set_option linter.unusedVariables false
namespace Go.Sim
open Go Go.RowKit

theorem u22 : pg.underlying t_L_string = some (.slice t_string) := by kernel_rfl
theorem c9 : pg.cellsOf t_string = 1 := by kernel_rfl
theorem k9 : pg.okElem t_string = true := by kernel_rfl
theorem b9 : pg.bytesOf t_string = 16 := by kernel_rfl

/-- A counting index, one further. -/
theorem wrap_succ {k n : Nat} (h : k < n) (hn : n ≤ 4611686018427387904) : IntKind.wrap .i64 ((k : Int) + 1) = ((k + 1 : Nat) : Int) := by rw [IntWalk.i64_in _ (by omega)]; omega

/-- A number's digits. -/
def digs (k : Nat) (acc : List Nat) : List Nat := if h : k = 0 then acc else digs (k / 10) ((48 + k % 10) :: acc)
  termination_by k
  decreasing_by omega
theorem digs_zero (acc : List Nat) : digs 0 acc = acc := by unfold digs; simp
theorem digs_pos {k : Nat} (h : k ≠ 0) (acc : List Nat) : digs k acc = digs (k / 10) ((48 + k % 10) :: acc) := by
  conv => lhs; unfold digs
  rw [dif_neg h]
def markT (k : Int) : List Nat := if k ≤ 0 then [109, 48] else 109 :: digs k.toNat []
theorem rowOf_last {h : AHeap} {t : TypeId} {cs : List AVal} {n : Nat} (hn : cs.length = n) : rowOf (h ++ [.cells t cs false]) (some (h.length, 0)) n = some cs := by
  subst hn
  exact (Own.row (b := 0) (t := t) ⟨h.length, rfl, by omega, by simp⟩).rowOf
theorem rowOf_one {h : AHeap} {t : TypeId} {v : AVal} : rowOf (h ++ [.cells t [v] false]) (some (h.length, 0)) 1 = some [v] := rowOf_last rfl
theorem markText_ok {h : AHeap} {k : Int} (hk : k ≤ 4611686018427387904) : SCall pg n_laws_markText [.int .i64 k] h fun v h' => v = .str (markT k) ∧ Same h.length h h' := by
  apply F_laws_markText.call
  refine bcase_dec (fun hle => ?_) (fun hgt => ?_)
  · exact ⟨by simp [markT, hle], Same.refl _ _⟩
  · refine F_laws_markText.L4ind _ (J := fun (g : Nat) x0 x3 h' => x0 = (g : Int) ∧ Same h.length h h' ∧ digs g x3 = digs k.toNat [] ∧ (x3.length : Int) + g ≤ k) (fun g => g) ?_ k.toNat k [] h ⟨by omega, Same.refl _ _, rfl, by simp; omega⟩
    rintro g x0 x3 h' ⟨rfl, hs, hd, hb⟩ R hR
    unfold F_laws_markText.L4t
    refine bcase_dec (fun hlt => ?_) (fun hge => ?_)
    · have h1 : Int.tmod (g : Int) 10 = ((g % 10 : Nat) : Int) := by rw [Int.tmod_eq_emod_of_nonneg (by omega)]; omega
      have h2 : Int.tdiv (g : Int) 10 = ((g / 10 : Nat) : Int) := by rw [Int.tdiv_eq_ediv_of_nonneg (by omega)]; omega
      rw [h1, h2, IntWalk.i64_in _ (by omega), IntWalk.u8_in _ (by omega), IntWalk.i64_in _ (by omega)]
      simp only [letH_def, rowOf_one, xRow_some]
      refine ⟨by omega, ?_⟩
      simp only [bytesA, chk, decide_true]
      refine ⟨by omega, ?_, by omega, hR (g / 10) _ _ _ (by omega) ⟨rfl, hs.trans (Same.app hs.le _), ?_, ?_⟩⟩
      · simp; omega
      · rw [← hd, digs_pos (k := g) (by omega)]
        congr 2
      · simp; omega
    · have : g = 0 := by omega
      subst this
      refine F_laws_markText.A4x0i _ _ _ ⟨by simp; omega, ?_, hs⟩
      rw [digs_zero] at hd
      unfold markT
      rw [if_neg (by omega), ← hd]; rfl

theorem store_one {h : AHeap} {i k : Nat} {t : TypeId} {cs : List AVal} {v : AVal} (hi : h[i]? = some (.cells t cs false)) (hk : k < cs.length) :
    hStore h (.ptr (some (i, k))) [v] = some (h.set i (.cells t (cs.set k v) false)) := by
  have hle : k + 1 ≤ cs.length := hk
  simp only [hStore, hi, List.length_cons, List.length_nil, Nat.zero_add, hle, if_true, putRow]
  rw [show cs.set k v = cs.take k ++ [v] ++ cs.drop (k + 1) by rw [List.set_eq_take_append_cons_drop, if_pos hk]; simp]
theorem getElem_set_self' {h : AHeap} {i : Nat} {x y : AObj} (hi : h[i]? = some y) : (h.set i x)[i]? = some x := by
  have := Own.lt hi
  simp [this]
def marks (k : Int) (n : Nat) : List (List Nat) := (List.range n).map fun (j : Nat) => markT (k + j)
@[simp] theorem marks_length (k : Int) (n : Nat) : (marks k n).length = n := by simp [marks]
theorem marks_succ (k : Int) (n : Nat) : marks k (n + 1) = marks k n ++ [markT (k + n)] := by simp [marks, List.range_succ]

end Go.Sim
