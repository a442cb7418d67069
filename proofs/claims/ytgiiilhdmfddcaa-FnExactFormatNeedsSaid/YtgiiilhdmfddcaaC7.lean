/- A part of the proof of a statement of this seat: see the text that holds the theorem. No condition. -/
import Derived.Test.YtgiiilhdmfddcaaC6
import Derived.Test.YtgiiilhdmfddcaaSimU
set_option linter.unusedSimpArgs false
set_option linter.unusedVariables false
namespace Go.Sim
open Go Go.RowKit
theorem strs_snoc (l : List (List Nat)) (s : List Nat) : strs l ++ [.str s] = strs (l ++ [s]) := by simp [strs]
theorem amp_ne {l : List (List Nat × List Nat)} (h : l ≠ []) : amp l ≠ [] := by
  match l, h with
  | [p], _ => simp [amp, need, List.intercalate]
  | p :: q :: l, _ => simp [amp, need, List.intercalate]
theorem implNeeds_ok {h : AHeap} {a : Pt} {n c : Nat} {e : Bool} {l : List (List Nat × List Nat)} (r : Row h.length h a (n * 2) (prs l)) (hn : n + tot2 l ≤ 1048576) :
    SCall pg 19 [.slice a n c e] h fun v h' => v = .str (dash (amp l)) ∧ Same h.length h h' := by
  have hll : l.length = n := by have := r.1; rw [prs_length] at this; omega
  apply F19.call
  simp only [letH_def]
  refine F19.L3ind _ _ _ _ _ _ (J := fun (g : Nat) a' m' c' e' x9 h' => x9 = (g : Int) ∧ g ≤ n ∧ Out 9 (h ++ [.cells 9 [] false]) h.length h' a' m' (strs ((l.take g).map need))) (fun g => n - g) ?_ 0 _ _ _ _ 0 _ ⟨rfl, by omega, Out.new (cs := [])⟩
  rintro g a' m' c' e' x9 h' ⟨rfl, hg, hO⟩ R hR
  have hs : Same h.length h h' := (Same.app (Nat.le_refl _) _).trans (hO.keep.same (Nat.le_refl _) (by simp))
  unfold F19.L3t
  refine bcase_dec (fun hlt => ?_) (fun hge => ?_)
  · have hlt' : g < n := by omega
    obtain ⟨i, o, hgl, rfl, hi', hc⟩ := (r.same hs).pair hlt'
    have hb3 := tot2_get hgl
    have hst : hStore (h' ++ [.cells 51 [.str [], .str []] false]) (.ptr (some (h'.length, 0))) [.str l[g].1, .str l[g].2] = some (h' ++ [.cells 51 [.str l[g].1, .str l[g].2] false]) := by
      simp [hStore, putRow]
    have hrw : hRow (h' ++ [.cells 51 [.str l[g].1, .str l[g].2] false]) (.ptr (some (h'.length, 0))) 2 = some [.str l[g].1, .str l[g].2] := by simp [hRow]
    simp only [xSome_some, Int.toNat_natCast, hc, xRow_some, xCons_cons, xNil_nil, xStr_some, letH_def, hst, xHeap_some, hrw]
    refine ⟨by omega, (need35_ok (by omega)).mono fun v h1 ⟨hv, hs1⟩ => ?_⟩
    subst hv
    simp only [xStr_some]
    have hO1 := (hO.call (Same.app (Nat.le_refl _) [.cells 51 [.str l[g].1, .str l[g].2] false])).call hs1
    have hml := hO.len
    simp only [strs_length, List.length_map, List.length_take] at hml
    refine hO1.push u22 c9 k9 (by rw [b9]; omega) rfl (by omega) fun a'' n'' h'' hO' => ?_
    simp only [xSl_some]
    rw [wrap_succ hlt' (by omega)]
    refine hR (g + 1) _ _ _ _ _ _ (by omega) ⟨rfl, by omega, ?_⟩
    rw [strs_snoc] at hO'
    have : (l.take (g + 1)).map need = (l.take g).map need ++ [l[g].1 ++ [32] ++ l[g].2] := by
      rw [List.take_succ_eq_append_getElem hgl, List.map_append]; rfl
    rw [this]; exact hO'
  · have : g = n := by omega
    subst this
    rw [List.take_of_length_le (by omega)] at hO
    have hml := hO.len
    simp only [strs_length, List.length_map] at hml
    refine F19.A3x0i _ _ _ _ _ _ ?_
    by_cases h0 : g = 0
    · have hl0 : l = [] := List.eq_nil_of_length_eq_zero (by omega)
      subst hl0
      have : m' = 0 := by omega
      subst this
      have e0 : (((0 : Nat) : Int) == 0) = true := rfl
      simp only [e0, bcase_true]
      exact ⟨by simp [dash, amp, List.intercalate], hs⟩
    · have e0 : ((m' : Int) == 0) = false := by simp; omega
      simp only [e0, bcase_false]
      have hrow := hO.fresh (b := 0) (Nat.zero_le _) (Nat.zero_le _)
      have hb := amp_le l
      refine (join31_ok (l := l.map need) hrow.row (by omega) (by unfold amp at hb; omega)).mono fun v h1 ⟨hv, hh⟩ => ?_
      subst hv; subst hh
      simp only [xStr_some]
      have hne : l ≠ [] := by intro hl; subst hl; simp at hll; omega
      exact ⟨by have := amp_ne hne; unfold amp at this ⊢; simp [dash, this], hs⟩
theorem law5 {h : AHeap} {a : Pt} {n c : Nat} {e : Bool} {l : List (List Nat × List Nat)} (r : Row h.length h a (n * 2) (prs l)) (hn : n ≤ 9223372036854775807) (hs : ∀ p ∈ l, p.1.length ≤ 9223372036854775807 ∧ p.2.length ≤ 9223372036854775807) : SCall pg 5 [.slice a n c e] h fun v _ => v = .bool true := by
  have hll : l.length = n := by have := r.1; rw [prs_length] at this; omega
  apply F5.call
  refine (szNeeds_ok r hs hn (by omega)).mono fun v h1 ⟨x, hv, hs1, hx⟩ => ?_
  subst hv
  simp only [xInt_some]
  refine bcase_dec (fun hlt => by trivial) (fun hge => ?_)
  have hb := hx (by omega)
  have r1 := (r.same hs1).mono hs1.le
  refine (toNeeds_ok r1 (by omega)).mono fun v h4 ⟨a5, c7, e8, hv, hs4, hf4⟩ => ?_
  subst hv
  simp only [xSl_some]
  refine (specNeeds_ok hf4 (by omega)).mono fun v h10 ⟨hv, hs10⟩ => ?_
  subst hv
  simp only [xStr_some]
  have r10 := (((r1.same hs4).mono hs4.le).same hs10).mono hs10.le
  refine (toNeeds_ok r10 (by omega)).mono fun v h13 ⟨a14, c16, e17, hv, hs13, hf13⟩ => ?_
  subst hv
  simp only [xSl_some]
  refine (implNeeds_ok hf13 (by omega)).mono fun v h19 ⟨hv, hs19⟩ => ?_
  subst hv
  simp only [xStr_some, decide_true, Bool.not_true, bcase_false]
  have r19 := (((r10.same hs13).mono hs13.le).same hs19).mono hs19.le
  refine (toNeeds_ok r19 (by omega)).mono fun v h22 ⟨a23, c25, e26, hv, hs22, hf22⟩ => ?_
  subst hv
  simp only [xSl_some]
  have rA := (((hf13.same hs19).mono hs19.le).same hs22).mono hs22.le
  refine (eqNeeds_ok rA hf22 (by omega) rfl).mono fun v h28 ⟨hv, hh⟩ => ?_
  subst hv
  simp

theorem prs_of {P : Program} {h : AHeap} {f : Nat} {e : TypeId} {f0 f1 : Field} (he : P.underlying e = some (.struct #[f0, f1])) (h0 : P.underlying f0.type = some .string) (h1 : P.underlying f1.type = some .string) :
    ∀ (vs : List (List AVal)) (ds : List Dt), ds.length = vs.length → (∀ (i : Nat) (v : List AVal) (x : Dt), vs[i]? = some v → ds[i]? = some x → v.length = P.cellsOf e ∧ rd P h (f + 2) e v x) →
    ∃ l, vs.flatten = prs l ∧ ∀ p ∈ l, p.1.length ≤ 9223372036854775807 ∧ p.2.length ≤ 9223372036854775807
  | [], _, _, _ => ⟨[], rfl, by simp⟩
  | v :: vs, [], h, _ => by simp at h
  | v :: vs, d :: ds, hl, hall => by
    obtain ⟨l, hfl, hs⟩ := prs_of he h0 h1 vs ds (by simpa using hl) fun i v x hv hx => hall (i + 1) v x (by simpa using hv) (by simpa using hx)
    have hr := (hall 0 v d rfl rfl).2
    unfold rd at hr
    rw [he] at hr
    obtain ⟨es, ws, rfl, hel, hwl, rfl, hall2⟩ := hr
    match ws, es, hwl, hel with
    | [w0, w1], [x0, x1], _, _ =>
      have a0 := (hall2 0 f0 w0 x0 rfl rfl rfl).2
      have a1 := (hall2 1 f1 w1 x1 rfl rfl rfl).2
      simp only [rd, h0] at a0
      simp only [rd, h1] at a1
      obtain ⟨s0, rfl, _, b0, _⟩ := a0
      obtain ⟨s1, rfl, _, b1, _⟩ := a1
      refine ⟨(s0, s1) :: l, by simp [hfl], fun x hx => ?_⟩
      rcases List.mem_cons.1 hx with rfl | hx
      · exact ⟨b0, b1⟩
      · exact hs x hx
theorem rd_prs {P : Program} {h : AHeap} {f : Nat} {t e : TypeId} {f0 f1 : Field} {cs : List AVal} {d : Dt} (ht : P.underlying t = some (.slice e)) (he : P.underlying e = some (.struct #[f0, f1])) (h0 : P.underlying f0.type = some .string) (h1 : P.underlying f1.type = some .string)
    (hc : P.cellsOf e = 2) (hr : rd P h (f + 3) t cs d) :
    ∃ a n c ex l, cs = [.slice a n c ex] ∧ Row h.length h a (n * 2) (prs l) ∧ n ≤ 9223372036854775807 ∧ ∀ p ∈ l, p.1.length ≤ 9223372036854775807 ∧ p.2.length ≤ 9223372036854775807 := by
  unfold rd at hr
  rw [ht] at hr
  obtain ⟨a, n, c, ex, ds, vs, rfl, rfl, hdl, hn, hvl, hrow, hall⟩ := hr
  obtain ⟨l, hfl, hs⟩ := prs_of (f := f) he h0 h1 vs ds (by omega) hall
  rw [hc, hfl] at hrow
  exact ⟨a, n, c, ex, l, rfl, hrow, hn, hs⟩
end Go.Sim
