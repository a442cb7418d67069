/- A part of the proof of a statement of this seat: see the text that holds the theorem. No condition. -/
import Derived.Test.YtgiiilhdmfddcaaDoorPTCGap
import Derived.Test.YtgiiilhdmfddcaaDoorCNum
set_option linter.all false
set_option linter.unusedVariables false
set_option linter.unusedSimpArgs false
set_option maxRecDepth 20000
namespace Go.Sim
open Go Go.RowKit

abbrev Gp := Int × List Nat
def totG (l : List Gp) : Nat := (l.map fun g => g.2.length).sum
theorem totG_take {l : List Gp} {g : Nat} (h : g < l.length) : totG (l.take (g + 1)) = totG (l.take g) + l[g].2.length := by
  unfold totG; rw [List.take_succ_eq_append_getElem h, List.map_append, List.sum_append]; simp
theorem totG_take_le (l : List Gp) (g : Nat) : totG (l.take g) ≤ totG l := by
  conv => rhs; rw [← List.take_append_drop g l]
  unfold totG; rw [List.map_append, List.sum_append]; omega
theorem szGap_ok {h : AHeap} {i : Int} {t : List Nat} {x : Int} (ht : t.length ≤ 9223372036854775807) (hx : 0 ≤ x ∧ x ≤ 1048576) :
    SCall pg n_laws_szGap [.agg [.int .i64 i, .str t], .int .i64 x] h fun v h' => ∃ y, v = .int .i64 y ∧ Same h.length h h' ∧ (0 ≤ y → (t.length : Int) + y = x) := by
  apply F_laws_szGap.call
  simp only [letH_def]
  have s1 : Same h.length h (h ++ [.cells t_laws_Gap [.int .i64 i, .str t] false]) := Same.app (Nat.le_refl _) _
  simp [hCell]
  rw [IntWalk.i64_in _ (by omega)]
  exact bcase_dec (fun hlt => s1) (fun hge => ⟨s1, by omega⟩)
theorem szGaps_ok {h : AHeap} {a : Pt} {n c : Nat} {e : Bool} {l : List Gp} (r : Row h.length h a (n * 2) (flat eG l)) (hs : ∀ p ∈ l, p.2.length ≤ 9223372036854775807) (hn : n ≤ 9223372036854775807) {left : Int} (hl : 0 ≤ left ∧ left ≤ 1048576) :
    SCall pg n_laws_szGapS [.slice a n c e, .int .i64 left] h fun v h' => ∃ x, v = .int .i64 x ∧ Same h.length h h' ∧ (0 ≤ x → (n : Int) + totG l + x = left) := by
  have hll : l.length = n := by have := r.1; rw [flat_length eG_len] at this; omega
  apply F_laws_szGapS.call
  rw [IntWalk.i64_in _ (by omega)]
  refine bcase_dec (fun hlt => ⟨_, rfl, Same.refl _ _, by omega⟩) (fun hge => ?_)
  refine F_laws_szGapS.L5ind _ _ _ _ _ (J := fun (g : Nat) x1 x5 h' => x5 = (g : Int) ∧ Same h.length h h' ∧ g ≤ n ∧ 0 ≤ x1 ∧ x1 + n + totG (l.take g) = left) (fun g => n - g) ?_ 0 _ 0 h ⟨rfl, Same.refl _ _, by omega, by omega, by simp [totG]⟩
  rintro g x1 x5 h' ⟨rfl, hS, hg, h0, ht⟩ R hR
  unfold F_laws_szGapS.L5t
  refine bcase_dec (fun hlt => ?_) (fun hge => ?_)
  · obtain ⟨i, o, hgl, rfl, hi, hc, _⟩ := Row.el eG_len (r.same hS) hll (k := g) (by omega) (by omega)
    have hsl := hs _ (List.getElem_mem hgl)
    simp only [xSome_some, Int.toNat_natCast, hc, eG, xRow_some, xCons_cons, xNil_nil, xStr_some, xInt_some]
    refine ⟨by omega, (szGap_ok hsl (by omega)).mono ?_⟩
    rintro v h1 ⟨y, rfl, hs1, hy⟩
    simp only [xInt_some]
    have hS1 := hS.trans (hs1.mono hS.le)
    refine bcase_dec (fun hneg => ⟨_, rfl, hS1, by omega⟩) (fun hneg => ?_)
    rw [wrap_nat (by omega)]
    have hyy := hy (by omega)
    refine hR (g + 1) _ _ _ (by omega) ⟨rfl, hS1, by omega, by omega, ?_⟩
    rw [totG_take hgl]; omega
  · have : g = n := by omega
    subst this
    rw [List.take_of_length_le (by omega)] at ht
    exact F_laws_szGapS.A5x0i _ _ _ ⟨_, rfl, hS, by omega⟩
theorem toGap_ok {h : AHeap} {c : Int} {t : List Nat} :
    SCall pg n_laws_toGap [.agg [.int .i64 c, .str t]] h fun v h' => v = .agg [.int .i64 c, .str t] ∧ Same h.length h h' := by
  apply F_laws_toGap.call
  simp only [letH_def]
  simp [hCell, hStore, hRow, putRow, List.getElem?_append, List.getElem?_set]
  exact Same.app (Nat.le_refl _) _
theorem eqGap_ok {h : AHeap} {c : Int} {t : List Nat} :
    SCall pg n_laws_eqGap [.agg [.int .i64 c, .str t], .agg [.int .i64 c, .str t]] h fun v h' => v = .bool true ∧ Same h.length h h' := by
  apply F_laws_eqGap.call
  simp only [letH_def]
  simp [hCell]
  exact Same.app (Nat.le_refl _) _
theorem toGaps_ok {h : AHeap} {a : Pt} {n c : Nat} {e : Bool} {l : List Gp} (r : Row h.length h a (n * 2) (flat eG l)) (hn : n ≤ 1048576) :
    SCall pg n_laws_toGapS [.slice a n c e] h fun v h' => ∃ a' c' e', v = .slice a' n c' e' ∧ Same h.length h h' ∧ Row h'.length h' a' (n * 2) (flat eG l) := by
  have hl : l.length = n := by have := r.1; rw [flat_length eG_len] at this; omega
  apply F_laws_toGapS.call
  simp only [letH_def, Int.toNat_natCast]
  refine ⟨by trivial, by trivial, ⟨by omega, by omega, by omega⟩, ?_⟩
  refine F_laws_toGapS.L3ind _ _ _ _ _ _ _ _ _ (J := fun (g : Nat) x4 h' => x4 = (g : Int) ∧ g ≤ n ∧ Same h.length h h' ∧ h'[h.length]? = some (.cells t_impl_Gap (flat eG (l.take g) ++ reps (n - g) [.int .i64 0, .str []]) false)) (fun g => n - g) ?_ 0 _ _
    ⟨rfl, by omega, Same.app (Nat.le_refl _) _, by simp⟩
  rintro g x4 h' ⟨rfl, hg, hs, ho⟩ R hR
  unfold F_laws_toGapS.L3t
  refine bcase_dec (fun hlt => ?_) (fun hge => ?_)
  · have hlt' : g < n := by omega
    obtain ⟨i, o, hgl, rfl, hi, hc, _⟩ := Row.el eG_len (r.same hs) hl hlt' (by omega)
    simp only [xSome_some, Int.toNat_natCast, hc, eG, xRow_some, xCons_cons, xNil_nil, xStr_some, xInt_some]
    refine ⟨by omega, toGap_ok.mono ?_⟩
    rintro v h2 ⟨rfl, hs2⟩
    simp only [xAgg_agg, xCons_cons, xNil_nil, xStr_some, xInt_some]
    have ho2 : h2[h.length]? = some (.cells t_impl_Gap (flat eG (l.take g) ++ reps (n - g) [.int .i64 0, .str []]) false) := by rw [hs2.eq _ (Own.lt ho)]; exact ho
    have hlen := flat_take_len (enc := eG) eG_len (l := l) (k := g) (n := n) (z := [.int .i64 0, .str []]) hl hg rfl
    rw [hStore_of ho2 (by rw [hlen]; simp; omega)]
    simp only [xHeap_some]
    have hput := flat_put (enc := eG) eG_len (l := l) (k := g) (n := n) (z := [.int .i64 0, .str []]) hl hlt' hgl rfl
    rw [Nat.zero_add, show ([.int .i64 l[g].1, .str l[g].2] : List AVal) = eG l[g] from rfl, hput, wrap_nat (by omega)]
    have h12 := hs.trans (hs2.mono hs.le)
    exact ⟨by omega, hR (g + 1) _ _ (by omega) ⟨rfl, by omega, h12.trans (Same.set (by omega) _), set_get ho2⟩⟩
  · have : g = n := by omega
    subst this
    apply F_laws_toGapS.A3x0i
    rw [List.take_of_length_le (by omega)] at ho
    simp [reps] at ho
    exact ⟨_, _, _, rfl, hs, (Vec.mk1 (n := g) (c := g) ho).row (by rw [flat_length eG_len]; omega)⟩
theorem eqGaps_ok {h : AHeap} {a0 a1 : Pt} {n0 n1 c0 c1 : Nat} {e0 e1 : Bool} {l : List Gp} (r0 : Row h.length h a0 (n0 * 2) (flat eG l)) (r1 : Row h.length h a1 (n1 * 2) (flat eG l)) (hn : n0 ≤ 4611686018427387904) :
    SCall pg n_laws_eqGapS [.slice a0 n0 c0 e0, .slice a1 n1 c1 e1] h fun v h' => v = .bool true ∧ Same h.length h h' := by
  have h0 : l.length = n0 := by have := r0.1; rw [flat_length eG_len] at this; omega
  have h1 : l.length = n1 := by have := r1.1; rw [flat_length eG_len] at this; omega
  apply F_laws_eqGapS.call
  refine bcase_nbeq (fun hne => by omega) (fun he => ?_)
  refine F_laws_eqGapS.L4ind _ _ _ _ _ _ _ _ _ (J := fun (g : Nat) x5 h' => x5 = (g : Int) ∧ g ≤ n0 ∧ Same h.length h h') (fun g => n0 - g) ?_ 0 _ _ ⟨rfl, by omega, Same.refl _ _⟩
  rintro g x5 h' ⟨rfl, hg, hs⟩ R hR
  unfold F_laws_eqGapS.L4t
  refine bcase_dec (fun hlt => ?_) (fun hge => F_laws_eqGapS.A4x0i _ _ ⟨rfl, hs⟩)
  obtain ⟨i, o, hgl, rfl, hi, hc, _⟩ := Row.el eG_len (r0.same hs) h0 (k := g) (by omega) (by omega)
  obtain ⟨i', o', hgl', rfl, hi', hc', _⟩ := Row.el eG_len (r1.same hs) h1 (k := g) (by omega) (by omega)
  simp only [xSome_some, Int.toNat_natCast, hc, hc', eG, xRow_some, xCons_cons, xNil_nil, xStr_some, xInt_some]
  refine ⟨by omega, by omega, by trivial, eqGap_ok.mono ?_⟩
  rintro v h2 ⟨rfl, hs2⟩
  simp only [xBool_some, Bool.not_true, bcase_false]
  rw [wrap_nat (by omega)]
  exact hR (g + 1) _ _ (by omega) ⟨rfl, by omega, hs.trans (hs2.mono hs.le)⟩
def gapT (g : Gp) : List Nat := itoaN g.1 ++ g.2
theorem tot_gap {l : List Gp} (hl : ∀ z ∈ l, -9223372036854775808 ≤ z.1 ∧ z.1 ≤ 9223372036854775807) : tot (l.map gapT) ≤ l.length * 20 + totG l := by
  induction l with
  | nil => simp [tot, totG]
  | cons z l ih =>
    have h1 := ih fun y hy => hl y (by simp [hy])
    have h2 := itoaN_len (hl z (by simp)).1 (hl z (by simp)).2
    simp only [tot, totG, gapT, List.map_cons, List.sum_cons, List.length_cons, List.length_append] at *
    omega
theorem specGaps_ok {h : AHeap} {a : Pt} {n c : Nat} {e : Bool} {l : List Gp} (r : Row h.length h a (n * 2) (flat eG l)) (hn : n + totG l ≤ 1048576) (hz : ∀ z ∈ l, -9223372036854775808 ≤ z.1 ∧ z.1 ≤ 9223372036854775807) :
    SCall pg n_spec_FormatGaps [.slice a n c e] h fun v h' => v = .str (dash (sp (l.map gapT))) ∧ Same h.length h h' := by
  have hl : l.length = n := by have := r.1; rw [flat_length eG_len] at this; omega
  apply F_spec_FormatGaps.call
  refine F_spec_FormatGaps.L3ind _ _ _ _ _ _ (J := fun (g : Nat) x3 x8 h' => x8 = (g : Int) ∧ Same h.length h h' ∧ g ≤ n ∧ x3 = sp ((l.map gapT).take g)) (fun g => n - g) ?_ 0 _ _ _ ⟨rfl, Same.refl _ _, by omega, by simp [sp, List.intercalate]⟩
  rintro g x3 x8 h' ⟨rfl, hs, hg, rfl⟩ R hR
  unfold F_spec_FormatGaps.L3t
  have hb1 := sp_len ((l.map gapT).take g)
  have hb2 := tot_take_le (l.map gapT) g
  have hb3 := tot_gap hz
  have hmin : min g n = g := Nat.min_eq_left (by omega)
  rw [List.length_take, List.length_map, hl, hmin] at hb1
  refine bcase_dec (fun hlt => ?_) (fun hge => ?_)
  · have hlt' : g < n := by omega
    obtain ⟨i, o, hgl, rfl, hi', hc, _⟩ := Row.el eG_len (r.same hs) hl hlt' (by omega)
    have hzg := hz _ (List.getElem_mem hgl)
    have hlg := itoaN_len hzg.1 hzg.2
    have htg : l[g].2.length ≤ totG l := by have := totG_take hgl; have := totG_take_le l (g + 1); omega
    simp only [xSome_some, Int.toNat_natCast, hc, eG, xRow_some, xCons_cons, xNil_nil, xStr_some, xInt_some, letH_def]
    have hnew : (h' ++ [AObj.cells t_impl_Gap [.int .i64 0, .str []] false])[h'.length]? = some (.cells t_impl_Gap [.int .i64 0, .str []] false) := by simp
    rw [hStore_of hnew (by simp)]
    simp only [xHeap_some]
    generalize hge : (h' ++ [AObj.cells t_impl_Gap [.int .i64 0, .str []] false]).set h'.length (.cells t_impl_Gap (putRow [.int .i64 0, .str []] 0 [.int .i64 l[g].1, .str l[g].2]) false) = h2
    have h2n : h2[h'.length]? = some (.cells t_impl_Gap [.int .i64 l[g].1, .str l[g].2] false) := by rw [← hge, set_get hnew]; simp [putRow]
    have hs2 : Same h'.length h' h2 := by rw [← hge]; exact (Same.app (Nat.le_refl _) _).trans (Same.set (Nat.le_refl _) _)
    have hS2 := hs.trans (hs2.mono hs.le)
    have step : ∀ pre, pre.length ≤ 30000000 → pre ++ gapT l[g] = sp ((l.map gapT).take (g + 1)) → F_spec_FormatGaps.J7 (fun v h'_1 => v = .str (dash (sp (l.map gapT))) ∧ Same h.length h h'_1) R pre h'.length 0 (g : Int) (n : Int) (some (i, o)) n c e h2 := by
      intro pre hp he
      apply F_spec_FormatGaps.J7i
      simp only [hCell_of h2n, Nat.add_zero, Nat.zero_add, List.getElem?_cons_zero, List.getElem?_cons_succ, xInt_some, xStr_some]
      refine (l13Dec_ok hzg.1 hzg.2).mono ?_
      rintro v h3 ⟨rfl, hs3⟩
      simp only [xStr_some]
      refine ⟨?_, by omega, by simp; omega, F_spec_FormatGaps.J8i _ _ _ _ _ _ _ _ _ _ ?_⟩
      · rw [hs3.cell (Own.lt h2n) (hCell_of h2n)]; simp [hCell_of h2n]
      · rw [wrap_nat (by omega), List.append_assoc, show itoaN l[g].1 ++ l[g].2 = gapT l[g] from rfl, he]
        exact hR (g + 1) _ _ _ (by omega) ⟨rfl, hS2.trans (hs3.mono hS2.le), by omega, rfl⟩
    have hx : ((l.map gapT).take g).length = g := by rw [List.length_take, List.length_map, hl, hmin]
    refine ⟨by omega, bcase_dec (fun h0 => ?_) (fun h0 => ?_)⟩
    · refine ⟨by simp; omega, step _ (by simp; omega) ?_⟩
      unfold sp
      rw [List.take_succ_eq_append_getElem (by simpa using hgl), inter_snoc _ _ _ (fun hnil => by rw [hnil, List.length_nil] at hx; omega)]
      simp
    · have : g = 0 := by omega
      subst this
      refine step _ (by simp [sp, List.intercalate]) ?_
      unfold sp
      rw [List.take_succ_eq_append_getElem (by simpa using hgl)]; simp [List.intercalate]
  · have : g = n := by omega
    subst this
    rw [List.take_of_length_le (by simp; omega)]
    apply F_spec_FormatGaps.A3x0i
    unfold dash
    refine bcase_dec (fun h0 => ?_) (fun h0 => ?_)
    · rw [if_pos h0]; exact ⟨rfl, hs⟩
    · rw [if_neg h0]; exact ⟨rfl, hs⟩
theorem implGaps_ok {h : AHeap} {a : Pt} {n c : Nat} {e : Bool} {l : List Gp} {k : Nat} (hk : h[k]? = some (tabAmb pg)) (r : Row h.length h a (n * 2) (flat eG l)) (hn : n + totG l ≤ 1048576) (hz : ∀ z ∈ l, -9223372036854775808 ≤ z.1 ∧ z.1 ≤ 9223372036854775807) :
    SCall pg n_impl_FormatGaps [.slice a n c e] h fun v h' => v = .str (dash (sp (l.map gapT))) ∧ Same h.length h h' := by
  have hl : l.length = n := by have := r.1; rw [flat_length eG_len] at this; omega
  have hkl := Own.lt hk
  apply F_impl_FormatGaps.call
  simp only [letH_def]
  refine F_impl_FormatGaps.L3ind _ _ _ _ _ _ (J := fun (g : Nat) a3 n3 c3 e3 x9 h' => x9 = (g : Int) ∧ g ≤ n ∧ Same h.length h h' ∧ n3 = g ∧ Vec t_string h' a3 n3 c3 (strs ((l.map gapT).take g)) ∧ ∀ i, a3 = some (i, 0) → h.length ≤ i) (fun g => n - g) ?_ 0 _ _ _ _ _ _
    ⟨rfl, by omega, Same.app (Nat.le_refl _) _, rfl, Vec.mk1 (by simp), by simp⟩
  rintro g a3 n3 c3 e3 x9 h' ⟨rfl, hg, hs, rfl, hv, ha⟩ R hR
  unfold F_impl_FormatGaps.L3t
  refine bcase_dec (fun hlt => ?_) (fun hge => ?_)
  · have hlt' : n3 < n := by omega
    obtain ⟨i, o, hgl, rfl, hi', hc, _⟩ := Row.el eG_len (r.same hs) hl hlt' (by omega)
    have hzg := hz _ (List.getElem_mem hgl)
    have hlg := itoaN_len hzg.1 hzg.2
    have htg : l[n3].2.length ≤ totG l := by have := totG_take hgl; have := totG_take_le l (n3 + 1); omega
    simp only [xSome_some, Int.toNat_natCast, hc, eG, xRow_some, xCons_cons, xNil_nil, xStr_some, xInt_some, letH_def]
    have hnew : (h' ++ [AObj.cells t_impl_Gap [.int .i64 0, .str []] false])[h'.length]? = some (.cells t_impl_Gap [.int .i64 0, .str []] false) := by simp
    rw [hStore_of hnew (by simp)]
    simp only [xHeap_some]
    generalize hge : (h' ++ [AObj.cells t_impl_Gap [.int .i64 0, .str []] false]).set h'.length (.cells t_impl_Gap (putRow [.int .i64 0, .str []] 0 [.int .i64 l[n3].1, .str l[n3].2]) false) = h2
    have h2n : h2[h'.length]? = some (.cells t_impl_Gap [.int .i64 l[n3].1, .str l[n3].2] false) := by rw [← hge, set_get hnew]; simp [putRow]
    have hs2 : Same h'.length h' h2 := by rw [← hge]; exact (Same.app (Nat.le_refl _) _).trans (Same.set (Nat.le_refl _) _)
    have hS2 := hs.trans (hs2.mono hs.le)
    simp only [hCell_of h2n, Nat.add_zero, Nat.zero_add, List.getElem?_cons_zero, List.getElem?_cons_succ, xInt_some, xStr_some]
    refine ⟨by omega, (lib_itoa (k := k) (by rw [hS2.eq k hkl]; exact hk) hzg.1 hzg.2).mono ?_⟩
    rintro v h3 ⟨rfl, rfl⟩
    simp only [xStr_some]
    have h2l := Own.lt h2n
    refine ⟨by rw [hCell_of h2n]; rfl, by omega, ?_, ?_, ?_⟩
    · rw [hCell_of (app_old h2n), hCell_of h2n]
    · rw [hCell_of (app_old h2n), hCell_of h2n]
    · have hle := hs2.le
      have hv2 := hv.same hs2
      refine hv2.push u_L_string c_string k_string b_string (by simp; omega) rfl (by omega) (fun h4 hl4 hi4 hk4 => ?_)
      simp only [xSl_some]
      have h4n : h4[h'.length]? = some (.cells t_impl_Gap [.int .i64 l[n3].1, .str l[n3].2] false) := by
        rw [hk4 _ h2l fun i hi => fun e => ?_]; exact h2n
        subst e; rw [hi] at hv
        have := hv.lt; omega
      rw [hCell_of h4n, hCell_of h4n, hCell_of (app_old h2n), hCell_of (app_old h2n)]
      refine ⟨rfl, rfl, ?_⟩
      rw [wrap_nat (by omega)]
      have hle2 := hS2.le
      refine hR (n3 + 1) _ _ _ _ _ _ (by omega) ⟨rfl, by omega, ⟨by omega, fun j hj => ?_⟩, rfl, Vec.mk1 ?_, fun i hi => by cases hi; omega⟩
      · rw [hk4 j (by omega) fun i hi => by have := ha i hi; omega]; exact hS2.eq j hj
      · rw [hi4, List.take_succ_eq_append_getElem (by simpa using hgl)]; simp [strs, gapT]
  · have : n3 = n := by omega
    subst this
    rw [List.take_of_length_le (by simp; omega)] at hv
    have hb3 := tot_gap hz
    refine F_impl_FormatGaps.A3x0i _ _ _ _ _ _ ((implTexts_big (hv.row (by simp [hl])) (by simp [hl]; omega)).mono ?_)
    rintro v h2 ⟨rfl, rfl⟩
    simp only [xStr_some]
    exact ⟨by trivial, hs⟩
theorem lawGaps {h : AHeap} {a : Pt} {n c : Nat} {e : Bool} {l : List Gp} {k : Nat} (hk : h[k]? = some (tabAmb pg)) (r : Row h.length h a (n * 2) (flat eG l)) (hn0 : n ≤ 9223372036854775807) (hs : ∀ p ∈ l, p.2.length ≤ 9223372036854775807)
    (hz : ∀ z ∈ l, -9223372036854775808 ≤ z.1 ∧ z.1 ≤ 9223372036854775807) :
    SCall pg n_laws_FnExactFormatGaps [.slice a n c e] h fun v _ => v = .bool true := by
  apply F_laws_FnExactFormatGaps.call
  refine (szGaps_ok r hs hn0 (by omega)).mono ?_
  rintro v h0 ⟨x, rfl, s0, hx⟩
  simp only [xInt_some]
  refine bcase_dec (fun _ => by trivial) (fun hge => ?_)
  have hb := hx (by omega)
  have hn : n ≤ 1048576 := by omega
  refine (toGaps_ok ((r.same s0).mono s0.le) hn).mono ?_
  rintro v h1 ⟨a1, c1, e1, rfl, s1, f1⟩
  simp only [xSl_some]
  have t1 := s0.trans (s1.mono s0.le)
  refine (specGaps_ok f1 (by omega) hz).mono ?_
  rintro v h2 ⟨rfl, s2⟩
  simp only [xStr_some]
  have t2 := t1.trans (s2.mono t1.le)
  refine (toGaps_ok ((r.same t2).mono t2.le) hn).mono ?_
  rintro v h3 ⟨a3, c3, e3, rfl, s3, f3⟩
  simp only [xSl_some]
  have t3 : Same h.length h h3 := t2.trans (s3.mono t2.le)
  refine (implGaps_ok (k := k) (by rw [t3.eq k (Own.lt hk)]; exact hk) f3 (by omega) hz).mono ?_
  rintro v h4 ⟨rfl, s4⟩
  simp only [xStr_some, decide_true, Bool.not_true, bcase_false]
  have t4 : Same h.length h h4 := t3.trans (s4.mono t3.le)
  refine (toGaps_ok ((r.same t4).mono t4.le) hn).mono ?_
  rintro v h5 ⟨a5, c5, e5, rfl, s5, f5⟩
  simp only [xSl_some]
  refine (eqGaps_ok (((f3.same s4).mono s4.le |>.same s5).mono s5.le) f5 (by omega)).mono ?_
  rintro v h6 ⟨rfl, _⟩
  simp
theorem gaps_of {P : Program} {h : AHeap} {f : Nat} {e : TypeId} {f0 f1 : Field} (he : P.underlying e = some (.struct #[f0, f1])) (h0 : P.underlying f0.type = some (.int .i64)) (h1 : P.underlying f1.type = some .string) :
    ∀ (vs : List (List AVal)) (ds : List Dt), ds.length = vs.length → (∀ (i : Nat) (v : List AVal) (x : Dt), vs[i]? = some v → ds[i]? = some x → v.length = P.cellsOf e ∧ rd P h (f + 2) e v x) →
    ∃ l : List Gp, vs.flatten = flat eG l ∧ (∀ z ∈ l, -9223372036854775808 ≤ z.1 ∧ z.1 ≤ 9223372036854775807) ∧ ∀ z ∈ l, z.2.length ≤ 9223372036854775807
  | [], _, _, _ => ⟨[], rfl, by simp, by simp⟩
  | v :: vs, [], h, _ => by simp at h
  | v :: vs, d :: ds, hl, hall => by
    obtain ⟨l, hfl, hs, hs2⟩ := gaps_of he h0 h1 vs ds (by simpa using hl) fun i v x hv hx => hall (i + 1) v x (by simpa using hv) (by simpa using hx)
    have hr := (hall 0 v d rfl rfl).2
    unfold rd at hr
    rw [he] at hr
    obtain ⟨ds', vs', rfl, hd1, hd2, rfl, hall'⟩ := hr
    match vs', ds', hd2, hd1 with
    | [u, w], [x, y], _, _ =>
      have g0 := (hall' 0 f0 u x rfl rfl rfl).2
      have g1 := (hall' 1 f1 w y rfl rfl rfl).2
      simp only [rd, h0] at g0
      simp only [rd, h1] at g1
      obtain ⟨z, rfl, _, hw⟩ := g0
      obtain ⟨s, rfl, _, hsl, _⟩ := g1
      refine ⟨(z, s) :: l, by simp [hfl, eG], fun x hx => ?_, fun x hx => ?_⟩
      · rcases List.mem_cons.1 hx with rfl | hx
        · simp [Lit.wf, IntKind.min, IntKind.max, IntKind.signed, IntKind.bits] at hw; simp; omega
        · exact hs x hx
      · rcases List.mem_cons.1 hx with rfl | hx
        · exact hsl
        · exact hs2 x hx
theorem rd_gaps {P : Program} {h : AHeap} {f : Nat} {t e : TypeId} {f0 f1 : Field} {cs : List AVal} {d : Dt} (ht : P.underlying t = some (.slice e)) (he : P.underlying e = some (.struct #[f0, f1])) (h0 : P.underlying f0.type = some (.int .i64)) (h1 : P.underlying f1.type = some .string) (hc : P.cellsOf e = 2) (hr : rd P h (f + 3) t cs d) :
    ∃ a n c ex, ∃ l : List Gp, cs = [.slice a n c ex] ∧ Row h.length h a (n * 2) (flat eG l) ∧ n ≤ 9223372036854775807 ∧ (∀ z ∈ l, -9223372036854775808 ≤ z.1 ∧ z.1 ≤ 9223372036854775807) ∧ ∀ z ∈ l, z.2.length ≤ 9223372036854775807 := by
  unfold rd at hr
  rw [ht] at hr
  obtain ⟨a, n, c, ex, ds, vs, rfl, rfl, hdl, hn, hvl, hrow, hall⟩ := hr
  obtain ⟨l, hfl, hs, hs2⟩ := gaps_of (f := f) he h0 h1 vs ds (by omega) hall
  rw [hc, hfl] at hrow
  exact ⟨a, n, c, ex, l, rfl, hrow, hn, hs, hs2⟩
end Go.Sim
