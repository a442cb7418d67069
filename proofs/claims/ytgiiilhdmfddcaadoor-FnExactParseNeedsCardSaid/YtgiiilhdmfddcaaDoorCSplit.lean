/- A part of the proof of a statement of this seat: see the text that holds the theorem. No condition. -/
import Derived.Test.YtgiiilhdmfddcaaDoorPTCSplit
import Derived.Test.YtgiiilhdmfddcaaDoorCRow
import Derived.Test.YtgiiilhdmfddcaaDoorPSplit
import Derived.Test.YtgiiilhdmfddcaaDoorSh
import Derived.Test.YtgiiilhdmfddcaaDoorCSTy
import Derived.Test.YtgiiilhdmfddcaaDoorCNum
set_option linter.all false
set_option linter.unusedVariables false
set_option linter.unusedSimpArgs false
set_option maxRecDepth 20000
namespace Go.Sim
open Go Go.RowKit

theorem sub_from {s : List Nat} {k : Nat} {z : Int} (hz : z = k) (hk : k ≤ s.length) : sub s z (s.length : Int) = s.drop k := by subst hz; simp only [sub, Int.toNat_natCast, List.take_length]
theorem sub_to {s : List Nat} {k : Nat} {z : Int} (hz : z = k) : sub s 0 z = s.take k := by subst hz; simp [sub]
theorem sub_mid {s : List Nat} {j k : Nat} {x y : Int} (hx : x = j) (hy : y = k) : sub s x y = (s.take k).drop j := by subst hx; subst hy; simp [sub]
/-- strings.Cut at a byte. -/
theorem lcut_ok {h : AHeap} {s : List Nat} {c : Nat} (hs : s.length ≤ 1048576) : SCall pg n_internal_stringslite_Cut [.str s, .str [c]] h fun v h' => h' = h ∧ ((∃ a r, s = a ++ c :: r ∧ c ∉ a ∧ v = .tup [.str a, .str r, .bool true]) ∨ (c ∉ s ∧ v = .tup [.str s, .str [], .bool false])) := by
  apply F_internal_stringslite_Cut.call
  refine lib_lindex.mono ?_
  rintro v h' ⟨rfl, rfl⟩
  simp only [xInt_some]
  refine bcase_dec (fun hge => ?_) (fun hlt => ?_)
  · obtain ⟨k, hk⟩ : ∃ k : Nat, idxN s c = k := ⟨(idxN s c).toNat, by omega⟩
    have hkl := idxN_lt s c
    obtain ⟨hs1, hs2⟩ := idxN_spec hk
    rw [hk]
    have e1 : ((([c] : List Nat).length : Nat) : Int) = 1 := rfl
    rw [e1, IntWalk.i64_in _ (by omega)]
    refine ⟨⟨by omega, by omega, by omega⟩, ⟨by omega, by omega, by omega⟩, by trivial, .inl ⟨s.take k, s.drop (k + 1), hs1, hs2, ?_⟩⟩
    rw [sub_to rfl, sub_from (k := k + 1) (by omega) (by omega)]
  · exact ⟨by trivial, .inr ⟨(idxN_neg s c).1 (by omega), by trivial⟩⟩
theorem cut_ok {h : AHeap} {s : List Nat} {c : Nat} (hs : s.length ≤ 1048576) : SCall pg n_strings_Cut [.str s, .str [c]] h fun v h' => h' = h ∧ ((∃ a r, s = a ++ c :: r ∧ c ∉ a ∧ v = .tup [.str a, .str r, .bool true]) ∨ (c ∉ s ∧ v = .tup [.str s, .str [], .bool false])) := by
  apply F_strings_Cut.call
  refine (lcut_ok hs).mono ?_
  rintro v h' ⟨rfl, ⟨a, r, rfl, hc, rfl⟩ | ⟨hc, rfl⟩⟩
  · simp only [xTup_tup, xCons_cons, xStr_some, xBool_some, xNil_nil]
    exact ⟨by trivial, .inl ⟨a, r, rfl, hc, by trivial⟩⟩
  · simp only [xTup_tup, xCons_cons, xStr_some, xBool_some, xNil_nil]
    exact ⟨by trivial, .inr ⟨hc, by trivial⟩⟩
theorem genSplit_ok {h : AHeap} {s : List Nat} {c : Nat} (hs : s.length ≤ 1048576) : SCall pg n_strings_genSplit [.str s, .str [c], .int .i64 0, .int .i64 (-1)] h fun v h' => Same h.length h h' ∧
    ∃ e, v = .slice (some (h.length, 0)) (splitN c s).length (splitN c s).length e ∧ h'[h.length]? = some (.cells t_string (flat eS (splitN c s)) false) := by
  have hcl : s.count c ≤ s.length := List.count_le_length
  have hl := splitN_length c s
  apply F_strings_genSplit.call
  simp only [show ((-1 : Int) == 0) = false from rfl, bcase_false, List.cons_ne_nil, decide_false, show decide ((-1 : Int) < 0) = true from rfl, bcase_true]
  refine lib_count.mono ?_
  rintro v h' ⟨rfl, rfl⟩
  simp only [xInt_some]
  apply F_strings_genSplit.J7i
  rw [wrap_nat (k := s.count c) (by omega), wrap_nat (k := s.length) (by omega)]
  rw [show (if ((s.length + 1 : Nat) : Int) < ((s.count c + 1 : Nat) : Int) then ((s.length + 1 : Nat) : Int) else ((s.count c + 1 : Nat) : Int)) = ((s.count c + 1 : Nat) : Int) from if_neg (by omega)]
  rw [← hl]
  refine ⟨rfl, rfl, ⟨by omega, by omega, by omega⟩, ?_⟩
  simp only [letH_def, Int.toNat_natCast]
  rw [IntWalk.i64_in _ (by omega)]
  generalize hn : (splitN c s).length = n at *
  have hm : ((n : Int) - 1) = ((n - 1 : Nat) : Int) := by omega
  rw [hm]
  refine F_strings_genSplit.L11ind _ _ _ _ _ _ _ _ (J := fun (g : Nat) x0 x10 h2 => x10 = (g : Int) ∧ g + 1 ≤ n ∧ Same h'.length h' h2 ∧ x0.length ≤ 1048576 ∧ (splitN c s).drop g = splitN c x0 ∧ h2[h'.length]? = some (.cells t_string (flat eS ((splitN c s).take g) ++ reps (n - g) [.str []]) false)) (fun g => n - g) ?_ 0 _ _ _
    ⟨rfl, by omega, Same.app (Nat.le_refl _) _, hs, by simp, by simp⟩
  rintro g x0 x10 h2 ⟨rfl, hg, hS, hx0, hdr, ho⟩ R hR
  have hlen0 := congrArg List.length hdr
  rw [List.length_drop, hn, splitN_length] at hlen0
  have hrow := flat_take_len (enc := eS) eS_len (l := splitN c s) (k := g) (n := n) (z := [.str []]) hn (by omega) rfl
  have hgl : g < (splitN c s).length := by omega
  have put : ∀ v, (splitN c s)[g] = v → hStore h2 (.ptr (some (h'.length, 0 + g * 1))) [.str v] = some (h2.set h'.length (.cells t_string (flat eS ((splitN c s).take (g + 1)) ++ reps (n - (g + 1)) [.str []]) false)) := by
    intro v hv
    rw [hStore_of ho (by rw [hrow]; simp; omega)]
    have := flat_put (enc := eS) eS_len (l := splitN c s) (k := g) (n := n) (z := [.str []]) hn (by omega) hgl rfl
    rw [Nat.zero_add, ← this, hv]; rfl
  have last : c ∉ x0 → g + 1 = n → F_strings_genSplit.A11x0 (fun v h'_1 => Same h'.length h' h'_1 ∧ ∃ e, v = .slice (some (h'.length, 0)) n n e ∧ h'_1[h'.length]? = some (.cells t_string (flat eS (splitN c s)) false)) (some (h'.length, 0)) n n true (g : Int) x0 h2 := by
    intro hnc hgn
    apply F_strings_genSplit.A11x0i
    have hv : (splitN c s)[g] = x0 := by
      have := splitN_none hnc
      rw [this] at hdr
      have h3 := congrArg (·[0]?) hdr
      simp [List.getElem?_drop, hgl] at h3
      exact h3
    simp only [xSome_some, Int.toNat_natCast]
    rw [put _ hv]
    simp only [xHeap_some]
    rw [wrap_nat (by omega), hgn]
    refine ⟨by omega, ?_⟩
    simp only [sliceSl, optInt]
    refine ⟨by omega, fun _ => ?_, fun hno => by omega⟩
    simp only [xSl_some]
    refine ⟨hS.trans (Same.set (Nat.le_refl _) _), true, ?_, ?_⟩
    · simp
    · rw [set_get ho, List.take_of_length_le (by omega)]; simp [reps]
  unfold F_strings_genSplit.L11t
  refine bcase_dec (fun hlt => ?_) (fun hge => ?_)
  · refine lib_index.mono ?_
    rintro v h3 ⟨rfl, rfl⟩
    simp only [xInt_some]
    have hmem : c ∈ x0 := by
      have : 0 < x0.count c := by omega
      exact List.count_pos_iff.1 this
    refine bcase_dec (fun hneg => absurd hmem ((idxN_neg x0 c).1 hneg)) (fun hpos => ?_)
    obtain ⟨k, hk⟩ : ∃ k : Nat, idxN x0 c = k := ⟨(idxN x0 c).toNat, by omega⟩
    have hkl := idxN_lt x0 c
    obtain ⟨hs1, hs2⟩ := idxN_spec hk
    have hsp : splitN c x0 = x0.take k :: splitN c (x0.drop (k + 1)) := by
      conv => lhs; rw [hs1]
      exact splitN_cut hs2
    have hv : (splitN c s)[g] = x0.take k := by
      rw [hsp] at hdr
      have h3 := congrArg (·[0]?) hdr
      simp [List.getElem?_drop, hgl] at h3
      exact h3
    rw [hk, Int.add_zero, IntWalk.i64_in _ (by omega), show ((([c] : List Nat).length : Nat) : Int) = 1 from rfl, wrap_nat (by omega), sub_to rfl, sub_from (k := k + 1) rfl (by omega)]
    simp only [xSome_some, Int.toNat_natCast]
    rw [put _ hv]
    simp only [xHeap_some]
    rw [wrap_nat (by omega)]
    refine ⟨⟨by omega, by omega, by omega⟩, ⟨by omega, by omega⟩, ⟨by omega, by omega, by omega⟩, hR (g + 1) _ _ _ (by omega) ⟨rfl, by omega, hS.trans (Same.set (Nat.le_refl _) _), by simp; omega, ?_, set_get ho⟩⟩
    rw [← List.tail_drop, hdr, hsp]; rfl
  · refine last (fun hmem => ?_) (by omega)
    have := List.count_pos_iff.2 hmem
    omega
theorem split_ok {h : AHeap} {s : List Nat} {c : Nat} (hs : s.length ≤ 1048576) : SCall pg n_strings_Split [.str s, .str [c]] h fun v h' => Same h.length h h' ∧
    ∃ j cp e, v = .slice (some (j, 0)) (splitN c s).length cp e ∧ h.length ≤ j ∧ h'[j]? = some (.cells t_string (flat eS (splitN c s)) false) := by
  apply F_strings_Split.call
  refine (genSplit_ok hs).mono ?_
  rintro v h' ⟨hS, e, rfl, ho⟩
  simp only [xSl_some]
  exact ⟨hS, _, _, _, rfl, Nat.le_refl _, ho⟩
/-- The reference's splitting. -/
theorem l13Cut_ok {h : AHeap} {s : List Nat} {c : Nat} (hs : s.length ≤ 1048576) : SCall pg n_spec_l13Cut [.str s, .int .u8 (c : Int)] h fun v h' => Same h.length h h' ∧
    ∃ j cp e, v = .slice (some (j, 0)) (splitN c s).length cp e ∧ h.length ≤ j ∧ h'[j]? = some (.cells t_string (flat eS (splitN c s)) false) := by
  apply F_spec_l13Cut.call
  simp only [letH_def]
  refine F_spec_l13Cut.L4ind _ _ _ (J := fun (g : Nat) a5 n5 c5 e5 x6 x7 h' => x7 = (g : Int) ∧ g ≤ s.length + 1 ∧ Same h.length h h' ∧ ∃ (done : List (List Nat)) (from_ : Nat), n5 = done.length ∧ x6 = (from_ : Int) ∧ done.length ≤ g ∧ Vec t_string h' a5 n5 c5 (strs done) ∧ (∀ i, a5 = some (i, 0) → h.length ≤ i) ∧
      (g ≤ s.length → from_ ≤ g ∧ c ∉ (s.take g).drop from_ ∧ splitN c s = done ++ splitN c (s.drop from_)) ∧ (g = s.length + 1 → splitN c s = done)) (fun g => s.length + 1 - g) ?_ 0 _ _ _ _ _ _ _
    ⟨rfl, by omega, Same.app (Nat.le_refl _) _, [], 0, rfl, rfl, by simp, Vec.mk1 (by simp), by simp, fun _ => ⟨by omega, by simp, by simp⟩, by omega⟩
  rintro g a5 n5 c5 e5 x6 x7 h' ⟨rfl, hg, hS, done, from_, rfl, rfl, hdl, hv, ha, hin, hout⟩ R hR
  unfold F_spec_l13Cut.L4t
  refine bcase_dec (fun hle => ?_) (fun hgt => ?_)
  · obtain ⟨hf, hnc, hsp⟩ := hin (by omega)
    have push : ∀ p, (∀ a n e h4, Same h.length h h4 → n = done.length + 1 → Vec t_string h4 a n n (strs (done ++ [p])) → (∀ i, a = some (i, 0) → h.length ≤ i) → F_spec_l13Cut.J5 (fun v h' => Same h.length h h' ∧ ∃ j cp e, v = .slice (some (j, 0)) (splitN c s).length cp e ∧ h.length ≤ j ∧ h'[j]? = some (.cells t_string (flat eS (splitN c s)) false)) R (g : Int) s (c : Int) a n n e (IntKind.wrap .i64 ((g : Int) + 1)) h4) →
        appendA pg t_L_string (h' ++ [.cells t_string [.str p] false]) (.slice a5 done.length c5 e5) (.slice (some (List.length h', 0)) 1 1 true) fun v_2 h_3 => xSl (some v_2) fun a_4 n_5 c_6 e_7 => F_spec_l13Cut.J5 (fun v h' => Same h.length h h' ∧ ∃ j cp e, v = .slice (some (j, 0)) (splitN c s).length cp e ∧ h.length ≤ j ∧ h'[j]? = some (.cells t_string (flat eS (splitN c s)) false)) R (g : Int) s (c : Int) a_4 n_5 c_6 e_7 (IntKind.wrap .i64 ((g : Int) + 1)) h_3 := by
      intro p K
      refine hv.push u_L_string c_string k_string b_string (by simp) rfl (by omega) (fun h4 hl4 hi4 hk4 => ?_)
      simp only [xSl_some]
      have hle := hS.le
      refine K _ _ _ _ ⟨by omega, fun j hj => ?_⟩ rfl (Vec.mk1 (by simpa [strs] using hi4)) (fun i hi => by cases hi; omega)
      rw [hk4 j (by omega) fun i hi => by have := ha i hi; omega]; exact hS.eq j hj
    refine bcase_beq (fun he => ?_) (fun hne => ?_)
    · have hgs : g = s.length := by omega
      subst hgs
      rw [sub_mid (j := from_) (k := s.length) rfl rfl, List.take_length]
      rw [List.take_length] at hnc
      refine ⟨⟨by omega, by omega, by omega⟩, push _ fun a n e h4 hS4 hn4 hv4 ha4 => F_spec_l13Cut.J5i _ _ _ _ _ _ _ _ _ _ _ ?_⟩
      rw [wrap_nat (by omega)]
      subst hn4
      exact hR (s.length + 1) _ _ _ _ _ _ _ (by omega) ⟨rfl, by omega, hS4, done ++ [s.drop from_], s.length + 1, by simp, rfl, by simp; omega, by simpa using hv4, ha4, by omega, fun _ => by rw [hsp, splitN_none hnc]⟩
    · have hlt : g < s.length := by omega
      refine ⟨⟨by omega, by omega⟩, ?_⟩
      rw [Int.toNat_natCast, getD_get hlt]
      have htk : (s.take (g + 1)).drop from_ = (s.take g).drop from_ ++ [s[g]] := by
        rw [List.take_succ_eq_append_getElem hlt, List.drop_append_of_le_length (by simp; omega)]
      have hdr : s.drop from_ = (s.take g).drop from_ ++ s[g] :: s.drop (g + 1) := by
        conv => lhs; rw [← List.take_append_drop g s]
        rw [List.drop_append_of_le_length (by simp; omega), List.drop_eq_getElem_cons hlt]
      refine bcase_beq (fun he => ?_) (fun hne2 => ?_)
      · have hec : s[g] = c := by omega
        rw [sub_mid (j := from_) (k := g) rfl rfl]
        refine ⟨⟨by omega, by omega, by omega⟩, push _ fun a n e h4 hS4 hn4 hv4 ha4 => F_spec_l13Cut.J5i _ _ _ _ _ _ _ _ _ _ _ ?_⟩
        rw [wrap_nat (by omega)]
        subst hn4
        refine hR (g + 1) _ _ _ _ _ _ _ (by omega) ⟨rfl, by omega, hS4, done ++ [(s.take g).drop from_], g + 1, by simp, rfl, by simp; omega, by simpa using hv4, ha4, fun _ => ⟨by omega, by simp, ?_⟩, by omega⟩
        rw [hsp, hdr, hec, splitN_cut hnc]; simp
      · apply F_spec_l13Cut.J5i
        rw [wrap_nat (by omega)]
        refine hR (g + 1) _ _ _ _ _ _ _ (by omega) ⟨rfl, by omega, hS, done, from_, rfl, rfl, by omega, hv, ha, fun _ => ⟨by omega, ?_, hsp⟩, by omega⟩
        rw [htk]
        simp only [List.mem_append, List.mem_singleton, not_or]
        exact ⟨hnc, fun e => hne2 (by rw [e])⟩
  · have : g = s.length + 1 := by omega
    have hd := hout this
    apply F_spec_l13Cut.A4x0i
    rw [hd]
    rcases hv with ⟨_, _, _, h0⟩ | ⟨i, rfl, hi⟩
    · exact absurd (by rw [hd]; exact List.map_eq_nil_iff.1 h0) (splitN_ne c s)
    · exact ⟨hS, _, _, _, rfl, ha i rfl, by rw [flat_eS]; exact hi⟩
end Go.Sim
