/- A part of the proof of a statement of this seat: see the text that holds the theorem. No condition. -/
import Derived.Test.YtlljbdepamknoaaGreatDoorPTCMost
import Derived.Test.YtlljbdepamknoaaGreatDoorCTy
import Derived.Test.YtlljbdepamknoaaGreatDoorCWRep
import Derived.Test.YtlljbdepamknoaaGreatDoorPTCSTy
import Derived.Test.YtlljbdepamknoaaGreatDoorPTCWVar
set_option linter.unusedVariables false
set_option linter.unusedSimpArgs false
set_option linter.all false
set_option linter.unusedVariables false
set_option linter.unusedSimpArgs false
set_option maxRecDepth 20000
namespace Go.Sim
open Go Go.RowKit

def one (c : Nat) : List Nat := [c]
theorem vs_L_string : pg.underlying t_L_string = some (.slice t_string) := by kernel_rfl
theorem vs_string : pg.cellsOf t_string = 1 := by kernel_rfl
theorem vk_string : pg.okElem t_string = true := by kernel_rfl
theorem vb_string : pg.bytesOf t_string ≤ 127 := Nat.le_of_ble_eq_true (by kernel_rfl)
theorem vars_ok (s : List Nat) (h : AHeap) : SCall pg n_impl_vars [.str s] h fun v h' => Same h.length h h' ∧ ∃ a n c e, v = .slice a n c e ∧ Row h'.length h' a n (strs ((varsL s).map one)) := by
  apply F_impl_vars.call
  simp only [letH_def]
  have hlist : (h ++ [AObj.cells t_string [] false] ++ [AObj.cells t_string [.str [88], .str [89], .str [90], .str [120], .str [121], .str [122]] false])[h.length + 1]? = some (.cells t_string [.str [88], .str [89], .str [90], .str [120], .str [121], .str [122]] false) := by simp
  have hlen : List.length (h ++ [AObj.cells t_string [] false]) = h.length + 1 := by simp
  rw [hlen]
  refine F_impl_vars.L3ind _ _ _ _ _ _ _ (J := fun (g : Nat) a3 n3 c3 e3 x9 h' => x9 = (g : Int) ∧ g ≤ 6 ∧ Same h.length h h' ∧ h'[h.length + 1]? = some (.cells t_string [.str [88], .str [89], .str [90], .str [120], .str [121], .str [122]] false) ∧ n3 = (((varsN.take g).filter fun v => decide (v ∈ s)).map one).length ∧ Vec t_string h' a3 n3 c3 (strs (((varsN.take g).filter fun v => decide (v ∈ s)).map one)) ∧ ∀ i, a3 = some (i, 0) → h.length ≤ i ∧ i ≠ h.length + 1) (fun g => 6 - g) ?_ 0 _ _ _ _ _ _
    ⟨rfl, by omega, (Same.app (Nat.le_refl _) _).trans (Same.app (by simp) _), hlist, by simp, Vec.mk1 (by simp), fun i hi => by cases hi; omega⟩
  rintro g a3 n3 c3 e3 x9 h' ⟨rfl, hg, hS, hl, rfl, hv, ha⟩ R hR
  unfold F_impl_vars.L3t
  refine bcase_dec (fun hlt => ?_) (fun hge => ?_)
  · have hlt' : g < 6 := by omega
    have hc : ∃ c, varsN[g]? = some c ∧ hCell h' (.ptr (some (h.length + 1, 0 + (g : Int).toNat * 1))) = some (.str [c]) := by
      rw [hCell_of hl, Int.toNat_natCast]
      match g, hlt' with
      | 0, _ | 1, _ | 2, _ | 3, _ | 4, _ | 5, _ => exact ⟨_, rfl, rfl⟩
    obtain ⟨c, hc1, hc2⟩ := hc
    simp only [xSome_some, hc2, xStr_some]
    refine ⟨by omega, lib_contains.mono ?_⟩
    rintro v h2 ⟨rfl, rfl⟩
    simp only [xBool_some]
    have htk : varsN.take (g + 1) = varsN.take g ++ [c] := by
      rw [List.take_succ, hc1]; rfl
    have hbd : (((varsN.take g).filter fun v => decide (v ∈ s)).map one).length ≤ 6 := by
      rw [List.length_map]
      exact Nat.le_trans (List.length_filter_le _ _) (by simp; omega)
    refine bcase_dec (fun hin => ?_) (fun hout => ?_)
    · simp only [letH_def]
      refine hv.push vs_L_string vs_string vk_string vb_string (by simp) rfl (by omega) (fun h4 hl4 hi4 hk4 => ?_)
      simp only [xSl_some]
      apply F_impl_vars.J7i
      rw [wrap_nat (by omega)]
      have hle := hS.le
      refine hR (g + 1) _ _ _ _ _ _ (by omega) ⟨rfl, by omega, ⟨by omega, fun j hj => ?_⟩, ?_, ?_, Vec.mk1 ?_, fun i hi => by cases hi; have := Own.lt hl; omega⟩
      · rw [hk4 j (by omega) fun i hi => by have := (ha i hi).1; omega]; exact hS.eq j hj
      · rw [hk4 _ (Own.lt hl) fun i hi => (ha i hi).2.symm]; exact hl
      · rw [htk, List.filter_append]; simp [hin]
      · rw [hi4, htk, List.filter_append]; simp [hin, strs, one]
    · apply F_impl_vars.J7i
      rw [wrap_nat (by omega)]
      have hf : (varsN.take (g + 1)).filter (fun v => decide (v ∈ s)) = (varsN.take g).filter fun v => decide (v ∈ s) := by rw [htk, List.filter_append]; simp [hout]
      refine hR (g + 1) _ _ _ _ _ _ (by omega) ⟨rfl, by omega, hS, hl, by rw [hf], by rw [hf]; exact hv, ha⟩
  · have : g = 6 := by omega
    subst this
    apply F_impl_vars.A3x0i
    refine ⟨hS, _, _, _, _, rfl, hv.row (by simp)⟩
end Go.Sim

set_option linter.unusedVariables false
set_option linter.unusedSimpArgs false
set_option maxRecDepth 20000
namespace Go.Sim
open Go Go.RowKit

theorem hCell_last {h : AHeap} {t : TypeId} {cs : List AVal} {o : Nat} : hCell (h ++ [.cells t cs false]) (.ptr (some (h.length, o))) = cs[o]? := hCell_of (t := t) (cs := cs) (ro := false) (by simp)
theorem hRow_last {h : AHeap} {t : TypeId} {cs : List AVal} {n : Nat} (hn : cs.length = n) : hRow (h ++ [.cells t cs false]) (.ptr (some (h.length, 0))) n = some cs := by
  rw [hRow_of (show (h ++ [AObj.cells t cs false])[h.length]? = some (.cells t cs false) by simp) (by omega)]; simp [← hn]
theorem same_last {h : AHeap} {x : AObj} : Same h.length h (h ++ [x]) := Same.app (Nat.le_refl _) _
theorem store_last {h : AHeap} {t : TypeId} {cs vs : List AVal} (hl : cs.length = vs.length) : hStore (h ++ [.cells t cs false]) (.ptr (some (h.length, 0))) vs = some (h ++ [.cells t vs false]) := by
  rw [hStore_of (show (h ++ [AObj.cells t cs false])[h.length]? = some (.cells t cs false) by simp) (by omega)]
  simp [putRow, hl]
theorem store2 {h : AHeap} {t : TypeId} {x y a b : AVal} : hStore (h ++ [.cells t [x, y] false]) (.ptr (some (h.length, 0))) [a, b] = some (h ++ [.cells t [a, b] false]) := store_last rfl
theorem store3 {h : AHeap} {t : TypeId} {x y z a b c : AVal} : hStore (h ++ [.cells t [x, y, z] false]) (.ptr (some (h.length, 0))) [a, b, c] = some (h ++ [.cells t [a, b, c] false]) := store_last rfl
theorem Row.sl {b : Nat} {h : AHeap} {a : Pt} {n k : Nat} {l : List Nd} (r : Row b h a (n * 2) (flat eP l)) (hk : k ≤ n) (hl : l.length = n) : Row b h a (k * 2) (flat eP (l.take k)) := by
  obtain ⟨h1, h2⟩ := r
  have e : (flat eP (l.take k)).length = k * 2 := by rw [flat_length eP_len, List.length_take, Nat.min_eq_left (by omega)]
  refine ⟨e, ?_⟩
  rcases h2 with h0 | ⟨i, o, t, all, ro, ha, hb, hi, hle, hcs⟩
  · exact .inl (by omega)
  · refine .inr ⟨i, o, t, all, ro, ha, hb, hi, by omega, ?_⟩
    rw [← flat_tk eP_len, hcs, List.take_take, Nat.min_eq_left (by omega)]
/-- The first k of a row. -/
theorem slice_to {b : Nat} {h : AHeap} {a : Pt} {n c k : Nat} {e : Bool} {l : List Nd} {K : AVal → Prop} (r : Row b h a (n * 2) (flat eP l)) (hl : l.length = n) (hk : k ≤ n) (hc : n ≤ c) {z : Int} (hz : z = k)
    (hK : ∀ a' c' e', Row b h a' (k * 2) (flat eP (l.take k)) → k ≤ c' → K (.slice a' k c' e')) : sliceSl a n c e 2 none (some (.int .i64 z)) none K := by
  subst hz
  simp only [sliceSl, optInt]
  refine ⟨by omega, ?_⟩
  split
  · have h0 : n = 0 := by
      obtain ⟨h1, h2⟩ := r
      rcases h2 with h2 | ⟨i, o, t, all, ro, ha, _⟩
      · omega
      · cases ha
    have hk0 : k = 0 := by omega
    subst hk0
    exact ⟨⟨by trivial, by simp, .inl (by trivial)⟩, hK _ _ _ (by simpa using Row.nil) (by omega)⟩
  · rename_i i o
    refine ⟨fun hlt => ?_, fun hlt => ?_⟩
    · have e2 : ((k : Int) - 0).toNat = k := by omega
      have e3 : o + Int.toNat 0 * 2 = o := by simp
      have e4 : ((c : Int) - 0).toNat = c := by omega
      rw [e2, e3, e4]
      exact hK _ _ _ (r.sl hk hl) (by omega)
    · have hk0 : k = 0 := by omega
      subst hk0
      exact hK _ _ _ (by simpa using Row.nil) (by omega)

theorem knownLit_ok {h : AHeap} {x : Nd} {j : Nat} {c : List Nat} (hj : hCell h (.ptr (some (j, 0))) = some (.str c)) (hjl : j < h.length) :
    SCall pg n_impl_known_lit1 [.agg [.str x.1, .str x.2], .ptr (some (j, 0))] h fun v h' => v = .bool (decide (x.1 = c)) ∧ Same h.length h h' := by
  apply F_impl_known_lit1.call
  simp only [letH_def, hCell_last, List.getElem?_cons_zero, xStr_some]
  have := (same_last (h := h) (x := .cells t_impl_Class [.str x.1, .str x.2] false)).cell hjl hj
  rw [this]
  exact ⟨rfl, same_last⟩
theorem index_known {h : AHeap} {a : Pt} {n c : Nat} {e : Bool} {cs : List Nd} {j : Nat} {s : List Nat} (r : Row h.length h a (n * 2) (flat eP cs)) (hn : n ≤ 4611686018427387904) (hj : hCell h (.ptr (some (j, 0))) = some (.str s)) (hjl : j < h.length) :
    SCall pg n_slices_IndexFunc_L_impl_Class_impl_Class [.slice a n c e, .fn n_impl_known_lit1 [.ptr (some (j, 0))]] h fun v h' => (∃ z : Int, v = .int .i64 z ∧ decide (z ≥ 0) = knownC cs s) ∧ Same h.length h h' := by
  have hl : cs.length = n := by have := r.1; rw [flat_length eP_len] at this; omega
  apply F_slices_IndexFunc_L_impl_Class_impl_Class__impl_known_lit1.call
  refine F_slices_IndexFunc_L_impl_Class_impl_Class__impl_known_lit1.L2ind _ _ _ _ _ _ _ (J := fun (g : Nat) x8 h' => x8 = (g : Int) ∧ g ≤ n ∧ Same h.length h h' ∧ knownC (cs.take g) s = false) (fun g => n - g) ?_ 0 _ _ ⟨rfl, by omega, Same.refl _ _, rfl⟩
  rintro g x8 h' ⟨rfl, hg, hS, hk⟩ R hR
  unfold F_slices_IndexFunc_L_impl_Class_impl_Class__impl_known_lit1.L2t
  refine bcase_dec (fun hlt => ?_) (fun hge => ?_)
  · obtain ⟨i, o, hgl, rfl, _, hr, _⟩ := (r.same hS).pr (k := g) (by omega)
    simp only [xSome_some, Int.toNat_natCast, hr, xRow_some, xCons_cons, xNil_nil, xStr_some]
    refine ⟨by omega, (knownLit_ok (x := cs[g]) (hS.cell hjl hj) (by have := hS.le; omega)).mono ?_⟩
    rintro v h2 ⟨rfl, s2⟩
    simp only [xBool_some]
    have hS2 := hS.trans (s2.mono hS.le)
    refine bcase_dec (fun he => ?_) (fun he => ?_)
    · refine ⟨⟨_, rfl, ?_⟩, hS2⟩
      have : knownC cs s = true := by unfold knownC; rw [List.any_eq_true]; exact ⟨_, List.getElem_mem hgl, by simpa using he⟩
      rw [this]; simp
    · rw [wrap_nat (by omega)]
      exact hR (g + 1) _ _ (by omega) ⟨rfl, by omega, hS2, by rw [knownC_take hgl, hk]; simp [he]⟩
  · apply F_slices_IndexFunc_L_impl_Class_impl_Class__impl_known_lit1.A2x0i
    have : g = n := by omega
    subst this
    rw [List.take_of_length_le (by omega)] at hk
    exact ⟨⟨_, rfl, by rw [hk]; rfl⟩, hS⟩
theorem known_ok {h : AHeap} {a : Pt} {n c : Nat} {e : Bool} {cs : List Nd} {s : List Nat} (r : Row h.length h a (n * 2) (flat eP cs)) (hn : n ≤ 4611686018427387904) :
    SCall pg n_impl_known [.slice a n c e, .str s] h fun v h' => v = .bool (knownC cs s) ∧ Same h.length h h' := by
  apply F_impl_known.call
  simp only [letH_def]
  apply F_slices_ContainsFunc_L_impl_Class_impl_Class__impl_known_lit1.call
  have s1 : Same h.length h (h ++ [.cells t_string [.str s] false]) := same_last
  refine (index_known (r.same' s1) hn (s := s) (by rw [hCell_last]; rfl) (by simp)).mono ?_
  rintro v h2 ⟨⟨z, rfl, hz⟩, s2⟩
  simp only [xInt_some, xBool_some]
  exact ⟨by rw [hz], s1.trans (s2.mono s1.le)⟩
theorem l3Class_ok {h : AHeap} {a a1 : Pt} {n c n1 c1 : Nat} {e e1 : Bool} {cs : List Nd} {s : List Nat} (r : Row h.length h a (n * 2) (flat eP cs)) (hn : n ≤ 4611686018427387904) :
    SCall pg n_spec_l3Class [.agg [.slice a n c e, .slice a1 n1 c1 e1], .str s] h fun v h' => v = .int .i64 (clsIx cs s) ∧ Same h.length h h' := by
  have hl : cs.length = n := by have := r.1; rw [flat_length eP_len] at this; omega
  apply F_spec_l3Class.call
  simp only [letH_def, hCell_last, Nat.add_zero, List.getElem?_cons_zero, xSl_some]
  have s1 : Same h.length h (h ++ [.cells t_impl_World [.slice a n c e, .slice a1 n1 c1 e1] false]) := same_last
  refine F_spec_l3Class.L2ind _ _ _ _ _ _ _ (J := fun (g : Nat) x10 h' => x10 = (g : Int) ∧ g ≤ n ∧ Same h.length h h' ∧ knownC (cs.take g) s = false) (fun g => n - g) ?_ 0 _ _ ⟨rfl, by omega, s1, rfl⟩
  rintro g x8 h' ⟨rfl, hg, hS, hk⟩ R hR
  unfold F_spec_l3Class.L2t
  refine bcase_dec (fun hlt => ?_) (fun hge => ?_)
  · obtain ⟨i, o, hgl, rfl, _, hr, _⟩ := (r.same hS).pr (k := g) (by omega)
    simp only [xSome_some, Int.toNat_natCast, hr, xRow_some, xCons_cons, xNil_nil, xStr_some, letH_def]
    rw [store2]
    simp only [xHeap_some, hCell_last, Nat.add_zero, List.getElem?_cons_zero, xStr_some]
    refine ⟨by omega, ?_⟩
    have hS2 : Same h.length h (h' ++ [.cells t_impl_Class [.str cs[g].1, .str cs[g].2] false]) := hS.trans (Same.app hS.le _)
    refine bcase_dec (fun he => ?_) (fun he => ?_)
    · refine ⟨?_, hS2⟩
      have hkn : knownC cs s = true := by unfold knownC; rw [List.any_eq_true]; exact ⟨_, List.getElem_mem hgl, by simpa using he⟩
      unfold clsIx
      rw [hkn, if_pos rfl]
      congr 2
      symm
      rw [List.findIdx_eq hgl]
      refine ⟨by simpa using he, fun j hj => ?_⟩
      unfold knownC at hk
      rw [List.any_eq_false] at hk
      have := hk cs[j] (List.mem_take_iff_getElem.2 ⟨j, by omega, rfl⟩)
      simpa using this
    · rw [wrap_nat (by omega)]
      exact hR (g + 1) _ _ (by omega) ⟨rfl, by omega, hS2, by rw [knownC_take hgl, hk]; simp [he]⟩
  · apply F_spec_l3Class.A2x0i
    have : g = n := by omega
    subst this
    rw [List.take_of_length_le (by omega)] at hk
    exact ⟨by unfold clsIx; rw [hk]; rfl, hS⟩

theorem sub_one {s : List Nat} {g : Nat} {z : Int} (hg : g < s.length) (hz : z = ((g + 1 : Nat) : Int)) : sub s (g : Int) z = [s[g]] := by
  subst hz
  simp only [sub, Int.toNat_natCast]
  rw [List.take_succ_eq_append_getElem hg, List.drop_append_of_le_length (by simp; omega), List.drop_of_length_le (by rw [List.length_take]; exact Nat.min_le_left _ _), List.nil_append]
theorem wrap_pred {g : Nat} (hg : 0 < g) (hn : g ≤ 9223372036854775807) : IntKind.wrap .i64 ((g : Int) - 1) = ((g - 1 : Nat) : Int) := by rw [IntWalk.i64_in _ (by omega)]; omega
theorem supAt_of {cs : List Nd} {s : List Nat} {g : Nat} (hg : g < s.length) : supAt cs s g = (knownC cs [s[g]] && (g == 0 || decide (s.getD (g - 1) 0 < s[g]))) := by unfold supAt; rw [getD_at hg]
theorem clsAt_of {cs : List Nd} {g : Nat} (hg : g < cs.length) : clsAt cs g = (isCls cs[g].1 && (g == 0 || natLess (cs.getD (g - 1) ([], [])).1 cs[g].1) && supsOk (cs.take g) cs[g].2) := by unfold clsAt; rw [getD_at hg]
theorem clsOk_false {cs : List Nd} {g : Nat} (hg : g < cs.length) (h : clsAt cs g = false) : clsOk cs = false := by unfold clsOk; rw [range_not_all hg h]; rfl
theorem classesOk_ok {h : AHeap} {a a1 : Pt} {n c n1 c1 : Nat} {e e1 : Bool} {cs : List Nd} (r : Row h.length h a (n * 2) (flat eP cs)) (hc : n ≤ c) (hn : n ≤ 1048576) (hs : ∀ p ∈ cs, p.2.length ≤ 1048576) :
    SCall pg n_impl_classesOk [.agg [.slice a n c e, .slice a1 n1 c1 e1]] h fun v h' => v = .bool (clsOk cs) ∧ Same h.length h h' := by
  have hl : cs.length = n := by have := r.1; rw [flat_length eP_len] at this; omega
  apply F_impl_classesOk.call
  simp only [letH_def, hCell_last, Nat.add_zero, List.getElem?_cons_zero, xSl_some]
  have s1 : Same h.length h (h ++ [.cells t_impl_World [.slice a n c e, .slice a1 n1 c1 e1] false]) := same_last
  have hw : (h ++ [AObj.cells t_impl_World [.slice a n c e, .slice a1 n1 c1 e1] false])[h.length]? = some (.cells t_impl_World [.slice a n c e, .slice a1 n1 c1 e1] false) := by simp
  refine F_impl_classesOk.L2ind _ _ _ _ _ _ _ _ (J := fun (g : Nat) x9 h' => x9 = (g : Int) ∧ g ≤ n ∧ Same h.length h h' ∧ h'[h.length]? = some (.cells t_impl_World [.slice a n c e, .slice a1 n1 c1 e1] false) ∧ (List.range g).all (clsAt cs) = true) (fun g => n - g) ?_ 0 _ _ ⟨rfl, by omega, s1, hw, rfl⟩
  rintro g x9 h' ⟨rfl, hg, hS, hW, hk⟩ R hR
  unfold F_impl_classesOk.L2t
  refine bcase_dec (fun hlt => ?_) (fun hge => ?_)
  · obtain ⟨i, o, hgl, rfl, hil, hr, _⟩ := (r.same hS).pr (k := g) (by omega)
    simp only [xSome_some, Int.toNat_natCast, hr, xRow_some, xCons_cons, xNil_nil, xStr_some, letH_def]
    rw [store2]
    simp only [xHeap_some, hCell_last, Nat.add_zero, List.getElem?_cons_zero, xStr_some]
    have hS2 : Same h.length h (h' ++ [.cells t_impl_Class [.str cs[g].1, .str cs[g].2] false]) := hS.trans (Same.app hS.le _)
    refine ⟨by omega, (isClass_ok _).mono ?_⟩
    rintro v h2 ⟨rfl, rfl⟩
    simp only [xBool_some, true_and]
    have hcl := clsAt_of hgl
    have hle := hS2.le
    have hWl := Own.lt hW
    have hW2 : (h' ++ [.cells t_impl_Class [.str cs[g].1, .str cs[g].2] false])[h.length]? = some (.cells t_impl_World [.slice (some (i, o)) n c e, .slice a1 n1 c1 e1] false) := app_old hW
    have hcell : ∀ o', hCell (h' ++ [.cells t_impl_Class [.str cs[g].1, .str cs[g].2] false]) (.ptr (some (h'.length, o'))) = ([.str cs[g].1, .str cs[g].2] : List AVal)[o']? := fun o' => hCell_last
    -- the classes above
    have key : (isCls cs[g].1 && (g == 0 || natLess (cs.getD (g - 1) ([], [])).1 cs[g].1)) = true → F_impl_classesOk.J6 (fun v h' => v = .bool (clsOk cs) ∧ Same h.length h h') R h'.length 0 h.length 0 (g : Int) (some (i, o)) n c e (n : Int) (g : Int) (h' ++ [.cells t_impl_Class [.str cs[g].1, .str cs[g].2] false]) := by
      intro hpre
      rw [hpre, Bool.true_and] at hcl
      apply F_impl_classesOk.J6i
      rw [hcell]
      simp only [Nat.zero_add, List.getElem?_cons_succ, List.getElem?_cons_zero, xStr_some]
      have hsl := hs cs[g] (List.getElem_mem hgl)
      refine F_impl_classesOk.L7ind _ _ _ _ _ _ _ _ _ _ _ _ _ _ (J := fun (q : Nat) x37 h3 => x37 = (q : Int) ∧ q ≤ cs[g].2.length ∧ Same h.length h h3 ∧ h3[h.length]? = some (.cells t_impl_World [.slice (some (i, o)) n c e, .slice a1 n1 c1 e1] false) ∧ h3[h'.length]? = some (.cells t_impl_Class [.str cs[g].1, .str cs[g].2] false) ∧ (List.range q).all (supAt (cs.take g) cs[g].2) = true) (fun q => cs[g].2.length - q) ?_ 0 _ _ ⟨rfl, by omega, hS2, hW2, by simp, rfl⟩
      rintro q x37 h3 ⟨rfl, hq, hS3, hW3, hI3, hk3⟩ R7 hR7
      unfold F_impl_classesOk.L7t
      refine bcase_dec (fun hlt3 => ?_) (fun hge3 => ?_)
      · have hq' : q < cs[g].2.length := by omega
        simp only [Nat.add_zero, Nat.zero_add, hCell_of hW3, hCell_of hI3, List.getElem?_cons_succ, List.getElem?_cons_zero, xSl_some, xStr_some, true_and]
        refine slice_to (r.same hS3) hl (k := g) (by omega) hc rfl (fun a' c' e' hrow hc' => ?_)
        simp only [xSl_some]
        rw [wrap_nat (by omega), sub_one hq' rfl]
        refine ⟨⟨by omega, by omega, by omega⟩, (known_ok (hrow.mono hS3.le) (by omega)).mono ?_⟩
        rintro v h4 ⟨rfl, s4⟩
        have hS4 := hS3.trans (s4.mono hS3.le)
        have hW4 : h4[h.length]? = some (.cells t_impl_World [.slice (some (i, o)) n c e, .slice a1 n1 c1 e1] false) := by rw [s4.eq _ (Own.lt hW3)]; exact hW3
        have hI4 : h4[h'.length]? = some (.cells t_impl_Class [.str cs[g].1, .str cs[g].2] false) := by rw [s4.eq _ (Own.lt hI3)]; exact hI3
        simp only [xBool_some, hCell_of hW3, hCell_of hW4, hCell_of hI4, Nat.add_zero, Nat.zero_add, List.getElem?_cons_succ, List.getElem?_cons_zero, xStr_some, true_and]
        have hsa := supAt_of (cs := cs.take g) hq'
        have fail : supAt (cs.take g) cs[g].2 q = false → (AVal.bool false = AVal.bool (clsOk cs) ∧ Same h.length h h4) := fun hf => ⟨by rw [clsOk_false hgl (by rw [hcl]; unfold supsOk; exact range_not_all hq' hf)], hS4⟩
        have next : supAt (cs.take g) cs[g].2 q = true → R7 h.length 0 (g : Int) h'.length 0 (some (i, o)) n c e (n : Int) (g : Int) (cs[g].2.length : Int) (IntKind.wrap .i64 ((q : Int) + 1)) h4 := fun ht => by
          rw [wrap_nat (by omega)]
          exact hR7 (q + 1) _ _ (by omega) ⟨rfl, by omega, hS4, hW4, hI4, range_succ_all hk3 ht⟩
        refine bcase_not (fun hb => fail (by rw [hsa, hb]; rfl)) (fun hb => ?_)
        refine bcase_dec (fun h0 => ?_) (fun h0 => ?_)
        · have h0' : 0 < q := by omega
          rw [wrap_pred h0' (by omega)]
          refine ⟨⟨by omega, by omega⟩, ⟨by omega, by omega⟩, ?_⟩
          simp only [Int.toNat_natCast]
          have hd1 : cs[g].2.getD q 0 = cs[g].2[q] := getD_at hq'
          have hq0 : (q == 0) = false := by simp; omega
          refine bcase_dec (fun h1 => fail ?_) (fun h1 => F_impl_classesOk.J11i _ _ _ _ _ _ _ _ _ _ _ _ _ _ _ _ _ (next ?_))
          · rw [hsa, hb, hq0, ← hd1]; simp only [Bool.true_and, Bool.false_or, decide_eq_false_iff_not]; omega
          · rw [hsa, hb, hq0, ← hd1]; simp only [Bool.true_and, Bool.false_or, decide_eq_true_eq]; omega
        · have : q = 0 := by omega
          subst this
          exact F_impl_classesOk.J11i _ _ _ _ _ _ _ _ _ _ _ _ _ _ _ _ _ (next (by rw [hsa, hb]; rfl))
      · apply F_impl_classesOk.A7x2i
        apply F_impl_classesOk.J12i
        have : q = cs[g].2.length := by omega
        subst this
        rw [wrap_nat (by omega)]
        exact hR (g + 1) _ _ (by omega) ⟨rfl, by omega, hS3, hW3, range_succ_all hk (by rw [hcl]; exact hk3)⟩
    refine bcase_not (fun hb => ⟨by rw [clsOk_false hgl (by rw [hcl, hb]; rfl)], hS2⟩) (fun hb => ?_)
    refine bcase_dec (fun h0 => ?_) (fun h0 => ?_)
    · have h0' : 0 < g := by omega
      rw [hCell_of hW2]
      simp only [List.getElem?_cons_zero, xSl_some]
      rw [wrap_pred h0' (by omega)]
      obtain ⟨i', o', hgl', heq, _, _, hc0, _⟩ := (r.same hS2).pr (k := g - 1) (by omega)
      cases heq
      simp only [xSome_some, Int.toNat_natCast, hc0, xStr_some, Nat.add_zero, Nat.zero_add, hcell, List.getElem?_cons_zero, true_and]
      refine ⟨by omega, ?_⟩
      have hg0 : (g == 0) = false := by simp; omega
      have hgd : cs.getD (g - 1) ([], []) = cs[g - 1] := getD_at hgl'
      refine bcase_not (fun hb2 => ⟨by rw [clsOk_false hgl (by rw [hcl, hb, hg0, hgd, hb2]; rfl)], hS2⟩) (fun hb2 => key (by rw [hb, hg0, hgd, hb2]; rfl))
    · have : g = 0 := by omega
      subst this
      exact key (by rw [hb]; rfl)
  · apply F_impl_classesOk.A2x0i
    have : g = n := by omega
    subst this
    have hok : clsOk cs = decide (1 ≤ g ∧ g ≤ 4) := by unfold clsOk; rw [hl, hk, Bool.true_and]
    simp only [Nat.add_zero, hCell_of hW, List.getElem?_cons_zero, xSl_some]
    refine bcase_dec (fun h1 => ?_) (fun h1 => ?_)
    · refine ⟨?_, hS⟩
      rw [hok]; congr 1; rw [Bool.eq_iff_iff]; simp; omega
    · refine ⟨?_, hS⟩
      rw [hok]; congr 1; symm; simp; omega
end Go.Sim

set_option linter.unusedVariables false
set_option linter.unusedSimpArgs false
set_option maxRecDepth 20000
namespace Go.Sim
open Go Go.RowKit
theorem l3Classes_ok {h : AHeap} {a : Pt} {n c : Nat} {e : Bool} {cs : List Nd} (r : Row h.length h a (n * 2) (flat eP cs)) (hc : n ≤ c) (hn : n ≤ 1048576) (hs : ∀ p ∈ cs, p.2.length ≤ 1048576) (hb256 : ∀ p ∈ cs, ∀ b ∈ p.1, b < 256) :
    SCall pg n_spec_l3Classes [.slice a n c e] h fun v h' => v = .bool (clsOk cs) ∧ Same h.length h h' := by
  have hl : cs.length = n := by have := r.1; rw [flat_length eP_len] at this; omega
  apply F_spec_l3Classes.call
  refine F_spec_l3Classes.L2ind _ _ _ _ _ _ _ _ _ _ (J := fun (g : Nat) x9 h' => x9 = (g : Int) ∧ g ≤ n ∧ Same h.length h h' ∧ (List.range g).all (clsAt cs) = true) (fun g => n - g) ?_ 0 _ _ ⟨rfl, by omega, Same.refl _ _, rfl⟩
  rintro g x9 h' ⟨rfl, hg, hS, hk⟩ R hR
  unfold F_spec_l3Classes.L2t
  refine bcase_dec (fun hlt => ?_) (fun hge => ?_)
  · obtain ⟨i, o, hgl, rfl, hil, hr, _⟩ := (r.same hS).pr (k := g) (by omega)
    simp only [xSome_some, Int.toNat_natCast, hr, xRow_some, xCons_cons, xNil_nil, xStr_some, letH_def]
    rw [store2]
    simp only [xHeap_some, hCell_last, Nat.add_zero, List.getElem?_cons_zero, xStr_some]
    have hS2 : Same h.length h (h' ++ [.cells t_impl_Class [.str cs[g].1, .str cs[g].2] false]) := hS.trans (Same.app hS.le _)
    refine ⟨by omega, (l3Capital_ok _ (hb256 _ (List.getElem_mem hgl))).mono ?_⟩
    rintro v h2 ⟨rfl, rfl⟩
    simp only [xBool_some, true_and]
    have hcl := clsAt_of hgl
    have hle := hS2.le
    have hcell : ∀ o', hCell (h' ++ [.cells t_impl_Class [.str cs[g].1, .str cs[g].2] false]) (.ptr (some (h'.length, o'))) = ([.str cs[g].1, .str cs[g].2] : List AVal)[o']? := fun o' => hCell_last
    -- the classes above
    have key : (isCls cs[g].1 && (g == 0 || natLess (cs.getD (g - 1) ([], [])).1 cs[g].1)) = true → F_spec_l3Classes.J6 (fun v h' => v = .bool (clsOk cs) ∧ Same h.length h h') R h'.length 0 (some (i, o)) n c e (g : Int) (some (i, o)) n c e (n : Int) (g : Int) (h' ++ [.cells t_impl_Class [.str cs[g].1, .str cs[g].2] false]) := by
      intro hpre
      rw [hpre, Bool.true_and] at hcl
      apply F_spec_l3Classes.J6i
      rw [hcell]
      simp only [Nat.zero_add, List.getElem?_cons_succ, List.getElem?_cons_zero, xStr_some]
      have hsl := hs cs[g] (List.getElem_mem hgl)
      refine F_spec_l3Classes.L7ind _ _ _ _ _ _ _ _ _ _ _ _ _ _ _ _ (J := fun (q : Nat) x37 h3 => x37 = (q : Int) ∧ q ≤ cs[g].2.length ∧ Same h.length h h3 ∧ h3[h'.length]? = some (.cells t_impl_Class [.str cs[g].1, .str cs[g].2] false) ∧ (List.range q).all (supAt (cs.take g) cs[g].2) = true) (fun q => cs[g].2.length - q) ?_ 0 _ _ ⟨rfl, by omega, hS2, by simp, rfl⟩
      rintro q x37 h3 ⟨rfl, hq, hS3, hI3, hk3⟩ R7 hR7
      unfold F_spec_l3Classes.L7t
      refine bcase_dec (fun hlt3 => ?_) (fun hge3 => ?_)
      · have hq' : q < cs[g].2.length := by omega
        simp only [Nat.add_zero, Nat.zero_add, hCell_of hI3, List.getElem?_cons_succ, List.getElem?_cons_zero, xSl_some, xStr_some, true_and]
        refine slice_to (r.same hS3) hl (k := g) (by omega) hc rfl (fun a' c' e' hrow hc' => ?_)
        simp only [xSl_some]
        rw [wrap_nat (by omega), sub_one hq' rfl]
        refine ⟨⟨by omega, by omega, by omega⟩, (l3Class_ok (hrow.mono hS3.le) (by omega)).mono ?_⟩
        rintro v h4 ⟨rfl, s4⟩
        have hS4 := hS3.trans (s4.mono hS3.le)
        have hI4 : h4[h'.length]? = some (.cells t_impl_Class [.str cs[g].1, .str cs[g].2] false) := by rw [s4.eq _ (Own.lt hI3)]; exact hI3
        simp only [xInt_some, clsIx_neg, hCell_of hI4, Nat.add_zero, Nat.zero_add, List.getElem?_cons_succ, List.getElem?_cons_zero, xStr_some, true_and]
        have hsa := supAt_of (cs := cs.take g) hq'
        have fail : supAt (cs.take g) cs[g].2 q = false → (AVal.bool false = AVal.bool (clsOk cs) ∧ Same h.length h h4) := fun hf => ⟨by rw [clsOk_false hgl (by rw [hcl]; unfold supsOk; exact range_not_all hq' hf)], hS4⟩
        have next : supAt (cs.take g) cs[g].2 q = true → R7 (some (i, o)) n c e (g : Int) h'.length 0 (some (i, o)) n c e (n : Int) (g : Int) (cs[g].2.length : Int) (IntKind.wrap .i64 ((q : Int) + 1)) h4 := fun ht => by
          rw [wrap_nat (by omega)]
          exact hR7 (q + 1) _ _ (by omega) ⟨rfl, by omega, hS4, hI4, range_succ_all hk3 ht⟩
        refine bcase_not (fun hb => fail (by rw [hsa, hb]; rfl)) (fun hb => ?_)
        refine bcase_dec (fun h0 => ?_) (fun h0 => ?_)
        · have h0' : 0 < q := by omega
          rw [wrap_pred h0' (by omega)]
          refine ⟨⟨by omega, by omega⟩, ⟨by omega, by omega⟩, ?_⟩
          simp only [Int.toNat_natCast]
          have hd1 : cs[g].2.getD q 0 = cs[g].2[q] := getD_at hq'
          have hq0 : (q == 0) = false := by simp; omega
          refine bcase_dec (fun h1 => fail ?_) (fun h1 => F_spec_l3Classes.J11i _ _ _ _ _ _ _ _ _ _ _ _ _ _ _ _ _ _ _ (next ?_))
          · rw [hsa, hb, hq0, ← hd1]; simp only [Bool.true_and, Bool.false_or, decide_eq_false_iff_not]; omega
          · rw [hsa, hb, hq0, ← hd1]; simp only [Bool.true_and, Bool.false_or, decide_eq_true_eq]; omega
        · have : q = 0 := by omega
          subst this
          exact F_spec_l3Classes.J11i _ _ _ _ _ _ _ _ _ _ _ _ _ _ _ _ _ _ _ (next (by rw [hsa, hb]; rfl))
      · apply F_spec_l3Classes.A7x2i
        apply F_spec_l3Classes.J12i
        have : q = cs[g].2.length := by omega
        subst this
        rw [wrap_nat (by omega)]
        exact hR (g + 1) _ _ (by omega) ⟨rfl, by omega, hS3, range_succ_all hk (by rw [hcl]; exact hk3)⟩
    refine bcase_not (fun hb => ⟨by rw [clsOk_false hgl (by rw [hcl, hb]; rfl)], hS2⟩) (fun hb => ?_)
    refine bcase_dec (fun h0 => ?_) (fun h0 => ?_)
    · have h0' : 0 < g := by omega
      rw [wrap_pred h0' (by omega)]
      obtain ⟨i', o', hgl', heq, _, _, hc0, _⟩ := (r.same hS2).pr (k := g - 1) (by omega)
      cases heq
      simp only [xSome_some, Int.toNat_natCast, hc0, xStr_some, Nat.add_zero, Nat.zero_add, hcell, List.getElem?_cons_zero, true_and]
      refine ⟨by omega, ?_⟩
      have hg0 : (g == 0) = false := by simp; omega
      have hgd : cs.getD (g - 1) ([], []) = cs[g - 1] := getD_at hgl'
      refine bcase_not (fun hb2 => ⟨by rw [clsOk_false hgl (by rw [hcl, hb, hg0, hgd, hb2]; rfl)], hS2⟩) (fun hb2 => key (by rw [hb, hg0, hgd, hb2]; rfl))
    · have : g = 0 := by omega
      subst this
      exact key (by rw [hb]; rfl)
  · apply F_spec_l3Classes.A2x0i
    have : g = n := by omega
    subst this
    have hok : clsOk cs = decide (1 ≤ g ∧ g ≤ 4) := by unfold clsOk; rw [hl, hk, Bool.true_and]
    refine l1In_ok.mono ?_
    rintro v h2 ⟨rfl, rfl⟩
    simp only [xBool_some]
    refine ⟨?_, hS⟩
    rw [hok]; congr 1; rw [Bool.eq_iff_iff]; simp; omega
end Go.Sim

set_option linter.unusedVariables false
set_option linter.unusedSimpArgs false
set_option maxRecDepth 20000
namespace Go.Sim
open Go Go.RowKit

theorem var_mem (c : Nat) : decide (c ∈ [120, 121, 122, 88, 89, 90]) = isVarN c := by rw [Bool.eq_iff_iff]; simp [isVarN, or_assoc]
theorem isVar_ok {h : AHeap} (s : List Nat) : SCall pg n_impl_isVar [.str s] h fun v h' => v = .bool (isVarS s) ∧ h' = h := by
  apply F_impl_isVar.call
  match s with
  | [] => exact bcase_beq (fun h1 => by simp at h1) (fun h1 => ⟨rfl, rfl⟩)
  | [c] =>
    refine bcase_beq (fun h1 => ?_) (fun h1 => by simp at h1)
    refine lib_contains.mono ?_
    rintro v h' ⟨rfl, rfl⟩
    simp only [xBool_some]
    exact ⟨by rw [var_mem]; rfl, by trivial⟩
  | c :: d :: r => exact bcase_beq (fun h1 => by simp at h1; omega) (fun h1 => ⟨rfl, rfl⟩)
theorem l1Variable_ok {h : AHeap} (c : Nat) : SCall pg n_spec_l1Variable [.int .u8 (c : Int)] h fun v h' => v = .bool (isVarN c) ∧ h' = h := by
  apply F_spec_l1Variable.call
  refine (find_ok _ c (by simp)).mono ?_
  rintro v h' ⟨rfl, rfl⟩
  simp only [xInt_some]
  exact ⟨by rw [var_idx], by trivial⟩
/-- How often a variable stands in a type. -/
noncomputable def cntV (s v : List Nat) : Int := if tyOk s && isVarS v then (s.count (v.headD 0) : Nat) else -1
theorem sCountVar_ok {h : AHeap} (s v : List Nat) (hs : s.length ≤ 1048576) : SCall pg n_spec_CountVar [.str s, .str v] h fun x h' => x = .int .i64 (cntV s v) ∧ Same h.length h h' := by
  apply F_spec_CountVar.call
  refine (sTypeValid_ok s (by omega) h).mono ?_
  rintro x h1 ⟨rfl, s1⟩
  simp only [xBool_some]
  refine bcase_not (fun hb => ⟨by unfold cntV; rw [hb]; rfl, s1⟩) (fun hb => ?_)
  match v with
  | [] => exact bcase_nbeq (fun _ => ⟨by unfold cntV; rw [hb]; rfl, s1⟩) (fun h1 => by simp at h1)
  | c :: d :: r => exact bcase_nbeq (fun _ => ⟨by unfold cntV; rw [hb]; rfl, s1⟩) (fun h1 => by simp at h1; omega)
  | [c] =>
    refine bcase_nbeq (fun h1 => by simp at h1) (fun _ => ?_)
    refine ⟨⟨by omega, by simp⟩, ?_⟩
    simp only [Int.toNat_zero, List.getD_cons_zero]
    refine (l1Variable_ok c).mono ?_
    rintro x h2 ⟨rfl, rfl⟩
    simp only [xBool_some]
    refine bcase_not (fun hv => ⟨by unfold cntV; rw [hb, show isVarS [c] = isVarN c from rfl, hv]; rfl, s1⟩) (fun hv => ?_)
    apply F_spec_CountVar.J3i
    refine F_spec_CountVar.L5ind _ _ _ _ (J := fun (g : Nat) x5 x23 h' => x23 = (g : Int) ∧ g ≤ s.length ∧ x5 = ((s.take g).count c : Nat) ∧ h' = h2) (fun g => s.length - g) ?_ 0 _ _ _ ⟨rfl, by omega, by simp, rfl⟩
    rintro g x5 x23 h' ⟨rfl, hg, rfl, rfl⟩ R hR
    unfold F_spec_CountVar.L5t
    refine bcase_dec (fun hlt => ?_) (fun hge => ?_)
    · have hg' : g < s.length := by omega
      refine ⟨⟨by omega, by omega⟩, ⟨by omega, by simp⟩, ?_⟩
      simp only [Int.toNat_zero, List.getD_cons_zero, Int.toNat_natCast, getD_at hg']
      have hc := List.count_le_length (a := c) (l := s.take g)
      rw [List.length_take] at hc
      have htk : (s.take (g + 1)).count c = (s.take g).count c + if s[g] = c then 1 else 0 := by
        rw [List.take_succ_eq_append_getElem hg', List.count_append]; simp [List.count_cons]
      refine bcase_beq (fun he => ?_) (fun he => ?_)
      · apply F_spec_CountVar.J9i
        rw [wrap_nat (by omega), wrap_nat (by omega)]
        exact hR (g + 1) _ _ _ (by omega) ⟨rfl, by omega, by rw [htk, if_pos (by omega)], rfl⟩
      · apply F_spec_CountVar.J9i
        rw [wrap_nat (by omega)]
        exact hR (g + 1) _ _ _ (by omega) ⟨rfl, by omega, by rw [htk, if_neg (by omega)]; rfl, rfl⟩
    · apply F_spec_CountVar.A5x0i
      have : g = s.length := by omega
      subst this
      rw [List.take_length]
      refine ⟨?_, s1⟩
      unfold cntV
      rw [hb, show isVarS [c] = isVarN c from rfl, hv]; rfl
theorem sVarsOf_ok {h : AHeap} (s : List Nat) (hs : s.length ≤ 1048576) : SCall pg n_spec_VarsOf [.str s] h fun v h' => v = .str (if tyOk s = true then varsL s else []) ∧ Same h.length h h' := by
  apply F_spec_VarsOf.call
  simp only [letH_def]
  have hlist : (h ++ [AObj.cells t_string [.str [88], .str [89], .str [90], .str [120], .str [121], .str [122]] false])[h.length]? = some (.cells t_string [.str [88], .str [89], .str [90], .str [120], .str [121], .str [122]] false) := by simp
  refine F_spec_VarsOf.L3ind _ _ _ _ _ _ _ (J := fun (g : Nat) x3 x8 h' => x8 = (g : Int) ∧ g ≤ 6 ∧ Same h.length h h' ∧ h'[h.length]? = some (.cells t_string [.str [88], .str [89], .str [90], .str [120], .str [121], .str [122]] false) ∧ x3 = if tyOk s = true then (varsN.take g).filter fun v => decide (v ∈ s) else []) (fun g => 6 - g) ?_ 0 _ _ _
    ⟨rfl, by omega, same_last, hlist, by simp⟩
  rintro g x3 x8 h' ⟨rfl, hg, hS, hl, rfl⟩ R hR
  unfold F_spec_VarsOf.L3t
  refine bcase_dec (fun hlt => ?_) (fun hge => ?_)
  · have hlt' : g < 6 := by omega
    have hc : ∃ c, varsN[g]? = some c ∧ isVarN c = true ∧ hCell h' (.ptr (some (h.length, 0 + (g : Int).toNat * 1))) = some (.str [c]) := by
      rw [hCell_of hl, Int.toNat_natCast]
      match g, hlt' with
      | 0, _ | 1, _ | 2, _ | 3, _ | 4, _ | 5, _ => exact ⟨_, rfl, rfl, rfl⟩
    obtain ⟨c, hc1, hcv, hc2⟩ := hc
    simp only [xSome_some, hc2, xStr_some]
    refine ⟨by omega, (sCountVar_ok s [c] hs).mono ?_⟩
    rintro v h2 ⟨rfl, s2⟩
    simp only [xInt_some]
    have htk : varsN.take (g + 1) = varsN.take g ++ [c] := by rw [List.take_succ, hc1]; rfl
    have hS2 := hS.trans (s2.mono hS.le)
    have hl2 : h2[h.length]? = some (.cells t_string [.str [88], .str [89], .str [90], .str [120], .str [121], .str [122]] false) := by rw [s2.eq _ (Own.lt hl)]; exact hl
    have hcn : decide (cntV s [c] > 0) = (tyOk s && decide (c ∈ s)) := by
      unfold cntV
      rw [show isVarS [c] = isVarN c from rfl, hcv]
      cases hb : tyOk s with
      | false => rfl
      | true =>
        simp only [Bool.and_self, if_true, Bool.true_and, List.headD_cons]
        rw [Bool.eq_iff_iff]; simp [List.count_pos_iff]
    have hbd : (if tyOk s = true then (varsN.take g).filter fun v => decide (v ∈ s) else []).length ≤ 6 := by
      split
      · exact Nat.le_trans (List.length_filter_le _ _) (by simp; omega)
      · simp
    rw [hcn]
    refine bcase_intro (fun hb => ?_) (fun hb => ?_)
    · simp only [Bool.and_eq_true] at hb
      refine ⟨by simp only [List.length_cons, List.length_nil]; omega, ?_⟩
      apply F_spec_VarsOf.J7i
      rw [wrap_nat (by omega)]
      refine hR (g + 1) _ _ _ (by omega) ⟨rfl, by omega, hS2, hl2, ?_⟩
      rw [if_pos hb.1, if_pos hb.1, htk, List.filter_append]; simp [hb.2]
    · apply F_spec_VarsOf.J7i
      rw [wrap_nat (by omega)]
      refine hR (g + 1) _ _ _ (by omega) ⟨rfl, by omega, hS2, hl2, ?_⟩
      cases ht : tyOk s with
      | false => simp
      | true => rw [ht, Bool.true_and] at hb; rw [htk, List.filter_append]; simp; simpa using hb
  · apply F_spec_VarsOf.A3x0i
    have : g = 6 := by omega
    subst this
    exact ⟨rfl, hS⟩
theorem within_ok {h : AHeap} (x y : List Nat) (hx : x.length ≤ 1048576) (hy : y.length ≤ 1048576) : SCall pg n_spec_l3Within [.str x, .str y] h fun v h' => v = .bool (x.all fun c => decide (c ∈ y)) ∧ h' = h := by
  apply F_spec_l3Within.call
  refine F_spec_l3Within.L2ind _ _ _ _ (J := fun (g : Nat) x8 h' => x8 = (g : Int) ∧ g ≤ x.length ∧ h' = h ∧ (x.take g).all (fun c => decide (c ∈ y)) = true) (fun g => x.length - g) ?_ 0 _ _ ⟨rfl, by omega, rfl, by simp⟩
  rintro g x8 h' ⟨rfl, hg, rfl, hk⟩ R hR
  unfold F_spec_l3Within.L2t
  refine bcase_dec (fun hlt => ?_) (fun hge => ?_)
  · have hg' : g < x.length := by omega
    refine ⟨⟨by omega, by omega⟩, ?_⟩
    simp only [Int.toNat_natCast, getD_at hg']
    refine (find_ok y x[g] (by omega)).mono ?_
    rintro v h2 ⟨rfl, rfl⟩
    simp only [xInt_some]
    have hix : decide (idxN y x[g] < 0) = !decide (x[g] ∈ y) := by
      by_cases hm : x[g] ∈ y
      · have := (idxN_mem y x[g]).2 hm
        simp [hm]; omega
      · rw [idxN_no hm]; simp [hm]
    rw [hix]
    refine bcase_not (fun hb => ⟨by rw [not_all hg' hb], by trivial⟩) (fun hb => ?_)
    rw [wrap_nat (by omega)]
    exact hR (g + 1) _ _ (by omega) ⟨rfl, by omega, rfl, take_succ_all hg' hk hb⟩
  · apply F_spec_l3Within.A2x0i
    have : g = x.length := by omega
    subst this
    rw [List.take_length] at hk
    exact ⟨by rw [hk], by trivial⟩

theorem insOk_of {cs : List Nd} {ct tt : List Nat} {ns : List Nd} (h1 : clsOk cs = true) (h2 : knownC cs ct = true) (h3 : tyOk tt = true) (h4 : tt.length ≤ 20) (h5 : isVarS tt = false) (h6 : ns.length ≤ 3) : insOk cs ((ct, tt), ns) = ns.all (needIn cs tt) := by
  unfold insOk; simp [h1, h2, h3, h4, h5, h6]
/-- What InstanceValid of the program answers. -/
theorem instanceValid_ok {h : AHeap} {a a1 a2 : Pt} {n c n1 c1 n2 c2 : Nat} {e e1 e2 : Bool} {cs ns : List Nd} {ct tt : List Nat} (r : Row h.length h a (n * 2) (flat eP cs)) (hc : n ≤ c) (hn : n ≤ 1048576) (hs : ∀ p ∈ cs, p.2.length ≤ 1048576)
    (r2 : Row h.length h a2 (n2 * 2) (flat eP ns)) (hn2 : n2 ≤ 1048576) (hns : ∀ p ∈ ns, p.2.length ≤ 1048576) (htt : tt.length ≤ 1048576) :
    SCall pg n_impl_InstanceValid [.agg [.slice a n c e, .slice a1 n1 c1 e1], .agg [.str ct, .str tt, .slice a2 n2 c2 e2]] h fun v h' => v = .bool (insOk cs ((ct, tt), ns)) ∧ Same h.length h h' := by
  have hl : cs.length = n := by have := r.1; rw [flat_length eP_len] at this; omega
  have hl2 : ns.length = n2 := by have := r2.1; rw [flat_length eP_len] at this; omega
  apply F_impl_InstanceValid.call
  simp only [letH_def]
  generalize hh0 : h ++ [AObj.cells t_impl_World [.slice a n c e, .slice a1 n1 c1 e1] false] = h0
  generalize hh1 : h0 ++ [AObj.cells t_impl_Instance [.str ct, .str tt, .slice a2 n2 c2 e2] false] = h1
  have s0 : Same h.length h h0 := by rw [← hh0]; exact same_last
  have s01 : Same h0.length h0 h1 := by rw [← hh1]; exact same_last
  have s1 : Same h.length h h1 := s0.trans (s01.mono s0.le)
  have hl0 : h0.length = h.length + 1 := by rw [← hh0]; simp
  have hl1 : h1.length = h.length + 2 := by rw [← hh1]; simp [hl0]
  have w1 : h1[h.length]? = some (.cells t_impl_World [.slice a n c e, .slice a1 n1 c1 e1] false) := by rw [← hh1, app_lt (by omega), ← hh0]; simp
  have i1 : h1[h0.length]? = some (.cells t_impl_Instance [.str ct, .str tt, .slice a2 n2 c2 e2] false) := by rw [← hh1]; simp
  rw [hRow_of w1 (by simp)]
  simp only [List.drop_zero, List.take_succ_cons, List.take_zero, xRow_some, xCons_cons, xSl_some, xNil_nil]
  refine (classesOk_ok (r.same' s1) hc hn hs).mono ?_
  rintro v h2 ⟨rfl, s2⟩
  have S2 : Same h.length h h2 := s1.trans (s2.mono (by omega))
  have w2 : h2[h.length]? = some (.cells t_impl_World [.slice a n c e, .slice a1 n1 c1 e1] false) := by rw [s2.eq _ (by omega)]; exact w1
  have i2 : h2[h0.length]? = some (.cells t_impl_Instance [.str ct, .str tt, .slice a2 n2 c2 e2] false) := by rw [s2.eq _ (by omega)]; exact i1
  simp only [xBool_some]
  refine bcase_not (fun hb => ⟨by unfold insOk; rw [hb]; rfl, S2⟩) (fun b1 => ?_)
  simp only [Nat.add_zero, Nat.zero_add, hCell_of w2, hCell_of i2, List.getElem?_cons_succ, List.getElem?_cons_zero, xSl_some, xStr_some]
  refine (known_ok (r.same' S2) (by omega)).mono ?_
  rintro v h3 ⟨rfl, s3⟩
  have hle2 := s2.le
  have S3 : Same h.length h h3 := S2.trans (s3.mono S2.le)
  have i3 : h3[h0.length]? = some (.cells t_impl_Instance [.str ct, .str tt, .slice a2 n2 c2 e2] false) := by rw [s3.eq _ (by omega)]; exact i2
  have w3 : h3[h.length]? = some (.cells t_impl_World [.slice a n c e, .slice a1 n1 c1 e1] false) := by rw [s3.eq _ (by omega)]; exact w2
  simp only [xBool_some]
  refine bcase_not (fun hb => ⟨by unfold insOk; rw [b1, hb]; rfl, S3⟩) (fun b2 => ?_)
  simp only [hCell_of i3, List.getElem?_cons_succ, List.getElem?_cons_zero, xStr_some]
  refine (typeValid_ok tt h3).mono ?_
  rintro v h4 ⟨rfl, s4⟩
  have hle3 := s3.le
  have S4 : Same h.length h h4 := S3.trans (s4.mono S3.le)
  have i4 : h4[h0.length]? = some (.cells t_impl_Instance [.str ct, .str tt, .slice a2 n2 c2 e2] false) := by rw [s4.eq _ (by omega)]; exact i3
  have w4 : h4[h.length]? = some (.cells t_impl_World [.slice a n c e, .slice a1 n1 c1 e1] false) := by rw [s4.eq _ (by omega)]; exact w3
  simp only [xBool_some]
  refine bcase_not (fun hb => ⟨by unfold insOk; rw [b1, b2, hb]; rfl, S4⟩) (fun b3 => ?_)
  simp only [hCell_of i4, List.getElem?_cons_succ, List.getElem?_cons_zero, xStr_some]
  refine bcase_dec (fun hb => ⟨by unfold insOk; rw [b1, b2, b3]; simp [show ¬ tt.length ≤ 20 by omega], S4⟩) (fun b4 => ?_)
  refine (isVar_ok tt).mono ?_
  rintro v h5 ⟨rfl, rfl⟩
  simp only [xBool_some]
  refine bcase_intro (fun hb => ⟨by unfold insOk; rw [hb]; simp, S4⟩) (fun b5 => ?_)
  simp only [hCell_of i4, List.getElem?_cons_succ, List.getElem?_cons_zero, xSl_some]
  refine bcase_dec (fun hb => ⟨by unfold insOk; simp [show ¬ ns.length ≤ 3 by omega], S4⟩) (fun b6 => ?_)
  rw [insOk_of b1 b2 b3 (by omega) b5 (by omega)]
  apply F_impl_InstanceValid.J3i
  simp only [Nat.zero_add, hCell_of i4, List.getElem?_cons_succ, List.getElem?_cons_zero, xSl_some]
  have hle4 := s4.le
  refine F_impl_InstanceValid.L4ind _ _ _ _ _ _ _ _ _ _ (J := fun (g : Nat) x50 h' => x50 = (g : Int) ∧ g ≤ n2 ∧ Same h5.length h5 h' ∧ (ns.take g).all (needIn cs tt) = true) (fun g => n2 - g) ?_ 0 _ _ ⟨rfl, by omega, Same.refl _ _, rfl⟩
  rintro g x50 h' ⟨rfl, hg, hS, hk⟩ R hR
  have SS : Same h.length h h' := S4.trans (hS.mono S4.le)
  unfold F_impl_InstanceValid.L4t
  refine bcase_dec (fun hlt => ?_) (fun hge => ?_)
  · obtain ⟨i, o, hgl, rfl, hil, hr, _⟩ := (r2.same SS).pr (k := g) (by omega)
    simp only [xSome_some, Int.toNat_natCast, hr, xRow_some, xCons_cons, xNil_nil, xStr_some, letH_def]
    rw [store2]
    have hlh := hS.le
    generalize hq : h' ++ [AObj.cells t_impl_Need [.str ns[g].1, .str ns[g].2] false] = hq'
    have sq : Same h'.length h' hq' := by rw [← hq]; exact same_last
    have hql : hq'.length = h'.length + 1 := by rw [← hq]; simp
    have nq : hq'[h'.length]? = some (.cells t_impl_Need [.str ns[g].1, .str ns[g].2] false) := by rw [← hq]; simp
    have wq : hq'[h.length]? = some (.cells t_impl_World [.slice a n c e, .slice a1 n1 c1 e1] false) := by rw [sq.eq _ (by omega), hS.eq _ (by omega)]; exact w4
    have iq : hq'[h0.length]? = some (.cells t_impl_Instance [.str ct, .str tt, .slice (some (i, o)) n2 c2 e2] false) := by rw [sq.eq _ (by omega), hS.eq _ (by omega)]; exact i4
    simp only [xHeap_some, Nat.add_zero, Nat.zero_add, hCell_of wq, hCell_of nq, List.getElem?_cons_succ, List.getElem?_cons_zero, xSl_some, xStr_some]
    have Sq : Same h.length h hq' := SS.trans (sq.mono SS.le)
    refine ⟨by omega, (known_ok (r.same' Sq) (by omega)).mono ?_⟩
    rintro v k3 ⟨rfl, t3⟩
    have T3 := Sq.trans (t3.mono Sq.le)
    have n3 : k3[h'.length]? = some (.cells t_impl_Need [.str ns[g].1, .str ns[g].2] false) := by rw [t3.eq _ (by omega)]; exact nq
    simp only [xBool_some]
    have fail : ∀ hx, Same h.length h hx → needIn cs tt ns[g] = false → (AVal.bool false = AVal.bool (ns.all (needIn cs tt)) ∧ Same h.length h hx) := fun hx hs hf => ⟨by rw [not_all hgl hf], hs⟩
    refine bcase_not (fun hb => fail _ T3 (by unfold needIn; rw [hb]; rfl)) (fun m1 => ?_)
    simp only [hCell_of n3, List.getElem?_cons_succ, List.getElem?_cons_zero, xStr_some]
    refine (typeValid_ok _ k3).mono ?_
    rintro v k4 ⟨rfl, t4⟩
    have ht3 := t3.le
    have T4 := T3.trans (t4.mono T3.le)
    have n4 : k4[h'.length]? = some (.cells t_impl_Need [.str ns[g].1, .str ns[g].2] false) := by rw [t4.eq _ (by omega)]; exact n3
    simp only [xBool_some]
    refine bcase_not (fun hb => fail _ T4 (by unfold needIn; rw [m1, hb]; rfl)) (fun m2 => ?_)
    simp only [hCell_of n4, List.getElem?_cons_succ, List.getElem?_cons_zero, xStr_some]
    refine bcase_dec (fun hb => fail _ T4 (by unfold needIn; simp [show ¬ ns[g].2.length ≤ 20 by omega])) (fun m3 => ?_)
    apply F_impl_InstanceValid.J8i
    simp only [Nat.zero_add, hCell_of n4, List.getElem?_cons_succ, List.getElem?_cons_zero, xStr_some]
    refine (vars_ok _ k4).mono ?_
    rintro v k5 ⟨t5, av, nv, cv, ev, rfl, hrow⟩
    simp only [xSl_some]
    have ht4 := t4.le
    have ht5 := t5.le
    have T5 := T4.trans (t5.mono T4.le)
    have hvl : (varsL ns[g].2).length = nv := by have := hrow.1; simpa using this
    have hv6 : (varsL ns[g].2).length ≤ 6 := List.length_filter_le _ _
    have hni : needIn cs tt ns[g] = (varsL ns[g].2).all fun v => decide (v ∈ tt) := by unfold needIn; rw [m1, m2]; simp [show ns[g].2.length ≤ 20 by omega]
    have i5 : k5[h0.length]? = some (.cells t_impl_Instance [.str ct, .str tt, .slice (some (i, o)) n2 c2 e2] false) := by rw [t5.eq _ (by omega), t4.eq _ (by omega), t3.eq _ (by omega)]; exact iq
    refine F_impl_InstanceValid.L9ind _ _ _ _ _ _ _ _ _ _ _ _ _ _ _ _ _ (J := fun (q : Nat) x76 h6 => x76 = (q : Int) ∧ q ≤ nv ∧ h6 = k5 ∧ ((varsL ns[g].2).take q).all (fun v => decide (v ∈ tt)) = true) (fun q => nv - q) ?_ 0 _ _ ⟨rfl, by omega, rfl, rfl⟩
    rintro q x76 h6 ⟨rfl, hq6, rfl, hk6⟩ R9 hR9
    unfold F_impl_InstanceValid.L9t
    refine bcase_dec (fun hlt6 => ?_) (fun hge6 => ?_)
    · obtain ⟨iv, ov, rfl, _, hcv⟩ := hrow.at (k := q) (by omega)
      rw [strs_get, List.getElem?_map, List.getElem?_eq_getElem (show q < (varsL ns[g].2).length by omega)] at hcv
      simp only [Option.map_some] at hcv
      simp only [xSome_some, Int.toNat_natCast, Nat.mul_one, hcv, xStr_some, Nat.add_zero, Nat.zero_add, hCell_of i5, List.getElem?_cons_succ, List.getElem?_cons_zero, one]
      refine ⟨by omega, lib_contains.mono ?_⟩
      rintro v k7 ⟨rfl, rfl⟩
      simp only [xBool_some]
      refine bcase_not (fun hb => fail _ T5 (by rw [hni]; exact not_all (by omega) hb)) (fun d1 => ?_)
      rw [wrap_nat (by omega)]
      exact hR9 (q + 1) _ _ (by omega) ⟨rfl, by omega, rfl, take_succ_all (by omega) hk6 d1⟩
    · apply F_impl_InstanceValid.A9x2i
      apply F_impl_InstanceValid.J14i
      have : q = nv := by omega
      subst this
      rw [List.take_of_length_le (by omega)] at hk6
      rw [wrap_nat (by omega)]
      refine hR (g + 1) _ _ (by omega) ⟨rfl, by omega, ?_, take_succ_all hgl hk (by rw [hni]; exact hk6)⟩
      exact hS.trans ((sq.mono hS.le).trans ((t3.mono (by omega)).trans ((t4.mono (by omega)).trans (t5.mono (by omega)))))
  · apply F_impl_InstanceValid.A4x0i
    have : g = n2 := by omega
    subst this
    rw [List.take_of_length_le (by omega)] at hk
    exact ⟨by rw [hk], SS⟩
end Go.Sim

set_option linter.unusedVariables false
set_option linter.unusedSimpArgs false
set_option maxRecDepth 20000
namespace Go.Sim
open Go Go.RowKit

theorem vars_within (x t : List Nat) : ((varsL x).all fun c => decide (c ∈ varsL t)) = (varsL x).all fun c => decide (c ∈ t) := by
  rw [Bool.eq_iff_iff, List.all_eq_true, List.all_eq_true]
  constructor
  · intro h c hc
    have := h c hc
    simp only [varsL, decide_eq_true_eq, List.mem_filter] at this ⊢
    exact this.2
  · intro h c hc
    have h1 := h c hc
    have hv : c ∈ varsN := (List.mem_filter.1 hc).1
    simp only [varsL, decide_eq_true_eq, List.mem_filter] at h1 ⊢
    exact ⟨hv, h1⟩
theorem sInstanceValid_ok {h : AHeap} {a a1 a2 : Pt} {n c n1 c1 n2 c2 : Nat} {e e1 e2 : Bool} {cs ns : List Nd} {ct tt : List Nat} (r : Row h.length h a (n * 2) (flat eP cs)) (hc : n ≤ c) (hn : n ≤ 1048576) (hs : ∀ p ∈ cs, p.2.length ≤ 1048576) (hb256 : ∀ p ∈ cs, ∀ b ∈ p.1, b < 256)
    (r2 : Row h.length h a2 (n2 * 2) (flat eP ns)) (hn2 : n2 ≤ 1048576) (hns : ∀ p ∈ ns, p.2.length ≤ 1048576) (htt : tt.length ≤ 1048576) :
    SCall pg n_spec_InstanceValid [.agg [.slice a n c e, .slice a1 n1 c1 e1], .agg [.str ct, .str tt, .slice a2 n2 c2 e2]] h fun v h' => v = .bool (insOk cs ((ct, tt), ns)) ∧ Same h.length h h' := by
  have hl : cs.length = n := by have := r.1; rw [flat_length eP_len] at this; omega
  have hl2 : ns.length = n2 := by have := r2.1; rw [flat_length eP_len] at this; omega
  apply F_spec_InstanceValid.call
  simp only [letH_def]
  generalize hh0 : h ++ [AObj.cells t_impl_World [.slice a n c e, .slice a1 n1 c1 e1] false] = h0
  generalize hh1 : h0 ++ [AObj.cells t_impl_Instance [.str ct, .str tt, .slice a2 n2 c2 e2] false] = h1
  have s0 : Same h.length h h0 := by rw [← hh0]; exact same_last
  have s01 : Same h0.length h0 h1 := by rw [← hh1]; exact same_last
  have s1 : Same h.length h h1 := s0.trans (s01.mono s0.le)
  have hl0 : h0.length = h.length + 1 := by rw [← hh0]; simp
  have hl1 : h1.length = h.length + 2 := by rw [← hh1]; simp [hl0]
  have w1 : h1[h.length]? = some (.cells t_impl_World [.slice a n c e, .slice a1 n1 c1 e1] false) := by rw [← hh1, app_lt (by omega), ← hh0]; simp
  have i1 : h1[h0.length]? = some (.cells t_impl_Instance [.str ct, .str tt, .slice a2 n2 c2 e2] false) := by rw [← hh1]; simp
  simp only [Nat.add_zero, hCell_of w1, List.getElem?_cons_zero, xSl_some]
  refine (l3Classes_ok (r.same' s1) hc hn hs hb256).mono ?_
  rintro v h2 ⟨rfl, s2⟩
  have S2 : Same h.length h h2 := s1.trans (s2.mono (by omega))
  have w2 : h2[h.length]? = some (.cells t_impl_World [.slice a n c e, .slice a1 n1 c1 e1] false) := by rw [s2.eq _ (by omega)]; exact w1
  have i2 : h2[h0.length]? = some (.cells t_impl_Instance [.str ct, .str tt, .slice a2 n2 c2 e2] false) := by rw [s2.eq _ (by omega)]; exact i1
  simp only [xBool_some]
  refine bcase_not (fun hb => ⟨by unfold insOk; rw [hb]; rfl, S2⟩) (fun b1 => ?_)
  rw [hRow_of w2 (by simp)]
  simp only [List.drop_zero, List.take_succ_cons, List.take_zero, xRow_some, xCons_cons, xNil_nil, Nat.zero_add, hCell_of i2, List.getElem?_cons_succ, List.getElem?_cons_zero, xSl_some, xStr_some]
  refine (l3Class_ok (r.same' S2) (by omega)).mono ?_
  rintro v h3 ⟨rfl, s3⟩
  have hle2 := s2.le
  have S3 : Same h.length h h3 := S2.trans (s3.mono S2.le)
  have i3 : h3[h0.length]? = some (.cells t_impl_Instance [.str ct, .str tt, .slice a2 n2 c2 e2] false) := by rw [s3.eq _ (by omega)]; exact i2
  have w3 : h3[h.length]? = some (.cells t_impl_World [.slice a n c e, .slice a1 n1 c1 e1] false) := by rw [s3.eq _ (by omega)]; exact w2
  simp only [xInt_some, clsIx_neg]
  refine bcase_not (fun hb => ⟨by unfold insOk; rw [b1, hb]; rfl, S3⟩) (fun b2 => ?_)
  simp only [hCell_of i3, List.getElem?_cons_succ, List.getElem?_cons_zero, xStr_some]
  refine (sTypeValid_ok tt (by omega) h3).mono ?_
  rintro v h4 ⟨rfl, s4⟩
  have hle3 := s3.le
  have S4 : Same h.length h h4 := S3.trans (s4.mono S3.le)
  have i4 : h4[h0.length]? = some (.cells t_impl_Instance [.str ct, .str tt, .slice a2 n2 c2 e2] false) := by rw [s4.eq _ (by omega)]; exact i3
  have w4 : h4[h.length]? = some (.cells t_impl_World [.slice a n c e, .slice a1 n1 c1 e1] false) := by rw [s4.eq _ (by omega)]; exact w3
  simp only [xBool_some]
  refine bcase_not (fun hb => ⟨by unfold insOk; rw [b1, b2, hb]; rfl, S4⟩) (fun b3 => ?_)
  simp only [hCell_of i4, List.getElem?_cons_succ, List.getElem?_cons_zero, xStr_some]
  refine bcase_dec (fun hb => ⟨by unfold insOk; rw [b1, b2, b3]; simp [show ¬ tt.length ≤ 20 by omega], S4⟩) (fun b4 => ?_)
  have hvh := var_hd b3
  have hne := tyOk_ne b3
  have htl : 0 < tt.length := by cases tt with | nil => exact absurd rfl hne | cons => simp
  refine ⟨⟨by omega, by omega⟩, ?_⟩
  have hgd : tt.getD (Int.toNat 0) 0 = tt.headD 0 := by cases tt <;> rfl
  rw [hgd]
  refine (l1Variable_ok _).mono ?_
  rintro v h5 ⟨rfl, rfl⟩
  simp only [xBool_some, ← hvh]
  refine bcase_intro (fun hb => ⟨by unfold insOk; rw [hb]; simp, S4⟩) (fun b5 => ?_)
  simp only [hCell_of i4, List.getElem?_cons_succ, List.getElem?_cons_zero, xSl_some]
  refine bcase_dec (fun hb => ⟨by unfold insOk; simp [show ¬ ns.length ≤ 3 by omega], S4⟩) (fun b6 => ?_)
  rw [insOk_of b1 b2 b3 (by omega) b5 (by omega)]
  apply F_spec_InstanceValid.J3i
  simp only [Nat.zero_add, hCell_of i4, List.getElem?_cons_succ, List.getElem?_cons_zero, xSl_some]
  have hle4 := s4.le
  refine F_spec_InstanceValid.L4ind _ _ _ _ _ _ _ _ _ _ (J := fun (g : Nat) x50 h' => x50 = (g : Int) ∧ g ≤ n2 ∧ Same h5.length h5 h' ∧ (ns.take g).all (needIn cs tt) = true) (fun g => n2 - g) ?_ 0 _ _ ⟨rfl, by omega, Same.refl _ _, rfl⟩
  rintro g x50 h' ⟨rfl, hg, hS, hk⟩ R hR
  have SS : Same h.length h h' := S4.trans (hS.mono S4.le)
  unfold F_spec_InstanceValid.L4t
  refine bcase_dec (fun hlt => ?_) (fun hge => ?_)
  · obtain ⟨i, o, hgl, rfl, hil, hr, _⟩ := (r2.same SS).pr (k := g) (by omega)
    simp only [xSome_some, Int.toNat_natCast, hr, xRow_some, xCons_cons, xNil_nil, xStr_some, letH_def]
    rw [store2]
    have hlh := hS.le
    generalize hq : h' ++ [AObj.cells t_impl_Need [.str ns[g].1, .str ns[g].2] false] = hq'
    have sq : Same h'.length h' hq' := by rw [← hq]; exact same_last
    have hql : hq'.length = h'.length + 1 := by rw [← hq]; simp
    have nq : hq'[h'.length]? = some (.cells t_impl_Need [.str ns[g].1, .str ns[g].2] false) := by rw [← hq]; simp
    have wq : hq'[h.length]? = some (.cells t_impl_World [.slice a n c e, .slice a1 n1 c1 e1] false) := by rw [sq.eq _ (by omega), hS.eq _ (by omega)]; exact w4
    have iq : hq'[h0.length]? = some (.cells t_impl_Instance [.str ct, .str tt, .slice (some (i, o)) n2 c2 e2] false) := by rw [sq.eq _ (by omega), hS.eq _ (by omega)]; exact i4
    have row : ∀ {hx : AHeap}, hx[h.length]? = some (.cells t_impl_World [.slice a n c e, .slice a1 n1 c1 e1] false) → hRow hx (.ptr (some (h.length, 0))) 2 = some [.slice a n c e, .slice a1 n1 c1 e1] := fun w => by rw [hRow_of w (by simp)]; rfl
    simp only [xHeap_some, Nat.add_zero, Nat.zero_add, row wq, hCell_of nq, List.getElem?_cons_succ, List.getElem?_cons_zero, xRow_some, xCons_cons, xNil_nil, xSl_some, xStr_some, true_and]
    have Sq : Same h.length h hq' := SS.trans (sq.mono SS.le)
    refine ⟨by omega, (l3Class_ok (r.same' Sq) (by omega)).mono ?_⟩
    rintro v k3 ⟨rfl, t3⟩
    have T3 := Sq.trans (t3.mono Sq.le)
    have n3 : k3[h'.length]? = some (.cells t_impl_Need [.str ns[g].1, .str ns[g].2] false) := by rw [t3.eq _ (by omega)]; exact nq
    have w3' : k3[h.length]? = some (.cells t_impl_World [.slice a n c e, .slice a1 n1 c1 e1] false) := by rw [t3.eq _ (by omega)]; exact wq
    have i3' : k3[h0.length]? = some (.cells t_impl_Instance [.str ct, .str tt, .slice (some (i, o)) n2 c2 e2] false) := by rw [t3.eq _ (by omega)]; exact iq
    have ht3 := t3.le
    simp only [xInt_some, clsIx_neg, row w3', hCell_of n3, List.getElem?_cons_succ, List.getElem?_cons_zero, xStr_some, true_and]
    have fail : ∀ hx, Same h.length h hx → needIn cs tt ns[g] = false → (AVal.bool false = AVal.bool (ns.all (needIn cs tt)) ∧ Same h.length h hx) := fun hx hs hf => ⟨by rw [not_all hgl hf], hs⟩
    refine bcase_not (fun hb => fail _ T3 (by unfold needIn; rw [hb]; rfl)) (fun m1 => ?_)
    have hnl := hns ns[g] (List.getElem_mem hgl)
    refine (sTypeValid_ok _ (by omega) k3).mono ?_
    rintro v k4 ⟨rfl, t4⟩
    have T4 := T3.trans (t4.mono T3.le)
    have ht4 := t4.le
    have n4 : k4[h'.length]? = some (.cells t_impl_Need [.str ns[g].1, .str ns[g].2] false) := by rw [t4.eq _ (by omega)]; exact n3
    have w4' : k4[h.length]? = some (.cells t_impl_World [.slice a n c e, .slice a1 n1 c1 e1] false) := by rw [t4.eq _ (by omega)]; exact w3'
    have i4' : k4[h0.length]? = some (.cells t_impl_Instance [.str ct, .str tt, .slice (some (i, o)) n2 c2 e2] false) := by rw [t4.eq _ (by omega)]; exact i3'
    simp only [xBool_some, row w4', hCell_of n4, hCell_of i4', List.getElem?_cons_succ, List.getElem?_cons_zero, xStr_some, true_and]
    refine bcase_not (fun hb => fail _ T4 (by unfold needIn; rw [m1, hb]; rfl)) (fun m2 => ?_)
    refine bcase_dec (fun hb => fail _ T4 (by unfold needIn; simp [show ¬ ns[g].2.length ≤ 20 by omega])) (fun m3 => ?_)
    refine (sVarsOf_ok _ hnl).mono ?_
    rintro v k5 ⟨rfl, t5⟩
    have T5 := T4.trans (t5.mono T4.le)
    have ht5 := t5.le
    have n5 : k5[h'.length]? = some (.cells t_impl_Need [.str ns[g].1, .str ns[g].2] false) := by rw [t5.eq _ (by omega)]; exact n4
    have w5' : k5[h.length]? = some (.cells t_impl_World [.slice a n c e, .slice a1 n1 c1 e1] false) := by rw [t5.eq _ (by omega)]; exact w4'
    have i5' : k5[h0.length]? = some (.cells t_impl_Instance [.str ct, .str tt, .slice (some (i, o)) n2 c2 e2] false) := by rw [t5.eq _ (by omega)]; exact i4'
    simp only [row w5', hCell_of n5, hCell_of i5', List.getElem?_cons_succ, List.getElem?_cons_zero, xStr_some, true_and]
    refine (sVarsOf_ok _ htt).mono ?_
    rintro v k6 ⟨rfl, t6⟩
    have T6 := T5.trans (t6.mono T5.le)
    have ht6 := t6.le
    have n6 : k6[h'.length]? = some (.cells t_impl_Need [.str ns[g].1, .str ns[g].2] false) := by rw [t6.eq _ (by omega)]; exact n5
    have w6' : k6[h.length]? = some (.cells t_impl_World [.slice a n c e, .slice a1 n1 c1 e1] false) := by rw [t6.eq _ (by omega)]; exact w5'
    have i6' : k6[h0.length]? = some (.cells t_impl_Instance [.str ct, .str tt, .slice (some (i, o)) n2 c2 e2] false) := by rw [t6.eq _ (by omega)]; exact i5'
    simp only [row w6', hCell_of n6, hCell_of i6', List.getElem?_cons_succ, List.getElem?_cons_zero, xStr_some, true_and]
    rw [if_pos m2, if_pos b3]
    have hvb : ∀ s, (varsL s).length ≤ 6 := fun s => List.length_filter_le _ _
    have hv1 := hvb ns[g].2
    have hv2 := hvb tt
    refine (within_ok _ _ (by omega) (by omega)).mono ?_
    rintro v k7 ⟨rfl, rfl⟩
    have hni : needIn cs tt ns[g] = (varsL ns[g].2).all fun v => decide (v ∈ tt) := by unfold needIn; rw [m1, m2]; simp [show ns[g].2.length ≤ 20 by omega]
    simp only [xBool_some, row w6', hCell_of n6, hCell_of i6', List.getElem?_cons_succ, List.getElem?_cons_zero, xStr_some, true_and, vars_within, ← hni]
    refine bcase_not (fun hb => fail _ T6 hb) (fun m4 => ?_)
    apply F_spec_InstanceValid.J8i
    rw [wrap_nat (by omega)]
    refine hR (g + 1) _ _ (by omega) ⟨rfl, by omega, ?_, take_succ_all hgl hk m4⟩
    exact hS.trans ((sq.mono hS.le).trans ((t3.mono (by omega)).trans ((t4.mono (by omega)).trans ((t5.mono (by omega)).trans (t6.mono (by omega))))))
  · apply F_spec_InstanceValid.A4x0i
    have : g = n2 := by omega
    subst this
    rw [List.take_of_length_le (by omega)] at hk
    exact ⟨by rw [hk], SS⟩
end Go.Sim

set_option linter.unusedVariables false
set_option linter.unusedSimpArgs false
set_option maxRecDepth 20000
namespace Go.Sim
open Go Go.RowKit

/-- What is known of a world's sizes. -/
structure WB (w : Wd) : Prop where
  lc : w.cs.length ≤ 1048576
  li : w.is.length ≤ 1048576
  cs : ∀ p ∈ w.cs, p.1.length ≤ 1048576 ∧ p.2.length ≤ 1048576 ∧ ∀ b ∈ p.1, b < 256
  is : ∀ i ∈ w.is, i.1.1.length ≤ 1048576 ∧ i.1.2.length ≤ 1048576 ∧ i.2.length ≤ 1048576 ∧ ∀ p ∈ i.2, p.1.length ≤ 1048576 ∧ p.2.length ≤ 1048576
/-- A world's own variable. -/
def wObj (a0 : Pt) (n0 c0 : Nat) (e0 : Bool) (a1 : Pt) (n1 c1 : Nat) (e1 : Bool) : AObj := .cells t_impl_World [.slice a0 n0 c0 e0, .slice a1 n1 c1 e1] false
theorem wRow {h : AHeap} {j : Nat} {a0 a1 : Pt} {n0 c0 n1 c1 : Nat} {e0 e1 : Bool} (hj : h[j]? = some (wObj a0 n0 c0 e0 a1 n1 c1 e1)) : hRow h (.ptr (some (j, 0))) 2 = some [.slice a0 n0 c0 e0, .slice a1 n1 c1 e1] := by
  rw [hRow_of (show h[j]? = some (.cells t_impl_World [.slice a0 n0 c0 e0, .slice a1 n1 c1 e1] false) from hj) (by simp)]; rfl
theorem wCell {h : AHeap} {j o : Nat} {a0 a1 : Pt} {n0 c0 n1 c1 : Nat} {e0 e1 : Bool} (hj : h[j]? = some (wObj a0 n0 c0 e0 a1 n1 c1 e1)) : hCell h (.ptr (some (j, o))) = ([.slice a0 n0 c0 e0, .slice a1 n1 c1 e1] : List AVal)[o]? := hCell_of (show h[j]? = some (.cells t_impl_World [.slice a0 n0 c0 e0, .slice a1 n1 c1 e1] false) from hj)
theorem Same.get {b : Nat} {h h' : AHeap} {j : Nat} {x : AObj} (s : Same b h h') (hj : h[j]? = some x) (hb : j < b) : h'[j]? = some x := by rw [s.eq j hb]; exact hj
theorem Same.cat {h h1 h2 : AHeap} (a : Same h.length h h1) (b : Same h1.length h1 h2) : Same h.length h h2 := a.trans (b.mono a.le)

theorem rowL2 {h : AHeap} {t : TypeId} {x y : AVal} : hRow (h ++ [.cells t [x, y] false]) (.ptr (some (h.length, 0))) 2 = some [x, y] := hRow_last rfl
theorem rowL3 {h : AHeap} {t : TypeId} {x y z : AVal} : hRow (h ++ [.cells t [x, y, z] false]) (.ptr (some (h.length, 0))) 3 = some [x, y, z] := hRow_last rfl
theorem worldLit_ok {h : AHeap} {a0 a1 a2 : Pt} {n0 c0 n1 c1 n2 c2 j : Nat} {e0 e1 e2 : Bool} {w : Wd} {ns : List Nd} {ct tt : List Nat} (r : WRep h a0 n0 c0 a1 n1 c1 w) (b : WB w) (hj : h[j]? = some (wObj a0 n0 c0 e0 a1 n1 c1 e1))
    (r2 : Row h.length h a2 (n2 * 2) (flat eP ns)) (hn2 : n2 ≤ 1048576) (hns : ∀ p ∈ ns, p.2.length ≤ 1048576) (htt : tt.length ≤ 1048576) :
    SCall pg n_impl_WorldValid_lit1 [.agg [.str ct, .str tt, .slice a2 n2 c2 e2], .ptr (some (j, 0))] h fun v h' => v = .bool (!insOk w.cs ((ct, tt), ns)) ∧ Same h.length h h' := by
  apply F_impl_WorldValid_lit1.call
  simp only [letH_def]
  have s1 : Same h.length h (h ++ [.cells t_impl_Instance [.str ct, .str tt, .slice a2 n2 c2 e2] false]) := same_last
  rw [wRow (s1.get hj (Own.lt hj)), rowL3]
  simp only [xRow_some, xCons_cons, xNil_nil, xSl_some, xStr_some]
  have hlc := b.lc
  have hl0 := r.len0
  refine (instanceValid_ok (r.cls.same' s1) r.le0 (by omega) (fun p hp => (b.cs p hp).2.1) (r2.same' s1) hn2 hns htt).mono ?_
  rintro v h2 ⟨rfl, s2⟩
  simp only [xBool_some]
  exact ⟨by trivial, s1.cat s2⟩
theorem index_world {h : AHeap} {a0 a1 : Pt} {n0 c0 n1 c1 j : Nat} {e0 e1 : Bool} {w : Wd} (r : WRep h a0 n0 c0 a1 n1 c1 w) (b : WB w) (hj : h[j]? = some (wObj a0 n0 c0 e0 a1 n1 c1 e1)) :
    SCall pg n_slices_IndexFunc_L_impl_Instance_impl_Instance [.slice a1 n1 c1 e1, .fn n_impl_WorldValid_lit1 [.ptr (some (j, 0))]] h fun v h' => (∃ z : Int, v = .int .i64 z ∧ decide (z ≥ 0) = !w.is.all (insOk w.cs)) ∧ Same h.length h h' := by
  have hl := r.len1
  have hli := b.li
  apply F_slices_IndexFunc_L_impl_Instance_impl_Instance__impl_WorldValid_lit1.call
  refine F_slices_IndexFunc_L_impl_Instance_impl_Instance__impl_WorldValid_lit1.L2ind _ _ _ _ _ _ _ (J := fun (g : Nat) x8 h' => x8 = (g : Int) ∧ g ≤ n1 ∧ Same h.length h h' ∧ (w.is.take g).all (insOk w.cs) = true) (fun g => n1 - g) ?_ 0 _ _ ⟨rfl, by omega, Same.refl _ _, rfl⟩
  rintro g x8 h' ⟨rfl, hg, hS, hk⟩ R hR
  unfold F_slices_IndexFunc_L_impl_Instance_impl_Instance__impl_WorldValid_lit1.L2t
  refine bcase_dec (fun hlt => ?_) (fun hge => ?_)
  · obtain ⟨i, o, hgl, a2, n2, c2, e2, rfl, _, hr, _, _, _, hrow, hn⟩ := (r.same hS).inst (k := g) (by omega)
    simp only [xSome_some, Int.toNat_natCast, hr, xRow_some, xCons_cons, xNil_nil, xStr_some, xSl_some]
    have hb := b.is _ (List.getElem_mem hgl)
    refine ⟨by omega, (worldLit_ok (r.same hS) b (hS.get hj (Own.lt hj)) hrow (by omega) (fun p hp => (hb.2.2.2 p hp).2) hb.2.1).mono ?_⟩
    rintro v h2 ⟨rfl, s2⟩
    simp only [xBool_some]
    have hS2 := hS.cat s2
    refine bcase_not (fun he => ?_) (fun he => ?_)
    · exact ⟨⟨_, rfl, by rw [not_all hgl he]; simp⟩, hS2⟩
    · rw [wrap_nat (by omega)]
      exact hR (g + 1) _ _ (by omega) ⟨rfl, by omega, hS2, take_succ_all hgl hk he⟩
  · apply F_slices_IndexFunc_L_impl_Instance_impl_Instance__impl_WorldValid_lit1.A2x0i
    have : g = n1 := by omega
    subst this
    rw [List.take_of_length_le (by omega)] at hk
    exact ⟨⟨_, rfl, by rw [hk]; rfl⟩, hS⟩
theorem worldValid_ok {h : AHeap} {a0 a1 : Pt} {n0 c0 n1 c1 : Nat} {e0 e1 : Bool} {w : Wd} (r : WRep h a0 n0 c0 a1 n1 c1 w) (b : WB w) :
    SCall pg n_impl_WorldValid [.agg [.slice a0 n0 c0 e0, .slice a1 n1 c1 e1]] h fun v h' => v = .bool (worldOk w) ∧ Same h.length h h' := by
  have hl0 := r.len0
  have hl1 := r.len1
  have hlc := b.lc
  apply F_impl_WorldValid.call
  simp only [letH_def]
  generalize hh0 : h ++ [AObj.cells t_impl_World [.slice a0 n0 c0 e0, .slice a1 n1 c1 e1] false] = h0
  have s0 : Same h.length h h0 := by rw [← hh0]; exact same_last
  have w0 : h0[h.length]? = some (wObj a0 n0 c0 e0 a1 n1 c1 e1) := by rw [← hh0]; simp [wObj]
  rw [wRow w0]
  simp only [xRow_some, xCons_cons, xNil_nil, xSl_some]
  refine (classesOk_ok (r.cls.same' s0) r.le0 (by omega) (fun p hp => (b.cs p hp).2.1)).mono ?_
  rintro v h2 ⟨rfl, s2⟩
  have S2 := s0.cat s2
  have w2 := s2.get w0 (Own.lt w0)
  simp only [xBool_some]
  refine bcase_intro (fun b1 => ?_) (fun b1 => ⟨by unfold worldOk; rw [b1]; rfl, S2⟩)
  simp only [wCell w2, Nat.zero_add, List.getElem?_cons_succ, List.getElem?_cons_zero, xSl_some]
  refine bcase_dec (fun b2 => ?_) (fun b2 => ⟨by unfold worldOk; rw [b1]; simp [show ¬ w.is.length ≤ 10 by omega], S2⟩)
  apply F_slices_ContainsFunc_L_impl_Instance_impl_Instance__impl_WorldValid_lit1.call
  refine (index_world (r.same S2) b w2).mono ?_
  rintro v h3 ⟨⟨z, rfl, hz⟩, s3⟩
  simp only [xInt_some, xBool_some]
  refine ⟨?_, S2.cat s3⟩
  rw [hz, Bool.not_not]
  unfold worldOk
  rw [b1]; simp [show w.is.length ≤ 10 by omega]
theorem sWorldValid_ok {h : AHeap} {a0 a1 : Pt} {n0 c0 n1 c1 : Nat} {e0 e1 : Bool} {w : Wd} (r : WRep h a0 n0 c0 a1 n1 c1 w) (b : WB w) :
    SCall pg n_spec_WorldValid [.agg [.slice a0 n0 c0 e0, .slice a1 n1 c1 e1]] h fun v h' => v = .bool (worldOk w) ∧ Same h.length h h' := by
  have hl0 := r.len0
  have hl1 := r.len1
  have hlc := b.lc
  have hli := b.li
  apply F_spec_WorldValid.call
  simp only [letH_def]
  generalize hh0 : h ++ [AObj.cells t_impl_World [.slice a0 n0 c0 e0, .slice a1 n1 c1 e1] false] = h0
  have s0 : Same h.length h h0 := by rw [← hh0]; exact same_last
  have w0 : h0[h.length]? = some (wObj a0 n0 c0 e0 a1 n1 c1 e1) := by rw [← hh0]; simp [wObj]
  simp only [wCell w0, Nat.zero_add, List.getElem?_cons_succ, List.getElem?_cons_zero, xSl_some]
  refine F_spec_WorldValid.L2ind _ _ _ _ _ _ _ _ (J := fun (g : Nat) x8 h' => x8 = (g : Int) ∧ g ≤ n1 ∧ Same h0.length h0 h' ∧ (w.is.take g).all (insOk w.cs) = true) (fun g => n1 - g) ?_ 0 _ _ ⟨rfl, by omega, Same.refl _ _, rfl⟩
  rintro g x8 h' ⟨rfl, hg, hS, hk⟩ R hR
  have SS := s0.cat hS
  have w1 := hS.get w0 (Own.lt w0)
  unfold F_spec_WorldValid.L2t
  refine bcase_dec (fun hlt => ?_) (fun hge => ?_)
  · obtain ⟨i, o, hgl, a2, n2, c2, e2, rfl, _, hr, _, _, _, hrow, hn⟩ := (r.same SS).inst (k := g) (by omega)
    simp only [xSome_some, Int.toNat_natCast, hr, xRow_some, xCons_cons, xNil_nil, xStr_some, xSl_some, letH_def]
    rw [store3]
    generalize hq : h' ++ [AObj.cells t_impl_Instance [.str w.is[g].1.1, .str w.is[g].1.2, .slice a2 n2 c2 e2] false] = hq'
    have sq : Same h'.length h' hq' := by rw [← hq]; exact same_last
    simp only [xHeap_some]
    rw [wRow (sq.get w1 (Own.lt w1)), ← hq, rowL3, hq]
    simp only [xRow_some, xCons_cons, xNil_nil, xStr_some, xSl_some]
    have hb := b.is _ (List.getElem_mem hgl)
    have Sq := SS.cat sq
    refine ⟨by omega, (sInstanceValid_ok (r.cls.same' Sq) r.le0 (by omega) (fun p hp => (b.cs p hp).2.1) (fun p hp => (b.cs p hp).2.2) (hrow.same' sq) (by omega) (fun p hp => (hb.2.2.2 p hp).2) hb.2.1).mono ?_⟩
    rintro v h2 ⟨rfl, s2⟩
    simp only [xBool_some]
    refine bcase_not (fun he => ?_) (fun he => ?_)
    · exact ⟨by unfold worldOk; rw [not_all hgl he]; simp, Sq.cat s2⟩
    · rw [wrap_nat (by omega)]
      exact hR (g + 1) _ _ (by omega) ⟨rfl, by omega, (hS.cat sq).cat s2, take_succ_all hgl hk he⟩
  · apply F_spec_WorldValid.A2x0i
    have : g = n1 := by omega
    subst this
    rw [List.take_of_length_le (by omega)] at hk
    simp only [wCell w1, Nat.zero_add, List.getElem?_cons_zero, xSl_some]
    refine (l3Classes_ok (r.cls.same' SS) r.le0 (by omega) (fun p hp => (b.cs p hp).2.1) (fun p hp => (b.cs p hp).2.2)).mono ?_
    rintro v h2 ⟨rfl, s2⟩
    simp only [xBool_some]
    have w2 := s2.get w1 (Own.lt w1)
    refine bcase_intro (fun b1 => ?_) (fun b1 => ⟨by unfold worldOk; rw [b1]; rfl, SS.cat s2⟩)
    simp only [wCell w2, Nat.zero_add, List.getElem?_cons_succ, List.getElem?_cons_zero, xSl_some]
    refine ⟨?_, SS.cat s2⟩
    unfold worldOk
    rw [b1, hk]; congr 1; rw [Bool.eq_iff_iff]; simp; omega
theorem needOk_ok {h : AHeap} {a0 a1 : Pt} {n0 c0 n1 c1 : Nat} {e0 e1 : Bool} {w : Wd} {ct tt : List Nat} (r : WRep h a0 n0 c0 a1 n1 c1 w) (b : WB w) :
    SCall pg n_impl_needOk [.agg [.slice a0 n0 c0 e0, .slice a1 n1 c1 e1], .agg [.str ct, .str tt]] h fun v h' => v = .bool (needOkW w (ct, tt)) ∧ Same h.length h h' := by
  have hl0 := r.len0
  have hlc := b.lc
  apply F_impl_needOk.call
  simp only [letH_def]
  generalize hh0 : h ++ [AObj.cells t_impl_World [.slice a0 n0 c0 e0, .slice a1 n1 c1 e1] false] = h0
  generalize hh1 : h0 ++ [AObj.cells t_impl_Need [.str ct, .str tt] false] = h1
  have s0 : Same h.length h h0 := by rw [← hh0]; exact same_last
  have s1 : Same h0.length h0 h1 := by rw [← hh1]; exact same_last
  have w0 : h0[h.length]? = some (wObj a0 n0 c0 e0 a1 n1 c1 e1) := by rw [← hh0]; simp [wObj]
  have w1 := s1.get w0 (Own.lt w0)
  have i1 : h1[h0.length]? = some (.cells t_impl_Need [.str ct, .str tt] false) := by rw [← hh1]; simp
  simp only [wCell w1, hCell_of i1, Nat.zero_add, List.getElem?_cons_zero, List.getElem?_cons_succ, xSl_some, xStr_some]
  refine (known_ok (r.cls.same' (s0.cat s1)) (by omega)).mono ?_
  rintro v h2 ⟨rfl, s2⟩
  simp only [xBool_some]
  have i2 := s2.get i1 (Own.lt i1)
  refine bcase_intro (fun b1 => ?_) (fun b1 => ⟨by unfold needOkW; rw [b1]; rfl, (s0.cat s1).cat s2⟩)
  simp only [hCell_of i2, Nat.zero_add, List.getElem?_cons_zero, List.getElem?_cons_succ, xSl_some, xStr_some]
  refine (typeValid_ok tt h2).mono ?_
  rintro v h3 ⟨rfl, s3⟩
  simp only [xBool_some]
  exact ⟨by unfold needOkW; rw [b1]; rfl, ((s0.cat s1).cat s2).cat s3⟩
theorem clsIx_pos (cs : List Nd) (c : List Nat) : decide (clsIx cs c ≥ 0) = knownC cs c := by
  unfold clsIx; cases h : knownC cs c <;> simp
theorem l4Need_ok {h : AHeap} {a0 a1 : Pt} {n0 c0 n1 c1 : Nat} {e0 e1 : Bool} {w : Wd} {ct tt : List Nat} (r : WRep h a0 n0 c0 a1 n1 c1 w) (b : WB w) (ht : tt.length ≤ 1048576) :
    SCall pg n_spec_l4Need [.agg [.slice a0 n0 c0 e0, .slice a1 n1 c1 e1], .agg [.str ct, .str tt]] h fun v h' => v = .bool (needOkW w (ct, tt)) ∧ Same h.length h h' := by
  have hl0 := r.len0
  have hlc := b.lc
  apply F_spec_l4Need.call
  simp only [letH_def]
  generalize hh0 : h ++ [AObj.cells t_impl_World [.slice a0 n0 c0 e0, .slice a1 n1 c1 e1] false] = h0
  generalize hh1 : h0 ++ [AObj.cells t_impl_Need [.str ct, .str tt] false] = h1
  have s0 : Same h.length h h0 := by rw [← hh0]; exact same_last
  have s1 : Same h0.length h0 h1 := by rw [← hh1]; exact same_last
  have w0 : h0[h.length]? = some (wObj a0 n0 c0 e0 a1 n1 c1 e1) := by rw [← hh0]; simp [wObj]
  have w1 := s1.get w0 (Own.lt w0)
  have i1 : h1[h0.length]? = some (.cells t_impl_Need [.str ct, .str tt] false) := by rw [← hh1]; simp
  rw [wRow w1]
  simp only [xRow_some, xCons_cons, xNil_nil, hCell_of i1, Nat.zero_add, List.getElem?_cons_zero, List.getElem?_cons_succ, xSl_some, xStr_some]
  refine (l3Class_ok (r.cls.same' (s0.cat s1)) (by omega)).mono ?_
  rintro v h2 ⟨rfl, s2⟩
  simp only [xInt_some, clsIx_pos]
  have i2 := s2.get i1 (Own.lt i1)
  refine bcase_intro (fun b1 => ?_) (fun b1 => ⟨by unfold needOkW; rw [b1]; rfl, (s0.cat s1).cat s2⟩)
  simp only [hCell_of i2, Nat.zero_add, List.getElem?_cons_zero, List.getElem?_cons_succ, xSl_some, xStr_some]
  refine (sTypeValid_ok tt (by omega) h2).mono ?_
  rintro v h3 ⟨rfl, s3⟩
  simp only [xBool_some]
  exact ⟨by unfold needOkW; rw [b1]; rfl, ((s0.cat s1).cat s2).cat s3⟩
theorem needValid_ok {h : AHeap} {a0 a1 : Pt} {n0 c0 n1 c1 : Nat} {e0 e1 : Bool} {w : Wd} {ct tt : List Nat} (r : WRep h a0 n0 c0 a1 n1 c1 w) (b : WB w) (ht : tt.length ≤ 1048576) :
    SCall pg n_spec_NeedValid [.agg [.slice a0 n0 c0 e0, .slice a1 n1 c1 e1], .agg [.str ct, .str tt]] h fun v h' => v = .bool (worldOk w && needOkW w (ct, tt)) ∧ Same h.length h h' := by
  apply F_spec_NeedValid.call
  simp only [letH_def]
  generalize hh0 : h ++ [AObj.cells t_impl_World [.slice a0 n0 c0 e0, .slice a1 n1 c1 e1] false] = h0
  generalize hh1 : h0 ++ [AObj.cells t_impl_Need [.str ct, .str tt] false] = h1
  have s0 : Same h.length h h0 := by rw [← hh0]; exact same_last
  have s1 : Same h0.length h0 h1 := by rw [← hh1]; exact same_last
  have w0 : h0[h.length]? = some (wObj a0 n0 c0 e0 a1 n1 c1 e1) := by rw [← hh0]; simp [wObj]
  have w1 := s1.get w0 (Own.lt w0)
  have i1 : h1[h0.length]? = some (.cells t_impl_Need [.str ct, .str tt] false) := by rw [← hh1]; simp
  rw [wRow w1]
  simp only [xRow_some, xCons_cons, xNil_nil, xSl_some]
  refine (sWorldValid_ok (r.same (s0.cat s1)) b).mono ?_
  rintro v h2 ⟨rfl, s2⟩
  simp only [xBool_some]
  have i2 := s2.get i1 (Own.lt i1)
  have w2 := s2.get w1 (Own.lt w1)
  refine bcase_intro (fun b1 => ?_) (fun b1 => ⟨by rw [b1]; rfl, (s0.cat s1).cat s2⟩)
  rw [wRow w2, hRow_of i2 (by simp)]
  simp only [List.drop_zero, List.take_succ_cons, List.take_zero, xRow_some, xCons_cons, xNil_nil, xSl_some, xStr_some]
  refine (l4Need_ok (r.same ((s0.cat s1).cat s2)) b ht).mono ?_
  rintro v h3 ⟨rfl, s3⟩
  simp only [xBool_some]
  exact ⟨by rw [b1]; rfl, ((s0.cat s1).cat s2).cat s3⟩
end Go.Sim

set_option linter.unusedVariables false
set_option linter.unusedSimpArgs false
set_option maxRecDepth 20000
namespace Go.Sim
open Go Go.RowKit

end Go.Sim
