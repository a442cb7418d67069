/- A part of the proof of a statement of this seat: see the text that holds the theorem. No condition. -/
import Derived.Test.YtlljbdepamknoaaGreatDoorPTCWLaw
import Derived.Test.YtlljbdepamknoaaGreatDoorCWGiv
import Derived.Test.YtlljbdepamknoaaGreatDoorCWRep
import Derived.Test.YtlljbdepamknoaaGreatDoorNm
import Derived.Test.YtlljbdepamknoaaGreatDoorCTy
import Derived.Test.YtlljbdepamknoaaGreatDoorSimX
import Derived.Test.YtlljbdepamknoaaGreatDoorShelf
set_option linter.unusedVariables false
set_option linter.unusedSimpArgs false
set_option linter.all false
set_option linter.unusedVariables false
set_option linter.unusedSimpArgs false
set_option maxRecDepth 20000
namespace Go.Sim
open Go Go.RowKit
theorem szClass_ok {h : AHeap} {c t : List Nat} {x : Int} (hc : c.length ≤ 9223372036854775807) (ht : t.length ≤ 9223372036854775807) (hx : 0 ≤ x ∧ x ≤ 1048576) :
    SCall pg n_laws_szClass [.agg [.str c, .str t], .int .i64 x] h fun v h' => ∃ y, v = .int .i64 y ∧ Same h.length h h' ∧ (0 ≤ y → (c.length : Int) + t.length + y = x) := by
  apply F_laws_szClass.call
  simp only [letH_def]
  have s1 : Same h.length h (h ++ [.cells t_laws_Class [.str c, .str t] false]) := Same.app (Nat.le_refl _) _
  simp [hCell]
  rw [IntWalk.i64_in _ (by omega)]
  refine bcase_dec (fun hlt => s1) (fun hge => ?_)
  rw [IntWalk.i64_in _ (by omega)]
  exact bcase_dec (fun hlt => s1) (fun hge => ⟨s1, by omega⟩)
theorem eqClass_ok {h : AHeap} {c t c' t' : List Nat} :
    SCall pg n_laws_eqClass [.agg [.str c, .str t], .agg [.str c', .str t']] h fun v h' => v = .bool (decide (c = c') && decide (t = t')) ∧ Same h.length h h' := by
  apply F_laws_eqClass.call
  simp only [letH_def]
  simp [hCell]
  by_cases e1 : c = c' <;> by_cases e2 : t = t' <;> simp [e1, e2] <;> exact Same.app (Nat.le_refl _) _
theorem toClass_ok {h : AHeap} {c t : List Nat} :
    SCall pg n_laws_toClass [.agg [.str c, .str t]] h fun v h' => v = .agg [.str c, .str t] ∧ Same h.length h h' := by
  apply F_laws_toClass.call
  simp only [letH_def]
  simp [hCell, hStore, hRow, putRow, List.getElem?_append, List.getElem?_set]
  exact Same.app (Nat.le_refl _) _

theorem szClasses_ok {h : AHeap} {a : Pt} {n c : Nat} {e : Bool} {l : List (List Nat × List Nat)} (r : Row h.length h a (n * 2) (prs l)) (hs : ∀ p ∈ l, p.1.length ≤ 9223372036854775807 ∧ p.2.length ≤ 9223372036854775807) (hn : n ≤ 9223372036854775807) {left : Int} (hl : 0 ≤ left ∧ left ≤ 1048576) :
    SCall pg n_laws_szClassS [.slice a n c e, .int .i64 left] h fun v h' => ∃ x, v = .int .i64 x ∧ Same h.length h h' ∧ (0 ≤ x → (n : Int) + tot2 l + x = left) := by
  have hll : l.length = n := by have := r.1; rw [prs_length] at this; omega
  apply F_laws_szClassS.call
  rw [IntWalk.i64_in _ (by omega)]
  refine bcase_dec (fun hlt => ?_) (fun hge => ?_)
  · exact ⟨_, rfl, Same.refl _ _, by omega⟩
  · refine F_laws_szClassS.L5ind _ _ _ _ _ (J := fun (g : Nat) x1 x5 h' => x5 = (g : Int) ∧ Same h.length h h' ∧ g ≤ n ∧ 0 ≤ x1 ∧ x1 + n + tot2 (l.take g) = left) (fun g => n - g) ?_ 0 _ 0 h ⟨rfl, Same.refl _ _, by omega, by omega, by simp [tot2]⟩
    rintro g x1 x5 h' ⟨rfl, hS, hg, h0, ht⟩ R hR
    unfold F_laws_szClassS.L5t
    refine bcase_dec (fun hlt => ?_) (fun hge => ?_)
    · have hlt' : g < n := by omega
      obtain ⟨i, o, hgl, rfl, hi, hc⟩ := (r.same hS).pair hlt'
      have hsl := hs _ (List.getElem_mem hgl)
      simp only [xSome_some, Int.toNat_natCast, hc, xRow_some, xCons_cons, xNil_nil, xStr_some]
      refine ⟨by omega, (szClass_ok hsl.1 hsl.2 (by omega)).mono fun v h1 ⟨y, hv, hs1, hy⟩ => ?_⟩
      subst hv
      simp only [xInt_some]
      have hS1 := hS.trans (hs1.mono hS.le)
      refine bcase_dec (fun hneg => ⟨_, rfl, hS1, by omega⟩) (fun hneg => ?_)
      rw [wrap_succ hlt' (by omega)]
      have hyy := hy (by omega)
      refine hR (g + 1) _ _ _ (by omega) ⟨rfl, hS1, by omega, by omega, ?_⟩
      rw [tot2_take hgl]; omega
    · have : g = n := by omega
      subst this
      rw [List.take_of_length_le (by omega)] at ht
      exact F_laws_szClassS.A5x0i _ _ _ ⟨_, rfl, hS, by omega⟩
theorem toClasses_ok {h : AHeap} {a : Pt} {n c : Nat} {e : Bool} {l : List (List Nat × List Nat)} (r : Row h.length h a (n * 2) (prs l)) (hn : n ≤ 1048576) :
    SCall pg n_laws_toClassS [.slice a n c e] h fun v h' => ∃ a' c' e', v = .slice a' n c' e' ∧ Same h.length h h' ∧ FreshR t_impl_Class eP h.length h' a' n l ∧ n ≤ c' := by
  have hll : l.length = n := by have := r.1; rw [prs_length] at this; omega
  apply F_laws_toClassS.call
  refine ⟨rfl, rfl, by omega, ?_⟩
  simp only [letH_def, Int.toNat_natCast, reps_two]
  refine F_laws_toClassS.L3ind _ _ _ _ _ _ _ _ _ (J := fun (g : Nat) x4 h' => x4 = (g : Int) ∧ g ≤ n ∧ Same h.length h h' ∧ h'[h.length]? = some (.cells t_impl_Class (prs (l.take g ++ List.replicate (n - g) ([], []))) false)) (fun g => n - g) ?_ 0 0 _ ⟨rfl, by omega, Same.app (Nat.le_refl _) _, by simp⟩
  rintro g x4 h' ⟨rfl, hg, hs, hi⟩ R hR
  unfold F_laws_toClassS.L3t
  refine bcase_dec (fun hlt => ?_) (fun hge => ?_)
  · have hlt' : g < n := by omega
    obtain ⟨i, o, hgl, rfl, hi', hc⟩ := (r.same hs).pair hlt'
    simp only [xSome_some, Int.toNat_natCast, hc, xRow_some, xCons_cons, xNil_nil, xStr_some]
    refine ⟨by omega, toClass_ok.mono fun v h1 ⟨hv, hs1⟩ => ?_⟩
    subst hv
    have hi1 : h1[h.length]? = some (.cells t_impl_Class (prs (l.take g ++ List.replicate (n - g) ([], []))) false) := by rw [hs1.eq _ (Own.lt hi)]; exact hi
    simp only [xAgg_agg, xCons_cons, xNil_nil, xStr_some, Nat.zero_add]
    have hmin : min g l.length = g := Nat.min_eq_left (by omega)
    rw [store_two hi1 (by simp; omega)]
    simp only [xHeap_some]
    rw [wrap_succ hlt' (by omega)]
    have hset : (l.take g ++ List.replicate (n - g) ([], [])).take g ++ [(l[g].1, l[g].2)] ++ (l.take g ++ List.replicate (n - g) (([] : List Nat), ([] : List Nat))).drop (g + 1) = l.take (g + 1) ++ List.replicate (n - (g + 1)) ([], []) := by
      have hl1 : (l.take g).length = g := by rw [List.length_take, hmin]
      rw [List.take_left' hl1, List.take_succ_eq_append_getElem hgl, List.drop_append, hl1, List.drop_of_length_le (by omega), List.nil_append, List.drop_replicate]
      congr 2; omega
    rw [hset]
    exact ⟨⟨by omega, by omega⟩, hR (g + 1) _ _ (by omega) ⟨rfl, by omega, (hs.trans (hs1.mono hs.le)).trans (Same.set (Nat.le_refl _) _), getElem_set_self' hi1⟩⟩
  · have : g = n := by omega
    subst this
    rw [List.take_of_length_le (by omega), Nat.sub_self, List.replicate_zero, List.append_nil] at hi
    exact F_laws_toClassS.A3x0i _ _ _ _ _ _ ⟨_, _, _, rfl, hs, ⟨hll, .inr ⟨h.length, rfl, Nat.le_refl _, hi⟩⟩, by simp⟩
theorem eqClasses_ok {h : AHeap} {a0 a1 : Pt} {n0 n1 c0 c1 : Nat} {e0 e1 : Bool} {l0 l1 : List (List Nat × List Nat)} (r0 : Row h.length h a0 (n0 * 2) (prs l0)) (r1 : Row h.length h a1 (n1 * 2) (prs l1)) (hn : n0 ≤ 4611686018427387904) (heq : l0 = l1) :
    SCall pg n_laws_eqClassS [.slice a0 n0 c0 e0, .slice a1 n1 c1 e1] h fun v h' => v = .bool true ∧ Same h.length h h' := by
  subst heq
  have hl0 : l0.length = n0 := by have := r0.1; rw [prs_length] at this; omega
  have hl1 : l0.length = n1 := by have := r1.1; rw [prs_length] at this; omega
  have : n1 = n0 := by omega
  subst this
  apply F_laws_eqClassS.call
  simp only [beq_self_eq_true, Bool.not_true, bcase_false]
  refine F_laws_eqClassS.L4ind _ _ _ _ _ _ _ _ _ (J := fun (k : Nat) x5 h' => Same h.length h h' ∧ x5 = (k : Int) ∧ k ≤ n1) (fun k => n1 - k) ?_ 0 0 h ⟨Same.refl _ _, rfl, by omega⟩
  rintro k x5 h' ⟨hs, rfl, hk⟩ R hR
  unfold F_laws_eqClassS.L4t
  refine bcase_dec (fun hlt => ?_) (fun hge => F_laws_eqClassS.A4x0i _ _ ⟨rfl, hs⟩)
  have hlt' : k < n1 := by omega
  obtain ⟨i, o, hgl, rfl, _, hc0⟩ := (r0.same hs).pair hlt'
  obtain ⟨i', o', _, rfl, _, hc1⟩ := (r1.same hs).pair hlt'
  simp only [xSome_some, Int.toNat_natCast, hc0, hc1, xRow_some, xCons_cons, xNil_nil, xStr_some, true_and]
  refine ⟨⟨by omega, by omega⟩, ⟨by omega, by omega⟩, eqClass_ok.mono fun v h1 ⟨hv, hs1⟩ => ?_⟩
  subst hv
  simp only [xBool_some, decide_true, Bool.and_self, Bool.not_true, bcase_false]
  rw [wrap_succ hlt' (by omega)]
  exact hR (k + 1) _ _ (by omega) ⟨hs.trans (hs1.mono hs.le), rfl, by omega⟩

theorem toNeedsN_ok {h : AHeap} {a : Pt} {n c : Nat} {e : Bool} {l : List (List Nat × List Nat)} (r : Row h.length h a (n * 2) (prs l)) (hn : n ≤ 1048576) :
    SCall pg n_laws_toNeedS [.slice a n c e] h fun v h' => ∃ a' c' e', v = .slice a' n c' e' ∧ Same h.length h h' ∧ FreshR t_impl_Need eP h.length h' a' n l ∧ n ≤ c' ∧ a' ≠ none := by
  have hll : l.length = n := by have := r.1; rw [prs_length] at this; omega
  apply F_laws_toNeedS.call
  refine ⟨rfl, rfl, by omega, ?_⟩
  simp only [letH_def, Int.toNat_natCast, reps_two]
  refine F_laws_toNeedS.L3ind _ _ _ _ _ _ _ _ _ (J := fun (g : Nat) x4 h' => x4 = (g : Int) ∧ g ≤ n ∧ Same h.length h h' ∧ h'[h.length]? = some (.cells t_impl_Need (prs (l.take g ++ List.replicate (n - g) ([], []))) false)) (fun g => n - g) ?_ 0 0 _ ⟨rfl, by omega, Same.app (Nat.le_refl _) _, by simp⟩
  rintro g x4 h' ⟨rfl, hg, hs, hi⟩ R hR
  unfold F_laws_toNeedS.L3t
  refine bcase_dec (fun hlt => ?_) (fun hge => ?_)
  · have hlt' : g < n := by omega
    obtain ⟨i, o, hgl, rfl, hi', hc⟩ := (r.same hs).pair hlt'
    simp only [xSome_some, Int.toNat_natCast, hc, xRow_some, xCons_cons, xNil_nil, xStr_some]
    refine ⟨by omega, toNeed_ok.mono fun v h1 ⟨hv, hs1⟩ => ?_⟩
    subst hv
    have hi1 : h1[h.length]? = some (.cells t_impl_Need (prs (l.take g ++ List.replicate (n - g) ([], []))) false) := by rw [hs1.eq _ (Own.lt hi)]; exact hi
    simp only [xAgg_agg, xCons_cons, xNil_nil, xStr_some, Nat.zero_add]
    have hmin : min g l.length = g := Nat.min_eq_left (by omega)
    rw [store_two hi1 (by simp; omega)]
    simp only [xHeap_some]
    rw [wrap_succ hlt' (by omega)]
    have hset : (l.take g ++ List.replicate (n - g) ([], [])).take g ++ [(l[g].1, l[g].2)] ++ (l.take g ++ List.replicate (n - g) (([] : List Nat), ([] : List Nat))).drop (g + 1) = l.take (g + 1) ++ List.replicate (n - (g + 1)) ([], []) := by
      have hl1 : (l.take g).length = g := by rw [List.length_take, hmin]
      rw [List.take_left' hl1, List.take_succ_eq_append_getElem hgl, List.drop_append, hl1, List.drop_of_length_le (by omega), List.nil_append, List.drop_replicate]
      congr 2; omega
    rw [hset]
    exact ⟨⟨by omega, by omega⟩, hR (g + 1) _ _ (by omega) ⟨rfl, by omega, (hs.trans (hs1.mono hs.le)).trans (Same.set (Nat.le_refl _) _), getElem_set_self' hi1⟩⟩
  · have : g = n := by omega
    subst this
    rw [List.take_of_length_le (by omega), Nat.sub_self, List.replicate_zero, List.append_nil] at hi
    exact F_laws_toNeedS.A3x0i _ _ _ _ _ _ ⟨_, _, _, rfl, hs, ⟨hll, .inr ⟨h.length, rfl, Nat.le_refl _, hi⟩⟩, by simp, by simp⟩
end Go.Sim

set_option linter.unusedVariables false
set_option linter.unusedSimpArgs false
set_option maxRecDepth 20000
namespace Go.Sim
open Go Go.RowKit

def isz (i : Ins) : Nat := i.1.1.length + i.1.2.length + (i.2.length + tot2 i.2)
def iszs (l : List Ins) : Nat := (l.map isz).sum
def wsz (w : Wd) : Nat := w.cs.length + tot2 w.cs + (w.is.length + iszs w.is)
theorem iszs_take {l : List Ins} {g : Nat} (h : g < l.length) : iszs (l.take (g + 1)) = iszs (l.take g) + isz l[g] := by
  unfold iszs; rw [List.take_succ_eq_append_getElem h, List.map_append, List.sum_append]; simp
theorem iszs_take_le (l : List Ins) (g : Nat) : iszs (l.take g) ≤ iszs l := by
  conv => rhs; rw [← List.take_append_drop g l]
  unfold iszs; rw [List.map_append, List.sum_append]; omega
theorem iszs_get {l : List Ins} {g : Nat} (h : g < l.length) : isz l[g] ≤ iszs l := by
  have := iszs_take h; have := iszs_take_le l (g + 1); omega
/-- Of a value that came in: nothing is longer than a length can be. -/
def NBig (n : Nat) : Prop := n ≤ 9223372036854775807
structure WBig (w : Wd) : Prop where
  lc : NBig w.cs.length
  li : NBig w.is.length
  cs : ∀ p ∈ w.cs, NBig p.1.length ∧ NBig p.2.length ∧ ∀ b ∈ p.1, b < 256
  is : ∀ i ∈ w.is, NBig i.1.1.length ∧ NBig i.1.2.length ∧ NBig i.2.length ∧ ∀ p ∈ i.2, NBig p.1.length ∧ NBig p.2.length
theorem WB.of {w : Wd} (b : WBig w) (h : wsz w ≤ 1048576) : WB w := by
  have h1 : ∀ p ∈ w.cs, p.1.length + p.2.length ≤ tot2 w.cs := fun p hp => by
    obtain ⟨k, hk, rfl⟩ := List.mem_iff_getElem.1 hp; exact tot2_get hk
  have h2 : ∀ i ∈ w.is, isz i ≤ iszs w.is := fun p hp => by
    obtain ⟨k, hk, rfl⟩ := List.mem_iff_getElem.1 hp; exact iszs_get hk
  unfold wsz at h
  refine ⟨by omega, by omega, fun p hp => ⟨by have := h1 p hp; omega, by have := h1 p hp; omega, (b.cs p hp).2.2⟩, fun i hi => ?_⟩
  have := h2 i hi
  unfold isz at this
  refine ⟨by omega, by omega, by omega, fun p hp => ?_⟩
  have h3 : p.1.length + p.2.length ≤ tot2 i.2 := by obtain ⟨k, hk, rfl⟩ := List.mem_iff_getElem.1 hp; exact tot2_get hk
  omega
theorem szInstance_ok {h : AHeap} {a : Pt} {n cp : Nat} {e : Bool} {i : Ins} {x : Int} (r : Row h.length h a (n * 2) (flat eP i.2)) (hb : NBig i.1.1.length ∧ NBig i.1.2.length ∧ NBig i.2.length ∧ ∀ p ∈ i.2, NBig p.1.length ∧ NBig p.2.length) (hx : 0 ≤ x ∧ x ≤ 1048576) :
    SCall pg n_laws_szInstance [.agg [.str i.1.1, .str i.1.2, .slice a n cp e], .int .i64 x] h fun v h' => ∃ y, v = .int .i64 y ∧ Same h.length h h' ∧ (0 ≤ y → (isz i : Int) + y = x) := by
  have hl : i.2.length = n := by have := r.1; rw [flat_length eP_len] at this; omega
  apply F_laws_szInstance.call
  simp only [letH_def]
  have s1 : Same h.length h (h ++ [.cells t_laws_Instance [.str i.1.1, .str i.1.2, .slice a n cp e] false]) := same_last
  have hi : (h ++ [AObj.cells t_laws_Instance [.str i.1.1, .str i.1.2, .slice a n cp e] false])[h.length]? = some (.cells t_laws_Instance [.str i.1.1, .str i.1.2, .slice a n cp e] false) := by simp
  simp only [Nat.add_zero]
  rw [hRow_of hi (by simp)]
  simp only [List.drop_zero, List.take_succ_cons, List.take_zero, xRow_some, xCons_cons, xNil_nil, xStr_some]
  refine (szNeed_ok hb.1 hb.2.1 hx).mono ?_
  rintro v h2 ⟨y, rfl, s2, hy⟩
  simp only [xInt_some]
  have i2 := s2.get hi (Own.lt hi)
  refine bcase_dec (fun hlt => ⟨_, rfl, s1.cat s2, by omega⟩) (fun hge => ?_)
  have hyy := hy (by omega)
  simp only [hCell_of i2, Nat.zero_add, List.getElem?_cons_succ, List.getElem?_cons_zero, xSl_some]
  have hN := hb.2.2.1
  unfold NBig at hN
  refine (szNeeds_ok (r.same' (s1.cat s2)) (fun p hp => hb.2.2.2 p hp) (by omega) (left := y) (by omega)).mono ?_
  rintro v h3 ⟨z, rfl, s3, hz⟩
  simp only [xInt_some]
  refine bcase_dec (fun hlt => ⟨_, rfl, (s1.cat s2).cat s3, by omega⟩) (fun hge => ⟨_, rfl, (s1.cat s2).cat s3, fun h0 => ?_⟩)
  have := hz h0
  unfold isz; omega
theorem szInstances_ok {h : AHeap} {a0 a : Pt} {n0 c0 n cp : Nat} {e : Bool} {w : Wd} {x : Int} (r : WRep h a0 n0 c0 a n cp w) (hb : WBig w) (hx : 0 ≤ x ∧ x ≤ 1048576) :
    SCall pg n_laws_szInstanceS [.slice a n cp e, .int .i64 x] h fun v h' => ∃ y, v = .int .i64 y ∧ Same h.length h h' ∧ (0 ≤ y → (w.is.length : Int) + iszs w.is + y = x) := by
  have hl := r.len1
  have hbl := hb.li
  unfold NBig at hbl
  apply F_laws_szInstanceS.call
  rw [IntWalk.i64_in _ (by omega)]
  refine bcase_dec (fun hlt => ⟨_, rfl, Same.refl _ _, by omega⟩) (fun hge => ?_)
  refine F_laws_szInstanceS.L5ind _ _ _ _ _ (J := fun (g : Nat) x1 x5 h' => x5 = (g : Int) ∧ Same h.length h h' ∧ g ≤ n ∧ 0 ≤ x1 ∧ x1 + n + iszs (w.is.take g) = x) (fun g => n - g) ?_ 0 _ 0 h ⟨rfl, Same.refl _ _, by omega, by omega, by simp [iszs]⟩
  rintro g x1 x5 h' ⟨rfl, hS, hg, h0, ht⟩ R hR
  unfold F_laws_szInstanceS.L5t
  refine bcase_dec (fun hlt => ?_) (fun hge => ?_)
  · obtain ⟨i, o, hgl, a2, n2, c2, e2, rfl, _, hr, _, _, _, hrow, hn⟩ := (r.same hS).inst (k := g) (by omega)
    simp only [xSome_some, Int.toNat_natCast, hr, xRow_some, xCons_cons, xNil_nil, xStr_some, xSl_some]
    refine ⟨by omega, (szInstance_ok (i := w.is[g]) hrow (hb.is _ (List.getElem_mem hgl)) (by omega)).mono ?_⟩
    rintro v h1 ⟨y, rfl, hs1, hy⟩
    simp only [xInt_some]
    have hS1 := hS.cat hs1
    refine bcase_dec (fun hneg => ⟨_, rfl, hS1, by omega⟩) (fun hneg => ?_)
    have hyy := hy (by omega)
    rw [wrap_nat (by omega)]
    exact hR (g + 1) _ _ _ (by omega) ⟨rfl, hS1, by omega, by omega, by rw [iszs_take hgl]; omega⟩
  · have : g = n := by omega
    subst this
    rw [List.take_of_length_le (by omega)] at ht
    exact F_laws_szInstanceS.A5x0i _ _ _ ⟨_, rfl, hS, by omega⟩
theorem szWorld_ok {h : AHeap} {a0 a1 : Pt} {n0 c0 n1 c1 : Nat} {e0 e1 : Bool} {w : Wd} {x : Int} (r : WRep h a0 n0 c0 a1 n1 c1 w) (hb : WBig w) (hx : 0 ≤ x ∧ x ≤ 1048576) :
    SCall pg n_laws_szWorld [.agg [.slice a0 n0 c0 e0, .slice a1 n1 c1 e1], .int .i64 x] h fun v h' => ∃ y, v = .int .i64 y ∧ Same h.length h h' ∧ (0 ≤ y → (wsz w : Int) + y = x) := by
  have hl0 := r.len0
  apply F_laws_szWorld.call
  simp only [letH_def]
  have s1 : Same h.length h (h ++ [.cells t_laws_World [.slice a0 n0 c0 e0, .slice a1 n1 c1 e1] false]) := same_last
  have hi : (h ++ [AObj.cells t_laws_World [.slice a0 n0 c0 e0, .slice a1 n1 c1 e1] false])[h.length]? = some (.cells t_laws_World [.slice a0 n0 c0 e0, .slice a1 n1 c1 e1] false) := by simp
  simp only [hCell_of hi, Nat.add_zero, List.getElem?_cons_zero, xSl_some]
  have hN := hb.lc
  unfold NBig at hN
  refine (szClasses_ok (r.cls.same' s1) (fun p hp => ⟨(hb.cs p hp).1, (hb.cs p hp).2.1⟩) (by omega) hx).mono ?_
  rintro v h2 ⟨y, rfl, s2, hy⟩
  simp only [xInt_some]
  have i2 := s2.get hi (Own.lt hi)
  refine bcase_dec (fun hlt => ⟨_, rfl, s1.cat s2, by omega⟩) (fun hge => ?_)
  have hyy := hy (by omega)
  simp only [hCell_of i2, Nat.zero_add, List.getElem?_cons_succ, List.getElem?_cons_zero, xSl_some]
  refine (szInstances_ok (r.same (s1.cat s2)) hb (x := y) (by omega)).mono ?_
  rintro v h3 ⟨z, rfl, s3, hz⟩
  simp only [xInt_some]
  refine bcase_dec (fun hlt => ⟨_, rfl, (s1.cat s2).cat s3, by omega⟩) (fun hge => ⟨_, rfl, (s1.cat s2).cat s3, fun h0 => ?_⟩)
  have := hz h0
  unfold wsz; omega

theorem store_at2 {h : AHeap} {i : Nat} {t : TypeId} {x y z v : AVal} (hi : h[i]? = some (.cells t [x, y, z] false)) : hStore h (.ptr (some (i, 2))) [v] = some (h.set i (.cells t [x, y, v] false)) := by
  rw [hStore_of hi (by simp)]; rfl
theorem store_at01 {h : AHeap} {i : Nat} {t : TypeId} {x y z v u : AVal} (hi : h[i]? = some (.cells t [x, y, z] false)) : hStore h (.ptr (some (i, 0))) [v, u] = some (h.set i (.cells t [v, u, z] false)) := by
  rw [hStore_of hi (by simp)]; rfl
theorem store_all3 {h : AHeap} {i : Nat} {t : TypeId} {x y z a b c : AVal} (hi : h[i]? = some (.cells t [x, y, z] false)) : hStore h (.ptr (some (i, 0))) [a, b, c] = some (h.set i (.cells t [a, b, c] false)) := by
  rw [hStore_of hi (by simp)]; rfl
theorem row_all3 {h : AHeap} {i : Nat} {t : TypeId} {x y z : AVal} {ro : Bool} (hi : h[i]? = some (.cells t [x, y, z] ro)) : hRow h (.ptr (some (i, 0))) 3 = some [x, y, z] := by
  rw [hRow_of hi (by simp)]; rfl
theorem row_01 {h : AHeap} {i : Nat} {t : TypeId} {x y z : AVal} {ro : Bool} (hi : h[i]? = some (.cells t [x, y, z] ro)) : hRow h (.ptr (some (i, 0))) 2 = some [x, y] := by
  rw [hRow_of hi (by simp)]; rfl
theorem Same.set' {b i : Nat} {h h1 : AHeap} {x : AObj} (s : Same b h h1) (hi : b ≤ i) : Same b h (h1.set i x) := ⟨by simp; exact s.le, fun j hj => by rw [set_ne (by omega)]; exact s.eq j hj⟩
theorem FreshR.keep {α : Type} {ty : TypeId} {enc : α → List AVal} {b b' : Nat} {h h' : AHeap} {a : Pt} {n : Nat} {l : List α} (f : FreshR ty enc b h a n l) (hb : b' ≤ b) (hk : ∀ i, b ≤ i → i < h.length → h'[i]? = h[i]?) : FreshR ty enc b' h' a n l :=
  ⟨f.1, f.2.imp id fun ⟨i, ha, hbi, hi⟩ => ⟨i, ha, by omega, by rw [hk i hbi (Own.lt hi)]; exact hi⟩⟩
theorem toInstance_ok {h : AHeap} {a : Pt} {n cp : Nat} {e : Bool} {i : Ins} (r : Row h.length h a (n * 2) (flat eP i.2)) (hn : n ≤ 1048576) :
    SCall pg n_laws_toInstance [.agg [.str i.1.1, .str i.1.2, .slice a n cp e]] h fun v h' => ∃ a' c' e', v = .agg [.str i.1.1, .str i.1.2, .slice a' n c' e'] ∧ Same h.length h h' ∧ FreshR t_impl_Need eP h.length h' a' n i.2 ∧ a' ≠ none := by
  apply F_laws_toInstance.call
  simp only [letH_def]
  generalize hh0 : h ++ [AObj.cells t_laws_Instance [.str i.1.1, .str i.1.2, .slice a n cp e] false] = h0
  generalize hh1 : h0 ++ [AObj.cells t_impl_Instance [.str [], .str [], .slice none 0 0 true] false] = h1
  generalize hh2 : h1 ++ [AObj.cells t_impl_Instance [.str [], .str [], .slice none 0 0 true] false] = h2
  have s0 : Same h.length h h0 := by rw [← hh0]; exact same_last
  have s1 : Same h0.length h0 h1 := by rw [← hh1]; exact same_last
  have s2 : Same h1.length h1 h2 := by rw [← hh2]; exact same_last
  have l0 : h0.length = h.length + 1 := by rw [← hh0]; simp
  have l1 : h1.length = h.length + 2 := by rw [← hh1]; simp [l0]
  have l2 : h2.length = h.length + 3 := by rw [← hh2]; simp [l1]
  have x0 : h0[h.length]? = some (.cells t_laws_Instance [.str i.1.1, .str i.1.2, .slice a n cp e] false) := by rw [← hh0]; simp
  have y1 : h1[h0.length]? = some (.cells t_impl_Instance [.str [], .str [], .slice none 0 0 true] false) := by rw [← hh1]; simp
  have z2 : h2[h1.length]? = some (.cells t_impl_Instance [.str [], .str [], .slice none 0 0 true] false) := by rw [← hh2]; simp
  have x2 := s2.get (s1.get x0 (by omega)) (by omega)
  have y2 := s2.get y1 (by omega)
  have S2 := (s0.cat s1).cat s2
  simp only [Nat.add_zero, Nat.zero_add]
  rw [row_01 x2]
  simp only [xRow_some, xCons_cons, xNil_nil, xStr_some]
  refine toNeed_ok.mono ?_
  rintro v h3 ⟨rfl, s3⟩
  simp only [xAgg_agg, xCons_cons, xNil_nil, xStr_some]
  have z3 := s3.get z2 (by omega)
  have x3 := s3.get x2 (by omega)
  have y3 := s3.get y2 (by omega)
  have l3 := s3.le
  rw [store_at01 z3]
  simp only [xHeap_some]
  have x4 : (h3.set h1.length (.cells t_impl_Instance [.str i.1.1, .str i.1.2, .slice none 0 0 true] false))[h.length]? = some (.cells t_laws_Instance [.str i.1.1, .str i.1.2, .slice a n cp e] false) := by rw [set_ne (by omega)]; exact x3
  have y4 : (h3.set h1.length (.cells t_impl_Instance [.str i.1.1, .str i.1.2, .slice none 0 0 true] false))[h0.length]? = some (.cells t_impl_Instance [.str [], .str [], .slice none 0 0 true] false) := by rw [set_ne (by omega)]; exact y3
  have z4 : (h3.set h1.length (.cells t_impl_Instance [.str i.1.1, .str i.1.2, .slice none 0 0 true] false))[h1.length]? = some (.cells t_impl_Instance [.str i.1.1, .str i.1.2, .slice none 0 0 true] false) := set_get z3
  have S4 : Same h.length h (h3.set h1.length (.cells t_impl_Instance [.str i.1.1, .str i.1.2, .slice none 0 0 true] false)) := (S2.cat s3).set' (by omega)
  generalize hh4 : h3.set h1.length (.cells t_impl_Instance [.str i.1.1, .str i.1.2, .slice none 0 0 true] false) = h4 at *
  have l4 : h4.length = h3.length := by rw [← hh4]; simp
  simp only [hCell_of x4, List.getElem?_cons_succ, List.getElem?_cons_zero, xSl_some]
  refine (toNeedsN_ok (r.same' S4) hn).mono ?_
  rintro v h5 ⟨a', c', e', rfl, s5, f5, hc5, hnn⟩
  simp only [xSl_some]
  have l5 := s5.le
  have y5 := s5.get y4 (by omega)
  have z5 := s5.get z4 (by omega)
  rw [store_at2 z5]
  simp only [xHeap_some]
  rw [row_all3 (set_get z5)]
  simp only [xRow_some, xCons_cons, xNil_nil, xStr_some, xSl_some]
  have y6 : (h5.set h1.length (.cells t_impl_Instance [.str i.1.1, .str i.1.2, .slice a' n c' e'] false))[h0.length]? = some (.cells t_impl_Instance [.str [], .str [], .slice none 0 0 true] false) := by rw [set_ne (by omega)]; exact y5
  rw [store_all3 y6]
  simp only [xHeap_some]
  rw [row_all3 (set_get y6)]
  simp only [xRow_some, xCons_cons, xNil_nil, xStr_some, xSl_some]
  exact ⟨_, _, _, rfl, ((S4.cat s5).set' (by omega)).set' (by omega), f5.keep (by omega) fun j hj _ => by rw [set_ne (by omega), set_ne (by omega)], hnn⟩
end Go.Sim

set_option linter.unusedVariables false
set_option linter.unusedSimpArgs false
set_option maxRecDepth 20000
namespace Go.Sim
open Go Go.RowKit

theorem put_next {α : Type} {enc : α → List AVal} {w : Nat} (hw : ∀ x, (enc x).length = w) {ys : List α} {y : α} {k n : Nat} {z : List AVal} (hk : ys.length = k) (hn : k < n) (hz : z.length = w) :
    putRow (flat enc ys ++ reps (n - k) z) (k * w) (enc y) = flat enc (ys ++ [y]) ++ reps (n - (k + 1)) z := by
  have h1 : (flat enc ys).length = k * w := by rw [flat_length hw, hk]
  have h2 : reps (n - k) z = z ++ reps (n - (k + 1)) z := by
    rw [show n - k = (n - (k + 1)) + 1 by omega]; simp [reps, List.replicate_succ]
  unfold putRow
  rw [List.take_append_of_le_length (by omega), List.take_of_length_le (by omega), flat_append, flat_cons, flat_nil, List.append_nil, hw, h2, List.append_assoc, List.append_assoc]
  congr 2
  rw [← h1, ← hz, List.drop_append, List.drop_of_length_le (by omega)]
  simp
theorem next_len {α : Type} {enc : α → List AVal} {w : Nat} (hw : ∀ x, (enc x).length = w) {ys : List α} {k n : Nat} {z : List AVal} (hk : ys.length = k) (hn : k ≤ n) (hz : z.length = w) : (flat enc ys ++ reps (n - k) z).length = n * w := by
  have h1 : (reps (n - k) z).length = (n - k) * w := by unfold reps; rw [List.length_flatten]; simp [hz]
  rw [List.length_append, flat_length hw, h1, hk, ← Nat.add_mul]; congr 1; omega
theorem toInstances_ok {h : AHeap} {a0 a : Pt} {n0 c0 n cp : Nat} {e : Bool} {w : Wd} (r : WRep h a0 n0 c0 a n cp w) (b : WB w) :
    SCall pg n_laws_toInstanceS [.slice a n cp e] h fun v h' => ∃ a' c' e' ys, v = .slice a' n c' e' ∧ n ≤ c' ∧ Same h.length h h' ∧ FreshR t_impl_Instance eN h.length h' a' n ys ∧ ys.length = w.is.length ∧
      (∀ (k : Nat) (x : EI) (i : Ins), ys[k]? = some x → w.is[k]? = some i → x.c = i.1.1 ∧ x.t = i.1.2 ∧ FreshR t_impl_Need eP h.length h' x.a x.n i.2) ∧
      (∀ (j k : Nat) (x y : EI), j ≠ k → ys[j]? = some x → ys[k]? = some y → x.n ≠ 0 → y.n ≠ 0 → x.a ≠ y.a) ∧ ∀ x ∈ ys, x.a ≠ none := by
  have hl := r.len1
  have hli := b.li
  apply F_laws_toInstanceS.call
  simp only [letH_def, Int.toNat_natCast]
  refine ⟨by trivial, by trivial, ⟨by omega, by omega, by omega⟩, ?_⟩
  refine F_laws_toInstanceS.L3ind _ _ _ _ _ _ _ _ _ (J := fun (g : Nat) x4 h' => x4 = (g : Int) ∧ g ≤ n ∧ Same h.length h h' ∧ ∃ ys : List EI, ys.length = g ∧ h'[h.length]? = some (.cells t_impl_Instance (flat eN ys ++ reps (n - g) [.str [], .str [], .slice none 0 0 true]) false) ∧
      (∀ (k : Nat) (x : EI) (i : Ins), ys[k]? = some x → w.is[k]? = some i → x.c = i.1.1 ∧ x.t = i.1.2 ∧ FreshR t_impl_Need eP (h.length + 1) h' x.a x.n i.2) ∧
      (∀ (j k : Nat) (x y : EI), j ≠ k → ys[j]? = some x → ys[k]? = some y → x.n ≠ 0 → y.n ≠ 0 → x.a ≠ y.a) ∧ ∀ x ∈ ys, x.a ≠ none) (fun g => n - g) ?_ 0 _ _
    ⟨rfl, by omega, Same.app (Nat.le_refl _) _, [], rfl, by simp, by simp, by simp, by simp⟩
  rintro g x4 h' ⟨rfl, hg, hs, ys, hy, ho, hrep, hsep, hnn⟩ R hR
  unfold F_laws_toInstanceS.L3t
  refine bcase_dec (fun hlt => ?_) (fun hge => ?_)
  · have hlt' : g < n := by omega
    obtain ⟨i, o, hgl, a2, n2, c2, e2, rfl, _, hr, _, _, _, hrow, hn⟩ := (r.same hs).inst (k := g) (by omega)
    simp only [xSome_some, Int.toNat_natCast, hr, xRow_some, xCons_cons, xNil_nil, xStr_some, xSl_some]
    have hb := b.is _ (List.getElem_mem hgl)
    refine ⟨by omega, (toInstance_ok (i := w.is[g]) hrow (by omega)).mono ?_⟩
    rintro v h1 ⟨a', c', e', rfl, s1, f1, hnn1⟩
    simp only [xAgg_agg, xCons_cons, xNil_nil, xStr_some, xSl_some]
    have hol := Own.lt ho
    have ho1 := s1.get ho hol
    have hlen := next_len (enc := eN) eN_len (ys := ys) (k := g) (n := n) (z := [.str [], .str [], .slice none 0 0 true]) hy hg rfl
    rw [hStore_of ho1 (by rw [hlen]; simp; omega)]
    simp only [xHeap_some]
    have hput := put_next (enc := eN) eN_len (ys := ys) (y := ⟨w.is[g].1.1, w.is[g].1.2, a', n2, c', e'⟩) (k := g) (n := n) (z := [.str [], .str [], .slice none 0 0 true]) hy hlt' rfl
    rw [Nat.zero_add, show ([.str w.is[g].1.1, .str w.is[g].1.2, .slice a' n2 c' e'] : List AVal) = eN ⟨w.is[g].1.1, w.is[g].1.2, a', n2, c', e'⟩ from rfl, hput, wrap_nat (by omega)]
    refine ⟨by omega, hR (g + 1) _ _ (by omega) ⟨rfl, by omega, (hs.cat s1).set' (Nat.le_refl _), ys ++ [⟨w.is[g].1.1, w.is[g].1.2, a', n2, c', e'⟩], by simp [hy], set_get ho1, ?_, ?_, fun x hx => by
      rcases List.mem_append.1 hx with hx | hx
      · exact hnn x hx
      · rw [List.mem_singleton] at hx; subst hx; exact hnn1⟩⟩
    · intro k x j hx hj
      by_cases hk : k < g
      · rw [List.getElem?_append_left (by omega)] at hx
        obtain ⟨p1, p2, p3⟩ := hrep k x j hx hj
        refine ⟨p1, p2, p3.keep (Nat.le_refl _) fun q hq hq2 => ?_⟩
        rw [set_ne (by omega)]; exact s1.eq q hq2
      · have hkl := (List.getElem?_eq_some_iff.1 hx).1
        simp [hy] at hkl
        have : k = g := by omega
        subst this
        rw [List.getElem?_append_right (by omega), hy, Nat.sub_self] at hx
        simp at hx
        subst hx
        rw [List.getElem?_eq_getElem hgl] at hj
        cases hj
        exact ⟨rfl, rfl, f1.keep (by omega) fun q hq hq2 => by rw [set_ne (by omega)]⟩
    · have old : ∀ (j : Nat) (x : EI), ys[j]? = some x → x.n ≠ 0 → x.a ≠ a' ∨ n2 = 0 := by
        intro j x hx hn
        have hjl := (List.getElem?_eq_some_iff.1 hx).1
        obtain ⟨_, _, _, p3⟩ := hrep j x (w.is[j]'(by omega)) hx (List.getElem?_eq_getElem (by omega))
        rcases p3 with h0 | ⟨q, hq, _, hq2⟩
        · exact absurd h0 hn
        · have := Own.lt hq2
          rcases f1.2 with h0 | ⟨q', hq', hb', _⟩
          · exact .inr h0
          · refine .inl ?_
            rw [hq, hq']; intro e; cases e; omega
      intro j k x y hjk hx hy' hxn hyn
      by_cases hj : j < g <;> by_cases hk : k < g
      · rw [List.getElem?_append_left (by omega)] at hx hy'
        exact hsep j k x y hjk hx hy' hxn hyn
      · have hkl := (List.getElem?_eq_some_iff.1 hy').1
        simp [hy] at hkl
        have : k = g := by omega
        subst this
        rw [List.getElem?_append_right (by omega), hy, Nat.sub_self] at hy'
        simp at hy'
        subst hy'
        rw [List.getElem?_append_left (by omega)] at hx
        rcases old j x hx hxn with h1 | h1
        · exact h1
        · exact absurd h1 hyn
      · have hkl := (List.getElem?_eq_some_iff.1 hx).1
        simp [hy] at hkl
        have : j = g := by omega
        subst this
        rw [List.getElem?_append_right (by omega), hy, Nat.sub_self] at hx
        simp at hx
        subst hx
        rw [List.getElem?_append_left (by omega)] at hy'
        rcases old k y hy' hyn with h1 | h1
        · exact fun e => h1 e.symm
        · exact absurd h1 hxn
      · have h1 := (List.getElem?_eq_some_iff.1 hx).1
        have h2 := (List.getElem?_eq_some_iff.1 hy').1
        simp [hy] at h1 h2
        omega
  · have : g = n := by omega
    subst this
    apply F_laws_toInstanceS.A3x0i
    simp [reps] at ho
    refine ⟨_, _, _, ys, rfl, Nat.le_refl _, hs, ⟨hy, .inr ⟨h.length, rfl, Nat.le_refl _, ho⟩⟩, by omega, fun k x i hx hi => ?_, hsep, hnn⟩
    obtain ⟨p1, p2, p3⟩ := hrep k x i hx hi
    exact ⟨p1, p2, p3.keep (by omega) fun _ _ _ => rfl⟩
theorem store_first2 {h : AHeap} {i : Nat} {t : TypeId} {x y v : AVal} (hi : h[i]? = some (.cells t [x, y] false)) : hStore h (.ptr (some (i, 0))) [v] = some (h.set i (.cells t [v, y] false)) := by
  rw [hStore_of hi (by simp)]; rfl
theorem store_second2 {h : AHeap} {i : Nat} {t : TypeId} {x y v : AVal} (hi : h[i]? = some (.cells t [x, y] false)) : hStore h (.ptr (some (i, 1))) [v] = some (h.set i (.cells t [x, v] false)) := by
  rw [hStore_of hi (by simp)]; rfl
theorem store_all2 {h : AHeap} {i : Nat} {t : TypeId} {x y a b : AVal} (hi : h[i]? = some (.cells t [x, y] false)) : hStore h (.ptr (some (i, 0))) [a, b] = some (h.set i (.cells t [a, b] false)) := by
  rw [hStore_of hi (by simp)]; rfl
theorem row_all2 {h : AHeap} {i : Nat} {t : TypeId} {x y : AVal} {ro : Bool} (hi : h[i]? = some (.cells t [x, y] ro)) : hRow h (.ptr (some (i, 0))) 2 = some [x, y] := by
  rw [hRow_of hi (by simp)]; rfl
theorem toWorld_ok {h : AHeap} {a0 a1 : Pt} {n0 c0 n1 c1 : Nat} {e0 e1 : Bool} {w : Wd} (r : WRep h a0 n0 c0 a1 n1 c1 w) (b : WB w) :
    SCall pg n_laws_toWorld [.agg [.slice a0 n0 c0 e0, .slice a1 n1 c1 e1]] h fun v h' => ∃ b0 d0 f0 b1 d1 f1 ys, v = .agg [.slice b0 n0 d0 f0, .slice b1 n1 d1 f1] ∧ n0 ≤ d0 ∧ n1 ≤ d1 ∧ Same h.length h h' ∧ WFresh h.length h' b0 n0 b1 n1 ys w := by
  have hl0 := r.len0
  have hlc := b.lc
  apply F_laws_toWorld.call
  simp only [letH_def]
  generalize hh0 : h ++ [AObj.cells t_laws_World [.slice a0 n0 c0 e0, .slice a1 n1 c1 e1] false] = h0
  generalize hh1 : h0 ++ [AObj.cells t_impl_World [.slice none 0 0 true, .slice none 0 0 true] false] = h1
  generalize hh2 : h1 ++ [AObj.cells t_impl_World [.slice none 0 0 true, .slice none 0 0 true] false] = h2
  have s0 : Same h.length h h0 := by rw [← hh0]; exact same_last
  have s1 : Same h0.length h0 h1 := by rw [← hh1]; exact same_last
  have s2 : Same h1.length h1 h2 := by rw [← hh2]; exact same_last
  have l0 : h0.length = h.length + 1 := by rw [← hh0]; simp
  have l1 : h1.length = h.length + 2 := by rw [← hh1]; simp [l0]
  have l2 : h2.length = h.length + 3 := by rw [← hh2]; simp [l1]
  have x0 : h0[h.length]? = some (.cells t_laws_World [.slice a0 n0 c0 e0, .slice a1 n1 c1 e1] false) := by rw [← hh0]; simp
  have y1 : h1[h0.length]? = some (.cells t_impl_World [.slice none 0 0 true, .slice none 0 0 true] false) := by rw [← hh1]; simp
  have z2 : h2[h1.length]? = some (.cells t_impl_World [.slice none 0 0 true, .slice none 0 0 true] false) := by rw [← hh2]; simp
  have x2 := s2.get (s1.get x0 (by omega)) (by omega)
  have y2 := s2.get y1 (by omega)
  have S2 := (s0.cat s1).cat s2
  simp only [Nat.add_zero, Nat.zero_add, hCell_of x2, List.getElem?_cons_zero, xSl_some]
  refine (toClasses_ok (r.cls.same' S2) (by omega)).mono ?_
  rintro v h3 ⟨b0, d0, f0, rfl, s3, g3, hd0⟩
  simp only [xSl_some]
  have z3 := s3.get z2 (by omega)
  have x3 := s3.get x2 (by omega)
  have y3 := s3.get y2 (by omega)
  have l3 := s3.le
  rw [store_first2 z3]
  simp only [xHeap_some]
  have x4 : (h3.set h1.length (.cells t_impl_World [.slice b0 n0 d0 f0, .slice none 0 0 true] false))[h.length]? = some (.cells t_laws_World [.slice a0 n0 c0 e0, .slice a1 n1 c1 e1] false) := by rw [set_ne (by omega)]; exact x3
  have y4 : (h3.set h1.length (.cells t_impl_World [.slice b0 n0 d0 f0, .slice none 0 0 true] false))[h0.length]? = some (.cells t_impl_World [.slice none 0 0 true, .slice none 0 0 true] false) := by rw [set_ne (by omega)]; exact y3
  have z4 : (h3.set h1.length (.cells t_impl_World [.slice b0 n0 d0 f0, .slice none 0 0 true] false))[h1.length]? = some (.cells t_impl_World [.slice b0 n0 d0 f0, .slice none 0 0 true] false) := set_get z3
  have S4 : Same h.length h (h3.set h1.length (.cells t_impl_World [.slice b0 n0 d0 f0, .slice none 0 0 true] false)) := (S2.cat s3).set' (by omega)
  have g4 : FreshR t_impl_Class eP (h.length + 3) (h3.set h1.length (.cells t_impl_World [.slice b0 n0 d0 f0, .slice none 0 0 true] false)) b0 n0 w.cs := g3.keep (by omega) fun j hj _ => by rw [set_ne (by omega)]
  generalize hh4 : h3.set h1.length (.cells t_impl_World [.slice b0 n0 d0 f0, .slice none 0 0 true] false) = h4 at *
  have l4 : h4.length = h3.length := by rw [← hh4]; simp
  simp only [hCell_of x4, List.getElem?_cons_succ, List.getElem?_cons_zero, xSl_some]
  refine (toInstances_ok (r.same S4) b).mono ?_
  rintro v h5 ⟨b1, d1, f1, ys, rfl, hd1, s5, g5, hyl, hrep, hsep, hnn⟩
  simp only [xSl_some]
  have l5 := s5.le
  have y5 := s5.get y4 (by omega)
  have z5 := s5.get z4 (by omega)
  rw [store_second2 z5]
  simp only [xHeap_some]
  rw [row_all2 (set_get z5)]
  simp only [xRow_some, xCons_cons, xNil_nil, xSl_some]
  have y6 : (h5.set h1.length (.cells t_impl_World [.slice b0 n0 d0 f0, .slice b1 n1 d1 f1] false))[h0.length]? = some (.cells t_impl_World [.slice none 0 0 true, .slice none 0 0 true] false) := by rw [set_ne (by omega)]; exact y5
  rw [store_all2 y6]
  simp only [xHeap_some]
  rw [row_all2 (set_get y6)]
  simp only [xRow_some, xCons_cons, xNil_nil, xSl_some]
  refine ⟨_, _, _, _, _, _, ys, rfl, hd0, hd1, ((S4.cat s5).set' (by omega)).set' (by omega), ?_⟩
  have kp : ∀ j, h.length + 3 ≤ j → j < h5.length → ((h5.set h1.length (.cells t_impl_World [.slice b0 n0 d0 f0, .slice b1 n1 d1 f1] false)).set h0.length (.cells t_impl_World [.slice b0 n0 d0 f0, .slice b1 n1 d1 f1] false))[j]? = h5[j]? := fun j hj _ => by rw [set_ne (by omega), set_ne (by omega)]
  exact ⟨(g4.same s5).keep (by omega) fun j hj hj2 => kp j hj hj2, g5.keep (by omega) fun j hj hj2 => kp j (by omega) hj2, hyl, fun k x i hx hi => by
    obtain ⟨p1, p2, p3⟩ := hrep k x i hx hi
    exact ⟨p1, p2, p3.keep (by omega) fun j hj hj2 => kp j (by omega) hj2⟩, hsep, hnn⟩

theorem eqInstance_ok {h : AHeap} {a a' : Pt} {n n' c c' : Nat} {e e' : Bool} {i : Ins} (r : Row h.length h a (n * 2) (flat eP i.2)) (r' : Row h.length h a' (n' * 2) (flat eP i.2)) (hn : n ≤ 1048576) :
    SCall pg n_laws_eqInstance [.agg [.str i.1.1, .str i.1.2, .slice a n c e], .agg [.str i.1.1, .str i.1.2, .slice a' n' c' e']] h fun v h' => v = .bool true ∧ Same h.length h h' := by
  apply F_laws_eqInstance.call
  simp only [letH_def]
  generalize hh0 : h ++ [AObj.cells t_impl_Instance [.str i.1.1, .str i.1.2, .slice a n c e] false] = h0
  generalize hh1 : h0 ++ [AObj.cells t_impl_Instance [.str i.1.1, .str i.1.2, .slice a' n' c' e'] false] = h1
  have s0 : Same h.length h h0 := by rw [← hh0]; exact same_last
  have s1 : Same h0.length h0 h1 := by rw [← hh1]; exact same_last
  have x0 : h0[h.length]? = some (.cells t_impl_Instance [.str i.1.1, .str i.1.2, .slice a n c e] false) := by rw [← hh0]; simp
  have y1 : h1[h0.length]? = some (.cells t_impl_Instance [.str i.1.1, .str i.1.2, .slice a' n' c' e'] false) := by rw [← hh1]; simp
  have x1 := s1.get x0 (Own.lt x0)
  simp only [Nat.add_zero, Nat.zero_add]
  rw [row_01 x1, row_01 y1]
  simp only [xRow_some, xCons_cons, xNil_nil, xStr_some]
  refine eqNeed_ok.mono ?_
  rintro v h2 ⟨rfl, s2⟩
  simp only [xBool_some, decide_true, Bool.and_self, Bool.not_true, bcase_false]
  simp only [hCell_of (s2.get x1 (Own.lt x1)), hCell_of (s2.get y1 (Own.lt y1)), List.getElem?_cons_succ, List.getElem?_cons_zero, xSl_some]
  have S2 := (s0.cat s1).cat s2
  refine (eqNeeds_ok (r.same' S2) (r'.same' S2) (by omega) rfl).mono ?_
  rintro v h3 ⟨rfl, s3⟩
  simp only [xBool_some, Bool.not_true, bcase_false]
  exact ⟨by trivial, S2.cat s3⟩
theorem eqInstances_ok {h : AHeap} {a a' x x' : Pt} {n n' c c' m m' d d' : Nat} {e e' : Bool} {w : Wd} (r : WRep h x m d a n c w) (r' : WRep h x' m' d' a' n' c' w) (b : WB w) :
    SCall pg n_laws_eqInstanceS [.slice a n c e, .slice a' n' c' e'] h fun v h' => v = .bool true ∧ Same h.length h h' := by
  have hl := r.len1
  have hl' := r'.len1
  have hli := b.li
  have : n' = n := by omega
  subst this
  apply F_laws_eqInstanceS.call
  simp only [beq_self_eq_true, Bool.not_true, bcase_false]
  refine F_laws_eqInstanceS.L4ind _ _ _ _ _ _ _ _ _ (J := fun (k : Nat) x5 h' => Same h.length h h' ∧ x5 = (k : Int) ∧ k ≤ n') (fun k => n' - k) ?_ 0 0 h ⟨Same.refl _ _, rfl, by omega⟩
  rintro k x5 h' ⟨hs, rfl, hk⟩ R hR
  unfold F_laws_eqInstanceS.L4t
  refine bcase_dec (fun hlt => ?_) (fun hge => F_laws_eqInstanceS.A4x0i _ _ ⟨rfl, hs⟩)
  obtain ⟨i, o, hgl, a2, n2, c2, e2, rfl, _, hr, _, _, _, hrow, hn⟩ := (r.same hs).inst (k := k) (by omega)
  obtain ⟨i', o', hgl', a2', n2', c2', e2', rfl, _, hr', _, _, _, hrow', hn'⟩ := (r'.same hs).inst (k := k) (by omega)
  have hb := b.is _ (List.getElem_mem hgl)
  simp only [xSome_some, Int.toNat_natCast, hr, hr', xRow_some, xCons_cons, xNil_nil, xStr_some, xSl_some, true_and]
  refine ⟨⟨by omega, by omega⟩, ⟨by omega, by omega⟩, (eqInstance_ok (i := w.is[k]) hrow hrow' (by omega)).mono ?_⟩
  rintro v h1 ⟨rfl, s1⟩
  simp only [xBool_some, Bool.not_true, bcase_false]
  rw [wrap_nat (by omega)]
  exact hR (k + 1) _ _ (by omega) ⟨hs.cat s1, rfl, by omega⟩
theorem eqWorld_ok {h : AHeap} {a0 a1 b0 b1 : Pt} {n0 c0 n1 c1 m0 d0 m1 d1 : Nat} {e0 e1 f0 f1 : Bool} {w : Wd} (r : WRep h a0 n0 c0 a1 n1 c1 w) (r' : WRep h b0 m0 d0 b1 m1 d1 w) (b : WB w) :
    SCall pg n_laws_eqWorld [.agg [.slice a0 n0 c0 e0, .slice a1 n1 c1 e1], .agg [.slice b0 m0 d0 f0, .slice b1 m1 d1 f1]] h fun v h' => v = .bool true ∧ Same h.length h h' := by
  have hl := r.len0
  have hlc := b.lc
  apply F_laws_eqWorld.call
  simp only [letH_def]
  generalize hh0 : h ++ [AObj.cells t_impl_World [.slice a0 n0 c0 e0, .slice a1 n1 c1 e1] false] = h0
  generalize hh1 : h0 ++ [AObj.cells t_impl_World [.slice b0 m0 d0 f0, .slice b1 m1 d1 f1] false] = h1
  have s0 : Same h.length h h0 := by rw [← hh0]; exact same_last
  have s1 : Same h0.length h0 h1 := by rw [← hh1]; exact same_last
  have x0 : h0[h.length]? = some (.cells t_impl_World [.slice a0 n0 c0 e0, .slice a1 n1 c1 e1] false) := by rw [← hh0]; simp
  have y1 : h1[h0.length]? = some (.cells t_impl_World [.slice b0 m0 d0 f0, .slice b1 m1 d1 f1] false) := by rw [← hh1]; simp
  have x1 := s1.get x0 (Own.lt x0)
  simp only [Nat.add_zero, Nat.zero_add, hCell_of x1, hCell_of y1, List.getElem?_cons_zero, xSl_some]
  have S1 := s0.cat s1
  refine (eqClasses_ok (r.cls.same' S1) (r'.cls.same' S1) (by omega) rfl).mono ?_
  rintro v h2 ⟨rfl, s2⟩
  simp only [xBool_some, Bool.not_true, bcase_false, hCell_of (s2.get x1 (Own.lt x1)), hCell_of (s2.get y1 (Own.lt y1)), List.getElem?_cons_succ, List.getElem?_cons_zero, xSl_some]
  refine (eqInstances_ok (r.same (S1.cat s2)) (r'.same (S1.cat s2)) b).mono ?_
  rintro v h3 ⟨rfl, s3⟩
  simp only [xBool_some, Bool.not_true, bcase_false]
  exact ⟨by trivial, (S1.cat s2).cat s3⟩
end Go.Sim

set_option linter.unusedVariables false
set_option linter.unusedSimpArgs false
set_option maxRecDepth 20000
namespace Go.Sim
open Go Go.RowKit

theorem Ty.size_ps (t : Ty) : t.size = 1 + (t.ps.map Ty.size).sum := by cases t <;> simp [Ty.size, Ty.ps] <;> omega
theorem SRep.same {S : Nat → Prop} {h h' : AHeap} (s : Same h.length h h') : ∀ {t : Ty} {v : List AVal}, SRep S h t v → SRep S h' t v
  | .k d, _, h => h
  | .u d x, _, ⟨j, c, e, r, hv, sj, hj, hr⟩ => ⟨j, c, e, r, hv, sj, s.get hj (Own.lt hj), hr.same s⟩
  | .w d x y, _, ⟨j, c, e, r, r', hv, sj, hj, hr, hr'⟩ => ⟨j, c, e, r, r', hv, sj, s.get hj (Own.lt hj), hr.same s, hr'.same s⟩
end Go.Sim

set_option linter.unusedVariables false
set_option linter.unusedSimpArgs false
set_option maxRecDepth 20000
namespace Go.Sim
open Go Go.RowKit

theorem Vec.lt' {ty : TypeId} {h : AHeap} {a : Pt} {i n c : Nat} {cs : List AVal} (x : Vec ty h a n c cs) (e : a = some (i, 0)) : i < h.length := by subst e; exact x.lt
theorem NRep.keep {S : Nat → Prop} {h h' : AHeap} (hh : ∀ j, S j → j < h.length → h'[j]? = h[j]?) : ∀ {t : Ty} {p : Pt}, NRep S h t p → NRep S h' t p
  | .k d, p, ⟨i, a, c, e, hp, si, hi⟩ => ⟨i, a, c, e, hp, si, by rw [hh i si (Own.lt hi)]; exact hi⟩
  | .u d x, p, ⟨i, j, c, e, q, hp, si, hi, sj, hj, hq⟩ => ⟨i, j, c, e, q, hp, si, by rw [hh i si (Own.lt hi)]; exact hi, sj, by rw [hh j sj (Own.lt hj)]; exact hj, hq.keep hh⟩
  | .w d x y, p, ⟨i, j, c, e, q, r, hp, si, hi, sj, hj, hq, hr⟩ => ⟨i, j, c, e, q, r, hp, si, by rw [hh i si (Own.lt hi)]; exact hi, sj, by rw [hh j sj (Own.lt hj)]; exact hj, hq.keep hh, hr.keep hh⟩
theorem NRep.same {S : Nat → Prop} {h h' : AHeap} {t : Ty} {p : Pt} (r : NRep S h t p) (s : Same h.length h h') : NRep S h' t p := r.keep fun j _ hj => s.eq j hj
theorem SRep.keep {S : Nat → Prop} {h h' : AHeap} (hh : ∀ j, S j → j < h.length → h'[j]? = h[j]?) : ∀ {t : Ty} {v : List AVal}, SRep S h t v → SRep S h' t v
  | .k d, _, h => h
  | .u d x, _, ⟨j, c, e, r, hv, sj, hj, hr⟩ => ⟨j, c, e, r, hv, sj, by rw [hh j sj (Own.lt hj)]; exact hj, hr.keep hh⟩
  | .w d x y, _, ⟨j, c, e, r, r', hv, sj, hj, hr, hr'⟩ => ⟨j, c, e, r, r', hv, sj, by rw [hh j sj (Own.lt hj)]; exact hj, hr.keep hh, hr'.keep hh⟩
/-- The text of a tree, by its parts. -/
theorem Ty.txt_inter (t : Ty) (h : t.ps ≠ []) : t.txt = ([t.hd] ++ [40]) ++ [44].intercalate (t.ps.map Ty.txt) ++ [41] := by
  cases t with
  | k c => simp [Ty.ps] at h
  | u c a => simp [Ty.ps, Ty.txt, Ty.hd, List.intercalate]
  | w c a b => simp [Ty.ps, Ty.txt, Ty.hd, List.intercalate]
theorem Ty.size_part {t x : Ty} (h : x ∈ t.ps) : x.size < t.size := by
  cases t with
  | k c => simp [Ty.ps] at h
  | u c a => simp [Ty.ps] at h; subst h; simp [Ty.size]
  | w c a b => simp [Ty.ps] at h; rcases h with rfl | rfl <;> simp [Ty.size] <;> omega
theorem Ty.len_part {t x : Ty} (h : x ∈ t.ps) : x.txt.length < t.txt.length := by
  cases t with
  | k c => simp [Ty.ps] at h
  | u c a => simp [Ty.ps] at h; subst h; simp [Ty.txt]; omega
  | w c a b => simp [Ty.ps] at h; rcases h with rfl | rfl <;> simp [Ty.txt] <;> omega
theorem text_ok : ∀ (N : Nat) {S : Nat → Prop} {h : AHeap} {t : Ty} {p : Pt}, t.size ≤ N → t.txt.length ≤ 1048576 → NRep S h t p → SCall pg n_impl_node_text [.ptr p] h fun x h' => x = .str t.txt ∧ Same h.length h h'
  | 0, S, h, t, p, hN, _, _ => by have := t.size_ps; omega
  | N + 1, S, h, t, p, hN, hB, r => by
    obtain ⟨i, a, c, e, qs, rfl, si, hi, hrow, hS, hql, hq⟩ := r.parts
    have hps2 : t.ps.length ≤ 2 := by cases t <;> simp [Ty.ps]
    apply F_impl_node_text.call
    simp only [xSome_some, hCell_of hi, Nat.zero_add, List.getElem?_cons_succ, List.getElem?_cons_zero, xSl_some, xStr_some]
    refine bcase_beq (fun hz0 => ?_) (fun hz0 => ?_)
    · have : t.ps.length = 0 := by omega
      refine ⟨?_, Same.refl _ _⟩
      cases t <;> simp [Ty.ps] at this
      rfl
    · simp only [letH_def]
      generalize hh0 : h ++ [AObj.cells t_string [] false] = h0
      have s0 : Same h.length h h0 := by rw [← hh0]; exact same_last
      have i0 := s0.get hi (Own.lt hi)
      have l0 : h0.length = h.length + 1 := by rw [← hh0]; simp
      have v0 : h0[h.length]? = some (.cells t_string [] false) := by rw [← hh0]; simp
      simp only [hCell_of i0, List.getElem?_cons_succ, List.getElem?_cons_zero, xSl_some]
      refine F_impl_node_text.L5ind _ _ _ _ _ _ _ (J := fun (g : Nat) a3 n3 c3 e3 x22 h' => x22 = (g : Int) ∧ g ≤ t.ps.length ∧ Same h.length h h' ∧ n3 = g ∧ Vec t_string h' a3 n3 c3 (strs ((t.ps.take g).map Ty.txt)) ∧ (∀ i, a3 = some (i, 0) → h.length ≤ i)) (fun g => t.ps.length - g) ?_ 0 _ _ _ _ _ _
        ⟨rfl, by omega, s0, rfl, Vec.mk1 (by simpa using v0), fun i hi => by cases hi; omega⟩
      rintro g a3 n3 c3 e3 x22 h' ⟨rfl, hg, hSm, rfl, hv, ha⟩ R hR
      unfold F_impl_node_text.L5t
      have i1 := hSm.get hi (Own.lt hi)
      refine bcase_dec (fun hlt => ?_) (fun hge => ?_)
      · have hg' : n3 < t.ps.length := by omega
        obtain ⟨j, o, rfl, hj, hc⟩ := (hrow.same hSm).at hg'
        have hqg : n3 < qs.length := by omega
        rw [List.getElem?_map, List.getElem?_eq_getElem hqg] at hc
        simp only [xSome_some, Int.toNat_natCast, Nat.mul_one, hc, Option.map_some, xPtr_some]
        have hk := hq n3 qs[n3] t.ps[n3] (List.getElem?_eq_getElem hqg) (List.getElem?_eq_getElem hg')
        have hm := List.getElem_mem hg'
        have h1 := Ty.size_part hm
        have h2 := Ty.len_part hm
        refine ⟨by omega, (text_ok N (by omega) (by omega) (hk.same hSm)).mono ?_⟩
        rintro x h2 ⟨rfl, s2⟩
        simp only [xStr_some, letH_def]
        refine (hv.same s2).push vs_L_string vs_string vk_string vb_string (by simp; omega) rfl (by omega) (fun h4 hl4 hi4 hk4 => ?_)
        simp only [xSl_some]
        rw [wrap_nat (by omega)]
        have S2 := hSm.cat s2
        have hle := S2.le
        refine hR (n3 + 1) _ _ _ _ _ _ (by omega) ⟨rfl, by omega, ⟨by omega, fun j hj => ?_⟩, rfl, Vec.mk1 ?_, fun i hi => by cases hi; omega⟩
        · rw [hk4 j (by omega) fun i hi => by have := ha i hi; omega]; exact S2.eq j hj
        · rw [hi4, List.take_succ_eq_append_getElem hg', List.map_append, strs_append]; rfl
      · apply F_impl_node_text.A5x0i
        have : n3 = t.ps.length := by omega
        subst this
        rw [List.take_length] at hv
        have hne : t.ps ≠ [] := fun e => hz0 (by rw [e]; rfl)
        have htx := t.txt_inter hne
        have hln := congrArg List.length htx
        simp at hln
        simp only [xSome_some, hCell_of i1, Nat.zero_add, List.getElem?_cons_zero, xStr_some]
        refine ⟨by simp, ?_⟩
        refine (lib_join (hv.row (by simp)) (by omega) (by omega)).mono ?_
        rintro v h3 ⟨rfl, rfl⟩
        simp only [xStr_some]
        refine ⟨hCell_of i1, by simp; omega, by simp; omega, ?_⟩
        exact ⟨by rw [htx], hSm⟩
theorem SRep.get {S : Nat → Prop} {h : AHeap} {t : Ty} {a : Pt} {vs : List (List AVal)} (hrow : Row h.length h a (t.ps.length * 2) vs.flatten) (hvl : vs.length = t.ps.length) (hp : ∀ (k : Nat) (w : List AVal) (x : Ty), vs[k]? = some w → t.ps[k]? = some x → SRep S h x w) {g : Nat} (hg' : g < t.ps.length) :
    ∃ i o a2 c2 e2, a = some (i, o) ∧ hRow h (.ptr (some (i, o + g * 2))) 2 = some [.int .u8 (t.ps[g].hd : Int), .slice a2 t.ps[g].ps.length c2 e2] ∧ SRep S h t.ps[g] [.int .u8 (t.ps[g].hd : Int), .slice a2 t.ps[g].ps.length c2 e2] := by
  have hgv : g < vs.length := by omega
  have hk := hp g vs[g] t.ps[g] (List.getElem?_eq_getElem hgv) (List.getElem?_eq_getElem hg')
  have hz : ∀ v ∈ vs, v.length = 2 := fun v hv => by
    obtain ⟨k, hk, rfl⟩ := List.mem_iff_getElem.1 hv
    exact (hp k vs[k] (t.ps[k]'(by omega)) (List.getElem?_eq_getElem hk) (List.getElem?_eq_getElem (by omega))).len
  have hfl : vs.flatten = flat (fun (v : {v : List AVal // v.length = 2}) => v.1) (vs.attach.map fun v => ⟨v.1, hz v.1 v.2⟩) := by
    unfold flat; rw [List.flatMap_map]; simp
  rw [hfl] at hrow
  obtain ⟨i, o, hk', ha, _, hr, _⟩ := Row.el (enc := fun (v : {v : List AVal // v.length = 2}) => v.1) (fun x => x.2) hrow (by simp [hvl]) (k := g) hg' (by omega)
  obtain ⟨a2, c2, e2, hv2⟩ := hk.shape
  rw [hv2] at hk
  exact ⟨i, o, a2, c2, e2, ha, by rw [hr]; simp [hv2], hk⟩
theorem sub_mark' {g : Nat} (hg : g < 2) : sub [40, 44] (g : Int) ((g : Int) + 1) = [markN g] := by
  rcases g with _ | _ | g
  · rfl
  · rfl
  · omega
theorem Ty.hd_lt (t : Ty) (h : t.ok = true) : t.hd < 256 := by
  have := Ty.ok_ar h
  unfold arN isLeafN isVarN at this
  simp only [Bool.or_eq_true, beq_iff_eq] at this
  split at this
  · omega
  · split at this
    · omega
    · split at this
      · omega
      · omega
/-- The parts' texts, each with its mark ahead. -/
def midsL : Nat → List Ty → List Nat
  | _, [] => []
  | g, x :: l => markN g :: (x.txt ++ midsL (g + 1) l)
theorem midsL_take : ∀ (l : List Ty) (g k : Nat) (h : k < l.length), midsL g (l.take (k + 1)) = midsL g (l.take k) ++ markN (g + k) :: l[k].txt
  | x :: l, g, 0, _ => by simp [midsL]
  | x :: l, g, k + 1, h => by
    have := midsL_take l (g + 1) k (by simpa using h)
    simp only [List.take_succ_cons, midsL, this, List.getElem_cons_succ, List.cons_append, List.append_assoc]
    rw [show g + 1 + k = g + (k + 1) by omega]
theorem midsL_len : ∀ (l : List Ty) (g k : Nat), (midsL g (l.take k)).length ≤ (midsL g l).length
  | [], g, k => by simp [midsL]
  | x :: l, g, 0 => by simp [midsL]
  | x :: l, g, k + 1 => by
    have := midsL_len l (g + 1) k
    simp only [List.take_succ_cons, midsL, List.length_cons, List.length_append]; omega
theorem Ty.txt_mids (t : Ty) : t.txt = t.hd :: midsL 0 t.ps ++ (if t.ps = [] then [] else [41]) := by
  cases t <;> simp [Ty.ps, Ty.txt, Ty.hd, midsL, markN]
theorem l1Text_ok : ∀ (N : Nat) {S : Nat → Prop} {h : AHeap} {t : Ty} {v : List AVal}, t.size ≤ N → t.txt.length ≤ 1048576 → t.ok = true → SRep S h t v → SCall pg n_spec_l1Text [.agg v] h fun x h' => x = .str t.txt ∧ Same h.length h h'
  | 0, S, h, t, v, hN, _, _, _ => by have := t.size_ps; omega
  | N + 1, S, h, t, v, hN, hB, hok, r => by
    obtain ⟨a, c, e, vs, rfl, hrow, hS, hvl, hp⟩ := r.parts
    have hps2 : t.ps.length ≤ 2 := by cases t <;> simp [Ty.ps]
    have htx := t.txt_mids
    have hln := congrArg List.length htx
    rw [List.length_append, List.length_cons] at hln
    apply F_spec_l1Text.call
    simp only [letH_def, hCell_last, Nat.zero_add, List.getElem?_cons_succ, List.getElem?_cons_zero, xSl_some, xInt_some]
    generalize hh0 : h ++ [AObj.cells t_spec_l1Node [.int .u8 (t.hd : Int), .slice a t.ps.length c e] false] = h0
    have s0 : Same h.length h h0 := by rw [← hh0]; exact same_last
    have o0 : h0[h.length]? = some (.cells t_spec_l1Node [.int .u8 (t.hd : Int), .slice a t.ps.length c e] false) := by rw [← hh0]; simp
    generalize hh1 : h0 ++ [AObj.cells t_uint8 [.int .u8 (t.hd : Int)] false] = h1
    have s1 : Same h0.length h0 h1 := by rw [← hh1]; exact same_last
    have o1 := s1.get o0 (Own.lt o0)
    have hro : rowOf h1 (some (h0.length, 0)) 1 = some [.int .u8 (t.hd : Int)] := by rw [← hh1]; simp [rowOf, hRow]
    rw [hro]
    simp only [xRow_some, bytesA, chk, decide_true]
    rw [show ((t.hd : Int)).toNat = t.hd from Int.toNat_natCast _]
    refine ⟨⟨by omega, by have := t.hd_lt hok; omega⟩, ?_⟩
    simp only [hCell_of o1, List.getElem?_cons_succ, List.getElem?_cons_zero, xSl_some]
    refine F_spec_l1Text.L3ind _ _ _ _ _ _ _ _ (J := fun (g : Nat) x3 x13 h' => x13 = (g : Int) ∧ g ≤ t.ps.length ∧ Same h.length h h' ∧ Same h1.length h1 h' ∧ x3 = t.hd :: midsL 0 (t.ps.take g)) (fun g => t.ps.length - g) ?_ 0 _ _ _ ⟨rfl, by omega, s0.cat s1, Same.refl _ _, by simp [midsL]⟩
    rintro g x3 x13 h' ⟨rfl, hg, hSm, hS1, rfl⟩ R hR
    unfold F_spec_l1Text.L3t
    have o2 := hS1.get o1 (Own.lt o1)
    refine bcase_dec (fun hlt => ?_) (fun hge => ?_)
    · have hg' : g < t.ps.length := by omega
      obtain ⟨i, o, a2, c2, e2, rfl, hr, hk⟩ := SRep.get (hrow.same' hSm) hvl (fun k w x h1 h2 => (hp k w x h1 h2).same hSm) hg'
      simp only [xSome_some, Int.toNat_natCast, hr, xRow_some, xCons_cons, xNil_nil, xInt_some, xSl_some, letH_def]
      rw [store2]
      simp only [xHeap_some]
      rw [rowL2]
      simp only [xRow_some, xCons_cons, xNil_nil, xInt_some, xSl_some]
      rw [wrap_nat (by omega), show (((g + 1 : Nat) : Int)) = (g : Int) + 1 by omega, sub_mark' (by omega)]
      have hm := List.getElem_mem hg'
      have h1 := Ty.size_part hm
      have h2 := Ty.len_part hm
      have hmt := midsL_take t.ps 0 g hg'
      have hml : (midsL 0 (t.ps.take (g + 1))).length ≤ (midsL 0 t.ps).length := midsL_len _ _ _
      have hmtl := congrArg List.length hmt
      simp only [List.length_append, List.length_cons, Nat.zero_add] at hmtl
      have s2 : Same h'.length h' (h' ++ [.cells t_spec_l1Node [.int .u8 (t.ps[g].hd : Int), .slice a2 t.ps[g].ps.length c2 e2] false]) := same_last
      refine ⟨by omega, ⟨by omega, by omega, by simp; omega⟩, by simp; omega, (l1Text_ok N (by omega) (by omega) (Ty.ok_ps hok _ hm) (hk.same s2)).mono ?_⟩
      rintro x h3 ⟨rfl, s3⟩
      simp only [xStr_some]
      refine ⟨by simp; omega, ?_⟩
      exact hR (g + 1) _ _ _ (by omega) ⟨by omega, by omega, (hSm.cat s2).cat s3, (hS1.cat s2).cat s3, by rw [hmt, Nat.zero_add]; simp⟩
    · apply F_spec_l1Text.A3x0i
      have : g = t.ps.length := by omega
      subst this
      simp only [hCell_of o2, Nat.zero_add, List.getElem?_cons_succ, List.getElem?_cons_zero, xSl_some]
      rw [List.take_length]
      refine bcase_dec (fun hpos => ?_) (fun hneg => ?_)
      · have hne : t.ps ≠ [] := fun e => by rw [e] at hpos; simp at hpos
        rw [if_neg hne] at htx hln
        refine ⟨by simp; simp at hln; omega, ?_⟩
        apply F_spec_l1Text.J9i
        exact ⟨by rw [htx], hSm⟩
      · have hne : t.ps = [] := List.eq_nil_of_length_eq_zero (by omega)
        rw [if_pos hne, List.append_nil] at htx
        apply F_spec_l1Text.J9i
        exact ⟨by rw [htx], hSm⟩
end Go.Sim

set_option linter.unusedVariables false
namespace Go.Sim
open Go Go.RowKit Go.Maps Go.Sort Go.Shelf Go.Proofs
theorem sorts_in (m : Nat) : AnyZ.SortsIn Tryz.prog Tryz.sorted166_ren Fence.wide m :=
  ⟨fun blk off cap ss W hH hblk hsz => callsIn_wide.2 (Tryz.slices_Sort_string blk off cap ss W hH hblk hsz), fun p cap W => callsIn_wide.2 (Tryz.slices_Sort_string_none p cap W)⟩
theorem lib_keys {h : AHeap} {m : Option Nat} : SCall pg n_maps_Keys_map_string_string_string_string [.map m] h fun v h' => v = .fn n_maps_Keys_map_string_string_string_string_lit1 [.ptr (some (h.length, 0))] ∧ h' = h ++ [.cells t_map_string_string [.map m] false] :=
  SCall.keys ⟨_, Tryz.func167, by kernel_rfl, by kernel_rfl⟩ (fun mb W => callsIn_wide.1 (AnyZ.keys_in Tryz.keys167 Fence.wide 5 trivial rfl mb W))
set_option maxHeartbeats 1000000 in
theorem lib_sortedKeys {h : AHeap} {i m : Nat} {es : List ME} {clk : Nat} (hi : h[i]? = some (.cells t_map_string_string [.map (some m)] false)) (hm : h[m]? = some (.map es clk)) {vs : List Nat} (hks : es.map (·.1) = vs.map fun v => .str [v]) (nd : vs.Nodup) (born : (es.map (·.2.2)).Nodup) (lt : ∀ e ∈ es, e.2.2 < clk) (hl : es.length ≤ 1048576) :
    SCall pg n_slices_Sorted_string [.fn n_maps_Keys_map_string_string_string_string_lit1 [.ptr (some (i, 0))]] h fun v h' => ∃ us : List Nat, us.Perm vs ∧ us.Pairwise (· ≤ ·) ∧ ((us = [] ∧ v = .slice none 0 0 true ∧ h' = h) ∨ (∃ c, v = .slice (some (h.length, 0)) us.length c false ∧ us.length ≤ c ∧ h' = h ++ [.cells t_string (us.map fun v => .str [v]) false])) :=
  SCall.sortedKeys (M := t_map_string_string) (K := t_string) Tryz.underlying9 (by kernel_rfl) ⟨_, Tryz.func166, by kernel_rfl, by kernel_rfl⟩
    (fun Bm b nn D0 R w hown hBm hcell hmax hbytes => callsIn_wide.1 (by
      have hseq : SeqGives Fence.wide 2 Tryz.prog 181 #[.pointer (some ⟨Bm, 0, none⟩)] encStr (fun ss => ss.Perm (strKeys D0)) (Maps.size D0) w :=
        AnyZ.keys_gives (ρ := Tryz.keys167_ren) { Tryz.keys167 with } Fence.wide _ trivial rfl (by omega) Bm b nn D0 w hBm hcell hown
      exact AnyZ.sorted_in Tryz.sorted166 Fence.wide 5 trivial trivial trivial trivial rfl (by omega) (sorts_in _) (enters_of Tryz.func180 (by kernel_rfl) rfl) 181 #[.pointer (some ⟨Bm, 0, none⟩)] trivial (enters_of Tryz.func181 (by kernel_rfl) rfl) _ _ hmax hbytes _ hseq))
    hi hm hks nd born lt hl
end Go.Sim

/- Matching a pattern with a type: plain Lean. -/
set_option linter.unusedSimpArgs false
set_option linter.unusedVariables false
namespace Go.Sim

/-- What variables stand for, in the order in which it was noted. -/
abbrev Bd := List (Nat × Ty)
def bget : Bd → Nat → Option Ty
  | [], _ => none
  | (v, t) :: m, x => if v = x then some t else bget m x
def bnote (m : Bd) (v : Nat) (t : Ty) : Option Bd := match bget m v with | some t' => if t' = t then some m else none | none => some (m ++ [(v, t)])
def matchT : Bd → Ty → Ty → Option Bd
  | m, .k c, t => if isVarN c then bnote m c t else if c = t.hd then some m else none
  | m, .u c a, t => if c = t.hd then (match t.ps with | [x] => matchT m a x | _ => none) else none
  | m, .w c a b, t => if c = t.hd then (match t.ps with | [x, y] => (match matchT m a x with | some m1 => matchT m1 b y | none => none) | _ => none) else none
def matchL : Bd → List Ty → List Ty → Option Bd
  | m, [], _ => some m
  | m, a :: xs, [] => none
  | m, a :: xs, t :: ys => match matchT m a t with | some m1 => matchL m1 xs ys | none => none
theorem ok_hd_var {a : Ty} (h : a.ok = true) (hv : isVarN a.hd = true) : a = .k a.hd := by
  cases a with
  | k c => rfl
  | u c a => simp only [Ty.ok, Bool.and_eq_true, Bool.or_eq_true, beq_iff_eq] at h; rcases h.1 with rfl | rfl <;> simp [Ty.hd, isVarN] at hv
  | w c a b => simp only [Ty.ok, Bool.and_eq_true, beq_iff_eq] at h; rcases h.1.1 with rfl; simp [Ty.hd, isVarN] at hv
theorem ok_len {a t : Ty} (ha : a.ok = true) (ht : t.ok = true) (h : a.hd = t.hd) : a.ps.length = t.ps.length := by
  have h1 := Ty.ok_ar ha; have h2 := Ty.ok_ar ht
  rw [h, h2] at h1; omega
/-- One step of the matching. -/
theorem matchT_eq {m : Bd} {a t : Ty} (ha : a.ok = true) (ht : t.ok = true) :
    matchT m a t = if isVarN a.hd then bnote m a.hd t else if a.hd = t.hd then matchL m a.ps t.ps else none := by
  cases a with
  | k c =>
    show matchT m (.k c) t = if isVarN c then bnote m c t else if c = t.hd then matchL m [] t.ps else none
    rw [matchT, matchL]
  | u c a =>
    have hnv : isVarN c = false := by
      cases h : isVarN c with
      | false => rfl
      | true => have := ok_hd_var ha h; cases this
    show matchT m (.u c a) t = if isVarN c then bnote m c t else if c = t.hd then matchL m [a] t.ps else none
    rw [matchT, hnv, if_neg (show ¬ (false = true) by decide)]
    by_cases h : c = t.hd
    · have hl : 1 = t.ps.length := ok_len ha ht h
      rw [if_pos h, if_pos h]
      match t.ps, hl with
      | [x], _ => simp only [matchL]; cases matchT m a x <;> rfl
    · rw [if_neg h, if_neg h]
  | w c a b =>
    have hnv : isVarN c = false := by
      cases h : isVarN c with
      | false => rfl
      | true => have := ok_hd_var ha h; cases this
    show matchT m (.w c a b) t = if isVarN c then bnote m c t else if c = t.hd then matchL m [a, b] t.ps else none
    rw [matchT, hnv, if_neg (show ¬ (false = true) by decide)]
    by_cases h : c = t.hd
    · have hl : 2 = t.ps.length := ok_len ha ht h
      rw [if_pos h, if_pos h]
      match t.ps, hl with
      | [x, y], _ =>
        simp only [matchL]
        cases matchT m a x with
        | none => rfl
        | some m1 => simp only []; cases matchT m1 b y <;> rfl
    · rw [if_neg h, if_neg h]
theorem matchL_take : ∀ (xs ys : List Ty) (m : Bd) (g : Nat) (h1 : g < xs.length) (h2 : g < ys.length), matchL m (xs.take (g + 1)) (ys.take (g + 1)) = match matchL m (xs.take g) (ys.take g) with | some m1 => matchT m1 xs[g] ys[g] | none => none
  | a :: xs, t :: ys, m, 0, _, _ => by
    simp only [List.take_succ_cons, List.take_zero, matchL, List.getElem_cons_zero]
    cases matchT m a t <;> rfl
  | a :: xs, t :: ys, m, g + 1, h1, h2 => by
    simp only [List.length_cons, Nat.add_lt_add_iff_right] at h1 h2
    simp only [List.take_succ_cons, matchL, List.getElem_cons_succ]
    cases hm : matchT m a t with
    | none => rfl
    | some m1 =>
      have := matchL_take xs ys m1 g h1 h2
      simpa only [List.take_succ_cons] using this
theorem matchL_none : ∀ (xs ys : List Ty) (m : Bd) (g : Nat), xs.length = ys.length → matchL m (xs.take g) (ys.take g) = none → matchL m xs ys = none
  | [], _, m, g, _, h => by simp [matchL] at h
  | a :: xs, [], m, g, hl, h => by simp at hl
  | a :: xs, t :: ys, m, 0, _, h => by simp [matchL] at h
  | a :: xs, t :: ys, m, g + 1, hl, h => by
    simp only [List.take_succ_cons, matchL] at h ⊢
    cases hm : matchT m a t with
    | none => rfl
    | some m1 =>
      rw [hm] at h
      exact matchL_none xs ys m1 g (by simpa using hl) h

/-- What is kept of the bindings. -/
structure BOk (n : Nat) (m : Bd) : Prop where
  var : ∀ p ∈ m, isVarN p.1 = true ∧ p.2.ok = true ∧ p.2.txt.length ≤ n
  nd : (m.map (·.1)).Nodup
theorem bget_mem : ∀ {m : Bd} {v : Nat} {t : Ty}, bget m v = some t → (v, t) ∈ m
  | (w, u) :: m, v, t, h => by
    simp only [bget] at h
    split at h
    · rename_i e; cases h; subst e; simp
    · exact List.mem_cons_of_mem _ (bget_mem h)
theorem bget_none : ∀ {m : Bd} {v : Nat}, bget m v = none ↔ v ∉ m.map (·.1)
  | [], v => by simp [bget]
  | (w, u) :: m, v => by
    simp only [bget]
    by_cases e : w = v
    · simp [e]
    · simp only [e, if_false, bget_none (m := m), List.map_cons, List.mem_cons, not_or]
      exact ⟨fun h => ⟨fun e' => e e'.symm, h⟩, fun h => h.2⟩
theorem bget_isSome {m : Bd} {v : Nat} : (bget m v).isSome = true ↔ v ∈ m.map (·.1) := by
  cases h : bget m v with
  | none => simp [bget_none.1 h]
  | some t => simp only [Option.isSome_some, true_iff]; exact List.mem_map.2 ⟨_, bget_mem h, rfl⟩
theorem bget_app {m : Bd} {v x : Nat} {t : Ty} : bget (m ++ [(v, t)]) x = match bget m x with | some u => some u | none => if v = x then some t else none := by
  induction m with
  | nil => simp [bget]
  | cons p m ih =>
    obtain ⟨w, u⟩ := p
    simp only [List.cons_append, bget, ih]
    split <;> rfl
theorem BOk.nil {n : Nat} : BOk n [] := ⟨by simp, by simp⟩
theorem BOk.note {n : Nat} {m m' : Bd} {v : Nat} {t : Ty} (b : BOk n m) (hv : isVarN v = true) (ht : t.ok = true) (hn : t.txt.length ≤ n) (h : bnote m v t = some m') : BOk n m' := by
  unfold bnote at h
  split at h
  · split at h
    · cases h; exact b
    · cases h
  · rename_i hg
    cases h
    refine ⟨?_, ?_⟩
    · intro p hp
      rcases List.mem_append.1 hp with hp | hp
      · exact b.var p hp
      · simp at hp; subst hp; exact ⟨hv, ht, hn⟩
    · rw [List.map_append, List.nodup_append]
      refine ⟨b.nd, by simp, ?_⟩
      intro x hx y hy e
      simp at hy; subst hy; subst e
      exact bget_none.1 hg hx
theorem txt_part {t x : Ty} (h : x ∈ t.ps) : x.txt.length ≤ t.txt.length := by
  cases t with
  | k c => simp [Ty.ps] at h
  | u c a => simp [Ty.ps] at h; subst h; simp [Ty.txt]; omega
  | w c a b => simp [Ty.ps] at h; rcases h with rfl | rfl <;> simp [Ty.txt] <;> omega
theorem BOk.matchT {n : Nat} : ∀ {a t : Ty} {m m' : Bd}, a.ok = true → t.ok = true → t.txt.length ≤ n → BOk n m → Go.Sim.matchT m a t = some m' → BOk n m'
  | .k c, t, m, m', ha, ht, hn, b, h => by
    simp only [Go.Sim.matchT] at h
    split at h
    · rename_i hv; exact b.note hv ht hn h
    · split at h
      · cases h; exact b
      · cases h
  | .u c a, t, m, m', ha, ht, hn, b, h => by
    simp only [Ty.ok, Bool.and_eq_true] at ha
    simp only [Go.Sim.matchT] at h
    split at h
    · split at h
      · rename_i x hx
        have hm : x ∈ t.ps := by rw [hx]; simp
        exact BOk.matchT ha.2 (Ty.ok_ps ht x hm) (Nat.le_trans (txt_part hm) hn) b h
      · cases h
    · cases h
  | .w c a a2, t, m, m', ha, ht, hn, b, h => by
    simp only [Ty.ok, Bool.and_eq_true] at ha
    simp only [Go.Sim.matchT] at h
    split at h
    · split at h
      · rename_i x y hx
        have hm : x ∈ t.ps := by rw [hx]; simp
        have hm2 : y ∈ t.ps := by rw [hx]; simp
        split at h
        · rename_i m1 h1
          exact BOk.matchT ha.2 (Ty.ok_ps ht y hm2) (Nat.le_trans (txt_part hm2) hn) (BOk.matchT ha.1.2 (Ty.ok_ps ht x hm) (Nat.le_trans (txt_part hm) hn) b h1) h
        · cases h
      · cases h
    · cases h
theorem BOk.matchL {n : Nat} : ∀ {xs ys : List Ty} {m m' : Bd}, (∀ a ∈ xs, a.ok = true) → (∀ t ∈ ys, t.ok = true ∧ t.txt.length ≤ n) → BOk n m → Go.Sim.matchL m xs ys = some m' → BOk n m'
  | [], _, m, m', _, _, b, h => by simp [Go.Sim.matchL] at h; subst h; exact b
  | a :: xs, [], m, m', _, _, b, h => by simp [Go.Sim.matchL] at h
  | a :: xs, t :: ys, m, m', ha, ht, b, h => by
    simp only [Go.Sim.matchL] at h
    split at h
    · rename_i m1 h1
      exact BOk.matchL (fun a h => ha a (by simp [h])) (fun t h => ht t (by simp [h])) (BOk.matchT (ha a (by simp)) (ht t (by simp)).1 (ht t (by simp)).2 b h1) h
    · cases h
/-- The bindings in order, xs texts. -/
def bdL (m : Bd) : List Nd := varsN.filterMap fun v => (bget m v).map fun t => ([v], t.txt)
/-- What matching two texts gives. -/
noncomputable def matchS (p s : List Nat) : Option Bd := match ofTxt p, ofTxt s with | some a, some b => matchT [] a b | _, _ => none
noncomputable def instS (p s : List Nat) : Bool := (matchS p s).isSome
noncomputable def matchR (p s : List Nat) : List Nd := match matchS p s with | some m => bdL m | none => []
theorem matchS_ok {p s : List Nat} {m : Bd} (h : matchS p s = some m) : BOk 60 m := by
  unfold matchS at h
  split at h
  · rename_i a b ha hb
    obtain ⟨h1, _, _⟩ := ofTxt_some.1 ha
    obtain ⟨h2, h3, h4⟩ := ofTxt_some.1 hb
    exact BOk.matchT h1 h2 (by rw [← h3]; exact h4) BOk.nil h
  · cases h
theorem varsN_nodup : varsN.Nodup := by decide
theorem varsN_sorted : varsN.Pairwise (· < ·) := by decide
theorem bdL_eq (m : Bd) : bdL m = (varsN.filter fun v => (bget m v).isSome).map fun v => ([v], ((bget m v).getD default).txt) := by
  unfold bdL
  induction varsN with
  | nil => rfl
  | cons v l ih =>
    simp only [List.filterMap_cons, List.filter_cons]
    cases h : bget m v with
    | none => simpa [h] using ih
    | some t => simp [h, ih]
/-- The keys, sorted, are the variables that are bound. -/
theorem sorted_keys {n : Nat} {m : Bd} (b : BOk n m) {ks : List Nat} (hp : ks.Perm (m.map (·.1))) (hs : ks.Pairwise (· ≤ ·)) : ks = varsN.filter fun v => (bget m v).isSome := by
  have hnd : ks.Nodup := hp.nodup_iff.2 b.nd
  have h1 : ks.Pairwise (· < ·) := by
    have := List.pairwise_and_iff.2 ⟨hs, hnd⟩
    exact this.imp fun h => by have := h.1; have := h.2; omega
  have h2 : (varsN.filter fun v => (bget m v).isSome).Pairwise (· < ·) := varsN_sorted.filter _
  have hp2 : ks.Perm (varsN.filter fun v => (bget m v).isSome) := by
    rw [List.perm_ext_iff_of_nodup hnd (varsN_nodup.filter _)]
    intro v
    rw [hp.mem_iff, List.mem_filter, bget_isSome]
    constructor
    · intro hv
      obtain ⟨p, hp, rfl⟩ := List.mem_map.1 hv
      exact ⟨(varsN_var _).2 (b.var p hp).1, hv⟩
    · exact fun h => h.2
  exact hp2.eq_of_pairwise (fun a b _ _ h1 h2 => by omega) h1 h2
theorem find_first {α : Type} {f : α → Bool} {l : List α} {g : Nat} (hg : g < l.length) (h : (l.take g).find? f = none) (k : f l[g] = true) : l.find? f = some l[g] := by
  have h1 : l = l.take g ++ l[g] :: l.drop (g + 1) := by rw [← List.drop_eq_getElem_cons hg, List.take_append_drop]
  conv => lhs; rw [h1]
  rw [List.find?_append, h, List.find?_cons, k]; rfl
theorem find_first_succ {α : Type} {f : α → Bool} {l : List α} {g : Nat} (hg : g < l.length) (h : (l.take g).find? f = none) (k : f l[g] = false) : (l.take (g + 1)).find? f = none := by
  rw [List.take_succ_eq_append_getElem hg, List.find?_append, h]; simp [k]
end Go.Sim
