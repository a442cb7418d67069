/- A part of the proof of a statement of this seat: see the text that holds the theorem. No condition. -/
import Derived.Test.YtcdpjjhnhiaapaaPTCSup
import Derived.Test.YtcdpjjhnhiaapaaPSup
import Derived.Test.YtcdpjjhnhiaapaaPTCAll
import Derived.Test.YtcdpjjhnhiaapaaPTCWLaw3
set_option linter.unusedVariables false
set_option linter.unusedSimpArgs false
set_option linter.all false
set_option linter.unusedVariables false
set_option linter.unusedSimpArgs false
set_option maxRecDepth 20000
namespace Go.Sim
open Go Go.RowKit

theorem hasClass_ok {h : AHeap} {a0 a1 : Pt} {n0 c0 n1 c1 : Nat} {e0 e1 : Bool} {w : Wd} {s : List Nat} (r : WRep h a0 n0 c0 a1 n1 c1 w) (b : WB w) :
    SCall pg n_impl_HasClass [.agg [.slice a0 n0 c0 e0, .slice a1 n1 c1 e1], .str s] h fun v h' => v = .bool (worldOk w && knownC w.cs s) ∧ Same h.length h h' := by
  have hl0 := r.len0
  have hlc := b.lc
  apply F_impl_HasClass.call
  simp only [letH_def]
  generalize hh0 : h ++ [AObj.cells t_impl_World [.slice a0 n0 c0 e0, .slice a1 n1 c1 e1] false] = h0
  have s0 : Same h.length h h0 := by rw [← hh0]; exact same_last
  have w0 : h0[h.length]? = some (wObj a0 n0 c0 e0 a1 n1 c1 e1) := by rw [← hh0]; simp [wObj]
  rw [wRow w0]
  simp only [xRow_some, xCons_cons, xNil_nil, xSl_some]
  refine (worldValid_ok (r.same s0) b).mono ?_
  rintro v h2 ⟨rfl, s2⟩
  have w2 := s2.get w0 (Own.lt w0)
  simp only [xBool_some]
  refine bcase_intro (fun b1 => ?_) (fun b1 => ⟨by rw [b1]; rfl, s0.cat s2⟩)
  simp only [wCell w2, Nat.zero_add, List.getElem?_cons_zero, xSl_some]
  refine (known_ok (r.cls.same' (s0.cat s2)) (by omega)).mono ?_
  rintro v h3 ⟨rfl, s3⟩
  simp only [xBool_some]
  exact ⟨by rw [b1]; rfl, (s0.cat s2).cat s3⟩
theorem sHasClass_ok {h : AHeap} {a0 a1 : Pt} {n0 c0 n1 c1 : Nat} {e0 e1 : Bool} {w : Wd} {s : List Nat} (r : WRep h a0 n0 c0 a1 n1 c1 w) (b : WB w) :
    SCall pg n_spec_HasClass [.agg [.slice a0 n0 c0 e0, .slice a1 n1 c1 e1], .str s] h fun v h' => v = .bool (worldOk w && knownC w.cs s) ∧ Same h.length h h' := by
  have hl0 := r.len0
  have hlc := b.lc
  apply F_spec_HasClass.call
  simp only [letH_def]
  generalize hh0 : h ++ [AObj.cells t_impl_World [.slice a0 n0 c0 e0, .slice a1 n1 c1 e1] false] = h0
  have s0 : Same h.length h h0 := by rw [← hh0]; exact same_last
  have w0 : h0[h.length]? = some (wObj a0 n0 c0 e0 a1 n1 c1 e1) := by rw [← hh0]; simp [wObj]
  rw [wRow w0]
  simp only [xRow_some, xCons_cons, xNil_nil, xSl_some]
  refine (sWorldValid_ok (r.same s0) b).mono ?_
  rintro v h2 ⟨rfl, s2⟩
  have w2 := s2.get w0 (Own.lt w0)
  simp only [xBool_some]
  refine bcase_intro (fun b1 => ?_) (fun b1 => ⟨by rw [b1]; rfl, s0.cat s2⟩)
  rw [wRow w2]
  simp only [xRow_some, xCons_cons, xNil_nil, xSl_some]
  refine (l3Class_ok (r.cls.same' (s0.cat s2)) (by omega)).mono ?_
  rintro v h3 ⟨rfl, s3⟩
  simp only [xInt_some, clsIx_pos]
  exact ⟨by rw [b1]; rfl, (s0.cat s2).cat s3⟩
/-- What SupersOf answers. -/
noncomputable def supsW (w : Wd) (s : List Nat) : List Nat := if worldOk w && knownC w.cs s then supN w.cs (s.headD 0) else []
theorem worldOk_cls {w : Wd} (h : worldOk w = true) : clsOk w.cs = true := by
  unfold worldOk at h; simp only [Bool.and_eq_true] at h; exact h.1.1
theorem known_at {cs : List Nd} (h : clsOk cs = true) {s : List Nat} (k : knownC cs s = true) : ∃ i, ∃ hi : i < cs.length, ∃ a, s = [a] ∧ cs[i].1 = [a] := by
  unfold knownC at k
  rw [List.any_eq_true] at k
  obtain ⟨x, hx, he⟩ := k
  obtain ⟨i, hi, rfl⟩ := List.mem_iff_getElem.1 hx
  obtain ⟨d, hd, _⟩ := cls_name h hi
  exact ⟨i, hi, d, by rw [← hd]; exact (by simpa using he : cs[i].1 = s).symm, hd⟩
/-- The classes' letters. -/
def ltrs (cs : List Nd) : List Nat := cs.map fun p => p.1.headD 0
theorem ltrs_sorted {cs : List Nd} (h : clsOk cs = true) : (ltrs cs).Pairwise (· < ·) := by
  rw [List.pairwise_iff_getElem]
  intro i j hi hj hij
  simp only [ltrs, List.length_map] at hi hj
  obtain ⟨a, ha, _⟩ := cls_name h hi
  obtain ⟨b, hb, _⟩ := cls_name h hj
  simp only [ltrs, List.getElem_map, ha, hb, List.headD_cons]
  obtain ⟨k, rfl⟩ : ∃ k, j = i + k + 1 := ⟨j - i - 1, by omega⟩
  exact cls_less h k i hj ha hb
theorem ltrs_sup {cs : List Nd} (h : clsOk cs = true) {i a : Nat} (hi : i < cs.length) (ha : cs[i].1 = [a]) {ab : List Nat} (hab : ∀ d, d ∈ ab ↔ Rch cs a d) : (ltrs cs).filter (fun d => decide (d ∈ ab)) = supN cs a := by
  refine sorted_eq ((ltrs_sorted h).filter _) (supN_sorted cs a) fun x => ?_
  rw [mem_supN h hi ha, List.mem_filter]
  constructor
  · rintro ⟨_, h2⟩; exact (hab x).1 (by simpa using h2)
  · intro r
    obtain ⟨j, hj, hd⟩ := r.ix h hi ha
    refine ⟨?_, by simpa using (hab x).2 r⟩
    unfold ltrs
    rw [List.mem_map]
    exact ⟨cs[j], List.getElem_mem (by omega), by rw [hd]; rfl⟩
theorem supersOf_ok {h : AHeap} {a0 a1 : Pt} {n0 c0 n1 c1 : Nat} {e0 e1 : Bool} {w : Wd} {s : List Nat} (r : WRep h a0 n0 c0 a1 n1 c1 w) (b : WB w) :
    SCall pg n_impl_SupersOf [.agg [.slice a0 n0 c0 e0, .slice a1 n1 c1 e1], .str s] h fun v h' => v = .str (supsW w s) ∧ Same h.length h h' := by
  have hl0 := r.len0
  have hlc := b.lc
  apply F_impl_SupersOf.call
  simp only [letH_def]
  generalize hh0 : h ++ [AObj.cells t_impl_World [.slice a0 n0 c0 e0, .slice a1 n1 c1 e1] false] = h0
  have s0 : Same h.length h h0 := by rw [← hh0]; exact same_last
  have w0 : h0[h.length]? = some (wObj a0 n0 c0 e0 a1 n1 c1 e1) := by rw [← hh0]; simp [wObj]
  rw [wRow w0]
  simp only [xRow_some, xCons_cons, xNil_nil, xSl_some]
  refine (hasClass_ok (r.same s0) b).mono ?_
  rintro v h2 ⟨rfl, s2⟩
  have S2 := s0.cat s2
  have w2 := s2.get w0 (Own.lt w0)
  simp only [xBool_some]
  refine bcase_not (fun b1 => ⟨by unfold supsW; rw [b1]; rfl, S2⟩) (fun b1 => ?_)
  simp only [Bool.and_eq_true] at b1
  have hc := worldOk_cls b1.1
  obtain ⟨i, hi, a, rfl, ha⟩ := known_at hc b1.2
  have hsw : supsW w [a] = supN w.cs a := by unfold supsW; rw [b1.1, b1.2]; rfl
  rw [hsw]
  simp only [wCell w2, Nat.zero_add, List.getElem?_cons_zero, xSl_some]
  rw [IntWalk.i64_in _ (by omega)]
  refine F_impl_SupersOf.L5ind _ _ _ _ (J := fun (g : Nat) x5 x6 h' => x6 = (g : Int) - 1 ∧ g ≤ n0 ∧ Same h2.length h2 h' ∧ DownI w.cs a g x5 ∧ x5.length ≤ (n0 - g) * 1048576) (fun g => g) ?_ n0 _ _ _ ⟨rfl, by omega, Same.refl _ _, by rw [← hl0]; exact DownI.start, by simp⟩
  rintro g x5 x6 h' ⟨rfl, hg, hS, hD, hlen⟩ R hR
  have w3 := hS.get w2 (Own.lt w2)
  have S3 := S2.cat hS
  unfold F_impl_SupersOf.L5t
  refine bcase_dec (fun hge => ?_) (fun hlt => ?_)
  · obtain ⟨g, rfl⟩ : ∃ q, g = q + 1 := ⟨g - 1, by omega⟩
    have e1 : (((g + 1 : Nat) : Int) - 1) = (g : Int) := by omega
    rw [e1]
    obtain ⟨i', o', hgl, rfl, _, hr, _⟩ := (r.cls.same' S3).pr (k := g) (by omega)
    simp only [Nat.zero_add, wCell w3, List.getElem?_cons_zero, xSl_some, xSome_some, Int.toNat_natCast, hr, xRow_some, xCons_cons, xNil_nil, xStr_some, letH_def]
    rw [store2]
    simp only [xHeap_some]
    generalize hq : h' ++ [AObj.cells t_impl_Class [.str w.cs[g].1, .str w.cs[g].2] false] = hq'
    have sq : Same h'.length h' hq' := by rw [← hq]; exact same_last
    have iq : hq'[h'.length]? = some (.cells t_impl_Class [.str w.cs[g].1, .str w.cs[g].2] false) := by rw [← hq]; simp
    simp only [hCell_of iq, List.getElem?_cons_zero, List.getElem?_cons_succ, xStr_some]
    have hbl := (b.cs _ (List.getElem_mem hgl)).2.1
    have hmul : (n0 - (g + 1)) * 1048576 + 1048576 = (n0 - g) * 1048576 := by rw [show n0 - g = (n0 - (g + 1)) + 1 by omega, Nat.succ_mul]
    have hcap : (n0 - g) * 1048576 ≤ 1048576 * 1048576 := Nat.mul_le_mul_right _ (by omega)
    obtain ⟨d, hd, _⟩ := cls_name hc hgl
    have fin : ∀ hx y, Same hq'.length hq' hx → DownI w.cs a g y → y.length ≤ (n0 - g) * 1048576 → F_impl_SupersOf.J6 (fun v h' => v = .str (supN w.cs a) ∧ Same h.length h h') R (g : Int) h.length 0 [a] y hx := fun hx y sx hy hyl => by
      apply F_impl_SupersOf.J6i
      rw [IntWalk.i64_in _ (by omega)]
      exact hR g _ _ _ (by omega) ⟨rfl, by omega, (hS.cat sq).cat sx, hy, hyl⟩
    refine ⟨by omega, bcase_dec (fun he => ?_) (fun he => ?_)⟩
    · refine ⟨by omega, fin _ _ (Same.refl _ _) (hD.step hc hgl (.inl he)) (by rw [List.length_append]; omega)⟩
    · rw [hd]
      refine lib_contains.mono ?_
      rintro v h5 ⟨rfl, rfl⟩
      simp only [xBool_some]
      refine bcase_dec (fun hm => ?_) (fun hm => ?_)
      · simp only [hCell_of iq, List.getElem?_cons_zero, List.getElem?_cons_succ, xStr_some]
        refine ⟨by omega, fin _ _ (Same.refl _ _) (hD.step hc hgl (.inr ⟨d, hd, hm⟩)) (by rw [List.length_append]; omega)⟩
      · refine fin _ _ (Same.refl _ _) (hD.skip fun _ hx => ?_) (Nat.le_trans hlen (by rw [← hmul]; exact Nat.le_add_right _ _))
        rcases hx with hx | ⟨e, hx, hme⟩
        · exact he hx
        · rw [hd] at hx; cases hx; exact hm hme
  · apply F_impl_SupersOf.A5x0i
    have : g = 0 := by omega
    subst this
    simp only [Nat.zero_add, wCell w3, List.getElem?_cons_zero, xSl_some]
    have hab := hD.all hc hi ha
    rw [← ltrs_sup hc hi ha hab]
    refine F_impl_SupersOf.L12ind _ _ _ _ _ _ _ (J := fun (q : Nat) x8 x45 h3 => x45 = (q : Int) ∧ q ≤ n0 ∧ Same h'.length h' h3 ∧ x8 = (ltrs (w.cs.take q)).filter fun d => decide (d ∈ x5)) (fun q => n0 - q) ?_ 0 _ _ _ ⟨rfl, by omega, Same.refl _ _, rfl⟩
    rintro q x8 x45 h3 ⟨rfl, hq0, hS3, rfl⟩ R12 hR12
    unfold F_impl_SupersOf.L12t
    have S4 := S3.cat hS3
    refine bcase_dec (fun hlt3 => ?_) (fun hge3 => ?_)
    · obtain ⟨i', o', hql, rfl, _, hr, _⟩ := (r.cls.same' S4).pr (k := q) (by omega)
      simp only [xSome_some, Int.toNat_natCast, hr, xRow_some, xCons_cons, xNil_nil, xStr_some, letH_def]
      rw [store2]
      simp only [xHeap_some]
      generalize hq : h3 ++ [AObj.cells t_impl_Class [.str w.cs[q].1, .str w.cs[q].2] false] = hq'
      have sq : Same h3.length h3 hq' := by rw [← hq]; exact same_last
      have iq : hq'[h3.length]? = some (.cells t_impl_Class [.str w.cs[q].1, .str w.cs[q].2] false) := by rw [← hq]; simp
      simp only [hCell_of iq, Nat.add_zero, Nat.zero_add, List.getElem?_cons_zero, List.getElem?_cons_succ, xStr_some]
      obtain ⟨d, hd, _⟩ := cls_name hc hql
      rw [hd]
      refine ⟨by omega, lib_contains.mono ?_⟩
      rintro v h5 ⟨rfl, rfl⟩
      simp only [xBool_some]
      have htk : ltrs (w.cs.take (q + 1)) = ltrs (w.cs.take q) ++ [d] := by
        unfold ltrs; rw [List.take_succ_eq_append_getElem hql, List.map_append]; simp [hd]
      have hln : ((ltrs (w.cs.take q)).filter fun d => decide (d ∈ x5)).length ≤ 1048576 := by
        refine Nat.le_trans (List.length_filter_le _ _) ?_
        simp [ltrs]; omega
      refine bcase_dec (fun hm => ?_) (fun hm => ?_)
      · simp only [hCell_of iq, Nat.add_zero, Nat.zero_add, List.getElem?_cons_zero, xStr_some, hd]
        refine ⟨by simp only [List.length_cons, List.length_nil]; omega, ?_⟩
        apply F_impl_SupersOf.J16i
        rw [wrap_nat (by omega)]
        exact hR12 (q + 1) _ _ _ (by omega) ⟨rfl, by omega, hS3.cat sq, by rw [htk, List.filter_append]; simp [hm]⟩
      · apply F_impl_SupersOf.J16i
        rw [wrap_nat (by omega)]
        exact hR12 (q + 1) _ _ _ (by omega) ⟨rfl, by omega, hS3.cat sq, by rw [htk, List.filter_append]; simp [hm]⟩
    · apply F_impl_SupersOf.A12x2i
      have : q = n0 := by omega
      subst this
      rw [List.take_of_length_le (by omega)]
      exact ⟨rfl, S4⟩
end Go.Sim

set_option linter.unusedVariables false
set_option linter.unusedSimpArgs false
set_option maxRecDepth 20000
namespace Go.Sim
open Go Go.RowKit

def sortN (s : List Nat) : List Nat := (List.range' 65 20).filter fun d => decide (d ∈ s)
theorem range_snoc (g : Nat) : List.range' 65 (g + 1) = List.range' 65 g ++ [65 + g] := by rw [List.range'_1_concat]
theorem l3Sorted_ok {h : AHeap} (s : List Nat) (hs : s.length ≤ 4611686018427387904) : SCall pg n_spec_l3Sorted [.str s] h fun v h' => v = .str (sortN s) ∧ Same h.length h h' := by
  apply F_spec_l3Sorted.call
  refine F_spec_l3Sorted.L3ind _ _ (J := fun (g : Nat) x3 x4 h' => x4 = 65 + (g : Int) ∧ g ≤ 20 ∧ Same h.length h h' ∧ x3 = (List.range' 65 g).filter fun d => decide (d ∈ s)) (fun g => 20 - g) ?_ 0 _ _ _ ⟨rfl, by omega, Same.refl _ _, rfl⟩
  rintro g x3 x4 h' ⟨rfl, hg, hS, rfl⟩ R hR
  unfold F_spec_l3Sorted.L3t
  have hln : ((List.range' 65 g).filter fun d => decide (d ∈ s)).length ≤ 20 := Nat.le_trans (List.length_filter_le _ _) (by simp; omega)
  refine bcase_dec (fun hlt => ?_) (fun hge => ?_)
  · have hg' : g < 20 := by omega
    have e1 : IntKind.wrap .u8 (65 + (g : Int)) = ((65 + g : Nat) : Int) := by rw [IntWalk.u8_in _ (by omega)]; omega
    have e2 : IntKind.wrap .i32 (65 + (g : Int) + 1) = 65 + ((g + 1 : Nat) : Int) := by rw [IntWalk.i32_in _ (by omega)]; omega
    rw [e1]
    refine (find_ok s (65 + g) (by omega)).mono ?_
    rintro v h2 ⟨rfl, rfl⟩
    simp only [xInt_some]
    have hm := idxN_mem s (65 + g)
    refine bcase_dec (fun hb => ?_) (fun hb => ?_)
    · have hmem : 65 + g ∈ s := hm.1 hb
      simp only [letH_def, rowOf_one, xRow_some, bytesA, chk, decide_true]
      refine ⟨by omega, by simp only [List.length_cons, List.length_nil]; omega, ?_⟩
      apply F_spec_l3Sorted.J4i
      rw [e2]
      refine hR (g + 1) _ _ _ (by omega) ⟨rfl, by omega, hS.trans (Same.app hS.le _), ?_⟩
      rw [range_snoc, List.filter_append, Int.toNat_natCast]; simp [hmem]
    · have hmem : ¬ 65 + g ∈ s := fun hx => hb (hm.2 hx)
      apply F_spec_l3Sorted.J4i
      rw [e2]
      refine hR (g + 1) _ _ _ (by omega) ⟨rfl, by omega, hS, ?_⟩
      rw [range_snoc, List.filter_append]; simp [hmem]
  · apply F_spec_l3Sorted.A3x0i
    have : g = 20 := by omega
    subst this
    exact ⟨rfl, hS⟩
theorem sortN_sorted (s : List Nat) : (sortN s).Pairwise (· < ·) := List.Pairwise.filter _ (by decide)
theorem findIdx_at {cs : List Nd} {s : List Nat} (k : knownC cs s = true) : ∃ hi : (cs.findIdx fun x => decide (x.1 = s)) < cs.length, cs[cs.findIdx fun x => decide (x.1 = s)].1 = s := by
  unfold knownC at k
  have hi : (cs.findIdx fun x => decide (x.1 = s)) < cs.length := List.findIdx_lt_length_of_exists (by rw [List.any_eq_true] at k; exact k)
  exact ⟨hi, by simpa using List.findIdx_getElem (w := hi)⟩
/-- The letters right above a letter. -/
def upL (cs : List Nd) (e : Nat) : List Nat := (cs.getD (cs.findIdx fun x => decide (x.1 = [e])) ([], [])).2
theorem mem_upL {cs : List Nd} (h : clsOk cs = true) {e d : Nat} (k : knownC cs [e] = true) : d ∈ upL cs e ↔ Up cs e d := by
  obtain ⟨hi, he⟩ := findIdx_at k
  unfold upL
  rw [getD_at hi]
  exact ⟨fun hd => ⟨_, hi, he, hd⟩, fun u => u.ix h hi he⟩
theorem rch_known {cs : List Nd} (h : clsOk cs = true) {i a d : Nat} (hi : i < cs.length) (ha : cs[i].1 = [a]) (r : Rch cs a d) : knownC cs [d] = true := by
  obtain ⟨j, hj, hd⟩ := r.ix h hi ha
  unfold knownC
  rw [List.any_eq_true]
  exact ⟨cs[j], List.getElem_mem (by omega), by simpa using hd⟩
theorem sSupersOf_ok {h : AHeap} {a0 a1 : Pt} {n0 c0 n1 c1 : Nat} {e0 e1 : Bool} {w : Wd} {s : List Nat} (r : WRep h a0 n0 c0 a1 n1 c1 w) (b : WB w) :
    SCall pg n_spec_SupersOf [.agg [.slice a0 n0 c0 e0, .slice a1 n1 c1 e1], .str s] h fun v h' => v = .str (supsW w s) ∧ Same h.length h h' := by
  have hl0 := r.len0
  have hlc := b.lc
  apply F_spec_SupersOf.call
  simp only [letH_def]
  generalize hh0 : h ++ [AObj.cells t_impl_World [.slice a0 n0 c0 e0, .slice a1 n1 c1 e1] false] = h0
  have s0 : Same h.length h h0 := by rw [← hh0]; exact same_last
  have w0 : h0[h.length]? = some (wObj a0 n0 c0 e0 a1 n1 c1 e1) := by rw [← hh0]; simp [wObj]
  rw [wRow w0]
  simp only [xRow_some, xCons_cons, xNil_nil, xSl_some]
  refine (sHasClass_ok (r.same s0) b).mono ?_
  rintro v h2 ⟨rfl, s2⟩
  have S2 := s0.cat s2
  have w2 := s2.get w0 (Own.lt w0)
  simp only [xBool_some]
  refine bcase_not (fun b1 => ⟨by unfold supsW; rw [b1]; rfl, S2⟩) (fun b1 => ?_)
  simp only [Bool.and_eq_true] at b1
  have hc := worldOk_cls b1.1
  obtain ⟨i, hi, a, rfl, ha⟩ := known_at hc b1.2
  have hsw : supsW w [a] = supN w.cs a := by unfold supsW; rw [b1.1, b1.2]; rfl
  rw [hsw]
  obtain ⟨hfi, hfa⟩ := findIdx_at b1.2
  have hia := cls_inj hc hi hfi ha hfa
  have hix : clsIx w.cs [a] = (i : Int) := by unfold clsIx; rw [b1.2, if_pos rfl, ← hia]
  have hn4 : n0 ≤ 4 := by
    have h1 := hc
    unfold clsOk at h1
    simp only [Bool.and_eq_true, decide_eq_true_eq] at h1
    omega
  rw [wRow w2]
  simp only [wCell w2, Nat.zero_add, List.getElem?_cons_zero, xRow_some, xCons_cons, xNil_nil, xSl_some, true_and]
  refine (l3Class_ok (r.cls.same' S2) (by omega)).mono ?_
  rintro v h3 ⟨rfl, s3⟩
  have S3 := S2.cat s3
  have w3 := s3.get w2 (Own.lt w2)
  rw [hix]
  obtain ⟨i', o', hgl, rfl, _, _, _, hcell⟩ := (r.cls.same' S3).pr (k := i) (by omega)
  simp only [wCell w3, List.getElem?_cons_zero, xInt_some, xSome_some, Int.toNat_natCast, hcell, xStr_some, xSl_some, true_and]
  refine ⟨by omega, ?_⟩
  have hbl := (b.cs _ (List.getElem_mem hi)).2.1
  refine F_spec_SupersOf.L6ind _ _ _ _ _ (J := fun (g : Nat) x6 x24 h' => x24 = (g : Int) ∧ g ≤ n0 ∧ Same h3.length h3 h' ∧ RndI w.cs a i g x6 ∧ x6.length ≤ 1048576 ∧ (g ≠ 0 → x6.Pairwise (· < ·))) (fun g => n0 - g) ?_ 0 _ _ _ ⟨rfl, by omega, Same.refl _ _, RndI.start hc hi ha, hbl, by simp⟩
  rintro g x6 x24 h' ⟨rfl, hg, hS, hR6, hlen, hsrt⟩ R hR
  have S4 := S3.cat hS
  have w4 := hS.get w3 (Own.lt w3)
  unfold F_spec_SupersOf.L6t
  refine bcase_dec (fun hlt => ?_) (fun hge => ?_)
  · refine F_spec_SupersOf.L8ind _ _ _ _ _ _ _ _ (J := fun (q : Nat) y x28 h5 => x28 = (q : Int) ∧ q ≤ x6.length ∧ Same h'.length h' h5 ∧ y = x6 ++ (x6.take q).flatMap (upL w.cs) ∧ y.length ≤ x6.length + q * 1048576) (fun q => x6.length - q) ?_ 0 _ _ _ ⟨rfl, by omega, Same.refl _ _, by simp, by omega⟩
    rintro q y x28 h5 ⟨rfl, hq, hS5, rfl, hyl⟩ R8 hR8
    have S5 := S4.cat hS5
    have w5 := hS5.get w4 (Own.lt w4)
    have hqb : q * 1048576 ≤ 1048576 * 1048576 := Nat.mul_le_mul_right _ (by omega)
    unfold F_spec_SupersOf.L8t
    refine bcase_dec (fun hltq => ?_) (fun hgeq => ?_)
    · have hq' : q < x6.length := by omega
      have hqy : q < (x6 ++ (x6.take q).flatMap (upL w.cs)).length := by rw [List.length_append]; omega
      have hget : (x6 ++ (x6.take q).flatMap (upL w.cs))[q] = x6[q] := List.getElem_append_left hq'
      rw [wrap_nat (by omega), sub_one hqy rfl, hget, wRow w5]
      simp only [Nat.zero_add, wCell w5, List.getElem?_cons_zero, xRow_some, xCons_cons, xNil_nil, xSl_some, true_and]
      refine ⟨⟨by omega, by omega, by omega⟩, (l3Class_ok (r.cls.same' S5) (by omega)).mono ?_⟩
      rintro v h6 ⟨rfl, s6⟩
      have S6 := S5.cat s6
      have w6 := s6.get w5 (Own.lt w5)
      have hmem : x6[q] ∈ x6 := List.getElem_mem hq'
      have hk := rch_known hc hi ha (hR6.sound _ hmem)
      obtain ⟨hfj, hfd⟩ := findIdx_at hk
      generalize hjx : (w.cs.findIdx fun x => decide (x.1 = [x6[q]])) = jx at hfj hfd
      have hcx : clsIx w.cs [x6[q]] = ((jx : Nat) : Int) := by unfold clsIx; rw [hk, if_pos rfl, hjx]
      rw [hcx]
      have hup : upL w.cs x6[q] = (w.cs[jx]).2 := by unfold upL; rw [hjx, getD_at hfj]
      obtain ⟨i2, o2, hgl2, heq, _, _, _, hcell2⟩ := (r.cls.same' S6).pr (k := jx) (by omega)
      cases heq
      simp only [xInt_some, wCell w6, List.getElem?_cons_zero, xSome_some, Int.toNat_natCast, hcell2, xStr_some, true_and]
      have hul := (b.cs _ (List.getElem_mem hgl2)).2.1
      have htk : (x6.take (q + 1)).flatMap (upL w.cs) = (x6.take q).flatMap (upL w.cs) ++ upL w.cs x6[q] := by
        rw [List.take_succ_eq_append_getElem hq', List.flatMap_append]; simp
      refine ⟨by omega, by omega, ?_⟩
      refine hR8 (q + 1) _ _ _ (by omega) ⟨rfl, by omega, hS5.cat s6, ?_, ?_⟩
      · rw [htk, hup, List.append_assoc]
      · rw [List.length_append]
        have : (q + 1) * 1048576 = q * 1048576 + 1048576 := Nat.succ_mul _ _
        omega
    · apply F_spec_SupersOf.A8x2i
      have : q = x6.length := by omega
      subst this
      rw [List.take_length] at hyl ⊢
      refine (l3Sorted_ok _ (by omega)).mono ?_
      rintro v h6 ⟨rfl, s6⟩
      simp only [xStr_some]
      rw [wrap_nat (by omega)]
      have hmm : ∀ d, d ∈ x6 ++ x6.flatMap (upL w.cs) ↔ d ∈ x6 ∨ ∃ e ∈ x6, Up w.cs e d := fun d => by
        rw [List.mem_append, List.mem_flatMap]
        refine or_congr Iff.rfl ⟨fun ⟨e, he, hd⟩ => ⟨e, he, (mem_upL hc (rch_known hc hi ha (hR6.sound _ he))).1 hd⟩, fun ⟨e, he, hd⟩ => ⟨e, he, (mem_upL hc (rch_known hc hi ha (hR6.sound _ he))).2 hd⟩⟩
      refine hR (g + 1) _ _ _ (by omega) ⟨rfl, by omega, (hS.cat hS5).cat s6, hR6.next hc hi ha (fun d hd => ?_) (fun d hd => ?_), ?_, fun _ => sortN_sorted _⟩
      · unfold sortN at hd
        rw [List.mem_filter] at hd
        exact (hmm d).1 (by simpa using hd.2)
      · unfold sortN
        rw [List.mem_filter]
        refine ⟨?_, by simpa using (hmm d).2 hd⟩
        have hrd : Rch w.cs a d := by
          rcases hd with hd | ⟨e, he, u⟩
          · exact hR6.sound d hd
          · exact .more (hR6.sound e he) u
        obtain ⟨j, hj, hjd⟩ := hrd.ix hc hi ha
        obtain ⟨e, he, h1, h2⟩ := cls_name hc (show j < w.cs.length by omega)
        rw [hjd] at he
        cases he
        rw [List.mem_range']
        exact ⟨d - 65, by omega, by omega⟩
      · unfold sortN
        exact Nat.le_trans (List.length_filter_le _ _) (by simp)
  · apply F_spec_SupersOf.A6x0i
    have : g = n0 := by omega
    subst this
    have hfin : x6 = supN w.cs a := sorted_eq (hsrt (by omega)) (supN_sorted _ _) fun d => by rw [hR6.all hc hi ha (by omega) d, mem_supN hc hi ha]
    refine F_spec_SupersOf.L15ind _ _ _ (J := fun (q : Nat) y x51 h5 => x51 = (q : Int) ∧ q ≤ x6.length ∧ h5 = h' ∧ y = x6.take q) (fun q => x6.length - q) ?_ 0 _ _ _ ⟨rfl, by omega, rfl, rfl⟩
    rintro q y x51 h5 ⟨rfl, hq, rfl, rfl⟩ R15 hR15
    unfold F_spec_SupersOf.L15t
    refine bcase_dec (fun hlt => ?_) (fun hge => ?_)
    · have hq' : q < x6.length := by omega
      rw [wrap_nat (by omega), sub_one hq' rfl]
      refine ⟨⟨by omega, by omega, by omega⟩, by simp; omega, hR15 (q + 1) _ _ _ (by omega) ⟨rfl, by omega, rfl, ?_⟩⟩
      rw [List.take_succ_eq_append_getElem hq']
    · apply F_spec_SupersOf.A15x4i
      have : q = x6.length := by omega
      subst this
      rw [List.take_length]
      exact ⟨by rw [hfin], S4⟩
end Go.Sim

set_option linter.unusedVariables false
set_option linter.unusedSimpArgs false
set_option maxRecDepth 20000
namespace Go.Sim
open Go Go.RowKit

theorem pair_eq (x y : Nd) : (decide (x.1 = y.1) && decide (x.2 = y.2)) = decide (x = y) := by
  rw [Bool.eq_iff_iff]; simp [Prod.ext_iff]
theorem index_need {h : AHeap} {a : Pt} {n c : Nat} {e : Bool} {l : List Nd} {x : Nd} (r : Row h.length h a (n * 2) (flat eP l)) (hn : n ≤ 1048576) :
    SCall pg n_slices_Index_L_impl_Need_impl_Need [.slice a n c e, .agg [.str x.1, .str x.2]] h fun v h' => (∃ z : Int, v = .int .i64 z ∧ decide (z ≥ 0) = decide (x ∈ l)) ∧ Same h.length h h' := by
  have hl : l.length = n := by have := r.1; rw [flat_length eP_len] at this; omega
  apply F_slices_Index_L_impl_Need_impl_Need.call
  simp only [letH_def]
  generalize hh0 : h ++ [AObj.cells t_impl_Need [.str x.1, .str x.2] false] = h0
  have s0 : Same h.length h h0 := by rw [← hh0]; exact same_last
  have x0 : h0[h.length]? = some (.cells t_impl_Need [.str x.1, .str x.2] false) := by rw [← hh0]; simp
  refine F_slices_Index_L_impl_Need_impl_Need.L2ind _ _ _ _ _ _ _ _ (J := fun (g : Nat) x8 h' => x8 = (g : Int) ∧ g ≤ n ∧ h' = h0 ∧ x ∉ l.take g) (fun g => n - g) ?_ 0 _ _ ⟨rfl, by omega, rfl, by simp⟩
  rintro g x8 h' ⟨rfl, hg, rfl, hk⟩ R hR
  unfold F_slices_Index_L_impl_Need_impl_Need.L2t
  refine bcase_dec (fun hlt => ?_) (fun hge => ?_)
  · obtain ⟨i, o, hgl, rfl, _, hr, _⟩ := (r.same s0).pr (k := g) (by omega)
    rw [row_all2 x0]
    simp only [xSome_some, Int.toNat_natCast, hr, xRow_some, xCons_cons, xNil_nil, xStr_some, true_and, pair_eq]
    refine ⟨by omega, bcase_dec (fun he => ?_) (fun he => ?_)⟩
    · refine ⟨⟨_, rfl, ?_⟩, s0⟩
      have : x ∈ l := by rw [he]; exact List.getElem_mem hgl
      simp [this]
    · rw [wrap_nat (by omega)]
      refine hR (g + 1) _ _ (by omega) ⟨rfl, by omega, rfl, ?_⟩
      rw [List.take_succ_eq_append_getElem hgl, List.mem_append]
      rintro (hx | hx)
      · exact hk hx
      · exact he (by simpa using hx)
  · apply F_slices_Index_L_impl_Need_impl_Need.A2x0i
    have : g = n := by omega
    subst this
    rw [List.take_of_length_le (by omega)] at hk
    exact ⟨⟨_, rfl, by simp [hk]⟩, s0⟩
theorem contains_need {h : AHeap} {a : Pt} {n c : Nat} {e : Bool} {l : List Nd} {x : Nd} (r : Row h.length h a (n * 2) (flat eP l)) (hn : n ≤ 1048576) :
    SCall pg n_slices_Contains_L_impl_Need_impl_Need [.slice a n c e, .agg [.str x.1, .str x.2]] h fun v h' => v = .bool (decide (x ∈ l)) ∧ Same h.length h h' := by
  apply F_slices_Contains_L_impl_Need_impl_Need.call
  simp only [letH_def]
  have s0 : Same h.length h (h ++ [.cells t_impl_Need [.str x.1, .str x.2] false]) := same_last
  rw [rowL2]
  simp only [xRow_some, xCons_cons, xNil_nil, xStr_some]
  refine (index_need (x := x) (r.same' s0) hn).mono ?_
  rintro v h2 ⟨⟨z, rfl, hz⟩, s2⟩
  simp only [xInt_some]
  exact ⟨by rw [hz], s0.cat s2⟩
theorem l9In_ok {h : AHeap} {a : Pt} {n c : Nat} {e : Bool} {l : List Nd} {x : Nd} (r : Row h.length h a (n * 2) (flat eP l)) (hn : n ≤ 1048576) :
    SCall pg n_spec_l9In [.slice a n c e, .agg [.str x.1, .str x.2]] h fun v h' => v = .bool (decide (x ∈ l)) ∧ Same h.length h h' := by
  have hl : l.length = n := by have := r.1; rw [flat_length eP_len] at this; omega
  apply F_spec_l9In.call
  simp only [letH_def]
  generalize hh0 : h ++ [AObj.cells t_impl_Need [.str x.1, .str x.2] false] = h0
  have s0 : Same h.length h h0 := by rw [← hh0]; exact same_last
  have x0 : h0[h.length]? = some (.cells t_impl_Need [.str x.1, .str x.2] false) := by rw [← hh0]; simp
  refine F_spec_l9In.L2ind _ _ _ _ _ _ _ _ (J := fun (g : Nat) x8 h' => x8 = (g : Int) ∧ g ≤ n ∧ Same h0.length h0 h' ∧ x ∉ l.take g) (fun g => n - g) ?_ 0 _ _ ⟨rfl, by omega, Same.refl _ _, by simp⟩
  rintro g x8 h' ⟨rfl, hg, hS, hk⟩ R hR
  have SS := s0.cat hS
  unfold F_spec_l9In.L2t
  refine bcase_dec (fun hlt => ?_) (fun hge => ?_)
  · obtain ⟨i, o, hgl, rfl, _, hr, _⟩ := (r.same SS).pr (k := g) (by omega)
    simp only [xSome_some, Int.toNat_natCast, hr, xRow_some, xCons_cons, xNil_nil, xStr_some, letH_def]
    rw [store2]
    generalize hq : h' ++ [AObj.cells t_impl_Need [.str l[g].1, .str l[g].2] false] = hq'
    have sq : Same h'.length h' hq' := by rw [← hq]; exact same_last
    simp only [xHeap_some]
    rw [row_all2 ((hS.cat sq).get x0 (Own.lt x0)), ← hq, rowL2, hq]
    simp only [xRow_some, xCons_cons, xNil_nil, xStr_some, pair_eq]
    refine ⟨by omega, bcase_dec (fun he => ?_) (fun he => ?_)⟩
    · have : x ∈ l := by rw [← he]; exact List.getElem_mem hgl
      exact ⟨by simp [this], SS.cat sq⟩
    · rw [wrap_nat (by omega)]
      refine hR (g + 1) _ _ (by omega) ⟨rfl, by omega, hS.cat sq, ?_⟩
      rw [List.take_succ_eq_append_getElem hgl, List.mem_append]
      rintro (hx | hx)
      · exact hk hx
      · exact he (List.mem_singleton.1 hx).symm
  · apply F_spec_l9In.A2x0i
    have : g = n := by omega
    subst this
    rw [List.take_of_length_le (by omega)] at hk
    exact ⟨by simp [hk], SS⟩
/-- One need more, if it is not there. -/
def onceP (l : List Nd) (x : Nd) : List Nd := if x ∈ l then l else l ++ [x]
theorem onceP_len (l : List Nd) (x : Nd) : (onceP l x).length ≤ l.length + 1 := by unfold onceP; split <;> simp
/-- A list of needs that grows. -/
structure NVec (b : Nat) (h : AHeap) (a : Pt) (n c : Nat) (l : List Nd) : Prop where
  vec : Vec t_impl_Need h a n c (flat eP l)
  len : l.length = n
  low : ∀ i, a = some (i, 0) → b ≤ i
theorem NVec.row {b : Nat} {h : AHeap} {a : Pt} {n c : Nat} {l : List Nd} (f : NVec b h a n c l) : Row h.length h a (n * 2) (flat eP l) := f.vec.row (by rw [flat_length eP_len, f.len])
theorem NVec.same {b : Nat} {h h' : AHeap} {a : Pt} {n c : Nat} {l : List Nd} (f : NVec b h a n c l) (s : Same h.length h h') : NVec b h' a n c l := ⟨f.vec.same s, f.len, f.low⟩
/-- Nothing has turned but the list's row. -/
def But (a : Pt) (h h' : AHeap) : Prop := h.length ≤ h'.length ∧ ∀ j, j < h.length → (∀ i, a = some (i, 0) → j ≠ i) → h'[j]? = h[j]?
theorem But.of {a : Pt} {h h' : AHeap} (s : Same h.length h h') : But a h h' := ⟨s.le, fun j hj _ => s.eq j hj⟩
theorem But.below {a : Pt} {b : Nat} {h h' : AHeap} (s : But a h h') (hb : b ≤ h.length) (hl : ∀ i, a = some (i, 0) → b ≤ i) : Same b h h' := ⟨s.1, fun j hj => s.2 j (by omega) fun i hi => by have := hl i hi; omega⟩
theorem once_ok {h : AHeap} {b : Nat} {a a1 : Pt} {n c c1 : Nat} {e e1 : Bool} {l : List Nd} {x : Nd} (f : NVec b h a n c l) (hb : b ≤ h.length) (hn : n ≤ 524288) (r : Row h.length h a1 (1 * 2) (flat eP [x])) :
    SCall pg n_impl_once [.slice a n c e, .slice a1 1 c1 e1] h fun v h' => ∃ a' n' c' e', v = .slice a' n' c' e' ∧ NVec b h' a' n' c' (onceP l x) ∧ But a h h' ∧ (a' = a ∨ ∀ i, a' = some (i, 0) → h.length ≤ i) := by
  apply F_impl_once.call
  refine F_impl_once.L2ind _ _ _ _ _ _ (J := fun (g : Nat) a0 n0 c0 e0 x9 h' => x9 = (g : Int) ∧ g ≤ 1 ∧ ((g = 0 ∧ a0 = a ∧ n0 = n ∧ c0 = c ∧ h' = h) ∨ (g = 1 ∧ NVec b h' a0 n0 c0 (onceP l x) ∧ But a h h' ∧ (a0 = a ∨ ∀ i, a0 = some (i, 0) → h.length ≤ i)))) (fun g => 1 - g) ?_ 0 _ _ _ _ _ _ ⟨rfl, by omega, .inl ⟨rfl, rfl, rfl, rfl, rfl⟩⟩
  rintro g a0 n0 c0 e0 x9 h' ⟨rfl, hg, hst⟩ R hR
  unfold F_impl_once.L2t
  refine bcase_dec (fun hlt => ?_) (fun hge => ?_)
  · rcases hst with ⟨rfl, rfl, rfl, rfl, rfl⟩ | ⟨rfl, _⟩
    · obtain ⟨i, o, hgl, rfl, _, hr, _⟩ := r.pr (k := 0) (by omega)
      simp only [xSome_some, Int.toNat_natCast, hr, xRow_some, xCons_cons, xNil_nil, xStr_some, letH_def, List.getElem_cons_zero]
      rw [store2]
      simp only [xHeap_some]
      rw [rowL2]
      simp only [xRow_some, xCons_cons, xNil_nil, xStr_some]
      generalize hq : h' ++ [AObj.cells t_impl_Need [.str x.1, .str x.2] false] = hq'
      have sq : Same h'.length h' hq' := by rw [← hq]; exact same_last
      have iq : hq'[h'.length]? = some (.cells t_impl_Need [.str x.1, .str x.2] false) := by rw [← hq]; simp
      have fq := f.same sq
      refine ⟨by omega, (contains_need (x := x) fq.row (by omega)).mono ?_⟩
      rintro v h3 ⟨rfl, s3⟩
      simp only [xBool_some]
      have f3 := fq.same s3
      have i3 := s3.get iq (Own.lt iq)
      have S3 := sq.cat s3
      refine bcase_not (fun hm => ?_) (fun hm => ?_)
      · rw [row_all2 i3]
        simp only [xRow_some, xCons_cons, xNil_nil, xStr_some]
        have hnm : onceP l x = l ++ [x] := by unfold onceP; rw [if_neg (by simpa using hm)]
        refine f3.vec.pushN u_L_Need c_Need k_Need b_Need (by rw [flat_length eP_len, f3.len]) rfl (by omega) rfl (by omega) (fun h4 hl4 hi4 hk4 => ?_)
        simp only [xSl_some]
        apply F_impl_once.J6i
        have hle := S3.le
        have hrl := f.low
        refine hR 1 _ _ _ _ _ _ (by omega) ⟨rfl, by omega, .inr ⟨rfl, ⟨Vec.mk1 ?_, ?_, fun i hi => by cases hi; omega⟩, ⟨by omega, fun j hj hne => ?_⟩, .inr fun i hi => by cases hi; omega⟩⟩
        · rw [hi4, hnm, flat_append]; rfl
        · rw [hnm, List.length_append, f.len]; rfl
        · rw [hk4 j (by omega) hne]; exact S3.eq j hj
      · apply F_impl_once.J6i
        have hnm : onceP l x = l := by unfold onceP; rw [if_pos (by simpa using hm)]
        exact hR 1 _ _ _ _ _ _ (by omega) ⟨rfl, by omega, .inr ⟨rfl, by rw [hnm]; exact f3, But.of S3, .inl rfl⟩⟩
    · omega
  · rcases hst with ⟨rfl, _⟩ | ⟨rfl, fv, bt⟩
    · omega
    · apply F_impl_once.A2x0i
      exact ⟨_, _, _, _, rfl, fv, bt⟩
end Go.Sim

set_option linter.unusedVariables false
set_option linter.unusedSimpArgs false
set_option maxRecDepth 20000
namespace Go.Sim
open Go Go.RowKit

theorem supsW_small (w : Wd) (s : List Nat) : ∀ d ∈ supsW w s, 65 ≤ d ∧ d < 85 := by
  intro d hd
  unfold supsW at hd
  split at hd
  · unfold supN at hd
    have := (List.mem_filter.1 hd).1
    rw [List.mem_range'] at this
    obtain ⟨i, hi, rfl⟩ := this
    omega
  · simp at hd
theorem supsW_len (w : Wd) (s : List Nat) : (supsW w s).length ≤ 20 := by
  unfold supsW
  split
  · unfold supN; exact Nat.le_trans (List.length_filter_le _ _) (by simp)
  · simp
theorem supers_ok {h : AHeap} {a0 a1 : Pt} {n0 c0 n1 c1 : Nat} {e0 e1 : Bool} {w : Wd} {s : List Nat} (r : WRep h a0 n0 c0 a1 n1 c1 w) (b : WB w) :
    SCall pg n_impl_supers [.agg [.slice a0 n0 c0 e0, .slice a1 n1 c1 e1], .str s] h fun v h' => Same h.length h h' ∧ ∃ a n c e, v = .slice a n c e ∧ Row h'.length h' a n (strs ((supsW w s).map one)) ∧ ∀ i o, a = some (i, o) → n ≠ 0 → h.length ≤ i := by
  apply F_impl_supers.call
  simp only [letH_def]
  generalize hh0 : h ++ [AObj.cells t_impl_World [.slice a0 n0 c0 e0, .slice a1 n1 c1 e1] false] = h0
  generalize hh1 : h0 ++ [AObj.cells t_string [] false] = h1
  have s0 : Same h.length h h0 := by rw [← hh0]; exact same_last
  have s1 : Same h0.length h0 h1 := by rw [← hh1]; exact same_last
  have l0 : h0.length = h.length + 1 := by rw [← hh0]; simp
  have l1 : h1.length = h.length + 2 := by rw [← hh1]; simp [l0]
  have w0 : h0[h.length]? = some (wObj a0 n0 c0 e0 a1 n1 c1 e1) := by rw [← hh0]; simp [wObj]
  have w1 := s1.get w0 (Own.lt w0)
  have o1 : h1[h0.length]? = some (.cells t_string [] false) := by rw [← hh1]; simp
  rw [wRow w1]
  simp only [xRow_some, xCons_cons, xNil_nil, xSl_some]
  refine (supersOf_ok (r.same (s0.cat s1)) b).mono ?_
  rintro v h2 ⟨rfl, s2⟩
  simp only [xStr_some]
  have hsm := supsW_small w s
  have hln := supsW_len w s
  generalize supsW w s = t at hsm hln
  have hle2 := s2.le
  have o2 := s2.get o1 (by omega)
  have S2 := (s0.cat s1).cat s2
  refine F_impl_supers.L3ind _ _ (J := fun (g : Nat) a5 n5 c5 e5 h' => g ≤ t.length ∧ h'[h2.length]? = some (.iter t g) ∧ Same h.length h h' ∧ n5 = g ∧ Vec t_string h' a5 n5 c5 (strs ((t.take g).map one)) ∧ (∀ i, a5 = some (i, 0) → h.length ≤ i ∧ i ≠ h2.length)) (fun g => t.length - g) ?_ 0 _ _ _ _ _
    ⟨by omega, by simp, S2.cat same_last, rfl, Vec.mk1 (by rw [app_lt (by omega)]; exact o2), fun i hi => by cases hi; omega⟩
  rintro g a5 n5 c5 e5 h' ⟨hg, hit, hS, rfl, hv, ha⟩ R hR
  unfold F_impl_supers.L3t
  have hx : ∀ K, K t n5 → xIter h' h2.length K := fun K hK => by unfold xIter; rw [hit]; exact hK
  refine hx _ ⟨fun hlt => ?_, fun hge => ?_⟩
  · have hd := hsm t[n5] (List.getElem_mem hlt)
    have hitl := Own.lt hit
    simp only [getD_at hlt, letH_def, Int.toNat_natCast]
    refine ⟨by omega, by omega, ?_⟩
    have hv2 : Vec t_string (h'.set h2.length (.iter t (n5 + 1))) a5 n5 c5 (strs ((t.take n5).map one)) := hv.agree fun i hi => by rw [set_ne (ha i hi).2.symm]
    have hl2 : (h'.set h2.length (.iter t (n5 + 1))).length = h'.length := by simp
    refine hv2.push vs_L_string vs_string vk_string vb_string (by simp; omega) rfl (by omega) (fun h4 hl4 hi4 hk4 => ?_)
    simp only [xSl_some]
    have hle := hS.le
    refine hR (n5 + 1) _ _ _ _ _ (by omega) ⟨by omega, ?_, ⟨by omega, fun j hj => ?_⟩, rfl, Vec.mk1 ?_, fun i hi => by cases hi; omega⟩
    · rw [hk4 _ (by omega) fun i hi => (ha i hi).2.symm, set_get hit]
    · rw [hk4 j (by omega) fun i hi => by have := (ha i hi).1; omega, set_ne (by omega)]; exact hS.eq j hj
    · rw [hi4, List.take_succ_eq_append_getElem hlt, List.map_append]; simp [strs, one]
  · apply F_impl_supers.A3x0i
    have : n5 = t.length := by omega
    subst this
    rw [List.take_length] at hv
    refine ⟨hS, _, _, _, _, rfl, hv.row (by simp), fun i o hi hn => ?_⟩
    rcases hv with ⟨h0, _⟩ | ⟨j, hj, _⟩
    · rw [hi] at h0; cases h0
    · rw [hi] at hj; cases hj; exact (ha i hi).1
/-- A given and what stands above it. -/
noncomputable def chainG (w : Wd) (g : Nd) : List Nd := g :: (supsW w g.1).map fun d => ([d], g.2)
noncomputable def allG (w : Wd) (gs : List Nd) : List Nd := gs.foldl (fun acc g => (chainG w g).foldl onceP acc) []
theorem foldl_once_len (xs : List Nd) : ∀ (l : List Nd), (xs.foldl onceP l).length ≤ l.length + xs.length := by
  induction xs with
  | nil => intro l; simp
  | cons x xs ih => intro l; rw [List.foldl_cons]; have := ih (onceP l x); have := onceP_len l x; simp; omega
end Go.Sim

set_option linter.unusedVariables false
set_option linter.unusedSimpArgs false
set_option maxRecDepth 20000
namespace Go.Sim
open Go Go.RowKit

noncomputable def allL (w : Wd) (gs : List Nd) : List Nd := if givensOk w gs then allG w gs else []
theorem allG_take {w : Wd} {gs : List Nd} {g : Nat} (h : g < gs.length) : allG w (gs.take (g + 1)) = (chainG w gs[g]).foldl onceP (allG w (gs.take g)) := by
  unfold allG; rw [List.take_succ_eq_append_getElem h, List.foldl_append]; rfl
theorem allG_len (w : Wd) (gs : List Nd) : ∀ g, (allG w (gs.take g)).length ≤ g * 21
  | 0 => by simp [allG]
  | g + 1 => by
    by_cases h : g < gs.length
    · rw [allG_take h]
      have h1 := foldl_once_len (chainG w gs[g]) (allG w (gs.take g))
      have h2 := allG_len w gs g
      have h3 : (chainG w gs[g]).length ≤ 21 := by
        unfold chainG; have := supsW_len w gs[g].1; simp; omega
      omega
    · rw [List.take_of_length_le (by omega), ← List.take_of_length_le (show gs.length ≤ g by omega)]
      have := allG_len w gs g; omega
/-- What AllGivens answers. -/
def AllQ (w : Wd) (gs : List Nd) (h : AHeap) (v : AVal) (h' : AHeap) : Prop := Same h.length h h' ∧ ∃ a n c e, v = .tup [.slice a n c e, .bool (givensOk w gs)] ∧ FreshR t_impl_Need eP h.length h' a n (allL w gs)
theorem NVec.fresh {b : Nat} {h : AHeap} {a : Pt} {n c : Nat} {l : List Nd} (f : NVec b h a n c l) : FreshR t_impl_Need eP b h a n l := by
  refine ⟨f.len, ?_⟩
  rcases f.vec with ⟨rfl, h0, _⟩ | ⟨i, rfl, hi⟩
  · exact .inl h0
  · exact .inr ⟨i, rfl, f.low i rfl, hi⟩
theorem one_row {h : AHeap} {x : Nd} : Row (h ++ [AObj.cells t_impl_Need [.str x.1, .str x.2] false]).length (h ++ [.cells t_impl_Need [.str x.1, .str x.2] false]) (some (h.length, 0)) (1 * 2) (flat eP [x]) :=
  (Vec.mk1 (n := 0) (c := 0) (ty := t_impl_Need) (cs := [.str x.1, .str x.2]) (by simp)).row rfl
theorem allGivens_ok {h : AHeap} {a0 a1 a2 : Pt} {n0 c0 n1 c1 n2 c2 : Nat} {e0 e1 e2 : Bool} {w : Wd} {gs : List Nd} (r : WRep h a0 n0 c0 a1 n1 c1 w) (b : WB w) (r2 : Row h.length h a2 (n2 * 2) (flat eP gs)) (hn2 : n2 ≤ 1048576) :
    SCall pg n_impl_AllGivens [.agg [.slice a0 n0 c0 e0, .slice a1 n1 c1 e1], .slice a2 n2 c2 e2] h (AllQ w gs h) := by
  have hl : gs.length = n2 := by have := r2.1; rw [flat_length eP_len] at this; omega
  apply F_impl_AllGivens.call
  simp only [letH_def]
  generalize hh0 : h ++ [AObj.cells t_impl_World [.slice a0 n0 c0 e0, .slice a1 n1 c1 e1] false] = h0
  have s0 : Same h.length h h0 := by rw [← hh0]; exact same_last
  have w0 : h0[h.length]? = some (wObj a0 n0 c0 e0 a1 n1 c1 e1) := by rw [← hh0]; simp [wObj]
  have l0 : h0.length = h.length + 1 := by rw [← hh0]; simp
  rw [wRow w0]
  simp only [xRow_some, xCons_cons, xNil_nil, xSl_some]
  refine (givensValid_ok (r.same s0) b (r2.same' s0) hn2).mono ?_
  rintro v h2 ⟨rfl, s2⟩
  have S2 := s0.cat s2
  have w2 := s2.get w0 (Own.lt w0)
  have l2 := s2.le
  simp only [xBool_some]
  refine bcase_not (fun b1 => ⟨S2, _, _, _, _, by rw [b1], by unfold allL; rw [b1]; exact ⟨rfl, .inl rfl⟩⟩) (fun b1 => ?_)
  have hg6 : gs.length ≤ 6 := by unfold givensOk at b1; simp only [Bool.and_eq_true, decide_eq_true_eq] at b1; exact b1.1.2
  -- nothing below the world's variable and that variable have turned
  refine F_impl_AllGivens.L5ind _ _ _ _ _ _ _ _ (J := fun (g : Nat) a6 n6 c6 e6 x18 h' => x18 = (g : Int) ∧ g ≤ n2 ∧ Same h2.length h2 h' ∧ NVec h2.length h' a6 n6 c6 (allG w (gs.take g))) (fun g => n2 - g) ?_ 0 _ _ _ _ _ _
    ⟨rfl, by omega, same_last, ⟨Vec.mk1 (by simp [allG]), rfl, fun i hi => by cases hi; exact Nat.le_refl _⟩⟩
  rintro g a6 n6 c6 e6 x18 h' ⟨rfl, hg, hS, hN⟩ R hR
  have SS := S2.cat hS
  have w3 := hS.get w2 (Own.lt w2)
  have l3 := hS.le
  unfold F_impl_AllGivens.L5t
  refine bcase_dec (fun hlt => ?_) (fun hge => ?_)
  · obtain ⟨i, o, hgl, rfl, _, hr, _⟩ := (r2.same SS).pr (k := g) (by omega)
    simp only [xSome_some, Int.toNat_natCast, hr, xRow_some, xCons_cons, xNil_nil, xStr_some, letH_def]
    rw [store2]
    generalize hq : h' ++ [AObj.cells t_impl_Need [.str gs[g].1, .str gs[g].2] false] = hq'
    have sq : Same h'.length h' hq' := by rw [← hq]; exact same_last
    have iq : hq'[h'.length]? = some (.cells t_impl_Need [.str gs[g].1, .str gs[g].2] false) := by rw [← hq]; simp
    have lq : hq'.length = h'.length + 1 := by rw [← hq]; simp
    simp only [xHeap_some]
    rw [row_all2 iq]
    simp only [xRow_some, xCons_cons, xNil_nil, xStr_some]
    have hal := allG_len w gs g
    have hNl := hN.len
    have hN2 := (hN.same sq).same (same_last (h := hq') (x := .cells t_impl_Need [.str gs[g].1, .str gs[g].2] false))
    refine ⟨by omega, (once_ok (x := gs[g]) hN2 (by simp; omega) (by omega) one_row).mono ?_⟩
    rintro v h4 ⟨a', n', c', e', rfl, N4, B4, D4⟩
    simp only [xSl_some]
    have l4 := B4.1
    simp at l4
    have low := hN.low
    have keep : ∀ j, j < hq'.length → (∀ i, a6 = some (i, 0) → j ≠ i) → h4[j]? = hq'[j]? := fun j hj hne => by rw [B4.2 j (by simp; omega) hne, app_lt hj]
    have hil := Own.lt iq
    have vi : ∀ i, a6 = some (i, 0) → i < h'.length := fun i hi => by
      rcases hN.vec with ⟨h0, _⟩ | ⟨j, hj, hjj⟩
      · rw [hi] at h0; cases h0
      · rw [hi] at hj; cases hj; exact Own.lt hjj
    have w4 : h4[h.length]? = some (wObj a0 n0 c0 e0 a1 n1 c1 e1) := by
      rw [keep _ (by omega) fun i hi => by have := low i hi; omega]; exact (sq.get w3 (by omega))
    have i4 : h4[h'.length]? = some (.cells t_impl_Need [.str gs[g].1, .str gs[g].2] false) := by
      rw [keep _ (by omega) fun i hi => by have := vi i hi; omega]; exact iq
    have S4 : Same h2.length h2 h4 := ⟨by omega, fun j hj => by
      rw [keep j (by omega) fun i hi => by have := low i hi; omega, sq.eq j (by omega)]; exact hS.eq j hj⟩
    rw [wRow w4]
    simp only [xRow_some, xCons_cons, xNil_nil, xSl_some, hCell_of i4, Nat.zero_add, List.getElem?_cons_zero, xStr_some]
    refine (supers_ok (s := gs[g].1) (r.same (S2.cat S4)) b).mono ?_
    rintro v h5 ⟨s5, sa, sn, sc, se, rfl, hsr, hsl⟩
    simp only [xSl_some]
    have l5 := s5.le
    have N5 := N4.same s5
    have i5 := s5.get i4 (Own.lt i4)
    have hsn : (supsW w gs[g].1).length = sn := by have := hsr.1; simpa using this
    have hs20 := supsW_len w gs[g].1
    have hN4l := N4.len
    have ho1 := onceP_len (allG w (gs.take g)) gs[g]
    refine F_impl_AllGivens.L9ind _ _ _ _ _ _ _ _ _ _ _ _ _ _ _ _ _ (J := fun (q : Nat) a7 n7 c7 e7 x31 h6 => x31 = (q : Int) ∧ q ≤ sn ∧ Same h2.length h2 h6 ∧ h6[h'.length]? = some (.cells t_impl_Need [.str gs[g].1, .str gs[g].2] false) ∧ Row h6.length h6 sa sn (strs ((supsW w gs[g].1).map one)) ∧
      NVec h2.length h6 a7 n7 c7 ((((supsW w gs[g].1).take q).map fun d => (([d], gs[g].2) : Nd)).foldl onceP (onceP (allG w (gs.take g)) gs[g])) ∧ (∀ i, a7 = some (i, 0) → i ≠ h'.length ∧ ∀ j o, sa = some (j, o) → sn ≠ 0 → i ≠ j)) (fun q => sn - q) ?_ 0 _ _ _ _ _ _
      ⟨rfl, by omega, S4.cat s5, i5, hsr, N5, ?_⟩
    · rintro q a7 n7 c7 e7 x31 h6 ⟨rfl, hq0, S6, i6, hsr6, N6, D6⟩ R9 hR9
      unfold F_impl_AllGivens.L9t
      have l6 := S6.le
      refine bcase_dec (fun hlt6 => ?_) (fun hge6 => ?_)
      · obtain ⟨iv, ov, rfl, hiv, hcv⟩ := hsr6.at (k := q) (by omega)
        have hqs : q < (supsW w gs[g].1).length := by omega
        rw [strs_get, List.getElem?_map, List.getElem?_eq_getElem hqs] at hcv
        simp only [Option.map_some] at hcv
        simp only [xSome_some, Int.toNat_natCast, Nat.mul_one, hcv, xStr_some, Nat.zero_add, hCell_of i6, List.getElem?_cons_succ, List.getElem?_cons_zero, one, letH_def]
        have hlen6 := N6.len
        have hfl := foldl_once_len ((((supsW w gs[g].1).take q).map fun d => (([d], gs[g].2) : Nd))) (onceP (allG w (gs.take g)) gs[g])
        simp only [List.length_map, List.length_take] at hfl
        have N6' := N6.same (same_last (h := h6) (x := .cells t_impl_Need [.str [(supsW w gs[g].1)[q]], .str gs[g].2] false))
        refine ⟨by omega, (once_ok (x := ([(supsW w gs[g].1)[q]], gs[g].2)) N6' (by simp; omega) (by omega) one_row).mono ?_⟩
        rintro v h7 ⟨a8, n8, c8, e8, rfl, N7, B7, D7⟩
        simp only [xSl_some]
        rw [wrap_nat (by omega)]
        have l7 := B7.1
        simp at l7
        have keep7 : ∀ j, j < h6.length → (∀ i, a7 = some (i, 0) → j ≠ i) → h7[j]? = h6[j]? := fun j hj hne => by rw [B7.2 j (by simp; omega) hne, app_lt hj]
        have i6l := Own.lt i6
        refine hR9 (q + 1) _ _ _ _ _ _ (by omega) ⟨rfl, by omega, ⟨by omega, fun j hj => ?_⟩, ?_, ?_, ?_, fun i hi => ?_⟩
        · rw [keep7 j (by omega) fun i hi => by have := N6.low i hi; omega]; exact S6.eq j hj
        · rw [keep7 _ i6l fun i hi => (D6 i hi).1.symm]; exact i6
        · obtain ⟨k1, k2⟩ := hsr6
          refine ⟨k1, k2.imp id ?_⟩
          rintro ⟨i, o', t, all, ro, ha, hb, hi, x⟩
          exact ⟨i, o', t, all, ro, ha, by omega, by rw [keep7 i (Own.lt hi) fun j hj => ((D6 j hj).2 i o' ha (by omega)).symm]; exact hi, x⟩
        · rw [List.take_succ_eq_append_getElem hqs, List.map_append, List.foldl_append]; exact N7
        · rcases D7 with rfl | D7
          · exact D6 i hi
          · have := D7 i hi
            simp at this
            exact ⟨by omega, fun j o' hj _ => by cases hj; omega⟩
      · apply F_impl_AllGivens.A9x2i
        have : q = sn := by omega
        subst this
        have e9 : (supsW w gs[g].1).take q = supsW w gs[g].1 := List.take_of_length_le (by omega)
        rw [e9] at N6
        rw [wrap_nat (by omega)]
        refine hR (g + 1) _ _ _ _ _ _ (by omega) ⟨rfl, by omega, S6, ?_⟩
        rw [allG_take hgl]
        exact N6
    · intro i hi
      have hi4 : i < h4.length := by
        rcases N4.vec with ⟨h0, _⟩ | ⟨j, hj, hjj⟩
        · rw [hi] at h0; cases h0
        · rw [hi] at hj; cases hj; exact Own.lt hjj
      refine ⟨?_, fun j o' hj hn => by have := hsl j o' hj hn; omega⟩
      rcases D4 with rfl | D4
      · have := vi i hi; omega
      · have := D4 i hi; simp at this; omega
  · apply F_impl_AllGivens.A5x0i
    have : g = n2 := by omega
    subst this
    have hw : allL w gs = allG w gs := by unfold allL; rw [b1]; rfl
    rw [List.take_of_length_le (by omega)] at hN
    refine ⟨SS, _, _, _, _, by rw [b1], ?_⟩
    rw [hw]
    exact hN.fresh.keep (by omega) fun _ _ _ => rfl
end Go.Sim

set_option linter.unusedVariables false
set_option linter.unusedSimpArgs false
set_option maxRecDepth 20000
namespace Go.Sim
open Go Go.RowKit

theorem chain_take {w : Wd} {g : Nd} {q : Nat} (h : q < (supsW w g.1).length) : (chainG w g).take (q + 2) = (chainG w g).take (q + 1) ++ [(([(supsW w g.1)[q]], g.2) : Nd)] := by
  have hl : q + 1 < (chainG w g).length := by unfold chainG; simp; omega
  rw [List.take_succ_eq_append_getElem hl]
  congr 2
  simp [chainG]
theorem onceP_not {l : List Nd} {x : Nd} (h : x ∉ l) : onceP l x = l ++ [x] := by unfold onceP; rw [if_neg h]
theorem onceP_mem {l : List Nd} {x : Nd} (h : x ∈ l) : onceP l x = l := by unfold onceP; rw [if_pos h]
theorem storeF {h : AHeap} {t : TypeId} {x y v : AVal} : hStore (h ++ [.cells t [x, y] false]) (.ptr (some (h.length, 0))) [v] = some (h ++ [.cells t [v, y] false]) := by
  rw [store_first2 (show (h ++ [AObj.cells t [x, y] false])[h.length]? = some (.cells t [x, y] false) by simp)]; simp
theorem sAllGivens_ok {h : AHeap} {a0 a1 a2 : Pt} {n0 c0 n1 c1 n2 c2 : Nat} {e0 e1 e2 : Bool} {w : Wd} {gs : List Nd} (r : WRep h a0 n0 c0 a1 n1 c1 w) (b : WB w) (r2 : Row h.length h a2 (n2 * 2) (flat eP gs)) (hn2 : n2 ≤ 1048576) (hls : ∀ p ∈ gs, p.2.length ≤ 1048576) :
    SCall pg n_spec_AllGivens [.agg [.slice a0 n0 c0 e0, .slice a1 n1 c1 e1], .slice a2 n2 c2 e2] h (AllQ w gs h) := by
  have hl : gs.length = n2 := by have := r2.1; rw [flat_length eP_len] at this; omega
  apply F_spec_AllGivens.call
  simp only [letH_def]
  generalize hh0 : h ++ [AObj.cells t_impl_World [.slice a0 n0 c0 e0, .slice a1 n1 c1 e1] false] = h0
  generalize hh1 : h0 ++ [AObj.cells t_impl_Need [] false] = h1
  have s0 : Same h.length h h0 := by rw [← hh0]; exact same_last
  have s1 : Same h0.length h0 h1 := by rw [← hh1]; exact same_last
  have w0 : h0[h.length]? = some (wObj a0 n0 c0 e0 a1 n1 c1 e1) := by rw [← hh0]; simp [wObj]
  have l0 : h0.length = h.length + 1 := by rw [← hh0]; simp
  have o1 : h1[h0.length]? = some (.cells t_impl_Need [] false) := by rw [← hh1]; simp
  have w1 := s1.get w0 (Own.lt w0)
  rw [wRow w1]
  simp only [xRow_some, xCons_cons, xNil_nil, xSl_some]
  have S1 := s0.cat s1
  refine (sGivensValid_ok (r.same S1) b (r2.same' S1) hn2 hls).mono ?_
  rintro v h2 ⟨rfl, s2⟩
  have S2 := S1.cat s2
  have w2 := s2.get w1 (Own.lt w1)
  have o2 := s2.get o1 (Own.lt o1)
  have l1 := s1.le
  have l2 := s2.le
  simp only [xBool_some]
  refine bcase_not (fun b1 => ⟨S2, _, _, _, _, by rw [b1], by unfold allL; rw [b1]; exact ⟨rfl, .inl rfl⟩⟩) (fun b1 => ?_)
  have hg6 : gs.length ≤ 6 := by unfold givensOk at b1; simp only [Bool.and_eq_true, decide_eq_true_eq] at b1; exact b1.1.2
  refine F_spec_AllGivens.L5ind _ _ _ _ _ _ _ _ (J := fun (g : Nat) a6 n6 c6 e6 x18 h' => x18 = (g : Int) ∧ g ≤ n2 ∧ Same h0.length h2 h' ∧ NVec h0.length h' a6 n6 c6 (allG w (gs.take g))) (fun g => n2 - g) ?_ 0 _ _ _ _ _ _
    ⟨rfl, by omega, ⟨by omega, fun _ _ => rfl⟩, ⟨Vec.mk1 (by simpa [allG] using o2), rfl, fun i hi => by cases hi; exact Nat.le_refl _⟩⟩
  rintro g a6 n6 c6 e6 x18 h' ⟨rfl, hg, hS, hN⟩ R hR
  have l3 := hS.le
  have SS : Same h.length h h' := ⟨by omega, fun j hj => by rw [hS.eq j (by omega)]; exact S2.eq j hj⟩
  have w3 := hS.get w2 (by omega)
  unfold F_spec_AllGivens.L5t
  refine bcase_dec (fun hlt => ?_) (fun hge => ?_)
  · obtain ⟨i, o, hgl, rfl, _, hr, _⟩ := (r2.same SS).pr (k := g) (by omega)
    simp only [xSome_some, Int.toNat_natCast, hr, xRow_some, xCons_cons, xNil_nil, xStr_some, letH_def]
    rw [store2]
    generalize hq : h' ++ [AObj.cells t_impl_Need [.str gs[g].1, .str gs[g].2] false] = hq'
    have sq : Same h'.length h' hq' := by rw [← hq]; exact same_last
    have iq : hq'[h'.length]? = some (.cells t_impl_Need [.str gs[g].1, .str gs[g].2] false) := by rw [← hq]; simp
    have lq : hq'.length = h'.length + 1 := by rw [← hq]; simp
    simp only [xHeap_some]
    rw [wRow (sq.get w3 (by omega))]
    simp only [xRow_some, xCons_cons, xNil_nil, xSl_some, hCell_of iq, Nat.zero_add, List.getElem?_cons_zero, xStr_some]
    have hal := allG_len w gs g
    have hNl := hN.len
    have low := hN.low
    have vi : ∀ i, a6 = some (i, 0) → i < h'.length := fun i hi => by
      rcases hN.vec with ⟨h0, _⟩ | ⟨j, hj, hjj⟩
      · rw [hi] at h0; cases h0
      · rw [hi] at hj; cases hj; exact Own.lt hjj
    refine ⟨by omega, (sSupersOf_ok (s := gs[g].1) (r.same (SS.cat sq)) b).mono ?_⟩
    rintro v h5 ⟨rfl, s5⟩
    simp only [xStr_some]
    have l5 := s5.le
    have i5 := s5.get iq (by omega)
    have hs20 := supsW_len w gs[g].1
    have hcl : (chainG w gs[g]).length = (supsW w gs[g].1).length + 1 := by unfold chainG; simp
    refine F_spec_AllGivens.L9ind _ _ _ _ _ _ _ _ _ _ _ _ _ (J := fun (q : Nat) a7 n7 c7 e7 x10 h6 => x10 = (q : Int) - 1 ∧ q ≤ (supsW w gs[g].1).length + 1 ∧ Same h0.length h2 h6 ∧ h6[h'.length]? = some (.cells t_impl_Need [.str gs[g].1, .str gs[g].2] false) ∧
      NVec h0.length h6 a7 n7 c7 (((chainG w gs[g]).take q).foldl onceP (allG w (gs.take g))) ∧ (∀ i, a7 = some (i, 0) → i ≠ h'.length)) (fun q => (supsW w gs[g].1).length + 1 - q) ?_ 0 _ _ _ _ _ _
      ⟨rfl, by omega, ⟨by omega, fun j hj => by rw [s5.eq j (by omega), sq.eq j (by omega)]; exact hS.eq j hj⟩, i5, (hN.same sq).same s5, fun i hi => by have := vi i hi; omega⟩
    rintro q a7 n7 c7 e7 x10 h6 ⟨rfl, hq0, S6, i6, N6, D6⟩ R9 hR9
    unfold F_spec_AllGivens.L9t
    have l6 := S6.le
    have i6l := Own.lt i6
    refine bcase_dec (fun hlt6 => ?_) (fun hge6 => ?_)
    · rw [row_all2 i6]
      simp only [xRow_some, xCons_cons, xNil_nil, xStr_some, letH_def]
      rw [store2]
      simp only [xHeap_some]
      -- the need that is asked for
      have key : ∀ (x : Nd) (hz : AHeap), hz = h6 ++ [AObj.cells t_impl_Need [.str x.1, .str x.2] false] → (chainG w gs[g]).take (q + 1) = (chainG w gs[g]).take q ++ [x] →
          F_spec_AllGivens.J14 (AllQ w gs h) R R9 a7 n7 c7 e7 h6.length 0 ((q : Int) - 1) (supsW w gs[g].1) h'.length 0 (g : Int) (n2 : Int) (some (i, o)) n2 c2 e2 h.length 0 hz := by
        rintro x hz rfl htk
        apply F_spec_AllGivens.J14i
        rw [rowL2]
        simp only [xRow_some, xCons_cons, xNil_nil, xStr_some]
        have hfl := foldl_once_len ((chainG w gs[g]).take q) (allG w (gs.take g))
        rw [List.length_take] at hfl
        have hN6l := N6.len
        have sx : Same h6.length h6 (h6 ++ [.cells t_impl_Need [.str x.1, .str x.2] false]) := same_last
        have Nx := N6.same sx
        have ix : (h6 ++ [AObj.cells t_impl_Need [.str x.1, .str x.2] false])[h6.length]? = some (.cells t_impl_Need [.str x.1, .str x.2] false) := by simp
        refine (l9In_ok (x := x) Nx.row (by omega)).mono ?_
        rintro v h7 ⟨rfl, s7⟩
        simp only [xBool_some]
        have S7 := sx.cat s7
        have l7 := S7.le
        have N7 := Nx.same s7
        have i7 := s7.get ix (Own.lt ix)
        have e3 : IntKind.wrap .i64 ((q : Int) - 1 + 1) = ((q + 1 : Nat) : Int) - 1 := by rw [IntWalk.i64_in _ (by omega)]; omega
        have vi7 : ∀ i, a7 = some (i, 0) → i < h6.length := fun i hi => by
          rcases N6.vec with ⟨h0, _⟩ | ⟨j, hj, hjj⟩
          · rw [hi] at h0; cases h0
          · rw [hi] at hj; cases hj; exact Own.lt hjj
        refine bcase_not (fun hm => ?_) (fun hm => ?_)
        · rw [row_all2 i7]
          simp only [xRow_some, xCons_cons, xNil_nil, xStr_some, letH_def]
          have hnm : onceP (((chainG w gs[g]).take q).foldl onceP (allG w (gs.take g))) x = (((chainG w gs[g]).take q).foldl onceP (allG w (gs.take g))) ++ [x] := onceP_not (by simpa using hm)
          refine N7.vec.pushN u_L_Need c_Need k_Need b_Need (by rw [flat_length eP_len, N7.len]) rfl (by omega) rfl (by omega) (fun h4 hl4 hi4 hk4 => ?_)
          simp only [xSl_some]
          apply F_spec_AllGivens.J10i
          rw [e3]
          refine hR9 (q + 1) _ _ _ _ _ _ (by omega) ⟨rfl, by omega, ⟨by omega, fun j hj => ?_⟩, ?_, ⟨Vec.mk1 ?_, ?_, fun i hi => by cases hi; omega⟩, fun i hi => by cases hi; omega⟩
          · rw [hk4 j (by omega) fun i hi => by have := N6.low i hi; omega, S7.eq j (by omega)]; exact S6.eq j hj
          · rw [hk4 _ (by omega) fun i hi => (D6 i hi).symm, S7.eq _ i6l]; exact i6
          · rw [hi4, htk, List.foldl_append, List.foldl_cons, List.foldl_nil, hnm, flat_append]; rfl
          · rw [htk, List.foldl_append, List.foldl_cons, List.foldl_nil, hnm, List.length_append, N7.len]; rfl
        · apply F_spec_AllGivens.J10i
          rw [e3]
          have hnm : onceP (((chainG w gs[g]).take q).foldl onceP (allG w (gs.take g))) x = (((chainG w gs[g]).take q).foldl onceP (allG w (gs.take g))) := onceP_mem (by simpa using hm)
          exact hR9 (q + 1) _ _ _ _ _ _ (by omega) ⟨rfl, by omega, ⟨by omega, fun j hj => by rw [S7.eq j (by omega)]; exact S6.eq j hj⟩, S7.get i6 i6l, by rw [htk, List.foldl_append, List.foldl_cons, List.foldl_nil, hnm]; exact N7, D6⟩
      refine bcase_dec (fun hx0 => ?_) (fun hx0 => ?_)
      · obtain ⟨p, rfl⟩ : ∃ p, q = p + 1 := ⟨q - 1, by omega⟩
        have hp : p < (supsW w gs[g].1).length := by omega
        have e1 : ((p + 1 : Nat) : Int) - 1 = (p : Int) := by omega
        rw [e1] at key ⊢
        rw [wrap_nat (by omega), sub_one hp rfl]
        simp only [Nat.add_zero]
        rw [storeF]
        simp only [xHeap_some]
        exact ⟨⟨by omega, by omega, by omega⟩, key ([(supsW w gs[g].1)[p]], gs[g].2) _ rfl (chain_take hp)⟩
      · have hq00 : q = 0 := by omega
        subst hq00
        exact key gs[g] _ rfl (by simp [chainG])
    · apply F_spec_AllGivens.A9x2i
      have : q = (supsW w gs[g].1).length + 1 := by omega
      have e9 : (chainG w gs[g]).take q = chainG w gs[g] := List.take_of_length_le (by omega)
      rw [e9] at N6
      rw [wrap_nat (by omega)]
      refine hR (g + 1) _ _ _ _ _ _ (by omega) ⟨rfl, by omega, S6, ?_⟩
      rw [allG_take hgl]
      exact N6
  · apply F_spec_AllGivens.A5x0i
    have : g = n2 := by omega
    subst this
    have hw : allL w gs = allG w gs := by unfold allL; rw [b1]; rfl
    rw [List.take_of_length_le (by omega)] at hN
    refine ⟨SS, _, _, _, _, by rw [b1], ?_⟩
    rw [hw]
    exact hN.fresh.keep (by omega) fun _ _ _ => rfl
end Go.Sim

set_option linter.unusedVariables false
set_option linter.unusedSimpArgs false
set_option maxRecDepth 20000
namespace Go.Sim
open Go Go.RowKit

theorem allL_len (w : Wd) (gs : List Nd) : (allL w gs).length ≤ 126 := by
  unfold allL
  split
  · rename_i h
    have hg6 : gs.length ≤ 6 := by unfold givensOk at h; simp only [Bool.and_eq_true, decide_eq_true_eq] at h; exact h.1.2
    have := allG_len w gs gs.length
    rw [List.take_length] at this; omega
  · simp
theorem lawAllG {h : AHeap} {a0 a1 a2 : Pt} {n0 c0 n1 c1 n2 c2 : Nat} {e0 e1 e2 : Bool} {w : Wd} {l : List Nd} (r : WRep h a0 n0 c0 a1 n1 c1 w) (hb : WBig w) (r2 : Row h.length h a2 (n2 * 2) (flat eP l)) (hn2 : NBig n2) (hl2 : ∀ p ∈ l, NBig p.1.length ∧ NBig p.2.length) :
    SCall pg n_laws_FnExactAllGivens [.agg [.slice a0 n0 c0 e0, .slice a1 n1 c1 e1], .slice a2 n2 c2 e2] h fun v _ => v = .bool true := by
  have hll : l.length = n2 := by have := r2.1; rw [flat_length eP_len] at this; omega
  unfold NBig at hn2
  apply F_laws_FnExactAllGivens.call
  simp only [letH_def]
  generalize hh0 : h ++ [AObj.cells t_laws_World [.slice a0 n0 c0 e0, .slice a1 n1 c1 e1] false] = h0
  have s0 : Same h.length h h0 := by rw [← hh0]; exact same_last
  have x0 : h0[h.length]? = some (.cells t_laws_World [.slice a0 n0 c0 e0, .slice a1 n1 c1 e1] false) := by rw [← hh0]; simp
  rw [row_all2 x0]
  simp only [xRow_some, xCons_cons, xNil_nil, xSl_some]
  refine (szWorld_ok (r.same s0) hb (x := 1048576) (by omega)).mono ?_
  rintro v h1 ⟨y, rfl, s1, hy⟩
  simp only [xInt_some]
  refine bcase_dec (fun _ => by trivial) (fun hge => ?_)
  have hyy := hy (by omega)
  have b : WB w := .of hb (by omega)
  have S1 := s0.cat s1
  have x1 := s1.get x0 (Own.lt x0)
  refine (szNeeds_ok (r2.same' S1) hl2 (by omega) (left := y) (by omega)).mono ?_
  rintro v h2 ⟨z, rfl, s2, hz⟩
  simp only [xInt_some]
  refine bcase_dec (fun _ => by trivial) (fun hge2 => ?_)
  have hzz := hz (by omega)
  have S2 := S1.cat s2
  have x2 := s2.get x1 (Own.lt x1)
  have hls : ∀ p ∈ l, p.2.length ≤ 1048576 := fun p hp => by
    obtain ⟨k, hk, rfl⟩ := List.mem_iff_getElem.1 hp
    have := tot2_get hk; omega
  have hal := allL_len w l
  rw [row_all2 x2]
  simp only [xRow_some, xCons_cons, xNil_nil, xSl_some]
  refine (toWorld_ok (r.same S2) b).mono ?_
  rintro v h3 ⟨b0, d0, f0, b1, d1, f1, ys, rfl, hd0, hd1, s3, W3⟩
  simp only [xAgg_agg, xCons_cons, xNil_nil, xSl_some]
  have S3 := S2.cat s3
  have x3 := s3.get x2 (Own.lt x2)
  refine (toNeedsF_ok (r2.same' S3) (by omega)).mono ?_
  rintro v h4 ⟨b2, d2, f2, rfl, s4, F4, hd2⟩
  simp only [xSl_some]
  have S4 := S3.cat s4
  have x4 := s4.get x3 (Own.lt x3)
  refine (sAllGivens_ok ((W3.rep hd0 hd1).same s4) b (F4.row eP_len) (by omega) hls).mono ?_
  rintro v h5 ⟨s5, wa, wn, wc, we, rfl, F5⟩
  simp only [xTup_tup, xCons_cons, xSl_some, xBool_some, xNil_nil]
  have S5 := S4.cat s5
  have x5 := s5.get x4 (Own.lt x4)
  have hwn := F5.1
  rw [row_all2 x5]
  simp only [xRow_some, xCons_cons, xNil_nil, xSl_some]
  refine (toWorld_ok (r.same S5) b).mono ?_
  rintro v h6 ⟨p0, q0, g0, p1, q1, g1, zs, rfl, hq0, hq1, s6, W6⟩
  simp only [xAgg_agg, xCons_cons, xNil_nil, xSl_some]
  rw [store2]
  simp only [xHeap_some]
  generalize hh7 : h6 ++ [AObj.cells t_impl_World [.slice p0 n0 q0 g0, .slice p1 n1 q1 g1] false] = h7
  have s7 : Same h6.length h6 h7 := by rw [← hh7]; exact same_last
  have l7 : h7.length = h6.length + 1 := by rw [← hh7]; simp
  have y7 : h7[h6.length]? = some (.cells t_impl_World [.slice p0 n0 q0 g0, .slice p1 n1 q1 g1] false) := by rw [← hh7]; simp
  have S7 := (S5.cat s6).cat s7
  have x7 := s7.get (s6.get x5 (Own.lt x5)) (by have := Own.lt x5; have := s6.le; omega)
  refine (toNeedsF_ok (r2.same' S7) (by omega)).mono ?_
  rintro v h8 ⟨p2, q2, g2, rfl, s8, F8, hq2⟩
  simp only [xSl_some]
  have y8 := s8.get y7 (Own.lt y7)
  have x8 := s8.get x7 (Own.lt x7)
  rw [row_all2 y8]
  simp only [xRow_some, xCons_cons, xNil_nil, xSl_some]
  have W8 := (W6.same s7).same s8
  refine (allGivens_ok (W8.rep hq0 hq1) b (F8.row eP_len) (by omega)).mono ?_
  rintro v h9 ⟨s9, ga, gn, gc, ge, rfl, F9⟩
  simp only [xTup_tup, xCons_cons, xSl_some, xBool_some, xNil_nil]
  have hgn := F9.1
  have S9 := (S7.cat s8).cat s9
  have y9 := s9.get y8 (Own.lt y8)
  have x9 := s9.get x8 (Own.lt x8)
  have R5 := F5.row eP_len
  have R9 := (((R5.same' s6).same' s7).same' s8).same' s9
  refine (eqNeeds_ok (F9.row eP_len) R9 (by omega) rfl).mono ?_
  rintro v h10 ⟨rfl, s10⟩
  simp only [xBool_some, beq_self_eq_true, Bool.not_true, bcase_false]
  apply F_laws_FnExactAllGivens.J14i
  have S10 := S9.cat s10
  have y10 := s10.get y9 (Own.lt y9)
  have x10 := s10.get x9 (Own.lt x9)
  rw [row_all2 y10, row_all2 x10]
  simp only [xRow_some, xCons_cons, xNil_nil, xSl_some, true_and]
  refine (toWorld_ok (r.same S10) b).mono ?_
  rintro v h11 ⟨u0, v0, k0, u1, v1, k1, ts, rfl, hv0, hv1, s11, W11⟩
  simp only [xAgg_agg, xCons_cons, xNil_nil, xSl_some]
  have y11 := s11.get y10 (Own.lt y10)
  have x11 := s11.get x10 (Own.lt x10)
  rw [row_all2 y11]
  have W10 := ((W8.same s9).same s10).same s11
  refine ⟨rfl, (eqWorld_ok (W10.rep hq0 hq1) (W11.rep hv0 hv1) b).mono ?_⟩
  rintro v h12 ⟨rfl, s12⟩
  simp only [xBool_some, Bool.not_true, bcase_false]
  have y12 := s12.get y11 (Own.lt y11)
  have x12 := s12.get x11 (Own.lt x11)
  have S12 := (S10.cat s11).cat s12
  refine (toNeedsF_ok (r2.same' S12) (by omega)).mono ?_
  rintro v h13 ⟨u2, v2, k2, rfl, s13, F13, hv2⟩
  simp only [xSl_some]
  have F8' := ((((F8.same s9).same s10).same s11).same s12).same s13
  refine (eqNeeds_ok (F8'.row eP_len) (F13.row eP_len) (by omega) rfl).mono ?_
  rintro v h14 ⟨rfl, s14⟩
  simp only [xBool_some, Bool.not_true, bcase_false]
  have y14 := s14.get (s13.get y12 (Own.lt y12)) (by have := Own.lt y12; have := s13.le; omega)
  have x14 := s14.get (s13.get x12 (Own.lt x12)) (by have := Own.lt x12; have := s13.le; omega)
  rw [row_all2 y14]
  simp only [xRow_some, xCons_cons, xNil_nil, xSl_some]
  have l6 := s6.le
  have l8 := s8.le
  have l9 := s9.le
  have l10 := s10.le
  have l11 := s11.le
  have l12 := s12.le
  have l13 := s13.le
  have l14 := s14.le
  refine (markWorld_ok (((W10.same s12).same s13).same s14) b (H := h6.length) ⟨W6.bel.cls, W6.bel.ins, W6.bel.need⟩ (by omega) (k := 1) (by omega)).mono ?_
  rintro v h15 ⟨⟨zz, rfl, hz0, hz1⟩, M15⟩
  simp only [xInt_some]
  have l15 := M15.1
  -- the second argument lies behind the first
  have F15 := (F8'.same s14).mid M15 (by omega)
  refine (markNeeds_ok F15 (k := zz) (by omega)).mono ?_
  rintro v h16 ⟨rfl, o16, F16⟩
  simp only [xInt_some]
  rw [show decide ((zz + 2 * (n2 : Int)) < 0) = false by simp; omega]
  simp only [bcase_false]
  have l16 := o16.1
  have hin8 := F8.in
  have M16 : Mid h7.length h8.length h15 h16 := o16.mid fun i hi hn => hin8 i hi hn
  have G16 : FreshR t_impl_Need eP h8.length h16 ga gn (allL w l) := (((((((F9.same s10).same s11).same s12).same s13).same s14).mid M15 (by omega))).mid M16 (Nat.le_refl _)
  have T := (((((((s6.cat s7).cat s8).cat s9).cat s10).cat s11).cat s12).cat s13).cat s14
  have R16 : Row h5.length h16 wa (wn * 2) (flat eP (allL w l)) := ((R5.same T).mid M15 (Nat.le_refl _)).mid M16 (by omega)
  refine (eqNeeds_ok (G16.row eP_len) (R16.mono (by omega)) (by omega) rfl).mono ?_
  rintro v h17 ⟨rfl, s17⟩
  simp only [xBool_some, beq_self_eq_true, Bool.not_true, bcase_false]
  apply F_laws_FnExactAllGivens.J23i
  have G17 := G16.same s17
  have l17 := s17.le
  refine (markNeeds_ok G17 (k := 1) (by omega)).mono ?_
  rintro v h18 ⟨rfl, o18, F18⟩
  simp only [xInt_some]
  refine (heldNeeds_ok (F18.row eP_len) (by omega)).mono ?_
  rintro v h19 ⟨rfl, s19⟩
  simp only [xInt_some]
  rw [show decide ((1 + 2 * (gn : Int)) < 0) = false by simp; omega]
  simp only [bcase_false, beq_self_eq_true, Bool.not_true]
  have hinG := G17.in
  have M18 : Mid h8.length h17.length h17 h18 := o18.mid fun i hi hn => hinG i hi hn
  have l18 := M18.1
  have l19 := s19.le
  have hx5 := Own.lt x5
  have hl5 := S5.le
  have U : Same h5.length h5 h19 := ⟨by omega, fun j hj => by
    rw [s19.eq j (by omega), M18.2 j (by omega) (.inl (by omega)), s17.eq j (by omega), M16.2 j (by omega) (.inl (by omega)), M15.2 j (by omega) (.inl (by omega)), T.eq j hj]⟩
  have x19 := U.get x5 hx5
  rw [row_all2 x19]
  simp only [xRow_some, xCons_cons, xNil_nil, xSl_some]
  have S19 := S5.cat U
  refine (toWorld_ok (r.same S19) b).mono ?_
  rintro v h20 ⟨P0, Q0, G0, P1, Q1, G1, Zs, rfl, hQ0, hQ1, s20, W20⟩
  simp only [xAgg_agg, xCons_cons, xNil_nil, xSl_some]
  refine (toNeedsF_ok (r2.same' (S19.cat s20)) (by omega)).mono ?_
  rintro v h21 ⟨P2, Q2, G2, rfl, s21, F21, hQ2⟩
  simp only [xSl_some]
  refine (allGivens_ok ((W20.rep hQ0 hQ1).same s21) b (F21.row eP_len) (by omega)).mono ?_
  rintro v h22 ⟨s22, Ga, Gn, Gc, Ge, rfl, F22⟩
  simp only [xTup_tup, xCons_cons, xSl_some, xBool_some, xNil_nil]
  have hGn := F22.1
  have l20 := s20.le
  have l21 := s21.le
  have l22 := s22.le
  have R22 : Row h5.length h22 wa (wn * 2) (flat eP (allL w l)) := R5.same (((U.cat s20).cat s21).cat s22)
  refine (eqNeeds_ok (F22.row eP_len) (R22.mono (by omega)) (by omega) rfl).mono ?_
  rintro v h23 ⟨rfl, s23⟩
  simp only [xBool_some, beq_self_eq_true, Bool.not_true, bcase_false]
  apply F_laws_FnExactAllGivens.J34i
  refine (heldNeeds_ok ((((((F18.same s19).same s20).same s21).same s22).same s23).row eP_len) (by omega)).mono ?_
  rintro v h24 ⟨rfl, s24⟩
  simp only [xInt_some]
  rw [show decide ((1 + 2 * (gn : Int)) < 0) = false by simp; omega]
  simp only [bcase_false, beq_self_eq_true, Bool.not_true]
end Go.Sim
