/- A part of the proof of a statement of this seat: see the text that holds the theorem. No condition. -/
import Derived.Test.YtgiiilhdmfddcaaDoorPTCMarkN
import Derived.Test.YtgiiilhdmfddcaaDoorCParse
set_option linter.all false
set_option linter.unusedVariables false
set_option linter.unusedSimpArgs false
set_option maxRecDepth 20000
namespace Go.Sim
open Go Go.RowKit

/-- Nothing has turned but the row. -/
def Only (a : Pt) (n : Nat) (h h' : AHeap) : Prop := h.length ≤ h'.length ∧ ∀ j, j < h.length → (∀ i, a = some (i, 0) → n ≠ 0 → j ≠ i) → h'[j]? = h[j]?
theorem Only.refl (a : Pt) (n : Nat) (h : AHeap) : Only a n h h := ⟨Nat.le_refl _, fun _ _ _ => rfl⟩
theorem Only.same {a : Pt} {n : Nat} {h h1 h2 : AHeap} (o : Only a n h h1) (s : Same h1.length h1 h2) : Only a n h h2 := ⟨Nat.le_trans o.1 s.le, fun j hj hn => by rw [s.eq j (by have := o.1; omega)]; exact o.2 j hj hn⟩
theorem Only.set {n i : Nat} {h h1 : AHeap} {x : AObj} (o : Only (some (i, 0)) n h h1) (hn : n ≠ 0) : Only (some (i, 0)) n h (h1.set i x) := ⟨by simp; exact o.1, fun j hj hne => by rw [set_ne (fun e => hne i rfl hn e.symm)]; exact o.2 j hj hne⟩
theorem Row.only {b : Nat} {h h' : AHeap} {a a' : Pt} {n m : Nat} {cs : List AVal} (r : Row b h a m cs) (o : Only a' n h h') (hb : ∀ i, a' = some (i, 0) → n ≠ 0 → b ≤ i) : Row b h' a m cs := by
  obtain ⟨hl, r⟩ := r
  refine ⟨hl, r.imp id ?_⟩
  rintro ⟨i, o', t, all, ro, ha, hi, hg, x⟩
  exact ⟨i, o', t, all, ro, ha, hi, by rw [o.2 i (Own.lt hg) fun j hj hn => by have := hb j hj hn; omega]; exact hg, x⟩
theorem putRow_length {cs vs : List AVal} {o : Nat} (h : o + vs.length ≤ cs.length) : (putRow cs o vs).length = cs.length := by unfold putRow; simp; omega
theorem put_two {L : List Nd} {g : Nat} {x y : List Nat} (hg : g < L.length) : putRow (putRow (flat eP L) (g * 2) [.str x]) (g * 2 + 1) [.str y] = flat eP (L.take g ++ (x, y) :: L.drop (g + 1)) := by
  have h1 : flat eP L = flat eP (L.take g) ++ .str L[g].1 :: .str L[g].2 :: flat eP (L.drop (g + 1)) := by
    have e0 : L = L.take g ++ L[g] :: L.drop (g + 1) := by rw [← List.drop_eq_getElem_cons hg, List.take_append_drop]
    have := congrArg (flat eP) e0
    rw [flat_append, flat_cons] at this
    exact this
  have hA : (flat eP (L.take g)).length = g * 2 := by rw [flat_length eP_len, List.length_take]; omega
  generalize hAe : flat eP (L.take g) = A at *
  generalize hB : flat eP (L.drop (g + 1)) = B at *
  rw [h1]
  have e1 : putRow (A ++ AVal.str L[g].1 :: AVal.str L[g].2 :: B) (g * 2) [.str x] = A ++ .str x :: .str L[g].2 :: B := by
    unfold putRow
    rw [← hA, List.take_left, show A.length + [AVal.str x].length = A.length + 1 from rfl, ← List.drop_drop, List.drop_left]
    simp
  rw [e1]
  unfold putRow
  have e2 : (A ++ .str x :: .str L[g].2 :: B).take (g * 2 + 1) = A ++ [.str x] := by rw [← hA, List.take_length_add_append]; rfl
  have e3 : (A ++ .str x :: .str L[g].2 :: B).drop (g * 2 + 1 + [AVal.str y].length) = B := by
    rw [show g * 2 + 1 + [AVal.str y].length = A.length + 2 by rw [hA]; rfl, ← List.drop_drop, List.drop_left]; rfl
  rw [e2, e3]
  rw [flat_append, flat_cons, hB, hAe]
  simp [eP]
def markP (k : Int) (n : Nat) : List Nd := (List.range n).map fun (j : Nat) => (markT (k + 2 * j), markT (k + 2 * j + 1))
theorem markP_len (k : Int) (n : Nat) : (markP k n).length = n := by simp [markP]
theorem markP_succ (k : Int) (n : Nat) : markP k (n + 1) = markP k n ++ [(markT (k + 2 * n), markT (k + 2 * n + 1))] := by simp [markP, List.range_succ]
theorem markP_get (k : Int) {n g : Nat} (h : g < n) : (markP k n)[g]'(by rw [markP_len]; exact h) = (markT (k + 2 * g), markT (k + 2 * g + 1)) := by simp [markP]
theorem markNeeds_ok {h : AHeap} {b : Nat} {a : Pt} {n c : Nat} {e : Bool} {l : List Nd} {k : Int} (f : FreshR t_impl_Need eP b h a n l) (hk : 0 ≤ k ∧ k + 2 * n ≤ 4611686018427387000) :
    SCall pg n_laws_markNeedS [.slice a n c e, .int .i64 k] h fun v h' => v = .int .i64 (k + 2 * n) ∧ Only a n h h' ∧ FreshR t_impl_Need eP b h' a n (markP k n) := by
  apply F_laws_markNeedS.call
  obtain ⟨hl, hf⟩ := f
  refine F_laws_markNeedS.L2ind _ _ _ _ _ (J := fun (g : Nat) x1 x5 h' => x5 = (g : Int) ∧ g ≤ n ∧ x1 = k + 2 * g ∧ Only a n h h' ∧ (n = 0 ∨ ∃ i, a = some (i, 0) ∧ b ≤ i ∧ h'[i]? = some (.cells t_impl_Need (flat eP (markP k g ++ l.drop g)) false))) (fun g => n - g) ?_ 0 _ _ _
    ⟨rfl, by omega, by simp, Only.refl _ _ _, by simpa [markP] using hf⟩
  rintro g x1 x5 h' ⟨rfl, hg, rfl, hO, hst⟩ R hR
  unfold F_laws_markNeedS.L2t
  refine bcase_dec (fun hlt => ?_) (fun hge => ?_)
  · rcases hst with h0 | ⟨i, rfl, hbi, ho⟩
    · omega
    have hn0 : n ≠ 0 := by omega
    have hgl : g < (markP k g ++ l.drop g).length := by simp [markP_len]; omega
    have hlen : (flat eP (markP k g ++ l.drop g)).length = n * 2 := by rw [flat_length eP_len]; simp [markP_len]; omega
    refine (markText_ok (by omega)).mono ?_
    rintro v h1 ⟨rfl, s1⟩
    simp only [xStr_some, xSome_some, Int.toNat_natCast, Nat.zero_add, Nat.add_zero]
    have ho1 : h1[i]? = some (.cells t_impl_Need (flat eP (markP k g ++ l.drop g)) false) := by rw [s1.eq i (Own.lt ho)]; exact ho
    rw [hStore_of ho1 (by rw [hlen]; simp; omega)]
    simp only [xHeap_some]
    refine ⟨by omega, (markText_ok (by rw [IntWalk.i64_in _ (by omega)]; omega)).mono ?_⟩
    rintro v h2 ⟨rfl, s2⟩
    simp only [xStr_some]
    rw [IntWalk.i64_in (k + 2 * (g : Int) + 1) (by omega)]
    have ho2 : h2[i]? = some (.cells t_impl_Need (putRow (flat eP (markP k g ++ l.drop g)) (g * 2) [.str (markT (k + 2 * g))]) false) := by rw [s2.eq i (by simp; exact Own.lt ho1)]; exact set_get ho1
    have hlen2 : (putRow (flat eP (markP k g ++ l.drop g)) (g * 2) [.str (markT (k + 2 * g))]).length = n * 2 := by rw [putRow_length (by rw [hlen]; simp; omega), hlen]
    rw [hStore_of ho2 (by rw [hlen2]; simp; omega)]
    simp only [xHeap_some]
    rw [IntWalk.i64_in _ (by omega), wrap_nat (by omega)]
    refine ⟨by omega, hR (g + 1) _ _ _ (by omega) ⟨rfl, by omega, by omega, ((hO.same s1).set hn0 |>.same s2).set hn0, .inr ⟨i, rfl, hbi, ?_⟩⟩⟩
    rw [set_get ho2, put_two hgl]
    congr 3
    rw [List.take_left' (markP_len k g), markP_succ]
    have : (markP k g ++ l.drop g).drop (g + 1) = l.drop (g + 1) := by
      rw [← List.drop_drop, List.drop_left' (markP_len k g), List.drop_drop]
    rw [this]; simp
  · have : g = n := by omega
    subst this
    apply F_laws_markNeedS.A2x0i
    refine ⟨rfl, hO, markP_len _ _, ?_⟩
    rw [List.drop_of_length_le (by omega), List.append_nil] at hst
    exact hst
theorem heldNeeds_ok {h : AHeap} {a : Pt} {n c : Nat} {e : Bool} {k : Int} (r : Row h.length h a (n * 2) (flat eP (markP k n))) (hk : 0 ≤ k ∧ k + 2 * n ≤ 4611686018427387000) :
    SCall pg n_laws_heldNeedS [.slice a n c e, .int .i64 k] h fun v h' => v = .int .i64 (k + 2 * n) ∧ Same h.length h h' := by
  apply F_laws_heldNeedS.call
  refine F_laws_heldNeedS.L2ind _ _ _ _ _ (J := fun (g : Nat) x1 x5 h' => x5 = (g : Int) ∧ g ≤ n ∧ x1 = k + 2 * g ∧ Same h.length h h') (fun g => n - g) ?_ 0 _ _ _ ⟨rfl, by omega, by simp, Same.refl _ _⟩
  rintro g x1 x5 h' ⟨rfl, hg, rfl, hS⟩ R hR
  unfold F_laws_heldNeedS.L2t
  refine bcase_dec (fun hlt => ?_) (fun hge => ?_)
  · obtain ⟨i, o, hgl, rfl, hi, _, hc⟩ := Row.el eP_len (r.same hS) (markP_len k n) (k := g) (by omega) (by omega)
    rw [markP_get k (by omega)] at hc
    have c0 := hc 0 (by omega)
    have c1 := hc 1 (by omega)
    simp only [eP, List.getElem?_cons_zero, List.getElem?_cons_succ] at c0 c1
    simp only [xSome_some, Int.toNat_natCast, c0, xStr_some]
    refine ⟨by omega, (markText_ok (by omega)).mono ?_⟩
    rintro v h1 ⟨rfl, s1⟩
    have hl := hS.le
    simp only [xStr_some]
    have c01 := (s1.mono hl).cell (by omega) c0
    have c11 := (s1.mono hl).cell (by omega) c1
    refine ⟨c01, ?_⟩
    simp only [decide_true, Bool.not_true, bcase_false, xSome_some, c11, xStr_some]
    refine ⟨by omega, (markText_ok (by rw [IntWalk.i64_in _ (by omega)]; omega)).mono ?_⟩
    rintro v h2 ⟨rfl, s2⟩
    rw [IntWalk.i64_in (k + 2 * (g : Int) + 1) (by omega)]
    simp only [xStr_some, decide_true, Bool.not_true, bcase_false]
    have S1 := hS.trans (s1.mono hl)
    have c12 := (s2.mono S1.le).cell (by omega) c11
    rw [IntWalk.i64_in _ (by omega), wrap_nat (by omega)]
    exact ⟨c12, hR (g + 1) _ _ _ (by omega) ⟨rfl, by omega, by omega, S1.trans (s2.mono S1.le)⟩⟩
  · have : g = n := by omega
    subst this
    exact F_laws_heldNeedS.A2x0i _ _ _ ⟨rfl, hS⟩

theorem needsP_len (s : List Nat) (hs : s.length ≤ 1048576) : (needsP s).1.length ≤ 1048577 := by
  unfold needsP
  split
  · simp
  · split
    · rename_i l hl
      have := mapM_take_len hl
      have h2 := splitN_length 38 s
      have := List.count_le_length (a := 38) (l := s)
      simp; omega
    · simp
theorem FreshR.only {α : Type} {ty : TypeId} {enc : α → List AVal} {b : Nat} {h h' : AHeap} {a a' : Pt} {n m : Nat} {l : List α} (f : FreshR ty enc b h a n l) (o : Only a' m h h') (hb : ∀ i, a' = some (i, 0) → m ≠ 0 → ∀ j, a = some (j, 0) → j ≠ i) : FreshR ty enc b h' a n l :=
  ⟨f.1, f.2.imp id fun ⟨i, ha, hbi, hi⟩ => ⟨i, ha, hbi, by rw [o.2 i (Own.lt hi) fun j hj hn => hb j hj hn i ha]; exact hi⟩⟩
theorem lawParseNeeds {h : AHeap} {s : List Nat} (hb : ∀ b ∈ s, b < 256) : SCall pg n_laws_FnExactParseNeeds [.str s] h fun v _ => v = .bool true := by
  apply F_laws_FnExactParseNeeds.call
  refine bcase_dec (fun _ => rfl) (fun hle => ?_)
  have hs : s.length ≤ 1048576 := by omega
  have hn := needsP_len s hs
  refine (sParseNeeds_ok s hs hb).mono ?_
  rintro v h1 ⟨s1, a1, n1, c1, e1, rfl, f1⟩
  simp only [xTup_tup, xCons_cons, xSl_some, xBool_some, xNil_nil]
  refine (parseNeeds_ok s hs).mono ?_
  rintro v h2 ⟨s2, a2, n2, c2, e2, rfl, f2⟩
  simp only [xTup_tup, xCons_cons, xSl_some, xBool_some, xNil_nil]
  have g1 := (f1.same s2).row eP_len
  have m1 := f1.1
  have m2 := f2.1
  refine (eqNeeds_ok (f2.row eP_len) g1 (by omega) rfl).mono ?_
  rintro v h3 ⟨rfl, s3⟩
  simp only [xBool_some, Bool.not_true, bcase_false, beq_self_eq_true]
  apply F_laws_FnExactParseNeeds.J7i
  refine (markNeeds_ok (f2.same s3) (k := 1) (by omega)).mono ?_
  rintro v h4 ⟨rfl, o4, f4⟩
  simp only [xInt_some]
  refine (heldNeeds_ok (f4.row eP_len) (by omega)).mono ?_
  rintro v h5 ⟨rfl, s5⟩
  simp only [xInt_some]
  rw [show decide ((1 + 2 * (n2 : Int)) < 0) = false by simp; omega]
  simp only [bcase_false, beq_self_eq_true, Bool.not_true]
  refine (parseNeeds_ok s hs).mono ?_
  rintro v h6 ⟨s6, a6, n6, c6, e6, rfl, f6⟩
  simp only [xTup_tup, xCons_cons, xSl_some, xBool_some, xNil_nil]
  have m6 := f6.1
  have o5 := o4.same s5
  have r1 : Row h1.length h1 a1 (n1 * 2) (flat eP (needsP s).1) := f1.row eP_len
  have r3 := r1.same s2 |>.mono s2.le |>.same s3 |>.mono s3.le
  have r1' : Row h1.length h3 a1 (n1 * 2) (flat eP (needsP s).1) := (r1.same s2).same (s3.mono s2.le)
  have r5 : Row h1.length h5 a1 (n1 * 2) (flat eP (needsP s).1) := r1'.only o5 fun i hi hn => by
    rcases f2.2 with h0 | ⟨j, ha, hbj, _⟩
    · exact absurd h0 hn
    · rw [hi] at ha; cases ha; exact hbj
  have le15 : h1.length ≤ h5.length := by have := s2.le; have := s3.le; have := o5.1; omega
  have r6 : Row h6.length h6 a1 (n1 * 2) (flat eP (needsP s).1) := (r5.same (s6.mono le15)).mono (by have := s6.le; omega)
  refine (eqNeeds_ok (f6.row eP_len) r6 (by omega) rfl).mono ?_
  rintro v h7 ⟨rfl, s7⟩
  simp only [xBool_some, Bool.not_true, bcase_false, beq_self_eq_true]
  apply F_laws_FnExactParseNeeds.J18i
  have r7 := (((f4.row eP_len).same s5).mono s5.le |>.same s6).mono s6.le |>.same s7 |>.mono s7.le
  refine (heldNeeds_ok r7 (by omega)).mono ?_
  rintro v h8 ⟨rfl, s8⟩
  simp only [xInt_some]
  rw [show decide ((1 + 2 * (n2 : Int)) < 0) = false by simp; omega]
  simp only [bcase_false, beq_self_eq_true, Bool.not_true]
end Go.Sim
