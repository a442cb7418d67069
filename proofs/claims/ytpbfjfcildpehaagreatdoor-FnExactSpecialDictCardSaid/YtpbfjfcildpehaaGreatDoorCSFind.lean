/- A part of the proof of a statement of this seat: see the text that holds the theorem. No condition. -/
import Derived.Test.YtpbfjfcildpehaaGreatDoorPTCMarkW
import Derived.Test.YtpbfjfcildpehaaGreatDoorPAsk
import Derived.Test.YtpbfjfcildpehaaGreatDoorPSearch
import Derived.Test.YtpbfjfcildpehaaGreatDoorCWRep
import Derived.Test.YtpbfjfcildpehaaGreatDoorCTy
import Derived.Test.YtpbfjfcildpehaaGreatDoorPTCFind
import Derived.Test.YtpbfjfcildpehaaGreatDoorPTCSApply
import Derived.Test.YtpbfjfcildpehaaGreatDoorNm
set_option linter.unusedVariables false
set_option linter.unusedSimpArgs false
set_option linter.all false
set_option linter.unusedVariables false
set_option linter.unusedSimpArgs false
set_option maxRecDepth 20000
namespace Go.Sim
open Go Go.RowKit

theorem dynF_fn {g : FuncId} {caps : List AVal} {K : FuncId → List AVal → Prop} : dynF (.fn g caps) K = K g caps := rfl
/-- Growing a row of one's own, by whatever lies anywhere. -/
theorem Vec.app0 {P : Program} {t ty : TypeId} {h : AHeap} {i n c sz : Nat} {e : Bool} {xa : Pt} {m c' : Nat} {e' : Bool} {cs new : List AVal} {K : AVal → AHeap → Prop} (hi : h[i]? = some (.cells ty cs false))
    (hu : P.underlying t = some (.slice ty)) (hc : P.cellsOf ty = sz) (hok : P.okElem ty = true) (hby : P.bytesOf ty ≤ 127) (hn : cs.length = n * sz) (hx : rowOf h xa (m * sz) = some new) (hl : new.all AVal.leaf = true)
    (hle : n + m ≤ 1099511627776) (hk : ∀ h', h'.length = h.length + 1 → h'[h.length]? = some (.cells ty (cs ++ new) false) → (∀ j, j < h.length → j ≠ i → h'[j]? = h[j]?) →
      K (.slice (some (h.length, 0)) (n + m) (n + m) false) h') : appendA P t h (.slice (some (i, 0)) n c e) (.slice xa m c' e') K := by
  unfold appendA
  simp only [hu, hc, hx, xRow_some]
  refine ⟨⟨hok, ?_, hl⟩, .inl ⟨by trivial, ?_⟩⟩
  · have : (n + m) * (P.bytesOf ty + 1) ≤ (n + m) * 128 := Nat.mul_le_mul_left _ (by omega)
    omega
  · simp only [ownRow, hi, true_and]
    refine ⟨hn, hk _ (by simp) (by rw [List.getElem?_append_right (by simp)]; simp) fun j hj hne => ?_⟩
    rw [List.getElem?_append_left (by simpa using hj), List.getElem?_set_ne (fun e => hne e.symm)]
theorem cloneN_ok {h : AHeap} {a : Pt} {n c : Nat} {e : Bool} {l : List Nd} (r : Row h.length h a (n * 2) (flat eP l)) (he : a = none → e = true) (hn : n ≤ 1048576) :
    SCall pg n_slices_Clone_L_impl_Need_impl_Need [.slice a n c e] h fun v h' => ∃ a' c' e', v = .slice a' n c' e' ∧ NVec h.length h' a' n c' l ∧ Same h.length h h' ∧ (a' = none → e' = true) := by
  have hl : l.length = n := by have := r.1; rw [flat_length eP_len] at this; omega
  apply F_slices_Clone_L_impl_Need_impl_Need.call
  refine ⟨he, ?_⟩
  match a with
  | none =>
    have h0 : n = 0 := by
      rcases r.2 with h0 | ⟨i, o, t, all, ro, ha, _⟩
      · omega
      · cases ha
    subst h0
    have : l = [] := List.eq_nil_of_length_eq_zero hl
    subst this
    exact ⟨none, 0, true, rfl, ⟨.inl ⟨rfl, rfl, rfl, rfl⟩, rfl, fun i hi => by cases hi⟩, Same.refl _ _, fun _ => rfl⟩
  | some (i, o) =>
    simp only [Option.isNone_some, letH_def]
    generalize hh0 : h ++ [AObj.cells t_impl_Need [] false] = h0
    have s0 : Same h.length h h0 := by rw [← hh0]; exact same_last
    have o0 : h0[h.length]? = some (.cells t_impl_Need [] false) := by rw [← hh0]; simp
    have l0 : h0.length = h.length + 1 := by rw [← hh0]; simp
    refine bcase_intro (fun h => by cases h) (fun _ => ?_)
    refine Vec.app0 (n := 0) o0 u_L_Need c_Need k_Need b_Need (by simp) (r.same' s0).rowOf (flat_leaf (enc := eP) (fun _ => rfl) l) (by omega) (fun h1 hl1 hi1 hk1 => ?_)
    simp only [xSl_some, Nat.zero_add]
    exact ⟨_, _, _, rfl, ⟨Vec.mk1 (by simpa using hi1), hl, fun j hj => by cases hj; omega⟩, ⟨by omega, fun j hj => by rw [hk1 j (by omega) (by omega)]; exact s0.eq j hj⟩, fun h => by cases h⟩
/-- A search in memory. -/
structure AskS (hb : AHeap) (i : Nat) (u v : AVal) (sp : Bool) (h : AHeap) (qa : Pt) (asked : List Nd) (fl : Nd) : Prop where
  same : Same hb.length hb h
  ge : hb.length ≤ i
  ob : ∃ qn qc qe x7, h[i]? = some (.cells t_impl_search [u, v, .bool sp, .fn n_impl_searched_lit1 [], .slice qa qn qc qe, .str fl.1, .str fl.2, x7] false) ∧ NVec hb.length h qa qn qc asked
  ne : ∀ q, qa = some (q, 0) → q ≠ i
section
variable {hb : AHeap} {i : Nat} {u v : AVal} {sp : Bool} {h : AHeap} {qa : Pt} {asked : List Nd} {fl : Nd}
theorem AskS.step {h' : AHeap} (r : AskS hb i u v sp h qa asked fl) (k : Same h.length h h') : AskS hb i u v sp h' qa asked fl := by
  obtain ⟨qn, qc, qe, x7, ho, hv⟩ := r.ob
  exact ⟨r.same.trans (k.mono r.same.le), r.ge, ⟨qn, qc, qe, x7, k.get ho (Own.lt ho), hv.same k⟩, r.ne⟩
theorem AskS.lt (r : AskS hb i u v sp h qa asked fl) : i < h.length := by obtain ⟨_, _, _, _, ho, _⟩ := r.ob; exact Own.lt ho
theorem AskS.low (r : AskS hb i u v sp h qa asked fl) : ∀ q, qa = some (q, 0) → hb.length ≤ q ∧ q < h.length := by
  obtain ⟨qn, qc, qe, x7, ho, hv⟩ := r.ob
  exact fun q hq => ⟨hv.low q hq, hv.vec.lt' hq⟩
theorem AskS.write {qa' : Pt} {qn qc : Nat} {qe : Bool} {x7 : AVal} {x : AObj} {l : List Nd} {fl' : Nd} (sm : Same hb.length hb h) (ge : hb.length ≤ i) (ho : h[i]? = some x)
    (hv : NVec hb.length h qa' qn qc l) (ne : ∀ q, qa' = some (q, 0) → q ≠ i) : AskS hb i u v sp (h.set i (.cells t_impl_search [u, v, .bool sp, .fn n_impl_searched_lit1 [], .slice qa' qn qc qe, .str fl'.1, .str fl'.2, x7] false)) qa' l fl' := by
  refine ⟨⟨by simp; exact sm.le, fun j hj => by rw [set_ne (by omega)]; exact sm.eq j hj⟩, ge, ⟨qn, qc, qe, x7, set_get ho, ⟨?_, hv.len, hv.low⟩⟩, ne⟩
  exact hv.vec.agree fun j hj => set_ne (fun e => ne j hj e.symm)
/-- What a search leaves. -/
def AskQ (hb : AHeap) (i : Nat) (u v : AVal) (sp : Bool) (h : AHeap) (qa : Pt) (r : Fnd × List Nd) (x : AVal) (h' : AHeap) : Prop :=
  ∃ qa' fl', x = .tup [.str (fTxt r.1), .str (fWhy r.1)] ∧ AskS hb i u v sp h' qa' r.2 fl' ∧ FrS i qa h h' qa' ∧ ∀ y n, r.1 = .no y n → (y ≠ [] ∧ y ≠ wrongT) ∧ fl' = n
theorem AskQ.of {h0 : AHeap} {qa0 : Pt} {r : Fnd × List Nd} {x : AVal} {h' : AHeap} (F : FrS i qa0 h0 h qa) (q : AskQ hb i u v sp h qa r x h') : AskQ hb i u v sp h0 qa0 r x h' := by
  obtain ⟨qa', fl', e, a, f, z⟩ := q
  exact ⟨qa', fl', e, a, F.trans f, z⟩
/-- The search ends here. -/
theorem fail_ok (y : List Nat) (hy : y ≠ [] ∧ y ≠ wrongT) (rd : AskS hb i u v sp h qa asked fl) {n : Nd} {p0 p1 p2 : Nat} {a : Pt} {m c : Nat} {e : Bool} {st : List Nd} (hp0 : h[p0]? = some (.cells t_P_impl_search [.ptr (some (i, 0))] false))
    (hp1 : h[p1]? = some (.cells t_impl_Need [.str n.1, .str n.2] false)) (hp2 : h[p2]? = some (.cells t_L_impl_Need [.slice a m c e] false)) (row : Row h.length h a (m * 2) (flat eP st)) (he : a = none → e = true) (hm : m ≤ 1048576) (hne : p0 ≠ i) :
    SCall pg n_impl_search_ask_lit1 [.str y, .ptr (some (p1, 0)), .ptr (some (p2, 0)), .ptr (some (p0, 0))] h (AskQ hb i u v sp h qa (.no y n, asked)) := by
  apply F_impl_search_ask_lit1.call
  simp only [hCell_of hp0, row_all2 hp1, hCell_of hp2, List.getElem?_cons_zero, xPtr_some, xRow_some, xCons_cons, xNil_nil, xStr_some, xSl_some, true_and]
  refine (cloneN_ok row he hm).mono ?_
  rintro x h2 ⟨a', c', e', rfl, nv, s2, _⟩
  have q0 := s2.get hp0 (Own.lt hp0)
  have q1 := s2.get hp1 (Own.lt hp1)
  have rd2 := rd.step s2
  obtain ⟨qn, qc, qe, x7, ho, hv⟩ := rd2.ob
  simp only [hCell_of q0, row_all2 q1, List.getElem?_cons_zero, xSl_some, xSome_some, true_and]
  rw [hStore_of ho (by simp)]
  simp only [xHeap_some, putRow, List.take_succ_cons, List.take_zero, List.length_cons, List.length_nil, List.drop_succ_cons, List.drop_zero, List.drop_nil, List.cons_append, List.nil_append, List.append_nil]
  refine ⟨by rw [hCell_of (by rw [set_ne hne.symm]; exact q0)]; rfl, ?_⟩
  rw [hStore_of (set_get ho) (by simp)]
  simp only [xHeap_some, putRow, List.take_succ_cons, List.take_zero, List.length_cons, List.length_nil, List.drop_succ_cons, List.drop_zero, List.drop_nil, List.cons_append, List.nil_append, List.append_nil, List.set_set]
  refine ⟨qa, n, rfl, AskS.write rd2.same rd.ge ho hv rd.ne, (FrS.of_same s2).trans FrS.set, fun y' n' hyn => ?_⟩
  cases hyn
  exact ⟨hy, rfl⟩
end
/-- The dictionary of an instance by its number. -/
def decX (x : Int) : List Nat := [48 + x.toNat]
/-- The search with that much fuel does as told. -/
def AskC (f : Nat) (hb : AHeap) (a0 a1 : Pt) (n0 c0 n1 c1 : Nat) (e0 e1 : Bool) (w : Wd) (sp : Bool) : Prop := ∀ {h : AHeap} {i : Nat} {qa : Pt} {asked : List Nd} {fl n : Nd} {a2 : Pt} {n2 c2 : Nat} {e2 : Bool} {st : List Nd}, AskS hb i (.slice a0 n0 c0 e0) (.slice a1 n1 c1 e1) sp h qa asked fl → asked.length ≤ 300 → n2 + f = 31 →
      Row h.length h a2 (n2 * 2) (flat eP st) → (a2 = none → e2 = true) → (∀ j o, n2 ≠ 0 → a2 = some (j, o) → j ≠ i ∧ ∀ q, qa = some (q, 0) → j ≠ q) →
      SCall pg n_impl_search_ask [.ptr (some (i, 0)), .agg [.str n.1, .str n.2], .slice a2 n2 c2 e2] h (AskQ hb i (.slice a0 n0 c0 e0) (.slice a1 n1 c1 e1) sp h qa (askP (wk w) sp decX f asked n))
theorem decX_ok {k : Nat} (h : k < 10) : decN k = decX k := by rw [decN_lt h]; rfl
theorem worldOk_len {w : Wd} (h : worldOk w = true) : w.is.length ≤ 10 := by
  unfold worldOk at h
  simp only [Bool.and_eq_true, decide_eq_true_eq] at h
  exact h.1.2
/-- The parts of a dictionary so far. -/
noncomputable def partsW (w : Wd) (sp : Bool) (f : Nat) (k : Nat) (asked : List Nd) (n : Nd) (ms : List Nd) (g : Nat) : (Fnd × List Nd) × Nat := (ms.take g).foldl (partP (askP (wk w) sp decX f)) ((.ok (decX k), asked ++ [n]), 0)
theorem partsW_bound {w : Wd} {sp : Bool} {f k : Nat} {asked : List Nd} {n : Nd} {ms : List Nd} (h : ¬ 300 ≤ asked.length) (g : Nat) :
    (partsW w sp f k asked n ms g).1.2.length ≤ 300 ∧ ∀ s, (partsW w sp f k asked n ms g).1.1 = .ok s → s.length ≤ 3000 := by
  have := part_bound (g := askP (wk w) sp decX f) (fun a m ha => ask_bound (fun x => by simp [decX]) f a m ha) asked.length (ms.take g) ((.ok (decX k), asked ++ [n]), 0) (by simp; omega) (by simp) (fun s hs => by
    cases hs; simp [decX]; omega)
  simp only at this
  exact ⟨this.2.1, fun s hs => by have := this.2.2 s hs; have := this; omega⟩
theorem partsW_idx {w : Wd} {sp : Bool} {f k : Nat} {asked : List Nd} {n : Nd} {ms : List Nd} {g : Nat} (hg : g ≤ ms.length) {out : List Nat} (h : (partsW w sp f k asked n ms g).1.1 = .ok out) : (partsW w sp f k asked n ms g).2 = g := by
  have := part_idx (ms.take g) ((.ok (decX k), asked ++ [n]), 0) h
  unfold partsW
  rw [this]; simp; omega
theorem partsW_succ {w : Wd} {sp : Bool} {f k : Nat} {asked : List Nd} {n : Nd} {ms : List Nd} {g : Nat} (hg : g < ms.length) : partsW w sp f k asked n ms (g + 1) = partP (askP (wk w) sp decX f) (partsW w sp f k asked n ms g) ms[g] := part_take _ ms _ g hg
theorem partsW_fail {w : Wd} {sp : Bool} {f k : Nat} {asked : List Nd} {n : Nd} {ms : List Nd} {g : Nat} {y : List Nat} {m : Nd} {a : List Nd} {q : Nat} (h : partsW w sp f k asked n ms g = ((.no y m, a), q)) : partsW w sp f k asked n ms ms.length = ((.no y m, a), q) := by
  have := part_fail (askP (wk w) sp decX f) ms ((.ok (decX k), asked ++ [n]), 0) g h
  unfold partsW
  rw [List.take_length]; exact this
theorem askGo {hb : AHeap} {a0 a1 : Pt} {n0 c0 n1 c1 : Nat} {e0 e1 : Bool} {w : Wd} (r : WRep hb a0 n0 c0 a1 n1 c1 w) (b : WB w) (hw : worldOk w = true) (sp : Bool) (f : Nat) (ih : AskC f hb a0 a1 n0 c0 n1 c1 e0 e1 w sp)
    {h : AHeap} {i : Nat} {qa : Pt} {asked : List Nd} {fl n : Nd} {a2 : Pt} {n2 c2 : Nat} {e2 : Bool} {st : List Nd} (rd : AskS hb i (.slice a0 n0 c0 e0) (.slice a1 n1 c1 e1) sp h qa (asked ++ [n]) fl) (h300 : ¬ 300 ≤ asked.length) (hf : n2 + (f + 1) = 31)
    (row : Row h.length h a2 (n2 * 2) (flat eP st)) (he2 : a2 = none → e2 = true) {p0 p1 p2 : Nat} (hp0 : h[p0]? = some (.cells t_P_impl_search [.ptr (some (i, 0))] false)) (hp1 : h[p1]? = some (.cells t_impl_Need [.str n.1, .str n.2] false))
    (hp2 : h[p2]? = some (.cells t_L_impl_Need [.slice a2 n2 c2 e2] false)) (hi0 : p0 ≠ i) (hq0 : ∀ q, qa = some (q, 0) → p0 ≠ q) {k : Nat} (hk : k < w.is.length) (hpick : (pickP (wk w) sp n).1 = (k : Int)) (Q : QT)
    (hQ : ∀ x h', AskQ hb i (.slice a0 n0 c0 e0) (.slice a1 n1 c1 e1) sp h qa (askP (wk w) sp decX (f + 1) asked n) x h' → Q x h') : F_impl_search_ask.J18 Q p0 0 (k : Int) p1 0 p1 0 p2 0 p0 0 p2 0 h := by
  have hstl : st.length = n2 := by have := row.1; rw [flat_length eP_len] at this; omega
  have hl10 := worldOk_len hw
  have hl1 := r.len1
  obtain ⟨qn, qc, qe, x7, ho, hv⟩ := rd.ob
  have hlow := rd.low
  have hil := rd.lt
  apply F_impl_search_ask.J18i
  obtain ⟨ii, oi, hki, na, nn, ncp, ne, rfl, _, hri, _, _, _, hrow, hnl⟩ := (r.same rd.same).inst (k := k) (by omega)
  have hbk := b.is _ (List.getElem_mem hk)
  simp only [hCell_of hp0, hCell_of hp1, hCell_of ho, Nat.zero_add, List.getElem?_cons_succ, List.getElem?_cons_zero, xPtr_some, xSome_some, xSl_some, Int.toNat_natCast, hri, xRow_some, xCons_cons, xNil_nil, xStr_some, true_and]
  refine ⟨by omega, ?_⟩
  refine (needs_ok (i := w.is[k]) (t := n.2) hrow (by omega)).mono ?_
  rintro v h2 ⟨s2, ma, mn, mc, me, rfl, fm⟩
  have rd2 := rd.step s2
  have F2 : FrS i qa h h2 qa := FrS.of_same s2
  have q0 := s2.get hp0 (Own.lt hp0)
  have q1 := s2.get hp1 (Own.lt hp1)
  have q2 := s2.get hp2 (Own.lt hp2)
  have o2 := s2.get ho (Own.lt ho)
  have row2 := row.same' s2
  have l2 := s2.le
  have hneeds : (wk w).needs (k : Int) n.2 = needsW w.is[k] n.2 := by show needsW (insAt w (k : Int)) n.2 = _; rw [insAt_of hk]
  simp only [xTup_tup, xCons_cons, xSl_some, xBool_some, xNil_nil, hCell_of q0, hCell_of o2, List.getElem?_cons_succ, List.getElem?_cons_zero, true_and]
  refine bcase_not (fun hok => ?_) (fun hok => ?_)
  · have hask := ask_big (k := wk w) (sp := sp) (dec := decX) (f := f) (n := n) h300 (by rw [hpick]; omega) (by rw [hpick, hneeds]; cases hh : needsW w.is[k] n.2 with | none => rfl | some _ => rw [hh] at hok; cases hok)
    refine (fail_ok bigT (by decide) rd2 q0 q1 q2 row2 he2 (by omega) hi0).mono ?_
    rintro x h' q
    obtain ⟨qa', fl', rfl, z⟩ := AskQ.of F2 q
    simp only [xTup_tup, xCons_cons, xStr_some, xNil_nil]
    exact hQ _ _ (by rw [hask]; exact ⟨qa', fl', rfl, z⟩)
  obtain ⟨ms, hms⟩ := Option.isSome_iff_exists.1 hok
  have hms3 := needs_all hw hk hms
  rw [hms] at fm
  simp only [Option.getD_some] at fm
  have hmn := fm.1
  have hask := ask_go (k := wk w) (sp := sp) (dec := decX) (f := f) (n := n) (asked := asked) h300 (by rw [hpick]; omega) (by rw [hpick, hneeds]; exact hms)
  rw [hpick] at hask
  have hask : askP (wk w) sp decX (f + 1) asked n = askEnd ms (partsW w sp f k asked n ms ms.length).1 := by rw [hask]; unfold partsW; rw [List.take_length]
  have key : ∀ (hL : AHeap) (qs cs : Nat) (es : Bool), Same h2.length h2 hL → Row hL.length hL (some (qs, 0)) ((n2 + 1) * 2) (flat eP (st ++ [n])) → h2.length ≤ qs → qs < hL.length →
      F_impl_search_ask.L24 Q p0 0 ma mn mc me (decX k) (some (qs, 0)) (n2 + 1) cs es ma mn mc me (((mn : Nat) : Int)) 0 hL := by
    intro hL qs cs es sL rowL hqs1 hqs2
    have rdL := rd2.step sL
    have FL := F2.trans (FrS.of_same sL)
    have fmL := fm.same sL
    have z0 := sL.get q0 (Own.lt q0)
    have lL := sL.le
    refine F_impl_search_ask.L24ind _ _ _ _ _ _ _ _ _ _ _ _ _ _ _ _ (J := fun (g : Nat) x15 x8 h' => x8 = (g : Int) ∧ g ≤ mn ∧ (partsW w sp f k asked n ms g).1.1 = .ok x15 ∧ ∃ qa' fl', AskS hb i (.slice a0 n0 c0 e0) (.slice (some (ii, oi)) n1 c1 e1) sp h' qa' (partsW w sp f k asked n ms g).1.2 fl' ∧ FrS i qa hL h' qa') (fun g => mn - g) ?_ 0 _ _ _ ⟨rfl, by omega, rfl, qa, fl, rdL, FrS.refl _ _ _⟩
    rintro g x15 x8 h' ⟨rfl, hg, hout, qa', fl', rdg, Fg⟩ R hR
    obtain ⟨hb1, hb2⟩ := partsW_bound (w := w) (sp := sp) (f := f) (k := k) (n := n) (ms := ms) h300 g
    have hb2 := hb2 _ hout
    have hidx := partsW_idx (by omega) hout
    have hne0 : ∀ j, h.length ≤ j → j < hL.length → j ≠ i ∧ ∀ q, qa = some (q, 0) → j ≠ q := fun j hj1 hj2 => ⟨by omega, fun q hq => by have := (hlow q hq).2; omega⟩
    unfold F_impl_search_ask.L24t
    refine bcase_dec (fun hlt => ?_) (fun hge => ?_)
    · have fmg : Row h'.length h' ma (mn * 2) (flat eP ms) := Fg.row (fmL.row eP_len) fun j o hn ha => by
        obtain ⟨_, h0 | ⟨j', hj', hb', hjj⟩⟩ := fmL
        · omega
        · rw [ha] at hj'
          cases hj'
          exact hne0 _ hb' (Own.lt hjj)
      obtain ⟨im, om, hgl, rfl, _, hrm, _⟩ := fmg.pr (k := g) (by omega)
      simp only [xSome_some, Int.toNat_natCast, hrm, xRow_some, xCons_cons, xNil_nil, xStr_some, letH_def]
      rw [store2]
      generalize hh7 : h' ++ [AObj.cells t_impl_Need [.str ms[g].1, .str ms[g].2] false] = h7
      have s7 : Same h'.length h' h7 := by rw [← hh7]; exact same_last
      have o7 : h7[h'.length]? = some (.cells t_impl_Need [.str ms[g].1, .str ms[g].2] false) := by rw [← hh7]; simp
      have zg := Fg.get z0 hi0 hq0
      have z7 := s7.get zg (Own.lt zg)
      simp only [xHeap_some, hCell_of z7, row_all2 o7, List.getElem?_cons_zero, xPtr_some, xRow_some, xCons_cons, xNil_nil, xStr_some]
      refine ⟨by omega, ?_⟩
      have rowg : Row h'.length h' (some (qs, 0)) ((n2 + 1) * 2) (flat eP (st ++ [n])) := Fg.row rowL fun j o hn ha => by cases ha; exact hne0 _ (by omega) hqs2
      have hgle := Fg.le
      refine (ih (n := ms[g]) (rdg.step s7) hb1 (by omega) (rowg.same' s7) (fun hh => by cases hh) (fun j o hn ha => ?_)).mono ?_
      · cases ha
        refine ⟨by omega, fun q hq => ?_⟩
        rcases Fg.pt with e | e
        · rw [e] at hq; have := (hlow q hq).2; omega
        · have := e q hq; omega
      rintro v h8 ⟨qa8, fl8, rfl, rd8, F8, hno⟩
      have F8' := (Fg.trans (FrS.of_same s7)).trans F8
      have hsucc := partsW_succ (w := w) (sp := sp) (f := f) (k := k) (asked := asked) (n := n) (ms := ms) hgl
      have hPg : partsW w sp f k asked n ms g = ((.ok x15, (partsW w sp f k asked n ms g).1.2), g) := Prod.ext (Prod.ext hout rfl) hidx
      rw [hPg] at hsucc
      unfold partP at hsucc
      simp only at hsucc
      simp only [xTup_tup, xCons_cons, xStr_some, xNil_nil]
      rcases hr : askP (wk w) sp decX f (partsW w sp f k asked n ms g).1.2 ms[g] with ⟨x, a'⟩
      rw [hr] at hsucc rd8 hno
      cases x with
      | no y m =>
        obtain ⟨hy, rfl⟩ := hno y m rfl
        simp only at hsucc
        have hall := partsW_fail hsucc
        refine bcase_not (fun hd => ?_) (fun hd => absurd (of_decide_eq_true hd) hy.1)
        refine hQ _ _ ?_
        rw [hask, hall]
        refine ⟨qa8, fl8, rfl, rd8, FL.trans F8', fun y' n' hyn => ?_⟩
        cases hyn
        exact ⟨hy, rfl⟩
      | ok d =>
        refine bcase_not (fun hd => absurd rfl (of_decide_eq_false hd)) (fun hd => ?_)
        simp only at hsucc
        obtain ⟨hc1, hc2⟩ := partsW_bound (w := w) (sp := sp) (f := f) (k := k) (n := n) (ms := ms) h300 (g + 1)
        have hc2 := hc2 _ (by rw [hsucc])
        simp only [List.length_append, List.length_cons] at hc2
        have fin : ∀ m3, m3 = mark3 g → F_impl_search_ask.J32 Q R x15 [m3] d (g : Int) (((mn : Nat) : Int)) (some (im, om)) mn mc me p0 0 (some (qs, 0)) (n2 + 1) cs es (some (im, om)) mn mc me h8 := by
          rintro m3 rfl
          apply F_impl_search_ask.J32i
          refine ⟨by simp; omega, by simp; omega, ?_⟩
          apply F_impl_search_ask.J33i
          rw [wrap_nat (by omega)]
          refine hR (g + 1) _ _ _ (by omega) ⟨rfl, by omega, by rw [hsucc]; simp, qa8, fl8, by rw [hsucc]; exact rd8, F8'⟩
        refine bcase_beq (fun h0 => fin _ (by unfold mark3; rw [if_pos (by omega)])) (fun h0 => fin _ (by unfold mark3; rw [if_neg (by omega)]))
    · apply F_impl_search_ask.A24x0i
      have : g = mn := by omega
      subst this
      have hend : partsW w sp f k asked n ms ms.length = ((.ok x15, (partsW w sp f k asked n ms g).1.2), g) := by rw [hmn]; exact Prod.ext (Prod.ext hout rfl) hidx
      have he : askP (wk w) sp decX (f + 1) asked n = (.ok (if ms = [] then x15 else x15 ++ [41]), (partsW w sp f k asked n ms g).1.2) := by rw [hask, hend]; rfl
      refine bcase_dec (fun hpos => ⟨by simp; omega, ?_⟩) (fun hpos => ?_)
      · apply F_impl_search_ask.J36i
        refine hQ _ _ ?_
        rw [he, if_neg (fun hm => by rw [hm] at hmn; simp at hmn; omega)]
        exact ⟨qa', fl', rfl, rdg, FL.trans Fg, fun y n h => by cases h⟩
      · apply F_impl_search_ask.J36i
        refine hQ _ _ ?_
        rw [he, if_pos (List.eq_nil_of_length_eq_zero (by omega))]
        exact ⟨qa', fl', rfl, rdg, FL.trans Fg, fun y n h => by cases h⟩
  refine (lib_itoaSmall (i := k) (by omega)).mono ?_
  rintro v h3 ⟨rfl, rfl⟩
  rw [decX_ok (by omega)]
  simp only [xStr_some, hCell_of q2, row_all2 q1, List.getElem?_cons_zero, xSl_some, xRow_some, xCons_cons, xNil_nil]
  refine ⟨?_, ?_⟩
  · refine (cloneN_ok row2 he2 (by omega)).mono ?_
    rintro v h4 ⟨a', c', e', rfl, nv, s4, _⟩
    have w1 := s4.get q1 (Own.lt q1)
    have w2 := s4.get q2 (Own.lt q2)
    have s5 : Same h4.length h4 (h4 ++ [AObj.cells t_impl_Need [.str n.1, .str n.2] false]) := same_last
    simp only [xSl_some, row_all2 w1, letH_def, true_and]
    refine ⟨by rw [hCell_of (s5.get w2 (Own.lt w2)), hCell_of w2], ?_⟩
    refine nv.vec.pushN u_L_Need c_Need k_Need b_Need (by rw [flat_length eP_len, nv.len]) rfl (by omega) rfl (by omega) (fun h6 hl6 hi6 hk6 => ?_)
    have hs4 := s4.le
    have S6 : Same h3.length h3 h6 := ⟨by omega, fun j hj => by rw [hk6 j (by omega) fun q hq => by have := nv.low q hq; omega]; exact s4.eq j hj⟩
    have x1 := S6.get q1 (Own.lt q1)
    have x2 := S6.get q2 (Own.lt q2)
    simp only [xSl_some]
    refine ⟨by rw [row_all2 x1, row_all2 (s5.get w1 (Own.lt w1))], by rw [hCell_of x2, hCell_of (s5.get w2 (Own.lt w2))], ?_⟩
    refine key h6 _ _ _ S6 ?_ (by omega) (by omega)
    exact ⟨by rw [flat_length eP_len]; simp [hstl], .inr ⟨_, _, _, _, _, rfl, by omega, hi6, by simp [flat_length eP_len, hstl, eP]; omega, by
      rw [List.drop_zero, List.take_of_length_le (by simp [flat_length eP_len, hstl, eP]; omega)]; simp [flat, eP]⟩⟩
  · have s5 : Same h3.length h3 (h3 ++ [AObj.cells t_impl_Need [.str n.1, .str n.2] false]) := same_last
    have b5 : (h3 ++ [AObj.cells t_impl_Need [.str n.1, .str n.2] false])[h3.length]? = some (AObj.cells t_impl_Need [.str n.1, .str n.2] false) := by simp
    simp only [letH_def]
    refine ⟨by rw [hCell_of (s5.get q2 (Own.lt q2))]; rfl, ?_⟩
    refine (cloneN_ok (row2.same' s5) he2 (by omega)).mono ?_
    rintro v h4 ⟨a', c', e', rfl, nv, s4, _⟩
    have S4 := s5.cat s4
    have w1 := S4.get q1 (Own.lt q1)
    have w2 := S4.get q2 (Own.lt q2)
    have b4 := s4.get b5 (Own.lt b5)
    simp only [xSl_some]
    refine ⟨by rw [row_all2 w1, row_all2 (s5.get q1 (Own.lt q1))], ?_⟩
    have hs4 := s4.le
    simp only [List.length_append, List.length_cons, List.length_nil] at hs4
    have hr4 : Row h4.length h4 (some (h3.length, 0)) (1 * 2) (flat eP [n]) := ⟨rfl, .inr ⟨h3.length, 0, _, _, _, rfl, by omega, b4, by simp, by simp [eP]⟩⟩
    refine nv.vec.app u_L_Need c_Need k_Need b_Need (by rw [flat_length eP_len, nv.len]) hr4.rowOf (flat_leaf (enc := eP) (fun _ => rfl) _) (by omega) (by omega) (fun h6 hl6 hi6 hk6 => ?_)
    have hnl := nv.low
    simp only [List.length_append, List.length_cons, List.length_nil] at hnl
    have S6 : Same h3.length h3 h6 := ⟨by omega, fun j hj => by rw [hk6 j (by omega) fun q hq => by have := hnl q hq; omega]; exact S4.eq j hj⟩
    have x1 := S6.get q1 (Own.lt q1)
    have x2 := S6.get q2 (Own.lt q2)
    simp only [xSl_some]
    refine ⟨by rw [row_all2 x1, row_all2 w1], by rw [hCell_of x2, hCell_of w2], ?_⟩
    refine key h6 _ _ _ S6 ?_ (by omega) (by omega)
    exact ⟨by rw [flat_length eP_len]; simp [hstl], .inr ⟨_, _, _, _, _, rfl, by omega, hi6, by simp [flat_length eP_len, hstl, eP]; omega, by
      rw [List.drop_zero, List.take_of_length_le (by simp [flat_length eP_len, hstl, eP]; omega)]; simp [flat, eP]⟩⟩
theorem ask_step {hb : AHeap} {a0 a1 : Pt} {n0 c0 n1 c1 : Nat} {e0 e1 : Bool} {w : Wd} (r : WRep hb a0 n0 c0 a1 n1 c1 w) (b : WB w) (hw : worldOk w = true) (sp : Bool) (f : Nat)
    (ih : ∀ f', f = f' + 1 → AskC f' hb a0 a1 n0 c0 n1 c1 e0 e1 w sp) : AskC f hb a0 a1 n0 c0 n1 c1 e0 e1 w sp := by
  intro h i qa asked fl n a2 n2 c2 e2 st rd hlen hf row he2 hst
  apply F_impl_search_ask.call
  simp only [letH_def]
  generalize hh0 : h ++ [AObj.cells t_P_impl_search [.ptr (some (i, 0))] false] = h0
  generalize hh1 : h0 ++ [AObj.cells t_impl_Need [.str n.1, .str n.2] false] = h1
  generalize hh2 : h1 ++ [AObj.cells t_L_impl_Need [.slice a2 n2 c2 e2] false] = h2
  have s0 : Same h.length h h0 := by rw [← hh0]; exact same_last
  have s1 : Same h0.length h0 h1 := by rw [← hh1]; exact same_last
  have s2 : Same h1.length h1 h2 := by rw [← hh2]; exact same_last
  have l0 : h0.length = h.length + 1 := by rw [← hh0]; simp
  have l1 : h1.length = h0.length + 1 := by rw [← hh1]; simp
  have l2 : h2.length = h1.length + 1 := by rw [← hh2]; simp
  have p0 : h0[h.length]? = some (.cells t_P_impl_search [.ptr (some (i, 0))] false) := by rw [← hh0]; simp
  have p0 := s2.get (s1.get p0 (Own.lt p0)) (by have := Own.lt p0; omega)
  have p1 : h1[h0.length]? = some (.cells t_impl_Need [.str n.1, .str n.2] false) := by rw [← hh1]; simp
  have p1 := s2.get p1 (Own.lt p1)
  have p2 : h2[h1.length]? = some (.cells t_L_impl_Need [.slice a2 n2 c2 e2] false) := by rw [← hh2]; simp
  have S2 := (s0.cat s1).cat s2
  have hil := rd.lt
  have hlow := rd.low
  have rd2 := rd.step S2
  obtain ⟨qn, qc, qe, x7, ho, hv⟩ := rd2.ob
  simp only [hCell_of p0, row_all2 p1, hCell_of ho, Nat.zero_add, List.getElem?_cons_succ, List.getElem?_cons_zero, xPtr_some, xSome_some, xAny_some, xRow_some, xCons_cons, xNil_nil, xStr_some, dynF_fn, true_and, List.append_nil]
  apply F_impl_searched_lit1.call
  simp only [letH_def]
  generalize hh3 : h2 ++ [AObj.cells t_impl_Need [.str n.1, .str n.2] false] = h3
  have s3 : Same h2.length h2 h3 := by rw [← hh3]; exact same_last
  have l3 : h3.length = h2.length + 1 := by rw [← hh3]; simp
  have S3 := S2.cat s3
  have p0 := s3.get p0 (Own.lt p0)
  have p1 := s3.get p1 (Own.lt p1)
  have p2 := s3.get p2 (Own.lt p2)
  have rd3 := rd2.step s3
  have ho := s3.get ho (Own.lt ho)
  have hv := hv.same s3
  have F3 : FrS i qa h h3 qa := FrS.of_same S3
  have hal := hv.len
  have row3 : Row h3.length h3 a2 (n2 * 2) (flat eP st) := row.same' S3
  simp only [xTup_tup, xCons_cons, xStr_some, xBool_some, xNil_nil, hCell_of p0, hCell_of ho, Nat.zero_add, List.getElem?_cons_succ, List.getElem?_cons_zero, xPtr_some, xSome_some, xSl_some, true_and]
  refine bcase_intro (fun hx => absurd hx (by decide)) (fun _ => ?_)
  refine bcase_dec (fun h300 => ?_) (fun h300 => ?_)
  · rw [ask_long (by omega)]
    refine SCall.mono ((fail_ok longT (by decide) rd3 p0 p1 p2 row3 he2 (by omega) (by omega)).mono fun x h' q => AskQ.of F3 q) ?_
    rintro x h' q
    obtain ⟨qa', fl', rfl, q⟩ := q
    simp only [xTup_tup, xCons_cons, xStr_some, xNil_nil]
    exact ⟨qa', fl', rfl, q⟩
  have h300' : ¬ 300 ≤ asked.length := by omega
  have s4 : Same h3.length h3 (h3 ++ [AObj.cells t_impl_Need [.str n.1, .str n.2] false]) := same_last
  simp only [row_all2 p1, xRow_some, xCons_cons, xNil_nil, xStr_some, true_and]
  refine ⟨by rw [hCell_of (s4.get ho (Own.lt ho))]; rfl, by rw [hCell_of (s4.get p0 (Own.lt p0))]; rfl, by rw [hCell_of (s4.get p0 (Own.lt p0))]; rfl, ?_⟩
  refine hv.vec.pushN u_L_Need c_Need k_Need b_Need (by rw [flat_length eP_len, hv.len]) rfl (by omega) rfl (by omega) (fun h6 hl6 hi6 hk6 => ?_)
  have hqk : ∀ j, j < h3.length → h.length ≤ j → h6[j]? = h3[j]? := fun j hj1 hj2 => hk6 j hj1 fun q hq => by have := (hlow q hq).2; omega
  have z0 : h6[h.length]? = some (.cells t_P_impl_search [.ptr (some (i, 0))] false) := by rw [hqk _ (Own.lt p0) (by omega)]; exact p0
  have z1 : h6[h0.length]? = some (.cells t_impl_Need [.str n.1, .str n.2] false) := by rw [hqk _ (Own.lt p1) (by omega)]; exact p1
  have z2 : h6[h1.length]? = some (.cells t_L_impl_Need [.slice a2 n2 c2 e2] false) := by rw [hqk _ (Own.lt p2) (by omega)]; exact p2
  have zo : h6[i]? = some (.cells t_impl_search [.slice a0 n0 c0 e0, .slice a1 n1 c1 e1, .bool sp, .fn n_impl_searched_lit1 [], .slice qa qn qc qe, .str fl.1, .str fl.2, x7] false) := by rw [hk6 i (Own.lt ho) fun q hq => (rd.ne q hq).symm]; exact ho
  simp only [xSl_some, hCell_of z0, List.getElem?_cons_zero, xSome_some]
  refine ⟨by rw [hCell_of (s4.get p0 (Own.lt p0))]; rfl, by rw [hCell_of (s4.get p0 (Own.lt p0))]; rfl, ?_⟩
  rw [hStore_of zo (by simp)]
  simp only [xHeap_some, putRow, List.take_succ_cons, List.take_zero, List.length_cons, List.length_nil, List.drop_succ_cons, List.drop_zero, List.drop_nil, List.cons_append, List.nil_append, List.append_nil]
  have hle := rd.same.le
  have hS3 := S3.le
  have rd7 : AskS hb i (.slice a0 n0 c0 e0) (.slice a1 n1 c1 e1) sp (h6.set i (.cells t_impl_search [.slice a0 n0 c0 e0, .slice a1 n1 c1 e1, .bool sp, .fn n_impl_searched_lit1 [], .slice (some (h3.length + 1, 0)) (qn + 1) (qn + 1) false, .str fl.1, .str fl.2, x7] false)) (some (h3.length + 1, 0)) (asked ++ [n]) fl := by
    refine AskS.write ⟨by omega, fun j hj => ?_⟩ rd.ge zo ⟨Vec.mk1 ?_, by rw [List.length_append, hal]; rfl, fun q hq => by cases hq; omega⟩ (fun q hq => by cases hq; omega)
    · rw [hk6 j (by omega) fun q hq => by have := (hlow q hq).1; omega]; exact rd3.same.eq j hj
    · rw [hi6, flat_append]; rfl
  have F7 : FrS i qa h (h6.set i (.cells t_impl_search [.slice a0 n0 c0 e0, .slice a1 n1 c1 e1, .bool sp, .fn n_impl_searched_lit1 [], .slice (some (h3.length + 1, 0)) (qn + 1) (qn + 1) false, .str fl.1, .str fl.2, x7] false)) (some (h3.length + 1, 0)) := by
    refine FrS.trans (qa1 := some (h3.length + 1, 0)) ⟨by omega, fun j hj hne hq => ?_, .inr fun q hq => by cases hq; omega⟩ FrS.set
    rw [hk6 j (by omega) hq]; exact S3.eq j hj
  generalize hh7 : h6.set i (.cells t_impl_search [.slice a0 n0 c0 e0, .slice a1 n1 c1 e1, .bool sp, .fn n_impl_searched_lit1 [], .slice (some (h3.length + 1, 0)) (qn + 1) (qn + 1) false, .str fl.1, .str fl.2, x7] false) = h7 at rd7 F7 ⊢
  have z0 : h7[h.length]? = some (.cells t_P_impl_search [.ptr (some (i, 0))] false) := by rw [← hh7, set_ne (by omega)]; exact z0
  have z1 : h7[h0.length]? = some (.cells t_impl_Need [.str n.1, .str n.2] false) := by rw [← hh7, set_ne (by omega)]; exact z1
  have z2 : h7[h1.length]? = some (.cells t_L_impl_Need [.slice a2 n2 c2 e2] false) := by rw [← hh7, set_ne (by omega)]; exact z2
  have hl7 : h7.length = h3.length + 2 := by rw [← hh7]; simpa using hl6
  have row7 := F7.row row fun j o hn ha => hst j o (by omega) ha
  have hstl : n2 ≤ 31 := by omega
  -- an end of the search
  have bad : ∀ (y : List Nat) (h' : AHeap), (y ≠ [] ∧ y ≠ wrongT) → Same h7.length h7 h' → askP (wk w) sp decX f asked n = (.no y n, asked ++ [n]) → SCall pg n_impl_search_ask_lit1 [.str y, .ptr (some (h0.length, 0)), .ptr (some (h1.length, 0)), .ptr (some (h.length, 0))] h' fun v h'' =>
      xTup v fun cs => xCons cs fun c r => xStr (some c) fun s => xCons r fun c' r' => xStr (some c') fun s' => xNil r' (AskQ hb i (.slice a0 n0 c0 e0) (.slice a1 n1 c1 e1) sp h qa (askP (wk w) sp decX f asked n) (.tup [.str s, .str s']) h'') := by
    intro y h' hy sm he
    refine (fail_ok y hy (rd7.step sm) (sm.get z0 (Own.lt z0)) (sm.get z1 (Own.lt z1)) (sm.get z2 (Own.lt z2)) (row7.same' sm) he2 (by omega) (by omega)).mono ?_
    rintro x h'' q
    obtain ⟨qa', fl', rfl, z⟩ := AskQ.of (F7.trans (FrS.of_same sm)) q
    simp only [xTup_tup, xCons_cons, xStr_some, xNil_nil]
    rw [he]
    exact ⟨qa', fl', rfl, z⟩
  simp only [hCell_of z2, List.getElem?_cons_zero, xSl_some]
  refine bcase_dec (fun hd => ?_) (fun hd => ?_)
  · have : f = 0 := by omega
    subst this
    exact bad deepT h7 (by decide) (Same.refl _ _) (ask_deep h300')
  obtain ⟨f', rfl⟩ : ∃ f', f = f' + 1 := ⟨f - 1, by omega⟩
  have ih := @ih f' rfl
  obtain ⟨qn7, qc7, qe7, x77, o7, v7⟩ := rd7.ob
  simp only [hCell_of z0, List.getElem?_cons_zero, xPtr_some, xSome_some, hRow_of o7 (show 0 + 0 + 2 ≤ _ by simp), Nat.zero_add, row_all2 z1, List.drop_zero, List.take_succ_cons, List.take_zero, xRow_some, xCons_cons, xNil_nil, xSl_some, xStr_some, true_and]
  refine (candidates_ok (nd := n) (r.same rd7.same) b).mono ?_
  rintro v h8 ⟨s8, ca, cn, cc, ce, rfl, fc⟩
  have rd8 := rd7.step s8
  have F8 := F7.trans (FrS.of_same s8)
  have w0 := s8.get z0 (Own.lt z0)
  have w1 := s8.get z1 (Own.lt z1)
  have w2 := s8.get z2 (Own.lt z2)
  have o8 := s8.get o7 (Own.lt o7)
  have l8 := s8.le
  have hcl := fc.1
  have hcin := candW_in w n
  have hpk : pickP (wk w) sp n = match candW w n with | [] => (-1, noneT) | [x] => (x, []) | l => if sp && decide (0 ≤ mostI w l) then (mostI w l, []) else (-1, manyT) := rfl
  simp only [xSl_some, hCell_of w0, List.getElem?_cons_zero, true_and]
  refine bcase_beq (fun hc0 => ?_) (fun hc0 => ?_)
  · have hc : candW w n = [] := List.eq_nil_of_length_eq_zero (by omega)
    rw [hc] at hpk
    exact bad noneT h8 (by decide) s8 (by rw [ask_none h300' (by rw [hpk]; simp only; omega), hpk])
  obtain ⟨ic, oc, hkc, rfl, _, hcell⟩ := Row.i64 (l := candW w n) (by simpa using FreshR.row eI_len fc) (k := 0) (by omega)
  have hcell0 : hCell h8 (.ptr (some (ic, oc + (Int.toNat 0) * 1))) = some (.int .i64 (candW w n)[0]) := hcell
  obtain ⟨k0, hk0, hk0l⟩ := hcin _ (List.getElem_mem hkc)
  simp only [xSome_some, hcell0, xInt_some]
  refine ⟨by omega, ?_⟩
  have hqa7 : ∀ q, some (h3.length + 1, 0) = some (q, 0) → h.length ≠ q := fun q hq => by cases hq; omega
  have go : ∀ (h' : AHeap) (k : Nat), Same h7.length h7 h' → k < w.is.length → (pickP (wk w) sp n).1 = (k : Int) → F_impl_search_ask.J18 (AskQ hb i (.slice a0 n0 c0 e0) (.slice a1 n1 c1 e1) sp h qa (askP (wk w) sp decX (f' + 1) asked n)) h.length 0 (k : Int) h0.length 0 h0.length 0 h1.length 0 h.length 0 h1.length 0 h' := by
    intro h' k sm hk hp
    exact askGo r b hw sp f' ih (rd7.step sm) h300' (by omega) (row7.same' sm) he2 (sm.get z0 (Own.lt z0)) (sm.get z1 (Own.lt z1)) (sm.get z2 (Own.lt z2)) (by omega) hqa7 hk hp _ fun x h'' q => AskQ.of (F7.trans (FrS.of_same sm)) q
  refine bcase_dec (fun h1n => ?_) (fun h1n => ?_)
  · have hpk : pickP (wk w) sp n = if sp && decide (0 ≤ mostI w (candW w n)) then (mostI w (candW w n), []) else (-1, manyT) := by
      rw [hpk]
      match hc : candW w n with
      | [] => rw [hc] at hcl; simp at hcl; omega
      | [x] => rw [hc] at hcl; simp at hcl; omega
      | x :: y :: l => rfl
    simp only [xPtr_some, xSome_some, hRow_of o8 (show 0 + 2 ≤ _ by simp), List.drop_zero, List.take_succ_cons, List.take_zero, xRow_some, xCons_cons, xNil_nil, xSl_some]
    have hcn : cn ≤ 1048576 := by have := ixs_len (candF n) w.is; have := b.li; unfold candW at hcl; omega
    refine (iMost_ok (r.same rd8.same) (by simpa using FreshR.row eI_len fc) hcn hcin).mono ?_
    rintro v h9 ⟨rfl, s9⟩
    have v0 := s9.get w0 (Own.lt w0)
    have o9 := s9.get o8 (Own.lt o8)
    have S9 := s8.cat s9
    simp only [xInt_some, hCell_of v0, hCell_of o9, List.getElem?_cons_succ, List.getElem?_cons_zero, xPtr_some, xSome_some, xBool_some]
    refine bcase_not (fun hsp => ?_) (fun hsp => ?_)
    · have hpk : pickP (wk w) sp n = (-1, manyT) := by rw [hpk, hsp]; rfl
      exact bad manyT h9 (by decide) S9 (by rw [ask_none h300' (by rw [hpk]; simp only; omega), hpk])
    · refine bcase_dec (fun hneg => ?_) (fun hneg => ?_)
      · have hpk : pickP (wk w) sp n = (-1, manyT) := by rw [hpk, hsp, if_neg (by simp; omega)]
        exact bad manyT h9 (by decide) S9 (by rw [ask_none h300' (by rw [hpk]; simp only; omega), hpk])
      · have hpk : pickP (wk w) sp n = (mostI w (candW w n), []) := by rw [hpk, hsp, if_pos (by simp; omega)]
        obtain ⟨k, hk, hkl⟩ : ∃ k : Nat, mostI w (candW w n) = k ∧ k < w.is.length := by
          unfold mostI at hneg ⊢
          cases hfi : (candW w n).find? (topOf w (candW w n)) with
          | none => rw [hfi] at hneg; simp at hneg
          | some x => exact hcin x (List.mem_of_find?_eq_some hfi)
        rw [hk]
        exact go h9 k S9 hkl (by rw [hpk]; exact hk)
  · rw [hk0]
    refine go h8 k0 s8 hk0l ?_
    rw [hpk]
    match hc : candW w n, hkc with
    | [x], _ =>
      simp only [hc] at hk0
      exact hk0
    | [], hx => simp at hx
    | x :: y :: l, _ => rw [hc] at hcl; simp at hcl; omega
theorem ask_ok {hb : AHeap} {a0 a1 : Pt} {n0 c0 n1 c1 : Nat} {e0 e1 : Bool} {w : Wd} (r : WRep hb a0 n0 c0 a1 n1 c1 w) (b : WB w) (hw : worldOk w = true) (sp : Bool) : ∀ f, AskC f hb a0 a1 n0 c0 n1 c1 e0 e1 w sp
  | 0 => ask_step r b hw sp 0 fun f' h => by omega
  | f + 1 => ask_step r b hw sp (f + 1) fun f' h => by cases h; exact ask_ok r b hw sp f
end Go.Sim

set_option linter.unusedVariables false
set_option linter.unusedSimpArgs false
set_option maxRecDepth 20000
namespace Go.Sim
open Go Go.RowKit

/-- What a search for a dictionary finds. -/
noncomputable def found (w : Wd) (n : Nd) (sp : Bool) : Fnd := if worldOk w && needOkW w n then (askP (wk w) sp decX 31 [] n).1 else .no wrongT ([], [])
theorem searched_ok {h : AHeap} {a0 a1 : Pt} {n0 c0 n1 c1 : Nat} {e0 e1 : Bool} {w : Wd} {nd : Nd} {sp : Bool} (r : WRep h a0 n0 c0 a1 n1 c1 w) (b : WB w) :
    SCall pg n_impl_searched [.agg [.slice a0 n0 c0 e0, .slice a1 n1 c1 e1], .agg [.str nd.1, .str nd.2], .bool sp] h fun x h' => ∃ i fl x4 x7, x = .tup [.ptr (some (i, 0)), .str (fTxt (found w nd sp)), .str (fWhy (found w nd sp))] ∧ Same h.length h h' ∧
      h'[i]? = some (.cells t_impl_search [.slice a0 n0 c0 e0, .slice a1 n1 c1 e1, .bool sp, .fn n_impl_searched_lit1 [], x4, .str fl.1, .str fl.2, x7] false) ∧ h.length ≤ i ∧ ∀ y m, found w nd sp = .no y m → y ≠ [] ∧ (((worldOk w && needOkW w nd) = false ∧ y = wrongT) ∨ ((worldOk w && needOkW w nd) = true ∧ y ≠ wrongT ∧ fl = m)) := by
  apply F_impl_searched.call
  simp only [letH_def]
  generalize hh0 : h ++ [AObj.cells t_impl_World [.slice a0 n0 c0 e0, .slice a1 n1 c1 e1] false] = h0
  generalize hh1 : h0 ++ [AObj.cells t_impl_Need [.str nd.1, .str nd.2] false] = h1
  have s0 : Same h.length h h0 := by rw [← hh0]; exact same_last
  have s1 : Same h0.length h0 h1 := by rw [← hh1]; exact same_last
  have w0 : h0[h.length]? = some (wObj a0 n0 c0 e0 a1 n1 c1 e1) := by rw [← hh0]; simp [wObj]
  have w1 := s1.get w0 (Own.lt w0)
  have p1 : h1[h0.length]? = some (.cells t_impl_Need [.str nd.1, .str nd.2] false) := by rw [← hh1]; simp
  rw [wRow w1]
  simp only [xRow_some, xCons_cons, xNil_nil, xSl_some]
  generalize hh2 : h1 ++ [AObj.cells t_impl_search [.slice a0 n0 c0 e0, .slice a1 n1 c1 e1, .bool sp, .fn n_impl_searched_lit1 [], .slice none 0 0 true, .str [], .str [], .slice none 0 0 true] false] = h2
  have s2 : Same h1.length h1 h2 := by rw [← hh2]; exact same_last
  have w2 := s2.get w1 (Own.lt w1)
  have p2 := s2.get p1 (Own.lt p1)
  have o2 : h2[h1.length]? = some (.cells t_impl_search [.slice a0 n0 c0 e0, .slice a1 n1 c1 e1, .bool sp, .fn n_impl_searched_lit1 [], .slice none 0 0 true, .str [], .str [], .slice none 0 0 true] false) := by rw [← hh2]; simp
  have S2 := (s0.cat s1).cat s2
  rw [wRow w2, row_all2 p2]
  simp only [xRow_some, xCons_cons, xNil_nil, xSl_some, xStr_some]
  refine (iNeedValid_ok (ct := nd.1) (tt := nd.2) (r.same S2) b).mono ?_
  rintro v h3 ⟨rfl, s3⟩
  have S3 := S2.cat s3
  have p3 := s3.get p2 (Own.lt p2)
  have o3 := s3.get o2 (Own.lt o2)
  have w3 := s3.get w2 (Own.lt w2)
  have le3 := S3.le
  have l1 : h1.length = h0.length + 1 := by rw [← hh1]; simp
  have l0 : h0.length = h.length + 1 := by rw [← hh0]; simp
  simp only [xBool_some]
  refine bcase_not (fun hc => ?_) (fun hc => ?_)
  · have : found w nd sp = .no wrongT ([], []) := by unfold found; rw [hc]; rfl
    exact ⟨h1.length, ([], []), _, _, by rw [this]; rfl, S3, o3, by omega, fun y m h => by rw [this] at h; cases h; exact ⟨by decide, .inl ⟨hc, rfl⟩⟩⟩
  rw [row_all2 p3]
  simp only [xRow_some, xCons_cons, xNil_nil, xStr_some]
  have hc' := hc
  simp only [Bool.and_eq_true] at hc'
  have rd : AskS h h1.length (.slice a0 n0 c0 e0) (.slice a1 n1 c1 e1) sp h3 none [] (([], []) : Nd) :=
    ⟨S3, by omega, ⟨0, 0, true, _, o3, ⟨.inl ⟨rfl, rfl, rfl, by simp⟩, rfl, fun q hq => by cases hq⟩⟩, fun q hq => by cases hq⟩
  refine (ask_ok r b hc'.1 sp 31 (n := nd) (st := []) rd (by simp) (by omega) (by simpa using Row.nil) (fun _ => rfl) (fun j o h => by omega)).mono ?_
  rintro v h4 ⟨qa, fl, rfl, rd4, F4, hno⟩
  have hf : found w nd sp = (askP (wk w) sp decX 31 [] nd).1 := by unfold found; rw [hc]; rfl
  obtain ⟨qn, qc, qe, x7, ho, _⟩ := rd4.ob
  simp only [xTup_tup, xCons_cons, xStr_some, xNil_nil]
  refine ⟨h1.length, fl, _, x7, by rw [hf], rd4.same, ho, by omega, fun y m hy => ?_⟩
  rw [hf] at hy
  obtain ⟨⟨k1, k2⟩, k3⟩ := hno y m hy
  exact ⟨k1, .inr ⟨hc, k2, k3⟩⟩
/-- The result of a search. -/
def FoundQ (w : Wd) (n : Nd) (sp : Bool) (h : AHeap) (v : AVal) (h' : AHeap) : Prop := v = .tup [.str (fTxt (found w n sp)), .str (fWhy (found w n sp))] ∧ Same h.length h h'
theorem specialDict_ok {h : AHeap} {a0 a1 : Pt} {n0 c0 n1 c1 : Nat} {e0 e1 : Bool} {w : Wd} {nd : Nd} (r : WRep h a0 n0 c0 a1 n1 c1 w) (b : WB w) :
    SCall pg n_impl_SpecialDict [.agg [.slice a0 n0 c0 e0, .slice a1 n1 c1 e1], .agg [.str nd.1, .str nd.2]] h (FoundQ w nd true h) := by
  apply F_impl_SpecialDict.call
  simp only [letH_def]
  generalize hh0 : h ++ [AObj.cells t_impl_World [.slice a0 n0 c0 e0, .slice a1 n1 c1 e1] false] = h0
  generalize hh1 : h0 ++ [AObj.cells t_impl_Need [.str nd.1, .str nd.2] false] = h1
  have s0 : Same h.length h h0 := by rw [← hh0]; exact same_last
  have s1 : Same h0.length h0 h1 := by rw [← hh1]; exact same_last
  have w0 : h0[h.length]? = some (wObj a0 n0 c0 e0 a1 n1 c1 e1) := by rw [← hh0]; simp [wObj]
  have w1 := s1.get w0 (Own.lt w0)
  have p1 : h1[h0.length]? = some (.cells t_impl_Need [.str nd.1, .str nd.2] false) := by rw [← hh1]; simp
  rw [wRow w1, row_all2 p1]
  simp only [xRow_some, xCons_cons, xNil_nil, xSl_some, xStr_some]
  refine (searched_ok (r.same (s0.cat s1)) b).mono ?_
  rintro v h2 ⟨i, fl, x4, x7, rfl, s2, _⟩
  simp only [xTup_tup, xCons_cons, xPtr_some, xStr_some, xNil_nil]
  exact ⟨rfl, (s0.cat s1).cat s2⟩
end Go.Sim

set_option linter.unusedVariables false
set_option linter.unusedSimpArgs false
set_option maxRecDepth 20000
namespace Go.Sim
open Go Go.RowKit

/-- The first k of a row: where they lie. -/
theorem slice_to' {b : Nat} {h : AHeap} {a : Pt} {n c k : Nat} {e : Bool} {l : List Nd} {K : AVal → Prop} (r : Row b h a (n * 2) (flat eP l)) (hk : k ≤ n) (hc : n ≤ c) {z : Int} (hz : z = k)
    (hK : ∀ a' c' e', Row b h a' (k * 2) (flat eP (l.take k)) → k ≤ c' → (a' = none ∨ ∃ i o, a = some (i, o) ∧ a' = some (i, o)) → K (.slice a' k c' e')) : sliceSl a n c e 2 none (some (.int .i64 z)) none K := by
  subst hz
  have hl : l.length = n := by have := r.1; rw [flat_length eP_len] at this; omega
  simp only [sliceSl, optInt]
  refine ⟨by omega, ?_⟩
  split
  · have h0 : n = 0 := by
      obtain ⟨h1, h2⟩ := r
      rcases h2 with h2 | ⟨i, o, t, all, ro, ha, _⟩
      · omega
      · cases ha
    have hk0 : k = 0 := by omega
    subst hk0
    exact ⟨⟨by trivial, by simp, .inl (by trivial)⟩, hK _ _ _ (by simpa using Row.nil) (by omega) (.inl rfl)⟩
  · rename_i i o
    refine ⟨fun hlt => ?_, fun hlt => ?_⟩
    · have e2 : ((k : Int) - 0).toNat = k := by omega
      have e3 : o + Int.toNat 0 * 2 = o := by simp
      have e4 : ((c : Int) - 0).toNat = c := by omega
      rw [e2, e3, e4]
      exact hK _ _ _ (r.sl hk hl) (by omega) (.inr ⟨_, _, rfl, rfl⟩)
    · have hk0 : k = 0 := by omega
      subst hk0
      exact hK _ _ _ (by simpa using Row.nil) (by omega) (.inl rfl)
/-- The reference's search in memory. -/
structure SchS (hb : AHeap) (i : Nat) (u v : AVal) (sp : Bool) (h : AHeap) (qa : Pt) (asked st : List Nd) (why : List Nat) : Prop where
  same : Same hb.length hb h
  ge : hb.length ≤ i
  ob : ∃ qn qc qe sa sn sc se, h[i]? = some (.cells t_spec_l5Search [u, v, .bool sp, .slice qa qn qc qe, .slice sa sn sc se, .str why] false) ∧ NVec hb.length h qa qn qc asked ∧ Row h.length h sa (sn * 2) (flat eP st) ∧ sn ≤ sc ∧ ∀ j o, sn * 2 ≠ 0 → sa = some (j, o) → j ≠ i ∧ ∀ q, qa = some (q, 0) → j ≠ q
  ne : ∀ q, qa = some (q, 0) → q ≠ i
section
variable {hb : AHeap} {i : Nat} {u v : AVal} {sp : Bool} {h : AHeap} {qa : Pt} {asked st : List Nd} {why : List Nat}
theorem SchS.step {h' : AHeap} (r : SchS hb i u v sp h qa asked st why) (k : Same h.length h h') : SchS hb i u v sp h' qa asked st why := by
  obtain ⟨qn, qc, qe, sa, sn, sc, se, ho, hv, hr, hsc, hd⟩ := r.ob
  exact ⟨r.same.trans (k.mono r.same.le), r.ge, ⟨qn, qc, qe, sa, sn, sc, se, k.get ho (Own.lt ho), hv.same k, hr.same' k, hsc, hd⟩, r.ne⟩
theorem SchS.lt (r : SchS hb i u v sp h qa asked st why) : i < h.length := by obtain ⟨_, _, _, _, _, _, _, ho, _⟩ := r.ob; exact Own.lt ho
theorem SchS.low (r : SchS hb i u v sp h qa asked st why) : ∀ q, qa = some (q, 0) → hb.length ≤ q ∧ q < h.length := by
  obtain ⟨qn, qc, qe, sa, sn, sc, se, ho, hv, _⟩ := r.ob
  exact fun q hq => ⟨hv.low q hq, hv.vec.lt' hq⟩
theorem SchS.write {qa' sa : Pt} {qn qc sn sc : Nat} {qe se : Bool} {x : AObj} {l st' : List Nd} {why' : List Nat} (sm : Same hb.length hb h) (ge : hb.length ≤ i) (ho : h[i]? = some x)
    (hv : NVec hb.length h qa' qn qc l) (ne : ∀ q, qa' = some (q, 0) → q ≠ i) (hr : Row h.length h sa (sn * 2) (flat eP st')) (hsc : sn ≤ sc) (hd : ∀ j o, sn * 2 ≠ 0 → sa = some (j, o) → j ≠ i ∧ ∀ q, qa' = some (q, 0) → j ≠ q) :
    SchS hb i u v sp (h.set i (.cells t_spec_l5Search [u, v, .bool sp, .slice qa' qn qc qe, .slice sa sn sc se, .str why'] false)) qa' l st' why' := by
  refine ⟨⟨by simp; exact sm.le, fun j hj => by rw [set_ne (by omega)]; exact sm.eq j hj⟩, ge, ⟨qn, qc, qe, sa, sn, sc, se, set_get ho, ⟨?_, hv.len, hv.low⟩, ?_, hsc, hd⟩, ne⟩
  · exact hv.vec.agree fun j hj => set_ne (fun e => ne j hj e.symm)
  · exact (FrS.set (qa := none)).row hr fun j o hn ha => ⟨(hd j o hn ha).1, fun q hq => by cases hq⟩
/-- A reason is written. -/
theorem SchS.reason (r : SchS hb i u v sp h qa asked st why) (y : List Nat) {K : AHeap → Prop} (hK : ∀ h', SchS hb i u v sp h' qa asked st y → FrS i qa h h' qa → K h') : xHeap (hStore h (.ptr (some (i, 0 + 5))) [.str y]) K := by
  obtain ⟨qn, qc, qe, sa, sn, sc, se, ho, hv, hr, hsc, hd⟩ := r.ob
  rw [hStore_of ho (by simp)]
  simp only [xHeap_some, putRow, Nat.zero_add, List.take_succ_cons, List.take_zero, List.length_cons, List.length_nil, List.drop_succ_cons, List.drop_zero, List.drop_nil, List.cons_append, List.nil_append, List.append_nil]
  exact hK _ (SchS.write r.same r.ge ho hv r.ne hr hsc hd) FrS.set
/-- What the reference's search leaves. -/
def SchQ (hb : AHeap) (i : Nat) (u v : AVal) (sp : Bool) (d : Nat) (h : AHeap) (qa : Pt) (r : Fnd × List Nd) (x : AVal) (h' : AHeap) : Prop :=
  x = .str (fTxt r.1) ∧ ∃ qa' st', SchS hb i u v sp h' qa' r.2 st' (fWhy r.1) ∧ FrS i qa h h' qa' ∧ st'.length ≤ 32 ∧ (∀ s, r.1 = .ok s → st'.length = d + 1) ∧ ∀ y m, r.1 = .no y m → y ≠ [] ∧ st'.getLast? = some m
end
theorem schPick_ok {hb : AHeap} {a0 a1 : Pt} {n0 c0 n1 c1 : Nat} {e0 e1 : Bool} {w : Wd} (r : WRep hb a0 n0 c0 a1 n1 c1 w) (b : WB w) {sp : Bool} {h : AHeap} {i : Nat} {qa : Pt} {asked st : List Nd} {n : Nd}
    (rd : SchS hb i (.slice a0 n0 c0 e0) (.slice a1 n1 c1 e1) sp h qa asked st []) (hw : worldOk w = true) (hnd : needOkW w n = true) :
    SCall pg n_spec_l5Search_pick [.ptr (some (i, 0)), .agg [.str n.1, .str n.2]] h fun x h' => x = .int .i64 (pickP (wk w) sp n).1 ∧ SchS hb i (.slice a0 n0 c0 e0) (.slice a1 n1 c1 e1) sp h' qa asked st (if (pickP (wk w) sp n).1 < 0 then (pickP (wk w) sp n).2 else []) ∧ FrS i qa h h' qa ∧ ((pickP (wk w) sp n).1 < 0 → (pickP (wk w) sp n).2 ≠ []) ∧ (¬ (pickP (wk w) sp n).1 < 0 → ∃ k : Nat, (pickP (wk w) sp n).1 = k ∧ k < w.is.length) := by
  have hty := needOkW_ty hnd
  apply F_spec_l5Search_pick.call
  simp only [letH_def]
  generalize hh0 : h ++ [AObj.cells t_impl_Need [.str n.1, .str n.2] false] = h0
  have s0 : Same h.length h h0 := by rw [← hh0]; exact same_last
  have p1 : h0[h.length]? = some (.cells t_impl_Need [.str n.1, .str n.2] false) := by rw [← hh0]; simp
  have rd0 := rd.step s0
  obtain ⟨qn, qc, qe, sa, sn, sc, se, ho, hv, hr, hsc, hd⟩ := rd0.ob
  simp only [xSome_some, hRow_of ho (show 0 + 0 + 2 ≤ _ by simp), row_all2 p1, List.drop_zero, List.take_succ_cons, List.take_zero, xRow_some, xCons_cons, xNil_nil, xSl_some, xStr_some, true_and]
  refine (sCandidates_ok (nd := n) (r.same rd0.same) b (by omega)).mono ?_
  rintro v h4 ⟨s4, ca, cn, cc, ce, rfl, fc⟩
  have rd4 := rd0.step s4
  have F4 : FrS i qa h h4 qa := FrS.of_same (s0.cat s4)
  have o4 := s4.get ho (Own.lt ho)
  have q1 := s4.get p1 (Own.lt p1)
  have hcl := fc.1
  have hcin := candW_in w n
  have hpk : pickP (wk w) sp n = match candW w n with | [] => (-1, noneT) | [x] => (x, []) | l => if sp && decide (0 ≤ mostI w l) then (mostI w l, []) else (-1, manyT) := rfl
  simp only [xSl_some, xSome_some]
  refine bcase_beq (fun hc0 => ?_) (fun hc0 => ?_)
  · have hc : candW w n = [] := List.eq_nil_of_length_eq_zero (by omega)
    have hpk : pickP (wk w) sp n = (-1, noneT) := by rw [hpk, hc]
    refine rd4.reason _ fun h5 rd5 F5 => ?_
    rw [hpk]
    exact ⟨rfl, rd5, F4.trans F5, fun _ => by decide, fun h => absurd (show (-1 : Int) < 0 by omega) h⟩
  refine bcase_beq (fun hc1 => ?_) (fun hc1 => ?_)
  · obtain ⟨ic, oc, hkc, rfl, _, hcell⟩ := Row.i64 (l := candW w n) (by simpa using FreshR.row eI_len fc) (k := 0) (by omega)
    have hcell0 : hCell h4 (.ptr (some (ic, oc + (Int.toNat 0) * 1))) = some (.int .i64 (candW w n)[0]) := hcell
    obtain ⟨k0, hk0, hk0l⟩ := hcin _ (List.getElem_mem hkc)
    have hpk : pickP (wk w) sp n = ((k0 : Int), []) := by
      rw [hpk, ← hk0]
      match hc : candW w n, hkc with
      | [x], _ => rfl
      | [], hx => simp at hx
      | x :: y :: l, _ => rw [hc] at hcl; simp at hcl; omega
    simp only [xSome_some, hcell0, xInt_some]
    rw [hpk, hk0]
    exact ⟨by omega, rfl, by simpa using rd4, F4, fun h => absurd h (by simp), fun _ => ⟨k0, rfl, hk0l⟩⟩
  have hpk : pickP (wk w) sp n = if sp && decide (0 ≤ mostI w (candW w n)) then (mostI w (candW w n), []) else (-1, manyT) := by
    rw [hpk]
    match hc : candW w n with
    | [] => rw [hc] at hcl; simp at hcl; omega
    | [x] => rw [hc] at hcl; simp at hcl; omega
    | x :: y :: l => rfl
  have many : ∀ h5, SchS hb i (.slice a0 n0 c0 e0) (.slice a1 n1 c1 e1) sp h5 qa asked st [] → FrS i qa h h5 qa → pickP (wk w) sp n = (-1, manyT) → F_spec_l5Search_pick.J11 (fun x h' => x = .int .i64 (pickP (wk w) sp n).1 ∧ SchS hb i (.slice a0 n0 c0 e0) (.slice a1 n1 c1 e1) sp h' qa asked st (if (pickP (wk w) sp n).1 < 0 then (pickP (wk w) sp n).2 else []) ∧ FrS i qa h h' qa ∧ ((pickP (wk w) sp n).1 < 0 → (pickP (wk w) sp n).2 ≠ []) ∧ (¬ (pickP (wk w) sp n).1 < 0 → ∃ k : Nat, (pickP (wk w) sp n).1 = k ∧ k < w.is.length)) (some (i, 0)) h5 := by
    intro h5 rd5 F5 hpk
    apply F_spec_l5Search_pick.J11i
    simp only [xSome_some]
    refine rd5.reason _ fun h6 rd6 F6 => ?_
    rw [hpk]
    exact ⟨rfl, rd6, F5.trans F6, fun _ => by decide, fun h => absurd (show (-1 : Int) < 0 by omega) h⟩
  simp only [hCell_of o4, Nat.zero_add, List.getElem?_cons_succ, List.getElem?_cons_zero, xBool_some]
  refine bcase_intro (fun hsp => ?_) (fun hsp => ?_)
  · simp only [hRow_of o4 (show 0 + 2 ≤ _ by simp), row_all2 q1, List.drop_zero, List.take_succ_cons, List.take_zero, xRow_some, xCons_cons, xNil_nil, xSl_some, xStr_some, true_and]
    refine (sMostSpecial_ok (nd := n) (r.same rd4.same) b (by omega)).mono ?_
    rintro v h5 ⟨rfl, s5⟩
    have hm : mostW w n = mostI w (candW w n) := by unfold mostW candL; rw [hw, hnd]; rfl
    rw [hm]
    simp only [xInt_some]
    refine bcase_dec (fun hge => ?_) (fun hlt => ?_)
    · have hpk : pickP (wk w) sp n = (mostI w (candW w n), []) := by rw [hpk, hsp, if_pos (by simp; omega)]
      rw [hpk]
      refine ⟨rfl, ?_, F4.trans (FrS.of_same s5), fun h => absurd h (by simp only; omega), fun _ => ?_⟩
      · simp only
        rw [if_neg (by omega)]; exact rd4.step s5
      · simp only
        unfold mostI at hge ⊢
        cases hfi : (candW w n).find? (topOf w (candW w n)) with
        | none => rw [hfi] at hge; simp at hge
        | some x => exact hcin x (List.mem_of_find?_eq_some hfi)
    · exact many h5 (rd4.step s5) (F4.trans (FrS.of_same s5)) (by rw [hpk, hsp, if_neg (by simp; omega)])
  · exact many h4 rd4 F4 (by rw [hpk, hsp]; rfl)
end Go.Sim

set_option linter.unusedVariables false
set_option linter.unusedSimpArgs false
set_option maxRecDepth 20000
namespace Go.Sim
open Go Go.RowKit

/-- The reference's search with that much fuel does as told. -/
def FindC (f : Nat) (hb : AHeap) (a0 a1 : Pt) (n0 c0 n1 c1 : Nat) (e0 e1 : Bool) (w : Wd) (sp : Bool) : Prop := ∀ {h : AHeap} {i : Nat} {qa : Pt} {asked st : List Nd} {n : Nd} {d : Nat}, SchS hb i (.slice a0 n0 c0 e0) (.slice a1 n1 c1 e1) sp h qa asked st [] → asked.length ≤ 300 → needOkW w n = true → d + f = 31 → d ≤ st.length →
      SCall pg n_spec_l5Search_find [.ptr (some (i, 0)), .agg [.str n.1, .str n.2], .int .i64 (d : Int)] h (SchQ hb i (.slice a0 n0 c0 e0) (.slice a1 n1 c1 e1) sp d h qa (askP (wk w) sp decX f asked n))
theorem SchQ.of {hb : AHeap} {i : Nat} {u v : AVal} {sp : Bool} {d : Nat} {h h0 : AHeap} {qa qa0 : Pt} {r : Fnd × List Nd} {x : AVal} {h' : AHeap} (F : FrS i qa0 h0 h qa) (q : SchQ hb i u v sp d h qa r x h') : SchQ hb i u v sp d h0 qa0 r x h' := by
  obtain ⟨e, qa', st', a, f, z⟩ := q
  exact ⟨e, qa', st', a, F.trans f, z⟩
theorem mark_sub {g : Nat} (h : g < 3) : sub [40, 44, 44] (g : Int) ((g + 1 : Nat) : Int) = [mark3 g] := by
  match g, h with
  | 0, _ => rfl
  | 1, _ => rfl
  | 2, _ => rfl
/-- Behind the stack. -/
theorem find_cont {hb : AHeap} {a0 a1 : Pt} {n0 c0 n1 c1 : Nat} {e0 e1 : Bool} {w : Wd} (r : WRep hb a0 n0 c0 a1 n1 c1 w) (b : WB w) (hw : worldOk w = true) (sp : Bool) (f : Nat)
    (ih : ∀ f', f = f' + 1 → FindC f' hb a0 a1 n0 c0 n1 c1 e0 e1 w sp) {h hX : AHeap} {i p1 : Nat} {qa : Pt} {asked st st' : List Nd} {n : Nd} {d qs cs : Nat} {es : Bool} (rd : SchS hb i (.slice a0 n0 c0 e0) (.slice a1 n1 c1 e1) sp hX qa asked st []) (FX : FrS i qa h hX qa)
    (hal : asked.length ≤ 300) (hnd : needOkW w n = true) (hf : d + f = 31) (hstl : st'.length = d + 1) (hlast : st'.getLast? = some n) (hrow : Row hX.length hX (some (qs, 0)) ((d + 1) * 2) (flat eP st')) (hqi : qs ≠ i) (hqq : ∀ q, qa = some (q, 0) → qs ≠ q) (hcs : d + 1 ≤ cs)
    (hp1 : hX[p1]? = some (.cells t_impl_Need [.str n.1, .str n.2] false)) (hpi : p1 ≠ i) (hpq : ∀ q, qa = some (q, 0) → p1 ≠ q) :
    findCont (SchQ hb i (.slice a0 n0 c0 e0) (.slice a1 n1 c1 e1) sp d h qa (askP (wk w) sp decX f asked n)) (some (i, 0)) (d : Int) p1 hX (some (qs, 0)) (d + 1) cs es := by
  unfold findCont
  have hty := needOkW_ty hnd
  have hl10 := worldOk_len hw
  have hl1 := r.len1
  obtain ⟨qn, qc, qe, sa, sn, sc, se, ho, hv, hr, hsc, hdj⟩ := rd.ob
  have hlow := rd.low
  have hil := rd.lt
  have hnv := hv.len
  simp only [xSome_some]
  rw [hStore_of ho (by simp)]
  simp only [xHeap_some, putRow, Nat.zero_add, List.take_succ_cons, List.take_zero, List.length_cons, List.length_nil, List.drop_succ_cons, List.drop_zero, List.drop_nil, List.cons_append, List.nil_append, List.append_nil]
  have rd1 : SchS hb i (.slice a0 n0 c0 e0) (.slice a1 n1 c1 e1) sp (hX.set i (.cells t_spec_l5Search [.slice a0 n0 c0 e0, .slice a1 n1 c1 e1, .bool sp, .slice qa qn qc qe, .slice (some (qs, 0)) (d + 1) cs es, .str []] false)) qa asked st' [] :=
    SchS.write rd.same rd.ge ho hv rd.ne hrow hcs fun j o hn ha => by cases ha; exact ⟨hqi, hqq⟩
  have F1 : FrS i qa h (hX.set i (.cells t_spec_l5Search [.slice a0 n0 c0 e0, .slice a1 n1 c1 e1, .bool sp, .slice qa qn qc qe, .slice (some (qs, 0)) (d + 1) cs es, .str []] false)) qa := FX.trans FrS.set
  have o1 : (hX.set i (.cells t_spec_l5Search [.slice a0 n0 c0 e0, .slice a1 n1 c1 e1, .bool sp, .slice qa qn qc qe, .slice (some (qs, 0)) (d + 1) cs es, .str []] false))[i]? = _ := set_get ho
  have p1' : (hX.set i (.cells t_spec_l5Search [.slice a0 n0 c0 e0, .slice a1 n1 c1 e1, .bool sp, .slice qa qn qc qe, .slice (some (qs, 0)) (d + 1) cs es, .str []] false))[p1]? = some (.cells t_impl_Need [.str n.1, .str n.2] false) := by rw [set_ne hpi.symm]; exact hp1
  generalize hX.set i (.cells t_spec_l5Search [.slice a0 n0 c0 e0, .slice a1 n1 c1 e1, .bool sp, .slice qa qn qc qe, .slice (some (qs, 0)) (d + 1) cs es, .str []] false) = h1 at rd1 F1 o1 p1' ⊢
  -- an end
  have bad : ∀ (y : List Nat) (h' : AHeap) (qa' : Pt) (asked' : List Nd), y ≠ [] → SchS hb i (.slice a0 n0 c0 e0) (.slice a1 n1 c1 e1) sp h' qa' asked' st' [] → FrS i qa h h' qa' → askP (wk w) sp decX f asked n = (.no y n, asked') →
      xHeap (hStore h' (.ptr (some (i, 0 + 5))) [.str y]) fun h'' => SchQ hb i (.slice a0 n0 c0 e0) (.slice a1 n1 c1 e1) sp d h qa (askP (wk w) sp decX f asked n) (.str []) h'' := by
    intro y h' qa' asked' hy rd' F' he
    refine rd'.reason y fun h'' rd'' F'' => ?_
    rw [he]
    exact ⟨rfl, qa', st', rd'', F'.trans F'', by omega, fun s hs => (by cases hs), fun y' m hm => by cases hm; exact ⟨hy, hlast⟩⟩
  simp only [hCell_of o1, List.getElem?_cons_succ, List.getElem?_cons_zero, xSl_some]
  refine bcase_dec (fun h300 => bad longT h1 qa asked (by decide) rd1 F1 (ask_long (by omega))) (fun h300 => ?_)
  have h300' : ¬ 300 ≤ asked.length := by omega
  have hv1 : NVec hb.length h1 qa qn qc asked := by
    obtain ⟨qn', qc', qe', sa', sn', sc', se', ho', hv', _⟩ := rd1.ob
    rw [o1] at ho'
    simp only [Option.some.injEq, AObj.cells.injEq, List.cons.injEq, AVal.slice.injEq, true_and, and_true] at ho'
    obtain ⟨⟨rfl, rfl, rfl⟩, _⟩ := ho'
    exact hv'
  have hrow1 : Row h1.length h1 (some (qs, 0)) ((d + 1) * 2) (flat eP st') := by
    obtain ⟨qn', qc', qe', sa', sn', sc', se', ho', _, hr', _⟩ := rd1.ob
    rw [o1] at ho'
    simp only [Option.some.injEq, AObj.cells.injEq, List.cons.injEq, AVal.slice.injEq, true_and, and_true] at ho'
    obtain ⟨_, rfl, rfl, rfl, rfl⟩ := ho'
    exact hr'
  have hlow1 := rd1.low
  have hil1 := rd1.lt
  have s2 : Same h1.length h1 (h1 ++ [AObj.cells t_impl_Need [.str n.1, .str n.2] false]) := same_last
  simp only [row_all2 p1', xRow_some, xCons_cons, xNil_nil, xStr_some, letH_def, true_and]
  refine ⟨by rw [hCell_of (s2.get o1 (Own.lt o1))]; rfl, ?_⟩
  refine hv1.vec.pushN u_L_Need c_Need k_Need b_Need (by rw [flat_length eP_len, hv1.len]) rfl (by omega) rfl (by omega) (fun h3 hl3 hi3 hk3 => ?_)
  have o3 : h3[i]? = some (.cells t_spec_l5Search [.slice a0 n0 c0 e0, .slice a1 n1 c1 e1, .bool sp, .slice qa qn qc qe, .slice (some (qs, 0)) (d + 1) cs es, .str []] false) := by rw [hk3 i (Own.lt o1) fun q hq => (rd1.ne q hq).symm]; exact o1
  have p3 : h3[p1]? = some (.cells t_impl_Need [.str n.1, .str n.2] false) := by rw [hk3 p1 (Own.lt p1') hpq]; exact p1'
  have hqsl : qs < h1.length := by
    rcases hrow1.2 with h0 | ⟨j, o, t, all, ro, ha, hj, _⟩
    · omega
    · cases ha; exact hj
  simp only [xSl_some]
  rw [hStore_of o3 (by simp)]
  simp only [xHeap_some, putRow, List.take_succ_cons, List.take_zero, List.length_cons, List.length_nil, List.drop_succ_cons, List.drop_zero, List.drop_nil, List.cons_append, List.nil_append, List.append_nil]
  have F3 : FrS i qa h1 h3 (some (h1.length + 1, 0)) := ⟨by omega, fun j hj hne hq => hk3 j hj hq, .inr fun q hq => by cases hq; omega⟩
  have rowl : Row h3.length h3 (some (qs, 0)) ((d + 1) * 2) (flat eP st') := F3.row hrow1 fun j o hn ha => by cases ha; exact ⟨hqi, hqq⟩
  have rd4 : SchS hb i (.slice a0 n0 c0 e0) (.slice a1 n1 c1 e1) sp (h3.set i (.cells t_spec_l5Search [.slice a0 n0 c0 e0, .slice a1 n1 c1 e1, .bool sp, .slice (some (h1.length + 1, 0)) (qn + 1) (qn + 1) false, .slice (some (qs, 0)) (d + 1) cs es, .str []] false)) (some (h1.length + 1, 0)) (asked ++ [n]) st' [] := by
    have hle := rd1.same.le
    refine SchS.write ⟨by omega, fun j hj => ?_⟩ rd.ge o3 ⟨Vec.mk1 ?_, by rw [List.length_append, hnv]; rfl, fun q hq => by cases hq; omega⟩ (fun q hq => by cases hq; omega) rowl hcs (fun j o hn ha => by cases ha; exact ⟨hqi, fun q hq => by cases hq; omega⟩)
    · rw [hk3 j (by omega) fun q hq => by have := (hlow1 q hq).1; omega]; exact rd1.same.eq j hj
    · rw [hi3, flat_append]; rfl
  have F4 : FrS i qa h (h3.set i (.cells t_spec_l5Search [.slice a0 n0 c0 e0, .slice a1 n1 c1 e1, .bool sp, .slice (some (h1.length + 1, 0)) (qn + 1) (qn + 1) false, .slice (some (qs, 0)) (d + 1) cs es, .str []] false)) (some (h1.length + 1, 0)) := (F1.trans F3).trans FrS.set
  have p4 : (h3.set i (.cells t_spec_l5Search [.slice a0 n0 c0 e0, .slice a1 n1 c1 e1, .bool sp, .slice (some (h1.length + 1, 0)) (qn + 1) (qn + 1) false, .slice (some (qs, 0)) (d + 1) cs es, .str []] false))[p1]? = some (.cells t_impl_Need [.str n.1, .str n.2] false) := by rw [set_ne hpi.symm]; exact p3
  have hp1l := Own.lt p1'
  generalize h3.set i (.cells t_spec_l5Search [.slice a0 n0 c0 e0, .slice a1 n1 c1 e1, .bool sp, .slice (some (h1.length + 1, 0)) (qn + 1) (qn + 1) false, .slice (some (qs, 0)) (d + 1) cs es, .str []] false) = h4 at rd4 F4 p4 ⊢
  refine bcase_dec (fun hd => ?_) (fun hd => ?_)
  · have : f = 0 := by omega
    subst this
    exact bad deepT h4 _ _ (by decide) rd4 F4 (ask_deep h300')
  obtain ⟨f', rfl⟩ : ∃ f', f = f' + 1 := ⟨f - 1, by omega⟩
  have ih := @ih f' rfl
  simp only [row_all2 p4, xRow_some, xCons_cons, xNil_nil, xStr_some]
  refine (schPick_ok r b rd4 hw hnd).mono ?_
  rintro v h5 ⟨rfl, rd5, F5, hneg, hpos⟩
  have F5' := F4.trans F5
  simp only [xInt_some]
  refine bcase_dec (fun hlt => ?_) (fun hge => ?_)
  · rw [if_pos hlt] at rd5
    rw [ask_none h300' hlt]
    exact ⟨rfl, _, st', rd5, F5', by omega, fun s hs => (by cases hs), fun y m hm => by cases hm; exact ⟨hneg hlt, hlast⟩⟩
  rw [if_neg hge] at rd5
  obtain ⟨k, hk, hkl⟩ := hpos hge
  have hqa4 : ∀ q, some (h1.length + 1, 0) = some (q, 0) → p1 ≠ q := fun q hq => by cases hq; omega
  have p5 := F5.get p4 hpi hqa4
  obtain ⟨qn5, qc5, qe5, sa5, sn5, sc5, se5, o5, v5, r5, hsc5, hd5⟩ := rd5.ob
  obtain ⟨ii, oi, hki, na, nn, ncp, ne, rfl, _, hri, _, _, _, hrw, hnl⟩ := (r.same rd5.same).inst (k := k) (by omega)
  have hbk := b.is _ (List.getElem_mem hkl)
  rw [hk]
  simp only [hCell_of p5, hCell_of o5, Nat.zero_add, List.getElem?_cons_succ, List.getElem?_cons_zero, xPtr_some, xSome_some, xSl_some, Int.toNat_natCast, hri, xRow_some, xCons_cons, xNil_nil, xStr_some, true_and]
  refine ⟨by omega, ?_⟩
  refine (sNeeds_ok (i := w.is[k]) (t := n.2) hrw (by omega) (by omega) (by omega) (fun p hp => (hbk.2.2.2 p hp).2)).mono ?_
  rintro v h6 ⟨s6, ma, mn, mc, me, rfl, fm⟩
  have rd6 := rd5.step s6
  have F6 := F5'.trans (FrS.of_same s6)
  have p6 := s6.get p5 (Own.lt p5)
  have o6 := s6.get o5 (Own.lt o5)
  have hneeds : (wk w).needs (k : Int) n.2 = needsW w.is[k] n.2 := by show needsW (insAt w (k : Int)) n.2 = _; rw [insAt_of hkl]
  simp only [xTup_tup, xCons_cons, xSl_some, xBool_some, xNil_nil, hCell_of o6, List.getElem?_cons_succ, List.getElem?_cons_zero, true_and]
  refine bcase_not (fun hok => ?_) (fun hok => ?_)
  · refine bad bigT h6 _ _ (by decide) rd6 F6 (ask_big h300' hge ?_)
    rw [hk, hneeds]
    cases hh : needsW w.is[k] n.2 with
    | none => rfl
    | some _ => rw [hh] at hok; cases hok
  obtain ⟨ms, hms⟩ := Option.isSome_iff_exists.1 hok
  have hms3 := needs_all hw hkl hms
  rw [hms] at fm
  simp only [Option.getD_some] at fm
  have hmn := fm.1
  have hask := ask_go (k := wk w) (sp := sp) (dec := decX) (f := f') (n := n) (asked := asked) h300' hge (by rw [hk, hneeds]; exact hms)
  rw [hk] at hask
  have hask : askP (wk w) sp decX (f' + 1) asked n = askEnd ms (partsW w sp f' k asked n ms ms.length).1 := by rw [hask]; unfold partsW; rw [List.take_length]
  refine (l13Dec_ok (by omega) (by omega)).mono ?_
  rintro v h7 ⟨rfl, s7⟩
  have rd7 := rd6.step s7
  have F7 := F6.trans (FrS.of_same s7)
  have p7 := s7.get p6 (Own.lt p6)
  have fm7 := fm.same s7
  have l7 := s7.le
  have hlow7 := rd7.low
  have hil7 := rd7.lt
  rw [itoaN_pos (by omega), Int.toNat_natCast, decX_ok (by omega)]
  simp only [xStr_some]
  have hlow6 := rd5.low
  have hil6 := rd5.lt
  refine F_spec_l5Search_find.L18ind _ _ _ _ _ _ _ _ _ _ _ _ (J := fun (g : Nat) x10 x8 h' => x8 = (g : Int) ∧ g ≤ mn ∧ (partsW w sp f' k asked n ms g).1.1 = .ok x10 ∧ ∃ qa' st2, SchS hb i (.slice a0 n0 c0 e0) (.slice (some (ii, oi)) n1 c1 e1) sp h' qa' (partsW w sp f' k asked n ms g).1.2 st2 [] ∧ d + 1 ≤ st2.length ∧ st2.length ≤ 32 ∧ FrS i (some (h1.length + 1, 0)) h7 h' qa') (fun g => mn - g) ?_ 0 _ _ _ ⟨rfl, by omega, rfl, _, st', rd7, by omega, by omega, FrS.refl _ _ _⟩
  rintro g x15 x8 h' ⟨rfl, hg, hout, qa', st2, rdg, hst2, hst32, Fg⟩ R hR
  obtain ⟨hb1, hb2⟩ := partsW_bound (w := w) (sp := sp) (f := f') (k := k) (n := n) (ms := ms) h300' g
  have hb2 := hb2 _ hout
  have hidx := partsW_idx (by omega) hout
  unfold F_spec_l5Search_find.L18t
  refine bcase_dec (fun hlt => ?_) (fun hge => ?_)
  · have fmg : Row h'.length h' ma (mn * 2) (flat eP ms) := Fg.row (fm7.row eP_len) fun j o hn ha => by
      obtain ⟨_, h0 | ⟨j', hj', hb', hjj⟩⟩ := fm7
      · omega
      · rw [ha] at hj'
        cases hj'
        exact ⟨by omega, fun q hq => by have := (hlow6 q hq).2; omega⟩
    obtain ⟨im, om, hgl, rfl, _, hrm, _⟩ := fmg.pr (k := g) (by omega)
    simp only [xSome_some, Int.toNat_natCast, hrm, xRow_some, xCons_cons, xNil_nil, xStr_some, letH_def]
    rw [store2]
    generalize hh8 : h' ++ [AObj.cells t_impl_Need [.str ms[g].1, .str ms[g].2] false] = h8
    have s8 : Same h'.length h' h8 := by rw [← hh8]; exact same_last
    have o8 : h8[h'.length]? = some (.cells t_impl_Need [.str ms[g].1, .str ms[g].2] false) := by rw [← hh8]; simp
    simp only [xHeap_some, row_all2 o8, xRow_some, xCons_cons, xNil_nil, xStr_some]
    refine ⟨by omega, ?_⟩
    rw [wrap_nat (by omega)]
    refine (ih (n := ms[g]) (rdg.step s8) hb1 (hms3.2 _ (List.getElem_mem hgl)) (by omega) hst2).mono ?_
    rintro v h9 ⟨rfl, qa9, st9, rd9, F9, h932, hok9, hno⟩
    have F9' := (Fg.trans (FrS.of_same s8)).trans F9
    have hsucc := partsW_succ (w := w) (sp := sp) (f := f') (k := k) (asked := asked) (n := n) (ms := ms) hgl
    have hPg : partsW w sp f' k asked n ms g = ((.ok x15, (partsW w sp f' k asked n ms g).1.2), g) := Prod.ext (Prod.ext hout rfl) hidx
    rw [hPg] at hsucc
    unfold partP at hsucc
    simp only at hsucc
    obtain ⟨qn9, qc9, qe9, sa9, sn9, sc9, se9, o9, _⟩ := rd9.ob
    simp only [xStr_some, xSome_some, hCell_of o9, Nat.zero_add, List.getElem?_cons_succ, List.getElem?_cons_zero]
    rcases hr : askP (wk w) sp decX f' (partsW w sp f' k asked n ms g).1.2 ms[g] with ⟨x, a'⟩
    rw [hr] at hsucc rd9 hno hok9
    cases x with
    | no y m =>
      obtain ⟨hy, hl9⟩ := hno y m rfl
      simp only at hsucc
      have hall := partsW_fail hsucc
      refine bcase_not (fun hd => ?_) (fun hd => absurd (of_decide_eq_true hd) hy)
      rw [hask, hall]
      exact ⟨rfl, qa9, st9, rd9, F7.trans F9', h932, fun s hs => (by cases hs), fun y' m' hm => by cases hm; exact ⟨hy, hl9⟩⟩
    | ok dd =>
      refine bcase_not (fun hd => absurd rfl (of_decide_eq_false hd)) (fun hd => ?_)
      simp only at hsucc
      obtain ⟨hc1, hc2⟩ := partsW_bound (w := w) (sp := sp) (f := f') (k := k) (n := n) (ms := ms) h300' (g + 1)
      have hc2 := hc2 _ (by rw [hsucc])
      simp only [List.length_append, List.length_cons] at hc2
      have hl9 := hok9 dd rfl
      rw [wrap_nat (by omega), mark_sub (by omega)]
      refine ⟨⟨by omega, by omega, by simp; omega⟩, by simp; omega, by simp [fTxt]; omega, ?_⟩
      refine hR (g + 1) _ _ _ (by omega) ⟨rfl, by omega, by rw [hsucc]; simp [fTxt], qa9, st9, by rw [hsucc]; exact rd9, by omega, h932, F9'⟩
  · apply F_spec_l5Search_find.A18x0i
    have : g = mn := by omega
    subst this
    have hend : partsW w sp f' k asked n ms ms.length = ((.ok x15, (partsW w sp f' k asked n ms g).1.2), g) := by rw [hmn]; exact Prod.ext (Prod.ext hout rfl) hidx
    have he : askP (wk w) sp decX (f' + 1) asked n = (.ok (if ms = [] then x15 else x15 ++ [41]), (partsW w sp f' k asked n ms g).1.2) := by rw [hask, hend]; rfl
    have fin : ∀ t, t = (if ms = [] then x15 else x15 ++ [41]) → F_spec_l5Search_find.J27 (SchQ hb i (.slice a0 n0 c0 e0) (.slice (some (ii, oi)) n1 c1 e1) sp d h qa (askP (wk w) sp decX (f' + 1) asked n)) (some (i, 0)) (d : Int) t h' := by
      rintro t rfl
      apply F_spec_l5Search_find.J27i
      obtain ⟨qn9, qc9, qe9, sa9, sn9, sc9, se9, o9, v9, r9, hsc9, hd9⟩ := rdg.ob
      have hsl9 : st2.length = sn9 := by have := r9.1; rw [flat_length eP_len] at this; omega
      simp only [xSome_some, hCell_of o9, Nat.zero_add, List.getElem?_cons_succ, List.getElem?_cons_zero, xSl_some]
      rw [wrap_nat (by omega)]
      refine slice_to' r9 (k := d + 1) (by omega) hsc9 rfl fun a' c' e' hr' hc' hp' => ?_
      simp only [xSl_some]
      rw [hStore_of o9 (by simp)]
      simp only [xHeap_some, putRow, List.take_succ_cons, List.take_zero, List.length_cons, List.length_nil, List.drop_succ_cons, List.drop_zero, List.drop_nil, List.cons_append, List.nil_append, List.append_nil]
      rw [he]
      refine ⟨rfl, qa', st2.take (d + 1), SchS.write rdg.same rdg.ge o9 v9 rdg.ne hr' hc' ?_, (F7.trans Fg).trans FrS.set, by rw [List.length_take]; omega, fun s hs => by rw [List.length_take]; omega, fun y m hm => by cases hm⟩
      intro j o hn ha
      rcases hp' with rfl | ⟨i', o', e1, e2⟩
      · cases ha
      · rw [e2] at ha; cases ha
        exact hd9 _ _ (by omega) e1
    refine bcase_dec (fun hpos => ⟨by simp; omega, ?_⟩) (fun hpos => ?_)
    · exact fin _ (by rw [if_neg (fun hm => by rw [hm] at hmn; simp at hmn; omega)])
    · exact fin _ (by rw [if_pos (List.eq_nil_of_length_eq_zero (by omega))])
end Go.Sim
