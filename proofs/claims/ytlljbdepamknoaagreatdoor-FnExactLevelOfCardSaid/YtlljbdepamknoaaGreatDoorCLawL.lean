/- A part of the proof of a statement of this seat: see the text that holds the theorem. No condition. -/
import Derived.Test.YtlljbdepamknoaaGreatDoorPReduce
import Derived.Test.YtlljbdepamknoaaGreatDoorPTCMarkW
import Derived.Test.YtlljbdepamknoaaGreatDoorCWRep
import Derived.Test.YtlljbdepamknoaaGreatDoorCTy
import Derived.Test.YtlljbdepamknoaaGreatDoorPTCLevel
import Derived.Test.YtlljbdepamknoaaGreatDoorNm
set_option linter.unusedVariables false
set_option linter.unusedSimpArgs false
set_option linter.all false
set_option linter.unusedVariables false
set_option linter.unusedSimpArgs false
set_option maxRecDepth 20000
namespace Go.Sim
open Go Go.RowKit

/-- What is told of a search in a world. -/
noncomputable def wk (w : Wd) : Wk := ⟨candW w, fun x t => needsW (insAt w x) t, mostI w⟩
/-- Nothing has turned but an object and a list that hangs on it. -/
structure FrS (i : Nat) (qa : Pt) (h h' : AHeap) (qa' : Pt) : Prop where
  le : h.length ≤ h'.length
  eq : ∀ j, j < h.length → j ≠ i → (∀ q, qa = some (q, 0) → j ≠ q) → h'[j]? = h[j]?
  pt : qa' = qa ∨ ∀ q, qa' = some (q, 0) → h.length ≤ q
theorem FrS.of_same {i : Nat} {qa : Pt} {h h' : AHeap} (s : Same h.length h h') : FrS i qa h h' qa := ⟨s.le, fun j hj _ _ => s.eq j hj, .inl rfl⟩
theorem FrS.refl (i : Nat) (qa : Pt) (h : AHeap) : FrS i qa h h qa := .of_same (Same.refl _ _)
theorem FrS.ne {i : Nat} {qa qa' : Pt} {h h' : AHeap} (f : FrS i qa h h' qa') {j : Nat} (hj : j < h.length) (hq : ∀ q, qa = some (q, 0) → j ≠ q) : ∀ q, qa' = some (q, 0) → j ≠ q := by
  intro q hq'
  rcases f.pt with e | e
  · exact hq q (e ▸ hq')
  · have := e q hq'; omega
theorem FrS.trans {i : Nat} {qa qa1 qa2 : Pt} {h h1 h2 : AHeap} (f : FrS i qa h h1 qa1) (g : FrS i qa1 h1 h2 qa2) : FrS i qa h h2 qa2 := by
  have := f.le; have := g.le
  refine ⟨by omega, fun j hj hi hq => ?_, ?_⟩
  · rw [g.eq j (by omega) hi (f.ne hj hq)]; exact f.eq j hj hi hq
  · rcases g.pt with e | e
    · rcases f.pt with e' | e'
      · exact .inl (e.trans e')
      · exact .inr fun q hq => e' q (e ▸ hq)
    · exact .inr fun q hq => by have := e q hq; omega
theorem FrS.set {i : Nat} {qa : Pt} {h : AHeap} {x : AObj} : FrS i qa h (h.set i x) qa := ⟨by simp, fun j _ hi _ => set_ne (fun e => hi e.symm), .inl rfl⟩
theorem FrS.get {i : Nat} {qa qa' : Pt} {h h' : AHeap} (f : FrS i qa h h' qa') {j : Nat} {x : AObj} (hj : h[j]? = some x) (hi : j ≠ i) (hq : ∀ q, qa = some (q, 0) → j ≠ q) : h'[j]? = some x := by rw [f.eq j (Own.lt hj) hi hq]; exact hj
theorem FrS.row {i : Nat} {qa qa' : Pt} {h h' : AHeap} (f : FrS i qa h h' qa') {a : Pt} {n : Nat} {cs : List AVal} (r : Row h.length h a n cs) (hn : ∀ j o, n ≠ 0 → a = some (j, o) → j ≠ i ∧ ∀ q, qa = some (q, 0) → j ≠ q) : Row h'.length h' a n cs := by
  obtain ⟨hl, r⟩ := r
  by_cases h0 : n = 0
  · exact ⟨hl, .inl h0⟩
  · refine ⟨hl, r.imp id ?_⟩
    rintro ⟨j, o', t, all, ro, ha, hi, hg, x⟩
    have := f.le
    obtain ⟨h1, h2⟩ := hn j o' h0 ha
    exact ⟨j, o', t, all, ro, ha, by omega, by rw [f.eq j hi h1 h2]; exact hg, x⟩
theorem FrS.below {i b : Nat} {qa qa' : Pt} {h h' : AHeap} (f : FrS i qa h h' qa') (hb : b ≤ h.length) (hi : b ≤ i) (hq : ∀ q, qa = some (q, 0) → b ≤ q) : Same b h h' := ⟨f.le, fun j hj => f.eq j (by omega) (by omega) fun q hq' => by have := hq q hq'; omega⟩
theorem needs_all {w : Wd} (hw : worldOk w = true) {n : Nd} {k : Nat} (hk : k < w.is.length) {ms : List Nd} (h : needsW w.is[k] n.2 = some ms) : ms.length ≤ 3 ∧ ∀ m ∈ ms, needOkW w m = true := by
  have := needsW_ok hw (List.getElem_mem hk) h
  exact ⟨this.1, this.2⟩
theorem needOkW_ty {w : Wd} {n : Nd} (h : needOkW w n = true) : tyOk n.2 = true ∧ n.2.length ≤ 60 := by
  have : tyOk n.2 = true := by
    unfold needOkW at h
    simp only [Bool.and_eq_true] at h
    exact h.2
  exact ⟨this, (tyOk_len this)⟩
end Go.Sim

/- Depths of dictionaries: plain Lean. -/
set_option linter.unusedSimpArgs false
set_option linter.unusedVariables false
namespace Go.Sim

/-- Whether a need has a dictionary of at most a depth. -/
def hasP (k : Wk) : Nat → Nd → Bool
  | 0, n => (k.cand n).any fun x => match k.needs x n.2 with | some ms => decide (ms = []) | none => false
  | d + 1, n => (k.cand n).any fun x => match k.needs x n.2 with | some ms => ms.all (hasP k d) | none => false
/-- Whether one candidate gives one. -/
def hasC (k : Wk) (d : Nat) (n : Nd) (x : Int) : Bool := match k.needs x n.2 with | some ms => (decide (ms = []) || decide (0 < d)) && ms.all (hasP k (d - 1)) | none => false
theorem hasP_eq (k : Wk) (d : Nat) (n : Nd) : hasP k d n = (k.cand n).any (hasC k d n) := by
  cases d with
  | zero =>
    unfold hasP
    congr 1
    funext x
    unfold hasC
    cases k.needs x n.2 with
    | none => rfl
    | some ms => cases ms <;> rfl
  | succ d =>
    unfold hasP
    congr 1
    funext x
    unfold hasC
    cases k.needs x n.2 with
    | none => rfl
    | some ms => simp
/-- The least depth of at most six, or -1. -/
def lvlP (k : Wk) (n : Nd) : Int := match (List.range 7).find? (fun d => hasP k d n) with | some d => d | none => -1
theorem lvlP_some {k : Wk} {n : Nd} {g : Nat} (hg : g < 7) (h : ∀ d, d < g → hasP k d n = false) (hh : hasP k g n = true) : lvlP k n = g := by
  have : (List.range 7).find? (fun d => hasP k d n) = some g := by
    have h1 : List.range 7 = List.range g ++ g :: (List.range (6 - g)).map (fun x => g + 1 + x) := by
      have h2 : (7 : Nat) = g + (7 - g) := by omega
      conv => lhs; rw [h2]
      rw [List.range_add]
      congr 1
      have h3 : 7 - g = (6 - g) + 1 := by omega
      rw [h3, List.range_succ_eq_map]
      simp [List.map_map, Function.comp_def]
      intro a _
      omega
    rw [h1, List.find?_append]
    have : (List.range g).find? (fun d => hasP k d n) = none := by
      rw [List.find?_eq_none]
      intro d hd
      rw [h d (List.mem_range.1 hd)]; simp
    rw [this, List.find?_cons, hh]; rfl
  unfold lvlP
  rw [this]
theorem lvlP_none {k : Wk} {n : Nd} (h : ∀ d, d < 7 → hasP k d n = false) : lvlP k n = -1 := by
  have : (List.range 7).find? (fun d => hasP k d n) = none := by
    rw [List.find?_eq_none]
    intro d hd
    rw [h d (List.mem_range.1 hd)]; simp
  unfold lvlP
  rw [this]
/-- The keys: the program's and the reference's. -/
def keyP (n : Nd) (d : Nat) : List Nat := n.1 ++ [32] ++ n.2 ++ [32] ++ [48 + d]
def keyS (n : Nd) (d : Nat) : List Nat := [48 + d] ++ (n.1 ++ [32] ++ n.2)
theorem keyP_inj {n m : Nd} {d e : Nat} (hn : n.1.length = 1) (hm : m.1.length = 1) (h : keyP n d = keyP m e) : n = m ∧ d = e := by
  unfold keyP at h
  have h1 := List.append_inj_right' h rfl
  have h2 := List.append_inj_left' h rfl
  have h3 := List.append_inj_left' h2 rfl
  rw [List.append_assoc, List.append_assoc] at h3
  have h4 := List.append_inj h3 (by omega)
  have h5 := List.append_inj h4.2 rfl
  simp at h1
  exact ⟨Prod.ext h4.1 h5.2, h1⟩
theorem keyS_inj {n m : Nd} {d e : Nat} (hn : n.1.length = 1) (hm : m.1.length = 1) (h : keyS n d = keyS m e) : n = m ∧ d = e := by
  unfold keyS at h
  have h1 := List.append_inj h rfl
  have h3 := h1.2
  rw [List.append_assoc, List.append_assoc] at h3
  have h4 := List.append_inj h3 (by omega)
  have h5 := List.append_inj h4.2 rfl
  have h6 := h1.1
  simp at h6
  exact ⟨Prod.ext h4.1 h5.2, h6⟩
/-- The class of a need that is known is one letter. -/
theorem knownC_len {cs : List Nd} {c : List Nat} (h : clsOk cs = true) (hk : knownC cs c = true) : c.length = 1 := by
  unfold knownC at hk
  obtain ⟨x, hx, he⟩ := List.any_eq_true.1 hk
  obtain ⟨i, hi, rfl⟩ := List.getElem_of_mem hx
  unfold clsOk at h
  simp only [Bool.and_eq_true, List.all_eq_true] at h
  have := h.1 i (List.mem_range.2 hi)
  unfold clsAt at this
  simp only [Bool.and_eq_true] at this
  have h1 := this.1.1
  rw [getD_at hi] at h1
  have he := of_decide_eq_true he
  rw [he] at h1
  unfold isCls at h1
  match c, h1 with
  | [a], _ => rfl
theorem needOk_len {w : Wd} (hw : worldOk w = true) {n : Nd} (h : needOkW w n = true) : n.1.length = 1 := by
  unfold worldOk at hw
  unfold needOkW at h
  simp only [Bool.and_eq_true] at hw h
  exact knownC_len hw.1.1 h.1
end Go.Sim

/- The search for a dictionary: bounds and equations; plain Lean. -/
set_option linter.unusedSimpArgs false
set_option linter.unusedVariables false
namespace Go.Sim

def fTxt : Fnd → List Nat | .ok s => s | .no _ _ => []
def fWhy : Fnd → List Nat | .ok _ => [] | .no y _ => y
section
variable {k : Wk} {sp : Bool} {dec : Int → List Nat}
end
end Go.Sim

set_option linter.unusedVariables false
set_option linter.unusedSimpArgs false
set_option maxRecDepth 20000
namespace Go.Sim
open Go Go.RowKit

/-- A search in memory. -/
structure AskS (hb : AHeap) (i : Nat) (u v : AVal) (sp : Bool) (h : AHeap) (qa : Pt) (asked : List Nd) (fl : Nd) : Prop where
  same : Same hb.length hb h
  ge : hb.length ≤ i
  ob : ∃ qn qc qe x7, h[i]? = some (.cells t_impl_search [u, v, .bool sp, .fn n_impl_searched_lit1 [], .slice qa qn qc qe, .str fl.1, .str fl.2, x7] false) ∧ NVec hb.length h qa qn qc asked
  ne : ∀ q, qa = some (q, 0) → q ≠ i
section
variable {hb : AHeap} {i : Nat} {u v : AVal} {sp : Bool} {h : AHeap} {qa : Pt} {asked : List Nd} {fl : Nd}
theorem AskS.step {h' : AHeap} (r : AskS hb i u v sp h qa asked fl) (k : Same h.length h h') : AskS hb i u v sp h' qa asked fl := by
  obtain ⟨qn, qc, qe, x7, ho, hv⟩ := r.ob
  exact ⟨r.same.trans (k.mono r.same.le), r.ge, ⟨qn, qc, qe, x7, k.get ho (Own.lt ho), hv.same k⟩, r.ne⟩
theorem AskS.lt (r : AskS hb i u v sp h qa asked fl) : i < h.length := by obtain ⟨_, _, _, _, ho, _⟩ := r.ob; exact Own.lt ho
theorem AskS.low (r : AskS hb i u v sp h qa asked fl) : ∀ q, qa = some (q, 0) → hb.length ≤ q ∧ q < h.length := by
  obtain ⟨qn, qc, qe, x7, ho, hv⟩ := r.ob
  exact fun q hq => ⟨hv.low q hq, hv.vec.lt' hq⟩
/-- What a search leaves. -/
def AskQ (hb : AHeap) (i : Nat) (u v : AVal) (sp : Bool) (h : AHeap) (qa : Pt) (r : Fnd × List Nd) (x : AVal) (h' : AHeap) : Prop :=
  ∃ qa' fl', x = .tup [.str (fTxt r.1), .str (fWhy r.1)] ∧ AskS hb i u v sp h' qa' r.2 fl' ∧ FrS i qa h h' qa' ∧ ∀ y n, r.1 = .no y n → (y ≠ [] ∧ y ≠ wrongT) ∧ fl' = n
theorem AskQ.of {h0 : AHeap} {qa0 : Pt} {r : Fnd × List Nd} {x : AVal} {h' : AHeap} (F : FrS i qa0 h0 h qa) (q : AskQ hb i u v sp h qa r x h') : AskQ hb i u v sp h0 qa0 r x h' := by
  obtain ⟨qa', fl', e, a, f, z⟩ := q
  exact ⟨qa', fl', e, a, F.trans f, z⟩
end
theorem worldOk_len {w : Wd} (h : worldOk w = true) : w.is.length ≤ 10 := by
  unfold worldOk at h
  simp only [Bool.and_eq_true, decide_eq_true_eq] at h
  exact h.1.2
end Go.Sim

set_option linter.unusedVariables false
set_option linter.unusedSimpArgs false
set_option maxRecDepth 20000
namespace Go.Sim
open Go Go.RowKit

theorem key_ok {h : AHeap} {n : Nd} {d : Nat} (hd : d < 10) (hc : n.1.length + n.2.length ≤ 1048576) : SCall pg n_impl_key [.agg [.str n.1, .str n.2], .int .i64 (d : Int)] h fun v h' => v = .str (keyP n d) ∧ Same h.length h h' := by
  apply F_impl_key.call
  simp only [letH_def]
  have s0 : Same h.length h (h ++ [.cells t_impl_Need [.str n.1, .str n.2] false]) := same_last
  rw [rowL2]
  simp only [xRow_some, xCons_cons, xNil_nil, xStr_some]
  refine (need35_ok (by omega)).mono ?_
  rintro v h1 ⟨rfl, s1⟩
  simp only [xStr_some]
  refine ⟨by simp; omega, (lib_itoaSmall (i := d) (by omega)).mono ?_⟩
  rintro v h2 ⟨rfl, rfl⟩
  simp only [xStr_some]
  rw [decN_lt hd]
  exact ⟨by simp; omega, rfl, s0.cat s1⟩
/-- What is remembered is true. -/
def MapOk (w : Wd) (es : List ME) : Prop := ∀ e ∈ es, ∃ s b, e.1 = .str s ∧ e.2.1 = .bool b ∧ ∀ n d, needOkW w n = true → s = keyP n d → b = hasP (wk w) d n
theorem findM_ok : ∀ (es : List ME) (s : List Nat) (i : Nat), (∀ e ∈ es, ∃ s, e.1 = .str s) → ∃ r, findS es s i = some r ∧ ∀ j v, r = some (j, v) → ∃ e ∈ es, e.1 = .str s ∧ e.2.1 = v
  | [], s, i, h => ⟨none, rfl, fun j v h => by cases h⟩
  | (k, v, c) :: es, s, i, h => by
    obtain ⟨t, ht⟩ := h (k, v, c) (by simp)
    simp only at ht
    subst ht
    unfold findS
    by_cases hst : s = t
    · rw [if_pos hst]
      exact ⟨_, rfl, fun j u hj => by cases hj; exact ⟨_, List.mem_cons_self, by rw [hst], rfl⟩⟩
    · rw [if_neg hst]
      obtain ⟨r, hr, hm⟩ := findM_ok es s (i + 1) fun e he => h e (by simp [he])
      exact ⟨r, hr, fun j u hj => by obtain ⟨e, he, h1⟩ := hm j u hj; exact ⟨e, by simp [he], h1⟩⟩
theorem mem_modify {α : Type} {f : α → α} : ∀ {l : List α} {i : Nat} {x : α}, x ∈ l.modify i f → x ∈ l ∨ ∃ y ∈ l, x = f y
  | [], i, x, h => by cases i <;> simp at h
  | y :: l, 0, x, h => by
    simp at h
    rcases h with rfl | h
    · exact .inr ⟨y, by simp, rfl⟩
    · exact .inl (by simp [h])
  | y :: l, i + 1, x, h => by
    simp at h
    rcases h with rfl | h
    · exact .inl (by simp)
    · rcases mem_modify h with h | ⟨z, hz, rfl⟩
      · exact .inl (by simp [h])
      · exact .inr ⟨z, by simp [hz], rfl⟩
/-- The table of a search for depths. -/
structure WayS (hb : AHeap) (i m : Nat) (u v : AVal) (w : Wd) (h : AHeap) : Prop where
  same : Same hb.length hb h
  ge : hb.length ≤ m
  lt : m < i
  ob : ∃ x2 x4, h[i]? = some (.cells t_impl_ways [u, v, x2, .map (some m), x4] false)
  mp : ∃ es clk, h[m]? = some (.map es clk) ∧ MapOk w es
section
variable {hb : AHeap} {i m : Nat} {u v : AVal} {w : Wd} {h : AHeap}
theorem WayS.step {h' : AHeap} (r : WayS hb i m u v w h) (k : Same h.length h h') : WayS hb i m u v w h' := by
  obtain ⟨x2, x4, ho⟩ := r.ob
  obtain ⟨es, clk, hm, ok⟩ := r.mp
  exact ⟨r.same.trans (k.mono r.same.le), r.ge, r.lt, ⟨x2, x4, k.get ho (Own.lt ho)⟩, ⟨es, clk, k.get hm (Own.lt hm), ok⟩⟩
end
theorem Keep.get {i : Nat} {h h' : AHeap} (k : Keep i h h') {j : Nat} {x : AObj} (hj : h[j]? = some x) (hne : j ≠ i) : h'[j]? = some x := by rw [k.eq j (Own.lt hj) hne]; exact hj
theorem Row.keep' {i : Nat} {h h' : AHeap} {a : Pt} {n : Nat} {cs : List AVal} (r : Row h.length h a n cs) (ha : n ≠ 0 → ∀ j o, a = some (j, o) → j ≠ i) (k : Keep i h h') : Row h'.length h' a n cs := (r.keep ha k).mono k.le
/-- Whether a need has a dictionary: the program. -/
def SomeC (d : Nat) (hb : AHeap) (i m : Nat) (a0 a1 : Pt) (n0 c0 n1 c1 : Nat) (e0 e1 : Bool) (w : Wd) : Prop := ∀ {h : AHeap} {n : Nd}, WayS hb i m (.slice a0 n0 c0 e0) (.slice a1 n1 c1 e1) w h → needOkW w n = true →
  SCall pg n_impl_ways_some [.ptr (some (i, 0)), .agg [.str n.1, .str n.2], .int .i64 (d : Int)] h fun x h' => x = .bool (hasP (wk w) d n) ∧ WayS hb i m (.slice a0 n0 c0 e0) (.slice a1 n1 c1 e1) w h' ∧ Keep m h h'
/-- All needs of an instance. -/
theorem waysAll {hb : AHeap} {i m : Nat} {a0 a1 : Pt} {n0 c0 n1 c1 : Nat} {e0 e1 : Bool} {w : Wd} {d : Nat} (ih : 0 < d → SomeC (d - 1) hb i m a0 a1 n0 c0 n1 c1 e0 e1 w) (hd10 : d < 10) {h : AHeap} (rd : WayS hb i m (.slice a0 n0 c0 e0) (.slice a1 n1 c1 e1) w h)
    {p0 p2 : Nat} (hp0 : h[p0]? = some (.cells t_P_impl_ways [.ptr (some (i, 0))] false)) (hp2 : h[p2]? = some (.cells t_int [.int .i64 (d : Int)] false)) (hi0 : p0 ≠ m) (hi2 : p2 ≠ m)
    {a : Pt} {k c : Nat} {e : Bool} {ms : List Nd} (row : Row h.length h a (k * 2) (flat eP ms)) (hk : k ≤ 3) (hrm : ∀ j o, a = some (j, o) → j ≠ m) (hv : ∀ x ∈ ms, needOkW w x = true) (hd : ms = [] ∨ 0 < d) :
    SCall pg n_slices_ContainsFunc_L_impl_Need_impl_Need [.slice a k c e, .fn n_impl_ways_some_lit1_lit1 [.ptr (some (p0, 0)), .ptr (some (p2, 0))]] h fun x h' => x = .bool (!ms.all (hasP (wk w) (d - 1))) ∧ WayS hb i m (.slice a0 n0 c0 e0) (.slice a1 n1 c1 e1) w h' ∧ Keep m h h' := by
  have hkl : ms.length = k := by have := row.1; rw [flat_length eP_len] at this; omega
  apply F_slices_ContainsFunc_L_impl_Need_impl_Need__impl_ways_some_lit1_lit1.call
  apply F_slices_IndexFunc_L_impl_Need_impl_Need__impl_ways_some_lit1_lit1.call
  refine F_slices_IndexFunc_L_impl_Need_impl_Need__impl_ways_some_lit1_lit1.L2ind _ _ _ _ _ _ _ _ (J := fun (g : Nat) x8 h' => x8 = (g : Int) ∧ g ≤ k ∧ (ms.take g).all (hasP (wk w) (d - 1)) = true ∧ WayS hb i m (.slice a0 n0 c0 e0) (.slice a1 n1 c1 e1) w h' ∧ Keep m h h') (fun g => k - g) ?_ 0 _ _ ⟨rfl, by omega, rfl, rd, Keep.of_same (Same.refl _ _)⟩
  rintro g x8 h' ⟨rfl, hg, htrue, rdg, Kg⟩ R hR
  unfold F_slices_IndexFunc_L_impl_Need_impl_Need__impl_ways_some_lit1_lit1.L2t
  refine bcase_dec (fun hlt => ?_) (fun hge => ?_)
  · obtain ⟨im, om, hgl, rfl, _, hrm', _⟩ := (row.keep' (fun _ j o ha => hrm j o ha) Kg).pr (k := g) (by omega)
    simp only [xSome_some, Int.toNat_natCast, hrm', xRow_some, xCons_cons, xNil_nil, xStr_some]
    refine ⟨by omega, ?_⟩
    apply F_impl_ways_some_lit1_lit1.call
    simp only [letH_def]
    generalize hh7 : h' ++ [AObj.cells t_impl_Need [.str ms[g].1, .str ms[g].2] false] = h7
    have s7 : Same h'.length h' h7 := by rw [← hh7]; exact same_last
    have o7 : h7[h'.length]? = some (.cells t_impl_Need [.str ms[g].1, .str ms[g].2] false) := by rw [← hh7]; simp
    have g0 := Kg.get hp0 hi0
    have g2 := Kg.get hp2 hi2
    have g0 := s7.get g0 (Own.lt g0)
    have g2 := s7.get g2 (Own.lt g2)
    have hpos : 0 < d := hd.resolve_left (fun hm => by rw [hm] at hgl; simp at hgl)
    simp only [hCell_of g0, hCell_of g2, row_all2 o7, List.getElem?_cons_zero, xPtr_some, xRow_some, xCons_cons, xNil_nil, xStr_some, xInt_some]
    rw [show IntKind.wrap .i64 ((d : Int) - 1) = ((d - 1 : Nat) : Int) by rw [IntWalk.i64_in _ (by omega)]; omega]
    refine (ih hpos (n := ms[g]) (rdg.step s7) (hv _ (List.getElem_mem hgl))).mono ?_
    rintro v h8 ⟨rfl, rd8, K8⟩
    have K8' := (Kg.trans (Keep.of_same s7)).trans K8
    simp only [xBool_some]
    refine bcase_not (fun hbb => ?_) (fun hbb => ?_)
    · have hall : ms.all (hasP (wk w) (d - 1)) = false := by rw [List.all_eq_false]; exact ⟨_, List.getElem_mem hgl, by rw [hbb]; simp⟩
      exact ⟨by rw [hall]; simp, rd8, K8'⟩
    · rw [wrap_nat (by omega)]
      refine hR (g + 1) _ _ (by omega) ⟨rfl, by omega, ?_, rd8, K8'⟩
      rw [List.take_succ_eq_append_getElem hgl, List.all_append, htrue]; simp [hbb]
  · apply F_slices_IndexFunc_L_impl_Need_impl_Need__impl_ways_some_lit1_lit1.A2x0i
    have : g = k := by omega
    subst this
    rw [List.take_of_length_le (by omega)] at htrue
    simp only [xInt_some]
    exact ⟨by rw [htrue]; rfl, rdg, Kg⟩
/-- One candidate. -/
theorem waysOne {hb : AHeap} {i m : Nat} {a0 a1 : Pt} {n0 c0 n1 c1 : Nat} {e0 e1 : Bool} {w : Wd} (r : WRep hb a0 n0 c0 a1 n1 c1 w) (b : WB w) (hw : worldOk w = true) {d : Nat} (ih : 0 < d → SomeC (d - 1) hb i m a0 a1 n0 c0 n1 c1 e0 e1 w) (hd10 : d < 10)
    {h : AHeap} {n : Nd} (rd : WayS hb i m (.slice a0 n0 c0 e0) (.slice a1 n1 c1 e1) w h) {p0 p1 p2 : Nat} (hp0 : h[p0]? = some (.cells t_P_impl_ways [.ptr (some (i, 0))] false)) (hp1 : h[p1]? = some (.cells t_impl_Need [.str n.1, .str n.2] false))
    (hp2 : h[p2]? = some (.cells t_int [.int .i64 (d : Int)] false)) (hi0 : p0 ≠ m) (hi2 : p2 ≠ m) {k : Nat} (hk : k < w.is.length) :
    SCall pg n_impl_ways_some_lit1 [.int .i64 (k : Int), .ptr (some (p0, 0)), .ptr (some (p1, 0)), .ptr (some (p2, 0))] h fun x h' => x = .bool (hasC (wk w) d n (k : Int)) ∧ WayS hb i m (.slice a0 n0 c0 e0) (.slice a1 n1 c1 e1) w h' ∧ Keep m h h' := by
  have hl1 := r.len1
  apply F_impl_ways_some_lit1.call
  obtain ⟨x2, x4, ho⟩ := rd.ob
  obtain ⟨ii, oi, hki, na, nn, ncp, ne, rfl, _, hri, _, _, _, hrow, hnl⟩ := (r.same rd.same).inst (k := k) (by omega)
  have hbk := b.is _ (List.getElem_mem hk)
  have hfa : ∀ K : AVal → Prop, fieldAddrA pg t_impl_Need (.ptr (some (p1, 0))) 1 K = K (.ptr (some (p1, 0 + 1))) := fun K => by kernel_rfl
  simp only [hfa, hCell_of hp0, hCell_of hp1, hCell_of ho, Nat.zero_add, List.getElem?_cons_succ, List.getElem?_cons_zero, xPtr_some, xSome_some, xSl_some, Int.toNat_natCast, hri, xRow_some, xCons_cons, xNil_nil, xStr_some, true_and]
  refine ⟨by omega, ?_⟩
  refine (needs_ok (i := w.is[k]) (t := n.2) hrow (by omega)).mono ?_
  rintro v h2 ⟨s2, ma, mn, mc, me, rfl, fm⟩
  have rd2 := rd.step s2
  have q0 := s2.get hp0 (Own.lt hp0)
  have q1 := s2.get hp1 (Own.lt hp1)
  have q2 := s2.get hp2 (Own.lt hp2)
  have o2 := s2.get ho (Own.lt ho)
  have hneeds : (wk w).needs (k : Int) n.2 = needsW w.is[k] n.2 := by show needsW (insAt w (k : Int)) n.2 = _; rw [insAt_of hk]
  have hml : m < h.length := by obtain ⟨es, clk, hm, _⟩ := rd.mp; exact Own.lt hm
  simp only [xTup_tup, xCons_cons, xSl_some, xBool_some, xNil_nil, hCell_of q0, hCell_of q2, hCell_of o2, List.getElem?_cons_succ, List.getElem?_cons_zero, xInt_some, true_and]
  refine bcase_intro (fun hok => ?_) (fun hok => ?_)
  · obtain ⟨ms, hms⟩ := Option.isSome_iff_exists.1 hok
    have hms3 := needs_all hw hk hms
    rw [hms] at fm
    simp only [Option.getD_some] at fm
    have hmn := fm.1
    have hC : hasC (wk w) d n (k : Int) = ((decide (ms = []) || decide (0 < d)) && ms.all (hasP (wk w) (d - 1))) := by unfold hasC; rw [hneeds, hms]
    have hrm : ∀ j o, mn ≠ 0 → ma = some (j, o) → j ≠ m := fun j o hn ha => by
      obtain ⟨_, h0 | ⟨j', hj', hb', _⟩⟩ := fm
      · omega
      · rw [ha] at hj'; cases hj'; omega
    have all : ms = [] ∨ 0 < d → SCall pg n_slices_ContainsFunc_L_impl_Need_impl_Need [.slice ma mn mc me, .fn n_impl_ways_some_lit1_lit1 [.ptr (some (p0, 0)), .ptr (some (p2, 0))]] h2 fun x h' => x = .bool (!ms.all (hasP (wk w) (d - 1))) ∧ WayS hb i m (.slice a0 n0 c0 e0) (.slice (some (ii, oi)) n1 c1 e1) w h' ∧ Keep m h2 h' := by
      intro hd
      by_cases h0 : mn = 0
      · have : ms = [] := List.eq_nil_of_length_eq_zero (by omega)
        subst this; subst h0
        have hR : Row h2.length h2 none (0 * 2) (flat eP []) := by simpa using Row.nil
        apply F_slices_ContainsFunc_L_impl_Need_impl_Need__impl_ways_some_lit1_lit1.call
        apply F_slices_IndexFunc_L_impl_Need_impl_Need__impl_ways_some_lit1_lit1.call
        refine F_slices_IndexFunc_L_impl_Need_impl_Need__impl_ways_some_lit1_lit1.L2ind _ _ _ _ _ _ _ _ (J := fun (g : Nat) x8 h' => x8 = 0 ∧ h' = h2) (fun g => 0) ?_ 0 _ _ ⟨rfl, rfl⟩
        rintro g x8 h' ⟨rfl, rfl⟩ R hR
        unfold F_slices_IndexFunc_L_impl_Need_impl_Need__impl_ways_some_lit1_lit1.L2t
        refine bcase_dec (fun hlt => by simp at hlt) (fun _ => ?_)
        apply F_slices_IndexFunc_L_impl_Need_impl_Need__impl_ways_some_lit1_lit1.A2x0i
        simp only [xInt_some]
        exact ⟨rfl, rd2, Keep.of_same (Same.refl _ _)⟩
      · exact waysAll ih hd10 rd2 q0 q2 hi0 hi2 (fm.row eP_len) (by have := hms3.1; omega) (fun j o ha => hrm j o h0 ha) hms3.2 hd
    refine bcase_beq (fun h0 => ?_) (fun h0 => ?_)
    · have hm0 : ms = [] := List.eq_nil_of_length_eq_zero (by omega)
      refine (all (.inl hm0)).mono ?_
      rintro v h3 ⟨rfl, rd3, K3⟩
      simp only [xBool_some, Bool.not_not]
      exact ⟨by rw [hC]; simp [hm0], rd3, (Keep.of_same s2).trans K3⟩
    · have hm0 : ms ≠ [] := fun hm => h0 (by rw [hm] at hmn; simp at hmn; omega)
      refine bcase_dec (fun hd => ?_) (fun hd => ?_)
      · refine (all (.inr (by omega))).mono ?_
        rintro v h3 ⟨rfl, rd3, K3⟩
        simp only [xBool_some, Bool.not_not]
        exact ⟨by rw [hC]; simp [show 0 < d by omega], rd3, (Keep.of_same s2).trans K3⟩
      · exact ⟨by rw [hC]; simp [hm0, show d = 0 by omega], rd2, Keep.of_same s2⟩
  · have hC : hasC (wk w) d n (k : Int) = false := by
      unfold hasC; rw [hneeds]
      cases hh : needsW w.is[k] n.2 with
      | none => rfl
      | some _ => rw [hh] at hok; cases hok
    exact ⟨by rw [hC], rd2, Keep.of_same s2⟩
end Go.Sim

set_option linter.unusedVariables false
set_option linter.unusedSimpArgs false
set_option maxRecDepth 20000
namespace Go.Sim
open Go Go.RowKit

theorem MapOk.at {w : Wd} {es : List ME} (ok : MapOk w es) {n : Nd} {d : Nat} (hv : needOkW w n = true) (s : List Nat) (hs : s = keyP n d) {K : Option AVal → Prop} (h0 : K none) (h1 : K (some (.bool (hasP (wk w) d n)))) : lookS es s K := by
  obtain ⟨r, hr, hm⟩ := findM_ok es s 0 fun e he => by obtain ⟨s, b, h, _⟩ := ok e he; exact ⟨s, h⟩
  unfold lookS
  rw [hr]
  match r, hm with
  | none, _ => exact h0
  | some (j, v), hm =>
    obtain ⟨e, he, e1, e2⟩ := hm j v rfl
    obtain ⟨s', b', k1, k2, k3⟩ := ok e he
    rw [k1] at e1
    cases e1
    rw [k2] at e2
    subst e2
    rw [k3 n d hv hs]
    exact h1
theorem MapOk.put {w : Wd} (hw : worldOk w = true) {es : List ME} (ok : MapOk w es) {clk : Nat} {n : Nd} {d : Nat} (hv : needOkW w n = true) {K : List ME → Nat → Prop} (hK : ∀ es' clk', MapOk w es' → K es' clk') : putS es clk (keyP n d) (.bool (hasP (wk w) d n)) K := by
  have new : ∀ c : Nat, ∀ s b, (AVal.str (keyP n d), AVal.bool (hasP (wk w) d n), c).1 = .str s → (AVal.str (keyP n d), AVal.bool (hasP (wk w) d n), c).2.1 = .bool b → ∀ n' d', needOkW w n' = true → s = keyP n' d' → b = hasP (wk w) d' n' := by
    intro c s b hs hb n' d' hv' he
    cases hs; cases hb
    obtain ⟨rfl, rfl⟩ := keyP_inj (needOk_len hw hv) (needOk_len hw hv') he
    rfl
  obtain ⟨r, hr, _⟩ := findM_ok es (keyP n d) 0 fun e he => by obtain ⟨s, b, h, _⟩ := ok e he; exact ⟨s, h⟩
  unfold putS
  rw [hr]
  match r with
  | none =>
    refine hK _ _ fun e he => ?_
    rcases List.mem_append.1 he with he | he
    · exact ok e he
    · rw [List.mem_singleton] at he
      subst he
      exact ⟨_, _, rfl, rfl, new clk _ _ rfl rfl⟩
  | some (j, v) =>
    refine hK _ _ fun e he => ?_
    rcases mem_modify he with he | ⟨y, hy, rfl⟩
    · exact ok e he
    · exact ⟨_, _, rfl, rfl, new y.2.2 _ _ rfl rfl⟩
/-- Whether some candidate gives one. -/
theorem waysAny {hb : AHeap} {i m : Nat} {a0 a1 : Pt} {n0 c0 n1 c1 : Nat} {e0 e1 : Bool} {w : Wd} (r : WRep hb a0 n0 c0 a1 n1 c1 w) (b : WB w) (hw : worldOk w = true) {d : Nat} (ih : 0 < d → SomeC (d - 1) hb i m a0 a1 n0 c0 n1 c1 e0 e1 w) (hd10 : d < 10)
    {h4 : AHeap} {n : Nd} (rd4 : WayS hb i m (.slice a0 n0 c0 e0) (.slice a1 n1 c1 e1) w h4) {p0 p1 p2 : Nat} (q0 : h4[p0]? = some (.cells t_P_impl_ways [.ptr (some (i, 0))] false)) (q1 : h4[p1]? = some (.cells t_impl_Need [.str n.1, .str n.2] false))
    (q2 : h4[p2]? = some (.cells t_int [.int .i64 (d : Int)] false)) (hi0 : p0 ≠ m) (hi1 : p1 ≠ m) (hi2 : p2 ≠ m) {ca : Pt} {cn cc : Nat} {ce : Bool} (rowc : Row h4.length h4 ca cn (flat eI (candW w n))) (hcnl : cn ≤ 1048576) (hrm : cn ≠ 0 → ∀ j o, ca = some (j, o) → j ≠ m) :
    SCall pg n_slices_ContainsFunc_L_int_int [.slice ca cn cc ce, .fn n_impl_ways_some_lit1 [.ptr (some (p0, 0)), .ptr (some (p1, 0)), .ptr (some (p2, 0))]] h4 fun x h' => x = .bool (hasP (wk w) d n) ∧ WayS hb i m (.slice a0 n0 c0 e0) (.slice a1 n1 c1 e1) w h' ∧ Keep m h4 h' := by
  have hcin := candW_in w n
  have hcl' : (candW w n).length = cn := by have := rowc.1; rw [flat_length eI_len] at this; omega
  apply F_slices_ContainsFunc_L_int_int__impl_ways_some_lit1.call
  apply F_slices_IndexFunc_L_int_int__impl_ways_some_lit1.call
  refine F_slices_IndexFunc_L_int_int__impl_ways_some_lit1.L2ind _ _ _ _ _ _ _ _ _ (J := fun (g : Nat) x8 h' => x8 = (g : Int) ∧ g ≤ cn ∧ ((candW w n).take g).any (hasC (wk w) d n) = false ∧ WayS hb i m (.slice a0 n0 c0 e0) (.slice a1 n1 c1 e1) w h' ∧ Keep m h4 h') (fun g => cn - g) ?_ 0 _ _ ⟨rfl, by omega, rfl, rd4, Keep.of_same (Same.refl _ _)⟩
  rintro g x8 h' ⟨rfl, hg, hfalse, rdg, Kg⟩ R hR
  unfold F_slices_IndexFunc_L_int_int__impl_ways_some_lit1.L2t
  refine bcase_dec (fun hlt => ?_) (fun hge => ?_)
  · obtain ⟨im, om, hgl, rfl, _, hcell⟩ := (rowc.keep' hrm Kg).i64 (k := g) (by omega)
    obtain ⟨k, hk, hkl⟩ := hcin _ (List.getElem_mem hgl)
    simp only [xSome_some, Int.toNat_natCast, hcell, xInt_some]
    refine ⟨by omega, ?_⟩
    have hkk : (candW w n)[g] = (k : Int) := hk
    rw [hkk]
    refine (waysOne r b hw ih hd10 rdg (Kg.get q0 hi0) (Kg.get q1 hi1) (Kg.get q2 hi2) hi0 hi2 hkl).mono ?_
    rintro v h6 ⟨rfl, rd6, K6⟩
    simp only [xBool_some]
    refine bcase_intro (fun hc => ?_) (fun hc => ?_)
    · have : hasP (wk w) d n = true := by
        rw [hasP_eq]
        exact List.any_eq_true.2 ⟨_, List.getElem_mem hgl, by rw [hkk]; exact hc⟩
      rw [this]
      exact ⟨by simp, rd6, Kg.trans K6⟩
    · rw [wrap_nat (by omega)]
      refine hR (g + 1) _ _ (by omega) ⟨rfl, by omega, ?_, rd6, Kg.trans K6⟩
      rw [List.take_succ_eq_append_getElem hgl, List.any_append, hfalse]; simp [hkk, hc]
  · apply F_slices_IndexFunc_L_int_int__impl_ways_some_lit1.A2x0i
    have : g = cn := by omega
    subst this
    rw [List.take_of_length_le (by omega)] at hfalse
    have : hasP (wk w) d n = false := by rw [hasP_eq]; rw [show (wk w).cand n = candW w n from rfl, hfalse]
    rw [this]
    simp only [xInt_some]
    exact ⟨rfl, rdg, Kg⟩
theorem some_step {hb : AHeap} {i m : Nat} {a0 a1 : Pt} {n0 c0 n1 c1 : Nat} {e0 e1 : Bool} {w : Wd} (r : WRep hb a0 n0 c0 a1 n1 c1 w) (b : WB w) (hw : worldOk w = true) (d : Nat) (hd10 : d < 10) (ih : 0 < d → SomeC (d - 1) hb i m a0 a1 n0 c0 n1 c1 e0 e1 w) : SomeC d hb i m a0 a1 n0 c0 n1 c1 e0 e1 w := by
  intro h n rd hnd
  have hty := needOkW_ty hnd
  have hcl := needOk_len hw hnd
  apply F_impl_ways_some.call
  simp only [letH_def]
  generalize hh0 : h ++ [AObj.cells t_P_impl_ways [.ptr (some (i, 0))] false] = h0
  generalize hh1 : h0 ++ [AObj.cells t_impl_Need [.str n.1, .str n.2] false] = h1
  generalize hh2 : h1 ++ [AObj.cells t_int [.int .i64 (d : Int)] false] = h2
  have s0 : Same h.length h h0 := by rw [← hh0]; exact same_last
  have s1 : Same h0.length h0 h1 := by rw [← hh1]; exact same_last
  have s2 : Same h1.length h1 h2 := by rw [← hh2]; exact same_last
  have l0 : h0.length = h.length + 1 := by rw [← hh0]; simp
  have l1 : h1.length = h0.length + 1 := by rw [← hh1]; simp
  have l2 : h2.length = h1.length + 1 := by rw [← hh2]; simp
  have p0 : h0[h.length]? = some (.cells t_P_impl_ways [.ptr (some (i, 0))] false) := by rw [← hh0]; simp
  have p0 := s2.get (s1.get p0 (Own.lt p0)) (by have := Own.lt p0; omega)
  have p1 : h1[h0.length]? = some (.cells t_impl_Need [.str n.1, .str n.2] false) := by rw [← hh1]; simp
  have p1 := s2.get p1 (Own.lt p1)
  have p2 : h2[h1.length]? = some (.cells t_int [.int .i64 (d : Int)] false) := by rw [← hh2]; simp
  have S2 := (s0.cat s1).cat s2
  have rd2 := rd.step S2
  obtain ⟨x2, x4, ho⟩ := rd2.ob
  have hml : m < h.length := by obtain ⟨es, clk, hm, _⟩ := rd.mp; exact Own.lt hm
  simp only [hCell_of p0, hCell_of p2, row_all2 p1, hCell_of ho, Nat.zero_add, List.getElem?_cons_succ, List.getElem?_cons_zero, xPtr_some, xSome_some, xMap_some, xRow_some, xCons_cons, xNil_nil, xStr_some, xInt_some, true_and]
  refine (key_ok hd10 (by omega)).mono ?_
  rintro v h3 ⟨rfl, s3⟩
  have rd3 := rd2.step s3
  have p0 := s3.get p0 (Own.lt p0)
  have p1 := s3.get p1 (Own.lt p1)
  have p2 := s3.get p2 (Own.lt p2)
  have o3 := s3.get ho (Own.lt ho)
  have S3 := S2.cat s3
  obtain ⟨es, clk, hm3, ok⟩ := rd3.mp
  simp only [xStr_some, hCell_of p0, hCell_of o3, List.getElem?_cons_succ, List.getElem?_cons_zero, true_and, xMapObj, hm3]
  refine ok.at hnd _ rfl ?_ ?_
  · simp only [Option.getD_none, xBool_some, Option.isSome_none]
    refine bcase_intro (fun h => by cases h) (fun _ => ?_)
    simp only [hRow_of o3 (show 0 + 2 ≤ _ by simp), row_all2 p1, xPtr_some, xSome_some, Nat.zero_add, List.drop_zero, List.take_succ_cons, List.take_zero, xRow_some, xCons_cons, xNil_nil, xSl_some, xStr_some, true_and]
    refine (candidates_ok (nd := n) (r.same rd3.same) b).mono ?_
    rintro v h4 ⟨s4, ca, cn, cc, ce, rfl, fc⟩
    have rd4 := rd3.step s4
    have q0 := s4.get p0 (Own.lt p0)
    have q1 := s4.get p1 (Own.lt p1)
    have q2 := s4.get p2 (Own.lt p2)
    have o4 := s4.get o3 (Own.lt o3)
    have S4 := S3.cat s4
    have hcin := candW_in w n
    have hcl' := fc.1
    have hcnl : cn ≤ 1048576 := by have := ixs_len (candF n) w.is; have := b.li; unfold candW at hcl'; omega
    have rowc : Row h4.length h4 ca cn (flat eI (candW w n)) := by simpa using FreshR.row eI_len fc
    have hrm : cn ≠ 0 → ∀ j o, ca = some (j, o) → j ≠ m := fun hn j o ha => by
      obtain ⟨_, h0 | ⟨j', hj', hb', _⟩⟩ := fc
      · omega
      · rw [ha] at hj'; cases hj'; have := s3.le; omega
    simp only [xSl_some, hCell_of q0, List.getElem?_cons_zero, true_and]
    refine (waysAny r b hw ih hd10 rd4 q0 q1 q2 (by omega) (by omega) (by omega) rowc hcnl hrm).mono ?_
    rintro v h5 ⟨rfl, rd5, K5⟩
    have hi5 : i ≠ m := by have := rd.lt; omega
    have t0 := K5.get q0 (by omega)
    have t1 := K5.get q1 (by omega)
    have t2 := K5.get q2 (by omega)
    have o5 := K5.get o4 hi5
    simp only [xBool_some, hRow_of o5 (show 0 + 2 ≤ _ by simp), hRow_of o4 (show 0 + 2 ≤ _ by simp), hCell_of t0, hCell_of q0, hCell_of t2, hCell_of o5, row_all2 t1, Nat.zero_add, List.drop_zero, List.take_succ_cons, List.take_zero, List.getElem?_cons_succ, List.getElem?_cons_zero, xPtr_some, xSome_some, xMap_some, xRow_some, xCons_cons, xNil_nil, xStr_some, xInt_some, true_and]
    refine (key_ok hd10 (by omega)).mono ?_
    rintro v h6 ⟨rfl, s6⟩
    have rd6 := rd5.step s6
    have u0 := s6.get t0 (Own.lt t0)
    have o6 := s6.get o5 (Own.lt o5)
    obtain ⟨es6, clk6, hm6, ok6⟩ := rd6.mp
    simp only [xStr_some, hCell_of u0, hCell_of o6, List.getElem?_cons_succ, List.getElem?_cons_zero, true_and, xMp, xMapObj, hm6]
    refine ok6.put hw hnd fun es' clk' ok' => ?_
    have wd : WayS hb i m (.slice a0 n0 c0 e0) (.slice a1 n1 c1 e1) w (h6.set m (.map es' clk')) := by
      refine ⟨⟨by simp; exact rd6.same.le, fun j hj => by rw [set_ne (by have := rd.ge; omega)]; exact rd6.same.eq j hj⟩, rd.ge, rd.lt, ?_, ⟨es', clk', set_get hm6, ok'⟩⟩
      obtain ⟨y2, y4, hy⟩ := rd6.ob
      exact ⟨y2, y4, by rw [set_ne hi5.symm]; exact hy⟩
    exact ⟨wd, (((Keep.of_same S4).trans K5).trans (Keep.of_same s6)).trans (Keep.set _ _ _)⟩
  · simp only [Option.getD_some, xBool_some, Option.isSome_some]
    refine bcase_intro (fun _ => ⟨by trivial, rd3, Keep.of_same S3⟩) (fun h => by cases h)
theorem some_ok {hb : AHeap} {i m : Nat} {a0 a1 : Pt} {n0 c0 n1 c1 : Nat} {e0 e1 : Bool} {w : Wd} (r : WRep hb a0 n0 c0 a1 n1 c1 w) (b : WB w) (hw : worldOk w = true) : ∀ d, d < 10 → SomeC d hb i m a0 a1 n0 c0 n1 c1 e0 e1 w
  | 0, h => some_step r b hw 0 h fun hd => by omega
  | d + 1, h => some_step r b hw (d + 1) h fun _ => some_ok r b hw d (by omega)
theorem ilevelOf_ok {h : AHeap} {a0 a1 : Pt} {n0 c0 n1 c1 : Nat} {e0 e1 : Bool} {w : Wd} {nd : Nd} (r : WRep h a0 n0 c0 a1 n1 c1 w) (b : WB w) (hw : worldOk w = true) (hnd : needOkW w nd = true) :
    SCall pg n_impl_levelOf [.agg [.slice a0 n0 c0 e0, .slice a1 n1 c1 e1], .agg [.str nd.1, .str nd.2]] h fun v h' => v = .int .i64 (lvlP (wk w) nd) ∧ Same h.length h h' := by
  apply F_impl_levelOf.call
  simp only [letH_def]
  generalize hh0 : h ++ [AObj.cells t_impl_World [.slice a0 n0 c0 e0, .slice a1 n1 c1 e1] false] = h0
  generalize hh1 : h0 ++ [AObj.cells t_impl_Need [.str nd.1, .str nd.2] false] = h1
  have s0 : Same h.length h h0 := by rw [← hh0]; exact same_last
  have s1 : Same h0.length h0 h1 := by rw [← hh1]; exact same_last
  have w0 : h0[h.length]? = some (wObj a0 n0 c0 e0 a1 n1 c1 e1) := by rw [← hh0]; simp [wObj]
  have w1 := s1.get w0 (Own.lt w0)
  have p1 : h1[h0.length]? = some (.cells t_impl_Need [.str nd.1, .str nd.2] false) := by rw [← hh1]; simp
  have l0 : h0.length = h.length + 1 := by rw [← hh0]; simp
  have l1 : h1.length = h0.length + 1 := by rw [← hh1]; simp
  rw [wRow w1]
  simp only [xRow_some, xCons_cons, xNil_nil, xSl_some]
  apply F_impl_begin.call
  simp only [letH_def]
  generalize hh2 : h1 ++ [AObj.cells t_impl_World [.slice a0 n0 c0 e0, .slice a1 n1 c1 e1] false] = h2
  have s2 : Same h1.length h1 h2 := by rw [← hh2]; exact same_last
  have l2 : h2.length = h1.length + 1 := by rw [← hh2]; simp
  have w2 : h2[h1.length]? = some (wObj a0 n0 c0 e0 a1 n1 c1 e1) := by rw [← hh2]; simp [wObj]
  rw [wRow w2]
  simp only [xRow_some, xCons_cons, xNil_nil, xSl_some]
  generalize hh3 : h2 ++ [AObj.map [] 0] = h3
  have s3 : Same h2.length h2 h3 := by rw [← hh3]; exact same_last
  have l3 : h3.length = h2.length + 1 := by rw [← hh3]; simp
  generalize hh4 : h3 ++ [AObj.map [] 0] = h4
  have s4 : Same h3.length h3 h4 := by rw [← hh4]; exact same_last
  have l4 : h4.length = h3.length + 1 := by rw [← hh4]; simp
  have m4 : h4[h3.length]? = some (.map [] 0) := by rw [← hh4]; simp
  generalize hh5 : h4 ++ [AObj.cells t_impl_ways [.slice a0 n0 c0 e0, .slice a1 n1 c1 e1, .map (some h2.length), .map (some h3.length), .bool true] false] = h5
  have s5 : Same h4.length h4 h5 := by rw [← hh5]; exact same_last
  have o5 : h5[h4.length]? = some (.cells t_impl_ways [.slice a0 n0 c0 e0, .slice a1 n1 c1 e1, .map (some h2.length), .map (some h3.length), .bool true] false) := by rw [← hh5]; simp
  have S5 := ((s0.cat s1).cat s2).cat ((s3.cat s4).cat s5)
  have p5 := ((s2.cat s3).cat (s4.cat s5)).get p1 (Own.lt p1)
  have rd : WayS h h4.length h3.length (.slice a0 n0 c0 e0) (.slice a1 n1 c1 e1) w h5 := ⟨S5, by omega, by omega, ⟨_, _, o5⟩, ⟨[], 0, s5.get m4 (Own.lt m4), fun e he => by cases he⟩⟩
  simp only [xPtr_some]
  refine F_impl_levelOf.L3ind _ _ _ _ (J := fun (g : Nat) x9 h' => x9 = (g : Int) ∧ g ≤ 7 ∧ (∀ d, d < g → hasP (wk w) d nd = false) ∧ WayS h h4.length h3.length (.slice a0 n0 c0 e0) (.slice a1 n1 c1 e1) w h' ∧ h'[h0.length]? = some (.cells t_impl_Need [.str nd.1, .str nd.2] false)) (fun g => 7 - g) ?_ 0 _ _ ⟨rfl, by omega, fun d hd => by omega, rd, p5⟩
  rintro g x9 h' ⟨rfl, hg, hf, rdg, hp⟩ R hR
  unfold F_impl_levelOf.L3t
  refine bcase_dec (fun hlt => ?_) (fun hge => ?_)
  · simp only [row_all2 hp, xRow_some, xCons_cons, xNil_nil, xStr_some]
    refine (some_ok r b hw g (by omega) rdg hnd).mono ?_
    rintro v h6 ⟨rfl, rd6, K6⟩
    simp only [xBool_some]
    refine bcase_intro (fun hh => ?_) (fun hh => ?_)
    · exact ⟨by rw [lvlP_some (by omega) hf hh], rd6.same⟩
    · rw [wrap_nat (by omega)]
      refine hR (g + 1) _ _ (by omega) ⟨rfl, by omega, fun d hd => ?_, rd6, K6.get hp (by omega)⟩
      by_cases hdg : d = g
      · rw [hdg]; exact hh
      · exact hf d (by omega)
  · apply F_impl_levelOf.A3x0i
    exact ⟨by rw [lvlP_none fun d hd => hf d (by omega)], rdg.same⟩
/-- What LevelOf answers. -/
noncomputable def levelW (w : Wd) (n : Nd) : Int := if worldOk w && needOkW w n then lvlP (wk w) n else -1
theorem iLevelOf_ok {h : AHeap} {a0 a1 : Pt} {n0 c0 n1 c1 : Nat} {e0 e1 : Bool} {w : Wd} {nd : Nd} (r : WRep h a0 n0 c0 a1 n1 c1 w) (b : WB w) :
    SCall pg n_impl_LevelOf [.agg [.slice a0 n0 c0 e0, .slice a1 n1 c1 e1], .agg [.str nd.1, .str nd.2]] h fun v h' => v = .int .i64 (levelW w nd) ∧ Same h.length h h' := by
  apply F_impl_LevelOf.call
  simp only [letH_def]
  generalize hh0 : h ++ [AObj.cells t_impl_World [.slice a0 n0 c0 e0, .slice a1 n1 c1 e1] false] = h0
  generalize hh1 : h0 ++ [AObj.cells t_impl_Need [.str nd.1, .str nd.2] false] = h1
  have s0 : Same h.length h h0 := by rw [← hh0]; exact same_last
  have s1 : Same h0.length h0 h1 := by rw [← hh1]; exact same_last
  have w0 : h0[h.length]? = some (wObj a0 n0 c0 e0 a1 n1 c1 e1) := by rw [← hh0]; simp [wObj]
  have w1 := s1.get w0 (Own.lt w0)
  have p1 : h1[h0.length]? = some (.cells t_impl_Need [.str nd.1, .str nd.2] false) := by rw [← hh1]; simp
  rw [wRow w1, row_all2 p1]
  simp only [xRow_some, xCons_cons, xNil_nil, xSl_some, xStr_some]
  have S1 := s0.cat s1
  refine (iNeedValid_ok (ct := nd.1) (tt := nd.2) (r.same S1) b).mono ?_
  rintro v h2 ⟨rfl, s2⟩
  have w2 := s2.get w1 (Own.lt w1)
  have p2 := s2.get p1 (Own.lt p1)
  have S2 := S1.cat s2
  simp only [xBool_some]
  refine bcase_not (fun hc => ⟨by unfold levelW; rw [hc]; rfl, S2⟩) (fun hc => ?_)
  rw [wRow w2, row_all2 p2]
  simp only [xRow_some, xCons_cons, xNil_nil, xSl_some, xStr_some, true_and]
  have hc' := hc
  simp only [Bool.and_eq_true] at hc'
  refine (ilevelOf_ok (nd := nd) (r.same S2) b hc'.1 hc'.2).mono ?_
  rintro v h3 ⟨rfl, s3⟩
  simp only [xInt_some]
  exact ⟨by unfold levelW; rw [hc]; rfl, S2.cat s3⟩
end Go.Sim

set_option linter.unusedVariables false
set_option linter.unusedSimpArgs false
set_option maxRecDepth 20000
namespace Go.Sim
open Go Go.RowKit

end Go.Sim

set_option linter.unusedVariables false
set_option linter.unusedSimpArgs false
set_option maxRecDepth 20000
namespace Go.Sim
open Go Go.RowKit

theorem skey_ok {h : AHeap} {n : Nd} {d : Nat} (hd : d < 10) (hc : n.1.length + n.2.length ≤ 1048576) : SCall pg n_spec_l7Key [.agg [.str n.1, .str n.2], .int .i64 (d : Int)] h fun v h' => v = .str (keyS n d) ∧ Same h.length h h' := by
  apply F_spec_l7Key.call
  simp only [letH_def]
  generalize hh0 : h ++ [AObj.cells t_impl_Need [.str n.1, .str n.2] false] = h0
  have s0 : Same h.length h h0 := by rw [← hh0]; exact same_last
  have p1 : h0[h.length]? = some (.cells t_impl_Need [.str n.1, .str n.2] false) := by rw [← hh0]; simp
  simp only [row_all2 p1, xRow_some, xCons_cons, xNil_nil, xStr_some]
  refine (l13Dec_ok (by omega) (by omega)).mono ?_
  rintro v h1 ⟨rfl, s1⟩
  rw [itoaN_pos (by omega), Int.toNat_natCast, decN_lt hd]
  simp only [xStr_some, row_all2 (s1.get p1 (Own.lt p1)), true_and]
  refine (need33_ok (by omega)).mono ?_
  rintro v h2 ⟨rfl, s2⟩
  simp only [xStr_some]
  exact ⟨by simp; omega, rfl, (s0.cat s1).cat s2⟩
def eT (b : Bool) : List AVal := [.bool b]
theorem eT_len (x : Bool) : (eT x).length = 1 := rfl
/-- What is owned by a list's pointer. -/
def ownP (a : Pt) : List Nat := match a with | some (q, _) => [q] | none => []
theorem mem_ownP {a : Pt} {j : Nat} : j ∈ ownP a ↔ ∃ o, a = some (j, o) := by
  cases a with
  | none => simp [ownP]
  | some p => obtain ⟨q, o⟩ := p; simp [ownP]; exact eq_comm
/-- Nothing has turned but what is owned; what is owned now was so or is new. -/
structure FrO (O O' : List Nat) (h h' : AHeap) : Prop where
  le : h.length ≤ h'.length
  eq : ∀ j, j < h.length → j ∉ O → h'[j]? = h[j]?
  nw : ∀ j, j ∈ O' → j ∈ O ∨ h.length ≤ j
theorem FrO.of_same {O : List Nat} {h h' : AHeap} (s : Same h.length h h') : FrO O O h h' := ⟨s.le, fun j hj _ => s.eq j hj, fun j hj => .inl hj⟩
theorem FrO.trans {O O1 O2 : List Nat} {h h1 h2 : AHeap} (f : FrO O O1 h h1) (g : FrO O1 O2 h1 h2) : FrO O O2 h h2 := by
  have := f.le; have := g.le
  refine ⟨by omega, fun j hj hn => ?_, fun j hj => ?_⟩
  · have hn1 : j ∉ O1 := fun hm => by
      rcases f.nw j hm with h | h
      · exact hn h
      · omega
    rw [g.eq j (by omega) hn1]
    exact f.eq j hj hn
  · rcases g.nw j hj with h | h
    · exact f.nw j h
    · exact .inr (by omega)
theorem FrO.get {O O' : List Nat} {h h' : AHeap} (f : FrO O O' h h') {j : Nat} {x : AObj} (hj : h[j]? = some x) (hn : j ∉ O) : h'[j]? = some x := by rw [f.eq j (Own.lt hj) hn]; exact hj
theorem FrO.row {O O' : List Nat} {h h' : AHeap} (f : FrO O O' h h') {a : Pt} {n : Nat} {cs : List AVal} (r : Row h.length h a n cs) (hn : ∀ j o, n ≠ 0 → a = some (j, o) → j ∉ O) : Row h'.length h' a n cs := by
  obtain ⟨hl, r⟩ := r
  by_cases h0 : n = 0
  · exact ⟨hl, .inl h0⟩
  · refine ⟨hl, r.imp id ?_⟩
    rintro ⟨j, o', t, all, ro, ha, hi, hg, x⟩
    have := f.le
    exact ⟨j, o', t, all, ro, ha, by omega, by rw [f.eq j hi (hn j o' h0 ha)]; exact hg, x⟩
/-- The reference's table. -/
structure TabS (hb : AHeap) (i : Nat) (u v : AVal) (w : Wd) (h : AHeap) (O : List Nat) (tab : List (List Nat × Bool)) : Prop where
  same : Same hb.length hb h
  low : ∀ j ∈ O, hb.length ≤ j ∧ j < h.length
  io : i ∈ O
  ob : ∃ ka kn kc ke la ln lc le ga gn gc ge cs, h[i]? = some (.cells t_spec_l7Table [u, v, .slice ka kn kc ke, .slice la ln lc le, .slice ga gn gc ge] false) ∧
    Vec t_string h ka kn kc (flat eS (tab.map Prod.fst)) ∧ kn = tab.length ∧ Vec t_L_string h la ln lc cs ∧ cs.length = ln ∧ ln = tab.length ∧ Vec t_bool h ga gn gc (flat eT (tab.map Prod.snd)) ∧ gn = tab.length ∧
    O = i :: (ownP ka ++ ownP la ++ ownP ga) ∧ O.Nodup
  ok : ∀ p ∈ tab, ∀ n d, needOkW w n = true → p.1 = keyS n d → p.2 = hasP (wk w) d n
section
variable {hb : AHeap} {i : Nat} {u v : AVal} {w : Wd} {h : AHeap} {O : List Nat} {tab : List (List Nat × Bool)}
theorem TabS.step {h' : AHeap} (r : TabS hb i u v w h O tab) (k : Same h.length h h') : TabS hb i u v w h' O tab := by
  obtain ⟨ka, kn, kc, ke, la, ln, lc, le, ga, gn, gc, ge, cs, ho, v1, e1, v2, e2, e2', v3, e3, e4⟩ := r.ob
  exact ⟨r.same.trans (k.mono r.same.le), fun j hj => by have := r.low j hj; have := k.le; omega, r.io, ⟨ka, kn, kc, ke, la, ln, lc, le, ga, gn, gc, ge, cs, k.get ho (Own.lt ho), v1.same k, e1, v2.same k, e2, e2', v3.same k, e3, e4⟩, r.ok⟩
/-- Where a key stands. -/
theorem at_ok (r : TabS hb i u v w h O tab) (hl : tab.length ≤ 1099511627776) (s : List Nat) :
    SCall pg n_spec_l7Table_at [.ptr (some (i, 0)), .str s] h fun x h' => h' = h ∧ ((x = .int .i64 (-1)) ∨ ∃ g : Nat, x = .int .i64 (g : Int) ∧ ∃ hg : g < tab.length, tab[g].1 = s) := by
  obtain ⟨ka, kn, kc, ke, la, ln, lc, le, ga, gn, gc, ge, cs, ho, v1, e1, v2, e2, e2', v3, e3, e4⟩ := r.ob
  apply F_spec_l7Table_at.call
  simp only [xSome_some, hCell_of ho, Nat.zero_add, List.getElem?_cons_succ, List.getElem?_cons_zero, xSl_some]
  have row : Row h.length h ka kn (flat eS (tab.map Prod.fst)) := v1.row (by rw [flat_length eS_len]; simp [e1])
  refine F_spec_l7Table_at.L2ind _ _ _ _ _ _ _ (J := fun (g : Nat) x8 h' => x8 = (g : Int) ∧ g ≤ kn ∧ h' = h) (fun g => kn - g) ?_ 0 _ _ ⟨rfl, by omega, rfl⟩
  rintro g x8 h' ⟨rfl, hg, rfl⟩ R hR
  unfold F_spec_l7Table_at.L2t
  refine bcase_dec (fun hlt => ?_) (fun hge => ?_)
  · obtain ⟨im, om, hgl, rfl, _, hcell⟩ := Row.el1 eS_len row (k := g) (by omega)
    have hc : hCell h' (.ptr (some (im, om + g * 1))) = some (.str tab[g].1) := by rw [hcell]; simp [eS]
    simp only [xSome_some, Int.toNat_natCast, hc, xStr_some]
    refine ⟨by omega, bcase_dec (fun he => ?_) (fun he => ?_)⟩
    · exact ⟨by trivial, .inr ⟨g, rfl, by omega, he⟩⟩
    · rw [wrap_nat (by omega)]
      exact hR (g + 1) _ _ (by omega) ⟨rfl, by omega, rfl⟩
  · apply F_spec_l7Table_at.A2x0i
    exact ⟨rfl, .inl rfl⟩
theorem u_L_str7 : pg.underlying t_L_string = some (.slice t_string) := by kernel_rfl
theorem c_str7 : pg.cellsOf t_string = 1 := by kernel_rfl
theorem k_str7 : pg.okElem t_string = true := by kernel_rfl
theorem b_str7 : pg.bytesOf t_string ≤ 127 := Nat.le_of_ble_eq_true (by kernel_rfl)
theorem u_LL_str7 : pg.underlying t_L_L_string = some (.slice t_L_string) := by kernel_rfl
theorem c_L_str7 : pg.cellsOf t_L_string = 1 := by kernel_rfl
theorem k_L_str7 : pg.okElem t_L_string = true := by kernel_rfl
theorem b_L_str7 : pg.bytesOf t_L_string ≤ 127 := Nat.le_of_ble_eq_true (by kernel_rfl)
theorem u_L_bool7 : pg.underlying t_L_bool = some (.slice t_bool) := by kernel_rfl
theorem c_bool7 : pg.cellsOf t_bool = 1 := by kernel_rfl
theorem k_bool7 : pg.okElem t_bool = true := by kernel_rfl
theorem b_bool7 : pg.bytesOf t_bool ≤ 127 := Nat.le_of_ble_eq_true (by kernel_rfl)
theorem put_ok (r : TabS hb i u v w h O tab) (hl : tab.length + 1 ≤ 1099511627776) (s : List Nat) (b : Bool) (hok : ∀ n d, needOkW w n = true → s = keyS n d → b = hasP (wk w) d n) :
    SCall pg n_spec_l7Table_put [.ptr (some (i, 0)), .str s, .slice none 0 0 true, .bool b] h fun x h' => ∃ O', TabS hb i u v w h' O' (tab ++ [(s, b)]) ∧ FrO O O' h h' := by
  obtain ⟨ka, kn, kc, ke, la, ln, lc, le, ga, gn, gc, ge, cs, ho, v1, e1, v2, e2, e2', v3, e3, rfl, nd⟩ := r.ob
  have hsl := r.same.le
  have hnd : (∀ q o, ka = some (q, o) → q ≠ i ∧ (∀ o', la ≠ some (q, o')) ∧ ∀ o', ga ≠ some (q, o')) ∧ (∀ q o, la = some (q, o) → q ≠ i ∧ ∀ o', ga ≠ some (q, o')) ∧ (∀ q o, ga = some (q, o) → q ≠ i) := by
    simp only [List.nodup_cons, List.mem_append, List.nodup_append, mem_ownP] at nd
    obtain ⟨n1, ⟨n2, n3, n4⟩, n5, n6⟩ := nd
    refine ⟨fun q o ha => ⟨fun he => n1 (.inl (.inl ⟨o, he ▸ ha⟩)), fun o' hl => n4 q ⟨o, ha⟩ q ⟨o', hl⟩ rfl, fun o' hg => n6 q (.inl ⟨o, ha⟩) q ⟨o', hg⟩ rfl⟩, fun q o ha => ⟨fun he => n1 (.inl (.inr ⟨o, he ▸ ha⟩)), fun o' hg => n6 q (.inr ⟨o, ha⟩) q ⟨o', hg⟩ rfl⟩, fun q o ha he => n1 (.inr ⟨o, he ▸ ha⟩)⟩
  obtain ⟨d1, d2, d3⟩ := hnd
  have hil := Own.lt ho
  have lowk : ∀ q o, ka = some (q, o) → hb.length ≤ q ∧ q < h.length := fun q o ha => r.low q (by simp [mem_ownP]; exact .inr (.inl ⟨o, ha⟩))
  have lowl : ∀ q o, la = some (q, o) → hb.length ≤ q ∧ q < h.length := fun q o ha => r.low q (by simp [mem_ownP]; exact .inr (.inr (.inl ⟨o, ha⟩)))
  have lowg : ∀ q o, ga = some (q, o) → hb.length ≤ q ∧ q < h.length := fun q o ha => r.low q (by simp [mem_ownP]; exact .inr (.inr (.inr ⟨o, ha⟩)))
  have lowi := (r.low i r.io).1
  apply F_spec_l7Table_put.call
  simp only [xSome_some, hCell_of ho, Nat.zero_add, List.getElem?_cons_succ, List.getElem?_cons_zero, xSl_some, letH_def]
  refine v1.push u_L_str7 c_str7 k_str7 b_str7 (by rw [flat_length eS_len]; simp [e1]) rfl (by omega) (fun h1 hl1 hi1 hk1 => ?_)
  have o1 : h1[i]? = some (.cells t_spec_l7Table [u, v, .slice ka kn kc ke, .slice la ln lc le, .slice ga gn gc ge] false) := by rw [hk1 i hil fun q hq => ((d1 q 0 hq).1).symm]; exact ho
  simp only [xSl_some]
  rw [hStore_of o1 (by simp)]
  simp only [xHeap_some, putRow, List.take_succ_cons, List.take_zero, List.length_cons, List.length_nil, List.drop_succ_cons, List.drop_zero, List.drop_nil, List.cons_append, List.nil_append, List.append_nil]
  have o2 : (h1.set i (.cells t_spec_l7Table [u, v, .slice (some (h.length + 1, 0)) (kn + 1) (kn + 1) false, .slice la ln lc le, .slice ga gn gc ge] false))[i]? = some (.cells t_spec_l7Table [u, v, .slice (some (h.length + 1, 0)) (kn + 1) (kn + 1) false, .slice la ln lc le, .slice ga gn gc ge] false) := set_get o1
  have g2 : ∀ j, j < h.length → j ≠ i → (∀ o, ka ≠ some (j, o)) → (h1.set i (.cells t_spec_l7Table [u, v, .slice (some (h.length + 1, 0)) (kn + 1) (kn + 1) false, .slice la ln lc le, .slice ga gn gc ge] false))[j]? = h[j]? := fun j hj hne hk => by rw [set_ne (fun e => hne e.symm)]; exact hk1 j hj fun q hq he => hk 0 (he ▸ hq)
  have k2 : (h1.set i (.cells t_spec_l7Table [u, v, .slice (some (h.length + 1, 0)) (kn + 1) (kn + 1) false, .slice la ln lc le, .slice ga gn gc ge] false))[h.length + 1]? = some (.cells t_string (flat eS (tab.map Prod.fst) ++ [.str s]) false) := by rw [set_ne (by omega)]; exact hi1
  have hl2 : (h1.set i (.cells t_spec_l7Table [u, v, .slice (some (h.length + 1, 0)) (kn + 1) (kn + 1) false, .slice la ln lc le, .slice ga gn gc ge] false)).length = h.length + 2 := by simp [hl1]
  generalize h1.set i (.cells t_spec_l7Table [u, v, .slice (some (h.length + 1, 0)) (kn + 1) (kn + 1) false, .slice la ln lc le, .slice ga gn gc ge] false) = h2 at o2 g2 k2 hl2 ⊢
  simp only [hCell_of o2, Nat.zero_add, List.getElem?_cons_succ, List.getElem?_cons_zero, xSl_some]
  have v2' : Vec t_L_string h2 la ln lc cs := v2.agree fun j hj => g2 j (lowl j 0 hj).2 (d2 j 0 hj).1 fun o hk => (d1 j o hk).2.1 0 hj
  refine v2'.push u_LL_str7 c_L_str7 k_L_str7 b_L_str7 e2 rfl (by omega) (fun h3 hl3 hi3 hk3 => ?_)
  have o3 : h3[i]? = some (.cells t_spec_l7Table [u, v, .slice (some (h.length + 1, 0)) (kn + 1) (kn + 1) false, .slice la ln lc le, .slice ga gn gc ge] false) := by rw [hk3 i (by omega) fun q hq => ((d2 q 0 hq).1).symm]; exact o2
  have k3 : h3[h.length + 1]? = some (.cells t_string (flat eS (tab.map Prod.fst) ++ [.str s]) false) := by rw [hk3 _ (by omega) fun q hq => by have := (lowl q 0 hq).2; omega]; exact k2
  simp only [xSl_some]
  rw [hStore_of o3 (by simp)]
  simp only [xHeap_some, putRow, List.take_succ_cons, List.take_zero, List.length_cons, List.length_nil, List.drop_succ_cons, List.drop_zero, List.drop_nil, List.cons_append, List.nil_append, List.append_nil]
  have o4 : (h3.set i (.cells t_spec_l7Table [u, v, .slice (some (h.length + 1, 0)) (kn + 1) (kn + 1) false, .slice (some (h2.length + 1, 0)) (ln + 1) (ln + 1) false, .slice ga gn gc ge] false))[i]? = some (.cells t_spec_l7Table [u, v, .slice (some (h.length + 1, 0)) (kn + 1) (kn + 1) false, .slice (some (h2.length + 1, 0)) (ln + 1) (ln + 1) false, .slice ga gn gc ge] false) := set_get o3
  have g4 : ∀ j, j < h.length → j ≠ i → (∀ o, ka ≠ some (j, o)) → (∀ o, la ≠ some (j, o)) → (h3.set i (.cells t_spec_l7Table [u, v, .slice (some (h.length + 1, 0)) (kn + 1) (kn + 1) false, .slice (some (h2.length + 1, 0)) (ln + 1) (ln + 1) false, .slice ga gn gc ge] false))[j]? = h[j]? := fun j hj hne hk hq => by
    rw [set_ne (fun e => hne e.symm), hk3 j (by omega) fun q hq' he => hq 0 (he ▸ hq')]; exact g2 j hj hne hk
  have k4 : (h3.set i (.cells t_spec_l7Table [u, v, .slice (some (h.length + 1, 0)) (kn + 1) (kn + 1) false, .slice (some (h2.length + 1, 0)) (ln + 1) (ln + 1) false, .slice ga gn gc ge] false))[h.length + 1]? = some (.cells t_string (flat eS (tab.map Prod.fst) ++ [.str s]) false) := by rw [set_ne (by omega)]; exact k3
  have l4 : (h3.set i (.cells t_spec_l7Table [u, v, .slice (some (h.length + 1, 0)) (kn + 1) (kn + 1) false, .slice (some (h2.length + 1, 0)) (ln + 1) (ln + 1) false, .slice ga gn gc ge] false))[h2.length + 1]? = some (.cells t_L_string (cs ++ [.slice none 0 0 true]) false) := by rw [set_ne (by omega)]; exact hi3
  have hl4 : (h3.set i (.cells t_spec_l7Table [u, v, .slice (some (h.length + 1, 0)) (kn + 1) (kn + 1) false, .slice (some (h2.length + 1, 0)) (ln + 1) (ln + 1) false, .slice ga gn gc ge] false)).length = h2.length + 2 := by simp [hl3]
  generalize h3.set i (.cells t_spec_l7Table [u, v, .slice (some (h.length + 1, 0)) (kn + 1) (kn + 1) false, .slice (some (h2.length + 1, 0)) (ln + 1) (ln + 1) false, .slice ga gn gc ge] false) = h4 at o4 g4 k4 l4 hl4 ⊢
  simp only [hCell_of o4, Nat.zero_add, List.getElem?_cons_succ, List.getElem?_cons_zero, xSl_some]
  have v3' : Vec t_bool h4 ga gn gc (flat eT (tab.map Prod.snd)) := v3.agree fun j hj => g4 j (lowg j 0 hj).2 (d3 j 0 hj) (fun o hk => (d1 j o hk).2.2 0 hj) fun o hk => (d2 j o hk).2 0 hj
  refine v3'.push u_L_bool7 c_bool7 k_bool7 b_bool7 (by rw [flat_length eT_len]; simp [e3]) rfl (by omega) (fun h5 hl5 hi5 hk5 => ?_)
  have o5 : h5[i]? = some (.cells t_spec_l7Table [u, v, .slice (some (h.length + 1, 0)) (kn + 1) (kn + 1) false, .slice (some (h2.length + 1, 0)) (ln + 1) (ln + 1) false, .slice ga gn gc ge] false) := by rw [hk5 i (by omega) fun q hq => (d3 q 0 hq).symm]; exact o4
  have k5 : h5[h.length + 1]? = some (.cells t_string (flat eS (tab.map Prod.fst) ++ [.str s]) false) := by rw [hk5 _ (by omega) fun q hq => by have := (lowg q 0 hq).2; omega]; exact k4
  have l5 : h5[h2.length + 1]? = some (.cells t_L_string (cs ++ [.slice none 0 0 true]) false) := by rw [hk5 _ (by omega) fun q hq => by have := (lowg q 0 hq).2; omega]; exact l4
  simp only [xSl_some]
  rw [hStore_of o5 (by simp)]
  simp only [xHeap_some, putRow, List.take_succ_cons, List.take_zero, List.length_cons, List.length_nil, List.drop_succ_cons, List.drop_zero, List.drop_nil, List.cons_append, List.nil_append, List.append_nil]
  refine ⟨[i, h.length + 1, h2.length + 1, h4.length + 1], ⟨⟨by simp; omega, fun j hj => ?_⟩, fun j hj => ?_, by simp, ⟨some (h.length + 1, 0), kn + 1, kn + 1, false, some (h2.length + 1, 0), ln + 1, ln + 1, false, some (h4.length + 1, 0), gn + 1, gn + 1, false, cs ++ [.slice none 0 0 true], set_get o5, Vec.mk1 ?_, by simp [e1], Vec.mk1 ?_, by simp [e2], by simp [e2'], Vec.mk1 ?_, by simp [e3], rfl, ?_⟩, ?_⟩, ⟨by simp; omega, fun j hj hn => ?_, fun j hj => ?_⟩⟩
  · rw [set_ne (by omega), hk5 j (by omega) fun q hq => by have := (lowg q 0 hq).1; omega, g4 j (by omega) (by omega) (fun o hk => by have := (lowk j o hk).1; omega) fun o hk => by have := (lowl j o hk).1; omega]
    exact r.same.eq j hj
  · simp only [List.mem_cons, List.not_mem_nil, or_false] at hj
    simp only [List.length_set]
    omega
  · rw [set_ne (by omega), k5, List.map_append, flat_append]; rfl
  · rw [set_ne (by omega)]; exact l5
  · rw [set_ne (by omega), hi5, List.map_append, flat_append]; rfl
  · simp only [List.nodup_cons, List.mem_cons, List.not_mem_nil, or_false, not_false_eq_true, List.nodup_nil, and_true]
    omega
  · intro p hp n d hv he
    rcases List.mem_append.1 hp with hp | hp
    · exact r.ok p hp n d hv he
    · rw [List.mem_singleton] at hp
      subst hp
      exact hok n d hv he
  · simp only [List.mem_cons, List.mem_append, mem_ownP, not_or, not_exists] at hn
    obtain ⟨n1, ⟨n2, n3⟩, n4⟩ := hn
    rw [set_ne (fun e => n1 e.symm), hk5 j (by omega) fun q hq he => n4 0 (he ▸ hq)]
    exact g4 j hj n1 n2 n3
  · simp only [List.mem_cons, List.not_mem_nil, or_false] at hj
    rcases hj with rfl | rfl | rfl | rfl
    · exact .inl (by simp)
    · exact .inr (by omega)
    · exact .inr (by omega)
    · exact .inr (by omega)
end
end Go.Sim

set_option linter.unusedVariables false
set_option linter.unusedSimpArgs false
set_option maxRecDepth 20000
namespace Go.Sim
open Go Go.RowKit

/-- How many entries more there may be. -/
def costP : Nat → Nat
  | 0 => 1
  | d + 1 => 1 + 30 * costP d
theorem costP_le {d : Nat} (h : d < 7) : costP d ≤ 800000000 := by
  match d, h with
  | 0, _ => decide
  | 1, _ => decide
  | 2, _ => decide
  | 3, _ => decide
  | 4, _ => decide
  | 5, _ => decide
  | 6, _ => decide
/-- What a part may cost. -/
def partC (d : Nat) : Nat := if d = 0 then 0 else costP (d - 1)
theorem costP_eq (d : Nat) : costP d = 1 + 30 * partC d := by cases d <;> rfl
/-- Whether a need has a dictionary: the reference. -/
def HasSC (d : Nat) (hb : AHeap) (i : Nat) (a0 a1 : Pt) (n0 c0 n1 c1 : Nat) (e0 e1 : Bool) (w : Wd) : Prop := ∀ {h : AHeap} {n : Nd} {O : List Nat} {tab : List (List Nat × Bool)}, TabS hb i (.slice a0 n0 c0 e0) (.slice a1 n1 c1 e1) w h O tab → needOkW w n = true → tab.length + costP d ≤ 549755813888 →
  SCall pg n_spec_l7Table_has [.ptr (some (i, 0)), .agg [.str n.1, .str n.2], .int .i64 (d : Int)] h fun x h' => x = .bool (hasP (wk w) d n) ∧ ∃ O' tab', TabS hb i (.slice a0 n0 c0 e0) (.slice a1 n1 c1 e1) w h' O' tab' ∧ FrO O O' h h' ∧ tab'.length ≤ tab.length + costP d
theorem any_not {α : Type} {f : α → Bool} {l : List α} {g : Nat} (hg : g < l.length) (h : (l.take g).any f = false) (k : f l[g] = false) : (l.take (g + 1)).any f = false := by
  rw [List.take_succ_eq_append_getElem hg, List.any_append, h]; simp [k]
theorem tabSome {hb : AHeap} {i : Nat} {a0 a1 : Pt} {n0 c0 n1 c1 : Nat} {e0 e1 : Bool} {w : Wd} (r : WRep hb a0 n0 c0 a1 n1 c1 w) (b : WB w) (hw : worldOk w = true) {d : Nat} (hd10 : d < 10) (ih : 0 < d → HasSC (d - 1) hb i a0 a1 n0 c0 n1 c1 e0 e1 w)
    {h : AHeap} {n : Nd} {O : List Nat} {tab : List (List Nat × Bool)} (rd : TabS hb i (.slice a0 n0 c0 e0) (.slice a1 n1 c1 e1) w h O tab) (hnd : needOkW w n = true) (hcost : tab.length + 30 * partC d ≤ 549755813888) :
    SCall pg n_spec_l7Table_some [.ptr (some (i, 0)), .agg [.str n.1, .str n.2], .int .i64 (d : Int)] h fun x h' => x = .bool (hasP (wk w) d n) ∧ ∃ O' tab', TabS hb i (.slice a0 n0 c0 e0) (.slice a1 n1 c1 e1) w h' O' tab' ∧ FrO O O' h h' ∧ tab'.length ≤ tab.length + 30 * partC d := by
  have hty := needOkW_ty hnd
  have hl10 := worldOk_len hw
  have hl1 := r.len1
  have hlow := rd.low
  apply F_spec_l7Table_some.call
  simp only [letH_def]
  generalize hh0 : h ++ [AObj.cells t_impl_Need [.str n.1, .str n.2] false] = h0
  have s0 : Same h.length h h0 := by rw [← hh0]; exact same_last
  have l0 : h0.length = h.length + 1 := by rw [← hh0]; simp
  have p1 : h0[h.length]? = some (.cells t_impl_Need [.str n.1, .str n.2] false) := by rw [← hh0]; simp
  have rd0 := rd.step s0
  obtain ⟨ka, kn, kc, ke, la, ln, lc, le, ga, gn, gc, ge, cs, ho, _⟩ := rd0.ob
  simp only [xSome_some, hRow_of ho (show 0 + 0 + 2 ≤ _ by simp), Nat.zero_add, List.drop_zero, List.take_succ_cons, List.take_zero, xRow_some, xCons_cons, xNil_nil, xSl_some]
  rw [store2]
  generalize hh1 : h0 ++ [AObj.cells t_impl_World [.slice a0 n0 c0 e0, .slice a1 n1 c1 e1] false] = h1
  have s1 : Same h0.length h0 h1 := by rw [← hh1]; exact same_last
  have l1 : h1.length = h0.length + 1 := by rw [← hh1]; simp
  have w1 : h1[h0.length]? = some (wObj a0 n0 c0 e0 a1 n1 c1 e1) := by rw [← hh1]; simp [wObj]
  have p1 := s1.get p1 (Own.lt p1)
  have rd1 := rd0.step s1
  simp only [xHeap_some, wRow w1, row_all2 p1, xRow_some, xCons_cons, xNil_nil, xSl_some, xStr_some]
  refine (sCandidates_ok (nd := n) (r.same rd1.same) b (by omega)).mono ?_
  rintro v h4 ⟨s4, ca, cn, cc, ce, rfl, fc⟩
  have rd4 := rd1.step s4
  have q1 := s4.get p1 (Own.lt p1)
  have qw := s4.get w1 (Own.lt w1)
  have S4 := (s0.cat s1).cat s4
  have hcin := candW_in w n
  have hcl' := fc.1
  have hcn10 : cn ≤ 10 := by have := ixs_len (candF n) w.is; unfold candW at hcl'; omega
  have rowc : Row h4.length h4 ca cn (flat eI (candW w n)) := by simpa using FreshR.row eI_len fc
  have hout : ∀ j, h.length ≤ j → j ∉ O := fun j hj hm => by have := (hlow j hm).2; omega
  have hrm : ∀ j o, cn ≠ 0 → ca = some (j, o) → j ∉ O := fun j o hn ha => by
    obtain ⟨_, h0' | ⟨j', hj', hb', _⟩⟩ := fc
    · omega
    · rw [ha] at hj'; cases hj'; exact hout _ (by omega)
  have l4 := s4.le
  simp only [xSl_some]
  refine F_spec_l7Table_some.L3ind _ _ _ _ _ _ _ _ _ _ _ _ (J := fun (g : Nat) x8 h' => x8 = (g : Int) ∧ g ≤ cn ∧ ((candW w n).take g).any (hasC (wk w) d n) = false ∧ ∃ O' tab', TabS hb i (.slice a0 n0 c0 e0) (.slice a1 n1 c1 e1) w h' O' tab' ∧ FrO O O' h4 h' ∧ tab'.length ≤ tab.length + g * (3 * partC d)) (fun g => cn - g) ?_ 0 _ _ ⟨rfl, by omega, rfl, O, tab, rd4, FrO.of_same (Same.refl _ _), by omega⟩
  rintro g x8 h' ⟨rfl, hg, hfalse, O', tab', rdg, Fg, hlen⟩ R hR
  have hgc : g * (3 * partC d) ≤ 10 * (3 * partC d) := Nat.mul_le_mul_right _ (by omega)
  unfold F_spec_l7Table_some.L3t
  refine bcase_dec (fun hlt => ?_) (fun hge => ?_)
  · have hg1 : (g + 1) * (3 * partC d) = g * (3 * partC d) + 3 * partC d := by rw [Nat.add_mul, Nat.one_mul]
    have hgc1 : (g + 1) * (3 * partC d) ≤ 10 * (3 * partC d) := Nat.mul_le_mul_right _ (by omega)
    obtain ⟨im, om, hgl, rfl, _, hcell⟩ := (Fg.row rowc hrm).i64 (k := g) (by omega)
    obtain ⟨k, hk, hkl⟩ := hcin _ (List.getElem_mem hgl)
    have hkk : (candW w n)[g] = (k : Int) := hk
    obtain ⟨ii, oi, hki, na, nn, ncp, ne, rfl, _, hri, _, _, _, hrow, hnl⟩ := (r.same rdg.same).inst (k := k) (by omega)
    have hbk := b.is _ (List.getElem_mem hkl)
    have qw' := Fg.get qw (hout _ (by omega))
    have q1' := Fg.get q1 (hout _ (by omega))
    rw [hkk] at hcell
    simp only [xSome_some, Int.toNat_natCast, hcell, xInt_some, wCell qw', hCell_of q1', Nat.zero_add, List.getElem?_cons_succ, List.getElem?_cons_zero, xSl_some, hri, xRow_some, xCons_cons, xNil_nil, xStr_some, true_and]
    refine ⟨by omega, by omega, ?_⟩
    refine (sNeeds_ok (i := w.is[k]) (t := n.2) hrow (by omega) (by omega) (by omega) (fun p hp => (hbk.2.2.2 p hp).2)).mono ?_
    rintro v h5 ⟨s5, ma, mn, mc, me, rfl, fm⟩
    have rd5 := rdg.step s5
    have F5 := Fg.trans (FrO.of_same s5)
    have qw5 := s5.get qw' (Own.lt qw')
    have hneeds : (wk w).needs (k : Int) n.2 = needsW w.is[k] n.2 := by show needsW (insAt w (k : Int)) n.2 = _; rw [insAt_of hkl]
    simp only [xTup_tup, xCons_cons, xSl_some, xBool_some, xNil_nil, wCell qw5, List.getElem?_cons_succ, List.getElem?_cons_zero, true_and]
    have skip : ∀ (h6 : AHeap) (O6 : List Nat) (tab6 : List (List Nat × Bool)), TabS hb i (.slice a0 n0 c0 e0) (.slice (some (ii, oi)) n1 c1 e1) w h6 O6 tab6 → FrO O O6 h4 h6 → tab6.length ≤ tab'.length + 3 * partC d → hasC (wk w) d n (k : Int) = false →
        F_spec_l7Table_some.J15 (fun x h' => x = .bool (hasP (wk w) d n) ∧ ∃ O' tab', TabS hb i (.slice a0 n0 c0 e0) (.slice (some (ii, oi)) n1 c1 e1) w h' O' tab' ∧ FrO O O' h h' ∧ tab'.length ≤ tab.length + 30 * partC d) R (g : Int) (((cn : Nat) : Int)) (some (im, om)) cn cc ce h0.length 0 h.length 0 (d : Int) (some (i, 0)) h6 := by
      intro h6 O6 tab6 rd6 F6 hl6 hC
      apply F_spec_l7Table_some.J15i
      rw [wrap_nat (by omega)]
      exact hR (g + 1) _ _ (by omega) ⟨rfl, by omega, any_not hgl hfalse (by rw [hkk]; exact hC), O6, tab6, rd6, F6, by omega⟩
    refine bcase_not (fun hok => ?_) (fun hok => ?_)
    · refine skip _ _ _ rd5 F5 (by omega) ?_
      unfold hasC
      rw [hneeds]
      cases hh : needsW w.is[k] n.2 with
      | none => rfl
      | some _ => rw [hh] at hok; cases hok
    obtain ⟨ms, hms⟩ := Option.isSome_iff_exists.1 hok
    have hms3 := needs_all hw hkl hms
    rw [hms] at fm
    simp only [Option.getD_some] at fm
    have hmn := fm.1
    have hC : hasC (wk w) d n (k : Int) = ((decide (ms = []) || decide (0 < d)) && ms.all (hasP (wk w) (d - 1))) := by unfold hasC; rw [hneeds, hms]
    have hlow5 := rd5.low
    have go : (ms = [] ∨ 0 < d) → F_spec_l7Table_some.J7 (fun x h' => x = .bool (hasP (wk w) d n) ∧ ∃ O' tab', TabS hb i (.slice a0 n0 c0 e0) (.slice (some (ii, oi)) n1 c1 e1) w h' O' tab' ∧ FrO O O' h h' ∧ tab'.length ≤ tab.length + 30 * partC d) R ma mn mc me (some (i, 0)) (d : Int) h.length 0 h0.length 0 (some (im, om)) cn cc ce (((cn : Nat) : Int)) (g : Int) h5 := by
      intro hdm
      apply F_spec_l7Table_some.J7i
      refine F_spec_l7Table_some.L9ind _ _ _ _ _ _ _ _ _ _ _ _ _ _ _ _ _ _ _ (J := fun (q : Nat) x12 x51 h' => x51 = (q : Int) ∧ q ≤ mn ∧ x12 = (ms.take q).all (hasP (wk w) (d - 1)) ∧ ∃ O6 tab6, TabS hb i (.slice a0 n0 c0 e0) (.slice (some (ii, oi)) n1 c1 e1) w h' O6 tab6 ∧ FrO O' O6 h5 h' ∧ tab6.length ≤ tab'.length + q * partC d) (fun q => mn - q) ?_ 0 _ _ _ ⟨rfl, by omega, rfl, O', tab', rd5, FrO.of_same (Same.refl _ _), by omega⟩
      rintro q x12 x51 h6 ⟨rfl, hq, rfl, O6, tab6, rd6, F6, hl6⟩ R9 hR9
      have hqc : q * partC d ≤ 3 * partC d := Nat.mul_le_mul_right _ (by have := hms3.1; omega)
      unfold F_spec_l7Table_some.L9t
      refine bcase_dec (fun hlt9 => ?_) (fun hge9 => ?_)
      · have hq1 : (q + 1) * partC d = q * partC d + partC d := by rw [Nat.add_mul, Nat.one_mul]
        have hqc1 : (q + 1) * partC d ≤ 3 * partC d := Nat.mul_le_mul_right _ (by have := hms3.1; omega)
        have rowm : Row h6.length h6 ma (mn * 2) (flat eP ms) := F6.row (fm.row eP_len) fun j o hn ha hm => by
          obtain ⟨_, h0' | ⟨j', hj', hb', _⟩⟩ := fm
          · omega
          · rw [ha] at hj'; cases hj'
            have := (rdg.low _ hm).2
            omega
        obtain ⟨i3, o3, hql, rfl, _, hrm3, _⟩ := rowm.pr (k := q) (by omega)
        simp only [xSome_some, Int.toNat_natCast, hrm3, xRow_some, xCons_cons, xNil_nil, xStr_some, letH_def]
        rw [store2]
        generalize hh7 : h6 ++ [AObj.cells t_impl_Need [.str ms[q].1, .str ms[q].2] false] = h7
        have s7 : Same h6.length h6 h7 := by rw [← hh7]; exact same_last
        have o7 : h7[h6.length]? = some (.cells t_impl_Need [.str ms[q].1, .str ms[q].2] false) := by rw [← hh7]; simp
        have hstep : (ms.take (q + 1)).all (hasP (wk w) (d - 1)) = ((ms.take q).all (hasP (wk w) (d - 1)) && hasP (wk w) (d - 1) ms[q]) := by
          rw [List.take_succ_eq_append_getElem hql, List.all_append]; simp
        simp only [xHeap_some, row_all2 o7, xRow_some, xCons_cons, xNil_nil, xStr_some]
        refine ⟨by omega, bcase_intro (fun ht => ?_) (fun hf => ?_)⟩
        · have hpos : 0 < d := hdm.resolve_left (fun hm => by rw [hm] at hql; simp at hql)
          have hpc : partC d = costP (d - 1) := by unfold partC; rw [if_neg (by omega)]
          rw [show IntKind.wrap .i64 ((d : Int) - 1) = ((d - 1 : Nat) : Int) by rw [IntWalk.i64_in _ (by omega)]; omega]
          refine (ih hpos (n := ms[q]) (rd6.step s7) (hms3.2 _ (List.getElem_mem hql)) (by omega)).mono ?_
          rintro v h8 ⟨rfl, O8, tab8, rd8, F8, hl8⟩
          simp only [xBool_some]
          apply F_spec_l7Table_some.J12i
          rw [wrap_nat (by omega)]
          exact hR9 (q + 1) _ _ _ (by omega) ⟨rfl, by omega, by rw [hstep, ht]; rfl, O8, tab8, rd8, (F6.trans (FrO.of_same s7)).trans F8, by omega⟩
        · apply F_spec_l7Table_some.J12i
          rw [wrap_nat (by omega)]
          exact hR9 (q + 1) _ _ _ (by omega) ⟨rfl, by omega, by rw [hstep, hf]; rfl, O6, tab6, rd6.step s7, F6.trans (FrO.of_same s7), by omega⟩
      · apply F_spec_l7Table_some.A9x2i
        have : q = mn := by omega
        subst this
        rw [List.take_of_length_le (by omega)]
        have hCe : hasC (wk w) d n (k : Int) = ms.all (hasP (wk w) (d - 1)) := by
          rw [hC]
          rcases hdm with hm | hp
          · simp [hm]
          · simp [hp]
        refine bcase_intro (fun ht => ?_) (fun hf => ?_)
        · have : hasP (wk w) d n = true := by
            rw [hasP_eq]
            exact List.any_eq_true.2 ⟨_, List.getElem_mem hgl, by rw [hkk, hCe]; exact ht⟩
          rw [this]
          exact ⟨rfl, O6, tab6, rd6, ((FrO.of_same S4).trans F5).trans F6, by omega⟩
        · exact skip _ _ _ rd6 (F5.trans F6) (by omega) (by rw [hCe]; exact hf)
    refine bcase_dec (fun hpos => ?_) (fun hpos => ?_)
    · have hm0 : ms ≠ [] := fun hm => by rw [hm] at hmn; simp at hmn; omega
      refine bcase_beq (fun hd0 => ?_) (fun hd0 => ?_)
      · refine skip _ _ _ rd5 F5 (by omega) ?_
        rw [hC]; simp [hm0, show d = 0 by omega]
      · exact go (.inr (by omega))
    · exact go (.inl (List.eq_nil_of_length_eq_zero (by omega)))
  · apply F_spec_l7Table_some.A3x0i
    have : g = cn := by omega
    subst this
    rw [List.take_of_length_le (by omega)] at hfalse
    have : hasP (wk w) d n = false := by rw [hasP_eq]; exact hfalse
    rw [this]
    exact ⟨rfl, O', tab', rdg, (FrO.of_same S4).trans Fg, by omega⟩
theorem has_step {hb : AHeap} {i : Nat} {a0 a1 : Pt} {n0 c0 n1 c1 : Nat} {e0 e1 : Bool} {w : Wd} (r : WRep hb a0 n0 c0 a1 n1 c1 w) (b : WB w) (hw : worldOk w = true) (d : Nat) (hd10 : d < 10) (ih : 0 < d → HasSC (d - 1) hb i a0 a1 n0 c0 n1 c1 e0 e1 w) : HasSC d hb i a0 a1 n0 c0 n1 c1 e0 e1 w := by
  intro h n O tab rd hnd hcost
  have hty := needOkW_ty hnd
  have hcl := needOk_len hw hnd
  have hlow := rd.low
  rw [costP_eq] at hcost ⊢
  apply F_spec_l7Table_has.call
  simp only [letH_def]
  generalize hh0 : h ++ [AObj.cells t_impl_Need [.str n.1, .str n.2] false] = h0
  have s0 : Same h.length h h0 := by rw [← hh0]; exact same_last
  have p1 : h0[h.length]? = some (.cells t_impl_Need [.str n.1, .str n.2] false) := by rw [← hh0]; simp
  have rd0 := rd.step s0
  simp only [row_all2 p1, xRow_some, xCons_cons, xNil_nil, xStr_some]
  refine (skey_ok hd10 (by omega)).mono ?_
  rintro v h1 ⟨rfl, s1⟩
  have rd1 := rd0.step s1
  have p2 := s1.get p1 (Own.lt p1)
  have S1 := s0.cat s1
  simp only [xStr_some]
  refine (at_ok rd1 (by omega) (keyS n d)).mono ?_
  rintro v h2 ⟨rfl, rfl | ⟨g, rfl, hg, hkey⟩⟩
  · simp only [xInt_some]
    refine bcase_dec (fun hx => by simp at hx) (fun _ => ?_)
    simp only [row_all2 p2, xRow_some, xCons_cons, xNil_nil, xStr_some]
    refine (tabSome r b hw hd10 ih rd1 hnd (by omega)).mono ?_
    rintro v h3 ⟨rfl, O3, tab3, rd3, F3, hl3⟩
    simp only [xBool_some]
    refine (put_ok rd3 (by omega) (keyS n d) (hasP (wk w) d n) ?_).mono ?_
    · intro n' d' hv' he
      obtain ⟨rfl, rfl⟩ := keyS_inj hcl (needOk_len hw hv') he
      rfl
    · rintro v h4 ⟨O4, rd4, F4⟩
      exact ⟨by trivial, O4, _, rd4, ((FrO.of_same S1).trans F3).trans F4, by simp; omega⟩
  · simp only [xInt_some]
    refine bcase_dec (fun _ => ?_) (fun hx => absurd (by omega) hx)
    obtain ⟨ka, kn, kc, ke, la, ln, lc, le, ga, gn, gc, ge, cs, ho, v1, e1, v2, e2, e2', v3, e3, _⟩ := rd1.ob
    simp only [xSome_some, hCell_of ho, Nat.zero_add, List.getElem?_cons_succ, List.getElem?_cons_zero, xSl_some]
    have row : Row h2.length h2 ga gn (flat eT (tab.map Prod.snd)) := v3.row (by rw [flat_length eT_len]; simp [e3])
    obtain ⟨im, om, hgl, rfl, _, hcell⟩ := Row.el1 eT_len row (k := g) (by omega)
    have hc : hCell h2 (.ptr (some (im, om + (Int.toNat (g : Int)) * 1))) = some (.bool tab[g].2) := by rw [Int.toNat_natCast, hcell]; simp [eT]
    simp only [xSome_some, hc, xBool_some]
    exact ⟨by omega, by rw [rd.ok _ (List.getElem_mem hg) n d hnd hkey], O, tab, rd1, FrO.of_same S1, by omega⟩
theorem has_ok {hb : AHeap} {i : Nat} {a0 a1 : Pt} {n0 c0 n1 c1 : Nat} {e0 e1 : Bool} {w : Wd} (r : WRep hb a0 n0 c0 a1 n1 c1 w) (b : WB w) (hw : worldOk w = true) : ∀ d, d < 10 → HasSC d hb i a0 a1 n0 c0 n1 c1 e0 e1 w
  | 0, h => has_step r b hw 0 h fun hd => by omega
  | d + 1, h => has_step r b hw (d + 1) h fun _ => has_ok r b hw d (by omega)
theorem sLevelOf_ok {h : AHeap} {a0 a1 : Pt} {n0 c0 n1 c1 : Nat} {e0 e1 : Bool} {w : Wd} {nd : Nd} (r : WRep h a0 n0 c0 a1 n1 c1 w) (b : WB w) (hnt : nd.2.length ≤ 1048576) :
    SCall pg n_spec_LevelOf [.agg [.slice a0 n0 c0 e0, .slice a1 n1 c1 e1], .agg [.str nd.1, .str nd.2]] h fun v h' => v = .int .i64 (levelW w nd) ∧ Same h.length h h' := by
  apply F_spec_LevelOf.call
  simp only [letH_def]
  generalize hh0 : h ++ [AObj.cells t_impl_World [.slice a0 n0 c0 e0, .slice a1 n1 c1 e1] false] = h0
  generalize hh1 : h0 ++ [AObj.cells t_impl_Need [.str nd.1, .str nd.2] false] = h1
  have s0 : Same h.length h h0 := by rw [← hh0]; exact same_last
  have s1 : Same h0.length h0 h1 := by rw [← hh1]; exact same_last
  have w0 : h0[h.length]? = some (wObj a0 n0 c0 e0 a1 n1 c1 e1) := by rw [← hh0]; simp [wObj]
  have w1 := s1.get w0 (Own.lt w0)
  have p1 : h1[h0.length]? = some (.cells t_impl_Need [.str nd.1, .str nd.2] false) := by rw [← hh1]; simp
  have l0 : h0.length = h.length + 1 := by rw [← hh0]; simp
  have l1 : h1.length = h0.length + 1 := by rw [← hh1]; simp
  rw [wRow w1]
  simp only [xRow_some, xCons_cons, xNil_nil, xSl_some]
  generalize hh2 : h1 ++ [AObj.cells t_spec_l7Table [.slice a0 n0 c0 e0, .slice a1 n1 c1 e1, .slice none 0 0 true, .slice none 0 0 true, .slice none 0 0 true] false] = h2
  have s2 : Same h1.length h1 h2 := by rw [← hh2]; exact same_last
  have o2 : h2[h1.length]? = some (.cells t_spec_l7Table [.slice a0 n0 c0 e0, .slice a1 n1 c1 e1, .slice none 0 0 true, .slice none 0 0 true, .slice none 0 0 true] false) := by rw [← hh2]; simp
  have S2 := (s0.cat s1).cat s2
  have rd : TabS h h1.length (.slice a0 n0 c0 e0) (.slice a1 n1 c1 e1) w h2 [h1.length] [] :=
    ⟨S2, fun j hj => by rw [List.mem_singleton] at hj; subst hj; exact ⟨by omega, Own.lt o2⟩, by simp, ⟨none, 0, 0, true, none, 0, 0, true, none, 0, 0, true, [], o2, .inl ⟨rfl, rfl, rfl, rfl⟩, rfl, .inl ⟨rfl, rfl, rfl, rfl⟩, rfl, rfl, .inl ⟨rfl, rfl, rfl, rfl⟩, rfl, rfl, by simp⟩, fun p hp => by cases hp⟩
  refine F_spec_LevelOf.L3ind _ _ _ _ _ _ _ (J := fun (g : Nat) x9 h' => x9 = (g : Int) ∧ g ≤ 7 ∧ ((worldOk w && needOkW w nd) = true → ∀ d, d < g → hasP (wk w) d nd = false) ∧ ∃ O tab, TabS h h1.length (.slice a0 n0 c0 e0) (.slice a1 n1 c1 e1) w h' O tab ∧ FrO [h1.length] O h2 h' ∧ tab.length ≤ g * 800000000) (fun g => 7 - g) ?_ 0 _ _ ⟨rfl, by omega, fun _ d hd => by omega, _, _, rd, FrO.of_same (Same.refl _ _), by simp⟩
  rintro g x9 h' ⟨rfl, hg, hf, O, tab, rdg, Fg, hlen⟩ R hR
  have w3 := Fg.get (s2.get w1 (Own.lt w1)) (by simp; omega)
  have p3 := Fg.get (s2.get p1 (Own.lt p1)) (by simp; omega)
  unfold F_spec_LevelOf.L3t
  refine bcase_dec (fun hlt => ?_) (fun hge => ?_)
  · rw [wRow w3, row_all2 p3]
    simp only [xRow_some, xCons_cons, xNil_nil, xSl_some, xStr_some]
    refine (needValid_ok (ct := nd.1) (tt := nd.2) (r.same rdg.same) b hnt).mono ?_
    rintro v h4 ⟨rfl, s4⟩
    have rd4 := rdg.step s4
    have p4 := s4.get p3 (Own.lt p3)
    have F4 := Fg.trans (FrO.of_same s4)
    simp only [xBool_some]
    refine bcase_intro (fun hc => ?_) (fun hc => ?_)
    · rw [row_all2 p4]
      simp only [xRow_some, xCons_cons, xNil_nil, xStr_some]
      have hc' := hc
      simp only [Bool.and_eq_true] at hc'
      have hcl := costP_le (d := g) (by omega)
      refine (has_ok r b hc'.1 g (by omega) rd4 hc'.2 (by omega)).mono ?_
      rintro v h5 ⟨rfl, O5, tab5, rd5, F5, hl5⟩
      simp only [xBool_some]
      refine bcase_intro (fun hh => ?_) (fun hh => ?_)
      · exact ⟨by unfold levelW; rw [hc, lvlP_some (by omega) (hf hc) hh]; rfl, rd5.same⟩
      · apply F_spec_LevelOf.J7i
        rw [wrap_nat (by omega)]
        refine hR (g + 1) _ _ (by omega) ⟨rfl, by omega, fun _ d hd => ?_, O5, tab5, rd5, F4.trans F5, by omega⟩
        by_cases hdg : d = g
        · rw [hdg]; exact hh
        · exact hf hc d (by omega)
    · apply F_spec_LevelOf.J7i
      rw [wrap_nat (by omega)]
      exact hR (g + 1) _ _ (by omega) ⟨rfl, by omega, fun h => absurd (hc.symm.trans h) Bool.false_ne_true, O, tab, rd4, F4, Nat.le_trans hlen (Nat.mul_le_mul_right _ (by omega))⟩
  · apply F_spec_LevelOf.A3x0i
    refine ⟨?_, rdg.same⟩
    unfold levelW
    cases hc : worldOk w && needOkW w nd with
    | false => rfl
    | true => rw [lvlP_none fun d hd => hf hc d (by omega)]; rfl
end Go.Sim

set_option linter.unusedVariables false
set_option linter.unusedSimpArgs false
set_option maxRecDepth 20000
namespace Go.Sim
open Go Go.RowKit

end Go.Sim

set_option linter.unusedVariables false
set_option linter.unusedSimpArgs false
set_option maxRecDepth 20000
namespace Go.Sim
open Go Go.RowKit
theorem FreshR.off {α : Type} {ty : TypeId} {enc : α → List AVal} {b : Nat} {h h' : AHeap} {a : Pt} {n : Nat} {l : List α} (f : FreshR ty enc b h a n l) (hk : ∀ i, a = some (i, 0) → n ≠ 0 → i < h.length → h'[i]? = h[i]?) : FreshR ty enc b h' a n l := by
  obtain ⟨hl, h0 | ⟨i, ha, hb, hi⟩⟩ := f
  · exact ⟨hl, .inl h0⟩
  · by_cases hn : n = 0
    · exact ⟨hl, .inl hn⟩
    · exact ⟨hl, .inr ⟨i, ha, hb, by rw [hk i ha hn (Own.lt hi)]; exact hi⟩⟩
/-- All of a world's own rows lie below H. -/
structure WBel (H : Nat) (a0 : Pt) (n0 : Nat) (a1 : Pt) (n1 : Nat) (ys : List EI) : Prop where
  cls : ∀ i, a0 = some (i, 0) → n0 ≠ 0 → i < H
  ins : ∀ i, a1 = some (i, 0) → n1 ≠ 0 → i < H
  need : ∀ (q : Nat) (x : EI), ys[q]? = some x → ∀ j, x.a = some (j, 0) → x.n ≠ 0 → j < H
theorem WFresh.bel {b : Nat} {h : AHeap} {a0 a1 : Pt} {n0 n1 : Nat} {ys : List EI} {w : Wd} (f : WFresh b h a0 n0 a1 n1 ys w) : WBel h.length a0 n0 a1 n1 ys :=
  ⟨fun i hi hn => (f.cls.in i hi hn).2, fun i hi hn => (f.ins.in i hi hn).2, fun q x hx j hj hn => by
    have hq := (List.getElem?_eq_some_iff.1 hx).1
    exact ((f.need q x (w.is[q]'(by have := f.len; omega)) hx (List.getElem?_eq_getElem _)).2.2.in j hj hn).2⟩
end Go.Sim

set_option linter.unusedVariables false
namespace Go.Sim
open Go Go.RowKit
end Go.Sim
