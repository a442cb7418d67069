/- append. -/
import Derived.Test.YtgiiilhdmfddcaaSimH
set_option linter.unusedVariables false
set_option linter.all false
set_option linter.unusedSimpArgs false
namespace Go.Sim
open Go Go.RowKit
section
variable {P : Program} {base : Nat} {w0 : World} {μ : List Pl} {h : AHeap} {w : World}

theorem ownRow_elim {i : Nat} {e : TypeId} {K : List AVal → Prop} (hk : ownRow h i e K) : ∃ cs, h[i]? = some (.cells e cs false) ∧ K cs := by
  unfold ownRow at hk
  split at hk
  · rename_i e' cs hi
    obtain ⟨rfl, hk⟩ := hk
    exact ⟨cs, hi, hk⟩
  · exact hk.elim

/-- What an own row's block is. -/
theorem Rel.ownBlock (r : Rel P base w0 μ h w) {i : Nat} {e : TypeId} {cs : List AVal} (hi : h[i]? = some (.cells e cs false)) {p : Pl} (hp : μ[i]? = some p) :
    ∃ C, w.heap[p.b]? = some (.cells C e (0, 0)) ∧ VRs μ cs (C.toList.take cs.length) ∧ cs.length ≤ C.size ∧ p.own = true ∧ p.o = 0 ∧ C.size = p.n ∧ P.cellsOf e = p.sz ∧ base ≤ p.b := by
  obtain ⟨C, el, fr, hg, hcs, hown⟩ := r.obj i _ hi p hp
  simp only [Bool.false_eq_true, if_false] at hown
  obtain ⟨ho1, ho0, rfl, rfl, hn, hcz, hbase⟩ := hown
  rw [ho0, List.drop_zero] at hcs
  have hl := hcs.length
  refine ⟨C, hg, hcs, ?_, ho1, ho0, hn, hcz, hbase⟩
  simp at hl; omega

/-- The row at i is dead, a new object lies in its block. -/
theorem Rel.regrow (r : Rel P base w0 μ h w) {w' : World} {i : Nat} {e : TypeId} {cs cs' : List AVal} (hi : h[i]? = some (.cells e cs false)) {p : Pl} (hp : μ[i]? = some p)
    (hb : Below base w w') (hk : ∀ k, k ≠ p.b → k < w.heap.size → w'.heap[k]? = w.heap[k]?)
    (hn : ObjRel P base w0 μ p w' (.cells e cs' false)) : Rel P base w0 (μ ++ [p]) (h.set i .dead ++ [.cells e cs' false]) w' := by
  have r1 : Rel P base w0 μ (h.set i .dead) w' := r.change hi rfl hp hb hk trivial (.inr rfl)
  have hlen : (h.set i AObj.dead).length = h.length := by simp
  refine ⟨r1.below, by simp [r.len], ?_, ?_, r1.size⟩
  · intro j ob hj e' he'
    by_cases hlt : j < h.length
    · rw [List.getElem?_append_left (by rw [hlen]; exact hlt)] at hj
      rw [List.getElem?_append_left (by rw [r.len]; exact hlt)] at he'
      exact (r1.obj j ob hj e' he').keep (Ext.app _ _) fun x hx => hx
    · rw [List.getElem?_append_right (by rw [hlen]; omega)] at hj
      rw [List.getElem?_append_right (by rw [r.len]; omega)] at he'
      have hz : j - h.length = 0 := by have := (List.getElem?_eq_some_iff.1 hj).1; simp at this; omega
      rw [hlen, hz] at hj
      rw [r.len, hz] at he'
      simp at hj he'; subst hj; subst he'
      exact hn.keep (Ext.app _ _) fun x hx => hx
  · have key : ∀ (a b : Nat) (oa ob : AObj) (ea eb : Pl), a < h.length → h.length ≤ b → (h.set i .dead ++ [.cells e cs' false])[a]? = some oa → (h.set i .dead ++ [.cells e cs' false])[b]? = some ob → oa.own = true → (μ ++ [p])[a]? = some ea → (μ ++ [p])[b]? = some eb → ea.b ≠ eb.b := by
      intro a b oa ob ea eb hal hbl ha hb2 hoa hea heb
      rw [List.getElem?_append_left (by rw [hlen]; exact hal)] at ha
      rw [List.getElem?_append_left (by rw [r.len]; exact hal)] at hea
      rw [List.getElem?_append_right (by rw [r.len]; omega)] at heb
      rw [List.getElem?_append_right (by rw [hlen]; omega)] at hb2
      have hz : b - h.length = 0 := by have := (List.getElem?_eq_some_iff.1 hb2).1; simp at this; omega
      rw [r.len, hz] at heb; simp at heb; subst heb
      have hia : i ≠ a := fun e => by
        subst e
        rw [List.getElem?_set_self hal] at ha; cases ha; simp [AObj.own] at hoa
      rw [List.getElem?_set_ne hia] at ha
      exact r.sep a i oa _ ea p (fun e => hia e.symm) ha hi hoa rfl hea hp
    intro a b oa ob ea eb hab ha hb2 hoa hob hea heb
    by_cases hal : a < h.length <;> by_cases hbl : b < h.length
    · rw [List.getElem?_append_left (by rw [hlen]; exact hal)] at ha
      rw [List.getElem?_append_left (by rw [hlen]; exact hbl)] at hb2
      rw [List.getElem?_append_left (by rw [r.len]; exact hal)] at hea
      rw [List.getElem?_append_left (by rw [r.len]; exact hbl)] at heb
      exact r1.sep a b oa ob ea eb hab ha hb2 hoa hob hea heb
    · exact key a b oa ob ea eb hal (by omega) ha hb2 hoa hea heb
    · exact (key b a ob oa eb ea hbl (by omega) hb2 ha hob heb hea).symm
    · have x := (List.getElem?_eq_some_iff.1 ha).1
      have y := (List.getElem?_eq_some_iff.1 hb2).1
      simp at x y; omega

theorem take_put (cs : List AVal) (o : Nat) (vs : List AVal) (C : List Value) (ys : List Value) (hC : VRs μ cs (C.take cs.length)) (hv : VRs μ vs ys) (hle : o + vs.length ≤ cs.length) (hcl : cs.length ≤ C.length) :
    VRs μ (putRow cs o vs) ((C.take o ++ ys ++ C.drop (o + ys.length)).take (putRow cs o vs).length) := by
  have hl := hv.length
  have hpl : (putRow cs o vs).length = cs.length := by simp [putRow]; omega
  have := hC.put hv o
  rw [hpl]
  have e2 : (C.take o ++ ys ++ C.drop (o + ys.length)).take cs.length = ((C.take cs.length).take o ++ ys ++ (C.take cs.length).drop (o + ys.length)) := by
    apply List.ext_getElem?
    intro j
    simp only [List.getElem?_take, List.getElem?_append, List.length_append, List.length_take, List.getElem?_drop]
    by_cases h1 : j < cs.length <;> by_cases h2 : j < o <;> simp [h1, h2] <;> (try omega) <;> (repeat' split) <;> (try omega) <;> (try rfl) <;> (try (congr 1; omega))
  rw [e2]; exact this

theorem putRow_nil (cs : List AVal) (o : Nat) : putRow cs o [] = cs := by simp [putRow]
theorem set_self {h : AHeap} {i : Nat} {o : AObj} (hi : h[i]? = some o) : h.set i o = h := by
  apply List.ext_getElem?
  intro j
  by_cases hij : i = j
  · subst hij; rw [List.getElem?_set_self (List.getElem?_eq_some_iff.1 hi).1, hi]
  · rw [List.getElem?_set_ne hij]

/-- A new row behind an append that has grown. -/
theorem Rel.grown (r : Rel P base w0 μ h w) {e : TypeId} {z : Value} {cs : List AVal} {xs : List Value} (hv : VRs μ cs xs) {need cap : Nat} (hl : xs.length = need * P.cellsOf e) (hcap : need ≤ cap) (hzs : z.cells.size = P.cellsOf e) :
    Rel P base w0 (μ ++ [⟨w.heap.size, 0, true, cap * P.cellsOf e, P.cellsOf e⟩]) (h ++ [.cells e cs false]) (w.drew.alloc (.cells (xs.toArray ++ Builtin.zeroCells z.cells (cap - need)) e)) := by
  have hsz : (xs.toArray ++ Builtin.zeroCells z.cells (cap - need)).size = cap * P.cellsOf e := by
    rw [Array.size_append, size_zeroCells, List.size_toArray, hl, hzs, ← Nat.add_mul]; congr 1; omega
  have := r.newRow (t := e) (cs := cs) (C := xs.toArray ++ Builtin.zeroCells z.cells (cap - need)) (n := 1) (by
    have hvl := hv.length
    rw [Array.toList_append, hvl, List.take_left]; exact hv)
  rw [hsz] at this
  exact this

/-- What an append needs of the element's type and of the sizes. -/
structure AppFacts (P : Program) (t e : TypeId) (i : TypeInfo) (z : Value) (need : Nat) : Prop where
  hu : P.underlying t = some (.slice e)
  hse : (P.underlying e).isSome = true
  hi : P.info? e = some i
  hiz : i.zero = some z
  hzs : z.cells.size = P.cellsOf e
  hsize : i.size = P.cellsOf e
  hpos : 0 < P.cellsOf e
  h63 : ((need : Nat) : Int) ≤ 9223372036854775807
  hby : need * i.bytes ≤ 140737488355328

theorem append_zero (r : Rel P base w0 μ h w) {t ty e : TypeId} {i : TypeInfo} {z : Value} {len : Nat} (F : AppFacts P t e i z len) {j o cap capm : Nat} {ex : Bool} {p : Pl}
    (h1 : μ[j]? = some p) (h2 : len ≤ cap) (h3 : cap ≤ capm) (h4 : ex = true → capm = cap) (h5 : p.own = true → o = 0 → capm * p.sz ≤ p.n) (bm : Option Addr) (bc : Nat) {K : AVal → AHeap → Prop}
    (hk : (o = 0 ∧ ownRow h j e fun cs => cs.length = len * P.cellsOf e ∧ K (.slice (some (h.length, 0)) len len false) (h.set j .dead ++ [.cells e (cs ++ []) false])) ∨ K (.slice (some (j, o)) len cap ex) h) :
    Res P base w0 μ ((Builtin.append_ #[t, t] ty #[.slice (some ⟨p.b, p.o + o, none⟩) len capm, .slice bm 0 bc]).run P w) K := by
  have hrun := append_none (P := P) t ty e F.hu F.hse (some ⟨p.b, p.o + o, none⟩) len capm (by omega) bm bc w
  rcases hk with ⟨ho, hk⟩ | hk
  · subst ho
    obtain ⟨cs, hj, hcl, hk⟩ := ownRow_elim hk
    obtain ⟨C, hg, hcs, hcC, ho1, ho0, hn, hcz, hbase⟩ := r.ownBlock hj h1
    have hrel := r.regrow (cs' := cs ++ []) hj h1 (w' := w) (Below.refl _ _) (fun _ _ _ => rfl) (by
      refine ⟨C, e, (0, 0), hg, ?_, ?_⟩
      · rw [ho0]; simpa using hcs
      · simp only [Bool.false_eq_true, if_false]; exact ⟨ho1, ho0, trivial, trivial, hn, hcz, hbase⟩)
    refine ⟨_, w, _, _, _, hrun, Ext.app _ _, hrel, ?_, hk⟩
    refine .slice (e := p) ?_ (Nat.le_refl _) (by omega) (by simp) (fun a b => h5 a b)
    rw [List.getElem?_append_right (by rw [r.len]; omega)]; simp [r.len]
  · exact ⟨_, w, μ, _, h, hrun, Ext.refl _, r, .slice h1 h2 h3 h4 h5, hk⟩

theorem append_nil (r : Rel P base w0 μ h w) {t ty e : TypeId} {i : TypeInfo} {z : Value} {m : Nat} (F : AppFacts P t e i z m) (hm : m ≠ 0) (am : Option Addr) {a : Addr} {bc : Nat} {new : List AVal} {ys : List Value}
    (hys : VRs μ new ys) (hyl : ys.length = m * P.cellsOf e) (hsrc : ∀ (q : Nat) (y : Value), ys[q]? = some y → w.cell? (a.add q) = some y) {K : AVal → AHeap → Prop}
    (hk : K (.slice (some (h.length, 0)) m m false) (h ++ [.cells e new false])) :
    Res P base w0 μ ((Builtin.append_ #[t, t] ty #[.slice am 0 0, .slice (some a) m bc]).run P w) K := by
  have hyl' : ys.length = m * i.size := by rw [hyl, F.hsize]
  have hrel := r.grown (z := z) hys (need := m) (cap := grownCap w m 0 e) hyl (grownCap_ge w m 0 e) F.hzs
  have hvr : VR (μ ++ [⟨w.heap.size, 0, true, grownCap w m 0 e * P.cellsOf e, P.cellsOf e⟩]) (.slice (some (h.length, 0)) m m false) (.slice (some ⟨w.heap.size, 0, none⟩) m (grownCap w m 0 e)) :=
    .slice (e := ⟨w.heap.size, 0, true, grownCap w m 0 e * P.cellsOf e, P.cellsOf e⟩) (o := 0) (r.last _) (Nat.le_refl _) (grownCap_ge w m 0 e) (by simp) (fun _ _ => Nat.le_refl _)
  refine ⟨_, _, _, _, _, ?_, Ext.app _ _, hrel, hvr, hk⟩
  have hby := F.hby
  have h63 := F.h63
  cases am with
  | none => exact run_append_nil w t ty e i z F.hu F.hi F.hiz a m bc ys hyl' hsrc (by omega) h63 (by omega)
  | some b =>
    have := run_append_grow (P := P) w t ty e i z F.hu F.hi F.hiz b 0 0 [] (by simp) (by simp) a m bc ys hyl' hsrc (by omega) (by simpa using h63) (growslice_fits (by omega) (by simpa using hby))
    simpa using this

theorem append_growth {μ' : List Pl} {h' : AHeap} (r' : Rel P base w0 μ' h' w) (hx' : Ext μ μ') {t ty e : TypeId} {i : TypeInfo} {z : Value} {len m : Nat} (F : AppFacts P t e i z (len + m)) {b a : Addr} {capm bc : Nat} {old new : List AVal} {olds ys : List Value}
    (hol : VRs μ' old olds) (holl : olds.length = len * P.cellsOf e) (hold : ∀ (q : Nat) (y : Value), olds[q]? = some y → w.cell? (b.add q) = some y)
    (hys : VRs μ new ys) (hyl : ys.length = m * P.cellsOf e) (hsrc : ∀ (q : Nat) (y : Value), ys[q]? = some y → w.cell? (a.add q) = some y) (hlt : capm < len + m) {K : AVal → AHeap → Prop}
    (hk : K (.slice (some (h'.length, 0)) (len + m) (len + m) false) (h' ++ [.cells e (old ++ new) false])) :
    Res P base w0 μ ((Builtin.append_ #[t, t] ty #[.slice (some b) len capm, .slice (some a) m bc]).run P w) K := by
  have hr := run_append_grow (P := P) w t ty e i z F.hu F.hi F.hiz b len capm olds (by rw [holl, F.hsize]) hold a m bc ys (by rw [hyl, F.hsize]) hsrc hlt F.h63 (growslice_fits (by omega) F.hby)
  have hrel := r'.grown (z := z) (hol.append (hys.ext hx')) (need := len + m) (cap := grownCap w (len + m) capm e) (by rw [List.length_append, holl, hyl, Nat.add_mul]) (grownCap_ge w _ _ e) F.hzs
  rw [show olds.toArray ++ ys.toArray = (olds ++ ys).toArray by simp] at hr
  exact ⟨_, _, _, _, _, hr, hx'.trans (Ext.app _ _), hrel, .slice (e := ⟨w.heap.size, 0, true, grownCap w (len + m) capm e * P.cellsOf e, P.cellsOf e⟩) (o := 0) (r'.last _) (Nat.le_refl _) (grownCap_ge w _ _ e) (by simp) (fun _ _ => Nat.le_refl _), hk⟩

theorem append_end (r : Rel P base w0 μ h w) {t ty e : TypeId} {i : TypeInfo} {z : Value} {len m : Nat} (F : AppFacts P t e i z (len + m)) {j capm : Nat} {p : Pl} (h1 : μ[j]? = some p) (h5 : p.own = true → capm * p.sz ≤ p.n)
    {a : Addr} {bc : Nat} {new : List AVal} {ys : List Value} (hys : VRs μ new ys) (hone : ∀ u ∈ ys, u.oneCell' = true) (hyl : ys.length = m * P.cellsOf e) (hsrc : ∀ (q : Nat) (y : Value), ys[q]? = some y → w.cell? (a.add q) = some y) {K : AVal → AHeap → Prop}
    {cs : List AVal} (hj : h[j]? = some (.cells e cs false)) (hcl : cs.length = len * P.cellsOf e)
    (hk : K (.slice (some (h.length, 0)) (len + m) (len + m) false) (h.set j .dead ++ [.cells e (cs ++ new) false])) :
    Res P base w0 μ ((Builtin.append_ #[t, t] ty #[.slice (some ⟨p.b, p.o + 0, none⟩) len capm, .slice (some a) m bc]).run P w) K := by
  obtain ⟨C, hg, hcs, hcC, ho1, ho0, hn, hcz, hbase⟩ := r.ownBlock hj h1
  have hyl' : ys.length = m * i.size := by rw [hyl, F.hsize]
  have e3 : p.o + 0 = 0 := by omega
  by_cases hroom : len + m ≤ capm
  · have hcap := h5 ho1
    have hfit2 : 0 + len * i.size + ys.length ≤ C.size := by
      rw [hyl', Nat.zero_add, ← Nat.add_mul, hn, F.hsize, hcz]; exact Nat.le_trans (Nat.mul_le_mul_right _ hroom) hcap
    have hrun := run_append_room' (P := P) (w := w) t ty e i F.hu F.hi p.b 0 len capm C hg a m bc ys hyl' hsrc hone hroom hfit2
    have e1 : cs.length = 0 + len * i.size := by rw [hcl, F.hsize]; omega
    have hrel := r.regrow (cs' := cs ++ new) hj h1 (w' := w.setRow p.b (C.toList.take (0 + len * i.size) ++ ys ++ C.toList.drop (0 + len * i.size + ys.length)).toArray)
      ⟨rfl, rfl, rfl, by simp [World.setRow], fun k hk => setRow_other w p.b k _ (by omega)⟩ (fun k hk _ => setRow_other w p.b k _ hk) (by
      refine ⟨_, e, (0, 0), setRow_heap w p.b C _ e _ hg, ?_, ?_⟩
      · rw [ho0, List.drop_zero]
        have e2 : (cs ++ new).length = (C.toList.take (0 + len * i.size) ++ ys).length := by
          rw [List.length_append, List.length_append, List.length_take, hys.length, e1]; simp at hcC ⊢; omega
        rw [e2]
        show VRs μ _ (List.take _ (C.toList.take (0 + len * i.size) ++ ys ++ C.toList.drop (0 + len * i.size + ys.length)))
        rw [List.take_left, ← e1]
        exact hcs.append hys
      · simp only [Bool.false_eq_true, if_false]
        refine ⟨ho1, ho0, trivial, trivial, ?_, hcz, hbase⟩
        rw [← hn]
        simp only [List.size_toArray, List.length_append, List.length_take, List.length_drop, Array.length_toList]
        omega)
    rw [e3]
    refine ⟨_, _, _, _, _, hrun, Ext.app _ _, hrel, ?_, hk⟩
    have := VR.slice (μ := μ ++ [p]) (i := h.length) (o := 0) (n := len + m) (c := len + m) (cap := capm) (ex := false) (e := p) (by
      rw [List.getElem?_append_right (by rw [r.len]; omega)]; simp [r.len]) (Nat.le_refl _) hroom (by simp) (fun a _ => h5 a)
    rwa [e3] at this
  · have r1 : Rel P base w0 μ (h.set j .dead) w := r.change hj rfl h1 (Below.refl _ _) (fun _ _ _ => rfl) trivial (.inr rfl)
    refine append_growth r1 (Ext.refl _) F hcs (by rw [← hcs.length, hcl]) ?_ hys hyl hsrc (by omega) (by simpa using hk)
    intro q y hy
    rw [add_ok, ho0]
    rw [List.getElem?_take] at hy
    split at hy
    · simp only [World.cell?, hg, Option.isSome_none, Bool.false_eq_true, if_false]
      rw [Array.getElem?_toList] at hy
      rw [← hy]; congr 1; omega
    · cases hy

theorem append_over (r : Rel P base w0 μ h w) {t ty e : TypeId} {i : TypeInfo} {z : Value} {len m : Nat} (F : AppFacts P t e i z (len + m)) {j o cap capm : Nat} {ex : Bool} {p : Pl} (h1 : μ[j]? = some p) (h3 : cap ≤ capm) (h4 : ex = true → capm = cap) (h5 : p.own = true → o = 0 → capm * p.sz ≤ p.n)
    {a : Addr} {bc : Nat} {new : List AVal} {ys : List Value} (hys : VRs μ new ys) (hone : ∀ u ∈ ys, u.oneCell' = true) (hyl : ys.length = m * P.cellsOf e) (hsrc : ∀ (q : Nat) (y : Value), ys[q]? = some y → w.cell? (a.add q) = some y) {K : AVal → AHeap → Prop}
    (hle : len + m ≤ cap) {cs : List AVal} (hj : h[j]? = some (.cells e cs false)) (hcl : o + len * P.cellsOf e + new.length ≤ cs.length)
    (hk : K (.slice (some (j, o)) (len + m) cap ex) (h.set j (.cells e (putRow cs (o + len * P.cellsOf e) new) false))) :
    Res P base w0 μ ((Builtin.append_ #[t, t] ty #[.slice (some ⟨p.b, p.o + o, none⟩) len capm, .slice (some a) m bc]).run P w) K := by
  obtain ⟨C, hg, hcs, hcC, ho1, ho0, hn, hcz, hbase⟩ := r.ownBlock hj h1
  have hnyl := hys.length
  have hsize := F.hsize
  have hfit2 : o + len * i.size + ys.length ≤ C.size := by rw [← hnyl, hsize]; omega
  have hrun := run_append_room' (P := P) (w := w) t ty e i F.hu F.hi p.b o len capm C hg a m bc ys (by rw [hyl, hsize]) hsrc hone (by omega) hfit2
  have e3 : p.o + o = o := by omega
  rw [e3]
  refine ⟨_, _, μ, _, _, hrun, Ext.refl _, ?_, ?_, hk⟩
  · refine r.change (o := .cells e cs false) hj rfl h1 ⟨rfl, rfl, rfl, by simp [World.setRow], fun k hk => setRow_other w p.b k _ (by omega)⟩ (fun k hk _ => setRow_other w p.b k _ hk) ?_ (.inl rfl)
    refine ⟨_, e, (0, 0), setRow_heap w p.b C _ e _ hg, ?_, ?_⟩
    · rw [ho0, List.drop_zero, ← hsize]
      exact take_put cs _ new C.toList ys hcs hys (by rw [hsize]; omega) (by simpa using hcC)
    · simp only [Bool.false_eq_true, if_false]
      refine ⟨ho1, ho0, trivial, trivial, ?_, hcz, hbase⟩
      rw [← hn]
      simp only [List.size_toArray, List.length_append, List.length_take, List.length_drop, Array.length_toList]
      omega
  · have := VR.slice (o := o) (n := len + m) (c := cap) (cap := capm) (ex := ex) h1 hle h3 h4 h5
    rwa [e3] at this

theorem append_ok (r : Rel P base w0 μ h w) {t ty : TypeId} {s x : AVal} {sv xv : Value} (hs : VR μ s sv) (hx : VR μ x xv) {K : AVal → AHeap → Prop} (hk : appendA P t h s x K) :
    Res P base w0 μ ((Builtin.append_ #[t, t] ty #[sv, xv]).run P w) K := by
  unfold appendA at hk
  split at hk
  case h_2 => exact hk.elim
  rename_i e hu
  split at hk
  case h_2 => exact hk.elim
  rename_i sa len cap ex
  split at hk
  case h_2 => exact hk.elim
  rename_i xa m xc xe
  obtain ⟨new, hnew, ⟨hok, hfit, hleaf⟩, hk2⟩ := xRow_elim hk
  obtain ⟨hse, hz, hpos⟩ := of_decide_eq_true hok
  clear hk
  cases hzc : zeroA P e with
  | none => simp [hzc] at hz
  | some zc =>
  obtain ⟨i, z, hi, hiz, hzv, _⟩ := zero_ok (μ := μ) hzc
  obtain ⟨hnl, bm, bc, rfl, hsrc⟩ := rowOf_ok r hx hnew
  have hzs : z.cells.size = P.cellsOf e := by
    have := hzv.length; simp [hzc] at hz; simp at this; omega
  have hF : AppFacts P t e i z (len + m) := by
    have a1 : (len + m) * 1 ≤ (len + m) * (P.bytesOf e + 1) := Nat.mul_le_mul_left _ (by omega)
    have hbytes : i.bytes = P.bytesOf e := by simp [Program.bytesOf, hi]
    have a2 : (len + m) * i.bytes ≤ (len + m) * (P.bytesOf e + 1) := Nat.mul_le_mul_left _ (by omega)
    exact ⟨hu, hse, hi, hiz, hzs, by simp [Program.cellsOf, hi], hpos, by omega, by omega⟩
  by_cases hm : m = 0
  · subst hm
    have hnew0 : new = [] := List.eq_nil_of_length_eq_zero (by simpa using hnl)
    subst hnew0
    cases hs with
    | slice0 => exact ⟨_, w, μ, _, h, append_none t ty e hu hse _ _ _ (Nat.le_refl _) _ _ w, Ext.refl _, r, .slice0, hk2.1 rfl⟩
    | sliceE0 => exact ⟨_, w, μ, _, h, append_none t ty e hu hse _ _ _ (Nat.le_refl _) _ _ w, Ext.refl _, r, .sliceE0, hk2.1 rfl⟩
    | sliceE1 => exact ⟨_, w, μ, _, h, append_none t ty e hu hse _ _ _ (Nat.zero_le _) _ _ w, Ext.refl _, r, .sliceE1, hk2.1 rfl⟩
    | slice h1 h2 h3 h4 h5 =>
      refine append_zero r hF h1 h2 h3 h4 h5 bm bc ?_
      rcases hk2 with ⟨ho, hk⟩ | ⟨_, hk⟩ | ⟨⟨hex, hlt⟩, _⟩
      · exact .inl ⟨ho, by simpa using hk⟩
      · obtain ⟨cs, hj, hcl, hk⟩ := ownRow_elim hk
        rw [putRow_nil, set_self hj] at hk
        exact .inr hk
      · omega
  · obtain ⟨a, rfl, ys, hys, hsrc⟩ := hsrc.resolve_left (by
      intro h0
      rcases Nat.mul_eq_zero.1 h0 with h0 | h0 <;> omega)
    have hyl : ys.length = m * P.cellsOf e := by rw [← hys.length, hnl]
    have hone := hys.leaf1 hleaf
    cases sa with
    | none =>
      obtain ⟨hc0, hk⟩ := hk2.2 hm
      subst hc0
      have hlen0 : len = 0 := by cases hs <;> rfl
      subst hlen0
      rw [Nat.zero_add] at hF
      cases hs with
      | slice0 => exact append_nil r hF hm none hys hyl hsrc hk
      | sliceE0 => exact append_nil r hF hm _ hys hyl hsrc hk
    | some q =>
      obtain ⟨j, o⟩ := q
      cases hs with
      | slice h1 h2 h3 h4 h5 =>
      rcases hk2 with ⟨ho, hk⟩ | ⟨hle, hk⟩ | ⟨⟨hex, hlt⟩, hk⟩
      · subst ho
        obtain ⟨cs, hj, hcl, hk⟩ := ownRow_elim hk
        exact append_end r hF h1 (fun a => h5 a rfl) hys hone hyl hsrc hj hcl hk
      · obtain ⟨cs, hj, hcl, hk⟩ := ownRow_elim hk
        exact append_over r hF h1 h3 h4 h5 hys hone hyl hsrc hle hj hcl hk
      · obtain ⟨old, hold, hk⟩ := xRow_elim hk
        obtain ⟨hol, am, capm', heq, hrow⟩ := rowOf_ok r (.slice (o := o) h1 h2 h3 h4 h5) hold
        cases heq
        have := h4 hex
        rcases hrow with h0 | ⟨b, hb, olds, hvo, hcell⟩
        · have ho' : old = [] := List.eq_nil_of_length_eq_zero (by omega)
          subst ho'
          exact append_growth (olds := []) r (Ext.refl _) hF .nil (by simp [h0]) (by simp) hys hyl hsrc (by omega) hk
        · cases hb
          exact append_growth r (Ext.refl _) hF hvo (by rw [← hvo.length, hol]) hcell hys hyl hsrc (by omega) hk
end
end Go.Sim
