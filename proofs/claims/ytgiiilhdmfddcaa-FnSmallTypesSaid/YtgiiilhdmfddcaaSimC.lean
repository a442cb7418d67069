/- Laws of the relation between abstract heaps and worlds. -/
import Derived.Test.YtgiiilhdmfddcaaSimB
set_option linter.unusedVariables false
set_option linter.unusedSimpArgs false
namespace Go.Sim
open Go Go.RowKit

theorem ObjRel.keep {P : Program} {base : Nat} {w0 : World} {μ μ' : List Pl} {e : Pl} {w w' : World} {o : AObj} (h : ObjRel P base w0 μ e w o) (hx : Ext μ μ')
    (hb : ∀ x, w.heap[e.b]? = some x → w'.heap[e.b]? = some x) : ObjRel P base w0 μ' e w' o := by
  cases o with
  | cells t cs ro =>
    obtain ⟨C, el, fr, h1, h2, h3⟩ := h
    exact ⟨C, el, fr, hb _ h1, h2.ext hx, h3⟩
  | map es =>
    obtain ⟨h0, ents, clk, h1, h2, h3⟩ := h
    exact ⟨h0, ents, clk, hb _ h1, h2.ext hx, h3.ext hx⟩
  | iter s pos =>
    obtain ⟨h0, h1, s', h2, h3⟩ := h
    exact ⟨h0, h1, s', h2, hb _ h3⟩
  | dead => trivial
  | amb φ => exact h
theorem ObjRel.still {P : Program} {base : Nat} {w0 : World} {μ μ' : List Pl} {e e' : Pl} {w w' : World} {o : AObj} (hs : o.still = true) (h : ObjRel P base w0 μ e w o) : ObjRel P base w0 μ' e' w' o := by
  cases o with
  | dead => trivial
  | amb φ => exact h
  | cells t cs ro => cases hs
  | map es => cases hs
  | iter s pos => cases hs

section
variable {P : Program} {base : Nat} {w0 : World} {μ : List Pl} {h : AHeap} {w : World}

theorem Rel.lt (r : Rel P base w0 μ h w) {i : Nat} {o : AObj} (hi : h[i]? = some o) (ho : o.own = true) {e : Pl} (he : μ[i]? = some e) : e.b < w.heap.size ∧ base ≤ e.b := by
  have := r.obj i o hi e he
  cases o with
  | cells t cs ro =>
    obtain ⟨C, el, fr, h1, _, h3⟩ := this
    simp [AObj.own] at ho; subst ho
    simp at h3
    exact ⟨(Array.getElem?_eq_some_iff.1 h1).1, h3.2.2.2.2.2.2⟩
  | map es => obtain ⟨h0, ents, clk, h1, _⟩ := this; exact ⟨(Array.getElem?_eq_some_iff.1 h1).1, h0⟩
  | iter s pos => obtain ⟨h0, _, s', _, h1⟩ := this; exact ⟨(Array.getElem?_eq_some_iff.1 h1).1, h0⟩
  | dead => simp [AObj.own] at ho
  | amb φ => simp [AObj.own] at ho

theorem ObjRel.lt {e : Pl} {o : AObj} (h : ObjRel P base w0 μ e w o) (ho : ¬ o.still = true) : e.b < w.heap.size := by
  cases o with
  | cells t cs ro => obtain ⟨C, el, fr, h1, _⟩ := h; exact (Array.getElem?_eq_some_iff.1 h1).1
  | map es => obtain ⟨_, _, _, h1, _⟩ := h; exact (Array.getElem?_eq_some_iff.1 h1).1
  | iter s pos => obtain ⟨_, _, _, _, h1⟩ := h; exact (Array.getElem?_eq_some_iff.1 h1).1
  | dead => exact absurd rfl ho
  | amb φ => exact absurd rfl ho

/-- Memory has grown, nothing that was there has turned. -/
theorem Rel.grow (r : Rel P base w0 μ h w) {w' : World} (hb : Below w.heap.size w w') : Rel P base w0 μ h w' where
  below := r.below.trans (hb.mono r.size)
  len := r.len
  obj := fun i o hi e he => by
    by_cases hd : o.still = true
    · exact (r.obj i o hi e he).still hd
    · have ho := r.obj i o hi e he
      refine ho.keep (Ext.refl _) fun x hx => ?_
      rw [hb.block _ (ho.lt hd)]; exact hx
  sep := r.sep
  size := Nat.le_trans r.size hb.size

/-- A new object in a new block. -/
theorem Rel.new (r : Rel P base w0 μ h w) {w' : World} (hb : Below w.heap.size w w') (e : Pl) (o : AObj) (he : w.heap.size ≤ e.b)
    (ho : ObjRel P base w0 (μ ++ [e]) e w' o) : Rel P base w0 (μ ++ [e]) (h ++ [o]) w' := by
  have r' := r.grow hb
  refine ⟨r'.below, by simp [r.len], ?_, ?_, r'.size⟩
  · intro i ob hi e' he'
    by_cases hlt : i < h.length
    · rw [List.getElem?_append_left hlt] at hi
      rw [List.getElem?_append_left (by rw [r.len]; exact hlt)] at he'
      exact (r'.obj i ob hi e' he').keep (Ext.app _ _) fun x hx => hx
    · rw [List.getElem?_append_right (by omega)] at hi
      rw [List.getElem?_append_right (by rw [r.len]; omega)] at he'
      have hz : i - h.length = 0 := by
        have := (List.getElem?_eq_some_iff.1 hi).1; simp at this; omega
      rw [hz] at hi
      rw [r.len, hz] at he'
      simp at hi he'; subst hi; subst he'
      exact ho
  · intro i j oi oj ei ej hij hi hj hoi hoj hei hej
    have key : ∀ (i j : Nat) (oi oj : AObj) (ei ej : Pl), i < h.length → h.length ≤ j → (h ++ [o])[i]? = some oi → (h ++ [o])[j]? = some oj → oi.own = true → (μ ++ [e])[i]? = some ei → (μ ++ [e])[j]? = some ej → ei.b < ej.b := by
      intro i j oi oj ei ej hil hjl hi hj hoi hei hej
      rw [List.getElem?_append_left hil] at hi
      rw [List.getElem?_append_left (by rw [r.len]; exact hil)] at hei
      rw [List.getElem?_append_right (by rw [r.len]; omega)] at hej
      rw [List.getElem?_append_right hjl] at hj
      have hz : j - h.length = 0 := by have := (List.getElem?_eq_some_iff.1 hj).1; simp at this; omega
      rw [r.len, hz] at hej; simp at hej; subst hej
      have := r.lt hi hoi hei
      omega
    by_cases hil : i < h.length <;> by_cases hjl : j < h.length
    · rw [List.getElem?_append_left hil] at hi
      rw [List.getElem?_append_left hjl] at hj
      rw [List.getElem?_append_left (by rw [r.len]; exact hil)] at hei
      rw [List.getElem?_append_left (by rw [r.len]; exact hjl)] at hej
      exact r.sep i j oi oj ei ej hij hi hj hoi hoj hei hej
    · have := key i j oi oj ei ej hil (by omega) hi hj hoi hei hej; omega
    · have := key j i oj oi ej ei hjl (by omega) hj hi hoj hej hei; omega
    · have a := (List.getElem?_eq_some_iff.1 hi).1
      have b := (List.getElem?_eq_some_iff.1 hj).1
      simp at a b; omega

/-- An own object's block is written. -/
theorem Rel.change (r : Rel P base w0 μ h w) {w' : World} {i : Nat} {o o' : AObj} {e : Pl} (hi : h[i]? = some o) (ho : o.own = true) (hei : μ[i]? = some e)
    (hb : Below base w w') (hk : ∀ k, k ≠ e.b → k < w.heap.size → w'.heap[k]? = w.heap[k]?)
    (hn : ObjRel P base w0 μ e w' o') (hown : o'.own = true ∨ o' = .dead) : Rel P base w0 μ (h.set i o') w' := by
  have hlt := r.lt hi ho hei
  refine ⟨r.below.trans hb, by simp [r.len], ?_, ?_, Nat.le_trans r.size hb.size⟩
  · intro j ob hj e' he'
    by_cases hij : i = j
    · subst hij
      rw [List.getElem?_set_self (List.getElem?_eq_some_iff.1 hi).1] at hj
      cases hj
      rw [hei] at he'; cases he'
      exact hn
    · rw [List.getElem?_set_ne hij] at hj
      have hold := r.obj j ob hj e' he'
      by_cases hd : ob.still = true
      · exact hold.still hd
      refine hold.keep (Ext.refl _) fun x hx => ?_
      rw [hk]
      · exact hx
      · intro he
        by_cases hobo : ob.own = true
        · exact r.sep j i ob o e' e (fun h => hij h.symm) hj hi hobo ho he' hei he
        · cases ob with
          | cells t cs ro =>
            simp [AObj.own] at hobo; subst hobo
            obtain ⟨_, _, _, _, _, h3⟩ := hold
            simp at h3; omega
          | map es => simp [AObj.own] at hobo
          | iter s p => simp [AObj.own] at hobo
          | dead => exact hd rfl
          | amb φ => exact hd rfl
      · exact hold.lt hd
  · intro a b oa ob ea eb hab ha hb' hoa hob hea heb
    have old : ∀ (a : Nat) (oa : AObj), (h.set i o')[a]? = some oa → oa.own = true → ∃ o2, h[a]? = some o2 ∧ o2.own = true := by
      intro a oa ha hoa
      by_cases hia : i = a
      · subst hia; exact ⟨o, hi, ho⟩
      · rw [List.getElem?_set_ne hia] at ha; exact ⟨oa, ha, hoa⟩
    obtain ⟨o2, h2, k2⟩ := old a oa ha hoa
    obtain ⟨o3, h3, k3⟩ := old b ob hb' hob
    exact r.sep a b o2 o3 ea eb hab h2 h3 k2 k3 hea heb

/-- The machine's cells of an abstract row. -/
theorem Rel.row (r : Rel P base w0 μ h w) {p : AVal} {x : Value} (hp : VR μ p x) {n : Nat} {cs : List AVal} (hc : hRow h p n = some cs) :
    cs.length = n ∧ ∃ a : Addr, x = .pointer (some a) ∧ ∃ ys : List Value, VRs μ cs ys ∧ ∀ (j : Nat) (y : Value), ys[j]? = some y → w.cell? (a.add j) = some y := by
  unfold hRow at hc
  split at hc
  · rename_i i o
    split at hc
    · rename_i t cells ro hi
      split at hc
      · rename_i hle
        cases hc
        cases hp with
        | ptr hmu =>
          rename_i e
          obtain ⟨C, el, fr, h1, h2, h3⟩ := r.obj i _ hi e hmu
          refine ⟨by simp; omega, _, rfl, ((C.toList.drop e.o).take cells.length |>.drop o).take n, (h2.drop o).take n, ?_⟩
          intro j y hy
          have hjn : j < n := by
            by_cases hj : j < n
            · exact hj
            · rw [List.getElem?_take, if_neg hj] at hy; cases hy
          rw [List.getElem?_take, if_pos hjn, List.getElem?_drop, List.getElem?_take, if_pos (by omega), List.getElem?_drop, Array.getElem?_toList] at hy
          rw [show (⟨e.b, e.o + o, none⟩ : Addr).add j = ⟨e.b, e.o + o + j, none⟩ by unfold Addr.add; split <;> simp_all]
          simp only [World.cell?, h1, Option.isSome_none, Bool.false_eq_true, if_false]
          rw [← hy]; congr 1; omega
      · cases hc
    · cases hc
  · cases hc
theorem Rel.cell (r : Rel P base w0 μ h w) {p : AVal} {x : Value} (hp : VR μ p x) {v : AVal} (hc : hCell h p = some v) :
    ∃ a : Addr, x = .pointer (some a) ∧ ∃ y : Value, VR μ v y ∧ w.cell? a = some y := by
  unfold hCell at hc
  split at hc
  · rename_i i o
    split at hc
    · rename_i t cells ro hi
      cases hp with
      | ptr hmu =>
        rename_i e
        obtain ⟨C, el, fr, h1, h2, h3⟩ := r.obj i _ hi e hmu
        obtain ⟨y, hy, hv⟩ := h2.get hc
        refine ⟨_, rfl, y, hv, ?_⟩
        have hol : o < cells.length := (List.getElem?_eq_some_iff.1 hc).1
        rw [List.getElem?_take, if_pos hol, List.getElem?_drop, Array.getElem?_toList] at hy
        simp only [World.cell?, h1, Option.isSome_none, Bool.false_eq_true, if_false]
        exact hy
    · cases hc
  · cases hc

end
end Go.Sim
