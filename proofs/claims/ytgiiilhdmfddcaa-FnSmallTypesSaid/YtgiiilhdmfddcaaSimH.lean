/- Operations on memory: new objects, append. -/
import Derived.Test.YtgiiilhdmfddcaaSimG
import Derived.Deep.Draws
set_option linter.unusedVariables false
set_option linter.all false
set_option linter.unusedSimpArgs false
namespace Go.Sim
open Go Go.RowKit

def zeroA (P : Program) (t : TypeId) : Option (List AVal) :=
  match P.info? t with
  | some i => (match i.zero with | some v => some (v.cells.toList.map cstLeaf) | none => none)
  | none => none
def newA (h : AHeap) (t : TypeId) (cs : List AVal) (K : AVal → AHeap → Prop) : Prop := K (.ptr (some (h.length, 0))) (h ++ [.cells t cs false])
def allocA (P : Program) (t : TypeId) (h : AHeap) (K : AVal → AHeap → Prop) : Prop := xRow (zeroA P t) fun cs => newA h t cs K
def boxA (t : TypeId) (h : AHeap) (v : AVal) (K : AVal → AHeap → Prop) : Prop := xRow (sv v) fun cs => newA h t cs K
def fillA (place : Nat → Option (Nat × Nat)) (cells : List AVal) : List (Nat × AVal) → Option (List AVal)
  | [] => some cells
  | (i, v) :: rest =>
    match place i with
    | none => none
    | some (off, size) =>
      match sv v with
      | none => none
      | some vs => if vs.length = size ∧ off + vs.length ≤ cells.length then fillA place (putRow cells off vs) rest else none
def parts (env : Env) (ps : Array (Nat × Operand)) : List (Nat × AVal) := ps.toList.map fun p => (p.1, ev env p.2)
def buildA (P : Program) (t : TypeId) (ps : List (Nat × AVal)) (K : AVal → Prop) : Prop :=
  xRow (zeroA P t) fun z =>
    match P.underlying t with
    | some (.struct fs) => chk ((fs.toList.all fun f => (P.underlying f.type).isSome) = true) (xRow (fillA (fun i => (fs[i]?).map fun f => (f.offset, P.cellsOf f.type)) z ps) fun cs => K (.agg cs))
    | some (.array _ e) => chk ((P.underlying e).isSome = true) (xRow (fillA (fun i => some (i * P.cellsOf e, P.cellsOf e)) z ps) fun cs => K (.agg cs))
    | _ => False
def reps (n : Nat) (z : List AVal) : List AVal := (List.replicate n z).flatten
def buildSliceA (P : Program) (t : TypeId) (n : Nat) (ps : List (Nat × AVal)) (h : AHeap) (K : AVal → AHeap → Prop) : Prop :=
  match P.underlying t with
  | some (.slice e) => xRow (zeroA P e) fun z => chk ((P.underlying e).isSome = true ∧ z.length = P.cellsOf e ∧ 0 < P.cellsOf e ∧ n * P.cellsOf e ≤ 16777216)
      (xRow (fillA (fun i => some (i * P.cellsOf e, P.cellsOf e)) (reps n z) ps) fun cs => K (.slice (some (h.length, 0)) n n true) (h ++ [.cells e cs false]))
  | _ => False
def makeSliceA (P : Program) (t : TypeId) (l c : AVal) (h : AHeap) (K : AVal → AHeap → Prop) : Prop :=
  match P.underlying t with
  | some (.slice e) => xRow (zeroA P e) fun z => chk ((P.underlying e).isSome = true ∧ z.length = P.cellsOf e ∧ 0 < P.cellsOf e)
      (xInt .i64 (some l) fun l => xInt .i64 (some c) fun c => (0 ≤ l ∧ l ≤ c ∧ c * (P.bytesOf e + 1) ≤ 140737488355328) ∧
        K (.slice (some (h.length, 0)) l.toNat c.toNat true) (h ++ [.cells e (reps c.toNat z) false]))
  | _ => False
def rowOf (h : AHeap) (a : Option (Nat × Nat)) (n : Nat) : Option (List AVal) :=
  match a with
  | none => if n = 0 then some [] else none
  | some p => if n = 0 then some [] else hRow h (.ptr (some p)) n
def ownRow (h : AHeap) (i : Nat) (e : TypeId) (K : List AVal → Prop) : Prop :=
  match h[i]? with
  | some (.cells e' cs false) => e' = e ∧ K cs
  | _ => False
def _root_.Go.Program.okElem (P : Program) (e : TypeId) : Bool := decide ((P.underlying e).isSome = true ∧ (zeroA P e).map List.length = some (P.cellsOf e) ∧ 0 < P.cellsOf e)
/-- append: at the end of a row of one's own (which is dead behind it); over cells that are known; of a row that is known to be full. -/
def appendA (P : Program) (t : TypeId) (h : AHeap) (s x : AVal) (K : AVal → AHeap → Prop) : Prop :=
  match P.underlying t with
  | some (.slice e) => (match s with
    | .slice sa len cap ex => (match x with
      | .slice xa m _ _ => xRow (rowOf h xa (m * P.cellsOf e)) fun new =>
        (P.okElem e = true ∧ (len + m) * (P.bytesOf e + 1) ≤ 140737488355328 ∧ new.all AVal.leaf = true) ∧
        (match sa with
         | none => (m = 0 → K s h) ∧ (m ≠ 0 → cap = 0 ∧ K (.slice (some (h.length, 0)) m m false) (h ++ [.cells e new false]))
         | some (i, o) =>
           (o = 0 ∧ ownRow h i e fun cs => cs.length = len * P.cellsOf e ∧ K (.slice (some (h.length, 0)) (len + m) (len + m) false) (h.set i .dead ++ [.cells e (cs ++ new) false])) ∨
           (len + m ≤ cap ∧ ownRow h i e fun cs => o + len * P.cellsOf e + new.length ≤ cs.length ∧ K (.slice (some (i, o)) (len + m) cap ex) (h.set i (.cells e (putRow cs (o + len * P.cellsOf e) new) false))) ∨
           ((ex = true ∧ cap < len + m) ∧ xRow (rowOf h sa (len * P.cellsOf e)) fun old => K (.slice (some (h.length, 0)) (len + m) (len + m) false) (h ++ [.cells e (old ++ new) false])))
      | _ => False)
    | _ => False)
  | _ => False

section
variable {P : Program} {base : Nat} {w0 : World} {μ : List Pl} {h : AHeap} {w : World}

theorem zero_ok {t : TypeId} {cs : List AVal} (hz : zeroA P t = some cs) : ∃ i v, P.info? t = some i ∧ i.zero = some v ∧ VRs μ cs v.cells.toList ∧ ∀ w, (zeroValue t).run P w = .ok v w := by
  unfold zeroA at hz
  split at hz
  · rename_i i hi
    split at hz
    · rename_i v hv
      cases hz
      exact ⟨i, v, hi, hv, VRs.map_leaf _, fun w => by simp [zeroValue, typeInfo, hi, hv]⟩
    · cases hz
  · cases hz
theorem xRow_elim {o : Option (List AVal)} {K : List AVal → Prop} (h : xRow o K) : ∃ cs, o = some cs ∧ K cs := by
  unfold xRow at h
  split at h
  · exact ⟨_, rfl, h⟩
  · exact h.elim

/-- A new row of one's own. -/
theorem Rel.newRow (r : Rel P base w0 μ h w) {t : TypeId} {cs : List AVal} {C : Array Value} {n : Nat} (hv : VRs μ cs (C.toList.take cs.length)) :
    Rel P base w0 (μ ++ [⟨w.heap.size, 0, true, C.size, P.cellsOf t⟩]) (h ++ [.cells t cs false]) ((w.drewN n).alloc (.cells C t)) := by
  have hb : Below w.heap.size w ((w.drewN n).alloc (.cells C t)) := by
    have h0 : Below w.heap.size w (w.drewN n) := ⟨rfl, rfl, rfl, Nat.le_refl _, fun _ _ => rfl⟩
    exact h0.alloc (Nat.le_refl _) _
  refine r.new hb _ _ (Nat.le_refl _) ?_
  refine ⟨C, t, (0, 0), ?_, ?_, ?_⟩
  · show ((w.drewN n).heap.push _)[w.heap.size]? = _
    have : (w.drewN n).heap = w.heap := rfl
    rw [this, Array.getElem?_push]; simp
  · simpa using hv.ext (Ext.app _ _)
  · simp only [Bool.false_eq_true, if_false]
    exact ⟨trivial, trivial, trivial, trivial, trivial, trivial, r.size⟩
theorem Rel.newRow0 (r : Rel P base w0 μ h w) {t : TypeId} {cs : List AVal} {C : Array Value} (hv : VRs μ cs (C.toList.take cs.length)) :
    Rel P base w0 (μ ++ [⟨w.heap.size, 0, true, C.size, P.cellsOf t⟩]) (h ++ [.cells t cs false]) (w.alloc (.cells C t)) := by
  exact r.newRow (t := t) (C := C) (n := 0) hv
theorem Rel.last (r : Rel P base w0 μ h w) (e : Pl) : (μ ++ [e])[h.length]? = some e := by
  rw [← r.len]; simp

theorem new_ok (r : Rel P base w0 μ h w) {t : TypeId} {cs : List AVal} {v : Value} (hv : VRs μ cs v.cells.toList) {K : AVal → AHeap → Prop} (hk : newA h t cs K) :
    Res P base w0 μ ((do pure (.pointer (some (← newVar t v))) : Sem Value).run P w) K := by
  have hl := hv.length
  have r' := r.newRow0 (t := t) (C := v.cells) (cs := cs) (by rw [hl, List.take_length]; exact hv)
  refine ⟨.pointer (some ⟨w.heap.size, 0, none⟩), _, _, _, _, ?_, Ext.app _ _, r', ?_, hk⟩
  · simp [newVar, newRow]
  · exact .ptr (e := ⟨w.heap.size, 0, true, v.cells.size, P.cellsOf t⟩) (o := 0) (r.last _)
theorem alloc_ok (r : Rel P base w0 μ h w) {t : TypeId} {K : AVal → AHeap → Prop} (hk : allocA P t h K) :
    Res P base w0 μ ((Instr.alloc t true (.tuple #[])).run P w) K := by
  obtain ⟨cs, hz, hk⟩ := xRow_elim hk
  obtain ⟨i, v, hi, hv, hvs, hr⟩ := zero_ok (μ := μ) hz
  have := new_ok r hvs hk
  simpa [Instr.alloc, hr w] using this
theorem box_ok (r : Rel P base w0 μ h w) {t : TypeId} {a : AVal} {x : Value} (ha : VR μ a x) {K : AVal → AHeap → Prop} (hk : boxA t h a K) :
    Res P base w0 μ ((Instr.box t x).run P w) K := by
  obtain ⟨cs, hs, hk⟩ := xRow_elim hk
  exact new_ok r (sv_ok ha hs).1 hk

theorem foldl_put (off : Nat) : ∀ (ys : List Value) (k : Nat) (C : Array Value), off + k + ys.length ≤ C.size →
    ((ys.zipIdx k).foldl (fun cs (p : Value × Nat) => cs.setIfInBounds (off + p.2) p.1) C).toList = C.toList.take (off + k) ++ ys ++ C.toList.drop (off + k + ys.length)
  | [], k, C, _ => by simp
  | y :: ys, k, C, hl => by
    simp only [List.length_cons] at hl
    simp only [List.zipIdx_cons, List.foldl_cons]
    rw [foldl_put off ys (k + 1) _ (by simp; omega)]
    have e := list_seg_step C.toList (off + k) y ys (by simp; omega)
    simpa [Array.toList_setIfInBounds, Nat.add_assoc] using e
theorem fill_ok (place : Nat → Option (Nat × Nat)) : ∀ (ps : List (Nat × AVal)) (qs : List (Nat × Value)) (cs : List AVal) (C : Array Value) (out : List AVal),
    VRs μ cs C.toList → ps.map (·.1) = qs.map (·.1) → VRs μ (ps.map (·.2)) (qs.map (·.2)) → fillA place cs ps = some out →
    ∃ D, Instr.fill place C qs = some D ∧ VRs μ out D.toList ∧ D.size = C.size
  | [], [], cs, C, out, hc, _, _, hf => by simp [fillA] at hf; subst hf; exact ⟨C, rfl, hc, rfl⟩
  | [], q :: qs, _, _, _, _, h1, _, _ => by simp at h1
  | p :: ps, [], _, _, _, _, h1, _, _ => by simp at h1
  | (i, v) :: ps, (j, y) :: qs, cs, C, out, hc, h1, h2, hf => by
    simp only [List.map_cons, List.cons.injEq] at h1
    obtain ⟨rfl, h1⟩ := h1
    simp only [List.map_cons] at h2
    cases h2 with
    | cons hv h2 =>
    simp only [fillA] at hf
    split at hf
    · cases hf
    · rename_i off size hp
      split at hf
      · cases hf
      · rename_i vs hs
        split at hf
        · rename_i hb
          have hvs := (sv_ok hv hs).1
          have hl := hvs.length
          have hcl := hc.length
          simp only [Array.length_toList] at hl hcl
          have hput := foldl_put off y.cells.toList 0 C (by simp; omega)
          have ih := fill_ok place ps qs (putRow cs off vs) (y.cells.zipIdx.foldl (fun cs (p : Value × Nat) => cs.setIfInBounds (off + p.2) p.1) C) out (by
            rw [← Array.foldl_toList, Array.toList_zipIdx, hput]
            exact hc.put hvs off) h1 h2 hf
          obtain ⟨D, hD, hr, hds⟩ := ih
          have hsz : (y.cells.zipIdx.foldl (fun cs (p : Value × Nat) => cs.setIfInBounds (off + p.2) p.1) C).size = C.size := by
            rw [← Array.length_toList, ← Array.foldl_toList, Array.toList_zipIdx, hput]
            simp; omega
          refine ⟨D, ?_, hr, hds.trans hsz⟩
          simp only [Instr.fill, hp]
          rw [hl] at hb
          rw [if_neg (by simp; omega)]
          exact hD
        · cases hf
theorem parts_ok {env : Env} {ρ : Operand → Value} (hρ : EvRel μ env ρ) (ps : Array (Nat × Operand)) :
    (parts env ps).map (·.1) = ((ps.map fun (i, x) => (i, ρ x)).toList).map (·.1) ∧ VRs μ ((parts env ps).map (·.2)) (((ps.map fun (i, x) => (i, ρ x)).toList).map (·.2)) := by
  unfold parts
  rw [Array.toList_map]
  refine ⟨by simp [Function.comp_def], ?_⟩
  simp only [List.map_map, Function.comp_def]
  have : ∀ l : List (Nat × Operand), VRs μ (l.map fun p => ev env p.2) (l.map fun p => ρ p.2) := fun l => by
    induction l with
    | nil => exact .nil
    | cons p r ih => exact .cons (hρ _) ih
  exact this _
theorem build_ok {t : TypeId} {ps : List (Nat × AVal)} {qs : Array (Nat × Value)} (h1 : ps.map (·.1) = qs.toList.map (·.1)) (h2 : VRs μ (ps.map (·.2)) (qs.toList.map (·.2))) {K : AVal → Prop} (hk : buildA P t ps K) :
    Pure P μ (Instr.build t qs) K := by
  obtain ⟨z, hz, hk⟩ := xRow_elim hk
  obtain ⟨i, v, hi, hv, hvs, hzr⟩ := zero_ok (μ := μ) hz
  split at hk
  · rename_i fs hu
    replace hk := chk_elim hk; obtain ⟨hall, hk⟩ := hk
    obtain ⟨cs, hf, hk⟩ := xRow_elim hk
    obtain ⟨D, hD, hr, hds⟩ := fill_ok _ ps qs.toList z v.cells cs hvs h1 h2 hf
    have hm : ∀ w : World, (fs.mapM fun f => (do pure (f.offset, ← sizeOf f.type) : Sem (Nat × Nat))).run P w = .ok (fs.map fun f => (f.offset, P.cellsOf f.type)) w := fun w => by
      rw [Array.mapM_eq_mapM_toList]
      have key : ∀ l : List Field, (l.all fun f => (P.underlying f.type).isSome) = true → (l.mapM fun f => (do pure (f.offset, ← sizeOf f.type) : Sem (Nat × Nat))).run P w = .ok (l.map fun f => (f.offset, P.cellsOf f.type)) w := by
        intro l
        induction l with
        | nil => intro _; simp
        | cons f l ih =>
          intro hl
          simp only [List.all_cons, Bool.and_eq_true] at hl
          rw [List.mapM_cons, Sem.run_bind, Sem.run_bind, sizeOf_run hl.1]
          simp only [Result.andThen_ok, Sem.run_pure, Sem.run_bind, ih hl.2, List.map_cons]
      rw [Sem.run_map, key _ hall]
      simp only [Result.andThen_ok]
      congr 1
      apply Array.ext'; simp
    refine .mk (x := .agg D) (fun w => ?_) (.agg hr) hk
    simp only [Instr.build, Sem.run_bind, hzr w, Result.andThen_ok, run_underlying hu, hm w]
    have : (fun x => (fs.map fun (f : Field) => (f.offset, P.cellsOf f.type))[x]?) = fun (i : Nat) => (fs[i]?).map fun (f : Field) => (f.offset, P.cellsOf f.type) := by funext x; simp
    simp [this, hD]
  · rename_i n e hu
    replace hk := chk_elim hk; obtain ⟨hs, hk⟩ := hk
    obtain ⟨cs, hf, hk⟩ := xRow_elim hk
    obtain ⟨D, hD, hr, hds⟩ := fill_ok _ ps qs.toList z v.cells cs hvs h1 h2 hf
    refine .mk (x := .agg D) (fun w => ?_) (.agg hr) hk
    simp [Instr.build, hzr w, run_underlying hu, sizeOf_run hs, hD]
  · exact hk.elim

theorem flatten_replicate_get? {α : Type} (z : List α) (hz : 0 < z.length) : ∀ (n j : Nat), j < n * z.length → (List.replicate n z).flatten[j]? = z[j % z.length]?
  | 0, j, h => by simp at h
  | n + 1, j, h => by
    rw [List.replicate_succ, List.flatten_cons]
    by_cases hj : j < z.length
    · rw [List.getElem?_append_left hj, Nat.mod_eq_of_lt hj]
    · rw [List.getElem?_append_right (by omega), flatten_replicate_get? z hz n (j - z.length) (by rw [Nat.succ_mul] at h; omega)]
      congr 1
      rw [Nat.mod_eq_sub_mod (show j ≥ z.length by omega)]
theorem reps_get (n : Nat) (C : Array Value) (hz : 0 < C.size) : (((Array.range (n * C.size)).map fun i => C[i % C.size]!)).toList = (List.replicate n C.toList).flatten := by
  apply List.ext_getElem?
  intro j
  by_cases hj : j < n * C.size
  · rw [flatten_replicate_get? C.toList (by simpa using hz) n j (by simpa using hj)]
    have hm : j % C.size < C.size := Nat.mod_lt _ hz
    simp [hj, getElem!_pos C (j % C.size) hm, hm]
  · rw [List.getElem?_eq_none (by simp; omega), List.getElem?_eq_none (by simp; omega)]
theorem VRs.reps {cs : List AVal} {xs : List Value} (h : VRs μ cs xs) : ∀ n, VRs μ (Sim.reps n cs) (List.replicate n xs).flatten
  | 0 => .nil
  | n + 1 => by
    have := h.append (VRs.reps h n)
    simpa [Sim.reps, List.replicate_succ] using this

theorem buildSlice_ok (r : Rel P base w0 μ h w) {t : TypeId} {n : Nat} {ps : List (Nat × AVal)} {qs : Array (Nat × Value)} (h1 : ps.map (·.1) = qs.toList.map (·.1)) (h2 : VRs μ (ps.map (·.2)) (qs.toList.map (·.2)))
    {K : AVal → AHeap → Prop} (hk : buildSliceA P t n ps h K) : Res P base w0 μ ((Instr.buildSlice t n qs).run P w) K := by
  unfold buildSliceA at hk
  split at hk
  · rename_i e hu
    obtain ⟨z, hz, hk⟩ := xRow_elim hk
    replace hk := chk_elim hk; obtain ⟨⟨hs, hzl, hpos, hsz⟩, hk⟩ := hk
    obtain ⟨i, v, hi, hv, hvs, hzr⟩ := zero_ok (μ := μ) hz
    obtain ⟨cs, hf, hk⟩ := xRow_elim hk
    have hl := hvs.length
    simp only [Array.length_toList] at hl
    have hC : VRs μ (Sim.reps n z) (((Array.range (n * v.cells.size)).map fun i => v.cells[i % v.cells.size]!)).toList := by
      rw [reps_get n v.cells (by omega)]; exact hvs.reps n
    obtain ⟨D, hD, hr, hds⟩ := fill_ok _ ps qs.toList _ _ cs hC h1 h2 hf
    have hDl := hr.length
    have hDs : D.size = n * P.cellsOf e := by
      rw [hds]; simp; rw [← hzl, hl]
    have hrel := r.newRow0 (t := e) (C := D) (cs := cs) (by rw [hDl, List.take_length]; exact hr)
    refine ⟨.slice (some ⟨w.heap.size, 0, none⟩) n n, _, _, _, _, ?_, Ext.app _ _, hrel, ?_, hk⟩
    · have hc : P.cellsOf e = v.cells.size := by omega
      have h24 : ¬ (16777216 < n * v.cells.size) := by rw [← hc]; omega
      rw [hc] at hD
      by_cases h0 : n = 0
      · subst h0
        rw [Nat.zero_mul] at hD
        have e0 : ∀ f : Nat → Value, (Array.range 0).map f = #[] := fun f => by apply Array.ext'; simp
        rw [e0] at hD
        simp only [Instr.buildSlice, Sem.run_bind, run_underlying hu, Result.andThen_ok, sizeOf_run hs, hc, Nat.zero_mul]
        simp [newRow, e0, hD]
      · have h3 : ¬ (n * v.cells.size = 0) := by
          intro h; rcases Nat.mul_eq_zero.1 h with h | h <;> omega
        simp [Instr.buildSlice, run_underlying hu, sizeOf_run hs, hc, h24, h3, hzr w, newRow, hD]
    · refine .slice (e := ⟨w.heap.size, 0, true, D.size, P.cellsOf e⟩) (o := 0) (r.last _) (Nat.le_refl _) (Nat.le_refl _) (fun _ => rfl) (fun _ _ => by rw [hDs]; exact Nat.le_refl _)
  · exact hk.elim

theorem rowOf_ok (r : Rel P base w0 μ h w) {sa : Option (Nat × Nat)} {len cap : Nat} {ex : Bool} {x : Value} (hx : VR μ (.slice sa len cap ex) x) {n : Nat} {cs : List AVal} (hc : rowOf h sa n = some cs) :
    cs.length = n ∧ ∃ am capm, x = .slice am len capm ∧ (n = 0 ∨ ∃ a, am = some a ∧ ∃ ys : List Value, VRs μ cs ys ∧ ∀ (j : Nat) (y : Value), ys[j]? = some y → w.cell? (a.add j) = some y) := by
  unfold rowOf at hc
  split at hc
  · split at hc
    · rename_i h0
      cases hc
      subst h0
      refine ⟨rfl, ?_⟩
      cases hx <;> exact ⟨_, _, rfl, .inl rfl⟩
    · cases hc
  · rename_i p
    obtain ⟨i, o⟩ := p
    cases hx with
    | slice h1 h2 h3 h4 h5 =>
      split at hc
      · rename_i h0; cases hc; subst h0; exact ⟨rfl, _, _, rfl, .inl rfl⟩
      · obtain ⟨hl, a, ha, ys, hys, hcell⟩ := r.row (.ptr (o := o) h1) hc
        cases ha
        exact ⟨hl, _, _, rfl, .inr ⟨_, rfl, ys, hys, hcell⟩⟩

/-- Nothing is appended: the slice itself. -/
theorem append_none (t ty e : TypeId) (hu : P.underlying t = some (.slice e)) (hs : (P.underlying e).isSome = true) (am : Option Addr) (len cap : Nat) (hle : len ≤ cap) (bm : Option Addr) (c : Nat) (w : World) :
    (Builtin.append_ #[t, t] ty #[.slice am len cap, .slice bm 0 c]).run P w = .ok (.slice am len cap) w := by
  obtain ⟨d, hd⟩ := Option.isSome_iff_exists.1 hs
  obtain ⟨i, hi⟩ := info_of_underlying hd
  cases am <;> cases bm <;> simp [Builtin.append_, run_underlying hu, sizeOf, typeInfo, hi, Builtin.lenOf, hle, Builtin.firstCells, loadCells, loadCellsFrom, storeCells]

theorem run_append_room' (t ty e : TypeId) (i : TypeInfo) (ht : P.underlying t = some (.slice e)) (hi : P.info? e = some i)
    (g o sLen sCap : Nat) (cur : Array Value) (hg : w.heap[g]? = some (.cells cur e (0, 0)))
    (a : Addr) (m c : Nat) (news : List Value) (hl : news.length = m * i.size) (hnews : ∀ (j : Nat) (u : Value), news[j]? = some u → w.cell? (a.add j) = some u) (h1 : ∀ u ∈ news, u.oneCell' = true)
    (hroom : sLen + m ≤ sCap) (hfit : o + sLen * i.size + news.length ≤ cur.size) :
    (Builtin.append_ #[t, t] ty #[.slice (some ⟨g, o, none⟩) sLen sCap, .slice (some a) m c]).run P w =
      .ok (.slice (some ⟨g, o, none⟩) (sLen + m) sCap) (w.setRow g (cur.toList.take (o + sLen * i.size) ++ news ++ cur.toList.drop (o + sLen * i.size + news.length)).toArray) := by
  have hf := run_firstCells_some (P := P) w i.size m a m c news hl hnews
  have hst := run_storeCells_at P g (o + sLen * i.size) e news 0 cur w hg (by simpa using hfit) h1
  simp only [Nat.add_zero] at hst
  have hadd : (⟨g, o, none⟩ : Addr).add (sLen * i.size) = ⟨g, o + sLen * i.size, none⟩ := by unfold Addr.add; split <;> simp_all
  simp [Builtin.append_, run_underlying ht, sizeOf, typeInfo, hi, Builtin.lenOf, hroom, hf, hadd, hst]
end
end Go.Sim
