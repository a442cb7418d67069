/- The abstract operations are the model's: loads, stores, arithmetic, comparisons. -/
import Derived.Test.YtgiiilhdmfddcaaSimC
import Derived.Laws.CopyRow
import Derived.Laws.AppendOwn
import Derived.ChangeKeysEq
set_option linter.unusedVariables false
set_option linter.unusedSimpArgs false
namespace Go.Sim
open Go Go.RowKit

/-- The model's run of an operation against what the abstract one hands on. -/
def Res (P : Program) (base : Nat) (w0 : World) (μ : List Pl) (r : Result Value) (K : AVal → AHeap → Prop) : Prop :=
  ∃ x w' μ' v h', r = .ok x w' ∧ Ext μ μ' ∧ Rel P base w0 μ' h' w' ∧ VR μ' v x ∧ K v h'

theorem isAgg_true {P : Program} {t : TypeId} (h : isAgg P t = true) (w : World) : (Go.isAgg t).run P w = .ok true w := by
  unfold isAgg at h
  unfold Go.isAgg
  split at h
  · rename_i hu; simp [run_underlying hu]
  · rename_i hu; simp [run_underlying hu]
  · cases h
theorem isAgg_false {P : Program} {t : TypeId} (h : isAgg P t = false) (hu : (P.underlying t).isSome = true) (w : World) : (Go.isAgg t).run P w = .ok false w := by
  obtain ⟨d, hd⟩ := Option.isSome_iff_exists.1 hu
  unfold isAgg at h
  rw [hd] at h
  unfold Go.isAgg
  cases d <;> simp_all [run_underlying hd]
theorem isAgg_some {P : Program} {t : TypeId} (h : isAgg P t = true) : (P.underlying t).isSome = true := by
  unfold isAgg at h
  split at h <;> simp_all
theorem leafSh_some {P : Program} {t : TypeId} (hu : (P.underlying t).isSome = false) : leafSh P t = .any := by
  unfold leafSh
  cases h : P.underlying t <;> simp_all
theorem sizeOf_run {P : Program} {t : TypeId} (hu : (P.underlying t).isSome = true) (w : World) : (sizeOf t).run P w = .ok (P.cellsOf t) w := by
  obtain ⟨d, hd⟩ := Option.isSome_iff_exists.1 hu
  obtain ⟨i, hi⟩ := info_of_underlying hd
  exact run_sizeOf w hi

section
variable {P : Program} {base : Nat} {w0 : World} {μ : List Pl} {h : AHeap} {w : World}

theorem load_ok (r : Rel P base w0 μ h w) {t : TypeId} {p : AVal} {x : Value} (hp : VR μ p x) (hu : (P.underlying t).isSome = true) {K : AVal → Prop} (hk : loadA P t h p K) :
    ∃ y v, (Instr.loadAt t x).run P w = .ok y w ∧ VR μ v y ∧ K v := by
  unfold loadA at hk
  split at hk
  · rename_i ha
    unfold xRow at hk
    split at hk
    · rename_i cs hc
      obtain ⟨hl, a, rfl, ys, hys, hcell⟩ := r.row hp hc
      have hload := run_loadCells_list (P := P) w a ys hcell
      rw [← hys.length, hl] at hload
      refine ⟨.agg ys.toArray, .agg cs, ?_, .agg (by simpa using hys), xs_elim (K := fun vs => K (.agg vs)) hk⟩
      simp [Instr.loadAt, Instr.sureAddr, loadVar, isAgg_true ha, sizeOf_run hu, hload]
    · exact hk.elim
  · rename_i ha
    obtain ⟨v, hv, hk⟩ := xv_elim hk
    obtain ⟨a, rfl, y, hy, hc⟩ := r.cell hp hv
    refine ⟨y, v, ?_, hy, hk⟩
    simp [Instr.loadAt, Instr.sureAddr, loadVar, isAgg_false ha hu, hc]

theorem VR.leaf1 {v : AVal} {x : Value} (hv : VR μ v x) (hl : v.leaf = true) : x.oneCell' = true ∧ x.cells = #[x] := by
  cases hv <;> first | (simp [AVal.leaf] at hl; done) | exact ⟨rfl, rfl⟩
theorem VRs.leaf1 : ∀ {vs : List AVal} {xs : List Value}, VRs μ vs xs → vs.all AVal.leaf = true → ∀ x ∈ xs, x.oneCell' = true
  | _, _, .nil, _, x, hx => by simp at hx
  | _, _, .cons a b, hl, x, hx => by
    simp at hl
    rcases List.mem_cons.1 hx with e | e
    · rw [e]; exact (a.leaf1 hl.1).1
    · exact VRs.leaf1 b (by simpa using hl.2) x e
theorem sv_ok {v : AVal} {x : Value} (hv : VR μ v x) {vs : List AVal} (hs : sv v = some vs) : VRs μ vs x.cells.toList ∧ ∀ y ∈ x.cells.toList, y.oneCell' = true := by
  unfold sv at hs
  split at hs
  · split at hs
    · rename_i hall
      cases hs
      cases hv with
      | agg hxs => exact ⟨hxs, hxs.leaf1 hall⟩
    · cases hs
  · split at hs
    · rename_i hl
      cases hs
      have := hv.leaf1 hl
      rw [this.2]
      exact ⟨.cons hv .nil, by simpa using this.1⟩
    · cases hs

theorem VRs.put {cs : List AVal} {xs : List Value} {vs : List AVal} {ys : List Value} (hc : VRs μ cs xs) (hv : VRs μ vs ys) (o : Nat) :
    VRs μ (putRow cs o vs) (xs.take o ++ ys ++ xs.drop (o + ys.length)) := by
  unfold putRow
  rw [hv.length]
  exact ((hc.take o).append hv).append (hc.drop _)

theorem store_ok (r : Rel P base w0 μ h w) {t : TypeId} {p v : AVal} {x y : Value} (hp : VR μ p x) (hv : VR μ v y) (hu : (P.underlying t).isSome = true) {K : AHeap → Prop} (hk : storeA P t h p v K) :
    ∃ w' h', (Instr.storeAt t x y).run P w = .ok () w' ∧ Rel P base w0 μ h' w' ∧ K h' := by
  unfold storeA at hk
  split at hk
  · rename_i vs hs
    obtain ⟨hvs, h1⟩ := sv_ok hv hs
    split at hk
    · rename_i hsz
      have hsz := Nat.eq_of_beq_eq_true hsz
      unfold xHeap at hk
      split at hk
      · rename_i h' hst
        unfold hStore at hst
        split at hst
        · rename_i i o
          split at hst
          · rename_i et cs hi
            split at hst
            · rename_i hle
              cases hst
              cases hp with
              | ptr hmu =>
                rename_i e
                have hobj := r.obj i _ hi e hmu
                obtain ⟨C, el, fr, hg, hcs, hown⟩ := hobj
                simp only [Bool.false_eq_true, if_false] at hown
                obtain ⟨ho1, ho0, rfl, rfl, hn, hcz, hbase⟩ := hown
                have hlen := hvs.length
                have hcl := hcs.length
                have hCl : cs.length ≤ C.size := by simp at hcl; omega
                rw [ho0] at hcs
                simp only [List.drop_zero] at hcs
                have hfit : (e.o + o) + 0 + y.cells.toList.length ≤ C.size := by rw [← hlen, ho0]; omega
                have hst := run_storeCells_at P e.b (e.o + o) el y.cells.toList 0 C w hg hfit h1
                simp only [Nat.add_zero] at hst
                refine ⟨w.setRow e.b (C.toList.take (e.o + o) ++ y.cells.toList ++ C.toList.drop (e.o + o + y.cells.toList.length)).toArray, h.set i (.cells el (putRow cs o vs) false), ?_, ?_, hk⟩
                · have hysz : y.cells.size = P.cellsOf t := by rw [← hsz, hlen]; simp
                  simp [Instr.storeAt, Instr.sureAddr, storeVar, sizeOf_run hu, hysz, hst]
                · refine r.change (o := .cells el cs false) hi rfl hmu ⟨rfl, rfl, rfl, by simp [World.setRow], fun k hk => setRow_other w e.b k _ (by omega)⟩ (fun k hk _ => setRow_other w e.b k _ hk) ?_ (.inl rfl)
                  refine ⟨_, el, (0, 0), setRow_heap w e.b C _ el _ hg, ?_, ?_⟩
                  · have hpl : (putRow cs o vs).length = cs.length := by simp [putRow]; omega
                    rw [hpl, ho0]
                    simp only [List.drop_zero, Nat.zero_add]
                    have := hcs.put hvs o
                    have e2 : ((C.toList.take o ++ y.cells.toList ++ C.toList.drop (o + y.cells.toList.length)).take cs.length) = ((C.toList.take cs.length).take o ++ y.cells.toList ++ (C.toList.take cs.length).drop (o + y.cells.toList.length)) := by
                      apply List.ext_getElem?
                      intro j
                      simp only [List.getElem?_take, List.getElem?_append, List.length_append, List.length_take, List.getElem?_drop, Array.length_toList]
                      have := hlen
                      simp only [Array.length_toList] at this ⊢
                      by_cases h1 : j < cs.length <;> by_cases h2 : j < o <;> simp [h1, h2] <;> (try omega) <;> (repeat' split) <;> (try omega) <;> (try rfl) <;> (try (congr 1; omega))
                    rw [e2]; exact this
                  · simp only [Bool.false_eq_true, if_false]
                    refine ⟨ho1, ho0, trivial, trivial, ?_, hcz, hbase⟩
                    simp only [List.size_toArray, List.length_append, List.length_take, List.length_drop, Array.length_toList] at hfit ⊢
                    omega
            · cases hst
          · cases hst
        · cases hst
      · exact hk.elim
    · exact hk.elim
  · exact hk.elim
end
end Go.Sim
