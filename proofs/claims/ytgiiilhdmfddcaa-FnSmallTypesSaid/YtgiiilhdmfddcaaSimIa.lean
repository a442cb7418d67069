/- More operations on memory: bytes to a string, new rows, the lesser of two numbers. -/
import Derived.Test.YtgiiilhdmfddcaaSimI
import Derived.Laws.BytesString
import Derived.Laws.MakeOwn
import Derived.Laws.Small
set_option linter.unusedVariables false
set_option linter.all false
set_option linter.unusedSimpArgs false
namespace Go.Sim
open Go Go.RowKit

/-- The bytes of a row. -/
def bytesA : List AVal → (List Nat → Prop) → Prop
  | [], K => K []
  | .int k n :: r, K => chk (k = .u8) ((0 ≤ n ∧ n < 256) ∧ bytesA r fun s => K (n.toNat :: s))
  | _ :: _, _ => False
def isU8T (P : Program) (t : TypeId) : Bool := match P.underlying t with | some (.int .u8) => true | _ => false
theorem isU8T_ok {P : Program} {t : TypeId} (h : isU8T P t = true) : P.underlying t = some (.int .u8) := by unfold isU8T at h; split at h <;> simp_all
/-- Bytes to a string. -/
def strA (P : Program) (s d : TypeId) (h : AHeap) (x : AVal) (K : AVal → Prop) : Prop :=
  match P.underlying s with
  | some (.slice e) => chk (isStrT P d = true ∧ isU8T P e = true) (match x with | .slice a n _ _ => xRow (rowOf h a n) fun cs => bytesA cs fun b => K (.str b) | _ => False)
  | _ => False
/-- The lesser of two numbers. -/
def minA (x y : AVal) (K : AVal → Prop) : Prop :=
  match x with
  | .int k a => (match y with | .int k' b => chk (k = k') (K (.int k (if b < a then b else a))) | _ => False)
  | _ => False

section
variable {P : Program} {base : Nat} {w0 : World} {μ : List Pl} {h : AHeap} {w : World}

theorem bytesA_elim : ∀ {cs : List AVal} {K : List Nat → Prop}, bytesA cs K → ∃ ns : List Int, cs = ns.map (.int .u8) ∧ (∀ n ∈ ns, 0 ≤ n ∧ n < 256) ∧ K (ns.map Int.toNat)
  | [], K, hk => ⟨[], rfl, by simp, hk⟩
  | .int k n :: r, K, hk => by
    unfold bytesA at hk
    replace hk := chk_elim hk
    obtain ⟨rfl, hb, hk⟩ := hk
    obtain ⟨ns, rfl, hns, hk⟩ := bytesA_elim hk
    exact ⟨n :: ns, rfl, by simpa using ⟨hb, hns⟩, by simpa using hk⟩
  | .undef :: _, _, hk | .bool _ :: _, _, hk | .str _ :: _, _, hk | .ptr _ :: _, _, hk | .slice .. :: _, _, hk | .map _ :: _, _, hk | .fn .. :: _, _, hk | .nilFn :: _, _, hk | .iter _ :: _, _, hk
  | .agg _ :: _, _, hk | .tup _ :: _, _, hk => by unfold bytesA at hk; exact hk.elim
theorem VRs.u8 : ∀ {ns : List Int} {ys : List Value}, VRs μ (ns.map (.int .u8)) ys → ys = ns.map (Value.int .u8)
  | [], _, .nil => rfl
  | n :: ns, _, .cons a b => by cases a; rw [VRs.u8 b]; rfl
theorem bytesOf_fold : ∀ (ns : List Int) (s : ByteArray), (∀ n ∈ ns, 0 ≤ n ∧ n < 256) → bytesOf (ns.foldl (fun r n => r.push (UInt8.ofNat n.toNat)) s) = bytesOf s ++ ns.map Int.toNat
  | [], s, _ => by simp
  | n :: ns, s, h => by
    have hn := h n (by simp)
    rw [List.foldl_cons, bytesOf_fold ns _ fun m hm => h m (by simp [hm])]
    have : n.toNat < 256 := by omega
    simp [bytesOf, ByteArray.push, Nat.mod_eq_of_lt this]
theorem strA_ok (r : Rel P base w0 μ h w) {s d : TypeId} {a : AVal} {x : Value} (ha : VR μ a x) {K : AVal → AHeap → Prop} (hk : strA P s d h a fun v => K v h) : Res P base w0 μ ((convert s d x).run P w) K := by
  unfold strA at hk
  split at hk
  · rename_i e hu
    replace hk := chk_elim hk
    obtain ⟨⟨hd, he⟩, hk⟩ := hk
    have hd := isStrT_ok hd
    have he := isU8T_ok he
    split at hk
    · rename_i sa n sc se
      obtain ⟨cs, hcs, hk1⟩ := xRow_elim hk
      clear hk
      obtain ⟨hl, am, capm, rfl, hsrc⟩ := rowOf_ok r ha hcs
      obtain ⟨ns, rfl, hns, hk⟩ := bytesA_elim hk1
      clear hk1
      have hlen : ns.length = n := by simpa using hl
      have fin : ∀ b : ByteArray, (convert s d (.slice am n capm)).run P w = .ok (.string b) w → bytesOf b = ns.map Int.toNat → Res P base w0 μ ((convert s d (.slice am n capm)).run P w) K := by
        intro b hr hb
        rw [hr]
        refine ⟨_, w, μ, .str (bytesOf b), h, rfl, Ext.refl _, r, .str b, ?_⟩
        rw [hb]; exact hk
      have hb0 : bytesOf (ns.foldl (fun r n => r.push (UInt8.ofNat n.toNat)) ByteArray.empty) = ns.map Int.toNat := by
        rw [bytesOf_fold ns _ hns]; simp [bytesOf]
      have hc := run_convert_bytes_string (P := P) w s d e am n capm hu he hd
      rcases hsrc with h0 | ⟨q, rfl, ys, hys, hcell⟩
      · have hn0 : ns = [] := List.eq_nil_of_length_eq_zero (by omega)
        subst hn0
        simp only [List.length_nil] at hlen
        subst hlen
        refine fin ByteArray.empty ?_ (by simp [bytesOf])
        rw [hc]
        cases am <;> simp [Conv.bytesToString, loadCells, loadCellsFrom]
      · have hy := hys.u8
        subst hy
        have hload := run_loadCells_list (P := P) w q (ns.map (Value.int .u8)) hcell
        simp only [List.length_map, hlen] at hload
        exact fin _ (by rw [hc, run_bytesToString w q n capm ns hload]) hb0
    · exact hk.elim
  · exact hk.elim

theorem makeSlice_ok (r : Rel P base w0 μ h w) {t : TypeId} {a b : AVal} {x y : Value} (ha : VR μ a x) (hb : VR μ b y) {K : AVal → AHeap → Prop} (hk : makeSliceA P t a b h K) : Res P base w0 μ ((Instr.makeSlice t x y).run P w) K := by
  unfold makeSliceA at hk
  split at hk
  · rename_i e hu
    obtain ⟨z, hz, hk1⟩ := xRow_elim hk
    clear hk
    have hk2 := chk_elim hk1
    clear hk1
    obtain ⟨⟨hs, hzl, hpos⟩, hk⟩ := hk2
    obtain ⟨i, v, hi, hv, hvs, hzr⟩ := zero_ok (μ := μ) hz
    unfold xInt at hk
    split at hk
    · rename_i kl l hl
      cases hl
      obtain ⟨rfl, hk⟩ := hk
      split at hk
      · rename_i kc c hc
        cases hc
        obtain ⟨rfl, ⟨h0, hlc, hbound⟩, hk⟩ := hk
        cases ha; cases hb
        have hbytes : i.bytes = P.bytesOf e := by simp [Program.bytesOf, hi]
        have hm : 0 ≤ c * (P.bytesOf e : Int) := Int.mul_nonneg (by omega) (by omega)
        have hexp : c * ((P.bytesOf e : Int) + 1) = c * (P.bytesOf e : Int) + c := by rw [Int.mul_add, Int.mul_one]
        have hb1 : (i.bytes : Int) * c ≤ 281474976710656 := by rw [hbytes, Int.mul_comm]; omega
        have hrun := run_make w t e i v hu hi hv .i64 .i64 l c h0 hlc hb1 (by omega)
        have hcl := hvs.length
        simp only [Array.length_toList] at hcl
        have hsz : i.size = v.cells.size := by rw [← hcl, hzl]; simp [Program.cellsOf, hi]
        have hC : VRs μ (Sim.reps c.toNat z) (madeCells v.cells (c.toNat * i.size)).toList := by
          unfold madeCells
          rw [hsz, reps_get c.toNat v.cells (by omega)]; exact hvs.reps _
        have hCl := hC.length
        have hrel := r.newRow0 (t := e) (C := madeCells v.cells (c.toNat * i.size)) (cs := Sim.reps c.toNat z) (by rw [hCl, List.take_length]; exact hC)
        rw [hrun]
        refine ⟨_, _, _, _, _, rfl, Ext.app _ _, hrel, ?_, hk⟩
        refine .slice (e := ⟨w.heap.size, 0, true, _, P.cellsOf e⟩) (o := 0) (r.last _) (by omega) (Nat.le_refl _) (fun _ => rfl) (fun _ _ => ?_)
        have : i.size = P.cellsOf e := by simp [Program.cellsOf, hi]
        simp [madeCells, this]
      · exact hk.elim
    · exact hk.elim
  · exact hk.elim
theorem min_ok {ts : Array TypeId} {t : TypeId} {a b : AVal} {x y : Value} (ha : VR μ a x) (hb : VR μ b y) {K : AVal → Prop} (hk : minA a b K) : ∃ v z, (∀ w, (Builtin.min_ ts t #[x, y]).run P w = .ok z w) ∧ VR μ v z ∧ K v := by
  unfold minA at hk
  split at hk
  · split at hk
    · replace hk := chk_elim hk
      obtain ⟨rfl, hk⟩ := hk
      cases ha; cases hb
      exact ⟨_, _, fun w => run_min_int2 w ts t _ _ _ _, .int _ _, hk⟩
    · exact hk.elim
  · exact hk.elim
end
end Go.Sim
