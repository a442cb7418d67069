/- A part of the proof of a statement of this seat: see the text that holds the theorem. No condition. -/
import Derived.Test.YtgiiilhdmfddcaaCDraw
set_option linter.all false
set_option linter.unusedVariables false
set_option linter.unusedSimpArgs false
set_option maxRecDepth 20000
namespace Go.Sim
open Go Go.RowKit
theorem bytes_of {P : Program} {h : AHeap} {f : Nat} {e : TypeId} (he : P.underlying e = some (.int .u8)) : ∀ (vs : List (List AVal)) (ds : List Dt), ds.length = vs.length → (∀ (i : Nat) (v : List AVal) (x : Dt), vs[i]? = some v → ds[i]? = some x → v.length = P.cellsOf e ∧ rd P h (f + 1) e v x) →
    ∃ l : List Nat, vs.flatten = flat eB l ∧ ∀ z ∈ l, z < 256
  | [], _, _, _ => ⟨[], rfl, by simp⟩
  | v :: vs, [], h, _ => by simp at h
  | v :: vs, d :: ds, hl, hall => by
    obtain ⟨l, hfl, hs⟩ := bytes_of he vs ds (by simpa using hl) fun i v x hv hx => hall (i + 1) v x (by simpa using hv) (by simpa using hx)
    have h0 := (hall 0 v d rfl rfl).2
    simp only [rd, he] at h0
    obtain ⟨z, rfl, _, hw⟩ := h0
    simp [Lit.wf, IntKind.min, IntKind.max, IntKind.signed, IntKind.bits] at hw
    refine ⟨z.toNat :: l, ?_, fun x hx => ?_⟩
    · simp [hfl, eB]; omega
    · rcases List.mem_cons.1 hx with rfl | hx
      · omega
      · exact hs x hx
theorem rd_bytes {P : Program} {h : AHeap} {f : Nat} {t e : TypeId} {cs : List AVal} {d : Dt} (ht : P.underlying t = some (.slice e)) (he : P.underlying e = some (.int .u8)) (hc : P.cellsOf e = 1) (hr : rd P h (f + 2) t cs d) :
    ∃ a n c ex, ∃ l : List Nat, cs = [.slice a n c ex] ∧ Row h.length h a n (flat eB l) ∧ ∀ z ∈ l, z < 256 := by
  unfold rd at hr
  rw [ht] at hr
  obtain ⟨a, n, c, ex, ds, vs, rfl, rfl, hdl, hn, hvl, hrow, hall⟩ := hr
  obtain ⟨l, hfl, hs⟩ := bytes_of (f := f) he vs ds (by omega) hall
  rw [hc, Nat.mul_one, hfl] at hrow
  exact ⟨a, n, c, ex, l, rfl, hrow, hs⟩
end Go.Sim
