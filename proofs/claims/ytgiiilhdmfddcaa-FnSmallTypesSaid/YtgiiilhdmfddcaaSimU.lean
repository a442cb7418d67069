/- From a law's arguments to abstract ones: lists of strings; what was there before a call reads as it did. -/
import Derived.Test.YtgiiilhdmfddcaaSimT
import Derived.Carry
set_option linter.unusedVariables false
set_option linter.all false
set_option linter.unusedSimpArgs false
namespace Go.Sim
open Go Go.RowKit

theorem trodAll_below {H : Type} {enc : TypeId × Value → H} {P : Program} (hl : laidOutB P = true) {W W' : World} (hb : Below W.heap.size W W') : ∀ {ts : List TypeId} {vs : List Value} {ds : List (DataW H)} {ps : List MemPlace},
    (∀ t ∈ ts, P.readableRec t = true ∧ t < P.types.size) → DataW.TrodAll enc P W 0 (fun _ => true) true ts vs ds ps → DataW.TrodAll enc P W' 0 (fun b => decide (b < W.heap.size)) true ts vs ds ps
  | [], [], [], _, _, h => h
  | t :: ts, v :: vs, d :: ds, ps, ht, ⟨p, q, h1, h2, e⟩ => by
    have h1' := h1
    obtain ⟨fuel, hf⟩ := h1'
    exact ⟨p, q, Below.trod hl (ht t (by simp)).1 (ht t (by simp)).2 h1 hb (DataW.trod_lt _ _ _ _ hf), trodAll_below hl hb (fun t' h' => ht t' (by simp [h'])) h2, e⟩
  | [], _ :: _, _, _, _, h => by simp [DataW.TrodAll] at h
  | [], [], _ :: _, _, _, h => by simp [DataW.TrodAll] at h
  | _ :: _, [], _, _, _, h => by simp [DataW.TrodAll] at h
  | _ :: _, _ :: _, [], _, _, h => by simp [DataW.TrodAll] at h

theorem strs_of {P : Program} {h : AHeap} {f : Nat} {e : TypeId} (he : P.underlying e = some .string) : ∀ (vs : List (List AVal)) (ds : List Dt), ds.length = vs.length → (∀ (i : Nat) (v : List AVal) (x : Dt), vs[i]? = some v → ds[i]? = some x → v.length = P.cellsOf e ∧ rd P h (f + 1) e v x) →
    ∃ l, vs.flatten = strs l ∧ ∀ s ∈ l, s.length ≤ 9223372036854775807 ∧ ∀ b ∈ s, b < 256
  | [], _, _, _ => ⟨[], rfl, by simp⟩
  | v :: vs, [], h, _ => by simp at h
  | v :: vs, d :: ds, hl, hall => by
    obtain ⟨l, hfl, hs⟩ := strs_of he vs ds (by simpa using hl) fun i v x hv hx => hall (i + 1) v x (by simpa using hv) (by simpa using hx)
    have h0 := (hall 0 v d rfl rfl).2
    simp only [rd, he] at h0
    obtain ⟨s, rfl, _, h1, h2⟩ := h0
    refine ⟨s :: l, by simp [hfl, strs], fun x hx => ?_⟩
    rcases List.mem_cons.1 hx with rfl | hx
    · exact ⟨h1, h2⟩
    · exact hs x hx
theorem rd_strs {P : Program} {h : AHeap} {f : Nat} {t e : TypeId} {cs : List AVal} {d : Dt} (ht : P.underlying t = some (.slice e)) (he : P.underlying e = some .string) (hc : P.cellsOf e = 1) (hr : rd P h (f + 2) t cs d) :
    ∃ a n c ex l, cs = [.slice a n c ex] ∧ Row h.length h a n (strs l) ∧ n ≤ 9223372036854775807 ∧ ∀ s ∈ l, s.length ≤ 9223372036854775807 ∧ ∀ b ∈ s, b < 256 := by
  unfold rd at hr
  rw [ht] at hr
  obtain ⟨a, n, c, ex, ds, vs, rfl, rfl, hdl, hn, hvl, hrow, hall⟩ := hr
  obtain ⟨l, hfl, hs⟩ := strs_of (f := f) he vs ds (by omega) hall
  rw [hc, Nat.mul_one, hfl] at hrow
  exact ⟨a, n, c, ex, l, rfl, hrow, hn, hs⟩
theorem rd_str {P : Program} {h : AHeap} {f : Nat} {t : TypeId} {cs : List AVal} {d : Dt} (ht : P.underlying t = some .string) (hr : rd P h (f + 1) t cs d) : ∃ s, cs = [.str s] ∧ ∀ b ∈ s, b < 256 := by
  simp only [rd, ht] at hr
  obtain ⟨s, rfl, _, _, hb⟩ := hr
  exact ⟨s, rfl, hb⟩
end Go.Sim
