/- A part of the proof of a statement of this seat: see the text that holds the theorem. No condition. -/
import Derived.Test.YtgiiilhdmfddcaaPTCDraw
import Derived.Test.YtgiiilhdmfddcaaCRow
set_option linter.all false
set_option linter.unusedVariables false
set_option linter.unusedSimpArgs false
set_option maxRecDepth 20000
namespace Go.Sim
open Go Go.RowKit

def eB (b : Nat) : List AVal := [.int .u8 (b : Int)]
theorem eB_len (x : Nat) : (eB x).length = 1 := rfl
/-- A reader of draws: its bytes lie below it. -/
def Rdr (h : AHeap) (i p : Nat) : Prop := ∃ a n c e, ∃ l : List Nat, h[i]? = some (.cells t_spec_l13Rd [.slice a n c e, .int .i64 (p : Int)] false) ∧ Row i h a n (flat eB l) ∧ (∀ b ∈ l, b < 256) ∧ n ≤ 2000
theorem Rdr.agree {h h' : AHeap} {i p : Nat} (r : Rdr h i p) (hh : ∀ j, j ≤ i → h'[j]? = h[j]?) (hl : h.length ≤ h'.length) : Rdr h' i p := by
  obtain ⟨a, n, c, e, l, hi, hr, hb, hn⟩ := r
  exact ⟨a, n, c, e, l, by rw [hh i (Nat.le_refl _)]; exact hi, hr.same ⟨hl, fun j hj => hh j (by omega)⟩, hb, hn⟩
theorem Rdr.lt {h : AHeap} {i p : Nat} (r : Rdr h i p) : i < h.length := by obtain ⟨a, n, c, e, l, hi, _⟩ := r; exact Own.lt hi
theorem Rdr.same {h h' : AHeap} {i p : Nat} (r : Rdr h i p) (s : Same h.length h h') : Rdr h' i p := r.agree (fun j hj => s.eq j (by have := r.lt; omega)) s.le
theorem Rdr.app {h : AHeap} {i p : Nat} (r : Rdr h i p) (l : AHeap) : Rdr (h ++ l) i p := r.same (Same.app (Nat.le_refl _) _)
theorem l13Open_ok {h : AHeap} {a : Pt} {n c : Nat} {e : Bool} {l : List Nat} (r : Row h.length h a n (flat eB l)) (hb : ∀ b ∈ l, b < 256) (hnc : n ≤ c) : SCall pg n_spec_l13Open [.slice a n c e] h fun v h' => v = .ptr (some (h.length, 0)) ∧ Same h.length h h' ∧ Rdr h' h.length 0 ∧ h'.length = h.length + 1 := by
  have hl : l.length = n := by have := r.1; rw [flat_length eB_len] at this; omega
  apply F_spec_l13Open.call
  have fin : ∀ (a : Pt) (n c : Nat) (e : Bool) (l : List Nat), Row h.length h a n (flat eB l) → (∀ b ∈ l, b < 256) → n ≤ 2000 → F_spec_l13Open.J3 (fun v h' => v = .ptr (some (h.length, 0)) ∧ Same h.length h h' ∧ Rdr h' h.length 0 ∧ h'.length = h.length + 1) a n c e h := by
    intro a n c e l r hb hn
    apply F_spec_l13Open.J3i
    simp only [letH_def]
    exact ⟨by trivial, Same.app (Nat.le_refl _) _, ⟨a, n, c, e, l, by simp, r.same (Same.app (Nat.le_refl _) _), hb, hn⟩, by simp⟩
  refine bcase_dec (fun hgt => ?_) (fun hle => fin a n c e l r hb (by omega))
  have hcut : Row h.length h a 2000 (flat eB (l.take 2000)) := by
    obtain ⟨h1, h2⟩ := r
    have hlen : (flat eB (l.take 2000)).length = 2000 := by rw [flat_length eB_len, List.length_take]; omega
    refine ⟨hlen, .inr ?_⟩
    rcases h2 with h0 | ⟨i, o, t, all, ro, ha, hi, hg, hle, hcs⟩
    · omega
    · refine ⟨i, o, t, all, ro, ha, hi, hg, by omega, ?_⟩
      have := flat_tk (enc := eB) eB_len l 2000
      rw [Nat.mul_one] at this
      rw [← this, hcs, List.take_take, Nat.min_eq_left (by omega)]
  obtain ⟨_, h2⟩ := r
  rcases h2 with h0 | ⟨i, o, t, all, ro, ha, hi, hg, hle, hcs⟩
  · omega
  · subst ha
    simp only [sliceSl, optInt]
    refine ⟨by omega, fun hlt => ?_, fun hno => by omega⟩
    simp only [xSl_some]
    have e1 : o + Int.toNat 0 * 1 = o := by simp
    have e2 : ((2000 : Int) - 0).toNat = 2000 := by omega
    rw [e1, e2]
    exact fin _ _ _ _ _ hcut (fun b hb' => hb b (List.mem_of_mem_take hb')) (by omega)
/-- How the reader mixes its bytes: not negative. -/
theorem mix_ok {x : Int} (h0 : 0 ≤ x) (h1 : x < 4611686018427387904) : 0 ≤ IntKind.wrap .i64 ((BitVec.ofInt (IntKind.bits .i64) x ^^^ BitVec.ofInt (IntKind.bits .i64) (IntKind.wrap .i64 (Int.tdiv x 64))).toNat) := by
  obtain ⟨n, rfl⟩ : ∃ n : Nat, x = n := ⟨x.toNat, by omega⟩
  have hd : Int.tdiv (n : Int) 64 = ((n / 64 : Nat) : Int) := by rw [Int.tdiv_eq_ediv_of_nonneg (by omega)]; omega
  rw [hd, IntWalk.i64_in ((n / 64 : Nat) : Int) (by omega)]
  have hx : ((BitVec.ofInt (IntKind.bits .i64) (n : Int)) ^^^ (BitVec.ofInt (IntKind.bits .i64) ((n / 64 : Nat) : Int))).toNat = n ^^^ (n / 64) := by
    rw [BitVec.toNat_xor, BitVec.toNat_ofInt, BitVec.toNat_ofInt]
    have e1 : ((n : Int) % ((2 ^ (IntKind.bits .i64) : Nat) : Int)).toNat = n := by simp only [IntKind.bits]; omega
    have e2 : (((n / 64 : Nat) : Int) % ((2 ^ (IntKind.bits .i64) : Nat) : Int)).toNat = n / 64 := by simp only [IntKind.bits]; omega
    rw [e1, e2]
  rw [hx]
  have hlt : n ^^^ (n / 64) < 2 ^ 62 := Nat.xor_lt_two_pow (by omega) (by omega)
  rw [IntWalk.i64_in _ (by omega)]; omega
theorem tmod_range {x n : Int} (h0 : 0 ≤ x) (hn : 1 ≤ n) : 0 ≤ Int.tmod x n ∧ Int.tmod x n < n := by
  rw [Int.tmod_eq_emod_of_nonneg h0]; exact ⟨Int.emod_nonneg _ (by omega), Int.emod_lt_of_pos _ (by omega)⟩
theorem rdPick_ok {h : AHeap} {i p : Nat} (r : Rdr h i p) (hp : p ≤ 1000000000000) (n : Int) : SCall pg n_spec_l13Rd_pick [.ptr (some (i, 0)), .int .i64 n] h fun v h' =>
    ∃ x, v = .int .i64 x ∧ 0 ≤ x ∧ (1 ≤ n → x < n) ∧ (n < 1 → x = 0) ∧ Keep i h h' ∧ Rdr h' i (p + 1) ∧ h'.length = h.length := by
  obtain ⟨a, m, c, e, l, hi, hr, hb, hm⟩ := r
  have hl : l.length = m := by have := hr.1; rw [flat_length eB_len] at this; omega
  apply F_spec_l13Rd_pick.call
  simp only [xSome_some, hCell_of hi, Nat.zero_add, List.getElem?_cons_zero, List.getElem?_cons_succ, xInt_some]
  rw [IntWalk.i64_in _ (by omega), hStore_of hi (by simp)]
  simp only [xHeap_some]
  generalize hge : h.set i (AObj.cells t_spec_l13Rd (putRow [.slice a m c e, .int .i64 (p : Int)] 1 [.int .i64 ((p : Int) + 1)]) false) = h2
  have h2i : h2[i]? = some (.cells t_spec_l13Rd [.slice a m c e, .int .i64 ((p : Int) + 1)] false) := by rw [← hge, set_get hi]; simp [putRow]
  have hK : Keep i h h2 := by rw [← hge]; exact Keep.set _ _ _
  have h2l : h2.length = h.length := by rw [← hge]; simp
  have hr2 : Row i h2 a m (flat eB l) := hr.same ⟨by omega, fun j hj => by rw [← hge, set_ne (by omega)]⟩
  have hR2 : Rdr h2 i (p + 1) := ⟨a, m, c, e, l, by rw [h2i]; simp, hr2, hb, hm⟩
  refine bcase_dec (fun hlt => ⟨0, rfl, by omega, by omega, fun _ => rfl, hK, hR2, h2l⟩) (fun hge1 => ?_)
  simp only [hCell_of h2i, Nat.zero_add, List.getElem?_cons_zero, xSl_some]
  refine bcase_beq (fun h0 => ⟨0, rfl, by omega, by omega, fun _ => rfl, hK, hR2, h2l⟩) (fun hne => ?_)
  have hm0 : 0 < m := by omega
  have cell : ∀ k, k < m → ∃ ii o, ∃ hk : k < l.length, a = some (ii, o) ∧ hCell h2 (.ptr (some (ii, o + k * 1))) = some (.int .u8 (l[k] : Int)) := by
    intro k hk
    obtain ⟨ii, o, hk', ha, _, hc⟩ := Row.el1 eB_len hr2 hk
    exact ⟨ii, o, hk', ha, hc⟩
  apply F_spec_l13Rd_pick.J4i
  simp only [xSome_some, hCell_of h2i, Nat.zero_add, List.getElem?_cons_zero, List.getElem?_cons_succ, xInt_some, xSl_some]
  rw [show (p : Int) + 1 - 1 = p by omega, IntWalk.i64_in (p : Int) (by omega)]
  refine bcase_dec (fun hlt => ?_) (fun hge2 => ?_)
  · obtain ⟨ii, o, hk, rfl, hc⟩ := cell p (by omega)
    simp only [xSome_some, Int.toNat_natCast, hc, xInt_some]
    have hbb := hb _ (List.getElem_mem hk)
    rw [IntWalk.i64_in _ (by omega)]
    have := tmod_range (x := (l[p] : Int)) (n := n) (by omega) (by omega)
    exact ⟨by omega, by omega, _, rfl, this.1, fun _ => this.2, by omega, hK, hR2, h2l⟩
  · have t1 := tmod_range (x := (p : Int)) (n := (m : Int)) (by omega) (by omega)
    have e1 : Int.tmod (p : Int) (m : Int) = ((p % m : Nat) : Int) := by rw [Int.tmod_eq_emod_of_nonneg (by omega)]; omega
    have e2 : IntKind.wrap .i64 ((p : Int) * 7) = ((p * 7 : Nat) : Int) := by rw [IntWalk.i64_in _ (by omega)]; omega
    have e3 : IntKind.wrap .i64 (((p * 7 : Nat) : Int) + 3) = ((p * 7 + 3 : Nat) : Int) := by rw [IntWalk.i64_in _ (by omega)]; omega
    have e4 : Int.tmod ((p * 7 + 3 : Nat) : Int) (m : Int) = (((p * 7 + 3) % m : Nat) : Int) := by rw [Int.tmod_eq_emod_of_nonneg (by omega)]; omega
    rw [e1, e2, e3, e4]
    obtain ⟨ii, o, hk, rfl, hc⟩ := cell (p % m) (Nat.mod_lt _ hm0)
    obtain ⟨ii', o', hk', ha', hc'⟩ := cell ((p * 7 + 3) % m) (Nat.mod_lt _ hm0)
    obtain ⟨rfl, rfl⟩ : ii = ii' ∧ o = o' := by simpa using ha'
    have b1 := hb _ (List.getElem_mem hk)
    have b2 := hb _ (List.getElem_mem hk')
    have m1 := Nat.mod_lt p hm0
    have m2 := Nat.mod_lt (p * 7 + 3) hm0
    simp only [xSome_some, Int.toNat_natCast, hc, hc', xInt_some]
    refine ⟨by omega, by omega, by omega, by omega, by trivial, by trivial, by trivial, by trivial, by trivial, by trivial, by omega, by omega, by omega, ?_⟩
    have e5 : Int.tdiv (p : Int) (m : Int) = ((p / m : Nat) : Int) := by rw [Int.tdiv_eq_ediv_of_nonneg (by omega)]; omega
    have m3 : p / m ≤ p := Nat.div_le_self _ _
    generalize hA : ((l[p % m] : Nat) : Int) = A
    generalize hB : ((l[(p * 7 + 3) % m] : Nat) : Int) = B
    have hD1 : 0 ≤ ((p / m : Nat) : Int) ∧ ((p / m : Nat) : Int) ≤ (p : Int) := ⟨Int.natCast_nonneg _, Int.ofNat_le.2 m3⟩
    generalize ((p / m : Nat) : Int) = D at e5 hD1
    have hA1 : 0 ≤ A ∧ A < 256 := by omega
    have hB1 : 0 ≤ B ∧ B < 256 := by omega
    rw [e5, IntWalk.i64_in A (by omega), IntWalk.i64_in B (by omega), IntWalk.i64_in (A * 131) (by omega), IntWalk.i64_in (B * 1117) (by omega), IntWalk.i64_in (A * 131 + B * 1117) (by omega), IntWalk.i64_in ((p : Int) * 29) (by omega),
      IntWalk.i64_in (A * 131 + B * 1117 + (p : Int) * 29) (by omega), IntWalk.i64_in D (by omega), IntWalk.i64_in (D * 53) (by omega), IntWalk.i64_in (A * 131 + B * 1117 + (p : Int) * 29 + D * 53) (by omega)]
    have hx := mix_ok (x := A * 131 + B * 1117 + (p : Int) * 29 + D * 53) (by omega) (by omega)
    have := tmod_range hx (by omega : 1 ≤ n)
    exact ⟨_, rfl, this.1, fun _ => this.2, by omega, hK, hR2, h2l⟩
theorem rdNum_ok {h : AHeap} {i p j n c : Nat} {e : Bool} {t : TypeId} {l : List Int} (r : Rdr h i p) (hp : p ≤ 1000000000000) (hj : h[j]? = some (.cells t (flat eI l) false)) (hji : j ≠ i) (hn : l.length = n) (h0 : 1 ≤ n) :
    SCall pg n_spec_l13Rd_num [.ptr (some (i, 0)), .slice (some (j, 0)) n c e] h fun v h' => ∃ x ∈ l, v = .int .i64 x ∧ Keep i h h' ∧ Rdr h' i (p + 1) ∧ h'.length = h.length := by
  apply F_spec_l13Rd_num.call
  refine (rdPick_ok r hp n).mono ?_
  rintro v h2 ⟨x, rfl, h0x, hlt, _, hK, hR, hl⟩
  simp only [xInt_some, xSome_some]
  have hlt := hlt (by omega)
  obtain ⟨k, rfl⟩ : ∃ k : Nat, x = k := ⟨x.toNat, by omega⟩
  have hj2 : h2[j]? = some (.cells t (flat eI l) false) := by rw [hK.eq j (Own.lt hj) hji]; exact hj
  have hrow : Row h2.length h2 (some (j, 0)) n (flat eI l) := ⟨by rw [flat_length eI_len]; omega, .inr ⟨j, 0, t, _, false, rfl, Own.lt hj2, hj2, by rw [flat_length eI_len]; omega, by rw [List.drop_zero, List.take_of_length_le (by rw [flat_length eI_len]; omega)]⟩⟩
  obtain ⟨ii, o, hk, ha, _, hc⟩ := Row.el1 eI_len hrow (k := k) (by omega)
  cases ha
  rw [Int.toNat_natCast, hc]
  simp only [eI, List.getElem?_cons_zero, xInt_some]
  exact ⟨by omega, l[k], List.getElem_mem hk, rfl, hK, hR, hl⟩
theorem Rdr.keep {h h' : AHeap} {i p : Nat} (r : Rdr h i p) (hh : ∀ j, j ≤ i → h'[j]? = h[j]?) (hl : h.length ≤ h'.length) : Rdr h' i p := r.agree hh hl
end Go.Sim
