/- A part of the proof of a statement of this seat: see the text that holds the theorem. No condition. -/
import Derived.Test.YtgiiilhdmfddcaaPTC3
import Derived.Test.YtgiiilhdmfddcaaC2
set_option linter.unusedSimpArgs false
set_option linter.all false
set_option linter.unusedVariables false
namespace Go.Sim
open Go Go.RowKit
section
variable (Q : QT)
theorem types_L8 (R5 : F_spec_l11Types.T7) (x0 : Int) {x : List Nat} (a17 : Pt) (n17 c17 : Nat) (e17 : Bool) (x18 x19 : Int) {a25 : Pt} {n25 : Nat} (c25 : Nat) (e25 : Bool) {T base : List (List Nat)} {h0 : AHeap} {i0 : Nat} {a3 : Pt} {n3 c3 : Nat} {e3 : Bool}
    (ho : Out t_string h0 i0 h0 a3 n3 (strs base)) (ht : Row h0.length h0 a25 n25 (strs T)) (hne : n25 ≠ 0 → ∀ j o, a25 = some (j, o) → j ≠ i0) (hx : x.length ≤ 1000) (hT : small T = true) (hb : base.length ≤ 10000000)
    (hk : ∀ a' n' c' e' h', Out t_string h0 i0 h' a' n' (strs (base ++ hd x T)) → R5 x0 a' n' c' e' a17 n17 c17 e17 x18 (IntKind.wrap .i64 (x19 + 1)) h') :
    F_spec_l11Types.L10 Q R5 x0 a3 n3 c3 e3 x a17 n17 c17 e17 x18 x19 a25 n25 c25 e25 n25 0 h0 := by
  have hTl : T.length = n25 := by simpa using ht.1
  have hT1 := small_len hT
  refine F_spec_l11Types.L10ind Q R5 _ _ _ _ _ _ _ _ _ _ _ _ _ (J := fun (g : Nat) a n c e x27 h => x27 = (g : Int) ∧ g ≤ n25 ∧ Out t_string h0 i0 h a n (strs (base ++ hd x (T.take g)))) (fun g => n25 - g) ?_ 0 a3 n3 c3 e3 0 h0 ⟨rfl, by omega, by simpa [hd] using ho⟩
  rintro g a n c e x27 h ⟨rfl, hg, hO⟩ R hR
  unfold F_spec_l11Types.L10t
  refine bcase_dec (fun hlt => ?_) (fun hge => ?_)
  · have hlt' : g < n25 := by omega
    obtain ⟨i, o, hgl, rfl, hi, hc⟩ := (ht.keep hne hO.keep).str hlt'
    have hs := small_get hT hgl
    simp only [xSome_some, Int.toNat_natCast, Nat.mul_one, hc, xStr_some, letH_def, List.length_append, List.length_cons, List.length_nil]
    refine ⟨by omega, by omega, by omega, by omega, hO.push u22 c9 k9 (by rw [b9]; omega) rfl ?_ fun a' n' h' hO' => ?_⟩
    · have := hO.len
      simp [hd] at this
      omega
    · simp only [xSl_some]
      rw [wrap_succ hlt' (by omega)]
      refine hR (g + 1) _ _ _ _ _ _ (by omega) ⟨rfl, by omega, ?_⟩
      rw [strs_one] at hO'
      have : base ++ hd x (T.take (g + 1)) = base ++ hd x (T.take g) ++ [x ++ [40] ++ T[g] ++ [41]] := by
        rw [List.take_succ_eq_append_getElem (by omega)]; simp only [hd, List.map_append, List.map_cons, List.map_nil, List.append_assoc]
      rw [this]; exact hO'
  · have : g = n25 := by omega
    subst this
    refine F_spec_l11Types.A10x2i _ _ _ _ _ _ _ _ _ _ _ _ _ _ (hk _ _ _ _ _ ?_)
    rw [List.take_of_length_le (by omega)] at hO
    exact hO

theorem types_L5 {x0 : Int} {m : Nat} (hx0 : IntKind.wrap .i64 (x0 - 1) = (m : Int)) (hm : 1 ≤ m ∧ m ≤ 3) (hrec : ∀ h, SCall pg n_spec_l11Types [.int .i64 m] h fun v h' => ∃ a n c e, v = .slice a n c e ∧ Same h.length h h' ∧ Fresh h.length h' a n t_string (strs (szd m)))
    {a17 : Pt} {n17 : Nat} (c17 : Nat) (e17 : Bool) {H : List (List Nat)} {h0 : AHeap} {i0 : Nat} {a3 : Pt} {n3 c3 : Nat} {e3 : Bool}
    (ho : Out t_string h0 i0 h0 a3 n3 (strs [])) (ht : Row h0.length h0 a17 n17 (strs H)) (hne : n17 ≠ 0 → ∀ j o, a17 = some (j, o) → j ≠ i0) (hH : small H = true) (hH2 : H.length ≤ 2)
    (hk : ∀ a' n' c' e' h', Out t_string h0 i0 h' a' n' (strs (H.flatMap fun x => hd x (szd m))) → F_spec_l11Types.L16 Q x0 a' n' c' e' 1 h') :
    F_spec_l11Types.L7 Q x0 a3 n3 c3 e3 a17 n17 c17 e17 n17 0 h0 := by
  have hHl : H.length = n17 := by simpa using ht.1
  have hsm := szd_small (n := m) (by omega) (by omega)
  refine F_spec_l11Types.L7ind Q _ _ _ _ _ _ (J := fun (g : Nat) a n c e x19 h => x19 = (g : Int) ∧ g ≤ n17 ∧ Out t_string h0 i0 h a n (strs ((H.take g).flatMap fun x => hd x (szd m)))) (fun g => n17 - g) ?_ 0 a3 n3 c3 e3 0 h0 ⟨rfl, by omega, by simpa using ho⟩
  rintro g a n c e x27 h ⟨rfl, hg, hO⟩ R hR
  unfold F_spec_l11Types.L7t
  refine bcase_dec (fun hlt => ?_) (fun hge => ?_)
  · have hlt' : g < n17 := by omega
    obtain ⟨i, o, hgl, rfl, hi, hc⟩ := (ht.keep hne hO.keep).str hlt'
    have hs := small_get hH hgl
    simp only [xSome_some, Int.toNat_natCast, Nat.mul_one, hc, xStr_some, hx0]
    refine ⟨by omega, (hrec h).mono fun v h1 ⟨ar, nr, cr, er, hv, hs1, hf⟩ => ?_⟩
    subst hv
    simp only [xSl_some]
    have hO1 := hO.call hs1
    obtain ⟨i1, hi1, hlt1, hh⟩ := hO1.here
    have hi2 : i1 < h.length := by
      obtain ⟨j, hj, hjl, _⟩ := hO.id
      rw [hi1] at hj; cases hj; exact hjl
    have hlen : (((H.take g).flatMap fun x => hd x (szd m))).length ≤ 10000000 := by
      have h1 := small_len hsm
      have : g ≤ 1 := by omega
      obtain rfl | rfl : g = 0 ∨ g = 1 := by omega
      · simp
      · match H, hH2 with
        | [], _ => simp
        | x :: _, _ => simp [hd]; omega
    refine types_L8 Q R x0 _ _ _ _ _ _ cr er hh hf.row (hf.apart hi2) hs hsm hlen fun a' n' c' e' h' hO' => ?_
    rw [wrap_succ hlt' (by omega)]
    refine hR (g + 1) _ _ _ _ _ _ (by omega) ⟨rfl, by omega, ?_⟩
    rw [flat_take _ _ hgl]
    exact hO1.trans hi1 hO'
  · have : g = n17 := by omega
    subst this
    refine F_spec_l11Types.A7x0i _ _ _ _ _ _ _ (hk _ _ _ _ _ ?_)
    rw [List.take_of_length_le (by omega)] at hO
    exact hO
theorem types_L20 (R14 : F_spec_l11Types.T16) (R17 : F_spec_l11Types.T19) (x0 x8 : Int) {x : List Nat} (a17 : Pt) (n17 c17 : Nat) (e17 : Bool) (x18 x19 : Int) {a25 : Pt} {n25 : Nat} (c25 : Nat) (e25 : Bool) {T base : List (List Nat)} {h0 : AHeap} {i0 : Nat} {a3 : Pt} {n3 c3 : Nat} {e3 : Bool}
    (ho : Out t_string h0 i0 h0 a3 n3 (strs base)) (ht : Row h0.length h0 a25 n25 (strs T)) (hne : n25 ≠ 0 → ∀ j o, a25 = some (j, o) → j ≠ i0) (hx : x.length ≤ 1000) (hT : small T = true) (hb : base.length ≤ 10000000)
    (hk : ∀ a' n' c' e' h', Out t_string h0 i0 h' a' n' (strs (base ++ pr x T)) → R17 x0 a' n' c' e' x8 a17 n17 c17 e17 x18 (IntKind.wrap .i64 (x19 + 1)) h') :
    F_spec_l11Types.L22 Q R14 R17 x0 a3 n3 c3 e3 x8 x a17 n17 c17 e17 x18 x19 a25 n25 c25 e25 n25 0 h0 := by
  have hTl : T.length = n25 := by simpa using ht.1
  have hT1 := small_len hT
  refine F_spec_l11Types.L22ind Q R14 R17 _ _ _ _ _ _ _ _ _ _ _ _ _ _ (J := fun (g : Nat) a n c e x27 h => x27 = (g : Int) ∧ g ≤ n25 ∧ Out t_string h0 i0 h a n (strs (base ++ pr x (T.take g)))) (fun g => n25 - g) ?_ 0 a3 n3 c3 e3 0 h0 ⟨rfl, by omega, by simpa [pr] using ho⟩
  rintro g a n c e x27 h ⟨rfl, hg, hO⟩ R hR
  unfold F_spec_l11Types.L22t
  refine bcase_dec (fun hlt => ?_) (fun hge => ?_)
  · have hlt' : g < n25 := by omega
    obtain ⟨i, o, hgl, rfl, hi, hc⟩ := (ht.keep hne hO.keep).str hlt'
    have hs := small_get hT hgl
    simp only [xSome_some, Int.toNat_natCast, Nat.mul_one, hc, xStr_some, letH_def, List.length_append, List.length_cons, List.length_nil]
    refine ⟨by omega, by omega, by omega, by omega, by omega, hO.push u22 c9 k9 (by rw [b9]; omega) rfl ?_ fun a' n' h' hO' => ?_⟩
    · have := hO.len
      simp [pr] at this
      omega
    · simp only [xSl_some]
      rw [wrap_succ hlt' (by omega)]
      refine hR (g + 1) _ _ _ _ _ _ (by omega) ⟨rfl, by omega, ?_⟩
      rw [strs_one] at hO'
      have : base ++ pr x (T.take (g + 1)) = base ++ pr x (T.take g) ++ [[112, 40] ++ x ++ [44] ++ T[g] ++ [41]] := by
        rw [List.take_succ_eq_append_getElem (by omega)]; simp only [pr, List.map_append, List.map_cons, List.map_nil, List.append_assoc]
      rw [this]; exact hO'
  · have : g = n25 := by omega
    subst this
    refine F_spec_l11Types.A22x8i _ _ _ _ _ _ _ _ _ _ _ _ _ _ _ _ (hk _ _ _ _ _ ?_)
    rw [List.take_of_length_le (by omega)] at hO
    exact hO


theorem types_L17 {R14 : F_spec_l11Types.T16} {x0 x8 : Int} {m k : Nat} (hx0 : IntKind.wrap .i64 (IntKind.wrap .i64 (x0 - 1) - x8) = (m : Int)) (hm : 1 ≤ m ∧ m ≤ 3) (hk1 : 1 ≤ k ∧ k ≤ 3) (hrec : ∀ h, SCall pg n_spec_l11Types [.int .i64 m] h fun v h' => ∃ a n c e, v = .slice a n c e ∧ Same h.length h h' ∧ Fresh h.length h' a n t_string (strs (szd m)))
    {a17 : Pt} {n17 : Nat} (c17 : Nat) (e17 : Bool) {base : List (List Nat)} {h0 : AHeap} {i0 : Nat} {a3 : Pt} {n3 c3 : Nat} {e3 : Bool}
    (ho : Out t_string h0 i0 h0 a3 n3 (strs base)) (ht : Row h0.length h0 a17 n17 (strs (szd k))) (hne : n17 ≠ 0 → ∀ j o, a17 = some (j, o) → j ≠ i0) (hbase : base.length ≤ 5000000)
    (hk : ∀ a' n' c' e' h', Out t_string h0 i0 h' a' n' (strs (base ++ (szd k).flatMap fun x => pr x (szd m))) → R14 x0 a' n' c' e' (IntKind.wrap .i64 (x8 + 1)) h') :
    F_spec_l11Types.L19 Q R14 x0 a3 n3 c3 e3 x8 a17 n17 c17 e17 n17 0 h0 := by
  have hHl : (szd k).length = n17 := by simpa using ht.1
  have hsm := szd_small (n := m) (by omega) (by omega)
  have hH := szd_small (n := k) (by omega) (by omega)
  have hn17 := small_len hH
  refine F_spec_l11Types.L19ind Q _ _ _ _ _ _ _ _ (J := fun (g : Nat) a n c e x19 h => x19 = (g : Int) ∧ g ≤ n17 ∧ Out t_string h0 i0 h a n (strs (base ++ ((szd k).take g).flatMap fun x => pr x (szd m)))) (fun g => n17 - g) ?_ 0 a3 n3 c3 e3 0 h0 ⟨rfl, by omega, by simpa using ho⟩
  rintro g a n c e x27 h ⟨rfl, hg, hO⟩ R hR
  unfold F_spec_l11Types.L19t
  refine bcase_dec (fun hlt => ?_) (fun hge => ?_)
  · have hlt' : g < n17 := by omega
    obtain ⟨i, o, hgl, rfl, hi, hc⟩ := (ht.keep hne hO.keep).str hlt'
    have hs := small_get hH hgl
    simp only [xSome_some, Int.toNat_natCast, Nat.mul_one, hc, xStr_some, hx0]
    refine ⟨by omega, (hrec h).mono fun v h1 ⟨ar, nr, cr, er, hv, hs1, hf⟩ => ?_⟩
    subst hv
    simp only [xSl_some]
    have hO1 := hO.call hs1
    obtain ⟨i1, hi1, hlt1, hh⟩ := hO1.here
    have hi2 : i1 < h.length := by
      obtain ⟨j, hj, hjl, _⟩ := hO.id
      rw [hi1] at hj; cases hj; exact hjl
    have hl := flat_le (fun x => pr x (szd m)) (m := 1000) (fun x => by simpa [pr] using small_len hsm) ((szd k).take g)
    have hl2 : ((szd k).take g).length * 1000 ≤ 1000 * 1000 := Nat.mul_le_mul_right _ (by simp; omega)
    refine types_L20 Q R14 R x0 _ _ _ _ _ _ _ cr er hh hf.row (hf.apart hi2) hs hsm (by simp only [List.length_append]; omega) fun a' n' c' e' h' hO' => ?_
    rw [wrap_succ hlt' (by omega)]
    refine hR (g + 1) _ _ _ _ _ _ (by omega) ⟨rfl, by omega, ?_⟩
    rw [flat_take _ _ hgl, ← List.append_assoc]
    exact hO1.trans hi1 hO'
  · have : g = n17 := by omega
    subst this
    refine F_spec_l11Types.A19x6i _ _ _ _ _ _ _ _ _ (hk _ _ _ _ _ ?_)
    rw [List.take_of_length_le (by omega)] at hO
    exact hO

theorem types_L14 {n : Nat} (hn : 2 ≤ n ∧ n ≤ 4) (hrec : ∀ m, 1 ≤ m → m < n → ∀ h, SCall pg n_spec_l11Types [.int .i64 m] h fun v h' => ∃ a n c e, v = .slice a n c e ∧ Same h.length h h' ∧ Fresh h.length h' a n t_string (strs (szd m)))
    {base : List (List Nat)} {h0 : AHeap} {i0 : Nat} {a3 : Pt} {n3 c3 : Nat} {e3 : Bool} (ho : Out t_string h0 i0 h0 a3 n3 (strs base)) (hbase : base.length ≤ 2000)
    (hk : ∀ a' n' c' e' h', Out t_string h0 i0 h' a' n' (strs (base ++ (List.range (n - 2)).flatMap fun j => (szd (j + 1)).flatMap fun s => pr s (szd (n - 2 - j)))) → Q (.slice a' n' c' e') h') :
    F_spec_l11Types.L16 Q n a3 n3 c3 e3 1 h0 := by
  have hw : IntKind.wrap .i64 ((n : Int) - 1) = ((n - 1 : Nat) : Int) := by rw [IntWalk.i64_in _ (by omega)]; omega
  refine F_spec_l11Types.L16ind Q _ (J := fun (g : Nat) a m c e x8 h => x8 = ((g + 1 : Nat) : Int) ∧ g ≤ n - 2 ∧ Out t_string h0 i0 h a m (strs (base ++ (List.range g).flatMap fun j => (szd (j + 1)).flatMap fun s => pr s (szd (n - 2 - j))))) (fun g => n - 2 - g) ?_ 0 a3 n3 c3 e3 1 h0 ⟨rfl, by omega, by simpa using ho⟩
  rintro g a m c e x8 h ⟨rfl, hg, hO⟩ R hR
  unfold F_spec_l11Types.L16t
  rw [hw]
  refine bcase_dec (fun hlt => ?_) (fun hge => ?_)
  · have hlt' : g < n - 2 := by omega
    refine (hrec (g + 1) (by omega) (by omega) h).mono fun v h1 ⟨ar, nr, cr, er, hv, hs1, hf⟩ => ?_
    subst hv
    simp only [xSl_some]
    have hO1 := hO.call hs1
    obtain ⟨i1, hi1, hlt1, hh⟩ := hO1.here
    have hi2 : i1 < h.length := by
      obtain ⟨j, hj, hjl, _⟩ := hO.id
      rw [hi1] at hj; cases hj; exact hjl
    have hw2 : IntKind.wrap .i64 (IntKind.wrap .i64 ((n : Int) - 1) - ((g + 1 : Nat) : Int)) = ((n - 2 - g : Nat) : Int) := by rw [hw, IntWalk.i64_in _ (by omega)]; omega
    have hl : (base ++ (List.range g).flatMap fun j => (szd (j + 1)).flatMap fun s => pr s (szd (n - 2 - j))).length ≤ 5000000 := by
      have hg1 : g ≤ 1 := by omega
      obtain rfl | rfl : g = 0 ∨ g = 1 := by omega
      · simp; omega
      · have h1 := small_len (szd_small (n := n - 2 - 0) (by omega) (by omega))
        have h3 := small_len (szd_small (n := 0 + 1) (by omega) (by omega))
        have h2 := flat_le (fun x => pr x (szd (n - 2 - 0))) (m := 1000) (fun x => by simpa [pr] using h1) (szd (0 + 1))
        have h4 : (szd (0 + 1)).length * 1000 ≤ 1000 * 1000 := Nat.mul_le_mul_right _ h3
        simp only [List.range_one, List.flatMap_cons, List.flatMap_nil, List.append_nil, List.length_append]; omega
    refine types_L17 Q hw2 (by omega) (k := g + 1) (by omega) (hrec (n - 2 - g) (by omega) (by omega)) cr er hh hf.row (hf.apart hi2) hl fun a' n' c' e' h' hO' => ?_
    have hw3 : IntKind.wrap .i64 (((g + 1 : Nat) : Int) + 1) = ((g + 1 + 1 : Nat) : Int) := by rw [IntWalk.i64_in _ (by omega)]; omega
    rw [hw3]
    refine hR (g + 1) _ _ _ _ _ _ (by omega) ⟨rfl, by omega, ?_⟩
    rw [flat_range, ← List.append_assoc]
    exact hO1.trans hi1 hO'
  · have : g = n - 2 := by omega
    subst this
    exact F_spec_l11Types.A16x4i _ _ _ _ _ _ (hk _ _ _ _ _ hO)
end
theorem types_ok (n : Nat) (h1 : 1 ≤ n) (h4 : n ≤ 4) (h : AHeap) : SCall pg n_spec_l11Types [.int .i64 n] h fun v h' => ∃ a m c e, v = .slice a m c e ∧ Same h.length h h' ∧ Fresh h.length h' a m t_string (strs (szd n)) := by
  induction n using Nat.strongRecOn generalizing h with
  | _ n ih =>
  apply F_spec_l11Types.call
  by_cases hn : n = 1
  · subst hn
    have e1 : (((1 : Nat) : Int) == 1) = true := rfl
    have e2 : decide ((((1 : Nat) : Int)) < 1) = false := rfl
    simp only [e1, e2, bcase_true, bcase_false, letH_def]
    exact ⟨_, _, _, _, rfl, (Same.app (Nat.le_refl _) _).trans (Same.app (by simp) _), rfl, .inr (Own.last (by simp))⟩
  · have : ((n : Int) == 1) = false := by simp; omega
    have h2 : decide ((n : Int) < 1) = false := by simp; omega
    simp only [this, h2, bcase_false, letH_def]
    have hrec : ∀ m, 1 ≤ m → m < n → ∀ h, SCall pg n_spec_l11Types [.int .i64 m] h fun v h' => ∃ a n c e, v = .slice a n c e ∧ Same h.length h h' ∧ Fresh h.length h' a n t_string (strs (szd m)) := fun m hm hlt h => ih m hlt hm (by omega) h
    have hO : Out t_string (h ++ [.cells t_string [] false] ++ [.cells t_string [.str [108], .str [109]] false]) h.length (h ++ [.cells t_string [] false] ++ [.cells t_string [.str [108], .str [109]] false]) (some (h.length, 0)) 0 (strs []) := Out.refl (by simp)
    refine types_L5 _ (m := n - 1) (by rw [IntWalk.i64_in _ (by omega)]; omega) (by omega) (hrec (n - 1) (by omega) (by omega)) (H := [[108], [109]]) 2 true hO ?_ ?_ (by decide) (by simp) fun a' n' c' e' h' hO' => ?_
    · exact (Own.last (cs := strs [[108], [109]]) (b := 0) (by omega)).row
    · intro _ j o hj; cases hj; simp
    · refine types_L14 _ ⟨by omega, h4⟩ hrec (hO'.here.choose_spec.2.2) ?_ fun a'' n'' c'' e'' h'' hO'' => ?_
      · have := small_len (szd_small (n := n - 1) (by omega) (by omega)); simp [hd]; omega
      · obtain ⟨i, hi, _, _⟩ := hO'.here
        have hf := hO'.trans hO'.here.choose_spec.1 hO''
        refine ⟨_, _, _, _, rfl, ?_, ?_⟩
        · exact (Same.app (Nat.le_refl _) _).trans ((Same.app (by simp) _).trans (hf.keep.same (Nat.le_refl _) (by simp)))
        · rw [szd_step (by omega) h4]
          have := hf.fresh (b := h.length) (Nat.le_refl _) (by simp)
          simpa using this

def smalls (n : Nat) : List (List Nat) := (List.range n).flatMap fun k => szd (k + 1)
theorem smalls_succ (n : Nat) : smalls (n + 1) = smalls n ++ szd (n + 1) := flat_range _ _
theorem smalls_len {n : Nat} (h : n ≤ 4) : (smalls n).length ≤ 10000 := by
  obtain rfl | rfl | rfl | rfl | rfl : n = 0 ∨ n = 1 ∨ n = 2 ∨ n = 3 ∨ n = 4 := by omega
  all_goals decide +kernel

/-- The small types of the reference. -/
theorem l11Small_ok (n : Nat) (h4 : n ≤ 4) (h : AHeap) : SCall pg n_spec_l11Small [.int .i64 n] h fun v h' => ∃ a m c e, v = .slice a m c e ∧ Same h.length h h' ∧ Fresh h.length h' a m t_string (strs (smalls n)) := by
  apply F_spec_l11Small.call
  simp only [letH_def]
  refine F_spec_l11Small.L3ind _ _ (J := fun (g : Nat) a m c e x7 h' => x7 = (g : Int) ∧ g ≤ n ∧ Out t_string (h ++ [.cells t_string [] false]) h.length h' a m (strs (smalls g))) (fun g => n - g) ?_ 0 _ _ _ _ _ _ ⟨rfl, by omega, Out.new (cs := [])⟩
  rintro g a m c e x7 h' ⟨rfl, hg, hO⟩ R hR
  unfold F_spec_l11Small.L3t
  refine bcase_dec (fun hlt => ?_) (fun hge => ?_)
  · have hlt' : g < n := by omega
    rw [wrap_succ hlt' (by omega)]
    refine (types_ok (g + 1) (by omega) (by omega) h').mono fun v h1 ⟨ar, nr, cr, er, hv, hs1, hf⟩ => ?_
    subst hv
    simp only [xSl_some]
    have hl := hO.len
    have h1 := smalls_len (n := g) (by omega)
    have h2 := small_len (szd_small (n := g + 1) (by omega) (by omega))
    have h3 := hf.1
    simp only [strs_length] at hl h3
    refine (hO.call hs1).append u22 c9 k9 (by rw [b9]; omega) hf.row.rowOf (strs_leaf _) (by omega) fun a' n' h'' hO' => ?_
    simp only [xSl_some]
    refine hR (g + 1) _ _ _ _ _ _ (by omega) ⟨rfl, by omega, ?_⟩
    rw [smalls_succ, strs_append]; exact hO'
  · have : g = n := by omega
    subst this
    refine F_spec_l11Small.A3x0i _ _ _ _ _ _ ⟨_, _, _, _, rfl, (Same.app (Nat.le_refl _) _).trans (hO.keep.same (Nat.le_refl _) (by simp)), hO.fresh (Nat.le_refl _) (by simp)⟩

def isSmall (n : Int) : Bool := decide (1 ≤ n ∧ n ≤ 4)
def smallList (n : Int) : List (List Nat) := if 1 ≤ n ∧ n ≤ 4 then smalls n.toNat else []
/-- The small types of the program. -/
theorem smallTypes_cap (n : Int) (h : AHeap) : SCall pg n_impl_SmallTypes [.int .i64 n] h fun v h' => ∃ a m c e, v = .tup [.slice a m c e, .bool (isSmall n)] ∧ Same h.length h h' ∧ Fresh h.length h' a m t_string (strs (smallList n)) ∧ m ≤ c := by
  unfold isSmall smallList
  apply F_impl_SmallTypes.call
  refine bcase_dec (fun h1 => ?_) (fun h1 => bcase_dec (fun h4 => ?_) (fun h4 => ?_))
  · have : ¬ (1 ≤ n ∧ n ≤ 4) := by omega
    exact ⟨none, 0, 0, true, by simp [this], Same.refl _ _, by simp [this, Fresh], Nat.le_refl _⟩
  · have : ¬ (1 ≤ n ∧ n ≤ 4) := by omega
    exact ⟨none, 0, 0, true, by simp [this], Same.refl _ _, by simp [this, Fresh], Nat.le_refl _⟩
  · have hin : 1 ≤ n ∧ n ≤ 4 := by omega
    obtain ⟨k, rfl⟩ : ∃ k : Nat, n = (k : Int) := ⟨n.toNat, by omega⟩
    refine F_impl_SmallTypes.J3i _ _ _ ?_
    simp only [letH_def]
    refine F_impl_SmallTypes.L5ind _ _ (J := fun (g : Nat) a m c e x5 h' => x5 = ((g + 1 : Nat) : Int) ∧ g ≤ k ∧ Out t_string (h ++ [.cells t_string [] false]) h.length h' a m (strs (smalls g)) ∧ m ≤ c) (fun g => k - g) ?_ 0 _ _ _ _ _ _ ⟨rfl, by omega, Out.new (cs := []), Nat.le_refl _⟩
    rintro g a m c e x7 h' ⟨rfl, hg, hO, hmc⟩ R hR
    unfold F_impl_SmallTypes.L5t
    refine bcase_dec (fun hlt => ?_) (fun hge => ?_)
    · have hlt' : g < k := by omega
      refine (sized_ok (g + 1) (by omega) (by omega) h').mono fun v h1 ⟨ar, nr, cr, er, hv, hs1, hf⟩ => ?_
      subst hv
      simp only [xSl_some]
      have hl := hO.len
      have h1 := smalls_len (n := g) (by omega)
      have h2 := small_len (szd_small (n := g + 1) (by omega) (by omega))
      have h3 := hf.1
      simp only [strs_length] at hl h3
      refine (hO.call hs1).append u22 c9 k9 (by rw [b9]; omega) hf.row.rowOf (strs_leaf _) (by omega) fun a' n' h'' hO' => ?_
      simp only [xSl_some]
      refine hR (g + 1) _ _ _ _ _ _ (by omega) ⟨by rw [IntWalk.i64_in _ (by omega)]; omega, by omega, ?_, Nat.le_refl _⟩
      rw [smalls_succ, strs_append]; exact hO'
    · have : g = k := by omega
      subst this
      refine F_impl_SmallTypes.A5x0i _ _ _ _ _ _ ⟨a, m, c, e, by simp [hin], (Same.app (Nat.le_refl _) _).trans (hO.keep.same (Nat.le_refl _) (by simp)), ?_, hmc⟩
      simpa [hin] using hO.fresh (b := h.length) (Nat.le_refl _) (by simp)
theorem smallTypes_ok (n : Int) (h : AHeap) : SCall pg n_impl_SmallTypes [.int .i64 n] h fun v h' => ∃ a m c e, v = .tup [.slice a m c e, .bool (isSmall n)] ∧ Same h.length h h' ∧ Fresh h.length h' a m t_string (strs (smallList n)) :=
  (smallTypes_cap n h).mono fun v h' ⟨a, m, c, e, x, y, z, _⟩ => ⟨a, m, c, e, x, y, z⟩
theorem in_ok (a b c : Int) (h : AHeap) : SCall pg n_spec_l1In [.int .i64 a, .int .i64 b, .int .i64 c] h fun v h' => v = .bool (decide (b ≤ a ∧ a ≤ c)) ∧ h' = h := by
  apply F_spec_l1In.call
  refine bcase_dec (fun h1 => ?_) (fun h1 => ?_)
  · have : b ≤ a := h1
    simp [this]
  · have : ¬ b ≤ a := h1
    simp [this]
theorem specSmall_ok (n : Int) (h : AHeap) : SCall pg n_spec_SmallTypes [.int .i64 n] h fun v h' => ∃ a m c e, v = .tup [.slice a m c e, .bool (isSmall n)] ∧ Same h.length h h' ∧ Fresh h.length h' a m t_string (strs (smallList n)) := by
  unfold isSmall smallList
  apply F_spec_SmallTypes.call
  refine (in_ok n 1 4 h).mono fun v h1 ⟨hv, hh⟩ => ?_
  subst hv; subst hh
  simp only [xBool_some]
  by_cases hin : 1 ≤ n ∧ n ≤ 4
  · obtain ⟨k, rfl⟩ : ∃ k : Nat, n = (k : Int) := ⟨n.toNat, by omega⟩
    simp only [hin, and_self, decide_true, Bool.not_true, bcase_false]
    refine (l11Small_ok k (by omega) h1).mono fun v h2 ⟨a, m, c, e, hv, hs, hf⟩ => ?_
    subst hv
    simp only [xSl_some]
    exact ⟨_, _, _, _, rfl, hs, by simpa using hf⟩
  · simp only [hin, decide_false, Bool.not_false, bcase_true, letH_def]
    exact ⟨_, _, _, _, rfl, Same.app (Nat.le_refl _) _, by simp [hin, Fresh]⟩
theorem Fresh.len {b : Nat} {h : AHeap} {a : Pt} {n : Nat} {t : TypeId} {cs : List AVal} (f : Fresh b h a n t cs) : cs.length = n := f.1
theorem smallList_len (n : Int) : (smallList n).length ≤ 10000 := by
  unfold smallList
  split
  · exact smalls_len (by omega)
  · simp
/-- The law. -/
theorem law3 (n : Int) (h : AHeap) : SCall pg n_laws_FnExactSmallTypes [.int .i64 n] h fun v _ => v = .bool true := by
  have hlen := smallList_len n
  apply F_laws_FnExactSmallTypes.call
  refine (specSmall_ok n h).mono fun v h1 ⟨a5, n6, c7, e8, hv, hs1, hf1⟩ => ?_
  subst hv
  simp only [xTup_tup, xCons_cons, xSl_some, xBool_some, xNil_nil]
  refine (smallTypes_ok n h1).mono fun v h13 ⟨a17, n18, c19, e20, hv, hs13, hf13⟩ => ?_
  subst hv
  simp only [xTup_tup, xCons_cons, xSl_some, xBool_some, xNil_nil]
  have hn18 : n18 ≤ 10000 := by have := hf13.len; simp at this; omega
  have r1 : Row h13.length h13 a5 n6 (strs (smallList n)) := (hf1.row.same hs13).mono hs13.le
  refine (eqStrings_ok hf13.row r1 (by omega)).mono fun v h25 ⟨hv, hh⟩ => ?_
  subst hv; subst hh
  simp only [xBool_some, decide_true, Bool.not_true, bcase_false, beq_self_eq_true]
  refine F_laws_FnExactSmallTypes.J5i _ _ _ _ _ _ _ _ _ _ _ _ ?_
  refine (mark_ok (k := 1) hf13 hs13.le (by omega)).mono fun v h28 ⟨hv, hs28, hf28⟩ => ?_
  subst hv
  simp only [xInt_some]
  refine (held_ok hf28.row (by omega)).mono fun v h31 ⟨hv, hs31⟩ => ?_
  subst hv
  have hneg : decide ((1 + (n18 : Int)) < 0) = false := by simp; omega
  simp only [xInt_some, hneg, bcase_false, beq_self_eq_true, Bool.not_true]
  refine (smallTypes_ok n h31).mono fun v h34 ⟨a38, n39, c40, e41, hv, hs34, hf34⟩ => ?_
  subst hv
  simp only [xTup_tup, xCons_cons, xSl_some, xBool_some, xNil_nil]
  have s1 : Same h1.length h1 h34 := hs13.trans (hs28.trans ((hs31.mono (Nat.le_trans hs13.le hs28.le)).trans (hs34.mono (Nat.le_trans (Nat.le_trans hs13.le hs28.le) hs31.le))))
  have r2 : Row h34.length h34 a5 n6 (strs (smallList n)) := (hf1.row.same s1).mono s1.le
  have hn39 : n39 ≤ 10000 := by have := hf34.len; simp at this; omega
  refine (eqStrings_ok hf34.row r2 (by omega)).mono fun v h46 ⟨hv, hh⟩ => ?_
  subst hv; subst hh
  simp only [xBool_some, decide_true, Bool.not_true, bcase_false, beq_self_eq_true]
  refine F_laws_FnExactSmallTypes.J16i _ _ _ _ _ _ _ ?_
  have s2 : Same h28.length h28 h46 := hs31.trans (hs34.mono hs31.le)
  refine (held_ok ((hf28.row.same s2).mono s2.le) (by omega)).mono fun v h49 ⟨hv, _⟩ => ?_
  subst hv
  simp only [xInt_some, hneg, bcase_false, beq_self_eq_true, Bool.not_true]
end Go.Sim
