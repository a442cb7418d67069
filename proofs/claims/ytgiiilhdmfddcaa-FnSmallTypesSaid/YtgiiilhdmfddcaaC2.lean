/- A part of the proof of a statement of this seat: see the text that holds the theorem. No condition. -/
import Derived.Test.YtgiiilhdmfddcaaPTC2
import Derived.Test.YtgiiilhdmfddcaaC1
set_option linter.unusedSimpArgs false
set_option linter.all false
set_option linter.unusedVariables false
namespace Go.Sim
open Go Go.RowKit

def hd (x : List Nat) (l : List (List Nat)) : List (List Nat) := l.map fun t => ((x ++ [40]) ++ t) ++ [41]
def pr (x : List Nat) (l : List (List Nat)) : List (List Nat) := l.map fun t => (((([112, 40] ++ x) ++ [44]) ++ t) ++ [41])
def s1 : List (List Nat) := [[105], [98], [117]]
def s2 : List (List Nat) := hd [108] s1 ++ hd [109] s1
def s3 : List (List Nat) := hd [108] s2 ++ hd [109] s2 ++ s1.flatMap fun s => pr s s1
def s4 : List (List Nat) := hd [108] s3 ++ hd [109] s3 ++ ((s1.flatMap fun s => pr s s2) ++ s2.flatMap fun s => pr s s1)
def szd : Nat → List (List Nat)
  | 1 => s1
  | 2 => s2
  | 3 => s3
  | _ => s4
theorem szd_step {n : Nat} (h2 : 2 ≤ n) (h4 : n ≤ 4) : szd n = (hd [108] (szd (n - 1)) ++ hd [109] (szd (n - 1))) ++ (List.range (n - 2)).flatMap fun j => (szd (j + 1)).flatMap fun s => pr s (szd (n - 2 - j)) := by
  obtain rfl | rfl | rfl : n = 2 ∨ n = 3 ∨ n = 4 := by omega
  · rfl
  · rfl
  · rfl
def small (l : List (List Nat)) : Bool := decide (l.length ≤ 1000) && l.all fun s => decide (s.length ≤ 1000)
theorem szd_small {n : Nat} (h1 : 1 ≤ n) (h4 : n ≤ 4) : small (szd n) = true := by
  obtain rfl | rfl | rfl | rfl : n = 1 ∨ n = 2 ∨ n = 3 ∨ n = 4 := by omega
  all_goals decide +kernel
theorem small_len {l : List (List Nat)} (h : small l = true) : l.length ≤ 1000 := by simp [small] at h; exact h.1
theorem small_get {l : List (List Nat)} (h : small l = true) {k : Nat} (hk : k < l.length) : l[k].length ≤ 1000 := by simp [small] at h; exact h.2 _ (List.getElem_mem hk)
theorem strs_one (l : List (List Nat)) (s : List Nat) : strs l ++ [.str s] = strs (l ++ [s]) := by simp [strs]
theorem flat_take {β : Type} (f : List Nat → List β) (l : List (List Nat)) {g : Nat} (hg : g < l.length) : (l.take (g + 1)).flatMap f = (l.take g).flatMap f ++ f l[g] := by
  rw [List.take_succ_eq_append_getElem hg, List.flatMap_append]; simp only [List.flatMap_cons, List.flatMap_nil, List.append_nil]
theorem flat_range {β : Type} (f : Nat → List β) (g : Nat) : (List.range (g + 1)).flatMap f = (List.range g).flatMap f ++ f g := by rw [List.range_succ]; simp

theorem flat_le {α β : Type} (f : α → List β) {m : Nat} (hf : ∀ x, (f x).length ≤ m) : ∀ l : List α, (l.flatMap f).length ≤ l.length * m
  | [] => by simp
  | x :: l => by
    have := flat_le f hf l
    have := hf x
    rw [List.flatMap_cons, List.length_append, List.length_cons, Nat.succ_mul]; omega
section
variable (Q : QT)
theorem sized_L8 (R5 : F_impl_sized.T5) (x0 : Int) {x : List Nat} (a17 : Pt) (n17 c17 : Nat) (e17 : Bool) (x18 x19 : Int) {a25 : Pt} {n25 : Nat} (c25 : Nat) (e25 : Bool) {T base : List (List Nat)} {h0 : AHeap} {i0 : Nat} {a3 : Pt} {n3 c3 : Nat} {e3 : Bool}
    (ho : Out t_string h0 i0 h0 a3 n3 (strs base)) (ht : Row h0.length h0 a25 n25 (strs T)) (hne : n25 ≠ 0 → ∀ j o, a25 = some (j, o) → j ≠ i0) (hx : x.length ≤ 1000) (hT : small T = true) (hb : base.length ≤ 10000000)
    (hk : ∀ a' n' c' e' h', Out t_string h0 i0 h' a' n' (strs (base ++ hd x T)) → R5 x0 a' n' c' e' a17 n17 c17 e17 x18 (IntKind.wrap .i64 (x19 + 1)) h') :
    F_impl_sized.L8 Q R5 x0 a3 n3 c3 e3 x a17 n17 c17 e17 x18 x19 a25 n25 c25 e25 n25 0 h0 := by
  have hTl : T.length = n25 := by simpa using ht.1
  have hT1 := small_len hT
  refine F_impl_sized.L8ind Q R5 _ _ _ _ _ _ _ _ _ _ _ _ _ (J := fun (g : Nat) a n c e x27 h => x27 = (g : Int) ∧ g ≤ n25 ∧ Out t_string h0 i0 h a n (strs (base ++ hd x (T.take g)))) (fun g => n25 - g) ?_ 0 a3 n3 c3 e3 0 h0 ⟨rfl, by omega, by simpa [hd] using ho⟩
  rintro g a n c e x27 h ⟨rfl, hg, hO⟩ R hR
  unfold F_impl_sized.L8t
  refine bcase_dec (fun hlt => ?_) (fun hge => ?_)
  · have hlt' : g < n25 := by omega
    obtain ⟨i, o, hgl, rfl, hi, hc⟩ := (ht.keep hne hO.keep).str hlt'
    have hs := small_get hT hgl
    simp only [xSome_some, Int.toNat_natCast, Nat.mul_one, hc, xStr_some, letH_def, List.length_append, List.length_cons, List.length_nil]
    refine ⟨by omega, by omega, by omega, by omega, hO.push u22 c9 k9 (by rw [b9]; omega) rfl ?_ fun a' n' h' hO' => ?_⟩
    · have := hO.len
      simp [hd] at this
      omega
    · simp only [xSl_some]
      rw [wrap_succ hlt' (by omega)]
      refine hR (g + 1) _ _ _ _ _ _ (by omega) ⟨rfl, by omega, ?_⟩
      rw [strs_one] at hO'
      have : base ++ hd x (T.take (g + 1)) = base ++ hd x (T.take g) ++ [x ++ [40] ++ T[g] ++ [41]] := by
        rw [List.take_succ_eq_append_getElem (by omega)]; simp only [hd, List.map_append, List.map_cons, List.map_nil, List.append_assoc]
      rw [this]; exact hO'
  · have : g = n25 := by omega
    subst this
    refine F_impl_sized.A8x2i _ _ _ _ _ _ _ _ _ _ _ _ _ _ (hk _ _ _ _ _ ?_)
    rw [List.take_of_length_le (by omega)] at hO
    exact hO

theorem sized_L5 {x0 : Int} {m : Nat} (hx0 : IntKind.wrap .i64 (x0 - 1) = (m : Int)) (hm : 1 ≤ m ∧ m ≤ 3) (hrec : ∀ h, SCall pg n_impl_sized [.int .i64 m] h fun v h' => ∃ a n c e, v = .slice a n c e ∧ Same h.length h h' ∧ Fresh h.length h' a n t_string (strs (szd m)))
    {a17 : Pt} {n17 : Nat} (c17 : Nat) (e17 : Bool) {H : List (List Nat)} {h0 : AHeap} {i0 : Nat} {a3 : Pt} {n3 c3 : Nat} {e3 : Bool}
    (ho : Out t_string h0 i0 h0 a3 n3 (strs [])) (ht : Row h0.length h0 a17 n17 (strs H)) (hne : n17 ≠ 0 → ∀ j o, a17 = some (j, o) → j ≠ i0) (hH : small H = true) (hH2 : H.length ≤ 2)
    (hk : ∀ a' n' c' e' h', Out t_string h0 i0 h' a' n' (strs (H.flatMap fun x => hd x (szd m))) → F_impl_sized.L14 Q x0 a' n' c' e' 1 h') :
    F_impl_sized.L5 Q x0 a3 n3 c3 e3 a17 n17 c17 e17 n17 0 h0 := by
  have hHl : H.length = n17 := by simpa using ht.1
  have hsm := szd_small (n := m) (by omega) (by omega)
  refine F_impl_sized.L5ind Q _ _ _ _ _ _ (J := fun (g : Nat) a n c e x19 h => x19 = (g : Int) ∧ g ≤ n17 ∧ Out t_string h0 i0 h a n (strs ((H.take g).flatMap fun x => hd x (szd m)))) (fun g => n17 - g) ?_ 0 a3 n3 c3 e3 0 h0 ⟨rfl, by omega, by simpa using ho⟩
  rintro g a n c e x27 h ⟨rfl, hg, hO⟩ R hR
  unfold F_impl_sized.L5t
  refine bcase_dec (fun hlt => ?_) (fun hge => ?_)
  · have hlt' : g < n17 := by omega
    obtain ⟨i, o, hgl, rfl, hi, hc⟩ := (ht.keep hne hO.keep).str hlt'
    have hs := small_get hH hgl
    simp only [xSome_some, Int.toNat_natCast, Nat.mul_one, hc, xStr_some, hx0]
    refine ⟨by omega, (hrec h).mono fun v h1 ⟨ar, nr, cr, er, hv, hs1, hf⟩ => ?_⟩
    subst hv
    simp only [xSl_some]
    have hO1 := hO.call hs1
    obtain ⟨i1, hi1, hlt1, hh⟩ := hO1.here
    have hi2 : i1 < h.length := by
      obtain ⟨j, hj, hjl, _⟩ := hO.id
      rw [hi1] at hj; cases hj; exact hjl
    have hlen : (((H.take g).flatMap fun x => hd x (szd m))).length ≤ 10000000 := by
      have h1 := small_len hsm
      have : g ≤ 1 := by omega
      obtain rfl | rfl : g = 0 ∨ g = 1 := by omega
      · simp
      · match H, hH2 with
        | [], _ => simp
        | x :: _, _ => simp [hd]; omega
    refine sized_L8 Q R x0 _ _ _ _ _ _ cr er hh hf.row (hf.apart hi2) hs hsm hlen fun a' n' c' e' h' hO' => ?_
    rw [wrap_succ hlt' (by omega)]
    refine hR (g + 1) _ _ _ _ _ _ (by omega) ⟨rfl, by omega, ?_⟩
    rw [flat_take _ _ hgl]
    exact hO1.trans hi1 hO'
  · have : g = n17 := by omega
    subst this
    refine F_impl_sized.A5x0i _ _ _ _ _ _ _ (hk _ _ _ _ _ ?_)
    rw [List.take_of_length_le (by omega)] at hO
    exact hO
theorem sized_L20 (R14 : F_impl_sized.T14) (R17 : F_impl_sized.T17) (x0 x8 : Int) {x : List Nat} (a17 : Pt) (n17 c17 : Nat) (e17 : Bool) (x18 x19 : Int) {a25 : Pt} {n25 : Nat} (c25 : Nat) (e25 : Bool) {T base : List (List Nat)} {h0 : AHeap} {i0 : Nat} {a3 : Pt} {n3 c3 : Nat} {e3 : Bool}
    (ho : Out t_string h0 i0 h0 a3 n3 (strs base)) (ht : Row h0.length h0 a25 n25 (strs T)) (hne : n25 ≠ 0 → ∀ j o, a25 = some (j, o) → j ≠ i0) (hx : x.length ≤ 1000) (hT : small T = true) (hb : base.length ≤ 10000000)
    (hk : ∀ a' n' c' e' h', Out t_string h0 i0 h' a' n' (strs (base ++ pr x T)) → R17 x0 a' n' c' e' x8 a17 n17 c17 e17 x18 (IntKind.wrap .i64 (x19 + 1)) h') :
    F_impl_sized.L20 Q R14 R17 x0 a3 n3 c3 e3 x8 x a17 n17 c17 e17 x18 x19 a25 n25 c25 e25 n25 0 h0 := by
  have hTl : T.length = n25 := by simpa using ht.1
  have hT1 := small_len hT
  refine F_impl_sized.L20ind Q R14 R17 _ _ _ _ _ _ _ _ _ _ _ _ _ _ (J := fun (g : Nat) a n c e x27 h => x27 = (g : Int) ∧ g ≤ n25 ∧ Out t_string h0 i0 h a n (strs (base ++ pr x (T.take g)))) (fun g => n25 - g) ?_ 0 a3 n3 c3 e3 0 h0 ⟨rfl, by omega, by simpa [pr] using ho⟩
  rintro g a n c e x27 h ⟨rfl, hg, hO⟩ R hR
  unfold F_impl_sized.L20t
  refine bcase_dec (fun hlt => ?_) (fun hge => ?_)
  · have hlt' : g < n25 := by omega
    obtain ⟨i, o, hgl, rfl, hi, hc⟩ := (ht.keep hne hO.keep).str hlt'
    have hs := small_get hT hgl
    simp only [xSome_some, Int.toNat_natCast, Nat.mul_one, hc, xStr_some, letH_def, List.length_append, List.length_cons, List.length_nil]
    refine ⟨by omega, by omega, by omega, by omega, by omega, hO.push u22 c9 k9 (by rw [b9]; omega) rfl ?_ fun a' n' h' hO' => ?_⟩
    · have := hO.len
      simp [pr] at this
      omega
    · simp only [xSl_some]
      rw [wrap_succ hlt' (by omega)]
      refine hR (g + 1) _ _ _ _ _ _ (by omega) ⟨rfl, by omega, ?_⟩
      rw [strs_one] at hO'
      have : base ++ pr x (T.take (g + 1)) = base ++ pr x (T.take g) ++ [[112, 40] ++ x ++ [44] ++ T[g] ++ [41]] := by
        rw [List.take_succ_eq_append_getElem (by omega)]; simp only [pr, List.map_append, List.map_cons, List.map_nil, List.append_assoc]
      rw [this]; exact hO'
  · have : g = n25 := by omega
    subst this
    refine F_impl_sized.A20x8i _ _ _ _ _ _ _ _ _ _ _ _ _ _ _ _ (hk _ _ _ _ _ ?_)
    rw [List.take_of_length_le (by omega)] at hO
    exact hO


theorem sized_L17 {R14 : F_impl_sized.T14} {x0 x8 : Int} {m k : Nat} (hx0 : IntKind.wrap .i64 (IntKind.wrap .i64 (x0 - 1) - x8) = (m : Int)) (hm : 1 ≤ m ∧ m ≤ 3) (hk1 : 1 ≤ k ∧ k ≤ 3) (hrec : ∀ h, SCall pg n_impl_sized [.int .i64 m] h fun v h' => ∃ a n c e, v = .slice a n c e ∧ Same h.length h h' ∧ Fresh h.length h' a n t_string (strs (szd m)))
    {a17 : Pt} {n17 : Nat} (c17 : Nat) (e17 : Bool) {base : List (List Nat)} {h0 : AHeap} {i0 : Nat} {a3 : Pt} {n3 c3 : Nat} {e3 : Bool}
    (ho : Out t_string h0 i0 h0 a3 n3 (strs base)) (ht : Row h0.length h0 a17 n17 (strs (szd k))) (hne : n17 ≠ 0 → ∀ j o, a17 = some (j, o) → j ≠ i0) (hbase : base.length ≤ 5000000)
    (hk : ∀ a' n' c' e' h', Out t_string h0 i0 h' a' n' (strs (base ++ (szd k).flatMap fun x => pr x (szd m))) → R14 x0 a' n' c' e' (IntKind.wrap .i64 (x8 + 1)) h') :
    F_impl_sized.L17 Q R14 x0 a3 n3 c3 e3 x8 a17 n17 c17 e17 n17 0 h0 := by
  have hHl : (szd k).length = n17 := by simpa using ht.1
  have hsm := szd_small (n := m) (by omega) (by omega)
  have hH := szd_small (n := k) (by omega) (by omega)
  have hn17 := small_len hH
  refine F_impl_sized.L17ind Q _ _ _ _ _ _ _ _ (J := fun (g : Nat) a n c e x19 h => x19 = (g : Int) ∧ g ≤ n17 ∧ Out t_string h0 i0 h a n (strs (base ++ ((szd k).take g).flatMap fun x => pr x (szd m)))) (fun g => n17 - g) ?_ 0 a3 n3 c3 e3 0 h0 ⟨rfl, by omega, by simpa using ho⟩
  rintro g a n c e x27 h ⟨rfl, hg, hO⟩ R hR
  unfold F_impl_sized.L17t
  refine bcase_dec (fun hlt => ?_) (fun hge => ?_)
  · have hlt' : g < n17 := by omega
    obtain ⟨i, o, hgl, rfl, hi, hc⟩ := (ht.keep hne hO.keep).str hlt'
    have hs := small_get hH hgl
    simp only [xSome_some, Int.toNat_natCast, Nat.mul_one, hc, xStr_some, hx0]
    refine ⟨by omega, (hrec h).mono fun v h1 ⟨ar, nr, cr, er, hv, hs1, hf⟩ => ?_⟩
    subst hv
    simp only [xSl_some]
    have hO1 := hO.call hs1
    obtain ⟨i1, hi1, hlt1, hh⟩ := hO1.here
    have hi2 : i1 < h.length := by
      obtain ⟨j, hj, hjl, _⟩ := hO.id
      rw [hi1] at hj; cases hj; exact hjl
    have hl := flat_le (fun x => pr x (szd m)) (m := 1000) (fun x => by simpa [pr] using small_len hsm) ((szd k).take g)
    have hl2 : ((szd k).take g).length * 1000 ≤ 1000 * 1000 := Nat.mul_le_mul_right _ (by simp; omega)
    refine sized_L20 Q R14 R x0 _ _ _ _ _ _ _ cr er hh hf.row (hf.apart hi2) hs hsm (by simp only [List.length_append]; omega) fun a' n' c' e' h' hO' => ?_
    rw [wrap_succ hlt' (by omega)]
    refine hR (g + 1) _ _ _ _ _ _ (by omega) ⟨rfl, by omega, ?_⟩
    rw [flat_take _ _ hgl, ← List.append_assoc]
    exact hO1.trans hi1 hO'
  · have : g = n17 := by omega
    subst this
    refine F_impl_sized.A17x6i _ _ _ _ _ _ _ _ _ (hk _ _ _ _ _ ?_)
    rw [List.take_of_length_le (by omega)] at hO
    exact hO

theorem sized_L14 {n : Nat} (hn : 2 ≤ n ∧ n ≤ 4) (hrec : ∀ m, 1 ≤ m → m < n → ∀ h, SCall pg n_impl_sized [.int .i64 m] h fun v h' => ∃ a n c e, v = .slice a n c e ∧ Same h.length h h' ∧ Fresh h.length h' a n t_string (strs (szd m)))
    {base : List (List Nat)} {h0 : AHeap} {i0 : Nat} {a3 : Pt} {n3 c3 : Nat} {e3 : Bool} (ho : Out t_string h0 i0 h0 a3 n3 (strs base)) (hbase : base.length ≤ 2000)
    (hk : ∀ a' n' c' e' h', Out t_string h0 i0 h' a' n' (strs (base ++ (List.range (n - 2)).flatMap fun j => (szd (j + 1)).flatMap fun s => pr s (szd (n - 2 - j)))) → Q (.slice a' n' c' e') h') :
    F_impl_sized.L14 Q n a3 n3 c3 e3 1 h0 := by
  have hw : IntKind.wrap .i64 ((n : Int) - 1) = ((n - 1 : Nat) : Int) := by rw [IntWalk.i64_in _ (by omega)]; omega
  refine F_impl_sized.L14ind Q _ (J := fun (g : Nat) a m c e x8 h => x8 = ((g + 1 : Nat) : Int) ∧ g ≤ n - 2 ∧ Out t_string h0 i0 h a m (strs (base ++ (List.range g).flatMap fun j => (szd (j + 1)).flatMap fun s => pr s (szd (n - 2 - j))))) (fun g => n - 2 - g) ?_ 0 a3 n3 c3 e3 1 h0 ⟨rfl, by omega, by simpa using ho⟩
  rintro g a m c e x8 h ⟨rfl, hg, hO⟩ R hR
  unfold F_impl_sized.L14t
  rw [hw]
  refine bcase_dec (fun hlt => ?_) (fun hge => ?_)
  · have hlt' : g < n - 2 := by omega
    refine (hrec (g + 1) (by omega) (by omega) h).mono fun v h1 ⟨ar, nr, cr, er, hv, hs1, hf⟩ => ?_
    subst hv
    simp only [xSl_some]
    have hO1 := hO.call hs1
    obtain ⟨i1, hi1, hlt1, hh⟩ := hO1.here
    have hi2 : i1 < h.length := by
      obtain ⟨j, hj, hjl, _⟩ := hO.id
      rw [hi1] at hj; cases hj; exact hjl
    have hw2 : IntKind.wrap .i64 (IntKind.wrap .i64 ((n : Int) - 1) - ((g + 1 : Nat) : Int)) = ((n - 2 - g : Nat) : Int) := by rw [hw, IntWalk.i64_in _ (by omega)]; omega
    have hl : (base ++ (List.range g).flatMap fun j => (szd (j + 1)).flatMap fun s => pr s (szd (n - 2 - j))).length ≤ 5000000 := by
      have hg1 : g ≤ 1 := by omega
      obtain rfl | rfl : g = 0 ∨ g = 1 := by omega
      · simp; omega
      · have h1 := small_len (szd_small (n := n - 2 - 0) (by omega) (by omega))
        have h3 := small_len (szd_small (n := 0 + 1) (by omega) (by omega))
        have h2 := flat_le (fun x => pr x (szd (n - 2 - 0))) (m := 1000) (fun x => by simpa [pr] using h1) (szd (0 + 1))
        have h4 : (szd (0 + 1)).length * 1000 ≤ 1000 * 1000 := Nat.mul_le_mul_right _ h3
        simp only [List.range_one, List.flatMap_cons, List.flatMap_nil, List.append_nil, List.length_append]; omega
    refine sized_L17 Q hw2 (by omega) (k := g + 1) (by omega) (hrec (n - 2 - g) (by omega) (by omega)) cr er hh hf.row (hf.apart hi2) hl fun a' n' c' e' h' hO' => ?_
    have hw3 : IntKind.wrap .i64 (((g + 1 : Nat) : Int) + 1) = ((g + 1 + 1 : Nat) : Int) := by rw [IntWalk.i64_in _ (by omega)]; omega
    rw [hw3]
    refine hR (g + 1) _ _ _ _ _ _ (by omega) ⟨rfl, by omega, ?_⟩
    rw [flat_range, ← List.append_assoc]
    exact hO1.trans hi1 hO'
  · have : g = n - 2 := by omega
    subst this
    exact F_impl_sized.A14x4i _ _ _ _ _ _ (hk _ _ _ _ _ hO)
end
theorem sized_ok (n : Nat) (h1 : 1 ≤ n) (h4 : n ≤ 4) (h : AHeap) : SCall pg n_impl_sized [.int .i64 n] h fun v h' => ∃ a m c e, v = .slice a m c e ∧ Same h.length h h' ∧ Fresh h.length h' a m t_string (strs (szd n)) := by
  induction n using Nat.strongRecOn generalizing h with
  | _ n ih =>
  apply F_impl_sized.call
  by_cases hn : n = 1
  · subst hn
    have e1 : (((1 : Nat) : Int) == 1) = true := rfl
    simp only [e1, bcase_true, letH_def]
    exact ⟨_, _, _, _, rfl, Same.app (Nat.le_refl _) _, rfl, .inr (Own.last (Nat.le_refl _))⟩
  · have : ((n : Int) == 1) = false := by simp; omega
    simp only [this, bcase_false, letH_def]
    have hrec : ∀ m, 1 ≤ m → m < n → ∀ h, SCall pg n_impl_sized [.int .i64 m] h fun v h' => ∃ a n c e, v = .slice a n c e ∧ Same h.length h h' ∧ Fresh h.length h' a n t_string (strs (szd m)) := fun m hm hlt h => ih m hlt hm (by omega) h
    have hO : Out t_string (h ++ [.cells t_string [] false] ++ [.cells t_string [.str [108], .str [109]] false]) h.length (h ++ [.cells t_string [] false] ++ [.cells t_string [.str [108], .str [109]] false]) (some (h.length, 0)) 0 (strs []) := Out.refl (by simp)
    refine sized_L5 _ (m := n - 1) (by rw [IntWalk.i64_in _ (by omega)]; omega) (by omega) (hrec (n - 1) (by omega) (by omega)) (H := [[108], [109]]) 2 true hO ?_ ?_ (by decide) (by simp) fun a' n' c' e' h' hO' => ?_
    · exact (Own.last (cs := strs [[108], [109]]) (b := 0) (by omega)).row
    · intro _ j o hj; cases hj; simp
    · refine sized_L14 _ ⟨by omega, h4⟩ hrec (hO'.here.choose_spec.2.2) ?_ fun a'' n'' c'' e'' h'' hO'' => ?_
      · have := small_len (szd_small (n := n - 1) (by omega) (by omega)); simp [hd]; omega
      · obtain ⟨i, hi, _, _⟩ := hO'.here
        have hf := hO'.trans hO'.here.choose_spec.1 hO''
        refine ⟨_, _, _, _, rfl, ?_, ?_⟩
        · exact (Same.app (Nat.le_refl _) _).trans ((Same.app (by simp) _).trans (hf.keep.same (Nat.le_refl _) (by simp)))
        · rw [szd_step (by omega) h4]
          have := hf.fresh (b := h.length) (Nat.le_refl _) (by simp)
          simpa using this
end Go.Sim
