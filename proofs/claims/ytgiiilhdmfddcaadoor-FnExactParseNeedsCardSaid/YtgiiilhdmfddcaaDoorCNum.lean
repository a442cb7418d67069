/- A part of the proof of a statement of this seat: see the text that holds the theorem. No condition. -/
import Derived.Test.YtgiiilhdmfddcaaDoorPTCNum
import Derived.Test.YtgiiilhdmfddcaaDoorCRow
import Derived.Test.YtgiiilhdmfddcaaDoorC4
set_option linter.all false
set_option linter.unusedVariables false
set_option linter.unusedSimpArgs false
set_option maxRecDepth 20000
namespace Go.Sim
open Go Go.RowKit

theorem decN_lt {u : Nat} (h : u < 10) : decN u = [48 + u] := by
  unfold decN Lib.decDigits
  rw [dif_pos h]
  simp [UInt8.toNat_ofNat']; omega
theorem decN_ge {u : Nat} (h : ¬ u < 10) : decN u = decN (u / 10) ++ [48 + u % 10] := by
  unfold decN
  conv => lhs; unfold Lib.decDigits
  rw [dif_neg h]
  simp [UInt8.toNat_ofNat']; omega
theorem decN_len : ∀ (k u : Nat), u < 10 ^ (k + 1) → (decN u).length ≤ k + 1 := by
  intro k
  induction k with
  | zero => intro u h; rw [decN_lt (by omega)]; simp
  | succ k ih =>
    intro u h
    by_cases hu : u < 10
    · rw [decN_lt hu]; simp
    · rw [decN_ge hu]
      have := ih (u / 10) (by rw [Nat.pow_succ] at h; omega)
      simp; omega
theorem itoaN_neg {z : Int} (h : z < 0) : itoaN z = 45 :: decN z.natAbs := by unfold itoaN Lib.itoa decN; rw [if_pos h]; rfl
theorem itoaN_pos {z : Int} (h : ¬ z < 0) : itoaN z = decN z.toNat := by unfold itoaN Lib.itoa decN; rw [if_neg h]
theorem itoaN_len {z : Int} (h0 : -9223372036854775808 ≤ z) (h1 : z ≤ 9223372036854775807) : (itoaN z).length ≤ 20 := by
  by_cases h : z < 0
  · rw [itoaN_neg h]; have := decN_len 18 z.natAbs (by omega); simp; omega
  · rw [itoaN_pos h]; have := decN_len 18 z.toNat (by omega); omega
theorem itoaN_ne (z : Int) : itoaN z ≠ [] := by
  by_cases h : z < 0
  · rw [itoaN_neg h]; simp
  · rw [itoaN_pos h]
    by_cases hu : z.toNat < 10
    · rw [decN_lt hu]; simp
    · rw [decN_ge hu]; simp
theorem dec_loop {h : AHeap} {z : Int} (h0 : 0 ≤ z) (h1 : z ≤ 9223372036854775807) : F_spec_l13Dec.L6 (fun v h' => v = .str (decN z.toNat) ∧ Same h.length h h') z [] h := by
  refine F_spec_l13Dec.L6ind _ (J := fun (g : Nat) x0 x3 h' => x0 = (g : Int) ∧ Same h.length h h' ∧ decN g ++ x3 = decN z.toNat ∧ (g : Int) ≤ z) (fun g => g) ?_ z.toNat _ _ _ ⟨by omega, Same.refl _ _, by simp, by omega⟩
  rintro g x0 x3 h' ⟨rfl, hs, hd, hb⟩ R hR
  have hl : x3.length ≤ 20 := by
    have h2 := congrArg List.length hd
    rw [List.length_append] at h2
    have := decN_len 18 z.toNat (by omega); omega
  unfold F_spec_l13Dec.L6t
  refine bcase_dec (fun hlt => ?_) (fun hge => ?_)
  · have h1 : Int.tmod (g : Int) 10 = ((g % 10 : Nat) : Int) := by rw [Int.tmod_eq_emod_of_nonneg (by omega)]; omega
    have h2 : Int.tdiv (g : Int) 10 = ((g / 10 : Nat) : Int) := by rw [Int.tdiv_eq_ediv_of_nonneg (by omega)]; omega
    rw [h1, h2, IntWalk.i64_in _ (by omega), IntWalk.u8_in _ (by omega), IntWalk.i64_in _ (by omega)]
    simp only [letH_def, rowOf_one, xRow_some]
    refine ⟨by omega, ?_⟩
    simp only [bytesA, chk, decide_true]
    refine ⟨by omega, by simp; omega, by omega, hR (g / 10) _ _ _ (by omega) ⟨rfl, hs.trans (Same.app hs.le _), ?_, by omega⟩⟩
    rw [← hd, decN_ge (u := g) (by omega), show (48 + ((g % 10 : Nat) : Int)).toNat = 48 + g % 10 by omega]
    simp
  · apply F_spec_l13Dec.A6x0i
    rw [IntWalk.i64_in _ (by omega), IntWalk.u8_in _ (by omega)]
    simp only [letH_def, rowOf_one, xRow_some, bytesA, chk, decide_true]
    refine ⟨by omega, by simp; omega, ?_, hs.trans (Same.app hs.le _)⟩
    rw [← hd, decN_lt (u := g) (by omega), show (48 + (g : Int)).toNat = 48 + g by omega]
theorem l13Dec_ok {h : AHeap} {z : Int} (h0 : -9223372036854775808 ≤ z) (h1 : z ≤ 9223372036854775807) : SCall pg n_spec_l13Dec [.int .i64 z] h fun v h' => v = .str (itoaN z) ∧ Same h.length h h' := by
  have pos : ∀ (z : Int) (h : AHeap), 0 ≤ z → z ≤ 9223372036854775807 → SCall pg n_spec_l13Dec [.int .i64 z] h fun v h' => v = .str (decN z.toNat) ∧ Same h.length h h' := by
    intro z h h0 h1
    apply F_spec_l13Dec.call
    refine bcase_dec (fun hlt => by omega) (fun hge => bcase_dec (fun hlt => by omega) (fun hge => dec_loop h0 h1))
  by_cases hz : z < 0
  · apply F_spec_l13Dec.call
    refine bcase_dec (fun hlt => ?_) (fun hge => bcase_dec (fun hlt => ?_) (fun hge => by omega))
    · have : z = -9223372036854775808 := by omega
      subst this
      exact ⟨by rw [itoaN_neg (by omega)]; simp [decN_ge, decN_lt], Same.refl _ _⟩
    · rw [IntWalk.i64_in _ (by omega)]
      refine (pos (0 - z) h (by omega) (by omega)).mono ?_
      rintro v h' ⟨rfl, hs⟩
      simp only [xStr_some]
      have := decN_len 18 (0 - z).toNat (by omega)
      refine ⟨by simp only [List.length_cons, List.length_nil]; omega, ?_, hs⟩
      rw [itoaN_neg hz, show (0 - z).toNat = z.natAbs by omega]; rfl
  · rw [itoaN_pos hz]; exact pos z h (by omega) h1

theorem toInts_ok {h : AHeap} {a : Pt} {n c : Nat} {e : Bool} {l : List Int} (r : Row h.length h a n (flat eI l)) (hn : n ≤ 1048576) :
    SCall pg n_laws_toIntS [.slice a n c e] h fun v h' => ∃ a' c' e', v = .slice a' n c' e' ∧ Same h.length h h' ∧ Fresh h.length h' a' n t_int (flat eI l) := by
  have hl : l.length = n := by have := r.1; rw [flat_length eI_len] at this; omega
  apply F_laws_toIntS.call
  simp only [letH_def, Int.toNat_natCast]
  refine ⟨by trivial, by trivial, ⟨by omega, by omega, by omega⟩, ?_⟩
  refine F_laws_toIntS.L3ind _ _ _ _ _ _ _ _ _ (J := fun (g : Nat) x4 h' => x4 = (g : Int) ∧ g ≤ n ∧ Same h.length h h' ∧ h'[h.length]? = some (.cells t_int (flat eI (l.take g) ++ reps (n - g) [.int .i64 0]) false)) (fun g => n - g) ?_ 0 _ _
    ⟨rfl, by omega, Same.app (Nat.le_refl _) _, by simp⟩
  rintro g x4 h' ⟨rfl, hg, hs, ho⟩ R hR
  unfold F_laws_toIntS.L3t
  refine bcase_dec (fun hlt => ?_) (fun hge => ?_)
  · have hlt' : g < n := by omega
    obtain ⟨i, o, hgl, rfl, hi, hc⟩ := Row.el1 eI_len (r.same hs) hlt'
    simp only [xSome_some, Int.toNat_natCast, hc, eI, List.getElem?_cons_zero, xInt_some]
    have hlen := flat_take_len (enc := eI) eI_len (l := l) (k := g) (n := n) (z := [.int .i64 0]) hl hg rfl
    rw [hStore_of ho (by rw [hlen]; simp; omega)]
    simp only [xHeap_some]
    have hput := flat_put (enc := eI) eI_len (l := l) (k := g) (n := n) (z := [.int .i64 0]) hl hlt' hgl rfl
    rw [Nat.zero_add, show ([.int .i64 l[g]] : List AVal) = eI l[g] from rfl, hput, wrap_nat (by omega)]
    exact ⟨by omega, by omega, hR (g + 1) _ _ (by omega) ⟨rfl, by omega, hs.trans (Same.set (by omega) _), set_get ho⟩⟩
  · have : g = n := by omega
    subst this
    apply F_laws_toIntS.A3x0i
    rw [List.take_of_length_le (by omega)] at ho
    simp [reps] at ho
    exact ⟨_, _, _, rfl, hs, by rw [flat_length eI_len]; omega, .inr ⟨h.length, rfl, Nat.le_refl _, ho⟩⟩
theorem eqInts_ok {h : AHeap} {a0 a1 : Pt} {n0 n1 c0 c1 : Nat} {e0 e1 : Bool} {l0 l1 : List Int} (r0 : Row h.length h a0 n0 (flat eI l0)) (r1 : Row h.length h a1 n1 (flat eI l1)) (hn : n0 ≤ 4611686018427387904) (heq : l0 = l1) :
    SCall pg n_laws_eqIntS [.slice a0 n0 c0 e0, .slice a1 n1 c1 e1] h fun v h' => v = .bool true ∧ h' = h := by
  have h0 : l0.length = n0 := by have := r0.1; rw [flat_length eI_len] at this; omega
  have h1 : l1.length = n1 := by have := r1.1; rw [flat_length eI_len] at this; omega
  subst heq
  apply F_laws_eqIntS.call
  refine bcase_nbeq (fun hne => by omega) (fun he => ?_)
  refine F_laws_eqIntS.L4ind _ _ _ _ _ _ _ _ _ (J := fun (g : Nat) x5 h' => x5 = (g : Int) ∧ g ≤ n0 ∧ h' = h) (fun g => n0 - g) ?_ 0 _ _ ⟨rfl, by omega, rfl⟩
  rintro g x5 h' ⟨rfl, hg, rfl⟩ R hR
  unfold F_laws_eqIntS.L4t
  refine bcase_dec (fun hlt => ?_) (fun hge => F_laws_eqIntS.A4x0i _ _ ⟨rfl, rfl⟩)
  obtain ⟨i, o, hgl, rfl, hi, hc⟩ := Row.el1 eI_len r0 (k := g) (by omega)
  obtain ⟨i', o', hgl', rfl, hi', hc'⟩ := Row.el1 eI_len r1 (k := g) (by omega)
  simp only [xSome_some, Int.toNat_natCast, hc, hc', eI, List.getElem?_cons_zero, xInt_some]
  refine ⟨by omega, by omega, by trivial, bcase_nbeq (fun hne => absurd rfl hne) (fun _ => ?_)⟩
  rw [wrap_nat (by omega)]
  exact hR (g + 1) _ _ (by omega) ⟨rfl, by omega, rfl⟩

theorem tot_itoa {l : List Int} (hl : ∀ z ∈ l, -9223372036854775808 ≤ z ∧ z ≤ 9223372036854775807) : tot (l.map itoaN) ≤ l.length * 20 := by
  induction l with
  | nil => simp [tot]
  | cons z l ih =>
    have h1 := ih fun y hy => hl y (by simp [hy])
    have h2 := itoaN_len (hl z (by simp)).1 (hl z (by simp)).2
    simp only [tot, List.map_cons, List.sum_cons, List.length_cons] at *
    omega
theorem specNumbers_ok {h : AHeap} {a : Pt} {n c : Nat} {e : Bool} {l : List Int} (r : Row h.length h a n (flat eI l)) (hn : n ≤ 1048576) (hz : ∀ z ∈ l, -9223372036854775808 ≤ z ∧ z ≤ 9223372036854775807) :
    SCall pg n_spec_FormatNumbers [.slice a n c e] h fun v h' => v = .str (dash (sp (l.map itoaN))) ∧ Same h.length h h' := by
  have hl : l.length = n := by have := r.1; rw [flat_length eI_len] at this; omega
  apply F_spec_FormatNumbers.call
  refine F_spec_FormatNumbers.L3ind _ _ _ _ _ _ (J := fun (g : Nat) x3 x8 h' => x8 = (g : Int) ∧ Same h.length h h' ∧ g ≤ n ∧ x3 = sp ((l.map itoaN).take g)) (fun g => n - g) ?_ 0 _ _ _ ⟨rfl, Same.refl _ _, by omega, by simp [sp, List.intercalate]⟩
  rintro g x3 x8 h' ⟨rfl, hs, hg, rfl⟩ R hR
  unfold F_spec_FormatNumbers.L3t
  have hb1 := sp_len ((l.map itoaN).take g)
  have hb2 := tot_take_le (l.map itoaN) g
  have hb3 := tot_itoa hz
  have hmin : min g n = g := Nat.min_eq_left (by omega)
  rw [List.length_take, List.length_map, hl, hmin] at hb1
  have bound : l.length * 20 ≤ 20971520 := by omega
  refine bcase_dec (fun hlt => ?_) (fun hge => ?_)
  · have hlt' : g < n := by omega
    obtain ⟨i, o, hgl, rfl, hi', hc⟩ := Row.el1 eI_len (r.same hs) hlt'
    have hzg := hz _ (List.getElem_mem hgl)
    have hlg := itoaN_len hzg.1 hzg.2
    simp only [xSome_some, Int.toNat_natCast, hc, eI, List.getElem?_cons_zero, xInt_some]
    have step : ∀ pre, pre.length ≤ 30000000 → pre ++ itoaN l[g] = sp ((l.map itoaN).take (g + 1)) → F_spec_FormatNumbers.J7 (fun v h'_1 => v = .str (dash (sp (l.map itoaN))) ∧ Same h.length h h'_1) R pre l[g] (g : Int) (n : Int) (some (i, o)) n c e h' := by
      intro pre hp he
      apply F_spec_FormatNumbers.J7i
      refine (l13Dec_ok hzg.1 hzg.2).mono ?_
      rintro v h2 ⟨rfl, hs2⟩
      simp only [xStr_some]
      refine ⟨by omega, F_spec_FormatNumbers.J8i _ _ _ _ _ _ _ _ _ _ ?_⟩
      rw [wrap_nat (by omega), he]
      exact hR (g + 1) _ _ _ (by omega) ⟨rfl, hs.trans (hs2.mono hs.le), by omega, rfl⟩
    refine ⟨by omega, bcase_dec (fun h0 => ?_) (fun h0 => ?_)⟩
    · refine ⟨by simp; omega, step _ (by simp; omega) ?_⟩
      unfold sp
      have hx : ((l.map itoaN).take g).length = g := by rw [List.length_take, List.length_map, hl, hmin]
      rw [List.take_succ_eq_append_getElem (by simpa using hgl), inter_snoc _ _ _ (fun hnil => by rw [hnil, List.length_nil] at hx; omega)]
      simp
    · have : g = 0 := by omega
      subst this
      refine step _ (by simp [sp, List.intercalate]) ?_
      unfold sp
      rw [List.take_succ_eq_append_getElem (by simpa using hgl)]; simp [List.intercalate]
  · have : g = n := by omega
    subst this
    rw [List.take_of_length_le (by simp; omega)]
    refine F_spec_FormatNumbers.A3x0i _ _ _ (l12Text_ok.mono fun v h2 ⟨hv, hh⟩ => ?_)
    subst hv; subst hh
    exact ⟨rfl, hs⟩
theorem u_L_string : pg.underlying t_L_string = some (.slice t_string) := by kernel_rfl
theorem c_string : pg.cellsOf t_string = 1 := by kernel_rfl
theorem k_string : pg.okElem t_string = true := by kernel_rfl
theorem b_string : pg.bytesOf t_string ≤ 127 := Nat.le_of_ble_eq_true (by kernel_rfl)
theorem implNumbers_ok {h : AHeap} {a : Pt} {n c : Nat} {e : Bool} {l : List Int} {k : Nat} (hk : h[k]? = some (tabAmb pg)) (r : Row h.length h a n (flat eI l)) (hn : n ≤ 1048576) (hz : ∀ z ∈ l, -9223372036854775808 ≤ z ∧ z ≤ 9223372036854775807) :
    SCall pg n_impl_FormatNumbers [.slice a n c e] h fun v h' => v = .str (dash (sp (l.map itoaN))) ∧ Same h.length h h' := by
  have hl : l.length = n := by have := r.1; rw [flat_length eI_len] at this; omega
  have hkl := Own.lt hk
  apply F_impl_FormatNumbers.call
  simp only [letH_def]
  refine F_impl_FormatNumbers.L3ind _ _ _ _ _ _ (J := fun (g : Nat) a3 n3 c3 e3 x9 h' => x9 = (g : Int) ∧ g ≤ n ∧ Same h.length h h' ∧ n3 = g ∧ Vec t_string h' a3 n3 c3 (strs ((l.map itoaN).take g)) ∧ ∀ i, a3 = some (i, 0) → h.length ≤ i) (fun g => n - g) ?_ 0 _ _ _ _ _ _
    ⟨rfl, by omega, Same.app (Nat.le_refl _) _, rfl, Vec.mk1 (by simp), by simp⟩
  rintro g a3 n3 c3 e3 x9 h' ⟨rfl, hg, hs, rfl, hv, ha⟩ R hR
  unfold F_impl_FormatNumbers.L3t
  refine bcase_dec (fun hlt => ?_) (fun hge => ?_)
  · have hlt' : n3 < n := by omega
    obtain ⟨i, o, hgl, rfl, hi', hc⟩ := Row.el1 eI_len (r.same hs) hlt'
    have hzg := hz _ (List.getElem_mem hgl)
    simp only [xSome_some, Int.toNat_natCast, hc, eI, List.getElem?_cons_zero, xInt_some]
    refine ⟨by omega, (lib_itoa (k := k) (by rw [hs.eq k hkl]; exact hk) hzg.1 hzg.2).mono ?_⟩
    rintro v h2 ⟨rfl, rfl⟩
    simp only [xStr_some, letH_def]
    refine hv.push u_L_string c_string k_string b_string (by simp; omega) rfl (by omega) (fun h4 hl4 hi4 hk4 => ?_)
    simp only [xSl_some]
    rw [wrap_nat (by omega)]
    have hle := hs.le
    refine hR (n3 + 1) _ _ _ _ _ _ (by omega) ⟨rfl, by omega, ⟨by omega, fun j hj => ?_⟩, rfl, Vec.mk1 ?_, fun i hi => by cases hi; omega⟩
    · rw [hk4 j (by omega) fun i hi => by have := ha i hi; omega]; exact hs.eq j hj
    · rw [hi4, List.take_succ_eq_append_getElem (by simpa using hgl)]; simp [strs]
  · have : n3 = n := by omega
    subst this
    rw [List.take_of_length_le (by simp; omega)] at hv
    have hb3 := tot_itoa hz
    refine F_impl_FormatNumbers.A3x0i _ _ _ _ _ _ ((implTexts_big (hv.row (by simp [hl])) (by simp [hl]; omega)).mono ?_)
    rintro v h2 ⟨rfl, rfl⟩
    simp only [xStr_some]
    exact ⟨by trivial, hs⟩

theorem lawNumbers {h : AHeap} {a : Pt} {n c : Nat} {e : Bool} {l : List Int} {k : Nat} (hk : h[k]? = some (tabAmb pg)) (r : Row h.length h a n (flat eI l)) (hz : ∀ z ∈ l, -9223372036854775808 ≤ z ∧ z ≤ 9223372036854775807) :
    SCall pg n_laws_FnExactFormatNumbers [.slice a n c e] h fun v _ => v = .bool true := by
  apply F_laws_FnExactFormatNumbers.call
  refine bcase_dec (fun _ => rfl) (fun hn => ?_)
  have hn : n ≤ 1048576 := by omega
  refine (toInts_ok r hn).mono ?_
  rintro v h1 ⟨a1, c1, e1, rfl, s1, f1⟩
  simp only [xSl_some]
  refine (specNumbers_ok f1.row hn hz).mono ?_
  rintro v h2 ⟨rfl, s2⟩
  simp only [xStr_some]
  have t2 : Same h.length h h2 := s1.trans (s2.mono s1.le)
  refine (toInts_ok ((r.same t2).mono t2.le) hn).mono ?_
  rintro v h3 ⟨a3, c3, e3, rfl, s3, f3⟩
  simp only [xSl_some]
  have t3 : Same h.length h h3 := t2.trans (s3.mono t2.le)
  refine (implNumbers_ok (k := k) (by rw [t3.eq k (Own.lt hk)]; exact hk) f3.row hn hz).mono ?_
  rintro v h4 ⟨rfl, s4⟩
  simp only [xStr_some, decide_true, Bool.not_true, bcase_false]
  have t4 : Same h.length h h4 := t3.trans (s4.mono t3.le)
  refine (toInts_ok ((r.same t4).mono t4.le) hn).mono ?_
  rintro v h5 ⟨a5, c5, e5, rfl, s5, f5⟩
  simp only [xSl_some]
  refine (eqInts_ok (((f3.row.same s4).mono s4.le |>.same s5).mono s5.le) f5.row (by omega) rfl).mono ?_
  rintro v h6 ⟨rfl, rfl⟩
  simp
theorem ints_of {P : Program} {h : AHeap} {f : Nat} {e : TypeId} (he : P.underlying e = some (.int .i64)) : ∀ (vs : List (List AVal)) (ds : List Dt), ds.length = vs.length → (∀ (i : Nat) (v : List AVal) (x : Dt), vs[i]? = some v → ds[i]? = some x → v.length = P.cellsOf e ∧ rd P h (f + 1) e v x) →
    ∃ l, vs.flatten = flat eI l ∧ ∀ z ∈ l, -9223372036854775808 ≤ z ∧ z ≤ 9223372036854775807
  | [], _, _, _ => ⟨[], rfl, by simp⟩
  | v :: vs, [], h, _ => by simp at h
  | v :: vs, d :: ds, hl, hall => by
    obtain ⟨l, hfl, hs⟩ := ints_of he vs ds (by simpa using hl) fun i v x hv hx => hall (i + 1) v x (by simpa using hv) (by simpa using hx)
    have h0 := (hall 0 v d rfl rfl).2
    simp only [rd, he] at h0
    obtain ⟨z, rfl, _, hw⟩ := h0
    refine ⟨z :: l, by simp [hfl, eI], fun x hx => ?_⟩
    rcases List.mem_cons.1 hx with rfl | hx
    · simp [Lit.wf, IntKind.min, IntKind.max, IntKind.signed, IntKind.bits] at hw; omega
    · exact hs x hx
theorem rd_ints {P : Program} {h : AHeap} {f : Nat} {t e : TypeId} {cs : List AVal} {d : Dt} (ht : P.underlying t = some (.slice e)) (he : P.underlying e = some (.int .i64)) (hc : P.cellsOf e = 1) (hr : rd P h (f + 2) t cs d) :
    ∃ a n c ex l, cs = [.slice a n c ex] ∧ Row h.length h a n (flat eI l) ∧ ∀ z ∈ l, -9223372036854775808 ≤ z ∧ z ≤ 9223372036854775807 := by
  unfold rd at hr
  rw [ht] at hr
  obtain ⟨a, n, c, ex, ds, vs, rfl, rfl, hdl, hn, hvl, hrow, hall⟩ := hr
  obtain ⟨l, hfl, hs⟩ := ints_of (f := f) he vs ds (by omega) hall
  rw [hc, Nat.mul_one, hfl] at hrow
  exact ⟨a, n, c, ex, l, rfl, hrow, hs⟩
end Go.Sim
