/- A part of the proof of a statement of this seat: see the text that holds the theorem. No condition. -/
import Derived.Test.YtgiiilhdmfddcaaDoorPTCTexts
import Derived.Test.YtgiiilhdmfddcaaDoorCDraw
import Derived.Test.YtgiiilhdmfddcaaDoorCNum
set_option linter.all false
set_option linter.unusedVariables false
set_option linter.unusedSimpArgs false
set_option maxRecDepth 20000
namespace Go.Sim
open Go Go.RowKit

def numS : List Int := [0, 1, -1, 12, 3, -9223372036854775808, 9]
def textS : List (List Nat) := [[105], [108, 40, 120, 41], [49, 40, 48, 41], [98]]
theorem u_L_int : pg.underlying t_L_int = some (.slice t_int) := by kernel_rfl
theorem c_int : pg.cellsOf t_int = 1 := by kernel_rfl
theorem k_int : pg.okElem t_int = true := by kernel_rfl
theorem b_int : pg.bytesOf t_int ≤ 127 := Nat.le_of_ble_eq_true (by kernel_rfl)
theorem drawNumbers_ok {h : AHeap} {a : Pt} {n c : Nat} {e : Bool} {l : List Nat} (r : Row h.length h a n (flat eB l)) (hb : ∀ b ∈ l, b < 256) (hnc : n ≤ c) :
    SCall pg n_spec_DrawFormatNumbers [.slice a n c e] h fun v h' => Same h.length h h' ∧ ∃ a n c e l, v = .slice a n c e ∧ Row h'.length h' a n (flat eI l) ∧ l.length ≤ 5 ∧ ∀ z ∈ l, z ∈ numS := by
  apply F_spec_DrawFormatNumbers.call
  refine (l13Open_ok r hb hnc).mono ?_
  rintro v h1 ⟨rfl, s1, r1, hl1⟩
  simp only [xPtr_some, letH_def]
  refine (rdPick_ok (r1.app _) (by omega) 5).mono ?_
  rintro v h2 ⟨x, rfl, h0x, hlt, _, hK, hR, hl2⟩
  simp only [xInt_some]
  have hlt := hlt (by omega)
  simp at hl2
  have s2 : Same h.length h h2 := ⟨by omega, fun j hj => by rw [hK.eq j (by simp; omega) (by omega), app_lt (by omega)]; exact s1.eq j hj⟩
  have hv2 : h2[h1.length]? = some (.cells t_int [] false) := by rw [hK.eq _ (by simp) (by omega)]; simp
  refine F_spec_DrawFormatNumbers.L4ind _ _ _ (J := fun (g : Nat) a4 n4 c4 e4 x10 h' => x10 = (g : Int) ∧ (g : Int) ≤ x ∧ Same h.length h h' ∧ h.length + 2 ≤ h'.length ∧ Rdr h' h.length (1 + g) ∧ ∃ l, n4 = l.length ∧ l.length = g ∧ (∀ z ∈ l, z ∈ numS) ∧ Vec t_int h' a4 n4 c4 (flat eI l) ∧ ∀ i, a4 = some (i, 0) → h.length < i) (fun g => x.toNat - g) ?_ 0 _ _ _ _ _ _
    ⟨rfl, by omega, s2, by omega, by simpa using hR, [], rfl, rfl, by simp, Vec.mk1 hv2, fun i hi => by cases hi; omega⟩
  rintro g a4 n4 c4 e4 x10 h' ⟨rfl, hg, hs, hll, hr, l, rfl, hlg, hz, hv, ha⟩ R hR'
  unfold F_spec_DrawFormatNumbers.L4t
  refine bcase_dec (fun hlt => ?_) (fun hge => ?_)
  · simp only [letH_def]
    refine (rdNum_ok (n := 7) (p := 1 + g) (j := h'.length) (t := t_int) (l := numS) (hr.app _) (by omega) (by simp [numS, eI, flat]) (by omega) rfl (by omega)).mono ?_
    rintro v h3 ⟨z, hzz, rfl, hK3, hR3, hl3⟩
    simp at hl3
    simp only [xInt_some]
    have hv3 : Vec t_int h3 a4 l.length c4 (flat eI l) := hv.agree fun i hi => by
      have h1 := ha i hi; subst hi; have h2 := hv.lt
      rw [hK3.eq i (by simp; omega) (by omega), app_lt h2]
    refine hv3.push u_L_int c_int k_int b_int (by rw [flat_length eI_len]; omega) rfl (by omega) (fun h4 hl4 hi4 hk4 => ?_)
    simp only [xSl_some]
    rw [wrap_nat (by omega)]
    refine hR' (g + 1) _ _ _ _ _ _ (by omega) ⟨rfl, by omega, ⟨by omega, fun j hj => ?_⟩, by omega, ?_, l ++ [z], by simp, by simp [hlg], ?_, Vec.mk1 (by simpa [eI] using hi4), fun i hi => by cases hi; omega⟩
    · rw [hk4 j (by omega) fun i hi => by have := ha i hi; omega, hK3.eq j (by simp; omega) (by omega), app_lt (by omega)]; exact hs.eq j hj
    · refine Rdr.agree (h := h3) (by rw [show 1 + (g + 1) = 1 + g + 1 by omega]; exact hR3) (fun j hj => hk4 j (by omega) fun i hi => by have := ha i hi; omega) (by omega)
    · intro y hy
      rcases List.mem_append.1 hy with hy | hy
      · exact hz y hy
      · simp at hy; subst hy; exact hzz
  · exact F_spec_DrawFormatNumbers.A4x0i _ _ _ _ _ _ ⟨hs, _, _, _, _, l, rfl, hv.row (by rw [flat_length eI_len]; omega), by omega, hz⟩
theorem drawTexts_ok {h : AHeap} {a : Pt} {n c : Nat} {e : Bool} {l : List Nat} (r : Row h.length h a n (flat eB l)) (hb : ∀ b ∈ l, b < 256) (hnc : n ≤ c) :
    SCall pg n_spec_DrawFormatTexts [.slice a n c e] h fun v h' => Same h.length h h' ∧ ∃ a n c e l, v = .slice a n c e ∧ Row h'.length h' a n (strs l) ∧ l.length ≤ 5 ∧ ∀ z ∈ l, z ∈ textS := by
  apply F_spec_DrawFormatTexts.call
  refine (l13Open_ok r hb hnc).mono ?_
  rintro v h1 ⟨rfl, s1, r1, hl1⟩
  simp only [xPtr_some, letH_def]
  refine (rdPick_ok (r1.app _) (by omega) 4).mono ?_
  rintro v h2 ⟨x, rfl, h0x, hlt, _, hK, hR, hl2⟩
  simp only [xInt_some]
  have hlt := hlt (by omega)
  simp at hl2
  have s2 : Same h.length h h2 := ⟨by omega, fun j hj => by rw [hK.eq j (by simp; omega) (by omega), app_lt (by omega)]; exact s1.eq j hj⟩
  have hv2 : h2[h1.length]? = some (.cells t_string [] false) := by rw [hK.eq _ (by simp) (by omega)]; simp
  refine F_spec_DrawFormatTexts.L4ind _ _ _ (J := fun (g : Nat) a4 n4 c4 e4 x10 h' => x10 = (g : Int) ∧ (g : Int) ≤ x ∧ Same h.length h h' ∧ h.length + 2 ≤ h'.length ∧ Rdr h' h.length (1 + g) ∧ ∃ l, n4 = l.length ∧ l.length = g ∧ (∀ z ∈ l, z ∈ textS) ∧ Vec t_string h' a4 n4 c4 (strs l) ∧ ∀ i, a4 = some (i, 0) → h.length < i) (fun g => x.toNat - g) ?_ 0 _ _ _ _ _ _
    ⟨rfl, by omega, s2, by omega, by simpa using hR, [], rfl, rfl, by simp, Vec.mk1 hv2, fun i hi => by cases hi; omega⟩
  rintro g a4 n4 c4 e4 x10 h' ⟨rfl, hg, hs, hll, hr, l, rfl, hlg, hz, hv, ha⟩ R hR'
  unfold F_spec_DrawFormatTexts.L4t
  refine bcase_dec (fun hlt => ?_) (fun hge => ?_)
  · simp only [letH_def]
    refine (rdOf_ok (n := 4) (p := 1 + g) (j := h'.length) (t := t_string) (l := textS) (hr.app _) (by omega) (by simp [textS, eS, flat]) (by omega) rfl (by omega)).mono ?_
    rintro v h3 ⟨z, hzz, rfl, hK3, hR3, hl3⟩
    simp at hl3
    simp only [xStr_some]
    have hv3 : Vec t_string h3 a4 l.length c4 (strs l) := hv.agree fun i hi => by
      have h1 := ha i hi; subst hi; have h2 := hv.lt
      rw [hK3.eq i (by simp; omega) (by omega), app_lt h2]
    refine hv3.push u_L_string c_string k_string b_string (by simp) rfl (by omega) (fun h4 hl4 hi4 hk4 => ?_)
    simp only [xSl_some]
    rw [wrap_nat (by omega)]
    refine hR' (g + 1) _ _ _ _ _ _ (by omega) ⟨rfl, by omega, ⟨by omega, fun j hj => ?_⟩, by omega, ?_, l ++ [z], by simp, by simp [hlg], ?_, Vec.mk1 (by simpa [strs] using hi4), fun i hi => by cases hi; omega⟩
    · rw [hk4 j (by omega) fun i hi => by have := ha i hi; omega, hK3.eq j (by simp; omega) (by omega), app_lt (by omega)]; exact hs.eq j hj
    · refine Rdr.agree (h := h3) (by rw [show 1 + (g + 1) = 1 + g + 1 by omega]; exact hR3) (fun j hj => hk4 j (by omega) fun i hi => by have := ha i hi; omega) (by omega)
    · intro y hy
      rcases List.mem_append.1 hy with hy | hy
      · exact hz y hy
      · simp at hy; subst hy; exact hzz
  · exact F_spec_DrawFormatTexts.A4x0i _ _ _ _ _ _ ⟨hs, _, _, _, _, l, rfl, hv.row (by simp), by omega, hz⟩
/-- Lists are the same as soon as they agree as far as both go and have one length. -/
theorem inSame_ok {h : AHeap} {a0 a1 : Pt} {n0 n1 c0 c1 : Nat} {e0 e1 : Bool} {l0 l1 : List Int} (r0 : Row h.length h a0 n0 (flat eI l0)) (r1 : Row h.length h a1 n1 (flat eI l1)) (hn : n0 ≤ 4611686018427387904) :
    SCall pg n_laws_inSame [.slice a0 n0 c0 e0, .slice a1 n1 c1 e1] h fun v h' => v = .bool (decide (l0 = l1)) ∧ h' = h := by
  have h0 : l0.length = n0 := by have := r0.1; rw [flat_length eI_len] at this; omega
  have h1 : l1.length = n1 := by have := r1.1; rw [flat_length eI_len] at this; omega
  apply F_laws_inSame.call
  have hm : (if ((n1 : Nat) : Int) < ((n0 : Nat) : Int) then ((n1 : Nat) : Int) else ((n0 : Nat) : Int)) = ((min n0 n1 : Nat) : Int) := by split <;> omega
  rw [hm]
  refine F_laws_inSame.L2ind _ _ _ _ _ _ _ _ _ _ (J := fun (g : Nat) x11 h' => x11 = (g : Int) ∧ g ≤ min n0 n1 ∧ h' = h ∧ l0.take g = l1.take g) (fun g => min n0 n1 - g) ?_ 0 _ _ ⟨rfl, by omega, rfl, by simp⟩
  rintro g x5 h' ⟨rfl, hg, rfl, ht⟩ R hR
  unfold F_laws_inSame.L2t
  refine bcase_dec (fun hlt => ?_) (fun hge => ?_)
  · obtain ⟨i, o, hgl, rfl, hi, hc⟩ := Row.el1 eI_len r0 (k := g) (by omega)
    obtain ⟨i', o', hgl', rfl, hi', hc'⟩ := Row.el1 eI_len r1 (k := g) (by omega)
    simp only [xSome_some, Int.toNat_natCast, hc, hc', eI, List.getElem?_cons_zero, xInt_some]
    refine ⟨by omega, by omega, by trivial, bcase_nbeq (fun hne => ?_) (fun he => ?_)⟩
    · have : l0 ≠ l1 := fun e => by subst e; exact hne rfl
      simp [this]
    · rw [wrap_nat (by omega)]
      refine hR (g + 1) _ _ (by omega) ⟨rfl, by omega, rfl, ?_⟩
      rw [List.take_succ_eq_append_getElem hgl, List.take_succ_eq_append_getElem hgl', ht, he]
  · apply F_laws_inSame.A2x0i
    refine ⟨?_, rfl⟩
    congr 1
    by_cases hnn : n0 = n1
    · subst hnn
      rw [List.take_of_length_le (by omega), List.take_of_length_le (by omega)] at ht
      simp [ht]
    · have : l0 ≠ l1 := fun e => by subst e; omega
      simp [this]; omega
theorem inTexts_ok {h : AHeap} {a0 a1 : Pt} {n0 n1 c0 c1 : Nat} {e0 e1 : Bool} {l0 l1 : List (List Nat)} (r0 : Row h.length h a0 n0 (strs l0)) (r1 : Row h.length h a1 n1 (strs l1)) (hn : n0 ≤ 4611686018427387904) :
    SCall pg n_laws_inTexts [.slice a0 n0 c0 e0, .slice a1 n1 c1 e1] h fun v h' => v = .bool (decide (l0 = l1)) ∧ h' = h := by
  have h0 : l0.length = n0 := by have := r0.1; simpa using this
  have h1 : l1.length = n1 := by have := r1.1; simpa using this
  rw [← flat_eS] at r0 r1
  apply F_laws_inTexts.call
  have hm : (if ((n1 : Nat) : Int) < ((n0 : Nat) : Int) then ((n1 : Nat) : Int) else ((n0 : Nat) : Int)) = ((min n0 n1 : Nat) : Int) := by split <;> omega
  rw [hm]
  refine F_laws_inTexts.L2ind _ _ _ _ _ _ _ _ _ _ (J := fun (g : Nat) x11 h' => x11 = (g : Int) ∧ g ≤ min n0 n1 ∧ h' = h ∧ l0.take g = l1.take g) (fun g => min n0 n1 - g) ?_ 0 _ _ ⟨rfl, by omega, rfl, by simp⟩
  rintro g x5 h' ⟨rfl, hg, rfl, ht⟩ R hR
  unfold F_laws_inTexts.L2t
  refine bcase_dec (fun hlt => ?_) (fun hge => ?_)
  · obtain ⟨i, o, hgl, rfl, hi, hc⟩ := Row.el1 eS_len r0 (k := g) (by omega)
    obtain ⟨i', o', hgl', rfl, hi', hc'⟩ := Row.el1 eS_len r1 (k := g) (by omega)
    simp only [xSome_some, Int.toNat_natCast, hc, hc', eS, List.getElem?_cons_zero, xStr_some]
    refine ⟨by omega, by omega, by trivial, bcase_ndec (fun hne => ?_) (fun he => ?_)⟩
    · have : l0 ≠ l1 := fun e => by subst e; exact hne rfl
      simp [this]
    · rw [wrap_nat (by omega)]
      refine hR (g + 1) _ _ (by omega) ⟨rfl, by omega, rfl, ?_⟩
      rw [List.take_succ_eq_append_getElem hgl, List.take_succ_eq_append_getElem hgl', ht, he]
  · apply F_laws_inTexts.A2x0i
    refine ⟨?_, rfl⟩
    congr 1
    by_cases hnn : n0 = n1
    · subst hnn
      rw [List.take_of_length_le (by omega), List.take_of_length_le (by omega)] at ht
      simp [ht]
    · have : l0 ≠ l1 := fun e => by subst e; omega
      simp [this]; omega
/-- Words without spaces are told apart. -/
def wordy (s : List Nat) : Prop := s ≠ [] ∧ 32 ∉ s ∧ s ≠ [45]
theorem cut_word : ∀ {a b r r' : List Nat}, 32 ∉ a → 32 ∉ b → a ++ 32 :: r = b ++ 32 :: r' → a = b ∧ r = r'
  | [], [], _, _, _, _, h => by simp at h; exact ⟨rfl, h⟩
  | [], y :: b, _, _, _, hb, h => by simp at h; exact absurd (by simp [h.1]) hb
  | x :: a, [], _, _, ha, _, h => by simp at h; exact absurd (by simp [h.1]) ha
  | x :: a, y :: b, r, r', ha, hb, h => by
    simp at h ha hb
    obtain ⟨rfl, h⟩ := h
    obtain ⟨rfl, h2⟩ := cut_word ha.2 hb.2 h
    exact ⟨rfl, h2⟩
theorem cut_last : ∀ {a b r : List Nat}, 32 ∉ a → a ≠ b ++ 32 :: r := by
  intro a b r ha h
  subst h; simp at ha
theorem sp_cons (s t : List Nat) (l : List (List Nat)) : sp (s :: t :: l) = s ++ 32 :: sp (t :: l) := by simp [sp, List.intercalate]
theorem sp_one (s : List Nat) : sp [s] = s := by simp [sp, List.intercalate]
theorem sp_inj : ∀ {l l' : List (List Nat)}, (∀ s ∈ l, wordy s) → (∀ s ∈ l', wordy s) → l ≠ [] → l' ≠ [] → sp l = sp l' → l = l'
  | [], _, _, _, h, _, _ => absurd rfl h
  | _, [], _, _, _, h, _ => absurd rfl h
  | [s], [t], _, _, _, _, h => by simp [sp_one] at h; rw [h]
  | [s], t :: u :: l, hs, _, _, _, h => by rw [sp_one, sp_cons] at h; exact absurd h (cut_last (hs s (by simp)).2.1)
  | s :: u :: l, [t], _, ht, _, _, h => by rw [sp_one, sp_cons] at h; exact absurd h.symm (cut_last (ht t (by simp)).2.1)
  | s :: u :: l, t :: u' :: l', hs, ht, _, _, h => by
    rw [sp_cons, sp_cons] at h
    obtain ⟨rfl, h2⟩ := cut_word (hs s (by simp)).2.1 (ht t (by simp)).2.1 h
    rw [sp_inj (fun x hx => hs x (List.mem_cons_of_mem _ hx)) (fun x hx => ht x (List.mem_cons_of_mem _ hx)) (by simp) (by simp) h2]
theorem sp_ne {l : List (List Nat)} (hl : ∀ s ∈ l, wordy s) (h : l ≠ []) : sp l ≠ [] ∧ sp l ≠ [45] := by
  match l, h with
  | [s], _ => rw [sp_one]; exact ⟨(hl s (by simp)).1, (hl s (by simp)).2.2⟩
  | s :: t :: l, _ =>
    rw [sp_cons]
    refine ⟨by simp, fun e => ?_⟩
    match s, (hl s (by simp)).1 with
    | [x], _ => simp at e
    | x :: y :: s, _ => simp at e
theorem dash_inj {l l' : List (List Nat)} (hl : ∀ s ∈ l, wordy s) (hl' : ∀ s ∈ l', wordy s) : dash (sp l) = dash (sp l') ↔ l = l' := by
  constructor
  · intro h
    by_cases e : l = []
    · by_cases e' : l' = []
      · rw [e, e']
      · subst e
        have := sp_ne hl' e'
        have h0 : dash (sp []) = [45] := by simp [dash, sp, List.intercalate]
        rw [h0, dash, if_neg this.1] at h
        exact absurd h.symm this.2
    · have h1 := sp_ne hl e
      by_cases e' : l' = []
      · subst e'
        have h0 : dash (sp []) = [45] := by simp [dash, sp, List.intercalate]
        rw [h0, dash, if_neg h1.1] at h
        exact absurd h h1.2
      · have h2 := sp_ne hl' e'
        rw [dash, dash, if_neg h1.1, if_neg h2.1] at h
        exact sp_inj hl hl' e e' h
  · rintro rfl; rfl
theorem text_wordy : ∀ s ∈ textS, wordy s := by
  intro s hs
  simp [textS] at hs
  rcases hs with rfl | rfl | rfl | rfl <;> simp [wordy]
def numT : List (List Nat) := [[48], [49], [45, 49], [49, 50], [51], [45, 57, 50, 50, 51, 51, 55, 50, 48, 51, 54, 56, 53, 52, 55, 55, 53, 56, 48, 56], [57]]
theorem num_text : numS.map itoaN = numT := by
  simp only [numS, numT, List.map_cons, List.map_nil]
  rw [itoaN_pos (by omega), itoaN_pos (by omega), itoaN_neg (by omega), itoaN_pos (by omega), itoaN_pos (by omega), itoaN_neg (by omega), itoaN_pos (by omega)]
  simp [decN_ge, decN_lt]
theorem num_wordy {l : List Int} (hl : ∀ z ∈ l, z ∈ numS) : ∀ s ∈ l.map itoaN, wordy s := by
  intro s hs
  obtain ⟨z, hz, rfl⟩ := List.mem_map.1 hs
  have : itoaN z ∈ numT := by rw [← num_text]; exact List.mem_map_of_mem (hl z hz)
  simp [numT] at this
  rcases this with e | e | e | e | e | e | e <;> rw [e] <;> simp [wordy]
theorem num_inj {x y : Int} (hx : x ∈ numS) (hy : y ∈ numS) (h : itoaN x = itoaN y) : x = y := by
  have e := num_text
  simp only [numS, numT, List.map_cons, List.map_nil, List.cons.injEq, and_true] at e
  obtain ⟨e0, e1, e2, e3, e4, e5, e6⟩ := e
  simp [numS] at hx hy
  rcases hx with rfl | rfl | rfl | rfl | rfl | rfl | rfl <;> rcases hy with rfl | rfl | rfl | rfl | rfl | rfl | rfl <;> first | rfl | (exfalso; simp only [e0, e1, e2, e3, e4, e5, e6] at h; simp at h)
theorem nums_inj : ∀ {l l' : List Int}, (∀ z ∈ l, z ∈ numS) → (∀ z ∈ l', z ∈ numS) → l.map itoaN = l'.map itoaN → l = l'
  | [], [], _, _, _ => rfl
  | [], _ :: _, _, _, h => by simp at h
  | _ :: _, [], _, _, h => by simp at h
  | x :: l, y :: l', hl, hl', h => by
    simp at h
    rw [num_inj (hl x (by simp)) (hl' y (by simp)) h.1, nums_inj (fun z hz => hl z (by simp [hz])) (fun z hz => hl' z (by simp [hz])) h.2]
theorem num_bounds {l : List Int} (hl : ∀ z ∈ l, z ∈ numS) : ∀ z ∈ l, -9223372036854775808 ≤ z ∧ z ≤ 9223372036854775807 := by
  intro z hz
  have := hl z hz
  simp [numS] at this
  omega

theorem lawTexts {h : AHeap} {a a' : Pt} {n c n' c' : Nat} {e e' : Bool} {l l' : List Nat} {k : Nat} (hk : h[k]? = some (tabAmb pg)) (r : Row h.length h a n (flat eB l)) (r' : Row h.length h a' n' (flat eB l')) (hb : ∀ b ∈ l, b < 256) (hb' : ∀ b ∈ l', b < 256) (hnc : n ≤ c) (hnc' : n' ≤ c') :
    SCall pg n_laws_FnTexts [.slice a n c e, .slice a' n' c' e'] h fun v _ => v = .bool true := by
  apply F_laws_FnTexts.call
  refine bcase_dec (fun _ => rfl) (fun _ => bcase_dec (fun _ => rfl) (fun _ => ?_))
  apply F_laws_FnTexts.J3i
  refine (drawNumbers_ok r hb hnc).mono ?_
  rintro v h1 ⟨s1, a1, n1, c1, e1, l1, rfl, f1, hl1, hz1⟩
  simp only [xSl_some]
  refine (drawNumbers_ok ((r'.same s1).mono s1.le) hb' hnc').mono ?_
  rintro v h2 ⟨s2, a2, n2, c2, e2, l2, rfl, f2, hl2, hz2⟩
  simp only [xSl_some]
  have t2 := s1.trans (s2.mono s1.le)
  refine (drawTexts_ok ((r.same t2).mono t2.le) hb hnc).mono ?_
  rintro v h3 ⟨s3, a3, n3, c3, e3, l3, rfl, f3, hl3, hz3⟩
  simp only [xSl_some]
  have t3 := t2.trans (s3.mono t2.le)
  refine (drawTexts_ok ((r'.same t3).mono t3.le) hb' hnc').mono ?_
  rintro v h4 ⟨s4, a4, n4, c4, e4, l4, rfl, f4, hl4, hz4⟩
  simp only [xSl_some]
  have t4 := t3.trans (s4.mono t3.le)
  have g1 : Row h4.length h4 a1 n1 (flat eI l1) := ((((f1.same s2).mono s2.le).same s3).mono s3.le |>.same s4).mono s4.le
  have g2 : Row h4.length h4 a2 n2 (flat eI l2) := (((f2.same s3).mono s3.le).same s4).mono s4.le
  have g3 : Row h4.length h4 a3 n3 (strs l3) := (f3.same s4).mono s4.le
  have m1 : l1.length = n1 := by have := g1.1; rw [flat_length eI_len] at this; omega
  have m2 : l2.length = n2 := by have := g2.1; rw [flat_length eI_len] at this; omega
  have m3 : l3.length = n3 := by have := g3.1; simpa using this
  have m4 : l4.length = n4 := by have := f4.1; simpa using this
  have k4 : h4[k]? = some (tabAmb pg) := by rw [t4.eq k (Own.lt hk)]; exact hk
  have b1 := num_bounds hz1
  have b2 := num_bounds hz2
  have tl : ∀ l : List (List Nat), (∀ z ∈ l, z ∈ textS) → tot l ≤ l.length * 4 := by
    intro l hl
    induction l with
    | nil => simp [tot]
    | cons s l ih =>
      have h1 := ih fun z hz => hl z (by simp [hz])
      have h2 := hl s (by simp)
      have : s.length ≤ 4 := by simp [textS] at h2; rcases h2 with rfl | rfl | rfl | rfl <;> simp
      simp only [tot, List.map_cons, List.sum_cons, List.length_cons] at *
      omega
  have q3 := tl l3 hz3
  have q4 := tl l4 hz4
  refine (implNumbers_ok (k := k) k4 g1 (by omega) b1).mono ?_
  rintro v h5 ⟨rfl, s5⟩
  simp only [xStr_some]
  refine (specNumbers_ok ((g1.same s5).mono s5.le) (by omega) b1).mono ?_
  rintro v h6 ⟨rfl, s6⟩
  have u6 := s5.trans (s6.mono s5.le)
  simp only [xStr_some, decide_true, bcase_true]
  refine (implTexts_ok ((g3.same u6).mono u6.le) (by omega)).mono ?_
  rintro v h7 ⟨rfl, rfl⟩
  simp only [xStr_some]
  refine (specTexts_ok ((g3.same u6).mono u6.le) (by omega)).mono ?_
  rintro v h8 ⟨rfl, rfl⟩
  simp only [xStr_some, decide_true, bcase_true]
  refine (implNumbers_ok (k := k) (by rw [u6.eq k (Own.lt k4)]; exact k4) ((g1.same u6).mono u6.le) (by omega) b1).mono ?_
  rintro v h9 ⟨rfl, s9⟩
  have u9 := u6.trans (s9.mono u6.le)
  simp only [xStr_some]
  refine (implNumbers_ok (k := k) (by rw [u9.eq k (Own.lt k4)]; exact k4) ((g2.same u9).mono u9.le) (by omega) b2).mono ?_
  rintro v h10 ⟨rfl, s10⟩
  have u10 := u9.trans (s10.mono u9.le)
  simp only [xStr_some]
  refine (inSame_ok ((g1.same u10).mono u10.le) ((g2.same u10).mono u10.le) (by omega)).mono ?_
  rintro v h11 ⟨rfl, rfl⟩
  simp only [xBool_some]
  have e1 : decide (dash (sp (l1.map itoaN)) = dash (sp (l2.map itoaN))) = decide (l1 = l2) := by
    rw [decide_eq_decide, dash_inj (num_wordy hz1) (num_wordy hz2)]
    exact ⟨fun h => nums_inj hz1 hz2 h, fun h => by rw [h]⟩
  rw [e1, beq_self_eq_true, bcase_true]
  refine (implTexts_ok ((g3.same u10).mono u10.le) (by omega)).mono ?_
  rintro v h12 ⟨rfl, rfl⟩
  simp only [xStr_some]
  refine (implTexts_ok ((f4.same u10).mono u10.le) (by omega)).mono ?_
  rintro v h13 ⟨rfl, rfl⟩
  simp only [xStr_some]
  refine (inTexts_ok ((g3.same u10).mono u10.le) ((f4.same u10).mono u10.le) (by omega)).mono ?_
  rintro v h14 ⟨rfl, rfl⟩
  simp only [xBool_some]
  have e2 : decide (dash (sp l3) = dash (sp l4)) = decide (l3 = l4) := by
    rw [decide_eq_decide]; exact dash_inj (fun s hs => text_wordy s (hz3 s hs)) (fun s hs => text_wordy s (hz4 s hs))
  rw [e2, beq_self_eq_true]
theorem bytes_of {P : Program} {h : AHeap} {f : Nat} {e : TypeId} (he : P.underlying e = some (.int .u8)) : ∀ (vs : List (List AVal)) (ds : List Dt), ds.length = vs.length → (∀ (i : Nat) (v : List AVal) (x : Dt), vs[i]? = some v → ds[i]? = some x → v.length = P.cellsOf e ∧ rd P h (f + 1) e v x) →
    ∃ l : List Nat, vs.flatten = flat eB l ∧ ∀ z ∈ l, z < 256
  | [], _, _, _ => ⟨[], rfl, by simp⟩
  | v :: vs, [], h, _ => by simp at h
  | v :: vs, d :: ds, hl, hall => by
    obtain ⟨l, hfl, hs⟩ := bytes_of he vs ds (by simpa using hl) fun i v x hv hx => hall (i + 1) v x (by simpa using hv) (by simpa using hx)
    have h0 := (hall 0 v d rfl rfl).2
    simp only [rd, he] at h0
    obtain ⟨z, rfl, _, hw⟩ := h0
    simp [Lit.wf, IntKind.min, IntKind.max, IntKind.signed, IntKind.bits] at hw
    refine ⟨z.toNat :: l, ?_, fun x hx => ?_⟩
    · simp [hfl, eB]; omega
    · rcases List.mem_cons.1 hx with rfl | hx
      · omega
      · exact hs x hx
theorem rd_bytes {P : Program} {h : AHeap} {f : Nat} {t e : TypeId} {cs : List AVal} {d : Dt} (ht : P.underlying t = some (.slice e)) (he : P.underlying e = some (.int .u8)) (hc : P.cellsOf e = 1) (hr : rd P h (f + 2) t cs d) :
    ∃ a n c ex, ∃ l : List Nat, cs = [.slice a n c ex] ∧ Row h.length h a n (flat eB l) ∧ ∀ z ∈ l, z < 256 := by
  unfold rd at hr
  rw [ht] at hr
  obtain ⟨a, n, c, ex, ds, vs, rfl, rfl, hdl, hn, hvl, hrow, hall⟩ := hr
  obtain ⟨l, hfl, hs⟩ := bytes_of (f := f) he vs ds (by omega) hall
  rw [hc, Nat.mul_one, hfl] at hrow
  exact ⟨a, n, c, ex, l, rfl, hrow, hs⟩
end Go.Sim
