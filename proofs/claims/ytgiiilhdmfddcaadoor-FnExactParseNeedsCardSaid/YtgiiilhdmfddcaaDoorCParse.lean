/- A part of the proof of a statement of this seat: see the text that holds the theorem. No condition. -/
import Derived.Test.YtgiiilhdmfddcaaDoorPTCParse
import Derived.Test.YtgiiilhdmfddcaaDoorCSplit
import Derived.Test.YtgiiilhdmfddcaaDoorC6
set_option linter.all false
set_option linter.unusedVariables false
set_option linter.unusedSimpArgs false
set_option maxRecDepth 20000
namespace Go.Sim
open Go Go.RowKit

abbrev Nd := List Nat × List Nat
theorem l1In_ok {h : AHeap} {x a b : Int} : SCall pg n_spec_l1In [.int .i64 x, .int .i64 a, .int .i64 b] h fun v h' => v = .bool (decide (a ≤ x ∧ x ≤ b)) ∧ h' = h := by
  apply F_spec_l1In.call
  refine bcase_dec (fun h1 => ?_) (fun h1 => ?_)
  · have : a ≤ x := h1
    simp [this]
  · have : ¬ a ≤ x := h1
    simp [this]
def isCls (s : List Nat) : Bool := match s with | [c] => decide (65 ≤ c ∧ c ≤ 84) | _ => false
theorem isClass_ok {h : AHeap} (s : List Nat) : SCall pg n_impl_isClass [.str s] h fun v h' => v = .bool (isCls s) ∧ h' = h := by
  apply F_impl_isClass.call
  match s with
  | [] => simp [isCls]
  | [c] =>
    simp only [List.length_cons, List.length_nil, show ((0 + 1 : Nat) : Int) = 1 from rfl, beq_self_eq_true, bcase_true]
    have e1 : natLess [c] [65] = decide (c < 65) := by simp [natLess]
    have e2 : natLess [c] [84] = decide (c < 84) := by simp [natLess]
    rw [e1, e2]
    refine bcase_ndec (fun h1 => ?_) (fun h1 => ?_)
    · refine ⟨?_, by trivial⟩
      congr 1
      simp [isCls]
      rw [Bool.eq_iff_iff]; simp; omega
    · refine ⟨?_, by trivial⟩
      simp [isCls]; omega
  | c :: d :: r =>
    refine bcase_beq (fun h1 => ?_) (fun h1 => ⟨rfl, rfl⟩)
    simp at h1; omega
theorem l3Capital_ok {h : AHeap} (s : List Nat) (hb : ∀ b ∈ s, b < 256) : SCall pg n_spec_l3Capital [.str s] h fun v h' => v = .bool (isCls s) ∧ h' = h := by
  apply F_spec_l3Capital.call
  match s, hb with
  | [], _ => simp [isCls]
  | [c], hb =>
    have hc := hb c (by simp)
    simp only [List.length_cons, List.length_nil, show ((0 + 1 : Nat) : Int) = 1 from rfl, beq_self_eq_true, bcase_true]
    refine ⟨⟨by omega, by simp⟩, ?_⟩
    simp only [Int.toNat_zero, List.getD_cons_zero]
    rw [IntWalk.i64_in _ (by omega)]
    refine l1In_ok.mono ?_
    rintro v h' ⟨rfl, rfl⟩
    simp only [xBool_some]
    refine ⟨?_, by trivial⟩
    congr 1
    simp [isCls]; rw [Bool.eq_iff_iff]; simp; omega
  | c :: d :: r, _ =>
    refine bcase_beq (fun h1 => ?_) (fun h1 => ⟨rfl, rfl⟩)
    simp at h1; omega
/-- What ParseNeed answers. -/
def ParsedQ (s : List Nat) (h : AHeap) (v : AVal) (h' : AHeap) : Prop := Same h.length h h' ∧ ((∃ p, needP s = some p ∧ v = .tup [.agg [.str p.1, .str p.2], .bool true]) ∨ (needP s = none ∧ v = .tup [.agg [.str [], .str []], .bool false]))
theorem needP_some {c : Nat} {t : List Nat} (h1 : 65 ≤ c ∧ c ≤ 84) (h2 : tyOk t = true) : needP (c :: 32 :: t) = some ([c], t) := by unfold needP; simp [h1, h2]
theorem parse_end {h h' : AHeap} {s : List Nat} {x y : AVal} (hs : Same h.length h h') (hi : h'[h.length]? = some (.cells t_impl_Need [x, y] false)) (hn : needP s = none) :
    xHeap (hStore h' (.ptr (some (List.length h, 0))) [.str [], .str []]) fun h_1 => xRow (hRow h_1 (.ptr (some (List.length h, 0))) 2) fun cs_2 => xCons cs_2 fun c_3 r_4 => xStr (some c_3) fun s_5 => xCons r_4 fun c_6 r_7 => xStr (some c_6) fun s_8 => xNil r_7 (ParsedQ s h (.tup [.agg [.str s_5, .str s_8], .bool false]) h_1) := by
  rw [hStore_of hi (by simp)]
  simp only [xHeap_some]
  rw [hRow_of (set_get hi) (by simp [putRow])]
  simp only [putRow, List.take_zero, List.nil_append, List.length_cons, List.length_nil, List.cons_append, List.drop_succ_cons, List.drop_zero, List.drop_nil, List.append_nil, List.take_succ_cons, xRow_some, xCons_cons, xStr_some, xNil_nil]
  exact ⟨hs.trans (Same.set (Nat.le_refl _) _), .inr ⟨hn, rfl⟩⟩
theorem parse_good {h h' : AHeap} {s c t : List Nat} {x y : AVal} (hs : Same h.length h h') (hi : h'[h.length]? = some (.cells t_impl_Need [x, y] false)) (hn : needP s = some (c, t)) :
    xHeap (hStore h' (.ptr (some (List.length h, 0))) [.str c, .str t]) fun h_1 => xRow (hRow h_1 (.ptr (some (List.length h, 0))) 2) fun cs_2 => xCons cs_2 fun c_3 r_4 => xStr (some c_3) fun s_5 => xCons r_4 fun c_6 r_7 => xStr (some c_6) fun s_8 => xNil r_7 (ParsedQ s h (.tup [.agg [.str s_5, .str s_8], .bool true]) h_1) := by
  rw [hStore_of hi (by simp)]
  simp only [xHeap_some]
  rw [hRow_of (set_get hi) (by simp [putRow])]
  simp only [putRow, List.take_zero, List.nil_append, List.length_cons, List.length_nil, List.cons_append, List.drop_succ_cons, List.drop_zero, List.drop_nil, List.append_nil, List.take_succ_cons, xRow_some, xCons_cons, xStr_some, xNil_nil]
  exact ⟨hs.trans (Same.set (Nat.le_refl _) _), .inl ⟨_, hn, rfl⟩⟩
theorem parseNeed_ok {h : AHeap} (s : List Nat) (hs : s.length ≤ 1048576) : SCall pg n_impl_ParseNeed [.str s] h (ParsedQ s h) := by
  apply F_impl_ParseNeed.call
  simp only [letH_def]
  have h0i : (h ++ [AObj.cells t_impl_Need [.str [], .str []] false])[h.length]? = some (.cells t_impl_Need [.str [], .str []] false) := by simp
  have s0 : Same h.length h (h ++ [AObj.cells t_impl_Need [.str [], .str []] false]) := Same.app (Nat.le_refl _) _
  refine (cut_ok hs).mono ?_
  rintro v h' ⟨rfl, ⟨a, r, rfl, hc, rfl⟩ | ⟨hc, rfl⟩⟩
  · simp only [xTup_tup, xCons_cons, xStr_some, xBool_some, xNil_nil, Bool.not_true, bcase_false]
    refine (isClass_ok a).mono ?_
    rintro v h2 ⟨rfl, rfl⟩
    simp only [xBool_some]
    refine bcase_not (fun hb => ?_) (fun hb => ?_)
    · refine parse_end s0 h0i ?_
      cases hq : needP (a ++ 32 :: r) with
      | none => rfl
      | some p =>
        exfalso
        unfold needP at hq
        split at hq
        · rename_i x y t he
          split at hq
          · rename_i hcnd
            obtain ⟨rfl, h65, _⟩ := hcnd
            match a, hc, he, hb with
            | [], _, he, _ => simp at he; omega
            | [z], _, he, hb => simp at he; obtain ⟨rfl, _⟩ := he; simp [isCls] at hb; omega
            | z :: w :: a, hc, he, _ => simp at he hc; exact hc.2.1 he.2.1.symm
          · cases hq
        · cases hq
    · obtain ⟨z, rfl, hz⟩ : ∃ z, a = [z] ∧ (65 ≤ z ∧ z ≤ 84) := by
        unfold isCls at hb
        split at hb
        · exact ⟨_, rfl, by simpa using hb⟩
        · cases hb
      refine (typeValid_ok r _).mono ?_
      rintro v h3 ⟨rfl, s3⟩
      simp only [xBool_some]
      have h3i : h3[h.length]? = some (.cells t_impl_Need [.str [], .str []] false) := by rw [s3.eq _ (by simp)]; exact h0i
      have s03 : Same h.length h h3 := s0.trans (s3.mono (by simp))
      refine bcase_not (fun hb => ?_) (fun hb => ?_)
      · refine parse_end s03 h3i ?_
        simp [needP, hb]
      · apply F_impl_ParseNeed.J4i
        exact parse_good s03 h3i (needP_some hz hb)
  · simp only [xTup_tup, xCons_cons, xStr_some, xBool_some, xNil_nil, Bool.not_false, bcase_true]
    refine parse_end s0 h0i ?_
    cases hq : needP s with
    | none => rfl
    | some p =>
      exfalso
      unfold needP at hq
      split at hq
      · split at hq
        · rename_i hcnd; exact hc (by simp [hcnd.1])
        · cases hq
      · cases hq
theorem sParseNeed_ok {h : AHeap} (s : List Nat) (hs : s.length ≤ 1048576) (hb : ∀ b ∈ s, b < 256) : SCall pg n_spec_ParseNeed [.str s] h (ParsedQ s h) := by
  apply F_spec_ParseNeed.call
  simp only [letH_def]
  have h0i : (h ++ [AObj.cells t_impl_Need [.str [], .str []] false])[h.length]? = some (.cells t_impl_Need [.str [], .str []] false) := by simp
  have s0 : Same h.length h (h ++ [AObj.cells t_impl_Need [.str [], .str []] false]) := Same.app (Nat.le_refl _) _
  match s, hs, hb with
  | [], _, _ => exact bcase_dec (fun _ => parse_end s0 h0i rfl) (fun h1 => by simp at h1)
  | [a], _, _ => exact bcase_dec (fun _ => parse_end s0 h0i rfl) (fun h1 => by simp at h1)
  | [a, b], _, _ =>
    refine bcase_dec (fun _ => parse_end s0 h0i ?_) (fun h1 => by simp at h1)
    have : tyOk [] = false := by
      cases ht : tyOk [] with
      | false => rfl
      | true => exact absurd rfl (tyOk_ne ht)
    simp [needP, this]
  | a :: b :: c :: t, hs, hb =>
    refine bcase_dec (fun h1 => by simp at h1; omega) (fun h1 => ?_)
    refine ⟨⟨by omega, by simp; omega⟩, ?_⟩
    simp only [show Int.toNat 1 = 1 from rfl, List.getD_cons_succ, List.getD_cons_zero]
    refine bcase_nbeq (fun hne => parse_end s0 h0i ?_) (fun he => ?_)
    · have : ¬ b = 32 := by omega
      simp [needP, this]
    · have hb32 : b = 32 := by omega
      subst hb32
      refine ⟨⟨by omega, by omega, by simp; omega⟩, ?_⟩
      rw [sub_hd]
      refine (l3Capital_ok [a] (fun x hx => hb x (by simp at hx; simp [hx]))).mono ?_
      rintro v h2 ⟨rfl, rfl⟩
      simp only [xBool_some]
      refine bcase_not (fun hc => parse_end s0 h0i ?_) (fun hc => ?_)
      · have : ¬ (65 ≤ a ∧ a ≤ 84) := by simp [isCls] at hc; omega
        simp [needP, this]
      · have ha : 65 ≤ a ∧ a ≤ 84 := by simpa [isCls] using hc
        refine ⟨⟨by omega, by simp; omega, by omega⟩, ?_⟩
        rw [sub_from (s := a :: 32 :: c :: t) (z := 2) (k := 2) rfl (by simp)]
        simp only [List.drop_succ_cons, List.drop_zero]
        refine (sTypeValid_ok (c :: t) (by simp at hs ⊢; omega) _).mono ?_
        rintro v h3 ⟨rfl, s3⟩
        simp only [xBool_some]
        have h3i : h3[h.length]? = some (.cells t_impl_Need [.str [], .str []] false) := by rw [s3.eq _ (by simp)]; exact h0i
        have s03 : Same h.length h h3 := s0.trans (s3.mono (by simp))
        refine bcase_not (fun hv => parse_end s03 h3i ?_) (fun hv => ?_)
        · simp [needP, hv]
        · apply F_spec_ParseNeed.J3i
          rw [sub_hd, sub_from (s := a :: 32 :: c :: t) (z := 2) (k := 2) rfl (by simp)]
          simp only [List.drop_succ_cons, List.drop_zero]
          exact ⟨⟨by omega, by omega, by simp; omega⟩, ⟨by omega, by simp; omega, by omega⟩, parse_good s03 h3i (needP_some ha hv)⟩

theorem u_L_Need : pg.underlying t_L_impl_Need = some (.slice t_impl_Need) := by kernel_rfl
theorem c_Need : pg.cellsOf t_impl_Need = 2 := by kernel_rfl
theorem k_Need : pg.okElem t_impl_Need = true := by kernel_rfl
theorem b_Need : pg.bytesOf t_impl_Need ≤ 127 := Nat.le_of_ble_eq_true (by kernel_rfl)
/-- A row of its own, or nothing. -/
def FreshR {α : Type} (ty : TypeId) (enc : α → List AVal) (b : Nat) (h : AHeap) (a : Pt) (n : Nat) (l : List α) : Prop := l.length = n ∧ (n = 0 ∨ ∃ i, a = some (i, 0) ∧ b ≤ i ∧ h[i]? = some (.cells ty (flat enc l) false))
theorem FreshR.row {α : Type} {ty : TypeId} {enc : α → List AVal} {w b : Nat} {h : AHeap} {a : Pt} {n : Nat} {l : List α} (hw : ∀ x, (enc x).length = w) (f : FreshR ty enc b h a n l) : Row h.length h a (n * w) (flat enc l) := by
  obtain ⟨hl, h0 | ⟨i, ha, hb, hi⟩⟩ := f
  · subst h0
    have : l = [] := List.eq_nil_of_length_eq_zero hl
    subst this; simp; exact Row.nil
  · rw [ha]; exact (Vec.mk1 (n := 0) (c := 0) hi).row (by rw [flat_length hw, hl])
theorem FreshR.same {α : Type} {ty : TypeId} {enc : α → List AVal} {b : Nat} {h h' : AHeap} {a : Pt} {n : Nat} {l : List α} (f : FreshR ty enc b h a n l) (s : Same h.length h h') : FreshR ty enc b h' a n l :=
  ⟨f.1, f.2.imp id fun ⟨i, ha, hb, hi⟩ => ⟨i, ha, hb, by rw [s.eq i (Own.lt hi)]; exact hi⟩⟩
/-- What ParseNeeds answers. -/
def ParsedsQ (s : List Nat) (h : AHeap) (v : AVal) (h' : AHeap) : Prop := Same h.length h h' ∧ ∃ a n c e, v = .tup [.slice a n c e, .bool (needsP s).2] ∧ FreshR t_impl_Need eP h.length h' a n (needsP s).1
theorem needsP_not {s : List Nat} (h : s ≠ [45]) (hn : (splitN 38 s).mapM needP = none) : needsP s = ([], false) := by unfold needsP; rw [if_neg h, hn]
theorem needsP_yes {s : List Nat} {l : List Nd} (h : s ≠ [45]) (hn : (splitN 38 s).mapM needP = some l) : needsP s = (l, true) := by unfold needsP; rw [if_neg h, hn]
theorem mapM_take_len {α β : Type} {f : α → Option β} : ∀ {l : List α} {r : List β}, l.mapM f = some r → r.length = l.length
  | [], r, h => by simp at h; simp [h]
  | a :: l, r, h => by
    simp only [List.mapM_cons] at h
    cases hf : f a with
    | none => rw [hf] at h; cases h
    | some y =>
      rw [hf] at h
      cases hl : l.mapM f with
      | none => rw [hl] at h; cases h
      | some ys => rw [hl] at h; simp at h; subst h; simp [mapM_take_len hl]
theorem splitN_byte {c : Nat} {s : List Nat} (hb : ∀ b ∈ s, b < 256) : ∀ p ∈ splitN c s, ∀ b ∈ p, b < 256 := by
  induction s with
  | nil => intro p hp; simp [splitN] at hp; simp [hp]
  | cons x s ih =>
    have ih := ih fun b h => hb b (by simp [h])
    intro p hp
    simp only [splitN] at hp
    by_cases hx : x = c
    · simp only [hx, if_true] at hp
      rcases List.mem_cons.1 hp with rfl | hp
      · simp
      · exact ih p hp
    · simp only [if_neg hx] at hp
      cases hs : splitN c s with
      | nil => exact absurd hs (splitN_ne c s)
      | cons q r =>
        rw [hs] at hp ih
        rcases List.mem_cons.1 hp with rfl | hp
        · intro b hbm
          rcases List.mem_cons.1 hbm with rfl | hbm
          · exact hb _ (by simp)
          · exact ih q (by simp) b hbm
        · exact ih p (by simp [hp])
theorem needs_step {s : List Nat} {g : Nat} (hg : g < (splitN 38 s).length) {l : List Nd} (hl : ((splitN 38 s).take g).mapM needP = some l) :
    ((splitN 38 s).take (g + 1)).mapM needP = (needP (splitN 38 s)[g]).map fun y => l ++ [y] := by
  rw [List.take_succ_eq_append_getElem hg, mapM_snoc, hl]; rfl
theorem parseNeeds_ok {h : AHeap} (s : List Nat) (hs : s.length ≤ 1048576) : SCall pg n_impl_ParseNeeds [.str s] h (ParsedsQ s h) := by
  apply F_impl_ParseNeeds.call
  simp only [letH_def]
  have hz0 : (h ++ [AObj.cells t_impl_Need [] false])[h.length]? = some (.cells t_impl_Need [] false) := by simp
  refine bcase_dec (fun he => ?_) (fun hne => ?_)
  · have e1 : needsP s = ([], true) := by unfold needsP; rw [if_pos he]
    exact ⟨Same.app (Nat.le_refl _) _, some (h.length, 0), 0, 0, true, by rw [e1], by rw [e1]; exact ⟨rfl, .inl rfl⟩⟩
  · refine (split_ok hs).mono ?_
    rintro v h1 ⟨s1, j, cpj, e, rfl, hj, hrow⟩
    simp at hj
    simp only [xSl_some]
    have hLl : (splitN 38 s).length ≤ 1048577 := by rw [splitN_length]; have := List.count_le_length (a := 38) (l := s); omega
    have hmem : ∀ p ∈ splitN 38 s, p.length ≤ 1048576 := fun p hp => by have := splitN_mem hp; omega
    generalize hL : splitN 38 s = L at hrow hLl hmem
    have s01 : Same h.length h h1 := (Same.app (Nat.le_refl _) _).trans (s1.mono (by simp))
    have hz : h1[h.length]? = some (.cells t_impl_Need [] false) := by rw [s1.eq _ (by simp)]; exact hz0
    have hjl := Own.lt hrow
    refine F_impl_ParseNeeds.L5ind _ _ _ _ _ _ (J := fun (g : Nat) a4 n4 c4 e4 x16 h' => x16 = (g : Int) ∧ g ≤ L.length ∧ Same h.length h h' ∧ h'[j]? = some (.cells t_string (flat eS L) false) ∧ ∃ l, (L.take g).mapM needP = some l ∧ n4 = g ∧ l.length = g ∧ Vec t_impl_Need h' a4 n4 c4 (flat eP l) ∧ (∀ i, a4 = some (i, 0) → h.length ≤ i ∧ i ≠ j)) (fun g => L.length - g) ?_ 0 _ _ _ _ _ _
      ⟨rfl, by omega, s01, hrow, [], rfl, rfl, rfl, Vec.mk1 hz, fun i hi => by cases hi; omega⟩
    rintro g a4 n4 c4 e4 x16 h' ⟨rfl, hg, hS, hr, l, hl, rfl, hll, hv, ha⟩ R hR
    unfold F_impl_ParseNeeds.L5t
    refine bcase_dec (fun hlt => ?_) (fun hge => ?_)
    · have hlt' : n4 < L.length := by omega
      obtain ⟨ii, o, hgl, hai, hii, hc⟩ := Row.el1 eS_len ((Vec.mk1 (n := 0) (c := 0) hr).row (m := L.length) (by rw [flat_length eS_len]; omega)) hlt'
      cases hai
      simp only [xSome_some, Int.toNat_natCast, hc, eS, List.getElem?_cons_zero, xStr_some]
      refine ⟨by omega, (parseNeed_ok L[n4] (hmem _ (List.getElem_mem hgl))).mono ?_⟩
      rintro v h2 ⟨s2, hres⟩
      have hstep := needs_step (s := s) (g := n4) (by rw [hL]; exact hgl) (by rw [hL]; exact hl)
      simp only [hL] at hstep
      have hle := hS.le
      have hl2 := s2.le
      have S2 := hS.trans (s2.mono hS.le)
      rcases hres with ⟨p, hp, rfl⟩ | ⟨hp, rfl⟩
      · simp only [xTup_tup, xCons_cons, xAgg_agg, xStr_some, xNil_nil, xBool_some, letH_def]
        have hnew : (h2 ++ [AObj.cells t_impl_Need [.str [], .str []] false])[h2.length]? = some (.cells t_impl_Need [.str [], .str []] false) := by simp
        rw [hStore_of hnew (by simp)]
        simp only [xHeap_some, Bool.not_true, bcase_false]
        rw [hRow_of (set_get hnew) (by simp [putRow])]
        simp only [putRow, List.take_zero, List.nil_append, List.length_cons, List.length_nil, List.cons_append, List.drop_succ_cons, List.drop_zero, List.drop_nil, List.append_nil, List.take_succ_cons, xRow_some, xCons_cons, xStr_some, xNil_nil]
        generalize h3e : (h2 ++ [AObj.cells t_impl_Need [.str [], .str []] false]).set h2.length (.cells t_impl_Need [.str p.1, .str p.2] false) = h3
        have s3 : Same h2.length h2 h3 := by rw [← h3e]; exact (Same.app (Nat.le_refl _) _).trans (Same.set (Nat.le_refl _) _)
        have l3 := s3.le
        have S3 := S2.trans (s3.mono S2.le)
        have hv3 := (hv.same s2).same s3
        refine hv3.pushN (sz := 2) u_L_Need c_Need k_Need b_Need (by rw [flat_length eP_len, hll]) rfl (by omega) rfl (by omega) (fun h4 hl4 hi4 hk4 => ?_)
        simp only [xSl_some]
        rw [wrap_nat (by omega)]
        refine hR (n4 + 1) _ _ _ _ _ _ (by omega) ⟨rfl, by omega, ⟨by have := S3.le; omega, fun z hz => ?_⟩, ?_, l ++ [p], ?_, rfl, by simp [hll], Vec.mk1 (by simpa [eP] using hi4), fun i hi => by cases hi; omega⟩
        · rw [hk4 z (by have := S3.le; omega) fun i hi => by have := (ha i hi).1; omega]; exact S3.eq z hz
        · have := Own.lt hr
          rw [hk4 j (by omega) fun i hi => (ha i hi).2.symm, s3.eq j (by omega), s2.eq j (by omega)]; exact hr
        · rw [hstep, hp]; rfl
      · simp only [xTup_tup, xCons_cons, xAgg_agg, xStr_some, xNil_nil, xBool_some, letH_def]
        have hnew : (h2 ++ [AObj.cells t_impl_Need [.str [], .str []] false])[h2.length]? = some (.cells t_impl_Need [.str [], .str []] false) := by simp
        rw [hStore_of hnew (by simp)]
        simp only [xHeap_some, Bool.not_false, bcase_true]
        have hno : needsP s = ([], false) := needsP_not hne (by rw [hL]; exact mapM_none_of (k := n4 + 1) needP (by rw [hstep, hp]; rfl))
        have s3 : Same h2.length h2 ((h2 ++ [AObj.cells t_impl_Need [.str [], .str []] false]).set h2.length (.cells t_impl_Need (putRow [.str [], .str []] 0 [.str [], .str []]) false)) := (Same.app (Nat.le_refl _) _).trans (Same.set (Nat.le_refl _) _)
        exact ⟨S2.trans (s3.mono S2.le), none, 0, 0, true, by rw [hno], by rw [hno]; exact ⟨rfl, .inl rfl⟩⟩
    · have : n4 = L.length := by omega
      subst this
      rw [List.take_length] at hl
      have hyes : needsP s = (l, true) := needsP_yes hne (by rw [hL]; exact hl)
      refine F_impl_ParseNeeds.A5x0i _ _ _ _ _ _ ⟨hS, a4, L.length, c4, e4, by rw [hyes], ?_⟩
      rw [hyes]
      refine ⟨hll, ?_⟩
      rcases hv with ⟨_, h0, _, _⟩ | ⟨i, rfl, hi⟩
      · exact .inl h0
      · exact .inr ⟨i, rfl, (ha i rfl).1, hi⟩
theorem sParseNeeds_ok {h : AHeap} (s : List Nat) (hs : s.length ≤ 1048576) (hb : ∀ b ∈ s, b < 256) : SCall pg n_spec_ParseNeeds [.str s] h (ParsedsQ s h) := by
  apply F_spec_ParseNeeds.call
  simp only [letH_def]
  have hz0 : (h ++ [AObj.cells t_impl_Need [] false])[h.length]? = some (.cells t_impl_Need [] false) := by simp
  refine bcase_dec (fun he => ?_) (fun hne => ?_)
  · have e1 : needsP s = ([], true) := by unfold needsP; rw [if_pos he]
    exact ⟨Same.app (Nat.le_refl _) _, some (h.length, 0), 0, 0, true, by rw [e1], by rw [e1]; exact ⟨rfl, .inl rfl⟩⟩
  · refine (l13Cut_ok hs).mono ?_
    rintro v h1 ⟨s1, j, cpj, e, rfl, hj, hrow⟩
    simp at hj
    simp only [xSl_some]
    have hLl : (splitN 38 s).length ≤ 1048577 := by rw [splitN_length]; have := List.count_le_length (a := 38) (l := s); omega
    have hmem : ∀ p ∈ splitN 38 s, p.length ≤ 1048576 := fun p hp => by have := splitN_mem hp; omega
    have hby := splitN_byte (c := 38) hb
    generalize hL : splitN 38 s = L at hrow hLl hmem hby
    have s01 : Same h.length h h1 := (Same.app (Nat.le_refl _) _).trans (s1.mono (by simp))
    have hz : h1[h.length]? = some (.cells t_impl_Need [] false) := by rw [s1.eq _ (by simp)]; exact hz0
    have hjl := Own.lt hrow
    refine F_spec_ParseNeeds.L5ind _ _ _ _ _ _ (J := fun (g : Nat) a4 n4 c4 e4 x16 h' => x16 = (g : Int) ∧ g ≤ L.length ∧ Same h.length h h' ∧ h'[j]? = some (.cells t_string (flat eS L) false) ∧ ∃ l, (L.take g).mapM needP = some l ∧ n4 = g ∧ l.length = g ∧ Vec t_impl_Need h' a4 n4 c4 (flat eP l) ∧ (∀ i, a4 = some (i, 0) → h.length ≤ i ∧ i ≠ j)) (fun g => L.length - g) ?_ 0 _ _ _ _ _ _
      ⟨rfl, by omega, s01, hrow, [], rfl, rfl, rfl, Vec.mk1 hz, fun i hi => by cases hi; omega⟩
    rintro g a4 n4 c4 e4 x16 h' ⟨rfl, hg, hS, hr, l, hl, rfl, hll, hv, ha⟩ R hR
    unfold F_spec_ParseNeeds.L5t
    refine bcase_dec (fun hlt => ?_) (fun hge => ?_)
    · have hlt' : n4 < L.length := by omega
      obtain ⟨ii, o, hgl, hai, hii, hc⟩ := Row.el1 eS_len ((Vec.mk1 (n := 0) (c := 0) hr).row (m := L.length) (by rw [flat_length eS_len]; omega)) hlt'
      cases hai
      simp only [xSome_some, Int.toNat_natCast, hc, eS, List.getElem?_cons_zero, xStr_some]
      refine ⟨by omega, (sParseNeed_ok L[n4] (hmem _ (List.getElem_mem hgl)) (hby _ (List.getElem_mem hgl))).mono ?_⟩
      rintro v h2 ⟨s2, hres⟩
      have hstep := needs_step (s := s) (g := n4) (by rw [hL]; exact hgl) (by rw [hL]; exact hl)
      simp only [hL] at hstep
      have hle := hS.le
      have hl2 := s2.le
      have S2 := hS.trans (s2.mono hS.le)
      rcases hres with ⟨p, hp, rfl⟩ | ⟨hp, rfl⟩
      · simp only [xTup_tup, xCons_cons, xAgg_agg, xStr_some, xNil_nil, xBool_some, letH_def]
        have hnew : (h2 ++ [AObj.cells t_impl_Need [.str [], .str []] false])[h2.length]? = some (.cells t_impl_Need [.str [], .str []] false) := by simp
        rw [hStore_of hnew (by simp)]
        simp only [xHeap_some, Bool.not_true, bcase_false]
        rw [hRow_of (set_get hnew) (by simp [putRow])]
        simp only [putRow, List.take_zero, List.nil_append, List.length_cons, List.length_nil, List.cons_append, List.drop_succ_cons, List.drop_zero, List.drop_nil, List.append_nil, List.take_succ_cons, xRow_some, xCons_cons, xStr_some, xNil_nil]
        generalize h3e : (h2 ++ [AObj.cells t_impl_Need [.str [], .str []] false]).set h2.length (.cells t_impl_Need [.str p.1, .str p.2] false) = h3
        have s3 : Same h2.length h2 h3 := by rw [← h3e]; exact (Same.app (Nat.le_refl _) _).trans (Same.set (Nat.le_refl _) _)
        have l3 := s3.le
        have S3 := S2.trans (s3.mono S2.le)
        have hv3 := (hv.same s2).same s3
        refine hv3.pushN (sz := 2) u_L_Need c_Need k_Need b_Need (by rw [flat_length eP_len, hll]) rfl (by omega) rfl (by omega) (fun h4 hl4 hi4 hk4 => ?_)
        simp only [xSl_some]
        rw [wrap_nat (by omega)]
        refine hR (n4 + 1) _ _ _ _ _ _ (by omega) ⟨rfl, by omega, ⟨by have := S3.le; omega, fun z hz => ?_⟩, ?_, l ++ [p], ?_, rfl, by simp [hll], Vec.mk1 (by simpa [eP] using hi4), fun i hi => by cases hi; omega⟩
        · rw [hk4 z (by have := S3.le; omega) fun i hi => by have := (ha i hi).1; omega]; exact S3.eq z hz
        · have := Own.lt hr
          rw [hk4 j (by omega) fun i hi => (ha i hi).2.symm, s3.eq j (by omega), s2.eq j (by omega)]; exact hr
        · rw [hstep, hp]; rfl
      · simp only [xTup_tup, xCons_cons, xAgg_agg, xStr_some, xNil_nil, xBool_some, letH_def]
        have hnew : (h2 ++ [AObj.cells t_impl_Need [.str [], .str []] false])[h2.length]? = some (.cells t_impl_Need [.str [], .str []] false) := by simp
        rw [hStore_of hnew (by simp)]
        simp only [xHeap_some, Bool.not_false, bcase_true]
        have hno : needsP s = ([], false) := needsP_not hne (by rw [hL]; exact mapM_none_of (k := n4 + 1) needP (by rw [hstep, hp]; rfl))
        have s3 : Same h2.length h2 ((h2 ++ [AObj.cells t_impl_Need [.str [], .str []] false]).set h2.length (.cells t_impl_Need (putRow [.str [], .str []] 0 [.str [], .str []]) false)) := (Same.app (Nat.le_refl _) _).trans (Same.set (Nat.le_refl _) _)
        exact ⟨(S2.trans (s3.mono S2.le)).trans (Same.app (S2.trans (s3.mono S2.le)).le _), _, 0, 0, true, by rw [hno], by rw [hno]; exact ⟨rfl, .inl rfl⟩⟩
    · have : n4 = L.length := by omega
      subst this
      rw [List.take_length] at hl
      have hyes : needsP s = (l, true) := needsP_yes hne (by rw [hL]; exact hl)
      refine F_spec_ParseNeeds.A5x0i _ _ _ _ _ _ ⟨hS, a4, L.length, c4, e4, by rw [hyes], ?_⟩
      rw [hyes]
      refine ⟨hll, ?_⟩
      rcases hv with ⟨_, h0, _, _⟩ | ⟨i, rfl, hi⟩
      · exact .inl h0
      · exact .inr ⟨i, rfl, (ha i rfl).1, hi⟩
end Go.Sim
