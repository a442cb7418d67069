/- A part of the proof of a statement of this seat: see the text that holds the theorem. No condition. -/
import Derived.Test.YtgiiilhdmfddcaaPTCSmallFn
import Derived.Test.YtgiiilhdmfddcaaCVars
import Derived.Test.YtgiiilhdmfddcaaCDraw
import Derived.Test.YtgiiilhdmfddcaaCIn
import Derived.Test.YtgiiilhdmfddcaaC3
set_option linter.all false
set_option linter.unusedVariables false
set_option linter.unusedSimpArgs false
set_option maxRecDepth 20000
namespace Go.Sim
open Go Go.RowKit

def hdT (c : Nat) (l : List Ty) : List Ty := l.map (.u c)
def prT (a b : List Ty) : List Ty := a.flatMap fun x => b.map (.w 112 x)
def s1T : List Ty := [.k 105, .k 98, .k 117]
def s2T : List Ty := hdT 108 s1T ++ hdT 109 s1T
def s3T : List Ty := hdT 108 s2T ++ hdT 109 s2T ++ prT s1T s1T
def s4T : List Ty := hdT 108 s3T ++ hdT 109 s3T ++ (prT s1T s2T ++ prT s2T s1T)
def allT : List Ty := s1T ++ (s2T ++ (s3T ++ s4T))
def cntT (n : Nat) : Nat := match n with | 0 => 0 | 1 => 3 | 2 => 9 | 3 => 30 | _ => 108
theorem allT_len : allT.length = 108 := by decide +kernel
theorem smalls_all : ∀ n : Nat, n ≤ 4 → smalls n = (allT.map Ty.txt).take (cntT n)
  | 0, _ => rfl
  | 1, _ => by decide +kernel
  | 2, _ => by decide +kernel
  | 3, _ => by decide +kernel
  | 4, _ => by decide +kernel
  | n + 5, h => by omega
def goodT (t : Ty) : Bool := t.ok && decide (t.txt.length ≤ 60) && decide (varsL t.txt = [])
theorem allT_good : allT.all goodT = true := by decide +kernel
theorem allT_size : allT.map Ty.size = List.replicate 3 1 ++ (List.replicate 6 2 ++ (List.replicate 21 3 ++ List.replicate 78 4)) := by decide +kernel
theorem allT_nodup : (allT.map Ty.txt).Nodup := by decide +kernel
def szsN : List Nat := List.replicate 3 1 ++ (List.replicate 6 2 ++ (List.replicate 21 3 ++ List.replicate 78 4))
def monoB (l : List Nat) : Bool := (List.range (l.length - 1)).all fun i => decide (l.getD i 0 ≤ l.getD (i + 1) 0)
theorem szs_mono : monoB szsN = true := by decide +kernel
def lessB (n : Nat) : Bool := (List.range (cntT n)).all fun i => decide (szsN.getD i 0 ≤ n)
theorem szs_less : lessB 1 = true ∧ lessB 2 = true ∧ lessB 3 = true ∧ lessB 4 = true := by decide +kernel
theorem small_el {n : Nat} (hn : n ≤ 4) {i : Nat} (hi : i < cntT n) : ∃ t, allT[i]? = some t ∧ (smalls n)[i]? = some t.txt ∧ t.ok = true ∧ t.txt.length ≤ 60 ∧ varsL t.txt = [] ∧ t.size = szsN.getD i 0 := by
  have hc : cntT n ≤ 108 := by unfold cntT; split <;> omega
  have hlt : i < allT.length := by rw [allT_len]; omega
  refine ⟨allT[i], List.getElem?_eq_getElem hlt, ?_, ?_⟩
  · rw [smalls_all n hn, List.getElem?_take, if_pos hi, List.getElem?_map, List.getElem?_eq_getElem hlt]; rfl
  · have h1 := List.all_eq_true.1 allT_good _ (List.getElem_mem hlt)
    simp only [goodT, Bool.and_eq_true, decide_eq_true_eq] at h1
    have h2 : (allT.map Ty.size)[i]? = some allT[i].size := by rw [List.getElem?_map, List.getElem?_eq_getElem hlt]; rfl
    rw [allT_size] at h2
    refine ⟨h1.1.1, h1.1.2, h1.2, ?_⟩
    unfold szsN
    rw [List.getD_eq_getElem?_getD, h2]; rfl
theorem smalls_cnt {n : Nat} (hn : n ≤ 4) : (smalls n).length = cntT n := by
  rw [smalls_all n hn, List.length_take, List.length_map, allT_len]
  have : cntT n ≤ 108 := by unfold cntT; split <;> omega
  omega
theorem size_mono {i : Nat} (h : i + 1 < 108) : szsN.getD i 0 ≤ szsN.getD (i + 1) 0 := by
  have := szs_mono
  unfold monoB at this
  rw [List.all_eq_true] at this
  have h1 : szsN.length = 108 := by decide
  have := this i (by rw [h1]; simp; omega)
  simpa using this
theorem size_less {n i : Nat} (hn : 1 ≤ n ∧ n ≤ 4) (h : i < cntT n) : szsN.getD i 0 ≤ n := by
  have key : ∀ n, lessB n = true → i < cntT n → szsN.getD i 0 ≤ n := by
    intro n hb hi
    unfold lessB at hb
    rw [List.all_eq_true] at hb
    have := hb i (by simp; exact hi)
    simpa using this
  obtain ⟨a, b, c, d⟩ := szs_less
  rcases (show n = 1 ∨ n = 2 ∨ n = 3 ∨ n = 4 by omega) with rfl | rfl | rfl | rfl
  · exact key _ a h
  · exact key _ b h
  · exact key _ c h
  · exact key _ d h
theorem small_ne {n : Nat} (hn : n ≤ 4) {i j : Nat} (hj : j < i) {x y : List Nat} (hx : (smalls n)[i]? = some x) (hy : (smalls n)[j]? = some y) : y ≠ x := by
  intro e
  have hnd : (smalls n).Nodup := by rw [smalls_all n hn]; exact allT_nodup.sublist (List.take_sublist _ _)
  have h1 := (List.getElem?_eq_some_iff.1 hx)
  have h2 := (List.getElem?_eq_some_iff.1 hy)
  obtain ⟨hi, h1⟩ := h1
  obtain ⟨hj', h2⟩ := h2
  exact List.pairwise_iff_getElem.1 hnd j i hj' hi hj (h2.trans (e.trans h1.symm))
def smallS : List Int := [2, 3, 1, 4, 0, 5, -1]
theorem drawSmall_ok {h : AHeap} {a : Pt} {n c : Nat} {e : Bool} {l : List Nat} (r : Row h.length h a n (flat eB l)) (hb : ∀ b ∈ l, b < 256) (hnc : n ≤ c) :
    SCall pg n_spec_DrawSmallTypes [.slice a n c e] h fun v h' => Same h.length h h' ∧ ∃ z ∈ smallS, v = .int .i64 z := by
  apply F_spec_DrawSmallTypes.call
  refine (l13Open_ok r hb hnc).mono ?_
  rintro v h1 ⟨rfl, s1, r1, hl1⟩
  simp only [xPtr_some, letH_def]
  refine (rdNum_ok (n := 7) (p := 0) (j := h1.length) (t := t_int) (l := smallS) (r1.app _) (by omega) (by simp [smallS, eI, flat]) (by omega) rfl (by omega)).mono ?_
  rintro v h2 ⟨z, hz, rfl, hK, _, hl2⟩
  simp at hl2
  simp only [xInt_some]
  exact ⟨⟨by omega, fun j hj => by rw [hK.eq j (by simp; omega) (by omega), app_lt (by omega)]; exact s1.eq j hj⟩, z, hz, rfl⟩
theorem lawSmall {h : AHeap} {a a' : Pt} {n c n' c' : Nat} {e e' : Bool} {l : List Nat} (r : Row h.length h a n (flat eB l)) (hb : ∀ b ∈ l, b < 256) (hnc : n ≤ c) :
    SCall pg n_laws_FnSmallTypes [.slice a n c e, .slice a' n' c' e'] h fun v _ => v = .bool true := by
  apply F_laws_FnSmallTypes.call
  refine bcase_dec (fun _ => rfl) (fun _ => bcase_dec (fun _ => rfl) (fun hn' => ?_))
  apply F_laws_FnSmallTypes.J3i
  refine (drawSmall_ok r hb hnc).mono ?_
  rintro v h1 ⟨s1, z, hz, rfl⟩
  simp only [xInt_some]
  refine (smallTypes_cap z h1).mono ?_
  rintro v h2 ⟨a2, m2, c2, e2, rfl, s2, f2, hc2⟩
  simp only [xTup_tup, xCons_cons, xSl_some, xBool_some, xNil_nil]
  refine (specSmall_ok z h2).mono ?_
  rintro v h3 ⟨a3, m3, c3, e3, rfl, s3, f3⟩
  simp only [xTup_tup, xCons_cons, xSl_some, xBool_some, xNil_nil]
  have hlen := smallList_len z
  have g2 : Row h3.length h3 a2 m2 (strs (smallList z)) := (f2.row.same s3).mono s3.le
  have m2l : (smallList z).length = m2 := by have := g2.1; simpa using this
  have m3l : (smallList z).length = m3 := by have := f3.row.1; simpa using this
  have g3 := f3.row
  have inT : ∀ Q : QT, Q (.bool true) h3 → SCall pg n_laws_inTexts [.slice a2 m2 c2 e2, .slice a3 m3 c3 e3] h3 Q := fun Q hq => by
    refine (inTexts_ok g2 g3 (by omega)).mono ?_
    rintro v h4 ⟨rfl, rfl⟩
    simpa using hq
  refine inT _ ?_
  simp only [xBool_some, Bool.not_true, bcase_false, beq_self_eq_true]
  cases hs : isSmall z with
  | false =>
    simp only [Bool.not_false, bcase_true]
    refine inT _ ?_
    simp
  | true =>
    simp only [Bool.not_true, bcase_false]
    have hin : 1 ≤ z ∧ z ≤ 4 := by simpa [isSmall] using hs
    obtain ⟨k, rfl⟩ : ∃ k : Nat, z = k := ⟨z.toNat, by omega⟩
    have hk4 : k ≤ 4 := by omega
    have hL : smallList (k : Int) = smalls k := by unfold smallList; rw [if_pos hin]; simp
    have hcnt := smalls_cnt hk4
    have hc108 : cntT k ≤ 108 := by unfold cntT; split <;> omega
    rw [hL] at g2 m2l
    have hm2 : m2 = cntT k := by omega
    apply F_laws_FnSmallTypes.J8i
    rw [IntWalk.i64_in _ (by omega)]
    refine F_laws_FnSmallTypes.L10ind _ _ _ _ _ _ _ _ _ _ _ _ (J := fun (g : Nat) x61 h' => x61 = (g : Int) ∧ g ≤ m2 ∧ Same h3.length h3 h') (fun g => m2 - g) ?_ 0 _ _ ⟨rfl, by omega, Same.refl _ _⟩
    rintro g x61 h' ⟨rfl, hg, hS⟩ R hR
    unfold F_laws_FnSmallTypes.L10t
    have el : ∀ i, i < m2 → ∀ hh, Same h3.length h3 hh → ∃ (ii o : Nat) (t : Ty), a2 = some (ii, o) ∧ hCell hh (.ptr (some (ii, o + i * 1))) = some (.str t.txt) ∧ (smalls k)[i]? = some t.txt ∧ t.ok = true ∧ t.txt.length ≤ 60 ∧ varsL t.txt = [] ∧ t.size = szsN.getD i 0 := by
      intro i hi hh hs
      obtain ⟨t, _, h1, h2⟩ := small_el hk4 (i := i) (by omega)
      rw [← flat_eS] at g2
      obtain ⟨ii, o, hgl, ha, _, hc⟩ := Row.el1 eS_len (g2.same hs) hi
      refine ⟨ii, o, t, ha, ?_, h1, h2⟩
      rw [hc]
      have := (List.getElem?_eq_some_iff.1 h1).2
      rw [this]; rfl
    refine bcase_dec (fun hlt => ?_) (fun hge => ?_)
    · have hlt' : g < m2 := by omega
      obtain ⟨ii, o, t, rfl, hc, hgt, hok, hl60, hv, hsz⟩ := el g hlt' h' hS
      have hof : ofTxt t.txt = some t := ofTxt_txt hok hl60
      simp only [xSome_some, Int.toNat_natCast, hc, xStr_some]
      refine ⟨by omega, (isGround_ok _ _).mono ?_⟩
      rintro v h4 ⟨rfl, s4⟩
      simp only [xBool_some, tyOk_of hof, hv, decide_true, Bool.and_self, Bool.not_true, bcase_false]
      have S4 := hS.trans (s4.mono hS.le)
      refine (sizeOf_ok _ _).mono ?_
      rintro v h5 ⟨rfl, s5⟩
      simp only [xInt_some, sizeS_some hof]
      have S5 := S4.trans (s5.mono S4.le)
      have hle := size_less (n := k) (i := g) (by omega) (by omega)
      rw [← hsz] at hle
      refine bcase_dec (fun hgt => by omega) (fun _ => ?_)
      have cont : ∀ h6, Same h3.length h3 h6 → F_laws_FnSmallTypes.J16 (fun v _ => v = .bool true) R (g : Int) (m2 : Int) (some (ii, o)) m2 c2 e2 (k : Int) (some (ii, o)) m2 c2 e2 ((n' : Int) * 7) h6 := by
        intro h6 S6
        apply F_laws_FnSmallTypes.J16i
        rw [wrap_nat (by omega)]
        exact hR (g + 1) _ _ (by omega) ⟨rfl, by omega, S6⟩
      have tail : ∀ h6, Same h3.length h3 h6 → F_laws_FnSmallTypes.J14 (fun v _ => v = .bool true) R (g : Int) (some (ii, o)) m2 c2 e2 ((n' : Int) * 7) t.txt (g : Int) (m2 : Int) (some (ii, o)) m2 c2 e2 (k : Int) h6 := by
        intro h6 S6
        apply F_laws_FnSmallTypes.J14i
        refine bcase_dec (fun hpos => ?_) (fun _ => cont h6 S6)
        rw [IntWalk.i64_in _ (by omega)]
        have e1 : Int.tmod ((g : Int) + (n' : Int) * 7) (g : Int) = (((g + n' * 7) % g : Nat) : Int) := by
          rw [Int.tmod_eq_emod_of_nonneg (by omega)]
          push_cast; rfl
        rw [e1]
        have hmod := Nat.mod_lt (g + n' * 7) (show g > 0 by omega)
        obtain ⟨i2, o2, t2, ha2, hc2', hgt2, _⟩ := el ((g + n' * 7) % g) (by omega) h6 S6
        cases ha2
        simp only [xSome_some, Int.toNat_natCast, hc2', xStr_some]
        refine ⟨by omega, by omega, ?_⟩
        rw [show decide (t2.txt = t.txt) = false by simpa using small_ne hk4 hmod hgt hgt2]
        exact cont h6 S6
      refine bcase_dec (fun hpos => ?_) (fun _ => tail _ S5)
      rw [IntWalk.i64_in _ (by omega)]
      obtain ⟨i3, o3, t3, ha3, hc3', hgt3, hok3, hl3, _, hsz3⟩ := el (g - 1) (by omega) h5 S5
      cases ha3
      have hof3 : ofTxt t3.txt = some t3 := ofTxt_txt hok3 hl3
      rw [show ((g : Int) - 1) = ((g - 1 : Nat) : Int) by omega]
      simp only [xSome_some, Int.toNat_natCast, hc3', xStr_some]
      refine ⟨by omega, (sizeOf_ok _ _).mono ?_⟩
      rintro v h6 ⟨rfl, s6⟩
      simp only [xInt_some, sizeS_some hof3]
      have S6 := S5.trans (s6.mono S5.le)
      refine (sizeOf_ok _ _).mono ?_
      rintro v h7 ⟨rfl, s7⟩
      simp only [xInt_some, sizeS_some hof]
      have S7 := S6.trans (s7.mono S6.le)
      have hmono := size_mono (i := g - 1) (by omega)
      rw [show g - 1 + 1 = g by omega] at hmono
      exact bcase_dec (fun hgt => by omega) (fun _ => tail _ S7)
    · apply F_laws_FnSmallTypes.A10x0i
      rw [IntWalk.i64_in _ (by omega)]
      refine (smallTypes_ok _ h').mono ?_
      rintro v h5 ⟨a5, m5, c5, e5, rfl, s5, f5⟩
      simp only [xTup_tup, xCons_cons, xSl_some, xBool_some, xNil_nil]
      have hb1 : (isSmall ((k : Int) - 1) == decide ((k : Int) > 1)) = true := by
        rw [beq_iff_eq]; unfold isSmall; rw [decide_eq_decide]; omega
      rw [hb1, bcase_true]
      have S5 := hS.trans (s5.mono hS.le)
      have hL5 : smallList ((k : Int) - 1) = smalls (k - 1) := by
        unfold smallList
        split
        · congr 1; omega
        · have : k - 1 = 0 := by omega
          rw [this]; rfl
      have g5 := f5.row
      rw [hL5] at g5
      have m5l : m5 = cntT (k - 1) := by have := g5.1; rw [← smalls_cnt (n := k - 1) (by omega)]; simpa using this.symm
      have hcm : cntT (k - 1) ≤ cntT k := by
        rcases (show k = 1 ∨ k = 2 ∨ k = 3 ∨ k = 4 by omega) with rfl | rfl | rfl | rfl <;> decide
      obtain ⟨ii, o, t, ha, _⟩ := el 0 (by rw [hm2]; rcases (show k = 1 ∨ k = 2 ∨ k = 3 ∨ k = 4 by omega) with rfl | rfl | rfl | rfl <;> decide) h5 S5
      subst ha
      simp only [sliceSl, optInt]
      have hcpos : 0 < c2 := by
        have : 0 < cntT k := by rcases (show k = 1 ∨ k = 2 ∨ k = 3 ∨ k = 4 by omega) with rfl | rfl | rfl | rfl <;> decide
        omega
      refine ⟨by omega, fun _ => ?_, fun hno => by omega⟩
      simp only [xSl_some]
      have e1 : o + Int.toNat 0 * 1 = o := by simp
      have e2 : ((m5 : Int) - 0).toNat = m5 := by omega
      rw [e1, e2]
      have hcut : Row h5.length h5 (some (ii, o)) m5 (strs (smalls (k - 1))) := by
        have hr := (g2.same S5).mono S5.le
        have hpre : smalls (k - 1) = (smalls k).take m5 := by
          rw [smalls_all _ (by omega), smalls_all _ hk4, List.take_take, m5l, Nat.min_eq_left hcm]
        obtain ⟨hl, hr⟩ := hr
        refine ⟨by simp [smalls_cnt (n := k - 1) (by omega), m5l], ?_⟩
        rcases hr with h0 | ⟨i, o', tt, all, ro, ha, hi, hg, hle, hcs⟩
        · left; omega
        · right
          refine ⟨i, o', tt, all, ro, ha, hi, hg, by omega, ?_⟩
          have : strs (smalls (k - 1)) = (strs (smalls k)).take m5 := by rw [hpre]; simp [strs, List.map_take]
          rw [this, hcs, List.take_take, Nat.min_eq_left (by omega)]
      refine (inTexts_ok hcut g5 (by omega)).mono ?_
      rintro v h6 ⟨rfl, rfl⟩
      simp
end Go.Sim
