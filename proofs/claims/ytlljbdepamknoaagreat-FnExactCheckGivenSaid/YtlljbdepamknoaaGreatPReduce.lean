/- A part of the proof of a statement of this seat: see the text that holds the theorem. No condition. -/
import Derived.Test.YtlljbdepamknoaaGreatPTCSpecial
import Derived.Test.YtlljbdepamknoaaGreatCApply
import Derived.Test.YtlljbdepamknoaaGreatPTCSMatch2
import Derived.Test.YtlljbdepamknoaaGreatPTCSApply
import Derived.Test.YtlljbdepamknoaaGreatCAll2
import Derived.Test.YtlljbdepamknoaaGreatNm
import Derived.Test.YtlljbdepamknoaaGreatCVars
set_option linter.unusedVariables false
set_option linter.unusedSimpArgs false
set_option linter.all false
set_option linter.unusedVariables false
set_option linter.unusedSimpArgs false
set_option maxRecDepth 20000
namespace Go.Sim
open Go Go.RowKit

def Yec : List Nat := [88, 89, 90, 120, 121, 122, 49, 50, 51, 52, 53, 54]
theorem Zud {v : Nat} (hv : Zdc v = true) : ∃ k : Nat, k < 6 ∧ Zfi[k]? = some v ∧ Zrq Yec v = (k : Int) := by
  have := (Zpi v).2 hv
  simp only [Zfi, List.mem_cons, List.not_mem_nil, or_false] at this
  rcases this with rfl | rfl | rfl | rfl | rfl | rfl
  · exact ⟨0, by omega, rfl, rfl⟩
  · exact ⟨1, by omega, rfl, rfl⟩
  · exact ⟨2, by omega, rfl, rfl⟩
  · exact ⟨3, by omega, rfl, rfl⟩
  · exact ⟨4, by omega, rfl, rfl⟩
  · exact ⟨5, by omega, rfl, rfl⟩
theorem Zrr {t : Ty} (h : t.ok = true) : t.hd ∈ [105, 98, 117, 108, 109, 112, 120, 121, 122, 88, 89, 90] := by
  have := Ty.ok_ar h
  unfold arN Zmu Zdc at this
  simp only [Bool.or_eq_true, beq_iff_eq] at this
  simp only [List.mem_cons, List.not_mem_nil, or_false]
  split at this
  · omega
  · split at this
    · omega
    · split at this
      · omega
      · omega
theorem Yap {t : Ty} (h : t.ok = true) (hv : Zdc t.hd = false) : Zrq Yec t.hd = -1 := by
  apply Zsv
  have := Zrr h
  simp only [List.mem_cons, List.not_mem_nil, or_false] at this
  rcases this with e | e | e | e | e | e | e | e | e | e | e | e <;> rw [e] at hv ⊢ <;> first | (exact absurd hv (by decide)) | decide
theorem Zsp {h : Zaa} (c : Nat) : Zad pg Zic [.int .u8 (c : Int)] h fun v h' => v = .int .i64 (Zrq Yec c) ∧ h' = h := by
  apply Zqj.call
  refine (Zpm Yec c (by decide)).mono ?_
  rintro v h1 ⟨rfl, rfl⟩
  simp only [Zao]
  exact ⟨by trivial, by trivial⟩
def eR (x : Zar × Zar) : List Zar := [x.1, x.2]
theorem Zxc (x : Zar × Zar) : (eR x).length = 2 := rfl
theorem Ydk {α : Type} {enc : α → List Zar} {w : Nat} (hw : ∀ x, (enc x).length = w) : ∀ {l : List α} {k : Nat} {x : α}, k < l.length → putRow (Zff enc l) (k * w) (enc x) = Zff enc (l.set k x)
  | [], k, x, h => by simp at h
  | y :: l, 0, x, _ => by
    simp only [Nat.zero_mul, Zkt, List.set_cons_zero, putRow, List.take_zero, List.nil_append, Nat.zero_add, hw]
    rw [← hw y, List.drop_left]
  | y :: l, k + 1, x, h => by
    have ih := Ydk hw (l := l) (k := k) (x := x) (by simpa using h)
    unfold putRow at ih ⊢
    simp only [Zkt, List.set_cons_succ]
    rw [← ih, Nat.succ_mul, Nat.add_comm (k * w) w, ← hw y, List.take_length_add_append, Nat.add_assoc, List.drop_length_add_append]; simp only [List.append_assoc]
def Zsa (S : Nat → Prop) (h : Zaa) (i : Nat) (m : Bd) : Prop := ∃ rows : List (Zar × Zar), rows.length = 12 ∧ h[i]? = some (.cells Zfh (Zff eR rows) false) ∧
  ∀ (k : Nat) (x : Zar × Zar), rows[k]? = some x → match (Zfi[k]?).bind (Zho m) with | some t => Zhp S h t (eR x) | none => x = (.int .u8 0, .slice none 0 0 true)
theorem Zsa.keep {S : Nat → Prop} {h h' : Zaa} {i : Nat} {m : Bd} (r : Zsa S h i m) (hi : h'[i]? = h[i]?) (hh : ∀ j, S j → j < h.length → h'[j]? = h[j]?) : Zsa S h' i m := by
  obtain ⟨rows, h1, h2, h3⟩ := r
  refine ⟨rows, h1, by rw [hi]; exact h2, fun k x hx => ?_⟩
  have := h3 k x hx
  split at this
  · exact this.keep hh
  · exact this
theorem Zsa.same {S : Nat → Prop} {h h' : Zaa} {i : Nat} {m : Bd} (r : Zsa S h i m) (s : Zaz h.length h h') : Zsa S h' i m := by
  have hl : i < h.length := by obtain ⟨_, _, h2, _⟩ := r; exact Own.lt h2
  exact r.keep (s.eq i hl) fun j _ hj => s.eq j hj
theorem Zsa.lt {S : Nat → Prop} {h : Zaa} {i : Nat} {m : Bd} (r : Zsa S h i m) : i < h.length := by obtain ⟨_, _, h2, _⟩ := r; exact Own.lt h2
theorem Zsa.nil {S : Nat → Prop} {h : Zaa} {i : Nat} (hi : h[i]? = some (.cells Zfh (Zff eR (List.replicate 12 (.int .u8 0, .slice none 0 0 true))) false)) : Zsa S h i [] := by
  refine ⟨_, by simp, hi, fun k x hx => ?_⟩
  have : (Zfi[k]?).bind (Zho []) = none := by cases Zfi[k]? <;> rfl
  rw [this]
  rw [List.getElem?_replicate] at hx
  split at hx
  · cases hx; rfl
  · cases hx
theorem Zsa.get {S : Nat → Prop} {h : Zaa} {i : Nat} {m : Bd} (r : Zsa S h i m) {k : Nat} (hk : k < 12) : ∃ x : Zar × Zar, Zag h (.ptr (some (i, 0 + k * 2 + 0))) = some x.1 ∧ Zbp h (.ptr (some (i, 0 + k * 2))) 2 = some [x.1, x.2] ∧
    match (Zfi[k]?).bind (Zho m) with | some t => Zhp S h t [x.1, x.2] | none => x = (.int .u8 0, .slice none 0 0 true) := by
  obtain ⟨rows, h1, h2, h3⟩ := r
  have hrow : Row h.length h (some (i, 0)) (12 * 2) (Zff eR rows) := ⟨by rw [Zbe Zxc, h1], .inr ⟨i, 0, _, _, _, rfl, Own.lt h2, h2, by rw [Zbe Zxc, h1]; simp, by rw [List.drop_zero, List.take_of_length_le (by rw [Zbe Zxc, h1]; simp)]⟩⟩
  obtain ⟨i', o', hk', he, _, hr, hc⟩ := Row.el Zxc hrow h1 hk (by omega)
  cases he
  exact ⟨rows[k], by have := hc 0 (by omega); simpa [eR] using this, hr, h3 k _ (List.getElem?_eq_getElem hk')⟩
theorem Zsa.put {S : Nat → Prop} {h : Zaa} {i : Nat} {m : Bd} (r : Zsa S h i m) (hSi : ∀ j, S j → j ≠ i) {k v : Nat} (hk : Zfi[k]? = some v) (hg : Zho m v = none) {t : Ty} {x y : Zar} (ht : Zhp S h t [x, y]) :
    ∃ h', Zbn h (.ptr (some (i, 0 + k * 2))) [x, y] = some h' ∧ Zgc i h h' ∧ Zsa S h' i (m ++ [(v, t)]) := by
  obtain ⟨rows, h1, h2, h3⟩ := r
  have hk6 : k < 6 := (List.getElem?_eq_some_iff.1 hk).1
  have hput : putRow (Zff eR rows) (k * 2) (eR (x, y)) = Zff eR (rows.set k (x, y)) := Ydk Zxc (by omega)
  refine ⟨h.set i (.cells Zfh (Zff eR (rows.set k (x, y))) false), ?_, Zgc.set _ _ _, ?_⟩
  · rw [Nat.zero_add, Zcc h2 (by rw [Zbe Zxc, h1]; simp; omega), ← hput]; rfl
  · have hkeep : ∀ j, S j → j < h.length → (h.set i (.cells Zfh (Zff eR (rows.set k (x, y))) false))[j]? = h[j]? := fun j hj _ => Zcr (fun e => hSi j hj e.symm)
    refine ⟨_, by simp [h1], Zdi h2, fun k' x' hx' => ?_⟩
    by_cases e : k = k'
    · subst e
      rw [List.getElem?_set_self (by omega)] at hx'
      cases hx'
      rw [hk]
      simp only [Option.bind_some, Ydi, hg, if_true]
      exact ht.keep hkeep
    · rw [List.getElem?_set_ne e] at hx'
      have := h3 k' x' hx'
      have hb : (Zfi[k']?).bind (Zho (m ++ [(v, t)])) = (Zfi[k']?).bind (Zho m) := by
        cases hv' : Zfi[k']? with
        | none => rfl
        | some w =>
          simp only [Option.bind_some, Ydi]
          cases hb : Zho m w with
          | some u => rfl
          | none =>
            have : ¬ v = w := fun e' => by
              subst e'
              have h5 := List.getElem?_eq_some_iff.1 hk
              have h6 := List.getElem?_eq_some_iff.1 hv'
              exact e ((List.getElem_inj (h₀ := h5.1) (h₁ := h6.1) Zrb).1 (h5.2.trans h6.2.symm))
            simp [this]
      rw [hb]
      split at this
      · exact this.keep hkeep
      · exact this
def Yqi (S : Nat → Prop) (h : Zaa) (i : Nat) (r : Option Bd) (v : Zar) (h' : Zaa) : Prop := Zgc i h h' ∧ (match r with | some m' => v = .bool true ∧ Zsa S h' i m' | none => v = .bool false)
theorem Zgc.of_same {i : Nat} {h h' : Zaa} (s : Zaz h.length h h') : Zgc i h h' := ⟨s.le, fun j hj _ => s.eq j hj⟩
theorem Zxl : ∀ (N : Nat) {a t : Ty} {S : Nat → Prop} {h : Zaa} {va vt : List Zar} {i n : Nat} {m : Bd}, a.size ≤ N → a.ok = true → t.ok = true → n ≤ 1048576 → t.txt.length ≤ n → BOk n m → (∀ j, S j → j ≠ i) → Zhp S h a va → Zhp S h t vt → Zsa S h i m →
    Zad pg Zkn [.ptr (some (i, 0)), .agg va, .agg vt] h (Yqi S h i (matchT m a t))
  | 0, a, t, S, h, va, vt, i, n, m, hN, _, _, _, _, _, _, _, _, _ => by have := a.size_ps; omega
  | N + 1, a, t, S, h, va, vt, i, n, m, hN, ha, ht, hB, hn, bo, hSi, ra, rt, rm => by
    have hcase := Yag (m := m) ha ht
    obtain ⟨aa, ca, ea, vas, rfl, rowa, hSa, hval, hva⟩ := id ra.parts
    obtain ⟨at', ct, et, vts, rfl, rowt, hSt, hvtl, hvt⟩ := id rt.parts
    have hps2 : a.ps.length ≤ 2 := by cases a <;> simp [Ty.ps]
    have hil := rm.lt
    apply Zib.call
    simp only [Zax]
    generalize hh0 : h ++ [Zcn.cells Zac [.int .u8 (a.hd : Int), .slice aa a.ps.length ca ea] false] = h0
    generalize hh1 : h0 ++ [Zcn.cells Zac [.int .u8 (t.hd : Int), .slice at' t.ps.length ct et] false] = h1
    have s0 : Zaz h.length h h0 := by rw [← hh0]; exact Zau
    have s1 : Zaz h0.length h0 h1 := by rw [← hh1]; exact Zau
    have o0 : h0[h.length]? = some (.cells Zac [.int .u8 (a.hd : Int), .slice aa a.ps.length ca ea] false) := by rw [← hh0]; simp
    have oa := s1.get o0 (Own.lt o0)
    have ot : h1[h0.length]? = some (.cells Zac [.int .u8 (t.hd : Int), .slice at' t.ps.length ct et] false) := by rw [← hh1]; simp
    have S1 := s0.cat s1
    have l0 : h0.length = h.length + 1 := by rw [← hh0]; simp
    have l1 : h1.length = h.length + 2 := by rw [← hh1]; simp [l0]
    simp only [Zaq oa, Nat.zero_add, List.getElem?_cons_succ, List.getElem?_cons_zero, Zao]
    refine (Zsp a.hd).mono ?_
    rintro v h2 ⟨rfl, rfl⟩
    have rm1 := rm.same S1
    have K1 : Zgc i h h2 := Zgc.of_same S1
    simp only [Zao, Zav]
    cases hv : Zdc a.hd with
    | true =>
      rw [hv] at hcase
      simp only [if_true] at hcase
      obtain ⟨k, hk6, hkv, hix⟩ := Zud hv
      rw [hix]
      obtain ⟨x, hx1, hx2, hx3⟩ := rm1.get (k := k) (by omega)
      rw [hkv, Option.bind_some] at hx3
      have hge : decide ((k : Int) ≥ 0) = true := by simp
      simp only [hge, Zbx, Int.toNat_natCast, hx1, hx2, Zee ot (show 0 + 2 ≤ _ by simp), List.drop_zero, List.take_succ_cons, List.take_zero, Zan, Zae, Zap, Zao, Zah]
      refine ⟨by omega, ?_⟩
      cases hg : Zho m a.hd with
      | none =>
        rw [hg] at hx3
        simp only at hx3
        subst hx3
        have hbn : Zod m a.hd t = some (m ++ [(a.hd, t)]) := by unfold Zod; rw [hg]
        rw [hcase, hbn]
        simp only [Zao, show ((0 : Int) == 0) = true from rfl, Zbx]
        obtain ⟨h', hst, hK, hr'⟩ := rm1.put hSi hkv hg (rt.same S1)
        rw [hst]
        simp only [Zaw]
        exact ⟨by omega, K1.trans hK, rfl, hr'⟩
      | some u =>
        rw [hg] at hx3
        simp only at hx3
        have hu := bo.var _ (Zpq hg)
        obtain ⟨ux, uc, ue, hux⟩ := hx3.shape
        simp only [List.cons.injEq, and_true] at hux
        obtain ⟨hux1, hux2⟩ := hux
        rw [hux1, hux2] at hx2 hx3
        rw [hux1, hux2]
        simp only [Zao, Zah]
        have hu0 : (((u.hd : Nat) : Int) == 0) = false := by
          have := Zrr hu.2.1
          have hne : u.hd ≠ 0 := fun e => by rw [e] at this; simp at this
          simp; omega
        simp only [hu0, Zbd]
        have rt1 := rt.same S1
        refine ⟨by omega, (Zpf _ (Nat.le_refl _) (by omega) hu.2.1 hx3).mono ?_⟩
        rintro v h3 ⟨rfl, s3⟩
        have ot3 := s3.get ot (Own.lt ot)
        have rt3 := rt1.same s3
        simp only [Zaf, Zee ot3 (show 0 + 2 ≤ _ by simp), List.drop_zero, List.take_succ_cons, List.take_zero, true_and]
        refine (Zpf _ (Nat.le_refl _) (by omega) ht rt3).mono ?_
        rintro v h4 ⟨rfl, s4⟩
        simp only [Zaf]
        have hri : ∀ hx, Zaz h2.length h2 hx → Zbp hx (.ptr (some (i, 0 + k * 2))) 2 = Zbp h2 (.ptr (some (i, 0 + k * 2))) 2 := fun hx sx => by
          simp only [Zbp, sx.eq i (by omega)]
        rw [hri _ (s3.cat s4), hri _ s3]
        refine ⟨by trivial, ?_⟩
        have K4 : Zgc i h h4 := K1.trans (Zgc.of_same (s3.cat s4))
        by_cases he : u = t
        · subst he
          have hbn : Zod m a.hd u = some m := by unfold Zod; rw [hg]; simp
          rw [hcase, hbn]
          exact ⟨K4, by simp, (rm1.same (s3.cat s4))⟩
        · have hne : ¬ u.txt = t.txt := fun e => he (Ty.txt_inj' hu.2.1 ht e)
          have hbn : Zod m a.hd t = none := by unfold Zod; rw [hg]; simp [he]
          rw [hcase, hbn]
          exact ⟨K4, by simp [hne]⟩
    | false =>
      rw [hv] at hcase
      simp only [Bool.false_eq_true, if_false] at hcase
      rw [Yap ha hv]
      have hge : decide ((-1 : Int) ≥ 0) = false := by decide
      simp only [hge, Zbd, Zaq ot, Zaq oa, List.getElem?_cons_succ, List.getElem?_cons_zero, Zao, Zah]
      refine Zfs (fun hne => ?_) (fun he => ?_)
      · rw [if_neg (fun e => hne (by rw [e]))] at hcase
        rw [hcase]
        exact ⟨K1, rfl⟩
      · have he' : a.hd = t.hd := by omega
        rw [if_pos he'] at hcase
        rw [hcase]
        have hlen := Yde ha ht he'
        refine Zib.L10ind _ _ _ _ _ _ _ (J := fun (g : Nat) x43 h' => x43 = (g : Int) ∧ g ≤ a.ps.length ∧ Zgc i h2 h' ∧ ∃ m1, matchL m (a.ps.take g) (t.ps.take g) = some m1 ∧ Zsa S h' i m1) (fun g => a.ps.length - g) ?_ 0 _ _ ⟨rfl, by omega, Zgc.refl _ _, m, by simp [matchL], rm1⟩
        rintro g x43 h' ⟨rfl, hg, hK, m1, hm1, rm1⟩ R hR
        unfold Zib.L10t
        have KK := K1.trans hK
        refine Zal (fun hlt => ?_) (fun hge => ?_)
        · have hga : g < a.ps.length := by omega
          have hgt : g < t.ps.length := by omega
          have oa1 : h'[h.length]? = some (.cells Zac [.int .u8 (a.hd : Int), .slice aa a.ps.length ca ea] false) := by rw [hK.eq _ (Own.lt oa) (by omega)]; exact oa
          have ot1 : h'[h0.length]? = some (.cells Zac [.int .u8 (t.hd : Int), .slice at' t.ps.length ct et] false) := by rw [hK.eq _ (Own.lt ot) (by omega)]; exact ot
          obtain ⟨ja, ofa, a3, c3, e3, rfl, hra, hka⟩ := Zhp.get (rowa.keepAt (i := i) (fun j o h0 e => hSi j (hSa j o (by omega) e)) KK) hval (fun k w x h1 h2 => (hva k w x h1 h2).keep fun j hj hl => KK.eq j hl (hSi j hj)) hga
          obtain ⟨jt, oft, a4, c4, e4, rfl, hrt, hkt⟩ := Zhp.get (rowt.keepAt (i := i) (fun j o h0 e => hSi j (hSt j o (by omega) e)) KK) hvtl (fun k w x h1 h2 => (hvt k w x h1 h2).keep fun j hj hl => KK.eq j hl (hSi j hj)) hgt
          simp only [Zav, Int.toNat_natCast, Zaq oa1, Zaq ot1, hra, hrt, Nat.zero_add, List.getElem?_cons_succ, List.getElem?_cons_zero, Zah, Zan, Zae, Zap, Zao, true_and]
          have hma := List.getElem_mem hga
          have hmt := List.getElem_mem hgt
          have h1 := Ty.size_part hma
          have h2 := Ty.len_part hmt
          have bo1 : BOk n m1 := BOk.matchL (fun x hx => Ty.ok_ps ha x (List.mem_of_mem_take hx)) (fun x hx => ⟨Ty.ok_ps ht x (List.mem_of_mem_take hx), by have := Ty.len_part (List.mem_of_mem_take hx); omega⟩) bo hm1
          have htk := Zra a.ps t.ps m g hga hgt
          rw [hm1] at htk
          simp only at htk
          refine ⟨by omega, by omega, (Zxl N (by omega) (Ty.ok_ps ha _ hma) (Ty.ok_ps ht _ hmt) hB (by omega) bo1 hSi hka hkt rm1).mono ?_⟩
          rintro v h3 ⟨K3, hres⟩
          have oa3 : h3[h.length]? = some (.cells Zac [.int .u8 (a.hd : Int), .slice (some (ja, ofa)) a.ps.length ca ea] false) := by rw [K3.eq _ (Own.lt oa1) (by omega)]; exact oa1
          cases hmm : matchT m1 a.ps[g] t.ps[g] with
          | none =>
            rw [hmm] at hres htk
            subst hres
            simp only [Zai, Bool.not_false, Zbx, Zaq oa3, List.getElem?_cons_succ, List.getElem?_cons_zero, true_and]
            rw [Zqw a.ps t.ps m (g + 1) hlen htk]
            exact ⟨KK.trans K3, rfl⟩
          | some m2 =>
            rw [hmm] at hres htk
            obtain ⟨rfl, rm2⟩ := hres
            simp only [Zai, Bool.not_true, Zbd, Zaq oa3, List.getElem?_cons_succ, List.getElem?_cons_zero, true_and]
            rw [Zbm (by omega)]
            exact hR (g + 1) _ _ (by omega) ⟨rfl, by omega, hK.trans K3, m2, htk, rm2⟩
        · apply Zib.A10x0i
          have : g = a.ps.length := by omega
          subst this
          rw [List.take_length, hlen, List.take_length] at hm1
          rw [hm1]
          exact ⟨KK, rfl, rm1⟩
end Go.Sim

set_option linter.unusedVariables false
set_option linter.unusedSimpArgs false
set_option maxRecDepth 20000
namespace Go.Sim
open Go Go.RowKit

theorem Zqv : ∀ (N : Nat) {S : Nat → Prop} {h : Zaa} {t : Ty} {v : List Zar}, t.size ≤ N → t.txt.length ≤ 1048576 → Zhp S h t v → Zad pg Zhi [.agg v] h fun x h' => x = .int .i64 (t.txt.length : Nat) ∧ Zaz h.length h h'
  | 0, S, h, t, v, hN, _, _ => by have := t.size_ps; omega
  | N + 1, S, h, t, v, hN, hB, r => by
    obtain ⟨a, c, e, vs, rfl, hrow, hS, hvl, hp⟩ := r.parts
    have hps2 : t.ps.length ≤ 2 := by cases t <;> simp [Ty.ps]
    have htx := t.txt_mids
    have hln := congrArg List.length htx
    rw [List.length_append, List.length_cons] at hln
    apply Zfj.call
    simp only [Zax, Zeu, Nat.zero_add, List.getElem?_cons_succ, List.getElem?_cons_zero, Zah]
    generalize hh0 : h ++ [Zcn.cells Zac [.int .u8 (t.hd : Int), .slice a t.ps.length c e] false] = h0
    have s0 : Zaz h.length h h0 := by rw [← hh0]; exact Zau
    have o0 : h0[h.length]? = some (.cells Zac [.int .u8 (t.hd : Int), .slice a t.ps.length c e] false) := by rw [← hh0]; simp
    refine Zfj.L3ind _ _ _ _ _ _ _ _ (J := fun (g : Nat) x3 x9 h' => x9 = (g : Int) ∧ g ≤ t.ps.length ∧ Zaz h.length h h' ∧ Zaz h0.length h0 h' ∧ x3 = ((1 + (Znc 0 (t.ps.take g)).length : Nat) : Int)) (fun g => t.ps.length - g) ?_ 0 _ _ _ ⟨rfl, by omega, s0, Zaz.refl _ _, by simp [Znc]⟩
    rintro g x3 x9 h' ⟨rfl, hg, hSm, hS1, rfl⟩ R hR
    unfold Zfj.L3t
    have o2 := hS1.get o0 (Own.lt o0)
    refine Zal (fun hlt => ?_) (fun hge => ?_)
    · have hg' : g < t.ps.length := by omega
      obtain ⟨i, o, a2, c2, e2, rfl, hr, hk⟩ := Zhp.get (hrow.same' hSm) hvl (fun k w x h1 h2 => (hp k w x h1 h2).same hSm) hg'
      simp only [Zav, Int.toNat_natCast, hr, Zan, Zae, Zap, Zao, Zah, Zax]
      rw [Zgd]
      simp only [Zaw]
      rw [Ygh]
      simp only [Zan, Zae, Zap, Zao, Zah]
      have hm := List.getElem_mem hg'
      have h1 := Ty.size_part hm
      have h2 := Ty.len_part hm
      have hmt := Zsi t.ps 0 g hg'
      have hml : (Znc 0 (t.ps.take (g + 1))).length ≤ (Znc 0 t.ps).length := Zvu _ _ _
      have hmtl := congrArg List.length hmt
      simp only [List.length_append, List.length_cons, Nat.zero_add] at hmtl
      have s2 : Zaz h'.length h' (h' ++ [.cells Zac [.int .u8 (t.ps[g].hd : Int), .slice a2 t.ps[g].ps.length c2 e2] false]) := Zau
      refine ⟨by omega, (Zqv N (by omega) (by omega) (hk.same s2)).mono ?_⟩
      rintro x h3 ⟨rfl, s3⟩
      simp only [Zao]
      rw [Zbm (by omega), Zbm (by omega), IntWalk.i64_in _ (by omega)]
      exact hR (g + 1) _ _ _ (by omega) ⟨rfl, by omega, (hSm.cat s2).cat s3, (hS1.cat s2).cat s3, by omega⟩
    · apply Zfj.A3x0i
      have : g = t.ps.length := by omega
      subst this
      simp only [Zaq o2, Nat.zero_add, List.getElem?_cons_succ, List.getElem?_cons_zero, Zah]
      rw [List.take_length]
      refine Zal (fun hpos => ?_) (fun hneg => ?_)
      · have hne : t.ps ≠ [] := fun e => by rw [e] at hpos; simp at hpos
        rw [if_neg hne] at hln
        apply Zfj.J9i
        simp only [List.length_cons, List.length_nil] at hln
        rw [Zbm (by omega)]
        exact ⟨by congr 1; omega, hSm⟩
      · have hne : t.ps = [] := List.eq_nil_of_length_eq_zero (by omega)
        rw [if_pos hne] at hln
        simp only [List.length_nil] at hln
        apply Zfj.J9i
        exact ⟨by congr 1; omega, hSm⟩
def Ybj (m : Bd) (g : Nat) : List Nd := (Zfi.take g).filterMap fun v => (Zho m v).map fun t => ([v], t.txt)
theorem Yjs (m : Bd) (g : Nat) : Ybj m (g + 1) = Ybj m g ++ (match Zfi[g]? with | some v => (match Zho m v with | some t => [([v], t.txt)] | none => []) | none => []) := by
  unfold Ybj
  rw [List.take_succ, List.filterMap_append]
  cases Zfi[g]? with
  | none => simp
  | some v => cases hb : Zho m v <;> simp [hb]
theorem Ykl (m : Bd) (g : Nat) : (Ybj m g).length ≤ 6 := by
  unfold Ybj
  refine Nat.le_trans (List.length_filterMap_le _ _) ?_
  rw [List.length_take]; exact Nat.le_trans (Nat.min_le_right _ _) (by decide)
theorem Ylg {g v : Nat} (hv : Zfi[g]? = some v) : sub [88, 89, 90, 120, 121, 122, 49, 50, 51, 52, 53, 54] (g : Int) ((g : Int) + 1) = [v] := by
  have hg : g < 6 := (List.getElem?_eq_some_iff.1 hv).1
  match g, hg with
  | 0, _ | 1, _ | 2, _ | 3, _ | 4, _ | 5, _ => simp [Zfi] at hv; subst hv; rfl
theorem Yii {S : Nat → Prop} {h : Zaa} {i : Nat} {m : Bd} (rm : Zsa S h i m) (bo : BOk 60 m) :
    Zad pg Zny [.ptr (some (i, 0))] h fun v h' => Zaz h.length h h' ∧ ∃ a n c e, v = .tup [.slice a n c e, .bool true] ∧ n ≤ c ∧ Zel Zbb eP h.length h' a n (bdL m) := by
  apply Zfd.call
  simp only [Zax, Zav]
  generalize hh0 : h ++ [Zcn.cells Zbb [] false] = h0
  have s0 : Zaz h.length h h0 := by rw [← hh0]; exact Zau
  have l0 : h0.length = h.length + 1 := by rw [← hh0]; simp
  have o0 : h0[h.length]? = some (.cells Zbb [] false) := by rw [← hh0]; simp
  refine Zfd.L3ind _ _ (J := fun (g : Nat) a4 n4 c4 e4 x10 h' => x10 = (g : Int) ∧ g ≤ 12 ∧ Zaz h.length h h' ∧ n4 = (Ybj m g).length ∧ n4 ≤ c4 ∧ Vec Zbb h' a4 n4 c4 (Zff eP (Ybj m g)) ∧ (∀ i, a4 = some (i, 0) → h.length ≤ i)) (fun g => 12 - g) ?_ 0 _ _ _ _ _ _
    ⟨rfl, by omega, s0, by simp [Ybj], Nat.le_refl _, Vec.mk1 (by simpa [Ybj] using o0), fun i hi => by cases hi; omega⟩
  rintro g a4 n4 c4 e4 x10 h' ⟨rfl, hg, hSm, rfl, hnc, hv, ha⟩ R hR
  unfold Zfd.L3t
  have hbl := Ykl m g
  refine Zal (fun hlt => ?_) (fun hge => ?_)
  · have hg' : g < 12 := by omega
    obtain ⟨x, hx1, hx2, hx3⟩ := (rm.same hSm).get hg'
    have il := (rm.same hSm).lt
    have hx : ∃ (d : Nat) (a : Pt) (n c : Nat) (e : Bool), x = (.int .u8 (d : Int), .slice a n c e) ∧ (match (Zfi[g]?).bind (Zho m) with | some t => d = t.hd | none => d = 0) := by
      split at hx3
      · rename_i t ht
        obtain ⟨ua, uc, ue, hu⟩ := hx3.shape
        simp only [List.cons.injEq, and_true] at hu
        exact ⟨t.hd, ua, t.ps.length, uc, ue, by rw [← hu.1, ← hu.2], by first | rfl | rw [ht]⟩
      · rename_i hn; exact ⟨0, none, 0, 0, true, hx3, by first | rfl | rw [hn]⟩
    obtain ⟨d, ua, un, uc, ue, rfl, hd⟩ := hx
    simp only [Int.toNat_natCast, hx2, Zav, Zan, Zae, Zap, Zao, Zah, Zax]
    generalize hq : h' ++ [Zcn.cells Zac [.int .u8 0, .slice none 0 0 true] false] = hq'
    have sq : Zaz h'.length h' hq' := by rw [← hq]; exact Zau
    have hrq : Zbp hq' (.ptr (some (i, 0 + g * 2))) 2 = some [.int .u8 (d : Int), .slice ua un uc ue] := by
      rw [← hx2]; simp only [Zbp, sq.eq i il]
    rw [hrq, ← hq, Zgd]
    generalize hw : h' ++ [Zcn.cells Zac [.int .u8 (d : Int), .slice ua un uc ue] false] = hw'
    have sw : Zaz h'.length h' hw' := by rw [← hw]; exact Zau
    have ow : hw'[h'.length]? = some (.cells Zac [.int .u8 (d : Int), .slice ua un uc ue] false) := by rw [← hw]; simp
    simp only [Zaw, Zaq ow, Nat.zero_add, List.getElem?_cons_zero, Zao, true_and]
    have SW := hSm.cat sw
    have hsuc := Yjs m g
    have skip : (Zfi[g]?).bind (Zho m) = none → Zfd.J9 (fun v h' => Zaz h.length h h' ∧ ∃ a n c e, v = .tup [.slice a n c e, .bool true] ∧ n ≤ c ∧ Zel Zbb eP h.length h' a n (bdL m)) R (g : Int) (some (i, 0)) a4 (Ybj m g).length c4 e4 hw' := by
      intro hn
      have hsame : Ybj m (g + 1) = Ybj m g := by
        rw [hsuc]
        cases hvg : Zfi[g]? with
        | none => simp
        | some v => rw [hvg, Option.bind_some] at hn; simp [hn]
      apply Zfd.J9i
      rw [Zbm (by omega)]
      exact hR (g + 1) _ _ _ _ _ _ (by omega) ⟨rfl, by omega, SW, by rw [hsame], hnc, by rw [hsame]; exact hv.same sw, ha⟩
    refine ⟨by omega, ?_⟩
    cases hb : (Zfi[g]?).bind (Zho m) with
    | none =>
      rw [hb] at hd
      simp only at hd
      subst hd
      simp only [show (((0 : Nat) : Int) == 0) = true from rfl, Zbx]
      exact skip hb
    | some t =>
      rw [hb] at hd hx3
      simp only at hd hx3
      obtain ⟨v, hvg, hbv⟩ := Option.bind_eq_some_iff.1 hb
      have hu := bo.var _ (Zpq hbv)
      have hg6 : g < 6 := (List.getElem?_eq_some_iff.1 hvg).1
      have hd0 : ((d : Int) == 0) = false := by
        have := Zrr hu.2.1
        have hne : t.hd ≠ 0 := fun e => by rw [e] at this; simp at this
        simp; omega
      rw [show decide ((g : Int) ≥ 6) = false by simp; omega]
      simp only [hd0, Zbd]
      apply Zfd.J6i
      rw [← hw, Ygh, hw]
      simp only [Zan, Zae, Zap, Zao, Zah]
      have hu2 : t.txt.length ≤ 60 := hu.2.2
      refine (Zqv _ (Nat.le_refl _) (by omega) (hx3.same sw)).mono ?_
      rintro v' h3 ⟨rfl, s3⟩
      have o3 := s3.get ow (Own.lt ow)
      simp only [Zao]
      rw [show decide (((t.txt.length : Nat) : Int) > 60) = false by simp; omega]
      simp only [Zbd, Zee o3 (show 0 + 2 ≤ _ by simp), List.drop_zero, List.take_succ_cons, List.take_zero, Zan, Zae, Zap, Zao, Zah]
      rw [Zbm (by omega), show (((g + 1 : Nat) : Int)) = (g : Int) + 1 by omega, Ylg hvg]
      refine ⟨⟨by omega, by omega, by simp; omega⟩, (Zpf _ (Nat.le_refl _) (by omega) hu.2.1 ((hx3.same sw).same s3)).mono ?_⟩
      rintro v' h4 ⟨rfl, s4⟩
      simp only [Zaf, Zax]
      have S4 := (SW.cat s3).cat s4
      refine (((hv.same sw).same s3).same s4).pushN Zvc Ybf Zzq Zzk (by rw [Zbe Zdp]) rfl (by omega) rfl (by omega) (fun h6 hl6 hi6 hk6 => ?_)
      simp only [Zah]
      apply Zfd.J9i
      rw [Zbm (by omega)]
      have hle := S4.le
      have hs' : Ybj m (g + 1) = Ybj m g ++ [([v], t.txt)] := by rw [hsuc, hvg]; simp [hbv]
      refine hR (g + 1) _ _ _ _ _ _ (by omega) ⟨rfl, by omega, ⟨by omega, fun j hj => ?_⟩, by rw [hs']; simp, Nat.le_refl _, Vec.mk1 ?_, fun i hi => by cases hi; omega⟩
      · rw [hk6 j (by omega) fun i hi => by have := ha i hi; omega]; exact S4.eq j hj
      · rw [hi6, hs', Zki]; rfl
  · apply Zfd.A3x0i
    have : g = 12 := by omega
    subst this
    have hb12 : Ybj m 12 = bdL m := by unfold Ybj bdL; rw [List.take_of_length_le (by decide)]
    rw [hb12] at hv hnc ⊢
    exact ⟨hSm, _, _, _, _, rfl, hnc, hv.fresh (b := h.length) rfl fun i hi => ha i hi⟩
theorem Yix : Zff eR (List.replicate 12 (Zar.int .u8 0, Zar.slice none 0 0 true)) = [.int .u8 0, .slice none 0 0 true, .int .u8 0, .slice none 0 0 true, .int .u8 0, .slice none 0 0 true, .int .u8 0, .slice none 0 0 true, .int .u8 0, .slice none 0 0 true, .int .u8 0, .slice none 0 0 true, .int .u8 0, .slice none 0 0 true, .int .u8 0, .slice none 0 0 true, .int .u8 0, .slice none 0 0 true, .int .u8 0, .slice none 0 0 true, .int .u8 0, .slice none 0 0 true, .int .u8 0, .slice none 0 0 true] := rfl
theorem Zqb {h h' : Zaa} {s : List Nat} {vs : List Zar} (hm : match Zix s with | some t => Zhp (Btw h.length h'.length) h' t vs | none => vs = [.int .u8 0, .slice none 0 0 true]) : ∃ (d : Int) (a : Pt) (n c : Nat) (e : Bool), vs = [.int .u8 d, .slice a n c e] := by
  split at hm
  · obtain ⟨a, c, e, rfl⟩ := hm.shape; exact ⟨_, _, _, _, _, rfl⟩
  · exact ⟨_, _, _, _, _, hm⟩
theorem Zrl (p s : List Nat) (hp0 : p.length ≤ 1048576) (hs0 : s.length ≤ 1048576) (h : Zaa) : Zad pg Zin [.str p, .str s] h (Ydh p s h) := by
  apply Zlb.call
  refine (Zoy p (by omega) h).mono ?_
  rintro v h1 ⟨s1, vs1, rfl, r1⟩
  obtain ⟨d1, a1, n1, c1, e1, rfl⟩ := Zqb r1
  simp only [Zcw, Zae, Zdl, Zao, Zah, Zap, Zai, Zax]
  rw [Zgd]
  generalize hh2 : h1 ++ [Zcn.cells Zac [.int .u8 d1, .slice a1 n1 c1 e1] false] = h2
  have s2 : Zaz h1.length h1 h2 := by rw [← hh2]; exact Zau
  have o2 : h2[h1.length]? = some (.cells Zac [.int .u8 d1, .slice a1 n1 c1 e1] false) := by rw [← hh2]; simp
  simp only [Zaw]
  refine (Zoy s (by omega) h2).mono ?_
  rintro v h3 ⟨s3, vs3, rfl, r3⟩
  obtain ⟨d3, a3, n3, c3, e3, rfl⟩ := Zqb r3
  simp only [Zcw, Zae, Zdl, Zao, Zah, Zap, Zai]
  rw [Zgd]
  generalize hh4 : h3 ++ [Zcn.cells Zac [.int .u8 d3, .slice a3 n3 c3 e3] false] = h4
  have s4 : Zaz h3.length h3 h4 := by rw [← hh4]; exact Zau
  have o4 : h4[h3.length]? = some (.cells Zac [.int .u8 d3, .slice a3 n3 c3 e3] false) := by rw [← hh4]; simp
  simp only [Zaw]
  rw [← Yix]
  generalize hh5 : h4 ++ [Zcn.cells Zfh (Zff eR (List.replicate 12 (Zar.int .u8 0, Zar.slice none 0 0 true))) false] = h5
  have s5 : Zaz h4.length h4 h5 := by rw [← hh5]; exact Zau
  have o5 : h5[h4.length]? = some (.cells Zfh (Zff eR (List.replicate 12 (Zar.int .u8 0, Zar.slice none 0 0 true))) false) := by rw [← hh5]; simp
  have x2 : h5[h1.length]? = some (.cells Zac [.int .u8 d1, .slice a1 n1 c1 e1] false) := s5.get (s4.get (s3.get o2 (Own.lt o2)) (by have := Own.lt o2; have := s3.le; omega)) (by have := Own.lt o2; have := s3.le; have := s4.le; omega)
  have x4 := s5.get o4 (Own.lt o4)
  have S2 := s1.cat s2
  have S5 := (((S2.cat s3).cat s4).cat s5)
  have no : Zjo p s = none → ∀ hz, Zaz h.length h hz → Ydh p s h (.tup [.slice (some (hz.length, 0)) 0 0 true, .bool false]) (hz ++ [Zcn.cells Zbb [] false]) := fun hn hz sz =>
    ⟨sz.cat Zau, _, 0, 0, true, by unfold Zoc; rw [hn]; rfl, Nat.le_refl _, by unfold Zjq; rw [hn]; exact ⟨rfl, .inl rfl⟩⟩
  cases hp : Zix p with
  | none =>
    have : Znp p = false := by unfold Znp; rw [hp]; rfl
    rw [this]
    simp only [Bool.not_false, Zbx]
    exact no (by unfold Zjo; rw [hp]) _ S5
  | some a =>
    rw [Yhc hp]
    simp only [Bool.not_true, Zbd]
    cases ht : Zix s with
    | none =>
      have : Znp s = false := by unfold Znp; rw [ht]; rfl
      rw [this]
      simp only [Bool.not_false, Zbx]
      exact no (by unfold Zjo; rw [hp, ht]) _ S5
    | some t =>
      rw [Yhc ht]
      rw [hp] at r1
      rw [ht] at r3
      simp only at r1 r3
      simp only [Bool.not_true, Zbd, Zee x2 (show 0 + 2 ≤ _ by simp), Zee x4 (show 0 + 2 ≤ _ by simp), List.drop_zero, List.take_succ_cons, List.take_zero, Zan, Zae, Zap, Zao, Zah]
      obtain ⟨ha1, ha2, ha3⟩ := Zft.1 hp
      obtain ⟨ht1, ht2, ht3⟩ := Zft.1 ht
      have hms : Zjo p s = matchT [] a t := by unfold Zjo; rw [hp, ht]
      have l3 := s3.le; have l4 := s4.le; have l2 := s2.le
      have R1 := ((((r1.same s2).same s3).same s4).same s5).mono (S' := fun j => j ≠ h4.length) (fun j hj => by have := hj.2; omega)
      have R3 := ((r3.same s4).same s5).mono (S' := fun j => j ≠ h4.length) (fun j hj => by have := hj.2; omega)
      refine (Zxl _ (Nat.le_refl _) ha1 ht1 (n := 60) (by omega) (by rw [← ht2]; exact ht3) BOk.nil (fun j hj => hj) R1 R3 (Zsa.nil o5)).mono ?_
      rintro v h6 ⟨K6, hres⟩
      have l5 := S5.le
      have lh4 : h.length ≤ h4.length := (((S2.cat s3).cat s4)).le
      have S6 : Zaz h.length h h6 := ⟨by have := K6.le; omega, fun j hj => by rw [K6.eq j (by omega) (by omega)]; exact S5.eq j hj⟩
      cases hm : matchT [] a t with
      | none =>
        rw [hm] at hres hms
        subst hres
        simp only [Zai, Bool.not_false, Zbx]
        exact no hms _ S6
      | some m =>
        rw [hm] at hres hms
        obtain ⟨rfl, rm6⟩ := hres
        simp only [Zai, Bool.not_true, Zbd]
        apply Zlb.J6i
        refine (Yii rm6 (Zvz hms)).mono ?_
        rintro v h7 ⟨s7, a7, n7, c7, e7, rfl, hc7, f7⟩
        simp only [Zcw, Zae, Zah, Zai, Zap]
        refine ⟨S6.cat s7, a7, n7, c7, e7, by unfold Zoc; rw [hms]; rfl, hc7, ?_⟩
        unfold Zjq; rw [hms]
        exact ⟨f7.1, f7.2.imp id fun ⟨i, ha, hb, hi⟩ => ⟨i, ha, by have := S6.le; omega, hi⟩⟩
theorem Zwl (p s : List Nat) (hp0 : p.length ≤ 1048576) (hs0 : s.length ≤ 1048576) (h : Zaa) : Zad pg Zkd [.str p, .str s] h fun v h' => v = .bool (Zoc p s) ∧ Zaz h.length h h' := by
  apply Zmz.call
  refine (Zrl p s hp0 hs0 h).mono ?_
  rintro v h1 ⟨s1, a, n, c, e, rfl, _⟩
  simp only [Zcw, Zae, Zah, Zai, Zap]
  exact ⟨by trivial, s1⟩
end Go.Sim

set_option linter.unusedVariables false
set_option linter.unusedSimpArgs false
set_option maxRecDepth 20000
namespace Go.Sim
open Go Go.RowKit

theorem Ygk {s : List Nat} (h : ((s.length : Nat) : Int) ≠ 1) : Zjs s = false := by
  match s, h with
  | [], _ => rfl
  | [x], h => exact absurd rfl h
  | _ :: _ :: _, _ => rfl
theorem Yox {s : List Nat} (h : ((s.length : Nat) : Int) = 1) : ∃ v, s = [v] := by
  match s, h with
  | [], h => simp at h
  | [x], _ => exact ⟨x, rfl⟩
  | _ :: _ :: _, h => simp at h; omega
theorem Zsq {h : Zaa} {a : Pt} {n c : Nat} {e : Bool} {l : List Nd} (r : Row h.length h a (n * 2) (Zff eP l)) (hn : n ≤ 1048576) (hb : ∀ p ∈ l, p.2.length ≤ 1048576) (hb1 : ∀ p ∈ l, ∀ x ∈ p.1, x < 256) :
    Zad pg Zhz [.slice a n c e] h fun v h' => v = .bool (Zhj l) ∧ Zaz h.length h h' := by
  have hl : l.length = n := by have := r.1; rw [Zbe Zdp] at this; omega
  apply Zdo.call
  refine Zdo.L2ind _ _ _ _ _ _ _ _ _ _ (J := fun (g : Nat) x7 h' => x7 = (g : Int) ∧ g ≤ n ∧ Zaz h.length h h' ∧ (List.range g).all (Zox l) = true) (fun g => n - g) ?_ 0 _ _ ⟨rfl, by omega, Zaz.refl _ _, rfl⟩
  rintro g x7 h' ⟨rfl, hg, hS, hk⟩ R hR
  unfold Zdo.L2t
  refine Zal (fun hlt => ?_) (fun hge => ?_)
  · obtain ⟨i, o, hgl, rfl, hi, hr, _, _⟩ := (r.same hS).pr (k := g) (by omega)
    have hat : Zox l g = (Zjs l[g].1 && Znp l[g].2 && (g == 0 || Zdv (l.getD (g - 1) ([], [])).1 l[g].1)) := by unfold Zox; rw [Zea hgl]
    have no : Zox l g = false → Zhj l = false := fun hno => Zjb hgl hno
    have hbg := hb _ (List.getElem_mem hgl)
    have hbg1 := hb1 _ (List.getElem_mem hgl)
    simp only [Zav, Int.toNat_natCast, hr, Zan, Zae, Zap, Zaf, Zax]
    rw [Zgd]
    generalize hq : h' ++ [Zcn.cells Zbb [.str l[g].1, .str l[g].2] false] = hq'
    have sq : Zaz h'.length h' hq' := by rw [← hq]; exact Zau
    have oq : hq'[h'.length]? = some (.cells Zbb [.str l[g].1, .str l[g].2] false) := by rw [← hq]; simp
    have Sq := hS.cat sq
    simp only [Zaw, Zaq oq, Nat.zero_add, List.getElem?_cons_succ, List.getElem?_cons_zero, Zaf, true_and]
    refine ⟨by omega, Zfs (fun b0 => ⟨by rw [no (by rw [hat, Ygk b0]; rfl)], Sq⟩) (fun b0 => ?_)⟩
    obtain ⟨v, hv⟩ := Yox b0
    rw [hv] at hbg1
    have hvl := hbg1 v (by simp)
    rw [hv]
    refine ⟨by simp, ?_⟩
    simp only [Int.toNat_zero, List.getD_cons_zero]
    refine (Znv v).mono ?_
    rintro v' h2 ⟨rfl, rfl⟩
    simp only [Zai]
    have hiv : Zjs l[g].1 = Zdc v := by rw [hv]; rfl
    refine Zbs (fun b1 => ⟨by rw [no (by rw [hat, hiv, b1]; rfl)], Sq⟩) (fun b1 => ?_)
    simp only [Zaq oq, List.getElem?_cons_succ, List.getElem?_cons_zero, Zaf]
    refine (Zjp l[g].2 (by omega) h2).mono ?_
    rintro v' h3 ⟨rfl, s3⟩
    simp only [Zai]
    have S3 := Sq.cat s3
    refine Zbs (fun b2 => ⟨by rw [no (by rw [hat, b2]; simp)], S3⟩) (fun b2 => ?_)
    have go : (g = 0 ∨ Zdv (l.getD (g - 1) ([], [])).1 l[g].1 = true) → Zdo.J6 (fun v h' => v = .bool (Zhj l) ∧ Zaz h.length h h') R (g : Int) (((n : Nat) : Int)) (some (i, o)) n c e (some (i, o)) n c e h3 := by
      intro hz
      apply Zdo.J6i
      rw [Zbm (by omega)]
      refine hR (g + 1) _ _ (by omega) ⟨rfl, by omega, S3, Zgw hk ?_⟩
      rw [hat, hiv, b1, b2]
      rcases hz with rfl | hz
      · rfl
      · rw [hz]; simp
    refine Zal (fun hpos => ?_) (fun hz => go (.inl (by omega)))
    have hg0 : 0 < g := by omega
    obtain ⟨i', o', hgl', he, _, _, hc', _⟩ := (r.same S3).pr (k := g - 1) (by omega)
    cases he
    rw [Zxg hg0 (by omega)]
    simp only [Zav, Int.toNat_natCast, Nat.add_zero, hc', Zaq (s3.get oq (Own.lt oq)), List.getElem?_cons_zero, Zaf, true_and]
    have hgd : l.getD (g - 1) ([], []) = l[g - 1] := Zea hgl'
    refine ⟨by omega, Zbs (fun b3 => ⟨by rw [no (by rw [hat, hiv, b1, b2, hgd, b3]; simp; omega)], S3⟩) (fun b3 => go (.inr (by rw [hgd]; exact b3)))⟩
  · apply Zdo.A2x0i
    have : g = n := by omega
    subst this
    exact ⟨by unfold Zhj; rw [hl, hk], hS⟩
theorem Zhp.below {S : Nat → Prop} {h : Zaa} : ∀ {t : Ty} {v : List Zar}, Zhp S h t v → Zhp (fun j => S j ∧ j < h.length) h t v
  | .k d, _, h => h
  | .u d x, _, ⟨j, c, e, r, hv, sj, hj, hr⟩ => ⟨j, c, e, r, hv, ⟨sj, Own.lt hj⟩, hj, hr.below⟩
  | .w d x y, _, ⟨j, c, e, r, r', hv, sj, hj, hr, hr'⟩ => ⟨j, c, e, r, r', hv, ⟨sj, Own.lt hj⟩, hj, hr.below, hr'.below⟩
theorem Ykv {f : Nat → Option Ty} {t : Ty} (h : f t.hd = none ∨ t.ps ≠ []) : (subst f t).hd = t.hd ∧ (subst f t).ps = t.ps.map (subst f) := by
  cases t with
  | k c =>
    have : f c = none := by rcases h with h | h; exact h; exact absurd rfl h
    simp [subst, this, Ty.hd, Ty.ps]
  | u c a => simp [subst, Ty.hd, Ty.ps]
  | w c a b => simp [subst, Ty.hd, Ty.ps]
theorem Ycy : pg.underlying Zjh = some (.slice Zac) := by kernel_rfl
theorem Yhu : pg.cellsOf Zac = 2 := by kernel_rfl
theorem Yjp : pg.okElem Zac = true := by kernel_rfl
theorem Yin : pg.bytesOf Zac ≤ 127 := Nat.le_of_ble_eq_true (by kernel_rfl)
theorem Yae {vs : List (List Zar)} (h : ∀ v ∈ vs, v.length = 2) : vs.flatten.length = vs.length * 2 := by
  rw [List.length_flatten]
  induction vs with
  | nil => rfl
  | cons v vs ih =>
    have h1 := h v (by simp)
    have h2 := ih (fun x hx => h x (by simp [hx]))
    simp only [List.map_cons, List.sum_cons, List.length_cons]; omega
theorem Ydn : ∀ (N : Nat) {t : Ty} {S : Nat → Prop} {h : Zaa} {vt : List Zar} {i : Nat} {m : Bd}, t.size ≤ N → t.ok = true → (∀ j, S j → j < h.length ∧ j ≠ i) → Zhp S h t vt → Zsa S h i m → (∀ v u, Zho m v = some u → u.ok = true) → (∀ v, Zdc v = false → Zho m v = none) →
    Zad pg Zml [.ptr (some (i, 0)), .agg vt] h fun x h' => Zaz h.length h h' ∧ ∃ vs, x = .agg vs ∧ Zhp (fun j => S j ∨ h.length ≤ j) h' (subst (Zho m) t) vs
  | 0, t, S, h, vt, i, m, hN, _, _, _, _, _, _ => by have := t.size_ps; omega
  | N + 1, t, S, h, vt, i, m, hN, ht, hSi, rt, rm, hmo, hmn => by
    obtain ⟨at', ct, et, vts, rfl, rowt, hSt, hvtl, hvt⟩ := id rt.parts
    have hps2 : t.ps.length ≤ 2 := by cases t <;> simp [Ty.ps]
    have hil := rm.lt
    apply Zhg.call
    simp only [Zax]
    generalize hh0 : h ++ [Zcn.cells Zac [.int .u8 (t.hd : Int), .slice at' t.ps.length ct et] false] = h0
    generalize hh1 : h0 ++ [Zcn.cells Zac [.int .u8 0, .slice none 0 0 true] false] = h1
    have s0 : Zaz h.length h h0 := by rw [← hh0]; exact Zau
    have s1 : Zaz h0.length h0 h1 := by rw [← hh1]; exact Zau
    have o0 : h0[h.length]? = some (.cells Zac [.int .u8 (t.hd : Int), .slice at' t.ps.length ct et] false) := by rw [← hh0]; simp
    have oa := s1.get o0 (Own.lt o0)
    have oz : h1[h0.length]? = some (.cells Zac [.int .u8 0, .slice none 0 0 true] false) := by rw [← hh1]; simp
    have S1 := s0.cat s1
    have l0 : h0.length = h.length + 1 := by rw [← hh0]; simp
    have l1 : h1.length = h.length + 2 := by rw [← hh1]; simp [l0]
    simp only [Zaq oa, Nat.zero_add, List.getElem?_cons_succ, List.getElem?_cons_zero, Zao]
    refine (Zsp t.hd).mono ?_
    rintro v h2 ⟨rfl, rfl⟩
    have rm1 := rm.same S1
    simp only [Zao, Zav]
    -- nothing stands for the letter
    have main : Zho m t.hd = none → Zhg.J4 (fun x h' => Zaz h.length h h' ∧ ∃ vs, x = .agg vs ∧ Zhp (fun j => S j ∨ h.length ≤ j) h' (subst (Zho m) t) vs) h.length 0 (some (i, 0)) h0.length 0 h2 := by
      intro hno
      obtain ⟨hsh, hsp⟩ := Ykv (f := Zho m) (t := t) (.inl hno)
      apply Zhg.J4i
      simp only [Zaq oa, Nat.zero_add, List.getElem?_cons_succ, List.getElem?_cons_zero, Zao, Zax]
      generalize hh3 : h2 ++ [Zcn.cells Zac [] false] = h3
      have s3 : Zaz h2.length h2 h3 := by rw [← hh3]; exact Zau
      have o3 : h3[h2.length]? = some (.cells Zac [] false) := by rw [← hh3]; simp
      have l3 : h3.length = h2.length + 1 := by rw [← hh3]; simp
      rw [Zgd]
      generalize hh4 : h3 ++ [Zcn.cells Zac [.int .u8 (t.hd : Int), .slice (some (h2.length, 0)) 0 0 true] false] = h4
      have s4 : Zaz h3.length h3 h4 := by rw [← hh4]; exact Zau
      have o4 : h4[h3.length]? = some (.cells Zac [.int .u8 (t.hd : Int), .slice (some (h2.length, 0)) 0 0 true] false) := by rw [← hh4]; simp
      have l4 : h4.length = h3.length + 1 := by rw [← hh4]; simp
      have oa4 := s4.get (s3.get oa (Own.lt oa)) (by have := Own.lt oa; omega)
      have oz4 := s4.get (s3.get oz (Own.lt oz)) (by have := Own.lt oz; omega)
      have o34 := s4.get o3 (Own.lt o3)
      have S4 := (S1.cat s3).cat s4
      simp only [Zaw, Zaq oa4, List.getElem?_cons_succ, List.getElem?_cons_zero, Zah]
      refine Zhg.L6ind _ _ _ _ _ _ _ _ _ _ _ (J := fun (g : Nat) x35 h' => x35 = (g : Int) ∧ g ≤ t.ps.length ∧ Zaz h.length h h' ∧ h4.length ≤ h'.length ∧ h'[h0.length]? = some (.cells Zac [.int .u8 0, .slice none 0 0 true] false) ∧
        ∃ (a : Pt) (cp : Nat) (e : Bool) (vs : List (List Zar)), h'[h3.length]? = some (.cells Zac [.int .u8 (t.hd : Int), .slice a g cp e] false) ∧ vs.length = g ∧ Vec Zac h' a g cp vs.flatten ∧ (∀ j, a = some (j, 0) → j = h2.length ∨ h4.length ≤ j) ∧
          ∀ (k : Nat) (v : List Zar) (x : Ty), vs[k]? = some v → t.ps[k]? = some x → Zhp (fun j => (S j ∨ h4.length ≤ j) ∧ ∀ j0, a = some (j0, 0) → j ≠ j0) h' (subst (Zho m) x) v)
        (fun g => t.ps.length - g) ?_ 0 _ _ ⟨rfl, by omega, S4, Nat.le_refl _, oz4, some (h2.length, 0), 0, true, [], o4, rfl, Vec.mk1 (by simpa using o34), fun j hj => by cases hj; exact .inl rfl, by simp⟩
      rintro g x35 h' ⟨rfl, hg, hS, hl4, hz, a, cp, e, vs, ho, hvl, hv, ha, hp⟩ R hR
      unfold Zhg.L6t
      have hz2 : ∀ v ∈ vs, v.length = 2 := fun v hv => by
        obtain ⟨k, hk, rfl⟩ := List.mem_iff_getElem.1 hv
        exact (hp k vs[k] (t.ps[k]'(by omega)) (List.getElem?_eq_getElem hk) (List.getElem?_eq_getElem (by omega))).len
      refine Zal (fun hlt => ?_) (fun hge => ?_)
      · have hgt : g < t.ps.length := by omega
        obtain ⟨jt, oft, a4, c4, e4, rfl, hrt, hkt⟩ := Zhp.get (rowt.same' hS) hvtl (fun k w x h1 h2 => (hvt k w x h1 h2).same hS) hgt
        simp only [Zav, Int.toNat_natCast, hrt, Zan, Zae, Zap, Zao, Zah, Zax]
        rw [Zgd]
        generalize hq : h' ++ [Zcn.cells Zac [.int .u8 (t.ps[g].hd : Int), .slice a4 t.ps[g].ps.length c4 e4] false] = hq'
        have sq : Zaz h'.length h' hq' := by rw [← hq]; exact Zau
        have oq := sq.get ho (Own.lt ho)
        simp only [Zaw, Zaq oq, Nat.zero_add, List.getElem?_cons_succ, List.getElem?_cons_zero, Zah]
        rw [← hq, Ygh, hq]
        simp only [Zan, Zae, Zap, Zao, Zah, true_and]
        have hmt := List.getElem_mem hgt
        have h1 := Ty.size_part hmt
        have hlq := sq.le
        have hSle := hS.le
        refine ⟨by omega, (Ydn N (by omega) (Ty.ok_ps ht _ hmt) (S := S) (fun j hj => ⟨by have := (hSi j hj).1; omega, (hSi j hj).2⟩) (hkt.same sq) (rm.same (hS.cat sq)) hmo hmn).mono ?_⟩
        rintro v h5 ⟨s5, nv, rfl, hn5⟩
        obtain ⟨na, nc, ne, hnv⟩ := hn5.shape
        rw [hnv] at hn5
        have o5 := s5.get oq (Own.lt oq)
        simp only [hnv, Zdl, Zae, Zap, Zao, Zah, Zaq o5, List.getElem?_cons_succ, List.getElem?_cons_zero, true_and]
        have hc6 : Zag (h5 ++ [Zcn.cells Zac [.int .u8 ((subst (Zho m) t.ps[g]).hd : Int), .slice na (subst (Zho m) t.ps[g]).ps.length nc ne] false]) (.ptr (some (h3.length, 1))) = some (.slice a g cp e) := by rw [Zaq (Zon o5)]; rfl
        refine ⟨by rw [hc6], ?_⟩
        have v5 := (hv.same sq).same s5
        have hl5 := s5.le
        refine v5.pushN Ycy Yhu Yjp Yin (by rw [Yae hz2]; omega) rfl (by omega) rfl (by omega) (fun h7 hl7 hi7 hk7 => ?_)
        simp only [Zah]
        have hz5 := s5.get (sq.get hz (Own.lt hz)) (by have := Own.lt hz; omega)
        have ha5 : ∀ j, a = some (j, 0) → j = h2.length ∨ h4.length ≤ j := ha
        have o7 : h7[h3.length]? = some (.cells Zac [.int .u8 (t.hd : Int), .slice a g cp e] false) := by
          rw [hk7 _ (Own.lt o5) fun j hj => by rcases ha j hj with hh | hh <;> omega]; exact o5
        rw [Zcc o7 (by simp)]
        simp only [Zaw, putRow, List.take_succ_cons, List.take_zero, List.length_cons, List.length_nil, List.drop_succ_cons, List.drop_nil, List.cons_append, List.nil_append, List.append_nil]
        rw [Zbm (by omega)]
        have hS5 := (hS.cat sq).cat s5
        have h7o : ∀ j, j < h5.length → (∀ j0, a = some (j0, 0) → j ≠ j0) → j ≠ h3.length → (h7.set h3.length (Zcn.cells Zac [.int .u8 (t.hd : Int), .slice (some (h5.length + 1, 0)) (g + 1) (g + 1) false] false))[j]? = h5[j]? := fun j hj hne hne2 => by rw [Zcr (by omega), hk7 j hj hne]
        refine hR (g + 1) _ _ (by omega) ⟨rfl, by omega, ⟨by simp; omega, fun j hj => ?_⟩, by simp; omega, ?_, some (h5.length + 1, 0), g + 1, false, vs ++ [[.int .u8 ((subst (Zho m) t.ps[g]).hd : Int), .slice na (subst (Zho m) t.ps[g]).ps.length nc ne]], Zdi o7, by simp [hvl], Vec.mk1 ?_, fun j hj => by cases hj; right; omega, ?_⟩
        · rw [h7o j (by omega) (fun j0 hj0 => by rcases ha j0 hj0 with hh | hh <;> omega) (by omega)]; exact hS5.eq j hj
        · rw [h7o _ (Own.lt hz5) (fun j0 hj0 => by rcases ha j0 hj0 with hh | hh <;> omega) (by omega)]; exact hz5
        · rw [Zcr (by omega), hi7]; simp
        · intro k v x hv' hx
          have hkeep : ∀ {t' : Ty} {v' : List Zar}, Zhp (fun j => (S j ∨ h4.length ≤ j) ∧ ∀ j0, a = some (j0, 0) → j ≠ j0) h5 t' v' → Zhp (fun j => (S j ∨ h4.length ≤ j) ∧ ∀ j0, (some (h5.length + 1, 0) : Pt) = some (j0, 0) → j ≠ j0) (h7.set h3.length (Zcn.cells Zac [.int .u8 (t.hd : Int), .slice (some (h5.length + 1, 0)) (g + 1) (g + 1) false] false)) t' v' := by
            intro t' v' hr
            have hr2 := hr.below
            refine Zhp.mono (S := fun j => ((S j ∨ h4.length ≤ j) ∧ ∀ j0, a = some (j0, 0) → j ≠ j0) ∧ j < h5.length) (fun j hj => ⟨hj.1.1, fun j0 e0 => by cases e0; have := hj.2; omega⟩) (hr2.agree fun j hj => ?_)
            refine h7o j hj.2 hj.1.2 ?_
            rcases hj.1.1 with h8 | h8
            · have := (hSi j h8).1; omega
            · omega
          by_cases hkl : k < vs.length
          · rw [List.getElem?_append_left hkl] at hv'
            exact hkeep (((hp k v x hv' hx).same sq).same s5)
          · rw [List.getElem?_append_right (by omega)] at hv'
            have hk0 : k = vs.length := by
              by_cases e : k - vs.length = 0
              · omega
              · rw [List.getElem?_eq_none (by simp; omega)] at hv'; cases hv'
            subst hk0
            simp at hv'
            subst hv'
            rw [hvl, List.getElem?_eq_getElem hgt] at hx
            cases hx
            refine hkeep (Zhp.mono (S := fun j => S j ∨ hq'.length ≤ j) (fun j hj => ⟨?_, fun j0 e0 => ?_⟩) hn5)
            · rcases hj with h8 | h8
              · exact .inl h8
              · exact .inr (by omega)
            · have hj0 := (hv.same sq).lt' e0
              rcases hj with h8 | h8
              · have := (hSi j h8).1
                rcases ha j0 e0 with hh | hh <;> omega
              · omega
      · apply Zhg.A6x0i
        have : g = t.ps.length := by omega
        subst this
        have hrow := Zee (o := 0) (n := 2) ho (by simp)
        rw [hrow]
        simp only [List.drop_zero, List.take_succ_cons, List.take_zero, Zan, Zae, Zap, Zao, Zah]
        rw [Zcc hz (by simp)]
        simp only [Zaw]
        rw [Zee (Zdi hz) (by simp [putRow])]
        simp only [putRow, List.take_zero, List.nil_append, List.length_cons, List.length_nil, List.cons_append, List.drop_succ_cons, List.drop_zero, List.drop_nil, List.append_nil, List.take_succ_cons, Zan, Zae, Zao, Zah, Zap]
        refine ⟨⟨by simp; exact hS.le, fun j hj => by rw [Zcr (by omega)]; exact hS.eq j hj⟩, _, rfl, ?_⟩
        have hget : ∀ j, j ≠ h0.length → (h'.set h0.length (Zcn.cells Zac [.int .u8 (t.hd : Int), .slice a t.ps.length cp e] false))[j]? = h'[j]? := fun j hj => Zcr (fun e => hj e.symm)
        rcases hv with ⟨rfl, h0', _, hvs⟩ | ⟨j0, rfl, hj0⟩
        · -- no parts
          have hps : t.ps = [] := List.eq_nil_of_length_eq_zero h0'
          cases t with
          | k d =>
            simp only [subst, show Zho m d = none from hno, Option.getD_none]
            exact ⟨_, _, _, rfl⟩
          | u d x => simp [Ty.ps] at hps
          | w d x y => simp [Ty.ps] at hps
        · have hj0n : j0 ≠ h0.length := by rcases ha j0 rfl with hh | hh <;> omega
          have hS4 := ha j0 rfl
          have := Zhp.make (S := fun j => S j ∨ h.length ≤ j) (h := h'.set h0.length (Zcn.cells Zac [.int .u8 (t.hd : Int), .slice (some (j0, 0)) t.ps.length cp e] false)) (t := subst (Zho m) t) (j := j0) (n := t.ps.length) (c := cp) (e := e) (vs := vs)
            (by rw [hsp, List.length_map]) (.inr (by rcases hS4 with hh | hh <;> omega)) (by rw [hget j0 hj0n]; exact hj0) hvl (fun k w x hw hx => by
              rw [hsp, List.getElem?_map] at hx
              obtain ⟨y, hy, rfl⟩ := Option.map_eq_some_iff.1 hx
              have hr := hp k w y hw hy
              refine Zhp.mono (S := fun j => (S j ∨ h4.length ≤ j) ∧ ∀ j1, (some (j0, 0) : Pt) = some (j1, 0) → j ≠ j1) (fun j hj => hj.1.imp id (fun h => by omega)) (hr.agree fun j hj => hget j ?_)
              rcases hj.1 with h8 | h8
              · have := (hSi j h8).1; omega
              · omega)
          rw [hsh] at this
          exact this
    cases hv : Zdc t.hd with
    | true =>
      obtain ⟨k, hk6, hkv, hix⟩ := Zud hv
      rw [hix]
      obtain ⟨x, hx1, hx2, hx3⟩ := rm1.get (k := k) (by omega)
      rw [hkv, Option.bind_some] at hx3
      have hge : decide ((k : Int) ≥ 0) = true := by simp
      simp only [hge, Zbx, Int.toNat_natCast, hx1, hx2, Zan, Zae, Zap]
      refine ⟨by omega, ?_⟩
      cases hg : Zho m t.hd with
      | none =>
        rw [hg] at hx3
        simp only at hx3
        subst hx3
        simp only [Zao, show ((0 : Int) == 0) = true from rfl, Bool.not_true, Zbd]
        exact main hg
      | some u =>
        rw [hg] at hx3
        simp only at hx3
        have hu := hmo _ _ hg
        obtain ⟨ux, uc, ue, hux⟩ := hx3.shape
        simp only [List.cons.injEq, and_true] at hux
        obtain ⟨hux1, hux2⟩ := hux
        rw [hux1, hux2] at hx3
        rw [hux1, hux2]
        have hu0 : (((u.hd : Nat) : Int) == 0) = false := by
          have := Zrr hu
          have hne : u.hd ≠ 0 := fun e => by rw [e] at this; simp at this
          simp; omega
        simp only [Zao, Zah, hu0, Bool.not_false, Zbx]
        rw [Zcc oz (by simp)]
        simp only [Zaw]
        rw [Zee (Zdi oz) (by simp [putRow])]
        simp only [putRow, List.take_zero, List.nil_append, List.length_cons, List.length_nil, List.cons_append, List.drop_succ_cons, List.drop_zero, List.drop_nil, List.append_nil, List.take_succ_cons, Zan, Zae, Zao, Zah, Zap]
        refine ⟨by omega, ⟨by simp; omega, fun j hj => by rw [Zcr (by omega)]; exact S1.eq j hj⟩, _, rfl, ?_⟩
        have hsub : subst (Zho m) t = u := by rw [Zpc ht hv]; simp [subst, hg]
        rw [hsub]
        refine Zhp.mono (S := S) (fun j hj => .inl hj) (hx3.agree fun j hj => Zcr (by have := (hSi j hj).1; omega))
    | false =>
      rw [Yap ht hv]
      have hge : decide ((-1 : Int) ≥ 0) = false := by decide
      simp only [hge, Zbd]
      exact main (hmn _ hv)
end Go.Sim

set_option linter.unusedSimpArgs false
set_option linter.unusedVariables false
namespace Go.Sim

def Ymb : Ty → List Nat
  | .k c => if Zdc c then [c] else []
  | .u c a => Ymb a
  | .w c a b => Ymb a ++ Ymb b
structure Yqw (m m' : Bd) (a t : Ty) : Prop where
  keep : ∀ v u, Zho m v = some u → Zho m' v = some u
  sub : subst (Zho m') a = t
  vars : ∀ v, (Zho m' v).isSome = true ↔ ((Zho m v).isSome = true ∨ v ∈ Ymb a)
end Go.Sim

set_option linter.unusedSimpArgs false
set_option linter.unusedVariables false
namespace Go.Sim

structure Yqs (f : Nat → Option Ty) : Prop where
  nv : ∀ v, Zdc v = false → f v = none
  ok : ∀ v t, f v = some t → t.ok = true
noncomputable def after (f g : Nat → Option Ty) (v : Nat) : Option Ty := if Zdc v then some (subst g ((f v).getD (.k v))) else none
noncomputable def Ypt (a b : Ins) : Bool := decide (a.1.1 = b.1.1) && Zoc b.1.2 a.1.2
end Go.Sim

set_option linter.unusedVariables false
set_option linter.unusedSimpArgs false
set_option maxRecDepth 20000
namespace Go.Sim
open Go Go.RowKit

theorem Yma {h : Zaa} {a0 a1 : Pt} {n0 c0 n1 c1 : Nat} {w : Wd} (r : Zmi h a0 n0 c0 a1 n1 c1 w) {k : Nat} (hk : k < w.is.length) :
    ∃ i o a n cp e, a1 = some (i, o) ∧ i < h.length ∧ Zbp h (.ptr (some (i, o + k * 3))) 3 = some [.str w.is[k].1.1, .str w.is[k].1.2, .slice a n cp e] ∧ Zag h (.ptr (some (i, o + k * 3))) = some (.str w.is[k].1.1) ∧ Zag h (.ptr (some (i, o + k * 3 + 1))) = some (.str w.is[k].1.2) ∧ Row h.length h a (n * 2) (Zff eP w.is[k].2) ∧ w.is[k].2.length = n := by
  have hl := r.len1
  obtain ⟨i, o, hk', a, n, cp, e, h1, h2, h3, h4, h5, h6, h7, h8⟩ := r.inst (k := k) (by omega)
  exact ⟨i, o, a, n, cp, e, h1, h2, h3, h4, h5, h7, h8⟩
end Go.Sim

set_option linter.unusedVariables false
set_option linter.unusedSimpArgs false
set_option maxRecDepth 20000
namespace Go.Sim
open Go Go.RowKit

noncomputable def Zrj (n : Nd) (i : Ins) : Bool := decide (i.1.1 = n.1) && Zoc i.1.2 n.2
noncomputable def Ycl (w : Wd) (n : Nd) : List Int := ixs (Zrj n) w.is
theorem Ygx {α : Type} {f : α → Bool} {l : List α} {x : Int} (h : x ∈ ixs f l) : ∃ k : Nat, ∃ hk : k < l.length, x = k ∧ f l[k] = true := by
  unfold ixs at h
  obtain ⟨p, hp, rfl⟩ := List.mem_map.1 h
  obtain ⟨h1, h2⟩ := List.mem_filter.1 hp
  obtain ⟨a, k⟩ := p
  have h3 := List.mem_zipIdx h1
  simp only [Nat.zero_add, Nat.zero_le, Nat.sub_zero, true_and] at h3
  exact ⟨k, h3.1, rfl, by simp only at h2; rw [← h3.2]; exact h2⟩
theorem Yfw {h : Zaa} {a : Pt} {n c j : Nat} {e : Bool} {ct tt nc nt : List Nat} (hj : h[j]? = some (.cells Zaj [.str nc, .str nt] false)) :
    Zad pg Zca [.agg [.str ct, .str tt, .slice a n c e], .ptr (some (j, 0))] h fun v h' => v = .bool (Zoc tt nt) ∧ Zaz h.length h h' := by
  apply Zjt.call
  have s1 : Zaz h.length h (h ++ [.cells Zas [.str ct, .str tt, .slice a n c e] false]) := Zau
  simp only [Zax, Zeu, Nat.zero_add, List.getElem?_cons_succ, List.getElem?_cons_zero, Zaf, fa1, Zaq (s1.get hj (Own.lt hj))]
  refine (Zyr tt nt _).mono ?_
  rintro v h2 ⟨rfl, s2⟩
  simp only [Zai]
  exact ⟨by trivial, s1.cat s2⟩
theorem Ynr {h : Zaa} {t : TypeId} {x y z a b c : Zar} : Zbn (h ++ [.cells t [x, y, z] false]) (.ptr (some (h.length, 0))) [a, b, c] = some (h ++ [.cells t [a, b, c] false]) := Ztb rfl
theorem Yfb {h : Zaa} {a0 a1 : Pt} {n0 c0 n1 c1 j : Nat} {e0 e1 : Bool} {w : Wd} {nd : Nd} (r : Zmi h a0 n0 c0 a1 n1 c1 w) (b : WB w) (hj : h[j]? = some (.cells Zaj [.str nd.1, .str nd.2] false)) :
    Zad pg Zpa [.agg [.slice a0 n0 c0 e0, .slice a1 n1 c1 e1], .str nd.1, .fn Zca [.ptr (some (j, 0))]] h fun v h' => Zaz h.length h h' ∧ ∃ a n c e, v = .slice a n c e ∧ Zel Zto eI h.length h' a n (Ycl w nd) := by
  have hl1 := r.len1
  have hli := b.li
  apply Zbr.call
  simp only [Zax]
  generalize hh0 : h ++ [Zcn.cells Zak [.slice a0 n0 c0 e0, .slice a1 n1 c1 e1] false] = h0
  generalize hh1 : h0 ++ [Zcn.cells Zto [] false] = h1
  have s0 : Zaz h.length h h0 := by rw [← hh0]; exact Zau
  have s1 : Zaz h0.length h0 h1 := by rw [← hh1]; exact Zau
  have w0 : h0[h.length]? = some (Zns a0 n0 c0 e0 a1 n1 c1 e1) := by rw [← hh0]; simp [Zns]
  have w1 := s1.get w0 (Own.lt w0)
  have o1 : h1[h0.length]? = some (.cells Zto [] false) := by rw [← hh1]; simp
  have l0 : h0.length = h.length + 1 := by rw [← hh0]; simp
  have S1 := s0.cat s1
  simp only [Zph w1, Nat.zero_add, List.getElem?_cons_succ, List.getElem?_cons_zero, Zah]
  refine Zbr.L3ind _ _ _ _ _ _ _ _ (J := fun (g : Nat) a4 n4 c4 e4 x14 h' => x14 = (g : Int) ∧ g ≤ n1 ∧ Zaz h.length h h' ∧ n4 = (ixs (Zrj nd) (w.is.take g)).length ∧ Vec Zto h' a4 n4 c4 (Zff eI (ixs (Zrj nd) (w.is.take g))) ∧ (∀ i, a4 = some (i, 0) → h.length ≤ i)) (fun g => n1 - g) ?_ 0 _ _ _ _ _ _
    ⟨rfl, by omega, S1, rfl, Vec.mk1 (by simpa [ixs] using o1), fun i hi => by cases hi; omega⟩
  rintro g a4 n4 c4 e4 x14 h' ⟨rfl, hg, hS, rfl, hv, ha⟩ R hR
  unfold Zbr.L3t
  refine Zal (fun hlt => ?_) (fun hge => ?_)
  · have hgl : g < w.is.length := by omega
    obtain ⟨i, o, a2, n2, c2, e2, rfl, _, hr, _, _, hrow, hn⟩ := Yma (r.same hS) hgl
    simp only [Zav, Int.toNat_natCast, hr, Zan, Zae, Zap, Zaf, Zah, Zax]
    rw [Ynr]
    simp only [Zaw, Zeu, Nat.zero_add, List.getElem?_cons_succ, List.getElem?_cons_zero, Zaf]
    have hil := Yih (Zrj nd) (w.is.take g)
    rw [List.length_take] at hil
    have htk := Ylz (Zrj nd) hgl
    generalize hq : h' ++ [Zcn.cells Zas [.str w.is[g].1.1, .str w.is[g].1.2, .slice a2 n2 c2 e2] false] = hq'
    have sq : Zaz h'.length h' hq' := by rw [← hq]; exact Zau
    have skip : ∀ hz, Zaz hq'.length hq' hz → Zrj nd w.is[g] = false → Zbr.J7 (fun v h' => Zaz h.length h h' ∧ ∃ a n c e, v = .slice a n c e ∧ Zel Zto eI h.length h' a n (Ycl w nd)) R (g : Int) (((n1 : Nat) : Int)) (some (i, o)) n1 c1 e1 nd.1 (.ptr (some (j, 0))) a4 (ixs (Zrj nd) (w.is.take g)).length c4 e4 hz := by
      intro hz sz hno
      apply Zbr.J7i
      rw [hno] at htk
      simp only [Bool.false_eq_true, if_false, List.append_nil] at htk
      rw [Zbm (by omega)]
      exact hR (g + 1) _ _ _ _ _ _ (by omega) ⟨rfl, by omega, (hS.cat sq).cat sz, by rw [htk], by rw [htk]; exact (hv.same sq).same sz, ha⟩
    refine ⟨by omega, Zal (fun hc => ?_) (fun hc => skip _ (Zaz.refl _ _) (by unfold Zrj; simp [hc]))⟩
    rw [← hq, Ynb, hq]
    simp only [Zan, Zae, Zap, Zaf, Zah]
    refine (Yfw (sq.get (hS.get hj (Own.lt hj)) (by have := Own.lt hj; have := hS.le; omega))).mono ?_
    rintro v h3 ⟨rfl, s3⟩
    simp only [Zai]
    refine Zdu (fun hi => ?_) (fun hi => skip _ s3 (by unfold Zrj; simp [hi]))
    have hyes : Zrj nd w.is[g] = true := by unfold Zrj; simp [hc, hi]
    rw [hyes, if_pos rfl] at htk
    have S3 := (hS.cat sq).cat s3
    refine ((hv.same sq).same s3).push Ynl Yqf Ypy Yqb (by rw [Zbe Ydx]; omega) rfl (by omega) (fun h6 hl6 hi6 hk6 => ?_)
    simp only [Zah]
    apply Zbr.J7i
    rw [Zbm (by omega)]
    have hle := S3.le
    refine hR (g + 1) _ _ _ _ _ _ (by omega) ⟨rfl, by omega, ⟨by omega, fun j hj => ?_⟩, by rw [htk]; simp, Vec.mk1 ?_, fun i hi => by cases hi; omega⟩
    · rw [hk6 j (by omega) fun i hi => by have := ha i hi; omega]; exact S3.eq j hj
    · rw [hi6, htk, Zki]; rfl
  · apply Zbr.A3x0i
    have : g = n1 := by omega
    subst this
    rw [List.take_of_length_le (by omega)] at hv ⊢
    exact ⟨hS, _, _, _, _, rfl, hv.fresh (b := h.length) rfl fun i hi => ha i hi⟩
def Yps (w : Wd) (n : Nd) (h : Zaa) (v : Zar) (h' : Zaa) : Prop := Zaz h.length h h' ∧ ∃ a m c e, v = .slice a m c e ∧ Zel Zto eI h.length h' a m (Ycl w n)
theorem Zel.low {α : Type} {ty : TypeId} {enc : α → List Zar} {b b' : Nat} {h : Zaa} {a : Pt} {n : Nat} {l : List α} (f : Zel ty enc b h a n l) (hb : b' ≤ b) : Zel ty enc b' h a n l :=
  ⟨f.1, f.2.imp id fun ⟨i, ha, hbi, hi⟩ => ⟨i, ha, by omega, hi⟩⟩
theorem Zyl {h : Zaa} {a0 a1 : Pt} {n0 c0 n1 c1 : Nat} {e0 e1 : Bool} {w : Wd} {nd : Nd} (r : Zmi h a0 n0 c0 a1 n1 c1 w) (b : WB w) :
    Zad pg Zjx [.agg [.slice a0 n0 c0 e0, .slice a1 n1 c1 e1], .agg [.str nd.1, .str nd.2]] h (Yps w nd h) := by
  apply Znr.call
  simp only [Zax]
  generalize hh0 : h ++ [Zcn.cells Zak [.slice a0 n0 c0 e0, .slice a1 n1 c1 e1] false] = h0
  generalize hh1 : h0 ++ [Zcn.cells Zaj [.str nd.1, .str nd.2] false] = h1
  have s0 : Zaz h.length h h0 := by rw [← hh0]; exact Zau
  have s1 : Zaz h0.length h0 h1 := by rw [← hh1]; exact Zau
  have w0 : h0[h.length]? = some (Zns a0 n0 c0 e0 a1 n1 c1 e1) := by rw [← hh0]; simp [Zns]
  have w1 := s1.get w0 (Own.lt w0)
  have i1 : h1[h0.length]? = some (.cells Zaj [.str nd.1, .str nd.2] false) := by rw [← hh1]; simp
  have S1 := s0.cat s1
  rw [Zsg w1]
  simp only [Zan, Zae, Zap, Zah, Zaq i1, Nat.zero_add, List.getElem?_cons_zero, Zaf]
  refine (Yfb (r.same S1) b i1).mono ?_
  rintro v h2 ⟨s2, a, n, c, e, rfl, f⟩
  simp only [Zah]
  exact ⟨S1.cat s2, a, n, c, e, rfl, f.low S1.le⟩
end Go.Sim

set_option linter.unusedVariables false
set_option linter.unusedSimpArgs false
set_option maxRecDepth 20000
namespace Go.Sim
open Go Go.RowKit

def Ycf (w : Wd) (x : Int) : Ins := w.is.getD x.toNat (([], []), [])
theorem Ydo {w : Wd} {k : Nat} (h : k < w.is.length) : Ycf w (k : Int) = w.is[k] := by unfold Ycf; rw [Int.toNat_natCast, Zea h]
noncomputable def Ypz (w : Wd) (l : List Int) (x : Int) : Bool := l.all fun k => Ypt (Ycf w x) (Ycf w k)
noncomputable def Yqh (w : Wd) (l : List Int) : Int := match l.find? (Ypz w l) with | some x => x | none => -1
def InW (w : Wd) (l : List Int) : Prop := ∀ x ∈ l, ∃ k : Nat, x = k ∧ k < w.is.length
theorem Ylf (w : Wd) (n : Nd) : InW w (Ycl w n) := fun x hx => by obtain ⟨k, hk, e, _⟩ := Ygx hx; exact ⟨k, e, hk⟩
theorem Row.i64 {b : Nat} {h : Zaa} {a : Pt} {n : Nat} {l : List Int} (r : Row b h a n (Zff eI l)) {k : Nat} (hk : k < n) : ∃ i o, ∃ hk' : k < l.length, a = some (i, o) ∧ i < b ∧ Zag h (.ptr (some (i, o + k * 1))) = some (.int .i64 l[k]) := by
  obtain ⟨i, o, hk', ha, hi, hc⟩ := Row.el1 Ydx r hk
  exact ⟨i, o, hk', ha, hi, hc⟩
end Go.Sim

set_option linter.unusedSimpArgs false
set_option linter.unusedVariables false
namespace Go.Sim

theorem Yhd {l : List Nd} {t u : List Nat} (h : Zfa l t = some u) : Znp u = true := by
  unfold Zfa at h
  split at h
  · rename_i hc
    cases h
    simp only [Bool.and_eq_true, decide_eq_true_eq] at hc
    obtain ⟨a, ha⟩ := Zse hc.1.2
    obtain ⟨h1, h2, h3⟩ := Zft.1 ha
    have := Znd hc.1.1 h1
    rw [← h2] at this
    exact Zrm.2 ⟨_, this.2, this.1, hc.2⟩
  · cases h
theorem Ygj {i : Ins} {t : List Nat} {ms : List Nd} (h : Zhk i t = some ms) : ms.length = i.2.length ∧ ∀ m ∈ ms, Znp m.2 = true ∧ ∃ n ∈ i.2, m.1 = n.1 := by
  unfold Zhk at h
  split at h
  · cases h
  · rename_i b hb
    split at h
    · rename_i hall
      cases h
      refine ⟨by simp, fun m hm => ?_⟩
      obtain ⟨n, hn, rfl⟩ := List.mem_map.1 hm
      have := List.all_eq_true.1 hall n hn
      obtain ⟨u, hu⟩ := Option.isSome_iff_exists.1 this
      have h2 := Yhd hu
      unfold Zfa at hu
      split at hu
      · cases hu; exact ⟨h2, n, hn, rfl⟩
      · cases hu
    · cases h
theorem Yiz {w : Wd} (hw : Zfl w = true) {i : Ins} (hi : i ∈ w.is) {t : List Nat} {ms : List Nd} (h : Zhk i t = some ms) : ms.length ≤ 3 ∧ ∀ m ∈ ms, Zga w m = true := by
  obtain ⟨h1, h2⟩ := Ygj h
  unfold Zfl at hw
  simp only [Bool.and_eq_true, List.all_eq_true] at hw
  have h3 := hw.2 i hi
  unfold Zmh at h3
  simp only [Bool.and_eq_true, List.all_eq_true, decide_eq_true_eq] at h3
  refine ⟨by omega, fun m hm => ?_⟩
  obtain ⟨h4, n, hn, he⟩ := h2 m hm
  have h5 := h3.2 n hn
  unfold Zjl at h5
  simp only [Bool.and_eq_true] at h5
  unfold Zga
  rw [h4, he, h5.1.1.1]; rfl
end Go.Sim

set_option linter.unusedVariables false
set_option linter.unusedSimpArgs false
set_option maxRecDepth 20000
namespace Go.Sim
open Go Go.RowKit

noncomputable def Yke (l : List Nd) : Bd := l.map fun p => (p.1.headD 0, (Zix p.2).getD default)
theorem Zye {l : List Nd} (h : Zhj l = true) {p : Nd} (hp : p ∈ l) : ∃ v t, p.1 = [v] ∧ Zdc v = true ∧ Zix p.2 = some t := by
  obtain ⟨h1, h2⟩ := Zpv h hp
  obtain ⟨t, ht⟩ := Zse h2
  match hq : p.1 with
  | [] => rw [hq] at h1; cases h1
  | [v] => rw [hq] at h1; exact ⟨v, t, rfl, h1, ht⟩
  | _ :: _ :: _ => rw [hq] at h1; cases h1
theorem Yax : ∀ {l : List Nd}, (∀ p ∈ l, ∃ v t, p.1 = [v] ∧ Zdc v = true ∧ Zix p.2 = some t) → ∀ c, Zho (Yke l) c = Zpd l c
  | [], _, c => rfl
  | p :: l, h, c => by
    obtain ⟨v, t, h1, h2, h3⟩ := h p (by simp)
    have ih := Yax (l := l) (fun q hq => h q (by simp [hq])) c
    unfold Yke Zpd at ih ⊢
    simp only [List.map_cons, Zho, h1, List.headD_cons, h3, Option.getD_some, List.find?_cons]
    by_cases e : v = c
    · subst e; simp [h3]
    · have : ¬ ([v] : List Nat) = [c] := fun x => e (by simpa using x)
      simp only [e, if_false, this, decide_false]
      exact ih
theorem Yjd {l : List Nd} (h : Zhj l = true) : ∀ (g : Nat) (hg : g < l.length) (k : Nat) (hk : k < g), (l[k]'(by omega)).1.headD 0 < l[g].1.headD 0
  | 0, _, k, hk => by omega
  | g + 1, hg, k, hk => by
    have h1 := (Zvq h hg).2.2
    rcases h1 with h1 | h1
    · omega
    · rw [Nat.add_sub_cancel, Zea (by omega)] at h1
      obtain ⟨v, t, hv, _⟩ := Zye h (List.getElem_mem (h := hg))
      obtain ⟨u, t', hu, _⟩ := Zye h (List.getElem_mem (l := l) (n := g) (h := by omega))
      rw [hv, hu, Zwg] at h1
      have h2 : u < v := of_decide_eq_true h1
      by_cases e : k = g
      · subst e; rw [hv, hu]; exact h2
      · have := Yjd h g (by omega) k (by omega)
        rw [hu] at this; rw [hv]
        simp only [List.headD_cons] at this ⊢; omega
theorem Ygb {l : List Nd} (h : Zhj l = true) {g v : Nat} (hg : g < l.length) (hv : l[g].1 = [v]) : Zho (Yke (l.take g)) v = none := by
  rw [Zrs]
  intro hm
  unfold Yke at hm
  rw [List.map_map] at hm
  obtain ⟨p, hp, he⟩ := List.mem_map.1 hm
  obtain ⟨k, hk, rfl⟩ := List.getElem_of_mem hp
  simp only [List.length_take] at hk
  have := Yjd h g hg k (by omega)
  rw [hv] at this
  simp only [Function.comp_def, List.getElem_take, List.headD_cons] at he this
  omega
theorem Zsa.mono {S S' : Nat → Prop} {h : Zaa} {i : Nat} {m : Bd} (r : Zsa S h i m) (hs : ∀ j, S j → S' j) : Zsa S' h i m := by
  obtain ⟨rows, h1, h2, h3⟩ := r
  refine ⟨rows, h1, h2, fun k x hx => ?_⟩
  have := h3 k x hx
  split at this
  · exact this.mono hs
  · exact this
theorem Zsa.below {S : Nat → Prop} {h : Zaa} {i : Nat} {m : Bd} (r : Zsa S h i m) : Zsa (fun j => S j ∧ j < h.length) h i m := by
  obtain ⟨rows, h1, h2, h3⟩ := r
  refine ⟨rows, h1, h2, fun k x hx => ?_⟩
  have := h3 k x hx
  split at this
  · exact Zhp.below this
  · exact this
theorem Zsx {h : Zaa} {a : Pt} {n c : Nat} {e : Bool} {l : List Nd} {t : List Nat} (r : Row h.length h a (n * 2) (Zff eP l)) (hn : n ≤ 1048576) (hb : ∀ p ∈ l, p.2.length ≤ 1048576) (hb1 : ∀ p ∈ l, ∀ x ∈ p.1, x < 256) (ht : t.length ≤ 1048576) :
    Zad pg Zhx [.slice a n c e, .str t] h fun v h' => v = Zlw l t ∧ Zaz h.length h h' := by
  have hl : l.length = n := by have := r.1; rw [Zbe Zdp] at this; omega
  apply Zek.call
  refine (Zoy t (by omega) h).mono ?_
  rintro v h1 ⟨s1, vs1, rfl, r1⟩
  obtain ⟨d1, a1, n1, c1, e1, rfl⟩ := Zqb r1
  simp only [Zcw, Zae, Zdl, Zao, Zah, Zap, Zai, Zax]
  rw [Zgd]
  generalize hh2 : h1 ++ [Zcn.cells Zac [.int .u8 d1, .slice a1 n1 c1 e1] false] = h2
  have s2 : Zaz h1.length h1 h2 := by rw [← hh2]; exact Zau
  have o2 : h2[h1.length]? = some (.cells Zac [.int .u8 d1, .slice a1 n1 c1 e1] false) := by rw [← hh2]; simp
  have S2 := s1.cat s2
  simp only [Zaw]
  cases hto : Znp t with
  | false =>
    simp only [Bool.not_false, Zbx]
    exact ⟨by unfold Zlw Zfa; rw [hto]; simp, S2⟩
  | true =>
  simp only [Bool.not_true, Zbd]
  obtain ⟨u, hu⟩ := Zse hto
  obtain ⟨hu1, hu2, hu3⟩ := Zft.1 hu
  rw [hu] at r1
  simp only at r1
  refine (Zsq (r.same' S2) hn hb hb1).mono ?_
  rintro v h3 ⟨rfl, s3⟩
  simp only [Zai]
  have S3 := S2.cat s3
  refine Zbs (fun b1 => ⟨by unfold Zlw Zfa; rw [b1]; rfl, S3⟩) (fun b1 => ?_)
  apply Zek.J4i
  simp only [Zax]
  rw [← Yix]
  generalize hh4 : h3 ++ [Zcn.cells Zfh (Zff eR (List.replicate 12 (Zar.int .u8 0, Zar.slice none 0 0 true))) false] = h4
  have s4 : Zaz h3.length h3 h4 := by rw [← hh4]; exact Zau
  have o4 : h4[h3.length]? = some (.cells Zfh (Zff eR (List.replicate 12 (Zar.int .u8 0, Zar.slice none 0 0 true))) false) := by rw [← hh4]; simp
  have l4 : h4.length = h3.length + 1 := by rw [← hh4]; simp
  have hone : ∀ p ∈ l, ∃ v t, p.1 = [v] ∧ Zdc v = true ∧ Zix p.2 = some t := fun p hp => Zye b1 hp
  have o3 := s3.get o2 (Own.lt o2)
  refine Zek.L6ind _ _ _ _ _ _ _ _ _ _ (J := fun (g : Nat) x28 h' => x28 = (g : Int) ∧ g ≤ n ∧ Zaz h3.length h3 h' ∧ h4.length ≤ h'.length ∧ Zsa (fun j => j ≠ h3.length) h' h3.length (Yke (l.take g))) (fun g => n - g) ?_ 0 _ _ ⟨rfl, by omega, s4, Nat.le_refl _, Zsa.nil o4⟩
  rintro g x28 h' ⟨rfl, hg, hS, hl4, rm⟩ R hR
  have SS := S3.cat hS
  unfold Zek.L6t
  refine Zal (fun hlt => ?_) (fun hge => ?_)
  · obtain ⟨i, o, hgl, rfl, hi, hr, _, _⟩ := (r.same SS).pr (k := g) (by omega)
    obtain ⟨v, tt, hv1, hv2, hv3⟩ := hone _ (List.getElem_mem hgl)
    obtain ⟨ht1, ht2, ht3⟩ := Zft.1 hv3
    simp only [Zav, Int.toNat_natCast, hr, Zan, Zae, Zap, Zaf, Zax]
    rw [Zgd]
    generalize hq : h' ++ [Zcn.cells Zbb [.str l[g].1, .str l[g].2] false] = hq'
    have sq : Zaz h'.length h' hq' := by rw [← hq]; exact Zau
    have oq : hq'[h'.length]? = some (.cells Zbb [.str l[g].1, .str l[g].2] false) := by rw [← hq]; simp
    have hlq := sq.le
    rw [hv1] at oq
    simp only [Zaw, Zaq oq, Nat.zero_add, List.getElem?_cons_succ, List.getElem?_cons_zero, Zaf]
    refine ⟨by omega, by simp, ?_⟩
    simp only [Int.toNat_zero, List.getD_cons_zero]
    refine (Zsp v).mono ?_
    rintro v' h5 ⟨rfl, rfl⟩
    obtain ⟨k, hk6, hkv, hix⟩ := Zud hv2
    simp only [hix, Zao, Zaq oq, List.getElem?_cons_succ, List.getElem?_cons_zero, true_and]
    refine (Zoy l[g].2 (by omega) h5).mono ?_
    rintro v' h6 ⟨s6, vs6, rfl, r6⟩
    obtain ⟨d6, a6, n6, c6, e6, rfl⟩ := Zqb r6
    rw [hv3] at r6
    simp only at r6
    have hl6 := s6.le
    have ho6 : Zag h6 (.ptr (some (h'.length, 0))) = Zag h5 (.ptr (some (h'.length, 0))) := by simp only [Zag, s6.eq _ (Own.lt oq)]
    simp only [Zcw, Zae, Zdl, Zao, Zah, Zap, Zai, ho6, true_and]
    have rm6 := (rm.same sq).same s6
    obtain ⟨h7, hst, hK, rm7⟩ := rm6.put (fun j hj => hj) hkv (Ygb b1 hgl hv1) (r6.mono fun j hj => by have := hj.1; omega)
    rw [Int.toNat_natCast, Nat.zero_add] at *
    rw [hst]
    simp only [Zaw]
    rw [Zbm (by omega)]
    have hK7 := hK.le
    refine ⟨by rw [Zaq oq]; rfl, ⟨by omega, by omega⟩, hR (g + 1) _ _ (by omega) ⟨rfl, by omega, ⟨by omega, fun j hj => ?_⟩, by omega, ?_⟩⟩
    · rw [hK.eq j (by omega) (by omega), s6.eq j (by omega), sq.eq j (by omega), hS.eq j hj]
    · have : Yke (l.take (g + 1)) = Yke (l.take g) ++ [(v, tt)] := by
        unfold Yke
        rw [List.take_succ_eq_append_getElem hgl, List.map_append]
        simp [hv1, hv3]
      rw [this]; exact rm7
  · apply Zek.A6x0i
    have : g = n := by omega
    subst this
    rw [List.take_of_length_le (by omega)] at rm
    have hS3 := S3.le
    have h31 : h1.length ≤ h3.length := (s2.cat s3).le
    have o5 := hS.get o3 (Own.lt o3)
    simp only [Zee o5 (show 0 + 2 ≤ _ by simp), List.drop_zero, List.take_succ_cons, List.take_zero, Zan, Zae, Zap, Zao, Zah]
    have hbm : ∀ c, Zho (Yke l) c = Zpd l c := Yax hone
    have rt := (((r1.same s2).same s3).same hS).mono (S' := fun j => j ≠ h3.length) (fun j hj => by have := hj.2; omega)
    refine (Ydn _ (Nat.le_refl _) hu1 (S := fun j => j ≠ h3.length ∧ j < h'.length) (fun j hj => ⟨hj.2, hj.1⟩) rt.below rm.below (fun v w hw => ?_) (fun v hv => ?_)).mono ?_
    · rw [hbm] at hw; exact ((Zsk b1 v).2 w hw).1
    · rw [hbm]; exact (Zrz b1 hv).2
    rintro v h6 ⟨s6, nv, rfl, hn6⟩
    rw [show Zho (Yke l) = Zpd l from funext hbm] at hn6
    obtain ⟨na, nc, ne, rfl⟩ := hn6.shape
    have hat := Znd b1 hu1
    rw [← hu2] at hat
    have hal := Zsn b1 t
    simp only [Zdl, Zae, Zao, Zah, Zap, Zax]
    rw [Zgd]
    generalize hh7 : h6 ++ [Zcn.cells Zac [.int .u8 ((subst (Zpd l) u).hd : Int), .slice na (subst (Zpd l) u).ps.length nc ne] false] = h7
    have s7 : Zaz h6.length h6 h7 := by rw [← hh7]; exact Zau
    have o7 : h7[h6.length]? = some (.cells Zac [.int .u8 ((subst (Zpd l) u).hd : Int), .slice na (subst (Zpd l) u).ps.length nc ne] false) := by rw [← hh7]; simp
    have S7 := (SS.cat s6).cat s7
    simp only [Zaw, Zee o7 (show 0 + 2 ≤ _ by simp), List.drop_zero, List.take_succ_cons, List.take_zero, Zan, Zae, Zap, Zao, Zah]
    refine (Zqv _ (Nat.le_refl _) (by rw [← hat.1]; omega) (hn6.same s7)).mono ?_
    rintro v h8 ⟨rfl, s8⟩
    have o8 := s8.get o7 (Own.lt o7)
    simp only [Zao]
    rw [← hat.1]
    refine Zal (fun hbig => ⟨by unfold Zlw Zfa; rw [if_neg (by simp; omega)], S7.cat s8⟩) (fun hsm => ?_)
    simp only [Zee o8 (show 0 + 2 ≤ _ by simp), List.drop_zero, List.take_succ_cons, List.take_zero, Zan, Zae, Zap, Zao, Zah]
    refine (Zpf _ (Nat.le_refl _) (by rw [← hat.1]; omega) hat.2 ((hn6.same s7).same s8)).mono ?_
    rintro v h9 ⟨rfl, s9⟩
    simp only [Zaf]
    refine ⟨?_, (S7.cat s8).cat s9⟩
    unfold Zlw Zfa
    rw [if_pos (by rw [b1, hto]; simp; omega), hat.1]
theorem Zyh (p s : List Nat) : (∀ q ∈ Zjq p s, q.2.length ≤ 1048576) ∧ (∀ q ∈ Zjq p s, ∀ x ∈ q.1, x < 256) ∧ (Zjq p s).length ≤ 6 := by
  unfold Zjq
  cases hm : Zjo p s with
  | none => simp
  | some m =>
    have b := Zvz hm
    refine ⟨fun q hq => ?_, fun q hq x hx => ?_, Yht m⟩
    · have hq' := Zpv (Yey b) hq
      have := Zys hq'.2; omega
    · simp only [Yeo, List.mem_map, List.mem_filter] at hq
      obtain ⟨v, ⟨hv, _⟩, rfl⟩ := hq
      simp at hx; subst hx
      have := (Zpi x).1 hv
      simp only [Zdc, Bool.or_eq_true, beq_iff_eq] at this; omega
theorem Yhn {h : Zaa} {a : Pt} {n c : Nat} {e : Bool} {i : Ins} {t : List Nat} (r : Row h.length h a (n * 2) (Zff eP i.2)) (hn : n ≤ 1048576) (hi : i.1.2.length ≤ 1048576) (ht : t.length ≤ 1048576) (hns : ∀ p ∈ i.2, p.2.length ≤ 1048576) :
    Zad pg Zmw [.agg [.str i.1.1, .str i.1.2, .slice a n c e], .str t] h (Yig i t h) := by
  have hl : i.2.length = n := by have := r.1; rw [Zbe Zdp] at this; omega
  apply Zig.call
  simp only [Zax]
  generalize hh0 : h ++ [Zcn.cells Zas [.str i.1.1, .str i.1.2, .slice a n c e] false] = h0
  generalize hh1 : h0 ++ [Zcn.cells Zaj [] false] = h1
  have s0 : Zaz h.length h h0 := by rw [← hh0]; exact Zau
  have s1 : Zaz h0.length h0 h1 := by rw [← hh1]; exact Zau
  have o0 : h0[h.length]? = some (.cells Zas [.str i.1.1, .str i.1.2, .slice a n c e] false) := by rw [← hh0]; simp
  have x1 := s1.get o0 (Own.lt o0)
  have o1 : h1[h0.length]? = some (.cells Zaj [] false) := by rw [← hh1]; simp
  have l0 : h0.length = h.length + 1 := by rw [← hh0]; simp
  simp only [Zaq x1, Nat.zero_add, List.getElem?_cons_succ, List.getElem?_cons_zero, Zaf]
  refine (Zrl i.1.2 t hi ht h1).mono ?_
  rintro v h2 ⟨s2, ma, mn, mc, me, rfl, hmc, fm⟩
  simp only [Zcw, Zae, Zah, Zai, Zap]
  have S2 := (s0.cat s1).cat s2
  have o2 := s2.get o1 (Own.lt o1)
  have x2 := s2.get x1 (Own.lt x1)
  obtain ⟨hmb1, hmb2, hml⟩ := Zyh i.1.2 t
  have hmn := fm.1
  have hS1le : h.length ≤ h1.length := (s0.cat s1).le
  have hnw0 : Zoc i.1.2 t = false → Zhk i t = none := fun hno => by
    unfold Zhk Zoc at *
    cases hm : Zjo i.1.2 t with
    | none => rfl
    | some m => rw [hm] at hno; cases hno
  refine Zbs (fun b1 => ⟨S2, _, 0, 0, true, by rw [hnw0 b1]; rfl, by rw [hnw0 b1]; exact ⟨rfl, .inl rfl⟩⟩) (fun b1 => ?_)
  simp only [Zaq x2, List.getElem?_cons_succ, List.getElem?_cons_zero, Zah]
  have hnw : Zhk i t = if i.2.all (fun p => (Zfa (Zjq i.1.2 t) p.2).isSome) then some (i.2.map (Ymh (Zjq i.1.2 t))) else none := by
    unfold Zhk Zoc at *
    cases hm : Zjo i.1.2 t with
    | none => rw [hm] at b1; cases b1
    | some m =>
      have hml' : Zjq i.1.2 t = bdL m := by unfold Zjq; rw [hm]
      simp only [hml']
      by_cases hall : i.2.all (fun p => (Zfa (bdL m) p.2).isSome) = true
      · rw [if_pos hall, if_pos hall, Ydq hall]
      · rw [if_neg hall, if_neg hall]
  generalize Zjq i.1.2 t = ml at *
  refine Zig.L6ind _ _ _ _ _ _ _ _ _ _ (J := fun (g : Nat) a8 n8 c8 e8 x28 h' => x28 = (g : Int) ∧ g ≤ n ∧ Zaz h.length h h' ∧ h2.length ≤ h'.length ∧ Row h'.length h' ma (mn * 2) (Zff eP ml) ∧ (i.2.take g).all (fun p => (Zfa ml p.2).isSome) = true ∧ n8 = g ∧ Vec Zaj h' a8 n8 c8 (Zff eP ((i.2.take g).map (Ymh ml))) ∧ (∀ j, a8 = some (j, 0) → j = h0.length ∨ h2.length ≤ j)) (fun g => n - g) ?_ 0 _ _ _ _ _ _
    ⟨rfl, by omega, S2, Nat.le_refl _, fm.row Zdp, rfl, rfl, Vec.mk1 (by simpa using o2), fun j hj => by cases hj; exact .inl rfl⟩
  rintro g a8 n8 c8 e8 x28 h' ⟨rfl, hg, hS, hl1, hrm, hall, rfl, hv, ha⟩ R hR
  unfold Zig.L6t
  have hl2 : h1.length ≤ h2.length := s2.le
  refine Zal (fun hlt => ?_) (fun hge => ?_)
  · obtain ⟨j, o, hgl, rfl, hj, hr, _, _⟩ := (r.same hS).pr (k := n8) (by omega)
    simp only [Zav, Int.toNat_natCast, hr, Zan, Zae, Zap, Zaf, Zax]
    rw [Zgd]
    generalize hq : h' ++ [Zcn.cells Zaj [.str i.2[n8].1, .str i.2[n8].2] false] = hq'
    have sq : Zaz h'.length h' hq' := by rw [← hq]; exact Zau
    have oq : hq'[h'.length]? = some (.cells Zaj [.str i.2[n8].1, .str i.2[n8].2] false) := by rw [← hq]; simp
    simp only [Zaw, Zaq oq, Nat.zero_add, List.getElem?_cons_succ, List.getElem?_cons_zero, Zaf]
    refine ⟨by omega, (Zsx (hrm.same' sq) (by omega) hmb1 hmb2 (hns _ (List.getElem_mem hgl))).mono ?_⟩
    rintro v h3 ⟨rfl, s3⟩
    have hshape : Zlw ml i.2[n8].2 = .tup [.str ((Zfa ml i.2[n8].2).getD []), .bool (Zfa ml i.2[n8].2).isSome] := by
      unfold Zlw; cases Zfa ml i.2[n8].2 <;> rfl
    rw [hshape]
    simp only [Zcw, Zae, Zaf, Zai, Zap]
    have S3 := (hS.cat sq).cat s3
    have o3 := s3.get oq (Own.lt oq)
    refine Zbs (fun b2 => ?_) (fun b2 => ?_)
    · have : Zhk i t = none := by rw [hnw, Znz hgl b2]; rfl
      exact ⟨S3.cat Zau, _, 0, 0, true, by rw [this]; rfl, by rw [this]; exact ⟨rfl, .inl rfl⟩⟩
    · simp only [Zaq o3, List.getElem?_cons_zero, Zaf]
      refine ((hv.same sq).same s3).pushN Yal Yhy Yjo Yjc (by rw [Zbe Zdp]; simp; omega) rfl (by omega) rfl (by omega) (fun h6 hl6 hi6 hk6 => ?_)
      simp only [Zah]
      rw [Zbm (by omega)]
      have hle := S3.le
      have hlq := sq.le
      have hl3 := s3.le
      have hb8 : ∀ j, a8 = some (j, 0) → h.length ≤ j := fun j hj => by rcases ha j hj with hh | hh <;> omega
      have hlast : ∀ j, (some (h3.length + 1, 0) : Pt) = some (j, 0) → j = h0.length ∨ h2.length ≤ j := fun j hj => by
        cases hj
        exact .inr (by omega)
      refine hR (n8 + 1) _ _ _ _ _ _ (by omega) ⟨rfl, by omega, ⟨by omega, fun j hj => ?_⟩, by omega, ?_, Zfc hgl hall b2, rfl, Vec.mk1 ?_, hlast⟩
      · rw [hk6 j (by omega) fun q hq => by have := hb8 q hq; omega]; exact S3.eq j hj
      · have hr3 := (hrm.same' sq).same' s3
        obtain ⟨hx1, hx2⟩ := hr3
        rcases fm.2 with h0' | ⟨q2, hq2, hqb2, hq3⟩
        · exact ⟨hx1, .inl (by omega)⟩
        · refine ⟨hx1, hx2.imp id ?_⟩
          rintro ⟨q, o', ty, all, ro, hqa, hqb, hqg, hq4, hq5⟩
          refine ⟨q, o', ty, all, ro, hqa, by omega, ?_, hq4, hq5⟩
          rw [hk6 q hqb fun q' hq' => ?_]
          · exact hqg
          · intro e
            subst e
            rw [hqa] at hq2; cases hq2
            have := Own.lt hq3
            rcases ha _ hq' with hh | hh
            · have := Own.lt o1; omega
            · omega
      · rw [hi6, List.take_succ_eq_append_getElem hgl, List.map_append, Zki]; rfl
  · apply Zig.A6x0i
    have : n8 = n := by omega
    subst this
    rw [show i.2.take n8 = i.2 from List.take_of_length_le (by omega)] at hv hall
    have : Zhk i t = some (i.2.map (Ymh ml)) := by rw [hnw, hall]; rfl
    refine ⟨hS, a8, n8, c8, e8, by rw [this]; rfl, ?_⟩
    rw [this]
    exact hv.fresh (b := h.length) (by simp; omega) fun j hj => by rcases ha j hj with hh | hh <;> omega
end Go.Sim

set_option linter.unusedSimpArgs false
set_option linter.unusedVariables false
namespace Go.Sim

structure Wk where
  cand : Nd → List Int
  needs : Int → List Nat → Option (List Nd)
  most : List Int → Int
inductive Fnd where
  | ok (s : List Nat)
  | no (why : List Nat) (n : Nd)
def Zok (i : Nat) : Nat := if i = 0 then 40 else 44
def Yog : List Nat := [119, 114, 111, 110, 103]
end Go.Sim
