/- A part of the proof of a statement of this seat: see the text that holds the theorem. No condition. -/
import Derived.Test.YtlljbdepamknoaaPTCMatch2
import Derived.Test.YtlljbdepamknoaaCDrawT
import Derived.Test.YtlljbdepamknoaaCTy
set_option linter.unusedVariables false
set_option linter.unusedSimpArgs false
set_option linter.all false
set_option linter.unusedVariables false
set_option linter.unusedSimpArgs false
set_option maxRecDepth 20000
namespace Go.Sim
open Go Go.RowKit
theorem Ydn {l : List Nd} (h : ∀ q ∈ l, q.1.length = 1) : (l.flatMap (·.1)).length = l.length := by
  induction l with
  | nil => rfl
  | cons a l ih => have := h a (by simp); have := ih fun q hq => h q (by simp [hq]); simp only [List.flatMap_cons, List.length_append, List.length_cons]; omega
theorem Zxl (m : Bd) : ∀ q ∈ bdL m, q.1.length = 1 := by
  intro q hq
  unfold bdL at hq
  obtain ⟨v, _, hv⟩ := List.mem_filterMap.1 hq
  cases hb : Zcj m v with
  | none => rw [hb] at hv; cases hv
  | some t => rw [hb] at hv; cases hv; rfl
theorem Zke {h : Zaa} {a0 a1 : Pt} {n c0 c1 : Nat} {e0 e1 : Bool} {l : List Nd} (r0 : Row h.length h a0 (n * 2) (Zdk eP l)) (r1 : Row h.length h a1 (n * 2) (Zdk eP l)) (hn : n ≤ 1048576) :
    Zae pg Zca [.slice a0 n c0 e0, .slice a1 n c1 e1] h fun v h' => v = .bool true ∧ h' = h := by
  have hl : l.length = n := by have := r0.1; rw [Zaw Zgg] at this; omega
  apply Zdb.call
  rw [show (if ((n : Nat) : Int) < ((n : Nat) : Int) then ((n : Nat) : Int) else ((n : Nat) : Int)) = (n : Int) by split <;> rfl]
  refine Zdb.L2ind (J := fun (g : Nat) x11 h' => x11 = (g : Int) ∧ g ≤ n ∧ h' = h) (m := fun g => n - g) (hr := ?_) (g := 0) (hj := ⟨rfl, by omega, rfl⟩) ..
  rintro g x11 h' ⟨rfl, hg, rfl⟩ R hR
  unfold Zdb.L2t
  refine Zaq (fun hlt => ?_) (fun hge => ?_)
  · obtain ⟨i0, o0, hk0, ha0, _, hr0, _⟩ := r0.pr (k := g) (by omega)
    obtain ⟨i1, o1, hk1, ha1, _, hr1, _⟩ := r1.pr (k := g) (by omega)
    simp only [ha0, ha1, Zan, Int.toNat_natCast, hr0, hr1, Zaz, Zaj, Zau, Zam, true_and, decide_true, Bool.and_self, Bool.not_true, Zas]
    rw [← ha0, ← ha1, Zch (by omega)]
    exact ⟨by omega, by omega, hR (g + 1) _ _ (by omega) ⟨rfl, by omega, rfl⟩⟩
  · apply Zdb.A2x0i
    simp
theorem lawMatch {h : Zaa} {a : Pt} {n c : Nat} {e : Bool} {l : List Nat} (r : Row h.length h a n (Zdk eB l)) (hb : ∀ b ∈ l, b < 256) (hnc : n ≤ c) :
    Zae pg Zji [.slice a n c e] h fun v _ => v = .bool true := by
  apply Zdl.call
  refine Zaq (fun _ => rfl) (fun _ => ?_)
  refine (Zrb r hb hnc).mono ?_
  rintro v h1 ⟨p, s, rfl, hp, hs, s1⟩
  simp only [Zdz, Zaj, Zam, Zau]
  refine (Zlk p s h1).mono ?_
  rintro v h2 ⟨s2, ma, mn, mc, me, rfl, hmc, fm⟩
  simp only [Zdz, Zaj, Zai, Zal, Zau]
  refine (Zoz p s (by omega) (by omega) h2).mono ?_
  rintro v h3 ⟨s3, wa, wn, wc, we, rfl, hwc, fw⟩
  simp only [Zdz, Zaj, Zai, Zal, Zau]
  have hmn := fm.1
  have hwn := fw.1
  obtain rfl : wn = mn := by omega
  have rm : Row h3.length h3 ma (wn * 2) (Zdk eP (Zjg p s)) := (fm.same s3).row Zgg
  have hlen : wn ≤ 6 := by
    rw [← hmn]; unfold Zjg
    split
    · exact Yay _
    · simp
  refine (Zke rm (fw.row Zgg) (by omega)).mono ?_
  rintro v h4 ⟨rfl, rfl⟩
  simp only [Zal, Bool.not_true, Zas, beq_self_eq_true]
  refine (Zkb p s h4).mono ?_
  rintro v h5 ⟨rfl, s5⟩
  simp only [Zal, Bool.not_true, Zas, beq_self_eq_true]
  have rm5 := rm.same' s5
  cases hi : Zox p s with
  | false =>
    simp only [Bool.not_false, Zax]
    refine (Zke rm5 (((fw.row Zgg)).same' s5) (by omega)).mono ?_
    rintro v h6 ⟨rfl, rfl⟩
    simp only [Zal, Zax, beq_self_eq_true]
    refine (Zkb p s h6).mono ?_
    rintro v h7 ⟨rfl, s7⟩
    simp only [Zal, hi, beq_self_eq_true]
  | true =>
  simp only [Bool.not_true, Zas]
  apply Zdl.J8i
  have hm : ∃ m, Zew p s = some m := by
    unfold Zox at hi
    exact Option.isSome_iff_exists.1 hi
  obtain ⟨m, hm⟩ := hm
  have hR : Zjg p s = bdL m := by unfold Zjg; rw [hm]
  rw [hR] at rm5
  obtain ⟨h1a, h2a, h3a, h4a⟩ := Zxq hm
  refine (Zll (l := bdL m) (t := p) rm5 (by omega)).mono ?_
  rintro v h6 ⟨rfl, s6⟩
  have rm6 := rm5.same' s6
  have hml : (bdL m).length = wn := by have := rm5.1; rw [Zaw Zgg] at this; omega
  simp only [Zmr, h1a, Zdz, Zaj, Zam, Zal, Zau]
  refine Zdl.L11ind (J := fun (g : Nat) x11 x77 h' => x77 = (g : Int) ∧ g ≤ wn ∧ Zbk h6.length h6 h' ∧ x11 = ((bdL m).take g).flatMap (·.1)) (m := fun g => wn - g) (hr := ?_) (g := 0) (hj := ⟨rfl, by omega, Zbk.refl _ _, by simp⟩) ..
  rintro g x11 x77 h7 ⟨rfl, hg, s7, rfl⟩ R hRR
  have rm7 := rm6.same' s7
  unfold Zdl.L11t
  refine Zaq (fun hlt => ?_) (fun hge => ?_)
  · obtain ⟨jm, om, hul, hma, _, hrm, _⟩ := rm7.pr (k := g) (by omega)
    simp only [hma, Zan, Int.toNat_natCast, hrm, Zaz, Zaj, Zau, Zam, Zbf]
    rw [← hma, Zhy]
    refine ⟨by omega, ?_⟩
    simp only [Zat]
    generalize hh8 : h7 ++ [Zce.cells Zag [.str (bdL m)[g].1, .str (bdL m)[g].2] false] = h8
    have o8 : h8[h7.length]? = some (.cells Zag [.str (bdL m)[g].1, .str (bdL m)[g].2] false) := by rw [← hh8]; simp
    have s8 : Zbk h7.length h7 h8 := by rw [← hh8]; exact Zbd
    simp only [Zap o8, Nat.zero_add, List.getElem?_cons_zero, Zam]
    have htk : ((bdL m).take (g + 1)).flatMap (·.1) = ((bdL m).take g).flatMap (·.1) ++ (bdL m)[g].1 := by rw [List.take_succ_eq_append_getElem hul, List.flatMap_append]; simp
    rw [Zch (by omega), ← htk]
    refine ⟨?_, hRR (g + 1) _ _ _ (by omega) ⟨rfl, by omega, s7.cat s8, rfl⟩⟩
    have f1 := Ydn (l := (bdL m).take g) fun q hq => Zxl m q (List.mem_of_mem_take hq)
    have f2 := Zxl m _ (List.getElem_mem hul)
    rw [f1, f2, List.length_take]; omega
  · have hgn : g = wn := by omega
    subst hgn
    rw [List.take_of_length_le (by omega), h3a]
    apply Zdl.A11x0i
    simp only [Zax, decide_true]
    refine (Zhw rm7 (by omega)).mono ?_
    rintro v h8 ⟨rfl, s8⟩
    simp only [Zal, h2a, Zax]
    refine (Zww p h8).mono ?_
    rintro v h9 ⟨rfl, s9⟩
    have htp : Zkp p = true := by
      unfold Zew at hm
      unfold Zkp
      cases hx : Zdr p with
      | none => rw [hx] at hm; cases hm
      | some _ => rfl
    simp only [Zam, htp, if_true, decide_true, Zax]
    refine (Zqo p h9).mono ?_
    rintro v hA ⟨rfl, sA⟩
    simp only [Zaf]
    refine (Zqo s hA).mono ?_
    rintro v hB ⟨rfl, sB⟩
    simp only [Zaf, decide_eq_true h4a]
end Go.Sim

set_option linter.unusedVariables false
set_option linter.unusedSimpArgs false
set_option maxRecDepth 20000
namespace Go.Sim
open Go Go.RowKit
theorem Zsz {P : Program} {h : Zaa} {f : Nat} {e : TypeId} (he : P.underlying e = some (.int .u8)) : ∀ (vs : List (List Zac)) (ds : List Dt), ds.length = vs.length → (∀ (i : Nat) (v : List Zac) (x : Dt), vs[i]? = some v → ds[i]? = some x → v.length = P.cellsOf e ∧ rd P h (f + 1) e v x) →
    ∃ l : List Nat, vs.flatten = Zdk eB l ∧ ∀ z ∈ l, z < 256
  | [], _, _, _ => ⟨[], rfl, by simp⟩
  | v :: vs, [], h, _ => by simp at h
  | v :: vs, d :: ds, hl, hall => by
    obtain ⟨l, hfl, hs⟩ := Zsz he vs ds (by simpa using hl) fun i v x hv hx => hall (i + 1) v x (by simpa using hv) (by simpa using hx)
    have h0 := (hall 0 v d rfl rfl).2
    simp only [rd, he] at h0
    obtain ⟨z, rfl, _, hw⟩ := h0
    simp [Lit.wf, IntKind.min, IntKind.max, IntKind.signed, IntKind.bits] at hw
    refine ⟨z.toNat :: l, ?_, fun x hx => ?_⟩
    · simp [hfl, eB]; omega
    · rcases List.mem_cons.1 hx with rfl | hx
      · omega
      · exact hs x hx
theorem rd_bytes {P : Program} {h : Zaa} {f : Nat} {t e : TypeId} {cs : List Zac} {d : Dt} (ht : P.underlying t = some (.slice e)) (he : P.underlying e = some (.int .u8)) (hc : P.cellsOf e = 1) (hr : rd P h (f + 2) t cs d) :
    ∃ a n c ex, ∃ l : List Nat, cs = [.slice a n c ex] ∧ Row h.length h a n (Zdk eB l) ∧ ∀ z ∈ l, z < 256 := by
  unfold rd at hr
  rw [ht] at hr
  obtain ⟨a, n, c, ex, ds, vs, rfl, rfl, hdl, hn, hvl, hrow, hall⟩ := hr
  obtain ⟨l, hfl, hs⟩ := Zsz (f := f) he vs ds (by omega) hall
  rw [hc, Nat.mul_one, hfl] at hrow
  exact ⟨a, n, c, ex, l, rfl, hrow, hs⟩
end Go.Sim
