/- A part of the proof of a statement of this seat: see the text that holds the theorem. No condition. -/
import Derived.Test.YtlljbdepamknoaaPTCOwn
import Derived.Test.YtlljbdepamknoaaCLawI
import Derived.Test.YtlljbdepamknoaaNm
import Derived.Test.YtlljbdepamknoaaCWRep
import Derived.Test.YtlljbdepamknoaaCTy
import Derived.Test.YtlljbdepamknoaaPTCWLaw2
set_option linter.unusedVariables false
set_option linter.unusedSimpArgs false
set_option linter.all false
set_option linter.unusedVariables false
set_option linter.unusedSimpArgs false
set_option maxRecDepth 20000
namespace Go.Sim
open Go Go.RowKit
theorem Zmr {h : Zaa} {b : Nat} {a : Pt} {n c : Nat} {e : Bool} {l : List Nd} {k : Int} (f : Zbr Zan eP b h a n l) (hk : 0 ≤ k ∧ k + 2 * n ≤ 4611686018427387000) :
    Zae pg Zho [.slice a n c e, .int .i64 k] h fun v h' => v = .int .i64 (k + 2 * n) ∧ Ztf a n h h' ∧ Zbr Zan eP b h' a n (Zgs k n) := by
  apply Zel.call
  obtain ⟨hl, hf⟩ := f
  refine Zel.L2ind _ _ _ _ _ (J := fun (g : Nat) x1 x5 h' => x5 = (g : Int) ∧ g ≤ n ∧ x1 = k + 2 * g ∧ Ztf a n h h' ∧ (n = 0 ∨ ∃ i, a = some (i, 0) ∧ b ≤ i ∧ h'[i]? = some (.cells Zan (Zbv eP (Zgs k g ++ l.drop g)) false))) (fun g => n - g) ?_ 0 _ _ _
    ⟨rfl, by omega, by simp, Ztf.refl _ _ _, by simpa [Zgs] using hf⟩
  rintro g x1 x5 h' ⟨rfl, hg, rfl, hO, hst⟩ R hR
  unfold Zel.L2t
  refine Zam (fun hlt => ?_) (fun hge => ?_)
  · rcases hst with h0 | ⟨i, rfl, hbi, ho⟩
    · omega
    have hn0 : n ≠ 0 := by omega
    have hgl : g < (Zgs k g ++ l.drop g).length := by simp [Zej]; omega
    have hlen : (Zbv eP (Zgs k g ++ l.drop g)).length = n * 2 := by rw [Zaw Zdq]; simp [Zej]; omega
    refine (Zdi (by omega)).mono ?_
    rintro v h1 ⟨rfl, s1⟩
    simp only [Zal, Zba, Int.toNat_natCast, Nat.zero_add, Nat.add_zero]
    have ho1 : h1[i]? = some (.cells Zan (Zbv eP (Zgs k g ++ l.drop g)) false) := by rw [s1.eq i (Own.lt ho)]; exact ho
    rw [Zbb ho1 (by rw [hlen]; simp; omega)]
    simp only [Zar]
    refine ⟨by omega, (Zdi (by rw [IntWalk.i64_in _ (by omega)]; omega)).mono ?_⟩
    rintro v h2 ⟨rfl, s2⟩
    simp only [Zal]
    rw [IntWalk.i64_in (k + 2 * (g : Int) + 1) (by omega)]
    have ho2 : h2[i]? = some (.cells Zan (Zbi (Zbv eP (Zgs k g ++ l.drop g)) (g * 2) [.str (Zfj (k + 2 * g))]) false) := by rw [s2.eq i (by simp; exact Own.lt ho1)]; exact Zbn ho1
    have hlen2 : (Zbi (Zbv eP (Zgs k g ++ l.drop g)) (g * 2) [.str (Zfj (k + 2 * g))]).length = n * 2 := by rw [Znq (by rw [hlen]; simp; omega), hlen]
    rw [Zbb ho2 (by rw [hlen2]; simp; omega)]
    simp only [Zar]
    rw [IntWalk.i64_in _ (by omega), Zcd (by omega)]
    refine ⟨by omega, hR (g + 1) _ _ _ (by omega) ⟨rfl, by omega, by omega, ((hO.same s1).set hn0 |>.same s2).set hn0, .inr ⟨i, rfl, hbi, ?_⟩⟩⟩
    rw [Zbn ho2, Yae hgl]
    congr 3
    rw [List.take_left' (Zej k g), Zrs]
    have : (Zgs k g ++ l.drop g).drop (g + 1) = l.drop (g + 1) := by
      rw [← List.drop_drop, List.drop_left' (Zej k g), List.drop_drop]
    rw [this]; simp
  · have : g = n := by omega
    subst this
    apply Zel.A2x0i
    refine ⟨rfl, hO, Zej _ _, ?_⟩
    rw [List.drop_of_length_le (by omega), List.append_nil] at hst
    exact hst
theorem Zra {h : Zaa} {a : Pt} {n c : Nat} {e : Bool} {k : Int} (r : Row h.length h a (n * 2) (Zbv eP (Zgs k n))) (hk : 0 ≤ k ∧ k + 2 * n ≤ 4611686018427387000) :
    Zae pg Zhn [.slice a n c e, .int .i64 k] h fun v h' => v = .int .i64 (k + 2 * n) ∧ Zbd h.length h h' := by
  apply Zek.call
  refine Zek.L2ind _ _ _ _ _ (J := fun (g : Nat) x1 x5 h' => x5 = (g : Int) ∧ g ≤ n ∧ x1 = k + 2 * g ∧ Zbd h.length h h') (fun g => n - g) ?_ 0 _ _ _ ⟨rfl, by omega, by simp, Zbd.refl _ _⟩
  rintro g x1 x5 h' ⟨rfl, hg, rfl, hS⟩ R hR
  unfold Zek.L2t
  refine Zam (fun hlt => ?_) (fun hge => ?_)
  · obtain ⟨i, o, hgl, rfl, hi, _, hc⟩ := Row.el Zdq (r.same hS) (Zej k n) (k := g) (by omega) (by omega)
    rw [Zto k (by omega)] at hc
    have c0 := hc 0 (by omega)
    have c1 := hc 1 (by omega)
    simp only [eP, List.getElem?_cons_zero, List.getElem?_cons_succ] at c0 c1
    simp only [Zba, Int.toNat_natCast, c0, Zal]
    refine ⟨by omega, (Zdi (by omega)).mono ?_⟩
    rintro v h1 ⟨rfl, s1⟩
    have hl := hS.le
    simp only [Zal]
    have c01 := (s1.mono hl).cell (by omega) c0
    have c11 := (s1.mono hl).cell (by omega) c1
    refine ⟨c01, ?_⟩
    simp only [decide_true, Bool.not_true, Zbj, Zba, c11, Zal]
    refine ⟨by omega, (Zdi (by rw [IntWalk.i64_in _ (by omega)]; omega)).mono ?_⟩
    rintro v h2 ⟨rfl, s2⟩
    rw [IntWalk.i64_in (k + 2 * (g : Int) + 1) (by omega)]
    simp only [Zal, decide_true, Bool.not_true, Zbj]
    have S1 := hS.trans (s1.mono hl)
    have c12 := (s2.mono S1.le).cell (by omega) c11
    rw [IntWalk.i64_in _ (by omega), Zcd (by omega)]
    exact ⟨c12, hR (g + 1) _ _ _ (by omega) ⟨rfl, by omega, by omega, S1.trans (s2.mono S1.le)⟩⟩
  · have : g = n := by omega
    subst this
    exact Zek.A2x0i _ _ _ ⟨rfl, hS⟩


theorem Zsz {cs : List Zag} {o : Nat} {v : Zag} (h : o < cs.length) : Zbi cs o [v] = cs.set o v := by
  unfold Zbi; rw [List.set_eq_take_append_cons_drop, if_pos h]; simp
theorem Zjf {h : Zaa} {i j : Nat} {t t' : TypeId} {cs cs' : List Zag} (hi : h[i]? = some (.cells t cs false)) (hj : h[j]? = some (.cells t' cs' false)) (ht : t ≠ t') : i ≠ j := by
  intro e; subst e; rw [hi] at hj; cases hj; exact ht rfl
theorem Ydu : Zab ≠ Zao := by decide
theorem Zbr.off {α : Type} {ty : TypeId} {enc : α → List Zag} {b : Nat} {h h' : Zaa} {a : Pt} {n : Nat} {l : List α} (f : Zbr ty enc b h a n l) (hk : ∀ i, a = some (i, 0) → n ≠ 0 → i < h.length → h'[i]? = h[i]?) : Zbr ty enc b h' a n l := by
  obtain ⟨hl, h0 | ⟨i, ha, hb, hi⟩⟩ := f
  · exact ⟨hl, .inl h0⟩
  · by_cases hn : n = 0
    · exact ⟨hl, .inl hn⟩
    · exact ⟨hl, .inr ⟨i, ha, hb, by rw [hk i ha hn (Own.lt hi)]; exact hi⟩⟩
theorem Zpc {h : Zaa} {b n c : Nat} {e : Bool} {a : Pt} {ys : List EI} {is : List Ins} {k : Int} (f : Zbr Zab eN b h a n ys) (hl : ys.length = is.length) (hn20 : n ≤ 1048576) (hi20 : ∀ i ∈ is, i.2.length ≤ 1048576)
    (hN : ∀ (k : Nat) (x : EI) (i : Ins), ys[k]? = some x → is[k]? = some i → Zbr Zao eP b h x.a x.n i.2) (sep : ∀ (j k : Nat) (x y : EI), j ≠ k → ys[j]? = some x → ys[k]? = some y → x.n ≠ 0 → y.n ≠ 0 → x.a ≠ y.a)
    {H : Nat} (hH : ∀ i, a = some (i, 0) → n ≠ 0 → i < H) (hHn : ∀ (q : Nat) (x : EI), ys[q]? = some x → ∀ j, x.a = some (j, 0) → x.n ≠ 0 → j < H)
    (hk : 0 ≤ k ∧ k ≤ 4398046511104) : Zae pg Zeh [.slice a n c e, .int .i64 k] h fun v h' => (∃ z, v = .int .i64 z ∧ 0 ≤ z ∧ z ≤ 13194139533312) ∧ Mid b H h h' := by
  apply Zci.call
  obtain ⟨hyl, hf⟩ := f
  refine Zci.L2ind _ _ _ _ _ (J := fun (g : Nat) x1 x5 h' => x5 = (g : Int) ∧ g ≤ n ∧ 0 ≤ x1 ∧ x1 ≤ k + g * 2097160 ∧ Mid b H h h' ∧
      (n = 0 ∨ ∃ i cs, a = some (i, 0) ∧ b ≤ i ∧ i < H ∧ h'[i]? = some (.cells Zab cs false) ∧ cs.length = n * 3 ∧ ∀ (q : Nat) (x : EI), ys[q]? = some x → cs[q * 3 + 2]? = some (.slice x.a x.n x.cp x.e)) ∧
      (∀ (q : Nat) (x : EI) (i : Ins), g ≤ q → ys[q]? = some x → is[q]? = some i → Zbr Zao eP b h' x.a x.n i.2 ∧ ∀ j, x.a = some (j, 0) → x.n ≠ 0 → j < H)) (fun g => n - g) ?_ 0 _ _ _
    ⟨rfl, by omega, hk.1, by omega, Mid.refl _ _ _, ?_, ?_⟩
  · rintro g x1 x5 h' ⟨rfl, hg, h0, hx1, hM, hst, hrow⟩ R hR
    unfold Zci.L2t
    refine Zam (fun hlt => ?_) (fun hge => ?_)
    · rcases hst with hz | ⟨i, cs, rfl, hbi, hih, hi, hcl, hsl⟩
      · omega
      have hgy : g < ys.length := by omega
      have hgi : g < is.length := by omega
      have hB : (g : Int) * 2097160 ≤ 1048576 * 2097160 := by omega
      have hlm := hM.1
      refine (Zdi (by omega)).mono ?_
      rintro v h1 ⟨rfl, s1⟩
      simp only [Zal, Zba, Int.toNat_natCast, Nat.zero_add, Nat.add_zero]
      have i1 := s1.get hi (Own.lt hi)
      rw [Zbb i1 (by rw [hcl]; simp; omega), Zsz (by rw [hcl]; omega)]
      simp only [Zar]
      refine ⟨by omega, (Zdi (by rw [IntWalk.i64_in _ (by omega)]; omega)).mono ?_⟩
      rintro v h2 ⟨rfl, s2⟩
      simp only [Zal]
      have i2 := s2.get (Zbn i1 (x := .cells Zab (cs.set (g * 3) (.str (Zfj x1))) false)) (by simp; exact Own.lt i1)
      rw [Zbb i2 (by rw [List.length_set, hcl]; simp; omega), Zsz (by rw [List.length_set, hcl]; omega)]
      simp only [Zar]
      have i3 := Zbn i2 (x := .cells Zab ((cs.set (g * 3) (.str (Zfj x1))).set (g * 3 + 1) (.str (Zfj (IntKind.wrap .i64 (x1 + 1))))) false)
      have hcell : ((cs.set (g * 3) (.str (Zfj x1))).set (g * 3 + 1) (.str (Zfj (IntKind.wrap .i64 (x1 + 1)))))[g * 3 + 2]? = some (.slice ys[g].a ys[g].n ys[g].cp ys[g].e) := by
        rw [List.getElem?_set_ne (by omega), List.getElem?_set_ne (by omega)]
        exact hsl g ys[g] (List.getElem?_eq_getElem hgy)
      refine ⟨by omega, by omega, ?_⟩
      rw [Zau i3, hcell]
      simp only [Zaf]
      rw [IntWalk.i64_in (x1 + 1) (by omega), IntWalk.i64_in (x1 + 1 + 1) (by omega)] at *
      generalize hh3 : h2.set i (.cells Zab ((cs.set (g * 3) (.str (Zfj x1))).set (g * 3 + 1) (.str (Zfj (x1 + 1)))) false) = h3 at *
      have M3 : Mid b H h h3 := by
        rw [← hh3]
        exact ((((hM.same s1).set hbi hih).same s2).set hbi hih)
      have oth : ∀ j, j ≠ i → j < h'.length → h3[j]? = h'[j]? := fun j hj hjl => by
        rw [← hh3, Zbl (Ne.symm hj), s2.eq j (by simp; have := s1.le; omega), Zbl (Ne.symm hj), s1.eq j hjl]
      have hrow3 : ∀ (q : Nat) (x : EI) (ii : Ins), g ≤ q → ys[q]? = some x → is[q]? = some ii → Zbr Zao eP b h3 x.a x.n ii.2 ∧ ∀ j, x.a = some (j, 0) → x.n ≠ 0 → j < H := fun q x ii hq hx hii => by
        obtain ⟨p1, p2⟩ := hrow q x ii hq hx hii
        refine ⟨p1.off fun j ha hn hj => oth j (fun e => ?_) hj, p2⟩
        subst e
        rcases p1.2 with h0 | ⟨j', ha', _, hj'⟩
        · exact hn h0
        · rw [ha] at ha'; cases ha'
          exact Zjf hi hj' Ydu rfl
      obtain ⟨p1, p2⟩ := hrow3 g ys[g] is[g] (Nat.le_refl _) (List.getElem?_eq_getElem hgy) (List.getElem?_eq_getElem hgi)
      have hlen := hi20 is[g] (List.getElem_mem hgi)
      have hpn := p1.1
      refine (Zos p1 (k := x1 + 1 + 1) (by omega)).mono ?_
      rintro v h4 ⟨rfl, o4, f4⟩
      simp only [Zbe]
      rw [Zcd (by omega)]
      have i4 : h4[i]? = some (.cells Zab ((cs.set (g * 3) (.str (Zfj x1))).set (g * 3 + 1) (.str (Zfj (x1 + 1)))) false) := by
        rw [o4.2 i (Own.lt i3) fun j hj hn => ?_]; exact i3
        rcases p1.2 with h0 | ⟨j', ha', _, hj'⟩
        · exact absurd h0 hn
        · rw [hj] at ha'; cases ha'
          exact Zjf i3 hj' Ydu
      refine hR (g + 1) _ _ _ (by omega) ⟨rfl, by omega, by omega, by push_cast; omega, M3.trans ?_, .inr ⟨i, _, rfl, hbi, hih, i4, by simp [hcl], fun q x hx => ?_⟩, fun q x ii hq hx hii => ?_⟩
      · refine ⟨o4.1, fun j hj hn => o4.2 j hj fun q hq h0 => ?_⟩
        have := p2 q hq h0
        rcases p1.2 with hz | ⟨j', ha', hb', _⟩
        · exact absurd hz h0
        · rw [hq] at ha'; cases ha'; omega
      · rw [List.getElem?_set_ne (by omega), List.getElem?_set_ne (by omega)]
        exact hsl q x hx
      · obtain ⟨r1, r2⟩ := hrow3 q x ii (by omega) hx hii
        refine ⟨r1.off fun j ha hn hj => o4.2 j hj fun q' hq' h0 => ?_, r2⟩
        intro e; subst e
        exact sep g q ys[g] x (by omega) (List.getElem?_eq_getElem hgy) hx h0 hn (by rw [hq', ha])
    · apply Zci.A2x0i
      exact ⟨⟨_, rfl, h0, by omega⟩, hM⟩
  · rcases hf with h0 | ⟨i, ha, hbi, hi⟩
    · exact .inl h0
    by_cases hn0 : n = 0
    · exact .inl hn0
    refine .inr ⟨i, _, ha, hbi, hH i ha hn0, hi, by rw [Zaw Zeo, hyl], fun q x hx => ?_⟩
    have hq := (List.getElem?_eq_some_iff.1 hx).1
    have hd := Zsw Zeo ys q
    have h2 : (Zbv eN ys)[q * 3 + 2]? = ((Zbv eN ys).drop (q * 3))[2]? := by rw [List.getElem?_drop]
    rw [h2, hd, List.drop_eq_getElem_cons hq, Zem]
    have : ys[q] = x := by rw [List.getElem?_eq_getElem hq] at hx; exact Option.some.inj hx
    rw [this]; rfl
  · intro q x i _ hx hii
    refine ⟨hN q x i hx hii, fun j ha hn => ?_⟩
    exact hHn q x hx j ha hn
structure Yjn (H : Nat) (a0 : Pt) (n0 : Nat) (a1 : Pt) (n1 : Nat) (ys : List EI) : Prop where
  cls : ∀ i, a0 = some (i, 0) → n0 ≠ 0 → i < H
  ins : ∀ i, a1 = some (i, 0) → n1 ≠ 0 → i < H
  need : ∀ (q : Nat) (x : EI), ys[q]? = some x → ∀ j, x.a = some (j, 0) → x.n ≠ 0 → j < H
theorem Zgu.bel {b : Nat} {h : Zaa} {a0 a1 : Pt} {n0 n1 : Nat} {ys : List EI} {w : Wd} (f : Zgu b h a0 n0 a1 n1 ys w) : Yjn h.length a0 n0 a1 n1 ys :=
  ⟨fun i hi hn => (f.cls.in i hi hn).2, fun i hi hn => (f.ins.in i hi hn).2, fun q x hx j hj hn => by
    have hq := (List.getElem?_eq_some_iff.1 hx).1
    exact ((f.need q x (w.is[q]'(by have := f.len; omega)) hx (List.getElem?_eq_getElem _)).2.2.in j hj hn).2⟩
theorem Zuo {h : Zaa} {b n0 c0 n1 c1 : Nat} {e0 e1 : Bool} {a0 a1 : Pt} {ys : List EI} {w : Wd} {k : Int} (f : Zgu b h a0 n0 a1 n1 ys w) (hb : WB w) {H : Nat} (hH : Yjn H a0 n0 a1 n1 ys) (hHl : H ≤ h.length) (hk : 0 ≤ k ∧ k ≤ 1048576) :
    Zae pg Zev [.agg [.slice a0 n0 c0 e0, .slice a1 n1 c1 e1], .int .i64 k] h fun v h' => (∃ z, v = .int .i64 z ∧ 0 ≤ z ∧ z ≤ 13194139533312) ∧ Mid b H h h' := by
  have hl0 := f.cls.1
  have hl1 := f.ins.1
  have hlc := hb.lc
  have hli := hb.li
  have hyl := f.len
  apply Zie.call
  simp only [Zbf]
  generalize hh0 : h ++ [Zck.cells Zac [.slice a0 n0 c0 e0, .slice a1 n1 c1 e1] false] = h0
  have s0 : Zbd h.length h h0 := by rw [← hh0]; exact Zax
  have w0 : h0[h.length]? = some (Zmt a0 n0 c0 e0 a1 n1 c1 e1) := by rw [← hh0]; simp [Zmt]
  simp only [Zgt w0, Nat.zero_add, List.getElem?_cons_succ, List.getElem?_cons_zero, Zaf]
  have f0 := f.same s0
  refine (Zmr f0.cls (by omega)).mono ?_
  rintro v h2 ⟨rfl, o2, g2⟩
  simp only [Zbe]
  have hin := f.cls.in
  have w2 : h2[h.length]? = some (Zmt a0 n0 c0 e0 a1 n1 c1 e1) := by
    rw [o2.2 _ (Own.lt w0) fun j hj hn => by have := (hin j hj hn).2; omega]; exact w0
  simp only [Zgt w2, Nat.zero_add, List.getElem?_cons_succ, List.getElem?_cons_zero, Zaf]
  have M2 : Mid b H h h2 := (Mid.of_same s0).trans (o2.mid fun i hi hn => ⟨(hin i hi hn).1, hH.cls i hi hn⟩)
  have offC : ∀ (ty : TypeId), ty ≠ Zan → ∀ {α : Type} {enc : α → List Zag} {a : Pt} {n : Nat} {l : List α}, Zbr ty enc b h0 a n l → Zbr ty enc b h2 a n l := fun ty hty α enc a n l p => p.off fun j ha hn hj => o2.2 j hj fun q hq h0 e => by
    subst e
    rcases p.2 with hz | ⟨j', ha', _, hj'⟩
    · exact hn hz
    · rw [ha] at ha'; cases ha'
      rcases f0.cls.2 with hz | ⟨j', ha', _, hj''⟩
      · exact h0 hz
      · rw [hq] at ha'; cases ha'
        exact Zjf hj' hj'' hty rfl
  have n1 : Zab ≠ Zan := by decide
  have n2 : Zao ≠ Zan := by decide
  refine (Zpc (offC _ n1 f0.ins) hyl (by omega) (fun i hi => (hb.is i hi).2.2.1) (fun k x i hx hi => offC _ n2 (f0.need k x i hx hi).2.2) f.sep hH.ins hH.need (by omega)).mono ?_
  rintro v h3 ⟨⟨z, rfl, hz0, hz1⟩, M3⟩
  simp only [Zbe]
  exact ⟨⟨z, rfl, hz0, hz1⟩, M2.trans M3⟩
end Go.Sim

set_option linter.unusedVariables false
namespace Go.Sim
open Go Go.RowKit
end Go.Sim

set_option linter.unusedSimpArgs false
set_option linter.unusedVariables false
namespace Go.Sim

def Yft (k : Wk) : Nat → Nd → Bool
  | 0, n => (k.cand n).any fun x => match k.needs x n.2 with | some ms => decide (ms = []) | none => false
  | d + 1, n => (k.cand n).any fun x => match k.needs x n.2 with | some ms => ms.all (Yft k d) | none => false
def Yco (n : Nd) (d : Nat) : List Nat := n.1 ++ [32] ++ n.2 ++ [32] ++ [48 + d]
theorem Yel {n m : Nd} {d e : Nat} (hn : n.1.length = 1) (hm : m.1.length = 1) (h : Yco n d = Yco m e) : n = m ∧ d = e := by
  unfold Yco at h
  have h1 := List.append_inj_right' h rfl
  have h2 := List.append_inj_left' h rfl
  have h3 := List.append_inj_left' h2 rfl
  rw [List.append_assoc, List.append_assoc] at h3
  have h4 := List.append_inj h3 (by omega)
  have h5 := List.append_inj h4.2 rfl
  simp at h1
  exact ⟨Prod.ext h4.1 h5.2, h1⟩
theorem Zyt {cs : List Nd} {c : List Nat} (h : Zgo cs = true) (hk : Zfi cs c = true) : c.length = 1 := by
  unfold Zfi at hk
  obtain ⟨x, hx, he⟩ := List.any_eq_true.1 hk
  obtain ⟨i, hi, rfl⟩ := List.getElem_of_mem hx
  unfold Zgo at h
  simp only [Bool.and_eq_true, List.all_eq_true] at h
  have := h.1 i (List.mem_range.2 hi)
  unfold Zpx at this
  simp only [Bool.and_eq_true] at this
  have h1 := this.1.1
  rw [Zgv hi] at h1
  have he := of_decide_eq_true he
  rw [he] at h1
  unfold Zoa at h1
  match c, h1 with
  | [a], _ => rfl
theorem Zsb {w : Wd} (hw : Zhd w = true) {n : Nd} (h : Zog w n = true) : n.1.length = 1 := by
  unfold Zhd at hw
  unfold Zog at h
  simp only [Bool.and_eq_true] at hw h
  exact Zyt hw.1.1 h.1
end Go.Sim

set_option linter.unusedVariables false
set_option linter.unusedSimpArgs false
set_option maxRecDepth 20000
namespace Go.Sim
open Go Go.RowKit

def Yak (w : Wd) (es : List ME) : Prop := ∀ e ∈ es, ∃ s b, e.1 = .str s ∧ e.2.1 = .bool b ∧ ∀ n d, Zog w n = true → s = Yco n d → b = Yft (wk w) d n
theorem Zta : ∀ (es : List ME) (s : List Nat) (i : Nat), (∀ e ∈ es, ∃ s, e.1 = .str s) → ∃ r, Zrb es s i = some r ∧ ∀ j v, r = some (j, v) → ∃ e ∈ es, e.1 = .str s ∧ e.2.1 = v
  | [], s, i, h => ⟨none, rfl, fun j v h => by cases h⟩
  | (k, v, c) :: es, s, i, h => by
    obtain ⟨t, ht⟩ := h (k, v, c) (by simp)
    simp only at ht
    subst ht
    unfold Zrb
    by_cases hst : s = t
    · rw [if_pos hst]
      exact ⟨_, rfl, fun j u hj => by cases hj; exact ⟨_, List.mem_cons_self, by rw [hst], rfl⟩⟩
    · rw [if_neg hst]
      obtain ⟨r, hr, hm⟩ := Zta es s (i + 1) fun e he => h e (by simp [he])
      exact ⟨r, hr, fun j u hj => by obtain ⟨e, he, h1⟩ := hm j u hj; exact ⟨e, by simp [he], h1⟩⟩
theorem Zrl {α : Type} {f : α → α} : ∀ {l : List α} {i : Nat} {x : α}, x ∈ l.modify i f → x ∈ l ∨ ∃ y ∈ l, x = f y
  | [], i, x, h => by cases i <;> simp at h
  | y :: l, 0, x, h => by
    simp at h
    rcases h with rfl | h
    · exact .inr ⟨y, by simp, rfl⟩
    · exact .inl (by simp [h])
  | y :: l, i + 1, x, h => by
    simp at h
    rcases h with rfl | h
    · exact .inl (by simp)
    · rcases Zrl h with h | ⟨z, hz, rfl⟩
      · exact .inl (by simp [h])
      · exact .inr ⟨z, by simp [hz], rfl⟩
section
variable {hb : Zaa} {i m : Nat} {u v : Zag} {w : Wd} {h : Zaa}
end
theorem Zjx.get {i : Nat} {h h' : Zaa} (k : Zjx i h h') {j : Nat} {x : Zck} (hj : h[j]? = some x) (hne : j ≠ i) : h'[j]? = some x := by rw [k.eq j (Own.lt hj) hne]; exact hj
end Go.Sim

set_option linter.unusedVariables false
set_option linter.unusedSimpArgs false
set_option maxRecDepth 20000
namespace Go.Sim
open Go Go.RowKit

theorem Yak.at {w : Wd} {es : List ME} (ok : Yak w es) {n : Nd} {d : Nat} (hv : Zog w n = true) (s : List Nat) (hs : s = Yco n d) {K : Option Zag → Prop} (h0 : K none) (h1 : K (some (.bool (Yft (wk w) d n)))) : Zue es s K := by
  obtain ⟨r, hr, hm⟩ := Zta es s 0 fun e he => by obtain ⟨s, b, h, _⟩ := ok e he; exact ⟨s, h⟩
  unfold Zue
  rw [hr]
  match r, hm with
  | none, _ => exact h0
  | some (j, v), hm =>
    obtain ⟨e, he, e1, e2⟩ := hm j v rfl
    obtain ⟨s', b', k1, k2, k3⟩ := ok e he
    rw [k1] at e1
    cases e1
    rw [k2] at e2
    subst e2
    rw [k3 n d hv hs]
    exact h1
theorem Yak.put {w : Wd} (hw : Zhd w = true) {es : List ME} (ok : Yak w es) {clk : Nat} {n : Nd} {d : Nat} (hv : Zog w n = true) {K : List ME → Nat → Prop} (hK : ∀ es' clk', Yak w es' → K es' clk') : Yfu es clk (Yco n d) (.bool (Yft (wk w) d n)) K := by
  have new : ∀ c : Nat, ∀ s b, (Zag.str (Yco n d), Zag.bool (Yft (wk w) d n), c).1 = .str s → (Zag.str (Yco n d), Zag.bool (Yft (wk w) d n), c).2.1 = .bool b → ∀ n' d', Zog w n' = true → s = Yco n' d' → b = Yft (wk w) d' n' := by
    intro c s b hs hb n' d' hv' he
    cases hs; cases hb
    obtain ⟨rfl, rfl⟩ := Yel (Zsb hw hv) (Zsb hw hv') he
    rfl
  obtain ⟨r, hr, _⟩ := Zta es (Yco n d) 0 fun e he => by obtain ⟨s, b, h, _⟩ := ok e he; exact ⟨s, h⟩
  unfold Yfu
  rw [hr]
  match r with
  | none =>
    refine hK _ _ fun e he => ?_
    rcases List.mem_append.1 he with he | he
    · exact ok e he
    · rw [List.mem_singleton] at he
      subst he
      exact ⟨_, _, rfl, rfl, new clk _ _ rfl rfl⟩
  | some (j, v) =>
    refine hK _ _ fun e he => ?_
    rcases Zrl he with he | ⟨y, hy, rfl⟩
    · exact ok e he
    · exact ⟨_, _, rfl, rfl, new y.2.2 _ _ rfl rfl⟩
end Go.Sim

set_option linter.unusedVariables false
set_option linter.unusedSimpArgs false
set_option maxRecDepth 20000
namespace Go.Sim
open Go Go.RowKit

end Go.Sim

set_option linter.unusedVariables false
set_option linter.unusedSimpArgs false
set_option maxRecDepth 20000
namespace Go.Sim
open Go Go.RowKit

structure FrO (O O' : List Nat) (h h' : Zaa) : Prop where
  le : h.length ≤ h'.length
  eq : ∀ j, j < h.length → j ∉ O → h'[j]? = h[j]?
  nw : ∀ j, j ∈ O' → j ∈ O ∨ h.length ≤ j
theorem FrO.of_same {O : List Nat} {h h' : Zaa} (s : Zbd h.length h h') : FrO O O h h' := ⟨s.le, fun j hj _ => s.eq j hj, fun j hj => .inl hj⟩
theorem FrO.trans {O O1 O2 : List Nat} {h h1 h2 : Zaa} (f : FrO O O1 h h1) (g : FrO O1 O2 h1 h2) : FrO O O2 h h2 := by
  have := f.le; have := g.le
  refine ⟨by omega, fun j hj hn => ?_, fun j hj => ?_⟩
  · have hn1 : j ∉ O1 := fun hm => by
      rcases f.nw j hm with h | h
      · exact hn h
      · omega
    rw [g.eq j (by omega) hn1]
    exact f.eq j hj hn
  · rcases g.nw j hj with h | h
    · exact f.nw j h
    · exact .inr (by omega)
theorem FrO.get {O O' : List Nat} {h h' : Zaa} (f : FrO O O' h h') {j : Nat} {x : Zck} (hj : h[j]? = some x) (hn : j ∉ O) : h'[j]? = some x := by rw [f.eq j (Own.lt hj) hn]; exact hj
theorem FrO.row {O O' : List Nat} {h h' : Zaa} (f : FrO O O' h h') {a : Pt} {n : Nat} {cs : List Zag} (r : Row h.length h a n cs) (hn : ∀ j o, n ≠ 0 → a = some (j, o) → j ∉ O) : Row h'.length h' a n cs := by
  obtain ⟨hl, r⟩ := r
  by_cases h0 : n = 0
  · exact ⟨hl, .inl h0⟩
  · refine ⟨hl, r.imp id ?_⟩
    rintro ⟨j, o', t, all, ro, ha, hi, hg, x⟩
    have := f.le
    exact ⟨j, o', t, all, ro, ha, by omega, by rw [f.eq j hi (hn j o' h0 ha)]; exact hg, x⟩
section
variable {hb : Zaa} {i : Nat} {u v : Zag} {w : Wd} {h : Zaa} {O : List Nat} {tab : List (List Nat × Bool)}
end
end Go.Sim

set_option linter.unusedVariables false
set_option linter.unusedSimpArgs false
set_option maxRecDepth 20000
namespace Go.Sim
open Go Go.RowKit

end Go.Sim

set_option linter.unusedVariables false
set_option linter.unusedSimpArgs false
set_option maxRecDepth 20000
namespace Go.Sim
open Go Go.RowKit

theorem Znp : pg.underlying Zca = some (.slice Zab) := by kernel_rfl
theorem Zxx : pg.cellsOf Zab = 3 := by kernel_rfl
theorem Zxz : pg.okElem Zab = true := by kernel_rfl
theorem Zya : pg.bytesOf Zab ≤ 127 := Nat.le_of_ble_eq_true (by kernel_rfl)
theorem Yhl : Zre pg Zab = some [.str [], .str [], .slice none 0 0 true] := by kernel_rfl
theorem Yde : pg.underlying Zhw = some (.slice Zan) := by kernel_rfl
theorem Yhc : pg.cellsOf Zan = 2 := by kernel_rfl
theorem Ygz : pg.okElem Zan = true := by kernel_rfl
theorem Yid : pg.bytesOf Zan ≤ 127 := Nat.le_of_ble_eq_true (by kernel_rfl)
theorem Yeu {h : Zaa} {i j : Nat} {t t' : TypeId} {cs cs' : List Zag} {ro ro' : Bool} (hi : h[i]? = some (.cells t cs ro)) (hj : h[j]? = some (.cells t' cs' ro')) (hne : t ≠ t') : i ≠ j := by
  rintro rfl; rw [hi] at hj; injection hj with hj; injection hj with hj _ _; exact hne hj
def NNs (h : Zaa) (a1 : Pt) (n1 : Nat) (w : Wd) : Prop := ∃ xs, Row h.length h a1 (n1 * 3) (Zbv eN xs) ∧ Zqv h xs w.is ∧ ∀ x ∈ xs, x.a ≠ none
theorem NNs.same {h h' : Zaa} {a1 : Pt} {n1 : Nat} {w : Wd} (r : NNs h a1 n1 w) (s : Zbd h.length h h') : NNs h' a1 n1 w := by
  obtain ⟨xs, h1, h2, h3⟩ := r
  exact ⟨xs, h1.same' s, h2.same s, h3⟩
theorem Zgu.nns {b : Nat} {h : Zaa} {a0 a1 : Pt} {n0 n1 : Nat} {xs : List EI} {w : Wd} (f : Zgu b h a0 n0 a1 n1 xs w) : NNs h a1 n1 w :=
  ⟨xs, f.ins.row Zeo, ⟨f.len, fun k x i hx hi => ⟨(f.need k x i hx hi).1, (f.need k x i hx hi).2.1, (f.need k x i hx hi).2.2.row Zdq⟩⟩, f.nn⟩
theorem Yat {h : Zaa} {a : Pt} {n c : Nat} {e : Bool} {l : List Nd} (r : Row h.length h a (n * 2) (Zbv eP l)) (h0 : n ≠ 0) (hn : n ≤ 1048576) :
    Zae pg Zcs [.slice a n c e] h fun v h' => ∃ q c' e', v = .slice (some (q, 0)) n c' e' ∧ n ≤ c' ∧ h.length ≤ q ∧ h'[q]? = some (.cells Zan (Zbv eP l) false) ∧ Zbd h.length h h' := by
  have hl : l.length = n := by have := r.1; rw [Zaw Zdq] at this; omega
  obtain ⟨i, o, ha⟩ : ∃ i o, a = some (i, o) := by
    rcases r.2 with h1 | ⟨i, o, t, all, ro, ha, _⟩
    · omega
    · exact ⟨i, o, ha⟩
  subst ha
  apply Zdp.call
  refine ⟨(by intro e; cases e), ?_⟩
  simp only [Option.isNone_some, Zbf]
  generalize hh0 : h ++ [Zck.cells Zan [] false] = h0'
  have s0 : Zbd h.length h h0' := by rw [← hh0]; exact Zax
  have o0 : h0'[h.length]? = some (.cells Zan [] false) := by rw [← hh0]; simp
  have l0 : h0'.length = h.length + 1 := by rw [← hh0]; simp
  refine Zgl (fun h => by cases h) (fun _ => ?_)
  refine Vec.app0 (n := 0) o0 Yde Yhc Ygz Yid (by simp) (r.same' s0).rowOf (Zlr (enc := eP) (fun _ => rfl) l) (by omega) (fun h1 hl1 hi1 hk1 => ?_)
  simp only [Zaf, Nat.zero_add]
  exact ⟨_, _, _, rfl, by omega, by omega, by simpa using hi1, ⟨by omega, fun j hj => by rw [hk1 j (by omega) (by omega)]; exact s0.eq j hj⟩⟩
def CpQ (w : Wd) (n0 n1 : Nat) (h : Zaa) (v : Zag) (h' : Zaa) : Prop := ∃ q0 d0 f0 q1 f1 ys, v = .agg [.slice (some (q0, 0)) n0 d0 f0, .slice (some (q1, 0)) n1 n1 f1] ∧ n0 ≤ d0 ∧ Zbd h.length h h' ∧ h.length ≤ q0 ∧ h.length ≤ q1 ∧ q0 ≠ q1 ∧
  h'[q0]? = some (.cells Zan (Zbv eP w.cs) false) ∧ h'[q1]? = some (.cells Zab (Zbv eN ys) false) ∧ ys.length = n1 ∧ (∀ (k : Nat) (x : EI) (i : Ins), ys[k]? = some x → w.is[k]? = some i → x.c = i.1.1 ∧ x.t = i.1.2 ∧ Zbr Zao eP h.length h' x.a x.n i.2) ∧ (∀ (j k : Nat) (x y : EI), j ≠ k → ys[j]? = some x → ys[k]? = some y → x.n ≠ 0 → y.n ≠ 0 → x.a ≠ y.a)
theorem Ybj {h : Zaa} {a0 a1 : Pt} {n0 c0 n1 c1 : Nat} {e0 e1 : Bool} {w : Wd} (r : Zln h a0 n0 c0 a1 n1 c1 w) (nn : NNs h a1 n1 w) (b : WB w) (h0 : n0 ≠ 0) (h1 : n1 ≠ 0) :
    Zae pg Zkx [.agg [.slice a0 n0 c0 e0, .slice a1 n1 c1 e1]] h (CpQ w n0 n1 h) := by
  have hl0 := r.len0
  have hl1 := r.len1
  have hlc := b.lc
  have hli := b.li
  apply Zhe.call
  simp only [Zbf]
  generalize hh0 : h ++ [Zck.cells Zac [.slice a0 n0 c0 e0, .slice a1 n1 c1 e1] false] = g0
  generalize hh1 : g0 ++ [Zck.cells Zac [.slice none 0 0 true, .slice none 0 0 true] false] = g1
  have s0 : Zbd h.length h g0 := by rw [← hh0]; exact Zax
  have s1 : Zbd g0.length g0 g1 := by rw [← hh1]; exact Zax
  have l0 : g0.length = h.length + 1 := by rw [← hh0]; simp
  have l1 : g1.length = h.length + 2 := by rw [← hh1]; simp [l0]
  have w0 : g0[h.length]? = some (Zmt a0 n0 c0 e0 a1 n1 c1 e1) := by rw [← hh0]; simp [Zmt]
  have w1 := s1.get w0 (Own.lt w0)
  have z1 : g1[g0.length]? = some (.cells Zac [.slice none 0 0 true, .slice none 0 0 true] false) := by rw [← hh1]; simp
  have S1 := s0.cat s1
  simp only [Zgt w1, Nat.zero_add, List.getElem?_cons_zero, List.getElem?_cons_succ, Zaf]
  refine (Yat (l := w.cs) (r.cls.same' S1) h0 (by omega)).mono ?_
  rintro v g2 ⟨q0, d0, f0, rfl, hd0, hq0, o2, s2⟩
  have S2 := S1.cat s2
  have w2 := s2.get w1 (Own.lt w1)
  have z2 := s2.get z1 (Own.lt z1)
  simp only [Zaf]
  rw [Zlc]
  simp only [Zar]
  generalize hh3 : g2 ++ [Zck.cells Zac [.slice (some (q0, 0)) n0 d0 f0, .slice none 0 0 true] false] = g3
  have s3 : Zbd g2.length g2 g3 := by rw [← hh3]; exact Zax
  have l3 : g3.length = g2.length + 1 := by rw [← hh3]; simp
  have u3 : g3[g2.length]? = some (.cells Zac [.slice (some (q0, 0)) n0 d0 f0, .slice none 0 0 true] false) := by rw [← hh3]; simp
  have S3 := S2.cat s3
  have w3 := s3.get w2 (Own.lt w2)
  have z3 := s3.get z2 (Own.lt z2)
  have o3 := s3.get o2 (Own.lt o2)
  have le2 := s2.le
  simp only [Zgt w3, List.getElem?_cons_zero, List.getElem?_cons_succ, Zaf]
  have hq0l := Own.lt o2
  refine Zhe.L3ind (J := fun (g : Nat) x13 h' => x13 = (g : Int) ∧ g ≤ n1 ∧ Zbd h.length h h' ∧ g3.length ≤ h'.length ∧ h'[q0]? = some (.cells Zan (Zbv eP w.cs) false) ∧ h'[g0.length]? = some (.cells Zac [.slice none 0 0 true, .slice none 0 0 true] false) ∧
      ∃ (a : Pt) (cp : Nat) (f : Bool) (ys : List EI), h'[g2.length]? = some (.cells Zac [.slice (some (q0, 0)) n0 d0 f0, .slice a g cp f] false) ∧ Vec Zab h' a g cp (Zbv eN ys) ∧ (g ≠ 0 → cp = g) ∧ ys.length = g ∧ (∀ j, a = some (j, 0) → g3.length ≤ j) ∧
        (∀ (k : Nat) (x : EI) (i : Ins), ys[k]? = some x → w.is[k]? = some i → x.c = i.1.1 ∧ x.t = i.1.2 ∧ Zbr Zao eP g3.length h' x.a x.n i.2) ∧ (∀ (j k : Nat) (x y : EI), j ≠ k → ys[j]? = some x → ys[k]? = some y → x.n ≠ 0 → y.n ≠ 0 → x.a ≠ y.a))
    (m := fun g => n1 - g) (hr := ?_) (g := 0) (hj := ⟨rfl, by omega, S3, Nat.le_refl _, o3, z3, none, 0, true, [], u3, Vec.mk0, by simp, rfl, by simp, by simp, by simp⟩) ..
  rintro g x13 g4 ⟨rfl, hg, S4, l4, o4, z4, a, cp, f, ys, u4, hv, hcp, hyl, hlow, hrep, hsep⟩ R hR
  unfold Zhe.L3t
  refine Zam (fun hlt => ?_) (fun hge => ?_)
  · have r4 := r.same S4
    obtain ⟨xs, hx1, hx2, hx3⟩ := nn.same S4
    have hgn : g < n1 := by omega
    have hgl : g < w.is.length := by omega
    obtain ⟨ii, oi, hgx, ha1, hii, hr4, _⟩ := Row.el Zeo hx1 (by rw [hx2.1]; omega) hgn (by omega)
    have hI := hx2.2 g xs[g] w.is[g] (List.getElem?_eq_getElem hgx) (List.getElem?_eq_getElem hgl)
    have hne := hx3 _ (List.getElem_mem hgx)
    have hIl := hI.len
    obtain ⟨e1', e2', e3'⟩ := id hI
    generalize hX : xs[g] = X at *
    rw [eN] at hr4
    simp only [ha1, Zba, Int.toNat_natCast, hr4, Zaq, Zah, Zap, Zal, Zaf]
    simp only [Zbf]
    rw [← ha1, Yex]
    refine ⟨by omega, ?_⟩
    simp only [Zar]
    generalize hh5 : g4 ++ [Zck.cells Zab [.str X.c, .str X.t, .slice X.a X.n X.cp X.e] false] = g5
    have s5 : Zbd g4.length g4 g5 := by rw [← hh5]; exact Zax
    have l5 : g5.length = g4.length + 1 := by rw [← hh5]; simp
    have t5 : g5[g4.length]? = some (.cells Zab [.str X.c, .str X.t, .slice X.a X.n X.cp X.e] false) := by rw [← hh5]; simp
    simp only [Zau t5, Nat.zero_add, List.getElem?_cons_zero, List.getElem?_cons_succ, Zaf]
    have hbi := b.is _ (List.getElem_mem hgl)
    refine (Ycg (l := w.is[g].2) (e3'.same' s5) (fun e => absurd e hne) (by omega)).mono ?_
    rintro v g6 ⟨a6, c6, e6, rfl, v6, s6, _⟩
    have t6 := s6.get t5 (Own.lt t5)
    have l6 := s6.le
    simp only [Zaf]
    rw [Zbb t6 (by simp)]
    simp only [Zar, Zbi, List.take_succ_cons, List.take_zero, List.length_cons, List.length_nil, List.drop_succ_cons, List.drop_zero, List.drop_nil, List.cons_append, List.nil_append, List.append_nil, Nat.zero_add]
    generalize hh7 : g6.set g4.length (Zck.cells Zab [.str X.c, .str X.t, .slice a6 X.n c6 e6] false) = g7
    have l7 : g7.length = g6.length := by rw [← hh7]; simp
    have t7 : g7[g4.length]? = some (.cells Zab [.str X.c, .str X.t, .slice a6 X.n c6 e6] false) := by rw [← hh7]; exact Zbn t6
    have k7 : ∀ j, j ≠ g4.length → g7[j]? = g6[j]? := fun j hj => by rw [← hh7, Zbl (fun e => hj e.symm)]
    have old7 : ∀ j, j < g4.length → g7[j]? = g4[j]? := fun j hj => by rw [k7 j (by omega), s6.eq j (by omega), s5.eq j hj]
    have u7 : g7[g2.length]? = some (.cells Zac [.slice (some (q0, 0)) n0 d0 f0, .slice a g cp f] false) := by rw [old7 _ (Own.lt u4)]; exact u4
    simp only [Zau u7, Zma t7, List.getElem?_cons_zero, List.getElem?_cons_succ, Zaf, Zaq, Zah, Zap, Zal]
    have hv7 : Vec Zab g7 a g cp (Zbv eN ys) := hv.agree fun j hj => old7 j (by subst hj; exact hv.lt)
    refine hv7.pushN Znp Zxx Zxz Zya (by rw [Zaw Zeo, hyl]) rfl (by omega) rfl (by omega) (fun g8 l8 i8 k8 => ?_)
    simp only [Zaf]
    have hal : ∀ j, a = some (j, 0) → j < g4.length := fun j hj => by subst hj; exact hv.lt
    have u8 : g8[g2.length]? = some (.cells Zac [.slice (some (q0, 0)) n0 d0 f0, .slice a g cp f] false) := by rw [k8 _ (Own.lt u7) fun i hi => by have := hlow i hi; omega]; exact u7
    rw [Zbb u8 (by simp)]
    simp only [Zar, Zbi, List.take_succ_cons, List.take_zero, List.length_cons, List.length_nil, List.drop_succ_cons, List.drop_zero, List.drop_nil, List.cons_append, List.nil_append, List.append_nil, Nat.zero_add]
    rw [Zcd (by omega)]
    have old9 : ∀ j, j < g4.length → j ≠ g2.length → (∀ i, a = some (i, 0) → j ≠ i) → (g8.set g2.length (Zck.cells Zac [.slice (some (q0, 0)) n0 d0 f0, .slice (some (g7.length + 1, 0)) (g + 1) (g + 1) false] false))[j]? = g4[j]? := fun j hj h1 h2 => by
      rw [Zbl (fun e => h1 e.symm), k8 j (by omega) h2, old7 j hj]
    refine hR (g + 1) _ _ (by omega) ⟨rfl, by omega, ⟨by simp; have := S4.le; omega, fun j hj => ?_⟩, by simp; omega, ?_, ?_, _, _, _, ys ++ [⟨X.c, X.t, a6, X.n, c6, e6⟩], Zbn u8, Vec.mk1 ?_, fun _ => rfl, by simp [hyl], fun j hj => by cases hj; omega, ?_, ?_⟩
    · rw [old9 j (by have := S4.le; omega) (by have := S2.le; omega) (fun i hi => by have := hlow i hi; have := S3.le; omega)]; exact S4.eq j hj
    · rw [old9 q0 (Own.lt o4) (by omega) (fun i hi => by have := hlow i hi; omega)]; exact o4
    · rw [old9 g0.length (Own.lt z4) (by omega) (fun i hi => by have := hlow i hi; omega)]; exact z4
    · rw [Zbl (by omega), i8]; simp [eN]
    · intro k x i hx hi
      by_cases hk : k < g
      · rw [List.getElem?_append_left (by omega)] at hx
        obtain ⟨p1, p2, p3, p4⟩ := hrep k x i hx hi
        refine ⟨p1, p2, p3, p4.imp id fun ⟨j, ha, hbj, hc⟩ => ⟨j, ha, hbj, ?_⟩⟩
        rw [old9 j (Own.lt hc) (by omega) (fun i hi => by
          subst hi
          rcases hv with ⟨e, _⟩ | ⟨j', hj', hjj⟩
          · cases e
          · cases hj'; exact Yeu hc hjj (by decide))]
        exact hc
      · have hkg : k = g := by have := (List.getElem?_eq_some_iff.1 hx).1; simp at this; omega
        subst hkg
        rw [List.getElem?_append_right (by omega)] at hx
        simp [hyl] at hx
        subst hx
        rw [List.getElem?_eq_getElem hgl] at hi
        cases hi
        refine ⟨e1', e2', ?_⟩
        have fr := v6.vec.fresh (b := g5.length) v6.len.symm v6.low
        refine ⟨fr.1, fr.2.imp id fun ⟨j, ha, hbj, hc⟩ => ⟨j, ha, by omega, ?_⟩⟩
        have hjl := Own.lt hc
        rw [Zbl (by omega), k8 j (by omega) (fun i hi => by have := hal i hi; omega), k7 j (by omega)]
        exact hc
    · have old : ∀ (k : Nat) (x : EI), k < g → ys[k]? = some x → x.n ≠ 0 → X.n ≠ 0 → x.a ≠ a6 := by
        intro k x hk hx h0 h2' he
        obtain ⟨_, _, p3⟩ := hrep k x w.is[k] hx (List.getElem?_eq_getElem (by omega))
        have fr := v6.vec.fresh (b := g5.length) v6.len.symm v6.low
        rcases p3.2 with p3 | ⟨j, ha, _, hc⟩
        · exact h0 p3
        · rcases fr.2 with f3' | ⟨j', ha', hb', _⟩
          · exact h2' f3'
          · rw [ha, ha'] at he; cases he; have := Own.lt hc; omega
      intro j k x y hjk hx hy' h0 h0'
      by_cases hj : j < g <;> by_cases hk : k < g
      · rw [List.getElem?_append_left (by omega)] at hx hy'
        exact hsep j k x y hjk hx hy' h0 h0'
      · have hkg : k = g := by have := (List.getElem?_eq_some_iff.1 hy').1; simp at this; omega
        subst hkg
        rw [List.getElem?_append_left (by omega)] at hx
        rw [List.getElem?_append_right (by omega)] at hy'
        simp [hyl] at hy'
        subst hy'
        exact old j x hj hx h0 h0'
      · have hjg : j = g := by have := (List.getElem?_eq_some_iff.1 hx).1; simp at this; omega
        subst hjg
        rw [List.getElem?_append_left (by omega)] at hy'
        rw [List.getElem?_append_right (by omega)] at hx
        simp [hyl] at hx
        subst hx
        exact fun he => old k y hk hy' h0' h0 he.symm
      · have := (List.getElem?_eq_some_iff.1 hx).1
        have := (List.getElem?_eq_some_iff.1 hy').1
        simp at *
        omega
  · have hgn : g = n1 := by omega
    subst hgn
    apply Zhe.A3x0i
    rw [Zch u4]
    simp only [Zaq, Zah, Zap, Zaf]
    rw [Zbb z4 (by simp)]
    simp only [Zar, Zbi, List.take_zero, List.length_cons, List.length_nil, List.drop_succ_cons, List.drop_zero, List.drop_nil, List.cons_append, List.nil_append, List.append_nil, Nat.zero_add]
    rw [Zch (Zbn z4)]
    simp only [Zaq, Zah, Zap, Zaf]
    have hcpn := hcp h1
    subst hcpn
    rcases hv with ⟨_, e, _⟩ | ⟨j1, rfl, hj1⟩
    · omega
    have hlj := hlow j1 rfl
    have k9 : ∀ j, j ≠ g0.length → (g4.set g0.length (Zck.cells Zac [.slice (some (q0, 0)) n0 d0 f0, .slice (some (j1, 0)) cp cp f] false))[j]? = g4[j]? := fun j hj => Zbl (fun e => hj e.symm)
    refine ⟨q0, d0, f0, j1, f, ys, rfl, hd0, ⟨by simp; exact S4.le, fun j hj => by rw [k9 j (by omega)]; exact S4.eq j hj⟩, by have := S1.le; omega, by have := S3.le; omega, by omega, by rw [k9 q0 (by omega)]; exact o4, by rw [k9 j1 (by omega)]; exact hj1, hyl, fun k x i hx hi => ?_, hsep⟩
    obtain ⟨p1, p2, p3, p4⟩ := hrep k x i hx hi
    exact ⟨p1, p2, p3, p4.imp id fun ⟨j, ha, hbj, hc⟩ => ⟨j, ha, by have := S3.le; omega, by rw [k9 j (by omega)]; exact hc⟩⟩
end Go.Sim

set_option linter.unusedVariables false
set_option linter.unusedSimpArgs false
set_option maxRecDepth 20000
namespace Go.Sim
open Go Go.RowKit

def z3 : List Zag := [.str [], .str [], .slice none 0 0 true]
theorem Zse (l : List EI) : (Zbv eN l).all Zag.leaf = true := Zlr (enc := eN) (fun _ => rfl) l
theorem Zye {ys : List EI} {k : Nat} (hk : k < ys.length) : Zbv eN ys = Zbv eN (ys.take k) ++ (eN ys[k] ++ Zbv eN (ys.drop (k + 1))) := by
  conv => lhs; rw [← List.take_append_drop k ys, List.drop_eq_getElem_cons hk]
  simp only [Zbv, List.flatMap_append, List.flatMap_cons]
theorem Zro {ys : List EI} {k : Nat} (hk : k < ys.length) : Zbv eN (ys.eraseIdx k) = Zbv eN (ys.take k) ++ Zbv eN (ys.drop (k + 1)) := by
  rw [List.eraseIdx_eq_take_drop_succ]; simp [Zbv]
theorem Zyv {h : Zaa} {q n k : Nat} {ys : List EI} (hq : h[q]? = some (.cells Zab (Zbv eN ys) false)) (hn : ys.length = n) (hk : k < n) (hb : n ≤ 1048576) {f : Bool} :
    Zae pg Zcj [.slice (some (q, 0)) n n f, .int .i64 (k : Int), .int .i64 ((k + 1 : Nat) : Int)] h fun v h' => ∃ f', v = .slice (some (q, 0)) (n - 1) n f' ∧ h' = h.set q (.cells Zab (Zbv eN (ys.eraseIdx k) ++ z3) false) := by
  have hql := Own.lt hq
  have hfl : (Zbv eN ys).length = n * 3 := by rw [Zaw Zeo, hn]
  have hft : (Zbv eN (ys.take k)).length = k * 3 := by rw [Zaw Zeo, List.length_take, Nat.min_eq_left (by omega)]
  have hfd : (Zbv eN (ys.drop (k + 1))).length = (n - (k + 1)) * 3 := by rw [Zaw Zeo, List.length_drop, hn]
  apply Zde.call
  simp only [Zep, Zhc, Zaf]
  refine ⟨by omega, fun _ => ?_, fun h => absurd (by omega) h⟩
  refine Zfr (fun h => by omega) (fun _ => ?_)
  refine ⟨by omega, fun _ => ?_, fun h => absurd (by omega) h⟩
  have key : ∀ (xa : Pt) (m c1 : Nat) (e1 ex : Bool), rowOf h xa (m * 3) = some (Zbv eN (ys.drop (k + 1))) → m = n - (k + 1) → ∀ K : Zag → Zaa → Prop, K (.slice (some (q, 0)) (n - 1) n ex) (h.set q (.cells Zab (Zbi (Zbv eN ys) (k * 3) (Zbv eN (ys.drop (k + 1)))) false)) →
      Zcy pg Zca h (.slice (some (q, 0)) k n ex) (.slice xa m c1 e1) K := by
    intro xa m c1 e1 ex hrow hm K hK
    unfold Zcy
    simp only [Znp, Zxx, hrow, Zaq]
    refine ⟨⟨Zxz, ?_, Zse _⟩, .inr (.inl ⟨by omega, ?_⟩)⟩
    · have := Zya
      have : (k + m) * (pg.bytesOf Zab + 1) ≤ (k + m) * 128 := Nat.mul_le_mul_left _ (by omega)
      omega
    · simp only [Zlj, hq, true_and]
      refine ⟨by rw [hfd, hfl]; omega, ?_⟩
      rw [show k + m = n - 1 by omega, Nat.zero_add]; exact hK
  have fin : ∀ (ex : Bool), (fun v_15 h_16 => xSl (some v_15) fun a_17 n_18 c_19 e_20 => Zep a_17 n_18 c_19 e_20 3 (some (.int .i64 (((n_18 : Nat) : Int)))) (some (.int .i64 (((n : Nat) : Int)))) none fun v_21 => xSl (some v_21) fun a_22 n_23 c_24 e_25 => Zqj pg Zca h_16 (.slice a_22 n_23 c_24 e_25) fun v_26 h_27 => ∃ f', Zag.slice a_17 n_18 c_19 e_20 = .slice (some (q, 0)) (n - 1) n f' ∧ h_27 = h.set q (.cells Zab (Zbv eN (ys.eraseIdx k) ++ z3) false))
      (.slice (some (q, 0)) (n - 1) n ex) (h.set q (.cells Zab (Zbi (Zbv eN ys) (k * 3) (Zbv eN (ys.drop (k + 1)))) false)) := by
    intro ex
    simp only [Zaf, Zep, Zhc]
    refine ⟨by omega, fun _ => ?_, fun h => absurd (by omega) h⟩
    unfold Zqj
    simp only [Znp, Yhl, Zaq]
    refine ⟨fun h => by omega, fun _ => ?_⟩
    have hT : ∃ R : List Zag, Zbi (Zbv eN ys) (k * 3) (Zbv eN (ys.drop (k + 1))) = (Zbv eN (ys.take k) ++ Zbv eN (ys.drop (k + 1))) ++ R ∧ R.length = 3 := by
      have hfs := Zye (ys := ys) (k := k) (by omega)
      refine ⟨(Zbv eN ys).drop (k * 3 + (Zbv eN (ys.drop (k + 1))).length), ?_, by rw [List.length_drop, hfl, hfd]; omega⟩
      unfold Zbi
      congr 2
      rw [hfs, ← hft, List.take_left']
      rfl
    obtain ⟨R, hR, hRl⟩ := hT
    have hTD : (Zbv eN (ys.take k) ++ Zbv eN (ys.drop (k + 1))).length = (n - 1) * 3 := by rw [List.length_append, hft, hfd]; omega
    rw [hR, show (((n : Nat) : Int) - (((n - 1 : Nat) : Int))).toNat = 1 by omega]
    have hchk : chk (([Zag.str [], .str [], .slice none 0 0 true] : List Zag).all Zag.leaf = true ∧ 0 < ([Zag.str [], .str [], .slice none 0 0 true] : List Zag).length) = fun K => K := by
      funext K; simp [chk]; rfl
    have hset : (h.set q (.cells Zab ((Zbv eN (ys.take k) ++ Zbv eN (ys.drop (k + 1))) ++ R) false))[q]? = some (.cells Zab ((Zbv eN (ys.take k) ++ Zbv eN (ys.drop (k + 1))) ++ R) false) := Zbn hq
    rw [Zbb hset (by simp [reps]; omega)]
    simp only [Zar, List.set_set]
    have hput : Zbi ((Zbv eN (ys.take k) ++ Zbv eN (ys.drop (k + 1))) ++ R) (0 + ((n - 1 : Nat) : Int).toNat * 3) (reps 1 [.str [], .str [], .slice none 0 0 true]) = Zbv eN (ys.eraseIdx k) ++ z3 := by
      unfold Zbi
      rw [Int.toNat_natCast, Nat.zero_add, ← hTD, List.take_left', Zro (by omega)]
      · have hd : ((Zbv eN (ys.take k) ++ Zbv eN (ys.drop (k + 1))) ++ R).drop ((Zbv eN (ys.take k) ++ Zbv eN (ys.drop (k + 1))).length + (reps 1 [.str [], .str [], .slice none 0 0 true]).length) = [] := by
          apply List.drop_of_length_le
          rw [List.length_append, hRl]
          exact Nat.le_refl _
        rw [hd, List.append_nil]; rfl
      · rfl
    rw [hput]
    exact ⟨_, rfl, rfl⟩
  have e0 : Int.toNat 0 * 3 = 0 := rfl
  have tn : ((k : Int) - 0).toNat = k := by omega
  have tc : ((n : Int) - 0).toNat = n := by omega
  rw [e0, tn, tc, Nat.add_zero]
  refine ⟨by omega, ?_, ?_⟩
  · intro hlt
    refine key _ _ _ _ _ ?_ (by omega) _ (fin _)
    have hdr : (Zbv eN ys).drop ((k + 1) * 3) = Zbv eN (ys.drop (k + 1)) := by
      conv => lhs; rw [← List.take_append_drop (k + 1) ys]
      rw [show Zbv eN (ys.take (k + 1) ++ ys.drop (k + 1)) = Zbv eN (ys.take (k + 1)) ++ Zbv eN (ys.drop (k + 1)) by simp only [Zbv, List.flatMap_append]]
      rw [List.drop_left']
      rw [Zaw Zeo, List.length_take, Nat.min_eq_left (by omega)]
    have hm : ((n : Int) - ((k + 1 : Nat) : Int)).toNat = n - (k + 1) := by omega
    have rr : Row h.length h (some (q, 0 + ((k + 1 : Nat) : Int).toNat * 3)) (((n : Int) - ((k + 1 : Nat) : Int)).toNat * 3) (Zbv eN (ys.drop (k + 1))) := by
      rw [hm, Nat.zero_add, Int.toNat_natCast]
      refine ⟨hfd, .inr ⟨q, (k + 1) * 3, _, _, _, rfl, hql, hq, by rw [hfl]; omega, ?_⟩⟩
      rw [hdr, List.take_of_length_le (by rw [hfd]; omega)]
    exact rr.rowOf
  · intro hge
    have hkn : n - (k + 1) = 0 := by omega
    refine key _ _ _ _ _ ?_ (by omega) _ (fin _)
    rw [hkn, Nat.zero_mul] at hfd
    rw [List.eq_nil_of_length_eq_zero hfd]
    rfl
end Go.Sim

set_option linter.unusedVariables false
set_option linter.unusedSimpArgs false
set_option maxRecDepth 20000
namespace Go.Sim
open Go Go.RowKit

def woW (w : Wd) (k : Nat) : Wd := ⟨w.cs, w.is.eraseIdx k⟩
theorem Zwj {h : Zaa} {xs : List EI} {is : List Ins} (r : Zqv h xs is) (k : Nat) : Zqv h (xs.eraseIdx k) (is.eraseIdx k) := by
  refine ⟨by rw [List.length_eraseIdx, List.length_eraseIdx, r.1], fun j x i hx hi => ?_⟩
  rw [List.getElem?_eraseIdx] at hx hi
  split at hx
  · rename_i hj; rw [if_pos hj] at hi; exact r.2 _ _ _ hx hi
  · rename_i hj; rw [if_neg hj] at hi; exact r.2 _ _ _ hx hi
theorem Row.part {b : Nat} {h : Zaa} {i o N : Nat} {cs : List Zag} (r : Row b h (some (i, o)) N cs) {lo len : Nat} (hl : lo + len ≤ N) (hp : len ≠ 0) : Row b h (some (i, o + lo)) len ((cs.drop lo).take len) := by
  obtain ⟨h1, h2⟩ := r
  rcases h2 with h2 | ⟨i', o', t, all, ro, ha, hb, hg, hle, hcs⟩
  · omega
  · cases ha
    refine ⟨by rw [List.length_take, List.length_drop]; omega, .inr ⟨i, o + lo, t, all, ro, rfl, hb, hg, by omega, ?_⟩⟩
    rw [hcs, List.drop_take, List.take_take, List.drop_drop, Nat.min_eq_left (by omega)]
theorem Yby (xs : List EI) (k : Nat) : (Zbv eN xs).take (k * 3) = Zbv eN (xs.take k) := by
  by_cases hk : k ≤ xs.length
  · conv => lhs; rw [← List.take_append_drop k xs]
    rw [show Zbv eN (xs.take k ++ xs.drop k) = Zbv eN (xs.take k) ++ Zbv eN (xs.drop k) by simp only [Zbv, List.flatMap_append], List.take_left']
    rw [Zaw Zeo, List.length_take, Nat.min_eq_left hk]
  · rw [List.take_of_length_le (by rw [Zaw Zeo]; omega), List.take_of_length_le (by omega)]
theorem Zyl (xs : List EI) (k : Nat) : (Zbv eN xs).drop (k * 3) = Zbv eN (xs.drop k) := by
  by_cases hk : k ≤ xs.length
  · conv => lhs; rw [← List.take_append_drop k xs]
    rw [show Zbv eN (xs.take k ++ xs.drop k) = Zbv eN (xs.take k) ++ Zbv eN (xs.drop k) by simp only [Zbv, List.flatMap_append], List.drop_left']
    rw [Zaw Zeo, List.length_take, Nat.min_eq_left hk]
  · rw [List.drop_of_length_le (by rw [Zaw Zeo]; omega), List.drop_of_length_le (by omega)]; rfl
theorem Zzb {h : Zaa} {a : Pt} {i : Nat} {x : Zck} (ha : ∀ i o, a = some (i, o) → ∃ t all ro, h[i]? = some (.cells t all ro) ∧ o ≤ all.length) : rowOf h a 0 = some [] := by
  match a with
  | none => rfl
  | some (i, o) =>
    obtain ⟨t, all, ro, hi, hle⟩ := ha i o rfl
    simp [rowOf, Zbw, hi, hle]
end Go.Sim

set_option linter.unusedVariables false
set_option linter.unusedSimpArgs false
set_option maxRecDepth 20000
namespace Go.Sim
open Go Go.RowKit

theorem Ycv : pg.underlying Zca = some (.slice Zab) := by kernel_rfl
theorem Yhn : pg.cellsOf Zab = 3 := by kernel_rfl
theorem Yib : pg.okElem Zab = true := by kernel_rfl
theorem Yho : pg.bytesOf Zab ≤ 127 := Nat.le_of_ble_eq_true (by kernel_rfl)
theorem Yct : pg.underlying Zhw = some (.slice Zan) := by kernel_rfl
theorem Yhx : pg.cellsOf Zan = 2 := by kernel_rfl
theorem Yia : pg.okElem Zan = true := by kernel_rfl
theorem Yhg : pg.bytesOf Zan ≤ 127 := Nat.le_of_ble_eq_true (by kernel_rfl)
theorem Yij {h : Zaa} {i j : Nat} {t t' : TypeId} {cs cs' : List Zag} {ro ro' : Bool} (hi : h[i]? = some (.cells t cs ro)) (hj : h[j]? = some (.cells t' cs' ro')) (hne : t ≠ t') : i ≠ j := by
  rintro rfl; rw [hi] at hj; injection hj with hj; injection hj with hj _ _; exact hne hj
theorem Ybn {h : Zaa} {a : Pt} {n cp : Nat} {e : Bool} {i : Ins} (r : Row h.length h a (n * 2) (Zbv eP i.2)) (hn : n ≤ 1048576) :
    Zae pg Zfp [.agg [.str i.1.1, .str i.1.2, .slice a n cp e]] h fun v h' => ∃ a' c' e', v = .agg [.str i.1.1, .str i.1.2, .slice a' n c' e'] ∧ Zbd h.length h h' ∧ Zbr Zao eP h.length h' a' n i.2 ∧ a' ≠ none ∧ n ≤ c' := by
  have hl : i.2.length = n := by have := r.1; rw [Zaw Zdq] at this; omega
  apply Zhx.call
  simp only [Zbf]
  generalize hh0 : h ++ [Zck.cells Zab [.str i.1.1, .str i.1.2, .slice a n cp e] false] = h0
  generalize hh1 : h0 ++ [Zck.cells Zab [.str [], .str [], .slice none 0 0 true] false] = h1
  generalize hh2 : h1 ++ [Zck.cells Zao [] false] = h2
  have s0 : Zbd h.length h h0 := by rw [← hh0]; exact Zax
  have s1 : Zbd h0.length h0 h1 := by rw [← hh1]; exact Zax
  have s2 : Zbd h1.length h1 h2 := by rw [← hh2]; exact Zax
  have l0 : h0.length = h.length + 1 := by rw [← hh0]; simp
  have l1 : h1.length = h0.length + 1 := by rw [← hh1]; simp
  have l2 : h2.length = h1.length + 1 := by rw [← hh2]; simp
  have x0 : h0[h.length]? = some (.cells Zab [.str i.1.1, .str i.1.2, .slice a n cp e] false) := by rw [← hh0]; simp
  have y1 : h1[h0.length]? = some (.cells Zab [.str [], .str [], .slice none 0 0 true] false) := by rw [← hh1]; simp
  have z2 : h2[h1.length]? = some (.cells Zao [] false) := by rw [← hh2]; simp
  have x2 := s2.get (s1.get x0 (by omega)) (by omega)
  have y2 := s2.get y1 (by omega)
  have S2 := (s0.cat s1).cat s2
  simp only [Zau x2, Nat.zero_add, List.getElem?_cons_succ, List.getElem?_cons_zero, Zaf]
  refine Vec.app0 (n := 0) z2 Zxa Yey Yfh Yer (by simp) (r.same' S2).rowOf (Zlr (enc := eP) (fun _ => rfl) i.2) (by omega) (fun h3 hl3 hi3 hk3 => ?_)
  have x3 : h3[h.length]? = some (.cells Zab [.str i.1.1, .str i.1.2, .slice a n cp e] false) := by rw [hk3 _ (by omega) (by omega)]; exact x2
  have y3 : h3[h0.length]? = some (.cells Zab [.str [], .str [], .slice none 0 0 true] false) := by rw [hk3 _ (by omega) (by omega)]; exact y2
  simp only [Zaf, Nat.zero_add]
  rw [Zbb x3 (by simp)]
  simp only [Zar, Zbi, List.take_succ_cons, List.take_zero, List.length_cons, List.length_nil, List.drop_succ_cons, List.drop_zero, List.drop_nil, List.cons_append, List.nil_append, List.append_nil]
  rw [Zma (Zbn x3)]
  simp only [Zaq, Zah, Zap, Zal, Zaf]
  have y4 : (h3.set h.length (Zck.cells Zab [.str i.1.1, .str i.1.2, .slice (some (h2.length, 0)) n n false] false))[h0.length]? = some (.cells Zab [.str [], .str [], .slice none 0 0 true] false) := by rw [Zbl (by omega)]; exact y3
  rw [Zbb y4 (by simp)]
  simp only [Zar, Zbi, List.take_zero, List.length_cons, List.length_nil, List.drop_succ_cons, List.drop_zero, List.drop_nil, List.cons_append, List.nil_append, List.append_nil]
  rw [Zma (Zbn y4)]
  simp only [Zaq, Zah, Zap, Zal, Zaf]
  refine ⟨_, _, _, rfl, ⟨by simp; omega, fun j hj => ?_⟩, ⟨hl, .inr ⟨h2.length, rfl, by omega, ?_⟩⟩, by simp, Nat.le_refl _⟩
  · rw [Zbl (by omega), Zbl (by omega), hk3 j (by omega) (by omega)]; exact S2.eq j hj
  · rw [Zbl (by omega), Zbl (by omega), hi3]; simp
theorem Zyy {h : Zaa} {a0 a : Pt} {n0 c0 n cp : Nat} {e : Bool} {w : Wd} (r : Zln h a0 n0 c0 a n cp w) (b : WB w) :
    Zae pg Zeg [.slice a n cp e] h fun v h' => ∃ a' c' e' ys, v = .slice a' n c' e' ∧ n ≤ c' ∧ Zbd h.length h h' ∧ Zbr Zab eN h.length h' a' n ys ∧ ys.length = w.is.length ∧ a' ≠ none ∧
      (∀ (k : Nat) (x : EI) (i : Ins), ys[k]? = some x → w.is[k]? = some i → x.c = i.1.1 ∧ x.t = i.1.2 ∧ Zbr Zao eP h.length h' x.a x.n i.2) ∧
      (∀ (j k : Nat) (x y : EI), j ≠ k → ys[j]? = some x → ys[k]? = some y → x.n ≠ 0 → y.n ≠ 0 → x.a ≠ y.a) ∧ ∀ x ∈ ys, x.a ≠ none := by
  have hl := r.len1
  have hli := b.li
  apply Zcw.call
  simp only [Zbf]
  refine Zcw.L3ind (J := fun (g : Nat) a3 n3 c3 e3 x9 h' => x9 = (g : Int) ∧ g ≤ n ∧ Zbd h.length h h' ∧ ∃ (q : Nat) (ys : List EI), a3 = some (q, 0) ∧ n3 = g ∧ g ≤ c3 ∧ h.length ≤ q ∧ ys.length = g ∧ h'[q]? = some (.cells Zab (Zbv eN ys) false) ∧
      (∀ (k : Nat) (x : EI) (i : Ins), ys[k]? = some x → w.is[k]? = some i → x.c = i.1.1 ∧ x.t = i.1.2 ∧ Zbr Zao eP h.length h' x.a x.n i.2) ∧
      (∀ (j k : Nat) (x y : EI), j ≠ k → ys[j]? = some x → ys[k]? = some y → x.n ≠ 0 → y.n ≠ 0 → x.a ≠ y.a) ∧ ∀ x ∈ ys, x.a ≠ none) (m := fun g => n - g) (hr := ?_) (g := 0)
    (hj := ⟨rfl, by omega, Zbd.app (Nat.le_refl _) _, h.length, [], rfl, rfl, by omega, Nat.le_refl _, rfl, by simp, by simp, by simp, by simp⟩) ..
  rintro g a3 n3 c3 e3 x9 h' ⟨rfl, hg, hs, q, ys, rfl, rfl, hgc, hql, hy, ho, hrep, hsep, hnn⟩ R hR
  unfold Zcw.L3t
  refine Zam (fun hlt => ?_) (fun hge => ?_)
  · obtain ⟨i0, o0, hgl, a2, n2, c2, e2, rfl, hb0, hr, _, _, _, hrow, hn2⟩ := (r.same hs).inst (k := n3) (by omega)
    have hb := b.is _ (List.getElem_mem hgl)
    simp only [Zba, Int.toNat_natCast, hr, Zaq, Zah, Zap, Zal, Zaf, Zbf]
    refine ⟨by omega, ?_⟩
    generalize hh1 : h' ++ [Zck.cells Zab [.str [], .str [], .slice none 0 0 true] false] = h1
    have s1 : Zbd h'.length h' h1 := by rw [← hh1]; exact Zax
    have o1 : h1[h'.length]? = some (.cells Zab [.str [], .str [], .slice none 0 0 true] false) := by rw [← hh1]; simp
    rw [Zbb o1 (by simp)]
    simp only [Zar, Zbi, List.take_zero, List.length_cons, List.length_nil, List.drop_succ_cons, List.drop_zero, List.drop_nil, List.cons_append, List.nil_append, List.append_nil, Nat.zero_add]
    generalize hh2 : h1.set h'.length (Zck.cells Zab [.str w.is[n3].1.1, .str w.is[n3].1.2, .slice a2 n2 c2 e2] false) = h2
    have o2 : h2[h'.length]? = some (.cells Zab [.str w.is[n3].1.1, .str w.is[n3].1.2, .slice a2 n2 c2 e2] false) := by rw [← hh2]; exact Zbn o1
    have s2 : Zbd h'.length h' h2 := by rw [← hh2]; exact s1.set' (Nat.le_refl _)
    rw [Zma o2]
    simp only [Zaq, Zah, Zap, Zal, Zaf]
    refine (Ybn (i := w.is[n3]) (hrow.same' s2) (by omega)).mono ?_
    rintro v h3 ⟨a', c', e', rfl, s3, f3, hnn3, hc3⟩
    simp only [Zdk, Zah, Zap, Zal, Zaf, Zbf]
    have S3 := s2.cat s3
    have hol := Own.lt ho
    have ho3 := S3.get ho hol
    have hle2 := s2.le
    have hle3 := s3.le
    have hlh := hs.le
    refine (Vec.mk1 ho3).pushN Ycv Yhn Yib Yho (by rw [Zaw Zeo, hy]) rfl (by omega) rfl (by omega) (fun h4 hl4 hi4 hk4 => ?_)
    simp only [Zaf]
    rw [Zcd (by omega)]
    have keep : ∀ {a : Pt} {m : Nat} {l : List Nd} {b : Nat}, Zbr Zao eP b h3 a m l → Zbr Zao eP b h4 a m l := fun f => ⟨f.1, f.2.imp id fun ⟨j, ha, hbj, hc⟩ => ⟨j, ha, hbj, by rw [hk4 j (Own.lt hc) (fun j' hj' => by cases hj'; exact Yij hc ho3 (by decide))]; exact hc⟩⟩
    refine hR (n3 + 1) _ _ _ _ _ _ (by omega) ⟨rfl, by omega, ⟨by omega, fun j hj => ?_⟩, h3.length + 1, ys ++ [⟨w.is[n3].1.1, w.is[n3].1.2, a', n2, c', e'⟩], rfl, rfl, Nat.le_refl _, by omega, by simp [hy], by rw [hi4]; simp [eN], ?_, ?_, fun x hx => ?_⟩
    · rw [hk4 j (by omega) (fun j' hj' => by cases hj'; omega), S3.eq j (by omega)]; exact hs.eq j hj
    · intro k x j hx hj
      by_cases hk : k < n3
      · rw [List.getElem?_append_left (by omega)] at hx
        obtain ⟨p1, p2, p3⟩ := hrep k x j hx hj
        exact ⟨p1, p2, keep (p3.same S3)⟩
      · have hkg : k = n3 := by have := (List.getElem?_eq_some_iff.1 hx).1; simp at this; omega
        subst hkg
        rw [List.getElem?_append_right (by omega)] at hx
        simp [hy] at hx
        subst hx
        rw [List.getElem?_eq_getElem hgl] at hj
        cases hj
        exact ⟨rfl, rfl, keep ⟨f3.1, f3.2.imp id fun ⟨j, ha, hbj, hc⟩ => ⟨j, ha, by omega, hc⟩⟩⟩
    · have old : ∀ (k : Nat) (x : EI), k < n3 → ys[k]? = some x → x.n ≠ 0 → n2 ≠ 0 → x.a ≠ a' := by
        intro k x hk hx h0 h2' he
        obtain ⟨_, _, p3⟩ := hrep k x w.is[k] hx (List.getElem?_eq_getElem (by omega))
        obtain ⟨_, p3⟩ := p3
        obtain ⟨_, f3'⟩ := f3
        rcases p3 with p3 | ⟨j, ha, _, hc⟩
        · exact h0 p3
        · rcases f3' with f3' | ⟨j', ha', hb', _⟩
          · exact h2' f3'
          · rw [ha, ha'] at he; cases he; have := Own.lt hc; omega
      intro j k x y hjk hx hy' h0 h0'
      by_cases hj : j < n3 <;> by_cases hk : k < n3
      · rw [List.getElem?_append_left (by omega)] at hx hy'
        exact hsep j k x y hjk hx hy' h0 h0'
      · have hkg : k = n3 := by have := (List.getElem?_eq_some_iff.1 hy').1; simp at this; omega
        subst hkg
        rw [List.getElem?_append_left (by omega)] at hx
        rw [List.getElem?_append_right (by omega)] at hy'
        simp [hy] at hy'
        subst hy'
        exact old j x hj hx h0 h0'
      · have hjg : j = n3 := by have := (List.getElem?_eq_some_iff.1 hx).1; simp at this; omega
        subst hjg
        rw [List.getElem?_append_left (by omega)] at hy'
        rw [List.getElem?_append_right (by omega)] at hx
        simp [hy] at hx
        subst hx
        exact fun he => old k y hk hy' h0' h0 he.symm
      · have := (List.getElem?_eq_some_iff.1 hx).1
        have := (List.getElem?_eq_some_iff.1 hy').1
        simp at *
        omega
    · rcases List.mem_append.1 hx with hx | hx
      · exact hnn x hx
      · rw [List.mem_singleton] at hx; subst hx; exact hnn3
  · apply Zcw.A3x0i
    have : n3 = n := by omega
    subst this
    exact ⟨_, _, _, ys, rfl, hgc, hs, ⟨hy, .inr ⟨q, rfl, hql, ho⟩⟩, by omega, by simp, hrep, hsep, hnn⟩
theorem Zpp {h : Zaa} {a0 a1 : Pt} {n0 c0 n1 c1 : Nat} {e0 e1 : Bool} {w : Wd} (r : Zln h a0 n0 c0 a1 n1 c1 w) (b : WB w) :
    Zae pg Zfh [.agg [.slice a0 n0 c0 e0, .slice a1 n1 c1 e1]] h fun v h' => ∃ b0 d0 f0 b1 d1 f1 ys, v = .agg [.slice b0 n0 d0 f0, .slice b1 n1 d1 f1] ∧ Zbd h.length h h' ∧ Zgu h.length h' b0 n0 b1 n1 ys w ∧ n0 ≤ d0 ∧ n1 ≤ d1 ∧ b0 ≠ none ∧ b1 ≠ none := by
  have hl0 := r.len0
  have hlc := b.lc
  apply Zjk.call
  simp only [Zbf]
  generalize hh0 : h ++ [Zck.cells Zac [.slice a0 n0 c0 e0, .slice a1 n1 c1 e1] false] = h0
  generalize hh1 : h0 ++ [Zck.cells Zac [.slice none 0 0 true, .slice none 0 0 true] false] = h1
  generalize hh2 : h1 ++ [Zck.cells Zan [] false] = h2
  have s0 : Zbd h.length h h0 := by rw [← hh0]; exact Zax
  have s1 : Zbd h0.length h0 h1 := by rw [← hh1]; exact Zax
  have s2 : Zbd h1.length h1 h2 := by rw [← hh2]; exact Zax
  have l0 : h0.length = h.length + 1 := by rw [← hh0]; simp
  have l1 : h1.length = h0.length + 1 := by rw [← hh1]; simp
  have l2 : h2.length = h1.length + 1 := by rw [← hh2]; simp
  have x0 : h0[h.length]? = some (.cells Zac [.slice a0 n0 c0 e0, .slice a1 n1 c1 e1] false) := by rw [← hh0]; simp
  have y1 : h1[h0.length]? = some (.cells Zac [.slice none 0 0 true, .slice none 0 0 true] false) := by rw [← hh1]; simp
  have z2 : h2[h1.length]? = some (.cells Zan [] false) := by rw [← hh2]; simp
  have x2 := s2.get (s1.get x0 (by omega)) (by omega)
  have y2 := s2.get y1 (by omega)
  have S2 := (s0.cat s1).cat s2
  simp only [Zau x2, Nat.zero_add, List.getElem?_cons_succ, List.getElem?_cons_zero, Zaf]
  refine Vec.app0 (n := 0) z2 Yct Yhx Yia Yhg (by simp) ((r.same S2).cls.rowOf) (Zlr (enc := eP) (fun _ => rfl) w.cs) (by omega) (fun h3 hl3 hi3 hk3 => ?_)
  have x3 : h3[h.length]? = some (.cells Zac [.slice a0 n0 c0 e0, .slice a1 n1 c1 e1] false) := by rw [hk3 _ (by omega) (by omega)]; exact x2
  have y3 : h3[h0.length]? = some (.cells Zac [.slice none 0 0 true, .slice none 0 0 true] false) := by rw [hk3 _ (by omega) (by omega)]; exact y2
  have S3 : Zbd h.length h h3 := ⟨by omega, fun j hj => by rw [hk3 j (by omega) (by omega)]; exact S2.eq j hj⟩
  simp only [Zaf, Nat.zero_add]
  rw [Zbb x3 (by simp)]
  simp only [Zar, Zbi, List.take_zero, List.length_cons, List.length_nil, List.drop_succ_cons, List.drop_zero, List.drop_nil, List.cons_append, List.nil_append, List.append_nil]
  generalize hh4 : h3.set h.length (Zck.cells Zac [.slice (some (h2.length, 0)) n0 n0 false, .slice a1 n1 c1 e1] false) = h4
  have x4 : h4[h.length]? = some (.cells Zac [.slice (some (h2.length, 0)) n0 n0 false, .slice a1 n1 c1 e1] false) := by rw [← hh4]; exact Zbn x3
  have y4 : h4[h0.length]? = some (.cells Zac [.slice none 0 0 true, .slice none 0 0 true] false) := by rw [← hh4, Zbl (by omega)]; exact y3
  have z4 : h4[h2.length]? = some (.cells Zan (Zbv eP w.cs) false) := by rw [← hh4, Zbl (by omega), hi3]; simp
  have S4 : Zbd h.length h h4 := by rw [← hh4]; exact S3.set' (Nat.le_refl _)
  have l4 : h4.length = h3.length := by rw [← hh4]; simp
  simp only [Zau x4, List.getElem?_cons_succ, List.getElem?_cons_zero, Zaf]
  refine (Zyy (r.same S4) b).mono ?_
  rintro v h5 ⟨b1, d1, f1, ys, rfl, hd1, s5, g5, hyl, hbn, hrep, hsep, hnn⟩
  simp only [Zaf]
  have l5 := s5.le
  have x5 := s5.get x4 (by omega)
  have y5 := s5.get y4 (by omega)
  have z5 := s5.get z4 (by omega)
  rw [Zbb x5 (by simp)]
  simp only [Zar, Zbi, List.take_succ_cons, List.take_zero, List.length_cons, List.length_nil, List.drop_succ_cons, List.drop_zero, List.drop_nil, List.cons_append, List.nil_append, List.append_nil]
  rw [Zch (Zbn x5)]
  simp only [Zaq, Zah, Zap, Zaf]
  have y6 : (h5.set h.length (Zck.cells Zac [.slice (some (h2.length, 0)) n0 n0 false, .slice b1 n1 d1 f1] false))[h0.length]? = some (.cells Zac [.slice none 0 0 true, .slice none 0 0 true] false) := by rw [Zbl (by omega)]; exact y5
  rw [Zbb y6 (by simp)]
  simp only [Zar, Zbi, List.take_zero, List.length_cons, List.length_nil, List.drop_succ_cons, List.drop_zero, List.drop_nil, List.cons_append, List.nil_append, List.append_nil]
  rw [Zch (Zbn y6)]
  simp only [Zaq, Zah, Zap, Zaf]
  have kp : ∀ j, h2.length ≤ j → ((h5.set h.length (Zck.cells Zac [.slice (some (h2.length, 0)) n0 n0 false, .slice b1 n1 d1 f1] false)).set h0.length (Zck.cells Zac [.slice (some (h2.length, 0)) n0 n0 false, .slice b1 n1 d1 f1] false))[j]? = h5[j]? := fun j hj => by rw [Zbl (by omega), Zbl (by omega)]
  refine ⟨_, _, _, _, _, _, ys, rfl, ⟨by simp; omega, fun j hj => ?_⟩, ⟨⟨hl0, .inr ⟨h2.length, rfl, by omega, by rw [kp _ (Nat.le_refl _)]; exact z5⟩⟩, g5.keep (by omega) fun j hj _ => kp j (by omega), hyl, fun k x i hx hi => ?_, hsep, hnn⟩, Nat.le_refl _, hd1, by simp, hbn⟩
  · rw [Zbl (by omega), Zbl (by omega), s5.eq j (by omega)]; exact S4.eq j hj
  · obtain ⟨p1, p2, p3⟩ := hrep k x i hx hi
    exact ⟨p1, p2, p3.keep (by omega) fun j hj _ => kp j (by omega)⟩
end Go.Sim
