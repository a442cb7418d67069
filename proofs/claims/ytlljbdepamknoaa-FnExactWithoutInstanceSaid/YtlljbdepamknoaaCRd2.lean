/- A part of the proof of a statement of this seat: see the text that holds the theorem. No condition. -/
import Derived.Test.YtlljbdepamknoaaPTCWLaw2
import Derived.Test.YtlljbdepamknoaaCOwn
import Derived.Test.YtlljbdepamknoaaNm
import Derived.Test.YtlljbdepamknoaaCLawI
set_option linter.unusedVariables false
set_option linter.unusedSimpArgs false
set_option linter.all false
set_option linter.unusedVariables false
set_option linter.unusedSimpArgs false
set_option maxRecDepth 20000
namespace Go.Sim
open Go Go.RowKit

def Yfe (ys : List EI) (g : Nat) : Nat := ((ys.take g).map (·.n)).sum
theorem Ztq {ys : List EI} {g : Nat} (hg : g < ys.length) : Yfe ys (g + 1) = Yfe ys g + ys[g].n := by
  unfold Yfe
  rw [List.take_succ_eq_append_getElem hg, List.map_append, List.sum_append]; simp
theorem Zvz {ys : List EI} (h : ∀ x ∈ ys, x.n ≤ 1048576) : ∀ g, g ≤ ys.length → Yfe ys g ≤ g * 1048576
  | 0, _ => by simp [Yfe]
  | g + 1, hg => by
    have := Zvz h g (by omega)
    have h2 := h _ (List.getElem_mem (show g < ys.length by omega))
    rw [Ztq (by omega)]; omega
def KI (k : Int) (ys : List EI) (g : Nat) : Int := k + 2 * ((g : Int) + (Yfe ys g : Nat))
theorem Ybv {k : Int} {ys : List EI} {g : Nat} (hg : g < ys.length) : KI k ys (g + 1) = KI k ys g + 2 + 2 * (ys[g].n : Nat) := by
  unfold KI; rw [Ztq hg]; push_cast; omega
def MkI (b : Nat) (h : Zaa) (a : Pt) (n : Nat) (ys : List EI) (k : Int) : Prop := n = 0 ∨ ∃ i cs, a = some (i, 0) ∧ b ≤ i ∧ h[i]? = some (.cells Zab cs false) ∧ n * 3 ≤ cs.length ∧
  ∀ (q : Nat) (x : EI), ys[q]? = some x → cs[q * 3]? = some (.str (Zfj (KI k ys q))) ∧ cs[q * 3 + 1]? = some (.str (Zfj (KI k ys q + 1))) ∧ cs[q * 3 + 2]? = some (.slice x.a x.n x.cp x.e) ∧ Zbr Zao eP b h x.a x.n (Zgs (KI k ys q + 2) x.n)
theorem MkI.same {b : Nat} {h h' : Zaa} {a : Pt} {n : Nat} {ys : List EI} {k : Int} (m : MkI b h a n ys k) (s : Zbd h.length h h') : MkI b h' a n ys k :=
  m.imp id fun ⟨i, cs, h1, h2, h3, h4, h5⟩ => ⟨i, cs, h1, h2, s.get h3 (Own.lt h3), h4, fun q x hx => ⟨(h5 q x hx).1, (h5 q x hx).2.1, (h5 q x hx).2.2.1, (h5 q x hx).2.2.2.same s⟩⟩
def UnI (b : Nat) (h : Zaa) (a : Pt) (n : Nat) (ys : List EI) : Prop := n = 0 ∨ ∃ i cs, a = some (i, 0) ∧ b ≤ i ∧ h[i]? = some (.cells Zab cs false) ∧ n * 3 ≤ cs.length ∧ ∀ (q : Nat) (x : EI), ys[q]? = some x → cs[q * 3 + 2]? = some (.slice x.a x.n x.cp x.e)
theorem Ydi {h : Zaa} {b n c : Nat} {e : Bool} {a : Pt} {ys : List EI} {k : Int} (hyl : ys.length = n) (hn20 : n ≤ 1048576) (un : UnI b h a n ys) (h20 : ∀ x ∈ ys, x.n ≤ 1048576)
    (hN : ∀ (q : Nat) (x : EI), ys[q]? = some x → ∃ l, Zbr Zao eP b h x.a x.n l) (sep : ∀ (j k : Nat) (x y : EI), j ≠ k → ys[j]? = some x → ys[k]? = some y → x.n ≠ 0 → y.n ≠ 0 → x.a ≠ y.a)
    (hk : 0 ≤ k ∧ k ≤ 4398046511104) : Zae pg Zeh [.slice a n c e, .int .i64 k] h fun v h' => v = .int .i64 (KI k ys n) ∧ Zbd b h h' ∧ MkI b h' a n ys k ∧ ∀ (j : Nat) (ty : TypeId) (cs : List Zag), ty ≠ Zab → ty ≠ Zao → h[j]? = some (Zck.cells ty cs false) → h'[j]? = some (Zck.cells ty cs false) := by
  apply Zci.call
  refine Zci.L2ind (J := fun (g : Nat) x1 x5 h' => x5 = (g : Int) ∧ g ≤ n ∧ x1 = KI k ys g ∧ (h.length ≤ h'.length ∧ (∀ j, j < b → h'[j]? = h[j]?) ∧ ∀ (j : Nat) (ty : TypeId) (cs : List Zag), ty ≠ Zab → ty ≠ Zao → h[j]? = some (Zck.cells ty cs false) → h'[j]? = some (Zck.cells ty cs false)) ∧
      (n = 0 ∨ ∃ i cs, a = some (i, 0) ∧ b ≤ i ∧ h'[i]? = some (.cells Zab cs false) ∧ n * 3 ≤ cs.length ∧ (∀ (q : Nat) (x : EI), ys[q]? = some x → cs[q * 3 + 2]? = some (.slice x.a x.n x.cp x.e)) ∧
        ∀ (q : Nat) (x : EI), q < g → ys[q]? = some x → cs[q * 3]? = some (.str (Zfj (KI k ys q))) ∧ cs[q * 3 + 1]? = some (.str (Zfj (KI k ys q + 1)))) ∧
      (∀ (q : Nat) (x : EI), q < g → ys[q]? = some x → Zbr Zao eP b h' x.a x.n (Zgs (KI k ys q + 2) x.n)) ∧
      (∀ (q : Nat) (x : EI), g ≤ q → ys[q]? = some x → ∃ l, Zbr Zao eP b h' x.a x.n l)) (m := fun g => n - g) (hr := ?_) (g := 0)
    (hj := ⟨rfl, by omega, by simp [KI, Yfe], ⟨Nat.le_refl _, fun _ _ => rfl, fun _ _ _ _ _ h => h⟩, un.imp id fun ⟨i, cs, h1, h2, h3, h4, h5⟩ => ⟨i, cs, h1, h2, h3, h4, h5, fun q x hq => absurd hq (by omega)⟩, fun q x hq => absurd hq (by omega), fun q x _ hx => hN q x hx⟩) ..
  rintro g x1 x5 h' ⟨rfl, hg, rfl, ⟨hle, hsb, hot⟩, hst, hdone, htodo⟩ R hR
  have hns := Zvz h20 g (by omega)
  have hK : 0 ≤ KI k ys g ∧ KI k ys g ≤ 4398046511104 + 2 * (1048576 + 1048576 * 1048576) := by unfold KI; have : g * 1048576 ≤ 1048576 * 1048576 := Nat.mul_le_mul_right _ (by omega); omega
  unfold Zci.L2t
  refine Zam (fun hlt => ?_) (fun hge => ?_)
  · rcases hst with hz | ⟨i, cs, rfl, hbi, hi, hcl, hsl, hmk⟩
    · omega
    have hgy : g < ys.length := by omega
    have hx20 := h20 _ (List.getElem_mem hgy)
    generalize hx1 : KI k ys g = x1 at hK
    refine (Zdi (by omega)).mono ?_
    rintro v h1 ⟨rfl, s1⟩
    simp only [Zal, Zba, Int.toNat_natCast, Nat.zero_add, Nat.add_zero]
    have i1 := s1.get hi (Own.lt hi)
    rw [Zbb i1 (by simp; omega), Zsz (by omega)]
    simp only [Zar]
    refine ⟨by omega, (Zdi (by rw [IntWalk.i64_in _ (by omega)]; omega)).mono ?_⟩
    rintro v h2 ⟨rfl, s2⟩
    simp only [Zal]
    have i2 := s2.get (Zbn i1 (x := .cells Zab (cs.set (g * 3) (.str (Zfj x1))) false)) (by simp; exact Own.lt i1)
    rw [Zbb i2 (by rw [List.length_set]; simp; omega), Zsz (by rw [List.length_set]; omega)]
    simp only [Zar]
    have i3 := Zbn i2 (x := .cells Zab ((cs.set (g * 3) (.str (Zfj x1))).set (g * 3 + 1) (.str (Zfj (IntKind.wrap .i64 (x1 + 1))))) false)
    have hcell : ((cs.set (g * 3) (.str (Zfj x1))).set (g * 3 + 1) (.str (Zfj (IntKind.wrap .i64 (x1 + 1)))))[g * 3 + 2]? = some (.slice ys[g].a ys[g].n ys[g].cp ys[g].e) := by
      rw [List.getElem?_set_ne (by omega), List.getElem?_set_ne (by omega)]
      exact hsl g ys[g] (List.getElem?_eq_getElem hgy)
    refine ⟨by omega, by omega, ?_⟩
    rw [Zau i3, hcell]
    simp only [Zaf]
    rw [IntWalk.i64_in (x1 + 1) (by omega), IntWalk.i64_in (x1 + 1 + 1) (by omega)] at *
    generalize hcs : (cs.set (g * 3) (.str (Zfj x1))).set (g * 3 + 1) (.str (Zfj (x1 + 1))) = cs3 at *
    generalize hh3 : h2.set i (.cells Zab cs3 false) = h3 at *
    have le1 := s1.le
    have le2 := s2.le
    have hil := Own.lt hi
    have l2 : h2.length = h3.length := by rw [← hh3]; simp
    have oth : ∀ j, j ≠ i → j < h'.length → h3[j]? = h'[j]? := fun j hj hjl => by
      rw [← hh3, Zbl (Ne.symm hj), s2.eq j (by simp; omega), Zbl (Ne.symm hj), s1.eq j hjl]
    simp at le2
    have keep3 : ∀ {x : EI} {l : List Nd}, Zbr Zao eP b h' x.a x.n l → Zbr Zao eP b h3 x.a x.n l := fun p => p.off fun j ha hn hj => oth j (fun e => by
      subst e
      rcases p.2 with h0 | ⟨j', ha', _, hj'⟩
      · exact hn h0
      · rw [ha] at ha'; cases ha'
        exact Zjf hi hj' Ydu rfl) hj
    obtain ⟨l, pg0⟩ := htodo g ys[g] (Nat.le_refl _) (List.getElem?_eq_getElem hgy)
    have p1 := keep3 pg0
    refine (Zos p1 (k := x1 + 1 + 1) (by omega)).mono ?_
    rintro v h4 ⟨rfl, o4, f4⟩
    simp only [Zbe]
    rw [Zcd (by omega)]
    have i4 : h4[i]? = some (.cells Zab cs3 false) := by
      rw [o4.2 i (Own.lt i3) fun j hj hn => ?_]; exact i3
      rcases p1.2 with h0 | ⟨j', ha', _, hj'⟩
      · exact absurd h0 hn
      · rw [hj] at ha'; cases ha'
        exact Zjf i3 hj' Ydu
    have keep4 : ∀ {q : Nat} {x : EI} {l : List Nd}, q ≠ g → ys[q]? = some x → Zbr Zao eP b h' x.a x.n l → Zbr Zao eP b h4 x.a x.n l := fun hq hx p => (keep3 p).off fun j ha hn hj => o4.2 j hj fun q' hq' h0 => by
      intro e; subst e
      exact sep g _ ys[g] _ (Ne.symm hq) (List.getElem?_eq_getElem hgy) hx h0 hn (by rw [hq', ha])
    have hKs := Ybv (k := k) hgy
    rw [hx1] at hKs
    have o41 := o4.1
    refine hR (g + 1) _ _ _ (by omega) ⟨rfl, by omega, by rw [hKs]; omega, ⟨by omega, fun j hj => ?_, fun j ty cs' h1 h2 hj => ?_⟩, .inr ⟨i, cs3, rfl, hbi, i4, by rw [← hcs]; simp; exact hcl, fun q x hx => ?_, fun q x hq hx => ?_⟩, fun q x hq hx => ?_, fun q x hq hx => ?_⟩
    · have hbl : j < h'.length := by omega
      rw [o4.2 j (by omega) fun q hq h0 => ?_, oth j (by omega) hbl]
      · exact hsb j hj
      · rcases p1.2 with hz | ⟨j', ha', hb', _⟩
        · exact absurd hz h0
        · rw [hq] at ha'; cases ha'; omega
    · have h9 := hot j ty cs' h1 h2 hj
      have hjl := Own.lt h9
      rw [o4.2 j (by omega) fun q hq h0 => ?_, oth j (Zjf h9 hi h1) hjl]
      · exact h9
      · rcases pg0.2 with hz | ⟨j', ha', hb', hc'⟩
        · exact absurd hz h0
        · rw [hq] at ha'; cases ha'; exact Zjf h9 hc' h2
    · rw [← hcs, List.getElem?_set_ne (by omega), List.getElem?_set_ne (by omega)]
      exact hsl q x hx
    · by_cases hqg : q = g
      · subst hqg
        rw [← hcs, hx1]
        refine ⟨?_, ?_⟩
        · rw [List.getElem?_set_ne (by omega), List.getElem?_set_self (by omega)]
        · rw [List.getElem?_set_self (by rw [List.length_set]; omega)]
      · rw [← hcs]
        rw [List.getElem?_set_ne (by omega), List.getElem?_set_ne (by omega), List.getElem?_set_ne (by omega), List.getElem?_set_ne (by omega)]
        exact hmk q x (by omega) hx
    · by_cases hqg : q = g
      · subst hqg
        rw [List.getElem?_eq_getElem hgy] at hx; cases hx
        rw [hx1]
        rw [show x1 + 2 = x1 + 1 + 1 by omega]; exact f4
      · exact keep4 hqg hx (hdone q x (by omega) hx)
    · obtain ⟨l', p'⟩ := htodo q x (by omega) hx
      exact ⟨l', keep4 (by omega) hx p'⟩
  · apply Zci.A2x0i
    have hgn : g = n := by omega
    subst hgn
    refine ⟨rfl, ⟨hle, hsb⟩, hst.imp id fun ⟨i, cs, h1, h2, h3, h4, h5, h6⟩ => ⟨i, cs, h1, h2, h3, h4, fun q x hx => ?_⟩, hot⟩
    have hq : q < g := by have := (List.getElem?_eq_some_iff.1 hx).1; omega
    exact ⟨(h6 q x hq hx).1, (h6 q x hq hx).2, h5 q x hx, hdone q x hq hx⟩
theorem Yeh {h : Zaa} {b n c : Nat} {e : Bool} {a : Pt} {ys : List EI} {k : Int} (hyl : ys.length = n) (hn20 : n ≤ 1048576) (h20 : ∀ x ∈ ys, x.n ≤ 1048576) (m : MkI b h a n ys k) (hk : 0 ≤ k ∧ k ≤ 4398046511104) :
    Zae pg Zfw [.slice a n c e, .int .i64 k] h fun v h' => v = .int .i64 (KI k ys n) ∧ Zbd h.length h h' := by
  apply Zds.call
  refine Zds.L2ind (J := fun (g : Nat) x1 x5 h' => x5 = (g : Int) ∧ g ≤ n ∧ x1 = KI k ys g ∧ Zbd h.length h h') (m := fun g => n - g) (hr := ?_) (g := 0) (hj := ⟨rfl, by omega, by simp [KI, Yfe], Zbd.refl _ _⟩) ..
  rintro g x1 x5 h' ⟨rfl, hg, rfl, hS⟩ R hR
  have hns := Zvz h20 g (by omega)
  have hK : 0 ≤ KI k ys g ∧ KI k ys g ≤ 4398046511104 + 2 * (1048576 + 1048576 * 1048576) := by unfold KI; have : g * 1048576 ≤ 1048576 * 1048576 := Nat.mul_le_mul_right _ (by omega); omega
  unfold Zds.L2t
  refine Zam (fun hlt => ?_) (fun hge => ?_)
  · rcases m.same hS with hz | ⟨i, cs, rfl, hbi, hi, hcl, hq⟩
    · omega
    have hgy : g < ys.length := by omega
    have hx20 := h20 _ (List.getElem_mem hgy)
    obtain ⟨q1, q2, q3, q4⟩ := hq g ys[g] (List.getElem?_eq_getElem hgy)
    have hKs := Ybv (k := k) hgy
    generalize hx1 : KI k ys g = x1 at *
    simp only [Zba, Int.toNat_natCast, Zau hi, Nat.zero_add, Nat.add_zero, q1, Zal]
    refine ⟨by omega, (Zdi (by omega)).mono ?_⟩
    rintro v h1 ⟨rfl, s1⟩
    have i1 := s1.get hi (Own.lt hi)
    simp only [Zal, Zau i1, q1, q2, decide_true, Bool.not_true, Zbj, true_and]
    refine ⟨by omega, (Zdi (by rw [IntWalk.i64_in _ (by omega)]; omega)).mono ?_⟩
    rintro v h2 ⟨rfl, s2⟩
    have i2 := s2.get i1 (Own.lt i1)
    rw [IntWalk.i64_in (x1 + 1) (by omega)]
    simp only [Zal, Zau i2, q2, q3, decide_true, Bool.not_true, Zbj, true_and, Zaf]
    rw [IntWalk.i64_in (x1 + 1 + 1) (by omega)]
    have q4' := (q4.same s1).same s2
    rw [show x1 + 2 = x1 + 1 + 1 by omega] at q4'
    refine ⟨by omega, (Zua (q4'.row Zdq) (by omega)).mono ?_⟩
    rintro v h3 ⟨rfl, s3⟩
    simp only [Zbe]
    refine Zam (fun hneg => by omega) (fun _ => ?_)
    rw [Zcd (by omega)]
    exact hR (g + 1) _ _ _ (by omega) ⟨rfl, by omega, by rw [hKs]; omega, ((hS.cat s1).cat s2).cat s3⟩
  · apply Zds.A2x0i
    have hgn : g = n := by omega
    subst hgn
    exact ⟨rfl, hS⟩
structure Zvl (b : Nat) (h : Zaa) (a0 : Pt) (n0 : Nat) (a1 : Pt) (n1 : Nat) (ys : List EI) (w : Wd) : Prop where
  cls : Zbr Zan eP b h a0 n0 w.cs
  ins : n1 = 0 ∨ ∃ i tl, a1 = some (i, 0) ∧ b ≤ i ∧ h[i]? = some (.cells Zab (Zbv eN ys ++ tl) false)
  len : ys.length = n1
  wl : w.is.length = n1
  need : ∀ (k : Nat) (x : EI) (i : Ins), ys[k]? = some x → w.is[k]? = some i → x.c = i.1.1 ∧ x.t = i.1.2 ∧ Zbr Zao eP b h x.a x.n i.2
  sep : ∀ (j k : Nat) (x y : EI), j ≠ k → ys[j]? = some x → ys[k]? = some y → x.n ≠ 0 → y.n ≠ 0 → x.a ≠ y.a
theorem Zvl.same {b : Nat} {h h' : Zaa} {a0 a1 : Pt} {n0 n1 : Nat} {xs : List EI} {w : Wd} (f : Zvl b h a0 n0 a1 n1 xs w) (s : Zbd h.length h h') : Zvl b h' a0 n0 a1 n1 xs w :=
  ⟨f.cls.same s, f.ins.imp id fun ⟨i, tl, h1, h2, h3⟩ => ⟨i, tl, h1, h2, s.get h3 (Own.lt h3)⟩, f.len, f.wl, fun k x i hx hi => ⟨(f.need k x i hx hi).1, (f.need k x i hx hi).2.1, (f.need k x i hx hi).2.2.same s⟩, f.sep⟩
theorem Zvl.above {b : Nat} {h h' : Zaa} {a0 a1 : Pt} {n0 n1 : Nat} {xs : List EI} {w : Wd} (f : Zvl b h a0 n0 a1 n1 xs w) (hk : ∀ i, b ≤ i → i < h.length → h'[i]? = h[i]?) : Zvl b h' a0 n0 a1 n1 xs w :=
  ⟨f.cls.keep (Nat.le_refl _) hk, f.ins.imp id fun ⟨i, tl, h1, h2, h3⟩ => ⟨i, tl, h1, h2, by rw [hk i h2 (Own.lt h3)]; exact h3⟩, f.len, f.wl, fun k x i hx hi => ⟨(f.need k x i hx hi).1, (f.need k x i hx hi).2.1, (f.need k x i hx hi).2.2.keep (Nat.le_refl _) hk⟩, f.sep⟩
theorem Zvl.rep {b : Nat} {h : Zaa} {a0 a1 : Pt} {n0 c0 n1 c1 : Nat} {xs : List EI} {w : Wd} (f : Zvl b h a0 n0 a1 n1 xs w) (h0 : n0 ≤ c0) (h1 : n1 ≤ c1) : Zln h a0 n0 c0 a1 n1 c1 w := by
  have hfe : (Zbv eN xs).length = n1 * 3 := by rw [Zaw Zeo, f.len]
  refine ⟨f.cls.row Zdq, ⟨xs, ⟨hfe, ?_⟩, by rw [f.len, f.wl], fun k x i hx hi => ⟨(f.need k x i hx hi).1, (f.need k x i hx hi).2.1, (f.need k x i hx hi).2.2.row Zdq⟩⟩, h0, h1⟩
  rcases f.ins with hz | ⟨i, tl, rfl, hb, hi⟩
  · left; omega
  · refine .inr ⟨i, 0, _, _, _, rfl, Own.lt hi, hi, by rw [List.length_append, hfe]; omega, ?_⟩
    rw [List.drop_zero, ← hfe, List.take_left']; rfl
theorem Zvl.small {b : Nat} {h : Zaa} {a0 a1 : Pt} {n0 n1 : Nat} {xs : List EI} {w : Wd} (f : Zvl b h a0 n0 a1 n1 xs w) (hb : WB w) : ∀ x ∈ xs, x.n ≤ 1048576 := by
  intro x hx
  obtain ⟨q, hq, rfl⟩ := List.mem_iff_getElem.1 hx
  have hqi : q < w.is.length := by rw [f.wl, ← f.len]; exact hq
  have := (f.need q _ _ (List.getElem?_eq_getElem hq) (List.getElem?_eq_getElem hqi)).2.2.1
  have := (hb.is _ (List.getElem_mem hqi)).2.2.1
  omega
def MkW (b : Nat) (h : Zaa) (a0 : Pt) (n0 : Nat) (a1 : Pt) (n1 : Nat) (ys : List EI) : Prop := Zbr Zan eP b h a0 n0 (Zgs 1 n0) ∧ MkI b h a1 n1 ys (1 + 2 * (n0 : Int))
theorem MkW.same {b : Nat} {h h' : Zaa} {a0 a1 : Pt} {n0 n1 : Nat} {ys : List EI} (m : MkW b h a0 n0 a1 n1 ys) (s : Zbd h.length h h') : MkW b h' a0 n0 a1 n1 ys := ⟨m.1.same s, m.2.same s⟩
theorem Yfc {k : Int} {ys : List EI} {n : Nat} (hk : 0 ≤ k) : 0 ≤ KI k ys n := by unfold KI; omega
theorem Zsh {h : Zaa} {b n0 c0 n1 c1 : Nat} {e0 e1 : Bool} {a0 a1 : Pt} {ys : List EI} {w : Wd} (f : Zvl b h a0 n0 a1 n1 ys w) (hb : WB w) (hbl : b ≤ h.length) :
    Zae pg Zev [.agg [.slice a0 n0 c0 e0, .slice a1 n1 c1 e1], .int .i64 1] h fun v h' => v = .int .i64 (KI (1 + 2 * (n0 : Int)) ys n1) ∧ Zbd b h h' ∧ MkW b h' a0 n0 a1 n1 ys ∧ ∀ (j : Nat) (cs : List Zag), h[j]? = some (Zck.cells Zac cs false) → h'[j]? = some (Zck.cells Zac cs false) := by
  have hl0 := f.cls.1
  have hlc := hb.lc
  have hli := hb.li
  have hyl := f.len
  have hwl := f.wl
  apply Zie.call
  simp only [Zbf]
  generalize hh0 : h ++ [Zck.cells Zac [.slice a0 n0 c0 e0, .slice a1 n1 c1 e1] false] = h0
  have s0 : Zbd h.length h h0 := by rw [← hh0]; exact Zax
  have w0 : h0[h.length]? = some (Zmt a0 n0 c0 e0 a1 n1 c1 e1) := by rw [← hh0]; simp [Zmt]
  have w0l := Own.lt w0
  simp only [Zgt w0, Nat.zero_add, List.getElem?_cons_succ, List.getElem?_cons_zero, Zaf]
  have f0 := f.same s0
  refine (Zmr f0.cls (by omega)).mono ?_
  rintro v h2 ⟨rfl, o2, g2⟩
  simp only [Zbe]
  have hin := f.cls.in
  have hin0 := f0.cls.in
  have w2 : h2[h.length]? = some (Zmt a0 n0 c0 e0 a1 n1 c1 e1) := by
    rw [o2.2 _ (Own.lt w0) fun j hj hn => by have := (hin j hj hn).2; omega]; exact w0
  simp only [Zgt w2, Nat.zero_add, List.getElem?_cons_succ, List.getElem?_cons_zero, Zaf]
  have offC : ∀ {i : Nat} {ty : TypeId} {cs : List Zag}, ty ≠ Zan → h0[i]? = some (.cells ty cs false) → h2[i]? = some (.cells ty cs false) := fun {i ty cs} hty hi => by
    rw [o2.2 i (Own.lt hi) fun q hq h0 e => ?_]; exact hi
    subst e
    rcases f0.cls.2 with hz | ⟨j', ha', _, hj''⟩
    · exact h0 hz
    · rw [hq] at ha'; cases ha'
      exact Zjf hi hj'' hty rfl
  have n1' : Zab ≠ Zan := by decide
  have n2' : Zao ≠ Zan := by decide
  have un : UnI b h2 a1 n1 ys := f0.ins.imp id fun ⟨i, tl, h1, h2', h3⟩ => by
    refine ⟨i, _, h1, h2', offC n1' h3, by rw [List.length_append, Zaw Zeo, hyl]; omega, fun q x hx => ?_⟩
    have hq := (List.getElem?_eq_some_iff.1 hx).1
    rw [List.getElem?_append_left (by rw [Zaw Zeo]; omega)]
    have hd := Zsw Zeo ys q
    have h2 : (Zbv eN ys)[q * 3 + 2]? = ((Zbv eN ys).drop (q * 3))[2]? := by rw [List.getElem?_drop]
    rw [h2, hd, List.drop_eq_getElem_cons hq, Zem]
    have : ys[q] = x := by rw [List.getElem?_eq_getElem hq] at hx; exact Option.some.inj hx
    rw [this]; rfl
  refine (Ydi hyl (by omega) un (f.small hb) (fun q x hx => ?_) f.sep (k := 1 + 2 * (n0 : Int)) (by omega)).mono ?_
  · have hq := (List.getElem?_eq_some_iff.1 hx).1
    have hqi : q < w.is.length := by omega
    obtain ⟨_, _, p⟩ := f0.need q x _ hx (List.getElem?_eq_getElem hqi)
    exact ⟨_, p.1, p.2.imp id fun ⟨j, ha, hbj, hc⟩ => ⟨j, ha, hbj, offC n2' hc⟩⟩
  rintro v h3 ⟨rfl, s3, mk, oth⟩
  simp only [Zbe]
  have le2 := o2.1
  have le0 := s0.le
  refine ⟨by trivial, ⟨by have := s3.le; omega, fun j hj => ?_⟩, ⟨?_, mk⟩, fun j cs hj => oth j _ _ (by decide) (by decide) (offC (by decide) (s0.get hj (Own.lt hj)))⟩
  · rw [s3.eq j hj, o2.2 j (by omega) fun q hq hn => by have := (hin0 q hq hn).1; omega, s0.eq j (by omega)]
  · exact ⟨g2.1, g2.2.imp id fun ⟨i, ha, hb', hc⟩ => ⟨i, ha, hb', oth i _ _ (by decide) (by decide) hc⟩⟩
theorem Znl {h : Zaa} {b n0 c0 n1 c1 : Nat} {e0 e1 : Bool} {a0 a1 : Pt} {ys : List EI} (m : MkW b h a0 n0 a1 n1 ys) (hyl : ys.length = n1) (hn0 : n0 ≤ 1048576) (hn1 : n1 ≤ 1048576) (h20 : ∀ x ∈ ys, x.n ≤ 1048576) :
    Zae pg Zgh [.agg [.slice a0 n0 c0 e0, .slice a1 n1 c1 e1], .int .i64 1] h fun v h' => v = .int .i64 (KI (1 + 2 * (n0 : Int)) ys n1) ∧ Zbd h.length h h' := by
  apply Zlh.call
  simp only [Zbf]
  generalize hh0 : h ++ [Zck.cells Zac [.slice a0 n0 c0 e0, .slice a1 n1 c1 e1] false] = h0
  have s0 : Zbd h.length h h0 := by rw [← hh0]; exact Zax
  have w0 : h0[h.length]? = some (Zmt a0 n0 c0 e0 a1 n1 c1 e1) := by rw [← hh0]; simp [Zmt]
  simp only [Zgt w0, Nat.zero_add, List.getElem?_cons_succ, List.getElem?_cons_zero, Zaf]
  have m0 := m.same s0
  refine (Zra (m0.1.row Zdq) (by omega)).mono ?_
  rintro v h1 ⟨rfl, s1⟩
  have w1 := s1.get w0 (Own.lt w0)
  simp only [Zbe, Zgt w1, List.getElem?_cons_succ, List.getElem?_cons_zero, Zaf]
  refine Zam (fun hneg => by omega) (fun _ => ?_)
  refine (Yeh hyl hn1 h20 (m0.2.same s1) (by omega)).mono ?_
  rintro v h2 ⟨rfl, s2⟩
  simp only [Zbe]
  have := Yfc (k := 1 + 2 * (n0 : Int)) (ys := ys) (n := n1) (by omega)
  refine Zam (fun hneg => by omega) (fun _ => ?_)
  exact ⟨by trivial, (s0.cat s1).cat s2⟩
end Go.Sim

set_option linter.unusedVariables false
set_option linter.unusedSimpArgs false
set_option maxRecDepth 20000
namespace Go.Sim
open Go Go.RowKit

theorem Yje {w : Wd} (b : WB w) (k : Nat) : WB (woW w k) := by
  refine ⟨b.lc, ?_, b.cs, fun i hi => b.is i (List.mem_of_mem_eraseIdx hi)⟩
  have := b.li
  show (w.is.eraseIdx k).length ≤ _
  rw [List.length_eraseIdx]; split <;> omega
theorem Ygy {w : Wd} (h : Zhd w = true) : 1 ≤ w.cs.length := by
  unfold Zhd Zgo at h
  simp only [Bool.and_eq_true, decide_eq_true_eq] at h
  exact h.1.1.2.1
end Go.Sim

set_option linter.unusedVariables false
set_option linter.unusedSimpArgs false
set_option maxRecDepth 20000
namespace Go.Sim
open Go Go.RowKit

theorem Zwr {h : Zaa} {a0 a1 : Pt} {n0 c0 n1 c1 k : Nat} {e0 e1 : Bool} {w : Wd} (r : Zln h a0 n0 c0 a1 n1 c1 w) (nn : NNs h a1 n1 w) (b : WB w) (h0 : n0 ≠ 0) (hk : k < n1) :
    Zae pg Zjs [.agg [.slice a0 n0 c0 e0, .slice a1 n1 c1 e1], .int .i64 (k : Int)] h fun v h' => ∃ b0 d0 f0 b1 d1 f1 ys, v = .agg [.slice b0 n0 d0 f0, .slice b1 (n1 - 1) d1 f1] ∧ Zbd h.length h h' ∧ Zvl h.length h' b0 n0 b1 (n1 - 1) ys (woW w k) ∧ n0 ≤ d0 ∧ n1 - 1 ≤ d1 := by
  have hl0 := r.len0
  have hl1 := r.len1
  have hli := b.li
  apply Zmo.call
  simp only [Zbf]
  generalize hh0 : h ++ [Zck.cells Zac [.slice a0 n0 c0 e0, .slice a1 n1 c1 e1] false] = g0
  generalize hh1 : g0 ++ [Zck.cells Zac [.slice none 0 0 true, .slice none 0 0 true] false] = g1
  have s0 : Zbd h.length h g0 := by rw [← hh0]; exact Zax
  have s1 : Zbd g0.length g0 g1 := by rw [← hh1]; exact Zax
  have l0 : g0.length = h.length + 1 := by rw [← hh0]; simp
  have l1 : g1.length = h.length + 2 := by rw [← hh1]; simp [l0]
  have w0 : g0[h.length]? = some (Zmt a0 n0 c0 e0 a1 n1 c1 e1) := by rw [← hh0]; simp [Zmt]
  have w1 := s1.get w0 (Own.lt w0)
  have z1 : g1[g0.length]? = some (.cells Zac [.slice none 0 0 true, .slice none 0 0 true] false) := by rw [← hh1]; simp
  have S1 := s0.cat s1
  rw [Ycp w1]
  simp only [Zaq, Zah, Zap, Zaf]
  refine (Ybj (r.same S1) (nn.same S1) b h0 (by omega)).mono ?_
  rintro v g2 ⟨q0, d0, f0, q1, f1, ys, rfl, hd0, s2, hq0, hq1, hqq, o2, i2, hyl, hrep, hsep⟩
  have l2 := s2.le
  have z2 := s2.get z1 (Own.lt z1)
  have hq0l := Own.lt o2
  have hq1l := Own.lt i2
  simp only [Zdk, Zah, Zap, Zaf]
  rw [Zlc]
  simp only [Zar]
  generalize hh3 : g2 ++ [Zck.cells Zac [.slice (some (q0, 0)) n0 d0 f0, .slice (some (q1, 0)) n1 n1 f1] false] = g3
  have s3 : Zbd g2.length g2 g3 := by rw [← hh3]; exact Zax
  have l3 : g3.length = g2.length + 1 := by rw [← hh3]; simp
  have u3 : g3[g2.length]? = some (.cells Zac [.slice (some (q0, 0)) n0 d0 f0, .slice (some (q1, 0)) n1 n1 f1] false) := by rw [← hh3]; simp
  have z3' := s3.get z2 (Own.lt z2)
  have o3 := s3.get o2 hq0l
  have i3 := s3.get i2 hq1l
  simp only [Zau u3, Nat.zero_add, List.getElem?_cons_zero, List.getElem?_cons_succ, Zaf]
  rw [Zcd (by omega)]
  refine (Zyv (k := k) i3 hyl hk (by omega)).mono ?_
  rintro v g4 ⟨f', rfl, rfl⟩
  simp only [Zaf]
  have u4 : (g3.set q1 (.cells Zab (Zbv eN (ys.eraseIdx k) ++ z3) false))[g2.length]? = some (.cells Zac [.slice (some (q0, 0)) n0 d0 f0, .slice (some (q1, 0)) n1 n1 f1] false) := by rw [Zbl (by omega)]; exact u3
  have z4 : (g3.set q1 (.cells Zab (Zbv eN (ys.eraseIdx k) ++ z3) false))[g0.length]? = some (.cells Zac [.slice none 0 0 true, .slice none 0 0 true] false) := by rw [Zbl (by omega)]; exact z3'
  generalize hh4 : g3.set q1 (.cells Zab (Zbv eN (ys.eraseIdx k) ++ z3) false) = g4 at u4 z4
  have l4 : g4.length = g3.length := by rw [← hh4]; simp
  have i4 : g4[q1]? = some (.cells Zab (Zbv eN (ys.eraseIdx k) ++ z3) false) := by rw [← hh4]; exact Zbn i3
  have k4 : ∀ j, j ≠ q1 → g4[j]? = g3[j]? := fun j hj => by rw [← hh4, Zbl (fun e => hj e.symm)]
  rw [Zbb u4 (by simp)]
  simp only [Zar, Zbi, List.take_succ_cons, List.take_zero, List.length_cons, List.length_nil, List.drop_succ_cons, List.drop_zero, List.drop_nil, List.cons_append, List.nil_append, List.append_nil, Nat.zero_add]
  rw [Zch (Zbn u4)]
  simp only [Zaq, Zah, Zap, Zaf]
  have z5 : (g4.set g2.length (Zck.cells Zac [.slice (some (q0, 0)) n0 d0 f0, .slice (some (q1, 0)) (n1 - 1) n1 f'] false))[g0.length]? = some (.cells Zac [.slice none 0 0 true, .slice none 0 0 true] false) := by rw [Zbl (by omega)]; exact z4
  rw [Zbb z5 (by simp)]
  simp only [Zar, Zbi, List.take_zero, List.length_cons, List.length_nil, List.drop_succ_cons, List.drop_zero, List.drop_nil, List.cons_append, List.nil_append, List.append_nil, Nat.zero_add]
  rw [Zch (Zbn z5)]
  simp only [Zaq, Zah, Zap, Zaf]
  generalize hh6 : (g4.set g2.length (Zck.cells Zac [.slice (some (q0, 0)) n0 d0 f0, .slice (some (q1, 0)) (n1 - 1) n1 f'] false)).set g0.length (Zck.cells Zac [.slice (some (q0, 0)) n0 d0 f0, .slice (some (q1, 0)) (n1 - 1) n1 f'] false) = g6
  have l6 : g6.length = g4.length := by rw [← hh6]; simp
  have k6 : ∀ j, j ≠ g2.length → j ≠ g0.length → g6[j]? = g4[j]? := fun j h1 h2 => by rw [← hh6, Zbl (fun e => h2 e.symm), Zbl (fun e => h1 e.symm)]
  have i6 : g6[q1]? = some (.cells Zab (Zbv eN (ys.eraseIdx k) ++ z3) false) := by rw [k6 q1 (by omega) (by omega)]; exact i4
  have o6 : g6[q0]? = some (.cells Zan (Zbv eP w.cs) false) := by rw [k6 q0 (by omega) (by omega), k4 q0 hqq]; exact o3
  have old : ∀ j, j < g2.length → j ≠ q1 → j ≠ g0.length → g6[j]? = g2[j]? := fun j h1 h2 h3 => by rw [k6 j (by omega) h3, k4 j h2, s3.eq j h1]
  have hyk : k < ys.length := by omega
  refine ⟨some (q0, 0), d0, f0, some (q1, 0), n1, f', ys.eraseIdx k, rfl, ⟨by omega, fun j hj => ?_⟩, ⟨⟨hl0, .inr ⟨q0, rfl, by omega, o6⟩⟩, .inr ⟨q1, z3, rfl, by omega, i6⟩, ?_, ?_, fun j x i hx hi => ?_, fun j m x y hjm hx hy hx0 hy0 => ?_⟩, hd0, by omega⟩
  · rw [old j (by omega) (by omega) (by omega), s2.eq j (by omega)]; exact S1.eq j hj
  · rw [List.length_eraseIdx, if_pos hyk, hyl]
  · show (w.is.eraseIdx k).length = n1 - 1
    rw [List.length_eraseIdx, if_pos (by omega), hl1]
  · have key : ∀ m, ys[m]? = some x → w.is[m]? = some i → x.c = i.1.1 ∧ x.t = i.1.2 ∧ Zbr Zao eP h.length g6 x.a x.n i.2 := fun m hx hi => by
      obtain ⟨p1, p2, p3⟩ := hrep m x i hx hi
      exact ⟨p1, p2, p3.1, p3.2.imp id fun ⟨q, ha, hbm, hc⟩ => ⟨q, ha, by omega, by rw [old q (Own.lt hc) (Yeu hc i2 (by decide)) (by omega)]; exact hc⟩⟩
    have hi' : (w.is.eraseIdx k)[j]? = some i := hi
    rw [List.getElem?_eraseIdx] at hx hi'
    split at hx
    · rename_i hjk; rw [if_pos hjk] at hi'; exact key _ hx hi'
    · rename_i hjk; rw [if_neg hjk] at hi'; exact key _ hx hi'
  · rw [List.getElem?_eraseIdx] at hx hy
    split at hx <;> split at hy
    · exact hsep _ _ x y hjm hx hy hx0 hy0
    · exact hsep _ _ x y (by omega) hx hy hx0 hy0
    · exact hsep _ _ x y (by omega) hx hy hx0 hy0
    · exact hsep _ _ x y (by omega) hx hy hx0 hy0
def noW : Wd := ⟨[], []⟩
noncomputable def Zxn (w : Wd) (x : Int) : Bool := Zhd w && (decide (0 ≤ x) && decide (x < w.is.length))
noncomputable def woR (w : Wd) (x : Int) : Wd := if Zxn w x then woW w x.toNat else noW
theorem Yix : WB noW := ⟨by simp [noW], by simp [noW], by simp [noW], by simp [noW]⟩
theorem Yfd {w : Wd} (b : WB w) (x : Int) : WB (woR w x) := by
  unfold woR; split
  · exact Yje b _
  · exact Yix
theorem Yeq {b : Nat} {h : Zaa} : Zvl b h none 0 none 0 [] noW := ⟨⟨rfl, .inl rfl⟩, .inl rfl, rfl, rfl, by simp, by simp⟩
theorem Yii {h : Zaa} : Zln h none 0 0 none 0 0 noW := (Yeq (b := 0)).rep (Nat.le_refl _) (Nat.le_refl _)
def WoQ (w : Wd) (x : Int) (h : Zaa) (v : Zag) (h' : Zaa) : Prop := Zbd h.length h h' ∧ ∃ b0 m0 d0 f0 b1 m1 d1 f1 ys, v = .tup [.agg [.slice b0 m0 d0 f0, .slice b1 m1 d1 f1], .bool (Zxn w x)] ∧ Zvl h.length h' b0 m0 b1 m1 ys (woR w x) ∧ m0 ≤ d0 ∧ m1 ≤ d1
theorem Zjj {h : Zaa} {a0 a1 : Pt} {n0 c0 n1 c1 : Nat} {e0 e1 : Bool} {w : Wd} {x : Int} (r : Zln h a0 n0 c0 a1 n1 c1 w) (nn : NNs h a1 n1 w) (b : WB w) :
    Zae pg Zdz [.agg [.slice a0 n0 c0 e0, .slice a1 n1 c1 e1], .int .i64 x] h (WoQ w x h) := by
  have hl0 := r.len0
  have hl1 := r.len1
  have hli := b.li
  apply Zfg.call
  simp only [Zbf]
  generalize hh0 : h ++ [Zck.cells Zac [.slice a0 n0 c0 e0, .slice a1 n1 c1 e1] false] = g0
  generalize hh1 : g0 ++ [Zck.cells Zac [.slice none 0 0 true, .slice none 0 0 true] false] = g1
  have s0 : Zbd h.length h g0 := by rw [← hh0]; exact Zax
  have s1 : Zbd g0.length g0 g1 := by rw [← hh1]; exact Zax
  have l0 : g0.length = h.length + 1 := by rw [← hh0]; simp
  have w0 : g0[h.length]? = some (Zmt a0 n0 c0 e0 a1 n1 c1 e1) := by rw [← hh0]; simp [Zmt]
  have w1 := s1.get w0 (Own.lt w0)
  have z1 : g1[g0.length]? = some (.cells Zac [.slice none 0 0 true, .slice none 0 0 true] false) := by rw [← hh1]; simp
  have S1 := s0.cat s1
  rw [Ycp w1]
  simp only [Zaq, Zah, Zap, Zaf]
  refine (Zsl (r.same S1) b).mono ?_
  rintro v g2 ⟨rfl, s2⟩
  have S2 := S1.cat s2
  have w2 := s2.get w1 (Own.lt w1)
  have z2 := s2.get z1 (Own.lt z1)
  simp only [Zat]
  have fail : Zxn w x = false → Zcb (Zbc g2 (.ptr (some (List.length g0, 0))) [.slice none 0 0 true, .slice none 0 0 true]) fun h_18 => Zdg (Zbw h_18 (.ptr (some (List.length g0, 0))) 2) fun cs_19 => Zak cs_19 fun c_20 r_21 => xSl (some c_20) fun a_22 n_23 c_24 e_25 => Zak r_21 fun c_26 r_27 => xSl (some c_26) fun a_28 n_29 c_30 e_31 => Zct r_27 (WoQ w x h (.tup [.agg [.slice a_22 n_23 c_24 e_25, .slice a_28 n_29 c_30 e_31], .bool false]) h_18) := by
    intro hno
    rw [Zbb z2 (by simp)]
    simp only [Zar, Zbi, List.take_zero, List.length_cons, List.length_nil, List.drop_succ_cons, List.drop_zero, List.drop_nil, List.cons_append, List.nil_append, List.append_nil, Nat.zero_add]
    rw [Zch (Zbn z2)]
    simp only [Zaq, Zah, Zap, Zaf]
    refine ⟨S2.set' (by omega), none, 0, 0, true, none, 0, 0, true, [], by rw [hno], ?_, Nat.le_refl _, Nat.le_refl _⟩
    unfold woR; rw [hno]; exact Yeq
  refine Zcl (fun hw => fail (by unfold Zxn; rw [hw]; rfl)) (fun hw => ?_)
  refine Zam (fun hneg => fail (by unfold Zxn; rw [hw, decide_eq_false (by omega)]; rfl)) (fun hpos => ?_)
  simp only [Zgt w2, Nat.zero_add, List.getElem?_cons_succ, List.getElem?_cons_zero, Zaf]
  refine Zam (fun hbig => fail (by unfold Zxn; rw [hw, decide_eq_true (show 0 ≤ x by omega), decide_eq_false (by omega)]; rfl)) (fun hlt => ?_)
  obtain ⟨k, rfl⟩ : ∃ k : Nat, x = k := ⟨x.toNat, by omega⟩
  have hcs := Ygy hw
  have hok : Zxn w (k : Int) = true := by unfold Zxn; rw [hw, decide_eq_true (show (0 : Int) ≤ k by omega), decide_eq_true (by omega)]; rfl
  have hR : woR w (k : Int) = woW w k := by unfold woR; rw [hok, if_pos rfl, Int.toNat_natCast]
  apply Zfg.J3i
  rw [Ycp w2]
  simp only [Zaq, Zah, Zap, Zaf]
  refine (Zwr (k := k) (r.same S2) (nn.same S2) b (by omega) (by omega)).mono ?_
  rintro v g3 ⟨b0, d0, f0, b1, d1, f1, ys, rfl, s3, out, hd0, hd1⟩
  have z3' := s3.get z2 (Own.lt z2)
  have hz2 := Own.lt z2
  have le2 := S2.le
  simp only [Zdk, Zah, Zap, Zaf]
  rw [Zbb z3' (by simp)]
  simp only [Zar, Zbi, List.take_zero, List.length_cons, List.length_nil, List.drop_succ_cons, List.drop_zero, List.drop_nil, List.cons_append, List.nil_append, List.append_nil, Nat.zero_add]
  rw [Zch (Zbn z3')]
  simp only [Zaq, Zah, Zap, Zaf]
  refine ⟨(S2.cat s3).set' (by omega), b0, n0, d0, f0, b1, n1 - 1, d1, f1, ys, by rw [hok], ?_, hd0, hd1⟩
  rw [hR]
  have out' := out.above (h' := g3.set g0.length (Zck.cells Zac [.slice b0 n0 d0 f0, .slice b1 (n1 - 1) d1 f1] false)) (fun i hi hil => Zbl (by omega))
  exact ⟨out'.cls.low le2, out'.ins.imp id fun ⟨i, tl, h1, h2, h3⟩ => ⟨i, tl, h1, by omega, h3⟩, out'.len, out'.wl, fun q x i hx hi => ⟨(out'.need q x i hx hi).1, (out'.need q x i hx hi).2.1, (out'.need q x i hx hi).2.2.low le2⟩, out'.sep⟩
theorem Zuu {h : Zaa} {a0 a1 : Pt} {n0 c0 n1 c1 k : Nat} {e0 e1 : Bool} {w : Wd} {bb : Nat} {xs : List EI} (F : Zgu bb h a0 n0 a1 n1 xs w) (hc0 : n0 ≤ c0) (hc1 : n1 ≤ c1) (hbb : bb ≤ h.length) (b : WB w) (hk : k < n1) :
    Zae pg Zig [.agg [.slice a0 n0 c0 e0, .slice a1 n1 c1 e1], .int .i64 (k : Int)] h fun v h' => ∃ b0 d0 f0 b1 d1 f1, v = .agg [.slice b0 n0 d0 f0, .slice b1 (n1 - 1) d1 f1] ∧ Zbd h.length h h' ∧ ∀ h2, (∀ j, bb ≤ j → j < h'.length → h2[j]? = h'[j]?) → h'.length ≤ h2.length → Zln h2 b0 n0 d0 b1 (n1 - 1) d1 (woW w k) := by
  have r := F.rep hc0 hc1
  have hl0 := r.len0
  have hl1 := r.len1
  have hli := b.li
  have hle1 := r.le1
  have rx : Row h.length h a1 (n1 * 3) (Zbv eN xs) := F.ins.row Zeo
  have rx2 : Zqv h xs w.is := ⟨F.len, fun k x i hx hi => ⟨(F.need k x i hx hi).1, (F.need k x i hx hi).2.1, (F.need k x i hx hi).2.2.row Zdq⟩⟩
  have hxl : xs.length = n1 := by rw [rx2.1]; exact hl1
  obtain ⟨i, o, ha1⟩ : ∃ i o, a1 = some (i, o) := by
    rcases rx.2 with h1 | ⟨i, o, t, all, ro, ha, _⟩
    · omega
    · exact ⟨i, o, ha⟩
  subst ha1
  apply Zlg.call
  simp only [Zbf]
  generalize hh0 : h ++ [Zck.cells Zac [.slice a0 n0 c0 e0, .slice (some (i, o)) n1 c1 e1] false] = g0
  generalize hh1 : g0 ++ [Zck.cells Zac [.slice none 0 0 true, .slice none 0 0 true] false] = g1
  have s0 : Zbd h.length h g0 := by rw [← hh0]; exact Zax
  have s1 : Zbd g0.length g0 g1 := by rw [← hh1]; exact Zax
  have l0 : g0.length = h.length + 1 := by rw [← hh0]; simp
  have l1 : g1.length = h.length + 2 := by rw [← hh1]; simp [l0]
  have w0 : g0[h.length]? = some (Zmt a0 n0 c0 e0 (some (i, o)) n1 c1 e1) := by rw [← hh0]; simp [Zmt]
  have w1 := s1.get w0 (Own.lt w0)
  have z1 : g1[g0.length]? = some (.cells Zac [.slice none 0 0 true, .slice none 0 0 true] false) := by rw [← hh1]; simp
  have S1 := s0.cat s1
  simp only [Zgt w1, Nat.zero_add, List.getElem?_cons_zero, List.getElem?_cons_succ, Zaf, Zep, Zhc]
  refine ⟨by omega, fun _ => ?_, fun h => absurd (by omega) h⟩
  rw [Zcd (by omega)]
  generalize hh2 : g1 ++ [Zck.cells Zab [] false] = g2
  have s2 : Zbd g1.length g1 g2 := by rw [← hh2]; exact Zax
  have l2 : g2.length = h.length + 3 := by rw [← hh2]; simp [l1]
  have e2 : g2[g1.length]? = some (.cells Zab (Zbv eN []) false) := by rw [← hh2]; simp
  have S2 := S1.cat s2
  have w2 := s2.get w1 (Own.lt w1)
  have z2 := s2.get z1 (Own.lt z1)
  have rx2' := rx.same' S2
  have hfx : (Zbv eN xs).length = n1 * 3 := rx.1
  have hio : ∃ t all ro, h[i]? = some (.cells t all ro) ∧ o + n1 * 3 ≤ all.length := by
    rcases rx.2 with h1 | ⟨i', o', t, all, ro, ha, hb, hg, hle, _⟩
    · omega
    · cases ha; exact ⟨t, all, ro, hg, hle⟩
  have hil : i < h.length := by obtain ⟨t, all, ro, hg, _⟩ := hio; exact Own.lt hg
  have part : ∀ (g : Zaa), Zbd h.length h g → ∀ lo len : Nat, lo + len ≤ n1 → rowOf g (some (i, o + lo * 3)) (len * 3) = some (Zbv eN ((xs.drop lo).take len)) := by
    intro g sg lo len hl
    by_cases hp : len = 0
    · subst hp
      rw [Nat.zero_mul, List.take_zero]
      obtain ⟨t, all, ro, hg, hle⟩ := hio
      exact Zzb (i := 0) (x := .dead) fun i' o' e => by cases e; exact ⟨t, all, ro, by rw [sg.eq i hil]; exact hg, by omega⟩
    · have := ((rx.same' sg).part (lo := lo * 3) (len := len * 3) (by omega) (by omega)).rowOf
      rw [this, Zyl, Yby]
  -- the tail
  have tailK : ∀ (xa : Pt) (m c' : Nat) (e' : Bool), m = n1 - (k + 1) → (∀ g, Zbd h.length h g → rowOf g xa (m * 3) = some (Zbv eN (xs.drop (k + 1)))) →
      (Zai g2 (.ptr (some (h.length, 1))) = some (.slice (some (i, o)) n1 c1 e1)) ∧ (Zai g2 (.ptr (some (h.length, 1))) = some (.slice (some (i, o)) n1 c1 e1)) ∧ (Zai g2 (.ptr (some (h.length, 0))) = some (.slice a0 n0 c0 e0)) ∧ Zcy pg Zca g2 (.slice (some (g1.length, 0)) 0 0 true) (.slice (some (i, o + (0 : Int).toNat * 3)) ((k : Int) - 0).toNat ((c1 : Int) - 0).toNat (e1 || (none : Option Zag).isSome)) fun v_25 h_26 => xSl (some v_25) fun a_27 n_28 c_29 e_30 => (Zai h_26 (.ptr (some (h.length, 1))) = Zai g2 (.ptr (some (h.length, 1)))) ∧ (Zai h_26 (.ptr (some (h.length, 1))) = Zai g2 (.ptr (some (h.length, 1)))) ∧ (Zai h_26 (.ptr (some (h.length, 0))) = Zai g2 (.ptr (some (h.length, 0)))) ∧ Zcy pg Zca h_26 (.slice a_27 n_28 c_29 e_30) (.slice xa m c' e') fun v_31 h_32 => xSl (some v_31) fun a_33 n_34 c_35 e_36 => (Zai h_32 (.ptr (some (h.length, 1))) = Zai h_26 (.ptr (some (h.length, 1)))) ∧ (Zai h_32 (.ptr (some (h.length, 1))) = Zai h_26 (.ptr (some (h.length, 1)))) ∧ (Zai h_32 (.ptr (some (h.length, 0))) = Zai h_26 (.ptr (some (h.length, 0)))) ∧ Zcb (Zbc h_32 (.ptr (some (g0.length, 0))) [.slice a0 n0 c0 e0, .slice a_33 n_34 c_35 e_36]) fun h_37 => Zdg (Zbw h_37 (.ptr (some (g0.length, 0))) 2) fun cs_38 => Zak cs_38 fun c_39 r_40 => xSl (some c_39) fun a_41 n_42 c_43 e_44 => Zak r_40 fun c_45 r_46 => xSl (some c_45) fun a_47 n_48 c_49 e_50 => Zct r_46 (∃ b0 d0 f0 b1 d1 f1, Zag.agg [.slice a_41 n_42 c_43 e_44, .slice a_47 n_48 c_49 e_50] = .agg [.slice b0 n0 d0 f0, .slice b1 (n1 - 1) d1 f1] ∧ Zbd h.length h h_37 ∧ ∀ h2, (∀ j, bb ≤ j → j < h_37.length → h2[j]? = h_37[j]?) → h_37.length ≤ h2.length → Zln h2 b0 n0 d0 b1 (n1 - 1) d1 (woW w k)) := by
    intro xa m c' e' hm hrow
    refine ⟨by rw [Zgt w2]; rfl, by rw [Zgt w2]; rfl, by rw [Zgt w2]; rfl, ?_⟩
    have eZ : o + (0 : Int).toNat * 3 = o + 0 * 3 := rfl
    rw [eZ]
    have hkk : ((k : Int) - 0).toNat = k := by omega
    rw [hkk]
    refine Vec.app0 (n := 0) (m := k) e2 Znp Zxx Zxz Zya rfl (part g2 S2 0 k (by omega)) (Zse _) (by omega) (fun g3 l3 i3 k3 => ?_)
    have w3 : g3[h.length]? = some (Zmt a0 n0 c0 e0 (some (i, o)) n1 c1 e1) := by rw [k3 _ (by omega) (by omega)]; exact w2
    have z3x : g3[g0.length]? = some (.cells Zac [.slice none 0 0 true, .slice none 0 0 true] false) := by rw [k3 _ (by omega) (by omega)]; exact z2
    have S3 : Zbd h.length h g3 := ⟨by omega, fun j hj => by rw [k3 j (by omega) (by omega)]; exact S2.eq j hj⟩
    have i3' : g3[g2.length]? = some (.cells Zab (Zbv eN (xs.take k)) false) := by rw [i3]; simp [Zbv]
    simp only [Zaf, Nat.zero_add]
    refine ⟨by rw [Zgt w3, Zgt w2], by rw [Zgt w3, Zgt w2], by rw [Zgt w3, Zgt w2], ?_⟩
    refine Vec.app0 (n := k) (m := m) i3' Znp Zxx Zxz Zya (by rw [Zaw Zeo, List.length_take, Nat.min_eq_left (by omega)]) (hrow g3 S3) (Zse _) (by omega) (fun g4 l4 i4 k4 => ?_)
    have w4 : g4[h.length]? = some (Zmt a0 n0 c0 e0 (some (i, o)) n1 c1 e1) := by rw [k4 _ (by omega) (by omega)]; exact w3
    have z4 : g4[g0.length]? = some (.cells Zac [.slice none 0 0 true, .slice none 0 0 true] false) := by rw [k4 _ (by omega) (by omega)]; exact z3x
    have S4 : Zbd h.length h g4 := ⟨by omega, fun j hj => by rw [k4 j (by omega) (by omega)]; exact S3.eq j hj⟩
    simp only [Zaf]
    refine ⟨by rw [Zgt w4, Zgt w3], by rw [Zgt w4, Zgt w3], by rw [Zgt w4, Zgt w3], ?_⟩
    rw [Zbb z4 (by simp)]
    simp only [Zar, Zbi, List.take_zero, List.length_cons, List.length_nil, List.drop_succ_cons, List.drop_zero, List.drop_nil, List.cons_append, List.nil_append, List.append_nil, Nat.zero_add]
    rw [Zch (Zbn z4)]
    simp only [Zaq, Zah, Zap, Zaf]
    generalize hh5 : g4.set g0.length (Zck.cells Zac [.slice a0 n0 c0 e0, .slice (some (g3.length, 0)) (k + m) (k + m) false] false) = g5
    have l5 : g5.length = g4.length := by rw [← hh5]; simp
    have S5 : Zbd h.length h g5 := by rw [← hh5]; exact S4.set' (by omega)
    have i5 : g5[g3.length]? = some (.cells Zab (Zbv eN (xs.eraseIdx k)) false) := by rw [← hh5, Zbl (by omega), i4, Zro (by omega)]
    have hkm : k + m = n1 - 1 := by omega
    have hfe : (Zbv eN (xs.eraseIdx k)).length = (n1 - 1) * 3 := by rw [Zaw Zeo, List.length_eraseIdx, if_pos (by omega), hxl]
    rw [hkm]
    refine ⟨_, _, _, _, _, _, rfl, S5, fun h2 hk2 hl2 => ?_⟩
    have hkk2 : ∀ i, bb ≤ i → i < h.length → h2[i]? = h[i]? := fun i hi hil => by rw [hk2 i hi (by omega), S5.eq i hil]
    have hIs : Zqv h2 xs w.is := ⟨F.len, fun k x i hx hi => ⟨(F.need k x i hx hi).1, (F.need k x i hx hi).2.1, ((F.need k x i hx hi).2.2.keep (Nat.le_refl _) hkk2).row Zdq⟩⟩
    refine ⟨(F.cls.keep (Nat.le_refl _) hkk2).row Zdq, ⟨xs.eraseIdx k, ⟨hfe, .inr ⟨g3.length, 0, _, _, _, rfl, by omega, (hk2 _ (by omega) (by omega)).trans i5, by omega, ?_⟩⟩, Zwj hIs k⟩, r.le0, Nat.le_refl _⟩
    rw [List.drop_zero, List.take_of_length_le (by omega)]
  refine ⟨by omega, fun hlt => ?_, fun hge => ?_⟩
  · refine tailK _ _ _ _ (by omega) fun g sg => ?_
    have := part g sg (k + 1) (n1 - (k + 1)) (by omega)
    rw [show ((n1 : Int) - ((k + 1 : Nat) : Int)).toNat = n1 - (k + 1) by omega, Int.toNat_natCast, this, List.take_of_length_le (by rw [List.length_drop]; omega)]
  · refine tailK _ _ _ _ (by omega) fun g sg => ?_
    rw [List.drop_of_length_le (by omega)]; rfl
def RwQ (w : Wd) (x : Int) (h : Zaa) (v : Zag) (h' : Zaa) : Prop := Zbd h.length h h' ∧ ∃ b0 m0 d0 f0 b1 m1 d1 f1, v = .tup [.agg [.slice b0 m0 d0 f0, .slice b1 m1 d1 f1], .bool (Zxn w x)] ∧ Zln h' b0 m0 d0 b1 m1 d1 (woR w x)
theorem Zsy {h : Zaa} {a0 a1 : Pt} {n0 c0 n1 c1 : Nat} {e0 e1 : Bool} {w : Wd} {x : Int} (r : Zln h a0 n0 c0 a1 n1 c1 w) (b : WB w) :
    Zae pg Zdx [.agg [.slice a0 n0 c0 e0, .slice a1 n1 c1 e1], .int .i64 x] h (RwQ w x h) := by
  have hl0 := r.len0
  have hl1 := r.len1
  have hli := b.li
  apply Zdy.call
  simp only [Zbf]
  generalize hh0 : h ++ [Zck.cells Zac [.slice a0 n0 c0 e0, .slice a1 n1 c1 e1] false] = g0
  generalize hh1 : g0 ++ [Zck.cells Zac [.slice none 0 0 true, .slice none 0 0 true] false] = g1
  have s0 : Zbd h.length h g0 := by rw [← hh0]; exact Zax
  have s1 : Zbd g0.length g0 g1 := by rw [← hh1]; exact Zax
  have l0 : g0.length = h.length + 1 := by rw [← hh0]; simp
  have l1 : g1.length = h.length + 2 := by rw [← hh1]; simp [l0]
  have w0 : g0[h.length]? = some (Zmt a0 n0 c0 e0 a1 n1 c1 e1) := by rw [← hh0]; simp [Zmt]
  have w1 := s1.get w0 (Own.lt w0)
  have z1 : g1[g0.length]? = some (.cells Zac [.slice none 0 0 true, .slice none 0 0 true] false) := by rw [← hh1]; simp
  have S1 := s0.cat s1
  rw [Ycp w1]
  simp only [Zaq, Zah, Zap, Zaf]
  refine (Zpp (r.same S1) b).mono ?_
  rintro v g2 ⟨p0, d0, f0, p1, d1, f1, ys, rfl, s2, F2, hd0, hd1, _, _⟩
  have S2 := S1.cat s2
  have w2 := s2.get w1 (Own.lt w1)
  have z2 := s2.get z1 (Own.lt z1)
  have le2 := s2.le
  unfold Zmt at w2
  simp only [Zdk, Zah, Zap, Zaf]
  rw [Zbb w2 (by simp)]
  simp only [Zar, Zbi, List.take_zero, List.length_cons, List.length_nil, List.drop_succ_cons, List.drop_zero, List.drop_nil, List.cons_append, List.nil_append, List.append_nil, Nat.zero_add]
  generalize hh3 : g2.set h.length (Zck.cells Zac [.slice p0 n0 d0 f0, .slice p1 n1 d1 f1] false) = g3
  have l3 : g3.length = g2.length := by rw [← hh3]; simp
  have w3 : g3[h.length]? = some (Zmt p0 n0 d0 f0 p1 n1 d1 f1) := by rw [← hh3]; exact Zbn w2
  have z3' : g3[g0.length]? = some (.cells Zac [.slice none 0 0 true, .slice none 0 0 true] false) := by rw [← hh3, Zbl (by omega)]; exact z2
  have S3 : Zbd h.length h g3 := by rw [← hh3]; exact S2.set' (Nat.le_refl _)
  have F3' : Zgu g1.length g3 p0 n0 p1 n1 ys w := by
    have k3 : ∀ i, g1.length ≤ i → i < g2.length → g3[i]? = g2[i]? := fun i hi _ => by rw [← hh3, Zbl (by omega)]
    have F3 : Zgu g1.length g3 p0 n0 p1 n1 ys w := ⟨F2.cls.keep (Nat.le_refl _) k3, F2.ins.keep (Nat.le_refl _) k3, F2.len, fun k x i hx hi => ⟨(F2.need k x i hx hi).1, (F2.need k x i hx hi).2.1, (F2.need k x i hx hi).2.2.keep (Nat.le_refl _) k3⟩, F2.sep, F2.nn⟩
    exact F3
  have R3 : Zln g3 p0 n0 d0 p1 n1 d1 w := F3'.rep hd0 hd1
  rw [Ycp w3]
  simp only [Zaq, Zah, Zap, Zaf]
  refine (Zqy R3 b).mono ?_
  rintro v g4 ⟨rfl, s4⟩
  have S4 := S3.cat s4
  have w4 := s4.get w3 (Own.lt w3)
  have z4 := s4.get z3' (Own.lt z3')
  have fail : Zxn w x = false → Zcb (Zbc g4 (.ptr (some (List.length g0, 0))) [.slice none 0 0 true, .slice none 0 0 true]) fun h_18 => Zdg (Zbw h_18 (.ptr (some (List.length g0, 0))) 2) fun cs_19 => Zak cs_19 fun c_20 r_21 => xSl (some c_20) fun a_22 n_23 c_24 e_25 => Zak r_21 fun c_26 r_27 => xSl (some c_26) fun a_28 n_29 c_30 e_31 => Zct r_27 (RwQ w x h (.tup [.agg [.slice a_22 n_23 c_24 e_25, .slice a_28 n_29 c_30 e_31], .bool false]) h_18) := by
    intro hno
    rw [Zbb z4 (by simp)]
    simp only [Zar, Zbi, List.take_zero, List.length_cons, List.length_nil, List.drop_succ_cons, List.drop_zero, List.drop_nil, List.cons_append, List.nil_append, List.append_nil, Nat.zero_add]
    rw [Zch (Zbn z4)]
    simp only [Zaq, Zah, Zap, Zaf]
    refine ⟨S4.set' (by omega), none, 0, 0, true, none, 0, 0, true, by rw [hno], ?_⟩
    unfold woR; rw [hno]; exact Yii
  simp only [Zat]
  refine Zcl (fun hw => fail (by unfold Zxn; rw [hw]; rfl)) (fun hw => ?_)
  simp only [Zgt w4, Nat.zero_add, List.getElem?_cons_succ, List.getElem?_cons_zero, Zaf]
  rw [IntWalk.i64_in _ (by omega)]
  refine Zwa.mono ?_
  rintro v g5 ⟨rfl, rfl⟩
  simp only [Zat]
  refine Zrk (fun hno => fail (by unfold Zxn; rw [hw, Bool.true_and, Bool.and_eq_false_iff]; simp only [decide_eq_false_iff_not]; omega)) (fun hin => ?_)
  obtain ⟨k, rfl⟩ : ∃ k : Nat, x = k := ⟨x.toNat, by omega⟩
  have hok : Zxn w (k : Int) = true := by unfold Zxn; rw [hw, decide_eq_true (show (0 : Int) ≤ k by omega), decide_eq_true (by omega)]; rfl
  have hR : woR w (k : Int) = woW w k := by unfold woR; rw [hok, if_pos rfl, Int.toNat_natCast]
  apply Zdy.J4i
  rw [Ycp w4]
  simp only [Zaq, Zah, Zap, Zaf]
  refine (Zuu (k := k) (F3'.same s4) hd0 hd1 (by have := s4.le; omega) b (by omega)).mono ?_
  rintro v g6 ⟨b0, d0', f0', b1, d1', f1', rfl, s6, r6⟩
  have z6 := s6.get z4 (Own.lt z4)
  simp only [Zdk, Zah, Zap, Zaf]
  rw [Zbb z6 (by simp)]
  simp only [Zar, Zbi, List.take_zero, List.length_cons, List.length_nil, List.drop_succ_cons, List.drop_zero, List.drop_nil, List.cons_append, List.nil_append, List.append_nil, Nat.zero_add]
  rw [Zch (Zbn z6)]
  simp only [Zaq, Zah, Zap, Zaf]
  refine ⟨(S4.cat s6).set' (by omega), b0, n0, d0', f0', b1, n1 - 1, d1', f1', by rw [hok], ?_⟩
  rw [hR]
  exact r6 _ (fun j hj _ => Zbl (by omega)) (by simp)
theorem Zmz {h : Zaa} {a0 a1 : Pt} {n0 c0 n1 c1 : Nat} {e0 e1 : Bool} {w : Wd} {x : Int} (r : Zln h a0 n0 c0 a1 n1 c1 w) (b : WB w) :
    Zae pg Zff [.agg [.slice a0 n0 c0 e0, .slice a1 n1 c1 e1], .int .i64 x] h (RwQ w x h) := by
  apply Zhf.call
  simp only [Zbf]
  generalize hh0 : h ++ [Zck.cells Zac [.slice a0 n0 c0 e0, .slice a1 n1 c1 e1] false] = g0
  generalize hh1 : g0 ++ [Zck.cells Zac [.slice none 0 0 true, .slice none 0 0 true] false] = g1
  have s0 : Zbd h.length h g0 := by rw [← hh0]; exact Zax
  have s1 : Zbd g0.length g0 g1 := by rw [← hh1]; exact Zax
  have l0 : g0.length = h.length + 1 := by rw [← hh0]; simp
  have l1 : g1.length = h.length + 2 := by rw [← hh1]; simp [l0]
  have w0 : g0[h.length]? = some (Zmt a0 n0 c0 e0 a1 n1 c1 e1) := by rw [← hh0]; simp [Zmt]
  have w1 := s1.get w0 (Own.lt w0)
  have z1 : g1[g0.length]? = some (.cells Zac [.slice none 0 0 true, .slice none 0 0 true] false) := by rw [← hh1]; simp
  have S1 := s0.cat s1
  rw [Ycp w1]
  simp only [Zaq, Zah, Zap, Zaf]
  refine (Zsy (x := x) (r.same S1) b).mono ?_
  rintro v g2 ⟨s2, b0, m0, d0, f0, b1, m1, d1, f1, rfl, r2⟩
  have S2 := S1.cat s2
  have z2 := s2.get z1 (Own.lt z1)
  have le2 := s2.le
  simp only [Zkk, Zah, Zdk, Zap, Zaf, Zat]
  rw [Zlc]
  simp only [Zar]
  generalize hh3 : g2 ++ [Zck.cells Zac [.slice b0 m0 d0 f0, .slice b1 m1 d1 f1] false] = g3
  have s3 : Zbd g2.length g2 g3 := by rw [← hh3]; exact Zax
  have l3 : g3.length = g2.length + 1 := by rw [← hh3]; simp
  have u3 : g3[g2.length]? = some (.cells Zac [.slice b0 m0 d0 f0, .slice b1 m1 d1 f1] false) := by rw [← hh3]; simp
  have z3' := s3.get z2 (Own.lt z2)
  rw [Zch u3]
  simp only [Zaq, Zah, Zap, Zaf]
  refine (Zpp (r2.same s3) (Yfd b x)).mono ?_
  rintro v g4 ⟨p0, q0, t0, p1, q1, t1, ys, rfl, s4, F4, hd0, hd1, _, _⟩
  have z4 := s4.get z3' (Own.lt z3')
  have le4 := s4.le
  simp only [Zdk, Zah, Zap, Zaf]
  rw [Zbb z4 (by simp)]
  simp only [Zar, Zbi, List.take_zero, List.length_cons, List.length_nil, List.drop_succ_cons, List.drop_zero, List.drop_nil, List.cons_append, List.nil_append, List.append_nil, Nat.zero_add]
  rw [Zch (Zbn z4)]
  simp only [Zaq, Zah, Zap, Zaf]
  generalize hh5 : g4.set g0.length (Zck.cells Zac [.slice p0 m0 q0 t0, .slice p1 m1 q1 t1] false) = g5
  have k5 : ∀ i, g3.length ≤ i → i < g4.length → g5[i]? = g4[i]? := fun i hi _ => by rw [← hh5, Zbl (by omega)]
  have F5 : Zgu g3.length g5 p0 m0 p1 m1 ys (woR w x) := ⟨F4.cls.keep (Nat.le_refl _) k5, F4.ins.keep (Nat.le_refl _) k5, F4.len, fun k x i hx hi => ⟨(F4.need k x i hx hi).1, (F4.need k x i hx hi).2.1, (F4.need k x i hx hi).2.2.keep (Nat.le_refl _) k5⟩, F4.sep, F4.nn⟩
  refine ⟨by rw [← hh5]; exact ((S2.cat s3).cat s4).set' (by omega), p0, m0, q0, t0, p1, m1, q1, t1, rfl, F5.rep hd0 hd1⟩
theorem lawWithoutInstance {h : Zaa} {a0 a1 : Pt} {n0 c0 n1 c1 : Nat} {e0 e1 : Bool} {w : Wd} {x : Int} (r : Zln h a0 n0 c0 a1 n1 c1 w) (hb : Yha w) :
    Zae pg Zez [.agg [.slice a0 n0 c0 e0, .slice a1 n1 c1 e1], .int .i64 x] h fun v _ => v = .bool true := by
  apply Zco.call
  simp only [Zbf]
  generalize hA : h ++ [Zck.cells Zdf [.slice a0 n0 c0 e0, .slice a1 n1 c1 e1] false] = A
  have sA : Zbd h.length h A := by rw [← hA]; exact Zax
  have xwA : A[h.length]? = some (.cells Zdf [.slice a0 n0 c0 e0, .slice a1 n1 c1 e1] false) := by rw [← hA]; simp
  rw [Zch xwA]
  simp only [Zaq, Zah, Zap, Zaf]
  refine (Zzv (r.same sA) hb (x := 1048576) (by omega)).mono ?_
  rintro v k1 ⟨y, rfl, s1, hy⟩
  simp only [Zbe]
  refine Zam (fun _ => by trivial) (fun hge => ?_)
  have hyy := hy (by omega)
  have b : WB w := .of hb (by omega)
  have bR := Yfd b x
  have S1 := sA.cat s1
  have xw1 := s1.get xwA (Own.lt xwA)
  rw [Zch xw1]
  simp only [Zaq, Zah, Zap, Zaf]
  refine (Zmd (r.same S1) b).mono ?_
  rintro v k2 ⟨b0, d0, f0, b1, d1, f1, ys2, rfl, hd0, hd1, s2, W2⟩
  simp only [Zdk, Zah, Zap, Zaf]
  have S2 := S1.cat s2
  have xw2 := s2.get xw1 (Own.lt xw1)
  refine (Zmz (x := x) (W2.rep hd0 hd1) b).mono ?_
  rintro v k3 ⟨s3, B0, m0, D0, F0, B1, m1, D1, F1, rfl, R3⟩
  simp only [Zkk, Zdk, Zah, Zap, Zaf, Zat]
  have S3 := S2.cat s3
  have xw3 := s3.get xw2 (Own.lt xw2)
  rw [Zlc]
  simp only [Zar]
  generalize hB : k3 ++ [Zck.cells Zac [.slice B0 m0 D0 F0, .slice B1 m1 D1 F1] false] = B
  have sB : Zbd k3.length k3 B := by rw [← hB]; exact Zax
  have lB : B.length = k3.length + 1 := by rw [← hB]; simp
  have x6B : B[k3.length]? = some (.cells Zac [.slice B0 m0 D0 F0, .slice B1 m1 D1 F1] false) := by rw [← hB]; simp
  have SB := S3.cat sB
  have xwB := sB.get xw3 (Own.lt xw3)
  rw [Zch xwB]
  simp only [Zaq, Zah, Zap, Zaf]
  refine (Zmd (r.same SB) b).mono ?_
  rintro v k4 ⟨p0, q0, t0, p1, q1, t1, zs, rfl, hq0, hq1, s4, W4⟩
  simp only [Zdk, Zah, Zap, Zaf]
  have S4 := SB.cat s4
  have xw4 := s4.get xwB (Own.lt xwB)
  have x64 := s4.get x6B (Own.lt x6B)
  have l4 := s4.le
  rw [Zlc]
  simp only [Zar]
  generalize hC : k4 ++ [Zck.cells Zac [.slice p0 n0 q0 t0, .slice p1 n1 q1 t1] false] = C
  have sC : Zbd k4.length k4 C := by rw [← hC]; exact Zax
  have lC : C.length = k4.length + 1 := by rw [← hC]; simp
  have x8C : C[k4.length]? = some (.cells Zac [.slice p0 n0 q0 t0, .slice p1 n1 q1 t1] false) := by rw [← hC]; simp
  have SC := S4.cat sC
  have xwC := sC.get xw4 (Own.lt xw4)
  have x6C := sC.get x64 (Own.lt x64)
  have W4C := W4.same sC
  rw [Zch x8C]
  simp only [Zaq, Zah, Zap, Zaf]
  refine (Zjj (x := x) (W4C.rep hq0 hq1) W4C.nns b).mono ?_
  rintro v k5 ⟨s5, G0, j0, E0, H0, G1, j1, E1, H1, ys, rfl, out, le0, le1⟩
  simp only [Zkk, Zdk, Zah, Zap, Zaf, Zat]
  have l5 := s5.le
  rw [Zlc]
  simp only [Zar]
  generalize hD : k5 ++ [Zck.cells Zac [.slice G0 j0 E0 H0, .slice G1 j1 E1 H1] false] = D
  have sD : Zbd k5.length k5 D := by rw [← hD]; exact Zax
  have lD : D.length = k5.length + 1 := by rw [← hD]; simp
  have x9D : D[k5.length]? = some (.cells Zac [.slice G0 j0 E0 H0, .slice G1 j1 E1 H1] false) := by rw [← hD]; simp
  have sCD := s5.cat sD
  have SD := SC.cat sCD
  have xwD := sCD.get xwC (Own.lt xwC)
  have x6D := sCD.get x6C (Own.lt x6C)
  have x8D := sCD.get x8C (Own.lt x8C)
  have TD : Zbd k3.length k3 D := ((sB.cat s4).cat sC).cat sCD
  have outD := out.same sD
  rw [Zch x9D, Zch x6D]
  simp only [Zaq, Zah, Zap, Zaf]
  refine (Zmf (outD.rep le0 le1) (R3.same TD) bR).mono ?_
  rintro v k6 ⟨rfl, s6⟩
  simp only [Zat, Bool.not_true, Zbj, beq_self_eq_true]
  have S6 := SD.cat s6
  have xw6 := s6.get xwD (Own.lt xwD)
  have x66 := s6.get x6D (Own.lt x6D)
  have x86 := s6.get x8D (Own.lt x8D)
  have x96 := s6.get x9D (Own.lt x9D)
  apply Zco.J10i
  rw [Zch x86, Zch xw6]
  simp only [Zaq, Zah, Zap, Zaf, true_and]
  refine (Zmd (r.same S6) b).mono ?_
  rintro v k7 ⟨u0, v0, i0, u1, v1, i1, ts, rfl, hv0, hv1, s7, W7⟩
  simp only [Zdk, Zah, Zap, Zaf]
  have S7 := S6.cat s7
  have xw7 := s7.get xw6 (Own.lt xw6)
  have x67 := s7.get x66 (Own.lt x66)
  have x87 := s7.get x86 (Own.lt x86)
  have x97 := s7.get x96 (Own.lt x96)
  refine ⟨by rw [Zch x87], ?_⟩
  have W4' := ((W4C.same sCD).same s6).same s7
  refine (Zmf (W4'.rep hq0 hq1) (W7.rep hv0 hv1) b).mono ?_
  rintro v k8 ⟨rfl, s8⟩
  simp only [Zat, Bool.not_true, Zbj]
  have S8 := S7.cat s8
  have xw8 := s8.get xw7 (Own.lt xw7)
  have x68 := s8.get x67 (Own.lt x67)
  have x88 := s8.get x87 (Own.lt x87)
  have x98 := s8.get x97 (Own.lt x97)
  have s678 := (s6.cat s7).cat s8
  have T8 := TD.cat s678
  have l678 := s678.le
  have lS3 := S3.le
  rw [Zch x88]
  simp only [Zaq, Zah, Zap, Zaf]
  refine (Zuo (W4'.same s8) b (H := k4.length) ⟨W4.bel.cls, W4.bel.ins, W4.bel.need⟩ (by omega) (k := 1) (by omega)).mono ?_
  rintro v m9 ⟨⟨zm, rfl, hm0, hm1⟩, M9⟩
  have lm9 := M9.1
  have hx9l := Own.lt x98
  have x69 : m9[k3.length]? = some (.cells Zac [.slice B0 m0 D0 F0, .slice B1 m1 D1 F1] false) := by rw [M9.2 _ (Own.lt x68) (.inl (by omega))]; exact x68
  have x99 : m9[k5.length]? = some (.cells Zac [.slice G0 j0 E0 H0, .slice G1 j1 E1 H1] false) := by rw [M9.2 _ hx9l (.inr (by omega))]; exact x98
  have xw9 : m9[h.length]? = some (.cells Zdf [.slice a0 n0 c0 e0, .slice a1 n1 c1 e1] false) := by rw [M9.2 _ (Own.lt xw8) (.inl (by have := S3.le; have := Own.lt xw3; omega))]; exact xw8
  have S9 : Zbd h.length h m9 := ⟨by omega, fun j hj => by rw [M9.2 j (by omega) (.inl (by omega))]; exact S8.eq j hj⟩
  have T9 : Zbd k3.length k3 m9 := ⟨by omega, fun j hj => by rw [M9.2 j (by omega) (.inl (by omega))]; exact T8.eq j hj⟩
  have out9 : Zvl C.length m9 G0 j0 G1 j1 ys (woR w x) := (outD.same s678).above fun i hi hil => M9.2 i hil (.inr (by omega))
  simp only [Zbe]
  refine Zam (fun hneg => by omega) (fun _ => ?_)
  rw [Zch x99, Zch x69]
  simp only [Zaq, Zah, Zap, Zaf]
  refine (Zmf (out9.rep le0 le1) (R3.same T9) bR).mono ?_
  rintro v ka ⟨rfl, sa⟩
  simp only [Zat, Bool.not_true, Zbj, beq_self_eq_true]
  have x9a := sa.get x99 (Own.lt x99)
  have la := sa.le
  apply Zco.J16i
  rw [Zch x9a]
  simp only [Zaq, Zah, Zap, Zaf]
  refine (Zsh (out9.same sa) bR (by omega)).mono ?_
  rintro v kb ⟨rfl, sb, mk, oth⟩
  have lb := sb.le
  have x9b := oth _ _ x9a
  have Sb : Zbd h.length h kb := ⟨by omega, fun j hj => by rw [sb.eq j (by omega), sa.eq j (by omega)]; exact S9.eq j hj⟩
  have Tb : Zbd k3.length k3 kb := ⟨by omega, fun j hj => by rw [sb.eq j (by omega), sa.eq j (by omega)]; exact T9.eq j hj⟩
  have x6b : kb[k3.length]? = some (.cells Zac [.slice B0 m0 D0 F0, .slice B1 m1 D1 F1] false) := oth _ _ (sa.get x69 (Own.lt x69))
  have xwb : kb[h.length]? = some (.cells Zdf [.slice a0 n0 c0 e0, .slice a1 n1 c1 e1] false) := by rw [sb.eq _ (by have := Own.lt xw3; omega)]; exact sa.get xw9 (Own.lt xw9)
  have hj0 : j0 ≤ 1048576 := by have := out.cls.1; have := bR.lc; omega
  have hj1 : j1 ≤ 1048576 := by have := out.wl; have := bR.li; omega
  have hpos := Yfc (k := 1 + 2 * (j0 : Int)) (ys := ys) (n := j1) (by omega)
  simp only [Zbe]
  rw [Zch x9b]
  simp only [Zaq, Zah, Zap, Zaf]
  refine (Znl mk out.len hj0 hj1 (out.small bR)).mono ?_
  rintro v kc ⟨rfl, sc⟩
  simp only [Zbe]
  refine Zam (fun hneg => by omega) (fun _ => ?_)
  simp only [beq_self_eq_true, Bool.not_true, Zbj]
  have xwc := sc.get xwb (Own.lt xwb)
  have x6c := sc.get x6b (Own.lt x6b)
  have x9c := sc.get x9b (Own.lt x9b)
  rw [Zch xwc]
  simp only [Zaq, Zah, Zap, Zaf]
  refine (Zmd (r.same (Sb.cat sc)) b).mono ?_
  rintro v kd ⟨P0, Q0, I0, P1, Q1, I1, Zs, rfl, hQ0, hQ1, sd, Wd'⟩
  simp only [Zdk, Zah, Zap, Zaf]
  refine (Zjj (x := x) (Wd'.rep hQ0 hQ1) Wd'.nns b).mono ?_
  rintro v ke ⟨se, G0', j0', E0', H0', G1', j1', E1', H1', ys', rfl, out', le0', le1'⟩
  simp only [Zkk, Zdk, Zah, Zap, Zaf, Zat, Zbf]
  rw [Zlc]
  simp only [Zar]
  generalize hE : ke ++ [Zck.cells Zac [.slice G0' j0' E0' H0', .slice G1' j1' E1' H1'] false] = E
  have sE : Zbd ke.length ke E := by rw [← hE]; exact Zax
  have xE : E[ke.length]? = some (.cells Zac [.slice G0' j0' E0' H0', .slice G1' j1' E1' H1'] false) := by rw [← hE]; simp
  have sbE := ((sc.cat sd).cat se).cat sE
  have x6E := sbE.get x6b (Own.lt x6b)
  have x9E := sbE.get x9b (Own.lt x9b)
  rw [Zch xE, Zch x6E]
  simp only [Zaq, Zah, Zap, Zaf]
  refine (Zmf ((out'.same sE).rep le0' le1') (R3.same (Tb.cat sbE)) bR).mono ?_
  rintro v kf ⟨rfl, sf⟩
  simp only [Zat, Bool.not_true, Zbj, beq_self_eq_true]
  apply Zco.J27i
  rw [Zch (sf.get x9E (Own.lt x9E))]
  simp only [Zaq, Zah, Zap, Zaf]
  refine (Znl ((mk.same sbE).same sf) out.len hj0 hj1 (out.small bR)).mono ?_
  rintro v kg ⟨rfl, sg⟩
  simp only [Zbe]
  refine Zam (fun hneg => by omega) (fun _ => ?_)
  simp only [beq_self_eq_true, Bool.not_true, Zbj]
end Go.Sim

set_option linter.unusedVariables false
namespace Go.Sim
end Go.Sim

set_option linter.unusedVariables false
namespace Go.Sim
open Go Go.RowKit
end Go.Sim
