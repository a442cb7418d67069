/- A part of the proof of a statement of this seat: see the text that holds the theorem. No condition. -/
import Derived.Test.YtlljbdepamknoaaGreatPReduce
import Derived.Test.YtlljbdepamknoaaGreatCAll2
import Derived.Test.YtlljbdepamknoaaGreatPTCAll2
set_option linter.unusedVariables false
set_option linter.unusedSimpArgs false
set_option linter.all false
set_option linter.unusedVariables false
set_option linter.unusedSimpArgs false
set_option maxRecDepth 20000
namespace Go.Sim
open Go Go.RowKit

noncomputable def wk (w : Wd) : Wk := ⟨Ycl w, fun x t => Zhk (Ycf w x) t, Yqh w⟩
structure FrS (i : Nat) (qa : Pt) (h h' : Zaa) (qa' : Pt) : Prop where
  le : h.length ≤ h'.length
  eq : ∀ j, j < h.length → j ≠ i → (∀ q, qa = some (q, 0) → j ≠ q) → h'[j]? = h[j]?
  pt : qa' = qa ∨ ∀ q, qa' = some (q, 0) → h.length ≤ q
theorem FrS.of_same {i : Nat} {qa : Pt} {h h' : Zaa} (s : Zaz h.length h h') : FrS i qa h h' qa := ⟨s.le, fun j hj _ _ => s.eq j hj, .inl rfl⟩
theorem FrS.refl (i : Nat) (qa : Pt) (h : Zaa) : FrS i qa h h qa := .of_same (Zaz.refl _ _)
theorem FrS.ne {i : Nat} {qa qa' : Pt} {h h' : Zaa} (f : FrS i qa h h' qa') {j : Nat} (hj : j < h.length) (hq : ∀ q, qa = some (q, 0) → j ≠ q) : ∀ q, qa' = some (q, 0) → j ≠ q := by
  intro q hq'
  rcases f.pt with e | e
  · exact hq q (e ▸ hq')
  · have := e q hq'; omega
theorem FrS.trans {i : Nat} {qa qa1 qa2 : Pt} {h h1 h2 : Zaa} (f : FrS i qa h h1 qa1) (g : FrS i qa1 h1 h2 qa2) : FrS i qa h h2 qa2 := by
  have := f.le; have := g.le
  refine ⟨by omega, fun j hj hi hq => ?_, ?_⟩
  · rw [g.eq j (by omega) hi (f.ne hj hq)]; exact f.eq j hj hi hq
  · rcases g.pt with e | e
    · rcases f.pt with e' | e'
      · exact .inl (e.trans e')
      · exact .inr fun q hq => e' q (e ▸ hq)
    · exact .inr fun q hq => by have := e q hq; omega
theorem FrS.set {i : Nat} {qa : Pt} {h : Zaa} {x : Zcn} : FrS i qa h (h.set i x) qa := ⟨by simp, fun j _ hi _ => Zcr (fun e => hi e.symm), .inl rfl⟩
theorem FrS.get {i : Nat} {qa qa' : Pt} {h h' : Zaa} (f : FrS i qa h h' qa') {j : Nat} {x : Zcn} (hj : h[j]? = some x) (hi : j ≠ i) (hq : ∀ q, qa = some (q, 0) → j ≠ q) : h'[j]? = some x := by rw [f.eq j (Own.lt hj) hi hq]; exact hj
theorem FrS.row {i : Nat} {qa qa' : Pt} {h h' : Zaa} (f : FrS i qa h h' qa') {a : Pt} {n : Nat} {cs : List Zar} (r : Row h.length h a n cs) (hn : ∀ j o, n ≠ 0 → a = some (j, o) → j ≠ i ∧ ∀ q, qa = some (q, 0) → j ≠ q) : Row h'.length h' a n cs := by
  obtain ⟨hl, r⟩ := r
  by_cases h0 : n = 0
  · exact ⟨hl, .inl h0⟩
  · refine ⟨hl, r.imp id ?_⟩
    rintro ⟨j, o', t, all, ro, ha, hi, hg, x⟩
    have := f.le
    obtain ⟨h1, h2⟩ := hn j o' h0 ha
    exact ⟨j, o', t, all, ro, ha, by omega, by rw [f.eq j hi h1 h2]; exact hg, x⟩
theorem FrS.below {i b : Nat} {qa qa' : Pt} {h h' : Zaa} (f : FrS i qa h h' qa') (hb : b ≤ h.length) (hi : b ≤ i) (hq : ∀ q, qa = some (q, 0) → b ≤ q) : Zaz b h h' := ⟨f.le, fun j hj => f.eq j (by omega) (by omega) fun q hq' => by have := hq q hq'; omega⟩
theorem Yac {w : Wd} (hw : Zfl w = true) {n : Nd} {k : Nat} (hk : k < w.is.length) {ms : List Nd} (h : Zhk w.is[k] n.2 = some ms) : ms.length ≤ 3 ∧ ∀ m ∈ ms, Zga w m = true := by
  have := Yiz hw (List.getElem_mem hk) h
  exact ⟨this.1, this.2⟩
theorem Yfl {w : Wd} {n : Nd} (h : Zga w n = true) : Znp n.2 = true ∧ n.2.length ≤ 60 := by
  have : Znp n.2 = true := by
    unfold Zga at h
    simp only [Bool.and_eq_true] at h
    exact h.2
  exact ⟨this, (Zys this)⟩
end Go.Sim

set_option linter.unusedSimpArgs false
set_option linter.unusedVariables false
namespace Go.Sim

section
variable {k : Wk} {sp : Bool} {dec : Int → List Nat}
end
end Go.Sim

set_option linter.unusedSimpArgs false
set_option linter.unusedVariables false
namespace Go.Sim
def Zlc : List Nat := [103, 105, 118, 101, 110]
def Ymu : List Nat := [114, 101, 115, 116]
def evG (sup : List Nat → List Nat) (gs : List Nd) (n : Nd) (i : Nat) (r : List Nat) : List Nat × List Nat :=
  if h : i < gs.length then
    (match r with
     | d :: r' => if 65 ≤ d ∧ d ≤ 84 then (if d ∈ sup gs[i].1 then (if ([d], gs[i].2) = n then (okE, r') else (Zlc, [])) else (Zlc, [])) else if gs[i] = n then (okE, r) else (Zlc, [])
     | [] => if gs[i] = n then (okE, []) else (Zlc, []))
  else (Zlc, [])
where okE : List Nat := [111, 107]
def Zyi (s : List Nat) : List Nat × List Nat := match s with | 41 :: r => (evG.okE, r) | _ => ([112, 97, 114, 116, 115], [])
theorem Yds {s : List Nat} (h : ∀ r, s ≠ 41 :: r) : Zyi s = ([112, 97, 114, 116, 115], []) := by
  unfold Zyi
  split
  · rename_i r; exact absurd rfl (h r)
  · rfl
def evL (ev : Nd → List Nat → List Nat × List Nat) : List Nd → Nat → List Nat → List Nat × List Nat
  | [], i, s => if i = 0 then (evG.okE, s) else Zyi s
  | m :: ms, i, s => match s with
    | c :: r => if c = Zok i then (if (ev m r).1 = evG.okE then evL ev ms (i + 1) (ev m r).2 else ((ev m r).1, [])) else ([112, 97, 114, 116, 115], [])
    | [] => ([112, 97, 114, 116, 115], [])
def evP (k : Wk) (sup : List Nat → List Nat) (gs : List Nd) : Nat → Nd → List Nat → List Nat × List Nat
  | 0, n, s => ([105, 110, 115, 116, 97, 110, 99, 101], [])
  | f + 1, n, s => match s with
    | [] => ([105, 110, 115, 116, 97, 110, 99, 101], [])
    | c :: r => if 97 ≤ c ∧ c ≤ 102 then evG sup gs n (c - 97) r
      else if 48 ≤ c ∧ c ≤ 57 ∧ ((c - 48 : Nat) : Int) ∈ k.cand n then
        (match k.needs ((c - 48 : Nat) : Int) n.2 with
         | none => ([98, 105, 103], [])
         | some ms => evL (evP k sup gs f) ms 0 r)
      else ([105, 110, 115, 116, 97, 110, 99, 101], [])
theorem Zuz {ev : Nd → List Nat → List Nat × List Nat} (hev : ∀ n s, (ev n s).1 = evG.okE → (ev n s).2.length ≤ s.length) : ∀ (ms : List Nd) (i : Nat) (s : List Nat), (evL ev ms i s).1 = evG.okE → (evL ev ms i s).2.length ≤ s.length
  | [], i, s, h => by
    unfold evL at h ⊢
    split
    · exact Nat.le_refl _
    · rename_i hi
      rw [if_neg hi] at h
      unfold Zyi
      split
      · simp
      · exact Nat.zero_le _
  | m :: ms, i, s, h => by
    unfold evL at h ⊢
    match s, h with
    | [], h => exact Nat.zero_le _
    | c :: r, h =>
      simp only at h ⊢
      split
      · rename_i hc
        rw [if_pos hc] at h
        split
        · rename_i ho
          rw [if_pos ho] at h
          have h1 := Zuz hev ms (i + 1) _ h
          have h2 := hev m r ho
          simp only [List.length_cons]; omega
        · exact Nat.zero_le _
      · exact Nat.zero_le _
theorem Yce (sup : List Nat → List Nat) (gs : List Nd) (n : Nd) (i : Nat) (r : List Nat) : (evG sup gs n i r).2.length ≤ r.length := by
  unfold evG
  split
  · split
    · split
      · split
        · split
          · simp
          · simp
        · simp
      · split
        · exact Nat.le_refl _
        · simp
    · split <;> simp
  · simp
theorem Zst (k : Wk) (sup : List Nat → List Nat) (gs : List Nd) : ∀ (f : Nat) (n : Nd) (s : List Nat), (evP k sup gs f n s).1 = evG.okE → (evP k sup gs f n s).2.length ≤ s.length
  | 0, n, s, h => by unfold evP; simp
  | f + 1, n, s, h => by
    unfold evP at h ⊢
    match s, h with
    | [], h => simp
    | c :: r, h =>
      simp only at h ⊢
      split
      · have := Yce sup gs n (c - 97) r
        simp only [List.length_cons]; omega
      · rename_i h1
        rw [if_neg h1] at h
        split
        · rename_i h2
          rw [if_pos h2] at h
          split
          · simp
          · rename_i ms hm
            rw [hm] at h
            simp only at h
            have := Zuz (Zst k sup gs f) ms 0 r h
            simp only [List.length_cons]; omega
        · simp
end Go.Sim

set_option linter.unusedVariables false
set_option linter.unusedSimpArgs false
set_option maxRecDepth 20000
namespace Go.Sim
open Go Go.RowKit

theorem Yfp {c : Nat} {r : List Nat} {K : Nat → Prop} : Zfg (c :: r) 0 K ↔ K c := by unfold Zfg; simp
theorem Zow {c : Nat} {s : List Nat} : (1 : Int) ≤ ((c :: s).length : Nat) := by rw [List.length_cons]; omega
theorem Zzw {h : Zaa} {a : Pt} {n c : Nat} {e : Bool} {l : List Int} {x : Int} (r : Row h.length h a n (Zff eI l)) (hn : n ≤ 1048576) :
    Zad pg Zfk [.slice a n c e, .int .i64 x] h fun v h' => v = .bool (decide (x ∈ l)) ∧ h' = h := by
  have hl : l.length = n := by have := r.1; rw [Zbe Ydx] at this; omega
  apply Zhb.call
  apply Zdy.call
  refine Zdy.L2ind (J := fun (g : Nat) x8 h' => x8 = (g : Int) ∧ g ≤ n ∧ h' = h ∧ x ∉ l.take g) (m := fun g => n - g) (hr := ?_) (g := 0) (hj := ⟨rfl, by omega, rfl, by simp⟩) ..
  rintro g x8 h' ⟨rfl, hg, rfl, hk⟩ R hR
  unfold Zdy.L2t
  refine Zal (fun hlt => ?_) (fun hge => ?_)
  · obtain ⟨i, o, hgl, ha, _, hr⟩ := r.i64 (k := g) (by omega)
    simp only [ha, Zav, Int.toNat_natCast, hr, Zao]
    refine ⟨by omega, Zfy (fun he => ?_) (fun he => ?_)⟩
    · have : x ∈ l := by rw [he]; exact List.getElem_mem hgl
      exact ⟨by simp [this], by trivial⟩
    · rw [Zbm (by omega), ← ha]
      refine hR (g + 1) _ _ (by omega) ⟨rfl, by omega, rfl, ?_⟩
      rw [List.take_succ_eq_append_getElem hgl, List.mem_append]
      rintro (hx | hx)
      · exact hk hx
      · exact he (by simpa using hx)
  · apply Zdy.A2x0i
    have : g = n := by omega
    subst this
    rw [List.take_of_length_le (by omega)] at hk
    simp only [Zao]
    exact ⟨by simp [hk], by trivial⟩
theorem Yat {h : Zaa} {a : Pt} {n c : Nat} {e : Bool} {l : List (List Nat)} {x : List Nat} (r : Row h.length h a n (strs l)) (hn : n ≤ 1048576) :
    Zad pg Zec [.slice a n c e, .str x] h fun v h' => v = .bool (decide (x ∈ l)) ∧ h' = h := by
  have hl : l.length = n := by have := r.1; rw [← Yip, Zbe Ymn] at this; omega
  apply Zfx.call
  apply Zcy.call
  refine Zcy.L2ind (J := fun (g : Nat) x8 h' => x8 = (g : Int) ∧ g ≤ n ∧ h' = h ∧ x ∉ l.take g) (m := fun g => n - g) (hr := ?_) (g := 0) (hj := ⟨rfl, by omega, rfl, by simp⟩) ..
  rintro g x8 h' ⟨rfl, hg, rfl, hk⟩ R hR
  unfold Zcy.L2t
  refine Zal (fun hlt => ?_) (fun hge => ?_)
  · obtain ⟨i, o, hgl, ha, _, hr⟩ := r.str (k := g) (by omega)
    have hr' : Zag h' (.ptr (some (i, o + g * 1))) = some (.str l[g]) := by rw [Nat.mul_one]; exact hr
    simp only [ha, Zav, Int.toNat_natCast, hr', Zaf]
    refine ⟨by omega, Zal (fun he => ?_) (fun he => ?_)⟩
    · have : x ∈ l := by rw [he]; exact List.getElem_mem hgl
      simp only [Zao]
      exact ⟨by simp [this], by trivial⟩
    · rw [Zbm (by omega), ← ha]
      refine hR (g + 1) _ _ (by omega) ⟨rfl, by omega, rfl, ?_⟩
      rw [List.take_succ_eq_append_getElem hgl, List.mem_append]
      rintro (hx | hx)
      · exact hk hx
      · exact he (by simpa using hx)
  · apply Zcy.A2x0i
    have : g = n := by omega
    subst this
    rw [List.take_of_length_le (by omega)] at hk
    simp only [Zao]
    exact ⟨by simp [hk], by trivial⟩
def EvQ (r : List Nat × List Nat) (h : Zaa) (v : Zar) (h' : Zaa) : Prop := Zaz h.length h h' ∧ ∃ rest, v = .tup [.str rest, .str r.1] ∧ (r.1 = evG.okE → rest = r.2)
theorem EvQ.bad {why : List Nat} {rest : List Nat} {h h' : Zaa} (s : Zaz h.length h h') (hw : why ≠ evG.okE) : EvQ (why, []) h (.tup [.str rest, .str why]) h' := ⟨s, rest, rfl, fun e => absurd e hw⟩
theorem Ydp (a b : Nd) : (decide (a.1 = b.1) && decide (a.2 = b.2)) = decide (a = b) := by
  rw [Bool.eq_iff_iff]; simp [Prod.ext_iff]
theorem Yjf {a0 a1 ga : Pt} {n0 c0 n1 c1 gn gc : Nat} {e0 e1 ge : Bool} {w : Wd} {gs : List Nd} (b : WB w) (hw : Zfl w = true) (hgl : gn ≤ 6) : ∀ (f : Nat) (s : List Nat), s.length < f → s.length ≤ 1048576 → ∀ {h : Zaa} {n : Nd}, Zmi h a0 n0 c0 a1 n1 c1 w → Row h.length h ga (gn * 2) (Zff eP gs) → Zga w n = true →
    Zad pg Zgm [.agg [.slice a0 n0 c0 e0, .slice a1 n1 c1 e1], .slice ga gn gc ge, .agg [.str n.1, .str n.2], .str s] h (EvQ (evP (wk w) (Zdb w) gs f n s) h) := by
  intro f
  induction f with
  | zero => intro s hs; omega
  | succ f ih =>
    intro s hs hs1 h n r rg hnd
    have hgsl : gs.length = gn := by have := rg.1; rw [Zbe Zdp] at this; omega
    apply Zbw.call
    simp only [Zax]
    generalize hh0 : h ++ [Zcn.cells Zak [.slice a0 n0 c0 e0, .slice a1 n1 c1 e1] false] = h0
    generalize hh1 : h0 ++ [Zcn.cells Zaj [.str n.1, .str n.2] false] = h1
    have s0 : Zaz h.length h h0 := by rw [← hh0]; exact Zau
    have s1 : Zaz h0.length h0 h1 := by rw [← hh1]; exact Zau
    have w0 : h0[h.length]? = some (Zns a0 n0 c0 e0 a1 n1 c1 e1) := by rw [← hh0]; simp [Zns]
    have w1 := s1.get w0 (Own.lt w0)
    have p1 : h1[h0.length]? = some (.cells Zaj [.str n.1, .str n.2] false) := by rw [← hh1]; simp
    have S1 := s0.cat s1
    have l0 : h0.length = h.length + 1 := by rw [← hh0]; simp
    have l1 : h1.length = h0.length + 1 := by rw [← hh1]; simp
    have hinst : ([105, 110, 115, 116, 97, 110, 99, 101] : List Nat) ≠ evG.okE := by decide
    have hgiv : Zlc ≠ evG.okE := by decide
    match s, hs, hs1 with
    | [], _, _ =>
      simp only [decide_true, Bool.not_true, Zbd]
      apply Zbw.J15i
      simp only [decide_true, Zbx, true_and]
      exact EvQ.bad S1 hinst
    | c :: s, hs, hs1 =>
    simp only [List.length_cons] at hs hs1
    have rest : ¬ (97 ≤ c ∧ c ≤ 102) → Zbw.J15 (EvQ (evP (wk w) (Zdb w) gs (f + 1) n (c :: s)) h) (c :: s) h.length 0 h0.length 0 ga gn gc ge h1 := by
      intro hc
      have hev : evP (wk w) (Zdb w) gs (f + 1) n (c :: s) = if 48 ≤ c ∧ c ≤ 57 ∧ ((c - 48 : Nat) : Int) ∈ (wk w).cand n then
          (match (wk w).needs ((c - 48 : Nat) : Int) n.2 with | none => ([98, 105, 103], []) | some ms => evL (evP (wk w) (Zdb w) gs f) ms 0 s) else ([105, 110, 115, 116, 97, 110, 99, 101], []) := by
        conv => lhs; unfold evP
        simp only
        rw [if_neg hc]
        all_goals rfl
      apply Zbw.J15i
      simp only [reduceCtorEq, decide_false, Zbd, Yfp]
      refine Zal (fun hlo => ?_) (fun hlo => ?_)
      · rw [hev, if_neg (by omega)]; exact ⟨by trivial, by trivial, EvQ.bad S1 hinst⟩
      · refine Zal (fun hhi => ?_) (fun hhi => ?_)
        · rw [hev, if_neg (by omega)]; exact ⟨by trivial, by trivial, EvQ.bad S1 hinst⟩
        · simp only [Yfp, Zsg w1, Zbc p1, Zan, Zae, Zap, Zah, Zaf, true_and]
          refine (Zyl (nd := n) (r.same S1) b).mono ?_
          rintro v h2 ⟨s2, ca, cn, cc, ce, rfl, fc⟩
          have hcin := Ylf w n
          have hcnl : cn ≤ 1048576 := by have hcl' := fc.1; have := Yih (Zrj n) w.is; have := b.li; unfold Ycl at hcl'; omega
          have rowc : Row h2.length h2 ca cn (Zff eI (Ycl w n)) := by simpa using Zel.row Ydx fc
          have S2 := S1.cat s2
          have w2 := s2.get w1 (Own.lt w1)
          have p2 := s2.get p1 (Own.lt p1)
          have hwr : IntKind.wrap .i64 (IntKind.wrap .u8 ((c : Int) - 48)) = ((c - 48 : Nat) : Int) := by rw [IntWalk.u8_in _ (by omega), IntWalk.i64_in _ (by omega)]; omega
          simp only [Zah]
          rw [hwr]
          refine (Zzw rowc hcnl).mono ?_
          rintro v h3 ⟨rfl, rfl⟩
          simp only [Zai, true_and]
          refine Zgj (fun hm => ?_) (fun hm => ?_)
          · rw [hev, if_neg (fun hh => hm hh.2.2)]; exact EvQ.bad S2 hinst
          · obtain ⟨k, hk, hkl⟩ := hcin _ hm
            have hck : c - 48 = k := by omega
            rw [hev, if_pos ⟨by omega, by omega, hm⟩, hk]
            have r2 := r.same S2
            obtain ⟨ii, oi, hki, na, nn, ncp, ne, ha1, _, hri, _, _, _, hrow, hnl⟩ := r2.inst (k := k) (by have := r.len1; omega)
            have hl1 := r.len1
            have hbk := b.is _ (List.getElem_mem hkl)
            have hu8 : IntKind.wrap .u8 ((c : Int) - 48) = (k : Int) := by rw [IntWalk.u8_in _ (by omega)]; omega
            apply Zbw.J17i
            simp only [Yfp, Zph w2, hu8, ha1, Nat.zero_add, List.getElem?_cons_succ, List.getElem?_cons_zero, Zah, Zav, Int.toNat_natCast, hri, Zan, Zae, Zap, Zaf, Zaq p2, true_and]
            refine ⟨by omega, (Ylk (i := w.is[k]) (t := n.2) hrow (by omega)).mono ?_⟩
            rintro v h4 ⟨s4, ma, mn, mc, me, rfl, fm⟩
            have S4 := S2.cat s4
            have w4 := s4.get w2 (Own.lt w2)
            have hneeds : (wk w).needs (k : Int) n.2 = Zhk w.is[k] n.2 := by show Zhk (Ycf w (k : Int)) n.2 = _; rw [Ydo hkl]
            rw [hneeds]
            simp only [Zcw, Zae, Zah, Zai, Zap, Zph w4, Zph w2, true_and]
            refine ⟨by simp [ha1], ?_⟩
            cases hh : Zhk w.is[k] n.2 with
            | none =>
              simp only [Option.isSome_none, Bool.not_false, Zbx]
              show EvQ ([98, 105, 103], []) h _ _
              exact EvQ.bad S4 (by decide)
            | some ms =>
              have hms3 := Yac hw hkl hh
              rw [hh] at fm
              simp only [Option.getD_some] at fm
              have hmn := fm.1
              have hm3 := hms3.1
              simp only [Option.isSome_some, Bool.not_true, Zbd, Ztm]
              refine ⟨⟨by omega, by first | exact Zow | (simp; omega) | simp, by first | omega | simp⟩, ?_⟩
              refine Zbw.L22ind (J := fun (u : Nat) x3 x116 h' => x116 = (u : Int) ∧ u ≤ mn ∧ x3.length ≤ s.length ∧ evL (evP (wk w) (Zdb w) gs f) (ms.drop u) u x3 = evL (evP (wk w) (Zdb w) gs f) ms 0 s ∧ Zaz h4.length h4 h') (m := fun u => mn - u) (hr := ?_) (g := 0) (hj := ⟨rfl, by omega, Nat.le_refl _, by rw [List.drop_zero], Zaz.refl _ _⟩) ..
              rintro u x3 x116 h5 ⟨rfl, hu, hxl, hevl, s5⟩ R hR
              have S5 := S4.cat s5
              have w5 := s5.get w4 (Own.lt w4)
              unfold Zbw.L22t
              refine Zal (fun hlt => ?_) (fun hge => ?_)
              · obtain ⟨jm, om2, hul, hma, _, hrm, _⟩ := ((fm.row Zdp).same' s5).pr (k := u) (by omega)
                simp only [hma, Zav, Int.toNat_natCast, hrm, Zan, Zae, Zap, Zaf, Zax]
                rw [← hma, Zgd]
                refine ⟨by omega, ?_⟩
                generalize hh6 : h5 ++ [Zcn.cells Zaj [.str ms[u].1, .str ms[u].2] false] = h6
                have o6 : h6[h5.length]? = some (.cells Zaj [.str ms[u].1, .str ms[u].2] false) := by rw [← hh6]; simp
                have s6 : Zaz h5.length h5 h6 := by rw [← hh6]; exact Zau
                have S6 := S5.cat s6
                have w6 := s6.get w5 (Own.lt w5)
                have hdu : ms.drop u = ms[u] :: ms.drop (u + 1) := List.drop_eq_getElem_cons hul
                rw [hdu] at hevl
                simp only [Zaw]
                have key : Zbw.J27 (EvQ (evL (evP (wk w) (Zdb w) gs f) ms 0 s) h) R x3 [Zok u] h.length 0 ga gn gc ge h5.length 0 (u : Int) (mn : Int) ma mn mc me ma mn mc me h6 := by
                  apply Zbw.J27i
                  refine Zlg.mono ?_
                  rintro v h7 ⟨rfl, rfl⟩
                  simp only [Zai]
                  cases hp : ([Zok u] : List Nat).isPrefixOf x3 with
                  | false =>
                    simp only [Bool.not_false, Zbx]
                    rw [← hevl]
                    have : evL (evP (wk w) (Zdb w) gs f) (ms[u] :: ms.drop (u + 1)) u x3 = ([112, 97, 114, 116, 115], []) := by
                      match x3, hp with
                      | [], _ => rfl
                      | d :: y, hp =>
                        unfold evL
                        simp only
                        rw [if_neg]
                        intro e; rw [(Zit _ _).2 ⟨y, by rw [e]⟩] at hp; cases hp
                    rw [this]
                    exact EvQ.bad S6 (by decide)
                  | true =>
                    obtain ⟨y, hx⟩ := (Zit _ _).1 hp
                    subst hx
                    simp only [Bool.not_true, Zbd, Ztm, Zsg w6, Zbc o6, Zan, Zae, Zap, Zah, Zaf, true_and]
                    simp only [List.length_cons] at hxl
                    refine ⟨⟨by omega, by first | exact Zow | (simp; omega) | simp, by first | omega | simp⟩, ?_⟩
                    refine (ih y (by omega) (by omega) (n := ms[u]) (r.same S6) (rg.same' S6) (hms3.2 _ (List.getElem_mem hul))).mono ?_
                    rintro v h8 ⟨s8, rest, rfl, hrest⟩
                    simp only [Zcw, Zae, Zaf, Zap]
                    have hstep : evL (evP (wk w) (Zdb w) gs f) (ms[u] :: ms.drop (u + 1)) u (Zok u :: y) = if (evP (wk w) (Zdb w) gs f ms[u] y).1 = evG.okE then evL (evP (wk w) (Zdb w) gs f) (ms.drop (u + 1)) (u + 1) (evP (wk w) (Zdb w) gs f ms[u] y).2 else ((evP (wk w) (Zdb w) gs f ms[u] y).1, []) := by
                      show (if Zok u = Zok u then _ else _) = _
                      rw [if_pos rfl]
                    rw [hstep] at hevl
                    refine Zgj (fun hbad => ?_) (fun hok => ?_)
                    · have hbad' : ¬ (evP (wk w) (Zdb w) gs f ms[u] y).1 = evG.okE := hbad
                      rw [if_neg hbad'] at hevl
                      rw [← hevl]
                      exact ⟨S6.cat s8, rest, rfl, fun e => absurd e hbad⟩
                    · have hok' : (evP (wk w) (Zdb w) gs f ms[u] y).1 = evG.okE := hok
                      rw [if_pos hok'] at hevl
                      have hre := hrest hok'
                      apply Zbw.J33i
                      rw [Zbm (by omega)]
                      refine hR (u + 1) _ _ _ (by omega) ⟨rfl, by omega, ?_, by rw [hre]; exact hevl, (s5.cat s6).cat s8⟩
                      rw [hre]
                      exact Nat.le_trans (Zst _ _ _ f ms[u] y hok') (by omega)
                refine Zfy (fun h00 => ?_) (fun h00 => ?_)
                · have : Zok u = 40 := by unfold Zok; rw [if_pos (by omega)]
                  rw [← this]; exact key
                · have : Zok u = 44 := by unfold Zok; rw [if_neg (by omega)]
                  rw [← this]; exact key
              · have : u = mn := by omega
                subst this
                rw [List.drop_of_length_le (by omega)] at hevl
                apply Zbw.A22x0i
                rw [← hevl]
                refine Zfy (fun h00 => ?_) (fun h00 => ?_)
                · have hu0 : u = 0 := by omega
                  unfold evL
                  rw [if_pos hu0]
                  exact ⟨S5, x3, rfl, fun _ => rfl⟩
                · have hu0 : u ≠ 0 := by omega
                  have hevn : evL (evP (wk w) (Zdb w) gs f) [] u x3 = Zyi x3 := by unfold evL; rw [if_neg hu0]
                  rw [hevn]
                  refine Zlg.mono ?_
                  rintro v h7 ⟨rfl, rfl⟩
                  simp only [Zai]
                  cases hp : ([41] : List Nat).isPrefixOf x3 with
                  | false =>
                    simp only [Bool.not_false, Zbx]
                    have : Zyi x3 = ([112, 97, 114, 116, 115], []) := Yds fun r e => by rw [(Zit 41 _).2 ⟨r, e⟩] at hp; cases hp
                    rw [this]
                    exact EvQ.bad S5 (by decide)
                  | true =>
                    obtain ⟨y, hx⟩ := (Zit _ _).1 hp
                    subst hx
                    simp only [Bool.not_true, Zbd, Ztm]
                    exact ⟨⟨by omega, by first | exact Zow | (simp; omega) | simp, by first | omega | simp⟩, S5, y, rfl, fun _ => rfl⟩
    simp only [reduceCtorEq, decide_false, Bool.not_false, Zbx, Yfp]
    refine Zal (fun hlo => ?_) (fun hlo => rest (by omega))
    refine Zal (fun hhi => ?_) (fun hhi => rest (by omega))
    have hev : evP (wk w) (Zdb w) gs (f + 1) n (c :: s) = evG (Zdb w) gs n (c - 97) s := by
      conv => lhs; unfold evP
      simp only
      rw [if_pos (by omega)]
    have hwr : IntKind.wrap .i64 (IntKind.wrap .u8 ((c : Int) - 97)) = ((c - 97 : Nat) : Int) := by rw [IntWalk.u8_in _ (by omega), IntWalk.i64_in _ (by omega)]; omega
    simp only [Yfp, Ztm, hwr]
    rw [hev]
    generalize hk : c - 97 = k
    refine ⟨⟨by omega, by first | exact Zow | (simp; omega) | simp, by first | omega | simp⟩, ?_⟩
    refine Zal (fun hbig => ?_) (fun hsml => ?_)
    · have : evG (Zdb w) gs n k s = (Zlc, []) := by unfold evG; rw [dif_neg (by omega)]
      rw [this]; exact EvQ.bad S1 hgiv
    · have hkg : k < gs.length := by omega
      obtain ⟨jm, om2, hul, hga, _, hrm, _⟩ := (rg.same' S1).pr (k := k) (by omega)
      simp only [hga, Zav, Int.toNat_natCast, hrm, Zan, Zae, Zap, Zaf]
      rw [Zgd]
      refine ⟨by omega, ?_⟩
      generalize hh2 : h1 ++ [Zcn.cells Zaj [.str gs[k].1, .str gs[k].2] false] = h2
      have o2 : h2[h1.length]? = some (.cells Zaj [.str gs[k].1, .str gs[k].2] false) := by rw [← hh2]; simp
      have s2 : Zaz h1.length h1 h2 := by rw [← hh2]; exact Zau
      have S2 := S1.cat s2
      have w2 := s2.get w1 (Own.lt w1)
      have p2 := s2.get p1 (Own.lt p1)
      simp only [Zaw]
      -- the end: the given against the need
      have fin : ∀ (g : Nd) (x3 : List Nat) (h3 : Zaa), Zaz h.length h h3 → h3[h1.length]? = some (.cells Zaj [.str g.1, .str g.2] false) → h3[h0.length]? = some (.cells Zaj [.str n.1, .str n.2] false) →
          evG (Zdb w) gs n k s = (if g = n then (evG.okE, x3) else (Zlc, [])) → Zbw.J12 (EvQ (evG (Zdb w) gs n k s) h) h1.length 0 h0.length 0 x3 h3 := by
        intro g x3 h3 S3 og op he
        apply Zbw.J12i
        simp only [Zbc og, Zbc op, Zan, Zae, Zap, Zaf, Ydp]
        rw [he]
        refine Zgj (fun hne => ?_) (fun heq => ?_)
        · rw [if_neg hne]; exact EvQ.bad S3 hgiv
        · rw [if_pos heq]; exact ⟨S3, x3, rfl, fun _ => rfl⟩
      match s with
      | [] =>
        simp only [decide_true, Bool.not_true, Zbd]
        exact fin gs[k] [] h2 S2 o2 p2 (by unfold evG; rw [dif_pos hkg])
      | d :: y =>
        simp only [reduceCtorEq, decide_false, Bool.not_false, Zbx, Yha]
        refine ⟨⟨by omega, by omega, by first | exact Zow | (simp; omega) | simp⟩, (Zxs [d]).mono ?_⟩
        rintro v h3 ⟨rfl, rfl⟩
        have hcls : Zsy [d] = decide (65 ≤ d ∧ d ≤ 84) := rfl
        have hevd : evG (Zdb w) gs n k (d :: y) = if 65 ≤ d ∧ d ≤ 84 then (if d ∈ Zdb w gs[k].1 then (if ([d], gs[k].2) = n then (evG.okE, y) else (Zlc, [])) else (Zlc, [])) else if gs[k] = n then (evG.okE, d :: y) else (Zlc, []) := by
          unfold evG; rw [dif_pos hkg]
        rw [hcls]
        simp only [Zai]
        refine Zal (fun hd => ?_) (fun hd => ?_)
        · simp only [Zsg w2, Zaq o2, Nat.zero_add, List.getElem?_cons_succ, List.getElem?_cons_zero, Zan, Zae, Zap, Zah, Zaf, true_and]
          refine ⟨⟨by omega, by omega, by first | exact Zow | (simp; omega) | simp⟩, (Yhk (s := gs[k].1) (r.same S2) b).mono ?_⟩
          rintro v h4 ⟨s4, sa, sn, sc, se, rfl, hrow4, _⟩
          have hsl := Zvg w gs[k].1
          have hsn : sn ≤ 20 := by have := hrow4.1; rw [← Yip, Zbe Ymn, List.length_map] at this; omega
          simp only [Zah]
          refine (Yat (x := [d]) hrow4 (by omega)).mono ?_
          rintro v h5 ⟨rfl, rfl⟩
          have hmem : ([d] ∈ (Zdb w gs[k].1).map one) ↔ d ∈ Zdb w gs[k].1 := by simp [one]
          have S4 := S2.cat s4
          have o4 := s4.get o2 (Own.lt o2)
          have p4 := s4.get p2 (Own.lt p2)
          simp only [Zai, true_and]
          refine Zgj (fun hno => ?_) (fun hyes => ?_)
          · rw [hevd, if_pos hd, if_neg (fun hh => hno (hmem.2 hh))]; exact EvQ.bad S4 hgiv
          · rw [Zcc o4 (by simp)]
            simp only [Zaw, putRow, List.take_zero, List.length_cons, List.length_nil, List.drop_succ_cons, List.drop_zero, List.cons_append, List.nil_append, Nat.zero_add, Ztm]
            refine ⟨⟨by omega, by omega, by first | exact Zow | (simp; omega) | simp⟩, ⟨by omega, by first | exact Zow | (simp; omega) | simp, by first | omega | simp⟩, ?_⟩
            have hsub : sub (d :: y) 1 ((y.length + 1 : Nat) : Int) = y := Ztm d y
            rw [hsub]
            refine fin ([d], gs[k].2) y _ (S4.set' (by omega)) (Zdi o4) (by rw [Zcr (by omega)]; exact p4) ?_
            rw [hevd, if_pos hd, if_pos (hmem.1 hyes)]
        · exact fin gs[k] (d :: y) h3 S2 o2 p2 (by rw [hevd, if_neg hd])
noncomputable def Zqd (w : Wd) (gs : List Nd) (n : Nd) (s : List Nat) : List Nat :=
  if Zjm w gs && Zga w n then (let r := evP (wk w) (Zdb w) gs (s.length + 1) n s; if r.1 = evG.okE ∧ r.2 ≠ [] then Ymu else r.1) else Yog
theorem Zwo {h : Zaa} {a0 a1 ga : Pt} {n0 c0 n1 c1 gn gc : Nat} {e0 e1 ge : Bool} {w : Wd} {gs : List Nd} {n : Nd} {s : List Nat} (r : Zmi h a0 n0 c0 a1 n1 c1 w) (b : WB w) (rg : Row h.length h ga (gn * 2) (Zff eP gs)) (hgn : gn ≤ 1048576) (hs : s.length ≤ 1048576) :
    Zad pg Zjy [.agg [.slice a0 n0 c0 e0, .slice a1 n1 c1 e1], .slice ga gn gc ge, .agg [.str n.1, .str n.2], .str s] h fun v h' => v = .str (Zqd w gs n s) ∧ Zaz h.length h h' := by
  apply Zge.call
  simp only [Zax]
  generalize hh0 : h ++ [Zcn.cells Zak [.slice a0 n0 c0 e0, .slice a1 n1 c1 e1] false] = h0
  generalize hh1 : h0 ++ [Zcn.cells Zaj [.str n.1, .str n.2] false] = h1
  have s0 : Zaz h.length h h0 := by rw [← hh0]; exact Zau
  have s1 : Zaz h0.length h0 h1 := by rw [← hh1]; exact Zau
  have w0 : h0[h.length]? = some (Zns a0 n0 c0 e0 a1 n1 c1 e1) := by rw [← hh0]; simp [Zns]
  have w1 := s1.get w0 (Own.lt w0)
  have p1 : h1[h0.length]? = some (.cells Zaj [.str n.1, .str n.2] false) := by rw [← hh1]; simp
  have S1 := s0.cat s1
  rw [Zsg w1]
  simp only [Zan, Zae, Zap, Zah]
  refine (Zws (l := gs) (r.same S1) b (rg.same' S1) hgn).mono ?_
  rintro v h2 ⟨rfl, s2⟩
  have S2 := S1.cat s2
  have w2 := s2.get w1 (Own.lt w1)
  have p2 := s2.get p1 (Own.lt p1)
  simp only [Zai]
  refine Zbs (fun hg => ⟨by unfold Zqd; rw [hg]; rfl, S2⟩) (fun hg => ?_)
  rw [Zsg w2, Zbc p2]
  simp only [Zan, Zae, Zap, Zah, Zaf]
  refine (Yan (ct := n.1) (tt := n.2) (r.same S2) b).mono ?_
  rintro v h3 ⟨rfl, s3⟩
  have S3 := S2.cat s3
  have w3 := s3.get w2 (Own.lt w2)
  have p3 := s3.get p2 (Own.lt p2)
  simp only [Zai]
  refine Zbs (fun hn => ⟨by unfold Zqd; rw [hg, hn]; rfl, S3⟩) (fun hn => ?_)
  have hg' := hg
  unfold Zjm at hg'
  simp only [Bool.and_eq_true, decide_eq_true_eq] at hg'
  have hgl : gs.length = gn := by have := rg.1; rw [Zbe Zdp] at this; omega
  apply Zge.J3i
  rw [Zsg w3, Zbc p3]
  simp only [Zan, Zae, Zap, Zah, Zaf]
  refine (Yjf b hg'.1.1 (by omega) (s.length + 1) s (by omega) hs (r.same S3) (rg.same' S3) hn).mono ?_
  rintro v h4 ⟨s4, rest, rfl, hrest⟩
  have S4 := S3.cat s4
  have hC : Zqd w gs n s = if (evP (wk w) (Zdb w) gs (s.length + 1) n s).1 = evG.okE ∧ (evP (wk w) (Zdb w) gs (s.length + 1) n s).2 ≠ [] then Ymu else (evP (wk w) (Zdb w) gs (s.length + 1) n s).1 := by unfold Zqd; rw [hg, hn]; rfl
  simp only [Zcw, Zae, Zaf, Zap]
  refine Zal (fun hok => ?_) (fun hno => ?_)
  · have hok' : (evP (wk w) (Zdb w) gs (s.length + 1) n s).1 = evG.okE := hok
    rw [hrest hok']
    refine Zgj (fun hr => ?_) (fun hr => ?_)
    · exact ⟨by rw [hC, if_pos ⟨hok', hr⟩]; rfl, S4⟩
    · apply Zge.J6i
      exact ⟨by rw [hC, if_neg (fun h => h.2 hr)], S4⟩
  · have hno' : ¬ (evP (wk w) (Zdb w) gs (s.length + 1) n s).1 = evG.okE := hno
    apply Zge.J6i
    exact ⟨by rw [hC, if_neg (fun h => hno' h.1)], S4⟩
end Go.Sim

set_option linter.unusedVariables false
set_option maxRecDepth 100000
namespace Go.Sim
open Go Go.RowKit
end Go.Sim

set_option linter.unusedVariables false
set_option linter.unusedSimpArgs false
set_option maxRecDepth 20000
namespace Go.Sim
open Go Go.RowKit

def ckr (a0 : Pt) (n0 c0 : Nat) (e0 : Bool) (a1 : Pt) (n1 c1 : Nat) (e1 : Bool) (ga : Pt) (gn gc : Nat) (ge : Bool) (s : List Nat) (k : Nat) : Zcn := .cells Zew [.slice a0 n0 c0 e0, .slice a1 n1 c1 e1, .slice ga gn gc ge, .str s, .int .i64 (k : Int)] false
def Zfq (s : List Nat) (k : Nat) : Nat := s.getD k 0
theorem Zpz {h : Zaa} {i : Nat} {a0 a1 ga : Pt} {n0 c0 n1 c1 gn gc : Nat} {e0 e1 ge : Bool} {s : List Nat} {k : Nat} (hi : h[i]? = some (ckr a0 n0 c0 e0 a1 n1 c1 e1 ga gn gc ge s k)) (hs : s.length ≤ 1048576) :
    Zad pg Zcz [.ptr (some (i, 0))] h fun v h' => v = .int .u8 (Zfq s k : Nat) ∧ h' = h := by
  unfold ckr at hi
  apply Zku.call
  simp only [Zav, Zaq hi, Nat.zero_add, List.getElem?_cons_succ, List.getElem?_cons_zero, Zao, Zaf, true_and]
  refine Zal (fun hge => ?_) (fun hlt => ?_)
  · refine ⟨?_, by trivial⟩
    unfold Zfq
    rw [List.getD_eq_getElem?_getD, List.getElem?_eq_none (by omega)]; rfl
  · refine ⟨⟨by omega, by omega⟩, ?_, by trivial⟩
    unfold Zfq
    rw [Int.toNat_natCast]
theorem Zhu {s : List Nat} {k : Nat} (h : k < s.length) : s.drop k = Zfq s k :: s.drop (k + 1) := by
  unfold Zfq
  rw [List.drop_eq_getElem_cons h, Zea h]
theorem Zus {s : List Nat} {k : Nat} (h : s.length ≤ k) : Zfq s k = 0 := by
  unfold Zfq; rw [List.getD_eq_getElem?_getD, List.getElem?_eq_none h]; rfl
theorem Zqa {s : List Nat} {k c : Nat} (h : Zfq s k = c) (hc : c ≠ 0) : k < s.length := by
  by_cases hk : k < s.length
  · exact hk
  · rw [Zus (by omega)] at h; exact absurd h.symm hc
def CkQ (i : Nat) (a0 : Pt) (n0 c0 : Nat) (e0 : Bool) (a1 : Pt) (n1 c1 : Nat) (e1 : Bool) (ga : Pt) (gn gc : Nat) (ge : Bool) (s : List Nat) (r : List Nat × List Nat) (h : Zaa) (v : Zar) (h' : Zaa) : Prop :=
  Zgc i h h' ∧ v = .str r.1 ∧ (r.1 = evG.okE → ∃ k', k' ≤ s.length ∧ h'[i]? = some (ckr a0 n0 c0 e0 a1 n1 c1 e1 ga gn gc ge s k') ∧ s.drop k' = r.2)
theorem CkQ.bad {i : Nat} {a0 a1 ga : Pt} {n0 c0 n1 c1 gn gc : Nat} {e0 e1 ge : Bool} {s : List Nat} {why : List Nat} {h h' : Zaa} (k : Zgc i h h') (hw : why ≠ evG.okE) : CkQ i a0 n0 c0 e0 a1 n1 c1 e1 ga gn gc ge s (why, []) h (.str why) h' := ⟨k, rfl, fun e => absurd e hw⟩
theorem Ymk (c : Nat) : Zrq [97, 98, 99, 100, 101, 102] c = if 97 ≤ c ∧ c ≤ 102 then ((c - 97 : Nat) : Int) else -1 := by
  by_cases h : c ∈ [97, 98, 99, 100, 101, 102]
  · simp at h
    rcases h with rfl | rfl | rfl | rfl | rfl | rfl <;> rfl
  · rw [Zsv h, if_neg]
    simp at h
    omega
theorem Ycp {u : Nat} (hu : u < 3) {K : Nat → Prop} : Zfg [40, 44, 44] (u : Int) K ↔ K (Zok u) := by
  match u, hu with
  | 0, _ => unfold Zfg; simp [Zok]
  | 1, _ => unfold Zfg; simp [Zok]
  | 2, _ => unfold Zfg; simp [Zok]
theorem Yex {h : Zaa} {i : Nat} {a0 a1 ga : Pt} {n0 c0 n1 c1 gn gc : Nat} {e0 e1 ge : Bool} {w : Wd} {gs : List Nd} {s : List Nat} {k : Nat} {n : Nd} (r : Zmi h a0 n0 c0 a1 n1 c1 w) (hri : ∀ h', Zgc i h h' → Zmi h' a0 n0 c0 a1 n1 c1 w) (b : WB w) (rg : ∀ h', Zgc i h h' → Row h'.length h' ga (gn * 2) (Zff eP gs)) (hgn : gn ≤ 6)
    (hi : h[i]? = some (ckr a0 n0 c0 e0 a1 n1 c1 e1 ga gn gc ge s k)) (hs : s.length ≤ 1048576) (hk : 97 ≤ Zfq s k ∧ Zfq s k ≤ 102) (hb : ∀ x ∈ s, x < 256) :
    Zad pg Zgx [.ptr (some (i, 0)), .agg [.str n.1, .str n.2]] h (CkQ i a0 n0 c0 e0 a1 n1 c1 e1 ga gn gc ge s (evG (Zdb w) gs n (Zfq s k - 97) (s.drop (k + 1))) h) := by
  have hkl := Zqa rfl (show Zfq s k ≠ 0 by omega)
  have hil := Own.lt hi
  have hgl : gs.length = gn := by have := (rg h (Zgc.of_same (Zaz.refl _ _))).1; rw [Zbe Zdp] at this; omega
  have hgiv : Zlc ≠ evG.okE := by decide
  apply Zfp.call
  simp only [Zax]
  generalize hh0 : h ++ [Zcn.cells Zaj [.str n.1, .str n.2] false] = h0
  have s0 : Zaz h.length h h0 := by rw [← hh0]; exact Zau
  have l0 : h0.length = h.length + 1 := by rw [← hh0]; simp
  have p0 : h0[h.length]? = some (.cells Zaj [.str n.1, .str n.2] false) := by rw [← hh0]; simp
  have i0 := s0.get hi hil
  refine (Zpz i0 hs).mono ?_
  rintro v h1 ⟨rfl, rfl⟩
  simp only [Zao]
  refine (Zpm [97, 98, 99, 100, 101, 102] (Zfq s k) (by simp)).mono ?_
  rintro v h1 ⟨rfl, rfl⟩
  rw [Ymk, if_pos hk]
  have i0' := i0
  unfold ckr at i0'
  simp only [Zao, Zav, Zaq i0', Nat.zero_add, List.getElem?_cons_succ, List.getElem?_cons_zero]
  rw [Zcc i0' (by simp), Zbm (by omega)]
  simp only [Zaw, putRow, List.take_succ_cons, List.take_zero, List.length_cons, List.length_nil, List.drop_succ_cons, List.drop_zero, List.drop_nil, List.cons_append, List.nil_append, List.append_nil]
  generalize hh2 : h1.set i (Zcn.cells Zew [.slice a0 n0 c0 e0, .slice a1 n1 c1 e1, .slice ga gn gc ge, .str s, .int .i64 ((k + 1 : Nat) : Int)] false) = h2
  have i2 : h2[i]? = some (ckr a0 n0 c0 e0 a1 n1 c1 e1 ga gn gc ge s (k + 1)) := by rw [← hh2]; exact Zdi i0
  have i2' := i2
  unfold ckr at i2'
  have K2 : Zgc i h h2 := by rw [← hh2]; exact (Zgc.of_same s0).trans (Zgc.set _ _ _)
  have l2 : h2.length = h1.length := by rw [← hh2]; simp
  have p2 : h2[h.length]? = some (.cells Zaj [.str n.1, .str n.2] false) := by rw [← hh2, Zcr (by omega)]; exact p0
  simp only [Zaq i2', Nat.zero_add, List.getElem?_cons_succ, List.getElem?_cons_zero, Zah]
  generalize hq : Zfq s k - 97 = q
  refine Zal (fun hbig => ?_) (fun hsml => ?_)
  · have : evG (Zdb w) gs n q (s.drop (k + 1)) = (Zlc, []) := by unfold evG; rw [dif_neg (by omega)]
    rw [this]; exact CkQ.bad K2 hgiv
  · have hqg : q < gs.length := by omega
    obtain ⟨jm, om2, hul, hga, _, hrm, _⟩ := (rg h2 K2).pr (k := q) (by omega)
    simp only [hga, Zav, Int.toNat_natCast, hrm, Zan, Zae, Zap, Zaf]
    rw [← hga, Zgd]
    refine ⟨by omega, ?_⟩
    generalize hh3 : h2 ++ [Zcn.cells Zaj [.str gs[q].1, .str gs[q].2] false] = h3
    have s3 : Zaz h2.length h2 h3 := by rw [← hh3]; exact Zau
    have o3 : h3[h2.length]? = some (.cells Zaj [.str gs[q].1, .str gs[q].2] false) := by rw [← hh3]; simp
    have i3 := s3.get i2 (Own.lt i2)
    have p3 := s3.get p2 (Own.lt p2)
    have K3 := K2.trans (Zgc.of_same s3)
    simp only [Zaw]
    refine (Zpz i3 hs).mono ?_
    rintro v h4 ⟨rfl, rfl⟩
    simp only [Zao]
    have hnb : Zfq s (k + 1) ≤ 255 := by
      by_cases hx : k + 1 < s.length
      · unfold Zfq; rw [Zea hx]; have := hb _ (List.getElem_mem hx); omega
      · rw [Zus (by omega)]; omega
    rw [IntWalk.i64_in _ (by omega)]
    refine Zxw.mono ?_
    rintro v h5 ⟨rfl, rfl⟩
    simp only [Zai]
    have fin : ∀ (g : Nd) (k3 : Nat) (h6 : Zaa), Zgc i h h6 → k3 ≤ s.length → h6[i]? = some (ckr a0 n0 c0 e0 a1 n1 c1 e1 ga gn gc ge s k3) → h6[h2.length]? = some (.cells Zaj [.str g.1, .str g.2] false) → h6[h.length]? = some (.cells Zaj [.str n.1, .str n.2] false) →
        evG (Zdb w) gs n q (s.drop (k + 1)) = (if g = n then (evG.okE, s.drop k3) else (Zlc, [])) → Zfp.J12 (CkQ i a0 n0 c0 e0 a1 n1 c1 e1 ga gn gc ge s (evG (Zdb w) gs n q (s.drop (k + 1))) h) h2.length 0 h.length 0 h6 := by
      intro g k3 h6 K6 hk3 i6 og op he
      apply Zfp.J12i
      simp only [Zbc og, Zbc op, Zan, Zae, Zap, Zaf, Ydp]
      rw [he]
      refine Zgj (fun hne => ?_) (fun heq => ?_)
      · rw [if_neg hne]; exact CkQ.bad K6 hgiv
      · rw [if_pos heq]; exact ⟨K6, rfl, fun _ => ⟨k3, hk3, i6, rfl⟩⟩
    refine Zal (fun hd => ?_) (fun hd => ?_)
    · have hd' : 65 ≤ Zfq s (k + 1) ∧ Zfq s (k + 1) ≤ 84 := by omega
      have hk1 := Zqa rfl (show Zfq s (k + 1) ≠ 0 by omega)
      have hdr := Zhu hk1
      have i3' := i3
      unfold ckr at i3'
      generalize hdd : Zfq s (k + 1) = d at hd' hdr
      have hevd : evG (Zdb w) gs n q (s.drop (k + 1)) = if d ∈ Zdb w gs[q].1 then (if ([d], gs[q].2) = n then (evG.okE, s.drop (k + 1 + 1)) else (Zlc, [])) else (Zlc, []) := by
        rw [hdr]; unfold evG; rw [dif_pos hqg]; simp only; rw [if_pos hd']
      have hsub : sub s ((k + 1 : Nat) : Int) ((k + 1 + 1 : Nat) : Int) = [d] := by
        rw [Ymg hk1]
        unfold Zfq at hdd
        rw [Zea hk1] at hdd
        rw [hdd]
      simp only [Zaq i3', Nat.zero_add, List.getElem?_cons_succ, List.getElem?_cons_zero, Zav, Zaf, Zao, true_and]
      rw [Zcc i3' (by simp), Zbm (by omega)]
      simp only [Zaw, putRow, List.take_succ_cons, List.take_zero, List.length_cons, List.length_nil, List.drop_succ_cons, List.drop_zero, List.drop_nil, List.cons_append, List.nil_append, List.append_nil]
      generalize hh6 : h5.set i (Zcn.cells Zew [.slice a0 n0 c0 e0, .slice a1 n1 c1 e1, .slice ga gn gc ge, .str s, .int .i64 ((k + 1 + 1 : Nat) : Int)] false) = h6
      have i6 : h6[i]? = some (ckr a0 n0 c0 e0 a1 n1 c1 e1 ga gn gc ge s (k + 1 + 1)) := by rw [← hh6]; exact Zdi i3
      have i6' := i6
      unfold ckr at i6'
      have K6 : Zgc i h h6 := by rw [← hh6]; exact K3.trans (Zgc.set _ _ _)
      have l6 : h6.length = h5.length := by rw [← hh6]; simp
      have o6 : h6[h2.length]? = some (.cells Zaj [.str gs[q].1, .str gs[q].2] false) := by rw [← hh6, Zcr (by omega)]; exact o3
      have p6 : h6[h.length]? = some (.cells Zaj [.str n.1, .str n.2] false) := by rw [← hh6, Zcr (by omega)]; exact p3
      rw [hsub]
      simp only [Yfp, Zee i6' (show 0 + 2 ≤ _ by simp), Zaq o6, Nat.zero_add, Nat.add_zero, List.drop_zero, List.take_succ_cons, List.take_zero, List.getElem?_cons_zero, Zan, Zae, Zap, Zah, Zaf, true_and]
      refine ⟨⟨by omega, by omega, by omega⟩, (Zzb (s := gs[q].1) (hri h6 K6) b).mono ?_⟩
      rintro v h7 ⟨rfl, s7⟩
      simp only [Zaf]
      refine (Zpm _ d (by have := Zvg w gs[q].1; omega)).mono ?_
      rintro v h8 ⟨rfl, rfl⟩
      have i7 := s7.get i6' (Own.lt i6')
      have o7 := s7.get o6 (Own.lt o6)
      have p7 := s7.get p6 (Own.lt p6)
      have K7 := K6.trans (Zgc.of_same s7)
      simp only [Zao, Zee i7 (show 0 + 2 ≤ _ by simp), Zee i6' (show 0 + 2 ≤ _ by simp), true_and]
      refine Zal (fun hno => ?_) (fun hyes => ?_)
      · have hnm : d ∉ Zdb w gs[q].1 := (Zxz _ _).1 hno
        rw [hevd, if_neg hnm]; exact CkQ.bad K7 hgiv
      · have hm : d ∈ Zdb w gs[q].1 := by
          by_cases hm : d ∈ Zdb w gs[q].1
          · exact hm
          · exact absurd ((Zxz _ _).2 hm) hyes
        rw [Zcc o7 (by simp)]
        simp only [Zaw, putRow, List.take_zero, List.length_cons, List.length_nil, List.drop_succ_cons, List.drop_zero, List.cons_append, List.nil_append, Nat.zero_add]
        have hi7l := Own.lt i6'
        have hp7l := Own.lt p6
        have hne1 : h2.length ≠ i := by omega
        refine fin ([d], gs[q].2) (k + 1 + 1) _ (K7.trans' (fun j hj => Zcr (by omega))) (by omega) (by rw [Zcr hne1]; exact i7) (Zdi o7) (by rw [Zcr (by omega)]; exact p7) ?_
        rw [hevd, if_pos hm]
    · have hd' : ¬ (65 ≤ Zfq s (k + 1) ∧ Zfq s (k + 1) ≤ 84) := by omega
      refine fin gs[q] (k + 1) h5 K3 (by omega) i3 o3 p3 ?_
      by_cases hx : k + 1 < s.length
      · rw [Zhu hx]; unfold evG; rw [dif_pos hqg]; simp only; rw [if_neg hd']
      · rw [List.drop_of_length_le (by omega)]; unfold evG; rw [dif_pos hqg]
end Go.Sim

set_option linter.unusedVariables false
set_option linter.unusedSimpArgs false
set_option maxRecDepth 20000
namespace Go.Sim
open Go Go.RowKit

theorem Yok {α : Type} {f : α → Bool} {l : List α} {k : Nat} (hk : k < l.length) (hf : f l[k] = true) : (k : Int) ∈ ixs f l := by
  unfold ixs
  refine List.mem_map.2 ⟨(l[k], k), List.mem_filter.2 ⟨?_, hf⟩, rfl⟩
  rw [List.mem_zipIdx_iff_getElem?]
  simp [List.getElem?_eq_getElem hk]
theorem Ykm {i : Nat} {a0 a1 ga : Pt} {n0 c0 n1 c1 gn gc : Nat} {e0 e1 ge : Bool} {w : Wd} {gs : List Nd} {s : List Nat} (b : WB w) (hw : Zfl w = true) (hgn : gn ≤ 6) (hs : s.length ≤ 1048576) (hb : ∀ x ∈ s, x < 256) : ∀ (f k : Nat), s.length - k < f → k ≤ s.length → ∀ {h : Zaa} {n : Nd}, h[i]? = some (ckr a0 n0 c0 e0 a1 n1 c1 e1 ga gn gc ge s k) → (∀ h', Zgc i h h' → Zmi h' a0 n0 c0 a1 n1 c1 w) → (∀ h', Zgc i h h' → Row h'.length h' ga (gn * 2) (Zff eP gs)) → Zga w n = true →
    Zad pg Zfo [.ptr (some (i, 0)), .agg [.str n.1, .str n.2]] h (CkQ i a0 n0 c0 e0 a1 n1 c1 e1 ga gn gc ge s (evP (wk w) (Zdb w) gs f n (s.drop k)) h) := by
  intro f
  induction f with
  | zero => intro k hf; omega
  | succ f ih =>
  intro k hf hk h n hi hri rg hnd
  have hil := Own.lt hi
  have hinst : ([105, 110, 115, 116, 97, 110, 99, 101] : List Nat) ≠ evG.okE := by decide
  have hparts : ([112, 97, 114, 116, 115] : List Nat) ≠ evG.okE := by decide
  have r0 := hri h (Zgc.of_same (Zaz.refl _ _))
  have hl1 := r0.len1
  have hw10 : w.is.length ≤ 10 := by unfold Zfl at hw; simp only [Bool.and_eq_true, decide_eq_true_eq] at hw; exact hw.1.2
  have hnb : ∀ j, Zfq s j ≤ 255 := by
    intro j
    by_cases hx : j < s.length
    · unfold Zfq; rw [Zea hx]; have := hb _ (List.getElem_mem hx); omega
    · rw [Zus (by omega)]; omega
  apply Zcv.call
  simp only [Zax]
  generalize hh0 : h ++ [Zcn.cells Zaj [.str n.1, .str n.2] false] = h0
  have s0 : Zaz h.length h h0 := by rw [← hh0]; exact Zau
  have l0 : h0.length = h.length + 1 := by rw [← hh0]; simp
  have p0 : h0[h.length]? = some (.cells Zaj [.str n.1, .str n.2] false) := by rw [← hh0]; simp
  have i0 := s0.get hi hil
  have K0 : Zgc i h h0 := Zgc.of_same s0
  refine (Zpz i0 hs).mono ?_
  rintro v h1 ⟨rfl, rfl⟩
  simp only [Zao]
  refine (Zpm [97, 98, 99, 100, 101, 102] (Zfq s k) (by simp)).mono ?_
  rintro v h1 ⟨rfl, rfl⟩
  simp only [Zao]
  have hx := Ymk (Zfq s k)
  by_cases hc : 97 ≤ Zfq s k ∧ Zfq s k ≤ 102
  · rw [if_pos hc] at hx
    rw [hx]
    refine Zal (fun _ => ?_) (fun h' => by omega)
    have hkl := Zqa rfl (show Zfq s k ≠ 0 by omega)
    have hev : evP (wk w) (Zdb w) gs (f + 1) n (s.drop k) = evG (Zdb w) gs n (Zfq s k - 97) (s.drop (k + 1)) := by
      rw [Zhu hkl]; conv => lhs; unfold evP
      simp only; rw [if_pos hc]
    rw [Zbc p0]
    simp only [Zan, Zae, Zap, Zaf]
    refine (Yex (n := n) (hri h1 K0) (fun h' k' => hri h' (K0.trans k')) b (fun h' k' => rg h' (K0.trans k')) hgn i0 hs hc hb).mono ?_
    rintro v h2 ⟨K2, rfl, hok⟩
    rw [← hev] at hok ⊢
    exact ⟨K0.trans K2, rfl, hok⟩
  rw [if_neg hc] at hx
  rw [hx]
  refine Zal (fun h' => by omega) (fun _ => ?_)
  refine (Zpz i0 hs).mono ?_
  rintro v h2 ⟨rfl, rfl⟩
  have i0' := i0
  unfold ckr at i0'
  simp only [Zao, Zav, Zaq i0', Nat.zero_add, List.getElem?_cons_succ, List.getElem?_cons_zero]
  rw [Zcc i0' (by simp), Zbm (by omega)]
  simp only [Zaw, putRow, List.take_succ_cons, List.take_zero, List.length_cons, List.length_nil, List.drop_succ_cons, List.drop_zero, List.drop_nil, List.cons_append, List.nil_append, List.append_nil]
  generalize hh3 : h2.set i (Zcn.cells Zew [.slice a0 n0 c0 e0, .slice a1 n1 c1 e1, .slice ga gn gc ge, .str s, .int .i64 ((k + 1 : Nat) : Int)] false) = h3
  have i3 : h3[i]? = some (ckr a0 n0 c0 e0 a1 n1 c1 e1 ga gn gc ge s (k + 1)) := by rw [← hh3]; exact Zdi i0
  have i3' := i3
  unfold ckr at i3'
  have K3 : Zgc i h h3 := by rw [← hh3]; exact K0.trans (Zgc.set _ _ _)
  have l3 : h3.length = h2.length := by rw [← hh3]; simp
  have p3 : h3[h.length]? = some (.cells Zaj [.str n.1, .str n.2] false) := by rw [← hh3, Zcr (by omega)]; exact p0
  have hwx : IntKind.wrap .i64 ((IntKind.wrap .i64 ((Zfq s k : Nat) : Int)) - 48) = (Zfq s k : Int) - 48 := by
    have := hnb k
    rw [IntWalk.i64_in ((Zfq s k : Nat) : Int) (by omega), IntWalk.i64_in _ (by omega)]
  have hwn : IntKind.wrap .i64 (((n1 : Nat) : Int) - 1) = (n1 : Int) - 1 := IntWalk.i64_in _ (by omega)
  rw [hwx]
  simp only [Zaq i3', Nat.zero_add, List.getElem?_cons_succ, List.getElem?_cons_zero, Zah]
  rw [hwn]
  refine Zxw.mono ?_
  rintro v h4 ⟨rfl, rfl⟩
  simp only [Zai]
  have hno : (∀ hq : 48 ≤ Zfq s k ∧ Zfq s k - 48 < n1, Zrj n w.is[Zfq s k - 48] = false) → evP (wk w) (Zdb w) gs (f + 1) n (s.drop k) = ([105, 110, 115, 116, 97, 110, 99, 101], []) := by
    intro hq
    by_cases hkl : k < s.length
    · rw [Zhu hkl]; conv => lhs; unfold evP
      simp only; rw [if_neg hc, if_neg]
      rintro ⟨h1, h2, h3⟩
      obtain ⟨j, hj, e, hf⟩ := Ygx h3
      have : Zfq s k - 48 = j := by omega
      subst this
      have := hq ⟨h1, by omega⟩
      rw [hf] at this; cases this
    · rw [List.drop_of_length_le (by omega)]; rfl
  refine Zgj (fun hout => ?_) (fun hin => ?_)
  · rw [hno (fun hq => absurd ⟨by omega, by omega⟩ hout)]
    exact ⟨by trivial, by trivial, by trivial, by trivial, by trivial, by trivial, by trivial, by trivial, by trivial, CkQ.bad K3 hinst⟩
  obtain ⟨q, hq⟩ : ∃ q : Nat, (Zfq s k : Int) - 48 = q := ⟨Zfq s k - 48, by omega⟩
  have hq' : Zfq s k - 48 = q := by omega
  have hq1 : q < n1 := by omega
  have hql : q < w.is.length := by omega
  have hkl := Zqa rfl (show Zfq s k ≠ 0 by omega)
  rw [hq]
  have w3 := hri h4 K3
  obtain ⟨ii, oi, hki, na, nn, ncp, ne, ha1, _, hrow3, hc0, hc1, hc2, hrow, hnl⟩ := w3.inst (k := q) hq1
  simp only [Zaq i3', Zaq p3, Nat.zero_add, Nat.add_zero, List.getElem?_cons_succ, List.getElem?_cons_zero, Zah, Zav, ha1, Int.toNat_natCast, hc0, hc1, Zaf, true_and]
  rw [← ha1]
  have hF : Zrj n w.is[q] = (decide (w.is[q].1.1 = n.1) && Zoc w.is[q].1.2 n.2) := rfl
  refine ⟨by omega, Zgj (fun hcl => ?_) (fun hcl => ?_)⟩
  · rw [hno (fun hqq => by simp only [hq']; rw [hF, decide_eq_false hcl]; rfl)]
    exact CkQ.bad K3 hinst
  have hbi := b.is _ (List.getElem_mem hql)
  have hty := Yfl hnd
  refine ⟨by first | trivial | omega | simp, ?_⟩
  refine (Zwl w.is[q].1.2 n.2 hbi.2.1 (by omega) _).mono ?_
  rintro v h5 ⟨rfl, s5⟩
  have i5 := s5.get i3' (Own.lt i3')
  have p5 := s5.get p3 (Own.lt p3)
  have K5 := K3.trans (Zgc.of_same s5)
  have w5 := hri h5 K5
  obtain ⟨ii5, oi5, _, na5, nn5, nc5, ne5, ha5, _, hr5, h50, h51, h52, hrow5, hnl5⟩ := w5.inst (k := q) hq1
  have hio : ii5 = ii ∧ oi5 = oi := by rw [ha1] at ha5; cases ha5; exact ⟨rfl, rfl⟩
  obtain ⟨rfl, rfl⟩ := hio
  simp only [Zai, Zaq i5, Zaq i3', hc0, hc1, h50, h51, Nat.add_zero, Nat.zero_add, List.getElem?_cons_succ, List.getElem?_cons_zero, true_and]
  refine Zbs (fun hns => ?_) (fun hyes => ?_)
  · rw [hno (fun hqq => by simp only [hq']; rw [hF, hns, Bool.and_false])]
    exact CkQ.bad K5 hinst
  have hcq : ((Zfq s k - 48 : Nat) : Int) ∈ (wk w).cand n := by
    rw [hq']; exact Yok hql (by rw [hF, hyes, decide_eq_true hcl]; rfl)
  have hev : evP (wk w) (Zdb w) gs (f + 1) n (s.drop k) = (match Zhk w.is[q] n.2 with
         | none => ([98, 105, 103], [])
         | some ms => evL (evP (wk w) (Zdb w) gs f) ms 0 (s.drop (k + 1))) := by
    rw [Zhu hkl]; conv => lhs; unfold evP
    simp only
    rw [if_neg hc, if_pos ⟨by omega, by omega, hcq⟩, hq']
    show (match Zhk (Ycf w (q : Int)) n.2 with | none => _ | some ms => _) = _
    rw [Ydo hql]
  apply Zcv.J7i
  simp only [Zav, Zaq i5, Nat.add_zero, Nat.zero_add, List.getElem?_cons_succ, List.getElem?_cons_zero, Zah, ha1, Int.toNat_natCast, hr5, Zan, Zae, Zap, Zaf, Zaq p5, true_and]
  rw [← ha1]
  refine ⟨by omega, ?_⟩
  refine (Yhn (i := w.is[q]) (t := n.2) hrow5 (by omega) hbi.2.1 (by omega) (fun p hp => (hbi.2.2.2 p hp).2)).mono ?_
  rintro v h6 ⟨s6, ma, mn, mc, me, rfl, fm⟩
  have i6 := s6.get i5 (Own.lt i5)
  have K6 := K5.trans (Zgc.of_same s6)
  simp only [Zcw, Zae, Zah, Zai, Zap, Zaq i6, Zaq i5, Nat.zero_add, List.getElem?_cons_succ, List.getElem?_cons_zero, true_and]
  cases hh : Zhk w.is[q] n.2 with
  | none =>
    rw [hh] at hev
    simp only [Option.isSome_none, Bool.not_false, Zbx]
    rw [hev]
    exact CkQ.bad K6 (by decide)
  | some ms =>
  rw [hh] at fm hev
  simp only [Option.getD_some] at fm
  simp only at hev
  have hms3 := Yac hw hql hh
  have hmn := fm.1
  have hm3 := hms3.1
  simp only [Option.isSome_some, Bool.not_true, Zbd]
  rw [hev]
  refine Zcv.L11ind (J := fun (u : Nat) x88 h' => x88 = (u : Int) ∧ u ≤ mn ∧ Zgc i h6 h' ∧ ∃ k1, k < k1 ∧ k1 ≤ s.length ∧ h'[i]? = some (ckr a0 n0 c0 e0 a1 n1 c1 e1 ga gn gc ge s k1) ∧ evL (evP (wk w) (Zdb w) gs f) (ms.drop u) u (s.drop k1) = evL (evP (wk w) (Zdb w) gs f) ms 0 (s.drop (k + 1))) (m := fun u => mn - u) (hr := ?_) (g := 0) (hj := ⟨rfl, by omega, Zgc.of_same (Zaz.refl _ _), k + 1, by omega, by omega, i6, by rw [List.drop_zero]⟩) ..
  rintro u x88 h7 ⟨rfl, hu, K7, k1, hk1, hk1s, i7, hevl⟩ R hR
  have K7' := K6.trans K7
  unfold Zcv.L11t
  refine Zal (fun hlt => ?_) (fun hge => ?_)
  · have fm7 : Zel Zaj eP h5.length h7 ma mn ms := fm.keep (Nat.le_refl _) fun j hj hj' => K7.eq j hj' (by have := Own.lt i5; omega)
    obtain ⟨jm, om2, hul, hma, _, hrm, _⟩ := (fm7.row Zdp).pr (k := u) (by omega)
    simp only [hma, Zav, Int.toNat_natCast, hrm, Zan, Zae, Zap, Zaf, Zax]
    rw [← hma, Zgd]
    refine ⟨by omega, ?_⟩
    generalize hh8 : h7 ++ [Zcn.cells Zaj [.str ms[u].1, .str ms[u].2] false] = h8
    have o8 : h8[h7.length]? = some (.cells Zaj [.str ms[u].1, .str ms[u].2] false) := by rw [← hh8]; simp
    have s8 : Zaz h7.length h7 h8 := by rw [← hh8]; exact Zau
    have i8 := s8.get i7 (Own.lt i7)
    have K8 := K7'.trans (Zgc.of_same s8)
    have hdu : ms.drop u = ms[u] :: ms.drop (u + 1) := List.drop_eq_getElem_cons hul
    rw [hdu] at hevl
    simp only [Zaw]
    rw [Ycp (by omega)]
    refine (Zpz i8 hs).mono ?_
    rintro v h9 ⟨rfl, rfl⟩
    simp only [Zao]
    rw [← hevl]
    refine Zfs (fun hne => ?_) (fun heq => ?_)
    · have : evL (evP (wk w) (Zdb w) gs f) (ms[u] :: ms.drop (u + 1)) u (s.drop k1) = ([112, 97, 114, 116, 115], []) := by
        by_cases hx1 : k1 < s.length
        · rw [Zhu hx1]; unfold evL; simp only
          rw [if_neg (by intro e; exact hne (by rw [e]))]
        · have hd0 : s.drop k1 = [] := List.drop_of_length_le (by omega)
          rw [hd0]; rfl
      rw [this]
      exact CkQ.bad K8 hparts
    · have hmk : Zfq s k1 = Zok u := by omega
      have hm0 : Zok u ≠ 0 := by unfold Zok; split <;> decide
      have hk1l := Zqa hmk hm0
      have i8' := i8
      unfold ckr at i8'
      simp only [Zav, Zaq i8', Nat.zero_add, List.getElem?_cons_succ, List.getElem?_cons_zero, Zao]
      rw [Zcc i8' (by simp), Zbm (by omega)]
      simp only [Zaw, putRow, List.take_succ_cons, List.take_zero, List.length_cons, List.length_nil, List.drop_succ_cons, List.drop_zero, List.drop_nil, List.cons_append, List.nil_append, List.append_nil]
      generalize hhA : h9.set i (Zcn.cells Zew [.slice a0 n0 c0 e0, .slice a1 n1 c1 e1, .slice ga gn gc ge, .str s, .int .i64 ((k1 + 1 : Nat) : Int)] false) = hA
      have iA : hA[i]? = some (ckr a0 n0 c0 e0 a1 n1 c1 e1 ga gn gc ge s (k1 + 1)) := by rw [← hhA]; exact Zdi i8
      have KA : Zgc i h hA := by rw [← hhA]; exact K8.trans (Zgc.set _ _ _)
      have hi7 := Own.lt i6
      have oA : hA[h7.length]? = some (.cells Zaj [.str ms[u].1, .str ms[u].2] false) := by rw [← hhA, Zcr (by have := K7.le; omega)]; exact o8
      have K7A : Zgc i h6 hA := by rw [← hhA]; exact K7.trans ((Zgc.of_same s8).trans (Zgc.set _ _ _))
      rw [Zbc oA]
      simp only [Zan, Zae, Zap, Zaf]
      refine (ih (k1 + 1) (by omega) (by omega) (n := ms[u]) iA (fun h' k' => hri h' (KA.trans k')) (fun h' k' => rg h' (KA.trans k')) (hms3.2 _ (List.getElem_mem hul))).mono ?_
      rintro v hB ⟨KB, rfl, hok⟩
      simp only [Zaf]
      have hstep : evL (evP (wk w) (Zdb w) gs f) (ms[u] :: ms.drop (u + 1)) u (s.drop k1) = if (evP (wk w) (Zdb w) gs f ms[u] (s.drop (k1 + 1))).1 = evG.okE then evL (evP (wk w) (Zdb w) gs f) (ms.drop (u + 1)) (u + 1) (evP (wk w) (Zdb w) gs f ms[u] (s.drop (k1 + 1))).2 else ((evP (wk w) (Zdb w) gs f ms[u] (s.drop (k1 + 1))).1, []) := by
        rw [Zhu hk1l, hmk]
        show (if Zok u = Zok u then _ else _) = _
        rw [if_pos rfl]
      rw [hstep]
      refine Zgj (fun hbad => ?_) (fun hgood => ?_)
      · have hbad' : ¬ (evP (wk w) (Zdb w) gs f ms[u] (s.drop (k1 + 1))).1 = evG.okE := hbad
        rw [if_neg hbad']
        exact CkQ.bad (KA.trans KB) hbad'
      · have hgood' : (evP (wk w) (Zdb w) gs f ms[u] (s.drop (k1 + 1))).1 = evG.okE := hgood
        obtain ⟨k2, hk2, i2, hd2⟩ := hok hgood'
        have hlen := Zst (wk w) (Zdb w) gs f ms[u] (s.drop (k1 + 1)) hgood'
        rw [← hd2] at hlen
        simp only [List.length_drop] at hlen
        rw [Zbm (by omega)]
        have hX : evL (evP (wk w) (Zdb w) gs f) (ms.drop (u + 1)) (u + 1) (s.drop k2) = evL (evP (wk w) (Zdb w) gs f) ms 0 (s.drop (k + 1)) := by
          rw [← hevl, hstep, if_pos hgood', hd2]
        exact hR (u + 1) _ _ (by omega) ⟨rfl, by omega, K7A.trans KB, k2, by omega, hk2, i2, hX⟩
  · have hun : u = mn := by omega
    subst hun
    have hdr : ms.drop u = [] := List.drop_of_length_le (by omega)
    rw [hdr] at hevl
    apply Zcv.A11x0i
    rw [← hevl]
    refine Zal (fun hpos => ?_) (fun h0 => ?_)
    · have hE : evL (evP (wk w) (Zdb w) gs f) [] u (s.drop k1) = Zyi (s.drop k1) := by unfold evL; rw [if_neg (by omega)]
      rw [hE]
      refine (Zpz i7 hs).mono ?_
      rintro v h8 ⟨rfl, rfl⟩
      simp only [Zao]
      refine Zfs (fun hne => ?_) (fun heq => ?_)
      · have : Zyi (s.drop k1) = ([112, 97, 114, 116, 115], []) := by
          apply Yds
          intro r hr
          apply hne
          by_cases hx1 : k1 < s.length
          · rw [Zhu hx1] at hr; injection hr with e1; rw [e1]; rfl
          · rw [List.drop_of_length_le (by omega)] at hr; cases hr
        rw [this]
        exact CkQ.bad K7' hparts
      · have hmk : Zfq s k1 = 41 := by omega
        have hk1l := Zqa hmk (by omega)
        have : Zyi (s.drop k1) = (evG.okE, s.drop (k1 + 1)) := by rw [Zhu hk1l, hmk]; rfl
        rw [this]
        have i7' := i7
        unfold ckr at i7'
        simp only [Zav, Zaq i7', Nat.zero_add, List.getElem?_cons_succ, List.getElem?_cons_zero, Zao]
        rw [Zcc i7' (by simp), Zbm (by omega)]
        simp only [Zaw, putRow, List.take_succ_cons, List.take_zero, List.length_cons, List.length_nil, List.drop_succ_cons, List.drop_zero, List.drop_nil, List.cons_append, List.nil_append, List.append_nil]
        apply Zcv.J24i
        exact ⟨K7'.trans (Zgc.set _ _ _), rfl, fun _ => ⟨k1 + 1, by omega, Zdi i7, rfl⟩⟩
    · have hE : evL (evP (wk w) (Zdb w) gs f) [] u (s.drop k1) = (evG.okE, s.drop k1) := by unfold evL; rw [if_pos (by omega)]
      rw [hE]
      apply Zcv.J24i
      exact ⟨K7', rfl, fun _ => ⟨k1, by omega, i7, rfl⟩⟩
theorem Zwi {h : Zaa} {a0 a1 ga : Pt} {n0 c0 n1 c1 gn gc : Nat} {e0 e1 ge : Bool} {w : Wd} {gs : List Nd} {n : Nd} {s : List Nat} (r : Zmi h a0 n0 c0 a1 n1 c1 w) (b : WB w) (rg : Row h.length h ga (gn * 2) (Zff eP gs)) (hgn : gn ≤ 1048576) (hls : ∀ p ∈ gs, p.2.length ≤ 1048576) (hnt : n.2.length ≤ 1048576) (hs : s.length ≤ 1048576) (hb : ∀ x ∈ s, x < 256) :
    Zad pg Zkg [.agg [.slice a0 n0 c0 e0, .slice a1 n1 c1 e1], .slice ga gn gc ge, .agg [.str n.1, .str n.2], .str s] h fun v h' => v = .str (Zqd w gs n s) ∧ Zaz h.length h h' := by
  apply Zgf.call
  simp only [Zax]
  generalize hh0 : h ++ [Zcn.cells Zak [.slice a0 n0 c0 e0, .slice a1 n1 c1 e1] false] = h0
  generalize hh1 : h0 ++ [Zcn.cells Zaj [.str n.1, .str n.2] false] = h1
  have s0 : Zaz h.length h h0 := by rw [← hh0]; exact Zau
  have s1 : Zaz h0.length h0 h1 := by rw [← hh1]; exact Zau
  have w0 : h0[h.length]? = some (Zns a0 n0 c0 e0 a1 n1 c1 e1) := by rw [← hh0]; simp [Zns]
  have w1 := s1.get w0 (Own.lt w0)
  have p1 : h1[h0.length]? = some (.cells Zaj [.str n.1, .str n.2] false) := by rw [← hh1]; simp
  have S1 := s0.cat s1
  rw [Zsg w1]
  simp only [Zan, Zae, Zap, Zah]
  refine (Zvr (l := gs) (r.same S1) b (rg.same' S1) hgn hls).mono ?_
  rintro v h2 ⟨rfl, s2⟩
  have S2 := S1.cat s2
  have w2 := s2.get w1 (Own.lt w1)
  have p2 := s2.get p1 (Own.lt p1)
  simp only [Zai]
  refine Zbs (fun hg => ⟨by unfold Zqd; rw [hg]; rfl, S2⟩) (fun hg => ?_)
  have hg' := hg
  unfold Zjm at hg'
  simp only [Bool.and_eq_true, decide_eq_true_eq] at hg'
  have hgl : gs.length = gn := by have := rg.1; rw [Zbe Zdp] at this; omega
  rw [Zsg w2, Zbc p2]
  simp only [Zan, Zae, Zap, Zah, Zaf]
  refine (Ztf (ct := n.1) (tt := n.2) (r.same S2) b hnt).mono ?_
  rintro v h3 ⟨rfl, s3⟩
  have S3 := S2.cat s3
  have w3 := s3.get w2 (Own.lt w2)
  have p3 := s3.get p2 (Own.lt p2)
  simp only [Zai]
  rw [hg'.1.1, Bool.true_and]
  refine Zbs (fun hn => ⟨by unfold Zqd; rw [hg, hn]; rfl, S3⟩) (fun hn => ?_)
  apply Zgf.J3i
  rw [Zsg w3]
  simp only [Zan, Zae, Zap, Zah, Zax]
  generalize hh4 : h3 ++ [Zcn.cells Zew [.slice a0 n0 c0 e0, .slice a1 n1 c1 e1, .slice ga gn gc ge, .str s, .int .i64 0] false] = h4
  have s4 : Zaz h3.length h3 h4 := by rw [← hh4]; exact Zau
  have i4 : h4[h3.length]? = some (ckr a0 n0 c0 e0 a1 n1 c1 e1 ga gn gc ge s 0) := by rw [← hh4]; simp [ckr]
  have l4 : h4.length = h3.length + 1 := by rw [← hh4]; simp
  have p4 := s4.get p3 (Own.lt p3)
  rw [Zbc p4]
  simp only [Zan, Zae, Zap, Zaf]
  have below : ∀ h', Zgc h3.length h4 h' → Zaz h3.length h3 h' := fun h' k => ⟨Nat.le_trans s4.le k.le, fun j hj => by rw [k.eq j (by omega) (by omega)]; exact s4.eq j hj⟩
  have chk := Ykm (i := h3.length) (a0 := a0) (a1 := a1) (ga := ga) (n0 := n0) (c0 := c0) (n1 := n1) (c1 := c1) (gn := gn) (gc := gc) (e0 := e0) (e1 := e1) (ge := ge) (w := w) (gs := gs) (s := s) b hg'.1.1 (by omega) hs hb (s.length + 1) 0 (by omega) (by omega) (h := h4) (n := n) i4 (fun h' k => (r.same S3).same (below h' k)) (fun h' k => (rg.same' S3).same' (below h' k)) hn
  refine chk.mono ?_
  rintro v h5 ⟨K5, rfl, hok⟩
  rw [List.drop_zero] at hok ⊢
  have S5 := S3.cat (below h5 K5)
  have hC : Zqd w gs n s = if (evP (wk w) (Zdb w) gs (s.length + 1) n s).1 = evG.okE ∧ (evP (wk w) (Zdb w) gs (s.length + 1) n s).2 ≠ [] then Ymu else (evP (wk w) (Zdb w) gs (s.length + 1) n s).1 := by unfold Zqd; rw [hg, hn]; rfl
  simp only [Zaf]
  refine Zal (fun ho => ?_) (fun hno => ?_)
  · have hok' : (evP (wk w) (Zdb w) gs (s.length + 1) n s).1 = evG.okE := ho
    obtain ⟨k', hk', i5, hd⟩ := hok hok'
    unfold ckr at i5
    simp only [Zaq i5, Nat.zero_add, List.getElem?_cons_succ, List.getElem?_cons_zero, Zao]
    refine Zfs (fun hr => ?_) (fun hr => ?_)
    · exact ⟨by rw [hC, if_pos ⟨hok', by rw [← hd]; intro he; have := congrArg List.length he; simp only [List.length_drop, List.length_nil] at this; omega⟩]; rfl, S5⟩
    · apply Zgf.J7i
      exact ⟨by rw [hC, if_neg (fun hh => hh.2 (by rw [← hd]; exact List.drop_of_length_le (by omega)))], S5⟩
  · have hno' : ¬ (evP (wk w) (Zdb w) gs (s.length + 1) n s).1 = evG.okE := hno
    apply Zgf.J7i
    exact ⟨by rw [hC, if_neg (fun hh => hno' hh.1)], S5⟩
end Go.Sim

set_option linter.unusedVariables false
set_option linter.unusedSimpArgs false
set_option maxRecDepth 20000
namespace Go.Sim
open Go Go.RowKit

theorem lawCheckGiven {h : Zaa} {a0 a1 : Pt} {n0 c0 n1 c1 : Nat} {e0 e1 : Bool} {w : Wd} {ag0 : Pt} {ng0 cg0 : Nat} {eg0 : Bool} {gl0 : List Nd} {nd1 : Nd} {s2 : List Nat} (r : Zmi h a0 n0 c0 a1 n1 c1 w) (hb : Yos w) (rg0 : Row h.length h ag0 (ng0 * 2) (Zff eP gl0)) (hng0 : Zqs ng0) (hbl0 : ∀ p ∈ gl0, Zqs p.1.length ∧ Zqs p.2.length) (hb1 : Ymo nd1) (hb2 : Zqs s2.length) (hby2 : ∀ b ∈ s2, b < 256) :
    Zad pg Zis [.agg [.slice a0 n0 c0 e0, .slice a1 n1 c1 e1], .slice ag0 ng0 cg0 eg0, .agg [.str nd1.1, .str nd1.2], .str s2] h fun v _ => v = .bool true := by
  apply Ziv.call
  simp only [Zax]
  generalize hg0 : h ++ [Zcn.cells Zer [.slice a0 n0 c0 e0, .slice a1 n1 c1 e1] false] = g0
  have sg0 : Zaz h.length h g0 := by rw [← hg0]; exact Zau
  have xw0 : g0[h.length]? = some (.cells Zer [.slice a0 n0 c0 e0, .slice a1 n1 c1 e1] false) := by rw [← hg0]; simp
  generalize hg1 : g0 ++ [Zcn.cells Zke [.str nd1.1, .str nd1.2] false] = g1
  have sg1 : Zaz g0.length g0 g1 := by rw [← hg1]; exact Zau
  have xw_g1 := sg1.get xw0 (Own.lt xw0)
  have S_g1 := sg0.cat sg1
  have xn1_g1 : g1[g0.length]? = some (.cells Zke [.str nd1.1, .str nd1.2] false) := by rw [← hg1]; simp
  try simp only [Zbc xw_g1, Zbc xn1_g1, Zan, Zae, Zap, Zah, Zaf, Zdl, Zao, Zai, Zcw, Zaw, true_and]
  refine Zal (fun _ => by trivial) (fun hge2 => ?_)
  have hst2 : s2.length ≤ 1048576 := by omega
  refine (Yfr (r.same S_g1) hb (x := 1048576) (by omega)).mono ?_
  rintro v k11 ⟨y, rfl, sk11, hy⟩
  have xw_k11 := sk11.get xw_g1 (Own.lt xw_g1)
  have xn1_k11 := sk11.get xn1_g1 (Own.lt xn1_g1)
  have S_k11 := S_g1.cat sk11
  simp only [Zao]
  refine Zal (fun _ => by trivial) (fun hge => ?_)
  have hyy := hy (by omega)
  have b : WB w := .of hb (by omega)
  have hgll0 : gl0.length = ng0 := by have := rg0.1; rw [Zbe Zdp] at this; omega
  unfold Zqs at hng0
  try simp only [Zbc xw_k11, Zbc xn1_k11, Zbc xw_g1, Zbc xn1_g1, Zan, Zae, Zap, Zah, Zaf, Zdl, Zao, Zai, Zcw, Zaw, true_and]
  refine (Zxt (rg0.same' S_k11) hbl0 (by omega) (Zgz := y) (by omega)).mono ?_
  rintro v k12 ⟨z0, rfl, sk12, hz0⟩
  have xw_k12 := sk12.get xw_k11 (Own.lt xw_k11)
  have xn1_k12 := sk12.get xn1_k11 (Own.lt xn1_k11)
  have S_k12 := S_k11.cat sk12
  simp only [Zao]
  refine Zal (fun _ => by trivial) (fun hge0 => ?_)
  have hzz0 := hz0 (by omega)
  have hgt0 : ∀ p ∈ gl0, p.2.length ≤ 1048576 := fun p hp => by
    obtain ⟨q, hq, rfl⟩ := List.mem_iff_getElem.1 hp
    have := Zxy hq; omega
  have hgn0 : ng0 ≤ 1048576 := by omega
  have hbl1 := hb1.1
  have hbm1 := hb1.2.1
  unfold Zqs at hbl1 hbm1
  try simp only [Zbc xw_k12, Zbc xn1_k12, Zbc xw_k11, Zbc xn1_k11, Zan, Zae, Zap, Zah, Zaf, Zdl, Zao, Zai, Zcw, Zaw, true_and]
  refine (Zvj hbl1 hbm1 (x := z0) (by omega)).mono ?_
  rintro v k13 ⟨z1, rfl, sk13, hz1⟩
  have xw_k13 := sk13.get xw_k12 (Own.lt xw_k12)
  have xn1_k13 := sk13.get xn1_k12 (Own.lt xn1_k12)
  have S_k13 := S_k12.cat sk13
  simp only [Zao]
  refine Zal (fun _ => by trivial) (fun hge1 => ?_)
  have hzz1 := hz1 (by omega)
  have hnt1 : nd1.2.length ≤ 1048576 := by omega
  have hnc1 : nd1.1.length ≤ 1048576 := by omega
  try simp only [Zbc xw_k13, Zbc xn1_k13, Zbc xw_k12, Zbc xn1_k12, Zan, Zae, Zap, Zah, Zaf, Zdl, Zao, Zai, Zcw, Zaw, true_and]
  refine (Zsm (r.same S_k13) b).mono ?_
  rintro v k14 ⟨b0, d0, f0, b1, d1, f1, ys, rfl, hd0, hd1, sk14, W3⟩
  have xw_k14 := sk14.get xw_k13 (Own.lt xw_k13)
  have xn1_k14 := sk14.get xn1_k13 (Own.lt xn1_k13)
  have S_k14 := S_k13.cat sk14
  try simp only [Zbc xw_k14, Zbc xn1_k14, Zbc xw_k13, Zbc xn1_k13, Zan, Zae, Zap, Zah, Zaf, Zdl, Zao, Zai, Zcw, Zaw, true_and]
  refine (Zrc (rg0.same' S_k14) (by omega)).mono ?_
  rintro v k15 ⟨ab0_15, cb0_15, eb0_15, rfl, sk15, FB0_15, hcb0_15⟩
  have xw_k15 := sk15.get xw_k14 (Own.lt xw_k14)
  have xn1_k15 := sk15.get xn1_k14 (Own.lt xn1_k14)
  have S_k15 := S_k14.cat sk15
  try simp only [Zbc xw_k15, Zbc xn1_k15, Zbc xw_k14, Zbc xn1_k14, Zan, Zae, Zap, Zah, Zaf, Zdl, Zao, Zai, Zcw, Zaw, true_and]
  refine (Zrn (c := nd1.1) (t := nd1.2)).mono ?_
  rintro v k16 ⟨rfl, sk16⟩
  have xw_k16 := sk16.get xw_k15 (Own.lt xw_k15)
  have xn1_k16 := sk16.get xn1_k15 (Own.lt xn1_k15)
  have S_k16 := S_k15.cat sk16
  try simp only [Zbc xw_k16, Zbc xn1_k16, Zbc xw_k15, Zbc xn1_k15, Zan, Zae, Zap, Zah, Zaf, Zdl, Zao, Zai, Zcw, Zaw, true_and]
  refine (Zwi (((W3.rep hd0 hd1).same sk15).same sk16) b (((FB0_15).same sk16).row Zdp) hgn0 hgt0 hnt1 hst2 hby2).mono ?_
  rintro v k17 ⟨rfl, sk17⟩
  have xw_k17 := sk17.get xw_k16 (Own.lt xw_k16)
  have xn1_k17 := sk17.get xn1_k16 (Own.lt xn1_k16)
  have S_k17 := S_k16.cat sk17
  try simp only [Zbc xw_k17, Zbc xn1_k17, Zbc xw_k16, Zbc xn1_k16, Zan, Zae, Zap, Zah, Zaf, Zdl, Zao, Zai, Zcw, Zaw, true_and]
  refine (Zsm (r.same S_k17) b).mono ?_
  rintro v k18 ⟨p0, q0, g0', p1, q1, g1', zs, rfl, hq0, hq1, sk18, W6⟩
  have xw_k18 := sk18.get xw_k17 (Own.lt xw_k17)
  have xn1_k18 := sk18.get xn1_k17 (Own.lt xn1_k17)
  have S_k18 := S_k17.cat sk18
  try simp only [Zbc xw_k18, Zbc xn1_k18, Zbc xw_k17, Zbc xn1_k17, Zan, Zae, Zap, Zah, Zaf, Zdl, Zao, Zai, Zcw, Zaw, true_and]
  rw [Zgd]
  generalize hg2 : k18 ++ [Zcn.cells Zak [.slice p0 n0 q0 g0', .slice p1 n1 q1 g1'] false] = g2
  have sg2 : Zaz k18.length k18 g2 := by rw [← hg2]; exact Zau
  have xw_g2 := sg2.get xw_k18 (Own.lt xw_k18)
  have xn1_g2 := sg2.get xn1_k18 (Own.lt xn1_k18)
  have S_g2 := S_k18.cat sg2
  have xi_g2 : g2[k18.length]? = some (.cells Zak [.slice p0 n0 q0 g0', .slice p1 n1 q1 g1'] false) := by rw [← hg2]; simp
  try simp only [Zbc xw_g2, Zbc xn1_g2, Zbc xi_g2, Zbc xw_k17, Zbc xn1_k17, Zan, Zae, Zap, Zah, Zaf, Zdl, Zao, Zai, Zcw, Zaw, true_and]
  have W7 := W6.same sg2
  refine (Zrc (rg0.same' S_g2) (by omega)).mono ?_
  rintro v k19 ⟨ab0_19, cb0_19, eb0_19, rfl, sk19, FB0_19, hcb0_19⟩
  have xw_k19 := sk19.get xw_g2 (Own.lt xw_g2)
  have xn1_k19 := sk19.get xn1_g2 (Own.lt xn1_g2)
  have xi_k19 := sk19.get xi_g2 (Own.lt xi_g2)
  have S_k19 := S_g2.cat sk19
  try simp only [Zbc xw_k19, Zbc xn1_k19, Zbc xi_k19, Zbc xw_g2, Zbc xn1_g2, Zbc xi_g2, Zan, Zae, Zap, Zah, Zaf, Zdl, Zao, Zai, Zcw, Zaw, true_and]
  refine (Zrn (c := nd1.1) (t := nd1.2)).mono ?_
  rintro v k20 ⟨rfl, sk20⟩
  have xw_k20 := sk20.get xw_k19 (Own.lt xw_k19)
  have xn1_k20 := sk20.get xn1_k19 (Own.lt xn1_k19)
  have xi_k20 := sk20.get xi_k19 (Own.lt xi_k19)
  have S_k20 := S_k19.cat sk20
  try simp only [Zbc xw_k20, Zbc xn1_k20, Zbc xi_k20, Zbc xw_k19, Zbc xn1_k19, Zbc xi_k19, Zan, Zae, Zap, Zah, Zaf, Zdl, Zao, Zai, Zcw, Zaw, true_and]
  refine (Zwo (((W7.rep hq0 hq1).same sk19).same sk20) b (((FB0_19).same sk20).row Zdp) hgn0 hst2).mono ?_
  rintro v k21 ⟨rfl, sk21⟩
  have xw_k21 := sk21.get xw_k20 (Own.lt xw_k20)
  have xn1_k21 := sk21.get xn1_k20 (Own.lt xn1_k20)
  have xi_k21 := sk21.get xi_k20 (Own.lt xi_k20)
  have S_k21 := S_k20.cat sk21
  simp only [Zcw, Zae, Zap, Zah, Zaf, Zao, Zai, beq_self_eq_true, eq_self, decide_true, Bool.not_true, Zbd]
  try simp only [Zbc xw_k21, Zbc xn1_k21, Zbc xi_k21, Zbc xw_k20, Zbc xn1_k20, Zbc xi_k20, Zan, Zae, Zap, Zah, Zaf, Zdl, Zao, Zai, Zcw, Zaw, true_and]
  refine (Zsm (r.same S_k21) b).mono ?_
  rintro v k22 ⟨u0, v0, j0, u1, v1, j1, ts, rfl, hv0, hv1, sk22, W10⟩
  have xw_k22 := sk22.get xw_k21 (Own.lt xw_k21)
  have xn1_k22 := sk22.get xn1_k21 (Own.lt xn1_k21)
  have xi_k22 := sk22.get xi_k21 (Own.lt xi_k21)
  have S_k22 := S_k21.cat sk22
  try simp only [Zbc xw_k22, Zbc xn1_k22, Zbc xi_k22, Zbc xw_k21, Zbc xn1_k21, Zbc xi_k21, Zan, Zae, Zap, Zah, Zaf, Zdl, Zao, Zai, Zcw, Zaw, true_and]
  refine (Yet (((((W7.rep hq0 hq1).same sk19).same sk20).same sk21).same sk22) (W10.rep hv0 hv1) b).mono ?_
  rintro v k23 ⟨rfl, sk23⟩
  have xw_k23 := sk23.get xw_k22 (Own.lt xw_k22)
  have xn1_k23 := sk23.get xn1_k22 (Own.lt xn1_k22)
  have xi_k23 := sk23.get xi_k22 (Own.lt xi_k22)
  have S_k23 := S_k22.cat sk23
  simp only [Zai, Bool.not_true, Zbd]
  refine (Zrc (rg0.same' S_k23) (by omega)).mono ?_
  rintro v k24 ⟨ab0_24, cb0_24, eb0_24, rfl, sk24, FB0_24, hcb0_24⟩
  have xw_k24 := sk24.get xw_k23 (Own.lt xw_k23)
  have xn1_k24 := sk24.get xn1_k23 (Own.lt xn1_k23)
  have xi_k24 := sk24.get xi_k23 (Own.lt xi_k23)
  have S_k24 := S_k23.cat sk24
  simp only [Zah]
  refine (Zxd (((((((FB0_19).same sk20).same sk21).same sk22).same sk23).same sk24).row Zdp) (FB0_24.row Zdp) (by omega) rfl).mono ?_
  rintro v k25 ⟨rfl, sk25⟩
  have xw_k25 := sk25.get xw_k24 (Own.lt xw_k24)
  have xn1_k25 := sk25.get xn1_k24 (Own.lt xn1_k24)
  have xi_k25 := sk25.get xi_k24 (Own.lt xi_k24)
  have S_k25 := S_k24.cat sk25
  simp only [Zai, Bool.not_true, Zbd]
end Go.Sim

set_option linter.unusedVariables false
namespace Go.Sim
open Go Go.RowKit
theorem rd_strC {P : Program} {h : Zaa} {f : Nat} {t : TypeId} {cs : List Zar} {d : Dt} (ht : P.underlying t = some .string) (hr : rd P h (f + 1) t cs d) : ∃ s, cs = [.str s] ∧ Zqs s.length ∧ ∀ b ∈ s, b < 256 := by
  simp only [rd, ht] at hr
  obtain ⟨s, rfl, _, h1, hb⟩ := hr
  exact ⟨s, rfl, h1, hb⟩
end Go.Sim
