/- A part of the proof of a statement of this seat: see the text that holds the theorem. No condition. -/
import Derived.Test.YtcdpjjhnhiaapaaPTCWGiv
import Derived.Test.YtcdpjjhnhiaapaaCWLaw3
set_option linter.unusedVariables false
set_option linter.unusedSimpArgs false
set_option linter.all false
set_option linter.unusedVariables false
set_option linter.unusedSimpArgs false
set_option maxRecDepth 20000
namespace Go.Sim
open Go Go.RowKit

/-- What is known of a pair that came in. -/
def PBig (p : Nd) : Prop := NBig p.1.length ∧ NBig p.2.length ∧ (∀ b ∈ p.1, b < 256) ∧ ∀ b ∈ p.2, b < 256
theorem rd_pair {P : Program} {h : AHeap} {f : Nat} {e : TypeId} {f0 f1 : Field} {v : List AVal} {d : Dt} (he : P.underlying e = some (.struct #[f0, f1])) (h0 : P.underlying f0.type = some .string) (h1 : P.underlying f1.type = some .string) (hr : rd P h (f + 2) e v d) :
    ∃ p : Nd, v = eP p ∧ PBig p := by
  unfold rd at hr
  rw [he] at hr
  obtain ⟨ds', vs', rfl, hd1, hd2, rfl, hall'⟩ := hr
  match vs', ds', hd2, hd1 with
  | [u, w], [x, y], _, _ =>
    have g0 := (hall' 0 f0 u x rfl rfl rfl).2
    have g1 := (hall' 1 f1 w y rfl rfl rfl).2
    simp only [rd, h0] at g0
    simp only [rd, h1] at g1
    obtain ⟨s, rfl, _, hs1, hs2⟩ := g0
    obtain ⟨t, rfl, _, ht1, ht2⟩ := g1
    exact ⟨(s, t), rfl, hs1, ht1, hs2, ht2⟩
theorem list_of {P : Program} {h : AHeap} {f : Nat} {e : TypeId} {α : Type} {enc : α → List AVal} {G : α → Prop} (el : ∀ v d, rd P h f e v d → ∃ x : α, v = enc x ∧ G x) :
    ∀ (vs : List (List AVal)) (ds : List Dt), ds.length = vs.length → (∀ (i : Nat) (v : List AVal) (x : Dt), vs[i]? = some v → ds[i]? = some x → v.length = P.cellsOf e ∧ rd P h f e v x) →
    ∃ l : List α, l.length = vs.length ∧ vs.flatten = flat enc l ∧ ∀ x ∈ l, G x
  | [], _, _, _ => ⟨[], rfl, rfl, by simp⟩
  | v :: vs, [], h, _ => by simp at h
  | v :: vs, d :: ds, hl, hall => by
    obtain ⟨l, hll, hfl, hs⟩ := list_of el vs ds (by simpa using hl) fun i v x hv hx => hall (i + 1) v x (by simpa using hv) (by simpa using hx)
    obtain ⟨x, rfl, hx⟩ := el v d (hall 0 v d rfl rfl).2
    exact ⟨x :: l, by simp [hll], by simp [hfl], fun y hy => (List.mem_cons.1 hy).elim (fun e => e ▸ hx) (hs y)⟩
theorem rd_list {P : Program} {h : AHeap} {f : Nat} {t e : TypeId} {α : Type} {enc : α → List AVal} {G : α → Prop} {cs : List AVal} {d : Dt} (ht : P.underlying t = some (.slice e)) (el : ∀ v d, rd P h f e v d → ∃ x : α, v = enc x ∧ G x) (hr : rd P h (f + 1) t cs d) :
    ∃ a n c ex, ∃ l : List α, cs = [.slice a n c ex] ∧ Row h.length h a (n * P.cellsOf e) (flat enc l) ∧ NBig n ∧ l.length = n ∧ ∀ x ∈ l, G x := by
  unfold rd at hr
  rw [ht] at hr
  obtain ⟨a, n, c, ex, ds, vs, rfl, rfl, hdl, hn, hvl, hrow, hall⟩ := hr
  obtain ⟨l, hll, hfl, hs⟩ := list_of el vs ds (by omega) hall
  rw [hfl] at hrow
  exact ⟨a, n, c, ex, l, rfl, hrow, hn, by omega, hs⟩
theorem rd_pairs {P : Program} {h : AHeap} {f : Nat} {t e : TypeId} {f0 f1 : Field} {cs : List AVal} {d : Dt} (ht : P.underlying t = some (.slice e)) (he : P.underlying e = some (.struct #[f0, f1])) (h0 : P.underlying f0.type = some .string) (h1 : P.underlying f1.type = some .string) (hc : P.cellsOf e = 2)
    (hr : rd P h (f + 3) t cs d) : ∃ a n c ex, ∃ l : List Nd, cs = [.slice a n c ex] ∧ Row h.length h a (n * 2) (flat eP l) ∧ NBig n ∧ l.length = n ∧ ∀ p ∈ l, PBig p := by
  have := rd_list (enc := eP) (G := PBig) ht (fun v d hr => rd_pair he h0 h1 hr) hr
  rwa [hc] at this
/-- An instance that came in. -/
def IBig (h : AHeap) (x : EI) : Prop := ∃ i : Ins, IRep h x i ∧ PBig i.1 ∧ NBig i.2.length ∧ ∀ p ∈ i.2, PBig p
theorem rd_inst {P : Program} {h : AHeap} {f : Nat} {ti tn ts : TypeId} {g0 g1 f0 f1 : Field} {v : List AVal} {d : Dt} (hi : P.underlying ti = some (.struct #[g0, g1])) (hg0 : g0.type = tn) (hg1 : g1.type = ts)
    (he : P.underlying tn = some (.struct #[f0, f1])) (h0 : P.underlying f0.type = some .string) (h1 : P.underlying f1.type = some .string) (hc : P.cellsOf tn = 2) (ht : P.underlying ts = some (.slice tn)) (hr : rd P h (f + 4) ti v d) :
    ∃ x : EI, v = eN x ∧ IBig h x := by
  unfold rd at hr
  rw [hi] at hr
  obtain ⟨ds', vs', rfl, hd1, hd2, rfl, hall'⟩ := hr
  match vs', ds', hd2, hd1 with
  | [u, w], [x, y], _, _ =>
    have k0 := (hall' 0 g0 u x rfl rfl rfl).2
    have k1 := (hall' 1 g1 w y rfl rfl rfl).2
    rw [hg0] at k0
    rw [hg1] at k1
    obtain ⟨p, rfl, hp⟩ := rd_pair (f := f + 1) he h0 h1 k0
    obtain ⟨a, n, c, ex, l, rfl, hrow, hn, hll, hl⟩ := rd_pairs (f := f) ht he h0 h1 hc k1
    exact ⟨⟨p.1, p.2, a, n, c, ex⟩, rfl, (p, l), ⟨rfl, rfl, hrow⟩, hp, by rw [hll]; exact hn, hl⟩
theorem ints_of_big {h : AHeap} : ∀ {xs : List EI}, (∀ x ∈ xs, IBig h x) → ∃ is : List Ins, IsRep h xs is ∧ ∀ i ∈ is, PBig i.1 ∧ NBig i.2.length ∧ ∀ p ∈ i.2, PBig p
  | [], _ => ⟨[], ⟨rfl, by simp⟩, by simp⟩
  | x :: xs, hx => by
    obtain ⟨is, ⟨hl, hr⟩, hb⟩ := ints_of_big (xs := xs) fun y hy => hx y (by simp [hy])
    obtain ⟨i, hi, hib⟩ := hx x (by simp)
    refine ⟨i :: is, ⟨by simp [hl], fun k y j hy hj => ?_⟩, fun j hj => (List.mem_cons.1 hj).elim (fun e => e ▸ hib) (hb j)⟩
    cases k with
    | zero => simp at hy hj; subst hy; subst hj; exact hi
    | succ k => simp at hy hj; exact hr k y j hy hj
/-- A world that came in. -/
theorem rd_world {P : Program} {h : AHeap} {f : Nat} {tw tc tcs ti tis tn ts : TypeId} {w0 w1 q0 q1 g0 g1 f0 f1 : Field} {cs : List AVal} {d : Dt} (hw : P.underlying tw = some (.struct #[w0, w1])) (hw0 : w0.type = tcs) (hw1 : w1.type = tis)
    (hcs : P.underlying tcs = some (.slice tc)) (hct : P.underlying tc = some (.struct #[q0, q1])) (hq0 : P.underlying q0.type = some .string) (hq1 : P.underlying q1.type = some .string) (hcc : P.cellsOf tc = 2)
    (his : P.underlying tis = some (.slice ti)) (hic : P.cellsOf ti = 3) (hi : P.underlying ti = some (.struct #[g0, g1])) (hg0 : g0.type = tn) (hg1 : g1.type = ts)
    (he : P.underlying tn = some (.struct #[f0, f1])) (h0 : P.underlying f0.type = some .string) (h1 : P.underlying f1.type = some .string) (hc : P.cellsOf tn = 2) (ht : P.underlying ts = some (.slice tn)) (hr : rd P h (f + 6) tw cs d) :
    ∃ a0 n0 c0 e0 a1 n1 c1 e1, ∃ w : Wd, cs = [.slice a0 n0 c0 e0, .slice a1 n1 c1 e1] ∧ (n0 ≤ c0 → n1 ≤ c1 → WRep h a0 n0 c0 a1 n1 c1 w) ∧ WBig w := by
  unfold rd at hr
  rw [hw] at hr
  obtain ⟨ds', vs', rfl, hd1, hd2, rfl, hall'⟩ := hr
  match vs', ds', hd2, hd1 with
  | [u, v], [x, y], _, _ =>
    have k0 := (hall' 0 w0 u x rfl rfl rfl).2
    have k1 := (hall' 1 w1 v y rfl rfl rfl).2
    rw [hw0] at k0
    rw [hw1] at k1
    obtain ⟨a0, n0, c0, e0, l0, rfl, hrow0, hn0, hl0, hb0⟩ := rd_pairs (f := f + 2) hcs hct hq0 hq1 hcc k0
    obtain ⟨a1, n1, c1, e1, l1, rfl, hrow1, hn1, hl1, hb1⟩ := rd_list (f := f + 4) (enc := eN) (G := IBig h) his (fun v d hr => rd_inst hi hg0 hg1 he h0 h1 hc ht hr) k1
    rw [hic] at hrow1
    obtain ⟨is, hrep, hib⟩ := ints_of_big hb1
    refine ⟨a0, n0, c0, e0, a1, n1, c1, e1, ⟨l0, is⟩, rfl, fun k0 k1 => ⟨hrow0, ⟨l1, hrow1, hrep⟩, k0, k1⟩, ?_⟩
    refine ⟨by rw [show (Wd.mk l0 is).cs.length = n0 from hl0]; exact hn0, ?_, fun p hp => ⟨(hb0 p hp).1, (hb0 p hp).2.1, (hb0 p hp).2.2.1⟩, fun i hi => ?_⟩
    · have : is.length = n1 := by have := hrep.1; omega
      show NBig is.length
      rw [this]; exact hn1
    · obtain ⟨p1, p2, p3⟩ := hib i hi
      exact ⟨p1.1, p1.2.1, p2, fun p hp => ⟨(p3 p hp).1, (p3 p hp).2.1⟩⟩

theorem bigPow : (1048576 : Int) = 1048576 := rfl
theorem lawGivens {h : AHeap} {a0 a1 a2 : Pt} {n0 c0 n1 c1 n2 c2 : Nat} {e0 e1 e2 : Bool} {w : Wd} {l : List Nd} (r : WRep h a0 n0 c0 a1 n1 c1 w) (hb : WBig w) (r2 : Row h.length h a2 (n2 * 2) (flat eP l)) (hn2 : NBig n2) (hl2 : ∀ p ∈ l, NBig p.1.length ∧ NBig p.2.length) :
    SCall pg n_laws_FnExactGivensValid [.agg [.slice a0 n0 c0 e0, .slice a1 n1 c1 e1], .slice a2 n2 c2 e2] h fun v _ => v = .bool true := by
  have hll : l.length = n2 := by have := r2.1; rw [flat_length eP_len] at this; omega
  unfold NBig at hn2
  apply F_laws_FnExactGivensValid.call
  simp only [letH_def]
  generalize hh0 : h ++ [AObj.cells t_laws_World [.slice a0 n0 c0 e0, .slice a1 n1 c1 e1] false] = h0
  have s0 : Same h.length h h0 := by rw [← hh0]; exact same_last
  have x0 : h0[h.length]? = some (.cells t_laws_World [.slice a0 n0 c0 e0, .slice a1 n1 c1 e1] false) := by rw [← hh0]; simp
  rw [row_all2 x0]
  simp only [xRow_some, xCons_cons, xNil_nil, xSl_some]
  refine (szWorld_ok (r.same s0) hb (x := 1048576) (by omega)).mono ?_
  rintro v h1 ⟨y, rfl, s1, hy⟩
  simp only [xInt_some]
  refine bcase_dec (fun _ => by trivial) (fun hge => ?_)
  have hyy := hy (by omega)
  have b : WB w := .of hb (by omega)
  have S1 := s0.cat s1
  have x1 := s1.get x0 (Own.lt x0)
  refine (szNeeds_ok (r2.same' S1) hl2 (by omega) (left := y) (by omega)).mono ?_
  rintro v h2 ⟨z, rfl, s2, hz⟩
  simp only [xInt_some]
  refine bcase_dec (fun _ => by trivial) (fun hge2 => ?_)
  have hzz := hz (by omega)
  have S2 := S1.cat s2
  have x2 := s2.get x1 (Own.lt x1)
  have hls : ∀ p ∈ l, p.2.length ≤ 1048576 := fun p hp => by
    obtain ⟨k, hk, rfl⟩ := List.mem_iff_getElem.1 hp
    have := tot2_get hk; omega
  rw [row_all2 x2]
  simp only [xRow_some, xCons_cons, xNil_nil, xSl_some]
  refine (toWorld_ok (r.same S2) b).mono ?_
  rintro v h3 ⟨b0, d0, f0, b1, d1, f1, ys, rfl, hd0, hd1, s3, W3⟩
  simp only [xAgg_agg, xCons_cons, xNil_nil, xSl_some]
  have S3 := S2.cat s3
  have x3 := s3.get x2 (Own.lt x2)
  refine (toNeedsF_ok (r2.same' S3) (by omega)).mono ?_
  rintro v h4 ⟨b2, d2, f2, rfl, s4, F4, hd2⟩
  simp only [xSl_some]
  have S4 := S3.cat s4
  have x4 := s4.get x3 (Own.lt x3)
  refine (sGivensValid_ok ((W3.rep hd0 hd1).same s4) b (F4.row eP_len) (by omega) hls).mono ?_
  rintro v h5 ⟨rfl, s5⟩
  simp only [xBool_some]
  have S5 := S4.cat s5
  have x5 := s5.get x4 (Own.lt x4)
  rw [row_all2 x5]
  simp only [xRow_some, xCons_cons, xNil_nil, xSl_some]
  refine (toWorld_ok (r.same S5) b).mono ?_
  rintro v h6 ⟨p0, q0, g0, p1, q1, g1, zs, rfl, hq0, hq1, s6, W6⟩
  simp only [xAgg_agg, xCons_cons, xNil_nil, xSl_some]
  rw [store2]
  simp only [xHeap_some]
  generalize hh7 : h6 ++ [AObj.cells t_impl_World [.slice p0 n0 q0 g0, .slice p1 n1 q1 g1] false] = h7
  have s7 : Same h6.length h6 h7 := by rw [← hh7]; exact same_last
  have y7 : h7[h6.length]? = some (.cells t_impl_World [.slice p0 n0 q0 g0, .slice p1 n1 q1 g1] false) := by rw [← hh7]; simp
  have S7 := (S5.cat s6).cat s7
  have x7 := s7.get (s6.get x5 (Own.lt x5)) (by have := Own.lt x5; have := s6.le; omega)
  refine (toNeedsF_ok (r2.same' S7) (by omega)).mono ?_
  rintro v h8 ⟨p2, q2, g2, rfl, s8, F8, hq2⟩
  simp only [xSl_some]
  have y8 := s8.get y7 (Own.lt y7)
  rw [row_all2 y8]
  simp only [xRow_some, xCons_cons, xNil_nil, xSl_some]
  have R8 := ((W6.rep hq0 hq1).same s7).same s8
  refine (givensValid_ok R8 b (F8.row eP_len) (by omega)).mono ?_
  rintro v h9 ⟨rfl, s9⟩
  simp only [xBool_some, beq_self_eq_true, Bool.not_true, bcase_false]
  have S9 := (S7.cat s8).cat s9
  have y9 := s9.get y8 (Own.lt y8)
  have x9 := s9.get (s8.get x7 (Own.lt x7)) (by have := Own.lt x7; have := s8.le; omega)
  rw [row_all2 y9, row_all2 x9]
  simp only [xRow_some, xCons_cons, xNil_nil, xSl_some, true_and]
  refine (toWorld_ok (r.same S9) b).mono ?_
  rintro v h10 ⟨u0, v0, k0, u1, v1, k1, ts, rfl, hv0, hv1, s10, W10⟩
  simp only [xAgg_agg, xCons_cons, xNil_nil, xSl_some]
  rw [row_all2 (s10.get y9 (Own.lt y9))]
  refine ⟨rfl, (eqWorld_ok ((R8.same s9).same s10) (W10.rep hv0 hv1) b).mono ?_⟩
  rintro v h11 ⟨rfl, s11⟩
  simp only [xBool_some, Bool.not_true, bcase_false]
  have S11 := (S9.cat s10).cat s11
  refine (toNeedsF_ok (r2.same' S11) (by omega)).mono ?_
  rintro v h12 ⟨u2, v2, k2, rfl, s12, F12, hv2⟩
  simp only [xSl_some]
  refine (eqNeeds_ok ((((F8.same s9).same s10).same s11).same s12 |>.row eP_len) (F12.row eP_len) (by omega) rfl).mono ?_
  rintro v h13 ⟨rfl, s13⟩
  simp only [xBool_some, Bool.not_true, bcase_false]
end Go.Sim
