/- A part of the proof of a statement of this seat: see the text that holds the theorem. No condition. -/
import Derived.Test.YtcdpjjhnhiaapaaPTCWLaw3
import Derived.Test.YtcdpjjhnhiaapaaCWLaw3
import Derived.Test.YtcdpjjhnhiaapaaPTCGrow
import Derived.Test.YtcdpjjhnhiaapaaPWorld
set_option linter.unusedVariables false
set_option linter.unusedSimpArgs false
set_option linter.all false
set_option linter.unusedVariables false
set_option linter.unusedSimpArgs false
set_option maxRecDepth 20000
namespace Go.Sim
open Go Go.RowKit

/-- What is known of a pair that came in. -/
def PBig (p : Nd) : Prop := NBig p.1.length ∧ NBig p.2.length ∧ (∀ b ∈ p.1, b < 256) ∧ ∀ b ∈ p.2, b < 256
theorem rd_pair {P : Program} {h : AHeap} {f : Nat} {e : TypeId} {f0 f1 : Field} {v : List AVal} {d : Dt} (he : P.underlying e = some (.struct #[f0, f1])) (h0 : P.underlying f0.type = some .string) (h1 : P.underlying f1.type = some .string) (hr : rd P h (f + 2) e v d) :
    ∃ p : Nd, v = eP p ∧ PBig p := by
  unfold rd at hr
  rw [he] at hr
  obtain ⟨ds', vs', rfl, hd1, hd2, rfl, hall'⟩ := hr
  match vs', ds', hd2, hd1 with
  | [u, w], [x, y], _, _ =>
    have g0 := (hall' 0 f0 u x rfl rfl rfl).2
    have g1 := (hall' 1 f1 w y rfl rfl rfl).2
    simp only [rd, h0] at g0
    simp only [rd, h1] at g1
    obtain ⟨s, rfl, _, hs1, hs2⟩ := g0
    obtain ⟨t, rfl, _, ht1, ht2⟩ := g1
    exact ⟨(s, t), rfl, hs1, ht1, hs2, ht2⟩
theorem list_of {P : Program} {h : AHeap} {f : Nat} {e : TypeId} {α : Type} {enc : α → List AVal} {G : α → Prop} (el : ∀ v d, rd P h f e v d → ∃ x : α, v = enc x ∧ G x) :
    ∀ (vs : List (List AVal)) (ds : List Dt), ds.length = vs.length → (∀ (i : Nat) (v : List AVal) (x : Dt), vs[i]? = some v → ds[i]? = some x → v.length = P.cellsOf e ∧ rd P h f e v x) →
    ∃ l : List α, l.length = vs.length ∧ vs.flatten = flat enc l ∧ ∀ x ∈ l, G x
  | [], _, _, _ => ⟨[], rfl, rfl, by simp⟩
  | v :: vs, [], h, _ => by simp at h
  | v :: vs, d :: ds, hl, hall => by
    obtain ⟨l, hll, hfl, hs⟩ := list_of el vs ds (by simpa using hl) fun i v x hv hx => hall (i + 1) v x (by simpa using hv) (by simpa using hx)
    obtain ⟨x, rfl, hx⟩ := el v d (hall 0 v d rfl rfl).2
    exact ⟨x :: l, by simp [hll], by simp [hfl], fun y hy => (List.mem_cons.1 hy).elim (fun e => e ▸ hx) (hs y)⟩
theorem rd_list {P : Program} {h : AHeap} {f : Nat} {t e : TypeId} {α : Type} {enc : α → List AVal} {G : α → Prop} {cs : List AVal} {d : Dt} (ht : P.underlying t = some (.slice e)) (el : ∀ v d, rd P h f e v d → ∃ x : α, v = enc x ∧ G x) (hr : rd P h (f + 1) t cs d) :
    ∃ a n c ex, ∃ l : List α, cs = [.slice a n c ex] ∧ Row h.length h a (n * P.cellsOf e) (flat enc l) ∧ NBig n ∧ l.length = n ∧ ∀ x ∈ l, G x := by
  unfold rd at hr
  rw [ht] at hr
  obtain ⟨a, n, c, ex, ds, vs, rfl, rfl, hdl, hn, hvl, hrow, hall⟩ := hr
  obtain ⟨l, hll, hfl, hs⟩ := list_of el vs ds (by omega) hall
  rw [hfl] at hrow
  exact ⟨a, n, c, ex, l, rfl, hrow, hn, by omega, hs⟩
theorem rd_pairs {P : Program} {h : AHeap} {f : Nat} {t e : TypeId} {f0 f1 : Field} {cs : List AVal} {d : Dt} (ht : P.underlying t = some (.slice e)) (he : P.underlying e = some (.struct #[f0, f1])) (h0 : P.underlying f0.type = some .string) (h1 : P.underlying f1.type = some .string) (hc : P.cellsOf e = 2)
    (hr : rd P h (f + 3) t cs d) : ∃ a n c ex, ∃ l : List Nd, cs = [.slice a n c ex] ∧ Row h.length h a (n * 2) (flat eP l) ∧ NBig n ∧ l.length = n ∧ ∀ p ∈ l, PBig p := by
  have := rd_list (enc := eP) (G := PBig) ht (fun v d hr => rd_pair he h0 h1 hr) hr
  rwa [hc] at this
/-- An instance that came in. -/
def IBig (h : AHeap) (x : EI) : Prop := ∃ i : Ins, IRep h x i ∧ PBig i.1 ∧ NBig i.2.length ∧ ∀ p ∈ i.2, PBig p
theorem rd_inst {P : Program} {h : AHeap} {f : Nat} {ti tn ts : TypeId} {g0 g1 f0 f1 : Field} {v : List AVal} {d : Dt} (hi : P.underlying ti = some (.struct #[g0, g1])) (hg0 : g0.type = tn) (hg1 : g1.type = ts)
    (he : P.underlying tn = some (.struct #[f0, f1])) (h0 : P.underlying f0.type = some .string) (h1 : P.underlying f1.type = some .string) (hc : P.cellsOf tn = 2) (ht : P.underlying ts = some (.slice tn)) (hr : rd P h (f + 4) ti v d) :
    ∃ x : EI, v = eN x ∧ IBig h x := by
  unfold rd at hr
  rw [hi] at hr
  obtain ⟨ds', vs', rfl, hd1, hd2, rfl, hall'⟩ := hr
  match vs', ds', hd2, hd1 with
  | [u, w], [x, y], _, _ =>
    have k0 := (hall' 0 g0 u x rfl rfl rfl).2
    have k1 := (hall' 1 g1 w y rfl rfl rfl).2
    rw [hg0] at k0
    rw [hg1] at k1
    obtain ⟨p, rfl, hp⟩ := rd_pair (f := f + 1) he h0 h1 k0
    obtain ⟨a, n, c, ex, l, rfl, hrow, hn, hll, hl⟩ := rd_pairs (f := f) ht he h0 h1 hc k1
    exact ⟨⟨p.1, p.2, a, n, c, ex⟩, rfl, (p, l), ⟨rfl, rfl, hrow⟩, hp, by rw [hll]; exact hn, hl⟩
theorem ints_of_big {h : AHeap} : ∀ {xs : List EI}, (∀ x ∈ xs, IBig h x) → ∃ is : List Ins, IsRep h xs is ∧ ∀ i ∈ is, PBig i.1 ∧ NBig i.2.length ∧ ∀ p ∈ i.2, PBig p
  | [], _ => ⟨[], ⟨rfl, by simp⟩, by simp⟩
  | x :: xs, hx => by
    obtain ⟨is, ⟨hl, hr⟩, hb⟩ := ints_of_big (xs := xs) fun y hy => hx y (by simp [hy])
    obtain ⟨i, hi, hib⟩ := hx x (by simp)
    refine ⟨i :: is, ⟨by simp [hl], fun k y j hy hj => ?_⟩, fun j hj => (List.mem_cons.1 hj).elim (fun e => e ▸ hib) (hb j)⟩
    cases k with
    | zero => simp at hy hj; subst hy; subst hj; exact hi
    | succ k => simp at hy hj; exact hr k y j hy hj
/-- A world that came in. -/
theorem rd_world {P : Program} {h : AHeap} {f : Nat} {tw tc tcs ti tis tn ts : TypeId} {w0 w1 q0 q1 g0 g1 f0 f1 : Field} {cs : List AVal} {d : Dt} (hw : P.underlying tw = some (.struct #[w0, w1])) (hw0 : w0.type = tcs) (hw1 : w1.type = tis)
    (hcs : P.underlying tcs = some (.slice tc)) (hct : P.underlying tc = some (.struct #[q0, q1])) (hq0 : P.underlying q0.type = some .string) (hq1 : P.underlying q1.type = some .string) (hcc : P.cellsOf tc = 2)
    (his : P.underlying tis = some (.slice ti)) (hic : P.cellsOf ti = 3) (hi : P.underlying ti = some (.struct #[g0, g1])) (hg0 : g0.type = tn) (hg1 : g1.type = ts)
    (he : P.underlying tn = some (.struct #[f0, f1])) (h0 : P.underlying f0.type = some .string) (h1 : P.underlying f1.type = some .string) (hc : P.cellsOf tn = 2) (ht : P.underlying ts = some (.slice tn)) (hr : rd P h (f + 6) tw cs d) :
    ∃ a0 n0 c0 e0 a1 n1 c1 e1, ∃ w : Wd, cs = [.slice a0 n0 c0 e0, .slice a1 n1 c1 e1] ∧ (n0 ≤ c0 → n1 ≤ c1 → WRep h a0 n0 c0 a1 n1 c1 w) ∧ WBig w := by
  unfold rd at hr
  rw [hw] at hr
  obtain ⟨ds', vs', rfl, hd1, hd2, rfl, hall'⟩ := hr
  match vs', ds', hd2, hd1 with
  | [u, v], [x, y], _, _ =>
    have k0 := (hall' 0 w0 u x rfl rfl rfl).2
    have k1 := (hall' 1 w1 v y rfl rfl rfl).2
    rw [hw0] at k0
    rw [hw1] at k1
    obtain ⟨a0, n0, c0, e0, l0, rfl, hrow0, hn0, hl0, hb0⟩ := rd_pairs (f := f + 2) hcs hct hq0 hq1 hcc k0
    obtain ⟨a1, n1, c1, e1, l1, rfl, hrow1, hn1, hl1, hb1⟩ := rd_list (f := f + 4) (enc := eN) (G := IBig h) his (fun v d hr => rd_inst hi hg0 hg1 he h0 h1 hc ht hr) k1
    rw [hic] at hrow1
    obtain ⟨is, hrep, hib⟩ := ints_of_big hb1
    refine ⟨a0, n0, c0, e0, a1, n1, c1, e1, ⟨l0, is⟩, rfl, fun k0 k1 => ⟨hrow0, ⟨l1, hrow1, hrep⟩, k0, k1⟩, ?_⟩
    refine ⟨by rw [show (Wd.mk l0 is).cs.length = n0 from hl0]; exact hn0, ?_, fun p hp => ⟨(hb0 p hp).1, (hb0 p hp).2.1, (hb0 p hp).2.2.1⟩, fun i hi => ?_⟩
    · have : is.length = n1 := by have := hrep.1; omega
      show NBig is.length
      rw [this]; exact hn1
    · obtain ⟨p1, p2, p3⟩ := hib i hi
      exact ⟨p1.1, p1.2.1, p2, fun p hp => ⟨(p3 p hp).1, (p3 p hp).2.1⟩⟩

theorem bigPow : (1048576 : Int) = 1048576 := rfl
theorem lawGivens {h : AHeap} {a0 a1 a2 : Pt} {n0 c0 n1 c1 n2 c2 : Nat} {e0 e1 e2 : Bool} {w : Wd} {l : List Nd} (r : WRep h a0 n0 c0 a1 n1 c1 w) (hb : WBig w) (r2 : Row h.length h a2 (n2 * 2) (flat eP l)) (hn2 : NBig n2) (hl2 : ∀ p ∈ l, NBig p.1.length ∧ NBig p.2.length) :
    SCall pg n_laws_FnExactGivensValid [.agg [.slice a0 n0 c0 e0, .slice a1 n1 c1 e1], .slice a2 n2 c2 e2] h fun v _ => v = .bool true := by
  have hll : l.length = n2 := by have := r2.1; rw [flat_length eP_len] at this; omega
  unfold NBig at hn2
  apply F_laws_FnExactGivensValid.call
  simp only [letH_def]
  generalize hh0 : h ++ [AObj.cells t_laws_World [.slice a0 n0 c0 e0, .slice a1 n1 c1 e1] false] = h0
  have s0 : Same h.length h h0 := by rw [← hh0]; exact same_last
  have x0 : h0[h.length]? = some (.cells t_laws_World [.slice a0 n0 c0 e0, .slice a1 n1 c1 e1] false) := by rw [← hh0]; simp
  rw [row_all2 x0]
  simp only [xRow_some, xCons_cons, xNil_nil, xSl_some]
  refine (szWorld_ok (r.same s0) hb (x := 1048576) (by omega)).mono ?_
  rintro v h1 ⟨y, rfl, s1, hy⟩
  simp only [xInt_some]
  refine bcase_dec (fun _ => by trivial) (fun hge => ?_)
  have hyy := hy (by omega)
  have b : WB w := .of hb (by omega)
  have S1 := s0.cat s1
  have x1 := s1.get x0 (Own.lt x0)
  refine (szNeeds_ok (r2.same' S1) hl2 (by omega) (left := y) (by omega)).mono ?_
  rintro v h2 ⟨z, rfl, s2, hz⟩
  simp only [xInt_some]
  refine bcase_dec (fun _ => by trivial) (fun hge2 => ?_)
  have hzz := hz (by omega)
  have S2 := S1.cat s2
  have x2 := s2.get x1 (Own.lt x1)
  have hls : ∀ p ∈ l, p.2.length ≤ 1048576 := fun p hp => by
    obtain ⟨k, hk, rfl⟩ := List.mem_iff_getElem.1 hp
    have := tot2_get hk; omega
  rw [row_all2 x2]
  simp only [xRow_some, xCons_cons, xNil_nil, xSl_some]
  refine (toWorld_ok (r.same S2) b).mono ?_
  rintro v h3 ⟨b0, d0, f0, b1, d1, f1, ys, rfl, hd0, hd1, s3, W3⟩
  simp only [xAgg_agg, xCons_cons, xNil_nil, xSl_some]
  have S3 := S2.cat s3
  have x3 := s3.get x2 (Own.lt x2)
  refine (toNeedsF_ok (r2.same' S3) (by omega)).mono ?_
  rintro v h4 ⟨b2, d2, f2, rfl, s4, F4, hd2⟩
  simp only [xSl_some]
  have S4 := S3.cat s4
  have x4 := s4.get x3 (Own.lt x3)
  refine (sGivensValid_ok ((W3.rep hd0 hd1).same s4) b (F4.row eP_len) (by omega) hls).mono ?_
  rintro v h5 ⟨rfl, s5⟩
  simp only [xBool_some]
  have S5 := S4.cat s5
  have x5 := s5.get x4 (Own.lt x4)
  rw [row_all2 x5]
  simp only [xRow_some, xCons_cons, xNil_nil, xSl_some]
  refine (toWorld_ok (r.same S5) b).mono ?_
  rintro v h6 ⟨p0, q0, g0, p1, q1, g1, zs, rfl, hq0, hq1, s6, W6⟩
  simp only [xAgg_agg, xCons_cons, xNil_nil, xSl_some]
  rw [store2]
  simp only [xHeap_some]
  generalize hh7 : h6 ++ [AObj.cells t_impl_World [.slice p0 n0 q0 g0, .slice p1 n1 q1 g1] false] = h7
  have s7 : Same h6.length h6 h7 := by rw [← hh7]; exact same_last
  have y7 : h7[h6.length]? = some (.cells t_impl_World [.slice p0 n0 q0 g0, .slice p1 n1 q1 g1] false) := by rw [← hh7]; simp
  have S7 := (S5.cat s6).cat s7
  have x7 := s7.get (s6.get x5 (Own.lt x5)) (by have := Own.lt x5; have := s6.le; omega)
  refine (toNeedsF_ok (r2.same' S7) (by omega)).mono ?_
  rintro v h8 ⟨p2, q2, g2, rfl, s8, F8, hq2⟩
  simp only [xSl_some]
  have y8 := s8.get y7 (Own.lt y7)
  rw [row_all2 y8]
  simp only [xRow_some, xCons_cons, xNil_nil, xSl_some]
  have R8 := ((W6.rep hq0 hq1).same s7).same s8
  refine (givensValid_ok R8 b (F8.row eP_len) (by omega)).mono ?_
  rintro v h9 ⟨rfl, s9⟩
  simp only [xBool_some, beq_self_eq_true, Bool.not_true, bcase_false]
  have S9 := (S7.cat s8).cat s9
  have y9 := s9.get y8 (Own.lt y8)
  have x9 := s9.get (s8.get x7 (Own.lt x7)) (by have := Own.lt x7; have := s8.le; omega)
  rw [row_all2 y9, row_all2 x9]
  simp only [xRow_some, xCons_cons, xNil_nil, xSl_some, true_and]
  refine (toWorld_ok (r.same S9) b).mono ?_
  rintro v h10 ⟨u0, v0, k0, u1, v1, k1, ts, rfl, hv0, hv1, s10, W10⟩
  simp only [xAgg_agg, xCons_cons, xNil_nil, xSl_some]
  rw [row_all2 (s10.get y9 (Own.lt y9))]
  refine ⟨rfl, (eqWorld_ok ((R8.same s9).same s10) (W10.rep hv0 hv1) b).mono ?_⟩
  rintro v h11 ⟨rfl, s11⟩
  simp only [xBool_some, Bool.not_true, bcase_false]
  have S11 := (S9.cat s10).cat s11
  refine (toNeedsF_ok (r2.same' S11) (by omega)).mono ?_
  rintro v h12 ⟨u2, v2, k2, rfl, s12, F12, hv2⟩
  simp only [xSl_some]
  refine (eqNeeds_ok ((((F8.same s9).same s10).same s11).same s12 |>.row eP_len) (F12.row eP_len) (by omega) rfl).mono ?_
  rintro v h13 ⟨rfl, s13⟩
  simp only [xBool_some, Bool.not_true, bcase_false]
end Go.Sim

set_option linter.unusedVariables false
set_option linter.unusedSimpArgs false
set_option maxRecDepth 20000
namespace Go.Sim
open Go Go.RowKit

theorem countVar_ok {h : AHeap} (s v : List Nat) : SCall pg n_impl_CountVar [.str s, .str v] h fun x h' => x = .int .i64 (cntV s v) ∧ Same h.length h h' := by
  apply F_impl_CountVar.call
  refine (typeValid_ok s h).mono ?_
  rintro x h1 ⟨rfl, s1⟩
  simp only [xBool_some]
  refine bcase_not (fun hb => ⟨by unfold cntV; rw [hb]; rfl, s1⟩) (fun hb => ?_)
  refine (isVar_ok v).mono ?_
  rintro x h2 ⟨rfl, rfl⟩
  simp only [xBool_some]
  refine bcase_not (fun hv => ⟨by unfold cntV; rw [hb, hv]; rfl, s1⟩) (fun hv => ?_)
  obtain ⟨c, rfl⟩ : ∃ c, v = [c] := by
    match v, hv with
    | [c], _ => exact ⟨c, rfl⟩
  apply F_impl_CountVar.J3i
  refine lib_count.mono ?_
  rintro x h3 ⟨rfl, rfl⟩
  simp only [xInt_some]
  refine ⟨?_, s1⟩
  unfold cntV
  rw [hb, hv]; rfl
theorem Ty.size_ps (t : Ty) : t.size = 1 + (t.ps.map Ty.size).sum := by cases t <;> simp [Ty.size, Ty.ps] <;> omega
theorem sum_take {l : List Nat} {g : Nat} (h : g < l.length) : (l.take (g + 1)).sum = (l.take g).sum + l[g] := by
  rw [List.take_succ_eq_append_getElem h, List.sum_append]; simp
theorem sum_take_le (l : List Nat) (g : Nat) : (l.take g).sum ≤ l.sum := by
  conv => rhs; rw [← List.take_append_drop g l]
  rw [List.sum_append]; omega
theorem SRep.same {S : Nat → Prop} {h h' : AHeap} (s : Same h.length h h') : ∀ {t : Ty} {v : List AVal}, SRep S h t v → SRep S h' t v
  | .k d, _, h => h
  | .u d x, _, ⟨j, c, e, r, hv, sj, hj, hr⟩ => ⟨j, c, e, r, hv, sj, s.get hj (Own.lt hj), hr.same s⟩
  | .w d x y, _, ⟨j, c, e, r, r', hv, sj, hj, hr, hr'⟩ => ⟨j, c, e, r, r', hv, sj, s.get hj (Own.lt hj), hr.same s, hr'.same s⟩
theorem l1Size_ok : ∀ (N : Nat) {S : Nat → Prop} {h : AHeap} {t : Ty} {v : List AVal}, t.size ≤ N → t.size ≤ 1048576 → SRep S h t v → SCall pg n_spec_l1Size [.agg v] h fun x h' => x = .int .i64 (t.size : Nat) ∧ Same h.length h h'
  | 0, S, h, t, v, hN, _, _ => by have := t.size_ps; omega
  | N + 1, S, h, t, v, hN, hB, r => by
    obtain ⟨a, c, e, vs, rfl, hrow, hS, hvl, hp⟩ := r.parts
    have hsz := t.size_ps
    have hps2 : t.ps.length ≤ 2 := by cases t <;> simp [Ty.ps]
    apply F_spec_l1Size.call
    simp only [letH_def, hCell_last, Nat.zero_add, List.getElem?_cons_succ, List.getElem?_cons_zero, xSl_some]
    have s0 : Same h.length h (h ++ [.cells t_spec_l1Node [.int .u8 (t.hd : Int), .slice a t.ps.length c e] false]) := same_last
    refine F_spec_l1Size.L3ind _ _ _ _ _ _ (J := fun (g : Nat) x3 x9 h' => x9 = (g : Int) ∧ g ≤ t.ps.length ∧ Same h.length h h' ∧ x3 = ((1 + ((t.ps.map Ty.size).take g).sum : Nat) : Int)) (fun g => t.ps.length - g) ?_ 0 _ _ _ ⟨rfl, by omega, s0, by simp⟩
    rintro g x3 x9 h' ⟨rfl, hg, hSm, rfl⟩ R hR
    unfold F_spec_l1Size.L3t
    refine bcase_dec (fun hlt => ?_) (fun hge => ?_)
    · have hg' : g < t.ps.length := by omega
      have hgv : g < vs.length := by omega
      have hk := hp g vs[g] t.ps[g] (List.getElem?_eq_getElem hgv) (List.getElem?_eq_getElem hg')
      have hz : ∀ v ∈ vs, v.length = 2 := fun v hv => by
        obtain ⟨k, hk, rfl⟩ := List.mem_iff_getElem.1 hv
        exact (hp k vs[k] (t.ps[k]'(by omega)) (List.getElem?_eq_getElem hk) (List.getElem?_eq_getElem (by omega))).len
      have hrow' := hrow.same hSm
      -- the part
      have hget : ∃ i o, a = some (i, o) ∧ hRow h' (.ptr (some (i, o + g * 2))) 2 = some vs[g] := by
        have hfl : vs.flatten = flat (fun (v : {v : List AVal // v.length = 2}) => v.1) (vs.attach.map fun v => ⟨v.1, hz v.1 v.2⟩) := by
          unfold flat; rw [List.flatMap_map]; simp
        rw [hfl] at hrow'
        obtain ⟨i, o, hk', ha, _, hr, _⟩ := Row.el (enc := fun (v : {v : List AVal // v.length = 2}) => v.1) (fun x => x.2) hrow' (by simp [hvl]) (k := g) hg' (by omega)
        exact ⟨i, o, ha, by rw [hr]; simp⟩
      obtain ⟨i, o, rfl, hr⟩ := hget
      obtain ⟨a2, c2, e2, hv2⟩ := hk.shape
      rw [hv2] at hr
      simp only [xSome_some, Int.toNat_natCast, hr, xRow_some, xCons_cons, xNil_nil, xInt_some, xSl_some, letH_def]
      rw [store2]
      simp only [xHeap_some]
      rw [rowL2]
      simp only [xRow_some, xCons_cons, xNil_nil, xInt_some, xSl_some]
      have hst := sum_take (l := t.ps.map Ty.size) (g := g) (by simpa using hg')
      have hsl := sum_take_le (t.ps.map Ty.size) (g + 1)
      simp only [List.getElem_map] at hst
      have s2 : Same h'.length h' (h' ++ [.cells t_spec_l1Node [.int .u8 (t.ps[g].hd : Int), .slice a2 t.ps[g].ps.length c2 e2] false]) := same_last
      rw [hv2] at hk
      have hk2 := hk.same (hSm.cat s2)
      refine ⟨by omega, (l1Size_ok N (by omega) (by omega) hk2).mono ?_⟩
      rintro x h3 ⟨rfl, s3⟩
      simp only [xInt_some]
      rw [wrap_nat (by omega), IntWalk.i64_in _ (by omega)]
      exact hR (g + 1) _ _ _ (by omega) ⟨rfl, by omega, (hSm.cat s2).cat s3, by rw [hst]; omega⟩
    · apply F_spec_l1Size.A3x0i
      have : g = t.ps.length := by omega
      subst this
      rw [List.take_of_length_le (by simp), ← hsz]
      exact ⟨rfl, hSm⟩

theorem sSizeOf_ok (s : List Nat) (hs : s.length ≤ 1048576) (h : AHeap) : SCall pg n_spec_SizeOf [.str s] h fun v h' => v = .int .i64 (sizeS s) ∧ Same h.length h h' := by
  apply F_spec_SizeOf.call
  refine (l1Read_ok s (by omega) h).mono ?_
  rintro v h1 ⟨hS, vs, rfl, hm⟩
  have hvs : ∃ (d : Int) (a : Pt) (n c : Nat) (e : Bool), vs = [.int .u8 d, .slice a n c e] := by
    split at hm
    · obtain ⟨a, c, e, rfl⟩ := hm.shape; exact ⟨_, _, _, _, _, rfl⟩
    · exact ⟨_, _, _, _, _, hm⟩
  obtain ⟨d, a, n, c, e, rfl⟩ := hvs
  simp only [xTup_tup, xCons_cons, xAgg_agg, xInt_some, xSl_some, xNil_nil, xBool_some, letH_def]
  rw [store2]
  simp only [xHeap_some]
  have s2 : Same h1.length h1 (h1 ++ [.cells t_spec_l1Node [.int .u8 d, .slice a n c e] false]) := same_last
  refine bcase_not (fun hb => ⟨by rw [sizeS_none (tyOk_none hb)], hS.cat s2⟩) (fun hb => ?_)
  obtain ⟨t, ht⟩ := tyOk_some hb
  rw [ht] at hm
  obtain ⟨h1', hst, hl⟩ := ofTxt_some.1 ht
  rw [rowL2]
  simp only [xRow_some, xCons_cons, xNil_nil, xInt_some, xSl_some]
  have hsz : t.size ≤ 1048576 := by
    have := size_counts h1'
    rw [← hst] at this; omega
  refine (l1Size_ok t.size (Nat.le_refl _) hsz (hm.same s2)).mono ?_
  rintro v h3 ⟨rfl, s3⟩
  simp only [xInt_some]
  exact ⟨by rw [sizeS_some ht], (hS.cat s2).cat s3⟩

/-- Whether a type is smaller than another one. -/
noncomputable def smallN (t than : List Nat) : Bool := (varsN.all fun v => decide (cntV t [v] ≤ cntV than [v])) && decide (sizeS t < sizeS than)
theorem cntV_of {t : List Nat} (h : tyOk t = true) {v : Nat} (hv : v ∈ varsN) : cntV t [v] = (t.count v : Nat) := by
  unfold cntV; rw [h, show isVarS [v] = isVarN v from rfl, (varsN_var v).1 hv]; rfl
theorem smaller_vars {t than : List Nat} (h1 : tyOk t = true) (h2 : tyOk than = true) : (varsN.all fun v => decide (cntV t [v] ≤ cntV than [v])) = (varsL t).all fun v => decide (cntV t [v] ≤ cntV than [v]) := by
  rw [Bool.eq_iff_iff, List.all_eq_true, List.all_eq_true]
  constructor
  · intro h v hv; exact h v (List.mem_filter.1 hv).1
  · intro h v hv
    by_cases hm : v ∈ t
    · exact h v (List.mem_filter.2 ⟨hv, by simpa using hm⟩)
    · rw [cntV_of h1 hv, cntV_of h2 hv, List.count_eq_zero.2 hm]; simp
theorem smaller_ok {h : AHeap} {t than : List Nat} (h1 : tyOk t = true) (h2 : tyOk than = true) : SCall pg n_impl_smaller [.str t, .str than] h fun v h' => v = .bool (smallN t than) ∧ Same h.length h h' := by
  apply F_impl_smaller.call
  refine (vars_ok t h).mono ?_
  rintro v k1 ⟨s1, a, n, c, e, rfl, hrow⟩
  simp only [xSl_some]
  have hvl : (varsL t).length = n := by have := hrow.1; simpa using this
  have hv6 : (varsL t).length ≤ 6 := List.length_filter_le _ _
  refine F_impl_smaller.L2ind _ _ _ _ _ _ _ _ (J := fun (g : Nat) x10 h' => x10 = (g : Int) ∧ g ≤ n ∧ Same k1.length k1 h' ∧ ((varsL t).take g).all (fun v => decide (cntV t [v] ≤ cntV than [v])) = true) (fun g => n - g) ?_ 0 _ _ ⟨rfl, by omega, Same.refl _ _, rfl⟩
  rintro g x10 h' ⟨rfl, hg, hS, hk⟩ R hR
  unfold F_impl_smaller.L2t
  refine bcase_dec (fun hlt => ?_) (fun hge => ?_)
  · obtain ⟨iv, ov, rfl, _, hcv⟩ := (hrow.same hS).at (k := g) (by omega)
    rw [strs_get, List.getElem?_map, List.getElem?_eq_getElem (show g < (varsL t).length by omega)] at hcv
    simp only [Option.map_some] at hcv
    simp only [xSome_some, Int.toNat_natCast, Nat.mul_one, hcv, xStr_some, one]
    refine ⟨by omega, (countVar_ok t _).mono ?_⟩
    rintro v k2 ⟨rfl, s2⟩
    simp only [xInt_some]
    refine (countVar_ok than _).mono ?_
    rintro v k3 ⟨rfl, s3⟩
    simp only [xInt_some]
    have hS3 := (hS.cat s2).cat s3
    refine bcase_dec (fun hb => ?_) (fun hb => ?_)
    · refine ⟨?_, s1.cat hS3⟩
      unfold smallN
      rw [smaller_vars h1 h2, not_all (g := g) (by omega) (by simp; omega)]; rfl
    · rw [wrap_nat (by omega)]
      exact hR (g + 1) _ _ (by omega) ⟨rfl, by omega, hS3, take_succ_all (by omega) hk (by simp; omega)⟩
  · apply F_impl_smaller.A2x0i
    have : g = n := by omega
    subst this
    rw [List.take_of_length_le (by omega)] at hk
    refine (sizeOf_ok t h').mono ?_
    rintro v k2 ⟨rfl, s2⟩
    simp only [xInt_some]
    refine (sizeOf_ok than k2).mono ?_
    rintro v k3 ⟨rfl, s3⟩
    simp only [xInt_some]
    refine ⟨?_, s1.cat ((hS.cat s2).cat s3)⟩
    unfold smallN
    rw [smaller_vars h1 h2, hk, Bool.true_and]
theorem l8Smaller_ok {h : AHeap} {than : List Nat} {x : Nd} (ht : x.2.length ≤ 1048576) (hn : than.length ≤ 1048576) : SCall pg n_spec_l8Smaller [.str than, .agg [.str x.1, .str x.2]] h fun v h' => v = .bool (smallN x.2 than) ∧ Same h.length h h' := by
  apply F_spec_l8Smaller.call
  simp only [letH_def]
  generalize hh0 : h ++ [AObj.cells t_impl_Need [.str x.1, .str x.2] false] = h0
  generalize hh1 : h0 ++ [AObj.cells t_string [.str [88], .str [89], .str [90], .str [120], .str [121], .str [122]] false] = h1
  have s0 : Same h.length h h0 := by rw [← hh0]; exact same_last
  have s1 : Same h0.length h0 h1 := by rw [← hh1]; exact same_last
  have x0 : h0[h.length]? = some (.cells t_impl_Need [.str x.1, .str x.2] false) := by rw [← hh0]; simp
  have x1 := s1.get x0 (Own.lt x0)
  have l1 : h1[h0.length]? = some (.cells t_string [.str [88], .str [89], .str [90], .str [120], .str [121], .str [122]] false) := by rw [← hh1]; simp
  have S1 := s0.cat s1
  refine F_spec_l8Smaller.L2ind _ _ _ _ _ _ _ _ _ (J := fun (g : Nat) x9 h' => x9 = (g : Int) ∧ g ≤ 6 ∧ Same h1.length h1 h' ∧ (varsN.take g).all (fun v => decide (cntV x.2 [v] ≤ cntV than [v])) = true) (fun g => 6 - g) ?_ 0 _ _ ⟨rfl, by omega, Same.refl _ _, rfl⟩
  rintro g x9 h' ⟨rfl, hg, hS, hk⟩ R hR
  have x2 := hS.get x1 (Own.lt x1)
  have l2 := hS.get l1 (Own.lt l1)
  unfold F_spec_l8Smaller.L2t
  refine bcase_dec (fun hlt => ?_) (fun hge => ?_)
  · have hlt' : g < 6 := by omega
    have hgl : g < varsN.length := hlt'
    have hc : hCell h' (.ptr (some (h0.length, (g : Int).toNat * 1))) = some (.str [varsN[g]]) := by
      rw [hCell_of l2, Int.toNat_natCast]
      match g, hlt' with
      | 0, _ | 1, _ | 2, _ | 3, _ | 4, _ | 5, _ => rfl
    simp only [xSome_some, hc, xStr_some, hCell_of x2, Nat.zero_add, List.getElem?_cons_succ, List.getElem?_cons_zero]
    refine ⟨by omega, (sCountVar_ok x.2 _ ht).mono ?_⟩
    rintro v k2 ⟨rfl, s2⟩
    simp only [xInt_some]
    refine (sCountVar_ok than _ hn).mono ?_
    rintro v k3 ⟨rfl, s3⟩
    simp only [xInt_some]
    have hS3 := (hS.cat s2).cat s3
    refine bcase_dec (fun hb => ?_) (fun hb => ?_)
    · refine ⟨?_, S1.cat hS3⟩
      unfold smallN
      rw [not_all (g := g) hgl (by simp; omega)]; rfl
    · rw [wrap_nat (by omega)]
      exact hR (g + 1) _ _ (by omega) ⟨rfl, by omega, hS3, take_succ_all hgl hk (by simp; omega)⟩
  · apply F_spec_l8Smaller.A2x0i
    have : g = 6 := by omega
    subst this
    simp only [hCell_of x2, Nat.zero_add, List.getElem?_cons_succ, List.getElem?_cons_zero, xStr_some]
    refine (sSizeOf_ok x.2 ht h').mono ?_
    rintro v k2 ⟨rfl, s2⟩
    simp only [xInt_some]
    refine (sSizeOf_ok than hn k2).mono ?_
    rintro v k3 ⟨rfl, s3⟩
    simp only [xInt_some]
    refine ⟨?_, S1.cat ((hS.cat s2).cat s3)⟩
    unfold smallN
    rw [show (varsN.take 6) = varsN from rfl] at hk
    rw [hk, Bool.true_and]
end Go.Sim

set_option linter.unusedVariables false
set_option linter.unusedSimpArgs false
set_option maxRecDepth 20000
namespace Go.Sim
open Go Go.RowKit

theorem u_L_int : pg.underlying t_L_int = some (.slice t_int) := by kernel_rfl
theorem c_int : pg.cellsOf t_int = 1 := by kernel_rfl
theorem k_int : pg.okElem t_int = true := by kernel_rfl
theorem b_int : pg.bytesOf t_int ≤ 127 := Nat.le_of_ble_eq_true (by kernel_rfl)
/-- An instance with a need that is no smaller. -/
noncomputable def growI (i : Ins) : Bool := i.2.any fun n => !smallN n.2 i.1.2
/-- The indices of the elements for which something holds. -/
def ixs {α : Type} (f : α → Bool) (l : List α) : List Int := (l.zipIdx.filter fun p => f p.1).map fun p => (p.2 : Int)
theorem ixs_take {α : Type} (f : α → Bool) {l : List α} {g : Nat} (h : g < l.length) : ixs f (l.take (g + 1)) = ixs f (l.take g) ++ if f l[g] then [(g : Int)] else [] := by
  unfold ixs
  rw [List.take_succ_eq_append_getElem h, List.zipIdx_append, List.filter_append, List.map_append]
  congr 1
  simp only [List.length_take, Nat.min_eq_left (by omega : g ≤ l.length), Nat.zero_add, List.zipIdx_singleton, List.filter_cons, List.filter_nil]
  split <;> simp
theorem ixs_len {α : Type} (f : α → Bool) (l : List α) : (ixs f l).length ≤ l.length := by
  unfold ixs; rw [List.length_map]; exact Nat.le_trans (List.length_filter_le _ _) (by simp)
noncomputable def growL (w : Wd) : List Int := if worldOk w then ixs growI w.is else []
theorem worldOk_parts {w : Wd} (h : worldOk w = true) {i : Ins} (hi : i ∈ w.is) : tyOk i.1.2 = true ∧ ∀ n ∈ i.2, tyOk n.2 = true := by
  unfold worldOk at h
  simp only [Bool.and_eq_true, List.all_eq_true] at h
  have := h.2 i hi
  unfold insOk at this
  simp only [Bool.and_eq_true, List.all_eq_true] at this
  refine ⟨this.1.1.1.1.2, fun n hn => ?_⟩
  have := this.2 n hn
  unfold needIn at this
  simp only [Bool.and_eq_true] at this
  exact this.1.1.2
theorem fa0 {j o : Nat} {K : AVal → Prop} : fieldAddrA pg t_impl_Instance (.ptr (some (j, o))) 0 K = K (.ptr (some (j, o + 0))) := by kernel_rfl
theorem fa1 {j o : Nat} {K : AVal → Prop} : fieldAddrA pg t_impl_Need (.ptr (some (j, o))) 1 K = K (.ptr (some (j, o + 1))) := by kernel_rfl
theorem growLit_ok {h : AHeap} {a : Pt} {n c j : Nat} {e : Bool} {x : Nd} {ct tt : List Nat} (hj : h[j]? = some (.cells t_impl_Instance [.str ct, .str tt, .slice a n c e] false)) (h1 : tyOk x.2 = true) (h2 : tyOk tt = true) :
    SCall pg n_impl_GrowingOf_lit1 [.agg [.str x.1, .str x.2], .ptr (some (j, 0))] h fun v h' => v = .bool (!smallN x.2 tt) ∧ Same h.length h h' := by
  apply F_impl_GrowingOf_lit1.call
  have s1 : Same h.length h (h ++ [.cells t_impl_Need [.str x.1, .str x.2] false]) := same_last
  simp only [letH_def, hCell_last, Nat.zero_add, List.getElem?_cons_succ, List.getElem?_cons_zero, xStr_some, fa0, fa1, hCell_of (s1.get hj (Own.lt hj))]
  refine (smaller_ok h1 h2).mono ?_
  rintro v h2 ⟨rfl, s2⟩
  simp only [xBool_some]
  exact ⟨by trivial, s1.cat s2⟩
theorem any_take {l : List Nd} {f : Nd → Bool} {g : Nat} (hg : g < l.length) : (l.take (g + 1)).any f = ((l.take g).any f || f l[g]) := by
  rw [List.take_succ_eq_append_getElem hg, List.any_append]; simp
theorem index_grow {h : AHeap} {a a2 : Pt} {n c n2 c2 j : Nat} {e e2 : Bool} {ns : List Nd} {ct tt : List Nat} (hj : h[j]? = some (.cells t_impl_Instance [.str ct, .str tt, .slice a n c e] false)) (r : Row h.length h a2 (n2 * 2) (flat eP ns)) (hn : n2 ≤ 1048576) (h1 : ∀ x ∈ ns, tyOk x.2 = true) (h2 : tyOk tt = true) :
    SCall pg n_slices_IndexFunc_L_impl_Need_impl_Need [.slice a2 n2 c2 e2, .fn n_impl_GrowingOf_lit1 [.ptr (some (j, 0))]] h fun v h' => (∃ z : Int, v = .int .i64 z ∧ decide (z ≥ 0) = ns.any fun x => !smallN x.2 tt) ∧ Same h.length h h' := by
  have hl : ns.length = n2 := by have := r.1; rw [flat_length eP_len] at this; omega
  apply F_slices_IndexFunc_L_impl_Need_impl_Need__impl_GrowingOf_lit1.call
  refine F_slices_IndexFunc_L_impl_Need_impl_Need__impl_GrowingOf_lit1.L2ind _ _ _ _ _ _ _ (J := fun (g : Nat) x8 h' => x8 = (g : Int) ∧ g ≤ n2 ∧ Same h.length h h' ∧ (ns.take g).any (fun x => !smallN x.2 tt) = false) (fun g => n2 - g) ?_ 0 _ _ ⟨rfl, by omega, Same.refl _ _, rfl⟩
  rintro g x8 h' ⟨rfl, hg, hS, hk⟩ R hR
  unfold F_slices_IndexFunc_L_impl_Need_impl_Need__impl_GrowingOf_lit1.L2t
  refine bcase_dec (fun hlt => ?_) (fun hge => ?_)
  · obtain ⟨i, o, hgl, rfl, _, hr, _⟩ := (r.same hS).pr (k := g) (by omega)
    simp only [xSome_some, Int.toNat_natCast, hr, xRow_some, xCons_cons, xNil_nil, xStr_some]
    refine ⟨by omega, (growLit_ok (x := ns[g]) (hS.get hj (Own.lt hj)) (h1 _ (List.getElem_mem hgl)) h2).mono ?_⟩
    rintro v h2 ⟨rfl, s2⟩
    simp only [xBool_some]
    have hS2 := hS.cat s2
    refine bcase_intro (fun he => ?_) (fun he => ?_)
    · refine ⟨⟨_, rfl, ?_⟩, hS2⟩
      have : (ns.any fun x => !smallN x.2 tt) = true := List.any_eq_true.2 ⟨_, List.getElem_mem hgl, he⟩
      rw [this]; simp
    · rw [wrap_nat (by omega)]
      exact hR (g + 1) _ _ (by omega) ⟨rfl, by omega, hS2, by rw [any_take hgl, hk, he]; rfl⟩
  · apply F_slices_IndexFunc_L_impl_Need_impl_Need__impl_GrowingOf_lit1.A2x0i
    have : g = n2 := by omega
    subst this
    rw [List.take_of_length_le (by omega)] at hk
    exact ⟨⟨_, rfl, by rw [hk]; rfl⟩, hS⟩
/-- What GrowingOf answers. -/
def GrowQ (w : Wd) (h : AHeap) (v : AVal) (h' : AHeap) : Prop := Same h.length h h' ∧ ∃ a n c e, v = .tup [.slice a n c e, .bool (worldOk w)] ∧ FreshR t_int eI h.length h' a n (growL w)
theorem growingOf_ok {h : AHeap} {a0 a1 : Pt} {n0 c0 n1 c1 : Nat} {e0 e1 : Bool} {w : Wd} (r : WRep h a0 n0 c0 a1 n1 c1 w) (b : WB w) :
    SCall pg n_impl_GrowingOf [.agg [.slice a0 n0 c0 e0, .slice a1 n1 c1 e1]] h (GrowQ w h) := by
  have hl1 := r.len1
  have hli := b.li
  apply F_impl_GrowingOf.call
  simp only [letH_def]
  generalize hh0 : h ++ [AObj.cells t_impl_World [.slice a0 n0 c0 e0, .slice a1 n1 c1 e1] false] = h0
  have s0 : Same h.length h h0 := by rw [← hh0]; exact same_last
  have w0 : h0[h.length]? = some (wObj a0 n0 c0 e0 a1 n1 c1 e1) := by rw [← hh0]; simp [wObj]
  rw [wRow w0]
  simp only [xRow_some, xCons_cons, xNil_nil, xSl_some]
  refine (worldValid_ok (r.same s0) b).mono ?_
  rintro v h2 ⟨rfl, s2⟩
  have S2 := s0.cat s2
  have w2 := s2.get w0 (Own.lt w0)
  simp only [xBool_some]
  refine bcase_not (fun b1 => ⟨S2, _, _, _, _, by rw [b1], by unfold growL; rw [b1]; exact ⟨rfl, .inl rfl⟩⟩) (fun b1 => ?_)
  have s3 : Same h2.length h2 (h2 ++ [.cells t_int [] false]) := same_last
  simp only [wCell (s3.get w2 (Own.lt w2)), Nat.zero_add, List.getElem?_cons_succ, List.getElem?_cons_zero, xSl_some]
  have S3 := S2.cat s3
  refine F_impl_GrowingOf.L5ind _ _ _ _ _ _ (J := fun (g : Nat) a4 n4 c4 e4 x14 h' => x14 = (g : Int) ∧ g ≤ n1 ∧ Same h.length h h' ∧ n4 = (ixs growI (w.is.take g)).length ∧ Vec t_int h' a4 n4 c4 (flat eI (ixs growI (w.is.take g))) ∧ (∀ i, a4 = some (i, 0) → h.length ≤ i)) (fun g => n1 - g) ?_ 0 _ _ _ _ _ _
    ⟨rfl, by omega, S3, rfl, Vec.mk1 (by simp [ixs]), fun i hi => by cases hi; have := S2.le; omega⟩
  rintro g a4 n4 c4 e4 x14 h' ⟨rfl, hg, hS, rfl, hv, ha⟩ R hR
  unfold F_impl_GrowingOf.L5t
  refine bcase_dec (fun hlt => ?_) (fun hge => ?_)
  · obtain ⟨i, o, hgl, a2, n2, c2, e2, rfl, _, hr, _, _, _, hrow, hn⟩ := (r.same hS).inst (k := g) (by omega)
    simp only [xSome_some, Int.toNat_natCast, hr, xRow_some, xCons_cons, xNil_nil, xStr_some, xSl_some, letH_def]
    rw [store3]
    simp only [xHeap_some, hCell_last, Nat.zero_add, List.getElem?_cons_succ, List.getElem?_cons_zero, xSl_some]
    have hb := b.is _ (List.getElem_mem hgl)
    have hp := worldOk_parts b1 (List.getElem_mem hgl)
    generalize hq : h' ++ [AObj.cells t_impl_Instance [.str w.is[g].1.1, .str w.is[g].1.2, .slice a2 n2 c2 e2] false] = hq'
    have sq : Same h'.length h' hq' := by rw [← hq]; exact same_last
    have iq : hq'[h'.length]? = some (.cells t_impl_Instance [.str w.is[g].1.1, .str w.is[g].1.2, .slice a2 n2 c2 e2] false) := by rw [← hq]; simp
    refine ⟨by omega, ?_⟩
    apply F_slices_ContainsFunc_L_impl_Need_impl_Need__impl_GrowingOf_lit1.call
    refine (index_grow iq (hrow.same' sq) (by omega) hp.2 hp.1).mono ?_
    rintro v h5 ⟨⟨z, rfl, hz⟩, s5⟩
    simp only [xInt_some, xBool_some, hz]
    have S5 := (hS.cat sq).cat s5
    have hv5 := (hv.same sq).same s5
    have hil := ixs_len growI (w.is.take g)
    rw [List.length_take] at hil
    have htk := ixs_take growI hgl
    rw [show (w.is[g].2.any fun x => !smallN x.2 w.is[g].1.2) = growI w.is[g] from rfl]
    refine bcase_intro (fun hgr => ?_) (fun hgr => ?_)
    · rw [hgr, if_pos rfl] at htk
      refine hv5.push u_L_int c_int k_int b_int (by rw [flat_length eI_len]; omega) rfl (by omega) (fun h6 hl6 hi6 hk6 => ?_)
      simp only [xSl_some]
      apply F_impl_GrowingOf.J9i
      rw [wrap_nat (by omega)]
      have hle := S5.le
      refine hR (g + 1) _ _ _ _ _ _ (by omega) ⟨rfl, by omega, ⟨by omega, fun j hj => ?_⟩, by rw [htk]; simp, Vec.mk1 ?_, fun i hi => by cases hi; omega⟩
      · rw [hk6 j (by omega) fun i hi => by have := ha i hi; omega]; exact S5.eq j hj
      · rw [hi6, htk, flat_append]; rfl
    · apply F_impl_GrowingOf.J9i
      rw [hgr] at htk
      simp only [Bool.false_eq_true, if_false, List.append_nil] at htk
      rw [wrap_nat (by omega)]
      exact hR (g + 1) _ _ _ _ _ _ (by omega) ⟨rfl, by omega, S5, by rw [htk], by rw [htk]; exact hv5, ha⟩
  · apply F_impl_GrowingOf.A5x0i
    have : g = n1 := by omega
    subst this
    have hw : growL w = ixs growI w.is := by unfold growL; rw [b1]; rfl
    rw [List.take_of_length_le (by omega)] at hv ⊢
    refine ⟨hS, _, _, _, _, by rw [b1], ?_⟩
    rw [hw]
    refine ⟨rfl, ?_⟩
    rcases hv with ⟨rfl, h0, _⟩ | ⟨i, rfl, hi⟩
    · exact .inl h0
    · exact .inr ⟨i, rfl, ha i rfl, hi⟩
theorem isEnding_ok {h : AHeap} {a0 a1 : Pt} {n0 c0 n1 c1 : Nat} {e0 e1 : Bool} {w : Wd} (r : WRep h a0 n0 c0 a1 n1 c1 w) (b : WB w) :
    SCall pg n_impl_IsEnding [.agg [.slice a0 n0 c0 e0, .slice a1 n1 c1 e1]] h fun v h' => v = .bool (worldOk w && ((growL w).length : Int) == 0) ∧ Same h.length h h' := by
  apply F_impl_IsEnding.call
  simp only [letH_def]
  have s0 : Same h.length h (h ++ [.cells t_impl_World [.slice a0 n0 c0 e0, .slice a1 n1 c1 e1] false]) := same_last
  rw [rowL2]
  simp only [xRow_some, xCons_cons, xNil_nil, xSl_some]
  refine (growingOf_ok (r.same s0) b).mono ?_
  rintro v h2 ⟨s2, a, n, c, e, rfl, f⟩
  simp only [xTup_tup, xCons_cons, xSl_some, xBool_some, xNil_nil]
  refine bcase_intro (fun b1 => ⟨by rw [b1, f.1]; rfl, s0.cat s2⟩) (fun b1 => ⟨by rw [b1]; rfl, s0.cat s2⟩)
theorem sGrowingOf_ok {h : AHeap} {a0 a1 : Pt} {n0 c0 n1 c1 : Nat} {e0 e1 : Bool} {w : Wd} (r : WRep h a0 n0 c0 a1 n1 c1 w) (b : WB w) :
    SCall pg n_spec_GrowingOf [.agg [.slice a0 n0 c0 e0, .slice a1 n1 c1 e1]] h (GrowQ w h) := by
  have hl1 := r.len1
  have hli := b.li
  apply F_spec_GrowingOf.call
  simp only [letH_def]
  generalize hh0 : h ++ [AObj.cells t_impl_World [.slice a0 n0 c0 e0, .slice a1 n1 c1 e1] false] = h0
  generalize hh1 : h0 ++ [AObj.cells t_int [] false] = h1
  have s0 : Same h.length h h0 := by rw [← hh0]; exact same_last
  have s1 : Same h0.length h0 h1 := by rw [← hh1]; exact same_last
  have w0 : h0[h.length]? = some (wObj a0 n0 c0 e0 a1 n1 c1 e1) := by rw [← hh0]; simp [wObj]
  have w1 := s1.get w0 (Own.lt w0)
  have o1 : h1[h0.length]? = some (.cells t_int [] false) := by rw [← hh1]; simp
  have l0 : h0.length = h.length + 1 := by rw [← hh0]; simp
  rw [wRow w1]
  simp only [xRow_some, xCons_cons, xNil_nil, xSl_some]
  refine (sWorldValid_ok (r.same (s0.cat s1)) b).mono ?_
  rintro v h2 ⟨rfl, s2⟩
  have S2 := (s0.cat s1).cat s2
  have w2 := s2.get w1 (Own.lt w1)
  have o2 := s2.get o1 (Own.lt o1)
  simp only [xBool_some]
  refine bcase_not (fun b1 => ⟨S2, _, _, _, _, by rw [b1], by unfold growL; rw [b1]; exact ⟨rfl, .inl rfl⟩⟩) (fun b1 => ?_)
  simp only [wCell w2, Nat.zero_add, List.getElem?_cons_succ, List.getElem?_cons_zero, xSl_some]
  refine F_spec_GrowingOf.L5ind _ _ _ _ _ _ (J := fun (g : Nat) a4 n4 c4 e4 x14 h' => x14 = (g : Int) ∧ g ≤ n1 ∧ Same h.length h h' ∧ n4 = (ixs growI (w.is.take g)).length ∧ Vec t_int h' a4 n4 c4 (flat eI (ixs growI (w.is.take g))) ∧ (∀ i, a4 = some (i, 0) → h.length ≤ i)) (fun g => n1 - g) ?_ 0 _ _ _ _ _ _
    ⟨rfl, by omega, S2, rfl, Vec.mk1 (by simpa [ixs] using o2), fun i hi => by cases hi; omega⟩
  rintro g a4 n4 c4 e4 x14 h' ⟨rfl, hg, hS, rfl, hv, ha⟩ R hR
  unfold F_spec_GrowingOf.L5t
  refine bcase_dec (fun hlt => ?_) (fun hge => ?_)
  · obtain ⟨i, o, hgl, a2, n2, c2, e2, rfl, _, hr, _, _, _, hrow, hn⟩ := (r.same hS).inst (k := g) (by omega)
    simp only [xSome_some, Int.toNat_natCast, hr, xRow_some, xCons_cons, xNil_nil, xStr_some, xSl_some, letH_def]
    rw [store3]
    simp only [xHeap_some, hCell_last, Nat.zero_add, List.getElem?_cons_succ, List.getElem?_cons_zero, xSl_some]
    have hb := b.is _ (List.getElem_mem hgl)
    generalize hq : h' ++ [AObj.cells t_impl_Instance [.str w.is[g].1.1, .str w.is[g].1.2, .slice a2 n2 c2 e2] false] = hq'
    have sq : Same h'.length h' hq' := by rw [← hq]; exact same_last
    have iq : hq'[h'.length]? = some (.cells t_impl_Instance [.str w.is[g].1.1, .str w.is[g].1.2, .slice a2 n2 c2 e2] false) := by rw [← hq]; simp
    refine ⟨by omega, ?_⟩
    have hil := ixs_len growI (w.is.take g)
    rw [List.length_take] at hil
    have htk := ixs_take growI hgl
    refine F_spec_GrowingOf.L9ind _ _ _ _ _ _ _ _ _ _ _ _ _ _ _ _ _ _ _ _ (J := fun (q : Nat) x7 x26 h3 => x26 = (q : Int) ∧ q ≤ n2 ∧ Same hq'.length hq' h3 ∧ x7 = (w.is[g].2.take q).any (fun x => !smallN x.2 w.is[g].1.2)) (fun q => n2 - q) ?_ 0 _ _ _ ⟨rfl, by omega, Same.refl _ _, rfl⟩
    rintro q x7 x26 h3 ⟨rfl, hq0, hS3, rfl⟩ R9 hR9
    unfold F_spec_GrowingOf.L9t
    have S3 := (hS.cat sq).cat hS3
    refine bcase_dec (fun hlt3 => ?_) (fun hge3 => ?_)
    · obtain ⟨i', o', hql, rfl, _, hr3, _⟩ := ((hrow.same' sq).same hS3).pr (k := q) (by omega)
      simp only [xSome_some, Int.toNat_natCast, hr3, xRow_some, xCons_cons, xNil_nil, xStr_some, letH_def]
      rw [store2]
      generalize hz : h3 ++ [AObj.cells t_impl_Need [.str w.is[g].2[q].1, .str w.is[g].2[q].2] false] = hz'
      have sz : Same h3.length h3 hz' := by rw [← hz]; exact same_last
      simp only [xHeap_some]
      have hat := any_take (f := fun x => !smallN x.2 w.is[g].1.2) hql
      refine ⟨by omega, bcase_intro (fun hx => ?_) (fun hx => ?_)⟩
      · apply F_spec_GrowingOf.J12i
        rw [wrap_nat (by omega)]
        exact hR9 (q + 1) _ _ _ (by omega) ⟨rfl, by omega, hS3.cat sz, by rw [hat, hx]; rfl⟩
      · simp only [hCell_of ((hS3.cat sz).get iq (Own.lt iq)), Nat.zero_add, Nat.add_zero, List.getElem?_cons_succ, List.getElem?_cons_zero, xStr_some]
        rw [← hz, rowL2, hz]
        simp only [xRow_some, xCons_cons, xNil_nil, xStr_some]
        refine (l8Smaller_ok (x := w.is[g].2[q]) (hb.2.2.2 _ (List.getElem_mem hql)).2 hb.2.1).mono ?_
        rintro v h6 ⟨rfl, s6⟩
        simp only [xBool_some]
        apply F_spec_GrowingOf.J12i
        rw [wrap_nat (by omega)]
        exact hR9 (q + 1) _ _ _ (by omega) ⟨rfl, by omega, (hS3.cat sz).cat s6, by rw [hat, hx]; rfl⟩
    · apply F_spec_GrowingOf.A9x2i
      have : q = n2 := by omega
      subst this
      rw [List.take_of_length_le (by omega), show (w.is[g].2.any fun x => !smallN x.2 w.is[g].1.2) = growI w.is[g] from rfl]
      have hv5 := (hv.same sq).same hS3
      refine bcase_intro (fun hgr => ?_) (fun hgr => ?_)
      · simp only [letH_def]
        rw [hgr, if_pos rfl] at htk
        refine hv5.push u_L_int c_int k_int b_int (by rw [flat_length eI_len]; omega) rfl (by omega) (fun h6 hl6 hi6 hk6 => ?_)
        simp only [xSl_some]
        apply F_spec_GrowingOf.J15i
        rw [wrap_nat (by omega)]
        have hle := S3.le
        refine hR (g + 1) _ _ _ _ _ _ (by omega) ⟨rfl, by omega, ⟨by omega, fun j hj => ?_⟩, by rw [htk]; simp, Vec.mk1 ?_, fun i hi => by cases hi; omega⟩
        · rw [hk6 j (by omega) fun i hi => by have := ha i hi; omega]; exact S3.eq j hj
        · rw [hi6, htk, flat_append]; rfl
      · apply F_spec_GrowingOf.J15i
        rw [hgr] at htk
        simp only [Bool.false_eq_true, if_false, List.append_nil] at htk
        rw [wrap_nat (by omega)]
        exact hR (g + 1) _ _ _ _ _ _ (by omega) ⟨rfl, by omega, S3, by rw [htk], by rw [htk]; exact hv5, ha⟩
  · apply F_spec_GrowingOf.A5x0i
    have : g = n1 := by omega
    subst this
    have hw : growL w = ixs growI w.is := by unfold growL; rw [b1]; rfl
    rw [List.take_of_length_le (by omega)] at hv ⊢
    refine ⟨hS, _, _, _, _, by rw [b1], ?_⟩
    rw [hw]
    refine ⟨rfl, ?_⟩
    rcases hv with ⟨rfl, h0, _⟩ | ⟨i, rfl, hi⟩
    · exact .inl h0
    · exact .inr ⟨i, rfl, ha i rfl, hi⟩
theorem sIsEnding_ok {h : AHeap} {a0 a1 : Pt} {n0 c0 n1 c1 : Nat} {e0 e1 : Bool} {w : Wd} (r : WRep h a0 n0 c0 a1 n1 c1 w) (b : WB w) :
    SCall pg n_spec_IsEnding [.agg [.slice a0 n0 c0 e0, .slice a1 n1 c1 e1]] h fun v h' => v = .bool (worldOk w && ((growL w).length : Int) == 0) ∧ Same h.length h h' := by
  apply F_spec_IsEnding.call
  simp only [letH_def]
  have s0 : Same h.length h (h ++ [.cells t_impl_World [.slice a0 n0 c0 e0, .slice a1 n1 c1 e1] false]) := same_last
  rw [rowL2]
  simp only [xRow_some, xCons_cons, xNil_nil, xSl_some]
  refine (sGrowingOf_ok (r.same s0) b).mono ?_
  rintro v h2 ⟨s2, a, n, c, e, rfl, f⟩
  simp only [xTup_tup, xCons_cons, xSl_some, xBool_some, xNil_nil]
  refine bcase_intro (fun b1 => ⟨by rw [b1, f.1]; rfl, s0.cat s2⟩) (fun b1 => ⟨by rw [b1]; rfl, s0.cat s2⟩)
end Go.Sim

set_option linter.unusedVariables false
set_option linter.unusedSimpArgs false
set_option maxRecDepth 20000
namespace Go.Sim
open Go Go.RowKit

theorem lawEnding {h : AHeap} {a0 a1 : Pt} {n0 c0 n1 c1 : Nat} {e0 e1 : Bool} {w : Wd} (r : WRep h a0 n0 c0 a1 n1 c1 w) (hb : WBig w) :
    SCall pg n_laws_FnExactIsEnding [.agg [.slice a0 n0 c0 e0, .slice a1 n1 c1 e1]] h fun v _ => v = .bool true := by
  apply F_laws_FnExactIsEnding.call
  simp only [letH_def]
  generalize hh0 : h ++ [AObj.cells t_laws_World [.slice a0 n0 c0 e0, .slice a1 n1 c1 e1] false] = h0
  have s0 : Same h.length h h0 := by rw [← hh0]; exact same_last
  have x0 : h0[h.length]? = some (.cells t_laws_World [.slice a0 n0 c0 e0, .slice a1 n1 c1 e1] false) := by rw [← hh0]; simp
  rw [row_all2 x0]
  simp only [xRow_some, xCons_cons, xNil_nil, xSl_some]
  refine (szWorld_ok (r.same s0) hb (x := 1048576) (by omega)).mono ?_
  rintro v h1 ⟨y, rfl, s1, hy⟩
  simp only [xInt_some]
  refine bcase_dec (fun _ => by trivial) (fun hge => ?_)
  have hyy := hy (by omega)
  have b : WB w := .of hb (by omega)
  have S1 := s0.cat s1
  have x1 := s1.get x0 (Own.lt x0)
  rw [row_all2 x1]
  simp only [xRow_some, xCons_cons, xNil_nil, xSl_some]
  refine (toWorld_ok (r.same S1) b).mono ?_
  rintro v h3 ⟨b0, d0, f0, b1, d1, f1, ys, rfl, hd0, hd1, s3, W3⟩
  simp only [xAgg_agg, xCons_cons, xNil_nil, xSl_some]
  have S3 := S1.cat s3
  have x3 := s3.get x1 (Own.lt x1)
  refine (sIsEnding_ok (W3.rep hd0 hd1) b).mono ?_
  rintro v h5 ⟨rfl, s5⟩
  simp only [xBool_some]
  have S5 := S3.cat s5
  have x5 := s5.get x3 (Own.lt x3)
  rw [row_all2 x5]
  simp only [xRow_some, xCons_cons, xNil_nil, xSl_some]
  refine (toWorld_ok (r.same S5) b).mono ?_
  rintro v h6 ⟨p0, q0, g0, p1, q1, g1, zs, rfl, hq0, hq1, s6, W6⟩
  simp only [xAgg_agg, xCons_cons, xNil_nil, xSl_some]
  rw [store2]
  simp only [xHeap_some]
  generalize hh7 : h6 ++ [AObj.cells t_impl_World [.slice p0 n0 q0 g0, .slice p1 n1 q1 g1] false] = h7
  have s7 : Same h6.length h6 h7 := by rw [← hh7]; exact same_last
  have y7 : h7[h6.length]? = some (.cells t_impl_World [.slice p0 n0 q0 g0, .slice p1 n1 q1 g1] false) := by rw [← hh7]; simp
  have S7 := (S5.cat s6).cat s7
  have x6 := s6.get x5 (Own.lt x5)
  have x7 := s7.get x6 (Own.lt x6)
  rw [row_all2 y7]
  simp only [xRow_some, xCons_cons, xNil_nil, xSl_some]
  have R7 := (W6.rep hq0 hq1).same s7
  refine (isEnding_ok R7 b).mono ?_
  rintro v h9 ⟨rfl, s9⟩
  simp only [xBool_some, beq_self_eq_true, Bool.not_true, bcase_false]
  have S9 := S7.cat s9
  have y9 := s9.get y7 (Own.lt y7)
  have x9 := s9.get x7 (Own.lt x7)
  rw [row_all2 y9, row_all2 x9]
  simp only [xRow_some, xCons_cons, xNil_nil, xSl_some, true_and]
  refine (toWorld_ok (r.same S9) b).mono ?_
  rintro v h10 ⟨u0, v0, k0, u1, v1, k1, ts, rfl, hv0, hv1, s10, W10⟩
  simp only [xAgg_agg, xCons_cons, xNil_nil, xSl_some]
  rw [row_all2 (s10.get y9 (Own.lt y9))]
  refine ⟨rfl, (eqWorld_ok ((R7.same s9).same s10) (W10.rep hv0 hv1) b).mono ?_⟩
  rintro v h11 ⟨rfl, s11⟩
  simp only [xBool_some, Bool.not_true, bcase_false]
end Go.Sim

set_option linter.unusedVariables false
set_option linter.unusedSimpArgs false
set_option maxRecDepth 20000
namespace Go.Sim
open Go Go.RowKit

def markI (k : Int) (n : Nat) : List Int := (List.range n).map fun (j : Nat) => k + j
theorem markI_len (k : Int) (n : Nat) : (markI k n).length = n := by simp [markI]
theorem markI_succ (k : Int) (n : Nat) : markI k (n + 1) = markI k n ++ [k + n] := by simp [markI, List.range_succ]
theorem markI_get (k : Int) {n g : Nat} (h : g < n) : (markI k n)[g]'(by rw [markI_len]; exact h) = k + g := by simp [markI]
theorem put_int {L : List Int} {g : Nat} {x : Int} (hg : g < L.length) : putRow (flat eI L) (g * 1) [.int .i64 x] = flat eI (L.take g ++ x :: L.drop (g + 1)) := by
  have hA : (flat eI (L.take g)).length = g := by rw [flat_length eI_len, List.length_take]; omega
  have h1 : flat eI L = flat eI (L.take g) ++ .int .i64 L[g] :: flat eI (L.drop (g + 1)) := by
    have e0 : L = L.take g ++ L[g] :: L.drop (g + 1) := by rw [← List.drop_eq_getElem_cons hg, List.take_append_drop]
    have := congrArg (flat eI) e0
    rw [flat_append, flat_cons] at this
    exact this
  rw [flat_append, flat_cons, h1]
  unfold putRow
  rw [Nat.mul_one]
  generalize flat eI (L.take g) = A at *
  subst hA
  rw [List.take_left, show A.length + [AVal.int .i64 x].length = A.length + 1 from rfl, ← List.drop_drop, List.drop_left]
  simp [eI]
theorem markInts_ok {h : AHeap} {b : Nat} {a : Pt} {n c : Nat} {e : Bool} {l : List Int} {k : Int} (f : FreshR t_int eI b h a n l) (hk : 0 ≤ k ∧ k + n ≤ 4611686018427387000) :
    SCall pg n_laws_markIntS [.slice a n c e, .int .i64 k] h fun v h' => v = .int .i64 (k + n) ∧ Only a n h h' ∧ FreshR t_int eI b h' a n (markI k n) := by
  apply F_laws_markIntS.call
  obtain ⟨hl, hf⟩ := f
  refine F_laws_markIntS.L2ind _ _ _ _ _ (J := fun (g : Nat) x1 x5 h' => x5 = (g : Int) ∧ g ≤ n ∧ x1 = k + g ∧ Only a n h h' ∧ (n = 0 ∨ ∃ i, a = some (i, 0) ∧ b ≤ i ∧ h'[i]? = some (.cells t_int (flat eI (markI k g ++ l.drop g)) false))) (fun g => n - g) ?_ 0 _ _ _
    ⟨rfl, by omega, by simp, Only.refl _ _ _, by simpa [markI] using hf⟩
  rintro g x1 x5 h' ⟨rfl, hg, rfl, hO, hst⟩ R hR
  unfold F_laws_markIntS.L2t
  refine bcase_dec (fun hlt => ?_) (fun hge => ?_)
  · rcases hst with h0 | ⟨i, rfl, hbi, ho⟩
    · omega
    have hn0 : n ≠ 0 := by omega
    have hgl : g < (markI k g ++ l.drop g).length := by simp [markI_len]; omega
    have hlen : (flat eI (markI k g ++ l.drop g)).length = n := by rw [flat_length eI_len]; simp [markI_len]; omega
    simp only [xSome_some, Int.toNat_natCast, Nat.zero_add]
    rw [hStore_of ho (by rw [hlen]; simp; omega)]
    simp only [xHeap_some]
    rw [IntWalk.i64_in _ (by omega), wrap_nat (by omega), put_int hgl]
    refine ⟨by omega, hR (g + 1) _ _ _ (by omega) ⟨rfl, by omega, by omega, hO.set hn0, .inr ⟨i, rfl, hbi, ?_⟩⟩⟩
    rw [set_get ho]
    congr 3
    rw [List.take_left' (markI_len k g), markI_succ]
    have : (markI k g ++ l.drop g).drop (g + 1) = l.drop (g + 1) := by
      rw [← List.drop_drop, List.drop_left' (markI_len k g), List.drop_drop]
    rw [this]; simp
  · have : g = n := by omega
    subst this
    apply F_laws_markIntS.A2x0i
    refine ⟨rfl, hO, markI_len _ _, ?_⟩
    rw [List.drop_of_length_le (by omega), List.append_nil] at hst
    exact hst
theorem heldInts_ok {h : AHeap} {a : Pt} {n c : Nat} {e : Bool} {k : Int} (r : Row h.length h a n (flat eI (markI k n))) (hk : 0 ≤ k ∧ k + n ≤ 4611686018427387000) :
    SCall pg n_laws_heldIntS [.slice a n c e, .int .i64 k] h fun v h' => v = .int .i64 (k + n) ∧ h' = h := by
  apply F_laws_heldIntS.call
  refine F_laws_heldIntS.L2ind _ _ _ _ _ (J := fun (g : Nat) x1 x5 h' => x5 = (g : Int) ∧ g ≤ n ∧ x1 = k + g ∧ h' = h) (fun g => n - g) ?_ 0 _ _ _ ⟨rfl, by omega, by simp, rfl⟩
  rintro g x1 x5 h' ⟨rfl, hg, rfl, rfl⟩ R hR
  unfold F_laws_heldIntS.L2t
  refine bcase_dec (fun hlt => ?_) (fun hge => ?_)
  · obtain ⟨i, o, hgl, rfl, hi, hc⟩ := Row.el1 eI_len r (k := g) (by omega)
    rw [markI_get k (by omega)] at hc
    simp only [eI, List.getElem?_cons_zero] at hc
    simp only [xSome_some, Int.toNat_natCast, hc, xInt_some, beq_self_eq_true, Bool.not_true, bcase_false]
    rw [IntWalk.i64_in _ (by omega), wrap_nat (by omega)]
    exact ⟨by omega, hR (g + 1) _ _ _ (by omega) ⟨rfl, by omega, by omega, rfl⟩⟩
  · have : g = n := by omega
    subst this
    exact F_laws_heldIntS.A2x0i _ _ _ ⟨rfl, rfl⟩
end Go.Sim

set_option linter.unusedVariables false
set_option linter.unusedSimpArgs false
set_option maxRecDepth 20000
namespace Go.Sim
open Go Go.RowKit
theorem markClasses_ok {h : AHeap} {b : Nat} {a : Pt} {n c : Nat} {e : Bool} {l : List Nd} {k : Int} (f : FreshR t_impl_Class eP b h a n l) (hk : 0 ≤ k ∧ k + 2 * n ≤ 4611686018427387000) :
    SCall pg n_laws_markClassS [.slice a n c e, .int .i64 k] h fun v h' => v = .int .i64 (k + 2 * n) ∧ Only a n h h' ∧ FreshR t_impl_Class eP b h' a n (markP k n) := by
  apply F_laws_markClassS.call
  obtain ⟨hl, hf⟩ := f
  refine F_laws_markClassS.L2ind _ _ _ _ _ (J := fun (g : Nat) x1 x5 h' => x5 = (g : Int) ∧ g ≤ n ∧ x1 = k + 2 * g ∧ Only a n h h' ∧ (n = 0 ∨ ∃ i, a = some (i, 0) ∧ b ≤ i ∧ h'[i]? = some (.cells t_impl_Class (flat eP (markP k g ++ l.drop g)) false))) (fun g => n - g) ?_ 0 _ _ _
    ⟨rfl, by omega, by simp, Only.refl _ _ _, by simpa [markP] using hf⟩
  rintro g x1 x5 h' ⟨rfl, hg, rfl, hO, hst⟩ R hR
  unfold F_laws_markClassS.L2t
  refine bcase_dec (fun hlt => ?_) (fun hge => ?_)
  · rcases hst with h0 | ⟨i, rfl, hbi, ho⟩
    · omega
    have hn0 : n ≠ 0 := by omega
    have hgl : g < (markP k g ++ l.drop g).length := by simp [markP_len]; omega
    have hlen : (flat eP (markP k g ++ l.drop g)).length = n * 2 := by rw [flat_length eP_len]; simp [markP_len]; omega
    refine (markText_ok (by omega)).mono ?_
    rintro v h1 ⟨rfl, s1⟩
    simp only [xStr_some, xSome_some, Int.toNat_natCast, Nat.zero_add, Nat.add_zero]
    have ho1 : h1[i]? = some (.cells t_impl_Class (flat eP (markP k g ++ l.drop g)) false) := by rw [s1.eq i (Own.lt ho)]; exact ho
    rw [hStore_of ho1 (by rw [hlen]; simp; omega)]
    simp only [xHeap_some]
    refine ⟨by omega, (markText_ok (by rw [IntWalk.i64_in _ (by omega)]; omega)).mono ?_⟩
    rintro v h2 ⟨rfl, s2⟩
    simp only [xStr_some]
    rw [IntWalk.i64_in (k + 2 * (g : Int) + 1) (by omega)]
    have ho2 : h2[i]? = some (.cells t_impl_Class (putRow (flat eP (markP k g ++ l.drop g)) (g * 2) [.str (markT (k + 2 * g))]) false) := by rw [s2.eq i (by simp; exact Own.lt ho1)]; exact set_get ho1
    have hlen2 : (putRow (flat eP (markP k g ++ l.drop g)) (g * 2) [.str (markT (k + 2 * g))]).length = n * 2 := by rw [putRow_length (by rw [hlen]; simp; omega), hlen]
    rw [hStore_of ho2 (by rw [hlen2]; simp; omega)]
    simp only [xHeap_some]
    rw [IntWalk.i64_in _ (by omega), wrap_nat (by omega)]
    refine ⟨by omega, hR (g + 1) _ _ _ (by omega) ⟨rfl, by omega, by omega, ((hO.same s1).set hn0 |>.same s2).set hn0, .inr ⟨i, rfl, hbi, ?_⟩⟩⟩
    rw [set_get ho2, put_two hgl]
    congr 3
    rw [List.take_left' (markP_len k g), markP_succ]
    have : (markP k g ++ l.drop g).drop (g + 1) = l.drop (g + 1) := by
      rw [← List.drop_drop, List.drop_left' (markP_len k g), List.drop_drop]
    rw [this]; simp
  · have : g = n := by omega
    subst this
    apply F_laws_markClassS.A2x0i
    refine ⟨rfl, hO, markP_len _ _, ?_⟩
    rw [List.drop_of_length_le (by omega), List.append_nil] at hst
    exact hst
theorem heldClasses_ok {h : AHeap} {a : Pt} {n c : Nat} {e : Bool} {k : Int} (r : Row h.length h a (n * 2) (flat eP (markP k n))) (hk : 0 ≤ k ∧ k + 2 * n ≤ 4611686018427387000) :
    SCall pg n_laws_heldClassS [.slice a n c e, .int .i64 k] h fun v h' => v = .int .i64 (k + 2 * n) ∧ Same h.length h h' := by
  apply F_laws_heldClassS.call
  refine F_laws_heldClassS.L2ind _ _ _ _ _ (J := fun (g : Nat) x1 x5 h' => x5 = (g : Int) ∧ g ≤ n ∧ x1 = k + 2 * g ∧ Same h.length h h') (fun g => n - g) ?_ 0 _ _ _ ⟨rfl, by omega, by simp, Same.refl _ _⟩
  rintro g x1 x5 h' ⟨rfl, hg, rfl, hS⟩ R hR
  unfold F_laws_heldClassS.L2t
  refine bcase_dec (fun hlt => ?_) (fun hge => ?_)
  · obtain ⟨i, o, hgl, rfl, hi, _, hc⟩ := Row.el eP_len (r.same hS) (markP_len k n) (k := g) (by omega) (by omega)
    rw [markP_get k (by omega)] at hc
    have c0 := hc 0 (by omega)
    have c1 := hc 1 (by omega)
    simp only [eP, List.getElem?_cons_zero, List.getElem?_cons_succ] at c0 c1
    simp only [xSome_some, Int.toNat_natCast, c0, xStr_some]
    refine ⟨by omega, (markText_ok (by omega)).mono ?_⟩
    rintro v h1 ⟨rfl, s1⟩
    have hl := hS.le
    simp only [xStr_some]
    have c01 := (s1.mono hl).cell (by omega) c0
    have c11 := (s1.mono hl).cell (by omega) c1
    refine ⟨c01, ?_⟩
    simp only [decide_true, Bool.not_true, bcase_false, xSome_some, c11, xStr_some]
    refine ⟨by omega, (markText_ok (by rw [IntWalk.i64_in _ (by omega)]; omega)).mono ?_⟩
    rintro v h2 ⟨rfl, s2⟩
    rw [IntWalk.i64_in (k + 2 * (g : Int) + 1) (by omega)]
    simp only [xStr_some, decide_true, Bool.not_true, bcase_false]
    have S1 := hS.trans (s1.mono hl)
    have c12 := (s2.mono S1.le).cell (by omega) c11
    rw [IntWalk.i64_in _ (by omega), wrap_nat (by omega)]
    exact ⟨c12, hR (g + 1) _ _ _ (by omega) ⟨rfl, by omega, by omega, S1.trans (s2.mono S1.le)⟩⟩
  · have : g = n := by omega
    subst this
    exact F_laws_heldClassS.A2x0i _ _ _ ⟨rfl, hS⟩


theorem put_one {cs : List AVal} {o : Nat} {v : AVal} (h : o < cs.length) : putRow cs o [v] = cs.set o v := by
  unfold putRow; rw [List.set_eq_take_append_cons_drop, if_pos h]; simp
theorem cells_ne {h : AHeap} {i j : Nat} {t t' : TypeId} {cs cs' : List AVal} (hi : h[i]? = some (.cells t cs false)) (hj : h[j]? = some (.cells t' cs' false)) (ht : t ≠ t') : i ≠ j := by
  intro e; subst e; rw [hi] at hj; cases hj; exact ht rfl
theorem ne_ty : t_impl_Instance ≠ t_impl_Need := by decide
theorem FreshR.off {α : Type} {ty : TypeId} {enc : α → List AVal} {b : Nat} {h h' : AHeap} {a : Pt} {n : Nat} {l : List α} (f : FreshR ty enc b h a n l) (hk : ∀ i, a = some (i, 0) → n ≠ 0 → i < h.length → h'[i]? = h[i]?) : FreshR ty enc b h' a n l := by
  obtain ⟨hl, h0 | ⟨i, ha, hb, hi⟩⟩ := f
  · exact ⟨hl, .inl h0⟩
  · by_cases hn : n = 0
    · exact ⟨hl, .inl hn⟩
    · exact ⟨hl, .inr ⟨i, ha, hb, by rw [hk i ha hn (Own.lt hi)]; exact hi⟩⟩
/-- Marking the instances: what has turned lies between b and the end of the heap. -/
theorem markInstances_ok {h : AHeap} {b n c : Nat} {e : Bool} {a : Pt} {ys : List EI} {is : List Ins} {k : Int} (f : FreshR t_impl_Instance eN b h a n ys) (hl : ys.length = is.length) (hn20 : n ≤ 1048576) (hi20 : ∀ i ∈ is, i.2.length ≤ 1048576)
    (hN : ∀ (k : Nat) (x : EI) (i : Ins), ys[k]? = some x → is[k]? = some i → FreshR t_impl_Need eP b h x.a x.n i.2) (sep : ∀ (j k : Nat) (x y : EI), j ≠ k → ys[j]? = some x → ys[k]? = some y → x.n ≠ 0 → y.n ≠ 0 → x.a ≠ y.a)
    {H : Nat} (hH : ∀ i, a = some (i, 0) → n ≠ 0 → i < H) (hHn : ∀ (q : Nat) (x : EI), ys[q]? = some x → ∀ j, x.a = some (j, 0) → x.n ≠ 0 → j < H)
    (hk : 0 ≤ k ∧ k ≤ 4398046511104) : SCall pg n_laws_markInstanceS [.slice a n c e, .int .i64 k] h fun v h' => (∃ z, v = .int .i64 z ∧ 0 ≤ z ∧ z ≤ 13194139533312) ∧ Mid b H h h' := by
  apply F_laws_markInstanceS.call
  obtain ⟨hyl, hf⟩ := f
  refine F_laws_markInstanceS.L2ind _ _ _ _ _ (J := fun (g : Nat) x1 x5 h' => x5 = (g : Int) ∧ g ≤ n ∧ 0 ≤ x1 ∧ x1 ≤ k + g * 2097160 ∧ Mid b H h h' ∧
      (n = 0 ∨ ∃ i cs, a = some (i, 0) ∧ b ≤ i ∧ i < H ∧ h'[i]? = some (.cells t_impl_Instance cs false) ∧ cs.length = n * 3 ∧ ∀ (q : Nat) (x : EI), ys[q]? = some x → cs[q * 3 + 2]? = some (.slice x.a x.n x.cp x.e)) ∧
      (∀ (q : Nat) (x : EI) (i : Ins), g ≤ q → ys[q]? = some x → is[q]? = some i → FreshR t_impl_Need eP b h' x.a x.n i.2 ∧ ∀ j, x.a = some (j, 0) → x.n ≠ 0 → j < H)) (fun g => n - g) ?_ 0 _ _ _
    ⟨rfl, by omega, hk.1, by omega, Mid.refl _ _ _, ?_, ?_⟩
  · rintro g x1 x5 h' ⟨rfl, hg, h0, hx1, hM, hst, hrow⟩ R hR
    unfold F_laws_markInstanceS.L2t
    refine bcase_dec (fun hlt => ?_) (fun hge => ?_)
    · rcases hst with hz | ⟨i, cs, rfl, hbi, hih, hi, hcl, hsl⟩
      · omega
      have hgy : g < ys.length := by omega
      have hgi : g < is.length := by omega
      have hB : (g : Int) * 2097160 ≤ 1048576 * 2097160 := by omega
      have hlm := hM.1
      refine (markText_ok (by omega)).mono ?_
      rintro v h1 ⟨rfl, s1⟩
      simp only [xStr_some, xSome_some, Int.toNat_natCast, Nat.zero_add, Nat.add_zero]
      have i1 := s1.get hi (Own.lt hi)
      rw [hStore_of i1 (by rw [hcl]; simp; omega), put_one (by rw [hcl]; omega)]
      simp only [xHeap_some]
      refine ⟨by omega, (markText_ok (by rw [IntWalk.i64_in _ (by omega)]; omega)).mono ?_⟩
      rintro v h2 ⟨rfl, s2⟩
      simp only [xStr_some]
      have i2 := s2.get (set_get i1 (x := .cells t_impl_Instance (cs.set (g * 3) (.str (markT x1))) false)) (by simp; exact Own.lt i1)
      rw [hStore_of i2 (by rw [List.length_set, hcl]; simp; omega), put_one (by rw [List.length_set, hcl]; omega)]
      simp only [xHeap_some]
      have i3 := set_get i2 (x := .cells t_impl_Instance ((cs.set (g * 3) (.str (markT x1))).set (g * 3 + 1) (.str (markT (IntKind.wrap .i64 (x1 + 1))))) false)
      have hcell : ((cs.set (g * 3) (.str (markT x1))).set (g * 3 + 1) (.str (markT (IntKind.wrap .i64 (x1 + 1)))))[g * 3 + 2]? = some (.slice ys[g].a ys[g].n ys[g].cp ys[g].e) := by
        rw [List.getElem?_set_ne (by omega), List.getElem?_set_ne (by omega)]
        exact hsl g ys[g] (List.getElem?_eq_getElem hgy)
      refine ⟨by omega, by omega, ?_⟩
      rw [hCell_of i3, hcell]
      simp only [xSl_some]
      rw [IntWalk.i64_in (x1 + 1) (by omega), IntWalk.i64_in (x1 + 1 + 1) (by omega)] at *
      generalize hh3 : h2.set i (.cells t_impl_Instance ((cs.set (g * 3) (.str (markT x1))).set (g * 3 + 1) (.str (markT (x1 + 1)))) false) = h3 at *
      have M3 : Mid b H h h3 := by
        rw [← hh3]
        exact ((((hM.same s1).set hbi hih).same s2).set hbi hih)
      have oth : ∀ j, j ≠ i → j < h'.length → h3[j]? = h'[j]? := fun j hj hjl => by
        rw [← hh3, set_ne (Ne.symm hj), s2.eq j (by simp; have := s1.le; omega), set_ne (Ne.symm hj), s1.eq j hjl]
      have hrow3 : ∀ (q : Nat) (x : EI) (ii : Ins), g ≤ q → ys[q]? = some x → is[q]? = some ii → FreshR t_impl_Need eP b h3 x.a x.n ii.2 ∧ ∀ j, x.a = some (j, 0) → x.n ≠ 0 → j < H := fun q x ii hq hx hii => by
        obtain ⟨p1, p2⟩ := hrow q x ii hq hx hii
        refine ⟨p1.off fun j ha hn hj => oth j (fun e => ?_) hj, p2⟩
        subst e
        rcases p1.2 with h0 | ⟨j', ha', _, hj'⟩
        · exact hn h0
        · rw [ha] at ha'; cases ha'
          exact cells_ne hi hj' ne_ty rfl
      obtain ⟨p1, p2⟩ := hrow3 g ys[g] is[g] (Nat.le_refl _) (List.getElem?_eq_getElem hgy) (List.getElem?_eq_getElem hgi)
      have hlen := hi20 is[g] (List.getElem_mem hgi)
      have hpn := p1.1
      refine (markNeeds_ok p1 (k := x1 + 1 + 1) (by omega)).mono ?_
      rintro v h4 ⟨rfl, o4, f4⟩
      simp only [xInt_some]
      rw [wrap_nat (by omega)]
      have i4 : h4[i]? = some (.cells t_impl_Instance ((cs.set (g * 3) (.str (markT x1))).set (g * 3 + 1) (.str (markT (x1 + 1)))) false) := by
        rw [o4.2 i (Own.lt i3) fun j hj hn => ?_]; exact i3
        rcases p1.2 with h0 | ⟨j', ha', _, hj'⟩
        · exact absurd h0 hn
        · rw [hj] at ha'; cases ha'
          exact cells_ne i3 hj' ne_ty
      refine hR (g + 1) _ _ _ (by omega) ⟨rfl, by omega, by omega, by push_cast; omega, M3.trans ?_, .inr ⟨i, _, rfl, hbi, hih, i4, by simp [hcl], fun q x hx => ?_⟩, fun q x ii hq hx hii => ?_⟩
      · refine ⟨o4.1, fun j hj hn => o4.2 j hj fun q hq h0 => ?_⟩
        have := p2 q hq h0
        rcases p1.2 with hz | ⟨j', ha', hb', _⟩
        · exact absurd hz h0
        · rw [hq] at ha'; cases ha'; omega
      · rw [List.getElem?_set_ne (by omega), List.getElem?_set_ne (by omega)]
        exact hsl q x hx
      · obtain ⟨r1, r2⟩ := hrow3 q x ii (by omega) hx hii
        refine ⟨r1.off fun j ha hn hj => o4.2 j hj fun q' hq' h0 => ?_, r2⟩
        intro e; subst e
        exact sep g q ys[g] x (by omega) (List.getElem?_eq_getElem hgy) hx h0 hn (by rw [hq', ha])
    · apply F_laws_markInstanceS.A2x0i
      exact ⟨⟨_, rfl, h0, by omega⟩, hM⟩
  · rcases hf with h0 | ⟨i, ha, hbi, hi⟩
    · exact .inl h0
    by_cases hn0 : n = 0
    · exact .inl hn0
    refine .inr ⟨i, _, ha, hbi, hH i ha hn0, hi, by rw [flat_length eN_len, hyl], fun q x hx => ?_⟩
    have hq := (List.getElem?_eq_some_iff.1 hx).1
    have hd := flat_dp eN_len ys q
    have h2 : (flat eN ys)[q * 3 + 2]? = ((flat eN ys).drop (q * 3))[2]? := by rw [List.getElem?_drop]
    rw [h2, hd, List.drop_eq_getElem_cons hq, flat_cons]
    have : ys[q] = x := by rw [List.getElem?_eq_getElem hq] at hx; exact Option.some.inj hx
    rw [this]; rfl
  · intro q x i _ hx hii
    refine ⟨hN q x i hx hii, fun j ha hn => ?_⟩
    exact hHn q x hx j ha hn
/-- All of a world's own rows lie below H. -/
structure WBel (H : Nat) (a0 : Pt) (n0 : Nat) (a1 : Pt) (n1 : Nat) (ys : List EI) : Prop where
  cls : ∀ i, a0 = some (i, 0) → n0 ≠ 0 → i < H
  ins : ∀ i, a1 = some (i, 0) → n1 ≠ 0 → i < H
  need : ∀ (q : Nat) (x : EI), ys[q]? = some x → ∀ j, x.a = some (j, 0) → x.n ≠ 0 → j < H
theorem WFresh.bel {b : Nat} {h : AHeap} {a0 a1 : Pt} {n0 n1 : Nat} {ys : List EI} {w : Wd} (f : WFresh b h a0 n0 a1 n1 ys w) : WBel h.length a0 n0 a1 n1 ys :=
  ⟨fun i hi hn => (f.cls.in i hi hn).2, fun i hi hn => (f.ins.in i hi hn).2, fun q x hx j hj hn => by
    have hq := (List.getElem?_eq_some_iff.1 hx).1
    exact ((f.need q x (w.is[q]'(by have := f.len; omega)) hx (List.getElem?_eq_getElem _)).2.2.in j hj hn).2⟩
theorem markWorld_ok {h : AHeap} {b n0 c0 n1 c1 : Nat} {e0 e1 : Bool} {a0 a1 : Pt} {ys : List EI} {w : Wd} {k : Int} (f : WFresh b h a0 n0 a1 n1 ys w) (hb : WB w) {H : Nat} (hH : WBel H a0 n0 a1 n1 ys) (hHl : H ≤ h.length) (hk : 0 ≤ k ∧ k ≤ 1048576) :
    SCall pg n_laws_markWorld [.agg [.slice a0 n0 c0 e0, .slice a1 n1 c1 e1], .int .i64 k] h fun v h' => (∃ z, v = .int .i64 z ∧ 0 ≤ z ∧ z ≤ 13194139533312) ∧ Mid b H h h' := by
  have hl0 := f.cls.1
  have hl1 := f.ins.1
  have hlc := hb.lc
  have hli := hb.li
  have hyl := f.len
  apply F_laws_markWorld.call
  simp only [letH_def]
  generalize hh0 : h ++ [AObj.cells t_impl_World [.slice a0 n0 c0 e0, .slice a1 n1 c1 e1] false] = h0
  have s0 : Same h.length h h0 := by rw [← hh0]; exact same_last
  have w0 : h0[h.length]? = some (wObj a0 n0 c0 e0 a1 n1 c1 e1) := by rw [← hh0]; simp [wObj]
  simp only [wCell w0, Nat.zero_add, List.getElem?_cons_succ, List.getElem?_cons_zero, xSl_some]
  have f0 := f.same s0
  refine (markClasses_ok f0.cls (by omega)).mono ?_
  rintro v h2 ⟨rfl, o2, g2⟩
  simp only [xInt_some]
  have hin := f.cls.in
  have w2 : h2[h.length]? = some (wObj a0 n0 c0 e0 a1 n1 c1 e1) := by
    rw [o2.2 _ (Own.lt w0) fun j hj hn => by have := (hin j hj hn).2; omega]; exact w0
  simp only [wCell w2, Nat.zero_add, List.getElem?_cons_succ, List.getElem?_cons_zero, xSl_some]
  have M2 : Mid b H h h2 := (Mid.of_same s0).trans (o2.mid fun i hi hn => ⟨(hin i hi hn).1, hH.cls i hi hn⟩)
  have offC : ∀ (ty : TypeId), ty ≠ t_impl_Class → ∀ {α : Type} {enc : α → List AVal} {a : Pt} {n : Nat} {l : List α}, FreshR ty enc b h0 a n l → FreshR ty enc b h2 a n l := fun ty hty α enc a n l p => p.off fun j ha hn hj => o2.2 j hj fun q hq h0 e => by
    subst e
    rcases p.2 with hz | ⟨j', ha', _, hj'⟩
    · exact hn hz
    · rw [ha] at ha'; cases ha'
      rcases f0.cls.2 with hz | ⟨j', ha', _, hj''⟩
      · exact h0 hz
      · rw [hq] at ha'; cases ha'
        exact cells_ne hj' hj'' hty rfl
  have n1 : t_impl_Instance ≠ t_impl_Class := by decide
  have n2 : t_impl_Need ≠ t_impl_Class := by decide
  refine (markInstances_ok (offC _ n1 f0.ins) hyl (by omega) (fun i hi => (hb.is i hi).2.2.1) (fun k x i hx hi => offC _ n2 (f0.need k x i hx hi).2.2) f.sep hH.ins hH.need (by omega)).mono ?_
  rintro v h3 ⟨⟨z, rfl, hz0, hz1⟩, M3⟩
  simp only [xInt_some]
  exact ⟨⟨z, rfl, hz0, hz1⟩, M2.trans M3⟩
end Go.Sim

/- The classes above one: plain Lean. -/
set_option linter.unusedSimpArgs false
set_option linter.unusedVariables false
namespace Go.Sim

/-- The class of letter a is right below that of letter b. -/
def Up (cs : List Nd) (a b : Nat) : Prop := ∃ i, ∃ h : i < cs.length, cs[i].1 = [a] ∧ b ∈ cs[i].2
/-- Above by one or more steps. -/
inductive Rch (cs : List Nd) (a : Nat) : Nat → Prop
  | one {b : Nat} : Up cs a b → Rch cs a b
  | more {b c : Nat} : Rch cs a b → Up cs b c → Rch cs a c
open Classical in
/-- The letters above a, in order. -/
noncomputable def supN (cs : List Nd) (a : Nat) : List Nat := (List.range' 65 20).filter fun d => decide (Rch cs a d)

theorem clsOk_at {cs : List Nd} (h : clsOk cs = true) {i : Nat} (hi : i < cs.length) : clsAt cs i = true := by
  unfold clsOk at h
  simp only [Bool.and_eq_true, List.all_eq_true] at h
  exact h.1 i (List.mem_range.2 hi)
theorem cls_name {cs : List Nd} (h : clsOk cs = true) {i : Nat} (hi : i < cs.length) : ∃ d, cs[i].1 = [d] ∧ 65 ≤ d ∧ d ≤ 84 := by
  have := clsOk_at h hi
  unfold clsAt at this
  rw [getD_at hi] at this
  simp only [Bool.and_eq_true] at this
  have h1 := this.1.1
  unfold isCls at h1
  split at h1
  · rename_i d hd; exact ⟨d, hd, by simpa using h1⟩
  · cases h1
theorem cls_less1 {cs : List Nd} (h : clsOk cs = true) {i : Nat} (hi : i + 1 < cs.length) {a b : Nat} (ha : cs[i].1 = [a]) (hb : cs[i + 1].1 = [b]) : a < b := by
  have := clsOk_at h hi
  unfold clsAt at this
  rw [getD_at hi, Nat.add_sub_cancel, getD_at (by omega), ha, hb] at this
  simp only [Bool.and_eq_true] at this
  have h1 := this.1.2
  simpa [natLess] using h1
theorem cls_less {cs : List Nd} (h : clsOk cs = true) : ∀ (k i : Nat) (hi : i + k + 1 < cs.length) {a b : Nat}, cs[i].1 = [a] → cs[i + k + 1].1 = [b] → a < b
  | 0, i, hi, a, b, ha, hb => cls_less1 h hi ha hb
  | k + 1, i, hi, a, b, ha, hb => by
    obtain ⟨d, hd, _⟩ := cls_name h (show i + k + 1 < cs.length by omega)
    have h1 := cls_less h k i (by omega) ha hd
    have h2 := cls_less1 h (i := i + k + 1) (by omega) hd hb
    omega
theorem cls_inj {cs : List Nd} (h : clsOk cs = true) {i j : Nat} (hi : i < cs.length) (hj : j < cs.length) {a : Nat} (ha : cs[i].1 = [a]) (hb : cs[j].1 = [a]) : i = j := by
  rcases Nat.lt_trichotomy i j with hl | he | hl
  · obtain ⟨k, rfl⟩ : ∃ k, j = i + k + 1 := ⟨j - i - 1, by omega⟩
    have := cls_less h k i hj ha hb; omega
  · exact he
  · obtain ⟨k, rfl⟩ : ∃ k, i = j + k + 1 := ⟨i - j - 1, by omega⟩
    have := cls_less h k j hi hb ha; omega
/-- What is above a class are classes ahead of it. -/
theorem cls_above {cs : List Nd} (h : clsOk cs = true) {i : Nat} (hi : i < cs.length) {b : Nat} (hb : b ∈ cs[i].2) : ∃ j, ∃ hj : j < i, cs[j].1 = [b] := by
  have := clsOk_at h hi
  unfold clsAt at this
  rw [getD_at hi] at this
  simp only [Bool.and_eq_true] at this
  have h1 := this.2
  unfold supsOk at h1
  rw [List.all_eq_true] at h1
  obtain ⟨k, hk, rfl⟩ := List.mem_iff_getElem.1 hb
  have h2 := h1 k (List.mem_range.2 hk)
  unfold supAt at h2
  rw [getD_at hk] at h2
  simp only [Bool.and_eq_true] at h2
  have h3 := h2.1
  unfold knownC at h3
  rw [List.any_eq_true] at h3
  obtain ⟨x, hx, he⟩ := h3
  obtain ⟨j, hj, rfl⟩ := List.mem_iff_getElem.1 hx
  rw [List.length_take] at hj
  exact ⟨j, by omega, by simpa using he⟩
theorem Up.ix {cs : List Nd} (h : clsOk cs = true) {a b i : Nat} (u : Up cs a b) (hi : i < cs.length) (ha : cs[i].1 = [a]) : b ∈ cs[i].2 := by
  obtain ⟨j, hj, hja, hb⟩ := u
  have := cls_inj h hi hj ha hja
  subst this; exact hb
theorem Rch.ix {cs : List Nd} (h : clsOk cs = true) {a b i : Nat} (r : Rch cs a b) (hi : i < cs.length) (ha : cs[i].1 = [a]) : ∃ j, ∃ hj : j < i, cs[j].1 = [b] := by
  induction r with
  | one u => exact cls_above h hi (u.ix h hi ha)
  | more _ u ih =>
    obtain ⟨j, hj, hb⟩ := ih
    obtain ⟨k, hk, hc⟩ := cls_above h (show j < cs.length by omega) (u.ix h (by omega) hb)
    exact ⟨k, by omega, hc⟩
/-- Two lists in order with the same members are the same. -/
theorem sorted_eq : ∀ {l m : List Nat}, l.Pairwise (· < ·) → m.Pairwise (· < ·) → (∀ x, x ∈ l ↔ x ∈ m) → l = m
  | [], [], _, _, _ => rfl
  | [], y :: m, _, _, h => by have := (h y).2 (by simp); simp at this
  | x :: l, [], _, _, h => by have := (h x).1 (by simp); simp at this
  | x :: l, y :: m, hl, hm, h => by
    have hl' := List.pairwise_cons.1 hl
    have hm' := List.pairwise_cons.1 hm
    have hxy : x = y := by
      have h1 := (h x).1 (by simp)
      have h2 := (h y).2 (by simp)
      rcases List.mem_cons.1 h1 with e | h1
      · exact e
      · rcases List.mem_cons.1 h2 with e | h2
        · exact e.symm
        · have := hm'.1 x h1; have := hl'.1 y h2; omega
    subst hxy
    congr 1
    refine sorted_eq hl'.2 hm'.2 fun z => ?_
    constructor
    · intro hz
      have h1 := (h z).1 (by simp [hz])
      rcases List.mem_cons.1 h1 with e | h1
      · subst e; have := hl'.1 z hz; omega
      · exact h1
    · intro hz
      have h1 := (h z).2 (by simp [hz])
      rcases List.mem_cons.1 h1 with e | h1
      · subst e; have := hm'.1 z hz; omega
      · exact h1
theorem supN_sorted (cs : List Nd) (a : Nat) : (supN cs a).Pairwise (· < ·) := by
  unfold supN
  exact List.Pairwise.filter _ (by decide)
theorem mem_supN {cs : List Nd} (h : clsOk cs = true) {i a : Nat} (hi : i < cs.length) (ha : cs[i].1 = [a]) (d : Nat) : d ∈ supN cs a ↔ Rch cs a d := by
  unfold supN
  rw [List.mem_filter]
  constructor
  · rintro ⟨_, h2⟩; simpa using h2
  · intro r
    refine ⟨?_, by simpa using r⟩
    obtain ⟨j, hj, hd⟩ := r.ix h hi ha
    obtain ⟨e, he, h1, h2⟩ := cls_name h (show j < cs.length by omega)
    rw [hd] at he
    cases he
    rw [List.mem_range']
    exact ⟨d - 65, by omega, by omega⟩
/-- The program's step down the list of classes: what is known of the letters so far. -/
structure DownI (cs : List Nd) (a : Nat) (i : Nat) (ab : List Nat) : Prop where
  sound : ∀ d ∈ ab, Rch cs a d
  done : ∀ j, i ≤ j → ∀ hj : j < cs.length, (cs[j].1 = [a] ∨ ∃ d, cs[j].1 = [d] ∧ d ∈ ab) → ∀ b ∈ cs[j].2, b ∈ ab
theorem DownI.start {cs : List Nd} {a : Nat} : DownI cs a cs.length [] := ⟨by simp, fun j h1 h2 => by omega⟩
theorem DownI.step {cs : List Nd} (h : clsOk cs = true) {a i : Nat} {ab : List Nat} (D : DownI cs a (i + 1) ab) (hi : i < cs.length) (hc : cs[i].1 = [a] ∨ ∃ d, cs[i].1 = [d] ∧ d ∈ ab) : DownI cs a i (ab ++ cs[i].2) := by
  refine ⟨fun d hd => ?_, fun j hj hjl hcj b hb => ?_⟩
  · rcases List.mem_append.1 hd with hd | hd
    · exact D.sound d hd
    · rcases hc with hc | ⟨e, he, hm⟩
      · exact .one ⟨i, hi, hc, hd⟩
      · exact .more (D.sound e hm) ⟨i, hi, he, hd⟩
  · by_cases hji : j = i
    · subst hji; exact List.mem_append_right _ hb
    · refine List.mem_append_left _ (D.done j (by omega) hjl ?_ b hb)
      rcases hcj with hcj | ⟨e, he, hm⟩
      · exact .inl hcj
      · rcases List.mem_append.1 hm with hm | hm
        · exact .inr ⟨e, he, hm⟩
        · exfalso
          obtain ⟨k, hk, hke⟩ := cls_above h hi hm
          have := cls_inj h hjl (show k < cs.length by omega) he hke
          omega
theorem DownI.skip {cs : List Nd} {a i : Nat} {ab : List Nat} (D : DownI cs a (i + 1) ab) (hc : ∀ hi : i < cs.length, ¬ (cs[i].1 = [a] ∨ ∃ d, cs[i].1 = [d] ∧ d ∈ ab)) : DownI cs a i ab :=
  ⟨D.sound, fun j hj hjl hcj b hb => by
    by_cases hji : j = i
    · subst hji; exact absurd hcj (hc hjl)
    · exact D.done j (by omega) hjl hcj b hb⟩
theorem DownI.all {cs : List Nd} (h : clsOk cs = true) {a i : Nat} {ab : List Nat} (D : DownI cs a 0 ab) (hi : i < cs.length) (ha : cs[i].1 = [a]) (d : Nat) : d ∈ ab ↔ Rch cs a d := by
  refine ⟨D.sound d, fun r => ?_⟩
  induction r with
  | one u => exact D.done i (by omega) hi (.inl ha) _ (u.ix h hi ha)
  | more r u ih =>
    obtain ⟨j, hj, hb⟩ := r.ix h hi ha
    exact D.done j (by omega) (by omega) (.inr ⟨_, hb, ih⟩) _ (u.ix h (by omega) hb)
/-- The reference's rounds: letters of classes that are not far ahead are in. -/
structure RndI (cs : List Nd) (a i : Nat) (r : Nat) (ab : List Nat) : Prop where
  sound : ∀ d ∈ ab, Rch cs a d
  first : ∀ d, Up cs a d → d ∈ ab
  near : ∀ j, j < i → i ≤ j + 1 + r → ∀ hj : j < cs.length, ∀ d, cs[j].1 = [d] → Rch cs a d → d ∈ ab
theorem RndI.start {cs : List Nd} (h : clsOk cs = true) {a i : Nat} (hi : i < cs.length) (ha : cs[i].1 = [a]) : RndI cs a i 0 cs[i].2 := by
  refine ⟨fun d hd => .one ⟨i, hi, ha, hd⟩, fun d u => u.ix h hi ha, fun j hj hn hjl d hd r => ?_⟩
  cases r with
  | one u => exact u.ix h hi ha
  | more r u =>
    obtain ⟨k, hk, hb⟩ := r.ix h hi ha
    obtain ⟨q, hq, hc⟩ := cls_above h (show k < cs.length by omega) (u.ix h (by omega) hb)
    have := cls_inj h hjl (show q < cs.length by omega) hd hc
    omega
theorem RndI.next {cs : List Nd} (h : clsOk cs = true) {a i r : Nat} {ab ab' : List Nat} (R : RndI cs a i r ab) (hi : i < cs.length) (ha : cs[i].1 = [a])
    (hs : ∀ d ∈ ab', d ∈ ab ∨ ∃ e ∈ ab, Up cs e d) (hc : ∀ d, (d ∈ ab ∨ ∃ e ∈ ab, Up cs e d) → d ∈ ab') : RndI cs a i (r + 1) ab' := by
  refine ⟨fun d hd => ?_, fun d u => hc d (.inl (R.first d u)), fun j hj hn hjl d hd rc => ?_⟩
  · rcases hs d hd with hd | ⟨e, he, u⟩
    · exact R.sound d hd
    · exact .more (R.sound e he) u
  · cases rc with
    | one u => exact hc d (.inl (R.first d u))
    | more rc u =>
      rename_i e
      obtain ⟨k, hk, hb⟩ := rc.ix h hi ha
      have hjk : j < k := by
        obtain ⟨q, hq, hcq⟩ := cls_above h (show k < cs.length by omega) (u.ix h (by omega) hb)
        have := cls_inj h hjl (show q < cs.length by omega) hd hcq
        omega
      exact hc d (.inr ⟨e, R.near k hk (by omega) (by omega) e hb rc, u⟩)
theorem RndI.all {cs : List Nd} (h : clsOk cs = true) {a i r : Nat} {ab : List Nat} (R : RndI cs a i r ab) (hi : i < cs.length) (ha : cs[i].1 = [a]) (hr : i ≤ r + 1) (d : Nat) : d ∈ ab ↔ Rch cs a d := by
  refine ⟨R.sound d, fun rc => ?_⟩
  obtain ⟨j, hj, hd⟩ := rc.ix h hi ha
  exact R.near j hj (by omega) (by omega) d hd rc
end Go.Sim
