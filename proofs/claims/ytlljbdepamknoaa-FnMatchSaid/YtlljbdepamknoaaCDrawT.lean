/- A part of the proof of a statement of this seat: see the text that holds the theorem. No condition. -/
import Derived.Test.YtlljbdepamknoaaPTCMatch2
import Derived.Test.YtlljbdepamknoaaCSMatch
import Derived.Test.YtlljbdepamknoaaPTCApply
import Derived.Test.YtlljbdepamknoaaPTCSApply
import Derived.Test.YtlljbdepamknoaaCGrow
import Derived.Test.YtlljbdepamknoaaNm
import Derived.Test.YtlljbdepamknoaaCTy
set_option linter.unusedVariables false
set_option linter.unusedSimpArgs false
set_option linter.all false
set_option linter.unusedVariables false
set_option linter.unusedSimpArgs false
set_option maxRecDepth 20000
namespace Go.Sim
open Go Go.RowKit

theorem Zjl : ∀ (N : Nat) {S : Nat → Prop} {h : Zaa} {t : Ty} {v : List Zac}, t.size ≤ N → t.txt.length ≤ 1048576 → Zdo S h t v → Zae pg Zdv [.agg v] h fun x h' => x = .int .i64 (t.txt.length : Nat) ∧ Zbk h.length h h'
  | 0, S, h, t, v, hN, _, _ => by have := t.size_ps; omega
  | N + 1, S, h, t, v, hN, hB, r => by
    obtain ⟨a, c, e, vs, rfl, hrow, hS, hvl, hp⟩ := r.parts
    have hps2 : t.ps.length ≤ 2 := by cases t <;> simp [Ty.ps]
    have htx := t.txt_mids
    have hln := congrArg List.length htx
    rw [List.length_append, List.length_cons] at hln
    apply Zcs.call
    simp only [Zbf, Zkq, Nat.zero_add, List.getElem?_cons_succ, List.getElem?_cons_zero, Zai]
    generalize hh0 : h ++ [Zce.cells Zab [.int .u8 (t.hd : Int), .slice a t.ps.length c e] false] = h0
    have s0 : Zbk h.length h h0 := by rw [← hh0]; exact Zbd
    have o0 : h0[h.length]? = some (.cells Zab [.int .u8 (t.hd : Int), .slice a t.ps.length c e] false) := by rw [← hh0]; simp
    refine Zcs.L3ind _ _ _ _ _ _ _ _ (J := fun (g : Nat) x3 x9 h' => x9 = (g : Int) ∧ g ≤ t.ps.length ∧ Zbk h.length h h' ∧ Zbk h0.length h0 h' ∧ x3 = ((1 + (Zgy 0 (t.ps.take g)).length : Nat) : Int)) (fun g => t.ps.length - g) ?_ 0 _ _ _ ⟨rfl, by omega, s0, Zbk.refl _ _, by simp [Zgy]⟩
    rintro g x3 x9 h' ⟨rfl, hg, hSm, hS1, rfl⟩ R hR
    unfold Zcs.L3t
    have o2 := hS1.get o0 (Own.lt o0)
    refine Zaq (fun hlt => ?_) (fun hge => ?_)
    · have hg' : g < t.ps.length := by omega
      obtain ⟨i, o, a2, c2, e2, rfl, hr, hk⟩ := Zdo.get (hrow.same' hSm) hvl (fun k w x h1 h2 => (hp k w x h1 h2).same hSm) hg'
      simp only [Zan, Int.toNat_natCast, hr, Zaz, Zaj, Zau, Zaf, Zai, Zbf]
      rw [Zhy]
      simp only [Zat]
      rw [Zzt]
      simp only [Zaz, Zaj, Zau, Zaf, Zai]
      have hm := List.getElem_mem hg'
      have h1 := Ty.size_part hm
      have h2 := Ty.len_part hm
      have hmt := Zkw t.ps 0 g hg'
      have hml : (Zgy 0 (t.ps.take (g + 1))).length ≤ (Zgy 0 t.ps).length := Zmz _ _ _
      have hmtl := congrArg List.length hmt
      simp only [List.length_append, List.length_cons, Nat.zero_add] at hmtl
      have s2 : Zbk h'.length h' (h' ++ [.cells Zab [.int .u8 (t.ps[g].hd : Int), .slice a2 t.ps[g].ps.length c2 e2] false]) := Zbd
      refine ⟨by omega, (Zjl N (by omega) (by omega) (hk.same s2)).mono ?_⟩
      rintro x h3 ⟨rfl, s3⟩
      simp only [Zaf]
      rw [Zch (by omega), Zch (by omega), IntWalk.i64_in _ (by omega)]
      exact hR (g + 1) _ _ _ (by omega) ⟨rfl, by omega, (hSm.cat s2).cat s3, (hS1.cat s2).cat s3, by omega⟩
    · apply Zcs.A3x0i
      have : g = t.ps.length := by omega
      subst this
      simp only [Zap o2, Nat.zero_add, List.getElem?_cons_succ, List.getElem?_cons_zero, Zai]
      rw [List.take_length]
      refine Zaq (fun hpos => ?_) (fun hneg => ?_)
      · have hne : t.ps ≠ [] := fun e => by rw [e] at hpos; simp at hpos
        rw [if_neg hne] at hln
        apply Zcs.J9i
        simp only [List.length_cons, List.length_nil] at hln
        rw [Zch (by omega)]
        exact ⟨by congr 1; omega, hSm⟩
      · have hne : t.ps = [] := List.eq_nil_of_length_eq_zero (by omega)
        rw [if_pos hne] at hln
        simp only [List.length_nil] at hln
        apply Zcs.J9i
        exact ⟨by congr 1; omega, hSm⟩
def Zrc (m : Bd) (g : Nat) : List Nd := (Zbo.take g).filterMap fun v => (Zcj m v).map fun t => ([v], t.txt)
theorem Zxd (m : Bd) (g : Nat) : Zrc m (g + 1) = Zrc m g ++ (match Zbo[g]? with | some v => (match Zcj m v with | some t => [([v], t.txt)] | none => []) | none => []) := by
  unfold Zrc
  rw [List.take_succ, List.filterMap_append]
  cases Zbo[g]? with
  | none => simp
  | some v => cases hb : Zcj m v <;> simp [hb]
theorem Zyy (m : Bd) (g : Nat) : (Zrc m g).length ≤ 6 := by
  unfold Zrc
  refine Nat.le_trans (List.length_filterMap_le _ _) ?_
  rw [List.length_take]; exact Nat.le_trans (Nat.min_le_right _ _) (by decide)
theorem Zzb {g v : Nat} (hv : Zbo[g]? = some v) : sub [88, 89, 90, 120, 121, 122, 49, 50, 51, 52, 53, 54] (g : Int) ((g : Int) + 1) = [v] := by
  have hg : g < 6 := (List.getElem?_eq_some_iff.1 hv).1
  match g, hg with
  | 0, _ | 1, _ | 2, _ | 3, _ | 4, _ | 5, _ => simp [Zbo] at hv; subst hv; rfl
theorem Zyf {S : Nat → Prop} {h : Zaa} {i : Nat} {m : Bd} (rm : Zkj S h i m) (bo : BOk 60 m) :
    Zae pg Zhn [.ptr (some (i, 0))] h fun v h' => Zbk h.length h h' ∧ ∃ a n c e, v = .tup [.slice a n c e, .bool true] ∧ n ≤ c ∧ Zee Zag eP h.length h' a n (bdL m) := by
  apply Zco.call
  simp only [Zbf, Zan]
  generalize hh0 : h ++ [Zce.cells Zag [] false] = h0
  have s0 : Zbk h.length h h0 := by rw [← hh0]; exact Zbd
  have l0 : h0.length = h.length + 1 := by rw [← hh0]; simp
  have o0 : h0[h.length]? = some (.cells Zag [] false) := by rw [← hh0]; simp
  refine Zco.L3ind _ _ (J := fun (g : Nat) a4 n4 c4 e4 x10 h' => x10 = (g : Int) ∧ g ≤ 12 ∧ Zbk h.length h h' ∧ n4 = (Zrc m g).length ∧ n4 ≤ c4 ∧ Vec Zag h' a4 n4 c4 (Zdk eP (Zrc m g)) ∧ (∀ i, a4 = some (i, 0) → h.length ≤ i)) (fun g => 12 - g) ?_ 0 _ _ _ _ _ _
    ⟨rfl, by omega, s0, by simp [Zrc], Nat.le_refl _, Vec.mk1 (by simpa [Zrc] using o0), fun i hi => by cases hi; omega⟩
  rintro g a4 n4 c4 e4 x10 h' ⟨rfl, hg, hSm, rfl, hnc, hv, ha⟩ R hR
  unfold Zco.L3t
  have hbl := Zyy m g
  refine Zaq (fun hlt => ?_) (fun hge => ?_)
  · have hg' : g < 12 := by omega
    obtain ⟨x, hx1, hx2, hx3⟩ := (rm.same hSm).get hg'
    have il := (rm.same hSm).lt
    have hx : ∃ (d : Nat) (a : Pt) (n c : Nat) (e : Bool), x = (.int .u8 (d : Int), .slice a n c e) ∧ (match (Zbo[g]?).bind (Zcj m) with | some t => d = t.hd | none => d = 0) := by
      split at hx3
      · rename_i t ht
        obtain ⟨ua, uc, ue, hu⟩ := hx3.shape
        simp only [List.cons.injEq, and_true] at hu
        exact ⟨t.hd, ua, t.ps.length, uc, ue, by rw [← hu.1, ← hu.2], by first | rfl | rw [ht]⟩
      · rename_i hn; exact ⟨0, none, 0, 0, true, hx3, by first | rfl | rw [hn]⟩
    obtain ⟨d, ua, un, uc, ue, rfl, hd⟩ := hx
    simp only [Int.toNat_natCast, hx2, Zan, Zaz, Zaj, Zau, Zaf, Zai, Zbf]
    generalize hq : h' ++ [Zce.cells Zab [.int .u8 0, .slice none 0 0 true] false] = hq'
    have sq : Zbk h'.length h' hq' := by rw [← hq]; exact Zbd
    have hrq : Zdd hq' (.ptr (some (i, 0 + g * 2))) 2 = some [.int .u8 (d : Int), .slice ua un uc ue] := by
      rw [← hx2]; simp only [Zdd, sq.eq i il]
    rw [hrq, ← hq, Zhy]
    generalize hw : h' ++ [Zce.cells Zab [.int .u8 (d : Int), .slice ua un uc ue] false] = hw'
    have sw : Zbk h'.length h' hw' := by rw [← hw]; exact Zbd
    have ow : hw'[h'.length]? = some (.cells Zab [.int .u8 (d : Int), .slice ua un uc ue] false) := by rw [← hw]; simp
    simp only [Zat, Zap ow, Nat.zero_add, List.getElem?_cons_zero, Zaf, true_and]
    have SW := hSm.cat sw
    have hsuc := Zxd m g
    have skip : (Zbo[g]?).bind (Zcj m) = none → Zco.J9 (fun v h' => Zbk h.length h h' ∧ ∃ a n c e, v = .tup [.slice a n c e, .bool true] ∧ n ≤ c ∧ Zee Zag eP h.length h' a n (bdL m)) R (g : Int) (some (i, 0)) a4 (Zrc m g).length c4 e4 hw' := by
      intro hn
      have hsame : Zrc m (g + 1) = Zrc m g := by
        rw [hsuc]
        cases hvg : Zbo[g]? with
        | none => simp
        | some v => rw [hvg, Option.bind_some] at hn; simp [hn]
      apply Zco.J9i
      rw [Zch (by omega)]
      exact hR (g + 1) _ _ _ _ _ _ (by omega) ⟨rfl, by omega, SW, by rw [hsame], hnc, by rw [hsame]; exact hv.same sw, ha⟩
    refine ⟨by omega, ?_⟩
    cases hb : (Zbo[g]?).bind (Zcj m) with
    | none =>
      rw [hb] at hd
      simp only at hd
      subst hd
      simp only [show (((0 : Nat) : Int) == 0) = true from rfl, Zax]
      exact skip hb
    | some t =>
      rw [hb] at hd hx3
      simp only at hd hx3
      obtain ⟨v, hvg, hbv⟩ := Option.bind_eq_some_iff.1 hb
      have hu := bo.var _ (Zgj hbv)
      have hg6 : g < 6 := (List.getElem?_eq_some_iff.1 hvg).1
      have hd0 : ((d : Int) == 0) = false := by
        have := Zkh hu.2.1
        have hne : t.hd ≠ 0 := fun e => by rw [e] at this; simp at this
        simp; omega
      rw [show decide ((g : Int) ≥ 6) = false by simp; omega]
      simp only [hd0, Zas]
      apply Zco.J6i
      rw [← hw, Zzt, hw]
      simp only [Zaz, Zaj, Zau, Zaf, Zai]
      have hu2 : t.txt.length ≤ 60 := hu.2.2
      refine (Zjl _ (Nat.le_refl _) (by omega) (hx3.same sw)).mono ?_
      rintro v' h3 ⟨rfl, s3⟩
      have o3 := s3.get ow (Own.lt ow)
      simp only [Zaf]
      rw [show decide (((t.txt.length : Nat) : Int) > 60) = false by simp; omega]
      simp only [Zas, Zej o3 (show 0 + 2 ≤ _ by simp), List.drop_zero, List.take_succ_cons, List.take_zero, Zaz, Zaj, Zau, Zaf, Zai]
      rw [Zch (by omega), show (((g + 1 : Nat) : Int)) = (g : Int) + 1 by omega, Zzb hvg]
      refine ⟨⟨by omega, by omega, by simp; omega⟩, (Zii _ (Nat.le_refl _) (by omega) hu.2.1 ((hx3.same sw).same s3)).mono ?_⟩
      rintro v' h4 ⟨rfl, s4⟩
      simp only [Zam, Zbf]
      have S4 := (SW.cat s3).cat s4
      refine (((hv.same sw).same s3).same s4).pushN Znk Zpp Zqu Zqv (by rw [Zaw Zgg]) rfl (by omega) rfl (by omega) (fun h6 hl6 hi6 hk6 => ?_)
      simp only [Zai]
      apply Zco.J9i
      rw [Zch (by omega)]
      have hle := S4.le
      have hs' : Zrc m (g + 1) = Zrc m g ++ [([v], t.txt)] := by rw [hsuc, hvg]; simp [hbv]
      refine hR (g + 1) _ _ _ _ _ _ (by omega) ⟨rfl, by omega, ⟨by omega, fun j hj => ?_⟩, by rw [hs']; simp, Nat.le_refl _, Vec.mk1 ?_, fun i hi => by cases hi; omega⟩
      · rw [hk6 j (by omega) fun i hi => by have := ha i hi; omega]; exact S4.eq j hj
      · rw [hi6, hs', Zlu]; rfl
  · apply Zco.A3x0i
    have : g = 12 := by omega
    subst this
    have hb12 : Zrc m 12 = bdL m := by unfold Zrc bdL; rw [List.take_of_length_le (by decide)]
    rw [hb12] at hv hnc ⊢
    exact ⟨hSm, _, _, _, _, rfl, hnc, hv.fresh (b := h.length) rfl fun i hi => ha i hi⟩
theorem Ybr : Zdk eR (List.replicate 12 (Zac.int .u8 0, Zac.slice none 0 0 true)) = [.int .u8 0, .slice none 0 0 true, .int .u8 0, .slice none 0 0 true, .int .u8 0, .slice none 0 0 true, .int .u8 0, .slice none 0 0 true, .int .u8 0, .slice none 0 0 true, .int .u8 0, .slice none 0 0 true, .int .u8 0, .slice none 0 0 true, .int .u8 0, .slice none 0 0 true, .int .u8 0, .slice none 0 0 true, .int .u8 0, .slice none 0 0 true, .int .u8 0, .slice none 0 0 true, .int .u8 0, .slice none 0 0 true] := rfl
theorem Zoe {h h' : Zaa} {s : List Nat} {vs : List Zac} (hm : match Zdr s with | some t => Zdo (Btw h.length h'.length) h' t vs | none => vs = [.int .u8 0, .slice none 0 0 true]) : ∃ (d : Int) (a : Pt) (n c : Nat) (e : Bool), vs = [.int .u8 d, .slice a n c e] := by
  split at hm
  · obtain ⟨a, c, e, rfl⟩ := hm.shape; exact ⟨_, _, _, _, _, rfl⟩
  · exact ⟨_, _, _, _, _, hm⟩
theorem Zoz (p s : List Nat) (hp0 : p.length ≤ 1048576) (hs0 : s.length ≤ 1048576) (h : Zaa) : Zae pg Zfm [.str p, .str s] h (Zsy p s h) := by
  apply Zfk.call
  refine (Zkd p (by omega) h).mono ?_
  rintro v h1 ⟨s1, vs1, rfl, r1⟩
  obtain ⟨d1, a1, n1, c1, e1, rfl⟩ := Zoe r1
  simp only [Zdz, Zaj, Zgl, Zaf, Zai, Zau, Zal, Zbf]
  rw [Zhy]
  generalize hh2 : h1 ++ [Zce.cells Zab [.int .u8 d1, .slice a1 n1 c1 e1] false] = h2
  have s2 : Zbk h1.length h1 h2 := by rw [← hh2]; exact Zbd
  have o2 : h2[h1.length]? = some (.cells Zab [.int .u8 d1, .slice a1 n1 c1 e1] false) := by rw [← hh2]; simp
  simp only [Zat]
  refine (Zkd s (by omega) h2).mono ?_
  rintro v h3 ⟨s3, vs3, rfl, r3⟩
  obtain ⟨d3, a3, n3, c3, e3, rfl⟩ := Zoe r3
  simp only [Zdz, Zaj, Zgl, Zaf, Zai, Zau, Zal]
  rw [Zhy]
  generalize hh4 : h3 ++ [Zce.cells Zab [.int .u8 d3, .slice a3 n3 c3 e3] false] = h4
  have s4 : Zbk h3.length h3 h4 := by rw [← hh4]; exact Zbd
  have o4 : h4[h3.length]? = some (.cells Zab [.int .u8 d3, .slice a3 n3 c3 e3] false) := by rw [← hh4]; simp
  simp only [Zat]
  rw [← Ybr]
  generalize hh5 : h4 ++ [Zce.cells Zbh (Zdk eR (List.replicate 12 (Zac.int .u8 0, Zac.slice none 0 0 true))) false] = h5
  have s5 : Zbk h4.length h4 h5 := by rw [← hh5]; exact Zbd
  have o5 : h5[h4.length]? = some (.cells Zbh (Zdk eR (List.replicate 12 (Zac.int .u8 0, Zac.slice none 0 0 true))) false) := by rw [← hh5]; simp
  have x2 : h5[h1.length]? = some (.cells Zab [.int .u8 d1, .slice a1 n1 c1 e1] false) := s5.get (s4.get (s3.get o2 (Own.lt o2)) (by have := Own.lt o2; have := s3.le; omega)) (by have := Own.lt o2; have := s3.le; have := s4.le; omega)
  have x4 := s5.get o4 (Own.lt o4)
  have S2 := s1.cat s2
  have S5 := (((S2.cat s3).cat s4).cat s5)
  have no : Zew p s = none → ∀ hz, Zbk h.length h hz → Zsy p s h (.tup [.slice (some (hz.length, 0)) 0 0 true, .bool false]) (hz ++ [Zce.cells Zag [] false]) := fun hn hz sz =>
    ⟨sz.cat Zbd, _, 0, 0, true, by unfold Zox; rw [hn]; rfl, Nat.le_refl _, by unfold Zjg; rw [hn]; exact ⟨rfl, .inl rfl⟩⟩
  cases hp : Zdr p with
  | none =>
    have : Zkp p = false := by unfold Zkp; rw [hp]; rfl
    rw [this]
    simp only [Bool.not_false, Zax]
    exact no (by unfold Zew; rw [hp]) _ S5
  | some a =>
    rw [Zrs hp]
    simp only [Bool.not_true, Zas]
    cases ht : Zdr s with
    | none =>
      have : Zkp s = false := by unfold Zkp; rw [ht]; rfl
      rw [this]
      simp only [Bool.not_false, Zax]
      exact no (by unfold Zew; rw [hp, ht]) _ S5
    | some t =>
      rw [Zrs ht]
      rw [hp] at r1
      rw [ht] at r3
      simp only at r1 r3
      simp only [Bool.not_true, Zas, Zej x2 (show 0 + 2 ≤ _ by simp), Zej x4 (show 0 + 2 ≤ _ by simp), List.drop_zero, List.take_succ_cons, List.take_zero, Zaz, Zaj, Zau, Zaf, Zai]
      obtain ⟨ha1, ha2, ha3⟩ := Zcc.1 hp
      obtain ⟨ht1, ht2, ht3⟩ := Zcc.1 ht
      have hms : Zew p s = matchT [] a t := by unfold Zew; rw [hp, ht]
      have l3 := s3.le; have l4 := s4.le; have l2 := s2.le
      have R1 := ((((r1.same s2).same s3).same s4).same s5).mono (S' := fun j => j ≠ h4.length) (fun j hj => by have := hj.2; omega)
      have R3 := ((r3.same s4).same s5).mono (S' := fun j => j ≠ h4.length) (fun j hj => by have := hj.2; omega)
      refine (Zob _ (Nat.le_refl _) ha1 ht1 (n := 60) (by omega) (by rw [← ht2]; exact ht3) BOk.nil (fun j hj => hj) R1 R3 (Zkj.nil o5)).mono ?_
      rintro v h6 ⟨K6, hres⟩
      have l5 := S5.le
      have lh4 : h.length ≤ h4.length := (((S2.cat s3).cat s4)).le
      have S6 : Zbk h.length h h6 := ⟨by have := K6.le; omega, fun j hj => by rw [K6.eq j (by omega) (by omega)]; exact S5.eq j hj⟩
      cases hm : matchT [] a t with
      | none =>
        rw [hm] at hres hms
        subst hres
        simp only [Zal, Bool.not_false, Zax]
        exact no hms _ S6
      | some m =>
        rw [hm] at hres hms
        obtain ⟨rfl, rm6⟩ := hres
        simp only [Zal, Bool.not_true, Zas]
        apply Zfk.J6i
        refine (Zyf rm6 (Zmw hms)).mono ?_
        rintro v h7 ⟨s7, a7, n7, c7, e7, rfl, hc7, f7⟩
        simp only [Zdz, Zaj, Zai, Zal, Zau]
        refine ⟨S6.cat s7, a7, n7, c7, e7, by unfold Zox; rw [hms]; rfl, hc7, ?_⟩
        unfold Zjg; rw [hms]
        exact ⟨f7.1, f7.2.imp id fun ⟨i, ha, hb, hi⟩ => ⟨i, ha, by have := S6.le; omega, hi⟩⟩
end Go.Sim

set_option linter.unusedSimpArgs false
set_option linter.unusedVariables false
namespace Go.Sim

noncomputable def Zml (l : List Nd) (i : Nat) : Bool := Zkz (l.getD i ([], [])).1 && Zkp (l.getD i ([], [])).2 && (i == 0 || Zek (l.getD (i - 1) ([], [])).1 (l.getD i ([], [])).1)
noncomputable def Zfh (l : List Nd) : Bool := (List.range l.length).all (Zml l)
def Zlz (l : List Nd) (c : Nat) : List Nat := match l.find? fun p => decide (p.1 = [c]) with | some p => p.2 | none => [c]
def Zey (l : List Nd) (t : List Nat) : List Nat := t.flatMap (Zlz l)
noncomputable def Zlm (l : List Nd) (c : Nat) : Option Ty := match l.find? fun p => decide (p.1 = [c]) with | some p => Zdr p.2 | none => none
noncomputable def subst (f : Nat → Option Ty) : Ty → Ty
  | .k c => (f c).getD (.k c)
  | .u c a => .u c (subst f a)
  | .w c a b => .w c (subst f a) (subst f b)
noncomputable def Zmf (l : List Nd) (t : List Nat) : Option (List Nat) := if Zfh l && Zkp t && decide ((Zey l t).length ≤ 60) then some (Zey l t) else none
theorem Zpy {l : List Nd} (h : Zfh l = true) {i : Nat} (hi : i < l.length) : Zkz l[i].1 = true ∧ Zkp l[i].2 = true ∧ (i = 0 ∨ Zek (l.getD (i - 1) ([], [])).1 l[i].1 = true) := by
  unfold Zfh at h
  rw [List.all_eq_true] at h
  have := h i (List.mem_range.2 hi)
  unfold Zml at this
  rw [Zly hi] at this
  simp only [Bool.and_eq_true, Bool.or_eq_true, beq_iff_eq] at this
  exact ⟨this.1.1, this.1.2, this.2⟩
theorem Zoa {l : List Nd} (h : Zfh l = true) {p : Nd} (hp : p ∈ l) : Zkz p.1 = true ∧ Zkp p.2 = true := by
  obtain ⟨i, hi, rfl⟩ := List.getElem_of_mem hp
  exact ⟨(Zpy h hi).1, (Zpy h hi).2.1⟩
theorem Zmv {l : List Nd} (h : Zfh l = true) {c : Nat} (hc : Zbj c = false) : Zlz l c = [c] ∧ Zlm l c = none := by
  have : l.find? (fun p => decide (p.1 = [c])) = none := by
    rw [List.find?_eq_none]
    intro p hp e
    have := (Zoa h hp).1
    rw [of_decide_eq_true e] at this
    simp [Zkz, hc] at this
  unfold Zlz Zlm
  rw [this]; exact ⟨rfl, rfl⟩
theorem Zod {l : List Nd} (h : Zfh l = true) (c : Nat) : Zlz l c = ((Zlm l c).getD (.k c)).txt ∧ ∀ t, Zlm l c = some t → t.ok = true ∧ t.txt.length ≤ 60 := by
  unfold Zlz Zlm
  cases hf : l.find? (fun p => decide (p.1 = [c])) with
  | none => exact ⟨rfl, fun t ht => by cases ht⟩
  | some p =>
    have hp := List.mem_of_find?_eq_some hf
    obtain ⟨t, ht⟩ := Zqg (Zoa h hp).2
    obtain ⟨h1, h2, h3⟩ := Zcc.1 ht
    simp only [ht]
    refine ⟨by simpa using h2, fun u hu => ?_⟩
    cases hu
    exact ⟨h1, by rw [← h2]; exact h3⟩
theorem Zfx {l : List Nd} (h : Zfh l = true) {c : Nat} (hc : Zgd c = true) : Zlz l c = [c] := by
  refine (Zmv h ?_).1
  simp only [Zgd, Bool.or_eq_true, beq_iff_eq] at hc
  rcases hc with (rfl | rfl) | rfl <;> rfl
theorem Zvn {c : Nat} {a : Ty} (h : (Ty.u c a).ok = true) : Zbj c = false := by
  cases hv : Zbj c with
  | false => rfl
  | true => have := Zim h hv; cases this
theorem Zvp {c : Nat} {a b : Ty} (h : (Ty.w c a b).ok = true) : Zbj c = false := by
  cases hv : Zbj c with
  | false => rfl
  | true => have := Zim h hv; cases this
theorem Ziu {l : List Nd} (h : Zfh l = true) : ∀ {t : Ty}, t.ok = true → Zey l t.txt = (subst (Zlm l) t).txt ∧ (subst (Zlm l) t).ok = true
  | .k c, ht => by
    have := Zod h c
    simp only [Zey, Ty.txt, List.flatMap_cons, List.flatMap_nil, List.append_nil, subst]
    refine ⟨this.1, ?_⟩
    cases hb : Zlm l c with
    | none => exact ht
    | some t => exact (this.2 t hb).1
  | .u c a, ht => by
    have hv := Zvn ht
    have hh := ht
    simp only [Ty.ok, Bool.and_eq_true] at ht
    have ih := Ziu h ht.2
    simp only [Zey] at ih
    simp only [Zey, Ty.txt, List.flatMap_cons, List.flatMap_append, List.flatMap_nil, List.append_nil, subst, (Zmv h hv).1, Zfx h Ty.m40, Zfx h Ty.m41, ih.1, List.cons_append, List.nil_append]
    refine ⟨by trivial, ?_⟩
    simp only [Ty.ok, Bool.and_eq_true]; exact ⟨ht.1, ih.2⟩
  | .w c a b, ht => by
    have hv := Zvp ht
    simp only [Ty.ok, Bool.and_eq_true] at ht
    have ih := Ziu h ht.1.2
    have ih2 := Ziu h ht.2
    simp only [Zey] at ih ih2
    simp only [Zey, Ty.txt, List.flatMap_cons, List.flatMap_append, List.flatMap_nil, List.append_nil, subst, (Zmv h hv).1, Zfx h Ty.m40, Zfx h Ty.m41, Zfx h Ty.m44, ih.1, ih2.1, List.cons_append, List.nil_append]
    refine ⟨by trivial, ?_⟩
    simp only [Ty.ok, Bool.and_eq_true]; exact ⟨⟨ht.1.1, ih.2⟩, ih2.2⟩
theorem Zsf (a b : Nat) : Zek [a] [b] = decide (a < b) := by
  simp [Zek]
theorem Zuq {m : Bd} (b : BOk 60 m) : Zfh (bdL m) = true := by
  rw [Ztb]
  generalize hvs : (Zbo.filter fun v => (Zcj m v).isSome) = vs
  have hs : vs.Pairwise (· < ·) := by rw [← hvs]; exact Zla.filter _
  have hm : ∀ v ∈ vs, Zbj v = true ∧ ∃ t, Zcj m v = some t := by
    intro v hv
    rw [← hvs, List.mem_filter] at hv
    exact ⟨(Zhb v).1 hv.1, Option.isSome_iff_exists.1 hv.2⟩
  unfold Zfh
  rw [List.all_eq_true]
  intro i hi
  rw [List.mem_range, List.length_map] at hi
  unfold Zml
  rw [Zly (by simpa using hi), List.getElem_map]
  obtain ⟨h1, t, h2⟩ := hm _ (List.getElem_mem hi)
  have h3 := b.var _ (Zgj h2)
  simp only [h2, Option.getD_some, Zkz, h1, Bool.true_and, Bool.and_eq_true, Bool.or_eq_true, beq_iff_eq]
  refine ⟨Zts.2 ⟨t, h3.2.1, rfl, h3.2.2⟩, ?_⟩
  cases i with
  | zero => exact .inl rfl
  | succ j =>
    right
    rw [Nat.add_sub_cancel, Zly (by simp; omega), List.getElem_map, Zsf]
    exact decide_eq_true (List.pairwise_iff_getElem.1 hs j (j + 1) (by omega) hi (by omega))
end Go.Sim

set_option linter.unusedVariables false
set_option linter.unusedSimpArgs false
set_option maxRecDepth 20000
namespace Go.Sim
open Go Go.RowKit

theorem Zvb {k : Nat} (h0 : 0 < k) (hn : k ≤ 9223372036854775807) : IntKind.wrap .i64 ((k : Int) - 1) = ((k - 1 : Nat) : Int) := by rw [IntWalk.i64_in _ (by omega)]; omega
theorem Zhw {h : Zaa} {a : Pt} {n c : Nat} {e : Bool} {l : List Nd} (r : Row h.length h a (n * 2) (Zdk eP l)) (hn : n ≤ 1048576) :
    Zae pg Zcz [.slice a n c e] h fun v h' => v = .bool (Zfh l) ∧ Zbk h.length h h' := by
  have hl : l.length = n := by have := r.1; rw [Zaw Zgg] at this; omega
  apply Zbn.call
  refine Zbn.L2ind _ _ _ _ _ _ _ _ _ _ (J := fun (g : Nat) x7 h' => x7 = (g : Int) ∧ g ≤ n ∧ Zbk h.length h h' ∧ (List.range g).all (Zml l) = true) (fun g => n - g) ?_ 0 _ _ ⟨rfl, by omega, Zbk.refl _ _, rfl⟩
  rintro g x7 h' ⟨rfl, hg, hS, hk⟩ R hR
  unfold Zbn.L2t
  refine Zaq (fun hlt => ?_) (fun hge => ?_)
  · obtain ⟨i, o, hgl, rfl, hi, hr, _, _⟩ := (r.same hS).pr (k := g) (by omega)
    have hat : Zml l g = (Zkz l[g].1 && Zkp l[g].2 && (g == 0 || Zek (l.getD (g - 1) ([], [])).1 l[g].1)) := by unfold Zml; rw [Zly hgl]
    have no : Zml l g = false → Zfh l = false := fun hno => Zor hgl hno
    simp only [Zan, Int.toNat_natCast, hr, Zaz, Zaj, Zau, Zam, Zbf]
    rw [Zhy]
    generalize hq : h' ++ [Zce.cells Zag [.str l[g].1, .str l[g].2] false] = hq'
    have sq : Zbk h'.length h' hq' := by rw [← hq]; exact Zbd
    have oq : hq'[h'.length]? = some (.cells Zag [.str l[g].1, .str l[g].2] false) := by rw [← hq]; simp
    simp only [Zat, Zap oq, Nat.zero_add, List.getElem?_cons_succ, List.getElem?_cons_zero, Zam]
    refine ⟨by omega, (Zsr l[g].1).mono ?_⟩
    rintro v h2 ⟨rfl, rfl⟩
    have Sq := hS.cat sq
    simp only [Zal, true_and]
    refine Zeq (fun b1 => ⟨by rw [no (by rw [hat, b1]; rfl)], Sq⟩) (fun b1 => ?_)
    simp only [Zap oq, List.getElem?_cons_succ, List.getElem?_cons_zero, Zam]
    refine (Zgr l[g].2 h2).mono ?_
    rintro v h3 ⟨rfl, s3⟩
    simp only [Zal]
    have S3 := Sq.cat s3
    refine Zeq (fun b2 => ⟨by rw [no (by rw [hat, b1, b2]; rfl)], S3⟩) (fun b2 => ?_)
    have go : (g = 0 ∨ Zek (l.getD (g - 1) ([], [])).1 l[g].1 = true) → Zbn.J6 (fun v h' => v = .bool (Zfh l) ∧ Zbk h.length h h') R (g : Int) (((n : Nat) : Int)) (some (i, o)) n c e (some (i, o)) n c e h3 := by
      intro hz
      apply Zbn.J6i
      rw [Zch (by omega)]
      refine hR (g + 1) _ _ (by omega) ⟨rfl, by omega, S3, Zns hk ?_⟩
      rw [hat, b1, b2]
      rcases hz with rfl | hz
      · rfl
      · rw [hz]; simp
    refine Zaq (fun hpos => ?_) (fun hz => go (.inl (by omega)))
    have hg0 : 0 < g := by omega
    obtain ⟨i', o', hgl', he, _, _, hc', _⟩ := (r.same S3).pr (k := g - 1) (by omega)
    cases he
    rw [Zvb hg0 (by omega)]
    simp only [Zan, Int.toNat_natCast, Nat.add_zero, hc', Zap (s3.get oq (Own.lt oq)), List.getElem?_cons_zero, Zam, true_and]
    have hgd : l.getD (g - 1) ([], []) = l[g - 1] := Zly hgl'
    refine ⟨by omega, Zeq (fun b3 => ⟨by rw [no (by rw [hat, b1, b2, hgd, b3]; simp; omega)], S3⟩) (fun b3 => go (.inr (by rw [hgd]; exact b3)))⟩
  · apply Zbn.A2x0i
    have : g = n := by omega
    subst this
    exact ⟨by unfold Zfh; rw [hl, hk], hS⟩
theorem Yci {s : List Nat} {g : Nat} (hg : g < s.length) : sub s (g : Int) (((g + 1 : Nat) : Int)) = [s[g]] := by
  unfold sub
  rw [Int.toNat_natCast, Int.toNat_natCast, List.take_succ_eq_append_getElem hg, List.drop_append_of_le_length (by simp; omega), List.drop_of_length_le (by simp; omega)]; rfl
theorem Zqb {l : List Nd} (h : Zfh l = true) (c : Nat) : (Zlz l c).length ≤ 60 := by
  obtain ⟨h1, h2⟩ := Zod h c
  rw [h1]
  cases hb : Zlm l c with
  | none => simp [Ty.txt]
  | some t => exact (h2 t hb).2
theorem Znw {l : List Nd} (h : Zfh l = true) : ∀ (t : List Nat), (Zey l t).length ≤ 60 * t.length
  | [] => by simp [Zey]
  | c :: t => by
    have h1 := Zqb h c
    have h2 := Znw h t
    simp only [Zey, List.flatMap_cons, List.length_append, List.length_cons] at h2 ⊢
    omega
theorem Zrp {l : List Nd} {t : List Nat} {g : Nat} (hg : g < t.length) : Zey l (t.take (g + 1)) = Zey l (t.take g) ++ Zlz l t[g] := by
  unfold Zey; rw [List.take_succ_eq_append_getElem hg, List.flatMap_append]; simp
noncomputable def Zmr (l : List Nd) (t : List Nat) : Zac := match Zmf l t with | some u => .tup [.str u, .bool true] | none => .tup [.str [], .bool false]
theorem Zll {h : Zaa} {a : Pt} {n c : Nat} {e : Bool} {l : List Nd} {t : List Nat} (r : Row h.length h a (n * 2) (Zdk eP l)) (hn : n ≤ 1048576) :
    Zae pg Zeb [.slice a n c e, .str t] h fun v h' => v = Zmr l t ∧ Zbk h.length h h' := by
  have hl : l.length = n := by have := r.1; rw [Zaw Zgg] at this; omega
  apply Zbc.call
  refine (Zhw r hn).mono ?_
  rintro v h1 ⟨rfl, s1⟩
  simp only [Zal]
  refine Zeq (fun b1 => ⟨by unfold Zmr Zmf; rw [b1]; rfl, s1⟩) (fun b1 => ?_)
  refine (Zgr t h1).mono ?_
  rintro v h2 ⟨rfl, s2⟩
  simp only [Zal]
  have S2 := s1.cat s2
  refine Zeq (fun b2 => ⟨by unfold Zmr Zmf; rw [b1, b2]; rfl, S2⟩) (fun b2 => ?_)
  have ht60 := Zzh b2
  apply Zbc.J3i
  refine Zbc.L5ind _ _ _ _ _ _ _ (J := fun (g : Nat) x6 x21 h' => x21 = (g : Int) ∧ g ≤ t.length ∧ Zbk h.length h h' ∧ x6 = Zey l (t.take g)) (fun g => t.length - g) ?_ 0 _ _ _ ⟨rfl, by omega, S2, by simp [Zey]⟩
  rintro g x6 x21 h' ⟨rfl, hg, hS, rfl⟩ R hR
  unfold Zbc.L5t
  refine Zaq (fun hlt => ?_) (fun hge => ?_)
  · have hgt : g < t.length := by omega
    rw [Zch (by omega), Yci hgt]
    refine ⟨⟨by omega, by omega, by omega⟩, ?_⟩
    have hal := Znw b1 (t.take g)
    rw [List.length_take] at hal
    have fin : ∀ (h3 : Zaa) (x8 : List Nat), Zbk h.length h h3 → x8 = Zlz l t[g] → Zbc.A9x2 (fun v h' => v = Zmr l t ∧ Zbk h.length h h') R (Zey l (t.take g)) x8 (g : Int) (((t.length : Nat) : Int)) t a n c e h3 := by
      intro h3 x8 s3 hx
      apply Zbc.A9x2i
      have := Zqb b1 t[g]
      rw [hx, Zch (by omega)]
      exact ⟨by omega, hR (g + 1) _ _ _ (by omega) ⟨rfl, by omega, s3, (Zrp hgt).symm⟩⟩
    refine Zbc.L9ind _ _ _ _ _ _ _ _ _ _ _ _ _ _ _ (J := fun (q : Nat) x8 x31 h3 => x31 = (q : Int) ∧ q ≤ n ∧ Zbk h.length h h3 ∧ x8 = [t[g]] ∧ (l.take q).find? (fun p => decide (p.1 = [t[g]])) = none) (fun q => n - q) ?_ 0 _ _ _ ⟨rfl, by omega, hS, rfl, rfl⟩
    rintro q x8 x31 h3 ⟨rfl, hq, hS3, rfl, hf⟩ R9 hR9
    unfold Zbc.L9t
    refine Zaq (fun hlt3 => ?_) (fun hge3 => ?_)
    · obtain ⟨i, o, hql, rfl, hi, hr, _, _⟩ := (r.same hS3).pr (k := q) (by omega)
      simp only [Zan, Int.toNat_natCast, hr, Zaz, Zaj, Zau, Zam, Zbf]
      rw [Zhy]
      have sq : Zbk h3.length h3 (h3 ++ [Zce.cells Zag [.str l[q].1, .str l[q].2] false]) := Zbd
      simp only [Zat, Zkq, Nat.zero_add, List.getElem?_cons_succ, List.getElem?_cons_zero, Zam]
      refine ⟨by omega, Zaq (fun he => ?_) (fun he => ?_)⟩
      · refine fin _ _ (hS3.cat sq) ?_
        unfold Zlz
        rw [Zup hql hf (by simp [he])]
      · rw [Zch (by omega)]
        exact hR9 (q + 1) _ _ _ (by omega) ⟨rfl, by omega, hS3.cat sq, rfl, Znj hql hf (by simp [he])⟩
    · have : q = n := by omega
      subst this
      rw [List.take_of_length_le (by omega)] at hf
      exact fin _ _ hS3 (by unfold Zlz; rw [hf])
  · apply Zbc.A5x0i
    have : g = t.length := by omega
    subst this
    rw [List.take_length]
    refine Zaq (fun hbig => ⟨?_, hS⟩) (fun hsm => ⟨?_, hS⟩)
    · unfold Zmr Zmf
      rw [if_neg (by simp; omega)]
    · unfold Zmr Zmf
      rw [if_pos (by rw [b1, b2]; simp; omega)]
end Go.Sim

set_option linter.unusedVariables false
set_option linter.unusedSimpArgs false
set_option maxRecDepth 20000
namespace Go.Sim
open Go Go.RowKit

theorem Zdo.below {S : Nat → Prop} {h : Zaa} : ∀ {t : Ty} {v : List Zac}, Zdo S h t v → Zdo (fun j => S j ∧ j < h.length) h t v
  | .k d, _, h => h
  | .u d x, _, ⟨j, c, e, r, hv, sj, hj, hr⟩ => ⟨j, c, e, r, hv, ⟨sj, Own.lt hj⟩, hj, hr.below⟩
  | .w d x y, _, ⟨j, c, e, r, r', hv, sj, hj, hr, hr'⟩ => ⟨j, c, e, r, r', hv, ⟨sj, Own.lt hj⟩, hj, hr.below, hr'.below⟩
theorem Zzs {f : Nat → Option Ty} {t : Ty} (h : f t.hd = none ∨ t.ps ≠ []) : (subst f t).hd = t.hd ∧ (subst f t).ps = t.ps.map (subst f) := by
  cases t with
  | k c =>
    have : f c = none := by rcases h with h | h; exact h; exact absurd rfl h
    simp [subst, this, Ty.hd, Ty.ps]
  | u c a => simp [subst, Ty.hd, Ty.ps]
  | w c a b => simp [subst, Ty.hd, Ty.ps]
theorem Zrr : pg.underlying Zen = some (.slice Zab) := by kernel_rfl
theorem Zxo : pg.cellsOf Zab = 2 := by kernel_rfl
theorem Zyg : pg.okElem Zab = true := by kernel_rfl
theorem Zxu : pg.bytesOf Zab ≤ 127 := Nat.le_of_ble_eq_true (by kernel_rfl)
theorem Zqr {vs : List (List Zac)} (h : ∀ v ∈ vs, v.length = 2) : vs.flatten.length = vs.length * 2 := by
  rw [List.length_flatten]
  induction vs with
  | nil => rfl
  | cons v vs ih =>
    have h1 := h v (by simp)
    have h2 := ih (fun x hx => h x (by simp [hx]))
    simp only [List.map_cons, List.sum_cons, List.length_cons]; omega
theorem Zsx : ∀ (N : Nat) {t : Ty} {S : Nat → Prop} {h : Zaa} {vt : List Zac} {i : Nat} {m : Bd}, t.size ≤ N → t.ok = true → (∀ j, S j → j < h.length ∧ j ≠ i) → Zdo S h t vt → Zyp S h i m → (∀ v u, Zcj m v = some u → u.ok = true) → (∀ v, Zbj v = false → Zcj m v = none) →
    Zae pg Zgq [.ptr (some (i, 0)), .agg vt] h fun x h' => Zbk h.length h h' ∧ ∃ vs, x = .agg vs ∧ Zdo (fun j => S j ∨ h.length ≤ j) h' (subst (Zcj m) t) vs
  | 0, t, S, h, vt, i, m, hN, _, _, _, _, _, _ => by have := t.size_ps; omega
  | N + 1, t, S, h, vt, i, m, hN, ht, hSi, rt, rm, hmo, hmn => by
    obtain ⟨at', ct, et, vts, rfl, rowt, hSt, hvtl, hvt⟩ := id rt.parts
    have hps2 : t.ps.length ≤ 2 := by cases t <;> simp [Ty.ps]
    have hil := rm.lt
    apply Zdq.call
    simp only [Zbf]
    generalize hh0 : h ++ [Zce.cells Zab [.int .u8 (t.hd : Int), .slice at' t.ps.length ct et] false] = h0
    generalize hh1 : h0 ++ [Zce.cells Zab [.int .u8 0, .slice none 0 0 true] false] = h1
    have s0 : Zbk h.length h h0 := by rw [← hh0]; exact Zbd
    have s1 : Zbk h0.length h0 h1 := by rw [← hh1]; exact Zbd
    have o0 : h0[h.length]? = some (.cells Zab [.int .u8 (t.hd : Int), .slice at' t.ps.length ct et] false) := by rw [← hh0]; simp
    have oa := s1.get o0 (Own.lt o0)
    have oz : h1[h0.length]? = some (.cells Zab [.int .u8 0, .slice none 0 0 true] false) := by rw [← hh1]; simp
    have S1 := s0.cat s1
    have l0 : h0.length = h.length + 1 := by rw [← hh0]; simp
    have l1 : h1.length = h.length + 2 := by rw [← hh1]; simp [l0]
    simp only [Zap oa, Nat.zero_add, List.getElem?_cons_succ, List.getElem?_cons_zero, Zaf]
    refine (Znu t.hd).mono ?_
    rintro v h2 ⟨rfl, rfl⟩
    have rm1 := rm.same S1
    simp only [Zaf, Zan]
    -- nothing stands for the letter
    have main : Zcj m t.hd = none → Zdq.J4 (fun x h' => Zbk h.length h h' ∧ ∃ vs, x = .agg vs ∧ Zdo (fun j => S j ∨ h.length ≤ j) h' (subst (Zcj m) t) vs) h.length 0 (some (i, 0)) h0.length 0 h2 := by
      intro hno
      obtain ⟨hsh, hsp⟩ := Zzs (f := Zcj m) (t := t) (.inl hno)
      apply Zdq.J4i
      simp only [Zap oa, Nat.zero_add, List.getElem?_cons_succ, List.getElem?_cons_zero, Zaf, Zbf]
      generalize hh3 : h2 ++ [Zce.cells Zab [] false] = h3
      have s3 : Zbk h2.length h2 h3 := by rw [← hh3]; exact Zbd
      have o3 : h3[h2.length]? = some (.cells Zab [] false) := by rw [← hh3]; simp
      have l3 : h3.length = h2.length + 1 := by rw [← hh3]; simp
      rw [Zhy]
      generalize hh4 : h3 ++ [Zce.cells Zab [.int .u8 (t.hd : Int), .slice (some (h2.length, 0)) 0 0 true] false] = h4
      have s4 : Zbk h3.length h3 h4 := by rw [← hh4]; exact Zbd
      have o4 : h4[h3.length]? = some (.cells Zab [.int .u8 (t.hd : Int), .slice (some (h2.length, 0)) 0 0 true] false) := by rw [← hh4]; simp
      have l4 : h4.length = h3.length + 1 := by rw [← hh4]; simp
      have oa4 := s4.get (s3.get oa (Own.lt oa)) (by have := Own.lt oa; omega)
      have oz4 := s4.get (s3.get oz (Own.lt oz)) (by have := Own.lt oz; omega)
      have o34 := s4.get o3 (Own.lt o3)
      have S4 := (S1.cat s3).cat s4
      simp only [Zat, Zap oa4, List.getElem?_cons_succ, List.getElem?_cons_zero, Zai]
      refine Zdq.L6ind _ _ _ _ _ _ _ _ _ _ _ (J := fun (g : Nat) x35 h' => x35 = (g : Int) ∧ g ≤ t.ps.length ∧ Zbk h.length h h' ∧ h4.length ≤ h'.length ∧ h'[h0.length]? = some (.cells Zab [.int .u8 0, .slice none 0 0 true] false) ∧
        ∃ (a : Pt) (cp : Nat) (e : Bool) (vs : List (List Zac)), h'[h3.length]? = some (.cells Zab [.int .u8 (t.hd : Int), .slice a g cp e] false) ∧ vs.length = g ∧ Vec Zab h' a g cp vs.flatten ∧ (∀ j, a = some (j, 0) → j = h2.length ∨ h4.length ≤ j) ∧
          ∀ (k : Nat) (v : List Zac) (x : Ty), vs[k]? = some v → t.ps[k]? = some x → Zdo (fun j => (S j ∨ h4.length ≤ j) ∧ ∀ j0, a = some (j0, 0) → j ≠ j0) h' (subst (Zcj m) x) v)
        (fun g => t.ps.length - g) ?_ 0 _ _ ⟨rfl, by omega, S4, Nat.le_refl _, oz4, some (h2.length, 0), 0, true, [], o4, rfl, Vec.mk1 (by simpa using o34), fun j hj => by cases hj; exact .inl rfl, by simp⟩
      rintro g x35 h' ⟨rfl, hg, hS, hl4, hz, a, cp, e, vs, ho, hvl, hv, ha, hp⟩ R hR
      unfold Zdq.L6t
      have hz2 : ∀ v ∈ vs, v.length = 2 := fun v hv => by
        obtain ⟨k, hk, rfl⟩ := List.mem_iff_getElem.1 hv
        exact (hp k vs[k] (t.ps[k]'(by omega)) (List.getElem?_eq_getElem hk) (List.getElem?_eq_getElem (by omega))).len
      refine Zaq (fun hlt => ?_) (fun hge => ?_)
      · have hgt : g < t.ps.length := by omega
        obtain ⟨jt, oft, a4, c4, e4, rfl, hrt, hkt⟩ := Zdo.get (rowt.same' hS) hvtl (fun k w x h1 h2 => (hvt k w x h1 h2).same hS) hgt
        simp only [Zan, Int.toNat_natCast, hrt, Zaz, Zaj, Zau, Zaf, Zai, Zbf]
        rw [Zhy]
        generalize hq : h' ++ [Zce.cells Zab [.int .u8 (t.ps[g].hd : Int), .slice a4 t.ps[g].ps.length c4 e4] false] = hq'
        have sq : Zbk h'.length h' hq' := by rw [← hq]; exact Zbd
        have oq := sq.get ho (Own.lt ho)
        simp only [Zat, Zap oq, Nat.zero_add, List.getElem?_cons_succ, List.getElem?_cons_zero, Zai]
        rw [← hq, Zzt, hq]
        simp only [Zaz, Zaj, Zau, Zaf, Zai, true_and]
        have hmt := List.getElem_mem hgt
        have h1 := Ty.size_part hmt
        have hlq := sq.le
        have hSle := hS.le
        refine ⟨by omega, (Zsx N (by omega) (Ty.ok_ps ht _ hmt) (S := S) (fun j hj => ⟨by have := (hSi j hj).1; omega, (hSi j hj).2⟩) (hkt.same sq) (rm.same (hS.cat sq)) hmo hmn).mono ?_⟩
        rintro v h5 ⟨s5, nv, rfl, hn5⟩
        obtain ⟨na, nc, ne, hnv⟩ := hn5.shape
        rw [hnv] at hn5
        have o5 := s5.get oq (Own.lt oq)
        simp only [hnv, Zgl, Zaj, Zau, Zaf, Zai, Zap o5, List.getElem?_cons_succ, List.getElem?_cons_zero, true_and]
        have hc6 : Zak (h5 ++ [Zce.cells Zab [.int .u8 ((subst (Zcj m) t.ps[g]).hd : Int), .slice na (subst (Zcj m) t.ps[g]).ps.length nc ne] false]) (.ptr (some (h3.length, 1))) = some (.slice a g cp e) := by rw [Zap (Zio o5)]; rfl
        refine ⟨by rw [hc6], ?_⟩
        have v5 := (hv.same sq).same s5
        have hl5 := s5.le
        refine v5.pushN Zrr Zxo Zyg Zxu (by rw [Zqr hz2]; omega) rfl (by omega) rfl (by omega) (fun h7 hl7 hi7 hk7 => ?_)
        simp only [Zai]
        have hz5 := s5.get (sq.get hz (Own.lt hz)) (by have := Own.lt hz; omega)
        have ha5 : ∀ j, a = some (j, 0) → j = h2.length ∨ h4.length ≤ j := ha
        have o7 : h7[h3.length]? = some (.cells Zab [.int .u8 (t.hd : Int), .slice a g cp e] false) := by
          rw [hk7 _ (Own.lt o5) fun j hj => by rcases ha j hj with hh | hh <;> omega]; exact o5
        rw [Zbm o7 (by simp)]
        simp only [Zat, putRow, List.take_succ_cons, List.take_zero, List.length_cons, List.length_nil, List.drop_succ_cons, List.drop_nil, List.cons_append, List.nil_append, List.append_nil]
        rw [Zch (by omega)]
        have hS5 := (hS.cat sq).cat s5
        have h7o : ∀ j, j < h5.length → (∀ j0, a = some (j0, 0) → j ≠ j0) → j ≠ h3.length → (h7.set h3.length (Zce.cells Zab [.int .u8 (t.hd : Int), .slice (some (h5.length + 1, 0)) (g + 1) (g + 1) false] false))[j]? = h5[j]? := fun j hj hne hne2 => by rw [Zcf (by omega), hk7 j hj hne]
        refine hR (g + 1) _ _ (by omega) ⟨rfl, by omega, ⟨by simp; omega, fun j hj => ?_⟩, by simp; omega, ?_, some (h5.length + 1, 0), g + 1, false, vs ++ [[.int .u8 ((subst (Zcj m) t.ps[g]).hd : Int), .slice na (subst (Zcj m) t.ps[g]).ps.length nc ne]], Zcq o7, by simp [hvl], Vec.mk1 ?_, fun j hj => by cases hj; right; omega, ?_⟩
        · rw [h7o j (by omega) (fun j0 hj0 => by rcases ha j0 hj0 with hh | hh <;> omega) (by omega)]; exact hS5.eq j hj
        · rw [h7o _ (Own.lt hz5) (fun j0 hj0 => by rcases ha j0 hj0 with hh | hh <;> omega) (by omega)]; exact hz5
        · rw [Zcf (by omega), hi7]; simp
        · intro k v x hv' hx
          have hkeep : ∀ {t' : Ty} {v' : List Zac}, Zdo (fun j => (S j ∨ h4.length ≤ j) ∧ ∀ j0, a = some (j0, 0) → j ≠ j0) h5 t' v' → Zdo (fun j => (S j ∨ h4.length ≤ j) ∧ ∀ j0, (some (h5.length + 1, 0) : Pt) = some (j0, 0) → j ≠ j0) (h7.set h3.length (Zce.cells Zab [.int .u8 (t.hd : Int), .slice (some (h5.length + 1, 0)) (g + 1) (g + 1) false] false)) t' v' := by
            intro t' v' hr
            have hr2 := hr.below
            refine Zdo.mono (S := fun j => ((S j ∨ h4.length ≤ j) ∧ ∀ j0, a = some (j0, 0) → j ≠ j0) ∧ j < h5.length) (fun j hj => ⟨hj.1.1, fun j0 e0 => by cases e0; have := hj.2; omega⟩) (hr2.agree fun j hj => ?_)
            refine h7o j hj.2 hj.1.2 ?_
            rcases hj.1.1 with h8 | h8
            · have := (hSi j h8).1; omega
            · omega
          by_cases hkl : k < vs.length
          · rw [List.getElem?_append_left hkl] at hv'
            exact hkeep (((hp k v x hv' hx).same sq).same s5)
          · rw [List.getElem?_append_right (by omega)] at hv'
            have hk0 : k = vs.length := by
              by_cases e : k - vs.length = 0
              · omega
              · rw [List.getElem?_eq_none (by simp; omega)] at hv'; cases hv'
            subst hk0
            simp at hv'
            subst hv'
            rw [hvl, List.getElem?_eq_getElem hgt] at hx
            cases hx
            refine hkeep (Zdo.mono (S := fun j => S j ∨ hq'.length ≤ j) (fun j hj => ⟨?_, fun j0 e0 => ?_⟩) hn5)
            · rcases hj with h8 | h8
              · exact .inl h8
              · exact .inr (by omega)
            · have hj0 := (hv.same sq).lt' e0
              rcases hj with h8 | h8
              · have := (hSi j h8).1
                rcases ha j0 e0 with hh | hh <;> omega
              · omega
      · apply Zdq.A6x0i
        have : g = t.ps.length := by omega
        subst this
        have hrow := Zej (o := 0) (n := 2) ho (by simp)
        rw [hrow]
        simp only [List.drop_zero, List.take_succ_cons, List.take_zero, Zaz, Zaj, Zau, Zaf, Zai]
        rw [Zbm hz (by simp)]
        simp only [Zat]
        rw [Zej (Zcq hz) (by simp [putRow])]
        simp only [putRow, List.take_zero, List.nil_append, List.length_cons, List.length_nil, List.cons_append, List.drop_succ_cons, List.drop_zero, List.drop_nil, List.append_nil, List.take_succ_cons, Zaz, Zaj, Zaf, Zai, Zau]
        refine ⟨⟨by simp; exact hS.le, fun j hj => by rw [Zcf (by omega)]; exact hS.eq j hj⟩, _, rfl, ?_⟩
        have hget : ∀ j, j ≠ h0.length → (h'.set h0.length (Zce.cells Zab [.int .u8 (t.hd : Int), .slice a t.ps.length cp e] false))[j]? = h'[j]? := fun j hj => Zcf (fun e => hj e.symm)
        rcases hv with ⟨rfl, h0', _, hvs⟩ | ⟨j0, rfl, hj0⟩
        · -- no parts
          have hps : t.ps = [] := List.eq_nil_of_length_eq_zero h0'
          cases t with
          | k d =>
            simp only [subst, show Zcj m d = none from hno, Option.getD_none]
            exact ⟨_, _, _, rfl⟩
          | u d x => simp [Ty.ps] at hps
          | w d x y => simp [Ty.ps] at hps
        · have hj0n : j0 ≠ h0.length := by rcases ha j0 rfl with hh | hh <;> omega
          have hS4 := ha j0 rfl
          have := Zdo.make (S := fun j => S j ∨ h.length ≤ j) (h := h'.set h0.length (Zce.cells Zab [.int .u8 (t.hd : Int), .slice (some (j0, 0)) t.ps.length cp e] false)) (t := subst (Zcj m) t) (j := j0) (n := t.ps.length) (c := cp) (e := e) (vs := vs)
            (by rw [hsp, List.length_map]) (.inr (by rcases hS4 with hh | hh <;> omega)) (by rw [hget j0 hj0n]; exact hj0) hvl (fun k w x hw hx => by
              rw [hsp, List.getElem?_map] at hx
              obtain ⟨y, hy, rfl⟩ := Option.map_eq_some_iff.1 hx
              have hr := hp k w y hw hy
              refine Zdo.mono (S := fun j => (S j ∨ h4.length ≤ j) ∧ ∀ j1, (some (j0, 0) : Pt) = some (j1, 0) → j ≠ j1) (fun j hj => hj.1.imp id (fun h => by omega)) (hr.agree fun j hj => hget j ?_)
              rcases hj.1 with h8 | h8
              · have := (hSi j h8).1; omega
              · omega)
          rw [hsh] at this
          exact this
    cases hv : Zbj t.hd with
    | true =>
      obtain ⟨k, hk6, hkv, hix⟩ := Zpt hv
      rw [hix]
      obtain ⟨x, hx1, hx2, hx3⟩ := rm1.get (k := k) hk6
      rw [hkv, Option.bind_some] at hx3
      have hge : decide ((k : Int) ≥ 0) = true := by simp
      simp only [hge, Zax, Int.toNat_natCast, hx1, hx2, Zaz, Zaj, Zau]
      refine ⟨by omega, ?_⟩
      cases hg : Zcj m t.hd with
      | none =>
        rw [hg] at hx3
        simp only at hx3
        subst hx3
        simp only [Zaf, show ((0 : Int) == 0) = true from rfl, Bool.not_true, Zas]
        exact main hg
      | some u =>
        rw [hg] at hx3
        simp only at hx3
        have hu := hmo _ _ hg
        obtain ⟨ux, uc, ue, hux⟩ := hx3.shape
        simp only [List.cons.injEq, and_true] at hux
        obtain ⟨hux1, hux2⟩ := hux
        rw [hux1, hux2] at hx3
        rw [hux1, hux2]
        have hu0 : (((u.hd : Nat) : Int) == 0) = false := by
          have := Zkh hu
          have hne : u.hd ≠ 0 := fun e => by rw [e] at this; simp at this
          simp; omega
        simp only [Zaf, Zai, hu0, Bool.not_false, Zax]
        rw [Zbm oz (by simp)]
        simp only [Zat]
        rw [Zej (Zcq oz) (by simp [putRow])]
        simp only [putRow, List.take_zero, List.nil_append, List.length_cons, List.length_nil, List.cons_append, List.drop_succ_cons, List.drop_zero, List.drop_nil, List.append_nil, List.take_succ_cons, Zaz, Zaj, Zaf, Zai, Zau]
        refine ⟨by omega, ⟨by simp; omega, fun j hj => by rw [Zcf (by omega)]; exact S1.eq j hj⟩, _, rfl, ?_⟩
        have hsub : subst (Zcj m) t = u := by rw [Zim ht hv]; simp [subst, hg]
        rw [hsub]
        refine Zdo.mono (S := S) (fun j hj => .inl hj) (hx3.agree fun j hj => Zcf (by have := (hSi j hj).1; omega))
    | false =>
      rw [Zqz ht hv]
      have hge : decide ((-1 : Int) ≥ 0) = false := by decide
      simp only [hge, Zas]
      exact main (hmn _ hv)
end Go.Sim

set_option linter.unusedVariables false
set_option linter.unusedSimpArgs false
set_option maxRecDepth 20000
namespace Go.Sim
open Go Go.RowKit

end Go.Sim

set_option linter.unusedSimpArgs false
set_option linter.unusedVariables false
namespace Go.Sim

def Zil : Ty → List Nat
  | .k c => if Zbj c then [c] else []
  | .u c a => Zil a
  | .w c a b => Zil a ++ Zil b
theorem Ybh {a t : Ty} (ha : a.ok = true) (ht : t.ok = true) (h : a.hd = t.hd) (hp : a.ps = t.ps) : a = t := by
  cases a <;> cases t <;> simp_all [Ty.hd, Ty.ps]
theorem Zhs {f g : Nat → Option Ty} : ∀ {a : Ty}, (∀ v ∈ Zil a, f v = g v) → (∀ v, Zbj v = false → f v = none ∧ g v = none) → subst f a = subst g a
  | .k c, h, h0 => by
    simp only [subst]
    by_cases hv : Zbj c = true
    · rw [h c (by simp [Zil, hv])]
    · obtain ⟨h1, h2⟩ := h0 c (by simpa using hv); rw [h1, h2]
  | .u c a, h, h0 => by simp only [subst]; rw [Zhs (a := a) h h0]
  | .w c a b, h, h0 => by
    simp only [subst]
    rw [Zhs (a := a) (fun v hv => h v (by simp [Zil, hv])) h0, Zhs (a := b) (fun v hv => h v (by simp [Zil, hv])) h0]
structure Yea (m m' : Bd) (a t : Ty) : Prop where
  keep : ∀ v u, Zcj m v = some u → Zcj m' v = some u
  sub : subst (Zcj m') a = t
  vars : ∀ v, (Zcj m' v).isSome = true ↔ ((Zcj m v).isSome = true ∨ v ∈ Zil a)
theorem Zus {m m' : Bd} (hk : ∀ v u, Zcj m v = some u → Zcj m' v = some u) (hv : ∀ v, Zbj v = false → Zcj m' v = none) : ∀ {a : Ty}, (∀ v ∈ Zil a, (Zcj m v).isSome = true) → subst (Zcj m') a = subst (Zcj m) a := by
  intro a h
  refine Zhs (fun v hvv => ?_) (fun v hvv => ⟨hv v hvv, ?_⟩)
  · obtain ⟨u, hu⟩ := Option.isSome_iff_exists.1 (h v hvv)
    rw [hu, hk v u hu]
  · cases hb : Zcj m v with
    | none => rfl
    | some u => have := hk v u hb; rw [hv v hvv] at this; cases this
theorem BOk.novar {n : Nat} {m : Bd} (b : BOk n m) : ∀ v, Zbj v = false → Zcj m v = none := by
  intro v hv
  cases h : Zcj m v with
  | none => rfl
  | some t => have := (b.var _ (Zgj h)).1; simp [hv] at this
theorem Ziz {n : Nat} : ∀ {a t : Ty} {m m' : Bd}, a.ok = true → t.ok = true → t.txt.length ≤ n → BOk n m → matchT m a t = some m' → Yea m m' a t
  | .k c, t, m, m', ha, ht, hn, b, h => by
    simp only [matchT] at h
    split at h
    · rename_i hv
      unfold Zhg at h
      split at h
      · rename_i u hu
        split at h
        · rename_i he
          cases h; subst he
          refine ⟨fun v u h => h, by simp [subst, hu], fun v => ?_⟩
          simp only [Zil, hv, if_true, List.mem_singleton]
          constructor
          · exact .inl
          · rintro (h | rfl)
            · exact h
            · rw [hu]; rfl
        · cases h
      · rename_i hu
        cases h
        refine ⟨fun v u h => by rw [Zka, h], by simp [subst, Zka, hu], fun v => ?_⟩
        simp only [Zka, Zil, hv, if_true, List.mem_singleton]
        cases hb : Zcj m v with
        | some u => simp
        | none =>
          by_cases e : c = v
          · subst e; simp
          · have : ¬ v = c := fun e' => e e'.symm
            simp [e, this]
    · rename_i hv
      split at h
      · rename_i he
        cases h
        have hc : Zcj m c = none := b.novar c (by simpa using hv)
        refine ⟨fun v u h => h, ?_, fun v => by simp [Zil, hv]⟩
        simp only [subst, hc, Option.getD_none]
        have hl := Zpx ha ht (by simpa [Ty.hd] using he)
        refine Ybh ha ht (by simpa [Ty.hd] using he) ?_
        simp only [Ty.ps, List.length_nil] at hl ⊢
        exact (List.eq_nil_of_length_eq_zero hl.symm).symm
      · cases h
  | .u c a, t, m, m', ha, ht, hn, b, h => by
    have ha' := ha
    simp only [Ty.ok, Bool.and_eq_true] at ha
    simp only [matchT] at h
    split at h
    · rename_i he
      split at h
      · rename_i x hx
        have hm : x ∈ t.ps := by rw [hx]; simp
        have o := Ziz ha.2 (Ty.ok_ps ht x hm) (Nat.le_trans (Zgs hm) hn) b h
        refine ⟨o.keep, ?_, o.vars⟩
        simp only [subst, o.sub]
        cases t <;> simp_all [Ty.hd, Ty.ps]
      · cases h
    · cases h
  | .w c a a2, t, m, m', ha, ht, hn, b, h => by
    simp only [Ty.ok, Bool.and_eq_true] at ha
    simp only [matchT] at h
    split at h
    · rename_i he
      split at h
      · rename_i x y hx
        have hm : x ∈ t.ps := by rw [hx]; simp
        have hm2 : y ∈ t.ps := by rw [hx]; simp
        split at h
        · rename_i m1 h1
          have b1 := BOk.matchT ha.1.2 (Ty.ok_ps ht x hm) (Nat.le_trans (Zgs hm) hn) b h1
          have b2 := BOk.matchT ha.2 (Ty.ok_ps ht y hm2) (Nat.le_trans (Zgs hm2) hn) b1 h
          have o1 := Ziz ha.1.2 (Ty.ok_ps ht x hm) (Nat.le_trans (Zgs hm) hn) b h1
          have o2 := Ziz ha.2 (Ty.ok_ps ht y hm2) (Nat.le_trans (Zgs hm2) hn) b1 h
          refine ⟨fun v u hv => o2.keep v u (o1.keep v u hv), ?_, fun v => ?_⟩
          · have hs : subst (Zcj m') a = x := by
              rw [Zus o2.keep b2.novar (fun v hv => (o1.vars v).2 (.inr hv)), o1.sub]
            simp only [subst, hs, o2.sub]
            cases t <;> simp_all [Ty.hd, Ty.ps]
          · rw [o2.vars, o1.vars]; simp [Zil, or_assoc]
        · cases h
      · cases h
    · cases h
theorem Zuv {f : Nat → Option Ty} (a : Ty) : a.size ≤ (subst f a).size := by
  induction a with
  | k c =>
    simp only [subst, Ty.size]
    cases h : (f c).getD (.k c) <;> simp [Ty.size] <;> omega
  | u c a ih => simp only [subst, Ty.size]; omega
  | w c a b iha ihb => simp only [subst, Ty.size]; omega
theorem Zzi {m : Bd} (v : Nat) : (bdL m).find? (fun p => decide (p.1 = [v])) = if v ∈ Zbo then (Zcj m v).map (fun t => ([v], t.txt)) else none := by
  unfold bdL
  have hnd := Zga
  revert hnd
  induction Zbo with
  | nil => intro _; rfl
  | cons w l ih =>
    intro hnd
    rw [List.nodup_cons] at hnd
    simp only [List.filterMap_cons, List.mem_cons]
    by_cases e : v = w
    · subst e
      simp only [true_or, if_true]
      cases hb : Zcj m v with
      | none =>
        simp only [Option.map_none]
        rw [ih hnd.2, if_neg hnd.1]
      | some t => simp
    · simp only [e, false_or]
      cases hb : Zcj m w with
      | none => simp only [Option.map_none]; exact ih hnd.2
      | some t =>
        have : ¬ w = v := fun e' => e e'.symm
        simp only [Option.map_some, List.find?_cons, List.cons.injEq, this, and_true, decide_false]
        exact ih hnd.2
theorem Zwf {m : Bd} (b : BOk 60 m) (v : Nat) : Zlm (bdL m) v = Zcj m v := by
  unfold Zlm
  rw [Zzi]
  by_cases hv : v ∈ Zbo
  · rw [if_pos hv]
    cases hb : Zcj m v with
    | none => rfl
    | some t =>
      have := b.var _ (Zgj hb)
      exact Zwm this.2.1 this.2.2
  · rw [if_neg hv]
    have : Zbj v = false := by cases h : Zbj v with | false => rfl | true => exact absurd ((Zhb v).2 h) hv
    rw [b.novar v this]
theorem Zxi {a : Ty} (h : a.ok = true) (v : Nat) (hv : Zbj v = true) : v ∈ a.txt ↔ v ∈ Zil a := by
  have h40 : ¬ v = 40 := fun e => by subst e; simp [Zbj] at hv
  have h41 : ¬ v = 41 := fun e => by subst e; simp [Zbj] at hv
  have h44 : ¬ v = 44 := fun e => by subst e; simp [Zbj] at hv
  induction a with
  | k c =>
    simp only [Ty.txt, Zil, List.mem_singleton]
    constructor
    · rintro rfl; simp [hv]
    · intro h; split at h
      · simpa using h
      · cases h
  | u c a ih =>
    have hc := Zvn h
    have : ¬ v = c := fun e => by subst e; simp [hv] at hc
    simp only [Ty.ok, Bool.and_eq_true] at h
    simp only [Ty.txt, Zil, List.mem_cons, List.mem_append, this, h40, h41, false_or, List.not_mem_nil, or_false]
    exact ih h.2
  | w c a b iha ihb =>
    have hc := Zvp h
    have : ¬ v = c := fun e => by subst e; simp [hv] at hc
    simp only [Ty.ok, Bool.and_eq_true] at h
    simp only [Ty.txt, Zil, List.mem_cons, List.mem_append, this, h40, h41, h44, false_or, List.not_mem_nil, or_false]
    exact or_congr (iha h.1.2) (ihb h.2)
theorem Zxq {p s : List Nat} {m : Bd} (h : Zew p s = some m) : Zmf (bdL m) p = some s ∧ Zfh (bdL m) = true ∧ (bdL m).flatMap (·.1) = Zuc p ∧ Zrm p ≤ Zrm s := by
  have b := Zmw h
  unfold Zew at h
  split at h
  · rename_i a t ha ht
    obtain ⟨h1, h2, h3⟩ := Zcc.1 ha
    obtain ⟨h4, h5, h6⟩ := Zcc.1 ht
    have o := Ziz h1 h4 (by rw [← h5]; exact h6) BOk.nil h
    have bo := Zuq b
    have hsub : subst (Zlm (bdL m)) a = t := by rw [funext (Zwf b)]; exact o.sub
    have hap : Zey (bdL m) p = s := by rw [h2, (Ziu bo h1).1, hsub, h5]
    refine ⟨?_, bo, ?_, ?_⟩
    · unfold Zmf
      rw [hap, bo, Zrs ha]; simp [h6]
    · rw [Ztb]
      unfold Zuc
      have : (Zbo.filter fun v => (Zcj m v).isSome) = Zbo.filter fun v => decide (v ∈ p) := by
        apply List.filter_congr
        intro v hv
        have hv' := (Zhb v).1 hv
        rw [Bool.eq_iff_iff, o.vars v]
        simp only [Zcj, Option.isSome_none, Bool.false_eq_true, false_or, decide_eq_true_eq]
        rw [h2, Zxi h1 v hv']
      rw [this]
      induction (Zbo.filter fun v => decide (v ∈ p)) with
      | nil => rfl
      | cons v l ih => simp [ih]
    · rw [Zkk ha, Zkk ht, ← hsub]
      exact_mod_cast Zuv a
  · cases h
end Go.Sim

set_option linter.unusedSimpArgs false
set_option linter.unusedVariables false
namespace Go.Sim

structure Yds (f : Nat → Option Ty) : Prop where
  nv : ∀ v, Zbj v = false → f v = none
  ok : ∀ v t, f v = some t → t.ok = true
theorem Zlt {f : Nat → Option Ty} (hf : Yds f) : ∀ {a : Ty}, a.ok = true → (subst f a).ok = true
  | .k c, h => by
    simp only [subst]
    cases hb : f c with
    | none => exact h
    | some t => exact hf.ok c t hb
  | .u c a, h => by
    simp only [Ty.ok, Bool.and_eq_true] at h
    simp only [subst, Ty.ok, Bool.and_eq_true]; exact ⟨h.1, Zlt hf h.2⟩
  | .w c a b, h => by
    simp only [Ty.ok, Bool.and_eq_true] at h
    simp only [subst, Ty.ok, Bool.and_eq_true]; exact ⟨⟨h.1.1, Zlt hf h.1.2⟩, Zlt hf h.2⟩
noncomputable def after (f g : Nat → Option Ty) (v : Nat) : Option Ty := if Zbj v then some (subst g ((f v).getD (.k v))) else none
end Go.Sim

set_option linter.unusedVariables false
set_option linter.unusedSimpArgs false
set_option maxRecDepth 20000
namespace Go.Sim
open Go Go.RowKit

end Go.Sim

set_option linter.unusedVariables false
set_option linter.unusedSimpArgs false
set_option maxRecDepth 20000
namespace Go.Sim
open Go Go.RowKit

end Go.Sim

set_option linter.unusedVariables false
set_option linter.unusedSimpArgs false
set_option maxRecDepth 20000
namespace Go.Sim
open Go Go.RowKit

end Go.Sim

set_option linter.unusedVariables false
set_option linter.unusedSimpArgs false
set_option maxRecDepth 20000
namespace Go.Sim
open Go Go.RowKit

theorem Row.i64 {b : Nat} {h : Zaa} {a : Pt} {n : Nat} {l : List Int} (r : Row b h a n (Zdk eI l)) {k : Nat} (hk : k < n) : ∃ i o, ∃ hk' : k < l.length, a = some (i, o) ∧ i < b ∧ Zak h (.ptr (some (i, o + k * 1))) = some (.int .i64 l[k]) := by
  obtain ⟨i, o, hk', ha, hi, hc⟩ := Row.el1 Ycq r hk
  exact ⟨i, o, hk', ha, hi, hc⟩
end Go.Sim

set_option linter.unusedSimpArgs false
set_option linter.unusedVariables false
namespace Go.Sim

end Go.Sim

set_option linter.unusedVariables false
set_option linter.unusedSimpArgs false
set_option maxRecDepth 20000
namespace Go.Sim
open Go Go.RowKit

theorem Zkj.mono {S S' : Nat → Prop} {h : Zaa} {i : Nat} {m : Bd} (r : Zkj S h i m) (hs : ∀ j, S j → S' j) : Zkj S' h i m := by
  obtain ⟨rows, h1, h2, h3⟩ := r
  refine ⟨rows, h1, h2, fun k x hx => ?_⟩
  have := h3 k x hx
  split at this
  · exact this.mono hs
  · exact this
theorem Zkj.below {S : Nat → Prop} {h : Zaa} {i : Nat} {m : Bd} (r : Zkj S h i m) : Zkj (fun j => S j ∧ j < h.length) h i m := by
  obtain ⟨rows, h1, h2, h3⟩ := r
  refine ⟨rows, h1, h2, fun k x hx => ?_⟩
  have := h3 k x hx
  split at this
  · exact Zdo.below this
  · exact this
end Go.Sim

set_option linter.unusedVariables false
set_option linter.unusedSimpArgs false
set_option maxRecDepth 20000
namespace Go.Sim
open Go Go.RowKit

theorem Zta {h : Zaa} {i p : Nat} (r : Rdr h i p) (hp : p ≤ 1000000000000) (g : Bool) (Q : QT) (hQ : ∀ c h', Zfb c = true → Zdn i h h' → Rdr h' i (p + 1) → Q (.str [c]) h') :
    bcase g (Zev (h ++ [.cells Zbg [.str [105], .str [98], .str [105], .str [117]] false]) fun h_0 => Zae pg Zbr [.ptr (some (i, 0)), .slice (some (List.length h, 0)) 4 4 true] h_0 fun v_1 h_2 =>
 Zct (some v_1) fun s_3 => Q (.str s_3) h_2) (Zev (h ++ [.cells Zbg [.str [120], .str [105], .str [121], .str [98], .str [120], .str [122], .str [117]] false]) fun h_4 => Zae pg Zbr [.ptr (some (i, 0)), .slice (some (List.length h, 0)) 7 7 true] h_4 fun v_5 h_6 =>
 Zct (some v_5) fun s_7 => Q (.str s_7) h_6) := by
  have hil := r.lt
  have go : ∀ (l : List (List Nat)) (n : Nat), l.length = n → 1 ≤ n → (∀ x ∈ l, ∃ c, x = [c] ∧ Zfb c = true) → Zev (h ++ [.cells Zbg (Zdk eS l) false]) fun h_0 => Zae pg Zbr [.ptr (some (i, 0)), .slice (some (List.length h, 0)) n n true] h_0 fun v_1 h_2 => Zct (some v_1) fun s_3 => Q (.str s_3) h_2 := by
    intro l n hn h1 hl
    simp only [Zbf]
    refine (Zxb (r.app _) hp (j := h.length) (t := Zbg) (l := l) (by simp) (by omega) hn h1).mono ?_
    rintro v h2 ⟨x, hx, rfl, hK, hR, _⟩
    obtain ⟨c, rfl, hc⟩ := hl x hx
    simp only [Zam]
    exact hQ c h2 hc ((Zdn.app i h _).trans hK) hR
  cases g with
  | true => exact go [[105], [98], [105], [117]] 4 rfl (by omega) (by intro x hx; simp at hx; rcases hx with rfl | rfl | rfl | rfl <;> exact ⟨_, rfl, rfl⟩)
  | false => exact go [[120], [105], [121], [98], [120], [122], [117]] 7 rfl (by omega) (by intro x hx; simp at hx; rcases hx with rfl | rfl | rfl | rfl | rfl | rfl | rfl <;> exact ⟨_, rfl, rfl⟩)
def DrQ (i p d : Nat) (h : Zaa) (v : Zac) (h' : Zaa) : Prop := ∃ t : Ty, v = .str t.txt ∧ t.ok = true ∧ t.txt.length ≤ 4 ^ (d + 1) ∧ Zdn i h h' ∧ ∃ p', p ≤ p' ∧ p' ≤ p + 4 ^ (d + 1) ∧ Rdr h' i p'
theorem Zpl : ∀ (d : Nat), d ≤ 8 → ∀ {h : Zaa} {i p : Nat}, Rdr h i p → p + 4 ^ (d + 1) ≤ 1000000000000 → ∀ (g : Bool), Zae pg Zcp [.ptr (some (i, 0)), .int .i64 (d : Int), .bool g] h (DrQ i p d h) := by
  intro d
  induction d with
  | zero =>
    intro _ h i p r hp g
    apply Zfr.call
    refine Zcl (fun _ => ?_) (fun hne => absurd rfl hne)
    exact Zta r (by omega) g (DrQ i p 0 h) fun c h' hc hK hR => ⟨.k c, rfl, by simpa [Ty.ok] using hc, by simp [Ty.txt], hK, p + 1, by omega, by omega, hR⟩
  | succ d ih =>
    intro hd h i p r hp g
    have hB : 4 ^ (d + 1 + 1) = 4 * 4 ^ (d + 1) := by rw [Nat.pow_succ]; omega
    have hB1 : 4 ≤ 4 ^ (d + 1) := by rw [Nat.pow_succ]; have := Nat.one_le_two_pow (n := 0); have : 1 ≤ 4 ^ d := Nat.one_le_pow _ _ (by omega); omega
    have hB2 : 4 ^ (d + 1) ≤ 1000000000000 := by omega
    generalize hBB : 4 ^ (d + 1) = B at *
    apply Zfr.call
    refine Zcl (fun he => by omega) (fun _ => ?_)
    refine (Zdt r (by omega) 3).mono ?_
    rintro v h1 ⟨x, rfl, hx0, hx1, _, K1, R1, _⟩
    simp only [Zaf]
    refine Zcl (fun _ => ?_) (fun _ => ?_)
    · exact Zta R1 (by omega) g (DrQ i p (d + 1) h) fun c h' hc hK hR => ⟨.k c, rfl, by simpa [Ty.ok] using hc, by rw [hB]; simp [Ty.txt]; omega, K1.trans hK, p + 1 + 1, by omega, by omega, hR⟩
    · apply Zfr.J5i
      refine (Zdt R1 (by omega) 4).mono ?_
      rintro v h2 ⟨x, rfl, hx0, hx1, _, K2, R2, _⟩
      have hw : IntKind.wrap .i64 (((d + 1 : Nat) : Int) - 1) = (d : Int) := by rw [IntWalk.i64_in _ (by omega)]; omega
      have K12 := K1.trans K2
      simp only [Zaf]
      rw [hw]
      have one : ∀ (c : Nat), (c = 109 ∨ c = 108) → Zae pg Zcp [.ptr (some (i, 0)), .int .i64 (d : Int), .bool g] h2 fun v_28 h_29 =>
          Zct (some v_28) fun s_30 => List.length ([c, 40]) + List.length s_30 ≤ 9223372036854775807 ∧ (List.length (([c, 40]) ++ s_30) + List.length [41] ≤ 9223372036854775807 ∧ (DrQ i p (d + 1) h (.str ((([c, 40]) ++ s_30) ++ [41])) h_29)) := by
        intro c hc
        refine (ih (by omega) R2 (by omega) g).mono ?_
        rintro v h3 ⟨t, rfl, hok, hlen, K3, p3, hp1, hp2, R3⟩
        rw [hBB] at hlen hp2
        simp only [Zam]
        refine ⟨by simp; omega, by simp; omega, .u c t, by simp [Ty.txt], ?_, ?_, K12.trans K3, p3, by omega, by omega, R3⟩
        · simp only [Ty.ok, hok, Bool.and_true]; rcases hc with rfl | rfl <;> rfl
        · rw [hB]; simp [Ty.txt]; omega
      refine Zcl (fun _ => ?_) (fun _ => Zcl (fun _ => one 109 (.inl rfl)) (fun _ => one 108 (.inr rfl)))
      refine (ih (by omega) R2 (by omega) g).mono ?_
      rintro v h3 ⟨t, rfl, hok, hlen, K3, p3, hp1, hp2, R3⟩
      rw [hBB] at hlen hp2
      simp only [Zam]
      refine ⟨by simp; omega, by simp; omega, ?_⟩
      refine (ih (by omega) R3 (by omega) g).mono ?_
      rintro v h4 ⟨t2, rfl, hok2, hlen2, K4, p4, hp3, hp4, R4⟩
      rw [hBB] at hlen2 hp4
      simp only [Zam]
      refine ⟨by simp; omega, by simp; omega, .w 112 t t2, by simp [Ty.txt], by simp [Ty.ok, hok, hok2], ?_, (K12.trans K3).trans K4, p4, by omega, by omega, R4⟩
      rw [hB]; simp [Ty.txt]; omega
def TxQ (i p : Nat) (h : Zaa) (v : Zac) (h' : Zaa) : Prop := ∃ s : List Nat, v = .str s ∧ s.length ≤ 1000 ∧ Zdn i h h' ∧ ∃ p', p ≤ p' ∧ p' ≤ p + 1000 ∧ Rdr h' i p'
theorem Zyc (s : List Nat) (a b : Int) : (sub s a b).length ≤ s.length := by unfold sub; simp; omega
theorem Zss {h : Zaa} {i p : Nat} (r : Rdr h i p) (hp : p ≤ 900000000000) : Zae pg Zgi [.ptr (some (i, 0))] h (TxQ i p h) := by
  apply Zlg.call
  refine (Zdt r (by omega) 4).mono ?_
  rintro v h1 ⟨x, rfl, hx0, hx1, _, K1, R1, _⟩
  have hx1 := hx1 (by omega)
  simp only [Zaf]
  refine (Zdt R1 (by omega) 2).mono ?_
  rintro v h2 ⟨y, rfl, hy0, hy1, _, K2, R2, _⟩
  simp only [Zaf]
  obtain ⟨d, rfl⟩ : ∃ d : Nat, x = d := ⟨x.toNat, by omega⟩
  have hd : d ≤ 3 := by omega
  have hB : 4 ^ (d + 1) ≤ 256 := by
    have : d = 0 ∨ d = 1 ∨ d = 2 ∨ d = 3 := by omega
    rcases this with rfl | rfl | rfl | rfl <;> decide
  refine (Zpl d (by omega) R2 (by omega) _).mono ?_
  rintro v h3 ⟨t, rfl, hok, hlen, K3, p3, hp1, hp2, R3⟩
  generalize ht : t.txt = s at hlen
  have K13 := (K1.trans K2).trans K3
  simp only [Zam]
  refine (Zdt R3 (by omega) 16).mono ?_
  rintro v h4 ⟨z, rfl, hz0, hz1, _, K4, R4, _⟩
  have K14 := K13.trans K4
  simp only [Zaf]
  refine Zaq (fun _ => ⟨s, rfl, by omega, K14, p3 + 1, by omega, by omega, R4⟩) (fun _ => ?_)
  have hs1 : 1 ≤ s.length := by rw [← ht]; obtain ⟨y, hy⟩ := t.txt_cons; rw [hy]; simp
  refine (Zdt R4 (by omega) (s.length : Nat)).mono ?_
  rintro v h5 ⟨k, rfl, hk0, hk1, _, K5, R5, _⟩
  have hk1 := hk1 (by omega)
  simp only [Zaf]
  refine ⟨by omega, ?_⟩
  simp only [Zbf]
  have hil := R5.lt
  refine (Zxb (R5.app _) (by omega) (j := h5.length) (t := Zbg) (n := 7) (l := [[], [40], [41], [44], [105], [113], [88]]) (by simp [Zdk, eS]) (by omega) rfl (by omega)).mono ?_
  rintro v h6 ⟨w, hw, rfl, K6, R6, _⟩
  have K16 := ((K14.trans K5).trans (Zdn.app i h5 _)).trans K6
  have hwl : w.length ≤ 1 := by simp at hw; rcases hw with rfl | rfl | rfl | rfl | rfl | rfl | rfl <;> simp
  simp only [Zam]
  have hs1 := Zyc s 0 k
  refine ⟨by omega, ?_⟩
  refine (Zdt R6 (by omega) 2).mono ?_
  rintro v h7 ⟨u, rfl, hu0, hu1, _, K7, R7, _⟩
  have hu1 := hu1 (by omega)
  simp only [Zaf]
  rw [IntWalk.i64_in (k + u) (by omega)]
  have hs2 := Zyc s (k + u) s.length
  refine ⟨by omega, by simp; omega, _, rfl, by simp; omega, K16.trans K7, _, ?_, ?_, R7⟩ <;> omega
theorem Ztx : ∀ (vs : List Nat) (ts : List Ty), vs.Nodup → ∀ k (hk : k < vs.length), k < ts.length → Zcj (vs.zip ts) vs[k] = ts[k]?
  | [], _, _, k, hk, _ => by simp at hk
  | v :: vs, [], _, k, _, h => by simp at h
  | v :: vs, t :: ts, hn, 0, _, _ => by simp [Zcj]
  | v :: vs, t :: ts, hn, k + 1, hk, h => by
    have h1 := List.nodup_cons.1 hn
    have hk' : k < vs.length := by simpa using hk
    have hne : v ≠ vs[k] := fun e => h1.1 (e ▸ List.getElem_mem hk')
    simp only [List.zip_cons_cons, Zcj, List.getElem_cons_succ, if_neg hne, List.getElem?_cons_succ]
    exact Ztx vs ts h1.2 k hk' (by simpa using h)
theorem Zxa : ∀ {m : Bd} {v : Nat} {u : Ty}, Zcj m v = some u → (v, u) ∈ m
  | [], _, _, h => by cases h
  | (a, b) :: m, v, u, h => by
    simp only [Zcj] at h
    split at h
    · rename_i e; cases h; subst e; exact List.mem_cons_self ..
    · exact List.mem_cons_of_mem _ (Zxa h)
theorem Zju {f : Nat → Option Ty} (hf : ∀ c u, f c = some u → u.txt.length ≤ 16) : ∀ t : Ty, (subst f t).txt.length ≤ 16 * t.txt.length
  | .k c => by
    simp only [subst]
    cases h : f c with
    | none => simp [Ty.txt]
    | some u => have := hf c u h; simp [Ty.txt]; omega
  | .u c a => by have := Zju hf a; simp [subst, Ty.txt]; omega
  | .w c a b => by have := Zju hf a; have := Zju hf b; simp [subst, Ty.txt]; omega
theorem Zpk {h : Zaa} {i p : Nat} {s : List Nat} (r : Rdr h i p) (hp : p ≤ 900000000000) (hs : s.length ≤ 1048576) : Zae pg Zfs [.ptr (some (i, 0)), .str s] h (TxQ i p h) := by
  apply Zet.call
  refine (Zkd s (by omega) h).mono ?_
  rintro v h1 ⟨s1, vs, rfl, hm⟩
  have hil := r.lt
  have leaf : ∀ h', Zdn i h h' → ∀ p', p ≤ p' → p' ≤ p + 1000 → Rdr h' i p' → TxQ i p h (.str [105]) h' := fun h' K p' h1 h2 R => ⟨[105], rfl, by simp, K, p', h1, h2, R⟩
  have hvs : ∃ (d : Nat) (a : Pt) (n c : Nat) (e : Bool), vs = [.int .u8 (d : Int), .slice a n c e] := by
    split at hm
    · obtain ⟨a, c, e, rfl⟩ := hm.shape; exact ⟨_, _, _, _, _, rfl⟩
    · exact ⟨0, _, _, _, _, hm⟩
  obtain ⟨d, a, n, c, e, rfl⟩ := hvs
  simp only [Zdz, Zaj, Zgl, Zaf, Zai, Zau, Zal, Zbf]
  rw [Zhy]
  simp only [Zat]
  generalize hh2 : h1 ++ [Zce.cells Zab [.int .u8 (d : Int), .slice a n c e] false] = h2
  have s2 : Zbk h1.length h1 h2 := by rw [← hh2]; exact Zbd
  have l2 : h2.length = h1.length + 1 := by rw [← hh2]; simp
  have n2 : h2[h1.length]? = some (.cells Zab [.int .u8 (d : Int), .slice a n c e] false) := by rw [← hh2]; simp
  have S2 := s1.cat s2
  refine Zeq (fun hno => leaf _ (Zdn.of_same S2) p (by omega) (by omega) (r.same S2)) (fun hyes => ?_)
  have hof : ∃ t, Zdr s = some t := by
    unfold Zkp at hyes
    cases hx : Zdr s with
    | none => rw [hx] at hyes; cases hyes
    | some t => exact ⟨t, rfl⟩
  obtain ⟨t, ht⟩ := hof
  obtain ⟨hok, hst, hsl⟩ := Zcc.1 ht
  rw [ht] at hm
  simp only at hm
  generalize hh3 : h2 ++ [Zce.cells Zbh [.int .u8 0, .slice none 0 0 true, .int .u8 0, .slice none 0 0 true, .int .u8 0, .slice none 0 0 true, .int .u8 0, .slice none 0 0 true, .int .u8 0, .slice none 0 0 true, .int .u8 0, .slice none 0 0 true, .int .u8 0, .slice none 0 0 true, .int .u8 0, .slice none 0 0 true, .int .u8 0, .slice none 0 0 true, .int .u8 0, .slice none 0 0 true, .int .u8 0, .slice none 0 0 true, .int .u8 0, .slice none 0 0 true] false] = h3
  have s3 : Zbk h2.length h2 h3 := by rw [← hh3]; exact Zbd
  have l3 : h3.length = h2.length + 1 := by rw [← hh3]; simp
  have m3 : h3[h2.length]? = some (.cells Zbh (Zdk eR (List.replicate 12 (.int .u8 0, .slice none 0 0 true))) false) := by rw [← hh3]; simp; rfl
  have S3 := S2.cat s3
  have n3 := s3.get n2 (Own.lt n2)
  have r3 := r.same S3
  refine Zet.L6ind (J := fun (g : Nat) x19 h' => x19 = (g : Int) ∧ g ≤ 12 ∧ Zdn i h h' ∧ (∃ p', p ≤ p' ∧ p' ≤ p + g * 80 ∧ Rdr h' i p') ∧ h3.length ≤ h'.length ∧ h'[h1.length]? = some (.cells Zab [.int .u8 (d : Int), .slice a n c e] false) ∧
      Zdo (fun j => j ≠ h2.length ∧ j ≠ i ∧ j < h'.length) h' t [.int .u8 (d : Int), .slice a n c e] ∧
      ∃ (rows : List (Zac × Zac)) (ts : List Ty), rows.length = 12 ∧ ts.length = g ∧ (∀ u ∈ ts, u.ok = true ∧ u.txt.length ≤ 16) ∧ h'[h2.length]? = some (.cells Zbh (Zdk eR rows) false) ∧
        ∀ (k : Nat) (x : Zac × Zac) (u : Ty), rows[k]? = some x → ts[k]? = some u → Zdo (fun j => j ≠ h2.length ∧ j ≠ i ∧ j < h'.length) h' u (eR x))
    (m := fun g => 12 - g) (hr := ?_) (g := 0) (hj := ⟨rfl, by omega, Zdn.of_same S3, ⟨p, by omega, by omega, r3⟩, Nat.le_refl _, n3, ?_, _, [], by simp, rfl, by simp, m3, by simp⟩) ..
  · rintro g x19 h4 ⟨rfl, hg, K4, ⟨p4, hp1, hp2, R4⟩, l4, n4, rt, rows, ts, hrl, htl, hts, m4, hrep⟩ R hR
    unfold Zet.L6t
    refine Zaq (fun hlt => ?_) (fun hge => ?_)
    · refine (Zdt R4 (by omega) 2).mono ?_
      rintro v h5 ⟨x, rfl, hx0, hx1, _, K5, R5, _⟩
      have hx1 := hx1 (by omega)
      simp only [Zaf]
      refine (Zdt R5 (by omega) 2).mono ?_
      rintro v h6 ⟨y, rfl, hy0, hy1, _, K6, R6, _⟩
      simp only [Zaf]
      obtain ⟨q, rfl⟩ : ∃ q : Nat, x = q := ⟨x.toNat, by omega⟩
      have hB : 4 ^ (q + 1) ≤ 16 := by
        have : q = 0 ∨ q = 1 := by omega
        rcases this with rfl | rfl <;> decide
      refine (Zpl q (by omega) R6 (by omega) _).mono ?_
      rintro v h7 ⟨u, rfl, huok, hulen, K7, p7, hp3, hp4, R7⟩
      have K47 := (K5.trans K6).trans K7
      simp only [Zam]
      refine (Zkd u.txt (by omega) h7).mono ?_
      rintro v h8 ⟨s8, vu, rfl, hmu⟩
      rw [Zcc.2 ⟨huok, rfl, by omega⟩] at hmu
      simp only at hmu
      obtain ⟨au, cu, eu, hsh⟩ := hmu.shape
      subst hsh
      have K48 := K47.trans (Zdn.of_same s8)
      simp only [Zdz, Zaj, Zgl, Zaf, Zai, Zau, Zal]
      have l8 := K48.le
      have hm2i : h2.length ≠ i := by have := S2.le; omega
      have m8 : h8[h2.length]? = some (.cells Zbh (Zdk eR rows) false) := by rw [K48.eq _ (Own.lt m4) hm2i]; exact m4
      have hfl : (Zdk eR rows).length = 24 := by rw [Zaw Zhz, hrl]
      rw [Nat.zero_add, Int.toNat_natCast, Zbm m8 (by rw [hfl]; simp; omega)]
      simp only [Zat]
      rw [show ([Zac.int .u8 (u.hd : Int), Zac.slice au u.ps.length cu eu] : List Zac) = eR (Zac.int .u8 (u.hd : Int), Zac.slice au u.ps.length cu eu) from rfl, Zov Zhz (by omega), Zch (by omega)]
      have hset : ∀ j, j ≠ h2.length → (h8.set h2.length (Zce.cells Zbh (Zdk eR (rows.set g (Zac.int .u8 (u.hd : Int), Zac.slice au u.ps.length cu eu))) false))[j]? = h8[j]? := fun j hj => Zcf (fun e => hj e.symm)
      have old : ∀ j, (j ≠ h2.length ∧ j ≠ i ∧ j < h4.length) → (h8.set h2.length (Zce.cells Zbh (Zdk eR (rows.set g (Zac.int .u8 (u.hd : Int), Zac.slice au u.ps.length cu eu))) false))[j]? = h4[j]? := fun j hj => by rw [hset j hj.1, K48.eq j hj.2.2 hj.2.1]
      have hup : ∀ j, (j ≠ h2.length ∧ j ≠ i ∧ j < h4.length) → (j ≠ h2.length ∧ j ≠ i ∧ j < (h8.set h2.length (Zce.cells Zbh (Zdk eR (rows.set g (Zac.int .u8 (u.hd : Int), Zac.slice au u.ps.length cu eu))) false)).length) := fun j hj => ⟨hj.1, hj.2.1, by simp; omega⟩
      have i8 : Rdr h8 i p7 := R7.same s8
      refine ⟨⟨by omega, by omega⟩, hR (g + 1) _ _ (by omega) ⟨by omega, by omega, (K4.trans K48).trans' (fun j hj => Zcf (by have := S2.le; omega)), ⟨p7, by omega, by omega, ?_⟩, by simp; omega, ?_, (rt.agree old).mono hup, _, ts ++ [u], by simp [hrl], by simp [htl], ?_, Zcq m8, ?_⟩⟩
      · refine i8.agree (fun j hj => hset j (by have := S2.le; omega)) (by simp)
      · rw [hset _ (by omega), K48.eq _ (Own.lt n4) (by have := s1.le; omega)]; exact n4
      · intro w hw
        rcases List.mem_append.1 hw with hw | hw
        · exact hts w hw
        · simp at hw; subst hw; exact ⟨huok, by omega⟩
      · intro k x w hx hw
        by_cases hk : k = g
        · subst hk
          rw [List.getElem?_set_self (by omega)] at hx
          rw [List.getElem?_append_right (by omega)] at hw
          simp [htl] at hw
          cases hx; subst hw
          refine (hmu.agree (h' := h8.set h2.length (Zce.cells Zbh (Zdk eR (rows.set k (Zac.int .u8 (u.hd : Int), Zac.slice au u.ps.length cu eu))) false)) fun j hj => hset j (by have := hj.1; have := K47.le; omega)).mono fun j hj => ⟨by have := hj.1; have := K47.le; omega, by have := hj.1; have := K47.le; have := S2.le; omega, by simp; exact hj.2⟩
        · rw [List.getElem?_set_ne (fun e => hk e.symm)] at hx
          have hkg : k < g := by
            have := (List.getElem?_eq_some_iff.1 hw).1
            simp [htl] at this; omega
          rw [List.getElem?_append_left (by omega)] at hw
          exact ((hrep k x w hx hw).agree old).mono hup
    · have hg12 : g = 12 := by omega
      subst hg12
      apply Zet.A6x0i
      rw [Zop n4]
      simp only [Zaz, Zaj, Zau, Zaf, Zai]
      have hget : ∀ k, k < 6 → (Zbo[k]?).bind (Zcj (Zbo.zip ts)) = ts[k]? := fun k hk => by
        have hk6 : k < Zbo.length := hk
        rw [List.getElem?_eq_getElem hk6, Option.bind_some]
        exact Ztx Zbo ts Zga k hk6 (by omega)
      have hin : ∀ v u, Zcj (Zbo.zip ts) v = some u → v ∈ Zbo ∧ u ∈ ts := fun v u hu => by
        have := Zxa hu
        exact ⟨(List.of_mem_zip this).1, (List.of_mem_zip this).2⟩
      have hW : Zyp (fun j => j ≠ h2.length ∧ j ≠ i ∧ j < h4.length) h4 h2.length (Zbo.zip ts) := by
        refine ⟨rows, hrl, m4, fun k x hk hx => ?_⟩
        rw [hget k hk]
        have hkt : k < ts.length := by omega
        rw [List.getElem?_eq_getElem hkt]
        exact hrep k x _ hx (List.getElem?_eq_getElem hkt)
      have hnv : ∀ v, Zbj v = false → Zcj (Zbo.zip ts) v = none := fun v hv => by
        cases hb : Zcj (Zbo.zip ts) v with
        | none => rfl
        | some u =>
          have h1 := (hin v u hb).1
          have : ∀ x ∈ Zbo, Zbj x = true := by decide
          rw [this v h1] at hv; cases hv
      refine (Zsx _ (Nat.le_refl _) hok (fun j hj => ⟨hj.2.2, hj.1⟩) rt hW (fun v u hu => (hts u (hin v u hu).2).1) hnv).mono ?_
      rintro x h5 ⟨s5, vs5, rfl, rt5⟩
      have hl5 : (subst (Zcj (Zbo.zip ts)) t).txt.length ≤ 1048576 := by
        have := Zju (f := Zcj (Zbo.zip ts)) (fun c u hu => (hts u (hin c u hu).2).2) t
        rw [← hst] at this; omega
      have hok5 : (subst (Zcj (Zbo.zip ts)) t).ok = true := Zlt ⟨hnv, fun v u hu => (hts u (hin v u hu).2).1⟩ hok
      obtain ⟨a5, c5, e5, hsh5⟩ := rt5.shape
      subst hsh5
      simp only [Zgl, Zaj, Zaf, Zai, Zau, Zbf]
      rw [Zhy]
      simp only [Zat]
      generalize hh6 : h5 ++ [Zce.cells Zab [.int .u8 ((subst (Zcj (Zbo.zip ts)) t).hd : Int), .slice a5 (subst (Zcj (Zbo.zip ts)) t).ps.length c5 e5] false] = h6
      have s6 : Zbk h5.length h5 h6 := by rw [← hh6]; exact Zbd
      have n6 : h6[h5.length]? = some (.cells Zab [.int .u8 ((subst (Zcj (Zbo.zip ts)) t).hd : Int), .slice a5 (subst (Zcj (Zbo.zip ts)) t).ps.length c5 e5] false) := by rw [← hh6]; simp
      rw [Zop n6]
      simp only [Zaz, Zaj, Zau, Zaf, Zai]
      have rt6 := rt5.same s6
      refine (Zjl _ (Nat.le_refl _) hl5 rt6).mono ?_
      rintro v h7 ⟨rfl, s7⟩
      simp only [Zaf]
      have K7 := ((K4.trans (Zdn.of_same s5)).trans (Zdn.of_same s6)).trans (Zdn.of_same s7)
      have R7 := ((R4.same s5).same s6).same s7
      refine Zaq (fun _ => leaf _ K7 p4 hp1 (by omega) R7) (fun hsm => ?_)
      rw [Zop (s7.get n6 (Own.lt n6))]
      simp only [Zaz, Zaj, Zau, Zaf, Zai]
      refine (Zii _ (Nat.le_refl _) hl5 hok5 (rt6.same s7)).mono ?_
      rintro v h8 ⟨rfl, s8⟩
      simp only [Zam]
      exact ⟨_, rfl, by omega, K7.trans (Zdn.of_same s8), p4, hp1, by omega, R7.same s8⟩
  · exact (hm.agree (h' := h3) fun j hj => by rw [s3.eq j (by have := hj.2; omega), s2.eq j hj.2]).mono fun j hj => ⟨by have := hj.2; omega, by have := hj.1; omega, by have := hj.2; omega⟩
theorem Zzm {h : Zaa} {i p : Nat} (r : Rdr h i p) (hp : p ≤ 800000000000) : Zae pg Zig [.ptr (some (i, 0))] h fun v h' => ∃ s t : List Nat, v = .tup [.str s, .str t] ∧ s.length ≤ 1000 ∧ t.length ≤ 1000 ∧ Zdn i h h' ∧ ∃ p', Rdr h' i p' := by
  apply Zld.call
  refine (Zss r (by omega)).mono ?_
  rintro v h1 ⟨s, rfl, hs, K1, p1, hp1, hp2, R1⟩
  simp only [Zam]
  refine (Zdt R1 (by omega) 3).mono ?_
  rintro v h2 ⟨x, rfl, hx0, hx1, _, K2, R2, _⟩
  simp only [Zaf]
  have K12 := K1.trans K2
  refine Zcl (fun _ => ?_) (fun _ => Zcl (fun _ => ?_) (fun _ => ?_))
  · refine (Zpk R2 (by omega) (by omega)).mono ?_
    rintro v h3 ⟨t, rfl, ht, K3, p3, hp3, hp4, R3⟩
    simp only [Zam]
    exact ⟨_, _, rfl, hs, ht, K12.trans K3, p3, R3⟩
  · refine (Zpk R2 (by omega) (by omega)).mono ?_
    rintro v h3 ⟨t, rfl, ht, K3, p3, hp3, hp4, R3⟩
    simp only [Zam]
    exact ⟨_, _, rfl, ht, hs, K12.trans K3, p3, R3⟩
  · refine (Zss R2 (by omega)).mono ?_
    rintro v h3 ⟨t, rfl, ht, K3, p3, hp3, hp4, R3⟩
    simp only [Zam]
    exact ⟨_, _, rfl, hs, ht, K12.trans K3, p3, R3⟩
theorem Zrb {h : Zaa} {a : Pt} {n c : Nat} {e : Bool} {l : List Nat} (r : Row h.length h a n (Zdk eB l)) (hb : ∀ b ∈ l, b < 256) (hnc : n ≤ c) : Zae pg Zea [.slice a n c e] h fun v h' => ∃ s t : List Nat, v = .tup [.str s, .str t] ∧ s.length ≤ 1000 ∧ t.length ≤ 1000 ∧ Zbk h.length h h' := by
  apply Zfp.call
  refine (Zua r hb hnc).mono ?_
  rintro v h1 ⟨rfl, s1, R1, l1⟩
  simp only [Zfi]
  refine (Zzm R1 (by omega)).mono ?_
  rintro v h2 ⟨s, t, rfl, hs, ht, K2, _⟩
  simp only [Zdz, Zaj, Zam, Zau]
  exact ⟨_, _, rfl, hs, ht, ⟨by have := K2.le; omega, fun j hj => by rw [K2.eq j (by omega) (by omega)]; exact s1.eq j hj⟩⟩
end Go.Sim
