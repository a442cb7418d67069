/- A part of the proof of a statement of this seat: see the text that holds the theorem. No condition. -/
import Derived.Test.YtlljbdepamknoaaGreatDoorPTCFind
import Derived.Test.YtlljbdepamknoaaGreatDoorCGrow2
import Derived.Test.YtlljbdepamknoaaGreatDoorPTCMatch2
import Derived.Test.YtlljbdepamknoaaGreatDoorCVars
import Derived.Test.YtlljbdepamknoaaGreatDoorNm
import Derived.Test.YtlljbdepamknoaaGreatDoorCTy
import Derived.Test.YtlljbdepamknoaaGreatDoorPTCSLevel
set_option linter.unusedVariables false
set_option linter.unusedSimpArgs false
set_option linter.all false
set_option linter.unusedVariables false
set_option linter.unusedSimpArgs false
set_option maxRecDepth 20000
namespace Go.Sim
open Go Go.RowKit

noncomputable def Zll (n : Nd) (i : Ins) : Bool := decide (i.1.1 = n.1) && Zow i.1.2 n.2
noncomputable def Zja (w : Wd) (n : Nd) : List Int := ixs (Zll n) w.is
theorem Yqn {α : Type} {f : α → Bool} {l : List α} {x : Int} (h : x ∈ ixs f l) : ∃ k : Nat, ∃ hk : k < l.length, x = k ∧ f l[k] = true := by
 unfold ixs at h
 obtain ⟨p, hp, rfl⟩ := List.mem_map.1 h
 obtain ⟨h1, h2⟩ := List.mem_filter.1 hp
 obtain ⟨a, k⟩ := p
 have h3 := List.mem_zipIdx h1
 simp only [Nat.zero_add, Nat.zero_le, Nat.sub_zero, true_and] at h3
 exact ⟨k, h3.1, rfl, by simp only at h2; rw [← h3.2]; exact h2⟩
theorem Zzl {h : Zaa} {a0 a1 : Pt} {n0 c0 n1 c1 : Nat} {e0 e1 : Bool} {w : Wd} {ct tt : List Nat} (r : Zlu h a0 n0 c0 a1 n1 c1 w) (b : WB w) :
  Zae pg Zkl [.agg [.slice a0 n0 c0 e0, .slice a1 n1 c1 e1], .agg [.str ct, .str tt]] h fun v h' => v = .bool (Zdy w && Zdk w (ct, tt)) ∧ Zba h.length h h' := by
 apply Zos.call
 simp only [Zav]
 generalize hh0 : h ++ [Zci.cells Zaj [.slice a0 n0 c0 e0, .slice a1 n1 c1 e1] false] = h0
 generalize hh1 : h0 ++ [Zci.cells Zad [.str ct, .str tt] false] = h1
 have s0 : Zba h.length h h0 := by rw [← hh0]; exact Zan
 have s1 : Zba h0.length h0 h1 := by rw [← hh1]; exact Zan
 have w0 : h0[h.length]? = some (Zlt a0 n0 c0 e0 a1 n1 c1 e1) := by rw [← hh0]; simp [Zlt]
 have w1 := s1.get w0 (Own.lt w0)
 have i1 : h1[h0.length]? = some (.cells Zad [.str ct, .str tt] false) := by rw [← hh1]; simp
 rw [Zxf w1]
 simp only [Zas, Zah, Zar, Zaf]
 refine (Zzp (r.same (s0.cat s1)) b).mono ?_
 rintro v h2 ⟨rfl, s2⟩
 simp only [Zam]
 have i2 := s2.get i1 (Own.lt i1)
 have w2 := s2.get w1 (Own.lt w1)
 refine Zdg (fun b1 => ?_) (fun b1 => ⟨by rw [b1]; rfl, (s0.cat s1).cat s2⟩)
 rw [Zxf w2, Zeb i2 (by simp)]
 simp only [List.drop_zero, List.take_succ_cons, List.take_zero, Zas, Zah, Zar, Zaf, Zag]
 refine (Ylj (r.same ((s0.cat s1).cat s2)) b).mono ?_
 rintro v h3 ⟨rfl, s3⟩
 simp only [Zam]
 exact ⟨by rw [b1]; rfl, ((s0.cat s1).cat s2).cat s3⟩
theorem Yhf {h : Zaa} {a : Pt} {n c j : Nat} {e : Bool} {ct tt nc nt : List Nat} (hj : h[j]? = some (.cells Zad [.str nc, .str nt] false)) :
  Zae pg Zce [.agg [.str ct, .str tt, .slice a n c e], .ptr (some (j, 0))] h fun v h' => v = .bool (Zow tt nt) ∧ Zba h.length h h' := by
 apply Zjd.call
 have s1 : Zba h.length h (h ++ [.cells Zai [.str ct, .str tt, .slice a n c e] false]) := Zan
 simp only [Zav, Zeo, Nat.zero_add, List.getElem?_cons_succ, List.getElem?_cons_zero, Zag, fa1, Zat (s1.get hj (Own.lt hj))]
 refine (Zzn tt nt _).mono ?_
 rintro v h2 ⟨rfl, s2⟩
 simp only [Zam]
 exact ⟨by trivial, s1.cat s2⟩
theorem Ymc {h : Zaa} {t : TypeId} {x y z a b c : Zaq} : Zbn (h ++ [.cells t [x, y, z] false]) (.ptr (some (h.length, 0))) [a, b, c] = some (h ++ [.cells t [a, b, c] false]) := Zsu rfl
theorem Ygm {h : Zaa} {a0 a1 : Pt} {n0 c0 n1 c1 j : Nat} {e0 e1 : Bool} {w : Wd} {nd : Nd} (r : Zlu h a0 n0 c0 a1 n1 c1 w) (b : WB w) (hj : h[j]? = some (.cells Zad [.str nd.1, .str nd.2] false)) :
  Zae pg Zpg [.agg [.slice a0 n0 c0 e0, .slice a1 n1 c1 e1], .str nd.1, .fn Zce [.ptr (some (j, 0))]] h fun v h' => Zba h.length h h' ∧ ∃ a n c e, v = .slice a n c e ∧ Zct Zjb eI h.length h' a n (Zja w nd) := by
 have hl1 := r.len1
 have hli := b.li
 apply Zbv.call
 simp only [Zav]
 generalize hh0 : h ++ [Zci.cells Zaj [.slice a0 n0 c0 e0, .slice a1 n1 c1 e1] false] = h0
 generalize hh1 : h0 ++ [Zci.cells Zjb [] false] = h1
 have s0 : Zba h.length h h0 := by rw [← hh0]; exact Zan
 have s1 : Zba h0.length h0 h1 := by rw [← hh1]; exact Zan
 have w0 : h0[h.length]? = some (Zlt a0 n0 c0 e0 a1 n1 c1 e1) := by rw [← hh0]; simp [Zlt]
 have w1 := s1.get w0 (Own.lt w0)
 have o1 : h1[h0.length]? = some (.cells Zjb [] false) := by rw [← hh1]; simp
 have l0 : h0.length = h.length + 1 := by rw [← hh0]; simp
 have S1 := s0.cat s1
 simp only [Zze w1, Nat.zero_add, List.getElem?_cons_succ, List.getElem?_cons_zero, Zaf]
 refine Zbv.L3ind _ _ _ _ _ _ _ _ (J := fun (g : Nat) a4 n4 c4 e4 x14 h' => x14 = (g : Int) ∧ g ≤ n1 ∧ Zba h.length h h' ∧ n4 = (ixs (Zll nd) (w.is.take g)).length ∧ Vec Zjb h' a4 n4 c4 (Zdl eI (ixs (Zll nd) (w.is.take g))) ∧ (∀ i, a4 = some (i, 0) → h.length ≤ i)) (fun g => n1 - g) ?_ 0 _ _ _ _ _ _
  ⟨rfl, by omega, S1, rfl, Vec.mk1 (by simpa [ixs] using o1), fun i hi => by cases hi; omega⟩
 rintro g a4 n4 c4 e4 x14 h' ⟨rfl, hg, hS, rfl, hv, ha⟩ R hR
 unfold Zbv.L3t
 refine Zap (fun hlt => ?_) (fun hge => ?_)
 ·have hgl : g < w.is.length := by omega
  obtain ⟨i, o, a2, n2, c2, e2, rfl, _, hr, _, _, hrow, hn⟩ := Yfa (r.same hS) hgl
  simp only [Zaw, Int.toNat_natCast, hr, Zas, Zah, Zar, Zag, Zaf, Zav]
  rw [Ymc]
  simp only [Zay, Zeo, Nat.zero_add, List.getElem?_cons_succ, List.getElem?_cons_zero, Zag]
  have hil := Zyw (Zll nd) (w.is.take g)
  rw [List.length_take] at hil
  have htk := Yez (Zll nd) hgl
  generalize hq : h' ++ [Zci.cells Zai [.str w.is[g].1.1, .str w.is[g].1.2, .slice a2 n2 c2 e2] false] = hq'
  have sq : Zba h'.length h' hq' := by rw [← hq]; exact Zan
  have skip : ∀ hz, Zba hq'.length hq' hz → Zll nd w.is[g] = false → Zbv.J7 (fun v h' => Zba h.length h h' ∧ ∃ a n c e, v = .slice a n c e ∧ Zct Zjb eI h.length h' a n (Zja w nd)) R (g : Int) (((n1 : Nat) : Int)) (some (i, o)) n1 c1 e1 nd.1 (.ptr (some (j, 0))) a4 (ixs (Zll nd) (w.is.take g)).length c4 e4 hz := by
   intro hz sz hno
   apply Zbv.J7i
   rw [hno] at htk
   simp only [Bool.false_eq_true, if_false, List.append_nil] at htk
   rw [Zbr (by omega)]
   exact hR (g + 1) _ _ _ _ _ _ (by omega) ⟨rfl, by omega, (hS.cat sq).cat sz, by rw [htk], by rw [htk]; exact (hv.same sq).same sz, ha⟩
  refine ⟨by omega, Zap (fun hc => ?_) (fun hc => skip _ (Zba.refl _ _) (by unfold Zll; simp [hc]))⟩
  rw [← hq, Yqq, hq]
  simp only [Zas, Zah, Zar, Zag, Zaf]
  refine (Yhf (sq.get (hS.get hj (Own.lt hj)) (by have := Own.lt hj; have := hS.le; omega))).mono ?_
  rintro v h3 ⟨rfl, s3⟩
  simp only [Zam]
  refine Zdg (fun hi => ?_) (fun hi => skip _ s3 (by unfold Zll; simp [hi]))
  have hyes : Zll nd w.is[g] = true := by unfold Zll; simp [hc, hi]
  rw [hyes, if_pos rfl] at htk
  have S3 := (hS.cat sq).cat s3
  refine ((hv.same sq).same s3).push Ylq Yrr Ysd Ysa (by rw [Zbf Zye]; omega) rfl (by omega) (fun h6 hl6 hi6 hk6 => ?_)
  simp only [Zaf]
  apply Zbv.J7i
  rw [Zbr (by omega)]
  have hle := S3.le
  refine hR (g + 1) _ _ _ _ _ _ (by omega) ⟨rfl, by omega, ⟨by omega, fun j hj => ?_⟩, by rw [htk]; simp, Vec.mk1 ?_, fun i hi => by cases hi; omega⟩
  ·rw [hk6 j (by omega) fun i hi => by have := ha i hi; omega]; exact S3.eq j hj
  ·rw [hi6, htk, Zeg]; rfl
 ·apply Zbv.A3x0i
  have : g = n1 := by omega
  subst this
  rw [List.take_of_length_le (by omega)] at hv ⊢
  exact ⟨hS, _, _, _, _, rfl, hv.fresh (b := h.length) rfl fun i hi => ha i hi⟩
def Ypp (w : Wd) (n : Nd) (h : Zaa) (v : Zaq) (h' : Zaa) : Prop := Zba h.length h h' ∧ ∃ a m c e, v = .slice a m c e ∧ Zct Zjb eI h.length h' a m (Zja w n)
theorem Zct.low {α : Type} {ty : TypeId} {enc : α → List Zaq} {b b' : Nat} {h : Zaa} {a : Pt} {n : Nat} {l : List α} (f : Zct ty enc b h a n l) (hb : b' ≤ b) : Zct ty enc b' h a n l :=
 ⟨f.1, f.2.imp id fun ⟨i, ha, hbi, hi⟩ => ⟨i, ha, by omega, hi⟩⟩
theorem Zzq {h : Zaa} {a0 a1 : Pt} {n0 c0 n1 c1 : Nat} {e0 e1 : Bool} {w : Wd} {nd : Nd} (r : Zlu h a0 n0 c0 a1 n1 c1 w) (b : WB w) :
  Zae pg Zjr [.agg [.slice a0 n0 c0 e0, .slice a1 n1 c1 e1], .agg [.str nd.1, .str nd.2]] h (Ypp w nd h) := by
 apply Znp.call
 simp only [Zav]
 generalize hh0 : h ++ [Zci.cells Zaj [.slice a0 n0 c0 e0, .slice a1 n1 c1 e1] false] = h0
 generalize hh1 : h0 ++ [Zci.cells Zad [.str nd.1, .str nd.2] false] = h1
 have s0 : Zba h.length h h0 := by rw [← hh0]; exact Zan
 have s1 : Zba h0.length h0 h1 := by rw [← hh1]; exact Zan
 have w0 : h0[h.length]? = some (Zlt a0 n0 c0 e0 a1 n1 c1 e1) := by rw [← hh0]; simp [Zlt]
 have w1 := s1.get w0 (Own.lt w0)
 have i1 : h1[h0.length]? = some (.cells Zad [.str nd.1, .str nd.2] false) := by rw [← hh1]; simp
 have S1 := s0.cat s1
 rw [Zxf w1]
 simp only [Zas, Zah, Zar, Zaf, Zat i1, Nat.zero_add, List.getElem?_cons_zero, Zag]
 refine (Ygm (r.same S1) b i1).mono ?_
 rintro v h2 ⟨s2, a, n, c, e, rfl, f⟩
 simp only [Zaf]
 exact ⟨S1.cat s2, a, n, c, e, rfl, f.low S1.le⟩
theorem Zwy {h : Zaa} {a0 a1 : Pt} {n0 c0 n1 c1 : Nat} {e0 e1 : Bool} {w : Wd} {nd : Nd} (r : Zlu h a0 n0 c0 a1 n1 c1 w) (b : WB w) (hnt : nd.2.length ≤ 1048576) :
  Zae pg Zib [.agg [.slice a0 n0 c0 e0, .slice a1 n1 c1 e1], .agg [.str nd.1, .str nd.2]] h (Ypp w nd h) := by
 have hl1 := r.len1
 have hli := b.li
 apply Zdh.call
 simp only [Zav]
 generalize hh0 : h ++ [Zci.cells Zaj [.slice a0 n0 c0 e0, .slice a1 n1 c1 e1] false] = h0
 generalize hh1 : h0 ++ [Zci.cells Zad [.str nd.1, .str nd.2] false] = h1
 generalize hh2 : h1 ++ [Zci.cells Zjb [] false] = h2
 have s0 : Zba h.length h h0 := by rw [← hh0]; exact Zan
 have s1 : Zba h0.length h0 h1 := by rw [← hh1]; exact Zan
 have s2 : Zba h1.length h1 h2 := by rw [← hh2]; exact Zan
 have w0 : h0[h.length]? = some (Zlt a0 n0 c0 e0 a1 n1 c1 e1) := by rw [← hh0]; simp [Zlt]
 have w2 := s2.get (s1.get w0 (Own.lt w0)) (by have := Own.lt w0; have := s1.le; omega)
 have i1 : h1[h0.length]? = some (.cells Zad [.str nd.1, .str nd.2] false) := by rw [← hh1]; simp
 have i2 := s2.get i1 (Own.lt i1)
 have o2 : h2[h1.length]? = some (.cells Zjb [] false) := by rw [← hh2]; simp
 have S2 := (s0.cat s1).cat s2
 have hle1 := (s0.cat s1).le
 have l1' : h1.length = h0.length + 1 := by rw [← hh1]; simp
 simp only [Zze w2, Nat.zero_add, List.getElem?_cons_succ, List.getElem?_cons_zero, Zaf]
 refine Zdh.L3ind _ _ _ _ _ _ _ _ (J := fun (g : Nat) a4 n4 c4 e4 x12 h' => x12 = (g : Int) ∧ g ≤ n1 ∧ Zba h.length h h' ∧ h'[h0.length]? = some (.cells Zad [.str nd.1, .str nd.2] false) ∧ n4 = (ixs (Zll nd) (w.is.take g)).length ∧ Vec Zjb h' a4 n4 c4 (Zdl eI (ixs (Zll nd) (w.is.take g))) ∧ (∀ i, a4 = some (i, 0) → h1.length ≤ i)) (fun g => n1 - g) ?_ 0 _ _ _ _ _ _
  ⟨rfl, by omega, S2, i2, rfl, Vec.mk1 (by simpa [ixs] using o2), fun i hi => by cases hi; omega⟩
 rintro g a4 n4 c4 e4 x12 h' ⟨rfl, hg, hS, hi0, rfl, hv, ha⟩ R hR
 have hlt1 := Own.lt i1
 unfold Zdh.L3t
 refine Zap (fun hlt => ?_) (fun hge => ?_)
 ·have hgl : g < w.is.length := by omega
  obtain ⟨i, o, a2, n2, c2, e2, rfl, _, hr, _, _, hrow, hn⟩ := Yfa (r.same hS) hgl
  simp only [Zaw, Int.toNat_natCast, hr, Zas, Zah, Zar, Zag, Zaf, Zav]
  rw [Ymc]
  have hil := Zyw (Zll nd) (w.is.take g)
  rw [List.length_take] at hil
  have htk := Yez (Zll nd) hgl
  have hb := b.is _ (List.getElem_mem hgl)
  generalize hq : h' ++ [Zci.cells Zai [.str w.is[g].1.1, .str w.is[g].1.2, .slice a2 n2 c2 e2] false] = hq'
  have sq : Zba h'.length h' hq' := by rw [← hq]; exact Zan
  have oq : hq'[h'.length]? = some (.cells Zai [.str w.is[g].1.1, .str w.is[g].1.2, .slice a2 n2 c2 e2] false) := by rw [← hq]; simp
  have iq := sq.get hi0 (Own.lt hi0)
  simp only [Zay, Zat oq, Zat iq, Nat.zero_add, List.getElem?_cons_succ, List.getElem?_cons_zero, Zag]
  have skip : ∀ hz, Zba hq'.length hq' hz → Zll nd w.is[g] = false → Zdh.J7 (Ypp w nd h) R (g : Int) (((n1 : Nat) : Int)) (some (i, o)) n1 c1 e1 h0.length 0 a4 (ixs (Zll nd) (w.is.take g)).length c4 e4 hz := by
   intro hz sz hno
   apply Zdh.J7i
   rw [hno] at htk
   simp only [Bool.false_eq_true, if_false, List.append_nil] at htk
   rw [Zbr (by omega)]
   exact hR (g + 1) _ _ _ _ _ _ (by omega) ⟨rfl, by omega, (hS.cat sq).cat sz, sz.get iq (Own.lt iq), by rw [htk], by rw [htk]; exact (hv.same sq).same sz, ha⟩
  refine ⟨by omega, Zap (fun hc => ?_) (fun hc => skip _ (Zba.refl _ _) (by unfold Zll; simp [hc]))⟩
  refine (Zxe _ _ hb.2.1 hnt _).mono ?_
  rintro v h3 ⟨rfl, s3⟩
  simp only [Zam]
  refine Zdg (fun hi => ?_) (fun hi => skip _ s3 (by unfold Zll; simp [hi]))
  have hyes : Zll nd w.is[g] = true := by unfold Zll; simp [hc, hi]
  rw [hyes, if_pos rfl] at htk
  have S3 := (hS.cat sq).cat s3
  have i3 := s3.get iq (Own.lt iq)
  refine ((hv.same sq).same s3).push Ylq Yrr Ysd Ysa (by rw [Zbf Zye]; omega) rfl (by omega) (fun h6 hl6 hi6 hk6 => ?_)
  simp only [Zaf]
  apply Zdh.J7i
  rw [Zbr (by omega)]
  have hle := S3.le
  have hle3 := Own.lt i3
  refine hR (g + 1) _ _ _ _ _ _ (by omega) ⟨rfl, by omega, ⟨by omega, fun j hj => ?_⟩, ?_, by rw [htk]; simp, Vec.mk1 ?_, fun i hi => by cases hi; have := s3.le; have := sq.le; have := Own.lt hi0; omega⟩
  ·rw [hk6 j (by omega) fun i hi => by have := ha i hi; omega]; exact S3.eq j hj
  ·rw [hk6 _ hle3 fun i hi => by have := ha i hi; omega]; exact i3
  ·rw [hi6, htk, Zeg]; rfl
 ·apply Zdh.A3x0i
  have : g = n1 := by omega
  subst this
  rw [List.take_of_length_le (by omega)] at hv ⊢
  exact ⟨hS, _, _, _, _, rfl, hv.fresh (b := h.length) rfl fun i hi => by have := ha i hi; omega⟩
end Go.Sim

set_option linter.unusedVariables false
set_option linter.unusedSimpArgs false
set_option maxRecDepth 20000
namespace Go.Sim
open Go Go.RowKit

def Ydr (w : Wd) (x : Int) : Ins := w.is.getD x.toNat (([], []), [])
theorem Ygf {w : Wd} {k : Nat} (h : k < w.is.length) : Ydr w (k : Int) = w.is[k] := by unfold Ydr; rw [Int.toNat_natCast, Zez h]
noncomputable def Ytw (w : Wd) (l : List Int) (x : Int) : Bool := l.all fun k => Ytr (Ydr w x) (Ydr w k)
noncomputable def Yua (w : Wd) (l : List Int) : Int := match l.find? (Ytw w l) with | some x => x | none => -1
def InW (w : Wd) (l : List Int) : Prop := ∀ x ∈ l, ∃ k : Nat, x = k ∧ k < w.is.length
theorem Ygd (w : Wd) (n : Nd) : InW w (Zja w n) := fun x hx => by obtain ⟨k, hk, e, _⟩ := Yqn hx; exact ⟨k, e, hk⟩
theorem Row.i64 {b : Nat} {h : Zaa} {a : Pt} {n : Nat} {l : List Int} (r : Row b h a n (Zdl eI l)) {k : Nat} (hk : k < n) : ∃ i o, ∃ hk' : k < l.length, a = some (i, o) ∧ i < b ∧ Zal h (.ptr (some (i, o + k * 1))) = some (.int .i64 l[k]) := by
 obtain ⟨i, o, hk', ha, hi, hc⟩ := Row.el1 Zye r hk
 exact ⟨i, o, hk', ha, hi, hc⟩
end Go.Sim

set_option linter.unusedSimpArgs false
set_option linter.unusedVariables false
namespace Go.Sim

theorem Yin {l : List Nd} {t u : List Nat} (h : Zer l t = some u) : Znr u = true := by
 unfold Zer at h
 split at h
 ·rename_i hc
  cases h
  simp only [Bool.and_eq_true, decide_eq_true_eq] at hc
  obtain ⟨a, ha⟩ := Zsf hc.1.2
  obtain ⟨h1, h2, h3⟩ := Zfc.1 ha
  have := Znd hc.1.1 h1
  rw [← h2] at this
  exact Zrz.2 ⟨_, this.2, this.1, hc.2⟩
 ·cases h
theorem Yie {i : Ins} {t : List Nat} {ms : List Nd} (h : Zgj i t = some ms) : ms.length = i.2.length ∧ ∀ m ∈ ms, Znr m.2 = true ∧ ∃ n ∈ i.2, m.1 = n.1 := by
 unfold Zgj at h
 split at h
 ·cases h
 ·rename_i b hb
  split at h
  ·rename_i hall
   cases h
   refine ⟨by simp, fun m hm => ?_⟩
   obtain ⟨n, hn, rfl⟩ := List.mem_map.1 hm
   have := List.all_eq_true.1 hall n hn
   obtain ⟨u, hu⟩ := Option.isSome_iff_exists.1 this
   have h2 := Yin hu
   unfold Zer at hu
   split at hu
   ·cases hu; exact ⟨h2, n, hn, rfl⟩
   ·cases hu
  ·cases h
theorem Ylb {w : Wd} (hw : Zdy w = true) {i : Ins} (hi : i ∈ w.is) {t : List Nat} {ms : List Nd} (h : Zgj i t = some ms) : ms.length ≤ 3 ∧ ∀ m ∈ ms, Zdk w m = true := by
 obtain ⟨h1, h2⟩ := Yie h
 unfold Zdy at hw
 simp only [Bool.and_eq_true, List.all_eq_true] at hw
 have h3 := hw.2 i hi
 unfold Zlw at h3
 simp only [Bool.and_eq_true, List.all_eq_true, decide_eq_true_eq] at h3
 refine ⟨by omega, fun m hm => ?_⟩
 obtain ⟨h4, n, hn, he⟩ := h2 m hm
 have h5 := h3.2 n hn
 unfold Zih at h5
 simp only [Bool.and_eq_true] at h5
 unfold Zdk
 rw [h4, he, h5.1.1.1]; rfl
end Go.Sim

set_option linter.unusedVariables false
set_option linter.unusedSimpArgs false
set_option maxRecDepth 20000
namespace Go.Sim
open Go Go.RowKit

noncomputable def Ymh (l : List Nd) : Bd := l.map fun p => (p.1.headD 0, (Zif p.2).getD default)
theorem Zzc {l : List Nd} (h : Zgl l = true) {p : Nd} (hp : p ∈ l) : ∃ v t, p.1 = [v] ∧ Zdd v = true ∧ Zif p.2 = some t := by
 obtain ⟨h1, h2⟩ := Zpw h hp
 obtain ⟨t, ht⟩ := Zsf h2
 match hq : p.1 with
 | [] => rw [hq] at h1; cases h1
 | [v] => rw [hq] at h1; exact ⟨v, t, rfl, h1, ht⟩
 | _ :: _ :: _ => rw [hq] at h1; cases h1
theorem Zzy : ∀ {l : List Nd}, (∀ p ∈ l, ∃ v t, p.1 = [v] ∧ Zdd v = true ∧ Zif p.2 = some t) → ∀ c, Zgt (Ymh l) c = Zpi l c
 | [], _, c => rfl
 | p :: l, h, c => by
  obtain ⟨v, t, h1, h2, h3⟩ := h p (by simp)
  have ih := Zzy (l := l) (fun q hq => h q (by simp [hq])) c
  unfold Ymh Zpi at ih ⊢
  simp only [List.map_cons, Zgt, h1, List.headD_cons, h3, Option.getD_some, List.find?_cons]
  by_cases e : v = c
  ·subst e; simp [h3]
  ·have : ¬ ([v] : List Nat) = [c] := fun x => e (by simpa using x)
   simp only [e, if_false, this, decide_false]
   exact ih
theorem Ykl {l : List Nd} (h : Zgl l = true) : ∀ (g : Nat) (hg : g < l.length) (k : Nat) (hk : k < g), (l[k]'(by omega)).1.headD 0 < l[g].1.headD 0
 | 0, _, k, hk => by omega
 | g + 1, hg, k, hk => by
  have h1 := (Zvc h hg).2.2
  rcases h1 with h1 | h1
  ·omega
  ·rw [Nat.add_sub_cancel, Zez (by omega)] at h1
   obtain ⟨v, t, hv, _⟩ := Zzc h (List.getElem_mem (h := hg))
   obtain ⟨u, t', hu, _⟩ := Zzc h (List.getElem_mem (l := l) (n := g) (h := by omega))
   rw [hv, hu, Zux] at h1
   have h2 : u < v := of_decide_eq_true h1
   by_cases e : k = g
   ·subst e; rw [hv, hu]; exact h2
   ·have := Ykl h g (by omega) k (by omega)
    rw [hu] at this; rw [hv]
    simp only [List.headD_cons] at this ⊢; omega
theorem Yhp {l : List Nd} (h : Zgl l = true) {g v : Nat} (hg : g < l.length) (hv : l[g].1 = [v]) : Zgt (Ymh (l.take g)) v = none := by
 rw [Zrx]
 intro hm
 unfold Ymh at hm
 rw [List.map_map] at hm
 obtain ⟨p, hp, he⟩ := List.mem_map.1 hm
 obtain ⟨k, hk, rfl⟩ := List.getElem_of_mem hp
 simp only [List.length_take] at hk
 have := Ykl h g hg k (by omega)
 rw [hv] at this
 simp only [Function.comp_def, List.getElem_take, List.headD_cons] at he this
 omega
theorem Zrl.mono {S S' : Nat → Prop} {h : Zaa} {i : Nat} {m : Bd} (r : Zrl S h i m) (hs : ∀ j, S j → S' j) : Zrl S' h i m := by
 obtain ⟨rows, h1, h2, h3⟩ := r
 refine ⟨rows, h1, h2, fun k x hx => ?_⟩
 have := h3 k x hx
 split at this
 ·exact this.mono hs
 ·exact this
theorem Zrl.below {S : Nat → Prop} {h : Zaa} {i : Nat} {m : Bd} (r : Zrl S h i m) : Zrl (fun j => S j ∧ j < h.length) h i m := by
 obtain ⟨rows, h1, h2, h3⟩ := r
 refine ⟨rows, h1, h2, fun k x hx => ?_⟩
 have := h3 k x hx
 split at this
 ·exact Zgv.below this
 ·exact this
theorem Zto {h : Zaa} {a : Pt} {n c : Nat} {e : Bool} {l : List Nd} {t : List Nat} (r : Row h.length h a (n * 2) (Zdl eP l)) (hn : n ≤ 1048576) (hb : ∀ p ∈ l, p.2.length ≤ 1048576) (hb1 : ∀ p ∈ l, ∀ x ∈ p.1, x < 256) (ht : t.length ≤ 1048576) :
  Zae pg Zhe [.slice a n c e, .str t] h fun v h' => v = Zlj l t ∧ Zba h.length h h' := by
 have hl : l.length = n := by have := r.1; rw [Zbf Zet] at this; omega
 apply Zee.call
 refine (Zoy t (by omega) h).mono ?_
 rintro v h1 ⟨s1, vs1, rfl, r1⟩
 obtain ⟨d1, a1, n1, c1, e1, rfl⟩ := Zpx r1
 simp only [Zcx, Zah, Zdq, Zau, Zaf, Zar, Zam, Zav]
 rw [Zgr]
 generalize hh2 : h1 ++ [Zci.cells Zac [.int .u8 d1, .slice a1 n1 c1 e1] false] = h2
 have s2 : Zba h1.length h1 h2 := by rw [← hh2]; exact Zan
 have o2 : h2[h1.length]? = some (.cells Zac [.int .u8 d1, .slice a1 n1 c1 e1] false) := by rw [← hh2]; simp
 have S2 := s1.cat s2
 simp only [Zay]
 cases hto : Znr t with
 | false =>
  simp only [Bool.not_false, Zcf]
  exact ⟨by unfold Zlj Zer; rw [hto]; simp, S2⟩
 | true =>
 simp only [Bool.not_true, Zbh]
 obtain ⟨u, hu⟩ := Zsf hto
 obtain ⟨hu1, hu2, hu3⟩ := Zfc.1 hu
 rw [hu] at r1
 simp only at r1
 refine (Ztf (r.same' S2) hn hb hb1).mono ?_
 rintro v h3 ⟨rfl, s3⟩
 simp only [Zam]
 have S3 := S2.cat s3
 refine Zcc (fun b1 => ⟨by unfold Zlj Zer; rw [b1]; rfl, S3⟩) (fun b1 => ?_)
 apply Zee.J4i
 simp only [Zav]
 rw [← Ykk]
 generalize hh4 : h3 ++ [Zci.cells Zew (Zdl eR (List.replicate 12 (Zaq.int .u8 0, Zaq.slice none 0 0 true))) false] = h4
 have s4 : Zba h3.length h3 h4 := by rw [← hh4]; exact Zan
 have o4 : h4[h3.length]? = some (.cells Zew (Zdl eR (List.replicate 12 (Zaq.int .u8 0, Zaq.slice none 0 0 true))) false) := by rw [← hh4]; simp
 have l4 : h4.length = h3.length + 1 := by rw [← hh4]; simp
 have hone : ∀ p ∈ l, ∃ v t, p.1 = [v] ∧ Zdd v = true ∧ Zif p.2 = some t := fun p hp => Zzc b1 hp
 have o3 := s3.get o2 (Own.lt o2)
 refine Zee.L6ind _ _ _ _ _ _ _ _ _ _ (J := fun (g : Nat) x28 h' => x28 = (g : Int) ∧ g ≤ n ∧ Zba h3.length h3 h' ∧ h4.length ≤ h'.length ∧ Zrl (fun j => j ≠ h3.length) h' h3.length (Ymh (l.take g))) (fun g => n - g) ?_ 0 _ _ ⟨rfl, by omega, s4, Nat.le_refl _, Zrl.nil o4⟩
 rintro g x28 h' ⟨rfl, hg, hS, hl4, rm⟩ R hR
 have SS := S3.cat hS
 unfold Zee.L6t
 refine Zap (fun hlt => ?_) (fun hge => ?_)
 ·obtain ⟨i, o, hgl, rfl, hi, hr, _, _⟩ := (r.same SS).pr (k := g) (by omega)
  obtain ⟨v, tt, hv1, hv2, hv3⟩ := hone _ (List.getElem_mem hgl)
  obtain ⟨ht1, ht2, ht3⟩ := Zfc.1 hv3
  simp only [Zaw, Int.toNat_natCast, hr, Zas, Zah, Zar, Zag, Zav]
  rw [Zgr]
  generalize hq : h' ++ [Zci.cells Zbe [.str l[g].1, .str l[g].2] false] = hq'
  have sq : Zba h'.length h' hq' := by rw [← hq]; exact Zan
  have oq : hq'[h'.length]? = some (.cells Zbe [.str l[g].1, .str l[g].2] false) := by rw [← hq]; simp
  have hlq := sq.le
  rw [hv1] at oq
  simp only [Zay, Zat oq, Nat.zero_add, List.getElem?_cons_succ, List.getElem?_cons_zero, Zag]
  refine ⟨by omega, by simp, ?_⟩
  simp only [Int.toNat_zero, List.getD_cons_zero]
  refine (Zth v).mono ?_
  rintro v' h5 ⟨rfl, rfl⟩
  obtain ⟨k, hk6, hkv, hix⟩ := Zvo hv2
  simp only [hix, Zau, Zat oq, List.getElem?_cons_succ, List.getElem?_cons_zero, true_and]
  refine (Zoy l[g].2 (by omega) h5).mono ?_
  rintro v' h6 ⟨s6, vs6, rfl, r6⟩
  obtain ⟨d6, a6, n6, c6, e6, rfl⟩ := Zpx r6
  rw [hv3] at r6
  simp only at r6
  have hl6 := s6.le
  have ho6 : Zal h6 (.ptr (some (h'.length, 0))) = Zal h5 (.ptr (some (h'.length, 0))) := by simp only [Zal, s6.eq _ (Own.lt oq)]
  simp only [Zcx, Zah, Zdq, Zau, Zaf, Zar, Zam, ho6, true_and]
  have rm6 := (rm.same sq).same s6
  obtain ⟨h7, hst, hK, rm7⟩ := rm6.put (fun j hj => hj) hkv (Yhp b1 hgl hv1) (r6.mono fun j hj => by have := hj.1; omega)
  rw [Int.toNat_natCast, Nat.zero_add] at *
  rw [hst]
  simp only [Zay]
  rw [Zbr (by omega)]
  have hK7 := hK.le
  refine ⟨by rw [Zat oq]; rfl, ⟨by omega, by omega⟩, hR (g + 1) _ _ (by omega) ⟨rfl, by omega, ⟨by omega, fun j hj => ?_⟩, by omega, ?_⟩⟩
  ·rw [hK.eq j (by omega) (by omega), s6.eq j (by omega), sq.eq j (by omega), hS.eq j hj]
  ·have : Ymh (l.take (g + 1)) = Ymh (l.take g) ++ [(v, tt)] := by
    unfold Ymh
    rw [List.take_succ_eq_append_getElem hgl, List.map_append]
    simp [hv1, hv3]
   rw [this]; exact rm7
 ·apply Zee.A6x0i
  have : g = n := by omega
  subst this
  rw [List.take_of_length_le (by omega)] at rm
  have hS3 := S3.le
  have h31 : h1.length ≤ h3.length := (s2.cat s3).le
  have o5 := hS.get o3 (Own.lt o3)
  simp only [Zeb o5 (show 0 + 2 ≤ _ by simp), List.drop_zero, List.take_succ_cons, List.take_zero, Zas, Zah, Zar, Zau, Zaf]
  have hbm : ∀ c, Zgt (Ymh l) c = Zpi l c := Zzy hone
  have rt := (((r1.same s2).same s3).same hS).mono (S' := fun j => j ≠ h3.length) (fun j hj => by have := hj.2; omega)
  refine (Yfw _ (Nat.le_refl _) hu1 (S := fun j => j ≠ h3.length ∧ j < h'.length) (fun j hj => ⟨hj.2, hj.1⟩) rt.below rm.below (fun v w hw => ?_) (fun v hv => ?_)).mono ?_
  ·rw [hbm] at hw; exact ((Ztj b1 v).2 w hw).1
  ·rw [hbm]; exact (Zsc b1 hv).2
  rintro v h6 ⟨s6, nv, rfl, hn6⟩
  rw [show Zgt (Ymh l) = Zpi l from funext hbm] at hn6
  obtain ⟨na, nc, ne, rfl⟩ := hn6.shape
  have hat := Znd b1 hu1
  rw [← hu2] at hat
  have hal := Zsv b1 t
  simp only [Zdq, Zah, Zau, Zaf, Zar, Zav]
  rw [Zgr]
  generalize hh7 : h6 ++ [Zci.cells Zac [.int .u8 ((subst (Zpi l) u).hd : Int), .slice na (subst (Zpi l) u).ps.length nc ne] false] = h7
  have s7 : Zba h6.length h6 h7 := by rw [← hh7]; exact Zan
  have o7 : h7[h6.length]? = some (.cells Zac [.int .u8 ((subst (Zpi l) u).hd : Int), .slice na (subst (Zpi l) u).ps.length nc ne] false) := by rw [← hh7]; simp
  have S7 := (SS.cat s6).cat s7
  simp only [Zay, Zeb o7 (show 0 + 2 ≤ _ by simp), List.drop_zero, List.take_succ_cons, List.take_zero, Zas, Zah, Zar, Zau, Zaf]
  refine (Zri _ (Nat.le_refl _) (by rw [← hat.1]; omega) (hn6.same s7)).mono ?_
  rintro v h8 ⟨rfl, s8⟩
  have o8 := s8.get o7 (Own.lt o7)
  simp only [Zau]
  rw [← hat.1]
  refine Zap (fun hbig => ⟨by unfold Zlj Zer; rw [if_neg (by simp; omega)], S7.cat s8⟩) (fun hsm => ?_)
  simp only [Zeb o8 (show 0 + 2 ≤ _ by simp), List.drop_zero, List.take_succ_cons, List.take_zero, Zas, Zah, Zar, Zau, Zaf]
  refine (Zpj _ (Nat.le_refl _) (by rw [← hat.1]; omega) hat.2 ((hn6.same s7).same s8)).mono ?_
  rintro v h9 ⟨rfl, s9⟩
  simp only [Zag]
  refine ⟨?_, (S7.cat s8).cat s9⟩
  unfold Zlj Zer
  rw [if_pos (by rw [b1, hto]; simp; omega), hat.1]
theorem Zza (p s : List Nat) : (∀ q ∈ Zit p s, q.2.length ≤ 1048576) ∧ (∀ q ∈ Zit p s, ∀ x ∈ q.1, x < 256) ∧ (Zit p s).length ≤ 6 := by
 unfold Zit
 cases hm : Zio p s with
 | none => simp
 | some m =>
  have b := Zvs hm
  refine ⟨fun q hq => ?_, fun q hq x hx => ?_, Yjr m⟩
  ·have hq' := Zpw (Yii b) hq
   have := Zzk hq'.2; omega
  ·simp only [Yfn, List.mem_map, List.mem_filter] at hq
   obtain ⟨v, ⟨hv, _⟩, rfl⟩ := hq
   simp at hx; subst hx
   have := (Zpd x).1 hv
   simp only [Zdd, Bool.or_eq_true, beq_iff_eq] at this; omega
theorem Yke {h : Zaa} {a : Pt} {n c : Nat} {e : Bool} {i : Ins} {t : List Nat} (r : Row h.length h a (n * 2) (Zdl eP i.2)) (hn : n ≤ 1048576) (hi : i.1.2.length ≤ 1048576) (ht : t.length ≤ 1048576) (hns : ∀ p ∈ i.2, p.2.length ≤ 1048576) :
  Zae pg Zmr [.agg [.str i.1.1, .str i.1.2, .slice a n c e], .str t] h (Yji i t h) := by
 have hl : i.2.length = n := by have := r.1; rw [Zbf Zet] at this; omega
 apply Zhn.call
 simp only [Zav]
 generalize hh0 : h ++ [Zci.cells Zai [.str i.1.1, .str i.1.2, .slice a n c e] false] = h0
 generalize hh1 : h0 ++ [Zci.cells Zad [] false] = h1
 have s0 : Zba h.length h h0 := by rw [← hh0]; exact Zan
 have s1 : Zba h0.length h0 h1 := by rw [← hh1]; exact Zan
 have o0 : h0[h.length]? = some (.cells Zai [.str i.1.1, .str i.1.2, .slice a n c e] false) := by rw [← hh0]; simp
 have x1 := s1.get o0 (Own.lt o0)
 have o1 : h1[h0.length]? = some (.cells Zad [] false) := by rw [← hh1]; simp
 have l0 : h0.length = h.length + 1 := by rw [← hh0]; simp
 simp only [Zat x1, Nat.zero_add, List.getElem?_cons_succ, List.getElem?_cons_zero, Zag]
 refine (Zsd i.1.2 t hi ht h1).mono ?_
 rintro v h2 ⟨s2, ma, mn, mc, me, rfl, hmc, fm⟩
 simp only [Zcx, Zah, Zaf, Zam, Zar]
 have S2 := (s0.cat s1).cat s2
 have o2 := s2.get o1 (Own.lt o1)
 have x2 := s2.get x1 (Own.lt x1)
 obtain ⟨hmb1, hmb2, hml⟩ := Zza i.1.2 t
 have hmn := fm.1
 have hS1le : h.length ≤ h1.length := (s0.cat s1).le
 have hnw0 : Zow i.1.2 t = false → Zgj i t = none := fun hno => by
  unfold Zgj Zow at *
  cases hm : Zio i.1.2 t with
  | none => rfl
  | some m => rw [hm] at hno; cases hno
 refine Zcc (fun b1 => ⟨S2, _, 0, 0, true, by rw [hnw0 b1]; rfl, by rw [hnw0 b1]; exact ⟨rfl, .inl rfl⟩⟩) (fun b1 => ?_)
 simp only [Zat x2, List.getElem?_cons_succ, List.getElem?_cons_zero, Zaf]
 have hnw : Zgj i t = if i.2.all (fun p => (Zer (Zit i.1.2 t) p.2).isSome) then some (i.2.map (Ypa (Zit i.1.2 t))) else none := by
  unfold Zgj Zow at *
  cases hm : Zio i.1.2 t with
  | none => rw [hm] at b1; cases b1
  | some m =>
   have hml' : Zit i.1.2 t = bdL m := by unfold Zit; rw [hm]
   simp only [hml']
   by_cases hall : i.2.all (fun p => (Zer (bdL m) p.2).isSome) = true
   ·rw [if_pos hall, if_pos hall, Yfd hall]
   ·rw [if_neg hall, if_neg hall]
 generalize Zit i.1.2 t = ml at *
 refine Zhn.L6ind _ _ _ _ _ _ _ _ _ _ (J := fun (g : Nat) a8 n8 c8 e8 x28 h' => x28 = (g : Int) ∧ g ≤ n ∧ Zba h.length h h' ∧ h2.length ≤ h'.length ∧ Row h'.length h' ma (mn * 2) (Zdl eP ml) ∧ (i.2.take g).all (fun p => (Zer ml p.2).isSome) = true ∧ n8 = g ∧ Vec Zad h' a8 n8 c8 (Zdl eP ((i.2.take g).map (Ypa ml))) ∧ (∀ j, a8 = some (j, 0) → j = h0.length ∨ h2.length ≤ j)) (fun g => n - g) ?_ 0 _ _ _ _ _ _
  ⟨rfl, by omega, S2, Nat.le_refl _, fm.row Zet, rfl, rfl, Vec.mk1 (by simpa using o2), fun j hj => by cases hj; exact .inl rfl⟩
 rintro g a8 n8 c8 e8 x28 h' ⟨rfl, hg, hS, hl1, hrm, hall, rfl, hv, ha⟩ R hR
 unfold Zhn.L6t
 have hl2 : h1.length ≤ h2.length := s2.le
 refine Zap (fun hlt => ?_) (fun hge => ?_)
 ·obtain ⟨j, o, hgl, rfl, hj, hr, _, _⟩ := (r.same hS).pr (k := n8) (by omega)
  simp only [Zaw, Int.toNat_natCast, hr, Zas, Zah, Zar, Zag, Zav]
  rw [Zgr]
  generalize hq : h' ++ [Zci.cells Zad [.str i.2[n8].1, .str i.2[n8].2] false] = hq'
  have sq : Zba h'.length h' hq' := by rw [← hq]; exact Zan
  have oq : hq'[h'.length]? = some (.cells Zad [.str i.2[n8].1, .str i.2[n8].2] false) := by rw [← hq]; simp
  simp only [Zay, Zat oq, Nat.zero_add, List.getElem?_cons_succ, List.getElem?_cons_zero, Zag]
  refine ⟨by omega, (Zto (hrm.same' sq) (by omega) hmb1 hmb2 (hns _ (List.getElem_mem hgl))).mono ?_⟩
  rintro v h3 ⟨rfl, s3⟩
  have hshape : Zlj ml i.2[n8].2 = .tup [.str ((Zer ml i.2[n8].2).getD []), .bool (Zer ml i.2[n8].2).isSome] := by
   unfold Zlj; cases Zer ml i.2[n8].2 <;> rfl
  rw [hshape]
  simp only [Zcx, Zah, Zag, Zam, Zar]
  have S3 := (hS.cat sq).cat s3
  have o3 := s3.get oq (Own.lt oq)
  refine Zcc (fun b2 => ?_) (fun b2 => ?_)
  ·have : Zgj i t = none := by rw [hnw, Zrc hgl b2]; rfl
   exact ⟨S3.cat Zan, _, 0, 0, true, by rw [this]; rfl, by rw [this]; exact ⟨rfl, .inl rfl⟩⟩
  ·simp only [Zat o3, List.getElem?_cons_zero, Zag]
   refine ((hv.same sq).same s3).pushN Yat Ymg Ykd Ylc (by rw [Zbf Zet]; simp; omega) rfl (by omega) rfl (by omega) (fun h6 hl6 hi6 hk6 => ?_)
   simp only [Zaf]
   rw [Zbr (by omega)]
   have hle := S3.le
   have hlq := sq.le
   have hl3 := s3.le
   have hb8 : ∀ j, a8 = some (j, 0) → h.length ≤ j := fun j hj => by rcases ha j hj with hh | hh <;> omega
   have hlast : ∀ j, (some (h3.length + 1, 0) : Pt) = some (j, 0) → j = h0.length ∨ h2.length ≤ j := fun j hj => by
    cases hj
    exact .inr (by omega)
   refine hR (n8 + 1) _ _ _ _ _ _ (by omega) ⟨rfl, by omega, ⟨by omega, fun j hj => ?_⟩, by omega, ?_, Zfw hgl hall b2, rfl, Vec.mk1 ?_, hlast⟩
   ·rw [hk6 j (by omega) fun q hq => by have := hb8 q hq; omega]; exact S3.eq j hj
   ·have hr3 := (hrm.same' sq).same' s3
    obtain ⟨hx1, hx2⟩ := hr3
    rcases fm.2 with h0' | ⟨q2, hq2, hqb2, hq3⟩
    ·exact ⟨hx1, .inl (by omega)⟩
    ·refine ⟨hx1, hx2.imp id ?_⟩
     rintro ⟨q, o', ty, all, ro, hqa, hqb, hqg, hq4, hq5⟩
     refine ⟨q, o', ty, all, ro, hqa, by omega, ?_, hq4, hq5⟩
     rw [hk6 q hqb fun q' hq' => ?_]
     ·exact hqg
     ·intro e
      subst e
      rw [hqa] at hq2; cases hq2
      have := Own.lt hq3
      rcases ha _ hq' with hh | hh
      ·have := Own.lt o1; omega
      ·omega
   ·rw [hi6, List.take_succ_eq_append_getElem hgl, List.map_append, Zeg]; rfl
 ·apply Zhn.A6x0i
  have : n8 = n := by omega
  subst this
  rw [show i.2.take n8 = i.2 from List.take_of_length_le (by omega)] at hv hall
  have : Zgj i t = some (i.2.map (Ypa ml)) := by rw [hnw, hall]; rfl
  refine ⟨hS, a8, n8, c8, e8, by rw [this]; rfl, ?_⟩
  rw [this]
  exact hv.fresh (b := h.length) (by simp; omega) fun j hj => by rcases ha j hj with hh | hh <;> omega
end Go.Sim

set_option linter.unusedVariables false
set_option linter.unusedSimpArgs false
set_option maxRecDepth 20000
namespace Go.Sim
open Go Go.RowKit

end Go.Sim

set_option linter.unusedSimpArgs false
set_option linter.unusedVariables false
namespace Go.Sim

def Up (cs : List Nd) (a b : Nat) : Prop := ∃ i, ∃ h : i < cs.length, cs[i].1 = [a] ∧ b ∈ cs[i].2
inductive Rch (cs : List Nd) (a : Nat) : Nat → Prop
 | one {b : Nat} : Up cs a b → Rch cs a b
 | more {b c : Nat} : Rch cs a b → Up cs b c → Rch cs a c
theorem Zzb {cs : List Nd} (h : Zig cs = true) {i : Nat} (hi : i < cs.length) : Zwj cs i = true := by
 unfold Zig at h
 simp only [Bool.and_eq_true, List.all_eq_true] at h
 exact h.1 i (List.mem_range.2 hi)
theorem Yop {cs : List Nd} (h : Zig cs = true) {i : Nat} (hi : i < cs.length) : ∃ d, cs[i].1 = [d] ∧ 65 ≤ d ∧ d ≤ 84 := by
 have := Zzb h hi
 unfold Zwj at this
 rw [Zez hi] at this
 simp only [Bool.and_eq_true] at this
 have h1 := this.1.1
 unfold Zta at h1
 split at h1
 ·rename_i d hd; exact ⟨d, hd, by simpa using h1⟩
 ·cases h1
theorem Yav {cs : List Nd} (h : Zig cs = true) {i : Nat} (hi : i + 1 < cs.length) {a b : Nat} (ha : cs[i].1 = [a]) (hb : cs[i + 1].1 = [b]) : a < b := by
 have := Zzb h hi
 unfold Zwj at this
 rw [Zez hi, Nat.add_sub_cancel, Zez (by omega), ha, hb] at this
 simp only [Bool.and_eq_true] at this
 have h1 := this.1.2
 simpa [Zdu] using h1
theorem Zyp {cs : List Nd} (h : Zig cs = true) : ∀ (k i : Nat) (hi : i + k + 1 < cs.length) {a b : Nat}, cs[i].1 = [a] → cs[i + k + 1].1 = [b] → a < b
 | 0, i, hi, a, b, ha, hb => Yav h hi ha hb
 | k + 1, i, hi, a, b, ha, hb => by
  obtain ⟨d, hd, _⟩ := Yop h (show i + k + 1 < cs.length by omega)
  have h1 := Zyp h k i (by omega) ha hd
  have h2 := Yav h (i := i + k + 1) (by omega) hd hb
  omega
theorem Ydu {cs : List Nd} (h : Zig cs = true) {i j : Nat} (hi : i < cs.length) (hj : j < cs.length) {a : Nat} (ha : cs[i].1 = [a]) (hb : cs[j].1 = [a]) : i = j := by
 rcases Nat.lt_trichotomy i j with hl | he | hl
 ·obtain ⟨k, rfl⟩ : ∃ k, j = i + k + 1 := ⟨j - i - 1, by omega⟩
  have := Zyp h k i hj ha hb; omega
 ·exact he
 ·obtain ⟨k, rfl⟩ : ∃ k, i = j + k + 1 := ⟨i - j - 1, by omega⟩
  have := Zyp h k j hi hb ha; omega
theorem Zrk {cs : List Nd} (h : Zig cs = true) {i : Nat} (hi : i < cs.length) {b : Nat} (hb : b ∈ cs[i].2) : ∃ j, ∃ hj : j < i, cs[j].1 = [b] := by
 have := Zzb h hi
 unfold Zwj at this
 rw [Zez hi] at this
 simp only [Bool.and_eq_true] at this
 have h1 := this.2
 unfold Ycq at h1
 rw [List.all_eq_true] at h1
 obtain ⟨k, hk, rfl⟩ := List.mem_iff_getElem.1 hb
 have h2 := h1 k (List.mem_range.2 hk)
 unfold Zxg at h2
 rw [Zez hk] at h2
 simp only [Bool.and_eq_true] at h2
 have h3 := h2.1
 unfold Zfo at h3
 rw [List.any_eq_true] at h3
 obtain ⟨x, hx, he⟩ := h3
 obtain ⟨j, hj, rfl⟩ := List.mem_iff_getElem.1 hx
 rw [List.length_take] at hj
 exact ⟨j, by omega, by simpa using he⟩
theorem Up.ix {cs : List Nd} (h : Zig cs = true) {a b i : Nat} (u : Up cs a b) (hi : i < cs.length) (ha : cs[i].1 = [a]) : b ∈ cs[i].2 := by
 obtain ⟨j, hj, hja, hb⟩ := u
 have := Ydu h hi hj ha hja
 subst this; exact hb
theorem Rch.ix {cs : List Nd} (h : Zig cs = true) {a b i : Nat} (r : Rch cs a b) (hi : i < cs.length) (ha : cs[i].1 = [a]) : ∃ j, ∃ hj : j < i, cs[j].1 = [b] := by
 induction r with
 | one u => exact Zrk h hi (u.ix h hi ha)
 | more _ u ih =>
  obtain ⟨j, hj, hb⟩ := ih
  obtain ⟨k, hk, hc⟩ := Zrk h (show j < cs.length by omega) (u.ix h (by omega) hb)
  exact ⟨k, by omega, hc⟩
structure Ybv (cs : List Nd) (a : Nat) (i : Nat) (ab : List Nat) : Prop where
 sound : ∀ d ∈ ab, Rch cs a d
 done : ∀ j, i ≤ j → ∀ hj : j < cs.length, (cs[j].1 = [a] ∨ ∃ d, cs[j].1 = [d] ∧ d ∈ ab) → ∀ b ∈ cs[j].2, b ∈ ab
theorem Ybv.step {cs : List Nd} (h : Zig cs = true) {a i : Nat} {ab : List Nat} (D : Ybv cs a (i + 1) ab) (hi : i < cs.length) (hc : cs[i].1 = [a] ∨ ∃ d, cs[i].1 = [d] ∧ d ∈ ab) : Ybv cs a i (ab ++ cs[i].2) := by
 refine ⟨fun d hd => ?_, fun j hj hjl hcj b hb => ?_⟩
 ·rcases List.mem_append.1 hd with hd | hd
  ·exact D.sound d hd
  ·rcases hc with hc | ⟨e, he, hm⟩
   ·exact .one ⟨i, hi, hc, hd⟩
   ·exact .more (D.sound e hm) ⟨i, hi, he, hd⟩
 ·by_cases hji : j = i
  ·subst hji; exact List.mem_append_right _ hb
  ·refine List.mem_append_left _ (D.done j (by omega) hjl ?_ b hb)
   rcases hcj with hcj | ⟨e, he, hm⟩
   ·exact .inl hcj
   ·rcases List.mem_append.1 hm with hm | hm
    ·exact .inr ⟨e, he, hm⟩
    ·exfalso
     obtain ⟨k, hk, hke⟩ := Zrk h hi hm
     have := Ydu h hjl (show k < cs.length by omega) he hke
     omega
theorem Ybv.skip {cs : List Nd} {a i : Nat} {ab : List Nat} (D : Ybv cs a (i + 1) ab) (hc : ∀ hi : i < cs.length, ¬ (cs[i].1 = [a] ∨ ∃ d, cs[i].1 = [d] ∧ d ∈ ab)) : Ybv cs a i ab :=
 ⟨D.sound, fun j hj hjl hcj b hb => by
  by_cases hji : j = i
  ·subst hji; exact absurd hcj (hc hjl)
  ·exact D.done j (by omega) hjl hcj b hb⟩
theorem Ybv.all {cs : List Nd} (h : Zig cs = true) {a i : Nat} {ab : List Nat} (D : Ybv cs a 0 ab) (hi : i < cs.length) (ha : cs[i].1 = [a]) (d : Nat) : d ∈ ab ↔ Rch cs a d := by
 refine ⟨D.sound d, fun r => ?_⟩
 induction r with
 | one u => exact D.done i (by omega) hi (.inl ha) _ (u.ix h hi ha)
 | more r u ih =>
  obtain ⟨j, hj, hb⟩ := r.ix h hi ha
  exact D.done j (by omega) (by omega) (.inr ⟨_, hb, ih⟩) _ (u.ix h (by omega) hb)
structure Yrw (cs : List Nd) (a i : Nat) (r : Nat) (ab : List Nat) : Prop where
 sound : ∀ d ∈ ab, Rch cs a d
 first : ∀ d, Up cs a d → d ∈ ab
 near : ∀ j, j < i → i ≤ j + 1 + r → ∀ hj : j < cs.length, ∀ d, cs[j].1 = [d] → Rch cs a d → d ∈ ab
theorem Yrw.next {cs : List Nd} (h : Zig cs = true) {a i r : Nat} {ab ab' : List Nat} (R : Yrw cs a i r ab) (hi : i < cs.length) (ha : cs[i].1 = [a])
  (hs : ∀ d ∈ ab', d ∈ ab ∨ ∃ e ∈ ab, Up cs e d) (hc : ∀ d, (d ∈ ab ∨ ∃ e ∈ ab, Up cs e d) → d ∈ ab') : Yrw cs a i (r + 1) ab' := by
 refine ⟨fun d hd => ?_, fun d u => hc d (.inl (R.first d u)), fun j hj hn hjl d hd rc => ?_⟩
 ·rcases hs d hd with hd | ⟨e, he, u⟩
  ·exact R.sound d hd
  ·exact .more (R.sound e he) u
 ·cases rc with
  | one u => exact hc d (.inl (R.first d u))
  | more rc u =>
   rename_i e
   obtain ⟨k, hk, hb⟩ := rc.ix h hi ha
   have hjk : j < k := by
    obtain ⟨q, hq, hcq⟩ := Zrk h (show k < cs.length by omega) (u.ix h (by omega) hb)
    have := Ydu h hjl (show q < cs.length by omega) hd hcq
    omega
   exact hc d (.inr ⟨e, R.near k hk (by omega) (by omega) e hb rc, u⟩)
theorem Yrw.all {cs : List Nd} (h : Zig cs = true) {a i r : Nat} {ab : List Nat} (R : Yrw cs a i r ab) (hi : i < cs.length) (ha : cs[i].1 = [a]) (hr : i ≤ r + 1) (d : Nat) : d ∈ ab ↔ Rch cs a d := by
 refine ⟨R.sound d, fun rc => ?_⟩
 obtain ⟨j, hj, hd⟩ := rc.ix h hi ha
 exact R.near j hj (by omega) (by omega) d hd rc
end Go.Sim

set_option linter.unusedVariables false
set_option linter.unusedSimpArgs false
set_option maxRecDepth 20000
namespace Go.Sim
open Go Go.RowKit

end Go.Sim

set_option linter.unusedVariables false
set_option linter.unusedSimpArgs false
set_option maxRecDepth 20000
namespace Go.Sim
open Go Go.RowKit

end Go.Sim

set_option linter.unusedVariables false
set_option linter.unusedSimpArgs false
set_option maxRecDepth 20000
namespace Go.Sim
open Go Go.RowKit

structure Ypr (b : Nat) (h : Zaa) (a : Pt) (n c : Nat) (l : List Nd) : Prop where
 vec : Vec Zad h a n c (Zdl eP l)
 len : l.length = n
 low : ∀ i, a = some (i, 0) → b ≤ i
theorem Ypr.row {b : Nat} {h : Zaa} {a : Pt} {n c : Nat} {l : List Nd} (f : Ypr b h a n c l) : Row h.length h a (n * 2) (Zdl eP l) := f.vec.row (by rw [Zbf Zet, f.len])
theorem Ypr.same {b : Nat} {h h' : Zaa} {a : Pt} {n c : Nat} {l : List Nd} (f : Ypr b h a n c l) (s : Zba h.length h h') : Ypr b h' a n c l := ⟨f.vec.same s, f.len, f.low⟩
def But (a : Pt) (h h' : Zaa) : Prop := h.length ≤ h'.length ∧ ∀ j, j < h.length → (∀ i, a = some (i, 0) → j ≠ i) → h'[j]? = h[j]?
theorem But.of {a : Pt} {h h' : Zaa} (s : Zba h.length h h') : But a h h' := ⟨s.le, fun j hj _ => s.eq j hj⟩
theorem But.below {a : Pt} {b : Nat} {h h' : Zaa} (s : But a h h') (hb : b ≤ h.length) (hl : ∀ i, a = some (i, 0) → b ≤ i) : Zba b h h' := ⟨s.1, fun j hj => s.2 j (by omega) fun i hi => by have := hl i hi; omega⟩
end Go.Sim

set_option linter.unusedSimpArgs false
set_option linter.unusedVariables false
namespace Go.Sim

structure Wk where
 cand : Nd → List Int
 needs : Int → List Nat → Option (List Nd)
 most : List Int → Int
inductive Fnd where
 | ok (s : List Nat)
 | no (why : List Nat) (n : Nd)
def Zyx (i : Nat) : Nat := if i = 0 then 40 else 44
def Yrg : List Nat := [119, 114, 111, 110, 103]
end Go.Sim

set_option linter.unusedVariables false
set_option linter.unusedSimpArgs false
set_option maxRecDepth 20000
namespace Go.Sim
open Go Go.RowKit

noncomputable def wk (w : Wd) : Wk := ⟨Zja w, fun x t => Zgj (Ydr w x) t, Yua w⟩
structure FrS (i : Nat) (qa : Pt) (h h' : Zaa) (qa' : Pt) : Prop where
 le : h.length ≤ h'.length
 eq : ∀ j, j < h.length → j ≠ i → (∀ q, qa = some (q, 0) → j ≠ q) → h'[j]? = h[j]?
 pt : qa' = qa ∨ ∀ q, qa' = some (q, 0) → h.length ≤ q
theorem FrS.of_same {i : Nat} {qa : Pt} {h h' : Zaa} (s : Zba h.length h h') : FrS i qa h h' qa := ⟨s.le, fun j hj _ _ => s.eq j hj, .inl rfl⟩
theorem FrS.refl (i : Nat) (qa : Pt) (h : Zaa) : FrS i qa h h qa := .of_same (Zba.refl _ _)
theorem FrS.ne {i : Nat} {qa qa' : Pt} {h h' : Zaa} (f : FrS i qa h h' qa') {j : Nat} (hj : j < h.length) (hq : ∀ q, qa = some (q, 0) → j ≠ q) : ∀ q, qa' = some (q, 0) → j ≠ q := by
 intro q hq'
 rcases f.pt with e | e
 ·exact hq q (e ▸ hq')
 ·have := e q hq'; omega
theorem FrS.trans {i : Nat} {qa qa1 qa2 : Pt} {h h1 h2 : Zaa} (f : FrS i qa h h1 qa1) (g : FrS i qa1 h1 h2 qa2) : FrS i qa h h2 qa2 := by
 have := f.le; have := g.le
 refine ⟨by omega, fun j hj hi hq => ?_, ?_⟩
 ·rw [g.eq j (by omega) hi (f.ne hj hq)]; exact f.eq j hj hi hq
 ·rcases g.pt with e | e
  ·rcases f.pt with e' | e'
   ·exact .inl (e.trans e')
   ·exact .inr fun q hq => e' q (e ▸ hq)
  ·exact .inr fun q hq => by have := e q hq; omega
theorem FrS.set {i : Nat} {qa : Pt} {h : Zaa} {x : Zci} : FrS i qa h (h.set i x) qa := ⟨by simp, fun j _ hi _ => Zbz (fun e => hi e.symm), .inl rfl⟩
theorem FrS.get {i : Nat} {qa qa' : Pt} {h h' : Zaa} (f : FrS i qa h h' qa') {j : Nat} {x : Zci} (hj : h[j]? = some x) (hi : j ≠ i) (hq : ∀ q, qa = some (q, 0) → j ≠ q) : h'[j]? = some x := by rw [f.eq j (Own.lt hj) hi hq]; exact hj
theorem FrS.row {i : Nat} {qa qa' : Pt} {h h' : Zaa} (f : FrS i qa h h' qa') {a : Pt} {n : Nat} {cs : List Zaq} (r : Row h.length h a n cs) (hn : ∀ j o, n ≠ 0 → a = some (j, o) → j ≠ i ∧ ∀ q, qa = some (q, 0) → j ≠ q) : Row h'.length h' a n cs := by
 obtain ⟨hl, r⟩ := r
 by_cases h0 : n = 0
 ·exact ⟨hl, .inl h0⟩
 ·refine ⟨hl, r.imp id ?_⟩
  rintro ⟨j, o', t, all, ro, ha, hi, hg, x⟩
  have := f.le
  obtain ⟨h1, h2⟩ := hn j o' h0 ha
  exact ⟨j, o', t, all, ro, ha, by omega, by rw [f.eq j hi h1 h2]; exact hg, x⟩
theorem FrS.below {i b : Nat} {qa qa' : Pt} {h h' : Zaa} (f : FrS i qa h h' qa') (hb : b ≤ h.length) (hi : b ≤ i) (hq : ∀ q, qa = some (q, 0) → b ≤ q) : Zba b h h' := ⟨f.le, fun j hj => f.eq j (by omega) (by omega) fun q hq' => by have := hq q hq'; omega⟩
theorem Yax {w : Wd} (hw : Zdy w = true) {n : Nd} {k : Nat} (hk : k < w.is.length) {ms : List Nd} (h : Zgj w.is[k] n.2 = some ms) : ms.length ≤ 3 ∧ ∀ m ∈ ms, Zdk w m = true := by
 have := Ylb hw (List.getElem_mem hk) h
 exact ⟨this.1, this.2⟩
theorem Ztk {w : Wd} {n : Nd} (h : Zdk w n = true) : Znr n.2 = true ∧ n.2.length ≤ 60 := by
 have : Znr n.2 = true := by
  unfold Zdk at h
  simp only [Bool.and_eq_true] at h
  exact h.2
 exact ⟨this, (Zzk this)⟩
end Go.Sim

set_option linter.unusedSimpArgs false
set_option linter.unusedVariables false
namespace Go.Sim

def Yos (k : Wk) : Nat → Nd → Bool
 | 0, n => (k.cand n).any fun x => match k.needs x n.2 with | some ms => decide (ms = []) | none => false
 | d + 1, n => (k.cand n).any fun x => match k.needs x n.2 with | some ms => ms.all (Yos k d) | none => false
def Zzv (n : Nd) (d : Nat) : List Nat := n.1 ++ [32] ++ n.2 ++ [32] ++ [48 + d]
def Ymi (n : Nd) (d : Nat) : List Nat := [48 + d] ++ (n.1 ++ [32] ++ n.2)
theorem Ygh {n m : Nd} {d e : Nat} (hn : n.1.length = 1) (hm : m.1.length = 1) (h : Zzv n d = Zzv m e) : n = m ∧ d = e := by
 unfold Zzv at h
 have h1 := List.append_inj_right' h rfl
 have h2 := List.append_inj_left' h rfl
 have h3 := List.append_inj_left' h2 rfl
 rw [List.append_assoc, List.append_assoc] at h3
 have h4 := List.append_inj h3 (by omega)
 have h5 := List.append_inj h4.2 rfl
 simp at h1
 exact ⟨Prod.ext h4.1 h5.2, h1⟩
theorem Yne {n m : Nd} {d e : Nat} (hn : n.1.length = 1) (hm : m.1.length = 1) (h : Ymi n d = Ymi m e) : n = m ∧ d = e := by
 unfold Ymi at h
 have h1 := List.append_inj h rfl
 have h3 := h1.2
 rw [List.append_assoc, List.append_assoc] at h3
 have h4 := List.append_inj h3 (by omega)
 have h5 := List.append_inj h4.2 rfl
 have h6 := h1.1
 simp at h6
 exact ⟨Prod.ext h4.1 h5.2, h6⟩
theorem Yhs {cs : List Nd} {c : List Nat} (h : Zig cs = true) (hk : Zfo cs c = true) : c.length = 1 := by
 unfold Zfo at hk
 obtain ⟨x, hx, he⟩ := List.any_eq_true.1 hk
 obtain ⟨i, hi, rfl⟩ := List.getElem_of_mem hx
 unfold Zig at h
 simp only [Bool.and_eq_true, List.all_eq_true] at h
 have := h.1 i (List.mem_range.2 hi)
 unfold Zwj at this
 simp only [Bool.and_eq_true] at this
 have h1 := this.1.1
 rw [Zez hi] at h1
 have he := of_decide_eq_true he
 rw [he] at h1
 unfold Zta at h1
 match c, h1 with
 | [a], _ => rfl
theorem Zjq {w : Wd} (hw : Zdy w = true) {n : Nd} (h : Zdk w n = true) : n.1.length = 1 := by
 unfold Zdy at hw
 unfold Zdk at h
 simp only [Bool.and_eq_true] at hw h
 exact Yhs hw.1.1 h.1
end Go.Sim

set_option linter.unusedSimpArgs false
set_option linter.unusedVariables false
namespace Go.Sim

def Yuh : Fnd → List Nat | .ok s => s | .no _ _ => []
def Yuj : Fnd → List Nat | .ok _ => [] | .no y _ => y
section
variable {k : Wk} {sp : Bool} {dec : Int → List Nat}
end
end Go.Sim

set_option linter.unusedVariables false
set_option linter.unusedSimpArgs false
set_option maxRecDepth 20000
namespace Go.Sim
open Go Go.RowKit

theorem Vec.app0 {P : Program} {t ty : TypeId} {h : Zaa} {i n c sz : Nat} {e : Bool} {xa : Pt} {m c' : Nat} {e' : Bool} {cs new : List Zaq} {K : Zaq → Zaa → Prop} (hi : h[i]? = some (.cells ty cs false))
  (hu : P.underlying t = some (.slice ty)) (hc : P.cellsOf ty = sz) (hok : P.okElem ty = true) (hby : P.bytesOf ty ≤ 127) (hn : cs.length = n * sz) (hx : rowOf h xa (m * sz) = some new) (hl : new.all Zaq.leaf = true)
  (hle : n + m ≤ 1099511627776) (hk : ∀ h', h'.length = h.length + 1 → h'[h.length]? = some (.cells ty (cs ++ new) false) → (∀ j, j < h.length → j ≠ i → h'[j]? = h[j]?) →
   K (.slice (some (h.length, 0)) (n + m) (n + m) false) h') : Zdc P t h (.slice (some (i, 0)) n c e) (.slice xa m c' e') K := by
 unfold Zdc
 simp only [hu, hc, hx, Zas]
 refine ⟨⟨hok, ?_, hl⟩, .inl ⟨by trivial, ?_⟩⟩
 ·have : (n + m) * (P.bytesOf ty + 1) ≤ (n + m) * 128 := Nat.mul_le_mul_left _ (by omega)
  omega
 ·simp only [Zpr, hi, true_and]
  refine ⟨hn, hk _ (by simp) (by rw [List.getElem?_append_right (by simp)]; simp) fun j hj hne => ?_⟩
  rw [List.getElem?_append_left (by simpa using hj), List.getElem?_set_ne (fun e => hne e.symm)]
structure Yov (hb : Zaa) (i : Nat) (u v : Zaq) (sp : Bool) (h : Zaa) (qa : Pt) (asked : List Nd) (fl : Nd) : Prop where
 same : Zba hb.length hb h
 ge : hb.length ≤ i
 ob : ∃ qn qc qe x7, h[i]? = some (.cells Zzm [u, v, .bool sp, .fn Zqh [], .slice qa qn qc qe, .str fl.1, .str fl.2, x7] false) ∧ Ypr hb.length h qa qn qc asked
 ne : ∀ q, qa = some (q, 0) → q ≠ i
section
variable {hb : Zaa} {i : Nat} {u v : Zaq} {sp : Bool} {h : Zaa} {qa : Pt} {asked : List Nd} {fl : Nd}
theorem Yov.step {h' : Zaa} (r : Yov hb i u v sp h qa asked fl) (k : Zba h.length h h') : Yov hb i u v sp h' qa asked fl := by
 obtain ⟨qn, qc, qe, x7, ho, hv⟩ := r.ob
 exact ⟨r.same.trans (k.mono r.same.le), r.ge, ⟨qn, qc, qe, x7, k.get ho (Own.lt ho), hv.same k⟩, r.ne⟩
theorem Yov.lt (r : Yov hb i u v sp h qa asked fl) : i < h.length := by obtain ⟨_, _, _, _, ho, _⟩ := r.ob; exact Own.lt ho
theorem Yov.low (r : Yov hb i u v sp h qa asked fl) : ∀ q, qa = some (q, 0) → hb.length ≤ q ∧ q < h.length := by
 obtain ⟨qn, qc, qe, x7, ho, hv⟩ := r.ob
 exact fun q hq => ⟨hv.low q hq, hv.vec.lt' hq⟩
def Ytv (hb : Zaa) (i : Nat) (u v : Zaq) (sp : Bool) (h : Zaa) (qa : Pt) (r : Fnd × List Nd) (x : Zaq) (h' : Zaa) : Prop :=
 ∃ qa' fl', x = .tup [.str (Yuh r.1), .str (Yuj r.1)] ∧ Yov hb i u v sp h' qa' r.2 fl' ∧ FrS i qa h h' qa' ∧ ∀ y n, r.1 = .no y n → (y ≠ [] ∧ y ≠ Yrg) ∧ fl' = n
theorem Ytv.of {h0 : Zaa} {qa0 : Pt} {r : Fnd × List Nd} {x : Zaq} {h' : Zaa} (F : FrS i qa0 h0 h qa) (q : Ytv hb i u v sp h qa r x h') : Ytv hb i u v sp h0 qa0 r x h' := by
 obtain ⟨qa', fl', e, a, f, z⟩ := q
 exact ⟨qa', fl', e, a, F.trans f, z⟩
end
theorem Yct {w : Wd} (h : Zdy w = true) : w.is.length ≤ 10 := by
 unfold Zdy at h
 simp only [Bool.and_eq_true, decide_eq_true_eq] at h
 exact h.1.2
end Go.Sim

set_option linter.unusedVariables false
set_option linter.unusedSimpArgs false
set_option maxRecDepth 20000
namespace Go.Sim
open Go Go.RowKit

theorem Ypg {h : Zaa} {n : Nd} {d : Nat} (hd : d < 10) (hc : n.1.length + n.2.length ≤ 1048576) : Zae pg Zqa [.agg [.str n.1, .str n.2], .int .i64 (d : Int)] h fun v h' => v = .str (Zzv n d) ∧ Zba h.length h h' := by
 apply Zyj.call
 simp only [Zav]
 have s0 : Zba h.length h (h ++ [.cells Zad [.str n.1, .str n.2] false]) := Zan
 rw [Ylp]
 simp only [Zas, Zah, Zar, Zag]
 refine (Yka (by omega)).mono ?_
 rintro v h1 ⟨rfl, s1⟩
 simp only [Zag]
 refine ⟨by simp; omega, (Zrv (i := d) (by omega)).mono ?_⟩
 rintro v h2 ⟨rfl, rfl⟩
 simp only [Zag]
 rw [Zph hd]
 exact ⟨by simp; omega, rfl, s0.cat s1⟩
def Yhq (w : Wd) (es : List ME) : Prop := ∀ e ∈ es, ∃ s b, e.1 = .str s ∧ e.2.1 = .bool b ∧ ∀ n d, Zdk w n = true → s = Zzv n d → b = Yos (wk w) d n
theorem Zsr : ∀ (es : List ME) (s : List Nat) (i : Nat), (∀ e ∈ es, ∃ s, e.1 = .str s) → ∃ r, Zrd es s i = some r ∧ ∀ j v, r = some (j, v) → ∃ e ∈ es, e.1 = .str s ∧ e.2.1 = v
 | [], s, i, h => ⟨none, rfl, fun j v h => by cases h⟩
 | (k, v, c) :: es, s, i, h => by
  obtain ⟨t, ht⟩ := h (k, v, c) (by simp)
  simp only at ht
  subst ht
  unfold Zrd
  by_cases hst : s = t
  ·rw [if_pos hst]
   exact ⟨_, rfl, fun j u hj => by cases hj; exact ⟨_, List.mem_cons_self, by rw [hst], rfl⟩⟩
  ·rw [if_neg hst]
   obtain ⟨r, hr, hm⟩ := Zsr es s (i + 1) fun e he => h e (by simp [he])
   exact ⟨r, hr, fun j u hj => by obtain ⟨e, he, h1⟩ := hm j u hj; exact ⟨e, by simp [he], h1⟩⟩
theorem Zte {α : Type} {f : α → α} : ∀ {l : List α} {i : Nat} {x : α}, x ∈ l.modify i f → x ∈ l ∨ ∃ y ∈ l, x = f y
 | [], i, x, h => by cases i <;> simp at h
 | y :: l, 0, x, h => by
  simp at h
  rcases h with rfl | h
  ·exact .inr ⟨y, by simp, rfl⟩
  ·exact .inl (by simp [h])
 | y :: l, i + 1, x, h => by
  simp at h
  rcases h with rfl | h
  ·exact .inl (by simp)
  ·rcases Zte h with h | ⟨z, hz, rfl⟩
   ·exact .inl (by simp [h])
   ·exact .inr ⟨z, by simp [hz], rfl⟩
structure Ytz (hb : Zaa) (i m : Nat) (u v : Zaq) (w : Wd) (h : Zaa) : Prop where
 same : Zba hb.length hb h
 ge : hb.length ≤ m
 lt : m < i
 ob : ∃ x2 x4, h[i]? = some (.cells Zld [u, v, x2, .map (some m), x4] false)
 mp : ∃ es clk, h[m]? = some (.map es clk) ∧ Yhq w es
section
variable {hb : Zaa} {i m : Nat} {u v : Zaq} {w : Wd} {h : Zaa}
theorem Ytz.step {h' : Zaa} (r : Ytz hb i m u v w h) (k : Zba h.length h h') : Ytz hb i m u v w h' := by
 obtain ⟨x2, x4, ho⟩ := r.ob
 obtain ⟨es, clk, hm, ok⟩ := r.mp
 exact ⟨r.same.trans (k.mono r.same.le), r.ge, r.lt, ⟨x2, x4, k.get ho (Own.lt ho)⟩, ⟨es, clk, k.get hm (Own.lt hm), ok⟩⟩
end
theorem Zjf.get {i : Nat} {h h' : Zaa} (k : Zjf i h h') {j : Nat} {x : Zci} (hj : h[j]? = some x) (hne : j ≠ i) : h'[j]? = some x := by rw [k.eq j (Own.lt hj) hne]; exact hj
end Go.Sim

set_option linter.unusedVariables false
set_option linter.unusedSimpArgs false
set_option maxRecDepth 20000
namespace Go.Sim
open Go Go.RowKit

theorem Yhq.at {w : Wd} {es : List ME} (ok : Yhq w es) {n : Nd} {d : Nat} (hv : Zdk w n = true) (s : List Nat) (hs : s = Zzv n d) {K : Option Zaq → Prop} (h0 : K none) (h1 : K (some (.bool (Yos (wk w) d n)))) : Zre es s K := by
 obtain ⟨r, hr, hm⟩ := Zsr es s 0 fun e he => by obtain ⟨s, b, h, _⟩ := ok e he; exact ⟨s, h⟩
 unfold Zre
 rw [hr]
 match r, hm with
 | none, _ => exact h0
 | some (j, v), hm =>
  obtain ⟨e, he, e1, e2⟩ := hm j v rfl
  obtain ⟨s', b', k1, k2, k3⟩ := ok e he
  rw [k1] at e1
  cases e1
  rw [k2] at e2
  subst e2
  rw [k3 n d hv hs]
  exact h1
theorem Yhq.put {w : Wd} (hw : Zdy w = true) {es : List ME} (ok : Yhq w es) {clk : Nat} {n : Nd} {d : Nat} (hv : Zdk w n = true) {K : List ME → Nat → Prop} (hK : ∀ es' clk', Yhq w es' → K es' clk') : Yds es clk (Zzv n d) (.bool (Yos (wk w) d n)) K := by
 have new : ∀ c : Nat, ∀ s b, (Zaq.str (Zzv n d), Zaq.bool (Yos (wk w) d n), c).1 = .str s → (Zaq.str (Zzv n d), Zaq.bool (Yos (wk w) d n), c).2.1 = .bool b → ∀ n' d', Zdk w n' = true → s = Zzv n' d' → b = Yos (wk w) d' n' := by
  intro c s b hs hb n' d' hv' he
  cases hs; cases hb
  obtain ⟨rfl, rfl⟩ := Ygh (Zjq hw hv) (Zjq hw hv') he
  rfl
 obtain ⟨r, hr, _⟩ := Zsr es (Zzv n d) 0 fun e he => by obtain ⟨s, b, h, _⟩ := ok e he; exact ⟨s, h⟩
 unfold Yds
 rw [hr]
 match r with
 | none =>
  refine hK _ _ fun e he => ?_
  rcases List.mem_append.1 he with he | he
  ·exact ok e he
  ·rw [List.mem_singleton] at he
   subst he
   exact ⟨_, _, rfl, rfl, new clk _ _ rfl rfl⟩
 | some (j, v) =>
  refine hK _ _ fun e he => ?_
  rcases Zte he with he | ⟨y, hy, rfl⟩
  ·exact ok e he
  ·exact ⟨_, _, rfl, rfl, new y.2.2 _ _ rfl rfl⟩
end Go.Sim

set_option linter.unusedVariables false
set_option linter.unusedSimpArgs false
set_option maxRecDepth 20000
namespace Go.Sim
open Go Go.RowKit

end Go.Sim

set_option linter.unusedVariables false
set_option linter.unusedSimpArgs false
set_option maxRecDepth 20000
namespace Go.Sim
open Go Go.RowKit

theorem Yqp {h : Zaa} {n : Nd} {d : Nat} (hd : d < 10) (hc : n.1.length + n.2.length ≤ 1048576) : Zae pg Zpa [.agg [.str n.1, .str n.2], .int .i64 (d : Int)] h fun v h' => v = .str (Ymi n d) ∧ Zba h.length h h' := by
 apply Ztv.call
 simp only [Zav]
 generalize hh0 : h ++ [Zci.cells Zad [.str n.1, .str n.2] false] = h0
 have s0 : Zba h.length h h0 := by rw [← hh0]; exact Zan
 have p1 : h0[h.length]? = some (.cells Zad [.str n.1, .str n.2] false) := by rw [← hh0]; simp
 simp only [Zbg p1, Zas, Zah, Zar, Zag]
 refine (Ybu (by omega) (by omega)).mono ?_
 rintro v h1 ⟨rfl, s1⟩
 rw [Zrn (by omega), Int.toNat_natCast, Zph hd]
 simp only [Zag, Zbg (s1.get p1 (Own.lt p1)), true_and]
 refine (Yil (by omega)).mono ?_
 rintro v h2 ⟨rfl, s2⟩
 simp only [Zag]
 exact ⟨by simp; omega, rfl, (s0.cat s1).cat s2⟩
def eT (b : Bool) : List Zaq := [.bool b]
theorem Yjb (x : Bool) : (eT x).length = 1 := rfl
def Yda (a : Pt) : List Nat := match a with | some (q, _) => [q] | none => []
theorem Zme {a : Pt} {j : Nat} : j ∈ Yda a ↔ ∃ o, a = some (j, o) := by
 cases a with
 | none => simp [Yda]
 | some p => obtain ⟨q, o⟩ := p; simp [Yda]; exact eq_comm
structure FrO (O O' : List Nat) (h h' : Zaa) : Prop where
 le : h.length ≤ h'.length
 eq : ∀ j, j < h.length → j ∉ O → h'[j]? = h[j]?
 nw : ∀ j, j ∈ O' → j ∈ O ∨ h.length ≤ j
theorem FrO.of_same {O : List Nat} {h h' : Zaa} (s : Zba h.length h h') : FrO O O h h' := ⟨s.le, fun j hj _ => s.eq j hj, fun j hj => .inl hj⟩
theorem FrO.trans {O O1 O2 : List Nat} {h h1 h2 : Zaa} (f : FrO O O1 h h1) (g : FrO O1 O2 h1 h2) : FrO O O2 h h2 := by
 have := f.le; have := g.le
 refine ⟨by omega, fun j hj hn => ?_, fun j hj => ?_⟩
 ·have hn1 : j ∉ O1 := fun hm => by
   rcases f.nw j hm with h | h
   ·exact hn h
   ·omega
  rw [g.eq j (by omega) hn1]
  exact f.eq j hj hn
 ·rcases g.nw j hj with h | h
  ·exact f.nw j h
  ·exact .inr (by omega)
theorem FrO.get {O O' : List Nat} {h h' : Zaa} (f : FrO O O' h h') {j : Nat} {x : Zci} (hj : h[j]? = some x) (hn : j ∉ O) : h'[j]? = some x := by rw [f.eq j (Own.lt hj) hn]; exact hj
theorem FrO.row {O O' : List Nat} {h h' : Zaa} (f : FrO O O' h h') {a : Pt} {n : Nat} {cs : List Zaq} (r : Row h.length h a n cs) (hn : ∀ j o, n ≠ 0 → a = some (j, o) → j ∉ O) : Row h'.length h' a n cs := by
 obtain ⟨hl, r⟩ := r
 by_cases h0 : n = 0
 ·exact ⟨hl, .inl h0⟩
 ·refine ⟨hl, r.imp id ?_⟩
  rintro ⟨j, o', t, all, ro, ha, hi, hg, x⟩
  have := f.le
  exact ⟨j, o', t, all, ro, ha, by omega, by rw [f.eq j hi (hn j o' h0 ha)]; exact hg, x⟩
structure Yty (hb : Zaa) (i : Nat) (u v : Zaq) (w : Wd) (h : Zaa) (O : List Nat) (tab : List (List Nat × Bool)) : Prop where
 same : Zba hb.length hb h
 low : ∀ j ∈ O, hb.length ≤ j ∧ j < h.length
 io : i ∈ O
 ob : ∃ ka kn kc ke la ln lc le ga gn gc ge cs, h[i]? = some (.cells Zby [u, v, .slice ka kn kc ke, .slice la ln lc le, .slice ga gn gc ge] false) ∧
  Vec Zaz h ka kn kc (Zdl eS (tab.map Prod.fst)) ∧ kn = tab.length ∧ Vec Zbw h la ln lc cs ∧ cs.length = ln ∧ ln = tab.length ∧ Vec Zub h ga gn gc (Zdl eT (tab.map Prod.snd)) ∧ gn = tab.length ∧
  O = i :: (Yda ka ++ Yda la ++ Yda ga) ∧ O.Nodup
 ok : ∀ p ∈ tab, ∀ n d, Zdk w n = true → p.1 = Ymi n d → p.2 = Yos (wk w) d n
section
variable {hb : Zaa} {i : Nat} {u v : Zaq} {w : Wd} {h : Zaa} {O : List Nat} {tab : List (List Nat × Bool)}
theorem Yty.step {h' : Zaa} (r : Yty hb i u v w h O tab) (k : Zba h.length h h') : Yty hb i u v w h' O tab := by
 obtain ⟨ka, kn, kc, ke, la, ln, lc, le, ga, gn, gc, ge, cs, ho, v1, e1, v2, e2, e2', v3, e3, e4⟩ := r.ob
 exact ⟨r.same.trans (k.mono r.same.le), fun j hj => by have := r.low j hj; have := k.le; omega, r.io, ⟨ka, kn, kc, ke, la, ln, lc, le, ga, gn, gc, ge, cs, k.get ho (Own.lt ho), v1.same k, e1, v2.same k, e2, e2', v3.same k, e3, e4⟩, r.ok⟩
theorem Zpv : pg.underlying Zbw = some (.slice Zaz) := by kernel_rfl
theorem Zxt : pg.cellsOf Zaz = 1 := by kernel_rfl
theorem Zya : pg.okElem Zaz = true := by kernel_rfl
theorem Zxn : pg.bytesOf Zaz ≤ 127 := Nat.le_of_ble_eq_true (by kernel_rfl)
theorem Yll : pg.underlying Zma = some (.slice Zbw) := by kernel_rfl
theorem Ynk : pg.cellsOf Zbw = 1 := by kernel_rfl
theorem Yol : pg.okElem Zbw = true := by kernel_rfl
theorem Yoo : pg.bytesOf Zbw ≤ 127 := Nat.le_of_ble_eq_true (by kernel_rfl)
theorem Ylr : pg.underlying Ygg = some (.slice Zub) := by kernel_rfl
theorem Yqs : pg.cellsOf Zub = 1 := by kernel_rfl
theorem Yph : pg.okElem Zub = true := by kernel_rfl
theorem Yqu : pg.bytesOf Zub ≤ 127 := Nat.le_of_ble_eq_true (by kernel_rfl)
end
end Go.Sim

set_option linter.unusedSimpArgs false
set_option linter.unusedVariables false
namespace Go.Sim

def Zdj (rows : List (List (List Nat))) (ps : List (List Nat)) : List (List (List Nat)) := rows.flatMap fun r => ps.map fun p => r ++ [p]
def Zon (all : Nd → Option (List (List Nat))) : List (List (List Nat)) → List Nd → Option (List (List (List Nat)))
 | rows, [] => some rows
 | rows, m :: ms => match all m with | none => none | some ps => if 60 < (Zdj rows ps).length then none else Zon all (Zdj rows ps) ms
def jnD (head : List Nat) (row : List (List Nat)) : List Nat := if row = [] then head else head ++ [40] ++ [44].intercalate row ++ [41]
def Zia (k : Wk) (dec : Int → List Nat) (all : Nd → Option (List (List Nat))) (d : Nat) (n : Nd) : List (List Nat) → List Int → Option (List (List Nat))
 | out, [] => some out
 | out, x :: xs => match k.needs x n.2 with
  | none => Zia k dec all d n out xs
  | some ms => if ms ≠ [] ∧ d = 0 then Zia k dec all d n out xs else match Zon all [[]] ms with
   | none => none
   | some rows => if (rows.map (jnD (dec x))).any (fun s => decide (1200 < s.length)) || decide (60 < (out ++ rows.map (jnD (dec x))).length) then none else Zia k dec all d n (out ++ rows.map (jnD (dec x))) xs
def Zox (k : Wk) (dec : Int → List Nat) : Nat → Nd → Option (List (List Nat))
 | 0, n => Zia k dec (fun _ => none) 0 n [] (k.cand n)
 | d + 1, n => Zia k dec (Zox k dec d) (d + 1) n [] (k.cand n)
theorem Zuo {k : Wk} {dec : Int → List Nat} {f g : Nd → Option (List (List Nat))} {n : Nd} : ∀ (xs : List Int) (out : List (List Nat)), Zia k dec f 0 n out xs = Zia k dec g 0 n out xs
 | [], out => rfl
 | x :: xs, out => by
  unfold Zia
  cases k.needs x n.2 with
  | none => exact Zuo xs out
  | some ms =>
   by_cases h : ms = []
   ·subst h
    simp only [ne_eq, not_true_eq_false, false_and, if_false, Zon]
    split
    ·rfl
    ·exact Zuo xs _
   ·simp only [ne_eq, h, not_false_eq_true, and_self, if_true]
    exact Zuo xs out
theorem Ydp (k : Wk) (dec : Int → List Nat) (d : Nat) (n : Nd) : Zox k dec d n = Zia k dec (Zox k dec (d - 1)) d n [] (k.cand n) := by
 cases d with
 | zero => unfold Zox; exact Zuo _ _
 | succ d => rfl
def Zpp (l : List (List Nat)) : Prop := l.length ≤ 60 ∧ ∀ s ∈ l, s.length ≤ 1200
theorem Zyc {k : Wk} {dec : Int → List Nat} {all : Nd → Option (List (List Nat))} {d : Nat} {n : Nd} {out : List (List Nat)} {x : Int} {xs : List Int} (h : k.needs x n.2 = none) : Zia k dec all d n out (x :: xs) = Zia k dec all d n out xs := by
 conv => lhs; unfold Zia
 rw [h]
theorem Zym {k : Wk} {dec : Int → List Nat} {all : Nd → Option (List (List Nat))} {d : Nat} {n : Nd} {out : List (List Nat)} {x : Int} {xs : List Int} {ms : List Nd} (h : k.needs x n.2 = some ms) (hm : ms ≠ []) (hd : d = 0) : Zia k dec all d n out (x :: xs) = Zia k dec all d n out xs := by
 conv => lhs; unfold Zia
 rw [h]; simp only; rw [if_pos ⟨hm, hd⟩]
theorem Zyn {k : Wk} {dec : Int → List Nat} {all : Nd → Option (List (List Nat))} {d : Nat} {n : Nd} {out : List (List Nat)} {x : Int} {xs : List Int} {ms : List Nd} (h : k.needs x n.2 = some ms) (hm : ms = [] ∨ 0 < d) : Zia k dec all d n out (x :: xs) = match Zon all [[]] ms with
   | none => none
   | some rows => if (rows.map (jnD (dec x))).any (fun s => decide (1200 < s.length)) || decide (60 < (out ++ rows.map (jnD (dec x))).length) then none else Zia k dec all d n (out ++ rows.map (jnD (dec x))) xs := by
 conv => lhs; unfold Zia
 rw [h]; simp only; rw [if_neg fun hh => by rcases hm with hm | hm; exact hh.1 hm; omega]
theorem Zsa {k : Wk} {dec : Int → List Nat} {all : Nd → Option (List (List Nat))} {d : Nat} {n : Nd} {out : List (List Nat)} {x : Int} {xs : List Int} {ms : List Nd} (h : k.needs x n.2 = some ms) (hm : ms = [] ∨ 0 < d) (hr : Zon all [[]] ms = none) : Zia k dec all d n out (x :: xs) = none := by
 rw [Zyn h hm, hr]
theorem Zvh {k : Wk} {dec : Int → List Nat} {all : Nd → Option (List (List Nat))} {d : Nat} {n : Nd} {out : List (List Nat)} {x : Int} {xs : List Int} {ms : List Nd} {rows : List (List (List Nat))} (h : k.needs x n.2 = some ms) (hm : ms = [] ∨ 0 < d) (hr : Zon all [[]] ms = some rows)
  (hb : (∃ s ∈ rows.map (jnD (dec x)), 1200 < s.length) ∨ 60 < (out ++ rows.map (jnD (dec x))).length) : Zia k dec all d n out (x :: xs) = none := by
 rw [Zyn h hm, hr]
 simp only
 rw [if_pos]
 simp only [Bool.or_eq_true, List.any_eq_true, decide_eq_true_eq]
 exact hb
theorem Zxo {k : Wk} {dec : Int → List Nat} {all : Nd → Option (List (List Nat))} {d : Nat} {n : Nd} {out : List (List Nat)} {x : Int} {xs : List Int} {ms : List Nd} {rows : List (List (List Nat))} (h : k.needs x n.2 = some ms) (hm : ms = [] ∨ 0 < d) (hr : Zon all [[]] ms = some rows)
  (hb : Zpp (out ++ rows.map (jnD (dec x)))) : Zia k dec all d n out (x :: xs) = Zia k dec all d n (out ++ rows.map (jnD (dec x))) xs := by
 rw [Zyn h hm, hr]
 simp only
 rw [if_neg]
 simp only [Bool.or_eq_true, List.any_eq_true, decide_eq_true_eq, not_or, not_exists, not_and]
 refine ⟨fun s hs h1 => ?_, by have := hb.1; omega⟩
 have := hb.2 s (List.mem_append_right _ hs); omega
theorem Zoa {k : Wk} {dec : Int → List Nat} {all : Nd → Option (List (List Nat))} {d : Nat} {n : Nd} : ∀ (xs : List Int) (out : List (List Nat)) {l : List (List Nat)}, Zpp out → Zia k dec all d n out xs = some l → Zpp l
 | [], out, l, h, e => by unfold Zia at e; cases e; exact h
 | x :: xs, out, l, h, e => by
  unfold Zia at e
  cases hn : k.needs x n.2 with
  | none => rw [hn] at e; exact Zoa xs out h e
  | some ms =>
   rw [hn] at e
   simp only at e
   split at e
   ·exact Zoa xs out h e
   ·split at e
    ·cases e
    ·rename_i rows hr
     split at e
     ·cases e
     ·rename_i hc
      simp only [Bool.or_eq_true, not_or, List.any_eq_true, decide_eq_true_eq, not_exists, not_and] at hc
      refine Zoa xs _ ⟨by omega, fun s hs => ?_⟩ e
      rcases List.mem_append.1 hs with hs | hs
      ·exact h.2 s hs
      ·have := hc.1 s hs; omega
theorem Ztg {k : Wk} {dec : Int → List Nat} {d : Nat} {n : Nd} {l : List (List Nat)} (h : Zox k dec d n = some l) : Zpp l := by
 rw [Ydp] at h
 exact Zoa _ _ ⟨by simp, by simp⟩ h
theorem Zty (rows : List (List (List Nat))) (ps : List (List Nat)) : (Zdj rows ps).length = rows.length * ps.length := by
 unfold Zdj
 induction rows with
 | nil => simp
 | cons r rows ih => simp [ih, Nat.succ_mul]; omega
def Zqg (head : List Nat) : Nat → List (List Nat) → List Nat
 | _, [] => head
 | i, p :: r => Zqg (head ++ [Zyx i] ++ p) (i + 1) r
theorem Ycj (head : List Nat) (p : List Nat) : ∀ (r : List (List Nat)) (i : Nat) (head : List Nat), Zqg head i (r ++ [p]) = Zqg head i r ++ [Zyx (i + r.length)] ++ p
 | [], i, head => by simp [Zqg]
 | x :: r, i, head => by
  have := Ycj head p r (i + 1) (head ++ [Zyx i] ++ x)
  simp only [List.cons_append, Zqg, this, List.length_cons]
  rw [show i + 1 + r.length = i + (r.length + 1) by omega]
theorem Zzr (head : List Nat) : ∀ (r : List (List Nat)) (i : Nat) (head : List Nat), (∀ p ∈ r, p.length ≤ 1200) → (Zqg head i r).length ≤ head.length + 1201 * r.length
 | [], i, head, h => by simp [Zqg]
 | x :: r, i, hd, h => by
  have := Zzr head r (i + 1) (hd ++ [Zyx i] ++ x) fun p hp => h p (by simp [hp])
  have hx := h x (by simp)
  simp only [Zqg, List.length_cons]
  simp only [List.length_append, List.length_cons, List.length_nil] at this
  omega
theorem Yiq : ∀ (r : List (List Nat)) (i : Nat) (head : List Nat), 0 < i → Zqg head i r = head ++ r.flatMap (fun p => 44 :: p)
 | [], i, head, h => by simp [Zqg]
 | x :: r, i, head, h => by
  rw [Zqg, Yiq r (i + 1) _ (by omega)]
  have : Zyx i = 44 := by unfold Zyx; rw [if_neg (by omega)]
  simp [this]
theorem Ydd : ∀ (x : List Nat) (r : List (List Nat)), [44].intercalate (x :: r) = x ++ r.flatMap (fun p => 44 :: p)
 | x, [] => by simp [List.intercalate]
 | x, y :: r => by
  have := Ydd y r
  simp only [List.intercalate, List.intersperse] at this ⊢
  simp [List.flatten_cons] at this ⊢
  rw [this]
theorem Yjh (head : List Nat) (r : List (List Nat)) : jnD head r = if r = [] then Zqg head 0 r else Zqg head 0 r ++ [41] := by
 cases r with
 | nil => simp [jnD, Zqg]
 | cons x r =>
  unfold jnD
  simp only [reduceCtorEq, if_false]
  rw [Zqg, Yiq r 1 _ (by omega), Ydd]
  simp [Zyx]
end Go.Sim

set_option linter.unusedVariables false
set_option linter.unusedSimpArgs false
set_option maxRecDepth 20000
namespace Go.Sim
open Go Go.RowKit

structure Kp (i m : Nat) (h h' : Zaa) : Prop where
 le : h.length ≤ h'.length
 eq : ∀ j, j < h.length → j ≠ i → j ≠ m → h'[j]? = h[j]?
theorem Kp.of_same {i m : Nat} {h h' : Zaa} (s : Zba h.length h h') : Kp i m h h' := ⟨s.le, fun j hj _ _ => s.eq j hj⟩
theorem Kp.refl (i m : Nat) (h : Zaa) : Kp i m h h := .of_same (Zba.refl _ _)
theorem Kp.trans {i m : Nat} {h h1 h2 : Zaa} (a : Kp i m h h1) (b : Kp i m h1 h2) : Kp i m h h2 := ⟨Nat.le_trans a.le b.le, fun j hj h1 h2 => by rw [b.eq j (by have := a.le; omega) h1 h2]; exact a.eq j hj h1 h2⟩
theorem Kp.get {i m : Nat} {h h' : Zaa} (k : Kp i m h h') {j : Nat} {x : Zci} (hj : h[j]? = some x) (h1 : j ≠ i) (h2 : j ≠ m) : h'[j]? = some x := by rw [k.eq j (Own.lt hj) h1 h2]; exact hj
def SL (A : Nat → Prop) (h : Zaa) (a : Pt) (n : Nat) (l : List (List Nat)) : Prop := ∃ q, a = some (q, 0) ∧ ¬ A q ∧ h[q]? = some (.cells Zaz (Zdl eS l) false) ∧ l.length = n
theorem SL.row {A : Nat → Prop} {h : Zaa} {a : Pt} {n : Nat} {l : List (List Nat)} (s : SL A h a n l) : Row h.length h a n (Zdl eS l) := by
 obtain ⟨q, rfl, _, hq, hl⟩ := s
 have := Zbf Zqi l
 exact ⟨by omega, .inr ⟨q, 0, _, _, _, rfl, Own.lt hq, hq, by omega, by rw [List.drop_zero, List.take_of_length_le (by omega)]⟩⟩
theorem SL.agree {A A' : Nat → Prop} {h h' : Zaa} {a : Pt} {n : Nat} {l : List (List Nat)} (s : SL A h a n l) (hk : ∀ q, q < h.length → (∃ l, h[q]? = some (.cells Zaz (Zdl eS l) false)) → ¬ A q → h'[q]? = h[q]?) (hA : ∀ q, q < h.length → ¬ A q → ¬ A' q) : SL A' h' a n l := by
 obtain ⟨q, rfl, ha, hq, hl⟩ := s
 exact ⟨q, rfl, hA q (Own.lt hq) ha, by rw [hk q (Own.lt hq) ⟨l, hq⟩ ha]; exact hq, hl⟩
theorem SL.same {A : Nat → Prop} {h h' : Zaa} {a : Pt} {n : Nat} {l : List (List Nat)} (s : SL A h a n l) (k : Zba h.length h h') : SL A h' a n l := s.agree (fun q hq _ _ => k.eq q hq) fun _ _ h => h
theorem Ybx {A : Nat → Prop} {h : Zaa} {a : Pt} {n c : Nat} {e : Bool} {l : List (List Nat)} (r : SL A h a n l) (hn : n ≤ 1048576) :
  Zae pg Zdp [.slice a n c e] h fun v h' => ∃ q c' e', v = .slice (some (q, 0)) n c' e' ∧ h.length ≤ q ∧ h'[q]? = some (.cells Zaz (Zdl eS l) false) ∧ Zba h.length h h' := by
 have hrow := r.row
 obtain ⟨q, rfl, hA, hq, hl⟩ := r
 apply Zfp.call
 refine ⟨fun h => (by cases h), ?_⟩
 simp only [Option.isNone_some, Zav]
 generalize hh0 : h ++ [Zci.cells Zaz [] false] = h0
 have s0 : Zba h.length h h0 := by rw [← hh0]; exact Zan
 have o0 : h0[h.length]? = some (.cells Zaz [] false) := by rw [← hh0]; simp
 have l0 : h0.length = h.length + 1 := by rw [← hh0]; simp
 refine Zdg (fun h => by cases h) (fun _ => ?_)
 refine Vec.app0 (n := 0) (sz := 1) o0 Zpv Zxt Zya Zxn (by simp) (by simpa using (hrow.same' s0).rowOf) (Zwi (enc := eS) (fun _ => rfl) l) (by omega) (fun h1 hl1 hi1 hk1 => ?_)
 simp only [Zaf, Nat.zero_add]
 exact ⟨_, _, _, rfl, by omega, by simpa using hi1, ⟨by omega, fun j hj => by rw [hk1 j (by omega) (by omega)]; exact s0.eq j hj⟩⟩
theorem Yio (l : List (List Nat)) (hl : ∀ s ∈ l, s.length ≤ 1200) : ([44].intercalate l).length ≤ 1201 * l.length := by
 cases l with
 | nil => simp [List.intercalate]
 | cons x r =>
  rw [Ydd]
  have : ∀ (r : List (List Nat)), (∀ s ∈ r, s.length ≤ 1200) → (r.flatMap fun p => 44 :: p).length ≤ 1201 * r.length := by
   intro r
   induction r with
   | nil => simp
   | cons y r ih =>
    intro h
    have := ih fun s hs => h s (by simp [hs])
    have := h y (by simp)
    simp only [List.flatMap_cons, List.length_append, List.length_cons]
    omega
  have h1 := this r fun s hs => hl s (by simp [hs])
  have h2 := hl x (by simp)
  simp only [List.length_append, List.length_cons]
  omega
theorem Ylf {A : Nat → Prop} {h : Zaa} {x : List Nat} {a : Pt} {n c : Nat} {e : Bool} {l : List (List Nat)} (r : SL A h a n l) (hx : x.length ≤ 100) (hn : n ≤ 100) (hl : ∀ s ∈ l, s.length ≤ 1200) :
  Zae pg Znv [.str x, .slice a n c e] h fun v h' => v = .str (jnD x l) ∧ h' = h := by
 have hrow := r.row
 have hln : l.length = n := by obtain ⟨_, _, _, _, h⟩ := r; exact h
 have hil := Yio l hl
 apply Zsq.call
 refine Zfe (fun h0 => ?_) (fun h0 => ?_)
 ·have : l = [] := List.eq_nil_of_length_eq_zero (by omega)
  subst this
  exact ⟨by simp [jnD], rfl⟩
 ·have hne : l ≠ [] := fun e => h0 (by rw [e] at hln; simp at hln; omega)
  refine ⟨by simp; omega, (Ygb (l := l) (sep := [44]) (by rw [← Ydh]; exact hrow) (by omega) (by omega)).mono ?_⟩
  rintro v h1 ⟨rfl, rfl⟩
  simp only [Zag]
  refine ⟨by simp; omega, by simp; omega, ?_, by trivial⟩
  simp [jnD, hne]
def Yqh (w : Wd) (A : Nat → Prop) (h : Zaa) (es : List ME) : Prop := ∀ e ∈ es, ∃ s a n c x l, e.1 = .str s ∧ e.2.1 = .slice a n c x ∧ SL A h a n l ∧ ∀ nd d, Zdk w nd = true → s = Zzv nd d → Zox (wk w) Zcw d nd = some l
structure Zrr (hb : Zaa) (i m : Nat) (u v : Zaq) (w : Wd) (A : Nat → Prop) (fine : Bool) (h : Zaa) : Prop where
 same : Zba hb.length hb h
 ge : hb.length ≤ m
 lt : m < i
 ob : ∃ x3, h[i]? = some (.cells Zld [u, v, .map (some m), x3, .bool fine] false)
 mp : ∃ es clk, h[m]? = some (.map es clk) ∧ Yqh w A h es
section
variable {hb : Zaa} {i m : Nat} {u v : Zaq} {w : Wd} {A A' : Nat → Prop} {fine : Bool} {h h' : Zaa}
theorem Zrr.agree (r : Zrr hb i m u v w A fine h) (hle : h.length ≤ h'.length) (hi : h'[i]? = h[i]?) (hm : h'[m]? = h[m]?) (hlow : ∀ j, j < hb.length → h'[j]? = h[j]?)
  (hk : ∀ q, q < h.length → (∃ l, h[q]? = some (.cells Zaz (Zdl eS l) false)) → ¬ A q → h'[q]? = h[q]?) (hA : ∀ q, q < h.length → ¬ A q → ¬ A' q) : Zrr hb i m u v w A' fine h' := by
 obtain ⟨x3, ho⟩ := r.ob
 obtain ⟨es, clk, hmm, ok⟩ := r.mp
 refine ⟨⟨Nat.le_trans r.same.le hle, fun j hj => by rw [hlow j hj]; exact r.same.eq j hj⟩, r.ge, r.lt, ⟨x3, by rw [hi]; exact ho⟩, ⟨es, clk, by rw [hm]; exact hmm, fun e he => ?_⟩⟩
 obtain ⟨s, a, n, c, x, l, h1, h2, h3, h4⟩ := ok e he
 exact ⟨s, a, n, c, x, l, h1, h2, h3.agree hk hA, h4⟩
theorem Zrr.il (r : Zrr hb i m u v w A fine h) : i < h.length := by obtain ⟨_, ho⟩ := r.ob; exact Own.lt ho
theorem Zrr.ml (r : Zrr hb i m u v w A fine h) : m < h.length := by have := r.il; have := r.lt; omega
theorem Zrr.step (r : Zrr hb i m u v w A fine h) (k : Zba h.length h h') : Zrr hb i m u v w A fine h' :=
 r.agree k.le (k.eq i r.il) (k.eq m r.ml) (fun j hj => k.eq j (by have := r.same.le; omega)) (fun q hq _ _ => k.eq q hq) fun _ _ h => h
theorem Zrr.low (r : Zrr hb i m u v w A fine h) (hA : ∀ q, q < h.length → ¬ A q → ¬ A' q) : Zrr hb i m u v w A' fine h :=
 r.agree (Nat.le_refl _) rfl rfl (fun _ _ => rfl) (fun _ _ _ _ => rfl) hA
theorem Zrr.sl_ne (r : Zrr hb i m u v w A fine h) {q : Nat} {l : List Zaq} (hq : h[q]? = some (.cells Zaz l false)) : q ≠ i ∧ q ≠ m := by
 obtain ⟨x3, ho⟩ := r.ob
 obtain ⟨es, clk, hmm, ok⟩ := r.mp
 refine ⟨fun e => ?_, fun e => ?_⟩
 ·subst e; rw [ho] at hq; injection hq with hq; injection hq with hq _ _; exact absurd hq (by decide)
 ·subst e; rw [hmm] at hq; cases hq
theorem Zrr.lsl_ne (r : Zrr hb i m u v w A fine h) {q : Nat} {l : List Zaq} (hq : h[q]? = some (.cells Zbw l false)) : q ≠ i ∧ q ≠ m := by
 obtain ⟨x3, ho⟩ := r.ob
 obtain ⟨es, clk, hmm, ok⟩ := r.mp
 refine ⟨fun e => ?_, fun e => ?_⟩
 ·subst e; rw [ho] at hq; injection hq with hq; injection hq with hq _ _; exact absurd hq (by decide)
 ·subst e; rw [hmm] at hq; cases hq
theorem SL.kp (r : Zrr hb i m u v w A' fine h) {a : Pt} {n : Nat} {l : List (List Nat)} (s : SL A h a n l) (k : Kp i m h h') : SL A h' a n l :=
 s.agree (fun q hq ⟨l, hl⟩ _ => k.eq q hq (r.sl_ne hl).1 (r.sl_ne hl).2) fun _ _ h => h
end
theorem Zrr.put {hb : Zaa} {i m : Nat} {u v : Zaq} {w : Wd} {A : Nat → Prop} {fine : Bool} {h : Zaa} (r : Zrr hb i m u v w A fine h) {es : List ME} {clk : Nat} (ok : Yqh w A h es) : Zrr hb i m u v w A fine (h.set m (.map es clk)) := by
 have hge := r.ge
 have hlt := r.lt
 obtain ⟨x3, ho⟩ := r.ob
 obtain ⟨es0, clk0, hm, _⟩ := r.mp
 refine ⟨⟨by simp; exact r.same.le, fun j hj => by rw [Zbz (by omega)]; exact r.same.eq j hj⟩, r.ge, r.lt, ⟨x3, by rw [Zbz (by omega)]; exact ho⟩, ⟨es, clk, Zcy hm, fun e he => ?_⟩⟩
 obtain ⟨s, a, n, c, x, l, k1, k2, k3, k4⟩ := ok e he
 exact ⟨s, a, n, c, x, l, k1, k2, k3.agree (fun q hq ⟨l, hl⟩ _ => Zbz (fun e => (r.sl_ne hl).2 e.symm)) (fun _ _ h => h), k4⟩
theorem Zct.kpt {b : Nat} {h h' : Zaa} {a : Pt} {n : Nat} {l : List Int} (f : Zct Zjb eI b h a n l) (hk : ∀ j, j < h.length → b ≤ j → (∃ cs, h[j]? = some (.cells Zjb cs false)) → h'[j]? = h[j]?) : Zct Zjb eI b h' a n l :=
 ⟨f.1, f.2.imp id fun ⟨i, ha, hbi, hi⟩ => ⟨i, ha, hbi, by rw [hk i (Own.lt hi) hbi ⟨_, hi⟩]; exact hi⟩⟩
theorem Yqf {h : Zaa} {i j : Nat} {t t' : TypeId} {cs cs' : List Zaq} {ro ro' : Bool} (hi : h[i]? = some (.cells t cs ro)) (hj : h[j]? = some (.cells t' cs' ro')) (hne : t ≠ t') : i ≠ j := by
 rintro rfl; rw [hi] at hj; injection hj with hj; injection hj with hj _ _; exact hne hj
def RR (A : Nat → Prop) (h : Zaa) (cs : List Zaq) (rows : List (List (List Nat))) : Prop := cs.length = rows.length ∧ ∀ (k : Nat) (c : Zaq) (r : List (List Nat)), cs[k]? = some c → rows[k]? = some r → ∃ a n cp e, c = .slice a n cp e ∧ SL A h a n r
theorem RR.agree {A A' : Nat → Prop} {h h' : Zaa} {cs : List Zaq} {rows : List (List (List Nat))} (s : RR A h cs rows) (hk : ∀ q, q < h.length → (∃ l, h[q]? = some (.cells Zaz (Zdl eS l) false)) → ¬ A q → h'[q]? = h[q]?) (hA : ∀ q, q < h.length → ¬ A q → ¬ A' q) : RR A' h' cs rows :=
 ⟨s.1, fun k c r h1 h2 => by obtain ⟨a, n, cp, e, h3, h4⟩ := s.2 k c r h1 h2; exact ⟨a, n, cp, e, h3, h4.agree hk hA⟩⟩
theorem RR.nil {A : Nat → Prop} {h : Zaa} : RR A h [] [] := ⟨rfl, fun k c r h => by simp at h⟩
theorem RR.snoc {A : Nat → Prop} {h : Zaa} {cs : List Zaq} {rows : List (List (List Nat))} (s : RR A h cs rows) {a : Pt} {n cp : Nat} {e : Bool} {r : List (List Nat)} (x : SL A h a n r) : RR A h (cs ++ [.slice a n cp e]) (rows ++ [r]) := by
 refine ⟨by simp [s.1], fun k c r' h1 h2 => ?_⟩
 by_cases hk : k < cs.length
 ·rw [List.getElem?_append_left hk] at h1
  rw [List.getElem?_append_left (by rw [← s.1]; exact hk)] at h2
  exact s.2 k c r' h1 h2
 ·have hk' : k = cs.length := by have := (List.getElem?_eq_some_iff.1 h1).1; simp at this; omega
  subst hk'
  rw [List.getElem?_append_right (by omega)] at h1
  rw [List.getElem?_append_right (by rw [← s.1]; omega)] at h2
  simp [s.1] at h1 h2
  subst h1; subst h2
  exact ⟨a, n, cp, e, rfl, x⟩
theorem RR.leaf {A : Nat → Prop} {h : Zaa} {cs : List Zaq} {rows : List (List (List Nat))} (s : RR A h cs rows) : cs.all Zaq.leaf = true := by
 rw [List.all_eq_true]
 intro c hc
 obtain ⟨k, hk⟩ := List.getElem?_of_mem hc
 have hkl := (List.getElem?_eq_some_iff.1 hk).1
 obtain ⟨a, n, cp, e, rfl, _⟩ := s.2 k c _ hk (List.getElem?_eq_getElem (by rw [← s.1]; exact hkl))
 rfl
end Go.Sim
