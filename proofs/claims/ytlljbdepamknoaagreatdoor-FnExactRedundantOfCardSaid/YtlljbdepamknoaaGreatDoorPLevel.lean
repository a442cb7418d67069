/- A part of the proof of a statement of this seat: see the text that holds the theorem. No condition. -/
import Derived.Test.YtlljbdepamknoaaGreatDoorPTCMarkW
import Derived.Test.YtlljbdepamknoaaGreatDoorCGrow2
import Derived.Test.YtlljbdepamknoaaGreatDoorPTCSApply
import Derived.Test.YtlljbdepamknoaaGreatDoorCWRep
import Derived.Test.YtlljbdepamknoaaGreatDoorNm
import Derived.Test.YtlljbdepamknoaaGreatDoorCTy
set_option linter.unusedVariables false
set_option linter.unusedSimpArgs false
set_option linter.all false
set_option linter.unusedVariables false
set_option linter.unusedSimpArgs false
set_option maxRecDepth 20000
namespace Go.Sim
open Go Go.RowKit

noncomputable def Zml (n : Nd) (i : Ins) : Bool := decide (i.1.1 = n.1) && Zpy i.1.2 n.2
noncomputable def Zrd (w : Wd) (n : Nd) : List Int := ixs (Zml n) w.is
theorem Yqy {α : Type} {f : α → Bool} {l : List α} {x : Int} (h : x ∈ ixs f l) : ∃ k : Nat, ∃ hk : k < l.length, x = k ∧ f l[k] = true := by
 unfold ixs at h
 obtain ⟨p, hp, rfl⟩ := List.mem_map.1 h
 obtain ⟨h1, h2⟩ := List.mem_filter.1 hp
 obtain ⟨a, k⟩ := p
 have h3 := List.mem_zipIdx h1
 simp only [Nat.zero_add, Nat.zero_le, Nat.sub_zero, true_and] at h3
 exact ⟨k, h3.1, rfl, by simp only at h2; rw [← h3.2]; exact h2⟩
theorem Yhi {h : Zaa} {a : Pt} {n c j : Nat} {e : Bool} {ct tt nc nt : List Nat} (hj : h[j]? = some (.cells Zaj [.str nc, .str nt] false)) :
  Zae pg Zch [.agg [.str ct, .str tt, .slice a n c e], .ptr (some (j, 0))] h fun v h' => v = .bool (Zpy tt nt) ∧ Zbb h.length h h' := by
 apply Zkm.call
 have s1 : Zbb h.length h (h ++ [.cells Zac [.str ct, .str tt, .slice a n c e] false]) := Zas
 simp only [Zaz, Zff, Nat.zero_add, List.getElem?_cons_succ, List.getElem?_cons_zero, Zai, fa1, Zaq (s1.get hj (Own.lt hj))]
 refine (Zzy tt nt _).mono ?_
 rintro v h2 ⟨rfl, s2⟩
 simp only [Zal]
 exact ⟨by trivial, s1.cat s2⟩
theorem Ymj {h : Zaa} {t : TypeId} {x y z a b c : Zam} : Zbk (h ++ [.cells t [x, y, z] false]) (.ptr (some (h.length, 0))) [a, b, c] = some (h ++ [.cells t [a, b, c] false]) := Ztz rfl
theorem Yic {h : Zaa} {a0 a1 : Pt} {n0 c0 n1 c1 j : Nat} {e0 e1 : Bool} {w : Wd} {nd : Nd} (r : Zmm h a0 n0 c0 a1 n1 c1 w) (b : WB w) (hj : h[j]? = some (.cells Zaj [.str nd.1, .str nd.2] false)) :
  Zae pg Zqb [.agg [.slice a0 n0 c0 e0, .slice a1 n1 c1 e1], .str nd.1, .fn Zch [.ptr (some (j, 0))]] h fun v h' => Zbb h.length h h' ∧ ∃ a n c e, v = .slice a n c e ∧ Zcv Zgs eI h.length h' a n (Zrd w nd) := by
 have hl1 := r.len1
 have hli := b.li
 apply Zbt.call
 simp only [Zaz]
 generalize hh0 : h ++ [Zco.cells Zaf [.slice a0 n0 c0 e0, .slice a1 n1 c1 e1] false] = h0
 generalize hh1 : h0 ++ [Zco.cells Zgs [] false] = h1
 have s0 : Zbb h.length h h0 := by rw [← hh0]; exact Zas
 have s1 : Zbb h0.length h0 h1 := by rw [← hh1]; exact Zas
 have w0 : h0[h.length]? = some (Znv a0 n0 c0 e0 a1 n1 c1 e1) := by rw [← hh0]; simp [Znv]
 have w1 := s1.get w0 (Own.lt w0)
 have o1 : h1[h0.length]? = some (.cells Zgs [] false) := by rw [← hh1]; simp
 have l0 : h0.length = h.length + 1 := by rw [← hh0]; simp
 have S1 := s0.cat s1
 simp only [Zjq w1, Nat.zero_add, List.getElem?_cons_succ, List.getElem?_cons_zero, Zag]
 refine Zbt.L3ind _ _ _ _ _ _ _ _ (J := fun (g : Nat) a4 n4 c4 e4 x14 h' => x14 = (g : Int) ∧ g ≤ n1 ∧ Zbb h.length h h' ∧ n4 = (ixs (Zml nd) (w.is.take g)).length ∧ Vec Zgs h' a4 n4 c4 (Zcf eI (ixs (Zml nd) (w.is.take g))) ∧ (∀ i, a4 = some (i, 0) → h.length ≤ i)) (fun g => n1 - g) ?_ 0 _ _ _ _ _ _
  ⟨rfl, by omega, S1, rfl, Vec.mk1 (by simpa [ixs] using o1), fun i hi => by cases hi; omega⟩
 rintro g a4 n4 c4 e4 x14 h' ⟨rfl, hg, hS, rfl, hv, ha⟩ R hR
 unfold Zbt.L3t
 refine Zan (fun hlt => ?_) (fun hge => ?_)
 ·have hgl : g < w.is.length := by omega
  obtain ⟨i, o, a2, n2, c2, e2, rfl, _, hr, _, _, hrow, hn⟩ := Ygg (r.same hS) hgl
  simp only [Zax, Int.toNat_natCast, hr, Zar, Zah, Zat, Zai, Zag, Zaz]
  rw [Ymj]
  simp only [Zaw, Zff, Nat.zero_add, List.getElem?_cons_succ, List.getElem?_cons_zero, Zai]
  have hil := Zzu (Zml nd) (w.is.take g)
  rw [List.length_take] at hil
  have htk := Yfy (Zml nd) hgl
  generalize hq : h' ++ [Zco.cells Zac [.str w.is[g].1.1, .str w.is[g].1.2, .slice a2 n2 c2 e2] false] = hq'
  have sq : Zbb h'.length h' hq' := by rw [← hq]; exact Zas
  have skip : ∀ hz, Zbb hq'.length hq' hz → Zml nd w.is[g] = false → Zbt.J7 (fun v h' => Zbb h.length h h' ∧ ∃ a n c e, v = .slice a n c e ∧ Zcv Zgs eI h.length h' a n (Zrd w nd)) R (g : Int) (((n1 : Nat) : Int)) (some (i, o)) n1 c1 e1 nd.1 (.ptr (some (j, 0))) a4 (ixs (Zml nd) (w.is.take g)).length c4 e4 hz := by
   intro hz sz hno
   apply Zbt.J7i
   rw [hno] at htk
   simp only [Bool.false_eq_true, if_false, List.append_nil] at htk
   rw [Zbj (by omega)]
   exact hR (g + 1) _ _ _ _ _ _ (by omega) ⟨rfl, by omega, (hS.cat sq).cat sz, by rw [htk], by rw [htk]; exact (hv.same sq).same sz, ha⟩
  refine ⟨by omega, Zan (fun hc => ?_) (fun hc => skip _ (Zbb.refl _ _) (by unfold Zml; simp [hc]))⟩
  rw [← hq, Yrx, hq]
  simp only [Zar, Zah, Zat, Zai, Zag]
  refine (Yhi (sq.get (hS.get hj (Own.lt hj)) (by have := Own.lt hj; have := hS.le; omega))).mono ?_
  rintro v h3 ⟨rfl, s3⟩
  simp only [Zal]
  refine Zcw (fun hi => ?_) (fun hi => skip _ s3 (by unfold Zml; simp [hi]))
  have hyes : Zml nd w.is[g] = true := by unfold Zml; simp [hc, hi]
  rw [hyes, if_pos rfl] at htk
  have S3 := (hS.cat sq).cat s3
  refine ((hv.same sq).same s3).push Zzs Yoe Yob Ypd (by rw [Zay Zlu]; omega) rfl (by omega) (fun h6 hl6 hi6 hk6 => ?_)
  simp only [Zag]
  apply Zbt.J7i
  rw [Zbj (by omega)]
  have hle := S3.le
  refine hR (g + 1) _ _ _ _ _ _ (by omega) ⟨rfl, by omega, ⟨by omega, fun j hj => ?_⟩, by rw [htk]; simp, Vec.mk1 ?_, fun i hi => by cases hi; omega⟩
  ·rw [hk6 j (by omega) fun i hi => by have := ha i hi; omega]; exact S3.eq j hj
  ·rw [hi6, htk, Zeg]; rfl
 ·apply Zbt.A3x0i
  have : g = n1 := by omega
  subst this
  rw [List.take_of_length_le (by omega)] at hv ⊢
  exact ⟨hS, _, _, _, _, rfl, hv.fresh (b := h.length) rfl fun i hi => ha i hi⟩
def Yqu (w : Wd) (n : Nd) (h : Zaa) (v : Zam) (h' : Zaa) : Prop := Zbb h.length h h' ∧ ∃ a m c e, v = .slice a m c e ∧ Zcv Zgs eI h.length h' a m (Zrd w n)
theorem Zcv.low {α : Type} {ty : TypeId} {enc : α → List Zam} {b b' : Nat} {h : Zaa} {a : Pt} {n : Nat} {l : List α} (f : Zcv ty enc b h a n l) (hb : b' ≤ b) : Zcv ty enc b' h a n l :=
 ⟨f.1, f.2.imp id fun ⟨i, ha, hbi, hi⟩ => ⟨i, ha, by omega, hi⟩⟩
theorem Yad {h : Zaa} {a0 a1 : Pt} {n0 c0 n1 c1 : Nat} {e0 e1 : Bool} {w : Wd} {nd : Nd} (r : Zmm h a0 n0 c0 a1 n1 c1 w) (b : WB w) :
  Zae pg Zkz [.agg [.slice a0 n0 c0 e0, .slice a1 n1 c1 e1], .agg [.str nd.1, .str nd.2]] h (Yqu w nd h) := by
 apply Zok.call
 simp only [Zaz]
 generalize hh0 : h ++ [Zco.cells Zaf [.slice a0 n0 c0 e0, .slice a1 n1 c1 e1] false] = h0
 generalize hh1 : h0 ++ [Zco.cells Zaj [.str nd.1, .str nd.2] false] = h1
 have s0 : Zbb h.length h h0 := by rw [← hh0]; exact Zas
 have s1 : Zbb h0.length h0 h1 := by rw [← hh1]; exact Zas
 have w0 : h0[h.length]? = some (Znv a0 n0 c0 e0 a1 n1 c1 e1) := by rw [← hh0]; simp [Znv]
 have w1 := s1.get w0 (Own.lt w0)
 have i1 : h1[h0.length]? = some (.cells Zaj [.str nd.1, .str nd.2] false) := by rw [← hh1]; simp
 have S1 := s0.cat s1
 rw [Zxv w1]
 simp only [Zar, Zah, Zat, Zag, Zaq i1, Nat.zero_add, List.getElem?_cons_zero, Zai]
 refine (Yic (r.same S1) b i1).mono ?_
 rintro v h2 ⟨s2, a, n, c, e, rfl, f⟩
 simp only [Zag]
 exact ⟨S1.cat s2, a, n, c, e, rfl, f.low S1.le⟩
theorem Zxs {h : Zaa} {a0 a1 : Pt} {n0 c0 n1 c1 : Nat} {e0 e1 : Bool} {w : Wd} {nd : Nd} (r : Zmm h a0 n0 c0 a1 n1 c1 w) (b : WB w) (hnt : nd.2.length ≤ 1048576) :
  Zae pg Zjk [.agg [.slice a0 n0 c0 e0, .slice a1 n1 c1 e1], .agg [.str nd.1, .str nd.2]] h (Yqu w nd h) := by
 have hl1 := r.len1
 have hli := b.li
 apply Zdq.call
 simp only [Zaz]
 generalize hh0 : h ++ [Zco.cells Zaf [.slice a0 n0 c0 e0, .slice a1 n1 c1 e1] false] = h0
 generalize hh1 : h0 ++ [Zco.cells Zaj [.str nd.1, .str nd.2] false] = h1
 generalize hh2 : h1 ++ [Zco.cells Zgs [] false] = h2
 have s0 : Zbb h.length h h0 := by rw [← hh0]; exact Zas
 have s1 : Zbb h0.length h0 h1 := by rw [← hh1]; exact Zas
 have s2 : Zbb h1.length h1 h2 := by rw [← hh2]; exact Zas
 have w0 : h0[h.length]? = some (Znv a0 n0 c0 e0 a1 n1 c1 e1) := by rw [← hh0]; simp [Znv]
 have w2 := s2.get (s1.get w0 (Own.lt w0)) (by have := Own.lt w0; have := s1.le; omega)
 have i1 : h1[h0.length]? = some (.cells Zaj [.str nd.1, .str nd.2] false) := by rw [← hh1]; simp
 have i2 := s2.get i1 (Own.lt i1)
 have o2 : h2[h1.length]? = some (.cells Zgs [] false) := by rw [← hh2]; simp
 have S2 := (s0.cat s1).cat s2
 have hle1 := (s0.cat s1).le
 have l1' : h1.length = h0.length + 1 := by rw [← hh1]; simp
 simp only [Zjq w2, Nat.zero_add, List.getElem?_cons_succ, List.getElem?_cons_zero, Zag]
 refine Zdq.L3ind _ _ _ _ _ _ _ _ (J := fun (g : Nat) a4 n4 c4 e4 x12 h' => x12 = (g : Int) ∧ g ≤ n1 ∧ Zbb h.length h h' ∧ h'[h0.length]? = some (.cells Zaj [.str nd.1, .str nd.2] false) ∧ n4 = (ixs (Zml nd) (w.is.take g)).length ∧ Vec Zgs h' a4 n4 c4 (Zcf eI (ixs (Zml nd) (w.is.take g))) ∧ (∀ i, a4 = some (i, 0) → h1.length ≤ i)) (fun g => n1 - g) ?_ 0 _ _ _ _ _ _
  ⟨rfl, by omega, S2, i2, rfl, Vec.mk1 (by simpa [ixs] using o2), fun i hi => by cases hi; omega⟩
 rintro g a4 n4 c4 e4 x12 h' ⟨rfl, hg, hS, hi0, rfl, hv, ha⟩ R hR
 have hlt1 := Own.lt i1
 unfold Zdq.L3t
 refine Zan (fun hlt => ?_) (fun hge => ?_)
 ·have hgl : g < w.is.length := by omega
  obtain ⟨i, o, a2, n2, c2, e2, rfl, _, hr, _, _, hrow, hn⟩ := Ygg (r.same hS) hgl
  simp only [Zax, Int.toNat_natCast, hr, Zar, Zah, Zat, Zai, Zag, Zaz]
  rw [Ymj]
  have hil := Zzu (Zml nd) (w.is.take g)
  rw [List.length_take] at hil
  have htk := Yfy (Zml nd) hgl
  have hb := b.is _ (List.getElem_mem hgl)
  generalize hq : h' ++ [Zco.cells Zac [.str w.is[g].1.1, .str w.is[g].1.2, .slice a2 n2 c2 e2] false] = hq'
  have sq : Zbb h'.length h' hq' := by rw [← hq]; exact Zas
  have oq : hq'[h'.length]? = some (.cells Zac [.str w.is[g].1.1, .str w.is[g].1.2, .slice a2 n2 c2 e2] false) := by rw [← hq]; simp
  have iq := sq.get hi0 (Own.lt hi0)
  simp only [Zaw, Zaq oq, Zaq iq, Nat.zero_add, List.getElem?_cons_succ, List.getElem?_cons_zero, Zai]
  have skip : ∀ hz, Zbb hq'.length hq' hz → Zml nd w.is[g] = false → Zdq.J7 (Yqu w nd h) R (g : Int) (((n1 : Nat) : Int)) (some (i, o)) n1 c1 e1 h0.length 0 a4 (ixs (Zml nd) (w.is.take g)).length c4 e4 hz := by
   intro hz sz hno
   apply Zdq.J7i
   rw [hno] at htk
   simp only [Bool.false_eq_true, if_false, List.append_nil] at htk
   rw [Zbj (by omega)]
   exact hR (g + 1) _ _ _ _ _ _ (by omega) ⟨rfl, by omega, (hS.cat sq).cat sz, sz.get iq (Own.lt iq), by rw [htk], by rw [htk]; exact (hv.same sq).same sz, ha⟩
  refine ⟨by omega, Zan (fun hc => ?_) (fun hc => skip _ (Zbb.refl _ _) (by unfold Zml; simp [hc]))⟩
  refine (Zxn _ _ hb.2.1 hnt _).mono ?_
  rintro v h3 ⟨rfl, s3⟩
  simp only [Zal]
  refine Zcw (fun hi => ?_) (fun hi => skip _ s3 (by unfold Zml; simp [hi]))
  have hyes : Zml nd w.is[g] = true := by unfold Zml; simp [hc, hi]
  rw [hyes, if_pos rfl] at htk
  have S3 := (hS.cat sq).cat s3
  have i3 := s3.get iq (Own.lt iq)
  refine ((hv.same sq).same s3).push Zzs Yoe Yob Ypd (by rw [Zay Zlu]; omega) rfl (by omega) (fun h6 hl6 hi6 hk6 => ?_)
  simp only [Zag]
  apply Zdq.J7i
  rw [Zbj (by omega)]
  have hle := S3.le
  have hle3 := Own.lt i3
  refine hR (g + 1) _ _ _ _ _ _ (by omega) ⟨rfl, by omega, ⟨by omega, fun j hj => ?_⟩, ?_, by rw [htk]; simp, Vec.mk1 ?_, fun i hi => by cases hi; have := s3.le; have := sq.le; have := Own.lt hi0; omega⟩
  ·rw [hk6 j (by omega) fun i hi => by have := ha i hi; omega]; exact S3.eq j hj
  ·rw [hk6 _ hle3 fun i hi => by have := ha i hi; omega]; exact i3
  ·rw [hi6, htk, Zeg]; rfl
 ·apply Zdq.A3x0i
  have : g = n1 := by omega
  subst this
  rw [List.take_of_length_le (by omega)] at hv ⊢
  exact ⟨hS, _, _, _, _, rfl, hv.fresh (b := h.length) rfl fun i hi => by have := ha i hi; omega⟩
end Go.Sim

set_option linter.unusedVariables false
set_option linter.unusedSimpArgs false
set_option maxRecDepth 20000
namespace Go.Sim
open Go Go.RowKit

def Yek (w : Wd) (x : Int) : Ins := w.is.getD x.toNat (([], []), [])
theorem Ygz {w : Wd} {k : Nat} (h : k < w.is.length) : Yek w (k : Int) = w.is[k] := by unfold Yek; rw [Int.toNat_natCast, Zfp h]
noncomputable def Yug (w : Wd) (l : List Int) (x : Int) : Bool := l.all fun k => Ytz (Yek w x) (Yek w k)
noncomputable def Yuf (w : Wd) (l : List Int) : Int := match l.find? (Yug w l) with | some x => x | none => -1
def InW (w : Wd) (l : List Int) : Prop := ∀ x ∈ l, ∃ k : Nat, x = k ∧ k < w.is.length
theorem Zzl (w : Wd) (n : Nd) : InW w (Zrd w n) := fun x hx => by obtain ⟨k, hk, e, _⟩ := Yqy hx; exact ⟨k, e, hk⟩
theorem Row.i64 {b : Nat} {h : Zaa} {a : Pt} {n : Nat} {l : List Int} (r : Row b h a n (Zcf eI l)) {k : Nat} (hk : k < n) : ∃ i o, ∃ hk' : k < l.length, a = some (i, o) ∧ i < b ∧ Zak h (.ptr (some (i, o + k * 1))) = some (.int .i64 l[k]) := by
 obtain ⟨i, o, hk', ha, hi, hc⟩ := Row.el1 Zlu r hk
 exact ⟨i, o, hk', ha, hi, hc⟩
end Go.Sim

set_option linter.unusedSimpArgs false
set_option linter.unusedVariables false
namespace Go.Sim

theorem Yms {l : List Nd} {t u : List Nat} (h : Zfi l t = some u) : Zos u = true := by
 unfold Zfi at h
 split at h
 ·rename_i hc
  cases h
  simp only [Bool.and_eq_true, decide_eq_true_eq] at hc
  obtain ⟨a, ha⟩ := Zte hc.1.2
  obtain ⟨h1, h2, h3⟩ := Zfs.1 ha
  have := Zoa hc.1.1 h1
  rw [← h2] at this
  exact Zsx.2 ⟨_, this.2, this.1, hc.2⟩
 ·cases h
theorem Yid {i : Ins} {t : List Nat} {ms : List Nd} (h : Zht i t = some ms) : ms.length = i.2.length ∧ ∀ m ∈ ms, Zos m.2 = true ∧ ∃ n ∈ i.2, m.1 = n.1 := by
 unfold Zht at h
 split at h
 ·cases h
 ·rename_i b hb
  split at h
  ·rename_i hall
   cases h
   refine ⟨by simp, fun m hm => ?_⟩
   obtain ⟨n, hn, rfl⟩ := List.mem_map.1 hm
   have := List.all_eq_true.1 hall n hn
   obtain ⟨u, hu⟩ := Option.isSome_iff_exists.1 this
   have h2 := Yms hu
   unfold Zfi at hu
   split at hu
   ·cases hu; exact ⟨h2, n, hn, rfl⟩
   ·cases hu
  ·cases h
theorem Ymn {w : Wd} (hw : Zdm w = true) {i : Ins} (hi : i ∈ w.is) {t : List Nat} {ms : List Nd} (h : Zht i t = some ms) : ms.length ≤ 3 ∧ ∀ m ∈ ms, Zet w m = true := by
 obtain ⟨h1, h2⟩ := Yid h
 unfold Zdm at hw
 simp only [Bool.and_eq_true, List.all_eq_true] at hw
 have h3 := hw.2 i hi
 unfold Zmi at h3
 simp only [Bool.and_eq_true, List.all_eq_true, decide_eq_true_eq] at h3
 refine ⟨by omega, fun m hm => ?_⟩
 obtain ⟨h4, n, hn, he⟩ := h2 m hm
 have h5 := h3.2 n hn
 unfold Zki at h5
 simp only [Bool.and_eq_true] at h5
 unfold Zet
 rw [h4, he, h5.1.1.1]; rfl
end Go.Sim

set_option linter.unusedVariables false
set_option linter.unusedSimpArgs false
set_option maxRecDepth 20000
namespace Go.Sim
open Go Go.RowKit

noncomputable def Ync (l : List Nd) : Bd := l.map fun p => (p.1.headD 0, (Zjp p.2).getD default)
theorem Yac {l : List Nd} (h : Zhl l = true) {p : Nd} (hp : p ∈ l) : ∃ v t, p.1 = [v] ∧ Zdi v = true ∧ Zjp p.2 = some t := by
 obtain ⟨h1, h2⟩ := Zqx h hp
 obtain ⟨t, ht⟩ := Zte h2
 match hq : p.1 with
 | [] => rw [hq] at h1; cases h1
 | [v] => rw [hq] at h1; exact ⟨v, t, rfl, h1, ht⟩
 | _ :: _ :: _ => rw [hq] at h1; cases h1
theorem Ybf : ∀ {l : List Nd}, (∀ p ∈ l, ∃ v t, p.1 = [v] ∧ Zdi v = true ∧ Zjp p.2 = some t) → ∀ c, Zhh (Ync l) c = Zqj l c
 | [], _, c => rfl
 | p :: l, h, c => by
  obtain ⟨v, t, h1, h2, h3⟩ := h p (by simp)
  have ih := Ybf (l := l) (fun q hq => h q (by simp [hq])) c
  unfold Ync Zqj at ih ⊢
  simp only [List.map_cons, Zhh, h1, List.headD_cons, h3, Option.getD_some, List.find?_cons]
  by_cases e : v = c
  ·subst e; simp [h3]
  ·have : ¬ ([v] : List Nat) = [c] := fun x => e (by simpa using x)
   simp only [e, if_false, this, decide_false]
   exact ih
theorem Ylq {l : List Nd} (h : Zhl l = true) : ∀ (g : Nat) (hg : g < l.length) (k : Nat) (hk : k < g), (l[k]'(by omega)).1.headD 0 < l[g].1.headD 0
 | 0, _, k, hk => by omega
 | g + 1, hg, k, hk => by
  have h1 := (Zvr h hg).2.2
  rcases h1 with h1 | h1
  ·omega
  ·rw [Nat.add_sub_cancel, Zfp (by omega)] at h1
   obtain ⟨v, t, hv, _⟩ := Yac h (List.getElem_mem (h := hg))
   obtain ⟨u, t', hu, _⟩ := Yac h (List.getElem_mem (l := l) (n := g) (h := by omega))
   rw [hv, hu, Zwr] at h1
   have h2 : u < v := of_decide_eq_true h1
   by_cases e : k = g
   ·subst e; rw [hv, hu]; exact h2
   ·have := Ylq h g (by omega) k (by omega)
    rw [hu] at this; rw [hv]
    simp only [List.headD_cons] at this ⊢; omega
theorem Yja {l : List Nd} (h : Zhl l = true) {g v : Nat} (hg : g < l.length) (hv : l[g].1 = [v]) : Zhh (Ync (l.take g)) v = none := by
 rw [Ztk]
 intro hm
 unfold Ync at hm
 rw [List.map_map] at hm
 obtain ⟨p, hp, he⟩ := List.mem_map.1 hm
 obtain ⟨k, hk, rfl⟩ := List.getElem_of_mem hp
 simp only [List.length_take] at hk
 have := Ylq h g hg k (by omega)
 rw [hv] at this
 simp only [Function.comp_def, List.getElem_take, List.headD_cons] at he this
 omega
theorem Zsk.mono {S S' : Nat → Prop} {h : Zaa} {i : Nat} {m : Bd} (r : Zsk S h i m) (hs : ∀ j, S j → S' j) : Zsk S' h i m := by
 obtain ⟨rows, h1, h2, h3⟩ := r
 refine ⟨rows, h1, h2, fun k x hx => ?_⟩
 have := h3 k x hx
 split at this
 ·exact this.mono hs
 ·exact this
theorem Zsk.below {S : Nat → Prop} {h : Zaa} {i : Nat} {m : Bd} (r : Zsk S h i m) : Zsk (fun j => S j ∧ j < h.length) h i m := by
 obtain ⟨rows, h1, h2, h3⟩ := r
 refine ⟨rows, h1, h2, fun k x hx => ?_⟩
 have := h3 k x hx
 split at this
 ·exact Zhy.below this
 ·exact this
theorem Ztx {h : Zaa} {a : Pt} {n c : Nat} {e : Bool} {l : List Nd} {t : List Nat} (r : Row h.length h a (n * 2) (Zcf eP l)) (hn : n ≤ 1048576) (hb : ∀ p ∈ l, p.2.length ≤ 1048576) (hb1 : ∀ p ∈ l, ∀ x ∈ p.1, x < 256) (ht : t.length ≤ 1048576) :
  Zae pg Zin [.slice a n c e, .str t] h fun v h' => v = Zmt l t ∧ Zbb h.length h h' := by
 have hl : l.length = n := by have := r.1; rw [Zay Zek] at this; omega
 apply Zer.call
 refine (Zqi t (by omega) h).mono ?_
 rintro v h1 ⟨s1, vs1, rfl, r1⟩
 obtain ⟨d1, a1, n1, c1, e1, rfl⟩ := Zrb r1
 simp only [Zdn, Zah, Zdp, Zau, Zag, Zat, Zal, Zaz]
 rw [Zgv]
 generalize hh2 : h1 ++ [Zco.cells Zad [.int .u8 d1, .slice a1 n1 c1 e1] false] = h2
 have s2 : Zbb h1.length h1 h2 := by rw [← hh2]; exact Zas
 have o2 : h2[h1.length]? = some (.cells Zad [.int .u8 d1, .slice a1 n1 c1 e1] false) := by rw [← hh2]; simp
 have S2 := s1.cat s2
 simp only [Zaw]
 cases hto : Zos t with
 | false =>
  simp only [Bool.not_false, Zct]
  exact ⟨by unfold Zmt Zfi; rw [hto]; simp, S2⟩
 | true =>
 simp only [Bool.not_true, Zbh]
 obtain ⟨u, hu⟩ := Zte hto
 obtain ⟨hu1, hu2, hu3⟩ := Zfs.1 hu
 rw [hu] at r1
 simp only at r1
 refine (Zug (r.same' S2) hn hb hb1).mono ?_
 rintro v h3 ⟨rfl, s3⟩
 simp only [Zal]
 have S3 := S2.cat s3
 refine Zcb (fun b1 => ⟨by unfold Zmt Zfi; rw [b1]; rfl, S3⟩) (fun b1 => ?_)
 apply Zer.J4i
 simp only [Zaz]
 rw [← Ylo]
 generalize hh4 : h3 ++ [Zco.cells Zfb (Zcf eR (List.replicate 12 (Zam.int .u8 0, Zam.slice none 0 0 true))) false] = h4
 have s4 : Zbb h3.length h3 h4 := by rw [← hh4]; exact Zas
 have o4 : h4[h3.length]? = some (.cells Zfb (Zcf eR (List.replicate 12 (Zam.int .u8 0, Zam.slice none 0 0 true))) false) := by rw [← hh4]; simp
 have l4 : h4.length = h3.length + 1 := by rw [← hh4]; simp
 have hone : ∀ p ∈ l, ∃ v t, p.1 = [v] ∧ Zdi v = true ∧ Zjp p.2 = some t := fun p hp => Yac b1 hp
 have o3 := s3.get o2 (Own.lt o2)
 refine Zer.L6ind _ _ _ _ _ _ _ _ _ _ (J := fun (g : Nat) x28 h' => x28 = (g : Int) ∧ g ≤ n ∧ Zbb h3.length h3 h' ∧ h4.length ≤ h'.length ∧ Zsk (fun j => j ≠ h3.length) h' h3.length (Ync (l.take g))) (fun g => n - g) ?_ 0 _ _ ⟨rfl, by omega, s4, Nat.le_refl _, Zsk.nil o4⟩
 rintro g x28 h' ⟨rfl, hg, hS, hl4, rm⟩ R hR
 have SS := S3.cat hS
 unfold Zer.L6t
 refine Zan (fun hlt => ?_) (fun hge => ?_)
 ·obtain ⟨i, o, hgl, rfl, hi, hr, _, _⟩ := (r.same SS).pr (k := g) (by omega)
  obtain ⟨v, tt, hv1, hv2, hv3⟩ := hone _ (List.getElem_mem hgl)
  obtain ⟨ht1, ht2, ht3⟩ := Zfs.1 hv3
  simp only [Zax, Int.toNat_natCast, hr, Zar, Zah, Zat, Zai, Zaz]
  rw [Zgv]
  generalize hq : h' ++ [Zco.cells Zbe [.str l[g].1, .str l[g].2] false] = hq'
  have sq : Zbb h'.length h' hq' := by rw [← hq]; exact Zas
  have oq : hq'[h'.length]? = some (.cells Zbe [.str l[g].1, .str l[g].2] false) := by rw [← hq]; simp
  have hlq := sq.le
  rw [hv1] at oq
  simp only [Zaw, Zaq oq, Nat.zero_add, List.getElem?_cons_succ, List.getElem?_cons_zero, Zai]
  refine ⟨by omega, by simp, ?_⟩
  simp only [Int.toNat_zero, List.getD_cons_zero]
  refine (Ztp v).mono ?_
  rintro v' h5 ⟨rfl, rfl⟩
  obtain ⟨k, hk6, hkv, hix⟩ := Zxd hv2
  simp only [hix, Zau, Zaq oq, List.getElem?_cons_succ, List.getElem?_cons_zero, true_and]
  refine (Zqi l[g].2 (by omega) h5).mono ?_
  rintro v' h6 ⟨s6, vs6, rfl, r6⟩
  obtain ⟨d6, a6, n6, c6, e6, rfl⟩ := Zrb r6
  rw [hv3] at r6
  simp only at r6
  have hl6 := s6.le
  have ho6 : Zak h6 (.ptr (some (h'.length, 0))) = Zak h5 (.ptr (some (h'.length, 0))) := by simp only [Zak, s6.eq _ (Own.lt oq)]
  simp only [Zdn, Zah, Zdp, Zau, Zag, Zat, Zal, ho6, true_and]
  have rm6 := (rm.same sq).same s6
  obtain ⟨h7, hst, hK, rm7⟩ := rm6.put (fun j hj => hj) hkv (Yja b1 hgl hv1) (r6.mono fun j hj => by have := hj.1; omega)
  rw [Int.toNat_natCast, Nat.zero_add] at *
  rw [hst]
  simp only [Zaw]
  rw [Zbj (by omega)]
  have hK7 := hK.le
  refine ⟨by rw [Zaq oq]; rfl, ⟨by omega, by omega⟩, hR (g + 1) _ _ (by omega) ⟨rfl, by omega, ⟨by omega, fun j hj => ?_⟩, by omega, ?_⟩⟩
  ·rw [hK.eq j (by omega) (by omega), s6.eq j (by omega), sq.eq j (by omega), hS.eq j hj]
  ·have : Ync (l.take (g + 1)) = Ync (l.take g) ++ [(v, tt)] := by
    unfold Ync
    rw [List.take_succ_eq_append_getElem hgl, List.map_append]
    simp [hv1, hv3]
   rw [this]; exact rm7
 ·apply Zer.A6x0i
  have : g = n := by omega
  subst this
  rw [List.take_of_length_le (by omega)] at rm
  have hS3 := S3.le
  have h31 : h1.length ≤ h3.length := (s2.cat s3).le
  have o5 := hS.get o3 (Own.lt o3)
  simp only [Zem o5 (show 0 + 2 ≤ _ by simp), List.drop_zero, List.take_succ_cons, List.take_zero, Zar, Zah, Zat, Zau, Zag]
  have hbm : ∀ c, Zhh (Ync l) c = Zqj l c := Ybf hone
  have rt := (((r1.same s2).same s3).same hS).mono (S' := fun j => j ≠ h3.length) (fun j hj => by have := hj.2; omega)
  refine (Yfo _ (Nat.le_refl _) hu1 (S := fun j => j ≠ h3.length ∧ j < h'.length) (fun j hj => ⟨hj.2, hj.1⟩) rt.below rm.below.w (fun v w hw => ?_) (fun v hv => ?_)).mono ?_
  ·rw [hbm] at hw; exact ((Ztu b1 v).2 w hw).1
  ·rw [hbm]; exact (Zsw b1 hv).2
  rintro v h6 ⟨s6, nv, rfl, hn6⟩
  rw [show Zhh (Ync l) = Zqj l from funext hbm] at hn6
  obtain ⟨na, nc, ne, rfl⟩ := hn6.shape
  have hat := Zoa b1 hu1
  rw [← hu2] at hat
  have hal := Ztv b1 t
  simp only [Zdp, Zah, Zau, Zag, Zat, Zaz]
  rw [Zgv]
  generalize hh7 : h6 ++ [Zco.cells Zad [.int .u8 ((subst (Zqj l) u).hd : Int), .slice na (subst (Zqj l) u).ps.length nc ne] false] = h7
  have s7 : Zbb h6.length h6 h7 := by rw [← hh7]; exact Zas
  have o7 : h7[h6.length]? = some (.cells Zad [.int .u8 ((subst (Zqj l) u).hd : Int), .slice na (subst (Zqj l) u).ps.length nc ne] false) := by rw [← hh7]; simp
  have S7 := (SS.cat s6).cat s7
  simp only [Zaw, Zem o7 (show 0 + 2 ≤ _ by simp), List.drop_zero, List.take_succ_cons, List.take_zero, Zar, Zah, Zat, Zau, Zag]
  refine (Zsf _ (Nat.le_refl _) (by rw [← hat.1]; omega) (hn6.same s7)).mono ?_
  rintro v h8 ⟨rfl, s8⟩
  have o8 := s8.get o7 (Own.lt o7)
  simp only [Zau]
  rw [← hat.1]
  refine Zan (fun hbig => ⟨by unfold Zmt Zfi; rw [if_neg (by simp; omega)], S7.cat s8⟩) (fun hsm => ?_)
  simp only [Zem o8 (show 0 + 2 ≤ _ by simp), List.drop_zero, List.take_succ_cons, List.take_zero, Zar, Zah, Zat, Zau, Zag]
  refine (Zqd _ (Nat.le_refl _) (by rw [← hat.1]; omega) hat.2 ((hn6.same s7).same s8)).mono ?_
  rintro v h9 ⟨rfl, s9⟩
  simp only [Zai]
  refine ⟨?_, (S7.cat s8).cat s9⟩
  unfold Zmt Zfi
  rw [if_pos (by rw [b1, hto]; simp; omega), hat.1]
theorem Yae (p s : List Nat) : (∀ q ∈ Zjt p s, q.2.length ≤ 1048576) ∧ (∀ q ∈ Zjt p s, ∀ x ∈ q.1, x < 256) ∧ (Zjt p s).length ≤ 6 := by
 unfold Zjt
 cases hm : Zjv p s with
 | none => simp
 | some m =>
  have b := Zwl hm
  refine ⟨fun q hq => ?_, fun q hq x hx => ?_, Yna m⟩
  ·have hq' := Zqx (Yjg b) hq
   have := Zzk hq'.2; omega
  ·simp only [Ygl, List.mem_map, List.mem_filter] at hq
   obtain ⟨v, ⟨hv, _⟩, rfl⟩ := hq
   simp at hx; subst hx
   have := (Zqo x).1 hv
   simp only [Zdi, Bool.or_eq_true, beq_iff_eq] at this; omega
theorem Ymw {h : Zaa} {a : Pt} {n c : Nat} {e : Bool} {i : Ins} {t : List Nat} (r : Row h.length h a (n * 2) (Zcf eP i.2)) (hn : n ≤ 1048576) (hi : i.1.2.length ≤ 1048576) (ht : t.length ≤ 1048576) (hns : ∀ p ∈ i.2, p.2.length ≤ 1048576) :
  Zae pg Znl [.agg [.str i.1.1, .str i.1.2, .slice a n c e], .str t] h (Yln i t h) := by
 have hl : i.2.length = n := by have := r.1; rw [Zay Zek] at this; omega
 apply Zjb.call
 simp only [Zaz]
 generalize hh0 : h ++ [Zco.cells Zac [.str i.1.1, .str i.1.2, .slice a n c e] false] = h0
 generalize hh1 : h0 ++ [Zco.cells Zaj [] false] = h1
 have s0 : Zbb h.length h h0 := by rw [← hh0]; exact Zas
 have s1 : Zbb h0.length h0 h1 := by rw [← hh1]; exact Zas
 have o0 : h0[h.length]? = some (.cells Zac [.str i.1.1, .str i.1.2, .slice a n c e] false) := by rw [← hh0]; simp
 have x1 := s1.get o0 (Own.lt o0)
 have o1 : h1[h0.length]? = some (.cells Zaj [] false) := by rw [← hh1]; simp
 have l0 : h0.length = h.length + 1 := by rw [← hh0]; simp
 simp only [Zaq x1, Nat.zero_add, List.getElem?_cons_succ, List.getElem?_cons_zero, Zai]
 refine (Ztj i.1.2 t hi ht h1).mono ?_
 rintro v h2 ⟨s2, ma, mn, mc, me, rfl, hmc, fm⟩
 simp only [Zdn, Zah, Zag, Zal, Zat]
 have S2 := (s0.cat s1).cat s2
 have o2 := s2.get o1 (Own.lt o1)
 have x2 := s2.get x1 (Own.lt x1)
 obtain ⟨hmb1, hmb2, hml⟩ := Yae i.1.2 t
 have hmn := fm.1
 have hS1le : h.length ≤ h1.length := (s0.cat s1).le
 have hnw0 : Zpy i.1.2 t = false → Zht i t = none := fun hno => by
  unfold Zht Zpy at *
  cases hm : Zjv i.1.2 t with
  | none => rfl
  | some m => rw [hm] at hno; cases hno
 refine Zcb (fun b1 => ⟨S2, _, 0, 0, true, by rw [hnw0 b1]; rfl, by rw [hnw0 b1]; exact ⟨rfl, .inl rfl⟩⟩) (fun b1 => ?_)
 simp only [Zaq x2, List.getElem?_cons_succ, List.getElem?_cons_zero, Zag]
 have hnw : Zht i t = if i.2.all (fun p => (Zfi (Zjt i.1.2 t) p.2).isSome) then some (i.2.map (Yqb (Zjt i.1.2 t))) else none := by
  unfold Zht Zpy at *
  cases hm : Zjv i.1.2 t with
  | none => rw [hm] at b1; cases b1
  | some m =>
   have hml' : Zjt i.1.2 t = bdL m := by unfold Zjt; rw [hm]
   simp only [hml']
   by_cases hall : i.2.all (fun p => (Zfi (bdL m) p.2).isSome) = true
   ·rw [if_pos hall, if_pos hall, Ygs hall]
   ·rw [if_neg hall, if_neg hall]
 generalize Zjt i.1.2 t = ml at *
 refine Zjb.L6ind _ _ _ _ _ _ _ _ _ _ (J := fun (g : Nat) a8 n8 c8 e8 x28 h' => x28 = (g : Int) ∧ g ≤ n ∧ Zbb h.length h h' ∧ h2.length ≤ h'.length ∧ Row h'.length h' ma (mn * 2) (Zcf eP ml) ∧ (i.2.take g).all (fun p => (Zfi ml p.2).isSome) = true ∧ n8 = g ∧ Vec Zaj h' a8 n8 c8 (Zcf eP ((i.2.take g).map (Yqb ml))) ∧ (∀ j, a8 = some (j, 0) → j = h0.length ∨ h2.length ≤ j)) (fun g => n - g) ?_ 0 _ _ _ _ _ _
  ⟨rfl, by omega, S2, Nat.le_refl _, fm.row Zek, rfl, rfl, Vec.mk1 (by simpa using o2), fun j hj => by cases hj; exact .inl rfl⟩
 rintro g a8 n8 c8 e8 x28 h' ⟨rfl, hg, hS, hl1, hrm, hall, rfl, hv, ha⟩ R hR
 unfold Zjb.L6t
 have hl2 : h1.length ≤ h2.length := s2.le
 refine Zan (fun hlt => ?_) (fun hge => ?_)
 ·obtain ⟨j, o, hgl, rfl, hj, hr, _, _⟩ := (r.same hS).pr (k := n8) (by omega)
  simp only [Zax, Int.toNat_natCast, hr, Zar, Zah, Zat, Zai, Zaz]
  rw [Zgv]
  generalize hq : h' ++ [Zco.cells Zaj [.str i.2[n8].1, .str i.2[n8].2] false] = hq'
  have sq : Zbb h'.length h' hq' := by rw [← hq]; exact Zas
  have oq : hq'[h'.length]? = some (.cells Zaj [.str i.2[n8].1, .str i.2[n8].2] false) := by rw [← hq]; simp
  simp only [Zaw, Zaq oq, Nat.zero_add, List.getElem?_cons_succ, List.getElem?_cons_zero, Zai]
  refine ⟨by omega, (Ztx (hrm.same' sq) (by omega) hmb1 hmb2 (hns _ (List.getElem_mem hgl))).mono ?_⟩
  rintro v h3 ⟨rfl, s3⟩
  have hshape : Zmt ml i.2[n8].2 = .tup [.str ((Zfi ml i.2[n8].2).getD []), .bool (Zfi ml i.2[n8].2).isSome] := by
   unfold Zmt; cases Zfi ml i.2[n8].2 <;> rfl
  rw [hshape]
  simp only [Zdn, Zah, Zai, Zal, Zat]
  have S3 := (hS.cat sq).cat s3
  have o3 := s3.get oq (Own.lt oq)
  refine Zcb (fun b2 => ?_) (fun b2 => ?_)
  ·have : Zht i t = none := by rw [hnw, Zse hgl b2]; rfl
   exact ⟨S3.cat Zas, _, 0, 0, true, by rw [this]; rfl, by rw [this]; exact ⟨rfl, .inl rfl⟩⟩
  ·simp only [Zaq o3, List.getElem?_cons_zero, Zai]
   refine ((hv.same sq).same s3).pushN Ybh Ylc Ykg Yjw (by rw [Zay Zek]; simp; omega) rfl (by omega) rfl (by omega) (fun h6 hl6 hi6 hk6 => ?_)
   simp only [Zag]
   rw [Zbj (by omega)]
   have hle := S3.le
   have hlq := sq.le
   have hl3 := s3.le
   have hb8 : ∀ j, a8 = some (j, 0) → h.length ≤ j := fun j hj => by rcases ha j hj with hh | hh <;> omega
   have hlast : ∀ j, (some (h3.length + 1, 0) : Pt) = some (j, 0) → j = h0.length ∨ h2.length ≤ j := fun j hj => by
    cases hj
    exact .inr (by omega)
   refine hR (n8 + 1) _ _ _ _ _ _ (by omega) ⟨rfl, by omega, ⟨by omega, fun j hj => ?_⟩, by omega, ?_, Zgk hgl hall b2, rfl, Vec.mk1 ?_, hlast⟩
   ·rw [hk6 j (by omega) fun q hq => by have := hb8 q hq; omega]; exact S3.eq j hj
   ·have hr3 := (hrm.same' sq).same' s3
    obtain ⟨hx1, hx2⟩ := hr3
    rcases fm.2 with h0' | ⟨q2, hq2, hqb2, hq3⟩
    ·exact ⟨hx1, .inl (by omega)⟩
    ·refine ⟨hx1, hx2.imp id ?_⟩
     rintro ⟨q, o', ty, all, ro, hqa, hqb, hqg, hq4, hq5⟩
     refine ⟨q, o', ty, all, ro, hqa, by omega, ?_, hq4, hq5⟩
     rw [hk6 q hqb fun q' hq' => ?_]
     ·exact hqg
     ·intro e
      subst e
      rw [hqa] at hq2; cases hq2
      have := Own.lt hq3
      rcases ha _ hq' with hh | hh
      ·have := Own.lt o1; omega
      ·omega
   ·rw [hi6, List.take_succ_eq_append_getElem hgl, List.map_append, Zeg]; rfl
 ·apply Zjb.A6x0i
  have : n8 = n := by omega
  subst this
  rw [show i.2.take n8 = i.2 from List.take_of_length_le (by omega)] at hv hall
  have : Zht i t = some (i.2.map (Yqb ml)) := by rw [hnw, hall]; rfl
  refine ⟨hS, a8, n8, c8, e8, by rw [this]; rfl, ?_⟩
  rw [this]
  exact hv.fresh (b := h.length) (by simp; omega) fun j hj => by rcases ha j hj with hh | hh <;> omega
end Go.Sim

set_option linter.unusedVariables false
set_option linter.unusedSimpArgs false
set_option maxRecDepth 20000
namespace Go.Sim
open Go Go.RowKit

end Go.Sim

set_option linter.unusedSimpArgs false
set_option linter.unusedVariables false
namespace Go.Sim

def Up (cs : List Nd) (a b : Nat) : Prop := ∃ i, ∃ h : i < cs.length, cs[i].1 = [a] ∧ b ∈ cs[i].2
inductive Rch (cs : List Nd) (a : Nat) : Nat → Prop
 | one {b : Nat} : Up cs a b → Rch cs a b
 | more {b c : Nat} : Rch cs a b → Up cs b c → Rch cs a c
theorem Zzw {cs : List Nd} (h : Zjj cs = true) {i : Nat} (hi : i < cs.length) : Zvv cs i = true := by
 unfold Zjj at h
 simp only [Bool.and_eq_true, List.all_eq_true] at h
 exact h.1 i (List.mem_range.2 hi)
theorem Ynt {cs : List Nd} (h : Zjj cs = true) {i : Nat} (hi : i < cs.length) : ∃ d, cs[i].1 = [d] ∧ 65 ≤ d ∧ d ≤ 84 := by
 have := Zzw h hi
 unfold Zvv at this
 rw [Zfp hi] at this
 simp only [Bool.and_eq_true] at this
 have h1 := this.1.1
 unfold Zuf at h1
 split at h1
 ·rename_i d hd; exact ⟨d, hd, by simpa using h1⟩
 ·cases h1
theorem Ybd {cs : List Nd} (h : Zjj cs = true) {i : Nat} (hi : i + 1 < cs.length) {a b : Nat} (ha : cs[i].1 = [a]) (hb : cs[i + 1].1 = [b]) : a < b := by
 have := Zzw h hi
 unfold Zvv at this
 rw [Zfp hi, Nat.add_sub_cancel, Zfp (by omega), ha, hb] at this
 simp only [Bool.and_eq_true] at this
 have h1 := this.1.2
 simpa [Zeh] using h1
theorem Yag {cs : List Nd} (h : Zjj cs = true) : ∀ (k i : Nat) (hi : i + k + 1 < cs.length) {a b : Nat}, cs[i].1 = [a] → cs[i + k + 1].1 = [b] → a < b
 | 0, i, hi, a, b, ha, hb => Ybd h hi ha hb
 | k + 1, i, hi, a, b, ha, hb => by
  obtain ⟨d, hd, _⟩ := Ynt h (show i + k + 1 < cs.length by omega)
  have h1 := Yag h k i (by omega) ha hd
  have h2 := Ybd h (i := i + k + 1) (by omega) hd hb
  omega
theorem Yfi {cs : List Nd} (h : Zjj cs = true) {i j : Nat} (hi : i < cs.length) (hj : j < cs.length) {a : Nat} (ha : cs[i].1 = [a]) (hb : cs[j].1 = [a]) : i = j := by
 rcases Nat.lt_trichotomy i j with hl | he | hl
 ·obtain ⟨k, rfl⟩ : ∃ k, j = i + k + 1 := ⟨j - i - 1, by omega⟩
  have := Yag h k i hj ha hb; omega
 ·exact he
 ·obtain ⟨k, rfl⟩ : ∃ k, i = j + k + 1 := ⟨i - j - 1, by omega⟩
  have := Yag h k j hi hb ha; omega
theorem Zta {cs : List Nd} (h : Zjj cs = true) {i : Nat} (hi : i < cs.length) {b : Nat} (hb : b ∈ cs[i].2) : ∃ j, ∃ hj : j < i, cs[j].1 = [b] := by
 have := Zzw h hi
 unfold Zvv at this
 rw [Zfp hi] at this
 simp only [Bool.and_eq_true] at this
 have h1 := this.2
 unfold Ydd at h1
 rw [List.all_eq_true] at h1
 obtain ⟨k, hk, rfl⟩ := List.mem_iff_getElem.1 hb
 have h2 := h1 k (List.mem_range.2 hk)
 unfold Zxt at h2
 rw [Zfp hk] at h2
 simp only [Bool.and_eq_true] at h2
 have h3 := h2.1
 unfold Zgj at h3
 rw [List.any_eq_true] at h3
 obtain ⟨x, hx, he⟩ := h3
 obtain ⟨j, hj, rfl⟩ := List.mem_iff_getElem.1 hx
 rw [List.length_take] at hj
 exact ⟨j, by omega, by simpa using he⟩
theorem Up.ix {cs : List Nd} (h : Zjj cs = true) {a b i : Nat} (u : Up cs a b) (hi : i < cs.length) (ha : cs[i].1 = [a]) : b ∈ cs[i].2 := by
 obtain ⟨j, hj, hja, hb⟩ := u
 have := Yfi h hi hj ha hja
 subst this; exact hb
theorem Rch.ix {cs : List Nd} (h : Zjj cs = true) {a b i : Nat} (r : Rch cs a b) (hi : i < cs.length) (ha : cs[i].1 = [a]) : ∃ j, ∃ hj : j < i, cs[j].1 = [b] := by
 induction r with
 | one u => exact Zta h hi (u.ix h hi ha)
 | more _ u ih =>
  obtain ⟨j, hj, hb⟩ := ih
  obtain ⟨k, hk, hc⟩ := Zta h (show j < cs.length by omega) (u.ix h (by omega) hb)
  exact ⟨k, by omega, hc⟩
structure Ycp (cs : List Nd) (a : Nat) (i : Nat) (ab : List Nat) : Prop where
 sound : ∀ d ∈ ab, Rch cs a d
 done : ∀ j, i ≤ j → ∀ hj : j < cs.length, (cs[j].1 = [a] ∨ ∃ d, cs[j].1 = [d] ∧ d ∈ ab) → ∀ b ∈ cs[j].2, b ∈ ab
theorem Ycp.step {cs : List Nd} (h : Zjj cs = true) {a i : Nat} {ab : List Nat} (D : Ycp cs a (i + 1) ab) (hi : i < cs.length) (hc : cs[i].1 = [a] ∨ ∃ d, cs[i].1 = [d] ∧ d ∈ ab) : Ycp cs a i (ab ++ cs[i].2) := by
 refine ⟨fun d hd => ?_, fun j hj hjl hcj b hb => ?_⟩
 ·rcases List.mem_append.1 hd with hd | hd
  ·exact D.sound d hd
  ·rcases hc with hc | ⟨e, he, hm⟩
   ·exact .one ⟨i, hi, hc, hd⟩
   ·exact .more (D.sound e hm) ⟨i, hi, he, hd⟩
 ·by_cases hji : j = i
  ·subst hji; exact List.mem_append_right _ hb
  ·refine List.mem_append_left _ (D.done j (by omega) hjl ?_ b hb)
   rcases hcj with hcj | ⟨e, he, hm⟩
   ·exact .inl hcj
   ·rcases List.mem_append.1 hm with hm | hm
    ·exact .inr ⟨e, he, hm⟩
    ·exfalso
     obtain ⟨k, hk, hke⟩ := Zta h hi hm
     have := Yfi h hjl (show k < cs.length by omega) he hke
     omega
theorem Ycp.skip {cs : List Nd} {a i : Nat} {ab : List Nat} (D : Ycp cs a (i + 1) ab) (hc : ∀ hi : i < cs.length, ¬ (cs[i].1 = [a] ∨ ∃ d, cs[i].1 = [d] ∧ d ∈ ab)) : Ycp cs a i ab :=
 ⟨D.sound, fun j hj hjl hcj b hb => by
  by_cases hji : j = i
  ·subst hji; exact absurd hcj (hc hjl)
  ·exact D.done j (by omega) hjl hcj b hb⟩
theorem Ycp.all {cs : List Nd} (h : Zjj cs = true) {a i : Nat} {ab : List Nat} (D : Ycp cs a 0 ab) (hi : i < cs.length) (ha : cs[i].1 = [a]) (d : Nat) : d ∈ ab ↔ Rch cs a d := by
 refine ⟨D.sound d, fun r => ?_⟩
 induction r with
 | one u => exact D.done i (by omega) hi (.inl ha) _ (u.ix h hi ha)
 | more r u ih =>
  obtain ⟨j, hj, hb⟩ := r.ix h hi ha
  exact D.done j (by omega) (by omega) (.inr ⟨_, hb, ih⟩) _ (u.ix h (by omega) hb)
structure Yth (cs : List Nd) (a i : Nat) (r : Nat) (ab : List Nat) : Prop where
 sound : ∀ d ∈ ab, Rch cs a d
 first : ∀ d, Up cs a d → d ∈ ab
 near : ∀ j, j < i → i ≤ j + 1 + r → ∀ hj : j < cs.length, ∀ d, cs[j].1 = [d] → Rch cs a d → d ∈ ab
theorem Yth.next {cs : List Nd} (h : Zjj cs = true) {a i r : Nat} {ab ab' : List Nat} (R : Yth cs a i r ab) (hi : i < cs.length) (ha : cs[i].1 = [a])
  (hs : ∀ d ∈ ab', d ∈ ab ∨ ∃ e ∈ ab, Up cs e d) (hc : ∀ d, (d ∈ ab ∨ ∃ e ∈ ab, Up cs e d) → d ∈ ab') : Yth cs a i (r + 1) ab' := by
 refine ⟨fun d hd => ?_, fun d u => hc d (.inl (R.first d u)), fun j hj hn hjl d hd rc => ?_⟩
 ·rcases hs d hd with hd | ⟨e, he, u⟩
  ·exact R.sound d hd
  ·exact .more (R.sound e he) u
 ·cases rc with
  | one u => exact hc d (.inl (R.first d u))
  | more rc u =>
   rename_i e
   obtain ⟨k, hk, hb⟩ := rc.ix h hi ha
   have hjk : j < k := by
    obtain ⟨q, hq, hcq⟩ := Zta h (show k < cs.length by omega) (u.ix h (by omega) hb)
    have := Yfi h hjl (show q < cs.length by omega) hd hcq
    omega
   exact hc d (.inr ⟨e, R.near k hk (by omega) (by omega) e hb rc, u⟩)
theorem Yth.all {cs : List Nd} (h : Zjj cs = true) {a i r : Nat} {ab : List Nat} (R : Yth cs a i r ab) (hi : i < cs.length) (ha : cs[i].1 = [a]) (hr : i ≤ r + 1) (d : Nat) : d ∈ ab ↔ Rch cs a d := by
 refine ⟨R.sound d, fun rc => ?_⟩
 obtain ⟨j, hj, hd⟩ := rc.ix h hi ha
 exact R.near j hj (by omega) (by omega) d hd rc
end Go.Sim

set_option linter.unusedVariables false
set_option linter.unusedSimpArgs false
set_option maxRecDepth 20000
namespace Go.Sim
open Go Go.RowKit

end Go.Sim

set_option linter.unusedVariables false
set_option linter.unusedSimpArgs false
set_option maxRecDepth 20000
namespace Go.Sim
open Go Go.RowKit

end Go.Sim

set_option linter.unusedVariables false
set_option linter.unusedSimpArgs false
set_option maxRecDepth 20000
namespace Go.Sim
open Go Go.RowKit

structure Yrl (b : Nat) (h : Zaa) (a : Pt) (n c : Nat) (l : List Nd) : Prop where
 vec : Vec Zaj h a n c (Zcf eP l)
 len : l.length = n
 low : ∀ i, a = some (i, 0) → b ≤ i
theorem Yrl.row {b : Nat} {h : Zaa} {a : Pt} {n c : Nat} {l : List Nd} (f : Yrl b h a n c l) : Row h.length h a (n * 2) (Zcf eP l) := f.vec.row (by rw [Zay Zek, f.len])
theorem Yrl.same {b : Nat} {h h' : Zaa} {a : Pt} {n c : Nat} {l : List Nd} (f : Yrl b h a n c l) (s : Zbb h.length h h') : Yrl b h' a n c l := ⟨f.vec.same s, f.len, f.low⟩
def But (a : Pt) (h h' : Zaa) : Prop := h.length ≤ h'.length ∧ ∀ j, j < h.length → (∀ i, a = some (i, 0) → j ≠ i) → h'[j]? = h[j]?
theorem But.of {a : Pt} {h h' : Zaa} (s : Zbb h.length h h') : But a h h' := ⟨s.le, fun j hj _ => s.eq j hj⟩
theorem But.below {a : Pt} {b : Nat} {h h' : Zaa} (s : But a h h') (hb : b ≤ h.length) (hl : ∀ i, a = some (i, 0) → b ≤ i) : Zbb b h h' := ⟨s.1, fun j hj => s.2 j (by omega) fun i hi => by have := hl i hi; omega⟩
end Go.Sim

set_option linter.unusedSimpArgs false
set_option linter.unusedVariables false
namespace Go.Sim

structure Wk where
 cand : Nd → List Int
 needs : Int → List Nat → Option (List Nd)
 most : List Int → Int
inductive Fnd where
 | ok (s : List Nat)
 | no (why : List Nat) (n : Nd)
def Ytr : List Nat := [119, 114, 111, 110, 103]
end Go.Sim

set_option linter.unusedVariables false
set_option linter.unusedSimpArgs false
set_option maxRecDepth 20000
namespace Go.Sim
open Go Go.RowKit

noncomputable def wk (w : Wd) : Wk := ⟨Zrd w, fun x t => Zht (Yek w x) t, Yuf w⟩
structure FrS (i : Nat) (qa : Pt) (h h' : Zaa) (qa' : Pt) : Prop where
 le : h.length ≤ h'.length
 eq : ∀ j, j < h.length → j ≠ i → (∀ q, qa = some (q, 0) → j ≠ q) → h'[j]? = h[j]?
 pt : qa' = qa ∨ ∀ q, qa' = some (q, 0) → h.length ≤ q
theorem FrS.of_same {i : Nat} {qa : Pt} {h h' : Zaa} (s : Zbb h.length h h') : FrS i qa h h' qa := ⟨s.le, fun j hj _ _ => s.eq j hj, .inl rfl⟩
theorem FrS.refl (i : Nat) (qa : Pt) (h : Zaa) : FrS i qa h h qa := .of_same (Zbb.refl _ _)
theorem FrS.ne {i : Nat} {qa qa' : Pt} {h h' : Zaa} (f : FrS i qa h h' qa') {j : Nat} (hj : j < h.length) (hq : ∀ q, qa = some (q, 0) → j ≠ q) : ∀ q, qa' = some (q, 0) → j ≠ q := by
 intro q hq'
 rcases f.pt with e | e
 ·exact hq q (e ▸ hq')
 ·have := e q hq'; omega
theorem FrS.trans {i : Nat} {qa qa1 qa2 : Pt} {h h1 h2 : Zaa} (f : FrS i qa h h1 qa1) (g : FrS i qa1 h1 h2 qa2) : FrS i qa h h2 qa2 := by
 have := f.le; have := g.le
 refine ⟨by omega, fun j hj hi hq => ?_, ?_⟩
 ·rw [g.eq j (by omega) hi (f.ne hj hq)]; exact f.eq j hj hi hq
 ·rcases g.pt with e | e
  ·rcases f.pt with e' | e'
   ·exact .inl (e.trans e')
   ·exact .inr fun q hq => e' q (e ▸ hq)
  ·exact .inr fun q hq => by have := e q hq; omega
theorem FrS.set {i : Nat} {qa : Pt} {h : Zaa} {x : Zco} : FrS i qa h (h.set i x) qa := ⟨by simp, fun j _ hi _ => Zcj (fun e => hi e.symm), .inl rfl⟩
theorem FrS.get {i : Nat} {qa qa' : Pt} {h h' : Zaa} (f : FrS i qa h h' qa') {j : Nat} {x : Zco} (hj : h[j]? = some x) (hi : j ≠ i) (hq : ∀ q, qa = some (q, 0) → j ≠ q) : h'[j]? = some x := by rw [f.eq j (Own.lt hj) hi hq]; exact hj
theorem FrS.row {i : Nat} {qa qa' : Pt} {h h' : Zaa} (f : FrS i qa h h' qa') {a : Pt} {n : Nat} {cs : List Zam} (r : Row h.length h a n cs) (hn : ∀ j o, n ≠ 0 → a = some (j, o) → j ≠ i ∧ ∀ q, qa = some (q, 0) → j ≠ q) : Row h'.length h' a n cs := by
 obtain ⟨hl, r⟩ := r
 by_cases h0 : n = 0
 ·exact ⟨hl, .inl h0⟩
 ·refine ⟨hl, r.imp id ?_⟩
  rintro ⟨j, o', t, all, ro, ha, hi, hg, x⟩
  have := f.le
  obtain ⟨h1, h2⟩ := hn j o' h0 ha
  exact ⟨j, o', t, all, ro, ha, by omega, by rw [f.eq j hi h1 h2]; exact hg, x⟩
theorem FrS.below {i b : Nat} {qa qa' : Pt} {h h' : Zaa} (f : FrS i qa h h' qa') (hb : b ≤ h.length) (hi : b ≤ i) (hq : ∀ q, qa = some (q, 0) → b ≤ q) : Zbb b h h' := ⟨f.le, fun j hj => f.eq j (by omega) (by omega) fun q hq' => by have := hq q hq'; omega⟩
theorem Ydc {w : Wd} (hw : Zdm w = true) {n : Nd} {k : Nat} (hk : k < w.is.length) {ms : List Nd} (h : Zht w.is[k] n.2 = some ms) : ms.length ≤ 3 ∧ ∀ m ∈ ms, Zet w m = true := by
 have := Ymn hw (List.getElem_mem hk) h
 exact ⟨this.1, this.2⟩
theorem Zty {w : Wd} {n : Nd} (h : Zet w n = true) : Zos n.2 = true ∧ n.2.length ≤ 60 := by
 have : Zos n.2 = true := by
  unfold Zet at h
  simp only [Bool.and_eq_true] at h
  exact h.2
 exact ⟨this, (Zzk this)⟩
end Go.Sim

set_option linter.unusedSimpArgs false
set_option linter.unusedVariables false
namespace Go.Sim

def Yuy : Fnd → List Nat | .ok s => s | .no _ _ => []
def Yut : Fnd → List Nat | .ok _ => [] | .no y _ => y
section
variable {k : Wk} {sp : Bool} {dec : Int → List Nat}
end
end Go.Sim

set_option linter.unusedVariables false
set_option linter.unusedSimpArgs false
set_option maxRecDepth 20000
namespace Go.Sim
open Go Go.RowKit

theorem Vec.app0 {P : Program} {t ty : TypeId} {h : Zaa} {i n c sz : Nat} {e : Bool} {xa : Pt} {m c' : Nat} {e' : Bool} {cs new : List Zam} {K : Zam → Zaa → Prop} (hi : h[i]? = some (.cells ty cs false))
  (hu : P.underlying t = some (.slice ty)) (hc : P.cellsOf ty = sz) (hok : P.okElem ty = true) (hby : P.bytesOf ty ≤ 127) (hn : cs.length = n * sz) (hx : rowOf h xa (m * sz) = some new) (hl : new.all Zam.leaf = true)
  (hle : n + m ≤ 1099511627776) (hk : ∀ h', h'.length = h.length + 1 → h'[h.length]? = some (.cells ty (cs ++ new) false) → (∀ j, j < h.length → j ≠ i → h'[j]? = h[j]?) →
   K (.slice (some (h.length, 0)) (n + m) (n + m) false) h') : Zdd P t h (.slice (some (i, 0)) n c e) (.slice xa m c' e') K := by
 unfold Zdd
 simp only [hu, hc, hx, Zar]
 refine ⟨⟨hok, ?_, hl⟩, .inl ⟨by trivial, ?_⟩⟩
 ·have : (n + m) * (P.bytesOf ty + 1) ≤ (n + m) * 128 := Nat.mul_le_mul_left _ (by omega)
  omega
 ·simp only [Zpq, hi, true_and]
  refine ⟨hn, hk _ (by simp) (by rw [List.getElem?_append_right (by simp)]; simp) fun j hj hne => ?_⟩
  rw [List.getElem?_append_left (by simpa using hj), List.getElem?_set_ne (fun e => hne e.symm)]
theorem Yjs {h : Zaa} {a : Pt} {n c : Nat} {e : Bool} {l : List Nd} (r : Row h.length h a (n * 2) (Zcf eP l)) (he : a = none → e = true) (hn : n ≤ 1048576) :
  Zae pg Zea [.slice a n c e] h fun v h' => ∃ a' c' e', v = .slice a' n c' e' ∧ Yrl h.length h' a' n c' l ∧ Zbb h.length h h' ∧ (a' = none → e' = true) := by
 have hl : l.length = n := by have := r.1; rw [Zay Zek] at this; omega
 apply Zfo.call
 refine ⟨he, ?_⟩
 match a with
 | none =>
  have h0 : n = 0 := by
   rcases r.2 with h0 | ⟨i, o, t, all, ro, ha, _⟩
   ·omega
   ·cases ha
  subst h0
  have : l = [] := List.eq_nil_of_length_eq_zero hl
  subst this
  exact ⟨none, 0, true, rfl, ⟨.inl ⟨rfl, rfl, rfl, rfl⟩, rfl, fun i hi => by cases hi⟩, Zbb.refl _ _, fun _ => rfl⟩
 | some (i, o) =>
  simp only [Option.isNone_some, Zaz]
  generalize hh0 : h ++ [Zco.cells Zaj [] false] = h0
  have s0 : Zbb h.length h h0 := by rw [← hh0]; exact Zas
  have o0 : h0[h.length]? = some (.cells Zaj [] false) := by rw [← hh0]; simp
  have l0 : h0.length = h.length + 1 := by rw [← hh0]; simp
  refine Zcw (fun h => by cases h) (fun _ => ?_)
  refine Vec.app0 (n := 0) o0 Ynv Ysr Ytl Yta (by simp) (r.same' s0).rowOf (Zwa (enc := eP) (fun _ => rfl) l) (by omega) (fun h1 hl1 hi1 hk1 => ?_)
  simp only [Zag, Nat.zero_add]
  exact ⟨_, _, _, rfl, ⟨Vec.mk1 (by simpa using hi1), hl, fun j hj => by cases hj; omega⟩, ⟨by omega, fun j hj => by rw [hk1 j (by omega) (by omega)]; exact s0.eq j hj⟩, fun h => by cases h⟩
structure Ypw (hb : Zaa) (i : Nat) (u v : Zam) (sp : Bool) (h : Zaa) (qa : Pt) (asked : List Nd) (fl : Nd) : Prop where
 same : Zbb hb.length hb h
 ge : hb.length ≤ i
 ob : ∃ qn qc qe x7, h[i]? = some (.cells Zze [u, v, .bool sp, .fn Zrc [], .slice qa qn qc qe, .str fl.1, .str fl.2, x7] false) ∧ Yrl hb.length h qa qn qc asked
 ne : ∀ q, qa = some (q, 0) → q ≠ i
section
variable {hb : Zaa} {i : Nat} {u v : Zam} {sp : Bool} {h : Zaa} {qa : Pt} {asked : List Nd} {fl : Nd}
theorem Ypw.step {h' : Zaa} (r : Ypw hb i u v sp h qa asked fl) (k : Zbb h.length h h') : Ypw hb i u v sp h' qa asked fl := by
 obtain ⟨qn, qc, qe, x7, ho, hv⟩ := r.ob
 exact ⟨r.same.trans (k.mono r.same.le), r.ge, ⟨qn, qc, qe, x7, k.get ho (Own.lt ho), hv.same k⟩, r.ne⟩
theorem Ypw.lt (r : Ypw hb i u v sp h qa asked fl) : i < h.length := by obtain ⟨_, _, _, _, ho, _⟩ := r.ob; exact Own.lt ho
theorem Ypw.low (r : Ypw hb i u v sp h qa asked fl) : ∀ q, qa = some (q, 0) → hb.length ≤ q ∧ q < h.length := by
 obtain ⟨qn, qc, qe, x7, ho, hv⟩ := r.ob
 exact fun q hq => ⟨hv.low q hq, hv.vec.lt' hq⟩
def Yue (hb : Zaa) (i : Nat) (u v : Zam) (sp : Bool) (h : Zaa) (qa : Pt) (r : Fnd × List Nd) (x : Zam) (h' : Zaa) : Prop :=
 ∃ qa' fl', x = .tup [.str (Yuy r.1), .str (Yut r.1)] ∧ Ypw hb i u v sp h' qa' r.2 fl' ∧ FrS i qa h h' qa' ∧ ∀ y n, r.1 = .no y n → (y ≠ [] ∧ y ≠ Ytr) ∧ fl' = n
theorem Yue.of {h0 : Zaa} {qa0 : Pt} {r : Fnd × List Nd} {x : Zam} {h' : Zaa} (F : FrS i qa0 h0 h qa) (q : Yue hb i u v sp h qa r x h') : Yue hb i u v sp h0 qa0 r x h' := by
 obtain ⟨qa', fl', e, a, f, z⟩ := q
 exact ⟨qa', fl', e, a, F.trans f, z⟩
end
theorem Ydl {w : Wd} (h : Zdm w = true) : w.is.length ≤ 10 := by
 unfold Zdm at h
 simp only [Bool.and_eq_true, decide_eq_true_eq] at h
 exact h.1.2
end Go.Sim

set_option linter.unusedVariables false
set_option linter.unusedSimpArgs false
set_option maxRecDepth 20000
namespace Go.Sim
open Go Go.RowKit

def Zsh (k : Int) (n : Nat) : List Int := (List.range n).map fun (j : Nat) => k + j
theorem Zob (k : Int) (n : Nat) : (Zsh k n).length = n := by simp [Zsh]
theorem Yhb (k : Int) (n : Nat) : Zsh k (n + 1) = Zsh k n ++ [k + n] := by simp [Zsh, List.range_succ]
theorem Ymv (k : Int) {n g : Nat} (h : g < n) : (Zsh k n)[g]'(by rw [Zob]; exact h) = k + g := by simp [Zsh]
theorem Yrr {L : List Int} {g : Nat} {x : Int} (hg : g < L.length) : putRow (Zcf eI L) (g * 1) [.int .i64 x] = Zcf eI (L.take g ++ x :: L.drop (g + 1)) := by
 have hA : (Zcf eI (L.take g)).length = g := by rw [Zay Zlu, List.length_take]; omega
 have h1 : Zcf eI L = Zcf eI (L.take g) ++ .int .i64 L[g] :: Zcf eI (L.drop (g + 1)) := by
  have e0 : L = L.take g ++ L[g] :: L.drop (g + 1) := by rw [← List.drop_eq_getElem_cons hg, List.take_append_drop]
  have := congrArg (Zcf eI) e0
  rw [Zeg, Zfu] at this
  exact this
 rw [Zeg, Zfu, h1]
 unfold putRow
 rw [Nat.mul_one]
 generalize Zcf eI (L.take g) = A at *
 subst hA
 rw [List.take_left, show A.length + [Zam.int .i64 x].length = A.length + 1 from rfl, ← List.drop_drop, List.drop_left]
 simp [eI]
theorem Ydy {h : Zaa} {b : Nat} {a : Pt} {n c : Nat} {e : Bool} {l : List Int} {k : Int} (f : Zcv Zgs eI b h a n l) (hk : 0 ≤ k ∧ k + n ≤ 4611686018427387000) :
  Zae pg Zmo [.slice a n c e, .int .i64 k] h fun v h' => v = .int .i64 (k + n) ∧ Zxw a n h h' ∧ Zcv Zgs eI b h' a n (Zsh k n) := by
 apply Zhv.call
 obtain ⟨hl, hf⟩ := f
 refine Zhv.L2ind _ _ _ _ _ (J := fun (g : Nat) x1 x5 h' => x5 = (g : Int) ∧ g ≤ n ∧ x1 = k + g ∧ Zxw a n h h' ∧ (n = 0 ∨ ∃ i, a = some (i, 0) ∧ b ≤ i ∧ h'[i]? = some (.cells Zgs (Zcf eI (Zsh k g ++ l.drop g)) false))) (fun g => n - g) ?_ 0 _ _ _
  ⟨rfl, by omega, by simp, Zxw.refl _ _ _, by simpa [Zsh] using hf⟩
 rintro g x1 x5 h' ⟨rfl, hg, rfl, hO, hst⟩ R hR
 unfold Zhv.L2t
 refine Zan (fun hlt => ?_) (fun hge => ?_)
 ·rcases hst with h0 | ⟨i, rfl, hbi, ho⟩
  ·omega
  have hn0 : n ≠ 0 := by omega
  have hgl : g < (Zsh k g ++ l.drop g).length := by simp [Zob]; omega
  have hlen : (Zcf eI (Zsh k g ++ l.drop g)).length = n := by rw [Zay Zlu]; simp [Zob]; omega
  simp only [Zax, Int.toNat_natCast, Nat.zero_add]
  rw [Zbr ho (by rw [hlen]; simp; omega)]
  simp only [Zaw]
  rw [IntWalk.i64_in _ (by omega), Zbj (by omega), Yrr hgl]
  refine ⟨by omega, hR (g + 1) _ _ _ (by omega) ⟨rfl, by omega, by omega, hO.set hn0, .inr ⟨i, rfl, hbi, ?_⟩⟩⟩
  rw [Zcq ho]
  congr 3
  rw [List.take_left' (Zob k g), Yhb]
  have : (Zsh k g ++ l.drop g).drop (g + 1) = l.drop (g + 1) := by
   rw [← List.drop_drop, List.drop_left' (Zob k g), List.drop_drop]
  rw [this]; simp
 ·have : g = n := by omega
  subst this
  apply Zhv.A2x0i
  refine ⟨rfl, hO, Zob _ _, ?_⟩
  rw [List.drop_of_length_le (by omega), List.append_nil] at hst
  exact hst
theorem Ydx {h : Zaa} {a : Pt} {n c : Nat} {e : Bool} {k : Int} (r : Row h.length h a n (Zcf eI (Zsh k n))) (hk : 0 ≤ k ∧ k + n ≤ 4611686018427387000) :
  Zae pg Zhq [.slice a n c e, .int .i64 k] h fun v h' => v = .int .i64 (k + n) ∧ h' = h := by
 apply Zhu.call
 refine Zhu.L2ind _ _ _ _ _ (J := fun (g : Nat) x1 x5 h' => x5 = (g : Int) ∧ g ≤ n ∧ x1 = k + g ∧ h' = h) (fun g => n - g) ?_ 0 _ _ _ ⟨rfl, by omega, by simp, rfl⟩
 rintro g x1 x5 h' ⟨rfl, hg, rfl, rfl⟩ R hR
 unfold Zhu.L2t
 refine Zan (fun hlt => ?_) (fun hge => ?_)
 ·obtain ⟨i, o, hgl, rfl, hi, hc⟩ := Row.el1 Zlu r (k := g) (by omega)
  rw [Ymv k (by omega)] at hc
  simp only [eI, List.getElem?_cons_zero] at hc
  simp only [Zax, Int.toNat_natCast, hc, Zau, beq_self_eq_true, Bool.not_true, Zbh]
  rw [IntWalk.i64_in _ (by omega), Zbj (by omega)]
  exact ⟨by omega, hR (g + 1) _ _ _ (by omega) ⟨rfl, by omega, by omega, rfl⟩⟩
 ·have : g = n := by omega
  subst this
  exact Zhu.A2x0i _ _ _ ⟨rfl, rfl⟩
end Go.Sim

set_option linter.unusedVariables false
set_option linter.unusedSimpArgs false
set_option maxRecDepth 20000
namespace Go.Sim
open Go Go.RowKit
theorem Zxz {h : Zaa} {b : Nat} {a : Pt} {n c : Nat} {e : Bool} {l : List Nd} {k : Int} (f : Zcv Zbc eP b h a n l) (hk : 0 ≤ k ∧ k + 2 * n ≤ 4611686018427387000) :
  Zae pg Zlc [.slice a n c e, .int .i64 k] h fun v h' => v = .int .i64 (k + 2 * n) ∧ Zxw a n h h' ∧ Zcv Zbc eP b h' a n (Zmj k n) := by
 apply Zgf.call
 obtain ⟨hl, hf⟩ := f
 refine Zgf.L2ind _ _ _ _ _ (J := fun (g : Nat) x1 x5 h' => x5 = (g : Int) ∧ g ≤ n ∧ x1 = k + 2 * g ∧ Zxw a n h h' ∧ (n = 0 ∨ ∃ i, a = some (i, 0) ∧ b ≤ i ∧ h'[i]? = some (.cells Zbc (Zcf eP (Zmj k g ++ l.drop g)) false))) (fun g => n - g) ?_ 0 _ _ _
  ⟨rfl, by omega, by simp, Zxw.refl _ _ _, by simpa [Zmj] using hf⟩
 rintro g x1 x5 h' ⟨rfl, hg, rfl, hO, hst⟩ R hR
 unfold Zgf.L2t
 refine Zan (fun hlt => ?_) (fun hge => ?_)
 ·rcases hst with h0 | ⟨i, rfl, hbi, ho⟩
  ·omega
  have hn0 : n ≠ 0 := by omega
  have hgl : g < (Zmj k g ++ l.drop g).length := by simp [Ziq]; omega
  have hlen : (Zcf eP (Zmj k g ++ l.drop g)).length = n * 2 := by rw [Zay Zek]; simp [Ziq]; omega
  refine (Zkt (by omega)).mono ?_
  rintro v h1 ⟨rfl, s1⟩
  simp only [Zai, Zax, Int.toNat_natCast, Nat.zero_add, Nat.add_zero]
  have ho1 : h1[i]? = some (.cells Zbc (Zcf eP (Zmj k g ++ l.drop g)) false) := by rw [s1.eq i (Own.lt ho)]; exact ho
  rw [Zbr ho1 (by rw [hlen]; simp; omega)]
  simp only [Zaw]
  refine ⟨by omega, (Zkt (by rw [IntWalk.i64_in _ (by omega)]; omega)).mono ?_⟩
  rintro v h2 ⟨rfl, s2⟩
  simp only [Zai]
  rw [IntWalk.i64_in (k + 2 * (g : Int) + 1) (by omega)]
  have ho2 : h2[i]? = some (.cells Zbc (putRow (Zcf eP (Zmj k g ++ l.drop g)) (g * 2) [.str (Zmw (k + 2 * g))]) false) := by rw [s2.eq i (by simp; exact Own.lt ho1)]; exact Zcq ho1
  have hlen2 : (putRow (Zcf eP (Zmj k g ++ l.drop g)) (g * 2) [.str (Zmw (k + 2 * g))]).length = n * 2 := by rw [Zsu (by rw [hlen]; simp; omega), hlen]
  rw [Zbr ho2 (by rw [hlen2]; simp; omega)]
  simp only [Zaw]
  rw [IntWalk.i64_in _ (by omega), Zbj (by omega)]
  refine ⟨by omega, hR (g + 1) _ _ _ (by omega) ⟨rfl, by omega, by omega, ((hO.same s1).set hn0 |>.same s2).set hn0, .inr ⟨i, rfl, hbi, ?_⟩⟩⟩
  rw [Zcq ho2, Ymc hgl]
  congr 3
  rw [List.take_left' (Ziq k g), Zys]
  have : (Zmj k g ++ l.drop g).drop (g + 1) = l.drop (g + 1) := by
   rw [← List.drop_drop, List.drop_left' (Ziq k g), List.drop_drop]
  rw [this]; simp
 ·have : g = n := by omega
  subst this
  apply Zgf.A2x0i
  refine ⟨rfl, hO, Ziq _ _, ?_⟩
  rw [List.drop_of_length_le (by omega), List.append_nil] at hst
  exact hst
theorem Yjk {cs : List Zam} {o : Nat} {v : Zam} (h : o < cs.length) : putRow cs o [v] = cs.set o v := by
 unfold putRow; rw [List.set_eq_take_append_cons_drop, if_pos h]; simp
theorem Zzd {h : Zaa} {i j : Nat} {t t' : TypeId} {cs cs' : List Zam} (hi : h[i]? = some (.cells t cs false)) (hj : h[j]? = some (.cells t' cs' false)) (ht : t ≠ t') : i ≠ j := by
 intro e; subst e; rw [hi] at hj; cases hj; exact ht rfl
theorem Ysz : Zac ≠ Zaj := by decide
theorem Zcv.off {α : Type} {ty : TypeId} {enc : α → List Zam} {b : Nat} {h h' : Zaa} {a : Pt} {n : Nat} {l : List α} (f : Zcv ty enc b h a n l) (hk : ∀ i, a = some (i, 0) → n ≠ 0 → i < h.length → h'[i]? = h[i]?) : Zcv ty enc b h' a n l := by
 obtain ⟨hl, h0 | ⟨i, ha, hb, hi⟩⟩ := f
 ·exact ⟨hl, .inl h0⟩
 ·by_cases hn : n = 0
  ·exact ⟨hl, .inl hn⟩
  ·exact ⟨hl, .inr ⟨i, ha, hb, by rw [hk i ha hn (Own.lt hi)]; exact hi⟩⟩
theorem Zuy {h : Zaa} {b n c : Nat} {e : Bool} {a : Pt} {ys : List EI} {is : List Ins} {k : Int} (f : Zcv Zac eN b h a n ys) (hl : ys.length = is.length) (hn20 : n ≤ 1048576) (hi20 : ∀ i ∈ is, i.2.length ≤ 1048576)
  (hN : ∀ (k : Nat) (x : EI) (i : Ins), ys[k]? = some x → is[k]? = some i → Zcv Zaj eP b h x.a x.n i.2) (sep : ∀ (j k : Nat) (x y : EI), j ≠ k → ys[j]? = some x → ys[k]? = some y → x.n ≠ 0 → y.n ≠ 0 → x.a ≠ y.a)
  {H : Nat} (hH : ∀ i, a = some (i, 0) → n ≠ 0 → i < H) (hHn : ∀ (q : Nat) (x : EI), ys[q]? = some x → ∀ j, x.a = some (j, 0) → x.n ≠ 0 → j < H)
  (hk : 0 ≤ k ∧ k ≤ 4398046511104) : Zae pg Zio [.slice a n c e, .int .i64 k] h fun v h' => (∃ z, v = .int .i64 z ∧ 0 ≤ z ∧ z ≤ 13194139533312) ∧ Mid b H h h' := by
 apply Zfl.call
 obtain ⟨hyl, hf⟩ := f
 refine Zfl.L2ind _ _ _ _ _ (J := fun (g : Nat) x1 x5 h' => x5 = (g : Int) ∧ g ≤ n ∧ 0 ≤ x1 ∧ x1 ≤ k + g * 2097160 ∧ Mid b H h h' ∧
   (n = 0 ∨ ∃ i cs, a = some (i, 0) ∧ b ≤ i ∧ i < H ∧ h'[i]? = some (.cells Zac cs false) ∧ cs.length = n * 3 ∧ ∀ (q : Nat) (x : EI), ys[q]? = some x → cs[q * 3 + 2]? = some (.slice x.a x.n x.cp x.e)) ∧
   (∀ (q : Nat) (x : EI) (i : Ins), g ≤ q → ys[q]? = some x → is[q]? = some i → Zcv Zaj eP b h' x.a x.n i.2 ∧ ∀ j, x.a = some (j, 0) → x.n ≠ 0 → j < H)) (fun g => n - g) ?_ 0 _ _ _
  ⟨rfl, by omega, hk.1, by omega, Mid.refl _ _ _, ?_, ?_⟩
 ·rintro g x1 x5 h' ⟨rfl, hg, h0, hx1, hM, hst, hrow⟩ R hR
  unfold Zfl.L2t
  refine Zan (fun hlt => ?_) (fun hge => ?_)
  ·rcases hst with hz | ⟨i, cs, rfl, hbi, hih, hi, hcl, hsl⟩
   ·omega
   have hgy : g < ys.length := by omega
   have hgi : g < is.length := by omega
   have hB : (g : Int) * 2097160 ≤ 1048576 * 2097160 := by omega
   have hlm := hM.1
   refine (Zkt (by omega)).mono ?_
   rintro v h1 ⟨rfl, s1⟩
   simp only [Zai, Zax, Int.toNat_natCast, Nat.zero_add, Nat.add_zero]
   have i1 := s1.get hi (Own.lt hi)
   rw [Zbr i1 (by rw [hcl]; simp; omega), Yjk (by rw [hcl]; omega)]
   simp only [Zaw]
   refine ⟨by omega, (Zkt (by rw [IntWalk.i64_in _ (by omega)]; omega)).mono ?_⟩
   rintro v h2 ⟨rfl, s2⟩
   simp only [Zai]
   have i2 := s2.get (Zcq i1 (x := .cells Zac (cs.set (g * 3) (.str (Zmw x1))) false)) (by simp; exact Own.lt i1)
   rw [Zbr i2 (by rw [List.length_set, hcl]; simp; omega), Yjk (by rw [List.length_set, hcl]; omega)]
   simp only [Zaw]
   have i3 := Zcq i2 (x := .cells Zac ((cs.set (g * 3) (.str (Zmw x1))).set (g * 3 + 1) (.str (Zmw (IntKind.wrap .i64 (x1 + 1))))) false)
   have hcell : ((cs.set (g * 3) (.str (Zmw x1))).set (g * 3 + 1) (.str (Zmw (IntKind.wrap .i64 (x1 + 1)))))[g * 3 + 2]? = some (.slice ys[g].a ys[g].n ys[g].cp ys[g].e) := by
    rw [List.getElem?_set_ne (by omega), List.getElem?_set_ne (by omega)]
    exact hsl g ys[g] (List.getElem?_eq_getElem hgy)
   refine ⟨by omega, by omega, ?_⟩
   rw [Zaq i3, hcell]
   simp only [Zag]
   rw [IntWalk.i64_in (x1 + 1) (by omega), IntWalk.i64_in (x1 + 1 + 1) (by omega)] at *
   generalize hh3 : h2.set i (.cells Zac ((cs.set (g * 3) (.str (Zmw x1))).set (g * 3 + 1) (.str (Zmw (x1 + 1)))) false) = h3 at *
   have M3 : Mid b H h h3 := by
    rw [← hh3]
    exact ((((hM.same s1).set hbi hih).same s2).set hbi hih)
   have oth : ∀ j, j ≠ i → j < h'.length → h3[j]? = h'[j]? := fun j hj hjl => by
    rw [← hh3, Zcj (Ne.symm hj), s2.eq j (by simp; have := s1.le; omega), Zcj (Ne.symm hj), s1.eq j hjl]
   have hrow3 : ∀ (q : Nat) (x : EI) (ii : Ins), g ≤ q → ys[q]? = some x → is[q]? = some ii → Zcv Zaj eP b h3 x.a x.n ii.2 ∧ ∀ j, x.a = some (j, 0) → x.n ≠ 0 → j < H := fun q x ii hq hx hii => by
    obtain ⟨p1, p2⟩ := hrow q x ii hq hx hii
    refine ⟨p1.off fun j ha hn hj => oth j (fun e => ?_) hj, p2⟩
    subst e
    rcases p1.2 with h0 | ⟨j', ha', _, hj'⟩
    ·exact hn h0
    ·rw [ha] at ha'; cases ha'
     exact Zzd hi hj' Ysz rfl
   obtain ⟨p1, p2⟩ := hrow3 g ys[g] is[g] (Nat.le_refl _) (List.getElem?_eq_getElem hgy) (List.getElem?_eq_getElem hgi)
   have hlen := hi20 is[g] (List.getElem_mem hgi)
   have hpn := p1.1
   refine (Ydb p1 (k := x1 + 1 + 1) (by omega)).mono ?_
   rintro v h4 ⟨rfl, o4, f4⟩
   simp only [Zau]
   rw [Zbj (by omega)]
   have i4 : h4[i]? = some (.cells Zac ((cs.set (g * 3) (.str (Zmw x1))).set (g * 3 + 1) (.str (Zmw (x1 + 1)))) false) := by
    rw [o4.2 i (Own.lt i3) fun j hj hn => ?_]; exact i3
    rcases p1.2 with h0 | ⟨j', ha', _, hj'⟩
    ·exact absurd h0 hn
    ·rw [hj] at ha'; cases ha'
     exact Zzd i3 hj' Ysz
   refine hR (g + 1) _ _ _ (by omega) ⟨rfl, by omega, by omega, by push_cast; omega, M3.trans ?_, .inr ⟨i, _, rfl, hbi, hih, i4, by simp [hcl], fun q x hx => ?_⟩, fun q x ii hq hx hii => ?_⟩
   ·refine ⟨o4.1, fun j hj hn => o4.2 j hj fun q hq h0 => ?_⟩
    have := p2 q hq h0
    rcases p1.2 with hz | ⟨j', ha', hb', _⟩
    ·exact absurd hz h0
    ·rw [hq] at ha'; cases ha'; omega
   ·rw [List.getElem?_set_ne (by omega), List.getElem?_set_ne (by omega)]
    exact hsl q x hx
   ·obtain ⟨r1, r2⟩ := hrow3 q x ii (by omega) hx hii
    refine ⟨r1.off fun j ha hn hj => o4.2 j hj fun q' hq' h0 => ?_, r2⟩
    intro e; subst e
    exact sep g q ys[g] x (by omega) (List.getElem?_eq_getElem hgy) hx h0 hn (by rw [hq', ha])
  ·apply Zfl.A2x0i
   exact ⟨⟨_, rfl, h0, by omega⟩, hM⟩
 ·rcases hf with h0 | ⟨i, ha, hbi, hi⟩
  ·exact .inl h0
  by_cases hn0 : n = 0
  ·exact .inl hn0
  refine .inr ⟨i, _, ha, hbi, hH i ha hn0, hi, by rw [Zay Ziy, hyl], fun q x hx => ?_⟩
  have hq := (List.getElem?_eq_some_iff.1 hx).1
  have hd := Yfa Ziy ys q
  have h2 : (Zcf eN ys)[q * 3 + 2]? = ((Zcf eN ys).drop (q * 3))[2]? := by rw [List.getElem?_drop]
  rw [h2, hd, List.drop_eq_getElem_cons hq, Zfu]
  have : ys[q] = x := by rw [List.getElem?_eq_getElem hq] at hx; exact Option.some.inj hx
  rw [this]; rfl
 ·intro q x i _ hx hii
  refine ⟨hN q x i hx hii, fun j ha hn => ?_⟩
  exact hHn q x hx j ha hn
structure Yup (H : Nat) (a0 : Pt) (n0 : Nat) (a1 : Pt) (n1 : Nat) (ys : List EI) : Prop where
 cls : ∀ i, a0 = some (i, 0) → n0 ≠ 0 → i < H
 ins : ∀ i, a1 = some (i, 0) → n1 ≠ 0 → i < H
 need : ∀ (q : Nat) (x : EI), ys[q]? = some x → ∀ j, x.a = some (j, 0) → x.n ≠ 0 → j < H
theorem Zne.bel {b : Nat} {h : Zaa} {a0 a1 : Pt} {n0 n1 : Nat} {ys : List EI} {w : Wd} (f : Zne b h a0 n0 a1 n1 ys w) : Yup h.length a0 n0 a1 n1 ys :=
 ⟨fun i hi hn => (f.cls.in i hi hn).2, fun i hi hn => (f.ins.in i hi hn).2, fun q x hx j hj hn => by
  have hq := (List.getElem?_eq_some_iff.1 hx).1
  exact ((f.need q x (w.is[q]'(by have := f.len; omega)) hx (List.getElem?_eq_getElem _)).2.2.in j hj hn).2⟩
theorem Ybx {h : Zaa} {b n0 c0 n1 c1 : Nat} {e0 e1 : Bool} {a0 a1 : Pt} {ys : List EI} {w : Wd} {k : Int} (f : Zne b h a0 n0 a1 n1 ys w) (hb : WB w) {H : Nat} (hH : Yup H a0 n0 a1 n1 ys) (hHl : H ≤ h.length) (hk : 0 ≤ k ∧ k ≤ 1048576) :
  Zae pg Zln [.agg [.slice a0 n0 c0 e0, .slice a1 n1 c1 e1], .int .i64 k] h fun v h' => (∃ z, v = .int .i64 z ∧ 0 ≤ z ∧ z ≤ 13194139533312) ∧ Mid b H h h' := by
 have hl0 := f.cls.1
 have hl1 := f.ins.1
 have hlc := hb.lc
 have hli := hb.li
 have hyl := f.len
 apply Zpt.call
 simp only [Zaz]
 generalize hh0 : h ++ [Zco.cells Zaf [.slice a0 n0 c0 e0, .slice a1 n1 c1 e1] false] = h0
 have s0 : Zbb h.length h h0 := by rw [← hh0]; exact Zas
 have w0 : h0[h.length]? = some (Znv a0 n0 c0 e0 a1 n1 c1 e1) := by rw [← hh0]; simp [Znv]
 simp only [Zjq w0, Nat.zero_add, List.getElem?_cons_succ, List.getElem?_cons_zero, Zag]
 have f0 := f.same s0
 refine (Zxz f0.cls (by omega)).mono ?_
 rintro v h2 ⟨rfl, o2, g2⟩
 simp only [Zau]
 have hin := f.cls.in
 have w2 : h2[h.length]? = some (Znv a0 n0 c0 e0 a1 n1 c1 e1) := by
  rw [o2.2 _ (Own.lt w0) fun j hj hn => by have := (hin j hj hn).2; omega]; exact w0
 simp only [Zjq w2, Nat.zero_add, List.getElem?_cons_succ, List.getElem?_cons_zero, Zag]
 have M2 : Mid b H h h2 := (Mid.of_same s0).trans (o2.mid fun i hi hn => ⟨(hin i hi hn).1, hH.cls i hi hn⟩)
 have offC : ∀ (ty : TypeId), ty ≠ Zbc → ∀ {α : Type} {enc : α → List Zam} {a : Pt} {n : Nat} {l : List α}, Zcv ty enc b h0 a n l → Zcv ty enc b h2 a n l := fun ty hty α enc a n l p => p.off fun j ha hn hj => o2.2 j hj fun q hq h0 e => by
  subst e
  rcases p.2 with hz | ⟨j', ha', _, hj'⟩
  ·exact hn hz
  ·rw [ha] at ha'; cases ha'
   rcases f0.cls.2 with hz | ⟨j', ha', _, hj''⟩
   ·exact h0 hz
   ·rw [hq] at ha'; cases ha'
    exact Zzd hj' hj'' hty rfl
 have n1 : Zac ≠ Zbc := by decide
 have n2 : Zaj ≠ Zbc := by decide
 refine (Zuy (offC _ n1 f0.ins) hyl (by omega) (fun i hi => (hb.is i hi).2.2.1) (fun k x i hx hi => offC _ n2 (f0.need k x i hx hi).2.2) f.sep hH.ins hH.need (by omega)).mono ?_
 rintro v h3 ⟨⟨z, rfl, hz0, hz1⟩, M3⟩
 simp only [Zau]
 exact ⟨⟨z, rfl, hz0, hz1⟩, M2.trans M3⟩
end Go.Sim

set_option linter.unusedVariables false
namespace Go.Sim
open Go Go.RowKit
theorem Zzx {h : Zaa} {a0 a1 : Pt} {n0 n1 c0 c1 : Nat} {e0 e1 : Bool} {l0 l1 : List Int} (r0 : Row h.length h a0 n0 (Zcf eI l0)) (r1 : Row h.length h a1 n1 (Zcf eI l1)) (hn : n0 ≤ 4611686018427387904) (heq : l0 = l1) :
  Zae pg Zif [.slice a0 n0 c0 e0, .slice a1 n1 c1 e1] h fun v h' => v = .bool true ∧ Zbb h.length h h' := (Ykk r0 r1 hn heq).mono fun v h' ⟨hv, hh⟩ => ⟨hv, by rw [hh]; exact Zbb.refl _ _⟩
theorem Zyg {h : Zaa} {a : Pt} {n c : Nat} {e : Bool} {k : Int} (r : Row h.length h a n (Zcf eI (Zsh k n))) (hk : 0 ≤ k ∧ k + n ≤ 4611686018427387000) :
  Zae pg Zhq [.slice a n c e, .int .i64 k] h fun v h' => v = .int .i64 (k + n) ∧ Zbb h.length h h' := (Ydx r hk).mono fun v h' ⟨hv, hh⟩ => ⟨hv, by rw [hh]; exact Zbb.refl _ _⟩
theorem Ysd {h : Zaa} {b n : Nat} {a : Pt} {l : List Int} (f : Zcv Zgs eI b h a n l) : Row h.length h a n (Zcf eI l) := by simpa using f.row Zlu
end Go.Sim

set_option linter.unusedSimpArgs false
set_option linter.unusedVariables false
namespace Go.Sim

def Znd (k : Wk) : Nat → Nd → Bool
 | 0, n => (k.cand n).any fun x => match k.needs x n.2 with | some ms => decide (ms = []) | none => false
 | d + 1, n => (k.cand n).any fun x => match k.needs x n.2 with | some ms => ms.all (Znd k d) | none => false
def Yec (k : Wk) (d : Nat) (n : Nd) (x : Int) : Bool := match k.needs x n.2 with | some ms => (decide (ms = []) || decide (0 < d)) && ms.all (Znd k (d - 1)) | none => false
theorem Zzr (k : Wk) (d : Nat) (n : Nd) : Znd k d n = (k.cand n).any (Yec k d n) := by
 cases d with
 | zero =>
  unfold Znd
  congr 1
  funext x
  unfold Yec
  cases k.needs x n.2 with
  | none => rfl
  | some ms => cases ms <;> rfl
 | succ d =>
  unfold Znd
  congr 1
  funext x
  unfold Yec
  cases k.needs x n.2 with
  | none => rfl
  | some ms => simp
def Ylj (k : Wk) (n : Nd) : Int := match (List.range 7).find? (fun d => Znd k d n) with | some d => d | none => -1
theorem Ycm {k : Wk} {n : Nd} {g : Nat} (hg : g < 7) (h : ∀ d, d < g → Znd k d n = false) (hh : Znd k g n = true) : Ylj k n = g := by
 have : (List.range 7).find? (fun d => Znd k d n) = some g := by
  have h1 : List.range 7 = List.range g ++ g :: (List.range (6 - g)).map (fun x => g + 1 + x) := by
   have h2 : (7 : Nat) = g + (7 - g) := by omega
   conv => lhs; rw [h2]
   rw [List.range_add]
   congr 1
   have h3 : 7 - g = (6 - g) + 1 := by omega
   rw [h3, List.range_succ_eq_map]
   simp [List.map_map, Function.comp_def]
   intro a _
   omega
  rw [h1, List.find?_append]
  have : (List.range g).find? (fun d => Znd k d n) = none := by
   rw [List.find?_eq_none]
   intro d hd
   rw [h d (List.mem_range.1 hd)]; simp
  rw [this, List.find?_cons, hh]; rfl
 unfold Ylj
 rw [this]
theorem Ybi {k : Wk} {n : Nd} (h : ∀ d, d < 7 → Znd k d n = false) : Ylj k n = -1 := by
 have : (List.range 7).find? (fun d => Znd k d n) = none := by
  rw [List.find?_eq_none]
  intro d hd
  rw [h d (List.mem_range.1 hd)]; simp
 unfold Ylj
 rw [this]
def Yjp (n : Nd) (d : Nat) : List Nat := n.1 ++ [32] ++ n.2 ++ [32] ++ [48 + d]
def Yqe (n : Nd) (d : Nat) : List Nat := [48 + d] ++ (n.1 ++ [32] ++ n.2)
theorem Ypl {n m : Nd} {d e : Nat} (hn : n.1.length = 1) (hm : m.1.length = 1) (h : Yjp n d = Yjp m e) : n = m ∧ d = e := by
 unfold Yjp at h
 have h1 := List.append_inj_right' h rfl
 have h2 := List.append_inj_left' h rfl
 have h3 := List.append_inj_left' h2 rfl
 rw [List.append_assoc, List.append_assoc] at h3
 have h4 := List.append_inj h3 (by omega)
 have h5 := List.append_inj h4.2 rfl
 simp at h1
 exact ⟨Prod.ext h4.1 h5.2, h1⟩
theorem Ynu {n m : Nd} {d e : Nat} (hn : n.1.length = 1) (hm : m.1.length = 1) (h : Yqe n d = Yqe m e) : n = m ∧ d = e := by
 unfold Yqe at h
 have h1 := List.append_inj h rfl
 have h3 := h1.2
 rw [List.append_assoc, List.append_assoc] at h3
 have h4 := List.append_inj h3 (by omega)
 have h5 := List.append_inj h4.2 rfl
 have h6 := h1.1
 simp at h6
 exact ⟨Prod.ext h4.1 h5.2, h6⟩
theorem Yir {cs : List Nd} {c : List Nat} (h : Zjj cs = true) (hk : Zgj cs c = true) : c.length = 1 := by
 unfold Zgj at hk
 obtain ⟨x, hx, he⟩ := List.any_eq_true.1 hk
 obtain ⟨i, hi, rfl⟩ := List.getElem_of_mem hx
 unfold Zjj at h
 simp only [Bool.and_eq_true, List.all_eq_true] at h
 have := h.1 i (List.mem_range.2 hi)
 unfold Zvv at this
 simp only [Bool.and_eq_true] at this
 have h1 := this.1.1
 rw [Zfp hi] at h1
 have he := of_decide_eq_true he
 rw [he] at h1
 unfold Zuf at h1
 match c, h1 with
 | [a], _ => rfl
theorem Zot {w : Wd} (hw : Zdm w = true) {n : Nd} (h : Zet w n = true) : n.1.length = 1 := by
 unfold Zdm at hw
 unfold Zet at h
 simp only [Bool.and_eq_true] at hw h
 exact Yir hw.1.1 h.1
end Go.Sim
