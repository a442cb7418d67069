/- A part of the proof of a statement of this seat: see the text that holds the theorem. No condition. -/
import Derived.Test.YtlljbdepamknoaaGreatPTCSApply2
import Derived.Test.YtlljbdepamknoaaGreatCFrS
import Derived.Test.YtlljbdepamknoaaGreatCVars
set_option linter.unusedVariables false
set_option linter.unusedSimpArgs false
set_option linter.all false
set_option linter.unusedVariables false
set_option linter.unusedSimpArgs false
set_option maxRecDepth 20000
namespace Go.Sim
open Go Go.RowKit

theorem Yhg (s : List Nat) (h : Zaa) : Zad pg Zms [.str s] h fun v h' => Zbe h.length h h' ∧ ∃ p, v = .ptr p ∧ (match Yai s with | some d => Ybn (Btw h.length h'.length) h' d p | none => p = none) := by
  apply Zqo.call
  refine Zap (fun hl => ?_) (fun hl => ?_)
  · have : Yai s = none := Zme fun h1 => by omega
    rw [this]
    exact ⟨Zbe.refl _ _, none, rfl, rfl⟩
  · refine (Yaw s.length (by omega) s (Nat.le_refl _) h).mono ?_
    rintro v h1 ⟨hS, p, r, rfl, hres⟩
    simp only [Zct, Zaf, Zgp, Zag, Zaq]
    refine Zhy (fun hr => ?_) (fun hr => ?_)
    · have : Yai s = none := Zme fun h1 d ho => by
        rcases hres with ⟨t, ho2, _⟩ | ⟨_, hno⟩
        · exact hr (ho2.unique ho).2
        · exact hno _ _ ho
      rw [this]
      exact ⟨hS, none, rfl, rfl⟩
    · subst hr
      refine ⟨hS, p, rfl, ?_⟩
      rcases hres with ⟨t, ho2, hn⟩ | ⟨rfl, hno⟩
      · rw [Zzr (by omega) ho2]; exact hn
      · rw [Zme fun h1 d ho => hno _ _ ho]
theorem Dc.size_ps {d p : Dc} (h : p ∈ d.ps) : p.size < d.size := by
  cases d <;> simp [Dc.ps] at h <;> simp only [Dc.size]
  · subst h; omega
  · rcases h with rfl | rfl <;> omega
  · rcases h with rfl | rfl | rfl <;> omega
theorem Zwf {w : Wd} {k : Nat} {n : Nd} {m : Nat} (h : ¬ k < w.is.length) : Zun w k n m = (Ymo, []) := by unfold Zun; rw [if_neg h]
theorem Yew {w : Wd} {k : Nat} {n : Nd} {m : Nat} (h : k < w.is.length) : Zun w k n m = if w.is[k].1.1 = n.1 then (if Zoe w.is[k].1.2 n.2 = true then (match Zhw w.is[k] n.2 with | none => (Ynu, []) | some ms => if ms.length = m then (Zxn, ms) else (Yku, [])) else (Ymr, [])) else (Ykv, []) := by
  unfold Zun; rw [if_pos h]
  simp only [List.getD_eq_getElem?_getD, List.getElem?_eq_getElem h, Option.getD_some]
  all_goals rfl
theorem Ygc {w : Wd} {ps : List Dc} {ms : List Nd} (h : ms.length = ps.length) : (List.zipWith (Zpq w) ps ms).length = ps.length := by simp [h]
theorem Yih {a0 a1 : Pt} {n0 c0 n1 c1 : Nat} {e0 e1 : Bool} {w : Wd} (b : WB w) (hw : Zfy w = true) : ∀ (N : Nat) (d : Dc), d.size ≤ N → ∀ {h : Zaa} {lo hi : Nat} {p : Pt} {n : Nd}, Ybn (Btw lo hi) h d p → hi ≤ h.length → Zpe h a0 n0 c0 a1 n1 c1 w → Zfz w n = true →
    Zad pg Zgv [.ptr p, .agg [.slice a0 n0 c0 e0, .slice a1 n1 c1 e1], .agg [.str n.1, .str n.2]] h fun v h' => v = .str (Zpq w d n) ∧ Zbe h.length h h' := by
  intro N
  induction N with
  | zero => intro d hd; cases d <;> simp [Dc.size] at hd
  | succ N ih =>
  intro d hd h lo hi p n rep hhi r hnd
  match rep with
  | .mk _ i a cp e qs si hi0 hp hl hr =>
  apply Zfc.call
  simp only [Zaz]
  generalize hh0 : h ++ [Zcj.cells Zam [.slice a0 n0 c0 e0, .slice a1 n1 c1 e1] false] = h0
  generalize hh1 : h0 ++ [Zcj.cells Zar [.str n.1, .str n.2] false] = h1
  have s0 : Zbe h.length h h0 := by rw [← hh0]; exact Zas
  have s1 : Zbe h0.length h0 h1 := by rw [← hh1]; exact Zas
  have w0 : h0[h.length]? = some (Zsn a0 n0 c0 e0 a1 n1 c1 e1) := by rw [← hh0]; simp [Zsn]
  have w1 := s1.get w0 (Own.lt w0)
  have p1 : h1[h0.length]? = some (.cells Zar [.str n.1, .str n.2] false) := by rw [← hh1]; simp
  have S1 := s0.cat s1
  have d1 := S1.get hi0 (Own.lt hi0)
  have hl1 := r.len1
  simp only [Zax, Zak d1, Zxz w1, Nat.zero_add, List.getElem?_cons_zero, List.getElem?_cons_succ, Zao, Zah, true_and]
  refine Zap (fun hge => ?_) (fun hlt => ?_)
  · exact ⟨by rw [Zjl (by rw [Zwf (by omega)]; simp; decide), Zwf (by omega)]; rfl, S1⟩
  have hk : d.ix < n1 := by omega
  have hkl : d.ix < w.is.length := by omega
  have r1 := r.same S1
  obtain ⟨ii, oi, _, na, nn, ncp, ne, ha1, hii, hrow3, hc0, hc1, hc2, hrow, hnl⟩ := r1.inst (k := d.ix) hk
  simp only [ha1, Zax, Int.toNat_natCast, hrow3, Zau, Zaf, Zaq, Zag, Zah]
  rw [← ha1]
  have hbi := b.is _ (List.getElem_mem hkl)
  have hty := Zvj hnd
  generalize hh2 : h1 ++ [Zcj.cells Zal [.str [], .str [], .slice none 0 0 true] false] = h2
  have s2 : Zbe h1.length h1 h2 := by rw [← hh2]; exact Zas
  have o2 : h2[h1.length]? = some (.cells Zal [.str [], .str [], .slice none 0 0 true] false) := by rw [← hh2]; simp
  have hx2 := s2.get d1 (Own.lt d1)
  have hw2 := s2.get w1 (Own.lt w1)
  refine ⟨by omega, ?_⟩
  have hrow32 : Zbp h2 (.ptr (some (ii, oi + d.ix * 3))) 3 = some [.str w.is[d.ix].1.1, .str w.is[d.ix].1.2, .slice na nn ncp ne] := by
    rw [← hrow3]; simp only [Zbp, s2.eq ii hii]
  refine ⟨hrow32, by rw [Zak hx2]; rfl, by rw [Zxz hw2]; rfl, ?_⟩
  rw [← hh2, Yfl]
  generalize hh3 : h1 ++ [Zcj.cells Zal [.str w.is[d.ix].1.1, .str w.is[d.ix].1.2, .slice na nn ncp ne] false] = h3
  have s3 : Zbe h1.length h1 h3 := by rw [← hh3]; exact Zas
  have o3 : h3[h1.length]? = some (.cells Zal [.str w.is[d.ix].1.1, .str w.is[d.ix].1.2, .slice na nn ncp ne] false) := by rw [← hh3]; simp
  have S3 := S1.cat s3
  have w3 := s3.get w1 (Own.lt w1)
  have p3 := s3.get p1 (Own.lt p1)
  have d3 := s3.get d1 (Own.lt d1)
  simp only [Zav, Zak o3, Zak p3, Nat.zero_add, Nat.add_zero, List.getElem?_cons_zero, List.getElem?_cons_succ, Zag]
  have hat : Zun w d.ix n d.ps.length = _ := Yew hkl
  refine Zhy (fun hcl => ?_) (fun hcl => ?_)
  · rw [if_neg hcl] at hat
    exact ⟨by rw [Zjl (by rw [hat]; decide), hat]; rfl, S3⟩
  rw [if_pos hcl] at hat
  refine (Zwr w.is[d.ix].1.2 n.2 h3).mono ?_
  rintro v h4 ⟨rfl, s4⟩
  have S4 := S3.cat s4
  have w4 := s4.get w3 (Own.lt w3)
  have p4 := s4.get p3 (Own.lt p3)
  have d4 := s4.get d3 (Own.lt d3)
  have o4 := s4.get o3 (Own.lt o3)
  simp only [Zai]
  refine Zbv (fun hno => ?_) (fun hyes => ?_)
  · rw [if_neg (by rw [hno]; simp)] at hat
    exact ⟨by rw [Zjl (by rw [hat]; decide), hat]; rfl, S4⟩
  rw [if_pos hyes] at hat
  simp only [Zss o4, Zak p4, Nat.zero_add, List.getElem?_cons_zero, List.getElem?_cons_succ, Zau, Zaf, Zaq, Zag, Zah]
  refine (Yki (i := w.is[d.ix]) (t := n.2) ((hrow.same' s3).same' s4) (by omega)).mono ?_
  rintro v h5 ⟨s5, ma, mn, mc, me, rfl, fm⟩
  have S5 := S4.cat s5
  have w5 := s5.get w4 (Own.lt w4)
  have d5 := s5.get d4 (Own.lt d4)
  simp only [Zct, Zaf, Zah, Zai, Zaq]
  cases hh : Zhw w.is[d.ix] n.2 with
  | none =>
    rw [hh] at hat
    simp only [Option.isSome_none, Bool.not_false, Zbj]
    simp only at hat
    exact ⟨by rw [Zjl (by rw [hat]; show Ynu ≠ Zxn; decide), hat]; rfl, S5⟩
  | some ms =>
  rw [hh] at hat fm
  simp only [Option.getD_some] at fm
  simp only at hat
  have hmn := fm.1
  have hms3 := Zyy hw hkl hh
  have hm3 := hms3.1
  simp only [Option.isSome_some, Bool.not_true, Zay, Zax, Zak d5, List.getElem?_cons_zero, List.getElem?_cons_succ, Nat.zero_add, Zah]
  refine Zer (fun hne => ?_) (fun heq => ?_)
  · rw [if_neg (by omega)] at hat
    exact ⟨by rw [Zjl (by rw [hat]; decide), hat]; rfl, S5⟩
  have hlm : ms.length = d.ps.length := by omega
  rw [if_pos hlm] at hat
  have hC : Zpq w d n = Zhp (List.zipWith (Zpq w) d.ps ms) := Ygd hat hlm
  have hzl := Ygc (w := w) hlm
  rw [hC]
  refine Zfc.L14ind (J := fun (g : Nat) x63 h' => x63 = (g : Int) ∧ g ≤ mn ∧ Zbe h5.length h5 h' ∧ ∀ x ∈ (List.zipWith (Zpq w) d.ps ms).take g, x = Zxn) (m := fun g => mn - g) (hr := ?_) (g := 0) (hj := ⟨rfl, by omega, Zbe.refl _ _, by simp⟩) ..
  rintro g x63 h6 ⟨rfl, hg, s6, hok⟩ R hR
  have S6 := S5.cat s6
  have w6 := s6.get w5 (Own.lt w5)
  have d6 := s6.get d5 (Own.lt d5)
  unfold Zfc.L14t
  refine Zap (fun hlt => ?_) (fun hge => ?_)
  · obtain ⟨jm, om2, hul, hma, _, hrm, _⟩ := ((fm.row Zek).same' s6).pr (k := g) (by omega)
    have hgp : g < d.ps.length := by omega
    have hgq : g < qs.length := by omega
    simp only [hma, Zax, Int.toNat_natCast, hrm, Zau, Zaf, Zaq, Zag, Zaz]
    rw [← hma, Zfi]
    refine ⟨by omega, ?_⟩
    generalize hh7 : h6 ++ [Zcj.cells Zar [.str ms[g].1, .str ms[g].2] false] = h7
    have o7 : h7[h6.length]? = some (.cells Zar [.str ms[g].1, .str ms[g].2] false) := by rw [← hh7]; simp
    have s7 : Zbe h6.length h6 h7 := by rw [← hh7]; exact Zas
    have S7 := S6.cat s7
    have w7 := s7.get w6 (Own.lt w6)
    have d7 := s7.get d6 (Own.lt d6)
    rcases hp with h0 | ⟨j, rfl, hSj, hj⟩
    · omega
    have j7 := S7.get hj (Own.lt hj)
    have hjg : Zae h7 (.ptr (some (j, 0 + g * 1))) = some (.ptr qs[g]) := by rw [Zak j7, Nat.zero_add, Nat.mul_one, List.getElem?_map, List.getElem?_eq_getElem hgq]; rfl
    simp only [Zav, Zak d7, List.getElem?_cons_zero, List.getElem?_cons_succ, Nat.zero_add, Zah, Zax]
    rw [Nat.zero_add] at hjg
    simp only [Int.toNat_natCast, hjg, Zgp, Ybw w7, Zbh o7, Zau, Zaf, Zaq, Zah, Zag, true_and]
    refine ⟨by omega, ?_⟩
    have hpm : d.ps[g] ∈ d.ps := List.getElem_mem hgp
    have hsz := Dc.size_ps hpm
    have rp := (hr g qs[g] d.ps[g] (List.getElem?_eq_getElem hgq) (List.getElem?_eq_getElem hgp)).agree (h' := h7) (fun i hi => S7.eq i (by have := hi.2; omega))
    refine (ih d.ps[g] (by omega) (n := ms[g]) rp (by have := S7.le; omega) (r.same S7) (hms3.2 _ (List.getElem_mem hul))).mono ?_
    rintro v h8 ⟨rfl, s8⟩
    have d8 := s8.get d7 (Own.lt d7)
    simp only [Zag, Zak d8, Zak d7, true_and]
    have hzg : (List.zipWith (Zpq w) d.ps ms)[g]'(by omega) = Zpq w d.ps[g] ms[g] := by simp
    refine ⟨by rfl, Zhy (fun hbad => ?_) (fun hgood => ?_)⟩
    · exact ⟨by rw [Zqr (g := g) (by omega) hok (by rw [hzg]; exact hbad), hzg], S7.cat s8⟩
    · rw [Zbs (by omega)]
      refine hR (g + 1) _ _ (by omega) ⟨rfl, by omega, (s6.cat s7).cat s8, ?_⟩
      intro x hx
      rw [List.take_succ_eq_append_getElem (by omega), List.mem_append] at hx
      rcases hx with hx | hx
      · exact hok x hx
      · simp only [List.mem_singleton] at hx; rw [hx, hzg]; exact hgood
  · apply Zfc.A14x1i
    have hgm : g = mn := by omega
    rw [List.take_of_length_le (by omega)] at hok
    exact ⟨by rw [Zrr hok]; rfl, S6⟩
theorem Zxp {h : Zaa} {a0 a1 : Pt} {n0 c0 n1 c1 : Nat} {e0 e1 : Bool} {w : Wd} {n : Nd} {s : List Nat} (r : Zpe h a0 n0 c0 a1 n1 c1 w) (b : WB w) :
    Zad pg Zjx [.agg [.slice a0 n0 c0 e0, .slice a1 n1 c1 e1], .agg [.str n.1, .str n.2], .str s] h fun v h' => v = .str (Zrw w n s) ∧ Zbe h.length h h' := by
  apply Zjz.call
  simp only [Zaz]
  generalize hh0 : h ++ [Zcj.cells Zam [.slice a0 n0 c0 e0, .slice a1 n1 c1 e1] false] = h0
  generalize hh1 : h0 ++ [Zcj.cells Zar [.str n.1, .str n.2] false] = h1
  have s0 : Zbe h.length h h0 := by rw [← hh0]; exact Zas
  have s1 : Zbe h0.length h0 h1 := by rw [← hh1]; exact Zas
  have w0 : h0[h.length]? = some (Zsn a0 n0 c0 e0 a1 n1 c1 e1) := by rw [← hh0]; simp [Zsn]
  have w1 := s1.get w0 (Own.lt w0)
  have p1 : h1[h0.length]? = some (.cells Zar [.str n.1, .str n.2] false) := by rw [← hh1]; simp
  have S1 := s0.cat s1
  refine (Yhg s h1).mono ?_
  rintro v h2 ⟨s2, p, rfl, hp⟩
  have S2 := S1.cat s2
  have w2 := s2.get w1 (Own.lt w1)
  have p2 := s2.get p1 (Own.lt p1)
  simp only [Zgp]
  cases hd : Yai s with
  | none =>
    rw [hd] at hp
    simp only at hp
    subst hp
    simp only [Option.isNone_none, Zbj]
    exact ⟨by unfold Zrw; rw [hd]; rfl, S2⟩
  | some d =>
  rw [hd] at hp
  simp only at hp
  have hC : Zrw w n s = if Zfy w && Zfz w n then Zpq w d n else Ycg := by unfold Zrw; rw [hd]
  obtain ⟨i, rfl, _, _⟩ := hp.lt
  simp only [Option.isNone_some, Zay]
  rw [Ybw w2, Zbh p2]
  simp only [Zau, Zaf, Zaq, Zah, Zag]
  refine (Zwo (ct := n.1) (tt := n.2) (r.same S2) b).mono ?_
  rintro v h3 ⟨rfl, s3⟩
  have S3 := S2.cat s3
  have w3 := s3.get w2 (Own.lt w2)
  have p3 := s3.get p2 (Own.lt p2)
  simp only [Zai]
  refine Zbv (fun hg => ⟨by rw [hC]; simp only [hg]; rfl, S3⟩) (fun hg => ?_)
  have hg2 := hg
  simp only [Bool.and_eq_true] at hg2
  apply Zjz.J4i
  rw [Ybw w3, Zbh p3]
  simp only [Zau, Zaf, Zaq, Zah, Zag]
  refine (Yih (n := n) b hg2.1 d.size d (Nat.le_refl _) (hp.agree (h' := h3) fun i hi => s3.eq i hi.2) (by have := s3.le; omega) (r.same S3) hg2.2).mono ?_
  rintro v h4 ⟨rfl, s4⟩
  simp only [Zag]
  exact ⟨by rw [hC, if_pos hg], S3.cat s4⟩
end Go.Sim

set_option linter.unusedVariables false
set_option linter.unusedSimpArgs false
set_option maxRecDepth 20000
namespace Go.Sim
open Go Go.RowKit

def Zsm (s : List Nat) (k : Nat) (b : Bool) : Zcj := .cells Zel [.str s, .int .i64 (k : Int), .bool b] false
theorem Ylk {h : Zaa} {i : Nat} {s : List Nat} {k : Nat} {b : Bool} (c : Nat) (hi : h[i]? = some (Zsm s k b)) (hk : k ≤ s.length) (hs : s.length ≤ 1048576) : Zad pg Zdo [.ptr (some (i, 0)), .int .u8 (c : Int)] h fun v h' =>
    (s.drop k = c :: s.drop (k + 1) ∧ k < s.length ∧ v = .bool true ∧ h' = h.set i (Zsm s (k + 1) b)) ∨ ((∀ y, s.drop k ≠ c :: y) ∧ v = .bool false ∧ h' = h) := by
  unfold Zsm at hi
  apply Zgb.call
  simp only [Zax, Zak hi, Nat.zero_add, List.getElem?_cons_zero, List.getElem?_cons_succ, Zao, Zag, true_and]
  refine Zap (fun hl => ?_) (fun hge => ?_)
  · have hl' : k < s.length := by omega
    refine ⟨⟨by omega, by omega⟩, ?_⟩
    rw [Int.toNat_natCast, Zpv hl']
    refine Zfe (fun he => ?_) (fun he => ?_)
    · rw [Zbq hi (by simp), Zbs (by omega)]
      simp only [Zav]
      exact .inl ⟨by rw [Zqn hl', Int.ofNat.inj he], hl', by simp [Zsm, putRow]⟩
    · apply Zgb.J4i
      refine .inr ⟨fun y hy => ?_, rfl, rfl⟩
      rw [Zqn hl'] at hy
      injection hy with e1; exact he (by rw [e1])
  · apply Zgb.J4i
    refine .inr ⟨fun y hy => ?_, rfl, rfl⟩
    rw [List.drop_of_length_le (by omega)] at hy; cases hy
inductive Zmk (S : Nat → Prop) (h : Zaa) : Dc → List Zan → Prop
  | mk (d : Dc) (a : Pt) (c : Nat) (e : Bool) (vs : List (List Zan)) (hp : d.ps.length = 0 ∨ ∃ j, a = some (j, 0) ∧ S j ∧ h[j]? = some (.cells Zat vs.flatten false)) (hl : vs.length = d.ps.length) (hv : ∀ v ∈ vs, v.length = 2)
      (hr : ∀ (k : Nat) (v : List Zan) (x : Dc), vs[k]? = some v → d.ps[k]? = some x → Zmk S h x v) : Zmk S h d [.int .i64 (d.ix : Int), .slice a d.ps.length c e]
theorem Zmk.mono {S S' : Nat → Prop} {h : Zaa} (hs : ∀ i, S i → S' i) {d : Dc} {v : List Zan} (r : Zmk S h d v) : Zmk S' h d v := by
  induction r with
  | mk d a c e vs hp hl hv hr ih => exact .mk d a c e vs (hp.imp id fun ⟨j, h1, h2, h3⟩ => ⟨j, h1, hs _ h2, h3⟩) hl hv ih
theorem Zmk.agree {S : Nat → Prop} {h h' : Zaa} (hh : ∀ i, S i → h'[i]? = h[i]?) {d : Dc} {v : List Zan} (r : Zmk S h d v) : Zmk S h' d v := by
  induction r with
  | mk d a c e vs hp hl hv hr ih => exact .mk d a c e vs (hp.imp id fun ⟨j, h1, h2, h3⟩ => ⟨j, h1, h2, by rw [hh j h2]; exact h3⟩) hl hv ih
theorem Yeq : pg.underlying Zfb = some (.slice Zat) := by kernel_rfl
theorem Ykj : pg.cellsOf Zat = 2 := by kernel_rfl
theorem Yjd : pg.okElem Zat = true := by kernel_rfl
theorem Yju : pg.bytesOf Zat ≤ 127 := Nat.le_of_ble_eq_true (by kernel_rfl)
def NdQ (i : Nat) (s : List Nat) (k : Nat) (h : Zaa) (v : Zan) (h' : Zaa) : Prop :=
  Zga i h h' ∧ ∃ (x : Int) (a : Pt) (n c : Nat) (e : Bool) (k' : Nat) (bad : Bool), v = .agg [.int .i64 x, .slice a n c e] ∧ h'[i]? = some (Zsm s k' bad) ∧ k ≤ k' ∧ k' ≤ s.length ∧
    ((bad = false ∧ ∃ d, Zda (s.drop k) d (s.drop k') ∧ Zmk (Btw h.length h'.length) h' d [.int .i64 x, .slice a n c e]) ∨ (bad = true ∧ ∀ d r, ¬ Zda (s.drop k) d r))
def St6 (i i2 q : Nat) (s : List Nat) (k c : Nat) (h : Zaa) (n k1 : Nat) (bad : Bool) (h' : Zaa) : Prop :=
  Zga i h h' ∧ h'[i]? = some (Zsm s k1 bad) ∧ k + n < k1 ∧ k1 ≤ s.length ∧ h.length ≤ i2 ∧ h.length ≤ q ∧ i2 ≠ q ∧ h'[i2]? = some (.cells Zat [.int .i64 0, .slice none 0 0 true] false) ∧
    ∃ (j cp : Nat) (e : Bool) (vs : List (List Zan)), h'[q]? = some (.cells Zat [.int .i64 ((c - 48 : Nat) : Int), .slice (some (j, 0)) n cp e] false) ∧ h.length ≤ j ∧ i2 ≠ j ∧ q ≠ j ∧ h'[j]? = some (.cells Zat vs.flatten false) ∧ vs.length = n ∧ (∀ v ∈ vs, v.length = 2) ∧
    ((bad = true ∧ ∀ d r, ¬ Zda (s.drop k) d r) ∨ (bad = false ∧ ∃ ps : List Dc, ps.length = n ∧ (∀ p ∈ ps, p.ok = true) ∧ s.drop k = c :: (Zje ps ++ s.drop k1) ∧ Aft ps (s.drop k1) ∧
      ∀ (kk : Nat) (v : List Zan) (x : Dc), vs[kk]? = some v → ps[kk]? = some x → ∃ lo hi, h.length ≤ lo ∧ i2 < lo ∧ q < lo ∧ hi ≤ h'.length ∧ ¬ Btw lo hi j ∧ Zmk (Btw lo hi) h' x v))
theorem Ynd {i i2 q : Nat} {s : List Nat} {k c : Nat} {h : Zaa} {n k1 : Nat} {hA : Zaa} {K : Zaa → Prop} (hil : i < h.length) (hs : s.length ≤ 1048576)
    (ih : ∀ k', k < k' → k' ≤ s.length → ∀ (h : Zaa), h[i]? = some (Zsm s k' false) → Zad pg Zca [.ptr (some (i, 0))] h (NdQ i s k' h))
    {h' : Zaa} (st : St6 i i2 q s k c h n k1 false h') (hk1 : k1 < s.length) (hm : s.drop k1 = Zqw n :: s.drop (k1 + 1)) (hA' : hA = h'.set i (Zsm s (k1 + 1) false))
    (hK : ∀ h8 k' bad, k1 < k' → St6 i i2 q s k c h (n + 1) k' bad h8 → K h8) :
    xSl (Zae hA (.ptr (some (q, 0 + 1)))) fun a_85 n_86 c_87 e_88 => Zad pg Zca [.ptr (some (i, 0))] hA fun v_89 h_90 =>
      Zph v_89 fun cs_91 => Zaj cs_91 fun c_92 r_93 => Zdd .i64 (some c_92) fun x_94 => Zaj r_93 fun c_95 r_96 => xSl (some c_95) fun a_97 n_98 c_99 e_100 => Zcg r_96 ((Zae h_90 (.ptr (some (q, 0 + 1))) = Zae hA (.ptr (some (q, 0 + 1)))) ∧ Zdb (h_90 ++ [.cells Zat [.int .i64 x_94, .slice a_97 n_98 c_99 e_100] false]) fun h_101 => (Zae h_101 (.ptr (some (q, 0 + 1))) = Zae h_90 (.ptr (some (q, 0 + 1)))) ∧ Zdn pg Zfb h_101 (.slice a_85 n_86 c_87 e_88) (.slice (some (List.length h_90, 0)) 1 1 true) fun v_102 h_103 => xSl (some v_102) fun a_104 n_105 c_106 e_107 => Zcb (Zbd h_103 (.ptr (some (q, 0 + 1))) [.slice a_104 n_105 c_106 e_107]) fun h_108 => K h_108) := by
  obtain ⟨hKp, hgi, hkn, hk1s, hl2, hlq, hne, h2i, j, cp, e, vs, hq, hlj, hn2, hnq, hj, hvl, hv2, hst⟩ := st
  rcases hst with ⟨hb, _⟩ | ⟨_, ps, hps, hok, hdr, haft, hrep⟩
  · cases hb
  have hqi : q ≠ i := by omega
  have hi2i : i2 ≠ i := by omega
  have hji : j ≠ i := by omega
  have iA : hA[i]? = some (Zsm s (k1 + 1) false) := by rw [hA']; exact Zcp hgi
  have lA : hA.length = h'.length := by rw [hA']; simp
  have oA : ∀ z, z ≠ i → hA[z]? = h'[z]? := fun z hz => by rw [hA', Zbt (by omega)]
  have qA : hA[q]? = some (.cells Zat [.int .i64 ((c - 48 : Nat) : Int), .slice (some (j, 0)) n cp e] false) := by rw [oA q hqi]; exact hq
  have KA : Zga i h hA := by rw [hA']; exact hKp.trans (Zga.set _ _ _)
  simp only [Zak qA, Nat.zero_add, List.getElem?_cons_succ, List.getElem?_cons_zero, Zah]
  refine (ih (k1 + 1) (by omega) (by omega) hA iA).mono ?_
  rintro v hB ⟨KB, x, a', n', c', e', k', bad, rfl, iB, hkk, hk's, hres⟩
  have lB := KB.le
  have oB : ∀ z w, hA[z]? = some w → z ≠ i → hB[z]? = some w := fun z w hz hne => by rw [KB.eq z (Own.lt hz) hne]; exact hz
  have qB := oB q _ qA hqi
  simp only [Zde, Zaf, Zao, Zah, Zaq, Zaz, Zak qB, List.getElem?_cons_succ, List.getElem?_cons_zero, true_and]
  have jB : hB[j]? = some (.cells Zat vs.flatten false) := oB j _ (by rw [oA j hji]; exact hj) hji
  refine ⟨by rw [Zak (Zko qB)]; rfl, ?_⟩
  have hfl : vs.flatten.length = n * 2 := by rw [Zwa hv2, hvl]
  refine (Vec.mk1 (n := n) (c := cp) jB).pushN (sz := 2) Yeq Ykj Yjd Yju hfl rfl (by omega) rfl (by omega) (fun h4 hl4 hi4 hk4 => ?_)
  simp only [Zah]
  have old4 : ∀ z w, hB[z]? = some w → z ≠ j → h4[z]? = some w := fun z w hz hne => by rw [hk4 z (Own.lt hz) fun i hi => by cases hi; exact hne]; exact hz
  have q4 := old4 q _ qB hnq
  rw [Zbq q4 (by simp)]
  simp only [Zav, putRow, List.take_succ_cons, List.take_zero, List.length_cons, List.length_nil, List.drop_succ_cons, List.drop_zero, List.drop_nil, List.cons_append, List.nil_append, List.append_nil, Nat.zero_add]
  have hiB := Own.lt iB
  have hjB := Own.lt jB
  have hqB := Own.lt qB
  have i2B := oB i2 _ (by rw [oA i2 hi2i]; exact h2i) hi2i
  have hi2B := Own.lt i2B
  refine hK _ k' bad (by omega) ⟨?_, ?_, by omega, hk's, hl2, hlq, hne, ?_, hB.length + 1, n + 1, false, vs ++ [[.int .i64 x, .slice a' n' c' e']], ?_, by have := KA.le; omega, by omega, by omega, ?_, by simp [hvl], ?_, ?_⟩
  · refine ⟨by simp; have := KA.le; omega, fun z hz hzi => ?_⟩
    rw [Zbt (by omega), hk4 z (by have := KA.le; omega) fun i hi => by cases hi; omega, KB.eq z (by have := KA.le; omega) hzi, KA.eq z hz hzi]
  · rw [Zbt hqi]; exact old4 i _ iB (fun e => hji e.symm)
  · rw [Zbt (by omega)]; exact old4 i2 _ i2B hn2
  · exact Zcp q4
  · rw [Zbt (by omega), hi4]; simp
  · intro v hv
    rcases List.mem_append.1 hv with hv | hv
    · exact hv2 v hv
    · simp at hv; subst hv; rfl
  · rcases hres with ⟨hb, t, ho, hr⟩ | ⟨hb, hno⟩
    · refine .inr ⟨hb, ps ++ [t], by simp [hps], ?_, ?_, Aft.snoc ho, ?_⟩
      · intro p hp
        rcases List.mem_append.1 hp with hp | hp
        · exact hok p hp
        · simp at hp; subst hp; exact ho.1
      · rw [Zvn, hdr, hm, hps, ho.2.1]; simp
      · intro kk v x' hv hx
        by_cases hkg : kk < n
        · rw [List.getElem?_append_left (by omega)] at hv hx
          obtain ⟨lo, hi, h1, h2, h3, h4', h5, h6⟩ := hrep kk v x' hv hx
          refine ⟨lo, hi, h1, h2, h3, by simp; omega, fun hb => by have := hb.2; omega, h6.agree fun z hz => ?_⟩
          have := hz.1; have := hz.2
          rw [Zbt (by omega), hk4 z (by omega) fun i hi => by cases hi; intro e0; subst e0; exact h5 hz, KB.eq z (by omega) (by omega), oA z (by omega)]
        · have hkg' : kk = n := by
            have := (List.getElem?_eq_some_iff.1 hv).1; simp [hvl] at this; omega
          subst hkg'
          rw [List.getElem?_append_right (by omega)] at hv hx
          simp [hps, hvl] at hv hx
          subst hv; subst hx
          refine ⟨hA.length, hB.length, by have := KA.le; omega, by have := Own.lt (show hA[i2]? = _ by rw [oA i2 hi2i]; exact h2i); omega, by have := Own.lt qA; omega, by simp; omega, fun hb => by have := hb.2; omega, hr.agree fun z hz => ?_⟩
          have := hz.1; have := hz.2
          have := Own.lt (show hA[j]? = _ by rw [oA j hji]; exact hj)
          have := Own.lt qA
          rw [Zbt (by omega), hk4 z (by omega) fun i hi => by cases hi; omega]
    · refine .inl ⟨hb, fun d r ho => ?_⟩
      by_cases hpe : ps = []
      · subst hpe
        simp at hps
        rw [hdr, hm, ← hps] at ho
        simp only [Zje, List.nil_append] at ho
        obtain ⟨p, r'', ho2⟩ := Zda.first (s := s.drop (k1 + 1)) ho
        exact hno _ _ ho2
      · rw [hdr] at ho
        obtain ⟨h5, h6, h7, h8⟩ := ho.step2 hpe hok haft
        have hne0 : n ≠ 0 := by intro e0; exact hpe (List.eq_nil_of_length_eq_zero (by omega))
        have hmk : Zqw n = 44 := by unfold Zqw; rw [if_neg hne0]
        rw [hmk] at hm
        by_cases hlt : ps.length < d.ps.length
        · obtain ⟨p, s2, r2, hx2, ho2⟩ := h8 hlt
          rw [hm] at hx2
          simp at hx2
          rw [← hx2] at ho2
          exact hno _ _ ho2
        · have := h7 (by omega)
          rw [hm] at this; cases this
end Go.Sim

set_option linter.unusedVariables false
set_option linter.unusedSimpArgs false
set_option maxRecDepth 20000
namespace Go.Sim
open Go Go.RowKit

theorem Zzk {s : List Nat} {k i : Nat} {h h' : Zaa} {k1 i2 q n cp : Nat} {bad e : Bool} {a : Pt} {z : Int} {x y : Zan} (hil : i < h.length) (hK : Zga i h h') (hgi : h'[i]? = some (Zsm s k1 bad)) (hk : k ≤ k1) (hk1 : k1 ≤ s.length)
    (hi2 : h'[i2]? = some (.cells Zat [x, y] false)) (hl2 : h.length ≤ i2) (hne : i2 ≠ q) (hq : h'[q]? = some (.cells Zat [.int .i64 z, .slice a n cp e] false))
    (hfin : (bad = false ∧ ∃ t, Zda (s.drop k) t (s.drop k1) ∧ Zmk (fun x => Btw h.length h'.length x ∧ x ≠ i2) h' t [.int .i64 z, .slice a n cp e]) ∨ (bad = true ∧ ∀ t r, ¬ Zda (s.drop k) t r)) :
    Zcx (Zbp h' (.ptr (some (q, 0))) 2) fun cs_64 => Zaj cs_64 fun c_65 r_66 => Zdd .i64 (some c_65) fun x_67 => Zaj r_66 fun c_68 r_69 => xSl (some c_68) fun a_70 n_71 c_72 e_73 => Zcg r_69 (Zcb (Zbd h' (.ptr (some (i2, 0))) [.int .i64 x_67, .slice a_70 n_71 c_72 e_73]) fun h_74 => Zcx (Zbp h_74 (.ptr (some (i2, 0))) 2) fun cs_75 => Zaj cs_75 fun c_76 r_77 => Zdd .i64 (some c_76) fun x_78 => Zaj r_77 fun c_79 r_80 => xSl (some c_79) fun a_81 n_82 c_83 e_84 => Zcg r_80 (NdQ i s k h (.agg [.int .i64 x_78, .slice a_81 n_82 c_83 e_84]) h_74)) := by
  rw [Zbh hq]
  simp only [Zau, Zaf, Zao, Zah, Zaq]
  rw [Zbq hi2 (by simp)]
  simp only [Zav, putRow, List.take_zero, List.nil_append, List.length_cons, List.length_nil, List.cons_append, List.drop_succ_cons, List.drop_zero, List.drop_nil, List.append_nil, Nat.zero_add]
  rw [Zbh (Zcp hi2)]
  simp only [Zau, Zaf, Zao, Zah, Zaq]
  refine ⟨hK.trans' ?_, z, a, n, cp, e, k1, bad, rfl, by rw [Zbt (by omega)]; exact hgi, hk, hk1, ?_⟩
  · exact fun j hj => Zbt (by omega)
  · rcases hfin with ⟨hb, t, ho, hr⟩ | hb
    · refine .inl ⟨hb, t, ho, ?_⟩
      refine Zmk.mono (S := fun x => Btw h.length h'.length x ∧ x ≠ i2) (fun z hz => by simpa using hz.1) (hr.agree fun z hz => Zbt (fun e => hz.2 e.symm))
    · exact .inr hb
theorem Zsx {s : List Nat} {k i : Nat} {h h' : Zaa} {k1 i2 q n cp : Nat} {bad e : Bool} {a : Pt} {z : Int} {x y : Zan} (hil : i < h.length) (hK : Zga i h h') (hgi : h'[i]? = some (Zsm s k1 bad)) (hk : k ≤ k1) (hk1 : k1 ≤ s.length)
    (hi2 : h'[i2]? = some (.cells Zat [x, y] false)) (hl2 : h.length ≤ i2) (hne : i2 ≠ q) (hq : h'[q]? = some (.cells Zat [.int .i64 z, .slice a n cp e] false))
    (hfin : (bad = false ∧ ∃ t, Zda (s.drop k) t (s.drop k1) ∧ Zmk (fun x => Btw h.length h'.length x ∧ x ≠ i2) h' t [.int .i64 z, .slice a n cp e]) ∨ (bad = true ∧ ∀ t r, ¬ Zda (s.drop k) t r)) :
    Zbz.J12 (NdQ i s k h) q 0 i2 0 h' := by
  apply Zbz.J12i
  exact Zzk hil hK hgi hk hk1 hi2 hl2 hne hq hfin
theorem Zvd {i i2 q : Nat} {s : List Nat} {k c : Nat} {h : Zaa} {n k1 : Nat} {bad : Bool} (hil : i < h.length) (hs : s.length ≤ 1048576) (hc : 48 ≤ c ∧ c ≤ 57) (hn : n ≠ 0)
    {h' : Zaa} (st : St6 i i2 q s k c h n k1 bad h') (h44 : bad = false → ∀ y, s.drop k1 ≠ 44 :: y) : Zbz.A9x0 (NdQ i s k h) (some (i, 0)) q 0 i2 0 h' := by
  obtain ⟨hKp, hgi, hkn, hk1s, hl2, hlq, hne, h2i, j, cp, e, vs, hq, hlj, hn2, hnq, hj, hvl, hv2, hst⟩ := st
  have hqi : q ≠ i := by omega
  have hi2i : i2 ≠ i := by omega
  have hji : j ≠ i := by omega
  have hgi' := hgi
  unfold Zsm at hgi'
  apply Zbz.A9x0i
  simp only [Zax, Zak hgi', Nat.zero_add, List.getElem?_cons_succ, List.getElem?_cons_zero, Zai]
  rcases hst with ⟨rfl, hno⟩ | ⟨rfl, ps, hps, hok, hdr, haft, hrep⟩
  · simp only [Zbj]
    rw [Zbq hgi' (by simp)]
    simp only [Zav, putRow, List.take_succ_cons, List.take_zero, List.length_cons, List.length_nil, List.drop_succ_cons, List.drop_zero, List.drop_nil, List.cons_append, List.nil_append, List.append_nil, Nat.zero_add]
    exact Zsx (k1 := k1) (bad := true) hil (hKp.trans (Zga.set _ _ _)) (Zcp hgi') (by omega) hk1s (by rw [Zbt (by omega)]; exact h2i) hl2 hne (by rw [Zbt (by omega)]; exact hq) (.inr ⟨rfl, hno⟩)
  · simp only [Zay]
    have hpe : ps ≠ [] := by intro e0; subst e0; simp at hps; omega
    have hno : (¬ (∃ y, s.drop k1 = 41 :: y) ∨ 3 < ps.length) → ∀ t r', ¬ Zda (s.drop k) t r' := by
      intro hx t r' ho
      rw [hdr] at ho
      obtain ⟨h5, h6, h7, h8⟩ := ho.step2 hpe hok haft
      have h3 := t.ps_len
      by_cases hlt : ps.length < t.ps.length
      · obtain ⟨p, s2, r2, hx2, ho2⟩ := h8 hlt
        exact h44 rfl _ hx2
      · have := h7 (by omega)
        rcases hx with hx | hx
        · exact hx ⟨_, this⟩
        · omega
    refine (Ylk 41 hgi hk1s hs).mono ?_
    rintro v h2 (⟨hd, hlt, rfl, rfl⟩ | ⟨hd, rfl, rfl⟩)
    · simp only [Zai, Bool.not_true, Zay]
      have q2 : (h'.set i (Zsm s (k1 + 1) false))[q]? = some (.cells Zat [.int .i64 ((c - 48 : Nat) : Int), .slice (some (j, 0)) n cp e] false) := by rw [Zbt (by omega)]; exact hq
      have i2' : (h'.set i (Zsm s (k1 + 1) false))[i]? = some (.cells Zel [.str s, .int .i64 ((k1 + 1 : Nat) : Int), .bool false] false) := Zcp hgi
      simp only [Zak q2, List.getElem?_cons_succ, List.getElem?_cons_zero, Zah]
      rw [Zbq i2' (by simp)]
      simp only [Zav, putRow, List.take_succ_cons, List.take_zero, List.length_cons, List.length_nil, List.drop_succ_cons, List.drop_zero, List.drop_nil, List.cons_append, List.nil_append, List.append_nil, Nat.zero_add]
      refine Zsx (k1 := k1 + 1) (bad := decide ((n : Int) > 3)) hil ((hKp.trans (Zga.set _ _ _)).trans (Zga.set _ _ _)) (Zcp i2') (by omega) (by omega) (by rw [Zbt (by omega), Zbt (by omega)]; exact h2i) hl2 hne (by rw [Zbt (by omega)]; exact q2) ?_
      by_cases hbig : (n : Int) > 3
      · exact .inr ⟨by simp; omega, hno (.inr (by omega))⟩
      · refine .inl ⟨by simp; omega, ?_⟩
        obtain ⟨d, hd1, hd2, hd3⟩ := Zda.make (c := c) (l := ps) (r := s.drop (k1 + 1)) hc hok (by omega) hpe
        rw [← hd, ← hdr] at hd3
        refine ⟨d, hd3, ?_⟩
        have hdl : d.ps.length = n := by rw [hd2]; exact hps
        rw [← hd1, ← hdl]
        have hr : Zmk (fun x => Btw h.length h'.length x ∧ x ≠ i2) h' d [.int .i64 (d.ix : Int), .slice (some (j, 0)) d.ps.length cp e] := by
          refine .mk d _ cp e vs (.inr ⟨j, rfl, ⟨⟨hlj, Own.lt hj⟩, fun e => hn2 e.symm⟩, hj⟩) (by omega) hv2 fun kk v x hv hx => ?_
          rw [hd2] at hx
          obtain ⟨lo, hi, h1, h2, h3, h4', h5, h6⟩ := hrep kk v x hv hx
          exact h6.mono fun z hz => ⟨⟨by have := hz.1; omega, by have := hz.2; omega⟩, by have := hz.1; omega⟩
        exact (hr.mono fun z hz => ⟨⟨hz.1.1, by simp; exact hz.1.2⟩, hz.2⟩).agree fun z hz => by rw [Zbt (by have := hz.1.1; omega), Zbt (by have := hz.1.1; omega)]
    · simp only [Zai, Bool.not_false, Zbj]
      rw [Zbq hgi' (by simp)]
      simp only [Zav, putRow, List.take_succ_cons, List.take_zero, List.length_cons, List.length_nil, List.drop_succ_cons, List.drop_zero, List.drop_nil, List.cons_append, List.nil_append, List.append_nil, Nat.zero_add]
      exact Zsx (k1 := k1) (bad := true) hil (hKp.trans (Zga.set _ _ _)) (Zcp hgi') (by omega) hk1s (by rw [Zbt (by omega)]; exact h2i) hl2 hne (by rw [Zbt (by omega)]; exact hq) (.inr ⟨rfl, hno (.inl fun ⟨y, hy⟩ => hd y hy)⟩)
theorem Ydo {i i2 q : Nat} {s : List Nat} {k c : Nat} {h : Zaa} (hil : i < h.length) (hs : s.length ≤ 1048576) (hc : 48 ≤ c ∧ c ≤ 57)
    (ih : ∀ k', k < k' → k' ≤ s.length → ∀ (h : Zaa), h[i]? = some (Zsm s k' false) → Zad pg Zca [.ptr (some (i, 0))] h (NdQ i s k' h))
    {n k1 : Nat} {bad : Bool} {h' : Zaa} (hn : n ≠ 0) (st : St6 i i2 q s k c h n k1 bad h') : Zbz.L9 (NdQ i s k h) (some (i, 0)) i2 0 q 0 h' := by
  refine Zbz.L9ind (J := fun (g : Nat) h' => ∃ n bad, n ≠ 0 ∧ g ≤ s.length ∧ St6 i i2 q s k c h n g bad h') (m := fun g => s.length - g) (hr := ?_) (g := k1) (hj := ⟨n, bad, hn, st.2.2.2.1, st⟩) ..
  rintro g h2 ⟨n, bad, hn, hg, st⟩ R hR
  unfold Zbz.L9t
  have hgi := st.2.1
  have hgi' := hgi
  unfold Zsm at hgi'
  simp only [Zax, Zak hgi', Nat.zero_add, List.getElem?_cons_succ, List.getElem?_cons_zero, Zai]
  cases bad with
  | true =>
    simp only [Bool.not_true, Zay]
    exact Zvd hil hs hc hn st (fun e => by cases e)
  | false =>
    simp only [Bool.not_false, Zbj]
    refine (Ylk 44 hgi hg hs).mono ?_
    rintro v h3 (⟨hd, hlt, rfl, h3e⟩ | ⟨hd, rfl, rfl⟩)
    · simp only [Zai, Zbj]
      apply Zbz.J10i
      have hmk : Zqw n = 44 := by unfold Zqw; rw [if_neg hn]
      exact Ynd hil hs ih st hlt (by rw [hmk]; exact hd) h3e fun h8 k' bad hkk st' => hR k' h8 (by have := st'.2.2.2.1; omega) ⟨n + 1, bad, by omega, st'.2.2.2.1, st'⟩
    · simp only [Zai, Zay]
      exact Zvd hil hs hc hn st (fun _ => hd)
theorem Zvc {i i2 q j0 : Nat} {s : List Nat} {k c : Nat} {h : Zaa} (hil : i < h.length) (hs : s.length ≤ 1048576) (hc : 48 ≤ c ∧ c ≤ 57)
    (ih : ∀ k', k < k' → k' ≤ s.length → ∀ (h : Zaa), h[i]? = some (Zsm s k' false) → Zad pg Zca [.ptr (some (i, 0))] h (NdQ i s k' h))
    {g : Zaa} (hK : Zga i h g) (hgi : g[i]? = some (Zsm s (k + 1) false)) (hk1 : k + 1 ≤ s.length) (hd : s.drop k = c :: s.drop (k + 1)) (hl2 : h.length ≤ i2) (hlq : h.length ≤ q) (hlj : h.length ≤ j0) (hne : i2 ≠ q) (hn2 : i2 ≠ j0) (hnq : q ≠ j0)
    (hi2 : g[i2]? = some (.cells Zat [.int .i64 0, .slice none 0 0 true] false)) (hq : g[q]? = some (.cells Zat [.int .i64 ((c - 48 : Nat) : Int), .slice (some (j0, 0)) 0 0 true] false)) (hj : g[j0]? = some (.cells Zat [] false)) :
    Zad pg Zdo [.ptr (some (i, 0)), .int .u8 40] g fun v_61 h_62 =>
      Zbx (some v_61) fun b_63 => bcase (!b_63) (Zcx (Zbp h_62 (.ptr (some (q, 0))) 2) fun cs_64 => Zaj cs_64 fun c_65 r_66 => Zdd .i64 (some c_65) fun x_67 => Zaj r_66 fun c_68 r_69 => xSl (some c_68) fun a_70 n_71 c_72 e_73 => Zcg r_69 (Zcb (Zbd h_62 (.ptr (some (i2, 0))) [.int .i64 x_67, .slice a_70 n_71 c_72 e_73]) fun h_74 => Zcx (Zbp h_74 (.ptr (some (i2, 0))) 2) fun cs_75 => Zaj cs_75 fun c_76 r_77 => Zdd .i64 (some c_76) fun x_78 => Zaj r_77 fun c_79 r_80 => xSl (some c_79) fun a_81 n_82 c_83 e_84 => Zcg r_80 (NdQ i s k h (.agg [.int .i64 x_78, .slice a_81 n_82 c_83 e_84]) h_74))) (xSl (Zae h_62 (.ptr (some (q, 0 + 1)))) fun a_85 n_86 c_87 e_88 => Zad pg Zca [.ptr (some (i, 0))] h_62 fun v_89 h_90 =>
        Zph v_89 fun cs_91 => Zaj cs_91 fun c_92 r_93 => Zdd .i64 (some c_92) fun x_94 => Zaj r_93 fun c_95 r_96 => xSl (some c_95) fun a_97 n_98 c_99 e_100 => Zcg r_96 ((Zae h_90 (.ptr (some (q, 0 + 1))) = Zae h_62 (.ptr (some (q, 0 + 1)))) ∧ Zdb (h_90 ++ [.cells Zat [.int .i64 x_94, .slice a_97 n_98 c_99 e_100] false]) fun h_101 => (Zae h_101 (.ptr (some (q, 0 + 1))) = Zae h_90 (.ptr (some (q, 0 + 1)))) ∧ Zdn pg Zfb h_101 (.slice a_85 n_86 c_87 e_88) (.slice (some (List.length h_90, 0)) 1 1 true) fun v_102 h_103 => xSl (some v_102) fun a_104 n_105 c_106 e_107 => Zcb (Zbd h_103 (.ptr (some (q, 0 + 1))) [.slice a_104 n_105 c_106 e_107]) fun h_108 => Zbz.L9 (NdQ i s k h) (some (i, 0)) i2 0 q 0 h_108)) := by
  have st : St6 i i2 q s k c h 0 (k + 1) false g := ⟨hK, hgi, by omega, hk1, hl2, hlq, hne, hi2, j0, 0, true, [], hq, hlj, hn2, hnq, by simpa using hj, rfl, by simp, .inr ⟨rfl, [], rfl, by simp, by simpa [Zje] using hd, (by intro a ha; cases ha), by simp⟩⟩
  refine (Ylk 40 hgi hk1 hs).mono ?_
  rintro v h2 (⟨hd2, hlt, rfl, h2e⟩ | ⟨hd2, rfl, rfl⟩)
  · simp only [Zai, Bool.not_true, Zay]
    exact Ynd hil hs ih st hlt (by exact hd2) h2e fun h8 k' bad hkk st' => Ydo hil hs hc ih (by omega) st'
  · simp only [Zai, Bool.not_false, Zbj]
    refine Zzk (bad := false) hil hK hgi (by omega) hk1 hi2 hl2 hne hq (.inl ⟨rfl, .d0 (c - 48), ?_, ?_⟩)
    · rw [hd]; exact Zda.leaf hc hd2
    · exact .mk (.d0 (c - 48)) _ _ _ [] (.inl rfl) rfl (by simp) (by simp)
theorem Yga {s : List Nat} (hs : s.length ≤ 1048576) (hby : ∀ x ∈ s, x < 256) (i : Nat) : ∀ (N k : Nat), s.length - k ≤ N → k ≤ s.length → ∀ (h : Zaa), h[i]? = some (Zsm s k false) →
    Zad pg Zca [.ptr (some (i, 0))] h (NdQ i s k h) := by
  intro N
  induction N using Nat.strongRecOn with
  | _ N ihN =>
  intro k hN hk h hi
  have hil := Own.lt hi
  have ih : ∀ k', k < k' → k' ≤ s.length → ∀ (h : Zaa), h[i]? = some (Zsm s k' false) → Zad pg Zca [.ptr (some (i, 0))] h (NdQ i s k' h) :=
    fun k' h1 h2 => ihN (s.length - k') (by omega) k' (Nat.le_refl _) h2
  apply Zbz.call
  simp only [Zaz]
  generalize hh0 : h ++ [Zcj.cells Zat [.int .i64 0, .slice none 0 0 true] false] = h0
  have s0 : Zbe h.length h h0 := by rw [← hh0]; exact Zas
  have l0 : h0.length = h.length + 1 := by rw [← hh0]; simp
  have z0 : h0[h.length]? = some (.cells Zat [.int .i64 0, .slice none 0 0 true] false) := by rw [← hh0]; simp
  have i0 := s0.get hi hil
  have i0' := i0
  unfold Zsm at i0'
  have K0 : Zga i h h0 := Zga.of_same s0
  -- a text that opens with no digit
  have bad : (∀ t r, ¬ Zda (s.drop k) t r) → Zcb (Zbd h0 (.ptr (some (i, 2))) [.bool true]) fun h_33 => Zcb (Zbd h_33 (.ptr (some (List.length h, 0))) [.int .i64 0, .slice none 0 0 true]) fun h_34 => Zcx (Zbp h_34 (.ptr (some (List.length h, 0))) 2) fun cs_35 => Zaj cs_35 fun c_36 r_37 => Zdd .i64 (some c_36) fun x_38 => Zaj r_37 fun c_39 r_40 => xSl (some c_39) fun a_41 n_42 c_43 e_44 => Zcg r_40 (NdQ i s k h (.agg [.int .i64 x_38, .slice a_41 n_42 c_43 e_44]) h_34) := by
    intro hno
    rw [Zbq i0' (by simp)]
    simp only [Zav, putRow, List.take_succ_cons, List.take_zero, List.length_cons, List.length_nil, List.drop_succ_cons, List.drop_zero, List.drop_nil, List.cons_append, List.nil_append, List.append_nil, Nat.zero_add]
    have z1 : (h0.set i (Zcj.cells Zel [.str s, .int .i64 (k : Int), .bool true] false))[h.length]? = some (.cells Zat [.int .i64 0, .slice none 0 0 true] false) := by rw [Zbt (by omega)]; exact z0
    rw [Zbq z1 (by simp)]
    simp only [Zav, putRow, List.take_succ_cons, List.take_zero, List.length_cons, List.length_nil, List.drop_succ_cons, List.drop_zero, List.drop_nil, List.cons_append, List.nil_append, List.append_nil, Nat.zero_add]
    rw [Zbh (Zcp z1)]
    simp only [Zau, Zaf, Zao, Zah, Zaq]
    exact ⟨(K0.trans (Zga.set _ _ _)).trans' (fun j hj => Zbt (by omega)), 0, none, 0, 0, true, k, true, rfl, by rw [Zbt (by omega)]; exact Zcp i0', Nat.le_refl _, hk, .inr ⟨rfl, hno⟩⟩
  simp only [Zax, Zak i0', Nat.zero_add, List.getElem?_cons_succ, List.getElem?_cons_zero, Zao, Zag, true_and]
  refine Zap (fun hge => ?_) (fun hlt => ?_)
  · have := bad (fun t r ho => by rw [List.drop_of_length_le (by omega)] at ho; exact Zda.nil ho)
    exact this
  have hlt' : k < s.length := by omega
  refine ⟨⟨by omega, by omega⟩, ?_⟩
  rw [Int.toNat_natCast, Zpv hlt']
  have hb := hby _ (List.getElem_mem hlt')
  have hd := Zqn hlt'
  generalize hcc : s[k] = c at hb hd ⊢
  dsimp only
  rw [IntWalk.i64_in _ (by omega)]
  refine Yae.mono ?_
  rintro v h1 ⟨rfl, rfl⟩
  simp only [Zai, Zak i0', List.getElem?_cons_succ, List.getElem?_cons_zero, true_and]
  refine Zhy (fun hno => ?_) (fun hyes => ?_)
  · exact bad (fun t r ho => by rw [hd] at ho; have := ho.dig; omega)
  have hc : 48 ≤ c ∧ c ≤ 57 := by omega
  apply Zbz.J4i
  simp only [Zax, Zak i0', Nat.zero_add, List.getElem?_cons_succ, List.getElem?_cons_zero, Zao, Zag]
  have hwr : IntKind.wrap .i64 ((c : Int) - 48) = ((c - 48 : Nat) : Int) := by rw [IntWalk.i64_in _ (by omega)]; omega
  refine ⟨⟨by omega, by omega⟩, ?_⟩
  rw [Int.toNat_natCast, Zpv hlt', hcc]
  dsimp only
  simp only [Zaz]
  refine ⟨?_, ?_⟩
  · generalize hh2 : h1 ++ [Zcj.cells Zat [] false] = h2
    have s2 : Zbe h1.length h1 h2 := by rw [← hh2]; exact Zas
    have l2 : h2.length = h1.length + 1 := by rw [← hh2]; simp
    have j2 : h2[h1.length]? = some (.cells Zat [] false) := by rw [← hh2]; simp
    have i2 := s2.get i0' (Own.lt i0')
    simp only [Zak i2, List.getElem?_cons_succ, List.getElem?_cons_zero, true_and]
    have i3 : (h2 ++ [Zcj.cells Zat [.int .i64 0, .slice none 0 0 true] false])[i]? = some (.cells Zel [.str s, .int .i64 (k : Int), .bool false] false) := Zko i2
    simp only [Zak i3, List.getElem?_cons_succ, List.getElem?_cons_zero, true_and]
    rw [Zfi, IntWalk.i64_in (c : Int) (by omega), hwr]
    generalize hh3 : h2 ++ [Zcj.cells Zat [.int .i64 ((c - 48 : Nat) : Int), .slice (some (h1.length, 0)) 0 0 true] false] = h3
    have s3 : Zbe h2.length h2 h3 := by rw [← hh3]; exact Zas
    have q3 : h3[h2.length]? = some (.cells Zat [.int .i64 ((c - 48 : Nat) : Int), .slice (some (h1.length, 0)) 0 0 true] false) := by rw [← hh3]; simp
    have i3' := s3.get i2 (Own.lt i2)
    simp only [Zav, Zak i3', List.getElem?_cons_succ, List.getElem?_cons_zero, Zao]
    rw [Zbq i3' (by simp), Zbs (by omega)]
    simp only [Zav, putRow, List.take_succ_cons, List.take_zero, List.length_cons, List.length_nil, List.drop_succ_cons, List.drop_zero, List.drop_nil, List.cons_append, List.nil_append, List.append_nil, Nat.zero_add]
    refine Zvc (c := c) (j0 := h1.length) hil hs hc ih (((K0.trans (Zga.of_same s2)).trans (Zga.of_same s3)).trans (Zga.set _ _ _)) (Zcp i3') (by omega) hd (Nat.le_refl _) (by omega) (by omega) (by omega) (by omega) (by omega) ?_ ?_ ?_
    · rw [Zbt (by omega)]; exact s3.get (s2.get z0 (Own.lt z0)) (by omega)
    · rw [Zbt (by omega)]; exact q3
    · rw [Zbt (by omega)]; exact s3.get j2 (by omega)
  · generalize hh2 : h1 ++ [Zcj.cells Zat [.int .i64 0, .slice none 0 0 true] false] = h2
    have s2 : Zbe h1.length h1 h2 := by rw [← hh2]; exact Zas
    have l2 : h2.length = h1.length + 1 := by rw [← hh2]; simp
    have q2 : h2[h1.length]? = some (.cells Zat [.int .i64 0, .slice none 0 0 true] false) := by rw [← hh2]; simp
    have i2 := s2.get i0' (Own.lt i0')
    simp only [Zak i2, List.getElem?_cons_succ, List.getElem?_cons_zero, true_and]
    generalize hh3 : h2 ++ [Zcj.cells Zat [] false] = h3
    have s3 : Zbe h2.length h2 h3 := by rw [← hh3]; exact Zas
    have l3 : h3.length = h2.length + 1 := by rw [← hh3]; simp
    have j3 : h3[h2.length]? = some (.cells Zat [] false) := by rw [← hh3]; simp
    have i3 := s3.get i2 (Own.lt i2)
    have q3 := s3.get q2 (Own.lt q2)
    simp only [Zak i3, List.getElem?_cons_succ, List.getElem?_cons_zero, true_and]
    rw [Zbq q3 (by simp), IntWalk.i64_in (c : Int) (by omega), hwr]
    simp only [Zav, putRow, List.take_succ_cons, List.take_zero, List.length_cons, List.length_nil, List.drop_succ_cons, List.drop_zero, List.drop_nil, List.cons_append, List.nil_append, List.append_nil, Nat.zero_add]
    generalize hh4 : h3.set h1.length (Zcj.cells Zat [.int .i64 ((c - 48 : Nat) : Int), .slice (some (h2.length, 0)) 0 0 true] false) = h4
    have i4 : h4[i]? = some (.cells Zel [.str s, .int .i64 (k : Int), .bool false] false) := by rw [← hh4, Zbt (by omega)]; exact i3
    have q4 : h4[h1.length]? = some (.cells Zat [.int .i64 ((c - 48 : Nat) : Int), .slice (some (h2.length, 0)) 0 0 true] false) := by rw [← hh4]; exact Zcp q3
    have j4 : h4[h2.length]? = some (.cells Zat [] false) := by rw [← hh4, Zbt (by omega)]; exact j3
    have z4 : h4[h.length]? = some (.cells Zat [.int .i64 0, .slice none 0 0 true] false) := by rw [← hh4, Zbt (by omega)]; exact s3.get (s2.get z0 (Own.lt z0)) (by omega)
    have K4 : Zga i h h4 := by rw [← hh4]; exact ((K0.trans (Zga.of_same s2)).trans (Zga.of_same s3)).trans' (fun j hj => Zbt (by omega))
    simp only [Zak i4, List.getElem?_cons_succ, List.getElem?_cons_zero, Zao]
    rw [Zbq i4 (by simp), Zbs (by omega)]
    simp only [Zav, putRow, List.take_succ_cons, List.take_zero, List.length_cons, List.length_nil, List.drop_succ_cons, List.drop_zero, List.drop_nil, List.cons_append, List.nil_append, List.append_nil, Nat.zero_add]
    refine Zvc (c := c) (j0 := h2.length) hil hs hc ih (K4.trans (Zga.set _ _ _)) (Zcp i4) (by omega) hd (Nat.le_refl _) (by omega) (by omega) (by omega) (by omega) (by omega) ?_ ?_ ?_
    · rw [Zbt (by omega)]; exact z4
    · rw [Zbt (by omega)]; exact q4
    · rw [Zbt (by omega)]; exact j4
end Go.Sim

set_option linter.unusedVariables false
set_option linter.unusedSimpArgs false
set_option maxRecDepth 20000
namespace Go.Sim
open Go Go.RowKit

theorem Yfq (s : List Nat) (hs : s.length ≤ 1048576) (hby : ∀ x ∈ s, x < 256) (h : Zaa) : Zad pg Zmz [.str s] h fun v h' => Zbe h.length h h' ∧ ∃ x a n c e, v = .tup [.agg [.int .i64 x, .slice a n c e], .bool (Yai s).isSome] ∧
    (∀ d, Yai s = some d → Zmk (Btw h.length h'.length) h' d [.int .i64 x, .slice a n c e]) := by
  apply Zmu.call
  simp only [Zaz]
  generalize hg : h ++ [Zcj.cells Zat [.int .i64 0, .slice none 0 0 true] false] = g
  have sg : Zbe h.length h g := by rw [← hg]; exact Zas
  have lg : g.length = h.length + 1 := by rw [← hg]; simp
  have zg : g[h.length]? = some (.cells Zat [.int .i64 0, .slice none 0 0 true] false) := by rw [← hg]; simp
  have fail : Yai s = none → ∀ g', Zbe h.length h g' → g'[h.length]? = some (.cells Zat [.int .i64 0, .slice none 0 0 true] false) → Zcb (Zbd g' (.ptr (some (List.length h, 0))) [.int .i64 0, .slice none 0 0 true]) fun h_1 => Zcx (Zbp h_1 (.ptr (some (List.length h, 0))) 2) fun cs_2 => Zaj cs_2 fun c_3 r_4 => Zdd .i64 (some c_3) fun x_5 => Zaj r_4 fun c_6 r_7 => xSl (some c_6) fun a_8 n_9 c_10 e_11 => Zcg r_7 (Zbe h.length h h_1 ∧ ∃ x a n c e, Zan.tup [.agg [.int .i64 x_5, .slice a_8 n_9 c_10 e_11], .bool false] = .tup [.agg [.int .i64 x, .slice a n c e], .bool (Yai s).isSome] ∧
    (∀ d, Yai s = some d → Zmk (Btw h.length h_1.length) h_1 d [.int .i64 x, .slice a n c e])) := by
    intro hno g' sg' zg'
    rw [Zbq zg' (by simp)]
    simp only [Zav, putRow, List.take_succ_cons, List.take_zero, List.length_cons, List.length_nil, List.drop_succ_cons, List.drop_zero, List.drop_nil, List.cons_append, List.nil_append, List.append_nil, Nat.zero_add]
    rw [Zbh (Zcp zg')]
    simp only [Zau, Zaf, Zao, Zah, Zaq]
    exact ⟨sg'.set' (Nat.le_refl _), 0, none, 0, 0, true, by rw [hno]; rfl, fun d hd => by rw [hno] at hd; cases hd⟩
  refine Zap (fun hbig => fail (Zme fun h1 => by omega) g sg zg) (fun hsm => ?_)
  generalize hh1 : g ++ [Zcj.cells Zel [.str s, .int .i64 0, .bool false] false] = h1
  have s1 : Zbe g.length g h1 := by rw [← hh1]; exact Zas
  have l1 : h1.length = g.length + 1 := by rw [← hh1]; simp
  have i1 : h1[g.length]? = some (Zsm s 0 false) := by rw [← hh1]; simp [Zsm]
  have z1 := s1.get zg (Own.lt zg)
  refine (Yga hs hby g.length s.length 0 (by omega) (by omega) h1 i1).mono ?_
  rintro v h2 ⟨K2, x, a, n, c, e, k', bad, rfl, i2, hk0, hk', hres⟩
  rw [List.drop_zero] at hres
  have l2 := K2.le
  have z2 : h2[h.length]? = some (.cells Zat [.int .i64 0, .slice none 0 0 true] false) := by rw [K2.eq _ (by omega) (by omega)]; exact z1
  have S2 : Zbe h.length h h2 := ⟨by omega, fun j hj => by rw [K2.eq j (by omega) (by omega), s1.eq j (by omega)]; exact sg.eq j hj⟩
  simp only [Zde, Zaf, Zao, Zah, Zaq]
  rw [Zfi]
  generalize hh3 : h2 ++ [Zcj.cells Zat [.int .i64 x, .slice a n c e] false] = h3
  have s3 : Zbe h2.length h2 h3 := by rw [← hh3]; exact Zas
  have l3 : h3.length = h2.length + 1 := by rw [← hh3]; simp
  have n3 : h3[h2.length]? = some (.cells Zat [.int .i64 x, .slice a n c e] false) := by rw [← hh3]; simp
  have i3 := s3.get i2 (Own.lt i2)
  have z3 := s3.get z2 (Own.lt z2)
  have S3 := S2.cat s3
  unfold Zsm at i3
  simp only [Zav, Zak i3, Nat.zero_add, List.getElem?_cons_succ, List.getElem?_cons_zero, Zai]
  rcases hres with ⟨rfl, d, ho, hr⟩ | ⟨rfl, hno⟩
  · simp only [Zay, Zao]
    refine Zer (fun hne => ?_) (fun heq => ?_)
    · refine fail (Zme fun _ d' ho' => ?_) h3 S3 z3
      have := (ho.unique ho').2
      have := congrArg List.length this
      simp only [List.length_drop, List.length_nil] at this
      omega
    · have hk : k' = s.length := by omega
      subst hk
      rw [List.drop_length] at ho
      have hd := Zzr (by omega) ho
      apply Zmu.J7i
      rw [Zbh n3]
      simp only [Zau, Zaf, Zao, Zah, Zaq]
      rw [Zbq z3 (by simp)]
      simp only [Zav, putRow, List.take_succ_cons, List.take_zero, List.length_cons, List.length_nil, List.drop_succ_cons, List.drop_zero, List.drop_nil, List.cons_append, List.nil_append, List.append_nil, Nat.zero_add]
      rw [Zbh (Zcp z3)]
      simp only [Zau, Zaf, Zao, Zah, Zaq]
      refine ⟨S3.set' (Nat.le_refl _), x, a, n, c, e, by rw [hd]; rfl, fun d' hd' => ?_⟩
      rw [hd] at hd'; cases hd'
      refine (hr.mono (S' := Btw (h.length + 1) h2.length) fun z hz => ⟨by have := hz.1; omega, hz.2⟩).agree (h' := h3.set h.length (Zcj.cells Zat [.int .i64 x, .slice a n c e] false)) (fun z hz => ?_) |>.mono fun z hz => ⟨by have := hz.1; omega, by have := hz.2; simp; omega⟩
      rw [Zbt (by have := hz.1; omega), s3.eq z hz.2]
  · simp only [Zbj]
    exact fail (Zme fun _ d' ho' => hno _ _ ho') h3 S3 z3
theorem Zmk.shape {S : Nat → Prop} {h : Zaa} {d : Dc} {v : List Zan} (r : Zmk S h d v) : ∃ x a' n' c' e', v = [.int .i64 x, .slice a' n' c' e'] := by
  match r with
  | .mk _ a' c' e' _ _ _ _ _ => exact ⟨_, _, _, _, _, rfl⟩
theorem Ylx {vs : List (List Zan)} (h2 : ∀ v ∈ vs, v.length = 2) {g : Nat} (hg : g < vs.length) : (vs.flatten.drop (g * 2)).take 2 = vs[g] := by
  induction vs generalizing g with
  | nil => simp at hg
  | cons v vs ih =>
    have hv := h2 v (by simp)
    cases g with
    | zero => simp only [List.flatten_cons, Nat.zero_mul, List.drop_zero, List.getElem_cons_zero]; rw [← hv, List.take_left']; rfl
    | succ g =>
      simp only [List.flatten_cons, List.getElem_cons_succ]
      rw [show (g + 1) * 2 = v.length + g * 2 by omega, ← List.drop_drop, List.drop_left']
      · exact ih (fun v hv => h2 v (by simp [hv])) (by simpa using hg)
      · rfl
theorem Ygw {a0 a1 : Pt} {n0 c0 n1 c1 : Nat} {e0 e1 : Bool} {w : Wd} (b : WB w) (hw : Zfy w = true) : ∀ (N : Nat) (d : Dc), d.size ≤ N → ∀ {h : Zaa} {lo hi : Nat} {v : List Zan} {n : Nd}, Zmk (Btw lo hi) h d v → hi ≤ h.length → Zpe h a0 n0 c0 a1 n1 c1 w → Zfz w n = true →
    Zad pg Zjh [.agg [.slice a0 n0 c0 e0, .slice a1 n1 c1 e1], .agg [.str n.1, .str n.2], .agg v] h fun v h' => v = .str (Zpq w d n) ∧ Zbe h.length h h' := by
  intro N
  induction N with
  | zero => intro d hd; cases d <;> simp [Dc.size] at hd
  | succ N ih =>
  intro d hd h lo hi v n rep hhi r hnd
  match rep with
  | .mk _ a cp e vs hp hl hv hr =>
  apply Zhg.call
  simp only [Zaz]
  generalize hh0 : h ++ [Zcj.cells Zam [.slice a0 n0 c0 e0, .slice a1 n1 c1 e1] false] = h0
  generalize hh1 : h0 ++ [Zcj.cells Zar [.str n.1, .str n.2] false] = h1
  generalize hhX : h1 ++ [Zcj.cells Zat [.int .i64 (d.ix : Int), .slice a d.ps.length cp e] false] = hX
  have s0 : Zbe h.length h h0 := by rw [← hh0]; exact Zas
  have s1 : Zbe h0.length h0 h1 := by rw [← hh1]; exact Zas
  have sX : Zbe h1.length h1 hX := by rw [← hhX]; exact Zas
  have w0 : h0[h.length]? = some (Zsn a0 n0 c0 e0 a1 n1 c1 e1) := by rw [← hh0]; simp [Zsn]
  have w1 := sX.get (s1.get w0 (Own.lt w0)) (by have := Own.lt w0; have := s1.le; omega)
  have p0 : h1[h0.length]? = some (.cells Zar [.str n.1, .str n.2] false) := by rw [← hh1]; simp
  have p1 := sX.get p0 (Own.lt p0)
  have d1 : hX[h1.length]? = some (.cells Zat [.int .i64 (d.ix : Int), .slice a d.ps.length cp e] false) := by rw [← hhX]; simp
  have S1 := (s0.cat s1).cat sX
  have hl1 := r.len1
  simp only [Zak d1, Zxz w1, Nat.zero_add, Nat.add_zero, List.getElem?_cons_zero, List.getElem?_cons_succ, Zao, Zah, true_and]
  refine Zap (fun hge => ?_) (fun hlt => ?_)
  · exact ⟨by rw [Zjl (by rw [Zwf (by omega)]; simp; decide), Zwf (by omega)]; rfl, S1⟩
  have hk : d.ix < n1 := by omega
  have hkl : d.ix < w.is.length := by omega
  have r1 := r.same S1
  obtain ⟨ii, oi, _, na, nn, ncp, ne, ha1, hii, hrow3, hc0, hc1, hc2, hrow, hnl⟩ := r1.inst (k := d.ix) hk
  simp only [ha1, Zax, Int.toNat_natCast, hrow3, Zau, Zaf, Zaq, Zag, Zah]
  rw [Yfl]
  have hbi := b.is _ (List.getElem_mem hkl)
  have hty := Zvj hnd
  refine ⟨by omega, ?_⟩
  generalize hh3 : hX ++ [Zcj.cells Zal [.str w.is[d.ix].1.1, .str w.is[d.ix].1.2, .slice na nn ncp ne] false] = h3
  have s3 : Zbe hX.length hX h3 := by rw [← hh3]; exact Zas
  have o3 : h3[hX.length]? = some (.cells Zal [.str w.is[d.ix].1.1, .str w.is[d.ix].1.2, .slice na nn ncp ne] false) := by rw [← hh3]; simp
  have S3 := S1.cat s3
  have w3 := s3.get w1 (Own.lt w1)
  have p3 := s3.get p1 (Own.lt p1)
  have d3 := s3.get d1 (Own.lt d1)
  simp only [Zav, Zak o3, Zak p3, Nat.zero_add, Nat.add_zero, List.getElem?_cons_zero, List.getElem?_cons_succ, Zag]
  have hat : Zun w d.ix n d.ps.length = _ := Yew hkl
  refine Zhy (fun hcl => ?_) (fun hcl => ?_)
  · rw [if_neg hcl] at hat
    exact ⟨by rw [Zjl (by rw [hat]; decide), hat]; rfl, S3⟩
  rw [if_pos hcl] at hat
  refine (Zuv w.is[d.ix].1.2 n.2 hbi.2.1 (by omega) h3).mono ?_
  rintro v h4 ⟨rfl, s4⟩
  have S4 := S3.cat s4
  have w4 := s4.get w3 (Own.lt w3)
  have p4 := s4.get p3 (Own.lt p3)
  have d4 := s4.get d3 (Own.lt d3)
  have o4 := s4.get o3 (Own.lt o3)
  simp only [Zai]
  refine Zbv (fun hno => ?_) (fun hyes => ?_)
  · rw [if_neg (by rw [hno]; simp)] at hat
    exact ⟨by rw [Zjl (by rw [hat]; decide), hat]; rfl, S4⟩
  rw [if_pos hyes] at hat
  simp only [Zss o4, Zak p4, Nat.zero_add, List.getElem?_cons_zero, List.getElem?_cons_succ, Zau, Zaf, Zaq, Zag, Zah]
  refine (Ygk (i := w.is[d.ix]) (t := n.2) ((hrow.same' s3).same' s4) (by omega) hbi.2.1 (by omega) (fun p hp => (hbi.2.2.2 p hp).2)).mono ?_
  rintro v h5 ⟨s5, ma, mn, mc, me, rfl, fm⟩
  have S5 := S4.cat s5
  have w5 := s5.get w4 (Own.lt w4)
  have d5 := s5.get d4 (Own.lt d4)
  simp only [Zct, Zaf, Zah, Zai, Zaq]
  cases hh : Zhw w.is[d.ix] n.2 with
  | none =>
    rw [hh] at hat
    simp only [Option.isSome_none, Bool.not_false, Zbj]
    simp only at hat
    exact ⟨by rw [Zjl (by rw [hat]; show Ynu ≠ Zxn; decide), hat]; rfl, S5⟩
  | some ms =>
  rw [hh] at hat fm
  simp only [Option.getD_some] at fm
  simp only at hat
  have hmn := fm.1
  have hms3 := Zyy hw hkl hh
  have hm3 := hms3.1
  simp only [Option.isSome_some, Bool.not_true, Zay, Zax, Zak d5, List.getElem?_cons_zero, List.getElem?_cons_succ, Nat.zero_add, Zah]
  refine Zer (fun hne => ?_) (fun heq => ?_)
  · rw [if_neg (by omega)] at hat
    exact ⟨by rw [Zjl (by rw [hat]; decide), hat]; rfl, S5⟩
  have hlm : ms.length = d.ps.length := by omega
  rw [if_pos hlm] at hat
  have hC : Zpq w d n = Zhp (List.zipWith (Zpq w) d.ps ms) := Ygd hat hlm
  have hzl := Ygc (w := w) hlm
  rw [hC]
  refine Zhg.L14ind (J := fun (g : Nat) x57 h' => x57 = (g : Int) ∧ g ≤ mn ∧ Zbe h5.length h5 h' ∧ ∀ x ∈ (List.zipWith (Zpq w) d.ps ms).take g, x = Zxn) (m := fun g => mn - g) (hr := ?_) (g := 0) (hj := ⟨rfl, by omega, Zbe.refl _ _, by simp⟩) ..
  rintro g x57 h6 ⟨rfl, hg, s6, hok⟩ R hR
  have S6 := S5.cat s6
  have w6 := s6.get w5 (Own.lt w5)
  have d6 := s6.get d5 (Own.lt d5)
  unfold Zhg.L14t
  refine Zap (fun hlt => ?_) (fun hge => ?_)
  · obtain ⟨jm, om2, hul, hma, _, hrm, _⟩ := ((fm.row Zek).same' s6).pr (k := g) (by omega)
    have hgp : g < d.ps.length := by omega
    have hgv : g < vs.length := by omega
    simp only [hma, Zax, Int.toNat_natCast, hrm, Zau, Zaf, Zaq, Zag, Zaz]
    rw [← hma, Zfi]
    refine ⟨by omega, ?_⟩
    generalize hh7 : h6 ++ [Zcj.cells Zar [.str ms[g].1, .str ms[g].2] false] = h7
    have o7 : h7[h6.length]? = some (.cells Zar [.str ms[g].1, .str ms[g].2] false) := by rw [← hh7]; simp
    have s7 : Zbe h6.length h6 h7 := by rw [← hh7]; exact Zas
    have S7 := S6.cat s7
    have w7 := s7.get w6 (Own.lt w6)
    have d7 := s7.get d6 (Own.lt d6)
    rcases hp with h0 | ⟨j, rfl, hSj, hj⟩
    · omega
    have j7 := S7.get hj (Own.lt hj)
    have hpm : d.ps[g] ∈ d.ps := List.getElem_mem hgp
    have rp := (hr g vs[g] d.ps[g] (List.getElem?_eq_getElem hgv) (List.getElem?_eq_getElem hgp)).agree (h' := h7) (fun i hi => S7.eq i (by have := hi.2; omega))
    have hshape : ∃ x a' n' c' e', vs[g] = [.int .i64 x, .slice a' n' c' e'] := by
      exact rp.shape
    obtain ⟨x', a', n', c', e', hsh⟩ := hshape
    have hjg : Zbp h7 (.ptr (some (j, 0 + g * 2))) 2 = some [.int .i64 x', .slice a' n' c' e'] := by
      rw [Zdt j7 (by rw [Zwa hv]; omega), Nat.zero_add, Ylx hv hgv, hsh]
    simp only [Zav, Zak d7, List.getElem?_cons_zero, List.getElem?_cons_succ, Nat.zero_add, Zah, Zax]
    rw [Nat.zero_add] at hjg
    simp only [Int.toNat_natCast, hjg, Zao, Ybw w7, Zbh o7, Zau, Zaf, Zaq, Zah, Zag, true_and]
    refine ⟨by omega, ?_⟩
    have hsz := Dc.size_ps hpm
    rw [hsh] at rp
    refine (ih d.ps[g] (by omega) (n := ms[g]) rp (by have := S7.le; omega) (r.same S7) (hms3.2 _ (List.getElem_mem hul))).mono ?_
    rintro v h8 ⟨rfl, s8⟩
    simp only [Zag]
    have hzg : (List.zipWith (Zpq w) d.ps ms)[g]'(by omega) = Zpq w d.ps[g] ms[g] := by simp
    refine Zhy (fun hbad => ?_) (fun hgood => ?_)
    · exact ⟨by rw [Zqr (g := g) (by omega) hok (by rw [hzg]; exact hbad), hzg], S7.cat s8⟩
    · rw [Zbs (by omega)]
      refine hR (g + 1) _ _ (by omega) ⟨rfl, by omega, (s6.cat s7).cat s8, ?_⟩
      intro x hx
      rw [List.take_succ_eq_append_getElem (by omega), List.mem_append] at hx
      rcases hx with hx | hx
      · exact hok x hx
      · simp only [List.mem_singleton] at hx; rw [hx, hzg]; exact hgood
  · apply Zhg.A14x1i
    have hgm : g = mn := by omega
    rw [List.take_of_length_le (by omega)] at hok
    exact ⟨by rw [Zrr hok]; rfl, S6⟩
theorem Zwc {h : Zaa} {a0 a1 : Pt} {n0 c0 n1 c1 : Nat} {e0 e1 : Bool} {w : Wd} {n : Nd} {s : List Nat} (r : Zpe h a0 n0 c0 a1 n1 c1 w) (b : WB w) (hnt : n.2.length ≤ 1048576) (hs : s.length ≤ 1048576) (hby : ∀ x ∈ s, x < 256) :
    Zad pg Zjs [.agg [.slice a0 n0 c0 e0, .slice a1 n1 c1 e1], .agg [.str n.1, .str n.2], .str s] h fun v h' => v = .str (Zrw w n s) ∧ Zbe h.length h h' := by
  apply Zjy.call
  simp only [Zaz]
  generalize hh0 : h ++ [Zcj.cells Zam [.slice a0 n0 c0 e0, .slice a1 n1 c1 e1] false] = h0
  generalize hh1 : h0 ++ [Zcj.cells Zar [.str n.1, .str n.2] false] = h1
  have s0 : Zbe h.length h h0 := by rw [← hh0]; exact Zas
  have s1 : Zbe h0.length h0 h1 := by rw [← hh1]; exact Zas
  have w0 : h0[h.length]? = some (Zsn a0 n0 c0 e0 a1 n1 c1 e1) := by rw [← hh0]; simp [Zsn]
  have w1 := s1.get w0 (Own.lt w0)
  have p1 : h1[h0.length]? = some (.cells Zar [.str n.1, .str n.2] false) := by rw [← hh1]; simp
  have S1 := s0.cat s1
  refine (Yfq s hs hby h1).mono ?_
  rintro v h2 ⟨s2, x, a, m, c, e, rfl, hp⟩
  have S2 := S1.cat s2
  have w2 := s2.get w1 (Own.lt w1)
  have p2 := s2.get p1 (Own.lt p1)
  simp only [Zct, Zaf, Zde, Zao, Zah, Zaq, Zai]
  rw [Zfi]
  generalize hh3 : h2 ++ [Zcj.cells Zat [.int .i64 x, .slice a m c e] false] = h3
  have s3 : Zbe h2.length h2 h3 := by rw [← hh3]; exact Zas
  have d3 : h3[h2.length]? = some (.cells Zat [.int .i64 x, .slice a m c e] false) := by rw [← hh3]; simp
  have S3 := S2.cat s3
  have w3 := s3.get w2 (Own.lt w2)
  have p3 := s3.get p2 (Own.lt p2)
  simp only [Zav]
  cases hd : Yai s with
  | none =>
    simp only [Option.isSome_none, Bool.not_false, Zbj]
    exact ⟨by unfold Zrw; rw [hd]; rfl, S3⟩
  | some d =>
  have hrep := hp d hd
  have hC : Zrw w n s = if Zfy w && Zfz w n then Zpq w d n else Ycg := by unfold Zrw; rw [hd]
  simp only [Option.isSome_some, Bool.not_true, Zay]
  rw [Ybw w3, Zbh p3]
  simp only [Zau, Zaf, Zaq, Zah, Zag]
  refine (Zyx (ct := n.1) (tt := n.2) (r.same S3) b hnt).mono ?_
  rintro v h4 ⟨rfl, s4⟩
  have S4 := S3.cat s4
  have w4 := s4.get w3 (Own.lt w3)
  have p4 := s4.get p3 (Own.lt p3)
  have d4 := s4.get d3 (Own.lt d3)
  simp only [Zai]
  refine Zbv (fun hg => ⟨by rw [hC]; simp only [hg]; rfl, S4⟩) (fun hg => ?_)
  have hg2 := hg
  simp only [Bool.and_eq_true] at hg2
  apply Zjy.J4i
  rw [Ybw w4, Zbh p4, Zbh d4]
  simp only [Zau, Zaf, Zaq, Zah, Zag, Zao]
  refine (Ygw (n := n) b hg2.1 d.size d (Nat.le_refl _) (hrep.agree (h' := h4) fun i hi => by rw [s4.eq i (by have := hi.2; have := s3.le; omega), s3.eq i hi.2]) (by have := s4.le; have := s3.le; omega) (r.same S4) hg2.2).mono ?_
  rintro v h5 ⟨rfl, s5⟩
  simp only [Zag]
  exact ⟨by rw [hC, if_pos hg], S4.cat s5⟩
end Go.Sim

set_option linter.unusedVariables false
set_option linter.unusedSimpArgs false
set_option maxRecDepth 20000
namespace Go.Sim
open Go Go.RowKit

theorem lawCheckDict {h : Zaa} {a0 a1 : Pt} {n0 c0 n1 c1 : Nat} {e0 e1 : Bool} {w : Wd} {nd0 : Nd} {s1 : List Nat} (r : Zpe h a0 n0 c0 a1 n1 c1 w) (hb : Yms w) (hb0 : Yks nd0) (hb1 : Zrb s1.length) (hby1 : ∀ b ∈ s1, b < 256) :
    Zad pg Ziq [.agg [.slice a0 n0 c0 e0, .slice a1 n1 c1 e1], .agg [.str nd0.1, .str nd0.2], .str s1] h fun v _ => v = .bool true := by
  apply Zip.call
  simp only [Zaz]
  generalize hg0 : h ++ [Zcj.cells Zdy [.slice a0 n0 c0 e0, .slice a1 n1 c1 e1] false] = g0
  have sg0 : Zbe h.length h g0 := by rw [← hg0]; exact Zas
  have xw0 : g0[h.length]? = some (.cells Zdy [.slice a0 n0 c0 e0, .slice a1 n1 c1 e1] false) := by rw [← hg0]; simp
  generalize hg1 : g0 ++ [Zcj.cells Zjg [.str nd0.1, .str nd0.2] false] = g1
  have sg1 : Zbe g0.length g0 g1 := by rw [← hg1]; exact Zas
  have xw_g1 := sg1.get xw0 (Own.lt xw0)
  have S_g1 := sg0.cat sg1
  have xn0_g1 : g1[g0.length]? = some (.cells Zjg [.str nd0.1, .str nd0.2] false) := by rw [← hg1]; simp
  try simp only [Zbh xw_g1, Zbh xn0_g1, Zau, Zaf, Zaq, Zah, Zag, Zde, Zao, Zai, Zct, Zav, true_and]
  refine Zap (fun _ => by trivial) (fun hge1 => ?_)
  have hst1 : s1.length ≤ 1048576 := by omega
  refine (Yds (r.same S_g1) hb (x := 1048576) (by omega)).mono ?_
  rintro v k11 ⟨y, rfl, sk11, hy⟩
  have xw_k11 := sk11.get xw_g1 (Own.lt xw_g1)
  have xn0_k11 := sk11.get xn0_g1 (Own.lt xn0_g1)
  have S_k11 := S_g1.cat sk11
  simp only [Zao]
  refine Zap (fun _ => by trivial) (fun hge => ?_)
  have hyy := hy (by omega)
  have b : WB w := .of hb (by omega)
  have hbl0 := hb0.1
  have hbm0 := hb0.2.1
  unfold Zrb at hbl0 hbm0
  try simp only [Zbh xw_k11, Zbh xn0_k11, Zbh xw_g1, Zbh xn0_g1, Zau, Zaf, Zaq, Zah, Zag, Zde, Zao, Zai, Zct, Zav, true_and]
  refine (Zsv hbl0 hbm0 (x := y) (by omega)).mono ?_
  rintro v k12 ⟨z0, rfl, sk12, hz0⟩
  have xw_k12 := sk12.get xw_k11 (Own.lt xw_k11)
  have xn0_k12 := sk12.get xn0_k11 (Own.lt xn0_k11)
  have S_k12 := S_k11.cat sk12
  simp only [Zao]
  refine Zap (fun _ => by trivial) (fun hge0 => ?_)
  have hzz0 := hz0 (by omega)
  have hnt0 : nd0.2.length ≤ 1048576 := by omega
  have hnc0 : nd0.1.length ≤ 1048576 := by omega
  try simp only [Zbh xw_k12, Zbh xn0_k12, Zbh xw_k11, Zbh xn0_k11, Zau, Zaf, Zaq, Zah, Zag, Zde, Zao, Zai, Zct, Zav, true_and]
  refine (Zqz (r.same S_k12) b).mono ?_
  rintro v k13 ⟨b0, d0, f0, b1, d1, f1, ys, rfl, hd0, hd1, sk13, W3⟩
  have xw_k13 := sk13.get xw_k12 (Own.lt xw_k12)
  have xn0_k13 := sk13.get xn0_k12 (Own.lt xn0_k12)
  have S_k13 := S_k12.cat sk13
  try simp only [Zbh xw_k13, Zbh xn0_k13, Zbh xw_k12, Zbh xn0_k12, Zau, Zaf, Zaq, Zah, Zag, Zde, Zao, Zai, Zct, Zav, true_and]
  refine (Zqc (c := nd0.1) (t := nd0.2)).mono ?_
  rintro v k14 ⟨rfl, sk14⟩
  have xw_k14 := sk14.get xw_k13 (Own.lt xw_k13)
  have xn0_k14 := sk14.get xn0_k13 (Own.lt xn0_k13)
  have S_k14 := S_k13.cat sk14
  try simp only [Zbh xw_k14, Zbh xn0_k14, Zbh xw_k13, Zbh xn0_k13, Zau, Zaf, Zaq, Zah, Zag, Zde, Zao, Zai, Zct, Zav, true_and]
  refine (Zwc ((W3.rep hd0 hd1).same sk14) b hnt0 hst1 hby1).mono ?_
  rintro v k15 ⟨rfl, sk15⟩
  have xw_k15 := sk15.get xw_k14 (Own.lt xw_k14)
  have xn0_k15 := sk15.get xn0_k14 (Own.lt xn0_k14)
  have S_k15 := S_k14.cat sk15
  try simp only [Zbh xw_k15, Zbh xn0_k15, Zbh xw_k14, Zbh xn0_k14, Zau, Zaf, Zaq, Zah, Zag, Zde, Zao, Zai, Zct, Zav, true_and]
  refine (Zqz (r.same S_k15) b).mono ?_
  rintro v k16 ⟨p0, q0, g0', p1, q1, g1', zs, rfl, hq0, hq1, sk16, W6⟩
  have xw_k16 := sk16.get xw_k15 (Own.lt xw_k15)
  have xn0_k16 := sk16.get xn0_k15 (Own.lt xn0_k15)
  have S_k16 := S_k15.cat sk16
  try simp only [Zbh xw_k16, Zbh xn0_k16, Zbh xw_k15, Zbh xn0_k15, Zau, Zaf, Zaq, Zah, Zag, Zde, Zao, Zai, Zct, Zav, true_and]
  rw [Zfi]
  generalize hg2 : k16 ++ [Zcj.cells Zam [.slice p0 n0 q0 g0', .slice p1 n1 q1 g1'] false] = g2
  have sg2 : Zbe k16.length k16 g2 := by rw [← hg2]; exact Zas
  have xw_g2 := sg2.get xw_k16 (Own.lt xw_k16)
  have xn0_g2 := sg2.get xn0_k16 (Own.lt xn0_k16)
  have S_g2 := S_k16.cat sg2
  have xi_g2 : g2[k16.length]? = some (.cells Zam [.slice p0 n0 q0 g0', .slice p1 n1 q1 g1'] false) := by rw [← hg2]; simp
  try simp only [Zbh xw_g2, Zbh xn0_g2, Zbh xi_g2, Zbh xw_k15, Zbh xn0_k15, Zau, Zaf, Zaq, Zah, Zag, Zde, Zao, Zai, Zct, Zav, true_and]
  have W7 := W6.same sg2
  refine (Zqc (c := nd0.1) (t := nd0.2)).mono ?_
  rintro v k17 ⟨rfl, sk17⟩
  have xw_k17 := sk17.get xw_g2 (Own.lt xw_g2)
  have xn0_k17 := sk17.get xn0_g2 (Own.lt xn0_g2)
  have xi_k17 := sk17.get xi_g2 (Own.lt xi_g2)
  have S_k17 := S_g2.cat sk17
  try simp only [Zbh xw_k17, Zbh xn0_k17, Zbh xi_k17, Zbh xw_g2, Zbh xn0_g2, Zbh xi_g2, Zau, Zaf, Zaq, Zah, Zag, Zde, Zao, Zai, Zct, Zav, true_and]
  refine (Zxp ((W7.rep hq0 hq1).same sk17) b).mono ?_
  rintro v k18 ⟨rfl, sk18⟩
  have xw_k18 := sk18.get xw_k17 (Own.lt xw_k17)
  have xn0_k18 := sk18.get xn0_k17 (Own.lt xn0_k17)
  have xi_k18 := sk18.get xi_k17 (Own.lt xi_k17)
  have S_k18 := S_k17.cat sk18
  simp only [Zct, Zaf, Zaq, Zah, Zag, Zao, Zai, beq_self_eq_true, eq_self, decide_true, Bool.not_true, Zay]
  try simp only [Zbh xw_k18, Zbh xn0_k18, Zbh xi_k18, Zbh xw_k17, Zbh xn0_k17, Zbh xi_k17, Zau, Zaf, Zaq, Zah, Zag, Zde, Zao, Zai, Zct, Zav, true_and]
  refine (Zqz (r.same S_k18) b).mono ?_
  rintro v k19 ⟨u0, v0, j0, u1, v1, j1, ts, rfl, hv0, hv1, sk19, W10⟩
  have xw_k19 := sk19.get xw_k18 (Own.lt xw_k18)
  have xn0_k19 := sk19.get xn0_k18 (Own.lt xn0_k18)
  have xi_k19 := sk19.get xi_k18 (Own.lt xi_k18)
  have S_k19 := S_k18.cat sk19
  try simp only [Zbh xw_k19, Zbh xn0_k19, Zbh xi_k19, Zbh xw_k18, Zbh xn0_k18, Zbh xi_k18, Zau, Zaf, Zaq, Zah, Zag, Zde, Zao, Zai, Zct, Zav, true_and]
  refine (Yeh ((((W7.rep hq0 hq1).same sk17).same sk18).same sk19) (W10.rep hv0 hv1) b).mono ?_
  rintro v k20 ⟨rfl, sk20⟩
  have xw_k20 := sk20.get xw_k19 (Own.lt xw_k19)
  have xn0_k20 := sk20.get xn0_k19 (Own.lt xn0_k19)
  have xi_k20 := sk20.get xi_k19 (Own.lt xi_k19)
  have S_k20 := S_k19.cat sk20
  simp only [Zai, Bool.not_true, Zay]
end Go.Sim

set_option linter.unusedVariables false
namespace Go.Sim
open Go Go.RowKit
theorem rd_strC {P : Program} {h : Zaa} {f : Nat} {t : TypeId} {cs : List Zan} {d : Dt} (ht : P.underlying t = some .string) (hr : rd P h (f + 1) t cs d) : ∃ s, cs = [.str s] ∧ Zrb s.length ∧ ∀ b ∈ s, b < 256 := by
  simp only [rd, ht] at hr
  obtain ⟨s, rfl, _, h1, hb⟩ := hr
  exact ⟨s, rfl, h1, hb⟩
end Go.Sim
