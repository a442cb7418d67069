/- A part of the proof of a statement of this seat: see the text that holds the theorem. No condition. -/
import Derived.Test.YtlljbdepamknoaaGreatDoorPTCFind
import Derived.Test.YtlljbdepamknoaaGreatDoorPLevel
import Derived.Test.YtlljbdepamknoaaGreatDoorCWRep
import Derived.Test.YtlljbdepamknoaaGreatDoorCTy
import Derived.Test.YtlljbdepamknoaaGreatDoorPTCSApply
set_option linter.unusedVariables false
set_option linter.unusedSimpArgs false
set_option linter.all false
set_option linter.unusedVariables false
set_option linter.unusedSimpArgs false
set_option maxRecDepth 20000
namespace Go.Sim
open Go Go.RowKit

theorem Ypx {h : Zaa} {n : Nd} {d : Nat} (hd : d < 10) (hc : n.1.length + n.2.length ≤ 1048576) : Zae pg Zqp [.agg [.str n.1, .str n.2], .int .i64 (d : Int)] h fun v h' => v = .str (Yjp n d) ∧ Zbb h.length h h' := by
 apply Zym.call
 simp only [Zaz]
 have s0 : Zbb h.length h (h ++ [.cells Zaj [.str n.1, .str n.2] false]) := Zas
 rw [Ykp]
 simp only [Zar, Zah, Zat, Zai]
 refine (Yly (by omega)).mono ?_
 rintro v h1 ⟨rfl, s1⟩
 simp only [Zai]
 refine ⟨by simp; omega, (Yak (i := d) (by omega)).mono ?_⟩
 rintro v h2 ⟨rfl, rfl⟩
 simp only [Zai]
 rw [Ztr hd]
 exact ⟨by simp; omega, rfl, s0.cat s1⟩
def Yis (w : Wd) (es : List ME) : Prop := ∀ e ∈ es, ∃ s b, e.1 = .str s ∧ e.2.1 = .bool b ∧ ∀ n d, Zet w n = true → s = Yjp n d → b = Znd (wk w) d n
theorem Zzz : ∀ (es : List ME) (s : List Nat) (i : Nat), (∀ e ∈ es, ∃ s, e.1 = .str s) → ∃ r, Zry es s i = some r ∧ ∀ j v, r = some (j, v) → ∃ e ∈ es, e.1 = .str s ∧ e.2.1 = v
 | [], s, i, h => ⟨none, rfl, fun j v h => by cases h⟩
 | (k, v, c) :: es, s, i, h => by
  obtain ⟨t, ht⟩ := h (k, v, c) (by simp)
  simp only at ht
  subst ht
  unfold Zry
  by_cases hst : s = t
  ·rw [if_pos hst]
   exact ⟨_, rfl, fun j u hj => by cases hj; exact ⟨_, List.mem_cons_self, by rw [hst], rfl⟩⟩
  ·rw [if_neg hst]
   obtain ⟨r, hr, hm⟩ := Zzz es s (i + 1) fun e he => h e (by simp [he])
   exact ⟨r, hr, fun j u hj => by obtain ⟨e, he, h1⟩ := hm j u hj; exact ⟨e, by simp [he], h1⟩⟩
theorem Zyy {α : Type} {f : α → α} : ∀ {l : List α} {i : Nat} {x : α}, x ∈ l.modify i f → x ∈ l ∨ ∃ y ∈ l, x = f y
 | [], i, x, h => by cases i <;> simp at h
 | y :: l, 0, x, h => by
  simp at h
  rcases h with rfl | h
  ·exact .inr ⟨y, by simp, rfl⟩
  ·exact .inl (by simp [h])
 | y :: l, i + 1, x, h => by
  simp at h
  rcases h with rfl | h
  ·exact .inl (by simp)
  ·rcases Zyy h with h | ⟨z, hz, rfl⟩
   ·exact .inl (by simp [h])
   ·exact .inr ⟨z, by simp [hz], rfl⟩
structure Yap (hb : Zaa) (i m : Nat) (u v : Zam) (w : Wd) (h : Zaa) : Prop where
 same : Zbb hb.length hb h
 ge : hb.length ≤ m
 lt : m < i
 ob : ∃ x2 x4, h[i]? = some (.cells Zpi [u, v, x2, .map (some m), x4] false)
 mp : ∃ es clk, h[m]? = some (.map es clk) ∧ Yis w es
section
variable {hb : Zaa} {i m : Nat} {u v : Zam} {w : Wd} {h : Zaa}
theorem Yap.step {h' : Zaa} (r : Yap hb i m u v w h) (k : Zbb h.length h h') : Yap hb i m u v w h' := by
 obtain ⟨x2, x4, ho⟩ := r.ob
 obtain ⟨es, clk, hm, ok⟩ := r.mp
 exact ⟨r.same.trans (k.mono r.same.le), r.ge, r.lt, ⟨x2, x4, k.get ho (Own.lt ho)⟩, ⟨es, clk, k.get hm (Own.lt hm), ok⟩⟩
end
theorem Zgy.get {i : Nat} {h h' : Zaa} (k : Zgy i h h') {j : Nat} {x : Zco} (hj : h[j]? = some x) (hne : j ≠ i) : h'[j]? = some x := by rw [k.eq j (Own.lt hj) hne]; exact hj
theorem Row.keep' {i : Nat} {h h' : Zaa} {a : Pt} {n : Nat} {cs : List Zam} (r : Row h.length h a n cs) (ha : n ≠ 0 → ∀ j o, a = some (j, o) → j ≠ i) (k : Zgy i h h') : Row h'.length h' a n cs := (r.keep ha k).mono k.le
def Yiy (d : Nat) (hb : Zaa) (i m : Nat) (a0 a1 : Pt) (n0 c0 n1 c1 : Nat) (e0 e1 : Bool) (w : Wd) : Prop := ∀ {h : Zaa} {n : Nd}, Yap hb i m (.slice a0 n0 c0 e0) (.slice a1 n1 c1 e1) w h → Zet w n = true →
 Zae pg Zjc [.ptr (some (i, 0)), .agg [.str n.1, .str n.2], .int .i64 (d : Int)] h fun x h' => x = .bool (Znd (wk w) d n) ∧ Yap hb i m (.slice a0 n0 c0 e0) (.slice a1 n1 c1 e1) w h' ∧ Zgy m h h'
theorem Yrb {hb : Zaa} {i m : Nat} {a0 a1 : Pt} {n0 c0 n1 c1 : Nat} {e0 e1 : Bool} {w : Wd} {d : Nat} (ih : 0 < d → Yiy (d - 1) hb i m a0 a1 n0 c0 n1 c1 e0 e1 w) (hd10 : d < 10) {h : Zaa} (rd : Yap hb i m (.slice a0 n0 c0 e0) (.slice a1 n1 c1 e1) w h)
  {p0 p2 : Nat} (hp0 : h[p0]? = some (.cells Zic [.ptr (some (i, 0))] false)) (hp2 : h[p2]? = some (.cells Zgs [.int .i64 (d : Int)] false)) (hi0 : p0 ≠ m) (hi2 : p2 ≠ m)
  {a : Pt} {k c : Nat} {e : Bool} {ms : List Nd} (row : Row h.length h a (k * 2) (Zcf eP ms)) (hk : k ≤ 3) (hrm : ∀ j o, a = some (j, o) → j ≠ m) (hv : ∀ x ∈ ms, Zet w x = true) (hd : ms = [] ∨ 0 < d) :
  Zae pg Zcc [.slice a k c e, .fn Zbn [.ptr (some (p0, 0)), .ptr (some (p2, 0))]] h fun x h' => x = .bool (!ms.all (Znd (wk w) (d - 1))) ∧ Yap hb i m (.slice a0 n0 c0 e0) (.slice a1 n1 c1 e1) w h' ∧ Zgy m h h' := by
 have hkl : ms.length = k := by have := row.1; rw [Zay Zek] at this; omega
 apply Zbx.call
 apply Zav.call
 refine Zav.L2ind _ _ _ _ _ _ _ _ (J := fun (g : Nat) x8 h' => x8 = (g : Int) ∧ g ≤ k ∧ (ms.take g).all (Znd (wk w) (d - 1)) = true ∧ Yap hb i m (.slice a0 n0 c0 e0) (.slice a1 n1 c1 e1) w h' ∧ Zgy m h h') (fun g => k - g) ?_ 0 _ _ ⟨rfl, by omega, rfl, rd, Zgy.of_same (Zbb.refl _ _)⟩
 rintro g x8 h' ⟨rfl, hg, htrue, rdg, Kg⟩ R hR
 unfold Zav.L2t
 refine Zan (fun hlt => ?_) (fun hge => ?_)
 ·obtain ⟨im, om, hgl, rfl, _, hrm', _⟩ := (row.keep' (fun _ j o ha => hrm j o ha) Kg).pr (k := g) (by omega)
  simp only [Zax, Int.toNat_natCast, hrm', Zar, Zah, Zat, Zai]
  refine ⟨by omega, ?_⟩
  apply Zig.call
  simp only [Zaz]
  generalize hh7 : h' ++ [Zco.cells Zaj [.str ms[g].1, .str ms[g].2] false] = h7
  have s7 : Zbb h'.length h' h7 := by rw [← hh7]; exact Zas
  have o7 : h7[h'.length]? = some (.cells Zaj [.str ms[g].1, .str ms[g].2] false) := by rw [← hh7]; simp
  have g0 := Kg.get hp0 hi0
  have g2 := Kg.get hp2 hi2
  have g0 := s7.get g0 (Own.lt g0)
  have g2 := s7.get g2 (Own.lt g2)
  have hpos : 0 < d := hd.resolve_left (fun hm => by rw [hm] at hgl; simp at hgl)
  simp only [Zaq g0, Zaq g2, Zby o7, List.getElem?_cons_zero, Zgb, Zar, Zah, Zat, Zai, Zau]
  rw [show IntKind.wrap .i64 ((d : Int) - 1) = ((d - 1 : Nat) : Int) by rw [IntWalk.i64_in _ (by omega)]; omega]
  refine (ih hpos (n := ms[g]) (rdg.step s7) (hv _ (List.getElem_mem hgl))).mono ?_
  rintro v h8 ⟨rfl, rd8, K8⟩
  have K8' := (Kg.trans (Zgy.of_same s7)).trans K8
  simp only [Zal]
  refine Zcb (fun hbb => ?_) (fun hbb => ?_)
  ·have hall : ms.all (Znd (wk w) (d - 1)) = false := by rw [List.all_eq_false]; exact ⟨_, List.getElem_mem hgl, by rw [hbb]; simp⟩
   exact ⟨by rw [hall]; simp, rd8, K8'⟩
  ·rw [Zbj (by omega)]
   refine hR (g + 1) _ _ (by omega) ⟨rfl, by omega, ?_, rd8, K8'⟩
   rw [List.take_succ_eq_append_getElem hgl, List.all_append, htrue]; simp [hbb]
 ·apply Zav.A2x0i
  have : g = k := by omega
  subst this
  rw [List.take_of_length_le (by omega)] at htrue
  simp only [Zau]
  exact ⟨by rw [htrue]; rfl, rdg, Kg⟩
theorem Yqn {hb : Zaa} {i m : Nat} {a0 a1 : Pt} {n0 c0 n1 c1 : Nat} {e0 e1 : Bool} {w : Wd} (r : Zmm hb a0 n0 c0 a1 n1 c1 w) (b : WB w) (hw : Zdm w = true) {d : Nat} (ih : 0 < d → Yiy (d - 1) hb i m a0 a1 n0 c0 n1 c1 e0 e1 w) (hd10 : d < 10)
  {h : Zaa} {n : Nd} (rd : Yap hb i m (.slice a0 n0 c0 e0) (.slice a1 n1 c1 e1) w h) {p0 p1 p2 : Nat} (hp0 : h[p0]? = some (.cells Zic [.ptr (some (i, 0))] false)) (hp1 : h[p1]? = some (.cells Zaj [.str n.1, .str n.2] false))
  (hp2 : h[p2]? = some (.cells Zgs [.int .i64 (d : Int)] false)) (hi0 : p0 ≠ m) (hi2 : p2 ≠ m) {k : Nat} (hk : k < w.is.length) :
  Zae pg Zce [.int .i64 (k : Int), .ptr (some (p0, 0)), .ptr (some (p1, 0)), .ptr (some (p2, 0))] h fun x h' => x = .bool (Yec (wk w) d n (k : Int)) ∧ Yap hb i m (.slice a0 n0 c0 e0) (.slice a1 n1 c1 e1) w h' ∧ Zgy m h h' := by
 have hl1 := r.len1
 apply Zlj.call
 obtain ⟨x2, x4, ho⟩ := rd.ob
 obtain ⟨ii, oi, hki, na, nn, ncp, ne, rfl, _, hri, _, _, _, hrow, hnl⟩ := (r.same rd.same).inst (k := k) (by omega)
 have hbk := b.is _ (List.getElem_mem hk)
 have hfa : ∀ K : Zam → Prop, Zib pg Zaj (.ptr (some (p1, 0))) 1 K = K (.ptr (some (p1, 0 + 1))) := fun K => by kernel_rfl
 simp only [hfa, Zaq hp0, Zaq hp1, Zaq ho, Nat.zero_add, List.getElem?_cons_succ, List.getElem?_cons_zero, Zgb, Zax, Zag, Int.toNat_natCast, hri, Zar, Zah, Zat, Zai, true_and]
 refine ⟨by omega, ?_⟩
 refine (Ynr (i := w.is[k]) (t := n.2) hrow (by omega)).mono ?_
 rintro v h2 ⟨s2, ma, mn, mc, me, rfl, fm⟩
 have rd2 := rd.step s2
 have q0 := s2.get hp0 (Own.lt hp0)
 have q1 := s2.get hp1 (Own.lt hp1)
 have q2 := s2.get hp2 (Own.lt hp2)
 have o2 := s2.get ho (Own.lt ho)
 have hneeds : (wk w).needs (k : Int) n.2 = Zht w.is[k] n.2 := by show Zht (Yek w (k : Int)) n.2 = _; rw [Ygz hk]
 have hml : m < h.length := by obtain ⟨es, clk, hm, _⟩ := rd.mp; exact Own.lt hm
 simp only [Zdn, Zah, Zag, Zal, Zat, Zaq q0, Zaq q2, Zaq o2, List.getElem?_cons_succ, List.getElem?_cons_zero, Zau, true_and]
 refine Zcw (fun hok => ?_) (fun hok => ?_)
 ·obtain ⟨ms, hms⟩ := Option.isSome_iff_exists.1 hok
  have hms3 := Ydc hw hk hms
  rw [hms] at fm
  simp only [Option.getD_some] at fm
  have hmn := fm.1
  have hC : Yec (wk w) d n (k : Int) = ((decide (ms = []) || decide (0 < d)) && ms.all (Znd (wk w) (d - 1))) := by unfold Yec; rw [hneeds, hms]
  have hrm : ∀ j o, mn ≠ 0 → ma = some (j, o) → j ≠ m := fun j o hn ha => by
   obtain ⟨_, h0 | ⟨j', hj', hb', _⟩⟩ := fm
   ·omega
   ·rw [ha] at hj'; cases hj'; omega
  have all : ms = [] ∨ 0 < d → Zae pg Zcc [.slice ma mn mc me, .fn Zbn [.ptr (some (p0, 0)), .ptr (some (p2, 0))]] h2 fun x h' => x = .bool (!ms.all (Znd (wk w) (d - 1))) ∧ Yap hb i m (.slice a0 n0 c0 e0) (.slice (some (ii, oi)) n1 c1 e1) w h' ∧ Zgy m h2 h' := by
   intro hd
   by_cases h0 : mn = 0
   ·have : ms = [] := List.eq_nil_of_length_eq_zero (by omega)
    subst this; subst h0
    have hR : Row h2.length h2 none (0 * 2) (Zcf eP []) := by simpa using Row.nil
    apply Zbx.call
    apply Zav.call
    refine Zav.L2ind _ _ _ _ _ _ _ _ (J := fun (g : Nat) x8 h' => x8 = 0 ∧ h' = h2) (fun g => 0) ?_ 0 _ _ ⟨rfl, rfl⟩
    rintro g x8 h' ⟨rfl, rfl⟩ R hR
    unfold Zav.L2t
    refine Zan (fun hlt => by simp at hlt) (fun _ => ?_)
    apply Zav.A2x0i
    simp only [Zau]
    exact ⟨rfl, rd2, Zgy.of_same (Zbb.refl _ _)⟩
   ·exact Yrb ih hd10 rd2 q0 q2 hi0 hi2 (fm.row Zek) (by have := hms3.1; omega) (fun j o ha => hrm j o h0 ha) hms3.2 hd
  refine Zfh (fun h0 => ?_) (fun h0 => ?_)
  ·have hm0 : ms = [] := List.eq_nil_of_length_eq_zero (by omega)
   refine (all (.inl hm0)).mono ?_
   rintro v h3 ⟨rfl, rd3, K3⟩
   simp only [Zal, Bool.not_not]
   exact ⟨by rw [hC]; simp [hm0], rd3, (Zgy.of_same s2).trans K3⟩
  ·have hm0 : ms ≠ [] := fun hm => h0 (by rw [hm] at hmn; simp at hmn; omega)
   refine Zan (fun hd => ?_) (fun hd => ?_)
   ·refine (all (.inr (by omega))).mono ?_
    rintro v h3 ⟨rfl, rd3, K3⟩
    simp only [Zal, Bool.not_not]
    exact ⟨by rw [hC]; simp [show 0 < d by omega], rd3, (Zgy.of_same s2).trans K3⟩
   ·exact ⟨by rw [hC]; simp [hm0, show d = 0 by omega], rd2, Zgy.of_same s2⟩
 ·have hC : Yec (wk w) d n (k : Int) = false := by
   unfold Yec; rw [hneeds]
   cases hh : Zht w.is[k] n.2 with
   | none => rfl
   | some _ => rw [hh] at hok; cases hok
  exact ⟨by rw [hC], rd2, Zgy.of_same s2⟩
end Go.Sim

set_option linter.unusedVariables false
set_option linter.unusedSimpArgs false
set_option maxRecDepth 20000
namespace Go.Sim
open Go Go.RowKit

theorem Yis.at {w : Wd} {es : List ME} (ok : Yis w es) {n : Nd} {d : Nat} (hv : Zet w n = true) (s : List Nat) (hs : s = Yjp n d) {K : Option Zam → Prop} (h0 : K none) (h1 : K (some (.bool (Znd (wk w) d n)))) : Ztq es s K := by
 obtain ⟨r, hr, hm⟩ := Zzz es s 0 fun e he => by obtain ⟨s, b, h, _⟩ := ok e he; exact ⟨s, h⟩
 unfold Ztq
 rw [hr]
 match r, hm with
 | none, _ => exact h0
 | some (j, v), hm =>
  obtain ⟨e, he, e1, e2⟩ := hm j v rfl
  obtain ⟨s', b', k1, k2, k3⟩ := ok e he
  rw [k1] at e1
  cases e1
  rw [k2] at e2
  subst e2
  rw [k3 n d hv hs]
  exact h1
theorem Yis.put {w : Wd} (hw : Zdm w = true) {es : List ME} (ok : Yis w es) {clk : Nat} {n : Nd} {d : Nat} (hv : Zet w n = true) {K : List ME → Nat → Prop} (hK : ∀ es' clk', Yis w es' → K es' clk') : Yin es clk (Yjp n d) (.bool (Znd (wk w) d n)) K := by
 have new : ∀ c : Nat, ∀ s b, (Zam.str (Yjp n d), Zam.bool (Znd (wk w) d n), c).1 = .str s → (Zam.str (Yjp n d), Zam.bool (Znd (wk w) d n), c).2.1 = .bool b → ∀ n' d', Zet w n' = true → s = Yjp n' d' → b = Znd (wk w) d' n' := by
  intro c s b hs hb n' d' hv' he
  cases hs; cases hb
  obtain ⟨rfl, rfl⟩ := Ypl (Zot hw hv) (Zot hw hv') he
  rfl
 obtain ⟨r, hr, _⟩ := Zzz es (Yjp n d) 0 fun e he => by obtain ⟨s, b, h, _⟩ := ok e he; exact ⟨s, h⟩
 unfold Yin
 rw [hr]
 match r with
 | none =>
  refine hK _ _ fun e he => ?_
  rcases List.mem_append.1 he with he | he
  ·exact ok e he
  ·rw [List.mem_singleton] at he
   subst he
   exact ⟨_, _, rfl, rfl, new clk _ _ rfl rfl⟩
 | some (j, v) =>
  refine hK _ _ fun e he => ?_
  rcases Zyy he with he | ⟨y, hy, rfl⟩
  ·exact ok e he
  ·exact ⟨_, _, rfl, rfl, new y.2.2 _ _ rfl rfl⟩
theorem Yqh {hb : Zaa} {i m : Nat} {a0 a1 : Pt} {n0 c0 n1 c1 : Nat} {e0 e1 : Bool} {w : Wd} (r : Zmm hb a0 n0 c0 a1 n1 c1 w) (b : WB w) (hw : Zdm w = true) {d : Nat} (ih : 0 < d → Yiy (d - 1) hb i m a0 a1 n0 c0 n1 c1 e0 e1 w) (hd10 : d < 10)
  {h4 : Zaa} {n : Nd} (rd4 : Yap hb i m (.slice a0 n0 c0 e0) (.slice a1 n1 c1 e1) w h4) {p0 p1 p2 : Nat} (q0 : h4[p0]? = some (.cells Zic [.ptr (some (i, 0))] false)) (q1 : h4[p1]? = some (.cells Zaj [.str n.1, .str n.2] false))
  (q2 : h4[p2]? = some (.cells Zgs [.int .i64 (d : Int)] false)) (hi0 : p0 ≠ m) (hi1 : p1 ≠ m) (hi2 : p2 ≠ m) {ca : Pt} {cn cc : Nat} {ce : Bool} (rowc : Row h4.length h4 ca cn (Zcf eI (Zrd w n))) (hcnl : cn ≤ 1048576) (hrm : cn ≠ 0 → ∀ j o, ca = some (j, o) → j ≠ m) :
  Zae pg Zev [.slice ca cn cc ce, .fn Zce [.ptr (some (p0, 0)), .ptr (some (p1, 0)), .ptr (some (p2, 0))]] h4 fun x h' => x = .bool (Znd (wk w) d n) ∧ Yap hb i m (.slice a0 n0 c0 e0) (.slice a1 n1 c1 e1) w h' ∧ Zgy m h4 h' := by
 have hcin := Zzl w n
 have hcl' : (Zrd w n).length = cn := by have := rowc.1; rw [Zay Zlu] at this; omega
 apply Zdo.call
 apply Zbu.call
 refine Zbu.L2ind _ _ _ _ _ _ _ _ _ (J := fun (g : Nat) x8 h' => x8 = (g : Int) ∧ g ≤ cn ∧ ((Zrd w n).take g).any (Yec (wk w) d n) = false ∧ Yap hb i m (.slice a0 n0 c0 e0) (.slice a1 n1 c1 e1) w h' ∧ Zgy m h4 h') (fun g => cn - g) ?_ 0 _ _ ⟨rfl, by omega, rfl, rd4, Zgy.of_same (Zbb.refl _ _)⟩
 rintro g x8 h' ⟨rfl, hg, hfalse, rdg, Kg⟩ R hR
 unfold Zbu.L2t
 refine Zan (fun hlt => ?_) (fun hge => ?_)
 ·obtain ⟨im, om, hgl, rfl, _, hcell⟩ := (rowc.keep' hrm Kg).i64 (k := g) (by omega)
  obtain ⟨k, hk, hkl⟩ := hcin _ (List.getElem_mem hgl)
  simp only [Zax, Int.toNat_natCast, hcell, Zau]
  refine ⟨by omega, ?_⟩
  have hkk : (Zrd w n)[g] = (k : Int) := hk
  rw [hkk]
  refine (Yqn r b hw ih hd10 rdg (Kg.get q0 hi0) (Kg.get q1 hi1) (Kg.get q2 hi2) hi0 hi2 hkl).mono ?_
  rintro v h6 ⟨rfl, rd6, K6⟩
  simp only [Zal]
  refine Zcw (fun hc => ?_) (fun hc => ?_)
  ·have : Znd (wk w) d n = true := by
    rw [Zzr]
    exact List.any_eq_true.2 ⟨_, List.getElem_mem hgl, by rw [hkk]; exact hc⟩
   rw [this]
   exact ⟨by simp, rd6, Kg.trans K6⟩
  ·rw [Zbj (by omega)]
   refine hR (g + 1) _ _ (by omega) ⟨rfl, by omega, ?_, rd6, Kg.trans K6⟩
   rw [List.take_succ_eq_append_getElem hgl, List.any_append, hfalse]; simp [hkk, hc]
 ·apply Zbu.A2x0i
  have : g = cn := by omega
  subst this
  rw [List.take_of_length_le (by omega)] at hfalse
  have : Znd (wk w) d n = false := by rw [Zzr]; rw [show (wk w).cand n = Zrd w n from rfl, hfalse]
  rw [this]
  simp only [Zau]
  exact ⟨rfl, rdg, Kg⟩
theorem Yan {hb : Zaa} {i m : Nat} {a0 a1 : Pt} {n0 c0 n1 c1 : Nat} {e0 e1 : Bool} {w : Wd} (r : Zmm hb a0 n0 c0 a1 n1 c1 w) (b : WB w) (hw : Zdm w = true) (d : Nat) (hd10 : d < 10) (ih : 0 < d → Yiy (d - 1) hb i m a0 a1 n0 c0 n1 c1 e0 e1 w) : Yiy d hb i m a0 a1 n0 c0 n1 c1 e0 e1 w := by
 intro h n rd hnd
 have hty := Zty hnd
 have hcl := Zot hw hnd
 apply Zpp.call
 simp only [Zaz]
 generalize hh0 : h ++ [Zco.cells Zic [.ptr (some (i, 0))] false] = h0
 generalize hh1 : h0 ++ [Zco.cells Zaj [.str n.1, .str n.2] false] = h1
 generalize hh2 : h1 ++ [Zco.cells Zgs [.int .i64 (d : Int)] false] = h2
 have s0 : Zbb h.length h h0 := by rw [← hh0]; exact Zas
 have s1 : Zbb h0.length h0 h1 := by rw [← hh1]; exact Zas
 have s2 : Zbb h1.length h1 h2 := by rw [← hh2]; exact Zas
 have l0 : h0.length = h.length + 1 := by rw [← hh0]; simp
 have l1 : h1.length = h0.length + 1 := by rw [← hh1]; simp
 have l2 : h2.length = h1.length + 1 := by rw [← hh2]; simp
 have p0 : h0[h.length]? = some (.cells Zic [.ptr (some (i, 0))] false) := by rw [← hh0]; simp
 have p0 := s2.get (s1.get p0 (Own.lt p0)) (by have := Own.lt p0; omega)
 have p1 : h1[h0.length]? = some (.cells Zaj [.str n.1, .str n.2] false) := by rw [← hh1]; simp
 have p1 := s2.get p1 (Own.lt p1)
 have p2 : h2[h1.length]? = some (.cells Zgs [.int .i64 (d : Int)] false) := by rw [← hh2]; simp
 have S2 := (s0.cat s1).cat s2
 have rd2 := rd.step S2
 obtain ⟨x2, x4, ho⟩ := rd2.ob
 have hml : m < h.length := by obtain ⟨es, clk, hm, _⟩ := rd.mp; exact Own.lt hm
 simp only [Zaq p0, Zaq p2, Zby p1, Zaq ho, Nat.zero_add, List.getElem?_cons_succ, List.getElem?_cons_zero, Zgb, Zax, Yca, Zar, Zah, Zat, Zai, Zau, true_and]
 refine (Ypx hd10 (by omega)).mono ?_
 rintro v h3 ⟨rfl, s3⟩
 have rd3 := rd2.step s3
 have p0 := s3.get p0 (Own.lt p0)
 have p1 := s3.get p1 (Own.lt p1)
 have p2 := s3.get p2 (Own.lt p2)
 have o3 := s3.get ho (Own.lt ho)
 have S3 := S2.cat s3
 obtain ⟨es, clk, hm3, ok⟩ := rd3.mp
 simp only [Zai, Zaq p0, Zaq o3, List.getElem?_cons_succ, List.getElem?_cons_zero, true_and, Zga, hm3]
 refine ok.at hnd _ rfl ?_ ?_
 ·simp only [Option.getD_none, Zal, Option.isSome_none]
  refine Zcw (fun h => by cases h) (fun _ => ?_)
  simp only [Zem o3 (show 0 + 2 ≤ _ by simp), Zby p1, Zgb, Zax, Nat.zero_add, List.drop_zero, List.take_succ_cons, List.take_zero, Zar, Zah, Zat, Zag, Zai, true_and]
  refine (Yad (nd := n) (r.same rd3.same) b).mono ?_
  rintro v h4 ⟨s4, ca, cn, cc, ce, rfl, fc⟩
  have rd4 := rd3.step s4
  have q0 := s4.get p0 (Own.lt p0)
  have q1 := s4.get p1 (Own.lt p1)
  have q2 := s4.get p2 (Own.lt p2)
  have o4 := s4.get o3 (Own.lt o3)
  have S4 := S3.cat s4
  have hcin := Zzl w n
  have hcl' := fc.1
  have hcnl : cn ≤ 1048576 := by have := Zzu (Zml n) w.is; have := b.li; unfold Zrd at hcl'; omega
  have rowc : Row h4.length h4 ca cn (Zcf eI (Zrd w n)) := by simpa using Zcv.row Zlu fc
  have hrm : cn ≠ 0 → ∀ j o, ca = some (j, o) → j ≠ m := fun hn j o ha => by
   obtain ⟨_, h0 | ⟨j', hj', hb', _⟩⟩ := fc
   ·omega
   ·rw [ha] at hj'; cases hj'; have := s3.le; omega
  simp only [Zag, Zaq q0, List.getElem?_cons_zero, true_and]
  refine (Yqh r b hw ih hd10 rd4 q0 q1 q2 (by omega) (by omega) (by omega) rowc hcnl hrm).mono ?_
  rintro v h5 ⟨rfl, rd5, K5⟩
  have hi5 : i ≠ m := by have := rd.lt; omega
  have t0 := K5.get q0 (by omega)
  have t1 := K5.get q1 (by omega)
  have t2 := K5.get q2 (by omega)
  have o5 := K5.get o4 hi5
  simp only [Zal, Zem o5 (show 0 + 2 ≤ _ by simp), Zem o4 (show 0 + 2 ≤ _ by simp), Zaq t0, Zaq q0, Zaq t2, Zaq o5, Zby t1, Nat.zero_add, List.drop_zero, List.take_succ_cons, List.take_zero, List.getElem?_cons_succ, List.getElem?_cons_zero, Zgb, Zax, Yca, Zar, Zah, Zat, Zai, Zau, true_and]
  refine (Ypx hd10 (by omega)).mono ?_
  rintro v h6 ⟨rfl, s6⟩
  have rd6 := rd5.step s6
  have u0 := s6.get t0 (Own.lt t0)
  have o6 := s6.get o5 (Own.lt o5)
  obtain ⟨es6, clk6, hm6, ok6⟩ := rd6.mp
  simp only [Zai, Zaq u0, Zaq o6, List.getElem?_cons_succ, List.getElem?_cons_zero, true_and, xMp, Zga, hm6]
  refine ok6.put hw hnd fun es' clk' ok' => ?_
  have wd : Yap hb i m (.slice a0 n0 c0 e0) (.slice a1 n1 c1 e1) w (h6.set m (.map es' clk')) := by
   refine ⟨⟨by simp; exact rd6.same.le, fun j hj => by rw [Zcj (by have := rd.ge; omega)]; exact rd6.same.eq j hj⟩, rd.ge, rd.lt, ?_, ⟨es', clk', Zcq hm6, ok'⟩⟩
   obtain ⟨y2, y4, hy⟩ := rd6.ob
   exact ⟨y2, y4, by rw [Zcj hi5.symm]; exact hy⟩
  exact ⟨wd, (((Zgy.of_same S4).trans K5).trans (Zgy.of_same s6)).trans (Zgy.set _ _ _)⟩
 ·simp only [Option.getD_some, Zal, Option.isSome_some]
  refine Zcw (fun _ => ⟨by trivial, rd3, Zgy.of_same S3⟩) (fun h => by cases h)
theorem Ykq {hb : Zaa} {i m : Nat} {a0 a1 : Pt} {n0 c0 n1 c1 : Nat} {e0 e1 : Bool} {w : Wd} (r : Zmm hb a0 n0 c0 a1 n1 c1 w) (b : WB w) (hw : Zdm w = true) : ∀ d, d < 10 → Yiy d hb i m a0 a1 n0 c0 n1 c1 e0 e1 w
 | 0, h => Yan r b hw 0 h fun hd => by omega
 | d + 1, h => Yan r b hw (d + 1) h fun _ => Ykq r b hw d (by omega)
theorem Yfg {h : Zaa} {a0 a1 : Pt} {n0 c0 n1 c1 : Nat} {e0 e1 : Bool} {w : Wd} {nd : Nd} (r : Zmm h a0 n0 c0 a1 n1 c1 w) (b : WB w) (hw : Zdm w = true) (hnd : Zet w nd = true) :
  Zae pg Znr [.agg [.slice a0 n0 c0 e0, .slice a1 n1 c1 e1], .agg [.str nd.1, .str nd.2]] h fun v h' => v = .int .i64 (Ylj (wk w) nd) ∧ Zbb h.length h h' := by
 apply Zip.call
 simp only [Zaz]
 generalize hh0 : h ++ [Zco.cells Zaf [.slice a0 n0 c0 e0, .slice a1 n1 c1 e1] false] = h0
 generalize hh1 : h0 ++ [Zco.cells Zaj [.str nd.1, .str nd.2] false] = h1
 have s0 : Zbb h.length h h0 := by rw [← hh0]; exact Zas
 have s1 : Zbb h0.length h0 h1 := by rw [← hh1]; exact Zas
 have w0 : h0[h.length]? = some (Znv a0 n0 c0 e0 a1 n1 c1 e1) := by rw [← hh0]; simp [Znv]
 have w1 := s1.get w0 (Own.lt w0)
 have p1 : h1[h0.length]? = some (.cells Zaj [.str nd.1, .str nd.2] false) := by rw [← hh1]; simp
 have l0 : h0.length = h.length + 1 := by rw [← hh0]; simp
 have l1 : h1.length = h0.length + 1 := by rw [← hh1]; simp
 rw [Zxv w1]
 simp only [Zar, Zah, Zat, Zag]
 apply Zuu.call
 simp only [Zaz]
 generalize hh2 : h1 ++ [Zco.cells Zaf [.slice a0 n0 c0 e0, .slice a1 n1 c1 e1] false] = h2
 have s2 : Zbb h1.length h1 h2 := by rw [← hh2]; exact Zas
 have l2 : h2.length = h1.length + 1 := by rw [← hh2]; simp
 have w2 : h2[h1.length]? = some (Znv a0 n0 c0 e0 a1 n1 c1 e1) := by rw [← hh2]; simp [Znv]
 rw [Zxv w2]
 simp only [Zar, Zah, Zat, Zag]
 generalize hh3 : h2 ++ [Zco.map [] 0] = h3
 have s3 : Zbb h2.length h2 h3 := by rw [← hh3]; exact Zas
 have l3 : h3.length = h2.length + 1 := by rw [← hh3]; simp
 generalize hh4 : h3 ++ [Zco.map [] 0] = h4
 have s4 : Zbb h3.length h3 h4 := by rw [← hh4]; exact Zas
 have l4 : h4.length = h3.length + 1 := by rw [← hh4]; simp
 have m4 : h4[h3.length]? = some (.map [] 0) := by rw [← hh4]; simp
 generalize hh5 : h4 ++ [Zco.cells Zpi [.slice a0 n0 c0 e0, .slice a1 n1 c1 e1, .map (some h2.length), .map (some h3.length), .bool true] false] = h5
 have s5 : Zbb h4.length h4 h5 := by rw [← hh5]; exact Zas
 have o5 : h5[h4.length]? = some (.cells Zpi [.slice a0 n0 c0 e0, .slice a1 n1 c1 e1, .map (some h2.length), .map (some h3.length), .bool true] false) := by rw [← hh5]; simp
 have S5 := ((s0.cat s1).cat s2).cat ((s3.cat s4).cat s5)
 have p5 := ((s2.cat s3).cat (s4.cat s5)).get p1 (Own.lt p1)
 have rd : Yap h h4.length h3.length (.slice a0 n0 c0 e0) (.slice a1 n1 c1 e1) w h5 := ⟨S5, by omega, by omega, ⟨_, _, o5⟩, ⟨[], 0, s5.get m4 (Own.lt m4), fun e he => by cases he⟩⟩
 simp only [Zgb]
 refine Zip.L3ind _ _ _ _ (J := fun (g : Nat) x9 h' => x9 = (g : Int) ∧ g ≤ 7 ∧ (∀ d, d < g → Znd (wk w) d nd = false) ∧ Yap h h4.length h3.length (.slice a0 n0 c0 e0) (.slice a1 n1 c1 e1) w h' ∧ h'[h0.length]? = some (.cells Zaj [.str nd.1, .str nd.2] false)) (fun g => 7 - g) ?_ 0 _ _ ⟨rfl, by omega, fun d hd => by omega, rd, p5⟩
 rintro g x9 h' ⟨rfl, hg, hf, rdg, hp⟩ R hR
 unfold Zip.L3t
 refine Zan (fun hlt => ?_) (fun hge => ?_)
 ·simp only [Zby hp, Zar, Zah, Zat, Zai]
  refine (Ykq r b hw g (by omega) rdg hnd).mono ?_
  rintro v h6 ⟨rfl, rd6, K6⟩
  simp only [Zal]
  refine Zcw (fun hh => ?_) (fun hh => ?_)
  ·exact ⟨by rw [Ycm (by omega) hf hh], rd6.same⟩
  ·rw [Zbj (by omega)]
   refine hR (g + 1) _ _ (by omega) ⟨rfl, by omega, fun d hd => ?_, rd6, K6.get hp (by omega)⟩
   by_cases hdg : d = g
   ·rw [hdg]; exact hh
   ·exact hf d (by omega)
 ·apply Zip.A3x0i
  exact ⟨by rw [Ybi fun d hd => hf d (by omega)], rdg.same⟩
noncomputable def Ybj (w : Wd) (n : Nd) : Int := if Zdm w && Zet w n then Ylj (wk w) n else -1
end Go.Sim

set_option linter.unusedVariables false
set_option linter.unusedSimpArgs false
set_option maxRecDepth 20000
namespace Go.Sim
open Go Go.RowKit

end Go.Sim

set_option linter.unusedVariables false
set_option linter.unusedSimpArgs false
set_option maxRecDepth 20000
namespace Go.Sim
open Go Go.RowKit

theorem Yrp {h : Zaa} {n : Nd} {d : Nat} (hd : d < 10) (hc : n.1.length + n.2.length ≤ 1048576) : Zae pg Zqe [.agg [.str n.1, .str n.2], .int .i64 (d : Int)] h fun v h' => v = .str (Yqe n d) ∧ Zbb h.length h h' := by
 apply Zup.call
 simp only [Zaz]
 generalize hh0 : h ++ [Zco.cells Zaj [.str n.1, .str n.2] false] = h0
 have s0 : Zbb h.length h h0 := by rw [← hh0]; exact Zas
 have p1 : h0[h.length]? = some (.cells Zaj [.str n.1, .str n.2] false) := by rw [← hh0]; simp
 simp only [Zby p1, Zar, Zah, Zat, Zai]
 refine (Ylg (by omega) (by omega)).mono ?_
 rintro v h1 ⟨rfl, s1⟩
 rw [Ybs (by omega), Int.toNat_natCast, Ztr hd]
 simp only [Zai, Zby (s1.get p1 (Own.lt p1)), true_and]
 refine (Ylk (by omega)).mono ?_
 rintro v h2 ⟨rfl, s2⟩
 simp only [Zai]
 exact ⟨by simp; omega, rfl, (s0.cat s1).cat s2⟩
def eT (b : Bool) : List Zam := [.bool b]
theorem Ylw (x : Bool) : (eT x).length = 1 := rfl
def Ysb (a : Pt) : List Nat := match a with | some (q, _) => [q] | none => []
theorem Zsq {a : Pt} {j : Nat} : j ∈ Ysb a ↔ ∃ o, a = some (j, o) := by
 cases a with
 | none => simp [Ysb]
 | some p => obtain ⟨q, o⟩ := p; simp [Ysb]; exact eq_comm
structure FrO (O O' : List Nat) (h h' : Zaa) : Prop where
 le : h.length ≤ h'.length
 eq : ∀ j, j < h.length → j ∉ O → h'[j]? = h[j]?
 nw : ∀ j, j ∈ O' → j ∈ O ∨ h.length ≤ j
theorem FrO.of_same {O : List Nat} {h h' : Zaa} (s : Zbb h.length h h') : FrO O O h h' := ⟨s.le, fun j hj _ => s.eq j hj, fun j hj => .inl hj⟩
theorem FrO.trans {O O1 O2 : List Nat} {h h1 h2 : Zaa} (f : FrO O O1 h h1) (g : FrO O1 O2 h1 h2) : FrO O O2 h h2 := by
 have := f.le; have := g.le
 refine ⟨by omega, fun j hj hn => ?_, fun j hj => ?_⟩
 ·have hn1 : j ∉ O1 := fun hm => by
   rcases f.nw j hm with h | h
   ·exact hn h
   ·omega
  rw [g.eq j (by omega) hn1]
  exact f.eq j hj hn
 ·rcases g.nw j hj with h | h
  ·exact f.nw j h
  ·exact .inr (by omega)
theorem FrO.get {O O' : List Nat} {h h' : Zaa} (f : FrO O O' h h') {j : Nat} {x : Zco} (hj : h[j]? = some x) (hn : j ∉ O) : h'[j]? = some x := by rw [f.eq j (Own.lt hj) hn]; exact hj
theorem FrO.row {O O' : List Nat} {h h' : Zaa} (f : FrO O O' h h') {a : Pt} {n : Nat} {cs : List Zam} (r : Row h.length h a n cs) (hn : ∀ j o, n ≠ 0 → a = some (j, o) → j ∉ O) : Row h'.length h' a n cs := by
 obtain ⟨hl, r⟩ := r
 by_cases h0 : n = 0
 ·exact ⟨hl, .inl h0⟩
 ·refine ⟨hl, r.imp id ?_⟩
  rintro ⟨j, o', t, all, ro, ha, hi, hg, x⟩
  have := f.le
  exact ⟨j, o', t, all, ro, ha, by omega, by rw [f.eq j hi (hn j o' h0 ha)]; exact hg, x⟩
structure Ybm (hb : Zaa) (i : Nat) (u v : Zam) (w : Wd) (h : Zaa) (O : List Nat) (tab : List (List Nat × Bool)) : Prop where
 same : Zbb hb.length hb h
 low : ∀ j ∈ O, hb.length ≤ j ∧ j < h.length
 io : i ∈ O
 ob : ∃ ka kn kc ke la ln lc le ga gn gc ge cs, h[i]? = some (.cells Zcg [u, v, .slice ka kn kc ke, .slice la ln lc le, .slice ga gn gc ge] false) ∧
  Vec Zcm h ka kn kc (Zcf eS (tab.map Prod.fst)) ∧ kn = tab.length ∧ Vec Zfd h la ln lc cs ∧ cs.length = ln ∧ ln = tab.length ∧ Vec Zvq h ga gn gc (Zcf eT (tab.map Prod.snd)) ∧ gn = tab.length ∧
  O = i :: (Ysb ka ++ Ysb la ++ Ysb ga) ∧ O.Nodup
 ok : ∀ p ∈ tab, ∀ n d, Zet w n = true → p.1 = Yqe n d → p.2 = Znd (wk w) d n
section
variable {hb : Zaa} {i : Nat} {u v : Zam} {w : Wd} {h : Zaa} {O : List Nat} {tab : List (List Nat × Bool)}
theorem Ybm.step {h' : Zaa} (r : Ybm hb i u v w h O tab) (k : Zbb h.length h h') : Ybm hb i u v w h' O tab := by
 obtain ⟨ka, kn, kc, ke, la, ln, lc, le, ga, gn, gc, ge, cs, ho, v1, e1, v2, e2, e2', v3, e3, e4⟩ := r.ob
 exact ⟨r.same.trans (k.mono r.same.le), fun j hj => by have := r.low j hj; have := k.le; omega, r.io, ⟨ka, kn, kc, ke, la, ln, lc, le, ga, gn, gc, ge, cs, k.get ho (Own.lt ho), v1.same k, e1, v2.same k, e2, e2', v3.same k, e3, e4⟩, r.ok⟩
theorem Yul (r : Ybm hb i u v w h O tab) (hl : tab.length ≤ 1099511627776) (s : List Nat) :
  Zae pg Zla [.ptr (some (i, 0)), .str s] h fun x h' => h' = h ∧ ((x = .int .i64 (-1)) ∨ ∃ g : Nat, x = .int .i64 (g : Int) ∧ ∃ hg : g < tab.length, tab[g].1 = s) := by
 obtain ⟨ka, kn, kc, ke, la, ln, lc, le, ga, gn, gc, ge, cs, ho, v1, e1, v2, e2, e2', v3, e3, e4⟩ := r.ob
 apply Zgd.call
 simp only [Zax, Zaq ho, Nat.zero_add, List.getElem?_cons_succ, List.getElem?_cons_zero, Zag]
 have row : Row h.length h ka kn (Zcf eS (tab.map Prod.fst)) := v1.row (by rw [Zay Ymt]; simp [e1])
 refine Zgd.L2ind _ _ _ _ _ _ _ (J := fun (g : Nat) x8 h' => x8 = (g : Int) ∧ g ≤ kn ∧ h' = h) (fun g => kn - g) ?_ 0 _ _ ⟨rfl, by omega, rfl⟩
 rintro g x8 h' ⟨rfl, hg, rfl⟩ R hR
 unfold Zgd.L2t
 refine Zan (fun hlt => ?_) (fun hge => ?_)
 ·obtain ⟨im, om, hgl, rfl, _, hcell⟩ := Row.el1 Ymt row (k := g) (by omega)
  have hc : Zak h' (.ptr (some (im, om + g * 1))) = some (.str tab[g].1) := by rw [hcell]; simp [eS]
  simp only [Zax, Int.toNat_natCast, hc, Zai]
  refine ⟨by omega, Zan (fun he => ?_) (fun he => ?_)⟩
  ·exact ⟨by trivial, .inr ⟨g, rfl, by omega, he⟩⟩
  ·rw [Zbj (by omega)]
   exact hR (g + 1) _ _ (by omega) ⟨rfl, by omega, rfl⟩
 ·apply Zgd.A2x0i
  exact ⟨rfl, .inl rfl⟩
theorem Ynn : pg.underlying Zfd = some (.slice Zcm) := by kernel_rfl
theorem Ysh : pg.cellsOf Zcm = 1 := by kernel_rfl
theorem Ysy : pg.okElem Zcm = true := by kernel_rfl
theorem Ysg : pg.bytesOf Zcm ≤ 127 := Nat.le_of_ble_eq_true (by kernel_rfl)
theorem Ymd : pg.underlying Zur = some (.slice Zfd) := by kernel_rfl
theorem Yos : pg.cellsOf Zfd = 1 := by kernel_rfl
theorem You : pg.okElem Zfd = true := by kernel_rfl
theorem Yoo : pg.bytesOf Zfd ≤ 127 := Nat.le_of_ble_eq_true (by kernel_rfl)
theorem Ylt : pg.underlying Ygh = some (.slice Zvq) := by kernel_rfl
theorem Yrz : pg.cellsOf Zvq = 1 := by kernel_rfl
theorem Yqr : pg.okElem Zvq = true := by kernel_rfl
theorem Yrf : pg.bytesOf Zvq ≤ 127 := Nat.le_of_ble_eq_true (by kernel_rfl)
theorem Ysk (r : Ybm hb i u v w h O tab) (hl : tab.length + 1 ≤ 1099511627776) (s : List Nat) (b : Bool) (hok : ∀ n d, Zet w n = true → s = Yqe n d → b = Znd (wk w) d n) :
  Zae pg Zjr [.ptr (some (i, 0)), .str s, .slice none 0 0 true, .bool b] h fun x h' => ∃ O', Ybm hb i u v w h' O' (tab ++ [(s, b)]) ∧ FrO O O' h h' := by
 obtain ⟨ka, kn, kc, ke, la, ln, lc, le, ga, gn, gc, ge, cs, ho, v1, e1, v2, e2, e2', v3, e3, rfl, nd⟩ := r.ob
 have hsl := r.same.le
 have hnd : (∀ q o, ka = some (q, o) → q ≠ i ∧ (∀ o', la ≠ some (q, o')) ∧ ∀ o', ga ≠ some (q, o')) ∧ (∀ q o, la = some (q, o) → q ≠ i ∧ ∀ o', ga ≠ some (q, o')) ∧ (∀ q o, ga = some (q, o) → q ≠ i) := by
  simp only [List.nodup_cons, List.mem_append, List.nodup_append, Zsq] at nd
  obtain ⟨n1, ⟨n2, n3, n4⟩, n5, n6⟩ := nd
  refine ⟨fun q o ha => ⟨fun he => n1 (.inl (.inl ⟨o, he ▸ ha⟩)), fun o' hl => n4 q ⟨o, ha⟩ q ⟨o', hl⟩ rfl, fun o' hg => n6 q (.inl ⟨o, ha⟩) q ⟨o', hg⟩ rfl⟩, fun q o ha => ⟨fun he => n1 (.inl (.inr ⟨o, he ▸ ha⟩)), fun o' hg => n6 q (.inr ⟨o, ha⟩) q ⟨o', hg⟩ rfl⟩, fun q o ha he => n1 (.inr ⟨o, he ▸ ha⟩)⟩
 obtain ⟨d1, d2, d3⟩ := hnd
 have hil := Own.lt ho
 have lowk : ∀ q o, ka = some (q, o) → hb.length ≤ q ∧ q < h.length := fun q o ha => r.low q (by simp [Zsq]; exact .inr (.inl ⟨o, ha⟩))
 have lowl : ∀ q o, la = some (q, o) → hb.length ≤ q ∧ q < h.length := fun q o ha => r.low q (by simp [Zsq]; exact .inr (.inr (.inl ⟨o, ha⟩)))
 have lowg : ∀ q o, ga = some (q, o) → hb.length ≤ q ∧ q < h.length := fun q o ha => r.low q (by simp [Zsq]; exact .inr (.inr (.inr ⟨o, ha⟩)))
 have lowi := (r.low i r.io).1
 apply Zmy.call
 simp only [Zax, Zaq ho, Nat.zero_add, List.getElem?_cons_succ, List.getElem?_cons_zero, Zag, Zaz]
 refine v1.push Ynn Ysh Ysy Ysg (by rw [Zay Ymt]; simp [e1]) rfl (by omega) (fun h1 hl1 hi1 hk1 => ?_)
 have o1 : h1[i]? = some (.cells Zcg [u, v, .slice ka kn kc ke, .slice la ln lc le, .slice ga gn gc ge] false) := by rw [hk1 i hil fun q hq => ((d1 q 0 hq).1).symm]; exact ho
 simp only [Zag]
 rw [Zbr o1 (by simp)]
 simp only [Zaw, putRow, List.take_succ_cons, List.take_zero, List.length_cons, List.length_nil, List.drop_succ_cons, List.drop_zero, List.drop_nil, List.cons_append, List.nil_append, List.append_nil]
 have o2 : (h1.set i (.cells Zcg [u, v, .slice (some (h.length + 1, 0)) (kn + 1) (kn + 1) false, .slice la ln lc le, .slice ga gn gc ge] false))[i]? = some (.cells Zcg [u, v, .slice (some (h.length + 1, 0)) (kn + 1) (kn + 1) false, .slice la ln lc le, .slice ga gn gc ge] false) := Zcq o1
 have g2 : ∀ j, j < h.length → j ≠ i → (∀ o, ka ≠ some (j, o)) → (h1.set i (.cells Zcg [u, v, .slice (some (h.length + 1, 0)) (kn + 1) (kn + 1) false, .slice la ln lc le, .slice ga gn gc ge] false))[j]? = h[j]? := fun j hj hne hk => by rw [Zcj (fun e => hne e.symm)]; exact hk1 j hj fun q hq he => hk 0 (he ▸ hq)
 have k2 : (h1.set i (.cells Zcg [u, v, .slice (some (h.length + 1, 0)) (kn + 1) (kn + 1) false, .slice la ln lc le, .slice ga gn gc ge] false))[h.length + 1]? = some (.cells Zcm (Zcf eS (tab.map Prod.fst) ++ [.str s]) false) := by rw [Zcj (by omega)]; exact hi1
 have hl2 : (h1.set i (.cells Zcg [u, v, .slice (some (h.length + 1, 0)) (kn + 1) (kn + 1) false, .slice la ln lc le, .slice ga gn gc ge] false)).length = h.length + 2 := by simp [hl1]
 generalize h1.set i (.cells Zcg [u, v, .slice (some (h.length + 1, 0)) (kn + 1) (kn + 1) false, .slice la ln lc le, .slice ga gn gc ge] false) = h2 at o2 g2 k2 hl2 ⊢
 simp only [Zaq o2, Nat.zero_add, List.getElem?_cons_succ, List.getElem?_cons_zero, Zag]
 have v2' : Vec Zfd h2 la ln lc cs := v2.agree fun j hj => g2 j (lowl j 0 hj).2 (d2 j 0 hj).1 fun o hk => (d1 j o hk).2.1 0 hj
 refine v2'.push Ymd Yos You Yoo e2 rfl (by omega) (fun h3 hl3 hi3 hk3 => ?_)
 have o3 : h3[i]? = some (.cells Zcg [u, v, .slice (some (h.length + 1, 0)) (kn + 1) (kn + 1) false, .slice la ln lc le, .slice ga gn gc ge] false) := by rw [hk3 i (by omega) fun q hq => ((d2 q 0 hq).1).symm]; exact o2
 have k3 : h3[h.length + 1]? = some (.cells Zcm (Zcf eS (tab.map Prod.fst) ++ [.str s]) false) := by rw [hk3 _ (by omega) fun q hq => by have := (lowl q 0 hq).2; omega]; exact k2
 simp only [Zag]
 rw [Zbr o3 (by simp)]
 simp only [Zaw, putRow, List.take_succ_cons, List.take_zero, List.length_cons, List.length_nil, List.drop_succ_cons, List.drop_zero, List.drop_nil, List.cons_append, List.nil_append, List.append_nil]
 have o4 : (h3.set i (.cells Zcg [u, v, .slice (some (h.length + 1, 0)) (kn + 1) (kn + 1) false, .slice (some (h2.length + 1, 0)) (ln + 1) (ln + 1) false, .slice ga gn gc ge] false))[i]? = some (.cells Zcg [u, v, .slice (some (h.length + 1, 0)) (kn + 1) (kn + 1) false, .slice (some (h2.length + 1, 0)) (ln + 1) (ln + 1) false, .slice ga gn gc ge] false) := Zcq o3
 have g4 : ∀ j, j < h.length → j ≠ i → (∀ o, ka ≠ some (j, o)) → (∀ o, la ≠ some (j, o)) → (h3.set i (.cells Zcg [u, v, .slice (some (h.length + 1, 0)) (kn + 1) (kn + 1) false, .slice (some (h2.length + 1, 0)) (ln + 1) (ln + 1) false, .slice ga gn gc ge] false))[j]? = h[j]? := fun j hj hne hk hq => by
  rw [Zcj (fun e => hne e.symm), hk3 j (by omega) fun q hq' he => hq 0 (he ▸ hq')]; exact g2 j hj hne hk
 have k4 : (h3.set i (.cells Zcg [u, v, .slice (some (h.length + 1, 0)) (kn + 1) (kn + 1) false, .slice (some (h2.length + 1, 0)) (ln + 1) (ln + 1) false, .slice ga gn gc ge] false))[h.length + 1]? = some (.cells Zcm (Zcf eS (tab.map Prod.fst) ++ [.str s]) false) := by rw [Zcj (by omega)]; exact k3
 have l4 : (h3.set i (.cells Zcg [u, v, .slice (some (h.length + 1, 0)) (kn + 1) (kn + 1) false, .slice (some (h2.length + 1, 0)) (ln + 1) (ln + 1) false, .slice ga gn gc ge] false))[h2.length + 1]? = some (.cells Zfd (cs ++ [.slice none 0 0 true]) false) := by rw [Zcj (by omega)]; exact hi3
 have hl4 : (h3.set i (.cells Zcg [u, v, .slice (some (h.length + 1, 0)) (kn + 1) (kn + 1) false, .slice (some (h2.length + 1, 0)) (ln + 1) (ln + 1) false, .slice ga gn gc ge] false)).length = h2.length + 2 := by simp [hl3]
 generalize h3.set i (.cells Zcg [u, v, .slice (some (h.length + 1, 0)) (kn + 1) (kn + 1) false, .slice (some (h2.length + 1, 0)) (ln + 1) (ln + 1) false, .slice ga gn gc ge] false) = h4 at o4 g4 k4 l4 hl4 ⊢
 simp only [Zaq o4, Nat.zero_add, List.getElem?_cons_succ, List.getElem?_cons_zero, Zag]
 have v3' : Vec Zvq h4 ga gn gc (Zcf eT (tab.map Prod.snd)) := v3.agree fun j hj => g4 j (lowg j 0 hj).2 (d3 j 0 hj) (fun o hk => (d1 j o hk).2.2 0 hj) fun o hk => (d2 j o hk).2 0 hj
 refine v3'.push Ylt Yrz Yqr Yrf (by rw [Zay Ylw]; simp [e3]) rfl (by omega) (fun h5 hl5 hi5 hk5 => ?_)
 have o5 : h5[i]? = some (.cells Zcg [u, v, .slice (some (h.length + 1, 0)) (kn + 1) (kn + 1) false, .slice (some (h2.length + 1, 0)) (ln + 1) (ln + 1) false, .slice ga gn gc ge] false) := by rw [hk5 i (by omega) fun q hq => (d3 q 0 hq).symm]; exact o4
 have k5 : h5[h.length + 1]? = some (.cells Zcm (Zcf eS (tab.map Prod.fst) ++ [.str s]) false) := by rw [hk5 _ (by omega) fun q hq => by have := (lowg q 0 hq).2; omega]; exact k4
 have l5 : h5[h2.length + 1]? = some (.cells Zfd (cs ++ [.slice none 0 0 true]) false) := by rw [hk5 _ (by omega) fun q hq => by have := (lowg q 0 hq).2; omega]; exact l4
 simp only [Zag]
 rw [Zbr o5 (by simp)]
 simp only [Zaw, putRow, List.take_succ_cons, List.take_zero, List.length_cons, List.length_nil, List.drop_succ_cons, List.drop_zero, List.drop_nil, List.cons_append, List.nil_append, List.append_nil]
 refine ⟨[i, h.length + 1, h2.length + 1, h4.length + 1], ⟨⟨by simp; omega, fun j hj => ?_⟩, fun j hj => ?_, by simp, ⟨some (h.length + 1, 0), kn + 1, kn + 1, false, some (h2.length + 1, 0), ln + 1, ln + 1, false, some (h4.length + 1, 0), gn + 1, gn + 1, false, cs ++ [.slice none 0 0 true], Zcq o5, Vec.mk1 ?_, by simp [e1], Vec.mk1 ?_, by simp [e2], by simp [e2'], Vec.mk1 ?_, by simp [e3], rfl, ?_⟩, ?_⟩, ⟨by simp; omega, fun j hj hn => ?_, fun j hj => ?_⟩⟩
 ·rw [Zcj (by omega), hk5 j (by omega) fun q hq => by have := (lowg q 0 hq).1; omega, g4 j (by omega) (by omega) (fun o hk => by have := (lowk j o hk).1; omega) fun o hk => by have := (lowl j o hk).1; omega]
  exact r.same.eq j hj
 ·simp only [List.mem_cons, List.not_mem_nil, or_false] at hj
  simp only [List.length_set]
  omega
 ·rw [Zcj (by omega), k5, List.map_append, Zeg]; rfl
 ·rw [Zcj (by omega)]; exact l5
 ·rw [Zcj (by omega), hi5, List.map_append, Zeg]; rfl
 ·simp only [List.nodup_cons, List.mem_cons, List.not_mem_nil, or_false, not_false_eq_true, List.nodup_nil, and_true]
  omega
 ·intro p hp n d hv he
  rcases List.mem_append.1 hp with hp | hp
  ·exact r.ok p hp n d hv he
  ·rw [List.mem_singleton] at hp
   subst hp
   exact hok n d hv he
 ·simp only [List.mem_cons, List.mem_append, Zsq, not_or, not_exists] at hn
  obtain ⟨n1, ⟨n2, n3⟩, n4⟩ := hn
  rw [Zcj (fun e => n1 e.symm), hk5 j (by omega) fun q hq he => n4 0 (he ▸ hq)]
  exact g4 j hj n1 n2 n3
 ·simp only [List.mem_cons, List.not_mem_nil, or_false] at hj
  rcases hj with rfl | rfl | rfl | rfl
  ·exact .inl (by simp)
  ·exact .inr (by omega)
  ·exact .inr (by omega)
  ·exact .inr (by omega)
end
end Go.Sim

set_option linter.unusedVariables false
set_option linter.unusedSimpArgs false
set_option maxRecDepth 20000
namespace Go.Sim
open Go Go.RowKit

def Yff : Nat → Nat
 | 0 => 1
 | d + 1 => 1 + 30 * Yff d
theorem Ynp {d : Nat} (h : d < 7) : Yff d ≤ 800000000 := by
 match d, h with
 | 0, _ => decide
 | 1, _ => decide
 | 2, _ => decide
 | 3, _ => decide
 | 4, _ => decide
 | 5, _ => decide
 | 6, _ => decide
def Zlx (d : Nat) : Nat := if d = 0 then 0 else Yff (d - 1)
theorem Yoa (d : Nat) : Yff d = 1 + 30 * Zlx d := by cases d <;> rfl
def Yoy (d : Nat) (hb : Zaa) (i : Nat) (a0 a1 : Pt) (n0 c0 n1 c1 : Nat) (e0 e1 : Bool) (w : Wd) : Prop := ∀ {h : Zaa} {n : Nd} {O : List Nat} {tab : List (List Nat × Bool)}, Ybm hb i (.slice a0 n0 c0 e0) (.slice a1 n1 c1 e1) w h O tab → Zet w n = true → tab.length + Yff d ≤ 549755813888 →
 Zae pg Zhg [.ptr (some (i, 0)), .agg [.str n.1, .str n.2], .int .i64 (d : Int)] h fun x h' => x = .bool (Znd (wk w) d n) ∧ ∃ O' tab', Ybm hb i (.slice a0 n0 c0 e0) (.slice a1 n1 c1 e1) w h' O' tab' ∧ FrO O O' h h' ∧ tab'.length ≤ tab.length + Yff d
theorem Yrv {α : Type} {f : α → Bool} {l : List α} {g : Nat} (hg : g < l.length) (h : (l.take g).any f = false) (k : f l[g] = false) : (l.take (g + 1)).any f = false := by
 rw [List.take_succ_eq_append_getElem hg, List.any_append, h]; simp [k]
theorem Yqm {hb : Zaa} {i : Nat} {a0 a1 : Pt} {n0 c0 n1 c1 : Nat} {e0 e1 : Bool} {w : Wd} (r : Zmm hb a0 n0 c0 a1 n1 c1 w) (b : WB w) (hw : Zdm w = true) {d : Nat} (hd10 : d < 10) (ih : 0 < d → Yoy (d - 1) hb i a0 a1 n0 c0 n1 c1 e0 e1 w)
  {h : Zaa} {n : Nd} {O : List Nat} {tab : List (List Nat × Bool)} (rd : Ybm hb i (.slice a0 n0 c0 e0) (.slice a1 n1 c1 e1) w h O tab) (hnd : Zet w n = true) (hcost : tab.length + 30 * Zlx d ≤ 549755813888) :
  Zae pg Zjn [.ptr (some (i, 0)), .agg [.str n.1, .str n.2], .int .i64 (d : Int)] h fun x h' => x = .bool (Znd (wk w) d n) ∧ ∃ O' tab', Ybm hb i (.slice a0 n0 c0 e0) (.slice a1 n1 c1 e1) w h' O' tab' ∧ FrO O O' h h' ∧ tab'.length ≤ tab.length + 30 * Zlx d := by
 have hty := Zty hnd
 have hl10 := Ydl hw
 have hl1 := r.len1
 have hlow := rd.low
 apply Zcd.call
 simp only [Zaz]
 generalize hh0 : h ++ [Zco.cells Zaj [.str n.1, .str n.2] false] = h0
 have s0 : Zbb h.length h h0 := by rw [← hh0]; exact Zas
 have l0 : h0.length = h.length + 1 := by rw [← hh0]; simp
 have p1 : h0[h.length]? = some (.cells Zaj [.str n.1, .str n.2] false) := by rw [← hh0]; simp
 have rd0 := rd.step s0
 obtain ⟨ka, kn, kc, ke, la, ln, lc, le, ga, gn, gc, ge, cs, ho, _⟩ := rd0.ob
 simp only [Zax, Zem ho (show 0 + 0 + 2 ≤ _ by simp), Nat.zero_add, List.drop_zero, List.take_succ_cons, List.take_zero, Zar, Zah, Zat, Zag]
 rw [Zgv]
 generalize hh1 : h0 ++ [Zco.cells Zaf [.slice a0 n0 c0 e0, .slice a1 n1 c1 e1] false] = h1
 have s1 : Zbb h0.length h0 h1 := by rw [← hh1]; exact Zas
 have l1 : h1.length = h0.length + 1 := by rw [← hh1]; simp
 have w1 : h1[h0.length]? = some (Znv a0 n0 c0 e0 a1 n1 c1 e1) := by rw [← hh1]; simp [Znv]
 have p1 := s1.get p1 (Own.lt p1)
 have rd1 := rd0.step s1
 simp only [Zaw, Zxv w1, Zby p1, Zar, Zah, Zat, Zag, Zai]
 refine (Zxs (nd := n) (r.same rd1.same) b (by omega)).mono ?_
 rintro v h4 ⟨s4, ca, cn, cc, ce, rfl, fc⟩
 have rd4 := rd1.step s4
 have q1 := s4.get p1 (Own.lt p1)
 have qw := s4.get w1 (Own.lt w1)
 have S4 := (s0.cat s1).cat s4
 have hcin := Zzl w n
 have hcl' := fc.1
 have hcn10 : cn ≤ 10 := by have := Zzu (Zml n) w.is; unfold Zrd at hcl'; omega
 have rowc : Row h4.length h4 ca cn (Zcf eI (Zrd w n)) := by simpa using Zcv.row Zlu fc
 have hout : ∀ j, h.length ≤ j → j ∉ O := fun j hj hm => by have := (hlow j hm).2; omega
 have hrm : ∀ j o, cn ≠ 0 → ca = some (j, o) → j ∉ O := fun j o hn ha => by
  obtain ⟨_, h0' | ⟨j', hj', hb', _⟩⟩ := fc
  ·omega
  ·rw [ha] at hj'; cases hj'; exact hout _ (by omega)
 have l4 := s4.le
 simp only [Zag]
 refine Zcd.L3ind _ _ _ _ _ _ _ _ _ _ _ _ (J := fun (g : Nat) x8 h' => x8 = (g : Int) ∧ g ≤ cn ∧ ((Zrd w n).take g).any (Yec (wk w) d n) = false ∧ ∃ O' tab', Ybm hb i (.slice a0 n0 c0 e0) (.slice a1 n1 c1 e1) w h' O' tab' ∧ FrO O O' h4 h' ∧ tab'.length ≤ tab.length + g * (3 * Zlx d)) (fun g => cn - g) ?_ 0 _ _ ⟨rfl, by omega, rfl, O, tab, rd4, FrO.of_same (Zbb.refl _ _), by omega⟩
 rintro g x8 h' ⟨rfl, hg, hfalse, O', tab', rdg, Fg, hlen⟩ R hR
 have hgc : g * (3 * Zlx d) ≤ 10 * (3 * Zlx d) := Nat.mul_le_mul_right _ (by omega)
 unfold Zcd.L3t
 refine Zan (fun hlt => ?_) (fun hge => ?_)
 ·have hg1 : (g + 1) * (3 * Zlx d) = g * (3 * Zlx d) + 3 * Zlx d := by rw [Nat.add_mul, Nat.one_mul]
  have hgc1 : (g + 1) * (3 * Zlx d) ≤ 10 * (3 * Zlx d) := Nat.mul_le_mul_right _ (by omega)
  obtain ⟨im, om, hgl, rfl, _, hcell⟩ := (Fg.row rowc hrm).i64 (k := g) (by omega)
  obtain ⟨k, hk, hkl⟩ := hcin _ (List.getElem_mem hgl)
  have hkk : (Zrd w n)[g] = (k : Int) := hk
  obtain ⟨ii, oi, hki, na, nn, ncp, ne, rfl, _, hri, _, _, _, hrow, hnl⟩ := (r.same rdg.same).inst (k := k) (by omega)
  have hbk := b.is _ (List.getElem_mem hkl)
  have qw' := Fg.get qw (hout _ (by omega))
  have q1' := Fg.get q1 (hout _ (by omega))
  rw [hkk] at hcell
  simp only [Zax, Int.toNat_natCast, hcell, Zau, Zjq qw', Zaq q1', Nat.zero_add, List.getElem?_cons_succ, List.getElem?_cons_zero, Zag, hri, Zar, Zah, Zat, Zai, true_and]
  refine ⟨by omega, by omega, ?_⟩
  refine (Ymw (i := w.is[k]) (t := n.2) hrow (by omega) (by omega) (by omega) (fun p hp => (hbk.2.2.2 p hp).2)).mono ?_
  rintro v h5 ⟨s5, ma, mn, mc, me, rfl, fm⟩
  have rd5 := rdg.step s5
  have F5 := Fg.trans (FrO.of_same s5)
  have qw5 := s5.get qw' (Own.lt qw')
  have hneeds : (wk w).needs (k : Int) n.2 = Zht w.is[k] n.2 := by show Zht (Yek w (k : Int)) n.2 = _; rw [Ygz hkl]
  simp only [Zdn, Zah, Zag, Zal, Zat, Zjq qw5, List.getElem?_cons_succ, List.getElem?_cons_zero, true_and]
  have skip : ∀ (h6 : Zaa) (O6 : List Nat) (tab6 : List (List Nat × Bool)), Ybm hb i (.slice a0 n0 c0 e0) (.slice (some (ii, oi)) n1 c1 e1) w h6 O6 tab6 → FrO O O6 h4 h6 → tab6.length ≤ tab'.length + 3 * Zlx d → Yec (wk w) d n (k : Int) = false →
    Zcd.J15 (fun x h' => x = .bool (Znd (wk w) d n) ∧ ∃ O' tab', Ybm hb i (.slice a0 n0 c0 e0) (.slice (some (ii, oi)) n1 c1 e1) w h' O' tab' ∧ FrO O O' h h' ∧ tab'.length ≤ tab.length + 30 * Zlx d) R (g : Int) (((cn : Nat) : Int)) (some (im, om)) cn cc ce h0.length 0 h.length 0 (d : Int) (some (i, 0)) h6 := by
   intro h6 O6 tab6 rd6 F6 hl6 hC
   apply Zcd.J15i
   rw [Zbj (by omega)]
   exact hR (g + 1) _ _ (by omega) ⟨rfl, by omega, Yrv hgl hfalse (by rw [hkk]; exact hC), O6, tab6, rd6, F6, by omega⟩
  refine Zcb (fun hok => ?_) (fun hok => ?_)
  ·refine skip _ _ _ rd5 F5 (by omega) ?_
   unfold Yec
   rw [hneeds]
   cases hh : Zht w.is[k] n.2 with
   | none => rfl
   | some _ => rw [hh] at hok; cases hok
  obtain ⟨ms, hms⟩ := Option.isSome_iff_exists.1 hok
  have hms3 := Ydc hw hkl hms
  rw [hms] at fm
  simp only [Option.getD_some] at fm
  have hmn := fm.1
  have hC : Yec (wk w) d n (k : Int) = ((decide (ms = []) || decide (0 < d)) && ms.all (Znd (wk w) (d - 1))) := by unfold Yec; rw [hneeds, hms]
  have hlow5 := rd5.low
  have go : (ms = [] ∨ 0 < d) → Zcd.J7 (fun x h' => x = .bool (Znd (wk w) d n) ∧ ∃ O' tab', Ybm hb i (.slice a0 n0 c0 e0) (.slice (some (ii, oi)) n1 c1 e1) w h' O' tab' ∧ FrO O O' h h' ∧ tab'.length ≤ tab.length + 30 * Zlx d) R ma mn mc me (some (i, 0)) (d : Int) h.length 0 h0.length 0 (some (im, om)) cn cc ce (((cn : Nat) : Int)) (g : Int) h5 := by
   intro hdm
   apply Zcd.J7i
   refine Zcd.L9ind _ _ _ _ _ _ _ _ _ _ _ _ _ _ _ _ _ _ _ (J := fun (q : Nat) x12 x51 h' => x51 = (q : Int) ∧ q ≤ mn ∧ x12 = (ms.take q).all (Znd (wk w) (d - 1)) ∧ ∃ O6 tab6, Ybm hb i (.slice a0 n0 c0 e0) (.slice (some (ii, oi)) n1 c1 e1) w h' O6 tab6 ∧ FrO O' O6 h5 h' ∧ tab6.length ≤ tab'.length + q * Zlx d) (fun q => mn - q) ?_ 0 _ _ _ ⟨rfl, by omega, rfl, O', tab', rd5, FrO.of_same (Zbb.refl _ _), by omega⟩
   rintro q x12 x51 h6 ⟨rfl, hq, rfl, O6, tab6, rd6, F6, hl6⟩ R9 hR9
   have hqc : q * Zlx d ≤ 3 * Zlx d := Nat.mul_le_mul_right _ (by have := hms3.1; omega)
   unfold Zcd.L9t
   refine Zan (fun hlt9 => ?_) (fun hge9 => ?_)
   ·have hq1 : (q + 1) * Zlx d = q * Zlx d + Zlx d := by rw [Nat.add_mul, Nat.one_mul]
    have hqc1 : (q + 1) * Zlx d ≤ 3 * Zlx d := Nat.mul_le_mul_right _ (by have := hms3.1; omega)
    have rowm : Row h6.length h6 ma (mn * 2) (Zcf eP ms) := F6.row (fm.row Zek) fun j o hn ha hm => by
     obtain ⟨_, h0' | ⟨j', hj', hb', _⟩⟩ := fm
     ·omega
     ·rw [ha] at hj'; cases hj'
      have := (rdg.low _ hm).2
      omega
    obtain ⟨i3, o3, hql, rfl, _, hrm3, _⟩ := rowm.pr (k := q) (by omega)
    simp only [Zax, Int.toNat_natCast, hrm3, Zar, Zah, Zat, Zai, Zaz]
    rw [Zgv]
    generalize hh7 : h6 ++ [Zco.cells Zaj [.str ms[q].1, .str ms[q].2] false] = h7
    have s7 : Zbb h6.length h6 h7 := by rw [← hh7]; exact Zas
    have o7 : h7[h6.length]? = some (.cells Zaj [.str ms[q].1, .str ms[q].2] false) := by rw [← hh7]; simp
    have hstep : (ms.take (q + 1)).all (Znd (wk w) (d - 1)) = ((ms.take q).all (Znd (wk w) (d - 1)) && Znd (wk w) (d - 1) ms[q]) := by
     rw [List.take_succ_eq_append_getElem hql, List.all_append]; simp
    simp only [Zaw, Zby o7, Zar, Zah, Zat, Zai]
    refine ⟨by omega, Zcw (fun ht => ?_) (fun hf => ?_)⟩
    ·have hpos : 0 < d := hdm.resolve_left (fun hm => by rw [hm] at hql; simp at hql)
     have hpc : Zlx d = Yff (d - 1) := by unfold Zlx; rw [if_neg (by omega)]
     rw [show IntKind.wrap .i64 ((d : Int) - 1) = ((d - 1 : Nat) : Int) by rw [IntWalk.i64_in _ (by omega)]; omega]
     refine (ih hpos (n := ms[q]) (rd6.step s7) (hms3.2 _ (List.getElem_mem hql)) (by omega)).mono ?_
     rintro v h8 ⟨rfl, O8, tab8, rd8, F8, hl8⟩
     simp only [Zal]
     apply Zcd.J12i
     rw [Zbj (by omega)]
     exact hR9 (q + 1) _ _ _ (by omega) ⟨rfl, by omega, by rw [hstep, ht]; rfl, O8, tab8, rd8, (F6.trans (FrO.of_same s7)).trans F8, by omega⟩
    ·apply Zcd.J12i
     rw [Zbj (by omega)]
     exact hR9 (q + 1) _ _ _ (by omega) ⟨rfl, by omega, by rw [hstep, hf]; rfl, O6, tab6, rd6.step s7, F6.trans (FrO.of_same s7), by omega⟩
   ·apply Zcd.A9x2i
    have : q = mn := by omega
    subst this
    rw [List.take_of_length_le (by omega)]
    have hCe : Yec (wk w) d n (k : Int) = ms.all (Znd (wk w) (d - 1)) := by
     rw [hC]
     rcases hdm with hm | hp
     ·simp [hm]
     ·simp [hp]
    refine Zcw (fun ht => ?_) (fun hf => ?_)
    ·have : Znd (wk w) d n = true := by
      rw [Zzr]
      exact List.any_eq_true.2 ⟨_, List.getElem_mem hgl, by rw [hkk, hCe]; exact ht⟩
     rw [this]
     exact ⟨rfl, O6, tab6, rd6, ((FrO.of_same S4).trans F5).trans F6, by omega⟩
    ·exact skip _ _ _ rd6 (F5.trans F6) (by omega) (by rw [hCe]; exact hf)
  refine Zan (fun hpos => ?_) (fun hpos => ?_)
  ·have hm0 : ms ≠ [] := fun hm => by rw [hm] at hmn; simp at hmn; omega
   refine Zfh (fun hd0 => ?_) (fun hd0 => ?_)
   ·refine skip _ _ _ rd5 F5 (by omega) ?_
    rw [hC]; simp [hm0, show d = 0 by omega]
   ·exact go (.inr (by omega))
  ·exact go (.inl (List.eq_nil_of_length_eq_zero (by omega)))
 ·apply Zcd.A3x0i
  have : g = cn := by omega
  subst this
  rw [List.take_of_length_le (by omega)] at hfalse
  have : Znd (wk w) d n = false := by rw [Zzr]; exact hfalse
  rw [this]
  exact ⟨rfl, O', tab', rdg, (FrO.of_same S4).trans Fg, by omega⟩
theorem Ygm {hb : Zaa} {i : Nat} {a0 a1 : Pt} {n0 c0 n1 c1 : Nat} {e0 e1 : Bool} {w : Wd} (r : Zmm hb a0 n0 c0 a1 n1 c1 w) (b : WB w) (hw : Zdm w = true) (d : Nat) (hd10 : d < 10) (ih : 0 < d → Yoy (d - 1) hb i a0 a1 n0 c0 n1 c1 e0 e1 w) : Yoy d hb i a0 a1 n0 c0 n1 c1 e0 e1 w := by
 intro h n O tab rd hnd hcost
 have hty := Zty hnd
 have hcl := Zot hw hnd
 have hlow := rd.low
 rw [Yoa] at hcost ⊢
 apply Znc.call
 simp only [Zaz]
 generalize hh0 : h ++ [Zco.cells Zaj [.str n.1, .str n.2] false] = h0
 have s0 : Zbb h.length h h0 := by rw [← hh0]; exact Zas
 have p1 : h0[h.length]? = some (.cells Zaj [.str n.1, .str n.2] false) := by rw [← hh0]; simp
 have rd0 := rd.step s0
 simp only [Zby p1, Zar, Zah, Zat, Zai]
 refine (Yrp hd10 (by omega)).mono ?_
 rintro v h1 ⟨rfl, s1⟩
 have rd1 := rd0.step s1
 have p2 := s1.get p1 (Own.lt p1)
 have S1 := s0.cat s1
 simp only [Zai]
 refine (Yul rd1 (by omega) (Yqe n d)).mono ?_
 rintro v h2 ⟨rfl, rfl | ⟨g, rfl, hg, hkey⟩⟩
 ·simp only [Zau]
  refine Zan (fun hx => by simp at hx) (fun _ => ?_)
  simp only [Zby p2, Zar, Zah, Zat, Zai]
  refine (Yqm r b hw hd10 ih rd1 hnd (by omega)).mono ?_
  rintro v h3 ⟨rfl, O3, tab3, rd3, F3, hl3⟩
  simp only [Zal]
  refine (Ysk rd3 (by omega) (Yqe n d) (Znd (wk w) d n) ?_).mono ?_
  ·intro n' d' hv' he
   obtain ⟨rfl, rfl⟩ := Ynu hcl (Zot hw hv') he
   rfl
  ·rintro v h4 ⟨O4, rd4, F4⟩
   exact ⟨by trivial, O4, _, rd4, ((FrO.of_same S1).trans F3).trans F4, by simp; omega⟩
 ·simp only [Zau]
  refine Zan (fun _ => ?_) (fun hx => absurd (by omega) hx)
  obtain ⟨ka, kn, kc, ke, la, ln, lc, le, ga, gn, gc, ge, cs, ho, v1, e1, v2, e2, e2', v3, e3, _⟩ := rd1.ob
  simp only [Zax, Zaq ho, Nat.zero_add, List.getElem?_cons_succ, List.getElem?_cons_zero, Zag]
  have row : Row h2.length h2 ga gn (Zcf eT (tab.map Prod.snd)) := v3.row (by rw [Zay Ylw]; simp [e3])
  obtain ⟨im, om, hgl, rfl, _, hcell⟩ := Row.el1 Ylw row (k := g) (by omega)
  have hc : Zak h2 (.ptr (some (im, om + (Int.toNat (g : Int)) * 1))) = some (.bool tab[g].2) := by rw [Int.toNat_natCast, hcell]; simp [eT]
  simp only [Zax, hc, Zal]
  exact ⟨by omega, by rw [rd.ok _ (List.getElem_mem hg) n d hnd hkey], O, tab, rd1, FrO.of_same S1, by omega⟩
theorem Yps {hb : Zaa} {i : Nat} {a0 a1 : Pt} {n0 c0 n1 c1 : Nat} {e0 e1 : Bool} {w : Wd} (r : Zmm hb a0 n0 c0 a1 n1 c1 w) (b : WB w) (hw : Zdm w = true) : ∀ d, d < 10 → Yoy d hb i a0 a1 n0 c0 n1 c1 e0 e1 w
 | 0, h => Ygm r b hw 0 h fun hd => by omega
 | d + 1, h => Ygm r b hw (d + 1) h fun _ => Yps r b hw d (by omega)
theorem Yds {h : Zaa} {a0 a1 : Pt} {n0 c0 n1 c1 : Nat} {e0 e1 : Bool} {w : Wd} {nd : Nd} (r : Zmm h a0 n0 c0 a1 n1 c1 w) (b : WB w) (hnt : nd.2.length ≤ 1048576) :
  Zae pg Znt [.agg [.slice a0 n0 c0 e0, .slice a1 n1 c1 e1], .agg [.str nd.1, .str nd.2]] h fun v h' => v = .int .i64 (Ybj w nd) ∧ Zbb h.length h h' := by
 apply Zfz.call
 simp only [Zaz]
 generalize hh0 : h ++ [Zco.cells Zaf [.slice a0 n0 c0 e0, .slice a1 n1 c1 e1] false] = h0
 generalize hh1 : h0 ++ [Zco.cells Zaj [.str nd.1, .str nd.2] false] = h1
 have s0 : Zbb h.length h h0 := by rw [← hh0]; exact Zas
 have s1 : Zbb h0.length h0 h1 := by rw [← hh1]; exact Zas
 have w0 : h0[h.length]? = some (Znv a0 n0 c0 e0 a1 n1 c1 e1) := by rw [← hh0]; simp [Znv]
 have w1 := s1.get w0 (Own.lt w0)
 have p1 : h1[h0.length]? = some (.cells Zaj [.str nd.1, .str nd.2] false) := by rw [← hh1]; simp
 have l0 : h0.length = h.length + 1 := by rw [← hh0]; simp
 have l1 : h1.length = h0.length + 1 := by rw [← hh1]; simp
 rw [Zxv w1]
 simp only [Zar, Zah, Zat, Zag]
 generalize hh2 : h1 ++ [Zco.cells Zcg [.slice a0 n0 c0 e0, .slice a1 n1 c1 e1, .slice none 0 0 true, .slice none 0 0 true, .slice none 0 0 true] false] = h2
 have s2 : Zbb h1.length h1 h2 := by rw [← hh2]; exact Zas
 have o2 : h2[h1.length]? = some (.cells Zcg [.slice a0 n0 c0 e0, .slice a1 n1 c1 e1, .slice none 0 0 true, .slice none 0 0 true, .slice none 0 0 true] false) := by rw [← hh2]; simp
 have S2 := (s0.cat s1).cat s2
 have rd : Ybm h h1.length (.slice a0 n0 c0 e0) (.slice a1 n1 c1 e1) w h2 [h1.length] [] :=
  ⟨S2, fun j hj => by rw [List.mem_singleton] at hj; subst hj; exact ⟨by omega, Own.lt o2⟩, by simp, ⟨none, 0, 0, true, none, 0, 0, true, none, 0, 0, true, [], o2, .inl ⟨rfl, rfl, rfl, rfl⟩, rfl, .inl ⟨rfl, rfl, rfl, rfl⟩, rfl, rfl, .inl ⟨rfl, rfl, rfl, rfl⟩, rfl, rfl, by simp⟩, fun p hp => by cases hp⟩
 refine Zfz.L3ind _ _ _ _ _ _ _ (J := fun (g : Nat) x9 h' => x9 = (g : Int) ∧ g ≤ 7 ∧ ((Zdm w && Zet w nd) = true → ∀ d, d < g → Znd (wk w) d nd = false) ∧ ∃ O tab, Ybm h h1.length (.slice a0 n0 c0 e0) (.slice a1 n1 c1 e1) w h' O tab ∧ FrO [h1.length] O h2 h' ∧ tab.length ≤ g * 800000000) (fun g => 7 - g) ?_ 0 _ _ ⟨rfl, by omega, fun _ d hd => by omega, _, _, rd, FrO.of_same (Zbb.refl _ _), by simp⟩
 rintro g x9 h' ⟨rfl, hg, hf, O, tab, rdg, Fg, hlen⟩ R hR
 have w3 := Fg.get (s2.get w1 (Own.lt w1)) (by simp; omega)
 have p3 := Fg.get (s2.get p1 (Own.lt p1)) (by simp; omega)
 unfold Zfz.L3t
 refine Zan (fun hlt => ?_) (fun hge => ?_)
 ·rw [Zxv w3, Zby p3]
  simp only [Zar, Zah, Zat, Zag, Zai]
  refine (Yaz (ct := nd.1) (tt := nd.2) (r.same rdg.same) b hnt).mono ?_
  rintro v h4 ⟨rfl, s4⟩
  have rd4 := rdg.step s4
  have p4 := s4.get p3 (Own.lt p3)
  have F4 := Fg.trans (FrO.of_same s4)
  simp only [Zal]
  refine Zcw (fun hc => ?_) (fun hc => ?_)
  ·rw [Zby p4]
   simp only [Zar, Zah, Zat, Zai]
   have hc' := hc
   simp only [Bool.and_eq_true] at hc'
   have hcl := Ynp (d := g) (by omega)
   refine (Yps r b hc'.1 g (by omega) rd4 hc'.2 (by omega)).mono ?_
   rintro v h5 ⟨rfl, O5, tab5, rd5, F5, hl5⟩
   simp only [Zal]
   refine Zcw (fun hh => ?_) (fun hh => ?_)
   ·exact ⟨by unfold Ybj; rw [hc, Ycm (by omega) (hf hc) hh]; rfl, rd5.same⟩
   ·apply Zfz.J7i
    rw [Zbj (by omega)]
    refine hR (g + 1) _ _ (by omega) ⟨rfl, by omega, fun _ d hd => ?_, O5, tab5, rd5, F4.trans F5, by omega⟩
    by_cases hdg : d = g
    ·rw [hdg]; exact hh
    ·exact hf hc d (by omega)
  ·apply Zfz.J7i
   rw [Zbj (by omega)]
   exact hR (g + 1) _ _ (by omega) ⟨rfl, by omega, fun h => absurd (hc.symm.trans h) Bool.false_ne_true, O, tab, rd4, F4, Nat.le_trans hlen (Nat.mul_le_mul_right _ (by omega))⟩
 ·apply Zfz.A3x0i
  refine ⟨?_, rdg.same⟩
  unfold Ybj
  cases hc : Zdm w && Zet w nd with
  | false => rfl
  | true => rw [Ybi fun d hd => hf hc d (by omega)]; rfl
end Go.Sim

set_option linter.unusedVariables false
set_option linter.unusedSimpArgs false
set_option maxRecDepth 20000
namespace Go.Sim
open Go Go.RowKit

theorem Zsz : pg.underlying Zdl = some (.slice Zac) := by kernel_rfl
theorem Ygv : pg.cellsOf Zac = 3 := by kernel_rfl
theorem Yfk : pg.okElem Zac = true := by kernel_rfl
theorem Ygt : pg.bytesOf Zac ≤ 127 := Nat.le_of_ble_eq_true (by kernel_rfl)
theorem Yss : Zxy pg Zac = some [.str [], .str [], .slice none 0 0 true] := by kernel_rfl
theorem Yon : pg.underlying Zrl = some (.slice Zbc) := by kernel_rfl
theorem Ytd : pg.cellsOf Zbc = 2 := by kernel_rfl
theorem Ytn : pg.okElem Zbc = true := by kernel_rfl
theorem Ytf : pg.bytesOf Zbc ≤ 127 := Nat.le_of_ble_eq_true (by kernel_rfl)
theorem Ypz {h : Zaa} {i j : Nat} {t t' : TypeId} {cs cs' : List Zam} {ro ro' : Bool} (hi : h[i]? = some (.cells t cs ro)) (hj : h[j]? = some (.cells t' cs' ro')) (hne : t ≠ t') : i ≠ j := by
 rintro rfl; rw [hi] at hj; injection hj with hj; injection hj with hj _ _; exact hne hj
def NNs (h : Zaa) (a1 : Pt) (n1 : Nat) (w : Wd) : Prop := ∃ xs, Row h.length h a1 (n1 * 3) (Zcf eN xs) ∧ Ycj h xs w.is ∧ ∀ x ∈ xs, x.a ≠ none
theorem NNs.same {h h' : Zaa} {a1 : Pt} {n1 : Nat} {w : Wd} (r : NNs h a1 n1 w) (s : Zbb h.length h h') : NNs h' a1 n1 w := by
 obtain ⟨xs, h1, h2, h3⟩ := r
 exact ⟨xs, h1.same' s, h2.same s, h3⟩
theorem Zne.nns {b : Nat} {h : Zaa} {a0 a1 : Pt} {n0 n1 : Nat} {xs : List EI} {w : Wd} (f : Zne b h a0 n0 a1 n1 xs w) : NNs h a1 n1 w :=
 ⟨xs, f.ins.row Ziy, ⟨f.len, fun k x i hx hi => ⟨(f.need k x i hx hi).1, (f.need k x i hx hi).2.1, (f.need k x i hx hi).2.2.row Zek⟩⟩, f.nn⟩
theorem Ymy {h : Zaa} {a : Pt} {n c : Nat} {e : Bool} {l : List Nd} (r : Row h.length h a (n * 2) (Zcf eP l)) (h0 : n ≠ 0) (hn : n ≤ 1048576) :
  Zae pg Zds [.slice a n c e] h fun v h' => ∃ q c' e', v = .slice (some (q, 0)) n c' e' ∧ n ≤ c' ∧ h.length ≤ q ∧ h'[q]? = some (.cells Zbc (Zcf eP l) false) ∧ Zbb h.length h h' := by
 have hl : l.length = n := by have := r.1; rw [Zay Zek] at this; omega
 obtain ⟨i, o, ha⟩ : ∃ i o, a = some (i, o) := by
  rcases r.2 with h1 | ⟨i, o, t, all, ro, ha, _⟩
  ·omega
  ·exact ⟨i, o, ha⟩
 subst ha
 apply Zfe.call
 refine ⟨(by intro e; cases e), ?_⟩
 simp only [Option.isNone_some, Zaz]
 generalize hh0 : h ++ [Zco.cells Zbc [] false] = h0'
 have s0 : Zbb h.length h h0' := by rw [← hh0]; exact Zas
 have o0 : h0'[h.length]? = some (.cells Zbc [] false) := by rw [← hh0]; simp
 have l0 : h0'.length = h.length + 1 := by rw [← hh0]; simp
 refine Zcw (fun h => by cases h) (fun _ => ?_)
 refine Vec.app0 (n := 0) o0 Yon Ytd Ytn Ytf (by simp) (r.same' s0).rowOf (Zwa (enc := eP) (fun _ => rfl) l) (by omega) (fun h1 hl1 hi1 hk1 => ?_)
 simp only [Zag, Nat.zero_add]
 exact ⟨_, _, _, rfl, by omega, by omega, by simpa using hi1, ⟨by omega, fun j hj => by rw [hk1 j (by omega) (by omega)]; exact s0.eq j hj⟩⟩
def CpQ (w : Wd) (n0 n1 : Nat) (h : Zaa) (v : Zam) (h' : Zaa) : Prop := ∃ q0 d0 f0 q1 f1 ys, v = .agg [.slice (some (q0, 0)) n0 d0 f0, .slice (some (q1, 0)) n1 n1 f1] ∧ n0 ≤ d0 ∧ Zbb h.length h h' ∧ h.length ≤ q0 ∧ h.length ≤ q1 ∧ q0 ≠ q1 ∧
 h'[q0]? = some (.cells Zbc (Zcf eP w.cs) false) ∧ h'[q1]? = some (.cells Zac (Zcf eN ys) false) ∧ ys.length = n1 ∧ (∀ (k : Nat) (x : EI) (i : Ins), ys[k]? = some x → w.is[k]? = some i → x.c = i.1.1 ∧ x.t = i.1.2 ∧ Zcv Zaj eP h.length h' x.a x.n i.2)
theorem Ymf {h : Zaa} {a0 a1 : Pt} {n0 c0 n1 c1 : Nat} {e0 e1 : Bool} {w : Wd} (r : Zmm h a0 n0 c0 a1 n1 c1 w) (nn : NNs h a1 n1 w) (b : WB w) (h0 : n0 ≠ 0) (h1 : n1 ≠ 0) :
  Zae pg Zpk [.agg [.slice a0 n0 c0 e0, .slice a1 n1 c1 e1]] h (CpQ w n0 n1 h) := by
 have hl0 := r.len0
 have hl1 := r.len1
 have hlc := b.lc
 have hli := b.li
 apply Zkd.call
 simp only [Zaz]
 generalize hh0 : h ++ [Zco.cells Zaf [.slice a0 n0 c0 e0, .slice a1 n1 c1 e1] false] = g0
 generalize hh1 : g0 ++ [Zco.cells Zaf [.slice none 0 0 true, .slice none 0 0 true] false] = g1
 have s0 : Zbb h.length h g0 := by rw [← hh0]; exact Zas
 have s1 : Zbb g0.length g0 g1 := by rw [← hh1]; exact Zas
 have l0 : g0.length = h.length + 1 := by rw [← hh0]; simp
 have l1 : g1.length = h.length + 2 := by rw [← hh1]; simp [l0]
 have w0 : g0[h.length]? = some (Znv a0 n0 c0 e0 a1 n1 c1 e1) := by rw [← hh0]; simp [Znv]
 have w1 := s1.get w0 (Own.lt w0)
 have z1 : g1[g0.length]? = some (.cells Zaf [.slice none 0 0 true, .slice none 0 0 true] false) := by rw [← hh1]; simp
 have S1 := s0.cat s1
 simp only [Zjq w1, Nat.zero_add, List.getElem?_cons_zero, List.getElem?_cons_succ, Zag]
 refine (Ymy (l := w.cs) (r.cls.same' S1) h0 (by omega)).mono ?_
 rintro v g2 ⟨q0, d0, f0, rfl, hd0, hq0, o2, s2⟩
 have S2 := S1.cat s2
 have w2 := s2.get w1 (Own.lt w1)
 have z2 := s2.get z1 (Own.lt z1)
 simp only [Zag]
 rw [Zgv]
 simp only [Zaw]
 generalize hh3 : g2 ++ [Zco.cells Zaf [.slice (some (q0, 0)) n0 d0 f0, .slice none 0 0 true] false] = g3
 have s3 : Zbb g2.length g2 g3 := by rw [← hh3]; exact Zas
 have l3 : g3.length = g2.length + 1 := by rw [← hh3]; simp
 have u3 : g3[g2.length]? = some (.cells Zaf [.slice (some (q0, 0)) n0 d0 f0, .slice none 0 0 true] false) := by rw [← hh3]; simp
 have S3 := S2.cat s3
 have w3 := s3.get w2 (Own.lt w2)
 have z3 := s3.get z2 (Own.lt z2)
 have o3 := s3.get o2 (Own.lt o2)
 have le2 := s2.le
 simp only [Zjq w3, List.getElem?_cons_zero, List.getElem?_cons_succ, Zag]
 have hq0l := Own.lt o2
 refine Zkd.L3ind (J := fun (g : Nat) x13 h' => x13 = (g : Int) ∧ g ≤ n1 ∧ Zbb h.length h h' ∧ g3.length ≤ h'.length ∧ h'[q0]? = some (.cells Zbc (Zcf eP w.cs) false) ∧ h'[g0.length]? = some (.cells Zaf [.slice none 0 0 true, .slice none 0 0 true] false) ∧
   ∃ (a : Pt) (cp : Nat) (f : Bool) (ys : List EI), h'[g2.length]? = some (.cells Zaf [.slice (some (q0, 0)) n0 d0 f0, .slice a g cp f] false) ∧ Vec Zac h' a g cp (Zcf eN ys) ∧ (g ≠ 0 → cp = g) ∧ ys.length = g ∧ (∀ j, a = some (j, 0) → g3.length ≤ j) ∧
    (∀ (k : Nat) (x : EI) (i : Ins), ys[k]? = some x → w.is[k]? = some i → x.c = i.1.1 ∧ x.t = i.1.2 ∧ Zcv Zaj eP g3.length h' x.a x.n i.2))
  (m := fun g => n1 - g) (hr := ?_) (g := 0) (hj := ⟨rfl, by omega, S3, Nat.le_refl _, o3, z3, none, 0, true, [], u3, Vec.mk0, by simp, rfl, by simp, by simp⟩) ..
 rintro g x13 g4 ⟨rfl, hg, S4, l4, o4, z4, a, cp, f, ys, u4, hv, hcp, hyl, hlow, hrep⟩ R hR
 unfold Zkd.L3t
 refine Zan (fun hlt => ?_) (fun hge => ?_)
 ·have r4 := r.same S4
  obtain ⟨xs, hx1, hx2, hx3⟩ := nn.same S4
  have hgn : g < n1 := by omega
  have hgl : g < w.is.length := by omega
  obtain ⟨ii, oi, hgx, ha1, hii, hr4, _⟩ := Row.el Ziy hx1 (by rw [hx2.1]; omega) hgn (by omega)
  have hI := hx2.2 g xs[g] w.is[g] (List.getElem?_eq_getElem hgx) (List.getElem?_eq_getElem hgl)
  have hne := hx3 _ (List.getElem_mem hgx)
  have hIl := hI.len
  obtain ⟨e1', e2', e3'⟩ := id hI
  generalize hX : xs[g] = X at *
  rw [eN] at hr4
  simp only [ha1, Zax, Int.toNat_natCast, hr4, Zar, Zah, Zat, Zai, Zag]
  simp only [Zaz]
  rw [← ha1, Ygf]
  refine ⟨by omega, ?_⟩
  simp only [Zaw]
  generalize hh5 : g4 ++ [Zco.cells Zac [.str X.c, .str X.t, .slice X.a X.n X.cp X.e] false] = g5
  have s5 : Zbb g4.length g4 g5 := by rw [← hh5]; exact Zas
  have l5 : g5.length = g4.length + 1 := by rw [← hh5]; simp
  have t5 : g5[g4.length]? = some (.cells Zac [.str X.c, .str X.t, .slice X.a X.n X.cp X.e] false) := by rw [← hh5]; simp
  simp only [Zaq t5, Nat.zero_add, List.getElem?_cons_zero, List.getElem?_cons_succ, Zag]
  have hbi := b.is _ (List.getElem_mem hgl)
  refine (Yjs (l := w.is[g].2) (e3'.same' s5) (fun e => absurd e hne) (by omega)).mono ?_
  rintro v g6 ⟨a6, c6, e6, rfl, v6, s6, _⟩
  have t6 := s6.get t5 (Own.lt t5)
  have l6 := s6.le
  simp only [Zag]
  rw [Zbr t6 (by simp)]
  simp only [Zaw, putRow, List.take_succ_cons, List.take_zero, List.length_cons, List.length_nil, List.drop_succ_cons, List.drop_zero, List.drop_nil, List.cons_append, List.nil_append, List.append_nil, Nat.zero_add]
  generalize hh7 : g6.set g4.length (Zco.cells Zac [.str X.c, .str X.t, .slice a6 X.n c6 e6] false) = g7
  have l7 : g7.length = g6.length := by rw [← hh7]; simp
  have t7 : g7[g4.length]? = some (.cells Zac [.str X.c, .str X.t, .slice a6 X.n c6 e6] false) := by rw [← hh7]; exact Zcq t6
  have k7 : ∀ j, j ≠ g4.length → g7[j]? = g6[j]? := fun j hj => by rw [← hh7, Zcj (fun e => hj e.symm)]
  have old7 : ∀ j, j < g4.length → g7[j]? = g4[j]? := fun j hj => by rw [k7 j (by omega), s6.eq j (by omega), s5.eq j hj]
  have u7 : g7[g2.length]? = some (.cells Zaf [.slice (some (q0, 0)) n0 d0 f0, .slice a g cp f] false) := by rw [old7 _ (Own.lt u4)]; exact u4
  simp only [Zaq u7, Zzh t7, List.getElem?_cons_zero, List.getElem?_cons_succ, Zag, Zar, Zah, Zat, Zai]
  have hv7 : Vec Zac g7 a g cp (Zcf eN ys) := hv.agree fun j hj => old7 j (by subst hj; exact hv.lt)
  refine hv7.pushN Zsz Ygv Yfk Ygt (by rw [Zay Ziy, hyl]) rfl (by omega) rfl (by omega) (fun g8 l8 i8 k8 => ?_)
  simp only [Zag]
  have hal : ∀ j, a = some (j, 0) → j < g4.length := fun j hj => by subst hj; exact hv.lt
  have u8 : g8[g2.length]? = some (.cells Zaf [.slice (some (q0, 0)) n0 d0 f0, .slice a g cp f] false) := by rw [k8 _ (Own.lt u7) fun i hi => by have := hlow i hi; omega]; exact u7
  rw [Zbr u8 (by simp)]
  simp only [Zaw, putRow, List.take_succ_cons, List.take_zero, List.length_cons, List.length_nil, List.drop_succ_cons, List.drop_zero, List.drop_nil, List.cons_append, List.nil_append, List.append_nil, Nat.zero_add]
  rw [Zbj (by omega)]
  have old9 : ∀ j, j < g4.length → j ≠ g2.length → (∀ i, a = some (i, 0) → j ≠ i) → (g8.set g2.length (Zco.cells Zaf [.slice (some (q0, 0)) n0 d0 f0, .slice (some (g7.length + 1, 0)) (g + 1) (g + 1) false] false))[j]? = g4[j]? := fun j hj h1 h2 => by
   rw [Zcj (fun e => h1 e.symm), k8 j (by omega) h2, old7 j hj]
  refine hR (g + 1) _ _ (by omega) ⟨rfl, by omega, ⟨by simp; have := S4.le; omega, fun j hj => ?_⟩, by simp; omega, ?_, ?_, _, _, _, ys ++ [⟨X.c, X.t, a6, X.n, c6, e6⟩], Zcq u8, Vec.mk1 ?_, fun _ => rfl, by simp [hyl], fun j hj => by cases hj; omega, ?_⟩
  ·rw [old9 j (by have := S4.le; omega) (by have := S2.le; omega) (fun i hi => by have := hlow i hi; have := S3.le; omega)]; exact S4.eq j hj
  ·rw [old9 q0 (Own.lt o4) (by omega) (fun i hi => by have := hlow i hi; omega)]; exact o4
  ·rw [old9 g0.length (Own.lt z4) (by omega) (fun i hi => by have := hlow i hi; omega)]; exact z4
  ·rw [Zcj (by omega), i8]; simp [eN]
  ·intro k x i hx hi
   by_cases hk : k < g
   ·rw [List.getElem?_append_left (by omega)] at hx
    obtain ⟨p1, p2, p3, p4⟩ := hrep k x i hx hi
    refine ⟨p1, p2, p3, p4.imp id fun ⟨j, ha, hbj, hc⟩ => ⟨j, ha, hbj, ?_⟩⟩
    rw [old9 j (Own.lt hc) (by omega) (fun i hi => by
     subst hi
     rcases hv with ⟨e, _⟩ | ⟨j', hj', hjj⟩
     ·cases e
     ·cases hj'; exact Ypz hc hjj (by decide))]
    exact hc
   ·have hkg : k = g := by have := (List.getElem?_eq_some_iff.1 hx).1; simp at this; omega
    subst hkg
    rw [List.getElem?_append_right (by omega)] at hx
    simp [hyl] at hx
    subst hx
    rw [List.getElem?_eq_getElem hgl] at hi
    cases hi
    refine ⟨e1', e2', ?_⟩
    have fr := v6.vec.fresh (b := g5.length) v6.len.symm v6.low
    refine ⟨fr.1, fr.2.imp id fun ⟨j, ha, hbj, hc⟩ => ⟨j, ha, by omega, ?_⟩⟩
    have hjl := Own.lt hc
    rw [Zcj (by omega), k8 j (by omega) (fun i hi => by have := hal i hi; omega), k7 j (by omega)]
    exact hc
 ·have hgn : g = n1 := by omega
  subst hgn
  apply Zkd.A3x0i
  rw [Zby u4]
  simp only [Zar, Zah, Zat, Zag]
  rw [Zbr z4 (by simp)]
  simp only [Zaw, putRow, List.take_zero, List.length_cons, List.length_nil, List.drop_succ_cons, List.drop_zero, List.drop_nil, List.cons_append, List.nil_append, List.append_nil, Nat.zero_add]
  rw [Zby (Zcq z4)]
  simp only [Zar, Zah, Zat, Zag]
  have hcpn := hcp h1
  subst hcpn
  rcases hv with ⟨_, e, _⟩ | ⟨j1, rfl, hj1⟩
  ·omega
  have hlj := hlow j1 rfl
  have k9 : ∀ j, j ≠ g0.length → (g4.set g0.length (Zco.cells Zaf [.slice (some (q0, 0)) n0 d0 f0, .slice (some (j1, 0)) cp cp f] false))[j]? = g4[j]? := fun j hj => Zcj (fun e => hj e.symm)
  refine ⟨q0, d0, f0, j1, f, ys, rfl, hd0, ⟨by simp; exact S4.le, fun j hj => by rw [k9 j (by omega)]; exact S4.eq j hj⟩, by have := S1.le; omega, by have := S3.le; omega, by omega, by rw [k9 q0 (by omega)]; exact o4, by rw [k9 j1 (by omega)]; exact hj1, hyl, fun k x i hx hi => ?_⟩
  obtain ⟨p1, p2, p3, p4⟩ := hrep k x i hx hi
  exact ⟨p1, p2, p3, p4.imp id fun ⟨j, ha, hbj, hc⟩ => ⟨j, ha, by have := S3.le; omega, by rw [k9 j (by omega)]; exact hc⟩⟩
end Go.Sim

set_option linter.unusedVariables false
set_option linter.unusedSimpArgs false
set_option maxRecDepth 20000
namespace Go.Sim
open Go Go.RowKit

def z3 : List Zam := [.str [], .str [], .slice none 0 0 true]
theorem Zzc (l : List EI) : (Zcf eN l).all Zam.leaf = true := Zwa (enc := eN) (fun _ => rfl) l
theorem Yhm {ys : List EI} {k : Nat} (hk : k < ys.length) : Zcf eN ys = Zcf eN (ys.take k) ++ (eN ys[k] ++ Zcf eN (ys.drop (k + 1))) := by
 conv => lhs; rw [← List.take_append_drop k ys, List.drop_eq_getElem_cons hk]
 simp only [Zcf, List.flatMap_append, List.flatMap_cons]
theorem Zyh {ys : List EI} {k : Nat} (hk : k < ys.length) : Zcf eN (ys.eraseIdx k) = Zcf eN (ys.take k) ++ Zcf eN (ys.drop (k + 1)) := by
 rw [List.eraseIdx_eq_take_drop_succ]; simp [Zcf]
theorem Yit {h : Zaa} {q n k : Nat} {ys : List EI} (hq : h[q]? = some (.cells Zac (Zcf eN ys) false)) (hn : ys.length = n) (hk : k < n) (hb : n ≤ 1048576) {f : Bool} :
  Zae pg Zde [.slice (some (q, 0)) n n f, .int .i64 (k : Int), .int .i64 ((k + 1 : Nat) : Int)] h fun v h' => ∃ f', v = .slice (some (q, 0)) (n - 1) n f' ∧ h' = h.set q (.cells Zac (Zcf eN (ys.eraseIdx k) ++ z3) false) := by
 have hql := Own.lt hq
 have hfl : (Zcf eN ys).length = n * 3 := by rw [Zay Ziy, hn]
 have hft : (Zcf eN (ys.take k)).length = k * 3 := by rw [Zay Ziy, List.length_take, Nat.min_eq_left (by omega)]
 have hfd : (Zcf eN (ys.drop (k + 1))).length = (n - (k + 1)) * 3 := by rw [Zay Ziy, List.length_drop, hn]
 apply Zei.call
 simp only [Zgq, Zjs, Zag]
 refine ⟨by omega, fun _ => ?_, fun h => absurd (by omega) h⟩
 refine Zfh (fun h => by omega) (fun _ => ?_)
 refine ⟨by omega, fun _ => ?_, fun h => absurd (by omega) h⟩
 have key : ∀ (xa : Pt) (m c1 : Nat) (e1 ex : Bool), rowOf h xa (m * 3) = some (Zcf eN (ys.drop (k + 1))) → m = n - (k + 1) → ∀ K : Zam → Zaa → Prop, K (.slice (some (q, 0)) (n - 1) n ex) (h.set q (.cells Zac (putRow (Zcf eN ys) (k * 3) (Zcf eN (ys.drop (k + 1)))) false)) →
   Zdd pg Zdl h (.slice (some (q, 0)) k n ex) (.slice xa m c1 e1) K := by
  intro xa m c1 e1 ex hrow hm K hK
  unfold Zdd
  simp only [Zsz, Ygv, hrow, Zar]
  refine ⟨⟨Yfk, ?_, Zzc _⟩, .inr (.inl ⟨by omega, ?_⟩)⟩
  ·have := Ygt
   have : (k + m) * (pg.bytesOf Zac + 1) ≤ (k + m) * 128 := Nat.mul_le_mul_left _ (by omega)
   omega
  ·simp only [Zpq, hq, true_and]
   refine ⟨by rw [hfd, hfl]; omega, ?_⟩
   rw [show k + m = n - 1 by omega, Nat.zero_add]; exact hK
 have fin : ∀ (ex : Bool), (fun v_15 h_16 => xSl (some v_15) fun a_17 n_18 c_19 e_20 => Zgq a_17 n_18 c_19 e_20 3 (some (.int .i64 (((n_18 : Nat) : Int)))) (some (.int .i64 (((n : Nat) : Int)))) none fun v_21 => xSl (some v_21) fun a_22 n_23 c_24 e_25 => Zvu pg Zdl h_16 (.slice a_22 n_23 c_24 e_25) fun v_26 h_27 => ∃ f', Zam.slice a_17 n_18 c_19 e_20 = .slice (some (q, 0)) (n - 1) n f' ∧ h_27 = h.set q (.cells Zac (Zcf eN (ys.eraseIdx k) ++ z3) false))
   (.slice (some (q, 0)) (n - 1) n ex) (h.set q (.cells Zac (putRow (Zcf eN ys) (k * 3) (Zcf eN (ys.drop (k + 1)))) false)) := by
  intro ex
  simp only [Zag, Zgq, Zjs]
  refine ⟨by omega, fun _ => ?_, fun h => absurd (by omega) h⟩
  unfold Zvu
  simp only [Zsz, Yss, Zar]
  refine ⟨fun h => by omega, fun _ => ?_⟩
  have hT : ∃ R : List Zam, putRow (Zcf eN ys) (k * 3) (Zcf eN (ys.drop (k + 1))) = (Zcf eN (ys.take k) ++ Zcf eN (ys.drop (k + 1))) ++ R ∧ R.length = 3 := by
   have hfs := Yhm (ys := ys) (k := k) (by omega)
   refine ⟨(Zcf eN ys).drop (k * 3 + (Zcf eN (ys.drop (k + 1))).length), ?_, by rw [List.length_drop, hfl, hfd]; omega⟩
   unfold putRow
   congr 2
   rw [hfs, ← hft, List.take_left']
   rfl
  obtain ⟨R, hR, hRl⟩ := hT
  have hTD : (Zcf eN (ys.take k) ++ Zcf eN (ys.drop (k + 1))).length = (n - 1) * 3 := by rw [List.length_append, hft, hfd]; omega
  rw [hR, show (((n : Nat) : Int) - (((n - 1 : Nat) : Int))).toNat = 1 by omega]
  have hchk : chk (([Zam.str [], .str [], .slice none 0 0 true] : List Zam).all Zam.leaf = true ∧ 0 < ([Zam.str [], .str [], .slice none 0 0 true] : List Zam).length) = fun K => K := by
   funext K; simp [chk]; rfl
  have hset : (h.set q (.cells Zac ((Zcf eN (ys.take k) ++ Zcf eN (ys.drop (k + 1))) ++ R) false))[q]? = some (.cells Zac ((Zcf eN (ys.take k) ++ Zcf eN (ys.drop (k + 1))) ++ R) false) := Zcq hq
  rw [Zbr hset (by simp [reps]; omega)]
  simp only [Zaw, List.set_set]
  have hput : putRow ((Zcf eN (ys.take k) ++ Zcf eN (ys.drop (k + 1))) ++ R) (0 + ((n - 1 : Nat) : Int).toNat * 3) (reps 1 [.str [], .str [], .slice none 0 0 true]) = Zcf eN (ys.eraseIdx k) ++ z3 := by
   unfold putRow
   rw [Int.toNat_natCast, Nat.zero_add, ← hTD, List.take_left', Zyh (by omega)]
   ·have hd : ((Zcf eN (ys.take k) ++ Zcf eN (ys.drop (k + 1))) ++ R).drop ((Zcf eN (ys.take k) ++ Zcf eN (ys.drop (k + 1))).length + (reps 1 [.str [], .str [], .slice none 0 0 true]).length) = [] := by
     apply List.drop_of_length_le
     rw [List.length_append, hRl]
     exact Nat.le_refl _
    rw [hd, List.append_nil]; rfl
   ·rfl
  rw [hput]
  exact ⟨_, rfl, rfl⟩
 have e0 : Int.toNat 0 * 3 = 0 := rfl
 have tn : ((k : Int) - 0).toNat = k := by omega
 have tc : ((n : Int) - 0).toNat = n := by omega
 rw [e0, tn, tc, Nat.add_zero]
 refine ⟨by omega, ?_, ?_⟩
 ·intro hlt
  refine key _ _ _ _ _ ?_ (by omega) _ (fin _)
  have hdr : (Zcf eN ys).drop ((k + 1) * 3) = Zcf eN (ys.drop (k + 1)) := by
   conv => lhs; rw [← List.take_append_drop (k + 1) ys]
   rw [show Zcf eN (ys.take (k + 1) ++ ys.drop (k + 1)) = Zcf eN (ys.take (k + 1)) ++ Zcf eN (ys.drop (k + 1)) by simp only [Zcf, List.flatMap_append]]
   rw [List.drop_left']
   rw [Zay Ziy, List.length_take, Nat.min_eq_left (by omega)]
  have hm : ((n : Int) - ((k + 1 : Nat) : Int)).toNat = n - (k + 1) := by omega
  have rr : Row h.length h (some (q, 0 + ((k + 1 : Nat) : Int).toNat * 3)) (((n : Int) - ((k + 1 : Nat) : Int)).toNat * 3) (Zcf eN (ys.drop (k + 1))) := by
   rw [hm, Nat.zero_add, Int.toNat_natCast]
   refine ⟨hfd, .inr ⟨q, (k + 1) * 3, _, _, _, rfl, hql, hq, by rw [hfl]; omega, ?_⟩⟩
   rw [hdr, List.take_of_length_le (by rw [hfd]; omega)]
  exact rr.rowOf
 ·intro hge
  have hkn : n - (k + 1) = 0 := by omega
  refine key _ _ _ _ _ ?_ (by omega) _ (fin _)
  rw [hkn, Nat.zero_mul] at hfd
  rw [List.eq_nil_of_length_eq_zero hfd]
  rfl
end Go.Sim
