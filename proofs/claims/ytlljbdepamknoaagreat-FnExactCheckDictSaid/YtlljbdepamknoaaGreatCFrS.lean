/- A part of the proof of a statement of this seat: see the text that holds the theorem. No condition. -/
import Derived.Test.YtlljbdepamknoaaGreatCMatch2
import Derived.Test.YtlljbdepamknoaaGreatCSApply
import Derived.Test.YtlljbdepamknoaaGreatPTCSup
import Derived.Test.YtlljbdepamknoaaGreatNm
import Derived.Test.YtlljbdepamknoaaGreatCVars
import Derived.Test.YtlljbdepamknoaaGreatPTCSApply2
set_option linter.unusedVariables false
set_option linter.unusedSimpArgs false
set_option linter.all false
set_option linter.unusedVariables false
set_option linter.unusedSimpArgs false
set_option maxRecDepth 20000
namespace Go.Sim
open Go Go.RowKit

def Yks (p : Nd) : Prop := Zrb p.1.length ∧ Zrb p.2.length ∧ (∀ b ∈ p.1, b < 256) ∧ ∀ b ∈ p.2, b < 256
theorem rd_pair {P : Program} {h : Zaa} {f : Nat} {e : TypeId} {f0 f1 : Field} {v : List Zan} {d : Dt} (he : P.underlying e = some (.struct #[f0, f1])) (h0 : P.underlying f0.type = some .string) (h1 : P.underlying f1.type = some .string) (hr : rd P h (f + 2) e v d) :
    ∃ p : Nd, v = eP p ∧ Yks p := by
  unfold rd at hr
  rw [he] at hr
  obtain ⟨ds', vs', rfl, hd1, hd2, rfl, hall'⟩ := hr
  match vs', ds', hd2, hd1 with
  | [u, w], [x, y], _, _ =>
    have g0 := (hall' 0 f0 u x rfl rfl rfl).2
    have g1 := (hall' 1 f1 w y rfl rfl rfl).2
    simp only [rd, h0] at g0
    simp only [rd, h1] at g1
    obtain ⟨s, rfl, _, hs1, hs2⟩ := g0
    obtain ⟨t, rfl, _, ht1, ht2⟩ := g1
    exact ⟨(s, t), rfl, hs1, ht1, hs2, ht2⟩
theorem Yfy {P : Program} {h : Zaa} {f : Nat} {e : TypeId} {α : Type} {enc : α → List Zan} {G : α → Prop} (el : ∀ v d, rd P h f e v d → ∃ x : α, v = enc x ∧ G x) :
    ∀ (vs : List (List Zan)) (ds : List Dt), ds.length = vs.length → (∀ (i : Nat) (v : List Zan) (x : Dt), vs[i]? = some v → ds[i]? = some x → v.length = P.cellsOf e ∧ rd P h f e v x) →
    ∃ l : List α, l.length = vs.length ∧ vs.flatten = Zfa enc l ∧ ∀ x ∈ l, G x
  | [], _, _, _ => ⟨[], rfl, rfl, by simp⟩
  | v :: vs, [], h, _ => by simp at h
  | v :: vs, d :: ds, hl, hall => by
    obtain ⟨l, hll, hfl, hs⟩ := Yfy el vs ds (by simpa using hl) fun i v x hv hx => hall (i + 1) v x (by simpa using hv) (by simpa using hx)
    obtain ⟨x, rfl, hx⟩ := el v d (hall 0 v d rfl rfl).2
    exact ⟨x :: l, by simp [hll], by simp [hfl], fun y hy => (List.mem_cons.1 hy).elim (fun e => e ▸ hx) (hs y)⟩
theorem Yhl {P : Program} {h : Zaa} {f : Nat} {t e : TypeId} {α : Type} {enc : α → List Zan} {G : α → Prop} {cs : List Zan} {d : Dt} (ht : P.underlying t = some (.slice e)) (el : ∀ v d, rd P h f e v d → ∃ x : α, v = enc x ∧ G x) (hr : rd P h (f + 1) t cs d) :
    ∃ a n c ex, ∃ l : List α, cs = [.slice a n c ex] ∧ Row h.length h a (n * P.cellsOf e) (Zfa enc l) ∧ Zrb n ∧ l.length = n ∧ ∀ x ∈ l, G x := by
  unfold rd at hr
  rw [ht] at hr
  obtain ⟨a, n, c, ex, ds, vs, rfl, rfl, hdl, hn, hvl, hrow, hall⟩ := hr
  obtain ⟨l, hll, hfl, hs⟩ := Yfy el vs ds (by omega) hall
  rw [hfl] at hrow
  exact ⟨a, n, c, ex, l, rfl, hrow, hn, by omega, hs⟩
theorem Yco {P : Program} {h : Zaa} {f : Nat} {t e : TypeId} {f0 f1 : Field} {cs : List Zan} {d : Dt} (ht : P.underlying t = some (.slice e)) (he : P.underlying e = some (.struct #[f0, f1])) (h0 : P.underlying f0.type = some .string) (h1 : P.underlying f1.type = some .string) (hc : P.cellsOf e = 2)
    (hr : rd P h (f + 3) t cs d) : ∃ a n c ex, ∃ l : List Nd, cs = [.slice a n c ex] ∧ Row h.length h a (n * 2) (Zfa eP l) ∧ Zrb n ∧ l.length = n ∧ ∀ p ∈ l, Yks p := by
  have := Yhl (enc := eP) (G := Yks) ht (fun v d hr => rd_pair he h0 h1 hr) hr
  rwa [hc] at this
def Ynv (h : Zaa) (x : EI) : Prop := ∃ i : Ins, Yma h x i ∧ Yks i.1 ∧ Zrb i.2.length ∧ ∀ p ∈ i.2, Yks p
theorem Ylt {P : Program} {h : Zaa} {f : Nat} {ti tn ts : TypeId} {g0 g1 f0 f1 : Field} {v : List Zan} {d : Dt} (hi : P.underlying ti = some (.struct #[g0, g1])) (hg0 : g0.type = tn) (hg1 : g1.type = ts)
    (he : P.underlying tn = some (.struct #[f0, f1])) (h0 : P.underlying f0.type = some .string) (h1 : P.underlying f1.type = some .string) (hc : P.cellsOf tn = 2) (ht : P.underlying ts = some (.slice tn)) (hr : rd P h (f + 4) ti v d) :
    ∃ x : EI, v = eN x ∧ Ynv h x := by
  unfold rd at hr
  rw [hi] at hr
  obtain ⟨ds', vs', rfl, hd1, hd2, rfl, hall'⟩ := hr
  match vs', ds', hd2, hd1 with
  | [u, w], [x, y], _, _ =>
    have k0 := (hall' 0 g0 u x rfl rfl rfl).2
    have k1 := (hall' 1 g1 w y rfl rfl rfl).2
    rw [hg0] at k0
    rw [hg1] at k1
    obtain ⟨p, rfl, hp⟩ := rd_pair (f := f + 1) he h0 h1 k0
    obtain ⟨a, n, c, ex, l, rfl, hrow, hn, hll, hl⟩ := Yco (f := f) ht he h0 h1 hc k1
    exact ⟨⟨p.1, p.2, a, n, c, ex⟩, rfl, (p, l), ⟨rfl, rfl, hrow⟩, hp, by rw [hll]; exact hn, hl⟩
theorem Zui {h : Zaa} : ∀ {xs : List EI}, (∀ x ∈ xs, Ynv h x) → ∃ is : List Ins, Ygu h xs is ∧ ∀ i ∈ is, Yks i.1 ∧ Zrb i.2.length ∧ ∀ p ∈ i.2, Yks p
  | [], _ => ⟨[], ⟨rfl, by simp⟩, by simp⟩
  | x :: xs, hx => by
    obtain ⟨is, ⟨hl, hr⟩, hb⟩ := Zui (xs := xs) fun y hy => hx y (by simp [hy])
    obtain ⟨i, hi, hib⟩ := hx x (by simp)
    refine ⟨i :: is, ⟨by simp [hl], fun k y j hy hj => ?_⟩, fun j hj => (List.mem_cons.1 hj).elim (fun e => e ▸ hib) (hb j)⟩
    cases k with
    | zero => simp at hy hj; subst hy; subst hj; exact hi
    | succ k => simp at hy hj; exact hr k y j hy hj
theorem rd_world {P : Program} {h : Zaa} {f : Nat} {tw tc tcs ti tis tn ts : TypeId} {w0 w1 q0 q1 g0 g1 f0 f1 : Field} {cs : List Zan} {d : Dt} (hw : P.underlying tw = some (.struct #[w0, w1])) (hw0 : w0.type = tcs) (hw1 : w1.type = tis)
    (hcs : P.underlying tcs = some (.slice tc)) (hct : P.underlying tc = some (.struct #[q0, q1])) (hq0 : P.underlying q0.type = some .string) (hq1 : P.underlying q1.type = some .string) (hcc : P.cellsOf tc = 2)
    (his : P.underlying tis = some (.slice ti)) (hic : P.cellsOf ti = 3) (hi : P.underlying ti = some (.struct #[g0, g1])) (hg0 : g0.type = tn) (hg1 : g1.type = ts)
    (he : P.underlying tn = some (.struct #[f0, f1])) (h0 : P.underlying f0.type = some .string) (h1 : P.underlying f1.type = some .string) (hc : P.cellsOf tn = 2) (ht : P.underlying ts = some (.slice tn)) (hr : rd P h (f + 6) tw cs d) :
    ∃ a0 n0 c0 e0 a1 n1 c1 e1, ∃ w : Wd, cs = [.slice a0 n0 c0 e0, .slice a1 n1 c1 e1] ∧ (n0 ≤ c0 → n1 ≤ c1 → Zpe h a0 n0 c0 a1 n1 c1 w) ∧ Yms w := by
  unfold rd at hr
  rw [hw] at hr
  obtain ⟨ds', vs', rfl, hd1, hd2, rfl, hall'⟩ := hr
  match vs', ds', hd2, hd1 with
  | [u, v], [x, y], _, _ =>
    have k0 := (hall' 0 w0 u x rfl rfl rfl).2
    have k1 := (hall' 1 w1 v y rfl rfl rfl).2
    rw [hw0] at k0
    rw [hw1] at k1
    obtain ⟨a0, n0, c0, e0, l0, rfl, hrow0, hn0, hl0, hb0⟩ := Yco (f := f + 2) hcs hct hq0 hq1 hcc k0
    obtain ⟨a1, n1, c1, e1, l1, rfl, hrow1, hn1, hl1, hb1⟩ := Yhl (f := f + 4) (enc := eN) (G := Ynv h) his (fun v d hr => Ylt hi hg0 hg1 he h0 h1 hc ht hr) k1
    rw [hic] at hrow1
    obtain ⟨is, hrep, hib⟩ := Zui hb1
    refine ⟨a0, n0, c0, e0, a1, n1, c1, e1, ⟨l0, is⟩, rfl, fun k0 k1 => ⟨hrow0, ⟨l1, hrow1, hrep⟩, k0, k1⟩, ?_⟩
    refine ⟨by rw [show (Wd.mk l0 is).cs.length = n0 from hl0]; exact hn0, ?_, fun p hp => ⟨(hb0 p hp).1, (hb0 p hp).2.1, (hb0 p hp).2.2.1⟩, fun i hi => ?_⟩
    · have : is.length = n1 := by have := hrep.1; omega
      show Zrb is.length
      rw [this]; exact hn1
    · obtain ⟨p1, p2, p3⟩ := hib i hi
      exact ⟨p1.1, p1.2.1, p2, fun p hp => ⟨(p3 p hp).1, (p3 p hp).2.1⟩⟩

end Go.Sim

set_option linter.unusedSimpArgs false
set_option linter.unusedVariables false
namespace Go.Sim

def Ykg : Ty → List Nat
  | .k c => if Zcv c then [c] else []
  | .u c a => Ykg a
  | .w c a b => Ykg a ++ Ykg b
structure Yoq (m m' : Bd) (a t : Ty) : Prop where
  keep : ∀ v u, Zge m v = some u → Zge m' v = some u
  sub : subst (Zge m') a = t
  vars : ∀ v, (Zge m' v).isSome = true ↔ ((Zge m v).isSome = true ∨ v ∈ Ykg a)
end Go.Sim

set_option linter.unusedSimpArgs false
set_option linter.unusedVariables false
namespace Go.Sim

structure Yon (f : Nat → Option Ty) : Prop where
  nv : ∀ v, Zcv v = false → f v = none
  ok : ∀ v t, f v = some t → t.ok = true
noncomputable def after (f g : Nat → Option Ty) (v : Nat) : Option Ty := if Zcv v then some (subst g ((f v).getD (.k v))) else none
end Go.Sim

set_option linter.unusedVariables false
set_option linter.unusedSimpArgs false
set_option maxRecDepth 20000
namespace Go.Sim
open Go Go.RowKit

end Go.Sim

set_option linter.unusedVariables false
set_option linter.unusedSimpArgs false
set_option maxRecDepth 20000
namespace Go.Sim
open Go Go.RowKit

end Go.Sim

set_option linter.unusedVariables false
set_option linter.unusedSimpArgs false
set_option maxRecDepth 20000
namespace Go.Sim
open Go Go.RowKit

theorem Zwo {h : Zaa} {a0 a1 : Pt} {n0 c0 n1 c1 : Nat} {e0 e1 : Bool} {w : Wd} {ct tt : List Nat} (r : Zpe h a0 n0 c0 a1 n1 c1 w) (b : WB w) :
    Zad pg Zjw [.agg [.slice a0 n0 c0 e0, .slice a1 n1 c1 e1], .agg [.str ct, .str tt]] h fun v h' => v = .bool (Zfy w && Zfz w (ct, tt)) ∧ Zbe h.length h h' := by
  apply Znm.call
  simp only [Zaz]
  generalize hh0 : h ++ [Zcj.cells Zam [.slice a0 n0 c0 e0, .slice a1 n1 c1 e1] false] = h0
  generalize hh1 : h0 ++ [Zcj.cells Zar [.str ct, .str tt] false] = h1
  have s0 : Zbe h.length h h0 := by rw [← hh0]; exact Zas
  have s1 : Zbe h0.length h0 h1 := by rw [← hh1]; exact Zas
  have w0 : h0[h.length]? = some (Zsn a0 n0 c0 e0 a1 n1 c1 e1) := by rw [← hh0]; simp [Zsn]
  have w1 := s1.get w0 (Own.lt w0)
  have i1 : h1[h0.length]? = some (.cells Zar [.str ct, .str tt] false) := by rw [← hh1]; simp
  rw [Ybw w1]
  simp only [Zau, Zaf, Zaq, Zah]
  refine (Zwu (r.same (s0.cat s1)) b).mono ?_
  rintro v h2 ⟨rfl, s2⟩
  simp only [Zai]
  have i2 := s2.get i1 (Own.lt i1)
  have w2 := s2.get w1 (Own.lt w1)
  refine Zen (fun b1 => ?_) (fun b1 => ⟨by rw [b1]; rfl, (s0.cat s1).cat s2⟩)
  rw [Ybw w2, Zdt i2 (by simp)]
  simp only [List.drop_zero, List.take_succ_cons, List.take_zero, Zau, Zaf, Zaq, Zah, Zag]
  refine (Yfm (r.same ((s0.cat s1).cat s2)) b).mono ?_
  rintro v h3 ⟨rfl, s3⟩
  simp only [Zai]
  exact ⟨by rw [b1]; rfl, ((s0.cat s1).cat s2).cat s3⟩
theorem Zej.low {α : Type} {ty : TypeId} {enc : α → List Zan} {b b' : Nat} {h : Zaa} {a : Pt} {n : Nat} {l : List α} (f : Zej ty enc b h a n l) (hb : b' ≤ b) : Zej ty enc b' h a n l :=
  ⟨f.1, f.2.imp id fun ⟨i, ha, hbi, hi⟩ => ⟨i, ha, by omega, hi⟩⟩
end Go.Sim

set_option linter.unusedVariables false
set_option linter.unusedSimpArgs false
set_option maxRecDepth 20000
namespace Go.Sim
open Go Go.RowKit

theorem Row.i64 {b : Nat} {h : Zaa} {a : Pt} {n : Nat} {l : List Int} (r : Row b h a n (Zfa eI l)) {k : Nat} (hk : k < n) : ∃ i o, ∃ hk' : k < l.length, a = some (i, o) ∧ i < b ∧ Zae h (.ptr (some (i, o + k * 1))) = some (.int .i64 l[k]) := by
  obtain ⟨i, o, hk', ha, hi, hc⟩ := Row.el1 Yno r hk
  exact ⟨i, o, hk', ha, hi, hc⟩
end Go.Sim

set_option linter.unusedSimpArgs false
set_option linter.unusedVariables false
namespace Go.Sim

theorem Ygg {l : List Nd} {t u : List Nat} (h : Zed l t = some u) : Zls u = true := by
  unfold Zed at h
  split at h
  · rename_i hc
    cases h
    simp only [Bool.and_eq_true, decide_eq_true_eq] at hc
    obtain ⟨a, ha⟩ := Zqi hc.1.2
    obtain ⟨h1, h2, h3⟩ := Zeq.1 ha
    have := Zmg hc.1.1 h1
    rw [← h2] at this
    exact Zqa.2 ⟨_, this.2, this.1, hc.2⟩
  · cases h
theorem Yeo {i : Ins} {t : List Nat} {ms : List Nd} (h : Zhw i t = some ms) : ms.length = i.2.length ∧ ∀ m ∈ ms, Zls m.2 = true ∧ ∃ n ∈ i.2, m.1 = n.1 := by
  unfold Zhw at h
  split at h
  · cases h
  · rename_i b hb
    split at h
    · rename_i hall
      cases h
      refine ⟨by simp, fun m hm => ?_⟩
      obtain ⟨n, hn, rfl⟩ := List.mem_map.1 hm
      have := List.all_eq_true.1 hall n hn
      obtain ⟨u, hu⟩ := Option.isSome_iff_exists.1 this
      have h2 := Ygg hu
      unfold Zed at hu
      split at hu
      · cases hu; exact ⟨h2, n, hn, rfl⟩
      · cases hu
    · cases h
theorem Yhc {w : Wd} (hw : Zfy w = true) {i : Ins} (hi : i ∈ w.is) {t : List Nat} {ms : List Nd} (h : Zhw i t = some ms) : ms.length ≤ 3 ∧ ∀ m ∈ ms, Zfz w m = true := by
  obtain ⟨h1, h2⟩ := Yeo h
  unfold Zfy at hw
  simp only [Bool.and_eq_true, List.all_eq_true] at hw
  have h3 := hw.2 i hi
  unfold Zky at h3
  simp only [Bool.and_eq_true, List.all_eq_true, decide_eq_true_eq] at h3
  refine ⟨by omega, fun m hm => ?_⟩
  obtain ⟨h4, n, hn, he⟩ := h2 m hm
  have h5 := h3.2 n hn
  unfold Zih at h5
  simp only [Bool.and_eq_true] at h5
  unfold Zfz
  rw [h4, he, h5.1.1.1]; rfl
end Go.Sim

set_option linter.unusedVariables false
set_option linter.unusedSimpArgs false
set_option maxRecDepth 20000
namespace Go.Sim
open Go Go.RowKit

noncomputable def Yik (l : List Nd) : Bd := l.map fun p => (p.1.headD 0, (Zhz p.2).getD default)
theorem Zwv {l : List Nd} (h : Zgk l = true) {p : Nd} (hp : p ∈ l) : ∃ v t, p.1 = [v] ∧ Zcv v = true ∧ Zhz p.2 = some t := by
  obtain ⟨h1, h2⟩ := Zom h hp
  obtain ⟨t, ht⟩ := Zqi h2
  match hq : p.1 with
  | [] => rw [hq] at h1; cases h1
  | [v] => rw [hq] at h1; exact ⟨v, t, rfl, h1, ht⟩
  | _ :: _ :: _ => rw [hq] at h1; cases h1
theorem Zzo : ∀ {l : List Nd}, (∀ p ∈ l, ∃ v t, p.1 = [v] ∧ Zcv v = true ∧ Zhz p.2 = some t) → ∀ c, Zge (Yik l) c = Znp l c
  | [], _, c => rfl
  | p :: l, h, c => by
    obtain ⟨v, t, h1, h2, h3⟩ := h p (by simp)
    have ih := Zzo (l := l) (fun q hq => h q (by simp [hq])) c
    unfold Yik Znp at ih ⊢
    simp only [List.map_cons, Zge, h1, List.headD_cons, h3, Option.getD_some, List.find?_cons]
    by_cases e : v = c
    · subst e; simp [h3]
    · have : ¬ ([v] : List Nat) = [c] := fun x => e (by simpa using x)
      simp only [e, if_false, this, decide_false]
      exact ih
theorem Yie {l : List Nd} (h : Zgk l = true) : ∀ (g : Nat) (hg : g < l.length) (k : Nat) (hk : k < g), (l[k]'(by omega)).1.headD 0 < l[g].1.headD 0
  | 0, _, k, hk => by omega
  | g + 1, hg, k, hk => by
    have h1 := (Ztg h hg).2.2
    rcases h1 with h1 | h1
    · omega
    · rw [Nat.add_sub_cancel, Zez (by omega)] at h1
      obtain ⟨v, t, hv, _⟩ := Zwv h (List.getElem_mem (h := hg))
      obtain ⟨u, t', hu, _⟩ := Zwv h (List.getElem_mem (l := l) (n := g) (h := by omega))
      rw [hv, hu, Ztk] at h1
      have h2 : u < v := of_decide_eq_true h1
      by_cases e : k = g
      · subst e; rw [hv, hu]; exact h2
      · have := Yie h g (by omega) k (by omega)
        rw [hu] at this; rw [hv]
        simp only [List.headD_cons] at this ⊢; omega
theorem Yee {l : List Nd} (h : Zgk l = true) {g v : Nat} (hg : g < l.length) (hv : l[g].1 = [v]) : Zge (Yik (l.take g)) v = none := by
  rw [Zpz]
  intro hm
  unfold Yik at hm
  rw [List.map_map] at hm
  obtain ⟨p, hp, he⟩ := List.mem_map.1 hm
  obtain ⟨k, hk, rfl⟩ := List.getElem_of_mem hp
  simp only [List.length_take] at hk
  have := Yie h g hg k (by omega)
  rw [hv] at this
  simp only [Function.comp_def, List.getElem_take, List.headD_cons] at he this
  omega
theorem Zpr.mono {S S' : Nat → Prop} {h : Zaa} {i : Nat} {m : Bd} (r : Zpr S h i m) (hs : ∀ j, S j → S' j) : Zpr S' h i m := by
  obtain ⟨rows, h1, h2, h3⟩ := r
  refine ⟨rows, h1, h2, fun k x hx => ?_⟩
  have := h3 k x hx
  split at this
  · exact this.mono hs
  · exact this
theorem Zpr.below {S : Nat → Prop} {h : Zaa} {i : Nat} {m : Bd} (r : Zpr S h i m) : Zpr (fun j => S j ∧ j < h.length) h i m := by
  obtain ⟨rows, h1, h2, h3⟩ := r
  refine ⟨rows, h1, h2, fun k x hx => ?_⟩
  have := h3 k x hx
  split at this
  · exact Zgq.below this
  · exact this
theorem Zrn {h : Zaa} {a : Pt} {n c : Nat} {e : Bool} {l : List Nd} {t : List Nat} (r : Row h.length h a (n * 2) (Zfa eP l)) (hn : n ≤ 1048576) (hb : ∀ p ∈ l, p.2.length ≤ 1048576) (hb1 : ∀ p ∈ l, ∀ x ∈ p.1, x < 256) (ht : t.length ≤ 1048576) :
    Zad pg Zgy [.slice a n c e, .str t] h fun v h' => v = Zkx l t ∧ Zbe h.length h h' := by
  have hl : l.length = n := by have := r.1; rw [Zbk Zek] at this; omega
  apply Zds.call
  refine (Znu t (by omega) h).mono ?_
  rintro v h1 ⟨s1, vs1, rfl, r1⟩
  obtain ⟨d1, a1, n1, c1, e1, rfl⟩ := Zoo r1
  simp only [Zct, Zaf, Zde, Zao, Zah, Zaq, Zai, Zaz]
  rw [Zfi]
  generalize hh2 : h1 ++ [Zcj.cells Zac [.int .u8 d1, .slice a1 n1 c1 e1] false] = h2
  have s2 : Zbe h1.length h1 h2 := by rw [← hh2]; exact Zas
  have o2 : h2[h1.length]? = some (.cells Zac [.int .u8 d1, .slice a1 n1 c1 e1] false) := by rw [← hh2]; simp
  have S2 := s1.cat s2
  simp only [Zav]
  cases hto : Zls t with
  | false =>
    simp only [Bool.not_false, Zbj]
    exact ⟨by unfold Zkx Zed; rw [hto]; simp, S2⟩
  | true =>
  simp only [Bool.not_true, Zay]
  obtain ⟨u, hu⟩ := Zqi hto
  obtain ⟨hu1, hu2, hu3⟩ := Zeq.1 hu
  rw [hu] at r1
  simp only at r1
  refine (Zrm (r.same' S2) hn hb hb1).mono ?_
  rintro v h3 ⟨rfl, s3⟩
  simp only [Zai]
  have S3 := S2.cat s3
  refine Zbv (fun b1 => ⟨by unfold Zkx Zed; rw [b1]; rfl, S3⟩) (fun b1 => ?_)
  apply Zds.J4i
  simp only [Zaz]
  rw [← Yhm]
  generalize hh4 : h3 ++ [Zcj.cells Zdx (Zfa eR (List.replicate 12 (Zan.int .u8 0, Zan.slice none 0 0 true))) false] = h4
  have s4 : Zbe h3.length h3 h4 := by rw [← hh4]; exact Zas
  have o4 : h4[h3.length]? = some (.cells Zdx (Zfa eR (List.replicate 12 (Zan.int .u8 0, Zan.slice none 0 0 true))) false) := by rw [← hh4]; simp
  have l4 : h4.length = h3.length + 1 := by rw [← hh4]; simp
  have hone : ∀ p ∈ l, ∃ v t, p.1 = [v] ∧ Zcv v = true ∧ Zhz p.2 = some t := fun p hp => Zwv b1 hp
  have o3 := s3.get o2 (Own.lt o2)
  refine Zds.L6ind _ _ _ _ _ _ _ _ _ _ (J := fun (g : Nat) x28 h' => x28 = (g : Int) ∧ g ≤ n ∧ Zbe h3.length h3 h' ∧ h4.length ≤ h'.length ∧ Zpr (fun j => j ≠ h3.length) h' h3.length (Yik (l.take g))) (fun g => n - g) ?_ 0 _ _ ⟨rfl, by omega, s4, Nat.le_refl _, Zpr.nil o4⟩
  rintro g x28 h' ⟨rfl, hg, hS, hl4, rm⟩ R hR
  have SS := S3.cat hS
  unfold Zds.L6t
  refine Zap (fun hlt => ?_) (fun hge => ?_)
  · obtain ⟨i, o, hgl, rfl, hi, hr, _, _⟩ := (r.same SS).pr (k := g) (by omega)
    obtain ⟨v, tt, hv1, hv2, hv3⟩ := hone _ (List.getElem_mem hgl)
    obtain ⟨ht1, ht2, ht3⟩ := Zeq.1 hv3
    simp only [Zax, Int.toNat_natCast, hr, Zau, Zaf, Zaq, Zag, Zaz]
    rw [Zfi]
    generalize hq : h' ++ [Zcj.cells Zbb [.str l[g].1, .str l[g].2] false] = hq'
    have sq : Zbe h'.length h' hq' := by rw [← hq]; exact Zas
    have oq : hq'[h'.length]? = some (.cells Zbb [.str l[g].1, .str l[g].2] false) := by rw [← hq]; simp
    have hlq := sq.le
    rw [hv1] at oq
    simp only [Zav, Zak oq, Nat.zero_add, List.getElem?_cons_succ, List.getElem?_cons_zero, Zag]
    refine ⟨by omega, by simp, ?_⟩
    simp only [Int.toNat_zero, List.getD_cons_zero]
    refine (Zrl v).mono ?_
    rintro v' h5 ⟨rfl, rfl⟩
    obtain ⟨k, hk6, hkv, hix⟩ := Zsw hv2
    simp only [hix, Zao, Zak oq, List.getElem?_cons_succ, List.getElem?_cons_zero, true_and]
    refine (Znu l[g].2 (by omega) h5).mono ?_
    rintro v' h6 ⟨s6, vs6, rfl, r6⟩
    obtain ⟨d6, a6, n6, c6, e6, rfl⟩ := Zoo r6
    rw [hv3] at r6
    simp only at r6
    have hl6 := s6.le
    have ho6 : Zae h6 (.ptr (some (h'.length, 0))) = Zae h5 (.ptr (some (h'.length, 0))) := by simp only [Zae, s6.eq _ (Own.lt oq)]
    simp only [Zct, Zaf, Zde, Zao, Zah, Zaq, Zai, ho6, true_and]
    have rm6 := (rm.same sq).same s6
    obtain ⟨h7, hst, hK, rm7⟩ := rm6.put (fun j hj => hj) hkv (Yee b1 hgl hv1) (r6.mono fun j hj => by have := hj.1; omega)
    rw [Int.toNat_natCast, Nat.zero_add] at *
    rw [hst]
    simp only [Zav]
    rw [Zbs (by omega)]
    have hK7 := hK.le
    refine ⟨by rw [Zak oq]; rfl, ⟨by omega, by omega⟩, hR (g + 1) _ _ (by omega) ⟨rfl, by omega, ⟨by omega, fun j hj => ?_⟩, by omega, ?_⟩⟩
    · rw [hK.eq j (by omega) (by omega), s6.eq j (by omega), sq.eq j (by omega), hS.eq j hj]
    · have : Yik (l.take (g + 1)) = Yik (l.take g) ++ [(v, tt)] := by
        unfold Yik
        rw [List.take_succ_eq_append_getElem hgl, List.map_append]
        simp [hv1, hv3]
      rw [this]; exact rm7
  · apply Zds.A6x0i
    have : g = n := by omega
    subst this
    rw [List.take_of_length_le (by omega)] at rm
    have hS3 := S3.le
    have h31 : h1.length ≤ h3.length := (s2.cat s3).le
    have o5 := hS.get o3 (Own.lt o3)
    simp only [Zdt o5 (show 0 + 2 ≤ _ by simp), List.drop_zero, List.take_succ_cons, List.take_zero, Zau, Zaf, Zaq, Zao, Zah]
    have hbm : ∀ c, Zge (Yik l) c = Znp l c := Zzo hone
    have rt := (((r1.same s2).same s3).same hS).mono (S' := fun j => j ≠ h3.length) (fun j hj => by have := hj.2; omega)
    refine (Ybv _ (Nat.le_refl _) hu1 (S := fun j => j ≠ h3.length ∧ j < h'.length) (fun j hj => ⟨hj.2, hj.1⟩) rt.below rm.below.w (fun v w hw => ?_) (fun v hv => ?_)).mono ?_
    · rw [hbm] at hw; exact ((Zra b1 v).2 w hw).1
    · rw [hbm]; exact (Zqe b1 hv).2
    rintro v h6 ⟨s6, nv, rfl, hn6⟩
    rw [show Zge (Yik l) = Znp l from funext hbm] at hn6
    obtain ⟨na, nc, ne, rfl⟩ := hn6.shape
    have hat := Zmg b1 hu1
    rw [← hu2] at hat
    have hal := Zrp b1 t
    simp only [Zde, Zaf, Zao, Zah, Zaq, Zaz]
    rw [Zfi]
    generalize hh7 : h6 ++ [Zcj.cells Zac [.int .u8 ((subst (Znp l) u).hd : Int), .slice na (subst (Znp l) u).ps.length nc ne] false] = h7
    have s7 : Zbe h6.length h6 h7 := by rw [← hh7]; exact Zas
    have o7 : h7[h6.length]? = some (.cells Zac [.int .u8 ((subst (Znp l) u).hd : Int), .slice na (subst (Znp l) u).ps.length nc ne] false) := by rw [← hh7]; simp
    have S7 := (SS.cat s6).cat s7
    simp only [Zav, Zdt o7 (show 0 + 2 ≤ _ by simp), List.drop_zero, List.take_succ_cons, List.take_zero, Zau, Zaf, Zaq, Zao, Zah]
    refine (Zpl _ (Nat.le_refl _) (by rw [← hat.1]; omega) (hn6.same s7)).mono ?_
    rintro v h8 ⟨rfl, s8⟩
    have o8 := s8.get o7 (Own.lt o7)
    simp only [Zao]
    rw [← hat.1]
    refine Zap (fun hbig => ⟨by unfold Zkx Zed; rw [if_neg (by simp; omega)], S7.cat s8⟩) (fun hsm => ?_)
    simp only [Zdt o8 (show 0 + 2 ≤ _ by simp), List.drop_zero, List.take_succ_cons, List.take_zero, Zau, Zaf, Zaq, Zao, Zah]
    refine (Znn _ (Nat.le_refl _) (by rw [← hat.1]; omega) hat.2 ((hn6.same s7).same s8)).mono ?_
    rintro v h9 ⟨rfl, s9⟩
    simp only [Zag]
    refine ⟨?_, (S7.cat s8).cat s9⟩
    unfold Zkx Zed
    rw [if_pos (by rw [b1, hto]; simp; omega), hat.1]
theorem Zwq (p s : List Nat) : (∀ q ∈ Zik p s, q.2.length ≤ 1048576) ∧ (∀ q ∈ Zik p s, ∀ x ∈ q.1, x < 256) ∧ (Zik p s).length ≤ 6 := by
  unfold Zik
  cases hm : Zio p s with
  | none => simp
  | some m =>
    have b := Zum hm
    refine ⟨fun q hq => ?_, fun q hq x hx => ?_, Yfx m⟩
    · have hq' := Zom (Yei b) hq
      have := Zwg hq'.2; omega
    · simp only [Ybl, List.mem_map, List.mem_filter] at hq
      obtain ⟨v, ⟨hv, _⟩, rfl⟩ := hq
      simp at hx; subst hx
      have := (Zns x).1 hv
      simp only [Zcv, Bool.or_eq_true, beq_iff_eq] at this; omega
theorem Ygk {h : Zaa} {a : Pt} {n c : Nat} {e : Bool} {i : Ins} {t : List Nat} (r : Row h.length h a (n * 2) (Zfa eP i.2)) (hn : n ≤ 1048576) (hi : i.1.2.length ≤ 1048576) (ht : t.length ≤ 1048576) (hns : ∀ p ∈ i.2, p.2.length ≤ 1048576) :
    Zad pg Zlj [.agg [.str i.1.1, .str i.1.2, .slice a n c e], .str t] h (Yfr i t h) := by
  have hl : i.2.length = n := by have := r.1; rw [Zbk Zek] at this; omega
  apply Zhk.call
  simp only [Zaz]
  generalize hh0 : h ++ [Zcj.cells Zal [.str i.1.1, .str i.1.2, .slice a n c e] false] = h0
  generalize hh1 : h0 ++ [Zcj.cells Zar [] false] = h1
  have s0 : Zbe h.length h h0 := by rw [← hh0]; exact Zas
  have s1 : Zbe h0.length h0 h1 := by rw [← hh1]; exact Zas
  have o0 : h0[h.length]? = some (.cells Zal [.str i.1.1, .str i.1.2, .slice a n c e] false) := by rw [← hh0]; simp
  have x1 := s1.get o0 (Own.lt o0)
  have o1 : h1[h0.length]? = some (.cells Zar [] false) := by rw [← hh1]; simp
  have l0 : h0.length = h.length + 1 := by rw [← hh0]; simp
  simp only [Zak x1, Nat.zero_add, List.getElem?_cons_succ, List.getElem?_cons_zero, Zag]
  refine (Zqs i.1.2 t hi ht h1).mono ?_
  rintro v h2 ⟨s2, ma, mn, mc, me, rfl, hmc, fm⟩
  simp only [Zct, Zaf, Zah, Zai, Zaq]
  have S2 := (s0.cat s1).cat s2
  have o2 := s2.get o1 (Own.lt o1)
  have x2 := s2.get x1 (Own.lt x1)
  obtain ⟨hmb1, hmb2, hml⟩ := Zwq i.1.2 t
  have hmn := fm.1
  have hS1le : h.length ≤ h1.length := (s0.cat s1).le
  have hnw0 : Zoe i.1.2 t = false → Zhw i t = none := fun hno => by
    unfold Zhw Zoe at *
    cases hm : Zio i.1.2 t with
    | none => rfl
    | some m => rw [hm] at hno; cases hno
  refine Zbv (fun b1 => ⟨S2, _, 0, 0, true, by rw [hnw0 b1]; rfl, by rw [hnw0 b1]; exact ⟨rfl, .inl rfl⟩⟩) (fun b1 => ?_)
  simp only [Zak x2, List.getElem?_cons_succ, List.getElem?_cons_zero, Zah]
  have hnw : Zhw i t = if i.2.all (fun p => (Zed (Zik i.1.2 t) p.2).isSome) then some (i.2.map (Ykp (Zik i.1.2 t))) else none := by
    unfold Zhw Zoe at *
    cases hm : Zio i.1.2 t with
    | none => rw [hm] at b1; cases b1
    | some m =>
      have hml' : Zik i.1.2 t = bdL m := by unfold Zik; rw [hm]
      simp only [hml']
      by_cases hall : i.2.all (fun p => (Zed (bdL m) p.2).isSome) = true
      · rw [if_pos hall, if_pos hall, Ycj hall]
      · rw [if_neg hall, if_neg hall]
  generalize Zik i.1.2 t = ml at *
  refine Zhk.L6ind _ _ _ _ _ _ _ _ _ _ (J := fun (g : Nat) a8 n8 c8 e8 x28 h' => x28 = (g : Int) ∧ g ≤ n ∧ Zbe h.length h h' ∧ h2.length ≤ h'.length ∧ Row h'.length h' ma (mn * 2) (Zfa eP ml) ∧ (i.2.take g).all (fun p => (Zed ml p.2).isSome) = true ∧ n8 = g ∧ Vec Zar h' a8 n8 c8 (Zfa eP ((i.2.take g).map (Ykp ml))) ∧ (∀ j, a8 = some (j, 0) → j = h0.length ∨ h2.length ≤ j)) (fun g => n - g) ?_ 0 _ _ _ _ _ _
    ⟨rfl, by omega, S2, Nat.le_refl _, fm.row Zek, rfl, rfl, Vec.mk1 (by simpa using o2), fun j hj => by cases hj; exact .inl rfl⟩
  rintro g a8 n8 c8 e8 x28 h' ⟨rfl, hg, hS, hl1, hrm, hall, rfl, hv, ha⟩ R hR
  unfold Zhk.L6t
  have hl2 : h1.length ≤ h2.length := s2.le
  refine Zap (fun hlt => ?_) (fun hge => ?_)
  · obtain ⟨j, o, hgl, rfl, hj, hr, _, _⟩ := (r.same hS).pr (k := n8) (by omega)
    simp only [Zax, Int.toNat_natCast, hr, Zau, Zaf, Zaq, Zag, Zaz]
    rw [Zfi]
    generalize hq : h' ++ [Zcj.cells Zar [.str i.2[n8].1, .str i.2[n8].2] false] = hq'
    have sq : Zbe h'.length h' hq' := by rw [← hq]; exact Zas
    have oq : hq'[h'.length]? = some (.cells Zar [.str i.2[n8].1, .str i.2[n8].2] false) := by rw [← hq]; simp
    simp only [Zav, Zak oq, Nat.zero_add, List.getElem?_cons_succ, List.getElem?_cons_zero, Zag]
    refine ⟨by omega, (Zrn (hrm.same' sq) (by omega) hmb1 hmb2 (hns _ (List.getElem_mem hgl))).mono ?_⟩
    rintro v h3 ⟨rfl, s3⟩
    have hshape : Zkx ml i.2[n8].2 = .tup [.str ((Zed ml i.2[n8].2).getD []), .bool (Zed ml i.2[n8].2).isSome] := by
      unfold Zkx; cases Zed ml i.2[n8].2 <;> rfl
    rw [hshape]
    simp only [Zct, Zaf, Zag, Zai, Zaq]
    have S3 := (hS.cat sq).cat s3
    have o3 := s3.get oq (Own.lt oq)
    refine Zbv (fun b2 => ?_) (fun b2 => ?_)
    · have : Zhw i t = none := by rw [hnw, Zpk hgl b2]; rfl
      exact ⟨S3.cat Zas, _, 0, 0, true, by rw [this]; rfl, by rw [this]; exact ⟨rfl, .inl rfl⟩⟩
    · simp only [Zak o3, List.getElem?_cons_zero, Zag]
      refine ((hv.same sq).same s3).pushN Zxe Yff Ygz Ygf (by rw [Zbk Zek]; simp; omega) rfl (by omega) rfl (by omega) (fun h6 hl6 hi6 hk6 => ?_)
      simp only [Zah]
      rw [Zbs (by omega)]
      have hle := S3.le
      have hlq := sq.le
      have hl3 := s3.le
      have hb8 : ∀ j, a8 = some (j, 0) → h.length ≤ j := fun j hj => by rcases ha j hj with hh | hh <;> omega
      have hlast : ∀ j, (some (h3.length + 1, 0) : Pt) = some (j, 0) → j = h0.length ∨ h2.length ≤ j := fun j hj => by
        cases hj
        exact .inr (by omega)
      refine hR (n8 + 1) _ _ _ _ _ _ (by omega) ⟨rfl, by omega, ⟨by omega, fun j hj => ?_⟩, by omega, ?_, Zfq hgl hall b2, rfl, Vec.mk1 ?_, hlast⟩
      · rw [hk6 j (by omega) fun q hq => by have := hb8 q hq; omega]; exact S3.eq j hj
      · have hr3 := (hrm.same' sq).same' s3
        obtain ⟨hx1, hx2⟩ := hr3
        rcases fm.2 with h0' | ⟨q2, hq2, hqb2, hq3⟩
        · exact ⟨hx1, .inl (by omega)⟩
        · refine ⟨hx1, hx2.imp id ?_⟩
          rintro ⟨q, o', ty, all, ro, hqa, hqb, hqg, hq4, hq5⟩
          refine ⟨q, o', ty, all, ro, hqa, by omega, ?_, hq4, hq5⟩
          rw [hk6 q hqb fun q' hq' => ?_]
          · exact hqg
          · intro e
            subst e
            rw [hqa] at hq2; cases hq2
            have := Own.lt hq3
            rcases ha _ hq' with hh | hh
            · have := Own.lt o1; omega
            · omega
      · rw [hi6, List.take_succ_eq_append_getElem hgl, List.map_append, Zks]; rfl
  · apply Zhk.A6x0i
    have : n8 = n := by omega
    subst this
    rw [show i.2.take n8 = i.2 from List.take_of_length_le (by omega)] at hv hall
    have : Zhw i t = some (i.2.map (Ykp ml)) := by rw [hnw, hall]; rfl
    refine ⟨hS, a8, n8, c8, e8, by rw [this]; rfl, ?_⟩
    rw [this]
    exact hv.fresh (b := h.length) (by simp; omega) fun j hj => by rcases ha j hj with hh | hh <;> omega
end Go.Sim

set_option linter.unusedSimpArgs false
set_option linter.unusedVariables false
namespace Go.Sim

structure Wk where
  cand : Nd → List Int
  needs : Int → List Nat → Option (List Nd)
  most : List Int → Int
inductive Fnd where
  | ok (s : List Nat)
  | no (why : List Nat) (n : Nd)
def Zqw (i : Nat) : Nat := if i = 0 then 40 else 44
def Ynu : List Nat := [98, 105, 103]
def Ycg : List Nat := [119, 114, 111, 110, 103]
end Go.Sim

set_option linter.unusedSimpArgs false
set_option linter.unusedVariables false
namespace Go.Sim

inductive Dc where
  | d0 (i : Nat)
  | d1 (i : Nat) (a : Dc)
  | d2 (i : Nat) (a b : Dc)
  | d3 (i : Nat) (a b c : Dc)
  deriving DecidableEq, Inhabited
namespace Dc
def ix : Dc → Nat | d0 i => i | d1 i _ => i | d2 i _ _ => i | d3 i _ _ _ => i
def ps : Dc → List Dc | d0 _ => [] | d1 _ a => [a] | d2 _ a b => [a, b] | d3 _ a b c => [a, b, c]
def txt : Dc → List Nat
  | d0 i => [48 + i]
  | d1 i a => (48 + i) :: 40 :: (a.txt ++ [41])
  | d2 i a b => (48 + i) :: 40 :: (a.txt ++ 44 :: (b.txt ++ [41]))
  | d3 i a b c => (48 + i) :: 40 :: (a.txt ++ 44 :: (b.txt ++ 44 :: (c.txt ++ [41])))
def ok : Dc → Bool
  | d0 i => decide (i ≤ 9)
  | d1 i a => decide (i ≤ 9) && a.ok
  | d2 i a b => decide (i ≤ 9) && a.ok && b.ok
  | d3 i a b c => decide (i ≤ 9) && a.ok && b.ok && c.ok
def size : Dc → Nat | d0 _ => 1 | d1 _ a => a.size + 1 | d2 _ a b => a.size + b.size + 1 | d3 _ a b c => a.size + b.size + c.size + 1
end Dc
def N40 (y : List Nat) : Prop := ∀ r, y ≠ 40 :: r
theorem N40.nil : N40 [] := fun _ h => by cases h
theorem N40.of {c : Nat} {r : List Nat} (h : c ≠ 40) : N40 (c :: r) := fun _ e => by cases e; exact h rfl
namespace Dc
theorem txt_inj : ∀ {a b : Dc} {y z : List Nat}, a.txt ++ y = b.txt ++ z → N40 y → N40 z → a = b ∧ y = z := by
  intro a
  induction a with
  | d0 i =>
    intro b y z h hy hz
    cases b with
    | d0 j => simp [txt] at h; exact ⟨by rw [show i = j by omega], h.2⟩
    | d1 j a => simp [txt] at h; exact absurd h.2 (hy _)
    | d2 j a b => simp [txt] at h; exact absurd h.2 (hy _)
    | d3 j a b c => simp [txt] at h; exact absurd h.2 (hy _)
  | d1 i a iha =>
    intro b y z h hy hz
    cases b with
    | d0 j => simp [txt] at h; exact absurd h.2.symm (hz _)
    | d1 j a' =>
      simp only [txt, List.cons_append, List.append_assoc, List.cons.injEq, true_and, List.nil_append] at h
      obtain ⟨h0, h⟩ := h
      obtain ⟨rfl, h1⟩ := iha h (N40.of (by decide)) (N40.of (by decide))
      simp at h1; exact ⟨by rw [show i = j by omega], h1⟩
    | d2 j a' b' =>
      simp only [txt, List.cons_append, List.append_assoc, List.cons.injEq, true_and, List.nil_append] at h
      obtain ⟨rfl, h1⟩ := iha h.2 (N40.of (by decide)) (N40.of (by decide))
      simp at h1
    | d3 j a' b' c' =>
      simp only [txt, List.cons_append, List.append_assoc, List.cons.injEq, true_and, List.nil_append] at h
      obtain ⟨rfl, h1⟩ := iha h.2 (N40.of (by decide)) (N40.of (by decide))
      simp at h1
  | d2 i a b iha ihb =>
    intro e y z h hy hz
    cases e with
    | d0 j => simp [txt] at h; exact absurd h.2.symm (hz _)
    | d1 j a' =>
      simp only [txt, List.cons_append, List.append_assoc, List.cons.injEq, true_and, List.nil_append] at h
      obtain ⟨rfl, h1⟩ := iha h.2 (N40.of (by decide)) (N40.of (by decide))
      simp at h1
    | d2 j a' b' =>
      simp only [txt, List.cons_append, List.append_assoc, List.cons.injEq, true_and, List.nil_append] at h
      obtain ⟨h0, h⟩ := h
      obtain ⟨rfl, h1⟩ := iha h (N40.of (by decide)) (N40.of (by decide))
      simp only [List.cons.injEq, true_and] at h1
      obtain ⟨rfl, h2⟩ := ihb h1 (N40.of (by decide)) (N40.of (by decide))
      simp at h2; exact ⟨by rw [show i = j by omega], h2⟩
    | d3 j a' b' c' =>
      simp only [txt, List.cons_append, List.append_assoc, List.cons.injEq, true_and, List.nil_append] at h
      obtain ⟨rfl, h1⟩ := iha h.2 (N40.of (by decide)) (N40.of (by decide))
      simp only [List.cons.injEq, true_and] at h1
      obtain ⟨rfl, h2⟩ := ihb h1 (N40.of (by decide)) (N40.of (by decide))
      simp at h2
  | d3 i a b c iha ihb ihc =>
    intro e y z h hy hz
    cases e with
    | d0 j => simp [txt] at h; exact absurd h.2.symm (hz _)
    | d1 j a' =>
      simp only [txt, List.cons_append, List.append_assoc, List.cons.injEq, true_and, List.nil_append] at h
      obtain ⟨rfl, h1⟩ := iha h.2 (N40.of (by decide)) (N40.of (by decide))
      simp at h1
    | d2 j a' b' =>
      simp only [txt, List.cons_append, List.append_assoc, List.cons.injEq, true_and, List.nil_append] at h
      obtain ⟨rfl, h1⟩ := iha h.2 (N40.of (by decide)) (N40.of (by decide))
      simp only [List.cons.injEq, true_and] at h1
      obtain ⟨rfl, h2⟩ := ihb h1 (N40.of (by decide)) (N40.of (by decide))
      simp at h2
    | d3 j a' b' c' =>
      simp only [txt, List.cons_append, List.append_assoc, List.cons.injEq, true_and, List.nil_append] at h
      obtain ⟨h0, h⟩ := h
      obtain ⟨rfl, h1⟩ := iha h (N40.of (by decide)) (N40.of (by decide))
      simp only [List.cons.injEq, true_and] at h1
      obtain ⟨rfl, h2⟩ := ihb h1 (N40.of (by decide)) (N40.of (by decide))
      simp only [List.cons.injEq, true_and] at h2
      obtain ⟨rfl, h3⟩ := ihc h2 (N40.of (by decide)) (N40.of (by decide))
      simp at h3; exact ⟨by rw [show i = j by omega], h3⟩
theorem ok_ix {d : Dc} (h : d.ok = true) : d.ix ≤ 9 := by cases d <;> simp_all [ok, ix]
theorem ok_ps {d : Dc} (h : d.ok = true) : ∀ p ∈ d.ps, p.ok = true := by cases d <;> simp_all [ok, ps]
theorem ps_len (d : Dc) : d.ps.length ≤ 3 := by cases d <;> simp [ps]
theorem txt_cons (d : Dc) : ∃ r, d.txt = (48 + d.ix) :: r := by cases d <;> simp [txt, ix]
end Dc
theorem Dc.ext' {d d' : Dc} (h : d.ix = d'.ix) (h' : d.ps = d'.ps) : d = d' := by
  cases d <;> cases d' <;> simp only [Dc.ix, Dc.ps, List.cons.injEq, reduceCtorEq, and_false, and_true] at h h' <;> first | (exact h'.elim) | skip
  · rw [h]
  · rw [h, h']
  · rw [h, h'.1, h'.2]
  · rw [h, h'.1, h'.2.1, h'.2.2]
def Zpj : List Dc → List Nat | [] => [] | a :: l => 44 :: (a.txt ++ Zpj l)
def Zje : List Dc → List Nat | [] => [] | a :: l => 40 :: (a.txt ++ Zpj l)
theorem Yfz (l : List Dc) (a : Dc) : Zpj (l ++ [a]) = Zpj l ++ 44 :: a.txt := by
  induction l with
  | nil => simp [Zpj]
  | cons b l ih => simp [Zpj, ih]
theorem Zvn (l : List Dc) (a : Dc) : Zje (l ++ [a]) = Zje l ++ Zqw l.length :: a.txt := by
  cases l with
  | nil => simp [Zje, Zpj, Zqw]
  | cons b l => simp [Zje, Yfz, Zqw]
theorem Dc.txt_of (d : Dc) (r : List Nat) : d.txt ++ r = (48 + d.ix) :: (Zje d.ps ++ (if d.ps = [] then r else 41 :: r)) := by
  cases d <;> simp [Dc.txt, Dc.ix, Dc.ps, Zje, Zpj]
theorem Zjk {l : List Dc} {y : List Nat} (hy : N40 y) : N40 (Zpj l ++ y) := by
  cases l with
  | nil => simpa [Zpj] using hy
  | cons a l => exact N40.of (by decide)
theorem Zso : ∀ {l m : List Dc} {x r : List Nat}, N40 x → Zpj l ++ x = Zpj m ++ 41 :: r →
    l.length ≤ m.length ∧ l = m.take l.length ∧ (l.length = m.length → x = 41 :: r) ∧ (l.length < m.length → ∃ p s' r', p ∈ m ∧ x = 44 :: s' ∧ s' = p.txt ++ r' ∧ N40 r')
  | [], [], x, r, hx, h => by simp [Zpj] at h; simp [h]
  | [], b :: m, x, r, hx, h => by
    simp [Zpj] at h
    refine ⟨by simp, by simp, fun e => by simp at e, fun _ => ⟨b, _, _, by simp, h, rfl, Zjk (N40.of (by decide))⟩⟩
  | a :: l, [], x, r, hx, h => by simp [Zpj] at h
  | a :: l, b :: m, x, r, hx, h => by
    simp only [Zpj, List.cons_append, List.cons.injEq, true_and, List.append_assoc] at h
    obtain ⟨rfl, h9⟩ := Dc.txt_inj h (Zjk hx) (Zjk (N40.of (by decide)))
    obtain ⟨h1, h2, h3, h4⟩ := Zso hx h9
    refine ⟨by simp; omega, by simp; exact h2, fun e => h3 (by simpa using e), fun e => ?_⟩
    obtain ⟨p, s', r', hp, h5⟩ := h4 (by simpa using e)
    exact ⟨p, s', r', by simp [hp], h5⟩
def Zda (s : List Nat) (d : Dc) (r : List Nat) : Prop := d.ok = true ∧ s = d.txt ++ r ∧ (d.ps = [] → N40 r)
theorem Zda.nil {d : Dc} {r : List Nat} : ¬ Zda [] d r := by
  rintro ⟨_, h, _⟩; obtain ⟨x, hx⟩ := d.txt_cons; rw [hx] at h; simp at h
theorem Zda.dig {c : Nat} {s : List Nat} {d : Dc} {r : List Nat} (h : Zda (c :: s) d r) : c = 48 + d.ix ∧ d.ix ≤ 9 := by
  obtain ⟨h1, h2, _⟩ := h
  obtain ⟨x, hx⟩ := d.txt_cons; rw [hx] at h2; simp at h2; exact ⟨h2.1, Dc.ok_ix h1⟩
theorem Zda.leaf {c : Nat} {s : List Nat} (hc : 48 ≤ c ∧ c ≤ 57) (hs : N40 s) : Zda (c :: s) (.d0 (c - 48)) s :=
  ⟨by simp [Dc.ok]; omega, by simp [Dc.txt]; omega, fun _ => hs⟩
theorem Zda.step {c : Nat} {l : List Dc} {x r : List Nat} {d : Dc} (hl : l ≠ []) (hx : N40 x) (h : Zda (c :: (Zje l ++ x)) d r) :
    l.length ≤ d.ps.length ∧ l = d.ps.take l.length ∧ (l.length = d.ps.length → x = 41 :: r) ∧ (l.length < d.ps.length → ∃ p s' r', x = 44 :: s' ∧ Zda s' p r') := by
  obtain ⟨h1, h2, h3⟩ := h
  rw [Dc.txt_of] at h2
  simp only [List.cons.injEq] at h2
  obtain ⟨_, h2⟩ := h2
  have hok := Dc.ok_ps h1
  cases l with
  | nil => exact absurd rfl hl
  | cons a l =>
  generalize hps : d.ps = m at *
  cases m with
  | nil => simp [Zje] at h2; exact absurd h2.symm (h3 rfl _)
  | cons b m =>
    simp only [Zje, List.cons_append, List.cons.injEq, true_and, List.append_assoc, reduceCtorEq, if_false] at h2
    obtain ⟨rfl, h9⟩ := Dc.txt_inj h2 (Zjk hx) (Zjk (N40.of (by decide)))
    obtain ⟨h1', h2', h3', h4'⟩ := Zso hx h9
    refine ⟨by simp; omega, by simp; exact h2', fun e => h3' (by simpa using e), fun e => ?_⟩
    obtain ⟨p, s', r', hp, h5, h6, h7⟩ := h4' (by simpa using e)
    exact ⟨p, s', r', h5, hok p (by simp [hp]), h6, fun _ => h7⟩
theorem Zda.first {c : Nat} {s r : List Nat} {d : Dc} (h : Zda (c :: 40 :: s) d r) : ∃ p r', Zda s p r' := by
  obtain ⟨h1, h2, h3⟩ := h
  rw [Dc.txt_of] at h2
  simp only [List.cons.injEq] at h2
  obtain ⟨_, h2⟩ := h2
  have hok := Dc.ok_ps h1
  generalize hps : d.ps = m at *
  cases m with
  | nil => simp [Zje] at h2; exact absurd h2.symm (h3 rfl _)
  | cons b m =>
    simp only [Zje, List.cons_append, List.cons.injEq, true_and, List.append_assoc, reduceCtorEq, if_false] at h2
    exact ⟨b, _, hok b (by simp), h2, fun _ => Zjk (N40.of (by decide))⟩
theorem Yoe {i : Nat} {l : List Dc} (hi : i ≤ 9) (hok : ∀ p ∈ l, p.ok = true) (hl : l.length ≤ 3) : ∃ d : Dc, d.ok = true ∧ d.ix = i ∧ d.ps = l := by
  match l, hl, hok with
  | [], _, _ => exact ⟨.d0 i, by simp [Dc.ok, hi], rfl, rfl⟩
  | [a], _, hok => exact ⟨.d1 i a, by simp [Dc.ok, hi, hok a (by simp)], rfl, rfl⟩
  | [a, b], _, hok => exact ⟨.d2 i a b, by simp [Dc.ok, hi, hok a (by simp), hok b (by simp)], rfl, rfl⟩
  | [a, b, c], _, hok => exact ⟨.d3 i a b c, by simp [Dc.ok, hi, hok a (by simp), hok b (by simp), hok c (by simp)], rfl, rfl⟩
  | _ :: _ :: _ :: _ :: l, hl, _ => simp at hl
theorem Zda.make {c : Nat} {l : List Dc} {r : List Nat} (hc : 48 ≤ c ∧ c ≤ 57) (hok : ∀ p ∈ l, p.ok = true) (hl : l.length ≤ 3) (hne : l ≠ []) : ∃ d : Dc, d.ix = c - 48 ∧ d.ps = l ∧ Zda (c :: (Zje l ++ 41 :: r)) d r := by
  obtain ⟨d, h1, h2, h3⟩ := Yoe (i := c - 48) (by omega) hok hl
  refine ⟨d, h2, h3, h1, ?_, fun e => absurd (h3.symm.trans e) hne⟩
  rw [Dc.txt_of, h2, h3, if_neg hne]
  congr 1; omega
open Classical in
noncomputable def Yai (s : List Nat) : Option Dc := if h : ∃ d : Dc, s.length ≤ 1200 ∧ Zda s d [] then some h.choose else none
theorem Zzr {s : List Nat} {d : Dc} (hl : s.length ≤ 1200) (h : Zda s d []) : Yai s = some d := by
  unfold Yai
  have hx : ∃ d : Dc, s.length ≤ 1200 ∧ Zda s d [] := ⟨d, hl, h⟩
  rw [dif_pos hx]
  have h2 := hx.choose_spec.2
  have := Dc.txt_inj (h2.2.1.symm.trans h.2.1) N40.nil N40.nil
  rw [this.1]
theorem Zme {s : List Nat} (h : s.length ≤ 1200 → ∀ d, ¬ Zda s d []) : Yai s = none := by
  unfold Yai
  rw [dif_neg]
  rintro ⟨d, h1, h2⟩
  exact h h1 d h2
theorem Zda.unique {s : List Nat} {d d' : Dc} {r r' : List Nat} (h : Zda s d r) (h' : Zda s d' r') : d = d' ∧ r = r' := by
  have e := h.2.1.symm.trans h'.2.1
  obtain ⟨x, hx⟩ := d.txt_cons; obtain ⟨x', hx'⟩ := d'.txt_cons
  by_cases h0 : d.ps = []
  · by_cases h1 : d'.ps = []
    · exact Dc.txt_inj e (h.2.2 h0) (h'.2.2 h1)
    · exfalso
      rw [Dc.txt_of, Dc.txt_of, h0, if_neg h1] at e
      generalize d'.ps = m at *
      cases m with
      | nil => exact h1 rfl
      | cons b m => simp [Zje] at e; exact h.2.2 h0 _ e.2
  · by_cases h1 : d'.ps = []
    · exfalso
      rw [Dc.txt_of, Dc.txt_of, h1, if_neg h0] at e
      generalize d.ps = m at *
      cases m with
      | nil => exact h0 rfl
      | cons b m => simp [Zje] at e; exact h'.2.2 h1 _ e.2.symm
    · have hd : ∀ (d : Dc), d.ps ≠ [] → ∃ y, d.txt = (48 + d.ix) :: y ∧ ∀ r, ∃ z, d.txt ++ r = (48 + d.ix) :: z := fun d _ => by obtain ⟨y, hy⟩ := d.txt_cons; exact ⟨y, hy, fun r => ⟨y ++ r, by rw [hy]; rfl⟩⟩
      rw [Dc.txt_of, Dc.txt_of, if_neg h0, if_neg h1] at e
      simp only [List.cons.injEq] at e
      have hk := h.2.1; have hk' := h'.2.1
      generalize hm : d.ps = m at *
      generalize hm' : d'.ps = m' at *
      cases m with
      | nil => exact absurd rfl h0
      | cons a m =>
      cases m' with
      | nil => exact absurd rfl h1
      | cons b m' =>
        simp only [Zje, List.cons_append, List.cons.injEq, true_and, List.append_assoc] at e
        obtain ⟨rfl, h5⟩ := Dc.txt_inj e.2 (Zjk (N40.of (by decide))) (Zjk (N40.of (by decide)))
        obtain ⟨h6, h7, h8, _⟩ := Zso (N40.of (by decide)) h5
        obtain ⟨h9, h10, _⟩ := Zso (N40.of (by decide)) h5.symm
        have hl : m.length = m'.length := by omega
        have h11 := h8 hl
        simp at h11
        rw [hl, List.take_length] at h7
        subst h7
        refine ⟨?_, h11⟩
        have hix : d.ix = d'.ix := by omega
        exact Dc.ext' hix (hm.trans hm'.symm)
def Zxn : List Nat := [111, 107]
def Ymo : List Nat := [105, 110, 115, 116, 97, 110, 99, 101]
def Ykv : List Nat := [99, 108, 97, 115, 115]
def Ymr : List Nat := [102, 111, 114, 109]
def Yku : List Nat := [112, 97, 114, 116, 115]
def Zhp : List (List Nat) → List Nat | [] => Zxn | x :: l => if x = Zxn then Zhp l else x
noncomputable def Zun (w : Wd) (i : Nat) (n : Nd) (m : Nat) : List Nat × List Nd :=
  if i < w.is.length then
    (if (w.is.getD i (([], []), [])).1.1 = n.1 then
      (if Zoe (w.is.getD i (([], []), [])).1.2 n.2 = true then
        (match Zhw (w.is.getD i (([], []), [])) n.2 with
         | none => (Ynu, [])
         | some ms => if ms.length = m then (Zxn, ms) else (Yku, []))
       else (Ymr, []))
     else (Ykv, []))
  else (Ymo, [])
noncomputable def Zpq (w : Wd) : Dc → Nd → List Nat
  | .d0 i, n => (Zun w i n 0).1
  | .d1 i a, n => if (Zun w i n 1).1 = Zxn then Zhp [Zpq w a ((Zun w i n 1).2.getD 0 ([], []))] else (Zun w i n 1).1
  | .d2 i a b, n => if (Zun w i n 2).1 = Zxn then Zhp [Zpq w a ((Zun w i n 2).2.getD 0 ([], [])), Zpq w b ((Zun w i n 2).2.getD 1 ([], []))] else (Zun w i n 2).1
  | .d3 i a b c, n => if (Zun w i n 3).1 = Zxn then Zhp [Zpq w a ((Zun w i n 3).2.getD 0 ([], [])), Zpq w b ((Zun w i n 3).2.getD 1 ([], [])), Zpq w c ((Zun w i n 3).2.getD 2 ([], []))] else (Zun w i n 3).1
theorem Zjl {w : Wd} {d : Dc} {n : Nd} (h : (Zun w d.ix n d.ps.length).1 ≠ Zxn) : Zpq w d n = (Zun w d.ix n d.ps.length).1 := by
  cases d <;> simp only [Dc.ix, Dc.ps, List.length_cons, List.length_nil, Nat.zero_add] at h ⊢ <;> unfold Zpq <;> first | rfl | rw [if_neg h]
theorem Ygd {w : Wd} {d : Dc} {n : Nd} {ms : List Nd} (h : Zun w d.ix n d.ps.length = (Zxn, ms)) (hl : ms.length = d.ps.length) : Zpq w d n = Zhp (List.zipWith (Zpq w) d.ps ms) := by
  cases d with
  | d0 i => simp only [Dc.ix, Dc.ps, List.length_nil] at h; unfold Zpq; rw [h]; rfl
  | d1 i a =>
    simp only [Dc.ix, Dc.ps, List.length_cons, List.length_nil, Nat.zero_add] at h hl; conv => lhs; unfold Zpq
    rw [h]
    match ms, hl with
    | [x], _ => rfl
  | d2 i a b =>
    simp only [Dc.ix, Dc.ps, List.length_cons, List.length_nil, Nat.zero_add] at h hl; conv => lhs; unfold Zpq
    rw [h]
    match ms, hl with
    | [x, y], _ => rfl
  | d3 i a b c =>
    simp only [Dc.ix, Dc.ps, List.length_cons, List.length_nil, Nat.zero_add] at h hl; conv => lhs; unfold Zpq
    rw [h]
    match ms, hl with
    | [x, y, z], _ => rfl
theorem Zqr {l : List (List Nat)} {g : Nat} (hg : g < l.length) (h : ∀ x ∈ l.take g, x = Zxn) (hb : l[g] ≠ Zxn) : Zhp l = l[g] := by
  induction l generalizing g with
  | nil => simp at hg
  | cons a l ih =>
    cases g with
    | zero => simp at hb ⊢; simp [Zhp, hb]
    | succ g =>
      simp at hg h hb ⊢
      rw [Zhp, if_pos h.1]
      exact ih hg h.2 hb
theorem Zrr {l : List (List Nat)} (h : ∀ x ∈ l, x = Zxn) : Zhp l = Zxn := by
  induction l with
  | nil => rfl
  | cons a l ih => simp at h; rw [Zhp, if_pos h.1]; exact ih h.2
noncomputable def Zrw (w : Wd) (n : Nd) (s : List Nat) : List Nat := match Yai s with | some d => if Zfy w && Zfz w n then Zpq w d n else Ycg | none => Ycg
end Go.Sim

set_option linter.unusedSimpArgs false
set_option linter.unusedVariables false
namespace Go.Sim
def Aft (l : List Dc) (x : List Nat) : Prop := ∀ a, l.getLast? = some a → a.ps = [] → N40 x
theorem Zxt : ∀ {l m : List Dc} {x r : List Nat}, Aft l x → (∀ p ∈ l, p.ok = true) → (∀ p ∈ m, p.ok = true) → Zpj l ++ x = Zpj m ++ 41 :: r →
    l.length ≤ m.length ∧ l = m.take l.length ∧ (l.length = m.length → x = 41 :: r) ∧ (l.length < m.length → ∃ p s' r', p ∈ m ∧ x = 44 :: s' ∧ s' = p.txt ++ r' ∧ N40 r')
  | [], [], x, r, hx, _, _, h => by simp [Zpj] at h; simp [h]
  | [], b :: m, x, r, hx, _, _, h => by
    simp [Zpj] at h
    refine ⟨by simp, by simp, fun e => by simp at e, fun _ => ⟨b, _, _, by simp, h, rfl, Zjk (N40.of (by decide))⟩⟩
  | a :: l, [], x, r, hx, _, _, h => by simp [Zpj] at h
  | a :: l, b :: m, x, r, hx, hl, hm, h => by
    simp only [Zpj, List.cons_append, List.cons.injEq, true_and, List.append_assoc] at h
    have hN : a.ps = [] → N40 (Zpj l ++ x) := by
      intro e
      cases l with
      | nil => simpa [Zpj] using hx a rfl e
      | cons c l => exact N40.of (by decide)
    obtain ⟨rfl, h9⟩ := Zda.unique (s := a.txt ++ (Zpj l ++ x)) ⟨hl a (by simp), rfl, hN⟩ ⟨hm b (by simp), h, fun _ => Zjk (N40.of (by decide))⟩
    have hx' : Aft l x := by
      intro c hc
      refine hx c ?_
      cases l with
      | nil => cases hc
      | cons d l => simpa [List.getLast?_cons_cons] using hc
    obtain ⟨h1, h2, h3, h4⟩ := Zxt hx' (fun p hp => hl p (by simp [hp])) (fun p hp => hm p (by simp [hp])) h9
    refine ⟨by simp; omega, by simp; exact h2, fun e => h3 (by simpa using e), fun e => ?_⟩
    obtain ⟨p, s', r', hp, h5⟩ := h4 (by simpa using e)
    exact ⟨p, s', r', by simp [hp], h5⟩
theorem Zda.step2 {c : Nat} {l : List Dc} {x r : List Nat} {d : Dc} (hl : l ≠ []) (hok : ∀ p ∈ l, p.ok = true) (hx : Aft l x) (h : Zda (c :: (Zje l ++ x)) d r) :
    l.length ≤ d.ps.length ∧ l = d.ps.take l.length ∧ (l.length = d.ps.length → x = 41 :: r) ∧ (l.length < d.ps.length → ∃ p s' r', x = 44 :: s' ∧ Zda s' p r') := by
  obtain ⟨h1, h2, h3⟩ := h
  rw [Dc.txt_of] at h2
  simp only [List.cons.injEq] at h2
  obtain ⟨_, h2⟩ := h2
  have hdk := Dc.ok_ps h1
  cases l with
  | nil => exact absurd rfl hl
  | cons a l =>
  generalize hps : d.ps = m at *
  cases m with
  | nil => simp [Zje] at h2; exact absurd h2.symm (h3 rfl _)
  | cons b m =>
    rw [if_neg (by simp)] at h2
    have e : Zpj (a :: l) ++ x = Zpj (b :: m) ++ 41 :: r := by
      simp only [Zje, List.cons_append, List.cons.injEq, true_and, List.append_assoc] at h2
      simp only [Zpj, List.cons_append, List.append_assoc, h2]
    obtain ⟨h5, h6, h7, h8⟩ := Zxt hx hok hdk e
    refine ⟨h5, h6, h7, fun e => ?_⟩
    obtain ⟨p, s', r', hp, h5, h6, h7⟩ := h8 e
    exact ⟨p, s', r', h5, hdk p hp, h6, fun _ => h7⟩
theorem Aft.snoc {l : List Dc} {p : Dc} {s r : List Nat} (h : Zda s p r) : Aft (l ++ [p]) r := by
  intro a ha
  simp at ha; subst ha
  exact h.2.2
end Go.Sim

set_option linter.unusedVariables false
set_option linter.unusedSimpArgs false
set_option maxRecDepth 20000
namespace Go.Sim
open Go Go.RowKit

inductive Ybn (S : Nat → Prop) (h : Zaa) : Dc → Pt → Prop
  | mk (d : Dc) (i : Nat) (a : Pt) (c : Nat) (e : Bool) (qs : List Pt) (si : S i) (hi : h[i]? = some (.cells Zfl [.int .i64 (d.ix : Int), .slice a d.ps.length c e] false))
      (hp : d.ps.length = 0 ∨ ∃ j, a = some (j, 0) ∧ S j ∧ h[j]? = some (.cells Zfk (qs.map .ptr) false)) (hl : qs.length = d.ps.length)
      (hr : ∀ (k : Nat) (q : Pt) (x : Dc), qs[k]? = some q → d.ps[k]? = some x → Ybn S h x q) : Ybn S h d (some (i, 0))
theorem Ybn.mono {S S' : Nat → Prop} {h : Zaa} (hs : ∀ i, S i → S' i) {d : Dc} {p : Pt} (r : Ybn S h d p) : Ybn S' h d p := by
  induction r with
  | mk d i a c e qs si hi hp hl hr ih => exact .mk d i a c e qs (hs _ si) hi (hp.imp id fun ⟨j, h1, h2, h3⟩ => ⟨j, h1, hs _ h2, h3⟩) hl ih
theorem Ybn.agree {S : Nat → Prop} {h h' : Zaa} (hh : ∀ i, S i → h'[i]? = h[i]?) {d : Dc} {p : Pt} (r : Ybn S h d p) : Ybn S h' d p := by
  induction r with
  | mk d i a c e qs si hi hp hl hr ih => exact .mk d i a c e qs si (by rw [hh i si]; exact hi) (hp.imp id fun ⟨j, h1, h2, h3⟩ => ⟨j, h1, h2, by rw [hh j h2]; exact h3⟩) hl ih
theorem Ybn.lt {S : Nat → Prop} {h : Zaa} {d : Dc} {p : Pt} (r : Ybn S h d p) : ∃ i, p = some (i, 0) ∧ S i ∧ i < h.length := by
  match r with
  | .mk d i a c e qs si hi hp hl hr => exact ⟨i, rfl, si, Own.lt hi⟩
theorem Ydj : pg.underlying Zod = some (.slice Zfk) := by kernel_rfl
theorem Yio : pg.cellsOf Zfk = 1 := by kernel_rfl
theorem Yjl : pg.okElem Zfk = true := by kernel_rfl
theorem Yje : pg.bytesOf Zfk ≤ 127 := Nat.le_of_ble_eq_true (by kernel_rfl)
theorem Ygb (l : List Dc) : l.length ≤ (Zje l).length := by
  have ht : ∀ l : List Dc, l.length ≤ (Zpj l).length := by
    intro l
    induction l with
    | nil => simp [Zpj]
    | cons a l ih => simp only [Zpj, List.length_cons, List.length_append]; omega
  cases l with
  | nil => simp [Zje]
  | cons a l => have := ht l; simp only [Zje, List.length_cons, List.length_append]; omega
theorem Yfb {c : Nat} {r : List Nat} {K : Nat → Prop} : Zgd (c :: r) 0 K ↔ K c := by unfold Zgd; simp
theorem Yjp {c : Nat} {s : List Nat} (h : ([c] : List Nat).isPrefixOf s = false) : ∀ y, s ≠ c :: y := fun y e => by rw [(Zgt _ _).2 ⟨y, e⟩] at h; cases h
def RdQ (s : List Nat) (h : Zaa) (v : Zan) (h' : Zaa) : Prop := Zbe h.length h h' ∧ ∃ p r, v = .tup [.ptr p, .str r] ∧
    ((∃ d, Zda s d r ∧ Ybn (Btw h.length h'.length) h' d p) ∨ (p = none ∧ ∀ d r', ¬ Zda s d r'))
theorem Yaw : ∀ (N : Nat), N ≤ 1048576 → ∀ (s : List Nat), s.length ≤ N → ∀ h : Zaa, Zad pg Zie [.str s] h (RdQ s h) := by
  intro N
  induction N with
  | zero =>
    intro _ s hs h
    have : s = [] := List.eq_nil_of_length_eq_zero (by omega)
    subst this
    apply Zcq.call
    simp only [decide_true, Zbj]
    exact ⟨Zbe.refl _ _, none, [], rfl, .inr ⟨rfl, fun t r' => Zda.nil⟩⟩
  | succ N ih =>
    intro hN s hs h
    apply Zcq.call
    match s, hs with
    | [], _ => simp only [decide_true, Zbj]; exact ⟨Zbe.refl _ _, none, [], rfl, .inr ⟨rfl, fun t r' => Zda.nil⟩⟩
    | c :: s, hs =>
    simp only [List.length_cons] at hs
    simp only [reduceCtorEq, decide_false, Zay, Yfb]
    have noDig : ¬ (48 ≤ c ∧ c ≤ 57) → RdQ (c :: s) h (.tup [.ptr none, .str (c :: s)]) h := by
      intro hc
      refine ⟨Zbe.refl _ _, _, _, rfl, .inr ⟨rfl, fun d r' ho => ?_⟩⟩
      have := ho.dig; omega
    refine Zap (fun hlo => noDig (by omega)) (fun hlo => ?_)
    refine Zap (fun hhi => noDig (by omega)) (fun hhi => ?_)
    apply Zcq.J3i
    have hwr : IntKind.wrap .i64 (IntKind.wrap .u8 ((c : Int) - 48)) = ((c - 48 : Nat) : Int) := by rw [IntWalk.u8_in _ (by omega), IntWalk.i64_in _ (by omega)]; omega
    simp only [Yfb, Zaz, Yhf]
    rw [hwr]
    refine ⟨⟨by omega, by simp; omega, by omega⟩, ?_⟩
    generalize hh1 : h ++ [Zcj.cells Zfl [.int .i64 ((c - 48 : Nat) : Int), .slice none 0 0 true] false] = h1
    have s1 : Zbe h.length h h1 := by rw [← hh1]; exact Zas
    have l1 : h1.length = h.length + 1 := by rw [← hh1]; simp
    have d1 : h1[h.length]? = some (.cells Zfl [.int .i64 ((c - 48 : Nat) : Int), .slice none 0 0 true] false) := by rw [← hh1]; simp
    refine Zgr.mono ?_
    rintro v h2 ⟨rfl, rfl⟩
    simp only [Zai]
    cases hp0 : ([40] : List Nat).isPrefixOf s with
    | false =>
      simp only [Bool.not_false, Zbj]
      have ho : Zda (c :: s) (.d0 (c - 48)) s := Zda.leaf (by omega) (Yjp hp0)
      exact ⟨s1, _, _, rfl, .inl ⟨_, ho, .mk (.d0 (c - 48)) _ none 0 true [] ⟨by omega, by omega⟩ d1 (.inl rfl) rfl (by simp)⟩⟩
    | true =>
    obtain ⟨y0, hy0⟩ := (Zgt _ _).1 hp0
    simp only [Bool.not_true, Zay]
    refine Zcq.L7ind (J := fun (g : Nat) x0 h' => x0.length = g ∧ Zbe h.length h h' ∧ h.length < h'.length ∧ x0.length ≤ N ∧ ∃ (ps : List Dc) (qs : List Pt) (a : Pt) (n cp : Nat) (e : Bool), ps.length = n ∧ qs.length = n ∧ (∀ p ∈ ps, p.ok = true) ∧ s = Zje ps ++ x0 ∧ (ps = [] → ∃ y, x0 = 40 :: y) ∧ Aft ps x0 ∧
        h'[h.length]? = some (.cells Zfl [.int .i64 ((c - 48 : Nat) : Int), .slice a n cp e] false) ∧ Vec Zfk h' a n cp (qs.map .ptr) ∧ (∀ j, a = some (j, 0) → h.length < j) ∧
        ∀ (k : Nat) (q : Pt) (x : Dc), qs[k]? = some q → ps[k]? = some x → ∃ lo hi, h.length < lo ∧ hi ≤ h'.length ∧ (∀ j, a = some (j, 0) → ¬ Btw lo hi j) ∧ Ybn (Btw lo hi) h' x q)
      (m := fun g => g) (hr := ?_) (g := s.length) (hj := ⟨rfl, s1, by omega, by omega, [], [], none, 0, 0, true, rfl, rfl, by simp, by simp [Zje], fun _ => ⟨y0, hy0⟩, (by intro a ha; cases ha), d1, Vec.mk0, by simp, by simp⟩) ..
    rintro g x0 h' ⟨hg, hS, hlt1, hx0, ps, qs, a, n, cp, e, hps, hqs, hok, hs0, hemp, haft, hnode, hvec, ha, hrep⟩ R hR
    unfold Zcq.L7t
    have fail : ∀ (h2 : Zaa), Zbe h'.length h' h2 → (∀ t r', ¬ Zda (c :: s) t r') → RdQ (c :: s) h (.tup [.ptr none, .str x0]) h2 :=
      fun h2 s2 hno => ⟨hS.trans (s2.mono hS.le), none, x0, rfl, .inr ⟨rfl, hno⟩⟩
    have hcell : Zae h' (.ptr (some (h.length, 0 + 1))) = some (.slice a n cp e) := by simp [Zae, hnode]
    have hnlen : n ≤ s.length := by have := Ygb ps; rw [hs0, List.length_append]; omega
    -- one more part
    have go : ∀ s', x0 = Zqw n :: s' → Zcq.J8 (RdQ (c :: s) h) R x0 h.length 0 h' := by
      intro s' hx
      apply Zcq.J8i
      refine ⟨⟨by omega, by rw [hx]; simp; omega, by omega⟩, ?_⟩
      rw [Zwp hx]
      have hsl : s'.length ≤ N := by rw [hx] at hx0; simp at hx0; omega
      refine (ih (by omega) s' hsl h').mono ?_
      rintro v h3 ⟨hS3, p, r, rfl, hres⟩
      simp only [Zct, Zaf, Zgp, Zag, Zaq]
      rcases hres with ⟨t, ho, hn⟩ | ⟨rfl, hno⟩
      · obtain ⟨i, rfl, hbi, hil⟩ := hn.lt
        simp only [Option.isNone_some, Zay]
        have hn3 : h3[h.length]? = some (.cells Zfl [.int .i64 ((c - 48 : Nat) : Int), .slice a n cp e] false) := by rw [hS3.eq _ hlt1]; exact hnode
        have hcell3 : Zae h3 (.ptr (some (h.length, 0 + 1))) = some (.slice a n cp e) := by simp [Zae, hn3]
        rw [hcell3]
        simp only [Zah, Zaz]
        refine (hvec.same hS3).push Ydj Yio Yjl Yje (by simp [hqs]) rfl (by omega) (fun h4 hl4 hi4 hk4 => ?_)
        simp only [Zah]
        have hn4 : h4[h.length]? = some (.cells Zfl [.int .i64 ((c - 48 : Nat) : Int), .slice a n cp e] false) := by
          rw [hk4 _ (Own.lt hn3) fun i hi => by have := ha i hi; omega]; exact hn3
        have hst : Zbd h4 (.ptr (some (h.length, 0 + 1))) [.slice (some (h3.length + 1, 0)) (n + 1) (n + 1) false] = some (h4.set h.length (.cells Zfl [.int .i64 ((c - 48 : Nat) : Int), .slice (some (h3.length + 1, 0)) (n + 1) (n + 1) false] false)) := by
          simp [Zbd, hn4, putRow]
        rw [hst]
        simp only [Zav]
        have hle3 := hS3.le
        have hset : ∀ j, j ≠ h.length → (h4.set h.length (Zcj.cells Zfl [.int .i64 ((c - 48 : Nat) : Int), .slice (some (h3.length + 1, 0)) (n + 1) (n + 1) false] false))[j]? = h4[j]? := fun j hj => List.getElem?_set_ne (by omega)
        have hsame : ∀ j, j < h.length → h4[j]? = h[j]? := fun j hj => by
          rw [hk4 j (by omega) fun i hi => by have := ha i hi; omega, hS3.eq j (by omega), hS.eq j hj]
        have hrl : r.length < x0.length := by have := congrArg List.length ho.2.1; rw [List.length_append] at this; rw [hx, List.length_cons]; omega
        refine hR r.length _ _ (by omega) ⟨rfl, ⟨by simp; omega, fun j hj => by rw [hset j (by omega)]; exact hsame j hj⟩, by simp; omega, by omega, ps ++ [t], qs ++ [some (i, 0)], some (h3.length + 1, 0), n + 1, n + 1, false, by simp [hps], by simp [hqs], ?_, ?_, by simp, Aft.snoc ho, ?_, ?_, ?_, ?_⟩
        · intro p hp
          rcases List.mem_append.1 hp with hp | hp
          · exact hok p hp
          · simp at hp; subst hp; exact ho.1
        · rw [Zvn, hs0, hx, hps, ho.2.1]; simp
        · rw [List.getElem?_set_self (by omega)]
        · refine Vec.mk1 ?_
          rw [hset _ (by omega)]
          simpa using hi4
        · intro j hj; cases hj; omega
        · intro k q x hq hx'
          by_cases hkg : k < n
          · rw [List.getElem?_append_left (by omega)] at hq hx'
            obtain ⟨lo, hi, hlo, hhi, hbt, hnr⟩ := hrep k q x hq hx'
            refine ⟨lo, hi, hlo, by simp; omega, fun j hj hb => by cases hj; have := hb.2; omega, hnr.agree fun j hb => ?_⟩
            have := hb.1; have := hb.2
            rw [hset j (by omega), hk4 j (by omega) fun i hi => fun e => hbt i hi (e ▸ hb), hS3.eq j (by omega)]
          · have hkg' : k = n := by
              have := (List.getElem?_eq_some_iff.1 hq).1; simp at this; omega
            subst hkg'
            rw [List.getElem?_append_right (by omega)] at hq hx'
            simp [hps, hqs] at hq hx'
            subst hq; subst hx'
            refine ⟨h'.length, h3.length, by omega, by simp; omega, fun j hj hb => by cases hj; have := hb.2; omega, hn.agree fun j hb => ?_⟩
            have := hb.1; have := hb.2
            rw [hset j (by omega), hk4 j (by omega) fun i hi => fun e => by
              subst e
              rw [hi] at hvec
              have := hvec.lt
              omega]
      · simp only [Option.isNone_none, Zbj]
        refine fail _ hS3 fun t r' ho => ?_
        by_cases hpe : ps = []
        · subst hpe
          simp at hps
          rw [hs0] at ho
          simp only [Zje, List.nil_append] at ho
          rw [hx, ← hps] at ho
          obtain ⟨p, r'', ho2⟩ := Zda.first (s := s') ho
          exact hno _ _ ho2
        · rw [hs0] at ho
          obtain ⟨h5, h6, h7, h8⟩ := ho.step2 hpe hok haft
          have hne : n ≠ 0 := by intro e0; exact hpe (List.eq_nil_of_length_eq_zero (by omega))
          have hmk : Zqw n = 44 := by unfold Zqw; rw [if_neg hne]
          rw [hmk] at hx
          by_cases hlt : ps.length < t.ps.length
          · obtain ⟨p, s2, r2, hx2, ho2⟩ := h8 hlt
            rw [hx] at hx2
            simp at hx2
            rw [← hx2] at ho2
            exact hno _ _ ho2
          · have := h7 (by omega)
            rw [hx] at this; cases this
    have stop : ps ≠ [] → (∀ y, x0 ≠ 44 :: y) → Zcq.A7x0 (RdQ (c :: s) h) x0 h.length 0 h' := by
      intro hpe hx44
      apply Zcq.A7x0i
      refine Zgr.mono ?_
      rintro v h3 ⟨rfl, rfl⟩
      simp only [Zai]
      have hno : (¬ (∃ y, x0 = 41 :: y) ∨ 3 < ps.length) → ∀ t r', ¬ Zda (c :: s) t r' := by
        intro hx t r' ho
        rw [hs0] at ho
        obtain ⟨h5, h6, h7, h8⟩ := ho.step2 hpe hok haft
        have h3 := t.ps_len
        by_cases hlt : ps.length < t.ps.length
        · obtain ⟨p, s2, r2, hx2, ho2⟩ := h8 hlt
          exact hx44 _ hx2
        · have := h7 (by omega)
          rcases hx with hx | hx
          · exact hx ⟨_, this⟩
          · omega
      cases hp : ([41] : List Nat).isPrefixOf x0 with
      | false =>
        simp only [Bool.not_false, Zbj]
        exact fail _ (Zbe.refl _ _) (hno (.inl fun ⟨y, hy⟩ => Yjp hp y hy))
      | true =>
        obtain ⟨s', hx⟩ := (Zgt _ _).1 hp
        simp only [Bool.not_true, Zay]
        rw [hcell]
        simp only [Zah]
        refine Zap (fun hbig => fail _ (Zbe.refl _ _) (hno (.inr (by omega)))) (fun hsm => ?_)
        apply Zcq.J15i
        refine ⟨⟨by omega, by rw [hx]; simp; omega, by omega⟩, ?_⟩
        rw [Zwp hx]
        obtain ⟨d, hd1, hd2, hd3⟩ := Zda.make (c := c) (l := ps) (r := s') (by omega) hok (by omega) hpe
        rw [← hx, ← hs0] at hd3
        refine ⟨hS, _, _, rfl, .inl ⟨d, hd3, ?_⟩⟩
        have hdl : d.ps.length = n := by rw [hd2]; exact hps
        refine .mk d h.length a cp e qs ⟨Nat.le_refl _, hlt1⟩ (by rw [hd1, hdl]; exact hnode) ?_ (by rw [hdl]; exact hqs) fun k q x hq hx => ?_
        · rcases hvec with ⟨_, h0, _⟩ | ⟨j, hj, hjj⟩
          · left; omega
          · exact .inr ⟨j, hj, ⟨by have := ha j hj; omega, Own.lt hjj⟩, hjj⟩
        · rw [hd2] at hx
          obtain ⟨lo, hi, hlo, hhi, hbt, hnr⟩ := hrep k q x hq hx
          exact hnr.mono fun i hb => ⟨by have := hb.1; omega, by have := hb.2; omega⟩
    have second : ps ≠ [] → Zad pg Zcu [.str x0, .str [44]] h' fun v_14 h_15 => Zbx (some v_14) fun b_16 => bcase b_16 (Zcq.J8 (RdQ (c :: s) h) R x0 h.length 0 h_15) (Zcq.A7x0 (RdQ (c :: s) h) x0 h.length 0 h_15) := by
      intro hpe
      refine Zgr.mono ?_
      rintro v h3 ⟨rfl, rfl⟩
      simp only [Zai]
      have hne : n ≠ 0 := by intro e0; exact hpe (List.eq_nil_of_length_eq_zero (by omega))
      have hmk : Zqw n = 44 := by unfold Zqw; rw [if_neg hne]
      cases hp : ([44] : List Nat).isPrefixOf x0 with
      | true =>
        obtain ⟨s', hx⟩ := (Zgt _ _).1 hp
        simp only [Zbj]
        exact go s' (by rw [hmk]; exact hx)
      | false =>
        simp only [Zay]
        exact stop hpe (Yjp hp)
    refine Zgr.mono ?_
    rintro v h3 ⟨rfl, rfl⟩
    simp only [Zai]
    cases hp : ([40] : List Nat).isPrefixOf x0 with
    | true =>
      simp only [Zbj]
      rw [hcell]
      simp only [Zah]
      obtain ⟨s', hx⟩ := (Zgt _ _).1 hp
      refine Zfe (fun h0 => ?_) (fun hne => ?_)
      · have hn0 : n = 0 := by omega
        exact go s' (by rw [hn0]; exact hx)
      · exact second (by intro e0; apply hne; rw [e0] at hps; simp at hps; omega)
    | false =>
      simp only [Zay]
      refine second (fun e0 => ?_)
      obtain ⟨y, hy⟩ := hemp e0
      exact Yjp hp y hy
end Go.Sim

set_option linter.unusedVariables false
set_option linter.unusedSimpArgs false
set_option maxRecDepth 20000
namespace Go.Sim
open Go Go.RowKit

end Go.Sim

set_option linter.unusedSimpArgs false
set_option linter.unusedVariables false
namespace Go.Sim

def Up (cs : List Nd) (a b : Nat) : Prop := ∃ i, ∃ h : i < cs.length, cs[i].1 = [a] ∧ b ∈ cs[i].2
inductive Rch (cs : List Nd) (a : Nat) : Nat → Prop
  | one {b : Nat} : Up cs a b → Rch cs a b
  | more {b c : Nat} : Rch cs a b → Up cs b c → Rch cs a c
theorem Zwi {cs : List Nd} (h : Zir cs = true) {i : Nat} (hi : i < cs.length) : Zuy cs i = true := by
  unfold Zir at h
  simp only [Bool.and_eq_true, List.all_eq_true] at h
  exact h.1 i (List.mem_range.2 hi)
theorem Yjz {cs : List Nd} (h : Zir cs = true) {i : Nat} (hi : i < cs.length) : ∃ d, cs[i].1 = [d] ∧ 65 ≤ d ∧ d ≤ 84 := by
  have := Zwi h hi
  unfold Zuy at this
  rw [Zez hi] at this
  simp only [Bool.and_eq_true] at this
  have h1 := this.1.1
  unfold Zsg at h1
  split at h1
  · rename_i d hd; exact ⟨d, hd, by simpa using h1⟩
  · cases h1
theorem Zze {cs : List Nd} (h : Zir cs = true) {i : Nat} (hi : i + 1 < cs.length) {a b : Nat} (ha : cs[i].1 = [a]) (hb : cs[i + 1].1 = [b]) : a < b := by
  have := Zwi h hi
  unfold Zuy at this
  rw [Zez hi, Nat.add_sub_cancel, Zez (by omega), ha, hb] at this
  simp only [Bool.and_eq_true] at this
  have h1 := this.1.2
  simpa [Zdk] using h1
theorem Zwb {cs : List Nd} (h : Zir cs = true) : ∀ (k i : Nat) (hi : i + k + 1 < cs.length) {a b : Nat}, cs[i].1 = [a] → cs[i + k + 1].1 = [b] → a < b
  | 0, i, hi, a, b, ha, hb => Zze h hi ha hb
  | k + 1, i, hi, a, b, ha, hb => by
    obtain ⟨d, hd, _⟩ := Yjz h (show i + k + 1 < cs.length by omega)
    have h1 := Zwb h k i (by omega) ha hd
    have h2 := Zze h (i := i + k + 1) (by omega) hd hb
    omega
theorem Zzw {cs : List Nd} (h : Zir cs = true) {i j : Nat} (hi : i < cs.length) (hj : j < cs.length) {a : Nat} (ha : cs[i].1 = [a]) (hb : cs[j].1 = [a]) : i = j := by
  rcases Nat.lt_trichotomy i j with hl | he | hl
  · obtain ⟨k, rfl⟩ : ∃ k, j = i + k + 1 := ⟨j - i - 1, by omega⟩
    have := Zwb h k i hj ha hb; omega
  · exact he
  · obtain ⟨k, rfl⟩ : ∃ k, i = j + k + 1 := ⟨i - j - 1, by omega⟩
    have := Zwb h k j hi hb ha; omega
theorem Zqq {cs : List Nd} (h : Zir cs = true) {i : Nat} (hi : i < cs.length) {b : Nat} (hb : b ∈ cs[i].2) : ∃ j, ∃ hj : j < i, cs[j].1 = [b] := by
  have := Zwi h hi
  unfold Zuy at this
  rw [Zez hi] at this
  simp only [Bool.and_eq_true] at this
  have h1 := this.2
  unfold Zyd at h1
  rw [List.all_eq_true] at h1
  obtain ⟨k, hk, rfl⟩ := List.mem_iff_getElem.1 hb
  have h2 := h1 k (List.mem_range.2 hk)
  unfold Zur at h2
  rw [Zez hk] at h2
  simp only [Bool.and_eq_true] at h2
  have h3 := h2.1
  unfold Zgc at h3
  rw [List.any_eq_true] at h3
  obtain ⟨x, hx, he⟩ := h3
  obtain ⟨j, hj, rfl⟩ := List.mem_iff_getElem.1 hx
  rw [List.length_take] at hj
  exact ⟨j, by omega, by simpa using he⟩
theorem Up.ix {cs : List Nd} (h : Zir cs = true) {a b i : Nat} (u : Up cs a b) (hi : i < cs.length) (ha : cs[i].1 = [a]) : b ∈ cs[i].2 := by
  obtain ⟨j, hj, hja, hb⟩ := u
  have := Zzw h hi hj ha hja
  subst this; exact hb
theorem Rch.ix {cs : List Nd} (h : Zir cs = true) {a b i : Nat} (r : Rch cs a b) (hi : i < cs.length) (ha : cs[i].1 = [a]) : ∃ j, ∃ hj : j < i, cs[j].1 = [b] := by
  induction r with
  | one u => exact Zqq h hi (u.ix h hi ha)
  | more _ u ih =>
    obtain ⟨j, hj, hb⟩ := ih
    obtain ⟨k, hk, hc⟩ := Zqq h (show j < cs.length by omega) (u.ix h (by omega) hb)
    exact ⟨k, by omega, hc⟩
structure Zzl (cs : List Nd) (a : Nat) (i : Nat) (ab : List Nat) : Prop where
  sound : ∀ d ∈ ab, Rch cs a d
  done : ∀ j, i ≤ j → ∀ hj : j < cs.length, (cs[j].1 = [a] ∨ ∃ d, cs[j].1 = [d] ∧ d ∈ ab) → ∀ b ∈ cs[j].2, b ∈ ab
theorem Zzl.step {cs : List Nd} (h : Zir cs = true) {a i : Nat} {ab : List Nat} (D : Zzl cs a (i + 1) ab) (hi : i < cs.length) (hc : cs[i].1 = [a] ∨ ∃ d, cs[i].1 = [d] ∧ d ∈ ab) : Zzl cs a i (ab ++ cs[i].2) := by
  refine ⟨fun d hd => ?_, fun j hj hjl hcj b hb => ?_⟩
  · rcases List.mem_append.1 hd with hd | hd
    · exact D.sound d hd
    · rcases hc with hc | ⟨e, he, hm⟩
      · exact .one ⟨i, hi, hc, hd⟩
      · exact .more (D.sound e hm) ⟨i, hi, he, hd⟩
  · by_cases hji : j = i
    · subst hji; exact List.mem_append_right _ hb
    · refine List.mem_append_left _ (D.done j (by omega) hjl ?_ b hb)
      rcases hcj with hcj | ⟨e, he, hm⟩
      · exact .inl hcj
      · rcases List.mem_append.1 hm with hm | hm
        · exact .inr ⟨e, he, hm⟩
        · exfalso
          obtain ⟨k, hk, hke⟩ := Zqq h hi hm
          have := Zzw h hjl (show k < cs.length by omega) he hke
          omega
theorem Zzl.skip {cs : List Nd} {a i : Nat} {ab : List Nat} (D : Zzl cs a (i + 1) ab) (hc : ∀ hi : i < cs.length, ¬ (cs[i].1 = [a] ∨ ∃ d, cs[i].1 = [d] ∧ d ∈ ab)) : Zzl cs a i ab :=
  ⟨D.sound, fun j hj hjl hcj b hb => by
    by_cases hji : j = i
    · subst hji; exact absurd hcj (hc hjl)
    · exact D.done j (by omega) hjl hcj b hb⟩
theorem Zzl.all {cs : List Nd} (h : Zir cs = true) {a i : Nat} {ab : List Nat} (D : Zzl cs a 0 ab) (hi : i < cs.length) (ha : cs[i].1 = [a]) (d : Nat) : d ∈ ab ↔ Rch cs a d := by
  refine ⟨D.sound d, fun r => ?_⟩
  induction r with
  | one u => exact D.done i (by omega) hi (.inl ha) _ (u.ix h hi ha)
  | more r u ih =>
    obtain ⟨j, hj, hb⟩ := r.ix h hi ha
    exact D.done j (by omega) (by omega) (.inr ⟨_, hb, ih⟩) _ (u.ix h (by omega) hb)
structure Yne (cs : List Nd) (a i : Nat) (r : Nat) (ab : List Nat) : Prop where
  sound : ∀ d ∈ ab, Rch cs a d
  first : ∀ d, Up cs a d → d ∈ ab
  near : ∀ j, j < i → i ≤ j + 1 + r → ∀ hj : j < cs.length, ∀ d, cs[j].1 = [d] → Rch cs a d → d ∈ ab
theorem Yne.next {cs : List Nd} (h : Zir cs = true) {a i r : Nat} {ab ab' : List Nat} (R : Yne cs a i r ab) (hi : i < cs.length) (ha : cs[i].1 = [a])
    (hs : ∀ d ∈ ab', d ∈ ab ∨ ∃ e ∈ ab, Up cs e d) (hc : ∀ d, (d ∈ ab ∨ ∃ e ∈ ab, Up cs e d) → d ∈ ab') : Yne cs a i (r + 1) ab' := by
  refine ⟨fun d hd => ?_, fun d u => hc d (.inl (R.first d u)), fun j hj hn hjl d hd rc => ?_⟩
  · rcases hs d hd with hd | ⟨e, he, u⟩
    · exact R.sound d hd
    · exact .more (R.sound e he) u
  · cases rc with
    | one u => exact hc d (.inl (R.first d u))
    | more rc u =>
      rename_i e
      obtain ⟨k, hk, hb⟩ := rc.ix h hi ha
      have hjk : j < k := by
        obtain ⟨q, hq, hcq⟩ := Zqq h (show k < cs.length by omega) (u.ix h (by omega) hb)
        have := Zzw h hjl (show q < cs.length by omega) hd hcq
        omega
      exact hc d (.inr ⟨e, R.near k hk (by omega) (by omega) e hb rc, u⟩)
theorem Yne.all {cs : List Nd} (h : Zir cs = true) {a i r : Nat} {ab : List Nat} (R : Yne cs a i r ab) (hi : i < cs.length) (ha : cs[i].1 = [a]) (hr : i ≤ r + 1) (d : Nat) : d ∈ ab ↔ Rch cs a d := by
  refine ⟨R.sound d, fun rc => ?_⟩
  obtain ⟨j, hj, hd⟩ := rc.ix h hi ha
  exact R.near j hj (by omega) (by omega) d hd rc
end Go.Sim

set_option linter.unusedVariables false
set_option linter.unusedSimpArgs false
set_option maxRecDepth 20000
namespace Go.Sim
open Go Go.RowKit

end Go.Sim

set_option linter.unusedVariables false
set_option linter.unusedSimpArgs false
set_option maxRecDepth 20000
namespace Go.Sim
open Go Go.RowKit

end Go.Sim

set_option linter.unusedVariables false
set_option linter.unusedSimpArgs false
set_option maxRecDepth 20000
namespace Go.Sim
open Go Go.RowKit

structure Ync (b : Nat) (h : Zaa) (a : Pt) (n c : Nat) (l : List Nd) : Prop where
  vec : Vec Zar h a n c (Zfa eP l)
  len : l.length = n
  low : ∀ i, a = some (i, 0) → b ≤ i
theorem Ync.row {b : Nat} {h : Zaa} {a : Pt} {n c : Nat} {l : List Nd} (f : Ync b h a n c l) : Row h.length h a (n * 2) (Zfa eP l) := f.vec.row (by rw [Zbk Zek, f.len])
theorem Ync.same {b : Nat} {h h' : Zaa} {a : Pt} {n c : Nat} {l : List Nd} (f : Ync b h a n c l) (s : Zbe h.length h h') : Ync b h' a n c l := ⟨f.vec.same s, f.len, f.low⟩
def But (a : Pt) (h h' : Zaa) : Prop := h.length ≤ h'.length ∧ ∀ j, j < h.length → (∀ i, a = some (i, 0) → j ≠ i) → h'[j]? = h[j]?
theorem But.of {a : Pt} {h h' : Zaa} (s : Zbe h.length h h') : But a h h' := ⟨s.le, fun j hj _ => s.eq j hj⟩
theorem But.below {a : Pt} {b : Nat} {h h' : Zaa} (s : But a h h') (hb : b ≤ h.length) (hl : ∀ i, a = some (i, 0) → b ≤ i) : Zbe b h h' := ⟨s.1, fun j hj => s.2 j (by omega) fun i hi => by have := hl i hi; omega⟩
end Go.Sim

set_option linter.unusedVariables false
set_option linter.unusedSimpArgs false
set_option maxRecDepth 20000
namespace Go.Sim
open Go Go.RowKit

structure FrS (i : Nat) (qa : Pt) (h h' : Zaa) (qa' : Pt) : Prop where
  le : h.length ≤ h'.length
  eq : ∀ j, j < h.length → j ≠ i → (∀ q, qa = some (q, 0) → j ≠ q) → h'[j]? = h[j]?
  pt : qa' = qa ∨ ∀ q, qa' = some (q, 0) → h.length ≤ q
theorem FrS.of_same {i : Nat} {qa : Pt} {h h' : Zaa} (s : Zbe h.length h h') : FrS i qa h h' qa := ⟨s.le, fun j hj _ _ => s.eq j hj, .inl rfl⟩
theorem FrS.refl (i : Nat) (qa : Pt) (h : Zaa) : FrS i qa h h qa := .of_same (Zbe.refl _ _)
theorem FrS.ne {i : Nat} {qa qa' : Pt} {h h' : Zaa} (f : FrS i qa h h' qa') {j : Nat} (hj : j < h.length) (hq : ∀ q, qa = some (q, 0) → j ≠ q) : ∀ q, qa' = some (q, 0) → j ≠ q := by
  intro q hq'
  rcases f.pt with e | e
  · exact hq q (e ▸ hq')
  · have := e q hq'; omega
theorem FrS.trans {i : Nat} {qa qa1 qa2 : Pt} {h h1 h2 : Zaa} (f : FrS i qa h h1 qa1) (g : FrS i qa1 h1 h2 qa2) : FrS i qa h h2 qa2 := by
  have := f.le; have := g.le
  refine ⟨by omega, fun j hj hi hq => ?_, ?_⟩
  · rw [g.eq j (by omega) hi (f.ne hj hq)]; exact f.eq j hj hi hq
  · rcases g.pt with e | e
    · rcases f.pt with e' | e'
      · exact .inl (e.trans e')
      · exact .inr fun q hq => e' q (e ▸ hq)
    · exact .inr fun q hq => by have := e q hq; omega
theorem FrS.set {i : Nat} {qa : Pt} {h : Zaa} {x : Zcj} : FrS i qa h (h.set i x) qa := ⟨by simp, fun j _ hi _ => Zbt (fun e => hi e.symm), .inl rfl⟩
theorem FrS.get {i : Nat} {qa qa' : Pt} {h h' : Zaa} (f : FrS i qa h h' qa') {j : Nat} {x : Zcj} (hj : h[j]? = some x) (hi : j ≠ i) (hq : ∀ q, qa = some (q, 0) → j ≠ q) : h'[j]? = some x := by rw [f.eq j (Own.lt hj) hi hq]; exact hj
theorem FrS.row {i : Nat} {qa qa' : Pt} {h h' : Zaa} (f : FrS i qa h h' qa') {a : Pt} {n : Nat} {cs : List Zan} (r : Row h.length h a n cs) (hn : ∀ j o, n ≠ 0 → a = some (j, o) → j ≠ i ∧ ∀ q, qa = some (q, 0) → j ≠ q) : Row h'.length h' a n cs := by
  obtain ⟨hl, r⟩ := r
  by_cases h0 : n = 0
  · exact ⟨hl, .inl h0⟩
  · refine ⟨hl, r.imp id ?_⟩
    rintro ⟨j, o', t, all, ro, ha, hi, hg, x⟩
    have := f.le
    obtain ⟨h1, h2⟩ := hn j o' h0 ha
    exact ⟨j, o', t, all, ro, ha, by omega, by rw [f.eq j hi h1 h2]; exact hg, x⟩
theorem FrS.below {i b : Nat} {qa qa' : Pt} {h h' : Zaa} (f : FrS i qa h h' qa') (hb : b ≤ h.length) (hi : b ≤ i) (hq : ∀ q, qa = some (q, 0) → b ≤ q) : Zbe b h h' := ⟨f.le, fun j hj => f.eq j (by omega) (by omega) fun q hq' => by have := hq q hq'; omega⟩
theorem Zyy {w : Wd} (hw : Zfy w = true) {n : Nd} {k : Nat} (hk : k < w.is.length) {ms : List Nd} (h : Zhw w.is[k] n.2 = some ms) : ms.length ≤ 3 ∧ ∀ m ∈ ms, Zfz w m = true := by
  have := Yhc hw (List.getElem_mem hk) h
  exact ⟨this.1, this.2⟩
theorem Zvj {w : Wd} {n : Nd} (h : Zfz w n = true) : Zls n.2 = true ∧ n.2.length ≤ 60 := by
  have : Zls n.2 = true := by
    unfold Zfz at h
    simp only [Bool.and_eq_true] at h
    exact h.2
  exact ⟨this, (Zwg this)⟩
end Go.Sim
