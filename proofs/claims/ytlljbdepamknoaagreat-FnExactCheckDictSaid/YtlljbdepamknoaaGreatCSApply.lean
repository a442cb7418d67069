/- A part of the proof of a statement of this seat: see the text that holds the theorem. No condition. -/
import Derived.Test.YtlljbdepamknoaaGreatCMatch2
import Derived.Test.YtlljbdepamknoaaGreatPTCText
import Derived.Test.YtlljbdepamknoaaGreatPTCSup
set_option linter.unusedVariables false
set_option linter.unusedSimpArgs false
set_option linter.all false
set_option linter.unusedSimpArgs false
set_option linter.unusedVariables false
namespace Go.Sim

noncomputable def Zoc (l : List Nd) (i : Nat) : Bool := Ziu (l.getD i ([], [])).1 && Zls (l.getD i ([], [])).2 && (i == 0 || Zdk (l.getD (i - 1) ([], [])).1 (l.getD i ([], [])).1)
noncomputable def Zgk (l : List Nd) : Bool := (List.range l.length).all (Zoc l)
def Zuk (l : List Nd) (c : Nat) : List Nat := match l.find? fun p => decide (p.1 = [c]) with | some p => p.2 | none => [c]
def Zif (l : List Nd) (t : List Nat) : List Nat := t.flatMap (Zuk l)
noncomputable def Znp (l : List Nd) (c : Nat) : Option Ty := match l.find? fun p => decide (p.1 = [c]) with | some p => Zhz p.2 | none => none
noncomputable def subst (f : Nat → Option Ty) : Ty → Ty
  | .k c => (f c).getD (.k c)
  | .u c a => .u c (subst f a)
  | .w c a b => .w c (subst f a) (subst f b)
noncomputable def Zed (l : List Nd) (t : List Nat) : Option (List Nat) := if Zgk l && Zls t && decide ((Zif l t).length ≤ 60) then some (Zif l t) else none
theorem Ztg {l : List Nd} (h : Zgk l = true) {i : Nat} (hi : i < l.length) : Ziu l[i].1 = true ∧ Zls l[i].2 = true ∧ (i = 0 ∨ Zdk (l.getD (i - 1) ([], [])).1 l[i].1 = true) := by
  unfold Zgk at h
  rw [List.all_eq_true] at h
  have := h i (List.mem_range.2 hi)
  unfold Zoc at this
  rw [Zez hi] at this
  simp only [Bool.and_eq_true, Bool.or_eq_true, beq_iff_eq] at this
  exact ⟨this.1.1, this.1.2, this.2⟩
theorem Zom {l : List Nd} (h : Zgk l = true) {p : Nd} (hp : p ∈ l) : Ziu p.1 = true ∧ Zls p.2 = true := by
  obtain ⟨i, hi, rfl⟩ := List.getElem_of_mem hp
  exact ⟨(Ztg h hi).1, (Ztg h hi).2.1⟩
theorem Zqe {l : List Nd} (h : Zgk l = true) {c : Nat} (hc : Zcv c = false) : Zuk l c = [c] ∧ Znp l c = none := by
  have : l.find? (fun p => decide (p.1 = [c])) = none := by
    rw [List.find?_eq_none]
    intro p hp e
    have := (Zom h hp).1
    rw [of_decide_eq_true e] at this
    simp [Ziu, hc] at this
  unfold Zuk Znp
  rw [this]; exact ⟨rfl, rfl⟩
theorem Zra {l : List Nd} (h : Zgk l = true) (c : Nat) : Zuk l c = ((Znp l c).getD (.k c)).txt ∧ ∀ t, Znp l c = some t → t.ok = true ∧ t.txt.length ≤ 60 := by
  unfold Zuk Znp
  cases hf : l.find? (fun p => decide (p.1 = [c])) with
  | none => exact ⟨rfl, fun t ht => by cases ht⟩
  | some p =>
    have hp := List.mem_of_find?_eq_some hf
    obtain ⟨t, ht⟩ := Zqi (Zom h hp).2
    obtain ⟨h1, h2, h3⟩ := Zeq.1 ht
    simp only [ht]
    refine ⟨by simpa using h2, fun u hu => ?_⟩
    cases hu
    exact ⟨h1, by rw [← h2]; exact h3⟩
theorem Zkj {l : List Nd} (h : Zgk l = true) {c : Nat} (hc : Zyq c = true) : Zuk l c = [c] := by
  refine (Zqe h ?_).1
  simp only [Zyq, Bool.or_eq_true, beq_iff_eq] at hc
  rcases hc with (rfl | rfl) | rfl <;> rfl
theorem Yla {c : Nat} {a : Ty} (h : (Ty.u c a).ok = true) : Zcv c = false := by
  cases hv : Zcv c with
  | false => rfl
  | true => have := Zno h hv; cases this
theorem Ylw {c : Nat} {a b : Ty} (h : (Ty.w c a b).ok = true) : Zcv c = false := by
  cases hv : Zcv c with
  | false => rfl
  | true => have := Zno h hv; cases this
theorem Zmg {l : List Nd} (h : Zgk l = true) : ∀ {t : Ty}, t.ok = true → Zif l t.txt = (subst (Znp l) t).txt ∧ (subst (Znp l) t).ok = true
  | .k c, ht => by
    have := Zra h c
    simp only [Zif, Ty.txt, List.flatMap_cons, List.flatMap_nil, List.append_nil, subst]
    refine ⟨this.1, ?_⟩
    cases hb : Znp l c with
    | none => exact ht
    | some t => exact (this.2 t hb).1
  | .u c a, ht => by
    have hv := Yla ht
    have hh := ht
    simp only [Ty.ok, Bool.and_eq_true] at ht
    have ih := Zmg h ht.2
    simp only [Zif] at ih
    simp only [Zif, Ty.txt, List.flatMap_cons, List.flatMap_append, List.flatMap_nil, List.append_nil, subst, (Zqe h hv).1, Zkj h Ty.m40, Zkj h Ty.m41, ih.1, List.cons_append, List.nil_append]
    refine ⟨by trivial, ?_⟩
    simp only [Ty.ok, Bool.and_eq_true]; exact ⟨ht.1, ih.2⟩
  | .w c a b, ht => by
    have hv := Ylw ht
    simp only [Ty.ok, Bool.and_eq_true] at ht
    have ih := Zmg h ht.1.2
    have ih2 := Zmg h ht.2
    simp only [Zif] at ih ih2
    simp only [Zif, Ty.txt, List.flatMap_cons, List.flatMap_append, List.flatMap_nil, List.append_nil, subst, (Zqe h hv).1, Zkj h Ty.m40, Zkj h Ty.m41, Zkj h Ty.m44, ih.1, ih2.1, List.cons_append, List.nil_append]
    refine ⟨by trivial, ?_⟩
    simp only [Ty.ok, Bool.and_eq_true]; exact ⟨⟨ht.1.1, ih.2⟩, ih2.2⟩
theorem Ztk (a b : Nat) : Zdk [a] [b] = decide (a < b) := by
  simp [Zdk]
theorem Yei {m : Bd} (b : BOk 60 m) : Zgk (bdL m) = true := by
  rw [Ybl]
  generalize hvs : (Zee.filter fun v => (Zge m v).isSome) = vs
  have hs : vs.Pairwise (· < ·) := by rw [← hvs]; exact Zrx.filter _
  have hm : ∀ v ∈ vs, Zcv v = true ∧ ∃ t, Zge m v = some t := by
    intro v hv
    rw [← hvs, List.mem_filter] at hv
    exact ⟨(Zns v).1 hv.1, Option.isSome_iff_exists.1 hv.2⟩
  unfold Zgk
  rw [List.all_eq_true]
  intro i hi
  rw [List.mem_range, List.length_map] at hi
  unfold Zoc
  rw [Zez (by simpa using hi), List.getElem_map]
  obtain ⟨h1, t, h2⟩ := hm _ (List.getElem_mem hi)
  have h3 := b.var _ (Zok h2)
  simp only [h2, Option.getD_some, Ziu, h1, Bool.true_and, Bool.and_eq_true, Bool.or_eq_true, beq_iff_eq]
  refine ⟨Zqa.2 ⟨t, h3.2.1, rfl, h3.2.2⟩, ?_⟩
  cases i with
  | zero => exact .inl rfl
  | succ j =>
    right
    rw [Nat.add_sub_cancel, Zez (by simp; omega), List.getElem_map, Ztk]
    exact decide_eq_true (List.pairwise_iff_getElem.1 hs j (j + 1) (by omega) hi (by omega))
noncomputable def Zhw (i : Ins) (t : List Nat) : Option (List Nd) :=
  match Zio i.1.2 t with
  | none => none
  | some m => if i.2.all fun n => (Zed (bdL m) n.2).isSome then some (i.2.map fun n => (n.1, Zif (bdL m) n.2)) else none
end Go.Sim

set_option linter.unusedVariables false
set_option linter.unusedSimpArgs false
set_option maxRecDepth 20000
namespace Go.Sim
open Go Go.RowKit

theorem Zvk {k : Nat} (h0 : 0 < k) (hn : k ≤ 9223372036854775807) : IntKind.wrap .i64 ((k : Int) - 1) = ((k - 1 : Nat) : Int) := by rw [IntWalk.i64_in _ (by omega)]; omega
theorem Zsf {h : Zaa} {a : Pt} {n c : Nat} {e : Bool} {l : List Nd} (r : Row h.length h a (n * 2) (Zfa eP l)) (hn : n ≤ 1048576) :
    Zad pg Zhc [.slice a n c e] h fun v h' => v = .bool (Zgk l) ∧ Zbe h.length h h' := by
  have hl : l.length = n := by have := r.1; rw [Zbk Zek] at this; omega
  apply Zdf.call
  refine Zdf.L2ind _ _ _ _ _ _ _ _ _ _ (J := fun (g : Nat) x7 h' => x7 = (g : Int) ∧ g ≤ n ∧ Zbe h.length h h' ∧ (List.range g).all (Zoc l) = true) (fun g => n - g) ?_ 0 _ _ ⟨rfl, by omega, Zbe.refl _ _, rfl⟩
  rintro g x7 h' ⟨rfl, hg, hS, hk⟩ R hR
  unfold Zdf.L2t
  refine Zap (fun hlt => ?_) (fun hge => ?_)
  · obtain ⟨i, o, hgl, rfl, hi, hr, _, _⟩ := (r.same hS).pr (k := g) (by omega)
    have hat : Zoc l g = (Ziu l[g].1 && Zls l[g].2 && (g == 0 || Zdk (l.getD (g - 1) ([], [])).1 l[g].1)) := by unfold Zoc; rw [Zez hgl]
    have no : Zoc l g = false → Zgk l = false := fun hno => Zin hgl hno
    simp only [Zax, Int.toNat_natCast, hr, Zau, Zaf, Zaq, Zag, Zaz]
    rw [Zfi]
    generalize hq : h' ++ [Zcj.cells Zbb [.str l[g].1, .str l[g].2] false] = hq'
    have sq : Zbe h'.length h' hq' := by rw [← hq]; exact Zas
    have oq : hq'[h'.length]? = some (.cells Zbb [.str l[g].1, .str l[g].2] false) := by rw [← hq]; simp
    simp only [Zav, Zak oq, Nat.zero_add, List.getElem?_cons_succ, List.getElem?_cons_zero, Zag]
    refine ⟨by omega, (Zxb l[g].1).mono ?_⟩
    rintro v h2 ⟨rfl, rfl⟩
    have Sq := hS.cat sq
    simp only [Zai, true_and]
    refine Zbv (fun b1 => ⟨by rw [no (by rw [hat, b1]; rfl)], Sq⟩) (fun b1 => ?_)
    simp only [Zak oq, List.getElem?_cons_succ, List.getElem?_cons_zero, Zag]
    refine (Zjq l[g].2 h2).mono ?_
    rintro v h3 ⟨rfl, s3⟩
    simp only [Zai]
    have S3 := Sq.cat s3
    refine Zbv (fun b2 => ⟨by rw [no (by rw [hat, b1, b2]; rfl)], S3⟩) (fun b2 => ?_)
    have go : (g = 0 ∨ Zdk (l.getD (g - 1) ([], [])).1 l[g].1 = true) → Zdf.J6 (fun v h' => v = .bool (Zgk l) ∧ Zbe h.length h h') R (g : Int) (((n : Nat) : Int)) (some (i, o)) n c e (some (i, o)) n c e h3 := by
      intro hz
      apply Zdf.J6i
      rw [Zbs (by omega)]
      refine hR (g + 1) _ _ (by omega) ⟨rfl, by omega, S3, Zfw hk ?_⟩
      rw [hat, b1, b2]
      rcases hz with rfl | hz
      · rfl
      · rw [hz]; simp
    refine Zap (fun hpos => ?_) (fun hz => go (.inl (by omega)))
    have hg0 : 0 < g := by omega
    obtain ⟨i', o', hgl', he, _, _, hc', _⟩ := (r.same S3).pr (k := g - 1) (by omega)
    cases he
    rw [Zvk hg0 (by omega)]
    simp only [Zax, Int.toNat_natCast, Nat.add_zero, hc', Zak (s3.get oq (Own.lt oq)), List.getElem?_cons_zero, Zag, true_and]
    have hgd : l.getD (g - 1) ([], []) = l[g - 1] := Zez hgl'
    refine ⟨by omega, Zbv (fun b3 => ⟨by rw [no (by rw [hat, b1, b2, hgd, b3]; simp; omega)], S3⟩) (fun b3 => go (.inr (by rw [hgd]; exact b3)))⟩
  · apply Zdf.A2x0i
    have : g = n := by omega
    subst this
    exact ⟨by unfold Zgk; rw [hl, hk], hS⟩
theorem Ymz {s : List Nat} {g : Nat} (hg : g < s.length) : sub s (g : Int) (((g + 1 : Nat) : Int)) = [s[g]] := by
  unfold sub
  rw [Int.toNat_natCast, Int.toNat_natCast, List.take_succ_eq_append_getElem hg, List.drop_append_of_le_length (by simp; omega), List.drop_of_length_le (by simp; omega)]; rfl
theorem Zzj {l : List Nd} (h : Zgk l = true) (c : Nat) : (Zuk l c).length ≤ 60 := by
  obtain ⟨h1, h2⟩ := Zra h c
  rw [h1]
  cases hb : Znp l c with
  | none => simp [Ty.txt]
  | some t => exact (h2 t hb).2
theorem Zrp {l : List Nd} (h : Zgk l = true) : ∀ (t : List Nat), (Zif l t).length ≤ 60 * t.length
  | [] => by simp [Zif]
  | c :: t => by
    have h1 := Zzj h c
    have h2 := Zrp h t
    simp only [Zif, List.flatMap_cons, List.length_append, List.length_cons] at h2 ⊢
    omega
theorem Yas {l : List Nd} {t : List Nat} {g : Nat} (hg : g < t.length) : Zif l (t.take (g + 1)) = Zif l (t.take g) ++ Zuk l t[g] := by
  unfold Zif; rw [List.take_succ_eq_append_getElem hg, List.flatMap_append]; simp
noncomputable def Zkx (l : List Nd) (t : List Nat) : Zan := match Zed l t with | some u => .tup [.str u, .bool true] | none => .tup [.str [], .bool false]
theorem Zse {h : Zaa} {a : Pt} {n c : Nat} {e : Bool} {l : List Nd} {t : List Nat} (r : Row h.length h a (n * 2) (Zfa eP l)) (hn : n ≤ 1048576) :
    Zad pg Zgz [.slice a n c e, .str t] h fun v h' => v = Zkx l t ∧ Zbe h.length h h' := by
  have hl : l.length = n := by have := r.1; rw [Zbk Zek] at this; omega
  apply Zci.call
  refine (Zsf r hn).mono ?_
  rintro v h1 ⟨rfl, s1⟩
  simp only [Zai]
  refine Zbv (fun b1 => ⟨by unfold Zkx Zed; rw [b1]; rfl, s1⟩) (fun b1 => ?_)
  refine (Zjq t h1).mono ?_
  rintro v h2 ⟨rfl, s2⟩
  simp only [Zai]
  have S2 := s1.cat s2
  refine Zbv (fun b2 => ⟨by unfold Zkx Zed; rw [b1, b2]; rfl, S2⟩) (fun b2 => ?_)
  have ht60 := Zwg b2
  apply Zci.J3i
  refine Zci.L5ind _ _ _ _ _ _ _ (J := fun (g : Nat) x6 x21 h' => x21 = (g : Int) ∧ g ≤ t.length ∧ Zbe h.length h h' ∧ x6 = Zif l (t.take g)) (fun g => t.length - g) ?_ 0 _ _ _ ⟨rfl, by omega, S2, by simp [Zif]⟩
  rintro g x6 x21 h' ⟨rfl, hg, hS, rfl⟩ R hR
  unfold Zci.L5t
  refine Zap (fun hlt => ?_) (fun hge => ?_)
  · have hgt : g < t.length := by omega
    rw [Zbs (by omega), Ymz hgt]
    refine ⟨⟨by omega, by omega, by omega⟩, ?_⟩
    have hal := Zrp b1 (t.take g)
    rw [List.length_take] at hal
    have fin : ∀ (h3 : Zaa) (x8 : List Nat), Zbe h.length h h3 → x8 = Zuk l t[g] → Zci.A9x2 (fun v h' => v = Zkx l t ∧ Zbe h.length h h') R (Zif l (t.take g)) x8 (g : Int) (((t.length : Nat) : Int)) t a n c e h3 := by
      intro h3 x8 s3 hx
      apply Zci.A9x2i
      have := Zzj b1 t[g]
      rw [hx, Zbs (by omega)]
      exact ⟨by omega, hR (g + 1) _ _ _ (by omega) ⟨rfl, by omega, s3, (Yas hgt).symm⟩⟩
    refine Zci.L9ind _ _ _ _ _ _ _ _ _ _ _ _ _ _ _ (J := fun (q : Nat) x8 x31 h3 => x31 = (q : Int) ∧ q ≤ n ∧ Zbe h.length h h3 ∧ x8 = [t[g]] ∧ (l.take q).find? (fun p => decide (p.1 = [t[g]])) = none) (fun q => n - q) ?_ 0 _ _ _ ⟨rfl, by omega, hS, rfl, rfl⟩
    rintro q x8 x31 h3 ⟨rfl, hq, hS3, rfl, hf⟩ R9 hR9
    unfold Zci.L9t
    refine Zap (fun hlt3 => ?_) (fun hge3 => ?_)
    · obtain ⟨i, o, hql, rfl, hi, hr, _, _⟩ := (r.same hS3).pr (k := q) (by omega)
      simp only [Zax, Int.toNat_natCast, hr, Zau, Zaf, Zaq, Zag, Zaz]
      rw [Zfi]
      have sq : Zbe h3.length h3 (h3 ++ [Zcj.cells Zbb [.str l[q].1, .str l[q].2] false]) := Zas
      simp only [Zav, Zes, Nat.zero_add, List.getElem?_cons_succ, List.getElem?_cons_zero, Zag]
      refine ⟨by omega, Zap (fun he => ?_) (fun he => ?_)⟩
      · refine fin _ _ (hS3.cat sq) ?_
        unfold Zuk
        rw [Ycz hql hf (by simp [he])]
      · rw [Zbs (by omega)]
        exact hR9 (q + 1) _ _ _ (by omega) ⟨rfl, by omega, hS3.cat sq, rfl, Zsu hql hf (by simp [he])⟩
    · have : q = n := by omega
      subst this
      rw [List.take_of_length_le (by omega)] at hf
      exact fin _ _ hS3 (by unfold Zuk; rw [hf])
  · apply Zci.A5x0i
    have : g = t.length := by omega
    subst this
    rw [List.take_length]
    refine Zap (fun hbig => ⟨?_, hS⟩) (fun hsm => ⟨?_, hS⟩)
    · unfold Zkx Zed
      rw [if_neg (by simp; omega)]
    · unfold Zkx Zed
      rw [if_pos (by rw [b1, b2]; simp; omega)]
def Yfr (i : Ins) (t : List Nat) (h : Zaa) (v : Zan) (h' : Zaa) : Prop := Zbe h.length h h' ∧ ∃ a n c e, v = .tup [.slice a n c e, .bool (Zhw i t).isSome] ∧ Zej Zar eP h.length h' a n ((Zhw i t).getD [])
theorem Zxe : pg.underlying Zmm = some (.slice Zar) := by kernel_rfl
theorem Yff : pg.cellsOf Zar = 2 := by kernel_rfl
theorem Ygz : pg.okElem Zar = true := by kernel_rfl
theorem Ygf : pg.bytesOf Zar ≤ 127 := Nat.le_of_ble_eq_true (by kernel_rfl)
noncomputable def Ykp (l : List Nd) (n : Nd) : Nd := (n.1, (Zed l n.2).getD [])
theorem Ycj {l : List Nd} {ns : List Nd} (h : ns.all (fun n => (Zed l n.2).isSome) = true) : ns.map (Ykp l) = ns.map fun n => (n.1, Zif l n.2) := by
  apply List.map_congr_left
  intro n hn
  have := List.all_eq_true.1 h n hn
  obtain ⟨u, hu⟩ := Option.isSome_iff_exists.1 this
  unfold Ykp
  rw [hu]
  unfold Zed at hu
  split at hu
  · cases hu; rfl
  · cases hu
theorem Yki {h : Zaa} {a : Pt} {n c : Nat} {e : Bool} {i : Ins} {t : List Nat} (r : Row h.length h a (n * 2) (Zfa eP i.2)) (hn : n ≤ 1048576) :
    Zad pg Zgj [.agg [.str i.1.1, .str i.1.2, .slice a n c e], .str t] h (Yfr i t h) := by
  have hl : i.2.length = n := by have := r.1; rw [Zbk Zek] at this; omega
  apply Zcs.call
  simp only [Zaz]
  generalize hh0 : h ++ [Zcj.cells Zal [.str i.1.1, .str i.1.2, .slice a n c e] false] = h0
  have s0 : Zbe h.length h h0 := by rw [← hh0]; exact Zas
  have o0 : h0[h.length]? = some (.cells Zal [.str i.1.1, .str i.1.2, .slice a n c e] false) := by rw [← hh0]; simp
  simp only [Zak o0, Nat.zero_add, List.getElem?_cons_succ, List.getElem?_cons_zero, Zag]
  refine (Zrq i.1.2 t h0).mono ?_
  rintro v h1 ⟨s1, ma, mn, mc, me, rfl, hmc, fm⟩
  simp only [Zct, Zaf, Zah, Zai, Zaq]
  generalize hh2 : h1 ++ [Zcj.cells Zar [] false] = h2
  have s2 : Zbe h1.length h1 h2 := by rw [← hh2]; exact Zas
  have o2 : h2[h1.length]? = some (.cells Zar [] false) := by rw [← hh2]; simp
  have S2 := (s0.cat s1).cat s2
  have hml : (Zik i.1.2 t).length ≤ 6 := by unfold Zik; split <;> first | exact Yfx _ | simp
  have hmn := fm.1
  have x2 := s2.get (s1.get o0 (Own.lt o0)) (by have := Own.lt o0; have := s1.le; omega)
  simp only [Zak x2, List.getElem?_cons_succ, List.getElem?_cons_zero, Zah]
  have hS1le : h.length ≤ h1.length := (s0.cat s1).le
  generalize hml' : Zik i.1.2 t = ml at *
  refine Zcs.L4ind _ _ _ _ _ _ _ _ _ _ (J := fun (g : Nat) x7 a8 n8 c8 e8 x25 h' => x25 = (g : Int) ∧ g ≤ n ∧ Zbe h.length h h' ∧ h1.length < h'.length ∧ Row h'.length h' ma (mn * 2) (Zfa eP ml) ∧ x7 = (Zoe i.1.2 t && (i.2.take g).all fun p => (Zed ml p.2).isSome) ∧ n8 = g ∧ Vec Zar h' a8 n8 c8 (Zfa eP ((i.2.take g).map (Ykp ml))) ∧ (∀ j, a8 = some (j, 0) → h1.length ≤ j)) (fun g => n - g) ?_ 0 _ _ _ _ _ _ _
    ⟨rfl, by omega, S2, Own.lt o2, (fm.row Zek).same' s2, by simp, rfl, Vec.mk1 (by simpa using o2), fun j hj => by cases hj; omega⟩
  rintro g x7 a8 n8 c8 e8 x25 h' ⟨rfl, hg, hS, hlt1, hrm, rfl, rfl, hv, ha⟩ R hR
  unfold Zcs.L4t
  refine Zap (fun hlt => ?_) (fun hge => ?_)
  · obtain ⟨j, o, hgl, rfl, hj, hr, _, _⟩ := (r.same hS).pr (k := n8) (by omega)
    simp only [Zax, Int.toNat_natCast, hr, Zau, Zaf, Zaq, Zag, Zaz]
    rw [Zfi]
    generalize hq : h' ++ [Zcj.cells Zar [.str i.2[n8].1, .str i.2[n8].2] false] = hq'
    have sq : Zbe h'.length h' hq' := by rw [← hq]; exact Zas
    have oq : hq'[h'.length]? = some (.cells Zar [.str i.2[n8].1, .str i.2[n8].2] false) := by rw [← hq]; simp
    simp only [Zav, Zak oq, Nat.zero_add, List.getElem?_cons_succ, List.getElem?_cons_zero, Zag]
    refine ⟨by omega, (Zse (hrm.same' sq) (by omega)).mono ?_⟩
    rintro v h3 ⟨rfl, s3⟩
    have hshape : Zkx ml i.2[n8].2 = .tup [.str ((Zed ml i.2[n8].2).getD []), .bool (Zed ml i.2[n8].2).isSome] := by
      unfold Zkx; cases Zed ml i.2[n8].2 <;> rfl
    rw [hshape]
    simp only [Zct, Zaf, Zag, Zai, Zaq]
    have S3 := (hS.cat sq).cat s3
    have o3 := s3.get oq (Own.lt oq)
    have tk : (i.2.take (n8 + 1)).all (fun p => (Zed ml p.2).isSome) = ((i.2.take n8).all (fun p => (Zed ml p.2).isSome) && (Zed ml i.2[n8].2).isSome) := by
      rw [List.take_succ_eq_append_getElem hgl, List.all_append]; simp
    have go : ∀ b9, b9 = (Zoe i.1.2 t && (i.2.take (n8 + 1)).all fun p => (Zed ml p.2).isSome) → Zcs.J8 (Yfr i t h) R a8 n8 c8 e8 h'.length 0 ((Zed ml i.2[n8].2).getD []) (n8 : Int) (((n : Nat) : Int)) (some (j, o)) n c e ma mn mc me b9 h3 := by
      intro b9 hb9
      apply Zcs.J8i
      simp only [Zak o3, Nat.zero_add, List.getElem?_cons_zero, Zag, Zaz]
      refine ((hv.same sq).same s3).pushN Zxe Yff Ygz Ygf (by rw [Zbk Zek]; simp; omega) rfl (by omega) rfl (by omega) (fun h6 hl6 hi6 hk6 => ?_)
      simp only [Zah]
      apply Zcs.J9i
      rw [Zbs (by omega)]
      have hle := S3.le
      refine hR (n8 + 1) _ _ _ _ _ _ _ (by omega) ⟨rfl, by omega, ⟨by omega, fun j hj => ?_⟩, by have := sq.le; have := s3.le; omega, ?_, hb9, rfl, Vec.mk1 ?_, fun j hj => by cases hj; have := sq.le; have := s3.le; omega⟩
      · rw [hk6 j (by omega) fun q hq => by have := ha q hq; omega]; exact S3.eq j hj
      · have hr3 := (hrm.same' sq).same' s3
        obtain ⟨hx1, hx2⟩ := hr3
        rcases fm.2 with h0 | ⟨q2, hq2, _, hq3⟩
        · exact ⟨hx1, .inl (by omega)⟩
        · refine ⟨hx1, hx2.imp id ?_⟩
          rintro ⟨q, o', ty, all, ro, hqa, hqb, hqg, hq4, hq5⟩
          refine ⟨q, o', ty, all, ro, hqa, by omega, ?_, hq4, hq5⟩
          rw [hk6 q hqb fun q' hq' => ?_]
          · exact hqg
          · intro e
            subst e
            have h1l := ha q hq'
            rw [hqa] at hq2; cases hq2
            have := Own.lt hq3; omega
      · rw [hi6, List.take_succ_eq_append_getElem hgl, List.map_append, Zks]; rfl
    refine Zen (fun hb => go _ (by rw [tk, ← Bool.and_assoc, hb]; rfl)) (fun hb => go _ (by rw [tk, ← Bool.and_assoc, hb]; rfl))
  · apply Zcs.A4x0i
    have : n8 = n := by omega
    subst this
    rw [show i.2.take n8 = i.2 from List.take_of_length_le (by omega)] at hv ⊢
    have hnw : Zhw i t = if Zoe i.1.2 t && i.2.all (fun p => (Zed ml p.2).isSome) then some (i.2.map (Ykp ml)) else none := by
      unfold Zhw Zoe
      unfold Zik at hml'
      cases hm : Zio i.1.2 t with
      | none => rfl
      | some m =>
        rw [hm] at hml'
        simp only at hml'
        subst hml'
        simp only [Option.isSome_some, Bool.true_and]
        by_cases hall : i.2.all (fun p => (Zed (bdL m) p.2).isSome) = true
        · rw [if_pos hall, if_pos hall, Ycj hall]
        · rw [if_neg hall, if_neg hall]
    refine Zbv (fun hb => ?_) (fun hb => ?_)
    · have : Zhw i t = none := by rw [hnw, hb]; rfl
      exact ⟨hS, none, 0, 0, true, by rw [this]; rfl, by rw [this]; exact ⟨rfl, .inl rfl⟩⟩
    · have : Zhw i t = some (i.2.map (Ykp ml)) := by rw [hnw, hb]; rfl
      refine ⟨hS, a8, n8, c8, e8, by rw [this]; rfl, ?_⟩
      rw [this]
      exact hv.fresh (b := h.length) (by simp; omega) fun j hj => by have := ha j hj; omega
end Go.Sim

set_option linter.unusedVariables false
set_option linter.unusedSimpArgs false
set_option maxRecDepth 20000
namespace Go.Sim
open Go Go.RowKit

def Yck : List Nat := [88, 89, 90, 120, 121, 122, 49, 50, 51, 52, 53, 54]
theorem Zsw {v : Nat} (hv : Zcv v = true) : ∃ k : Nat, k < 6 ∧ Zee[k]? = some v ∧ Zqv Yck v = (k : Int) := by
  have := (Zns v).2 hv
  simp only [Zee, List.mem_cons, List.not_mem_nil, or_false] at this
  rcases this with rfl | rfl | rfl | rfl | rfl | rfl
  · exact ⟨0, by omega, rfl, rfl⟩
  · exact ⟨1, by omega, rfl, rfl⟩
  · exact ⟨2, by omega, rfl, rfl⟩
  · exact ⟨3, by omega, rfl, rfl⟩
  · exact ⟨4, by omega, rfl, rfl⟩
  · exact ⟨5, by omega, rfl, rfl⟩
theorem Zqm {t : Ty} (h : t.ok = true) : t.hd ∈ [105, 98, 117, 108, 109, 112, 120, 121, 122, 88, 89, 90] := by
  have := Ty.ok_ar h
  unfold arN Zlo Zcv at this
  simp only [Bool.or_eq_true, beq_iff_eq] at this
  simp only [List.mem_cons, List.not_mem_nil, or_false]
  split at this
  · omega
  · split at this
    · omega
    · split at this
      · omega
      · omega
theorem Zyi {t : Ty} (h : t.ok = true) (hv : Zcv t.hd = false) : Zqv Yck t.hd = -1 := by
  apply Ztv
  have := Zqm h
  simp only [List.mem_cons, List.not_mem_nil, or_false] at this
  rcases this with e | e | e | e | e | e | e | e | e | e | e | e <;> rw [e] at hv ⊢ <;> first | (exact absurd hv (by decide)) | decide
theorem Zrl {h : Zaa} (c : Nat) : Zad pg Zhi [.int .u8 (c : Int)] h fun v h' => v = .int .i64 (Zqv Yck c) ∧ h' = h := by
  apply Zpb.call
  refine (Zwk Yck c (by decide)).mono ?_
  rintro v h1 ⟨rfl, rfl⟩
  simp only [Zao]
  exact ⟨by trivial, by trivial⟩
def eR (x : Zan × Zan) : List Zan := [x.1, x.2]
theorem Zpd (x : Zan × Zan) : (eR x).length = 2 := rfl
theorem Ybm {α : Type} {enc : α → List Zan} {w : Nat} (hw : ∀ x, (enc x).length = w) : ∀ {l : List α} {k : Nat} {x : α}, k < l.length → putRow (Zfa enc l) (k * w) (enc x) = Zfa enc (l.set k x)
  | [], k, x, h => by simp at h
  | y :: l, 0, x, _ => by
    simp only [Nat.zero_mul, Zjp, List.set_cons_zero, putRow, List.take_zero, List.nil_append, Nat.zero_add, hw]
    rw [← hw y, List.drop_left]
  | y :: l, k + 1, x, h => by
    have ih := Ybm hw (l := l) (k := k) (x := x) (by simpa using h)
    unfold putRow at ih ⊢
    simp only [Zjp, List.set_cons_succ]
    rw [← ih, Nat.succ_mul, Nat.add_comm (k * w) w, ← hw y, List.take_length_add_append, Nat.add_assoc, List.drop_length_add_append]; simp only [List.append_assoc]
def Zpr (S : Nat → Prop) (h : Zaa) (i : Nat) (m : Bd) : Prop := ∃ rows : List (Zan × Zan), rows.length = 12 ∧ h[i]? = some (.cells Zdx (Zfa eR rows) false) ∧
  ∀ (k : Nat) (x : Zan × Zan), rows[k]? = some x → match (Zee[k]?).bind (Zge m) with | some t => Zgq S h t (eR x) | none => x = (.int .u8 0, .slice none 0 0 true)
theorem Zpr.keep {S : Nat → Prop} {h h' : Zaa} {i : Nat} {m : Bd} (r : Zpr S h i m) (hi : h'[i]? = h[i]?) (hh : ∀ j, S j → j < h.length → h'[j]? = h[j]?) : Zpr S h' i m := by
  obtain ⟨rows, h1, h2, h3⟩ := r
  refine ⟨rows, h1, by rw [hi]; exact h2, fun k x hx => ?_⟩
  have := h3 k x hx
  split at this
  · exact this.keep hh
  · exact this
theorem Zpr.same {S : Nat → Prop} {h h' : Zaa} {i : Nat} {m : Bd} (r : Zpr S h i m) (s : Zbe h.length h h') : Zpr S h' i m := by
  have hl : i < h.length := by obtain ⟨_, _, h2, _⟩ := r; exact Own.lt h2
  exact r.keep (s.eq i hl) fun j _ hj => s.eq j hj
theorem Zpr.lt {S : Nat → Prop} {h : Zaa} {i : Nat} {m : Bd} (r : Zpr S h i m) : i < h.length := by obtain ⟨_, _, h2, _⟩ := r; exact Own.lt h2
theorem Zpr.nil {S : Nat → Prop} {h : Zaa} {i : Nat} (hi : h[i]? = some (.cells Zdx (Zfa eR (List.replicate 12 (.int .u8 0, .slice none 0 0 true))) false)) : Zpr S h i [] := by
  refine ⟨_, by simp, hi, fun k x hx => ?_⟩
  have : (Zee[k]?).bind (Zge []) = none := by cases Zee[k]? <;> rfl
  rw [this]
  rw [List.getElem?_replicate] at hx
  split at hx
  · cases hx; rfl
  · cases hx
theorem Zpr.get {S : Nat → Prop} {h : Zaa} {i : Nat} {m : Bd} (r : Zpr S h i m) {k : Nat} (hk : k < 12) : ∃ x : Zan × Zan, Zae h (.ptr (some (i, 0 + k * 2 + 0))) = some x.1 ∧ Zbp h (.ptr (some (i, 0 + k * 2))) 2 = some [x.1, x.2] ∧
    match (Zee[k]?).bind (Zge m) with | some t => Zgq S h t [x.1, x.2] | none => x = (.int .u8 0, .slice none 0 0 true) := by
  obtain ⟨rows, h1, h2, h3⟩ := r
  have hrow : Row h.length h (some (i, 0)) (12 * 2) (Zfa eR rows) := ⟨by rw [Zbk Zpd, h1], .inr ⟨i, 0, _, _, _, rfl, Own.lt h2, h2, by rw [Zbk Zpd, h1]; simp, by rw [List.drop_zero, List.take_of_length_le (by rw [Zbk Zpd, h1]; simp)]⟩⟩
  obtain ⟨i', o', hk', he, _, hr, hc⟩ := Row.el Zpd hrow h1 hk (by omega)
  cases he
  exact ⟨rows[k], by have := hc 0 (by omega); simpa [eR] using this, hr, h3 k _ (List.getElem?_eq_getElem hk')⟩
def Ykm (S : Nat → Prop) (h : Zaa) (i : Nat) (m : Bd) : Prop := ∃ rows : List (Zan × Zan), rows.length = 12 ∧ h[i]? = some (.cells Zdx (Zfa eR rows) false) ∧
  ∀ (k : Nat) (x : Zan × Zan), k < 6 → rows[k]? = some x → match (Zee[k]?).bind (Zge m) with | some t => Zgq S h t (eR x) | none => x = (.int .u8 0, .slice none 0 0 true)
theorem Zpr.w {S : Nat → Prop} {h : Zaa} {i : Nat} {m : Bd} (r : Zpr S h i m) : Ykm S h i m := by
  obtain ⟨rows, h1, h2, h3⟩ := r
  exact ⟨rows, h1, h2, fun k x _ hx => h3 k x hx⟩
theorem Ykm.lt {S : Nat → Prop} {h : Zaa} {i : Nat} {m : Bd} (r : Ykm S h i m) : i < h.length := by obtain ⟨_, _, h2, _⟩ := r; exact Own.lt h2
theorem Ykm.same {S : Nat → Prop} {h h' : Zaa} {i : Nat} {m : Bd} (r : Ykm S h i m) (s : Zbe h.length h h') : Ykm S h' i m := by
  obtain ⟨rows, h1, h2, h3⟩ := r
  refine ⟨rows, h1, by rw [s.eq i (Own.lt h2)]; exact h2, fun k x hk hx => ?_⟩
  have := h3 k x hk hx
  split at this
  · exact this.keep fun j _ hj => s.eq j hj
  · exact this
theorem Ykm.get {S : Nat → Prop} {h : Zaa} {i : Nat} {m : Bd} (r : Ykm S h i m) {k : Nat} (hk : k < 6) : ∃ x : Zan × Zan, Zae h (.ptr (some (i, 0 + k * 2 + 0))) = some x.1 ∧ Zbp h (.ptr (some (i, 0 + k * 2))) 2 = some [x.1, x.2] ∧
    match (Zee[k]?).bind (Zge m) with | some t => Zgq S h t [x.1, x.2] | none => x = (.int .u8 0, .slice none 0 0 true) := by
  obtain ⟨rows, h1, h2, h3⟩ := r
  have hrow : Row h.length h (some (i, 0)) (12 * 2) (Zfa eR rows) := ⟨by rw [Zbk Zpd, h1], .inr ⟨i, 0, _, _, _, rfl, Own.lt h2, h2, by rw [Zbk Zpd, h1]; simp, by rw [List.drop_zero, List.take_of_length_le (by rw [Zbk Zpd, h1]; simp)]⟩⟩
  obtain ⟨i', o', hk', he, _, hr, hc⟩ := Row.el Zpd hrow h1 (show k < 12 by omega) (by omega)
  cases he
  exact ⟨rows[k], by have := hc 0 (by omega); simpa [eR] using this, hr, h3 k _ hk (List.getElem?_eq_getElem hk')⟩
theorem Zpr.put {S : Nat → Prop} {h : Zaa} {i : Nat} {m : Bd} (r : Zpr S h i m) (hSi : ∀ j, S j → j ≠ i) {k v : Nat} (hk : Zee[k]? = some v) (hg : Zge m v = none) {t : Ty} {x y : Zan} (ht : Zgq S h t [x, y]) :
    ∃ h', Zbd h (.ptr (some (i, 0 + k * 2))) [x, y] = some h' ∧ Zga i h h' ∧ Zpr S h' i (m ++ [(v, t)]) := by
  obtain ⟨rows, h1, h2, h3⟩ := r
  have hk6 : k < 6 := (List.getElem?_eq_some_iff.1 hk).1
  have hput : putRow (Zfa eR rows) (k * 2) (eR (x, y)) = Zfa eR (rows.set k (x, y)) := Ybm Zpd (by omega)
  refine ⟨h.set i (.cells Zdx (Zfa eR (rows.set k (x, y))) false), ?_, Zga.set _ _ _, ?_⟩
  · rw [Nat.zero_add, Zbq h2 (by rw [Zbk Zpd, h1]; simp; omega), ← hput]; rfl
  · have hkeep : ∀ j, S j → j < h.length → (h.set i (.cells Zdx (Zfa eR (rows.set k (x, y))) false))[j]? = h[j]? := fun j hj _ => Zbt (fun e => hSi j hj e.symm)
    refine ⟨_, by simp [h1], Zcp h2, fun k' x' hx' => ?_⟩
    by_cases e : k = k'
    · subst e
      rw [List.getElem?_set_self (by omega)] at hx'
      cases hx'
      rw [hk]
      simp only [Option.bind_some, Yca, hg, if_true]
      exact ht.keep hkeep
    · rw [List.getElem?_set_ne e] at hx'
      have := h3 k' x' hx'
      have hb : (Zee[k']?).bind (Zge (m ++ [(v, t)])) = (Zee[k']?).bind (Zge m) := by
        cases hv' : Zee[k']? with
        | none => rfl
        | some w =>
          simp only [Option.bind_some, Yca]
          cases hb : Zge m w with
          | some u => rfl
          | none =>
            have : ¬ v = w := fun e' => by
              subst e'
              have h5 := List.getElem?_eq_some_iff.1 hk
              have h6 := List.getElem?_eq_some_iff.1 hv'
              exact e ((List.getElem_inj (h₀ := h5.1) (h₁ := h6.1) Zpp).1 (h5.2.trans h6.2.symm))
            simp [this]
      rw [hb]
      split at this
      · exact this.keep hkeep
      · exact this
def Yny (S : Nat → Prop) (h : Zaa) (i : Nat) (r : Option Bd) (v : Zan) (h' : Zaa) : Prop := Zga i h h' ∧ (match r with | some m' => v = .bool true ∧ Zpr S h' i m' | none => v = .bool false)
theorem Zga.of_same {i : Nat} {h h' : Zaa} (s : Zbe h.length h h') : Zga i h h' := ⟨s.le, fun j hj _ => s.eq j hj⟩
theorem Zvs : ∀ (N : Nat) {a t : Ty} {S : Nat → Prop} {h : Zaa} {va vt : List Zan} {i n : Nat} {m : Bd}, a.size ≤ N → a.ok = true → t.ok = true → n ≤ 1048576 → t.txt.length ≤ n → BOk n m → (∀ j, S j → j ≠ i) → Zgq S h a va → Zgq S h t vt → Zpr S h i m →
    Zad pg Zji [.ptr (some (i, 0)), .agg va, .agg vt] h (Yny S h i (matchT m a t))
  | 0, a, t, S, h, va, vt, i, n, m, hN, _, _, _, _, _, _, _, _, _ => by have := a.size_ps; omega
  | N + 1, a, t, S, h, va, vt, i, n, m, hN, ha, ht, hB, hn, bo, hSi, ra, rt, rm => by
    have hcase := Zzd (m := m) ha ht
    obtain ⟨aa, ca, ea, vas, rfl, rowa, hSa, hval, hva⟩ := id ra.parts
    obtain ⟨at', ct, et, vts, rfl, rowt, hSt, hvtl, hvt⟩ := id rt.parts
    have hps2 : a.ps.length ≤ 2 := by cases a <;> simp [Ty.ps]
    have hil := rm.lt
    apply Zhe.call
    simp only [Zaz]
    generalize hh0 : h ++ [Zcj.cells Zac [.int .u8 (a.hd : Int), .slice aa a.ps.length ca ea] false] = h0
    generalize hh1 : h0 ++ [Zcj.cells Zac [.int .u8 (t.hd : Int), .slice at' t.ps.length ct et] false] = h1
    have s0 : Zbe h.length h h0 := by rw [← hh0]; exact Zas
    have s1 : Zbe h0.length h0 h1 := by rw [← hh1]; exact Zas
    have o0 : h0[h.length]? = some (.cells Zac [.int .u8 (a.hd : Int), .slice aa a.ps.length ca ea] false) := by rw [← hh0]; simp
    have oa := s1.get o0 (Own.lt o0)
    have ot : h1[h0.length]? = some (.cells Zac [.int .u8 (t.hd : Int), .slice at' t.ps.length ct et] false) := by rw [← hh1]; simp
    have S1 := s0.cat s1
    have l0 : h0.length = h.length + 1 := by rw [← hh0]; simp
    have l1 : h1.length = h.length + 2 := by rw [← hh1]; simp [l0]
    simp only [Zak oa, Nat.zero_add, List.getElem?_cons_succ, List.getElem?_cons_zero, Zao]
    refine (Zrl a.hd).mono ?_
    rintro v h2 ⟨rfl, rfl⟩
    have rm1 := rm.same S1
    have K1 : Zga i h h2 := Zga.of_same S1
    simp only [Zao, Zax]
    cases hv : Zcv a.hd with
    | true =>
      rw [hv] at hcase
      simp only [if_true] at hcase
      obtain ⟨k, hk6, hkv, hix⟩ := Zsw hv
      rw [hix]
      obtain ⟨x, hx1, hx2, hx3⟩ := rm1.get (k := k) (by omega)
      rw [hkv, Option.bind_some] at hx3
      have hge : decide ((k : Int) ≥ 0) = true := by simp
      simp only [hge, Zbj, Int.toNat_natCast, hx1, hx2, Zdt ot (show 0 + 2 ≤ _ by simp), List.drop_zero, List.take_succ_cons, List.take_zero, Zau, Zaf, Zaq, Zao, Zah]
      refine ⟨by omega, ?_⟩
      cases hg : Zge m a.hd with
      | none =>
        rw [hg] at hx3
        simp only at hx3
        subst hx3
        have hbn : Znb m a.hd t = some (m ++ [(a.hd, t)]) := by unfold Znb; rw [hg]
        rw [hcase, hbn]
        simp only [Zao, show ((0 : Int) == 0) = true from rfl, Zbj]
        obtain ⟨h', hst, hK, hr'⟩ := rm1.put hSi hkv hg (rt.same S1)
        rw [hst]
        simp only [Zav]
        exact ⟨by omega, K1.trans hK, rfl, hr'⟩
      | some u =>
        rw [hg] at hx3
        simp only at hx3
        have hu := bo.var _ (Zok hg)
        obtain ⟨ux, uc, ue, hux⟩ := hx3.shape
        simp only [List.cons.injEq, and_true] at hux
        obtain ⟨hux1, hux2⟩ := hux
        rw [hux1, hux2] at hx2 hx3
        rw [hux1, hux2]
        simp only [Zao, Zah]
        have hu0 : (((u.hd : Nat) : Int) == 0) = false := by
          have := Zqm hu.2.1
          have hne : u.hd ≠ 0 := fun e => by rw [e] at this; simp at this
          simp; omega
        simp only [hu0, Zay]
        have rt1 := rt.same S1
        refine ⟨by omega, (Znn _ (Nat.le_refl _) (by omega) hu.2.1 hx3).mono ?_⟩
        rintro v h3 ⟨rfl, s3⟩
        have ot3 := s3.get ot (Own.lt ot)
        have rt3 := rt1.same s3
        simp only [Zag, Zdt ot3 (show 0 + 2 ≤ _ by simp), List.drop_zero, List.take_succ_cons, List.take_zero, true_and]
        refine (Znn _ (Nat.le_refl _) (by omega) ht rt3).mono ?_
        rintro v h4 ⟨rfl, s4⟩
        simp only [Zag]
        have hri : ∀ hx, Zbe h2.length h2 hx → Zbp hx (.ptr (some (i, 0 + k * 2))) 2 = Zbp h2 (.ptr (some (i, 0 + k * 2))) 2 := fun hx sx => by
          simp only [Zbp, sx.eq i (by omega)]
        rw [hri _ (s3.cat s4), hri _ s3]
        refine ⟨by trivial, ?_⟩
        have K4 : Zga i h h4 := K1.trans (Zga.of_same (s3.cat s4))
        by_cases he : u = t
        · subst he
          have hbn : Znb m a.hd u = some m := by unfold Znb; rw [hg]; simp
          rw [hcase, hbn]
          exact ⟨K4, by simp, (rm1.same (s3.cat s4))⟩
        · have hne : ¬ u.txt = t.txt := fun e => he (Ty.txt_inj' hu.2.1 ht e)
          have hbn : Znb m a.hd t = none := by unfold Znb; rw [hg]; simp [he]
          rw [hcase, hbn]
          exact ⟨K4, by simp [hne]⟩
    | false =>
      rw [hv] at hcase
      simp only [Bool.false_eq_true, if_false] at hcase
      rw [Zyi ha hv]
      have hge : decide ((-1 : Int) ≥ 0) = false := by decide
      simp only [hge, Zay, Zak ot, Zak oa, List.getElem?_cons_succ, List.getElem?_cons_zero, Zao, Zah]
      refine Zer (fun hne => ?_) (fun he => ?_)
      · rw [if_neg (fun e => hne (by rw [e]))] at hcase
        rw [hcase]
        exact ⟨K1, rfl⟩
      · have he' : a.hd = t.hd := by omega
        rw [if_pos he'] at hcase
        rw [hcase]
        have hlen := Ybz ha ht he'
        refine Zhe.L10ind _ _ _ _ _ _ _ (J := fun (g : Nat) x43 h' => x43 = (g : Int) ∧ g ≤ a.ps.length ∧ Zga i h2 h' ∧ ∃ m1, matchL m (a.ps.take g) (t.ps.take g) = some m1 ∧ Zpr S h' i m1) (fun g => a.ps.length - g) ?_ 0 _ _ ⟨rfl, by omega, Zga.refl _ _, m, by simp [matchL], rm1⟩
        rintro g x43 h' ⟨rfl, hg, hK, m1, hm1, rm1⟩ R hR
        unfold Zhe.L10t
        have KK := K1.trans hK
        refine Zap (fun hlt => ?_) (fun hge => ?_)
        · have hga : g < a.ps.length := by omega
          have hgt : g < t.ps.length := by omega
          have oa1 : h'[h.length]? = some (.cells Zac [.int .u8 (a.hd : Int), .slice aa a.ps.length ca ea] false) := by rw [hK.eq _ (Own.lt oa) (by omega)]; exact oa
          have ot1 : h'[h0.length]? = some (.cells Zac [.int .u8 (t.hd : Int), .slice at' t.ps.length ct et] false) := by rw [hK.eq _ (Own.lt ot) (by omega)]; exact ot
          obtain ⟨ja, ofa, a3, c3, e3, rfl, hra, hka⟩ := Zgq.get (rowa.keepAt (i := i) (fun j o h0 e => hSi j (hSa j o (by omega) e)) KK) hval (fun k w x h1 h2 => (hva k w x h1 h2).keep fun j hj hl => KK.eq j hl (hSi j hj)) hga
          obtain ⟨jt, oft, a4, c4, e4, rfl, hrt, hkt⟩ := Zgq.get (rowt.keepAt (i := i) (fun j o h0 e => hSi j (hSt j o (by omega) e)) KK) hvtl (fun k w x h1 h2 => (hvt k w x h1 h2).keep fun j hj hl => KK.eq j hl (hSi j hj)) hgt
          simp only [Zax, Int.toNat_natCast, Zak oa1, Zak ot1, hra, hrt, Nat.zero_add, List.getElem?_cons_succ, List.getElem?_cons_zero, Zah, Zau, Zaf, Zaq, Zao, true_and]
          have hma := List.getElem_mem hga
          have hmt := List.getElem_mem hgt
          have h1 := Ty.size_part hma
          have h2 := Ty.len_part hmt
          have bo1 : BOk n m1 := BOk.matchL (fun x hx => Ty.ok_ps ha x (List.mem_of_mem_take hx)) (fun x hx => ⟨Ty.ok_ps ht x (List.mem_of_mem_take hx), by have := Ty.len_part (List.mem_of_mem_take hx); omega⟩) bo hm1
          have htk := Zpg a.ps t.ps m g hga hgt
          rw [hm1] at htk
          simp only at htk
          refine ⟨by omega, by omega, (Zvs N (by omega) (Ty.ok_ps ha _ hma) (Ty.ok_ps ht _ hmt) hB (by omega) bo1 hSi hka hkt rm1).mono ?_⟩
          rintro v h3 ⟨K3, hres⟩
          have oa3 : h3[h.length]? = some (.cells Zac [.int .u8 (a.hd : Int), .slice (some (ja, ofa)) a.ps.length ca ea] false) := by rw [K3.eq _ (Own.lt oa1) (by omega)]; exact oa1
          cases hmm : matchT m1 a.ps[g] t.ps[g] with
          | none =>
            rw [hmm] at hres htk
            subst hres
            simp only [Zai, Bool.not_false, Zbj, Zak oa3, List.getElem?_cons_succ, List.getElem?_cons_zero, true_and]
            rw [Zpo a.ps t.ps m (g + 1) hlen htk]
            exact ⟨KK.trans K3, rfl⟩
          | some m2 =>
            rw [hmm] at hres htk
            obtain ⟨rfl, rm2⟩ := hres
            simp only [Zai, Bool.not_true, Zay, Zak oa3, List.getElem?_cons_succ, List.getElem?_cons_zero, true_and]
            rw [Zbs (by omega)]
            exact hR (g + 1) _ _ (by omega) ⟨rfl, by omega, hK.trans K3, m2, htk, rm2⟩
        · apply Zhe.A10x0i
          have : g = a.ps.length := by omega
          subst this
          rw [List.take_length, hlen, List.take_length] at hm1
          rw [hm1]
          exact ⟨KK, rfl, rm1⟩
end Go.Sim

set_option linter.unusedVariables false
set_option linter.unusedSimpArgs false
set_option maxRecDepth 20000
namespace Go.Sim
open Go Go.RowKit

theorem Zpl : ∀ (N : Nat) {S : Nat → Prop} {h : Zaa} {t : Ty} {v : List Zan}, t.size ≤ N → t.txt.length ≤ 1048576 → Zgq S h t v → Zad pg Zgl [.agg v] h fun x h' => x = .int .i64 (t.txt.length : Nat) ∧ Zbe h.length h h'
  | 0, S, h, t, v, hN, _, _ => by have := t.size_ps; omega
  | N + 1, S, h, t, v, hN, hB, r => by
    obtain ⟨a, c, e, vs, rfl, hrow, hS, hvl, hp⟩ := r.parts
    have hps2 : t.ps.length ≤ 2 := by cases t <;> simp [Ty.ps]
    have htx := t.txt_mids
    have hln := congrArg List.length htx
    rw [List.length_append, List.length_cons] at hln
    apply Zem.call
    simp only [Zaz, Zes, Nat.zero_add, List.getElem?_cons_succ, List.getElem?_cons_zero, Zah]
    generalize hh0 : h ++ [Zcj.cells Zac [.int .u8 (t.hd : Int), .slice a t.ps.length c e] false] = h0
    have s0 : Zbe h.length h h0 := by rw [← hh0]; exact Zas
    have o0 : h0[h.length]? = some (.cells Zac [.int .u8 (t.hd : Int), .slice a t.ps.length c e] false) := by rw [← hh0]; simp
    refine Zem.L3ind _ _ _ _ _ _ _ _ (J := fun (g : Nat) x3 x9 h' => x9 = (g : Int) ∧ g ≤ t.ps.length ∧ Zbe h.length h h' ∧ Zbe h0.length h0 h' ∧ x3 = ((1 + (Zmd 0 (t.ps.take g)).length : Nat) : Int)) (fun g => t.ps.length - g) ?_ 0 _ _ _ ⟨rfl, by omega, s0, Zbe.refl _ _, by simp [Zmd]⟩
    rintro g x3 x9 h' ⟨rfl, hg, hSm, hS1, rfl⟩ R hR
    unfold Zem.L3t
    have o2 := hS1.get o0 (Own.lt o0)
    refine Zap (fun hlt => ?_) (fun hge => ?_)
    · have hg' : g < t.ps.length := by omega
      obtain ⟨i, o, a2, c2, e2, rfl, hr, hk⟩ := Zgq.get (hrow.same' hSm) hvl (fun k w x h1 h2 => (hp k w x h1 h2).same hSm) hg'
      simp only [Zax, Int.toNat_natCast, hr, Zau, Zaf, Zaq, Zao, Zah, Zaz]
      rw [Zfi]
      simp only [Zav]
      rw [Yip]
      simp only [Zau, Zaf, Zaq, Zao, Zah]
      have hm := List.getElem_mem hg'
      have h1 := Ty.size_part hm
      have h2 := Ty.len_part hm
      have hmt := Zrd t.ps 0 g hg'
      have hml : (Zmd 0 (t.ps.take (g + 1))).length ≤ (Zmd 0 t.ps).length := Zte _ _ _
      have hmtl := congrArg List.length hmt
      simp only [List.length_append, List.length_cons, Nat.zero_add] at hmtl
      have s2 : Zbe h'.length h' (h' ++ [.cells Zac [.int .u8 (t.ps[g].hd : Int), .slice a2 t.ps[g].ps.length c2 e2] false]) := Zas
      refine ⟨by omega, (Zpl N (by omega) (by omega) (hk.same s2)).mono ?_⟩
      rintro x h3 ⟨rfl, s3⟩
      simp only [Zao]
      rw [Zbs (by omega), Zbs (by omega), IntWalk.i64_in _ (by omega)]
      exact hR (g + 1) _ _ _ (by omega) ⟨rfl, by omega, (hSm.cat s2).cat s3, (hS1.cat s2).cat s3, by omega⟩
    · apply Zem.A3x0i
      have : g = t.ps.length := by omega
      subst this
      simp only [Zak o2, Nat.zero_add, List.getElem?_cons_succ, List.getElem?_cons_zero, Zah]
      rw [List.take_length]
      refine Zap (fun hpos => ?_) (fun hneg => ?_)
      · have hne : t.ps ≠ [] := fun e => by rw [e] at hpos; simp at hpos
        rw [if_neg hne] at hln
        apply Zem.J9i
        simp only [List.length_cons, List.length_nil] at hln
        rw [Zbs (by omega)]
        exact ⟨by congr 1; omega, hSm⟩
      · have hne : t.ps = [] := List.eq_nil_of_length_eq_zero (by omega)
        rw [if_pos hne] at hln
        simp only [List.length_nil] at hln
        apply Zem.J9i
        exact ⟨by congr 1; omega, hSm⟩
def Zzs (m : Bd) (g : Nat) : List Nd := (Zee.take g).filterMap fun v => (Zge m v).map fun t => ([v], t.txt)
theorem Yhj (m : Bd) (g : Nat) : Zzs m (g + 1) = Zzs m g ++ (match Zee[g]? with | some v => (match Zge m v with | some t => [([v], t.txt)] | none => []) | none => []) := by
  unfold Zzs
  rw [List.take_succ, List.filterMap_append]
  cases Zee[g]? with
  | none => simp
  | some v => cases hb : Zge m v <;> simp [hb]
theorem Yiu (m : Bd) (g : Nat) : (Zzs m g).length ≤ 6 := by
  unfold Zzs
  refine Nat.le_trans (List.length_filterMap_le _ _) ?_
  rw [List.length_take]; exact Nat.le_trans (Nat.min_le_right _ _) (by decide)
theorem Yjk {g v : Nat} (hv : Zee[g]? = some v) : sub [88, 89, 90, 120, 121, 122, 49, 50, 51, 52, 53, 54] (g : Int) ((g : Int) + 1) = [v] := by
  have hg : g < 6 := (List.getElem?_eq_some_iff.1 hv).1
  match g, hg with
  | 0, _ | 1, _ | 2, _ | 3, _ | 4, _ | 5, _ => simp [Zee] at hv; subst hv; rfl
theorem Yha {S : Nat → Prop} {h : Zaa} {i : Nat} {m : Bd} (rm : Zpr S h i m) (bo : BOk 60 m) :
    Zad pg Zmn [.ptr (some (i, 0))] h fun v h' => Zbe h.length h h' ∧ ∃ a n c e, v = .tup [.slice a n c e, .bool true] ∧ n ≤ c ∧ Zej Zbb eP h.length h' a n (bdL m) := by
  apply Zei.call
  simp only [Zaz, Zax]
  generalize hh0 : h ++ [Zcj.cells Zbb [] false] = h0
  have s0 : Zbe h.length h h0 := by rw [← hh0]; exact Zas
  have l0 : h0.length = h.length + 1 := by rw [← hh0]; simp
  have o0 : h0[h.length]? = some (.cells Zbb [] false) := by rw [← hh0]; simp
  refine Zei.L3ind _ _ (J := fun (g : Nat) a4 n4 c4 e4 x10 h' => x10 = (g : Int) ∧ g ≤ 12 ∧ Zbe h.length h h' ∧ n4 = (Zzs m g).length ∧ n4 ≤ c4 ∧ Vec Zbb h' a4 n4 c4 (Zfa eP (Zzs m g)) ∧ (∀ i, a4 = some (i, 0) → h.length ≤ i)) (fun g => 12 - g) ?_ 0 _ _ _ _ _ _
    ⟨rfl, by omega, s0, by simp [Zzs], Nat.le_refl _, Vec.mk1 (by simpa [Zzs] using o0), fun i hi => by cases hi; omega⟩
  rintro g a4 n4 c4 e4 x10 h' ⟨rfl, hg, hSm, rfl, hnc, hv, ha⟩ R hR
  unfold Zei.L3t
  have hbl := Yiu m g
  refine Zap (fun hlt => ?_) (fun hge => ?_)
  · have hg' : g < 12 := by omega
    obtain ⟨x, hx1, hx2, hx3⟩ := (rm.same hSm).get hg'
    have il := (rm.same hSm).lt
    have hx : ∃ (d : Nat) (a : Pt) (n c : Nat) (e : Bool), x = (.int .u8 (d : Int), .slice a n c e) ∧ (match (Zee[g]?).bind (Zge m) with | some t => d = t.hd | none => d = 0) := by
      split at hx3
      · rename_i t ht
        obtain ⟨ua, uc, ue, hu⟩ := hx3.shape
        simp only [List.cons.injEq, and_true] at hu
        exact ⟨t.hd, ua, t.ps.length, uc, ue, by rw [← hu.1, ← hu.2], by first | rfl | rw [ht]⟩
      · rename_i hn; exact ⟨0, none, 0, 0, true, hx3, by first | rfl | rw [hn]⟩
    obtain ⟨d, ua, un, uc, ue, rfl, hd⟩ := hx
    simp only [Int.toNat_natCast, hx2, Zax, Zau, Zaf, Zaq, Zao, Zah, Zaz]
    generalize hq : h' ++ [Zcj.cells Zac [.int .u8 0, .slice none 0 0 true] false] = hq'
    have sq : Zbe h'.length h' hq' := by rw [← hq]; exact Zas
    have hrq : Zbp hq' (.ptr (some (i, 0 + g * 2))) 2 = some [.int .u8 (d : Int), .slice ua un uc ue] := by
      rw [← hx2]; simp only [Zbp, sq.eq i il]
    rw [hrq, ← hq, Zfi]
    generalize hw : h' ++ [Zcj.cells Zac [.int .u8 (d : Int), .slice ua un uc ue] false] = hw'
    have sw : Zbe h'.length h' hw' := by rw [← hw]; exact Zas
    have ow : hw'[h'.length]? = some (.cells Zac [.int .u8 (d : Int), .slice ua un uc ue] false) := by rw [← hw]; simp
    simp only [Zav, Zak ow, Nat.zero_add, List.getElem?_cons_zero, Zao, true_and]
    have SW := hSm.cat sw
    have hsuc := Yhj m g
    have skip : (Zee[g]?).bind (Zge m) = none → Zei.J9 (fun v h' => Zbe h.length h h' ∧ ∃ a n c e, v = .tup [.slice a n c e, .bool true] ∧ n ≤ c ∧ Zej Zbb eP h.length h' a n (bdL m)) R (g : Int) (some (i, 0)) a4 (Zzs m g).length c4 e4 hw' := by
      intro hn
      have hsame : Zzs m (g + 1) = Zzs m g := by
        rw [hsuc]
        cases hvg : Zee[g]? with
        | none => simp
        | some v => rw [hvg, Option.bind_some] at hn; simp [hn]
      apply Zei.J9i
      rw [Zbs (by omega)]
      exact hR (g + 1) _ _ _ _ _ _ (by omega) ⟨rfl, by omega, SW, by rw [hsame], hnc, by rw [hsame]; exact hv.same sw, ha⟩
    refine ⟨by omega, ?_⟩
    cases hb : (Zee[g]?).bind (Zge m) with
    | none =>
      rw [hb] at hd
      simp only at hd
      subst hd
      simp only [show (((0 : Nat) : Int) == 0) = true from rfl, Zbj]
      exact skip hb
    | some t =>
      rw [hb] at hd hx3
      simp only at hd hx3
      obtain ⟨v, hvg, hbv⟩ := Option.bind_eq_some_iff.1 hb
      have hu := bo.var _ (Zok hbv)
      have hg6 : g < 6 := (List.getElem?_eq_some_iff.1 hvg).1
      have hd0 : ((d : Int) == 0) = false := by
        have := Zqm hu.2.1
        have hne : t.hd ≠ 0 := fun e => by rw [e] at this; simp at this
        simp; omega
      rw [show decide ((g : Int) ≥ 6) = false by simp; omega]
      simp only [hd0, Zay]
      apply Zei.J6i
      rw [← hw, Yip, hw]
      simp only [Zau, Zaf, Zaq, Zao, Zah]
      have hu2 : t.txt.length ≤ 60 := hu.2.2
      refine (Zpl _ (Nat.le_refl _) (by omega) (hx3.same sw)).mono ?_
      rintro v' h3 ⟨rfl, s3⟩
      have o3 := s3.get ow (Own.lt ow)
      simp only [Zao]
      rw [show decide (((t.txt.length : Nat) : Int) > 60) = false by simp; omega]
      simp only [Zay, Zdt o3 (show 0 + 2 ≤ _ by simp), List.drop_zero, List.take_succ_cons, List.take_zero, Zau, Zaf, Zaq, Zao, Zah]
      rw [Zbs (by omega), show (((g + 1 : Nat) : Int)) = (g : Int) + 1 by omega, Yjk hvg]
      refine ⟨⟨by omega, by omega, by simp; omega⟩, (Znn _ (Nat.le_refl _) (by omega) hu.2.1 ((hx3.same sw).same s3)).mono ?_⟩
      rintro v' h4 ⟨rfl, s4⟩
      simp only [Zag, Zaz]
      have S4 := (SW.cat s3).cat s4
      refine (((hv.same sw).same s3).same s4).pushN Ztn Zyv Zxg Zxk (by rw [Zbk Zek]) rfl (by omega) rfl (by omega) (fun h6 hl6 hi6 hk6 => ?_)
      simp only [Zah]
      apply Zei.J9i
      rw [Zbs (by omega)]
      have hle := S4.le
      have hs' : Zzs m (g + 1) = Zzs m g ++ [([v], t.txt)] := by rw [hsuc, hvg]; simp [hbv]
      refine hR (g + 1) _ _ _ _ _ _ (by omega) ⟨rfl, by omega, ⟨by omega, fun j hj => ?_⟩, by rw [hs']; simp, Nat.le_refl _, Vec.mk1 ?_, fun i hi => by cases hi; omega⟩
      · rw [hk6 j (by omega) fun i hi => by have := ha i hi; omega]; exact S4.eq j hj
      · rw [hi6, hs', Zks]; rfl
  · apply Zei.A3x0i
    have : g = 12 := by omega
    subst this
    have hb12 : Zzs m 12 = bdL m := by unfold Zzs bdL; rw [List.take_of_length_le (by decide)]
    rw [hb12] at hv hnc ⊢
    exact ⟨hSm, _, _, _, _, rfl, hnc, hv.fresh (b := h.length) rfl fun i hi => ha i hi⟩
theorem Yhm : Zfa eR (List.replicate 12 (Zan.int .u8 0, Zan.slice none 0 0 true)) = [.int .u8 0, .slice none 0 0 true, .int .u8 0, .slice none 0 0 true, .int .u8 0, .slice none 0 0 true, .int .u8 0, .slice none 0 0 true, .int .u8 0, .slice none 0 0 true, .int .u8 0, .slice none 0 0 true, .int .u8 0, .slice none 0 0 true, .int .u8 0, .slice none 0 0 true, .int .u8 0, .slice none 0 0 true, .int .u8 0, .slice none 0 0 true, .int .u8 0, .slice none 0 0 true, .int .u8 0, .slice none 0 0 true] := rfl
theorem Zoo {h h' : Zaa} {s : List Nat} {vs : List Zan} (hm : match Zhz s with | some t => Zgq (Btw h.length h'.length) h' t vs | none => vs = [.int .u8 0, .slice none 0 0 true]) : ∃ (d : Int) (a : Pt) (n c : Nat) (e : Bool), vs = [.int .u8 d, .slice a n c e] := by
  split at hm
  · obtain ⟨a, c, e, rfl⟩ := hm.shape; exact ⟨_, _, _, _, _, rfl⟩
  · exact ⟨_, _, _, _, _, hm⟩
theorem Zqs (p s : List Nat) (hp0 : p.length ≤ 1048576) (hs0 : s.length ≤ 1048576) (h : Zaa) : Zad pg Zhs [.str p, .str s] h (Ycc p s h) := by
  apply Zjv.call
  refine (Znu p (by omega) h).mono ?_
  rintro v h1 ⟨s1, vs1, rfl, r1⟩
  obtain ⟨d1, a1, n1, c1, e1, rfl⟩ := Zoo r1
  simp only [Zct, Zaf, Zde, Zao, Zah, Zaq, Zai, Zaz]
  rw [Zfi]
  generalize hh2 : h1 ++ [Zcj.cells Zac [.int .u8 d1, .slice a1 n1 c1 e1] false] = h2
  have s2 : Zbe h1.length h1 h2 := by rw [← hh2]; exact Zas
  have o2 : h2[h1.length]? = some (.cells Zac [.int .u8 d1, .slice a1 n1 c1 e1] false) := by rw [← hh2]; simp
  simp only [Zav]
  refine (Znu s (by omega) h2).mono ?_
  rintro v h3 ⟨s3, vs3, rfl, r3⟩
  obtain ⟨d3, a3, n3, c3, e3, rfl⟩ := Zoo r3
  simp only [Zct, Zaf, Zde, Zao, Zah, Zaq, Zai]
  rw [Zfi]
  generalize hh4 : h3 ++ [Zcj.cells Zac [.int .u8 d3, .slice a3 n3 c3 e3] false] = h4
  have s4 : Zbe h3.length h3 h4 := by rw [← hh4]; exact Zas
  have o4 : h4[h3.length]? = some (.cells Zac [.int .u8 d3, .slice a3 n3 c3 e3] false) := by rw [← hh4]; simp
  simp only [Zav]
  rw [← Yhm]
  generalize hh5 : h4 ++ [Zcj.cells Zdx (Zfa eR (List.replicate 12 (Zan.int .u8 0, Zan.slice none 0 0 true))) false] = h5
  have s5 : Zbe h4.length h4 h5 := by rw [← hh5]; exact Zas
  have o5 : h5[h4.length]? = some (.cells Zdx (Zfa eR (List.replicate 12 (Zan.int .u8 0, Zan.slice none 0 0 true))) false) := by rw [← hh5]; simp
  have x2 : h5[h1.length]? = some (.cells Zac [.int .u8 d1, .slice a1 n1 c1 e1] false) := s5.get (s4.get (s3.get o2 (Own.lt o2)) (by have := Own.lt o2; have := s3.le; omega)) (by have := Own.lt o2; have := s3.le; have := s4.le; omega)
  have x4 := s5.get o4 (Own.lt o4)
  have S2 := s1.cat s2
  have S5 := (((S2.cat s3).cat s4).cat s5)
  have no : Zio p s = none → ∀ hz, Zbe h.length h hz → Ycc p s h (.tup [.slice (some (hz.length, 0)) 0 0 true, .bool false]) (hz ++ [Zcj.cells Zbb [] false]) := fun hn hz sz =>
    ⟨sz.cat Zas, _, 0, 0, true, by unfold Zoe; rw [hn]; rfl, Nat.le_refl _, by unfold Zik; rw [hn]; exact ⟨rfl, .inl rfl⟩⟩
  cases hp : Zhz p with
  | none =>
    have : Zls p = false := by unfold Zls; rw [hp]; rfl
    rw [this]
    simp only [Bool.not_false, Zbj]
    exact no (by unfold Zio; rw [hp]) _ S5
  | some a =>
    rw [Yfn hp]
    simp only [Bool.not_true, Zay]
    cases ht : Zhz s with
    | none =>
      have : Zls s = false := by unfold Zls; rw [ht]; rfl
      rw [this]
      simp only [Bool.not_false, Zbj]
      exact no (by unfold Zio; rw [hp, ht]) _ S5
    | some t =>
      rw [Yfn ht]
      rw [hp] at r1
      rw [ht] at r3
      simp only at r1 r3
      simp only [Bool.not_true, Zay, Zdt x2 (show 0 + 2 ≤ _ by simp), Zdt x4 (show 0 + 2 ≤ _ by simp), List.drop_zero, List.take_succ_cons, List.take_zero, Zau, Zaf, Zaq, Zao, Zah]
      obtain ⟨ha1, ha2, ha3⟩ := Zeq.1 hp
      obtain ⟨ht1, ht2, ht3⟩ := Zeq.1 ht
      have hms : Zio p s = matchT [] a t := by unfold Zio; rw [hp, ht]
      have l3 := s3.le; have l4 := s4.le; have l2 := s2.le
      have R1 := ((((r1.same s2).same s3).same s4).same s5).mono (S' := fun j => j ≠ h4.length) (fun j hj => by have := hj.2; omega)
      have R3 := ((r3.same s4).same s5).mono (S' := fun j => j ≠ h4.length) (fun j hj => by have := hj.2; omega)
      refine (Zvs _ (Nat.le_refl _) ha1 ht1 (n := 60) (by omega) (by rw [← ht2]; exact ht3) BOk.nil (fun j hj => hj) R1 R3 (Zpr.nil o5)).mono ?_
      rintro v h6 ⟨K6, hres⟩
      have l5 := S5.le
      have lh4 : h.length ≤ h4.length := (((S2.cat s3).cat s4)).le
      have S6 : Zbe h.length h h6 := ⟨by have := K6.le; omega, fun j hj => by rw [K6.eq j (by omega) (by omega)]; exact S5.eq j hj⟩
      cases hm : matchT [] a t with
      | none =>
        rw [hm] at hres hms
        subst hres
        simp only [Zai, Bool.not_false, Zbj]
        exact no hms _ S6
      | some m =>
        rw [hm] at hres hms
        obtain ⟨rfl, rm6⟩ := hres
        simp only [Zai, Bool.not_true, Zay]
        apply Zjv.J6i
        refine (Yha rm6 (Zum hms)).mono ?_
        rintro v h7 ⟨s7, a7, n7, c7, e7, rfl, hc7, f7⟩
        simp only [Zct, Zaf, Zah, Zai, Zaq]
        refine ⟨S6.cat s7, a7, n7, c7, e7, by unfold Zoe; rw [hms]; rfl, hc7, ?_⟩
        unfold Zik; rw [hms]
        exact ⟨f7.1, f7.2.imp id fun ⟨i, ha, hb, hi⟩ => ⟨i, ha, by have := S6.le; omega, hi⟩⟩
theorem Zuv (p s : List Nat) (hp0 : p.length ≤ 1048576) (hs0 : s.length ≤ 1048576) (h : Zaa) : Zad pg Zjc [.str p, .str s] h fun v h' => v = .bool (Zoe p s) ∧ Zbe h.length h h' := by
  apply Zlx.call
  refine (Zqs p s hp0 hs0 h).mono ?_
  rintro v h1 ⟨s1, a, n, c, e, rfl, _⟩
  simp only [Zct, Zaf, Zah, Zai, Zaq]
  exact ⟨by trivial, s1⟩
end Go.Sim

set_option linter.unusedVariables false
set_option linter.unusedSimpArgs false
set_option maxRecDepth 20000
namespace Go.Sim
open Go Go.RowKit

theorem Ydf {s : List Nat} (h : ((s.length : Nat) : Int) ≠ 1) : Ziu s = false := by
  match s, h with
  | [], _ => rfl
  | [x], h => exact absurd rfl h
  | _ :: _ :: _, _ => rfl
theorem Yni {s : List Nat} (h : ((s.length : Nat) : Int) = 1) : ∃ v, s = [v] := by
  match s, h with
  | [], h => simp at h
  | [x], _ => exact ⟨x, rfl⟩
  | _ :: _ :: _, h => simp at h; omega
theorem Zrm {h : Zaa} {a : Pt} {n c : Nat} {e : Bool} {l : List Nd} (r : Row h.length h a (n * 2) (Zfa eP l)) (hn : n ≤ 1048576) (hb : ∀ p ∈ l, p.2.length ≤ 1048576) (hb1 : ∀ p ∈ l, ∀ x ∈ p.1, x < 256) :
    Zad pg Zgx [.slice a n c e] h fun v h' => v = .bool (Zgk l) ∧ Zbe h.length h h' := by
  have hl : l.length = n := by have := r.1; rw [Zbk Zek] at this; omega
  apply Zdg.call
  refine Zdg.L2ind _ _ _ _ _ _ _ _ _ _ (J := fun (g : Nat) x7 h' => x7 = (g : Int) ∧ g ≤ n ∧ Zbe h.length h h' ∧ (List.range g).all (Zoc l) = true) (fun g => n - g) ?_ 0 _ _ ⟨rfl, by omega, Zbe.refl _ _, rfl⟩
  rintro g x7 h' ⟨rfl, hg, hS, hk⟩ R hR
  unfold Zdg.L2t
  refine Zap (fun hlt => ?_) (fun hge => ?_)
  · obtain ⟨i, o, hgl, rfl, hi, hr, _, _⟩ := (r.same hS).pr (k := g) (by omega)
    have hat : Zoc l g = (Ziu l[g].1 && Zls l[g].2 && (g == 0 || Zdk (l.getD (g - 1) ([], [])).1 l[g].1)) := by unfold Zoc; rw [Zez hgl]
    have no : Zoc l g = false → Zgk l = false := fun hno => Zin hgl hno
    have hbg := hb _ (List.getElem_mem hgl)
    have hbg1 := hb1 _ (List.getElem_mem hgl)
    simp only [Zax, Int.toNat_natCast, hr, Zau, Zaf, Zaq, Zag, Zaz]
    rw [Zfi]
    generalize hq : h' ++ [Zcj.cells Zbb [.str l[g].1, .str l[g].2] false] = hq'
    have sq : Zbe h'.length h' hq' := by rw [← hq]; exact Zas
    have oq : hq'[h'.length]? = some (.cells Zbb [.str l[g].1, .str l[g].2] false) := by rw [← hq]; simp
    have Sq := hS.cat sq
    simp only [Zav, Zak oq, Nat.zero_add, List.getElem?_cons_succ, List.getElem?_cons_zero, Zag, true_and]
    refine ⟨by omega, Zer (fun b0 => ⟨by rw [no (by rw [hat, Ydf b0]; rfl)], Sq⟩) (fun b0 => ?_)⟩
    obtain ⟨v, hv⟩ := Yni b0
    rw [hv] at hbg1
    have hvl := hbg1 v (by simp)
    rw [hv]
    refine ⟨by simp, ?_⟩
    simp only [Int.toNat_zero, List.getD_cons_zero]
    refine (Zmr v).mono ?_
    rintro v' h2 ⟨rfl, rfl⟩
    simp only [Zai]
    have hiv : Ziu l[g].1 = Zcv v := by rw [hv]; rfl
    refine Zbv (fun b1 => ⟨by rw [no (by rw [hat, hiv, b1]; rfl)], Sq⟩) (fun b1 => ?_)
    simp only [Zak oq, List.getElem?_cons_succ, List.getElem?_cons_zero, Zag]
    refine (Zia l[g].2 (by omega) h2).mono ?_
    rintro v' h3 ⟨rfl, s3⟩
    simp only [Zai]
    have S3 := Sq.cat s3
    refine Zbv (fun b2 => ⟨by rw [no (by rw [hat, b2]; simp)], S3⟩) (fun b2 => ?_)
    have go : (g = 0 ∨ Zdk (l.getD (g - 1) ([], [])).1 l[g].1 = true) → Zdg.J6 (fun v h' => v = .bool (Zgk l) ∧ Zbe h.length h h') R (g : Int) (((n : Nat) : Int)) (some (i, o)) n c e (some (i, o)) n c e h3 := by
      intro hz
      apply Zdg.J6i
      rw [Zbs (by omega)]
      refine hR (g + 1) _ _ (by omega) ⟨rfl, by omega, S3, Zfw hk ?_⟩
      rw [hat, hiv, b1, b2]
      rcases hz with rfl | hz
      · rfl
      · rw [hz]; simp
    refine Zap (fun hpos => ?_) (fun hz => go (.inl (by omega)))
    have hg0 : 0 < g := by omega
    obtain ⟨i', o', hgl', he, _, _, hc', _⟩ := (r.same S3).pr (k := g - 1) (by omega)
    cases he
    rw [Zvk hg0 (by omega)]
    simp only [Zax, Int.toNat_natCast, Nat.add_zero, hc', Zak (s3.get oq (Own.lt oq)), List.getElem?_cons_zero, Zag, true_and]
    have hgd : l.getD (g - 1) ([], []) = l[g - 1] := Zez hgl'
    refine ⟨by omega, Zbv (fun b3 => ⟨by rw [no (by rw [hat, hiv, b1, b2, hgd, b3]; simp; omega)], S3⟩) (fun b3 => go (.inr (by rw [hgd]; exact b3)))⟩
  · apply Zdg.A2x0i
    have : g = n := by omega
    subst this
    exact ⟨by unfold Zgk; rw [hl, hk], hS⟩
theorem Zgq.below {S : Nat → Prop} {h : Zaa} : ∀ {t : Ty} {v : List Zan}, Zgq S h t v → Zgq (fun j => S j ∧ j < h.length) h t v
  | .k d, _, h => h
  | .u d x, _, ⟨j, c, e, r, hv, sj, hj, hr⟩ => ⟨j, c, e, r, hv, ⟨sj, Own.lt hj⟩, hj, hr.below⟩
  | .w d x y, _, ⟨j, c, e, r, r', hv, sj, hj, hr, hr'⟩ => ⟨j, c, e, r, r', hv, ⟨sj, Own.lt hj⟩, hj, hr.below, hr'.below⟩
theorem Yjx {f : Nat → Option Ty} {t : Ty} (h : f t.hd = none ∨ t.ps ≠ []) : (subst f t).hd = t.hd ∧ (subst f t).ps = t.ps.map (subst f) := by
  cases t with
  | k c =>
    have : f c = none := by rcases h with h | h; exact h; exact absurd rfl h
    simp [subst, this, Ty.hd, Ty.ps]
  | u c a => simp [subst, Ty.hd, Ty.ps]
  | w c a b => simp [subst, Ty.hd, Ty.ps]
theorem Ybi : pg.underlying Zid = some (.slice Zac) := by kernel_rfl
theorem Yfi : pg.cellsOf Zac = 2 := by kernel_rfl
theorem Yhz : pg.okElem Zac = true := by kernel_rfl
theorem Ygy : pg.bytesOf Zac ≤ 127 := Nat.le_of_ble_eq_true (by kernel_rfl)
theorem Zzq {vs : List (List Zan)} (h : ∀ v ∈ vs, v.length = 2) : vs.flatten.length = vs.length * 2 := by
  rw [List.length_flatten]
  induction vs with
  | nil => rfl
  | cons v vs ih =>
    have h1 := h v (by simp)
    have h2 := ih (fun x hx => h x (by simp [hx]))
    simp only [List.map_cons, List.sum_cons, List.length_cons]; omega
theorem Ybv : ∀ (N : Nat) {t : Ty} {S : Nat → Prop} {h : Zaa} {vt : List Zan} {i : Nat} {m : Bd}, t.size ≤ N → t.ok = true → (∀ j, S j → j < h.length ∧ j ≠ i) → Zgq S h t vt → Ykm S h i m → (∀ v u, Zge m v = some u → u.ok = true) → (∀ v, Zcv v = false → Zge m v = none) →
    Zad pg Zld [.ptr (some (i, 0)), .agg vt] h fun x h' => Zbe h.length h h' ∧ ∃ vs, x = .agg vs ∧ Zgq (fun j => S j ∨ h.length ≤ j) h' (subst (Zge m) t) vs
  | 0, t, S, h, vt, i, m, hN, _, _, _, _, _, _ => by have := t.size_ps; omega
  | N + 1, t, S, h, vt, i, m, hN, ht, hSi, rt, rm, hmo, hmn => by
    obtain ⟨at', ct, et, vts, rfl, rowt, hSt, hvtl, hvt⟩ := id rt.parts
    have hps2 : t.ps.length ≤ 2 := by cases t <;> simp [Ty.ps]
    have hil := rm.lt
    apply Zgn.call
    simp only [Zaz]
    generalize hh0 : h ++ [Zcj.cells Zac [.int .u8 (t.hd : Int), .slice at' t.ps.length ct et] false] = h0
    generalize hh1 : h0 ++ [Zcj.cells Zac [.int .u8 0, .slice none 0 0 true] false] = h1
    have s0 : Zbe h.length h h0 := by rw [← hh0]; exact Zas
    have s1 : Zbe h0.length h0 h1 := by rw [← hh1]; exact Zas
    have o0 : h0[h.length]? = some (.cells Zac [.int .u8 (t.hd : Int), .slice at' t.ps.length ct et] false) := by rw [← hh0]; simp
    have oa := s1.get o0 (Own.lt o0)
    have oz : h1[h0.length]? = some (.cells Zac [.int .u8 0, .slice none 0 0 true] false) := by rw [← hh1]; simp
    have S1 := s0.cat s1
    have l0 : h0.length = h.length + 1 := by rw [← hh0]; simp
    have l1 : h1.length = h.length + 2 := by rw [← hh1]; simp [l0]
    simp only [Zak oa, Nat.zero_add, List.getElem?_cons_succ, List.getElem?_cons_zero, Zao]
    refine (Zrl t.hd).mono ?_
    rintro v h2 ⟨rfl, rfl⟩
    have rm1 := rm.same S1
    simp only [Zao, Zax]
    -- nothing stands for the letter
    have main : Zge m t.hd = none → Zgn.J4 (fun x h' => Zbe h.length h h' ∧ ∃ vs, x = .agg vs ∧ Zgq (fun j => S j ∨ h.length ≤ j) h' (subst (Zge m) t) vs) h.length 0 (some (i, 0)) h0.length 0 h2 := by
      intro hno
      obtain ⟨hsh, hsp⟩ := Yjx (f := Zge m) (t := t) (.inl hno)
      apply Zgn.J4i
      simp only [Zak oa, Nat.zero_add, List.getElem?_cons_succ, List.getElem?_cons_zero, Zao, Zaz]
      generalize hh3 : h2 ++ [Zcj.cells Zac [] false] = h3
      have s3 : Zbe h2.length h2 h3 := by rw [← hh3]; exact Zas
      have o3 : h3[h2.length]? = some (.cells Zac [] false) := by rw [← hh3]; simp
      have l3 : h3.length = h2.length + 1 := by rw [← hh3]; simp
      rw [Zfi]
      generalize hh4 : h3 ++ [Zcj.cells Zac [.int .u8 (t.hd : Int), .slice (some (h2.length, 0)) 0 0 true] false] = h4
      have s4 : Zbe h3.length h3 h4 := by rw [← hh4]; exact Zas
      have o4 : h4[h3.length]? = some (.cells Zac [.int .u8 (t.hd : Int), .slice (some (h2.length, 0)) 0 0 true] false) := by rw [← hh4]; simp
      have l4 : h4.length = h3.length + 1 := by rw [← hh4]; simp
      have oa4 := s4.get (s3.get oa (Own.lt oa)) (by have := Own.lt oa; omega)
      have oz4 := s4.get (s3.get oz (Own.lt oz)) (by have := Own.lt oz; omega)
      have o34 := s4.get o3 (Own.lt o3)
      have S4 := (S1.cat s3).cat s4
      simp only [Zav, Zak oa4, List.getElem?_cons_succ, List.getElem?_cons_zero, Zah]
      refine Zgn.L6ind _ _ _ _ _ _ _ _ _ _ _ (J := fun (g : Nat) x35 h' => x35 = (g : Int) ∧ g ≤ t.ps.length ∧ Zbe h.length h h' ∧ h4.length ≤ h'.length ∧ h'[h0.length]? = some (.cells Zac [.int .u8 0, .slice none 0 0 true] false) ∧
        ∃ (a : Pt) (cp : Nat) (e : Bool) (vs : List (List Zan)), h'[h3.length]? = some (.cells Zac [.int .u8 (t.hd : Int), .slice a g cp e] false) ∧ vs.length = g ∧ Vec Zac h' a g cp vs.flatten ∧ (∀ j, a = some (j, 0) → j = h2.length ∨ h4.length ≤ j) ∧
          ∀ (k : Nat) (v : List Zan) (x : Ty), vs[k]? = some v → t.ps[k]? = some x → Zgq (fun j => (S j ∨ h4.length ≤ j) ∧ ∀ j0, a = some (j0, 0) → j ≠ j0) h' (subst (Zge m) x) v)
        (fun g => t.ps.length - g) ?_ 0 _ _ ⟨rfl, by omega, S4, Nat.le_refl _, oz4, some (h2.length, 0), 0, true, [], o4, rfl, Vec.mk1 (by simpa using o34), fun j hj => by cases hj; exact .inl rfl, by simp⟩
      rintro g x35 h' ⟨rfl, hg, hS, hl4, hz, a, cp, e, vs, ho, hvl, hv, ha, hp⟩ R hR
      unfold Zgn.L6t
      have hz2 : ∀ v ∈ vs, v.length = 2 := fun v hv => by
        obtain ⟨k, hk, rfl⟩ := List.mem_iff_getElem.1 hv
        exact (hp k vs[k] (t.ps[k]'(by omega)) (List.getElem?_eq_getElem hk) (List.getElem?_eq_getElem (by omega))).len
      refine Zap (fun hlt => ?_) (fun hge => ?_)
      · have hgt : g < t.ps.length := by omega
        obtain ⟨jt, oft, a4, c4, e4, rfl, hrt, hkt⟩ := Zgq.get (rowt.same' hS) hvtl (fun k w x h1 h2 => (hvt k w x h1 h2).same hS) hgt
        simp only [Zax, Int.toNat_natCast, hrt, Zau, Zaf, Zaq, Zao, Zah, Zaz]
        rw [Zfi]
        generalize hq : h' ++ [Zcj.cells Zac [.int .u8 (t.ps[g].hd : Int), .slice a4 t.ps[g].ps.length c4 e4] false] = hq'
        have sq : Zbe h'.length h' hq' := by rw [← hq]; exact Zas
        have oq := sq.get ho (Own.lt ho)
        simp only [Zav, Zak oq, Nat.zero_add, List.getElem?_cons_succ, List.getElem?_cons_zero, Zah]
        rw [← hq, Yip, hq]
        simp only [Zau, Zaf, Zaq, Zao, Zah, true_and]
        have hmt := List.getElem_mem hgt
        have h1 := Ty.size_part hmt
        have hlq := sq.le
        have hSle := hS.le
        refine ⟨by omega, (Ybv N (by omega) (Ty.ok_ps ht _ hmt) (S := S) (fun j hj => ⟨by have := (hSi j hj).1; omega, (hSi j hj).2⟩) (hkt.same sq) (rm.same (hS.cat sq)) hmo hmn).mono ?_⟩
        rintro v h5 ⟨s5, nv, rfl, hn5⟩
        obtain ⟨na, nc, ne, hnv⟩ := hn5.shape
        rw [hnv] at hn5
        have o5 := s5.get oq (Own.lt oq)
        simp only [hnv, Zde, Zaf, Zaq, Zao, Zah, Zak o5, List.getElem?_cons_succ, List.getElem?_cons_zero, true_and]
        have hc6 : Zae (h5 ++ [Zcj.cells Zac [.int .u8 ((subst (Zge m) t.ps[g]).hd : Int), .slice na (subst (Zge m) t.ps[g]).ps.length nc ne] false]) (.ptr (some (h3.length, 1))) = some (.slice a g cp e) := by rw [Zak (Zko o5)]; rfl
        refine ⟨by rw [hc6], ?_⟩
        have v5 := (hv.same sq).same s5
        have hl5 := s5.le
        refine v5.pushN Ybi Yfi Yhz Ygy (by rw [Zzq hz2]; omega) rfl (by omega) rfl (by omega) (fun h7 hl7 hi7 hk7 => ?_)
        simp only [Zah]
        have hz5 := s5.get (sq.get hz (Own.lt hz)) (by have := Own.lt hz; omega)
        have ha5 : ∀ j, a = some (j, 0) → j = h2.length ∨ h4.length ≤ j := ha
        have o7 : h7[h3.length]? = some (.cells Zac [.int .u8 (t.hd : Int), .slice a g cp e] false) := by
          rw [hk7 _ (Own.lt o5) fun j hj => by rcases ha j hj with hh | hh <;> omega]; exact o5
        rw [Zbq o7 (by simp)]
        simp only [Zav, putRow, List.take_succ_cons, List.take_zero, List.length_cons, List.length_nil, List.drop_succ_cons, List.drop_nil, List.cons_append, List.nil_append, List.append_nil]
        rw [Zbs (by omega)]
        have hS5 := (hS.cat sq).cat s5
        have h7o : ∀ j, j < h5.length → (∀ j0, a = some (j0, 0) → j ≠ j0) → j ≠ h3.length → (h7.set h3.length (Zcj.cells Zac [.int .u8 (t.hd : Int), .slice (some (h5.length + 1, 0)) (g + 1) (g + 1) false] false))[j]? = h5[j]? := fun j hj hne hne2 => by rw [Zbt (by omega), hk7 j hj hne]
        refine hR (g + 1) _ _ (by omega) ⟨rfl, by omega, ⟨by simp; omega, fun j hj => ?_⟩, by simp; omega, ?_, some (h5.length + 1, 0), g + 1, false, vs ++ [[.int .u8 ((subst (Zge m) t.ps[g]).hd : Int), .slice na (subst (Zge m) t.ps[g]).ps.length nc ne]], Zcp o7, by simp [hvl], Vec.mk1 ?_, fun j hj => by cases hj; right; omega, ?_⟩
        · rw [h7o j (by omega) (fun j0 hj0 => by rcases ha j0 hj0 with hh | hh <;> omega) (by omega)]; exact hS5.eq j hj
        · rw [h7o _ (Own.lt hz5) (fun j0 hj0 => by rcases ha j0 hj0 with hh | hh <;> omega) (by omega)]; exact hz5
        · rw [Zbt (by omega), hi7]; simp
        · intro k v x hv' hx
          have hkeep : ∀ {t' : Ty} {v' : List Zan}, Zgq (fun j => (S j ∨ h4.length ≤ j) ∧ ∀ j0, a = some (j0, 0) → j ≠ j0) h5 t' v' → Zgq (fun j => (S j ∨ h4.length ≤ j) ∧ ∀ j0, (some (h5.length + 1, 0) : Pt) = some (j0, 0) → j ≠ j0) (h7.set h3.length (Zcj.cells Zac [.int .u8 (t.hd : Int), .slice (some (h5.length + 1, 0)) (g + 1) (g + 1) false] false)) t' v' := by
            intro t' v' hr
            have hr2 := hr.below
            refine Zgq.mono (S := fun j => ((S j ∨ h4.length ≤ j) ∧ ∀ j0, a = some (j0, 0) → j ≠ j0) ∧ j < h5.length) (fun j hj => ⟨hj.1.1, fun j0 e0 => by cases e0; have := hj.2; omega⟩) (hr2.agree fun j hj => ?_)
            refine h7o j hj.2 hj.1.2 ?_
            rcases hj.1.1 with h8 | h8
            · have := (hSi j h8).1; omega
            · omega
          by_cases hkl : k < vs.length
          · rw [List.getElem?_append_left hkl] at hv'
            exact hkeep (((hp k v x hv' hx).same sq).same s5)
          · rw [List.getElem?_append_right (by omega)] at hv'
            have hk0 : k = vs.length := by
              by_cases e : k - vs.length = 0
              · omega
              · rw [List.getElem?_eq_none (by simp; omega)] at hv'; cases hv'
            subst hk0
            simp at hv'
            subst hv'
            rw [hvl, List.getElem?_eq_getElem hgt] at hx
            cases hx
            refine hkeep (Zgq.mono (S := fun j => S j ∨ hq'.length ≤ j) (fun j hj => ⟨?_, fun j0 e0 => ?_⟩) hn5)
            · rcases hj with h8 | h8
              · exact .inl h8
              · exact .inr (by omega)
            · have hj0 := (hv.same sq).lt' e0
              rcases hj with h8 | h8
              · have := (hSi j h8).1
                rcases ha j0 e0 with hh | hh <;> omega
              · omega
      · apply Zgn.A6x0i
        have : g = t.ps.length := by omega
        subst this
        have hrow := Zdt (o := 0) (n := 2) ho (by simp)
        rw [hrow]
        simp only [List.drop_zero, List.take_succ_cons, List.take_zero, Zau, Zaf, Zaq, Zao, Zah]
        rw [Zbq hz (by simp)]
        simp only [Zav]
        rw [Zdt (Zcp hz) (by simp [putRow])]
        simp only [putRow, List.take_zero, List.nil_append, List.length_cons, List.length_nil, List.cons_append, List.drop_succ_cons, List.drop_zero, List.drop_nil, List.append_nil, List.take_succ_cons, Zau, Zaf, Zao, Zah, Zaq]
        refine ⟨⟨by simp; exact hS.le, fun j hj => by rw [Zbt (by omega)]; exact hS.eq j hj⟩, _, rfl, ?_⟩
        have hget : ∀ j, j ≠ h0.length → (h'.set h0.length (Zcj.cells Zac [.int .u8 (t.hd : Int), .slice a t.ps.length cp e] false))[j]? = h'[j]? := fun j hj => Zbt (fun e => hj e.symm)
        rcases hv with ⟨rfl, h0', _, hvs⟩ | ⟨j0, rfl, hj0⟩
        · -- no parts
          have hps : t.ps = [] := List.eq_nil_of_length_eq_zero h0'
          cases t with
          | k d =>
            simp only [subst, show Zge m d = none from hno, Option.getD_none]
            exact ⟨_, _, _, rfl⟩
          | u d x => simp [Ty.ps] at hps
          | w d x y => simp [Ty.ps] at hps
        · have hj0n : j0 ≠ h0.length := by rcases ha j0 rfl with hh | hh <;> omega
          have hS4 := ha j0 rfl
          have := Zgq.make (S := fun j => S j ∨ h.length ≤ j) (h := h'.set h0.length (Zcj.cells Zac [.int .u8 (t.hd : Int), .slice (some (j0, 0)) t.ps.length cp e] false)) (t := subst (Zge m) t) (j := j0) (n := t.ps.length) (c := cp) (e := e) (vs := vs)
            (by rw [hsp, List.length_map]) (.inr (by rcases hS4 with hh | hh <;> omega)) (by rw [hget j0 hj0n]; exact hj0) hvl (fun k w x hw hx => by
              rw [hsp, List.getElem?_map] at hx
              obtain ⟨y, hy, rfl⟩ := Option.map_eq_some_iff.1 hx
              have hr := hp k w y hw hy
              refine Zgq.mono (S := fun j => (S j ∨ h4.length ≤ j) ∧ ∀ j1, (some (j0, 0) : Pt) = some (j1, 0) → j ≠ j1) (fun j hj => hj.1.imp id (fun h => by omega)) (hr.agree fun j hj => hget j ?_)
              rcases hj.1 with h8 | h8
              · have := (hSi j h8).1; omega
              · omega)
          rw [hsh] at this
          exact this
    cases hv : Zcv t.hd with
    | true =>
      obtain ⟨k, hk6, hkv, hix⟩ := Zsw hv
      rw [hix]
      obtain ⟨x, hx1, hx2, hx3⟩ := rm1.get (k := k) hk6
      rw [hkv, Option.bind_some] at hx3
      have hge : decide ((k : Int) ≥ 0) = true := by simp
      simp only [hge, Zbj, Int.toNat_natCast, hx1, hx2, Zau, Zaf, Zaq]
      refine ⟨by omega, ?_⟩
      cases hg : Zge m t.hd with
      | none =>
        rw [hg] at hx3
        simp only at hx3
        subst hx3
        simp only [Zao, show ((0 : Int) == 0) = true from rfl, Bool.not_true, Zay]
        exact main hg
      | some u =>
        rw [hg] at hx3
        simp only at hx3
        have hu := hmo _ _ hg
        obtain ⟨ux, uc, ue, hux⟩ := hx3.shape
        simp only [List.cons.injEq, and_true] at hux
        obtain ⟨hux1, hux2⟩ := hux
        rw [hux1, hux2] at hx3
        rw [hux1, hux2]
        have hu0 : (((u.hd : Nat) : Int) == 0) = false := by
          have := Zqm hu
          have hne : u.hd ≠ 0 := fun e => by rw [e] at this; simp at this
          simp; omega
        simp only [Zao, Zah, hu0, Bool.not_false, Zbj]
        rw [Zbq oz (by simp)]
        simp only [Zav]
        rw [Zdt (Zcp oz) (by simp [putRow])]
        simp only [putRow, List.take_zero, List.nil_append, List.length_cons, List.length_nil, List.cons_append, List.drop_succ_cons, List.drop_zero, List.drop_nil, List.append_nil, List.take_succ_cons, Zau, Zaf, Zao, Zah, Zaq]
        refine ⟨by omega, ⟨by simp; omega, fun j hj => by rw [Zbt (by omega)]; exact S1.eq j hj⟩, _, rfl, ?_⟩
        have hsub : subst (Zge m) t = u := by rw [Zno ht hv]; simp [subst, hg]
        rw [hsub]
        refine Zgq.mono (S := S) (fun j hj => .inl hj) (hx3.agree fun j hj => Zbt (by have := (hSi j hj).1; omega))
    | false =>
      rw [Zyi ht hv]
      have hge : decide ((-1 : Int) ≥ 0) = false := by decide
      simp only [hge, Zay]
      exact main (hmn _ hv)
end Go.Sim
