/- A part of the proof of a statement of this seat: see the text that holds the theorem. No condition. -/
import Derived.Test.YtlljbdepamknoaaGreatDoorPTCWLaw3
import Derived.Test.YtlljbdepamknoaaGreatDoorPApply
import Derived.Test.YtlljbdepamknoaaGreatDoorPTCMarkW
import Derived.Test.YtlljbdepamknoaaGreatDoorPTCSApply
import Derived.Test.YtlljbdepamknoaaGreatDoorNm
import Derived.Test.YtlljbdepamknoaaGreatDoorCWRep
set_option linter.unusedVariables false
set_option linter.unusedSimpArgs false
set_option linter.all false
set_option linter.unusedVariables false
set_option linter.unusedSimpArgs false
set_option maxRecDepth 20000
namespace Go.Sim
open Go Go.RowKit

theorem Zyw {k : Nat} (h0 : 0 < k) (hn : k ≤ 9223372036854775807) : IntKind.wrap .i64 ((k : Int) - 1) = ((k - 1 : Nat) : Int) := by rw [IntWalk.i64_in _ (by omega)]; omega
theorem Zux {h : Zaa} {a : Pt} {n c : Nat} {e : Bool} {l : List Nd} (r : Row h.length h a (n * 2) (Zcf eP l)) (hn : n ≤ 1048576) :
  Zae pg Zij [.slice a n c e] h fun v h' => v = .bool (Zhl l) ∧ Zbb h.length h h' := by
 have hl : l.length = n := by have := r.1; rw [Zay Zek] at this; omega
 apply Zdt.call
 refine Zdt.L2ind _ _ _ _ _ _ _ _ _ _ (J := fun (g : Nat) x7 h' => x7 = (g : Int) ∧ g ≤ n ∧ Zbb h.length h h' ∧ (List.range g).all (Zpz l) = true) (fun g => n - g) ?_ 0 _ _ ⟨rfl, by omega, Zbb.refl _ _, rfl⟩
 rintro g x7 h' ⟨rfl, hg, hS, hk⟩ R hR
 unfold Zdt.L2t
 refine Zan (fun hlt => ?_) (fun hge => ?_)
 ·obtain ⟨i, o, hgl, rfl, hi, hr, _, _⟩ := (r.same hS).pr (k := g) (by omega)
  have hat : Zpz l g = (Zko l[g].1 && Zos l[g].2 && (g == 0 || Zeh (l.getD (g - 1) ([], [])).1 l[g].1)) := by unfold Zpz; rw [Zfp hgl]
  have no : Zpz l g = false → Zhl l = false := fun hno => Zjx hgl hno
  simp only [Zax, Int.toNat_natCast, hr, Zar, Zah, Zat, Zai, Zaz]
  rw [Zgv]
  generalize hq : h' ++ [Zco.cells Zbe [.str l[g].1, .str l[g].2] false] = hq'
  have sq : Zbb h'.length h' hq' := by rw [← hq]; exact Zas
  have oq : hq'[h'.length]? = some (.cells Zbe [.str l[g].1, .str l[g].2] false) := by rw [← hq]; simp
  simp only [Zaw, Zaq oq, Nat.zero_add, List.getElem?_cons_succ, List.getElem?_cons_zero, Zai]
  refine ⟨by omega, (Zzb l[g].1).mono ?_⟩
  rintro v h2 ⟨rfl, rfl⟩
  have Sq := hS.cat sq
  simp only [Zal, true_and]
  refine Zcb (fun b1 => ⟨by rw [no (by rw [hat, b1]; rfl)], Sq⟩) (fun b1 => ?_)
  simp only [Zaq oq, List.getElem?_cons_succ, List.getElem?_cons_zero, Zai]
  refine (Znj l[g].2 h2).mono ?_
  rintro v h3 ⟨rfl, s3⟩
  simp only [Zal]
  have S3 := Sq.cat s3
  refine Zcb (fun b2 => ⟨by rw [no (by rw [hat, b1, b2]; rfl)], S3⟩) (fun b2 => ?_)
  have go : (g = 0 ∨ Zeh (l.getD (g - 1) ([], [])).1 l[g].1 = true) → Zdt.J6 (fun v h' => v = .bool (Zhl l) ∧ Zbb h.length h h') R (g : Int) (((n : Nat) : Int)) (some (i, o)) n c e (some (i, o)) n c e h3 := by
   intro hz
   apply Zdt.J6i
   rw [Zbj (by omega)]
   refine hR (g + 1) _ _ (by omega) ⟨rfl, by omega, S3, Zha hk ?_⟩
   rw [hat, b1, b2]
   rcases hz with rfl | hz
   ·rfl
   ·rw [hz]; simp
  refine Zan (fun hpos => ?_) (fun hz => go (.inl (by omega)))
  have hg0 : 0 < g := by omega
  obtain ⟨i', o', hgl', he, _, _, hc', _⟩ := (r.same S3).pr (k := g - 1) (by omega)
  cases he
  rw [Zyw hg0 (by omega)]
  simp only [Zax, Int.toNat_natCast, Nat.add_zero, hc', Zaq (s3.get oq (Own.lt oq)), List.getElem?_cons_zero, Zai, true_and]
  have hgd : l.getD (g - 1) ([], []) = l[g - 1] := Zfp hgl'
  refine ⟨by omega, Zcb (fun b3 => ⟨by rw [no (by rw [hat, b1, b2, hgd, b3]; simp; omega)], S3⟩) (fun b3 => go (.inr (by rw [hgd]; exact b3)))⟩
 ·apply Zdt.A2x0i
  have : g = n := by omega
  subst this
  exact ⟨by unfold Zhl; rw [hl, hk], hS⟩
theorem Ysn {s : List Nat} {g : Nat} (hg : g < s.length) : sub s (g : Int) (((g + 1 : Nat) : Int)) = [s[g]] := by
 unfold sub
 rw [Int.toNat_natCast, Int.toNat_natCast, List.take_succ_eq_append_getElem hg, List.drop_append_of_le_length (by simp; omega), List.drop_of_length_le (by simp; omega)]; rfl
theorem Ybk {l : List Nd} (h : Zhl l = true) (c : Nat) : (Zvl l c).length ≤ 60 := by
 obtain ⟨h1, h2⟩ := Ztu h c
 rw [h1]
 cases hb : Zqj l c with
 | none => simp [Ty.txt]
 | some t => exact (h2 t hb).2
theorem Ztv {l : List Nd} (h : Zhl l = true) : ∀ (t : List Nat), (Zju l t).length ≤ 60 * t.length
 | [] => by simp [Zju]
 | c :: t => by
  have h1 := Ybk h c
  have h2 := Ztv h t
  simp only [Zju, List.flatMap_cons, List.length_append, List.length_cons] at h2 ⊢
  omega
theorem Yex {l : List Nd} {t : List Nat} {g : Nat} (hg : g < t.length) : Zju l (t.take (g + 1)) = Zju l (t.take g) ++ Zvl l t[g] := by
 unfold Zju; rw [List.take_succ_eq_append_getElem hg, List.flatMap_append]; simp
noncomputable def Zmt (l : List Nd) (t : List Nat) : Zam := match Zfi l t with | some u => .tup [.str u, .bool true] | none => .tup [.str [], .bool false]
theorem Zuz {h : Zaa} {a : Pt} {n c : Nat} {e : Bool} {l : List Nd} {t : List Nat} (r : Row h.length h a (n * 2) (Zcf eP l)) (hn : n ≤ 1048576) :
  Zae pg Zil [.slice a n c e, .str t] h fun v h' => v = Zmt l t ∧ Zbb h.length h h' := by
 have hl : l.length = n := by have := r.1; rw [Zay Zek] at this; omega
 apply Zcu.call
 refine (Zux r hn).mono ?_
 rintro v h1 ⟨rfl, s1⟩
 simp only [Zal]
 refine Zcb (fun b1 => ⟨by unfold Zmt Zfi; rw [b1]; rfl, s1⟩) (fun b1 => ?_)
 refine (Znj t h1).mono ?_
 rintro v h2 ⟨rfl, s2⟩
 simp only [Zal]
 have S2 := s1.cat s2
 refine Zcb (fun b2 => ⟨by unfold Zmt Zfi; rw [b1, b2]; rfl, S2⟩) (fun b2 => ?_)
 have ht60 := Zzk b2
 apply Zcu.J3i
 refine Zcu.L5ind _ _ _ _ _ _ _ (J := fun (g : Nat) x6 x21 h' => x21 = (g : Int) ∧ g ≤ t.length ∧ Zbb h.length h h' ∧ x6 = Zju l (t.take g)) (fun g => t.length - g) ?_ 0 _ _ _ ⟨rfl, by omega, S2, by simp [Zju]⟩
 rintro g x6 x21 h' ⟨rfl, hg, hS, rfl⟩ R hR
 unfold Zcu.L5t
 refine Zan (fun hlt => ?_) (fun hge => ?_)
 ·have hgt : g < t.length := by omega
  rw [Zbj (by omega), Ysn hgt]
  refine ⟨⟨by omega, by omega, by omega⟩, ?_⟩
  have hal := Ztv b1 (t.take g)
  rw [List.length_take] at hal
  have fin : ∀ (h3 : Zaa) (x8 : List Nat), Zbb h.length h h3 → x8 = Zvl l t[g] → Zcu.A9x2 (fun v h' => v = Zmt l t ∧ Zbb h.length h h') R (Zju l (t.take g)) x8 (g : Int) (((t.length : Nat) : Int)) t a n c e h3 := by
   intro h3 x8 s3 hx
   apply Zcu.A9x2i
   have := Ybk b1 t[g]
   rw [hx, Zbj (by omega)]
   exact ⟨by omega, hR (g + 1) _ _ _ (by omega) ⟨rfl, by omega, s3, (Yex hgt).symm⟩⟩
  refine Zcu.L9ind _ _ _ _ _ _ _ _ _ _ _ _ _ _ _ (J := fun (q : Nat) x8 x31 h3 => x31 = (q : Int) ∧ q ≤ n ∧ Zbb h.length h h3 ∧ x8 = [t[g]] ∧ (l.take q).find? (fun p => decide (p.1 = [t[g]])) = none) (fun q => n - q) ?_ 0 _ _ _ ⟨rfl, by omega, hS, rfl, rfl⟩
  rintro q x8 x31 h3 ⟨rfl, hq, hS3, rfl, hf⟩ R9 hR9
  unfold Zcu.L9t
  refine Zan (fun hlt3 => ?_) (fun hge3 => ?_)
  ·obtain ⟨i, o, hql, rfl, hi, hr, _, _⟩ := (r.same hS3).pr (k := q) (by omega)
   simp only [Zax, Int.toNat_natCast, hr, Zar, Zah, Zat, Zai, Zaz]
   rw [Zgv]
   have sq : Zbb h3.length h3 (h3 ++ [Zco.cells Zbe [.str l[q].1, .str l[q].2] false]) := Zas
   simp only [Zaw, Zff, Nat.zero_add, List.getElem?_cons_succ, List.getElem?_cons_zero, Zai]
   refine ⟨by omega, Zan (fun he => ?_) (fun he => ?_)⟩
   ·refine fin _ _ (hS3.cat sq) ?_
    unfold Zvl
    rw [Yie hql hf (by simp [he])]
   ·rw [Zbj (by omega)]
    exact hR9 (q + 1) _ _ _ (by omega) ⟨rfl, by omega, hS3.cat sq, rfl, Zwq hql hf (by simp [he])⟩
  ·have : q = n := by omega
   subst this
   rw [List.take_of_length_le (by omega)] at hf
   exact fin _ _ hS3 (by unfold Zvl; rw [hf])
 ·apply Zcu.A5x0i
  have : g = t.length := by omega
  subst this
  rw [List.take_length]
  refine Zan (fun hbig => ⟨?_, hS⟩) (fun hsm => ⟨?_, hS⟩)
  ·unfold Zmt Zfi
   rw [if_neg (by simp; omega)]
  ·unfold Zmt Zfi
   rw [if_pos (by rw [b1, b2]; simp; omega)]
def Yln (i : Ins) (t : List Nat) (h : Zaa) (v : Zam) (h' : Zaa) : Prop := Zbb h.length h h' ∧ ∃ a n c e, v = .tup [.slice a n c e, .bool (Zht i t).isSome] ∧ Zcv Zaj eP h.length h' a n ((Zht i t).getD [])
theorem Ybh : pg.underlying Zkl = some (.slice Zaj) := by kernel_rfl
theorem Ylc : pg.cellsOf Zaj = 2 := by kernel_rfl
theorem Ykg : pg.okElem Zaj = true := by kernel_rfl
theorem Yjw : pg.bytesOf Zaj ≤ 127 := Nat.le_of_ble_eq_true (by kernel_rfl)
noncomputable def Yqb (l : List Nd) (n : Nd) : Nd := (n.1, (Zfi l n.2).getD [])
theorem Ygs {l : List Nd} {ns : List Nd} (h : ns.all (fun n => (Zfi l n.2).isSome) = true) : ns.map (Yqb l) = ns.map fun n => (n.1, Zju l n.2) := by
 apply List.map_congr_left
 intro n hn
 have := List.all_eq_true.1 h n hn
 obtain ⟨u, hu⟩ := Option.isSome_iff_exists.1 this
 unfold Yqb
 rw [hu]
 unfold Zfi at hu
 split at hu
 ·cases hu; rfl
 ·cases hu
theorem Ynr {h : Zaa} {a : Pt} {n c : Nat} {e : Bool} {i : Ins} {t : List Nat} (r : Row h.length h a (n * 2) (Zcf eP i.2)) (hn : n ≤ 1048576) :
  Zae pg Zhm [.agg [.str i.1.1, .str i.1.2, .slice a n c e], .str t] h (Yln i t h) := by
 have hl : i.2.length = n := by have := r.1; rw [Zay Zek] at this; omega
 apply Zdf.call
 simp only [Zaz]
 generalize hh0 : h ++ [Zco.cells Zac [.str i.1.1, .str i.1.2, .slice a n c e] false] = h0
 have s0 : Zbb h.length h h0 := by rw [← hh0]; exact Zas
 have o0 : h0[h.length]? = some (.cells Zac [.str i.1.1, .str i.1.2, .slice a n c e] false) := by rw [← hh0]; simp
 simp only [Zaq o0, Nat.zero_add, List.getElem?_cons_succ, List.getElem?_cons_zero, Zai]
 refine (Zuk i.1.2 t h0).mono ?_
 rintro v h1 ⟨s1, ma, mn, mc, me, rfl, hmc, fm⟩
 simp only [Zdn, Zah, Zag, Zal, Zat]
 generalize hh2 : h1 ++ [Zco.cells Zaj [] false] = h2
 have s2 : Zbb h1.length h1 h2 := by rw [← hh2]; exact Zas
 have o2 : h2[h1.length]? = some (.cells Zaj [] false) := by rw [← hh2]; simp
 have S2 := (s0.cat s1).cat s2
 have hml : (Zjt i.1.2 t).length ≤ 6 := by unfold Zjt; split <;> first | exact Yna _ | simp
 have hmn := fm.1
 have x2 := s2.get (s1.get o0 (Own.lt o0)) (by have := Own.lt o0; have := s1.le; omega)
 simp only [Zaq x2, List.getElem?_cons_succ, List.getElem?_cons_zero, Zag]
 have hS1le : h.length ≤ h1.length := (s0.cat s1).le
 generalize hml' : Zjt i.1.2 t = ml at *
 refine Zdf.L4ind _ _ _ _ _ _ _ _ _ _ (J := fun (g : Nat) x7 a8 n8 c8 e8 x25 h' => x25 = (g : Int) ∧ g ≤ n ∧ Zbb h.length h h' ∧ h1.length < h'.length ∧ Row h'.length h' ma (mn * 2) (Zcf eP ml) ∧ x7 = (Zpy i.1.2 t && (i.2.take g).all fun p => (Zfi ml p.2).isSome) ∧ n8 = g ∧ Vec Zaj h' a8 n8 c8 (Zcf eP ((i.2.take g).map (Yqb ml))) ∧ (∀ j, a8 = some (j, 0) → h1.length ≤ j)) (fun g => n - g) ?_ 0 _ _ _ _ _ _ _
  ⟨rfl, by omega, S2, Own.lt o2, (fm.row Zek).same' s2, by simp, rfl, Vec.mk1 (by simpa using o2), fun j hj => by cases hj; omega⟩
 rintro g x7 a8 n8 c8 e8 x25 h' ⟨rfl, hg, hS, hlt1, hrm, rfl, rfl, hv, ha⟩ R hR
 unfold Zdf.L4t
 refine Zan (fun hlt => ?_) (fun hge => ?_)
 ·obtain ⟨j, o, hgl, rfl, hj, hr, _, _⟩ := (r.same hS).pr (k := n8) (by omega)
  simp only [Zax, Int.toNat_natCast, hr, Zar, Zah, Zat, Zai, Zaz]
  rw [Zgv]
  generalize hq : h' ++ [Zco.cells Zaj [.str i.2[n8].1, .str i.2[n8].2] false] = hq'
  have sq : Zbb h'.length h' hq' := by rw [← hq]; exact Zas
  have oq : hq'[h'.length]? = some (.cells Zaj [.str i.2[n8].1, .str i.2[n8].2] false) := by rw [← hq]; simp
  simp only [Zaw, Zaq oq, Nat.zero_add, List.getElem?_cons_succ, List.getElem?_cons_zero, Zai]
  refine ⟨by omega, (Zuz (hrm.same' sq) (by omega)).mono ?_⟩
  rintro v h3 ⟨rfl, s3⟩
  have hshape : Zmt ml i.2[n8].2 = .tup [.str ((Zfi ml i.2[n8].2).getD []), .bool (Zfi ml i.2[n8].2).isSome] := by
   unfold Zmt; cases Zfi ml i.2[n8].2 <;> rfl
  rw [hshape]
  simp only [Zdn, Zah, Zai, Zal, Zat]
  have S3 := (hS.cat sq).cat s3
  have o3 := s3.get oq (Own.lt oq)
  have tk : (i.2.take (n8 + 1)).all (fun p => (Zfi ml p.2).isSome) = ((i.2.take n8).all (fun p => (Zfi ml p.2).isSome) && (Zfi ml i.2[n8].2).isSome) := by
   rw [List.take_succ_eq_append_getElem hgl, List.all_append]; simp
  have go : ∀ b9, b9 = (Zpy i.1.2 t && (i.2.take (n8 + 1)).all fun p => (Zfi ml p.2).isSome) → Zdf.J8 (Yln i t h) R a8 n8 c8 e8 h'.length 0 ((Zfi ml i.2[n8].2).getD []) (n8 : Int) (((n : Nat) : Int)) (some (j, o)) n c e ma mn mc me b9 h3 := by
   intro b9 hb9
   apply Zdf.J8i
   simp only [Zaq o3, Nat.zero_add, List.getElem?_cons_zero, Zai, Zaz]
   refine ((hv.same sq).same s3).pushN Ybh Ylc Ykg Yjw (by rw [Zay Zek]; simp; omega) rfl (by omega) rfl (by omega) (fun h6 hl6 hi6 hk6 => ?_)
   simp only [Zag]
   apply Zdf.J9i
   rw [Zbj (by omega)]
   have hle := S3.le
   refine hR (n8 + 1) _ _ _ _ _ _ _ (by omega) ⟨rfl, by omega, ⟨by omega, fun j hj => ?_⟩, by have := sq.le; have := s3.le; omega, ?_, hb9, rfl, Vec.mk1 ?_, fun j hj => by cases hj; have := sq.le; have := s3.le; omega⟩
   ·rw [hk6 j (by omega) fun q hq => by have := ha q hq; omega]; exact S3.eq j hj
   ·have hr3 := (hrm.same' sq).same' s3
    obtain ⟨hx1, hx2⟩ := hr3
    rcases fm.2 with h0 | ⟨q2, hq2, _, hq3⟩
    ·exact ⟨hx1, .inl (by omega)⟩
    ·refine ⟨hx1, hx2.imp id ?_⟩
     rintro ⟨q, o', ty, all, ro, hqa, hqb, hqg, hq4, hq5⟩
     refine ⟨q, o', ty, all, ro, hqa, by omega, ?_, hq4, hq5⟩
     rw [hk6 q hqb fun q' hq' => ?_]
     ·exact hqg
     ·intro e
      subst e
      have h1l := ha q hq'
      rw [hqa] at hq2; cases hq2
      have := Own.lt hq3; omega
   ·rw [hi6, List.take_succ_eq_append_getElem hgl, List.map_append, Zeg]; rfl
  refine Zcw (fun hb => go _ (by rw [tk, ← Bool.and_assoc, hb]; rfl)) (fun hb => go _ (by rw [tk, ← Bool.and_assoc, hb]; rfl))
 ·apply Zdf.A4x0i
  have : n8 = n := by omega
  subst this
  rw [show i.2.take n8 = i.2 from List.take_of_length_le (by omega)] at hv ⊢
  have hnw : Zht i t = if Zpy i.1.2 t && i.2.all (fun p => (Zfi ml p.2).isSome) then some (i.2.map (Yqb ml)) else none := by
   unfold Zht Zpy
   unfold Zjt at hml'
   cases hm : Zjv i.1.2 t with
   | none => rfl
   | some m =>
    rw [hm] at hml'
    simp only at hml'
    subst hml'
    simp only [Option.isSome_some, Bool.true_and]
    by_cases hall : i.2.all (fun p => (Zfi (bdL m) p.2).isSome) = true
    ·rw [if_pos hall, if_pos hall, Ygs hall]
    ·rw [if_neg hall, if_neg hall]
  refine Zcb (fun hb => ?_) (fun hb => ?_)
  ·have : Zht i t = none := by rw [hnw, hb]; rfl
   exact ⟨hS, none, 0, 0, true, by rw [this]; rfl, by rw [this]; exact ⟨rfl, .inl rfl⟩⟩
  ·have : Zht i t = some (i.2.map (Yqb ml)) := by rw [hnw, hb]; rfl
   refine ⟨hS, a8, n8, c8, e8, by rw [this]; rfl, ?_⟩
   rw [this]
   exact hv.fresh (b := h.length) (by simp; omega) fun j hj => by have := ha j hj; omega
end Go.Sim

set_option linter.unusedVariables false
set_option linter.unusedSimpArgs false
set_option maxRecDepth 20000
namespace Go.Sim
open Go Go.RowKit

def Ygu : List Nat := [88, 89, 90, 120, 121, 122, 49, 50, 51, 52, 53, 54]
theorem Zxd {v : Nat} (hv : Zdi v = true) : ∃ k : Nat, k < 6 ∧ Zfj[k]? = some v ∧ Ztn Ygu v = (k : Int) := by
 have := (Zqo v).2 hv
 simp only [Zfj, List.mem_cons, List.not_mem_nil, or_false] at this
 rcases this with rfl | rfl | rfl | rfl | rfl | rfl
 ·exact ⟨0, by omega, rfl, rfl⟩
 ·exact ⟨1, by omega, rfl, rfl⟩
 ·exact ⟨2, by omega, rfl, rfl⟩
 ·exact ⟨3, by omega, rfl, rfl⟩
 ·exact ⟨4, by omega, rfl, rfl⟩
 ·exact ⟨5, by omega, rfl, rfl⟩
theorem Zso {t : Ty} (h : t.ok = true) : t.hd ∈ [105, 98, 117, 108, 109, 112, 120, 121, 122, 88, 89, 90] := by
 have := Ty.ok_ar h
 unfold arN Znw Zdi at this
 simp only [Bool.or_eq_true, beq_iff_eq] at this
 simp only [List.mem_cons, List.not_mem_nil, or_false]
 split at this
 ·omega
 ·split at this
  ·omega
  ·split at this
   ·omega
   ·omega
theorem Yda {t : Ty} (h : t.ok = true) (hv : Zdi t.hd = false) : Ztn Ygu t.hd = -1 := by
 apply Zwt
 have := Zso h
 simp only [List.mem_cons, List.not_mem_nil, or_false] at this
 rcases this with e | e | e | e | e | e | e | e | e | e | e | e <;> rw [e] at hv ⊢ <;> first | (exact absurd hv (by decide)) | decide
theorem Ztp {h : Zaa} (c : Nat) : Zae pg Zix [.int .u8 (c : Int)] h fun v h' => v = .int .i64 (Ztn Ygu c) ∧ h' = h := by
 apply Zrq.call
 refine (Zzf Ygu c (by decide)).mono ?_
 rintro v h1 ⟨rfl, rfl⟩
 simp only [Zau]
 exact ⟨by trivial, by trivial⟩
def eR (x : Zam × Zam) : List Zam := [x.1, x.2]
theorem Zrk (x : Zam × Zam) : (eR x).length = 2 := rfl
theorem Ygw {α : Type} {enc : α → List Zam} {w : Nat} (hw : ∀ x, (enc x).length = w) : ∀ {l : List α} {k : Nat} {x : α}, k < l.length → putRow (Zcf enc l) (k * w) (enc x) = Zcf enc (l.set k x)
 | [], k, x, h => by simp at h
 | y :: l, 0, x, _ => by
  simp only [Nat.zero_mul, Zfu, List.set_cons_zero, putRow, List.take_zero, List.nil_append, Nat.zero_add, hw]
  rw [← hw y, List.drop_left]
 | y :: l, k + 1, x, h => by
  have ih := Ygw hw (l := l) (k := k) (x := x) (by simpa using h)
  unfold putRow at ih ⊢
  simp only [Zfu, List.set_cons_succ]
  rw [← ih, Nat.succ_mul, Nat.add_comm (k * w) w, ← hw y, List.take_length_add_append, Nat.add_assoc, List.drop_length_add_append]; simp only [List.append_assoc]
def Zsk (S : Nat → Prop) (h : Zaa) (i : Nat) (m : Bd) : Prop := ∃ rows : List (Zam × Zam), rows.length = 12 ∧ h[i]? = some (.cells Zfb (Zcf eR rows) false) ∧
 ∀ (k : Nat) (x : Zam × Zam), rows[k]? = some x → match (Zfj[k]?).bind (Zhh m) with | some t => Zhy S h t (eR x) | none => x = (.int .u8 0, .slice none 0 0 true)
theorem Zsk.keep {S : Nat → Prop} {h h' : Zaa} {i : Nat} {m : Bd} (r : Zsk S h i m) (hi : h'[i]? = h[i]?) (hh : ∀ j, S j → j < h.length → h'[j]? = h[j]?) : Zsk S h' i m := by
 obtain ⟨rows, h1, h2, h3⟩ := r
 refine ⟨rows, h1, by rw [hi]; exact h2, fun k x hx => ?_⟩
 have := h3 k x hx
 split at this
 ·exact this.keep hh
 ·exact this
theorem Zsk.same {S : Nat → Prop} {h h' : Zaa} {i : Nat} {m : Bd} (r : Zsk S h i m) (s : Zbb h.length h h') : Zsk S h' i m := by
 have hl : i < h.length := by obtain ⟨_, _, h2, _⟩ := r; exact Own.lt h2
 exact r.keep (s.eq i hl) fun j _ hj => s.eq j hj
theorem Zsk.lt {S : Nat → Prop} {h : Zaa} {i : Nat} {m : Bd} (r : Zsk S h i m) : i < h.length := by obtain ⟨_, _, h2, _⟩ := r; exact Own.lt h2
theorem Zsk.nil {S : Nat → Prop} {h : Zaa} {i : Nat} (hi : h[i]? = some (.cells Zfb (Zcf eR (List.replicate 12 (.int .u8 0, .slice none 0 0 true))) false)) : Zsk S h i [] := by
 refine ⟨_, by simp, hi, fun k x hx => ?_⟩
 have : (Zfj[k]?).bind (Zhh []) = none := by cases Zfj[k]? <;> rfl
 rw [this]
 rw [List.getElem?_replicate] at hx
 split at hx
 ·cases hx; rfl
 ·cases hx
theorem Zsk.get {S : Nat → Prop} {h : Zaa} {i : Nat} {m : Bd} (r : Zsk S h i m) {k : Nat} (hk : k < 12) : ∃ x : Zam × Zam, Zak h (.ptr (some (i, 0 + k * 2 + 0))) = some x.1 ∧ Zbv h (.ptr (some (i, 0 + k * 2))) 2 = some [x.1, x.2] ∧
  match (Zfj[k]?).bind (Zhh m) with | some t => Zhy S h t [x.1, x.2] | none => x = (.int .u8 0, .slice none 0 0 true) := by
 obtain ⟨rows, h1, h2, h3⟩ := r
 have hrow : Row h.length h (some (i, 0)) (12 * 2) (Zcf eR rows) := ⟨by rw [Zay Zrk, h1], .inr ⟨i, 0, _, _, _, rfl, Own.lt h2, h2, by rw [Zay Zrk, h1]; simp, by rw [List.drop_zero, List.take_of_length_le (by rw [Zay Zrk, h1]; simp)]⟩⟩
 obtain ⟨i', o', hk', he, _, hr, hc⟩ := Row.el Zrk hrow h1 hk (by omega)
 cases he
 exact ⟨rows[k], by have := hc 0 (by omega); simpa [eR] using this, hr, h3 k _ (List.getElem?_eq_getElem hk')⟩
def Yox (S : Nat → Prop) (h : Zaa) (i : Nat) (m : Bd) : Prop := ∃ rows : List (Zam × Zam), rows.length = 12 ∧ h[i]? = some (.cells Zfb (Zcf eR rows) false) ∧
 ∀ (k : Nat) (x : Zam × Zam), k < 6 → rows[k]? = some x → match (Zfj[k]?).bind (Zhh m) with | some t => Zhy S h t (eR x) | none => x = (.int .u8 0, .slice none 0 0 true)
theorem Zsk.w {S : Nat → Prop} {h : Zaa} {i : Nat} {m : Bd} (r : Zsk S h i m) : Yox S h i m := by
 obtain ⟨rows, h1, h2, h3⟩ := r
 exact ⟨rows, h1, h2, fun k x _ hx => h3 k x hx⟩
theorem Yox.lt {S : Nat → Prop} {h : Zaa} {i : Nat} {m : Bd} (r : Yox S h i m) : i < h.length := by obtain ⟨_, _, h2, _⟩ := r; exact Own.lt h2
theorem Yox.same {S : Nat → Prop} {h h' : Zaa} {i : Nat} {m : Bd} (r : Yox S h i m) (s : Zbb h.length h h') : Yox S h' i m := by
 obtain ⟨rows, h1, h2, h3⟩ := r
 refine ⟨rows, h1, by rw [s.eq i (Own.lt h2)]; exact h2, fun k x hk hx => ?_⟩
 have := h3 k x hk hx
 split at this
 ·exact this.keep fun j _ hj => s.eq j hj
 ·exact this
theorem Yox.get {S : Nat → Prop} {h : Zaa} {i : Nat} {m : Bd} (r : Yox S h i m) {k : Nat} (hk : k < 6) : ∃ x : Zam × Zam, Zak h (.ptr (some (i, 0 + k * 2 + 0))) = some x.1 ∧ Zbv h (.ptr (some (i, 0 + k * 2))) 2 = some [x.1, x.2] ∧
  match (Zfj[k]?).bind (Zhh m) with | some t => Zhy S h t [x.1, x.2] | none => x = (.int .u8 0, .slice none 0 0 true) := by
 obtain ⟨rows, h1, h2, h3⟩ := r
 have hrow : Row h.length h (some (i, 0)) (12 * 2) (Zcf eR rows) := ⟨by rw [Zay Zrk, h1], .inr ⟨i, 0, _, _, _, rfl, Own.lt h2, h2, by rw [Zay Zrk, h1]; simp, by rw [List.drop_zero, List.take_of_length_le (by rw [Zay Zrk, h1]; simp)]⟩⟩
 obtain ⟨i', o', hk', he, _, hr, hc⟩ := Row.el Zrk hrow h1 (show k < 12 by omega) (by omega)
 cases he
 exact ⟨rows[k], by have := hc 0 (by omega); simpa [eR] using this, hr, h3 k _ hk (List.getElem?_eq_getElem hk')⟩
theorem Zsk.put {S : Nat → Prop} {h : Zaa} {i : Nat} {m : Bd} (r : Zsk S h i m) (hSi : ∀ j, S j → j ≠ i) {k v : Nat} (hk : Zfj[k]? = some v) (hg : Zhh m v = none) {t : Ty} {x y : Zam} (ht : Zhy S h t [x, y]) :
  ∃ h', Zbk h (.ptr (some (i, 0 + k * 2))) [x, y] = some h' ∧ Zgy i h h' ∧ Zsk S h' i (m ++ [(v, t)]) := by
 obtain ⟨rows, h1, h2, h3⟩ := r
 have hk6 : k < 6 := (List.getElem?_eq_some_iff.1 hk).1
 have hput : putRow (Zcf eR rows) (k * 2) (eR (x, y)) = Zcf eR (rows.set k (x, y)) := Ygw Zrk (by omega)
 refine ⟨h.set i (.cells Zfb (Zcf eR (rows.set k (x, y))) false), ?_, Zgy.set _ _ _, ?_⟩
 ·rw [Nat.zero_add, Zbr h2 (by rw [Zay Zrk, h1]; simp; omega), ← hput]; rfl
 ·have hkeep : ∀ j, S j → j < h.length → (h.set i (.cells Zfb (Zcf eR (rows.set k (x, y))) false))[j]? = h[j]? := fun j hj _ => Zcj (fun e => hSi j hj e.symm)
  refine ⟨_, by simp [h1], Zcq h2, fun k' x' hx' => ?_⟩
  by_cases e : k = k'
  ·subst e
   rw [List.getElem?_set_self (by omega)] at hx'
   cases hx'
   rw [hk]
   simp only [Option.bind_some, Ygr, hg, if_true]
   exact ht.keep hkeep
  ·rw [List.getElem?_set_ne e] at hx'
   have := h3 k' x' hx'
   have hb : (Zfj[k']?).bind (Zhh (m ++ [(v, t)])) = (Zfj[k']?).bind (Zhh m) := by
    cases hv' : Zfj[k']? with
    | none => rfl
    | some w =>
     simp only [Option.bind_some, Ygr]
     cases hb : Zhh m w with
     | some u => rfl
     | none =>
      have : ¬ v = w := fun e' => by
       subst e'
       have h5 := List.getElem?_eq_some_iff.1 hk
       have h6 := List.getElem?_eq_some_iff.1 hv'
       exact e ((List.getElem_inj (h₀ := h5.1) (h₁ := h6.1) Zsj).1 (h5.2.trans h6.2.symm))
      simp [this]
   rw [hb]
   split at this
   ·exact this.keep hkeep
   ·exact this
def Yud (S : Nat → Prop) (h : Zaa) (i : Nat) (r : Option Bd) (v : Zam) (h' : Zaa) : Prop := Zgy i h h' ∧ (match r with | some m' => v = .bool true ∧ Zsk S h' i m' | none => v = .bool false)
theorem Zgy.of_same {i : Nat} {h h' : Zaa} (s : Zbb h.length h h') : Zgy i h h' := ⟨s.le, fun j hj _ => s.eq j hj⟩
theorem Zyn : ∀ (N : Nat) {a t : Ty} {S : Nat → Prop} {h : Zaa} {va vt : List Zam} {i n : Nat} {m : Bd}, a.size ≤ N → a.ok = true → t.ok = true → n ≤ 1048576 → t.txt.length ≤ n → BOk n m → (∀ j, S j → j ≠ i) → Zhy S h a va → Zhy S h t vt → Zsk S h i m →
  Zae pg Zlf [.ptr (some (i, 0)), .agg va, .agg vt] h (Yud S h i (matchT m a t))
 | 0, a, t, S, h, va, vt, i, n, m, hN, _, _, _, _, _, _, _, _, _ => by have := a.size_ps; omega
 | N + 1, a, t, S, h, va, vt, i, n, m, hN, ha, ht, hB, hn, bo, hSi, ra, rt, rm => by
  have hcase := Ybn (m := m) ha ht
  obtain ⟨aa, ca, ea, vas, rfl, rowa, hSa, hval, hva⟩ := id ra.parts
  obtain ⟨at', ct, et, vts, rfl, rowt, hSt, hvtl, hvt⟩ := id rt.parts
  have hps2 : a.ps.length ≤ 2 := by cases a <;> simp [Ty.ps]
  have hil := rm.lt
  apply Ziu.call
  simp only [Zaz]
  generalize hh0 : h ++ [Zco.cells Zad [.int .u8 (a.hd : Int), .slice aa a.ps.length ca ea] false] = h0
  generalize hh1 : h0 ++ [Zco.cells Zad [.int .u8 (t.hd : Int), .slice at' t.ps.length ct et] false] = h1
  have s0 : Zbb h.length h h0 := by rw [← hh0]; exact Zas
  have s1 : Zbb h0.length h0 h1 := by rw [← hh1]; exact Zas
  have o0 : h0[h.length]? = some (.cells Zad [.int .u8 (a.hd : Int), .slice aa a.ps.length ca ea] false) := by rw [← hh0]; simp
  have oa := s1.get o0 (Own.lt o0)
  have ot : h1[h0.length]? = some (.cells Zad [.int .u8 (t.hd : Int), .slice at' t.ps.length ct et] false) := by rw [← hh1]; simp
  have S1 := s0.cat s1
  have l0 : h0.length = h.length + 1 := by rw [← hh0]; simp
  have l1 : h1.length = h.length + 2 := by rw [← hh1]; simp [l0]
  simp only [Zaq oa, Nat.zero_add, List.getElem?_cons_succ, List.getElem?_cons_zero, Zau]
  refine (Ztp a.hd).mono ?_
  rintro v h2 ⟨rfl, rfl⟩
  have rm1 := rm.same S1
  have K1 : Zgy i h h2 := Zgy.of_same S1
  simp only [Zau, Zax]
  cases hv : Zdi a.hd with
  | true =>
   rw [hv] at hcase
   simp only [if_true] at hcase
   obtain ⟨k, hk6, hkv, hix⟩ := Zxd hv
   rw [hix]
   obtain ⟨x, hx1, hx2, hx3⟩ := rm1.get (k := k) (by omega)
   rw [hkv, Option.bind_some] at hx3
   have hge : decide ((k : Int) ≥ 0) = true := by simp
   simp only [hge, Zct, Int.toNat_natCast, hx1, hx2, Zem ot (show 0 + 2 ≤ _ by simp), List.drop_zero, List.take_succ_cons, List.take_zero, Zar, Zah, Zat, Zau, Zag]
   refine ⟨by omega, ?_⟩
   cases hg : Zhh m a.hd with
   | none =>
    rw [hg] at hx3
    simp only at hx3
    subst hx3
    have hbn : Zpn m a.hd t = some (m ++ [(a.hd, t)]) := by unfold Zpn; rw [hg]
    rw [hcase, hbn]
    simp only [Zau, show ((0 : Int) == 0) = true from rfl, Zct]
    obtain ⟨h', hst, hK, hr'⟩ := rm1.put hSi hkv hg (rt.same S1)
    rw [hst]
    simp only [Zaw]
    exact ⟨by omega, K1.trans hK, rfl, hr'⟩
   | some u =>
    rw [hg] at hx3
    simp only at hx3
    have hu := bo.var _ (Zqy hg)
    obtain ⟨ux, uc, ue, hux⟩ := hx3.shape
    simp only [List.cons.injEq, and_true] at hux
    obtain ⟨hux1, hux2⟩ := hux
    rw [hux1, hux2] at hx2 hx3
    rw [hux1, hux2]
    simp only [Zau, Zag]
    have hu0 : (((u.hd : Nat) : Int) == 0) = false := by
     have := Zso hu.2.1
     have hne : u.hd ≠ 0 := fun e => by rw [e] at this; simp at this
     simp; omega
    simp only [hu0, Zbh]
    have rt1 := rt.same S1
    refine ⟨by omega, (Zqd _ (Nat.le_refl _) (by omega) hu.2.1 hx3).mono ?_⟩
    rintro v h3 ⟨rfl, s3⟩
    have ot3 := s3.get ot (Own.lt ot)
    have rt3 := rt1.same s3
    simp only [Zai, Zem ot3 (show 0 + 2 ≤ _ by simp), List.drop_zero, List.take_succ_cons, List.take_zero, true_and]
    refine (Zqd _ (Nat.le_refl _) (by omega) ht rt3).mono ?_
    rintro v h4 ⟨rfl, s4⟩
    simp only [Zai]
    have hri : ∀ hx, Zbb h2.length h2 hx → Zbv hx (.ptr (some (i, 0 + k * 2))) 2 = Zbv h2 (.ptr (some (i, 0 + k * 2))) 2 := fun hx sx => by
     simp only [Zbv, sx.eq i (by omega)]
    rw [hri _ (s3.cat s4), hri _ s3]
    refine ⟨by trivial, ?_⟩
    have K4 : Zgy i h h4 := K1.trans (Zgy.of_same (s3.cat s4))
    by_cases he : u = t
    ·subst he
     have hbn : Zpn m a.hd u = some m := by unfold Zpn; rw [hg]; simp
     rw [hcase, hbn]
     exact ⟨K4, by simp, (rm1.same (s3.cat s4))⟩
    ·have hne : ¬ u.txt = t.txt := fun e => he (Ty.txt_inj' hu.2.1 ht e)
     have hbn : Zpn m a.hd t = none := by unfold Zpn; rw [hg]; simp [he]
     rw [hcase, hbn]
     exact ⟨K4, by simp [hne]⟩
  | false =>
   rw [hv] at hcase
   simp only [Bool.false_eq_true, if_false] at hcase
   rw [Yda ha hv]
   have hge : decide ((-1 : Int) ≥ 0) = false := by decide
   simp only [hge, Zbh, Zaq ot, Zaq oa, List.getElem?_cons_succ, List.getElem?_cons_zero, Zau, Zag]
   refine Zgh (fun hne => ?_) (fun he => ?_)
   ·rw [if_neg (fun e => hne (by rw [e]))] at hcase
    rw [hcase]
    exact ⟨K1, rfl⟩
   ·have he' : a.hd = t.hd := by omega
    rw [if_pos he'] at hcase
    rw [hcase]
    have hlen := Yft ha ht he'
    refine Ziu.L10ind _ _ _ _ _ _ _ (J := fun (g : Nat) x43 h' => x43 = (g : Int) ∧ g ≤ a.ps.length ∧ Zgy i h2 h' ∧ ∃ m1, matchL m (a.ps.take g) (t.ps.take g) = some m1 ∧ Zsk S h' i m1) (fun g => a.ps.length - g) ?_ 0 _ _ ⟨rfl, by omega, Zgy.refl _ _, m, by simp [matchL], rm1⟩
    rintro g x43 h' ⟨rfl, hg, hK, m1, hm1, rm1⟩ R hR
    unfold Ziu.L10t
    have KK := K1.trans hK
    refine Zan (fun hlt => ?_) (fun hge => ?_)
    ·have hga : g < a.ps.length := by omega
     have hgt : g < t.ps.length := by omega
     have oa1 : h'[h.length]? = some (.cells Zad [.int .u8 (a.hd : Int), .slice aa a.ps.length ca ea] false) := by rw [hK.eq _ (Own.lt oa) (by omega)]; exact oa
     have ot1 : h'[h0.length]? = some (.cells Zad [.int .u8 (t.hd : Int), .slice at' t.ps.length ct et] false) := by rw [hK.eq _ (Own.lt ot) (by omega)]; exact ot
     obtain ⟨ja, ofa, a3, c3, e3, rfl, hra, hka⟩ := Zhy.get (rowa.keepAt (i := i) (fun j o h0 e => hSi j (hSa j o (by omega) e)) KK) hval (fun k w x h1 h2 => (hva k w x h1 h2).keep fun j hj hl => KK.eq j hl (hSi j hj)) hga
     obtain ⟨jt, oft, a4, c4, e4, rfl, hrt, hkt⟩ := Zhy.get (rowt.keepAt (i := i) (fun j o h0 e => hSi j (hSt j o (by omega) e)) KK) hvtl (fun k w x h1 h2 => (hvt k w x h1 h2).keep fun j hj hl => KK.eq j hl (hSi j hj)) hgt
     simp only [Zax, Int.toNat_natCast, Zaq oa1, Zaq ot1, hra, hrt, Nat.zero_add, List.getElem?_cons_succ, List.getElem?_cons_zero, Zag, Zar, Zah, Zat, Zau, true_and]
     have hma := List.getElem_mem hga
     have hmt := List.getElem_mem hgt
     have h1 := Ty.size_part hma
     have h2 := Ty.len_part hmt
     have bo1 : BOk n m1 := BOk.matchL (fun x hx => Ty.ok_ps ha x (List.mem_of_mem_take hx)) (fun x hx => ⟨Ty.ok_ps ht x (List.mem_of_mem_take hx), by have := Ty.len_part (List.mem_of_mem_take hx); omega⟩) bo hm1
     have htk := Zsd a.ps t.ps m g hga hgt
     rw [hm1] at htk
     simp only at htk
     refine ⟨by omega, by omega, (Zyn N (by omega) (Ty.ok_ps ha _ hma) (Ty.ok_ps ht _ hmt) hB (by omega) bo1 hSi hka hkt rm1).mono ?_⟩
     rintro v h3 ⟨K3, hres⟩
     have oa3 : h3[h.length]? = some (.cells Zad [.int .u8 (a.hd : Int), .slice (some (ja, ofa)) a.ps.length ca ea] false) := by rw [K3.eq _ (Own.lt oa1) (by omega)]; exact oa1
     cases hmm : matchT m1 a.ps[g] t.ps[g] with
     | none =>
      rw [hmm] at hres htk
      subst hres
      simp only [Zal, Bool.not_false, Zct, Zaq oa3, List.getElem?_cons_succ, List.getElem?_cons_zero, true_and]
      rw [Zsi a.ps t.ps m (g + 1) hlen htk]
      exact ⟨KK.trans K3, rfl⟩
     | some m2 =>
      rw [hmm] at hres htk
      obtain ⟨rfl, rm2⟩ := hres
      simp only [Zal, Bool.not_true, Zbh, Zaq oa3, List.getElem?_cons_succ, List.getElem?_cons_zero, true_and]
      rw [Zbj (by omega)]
      exact hR (g + 1) _ _ (by omega) ⟨rfl, by omega, hK.trans K3, m2, htk, rm2⟩
    ·apply Ziu.A10x0i
     have : g = a.ps.length := by omega
     subst this
     rw [List.take_length, hlen, List.take_length] at hm1
     rw [hm1]
     exact ⟨KK, rfl, rm1⟩
end Go.Sim

set_option linter.unusedVariables false
set_option linter.unusedSimpArgs false
set_option maxRecDepth 20000
namespace Go.Sim
open Go Go.RowKit

theorem Zsf : ∀ (N : Nat) {S : Nat → Prop} {h : Zaa} {t : Ty} {v : List Zam}, t.size ≤ N → t.txt.length ≤ 1048576 → Zhy S h t v → Zae pg Zhj [.agg v] h fun x h' => x = .int .i64 (t.txt.length : Nat) ∧ Zbb h.length h h'
 | 0, S, h, t, v, hN, _, _ => by have := t.size_ps; omega
 | N + 1, S, h, t, v, hN, hB, r => by
  obtain ⟨a, c, e, vs, rfl, hrow, hS, hvl, hp⟩ := r.parts
  have hps2 : t.ps.length ≤ 2 := by cases t <;> simp [Ty.ps]
  have htx := t.txt_mids
  have hln := congrArg List.length htx
  rw [List.length_append, List.length_cons] at hln
  apply Zfq.call
  simp only [Zaz, Zff, Nat.zero_add, List.getElem?_cons_succ, List.getElem?_cons_zero, Zag]
  generalize hh0 : h ++ [Zco.cells Zad [.int .u8 (t.hd : Int), .slice a t.ps.length c e] false] = h0
  have s0 : Zbb h.length h h0 := by rw [← hh0]; exact Zas
  have o0 : h0[h.length]? = some (.cells Zad [.int .u8 (t.hd : Int), .slice a t.ps.length c e] false) := by rw [← hh0]; simp
  refine Zfq.L3ind _ _ _ _ _ _ _ _ (J := fun (g : Nat) x3 x9 h' => x9 = (g : Int) ∧ g ≤ t.ps.length ∧ Zbb h.length h h' ∧ Zbb h0.length h0 h' ∧ x3 = ((1 + (Zou 0 (t.ps.take g)).length : Nat) : Int)) (fun g => t.ps.length - g) ?_ 0 _ _ _ ⟨rfl, by omega, s0, Zbb.refl _ _, by simp [Zou]⟩
  rintro g x3 x9 h' ⟨rfl, hg, hSm, hS1, rfl⟩ R hR
  unfold Zfq.L3t
  have o2 := hS1.get o0 (Own.lt o0)
  refine Zan (fun hlt => ?_) (fun hge => ?_)
  ·have hg' : g < t.ps.length := by omega
   obtain ⟨i, o, a2, c2, e2, rfl, hr, hk⟩ := Zhy.get (hrow.same' hSm) hvl (fun k w x h1 h2 => (hp k w x h1 h2).same hSm) hg'
   simp only [Zax, Int.toNat_natCast, hr, Zar, Zah, Zat, Zau, Zag, Zaz]
   rw [Zgv]
   simp only [Zaw]
   rw [Ykp]
   simp only [Zar, Zah, Zat, Zau, Zag]
   have hm := List.getElem_mem hg'
   have h1 := Ty.size_part hm
   have h2 := Ty.len_part hm
   have hmt := Zuc t.ps 0 g hg'
   have hml : (Zou 0 (t.ps.take (g + 1))).length ≤ (Zou 0 t.ps).length := Zwy _ _ _
   have hmtl := congrArg List.length hmt
   simp only [List.length_append, List.length_cons, Nat.zero_add] at hmtl
   have s2 : Zbb h'.length h' (h' ++ [.cells Zad [.int .u8 (t.ps[g].hd : Int), .slice a2 t.ps[g].ps.length c2 e2] false]) := Zas
   refine ⟨by omega, (Zsf N (by omega) (by omega) (hk.same s2)).mono ?_⟩
   rintro x h3 ⟨rfl, s3⟩
   simp only [Zau]
   rw [Zbj (by omega), Zbj (by omega), IntWalk.i64_in _ (by omega)]
   exact hR (g + 1) _ _ _ (by omega) ⟨rfl, by omega, (hSm.cat s2).cat s3, (hS1.cat s2).cat s3, by omega⟩
  ·apply Zfq.A3x0i
   have : g = t.ps.length := by omega
   subst this
   simp only [Zaq o2, Nat.zero_add, List.getElem?_cons_succ, List.getElem?_cons_zero, Zag]
   rw [List.take_length]
   refine Zan (fun hpos => ?_) (fun hneg => ?_)
   ·have hne : t.ps ≠ [] := fun e => by rw [e] at hpos; simp at hpos
    rw [if_neg hne] at hln
    apply Zfq.J9i
    simp only [List.length_cons, List.length_nil] at hln
    rw [Zbj (by omega)]
    exact ⟨by congr 1; omega, hSm⟩
   ·have hne : t.ps = [] := List.eq_nil_of_length_eq_zero (by omega)
    rw [if_pos hne] at hln
    simp only [List.length_nil] at hln
    apply Zfq.J9i
    exact ⟨by congr 1; omega, hSm⟩
def Ydi (m : Bd) (g : Nat) : List Nd := (Zfj.take g).filterMap fun v => (Zhh m v).map fun t => ([v], t.txt)
theorem Yla (m : Bd) (g : Nat) : Ydi m (g + 1) = Ydi m g ++ (match Zfj[g]? with | some v => (match Zhh m v with | some t => [([v], t.txt)] | none => []) | none => []) := by
 unfold Ydi
 rw [List.take_succ, List.filterMap_append]
 cases Zfj[g]? with
 | none => simp
 | some v => cases hb : Zhh m v <;> simp [hb]
theorem Yok (m : Bd) (g : Nat) : (Ydi m g).length ≤ 6 := by
 unfold Ydi
 refine Nat.le_trans (List.length_filterMap_le _ _) ?_
 rw [List.length_take]; exact Nat.le_trans (Nat.min_le_right _ _) (by decide)
theorem Ypj {g v : Nat} (hv : Zfj[g]? = some v) : sub [88, 89, 90, 120, 121, 122, 49, 50, 51, 52, 53, 54] (g : Int) ((g : Int) + 1) = [v] := by
 have hg : g < 6 := (List.getElem?_eq_some_iff.1 hv).1
 match g, hg with
 | 0, _ | 1, _ | 2, _ | 3, _ | 4, _ | 5, _ => simp [Zfj] at hv; subst hv; rfl
theorem Ylx {S : Nat → Prop} {h : Zaa} {i : Nat} {m : Bd} (rm : Zsk S h i m) (bo : BOk 60 m) :
  Zae pg Zph [.ptr (some (i, 0))] h fun v h' => Zbb h.length h h' ∧ ∃ a n c e, v = .tup [.slice a n c e, .bool true] ∧ n ≤ c ∧ Zcv Zbe eP h.length h' a n (bdL m) := by
 apply Zfn.call
 simp only [Zaz, Zax]
 generalize hh0 : h ++ [Zco.cells Zbe [] false] = h0
 have s0 : Zbb h.length h h0 := by rw [← hh0]; exact Zas
 have l0 : h0.length = h.length + 1 := by rw [← hh0]; simp
 have o0 : h0[h.length]? = some (.cells Zbe [] false) := by rw [← hh0]; simp
 refine Zfn.L3ind _ _ (J := fun (g : Nat) a4 n4 c4 e4 x10 h' => x10 = (g : Int) ∧ g ≤ 12 ∧ Zbb h.length h h' ∧ n4 = (Ydi m g).length ∧ n4 ≤ c4 ∧ Vec Zbe h' a4 n4 c4 (Zcf eP (Ydi m g)) ∧ (∀ i, a4 = some (i, 0) → h.length ≤ i)) (fun g => 12 - g) ?_ 0 _ _ _ _ _ _
  ⟨rfl, by omega, s0, by simp [Ydi], Nat.le_refl _, Vec.mk1 (by simpa [Ydi] using o0), fun i hi => by cases hi; omega⟩
 rintro g a4 n4 c4 e4 x10 h' ⟨rfl, hg, hSm, rfl, hnc, hv, ha⟩ R hR
 unfold Zfn.L3t
 have hbl := Yok m g
 refine Zan (fun hlt => ?_) (fun hge => ?_)
 ·have hg' : g < 12 := by omega
  obtain ⟨x, hx1, hx2, hx3⟩ := (rm.same hSm).get hg'
  have il := (rm.same hSm).lt
  have hx : ∃ (d : Nat) (a : Pt) (n c : Nat) (e : Bool), x = (.int .u8 (d : Int), .slice a n c e) ∧ (match (Zfj[g]?).bind (Zhh m) with | some t => d = t.hd | none => d = 0) := by
   split at hx3
   ·rename_i t ht
    obtain ⟨ua, uc, ue, hu⟩ := hx3.shape
    simp only [List.cons.injEq, and_true] at hu
    exact ⟨t.hd, ua, t.ps.length, uc, ue, by rw [← hu.1, ← hu.2], by first | rfl | rw [ht]⟩
   ·rename_i hn; exact ⟨0, none, 0, 0, true, hx3, by first | rfl | rw [hn]⟩
  obtain ⟨d, ua, un, uc, ue, rfl, hd⟩ := hx
  simp only [Int.toNat_natCast, hx2, Zax, Zar, Zah, Zat, Zau, Zag, Zaz]
  generalize hq : h' ++ [Zco.cells Zad [.int .u8 0, .slice none 0 0 true] false] = hq'
  have sq : Zbb h'.length h' hq' := by rw [← hq]; exact Zas
  have hrq : Zbv hq' (.ptr (some (i, 0 + g * 2))) 2 = some [.int .u8 (d : Int), .slice ua un uc ue] := by
   rw [← hx2]; simp only [Zbv, sq.eq i il]
  rw [hrq, ← hq, Zgv]
  generalize hw : h' ++ [Zco.cells Zad [.int .u8 (d : Int), .slice ua un uc ue] false] = hw'
  have sw : Zbb h'.length h' hw' := by rw [← hw]; exact Zas
  have ow : hw'[h'.length]? = some (.cells Zad [.int .u8 (d : Int), .slice ua un uc ue] false) := by rw [← hw]; simp
  simp only [Zaw, Zaq ow, Nat.zero_add, List.getElem?_cons_zero, Zau, true_and]
  have SW := hSm.cat sw
  have hsuc := Yla m g
  have skip : (Zfj[g]?).bind (Zhh m) = none → Zfn.J9 (fun v h' => Zbb h.length h h' ∧ ∃ a n c e, v = .tup [.slice a n c e, .bool true] ∧ n ≤ c ∧ Zcv Zbe eP h.length h' a n (bdL m)) R (g : Int) (some (i, 0)) a4 (Ydi m g).length c4 e4 hw' := by
   intro hn
   have hsame : Ydi m (g + 1) = Ydi m g := by
    rw [hsuc]
    cases hvg : Zfj[g]? with
    | none => simp
    | some v => rw [hvg, Option.bind_some] at hn; simp [hn]
   apply Zfn.J9i
   rw [Zbj (by omega)]
   exact hR (g + 1) _ _ _ _ _ _ (by omega) ⟨rfl, by omega, SW, by rw [hsame], hnc, by rw [hsame]; exact hv.same sw, ha⟩
  refine ⟨by omega, ?_⟩
  cases hb : (Zfj[g]?).bind (Zhh m) with
  | none =>
   rw [hb] at hd
   simp only at hd
   subst hd
   simp only [show (((0 : Nat) : Int) == 0) = true from rfl, Zct]
   exact skip hb
  | some t =>
   rw [hb] at hd hx3
   simp only at hd hx3
   obtain ⟨v, hvg, hbv⟩ := Option.bind_eq_some_iff.1 hb
   have hu := bo.var _ (Zqy hbv)
   have hg6 : g < 6 := (List.getElem?_eq_some_iff.1 hvg).1
   have hd0 : ((d : Int) == 0) = false := by
    have := Zso hu.2.1
    have hne : t.hd ≠ 0 := fun e => by rw [e] at this; simp at this
    simp; omega
   rw [show decide ((g : Int) ≥ 6) = false by simp; omega]
   simp only [hd0, Zbh]
   apply Zfn.J6i
   rw [← hw, Ykp, hw]
   simp only [Zar, Zah, Zat, Zau, Zag]
   have hu2 : t.txt.length ≤ 60 := hu.2.2
   refine (Zsf _ (Nat.le_refl _) (by omega) (hx3.same sw)).mono ?_
   rintro v' h3 ⟨rfl, s3⟩
   have o3 := s3.get ow (Own.lt ow)
   simp only [Zau]
   rw [show decide (((t.txt.length : Nat) : Int) > 60) = false by simp; omega]
   simp only [Zbh, Zem o3 (show 0 + 2 ≤ _ by simp), List.drop_zero, List.take_succ_cons, List.take_zero, Zar, Zah, Zat, Zau, Zag]
   rw [Zbj (by omega), show (((g + 1 : Nat) : Int)) = (g : Int) + 1 by omega, Ypj hvg]
   refine ⟨⟨by omega, by omega, by simp; omega⟩, (Zqd _ (Nat.le_refl _) (by omega) hu.2.1 ((hx3.same sw).same s3)).mono ?_⟩
   rintro v' h4 ⟨rfl, s4⟩
   simp only [Zai, Zaz]
   have S4 := (SW.cat s3).cat s4
   refine (((hv.same sw).same s3).same s4).pushN Zvm Yck Ycs Yaw (by rw [Zay Zek]) rfl (by omega) rfl (by omega) (fun h6 hl6 hi6 hk6 => ?_)
   simp only [Zag]
   apply Zfn.J9i
   rw [Zbj (by omega)]
   have hle := S4.le
   have hs' : Ydi m (g + 1) = Ydi m g ++ [([v], t.txt)] := by rw [hsuc, hvg]; simp [hbv]
   refine hR (g + 1) _ _ _ _ _ _ (by omega) ⟨rfl, by omega, ⟨by omega, fun j hj => ?_⟩, by rw [hs']; simp, Nat.le_refl _, Vec.mk1 ?_, fun i hi => by cases hi; omega⟩
   ·rw [hk6 j (by omega) fun i hi => by have := ha i hi; omega]; exact S4.eq j hj
   ·rw [hi6, hs', Zeg]; rfl
 ·apply Zfn.A3x0i
  have : g = 12 := by omega
  subst this
  have hb12 : Ydi m 12 = bdL m := by unfold Ydi bdL; rw [List.take_of_length_le (by decide)]
  rw [hb12] at hv hnc ⊢
  exact ⟨hSm, _, _, _, _, rfl, hnc, hv.fresh (b := h.length) rfl fun i hi => ha i hi⟩
theorem Ylo : Zcf eR (List.replicate 12 (Zam.int .u8 0, Zam.slice none 0 0 true)) = [.int .u8 0, .slice none 0 0 true, .int .u8 0, .slice none 0 0 true, .int .u8 0, .slice none 0 0 true, .int .u8 0, .slice none 0 0 true, .int .u8 0, .slice none 0 0 true, .int .u8 0, .slice none 0 0 true, .int .u8 0, .slice none 0 0 true, .int .u8 0, .slice none 0 0 true, .int .u8 0, .slice none 0 0 true, .int .u8 0, .slice none 0 0 true, .int .u8 0, .slice none 0 0 true, .int .u8 0, .slice none 0 0 true] := rfl
theorem Zrb {h h' : Zaa} {s : List Nat} {vs : List Zam} (hm : match Zjp s with | some t => Zhy (Btw h.length h'.length) h' t vs | none => vs = [.int .u8 0, .slice none 0 0 true]) : ∃ (d : Int) (a : Pt) (n c : Nat) (e : Bool), vs = [.int .u8 d, .slice a n c e] := by
 split at hm
 ·obtain ⟨a, c, e, rfl⟩ := hm.shape; exact ⟨_, _, _, _, _, rfl⟩
 ·exact ⟨_, _, _, _, _, hm⟩
theorem Ztj (p s : List Nat) (hp0 : p.length ≤ 1048576) (hs0 : s.length ≤ 1048576) (h : Zaa) : Zae pg Zjg [.str p, .str s] h (Yfz p s h) := by
 apply Zlt.call
 refine (Zqi p (by omega) h).mono ?_
 rintro v h1 ⟨s1, vs1, rfl, r1⟩
 obtain ⟨d1, a1, n1, c1, e1, rfl⟩ := Zrb r1
 simp only [Zdn, Zah, Zdp, Zau, Zag, Zat, Zal, Zaz]
 rw [Zgv]
 generalize hh2 : h1 ++ [Zco.cells Zad [.int .u8 d1, .slice a1 n1 c1 e1] false] = h2
 have s2 : Zbb h1.length h1 h2 := by rw [← hh2]; exact Zas
 have o2 : h2[h1.length]? = some (.cells Zad [.int .u8 d1, .slice a1 n1 c1 e1] false) := by rw [← hh2]; simp
 simp only [Zaw]
 refine (Zqi s (by omega) h2).mono ?_
 rintro v h3 ⟨s3, vs3, rfl, r3⟩
 obtain ⟨d3, a3, n3, c3, e3, rfl⟩ := Zrb r3
 simp only [Zdn, Zah, Zdp, Zau, Zag, Zat, Zal]
 rw [Zgv]
 generalize hh4 : h3 ++ [Zco.cells Zad [.int .u8 d3, .slice a3 n3 c3 e3] false] = h4
 have s4 : Zbb h3.length h3 h4 := by rw [← hh4]; exact Zas
 have o4 : h4[h3.length]? = some (.cells Zad [.int .u8 d3, .slice a3 n3 c3 e3] false) := by rw [← hh4]; simp
 simp only [Zaw]
 rw [← Ylo]
 generalize hh5 : h4 ++ [Zco.cells Zfb (Zcf eR (List.replicate 12 (Zam.int .u8 0, Zam.slice none 0 0 true))) false] = h5
 have s5 : Zbb h4.length h4 h5 := by rw [← hh5]; exact Zas
 have o5 : h5[h4.length]? = some (.cells Zfb (Zcf eR (List.replicate 12 (Zam.int .u8 0, Zam.slice none 0 0 true))) false) := by rw [← hh5]; simp
 have x2 : h5[h1.length]? = some (.cells Zad [.int .u8 d1, .slice a1 n1 c1 e1] false) := s5.get (s4.get (s3.get o2 (Own.lt o2)) (by have := Own.lt o2; have := s3.le; omega)) (by have := Own.lt o2; have := s3.le; have := s4.le; omega)
 have x4 := s5.get o4 (Own.lt o4)
 have S2 := s1.cat s2
 have S5 := (((S2.cat s3).cat s4).cat s5)
 have no : Zjv p s = none → ∀ hz, Zbb h.length h hz → Yfz p s h (.tup [.slice (some (hz.length, 0)) 0 0 true, .bool false]) (hz ++ [Zco.cells Zbe [] false]) := fun hn hz sz =>
  ⟨sz.cat Zas, _, 0, 0, true, by unfold Zpy; rw [hn]; rfl, Nat.le_refl _, by unfold Zjt; rw [hn]; exact ⟨rfl, .inl rfl⟩⟩
 cases hp : Zjp p with
 | none =>
  have : Zos p = false := by unfold Zos; rw [hp]; rfl
  rw [this]
  simp only [Bool.not_false, Zct]
  exact no (by unfold Zjv; rw [hp]) _ S5
 | some a =>
  rw [Yls hp]
  simp only [Bool.not_true, Zbh]
  cases ht : Zjp s with
  | none =>
   have : Zos s = false := by unfold Zos; rw [ht]; rfl
   rw [this]
   simp only [Bool.not_false, Zct]
   exact no (by unfold Zjv; rw [hp, ht]) _ S5
  | some t =>
   rw [Yls ht]
   rw [hp] at r1
   rw [ht] at r3
   simp only at r1 r3
   simp only [Bool.not_true, Zbh, Zem x2 (show 0 + 2 ≤ _ by simp), Zem x4 (show 0 + 2 ≤ _ by simp), List.drop_zero, List.take_succ_cons, List.take_zero, Zar, Zah, Zat, Zau, Zag]
   obtain ⟨ha1, ha2, ha3⟩ := Zfs.1 hp
   obtain ⟨ht1, ht2, ht3⟩ := Zfs.1 ht
   have hms : Zjv p s = matchT [] a t := by unfold Zjv; rw [hp, ht]
   have l3 := s3.le; have l4 := s4.le; have l2 := s2.le
   have R1 := ((((r1.same s2).same s3).same s4).same s5).mono (S' := fun j => j ≠ h4.length) (fun j hj => by have := hj.2; omega)
   have R3 := ((r3.same s4).same s5).mono (S' := fun j => j ≠ h4.length) (fun j hj => by have := hj.2; omega)
   refine (Zyn _ (Nat.le_refl _) ha1 ht1 (n := 60) (by omega) (by rw [← ht2]; exact ht3) BOk.nil (fun j hj => hj) R1 R3 (Zsk.nil o5)).mono ?_
   rintro v h6 ⟨K6, hres⟩
   have l5 := S5.le
   have lh4 : h.length ≤ h4.length := (((S2.cat s3).cat s4)).le
   have S6 : Zbb h.length h h6 := ⟨by have := K6.le; omega, fun j hj => by rw [K6.eq j (by omega) (by omega)]; exact S5.eq j hj⟩
   cases hm : matchT [] a t with
   | none =>
    rw [hm] at hres hms
    subst hres
    simp only [Zal, Bool.not_false, Zct]
    exact no hms _ S6
   | some m =>
    rw [hm] at hres hms
    obtain ⟨rfl, rm6⟩ := hres
    simp only [Zal, Bool.not_true, Zbh]
    apply Zlt.J6i
    refine (Ylx rm6 (Zwl hms)).mono ?_
    rintro v h7 ⟨s7, a7, n7, c7, e7, rfl, hc7, f7⟩
    simp only [Zdn, Zah, Zag, Zal, Zat]
    refine ⟨S6.cat s7, a7, n7, c7, e7, by unfold Zpy; rw [hms]; rfl, hc7, ?_⟩
    unfold Zjt; rw [hms]
    exact ⟨f7.1, f7.2.imp id fun ⟨i, ha, hb, hi⟩ => ⟨i, ha, by have := S6.le; omega, hi⟩⟩
theorem Zxn (p s : List Nat) (hp0 : p.length ≤ 1048576) (hs0 : s.length ≤ 1048576) (h : Zaa) : Zae pg Zks [.str p, .str s] h fun v h' => v = .bool (Zpy p s) ∧ Zbb h.length h h' := by
 apply Zoi.call
 refine (Ztj p s hp0 hs0 h).mono ?_
 rintro v h1 ⟨s1, a, n, c, e, rfl, _⟩
 simp only [Zdn, Zah, Zag, Zal, Zat]
 exact ⟨by trivial, s1⟩
end Go.Sim

set_option linter.unusedVariables false
set_option linter.unusedSimpArgs false
set_option maxRecDepth 20000
namespace Go.Sim
open Go Go.RowKit

theorem Yhy {s : List Nat} (h : ((s.length : Nat) : Int) ≠ 1) : Zko s = false := by
 match s, h with
 | [], _ => rfl
 | [x], h => exact absurd rfl h
 | _ :: _ :: _, _ => rfl
theorem Ysv {s : List Nat} (h : ((s.length : Nat) : Int) = 1) : ∃ v, s = [v] := by
 match s, h with
 | [], h => simp at h
 | [x], _ => exact ⟨x, rfl⟩
 | _ :: _ :: _, h => simp at h; omega
theorem Zug {h : Zaa} {a : Pt} {n c : Nat} {e : Bool} {l : List Nd} (r : Row h.length h a (n * 2) (Zcf eP l)) (hn : n ≤ 1048576) (hb : ∀ p ∈ l, p.2.length ≤ 1048576) (hb1 : ∀ p ∈ l, ∀ x ∈ p.1, x < 256) :
  Zae pg Zim [.slice a n c e] h fun v h' => v = .bool (Zhl l) ∧ Zbb h.length h h' := by
 have hl : l.length = n := by have := r.1; rw [Zay Zek] at this; omega
 apply Zdv.call
 refine Zdv.L2ind _ _ _ _ _ _ _ _ _ _ (J := fun (g : Nat) x7 h' => x7 = (g : Int) ∧ g ≤ n ∧ Zbb h.length h h' ∧ (List.range g).all (Zpz l) = true) (fun g => n - g) ?_ 0 _ _ ⟨rfl, by omega, Zbb.refl _ _, rfl⟩
 rintro g x7 h' ⟨rfl, hg, hS, hk⟩ R hR
 unfold Zdv.L2t
 refine Zan (fun hlt => ?_) (fun hge => ?_)
 ·obtain ⟨i, o, hgl, rfl, hi, hr, _, _⟩ := (r.same hS).pr (k := g) (by omega)
  have hat : Zpz l g = (Zko l[g].1 && Zos l[g].2 && (g == 0 || Zeh (l.getD (g - 1) ([], [])).1 l[g].1)) := by unfold Zpz; rw [Zfp hgl]
  have no : Zpz l g = false → Zhl l = false := fun hno => Zjx hgl hno
  have hbg := hb _ (List.getElem_mem hgl)
  have hbg1 := hb1 _ (List.getElem_mem hgl)
  simp only [Zax, Int.toNat_natCast, hr, Zar, Zah, Zat, Zai, Zaz]
  rw [Zgv]
  generalize hq : h' ++ [Zco.cells Zbe [.str l[g].1, .str l[g].2] false] = hq'
  have sq : Zbb h'.length h' hq' := by rw [← hq]; exact Zas
  have oq : hq'[h'.length]? = some (.cells Zbe [.str l[g].1, .str l[g].2] false) := by rw [← hq]; simp
  have Sq := hS.cat sq
  simp only [Zaw, Zaq oq, Nat.zero_add, List.getElem?_cons_succ, List.getElem?_cons_zero, Zai, true_and]
  refine ⟨by omega, Zgh (fun b0 => ⟨by rw [no (by rw [hat, Yhy b0]; rfl)], Sq⟩) (fun b0 => ?_)⟩
  obtain ⟨v, hv⟩ := Ysv b0
  rw [hv] at hbg1
  have hvl := hbg1 v (by simp)
  rw [hv]
  refine ⟨by simp, ?_⟩
  simp only [Int.toNat_zero, List.getD_cons_zero]
  refine (Zow v).mono ?_
  rintro v' h2 ⟨rfl, rfl⟩
  simp only [Zal]
  have hiv : Zko l[g].1 = Zdi v := by rw [hv]; rfl
  refine Zcb (fun b1 => ⟨by rw [no (by rw [hat, hiv, b1]; rfl)], Sq⟩) (fun b1 => ?_)
  simp only [Zaq oq, List.getElem?_cons_succ, List.getElem?_cons_zero, Zai]
  refine (Zke l[g].2 (by omega) h2).mono ?_
  rintro v' h3 ⟨rfl, s3⟩
  simp only [Zal]
  have S3 := Sq.cat s3
  refine Zcb (fun b2 => ⟨by rw [no (by rw [hat, b2]; simp)], S3⟩) (fun b2 => ?_)
  have go : (g = 0 ∨ Zeh (l.getD (g - 1) ([], [])).1 l[g].1 = true) → Zdv.J6 (fun v h' => v = .bool (Zhl l) ∧ Zbb h.length h h') R (g : Int) (((n : Nat) : Int)) (some (i, o)) n c e (some (i, o)) n c e h3 := by
   intro hz
   apply Zdv.J6i
   rw [Zbj (by omega)]
   refine hR (g + 1) _ _ (by omega) ⟨rfl, by omega, S3, Zha hk ?_⟩
   rw [hat, hiv, b1, b2]
   rcases hz with rfl | hz
   ·rfl
   ·rw [hz]; simp
  refine Zan (fun hpos => ?_) (fun hz => go (.inl (by omega)))
  have hg0 : 0 < g := by omega
  obtain ⟨i', o', hgl', he, _, _, hc', _⟩ := (r.same S3).pr (k := g - 1) (by omega)
  cases he
  rw [Zyw hg0 (by omega)]
  simp only [Zax, Int.toNat_natCast, Nat.add_zero, hc', Zaq (s3.get oq (Own.lt oq)), List.getElem?_cons_zero, Zai, true_and]
  have hgd : l.getD (g - 1) ([], []) = l[g - 1] := Zfp hgl'
  refine ⟨by omega, Zcb (fun b3 => ⟨by rw [no (by rw [hat, hiv, b1, b2, hgd, b3]; simp; omega)], S3⟩) (fun b3 => go (.inr (by rw [hgd]; exact b3)))⟩
 ·apply Zdv.A2x0i
  have : g = n := by omega
  subst this
  exact ⟨by unfold Zhl; rw [hl, hk], hS⟩
theorem Zhy.below {S : Nat → Prop} {h : Zaa} : ∀ {t : Ty} {v : List Zam}, Zhy S h t v → Zhy (fun j => S j ∧ j < h.length) h t v
 | .k d, _, h => h
 | .u d x, _, ⟨j, c, e, r, hv, sj, hj, hr⟩ => ⟨j, c, e, r, hv, ⟨sj, Own.lt hj⟩, hj, hr.below⟩
 | .w d x y, _, ⟨j, c, e, r, r', hv, sj, hj, hr, hr'⟩ => ⟨j, c, e, r, r', hv, ⟨sj, Own.lt hj⟩, hj, hr.below, hr'.below⟩
theorem Ypb {f : Nat → Option Ty} {t : Ty} (h : f t.hd = none ∨ t.ps ≠ []) : (subst f t).hd = t.hd ∧ (subst f t).ps = t.ps.map (subst f) := by
 cases t with
 | k c =>
  have : f c = none := by rcases h with h | h; exact h; exact absurd rfl h
  simp [subst, this, Ty.hd, Ty.ps]
 | u c a => simp [subst, Ty.hd, Ty.ps]
 | w c a b => simp [subst, Ty.hd, Ty.ps]
theorem Yeg : pg.underlying Zjz = some (.slice Zad) := by kernel_rfl
theorem Ymb : pg.cellsOf Zad = 2 := by kernel_rfl
theorem Yjy : pg.okElem Zad = true := by kernel_rfl
theorem Yjv : pg.bytesOf Zad ≤ 127 := Nat.le_of_ble_eq_true (by kernel_rfl)
theorem Yay {vs : List (List Zam)} (h : ∀ v ∈ vs, v.length = 2) : vs.flatten.length = vs.length * 2 := by
 rw [List.length_flatten]
 induction vs with
 | nil => rfl
 | cons v vs ih =>
  have h1 := h v (by simp)
  have h2 := ih (fun x hx => h x (by simp [hx]))
  simp only [List.map_cons, List.sum_cons, List.length_cons]; omega
theorem Yfo : ∀ (N : Nat) {t : Ty} {S : Nat → Prop} {h : Zaa} {vt : List Zam} {i : Nat} {m : Bd}, t.size ≤ N → t.ok = true → (∀ j, S j → j < h.length ∧ j ≠ i) → Zhy S h t vt → Yox S h i m → (∀ v u, Zhh m v = some u → u.ok = true) → (∀ v, Zdi v = false → Zhh m v = none) →
  Zae pg Zni [.ptr (some (i, 0)), .agg vt] h fun x h' => Zbb h.length h h' ∧ ∃ vs, x = .agg vs ∧ Zhy (fun j => S j ∨ h.length ≤ j) h' (subst (Zhh m) t) vs
 | 0, t, S, h, vt, i, m, hN, _, _, _, _, _, _ => by have := t.size_ps; omega
 | N + 1, t, S, h, vt, i, m, hN, ht, hSi, rt, rm, hmo, hmn => by
  obtain ⟨at', ct, et, vts, rfl, rowt, hSt, hvtl, hvt⟩ := id rt.parts
  have hps2 : t.ps.length ≤ 2 := by cases t <;> simp [Ty.ps]
  have hil := rm.lt
  apply Zhs.call
  simp only [Zaz]
  generalize hh0 : h ++ [Zco.cells Zad [.int .u8 (t.hd : Int), .slice at' t.ps.length ct et] false] = h0
  generalize hh1 : h0 ++ [Zco.cells Zad [.int .u8 0, .slice none 0 0 true] false] = h1
  have s0 : Zbb h.length h h0 := by rw [← hh0]; exact Zas
  have s1 : Zbb h0.length h0 h1 := by rw [← hh1]; exact Zas
  have o0 : h0[h.length]? = some (.cells Zad [.int .u8 (t.hd : Int), .slice at' t.ps.length ct et] false) := by rw [← hh0]; simp
  have oa := s1.get o0 (Own.lt o0)
  have oz : h1[h0.length]? = some (.cells Zad [.int .u8 0, .slice none 0 0 true] false) := by rw [← hh1]; simp
  have S1 := s0.cat s1
  have l0 : h0.length = h.length + 1 := by rw [← hh0]; simp
  have l1 : h1.length = h.length + 2 := by rw [← hh1]; simp [l0]
  simp only [Zaq oa, Nat.zero_add, List.getElem?_cons_succ, List.getElem?_cons_zero, Zau]
  refine (Ztp t.hd).mono ?_
  rintro v h2 ⟨rfl, rfl⟩
  have rm1 := rm.same S1
  simp only [Zau, Zax]
  -- nothing stands for the letter
  have main : Zhh m t.hd = none → Zhs.J4 (fun x h' => Zbb h.length h h' ∧ ∃ vs, x = .agg vs ∧ Zhy (fun j => S j ∨ h.length ≤ j) h' (subst (Zhh m) t) vs) h.length 0 (some (i, 0)) h0.length 0 h2 := by
   intro hno
   obtain ⟨hsh, hsp⟩ := Ypb (f := Zhh m) (t := t) (.inl hno)
   apply Zhs.J4i
   simp only [Zaq oa, Nat.zero_add, List.getElem?_cons_succ, List.getElem?_cons_zero, Zau, Zaz]
   generalize hh3 : h2 ++ [Zco.cells Zad [] false] = h3
   have s3 : Zbb h2.length h2 h3 := by rw [← hh3]; exact Zas
   have o3 : h3[h2.length]? = some (.cells Zad [] false) := by rw [← hh3]; simp
   have l3 : h3.length = h2.length + 1 := by rw [← hh3]; simp
   rw [Zgv]
   generalize hh4 : h3 ++ [Zco.cells Zad [.int .u8 (t.hd : Int), .slice (some (h2.length, 0)) 0 0 true] false] = h4
   have s4 : Zbb h3.length h3 h4 := by rw [← hh4]; exact Zas
   have o4 : h4[h3.length]? = some (.cells Zad [.int .u8 (t.hd : Int), .slice (some (h2.length, 0)) 0 0 true] false) := by rw [← hh4]; simp
   have l4 : h4.length = h3.length + 1 := by rw [← hh4]; simp
   have oa4 := s4.get (s3.get oa (Own.lt oa)) (by have := Own.lt oa; omega)
   have oz4 := s4.get (s3.get oz (Own.lt oz)) (by have := Own.lt oz; omega)
   have o34 := s4.get o3 (Own.lt o3)
   have S4 := (S1.cat s3).cat s4
   simp only [Zaw, Zaq oa4, List.getElem?_cons_succ, List.getElem?_cons_zero, Zag]
   refine Zhs.L6ind _ _ _ _ _ _ _ _ _ _ _ (J := fun (g : Nat) x35 h' => x35 = (g : Int) ∧ g ≤ t.ps.length ∧ Zbb h.length h h' ∧ h4.length ≤ h'.length ∧ h'[h0.length]? = some (.cells Zad [.int .u8 0, .slice none 0 0 true] false) ∧
    ∃ (a : Pt) (cp : Nat) (e : Bool) (vs : List (List Zam)), h'[h3.length]? = some (.cells Zad [.int .u8 (t.hd : Int), .slice a g cp e] false) ∧ vs.length = g ∧ Vec Zad h' a g cp vs.flatten ∧ (∀ j, a = some (j, 0) → j = h2.length ∨ h4.length ≤ j) ∧
     ∀ (k : Nat) (v : List Zam) (x : Ty), vs[k]? = some v → t.ps[k]? = some x → Zhy (fun j => (S j ∨ h4.length ≤ j) ∧ ∀ j0, a = some (j0, 0) → j ≠ j0) h' (subst (Zhh m) x) v)
    (fun g => t.ps.length - g) ?_ 0 _ _ ⟨rfl, by omega, S4, Nat.le_refl _, oz4, some (h2.length, 0), 0, true, [], o4, rfl, Vec.mk1 (by simpa using o34), fun j hj => by cases hj; exact .inl rfl, by simp⟩
   rintro g x35 h' ⟨rfl, hg, hS, hl4, hz, a, cp, e, vs, ho, hvl, hv, ha, hp⟩ R hR
   unfold Zhs.L6t
   have hz2 : ∀ v ∈ vs, v.length = 2 := fun v hv => by
    obtain ⟨k, hk, rfl⟩ := List.mem_iff_getElem.1 hv
    exact (hp k vs[k] (t.ps[k]'(by omega)) (List.getElem?_eq_getElem hk) (List.getElem?_eq_getElem (by omega))).len
   refine Zan (fun hlt => ?_) (fun hge => ?_)
   ·have hgt : g < t.ps.length := by omega
    obtain ⟨jt, oft, a4, c4, e4, rfl, hrt, hkt⟩ := Zhy.get (rowt.same' hS) hvtl (fun k w x h1 h2 => (hvt k w x h1 h2).same hS) hgt
    simp only [Zax, Int.toNat_natCast, hrt, Zar, Zah, Zat, Zau, Zag, Zaz]
    rw [Zgv]
    generalize hq : h' ++ [Zco.cells Zad [.int .u8 (t.ps[g].hd : Int), .slice a4 t.ps[g].ps.length c4 e4] false] = hq'
    have sq : Zbb h'.length h' hq' := by rw [← hq]; exact Zas
    have oq := sq.get ho (Own.lt ho)
    simp only [Zaw, Zaq oq, Nat.zero_add, List.getElem?_cons_succ, List.getElem?_cons_zero, Zag]
    rw [← hq, Ykp, hq]
    simp only [Zar, Zah, Zat, Zau, Zag, true_and]
    have hmt := List.getElem_mem hgt
    have h1 := Ty.size_part hmt
    have hlq := sq.le
    have hSle := hS.le
    refine ⟨by omega, (Yfo N (by omega) (Ty.ok_ps ht _ hmt) (S := S) (fun j hj => ⟨by have := (hSi j hj).1; omega, (hSi j hj).2⟩) (hkt.same sq) (rm.same (hS.cat sq)) hmo hmn).mono ?_⟩
    rintro v h5 ⟨s5, nv, rfl, hn5⟩
    obtain ⟨na, nc, ne, hnv⟩ := hn5.shape
    rw [hnv] at hn5
    have o5 := s5.get oq (Own.lt oq)
    simp only [hnv, Zdp, Zah, Zat, Zau, Zag, Zaq o5, List.getElem?_cons_succ, List.getElem?_cons_zero, true_and]
    have hc6 : Zak (h5 ++ [Zco.cells Zad [.int .u8 ((subst (Zhh m) t.ps[g]).hd : Int), .slice na (subst (Zhh m) t.ps[g]).ps.length nc ne] false]) (.ptr (some (h3.length, 1))) = some (.slice a g cp e) := by rw [Zaq (Zpg o5)]; rfl
    refine ⟨by rw [hc6], ?_⟩
    have v5 := (hv.same sq).same s5
    have hl5 := s5.le
    refine v5.pushN Yeg Ymb Yjy Yjv (by rw [Yay hz2]; omega) rfl (by omega) rfl (by omega) (fun h7 hl7 hi7 hk7 => ?_)
    simp only [Zag]
    have hz5 := s5.get (sq.get hz (Own.lt hz)) (by have := Own.lt hz; omega)
    have ha5 : ∀ j, a = some (j, 0) → j = h2.length ∨ h4.length ≤ j := ha
    have o7 : h7[h3.length]? = some (.cells Zad [.int .u8 (t.hd : Int), .slice a g cp e] false) := by
     rw [hk7 _ (Own.lt o5) fun j hj => by rcases ha j hj with hh | hh <;> omega]; exact o5
    rw [Zbr o7 (by simp)]
    simp only [Zaw, putRow, List.take_succ_cons, List.take_zero, List.length_cons, List.length_nil, List.drop_succ_cons, List.drop_nil, List.cons_append, List.nil_append, List.append_nil]
    rw [Zbj (by omega)]
    have hS5 := (hS.cat sq).cat s5
    have h7o : ∀ j, j < h5.length → (∀ j0, a = some (j0, 0) → j ≠ j0) → j ≠ h3.length → (h7.set h3.length (Zco.cells Zad [.int .u8 (t.hd : Int), .slice (some (h5.length + 1, 0)) (g + 1) (g + 1) false] false))[j]? = h5[j]? := fun j hj hne hne2 => by rw [Zcj (by omega), hk7 j hj hne]
    refine hR (g + 1) _ _ (by omega) ⟨rfl, by omega, ⟨by simp; omega, fun j hj => ?_⟩, by simp; omega, ?_, some (h5.length + 1, 0), g + 1, false, vs ++ [[.int .u8 ((subst (Zhh m) t.ps[g]).hd : Int), .slice na (subst (Zhh m) t.ps[g]).ps.length nc ne]], Zcq o7, by simp [hvl], Vec.mk1 ?_, fun j hj => by cases hj; right; omega, ?_⟩
    ·rw [h7o j (by omega) (fun j0 hj0 => by rcases ha j0 hj0 with hh | hh <;> omega) (by omega)]; exact hS5.eq j hj
    ·rw [h7o _ (Own.lt hz5) (fun j0 hj0 => by rcases ha j0 hj0 with hh | hh <;> omega) (by omega)]; exact hz5
    ·rw [Zcj (by omega), hi7]; simp
    ·intro k v x hv' hx
     have hkeep : ∀ {t' : Ty} {v' : List Zam}, Zhy (fun j => (S j ∨ h4.length ≤ j) ∧ ∀ j0, a = some (j0, 0) → j ≠ j0) h5 t' v' → Zhy (fun j => (S j ∨ h4.length ≤ j) ∧ ∀ j0, (some (h5.length + 1, 0) : Pt) = some (j0, 0) → j ≠ j0) (h7.set h3.length (Zco.cells Zad [.int .u8 (t.hd : Int), .slice (some (h5.length + 1, 0)) (g + 1) (g + 1) false] false)) t' v' := by
      intro t' v' hr
      have hr2 := hr.below
      refine Zhy.mono (S := fun j => ((S j ∨ h4.length ≤ j) ∧ ∀ j0, a = some (j0, 0) → j ≠ j0) ∧ j < h5.length) (fun j hj => ⟨hj.1.1, fun j0 e0 => by cases e0; have := hj.2; omega⟩) (hr2.agree fun j hj => ?_)
      refine h7o j hj.2 hj.1.2 ?_
      rcases hj.1.1 with h8 | h8
      ·have := (hSi j h8).1; omega
      ·omega
     by_cases hkl : k < vs.length
     ·rw [List.getElem?_append_left hkl] at hv'
      exact hkeep (((hp k v x hv' hx).same sq).same s5)
     ·rw [List.getElem?_append_right (by omega)] at hv'
      have hk0 : k = vs.length := by
       by_cases e : k - vs.length = 0
       ·omega
       ·rw [List.getElem?_eq_none (by simp; omega)] at hv'; cases hv'
      subst hk0
      simp at hv'
      subst hv'
      rw [hvl, List.getElem?_eq_getElem hgt] at hx
      cases hx
      refine hkeep (Zhy.mono (S := fun j => S j ∨ hq'.length ≤ j) (fun j hj => ⟨?_, fun j0 e0 => ?_⟩) hn5)
      ·rcases hj with h8 | h8
       ·exact .inl h8
       ·exact .inr (by omega)
      ·have hj0 := (hv.same sq).lt' e0
       rcases hj with h8 | h8
       ·have := (hSi j h8).1
        rcases ha j0 e0 with hh | hh <;> omega
       ·omega
   ·apply Zhs.A6x0i
    have : g = t.ps.length := by omega
    subst this
    have hrow := Zem (o := 0) (n := 2) ho (by simp)
    rw [hrow]
    simp only [List.drop_zero, List.take_succ_cons, List.take_zero, Zar, Zah, Zat, Zau, Zag]
    rw [Zbr hz (by simp)]
    simp only [Zaw]
    rw [Zem (Zcq hz) (by simp [putRow])]
    simp only [putRow, List.take_zero, List.nil_append, List.length_cons, List.length_nil, List.cons_append, List.drop_succ_cons, List.drop_zero, List.drop_nil, List.append_nil, List.take_succ_cons, Zar, Zah, Zau, Zag, Zat]
    refine ⟨⟨by simp; exact hS.le, fun j hj => by rw [Zcj (by omega)]; exact hS.eq j hj⟩, _, rfl, ?_⟩
    have hget : ∀ j, j ≠ h0.length → (h'.set h0.length (Zco.cells Zad [.int .u8 (t.hd : Int), .slice a t.ps.length cp e] false))[j]? = h'[j]? := fun j hj => Zcj (fun e => hj e.symm)
    rcases hv with ⟨rfl, h0', _, hvs⟩ | ⟨j0, rfl, hj0⟩
    ·-- no parts
     have hps : t.ps = [] := List.eq_nil_of_length_eq_zero h0'
     cases t with
     | k d =>
      simp only [subst, show Zhh m d = none from hno, Option.getD_none]
      exact ⟨_, _, _, rfl⟩
     | u d x => simp [Ty.ps] at hps
     | w d x y => simp [Ty.ps] at hps
    ·have hj0n : j0 ≠ h0.length := by rcases ha j0 rfl with hh | hh <;> omega
     have hS4 := ha j0 rfl
     have := Zhy.make (S := fun j => S j ∨ h.length ≤ j) (h := h'.set h0.length (Zco.cells Zad [.int .u8 (t.hd : Int), .slice (some (j0, 0)) t.ps.length cp e] false)) (t := subst (Zhh m) t) (j := j0) (n := t.ps.length) (c := cp) (e := e) (vs := vs)
      (by rw [hsp, List.length_map]) (.inr (by rcases hS4 with hh | hh <;> omega)) (by rw [hget j0 hj0n]; exact hj0) hvl (fun k w x hw hx => by
       rw [hsp, List.getElem?_map] at hx
       obtain ⟨y, hy, rfl⟩ := Option.map_eq_some_iff.1 hx
       have hr := hp k w y hw hy
       refine Zhy.mono (S := fun j => (S j ∨ h4.length ≤ j) ∧ ∀ j1, (some (j0, 0) : Pt) = some (j1, 0) → j ≠ j1) (fun j hj => hj.1.imp id (fun h => by omega)) (hr.agree fun j hj => hget j ?_)
       rcases hj.1 with h8 | h8
       ·have := (hSi j h8).1; omega
       ·omega)
     rw [hsh] at this
     exact this
  cases hv : Zdi t.hd with
  | true =>
   obtain ⟨k, hk6, hkv, hix⟩ := Zxd hv
   rw [hix]
   obtain ⟨x, hx1, hx2, hx3⟩ := rm1.get (k := k) hk6
   rw [hkv, Option.bind_some] at hx3
   have hge : decide ((k : Int) ≥ 0) = true := by simp
   simp only [hge, Zct, Int.toNat_natCast, hx1, hx2, Zar, Zah, Zat]
   refine ⟨by omega, ?_⟩
   cases hg : Zhh m t.hd with
   | none =>
    rw [hg] at hx3
    simp only at hx3
    subst hx3
    simp only [Zau, show ((0 : Int) == 0) = true from rfl, Bool.not_true, Zbh]
    exact main hg
   | some u =>
    rw [hg] at hx3
    simp only at hx3
    have hu := hmo _ _ hg
    obtain ⟨ux, uc, ue, hux⟩ := hx3.shape
    simp only [List.cons.injEq, and_true] at hux
    obtain ⟨hux1, hux2⟩ := hux
    rw [hux1, hux2] at hx3
    rw [hux1, hux2]
    have hu0 : (((u.hd : Nat) : Int) == 0) = false := by
     have := Zso hu
     have hne : u.hd ≠ 0 := fun e => by rw [e] at this; simp at this
     simp; omega
    simp only [Zau, Zag, hu0, Bool.not_false, Zct]
    rw [Zbr oz (by simp)]
    simp only [Zaw]
    rw [Zem (Zcq oz) (by simp [putRow])]
    simp only [putRow, List.take_zero, List.nil_append, List.length_cons, List.length_nil, List.cons_append, List.drop_succ_cons, List.drop_zero, List.drop_nil, List.append_nil, List.take_succ_cons, Zar, Zah, Zau, Zag, Zat]
    refine ⟨by omega, ⟨by simp; omega, fun j hj => by rw [Zcj (by omega)]; exact S1.eq j hj⟩, _, rfl, ?_⟩
    have hsub : subst (Zhh m) t = u := by rw [Zqh ht hv]; simp [subst, hg]
    rw [hsub]
    refine Zhy.mono (S := S) (fun j hj => .inl hj) (hx3.agree fun j hj => Zcj (by have := (hSi j hj).1; omega))
  | false =>
   rw [Yda ht hv]
   have hge : decide ((-1 : Int) ≥ 0) = false := by decide
   simp only [hge, Zbh]
   exact main (hmn _ hv)
end Go.Sim

set_option linter.unusedVariables false
set_option linter.unusedSimpArgs false
set_option maxRecDepth 20000
namespace Go.Sim
open Go Go.RowKit

def Yrk (p : Nd) : Prop := Zvh p.1.length ∧ Zvh p.2.length ∧ (∀ b ∈ p.1, b < 256) ∧ ∀ b ∈ p.2, b < 256
theorem Ymu {P : Program} {h : Zaa} {f : Nat} {e : TypeId} {f0 f1 : Field} {v : List Zam} {d : Dt} (he : P.underlying e = some (.struct #[f0, f1])) (h0 : P.underlying f0.type = some .string) (h1 : P.underlying f1.type = some .string) (hr : rd P h (f + 2) e v d) :
  ∃ p : Nd, v = eP p ∧ Yrk p := by
 unfold rd at hr
 rw [he] at hr
 obtain ⟨ds', vs', rfl, hd1, hd2, rfl, hall'⟩ := hr
 match vs', ds', hd2, hd1 with
 | [u, w], [x, y], _, _ =>
  have g0 := (hall' 0 f0 u x rfl rfl rfl).2
  have g1 := (hall' 1 f1 w y rfl rfl rfl).2
  simp only [rd, h0] at g0
  simp only [rd, h1] at g1
  obtain ⟨s, rfl, _, hs1, hs2⟩ := g0
  obtain ⟨t, rfl, _, ht1, ht2⟩ := g1
  exact ⟨(s, t), rfl, hs1, ht1, hs2, ht2⟩
theorem Yli {P : Program} {h : Zaa} {f : Nat} {e : TypeId} {α : Type} {enc : α → List Zam} {G : α → Prop} (el : ∀ v d, rd P h f e v d → ∃ x : α, v = enc x ∧ G x) :
  ∀ (vs : List (List Zam)) (ds : List Dt), ds.length = vs.length → (∀ (i : Nat) (v : List Zam) (x : Dt), vs[i]? = some v → ds[i]? = some x → v.length = P.cellsOf e ∧ rd P h f e v x) →
  ∃ l : List α, l.length = vs.length ∧ vs.flatten = Zcf enc l ∧ ∀ x ∈ l, G x
 | [], _, _, _ => ⟨[], rfl, rfl, by simp⟩
 | v :: vs, [], h, _ => by simp at h
 | v :: vs, d :: ds, hl, hall => by
  obtain ⟨l, hll, hfl, hs⟩ := Yli el vs ds (by simpa using hl) fun i v x hv hx => hall (i + 1) v x (by simpa using hv) (by simpa using hx)
  obtain ⟨x, rfl, hx⟩ := el v d (hall 0 v d rfl rfl).2
  exact ⟨x :: l, by simp [hll], by simp [hfl], fun y hy => (List.mem_cons.1 hy).elim (fun e => e ▸ hx) (hs y)⟩
theorem Ylb {P : Program} {h : Zaa} {f : Nat} {t e : TypeId} {α : Type} {enc : α → List Zam} {G : α → Prop} {cs : List Zam} {d : Dt} (ht : P.underlying t = some (.slice e)) (el : ∀ v d, rd P h f e v d → ∃ x : α, v = enc x ∧ G x) (hr : rd P h (f + 1) t cs d) :
  ∃ a n c ex, ∃ l : List α, cs = [.slice a n c ex] ∧ Row h.length h a (n * P.cellsOf e) (Zcf enc l) ∧ Zvh n ∧ l.length = n ∧ ∀ x ∈ l, G x := by
 unfold rd at hr
 rw [ht] at hr
 obtain ⟨a, n, c, ex, ds, vs, rfl, rfl, hdl, hn, hvl, hrow, hall⟩ := hr
 obtain ⟨l, hll, hfl, hs⟩ := Yli el vs ds (by omega) hall
 rw [hfl] at hrow
 exact ⟨a, n, c, ex, l, rfl, hrow, hn, by omega, hs⟩
theorem Yga {P : Program} {h : Zaa} {f : Nat} {t e : TypeId} {f0 f1 : Field} {cs : List Zam} {d : Dt} (ht : P.underlying t = some (.slice e)) (he : P.underlying e = some (.struct #[f0, f1])) (h0 : P.underlying f0.type = some .string) (h1 : P.underlying f1.type = some .string) (hc : P.cellsOf e = 2)
  (hr : rd P h (f + 3) t cs d) : ∃ a n c ex, ∃ l : List Nd, cs = [.slice a n c ex] ∧ Row h.length h a (n * 2) (Zcf eP l) ∧ Zvh n ∧ l.length = n ∧ ∀ p ∈ l, Yrk p := by
 have := Ylb (enc := eP) (G := Yrk) ht (fun v d hr => Ymu he h0 h1 hr) hr
 rwa [hc] at this
def Yua (h : Zaa) (x : EI) : Prop := ∃ i : Ins, Yrd h x i ∧ Yrk i.1 ∧ Zvh i.2.length ∧ ∀ p ∈ i.2, Yrk p
theorem Yrw {P : Program} {h : Zaa} {f : Nat} {ti tn ts : TypeId} {g0 g1 f0 f1 : Field} {v : List Zam} {d : Dt} (hi : P.underlying ti = some (.struct #[g0, g1])) (hg0 : g0.type = tn) (hg1 : g1.type = ts)
  (he : P.underlying tn = some (.struct #[f0, f1])) (h0 : P.underlying f0.type = some .string) (h1 : P.underlying f1.type = some .string) (hc : P.cellsOf tn = 2) (ht : P.underlying ts = some (.slice tn)) (hr : rd P h (f + 4) ti v d) :
  ∃ x : EI, v = eN x ∧ Yua h x := by
 unfold rd at hr
 rw [hi] at hr
 obtain ⟨ds', vs', rfl, hd1, hd2, rfl, hall'⟩ := hr
 match vs', ds', hd2, hd1 with
 | [u, w], [x, y], _, _ =>
  have k0 := (hall' 0 g0 u x rfl rfl rfl).2
  have k1 := (hall' 1 g1 w y rfl rfl rfl).2
  rw [hg0] at k0
  rw [hg1] at k1
  obtain ⟨p, rfl, hp⟩ := Ymu (f := f + 1) he h0 h1 k0
  obtain ⟨a, n, c, ex, l, rfl, hrow, hn, hll, hl⟩ := Yga (f := f) ht he h0 h1 hc k1
  exact ⟨⟨p.1, p.2, a, n, c, ex⟩, rfl, (p, l), ⟨rfl, rfl, hrow⟩, hp, by rw [hll]; exact hn, hl⟩
theorem Zws {h : Zaa} : ∀ {xs : List EI}, (∀ x ∈ xs, Yua h x) → ∃ is : List Ins, Ycj h xs is ∧ ∀ i ∈ is, Yrk i.1 ∧ Zvh i.2.length ∧ ∀ p ∈ i.2, Yrk p
 | [], _ => ⟨[], ⟨rfl, by simp⟩, by simp⟩
 | x :: xs, hx => by
  obtain ⟨is, ⟨hl, hr⟩, hb⟩ := Zws (xs := xs) fun y hy => hx y (by simp [hy])
  obtain ⟨i, hi, hib⟩ := hx x (by simp)
  refine ⟨i :: is, ⟨by simp [hl], fun k y j hy hj => ?_⟩, fun j hj => (List.mem_cons.1 hj).elim (fun e => e ▸ hib) (hb j)⟩
  cases k with
  | zero => simp at hy hj; subst hy; subst hj; exact hi
  | succ k => simp at hy hj; exact hr k y j hy hj
theorem rd_world {P : Program} {h : Zaa} {f : Nat} {tw tc tcs ti tis tn ts : TypeId} {w0 w1 q0 q1 g0 g1 f0 f1 : Field} {cs : List Zam} {d : Dt} (hw : P.underlying tw = some (.struct #[w0, w1])) (hw0 : w0.type = tcs) (hw1 : w1.type = tis)
  (hcs : P.underlying tcs = some (.slice tc)) (hct : P.underlying tc = some (.struct #[q0, q1])) (hq0 : P.underlying q0.type = some .string) (hq1 : P.underlying q1.type = some .string) (hcc : P.cellsOf tc = 2)
  (his : P.underlying tis = some (.slice ti)) (hic : P.cellsOf ti = 3) (hi : P.underlying ti = some (.struct #[g0, g1])) (hg0 : g0.type = tn) (hg1 : g1.type = ts)
  (he : P.underlying tn = some (.struct #[f0, f1])) (h0 : P.underlying f0.type = some .string) (h1 : P.underlying f1.type = some .string) (hc : P.cellsOf tn = 2) (ht : P.underlying ts = some (.slice tn)) (hr : rd P h (f + 6) tw cs d) :
  ∃ a0 n0 c0 e0 a1 n1 c1 e1, ∃ w : Wd, cs = [.slice a0 n0 c0 e0, .slice a1 n1 c1 e1] ∧ (n0 ≤ c0 → n1 ≤ c1 → Zmm h a0 n0 c0 a1 n1 c1 w) ∧ Yts w := by
 unfold rd at hr
 rw [hw] at hr
 obtain ⟨ds', vs', rfl, hd1, hd2, rfl, hall'⟩ := hr
 match vs', ds', hd2, hd1 with
 | [u, v], [x, y], _, _ =>
  have k0 := (hall' 0 w0 u x rfl rfl rfl).2
  have k1 := (hall' 1 w1 v y rfl rfl rfl).2
  rw [hw0] at k0
  rw [hw1] at k1
  obtain ⟨a0, n0, c0, e0, l0, rfl, hrow0, hn0, hl0, hb0⟩ := Yga (f := f + 2) hcs hct hq0 hq1 hcc k0
  obtain ⟨a1, n1, c1, e1, l1, rfl, hrow1, hn1, hl1, hb1⟩ := Ylb (f := f + 4) (enc := eN) (G := Yua h) his (fun v d hr => Yrw hi hg0 hg1 he h0 h1 hc ht hr) k1
  rw [hic] at hrow1
  obtain ⟨is, hrep, hib⟩ := Zws hb1
  refine ⟨a0, n0, c0, e0, a1, n1, c1, e1, ⟨l0, is⟩, rfl, fun k0 k1 => ⟨hrow0, ⟨l1, hrow1, hrep⟩, k0, k1⟩, ?_⟩
  refine ⟨by rw [show (Wd.mk l0 is).cs.length = n0 from hl0]; exact hn0, ?_, fun p hp => ⟨(hb0 p hp).1, (hb0 p hp).2.1, (hb0 p hp).2.2.1⟩, fun i hi => ?_⟩
  ·have : is.length = n1 := by have := hrep.1; omega
   show Zvh is.length
   rw [this]; exact hn1
  ·obtain ⟨p1, p2, p3⟩ := hib i hi
   exact ⟨p1.1, p1.2.1, p2, fun p hp => ⟨(p3 p hp).1, (p3 p hp).2.1⟩⟩

end Go.Sim

set_option linter.unusedSimpArgs false
set_option linter.unusedVariables false
namespace Go.Sim

def Yno : Ty → List Nat
 | .k c => if Zdi c then [c] else []
 | .u c a => Yno a
 | .w c a b => Yno a ++ Yno b
structure Yva (m m' : Bd) (a t : Ty) : Prop where
 keep : ∀ v u, Zhh m v = some u → Zhh m' v = some u
 sub : subst (Zhh m') a = t
 vars : ∀ v, (Zhh m' v).isSome = true ↔ ((Zhh m v).isSome = true ∨ v ∈ Yno a)
end Go.Sim

set_option linter.unusedSimpArgs false
set_option linter.unusedVariables false
namespace Go.Sim

structure Yuw (f : Nat → Option Ty) : Prop where
 nv : ∀ v, Zdi v = false → f v = none
 ok : ∀ v t, f v = some t → t.ok = true
noncomputable def after (f g : Nat → Option Ty) (v : Nat) : Option Ty := if Zdi v then some (subst g ((f v).getD (.k v))) else none
noncomputable def Ytz (a b : Ins) : Bool := decide (a.1.1 = b.1.1) && Zpy b.1.2 a.1.2
end Go.Sim

set_option linter.unusedVariables false
set_option linter.unusedSimpArgs false
set_option maxRecDepth 20000
namespace Go.Sim
open Go Go.RowKit

theorem Ygg {h : Zaa} {a0 a1 : Pt} {n0 c0 n1 c1 : Nat} {w : Wd} (r : Zmm h a0 n0 c0 a1 n1 c1 w) {k : Nat} (hk : k < w.is.length) :
  ∃ i o a n cp e, a1 = some (i, o) ∧ i < h.length ∧ Zbv h (.ptr (some (i, o + k * 3))) 3 = some [.str w.is[k].1.1, .str w.is[k].1.2, .slice a n cp e] ∧ Zak h (.ptr (some (i, o + k * 3))) = some (.str w.is[k].1.1) ∧ Zak h (.ptr (some (i, o + k * 3 + 1))) = some (.str w.is[k].1.2) ∧ Row h.length h a (n * 2) (Zcf eP w.is[k].2) ∧ w.is[k].2.length = n := by
 have hl := r.len1
 obtain ⟨i, o, hk', a, n, cp, e, h1, h2, h3, h4, h5, h6, h7, h8⟩ := r.inst (k := k) (by omega)
 exact ⟨i, o, a, n, cp, e, h1, h2, h3, h4, h5, h7, h8⟩
end Go.Sim

set_option linter.unusedVariables false
set_option linter.unusedSimpArgs false
set_option maxRecDepth 20000
namespace Go.Sim
open Go Go.RowKit

theorem Zzs : pg.underlying Zvk = some (.slice Zgs) := by kernel_rfl
theorem Yoe : pg.cellsOf Zgs = 1 := by kernel_rfl
theorem Yob : pg.okElem Zgs = true := by kernel_rfl
theorem Ypd : pg.bytesOf Zgs ≤ 127 := Nat.le_of_ble_eq_true (by kernel_rfl)
def ixs {α : Type} (f : α → Bool) (l : List α) : List Int := (l.zipIdx.filter fun p => f p.1).map fun p => (p.2 : Int)
theorem Yfy {α : Type} (f : α → Bool) {l : List α} {g : Nat} (h : g < l.length) : ixs f (l.take (g + 1)) = ixs f (l.take g) ++ if f l[g] then [(g : Int)] else [] := by
 unfold ixs
 rw [List.take_succ_eq_append_getElem h, List.zipIdx_append, List.filter_append, List.map_append]
 congr 1
 simp only [List.length_take, Nat.min_eq_left (by omega : g ≤ l.length), Nat.zero_add, List.zipIdx_singleton, List.filter_cons, List.filter_nil]
 split <;> simp
theorem Zzu {α : Type} (f : α → Bool) (l : List α) : (ixs f l).length ≤ l.length := by
 unfold ixs; rw [List.length_map]; exact Nat.le_trans (List.length_filter_le _ _) (by simp)
theorem fa1 {j o : Nat} {K : Zam → Prop} : Zib pg Zaj (.ptr (some (j, o))) 1 K = K (.ptr (some (j, o + 1))) := by kernel_rfl
end Go.Sim
