/- A part of the proof of a statement of this seat: see the text that holds the theorem. No condition. -/
import Derived.Test.YtlljbdepamknoaaGreatDoorPTCVars
import Derived.Test.YtlljbdepamknoaaGreatDoorCTy
import Derived.Test.YtlljbdepamknoaaGreatDoorCWRep
import Derived.Test.YtlljbdepamknoaaGreatDoorPTCWCls
import Derived.Test.YtlljbdepamknoaaGreatDoorPTCWVar2
set_option linter.unusedVariables false
set_option linter.unusedSimpArgs false
set_option linter.all false
set_option linter.unusedVariables false
set_option linter.unusedSimpArgs false
set_option maxRecDepth 20000
namespace Go.Sim
open Go Go.RowKit

def one (c : Nat) : List Nat := [c]
theorem Zwg : pg.underlying Zfd = some (.slice Zcm) := by kernel_rfl
theorem Ybv : pg.cellsOf Zcm = 1 := by kernel_rfl
theorem Ybq : pg.okElem Zcm = true := by kernel_rfl
theorem Ydg : pg.bytesOf Zcm ≤ 127 := Nat.le_of_ble_eq_true (by kernel_rfl)
theorem Yry (s : List Nat) (h : Zaa) : Zae pg Zrz [.str s] h fun v h' => Zbb h.length h h' ∧ ∃ a n c e, v = .slice a n c e ∧ Row h'.length h' a n (strs ((Zsg s).map one)) := by
 apply Zjl.call
 simp only [Zaz]
 have hlist : (h ++ [Zco.cells Zcm [] false] ++ [Zco.cells Zcm [.str [88], .str [89], .str [90], .str [120], .str [121], .str [122]] false])[h.length + 1]? = some (.cells Zcm [.str [88], .str [89], .str [90], .str [120], .str [121], .str [122]] false) := by simp
 have hlen : List.length (h ++ [Zco.cells Zcm [] false]) = h.length + 1 := by simp
 rw [hlen]
 refine Zjl.L3ind _ _ _ _ _ _ _ (J := fun (g : Nat) a3 n3 c3 e3 x9 h' => x9 = (g : Int) ∧ g ≤ 6 ∧ Zbb h.length h h' ∧ h'[h.length + 1]? = some (.cells Zcm [.str [88], .str [89], .str [90], .str [120], .str [121], .str [122]] false) ∧ n3 = (((Zfj.take g).filter fun v => decide (v ∈ s)).map one).length ∧ Vec Zcm h' a3 n3 c3 (strs (((Zfj.take g).filter fun v => decide (v ∈ s)).map one)) ∧ ∀ i, a3 = some (i, 0) → h.length ≤ i ∧ i ≠ h.length + 1) (fun g => 6 - g) ?_ 0 _ _ _ _ _ _
  ⟨rfl, by omega, (Zbb.app (Nat.le_refl _) _).trans (Zbb.app (by simp) _), hlist, by simp, Vec.mk1 (by simp), fun i hi => by cases hi; omega⟩
 rintro g a3 n3 c3 e3 x9 h' ⟨rfl, hg, hS, hl, rfl, hv, ha⟩ R hR
 unfold Zjl.L3t
 refine Zan (fun hlt => ?_) (fun hge => ?_)
 ·have hlt' : g < 6 := by omega
  have hc : ∃ c, Zfj[g]? = some c ∧ Zak h' (.ptr (some (h.length + 1, 0 + (g : Int).toNat * 1))) = some (.str [c]) := by
   rw [Zaq hl, Int.toNat_natCast]
   match g, hlt' with
   | 0, _ | 1, _ | 2, _ | 3, _ | 4, _ | 5, _ => exact ⟨_, rfl, rfl⟩
  obtain ⟨c, hc1, hc2⟩ := hc
  simp only [Zax, hc2, Zai]
  refine ⟨by omega, Zna.mono ?_⟩
  rintro v h2 ⟨rfl, rfl⟩
  simp only [Zal]
  have htk : Zfj.take (g + 1) = Zfj.take g ++ [c] := by
   rw [List.take_succ, hc1]; rfl
  have hbd : (((Zfj.take g).filter fun v => decide (v ∈ s)).map one).length ≤ 6 := by
   rw [List.length_map]
   exact Nat.le_trans (List.length_filter_le _ _) (by simp; omega)
  refine Zan (fun hin => ?_) (fun hout => ?_)
  ·simp only [Zaz]
   refine hv.push Zwg Ybv Ybq Ydg (by simp) rfl (by omega) (fun h4 hl4 hi4 hk4 => ?_)
   simp only [Zag]
   apply Zjl.J7i
   rw [Zbj (by omega)]
   have hle := hS.le
   refine hR (g + 1) _ _ _ _ _ _ (by omega) ⟨rfl, by omega, ⟨by omega, fun j hj => ?_⟩, ?_, ?_, Vec.mk1 ?_, fun i hi => by cases hi; have := Own.lt hl; omega⟩
   ·rw [hk4 j (by omega) fun i hi => by have := (ha i hi).1; omega]; exact hS.eq j hj
   ·rw [hk4 _ (Own.lt hl) fun i hi => (ha i hi).2.symm]; exact hl
   ·rw [htk, List.filter_append]; simp [hin]
   ·rw [hi4, htk, List.filter_append]; simp [hin, strs, one]
  ·apply Zjl.J7i
   rw [Zbj (by omega)]
   have hf : (Zfj.take (g + 1)).filter (fun v => decide (v ∈ s)) = (Zfj.take g).filter fun v => decide (v ∈ s) := by rw [htk, List.filter_append]; simp [hout]
   refine hR (g + 1) _ _ _ _ _ _ (by omega) ⟨rfl, by omega, hS, hl, by rw [hf], by rw [hf]; exact hv, ha⟩
 ·have : g = 6 := by omega
  subst this
  apply Zjl.A3x0i
  refine ⟨hS, _, _, _, _, rfl, hv.row (by simp)⟩
end Go.Sim

set_option linter.unusedVariables false
set_option linter.unusedSimpArgs false
set_option maxRecDepth 20000
namespace Go.Sim
open Go Go.RowKit

theorem Zff {h : Zaa} {t : TypeId} {cs : List Zam} {o : Nat} : Zak (h ++ [.cells t cs false]) (.ptr (some (h.length, o))) = cs[o]? := Zaq (t := t) (cs := cs) (ro := false) (by simp)
theorem Ycv {h : Zaa} {t : TypeId} {cs : List Zam} {n : Nat} (hn : cs.length = n) : Zbv (h ++ [.cells t cs false]) (.ptr (some (h.length, 0))) n = some cs := by
 rw [Zem (show (h ++ [Zco.cells t cs false])[h.length]? = some (.cells t cs false) by simp) (by omega)]; simp [← hn]
theorem Zas {h : Zaa} {x : Zco} : Zbb h.length h (h ++ [x]) := Zbb.app (Nat.le_refl _) _
theorem Ztz {h : Zaa} {t : TypeId} {cs vs : List Zam} (hl : cs.length = vs.length) : Zbk (h ++ [.cells t cs false]) (.ptr (some (h.length, 0))) vs = some (h ++ [.cells t vs false]) := by
 rw [Zbr (show (h ++ [Zco.cells t cs false])[h.length]? = some (.cells t cs false) by simp) (by omega)]
 simp [putRow, hl]
theorem Zgv {h : Zaa} {t : TypeId} {x y a b : Zam} : Zbk (h ++ [.cells t [x, y] false]) (.ptr (some (h.length, 0))) [a, b] = some (h ++ [.cells t [a, b] false]) := Ztz rfl
theorem Ygf {h : Zaa} {t : TypeId} {x y z a b c : Zam} : Zbk (h ++ [.cells t [x, y, z] false]) (.ptr (some (h.length, 0))) [a, b, c] = some (h ++ [.cells t [a, b, c] false]) := Ztz rfl
theorem Row.sl {b : Nat} {h : Zaa} {a : Pt} {n k : Nat} {l : List Nd} (r : Row b h a (n * 2) (Zcf eP l)) (hk : k ≤ n) (hl : l.length = n) : Row b h a (k * 2) (Zcf eP (l.take k)) := by
 obtain ⟨h1, h2⟩ := r
 have e : (Zcf eP (l.take k)).length = k * 2 := by rw [Zay Zek, List.length_take, Nat.min_eq_left (by omega)]
 refine ⟨e, ?_⟩
 rcases h2 with h0 | ⟨i, o, t, all, ro, ha, hb, hi, hle, hcs⟩
 ·exact .inl (by omega)
 ·refine .inr ⟨i, o, t, all, ro, ha, hb, hi, by omega, ?_⟩
  rw [← Yke Zek, hcs, List.take_take, Nat.min_eq_left (by omega)]
theorem Ygq {b : Nat} {h : Zaa} {a : Pt} {n c k : Nat} {e : Bool} {l : List Nd} {K : Zam → Prop} (r : Row b h a (n * 2) (Zcf eP l)) (hl : l.length = n) (hk : k ≤ n) (hc : n ≤ c) {z : Int} (hz : z = k)
  (hK : ∀ a' c' e', Row b h a' (k * 2) (Zcf eP (l.take k)) → k ≤ c' → K (.slice a' k c' e')) : Zgq a n c e 2 none (some (.int .i64 z)) none K := by
 subst hz
 simp only [Zgq, Zjs]
 refine ⟨by omega, ?_⟩
 split
 ·have h0 : n = 0 := by
   obtain ⟨h1, h2⟩ := r
   rcases h2 with h2 | ⟨i, o, t, all, ro, ha, _⟩
   ·omega
   ·cases ha
  have hk0 : k = 0 := by omega
  subst hk0
  exact ⟨⟨by trivial, by simp, .inl (by trivial)⟩, hK _ _ _ (by simpa using Row.nil) (by omega)⟩
 ·rename_i i o
  refine ⟨fun hlt => ?_, fun hlt => ?_⟩
  ·have e2 : ((k : Int) - 0).toNat = k := by omega
   have e3 : o + Int.toNat 0 * 2 = o := by simp
   have e4 : ((c : Int) - 0).toNat = c := by omega
   rw [e2, e3, e4]
   exact hK _ _ _ (r.sl hk hl) (by omega)
  ·have hk0 : k = 0 := by omega
   subst hk0
   exact hK _ _ _ (by simpa using Row.nil) (by omega)

theorem Ydt {h : Zaa} {x : Nd} {j : Nat} {c : List Nat} (hj : Zak h (.ptr (some (j, 0))) = some (.str c)) (hjl : j < h.length) :
  Zae pg Zcy [.agg [.str x.1, .str x.2], .ptr (some (j, 0))] h fun v h' => v = .bool (decide (x.1 = c)) ∧ Zbb h.length h h' := by
 apply Zog.call
 simp only [Zaz, Zff, List.getElem?_cons_zero, Zai]
 have := (Zas (h := h) (x := .cells Zbc [.str x.1, .str x.2] false)).cell hjl hj
 rw [this]
 exact ⟨rfl, Zas⟩
theorem Yeb {h : Zaa} {a : Pt} {n c : Nat} {e : Bool} {cs : List Nd} {j : Nat} {s : List Nat} (r : Row h.length h a (n * 2) (Zcf eP cs)) (hn : n ≤ 4611686018427387904) (hj : Zak h (.ptr (some (j, 0))) = some (.str s)) (hjl : j < h.length) :
  Zae pg Zdk [.slice a n c e, .fn Zcy [.ptr (some (j, 0))]] h fun v h' => (∃ z : Int, v = .int .i64 z ∧ decide (z ≥ 0) = Zgj cs s) ∧ Zbb h.length h h' := by
 have hl : cs.length = n := by have := r.1; rw [Zay Zek] at this; omega
 apply Zbm.call
 refine Zbm.L2ind _ _ _ _ _ _ _ (J := fun (g : Nat) x8 h' => x8 = (g : Int) ∧ g ≤ n ∧ Zbb h.length h h' ∧ Zgj (cs.take g) s = false) (fun g => n - g) ?_ 0 _ _ ⟨rfl, by omega, Zbb.refl _ _, rfl⟩
 rintro g x8 h' ⟨rfl, hg, hS, hk⟩ R hR
 unfold Zbm.L2t
 refine Zan (fun hlt => ?_) (fun hge => ?_)
 ·obtain ⟨i, o, hgl, rfl, _, hr, _⟩ := (r.same hS).pr (k := g) (by omega)
  simp only [Zax, Int.toNat_natCast, hr, Zar, Zah, Zat, Zai]
  refine ⟨by omega, (Ydt (x := cs[g]) (hS.cell hjl hj) (by have := hS.le; omega)).mono ?_⟩
  rintro v h2 ⟨rfl, s2⟩
  simp only [Zal]
  have hS2 := hS.trans (s2.mono hS.le)
  refine Zan (fun he => ?_) (fun he => ?_)
  ·refine ⟨⟨_, rfl, ?_⟩, hS2⟩
   have : Zgj cs s = true := by unfold Zgj; rw [List.any_eq_true]; exact ⟨_, List.getElem_mem hgl, by simpa using he⟩
   rw [this]; simp
  ·rw [Zbj (by omega)]
   exact hR (g + 1) _ _ (by omega) ⟨rfl, by omega, hS2, by rw [Zwe hgl, hk]; simp [he]⟩
 ·apply Zbm.A2x0i
  have : g = n := by omega
  subst this
  rw [List.take_of_length_le (by omega)] at hk
  exact ⟨⟨_, rfl, by rw [hk]; rfl⟩, hS⟩
theorem Yai {h : Zaa} {a : Pt} {n c : Nat} {e : Bool} {cs : List Nd} {s : List Nat} (r : Row h.length h a (n * 2) (Zcf eP cs)) (hn : n ≤ 4611686018427387904) :
  Zae pg Zlh [.slice a n c e, .str s] h fun v h' => v = .bool (Zgj cs s) ∧ Zbb h.length h h' := by
 apply Zut.call
 simp only [Zaz]
 apply Zdb.call
 have s1 : Zbb h.length h (h ++ [.cells Zcm [.str s] false]) := Zas
 refine (Yeb (r.same' s1) hn (s := s) (by rw [Zff]; rfl) (by simp)).mono ?_
 rintro v h2 ⟨⟨z, rfl, hz⟩, s2⟩
 simp only [Zau, Zal]
 exact ⟨by rw [hz], s1.trans (s2.mono s1.le)⟩
theorem Zqq {h : Zaa} {a a1 : Pt} {n c n1 c1 : Nat} {e e1 : Bool} {cs : List Nd} {s : List Nat} (r : Row h.length h a (n * 2) (Zcf eP cs)) (hn : n ≤ 4611686018427387904) :
  Zae pg Zhd [.agg [.slice a n c e, .slice a1 n1 c1 e1], .str s] h fun v h' => v = .int .i64 (Ydv cs s) ∧ Zbb h.length h h' := by
 have hl : cs.length = n := by have := r.1; rw [Zay Zek] at this; omega
 apply Zis.call
 simp only [Zaz, Zff, Nat.add_zero, List.getElem?_cons_zero, Zag]
 have s1 : Zbb h.length h (h ++ [.cells Zaf [.slice a n c e, .slice a1 n1 c1 e1] false]) := Zas
 refine Zis.L2ind _ _ _ _ _ _ _ (J := fun (g : Nat) x10 h' => x10 = (g : Int) ∧ g ≤ n ∧ Zbb h.length h h' ∧ Zgj (cs.take g) s = false) (fun g => n - g) ?_ 0 _ _ ⟨rfl, by omega, s1, rfl⟩
 rintro g x8 h' ⟨rfl, hg, hS, hk⟩ R hR
 unfold Zis.L2t
 refine Zan (fun hlt => ?_) (fun hge => ?_)
 ·obtain ⟨i, o, hgl, rfl, _, hr, _⟩ := (r.same hS).pr (k := g) (by omega)
  simp only [Zax, Int.toNat_natCast, hr, Zar, Zah, Zat, Zai, Zaz]
  rw [Zgv]
  simp only [Zaw, Zff, Nat.add_zero, List.getElem?_cons_zero, Zai]
  refine ⟨by omega, ?_⟩
  have hS2 : Zbb h.length h (h' ++ [.cells Zbc [.str cs[g].1, .str cs[g].2] false]) := hS.trans (Zbb.app hS.le _)
  refine Zan (fun he => ?_) (fun he => ?_)
  ·refine ⟨?_, hS2⟩
   have hkn : Zgj cs s = true := by unfold Zgj; rw [List.any_eq_true]; exact ⟨_, List.getElem_mem hgl, by simpa using he⟩
   unfold Ydv
   rw [hkn, if_pos rfl]
   congr 2
   symm
   rw [List.findIdx_eq hgl]
   refine ⟨by simpa using he, fun j hj => ?_⟩
   unfold Zgj at hk
   rw [List.any_eq_false] at hk
   have := hk cs[j] (List.mem_take_iff_getElem.2 ⟨j, by omega, rfl⟩)
   simpa using this
  ·rw [Zbj (by omega)]
   exact hR (g + 1) _ _ (by omega) ⟨rfl, by omega, hS2, by rw [Zwe hgl, hk]; simp [he]⟩
 ·apply Zis.A2x0i
  have : g = n := by omega
  subst this
  rw [List.take_of_length_le (by omega)] at hk
  exact ⟨by unfold Ydv; rw [hk]; rfl, hS⟩

theorem Ymx {s : List Nat} {g : Nat} {z : Int} (hg : g < s.length) (hz : z = ((g + 1 : Nat) : Int)) : sub s (g : Int) z = [s[g]] := by
 subst hz
 simp only [sub, Int.toNat_natCast]
 rw [List.take_succ_eq_append_getElem hg, List.drop_append_of_le_length (by simp; omega), List.drop_of_length_le (by rw [List.length_take]; exact Nat.min_le_left _ _), List.nil_append]
theorem Zsy {g : Nat} (hg : 0 < g) (hn : g ≤ 9223372036854775807) : IntKind.wrap .i64 ((g : Int) - 1) = ((g - 1 : Nat) : Int) := by rw [IntWalk.i64_in _ (by omega)]; omega
theorem Ygd {cs : List Nd} {s : List Nat} {g : Nat} (hg : g < s.length) : Zxt cs s g = (Zgj cs [s[g]] && (g == 0 || decide (s.getD (g - 1) 0 < s[g]))) := by unfold Zxt; rw [Zfp hg]
theorem Yfn {cs : List Nd} {g : Nat} (hg : g < cs.length) : Zvv cs g = (Zuf cs[g].1 && (g == 0 || Zeh (cs.getD (g - 1) ([], [])).1 cs[g].1) && Ydd (cs.take g) cs[g].2) := by unfold Zvv; rw [Zfp hg]
theorem Zld {cs : List Nd} {g : Nat} (hg : g < cs.length) (h : Zvv cs g = false) : Zjj cs = false := by unfold Zjj; rw [Zjx hg h]; rfl
theorem Zuq {h : Zaa} {a a1 : Pt} {n c n1 c1 : Nat} {e e1 : Bool} {cs : List Nd} (r : Row h.length h a (n * 2) (Zcf eP cs)) (hc : n ≤ c) (hn : n ≤ 1048576) (hs : ∀ p ∈ cs, p.2.length ≤ 1048576) :
  Zae pg Zjh [.agg [.slice a n c e, .slice a1 n1 c1 e1]] h fun v h' => v = .bool (Zjj cs) ∧ Zbb h.length h h' := by
 have hl : cs.length = n := by have := r.1; rw [Zay Zek] at this; omega
 apply Zcz.call
 simp only [Zaz, Zff, Nat.add_zero, List.getElem?_cons_zero, Zag]
 have s1 : Zbb h.length h (h ++ [.cells Zaf [.slice a n c e, .slice a1 n1 c1 e1] false]) := Zas
 have hw : (h ++ [Zco.cells Zaf [.slice a n c e, .slice a1 n1 c1 e1] false])[h.length]? = some (.cells Zaf [.slice a n c e, .slice a1 n1 c1 e1] false) := by simp
 refine Zcz.L2ind _ _ _ _ _ _ _ _ (J := fun (g : Nat) x9 h' => x9 = (g : Int) ∧ g ≤ n ∧ Zbb h.length h h' ∧ h'[h.length]? = some (.cells Zaf [.slice a n c e, .slice a1 n1 c1 e1] false) ∧ (List.range g).all (Zvv cs) = true) (fun g => n - g) ?_ 0 _ _ ⟨rfl, by omega, s1, hw, rfl⟩
 rintro g x9 h' ⟨rfl, hg, hS, hW, hk⟩ R hR
 unfold Zcz.L2t
 refine Zan (fun hlt => ?_) (fun hge => ?_)
 ·obtain ⟨i, o, hgl, rfl, hil, hr, _⟩ := (r.same hS).pr (k := g) (by omega)
  simp only [Zax, Int.toNat_natCast, hr, Zar, Zah, Zat, Zai, Zaz]
  rw [Zgv]
  simp only [Zaw, Zff, Nat.add_zero, List.getElem?_cons_zero, Zai]
  have hS2 : Zbb h.length h (h' ++ [.cells Zbc [.str cs[g].1, .str cs[g].2] false]) := hS.trans (Zbb.app hS.le _)
  refine ⟨by omega, (Yix _).mono ?_⟩
  rintro v h2 ⟨rfl, rfl⟩
  simp only [Zal, true_and]
  have hcl := Yfn hgl
  have hle := hS2.le
  have hWl := Own.lt hW
  have hW2 : (h' ++ [.cells Zbc [.str cs[g].1, .str cs[g].2] false])[h.length]? = some (.cells Zaf [.slice (some (i, o)) n c e, .slice a1 n1 c1 e1] false) := Zpg hW
  have hcell : ∀ o', Zak (h' ++ [.cells Zbc [.str cs[g].1, .str cs[g].2] false]) (.ptr (some (h'.length, o'))) = ([.str cs[g].1, .str cs[g].2] : List Zam)[o']? := fun o' => Zff
  -- the classes above
  have key : (Zuf cs[g].1 && (g == 0 || Zeh (cs.getD (g - 1) ([], [])).1 cs[g].1)) = true → Zcz.J6 (fun v h' => v = .bool (Zjj cs) ∧ Zbb h.length h h') R h'.length 0 h.length 0 (g : Int) (some (i, o)) n c e (n : Int) (g : Int) (h' ++ [.cells Zbc [.str cs[g].1, .str cs[g].2] false]) := by
   intro hpre
   rw [hpre, Bool.true_and] at hcl
   apply Zcz.J6i
   rw [hcell]
   simp only [Nat.zero_add, List.getElem?_cons_succ, List.getElem?_cons_zero, Zai]
   have hsl := hs cs[g] (List.getElem_mem hgl)
   refine Zcz.L7ind _ _ _ _ _ _ _ _ _ _ _ _ _ _ (J := fun (q : Nat) x37 h3 => x37 = (q : Int) ∧ q ≤ cs[g].2.length ∧ Zbb h.length h h3 ∧ h3[h.length]? = some (.cells Zaf [.slice (some (i, o)) n c e, .slice a1 n1 c1 e1] false) ∧ h3[h'.length]? = some (.cells Zbc [.str cs[g].1, .str cs[g].2] false) ∧ (List.range q).all (Zxt (cs.take g) cs[g].2) = true) (fun q => cs[g].2.length - q) ?_ 0 _ _ ⟨rfl, by omega, hS2, hW2, by simp, rfl⟩
   rintro q x37 h3 ⟨rfl, hq, hS3, hW3, hI3, hk3⟩ R7 hR7
   unfold Zcz.L7t
   refine Zan (fun hlt3 => ?_) (fun hge3 => ?_)
   ·have hq' : q < cs[g].2.length := by omega
    simp only [Nat.add_zero, Nat.zero_add, Zaq hW3, Zaq hI3, List.getElem?_cons_succ, List.getElem?_cons_zero, Zag, Zai, true_and]
    refine Ygq (r.same hS3) hl (k := g) (by omega) hc rfl (fun a' c' e' hrow hc' => ?_)
    simp only [Zag]
    rw [Zbj (by omega), Ymx hq' rfl]
    refine ⟨⟨by omega, by omega, by omega⟩, (Yai (hrow.mono hS3.le) (by omega)).mono ?_⟩
    rintro v h4 ⟨rfl, s4⟩
    have hS4 := hS3.trans (s4.mono hS3.le)
    have hW4 : h4[h.length]? = some (.cells Zaf [.slice (some (i, o)) n c e, .slice a1 n1 c1 e1] false) := by rw [s4.eq _ (Own.lt hW3)]; exact hW3
    have hI4 : h4[h'.length]? = some (.cells Zbc [.str cs[g].1, .str cs[g].2] false) := by rw [s4.eq _ (Own.lt hI3)]; exact hI3
    simp only [Zal, Zaq hW3, Zaq hW4, Zaq hI4, Nat.add_zero, Nat.zero_add, List.getElem?_cons_succ, List.getElem?_cons_zero, Zai, true_and]
    have hsa := Ygd (cs := cs.take g) hq'
    have fail : Zxt (cs.take g) cs[g].2 q = false → (Zam.bool false = Zam.bool (Zjj cs) ∧ Zbb h.length h h4) := fun hf => ⟨by rw [Zld hgl (by rw [hcl]; unfold Ydd; exact Zjx hq' hf)], hS4⟩
    have next : Zxt (cs.take g) cs[g].2 q = true → R7 h.length 0 (g : Int) h'.length 0 (some (i, o)) n c e (n : Int) (g : Int) (cs[g].2.length : Int) (IntKind.wrap .i64 ((q : Int) + 1)) h4 := fun ht => by
     rw [Zbj (by omega)]
     exact hR7 (q + 1) _ _ (by omega) ⟨rfl, by omega, hS4, hW4, hI4, Zha hk3 ht⟩
    refine Zcb (fun hb => fail (by rw [hsa, hb]; rfl)) (fun hb => ?_)
    refine Zan (fun h0 => ?_) (fun h0 => ?_)
    ·have h0' : 0 < q := by omega
     rw [Zsy h0' (by omega)]
     refine ⟨⟨by omega, by omega⟩, ⟨by omega, by omega⟩, ?_⟩
     simp only [Int.toNat_natCast]
     have hd1 : cs[g].2.getD q 0 = cs[g].2[q] := Zfp hq'
     have hq0 : (q == 0) = false := by simp; omega
     refine Zan (fun h1 => fail ?_) (fun h1 => Zcz.J11i _ _ _ _ _ _ _ _ _ _ _ _ _ _ _ _ _ (next ?_))
     ·rw [hsa, hb, hq0, ← hd1]; simp only [Bool.true_and, Bool.false_or, decide_eq_false_iff_not]; omega
     ·rw [hsa, hb, hq0, ← hd1]; simp only [Bool.true_and, Bool.false_or, decide_eq_true_eq]; omega
    ·have : q = 0 := by omega
     subst this
     exact Zcz.J11i _ _ _ _ _ _ _ _ _ _ _ _ _ _ _ _ _ (next (by rw [hsa, hb]; rfl))
   ·apply Zcz.A7x2i
    apply Zcz.J12i
    have : q = cs[g].2.length := by omega
    subst this
    rw [Zbj (by omega)]
    exact hR (g + 1) _ _ (by omega) ⟨rfl, by omega, hS3, hW3, Zha hk (by rw [hcl]; exact hk3)⟩
  refine Zcb (fun hb => ⟨by rw [Zld hgl (by rw [hcl, hb]; rfl)], hS2⟩) (fun hb => ?_)
  refine Zan (fun h0 => ?_) (fun h0 => ?_)
  ·have h0' : 0 < g := by omega
   rw [Zaq hW2]
   simp only [List.getElem?_cons_zero, Zag]
   rw [Zsy h0' (by omega)]
   obtain ⟨i', o', hgl', heq, _, _, hc0, _⟩ := (r.same hS2).pr (k := g - 1) (by omega)
   cases heq
   simp only [Zax, Int.toNat_natCast, hc0, Zai, Nat.add_zero, Nat.zero_add, hcell, List.getElem?_cons_zero, true_and]
   refine ⟨by omega, ?_⟩
   have hg0 : (g == 0) = false := by simp; omega
   have hgd : cs.getD (g - 1) ([], []) = cs[g - 1] := Zfp hgl'
   refine Zcb (fun hb2 => ⟨by rw [Zld hgl (by rw [hcl, hb, hg0, hgd, hb2]; rfl)], hS2⟩) (fun hb2 => key (by rw [hb, hg0, hgd, hb2]; rfl))
  ·have : g = 0 := by omega
   subst this
   exact key (by rw [hb]; rfl)
 ·apply Zcz.A2x0i
  have : g = n := by omega
  subst this
  have hok : Zjj cs = decide (1 ≤ g ∧ g ≤ 4) := by unfold Zjj; rw [hl, hk, Bool.true_and]
  simp only [Nat.add_zero, Zaq hW, List.getElem?_cons_zero, Zag]
  refine Zan (fun h1 => ?_) (fun h1 => ?_)
  ·refine ⟨?_, hS⟩
   rw [hok]; congr 1; rw [Bool.eq_iff_iff]; simp; omega
  ·refine ⟨?_, hS⟩
   rw [hok]; congr 1; symm; simp; omega
end Go.Sim

set_option linter.unusedVariables false
set_option linter.unusedSimpArgs false
set_option maxRecDepth 20000
namespace Go.Sim
open Go Go.RowKit
theorem Zul {h : Zaa} {a : Pt} {n c : Nat} {e : Bool} {cs : List Nd} (r : Row h.length h a (n * 2) (Zcf eP cs)) (hc : n ≤ c) (hn : n ≤ 1048576) (hs : ∀ p ∈ cs, p.2.length ≤ 1048576) (hb256 : ∀ p ∈ cs, ∀ b ∈ p.1, b < 256) :
  Zae pg Zji [.slice a n c e] h fun v h' => v = .bool (Zjj cs) ∧ Zbb h.length h h' := by
 have hl : cs.length = n := by have := r.1; rw [Zay Zek] at this; omega
 apply Zcx.call
 refine Zcx.L2ind _ _ _ _ _ _ _ _ _ _ (J := fun (g : Nat) x9 h' => x9 = (g : Int) ∧ g ≤ n ∧ Zbb h.length h h' ∧ (List.range g).all (Zvv cs) = true) (fun g => n - g) ?_ 0 _ _ ⟨rfl, by omega, Zbb.refl _ _, rfl⟩
 rintro g x9 h' ⟨rfl, hg, hS, hk⟩ R hR
 unfold Zcx.L2t
 refine Zan (fun hlt => ?_) (fun hge => ?_)
 ·obtain ⟨i, o, hgl, rfl, hil, hr, _⟩ := (r.same hS).pr (k := g) (by omega)
  simp only [Zax, Int.toNat_natCast, hr, Zar, Zah, Zat, Zai, Zaz]
  rw [Zgv]
  simp only [Zaw, Zff, Nat.add_zero, List.getElem?_cons_zero, Zai]
  have hS2 : Zbb h.length h (h' ++ [.cells Zbc [.str cs[g].1, .str cs[g].2] false]) := hS.trans (Zbb.app hS.le _)
  refine ⟨by omega, (Yci _ (hb256 _ (List.getElem_mem hgl))).mono ?_⟩
  rintro v h2 ⟨rfl, rfl⟩
  simp only [Zal, true_and]
  have hcl := Yfn hgl
  have hle := hS2.le
  have hcell : ∀ o', Zak (h' ++ [.cells Zbc [.str cs[g].1, .str cs[g].2] false]) (.ptr (some (h'.length, o'))) = ([.str cs[g].1, .str cs[g].2] : List Zam)[o']? := fun o' => Zff
  -- the classes above
  have key : (Zuf cs[g].1 && (g == 0 || Zeh (cs.getD (g - 1) ([], [])).1 cs[g].1)) = true → Zcx.J6 (fun v h' => v = .bool (Zjj cs) ∧ Zbb h.length h h') R h'.length 0 (some (i, o)) n c e (g : Int) (some (i, o)) n c e (n : Int) (g : Int) (h' ++ [.cells Zbc [.str cs[g].1, .str cs[g].2] false]) := by
   intro hpre
   rw [hpre, Bool.true_and] at hcl
   apply Zcx.J6i
   rw [hcell]
   simp only [Nat.zero_add, List.getElem?_cons_succ, List.getElem?_cons_zero, Zai]
   have hsl := hs cs[g] (List.getElem_mem hgl)
   refine Zcx.L7ind _ _ _ _ _ _ _ _ _ _ _ _ _ _ _ _ (J := fun (q : Nat) x37 h3 => x37 = (q : Int) ∧ q ≤ cs[g].2.length ∧ Zbb h.length h h3 ∧ h3[h'.length]? = some (.cells Zbc [.str cs[g].1, .str cs[g].2] false) ∧ (List.range q).all (Zxt (cs.take g) cs[g].2) = true) (fun q => cs[g].2.length - q) ?_ 0 _ _ ⟨rfl, by omega, hS2, by simp, rfl⟩
   rintro q x37 h3 ⟨rfl, hq, hS3, hI3, hk3⟩ R7 hR7
   unfold Zcx.L7t
   refine Zan (fun hlt3 => ?_) (fun hge3 => ?_)
   ·have hq' : q < cs[g].2.length := by omega
    simp only [Nat.add_zero, Nat.zero_add, Zaq hI3, List.getElem?_cons_succ, List.getElem?_cons_zero, Zag, Zai, true_and]
    refine Ygq (r.same hS3) hl (k := g) (by omega) hc rfl (fun a' c' e' hrow hc' => ?_)
    simp only [Zag]
    rw [Zbj (by omega), Ymx hq' rfl]
    refine ⟨⟨by omega, by omega, by omega⟩, (Zqq (hrow.mono hS3.le) (by omega)).mono ?_⟩
    rintro v h4 ⟨rfl, s4⟩
    have hS4 := hS3.trans (s4.mono hS3.le)
    have hI4 : h4[h'.length]? = some (.cells Zbc [.str cs[g].1, .str cs[g].2] false) := by rw [s4.eq _ (Own.lt hI3)]; exact hI3
    simp only [Zau, Zvz, Zaq hI4, Nat.add_zero, Nat.zero_add, List.getElem?_cons_succ, List.getElem?_cons_zero, Zai, true_and]
    have hsa := Ygd (cs := cs.take g) hq'
    have fail : Zxt (cs.take g) cs[g].2 q = false → (Zam.bool false = Zam.bool (Zjj cs) ∧ Zbb h.length h h4) := fun hf => ⟨by rw [Zld hgl (by rw [hcl]; unfold Ydd; exact Zjx hq' hf)], hS4⟩
    have next : Zxt (cs.take g) cs[g].2 q = true → R7 (some (i, o)) n c e (g : Int) h'.length 0 (some (i, o)) n c e (n : Int) (g : Int) (cs[g].2.length : Int) (IntKind.wrap .i64 ((q : Int) + 1)) h4 := fun ht => by
     rw [Zbj (by omega)]
     exact hR7 (q + 1) _ _ (by omega) ⟨rfl, by omega, hS4, hI4, Zha hk3 ht⟩
    refine Zcb (fun hb => fail (by rw [hsa, hb]; rfl)) (fun hb => ?_)
    refine Zan (fun h0 => ?_) (fun h0 => ?_)
    ·have h0' : 0 < q := by omega
     rw [Zsy h0' (by omega)]
     refine ⟨⟨by omega, by omega⟩, ⟨by omega, by omega⟩, ?_⟩
     simp only [Int.toNat_natCast]
     have hd1 : cs[g].2.getD q 0 = cs[g].2[q] := Zfp hq'
     have hq0 : (q == 0) = false := by simp; omega
     refine Zan (fun h1 => fail ?_) (fun h1 => Zcx.J11i _ _ _ _ _ _ _ _ _ _ _ _ _ _ _ _ _ _ _ (next ?_))
     ·rw [hsa, hb, hq0, ← hd1]; simp only [Bool.true_and, Bool.false_or, decide_eq_false_iff_not]; omega
     ·rw [hsa, hb, hq0, ← hd1]; simp only [Bool.true_and, Bool.false_or, decide_eq_true_eq]; omega
    ·have : q = 0 := by omega
     subst this
     exact Zcx.J11i _ _ _ _ _ _ _ _ _ _ _ _ _ _ _ _ _ _ _ (next (by rw [hsa, hb]; rfl))
   ·apply Zcx.A7x2i
    apply Zcx.J12i
    have : q = cs[g].2.length := by omega
    subst this
    rw [Zbj (by omega)]
    exact hR (g + 1) _ _ (by omega) ⟨rfl, by omega, hS3, Zha hk (by rw [hcl]; exact hk3)⟩
  refine Zcb (fun hb => ⟨by rw [Zld hgl (by rw [hcl, hb]; rfl)], hS2⟩) (fun hb => ?_)
  refine Zan (fun h0 => ?_) (fun h0 => ?_)
  ·have h0' : 0 < g := by omega
   rw [Zsy h0' (by omega)]
   obtain ⟨i', o', hgl', heq, _, _, hc0, _⟩ := (r.same hS2).pr (k := g - 1) (by omega)
   cases heq
   simp only [Zax, Int.toNat_natCast, hc0, Zai, Nat.add_zero, Nat.zero_add, hcell, List.getElem?_cons_zero, true_and]
   refine ⟨by omega, ?_⟩
   have hg0 : (g == 0) = false := by simp; omega
   have hgd : cs.getD (g - 1) ([], []) = cs[g - 1] := Zfp hgl'
   refine Zcb (fun hb2 => ⟨by rw [Zld hgl (by rw [hcl, hb, hg0, hgd, hb2]; rfl)], hS2⟩) (fun hb2 => key (by rw [hb, hg0, hgd, hb2]; rfl))
  ·have : g = 0 := by omega
   subst this
   exact key (by rw [hb]; rfl)
 ·apply Zcx.A2x0i
  have : g = n := by omega
  subst this
  have hok : Zjj cs = decide (1 ≤ g ∧ g ≤ 4) := by unfold Zjj; rw [hl, hk, Bool.true_and]
  refine Ykr.mono ?_
  rintro v h2 ⟨rfl, rfl⟩
  simp only [Zal]
  refine ⟨?_, hS⟩
  rw [hok]; congr 1; rw [Bool.eq_iff_iff]; simp; omega
end Go.Sim

set_option linter.unusedVariables false
set_option linter.unusedSimpArgs false
set_option maxRecDepth 20000
namespace Go.Sim
open Go Go.RowKit

theorem Yri (c : Nat) : decide (c ∈ [120, 121, 122, 88, 89, 90]) = Zdi c := by rw [Bool.eq_iff_iff]; simp [Zdi, or_assoc]
theorem Zzb {h : Zaa} (s : List Nat) : Zae pg Zlk [.str s] h fun v h' => v = .bool (Zko s) ∧ h' = h := by
 apply Zui.call
 match s with
 | [] => exact Zfh (fun h1 => by simp at h1) (fun h1 => ⟨rfl, rfl⟩)
 | [c] =>
  refine Zfh (fun h1 => ?_) (fun h1 => by simp at h1)
  refine Zna.mono ?_
  rintro v h' ⟨rfl, rfl⟩
  simp only [Zal]
  exact ⟨by rw [Yri]; rfl, by trivial⟩
 | c :: d :: r => exact Zfh (fun h1 => by simp at h1; omega) (fun h1 => ⟨rfl, rfl⟩)
theorem Zow {h : Zaa} (c : Nat) : Zae pg Zgg [.int .u8 (c : Int)] h fun v h' => v = .bool (Zdi c) ∧ h' = h := by
 apply Zom.call
 refine (Zzf _ c (by simp)).mono ?_
 rintro v h' ⟨rfl, rfl⟩
 simp only [Zau]
 exact ⟨by rw [Yrn], by trivial⟩
noncomputable def Yqa (s v : List Nat) : Int := if Zos s && Zko v then (s.count (v.headD 0) : Nat) else -1
theorem Ybr {h : Zaa} (s v : List Nat) (hs : s.length ≤ 1048576) : Zae pg Zmv [.str s, .str v] h fun x h' => x = .int .i64 (Yqa s v) ∧ Zbb h.length h h' := by
 apply Zey.call
 refine (Zke s (by omega) h).mono ?_
 rintro x h1 ⟨rfl, s1⟩
 simp only [Zal]
 refine Zcb (fun hb => ⟨by unfold Yqa; rw [hb]; rfl, s1⟩) (fun hb => ?_)
 match v with
 | [] => exact Zgh (fun _ => ⟨by unfold Yqa; rw [hb]; rfl, s1⟩) (fun h1 => by simp at h1)
 | c :: d :: r => exact Zgh (fun _ => ⟨by unfold Yqa; rw [hb]; rfl, s1⟩) (fun h1 => by simp at h1; omega)
 | [c] =>
  refine Zgh (fun h1 => by simp at h1) (fun _ => ?_)
  refine ⟨⟨by omega, by simp⟩, ?_⟩
  simp only [Int.toNat_zero, List.getD_cons_zero]
  refine (Zow c).mono ?_
  rintro x h2 ⟨rfl, rfl⟩
  simp only [Zal]
  refine Zcb (fun hv => ⟨by unfold Yqa; rw [hb, show Zko [c] = Zdi c from rfl, hv]; rfl, s1⟩) (fun hv => ?_)
  apply Zey.J3i
  refine Zey.L5ind _ _ _ _ (J := fun (g : Nat) x5 x23 h' => x23 = (g : Int) ∧ g ≤ s.length ∧ x5 = ((s.take g).count c : Nat) ∧ h' = h2) (fun g => s.length - g) ?_ 0 _ _ _ ⟨rfl, by omega, by simp, rfl⟩
  rintro g x5 x23 h' ⟨rfl, hg, rfl, rfl⟩ R hR
  unfold Zey.L5t
  refine Zan (fun hlt => ?_) (fun hge => ?_)
  ·have hg' : g < s.length := by omega
   refine ⟨⟨by omega, by omega⟩, ⟨by omega, by simp⟩, ?_⟩
   simp only [Int.toNat_zero, List.getD_cons_zero, Int.toNat_natCast, Zfp hg']
   have hc := List.count_le_length (a := c) (l := s.take g)
   rw [List.length_take] at hc
   have htk : (s.take (g + 1)).count c = (s.take g).count c + if s[g] = c then 1 else 0 := by
    rw [List.take_succ_eq_append_getElem hg', List.count_append]; simp [List.count_cons]
   refine Zfh (fun he => ?_) (fun he => ?_)
   ·apply Zey.J9i
    rw [Zbj (by omega), Zbj (by omega)]
    exact hR (g + 1) _ _ _ (by omega) ⟨rfl, by omega, by rw [htk, if_pos (by omega)], rfl⟩
   ·apply Zey.J9i
    rw [Zbj (by omega)]
    exact hR (g + 1) _ _ _ (by omega) ⟨rfl, by omega, by rw [htk, if_neg (by omega)]; rfl, rfl⟩
  ·apply Zey.A5x0i
   have : g = s.length := by omega
   subst this
   rw [List.take_length]
   refine ⟨?_, s1⟩
   unfold Yqa
   rw [hb, show Zko [c] = Zdi c from rfl, hv]; rfl
theorem Zyv {h : Zaa} (s : List Nat) (hs : s.length ≤ 1048576) : Zae pg Zma [.str s] h fun v h' => v = .str (if Zos s = true then Zsg s else []) ∧ Zbb h.length h h' := by
 apply Zgn.call
 simp only [Zaz]
 have hlist : (h ++ [Zco.cells Zcm [.str [88], .str [89], .str [90], .str [120], .str [121], .str [122]] false])[h.length]? = some (.cells Zcm [.str [88], .str [89], .str [90], .str [120], .str [121], .str [122]] false) := by simp
 refine Zgn.L3ind _ _ _ _ _ _ _ (J := fun (g : Nat) x3 x8 h' => x8 = (g : Int) ∧ g ≤ 6 ∧ Zbb h.length h h' ∧ h'[h.length]? = some (.cells Zcm [.str [88], .str [89], .str [90], .str [120], .str [121], .str [122]] false) ∧ x3 = if Zos s = true then (Zfj.take g).filter fun v => decide (v ∈ s) else []) (fun g => 6 - g) ?_ 0 _ _ _
  ⟨rfl, by omega, Zas, hlist, by simp⟩
 rintro g x3 x8 h' ⟨rfl, hg, hS, hl, rfl⟩ R hR
 unfold Zgn.L3t
 refine Zan (fun hlt => ?_) (fun hge => ?_)
 ·have hlt' : g < 6 := by omega
  have hc : ∃ c, Zfj[g]? = some c ∧ Zdi c = true ∧ Zak h' (.ptr (some (h.length, 0 + (g : Int).toNat * 1))) = some (.str [c]) := by
   rw [Zaq hl, Int.toNat_natCast]
   match g, hlt' with
   | 0, _ | 1, _ | 2, _ | 3, _ | 4, _ | 5, _ => exact ⟨_, rfl, rfl, rfl⟩
  obtain ⟨c, hc1, hcv, hc2⟩ := hc
  simp only [Zax, hc2, Zai]
  refine ⟨by omega, (Ybr s [c] hs).mono ?_⟩
  rintro v h2 ⟨rfl, s2⟩
  simp only [Zau]
  have htk : Zfj.take (g + 1) = Zfj.take g ++ [c] := by rw [List.take_succ, hc1]; rfl
  have hS2 := hS.trans (s2.mono hS.le)
  have hl2 : h2[h.length]? = some (.cells Zcm [.str [88], .str [89], .str [90], .str [120], .str [121], .str [122]] false) := by rw [s2.eq _ (Own.lt hl)]; exact hl
  have hcn : decide (Yqa s [c] > 0) = (Zos s && decide (c ∈ s)) := by
   unfold Yqa
   rw [show Zko [c] = Zdi c from rfl, hcv]
   cases hb : Zos s with
   | false => rfl
   | true =>
    simp only [Bool.and_self, if_true, Bool.true_and, List.headD_cons]
    rw [Bool.eq_iff_iff]; simp [List.count_pos_iff]
  have hbd : (if Zos s = true then (Zfj.take g).filter fun v => decide (v ∈ s) else []).length ≤ 6 := by
   split
   ·exact Nat.le_trans (List.length_filter_le _ _) (by simp; omega)
   ·simp
  rw [hcn]
  refine Zcw (fun hb => ?_) (fun hb => ?_)
  ·simp only [Bool.and_eq_true] at hb
   refine ⟨by simp only [List.length_cons, List.length_nil]; omega, ?_⟩
   apply Zgn.J7i
   rw [Zbj (by omega)]
   refine hR (g + 1) _ _ _ (by omega) ⟨rfl, by omega, hS2, hl2, ?_⟩
   rw [if_pos hb.1, if_pos hb.1, htk, List.filter_append]; simp [hb.2]
  ·apply Zgn.J7i
   rw [Zbj (by omega)]
   refine hR (g + 1) _ _ _ (by omega) ⟨rfl, by omega, hS2, hl2, ?_⟩
   cases ht : Zos s with
   | false => simp
   | true => rw [ht, Bool.true_and] at hb; rw [htk, List.filter_append]; simp; simpa using hb
 ·apply Zgn.A3x0i
  have : g = 6 := by omega
  subst this
  exact ⟨rfl, hS⟩
theorem Yle {h : Zaa} (x y : List Nat) (hx : x.length ≤ 1048576) (hy : y.length ≤ 1048576) : Zae pg Zmq [.str x, .str y] h fun v h' => v = .bool (x.all fun c => decide (c ∈ y)) ∧ h' = h := by
 apply Zhw.call
 refine Zhw.L2ind _ _ _ _ (J := fun (g : Nat) x8 h' => x8 = (g : Int) ∧ g ≤ x.length ∧ h' = h ∧ (x.take g).all (fun c => decide (c ∈ y)) = true) (fun g => x.length - g) ?_ 0 _ _ ⟨rfl, by omega, rfl, by simp⟩
 rintro g x8 h' ⟨rfl, hg, rfl, hk⟩ R hR
 unfold Zhw.L2t
 refine Zan (fun hlt => ?_) (fun hge => ?_)
 ·have hg' : g < x.length := by omega
  refine ⟨⟨by omega, by omega⟩, ?_⟩
  simp only [Int.toNat_natCast, Zfp hg']
  refine (Zzf y x[g] (by omega)).mono ?_
  rintro v h2 ⟨rfl, rfl⟩
  simp only [Zau]
  have hix : decide (Ztn y x[g] < 0) = !decide (x[g] ∈ y) := by
   by_cases hm : x[g] ∈ y
   ·have := (Yab y x[g]).2 hm
    simp [hm]; omega
   ·rw [Zwt hm]; simp [hm]
  rw [hix]
  refine Zcb (fun hb => ⟨by rw [Zse hg' hb], by trivial⟩) (fun hb => ?_)
  rw [Zbj (by omega)]
  exact hR (g + 1) _ _ (by omega) ⟨rfl, by omega, rfl, Zgk hg' hk hb⟩
 ·apply Zhw.A2x0i
  have : g = x.length := by omega
  subst this
  rw [List.take_length] at hk
  exact ⟨by rw [hk], by trivial⟩

theorem Ygi {cs : List Nd} {ct tt : List Nat} {ns : List Nd} (h1 : Zjj cs = true) (h2 : Zgj cs ct = true) (h3 : Zos tt = true) (h4 : tt.length ≤ 20) (h5 : Zko tt = false) (h6 : ns.length ≤ 3) : Zmi cs ((ct, tt), ns) = ns.all (Zki cs tt) := by
 unfold Zmi; simp [h1, h2, h3, h4, h5, h6]
theorem Zvc {h : Zaa} {a a1 a2 : Pt} {n c n1 c1 n2 c2 : Nat} {e e1 e2 : Bool} {cs ns : List Nd} {ct tt : List Nat} (r : Row h.length h a (n * 2) (Zcf eP cs)) (hc : n ≤ c) (hn : n ≤ 1048576) (hs : ∀ p ∈ cs, p.2.length ≤ 1048576)
  (r2 : Row h.length h a2 (n2 * 2) (Zcf eP ns)) (hn2 : n2 ≤ 1048576) (hns : ∀ p ∈ ns, p.2.length ≤ 1048576) (htt : tt.length ≤ 1048576) :
  Zae pg Zih [.agg [.slice a n c e, .slice a1 n1 c1 e1], .agg [.str ct, .str tt, .slice a2 n2 c2 e2]] h fun v h' => v = .bool (Zmi cs ((ct, tt), ns)) ∧ Zbb h.length h h' := by
 have hl : cs.length = n := by have := r.1; rw [Zay Zek] at this; omega
 have hl2 : ns.length = n2 := by have := r2.1; rw [Zay Zek] at this; omega
 apply Zcn.call
 simp only [Zaz]
 generalize hh0 : h ++ [Zco.cells Zaf [.slice a n c e, .slice a1 n1 c1 e1] false] = h0
 generalize hh1 : h0 ++ [Zco.cells Zac [.str ct, .str tt, .slice a2 n2 c2 e2] false] = h1
 have s0 : Zbb h.length h h0 := by rw [← hh0]; exact Zas
 have s01 : Zbb h0.length h0 h1 := by rw [← hh1]; exact Zas
 have s1 : Zbb h.length h h1 := s0.trans (s01.mono s0.le)
 have hl0 : h0.length = h.length + 1 := by rw [← hh0]; simp
 have hl1 : h1.length = h.length + 2 := by rw [← hh1]; simp [hl0]
 have w1 : h1[h.length]? = some (.cells Zaf [.slice a n c e, .slice a1 n1 c1 e1] false) := by rw [← hh1, Ybw (by omega), ← hh0]; simp
 have i1 : h1[h0.length]? = some (.cells Zac [.str ct, .str tt, .slice a2 n2 c2 e2] false) := by rw [← hh1]; simp
 rw [Zem w1 (by simp)]
 simp only [List.drop_zero, List.take_succ_cons, List.take_zero, Zar, Zah, Zag, Zat]
 refine (Zuq (r.same' s1) hc hn hs).mono ?_
 rintro v h2 ⟨rfl, s2⟩
 have S2 : Zbb h.length h h2 := s1.trans (s2.mono (by omega))
 have w2 : h2[h.length]? = some (.cells Zaf [.slice a n c e, .slice a1 n1 c1 e1] false) := by rw [s2.eq _ (by omega)]; exact w1
 have i2 : h2[h0.length]? = some (.cells Zac [.str ct, .str tt, .slice a2 n2 c2 e2] false) := by rw [s2.eq _ (by omega)]; exact i1
 simp only [Zal]
 refine Zcb (fun hb => ⟨by unfold Zmi; rw [hb]; rfl, S2⟩) (fun b1 => ?_)
 simp only [Nat.add_zero, Nat.zero_add, Zaq w2, Zaq i2, List.getElem?_cons_succ, List.getElem?_cons_zero, Zag, Zai]
 refine (Yai (r.same' S2) (by omega)).mono ?_
 rintro v h3 ⟨rfl, s3⟩
 have hle2 := s2.le
 have S3 : Zbb h.length h h3 := S2.trans (s3.mono S2.le)
 have i3 : h3[h0.length]? = some (.cells Zac [.str ct, .str tt, .slice a2 n2 c2 e2] false) := by rw [s3.eq _ (by omega)]; exact i2
 have w3 : h3[h.length]? = some (.cells Zaf [.slice a n c e, .slice a1 n1 c1 e1] false) := by rw [s3.eq _ (by omega)]; exact w2
 simp only [Zal]
 refine Zcb (fun hb => ⟨by unfold Zmi; rw [b1, hb]; rfl, S3⟩) (fun b2 => ?_)
 simp only [Zaq i3, List.getElem?_cons_succ, List.getElem?_cons_zero, Zai]
 refine (Znj tt h3).mono ?_
 rintro v h4 ⟨rfl, s4⟩
 have hle3 := s3.le
 have S4 : Zbb h.length h h4 := S3.trans (s4.mono S3.le)
 have i4 : h4[h0.length]? = some (.cells Zac [.str ct, .str tt, .slice a2 n2 c2 e2] false) := by rw [s4.eq _ (by omega)]; exact i3
 have w4 : h4[h.length]? = some (.cells Zaf [.slice a n c e, .slice a1 n1 c1 e1] false) := by rw [s4.eq _ (by omega)]; exact w3
 simp only [Zal]
 refine Zcb (fun hb => ⟨by unfold Zmi; rw [b1, b2, hb]; rfl, S4⟩) (fun b3 => ?_)
 simp only [Zaq i4, List.getElem?_cons_succ, List.getElem?_cons_zero, Zai]
 refine Zan (fun hb => ⟨by unfold Zmi; rw [b1, b2, b3]; simp [show ¬ tt.length ≤ 20 by omega], S4⟩) (fun b4 => ?_)
 refine (Zzb tt).mono ?_
 rintro v h5 ⟨rfl, rfl⟩
 simp only [Zal]
 refine Zcw (fun hb => ⟨by unfold Zmi; rw [hb]; simp, S4⟩) (fun b5 => ?_)
 simp only [Zaq i4, List.getElem?_cons_succ, List.getElem?_cons_zero, Zag]
 refine Zan (fun hb => ⟨by unfold Zmi; simp [show ¬ ns.length ≤ 3 by omega], S4⟩) (fun b6 => ?_)
 rw [Ygi b1 b2 b3 (by omega) b5 (by omega)]
 apply Zcn.J3i
 simp only [Nat.zero_add, Zaq i4, List.getElem?_cons_succ, List.getElem?_cons_zero, Zag]
 have hle4 := s4.le
 refine Zcn.L4ind _ _ _ _ _ _ _ _ _ _ (J := fun (g : Nat) x50 h' => x50 = (g : Int) ∧ g ≤ n2 ∧ Zbb h5.length h5 h' ∧ (ns.take g).all (Zki cs tt) = true) (fun g => n2 - g) ?_ 0 _ _ ⟨rfl, by omega, Zbb.refl _ _, rfl⟩
 rintro g x50 h' ⟨rfl, hg, hS, hk⟩ R hR
 have SS : Zbb h.length h h' := S4.trans (hS.mono S4.le)
 unfold Zcn.L4t
 refine Zan (fun hlt => ?_) (fun hge => ?_)
 ·obtain ⟨i, o, hgl, rfl, hil, hr, _⟩ := (r2.same SS).pr (k := g) (by omega)
  simp only [Zax, Int.toNat_natCast, hr, Zar, Zah, Zat, Zai, Zaz]
  rw [Zgv]
  have hlh := hS.le
  generalize hq : h' ++ [Zco.cells Zaj [.str ns[g].1, .str ns[g].2] false] = hq'
  have sq : Zbb h'.length h' hq' := by rw [← hq]; exact Zas
  have hql : hq'.length = h'.length + 1 := by rw [← hq]; simp
  have nq : hq'[h'.length]? = some (.cells Zaj [.str ns[g].1, .str ns[g].2] false) := by rw [← hq]; simp
  have wq : hq'[h.length]? = some (.cells Zaf [.slice a n c e, .slice a1 n1 c1 e1] false) := by rw [sq.eq _ (by omega), hS.eq _ (by omega)]; exact w4
  have iq : hq'[h0.length]? = some (.cells Zac [.str ct, .str tt, .slice (some (i, o)) n2 c2 e2] false) := by rw [sq.eq _ (by omega), hS.eq _ (by omega)]; exact i4
  simp only [Zaw, Nat.add_zero, Nat.zero_add, Zaq wq, Zaq nq, List.getElem?_cons_succ, List.getElem?_cons_zero, Zag, Zai]
  have Sq : Zbb h.length h hq' := SS.trans (sq.mono SS.le)
  refine ⟨by omega, (Yai (r.same' Sq) (by omega)).mono ?_⟩
  rintro v k3 ⟨rfl, t3⟩
  have T3 := Sq.trans (t3.mono Sq.le)
  have n3 : k3[h'.length]? = some (.cells Zaj [.str ns[g].1, .str ns[g].2] false) := by rw [t3.eq _ (by omega)]; exact nq
  simp only [Zal]
  have fail : ∀ hx, Zbb h.length h hx → Zki cs tt ns[g] = false → (Zam.bool false = Zam.bool (ns.all (Zki cs tt)) ∧ Zbb h.length h hx) := fun hx hs hf => ⟨by rw [Zse hgl hf], hs⟩
  refine Zcb (fun hb => fail _ T3 (by unfold Zki; rw [hb]; rfl)) (fun m1 => ?_)
  simp only [Zaq n3, List.getElem?_cons_succ, List.getElem?_cons_zero, Zai]
  refine (Znj _ k3).mono ?_
  rintro v k4 ⟨rfl, t4⟩
  have ht3 := t3.le
  have T4 := T3.trans (t4.mono T3.le)
  have n4 : k4[h'.length]? = some (.cells Zaj [.str ns[g].1, .str ns[g].2] false) := by rw [t4.eq _ (by omega)]; exact n3
  simp only [Zal]
  refine Zcb (fun hb => fail _ T4 (by unfold Zki; rw [m1, hb]; rfl)) (fun m2 => ?_)
  simp only [Zaq n4, List.getElem?_cons_succ, List.getElem?_cons_zero, Zai]
  refine Zan (fun hb => fail _ T4 (by unfold Zki; simp [show ¬ ns[g].2.length ≤ 20 by omega])) (fun m3 => ?_)
  apply Zcn.J8i
  simp only [Nat.zero_add, Zaq n4, List.getElem?_cons_succ, List.getElem?_cons_zero, Zai]
  refine (Yry _ k4).mono ?_
  rintro v k5 ⟨t5, av, nv, cv, ev, rfl, hrow⟩
  simp only [Zag]
  have ht4 := t4.le
  have ht5 := t5.le
  have T5 := T4.trans (t5.mono T4.le)
  have hvl : (Zsg ns[g].2).length = nv := by have := hrow.1; simpa using this
  have hv6 : (Zsg ns[g].2).length ≤ 6 := List.length_filter_le _ _
  have hni : Zki cs tt ns[g] = (Zsg ns[g].2).all fun v => decide (v ∈ tt) := by unfold Zki; rw [m1, m2]; simp [show ns[g].2.length ≤ 20 by omega]
  have i5 : k5[h0.length]? = some (.cells Zac [.str ct, .str tt, .slice (some (i, o)) n2 c2 e2] false) := by rw [t5.eq _ (by omega), t4.eq _ (by omega), t3.eq _ (by omega)]; exact iq
  refine Zcn.L9ind _ _ _ _ _ _ _ _ _ _ _ _ _ _ _ _ _ (J := fun (q : Nat) x76 h6 => x76 = (q : Int) ∧ q ≤ nv ∧ h6 = k5 ∧ ((Zsg ns[g].2).take q).all (fun v => decide (v ∈ tt)) = true) (fun q => nv - q) ?_ 0 _ _ ⟨rfl, by omega, rfl, rfl⟩
  rintro q x76 h6 ⟨rfl, hq6, rfl, hk6⟩ R9 hR9
  unfold Zcn.L9t
  refine Zan (fun hlt6 => ?_) (fun hge6 => ?_)
  ·obtain ⟨iv, ov, rfl, _, hcv⟩ := hrow.at (k := q) (by omega)
   rw [Ygx, List.getElem?_map, List.getElem?_eq_getElem (show q < (Zsg ns[g].2).length by omega)] at hcv
   simp only [Option.map_some] at hcv
   simp only [Zax, Int.toNat_natCast, Nat.mul_one, hcv, Zai, Nat.add_zero, Nat.zero_add, Zaq i5, List.getElem?_cons_succ, List.getElem?_cons_zero, one]
   refine ⟨by omega, Zna.mono ?_⟩
   rintro v k7 ⟨rfl, rfl⟩
   simp only [Zal]
   refine Zcb (fun hb => fail _ T5 (by rw [hni]; exact Zse (by omega) hb)) (fun d1 => ?_)
   rw [Zbj (by omega)]
   exact hR9 (q + 1) _ _ (by omega) ⟨rfl, by omega, rfl, Zgk (by omega) hk6 d1⟩
  ·apply Zcn.A9x2i
   apply Zcn.J14i
   have : q = nv := by omega
   subst this
   rw [List.take_of_length_le (by omega)] at hk6
   rw [Zbj (by omega)]
   refine hR (g + 1) _ _ (by omega) ⟨rfl, by omega, ?_, Zgk hgl hk (by rw [hni]; exact hk6)⟩
   exact hS.trans ((sq.mono hS.le).trans ((t3.mono (by omega)).trans ((t4.mono (by omega)).trans (t5.mono (by omega)))))
 ·apply Zcn.A4x0i
  have : g = n2 := by omega
  subst this
  rw [List.take_of_length_le (by omega)] at hk
  exact ⟨by rw [hk], SS⟩
end Go.Sim

set_option linter.unusedVariables false
set_option linter.unusedSimpArgs false
set_option maxRecDepth 20000
namespace Go.Sim
open Go Go.RowKit

theorem Ydw (x t : List Nat) : ((Zsg x).all fun c => decide (c ∈ Zsg t)) = (Zsg x).all fun c => decide (c ∈ t) := by
 rw [Bool.eq_iff_iff, List.all_eq_true, List.all_eq_true]
 constructor
 ·intro h c hc
  have := h c hc
  simp only [Zsg, decide_eq_true_eq, List.mem_filter] at this ⊢
  exact this.2
 ·intro h c hc
  have h1 := h c hc
  have hv : c ∈ Zfj := (List.mem_filter.1 hc).1
  simp only [Zsg, decide_eq_true_eq, List.mem_filter] at h1 ⊢
  exact ⟨hv, h1⟩
theorem Zue {h : Zaa} {a a1 a2 : Pt} {n c n1 c1 n2 c2 : Nat} {e e1 e2 : Bool} {cs ns : List Nd} {ct tt : List Nat} (r : Row h.length h a (n * 2) (Zcf eP cs)) (hc : n ≤ c) (hn : n ≤ 1048576) (hs : ∀ p ∈ cs, p.2.length ≤ 1048576) (hb256 : ∀ p ∈ cs, ∀ b ∈ p.1, b < 256)
  (r2 : Row h.length h a2 (n2 * 2) (Zcf eP ns)) (hn2 : n2 ≤ 1048576) (hns : ∀ p ∈ ns, p.2.length ≤ 1048576) (htt : tt.length ≤ 1048576) :
  Zae pg Zik [.agg [.slice a n c e, .slice a1 n1 c1 e1], .agg [.str ct, .str tt, .slice a2 n2 c2 e2]] h fun v h' => v = .bool (Zmi cs ((ct, tt), ns)) ∧ Zbb h.length h h' := by
 have hl : cs.length = n := by have := r.1; rw [Zay Zek] at this; omega
 have hl2 : ns.length = n2 := by have := r2.1; rw [Zay Zek] at this; omega
 apply Zdu.call
 simp only [Zaz]
 generalize hh0 : h ++ [Zco.cells Zaf [.slice a n c e, .slice a1 n1 c1 e1] false] = h0
 generalize hh1 : h0 ++ [Zco.cells Zac [.str ct, .str tt, .slice a2 n2 c2 e2] false] = h1
 have s0 : Zbb h.length h h0 := by rw [← hh0]; exact Zas
 have s01 : Zbb h0.length h0 h1 := by rw [← hh1]; exact Zas
 have s1 : Zbb h.length h h1 := s0.trans (s01.mono s0.le)
 have hl0 : h0.length = h.length + 1 := by rw [← hh0]; simp
 have hl1 : h1.length = h.length + 2 := by rw [← hh1]; simp [hl0]
 have w1 : h1[h.length]? = some (.cells Zaf [.slice a n c e, .slice a1 n1 c1 e1] false) := by rw [← hh1, Ybw (by omega), ← hh0]; simp
 have i1 : h1[h0.length]? = some (.cells Zac [.str ct, .str tt, .slice a2 n2 c2 e2] false) := by rw [← hh1]; simp
 simp only [Nat.add_zero, Zaq w1, List.getElem?_cons_zero, Zag]
 refine (Zul (r.same' s1) hc hn hs hb256).mono ?_
 rintro v h2 ⟨rfl, s2⟩
 have S2 : Zbb h.length h h2 := s1.trans (s2.mono (by omega))
 have w2 : h2[h.length]? = some (.cells Zaf [.slice a n c e, .slice a1 n1 c1 e1] false) := by rw [s2.eq _ (by omega)]; exact w1
 have i2 : h2[h0.length]? = some (.cells Zac [.str ct, .str tt, .slice a2 n2 c2 e2] false) := by rw [s2.eq _ (by omega)]; exact i1
 simp only [Zal]
 refine Zcb (fun hb => ⟨by unfold Zmi; rw [hb]; rfl, S2⟩) (fun b1 => ?_)
 rw [Zem w2 (by simp)]
 simp only [List.drop_zero, List.take_succ_cons, List.take_zero, Zar, Zah, Zat, Nat.zero_add, Zaq i2, List.getElem?_cons_succ, List.getElem?_cons_zero, Zag, Zai]
 refine (Zqq (r.same' S2) (by omega)).mono ?_
 rintro v h3 ⟨rfl, s3⟩
 have hle2 := s2.le
 have S3 : Zbb h.length h h3 := S2.trans (s3.mono S2.le)
 have i3 : h3[h0.length]? = some (.cells Zac [.str ct, .str tt, .slice a2 n2 c2 e2] false) := by rw [s3.eq _ (by omega)]; exact i2
 have w3 : h3[h.length]? = some (.cells Zaf [.slice a n c e, .slice a1 n1 c1 e1] false) := by rw [s3.eq _ (by omega)]; exact w2
 simp only [Zau, Zvz]
 refine Zcb (fun hb => ⟨by unfold Zmi; rw [b1, hb]; rfl, S3⟩) (fun b2 => ?_)
 simp only [Zaq i3, List.getElem?_cons_succ, List.getElem?_cons_zero, Zai]
 refine (Zke tt (by omega) h3).mono ?_
 rintro v h4 ⟨rfl, s4⟩
 have hle3 := s3.le
 have S4 : Zbb h.length h h4 := S3.trans (s4.mono S3.le)
 have i4 : h4[h0.length]? = some (.cells Zac [.str ct, .str tt, .slice a2 n2 c2 e2] false) := by rw [s4.eq _ (by omega)]; exact i3
 have w4 : h4[h.length]? = some (.cells Zaf [.slice a n c e, .slice a1 n1 c1 e1] false) := by rw [s4.eq _ (by omega)]; exact w3
 simp only [Zal]
 refine Zcb (fun hb => ⟨by unfold Zmi; rw [b1, b2, hb]; rfl, S4⟩) (fun b3 => ?_)
 simp only [Zaq i4, List.getElem?_cons_succ, List.getElem?_cons_zero, Zai]
 refine Zan (fun hb => ⟨by unfold Zmi; rw [b1, b2, b3]; simp [show ¬ tt.length ≤ 20 by omega], S4⟩) (fun b4 => ?_)
 have hvh := Ytj b3
 have hne := Yrh b3
 have htl : 0 < tt.length := by cases tt with | nil => exact absurd rfl hne | cons => simp
 refine ⟨⟨by omega, by omega⟩, ?_⟩
 have hgd : tt.getD (Int.toNat 0) 0 = tt.headD 0 := by cases tt <;> rfl
 rw [hgd]
 refine (Zow _).mono ?_
 rintro v h5 ⟨rfl, rfl⟩
 simp only [Zal, ← hvh]
 refine Zcw (fun hb => ⟨by unfold Zmi; rw [hb]; simp, S4⟩) (fun b5 => ?_)
 simp only [Zaq i4, List.getElem?_cons_succ, List.getElem?_cons_zero, Zag]
 refine Zan (fun hb => ⟨by unfold Zmi; simp [show ¬ ns.length ≤ 3 by omega], S4⟩) (fun b6 => ?_)
 rw [Ygi b1 b2 b3 (by omega) b5 (by omega)]
 apply Zdu.J3i
 simp only [Nat.zero_add, Zaq i4, List.getElem?_cons_succ, List.getElem?_cons_zero, Zag]
 have hle4 := s4.le
 refine Zdu.L4ind _ _ _ _ _ _ _ _ _ _ (J := fun (g : Nat) x50 h' => x50 = (g : Int) ∧ g ≤ n2 ∧ Zbb h5.length h5 h' ∧ (ns.take g).all (Zki cs tt) = true) (fun g => n2 - g) ?_ 0 _ _ ⟨rfl, by omega, Zbb.refl _ _, rfl⟩
 rintro g x50 h' ⟨rfl, hg, hS, hk⟩ R hR
 have SS : Zbb h.length h h' := S4.trans (hS.mono S4.le)
 unfold Zdu.L4t
 refine Zan (fun hlt => ?_) (fun hge => ?_)
 ·obtain ⟨i, o, hgl, rfl, hil, hr, _⟩ := (r2.same SS).pr (k := g) (by omega)
  simp only [Zax, Int.toNat_natCast, hr, Zar, Zah, Zat, Zai, Zaz]
  rw [Zgv]
  have hlh := hS.le
  generalize hq : h' ++ [Zco.cells Zaj [.str ns[g].1, .str ns[g].2] false] = hq'
  have sq : Zbb h'.length h' hq' := by rw [← hq]; exact Zas
  have hql : hq'.length = h'.length + 1 := by rw [← hq]; simp
  have nq : hq'[h'.length]? = some (.cells Zaj [.str ns[g].1, .str ns[g].2] false) := by rw [← hq]; simp
  have wq : hq'[h.length]? = some (.cells Zaf [.slice a n c e, .slice a1 n1 c1 e1] false) := by rw [sq.eq _ (by omega), hS.eq _ (by omega)]; exact w4
  have iq : hq'[h0.length]? = some (.cells Zac [.str ct, .str tt, .slice (some (i, o)) n2 c2 e2] false) := by rw [sq.eq _ (by omega), hS.eq _ (by omega)]; exact i4
  have row : ∀ {hx : Zaa}, hx[h.length]? = some (.cells Zaf [.slice a n c e, .slice a1 n1 c1 e1] false) → Zbv hx (.ptr (some (h.length, 0))) 2 = some [.slice a n c e, .slice a1 n1 c1 e1] := fun w => by rw [Zem w (by simp)]; rfl
  simp only [Zaw, Nat.add_zero, Nat.zero_add, row wq, Zaq nq, List.getElem?_cons_succ, List.getElem?_cons_zero, Zar, Zah, Zat, Zag, Zai, true_and]
  have Sq : Zbb h.length h hq' := SS.trans (sq.mono SS.le)
  refine ⟨by omega, (Zqq (r.same' Sq) (by omega)).mono ?_⟩
  rintro v k3 ⟨rfl, t3⟩
  have T3 := Sq.trans (t3.mono Sq.le)
  have n3 : k3[h'.length]? = some (.cells Zaj [.str ns[g].1, .str ns[g].2] false) := by rw [t3.eq _ (by omega)]; exact nq
  have w3' : k3[h.length]? = some (.cells Zaf [.slice a n c e, .slice a1 n1 c1 e1] false) := by rw [t3.eq _ (by omega)]; exact wq
  have i3' : k3[h0.length]? = some (.cells Zac [.str ct, .str tt, .slice (some (i, o)) n2 c2 e2] false) := by rw [t3.eq _ (by omega)]; exact iq
  have ht3 := t3.le
  simp only [Zau, Zvz, row w3', Zaq n3, List.getElem?_cons_succ, List.getElem?_cons_zero, Zai, true_and]
  have fail : ∀ hx, Zbb h.length h hx → Zki cs tt ns[g] = false → (Zam.bool false = Zam.bool (ns.all (Zki cs tt)) ∧ Zbb h.length h hx) := fun hx hs hf => ⟨by rw [Zse hgl hf], hs⟩
  refine Zcb (fun hb => fail _ T3 (by unfold Zki; rw [hb]; rfl)) (fun m1 => ?_)
  have hnl := hns ns[g] (List.getElem_mem hgl)
  refine (Zke _ (by omega) k3).mono ?_
  rintro v k4 ⟨rfl, t4⟩
  have T4 := T3.trans (t4.mono T3.le)
  have ht4 := t4.le
  have n4 : k4[h'.length]? = some (.cells Zaj [.str ns[g].1, .str ns[g].2] false) := by rw [t4.eq _ (by omega)]; exact n3
  have w4' : k4[h.length]? = some (.cells Zaf [.slice a n c e, .slice a1 n1 c1 e1] false) := by rw [t4.eq _ (by omega)]; exact w3'
  have i4' : k4[h0.length]? = some (.cells Zac [.str ct, .str tt, .slice (some (i, o)) n2 c2 e2] false) := by rw [t4.eq _ (by omega)]; exact i3'
  simp only [Zal, row w4', Zaq n4, Zaq i4', List.getElem?_cons_succ, List.getElem?_cons_zero, Zai, true_and]
  refine Zcb (fun hb => fail _ T4 (by unfold Zki; rw [m1, hb]; rfl)) (fun m2 => ?_)
  refine Zan (fun hb => fail _ T4 (by unfold Zki; simp [show ¬ ns[g].2.length ≤ 20 by omega])) (fun m3 => ?_)
  refine (Zyv _ hnl).mono ?_
  rintro v k5 ⟨rfl, t5⟩
  have T5 := T4.trans (t5.mono T4.le)
  have ht5 := t5.le
  have n5 : k5[h'.length]? = some (.cells Zaj [.str ns[g].1, .str ns[g].2] false) := by rw [t5.eq _ (by omega)]; exact n4
  have w5' : k5[h.length]? = some (.cells Zaf [.slice a n c e, .slice a1 n1 c1 e1] false) := by rw [t5.eq _ (by omega)]; exact w4'
  have i5' : k5[h0.length]? = some (.cells Zac [.str ct, .str tt, .slice (some (i, o)) n2 c2 e2] false) := by rw [t5.eq _ (by omega)]; exact i4'
  simp only [row w5', Zaq n5, Zaq i5', List.getElem?_cons_succ, List.getElem?_cons_zero, Zai, true_and]
  refine (Zyv _ htt).mono ?_
  rintro v k6 ⟨rfl, t6⟩
  have T6 := T5.trans (t6.mono T5.le)
  have ht6 := t6.le
  have n6 : k6[h'.length]? = some (.cells Zaj [.str ns[g].1, .str ns[g].2] false) := by rw [t6.eq _ (by omega)]; exact n5
  have w6' : k6[h.length]? = some (.cells Zaf [.slice a n c e, .slice a1 n1 c1 e1] false) := by rw [t6.eq _ (by omega)]; exact w5'
  have i6' : k6[h0.length]? = some (.cells Zac [.str ct, .str tt, .slice (some (i, o)) n2 c2 e2] false) := by rw [t6.eq _ (by omega)]; exact i5'
  simp only [row w6', Zaq n6, Zaq i6', List.getElem?_cons_succ, List.getElem?_cons_zero, Zai, true_and]
  rw [if_pos m2, if_pos b3]
  have hvb : ∀ s, (Zsg s).length ≤ 6 := fun s => List.length_filter_le _ _
  have hv1 := hvb ns[g].2
  have hv2 := hvb tt
  refine (Yle _ _ (by omega) (by omega)).mono ?_
  rintro v k7 ⟨rfl, rfl⟩
  have hni : Zki cs tt ns[g] = (Zsg ns[g].2).all fun v => decide (v ∈ tt) := by unfold Zki; rw [m1, m2]; simp [show ns[g].2.length ≤ 20 by omega]
  simp only [Zal, row w6', Zaq n6, Zaq i6', List.getElem?_cons_succ, List.getElem?_cons_zero, Zai, true_and, Ydw, ← hni]
  refine Zcb (fun hb => fail _ T6 hb) (fun m4 => ?_)
  apply Zdu.J8i
  rw [Zbj (by omega)]
  refine hR (g + 1) _ _ (by omega) ⟨rfl, by omega, ?_, Zgk hgl hk m4⟩
  exact hS.trans ((sq.mono hS.le).trans ((t3.mono (by omega)).trans ((t4.mono (by omega)).trans ((t5.mono (by omega)).trans (t6.mono (by omega))))))
 ·apply Zdu.A4x0i
  have : g = n2 := by omega
  subst this
  rw [List.take_of_length_le (by omega)] at hk
  exact ⟨by rw [hk], SS⟩
end Go.Sim

set_option linter.unusedVariables false
set_option linter.unusedSimpArgs false
set_option maxRecDepth 20000
namespace Go.Sim
open Go Go.RowKit

structure WB (w : Wd) : Prop where
 lc : w.cs.length ≤ 1048576
 li : w.is.length ≤ 1048576
 cs : ∀ p ∈ w.cs, p.1.length ≤ 1048576 ∧ p.2.length ≤ 1048576 ∧ ∀ b ∈ p.1, b < 256
 is : ∀ i ∈ w.is, i.1.1.length ≤ 1048576 ∧ i.1.2.length ≤ 1048576 ∧ i.2.length ≤ 1048576 ∧ ∀ p ∈ i.2, p.1.length ≤ 1048576 ∧ p.2.length ≤ 1048576
def Znv (a0 : Pt) (n0 c0 : Nat) (e0 : Bool) (a1 : Pt) (n1 c1 : Nat) (e1 : Bool) : Zco := .cells Zaf [.slice a0 n0 c0 e0, .slice a1 n1 c1 e1] false
theorem Zxv {h : Zaa} {j : Nat} {a0 a1 : Pt} {n0 c0 n1 c1 : Nat} {e0 e1 : Bool} (hj : h[j]? = some (Znv a0 n0 c0 e0 a1 n1 c1 e1)) : Zbv h (.ptr (some (j, 0))) 2 = some [.slice a0 n0 c0 e0, .slice a1 n1 c1 e1] := by
 rw [Zem (show h[j]? = some (.cells Zaf [.slice a0 n0 c0 e0, .slice a1 n1 c1 e1] false) from hj) (by simp)]; rfl
theorem Zjq {h : Zaa} {j o : Nat} {a0 a1 : Pt} {n0 c0 n1 c1 : Nat} {e0 e1 : Bool} (hj : h[j]? = some (Znv a0 n0 c0 e0 a1 n1 c1 e1)) : Zak h (.ptr (some (j, o))) = ([.slice a0 n0 c0 e0, .slice a1 n1 c1 e1] : List Zam)[o]? := Zaq (show h[j]? = some (.cells Zaf [.slice a0 n0 c0 e0, .slice a1 n1 c1 e1] false) from hj)
theorem Zbb.get {b : Nat} {h h' : Zaa} {j : Nat} {x : Zco} (s : Zbb b h h') (hj : h[j]? = some x) (hb : j < b) : h'[j]? = some x := by rw [s.eq j hb]; exact hj
theorem Zbb.cat {h h1 h2 : Zaa} (a : Zbb h.length h h1) (b : Zbb h1.length h1 h2) : Zbb h.length h h2 := a.trans (b.mono a.le)

theorem Ykp {h : Zaa} {t : TypeId} {x y : Zam} : Zbv (h ++ [.cells t [x, y] false]) (.ptr (some (h.length, 0))) 2 = some [x, y] := Ycv rfl
theorem Yrx {h : Zaa} {t : TypeId} {x y z : Zam} : Zbv (h ++ [.cells t [x, y, z] false]) (.ptr (some (h.length, 0))) 3 = some [x, y, z] := Ycv rfl
theorem Yel {h : Zaa} {a0 a1 a2 : Pt} {n0 c0 n1 c1 n2 c2 j : Nat} {e0 e1 e2 : Bool} {w : Wd} {ns : List Nd} {ct tt : List Nat} (r : Zmm h a0 n0 c0 a1 n1 c1 w) (b : WB w) (hj : h[j]? = some (Znv a0 n0 c0 e0 a1 n1 c1 e1))
  (r2 : Row h.length h a2 (n2 * 2) (Zcf eP ns)) (hn2 : n2 ≤ 1048576) (hns : ∀ p ∈ ns, p.2.length ≤ 1048576) (htt : tt.length ≤ 1048576) :
  Zae pg Zca [.agg [.str ct, .str tt, .slice a2 n2 c2 e2], .ptr (some (j, 0))] h fun v h' => v = .bool (!Zmi w.cs ((ct, tt), ns)) ∧ Zbb h.length h h' := by
 apply Zkp.call
 simp only [Zaz]
 have s1 : Zbb h.length h (h ++ [.cells Zac [.str ct, .str tt, .slice a2 n2 c2 e2] false]) := Zas
 rw [Zxv (s1.get hj (Own.lt hj)), Yrx]
 simp only [Zar, Zah, Zat, Zag, Zai]
 have hlc := b.lc
 have hl0 := r.len0
 refine (Zvc (r.cls.same' s1) r.le0 (by omega) (fun p hp => (b.cs p hp).2.1) (r2.same' s1) hn2 hns htt).mono ?_
 rintro v h2 ⟨rfl, s2⟩
 simp only [Zal]
 exact ⟨by trivial, s1.cat s2⟩
theorem Yfh {h : Zaa} {a0 a1 : Pt} {n0 c0 n1 c1 j : Nat} {e0 e1 : Bool} {w : Wd} (r : Zmm h a0 n0 c0 a1 n1 c1 w) (b : WB w) (hj : h[j]? = some (Znv a0 n0 c0 e0 a1 n1 c1 e1)) :
  Zae pg Zda [.slice a1 n1 c1 e1, .fn Zca [.ptr (some (j, 0))]] h fun v h' => (∃ z : Int, v = .int .i64 z ∧ decide (z ≥ 0) = !w.is.all (Zmi w.cs)) ∧ Zbb h.length h h' := by
 have hl := r.len1
 have hli := b.li
 apply Zbd.call
 refine Zbd.L2ind _ _ _ _ _ _ _ (J := fun (g : Nat) x8 h' => x8 = (g : Int) ∧ g ≤ n1 ∧ Zbb h.length h h' ∧ (w.is.take g).all (Zmi w.cs) = true) (fun g => n1 - g) ?_ 0 _ _ ⟨rfl, by omega, Zbb.refl _ _, rfl⟩
 rintro g x8 h' ⟨rfl, hg, hS, hk⟩ R hR
 unfold Zbd.L2t
 refine Zan (fun hlt => ?_) (fun hge => ?_)
 ·obtain ⟨i, o, hgl, a2, n2, c2, e2, rfl, _, hr, _, _, _, hrow, hn⟩ := (r.same hS).inst (k := g) (by omega)
  simp only [Zax, Int.toNat_natCast, hr, Zar, Zah, Zat, Zai, Zag]
  have hb := b.is _ (List.getElem_mem hgl)
  refine ⟨by omega, (Yel (r.same hS) b (hS.get hj (Own.lt hj)) hrow (by omega) (fun p hp => (hb.2.2.2 p hp).2) hb.2.1).mono ?_⟩
  rintro v h2 ⟨rfl, s2⟩
  simp only [Zal]
  have hS2 := hS.cat s2
  refine Zcb (fun he => ?_) (fun he => ?_)
  ·exact ⟨⟨_, rfl, by rw [Zse hgl he]; simp⟩, hS2⟩
  ·rw [Zbj (by omega)]
   exact hR (g + 1) _ _ (by omega) ⟨rfl, by omega, hS2, Zgk hgl hk he⟩
 ·apply Zbd.A2x0i
  have : g = n1 := by omega
  subst this
  rw [List.take_of_length_le (by omega)] at hk
  exact ⟨⟨_, rfl, by rw [hk]; rfl⟩, hS⟩
theorem Yaa {h : Zaa} {a0 a1 : Pt} {n0 c0 n1 c1 : Nat} {e0 e1 : Bool} {w : Wd} (r : Zmm h a0 n0 c0 a1 n1 c1 w) (b : WB w) :
  Zae pg Zkr [.agg [.slice a0 n0 c0 e0, .slice a1 n1 c1 e1]] h fun v h' => v = .bool (Zdm w) ∧ Zbb h.length h h' := by
 have hl0 := r.len0
 have hl1 := r.len1
 have hlc := b.lc
 apply Zof.call
 simp only [Zaz]
 generalize hh0 : h ++ [Zco.cells Zaf [.slice a0 n0 c0 e0, .slice a1 n1 c1 e1] false] = h0
 have s0 : Zbb h.length h h0 := by rw [← hh0]; exact Zas
 have w0 : h0[h.length]? = some (Znv a0 n0 c0 e0 a1 n1 c1 e1) := by rw [← hh0]; simp [Znv]
 rw [Zxv w0]
 simp only [Zar, Zah, Zat, Zag]
 refine (Zuq (r.cls.same' s0) r.le0 (by omega) (fun p hp => (b.cs p hp).2.1)).mono ?_
 rintro v h2 ⟨rfl, s2⟩
 have S2 := s0.cat s2
 have w2 := s2.get w0 (Own.lt w0)
 simp only [Zal]
 refine Zcw (fun b1 => ?_) (fun b1 => ⟨by unfold Zdm; rw [b1]; rfl, S2⟩)
 simp only [Zjq w2, Nat.zero_add, List.getElem?_cons_succ, List.getElem?_cons_zero, Zag]
 refine Zan (fun b2 => ?_) (fun b2 => ⟨by unfold Zdm; rw [b1]; simp [show ¬ w.is.length ≤ 10 by omega], S2⟩)
 apply Zcl.call
 refine (Yfh (r.same S2) b w2).mono ?_
 rintro v h3 ⟨⟨z, rfl, hz⟩, s3⟩
 simp only [Zau, Zal]
 refine ⟨?_, S2.cat s3⟩
 rw [hz, Bool.not_not]
 unfold Zdm
 rw [b1]; simp [show w.is.length ≤ 10 by omega]
theorem Zro {h : Zaa} {a0 a1 : Pt} {n0 c0 n1 c1 : Nat} {e0 e1 : Bool} {w : Wd} (r : Zmm h a0 n0 c0 a1 n1 c1 w) (b : WB w) :
  Zae pg Zie [.agg [.slice a0 n0 c0 e0, .slice a1 n1 c1 e1]] h fun v h' => v = .bool (Zdm w) ∧ Zbb h.length h h' := by
 have hl0 := r.len0
 have hl1 := r.len1
 have hlc := b.lc
 have hli := b.li
 apply Zgc.call
 simp only [Zaz]
 generalize hh0 : h ++ [Zco.cells Zaf [.slice a0 n0 c0 e0, .slice a1 n1 c1 e1] false] = h0
 have s0 : Zbb h.length h h0 := by rw [← hh0]; exact Zas
 have w0 : h0[h.length]? = some (Znv a0 n0 c0 e0 a1 n1 c1 e1) := by rw [← hh0]; simp [Znv]
 simp only [Zjq w0, Nat.zero_add, List.getElem?_cons_succ, List.getElem?_cons_zero, Zag]
 refine Zgc.L2ind _ _ _ _ _ _ _ _ (J := fun (g : Nat) x8 h' => x8 = (g : Int) ∧ g ≤ n1 ∧ Zbb h0.length h0 h' ∧ (w.is.take g).all (Zmi w.cs) = true) (fun g => n1 - g) ?_ 0 _ _ ⟨rfl, by omega, Zbb.refl _ _, rfl⟩
 rintro g x8 h' ⟨rfl, hg, hS, hk⟩ R hR
 have SS := s0.cat hS
 have w1 := hS.get w0 (Own.lt w0)
 unfold Zgc.L2t
 refine Zan (fun hlt => ?_) (fun hge => ?_)
 ·obtain ⟨i, o, hgl, a2, n2, c2, e2, rfl, _, hr, _, _, _, hrow, hn⟩ := (r.same SS).inst (k := g) (by omega)
  simp only [Zax, Int.toNat_natCast, hr, Zar, Zah, Zat, Zai, Zag, Zaz]
  rw [Ygf]
  generalize hq : h' ++ [Zco.cells Zac [.str w.is[g].1.1, .str w.is[g].1.2, .slice a2 n2 c2 e2] false] = hq'
  have sq : Zbb h'.length h' hq' := by rw [← hq]; exact Zas
  simp only [Zaw]
  rw [Zxv (sq.get w1 (Own.lt w1)), ← hq, Yrx, hq]
  simp only [Zar, Zah, Zat, Zai, Zag]
  have hb := b.is _ (List.getElem_mem hgl)
  have Sq := SS.cat sq
  refine ⟨by omega, (Zue (r.cls.same' Sq) r.le0 (by omega) (fun p hp => (b.cs p hp).2.1) (fun p hp => (b.cs p hp).2.2) (hrow.same' sq) (by omega) (fun p hp => (hb.2.2.2 p hp).2) hb.2.1).mono ?_⟩
  rintro v h2 ⟨rfl, s2⟩
  simp only [Zal]
  refine Zcb (fun he => ?_) (fun he => ?_)
  ·exact ⟨by unfold Zdm; rw [Zse hgl he]; simp, Sq.cat s2⟩
  ·rw [Zbj (by omega)]
   exact hR (g + 1) _ _ (by omega) ⟨rfl, by omega, (hS.cat sq).cat s2, Zgk hgl hk he⟩
 ·apply Zgc.A2x0i
  have : g = n1 := by omega
  subst this
  rw [List.take_of_length_le (by omega)] at hk
  simp only [Zjq w1, Nat.zero_add, List.getElem?_cons_zero, Zag]
  refine (Zul (r.cls.same' SS) r.le0 (by omega) (fun p hp => (b.cs p hp).2.1) (fun p hp => (b.cs p hp).2.2)).mono ?_
  rintro v h2 ⟨rfl, s2⟩
  simp only [Zal]
  have w2 := s2.get w1 (Own.lt w1)
  refine Zcw (fun b1 => ?_) (fun b1 => ⟨by unfold Zdm; rw [b1]; rfl, SS.cat s2⟩)
  simp only [Zjq w2, Nat.zero_add, List.getElem?_cons_succ, List.getElem?_cons_zero, Zag]
  refine ⟨?_, SS.cat s2⟩
  unfold Zdm
  rw [b1, hk]; congr 1; rw [Bool.eq_iff_iff]; simp; omega
theorem Yjo (cs : List Nd) (c : List Nat) : decide (Ydv cs c ≥ 0) = Zgj cs c := by
 unfold Ydv; cases h : Zgj cs c <;> simp
theorem Yka {h : Zaa} {a0 a1 : Pt} {n0 c0 n1 c1 : Nat} {e0 e1 : Bool} {w : Wd} {ct tt : List Nat} (r : Zmm h a0 n0 c0 a1 n1 c1 w) (b : WB w) (ht : tt.length ≤ 1048576) :
  Zae pg Zox [.agg [.slice a0 n0 c0 e0, .slice a1 n1 c1 e1], .agg [.str ct, .str tt]] h fun v h' => v = .bool (Zet w (ct, tt)) ∧ Zbb h.length h h' := by
 have hl0 := r.len0
 have hlc := b.lc
 apply Zsv.call
 simp only [Zaz]
 generalize hh0 : h ++ [Zco.cells Zaf [.slice a0 n0 c0 e0, .slice a1 n1 c1 e1] false] = h0
 generalize hh1 : h0 ++ [Zco.cells Zaj [.str ct, .str tt] false] = h1
 have s0 : Zbb h.length h h0 := by rw [← hh0]; exact Zas
 have s1 : Zbb h0.length h0 h1 := by rw [← hh1]; exact Zas
 have w0 : h0[h.length]? = some (Znv a0 n0 c0 e0 a1 n1 c1 e1) := by rw [← hh0]; simp [Znv]
 have w1 := s1.get w0 (Own.lt w0)
 have i1 : h1[h0.length]? = some (.cells Zaj [.str ct, .str tt] false) := by rw [← hh1]; simp
 rw [Zxv w1]
 simp only [Zar, Zah, Zat, Zaq i1, Nat.zero_add, List.getElem?_cons_zero, List.getElem?_cons_succ, Zag, Zai]
 refine (Zqq (r.cls.same' (s0.cat s1)) (by omega)).mono ?_
 rintro v h2 ⟨rfl, s2⟩
 simp only [Zau, Yjo]
 have i2 := s2.get i1 (Own.lt i1)
 refine Zcw (fun b1 => ?_) (fun b1 => ⟨by unfold Zet; rw [b1]; rfl, (s0.cat s1).cat s2⟩)
 simp only [Zaq i2, Nat.zero_add, List.getElem?_cons_zero, List.getElem?_cons_succ, Zag, Zai]
 refine (Zke tt (by omega) h2).mono ?_
 rintro v h3 ⟨rfl, s3⟩
 simp only [Zal]
 exact ⟨by unfold Zet; rw [b1]; rfl, ((s0.cat s1).cat s2).cat s3⟩
theorem Yaz {h : Zaa} {a0 a1 : Pt} {n0 c0 n1 c1 : Nat} {e0 e1 : Bool} {w : Wd} {ct tt : List Nat} (r : Zmm h a0 n0 c0 a1 n1 c1 w) (b : WB w) (ht : tt.length ≤ 1048576) :
  Zae pg Zlq [.agg [.slice a0 n0 c0 e0, .slice a1 n1 c1 e1], .agg [.str ct, .str tt]] h fun v h' => v = .bool (Zdm w && Zet w (ct, tt)) ∧ Zbb h.length h h' := by
 apply Zpr.call
 simp only [Zaz]
 generalize hh0 : h ++ [Zco.cells Zaf [.slice a0 n0 c0 e0, .slice a1 n1 c1 e1] false] = h0
 generalize hh1 : h0 ++ [Zco.cells Zaj [.str ct, .str tt] false] = h1
 have s0 : Zbb h.length h h0 := by rw [← hh0]; exact Zas
 have s1 : Zbb h0.length h0 h1 := by rw [← hh1]; exact Zas
 have w0 : h0[h.length]? = some (Znv a0 n0 c0 e0 a1 n1 c1 e1) := by rw [← hh0]; simp [Znv]
 have w1 := s1.get w0 (Own.lt w0)
 have i1 : h1[h0.length]? = some (.cells Zaj [.str ct, .str tt] false) := by rw [← hh1]; simp
 rw [Zxv w1]
 simp only [Zar, Zah, Zat, Zag]
 refine (Zro (r.same (s0.cat s1)) b).mono ?_
 rintro v h2 ⟨rfl, s2⟩
 simp only [Zal]
 have i2 := s2.get i1 (Own.lt i1)
 have w2 := s2.get w1 (Own.lt w1)
 refine Zcw (fun b1 => ?_) (fun b1 => ⟨by rw [b1]; rfl, (s0.cat s1).cat s2⟩)
 rw [Zxv w2, Zem i2 (by simp)]
 simp only [List.drop_zero, List.take_succ_cons, List.take_zero, Zar, Zah, Zat, Zag, Zai]
 refine (Yka (r.same ((s0.cat s1).cat s2)) b ht).mono ?_
 rintro v h3 ⟨rfl, s3⟩
 simp only [Zal]
 exact ⟨by rw [b1]; rfl, ((s0.cat s1).cat s2).cat s3⟩
end Go.Sim

set_option linter.unusedVariables false
set_option linter.unusedSimpArgs false
set_option maxRecDepth 20000
namespace Go.Sim
open Go Go.RowKit

end Go.Sim

set_option linter.unusedVariables false
set_option linter.unusedSimpArgs false
set_option maxRecDepth 20000
namespace Go.Sim
open Go Go.RowKit
theorem Yiz {h : Zaa} {c t : List Nat} {x : Int} (hc : c.length ≤ 9223372036854775807) (ht : t.length ≤ 9223372036854775807) (hx : 0 ≤ x ∧ x ≤ 1048576) :
  Zae pg Znm [.agg [.str c, .str t], .int .i64 x] h fun v h' => ∃ y, v = .int .i64 y ∧ Zbb h.length h h' ∧ (0 ≤ y → (c.length : Int) + t.length + y = x) := by
 apply Zrv.call
 simp only [Zaz]
 have s1 : Zbb h.length h (h ++ [.cells Zql [.str c, .str t] false]) := Zbb.app (Nat.le_refl _) _
 simp [Zak]
 rw [IntWalk.i64_in _ (by omega)]
 refine Zan (fun hlt => s1) (fun hge => ?_)
 rw [IntWalk.i64_in _ (by omega)]
 exact Zan (fun hlt => s1) (fun hge => ⟨s1, by omega⟩)
theorem Yig {h : Zaa} {c t c' t' : List Nat} :
  Zae pg Zns [.agg [.str c, .str t], .agg [.str c', .str t']] h fun v h' => v = .bool (decide (c = c') && decide (t = t')) ∧ Zbb h.length h h' := by
 apply Zre.call
 simp only [Zaz]
 simp [Zak]
 by_cases e1 : c = c' <;> by_cases e2 : t = t' <;> simp [e1, e2] <;> exact Zbb.app (Nat.le_refl _) _
theorem Yik {h : Zaa} {c t : List Nat} :
  Zae pg Zno [.agg [.str c, .str t]] h fun v h' => v = .agg [.str c, .str t] ∧ Zbb h.length h h' := by
 apply Zrs.call
 simp only [Zaz]
 simp [Zak, Zbk, Zbv, putRow, List.getElem?_append, List.getElem?_set]
 exact Zbb.app (Nat.le_refl _) _

theorem Ybu {h : Zaa} {a : Pt} {n c : Nat} {e : Bool} {l : List (List Nat × List Nat)} (r : Row h.length h a (n * 2) (prs l)) (hs : ∀ p ∈ l, p.1.length ≤ 9223372036854775807 ∧ p.2.length ≤ 9223372036854775807) (hn : n ≤ 9223372036854775807) {left : Int} (hl : 0 ≤ left ∧ left ≤ 1048576) :
  Zae pg Zmf [.slice a n c e, .int .i64 left] h fun v h' => ∃ x, v = .int .i64 x ∧ Zbb h.length h h' ∧ (0 ≤ x → (n : Int) + Ybb l + x = left) := by
 have hll : l.length = n := by have := r.1; rw [Zhb] at this; omega
 apply Zhi.call
 rw [IntWalk.i64_in _ (by omega)]
 refine Zan (fun hlt => ?_) (fun hge => ?_)
 ·exact ⟨_, rfl, Zbb.refl _ _, by omega⟩
 ·refine Zhi.L5ind _ _ _ _ _ (J := fun (g : Nat) x1 x5 h' => x5 = (g : Int) ∧ Zbb h.length h h' ∧ g ≤ n ∧ 0 ≤ x1 ∧ x1 + n + Ybb (l.take g) = left) (fun g => n - g) ?_ 0 _ 0 h ⟨rfl, Zbb.refl _ _, by omega, by omega, by simp [Ybb]⟩
  rintro g x1 x5 h' ⟨rfl, hS, hg, h0, ht⟩ R hR
  unfold Zhi.L5t
  refine Zan (fun hlt => ?_) (fun hge => ?_)
  ·have hlt' : g < n := by omega
   obtain ⟨i, o, hgl, rfl, hi, hc⟩ := (r.same hS).pair hlt'
   have hsl := hs _ (List.getElem_mem hgl)
   simp only [Zax, Int.toNat_natCast, hc, Zar, Zah, Zat, Zai]
   refine ⟨by omega, (Yiz hsl.1 hsl.2 (by omega)).mono fun v h1 ⟨y, hv, hs1, hy⟩ => ?_⟩
   subst hv
   simp only [Zau]
   have hS1 := hS.trans (hs1.mono hS.le)
   refine Zan (fun hneg => ⟨_, rfl, hS1, by omega⟩) (fun hneg => ?_)
   rw [Zoq hlt' (by omega)]
   have hyy := hy (by omega)
   refine hR (g + 1) _ _ _ (by omega) ⟨rfl, hS1, by omega, by omega, ?_⟩
   rw [Zvn hgl]; omega
  ·have : g = n := by omega
   subst this
   rw [List.take_of_length_le (by omega)] at ht
   exact Zhi.A5x0i _ _ _ ⟨_, rfl, hS, by omega⟩
theorem Ybc {h : Zaa} {a : Pt} {n c : Nat} {e : Bool} {l : List (List Nat × List Nat)} (r : Row h.length h a (n * 2) (prs l)) (hn : n ≤ 1048576) :
  Zae pg Zmu [.slice a n c e] h fun v h' => ∃ a' c' e', v = .slice a' n c' e' ∧ Zbb h.length h h' ∧ Zcv Zbc eP h.length h' a' n l ∧ n ≤ c' := by
 have hll : l.length = n := by have := r.1; rw [Zhb] at this; omega
 apply Zhz.call
 refine ⟨rfl, rfl, by omega, ?_⟩
 simp only [Zaz, Int.toNat_natCast, Ygc]
 refine Zhz.L3ind _ _ _ _ _ _ _ _ _ (J := fun (g : Nat) x4 h' => x4 = (g : Int) ∧ g ≤ n ∧ Zbb h.length h h' ∧ h'[h.length]? = some (.cells Zbc (prs (l.take g ++ List.replicate (n - g) ([], []))) false)) (fun g => n - g) ?_ 0 0 _ ⟨rfl, by omega, Zbb.app (Nat.le_refl _) _, by simp⟩
 rintro g x4 h' ⟨rfl, hg, hs, hi⟩ R hR
 unfold Zhz.L3t
 refine Zan (fun hlt => ?_) (fun hge => ?_)
 ·have hlt' : g < n := by omega
  obtain ⟨i, o, hgl, rfl, hi', hc⟩ := (r.same hs).pair hlt'
  simp only [Zax, Int.toNat_natCast, hc, Zar, Zah, Zat, Zai]
  refine ⟨by omega, Yik.mono fun v h1 ⟨hv, hs1⟩ => ?_⟩
  subst hv
  have hi1 : h1[h.length]? = some (.cells Zbc (prs (l.take g ++ List.replicate (n - g) ([], []))) false) := by rw [hs1.eq _ (Own.lt hi)]; exact hi
  simp only [Zdp, Zah, Zat, Zai, Nat.zero_add]
  have hmin : min g l.length = g := Nat.min_eq_left (by omega)
  rw [Ycc hi1 (by simp; omega)]
  simp only [Zaw]
  rw [Zoq hlt' (by omega)]
  have hset : (l.take g ++ List.replicate (n - g) ([], [])).take g ++ [(l[g].1, l[g].2)] ++ (l.take g ++ List.replicate (n - g) (([] : List Nat), ([] : List Nat))).drop (g + 1) = l.take (g + 1) ++ List.replicate (n - (g + 1)) ([], []) := by
   have hl1 : (l.take g).length = g := by rw [List.length_take, hmin]
   rw [List.take_left' hl1, List.take_succ_eq_append_getElem hgl, List.drop_append, hl1, List.drop_of_length_le (by omega), List.nil_append, List.drop_replicate]
   congr 2; omega
  rw [hset]
  exact ⟨⟨by omega, by omega⟩, hR (g + 1) _ _ (by omega) ⟨rfl, by omega, (hs.trans (hs1.mono hs.le)).trans (Zbb.set (Nat.le_refl _) _), Zoj hi1⟩⟩
 ·have : g = n := by omega
  subst this
  rw [List.take_of_length_le (by omega), Nat.sub_self, List.replicate_zero, List.append_nil] at hi
  exact Zhz.A3x0i _ _ _ _ _ _ ⟨_, _, _, rfl, hs, ⟨hll, .inr ⟨h.length, rfl, Nat.le_refl _, hi⟩⟩, by simp⟩
theorem Ybg {h : Zaa} {a0 a1 : Pt} {n0 n1 c0 c1 : Nat} {e0 e1 : Bool} {l0 l1 : List (List Nat × List Nat)} (r0 : Row h.length h a0 (n0 * 2) (prs l0)) (r1 : Row h.length h a1 (n1 * 2) (prs l1)) (hn : n0 ≤ 4611686018427387904) (heq : l0 = l1) :
  Zae pg Zmk [.slice a0 n0 c0 e0, .slice a1 n1 c1 e1] h fun v h' => v = .bool true ∧ Zbb h.length h h' := by
 subst heq
 have hl0 : l0.length = n0 := by have := r0.1; rw [Zhb] at this; omega
 have hl1 : l0.length = n1 := by have := r1.1; rw [Zhb] at this; omega
 have : n1 = n0 := by omega
 subst this
 apply Zhr.call
 simp only [beq_self_eq_true, Bool.not_true, Zbh]
 refine Zhr.L4ind _ _ _ _ _ _ _ _ _ (J := fun (k : Nat) x5 h' => Zbb h.length h h' ∧ x5 = (k : Int) ∧ k ≤ n1) (fun k => n1 - k) ?_ 0 0 h ⟨Zbb.refl _ _, rfl, by omega⟩
 rintro k x5 h' ⟨hs, rfl, hk⟩ R hR
 unfold Zhr.L4t
 refine Zan (fun hlt => ?_) (fun hge => Zhr.A4x0i _ _ ⟨rfl, hs⟩)
 have hlt' : k < n1 := by omega
 obtain ⟨i, o, hgl, rfl, _, hc0⟩ := (r0.same hs).pair hlt'
 obtain ⟨i', o', _, rfl, _, hc1⟩ := (r1.same hs).pair hlt'
 simp only [Zax, Int.toNat_natCast, hc0, hc1, Zar, Zah, Zat, Zai, true_and]
 refine ⟨⟨by omega, by omega⟩, ⟨by omega, by omega⟩, Yig.mono fun v h1 ⟨hv, hs1⟩ => ?_⟩
 subst hv
 simp only [Zal, decide_true, Bool.and_self, Bool.not_true, Zbh]
 rw [Zoq hlt' (by omega)]
 exact hR (k + 1) _ _ (by omega) ⟨hs.trans (hs1.mono hs.le), rfl, by omega⟩

theorem Yej {h : Zaa} {a : Pt} {n c : Nat} {e : Bool} {l : List (List Nat × List Nat)} (r : Row h.length h a (n * 2) (prs l)) (hn : n ≤ 1048576) :
  Zae pg Zny [.slice a n c e] h fun v h' => ∃ a' c' e', v = .slice a' n c' e' ∧ Zbb h.length h h' ∧ Zcv Zaj eP h.length h' a' n l ∧ n ≤ c' ∧ a' ≠ none := by
 have hll : l.length = n := by have := r.1; rw [Zhb] at this; omega
 apply Ziz.call
 refine ⟨rfl, rfl, by omega, ?_⟩
 simp only [Zaz, Int.toNat_natCast, Ygc]
 refine Ziz.L3ind _ _ _ _ _ _ _ _ _ (J := fun (g : Nat) x4 h' => x4 = (g : Int) ∧ g ≤ n ∧ Zbb h.length h h' ∧ h'[h.length]? = some (.cells Zaj (prs (l.take g ++ List.replicate (n - g) ([], []))) false)) (fun g => n - g) ?_ 0 0 _ ⟨rfl, by omega, Zbb.app (Nat.le_refl _) _, by simp⟩
 rintro g x4 h' ⟨rfl, hg, hs, hi⟩ R hR
 unfold Ziz.L3t
 refine Zan (fun hlt => ?_) (fun hge => ?_)
 ·have hlt' : g < n := by omega
  obtain ⟨i, o, hgl, rfl, hi', hc⟩ := (r.same hs).pair hlt'
  simp only [Zax, Int.toNat_natCast, hc, Zar, Zah, Zat, Zai]
  refine ⟨by omega, Ycg.mono fun v h1 ⟨hv, hs1⟩ => ?_⟩
  subst hv
  have hi1 : h1[h.length]? = some (.cells Zaj (prs (l.take g ++ List.replicate (n - g) ([], []))) false) := by rw [hs1.eq _ (Own.lt hi)]; exact hi
  simp only [Zdp, Zah, Zat, Zai, Nat.zero_add]
  have hmin : min g l.length = g := Nat.min_eq_left (by omega)
  rw [Ycc hi1 (by simp; omega)]
  simp only [Zaw]
  rw [Zoq hlt' (by omega)]
  have hset : (l.take g ++ List.replicate (n - g) ([], [])).take g ++ [(l[g].1, l[g].2)] ++ (l.take g ++ List.replicate (n - g) (([] : List Nat), ([] : List Nat))).drop (g + 1) = l.take (g + 1) ++ List.replicate (n - (g + 1)) ([], []) := by
   have hl1 : (l.take g).length = g := by rw [List.length_take, hmin]
   rw [List.take_left' hl1, List.take_succ_eq_append_getElem hgl, List.drop_append, hl1, List.drop_of_length_le (by omega), List.nil_append, List.drop_replicate]
   congr 2; omega
  rw [hset]
  exact ⟨⟨by omega, by omega⟩, hR (g + 1) _ _ (by omega) ⟨rfl, by omega, (hs.trans (hs1.mono hs.le)).trans (Zbb.set (Nat.le_refl _) _), Zoj hi1⟩⟩
 ·have : g = n := by omega
  subst this
  rw [List.take_of_length_le (by omega), Nat.sub_self, List.replicate_zero, List.append_nil] at hi
  exact Ziz.A3x0i _ _ _ _ _ _ ⟨_, _, _, rfl, hs, ⟨hll, .inr ⟨h.length, rfl, Nat.le_refl _, hi⟩⟩, by simp, by simp⟩
end Go.Sim
