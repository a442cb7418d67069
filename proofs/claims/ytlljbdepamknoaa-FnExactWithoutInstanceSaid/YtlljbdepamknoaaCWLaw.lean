/- A part of the proof of a statement of this seat: see the text that holds the theorem. No condition. -/
import Derived.Test.YtlljbdepamknoaaPTCOwn
import Derived.Test.YtlljbdepamknoaaCTy
import Derived.Test.YtlljbdepamknoaaCWRep
import Derived.Test.YtlljbdepamknoaaPTC1
import Derived.Test.YtlljbdepamknoaaPTCWCls2
import Derived.Test.YtlljbdepamknoaaPTCWVar2
set_option linter.unusedVariables false
set_option linter.unusedSimpArgs false
set_option linter.all false
set_option linter.unusedVariables false
set_option linter.unusedSimpArgs false
set_option maxRecDepth 20000
namespace Go.Sim
open Go Go.RowKit

def one (c : Nat) : List Nat := [c]
theorem Zwn : pg.underlying Zrx = some (.slice Zdl) := by kernel_rfl
theorem Yaz : pg.cellsOf Zdl = 1 := by kernel_rfl
theorem Yao : pg.okElem Zdl = true := by kernel_rfl
theorem Ybr : pg.bytesOf Zdl ≤ 127 := Nat.le_of_ble_eq_true (by kernel_rfl)
theorem Yfl (s : List Nat) (h : Zaa) : Zae pg Znc [.str s] h fun v h' => Zbd h.length h h' ∧ ∃ a n c e, v = .slice a n c e ∧ Row h'.length h' a n (strs ((Zna s).map one)) := by
  apply Zgm.call
  simp only [Zbf]
  have hlist : (h ++ [Zck.cells Zdl [] false] ++ [Zck.cells Zdl [.str [88], .str [89], .str [90], .str [120], .str [121], .str [122]] false])[h.length + 1]? = some (.cells Zdl [.str [88], .str [89], .str [90], .str [120], .str [121], .str [122]] false) := by simp
  have hlen : List.length (h ++ [Zck.cells Zdl [] false]) = h.length + 1 := by simp
  rw [hlen]
  refine Zgm.L3ind _ _ _ _ _ _ _ (J := fun (g : Nat) a3 n3 c3 e3 x9 h' => x9 = (g : Int) ∧ g ≤ 6 ∧ Zbd h.length h h' ∧ h'[h.length + 1]? = some (.cells Zdl [.str [88], .str [89], .str [90], .str [120], .str [121], .str [122]] false) ∧ n3 = (((Zhs.take g).filter fun v => decide (v ∈ s)).map one).length ∧ Vec Zdl h' a3 n3 c3 (strs (((Zhs.take g).filter fun v => decide (v ∈ s)).map one)) ∧ ∀ i, a3 = some (i, 0) → h.length ≤ i ∧ i ≠ h.length + 1) (fun g => 6 - g) ?_ 0 _ _ _ _ _ _
    ⟨rfl, by omega, (Zbd.app (Nat.le_refl _) _).trans (Zbd.app (by simp) _), hlist, by simp, Vec.mk1 (by simp), fun i hi => by cases hi; omega⟩
  rintro g a3 n3 c3 e3 x9 h' ⟨rfl, hg, hS, hl, rfl, hv, ha⟩ R hR
  unfold Zgm.L3t
  refine Zam (fun hlt => ?_) (fun hge => ?_)
  · have hlt' : g < 6 := by omega
    have hc : ∃ c, Zhs[g]? = some c ∧ Zai h' (.ptr (some (h.length + 1, 0 + (g : Int).toNat * 1))) = some (.str [c]) := by
      rw [Zau hl, Int.toNat_natCast]
      match g, hlt' with
      | 0, _ | 1, _ | 2, _ | 3, _ | 4, _ | 5, _ => exact ⟨_, rfl, rfl⟩
    obtain ⟨c, hc1, hc2⟩ := hc
    simp only [Zba, hc2, Zal]
    refine ⟨by omega, Zjc.mono ?_⟩
    rintro v h2 ⟨rfl, rfl⟩
    simp only [Zat]
    have htk : Zhs.take (g + 1) = Zhs.take g ++ [c] := by
      rw [List.take_succ, hc1]; rfl
    have hbd : (((Zhs.take g).filter fun v => decide (v ∈ s)).map one).length ≤ 6 := by
      rw [List.length_map]
      exact Nat.le_trans (List.length_filter_le _ _) (by simp; omega)
    refine Zam (fun hin => ?_) (fun hout => ?_)
    · simp only [Zbf]
      refine hv.push Zwn Yaz Yao Ybr (by simp) rfl (by omega) (fun h4 hl4 hi4 hk4 => ?_)
      simp only [Zaf]
      apply Zgm.J7i
      rw [Zcd (by omega)]
      have hle := hS.le
      refine hR (g + 1) _ _ _ _ _ _ (by omega) ⟨rfl, by omega, ⟨by omega, fun j hj => ?_⟩, ?_, ?_, Vec.mk1 ?_, fun i hi => by cases hi; have := Own.lt hl; omega⟩
      · rw [hk4 j (by omega) fun i hi => by have := (ha i hi).1; omega]; exact hS.eq j hj
      · rw [hk4 _ (Own.lt hl) fun i hi => (ha i hi).2.symm]; exact hl
      · rw [htk, List.filter_append]; simp [hin]
      · rw [hi4, htk, List.filter_append]; simp [hin, strs, one]
    · apply Zgm.J7i
      rw [Zcd (by omega)]
      have hf : (Zhs.take (g + 1)).filter (fun v => decide (v ∈ s)) = (Zhs.take g).filter fun v => decide (v ∈ s) := by rw [htk, List.filter_append]; simp [hout]
      refine hR (g + 1) _ _ _ _ _ _ (by omega) ⟨rfl, by omega, hS, hl, by rw [hf], by rw [hf]; exact hv, ha⟩
  · have : g = 6 := by omega
    subst this
    apply Zgm.A3x0i
    refine ⟨hS, _, _, _, _, rfl, hv.row (by simp)⟩
end Go.Sim

set_option linter.unusedVariables false
set_option linter.unusedSimpArgs false
set_option maxRecDepth 20000
namespace Go.Sim
open Go Go.RowKit

theorem Zft {h : Zaa} {t : TypeId} {cs : List Zag} {o : Nat} : Zai (h ++ [.cells t cs false]) (.ptr (some (h.length, o))) = cs[o]? := Zau (t := t) (cs := cs) (ro := false) (by simp)
theorem Ybz {h : Zaa} {t : TypeId} {cs : List Zag} {n : Nat} (hn : cs.length = n) : Zbw (h ++ [.cells t cs false]) (.ptr (some (h.length, 0))) n = some cs := by
  rw [Zha (show (h ++ [Zck.cells t cs false])[h.length]? = some (.cells t cs false) by simp) (by omega)]; simp [← hn]
theorem Zax {h : Zaa} {x : Zck} : Zbd h.length h (h ++ [x]) := Zbd.app (Nat.le_refl _) _
theorem Zry {h : Zaa} {t : TypeId} {cs vs : List Zag} (hl : cs.length = vs.length) : Zbc (h ++ [.cells t cs false]) (.ptr (some (h.length, 0))) vs = some (h ++ [.cells t vs false]) := by
  rw [Zbb (show (h ++ [Zck.cells t cs false])[h.length]? = some (.cells t cs false) by simp) (by omega)]
  simp [Zbi, hl]
theorem Zlc {h : Zaa} {t : TypeId} {x y a b : Zag} : Zbc (h ++ [.cells t [x, y] false]) (.ptr (some (h.length, 0))) [a, b] = some (h ++ [.cells t [a, b] false]) := Zry rfl
theorem Yex {h : Zaa} {t : TypeId} {x y z a b c : Zag} : Zbc (h ++ [.cells t [x, y, z] false]) (.ptr (some (h.length, 0))) [a, b, c] = some (h ++ [.cells t [a, b, c] false]) := Zry rfl
theorem Row.sl {b : Nat} {h : Zaa} {a : Pt} {n k : Nat} {l : List Nd} (r : Row b h a (n * 2) (Zbv eP l)) (hk : k ≤ n) (hl : l.length = n) : Row b h a (k * 2) (Zbv eP (l.take k)) := by
  obtain ⟨h1, h2⟩ := r
  have e : (Zbv eP (l.take k)).length = k * 2 := by rw [Zaw Zdq, List.length_take, Nat.min_eq_left (by omega)]
  refine ⟨e, ?_⟩
  rcases h2 with h0 | ⟨i, o, t, all, ro, ha, hb, hi, hle, hcs⟩
  · exact .inl (by omega)
  · refine .inr ⟨i, o, t, all, ro, ha, hb, hi, by omega, ?_⟩
    rw [← Zzy Zdq, hcs, List.take_take, Nat.min_eq_left (by omega)]
theorem Zxe {b : Nat} {h : Zaa} {a : Pt} {n c k : Nat} {e : Bool} {l : List Nd} {K : Zag → Prop} (r : Row b h a (n * 2) (Zbv eP l)) (hl : l.length = n) (hk : k ≤ n) (hc : n ≤ c) {z : Int} (hz : z = k)
    (hK : ∀ a' c' e', Row b h a' (k * 2) (Zbv eP (l.take k)) → k ≤ c' → K (.slice a' k c' e')) : Zep a n c e 2 none (some (.int .i64 z)) none K := by
  subst hz
  simp only [Zep, Zhc]
  refine ⟨by omega, ?_⟩
  split
  · have h0 : n = 0 := by
      obtain ⟨h1, h2⟩ := r
      rcases h2 with h2 | ⟨i, o, t, all, ro, ha, _⟩
      · omega
      · cases ha
    have hk0 : k = 0 := by omega
    subst hk0
    exact ⟨⟨by trivial, by simp, .inl (by trivial)⟩, hK _ _ _ (by simpa using Row.nil) (by omega)⟩
  · rename_i i o
    refine ⟨fun hlt => ?_, fun hlt => ?_⟩
    · have e2 : ((k : Int) - 0).toNat = k := by omega
      have e3 : o + Int.toNat 0 * 2 = o := by simp
      have e4 : ((c : Int) - 0).toNat = c := by omega
      rw [e2, e3, e4]
      exact hK _ _ _ (r.sl hk hl) (by omega)
    · have hk0 : k = 0 := by omega
      subst hk0
      exact hK _ _ _ (by simpa using Row.nil) (by omega)

theorem Zwc {h : Zaa} {x : Nd} {j : Nat} {c : List Nat} (hj : Zai h (.ptr (some (j, 0))) = some (.str c)) (hjl : j < h.length) :
    Zae pg Zbz [.agg [.str x.1, .str x.2], .ptr (some (j, 0))] h fun v h' => v = .bool (decide (x.1 = c)) ∧ Zbd h.length h h' := by
  apply Zkf.call
  simp only [Zbf, Zft, List.getElem?_cons_zero, Zal]
  have := (Zax (h := h) (x := .cells Zan [.str x.1, .str x.2] false)).cell hjl hj
  rw [this]
  exact ⟨rfl, Zax⟩
theorem Zwb {h : Zaa} {a : Pt} {n c : Nat} {e : Bool} {cs : List Nd} {j : Nat} {s : List Nat} (r : Row h.length h a (n * 2) (Zbv eP cs)) (hn : n ≤ 4611686018427387904) (hj : Zai h (.ptr (some (j, 0))) = some (.str s)) (hjl : j < h.length) :
    Zae pg Zcp [.slice a n c e, .fn Zbz [.ptr (some (j, 0))]] h fun v h' => (∃ z : Int, v = .int .i64 z ∧ decide (z ≥ 0) = Zfi cs s) ∧ Zbd h.length h h' := by
  have hl : cs.length = n := by have := r.1; rw [Zaw Zdq] at this; omega
  apply Zaz.call
  refine Zaz.L2ind _ _ _ _ _ _ _ (J := fun (g : Nat) x8 h' => x8 = (g : Int) ∧ g ≤ n ∧ Zbd h.length h h' ∧ Zfi (cs.take g) s = false) (fun g => n - g) ?_ 0 _ _ ⟨rfl, by omega, Zbd.refl _ _, rfl⟩
  rintro g x8 h' ⟨rfl, hg, hS, hk⟩ R hR
  unfold Zaz.L2t
  refine Zam (fun hlt => ?_) (fun hge => ?_)
  · obtain ⟨i, o, hgl, rfl, _, hr, _⟩ := (r.same hS).pr (k := g) (by omega)
    simp only [Zba, Int.toNat_natCast, hr, Zaq, Zah, Zap, Zal]
    refine ⟨by omega, (Zwc (x := cs[g]) (hS.cell hjl hj) (by have := hS.le; omega)).mono ?_⟩
    rintro v h2 ⟨rfl, s2⟩
    simp only [Zat]
    have hS2 := hS.trans (s2.mono hS.le)
    refine Zam (fun he => ?_) (fun he => ?_)
    · refine ⟨⟨_, rfl, ?_⟩, hS2⟩
      have : Zfi cs s = true := by unfold Zfi; rw [List.any_eq_true]; exact ⟨_, List.getElem_mem hgl, by simpa using he⟩
      rw [this]; simp
    · rw [Zcd (by omega)]
      exact hR (g + 1) _ _ (by omega) ⟨rfl, by omega, hS2, by rw [Zql hgl, hk]; simp [he]⟩
  · apply Zaz.A2x0i
    have : g = n := by omega
    subst this
    rw [List.take_of_length_le (by omega)] at hk
    exact ⟨⟨_, rfl, by rw [hk]; rfl⟩, hS⟩
theorem Zsg {h : Zaa} {a : Pt} {n c : Nat} {e : Bool} {cs : List Nd} {s : List Nat} (r : Row h.length h a (n * 2) (Zbv eP cs)) (hn : n ≤ 4611686018427387904) :
    Zae pg Zhy [.slice a n c e, .str s] h fun v h' => v = .bool (Zfi cs s) ∧ Zbd h.length h h' := by
  apply Zoq.call
  simp only [Zbf]
  apply Zcf.call
  have s1 : Zbd h.length h (h ++ [.cells Zdl [.str s] false]) := Zax
  refine (Zwb (r.same' s1) hn (s := s) (by rw [Zft]; rfl) (by simp)).mono ?_
  rintro v h2 ⟨⟨z, rfl, hz⟩, s2⟩
  simp only [Zbe, Zat]
  exact ⟨by rw [hz], s1.trans (s2.mono s1.le)⟩
theorem Zoe {h : Zaa} {a a1 : Pt} {n c n1 c1 : Nat} {e e1 : Bool} {cs : List Nd} {s : List Nat} (r : Row h.length h a (n * 2) (Zbv eP cs)) (hn : n ≤ 4611686018427387904) :
    Zae pg Zgg [.agg [.slice a n c e, .slice a1 n1 c1 e1], .str s] h fun v h' => v = .int .i64 (Ybk cs s) ∧ Zbd h.length h h' := by
  have hl : cs.length = n := by have := r.1; rw [Zaw Zdq] at this; omega
  apply Zge.call
  simp only [Zbf, Zft, Nat.add_zero, List.getElem?_cons_zero, Zaf]
  have s1 : Zbd h.length h (h ++ [.cells Zac [.slice a n c e, .slice a1 n1 c1 e1] false]) := Zax
  refine Zge.L2ind _ _ _ _ _ _ _ (J := fun (g : Nat) x10 h' => x10 = (g : Int) ∧ g ≤ n ∧ Zbd h.length h h' ∧ Zfi (cs.take g) s = false) (fun g => n - g) ?_ 0 _ _ ⟨rfl, by omega, s1, rfl⟩
  rintro g x8 h' ⟨rfl, hg, hS, hk⟩ R hR
  unfold Zge.L2t
  refine Zam (fun hlt => ?_) (fun hge => ?_)
  · obtain ⟨i, o, hgl, rfl, _, hr, _⟩ := (r.same hS).pr (k := g) (by omega)
    simp only [Zba, Int.toNat_natCast, hr, Zaq, Zah, Zap, Zal, Zbf]
    rw [Zlc]
    simp only [Zar, Zft, Nat.add_zero, List.getElem?_cons_zero, Zal]
    refine ⟨by omega, ?_⟩
    have hS2 : Zbd h.length h (h' ++ [.cells Zan [.str cs[g].1, .str cs[g].2] false]) := hS.trans (Zbd.app hS.le _)
    refine Zam (fun he => ?_) (fun he => ?_)
    · refine ⟨?_, hS2⟩
      have hkn : Zfi cs s = true := by unfold Zfi; rw [List.any_eq_true]; exact ⟨_, List.getElem_mem hgl, by simpa using he⟩
      unfold Ybk
      rw [hkn, if_pos rfl]
      congr 2
      symm
      rw [List.findIdx_eq hgl]
      refine ⟨by simpa using he, fun j hj => ?_⟩
      unfold Zfi at hk
      rw [List.any_eq_false] at hk
      have := hk cs[j] (List.mem_take_iff_getElem.2 ⟨j, by omega, rfl⟩)
      simpa using this
    · rw [Zcd (by omega)]
      exact hR (g + 1) _ _ (by omega) ⟨rfl, by omega, hS2, by rw [Zql hgl, hk]; simp [he]⟩
  · apply Zge.A2x0i
    have : g = n := by omega
    subst this
    rw [List.take_of_length_le (by omega)] at hk
    exact ⟨by unfold Ybk; rw [hk]; rfl, hS⟩

theorem Yap {s : List Nat} {g : Nat} {z : Int} (hg : g < s.length) (hz : z = ((g + 1 : Nat) : Int)) : sub s (g : Int) z = [s[g]] := by
  subst hz
  simp only [sub, Int.toNat_natCast]
  rw [List.take_succ_eq_append_getElem hg, List.drop_append_of_le_length (by simp; omega), List.drop_of_length_le (by rw [List.length_take]; exact Nat.min_le_left _ _), List.nil_append]
theorem Znx {g : Nat} (hg : 0 < g) (hn : g ≤ 9223372036854775807) : IntKind.wrap .i64 ((g : Int) - 1) = ((g - 1 : Nat) : Int) := by rw [IntWalk.i64_in _ (by omega)]; omega
theorem Zxg {cs : List Nd} {s : List Nat} {g : Nat} (hg : g < s.length) : Zqx cs s g = (Zfi cs [s[g]] && (g == 0 || decide (s.getD (g - 1) 0 < s[g]))) := by unfold Zqx; rw [Zgv hg]
theorem Zxk {cs : List Nd} {g : Nat} (hg : g < cs.length) : Zpx cs g = (Zoa cs[g].1 && (g == 0 || Zea (cs.getD (g - 1) ([], [])).1 cs[g].1) && Ztn (cs.take g) cs[g].2) := by unfold Zpx; rw [Zgv hg]
theorem Zht {cs : List Nd} {g : Nat} (hg : g < cs.length) (h : Zpx cs g = false) : Zgo cs = false := by unfold Zgo; rw [Zlb hg h]; rfl
theorem Zot {h : Zaa} {a a1 : Pt} {n c n1 c1 : Nat} {e e1 : Bool} {cs : List Nd} (r : Row h.length h a (n * 2) (Zbv eP cs)) (hc : n ≤ c) (hn : n ≤ 1048576) (hs : ∀ p ∈ cs, p.2.length ≤ 1048576) :
    Zae pg Zgj [.agg [.slice a n c e, .slice a1 n1 c1 e1]] h fun v h' => v = .bool (Zgo cs) ∧ Zbd h.length h h' := by
  have hl : cs.length = n := by have := r.1; rw [Zaw Zdq] at this; omega
  apply Zby.call
  simp only [Zbf, Zft, Nat.add_zero, List.getElem?_cons_zero, Zaf]
  have s1 : Zbd h.length h (h ++ [.cells Zac [.slice a n c e, .slice a1 n1 c1 e1] false]) := Zax
  have hw : (h ++ [Zck.cells Zac [.slice a n c e, .slice a1 n1 c1 e1] false])[h.length]? = some (.cells Zac [.slice a n c e, .slice a1 n1 c1 e1] false) := by simp
  refine Zby.L2ind _ _ _ _ _ _ _ _ (J := fun (g : Nat) x9 h' => x9 = (g : Int) ∧ g ≤ n ∧ Zbd h.length h h' ∧ h'[h.length]? = some (.cells Zac [.slice a n c e, .slice a1 n1 c1 e1] false) ∧ (List.range g).all (Zpx cs) = true) (fun g => n - g) ?_ 0 _ _ ⟨rfl, by omega, s1, hw, rfl⟩
  rintro g x9 h' ⟨rfl, hg, hS, hW, hk⟩ R hR
  unfold Zby.L2t
  refine Zam (fun hlt => ?_) (fun hge => ?_)
  · obtain ⟨i, o, hgl, rfl, hil, hr, _⟩ := (r.same hS).pr (k := g) (by omega)
    simp only [Zba, Int.toNat_natCast, hr, Zaq, Zah, Zap, Zal, Zbf]
    rw [Zlc]
    simp only [Zar, Zft, Nat.add_zero, List.getElem?_cons_zero, Zal]
    have hS2 : Zbd h.length h (h' ++ [.cells Zan [.str cs[g].1, .str cs[g].2] false]) := hS.trans (Zbd.app hS.le _)
    refine ⟨by omega, (Zzn _).mono ?_⟩
    rintro v h2 ⟨rfl, rfl⟩
    simp only [Zat, true_and]
    have hcl := Zxk hgl
    have hle := hS2.le
    have hWl := Own.lt hW
    have hW2 : (h' ++ [.cells Zan [.str cs[g].1, .str cs[g].2] false])[h.length]? = some (.cells Zac [.slice (some (i, o)) n c e, .slice a1 n1 c1 e1] false) := Zlw hW
    have hcell : ∀ o', Zai (h' ++ [.cells Zan [.str cs[g].1, .str cs[g].2] false]) (.ptr (some (h'.length, o'))) = ([.str cs[g].1, .str cs[g].2] : List Zag)[o']? := fun o' => Zft
    -- the classes above
    have key : (Zoa cs[g].1 && (g == 0 || Zea (cs.getD (g - 1) ([], [])).1 cs[g].1)) = true → Zby.J6 (fun v h' => v = .bool (Zgo cs) ∧ Zbd h.length h h') R h'.length 0 h.length 0 (g : Int) (some (i, o)) n c e (n : Int) (g : Int) (h' ++ [.cells Zan [.str cs[g].1, .str cs[g].2] false]) := by
      intro hpre
      rw [hpre, Bool.true_and] at hcl
      apply Zby.J6i
      rw [hcell]
      simp only [Nat.zero_add, List.getElem?_cons_succ, List.getElem?_cons_zero, Zal]
      have hsl := hs cs[g] (List.getElem_mem hgl)
      refine Zby.L7ind _ _ _ _ _ _ _ _ _ _ _ _ _ _ (J := fun (q : Nat) x37 h3 => x37 = (q : Int) ∧ q ≤ cs[g].2.length ∧ Zbd h.length h h3 ∧ h3[h.length]? = some (.cells Zac [.slice (some (i, o)) n c e, .slice a1 n1 c1 e1] false) ∧ h3[h'.length]? = some (.cells Zan [.str cs[g].1, .str cs[g].2] false) ∧ (List.range q).all (Zqx (cs.take g) cs[g].2) = true) (fun q => cs[g].2.length - q) ?_ 0 _ _ ⟨rfl, by omega, hS2, hW2, by simp, rfl⟩
      rintro q x37 h3 ⟨rfl, hq, hS3, hW3, hI3, hk3⟩ R7 hR7
      unfold Zby.L7t
      refine Zam (fun hlt3 => ?_) (fun hge3 => ?_)
      · have hq' : q < cs[g].2.length := by omega
        simp only [Nat.add_zero, Nat.zero_add, Zau hW3, Zau hI3, List.getElem?_cons_succ, List.getElem?_cons_zero, Zaf, Zal, true_and]
        refine Zxe (r.same hS3) hl (k := g) (by omega) hc rfl (fun a' c' e' hrow hc' => ?_)
        simp only [Zaf]
        rw [Zcd (by omega), Yap hq' rfl]
        refine ⟨⟨by omega, by omega, by omega⟩, (Zsg (hrow.mono hS3.le) (by omega)).mono ?_⟩
        rintro v h4 ⟨rfl, s4⟩
        have hS4 := hS3.trans (s4.mono hS3.le)
        have hW4 : h4[h.length]? = some (.cells Zac [.slice (some (i, o)) n c e, .slice a1 n1 c1 e1] false) := by rw [s4.eq _ (Own.lt hW3)]; exact hW3
        have hI4 : h4[h'.length]? = some (.cells Zan [.str cs[g].1, .str cs[g].2] false) := by rw [s4.eq _ (Own.lt hI3)]; exact hI3
        simp only [Zat, Zau hW3, Zau hW4, Zau hI4, Nat.add_zero, Nat.zero_add, List.getElem?_cons_succ, List.getElem?_cons_zero, Zal, true_and]
        have hsa := Zxg (cs := cs.take g) hq'
        have fail : Zqx (cs.take g) cs[g].2 q = false → (Zag.bool false = Zag.bool (Zgo cs) ∧ Zbd h.length h h4) := fun hf => ⟨by rw [Zht hgl (by rw [hcl]; unfold Ztn; exact Zlb hq' hf)], hS4⟩
        have next : Zqx (cs.take g) cs[g].2 q = true → R7 h.length 0 (g : Int) h'.length 0 (some (i, o)) n c e (n : Int) (g : Int) (cs[g].2.length : Int) (IntKind.wrap .i64 ((q : Int) + 1)) h4 := fun ht => by
          rw [Zcd (by omega)]
          exact hR7 (q + 1) _ _ (by omega) ⟨rfl, by omega, hS4, hW4, hI4, Zhv hk3 ht⟩
        refine Zcl (fun hb => fail (by rw [hsa, hb]; rfl)) (fun hb => ?_)
        refine Zam (fun h0 => ?_) (fun h0 => ?_)
        · have h0' : 0 < q := by omega
          rw [Znx h0' (by omega)]
          refine ⟨⟨by omega, by omega⟩, ⟨by omega, by omega⟩, ?_⟩
          simp only [Int.toNat_natCast]
          have hd1 : cs[g].2.getD q 0 = cs[g].2[q] := Zgv hq'
          have hq0 : (q == 0) = false := by simp; omega
          refine Zam (fun h1 => fail ?_) (fun h1 => Zby.J11i _ _ _ _ _ _ _ _ _ _ _ _ _ _ _ _ _ (next ?_))
          · rw [hsa, hb, hq0, ← hd1]; simp only [Bool.true_and, Bool.false_or, decide_eq_false_iff_not]; omega
          · rw [hsa, hb, hq0, ← hd1]; simp only [Bool.true_and, Bool.false_or, decide_eq_true_eq]; omega
        · have : q = 0 := by omega
          subst this
          exact Zby.J11i _ _ _ _ _ _ _ _ _ _ _ _ _ _ _ _ _ (next (by rw [hsa, hb]; rfl))
      · apply Zby.A7x2i
        apply Zby.J12i
        have : q = cs[g].2.length := by omega
        subst this
        rw [Zcd (by omega)]
        exact hR (g + 1) _ _ (by omega) ⟨rfl, by omega, hS3, hW3, Zhv hk (by rw [hcl]; exact hk3)⟩
    refine Zcl (fun hb => ⟨by rw [Zht hgl (by rw [hcl, hb]; rfl)], hS2⟩) (fun hb => ?_)
    refine Zam (fun h0 => ?_) (fun h0 => ?_)
    · have h0' : 0 < g := by omega
      rw [Zau hW2]
      simp only [List.getElem?_cons_zero, Zaf]
      rw [Znx h0' (by omega)]
      obtain ⟨i', o', hgl', heq, _, _, hc0, _⟩ := (r.same hS2).pr (k := g - 1) (by omega)
      cases heq
      simp only [Zba, Int.toNat_natCast, hc0, Zal, Nat.add_zero, Nat.zero_add, hcell, List.getElem?_cons_zero, true_and]
      refine ⟨by omega, ?_⟩
      have hg0 : (g == 0) = false := by simp; omega
      have hgd : cs.getD (g - 1) ([], []) = cs[g - 1] := Zgv hgl'
      refine Zcl (fun hb2 => ⟨by rw [Zht hgl (by rw [hcl, hb, hg0, hgd, hb2]; rfl)], hS2⟩) (fun hb2 => key (by rw [hb, hg0, hgd, hb2]; rfl))
    · have : g = 0 := by omega
      subst this
      exact key (by rw [hb]; rfl)
  · apply Zby.A2x0i
    have : g = n := by omega
    subst this
    have hok : Zgo cs = decide (1 ≤ g ∧ g ≤ 4) := by unfold Zgo; rw [hl, hk, Bool.true_and]
    simp only [Nat.add_zero, Zau hW, List.getElem?_cons_zero, Zaf]
    refine Zam (fun h1 => ?_) (fun h1 => ?_)
    · refine ⟨?_, hS⟩
      rw [hok]; congr 1; rw [Bool.eq_iff_iff]; simp; omega
    · refine ⟨?_, hS⟩
      rw [hok]; congr 1; symm; simp; omega
end Go.Sim

set_option linter.unusedVariables false
set_option linter.unusedSimpArgs false
set_option maxRecDepth 20000
namespace Go.Sim
open Go Go.RowKit
theorem Zou {h : Zaa} {a : Pt} {n c : Nat} {e : Bool} {cs : List Nd} (r : Row h.length h a (n * 2) (Zbv eP cs)) (hc : n ≤ c) (hn : n ≤ 1048576) (hs : ∀ p ∈ cs, p.2.length ≤ 1048576) (hb256 : ∀ p ∈ cs, ∀ b ∈ p.1, b < 256) :
    Zae pg Zgi [.slice a n c e] h fun v h' => v = .bool (Zgo cs) ∧ Zbd h.length h h' := by
  have hl : cs.length = n := by have := r.1; rw [Zaw Zdq] at this; omega
  apply Zbx.call
  refine Zbx.L2ind _ _ _ _ _ _ _ _ _ _ (J := fun (g : Nat) x9 h' => x9 = (g : Int) ∧ g ≤ n ∧ Zbd h.length h h' ∧ (List.range g).all (Zpx cs) = true) (fun g => n - g) ?_ 0 _ _ ⟨rfl, by omega, Zbd.refl _ _, rfl⟩
  rintro g x9 h' ⟨rfl, hg, hS, hk⟩ R hR
  unfold Zbx.L2t
  refine Zam (fun hlt => ?_) (fun hge => ?_)
  · obtain ⟨i, o, hgl, rfl, hil, hr, _⟩ := (r.same hS).pr (k := g) (by omega)
    simp only [Zba, Int.toNat_natCast, hr, Zaq, Zah, Zap, Zal, Zbf]
    rw [Zlc]
    simp only [Zar, Zft, Nat.add_zero, List.getElem?_cons_zero, Zal]
    have hS2 : Zbd h.length h (h' ++ [.cells Zan [.str cs[g].1, .str cs[g].2] false]) := hS.trans (Zbd.app hS.le _)
    refine ⟨by omega, (Zts _ (hb256 _ (List.getElem_mem hgl))).mono ?_⟩
    rintro v h2 ⟨rfl, rfl⟩
    simp only [Zat, true_and]
    have hcl := Zxk hgl
    have hle := hS2.le
    have hcell : ∀ o', Zai (h' ++ [.cells Zan [.str cs[g].1, .str cs[g].2] false]) (.ptr (some (h'.length, o'))) = ([.str cs[g].1, .str cs[g].2] : List Zag)[o']? := fun o' => Zft
    -- the classes above
    have key : (Zoa cs[g].1 && (g == 0 || Zea (cs.getD (g - 1) ([], [])).1 cs[g].1)) = true → Zbx.J6 (fun v h' => v = .bool (Zgo cs) ∧ Zbd h.length h h') R h'.length 0 (some (i, o)) n c e (g : Int) (some (i, o)) n c e (n : Int) (g : Int) (h' ++ [.cells Zan [.str cs[g].1, .str cs[g].2] false]) := by
      intro hpre
      rw [hpre, Bool.true_and] at hcl
      apply Zbx.J6i
      rw [hcell]
      simp only [Nat.zero_add, List.getElem?_cons_succ, List.getElem?_cons_zero, Zal]
      have hsl := hs cs[g] (List.getElem_mem hgl)
      refine Zbx.L7ind _ _ _ _ _ _ _ _ _ _ _ _ _ _ _ _ (J := fun (q : Nat) x37 h3 => x37 = (q : Int) ∧ q ≤ cs[g].2.length ∧ Zbd h.length h h3 ∧ h3[h'.length]? = some (.cells Zan [.str cs[g].1, .str cs[g].2] false) ∧ (List.range q).all (Zqx (cs.take g) cs[g].2) = true) (fun q => cs[g].2.length - q) ?_ 0 _ _ ⟨rfl, by omega, hS2, by simp, rfl⟩
      rintro q x37 h3 ⟨rfl, hq, hS3, hI3, hk3⟩ R7 hR7
      unfold Zbx.L7t
      refine Zam (fun hlt3 => ?_) (fun hge3 => ?_)
      · have hq' : q < cs[g].2.length := by omega
        simp only [Nat.add_zero, Nat.zero_add, Zau hI3, List.getElem?_cons_succ, List.getElem?_cons_zero, Zaf, Zal, true_and]
        refine Zxe (r.same hS3) hl (k := g) (by omega) hc rfl (fun a' c' e' hrow hc' => ?_)
        simp only [Zaf]
        rw [Zcd (by omega), Yap hq' rfl]
        refine ⟨⟨by omega, by omega, by omega⟩, (Zoe (hrow.mono hS3.le) (by omega)).mono ?_⟩
        rintro v h4 ⟨rfl, s4⟩
        have hS4 := hS3.trans (s4.mono hS3.le)
        have hI4 : h4[h'.length]? = some (.cells Zan [.str cs[g].1, .str cs[g].2] false) := by rw [s4.eq _ (Own.lt hI3)]; exact hI3
        simp only [Zbe, Zqp, Zau hI4, Nat.add_zero, Nat.zero_add, List.getElem?_cons_succ, List.getElem?_cons_zero, Zal, true_and]
        have hsa := Zxg (cs := cs.take g) hq'
        have fail : Zqx (cs.take g) cs[g].2 q = false → (Zag.bool false = Zag.bool (Zgo cs) ∧ Zbd h.length h h4) := fun hf => ⟨by rw [Zht hgl (by rw [hcl]; unfold Ztn; exact Zlb hq' hf)], hS4⟩
        have next : Zqx (cs.take g) cs[g].2 q = true → R7 (some (i, o)) n c e (g : Int) h'.length 0 (some (i, o)) n c e (n : Int) (g : Int) (cs[g].2.length : Int) (IntKind.wrap .i64 ((q : Int) + 1)) h4 := fun ht => by
          rw [Zcd (by omega)]
          exact hR7 (q + 1) _ _ (by omega) ⟨rfl, by omega, hS4, hI4, Zhv hk3 ht⟩
        refine Zcl (fun hb => fail (by rw [hsa, hb]; rfl)) (fun hb => ?_)
        refine Zam (fun h0 => ?_) (fun h0 => ?_)
        · have h0' : 0 < q := by omega
          rw [Znx h0' (by omega)]
          refine ⟨⟨by omega, by omega⟩, ⟨by omega, by omega⟩, ?_⟩
          simp only [Int.toNat_natCast]
          have hd1 : cs[g].2.getD q 0 = cs[g].2[q] := Zgv hq'
          have hq0 : (q == 0) = false := by simp; omega
          refine Zam (fun h1 => fail ?_) (fun h1 => Zbx.J11i _ _ _ _ _ _ _ _ _ _ _ _ _ _ _ _ _ _ _ (next ?_))
          · rw [hsa, hb, hq0, ← hd1]; simp only [Bool.true_and, Bool.false_or, decide_eq_false_iff_not]; omega
          · rw [hsa, hb, hq0, ← hd1]; simp only [Bool.true_and, Bool.false_or, decide_eq_true_eq]; omega
        · have : q = 0 := by omega
          subst this
          exact Zbx.J11i _ _ _ _ _ _ _ _ _ _ _ _ _ _ _ _ _ _ _ (next (by rw [hsa, hb]; rfl))
      · apply Zbx.A7x2i
        apply Zbx.J12i
        have : q = cs[g].2.length := by omega
        subst this
        rw [Zcd (by omega)]
        exact hR (g + 1) _ _ (by omega) ⟨rfl, by omega, hS3, Zhv hk (by rw [hcl]; exact hk3)⟩
    refine Zcl (fun hb => ⟨by rw [Zht hgl (by rw [hcl, hb]; rfl)], hS2⟩) (fun hb => ?_)
    refine Zam (fun h0 => ?_) (fun h0 => ?_)
    · have h0' : 0 < g := by omega
      rw [Znx h0' (by omega)]
      obtain ⟨i', o', hgl', heq, _, _, hc0, _⟩ := (r.same hS2).pr (k := g - 1) (by omega)
      cases heq
      simp only [Zba, Int.toNat_natCast, hc0, Zal, Nat.add_zero, Nat.zero_add, hcell, List.getElem?_cons_zero, true_and]
      refine ⟨by omega, ?_⟩
      have hg0 : (g == 0) = false := by simp; omega
      have hgd : cs.getD (g - 1) ([], []) = cs[g - 1] := Zgv hgl'
      refine Zcl (fun hb2 => ⟨by rw [Zht hgl (by rw [hcl, hb, hg0, hgd, hb2]; rfl)], hS2⟩) (fun hb2 => key (by rw [hb, hg0, hgd, hb2]; rfl))
    · have : g = 0 := by omega
      subst this
      exact key (by rw [hb]; rfl)
  · apply Zbx.A2x0i
    have : g = n := by omega
    subst this
    have hok : Zgo cs = decide (1 ≤ g ∧ g ≤ 4) := by unfold Zgo; rw [hl, hk, Bool.true_and]
    refine Zwa.mono ?_
    rintro v h2 ⟨rfl, rfl⟩
    simp only [Zat]
    refine ⟨?_, hS⟩
    rw [hok]; congr 1; rw [Bool.eq_iff_iff]; simp; omega
end Go.Sim

set_option linter.unusedVariables false
set_option linter.unusedSimpArgs false
set_option maxRecDepth 20000
namespace Go.Sim
open Go Go.RowKit

theorem Yfw (c : Nat) : decide (c ∈ [120, 121, 122, 88, 89, 90]) = Zgr c := by rw [Bool.eq_iff_iff]; simp [Zgr, or_assoc]
theorem Yda {h : Zaa} (s : List Nat) : Zae pg Zlq [.str s] h fun v h' => v = .bool (Znv s) ∧ h' = h := by
  apply Zox.call
  match s with
  | [] => exact Zfr (fun h1 => by simp at h1) (fun h1 => ⟨rfl, rfl⟩)
  | [c] =>
    refine Zfr (fun h1 => ?_) (fun h1 => by simp at h1)
    refine Zjc.mono ?_
    rintro v h' ⟨rfl, rfl⟩
    simp only [Zat]
    exact ⟨by rw [Yfw]; rfl, by trivial⟩
  | c :: d :: r => exact Zfr (fun h1 => by simp at h1; omega) (fun h1 => ⟨rfl, rfl⟩)
theorem Zng {h : Zaa} (c : Nat) : Zae pg Zfu [.int .u8 (c : Int)] h fun v h' => v = .bool (Zgr c) ∧ h' = h := by
  apply Zkj.call
  refine (Zvq _ c (by simp)).mono ?_
  rintro v h' ⟨rfl, rfl⟩
  simp only [Zbe]
  exact ⟨by rw [Yfr], by trivial⟩
noncomputable def Yew (s v : List Nat) : Int := if Zpe s && Znv v then (s.count (v.headD 0) : Nat) else -1
theorem Zva {h : Zaa} (s v : List Nat) (hs : s.length ≤ 1048576) : Zae pg Zir [.str s, .str v] h fun x h' => x = .int .i64 (Yew s v) ∧ Zbd h.length h h' := by
  apply Zdo.call
  refine (Zkl s (by omega) h).mono ?_
  rintro x h1 ⟨rfl, s1⟩
  simp only [Zat]
  refine Zcl (fun hb => ⟨by unfold Yew; rw [hb]; rfl, s1⟩) (fun hb => ?_)
  match v with
  | [] => exact Zhr (fun _ => ⟨by unfold Yew; rw [hb]; rfl, s1⟩) (fun h1 => by simp at h1)
  | c :: d :: r => exact Zhr (fun _ => ⟨by unfold Yew; rw [hb]; rfl, s1⟩) (fun h1 => by simp at h1; omega)
  | [c] =>
    refine Zhr (fun h1 => by simp at h1) (fun _ => ?_)
    refine ⟨⟨by omega, by simp⟩, ?_⟩
    simp only [Int.toNat_zero, List.getD_cons_zero]
    refine (Zng c).mono ?_
    rintro x h2 ⟨rfl, rfl⟩
    simp only [Zat]
    refine Zcl (fun hv => ⟨by unfold Yew; rw [hb, show Znv [c] = Zgr c from rfl, hv]; rfl, s1⟩) (fun hv => ?_)
    apply Zdo.J3i
    refine Zdo.L5ind _ _ _ _ (J := fun (g : Nat) x5 x23 h' => x23 = (g : Int) ∧ g ≤ s.length ∧ x5 = ((s.take g).count c : Nat) ∧ h' = h2) (fun g => s.length - g) ?_ 0 _ _ _ ⟨rfl, by omega, by simp, rfl⟩
    rintro g x5 x23 h' ⟨rfl, hg, rfl, rfl⟩ R hR
    unfold Zdo.L5t
    refine Zam (fun hlt => ?_) (fun hge => ?_)
    · have hg' : g < s.length := by omega
      refine ⟨⟨by omega, by omega⟩, ⟨by omega, by simp⟩, ?_⟩
      simp only [Int.toNat_zero, List.getD_cons_zero, Int.toNat_natCast, Zgv hg']
      have hc := List.count_le_length (a := c) (l := s.take g)
      rw [List.length_take] at hc
      have htk : (s.take (g + 1)).count c = (s.take g).count c + if s[g] = c then 1 else 0 := by
        rw [List.take_succ_eq_append_getElem hg', List.count_append]; simp [List.count_cons]
      refine Zfr (fun he => ?_) (fun he => ?_)
      · apply Zdo.J9i
        rw [Zcd (by omega), Zcd (by omega)]
        exact hR (g + 1) _ _ _ (by omega) ⟨rfl, by omega, by rw [htk, if_pos (by omega)], rfl⟩
      · apply Zdo.J9i
        rw [Zcd (by omega)]
        exact hR (g + 1) _ _ _ (by omega) ⟨rfl, by omega, by rw [htk, if_neg (by omega)]; rfl, rfl⟩
    · apply Zdo.A5x0i
      have : g = s.length := by omega
      subst this
      rw [List.take_length]
      refine ⟨?_, s1⟩
      unfold Yew
      rw [hb, show Znv [c] = Zgr c from rfl, hv]; rfl
theorem Zrr {h : Zaa} (s : List Nat) (hs : s.length ≤ 1048576) : Zae pg Zil [.str s] h fun v h' => v = .str (if Zpe s = true then Zna s else []) ∧ Zbd h.length h h' := by
  apply Zeq.call
  simp only [Zbf]
  have hlist : (h ++ [Zck.cells Zdl [.str [88], .str [89], .str [90], .str [120], .str [121], .str [122]] false])[h.length]? = some (.cells Zdl [.str [88], .str [89], .str [90], .str [120], .str [121], .str [122]] false) := by simp
  refine Zeq.L3ind _ _ _ _ _ _ _ (J := fun (g : Nat) x3 x8 h' => x8 = (g : Int) ∧ g ≤ 6 ∧ Zbd h.length h h' ∧ h'[h.length]? = some (.cells Zdl [.str [88], .str [89], .str [90], .str [120], .str [121], .str [122]] false) ∧ x3 = if Zpe s = true then (Zhs.take g).filter fun v => decide (v ∈ s) else []) (fun g => 6 - g) ?_ 0 _ _ _
    ⟨rfl, by omega, Zax, hlist, by simp⟩
  rintro g x3 x8 h' ⟨rfl, hg, hS, hl, rfl⟩ R hR
  unfold Zeq.L3t
  refine Zam (fun hlt => ?_) (fun hge => ?_)
  · have hlt' : g < 6 := by omega
    have hc : ∃ c, Zhs[g]? = some c ∧ Zgr c = true ∧ Zai h' (.ptr (some (h.length, 0 + (g : Int).toNat * 1))) = some (.str [c]) := by
      rw [Zau hl, Int.toNat_natCast]
      match g, hlt' with
      | 0, _ | 1, _ | 2, _ | 3, _ | 4, _ | 5, _ => exact ⟨_, rfl, rfl, rfl⟩
    obtain ⟨c, hc1, hcv, hc2⟩ := hc
    simp only [Zba, hc2, Zal]
    refine ⟨by omega, (Zva s [c] hs).mono ?_⟩
    rintro v h2 ⟨rfl, s2⟩
    simp only [Zbe]
    have htk : Zhs.take (g + 1) = Zhs.take g ++ [c] := by rw [List.take_succ, hc1]; rfl
    have hS2 := hS.trans (s2.mono hS.le)
    have hl2 : h2[h.length]? = some (.cells Zdl [.str [88], .str [89], .str [90], .str [120], .str [121], .str [122]] false) := by rw [s2.eq _ (Own.lt hl)]; exact hl
    have hcn : decide (Yew s [c] > 0) = (Zpe s && decide (c ∈ s)) := by
      unfold Yew
      rw [show Znv [c] = Zgr c from rfl, hcv]
      cases hb : Zpe s with
      | false => rfl
      | true =>
        simp only [Bool.and_self, if_true, Bool.true_and, List.headD_cons]
        rw [Bool.eq_iff_iff]; simp [List.count_pos_iff]
    have hbd : (if Zpe s = true then (Zhs.take g).filter fun v => decide (v ∈ s) else []).length ≤ 6 := by
      split
      · exact Nat.le_trans (List.length_filter_le _ _) (by simp; omega)
      · simp
    rw [hcn]
    refine Zgl (fun hb => ?_) (fun hb => ?_)
    · simp only [Bool.and_eq_true] at hb
      refine ⟨by simp only [List.length_cons, List.length_nil]; omega, ?_⟩
      apply Zeq.J7i
      rw [Zcd (by omega)]
      refine hR (g + 1) _ _ _ (by omega) ⟨rfl, by omega, hS2, hl2, ?_⟩
      rw [if_pos hb.1, if_pos hb.1, htk, List.filter_append]; simp [hb.2]
    · apply Zeq.J7i
      rw [Zcd (by omega)]
      refine hR (g + 1) _ _ _ (by omega) ⟨rfl, by omega, hS2, hl2, ?_⟩
      cases ht : Zpe s with
      | false => simp
      | true => rw [ht, Bool.true_and] at hb; rw [htk, List.filter_append]; simp; simpa using hb
  · apply Zeq.A3x0i
    have : g = 6 := by omega
    subst this
    exact ⟨rfl, hS⟩
theorem Yba {h : Zaa} (x y : List Nat) (hx : x.length ≤ 1048576) (hy : y.length ≤ 1048576) : Zae pg Ziw [.str x, .str y] h fun v h' => v = .bool (x.all fun c => decide (c ∈ y)) ∧ h' = h := by
  apply Zfk.call
  refine Zfk.L2ind _ _ _ _ (J := fun (g : Nat) x8 h' => x8 = (g : Int) ∧ g ≤ x.length ∧ h' = h ∧ (x.take g).all (fun c => decide (c ∈ y)) = true) (fun g => x.length - g) ?_ 0 _ _ ⟨rfl, by omega, rfl, by simp⟩
  rintro g x8 h' ⟨rfl, hg, rfl, hk⟩ R hR
  unfold Zfk.L2t
  refine Zam (fun hlt => ?_) (fun hge => ?_)
  · have hg' : g < x.length := by omega
    refine ⟨⟨by omega, by omega⟩, ?_⟩
    simp only [Int.toNat_natCast, Zgv hg']
    refine (Zvq y x[g] (by omega)).mono ?_
    rintro v h2 ⟨rfl, rfl⟩
    simp only [Zbe]
    have hix : decide (Zoy y x[g] < 0) = !decide (x[g] ∈ y) := by
      by_cases hm : x[g] ∈ y
      · have := (Zsr y x[g]).2 hm
        simp [hm]; omega
      · rw [Zsn hm]; simp [hm]
    rw [hix]
    refine Zcl (fun hb => ⟨by rw [Zon hg' hb], by trivial⟩) (fun hb => ?_)
    rw [Zcd (by omega)]
    exact hR (g + 1) _ _ (by omega) ⟨rfl, by omega, rfl, Zfv hg' hk hb⟩
  · apply Zfk.A2x0i
    have : g = x.length := by omega
    subst this
    rw [List.take_length] at hk
    exact ⟨by rw [hk], by trivial⟩

theorem Zxc {cs : List Nd} {ct tt : List Nat} {ns : List Nd} (h1 : Zgo cs = true) (h2 : Zfi cs ct = true) (h3 : Zpe tt = true) (h4 : tt.length ≤ 20) (h5 : Znv tt = false) (h6 : ns.length ≤ 3) : Zjn cs ((ct, tt), ns) = ns.all (Zhh cs tt) := by
  unfold Zjn; simp [h1, h2, h3, h4, h5, h6]
theorem Zpb {h : Zaa} {a a1 a2 : Pt} {n c n1 c1 n2 c2 : Nat} {e e1 e2 : Bool} {cs ns : List Nd} {ct tt : List Nat} (r : Row h.length h a (n * 2) (Zbv eP cs)) (hc : n ≤ c) (hn : n ≤ 1048576) (hs : ∀ p ∈ cs, p.2.length ≤ 1048576)
    (r2 : Row h.length h a2 (n2 * 2) (Zbv eP ns)) (hn2 : n2 ≤ 1048576) (hns : ∀ p ∈ ns, p.2.length ≤ 1048576) (htt : tt.length ≤ 1048576) :
    Zae pg Zfy [.agg [.slice a n c e, .slice a1 n1 c1 e1], .agg [.str ct, .str tt, .slice a2 n2 c2 e2]] h fun v h' => v = .bool (Zjn cs ((ct, tt), ns)) ∧ Zbd h.length h h' := by
  have hl : cs.length = n := by have := r.1; rw [Zaw Zdq] at this; omega
  have hl2 : ns.length = n2 := by have := r2.1; rw [Zaw Zdq] at this; omega
  apply Zbq.call
  simp only [Zbf]
  generalize hh0 : h ++ [Zck.cells Zac [.slice a n c e, .slice a1 n1 c1 e1] false] = h0
  generalize hh1 : h0 ++ [Zck.cells Zab [.str ct, .str tt, .slice a2 n2 c2 e2] false] = h1
  have s0 : Zbd h.length h h0 := by rw [← hh0]; exact Zax
  have s01 : Zbd h0.length h0 h1 := by rw [← hh1]; exact Zax
  have s1 : Zbd h.length h h1 := s0.trans (s01.mono s0.le)
  have hl0 : h0.length = h.length + 1 := by rw [← hh0]; simp
  have hl1 : h1.length = h.length + 2 := by rw [← hh1]; simp [hl0]
  have w1 : h1[h.length]? = some (.cells Zac [.slice a n c e, .slice a1 n1 c1 e1] false) := by rw [← hh1, Zvb (by omega), ← hh0]; simp
  have i1 : h1[h0.length]? = some (.cells Zab [.str ct, .str tt, .slice a2 n2 c2 e2] false) := by rw [← hh1]; simp
  rw [Zha w1 (by simp)]
  simp only [List.drop_zero, List.take_succ_cons, List.take_zero, Zaq, Zah, Zaf, Zap]
  refine (Zot (r.same' s1) hc hn hs).mono ?_
  rintro v h2 ⟨rfl, s2⟩
  have S2 : Zbd h.length h h2 := s1.trans (s2.mono (by omega))
  have w2 : h2[h.length]? = some (.cells Zac [.slice a n c e, .slice a1 n1 c1 e1] false) := by rw [s2.eq _ (by omega)]; exact w1
  have i2 : h2[h0.length]? = some (.cells Zab [.str ct, .str tt, .slice a2 n2 c2 e2] false) := by rw [s2.eq _ (by omega)]; exact i1
  simp only [Zat]
  refine Zcl (fun hb => ⟨by unfold Zjn; rw [hb]; rfl, S2⟩) (fun b1 => ?_)
  simp only [Nat.add_zero, Nat.zero_add, Zau w2, Zau i2, List.getElem?_cons_succ, List.getElem?_cons_zero, Zaf, Zal]
  refine (Zsg (r.same' S2) (by omega)).mono ?_
  rintro v h3 ⟨rfl, s3⟩
  have hle2 := s2.le
  have S3 : Zbd h.length h h3 := S2.trans (s3.mono S2.le)
  have i3 : h3[h0.length]? = some (.cells Zab [.str ct, .str tt, .slice a2 n2 c2 e2] false) := by rw [s3.eq _ (by omega)]; exact i2
  have w3 : h3[h.length]? = some (.cells Zac [.slice a n c e, .slice a1 n1 c1 e1] false) := by rw [s3.eq _ (by omega)]; exact w2
  simp only [Zat]
  refine Zcl (fun hb => ⟨by unfold Zjn; rw [b1, hb]; rfl, S3⟩) (fun b2 => ?_)
  simp only [Zau i3, List.getElem?_cons_succ, List.getElem?_cons_zero, Zal]
  refine (Zop tt h3).mono ?_
  rintro v h4 ⟨rfl, s4⟩
  have hle3 := s3.le
  have S4 : Zbd h.length h h4 := S3.trans (s4.mono S3.le)
  have i4 : h4[h0.length]? = some (.cells Zab [.str ct, .str tt, .slice a2 n2 c2 e2] false) := by rw [s4.eq _ (by omega)]; exact i3
  have w4 : h4[h.length]? = some (.cells Zac [.slice a n c e, .slice a1 n1 c1 e1] false) := by rw [s4.eq _ (by omega)]; exact w3
  simp only [Zat]
  refine Zcl (fun hb => ⟨by unfold Zjn; rw [b1, b2, hb]; rfl, S4⟩) (fun b3 => ?_)
  simp only [Zau i4, List.getElem?_cons_succ, List.getElem?_cons_zero, Zal]
  refine Zam (fun hb => ⟨by unfold Zjn; rw [b1, b2, b3]; simp [show ¬ tt.length ≤ 20 by omega], S4⟩) (fun b4 => ?_)
  refine (Yda tt).mono ?_
  rintro v h5 ⟨rfl, rfl⟩
  simp only [Zat]
  refine Zgl (fun hb => ⟨by unfold Zjn; rw [hb]; simp, S4⟩) (fun b5 => ?_)
  simp only [Zau i4, List.getElem?_cons_succ, List.getElem?_cons_zero, Zaf]
  refine Zam (fun hb => ⟨by unfold Zjn; simp [show ¬ ns.length ≤ 3 by omega], S4⟩) (fun b6 => ?_)
  rw [Zxc b1 b2 b3 (by omega) b5 (by omega)]
  apply Zbq.J3i
  simp only [Nat.zero_add, Zau i4, List.getElem?_cons_succ, List.getElem?_cons_zero, Zaf]
  have hle4 := s4.le
  refine Zbq.L4ind _ _ _ _ _ _ _ _ _ _ (J := fun (g : Nat) x50 h' => x50 = (g : Int) ∧ g ≤ n2 ∧ Zbd h5.length h5 h' ∧ (ns.take g).all (Zhh cs tt) = true) (fun g => n2 - g) ?_ 0 _ _ ⟨rfl, by omega, Zbd.refl _ _, rfl⟩
  rintro g x50 h' ⟨rfl, hg, hS, hk⟩ R hR
  have SS : Zbd h.length h h' := S4.trans (hS.mono S4.le)
  unfold Zbq.L4t
  refine Zam (fun hlt => ?_) (fun hge => ?_)
  · obtain ⟨i, o, hgl, rfl, hil, hr, _⟩ := (r2.same SS).pr (k := g) (by omega)
    simp only [Zba, Int.toNat_natCast, hr, Zaq, Zah, Zap, Zal, Zbf]
    rw [Zlc]
    have hlh := hS.le
    generalize hq : h' ++ [Zck.cells Zao [.str ns[g].1, .str ns[g].2] false] = hq'
    have sq : Zbd h'.length h' hq' := by rw [← hq]; exact Zax
    have hql : hq'.length = h'.length + 1 := by rw [← hq]; simp
    have nq : hq'[h'.length]? = some (.cells Zao [.str ns[g].1, .str ns[g].2] false) := by rw [← hq]; simp
    have wq : hq'[h.length]? = some (.cells Zac [.slice a n c e, .slice a1 n1 c1 e1] false) := by rw [sq.eq _ (by omega), hS.eq _ (by omega)]; exact w4
    have iq : hq'[h0.length]? = some (.cells Zab [.str ct, .str tt, .slice (some (i, o)) n2 c2 e2] false) := by rw [sq.eq _ (by omega), hS.eq _ (by omega)]; exact i4
    simp only [Zar, Nat.add_zero, Nat.zero_add, Zau wq, Zau nq, List.getElem?_cons_succ, List.getElem?_cons_zero, Zaf, Zal]
    have Sq : Zbd h.length h hq' := SS.trans (sq.mono SS.le)
    refine ⟨by omega, (Zsg (r.same' Sq) (by omega)).mono ?_⟩
    rintro v k3 ⟨rfl, t3⟩
    have T3 := Sq.trans (t3.mono Sq.le)
    have n3 : k3[h'.length]? = some (.cells Zao [.str ns[g].1, .str ns[g].2] false) := by rw [t3.eq _ (by omega)]; exact nq
    simp only [Zat]
    have fail : ∀ hx, Zbd h.length h hx → Zhh cs tt ns[g] = false → (Zag.bool false = Zag.bool (ns.all (Zhh cs tt)) ∧ Zbd h.length h hx) := fun hx hs hf => ⟨by rw [Zon hgl hf], hs⟩
    refine Zcl (fun hb => fail _ T3 (by unfold Zhh; rw [hb]; rfl)) (fun m1 => ?_)
    simp only [Zau n3, List.getElem?_cons_succ, List.getElem?_cons_zero, Zal]
    refine (Zop _ k3).mono ?_
    rintro v k4 ⟨rfl, t4⟩
    have ht3 := t3.le
    have T4 := T3.trans (t4.mono T3.le)
    have n4 : k4[h'.length]? = some (.cells Zao [.str ns[g].1, .str ns[g].2] false) := by rw [t4.eq _ (by omega)]; exact n3
    simp only [Zat]
    refine Zcl (fun hb => fail _ T4 (by unfold Zhh; rw [m1, hb]; rfl)) (fun m2 => ?_)
    simp only [Zau n4, List.getElem?_cons_succ, List.getElem?_cons_zero, Zal]
    refine Zam (fun hb => fail _ T4 (by unfold Zhh; simp [show ¬ ns[g].2.length ≤ 20 by omega])) (fun m3 => ?_)
    apply Zbq.J8i
    simp only [Nat.zero_add, Zau n4, List.getElem?_cons_succ, List.getElem?_cons_zero, Zal]
    refine (Yfl _ k4).mono ?_
    rintro v k5 ⟨t5, av, nv, cv, ev, rfl, hrow⟩
    simp only [Zaf]
    have ht4 := t4.le
    have ht5 := t5.le
    have T5 := T4.trans (t5.mono T4.le)
    have hvl : (Zna ns[g].2).length = nv := by have := hrow.1; simpa using this
    have hv6 : (Zna ns[g].2).length ≤ 6 := List.length_filter_le _ _
    have hni : Zhh cs tt ns[g] = (Zna ns[g].2).all fun v => decide (v ∈ tt) := by unfold Zhh; rw [m1, m2]; simp [show ns[g].2.length ≤ 20 by omega]
    have i5 : k5[h0.length]? = some (.cells Zab [.str ct, .str tt, .slice (some (i, o)) n2 c2 e2] false) := by rw [t5.eq _ (by omega), t4.eq _ (by omega), t3.eq _ (by omega)]; exact iq
    refine Zbq.L9ind _ _ _ _ _ _ _ _ _ _ _ _ _ _ _ _ _ (J := fun (q : Nat) x76 h6 => x76 = (q : Int) ∧ q ≤ nv ∧ h6 = k5 ∧ ((Zna ns[g].2).take q).all (fun v => decide (v ∈ tt)) = true) (fun q => nv - q) ?_ 0 _ _ ⟨rfl, by omega, rfl, rfl⟩
    rintro q x76 h6 ⟨rfl, hq6, rfl, hk6⟩ R9 hR9
    unfold Zbq.L9t
    refine Zam (fun hlt6 => ?_) (fun hge6 => ?_)
    · obtain ⟨iv, ov, rfl, _, hcv⟩ := hrow.at (k := q) (by omega)
      rw [Zwv, List.getElem?_map, List.getElem?_eq_getElem (show q < (Zna ns[g].2).length by omega)] at hcv
      simp only [Option.map_some] at hcv
      simp only [Zba, Int.toNat_natCast, Nat.mul_one, hcv, Zal, Nat.add_zero, Nat.zero_add, Zau i5, List.getElem?_cons_succ, List.getElem?_cons_zero, one]
      refine ⟨by omega, Zjc.mono ?_⟩
      rintro v k7 ⟨rfl, rfl⟩
      simp only [Zat]
      refine Zcl (fun hb => fail _ T5 (by rw [hni]; exact Zon (by omega) hb)) (fun d1 => ?_)
      rw [Zcd (by omega)]
      exact hR9 (q + 1) _ _ (by omega) ⟨rfl, by omega, rfl, Zfv (by omega) hk6 d1⟩
    · apply Zbq.A9x2i
      apply Zbq.J14i
      have : q = nv := by omega
      subst this
      rw [List.take_of_length_le (by omega)] at hk6
      rw [Zcd (by omega)]
      refine hR (g + 1) _ _ (by omega) ⟨rfl, by omega, ?_, Zfv hgl hk (by rw [hni]; exact hk6)⟩
      exact hS.trans ((sq.mono hS.le).trans ((t3.mono (by omega)).trans ((t4.mono (by omega)).trans (t5.mono (by omega)))))
  · apply Zbq.A4x0i
    have : g = n2 := by omega
    subst this
    rw [List.take_of_length_le (by omega)] at hk
    exact ⟨by rw [hk], SS⟩
end Go.Sim

set_option linter.unusedVariables false
set_option linter.unusedSimpArgs false
set_option maxRecDepth 20000
namespace Go.Sim
open Go Go.RowKit

theorem Zvu (x t : List Nat) : ((Zna x).all fun c => decide (c ∈ Zna t)) = (Zna x).all fun c => decide (c ∈ t) := by
  rw [Bool.eq_iff_iff, List.all_eq_true, List.all_eq_true]
  constructor
  · intro h c hc
    have := h c hc
    simp only [Zna, decide_eq_true_eq, List.mem_filter] at this ⊢
    exact this.2
  · intro h c hc
    have h1 := h c hc
    have hv : c ∈ Zhs := (List.mem_filter.1 hc).1
    simp only [Zna, decide_eq_true_eq, List.mem_filter] at h1 ⊢
    exact ⟨hv, h1⟩
theorem Zoh {h : Zaa} {a a1 a2 : Pt} {n c n1 c1 n2 c2 : Nat} {e e1 e2 : Bool} {cs ns : List Nd} {ct tt : List Nat} (r : Row h.length h a (n * 2) (Zbv eP cs)) (hc : n ≤ c) (hn : n ≤ 1048576) (hs : ∀ p ∈ cs, p.2.length ≤ 1048576) (hb256 : ∀ p ∈ cs, ∀ b ∈ p.1, b < 256)
    (r2 : Row h.length h a2 (n2 * 2) (Zbv eP ns)) (hn2 : n2 ≤ 1048576) (hns : ∀ p ∈ ns, p.2.length ≤ 1048576) (htt : tt.length ≤ 1048576) :
    Zae pg Zfx [.agg [.slice a n c e, .slice a1 n1 c1 e1], .agg [.str ct, .str tt, .slice a2 n2 c2 e2]] h fun v h' => v = .bool (Zjn cs ((ct, tt), ns)) ∧ Zbd h.length h h' := by
  have hl : cs.length = n := by have := r.1; rw [Zaw Zdq] at this; omega
  have hl2 : ns.length = n2 := by have := r2.1; rw [Zaw Zdq] at this; omega
  apply Zcu.call
  simp only [Zbf]
  generalize hh0 : h ++ [Zck.cells Zac [.slice a n c e, .slice a1 n1 c1 e1] false] = h0
  generalize hh1 : h0 ++ [Zck.cells Zab [.str ct, .str tt, .slice a2 n2 c2 e2] false] = h1
  have s0 : Zbd h.length h h0 := by rw [← hh0]; exact Zax
  have s01 : Zbd h0.length h0 h1 := by rw [← hh1]; exact Zax
  have s1 : Zbd h.length h h1 := s0.trans (s01.mono s0.le)
  have hl0 : h0.length = h.length + 1 := by rw [← hh0]; simp
  have hl1 : h1.length = h.length + 2 := by rw [← hh1]; simp [hl0]
  have w1 : h1[h.length]? = some (.cells Zac [.slice a n c e, .slice a1 n1 c1 e1] false) := by rw [← hh1, Zvb (by omega), ← hh0]; simp
  have i1 : h1[h0.length]? = some (.cells Zab [.str ct, .str tt, .slice a2 n2 c2 e2] false) := by rw [← hh1]; simp
  simp only [Nat.add_zero, Zau w1, List.getElem?_cons_zero, Zaf]
  refine (Zou (r.same' s1) hc hn hs hb256).mono ?_
  rintro v h2 ⟨rfl, s2⟩
  have S2 : Zbd h.length h h2 := s1.trans (s2.mono (by omega))
  have w2 : h2[h.length]? = some (.cells Zac [.slice a n c e, .slice a1 n1 c1 e1] false) := by rw [s2.eq _ (by omega)]; exact w1
  have i2 : h2[h0.length]? = some (.cells Zab [.str ct, .str tt, .slice a2 n2 c2 e2] false) := by rw [s2.eq _ (by omega)]; exact i1
  simp only [Zat]
  refine Zcl (fun hb => ⟨by unfold Zjn; rw [hb]; rfl, S2⟩) (fun b1 => ?_)
  rw [Zha w2 (by simp)]
  simp only [List.drop_zero, List.take_succ_cons, List.take_zero, Zaq, Zah, Zap, Nat.zero_add, Zau i2, List.getElem?_cons_succ, List.getElem?_cons_zero, Zaf, Zal]
  refine (Zoe (r.same' S2) (by omega)).mono ?_
  rintro v h3 ⟨rfl, s3⟩
  have hle2 := s2.le
  have S3 : Zbd h.length h h3 := S2.trans (s3.mono S2.le)
  have i3 : h3[h0.length]? = some (.cells Zab [.str ct, .str tt, .slice a2 n2 c2 e2] false) := by rw [s3.eq _ (by omega)]; exact i2
  have w3 : h3[h.length]? = some (.cells Zac [.slice a n c e, .slice a1 n1 c1 e1] false) := by rw [s3.eq _ (by omega)]; exact w2
  simp only [Zbe, Zqp]
  refine Zcl (fun hb => ⟨by unfold Zjn; rw [b1, hb]; rfl, S3⟩) (fun b2 => ?_)
  simp only [Zau i3, List.getElem?_cons_succ, List.getElem?_cons_zero, Zal]
  refine (Zkl tt (by omega) h3).mono ?_
  rintro v h4 ⟨rfl, s4⟩
  have hle3 := s3.le
  have S4 : Zbd h.length h h4 := S3.trans (s4.mono S3.le)
  have i4 : h4[h0.length]? = some (.cells Zab [.str ct, .str tt, .slice a2 n2 c2 e2] false) := by rw [s4.eq _ (by omega)]; exact i3
  have w4 : h4[h.length]? = some (.cells Zac [.slice a n c e, .slice a1 n1 c1 e1] false) := by rw [s4.eq _ (by omega)]; exact w3
  simp only [Zat]
  refine Zcl (fun hb => ⟨by unfold Zjn; rw [b1, b2, hb]; rfl, S4⟩) (fun b3 => ?_)
  simp only [Zau i4, List.getElem?_cons_succ, List.getElem?_cons_zero, Zal]
  refine Zam (fun hb => ⟨by unfold Zjn; rw [b1, b2, b3]; simp [show ¬ tt.length ≤ 20 by omega], S4⟩) (fun b4 => ?_)
  have hvh := Yie b3
  have hne := Ygr b3
  have htl : 0 < tt.length := by cases tt with | nil => exact absurd rfl hne | cons => simp
  refine ⟨⟨by omega, by omega⟩, ?_⟩
  have hgd : tt.getD (Int.toNat 0) 0 = tt.headD 0 := by cases tt <;> rfl
  rw [hgd]
  refine (Zng _).mono ?_
  rintro v h5 ⟨rfl, rfl⟩
  simp only [Zat, ← hvh]
  refine Zgl (fun hb => ⟨by unfold Zjn; rw [hb]; simp, S4⟩) (fun b5 => ?_)
  simp only [Zau i4, List.getElem?_cons_succ, List.getElem?_cons_zero, Zaf]
  refine Zam (fun hb => ⟨by unfold Zjn; simp [show ¬ ns.length ≤ 3 by omega], S4⟩) (fun b6 => ?_)
  rw [Zxc b1 b2 b3 (by omega) b5 (by omega)]
  apply Zcu.J3i
  simp only [Nat.zero_add, Zau i4, List.getElem?_cons_succ, List.getElem?_cons_zero, Zaf]
  have hle4 := s4.le
  refine Zcu.L4ind _ _ _ _ _ _ _ _ _ _ (J := fun (g : Nat) x50 h' => x50 = (g : Int) ∧ g ≤ n2 ∧ Zbd h5.length h5 h' ∧ (ns.take g).all (Zhh cs tt) = true) (fun g => n2 - g) ?_ 0 _ _ ⟨rfl, by omega, Zbd.refl _ _, rfl⟩
  rintro g x50 h' ⟨rfl, hg, hS, hk⟩ R hR
  have SS : Zbd h.length h h' := S4.trans (hS.mono S4.le)
  unfold Zcu.L4t
  refine Zam (fun hlt => ?_) (fun hge => ?_)
  · obtain ⟨i, o, hgl, rfl, hil, hr, _⟩ := (r2.same SS).pr (k := g) (by omega)
    simp only [Zba, Int.toNat_natCast, hr, Zaq, Zah, Zap, Zal, Zbf]
    rw [Zlc]
    have hlh := hS.le
    generalize hq : h' ++ [Zck.cells Zao [.str ns[g].1, .str ns[g].2] false] = hq'
    have sq : Zbd h'.length h' hq' := by rw [← hq]; exact Zax
    have hql : hq'.length = h'.length + 1 := by rw [← hq]; simp
    have nq : hq'[h'.length]? = some (.cells Zao [.str ns[g].1, .str ns[g].2] false) := by rw [← hq]; simp
    have wq : hq'[h.length]? = some (.cells Zac [.slice a n c e, .slice a1 n1 c1 e1] false) := by rw [sq.eq _ (by omega), hS.eq _ (by omega)]; exact w4
    have iq : hq'[h0.length]? = some (.cells Zab [.str ct, .str tt, .slice (some (i, o)) n2 c2 e2] false) := by rw [sq.eq _ (by omega), hS.eq _ (by omega)]; exact i4
    have row : ∀ {hx : Zaa}, hx[h.length]? = some (.cells Zac [.slice a n c e, .slice a1 n1 c1 e1] false) → Zbw hx (.ptr (some (h.length, 0))) 2 = some [.slice a n c e, .slice a1 n1 c1 e1] := fun w => by rw [Zha w (by simp)]; rfl
    simp only [Zar, Nat.add_zero, Nat.zero_add, row wq, Zau nq, List.getElem?_cons_succ, List.getElem?_cons_zero, Zaq, Zah, Zap, Zaf, Zal, true_and]
    have Sq : Zbd h.length h hq' := SS.trans (sq.mono SS.le)
    refine ⟨by omega, (Zoe (r.same' Sq) (by omega)).mono ?_⟩
    rintro v k3 ⟨rfl, t3⟩
    have T3 := Sq.trans (t3.mono Sq.le)
    have n3 : k3[h'.length]? = some (.cells Zao [.str ns[g].1, .str ns[g].2] false) := by rw [t3.eq _ (by omega)]; exact nq
    have w3' : k3[h.length]? = some (.cells Zac [.slice a n c e, .slice a1 n1 c1 e1] false) := by rw [t3.eq _ (by omega)]; exact wq
    have i3' : k3[h0.length]? = some (.cells Zab [.str ct, .str tt, .slice (some (i, o)) n2 c2 e2] false) := by rw [t3.eq _ (by omega)]; exact iq
    have ht3 := t3.le
    simp only [Zbe, Zqp, row w3', Zau n3, List.getElem?_cons_succ, List.getElem?_cons_zero, Zal, true_and]
    have fail : ∀ hx, Zbd h.length h hx → Zhh cs tt ns[g] = false → (Zag.bool false = Zag.bool (ns.all (Zhh cs tt)) ∧ Zbd h.length h hx) := fun hx hs hf => ⟨by rw [Zon hgl hf], hs⟩
    refine Zcl (fun hb => fail _ T3 (by unfold Zhh; rw [hb]; rfl)) (fun m1 => ?_)
    have hnl := hns ns[g] (List.getElem_mem hgl)
    refine (Zkl _ (by omega) k3).mono ?_
    rintro v k4 ⟨rfl, t4⟩
    have T4 := T3.trans (t4.mono T3.le)
    have ht4 := t4.le
    have n4 : k4[h'.length]? = some (.cells Zao [.str ns[g].1, .str ns[g].2] false) := by rw [t4.eq _ (by omega)]; exact n3
    have w4' : k4[h.length]? = some (.cells Zac [.slice a n c e, .slice a1 n1 c1 e1] false) := by rw [t4.eq _ (by omega)]; exact w3'
    have i4' : k4[h0.length]? = some (.cells Zab [.str ct, .str tt, .slice (some (i, o)) n2 c2 e2] false) := by rw [t4.eq _ (by omega)]; exact i3'
    simp only [Zat, row w4', Zau n4, Zau i4', List.getElem?_cons_succ, List.getElem?_cons_zero, Zal, true_and]
    refine Zcl (fun hb => fail _ T4 (by unfold Zhh; rw [m1, hb]; rfl)) (fun m2 => ?_)
    refine Zam (fun hb => fail _ T4 (by unfold Zhh; simp [show ¬ ns[g].2.length ≤ 20 by omega])) (fun m3 => ?_)
    refine (Zrr _ hnl).mono ?_
    rintro v k5 ⟨rfl, t5⟩
    have T5 := T4.trans (t5.mono T4.le)
    have ht5 := t5.le
    have n5 : k5[h'.length]? = some (.cells Zao [.str ns[g].1, .str ns[g].2] false) := by rw [t5.eq _ (by omega)]; exact n4
    have w5' : k5[h.length]? = some (.cells Zac [.slice a n c e, .slice a1 n1 c1 e1] false) := by rw [t5.eq _ (by omega)]; exact w4'
    have i5' : k5[h0.length]? = some (.cells Zab [.str ct, .str tt, .slice (some (i, o)) n2 c2 e2] false) := by rw [t5.eq _ (by omega)]; exact i4'
    simp only [row w5', Zau n5, Zau i5', List.getElem?_cons_succ, List.getElem?_cons_zero, Zal, true_and]
    refine (Zrr _ htt).mono ?_
    rintro v k6 ⟨rfl, t6⟩
    have T6 := T5.trans (t6.mono T5.le)
    have ht6 := t6.le
    have n6 : k6[h'.length]? = some (.cells Zao [.str ns[g].1, .str ns[g].2] false) := by rw [t6.eq _ (by omega)]; exact n5
    have w6' : k6[h.length]? = some (.cells Zac [.slice a n c e, .slice a1 n1 c1 e1] false) := by rw [t6.eq _ (by omega)]; exact w5'
    have i6' : k6[h0.length]? = some (.cells Zab [.str ct, .str tt, .slice (some (i, o)) n2 c2 e2] false) := by rw [t6.eq _ (by omega)]; exact i5'
    simp only [row w6', Zau n6, Zau i6', List.getElem?_cons_succ, List.getElem?_cons_zero, Zal, true_and]
    rw [if_pos m2, if_pos b3]
    have hvb : ∀ s, (Zna s).length ≤ 6 := fun s => List.length_filter_le _ _
    have hv1 := hvb ns[g].2
    have hv2 := hvb tt
    refine (Yba _ _ (by omega) (by omega)).mono ?_
    rintro v k7 ⟨rfl, rfl⟩
    have hni : Zhh cs tt ns[g] = (Zna ns[g].2).all fun v => decide (v ∈ tt) := by unfold Zhh; rw [m1, m2]; simp [show ns[g].2.length ≤ 20 by omega]
    simp only [Zat, row w6', Zau n6, Zau i6', List.getElem?_cons_succ, List.getElem?_cons_zero, Zal, true_and, Zvu, ← hni]
    refine Zcl (fun hb => fail _ T6 hb) (fun m4 => ?_)
    apply Zcu.J8i
    rw [Zcd (by omega)]
    refine hR (g + 1) _ _ (by omega) ⟨rfl, by omega, ?_, Zfv hgl hk m4⟩
    exact hS.trans ((sq.mono hS.le).trans ((t3.mono (by omega)).trans ((t4.mono (by omega)).trans ((t5.mono (by omega)).trans (t6.mono (by omega))))))
  · apply Zcu.A4x0i
    have : g = n2 := by omega
    subst this
    rw [List.take_of_length_le (by omega)] at hk
    exact ⟨by rw [hk], SS⟩
end Go.Sim

set_option linter.unusedVariables false
set_option linter.unusedSimpArgs false
set_option maxRecDepth 20000
namespace Go.Sim
open Go Go.RowKit

structure WB (w : Wd) : Prop where
  lc : w.cs.length ≤ 1048576
  li : w.is.length ≤ 1048576
  cs : ∀ p ∈ w.cs, p.1.length ≤ 1048576 ∧ p.2.length ≤ 1048576 ∧ ∀ b ∈ p.1, b < 256
  is : ∀ i ∈ w.is, i.1.1.length ≤ 1048576 ∧ i.1.2.length ≤ 1048576 ∧ i.2.length ≤ 1048576 ∧ ∀ p ∈ i.2, p.1.length ≤ 1048576 ∧ p.2.length ≤ 1048576
def Zmt (a0 : Pt) (n0 c0 : Nat) (e0 : Bool) (a1 : Pt) (n1 c1 : Nat) (e1 : Bool) : Zck := .cells Zac [.slice a0 n0 c0 e0, .slice a1 n1 c1 e1] false
theorem Ycp {h : Zaa} {j : Nat} {a0 a1 : Pt} {n0 c0 n1 c1 : Nat} {e0 e1 : Bool} (hj : h[j]? = some (Zmt a0 n0 c0 e0 a1 n1 c1 e1)) : Zbw h (.ptr (some (j, 0))) 2 = some [.slice a0 n0 c0 e0, .slice a1 n1 c1 e1] := by
  rw [Zha (show h[j]? = some (.cells Zac [.slice a0 n0 c0 e0, .slice a1 n1 c1 e1] false) from hj) (by simp)]; rfl
theorem Zgt {h : Zaa} {j o : Nat} {a0 a1 : Pt} {n0 c0 n1 c1 : Nat} {e0 e1 : Bool} (hj : h[j]? = some (Zmt a0 n0 c0 e0 a1 n1 c1 e1)) : Zai h (.ptr (some (j, o))) = ([.slice a0 n0 c0 e0, .slice a1 n1 c1 e1] : List Zag)[o]? := Zau (show h[j]? = some (.cells Zac [.slice a0 n0 c0 e0, .slice a1 n1 c1 e1] false) from hj)
theorem Zbd.get {b : Nat} {h h' : Zaa} {j : Nat} {x : Zck} (s : Zbd b h h') (hj : h[j]? = some x) (hb : j < b) : h'[j]? = some x := by rw [s.eq j hb]; exact hj
theorem Zbd.cat {h h1 h2 : Zaa} (a : Zbd h.length h h1) (b : Zbd h1.length h1 h2) : Zbd h.length h h2 := a.trans (b.mono a.le)

theorem Ygx {h : Zaa} {t : TypeId} {x y z : Zag} : Zbw (h ++ [.cells t [x, y, z] false]) (.ptr (some (h.length, 0))) 3 = some [x, y, z] := Ybz rfl
theorem Zvv {h : Zaa} {a0 a1 a2 : Pt} {n0 c0 n1 c1 n2 c2 j : Nat} {e0 e1 e2 : Bool} {w : Wd} {ns : List Nd} {ct tt : List Nat} (r : Zln h a0 n0 c0 a1 n1 c1 w) (b : WB w) (hj : h[j]? = some (Zmt a0 n0 c0 e0 a1 n1 c1 e1))
    (r2 : Row h.length h a2 (n2 * 2) (Zbv eP ns)) (hn2 : n2 ≤ 1048576) (hns : ∀ p ∈ ns, p.2.length ≤ 1048576) (htt : tt.length ≤ 1048576) :
    Zae pg Zbk [.agg [.str ct, .str tt, .slice a2 n2 c2 e2], .ptr (some (j, 0))] h fun v h' => v = .bool (!Zjn w.cs ((ct, tt), ns)) ∧ Zbd h.length h h' := by
  apply Zhg.call
  simp only [Zbf]
  have s1 : Zbd h.length h (h ++ [.cells Zab [.str ct, .str tt, .slice a2 n2 c2 e2] false]) := Zax
  rw [Ycp (s1.get hj (Own.lt hj)), Ygx]
  simp only [Zaq, Zah, Zap, Zaf, Zal]
  have hlc := b.lc
  have hl0 := r.len0
  refine (Zpb (r.cls.same' s1) r.le0 (by omega) (fun p hp => (b.cs p hp).2.1) (r2.same' s1) hn2 hns htt).mono ?_
  rintro v h2 ⟨rfl, s2⟩
  simp only [Zat]
  exact ⟨by trivial, s1.cat s2⟩
theorem Zvs {h : Zaa} {a0 a1 : Pt} {n0 c0 n1 c1 j : Nat} {e0 e1 : Bool} {w : Wd} (r : Zln h a0 n0 c0 a1 n1 c1 w) (b : WB w) (hj : h[j]? = some (Zmt a0 n0 c0 e0 a1 n1 c1 e1)) :
    Zae pg Zcc [.slice a1 n1 c1 e1, .fn Zbk [.ptr (some (j, 0))]] h fun v h' => (∃ z : Int, v = .int .i64 z ∧ decide (z ≥ 0) = !w.is.all (Zjn w.cs)) ∧ Zbd h.length h h' := by
  have hl := r.len1
  have hli := b.li
  apply Zav.call
  refine Zav.L2ind _ _ _ _ _ _ _ (J := fun (g : Nat) x8 h' => x8 = (g : Int) ∧ g ≤ n1 ∧ Zbd h.length h h' ∧ (w.is.take g).all (Zjn w.cs) = true) (fun g => n1 - g) ?_ 0 _ _ ⟨rfl, by omega, Zbd.refl _ _, rfl⟩
  rintro g x8 h' ⟨rfl, hg, hS, hk⟩ R hR
  unfold Zav.L2t
  refine Zam (fun hlt => ?_) (fun hge => ?_)
  · obtain ⟨i, o, hgl, a2, n2, c2, e2, rfl, _, hr, _, _, _, hrow, hn⟩ := (r.same hS).inst (k := g) (by omega)
    simp only [Zba, Int.toNat_natCast, hr, Zaq, Zah, Zap, Zal, Zaf]
    have hb := b.is _ (List.getElem_mem hgl)
    refine ⟨by omega, (Zvv (r.same hS) b (hS.get hj (Own.lt hj)) hrow (by omega) (fun p hp => (hb.2.2.2 p hp).2) hb.2.1).mono ?_⟩
    rintro v h2 ⟨rfl, s2⟩
    simp only [Zat]
    have hS2 := hS.cat s2
    refine Zcl (fun he => ?_) (fun he => ?_)
    · exact ⟨⟨_, rfl, by rw [Zon hgl he]; simp⟩, hS2⟩
    · rw [Zcd (by omega)]
      exact hR (g + 1) _ _ (by omega) ⟨rfl, by omega, hS2, Zfv hgl hk he⟩
  · apply Zav.A2x0i
    have : g = n1 := by omega
    subst this
    rw [List.take_of_length_le (by omega)] at hk
    exact ⟨⟨_, rfl, by rw [hk]; rfl⟩, hS⟩
theorem Zsl {h : Zaa} {a0 a1 : Pt} {n0 c0 n1 c1 : Nat} {e0 e1 : Bool} {w : Wd} (r : Zln h a0 n0 c0 a1 n1 c1 w) (b : WB w) :
    Zae pg Zhq [.agg [.slice a0 n0 c0 e0, .slice a1 n1 c1 e1]] h fun v h' => v = .bool (Zhd w) ∧ Zbd h.length h h' := by
  have hl0 := r.len0
  have hl1 := r.len1
  have hlc := b.lc
  apply Zjy.call
  simp only [Zbf]
  generalize hh0 : h ++ [Zck.cells Zac [.slice a0 n0 c0 e0, .slice a1 n1 c1 e1] false] = h0
  have s0 : Zbd h.length h h0 := by rw [← hh0]; exact Zax
  have w0 : h0[h.length]? = some (Zmt a0 n0 c0 e0 a1 n1 c1 e1) := by rw [← hh0]; simp [Zmt]
  rw [Ycp w0]
  simp only [Zaq, Zah, Zap, Zaf]
  refine (Zot (r.cls.same' s0) r.le0 (by omega) (fun p hp => (b.cs p hp).2.1)).mono ?_
  rintro v h2 ⟨rfl, s2⟩
  have S2 := s0.cat s2
  have w2 := s2.get w0 (Own.lt w0)
  simp only [Zat]
  refine Zgl (fun b1 => ?_) (fun b1 => ⟨by unfold Zhd; rw [b1]; rfl, S2⟩)
  simp only [Zgt w2, Nat.zero_add, List.getElem?_cons_succ, List.getElem?_cons_zero, Zaf]
  refine Zam (fun b2 => ?_) (fun b2 => ⟨by unfold Zhd; rw [b1]; simp [show ¬ w.is.length ≤ 10 by omega], S2⟩)
  apply Zbp.call
  refine (Zvs (r.same S2) b w2).mono ?_
  rintro v h3 ⟨⟨z, rfl, hz⟩, s3⟩
  simp only [Zbe, Zat]
  refine ⟨?_, S2.cat s3⟩
  rw [hz, Bool.not_not]
  unfold Zhd
  rw [b1]; simp [show w.is.length ≤ 10 by omega]
theorem Zqy {h : Zaa} {a0 a1 : Pt} {n0 c0 n1 c1 : Nat} {e0 e1 : Bool} {w : Wd} (r : Zln h a0 n0 c0 a1 n1 c1 w) (b : WB w) :
    Zae pg Zhp [.agg [.slice a0 n0 c0 e0, .slice a1 n1 c1 e1]] h fun v h' => v = .bool (Zhd w) ∧ Zbd h.length h h' := by
  have hl0 := r.len0
  have hl1 := r.len1
  have hlc := b.lc
  have hli := b.li
  apply Zei.call
  simp only [Zbf]
  generalize hh0 : h ++ [Zck.cells Zac [.slice a0 n0 c0 e0, .slice a1 n1 c1 e1] false] = h0
  have s0 : Zbd h.length h h0 := by rw [← hh0]; exact Zax
  have w0 : h0[h.length]? = some (Zmt a0 n0 c0 e0 a1 n1 c1 e1) := by rw [← hh0]; simp [Zmt]
  simp only [Zgt w0, Nat.zero_add, List.getElem?_cons_succ, List.getElem?_cons_zero, Zaf]
  refine Zei.L2ind _ _ _ _ _ _ _ _ (J := fun (g : Nat) x8 h' => x8 = (g : Int) ∧ g ≤ n1 ∧ Zbd h0.length h0 h' ∧ (w.is.take g).all (Zjn w.cs) = true) (fun g => n1 - g) ?_ 0 _ _ ⟨rfl, by omega, Zbd.refl _ _, rfl⟩
  rintro g x8 h' ⟨rfl, hg, hS, hk⟩ R hR
  have SS := s0.cat hS
  have w1 := hS.get w0 (Own.lt w0)
  unfold Zei.L2t
  refine Zam (fun hlt => ?_) (fun hge => ?_)
  · obtain ⟨i, o, hgl, a2, n2, c2, e2, rfl, _, hr, _, _, _, hrow, hn⟩ := (r.same SS).inst (k := g) (by omega)
    simp only [Zba, Int.toNat_natCast, hr, Zaq, Zah, Zap, Zal, Zaf, Zbf]
    rw [Yex]
    generalize hq : h' ++ [Zck.cells Zab [.str w.is[g].1.1, .str w.is[g].1.2, .slice a2 n2 c2 e2] false] = hq'
    have sq : Zbd h'.length h' hq' := by rw [← hq]; exact Zax
    simp only [Zar]
    rw [Ycp (sq.get w1 (Own.lt w1)), ← hq, Ygx, hq]
    simp only [Zaq, Zah, Zap, Zal, Zaf]
    have hb := b.is _ (List.getElem_mem hgl)
    have Sq := SS.cat sq
    refine ⟨by omega, (Zoh (r.cls.same' Sq) r.le0 (by omega) (fun p hp => (b.cs p hp).2.1) (fun p hp => (b.cs p hp).2.2) (hrow.same' sq) (by omega) (fun p hp => (hb.2.2.2 p hp).2) hb.2.1).mono ?_⟩
    rintro v h2 ⟨rfl, s2⟩
    simp only [Zat]
    refine Zcl (fun he => ?_) (fun he => ?_)
    · exact ⟨by unfold Zhd; rw [Zon hgl he]; simp, Sq.cat s2⟩
    · rw [Zcd (by omega)]
      exact hR (g + 1) _ _ (by omega) ⟨rfl, by omega, (hS.cat sq).cat s2, Zfv hgl hk he⟩
  · apply Zei.A2x0i
    have : g = n1 := by omega
    subst this
    rw [List.take_of_length_le (by omega)] at hk
    simp only [Zgt w1, Nat.zero_add, List.getElem?_cons_zero, Zaf]
    refine (Zou (r.cls.same' SS) r.le0 (by omega) (fun p hp => (b.cs p hp).2.1) (fun p hp => (b.cs p hp).2.2)).mono ?_
    rintro v h2 ⟨rfl, s2⟩
    simp only [Zat]
    have w2 := s2.get w1 (Own.lt w1)
    refine Zgl (fun b1 => ?_) (fun b1 => ⟨by unfold Zhd; rw [b1]; rfl, SS.cat s2⟩)
    simp only [Zgt w2, Nat.zero_add, List.getElem?_cons_succ, List.getElem?_cons_zero, Zaf]
    refine ⟨?_, SS.cat s2⟩
    unfold Zhd
    rw [b1, hk]; congr 1; rw [Bool.eq_iff_iff]; simp; omega
end Go.Sim

set_option linter.unusedVariables false
set_option linter.unusedSimpArgs false
set_option maxRecDepth 20000
namespace Go.Sim
open Go Go.RowKit

end Go.Sim

set_option linter.unusedVariables false
set_option linter.unusedSimpArgs false
set_option maxRecDepth 20000
namespace Go.Sim
open Go Go.RowKit
theorem Zzf {h : Zaa} {c t : List Nat} {x : Int} (hc : c.length ≤ 9223372036854775807) (ht : t.length ≤ 9223372036854775807) (hx : 0 ≤ x ∧ x ≤ 1048576) :
    Zae pg Zjv [.agg [.str c, .str t], .int .i64 x] h fun v h' => ∃ y, v = .int .i64 y ∧ Zbd h.length h h' ∧ (0 ≤ y → (c.length : Int) + t.length + y = x) := by
  apply Zmu.call
  simp only [Zbf]
  have s1 : Zbd h.length h (h ++ [.cells Zlv [.str c, .str t] false]) := Zbd.app (Nat.le_refl _) _
  simp [Zai]
  rw [IntWalk.i64_in _ (by omega)]
  refine Zam (fun hlt => s1) (fun hge => ?_)
  rw [IntWalk.i64_in _ (by omega)]
  exact Zam (fun hlt => s1) (fun hge => ⟨s1, by omega⟩)
theorem Zyj {h : Zaa} {c t c' t' : List Nat} :
    Zae pg Zjo [.agg [.str c, .str t], .agg [.str c', .str t']] h fun v h' => v = .bool (decide (c = c') && decide (t = t')) ∧ Zbd h.length h h' := by
  apply Zmj.call
  simp only [Zbf]
  simp [Zai]
  by_cases e1 : c = c' <;> by_cases e2 : t = t' <;> simp [e1, e2] <;> exact Zbd.app (Nat.le_refl _) _
theorem Zze {h : Zaa} {c t : List Nat} :
    Zae pg Zjq [.agg [.str c, .str t]] h fun v h' => v = .agg [.str c, .str t] ∧ Zbd h.length h h' := by
  apply Zmw.call
  simp only [Zbf]
  simp [Zai, Zbc, Zbw, Zbi, List.getElem?_append, List.getElem?_set]
  exact Zbd.app (Nat.le_refl _) _

theorem Zus {h : Zaa} {a : Pt} {n c : Nat} {e : Bool} {l : List (List Nat × List Nat)} (r : Row h.length h a (n * 2) (prs l)) (hs : ∀ p ∈ l, p.1.length ≤ 9223372036854775807 ∧ p.2.length ≤ 9223372036854775807) (hn : n ≤ 9223372036854775807) {left : Int} (hl : 0 ≤ left ∧ left ≤ 1048576) :
    Zae pg Zit [.slice a n c e, .int .i64 left] h fun v h' => ∃ x, v = .int .i64 x ∧ Zbd h.length h h' ∧ (0 ≤ x → (n : Int) + Zty l + x = left) := by
  have hll : l.length = n := by have := r.1; rw [Zfa] at this; omega
  apply Zfl.call
  rw [IntWalk.i64_in _ (by omega)]
  refine Zam (fun hlt => ?_) (fun hge => ?_)
  · exact ⟨_, rfl, Zbd.refl _ _, by omega⟩
  · refine Zfl.L5ind _ _ _ _ _ (J := fun (g : Nat) x1 x5 h' => x5 = (g : Int) ∧ Zbd h.length h h' ∧ g ≤ n ∧ 0 ≤ x1 ∧ x1 + n + Zty (l.take g) = left) (fun g => n - g) ?_ 0 _ 0 h ⟨rfl, Zbd.refl _ _, by omega, by omega, by simp [Zty]⟩
    rintro g x1 x5 h' ⟨rfl, hS, hg, h0, ht⟩ R hR
    unfold Zfl.L5t
    refine Zam (fun hlt => ?_) (fun hge => ?_)
    · have hlt' : g < n := by omega
      obtain ⟨i, o, hgl, rfl, hi, hc⟩ := (r.same hS).pair hlt'
      have hsl := hs _ (List.getElem_mem hgl)
      simp only [Zba, Int.toNat_natCast, hc, Zaq, Zah, Zap, Zal]
      refine ⟨by omega, (Zzf hsl.1 hsl.2 (by omega)).mono fun v h1 ⟨y, hv, hs1, hy⟩ => ?_⟩
      subst hv
      simp only [Zbe]
      have hS1 := hS.trans (hs1.mono hS.le)
      refine Zam (fun hneg => ⟨_, rfl, hS1, by omega⟩) (fun hneg => ?_)
      rw [Zjz hlt' (by omega)]
      have hyy := hy (by omega)
      refine hR (g + 1) _ _ _ (by omega) ⟨rfl, hS1, by omega, by omega, ?_⟩
      rw [Zqd hgl]; omega
    · have : g = n := by omega
      subst this
      rw [List.take_of_length_le (by omega)] at ht
      exact Zfl.A5x0i _ _ _ ⟨_, rfl, hS, by omega⟩
theorem Zut {h : Zaa} {a : Pt} {n c : Nat} {e : Bool} {l : List (List Nat × List Nat)} (r : Row h.length h a (n * 2) (prs l)) (hn : n ≤ 1048576) :
    Zae pg Ziu [.slice a n c e] h fun v h' => ∃ a' c' e', v = .slice a' n c' e' ∧ Zbd h.length h h' ∧ Zbr Zan eP h.length h' a' n l ∧ n ≤ c' := by
  have hll : l.length = n := by have := r.1; rw [Zfa] at this; omega
  apply Zfo.call
  refine ⟨rfl, rfl, by omega, ?_⟩
  simp only [Zbf, Int.toNat_natCast, Zwy]
  refine Zfo.L3ind _ _ _ _ _ _ _ _ _ (J := fun (g : Nat) x4 h' => x4 = (g : Int) ∧ g ≤ n ∧ Zbd h.length h h' ∧ h'[h.length]? = some (.cells Zan (prs (l.take g ++ List.replicate (n - g) ([], []))) false)) (fun g => n - g) ?_ 0 0 _ ⟨rfl, by omega, Zbd.app (Nat.le_refl _) _, by simp⟩
  rintro g x4 h' ⟨rfl, hg, hs, hi⟩ R hR
  unfold Zfo.L3t
  refine Zam (fun hlt => ?_) (fun hge => ?_)
  · have hlt' : g < n := by omega
    obtain ⟨i, o, hgl, rfl, hi', hc⟩ := (r.same hs).pair hlt'
    simp only [Zba, Int.toNat_natCast, hc, Zaq, Zah, Zap, Zal]
    refine ⟨by omega, Zze.mono fun v h1 ⟨hv, hs1⟩ => ?_⟩
    subst hv
    have hi1 : h1[h.length]? = some (.cells Zan (prs (l.take g ++ List.replicate (n - g) ([], []))) false) := by rw [hs1.eq _ (Own.lt hi)]; exact hi
    simp only [Zdk, Zah, Zap, Zal, Nat.zero_add]
    have hmin : min g l.length = g := Nat.min_eq_left (by omega)
    rw [Zuw hi1 (by simp; omega)]
    simp only [Zar]
    rw [Zjz hlt' (by omega)]
    have hset : (l.take g ++ List.replicate (n - g) ([], [])).take g ++ [(l[g].1, l[g].2)] ++ (l.take g ++ List.replicate (n - g) (([] : List Nat), ([] : List Nat))).drop (g + 1) = l.take (g + 1) ++ List.replicate (n - (g + 1)) ([], []) := by
      have hl1 : (l.take g).length = g := by rw [List.length_take, hmin]
      rw [List.take_left' hl1, List.take_succ_eq_append_getElem hgl, List.drop_append, hl1, List.drop_of_length_le (by omega), List.nil_append, List.drop_replicate]
      congr 2; omega
    rw [hset]
    exact ⟨⟨by omega, by omega⟩, hR (g + 1) _ _ (by omega) ⟨rfl, by omega, (hs.trans (hs1.mono hs.le)).trans (Zbd.set (Nat.le_refl _) _), Zjw hi1⟩⟩
  · have : g = n := by omega
    subst this
    rw [List.take_of_length_le (by omega), Nat.sub_self, List.replicate_zero, List.append_nil] at hi
    exact Zfo.A3x0i _ _ _ _ _ _ ⟨_, _, _, rfl, hs, ⟨hll, .inr ⟨h.length, rfl, Nat.le_refl _, hi⟩⟩, by simp⟩
theorem Zur {h : Zaa} {a0 a1 : Pt} {n0 n1 c0 c1 : Nat} {e0 e1 : Bool} {l0 l1 : List (List Nat × List Nat)} (r0 : Row h.length h a0 (n0 * 2) (prs l0)) (r1 : Row h.length h a1 (n1 * 2) (prs l1)) (hn : n0 ≤ 4611686018427387904) (heq : l0 = l1) :
    Zae pg Zja [.slice a0 n0 c0 e0, .slice a1 n1 c1 e1] h fun v h' => v = .bool true ∧ Zbd h.length h h' := by
  subst heq
  have hl0 : l0.length = n0 := by have := r0.1; rw [Zfa] at this; omega
  have hl1 : l0.length = n1 := by have := r1.1; rw [Zfa] at this; omega
  have : n1 = n0 := by omega
  subst this
  apply Zfm.call
  simp only [beq_self_eq_true, Bool.not_true, Zbj]
  refine Zfm.L4ind _ _ _ _ _ _ _ _ _ (J := fun (k : Nat) x5 h' => Zbd h.length h h' ∧ x5 = (k : Int) ∧ k ≤ n1) (fun k => n1 - k) ?_ 0 0 h ⟨Zbd.refl _ _, rfl, by omega⟩
  rintro k x5 h' ⟨hs, rfl, hk⟩ R hR
  unfold Zfm.L4t
  refine Zam (fun hlt => ?_) (fun hge => Zfm.A4x0i _ _ ⟨rfl, hs⟩)
  have hlt' : k < n1 := by omega
  obtain ⟨i, o, hgl, rfl, _, hc0⟩ := (r0.same hs).pair hlt'
  obtain ⟨i', o', _, rfl, _, hc1⟩ := (r1.same hs).pair hlt'
  simp only [Zba, Int.toNat_natCast, hc0, hc1, Zaq, Zah, Zap, Zal, true_and]
  refine ⟨⟨by omega, by omega⟩, ⟨by omega, by omega⟩, Zyj.mono fun v h1 ⟨hv, hs1⟩ => ?_⟩
  subst hv
  simp only [Zat, decide_true, Bool.and_self, Bool.not_true, Zbj]
  rw [Zjz hlt' (by omega)]
  exact hR (k + 1) _ _ (by omega) ⟨hs.trans (hs1.mono hs.le), rfl, by omega⟩

theorem Zvn {h : Zaa} {a : Pt} {n c : Nat} {e : Bool} {l : List (List Nat × List Nat)} (r : Row h.length h a (n * 2) (prs l)) (hn : n ≤ 1048576) :
    Zae pg Zju [.slice a n c e] h fun v h' => ∃ a' c' e', v = .slice a' n c' e' ∧ Zbd h.length h h' ∧ Zbr Zao eP h.length h' a' n l ∧ n ≤ c' ∧ a' ≠ none := by
  have hll : l.length = n := by have := r.1; rw [Zfa] at this; omega
  apply Zgc.call
  refine ⟨rfl, rfl, by omega, ?_⟩
  simp only [Zbf, Int.toNat_natCast, Zwy]
  refine Zgc.L3ind _ _ _ _ _ _ _ _ _ (J := fun (g : Nat) x4 h' => x4 = (g : Int) ∧ g ≤ n ∧ Zbd h.length h h' ∧ h'[h.length]? = some (.cells Zao (prs (l.take g ++ List.replicate (n - g) ([], []))) false)) (fun g => n - g) ?_ 0 0 _ ⟨rfl, by omega, Zbd.app (Nat.le_refl _) _, by simp⟩
  rintro g x4 h' ⟨rfl, hg, hs, hi⟩ R hR
  unfold Zgc.L3t
  refine Zam (fun hlt => ?_) (fun hge => ?_)
  · have hlt' : g < n := by omega
    obtain ⟨i, o, hgl, rfl, hi', hc⟩ := (r.same hs).pair hlt'
    simp only [Zba, Int.toNat_natCast, hc, Zaq, Zah, Zap, Zal]
    refine ⟨by omega, Zub.mono fun v h1 ⟨hv, hs1⟩ => ?_⟩
    subst hv
    have hi1 : h1[h.length]? = some (.cells Zao (prs (l.take g ++ List.replicate (n - g) ([], []))) false) := by rw [hs1.eq _ (Own.lt hi)]; exact hi
    simp only [Zdk, Zah, Zap, Zal, Nat.zero_add]
    have hmin : min g l.length = g := Nat.min_eq_left (by omega)
    rw [Zuw hi1 (by simp; omega)]
    simp only [Zar]
    rw [Zjz hlt' (by omega)]
    have hset : (l.take g ++ List.replicate (n - g) ([], [])).take g ++ [(l[g].1, l[g].2)] ++ (l.take g ++ List.replicate (n - g) (([] : List Nat), ([] : List Nat))).drop (g + 1) = l.take (g + 1) ++ List.replicate (n - (g + 1)) ([], []) := by
      have hl1 : (l.take g).length = g := by rw [List.length_take, hmin]
      rw [List.take_left' hl1, List.take_succ_eq_append_getElem hgl, List.drop_append, hl1, List.drop_of_length_le (by omega), List.nil_append, List.drop_replicate]
      congr 2; omega
    rw [hset]
    exact ⟨⟨by omega, by omega⟩, hR (g + 1) _ _ (by omega) ⟨rfl, by omega, (hs.trans (hs1.mono hs.le)).trans (Zbd.set (Nat.le_refl _) _), Zjw hi1⟩⟩
  · have : g = n := by omega
    subst this
    rw [List.take_of_length_le (by omega), Nat.sub_self, List.replicate_zero, List.append_nil] at hi
    exact Zgc.A3x0i _ _ _ _ _ _ ⟨_, _, _, rfl, hs, ⟨hll, .inr ⟨h.length, rfl, Nat.le_refl _, hi⟩⟩, by simp, by simp⟩
end Go.Sim
