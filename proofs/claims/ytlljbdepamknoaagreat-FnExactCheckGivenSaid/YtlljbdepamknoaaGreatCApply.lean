/- A part of the proof of a statement of this seat: see the text that holds the theorem. No condition. -/
import Derived.Test.YtlljbdepamknoaaGreatPTCSMatch2
import Derived.Test.YtlljbdepamknoaaGreatCAll2
import Derived.Test.YtlljbdepamknoaaGreatCVars
import Derived.Test.YtlljbdepamknoaaGreatNm
import Derived.Test.YtlljbdepamknoaaGreatCTy
import Derived.Test.YtlljbdepamknoaaGreatSimX
import Derived.Test.YtlljbdepamknoaaGreatShelf
import Derived.Test.YtlljbdepamknoaaGreatCWLaw
set_option linter.unusedVariables false
set_option linter.unusedSimpArgs false
set_option linter.all false
set_option linter.unusedVariables false
set_option linter.unusedSimpArgs false
set_option maxRecDepth 20000
namespace Go.Sim
open Go Go.RowKit

theorem Vec.lt' {ty : TypeId} {h : Zaa} {a : Pt} {i n c : Nat} {cs : List Zar} (x : Vec ty h a n c cs) (e : a = some (i, 0)) : i < h.length := by subst e; exact x.lt
theorem Zqm.keep {S : Nat → Prop} {h h' : Zaa} (hh : ∀ j, S j → j < h.length → h'[j]? = h[j]?) : ∀ {t : Ty} {p : Pt}, Zqm S h t p → Zqm S h' t p
  | .k d, p, ⟨i, a, c, e, hp, si, hi⟩ => ⟨i, a, c, e, hp, si, by rw [hh i si (Own.lt hi)]; exact hi⟩
  | .u d x, p, ⟨i, j, c, e, q, hp, si, hi, sj, hj, hq⟩ => ⟨i, j, c, e, q, hp, si, by rw [hh i si (Own.lt hi)]; exact hi, sj, by rw [hh j sj (Own.lt hj)]; exact hj, hq.keep hh⟩
  | .w d x y, p, ⟨i, j, c, e, q, r, hp, si, hi, sj, hj, hq, hr⟩ => ⟨i, j, c, e, q, r, hp, si, by rw [hh i si (Own.lt hi)]; exact hi, sj, by rw [hh j sj (Own.lt hj)]; exact hj, hq.keep hh, hr.keep hh⟩
theorem Zqm.same {S : Nat → Prop} {h h' : Zaa} {t : Ty} {p : Pt} (r : Zqm S h t p) (s : Zaz h.length h h') : Zqm S h' t p := r.keep fun j _ hj => s.eq j hj
theorem Zhp.keep {S : Nat → Prop} {h h' : Zaa} (hh : ∀ j, S j → j < h.length → h'[j]? = h[j]?) : ∀ {t : Ty} {v : List Zar}, Zhp S h t v → Zhp S h' t v
  | .k d, _, h => h
  | .u d x, _, ⟨j, c, e, r, hv, sj, hj, hr⟩ => ⟨j, c, e, r, hv, sj, by rw [hh j sj (Own.lt hj)]; exact hj, hr.keep hh⟩
  | .w d x y, _, ⟨j, c, e, r, r', hv, sj, hj, hr, hr'⟩ => ⟨j, c, e, r, r', hv, sj, by rw [hh j sj (Own.lt hj)]; exact hj, hr.keep hh, hr'.keep hh⟩
theorem Ty.txt_inter (t : Ty) (h : t.ps ≠ []) : t.txt = ([t.hd] ++ [40]) ++ [44].intercalate (t.ps.map Ty.txt) ++ [41] := by
  cases t with
  | k c => simp [Ty.ps] at h
  | u c a => simp [Ty.ps, Ty.txt, Ty.hd, List.intercalate]
  | w c a b => simp [Ty.ps, Ty.txt, Ty.hd, List.intercalate]
theorem Ty.size_part {t x : Ty} (h : x ∈ t.ps) : x.size < t.size := by
  cases t with
  | k c => simp [Ty.ps] at h
  | u c a => simp [Ty.ps] at h; subst h; simp [Ty.size]
  | w c a b => simp [Ty.ps] at h; rcases h with rfl | rfl <;> simp [Ty.size] <;> omega
theorem Ty.len_part {t x : Ty} (h : x ∈ t.ps) : x.txt.length < t.txt.length := by
  cases t with
  | k c => simp [Ty.ps] at h
  | u c a => simp [Ty.ps] at h; subst h; simp [Ty.txt]; omega
  | w c a b => simp [Ty.ps] at h; rcases h with rfl | rfl <;> simp [Ty.txt] <;> omega
theorem Ykd : ∀ (N : Nat) {S : Nat → Prop} {h : Zaa} {t : Ty} {p : Pt}, t.size ≤ N → t.txt.length ≤ 1048576 → Zqm S h t p → Zad pg Zil [.ptr p] h fun x h' => x = .str t.txt ∧ Zaz h.length h h'
  | 0, S, h, t, p, hN, _, _ => by have := t.size_ps; omega
  | N + 1, S, h, t, p, hN, hB, r => by
    obtain ⟨i, a, c, e, qs, rfl, si, hi, hrow, hS, hql, hq⟩ := r.parts
    have hps2 : t.ps.length ≤ 2 := by cases t <;> simp [Ty.ps]
    apply Zgu.call
    simp only [Zav, Zaq hi, Nat.zero_add, List.getElem?_cons_succ, List.getElem?_cons_zero, Zah, Zaf]
    refine Zfy (fun hz0 => ?_) (fun hz0 => ?_)
    · have : t.ps.length = 0 := by omega
      refine ⟨?_, Zaz.refl _ _⟩
      cases t <;> simp [Ty.ps] at this
      rfl
    · simp only [Zax]
      generalize hh0 : h ++ [Zcn.cells Zcm [] false] = h0
      have s0 : Zaz h.length h h0 := by rw [← hh0]; exact Zau
      have i0 := s0.get hi (Own.lt hi)
      have l0 : h0.length = h.length + 1 := by rw [← hh0]; simp
      have v0 : h0[h.length]? = some (.cells Zcm [] false) := by rw [← hh0]; simp
      simp only [Zaq i0, List.getElem?_cons_succ, List.getElem?_cons_zero, Zah]
      refine Zgu.L5ind _ _ _ _ _ _ _ (J := fun (g : Nat) a3 n3 c3 e3 x22 h' => x22 = (g : Int) ∧ g ≤ t.ps.length ∧ Zaz h.length h h' ∧ n3 = g ∧ Vec Zcm h' a3 n3 c3 (strs ((t.ps.take g).map Ty.txt)) ∧ (∀ i, a3 = some (i, 0) → h.length ≤ i)) (fun g => t.ps.length - g) ?_ 0 _ _ _ _ _ _
        ⟨rfl, by omega, s0, rfl, Vec.mk1 (by simpa using v0), fun i hi => by cases hi; omega⟩
      rintro g a3 n3 c3 e3 x22 h' ⟨rfl, hg, hSm, rfl, hv, ha⟩ R hR
      unfold Zgu.L5t
      have i1 := hSm.get hi (Own.lt hi)
      refine Zal (fun hlt => ?_) (fun hge => ?_)
      · have hg' : n3 < t.ps.length := by omega
        obtain ⟨j, o, rfl, hj, hc⟩ := (hrow.same hSm).at hg'
        have hqg : n3 < qs.length := by omega
        rw [List.getElem?_map, List.getElem?_eq_getElem hqg] at hc
        simp only [Zav, Int.toNat_natCast, Nat.mul_one, hc, Option.map_some, Zlt]
        have hk := hq n3 qs[n3] t.ps[n3] (List.getElem?_eq_getElem hqg) (List.getElem?_eq_getElem hg')
        have hm := List.getElem_mem hg'
        have h1 := Ty.size_part hm
        have h2 := Ty.len_part hm
        refine ⟨by omega, (Ykd N (by omega) (by omega) (hk.same hSm)).mono ?_⟩
        rintro x h2 ⟨rfl, s2⟩
        simp only [Zaf, Zax]
        refine (hv.same s2).push Zqt Zuj Zvh Zvf (by simp; omega) rfl (by omega) (fun h4 hl4 hi4 hk4 => ?_)
        simp only [Zah]
        rw [Zbm (by omega)]
        have S2 := hSm.cat s2
        have hle := S2.le
        refine hR (n3 + 1) _ _ _ _ _ _ (by omega) ⟨rfl, by omega, ⟨by omega, fun j hj => ?_⟩, rfl, Vec.mk1 ?_, fun i hi => by cases hi; omega⟩
        · rw [hk4 j (by omega) fun i hi => by have := ha i hi; omega]; exact S2.eq j hj
        · rw [hi4, List.take_succ_eq_append_getElem hg', List.map_append, Ycq]; rfl
      · apply Zgu.A5x0i
        have : n3 = t.ps.length := by omega
        subst this
        rw [List.take_length] at hv
        have hne : t.ps ≠ [] := fun e => hz0 (by rw [e]; rfl)
        have htx := t.txt_inter hne
        have hln := congrArg List.length htx
        simp at hln
        simp only [Zav, Zaq i1, Nat.zero_add, List.getElem?_cons_zero, Zaf]
        refine ⟨by simp, ?_⟩
        refine (Yks (hv.row (by simp)) (by omega) (by omega)).mono ?_
        rintro v h3 ⟨rfl, rfl⟩
        simp only [Zaf]
        refine ⟨Zaq i1, by simp; omega, by simp; omega, ?_⟩
        exact ⟨by rw [htx], hSm⟩
theorem Zhp.get {S : Nat → Prop} {h : Zaa} {t : Ty} {a : Pt} {vs : List (List Zar)} (hrow : Row h.length h a (t.ps.length * 2) vs.flatten) (hvl : vs.length = t.ps.length) (hp : ∀ (k : Nat) (w : List Zar) (x : Ty), vs[k]? = some w → t.ps[k]? = some x → Zhp S h x w) {g : Nat} (hg' : g < t.ps.length) :
    ∃ i o a2 c2 e2, a = some (i, o) ∧ Zbp h (.ptr (some (i, o + g * 2))) 2 = some [.int .u8 (t.ps[g].hd : Int), .slice a2 t.ps[g].ps.length c2 e2] ∧ Zhp S h t.ps[g] [.int .u8 (t.ps[g].hd : Int), .slice a2 t.ps[g].ps.length c2 e2] := by
  have hgv : g < vs.length := by omega
  have hk := hp g vs[g] t.ps[g] (List.getElem?_eq_getElem hgv) (List.getElem?_eq_getElem hg')
  have hz : ∀ v ∈ vs, v.length = 2 := fun v hv => by
    obtain ⟨k, hk, rfl⟩ := List.mem_iff_getElem.1 hv
    exact (hp k vs[k] (t.ps[k]'(by omega)) (List.getElem?_eq_getElem hk) (List.getElem?_eq_getElem (by omega))).len
  have hfl : vs.flatten = Zff (fun (v : {v : List Zar // v.length = 2}) => v.1) (vs.attach.map fun v => ⟨v.1, hz v.1 v.2⟩) := by
    unfold Zff; rw [List.flatMap_map]; simp
  rw [hfl] at hrow
  obtain ⟨i, o, hk', ha, _, hr, _⟩ := Row.el (enc := fun (v : {v : List Zar // v.length = 2}) => v.1) (fun x => x.2) hrow (by simp [hvl]) (k := g) hg' (by omega)
  obtain ⟨a2, c2, e2, hv2⟩ := hk.shape
  rw [hv2] at hk
  exact ⟨i, o, a2, c2, e2, ha, by rw [hr]; simp [hv2], hk⟩
theorem Yja {g : Nat} (hg : g < 2) : sub [40, 44] (g : Int) ((g : Int) + 1) = [Zov g] := by
  rcases g with _ | _ | g
  · rfl
  · rfl
  · omega
theorem Ty.hd_lt (t : Ty) (h : t.ok = true) : t.hd < 256 := by
  have := Ty.ok_ar h
  unfold arN Zmu Zdc at this
  simp only [Bool.or_eq_true, beq_iff_eq] at this
  split at this
  · omega
  · split at this
    · omega
    · split at this
      · omega
      · omega
def Znc : Nat → List Ty → List Nat
  | _, [] => []
  | g, x :: l => Zov g :: (x.txt ++ Znc (g + 1) l)
theorem Zsi : ∀ (l : List Ty) (g k : Nat) (h : k < l.length), Znc g (l.take (k + 1)) = Znc g (l.take k) ++ Zov (g + k) :: l[k].txt
  | x :: l, g, 0, _ => by simp [Znc]
  | x :: l, g, k + 1, h => by
    have := Zsi l (g + 1) k (by simpa using h)
    simp only [List.take_succ_cons, Znc, this, List.getElem_cons_succ, List.cons_append, List.append_assoc]
    rw [show g + 1 + k = g + (k + 1) by omega]
theorem Zvu : ∀ (l : List Ty) (g k : Nat), (Znc g (l.take k)).length ≤ (Znc g l).length
  | [], g, k => by simp [Znc]
  | x :: l, g, 0 => by simp [Znc]
  | x :: l, g, k + 1 => by
    have := Zvu l (g + 1) k
    simp only [List.take_succ_cons, Znc, List.length_cons, List.length_append]; omega
theorem Ty.txt_mids (t : Ty) : t.txt = t.hd :: Znc 0 t.ps ++ (if t.ps = [] then [] else [41]) := by
  cases t <;> simp [Ty.ps, Ty.txt, Ty.hd, Znc, Zov]
theorem Zpf : ∀ (N : Nat) {S : Nat → Prop} {h : Zaa} {t : Ty} {v : List Zar}, t.size ≤ N → t.txt.length ≤ 1048576 → t.ok = true → Zhp S h t v → Zad pg Zgn [.agg v] h fun x h' => x = .str t.txt ∧ Zaz h.length h h'
  | 0, S, h, t, v, hN, _, _, _ => by have := t.size_ps; omega
  | N + 1, S, h, t, v, hN, hB, hok, r => by
    obtain ⟨a, c, e, vs, rfl, hrow, hS, hvl, hp⟩ := r.parts
    have hps2 : t.ps.length ≤ 2 := by cases t <;> simp [Ty.ps]
    have htx := t.txt_mids
    have hln := congrArg List.length htx
    rw [List.length_append, List.length_cons] at hln
    apply Zgq.call
    simp only [Zax, Zeu, Nat.zero_add, List.getElem?_cons_succ, List.getElem?_cons_zero, Zah, Zao]
    generalize hh0 : h ++ [Zcn.cells Zac [.int .u8 (t.hd : Int), .slice a t.ps.length c e] false] = h0
    have s0 : Zaz h.length h h0 := by rw [← hh0]; exact Zau
    have o0 : h0[h.length]? = some (.cells Zac [.int .u8 (t.hd : Int), .slice a t.ps.length c e] false) := by rw [← hh0]; simp
    generalize hh1 : h0 ++ [Zcn.cells Ydd [.int .u8 (t.hd : Int)] false] = h1
    have s1 : Zaz h0.length h0 h1 := by rw [← hh1]; exact Zau
    have o1 := s1.get o0 (Own.lt o0)
    have hro : rowOf h1 (some (h0.length, 0)) 1 = some [.int .u8 (t.hd : Int)] := by rw [← hh1]; simp [rowOf, Zbp]
    rw [hro]
    simp only [Zan, Znn, chk, decide_true]
    rw [show ((t.hd : Int)).toNat = t.hd from Int.toNat_natCast _]
    refine ⟨⟨by omega, by have := t.hd_lt hok; omega⟩, ?_⟩
    simp only [Zaq o1, List.getElem?_cons_succ, List.getElem?_cons_zero, Zah]
    refine Zgq.L3ind _ _ _ _ _ _ _ _ (J := fun (g : Nat) x3 x13 h' => x13 = (g : Int) ∧ g ≤ t.ps.length ∧ Zaz h.length h h' ∧ Zaz h1.length h1 h' ∧ x3 = t.hd :: Znc 0 (t.ps.take g)) (fun g => t.ps.length - g) ?_ 0 _ _ _ ⟨rfl, by omega, s0.cat s1, Zaz.refl _ _, by simp [Znc]⟩
    rintro g x3 x13 h' ⟨rfl, hg, hSm, hS1, rfl⟩ R hR
    unfold Zgq.L3t
    have o2 := hS1.get o1 (Own.lt o1)
    refine Zal (fun hlt => ?_) (fun hge => ?_)
    · have hg' : g < t.ps.length := by omega
      obtain ⟨i, o, a2, c2, e2, rfl, hr, hk⟩ := Zhp.get (hrow.same' hSm) hvl (fun k w x h1 h2 => (hp k w x h1 h2).same hSm) hg'
      simp only [Zav, Int.toNat_natCast, hr, Zan, Zae, Zap, Zao, Zah, Zax]
      rw [Zgd]
      simp only [Zaw]
      rw [Ygh]
      simp only [Zan, Zae, Zap, Zao, Zah]
      rw [Zbm (by omega), show (((g + 1 : Nat) : Int)) = (g : Int) + 1 by omega, Yja (by omega)]
      have hm := List.getElem_mem hg'
      have h1 := Ty.size_part hm
      have h2 := Ty.len_part hm
      have hmt := Zsi t.ps 0 g hg'
      have hml : (Znc 0 (t.ps.take (g + 1))).length ≤ (Znc 0 t.ps).length := Zvu _ _ _
      have hmtl := congrArg List.length hmt
      simp only [List.length_append, List.length_cons, Nat.zero_add] at hmtl
      have s2 : Zaz h'.length h' (h' ++ [.cells Zac [.int .u8 (t.ps[g].hd : Int), .slice a2 t.ps[g].ps.length c2 e2] false]) := Zau
      refine ⟨by omega, ⟨by omega, by omega, by simp; omega⟩, by simp; omega, (Zpf N (by omega) (by omega) (Ty.ok_ps hok _ hm) (hk.same s2)).mono ?_⟩
      rintro x h3 ⟨rfl, s3⟩
      simp only [Zaf]
      refine ⟨by simp; omega, ?_⟩
      exact hR (g + 1) _ _ _ (by omega) ⟨by omega, by omega, (hSm.cat s2).cat s3, (hS1.cat s2).cat s3, by rw [hmt, Nat.zero_add]; simp⟩
    · apply Zgq.A3x0i
      have : g = t.ps.length := by omega
      subst this
      simp only [Zaq o2, Nat.zero_add, List.getElem?_cons_succ, List.getElem?_cons_zero, Zah]
      rw [List.take_length]
      refine Zal (fun hpos => ?_) (fun hneg => ?_)
      · have hne : t.ps ≠ [] := fun e => by rw [e] at hpos; simp at hpos
        rw [if_neg hne] at htx hln
        refine ⟨by simp; simp at hln; omega, ?_⟩
        apply Zgq.J9i
        exact ⟨by rw [htx], hSm⟩
      · have hne : t.ps = [] := List.eq_nil_of_length_eq_zero (by omega)
        rw [if_pos hne, List.append_nil] at htx
        apply Zgq.J9i
        exact ⟨by rw [htx], hSm⟩
end Go.Sim

set_option linter.unusedVariables false
namespace Go.Sim
open Go Go.RowKit Go.Maps Go.Sort Go.Shelf Go.Proofs
theorem Yli (m : Nat) : AnyZ.SortsIn Tryz.prog Tryz.sorted115_ren Fence.wide m :=
  ⟨fun blk off cap ss W hH hblk hsz => callsIn_wide.2 (Tryz.slices_Sort_string blk off cap ss W hH hblk hsz), fun p cap W => callsIn_wide.2 (Tryz.slices_Sort_string_none p cap W)⟩
theorem Ylx {h : Zaa} {m : Option Nat} : Zad pg Zeh [.map m] h fun v h' => v = .fn Zdq [.ptr (some (h.length, 0))] ∧ h' = h ++ [.cells Zgo [.map m] false] :=
  Zad.keys ⟨_, Tryz.func116, by kernel_rfl, by kernel_rfl⟩ (fun mb W => callsIn_wide.1 (AnyZ.keys_in Tryz.keys116 Fence.wide 5 trivial rfl mb W))
set_option maxHeartbeats 1000000 in
theorem Zwr {h : Zaa} {i m : Nat} {es : List ME} {clk : Nat} (hi : h[i]? = some (.cells Zgo [.map (some m)] false)) (hm : h[m]? = some (.map es clk)) {vs : List Nat} (hks : es.map (·.1) = vs.map fun v => .str [v]) (nd : vs.Nodup) (born : (es.map (·.2.2)).Nodup) (lt : ∀ e ∈ es, e.2.2 < clk) (hl : es.length ≤ 1048576) :
    Zad pg Zjw [.fn Zdq [.ptr (some (i, 0))]] h fun v h' => ∃ us : List Nat, us.Perm vs ∧ us.Pairwise (· ≤ ·) ∧ ((us = [] ∧ v = .slice none 0 0 true ∧ h' = h) ∨ (∃ c, v = .slice (some (h.length, 0)) us.length c false ∧ us.length ≤ c ∧ h' = h ++ [.cells Zcm (us.map fun v => .str [v]) false])) :=
  Zad.sortedKeys (M := Zgo) (K := Zcm) Tryz.underlying9 (by kernel_rfl) ⟨_, Tryz.func115, by kernel_rfl, by kernel_rfl⟩
    (fun Bm b nn D0 R w hown hBm hcell hmax hbytes => callsIn_wide.1 (by
      have hseq : SeqGives Fence.wide 2 Tryz.prog 147 #[.pointer (some ⟨Bm, 0, none⟩)] encStr (fun ss => ss.Perm (strKeys D0)) (Maps.size D0) w :=
        AnyZ.keys_gives (ρ := Tryz.keys116_ren) { Tryz.keys116 with } Fence.wide _ trivial rfl (by omega) Bm b nn D0 w hBm hcell hown
      exact AnyZ.sorted_in Tryz.sorted115 Fence.wide 5 trivial trivial trivial trivial rfl (by omega) (Yli _) (enters_of Tryz.func146 (by kernel_rfl) rfl) 147 #[.pointer (some ⟨Bm, 0, none⟩)] trivial (enters_of Tryz.func147 (by kernel_rfl) rfl) _ _ hmax hbytes _ hseq))
    hi hm hks nd born lt hl
end Go.Sim

set_option linter.unusedSimpArgs false
set_option linter.unusedVariables false
namespace Go.Sim

abbrev Bd := List (Nat × Ty)
def Zho : Bd → Nat → Option Ty
  | [], _ => none
  | (v, t) :: m, x => if v = x then some t else Zho m x
def Zod (m : Bd) (v : Nat) (t : Ty) : Option Bd := match Zho m v with | some t' => if t' = t then some m else none | none => some (m ++ [(v, t)])
def matchT : Bd → Ty → Ty → Option Bd
  | m, .k c, t => if Zdc c then Zod m c t else if c = t.hd then some m else none
  | m, .u c a, t => if c = t.hd then (match t.ps with | [x] => matchT m a x | _ => none) else none
  | m, .w c a b, t => if c = t.hd then (match t.ps with | [x, y] => (match matchT m a x with | some m1 => matchT m1 b y | none => none) | _ => none) else none
def matchL : Bd → List Ty → List Ty → Option Bd
  | m, [], _ => some m
  | m, a :: xs, [] => none
  | m, a :: xs, t :: ys => match matchT m a t with | some m1 => matchL m1 xs ys | none => none
theorem Zpc {a : Ty} (h : a.ok = true) (hv : Zdc a.hd = true) : a = .k a.hd := by
  cases a with
  | k c => rfl
  | u c a => simp only [Ty.ok, Bool.and_eq_true, Bool.or_eq_true, beq_iff_eq] at h; rcases h.1 with rfl | rfl <;> simp [Ty.hd, Zdc] at hv
  | w c a b => simp only [Ty.ok, Bool.and_eq_true, beq_iff_eq] at h; rcases h.1.1 with rfl; simp [Ty.hd, Zdc] at hv
theorem Yde {a t : Ty} (ha : a.ok = true) (ht : t.ok = true) (h : a.hd = t.hd) : a.ps.length = t.ps.length := by
  have h1 := Ty.ok_ar ha; have h2 := Ty.ok_ar ht
  rw [h, h2] at h1; omega
theorem Yag {m : Bd} {a t : Ty} (ha : a.ok = true) (ht : t.ok = true) :
    matchT m a t = if Zdc a.hd then Zod m a.hd t else if a.hd = t.hd then matchL m a.ps t.ps else none := by
  cases a with
  | k c =>
    show matchT m (.k c) t = if Zdc c then Zod m c t else if c = t.hd then matchL m [] t.ps else none
    rw [matchT, matchL]
  | u c a =>
    have hnv : Zdc c = false := by
      cases h : Zdc c with
      | false => rfl
      | true => have := Zpc ha h; cases this
    show matchT m (.u c a) t = if Zdc c then Zod m c t else if c = t.hd then matchL m [a] t.ps else none
    rw [matchT, hnv, if_neg (show ¬ (false = true) by decide)]
    by_cases h : c = t.hd
    · have hl : 1 = t.ps.length := Yde ha ht h
      rw [if_pos h, if_pos h]
      match t.ps, hl with
      | [x], _ => simp only [matchL]; cases matchT m a x <;> rfl
    · rw [if_neg h, if_neg h]
  | w c a b =>
    have hnv : Zdc c = false := by
      cases h : Zdc c with
      | false => rfl
      | true => have := Zpc ha h; cases this
    show matchT m (.w c a b) t = if Zdc c then Zod m c t else if c = t.hd then matchL m [a, b] t.ps else none
    rw [matchT, hnv, if_neg (show ¬ (false = true) by decide)]
    by_cases h : c = t.hd
    · have hl : 2 = t.ps.length := Yde ha ht h
      rw [if_pos h, if_pos h]
      match t.ps, hl with
      | [x, y], _ =>
        simp only [matchL]
        cases matchT m a x with
        | none => rfl
        | some m1 => simp only []; cases matchT m1 b y <;> rfl
    · rw [if_neg h, if_neg h]
theorem Zra : ∀ (xs ys : List Ty) (m : Bd) (g : Nat) (h1 : g < xs.length) (h2 : g < ys.length), matchL m (xs.take (g + 1)) (ys.take (g + 1)) = match matchL m (xs.take g) (ys.take g) with | some m1 => matchT m1 xs[g] ys[g] | none => none
  | a :: xs, t :: ys, m, 0, _, _ => by
    simp only [List.take_succ_cons, List.take_zero, matchL, List.getElem_cons_zero]
    cases matchT m a t <;> rfl
  | a :: xs, t :: ys, m, g + 1, h1, h2 => by
    simp only [List.length_cons, Nat.add_lt_add_iff_right] at h1 h2
    simp only [List.take_succ_cons, matchL, List.getElem_cons_succ]
    cases hm : matchT m a t with
    | none => rfl
    | some m1 =>
      have := Zra xs ys m1 g h1 h2
      simpa only [List.take_succ_cons] using this
theorem Zqw : ∀ (xs ys : List Ty) (m : Bd) (g : Nat), xs.length = ys.length → matchL m (xs.take g) (ys.take g) = none → matchL m xs ys = none
  | [], _, m, g, _, h => by simp [matchL] at h
  | a :: xs, [], m, g, hl, h => by simp at hl
  | a :: xs, t :: ys, m, 0, _, h => by simp [matchL] at h
  | a :: xs, t :: ys, m, g + 1, hl, h => by
    simp only [List.take_succ_cons, matchL] at h ⊢
    cases hm : matchT m a t with
    | none => rfl
    | some m1 =>
      rw [hm] at h
      exact Zqw xs ys m1 g (by simpa using hl) h

structure BOk (n : Nat) (m : Bd) : Prop where
  var : ∀ p ∈ m, Zdc p.1 = true ∧ p.2.ok = true ∧ p.2.txt.length ≤ n
  nd : (m.map (·.1)).Nodup
theorem Zpq : ∀ {m : Bd} {v : Nat} {t : Ty}, Zho m v = some t → (v, t) ∈ m
  | (w, u) :: m, v, t, h => by
    simp only [Zho] at h
    split at h
    · rename_i e; cases h; subst e; simp
    · exact List.mem_cons_of_mem _ (Zpq h)
theorem Zrs : ∀ {m : Bd} {v : Nat}, Zho m v = none ↔ v ∉ m.map (·.1)
  | [], v => by simp [Zho]
  | (w, u) :: m, v => by
    simp only [Zho]
    by_cases e : w = v
    · simp [e]
    · simp only [e, if_false, Zrs (m := m), List.map_cons, List.mem_cons, not_or]
      exact ⟨fun h => ⟨fun e' => e e'.symm, h⟩, fun h => h.2⟩
theorem Ycn {m : Bd} {v : Nat} : (Zho m v).isSome = true ↔ v ∈ m.map (·.1) := by
  cases h : Zho m v with
  | none => simp [Zrs.1 h]
  | some t => simp only [Option.isSome_some, true_iff]; exact List.mem_map.2 ⟨_, Zpq h, rfl⟩
theorem Ydi {m : Bd} {v x : Nat} {t : Ty} : Zho (m ++ [(v, t)]) x = match Zho m x with | some u => some u | none => if v = x then some t else none := by
  induction m with
  | nil => simp [Zho]
  | cons p m ih =>
    obtain ⟨w, u⟩ := p
    simp only [List.cons_append, Zho, ih]
    split <;> rfl
theorem BOk.nil {n : Nat} : BOk n [] := ⟨by simp, by simp⟩
theorem BOk.note {n : Nat} {m m' : Bd} {v : Nat} {t : Ty} (b : BOk n m) (hv : Zdc v = true) (ht : t.ok = true) (hn : t.txt.length ≤ n) (h : Zod m v t = some m') : BOk n m' := by
  unfold Zod at h
  split at h
  · split at h
    · cases h; exact b
    · cases h
  · rename_i hg
    cases h
    refine ⟨?_, ?_⟩
    · intro p hp
      rcases List.mem_append.1 hp with hp | hp
      · exact b.var p hp
      · simp at hp; subst hp; exact ⟨hv, ht, hn⟩
    · rw [List.map_append, List.nodup_append]
      refine ⟨b.nd, by simp, ?_⟩
      intro x hx y hy e
      simp at hy; subst hy; subst e
      exact Zrs.1 hg hx
theorem Zyq {t x : Ty} (h : x ∈ t.ps) : x.txt.length ≤ t.txt.length := by
  cases t with
  | k c => simp [Ty.ps] at h
  | u c a => simp [Ty.ps] at h; subst h; simp [Ty.txt]; omega
  | w c a b => simp [Ty.ps] at h; rcases h with rfl | rfl <;> simp [Ty.txt] <;> omega
theorem BOk.matchT {n : Nat} : ∀ {a t : Ty} {m m' : Bd}, a.ok = true → t.ok = true → t.txt.length ≤ n → BOk n m → Go.Sim.matchT m a t = some m' → BOk n m'
  | .k c, t, m, m', ha, ht, hn, b, h => by
    simp only [Go.Sim.matchT] at h
    split at h
    · rename_i hv; exact b.note hv ht hn h
    · split at h
      · cases h; exact b
      · cases h
  | .u c a, t, m, m', ha, ht, hn, b, h => by
    simp only [Ty.ok, Bool.and_eq_true] at ha
    simp only [Go.Sim.matchT] at h
    split at h
    · split at h
      · rename_i x hx
        have hm : x ∈ t.ps := by rw [hx]; simp
        exact BOk.matchT ha.2 (Ty.ok_ps ht x hm) (Nat.le_trans (Zyq hm) hn) b h
      · cases h
    · cases h
  | .w c a a2, t, m, m', ha, ht, hn, b, h => by
    simp only [Ty.ok, Bool.and_eq_true] at ha
    simp only [Go.Sim.matchT] at h
    split at h
    · split at h
      · rename_i x y hx
        have hm : x ∈ t.ps := by rw [hx]; simp
        have hm2 : y ∈ t.ps := by rw [hx]; simp
        split at h
        · rename_i m1 h1
          exact BOk.matchT ha.2 (Ty.ok_ps ht y hm2) (Nat.le_trans (Zyq hm2) hn) (BOk.matchT ha.1.2 (Ty.ok_ps ht x hm) (Nat.le_trans (Zyq hm) hn) b h1) h
        · cases h
      · cases h
    · cases h
theorem BOk.matchL {n : Nat} : ∀ {xs ys : List Ty} {m m' : Bd}, (∀ a ∈ xs, a.ok = true) → (∀ t ∈ ys, t.ok = true ∧ t.txt.length ≤ n) → BOk n m → Go.Sim.matchL m xs ys = some m' → BOk n m'
  | [], _, m, m', _, _, b, h => by simp [Go.Sim.matchL] at h; subst h; exact b
  | a :: xs, [], m, m', _, _, b, h => by simp [Go.Sim.matchL] at h
  | a :: xs, t :: ys, m, m', ha, ht, b, h => by
    simp only [Go.Sim.matchL] at h
    split at h
    · rename_i m1 h1
      exact BOk.matchL (fun a h => ha a (by simp [h])) (fun t h => ht t (by simp [h])) (BOk.matchT (ha a (by simp)) (ht t (by simp)).1 (ht t (by simp)).2 b h1) h
    · cases h
def bdL (m : Bd) : List Nd := Zfi.filterMap fun v => (Zho m v).map fun t => ([v], t.txt)
noncomputable def Zjo (p s : List Nat) : Option Bd := match Zix p, Zix s with | some a, some b => matchT [] a b | _, _ => none
noncomputable def Zoc (p s : List Nat) : Bool := (Zjo p s).isSome
noncomputable def Zjq (p s : List Nat) : List Nd := match Zjo p s with | some m => bdL m | none => []
theorem Zvz {p s : List Nat} {m : Bd} (h : Zjo p s = some m) : BOk 60 m := by
  unfold Zjo at h
  split at h
  · rename_i a b ha hb
    obtain ⟨h1, _, _⟩ := Zft.1 ha
    obtain ⟨h2, h3, h4⟩ := Zft.1 hb
    exact BOk.matchT h1 h2 (by rw [← h3]; exact h4) BOk.nil h
  · cases h
theorem Zrb : Zfi.Nodup := by decide
theorem Zti : Zfi.Pairwise (· < ·) := by decide
theorem Yeo (m : Bd) : bdL m = (Zfi.filter fun v => (Zho m v).isSome).map fun v => ([v], ((Zho m v).getD default).txt) := by
  unfold bdL
  induction Zfi with
  | nil => rfl
  | cons v l ih =>
    simp only [List.filterMap_cons, List.filter_cons]
    cases h : Zho m v with
    | none => simpa [h] using ih
    | some t => simp [h, ih]
theorem Ycw {n : Nat} {m : Bd} (b : BOk n m) {ks : List Nat} (hp : ks.Perm (m.map (·.1))) (hs : ks.Pairwise (· ≤ ·)) : ks = Zfi.filter fun v => (Zho m v).isSome := by
  have hnd : ks.Nodup := hp.nodup_iff.2 b.nd
  have h1 : ks.Pairwise (· < ·) := by
    have := List.pairwise_and_iff.2 ⟨hs, hnd⟩
    exact this.imp fun h => by have := h.1; have := h.2; omega
  have h2 : (Zfi.filter fun v => (Zho m v).isSome).Pairwise (· < ·) := Zti.filter _
  have hp2 : ks.Perm (Zfi.filter fun v => (Zho m v).isSome) := by
    rw [List.perm_ext_iff_of_nodup hnd (Zrb.filter _)]
    intro v
    rw [hp.mem_iff, List.mem_filter, Ycn]
    constructor
    · intro hv
      obtain ⟨p, hp, rfl⟩ := List.mem_map.1 hv
      exact ⟨(Zpi _).2 (b.var p hp).1, hv⟩
    · exact fun h => h.2
  exact hp2.eq_of_pairwise (fun a b _ _ h1 h2 => by omega) h1 h2
theorem Yff {α : Type} {f : α → Bool} {l : List α} {g : Nat} (hg : g < l.length) (h : (l.take g).find? f = none) (k : f l[g] = true) : l.find? f = some l[g] := by
  have h1 : l = l.take g ++ l[g] :: l.drop (g + 1) := by rw [← List.drop_eq_getElem_cons hg, List.take_append_drop]
  conv => lhs; rw [h1]
  rw [List.find?_append, h, List.find?_cons, k]; rfl
theorem Zwb {α : Type} {f : α → Bool} {l : List α} {g : Nat} (hg : g < l.length) (h : (l.take g).find? f = none) (k : f l[g] = false) : (l.take (g + 1)).find? f = none := by
  rw [List.take_succ_eq_append_getElem hg, List.find?_append, h]; simp [k]
end Go.Sim

set_option linter.unusedVariables false
set_option linter.unusedSimpArgs false
set_option maxRecDepth 20000
namespace Go.Sim
open Go Go.RowKit

def Yiv (h : Zaa) (i : Nat) (m : Bd) : Prop := ∃ es clk, h[i]? = some (.map es clk) ∧ es.map (·.1) = m.map (fun p => Zar.str [p.1]) ∧ es.map (·.2.1) = m.map (fun p => Zar.str p.2.txt) ∧ (es.map (·.2.2)).Nodup ∧ ∀ e ∈ es, e.2.2 < clk
theorem Yiv.eq {h h' : Zaa} {i : Nat} {m : Bd} (r : Yiv h i m) (he : h'[i]? = h[i]?) : Yiv h' i m := by
  obtain ⟨es, clk, h1, x⟩ := r
  exact ⟨es, clk, by rw [he]; exact h1, x⟩
theorem Yiv.lt {h : Zaa} {i : Nat} {m : Bd} (r : Yiv h i m) : i < h.length := by obtain ⟨es, clk, h1, _⟩ := r; exact Own.lt h1
theorem Zpx : ∀ {es : List ME} {m : Bd} {v k : Nat} {t : Ty}, es.map (·.1) = m.map (fun p => Zar.str [p.1]) → es.map (·.2.1) = m.map (fun p => Zar.str p.2.txt) → Zho m v = some t → ∃ j b, Zsu es [v] k = some (some (k + j, .str t.txt)) ∧ es[j]? = some (.str [v], .str t.txt, b)
  | _, [], v, k, t, _, _, h => by simp [Zho] at h
  | [], p :: m, v, k, t, h, _, _ => by simp at h
  | (ek, ev, eb) :: es, (w, u) :: m, v, k, t, hk, hv, h => by
    simp only [List.map_cons, List.cons.injEq] at hk hv
    obtain ⟨rfl, hk⟩ := hk
    obtain ⟨rfl, hv⟩ := hv
    simp only [Zho] at h
    by_cases e : w = v
    · rw [if_pos e] at h
      cases h; subst e
      exact ⟨0, eb, by simp [Zsu], rfl⟩
    · rw [if_neg e] at h
      obtain ⟨j, b, h1, h2⟩ := Zpx (k := k + 1) hk hv h
      have : ¬ [v] = [w] := fun x => e (by simpa using x.symm)
      exact ⟨j + 1, b, by simp only [Zsu, this, if_false, h1]; rw [show k + 1 + j = k + (j + 1) by omega], h2⟩
theorem Zpu : ∀ {es : List ME} {m : Bd} {v k : Nat}, es.map (·.1) = m.map (fun p => Zar.str [p.1]) → Zho m v = none → Zsu es [v] k = some none
  | [], [], v, k, _, _ => rfl
  | [], p :: m, v, k, h, _ => by simp at h
  | e :: es, [], v, k, h, _ => by simp at h
  | (ek, ev, eb) :: es, (w, u) :: m, v, k, hk, h => by
    simp only [List.map_cons, List.cons.injEq] at hk
    obtain ⟨rfl, hk⟩ := hk
    simp only [Zho] at h
    by_cases e : w = v
    · rw [if_pos e] at h; cases h
    · rw [if_neg e] at h
      have : ¬ [v] = [w] := fun x => e (by simpa using x.symm)
      simp only [Zsu, this, if_false]
      exact Zpu hk h
theorem Zuh {α : Type} {f : α → α} {e : α} : ∀ {l : List α} {j : Nat}, l[j]? = some e → f e = e → l.modify j f = l
  | [], j, h, _ => by simp at h
  | a :: l, 0, h, hf => by simp at h; subst h; simp [hf]
  | a :: l, j + 1, h, hf => by simp at h; simp [Zuh h hf]
theorem Yfj (c : Nat) : Zjs [c] = Zdc c := rfl
theorem Row.keepAt {i : Nat} {h h' : Zaa} {a : Pt} {n : Nat} {cs : List Zar} (r : Row h.length h a n cs) (hne : ∀ j o, n ≠ 0 → a = some (j, o) → j ≠ i) (k : Zgc i h h') : Row h'.length h' a n cs := by
  obtain ⟨hl, r⟩ := r
  by_cases h0 : n = 0
  · exact ⟨hl, .inl h0⟩
  · refine ⟨hl, r.imp id ?_⟩
    rintro ⟨j, o', t, all, ro, ha, hi, hg, x⟩
    have := k.le
    exact ⟨j, o', t, all, ro, ha, by omega, by rw [k.eq j hi (hne j o' h0 ha)]; exact hg, x⟩
def Ypv (h : Zaa) (i : Nat) (r : Option Bd) (v : Zar) (h' : Zaa) : Prop := Zgc i h h' ∧ (match r with | some m' => v = .bool true ∧ Yiv h' i m' | none => v = .bool false)
theorem Ydu : ∀ (N : Nat) {a t : Ty} {S : Nat → Prop} {h : Zaa} {p q : Pt} {i n : Nat} {m : Bd}, a.size ≤ N → a.ok = true → t.ok = true → t.txt.length ≤ 1048576 → t.txt.length ≤ n → BOk n m → (∀ j, S j → j ≠ i) → Zqm S h a p → Zqm S h t q → Yiv h i m →
    Zad pg Zhq [.ptr p, .ptr q, .map (some i)] h (Ypv h i (matchT m a t))
  | 0, a, t, S, h, p, q, i, n, m, hN, _, _, _, _, _, _, _, _, _ => by have := a.size_ps; omega
  | N + 1, a, t, S, h, p, q, i, n, m, hN, ha, ht, hB, hn, bo, hSi, ra, rt, rm => by
    have hcase := Yag (m := m) ha ht
    obtain ⟨ia, aa, ca, ea, qa, rfl, sia, hia, rowa, hSa, hqal, hqa⟩ := ra.parts
    obtain ⟨it, at', ct, et, qt, rfl, sit, hit, rowt, hSt, hqtl, hqt⟩ := id rt.parts
    have hps2 : a.ps.length ≤ 2 := by cases a <;> simp [Ty.ps]
    apply Zem.call
    simp only [Zav, Zaq hia, Nat.zero_add, List.getElem?_cons_succ, List.getElem?_cons_zero, Zah, Zaf]
    refine (Zym [a.hd]).mono ?_
    rintro v h1 ⟨rfl, rfl⟩
    simp only [Zai, Yfj]
    refine Zdu (fun hv => ?_) (fun hv => ?_)
    · rw [hv] at hcase
      simp only [if_true] at hcase
      refine (Ykd _ (Nat.le_refl _) hB rt).mono ?_
      rintro v h2 ⟨rfl, s2⟩
      have hia2 := s2.get hia (Own.lt hia)
      obtain ⟨es, clk, hm, hk, hvv, hb, hlt⟩ := id rm
      have hm2 := s2.get hm (Own.lt hm)
      have rm2 : Yiv h2 i m := rm.eq (s2.eq i (Own.lt hm))
      simp only [Zaf, Zaq hia2, List.getElem?_cons_succ, List.getElem?_cons_zero, Zhe, hm2, Zwh]
      have K2 : Zgc i h1 h2 := ⟨s2.le, fun j hj _ => s2.eq j hj⟩
      have hput : ∀ r : Option Bd, (∀ (es' : List ME) (k' : Nat), Ykg es clk [a.hd] (.str t.txt) (fun x y => x = es' ∧ y = k') → Ypv h1 i r (.bool true) (h2.set i (.map es' k'))) → Zem.J6 (Ypv h1 i r) (some i) (some (ia, 0)) t.txt h2 := by
        intro r hr
        apply Zem.J6i
        simp only [Zav, Zaq hia2, Nat.zero_add, List.getElem?_cons_zero, Zaf, xMp, Zhe, hm2, Zax]
        unfold Ykg at hr ⊢
        cases hg : Zho m a.hd with
        | none =>
          rw [Zpu hk hg] at hr ⊢
          exact hr _ _ ⟨rfl, rfl⟩
        | some u =>
          obtain ⟨j, b, hf, _⟩ := Zpx (k := 0) hk hvv hg
          rw [hf] at hr ⊢
          exact hr _ _ ⟨rfl, rfl⟩
      have KS : ∀ x, Zgc i h1 (h2.set i x) := fun x => K2.trans (Zgc.set i h2 x)
      have hil := Own.lt hm2
      cases hg : Zho m a.hd with
      | none =>
        have hbn : Zod m a.hd t = some (m ++ [(a.hd, t)]) := by unfold Zod; rw [hg]
        rw [hbn] at hcase
        rw [hcase, Zpu hk hg]
        simp only [Option.getD_none, Zaf, Option.isSome_none, Zbd]
        refine hput _ fun es' k' hp => ⟨KS _, rfl, ?_⟩
        unfold Ykg at hp
        rw [Zpu hk hg] at hp
        obtain ⟨rfl, rfl⟩ := hp
        refine ⟨_, _, List.getElem?_set_self hil, by simp [hk], by simp [hvv], ?_, ?_⟩
        · rw [List.map_append, List.nodup_append]
          refine ⟨hb, by simp, ?_⟩
          intro x hx y hy e
          simp at hy
          obtain ⟨z, hz, rfl⟩ := List.mem_map.1 hx
          have := hlt z hz; omega
        · intro e he
          rcases List.mem_append.1 he with he | he
          · have := hlt e he; omega
          · simp at he; subst he; simp
      | some u =>
        obtain ⟨j, b, hf, hj⟩ := Zpx (k := 0) hk hvv hg
        rw [hf]
        simp only [Option.getD_some, Zaf, Option.isSome_some, Zbx]
        have hu : u.ok = true ∨ True := .inr trivial
        by_cases he : u = t
        · subst he
          have hbn : Zod m a.hd u = some m := by unfold Zod; rw [hg]; simp
          rw [hbn] at hcase
          rw [hcase]
          simp only [decide_true, Bool.not_true, Zbd]
          refine hput _ fun es' k' hp => ⟨KS _, rfl, ?_⟩
          unfold Ykg at hp
          rw [hf] at hp
          obtain ⟨rfl, rfl⟩ := hp
          rw [Nat.zero_add, Zuh hj rfl]
          exact ⟨es, clk, List.getElem?_set_self hil, hk, hvv, hb, hlt⟩
        · have hu := (bo.var _ (Zpq hg)).2.1
          have hne : ¬ u.txt = t.txt := fun e => he (Ty.txt_inj' hu ht e)
          have hbn : Zod m a.hd t = none := by unfold Zod; rw [hg]; simp [he]
          rw [hbn] at hcase
          rw [hcase]
          simp only [hne, decide_false, Bool.not_false, Zbx]
          exact ⟨K2, rfl⟩
    · rw [hv] at hcase
      simp only [Bool.false_eq_true, if_false] at hcase
      simp only [Zav, Zaq hia, Zaq hit, Nat.zero_add, List.getElem?_cons_succ, List.getElem?_cons_zero, Zah, Zaf, true_and]
      refine Zgj (fun hne => ?_) (fun he => ?_)
      · rw [if_neg (fun e => hne (by rw [e]))] at hcase
        rw [hcase]
        exact ⟨Zgc.refl _ _, rfl⟩
      · have he' : a.hd = t.hd := by simpa using he
        rw [if_pos he'] at hcase
        rw [hcase]
        have hlen := Yde ha ht he'
        refine Zem.L11ind _ _ _ _ _ _ _ _ (J := fun (g : Nat) x54 h' => x54 = (g : Int) ∧ g ≤ a.ps.length ∧ Zgc i h1 h' ∧ ∃ m1, matchL m (a.ps.take g) (t.ps.take g) = some m1 ∧ Yiv h' i m1) (fun g => a.ps.length - g) ?_ 0 _ _ ⟨rfl, by omega, Zgc.refl _ _, m, by simp [matchL], rm⟩
        rintro g x54 h' ⟨rfl, hg, hK, m1, hm1, rm1⟩ R hR
        unfold Zem.L11t
        refine Zal (fun hlt => ?_) (fun hge => ?_)
        · have hga : g < a.ps.length := by omega
          have hgt : g < t.ps.length := by omega
          have hit1 : h'[it]? = some (.cells Zen [.str [t.hd], .slice at' t.ps.length ct et, .ptr none] false) := by rw [hK.eq _ (Own.lt hit) (hSi _ sit)]; exact hit
          obtain ⟨ja, oa, rfl, _, hca⟩ := (rowa.keepAt (i := i) (fun j o h0 e => hSi j (hSa j o h0 e)) hK).at hga
          obtain ⟨jt, ot, rfl, _, hct⟩ := (rowt.keepAt (i := i) (fun j o h0 e => hSi j (hSt j o h0 e)) hK).at hgt
          have hqag : g < qa.length := by omega
          have hqtg : g < qt.length := by omega
          rw [List.getElem?_map, List.getElem?_eq_getElem hqag] at hca
          rw [List.getElem?_map, List.getElem?_eq_getElem hqtg] at hct
          simp only [Zav, Int.toNat_natCast, Nat.mul_one, hca, hct, Option.map_some, Zlt, Zaq hit1, Nat.zero_add, List.getElem?_cons_succ, List.getElem?_cons_zero, Zah]
          have hma := List.getElem_mem hga
          have hmt := List.getElem_mem hgt
          have h1 := Ty.size_part hma
          have h2 := Ty.len_part hmt
          have bo1 : BOk n m1 := BOk.matchL (fun x hx => Ty.ok_ps ha x (List.mem_of_mem_take hx)) (fun x hx => ⟨Ty.ok_ps ht x (List.mem_of_mem_take hx), by have := Ty.len_part (List.mem_of_mem_take hx); omega⟩) bo hm1
          have htk := Zra a.ps t.ps m g hga hgt
          rw [hm1] at htk
          simp only at htk
          refine ⟨by omega, by omega, (Ydu N (by omega) (Ty.ok_ps ha _ hma) (Ty.ok_ps ht _ hmt) (by omega) (by omega) bo1 hSi ((hqa g _ _ (List.getElem?_eq_getElem hqag) (List.getElem?_eq_getElem hga)).keep fun j hj hl => hK.eq j hl (hSi j hj)) ((hqt g _ _ (List.getElem?_eq_getElem hqtg) (List.getElem?_eq_getElem hgt)).keep fun j hj hl => hK.eq j hl (hSi j hj)) rm1).mono ?_⟩
          rintro v h3 ⟨K3, hres⟩
          cases hmm : matchT m1 a.ps[g] t.ps[g] with
          | none =>
            rw [hmm] at hres htk
            subst hres
            simp only [Zai, Bool.not_false, Zbx]
            rw [Zqw a.ps t.ps m (g + 1) hlen htk]
            exact ⟨hK.trans K3, rfl⟩
          | some m2 =>
            rw [hmm] at hres htk
            obtain ⟨rfl, rm2⟩ := hres
            simp only [Zai, Bool.not_true, Zbd]
            rw [Zbm (by omega)]
            exact hR (g + 1) _ _ (by omega) ⟨rfl, by omega, hK.trans K3, m2, htk, rm2⟩
        · apply Zem.A11x0i
          have : g = a.ps.length := by omega
          subst this
          rw [List.take_length, hlen, List.take_length] at hm1
          rw [hm1]
          exact ⟨hK, rfl, rm1⟩
end Go.Sim

set_option linter.unusedVariables false
set_option linter.unusedSimpArgs false
set_option maxRecDepth 20000
namespace Go.Sim
open Go Go.RowKit

theorem Zvc : pg.underlying Zla = some (.slice Zbb) := by kernel_rfl
theorem Ybf : pg.cellsOf Zbb = 2 := by kernel_rfl
theorem Zzq : pg.okElem Zbb = true := by kernel_rfl
theorem Zzk : pg.bytesOf Zbb ≤ 127 := Nat.le_of_ble_eq_true (by kernel_rfl)
theorem Vec.fresh {α : Type} {ty : TypeId} {enc : α → List Zar} {b : Nat} {h : Zaa} {a : Pt} {n c : Nat} {l : List α} (v : Vec ty h a n c (Zff enc l)) (hn : n = l.length) (ha : ∀ i, a = some (i, 0) → b ≤ i) : Zel ty enc b h a n l := by
  refine ⟨hn.symm, ?_⟩
  rcases v with ⟨rfl, h0, _⟩ | ⟨i, rfl, hi⟩
  · exact .inl h0
  · exact .inr ⟨i, rfl, ha i rfl, hi⟩
theorem Yht (m : Bd) : (bdL m).length ≤ 6 := by
  rw [Yeo, List.length_map]; exact Nat.le_trans (List.length_filter_le _ _) (by decide)
theorem Ybw {h : Zaa} {i : Nat} {m : Bd} (rm : Yiv h i m) (bo : BOk 60 m) :
    Zad pg Zmf [.map (some i)] h fun v h' => Zaz h.length h h' ∧ ∃ a n c e, v = .slice a n c e ∧ n ≤ c ∧ Zel Zbb eP h.length h' a n (bdL m) := by
  have hml : m.length ≤ 6 := by
    have hp : (m.map (·.1)).Perm (Zfi.filter fun v => decide (v ∈ m.map (·.1))) := by
      rw [List.perm_ext_iff_of_nodup bo.nd (Zrb.filter _)]
      intro v
      rw [List.mem_filter]
      constructor
      · intro hv
        obtain ⟨p, hp, rfl⟩ := List.mem_map.1 hv
        exact ⟨(Zpi _).2 (bo.var p hp).1, by simpa using hv⟩
      · exact fun h => by simpa using h.2
    have h1 := hp.length_eq
    have h2 := List.length_filter_le (fun v => decide (v ∈ m.map (·.1))) Zfi
    rw [List.length_map] at h1
    have h3 : Zfi.length = 6 := rfl
    omega
  apply Zhl.call
  simp only [Zax]
  generalize hh0 : h ++ [Zcn.cells Zbb [] false] = h0
  have s0 : Zaz h.length h h0 := by rw [← hh0]; exact Zau
  have l0 : h0.length = h.length + 1 := by rw [← hh0]; simp
  have o0 : h0[h.length]? = some (.cells Zbb [] false) := by rw [← hh0]; simp
  refine Ylx.mono ?_
  rintro v h2 ⟨rfl, hh2⟩
  simp only [Zyj]
  have s2 : Zaz h0.length h0 h2 := by rw [hh2]; exact Zau
  have hc2 : h2[h0.length]? = some (.cells Zgo [.map (some i)] false) := by rw [hh2]; simp
  obtain ⟨es, clk, hm, hk, hvv, hb, hlt⟩ := id rm
  have S2 := s0.cat s2
  have hm2 := S2.get hm (Own.lt hm)
  have hel : es.length = m.length := by have := congrArg List.length hk; simpa using this
  refine (Zwr hc2 hm2 (vs := m.map (·.1)) (by rw [hk, List.map_map]; rfl) bo.nd hb hlt (by omega)).mono ?_
  rintro v h3 ⟨us, hp, hsrt, hcase⟩
  have hus := Ycw bo hp hsrt
  have hbd : bdL m = us.map fun v => ([v], ((Zho m v).getD default).txt) := by rw [Yeo, hus]
  have hul : us.length ≤ 6 := by rw [hp.length_eq]; simpa using hml
  have hmem : ∀ v ∈ us, ∃ t, Zho m v = some t := fun v hv => by
    rw [hus, List.mem_filter] at hv; exact Option.isSome_iff_exists.1 hv.2
  have hgen : ∃ a c e, v = .slice a us.length c e ∧ Row h3.length h3 a us.length (us.map fun v => Zar.str [v]) ∧ Zaz h2.length h2 h3 := by
    rcases hcase with ⟨rfl, rfl, rfl⟩ | ⟨c, rfl, hc, rfl⟩
    · exact ⟨_, _, _, rfl, Row.nil, Zaz.refl _ _⟩
    · refine ⟨_, _, _, rfl, ⟨by simp, .inr ⟨h2.length, 0, Zcm, _, false, rfl, by simp, by simp; rfl, by simp, by rw [List.drop_zero, List.take_of_length_le (by simp)]⟩⟩, Zau⟩
  obtain ⟨a9, c9, e9, rfl, hrow, s3⟩ := hgen
  simp only [Zah]
  have S3 := S2.cat s3
  have hS3le := S3.le
  have o3 : h3[h.length]? = some (.cells Zbb [] false) := s3.get (s2.get o0 (Own.lt o0)) (by have := Own.lt o0; have := s2.le; omega)
  refine Zhl.L3ind _ _ _ _ _ _ _ (J := fun (g : Nat) a3 n3 c3 e3 x11 h' => x11 = (g : Int) ∧ g ≤ us.length ∧ Zaz h.length h h' ∧ (∀ j, j < h3.length → j ≠ h.length → h'[j]? = h3[j]?) ∧ h3.length ≤ h'.length ∧ n3 = g ∧ n3 ≤ c3 ∧ Vec Zbb h' a3 n3 c3 (Zff eP ((bdL m).take g)) ∧ (∀ i, a3 = some (i, 0) → i = h.length ∨ h3.length ≤ i)) (fun g => us.length - g) ?_ 0 _ _ _ _ _ _
    ⟨rfl, by omega, S3, fun _ _ _ => rfl, Nat.le_refl _, rfl, Nat.le_refl _, Vec.mk1 (by simpa using o3), fun i hi => by cases hi; exact .inl rfl⟩
  rintro g a3 n3 c3 e3 x11 h' ⟨rfl, hg, hSm, hK, hle3, rfl, hnc, hv, ha⟩ R hR
  unfold Zhl.L3t
  have hbl : (bdL m).length = us.length := by rw [hbd]; simp
  refine Zal (fun hlt => ?_) (fun hge => ?_)
  · have hg' : n3 < us.length := by omega
    obtain ⟨j, o, rfl, hj, hc⟩ := hrow.at hg'
    rw [List.getElem?_map, List.getElem?_eq_getElem hg', Option.map_some] at hc
    -- the row of keys has not turned: it lies apart from the row of bindings
    have hjr : j ≠ h.length := by
      rcases hcase with ⟨h0, _⟩ | ⟨c, hsl, _, _⟩
      · rw [h0] at hg'; simp at hg'
      · simp only [Zar.slice.injEq, Option.some.injEq, Prod.mk.injEq] at hsl
        have := s2.le; omega
    have hc' : Zag h' (.ptr (some (j, o + n3))) = some (.str [us[n3]]) := by
      rw [← hc]; simp only [Zag, hK j hj hjr]
    obtain ⟨t, ht⟩ := hmem _ (List.getElem_mem hg')
    have hm' := hSm.get hm (Own.lt hm)
    obtain ⟨jj, bb, hf, _⟩ := Zpx (k := 0) hk hvv ht
    simp only [Zav, Int.toNat_natCast, Nat.mul_one, hc', Zaf, Zhe, hm', Zwh, hf, Option.getD_some, Zax]
    have htk : (bdL m).take (n3 + 1) = (bdL m).take n3 ++ [([us[n3]], t.txt)] := by
      rw [List.take_succ_eq_append_getElem (by omega)]
      congr 2
      have : (bdL m)[n3]? = some ([us[n3]], t.txt) := by
        rw [hbd, List.getElem?_map, List.getElem?_eq_getElem hg', Option.map_some, ht, Option.getD_some]
      exact (List.getElem?_eq_some_iff.1 this).2
    refine ⟨by omega, ?_⟩
    refine hv.pushN Zvc Ybf Zzq Zzk (by rw [Zbe Zdp, List.length_take]; omega) rfl (by omega) rfl (by omega) (fun h6 hl6 hi6 hk6 => ?_)
    simp only [Zah]
    rw [Zbm (by omega)]
    have hle := hSm.le
    have hb9 : ∀ i, a3 = some (i, 0) → h.length ≤ i := fun i hi => by rcases ha i hi with hh | hh <;> omega
    refine hR (n3 + 1) _ _ _ _ _ _ (by omega) ⟨rfl, by omega, ⟨by omega, fun j hj => ?_⟩, fun j hj hne => ?_, by omega, rfl, Nat.le_refl _, Vec.mk1 ?_, fun i hi => by cases hi; right; omega⟩
    · rw [hk6 j (by omega) fun i hi => by have := hb9 i hi; omega]; exact hSm.eq j hj
    · rw [hk6 j (by omega) fun i hi => by rcases ha i hi with hh | hh <;> omega]; exact hK j hj hne
    · rw [hi6, htk, Zki]; rfl
  · apply Zhl.A3x0i
    have : n3 = us.length := by omega
    subst this
    rw [show (bdL m).take us.length = bdL m from List.take_of_length_le (by omega)] at hv
    exact ⟨hSm, _, _, _, _, rfl, hnc, hv.fresh (b := h.length) hbl.symm fun i hi => by rcases ha i hi with hh | hh <;> omega⟩
def Ydh (p s : List Nat) (h : Zaa) (v : Zar) (h' : Zaa) : Prop := Zaz h.length h h' ∧ ∃ a n c e, v = .tup [.slice a n c e, .bool (Zoc p s)] ∧ n ≤ c ∧ Zel Zbb eP h.length h' a n (Zjq p s)
theorem Ztk (p s : List Nat) (h : Zaa) : Zad pg Zio [.str p, .str s] h (Ydh p s h) := by
  apply Zky.call
  refine (Zvp p h).mono ?_
  rintro v h1 ⟨s1, q1, rfl, r1⟩
  simp only [Zlt]
  refine (Zvp s h1).mono ?_
  rintro v h2 ⟨s2, q2, rfl, r2⟩
  simp only [Zlt, Zax]
  have S2 := s1.cat s2
  have s3 : Zaz h2.length h2 (h2 ++ [.map [] 0]) := Zau
  have S3 := S2.cat s3
  have no : Zjo p s = none → Ydh p s h (.tup [.slice none 0 0 true, .bool false]) (h2 ++ [.map [] 0]) := fun hn =>
    ⟨S3, none, 0, 0, true, by unfold Zoc; rw [hn]; rfl, Nat.le_refl _, by unfold Zjq; rw [hn]; exact ⟨rfl, .inl rfl⟩⟩
  cases hp : Zix p with
  | none =>
    rw [hp] at r1; simp only at r1; subst r1
    simp only [Option.isNone_none, Zbx]
    exact no (by unfold Zjo; rw [hp])
  | some a =>
    rw [hp] at r1; simp only at r1
    obtain ⟨i1, rfl, b1, l1⟩ := r1.lt
    simp only [Option.isNone_some, Zbd]
    cases ht : Zix s with
    | none =>
      rw [ht] at r2; simp only at r2; subst r2
      simp only [Option.isNone_none, Zbx]
      exact no (by unfold Zjo; rw [hp, ht])
    | some t =>
      rw [ht] at r2; simp only at r2
      obtain ⟨i2, rfl, b2, l2⟩ := r2.lt
      simp only [Option.isNone_some, Zbd]
      obtain ⟨ha1, ha2, ha3⟩ := Zft.1 hp
      obtain ⟨ht1, ht2, ht3⟩ := Zft.1 ht
      have hms : Zjo p s = matchT [] a t := by unfold Zjo; rw [hp, ht]
      have hl1 := s1.le; have hl2 := s2.le
      have R1 := ((r1.same s2).same s3).mono (S' := fun j => j ≠ h2.length) (fun j hj => by have := hj.2; omega)
      have R2 := (r2.same s3).mono (S' := fun j => j ≠ h2.length) (fun j hj => by have := hj.2; omega)
      have rm : Yiv (h2 ++ [.map [] 0]) h2.length [] := ⟨[], 0, by simp, rfl, rfl, by simp, by simp⟩
      refine (Ydu _ (Nat.le_refl _) ha1 ht1 (by rw [← ht2]; omega) (n := 60) (by rw [← ht2]; exact ht3) BOk.nil (fun j hj => hj) R1 R2 rm).mono ?_
      rintro v h4 ⟨K4, hres⟩
      have S4 : Zaz h.length h h4 := ⟨by have := K4.le; have := S3.le; omega, fun j hj => by rw [K4.eq j (by have := S3.le; omega) (by have := S2.le; omega)]; exact S3.eq j hj⟩
      cases hm : matchT [] a t with
      | none =>
        rw [hm] at hres hms
        subst hres
        simp only [Zai, Bool.not_false, Zbx]
        exact ⟨S4, none, 0, 0, true, by unfold Zoc; rw [hms]; rfl, Nat.le_refl _, by unfold Zjq; rw [hms]; exact ⟨rfl, .inl rfl⟩⟩
      | some m =>
        rw [hm] at hres hms
        obtain ⟨rfl, rm4⟩ := hres
        simp only [Zai, Bool.not_true, Zbd]
        apply Zky.J4i
        refine (Ybw rm4 (Zvz hms)).mono ?_
        rintro v h5 ⟨s5, a5, n5, c5, e5, rfl, hc5, f5⟩
        simp only [Zah]
        refine ⟨S4.cat s5, a5, n5, c5, e5, by unfold Zoc; rw [hms]; rfl, hc5, ?_⟩
        unfold Zjq; rw [hms]
        exact ⟨f5.1, f5.2.imp id fun ⟨i, ha, hb, hi⟩ => ⟨i, ha, by have := S4.le; omega, hi⟩⟩
theorem Zyr (p s : List Nat) (h : Zaa) : Zad pg Zkh [.str p, .str s] h fun v h' => v = .bool (Zoc p s) ∧ Zaz h.length h h' := by
  apply Zni.call
  refine (Ztk p s h).mono ?_
  rintro v h1 ⟨s1, a, n, c, e, rfl, _⟩
  simp only [Zcw, Zae, Zah, Zai, Zap]
  exact ⟨by trivial, s1⟩
end Go.Sim

set_option linter.unusedSimpArgs false
set_option linter.unusedVariables false
namespace Go.Sim

noncomputable def Zox (l : List Nd) (i : Nat) : Bool := Zjs (l.getD i ([], [])).1 && Znp (l.getD i ([], [])).2 && (i == 0 || Zdv (l.getD (i - 1) ([], [])).1 (l.getD i ([], [])).1)
noncomputable def Zhj (l : List Nd) : Bool := (List.range l.length).all (Zox l)
def Zve (l : List Nd) (c : Nat) : List Nat := match l.find? fun p => decide (p.1 = [c]) with | some p => p.2 | none => [c]
def Zjd (l : List Nd) (t : List Nat) : List Nat := t.flatMap (Zve l)
noncomputable def Zpd (l : List Nd) (c : Nat) : Option Ty := match l.find? fun p => decide (p.1 = [c]) with | some p => Zix p.2 | none => none
noncomputable def subst (f : Nat → Option Ty) : Ty → Ty
  | .k c => (f c).getD (.k c)
  | .u c a => .u c (subst f a)
  | .w c a b => .w c (subst f a) (subst f b)
noncomputable def Zfa (l : List Nd) (t : List Nat) : Option (List Nat) := if Zhj l && Znp t && decide ((Zjd l t).length ≤ 60) then some (Zjd l t) else none
theorem Zvq {l : List Nd} (h : Zhj l = true) {i : Nat} (hi : i < l.length) : Zjs l[i].1 = true ∧ Znp l[i].2 = true ∧ (i = 0 ∨ Zdv (l.getD (i - 1) ([], [])).1 l[i].1 = true) := by
  unfold Zhj at h
  rw [List.all_eq_true] at h
  have := h i (List.mem_range.2 hi)
  unfold Zox at this
  rw [Zea hi] at this
  simp only [Bool.and_eq_true, Bool.or_eq_true, beq_iff_eq] at this
  exact ⟨this.1.1, this.1.2, this.2⟩
theorem Zpv {l : List Nd} (h : Zhj l = true) {p : Nd} (hp : p ∈ l) : Zjs p.1 = true ∧ Znp p.2 = true := by
  obtain ⟨i, hi, rfl⟩ := List.getElem_of_mem hp
  exact ⟨(Zvq h hi).1, (Zvq h hi).2.1⟩
theorem Zrz {l : List Nd} (h : Zhj l = true) {c : Nat} (hc : Zdc c = false) : Zve l c = [c] ∧ Zpd l c = none := by
  have : l.find? (fun p => decide (p.1 = [c])) = none := by
    rw [List.find?_eq_none]
    intro p hp e
    have := (Zpv h hp).1
    rw [of_decide_eq_true e] at this
    simp [Zjs, hc] at this
  unfold Zve Zpd
  rw [this]; exact ⟨rfl, rfl⟩
theorem Zsk {l : List Nd} (h : Zhj l = true) (c : Nat) : Zve l c = ((Zpd l c).getD (.k c)).txt ∧ ∀ t, Zpd l c = some t → t.ok = true ∧ t.txt.length ≤ 60 := by
  unfold Zve Zpd
  cases hf : l.find? (fun p => decide (p.1 = [c])) with
  | none => exact ⟨rfl, fun t ht => by cases ht⟩
  | some p =>
    have hp := List.mem_of_find?_eq_some hf
    obtain ⟨t, ht⟩ := Zse (Zpv h hp).2
    obtain ⟨h1, h2, h3⟩ := Zft.1 ht
    simp only [ht]
    refine ⟨by simpa using h2, fun u hu => ?_⟩
    cases hu
    exact ⟨h1, by rw [← h2]; exact h3⟩
theorem Zmc {l : List Nd} (h : Zhj l = true) {c : Nat} (hc : Zzz c = true) : Zve l c = [c] := by
  refine (Zrz h ?_).1
  simp only [Zzz, Bool.or_eq_true, beq_iff_eq] at hc
  rcases hc with (rfl | rfl) | rfl <;> rfl
theorem Yno {c : Nat} {a : Ty} (h : (Ty.u c a).ok = true) : Zdc c = false := by
  cases hv : Zdc c with
  | false => rfl
  | true => have := Zpc h hv; cases this
theorem Yne {c : Nat} {a b : Ty} (h : (Ty.w c a b).ok = true) : Zdc c = false := by
  cases hv : Zdc c with
  | false => rfl
  | true => have := Zpc h hv; cases this
theorem Znd {l : List Nd} (h : Zhj l = true) : ∀ {t : Ty}, t.ok = true → Zjd l t.txt = (subst (Zpd l) t).txt ∧ (subst (Zpd l) t).ok = true
  | .k c, ht => by
    have := Zsk h c
    simp only [Zjd, Ty.txt, List.flatMap_cons, List.flatMap_nil, List.append_nil, subst]
    refine ⟨this.1, ?_⟩
    cases hb : Zpd l c with
    | none => exact ht
    | some t => exact (this.2 t hb).1
  | .u c a, ht => by
    have hv := Yno ht
    have hh := ht
    simp only [Ty.ok, Bool.and_eq_true] at ht
    have ih := Znd h ht.2
    simp only [Zjd] at ih
    simp only [Zjd, Ty.txt, List.flatMap_cons, List.flatMap_append, List.flatMap_nil, List.append_nil, subst, (Zrz h hv).1, Zmc h Ty.m40, Zmc h Ty.m41, ih.1, List.cons_append, List.nil_append]
    refine ⟨by trivial, ?_⟩
    simp only [Ty.ok, Bool.and_eq_true]; exact ⟨ht.1, ih.2⟩
  | .w c a b, ht => by
    have hv := Yne ht
    simp only [Ty.ok, Bool.and_eq_true] at ht
    have ih := Znd h ht.1.2
    have ih2 := Znd h ht.2
    simp only [Zjd] at ih ih2
    simp only [Zjd, Ty.txt, List.flatMap_cons, List.flatMap_append, List.flatMap_nil, List.append_nil, subst, (Zrz h hv).1, Zmc h Ty.m40, Zmc h Ty.m41, Zmc h Ty.m44, ih.1, ih2.1, List.cons_append, List.nil_append]
    refine ⟨by trivial, ?_⟩
    simp only [Ty.ok, Bool.and_eq_true]; exact ⟨⟨ht.1.1, ih.2⟩, ih2.2⟩
theorem Zwg (a b : Nat) : Zdv [a] [b] = decide (a < b) := by
  simp [Zdv]
theorem Yey {m : Bd} (b : BOk 60 m) : Zhj (bdL m) = true := by
  rw [Yeo]
  generalize hvs : (Zfi.filter fun v => (Zho m v).isSome) = vs
  have hs : vs.Pairwise (· < ·) := by rw [← hvs]; exact Zti.filter _
  have hm : ∀ v ∈ vs, Zdc v = true ∧ ∃ t, Zho m v = some t := by
    intro v hv
    rw [← hvs, List.mem_filter] at hv
    exact ⟨(Zpi v).1 hv.1, Option.isSome_iff_exists.1 hv.2⟩
  unfold Zhj
  rw [List.all_eq_true]
  intro i hi
  rw [List.mem_range, List.length_map] at hi
  unfold Zox
  rw [Zea (by simpa using hi), List.getElem_map]
  obtain ⟨h1, t, h2⟩ := hm _ (List.getElem_mem hi)
  have h3 := b.var _ (Zpq h2)
  simp only [h2, Option.getD_some, Zjs, h1, Bool.true_and, Bool.and_eq_true, Bool.or_eq_true, beq_iff_eq]
  refine ⟨Zrm.2 ⟨t, h3.2.1, rfl, h3.2.2⟩, ?_⟩
  cases i with
  | zero => exact .inl rfl
  | succ j =>
    right
    rw [Nat.add_sub_cancel, Zea (by simp; omega), List.getElem_map, Zwg]
    exact decide_eq_true (List.pairwise_iff_getElem.1 hs j (j + 1) (by omega) hi (by omega))
noncomputable def Zhk (i : Ins) (t : List Nat) : Option (List Nd) :=
  match Zjo i.1.2 t with
  | none => none
  | some m => if i.2.all fun n => (Zfa (bdL m) n.2).isSome then some (i.2.map fun n => (n.1, Zjd (bdL m) n.2)) else none
end Go.Sim

set_option linter.unusedVariables false
set_option linter.unusedSimpArgs false
set_option maxRecDepth 20000
namespace Go.Sim
open Go Go.RowKit

theorem Zxg {k : Nat} (h0 : 0 < k) (hn : k ≤ 9223372036854775807) : IntKind.wrap .i64 ((k : Int) - 1) = ((k - 1 : Nat) : Int) := by rw [IntWalk.i64_in _ (by omega)]; omega
theorem Zts {h : Zaa} {a : Pt} {n c : Nat} {e : Bool} {l : List Nd} (r : Row h.length h a (n * 2) (Zff eP l)) (hn : n ≤ 1048576) :
    Zad pg Zia [.slice a n c e] h fun v h' => v = .bool (Zhj l) ∧ Zaz h.length h h' := by
  have hl : l.length = n := by have := r.1; rw [Zbe Zdp] at this; omega
  apply Zdn.call
  refine Zdn.L2ind _ _ _ _ _ _ _ _ _ _ (J := fun (g : Nat) x7 h' => x7 = (g : Int) ∧ g ≤ n ∧ Zaz h.length h h' ∧ (List.range g).all (Zox l) = true) (fun g => n - g) ?_ 0 _ _ ⟨rfl, by omega, Zaz.refl _ _, rfl⟩
  rintro g x7 h' ⟨rfl, hg, hS, hk⟩ R hR
  unfold Zdn.L2t
  refine Zal (fun hlt => ?_) (fun hge => ?_)
  · obtain ⟨i, o, hgl, rfl, hi, hr, _, _⟩ := (r.same hS).pr (k := g) (by omega)
    have hat : Zox l g = (Zjs l[g].1 && Znp l[g].2 && (g == 0 || Zdv (l.getD (g - 1) ([], [])).1 l[g].1)) := by unfold Zox; rw [Zea hgl]
    have no : Zox l g = false → Zhj l = false := fun hno => Zjb hgl hno
    simp only [Zav, Int.toNat_natCast, hr, Zan, Zae, Zap, Zaf, Zax]
    rw [Zgd]
    generalize hq : h' ++ [Zcn.cells Zbb [.str l[g].1, .str l[g].2] false] = hq'
    have sq : Zaz h'.length h' hq' := by rw [← hq]; exact Zau
    have oq : hq'[h'.length]? = some (.cells Zbb [.str l[g].1, .str l[g].2] false) := by rw [← hq]; simp
    simp only [Zaw, Zaq oq, Nat.zero_add, List.getElem?_cons_succ, List.getElem?_cons_zero, Zaf]
    refine ⟨by omega, (Zym l[g].1).mono ?_⟩
    rintro v h2 ⟨rfl, rfl⟩
    have Sq := hS.cat sq
    simp only [Zai, true_and]
    refine Zbs (fun b1 => ⟨by rw [no (by rw [hat, b1]; rfl)], Sq⟩) (fun b1 => ?_)
    simp only [Zaq oq, List.getElem?_cons_succ, List.getElem?_cons_zero, Zaf]
    refine (Zkr l[g].2 h2).mono ?_
    rintro v h3 ⟨rfl, s3⟩
    simp only [Zai]
    have S3 := Sq.cat s3
    refine Zbs (fun b2 => ⟨by rw [no (by rw [hat, b1, b2]; rfl)], S3⟩) (fun b2 => ?_)
    have go : (g = 0 ∨ Zdv (l.getD (g - 1) ([], [])).1 l[g].1 = true) → Zdn.J6 (fun v h' => v = .bool (Zhj l) ∧ Zaz h.length h h') R (g : Int) (((n : Nat) : Int)) (some (i, o)) n c e (some (i, o)) n c e h3 := by
      intro hz
      apply Zdn.J6i
      rw [Zbm (by omega)]
      refine hR (g + 1) _ _ (by omega) ⟨rfl, by omega, S3, Zgw hk ?_⟩
      rw [hat, b1, b2]
      rcases hz with rfl | hz
      · rfl
      · rw [hz]; simp
    refine Zal (fun hpos => ?_) (fun hz => go (.inl (by omega)))
    have hg0 : 0 < g := by omega
    obtain ⟨i', o', hgl', he, _, _, hc', _⟩ := (r.same S3).pr (k := g - 1) (by omega)
    cases he
    rw [Zxg hg0 (by omega)]
    simp only [Zav, Int.toNat_natCast, Nat.add_zero, hc', Zaq (s3.get oq (Own.lt oq)), List.getElem?_cons_zero, Zaf, true_and]
    have hgd : l.getD (g - 1) ([], []) = l[g - 1] := Zea hgl'
    refine ⟨by omega, Zbs (fun b3 => ⟨by rw [no (by rw [hat, b1, b2, hgd, b3]; simp; omega)], S3⟩) (fun b3 => go (.inr (by rw [hgd]; exact b3)))⟩
  · apply Zdn.A2x0i
    have : g = n := by omega
    subst this
    exact ⟨by unfold Zhj; rw [hl, hk], hS⟩
theorem Ymg {s : List Nat} {g : Nat} (hg : g < s.length) : sub s (g : Int) (((g + 1 : Nat) : Int)) = [s[g]] := by
  unfold sub
  rw [Int.toNat_natCast, Int.toNat_natCast, List.take_succ_eq_append_getElem hg, List.drop_append_of_le_length (by simp; omega), List.drop_of_length_le (by simp; omega)]; rfl
theorem Zzc {l : List Nd} (h : Zhj l = true) (c : Nat) : (Zve l c).length ≤ 60 := by
  obtain ⟨h1, h2⟩ := Zsk h c
  rw [h1]
  cases hb : Zpd l c with
  | none => simp [Ty.txt]
  | some t => exact (h2 t hb).2
theorem Zsn {l : List Nd} (h : Zhj l = true) : ∀ (t : List Nat), (Zjd l t).length ≤ 60 * t.length
  | [] => by simp [Zjd]
  | c :: t => by
    have h1 := Zzc h c
    have h2 := Zsn h t
    simp only [Zjd, List.flatMap_cons, List.length_append, List.length_cons] at h2 ⊢
    omega
theorem Ycz {l : List Nd} {t : List Nat} {g : Nat} (hg : g < t.length) : Zjd l (t.take (g + 1)) = Zjd l (t.take g) ++ Zve l t[g] := by
  unfold Zjd; rw [List.take_succ_eq_append_getElem hg, List.flatMap_append]; simp
noncomputable def Zlw (l : List Nd) (t : List Nat) : Zar := match Zfa l t with | some u => .tup [.str u, .bool true] | none => .tup [.str [], .bool false]
theorem Ztr {h : Zaa} {a : Pt} {n c : Nat} {e : Bool} {l : List Nd} {t : List Nat} (r : Row h.length h a (n * 2) (Zff eP l)) (hn : n ≤ 1048576) :
    Zad pg Zhy [.slice a n c e, .str t] h fun v h' => v = Zlw l t ∧ Zaz h.length h h' := by
  have hl : l.length = n := by have := r.1; rw [Zbe Zdp] at this; omega
  apply Zcl.call
  refine (Zts r hn).mono ?_
  rintro v h1 ⟨rfl, s1⟩
  simp only [Zai]
  refine Zbs (fun b1 => ⟨by unfold Zlw Zfa; rw [b1]; rfl, s1⟩) (fun b1 => ?_)
  refine (Zkr t h1).mono ?_
  rintro v h2 ⟨rfl, s2⟩
  simp only [Zai]
  have S2 := s1.cat s2
  refine Zbs (fun b2 => ⟨by unfold Zlw Zfa; rw [b1, b2]; rfl, S2⟩) (fun b2 => ?_)
  have ht60 := Zys b2
  apply Zcl.J3i
  refine Zcl.L5ind _ _ _ _ _ _ _ (J := fun (g : Nat) x6 x21 h' => x21 = (g : Int) ∧ g ≤ t.length ∧ Zaz h.length h h' ∧ x6 = Zjd l (t.take g)) (fun g => t.length - g) ?_ 0 _ _ _ ⟨rfl, by omega, S2, by simp [Zjd]⟩
  rintro g x6 x21 h' ⟨rfl, hg, hS, rfl⟩ R hR
  unfold Zcl.L5t
  refine Zal (fun hlt => ?_) (fun hge => ?_)
  · have hgt : g < t.length := by omega
    rw [Zbm (by omega), Ymg hgt]
    refine ⟨⟨by omega, by omega, by omega⟩, ?_⟩
    have hal := Zsn b1 (t.take g)
    rw [List.length_take] at hal
    have fin : ∀ (h3 : Zaa) (x8 : List Nat), Zaz h.length h h3 → x8 = Zve l t[g] → Zcl.A9x2 (fun v h' => v = Zlw l t ∧ Zaz h.length h h') R (Zjd l (t.take g)) x8 (g : Int) (((t.length : Nat) : Int)) t a n c e h3 := by
      intro h3 x8 s3 hx
      apply Zcl.A9x2i
      have := Zzc b1 t[g]
      rw [hx, Zbm (by omega)]
      exact ⟨by omega, hR (g + 1) _ _ _ (by omega) ⟨rfl, by omega, s3, (Ycz hgt).symm⟩⟩
    refine Zcl.L9ind _ _ _ _ _ _ _ _ _ _ _ _ _ _ _ (J := fun (q : Nat) x8 x31 h3 => x31 = (q : Int) ∧ q ≤ n ∧ Zaz h.length h h3 ∧ x8 = [t[g]] ∧ (l.take q).find? (fun p => decide (p.1 = [t[g]])) = none) (fun q => n - q) ?_ 0 _ _ _ ⟨rfl, by omega, hS, rfl, rfl⟩
    rintro q x8 x31 h3 ⟨rfl, hq, hS3, rfl, hf⟩ R9 hR9
    unfold Zcl.L9t
    refine Zal (fun hlt3 => ?_) (fun hge3 => ?_)
    · obtain ⟨i, o, hql, rfl, hi, hr, _, _⟩ := (r.same hS3).pr (k := q) (by omega)
      simp only [Zav, Int.toNat_natCast, hr, Zan, Zae, Zap, Zaf, Zax]
      rw [Zgd]
      have sq : Zaz h3.length h3 (h3 ++ [Zcn.cells Zbb [.str l[q].1, .str l[q].2] false]) := Zau
      simp only [Zaw, Zeu, Nat.zero_add, List.getElem?_cons_succ, List.getElem?_cons_zero, Zaf]
      refine ⟨by omega, Zal (fun he => ?_) (fun he => ?_)⟩
      · refine fin _ _ (hS3.cat sq) ?_
        unfold Zve
        rw [Yff hql hf (by simp [he])]
      · rw [Zbm (by omega)]
        exact hR9 (q + 1) _ _ _ (by omega) ⟨rfl, by omega, hS3.cat sq, rfl, Zwb hql hf (by simp [he])⟩
    · have : q = n := by omega
      subst this
      rw [List.take_of_length_le (by omega)] at hf
      exact fin _ _ hS3 (by unfold Zve; rw [hf])
  · apply Zcl.A5x0i
    have : g = t.length := by omega
    subst this
    rw [List.take_length]
    refine Zal (fun hbig => ⟨?_, hS⟩) (fun hsm => ⟨?_, hS⟩)
    · unfold Zlw Zfa
      rw [if_neg (by simp; omega)]
    · unfold Zlw Zfa
      rw [if_pos (by rw [b1, b2]; simp; omega)]
def Yig (i : Ins) (t : List Nat) (h : Zaa) (v : Zar) (h' : Zaa) : Prop := Zaz h.length h h' ∧ ∃ a n c e, v = .tup [.slice a n c e, .bool (Zhk i t).isSome] ∧ Zel Zaj eP h.length h' a n ((Zhk i t).getD [])
theorem Yal : pg.underlying Znx = some (.slice Zaj) := by kernel_rfl
theorem Yhy : pg.cellsOf Zaj = 2 := by kernel_rfl
theorem Yjo : pg.okElem Zaj = true := by kernel_rfl
theorem Yjc : pg.bytesOf Zaj ≤ 127 := Nat.le_of_ble_eq_true (by kernel_rfl)
noncomputable def Ymh (l : List Nd) (n : Nd) : Nd := (n.1, (Zfa l n.2).getD [])
theorem Ydq {l : List Nd} {ns : List Nd} (h : ns.all (fun n => (Zfa l n.2).isSome) = true) : ns.map (Ymh l) = ns.map fun n => (n.1, Zjd l n.2) := by
  apply List.map_congr_left
  intro n hn
  have := List.all_eq_true.1 h n hn
  obtain ⟨u, hu⟩ := Option.isSome_iff_exists.1 this
  unfold Ymh
  rw [hu]
  unfold Zfa at hu
  split at hu
  · cases hu; rfl
  · cases hu
theorem Ylk {h : Zaa} {a : Pt} {n c : Nat} {e : Bool} {i : Ins} {t : List Nat} (r : Row h.length h a (n * 2) (Zff eP i.2)) (hn : n ≤ 1048576) :
    Zad pg Zhn [.agg [.str i.1.1, .str i.1.2, .slice a n c e], .str t] h (Yig i t h) := by
  have hl : i.2.length = n := by have := r.1; rw [Zbe Zdp] at this; omega
  apply Zda.call
  simp only [Zax]
  generalize hh0 : h ++ [Zcn.cells Zas [.str i.1.1, .str i.1.2, .slice a n c e] false] = h0
  have s0 : Zaz h.length h h0 := by rw [← hh0]; exact Zau
  have o0 : h0[h.length]? = some (.cells Zas [.str i.1.1, .str i.1.2, .slice a n c e] false) := by rw [← hh0]; simp
  simp only [Zaq o0, Nat.zero_add, List.getElem?_cons_succ, List.getElem?_cons_zero, Zaf]
  refine (Ztk i.1.2 t h0).mono ?_
  rintro v h1 ⟨s1, ma, mn, mc, me, rfl, hmc, fm⟩
  simp only [Zcw, Zae, Zah, Zai, Zap]
  generalize hh2 : h1 ++ [Zcn.cells Zaj [] false] = h2
  have s2 : Zaz h1.length h1 h2 := by rw [← hh2]; exact Zau
  have o2 : h2[h1.length]? = some (.cells Zaj [] false) := by rw [← hh2]; simp
  have S2 := (s0.cat s1).cat s2
  have hml : (Zjq i.1.2 t).length ≤ 6 := by unfold Zjq; split <;> first | exact Yht _ | simp
  have hmn := fm.1
  have x2 := s2.get (s1.get o0 (Own.lt o0)) (by have := Own.lt o0; have := s1.le; omega)
  simp only [Zaq x2, List.getElem?_cons_succ, List.getElem?_cons_zero, Zah]
  have hS1le : h.length ≤ h1.length := (s0.cat s1).le
  generalize hml' : Zjq i.1.2 t = ml at *
  refine Zda.L4ind _ _ _ _ _ _ _ _ _ _ (J := fun (g : Nat) x7 a8 n8 c8 e8 x25 h' => x25 = (g : Int) ∧ g ≤ n ∧ Zaz h.length h h' ∧ h1.length < h'.length ∧ Row h'.length h' ma (mn * 2) (Zff eP ml) ∧ x7 = (Zoc i.1.2 t && (i.2.take g).all fun p => (Zfa ml p.2).isSome) ∧ n8 = g ∧ Vec Zaj h' a8 n8 c8 (Zff eP ((i.2.take g).map (Ymh ml))) ∧ (∀ j, a8 = some (j, 0) → h1.length ≤ j)) (fun g => n - g) ?_ 0 _ _ _ _ _ _ _
    ⟨rfl, by omega, S2, Own.lt o2, (fm.row Zdp).same' s2, by simp, rfl, Vec.mk1 (by simpa using o2), fun j hj => by cases hj; omega⟩
  rintro g x7 a8 n8 c8 e8 x25 h' ⟨rfl, hg, hS, hlt1, hrm, rfl, rfl, hv, ha⟩ R hR
  unfold Zda.L4t
  refine Zal (fun hlt => ?_) (fun hge => ?_)
  · obtain ⟨j, o, hgl, rfl, hj, hr, _, _⟩ := (r.same hS).pr (k := n8) (by omega)
    simp only [Zav, Int.toNat_natCast, hr, Zan, Zae, Zap, Zaf, Zax]
    rw [Zgd]
    generalize hq : h' ++ [Zcn.cells Zaj [.str i.2[n8].1, .str i.2[n8].2] false] = hq'
    have sq : Zaz h'.length h' hq' := by rw [← hq]; exact Zau
    have oq : hq'[h'.length]? = some (.cells Zaj [.str i.2[n8].1, .str i.2[n8].2] false) := by rw [← hq]; simp
    simp only [Zaw, Zaq oq, Nat.zero_add, List.getElem?_cons_succ, List.getElem?_cons_zero, Zaf]
    refine ⟨by omega, (Ztr (hrm.same' sq) (by omega)).mono ?_⟩
    rintro v h3 ⟨rfl, s3⟩
    have hshape : Zlw ml i.2[n8].2 = .tup [.str ((Zfa ml i.2[n8].2).getD []), .bool (Zfa ml i.2[n8].2).isSome] := by
      unfold Zlw; cases Zfa ml i.2[n8].2 <;> rfl
    rw [hshape]
    simp only [Zcw, Zae, Zaf, Zai, Zap]
    have S3 := (hS.cat sq).cat s3
    have o3 := s3.get oq (Own.lt oq)
    have tk : (i.2.take (n8 + 1)).all (fun p => (Zfa ml p.2).isSome) = ((i.2.take n8).all (fun p => (Zfa ml p.2).isSome) && (Zfa ml i.2[n8].2).isSome) := by
      rw [List.take_succ_eq_append_getElem hgl, List.all_append]; simp
    have go : ∀ b9, b9 = (Zoc i.1.2 t && (i.2.take (n8 + 1)).all fun p => (Zfa ml p.2).isSome) → Zda.J8 (Yig i t h) R a8 n8 c8 e8 h'.length 0 ((Zfa ml i.2[n8].2).getD []) (n8 : Int) (((n : Nat) : Int)) (some (j, o)) n c e ma mn mc me b9 h3 := by
      intro b9 hb9
      apply Zda.J8i
      simp only [Zaq o3, Nat.zero_add, List.getElem?_cons_zero, Zaf, Zax]
      refine ((hv.same sq).same s3).pushN Yal Yhy Yjo Yjc (by rw [Zbe Zdp]; simp; omega) rfl (by omega) rfl (by omega) (fun h6 hl6 hi6 hk6 => ?_)
      simp only [Zah]
      apply Zda.J9i
      rw [Zbm (by omega)]
      have hle := S3.le
      refine hR (n8 + 1) _ _ _ _ _ _ _ (by omega) ⟨rfl, by omega, ⟨by omega, fun j hj => ?_⟩, by have := sq.le; have := s3.le; omega, ?_, hb9, rfl, Vec.mk1 ?_, fun j hj => by cases hj; have := sq.le; have := s3.le; omega⟩
      · rw [hk6 j (by omega) fun q hq => by have := ha q hq; omega]; exact S3.eq j hj
      · have hr3 := (hrm.same' sq).same' s3
        obtain ⟨hx1, hx2⟩ := hr3
        rcases fm.2 with h0 | ⟨q2, hq2, _, hq3⟩
        · exact ⟨hx1, .inl (by omega)⟩
        · refine ⟨hx1, hx2.imp id ?_⟩
          rintro ⟨q, o', ty, all, ro, hqa, hqb, hqg, hq4, hq5⟩
          refine ⟨q, o', ty, all, ro, hqa, by omega, ?_, hq4, hq5⟩
          rw [hk6 q hqb fun q' hq' => ?_]
          · exact hqg
          · intro e
            subst e
            have h1l := ha q hq'
            rw [hqa] at hq2; cases hq2
            have := Own.lt hq3; omega
      · rw [hi6, List.take_succ_eq_append_getElem hgl, List.map_append, Zki]; rfl
    refine Zdu (fun hb => go _ (by rw [tk, ← Bool.and_assoc, hb]; rfl)) (fun hb => go _ (by rw [tk, ← Bool.and_assoc, hb]; rfl))
  · apply Zda.A4x0i
    have : n8 = n := by omega
    subst this
    rw [show i.2.take n8 = i.2 from List.take_of_length_le (by omega)] at hv ⊢
    have hnw : Zhk i t = if Zoc i.1.2 t && i.2.all (fun p => (Zfa ml p.2).isSome) then some (i.2.map (Ymh ml)) else none := by
      unfold Zhk Zoc
      unfold Zjq at hml'
      cases hm : Zjo i.1.2 t with
      | none => rfl
      | some m =>
        rw [hm] at hml'
        simp only at hml'
        subst hml'
        simp only [Option.isSome_some, Bool.true_and]
        by_cases hall : i.2.all (fun p => (Zfa (bdL m) p.2).isSome) = true
        · rw [if_pos hall, if_pos hall, Ydq hall]
        · rw [if_neg hall, if_neg hall]
    refine Zbs (fun hb => ?_) (fun hb => ?_)
    · have : Zhk i t = none := by rw [hnw, hb]; rfl
      exact ⟨hS, none, 0, 0, true, by rw [this]; rfl, by rw [this]; exact ⟨rfl, .inl rfl⟩⟩
    · have : Zhk i t = some (i.2.map (Ymh ml)) := by rw [hnw, hb]; rfl
      refine ⟨hS, a8, n8, c8, e8, by rw [this]; rfl, ?_⟩
      rw [this]
      exact hv.fresh (b := h.length) (by simp; omega) fun j hj => by have := ha j hj; omega
end Go.Sim
