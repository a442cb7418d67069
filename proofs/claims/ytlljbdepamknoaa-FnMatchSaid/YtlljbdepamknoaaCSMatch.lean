/- A part of the proof of a statement of this seat: see the text that holds the theorem. No condition. -/
import Derived.Test.YtlljbdepamknoaaPTCSApply
import Derived.Test.YtlljbdepamknoaaCGrow
import Derived.Test.YtlljbdepamknoaaNm
import Derived.Test.YtlljbdepamknoaaCTy
import Derived.Test.YtlljbdepamknoaaSimX
import Derived.Test.YtlljbdepamknoaaShelf
import Derived.Test.YtlljbdepamknoaaPTCMatch2
set_option linter.unusedVariables false
set_option linter.unusedSimpArgs false
set_option linter.all false
set_option linter.unusedVariables false
set_option linter.unusedSimpArgs false
set_option maxRecDepth 20000
namespace Go.Sim
open Go Go.RowKit

theorem Vec.lt' {ty : TypeId} {h : Zaa} {a : Pt} {i n c : Nat} {cs : List Zac} (x : Vec ty h a n c cs) (e : a = some (i, 0)) : i < h.length := by subst e; exact x.lt
theorem Zjh.keep {S : Nat → Prop} {h h' : Zaa} (hh : ∀ j, S j → j < h.length → h'[j]? = h[j]?) : ∀ {t : Ty} {p : Pt}, Zjh S h t p → Zjh S h' t p
  | .k d, p, ⟨i, a, c, e, hp, si, hi⟩ => ⟨i, a, c, e, hp, si, by rw [hh i si (Own.lt hi)]; exact hi⟩
  | .u d x, p, ⟨i, j, c, e, q, hp, si, hi, sj, hj, hq⟩ => ⟨i, j, c, e, q, hp, si, by rw [hh i si (Own.lt hi)]; exact hi, sj, by rw [hh j sj (Own.lt hj)]; exact hj, hq.keep hh⟩
  | .w d x y, p, ⟨i, j, c, e, q, r, hp, si, hi, sj, hj, hq, hr⟩ => ⟨i, j, c, e, q, r, hp, si, by rw [hh i si (Own.lt hi)]; exact hi, sj, by rw [hh j sj (Own.lt hj)]; exact hj, hq.keep hh, hr.keep hh⟩
theorem Zjh.same {S : Nat → Prop} {h h' : Zaa} {t : Ty} {p : Pt} (r : Zjh S h t p) (s : Zbk h.length h h') : Zjh S h' t p := r.keep fun j _ hj => s.eq j hj
theorem Zdo.keep {S : Nat → Prop} {h h' : Zaa} (hh : ∀ j, S j → j < h.length → h'[j]? = h[j]?) : ∀ {t : Ty} {v : List Zac}, Zdo S h t v → Zdo S h' t v
  | .k d, _, h => h
  | .u d x, _, ⟨j, c, e, r, hv, sj, hj, hr⟩ => ⟨j, c, e, r, hv, sj, by rw [hh j sj (Own.lt hj)]; exact hj, hr.keep hh⟩
  | .w d x y, _, ⟨j, c, e, r, r', hv, sj, hj, hr, hr'⟩ => ⟨j, c, e, r, r', hv, sj, by rw [hh j sj (Own.lt hj)]; exact hj, hr.keep hh, hr'.keep hh⟩
theorem Ty.txt_inter (t : Ty) (h : t.ps ≠ []) : t.txt = ([t.hd] ++ [40]) ++ [44].intercalate (t.ps.map Ty.txt) ++ [41] := by
  cases t with
  | k c => simp [Ty.ps] at h
  | u c a => simp [Ty.ps, Ty.txt, Ty.hd, List.intercalate]
  | w c a b => simp [Ty.ps, Ty.txt, Ty.hd, List.intercalate]
theorem Ty.size_part {t x : Ty} (h : x ∈ t.ps) : x.size < t.size := by
  cases t with
  | k c => simp [Ty.ps] at h
  | u c a => simp [Ty.ps] at h; subst h; simp [Ty.size]
  | w c a b => simp [Ty.ps] at h; rcases h with rfl | rfl <;> simp [Ty.size] <;> omega
theorem Ty.len_part {t x : Ty} (h : x ∈ t.ps) : x.txt.length < t.txt.length := by
  cases t with
  | k c => simp [Ty.ps] at h
  | u c a => simp [Ty.ps] at h; subst h; simp [Ty.txt]; omega
  | w c a b => simp [Ty.ps] at h; rcases h with rfl | rfl <;> simp [Ty.txt] <;> omega
theorem Zwy : ∀ (N : Nat) {S : Nat → Prop} {h : Zaa} {t : Ty} {p : Pt}, t.size ≤ N → t.txt.length ≤ 1048576 → Zjh S h t p → Zae pg Zei [.ptr p] h fun x h' => x = .str t.txt ∧ Zbk h.length h h'
  | 0, S, h, t, p, hN, _, _ => by have := t.size_ps; omega
  | N + 1, S, h, t, p, hN, hB, r => by
    obtain ⟨i, a, c, e, qs, rfl, si, hi, hrow, hS, hql, hq⟩ := r.parts
    have hps2 : t.ps.length ≤ 2 := by cases t <;> simp [Ty.ps]
    apply Zdi.call
    simp only [Zan, Zap hi, Nat.zero_add, List.getElem?_cons_succ, List.getElem?_cons_zero, Zai, Zam]
    refine Zcl (fun hz0 => ?_) (fun hz0 => ?_)
    · have : t.ps.length = 0 := by omega
      refine ⟨?_, Zbk.refl _ _⟩
      cases t <;> simp [Ty.ps] at this
      rfl
    · simp only [Zbf]
      generalize hh0 : h ++ [Zce.cells Zbg [] false] = h0
      have s0 : Zbk h.length h h0 := by rw [← hh0]; exact Zbd
      have i0 := s0.get hi (Own.lt hi)
      have l0 : h0.length = h.length + 1 := by rw [← hh0]; simp
      have v0 : h0[h.length]? = some (.cells Zbg [] false) := by rw [← hh0]; simp
      simp only [Zap i0, List.getElem?_cons_succ, List.getElem?_cons_zero, Zai]
      refine Zdi.L5ind _ _ _ _ _ _ _ (J := fun (g : Nat) a3 n3 c3 e3 x22 h' => x22 = (g : Int) ∧ g ≤ t.ps.length ∧ Zbk h.length h h' ∧ n3 = g ∧ Vec Zbg h' a3 n3 c3 (strs ((t.ps.take g).map Ty.txt)) ∧ (∀ i, a3 = some (i, 0) → h.length ≤ i)) (fun g => t.ps.length - g) ?_ 0 _ _ _ _ _ _
        ⟨rfl, by omega, s0, rfl, Vec.mk1 (by simpa using v0), fun i hi => by cases hi; omega⟩
      rintro g a3 n3 c3 e3 x22 h' ⟨rfl, hg, hSm, rfl, hv, ha⟩ R hR
      unfold Zdi.L5t
      have i1 := hSm.get hi (Own.lt hi)
      refine Zaq (fun hlt => ?_) (fun hge => ?_)
      · have hg' : n3 < t.ps.length := by omega
        obtain ⟨j, o, rfl, hj, hc⟩ := (hrow.same hSm).at hg'
        have hqg : n3 < qs.length := by omega
        rw [List.getElem?_map, List.getElem?_eq_getElem hqg] at hc
        simp only [Zan, Int.toNat_natCast, Nat.mul_one, hc, Option.map_some, Zfi]
        have hk := hq n3 qs[n3] t.ps[n3] (List.getElem?_eq_getElem hqg) (List.getElem?_eq_getElem hg')
        have hm := List.getElem_mem hg'
        have h1 := Ty.size_part hm
        have h2 := Ty.len_part hm
        refine ⟨by omega, (Zwy N (by omega) (by omega) (hk.same hSm)).mono ?_⟩
        rintro x h2 ⟨rfl, s2⟩
        simp only [Zam, Zbf]
        refine (hv.same s2).push Zmn Zpn Zqa Zqn (by simp; omega) rfl (by omega) (fun h4 hl4 hi4 hk4 => ?_)
        simp only [Zai]
        rw [Zch (by omega)]
        have S2 := hSm.cat s2
        have hle := S2.le
        refine hR (n3 + 1) _ _ _ _ _ _ (by omega) ⟨rfl, by omega, ⟨by omega, fun j hj => ?_⟩, rfl, Vec.mk1 ?_, fun i hi => by cases hi; omega⟩
        · rw [hk4 j (by omega) fun i hi => by have := ha i hi; omega]; exact S2.eq j hj
        · rw [hi4, List.take_succ_eq_append_getElem hg', List.map_append, Zrn]; rfl
      · apply Zdi.A5x0i
        have : n3 = t.ps.length := by omega
        subst this
        rw [List.take_length] at hv
        have hne : t.ps ≠ [] := fun e => hz0 (by rw [e]; rfl)
        have htx := t.txt_inter hne
        have hln := congrArg List.length htx
        simp at hln
        simp only [Zan, Zap i1, Nat.zero_add, List.getElem?_cons_zero, Zam]
        refine ⟨by simp, ?_⟩
        refine (Ztn (hv.row (by simp)) (by omega) (by omega)).mono ?_
        rintro v h3 ⟨rfl, rfl⟩
        simp only [Zam]
        refine ⟨Zap i1, by simp; omega, by simp; omega, ?_⟩
        exact ⟨by rw [htx], hSm⟩
theorem Zdo.get {S : Nat → Prop} {h : Zaa} {t : Ty} {a : Pt} {vs : List (List Zac)} (hrow : Row h.length h a (t.ps.length * 2) vs.flatten) (hvl : vs.length = t.ps.length) (hp : ∀ (k : Nat) (w : List Zac) (x : Ty), vs[k]? = some w → t.ps[k]? = some x → Zdo S h x w) {g : Nat} (hg' : g < t.ps.length) :
    ∃ i o a2 c2 e2, a = some (i, o) ∧ Zdd h (.ptr (some (i, o + g * 2))) 2 = some [.int .u8 (t.ps[g].hd : Int), .slice a2 t.ps[g].ps.length c2 e2] ∧ Zdo S h t.ps[g] [.int .u8 (t.ps[g].hd : Int), .slice a2 t.ps[g].ps.length c2 e2] := by
  have hgv : g < vs.length := by omega
  have hk := hp g vs[g] t.ps[g] (List.getElem?_eq_getElem hgv) (List.getElem?_eq_getElem hg')
  have hz : ∀ v ∈ vs, v.length = 2 := fun v hv => by
    obtain ⟨k, hk, rfl⟩ := List.mem_iff_getElem.1 hv
    exact (hp k vs[k] (t.ps[k]'(by omega)) (List.getElem?_eq_getElem hk) (List.getElem?_eq_getElem (by omega))).len
  have hfl : vs.flatten = Zdk (fun (v : {v : List Zac // v.length = 2}) => v.1) (vs.attach.map fun v => ⟨v.1, hz v.1 v.2⟩) := by
    unfold Zdk; rw [List.flatMap_map]; simp
  rw [hfl] at hrow
  obtain ⟨i, o, hk', ha, _, hr, _⟩ := Row.el (enc := fun (v : {v : List Zac // v.length = 2}) => v.1) (fun x => x.2) hrow (by simp [hvl]) (k := g) hg' (by omega)
  obtain ⟨a2, c2, e2, hv2⟩ := hk.shape
  rw [hv2] at hk
  exact ⟨i, o, a2, c2, e2, ha, by rw [hr]; simp [hv2], hk⟩
theorem Zvo {g : Nat} (hg : g < 2) : sub [40, 44] (g : Int) ((g : Int) + 1) = [Zij g] := by
  rcases g with _ | _ | g
  · rfl
  · rfl
  · omega
theorem Ty.hd_lt (t : Ty) (h : t.ok = true) : t.hd < 256 := by
  have := Ty.ok_ar h
  unfold arN Zfb Zbj at this
  simp only [Bool.or_eq_true, beq_iff_eq] at this
  split at this
  · omega
  · split at this
    · omega
    · split at this
      · omega
      · omega
def Zgy : Nat → List Ty → List Nat
  | _, [] => []
  | g, x :: l => Zij g :: (x.txt ++ Zgy (g + 1) l)
theorem Zkw : ∀ (l : List Ty) (g k : Nat) (h : k < l.length), Zgy g (l.take (k + 1)) = Zgy g (l.take k) ++ Zij (g + k) :: l[k].txt
  | x :: l, g, 0, _ => by simp [Zgy]
  | x :: l, g, k + 1, h => by
    have := Zkw l (g + 1) k (by simpa using h)
    simp only [List.take_succ_cons, Zgy, this, List.getElem_cons_succ, List.cons_append, List.append_assoc]
    rw [show g + 1 + k = g + (k + 1) by omega]
theorem Zmz : ∀ (l : List Ty) (g k : Nat), (Zgy g (l.take k)).length ≤ (Zgy g l).length
  | [], g, k => by simp [Zgy]
  | x :: l, g, 0 => by simp [Zgy]
  | x :: l, g, k + 1 => by
    have := Zmz l (g + 1) k
    simp only [List.take_succ_cons, Zgy, List.length_cons, List.length_append]; omega
theorem Ty.txt_mids (t : Ty) : t.txt = t.hd :: Zgy 0 t.ps ++ (if t.ps = [] then [] else [41]) := by
  cases t <;> simp [Ty.ps, Ty.txt, Ty.hd, Zgy, Zij]
theorem Zii : ∀ (N : Nat) {S : Nat → Prop} {h : Zaa} {t : Ty} {v : List Zac}, t.size ≤ N → t.txt.length ≤ 1048576 → t.ok = true → Zdo S h t v → Zae pg Zde [.agg v] h fun x h' => x = .str t.txt ∧ Zbk h.length h h'
  | 0, S, h, t, v, hN, _, _, _ => by have := t.size_ps; omega
  | N + 1, S, h, t, v, hN, hB, hok, r => by
    obtain ⟨a, c, e, vs, rfl, hrow, hS, hvl, hp⟩ := r.parts
    have hps2 : t.ps.length ≤ 2 := by cases t <;> simp [Ty.ps]
    have htx := t.txt_mids
    have hln := congrArg List.length htx
    rw [List.length_append, List.length_cons] at hln
    apply Zdh.call
    simp only [Zbf, Zkq, Nat.zero_add, List.getElem?_cons_succ, List.getElem?_cons_zero, Zai, Zaf]
    generalize hh0 : h ++ [Zce.cells Zab [.int .u8 (t.hd : Int), .slice a t.ps.length c e] false] = h0
    have s0 : Zbk h.length h h0 := by rw [← hh0]; exact Zbd
    have o0 : h0[h.length]? = some (.cells Zab [.int .u8 (t.hd : Int), .slice a t.ps.length c e] false) := by rw [← hh0]; simp
    generalize hh1 : h0 ++ [Zce.cells Zwh [.int .u8 (t.hd : Int)] false] = h1
    have s1 : Zbk h0.length h0 h1 := by rw [← hh1]; exact Zbd
    have o1 := s1.get o0 (Own.lt o0)
    have hro : rowOf h1 (some (h0.length, 0)) 1 = some [.int .u8 (t.hd : Int)] := by rw [← hh1]; simp [rowOf, Zdd]
    rw [hro]
    simp only [Zaz, Zie, chk, decide_true]
    rw [show ((t.hd : Int)).toNat = t.hd from Int.toNat_natCast _]
    refine ⟨⟨by omega, by have := t.hd_lt hok; omega⟩, ?_⟩
    simp only [Zap o1, List.getElem?_cons_succ, List.getElem?_cons_zero, Zai]
    refine Zdh.L3ind _ _ _ _ _ _ _ _ (J := fun (g : Nat) x3 x13 h' => x13 = (g : Int) ∧ g ≤ t.ps.length ∧ Zbk h.length h h' ∧ Zbk h1.length h1 h' ∧ x3 = t.hd :: Zgy 0 (t.ps.take g)) (fun g => t.ps.length - g) ?_ 0 _ _ _ ⟨rfl, by omega, s0.cat s1, Zbk.refl _ _, by simp [Zgy]⟩
    rintro g x3 x13 h' ⟨rfl, hg, hSm, hS1, rfl⟩ R hR
    unfold Zdh.L3t
    have o2 := hS1.get o1 (Own.lt o1)
    refine Zaq (fun hlt => ?_) (fun hge => ?_)
    · have hg' : g < t.ps.length := by omega
      obtain ⟨i, o, a2, c2, e2, rfl, hr, hk⟩ := Zdo.get (hrow.same' hSm) hvl (fun k w x h1 h2 => (hp k w x h1 h2).same hSm) hg'
      simp only [Zan, Int.toNat_natCast, hr, Zaz, Zaj, Zau, Zaf, Zai, Zbf]
      rw [Zhy]
      simp only [Zat]
      rw [Zzt]
      simp only [Zaz, Zaj, Zau, Zaf, Zai]
      rw [Zch (by omega), show (((g + 1 : Nat) : Int)) = (g : Int) + 1 by omega, Zvo (by omega)]
      have hm := List.getElem_mem hg'
      have h1 := Ty.size_part hm
      have h2 := Ty.len_part hm
      have hmt := Zkw t.ps 0 g hg'
      have hml : (Zgy 0 (t.ps.take (g + 1))).length ≤ (Zgy 0 t.ps).length := Zmz _ _ _
      have hmtl := congrArg List.length hmt
      simp only [List.length_append, List.length_cons, Nat.zero_add] at hmtl
      have s2 : Zbk h'.length h' (h' ++ [.cells Zab [.int .u8 (t.ps[g].hd : Int), .slice a2 t.ps[g].ps.length c2 e2] false]) := Zbd
      refine ⟨by omega, ⟨by omega, by omega, by simp; omega⟩, by simp; omega, (Zii N (by omega) (by omega) (Ty.ok_ps hok _ hm) (hk.same s2)).mono ?_⟩
      rintro x h3 ⟨rfl, s3⟩
      simp only [Zam]
      refine ⟨by simp; omega, ?_⟩
      exact hR (g + 1) _ _ _ (by omega) ⟨by omega, by omega, (hSm.cat s2).cat s3, (hS1.cat s2).cat s3, by rw [hmt, Nat.zero_add]; simp⟩
    · apply Zdh.A3x0i
      have : g = t.ps.length := by omega
      subst this
      simp only [Zap o2, Nat.zero_add, List.getElem?_cons_succ, List.getElem?_cons_zero, Zai]
      rw [List.take_length]
      refine Zaq (fun hpos => ?_) (fun hneg => ?_)
      · have hne : t.ps ≠ [] := fun e => by rw [e] at hpos; simp at hpos
        rw [if_neg hne] at htx hln
        refine ⟨by simp; simp at hln; omega, ?_⟩
        apply Zdh.J9i
        exact ⟨by rw [htx], hSm⟩
      · have hne : t.ps = [] := List.eq_nil_of_length_eq_zero (by omega)
        rw [if_pos hne, List.append_nil] at htx
        apply Zdh.J9i
        exact ⟨by rw [htx], hSm⟩
end Go.Sim

set_option linter.unusedVariables false
namespace Go.Sim
open Go Go.RowKit Go.Maps Go.Sort Go.Shelf Go.Proofs
theorem Yaj (m : Nat) : AnyZ.SortsIn Try.prog Try.sorted86_ren Fence.wide m :=
  ⟨fun blk off cap ss W hH hblk hsz => callsIn_wide.2 (Try.slices_Sort_string blk off cap ss W hH hblk hsz), fun p cap W => callsIn_wide.2 (Try.slices_Sort_string_none p cap W)⟩
theorem Yah {h : Zaa} {m : Option Nat} : Zae pg Zbu [.map m] h fun v h' => v = .fn Zbp [.ptr (some (h.length, 0))] ∧ h' = h ++ [.cells Zdf [.map m] false] :=
  Zae.keys ⟨_, Try.func87, by kernel_rfl, by kernel_rfl⟩ (fun mb W => callsIn_wide.1 (AnyZ.keys_in Try.keys87 Fence.wide 5 trivial rfl mb W))
set_option maxHeartbeats 1000000 in
theorem Znn {h : Zaa} {i m : Nat} {es : List ME} {clk : Nat} (hi : h[i]? = some (.cells Zdf [.map (some m)] false)) (hm : h[m]? = some (.map es clk)) {vs : List Nat} (hks : es.map (·.1) = vs.map fun v => .str [v]) (nd : vs.Nodup) (born : (es.map (·.2.2)).Nodup) (lt : ∀ e ∈ es, e.2.2 < clk) (hl : es.length ≤ 1048576) :
    Zae pg Zez [.fn Zbp [.ptr (some (i, 0))]] h fun v h' => ∃ us : List Nat, us.Perm vs ∧ us.Pairwise (· ≤ ·) ∧ ((us = [] ∧ v = .slice none 0 0 true ∧ h' = h) ∨ (∃ c, v = .slice (some (h.length, 0)) us.length c false ∧ us.length ≤ c ∧ h' = h ++ [.cells Zbg (us.map fun v => .str [v]) false])) :=
  Zae.sortedKeys (M := Zdf) (K := Zbg) Try.underlying9 (by kernel_rfl) ⟨_, Try.func86, by kernel_rfl, by kernel_rfl⟩
    (fun Bm b nn D0 R w hown hBm hcell hmax hbytes => callsIn_wide.1 (by
      have hseq : SeqGives Fence.wide 2 Try.prog 111 #[.pointer (some ⟨Bm, 0, none⟩)] encStr (fun ss => ss.Perm (strKeys D0)) (Maps.size D0) w :=
        AnyZ.keys_gives (ρ := Try.keys87_ren) { Try.keys87 with } Fence.wide _ trivial rfl (by omega) Bm b nn D0 w hBm hcell hown
      exact AnyZ.sorted_in Try.sorted86 Fence.wide 5 trivial trivial trivial trivial rfl (by omega) (Yaj _) (enters_of Try.func110 (by kernel_rfl) rfl) 111 #[.pointer (some ⟨Bm, 0, none⟩)] trivial (enters_of Try.func111 (by kernel_rfl) rfl) _ _ hmax hbytes _ hseq))
    hi hm hks nd born lt hl
end Go.Sim

set_option linter.unusedSimpArgs false
set_option linter.unusedVariables false
namespace Go.Sim

abbrev Bd := List (Nat × Ty)
def Zcj : Bd → Nat → Option Ty
  | [], _ => none
  | (v, t) :: m, x => if v = x then some t else Zcj m x
def Zhg (m : Bd) (v : Nat) (t : Ty) : Option Bd := match Zcj m v with | some t' => if t' = t then some m else none | none => some (m ++ [(v, t)])
def matchT : Bd → Ty → Ty → Option Bd
  | m, .k c, t => if Zbj c then Zhg m c t else if c = t.hd then some m else none
  | m, .u c a, t => if c = t.hd then (match t.ps with | [x] => matchT m a x | _ => none) else none
  | m, .w c a b, t => if c = t.hd then (match t.ps with | [x, y] => (match matchT m a x with | some m1 => matchT m1 b y | none => none) | _ => none) else none
def matchL : Bd → List Ty → List Ty → Option Bd
  | m, [], _ => some m
  | m, a :: xs, [] => none
  | m, a :: xs, t :: ys => match matchT m a t with | some m1 => matchL m1 xs ys | none => none
theorem Zim {a : Ty} (h : a.ok = true) (hv : Zbj a.hd = true) : a = .k a.hd := by
  cases a with
  | k c => rfl
  | u c a => simp only [Ty.ok, Bool.and_eq_true, Bool.or_eq_true, beq_iff_eq] at h; rcases h.1 with rfl | rfl <;> simp [Ty.hd, Zbj] at hv
  | w c a b => simp only [Ty.ok, Bool.and_eq_true, beq_iff_eq] at h; rcases h.1.1 with rfl; simp [Ty.hd, Zbj] at hv
theorem Zpx {a t : Ty} (ha : a.ok = true) (ht : t.ok = true) (h : a.hd = t.hd) : a.ps.length = t.ps.length := by
  have h1 := Ty.ok_ar ha; have h2 := Ty.ok_ar ht
  rw [h, h2] at h1; omega
theorem Zqt {m : Bd} {a t : Ty} (ha : a.ok = true) (ht : t.ok = true) :
    matchT m a t = if Zbj a.hd then Zhg m a.hd t else if a.hd = t.hd then matchL m a.ps t.ps else none := by
  cases a with
  | k c =>
    show matchT m (.k c) t = if Zbj c then Zhg m c t else if c = t.hd then matchL m [] t.ps else none
    rw [matchT, matchL]
  | u c a =>
    have hnv : Zbj c = false := by
      cases h : Zbj c with
      | false => rfl
      | true => have := Zim ha h; cases this
    show matchT m (.u c a) t = if Zbj c then Zhg m c t else if c = t.hd then matchL m [a] t.ps else none
    rw [matchT, hnv, if_neg (show ¬ (false = true) by decide)]
    by_cases h : c = t.hd
    · have hl : 1 = t.ps.length := Zpx ha ht h
      rw [if_pos h, if_pos h]
      match t.ps, hl with
      | [x], _ => simp only [matchL]; cases matchT m a x <;> rfl
    · rw [if_neg h, if_neg h]
  | w c a b =>
    have hnv : Zbj c = false := by
      cases h : Zbj c with
      | false => rfl
      | true => have := Zim ha h; cases this
    show matchT m (.w c a b) t = if Zbj c then Zhg m c t else if c = t.hd then matchL m [a, b] t.ps else none
    rw [matchT, hnv, if_neg (show ¬ (false = true) by decide)]
    by_cases h : c = t.hd
    · have hl : 2 = t.ps.length := Zpx ha ht h
      rw [if_pos h, if_pos h]
      match t.ps, hl with
      | [x, y], _ =>
        simp only [matchL]
        cases matchT m a x with
        | none => rfl
        | some m1 => simp only []; cases matchT m1 b y <;> rfl
    · rw [if_neg h, if_neg h]
theorem Zjn : ∀ (xs ys : List Ty) (m : Bd) (g : Nat) (h1 : g < xs.length) (h2 : g < ys.length), matchL m (xs.take (g + 1)) (ys.take (g + 1)) = match matchL m (xs.take g) (ys.take g) with | some m1 => matchT m1 xs[g] ys[g] | none => none
  | a :: xs, t :: ys, m, 0, _, _ => by
    simp only [List.take_succ_cons, List.take_zero, matchL, List.getElem_cons_zero]
    cases matchT m a t <;> rfl
  | a :: xs, t :: ys, m, g + 1, h1, h2 => by
    simp only [List.length_cons, Nat.add_lt_add_iff_right] at h1 h2
    simp only [List.take_succ_cons, matchL, List.getElem_cons_succ]
    cases hm : matchT m a t with
    | none => rfl
    | some m1 =>
      have := Zjn xs ys m1 g h1 h2
      simpa only [List.take_succ_cons] using this
theorem Zjo : ∀ (xs ys : List Ty) (m : Bd) (g : Nat), xs.length = ys.length → matchL m (xs.take g) (ys.take g) = none → matchL m xs ys = none
  | [], _, m, g, _, h => by simp [matchL] at h
  | a :: xs, [], m, g, hl, h => by simp at hl
  | a :: xs, t :: ys, m, 0, _, h => by simp [matchL] at h
  | a :: xs, t :: ys, m, g + 1, hl, h => by
    simp only [List.take_succ_cons, matchL] at h ⊢
    cases hm : matchT m a t with
    | none => rfl
    | some m1 =>
      rw [hm] at h
      exact Zjo xs ys m1 g (by simpa using hl) h

structure BOk (n : Nat) (m : Bd) : Prop where
  var : ∀ p ∈ m, Zbj p.1 = true ∧ p.2.ok = true ∧ p.2.txt.length ≤ n
  nd : (m.map (·.1)).Nodup
theorem Zgj : ∀ {m : Bd} {v : Nat} {t : Ty}, Zcj m v = some t → (v, t) ∈ m
  | (w, u) :: m, v, t, h => by
    simp only [Zcj] at h
    split at h
    · rename_i e; cases h; subst e; simp
    · exact List.mem_cons_of_mem _ (Zgj h)
theorem Zlw : ∀ {m : Bd} {v : Nat}, Zcj m v = none ↔ v ∉ m.map (·.1)
  | [], v => by simp [Zcj]
  | (w, u) :: m, v => by
    simp only [Zcj]
    by_cases e : w = v
    · simp [e]
    · simp only [e, if_false, Zlw (m := m), List.map_cons, List.mem_cons, not_or]
      exact ⟨fun h => ⟨fun e' => e e'.symm, h⟩, fun h => h.2⟩
theorem Zsp {m : Bd} {v : Nat} : (Zcj m v).isSome = true ↔ v ∈ m.map (·.1) := by
  cases h : Zcj m v with
  | none => simp [Zlw.1 h]
  | some t => simp only [Option.isSome_some, true_iff]; exact List.mem_map.2 ⟨_, Zgj h, rfl⟩
theorem Zka {m : Bd} {v x : Nat} {t : Ty} : Zcj (m ++ [(v, t)]) x = match Zcj m x with | some u => some u | none => if v = x then some t else none := by
  induction m with
  | nil => simp [Zcj]
  | cons p m ih =>
    obtain ⟨w, u⟩ := p
    simp only [List.cons_append, Zcj, ih]
    split <;> rfl
theorem BOk.nil {n : Nat} : BOk n [] := ⟨by simp, by simp⟩
theorem BOk.note {n : Nat} {m m' : Bd} {v : Nat} {t : Ty} (b : BOk n m) (hv : Zbj v = true) (ht : t.ok = true) (hn : t.txt.length ≤ n) (h : Zhg m v t = some m') : BOk n m' := by
  unfold Zhg at h
  split at h
  · split at h
    · cases h; exact b
    · cases h
  · rename_i hg
    cases h
    refine ⟨?_, ?_⟩
    · intro p hp
      rcases List.mem_append.1 hp with hp | hp
      · exact b.var p hp
      · simp at hp; subst hp; exact ⟨hv, ht, hn⟩
    · rw [List.map_append, List.nodup_append]
      refine ⟨b.nd, by simp, ?_⟩
      intro x hx y hy e
      simp at hy; subst hy; subst e
      exact Zlw.1 hg hx
theorem Zgs {t x : Ty} (h : x ∈ t.ps) : x.txt.length ≤ t.txt.length := by
  cases t with
  | k c => simp [Ty.ps] at h
  | u c a => simp [Ty.ps] at h; subst h; simp [Ty.txt]; omega
  | w c a b => simp [Ty.ps] at h; rcases h with rfl | rfl <;> simp [Ty.txt] <;> omega
theorem BOk.matchT {n : Nat} : ∀ {a t : Ty} {m m' : Bd}, a.ok = true → t.ok = true → t.txt.length ≤ n → BOk n m → Go.Sim.matchT m a t = some m' → BOk n m'
  | .k c, t, m, m', ha, ht, hn, b, h => by
    simp only [Go.Sim.matchT] at h
    split at h
    · rename_i hv; exact b.note hv ht hn h
    · split at h
      · cases h; exact b
      · cases h
  | .u c a, t, m, m', ha, ht, hn, b, h => by
    simp only [Ty.ok, Bool.and_eq_true] at ha
    simp only [Go.Sim.matchT] at h
    split at h
    · split at h
      · rename_i x hx
        have hm : x ∈ t.ps := by rw [hx]; simp
        exact BOk.matchT ha.2 (Ty.ok_ps ht x hm) (Nat.le_trans (Zgs hm) hn) b h
      · cases h
    · cases h
  | .w c a a2, t, m, m', ha, ht, hn, b, h => by
    simp only [Ty.ok, Bool.and_eq_true] at ha
    simp only [Go.Sim.matchT] at h
    split at h
    · split at h
      · rename_i x y hx
        have hm : x ∈ t.ps := by rw [hx]; simp
        have hm2 : y ∈ t.ps := by rw [hx]; simp
        split at h
        · rename_i m1 h1
          exact BOk.matchT ha.2 (Ty.ok_ps ht y hm2) (Nat.le_trans (Zgs hm2) hn) (BOk.matchT ha.1.2 (Ty.ok_ps ht x hm) (Nat.le_trans (Zgs hm) hn) b h1) h
        · cases h
      · cases h
    · cases h
theorem BOk.matchL {n : Nat} : ∀ {xs ys : List Ty} {m m' : Bd}, (∀ a ∈ xs, a.ok = true) → (∀ t ∈ ys, t.ok = true ∧ t.txt.length ≤ n) → BOk n m → Go.Sim.matchL m xs ys = some m' → BOk n m'
  | [], _, m, m', _, _, b, h => by simp [Go.Sim.matchL] at h; subst h; exact b
  | a :: xs, [], m, m', _, _, b, h => by simp [Go.Sim.matchL] at h
  | a :: xs, t :: ys, m, m', ha, ht, b, h => by
    simp only [Go.Sim.matchL] at h
    split at h
    · rename_i m1 h1
      exact BOk.matchL (fun a h => ha a (by simp [h])) (fun t h => ht t (by simp [h])) (BOk.matchT (ha a (by simp)) (ht t (by simp)).1 (ht t (by simp)).2 b h1) h
    · cases h
def bdL (m : Bd) : List Nd := Zbo.filterMap fun v => (Zcj m v).map fun t => ([v], t.txt)
noncomputable def Zew (p s : List Nat) : Option Bd := match Zdr p, Zdr s with | some a, some b => matchT [] a b | _, _ => none
noncomputable def Zox (p s : List Nat) : Bool := (Zew p s).isSome
noncomputable def Zjg (p s : List Nat) : List Nd := match Zew p s with | some m => bdL m | none => []
theorem Zmw {p s : List Nat} {m : Bd} (h : Zew p s = some m) : BOk 60 m := by
  unfold Zew at h
  split at h
  · rename_i a b ha hb
    obtain ⟨h1, _, _⟩ := Zcc.1 ha
    obtain ⟨h2, h3, h4⟩ := Zcc.1 hb
    exact BOk.matchT h1 h2 (by rw [← h3]; exact h4) BOk.nil h
  · cases h
theorem Zga : Zbo.Nodup := by decide
theorem Zla : Zbo.Pairwise (· < ·) := by decide
theorem Ztb (m : Bd) : bdL m = (Zbo.filter fun v => (Zcj m v).isSome).map fun v => ([v], ((Zcj m v).getD default).txt) := by
  unfold bdL
  induction Zbo with
  | nil => rfl
  | cons v l ih =>
    simp only [List.filterMap_cons, List.filter_cons]
    cases h : Zcj m v with
    | none => simpa [h] using ih
    | some t => simp [h, ih]
theorem Zri {n : Nat} {m : Bd} (b : BOk n m) {ks : List Nat} (hp : ks.Perm (m.map (·.1))) (hs : ks.Pairwise (· ≤ ·)) : ks = Zbo.filter fun v => (Zcj m v).isSome := by
  have hnd : ks.Nodup := hp.nodup_iff.2 b.nd
  have h1 : ks.Pairwise (· < ·) := by
    have := List.pairwise_and_iff.2 ⟨hs, hnd⟩
    exact this.imp fun h => by have := h.1; have := h.2; omega
  have h2 : (Zbo.filter fun v => (Zcj m v).isSome).Pairwise (· < ·) := Zla.filter _
  have hp2 : ks.Perm (Zbo.filter fun v => (Zcj m v).isSome) := by
    rw [List.perm_ext_iff_of_nodup hnd (Zga.filter _)]
    intro v
    rw [hp.mem_iff, List.mem_filter, Zsp]
    constructor
    · intro hv
      obtain ⟨p, hp, rfl⟩ := List.mem_map.1 hv
      exact ⟨(Zhb _).2 (b.var p hp).1, hv⟩
    · exact fun h => h.2
  exact hp2.eq_of_pairwise (fun a b _ _ h1 h2 => by omega) h1 h2
theorem Zup {α : Type} {f : α → Bool} {l : List α} {g : Nat} (hg : g < l.length) (h : (l.take g).find? f = none) (k : f l[g] = true) : l.find? f = some l[g] := by
  have h1 : l = l.take g ++ l[g] :: l.drop (g + 1) := by rw [← List.drop_eq_getElem_cons hg, List.take_append_drop]
  conv => lhs; rw [h1]
  rw [List.find?_append, h, List.find?_cons, k]; rfl
theorem Znj {α : Type} {f : α → Bool} {l : List α} {g : Nat} (hg : g < l.length) (h : (l.take g).find? f = none) (k : f l[g] = false) : (l.take (g + 1)).find? f = none := by
  rw [List.take_succ_eq_append_getElem hg, List.find?_append, h]; simp [k]
end Go.Sim

set_option linter.unusedVariables false
set_option linter.unusedSimpArgs false
set_option maxRecDepth 20000
namespace Go.Sim
open Go Go.RowKit

def Zvm (h : Zaa) (i : Nat) (m : Bd) : Prop := ∃ es clk, h[i]? = some (.map es clk) ∧ es.map (·.1) = m.map (fun p => Zac.str [p.1]) ∧ es.map (·.2.1) = m.map (fun p => Zac.str p.2.txt) ∧ (es.map (·.2.2)).Nodup ∧ ∀ e ∈ es, e.2.2 < clk
theorem Zvm.eq {h h' : Zaa} {i : Nat} {m : Bd} (r : Zvm h i m) (he : h'[i]? = h[i]?) : Zvm h' i m := by
  obtain ⟨es, clk, h1, x⟩ := r
  exact ⟨es, clk, by rw [he]; exact h1, x⟩
theorem Zvm.lt {h : Zaa} {i : Nat} {m : Bd} (r : Zvm h i m) : i < h.length := by obtain ⟨es, clk, h1, _⟩ := r; exact Own.lt h1
theorem Ziy : ∀ {es : List ME} {m : Bd} {v k : Nat} {t : Ty}, es.map (·.1) = m.map (fun p => Zac.str [p.1]) → es.map (·.2.1) = m.map (fun p => Zac.str p.2.txt) → Zcj m v = some t → ∃ j b, Zku es [v] k = some (some (k + j, .str t.txt)) ∧ es[j]? = some (.str [v], .str t.txt, b)
  | _, [], v, k, t, _, _, h => by simp [Zcj] at h
  | [], p :: m, v, k, t, h, _, _ => by simp at h
  | (ek, ev, eb) :: es, (w, u) :: m, v, k, t, hk, hv, h => by
    simp only [List.map_cons, List.cons.injEq] at hk hv
    obtain ⟨rfl, hk⟩ := hk
    obtain ⟨rfl, hv⟩ := hv
    simp only [Zcj] at h
    by_cases e : w = v
    · rw [if_pos e] at h
      cases h; subst e
      exact ⟨0, eb, by simp [Zku], rfl⟩
    · rw [if_neg e] at h
      obtain ⟨j, b, h1, h2⟩ := Ziy (k := k + 1) hk hv h
      have : ¬ [v] = [w] := fun x => e (by simpa using x.symm)
      exact ⟨j + 1, b, by simp only [Zku, this, if_false, h1]; rw [show k + 1 + j = k + (j + 1) by omega], h2⟩
theorem Ziw : ∀ {es : List ME} {m : Bd} {v k : Nat}, es.map (·.1) = m.map (fun p => Zac.str [p.1]) → Zcj m v = none → Zku es [v] k = some none
  | [], [], v, k, _, _ => rfl
  | [], p :: m, v, k, h, _ => by simp at h
  | e :: es, [], v, k, h, _ => by simp at h
  | (ek, ev, eb) :: es, (w, u) :: m, v, k, hk, h => by
    simp only [List.map_cons, List.cons.injEq] at hk
    obtain ⟨rfl, hk⟩ := hk
    simp only [Zcj] at h
    by_cases e : w = v
    · rw [if_pos e] at h; cases h
    · rw [if_neg e] at h
      have : ¬ [v] = [w] := fun x => e (by simpa using x.symm)
      simp only [Zku, this, if_false]
      exact Ziw hk h
theorem Zlv {α : Type} {f : α → α} {e : α} : ∀ {l : List α} {j : Nat}, l[j]? = some e → f e = e → l.modify j f = l
  | [], j, h, _ => by simp at h
  | a :: l, 0, h, hf => by simp at h; subst h; simp [hf]
  | a :: l, j + 1, h, hf => by simp at h; simp [Zlv h hf]
theorem Zuz (c : Nat) : Zkz [c] = Zbj c := rfl
theorem Row.keepAt {i : Nat} {h h' : Zaa} {a : Pt} {n : Nat} {cs : List Zac} (r : Row h.length h a n cs) (hne : ∀ j o, n ≠ 0 → a = some (j, o) → j ≠ i) (k : Zdn i h h') : Row h'.length h' a n cs := by
  obtain ⟨hl, r⟩ := r
  by_cases h0 : n = 0
  · exact ⟨hl, .inl h0⟩
  · refine ⟨hl, r.imp id ?_⟩
    rintro ⟨j, o', t, all, ro, ha, hi, hg, x⟩
    have := k.le
    exact ⟨j, o', t, all, ro, ha, by omega, by rw [k.eq j hi (hne j o' h0 ha)]; exact hg, x⟩
def Ydi (h : Zaa) (i : Nat) (r : Option Bd) (v : Zac) (h' : Zaa) : Prop := Zdn i h h' ∧ (match r with | some m' => v = .bool true ∧ Zvm h' i m' | none => v = .bool false)
theorem Zti : ∀ (N : Nat) {a t : Ty} {S : Nat → Prop} {h : Zaa} {p q : Pt} {i n : Nat} {m : Bd}, a.size ≤ N → a.ok = true → t.ok = true → t.txt.length ≤ 1048576 → t.txt.length ≤ n → BOk n m → (∀ j, S j → j ≠ i) → Zjh S h a p → Zjh S h t q → Zvm h i m →
    Zae pg Zdw [.ptr p, .ptr q, .map (some i)] h (Ydi h i (matchT m a t))
  | 0, a, t, S, h, p, q, i, n, m, hN, _, _, _, _, _, _, _, _, _ => by have := a.size_ps; omega
  | N + 1, a, t, S, h, p, q, i, n, m, hN, ha, ht, hB, hn, bo, hSi, ra, rt, rm => by
    have hcase := Zqt (m := m) ha ht
    obtain ⟨ia, aa, ca, ea, qa, rfl, sia, hia, rowa, hSa, hqal, hqa⟩ := ra.parts
    obtain ⟨it, at', ct, et, qt, rfl, sit, hit, rowt, hSt, hqtl, hqt⟩ := id rt.parts
    have hps2 : a.ps.length ≤ 2 := by cases a <;> simp [Ty.ps]
    apply Zbz.call
    simp only [Zan, Zap hia, Nat.zero_add, List.getElem?_cons_succ, List.getElem?_cons_zero, Zai, Zam]
    refine (Zsr [a.hd]).mono ?_
    rintro v h1 ⟨rfl, rfl⟩
    simp only [Zal, Zuz]
    refine Zrq (fun hv => ?_) (fun hv => ?_)
    · rw [hv] at hcase
      simp only [if_true] at hcase
      refine (Zwy _ (Nat.le_refl _) hB rt).mono ?_
      rintro v h2 ⟨rfl, s2⟩
      have hia2 := s2.get hia (Own.lt hia)
      obtain ⟨es, clk, hm, hk, hvv, hb, hlt⟩ := id rm
      have hm2 := s2.get hm (Own.lt hm)
      have rm2 : Zvm h2 i m := rm.eq (s2.eq i (Own.lt hm))
      simp only [Zam, Zap hia2, List.getElem?_cons_succ, List.getElem?_cons_zero, Zdu, hm2, Znm]
      have K2 : Zdn i h1 h2 := ⟨s2.le, fun j hj _ => s2.eq j hj⟩
      have hput : ∀ r : Option Bd, (∀ (es' : List ME) (k' : Nat), Zyq es clk [a.hd] (.str t.txt) (fun x y => x = es' ∧ y = k') → Ydi h1 i r (.bool true) (h2.set i (.map es' k'))) → Zbz.J6 (Ydi h1 i r) (some i) (some (ia, 0)) t.txt h2 := by
        intro r hr
        apply Zbz.J6i
        simp only [Zan, Zap hia2, Nat.zero_add, List.getElem?_cons_zero, Zam, xMp, Zdu, hm2, Zbf]
        unfold Zyq at hr ⊢
        cases hg : Zcj m a.hd with
        | none =>
          rw [Ziw hk hg] at hr ⊢
          exact hr _ _ ⟨rfl, rfl⟩
        | some u =>
          obtain ⟨j, b, hf, _⟩ := Ziy (k := 0) hk hvv hg
          rw [hf] at hr ⊢
          exact hr _ _ ⟨rfl, rfl⟩
      have KS : ∀ x, Zdn i h1 (h2.set i x) := fun x => K2.trans (Zdn.set i h2 x)
      have hil := Own.lt hm2
      cases hg : Zcj m a.hd with
      | none =>
        have hbn : Zhg m a.hd t = some (m ++ [(a.hd, t)]) := by unfold Zhg; rw [hg]
        rw [hbn] at hcase
        rw [hcase, Ziw hk hg]
        simp only [Option.getD_none, Zam, Option.isSome_none, Zas]
        refine hput _ fun es' k' hp => ⟨KS _, rfl, ?_⟩
        unfold Zyq at hp
        rw [Ziw hk hg] at hp
        obtain ⟨rfl, rfl⟩ := hp
        refine ⟨_, _, List.getElem?_set_self hil, by simp [hk], by simp [hvv], ?_, ?_⟩
        · rw [List.map_append, List.nodup_append]
          refine ⟨hb, by simp, ?_⟩
          intro x hx y hy e
          simp at hy
          obtain ⟨z, hz, rfl⟩ := List.mem_map.1 hx
          have := hlt z hz; omega
        · intro e he
          rcases List.mem_append.1 he with he | he
          · have := hlt e he; omega
          · simp at he; subst he; simp
      | some u =>
        obtain ⟨j, b, hf, hj⟩ := Ziy (k := 0) hk hvv hg
        rw [hf]
        simp only [Option.getD_some, Zam, Option.isSome_some, Zax]
        have hu : u.ok = true ∨ True := .inr trivial
        by_cases he : u = t
        · subst he
          have hbn : Zhg m a.hd u = some m := by unfold Zhg; rw [hg]; simp
          rw [hbn] at hcase
          rw [hcase]
          simp only [decide_true, Bool.not_true, Zas]
          refine hput _ fun es' k' hp => ⟨KS _, rfl, ?_⟩
          unfold Zyq at hp
          rw [hf] at hp
          obtain ⟨rfl, rfl⟩ := hp
          rw [Nat.zero_add, Zlv hj rfl]
          exact ⟨es, clk, List.getElem?_set_self hil, hk, hvv, hb, hlt⟩
        · have hu := (bo.var _ (Zgj hg)).2.1
          have hne : ¬ u.txt = t.txt := fun e => he (Ty.txt_inj' hu ht e)
          have hbn : Zhg m a.hd t = none := by unfold Zhg; rw [hg]; simp [he]
          rw [hbn] at hcase
          rw [hcase]
          simp only [hne, decide_false, Bool.not_false, Zax]
          exact ⟨K2, rfl⟩
    · rw [hv] at hcase
      simp only [Bool.false_eq_true, if_false] at hcase
      simp only [Zan, Zap hia, Zap hit, Nat.zero_add, List.getElem?_cons_succ, List.getElem?_cons_zero, Zai, Zam, true_and]
      refine Zvf (fun hne => ?_) (fun he => ?_)
      · rw [if_neg (fun e => hne (by rw [e]))] at hcase
        rw [hcase]
        exact ⟨Zdn.refl _ _, rfl⟩
      · have he' : a.hd = t.hd := by simpa using he
        rw [if_pos he'] at hcase
        rw [hcase]
        have hlen := Zpx ha ht he'
        refine Zbz.L11ind _ _ _ _ _ _ _ _ (J := fun (g : Nat) x54 h' => x54 = (g : Int) ∧ g ≤ a.ps.length ∧ Zdn i h1 h' ∧ ∃ m1, matchL m (a.ps.take g) (t.ps.take g) = some m1 ∧ Zvm h' i m1) (fun g => a.ps.length - g) ?_ 0 _ _ ⟨rfl, by omega, Zdn.refl _ _, m, by simp [matchL], rm⟩
        rintro g x54 h' ⟨rfl, hg, hK, m1, hm1, rm1⟩ R hR
        unfold Zbz.L11t
        refine Zaq (fun hlt => ?_) (fun hge => ?_)
        · have hga : g < a.ps.length := by omega
          have hgt : g < t.ps.length := by omega
          have hit1 : h'[it]? = some (.cells Zcb [.str [t.hd], .slice at' t.ps.length ct et, .ptr none] false) := by rw [hK.eq _ (Own.lt hit) (hSi _ sit)]; exact hit
          obtain ⟨ja, oa, rfl, _, hca⟩ := (rowa.keepAt (i := i) (fun j o h0 e => hSi j (hSa j o h0 e)) hK).at hga
          obtain ⟨jt, ot, rfl, _, hct⟩ := (rowt.keepAt (i := i) (fun j o h0 e => hSi j (hSt j o h0 e)) hK).at hgt
          have hqag : g < qa.length := by omega
          have hqtg : g < qt.length := by omega
          rw [List.getElem?_map, List.getElem?_eq_getElem hqag] at hca
          rw [List.getElem?_map, List.getElem?_eq_getElem hqtg] at hct
          simp only [Zan, Int.toNat_natCast, Nat.mul_one, hca, hct, Option.map_some, Zfi, Zap hit1, Nat.zero_add, List.getElem?_cons_succ, List.getElem?_cons_zero, Zai]
          have hma := List.getElem_mem hga
          have hmt := List.getElem_mem hgt
          have h1 := Ty.size_part hma
          have h2 := Ty.len_part hmt
          have bo1 : BOk n m1 := BOk.matchL (fun x hx => Ty.ok_ps ha x (List.mem_of_mem_take hx)) (fun x hx => ⟨Ty.ok_ps ht x (List.mem_of_mem_take hx), by have := Ty.len_part (List.mem_of_mem_take hx); omega⟩) bo hm1
          have htk := Zjn a.ps t.ps m g hga hgt
          rw [hm1] at htk
          simp only at htk
          refine ⟨by omega, by omega, (Zti N (by omega) (Ty.ok_ps ha _ hma) (Ty.ok_ps ht _ hmt) (by omega) (by omega) bo1 hSi ((hqa g _ _ (List.getElem?_eq_getElem hqag) (List.getElem?_eq_getElem hga)).keep fun j hj hl => hK.eq j hl (hSi j hj)) ((hqt g _ _ (List.getElem?_eq_getElem hqtg) (List.getElem?_eq_getElem hgt)).keep fun j hj hl => hK.eq j hl (hSi j hj)) rm1).mono ?_⟩
          rintro v h3 ⟨K3, hres⟩
          cases hmm : matchT m1 a.ps[g] t.ps[g] with
          | none =>
            rw [hmm] at hres htk
            subst hres
            simp only [Zal, Bool.not_false, Zax]
            rw [Zjo a.ps t.ps m (g + 1) hlen htk]
            exact ⟨hK.trans K3, rfl⟩
          | some m2 =>
            rw [hmm] at hres htk
            obtain ⟨rfl, rm2⟩ := hres
            simp only [Zal, Bool.not_true, Zas]
            rw [Zch (by omega)]
            exact hR (g + 1) _ _ (by omega) ⟨rfl, by omega, hK.trans K3, m2, htk, rm2⟩
        · apply Zbz.A11x0i
          have : g = a.ps.length := by omega
          subst this
          rw [List.take_length, hlen, List.take_length] at hm1
          rw [hm1]
          exact ⟨hK, rfl, rm1⟩
end Go.Sim

set_option linter.unusedVariables false
set_option linter.unusedSimpArgs false
set_option maxRecDepth 20000
namespace Go.Sim
open Go Go.RowKit

theorem Znk : pg.underlying Zfn = some (.slice Zag) := by kernel_rfl
theorem Zpp : pg.cellsOf Zag = 2 := by kernel_rfl
theorem Zqu : pg.okElem Zag = true := by kernel_rfl
theorem Zqv : pg.bytesOf Zag ≤ 127 := Nat.le_of_ble_eq_true (by kernel_rfl)
theorem Vec.fresh {α : Type} {ty : TypeId} {enc : α → List Zac} {b : Nat} {h : Zaa} {a : Pt} {n c : Nat} {l : List α} (v : Vec ty h a n c (Zdk enc l)) (hn : n = l.length) (ha : ∀ i, a = some (i, 0) → b ≤ i) : Zee ty enc b h a n l := by
  refine ⟨hn.symm, ?_⟩
  rcases v with ⟨rfl, h0, _⟩ | ⟨i, rfl, hi⟩
  · exact .inl h0
  · exact .inr ⟨i, rfl, ha i rfl, hi⟩
theorem Yay (m : Bd) : (bdL m).length ≤ 6 := by
  rw [Ztb, List.length_map]; exact Nat.le_trans (List.length_filter_le _ _) (by decide)
theorem Zsk {h : Zaa} {i : Nat} {m : Bd} (rm : Zvm h i m) (bo : BOk 60 m) :
    Zae pg Zfz [.map (some i)] h fun v h' => Zbk h.length h h' ∧ ∃ a n c e, v = .slice a n c e ∧ n ≤ c ∧ Zee Zag eP h.length h' a n (bdL m) := by
  have hml : m.length ≤ 6 := by
    have hp : (m.map (·.1)).Perm (Zbo.filter fun v => decide (v ∈ m.map (·.1))) := by
      rw [List.perm_ext_iff_of_nodup bo.nd (Zga.filter _)]
      intro v
      rw [List.mem_filter]
      constructor
      · intro hv
        obtain ⟨p, hp, rfl⟩ := List.mem_map.1 hv
        exact ⟨(Zhb _).2 (bo.var p hp).1, by simpa using hv⟩
      · exact fun h => by simpa using h.2
    have h1 := hp.length_eq
    have h2 := List.length_filter_le (fun v => decide (v ∈ m.map (·.1))) Zbo
    rw [List.length_map] at h1
    have h3 : Zbo.length = 6 := rfl
    omega
  apply Zds.call
  simp only [Zbf]
  generalize hh0 : h ++ [Zce.cells Zag [] false] = h0
  have s0 : Zbk h.length h h0 := by rw [← hh0]; exact Zbd
  have l0 : h0.length = h.length + 1 := by rw [← hh0]; simp
  have o0 : h0[h.length]? = some (.cells Zag [] false) := by rw [← hh0]; simp
  refine Yah.mono ?_
  rintro v h2 ⟨rfl, hh2⟩
  simp only [Zsc]
  have s2 : Zbk h0.length h0 h2 := by rw [hh2]; exact Zbd
  have hc2 : h2[h0.length]? = some (.cells Zdf [.map (some i)] false) := by rw [hh2]; simp
  obtain ⟨es, clk, hm, hk, hvv, hb, hlt⟩ := id rm
  have S2 := s0.cat s2
  have hm2 := S2.get hm (Own.lt hm)
  have hel : es.length = m.length := by have := congrArg List.length hk; simpa using this
  refine (Znn hc2 hm2 (vs := m.map (·.1)) (by rw [hk, List.map_map]; rfl) bo.nd hb hlt (by omega)).mono ?_
  rintro v h3 ⟨us, hp, hsrt, hcase⟩
  have hus := Zri bo hp hsrt
  have hbd : bdL m = us.map fun v => ([v], ((Zcj m v).getD default).txt) := by rw [Ztb, hus]
  have hul : us.length ≤ 6 := by rw [hp.length_eq]; simpa using hml
  have hmem : ∀ v ∈ us, ∃ t, Zcj m v = some t := fun v hv => by
    rw [hus, List.mem_filter] at hv; exact Option.isSome_iff_exists.1 hv.2
  have hgen : ∃ a c e, v = .slice a us.length c e ∧ Row h3.length h3 a us.length (us.map fun v => Zac.str [v]) ∧ Zbk h2.length h2 h3 := by
    rcases hcase with ⟨rfl, rfl, rfl⟩ | ⟨c, rfl, hc, rfl⟩
    · exact ⟨_, _, _, rfl, Row.nil, Zbk.refl _ _⟩
    · refine ⟨_, _, _, rfl, ⟨by simp, .inr ⟨h2.length, 0, Zbg, _, false, rfl, by simp, by simp; rfl, by simp, by rw [List.drop_zero, List.take_of_length_le (by simp)]⟩⟩, Zbd⟩
  obtain ⟨a9, c9, e9, rfl, hrow, s3⟩ := hgen
  simp only [Zai]
  have S3 := S2.cat s3
  have hS3le := S3.le
  have o3 : h3[h.length]? = some (.cells Zag [] false) := s3.get (s2.get o0 (Own.lt o0)) (by have := Own.lt o0; have := s2.le; omega)
  refine Zds.L3ind _ _ _ _ _ _ _ (J := fun (g : Nat) a3 n3 c3 e3 x11 h' => x11 = (g : Int) ∧ g ≤ us.length ∧ Zbk h.length h h' ∧ (∀ j, j < h3.length → j ≠ h.length → h'[j]? = h3[j]?) ∧ h3.length ≤ h'.length ∧ n3 = g ∧ n3 ≤ c3 ∧ Vec Zag h' a3 n3 c3 (Zdk eP ((bdL m).take g)) ∧ (∀ i, a3 = some (i, 0) → i = h.length ∨ h3.length ≤ i)) (fun g => us.length - g) ?_ 0 _ _ _ _ _ _
    ⟨rfl, by omega, S3, fun _ _ _ => rfl, Nat.le_refl _, rfl, Nat.le_refl _, Vec.mk1 (by simpa using o3), fun i hi => by cases hi; exact .inl rfl⟩
  rintro g a3 n3 c3 e3 x11 h' ⟨rfl, hg, hSm, hK, hle3, rfl, hnc, hv, ha⟩ R hR
  unfold Zds.L3t
  have hbl : (bdL m).length = us.length := by rw [hbd]; simp
  refine Zaq (fun hlt => ?_) (fun hge => ?_)
  · have hg' : n3 < us.length := by omega
    obtain ⟨j, o, rfl, hj, hc⟩ := hrow.at hg'
    rw [List.getElem?_map, List.getElem?_eq_getElem hg', Option.map_some] at hc
    -- the row of keys has not turned: it lies apart from the row of bindings
    have hjr : j ≠ h.length := by
      rcases hcase with ⟨h0, _⟩ | ⟨c, hsl, _, _⟩
      · rw [h0] at hg'; simp at hg'
      · simp only [Zac.slice.injEq, Option.some.injEq, Prod.mk.injEq] at hsl
        have := s2.le; omega
    have hc' : Zak h' (.ptr (some (j, o + n3))) = some (.str [us[n3]]) := by
      rw [← hc]; simp only [Zak, hK j hj hjr]
    obtain ⟨t, ht⟩ := hmem _ (List.getElem_mem hg')
    have hm' := hSm.get hm (Own.lt hm)
    obtain ⟨jj, bb, hf, _⟩ := Ziy (k := 0) hk hvv ht
    simp only [Zan, Int.toNat_natCast, Nat.mul_one, hc', Zam, Zdu, hm', Znm, hf, Option.getD_some, Zbf]
    have htk : (bdL m).take (n3 + 1) = (bdL m).take n3 ++ [([us[n3]], t.txt)] := by
      rw [List.take_succ_eq_append_getElem (by omega)]
      congr 2
      have : (bdL m)[n3]? = some ([us[n3]], t.txt) := by
        rw [hbd, List.getElem?_map, List.getElem?_eq_getElem hg', Option.map_some, ht, Option.getD_some]
      exact (List.getElem?_eq_some_iff.1 this).2
    refine ⟨by omega, ?_⟩
    refine hv.pushN Znk Zpp Zqu Zqv (by rw [Zaw Zgg, List.length_take]; omega) rfl (by omega) rfl (by omega) (fun h6 hl6 hi6 hk6 => ?_)
    simp only [Zai]
    rw [Zch (by omega)]
    have hle := hSm.le
    have hb9 : ∀ i, a3 = some (i, 0) → h.length ≤ i := fun i hi => by rcases ha i hi with hh | hh <;> omega
    refine hR (n3 + 1) _ _ _ _ _ _ (by omega) ⟨rfl, by omega, ⟨by omega, fun j hj => ?_⟩, fun j hj hne => ?_, by omega, rfl, Nat.le_refl _, Vec.mk1 ?_, fun i hi => by cases hi; right; omega⟩
    · rw [hk6 j (by omega) fun i hi => by have := hb9 i hi; omega]; exact hSm.eq j hj
    · rw [hk6 j (by omega) fun i hi => by rcases ha i hi with hh | hh <;> omega]; exact hK j hj hne
    · rw [hi6, htk, Zlu]; rfl
  · apply Zds.A3x0i
    have : n3 = us.length := by omega
    subst this
    rw [show (bdL m).take us.length = bdL m from List.take_of_length_le (by omega)] at hv
    exact ⟨hSm, _, _, _, _, rfl, hnc, hv.fresh (b := h.length) hbl.symm fun i hi => by rcases ha i hi with hh | hh <;> omega⟩
def Zsy (p s : List Nat) (h : Zaa) (v : Zac) (h' : Zaa) : Prop := Zbk h.length h h' ∧ ∃ a n c e, v = .tup [.slice a n c e, .bool (Zox p s)] ∧ n ≤ c ∧ Zee Zag eP h.length h' a n (Zjg p s)
theorem Zlk (p s : List Nat) (h : Zaa) : Zae pg Zeh [.str p, .str s] h (Zsy p s h) := by
  apply Zfl.call
  refine (Znf p h).mono ?_
  rintro v h1 ⟨s1, q1, rfl, r1⟩
  simp only [Zfi]
  refine (Znf s h1).mono ?_
  rintro v h2 ⟨s2, q2, rfl, r2⟩
  simp only [Zfi, Zbf]
  have S2 := s1.cat s2
  have s3 : Zbk h2.length h2 (h2 ++ [.map [] 0]) := Zbd
  have S3 := S2.cat s3
  have no : Zew p s = none → Zsy p s h (.tup [.slice none 0 0 true, .bool false]) (h2 ++ [.map [] 0]) := fun hn =>
    ⟨S3, none, 0, 0, true, by unfold Zox; rw [hn]; rfl, Nat.le_refl _, by unfold Zjg; rw [hn]; exact ⟨rfl, .inl rfl⟩⟩
  cases hp : Zdr p with
  | none =>
    rw [hp] at r1; simp only at r1; subst r1
    simp only [Option.isNone_none, Zax]
    exact no (by unfold Zew; rw [hp])
  | some a =>
    rw [hp] at r1; simp only at r1
    obtain ⟨i1, rfl, b1, l1⟩ := r1.lt
    simp only [Option.isNone_some, Zas]
    cases ht : Zdr s with
    | none =>
      rw [ht] at r2; simp only at r2; subst r2
      simp only [Option.isNone_none, Zax]
      exact no (by unfold Zew; rw [hp, ht])
    | some t =>
      rw [ht] at r2; simp only at r2
      obtain ⟨i2, rfl, b2, l2⟩ := r2.lt
      simp only [Option.isNone_some, Zas]
      obtain ⟨ha1, ha2, ha3⟩ := Zcc.1 hp
      obtain ⟨ht1, ht2, ht3⟩ := Zcc.1 ht
      have hms : Zew p s = matchT [] a t := by unfold Zew; rw [hp, ht]
      have hl1 := s1.le; have hl2 := s2.le
      have R1 := ((r1.same s2).same s3).mono (S' := fun j => j ≠ h2.length) (fun j hj => by have := hj.2; omega)
      have R2 := (r2.same s3).mono (S' := fun j => j ≠ h2.length) (fun j hj => by have := hj.2; omega)
      have rm : Zvm (h2 ++ [.map [] 0]) h2.length [] := ⟨[], 0, by simp, rfl, rfl, by simp, by simp⟩
      refine (Zti _ (Nat.le_refl _) ha1 ht1 (by rw [← ht2]; omega) (n := 60) (by rw [← ht2]; exact ht3) BOk.nil (fun j hj => hj) R1 R2 rm).mono ?_
      rintro v h4 ⟨K4, hres⟩
      have S4 : Zbk h.length h h4 := ⟨by have := K4.le; have := S3.le; omega, fun j hj => by rw [K4.eq j (by have := S3.le; omega) (by have := S2.le; omega)]; exact S3.eq j hj⟩
      cases hm : matchT [] a t with
      | none =>
        rw [hm] at hres hms
        subst hres
        simp only [Zal, Bool.not_false, Zax]
        exact ⟨S4, none, 0, 0, true, by unfold Zox; rw [hms]; rfl, Nat.le_refl _, by unfold Zjg; rw [hms]; exact ⟨rfl, .inl rfl⟩⟩
      | some m =>
        rw [hm] at hres hms
        obtain ⟨rfl, rm4⟩ := hres
        simp only [Zal, Bool.not_true, Zas]
        apply Zfl.J4i
        refine (Zsk rm4 (Zmw hms)).mono ?_
        rintro v h5 ⟨s5, a5, n5, c5, e5, rfl, hc5, f5⟩
        simp only [Zai]
        refine ⟨S4.cat s5, a5, n5, c5, e5, by unfold Zox; rw [hms]; rfl, hc5, ?_⟩
        unfold Zjg; rw [hms]
        exact ⟨f5.1, f5.2.imp id fun ⟨i, ha, hb, hi⟩ => ⟨i, ha, by have := S4.le; omega, hi⟩⟩
theorem Zkb (p s : List Nat) (h : Zaa) : Zae pg Zcd [.str p, .str s] h fun v h' => v = .bool (Zox p s) ∧ Zbk h.length h h' := by
  apply Zhe.call
  refine (Zlk p s h).mono ?_
  rintro v h1 ⟨s1, a, n, c, e, rfl, _⟩
  simp only [Zdz, Zaj, Zai, Zal, Zau]
  exact ⟨by trivial, s1⟩
end Go.Sim

set_option linter.unusedVariables false
set_option linter.unusedSimpArgs false
set_option maxRecDepth 20000
namespace Go.Sim
open Go Go.RowKit

def Zsu : List Nat := [88, 89, 90, 120, 121, 122, 49, 50, 51, 52, 53, 54]
theorem Zpt {v : Nat} (hv : Zbj v = true) : ∃ k : Nat, k < 6 ∧ Zbo[k]? = some v ∧ Zlf Zsu v = (k : Int) := by
  have := (Zhb v).2 hv
  simp only [Zbo, List.mem_cons, List.not_mem_nil, or_false] at this
  rcases this with rfl | rfl | rfl | rfl | rfl | rfl
  · exact ⟨0, by omega, rfl, rfl⟩
  · exact ⟨1, by omega, rfl, rfl⟩
  · exact ⟨2, by omega, rfl, rfl⟩
  · exact ⟨3, by omega, rfl, rfl⟩
  · exact ⟨4, by omega, rfl, rfl⟩
  · exact ⟨5, by omega, rfl, rfl⟩
theorem Zkh {t : Ty} (h : t.ok = true) : t.hd ∈ [105, 98, 117, 108, 109, 112, 120, 121, 122, 88, 89, 90] := by
  have := Ty.ok_ar h
  unfold arN Zfb Zbj at this
  simp only [Bool.or_eq_true, beq_iff_eq] at this
  simp only [List.mem_cons, List.not_mem_nil, or_false]
  split at this
  · omega
  · split at this
    · omega
    · split at this
      · omega
      · omega
theorem Zqz {t : Ty} (h : t.ok = true) (hv : Zbj t.hd = false) : Zlf Zsu t.hd = -1 := by
  apply Zrx
  have := Zkh h
  simp only [List.mem_cons, List.not_mem_nil, or_false] at this
  rcases this with e | e | e | e | e | e | e | e | e | e | e | e <;> rw [e] at hv ⊢ <;> first | (exact absurd hv (by decide)) | decide
theorem Znu {h : Zaa} (c : Nat) : Zae pg Zfe [.int .u8 (c : Int)] h fun v h' => v = .int .i64 (Zlf Zsu c) ∧ h' = h := by
  apply Zjf.call
  refine (Zvz Zsu c (by decide)).mono ?_
  rintro v h1 ⟨rfl, rfl⟩
  simp only [Zaf]
  exact ⟨by trivial, by trivial⟩
def eR (x : Zac × Zac) : List Zac := [x.1, x.2]
theorem Zhz (x : Zac × Zac) : (eR x).length = 2 := rfl
theorem Zov {α : Type} {enc : α → List Zac} {w : Nat} (hw : ∀ x, (enc x).length = w) : ∀ {l : List α} {k : Nat} {x : α}, k < l.length → putRow (Zdk enc l) (k * w) (enc x) = Zdk enc (l.set k x)
  | [], k, x, h => by simp at h
  | y :: l, 0, x, _ => by
    simp only [Nat.zero_mul, Zgc, List.set_cons_zero, putRow, List.take_zero, List.nil_append, Nat.zero_add, hw]
    rw [← hw y, List.drop_left]
  | y :: l, k + 1, x, h => by
    have ih := Zov hw (l := l) (k := k) (x := x) (by simpa using h)
    unfold putRow at ih ⊢
    simp only [Zgc, List.set_cons_succ]
    rw [← ih, Nat.succ_mul, Nat.add_comm (k * w) w, ← hw y, List.take_length_add_append, Nat.add_assoc, List.drop_length_add_append]; simp only [List.append_assoc]
def Zkj (S : Nat → Prop) (h : Zaa) (i : Nat) (m : Bd) : Prop := ∃ rows : List (Zac × Zac), rows.length = 12 ∧ h[i]? = some (.cells Zbh (Zdk eR rows) false) ∧
  ∀ (k : Nat) (x : Zac × Zac), rows[k]? = some x → match (Zbo[k]?).bind (Zcj m) with | some t => Zdo S h t (eR x) | none => x = (.int .u8 0, .slice none 0 0 true)
theorem Zkj.keep {S : Nat → Prop} {h h' : Zaa} {i : Nat} {m : Bd} (r : Zkj S h i m) (hi : h'[i]? = h[i]?) (hh : ∀ j, S j → j < h.length → h'[j]? = h[j]?) : Zkj S h' i m := by
  obtain ⟨rows, h1, h2, h3⟩ := r
  refine ⟨rows, h1, by rw [hi]; exact h2, fun k x hx => ?_⟩
  have := h3 k x hx
  split at this
  · exact this.keep hh
  · exact this
theorem Zkj.same {S : Nat → Prop} {h h' : Zaa} {i : Nat} {m : Bd} (r : Zkj S h i m) (s : Zbk h.length h h') : Zkj S h' i m := by
  have hl : i < h.length := by obtain ⟨_, _, h2, _⟩ := r; exact Own.lt h2
  exact r.keep (s.eq i hl) fun j _ hj => s.eq j hj
theorem Zkj.lt {S : Nat → Prop} {h : Zaa} {i : Nat} {m : Bd} (r : Zkj S h i m) : i < h.length := by obtain ⟨_, _, h2, _⟩ := r; exact Own.lt h2
theorem Zkj.nil {S : Nat → Prop} {h : Zaa} {i : Nat} (hi : h[i]? = some (.cells Zbh (Zdk eR (List.replicate 12 (.int .u8 0, .slice none 0 0 true))) false)) : Zkj S h i [] := by
  refine ⟨_, by simp, hi, fun k x hx => ?_⟩
  have : (Zbo[k]?).bind (Zcj []) = none := by cases Zbo[k]? <;> rfl
  rw [this]
  rw [List.getElem?_replicate] at hx
  split at hx
  · cases hx; rfl
  · cases hx
theorem Zkj.get {S : Nat → Prop} {h : Zaa} {i : Nat} {m : Bd} (r : Zkj S h i m) {k : Nat} (hk : k < 12) : ∃ x : Zac × Zac, Zak h (.ptr (some (i, 0 + k * 2 + 0))) = some x.1 ∧ Zdd h (.ptr (some (i, 0 + k * 2))) 2 = some [x.1, x.2] ∧
    match (Zbo[k]?).bind (Zcj m) with | some t => Zdo S h t [x.1, x.2] | none => x = (.int .u8 0, .slice none 0 0 true) := by
  obtain ⟨rows, h1, h2, h3⟩ := r
  have hrow : Row h.length h (some (i, 0)) (12 * 2) (Zdk eR rows) := ⟨by rw [Zaw Zhz, h1], .inr ⟨i, 0, _, _, _, rfl, Own.lt h2, h2, by rw [Zaw Zhz, h1]; simp, by rw [List.drop_zero, List.take_of_length_le (by rw [Zaw Zhz, h1]; simp)]⟩⟩
  obtain ⟨i', o', hk', he, _, hr, hc⟩ := Row.el Zhz hrow h1 hk (by omega)
  cases he
  exact ⟨rows[k], by have := hc 0 (by omega); simpa [eR] using this, hr, h3 k _ (List.getElem?_eq_getElem hk')⟩
def Zyp (S : Nat → Prop) (h : Zaa) (i : Nat) (m : Bd) : Prop := ∃ rows : List (Zac × Zac), rows.length = 12 ∧ h[i]? = some (.cells Zbh (Zdk eR rows) false) ∧
  ∀ (k : Nat) (x : Zac × Zac), k < 6 → rows[k]? = some x → match (Zbo[k]?).bind (Zcj m) with | some t => Zdo S h t (eR x) | none => x = (.int .u8 0, .slice none 0 0 true)
theorem Zkj.w {S : Nat → Prop} {h : Zaa} {i : Nat} {m : Bd} (r : Zkj S h i m) : Zyp S h i m := by
  obtain ⟨rows, h1, h2, h3⟩ := r
  exact ⟨rows, h1, h2, fun k x _ hx => h3 k x hx⟩
theorem Zyp.lt {S : Nat → Prop} {h : Zaa} {i : Nat} {m : Bd} (r : Zyp S h i m) : i < h.length := by obtain ⟨_, _, h2, _⟩ := r; exact Own.lt h2
theorem Zyp.same {S : Nat → Prop} {h h' : Zaa} {i : Nat} {m : Bd} (r : Zyp S h i m) (s : Zbk h.length h h') : Zyp S h' i m := by
  obtain ⟨rows, h1, h2, h3⟩ := r
  refine ⟨rows, h1, by rw [s.eq i (Own.lt h2)]; exact h2, fun k x hk hx => ?_⟩
  have := h3 k x hk hx
  split at this
  · exact this.keep fun j _ hj => s.eq j hj
  · exact this
theorem Zyp.get {S : Nat → Prop} {h : Zaa} {i : Nat} {m : Bd} (r : Zyp S h i m) {k : Nat} (hk : k < 6) : ∃ x : Zac × Zac, Zak h (.ptr (some (i, 0 + k * 2 + 0))) = some x.1 ∧ Zdd h (.ptr (some (i, 0 + k * 2))) 2 = some [x.1, x.2] ∧
    match (Zbo[k]?).bind (Zcj m) with | some t => Zdo S h t [x.1, x.2] | none => x = (.int .u8 0, .slice none 0 0 true) := by
  obtain ⟨rows, h1, h2, h3⟩ := r
  have hrow : Row h.length h (some (i, 0)) (12 * 2) (Zdk eR rows) := ⟨by rw [Zaw Zhz, h1], .inr ⟨i, 0, _, _, _, rfl, Own.lt h2, h2, by rw [Zaw Zhz, h1]; simp, by rw [List.drop_zero, List.take_of_length_le (by rw [Zaw Zhz, h1]; simp)]⟩⟩
  obtain ⟨i', o', hk', he, _, hr, hc⟩ := Row.el Zhz hrow h1 (show k < 12 by omega) (by omega)
  cases he
  exact ⟨rows[k], by have := hc 0 (by omega); simpa [eR] using this, hr, h3 k _ hk (List.getElem?_eq_getElem hk')⟩
theorem Zkj.put {S : Nat → Prop} {h : Zaa} {i : Nat} {m : Bd} (r : Zkj S h i m) (hSi : ∀ j, S j → j ≠ i) {k v : Nat} (hk : Zbo[k]? = some v) (hg : Zcj m v = none) {t : Ty} {x y : Zac} (ht : Zdo S h t [x, y]) :
    ∃ h', Zbi h (.ptr (some (i, 0 + k * 2))) [x, y] = some h' ∧ Zdn i h h' ∧ Zkj S h' i (m ++ [(v, t)]) := by
  obtain ⟨rows, h1, h2, h3⟩ := r
  have hk6 : k < 6 := (List.getElem?_eq_some_iff.1 hk).1
  have hput : putRow (Zdk eR rows) (k * 2) (eR (x, y)) = Zdk eR (rows.set k (x, y)) := Zov Zhz (by omega)
  refine ⟨h.set i (.cells Zbh (Zdk eR (rows.set k (x, y))) false), ?_, Zdn.set _ _ _, ?_⟩
  · rw [Nat.zero_add, Zbm h2 (by rw [Zaw Zhz, h1]; simp; omega), ← hput]; rfl
  · have hkeep : ∀ j, S j → j < h.length → (h.set i (.cells Zbh (Zdk eR (rows.set k (x, y))) false))[j]? = h[j]? := fun j hj _ => Zcf (fun e => hSi j hj e.symm)
    refine ⟨_, by simp [h1], Zcq h2, fun k' x' hx' => ?_⟩
    by_cases e : k = k'
    · subst e
      rw [List.getElem?_set_self (by omega)] at hx'
      cases hx'
      rw [hk]
      simp only [Option.bind_some, Zka, hg, if_true]
      exact ht.keep hkeep
    · rw [List.getElem?_set_ne e] at hx'
      have := h3 k' x' hx'
      have hb : (Zbo[k']?).bind (Zcj (m ++ [(v, t)])) = (Zbo[k']?).bind (Zcj m) := by
        cases hv' : Zbo[k']? with
        | none => rfl
        | some w =>
          simp only [Option.bind_some, Zka]
          cases hb : Zcj m w with
          | some u => rfl
          | none =>
            have : ¬ v = w := fun e' => by
              subst e'
              have h5 := List.getElem?_eq_some_iff.1 hk
              have h6 := List.getElem?_eq_some_iff.1 hv'
              exact e ((List.getElem_inj (h₀ := h5.1) (h₁ := h6.1) Zga).1 (h5.2.trans h6.2.symm))
            simp [this]
      rw [hb]
      split at this
      · exact this.keep hkeep
      · exact this
def Ydh (S : Nat → Prop) (h : Zaa) (i : Nat) (r : Option Bd) (v : Zac) (h' : Zaa) : Prop := Zdn i h h' ∧ (match r with | some m' => v = .bool true ∧ Zkj S h' i m' | none => v = .bool false)
theorem Zdn.of_same {i : Nat} {h h' : Zaa} (s : Zbk h.length h h') : Zdn i h h' := ⟨s.le, fun j hj _ => s.eq j hj⟩
theorem Zob : ∀ (N : Nat) {a t : Ty} {S : Nat → Prop} {h : Zaa} {va vt : List Zac} {i n : Nat} {m : Bd}, a.size ≤ N → a.ok = true → t.ok = true → n ≤ 1048576 → t.txt.length ≤ n → BOk n m → (∀ j, S j → j ≠ i) → Zdo S h a va → Zdo S h t vt → Zkj S h i m →
    Zae pg Zfd [.ptr (some (i, 0)), .agg va, .agg vt] h (Ydh S h i (matchT m a t))
  | 0, a, t, S, h, va, vt, i, n, m, hN, _, _, _, _, _, _, _, _, _ => by have := a.size_ps; omega
  | N + 1, a, t, S, h, va, vt, i, n, m, hN, ha, ht, hB, hn, bo, hSi, ra, rt, rm => by
    have hcase := Zqt (m := m) ha ht
    obtain ⟨aa, ca, ea, vas, rfl, rowa, hSa, hval, hva⟩ := id ra.parts
    obtain ⟨at', ct, et, vts, rfl, rowt, hSt, hvtl, hvt⟩ := id rt.parts
    have hps2 : a.ps.length ≤ 2 := by cases a <;> simp [Ty.ps]
    have hil := rm.lt
    apply Zeg.call
    simp only [Zbf]
    generalize hh0 : h ++ [Zce.cells Zab [.int .u8 (a.hd : Int), .slice aa a.ps.length ca ea] false] = h0
    generalize hh1 : h0 ++ [Zce.cells Zab [.int .u8 (t.hd : Int), .slice at' t.ps.length ct et] false] = h1
    have s0 : Zbk h.length h h0 := by rw [← hh0]; exact Zbd
    have s1 : Zbk h0.length h0 h1 := by rw [← hh1]; exact Zbd
    have o0 : h0[h.length]? = some (.cells Zab [.int .u8 (a.hd : Int), .slice aa a.ps.length ca ea] false) := by rw [← hh0]; simp
    have oa := s1.get o0 (Own.lt o0)
    have ot : h1[h0.length]? = some (.cells Zab [.int .u8 (t.hd : Int), .slice at' t.ps.length ct et] false) := by rw [← hh1]; simp
    have S1 := s0.cat s1
    have l0 : h0.length = h.length + 1 := by rw [← hh0]; simp
    have l1 : h1.length = h.length + 2 := by rw [← hh1]; simp [l0]
    simp only [Zap oa, Nat.zero_add, List.getElem?_cons_succ, List.getElem?_cons_zero, Zaf]
    refine (Znu a.hd).mono ?_
    rintro v h2 ⟨rfl, rfl⟩
    have rm1 := rm.same S1
    have K1 : Zdn i h h2 := Zdn.of_same S1
    simp only [Zaf, Zan]
    cases hv : Zbj a.hd with
    | true =>
      rw [hv] at hcase
      simp only [if_true] at hcase
      obtain ⟨k, hk6, hkv, hix⟩ := Zpt hv
      rw [hix]
      obtain ⟨x, hx1, hx2, hx3⟩ := rm1.get (k := k) (by omega)
      rw [hkv, Option.bind_some] at hx3
      have hge : decide ((k : Int) ≥ 0) = true := by simp
      simp only [hge, Zax, Int.toNat_natCast, hx1, hx2, Zej ot (show 0 + 2 ≤ _ by simp), List.drop_zero, List.take_succ_cons, List.take_zero, Zaz, Zaj, Zau, Zaf, Zai]
      refine ⟨by omega, ?_⟩
      cases hg : Zcj m a.hd with
      | none =>
        rw [hg] at hx3
        simp only at hx3
        subst hx3
        have hbn : Zhg m a.hd t = some (m ++ [(a.hd, t)]) := by unfold Zhg; rw [hg]
        rw [hcase, hbn]
        simp only [Zaf, show ((0 : Int) == 0) = true from rfl, Zax]
        obtain ⟨h', hst, hK, hr'⟩ := rm1.put hSi hkv hg (rt.same S1)
        rw [hst]
        simp only [Zat]
        exact ⟨by omega, K1.trans hK, rfl, hr'⟩
      | some u =>
        rw [hg] at hx3
        simp only at hx3
        have hu := bo.var _ (Zgj hg)
        obtain ⟨ux, uc, ue, hux⟩ := hx3.shape
        simp only [List.cons.injEq, and_true] at hux
        obtain ⟨hux1, hux2⟩ := hux
        rw [hux1, hux2] at hx2 hx3
        rw [hux1, hux2]
        simp only [Zaf, Zai]
        have hu0 : (((u.hd : Nat) : Int) == 0) = false := by
          have := Zkh hu.2.1
          have hne : u.hd ≠ 0 := fun e => by rw [e] at this; simp at this
          simp; omega
        simp only [hu0, Zas]
        have rt1 := rt.same S1
        refine ⟨by omega, (Zii _ (Nat.le_refl _) (by omega) hu.2.1 hx3).mono ?_⟩
        rintro v h3 ⟨rfl, s3⟩
        have ot3 := s3.get ot (Own.lt ot)
        have rt3 := rt1.same s3
        simp only [Zam, Zej ot3 (show 0 + 2 ≤ _ by simp), List.drop_zero, List.take_succ_cons, List.take_zero, true_and]
        refine (Zii _ (Nat.le_refl _) (by omega) ht rt3).mono ?_
        rintro v h4 ⟨rfl, s4⟩
        simp only [Zam]
        have hri : ∀ hx, Zbk h2.length h2 hx → Zdd hx (.ptr (some (i, 0 + k * 2))) 2 = Zdd h2 (.ptr (some (i, 0 + k * 2))) 2 := fun hx sx => by
          simp only [Zdd, sx.eq i (by omega)]
        rw [hri _ (s3.cat s4), hri _ s3]
        refine ⟨by trivial, ?_⟩
        have K4 : Zdn i h h4 := K1.trans (Zdn.of_same (s3.cat s4))
        by_cases he : u = t
        · subst he
          have hbn : Zhg m a.hd u = some m := by unfold Zhg; rw [hg]; simp
          rw [hcase, hbn]
          exact ⟨K4, by simp, (rm1.same (s3.cat s4))⟩
        · have hne : ¬ u.txt = t.txt := fun e => he (Ty.txt_inj' hu.2.1 ht e)
          have hbn : Zhg m a.hd t = none := by unfold Zhg; rw [hg]; simp [he]
          rw [hcase, hbn]
          exact ⟨K4, by simp [hne]⟩
    | false =>
      rw [hv] at hcase
      simp only [Bool.false_eq_true, if_false] at hcase
      rw [Zqz ha hv]
      have hge : decide ((-1 : Int) ≥ 0) = false := by decide
      simp only [hge, Zas, Zap ot, Zap oa, List.getElem?_cons_succ, List.getElem?_cons_zero, Zaf, Zai]
      refine Zhd (fun hne => ?_) (fun he => ?_)
      · rw [if_neg (fun e => hne (by rw [e]))] at hcase
        rw [hcase]
        exact ⟨K1, rfl⟩
      · have he' : a.hd = t.hd := by omega
        rw [if_pos he'] at hcase
        rw [hcase]
        have hlen := Zpx ha ht he'
        refine Zeg.L10ind _ _ _ _ _ _ _ (J := fun (g : Nat) x43 h' => x43 = (g : Int) ∧ g ≤ a.ps.length ∧ Zdn i h2 h' ∧ ∃ m1, matchL m (a.ps.take g) (t.ps.take g) = some m1 ∧ Zkj S h' i m1) (fun g => a.ps.length - g) ?_ 0 _ _ ⟨rfl, by omega, Zdn.refl _ _, m, by simp [matchL], rm1⟩
        rintro g x43 h' ⟨rfl, hg, hK, m1, hm1, rm1⟩ R hR
        unfold Zeg.L10t
        have KK := K1.trans hK
        refine Zaq (fun hlt => ?_) (fun hge => ?_)
        · have hga : g < a.ps.length := by omega
          have hgt : g < t.ps.length := by omega
          have oa1 : h'[h.length]? = some (.cells Zab [.int .u8 (a.hd : Int), .slice aa a.ps.length ca ea] false) := by rw [hK.eq _ (Own.lt oa) (by omega)]; exact oa
          have ot1 : h'[h0.length]? = some (.cells Zab [.int .u8 (t.hd : Int), .slice at' t.ps.length ct et] false) := by rw [hK.eq _ (Own.lt ot) (by omega)]; exact ot
          obtain ⟨ja, ofa, a3, c3, e3, rfl, hra, hka⟩ := Zdo.get (rowa.keepAt (i := i) (fun j o h0 e => hSi j (hSa j o (by omega) e)) KK) hval (fun k w x h1 h2 => (hva k w x h1 h2).keep fun j hj hl => KK.eq j hl (hSi j hj)) hga
          obtain ⟨jt, oft, a4, c4, e4, rfl, hrt, hkt⟩ := Zdo.get (rowt.keepAt (i := i) (fun j o h0 e => hSi j (hSt j o (by omega) e)) KK) hvtl (fun k w x h1 h2 => (hvt k w x h1 h2).keep fun j hj hl => KK.eq j hl (hSi j hj)) hgt
          simp only [Zan, Int.toNat_natCast, Zap oa1, Zap ot1, hra, hrt, Nat.zero_add, List.getElem?_cons_succ, List.getElem?_cons_zero, Zai, Zaz, Zaj, Zau, Zaf, true_and]
          have hma := List.getElem_mem hga
          have hmt := List.getElem_mem hgt
          have h1 := Ty.size_part hma
          have h2 := Ty.len_part hmt
          have bo1 : BOk n m1 := BOk.matchL (fun x hx => Ty.ok_ps ha x (List.mem_of_mem_take hx)) (fun x hx => ⟨Ty.ok_ps ht x (List.mem_of_mem_take hx), by have := Ty.len_part (List.mem_of_mem_take hx); omega⟩) bo hm1
          have htk := Zjn a.ps t.ps m g hga hgt
          rw [hm1] at htk
          simp only at htk
          refine ⟨by omega, by omega, (Zob N (by omega) (Ty.ok_ps ha _ hma) (Ty.ok_ps ht _ hmt) hB (by omega) bo1 hSi hka hkt rm1).mono ?_⟩
          rintro v h3 ⟨K3, hres⟩
          have oa3 : h3[h.length]? = some (.cells Zab [.int .u8 (a.hd : Int), .slice (some (ja, ofa)) a.ps.length ca ea] false) := by rw [K3.eq _ (Own.lt oa1) (by omega)]; exact oa1
          cases hmm : matchT m1 a.ps[g] t.ps[g] with
          | none =>
            rw [hmm] at hres htk
            subst hres
            simp only [Zal, Bool.not_false, Zax, Zap oa3, List.getElem?_cons_succ, List.getElem?_cons_zero, true_and]
            rw [Zjo a.ps t.ps m (g + 1) hlen htk]
            exact ⟨KK.trans K3, rfl⟩
          | some m2 =>
            rw [hmm] at hres htk
            obtain ⟨rfl, rm2⟩ := hres
            simp only [Zal, Bool.not_true, Zas, Zap oa3, List.getElem?_cons_succ, List.getElem?_cons_zero, true_and]
            rw [Zch (by omega)]
            exact hR (g + 1) _ _ (by omega) ⟨rfl, by omega, hK.trans K3, m2, htk, rm2⟩
        · apply Zeg.A10x0i
          have : g = a.ps.length := by omega
          subst this
          rw [List.take_length, hlen, List.take_length] at hm1
          rw [hm1]
          exact ⟨KK, rfl, rm1⟩
end Go.Sim
