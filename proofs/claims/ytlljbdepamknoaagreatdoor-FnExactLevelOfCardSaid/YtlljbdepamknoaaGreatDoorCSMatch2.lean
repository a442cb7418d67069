/- A part of the proof of a statement of this seat: see the text that holds the theorem. No condition. -/
import Derived.Test.YtlljbdepamknoaaGreatDoorPTCWLaw
import Derived.Test.YtlljbdepamknoaaGreatDoorPMatch
import Derived.Test.YtlljbdepamknoaaGreatDoorCWGiv
import Derived.Test.YtlljbdepamknoaaGreatDoorPTCMatch2
import Derived.Test.YtlljbdepamknoaaGreatDoorPTCMost
set_option linter.unusedVariables false
set_option linter.unusedSimpArgs false
set_option linter.all false
set_option linter.unusedVariables false
set_option linter.unusedSimpArgs false
set_option maxRecDepth 20000
namespace Go.Sim
open Go Go.RowKit

/-- A map in memory that holds what variables stand for, as texts. -/
def MapB (h : AHeap) (i : Nat) (m : Bd) : Prop := ∃ es clk, h[i]? = some (.map es clk) ∧ es.map (·.1) = m.map (fun p => AVal.str [p.1]) ∧ es.map (·.2.1) = m.map (fun p => AVal.str p.2.txt) ∧ (es.map (·.2.2)).Nodup ∧ ∀ e ∈ es, e.2.2 < clk
theorem MapB.eq {h h' : AHeap} {i : Nat} {m : Bd} (r : MapB h i m) (he : h'[i]? = h[i]?) : MapB h' i m := by
  obtain ⟨es, clk, h1, x⟩ := r
  exact ⟨es, clk, by rw [he]; exact h1, x⟩
theorem MapB.lt {h : AHeap} {i : Nat} {m : Bd} (r : MapB h i m) : i < h.length := by obtain ⟨es, clk, h1, _⟩ := r; exact Own.lt h1
theorem findS_some : ∀ {es : List ME} {m : Bd} {v k : Nat} {t : Ty}, es.map (·.1) = m.map (fun p => AVal.str [p.1]) → es.map (·.2.1) = m.map (fun p => AVal.str p.2.txt) → bget m v = some t → ∃ j b, findS es [v] k = some (some (k + j, .str t.txt)) ∧ es[j]? = some (.str [v], .str t.txt, b)
  | _, [], v, k, t, _, _, h => by simp [bget] at h
  | [], p :: m, v, k, t, h, _, _ => by simp at h
  | (ek, ev, eb) :: es, (w, u) :: m, v, k, t, hk, hv, h => by
    simp only [List.map_cons, List.cons.injEq] at hk hv
    obtain ⟨rfl, hk⟩ := hk
    obtain ⟨rfl, hv⟩ := hv
    simp only [bget] at h
    by_cases e : w = v
    · rw [if_pos e] at h
      cases h; subst e
      exact ⟨0, eb, by simp [findS], rfl⟩
    · rw [if_neg e] at h
      obtain ⟨j, b, h1, h2⟩ := findS_some (k := k + 1) hk hv h
      have : ¬ [v] = [w] := fun x => e (by simpa using x.symm)
      exact ⟨j + 1, b, by simp only [findS, this, if_false, h1]; rw [show k + 1 + j = k + (j + 1) by omega], h2⟩
theorem findS_none : ∀ {es : List ME} {m : Bd} {v k : Nat}, es.map (·.1) = m.map (fun p => AVal.str [p.1]) → bget m v = none → findS es [v] k = some none
  | [], [], v, k, _, _ => rfl
  | [], p :: m, v, k, h, _ => by simp at h
  | e :: es, [], v, k, h, _ => by simp at h
  | (ek, ev, eb) :: es, (w, u) :: m, v, k, hk, h => by
    simp only [List.map_cons, List.cons.injEq] at hk
    obtain ⟨rfl, hk⟩ := hk
    simp only [bget] at h
    by_cases e : w = v
    · rw [if_pos e] at h; cases h
    · rw [if_neg e] at h
      have : ¬ [v] = [w] := fun x => e (by simpa using x.symm)
      simp only [findS, this, if_false]
      exact findS_none hk h
theorem modify_self {α : Type} {f : α → α} {e : α} : ∀ {l : List α} {j : Nat}, l[j]? = some e → f e = e → l.modify j f = l
  | [], j, h, _ => by simp at h
  | a :: l, 0, h, hf => by simp at h; subst h; simp [hf]
  | a :: l, j + 1, h, hf => by simp at h; simp [modify_self h hf]
theorem isVarS_one (c : Nat) : isVarS [c] = isVarN c := rfl
theorem Row.keepAt {i : Nat} {h h' : AHeap} {a : Pt} {n : Nat} {cs : List AVal} (r : Row h.length h a n cs) (hne : ∀ j o, n ≠ 0 → a = some (j, o) → j ≠ i) (k : Keep i h h') : Row h'.length h' a n cs := by
  obtain ⟨hl, r⟩ := r
  by_cases h0 : n = 0
  · exact ⟨hl, .inl h0⟩
  · refine ⟨hl, r.imp id ?_⟩
    rintro ⟨j, o', t, all, ro, ha, hi, hg, x⟩
    have := k.le
    exact ⟨j, o', t, all, ro, ha, by omega, by rw [k.eq j hi (hne j o' h0 ha)]; exact hg, x⟩
/-- What the program's matching leaves. -/
def MatQ (h : AHeap) (i : Nat) (r : Option Bd) (v : AVal) (h' : AHeap) : Prop := Keep i h h' ∧ (match r with | some m' => v = .bool true ∧ MapB h' i m' | none => v = .bool false)
theorem match_ok : ∀ (N : Nat) {a t : Ty} {S : Nat → Prop} {h : AHeap} {p q : Pt} {i n : Nat} {m : Bd}, a.size ≤ N → a.ok = true → t.ok = true → t.txt.length ≤ 1048576 → t.txt.length ≤ n → BOk n m → (∀ j, S j → j ≠ i) → NRep S h a p → NRep S h t q → MapB h i m →
    SCall pg n_impl_node_match [.ptr p, .ptr q, .map (some i)] h (MatQ h i (matchT m a t))
  | 0, a, t, S, h, p, q, i, n, m, hN, _, _, _, _, _, _, _, _, _ => by have := a.size_ps; omega
  | N + 1, a, t, S, h, p, q, i, n, m, hN, ha, ht, hB, hn, bo, hSi, ra, rt, rm => by
    have hcase := matchT_eq (m := m) ha ht
    obtain ⟨ia, aa, ca, ea, qa, rfl, sia, hia, rowa, hSa, hqal, hqa⟩ := ra.parts
    obtain ⟨it, at', ct, et, qt, rfl, sit, hit, rowt, hSt, hqtl, hqt⟩ := id rt.parts
    have hps2 : a.ps.length ≤ 2 := by cases a <;> simp [Ty.ps]
    apply F_impl_node_match.call
    simp only [xSome_some, hCell_of hia, Nat.zero_add, List.getElem?_cons_succ, List.getElem?_cons_zero, xSl_some, xStr_some]
    refine (isVar_ok [a.hd]).mono ?_
    rintro v h1 ⟨rfl, rfl⟩
    simp only [xBool_some, isVarS_one]
    refine bcase_intro (fun hv => ?_) (fun hv => ?_)
    · rw [hv] at hcase
      simp only [if_true] at hcase
      refine (text_ok _ (Nat.le_refl _) hB rt).mono ?_
      rintro v h2 ⟨rfl, s2⟩
      have hia2 := s2.get hia (Own.lt hia)
      obtain ⟨es, clk, hm, hk, hvv, hb, hlt⟩ := id rm
      have hm2 := s2.get hm (Own.lt hm)
      have rm2 : MapB h2 i m := rm.eq (s2.eq i (Own.lt hm))
      simp only [xStr_some, hCell_of hia2, List.getElem?_cons_succ, List.getElem?_cons_zero, xMapObj, hm2, lookS]
      have K2 : Keep i h1 h2 := ⟨s2.le, fun j hj _ => s2.eq j hj⟩
      have hput : ∀ r : Option Bd, (∀ (es' : List ME) (k' : Nat), putS es clk [a.hd] (.str t.txt) (fun x y => x = es' ∧ y = k') → MatQ h1 i r (.bool true) (h2.set i (.map es' k'))) → F_impl_node_match.J6 (MatQ h1 i r) (some i) (some (ia, 0)) t.txt h2 := by
        intro r hr
        apply F_impl_node_match.J6i
        simp only [xSome_some, hCell_of hia2, Nat.zero_add, List.getElem?_cons_zero, xStr_some, xMp, xMapObj, hm2, letH_def]
        unfold putS at hr ⊢
        cases hg : bget m a.hd with
        | none =>
          rw [findS_none hk hg] at hr ⊢
          exact hr _ _ ⟨rfl, rfl⟩
        | some u =>
          obtain ⟨j, b, hf, _⟩ := findS_some (k := 0) hk hvv hg
          rw [hf] at hr ⊢
          exact hr _ _ ⟨rfl, rfl⟩
      have KS : ∀ x, Keep i h1 (h2.set i x) := fun x => K2.trans (Keep.set i h2 x)
      have hil := Own.lt hm2
      cases hg : bget m a.hd with
      | none =>
        have hbn : bnote m a.hd t = some (m ++ [(a.hd, t)]) := by unfold bnote; rw [hg]
        rw [hbn] at hcase
        rw [hcase, findS_none hk hg]
        simp only [Option.getD_none, xStr_some, Option.isSome_none, bcase_false]
        refine hput _ fun es' k' hp => ⟨KS _, rfl, ?_⟩
        unfold putS at hp
        rw [findS_none hk hg] at hp
        obtain ⟨rfl, rfl⟩ := hp
        refine ⟨_, _, List.getElem?_set_self hil, by simp [hk], by simp [hvv], ?_, ?_⟩
        · rw [List.map_append, List.nodup_append]
          refine ⟨hb, by simp, ?_⟩
          intro x hx y hy e
          simp at hy
          obtain ⟨z, hz, rfl⟩ := List.mem_map.1 hx
          have := hlt z hz; omega
        · intro e he
          rcases List.mem_append.1 he with he | he
          · have := hlt e he; omega
          · simp at he; subst he; simp
      | some u =>
        obtain ⟨j, b, hf, hj⟩ := findS_some (k := 0) hk hvv hg
        rw [hf]
        simp only [Option.getD_some, xStr_some, Option.isSome_some, bcase_true]
        have hu : u.ok = true ∨ True := .inr trivial
        by_cases he : u = t
        · subst he
          have hbn : bnote m a.hd u = some m := by unfold bnote; rw [hg]; simp
          rw [hbn] at hcase
          rw [hcase]
          simp only [decide_true, Bool.not_true, bcase_false]
          refine hput _ fun es' k' hp => ⟨KS _, rfl, ?_⟩
          unfold putS at hp
          rw [hf] at hp
          obtain ⟨rfl, rfl⟩ := hp
          rw [Nat.zero_add, modify_self hj rfl]
          exact ⟨es, clk, List.getElem?_set_self hil, hk, hvv, hb, hlt⟩
        · have hu := (bo.var _ (bget_mem hg)).2.1
          have hne : ¬ u.txt = t.txt := fun e => he (Ty.txt_inj' hu ht e)
          have hbn : bnote m a.hd t = none := by unfold bnote; rw [hg]; simp [he]
          rw [hbn] at hcase
          rw [hcase]
          simp only [hne, decide_false, Bool.not_false, bcase_true]
          exact ⟨K2, rfl⟩
    · rw [hv] at hcase
      simp only [Bool.false_eq_true, if_false] at hcase
      simp only [xSome_some, hCell_of hia, hCell_of hit, Nat.zero_add, List.getElem?_cons_succ, List.getElem?_cons_zero, xSl_some, xStr_some, true_and]
      refine bcase_ndec (fun hne => ?_) (fun he => ?_)
      · rw [if_neg (fun e => hne (by rw [e]))] at hcase
        rw [hcase]
        exact ⟨Keep.refl _ _, rfl⟩
      · have he' : a.hd = t.hd := by simpa using he
        rw [if_pos he'] at hcase
        rw [hcase]
        have hlen := ok_len ha ht he'
        refine F_impl_node_match.L11ind _ _ _ _ _ _ _ _ (J := fun (g : Nat) x54 h' => x54 = (g : Int) ∧ g ≤ a.ps.length ∧ Keep i h1 h' ∧ ∃ m1, matchL m (a.ps.take g) (t.ps.take g) = some m1 ∧ MapB h' i m1) (fun g => a.ps.length - g) ?_ 0 _ _ ⟨rfl, by omega, Keep.refl _ _, m, by simp [matchL], rm⟩
        rintro g x54 h' ⟨rfl, hg, hK, m1, hm1, rm1⟩ R hR
        unfold F_impl_node_match.L11t
        refine bcase_dec (fun hlt => ?_) (fun hge => ?_)
        · have hga : g < a.ps.length := by omega
          have hgt : g < t.ps.length := by omega
          have hit1 : h'[it]? = some (.cells t_impl_node [.str [t.hd], .slice at' t.ps.length ct et, .ptr none] false) := by rw [hK.eq _ (Own.lt hit) (hSi _ sit)]; exact hit
          obtain ⟨ja, oa, rfl, _, hca⟩ := (rowa.keepAt (i := i) (fun j o h0 e => hSi j (hSa j o h0 e)) hK).at hga
          obtain ⟨jt, ot, rfl, _, hct⟩ := (rowt.keepAt (i := i) (fun j o h0 e => hSi j (hSt j o h0 e)) hK).at hgt
          have hqag : g < qa.length := by omega
          have hqtg : g < qt.length := by omega
          rw [List.getElem?_map, List.getElem?_eq_getElem hqag] at hca
          rw [List.getElem?_map, List.getElem?_eq_getElem hqtg] at hct
          simp only [xSome_some, Int.toNat_natCast, Nat.mul_one, hca, hct, Option.map_some, xPtr_some, hCell_of hit1, Nat.zero_add, List.getElem?_cons_succ, List.getElem?_cons_zero, xSl_some]
          have hma := List.getElem_mem hga
          have hmt := List.getElem_mem hgt
          have h1 := Ty.size_part hma
          have h2 := Ty.len_part hmt
          have bo1 : BOk n m1 := BOk.matchL (fun x hx => Ty.ok_ps ha x (List.mem_of_mem_take hx)) (fun x hx => ⟨Ty.ok_ps ht x (List.mem_of_mem_take hx), by have := Ty.len_part (List.mem_of_mem_take hx); omega⟩) bo hm1
          have htk := matchL_take a.ps t.ps m g hga hgt
          rw [hm1] at htk
          simp only at htk
          refine ⟨by omega, by omega, (match_ok N (by omega) (Ty.ok_ps ha _ hma) (Ty.ok_ps ht _ hmt) (by omega) (by omega) bo1 hSi ((hqa g _ _ (List.getElem?_eq_getElem hqag) (List.getElem?_eq_getElem hga)).keep fun j hj hl => hK.eq j hl (hSi j hj)) ((hqt g _ _ (List.getElem?_eq_getElem hqtg) (List.getElem?_eq_getElem hgt)).keep fun j hj hl => hK.eq j hl (hSi j hj)) rm1).mono ?_⟩
          rintro v h3 ⟨K3, hres⟩
          cases hmm : matchT m1 a.ps[g] t.ps[g] with
          | none =>
            rw [hmm] at hres htk
            subst hres
            simp only [xBool_some, Bool.not_false, bcase_true]
            rw [matchL_none a.ps t.ps m (g + 1) hlen htk]
            exact ⟨hK.trans K3, rfl⟩
          | some m2 =>
            rw [hmm] at hres htk
            obtain ⟨rfl, rm2⟩ := hres
            simp only [xBool_some, Bool.not_true, bcase_false]
            rw [wrap_nat (by omega)]
            exact hR (g + 1) _ _ (by omega) ⟨rfl, by omega, hK.trans K3, m2, htk, rm2⟩
        · apply F_impl_node_match.A11x0i
          have : g = a.ps.length := by omega
          subst this
          rw [List.take_length, hlen, List.take_length] at hm1
          rw [hm1]
          exact ⟨hK, rfl, rm1⟩
end Go.Sim

set_option linter.unusedVariables false
set_option linter.unusedSimpArgs false
set_option maxRecDepth 20000
namespace Go.Sim
open Go Go.RowKit

theorem u_L_Binding : pg.underlying t_L_impl_Binding = some (.slice t_impl_Binding) := by kernel_rfl
theorem c_Binding : pg.cellsOf t_impl_Binding = 2 := by kernel_rfl
theorem k_Binding : pg.okElem t_impl_Binding = true := by kernel_rfl
theorem b_Binding : pg.bytesOf t_impl_Binding ≤ 127 := Nat.le_of_ble_eq_true (by kernel_rfl)
/-- A list that was built up, as a result. -/
theorem Vec.fresh {α : Type} {ty : TypeId} {enc : α → List AVal} {b : Nat} {h : AHeap} {a : Pt} {n c : Nat} {l : List α} (v : Vec ty h a n c (flat enc l)) (hn : n = l.length) (ha : ∀ i, a = some (i, 0) → b ≤ i) : FreshR ty enc b h a n l := by
  refine ⟨hn.symm, ?_⟩
  rcases v with ⟨rfl, h0, _⟩ | ⟨i, rfl, hi⟩
  · exact .inl h0
  · exact .inr ⟨i, rfl, ha i rfl, hi⟩
theorem bdL_len (m : Bd) : (bdL m).length ≤ 6 := by
  rw [bdL_eq, List.length_map]; exact Nat.le_trans (List.length_filter_le _ _) (by decide)
theorem bindings_ok {h : AHeap} {i : Nat} {m : Bd} (rm : MapB h i m) (bo : BOk 60 m) :
    SCall pg n_impl_bindings [.map (some i)] h fun v h' => Same h.length h h' ∧ ∃ a n c e, v = .slice a n c e ∧ n ≤ c ∧ FreshR t_impl_Binding eP h.length h' a n (bdL m) := by
  have hml : m.length ≤ 6 := by
    have hp : (m.map (·.1)).Perm (varsN.filter fun v => decide (v ∈ m.map (·.1))) := by
      rw [List.perm_ext_iff_of_nodup bo.nd (varsN_nodup.filter _)]
      intro v
      rw [List.mem_filter]
      constructor
      · intro hv
        obtain ⟨p, hp, rfl⟩ := List.mem_map.1 hv
        exact ⟨(varsN_var _).2 (bo.var p hp).1, by simpa using hv⟩
      · exact fun h => by simpa using h.2
    have h1 := hp.length_eq
    have h2 := List.length_filter_le (fun v => decide (v ∈ m.map (·.1))) varsN
    rw [List.length_map] at h1
    have h3 : varsN.length = 6 := rfl
    omega
  apply F_impl_bindings.call
  simp only [letH_def]
  generalize hh0 : h ++ [AObj.cells t_impl_Binding [] false] = h0
  have s0 : Same h.length h h0 := by rw [← hh0]; exact same_last
  have l0 : h0.length = h.length + 1 := by rw [← hh0]; simp
  have o0 : h0[h.length]? = some (.cells t_impl_Binding [] false) := by rw [← hh0]; simp
  refine lib_keys.mono ?_
  rintro v h2 ⟨rfl, hh2⟩
  simp only [xAny]
  have s2 : Same h0.length h0 h2 := by rw [hh2]; exact same_last
  have hc2 : h2[h0.length]? = some (.cells t_map_string_string [.map (some i)] false) := by rw [hh2]; simp
  obtain ⟨es, clk, hm, hk, hvv, hb, hlt⟩ := id rm
  have S2 := s0.cat s2
  have hm2 := S2.get hm (Own.lt hm)
  have hel : es.length = m.length := by have := congrArg List.length hk; simpa using this
  refine (lib_sortedKeys hc2 hm2 (vs := m.map (·.1)) (by rw [hk, List.map_map]; rfl) bo.nd hb hlt (by omega)).mono ?_
  rintro v h3 ⟨us, hp, hsrt, hcase⟩
  have hus := sorted_keys bo hp hsrt
  have hbd : bdL m = us.map fun v => ([v], ((bget m v).getD default).txt) := by rw [bdL_eq, hus]
  have hul : us.length ≤ 6 := by rw [hp.length_eq]; simpa using hml
  have hmem : ∀ v ∈ us, ∃ t, bget m v = some t := fun v hv => by
    rw [hus, List.mem_filter] at hv; exact Option.isSome_iff_exists.1 hv.2
  have hgen : ∃ a c e, v = .slice a us.length c e ∧ Row h3.length h3 a us.length (us.map fun v => AVal.str [v]) ∧ Same h2.length h2 h3 := by
    rcases hcase with ⟨rfl, rfl, rfl⟩ | ⟨c, rfl, hc, rfl⟩
    · exact ⟨_, _, _, rfl, Row.nil, Same.refl _ _⟩
    · refine ⟨_, _, _, rfl, ⟨by simp, .inr ⟨h2.length, 0, t_string, _, false, rfl, by simp, by simp; rfl, by simp, by rw [List.drop_zero, List.take_of_length_le (by simp)]⟩⟩, same_last⟩
  obtain ⟨a9, c9, e9, rfl, hrow, s3⟩ := hgen
  simp only [xSl_some]
  have S3 := S2.cat s3
  have hS3le := S3.le
  have o3 : h3[h.length]? = some (.cells t_impl_Binding [] false) := s3.get (s2.get o0 (Own.lt o0)) (by have := Own.lt o0; have := s2.le; omega)
  refine F_impl_bindings.L3ind _ _ _ _ _ _ _ (J := fun (g : Nat) a3 n3 c3 e3 x11 h' => x11 = (g : Int) ∧ g ≤ us.length ∧ Same h.length h h' ∧ (∀ j, j < h3.length → j ≠ h.length → h'[j]? = h3[j]?) ∧ h3.length ≤ h'.length ∧ n3 = g ∧ n3 ≤ c3 ∧ Vec t_impl_Binding h' a3 n3 c3 (flat eP ((bdL m).take g)) ∧ (∀ i, a3 = some (i, 0) → i = h.length ∨ h3.length ≤ i)) (fun g => us.length - g) ?_ 0 _ _ _ _ _ _
    ⟨rfl, by omega, S3, fun _ _ _ => rfl, Nat.le_refl _, rfl, Nat.le_refl _, Vec.mk1 (by simpa using o3), fun i hi => by cases hi; exact .inl rfl⟩
  rintro g a3 n3 c3 e3 x11 h' ⟨rfl, hg, hSm, hK, hle3, rfl, hnc, hv, ha⟩ R hR
  unfold F_impl_bindings.L3t
  have hbl : (bdL m).length = us.length := by rw [hbd]; simp
  refine bcase_dec (fun hlt => ?_) (fun hge => ?_)
  · have hg' : n3 < us.length := by omega
    obtain ⟨j, o, rfl, hj, hc⟩ := hrow.at hg'
    rw [List.getElem?_map, List.getElem?_eq_getElem hg', Option.map_some] at hc
    -- the row of keys has not turned: it lies apart from the row of bindings
    have hjr : j ≠ h.length := by
      rcases hcase with ⟨h0, _⟩ | ⟨c, hsl, _, _⟩
      · rw [h0] at hg'; simp at hg'
      · simp only [AVal.slice.injEq, Option.some.injEq, Prod.mk.injEq] at hsl
        have := s2.le; omega
    have hc' : hCell h' (.ptr (some (j, o + n3))) = some (.str [us[n3]]) := by
      rw [← hc]; simp only [hCell, hK j hj hjr]
    obtain ⟨t, ht⟩ := hmem _ (List.getElem_mem hg')
    have hm' := hSm.get hm (Own.lt hm)
    obtain ⟨jj, bb, hf, _⟩ := findS_some (k := 0) hk hvv ht
    simp only [xSome_some, Int.toNat_natCast, Nat.mul_one, hc', xStr_some, xMapObj, hm', lookS, hf, Option.getD_some, letH_def]
    have htk : (bdL m).take (n3 + 1) = (bdL m).take n3 ++ [([us[n3]], t.txt)] := by
      rw [List.take_succ_eq_append_getElem (by omega)]
      congr 2
      have : (bdL m)[n3]? = some ([us[n3]], t.txt) := by
        rw [hbd, List.getElem?_map, List.getElem?_eq_getElem hg', Option.map_some, ht, Option.getD_some]
      exact (List.getElem?_eq_some_iff.1 this).2
    refine ⟨by omega, ?_⟩
    refine hv.pushN u_L_Binding c_Binding k_Binding b_Binding (by rw [flat_length eP_len, List.length_take]; omega) rfl (by omega) rfl (by omega) (fun h6 hl6 hi6 hk6 => ?_)
    simp only [xSl_some]
    rw [wrap_nat (by omega)]
    have hle := hSm.le
    have hb9 : ∀ i, a3 = some (i, 0) → h.length ≤ i := fun i hi => by rcases ha i hi with hh | hh <;> omega
    refine hR (n3 + 1) _ _ _ _ _ _ (by omega) ⟨rfl, by omega, ⟨by omega, fun j hj => ?_⟩, fun j hj hne => ?_, by omega, rfl, Nat.le_refl _, Vec.mk1 ?_, fun i hi => by cases hi; right; omega⟩
    · rw [hk6 j (by omega) fun i hi => by have := hb9 i hi; omega]; exact hSm.eq j hj
    · rw [hk6 j (by omega) fun i hi => by rcases ha i hi with hh | hh <;> omega]; exact hK j hj hne
    · rw [hi6, htk, flat_append]; rfl
  · apply F_impl_bindings.A3x0i
    have : n3 = us.length := by omega
    subst this
    rw [show (bdL m).take us.length = bdL m from List.take_of_length_le (by omega)] at hv
    exact ⟨hSm, _, _, _, _, rfl, hnc, hv.fresh (b := h.length) hbl.symm fun i hi => by rcases ha i hi with hh | hh <;> omega⟩
/-- What matching two texts answers. -/
def MatchQ (p s : List Nat) (h : AHeap) (v : AVal) (h' : AHeap) : Prop := Same h.length h h' ∧ ∃ a n c e, v = .tup [.slice a n c e, .bool (instS p s)] ∧ n ≤ c ∧ FreshR t_impl_Binding eP h.length h' a n (matchR p s)
theorem matchType_ok (p s : List Nat) (h : AHeap) : SCall pg n_impl_MatchType [.str p, .str s] h (MatchQ p s h) := by
  apply F_impl_MatchType.call
  refine (typeOf_ok p h).mono ?_
  rintro v h1 ⟨s1, q1, rfl, r1⟩
  simp only [xPtr_some]
  refine (typeOf_ok s h1).mono ?_
  rintro v h2 ⟨s2, q2, rfl, r2⟩
  simp only [xPtr_some, letH_def]
  have S2 := s1.cat s2
  have s3 : Same h2.length h2 (h2 ++ [.map [] 0]) := same_last
  have S3 := S2.cat s3
  have no : matchS p s = none → MatchQ p s h (.tup [.slice none 0 0 true, .bool false]) (h2 ++ [.map [] 0]) := fun hn =>
    ⟨S3, none, 0, 0, true, by unfold instS; rw [hn]; rfl, Nat.le_refl _, by unfold matchR; rw [hn]; exact ⟨rfl, .inl rfl⟩⟩
  cases hp : ofTxt p with
  | none =>
    rw [hp] at r1; simp only at r1; subst r1
    simp only [Option.isNone_none, bcase_true]
    exact no (by unfold matchS; rw [hp])
  | some a =>
    rw [hp] at r1; simp only at r1
    obtain ⟨i1, rfl, b1, l1⟩ := r1.lt
    simp only [Option.isNone_some, bcase_false]
    cases ht : ofTxt s with
    | none =>
      rw [ht] at r2; simp only at r2; subst r2
      simp only [Option.isNone_none, bcase_true]
      exact no (by unfold matchS; rw [hp, ht])
    | some t =>
      rw [ht] at r2; simp only at r2
      obtain ⟨i2, rfl, b2, l2⟩ := r2.lt
      simp only [Option.isNone_some, bcase_false]
      obtain ⟨ha1, ha2, ha3⟩ := ofTxt_some.1 hp
      obtain ⟨ht1, ht2, ht3⟩ := ofTxt_some.1 ht
      have hms : matchS p s = matchT [] a t := by unfold matchS; rw [hp, ht]
      have hl1 := s1.le; have hl2 := s2.le
      have R1 := ((r1.same s2).same s3).mono (S' := fun j => j ≠ h2.length) (fun j hj => by have := hj.2; omega)
      have R2 := (r2.same s3).mono (S' := fun j => j ≠ h2.length) (fun j hj => by have := hj.2; omega)
      have rm : MapB (h2 ++ [.map [] 0]) h2.length [] := ⟨[], 0, by simp, rfl, rfl, by simp, by simp⟩
      refine (match_ok _ (Nat.le_refl _) ha1 ht1 (by rw [← ht2]; omega) (n := 60) (by rw [← ht2]; exact ht3) BOk.nil (fun j hj => hj) R1 R2 rm).mono ?_
      rintro v h4 ⟨K4, hres⟩
      have S4 : Same h.length h h4 := ⟨by have := K4.le; have := S3.le; omega, fun j hj => by rw [K4.eq j (by have := S3.le; omega) (by have := S2.le; omega)]; exact S3.eq j hj⟩
      cases hm : matchT [] a t with
      | none =>
        rw [hm] at hres hms
        subst hres
        simp only [xBool_some, Bool.not_false, bcase_true]
        exact ⟨S4, none, 0, 0, true, by unfold instS; rw [hms]; rfl, Nat.le_refl _, by unfold matchR; rw [hms]; exact ⟨rfl, .inl rfl⟩⟩
      | some m =>
        rw [hm] at hres hms
        obtain ⟨rfl, rm4⟩ := hres
        simp only [xBool_some, Bool.not_true, bcase_false]
        apply F_impl_MatchType.J4i
        refine (bindings_ok rm4 (matchS_ok hms)).mono ?_
        rintro v h5 ⟨s5, a5, n5, c5, e5, rfl, hc5, f5⟩
        simp only [xSl_some]
        refine ⟨S4.cat s5, a5, n5, c5, e5, by unfold instS; rw [hms]; rfl, hc5, ?_⟩
        unfold matchR; rw [hms]
        exact ⟨f5.1, f5.2.imp id fun ⟨i, ha, hb, hi⟩ => ⟨i, ha, by have := S4.le; omega, hi⟩⟩
theorem isInstance_ok (p s : List Nat) (h : AHeap) : SCall pg n_impl_IsInstance [.str p, .str s] h fun v h' => v = .bool (instS p s) ∧ Same h.length h h' := by
  apply F_impl_IsInstance.call
  refine (matchType_ok p s h).mono ?_
  rintro v h1 ⟨s1, a, n, c, e, rfl, _⟩
  simp only [xTup_tup, xCons_cons, xSl_some, xBool_some, xNil_nil]
  exact ⟨by trivial, s1⟩
end Go.Sim

/- Bindings put into a type: plain Lean. -/
set_option linter.unusedSimpArgs false
set_option linter.unusedVariables false
namespace Go.Sim

/-- Bindings are valid: variables with types, in order. -/
noncomputable def bindAt (l : List Nd) (i : Nat) : Bool := isVarS (l.getD i ([], [])).1 && tyOk (l.getD i ([], [])).2 && (i == 0 || natLess (l.getD (i - 1) ([], [])).1 (l.getD i ([], [])).1)
noncomputable def bindOk (l : List Nd) : Bool := (List.range l.length).all (bindAt l)
/-- What a letter becomes. -/
def bfind (l : List Nd) (c : Nat) : List Nat := match l.find? fun p => decide (p.1 = [c]) with | some p => p.2 | none => [c]
def applyT (l : List Nd) (t : List Nat) : List Nat := t.flatMap (bfind l)
/-- What a letter stands for. -/
noncomputable def btree (l : List Nd) (c : Nat) : Option Ty := match l.find? fun p => decide (p.1 = [c]) with | some p => ofTxt p.2 | none => none
noncomputable def subst (f : Nat → Option Ty) : Ty → Ty
  | .k c => (f c).getD (.k c)
  | .u c a => .u c (subst f a)
  | .w c a b => .w c (subst f a) (subst f b)
noncomputable def applyS (l : List Nd) (t : List Nat) : Option (List Nat) := if bindOk l && tyOk t && decide ((applyT l t).length ≤ 60) then some (applyT l t) else none
theorem bindOk_at {l : List Nd} (h : bindOk l = true) {i : Nat} (hi : i < l.length) : isVarS l[i].1 = true ∧ tyOk l[i].2 = true ∧ (i = 0 ∨ natLess (l.getD (i - 1) ([], [])).1 l[i].1 = true) := by
  unfold bindOk at h
  rw [List.all_eq_true] at h
  have := h i (List.mem_range.2 hi)
  unfold bindAt at this
  rw [getD_at hi] at this
  simp only [Bool.and_eq_true, Bool.or_eq_true, beq_iff_eq] at this
  exact ⟨this.1.1, this.1.2, this.2⟩
theorem bindOk_mem {l : List Nd} (h : bindOk l = true) {p : Nd} (hp : p ∈ l) : isVarS p.1 = true ∧ tyOk p.2 = true := by
  obtain ⟨i, hi, rfl⟩ := List.getElem_of_mem hp
  exact ⟨(bindOk_at h hi).1, (bindOk_at h hi).2.1⟩
theorem bfind_not {l : List Nd} (h : bindOk l = true) {c : Nat} (hc : isVarN c = false) : bfind l c = [c] ∧ btree l c = none := by
  have : l.find? (fun p => decide (p.1 = [c])) = none := by
    rw [List.find?_eq_none]
    intro p hp e
    have := (bindOk_mem h hp).1
    rw [of_decide_eq_true e] at this
    simp [isVarS, hc] at this
  unfold bfind btree
  rw [this]; exact ⟨rfl, rfl⟩
theorem bfind_tree {l : List Nd} (h : bindOk l = true) (c : Nat) : bfind l c = ((btree l c).getD (.k c)).txt ∧ ∀ t, btree l c = some t → t.ok = true ∧ t.txt.length ≤ 60 := by
  unfold bfind btree
  cases hf : l.find? (fun p => decide (p.1 = [c])) with
  | none => exact ⟨rfl, fun t ht => by cases ht⟩
  | some p =>
    have hp := List.mem_of_find?_eq_some hf
    obtain ⟨t, ht⟩ := tyOk_some (bindOk_mem h hp).2
    obtain ⟨h1, h2, h3⟩ := ofTxt_some.1 ht
    simp only [ht]
    refine ⟨by simpa using h2, fun u hu => ?_⟩
    cases hu
    exact ⟨h1, by rw [← h2]; exact h3⟩
theorem applyT_mark {l : List Nd} (h : bindOk l = true) {c : Nat} (hc : isMark c = true) : bfind l c = [c] := by
  refine (bfind_not h ?_).1
  simp only [isMark, Bool.or_eq_true, beq_iff_eq] at hc
  rcases hc with (rfl | rfl) | rfl <;> rfl
theorem isVar_u {c : Nat} {a : Ty} (h : (Ty.u c a).ok = true) : isVarN c = false := by
  cases hv : isVarN c with
  | false => rfl
  | true => have := ok_hd_var h hv; cases this
theorem isVar_w {c : Nat} {a b : Ty} (h : (Ty.w c a b).ok = true) : isVarN c = false := by
  cases hv : isVarN c with
  | false => rfl
  | true => have := ok_hd_var h hv; cases this
theorem applyT_txt {l : List Nd} (h : bindOk l = true) : ∀ {t : Ty}, t.ok = true → applyT l t.txt = (subst (btree l) t).txt ∧ (subst (btree l) t).ok = true
  | .k c, ht => by
    have := bfind_tree h c
    simp only [applyT, Ty.txt, List.flatMap_cons, List.flatMap_nil, List.append_nil, subst]
    refine ⟨this.1, ?_⟩
    cases hb : btree l c with
    | none => exact ht
    | some t => exact (this.2 t hb).1
  | .u c a, ht => by
    have hv := isVar_u ht
    have hh := ht
    simp only [Ty.ok, Bool.and_eq_true] at ht
    have ih := applyT_txt h ht.2
    simp only [applyT] at ih
    simp only [applyT, Ty.txt, List.flatMap_cons, List.flatMap_append, List.flatMap_nil, List.append_nil, subst, (bfind_not h hv).1, applyT_mark h Ty.m40, applyT_mark h Ty.m41, ih.1, List.cons_append, List.nil_append]
    refine ⟨by trivial, ?_⟩
    simp only [Ty.ok, Bool.and_eq_true]; exact ⟨ht.1, ih.2⟩
  | .w c a b, ht => by
    have hv := isVar_w ht
    simp only [Ty.ok, Bool.and_eq_true] at ht
    have ih := applyT_txt h ht.1.2
    have ih2 := applyT_txt h ht.2
    simp only [applyT] at ih ih2
    simp only [applyT, Ty.txt, List.flatMap_cons, List.flatMap_append, List.flatMap_nil, List.append_nil, subst, (bfind_not h hv).1, applyT_mark h Ty.m40, applyT_mark h Ty.m41, applyT_mark h Ty.m44, ih.1, ih2.1, List.cons_append, List.nil_append]
    refine ⟨by trivial, ?_⟩
    simp only [Ty.ok, Bool.and_eq_true]; exact ⟨⟨ht.1.1, ih.2⟩, ih2.2⟩
theorem natLess_one (a b : Nat) : natLess [a] [b] = decide (a < b) := by
  simp [natLess]
/-- What matching gives is valid. -/
theorem bindOk_bdL {m : Bd} (b : BOk 60 m) : bindOk (bdL m) = true := by
  rw [bdL_eq]
  generalize hvs : (varsN.filter fun v => (bget m v).isSome) = vs
  have hs : vs.Pairwise (· < ·) := by rw [← hvs]; exact varsN_sorted.filter _
  have hm : ∀ v ∈ vs, isVarN v = true ∧ ∃ t, bget m v = some t := by
    intro v hv
    rw [← hvs, List.mem_filter] at hv
    exact ⟨(varsN_var v).1 hv.1, Option.isSome_iff_exists.1 hv.2⟩
  unfold bindOk
  rw [List.all_eq_true]
  intro i hi
  rw [List.mem_range, List.length_map] at hi
  unfold bindAt
  rw [getD_at (by simpa using hi), List.getElem_map]
  obtain ⟨h1, t, h2⟩ := hm _ (List.getElem_mem hi)
  have h3 := b.var _ (bget_mem h2)
  simp only [h2, Option.getD_some, isVarS, h1, Bool.true_and, Bool.and_eq_true, Bool.or_eq_true, beq_iff_eq]
  refine ⟨tyOk_iff.2 ⟨t, h3.2.1, rfl, h3.2.2⟩, ?_⟩
  cases i with
  | zero => exact .inl rfl
  | succ j =>
    right
    rw [Nat.add_sub_cancel, getD_at (by simp; omega), List.getElem_map, natLess_one]
    exact decide_eq_true (List.pairwise_iff_getElem.1 hs j (j + 1) (by omega) hi (by omega))
/-- The needs of an instance for a type. -/
noncomputable def needsW (i : Ins) (t : List Nat) : Option (List Nd) :=
  match matchS i.1.2 t with
  | none => none
  | some m => if i.2.all fun n => (applyS (bdL m) n.2).isSome then some (i.2.map fun n => (n.1, applyT (bdL m) n.2)) else none
end Go.Sim

set_option linter.unusedVariables false
set_option linter.unusedSimpArgs false
set_option maxRecDepth 20000
namespace Go.Sim
open Go Go.RowKit

theorem wrap_pred1 {k : Nat} (h0 : 0 < k) (hn : k ≤ 9223372036854775807) : IntKind.wrap .i64 ((k : Int) - 1) = ((k - 1 : Nat) : Int) := by rw [IntWalk.i64_in _ (by omega)]; omega
theorem bindingsValid_ok {h : AHeap} {a : Pt} {n c : Nat} {e : Bool} {l : List Nd} (r : Row h.length h a (n * 2) (flat eP l)) (hn : n ≤ 1048576) :
    SCall pg n_impl_BindingsValid [.slice a n c e] h fun v h' => v = .bool (bindOk l) ∧ Same h.length h h' := by
  have hl : l.length = n := by have := r.1; rw [flat_length eP_len] at this; omega
  apply F_impl_BindingsValid.call
  refine F_impl_BindingsValid.L2ind _ _ _ _ _ _ _ _ _ _ (J := fun (g : Nat) x7 h' => x7 = (g : Int) ∧ g ≤ n ∧ Same h.length h h' ∧ (List.range g).all (bindAt l) = true) (fun g => n - g) ?_ 0 _ _ ⟨rfl, by omega, Same.refl _ _, rfl⟩
  rintro g x7 h' ⟨rfl, hg, hS, hk⟩ R hR
  unfold F_impl_BindingsValid.L2t
  refine bcase_dec (fun hlt => ?_) (fun hge => ?_)
  · obtain ⟨i, o, hgl, rfl, hi, hr, _, _⟩ := (r.same hS).pr (k := g) (by omega)
    have hat : bindAt l g = (isVarS l[g].1 && tyOk l[g].2 && (g == 0 || natLess (l.getD (g - 1) ([], [])).1 l[g].1)) := by unfold bindAt; rw [getD_at hgl]
    have no : bindAt l g = false → bindOk l = false := fun hno => range_not_all hgl hno
    simp only [xSome_some, Int.toNat_natCast, hr, xRow_some, xCons_cons, xNil_nil, xStr_some, letH_def]
    rw [store2]
    generalize hq : h' ++ [AObj.cells t_impl_Binding [.str l[g].1, .str l[g].2] false] = hq'
    have sq : Same h'.length h' hq' := by rw [← hq]; exact same_last
    have oq : hq'[h'.length]? = some (.cells t_impl_Binding [.str l[g].1, .str l[g].2] false) := by rw [← hq]; simp
    simp only [xHeap_some, hCell_of oq, Nat.zero_add, List.getElem?_cons_succ, List.getElem?_cons_zero, xStr_some]
    refine ⟨by omega, (isVar_ok l[g].1).mono ?_⟩
    rintro v h2 ⟨rfl, rfl⟩
    have Sq := hS.cat sq
    simp only [xBool_some, true_and]
    refine bcase_not (fun b1 => ⟨by rw [no (by rw [hat, b1]; rfl)], Sq⟩) (fun b1 => ?_)
    simp only [hCell_of oq, List.getElem?_cons_succ, List.getElem?_cons_zero, xStr_some]
    refine (typeValid_ok l[g].2 h2).mono ?_
    rintro v h3 ⟨rfl, s3⟩
    simp only [xBool_some]
    have S3 := Sq.cat s3
    refine bcase_not (fun b2 => ⟨by rw [no (by rw [hat, b1, b2]; rfl)], S3⟩) (fun b2 => ?_)
    have go : (g = 0 ∨ natLess (l.getD (g - 1) ([], [])).1 l[g].1 = true) → F_impl_BindingsValid.J6 (fun v h' => v = .bool (bindOk l) ∧ Same h.length h h') R (g : Int) (((n : Nat) : Int)) (some (i, o)) n c e (some (i, o)) n c e h3 := by
      intro hz
      apply F_impl_BindingsValid.J6i
      rw [wrap_nat (by omega)]
      refine hR (g + 1) _ _ (by omega) ⟨rfl, by omega, S3, range_succ_all hk ?_⟩
      rw [hat, b1, b2]
      rcases hz with rfl | hz
      · rfl
      · rw [hz]; simp
    refine bcase_dec (fun hpos => ?_) (fun hz => go (.inl (by omega)))
    have hg0 : 0 < g := by omega
    obtain ⟨i', o', hgl', he, _, _, hc', _⟩ := (r.same S3).pr (k := g - 1) (by omega)
    cases he
    rw [wrap_pred1 hg0 (by omega)]
    simp only [xSome_some, Int.toNat_natCast, Nat.add_zero, hc', hCell_of (s3.get oq (Own.lt oq)), List.getElem?_cons_zero, xStr_some, true_and]
    have hgd : l.getD (g - 1) ([], []) = l[g - 1] := getD_at hgl'
    refine ⟨by omega, bcase_not (fun b3 => ⟨by rw [no (by rw [hat, b1, b2, hgd, b3]; simp; omega)], S3⟩) (fun b3 => go (.inr (by rw [hgd]; exact b3)))⟩
  · apply F_impl_BindingsValid.A2x0i
    have : g = n := by omega
    subst this
    exact ⟨by unfold bindOk; rw [hl, hk], hS⟩
theorem sub_at {s : List Nat} {g : Nat} (hg : g < s.length) : sub s (g : Int) (((g + 1 : Nat) : Int)) = [s[g]] := by
  unfold sub
  rw [Int.toNat_natCast, Int.toNat_natCast, List.take_succ_eq_append_getElem hg, List.drop_append_of_le_length (by simp; omega), List.drop_of_length_le (by simp; omega)]; rfl
theorem bfind_len {l : List Nd} (h : bindOk l = true) (c : Nat) : (bfind l c).length ≤ 60 := by
  obtain ⟨h1, h2⟩ := bfind_tree h c
  rw [h1]
  cases hb : btree l c with
  | none => simp [Ty.txt]
  | some t => exact (h2 t hb).2
theorem applyT_len {l : List Nd} (h : bindOk l = true) : ∀ (t : List Nat), (applyT l t).length ≤ 60 * t.length
  | [] => by simp [applyT]
  | c :: t => by
    have h1 := bfind_len h c
    have h2 := applyT_len h t
    simp only [applyT, List.flatMap_cons, List.length_append, List.length_cons] at h2 ⊢
    omega
theorem applyT_succ {l : List Nd} {t : List Nat} {g : Nat} (hg : g < t.length) : applyT l (t.take (g + 1)) = applyT l (t.take g) ++ bfind l t[g] := by
  unfold applyT; rw [List.take_succ_eq_append_getElem hg, List.flatMap_append]; simp
/-- What ApplyBindings answers. -/
noncomputable def applyA (l : List Nd) (t : List Nat) : AVal := match applyS l t with | some u => .tup [.str u, .bool true] | none => .tup [.str [], .bool false]
theorem applyBindings_ok {h : AHeap} {a : Pt} {n c : Nat} {e : Bool} {l : List Nd} {t : List Nat} (r : Row h.length h a (n * 2) (flat eP l)) (hn : n ≤ 1048576) :
    SCall pg n_impl_ApplyBindings [.slice a n c e, .str t] h fun v h' => v = applyA l t ∧ Same h.length h h' := by
  have hl : l.length = n := by have := r.1; rw [flat_length eP_len] at this; omega
  apply F_impl_ApplyBindings.call
  refine (bindingsValid_ok r hn).mono ?_
  rintro v h1 ⟨rfl, s1⟩
  simp only [xBool_some]
  refine bcase_not (fun b1 => ⟨by unfold applyA applyS; rw [b1]; rfl, s1⟩) (fun b1 => ?_)
  refine (typeValid_ok t h1).mono ?_
  rintro v h2 ⟨rfl, s2⟩
  simp only [xBool_some]
  have S2 := s1.cat s2
  refine bcase_not (fun b2 => ⟨by unfold applyA applyS; rw [b1, b2]; rfl, S2⟩) (fun b2 => ?_)
  have ht60 := tyOk_len b2
  apply F_impl_ApplyBindings.J3i
  refine F_impl_ApplyBindings.L5ind _ _ _ _ _ _ _ (J := fun (g : Nat) x6 x21 h' => x21 = (g : Int) ∧ g ≤ t.length ∧ Same h.length h h' ∧ x6 = applyT l (t.take g)) (fun g => t.length - g) ?_ 0 _ _ _ ⟨rfl, by omega, S2, by simp [applyT]⟩
  rintro g x6 x21 h' ⟨rfl, hg, hS, rfl⟩ R hR
  unfold F_impl_ApplyBindings.L5t
  refine bcase_dec (fun hlt => ?_) (fun hge => ?_)
  · have hgt : g < t.length := by omega
    rw [wrap_nat (by omega), sub_at hgt]
    refine ⟨⟨by omega, by omega, by omega⟩, ?_⟩
    have hal := applyT_len b1 (t.take g)
    rw [List.length_take] at hal
    have fin : ∀ (h3 : AHeap) (x8 : List Nat), Same h.length h h3 → x8 = bfind l t[g] → F_impl_ApplyBindings.A9x2 (fun v h' => v = applyA l t ∧ Same h.length h h') R (applyT l (t.take g)) x8 (g : Int) (((t.length : Nat) : Int)) t a n c e h3 := by
      intro h3 x8 s3 hx
      apply F_impl_ApplyBindings.A9x2i
      have := bfind_len b1 t[g]
      rw [hx, wrap_nat (by omega)]
      exact ⟨by omega, hR (g + 1) _ _ _ (by omega) ⟨rfl, by omega, s3, (applyT_succ hgt).symm⟩⟩
    refine F_impl_ApplyBindings.L9ind _ _ _ _ _ _ _ _ _ _ _ _ _ _ _ (J := fun (q : Nat) x8 x31 h3 => x31 = (q : Int) ∧ q ≤ n ∧ Same h.length h h3 ∧ x8 = [t[g]] ∧ (l.take q).find? (fun p => decide (p.1 = [t[g]])) = none) (fun q => n - q) ?_ 0 _ _ _ ⟨rfl, by omega, hS, rfl, rfl⟩
    rintro q x8 x31 h3 ⟨rfl, hq, hS3, rfl, hf⟩ R9 hR9
    unfold F_impl_ApplyBindings.L9t
    refine bcase_dec (fun hlt3 => ?_) (fun hge3 => ?_)
    · obtain ⟨i, o, hql, rfl, hi, hr, _, _⟩ := (r.same hS3).pr (k := q) (by omega)
      simp only [xSome_some, Int.toNat_natCast, hr, xRow_some, xCons_cons, xNil_nil, xStr_some, letH_def]
      rw [store2]
      have sq : Same h3.length h3 (h3 ++ [AObj.cells t_impl_Binding [.str l[q].1, .str l[q].2] false]) := same_last
      simp only [xHeap_some, hCell_last, Nat.zero_add, List.getElem?_cons_succ, List.getElem?_cons_zero, xStr_some]
      refine ⟨by omega, bcase_dec (fun he => ?_) (fun he => ?_)⟩
      · refine fin _ _ (hS3.cat sq) ?_
        unfold bfind
        rw [find_first hql hf (by simp [he])]
      · rw [wrap_nat (by omega)]
        exact hR9 (q + 1) _ _ _ (by omega) ⟨rfl, by omega, hS3.cat sq, rfl, find_first_succ hql hf (by simp [he])⟩
    · have : q = n := by omega
      subst this
      rw [List.take_of_length_le (by omega)] at hf
      exact fin _ _ hS3 (by unfold bfind; rw [hf])
  · apply F_impl_ApplyBindings.A5x0i
    have : g = t.length := by omega
    subst this
    rw [List.take_length]
    refine bcase_dec (fun hbig => ⟨?_, hS⟩) (fun hsm => ⟨?_, hS⟩)
    · unfold applyA applyS
      rw [if_neg (by simp; omega)]
    · unfold applyA applyS
      rw [if_pos (by rw [b1, b2]; simp; omega)]
/-- What the needs of an instance for a type are answered as. -/
def NeedsQ (i : Ins) (t : List Nat) (h : AHeap) (v : AVal) (h' : AHeap) : Prop := Same h.length h h' ∧ ∃ a n c e, v = .tup [.slice a n c e, .bool (needsW i t).isSome] ∧ FreshR t_impl_Need eP h.length h' a n ((needsW i t).getD [])
theorem u_L_iNeed : pg.underlying t_L_impl_Need = some (.slice t_impl_Need) := by kernel_rfl
theorem c_iNeed : pg.cellsOf t_impl_Need = 2 := by kernel_rfl
theorem k_iNeed : pg.okElem t_impl_Need = true := by kernel_rfl
theorem b_iNeed : pg.bytesOf t_impl_Need ≤ 127 := Nat.le_of_ble_eq_true (by kernel_rfl)
/-- The need with what is bound put in. -/
noncomputable def putN (l : List Nd) (n : Nd) : Nd := (n.1, (applyS l n.2).getD [])
theorem putN_all {l : List Nd} {ns : List Nd} (h : ns.all (fun n => (applyS l n.2).isSome) = true) : ns.map (putN l) = ns.map fun n => (n.1, applyT l n.2) := by
  apply List.map_congr_left
  intro n hn
  have := List.all_eq_true.1 h n hn
  obtain ⟨u, hu⟩ := Option.isSome_iff_exists.1 this
  unfold putN
  rw [hu]
  unfold applyS at hu
  split at hu
  · cases hu; rfl
  · cases hu
theorem needs_ok {h : AHeap} {a : Pt} {n c : Nat} {e : Bool} {i : Ins} {t : List Nat} (r : Row h.length h a (n * 2) (flat eP i.2)) (hn : n ≤ 1048576) :
    SCall pg n_impl_Instance_needs [.agg [.str i.1.1, .str i.1.2, .slice a n c e], .str t] h (NeedsQ i t h) := by
  have hl : i.2.length = n := by have := r.1; rw [flat_length eP_len] at this; omega
  apply F_impl_Instance_needs.call
  simp only [letH_def]
  generalize hh0 : h ++ [AObj.cells t_impl_Instance [.str i.1.1, .str i.1.2, .slice a n c e] false] = h0
  have s0 : Same h.length h h0 := by rw [← hh0]; exact same_last
  have o0 : h0[h.length]? = some (.cells t_impl_Instance [.str i.1.1, .str i.1.2, .slice a n c e] false) := by rw [← hh0]; simp
  simp only [hCell_of o0, Nat.zero_add, List.getElem?_cons_succ, List.getElem?_cons_zero, xStr_some]
  refine (matchType_ok i.1.2 t h0).mono ?_
  rintro v h1 ⟨s1, ma, mn, mc, me, rfl, hmc, fm⟩
  simp only [xTup_tup, xCons_cons, xSl_some, xBool_some, xNil_nil]
  generalize hh2 : h1 ++ [AObj.cells t_impl_Need [] false] = h2
  have s2 : Same h1.length h1 h2 := by rw [← hh2]; exact same_last
  have o2 : h2[h1.length]? = some (.cells t_impl_Need [] false) := by rw [← hh2]; simp
  have S2 := (s0.cat s1).cat s2
  have hml : (matchR i.1.2 t).length ≤ 6 := by unfold matchR; split <;> first | exact bdL_len _ | simp
  have hmn := fm.1
  have x2 := s2.get (s1.get o0 (Own.lt o0)) (by have := Own.lt o0; have := s1.le; omega)
  simp only [hCell_of x2, List.getElem?_cons_succ, List.getElem?_cons_zero, xSl_some]
  have hS1le : h.length ≤ h1.length := (s0.cat s1).le
  generalize hml' : matchR i.1.2 t = ml at *
  refine F_impl_Instance_needs.L4ind _ _ _ _ _ _ _ _ _ _ (J := fun (g : Nat) x7 a8 n8 c8 e8 x25 h' => x25 = (g : Int) ∧ g ≤ n ∧ Same h.length h h' ∧ h1.length < h'.length ∧ Row h'.length h' ma (mn * 2) (flat eP ml) ∧ x7 = (instS i.1.2 t && (i.2.take g).all fun p => (applyS ml p.2).isSome) ∧ n8 = g ∧ Vec t_impl_Need h' a8 n8 c8 (flat eP ((i.2.take g).map (putN ml))) ∧ (∀ j, a8 = some (j, 0) → h1.length ≤ j)) (fun g => n - g) ?_ 0 _ _ _ _ _ _ _
    ⟨rfl, by omega, S2, Own.lt o2, (fm.row eP_len).same' s2, by simp, rfl, Vec.mk1 (by simpa using o2), fun j hj => by cases hj; omega⟩
  rintro g x7 a8 n8 c8 e8 x25 h' ⟨rfl, hg, hS, hlt1, hrm, rfl, rfl, hv, ha⟩ R hR
  unfold F_impl_Instance_needs.L4t
  refine bcase_dec (fun hlt => ?_) (fun hge => ?_)
  · obtain ⟨j, o, hgl, rfl, hj, hr, _, _⟩ := (r.same hS).pr (k := n8) (by omega)
    simp only [xSome_some, Int.toNat_natCast, hr, xRow_some, xCons_cons, xNil_nil, xStr_some, letH_def]
    rw [store2]
    generalize hq : h' ++ [AObj.cells t_impl_Need [.str i.2[n8].1, .str i.2[n8].2] false] = hq'
    have sq : Same h'.length h' hq' := by rw [← hq]; exact same_last
    have oq : hq'[h'.length]? = some (.cells t_impl_Need [.str i.2[n8].1, .str i.2[n8].2] false) := by rw [← hq]; simp
    simp only [xHeap_some, hCell_of oq, Nat.zero_add, List.getElem?_cons_succ, List.getElem?_cons_zero, xStr_some]
    refine ⟨by omega, (applyBindings_ok (hrm.same' sq) (by omega)).mono ?_⟩
    rintro v h3 ⟨rfl, s3⟩
    have hshape : applyA ml i.2[n8].2 = .tup [.str ((applyS ml i.2[n8].2).getD []), .bool (applyS ml i.2[n8].2).isSome] := by
      unfold applyA; cases applyS ml i.2[n8].2 <;> rfl
    rw [hshape]
    simp only [xTup_tup, xCons_cons, xStr_some, xBool_some, xNil_nil]
    have S3 := (hS.cat sq).cat s3
    have o3 := s3.get oq (Own.lt oq)
    have tk : (i.2.take (n8 + 1)).all (fun p => (applyS ml p.2).isSome) = ((i.2.take n8).all (fun p => (applyS ml p.2).isSome) && (applyS ml i.2[n8].2).isSome) := by
      rw [List.take_succ_eq_append_getElem hgl, List.all_append]; simp
    have go : ∀ b9, b9 = (instS i.1.2 t && (i.2.take (n8 + 1)).all fun p => (applyS ml p.2).isSome) → F_impl_Instance_needs.J8 (NeedsQ i t h) R a8 n8 c8 e8 h'.length 0 ((applyS ml i.2[n8].2).getD []) (n8 : Int) (((n : Nat) : Int)) (some (j, o)) n c e ma mn mc me b9 h3 := by
      intro b9 hb9
      apply F_impl_Instance_needs.J8i
      simp only [hCell_of o3, Nat.zero_add, List.getElem?_cons_zero, xStr_some, letH_def]
      refine ((hv.same sq).same s3).pushN u_L_iNeed c_iNeed k_iNeed b_iNeed (by rw [flat_length eP_len]; simp; omega) rfl (by omega) rfl (by omega) (fun h6 hl6 hi6 hk6 => ?_)
      simp only [xSl_some]
      apply F_impl_Instance_needs.J9i
      rw [wrap_nat (by omega)]
      have hle := S3.le
      refine hR (n8 + 1) _ _ _ _ _ _ _ (by omega) ⟨rfl, by omega, ⟨by omega, fun j hj => ?_⟩, by have := sq.le; have := s3.le; omega, ?_, hb9, rfl, Vec.mk1 ?_, fun j hj => by cases hj; have := sq.le; have := s3.le; omega⟩
      · rw [hk6 j (by omega) fun q hq => by have := ha q hq; omega]; exact S3.eq j hj
      · have hr3 := (hrm.same' sq).same' s3
        obtain ⟨hx1, hx2⟩ := hr3
        rcases fm.2 with h0 | ⟨q2, hq2, _, hq3⟩
        · exact ⟨hx1, .inl (by omega)⟩
        · refine ⟨hx1, hx2.imp id ?_⟩
          rintro ⟨q, o', ty, all, ro, hqa, hqb, hqg, hq4, hq5⟩
          refine ⟨q, o', ty, all, ro, hqa, by omega, ?_, hq4, hq5⟩
          rw [hk6 q hqb fun q' hq' => ?_]
          · exact hqg
          · intro e
            subst e
            have h1l := ha q hq'
            rw [hqa] at hq2; cases hq2
            have := Own.lt hq3; omega
      · rw [hi6, List.take_succ_eq_append_getElem hgl, List.map_append, flat_append]; rfl
    refine bcase_intro (fun hb => go _ (by rw [tk, ← Bool.and_assoc, hb]; rfl)) (fun hb => go _ (by rw [tk, ← Bool.and_assoc, hb]; rfl))
  · apply F_impl_Instance_needs.A4x0i
    have : n8 = n := by omega
    subst this
    rw [show i.2.take n8 = i.2 from List.take_of_length_le (by omega)] at hv ⊢
    have hnw : needsW i t = if instS i.1.2 t && i.2.all (fun p => (applyS ml p.2).isSome) then some (i.2.map (putN ml)) else none := by
      unfold needsW instS
      unfold matchR at hml'
      cases hm : matchS i.1.2 t with
      | none => rfl
      | some m =>
        rw [hm] at hml'
        simp only at hml'
        subst hml'
        simp only [Option.isSome_some, Bool.true_and]
        by_cases hall : i.2.all (fun p => (applyS (bdL m) p.2).isSome) = true
        · rw [if_pos hall, if_pos hall, putN_all hall]
        · rw [if_neg hall, if_neg hall]
    refine bcase_not (fun hb => ?_) (fun hb => ?_)
    · have : needsW i t = none := by rw [hnw, hb]; rfl
      exact ⟨hS, none, 0, 0, true, by rw [this]; rfl, by rw [this]; exact ⟨rfl, .inl rfl⟩⟩
    · have : needsW i t = some (i.2.map (putN ml)) := by rw [hnw, hb]; rfl
      refine ⟨hS, a8, n8, c8, e8, by rw [this]; rfl, ?_⟩
      rw [this]
      exact hv.fresh (b := h.length) (by simp; omega) fun j hj => by have := ha j hj; omega
end Go.Sim

set_option linter.unusedVariables false
set_option linter.unusedSimpArgs false
set_option maxRecDepth 20000
namespace Go.Sim
open Go Go.RowKit

def l2vars : List Nat := [88, 89, 90, 120, 121, 122, 49, 50, 51, 52, 53, 54]
theorem l2idx_var {v : Nat} (hv : isVarN v = true) : ∃ k : Nat, k < 6 ∧ varsN[k]? = some v ∧ idxN l2vars v = (k : Int) := by
  have := (varsN_var v).2 hv
  simp only [varsN, List.mem_cons, List.not_mem_nil, or_false] at this
  rcases this with rfl | rfl | rfl | rfl | rfl | rfl
  · exact ⟨0, by omega, rfl, rfl⟩
  · exact ⟨1, by omega, rfl, rfl⟩
  · exact ⟨2, by omega, rfl, rfl⟩
  · exact ⟨3, by omega, rfl, rfl⟩
  · exact ⟨4, by omega, rfl, rfl⟩
  · exact ⟨5, by omega, rfl, rfl⟩
theorem ok_letter {t : Ty} (h : t.ok = true) : t.hd ∈ [105, 98, 117, 108, 109, 112, 120, 121, 122, 88, 89, 90] := by
  have := Ty.ok_ar h
  unfold arN isLeafN isVarN at this
  simp only [Bool.or_eq_true, beq_iff_eq] at this
  simp only [List.mem_cons, List.not_mem_nil, or_false]
  split at this
  · omega
  · split at this
    · omega
    · split at this
      · omega
      · omega
theorem l2idx_not {t : Ty} (h : t.ok = true) (hv : isVarN t.hd = false) : idxN l2vars t.hd = -1 := by
  apply idxN_no
  have := ok_letter h
  simp only [List.mem_cons, List.not_mem_nil, or_false] at this
  rcases this with e | e | e | e | e | e | e | e | e | e | e | e <;> rw [e] at hv ⊢ <;> first | (exact absurd hv (by decide)) | decide
theorem l2Index_ok {h : AHeap} (c : Nat) : SCall pg n_spec_l2Index [.int .u8 (c : Int)] h fun v h' => v = .int .i64 (idxN l2vars c) ∧ h' = h := by
  apply F_spec_l2Index.call
  refine (find_ok l2vars c (by decide)).mono ?_
  rintro v h1 ⟨rfl, rfl⟩
  simp only [xInt_some]
  exact ⟨by trivial, by trivial⟩
/-- Two cells. -/
def eR (x : AVal × AVal) : List AVal := [x.1, x.2]
theorem eR_len (x : AVal × AVal) : (eR x).length = 2 := rfl
theorem flat_set {α : Type} {enc : α → List AVal} {w : Nat} (hw : ∀ x, (enc x).length = w) : ∀ {l : List α} {k : Nat} {x : α}, k < l.length → putRow (flat enc l) (k * w) (enc x) = flat enc (l.set k x)
  | [], k, x, h => by simp at h
  | y :: l, 0, x, _ => by
    simp only [Nat.zero_mul, flat_cons, List.set_cons_zero, putRow, List.take_zero, List.nil_append, Nat.zero_add, hw]
    rw [← hw y, List.drop_left]
  | y :: l, k + 1, x, h => by
    have ih := flat_set hw (l := l) (k := k) (x := x) (by simpa using h)
    unfold putRow at ih ⊢
    simp only [flat_cons, List.set_cons_succ]
    rw [← ih, Nat.succ_mul, Nat.add_comm (k * w) w, ← hw y, List.take_length_add_append, Nat.add_assoc, List.drop_length_add_append]; simp only [List.append_assoc]
/-- What variables stand for, in the reference: twelve nodes. -/
def MapR (S : Nat → Prop) (h : AHeap) (i : Nat) (m : Bd) : Prop := ∃ rows : List (AVal × AVal), rows.length = 12 ∧ h[i]? = some (.cells t_spec_l2Map (flat eR rows) false) ∧
  ∀ (k : Nat) (x : AVal × AVal), rows[k]? = some x → match (varsN[k]?).bind (bget m) with | some t => SRep S h t (eR x) | none => x = (.int .u8 0, .slice none 0 0 true)
theorem MapR.keep {S : Nat → Prop} {h h' : AHeap} {i : Nat} {m : Bd} (r : MapR S h i m) (hi : h'[i]? = h[i]?) (hh : ∀ j, S j → j < h.length → h'[j]? = h[j]?) : MapR S h' i m := by
  obtain ⟨rows, h1, h2, h3⟩ := r
  refine ⟨rows, h1, by rw [hi]; exact h2, fun k x hx => ?_⟩
  have := h3 k x hx
  split at this
  · exact this.keep hh
  · exact this
theorem MapR.same {S : Nat → Prop} {h h' : AHeap} {i : Nat} {m : Bd} (r : MapR S h i m) (s : Same h.length h h') : MapR S h' i m := by
  have hl : i < h.length := by obtain ⟨_, _, h2, _⟩ := r; exact Own.lt h2
  exact r.keep (s.eq i hl) fun j _ hj => s.eq j hj
theorem MapR.lt {S : Nat → Prop} {h : AHeap} {i : Nat} {m : Bd} (r : MapR S h i m) : i < h.length := by obtain ⟨_, _, h2, _⟩ := r; exact Own.lt h2
theorem MapR.nil {S : Nat → Prop} {h : AHeap} {i : Nat} (hi : h[i]? = some (.cells t_spec_l2Map (flat eR (List.replicate 12 (.int .u8 0, .slice none 0 0 true))) false)) : MapR S h i [] := by
  refine ⟨_, by simp, hi, fun k x hx => ?_⟩
  have : (varsN[k]?).bind (bget []) = none := by cases varsN[k]? <;> rfl
  rw [this]
  rw [List.getElem?_replicate] at hx
  split at hx
  · cases hx; rfl
  · cases hx
/-- The node k. -/
theorem MapR.get {S : Nat → Prop} {h : AHeap} {i : Nat} {m : Bd} (r : MapR S h i m) {k : Nat} (hk : k < 12) : ∃ x : AVal × AVal, hCell h (.ptr (some (i, 0 + k * 2 + 0))) = some x.1 ∧ hRow h (.ptr (some (i, 0 + k * 2))) 2 = some [x.1, x.2] ∧
    match (varsN[k]?).bind (bget m) with | some t => SRep S h t [x.1, x.2] | none => x = (.int .u8 0, .slice none 0 0 true) := by
  obtain ⟨rows, h1, h2, h3⟩ := r
  have hrow : Row h.length h (some (i, 0)) (12 * 2) (flat eR rows) := ⟨by rw [flat_length eR_len, h1], .inr ⟨i, 0, _, _, _, rfl, Own.lt h2, h2, by rw [flat_length eR_len, h1]; simp, by rw [List.drop_zero, List.take_of_length_le (by rw [flat_length eR_len, h1]; simp)]⟩⟩
  obtain ⟨i', o', hk', he, _, hr, hc⟩ := Row.el eR_len hrow h1 hk (by omega)
  cases he
  exact ⟨rows[k], by have := hc 0 (by omega); simpa [eR] using this, hr, h3 k _ (List.getElem?_eq_getElem hk')⟩
/-- A node is stored. -/
theorem MapR.put {S : Nat → Prop} {h : AHeap} {i : Nat} {m : Bd} (r : MapR S h i m) (hSi : ∀ j, S j → j ≠ i) {k v : Nat} (hk : varsN[k]? = some v) (hg : bget m v = none) {t : Ty} {x y : AVal} (ht : SRep S h t [x, y]) :
    ∃ h', hStore h (.ptr (some (i, 0 + k * 2))) [x, y] = some h' ∧ Keep i h h' ∧ MapR S h' i (m ++ [(v, t)]) := by
  obtain ⟨rows, h1, h2, h3⟩ := r
  have hk6 : k < 6 := (List.getElem?_eq_some_iff.1 hk).1
  have hput : putRow (flat eR rows) (k * 2) (eR (x, y)) = flat eR (rows.set k (x, y)) := flat_set eR_len (by omega)
  refine ⟨h.set i (.cells t_spec_l2Map (flat eR (rows.set k (x, y))) false), ?_, Keep.set _ _ _, ?_⟩
  · rw [Nat.zero_add, hStore_of h2 (by rw [flat_length eR_len, h1]; simp; omega), ← hput]; rfl
  · have hkeep : ∀ j, S j → j < h.length → (h.set i (.cells t_spec_l2Map (flat eR (rows.set k (x, y))) false))[j]? = h[j]? := fun j hj _ => set_ne (fun e => hSi j hj e.symm)
    refine ⟨_, by simp [h1], set_get h2, fun k' x' hx' => ?_⟩
    by_cases e : k = k'
    · subst e
      rw [List.getElem?_set_self (by omega)] at hx'
      cases hx'
      rw [hk]
      simp only [Option.bind_some, bget_app, hg, if_true]
      exact ht.keep hkeep
    · rw [List.getElem?_set_ne e] at hx'
      have := h3 k' x' hx'
      have hb : (varsN[k']?).bind (bget (m ++ [(v, t)])) = (varsN[k']?).bind (bget m) := by
        cases hv' : varsN[k']? with
        | none => rfl
        | some w =>
          simp only [Option.bind_some, bget_app]
          cases hb : bget m w with
          | some u => rfl
          | none =>
            have : ¬ v = w := fun e' => by
              subst e'
              have h5 := List.getElem?_eq_some_iff.1 hk
              have h6 := List.getElem?_eq_some_iff.1 hv'
              exact e ((List.getElem_inj (h₀ := h5.1) (h₁ := h6.1) varsN_nodup).1 (h5.2.trans h6.2.symm))
            simp [this]
      rw [hb]
      split at this
      · exact this.keep hkeep
      · exact this
/-- What the reference's matching leaves. -/
def SMatQ (S : Nat → Prop) (h : AHeap) (i : Nat) (r : Option Bd) (v : AVal) (h' : AHeap) : Prop := Keep i h h' ∧ (match r with | some m' => v = .bool true ∧ MapR S h' i m' | none => v = .bool false)
theorem Keep.of_same {i : Nat} {h h' : AHeap} (s : Same h.length h h') : Keep i h h' := ⟨s.le, fun j hj _ => s.eq j hj⟩
theorem l2Match_ok : ∀ (N : Nat) {a t : Ty} {S : Nat → Prop} {h : AHeap} {va vt : List AVal} {i n : Nat} {m : Bd}, a.size ≤ N → a.ok = true → t.ok = true → n ≤ 1048576 → t.txt.length ≤ n → BOk n m → (∀ j, S j → j ≠ i) → SRep S h a va → SRep S h t vt → MapR S h i m →
    SCall pg n_spec_l2Match [.ptr (some (i, 0)), .agg va, .agg vt] h (SMatQ S h i (matchT m a t))
  | 0, a, t, S, h, va, vt, i, n, m, hN, _, _, _, _, _, _, _, _, _ => by have := a.size_ps; omega
  | N + 1, a, t, S, h, va, vt, i, n, m, hN, ha, ht, hB, hn, bo, hSi, ra, rt, rm => by
    have hcase := matchT_eq (m := m) ha ht
    obtain ⟨aa, ca, ea, vas, rfl, rowa, hSa, hval, hva⟩ := id ra.parts
    obtain ⟨at', ct, et, vts, rfl, rowt, hSt, hvtl, hvt⟩ := id rt.parts
    have hps2 : a.ps.length ≤ 2 := by cases a <;> simp [Ty.ps]
    have hil := rm.lt
    apply F_spec_l2Match.call
    simp only [letH_def]
    generalize hh0 : h ++ [AObj.cells t_spec_l1Node [.int .u8 (a.hd : Int), .slice aa a.ps.length ca ea] false] = h0
    generalize hh1 : h0 ++ [AObj.cells t_spec_l1Node [.int .u8 (t.hd : Int), .slice at' t.ps.length ct et] false] = h1
    have s0 : Same h.length h h0 := by rw [← hh0]; exact same_last
    have s1 : Same h0.length h0 h1 := by rw [← hh1]; exact same_last
    have o0 : h0[h.length]? = some (.cells t_spec_l1Node [.int .u8 (a.hd : Int), .slice aa a.ps.length ca ea] false) := by rw [← hh0]; simp
    have oa := s1.get o0 (Own.lt o0)
    have ot : h1[h0.length]? = some (.cells t_spec_l1Node [.int .u8 (t.hd : Int), .slice at' t.ps.length ct et] false) := by rw [← hh1]; simp
    have S1 := s0.cat s1
    have l0 : h0.length = h.length + 1 := by rw [← hh0]; simp
    have l1 : h1.length = h.length + 2 := by rw [← hh1]; simp [l0]
    simp only [hCell_of oa, Nat.zero_add, List.getElem?_cons_succ, List.getElem?_cons_zero, xInt_some]
    refine (l2Index_ok a.hd).mono ?_
    rintro v h2 ⟨rfl, rfl⟩
    have rm1 := rm.same S1
    have K1 : Keep i h h2 := Keep.of_same S1
    simp only [xInt_some, xSome_some]
    cases hv : isVarN a.hd with
    | true =>
      rw [hv] at hcase
      simp only [if_true] at hcase
      obtain ⟨k, hk6, hkv, hix⟩ := l2idx_var hv
      rw [hix]
      obtain ⟨x, hx1, hx2, hx3⟩ := rm1.get (k := k) (by omega)
      rw [hkv, Option.bind_some] at hx3
      have hge : decide ((k : Int) ≥ 0) = true := by simp
      simp only [hge, bcase_true, Int.toNat_natCast, hx1, hx2, hRow_of ot (show 0 + 2 ≤ _ by simp), List.drop_zero, List.take_succ_cons, List.take_zero, xRow_some, xCons_cons, xNil_nil, xInt_some, xSl_some]
      refine ⟨by omega, ?_⟩
      cases hg : bget m a.hd with
      | none =>
        rw [hg] at hx3
        simp only at hx3
        subst hx3
        have hbn : bnote m a.hd t = some (m ++ [(a.hd, t)]) := by unfold bnote; rw [hg]
        rw [hcase, hbn]
        simp only [xInt_some, show ((0 : Int) == 0) = true from rfl, bcase_true]
        obtain ⟨h', hst, hK, hr'⟩ := rm1.put hSi hkv hg (rt.same S1)
        rw [hst]
        simp only [xHeap_some]
        exact ⟨by omega, K1.trans hK, rfl, hr'⟩
      | some u =>
        rw [hg] at hx3
        simp only at hx3
        have hu := bo.var _ (bget_mem hg)
        obtain ⟨ux, uc, ue, hux⟩ := hx3.shape
        simp only [List.cons.injEq, and_true] at hux
        obtain ⟨hux1, hux2⟩ := hux
        rw [hux1, hux2] at hx2 hx3
        rw [hux1, hux2]
        simp only [xInt_some, xSl_some]
        have hu0 : (((u.hd : Nat) : Int) == 0) = false := by
          have := ok_letter hu.2.1
          have hne : u.hd ≠ 0 := fun e => by rw [e] at this; simp at this
          simp; omega
        simp only [hu0, bcase_false]
        have rt1 := rt.same S1
        refine ⟨by omega, (l1Text_ok _ (Nat.le_refl _) (by omega) hu.2.1 hx3).mono ?_⟩
        rintro v h3 ⟨rfl, s3⟩
        have ot3 := s3.get ot (Own.lt ot)
        have rt3 := rt1.same s3
        simp only [xStr_some, hRow_of ot3 (show 0 + 2 ≤ _ by simp), List.drop_zero, List.take_succ_cons, List.take_zero, true_and]
        refine (l1Text_ok _ (Nat.le_refl _) (by omega) ht rt3).mono ?_
        rintro v h4 ⟨rfl, s4⟩
        simp only [xStr_some]
        have hri : ∀ hx, Same h2.length h2 hx → hRow hx (.ptr (some (i, 0 + k * 2))) 2 = hRow h2 (.ptr (some (i, 0 + k * 2))) 2 := fun hx sx => by
          simp only [hRow, sx.eq i (by omega)]
        rw [hri _ (s3.cat s4), hri _ s3]
        refine ⟨by trivial, ?_⟩
        have K4 : Keep i h h4 := K1.trans (Keep.of_same (s3.cat s4))
        by_cases he : u = t
        · subst he
          have hbn : bnote m a.hd u = some m := by unfold bnote; rw [hg]; simp
          rw [hcase, hbn]
          exact ⟨K4, by simp, (rm1.same (s3.cat s4))⟩
        · have hne : ¬ u.txt = t.txt := fun e => he (Ty.txt_inj' hu.2.1 ht e)
          have hbn : bnote m a.hd t = none := by unfold bnote; rw [hg]; simp [he]
          rw [hcase, hbn]
          exact ⟨K4, by simp [hne]⟩
    | false =>
      rw [hv] at hcase
      simp only [Bool.false_eq_true, if_false] at hcase
      rw [l2idx_not ha hv]
      have hge : decide ((-1 : Int) ≥ 0) = false := by decide
      simp only [hge, bcase_false, hCell_of ot, hCell_of oa, List.getElem?_cons_succ, List.getElem?_cons_zero, xInt_some, xSl_some]
      refine bcase_nbeq (fun hne => ?_) (fun he => ?_)
      · rw [if_neg (fun e => hne (by rw [e]))] at hcase
        rw [hcase]
        exact ⟨K1, rfl⟩
      · have he' : a.hd = t.hd := by omega
        rw [if_pos he'] at hcase
        rw [hcase]
        have hlen := ok_len ha ht he'
        refine F_spec_l2Match.L10ind _ _ _ _ _ _ _ (J := fun (g : Nat) x43 h' => x43 = (g : Int) ∧ g ≤ a.ps.length ∧ Keep i h2 h' ∧ ∃ m1, matchL m (a.ps.take g) (t.ps.take g) = some m1 ∧ MapR S h' i m1) (fun g => a.ps.length - g) ?_ 0 _ _ ⟨rfl, by omega, Keep.refl _ _, m, by simp [matchL], rm1⟩
        rintro g x43 h' ⟨rfl, hg, hK, m1, hm1, rm1⟩ R hR
        unfold F_spec_l2Match.L10t
        have KK := K1.trans hK
        refine bcase_dec (fun hlt => ?_) (fun hge => ?_)
        · have hga : g < a.ps.length := by omega
          have hgt : g < t.ps.length := by omega
          have oa1 : h'[h.length]? = some (.cells t_spec_l1Node [.int .u8 (a.hd : Int), .slice aa a.ps.length ca ea] false) := by rw [hK.eq _ (Own.lt oa) (by omega)]; exact oa
          have ot1 : h'[h0.length]? = some (.cells t_spec_l1Node [.int .u8 (t.hd : Int), .slice at' t.ps.length ct et] false) := by rw [hK.eq _ (Own.lt ot) (by omega)]; exact ot
          obtain ⟨ja, ofa, a3, c3, e3, rfl, hra, hka⟩ := SRep.get (rowa.keepAt (i := i) (fun j o h0 e => hSi j (hSa j o (by omega) e)) KK) hval (fun k w x h1 h2 => (hva k w x h1 h2).keep fun j hj hl => KK.eq j hl (hSi j hj)) hga
          obtain ⟨jt, oft, a4, c4, e4, rfl, hrt, hkt⟩ := SRep.get (rowt.keepAt (i := i) (fun j o h0 e => hSi j (hSt j o (by omega) e)) KK) hvtl (fun k w x h1 h2 => (hvt k w x h1 h2).keep fun j hj hl => KK.eq j hl (hSi j hj)) hgt
          simp only [xSome_some, Int.toNat_natCast, hCell_of oa1, hCell_of ot1, hra, hrt, Nat.zero_add, List.getElem?_cons_succ, List.getElem?_cons_zero, xSl_some, xRow_some, xCons_cons, xNil_nil, xInt_some, true_and]
          have hma := List.getElem_mem hga
          have hmt := List.getElem_mem hgt
          have h1 := Ty.size_part hma
          have h2 := Ty.len_part hmt
          have bo1 : BOk n m1 := BOk.matchL (fun x hx => Ty.ok_ps ha x (List.mem_of_mem_take hx)) (fun x hx => ⟨Ty.ok_ps ht x (List.mem_of_mem_take hx), by have := Ty.len_part (List.mem_of_mem_take hx); omega⟩) bo hm1
          have htk := matchL_take a.ps t.ps m g hga hgt
          rw [hm1] at htk
          simp only at htk
          refine ⟨by omega, by omega, (l2Match_ok N (by omega) (Ty.ok_ps ha _ hma) (Ty.ok_ps ht _ hmt) hB (by omega) bo1 hSi hka hkt rm1).mono ?_⟩
          rintro v h3 ⟨K3, hres⟩
          have oa3 : h3[h.length]? = some (.cells t_spec_l1Node [.int .u8 (a.hd : Int), .slice (some (ja, ofa)) a.ps.length ca ea] false) := by rw [K3.eq _ (Own.lt oa1) (by omega)]; exact oa1
          cases hmm : matchT m1 a.ps[g] t.ps[g] with
          | none =>
            rw [hmm] at hres htk
            subst hres
            simp only [xBool_some, Bool.not_false, bcase_true, hCell_of oa3, List.getElem?_cons_succ, List.getElem?_cons_zero, true_and]
            rw [matchL_none a.ps t.ps m (g + 1) hlen htk]
            exact ⟨KK.trans K3, rfl⟩
          | some m2 =>
            rw [hmm] at hres htk
            obtain ⟨rfl, rm2⟩ := hres
            simp only [xBool_some, Bool.not_true, bcase_false, hCell_of oa3, List.getElem?_cons_succ, List.getElem?_cons_zero, true_and]
            rw [wrap_nat (by omega)]
            exact hR (g + 1) _ _ (by omega) ⟨rfl, by omega, hK.trans K3, m2, htk, rm2⟩
        · apply F_spec_l2Match.A10x0i
          have : g = a.ps.length := by omega
          subst this
          rw [List.take_length, hlen, List.take_length] at hm1
          rw [hm1]
          exact ⟨KK, rfl, rm1⟩
end Go.Sim

set_option linter.unusedVariables false
set_option linter.unusedSimpArgs false
set_option maxRecDepth 20000
namespace Go.Sim
open Go Go.RowKit

theorem l2Length_ok : ∀ (N : Nat) {S : Nat → Prop} {h : AHeap} {t : Ty} {v : List AVal}, t.size ≤ N → t.txt.length ≤ 1048576 → SRep S h t v → SCall pg n_spec_l2Length [.agg v] h fun x h' => x = .int .i64 (t.txt.length : Nat) ∧ Same h.length h h'
  | 0, S, h, t, v, hN, _, _ => by have := t.size_ps; omega
  | N + 1, S, h, t, v, hN, hB, r => by
    obtain ⟨a, c, e, vs, rfl, hrow, hS, hvl, hp⟩ := r.parts
    have hps2 : t.ps.length ≤ 2 := by cases t <;> simp [Ty.ps]
    have htx := t.txt_mids
    have hln := congrArg List.length htx
    rw [List.length_append, List.length_cons] at hln
    apply F_spec_l2Length.call
    simp only [letH_def, hCell_last, Nat.zero_add, List.getElem?_cons_succ, List.getElem?_cons_zero, xSl_some]
    generalize hh0 : h ++ [AObj.cells t_spec_l1Node [.int .u8 (t.hd : Int), .slice a t.ps.length c e] false] = h0
    have s0 : Same h.length h h0 := by rw [← hh0]; exact same_last
    have o0 : h0[h.length]? = some (.cells t_spec_l1Node [.int .u8 (t.hd : Int), .slice a t.ps.length c e] false) := by rw [← hh0]; simp
    refine F_spec_l2Length.L3ind _ _ _ _ _ _ _ _ (J := fun (g : Nat) x3 x9 h' => x9 = (g : Int) ∧ g ≤ t.ps.length ∧ Same h.length h h' ∧ Same h0.length h0 h' ∧ x3 = ((1 + (midsL 0 (t.ps.take g)).length : Nat) : Int)) (fun g => t.ps.length - g) ?_ 0 _ _ _ ⟨rfl, by omega, s0, Same.refl _ _, by simp [midsL]⟩
    rintro g x3 x9 h' ⟨rfl, hg, hSm, hS1, rfl⟩ R hR
    unfold F_spec_l2Length.L3t
    have o2 := hS1.get o0 (Own.lt o0)
    refine bcase_dec (fun hlt => ?_) (fun hge => ?_)
    · have hg' : g < t.ps.length := by omega
      obtain ⟨i, o, a2, c2, e2, rfl, hr, hk⟩ := SRep.get (hrow.same' hSm) hvl (fun k w x h1 h2 => (hp k w x h1 h2).same hSm) hg'
      simp only [xSome_some, Int.toNat_natCast, hr, xRow_some, xCons_cons, xNil_nil, xInt_some, xSl_some, letH_def]
      rw [store2]
      simp only [xHeap_some]
      rw [rowL2]
      simp only [xRow_some, xCons_cons, xNil_nil, xInt_some, xSl_some]
      have hm := List.getElem_mem hg'
      have h1 := Ty.size_part hm
      have h2 := Ty.len_part hm
      have hmt := midsL_take t.ps 0 g hg'
      have hml : (midsL 0 (t.ps.take (g + 1))).length ≤ (midsL 0 t.ps).length := midsL_len _ _ _
      have hmtl := congrArg List.length hmt
      simp only [List.length_append, List.length_cons, Nat.zero_add] at hmtl
      have s2 : Same h'.length h' (h' ++ [.cells t_spec_l1Node [.int .u8 (t.ps[g].hd : Int), .slice a2 t.ps[g].ps.length c2 e2] false]) := same_last
      refine ⟨by omega, (l2Length_ok N (by omega) (by omega) (hk.same s2)).mono ?_⟩
      rintro x h3 ⟨rfl, s3⟩
      simp only [xInt_some]
      rw [wrap_nat (by omega), wrap_nat (by omega), IntWalk.i64_in _ (by omega)]
      exact hR (g + 1) _ _ _ (by omega) ⟨rfl, by omega, (hSm.cat s2).cat s3, (hS1.cat s2).cat s3, by omega⟩
    · apply F_spec_l2Length.A3x0i
      have : g = t.ps.length := by omega
      subst this
      simp only [hCell_of o2, Nat.zero_add, List.getElem?_cons_succ, List.getElem?_cons_zero, xSl_some]
      rw [List.take_length]
      refine bcase_dec (fun hpos => ?_) (fun hneg => ?_)
      · have hne : t.ps ≠ [] := fun e => by rw [e] at hpos; simp at hpos
        rw [if_neg hne] at hln
        apply F_spec_l2Length.J9i
        simp only [List.length_cons, List.length_nil] at hln
        rw [wrap_nat (by omega)]
        exact ⟨by congr 1; omega, hSm⟩
      · have hne : t.ps = [] := List.eq_nil_of_length_eq_zero (by omega)
        rw [if_pos hne] at hln
        simp only [List.length_nil] at hln
        apply F_spec_l2Length.J9i
        exact ⟨by congr 1; omega, hSm⟩
/-- The bindings of the first variables. -/
def bdTo (m : Bd) (g : Nat) : List Nd := (varsN.take g).filterMap fun v => (bget m v).map fun t => ([v], t.txt)
theorem bdTo_succ (m : Bd) (g : Nat) : bdTo m (g + 1) = bdTo m g ++ (match varsN[g]? with | some v => (match bget m v with | some t => [([v], t.txt)] | none => []) | none => []) := by
  unfold bdTo
  rw [List.take_succ, List.filterMap_append]
  cases varsN[g]? with
  | none => simp
  | some v => cases hb : bget m v <;> simp [hb]
theorem bdTo_len (m : Bd) (g : Nat) : (bdTo m g).length ≤ 6 := by
  unfold bdTo
  refine Nat.le_trans (List.length_filterMap_le _ _) ?_
  rw [List.length_take]; exact Nat.le_trans (Nat.min_le_right _ _) (by decide)
theorem sub_vars {g v : Nat} (hv : varsN[g]? = some v) : sub [88, 89, 90, 120, 121, 122, 49, 50, 51, 52, 53, 54] (g : Int) ((g : Int) + 1) = [v] := by
  have hg : g < 6 := (List.getElem?_eq_some_iff.1 hv).1
  match g, hg with
  | 0, _ | 1, _ | 2, _ | 3, _ | 4, _ | 5, _ => simp [varsN] at hv; subst hv; rfl
theorem l2Told_ok {S : Nat → Prop} {h : AHeap} {i : Nat} {m : Bd} (rm : MapR S h i m) (bo : BOk 60 m) :
    SCall pg n_spec_l2Told [.ptr (some (i, 0))] h fun v h' => Same h.length h h' ∧ ∃ a n c e, v = .tup [.slice a n c e, .bool true] ∧ n ≤ c ∧ FreshR t_impl_Binding eP h.length h' a n (bdL m) := by
  apply F_spec_l2Told.call
  simp only [letH_def, xSome_some]
  generalize hh0 : h ++ [AObj.cells t_impl_Binding [] false] = h0
  have s0 : Same h.length h h0 := by rw [← hh0]; exact same_last
  have l0 : h0.length = h.length + 1 := by rw [← hh0]; simp
  have o0 : h0[h.length]? = some (.cells t_impl_Binding [] false) := by rw [← hh0]; simp
  refine F_spec_l2Told.L3ind _ _ (J := fun (g : Nat) a4 n4 c4 e4 x10 h' => x10 = (g : Int) ∧ g ≤ 12 ∧ Same h.length h h' ∧ n4 = (bdTo m g).length ∧ n4 ≤ c4 ∧ Vec t_impl_Binding h' a4 n4 c4 (flat eP (bdTo m g)) ∧ (∀ i, a4 = some (i, 0) → h.length ≤ i)) (fun g => 12 - g) ?_ 0 _ _ _ _ _ _
    ⟨rfl, by omega, s0, by simp [bdTo], Nat.le_refl _, Vec.mk1 (by simpa [bdTo] using o0), fun i hi => by cases hi; omega⟩
  rintro g a4 n4 c4 e4 x10 h' ⟨rfl, hg, hSm, rfl, hnc, hv, ha⟩ R hR
  unfold F_spec_l2Told.L3t
  have hbl := bdTo_len m g
  refine bcase_dec (fun hlt => ?_) (fun hge => ?_)
  · have hg' : g < 12 := by omega
    obtain ⟨x, hx1, hx2, hx3⟩ := (rm.same hSm).get hg'
    have il := (rm.same hSm).lt
    have hx : ∃ (d : Nat) (a : Pt) (n c : Nat) (e : Bool), x = (.int .u8 (d : Int), .slice a n c e) ∧ (match (varsN[g]?).bind (bget m) with | some t => d = t.hd | none => d = 0) := by
      split at hx3
      · rename_i t ht
        obtain ⟨ua, uc, ue, hu⟩ := hx3.shape
        simp only [List.cons.injEq, and_true] at hu
        exact ⟨t.hd, ua, t.ps.length, uc, ue, by rw [← hu.1, ← hu.2], by first | rfl | rw [ht]⟩
      · rename_i hn; exact ⟨0, none, 0, 0, true, hx3, by first | rfl | rw [hn]⟩
    obtain ⟨d, ua, un, uc, ue, rfl, hd⟩ := hx
    simp only [Int.toNat_natCast, hx2, xSome_some, xRow_some, xCons_cons, xNil_nil, xInt_some, xSl_some, letH_def]
    generalize hq : h' ++ [AObj.cells t_spec_l1Node [.int .u8 0, .slice none 0 0 true] false] = hq'
    have sq : Same h'.length h' hq' := by rw [← hq]; exact same_last
    have hrq : hRow hq' (.ptr (some (i, 0 + g * 2))) 2 = some [.int .u8 (d : Int), .slice ua un uc ue] := by
      rw [← hx2]; simp only [hRow, sq.eq i il]
    rw [hrq, ← hq, store2]
    generalize hw : h' ++ [AObj.cells t_spec_l1Node [.int .u8 (d : Int), .slice ua un uc ue] false] = hw'
    have sw : Same h'.length h' hw' := by rw [← hw]; exact same_last
    have ow : hw'[h'.length]? = some (.cells t_spec_l1Node [.int .u8 (d : Int), .slice ua un uc ue] false) := by rw [← hw]; simp
    simp only [xHeap_some, hCell_of ow, Nat.zero_add, List.getElem?_cons_zero, xInt_some, true_and]
    have SW := hSm.cat sw
    have hsuc := bdTo_succ m g
    have skip : (varsN[g]?).bind (bget m) = none → F_spec_l2Told.J9 (fun v h' => Same h.length h h' ∧ ∃ a n c e, v = .tup [.slice a n c e, .bool true] ∧ n ≤ c ∧ FreshR t_impl_Binding eP h.length h' a n (bdL m)) R (g : Int) (some (i, 0)) a4 (bdTo m g).length c4 e4 hw' := by
      intro hn
      have hsame : bdTo m (g + 1) = bdTo m g := by
        rw [hsuc]
        cases hvg : varsN[g]? with
        | none => simp
        | some v => rw [hvg, Option.bind_some] at hn; simp [hn]
      apply F_spec_l2Told.J9i
      rw [wrap_nat (by omega)]
      exact hR (g + 1) _ _ _ _ _ _ (by omega) ⟨rfl, by omega, SW, by rw [hsame], hnc, by rw [hsame]; exact hv.same sw, ha⟩
    refine ⟨by omega, ?_⟩
    cases hb : (varsN[g]?).bind (bget m) with
    | none =>
      rw [hb] at hd
      simp only at hd
      subst hd
      simp only [show (((0 : Nat) : Int) == 0) = true from rfl, bcase_true]
      exact skip hb
    | some t =>
      rw [hb] at hd hx3
      simp only at hd hx3
      obtain ⟨v, hvg, hbv⟩ := Option.bind_eq_some_iff.1 hb
      have hu := bo.var _ (bget_mem hbv)
      have hg6 : g < 6 := (List.getElem?_eq_some_iff.1 hvg).1
      have hd0 : ((d : Int) == 0) = false := by
        have := ok_letter hu.2.1
        have hne : t.hd ≠ 0 := fun e => by rw [e] at this; simp at this
        simp; omega
      rw [show decide ((g : Int) ≥ 6) = false by simp; omega]
      simp only [hd0, bcase_false]
      apply F_spec_l2Told.J6i
      rw [← hw, rowL2, hw]
      simp only [xRow_some, xCons_cons, xNil_nil, xInt_some, xSl_some]
      have hu2 : t.txt.length ≤ 60 := hu.2.2
      refine (l2Length_ok _ (Nat.le_refl _) (by omega) (hx3.same sw)).mono ?_
      rintro v' h3 ⟨rfl, s3⟩
      have o3 := s3.get ow (Own.lt ow)
      simp only [xInt_some]
      rw [show decide (((t.txt.length : Nat) : Int) > 60) = false by simp; omega]
      simp only [bcase_false, hRow_of o3 (show 0 + 2 ≤ _ by simp), List.drop_zero, List.take_succ_cons, List.take_zero, xRow_some, xCons_cons, xNil_nil, xInt_some, xSl_some]
      rw [wrap_nat (by omega), show (((g + 1 : Nat) : Int)) = (g : Int) + 1 by omega, sub_vars hvg]
      refine ⟨⟨by omega, by omega, by simp; omega⟩, (l1Text_ok _ (Nat.le_refl _) (by omega) hu.2.1 ((hx3.same sw).same s3)).mono ?_⟩
      rintro v' h4 ⟨rfl, s4⟩
      simp only [xStr_some, letH_def]
      have S4 := (SW.cat s3).cat s4
      refine (((hv.same sw).same s3).same s4).pushN u_L_Binding c_Binding k_Binding b_Binding (by rw [flat_length eP_len]) rfl (by omega) rfl (by omega) (fun h6 hl6 hi6 hk6 => ?_)
      simp only [xSl_some]
      apply F_spec_l2Told.J9i
      rw [wrap_nat (by omega)]
      have hle := S4.le
      have hs' : bdTo m (g + 1) = bdTo m g ++ [([v], t.txt)] := by rw [hsuc, hvg]; simp [hbv]
      refine hR (g + 1) _ _ _ _ _ _ (by omega) ⟨rfl, by omega, ⟨by omega, fun j hj => ?_⟩, by rw [hs']; simp, Nat.le_refl _, Vec.mk1 ?_, fun i hi => by cases hi; omega⟩
      · rw [hk6 j (by omega) fun i hi => by have := ha i hi; omega]; exact S4.eq j hj
      · rw [hi6, hs', flat_append]; rfl
  · apply F_spec_l2Told.A3x0i
    have : g = 12 := by omega
    subst this
    have hb12 : bdTo m 12 = bdL m := by unfold bdTo bdL; rw [List.take_of_length_le (by decide)]
    rw [hb12] at hv hnc ⊢
    exact ⟨hSm, _, _, _, _, rfl, hnc, hv.fresh (b := h.length) rfl fun i hi => ha i hi⟩
theorem zeros12 : flat eR (List.replicate 12 (AVal.int .u8 0, AVal.slice none 0 0 true)) = [.int .u8 0, .slice none 0 0 true, .int .u8 0, .slice none 0 0 true, .int .u8 0, .slice none 0 0 true, .int .u8 0, .slice none 0 0 true, .int .u8 0, .slice none 0 0 true, .int .u8 0, .slice none 0 0 true, .int .u8 0, .slice none 0 0 true, .int .u8 0, .slice none 0 0 true, .int .u8 0, .slice none 0 0 true, .int .u8 0, .slice none 0 0 true, .int .u8 0, .slice none 0 0 true, .int .u8 0, .slice none 0 0 true] := rfl
/-- A node that was read: its cells, whether it is one or not. -/
theorem read_shape {h h' : AHeap} {s : List Nat} {vs : List AVal} (hm : match ofTxt s with | some t => SRep (Btw h.length h'.length) h' t vs | none => vs = [.int .u8 0, .slice none 0 0 true]) : ∃ (d : Int) (a : Pt) (n c : Nat) (e : Bool), vs = [.int .u8 d, .slice a n c e] := by
  split at hm
  · obtain ⟨a, c, e, rfl⟩ := hm.shape; exact ⟨_, _, _, _, _, rfl⟩
  · exact ⟨_, _, _, _, _, hm⟩
theorem sMatchType_ok (p s : List Nat) (hp0 : p.length ≤ 1048576) (hs0 : s.length ≤ 1048576) (h : AHeap) : SCall pg n_spec_MatchType [.str p, .str s] h (MatchQ p s h) := by
  apply F_spec_MatchType.call
  refine (l1Read_ok p (by omega) h).mono ?_
  rintro v h1 ⟨s1, vs1, rfl, r1⟩
  obtain ⟨d1, a1, n1, c1, e1, rfl⟩ := read_shape r1
  simp only [xTup_tup, xCons_cons, xAgg_agg, xInt_some, xSl_some, xNil_nil, xBool_some, letH_def]
  rw [store2]
  generalize hh2 : h1 ++ [AObj.cells t_spec_l1Node [.int .u8 d1, .slice a1 n1 c1 e1] false] = h2
  have s2 : Same h1.length h1 h2 := by rw [← hh2]; exact same_last
  have o2 : h2[h1.length]? = some (.cells t_spec_l1Node [.int .u8 d1, .slice a1 n1 c1 e1] false) := by rw [← hh2]; simp
  simp only [xHeap_some]
  refine (l1Read_ok s (by omega) h2).mono ?_
  rintro v h3 ⟨s3, vs3, rfl, r3⟩
  obtain ⟨d3, a3, n3, c3, e3, rfl⟩ := read_shape r3
  simp only [xTup_tup, xCons_cons, xAgg_agg, xInt_some, xSl_some, xNil_nil, xBool_some]
  rw [store2]
  generalize hh4 : h3 ++ [AObj.cells t_spec_l1Node [.int .u8 d3, .slice a3 n3 c3 e3] false] = h4
  have s4 : Same h3.length h3 h4 := by rw [← hh4]; exact same_last
  have o4 : h4[h3.length]? = some (.cells t_spec_l1Node [.int .u8 d3, .slice a3 n3 c3 e3] false) := by rw [← hh4]; simp
  simp only [xHeap_some]
  rw [← zeros12]
  generalize hh5 : h4 ++ [AObj.cells t_spec_l2Map (flat eR (List.replicate 12 (AVal.int .u8 0, AVal.slice none 0 0 true))) false] = h5
  have s5 : Same h4.length h4 h5 := by rw [← hh5]; exact same_last
  have o5 : h5[h4.length]? = some (.cells t_spec_l2Map (flat eR (List.replicate 12 (AVal.int .u8 0, AVal.slice none 0 0 true))) false) := by rw [← hh5]; simp
  have x2 : h5[h1.length]? = some (.cells t_spec_l1Node [.int .u8 d1, .slice a1 n1 c1 e1] false) := s5.get (s4.get (s3.get o2 (Own.lt o2)) (by have := Own.lt o2; have := s3.le; omega)) (by have := Own.lt o2; have := s3.le; have := s4.le; omega)
  have x4 := s5.get o4 (Own.lt o4)
  have S2 := s1.cat s2
  have S5 := (((S2.cat s3).cat s4).cat s5)
  have no : matchS p s = none → ∀ hz, Same h.length h hz → MatchQ p s h (.tup [.slice (some (hz.length, 0)) 0 0 true, .bool false]) (hz ++ [AObj.cells t_impl_Binding [] false]) := fun hn hz sz =>
    ⟨sz.cat same_last, _, 0, 0, true, by unfold instS; rw [hn]; rfl, Nat.le_refl _, by unfold matchR; rw [hn]; exact ⟨rfl, .inl rfl⟩⟩
  cases hp : ofTxt p with
  | none =>
    have : tyOk p = false := by unfold tyOk; rw [hp]; rfl
    rw [this]
    simp only [Bool.not_false, bcase_true]
    exact no (by unfold matchS; rw [hp]) _ S5
  | some a =>
    rw [tyOk_of hp]
    simp only [Bool.not_true, bcase_false]
    cases ht : ofTxt s with
    | none =>
      have : tyOk s = false := by unfold tyOk; rw [ht]; rfl
      rw [this]
      simp only [Bool.not_false, bcase_true]
      exact no (by unfold matchS; rw [hp, ht]) _ S5
    | some t =>
      rw [tyOk_of ht]
      rw [hp] at r1
      rw [ht] at r3
      simp only at r1 r3
      simp only [Bool.not_true, bcase_false, hRow_of x2 (show 0 + 2 ≤ _ by simp), hRow_of x4 (show 0 + 2 ≤ _ by simp), List.drop_zero, List.take_succ_cons, List.take_zero, xRow_some, xCons_cons, xNil_nil, xInt_some, xSl_some]
      obtain ⟨ha1, ha2, ha3⟩ := ofTxt_some.1 hp
      obtain ⟨ht1, ht2, ht3⟩ := ofTxt_some.1 ht
      have hms : matchS p s = matchT [] a t := by unfold matchS; rw [hp, ht]
      have l3 := s3.le; have l4 := s4.le; have l2 := s2.le
      have R1 := ((((r1.same s2).same s3).same s4).same s5).mono (S' := fun j => j ≠ h4.length) (fun j hj => by have := hj.2; omega)
      have R3 := ((r3.same s4).same s5).mono (S' := fun j => j ≠ h4.length) (fun j hj => by have := hj.2; omega)
      refine (l2Match_ok _ (Nat.le_refl _) ha1 ht1 (n := 60) (by omega) (by rw [← ht2]; exact ht3) BOk.nil (fun j hj => hj) R1 R3 (MapR.nil o5)).mono ?_
      rintro v h6 ⟨K6, hres⟩
      have l5 := S5.le
      have lh4 : h.length ≤ h4.length := (((S2.cat s3).cat s4)).le
      have S6 : Same h.length h h6 := ⟨by have := K6.le; omega, fun j hj => by rw [K6.eq j (by omega) (by omega)]; exact S5.eq j hj⟩
      cases hm : matchT [] a t with
      | none =>
        rw [hm] at hres hms
        subst hres
        simp only [xBool_some, Bool.not_false, bcase_true]
        exact no hms _ S6
      | some m =>
        rw [hm] at hres hms
        obtain ⟨rfl, rm6⟩ := hres
        simp only [xBool_some, Bool.not_true, bcase_false]
        apply F_spec_MatchType.J6i
        refine (l2Told_ok rm6 (matchS_ok hms)).mono ?_
        rintro v h7 ⟨s7, a7, n7, c7, e7, rfl, hc7, f7⟩
        simp only [xTup_tup, xCons_cons, xSl_some, xBool_some, xNil_nil]
        refine ⟨S6.cat s7, a7, n7, c7, e7, by unfold instS; rw [hms]; rfl, hc7, ?_⟩
        unfold matchR; rw [hms]
        exact ⟨f7.1, f7.2.imp id fun ⟨i, ha, hb, hi⟩ => ⟨i, ha, by have := S6.le; omega, hi⟩⟩
theorem sIsInstance_ok (p s : List Nat) (hp0 : p.length ≤ 1048576) (hs0 : s.length ≤ 1048576) (h : AHeap) : SCall pg n_spec_IsInstance [.str p, .str s] h fun v h' => v = .bool (instS p s) ∧ Same h.length h h' := by
  apply F_spec_IsInstance.call
  refine (sMatchType_ok p s hp0 hs0 h).mono ?_
  rintro v h1 ⟨s1, a, n, c, e, rfl, _⟩
  simp only [xTup_tup, xCons_cons, xSl_some, xBool_some, xNil_nil]
  exact ⟨by trivial, s1⟩
end Go.Sim
