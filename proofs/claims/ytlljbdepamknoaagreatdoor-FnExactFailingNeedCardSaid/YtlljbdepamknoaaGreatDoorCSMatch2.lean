/- A part of the proof of a statement of this seat: see the text that holds the theorem. No condition. -/
import Derived.Test.YtlljbdepamknoaaGreatDoorPTCText
import Derived.Test.YtlljbdepamknoaaGreatDoorPMatch
import Derived.Test.YtlljbdepamknoaaGreatDoorCWLaw
import Derived.Test.YtlljbdepamknoaaGreatDoorPTCMost
set_option linter.unusedVariables false
set_option linter.unusedSimpArgs false
set_option linter.all false
set_option linter.unusedVariables false
set_option linter.unusedSimpArgs false
set_option maxRecDepth 20000
namespace Go.Sim
open Go Go.RowKit

def Yjh (h : Zaa) (i : Nat) (m : Bd) : Prop := ∃ es clk, h[i]? = some (.map es clk) ∧ es.map (·.1) = m.map (fun p => Zaq.str [p.1]) ∧ es.map (·.2.1) = m.map (fun p => Zaq.str p.2.txt) ∧ (es.map (·.2.2)).Nodup ∧ ∀ e ∈ es, e.2.2 < clk
theorem Yjh.eq {h h' : Zaa} {i : Nat} {m : Bd} (r : Yjh h i m) (he : h'[i]? = h[i]?) : Yjh h' i m := by
  obtain ⟨es, clk, h1, x⟩ := r
  exact ⟨es, clk, by rw [he]; exact h1, x⟩
theorem Yjh.lt {h : Zaa} {i : Nat} {m : Bd} (r : Yjh h i m) : i < h.length := by obtain ⟨es, clk, h1, _⟩ := r; exact Own.lt h1
theorem Zqs : ∀ {es : List ME} {m : Bd} {v k : Nat} {t : Ty}, es.map (·.1) = m.map (fun p => Zaq.str [p.1]) → es.map (·.2.1) = m.map (fun p => Zaq.str p.2.txt) → Zhr m v = some t → ∃ j b, Zto es [v] k = some (some (k + j, .str t.txt)) ∧ es[j]? = some (.str [v], .str t.txt, b)
  | _, [], v, k, t, _, _, h => by simp [Zhr] at h
  | [], p :: m, v, k, t, h, _, _ => by simp at h
  | (ek, ev, eb) :: es, (w, u) :: m, v, k, t, hk, hv, h => by
    simp only [List.map_cons, List.cons.injEq] at hk hv
    obtain ⟨rfl, hk⟩ := hk
    obtain ⟨rfl, hv⟩ := hv
    simp only [Zhr] at h
    by_cases e : w = v
    · rw [if_pos e] at h
      cases h; subst e
      exact ⟨0, eb, by simp [Zto], rfl⟩
    · rw [if_neg e] at h
      obtain ⟨j, b, h1, h2⟩ := Zqs (k := k + 1) hk hv h
      have : ¬ [v] = [w] := fun x => e (by simpa using x.symm)
      exact ⟨j + 1, b, by simp only [Zto, this, if_false, h1]; rw [show k + 1 + j = k + (j + 1) by omega], h2⟩
theorem Zqy : ∀ {es : List ME} {m : Bd} {v k : Nat}, es.map (·.1) = m.map (fun p => Zaq.str [p.1]) → Zhr m v = none → Zto es [v] k = some none
  | [], [], v, k, _, _ => rfl
  | [], p :: m, v, k, h, _ => by simp at h
  | e :: es, [], v, k, h, _ => by simp at h
  | (ek, ev, eb) :: es, (w, u) :: m, v, k, hk, h => by
    simp only [List.map_cons, List.cons.injEq] at hk
    obtain ⟨rfl, hk⟩ := hk
    simp only [Zhr] at h
    by_cases e : w = v
    · rw [if_pos e] at h; cases h
    · rw [if_neg e] at h
      have : ¬ [v] = [w] := fun x => e (by simpa using x.symm)
      simp only [Zto, this, if_false]
      exact Zqy hk h
theorem Zwc {α : Type} {f : α → α} {e : α} : ∀ {l : List α} {j : Nat}, l[j]? = some e → f e = e → l.modify j f = l
  | [], j, h, _ => by simp at h
  | a :: l, 0, h, hf => by simp at h; subst h; simp [hf]
  | a :: l, j + 1, h, hf => by simp at h; simp [Zwc h hf]
theorem Yhn (c : Nat) : Zko [c] = Zdj c := rfl
theorem Row.keepAt {i : Nat} {h h' : Zaa} {a : Pt} {n : Nat} {cs : List Zaq} (r : Row h.length h a n cs) (hne : ∀ j o, n ≠ 0 → a = some (j, o) → j ≠ i) (k : Zlb i h h') : Row h'.length h' a n cs := by
  obtain ⟨hl, r⟩ := r
  by_cases h0 : n = 0
  · exact ⟨hl, .inl h0⟩
  · refine ⟨hl, r.imp id ?_⟩
    rintro ⟨j, o', t, all, ro, ha, hi, hg, x⟩
    have := k.le
    exact ⟨j, o', t, all, ro, ha, by omega, by rw [k.eq j hi (hne j o' h0 ha)]; exact hg, x⟩
def Ysz (h : Zaa) (i : Nat) (r : Option Bd) (v : Zaq) (h' : Zaa) : Prop := Zlb i h h' ∧ (match r with | some m' => v = .bool true ∧ Yjh h' i m' | none => v = .bool false)
theorem Yfd : ∀ (N : Nat) {a t : Ty} {S : Nat → Prop} {h : Zaa} {p q : Pt} {i n : Nat} {m : Bd}, a.size ≤ N → a.ok = true → t.ok = true → t.txt.length ≤ 1048576 → t.txt.length ≤ n → BOk n m → (∀ j, S j → j ≠ i) → Zro S h a p → Zro S h t q → Yjh h i m →
    Zag pg Zht [.ptr p, .ptr q, .map (some i)] h (Ysz h i (matchT m a t))
  | 0, a, t, S, h, p, q, i, n, m, hN, _, _, _, _, _, _, _, _, _ => by have := a.size_ps; omega
  | N + 1, a, t, S, h, p, q, i, n, m, hN, ha, ht, hB, hn, bo, hSi, ra, rt, rm => by
    have hcase := Ybz (m := m) ha ht
    obtain ⟨ia, aa, ca, ea, qa, rfl, sia, hia, rowa, hSa, hqal, hqa⟩ := ra.parts
    obtain ⟨it, at', ct, et, qt, rfl, sit, hit, rowt, hSt, hqtl, hqt⟩ := id rt.parts
    have hps2 : a.ps.length ≤ 2 := by cases a <;> simp [Ty.ps]
    apply Zeq.call
    simp only [Zau, Zak hia, Nat.zero_add, List.getElem?_cons_succ, List.getElem?_cons_zero, Zaj, Zai]
    refine (Zzh [a.hd]).mono ?_
    rintro v h1 ⟨rfl, rfl⟩
    simp only [Zap, Yhn]
    refine Zdi (fun hv => ?_) (fun hv => ?_)
    · rw [hv] at hcase
      simp only [if_true] at hcase
      refine (Ymi _ (Nat.le_refl _) hB rt).mono ?_
      rintro v h2 ⟨rfl, s2⟩
      have hia2 := s2.get hia (Own.lt hia)
      obtain ⟨es, clk, hm, hk, hvv, hb, hlt⟩ := id rm
      have hm2 := s2.get hm (Own.lt hm)
      have rm2 : Yjh h2 i m := rm.eq (s2.eq i (Own.lt hm))
      simp only [Zai, Zak hia2, List.getElem?_cons_succ, List.getElem?_cons_zero, Zgd, hm2, Zxr]
      have K2 : Zlb i h1 h2 := ⟨s2.le, fun j hj _ => s2.eq j hj⟩
      have hput : ∀ r : Option Bd, (∀ (es' : List ME) (k' : Nat), Ymn es clk [a.hd] (.str t.txt) (fun x y => x = es' ∧ y = k') → Ysz h1 i r (.bool true) (h2.set i (.map es' k'))) → Zeq.J6 (Ysz h1 i r) (some i) (some (ia, 0)) t.txt h2 := by
        intro r hr
        apply Zeq.J6i
        simp only [Zau, Zak hia2, Nat.zero_add, List.getElem?_cons_zero, Zai, xMp, Zgd, hm2, Zax]
        unfold Ymn at hr ⊢
        cases hg : Zhr m a.hd with
        | none =>
          rw [Zqy hk hg] at hr ⊢
          exact hr _ _ ⟨rfl, rfl⟩
        | some u =>
          obtain ⟨j, b, hf, _⟩ := Zqs (k := 0) hk hvv hg
          rw [hf] at hr ⊢
          exact hr _ _ ⟨rfl, rfl⟩
      have KS : ∀ x, Zlb i h1 (h2.set i x) := fun x => K2.trans (Zlb.set i h2 x)
      have hil := Own.lt hm2
      cases hg : Zhr m a.hd with
      | none =>
        have hbn : Zox m a.hd t = some (m ++ [(a.hd, t)]) := by unfold Zox; rw [hg]
        rw [hbn] at hcase
        rw [hcase, Zqy hk hg]
        simp only [Option.getD_none, Zai, Option.isSome_none, Zbn]
        refine hput _ fun es' k' hp => ⟨KS _, rfl, ?_⟩
        unfold Ymn at hp
        rw [Zqy hk hg] at hp
        obtain ⟨rfl, rfl⟩ := hp
        refine ⟨_, _, List.getElem?_set_self hil, by simp [hk], by simp [hvv], ?_, ?_⟩
        · rw [List.map_append, List.nodup_append]
          refine ⟨hb, by simp, ?_⟩
          intro x hx y hy e
          simp at hy
          obtain ⟨z, hz, rfl⟩ := List.mem_map.1 hx
          have := hlt z hz; omega
        · intro e he
          rcases List.mem_append.1 he with he | he
          · have := hlt e he; omega
          · simp at he; subst he; simp
      | some u =>
        obtain ⟨j, b, hf, hj⟩ := Zqs (k := 0) hk hvv hg
        rw [hf]
        simp only [Option.getD_some, Zai, Option.isSome_some, Zcu]
        have hu : u.ok = true ∨ True := .inr trivial
        by_cases he : u = t
        · subst he
          have hbn : Zox m a.hd u = some m := by unfold Zox; rw [hg]; simp
          rw [hbn] at hcase
          rw [hcase]
          simp only [decide_true, Bool.not_true, Zbn]
          refine hput _ fun es' k' hp => ⟨KS _, rfl, ?_⟩
          unfold Ymn at hp
          rw [hf] at hp
          obtain ⟨rfl, rfl⟩ := hp
          rw [Nat.zero_add, Zwc hj rfl]
          exact ⟨es, clk, List.getElem?_set_self hil, hk, hvv, hb, hlt⟩
        · have hu := (bo.var _ (Zqt hg)).2.1
          have hne : ¬ u.txt = t.txt := fun e => he (Ty.txt_inj' hu ht e)
          have hbn : Zox m a.hd t = none := by unfold Zox; rw [hg]; simp [he]
          rw [hbn] at hcase
          rw [hcase]
          simp only [hne, decide_false, Bool.not_false, Zcu]
          exact ⟨K2, rfl⟩
    · rw [hv] at hcase
      simp only [Bool.false_eq_true, if_false] at hcase
      simp only [Zau, Zak hia, Zak hit, Nat.zero_add, List.getElem?_cons_succ, List.getElem?_cons_zero, Zaj, Zai, true_and]
      refine Zyi (fun hne => ?_) (fun he => ?_)
      · rw [if_neg (fun e => hne (by rw [e]))] at hcase
        rw [hcase]
        exact ⟨Zlb.refl _ _, rfl⟩
      · have he' : a.hd = t.hd := by simpa using he
        rw [if_pos he'] at hcase
        rw [hcase]
        have hlen := Yfh ha ht he'
        refine Zeq.L11ind _ _ _ _ _ _ _ _ (J := fun (g : Nat) x54 h' => x54 = (g : Int) ∧ g ≤ a.ps.length ∧ Zlb i h1 h' ∧ ∃ m1, matchL m (a.ps.take g) (t.ps.take g) = some m1 ∧ Yjh h' i m1) (fun g => a.ps.length - g) ?_ 0 _ _ ⟨rfl, by omega, Zlb.refl _ _, m, by simp [matchL], rm⟩
        rintro g x54 h' ⟨rfl, hg, hK, m1, hm1, rm1⟩ R hR
        unfold Zeq.L11t
        refine Zar (fun hlt => ?_) (fun hge => ?_)
        · have hga : g < a.ps.length := by omega
          have hgt : g < t.ps.length := by omega
          have hit1 : h'[it]? = some (.cells Zer [.str [t.hd], .slice at' t.ps.length ct et, .ptr none] false) := by rw [hK.eq _ (Own.lt hit) (hSi _ sit)]; exact hit
          obtain ⟨ja, oa, rfl, _, hca⟩ := (rowa.keepAt (i := i) (fun j o h0 e => hSi j (hSa j o h0 e)) hK).at hga
          obtain ⟨jt, ot, rfl, _, hct⟩ := (rowt.keepAt (i := i) (fun j o h0 e => hSi j (hSt j o h0 e)) hK).at hgt
          have hqag : g < qa.length := by omega
          have hqtg : g < qt.length := by omega
          rw [List.getElem?_map, List.getElem?_eq_getElem hqag] at hca
          rw [List.getElem?_map, List.getElem?_eq_getElem hqtg] at hct
          simp only [Zau, Int.toNat_natCast, Nat.mul_one, hca, hct, Option.map_some, Zeo, Zak hit1, Nat.zero_add, List.getElem?_cons_succ, List.getElem?_cons_zero, Zaj]
          have hma := List.getElem_mem hga
          have hmt := List.getElem_mem hgt
          have h1 := Ty.size_part hma
          have h2 := Ty.len_part hmt
          have bo1 : BOk n m1 := BOk.matchL (fun x hx => Ty.ok_ps ha x (List.mem_of_mem_take hx)) (fun x hx => ⟨Ty.ok_ps ht x (List.mem_of_mem_take hx), by have := Ty.len_part (List.mem_of_mem_take hx); omega⟩) bo hm1
          have htk := Zsd a.ps t.ps m g hga hgt
          rw [hm1] at htk
          simp only at htk
          refine ⟨by omega, by omega, (Yfd N (by omega) (Ty.ok_ps ha _ hma) (Ty.ok_ps ht _ hmt) (by omega) (by omega) bo1 hSi ((hqa g _ _ (List.getElem?_eq_getElem hqag) (List.getElem?_eq_getElem hga)).keep fun j hj hl => hK.eq j hl (hSi j hj)) ((hqt g _ _ (List.getElem?_eq_getElem hqtg) (List.getElem?_eq_getElem hgt)).keep fun j hj hl => hK.eq j hl (hSi j hj)) rm1).mono ?_⟩
          rintro v h3 ⟨K3, hres⟩
          cases hmm : matchT m1 a.ps[g] t.ps[g] with
          | none =>
            rw [hmm] at hres htk
            subst hres
            simp only [Zap, Bool.not_false, Zcu]
            rw [Zrw a.ps t.ps m (g + 1) hlen htk]
            exact ⟨hK.trans K3, rfl⟩
          | some m2 =>
            rw [hmm] at hres htk
            obtain ⟨rfl, rm2⟩ := hres
            simp only [Zap, Bool.not_true, Zbn]
            rw [Zbt (by omega)]
            exact hR (g + 1) _ _ (by omega) ⟨rfl, by omega, hK.trans K3, m2, htk, rm2⟩
        · apply Zeq.A11x0i
          have : g = a.ps.length := by omega
          subst this
          rw [List.take_length, hlen, List.take_length] at hm1
          rw [hm1]
          exact ⟨hK, rfl, rm1⟩
end Go.Sim

set_option linter.unusedVariables false
set_option linter.unusedSimpArgs false
set_option maxRecDepth 20000
namespace Go.Sim
open Go Go.RowKit

theorem Zxf : pg.underlying Zlm = some (.slice Zbh) := by kernel_rfl
theorem Yba : pg.cellsOf Zbh = 2 := by kernel_rfl
theorem Yaw : pg.okElem Zbh = true := by kernel_rfl
theorem Yca : pg.bytesOf Zbh ≤ 127 := Nat.le_of_ble_eq_true (by kernel_rfl)
theorem Vec.fresh {α : Type} {ty : TypeId} {enc : α → List Zaq} {b : Nat} {h : Zaa} {a : Pt} {n c : Nat} {l : List α} (v : Vec ty h a n c (Zeg enc l)) (hn : n = l.length) (ha : ∀ i, a = some (i, 0) → b ≤ i) : Zeb ty enc b h a n l := by
  refine ⟨hn.symm, ?_⟩
  rcases v with ⟨rfl, h0, _⟩ | ⟨i, rfl, hi⟩
  · exact .inl h0
  · exact .inr ⟨i, rfl, ha i rfl, hi⟩
theorem Yke (m : Bd) : (bdL m).length ≤ 6 := by
  rw [Yfc, List.length_map]; exact Nat.le_trans (List.length_filter_le _ _) (by decide)
theorem Yed {h : Zaa} {i : Nat} {m : Bd} (rm : Yjh h i m) (bo : BOk 60 m) :
    Zag pg Zmp [.map (some i)] h fun v h' => Zbd h.length h h' ∧ ∃ a n c e, v = .slice a n c e ∧ n ≤ c ∧ Zeb Zbh eP h.length h' a n (bdL m) := by
  have hml : m.length ≤ 6 := by
    have hp : (m.map (·.1)).Perm (Zfn.filter fun v => decide (v ∈ m.map (·.1))) := by
      rw [List.perm_ext_iff_of_nodup bo.nd (Zsb.filter _)]
      intro v
      rw [List.mem_filter]
      constructor
      · intro hv
        obtain ⟨p, hp, rfl⟩ := List.mem_map.1 hv
        exact ⟨(Zpq _).2 (bo.var p hp).1, by simpa using hv⟩
      · exact fun h => by simpa using h.2
    have h1 := hp.length_eq
    have h2 := List.length_filter_le (fun v => decide (v ∈ m.map (·.1))) Zfn
    rw [List.length_map] at h1
    have h3 : Zfn.length = 6 := rfl
    omega
  apply Zhl.call
  simp only [Zax]
  generalize hh0 : h ++ [Zcg.cells Zbh [] false] = h0
  have s0 : Zbd h.length h h0 := by rw [← hh0]; exact Zam
  have l0 : h0.length = h.length + 1 := by rw [← hh0]; simp
  have o0 : h0[h.length]? = some (.cells Zbh [] false) := by rw [← hh0]; simp
  refine Ymx.mono ?_
  rintro v h2 ⟨rfl, hh2⟩
  simp only [Zxl]
  have s2 : Zbd h0.length h0 h2 := by rw [hh2]; exact Zam
  have hc2 : h2[h0.length]? = some (.cells Zgo [.map (some i)] false) := by rw [hh2]; simp
  obtain ⟨es, clk, hm, hk, hvv, hb, hlt⟩ := id rm
  have S2 := s0.cat s2
  have hm2 := S2.get hm (Own.lt hm)
  have hel : es.length = m.length := by have := congrArg List.length hk; simpa using this
  refine (Zxq hc2 hm2 (vs := m.map (·.1)) (by rw [hk, List.map_map]; rfl) bo.nd hb hlt (by omega)).mono ?_
  rintro v h3 ⟨us, hp, hsrt, hcase⟩
  have hus := Yes bo hp hsrt
  have hbd : bdL m = us.map fun v => ([v], ((Zhr m v).getD default).txt) := by rw [Yfc, hus]
  have hul : us.length ≤ 6 := by rw [hp.length_eq]; simpa using hml
  have hmem : ∀ v ∈ us, ∃ t, Zhr m v = some t := fun v hv => by
    rw [hus, List.mem_filter] at hv; exact Option.isSome_iff_exists.1 hv.2
  have hgen : ∃ a c e, v = .slice a us.length c e ∧ Row h3.length h3 a us.length (us.map fun v => Zaq.str [v]) ∧ Zbd h2.length h2 h3 := by
    rcases hcase with ⟨rfl, rfl, rfl⟩ | ⟨c, rfl, hc, rfl⟩
    · exact ⟨_, _, _, rfl, Row.nil, Zbd.refl _ _⟩
    · refine ⟨_, _, _, rfl, ⟨by simp, .inr ⟨h2.length, 0, Zdm, _, false, rfl, by simp, by simp; rfl, by simp, by rw [List.drop_zero, List.take_of_length_le (by simp)]⟩⟩, Zam⟩
  obtain ⟨a9, c9, e9, rfl, hrow, s3⟩ := hgen
  simp only [Zaj]
  have S3 := S2.cat s3
  have hS3le := S3.le
  have o3 : h3[h.length]? = some (.cells Zbh [] false) := s3.get (s2.get o0 (Own.lt o0)) (by have := Own.lt o0; have := s2.le; omega)
  refine Zhl.L3ind _ _ _ _ _ _ _ (J := fun (g : Nat) a3 n3 c3 e3 x11 h' => x11 = (g : Int) ∧ g ≤ us.length ∧ Zbd h.length h h' ∧ (∀ j, j < h3.length → j ≠ h.length → h'[j]? = h3[j]?) ∧ h3.length ≤ h'.length ∧ n3 = g ∧ n3 ≤ c3 ∧ Vec Zbh h' a3 n3 c3 (Zeg eP ((bdL m).take g)) ∧ (∀ i, a3 = some (i, 0) → i = h.length ∨ h3.length ≤ i)) (fun g => us.length - g) ?_ 0 _ _ _ _ _ _
    ⟨rfl, by omega, S3, fun _ _ _ => rfl, Nat.le_refl _, rfl, Nat.le_refl _, Vec.mk1 (by simpa using o3), fun i hi => by cases hi; exact .inl rfl⟩
  rintro g a3 n3 c3 e3 x11 h' ⟨rfl, hg, hSm, hK, hle3, rfl, hnc, hv, ha⟩ R hR
  unfold Zhl.L3t
  have hbl : (bdL m).length = us.length := by rw [hbd]; simp
  refine Zar (fun hlt => ?_) (fun hge => ?_)
  · have hg' : n3 < us.length := by omega
    obtain ⟨j, o, rfl, hj, hc⟩ := hrow.at hg'
    rw [List.getElem?_map, List.getElem?_eq_getElem hg', Option.map_some] at hc
    -- the row of keys has not turned: it lies apart from the row of bindings
    have hjr : j ≠ h.length := by
      rcases hcase with ⟨h0, _⟩ | ⟨c, hsl, _, _⟩
      · rw [h0] at hg'; simp at hg'
      · simp only [Zaq.slice.injEq, Option.some.injEq, Prod.mk.injEq] at hsl
        have := s2.le; omega
    have hc' : Zae h' (.ptr (some (j, o + n3))) = some (.str [us[n3]]) := by
      rw [← hc]; simp only [Zae, hK j hj hjr]
    obtain ⟨t, ht⟩ := hmem _ (List.getElem_mem hg')
    have hm' := hSm.get hm (Own.lt hm)
    obtain ⟨jj, bb, hf, _⟩ := Zqs (k := 0) hk hvv ht
    simp only [Zau, Int.toNat_natCast, Nat.mul_one, hc', Zai, Zgd, hm', Zxr, hf, Option.getD_some, Zax]
    have htk : (bdL m).take (n3 + 1) = (bdL m).take n3 ++ [([us[n3]], t.txt)] := by
      rw [List.take_succ_eq_append_getElem (by omega)]
      congr 2
      have : (bdL m)[n3]? = some ([us[n3]], t.txt) := by
        rw [hbd, List.getElem?_map, List.getElem?_eq_getElem hg', Option.map_some, ht, Option.getD_some]
      exact (List.getElem?_eq_some_iff.1 this).2
    refine ⟨by omega, ?_⟩
    refine hv.pushN Zxf Yba Yaw Yca (by rw [Zbb Zdd, List.length_take]; omega) rfl (by omega) rfl (by omega) (fun h6 hl6 hi6 hk6 => ?_)
    simp only [Zaj]
    rw [Zbt (by omega)]
    have hle := hSm.le
    have hb9 : ∀ i, a3 = some (i, 0) → h.length ≤ i := fun i hi => by rcases ha i hi with hh | hh <;> omega
    refine hR (n3 + 1) _ _ _ _ _ _ (by omega) ⟨rfl, by omega, ⟨by omega, fun j hj => ?_⟩, fun j hj hne => ?_, by omega, rfl, Nat.le_refl _, Vec.mk1 ?_, fun i hi => by cases hi; right; omega⟩
    · rw [hk6 j (by omega) fun i hi => by have := hb9 i hi; omega]; exact hSm.eq j hj
    · rw [hk6 j (by omega) fun i hi => by rcases ha i hi with hh | hh <;> omega]; exact hK j hj hne
    · rw [hi6, htk, Zgt]; rfl
  · apply Zhl.A3x0i
    have : n3 = us.length := by omega
    subst this
    rw [show (bdL m).take us.length = bdL m from List.take_of_length_le (by omega)] at hv
    exact ⟨hSm, _, _, _, _, rfl, hnc, hv.fresh (b := h.length) hbl.symm fun i hi => by rcases ha i hi with hh | hh <;> omega⟩
def Ygg (p s : List Nat) (h : Zaa) (v : Zaq) (h' : Zaa) : Prop := Zbd h.length h h' ∧ ∃ a n c e, v = .tup [.slice a n c e, .bool (Zpj p s)] ∧ n ≤ c ∧ Zeb Zbh eP h.length h' a n (Zjv p s)
theorem Zuo (p s : List Nat) (h : Zaa) : Zag pg Zix [.str p, .str s] h (Ygg p s h) := by
  apply Zlk.call
  refine (Zwa p h).mono ?_
  rintro v h1 ⟨s1, q1, rfl, r1⟩
  simp only [Zeo]
  refine (Zwa s h1).mono ?_
  rintro v h2 ⟨s2, q2, rfl, r2⟩
  simp only [Zeo, Zax]
  have S2 := s1.cat s2
  have s3 : Zbd h2.length h2 (h2 ++ [.map [] 0]) := Zam
  have S3 := S2.cat s3
  have no : Zkf p s = none → Ygg p s h (.tup [.slice none 0 0 true, .bool false]) (h2 ++ [.map [] 0]) := fun hn =>
    ⟨S3, none, 0, 0, true, by unfold Zpj; rw [hn]; rfl, Nat.le_refl _, by unfold Zjv; rw [hn]; exact ⟨rfl, .inl rfl⟩⟩
  cases hp : Zjh p with
  | none =>
    rw [hp] at r1; simp only at r1; subst r1
    simp only [Option.isNone_none, Zcu]
    exact no (by unfold Zkf; rw [hp])
  | some a =>
    rw [hp] at r1; simp only at r1
    obtain ⟨i1, rfl, b1, l1⟩ := r1.lt
    simp only [Option.isNone_some, Zbn]
    cases ht : Zjh s with
    | none =>
      rw [ht] at r2; simp only at r2; subst r2
      simp only [Option.isNone_none, Zcu]
      exact no (by unfold Zkf; rw [hp, ht])
    | some t =>
      rw [ht] at r2; simp only at r2
      obtain ⟨i2, rfl, b2, l2⟩ := r2.lt
      simp only [Option.isNone_some, Zbn]
      obtain ⟨ha1, ha2, ha3⟩ := Zfs.1 hp
      obtain ⟨ht1, ht2, ht3⟩ := Zfs.1 ht
      have hms : Zkf p s = matchT [] a t := by unfold Zkf; rw [hp, ht]
      have hl1 := s1.le; have hl2 := s2.le
      have R1 := ((r1.same s2).same s3).mono (S' := fun j => j ≠ h2.length) (fun j hj => by have := hj.2; omega)
      have R2 := (r2.same s3).mono (S' := fun j => j ≠ h2.length) (fun j hj => by have := hj.2; omega)
      have rm : Yjh (h2 ++ [.map [] 0]) h2.length [] := ⟨[], 0, by simp, rfl, rfl, by simp, by simp⟩
      refine (Yfd _ (Nat.le_refl _) ha1 ht1 (by rw [← ht2]; omega) (n := 60) (by rw [← ht2]; exact ht3) BOk.nil (fun j hj => hj) R1 R2 rm).mono ?_
      rintro v h4 ⟨K4, hres⟩
      have S4 : Zbd h.length h h4 := ⟨by have := K4.le; have := S3.le; omega, fun j hj => by rw [K4.eq j (by have := S3.le; omega) (by have := S2.le; omega)]; exact S3.eq j hj⟩
      cases hm : matchT [] a t with
      | none =>
        rw [hm] at hres hms
        subst hres
        simp only [Zap, Bool.not_false, Zcu]
        exact ⟨S4, none, 0, 0, true, by unfold Zpj; rw [hms]; rfl, Nat.le_refl _, by unfold Zjv; rw [hms]; exact ⟨rfl, .inl rfl⟩⟩
      | some m =>
        rw [hm] at hres hms
        obtain ⟨rfl, rm4⟩ := hres
        simp only [Zap, Bool.not_true, Zbn]
        apply Zlk.J4i
        refine (Yed rm4 (Zxh hms)).mono ?_
        rintro v h5 ⟨s5, a5, n5, c5, e5, rfl, hc5, f5⟩
        simp only [Zaj]
        refine ⟨S4.cat s5, a5, n5, c5, e5, by unfold Zpj; rw [hms]; rfl, hc5, ?_⟩
        unfold Zjv; rw [hms]
        exact ⟨f5.1, f5.2.imp id fun ⟨i, ha, hb, hi⟩ => ⟨i, ha, by have := S4.le; omega, hi⟩⟩
theorem Zsl (p s : List Nat) (h : Zaa) : Zag pg Zhu [.str p, .str s] h fun v h' => v = .bool (Zpj p s) ∧ Zbd h.length h h' := by
  apply Zof.call
  refine (Zuo p s h).mono ?_
  rintro v h1 ⟨s1, a, n, c, e, rfl, _⟩
  simp only [Zde, Zah, Zaj, Zap, Zan]
  exact ⟨by trivial, s1⟩
end Go.Sim

set_option linter.unusedSimpArgs false
set_option linter.unusedVariables false
namespace Go.Sim

noncomputable def Zpo (l : List Nd) (i : Nat) : Bool := Zko (l.getD i ([], [])).1 && Zoj (l.getD i ([], [])).2 && (i == 0 || Zec (l.getD (i - 1) ([], [])).1 (l.getD i ([], [])).1)
noncomputable def Zhk (l : List Nd) : Bool := (List.range l.length).all (Zpo l)
def Zwr (l : List Nd) (c : Nat) : List Nat := match l.find? fun p => decide (p.1 = [c]) with | some p => p.2 | none => [c]
def Zjw (l : List Nd) (t : List Nat) : List Nat := t.flatMap (Zwr l)
noncomputable def Zpr (l : List Nd) (c : Nat) : Option Ty := match l.find? fun p => decide (p.1 = [c]) with | some p => Zjh p.2 | none => none
noncomputable def subst (f : Nat → Option Ty) : Ty → Ty
  | .k c => (f c).getD (.k c)
  | .u c a => .u c (subst f a)
  | .w c a b => .w c (subst f a) (subst f b)
noncomputable def Zff (l : List Nd) (t : List Nat) : Option (List Nat) := if Zhk l && Zoj t && decide ((Zjw l t).length ≤ 60) then some (Zjw l t) else none
theorem Zws {l : List Nd} (h : Zhk l = true) {i : Nat} (hi : i < l.length) : Zko l[i].1 = true ∧ Zoj l[i].2 = true ∧ (i = 0 ∨ Zec (l.getD (i - 1) ([], [])).1 l[i].1 = true) := by
  unfold Zhk at h
  rw [List.all_eq_true] at h
  have := h i (List.mem_range.2 hi)
  unfold Zpo at this
  rw [Zfi hi] at this
  simp only [Bool.and_eq_true, Bool.or_eq_true, beq_iff_eq] at this
  exact ⟨this.1.1, this.1.2, this.2⟩
theorem Zqu {l : List Nd} (h : Zhk l = true) {p : Nd} (hp : p ∈ l) : Zko p.1 = true ∧ Zoj p.2 = true := by
  obtain ⟨i, hi, rfl⟩ := List.getElem_of_mem hp
  exact ⟨(Zws h hi).1, (Zws h hi).2.1⟩
theorem Ztg {l : List Nd} (h : Zhk l = true) {c : Nat} (hc : Zdj c = false) : Zwr l c = [c] ∧ Zpr l c = none := by
  have : l.find? (fun p => decide (p.1 = [c])) = none := by
    rw [List.find?_eq_none]
    intro p hp e
    have := (Zqu h hp).1
    rw [of_decide_eq_true e] at this
    simp [Zko, hc] at this
  unfold Zwr Zpr
  rw [this]; exact ⟨rfl, rfl⟩
theorem Zub {l : List Nd} (h : Zhk l = true) (c : Nat) : Zwr l c = ((Zpr l c).getD (.k c)).txt ∧ ∀ t, Zpr l c = some t → t.ok = true ∧ t.txt.length ≤ 60 := by
  unfold Zwr Zpr
  cases hf : l.find? (fun p => decide (p.1 = [c])) with
  | none => exact ⟨rfl, fun t ht => by cases ht⟩
  | some p =>
    have hp := List.mem_of_find?_eq_some hf
    obtain ⟨t, ht⟩ := Zso (Zqu h hp).2
    obtain ⟨h1, h2, h3⟩ := Zfs.1 ht
    simp only [ht]
    refine ⟨by simpa using h2, fun u hu => ?_⟩
    cases hu
    exact ⟨h1, by rw [← h2]; exact h3⟩
theorem Zma {l : List Nd} (h : Zhk l = true) {c : Nat} (hc : Ybp c = true) : Zwr l c = [c] := by
  refine (Ztg h ?_).1
  simp only [Ybp, Bool.or_eq_true, beq_iff_eq] at hc
  rcases hc with (rfl | rfl) | rfl <;> rfl
theorem Ypl {c : Nat} {a : Ty} (h : (Ty.u c a).ok = true) : Zdj c = false := by
  cases hv : Zdj c with
  | false => rfl
  | true => have := Zpl h hv; cases this
theorem Yql {c : Nat} {a b : Ty} (h : (Ty.w c a b).ok = true) : Zdj c = false := by
  cases hv : Zdj c with
  | false => rfl
  | true => have := Zpl h hv; cases this
theorem Zoc {l : List Nd} (h : Zhk l = true) : ∀ {t : Ty}, t.ok = true → Zjw l t.txt = (subst (Zpr l) t).txt ∧ (subst (Zpr l) t).ok = true
  | .k c, ht => by
    have := Zub h c
    simp only [Zjw, Ty.txt, List.flatMap_cons, List.flatMap_nil, List.append_nil, subst]
    refine ⟨this.1, ?_⟩
    cases hb : Zpr l c with
    | none => exact ht
    | some t => exact (this.2 t hb).1
  | .u c a, ht => by
    have hv := Ypl ht
    have hh := ht
    simp only [Ty.ok, Bool.and_eq_true] at ht
    have ih := Zoc h ht.2
    simp only [Zjw] at ih
    simp only [Zjw, Ty.txt, List.flatMap_cons, List.flatMap_append, List.flatMap_nil, List.append_nil, subst, (Ztg h hv).1, Zma h Ty.m40, Zma h Ty.m41, ih.1, List.cons_append, List.nil_append]
    refine ⟨by trivial, ?_⟩
    simp only [Ty.ok, Bool.and_eq_true]; exact ⟨ht.1, ih.2⟩
  | .w c a b, ht => by
    have hv := Yql ht
    simp only [Ty.ok, Bool.and_eq_true] at ht
    have ih := Zoc h ht.1.2
    have ih2 := Zoc h ht.2
    simp only [Zjw] at ih ih2
    simp only [Zjw, Ty.txt, List.flatMap_cons, List.flatMap_append, List.flatMap_nil, List.append_nil, subst, (Ztg h hv).1, Zma h Ty.m40, Zma h Ty.m41, Zma h Ty.m44, ih.1, ih2.1, List.cons_append, List.nil_append]
    refine ⟨by trivial, ?_⟩
    simp only [Ty.ok, Bool.and_eq_true]; exact ⟨⟨ht.1.1, ih.2⟩, ih2.2⟩
theorem Zww (a b : Nat) : Zec [a] [b] = decide (a < b) := by
  simp [Zec]
theorem Yho {m : Bd} (b : BOk 60 m) : Zhk (bdL m) = true := by
  rw [Yfc]
  generalize hvs : (Zfn.filter fun v => (Zhr m v).isSome) = vs
  have hs : vs.Pairwise (· < ·) := by rw [← hvs]; exact Zum.filter _
  have hm : ∀ v ∈ vs, Zdj v = true ∧ ∃ t, Zhr m v = some t := by
    intro v hv
    rw [← hvs, List.mem_filter] at hv
    exact ⟨(Zpq v).1 hv.1, Option.isSome_iff_exists.1 hv.2⟩
  unfold Zhk
  rw [List.all_eq_true]
  intro i hi
  rw [List.mem_range, List.length_map] at hi
  unfold Zpo
  rw [Zfi (by simpa using hi), List.getElem_map]
  obtain ⟨h1, t, h2⟩ := hm _ (List.getElem_mem hi)
  have h3 := b.var _ (Zqt h2)
  simp only [h2, Option.getD_some, Zko, h1, Bool.true_and, Bool.and_eq_true, Bool.or_eq_true, beq_iff_eq]
  refine ⟨Zth.2 ⟨t, h3.2.1, rfl, h3.2.2⟩, ?_⟩
  cases i with
  | zero => exact .inl rfl
  | succ j =>
    right
    rw [Nat.add_sub_cancel, Zfi (by simp; omega), List.getElem_map, Zww]
    exact decide_eq_true (List.pairwise_iff_getElem.1 hs j (j + 1) (by omega) hi (by omega))
noncomputable def Zho (i : Ins) (t : List Nat) : Option (List Nd) :=
  match Zkf i.1.2 t with
  | none => none
  | some m => if i.2.all fun n => (Zff (bdL m) n.2).isSome then some (i.2.map fun n => (n.1, Zjw (bdL m) n.2)) else none
end Go.Sim

set_option linter.unusedVariables false
set_option linter.unusedSimpArgs false
set_option maxRecDepth 20000
namespace Go.Sim
open Go Go.RowKit

theorem Zyr {k : Nat} (h0 : 0 < k) (hn : k ≤ 9223372036854775807) : IntKind.wrap .i64 ((k : Int) - 1) = ((k - 1 : Nat) : Int) := by rw [IntWalk.i64_in _ (by omega)]; omega
theorem Zvb {h : Zaa} {a : Pt} {n c : Nat} {e : Bool} {l : List Nd} (r : Row h.length h a (n * 2) (Zeg eP l)) (hn : n ≤ 1048576) :
    Zag pg Zif [.slice a n c e] h fun v h' => v = .bool (Zhk l) ∧ Zbd h.length h h' := by
  have hl : l.length = n := by have := r.1; rw [Zbb Zdd] at this; omega
  apply Zdx.call
  refine Zdx.L2ind _ _ _ _ _ _ _ _ _ _ (J := fun (g : Nat) x7 h' => x7 = (g : Int) ∧ g ≤ n ∧ Zbd h.length h h' ∧ (List.range g).all (Zpo l) = true) (fun g => n - g) ?_ 0 _ _ ⟨rfl, by omega, Zbd.refl _ _, rfl⟩
  rintro g x7 h' ⟨rfl, hg, hS, hk⟩ R hR
  unfold Zdx.L2t
  refine Zar (fun hlt => ?_) (fun hge => ?_)
  · obtain ⟨i, o, hgl, rfl, hi, hr, _, _⟩ := (r.same hS).pr (k := g) (by omega)
    have hat : Zpo l g = (Zko l[g].1 && Zoj l[g].2 && (g == 0 || Zec (l.getD (g - 1) ([], [])).1 l[g].1)) := by unfold Zpo; rw [Zfi hgl]
    have no : Zpo l g = false → Zhk l = false := fun hno => Zkg hgl hno
    simp only [Zau, Int.toNat_natCast, hr, Zas, Zah, Zan, Zai, Zax]
    rw [Zhm]
    generalize hq : h' ++ [Zcg.cells Zbh [.str l[g].1, .str l[g].2] false] = hq'
    have sq : Zbd h'.length h' hq' := by rw [← hq]; exact Zam
    have oq : hq'[h'.length]? = some (.cells Zbh [.str l[g].1, .str l[g].2] false) := by rw [← hq]; simp
    simp only [Zba, Zak oq, Nat.zero_add, List.getElem?_cons_succ, List.getElem?_cons_zero, Zai]
    refine ⟨by omega, (Zzh l[g].1).mono ?_⟩
    rintro v h2 ⟨rfl, rfl⟩
    have Sq := hS.cat sq
    simp only [Zap, true_and]
    refine Zbp (fun b1 => ⟨by rw [no (by rw [hat, b1]; rfl)], Sq⟩) (fun b1 => ?_)
    simp only [Zak oq, List.getElem?_cons_succ, List.getElem?_cons_zero, Zai]
    refine (Zlg l[g].2 h2).mono ?_
    rintro v h3 ⟨rfl, s3⟩
    simp only [Zap]
    have S3 := Sq.cat s3
    refine Zbp (fun b2 => ⟨by rw [no (by rw [hat, b1, b2]; rfl)], S3⟩) (fun b2 => ?_)
    have go : (g = 0 ∨ Zec (l.getD (g - 1) ([], [])).1 l[g].1 = true) → Zdx.J6 (fun v h' => v = .bool (Zhk l) ∧ Zbd h.length h h') R (g : Int) (((n : Nat) : Int)) (some (i, o)) n c e (some (i, o)) n c e h3 := by
      intro hz
      apply Zdx.J6i
      rw [Zbt (by omega)]
      refine hR (g + 1) _ _ (by omega) ⟨rfl, by omega, S3, Zhd hk ?_⟩
      rw [hat, b1, b2]
      rcases hz with rfl | hz
      · rfl
      · rw [hz]; simp
    refine Zar (fun hpos => ?_) (fun hz => go (.inl (by omega)))
    have hg0 : 0 < g := by omega
    obtain ⟨i', o', hgl', he, _, _, hc', _⟩ := (r.same S3).pr (k := g - 1) (by omega)
    cases he
    rw [Zyr hg0 (by omega)]
    simp only [Zau, Int.toNat_natCast, Nat.add_zero, hc', Zak (s3.get oq (Own.lt oq)), List.getElem?_cons_zero, Zai, true_and]
    have hgd : l.getD (g - 1) ([], []) = l[g - 1] := Zfi hgl'
    refine ⟨by omega, Zbp (fun b3 => ⟨by rw [no (by rw [hat, b1, b2, hgd, b3]; simp; omega)], S3⟩) (fun b3 => go (.inr (by rw [hgd]; exact b3)))⟩
  · apply Zdx.A2x0i
    have : g = n := by omega
    subst this
    exact ⟨by unfold Zhk; rw [hl, hk], hS⟩
theorem Yrx {s : List Nat} {g : Nat} (hg : g < s.length) : sub s (g : Int) (((g + 1 : Nat) : Int)) = [s[g]] := by
  unfold sub
  rw [Int.toNat_natCast, Int.toNat_natCast, List.take_succ_eq_append_getElem hg, List.drop_append_of_le_length (by simp; omega), List.drop_of_length_le (by simp; omega)]; rfl
theorem Ybv {l : List Nd} (h : Zhk l = true) (c : Nat) : (Zwr l c).length ≤ 60 := by
  obtain ⟨h1, h2⟩ := Zub h c
  rw [h1]
  cases hb : Zpr l c with
  | none => simp [Ty.txt]
  | some t => exact (h2 t hb).2
theorem Zua {l : List Nd} (h : Zhk l = true) : ∀ (t : List Nat), (Zjw l t).length ≤ 60 * t.length
  | [] => by simp [Zjw]
  | c :: t => by
    have h1 := Ybv h c
    have h2 := Zua h t
    simp only [Zjw, List.flatMap_cons, List.length_append, List.length_cons] at h2 ⊢
    omega
theorem Ydw {l : List Nd} {t : List Nat} {g : Nat} (hg : g < t.length) : Zjw l (t.take (g + 1)) = Zjw l (t.take g) ++ Zwr l t[g] := by
  unfold Zjw; rw [List.take_succ_eq_append_getElem hg, List.flatMap_append]; simp
noncomputable def Zmq (l : List Nd) (t : List Nat) : Zaq := match Zff l t with | some u => .tup [.str u, .bool true] | none => .tup [.str [], .bool false]
theorem Zuw {h : Zaa} {a : Pt} {n c : Nat} {e : Bool} {l : List Nd} {t : List Nat} (r : Row h.length h a (n * 2) (Zeg eP l)) (hn : n ≤ 1048576) :
    Zag pg Zig [.slice a n c e, .str t] h fun v h' => v = Zmq l t ∧ Zbd h.length h h' := by
  have hl : l.length = n := by have := r.1; rw [Zbb Zdd] at this; omega
  apply Zcw.call
  refine (Zvb r hn).mono ?_
  rintro v h1 ⟨rfl, s1⟩
  simp only [Zap]
  refine Zbp (fun b1 => ⟨by unfold Zmq Zff; rw [b1]; rfl, s1⟩) (fun b1 => ?_)
  refine (Zlg t h1).mono ?_
  rintro v h2 ⟨rfl, s2⟩
  simp only [Zap]
  have S2 := s1.cat s2
  refine Zbp (fun b2 => ⟨by unfold Zmq Zff; rw [b1, b2]; rfl, S2⟩) (fun b2 => ?_)
  have ht60 := Zyz b2
  apply Zcw.J3i
  refine Zcw.L5ind _ _ _ _ _ _ _ (J := fun (g : Nat) x6 x21 h' => x21 = (g : Int) ∧ g ≤ t.length ∧ Zbd h.length h h' ∧ x6 = Zjw l (t.take g)) (fun g => t.length - g) ?_ 0 _ _ _ ⟨rfl, by omega, S2, by simp [Zjw]⟩
  rintro g x6 x21 h' ⟨rfl, hg, hS, rfl⟩ R hR
  unfold Zcw.L5t
  refine Zar (fun hlt => ?_) (fun hge => ?_)
  · have hgt : g < t.length := by omega
    rw [Zbt (by omega), Yrx hgt]
    refine ⟨⟨by omega, by omega, by omega⟩, ?_⟩
    have hal := Zua b1 (t.take g)
    rw [List.length_take] at hal
    have fin : ∀ (h3 : Zaa) (x8 : List Nat), Zbd h.length h h3 → x8 = Zwr l t[g] → Zcw.A9x2 (fun v h' => v = Zmq l t ∧ Zbd h.length h h') R (Zjw l (t.take g)) x8 (g : Int) (((t.length : Nat) : Int)) t a n c e h3 := by
      intro h3 x8 s3 hx
      apply Zcw.A9x2i
      have := Ybv b1 t[g]
      rw [hx, Zbt (by omega)]
      exact ⟨by omega, hR (g + 1) _ _ _ (by omega) ⟨rfl, by omega, s3, (Ydw hgt).symm⟩⟩
    refine Zcw.L9ind _ _ _ _ _ _ _ _ _ _ _ _ _ _ _ (J := fun (q : Nat) x8 x31 h3 => x31 = (q : Int) ∧ q ≤ n ∧ Zbd h.length h h3 ∧ x8 = [t[g]] ∧ (l.take q).find? (fun p => decide (p.1 = [t[g]])) = none) (fun q => n - q) ?_ 0 _ _ _ ⟨rfl, by omega, hS, rfl, rfl⟩
    rintro q x8 x31 h3 ⟨rfl, hq, hS3, rfl, hf⟩ R9 hR9
    unfold Zcw.L9t
    refine Zar (fun hlt3 => ?_) (fun hge3 => ?_)
    · obtain ⟨i, o, hql, rfl, hi, hr, _, _⟩ := (r.same hS3).pr (k := q) (by omega)
      simp only [Zau, Int.toNat_natCast, hr, Zas, Zah, Zan, Zai, Zax]
      rw [Zhm]
      have sq : Zbd h3.length h3 (h3 ++ [Zcg.cells Zbh [.str l[q].1, .str l[q].2] false]) := Zam
      simp only [Zba, Zez, Nat.zero_add, List.getElem?_cons_succ, List.getElem?_cons_zero, Zai]
      refine ⟨by omega, Zar (fun he => ?_) (fun he => ?_)⟩
      · refine fin _ _ (hS3.cat sq) ?_
        unfold Zwr
        rw [Ygl hql hf (by simp [he])]
      · rw [Zbt (by omega)]
        exact hR9 (q + 1) _ _ _ (by omega) ⟨rfl, by omega, hS3.cat sq, rfl, Zxc hql hf (by simp [he])⟩
    · have : q = n := by omega
      subst this
      rw [List.take_of_length_le (by omega)] at hf
      exact fin _ _ hS3 (by unfold Zwr; rw [hf])
  · apply Zcw.A5x0i
    have : g = t.length := by omega
    subst this
    rw [List.take_length]
    refine Zar (fun hbig => ⟨?_, hS⟩) (fun hsm => ⟨?_, hS⟩)
    · unfold Zmq Zff
      rw [if_neg (by simp; omega)]
    · unfold Zmq Zff
      rw [if_pos (by rw [b1, b2]; simp; omega)]
def Yly (i : Ins) (t : List Nat) (h : Zaa) (v : Zaq) (h' : Zaa) : Prop := Zbd h.length h h' ∧ ∃ a n c e, v = .tup [.slice a n c e, .bool (Zho i t).isSome] ∧ Zeb Zab eP h.length h' a n ((Zho i t).getD [])
theorem Ycj : pg.underlying Zbm = some (.slice Zab) := by kernel_rfl
theorem Yli : pg.cellsOf Zab = 2 := by kernel_rfl
theorem Ykh : pg.okElem Zab = true := by kernel_rfl
theorem Ykv : pg.bytesOf Zab ≤ 127 := Nat.le_of_ble_eq_true (by kernel_rfl)
noncomputable def Yoy (l : List Nd) (n : Nd) : Nd := (n.1, (Zff l n.2).getD [])
theorem Yff {l : List Nd} {ns : List Nd} (h : ns.all (fun n => (Zff l n.2).isSome) = true) : ns.map (Yoy l) = ns.map fun n => (n.1, Zjw l n.2) := by
  apply List.map_congr_left
  intro n hn
  have := List.all_eq_true.1 h n hn
  obtain ⟨u, hu⟩ := Option.isSome_iff_exists.1 this
  unfold Yoy
  rw [hu]
  unfold Zff at hu
  split at hu
  · cases hu; rfl
  · cases hu
theorem Yne {h : Zaa} {a : Pt} {n c : Nat} {e : Bool} {i : Ins} {t : List Nat} (r : Row h.length h a (n * 2) (Zeg eP i.2)) (hn : n ≤ 1048576) :
    Zag pg Zhq [.agg [.str i.1.1, .str i.1.2, .slice a n c e], .str t] h (Yly i t h) := by
  have hl : i.2.length = n := by have := r.1; rw [Zbb Zdd] at this; omega
  apply Zdh.call
  simp only [Zax]
  generalize hh0 : h ++ [Zcg.cells Zao [.str i.1.1, .str i.1.2, .slice a n c e] false] = h0
  have s0 : Zbd h.length h h0 := by rw [← hh0]; exact Zam
  have o0 : h0[h.length]? = some (.cells Zao [.str i.1.1, .str i.1.2, .slice a n c e] false) := by rw [← hh0]; simp
  simp only [Zak o0, Nat.zero_add, List.getElem?_cons_succ, List.getElem?_cons_zero, Zai]
  refine (Zuo i.1.2 t h0).mono ?_
  rintro v h1 ⟨s1, ma, mn, mc, me, rfl, hmc, fm⟩
  simp only [Zde, Zah, Zaj, Zap, Zan]
  generalize hh2 : h1 ++ [Zcg.cells Zab [] false] = h2
  have s2 : Zbd h1.length h1 h2 := by rw [← hh2]; exact Zam
  have o2 : h2[h1.length]? = some (.cells Zab [] false) := by rw [← hh2]; simp
  have S2 := (s0.cat s1).cat s2
  have hml : (Zjv i.1.2 t).length ≤ 6 := by unfold Zjv; split <;> first | exact Yke _ | simp
  have hmn := fm.1
  have x2 := s2.get (s1.get o0 (Own.lt o0)) (by have := Own.lt o0; have := s1.le; omega)
  simp only [Zak x2, List.getElem?_cons_succ, List.getElem?_cons_zero, Zaj]
  have hS1le : h.length ≤ h1.length := (s0.cat s1).le
  generalize hml' : Zjv i.1.2 t = ml at *
  refine Zdh.L4ind _ _ _ _ _ _ _ _ _ _ (J := fun (g : Nat) x7 a8 n8 c8 e8 x25 h' => x25 = (g : Int) ∧ g ≤ n ∧ Zbd h.length h h' ∧ h1.length < h'.length ∧ Row h'.length h' ma (mn * 2) (Zeg eP ml) ∧ x7 = (Zpj i.1.2 t && (i.2.take g).all fun p => (Zff ml p.2).isSome) ∧ n8 = g ∧ Vec Zab h' a8 n8 c8 (Zeg eP ((i.2.take g).map (Yoy ml))) ∧ (∀ j, a8 = some (j, 0) → h1.length ≤ j)) (fun g => n - g) ?_ 0 _ _ _ _ _ _ _
    ⟨rfl, by omega, S2, Own.lt o2, (fm.row Zdd).same' s2, by simp, rfl, Vec.mk1 (by simpa using o2), fun j hj => by cases hj; omega⟩
  rintro g x7 a8 n8 c8 e8 x25 h' ⟨rfl, hg, hS, hlt1, hrm, rfl, rfl, hv, ha⟩ R hR
  unfold Zdh.L4t
  refine Zar (fun hlt => ?_) (fun hge => ?_)
  · obtain ⟨j, o, hgl, rfl, hj, hr, _, _⟩ := (r.same hS).pr (k := n8) (by omega)
    simp only [Zau, Int.toNat_natCast, hr, Zas, Zah, Zan, Zai, Zax]
    rw [Zhm]
    generalize hq : h' ++ [Zcg.cells Zab [.str i.2[n8].1, .str i.2[n8].2] false] = hq'
    have sq : Zbd h'.length h' hq' := by rw [← hq]; exact Zam
    have oq : hq'[h'.length]? = some (.cells Zab [.str i.2[n8].1, .str i.2[n8].2] false) := by rw [← hq]; simp
    simp only [Zba, Zak oq, Nat.zero_add, List.getElem?_cons_succ, List.getElem?_cons_zero, Zai]
    refine ⟨by omega, (Zuw (hrm.same' sq) (by omega)).mono ?_⟩
    rintro v h3 ⟨rfl, s3⟩
    have hshape : Zmq ml i.2[n8].2 = .tup [.str ((Zff ml i.2[n8].2).getD []), .bool (Zff ml i.2[n8].2).isSome] := by
      unfold Zmq; cases Zff ml i.2[n8].2 <;> rfl
    rw [hshape]
    simp only [Zde, Zah, Zai, Zap, Zan]
    have S3 := (hS.cat sq).cat s3
    have o3 := s3.get oq (Own.lt oq)
    have tk : (i.2.take (n8 + 1)).all (fun p => (Zff ml p.2).isSome) = ((i.2.take n8).all (fun p => (Zff ml p.2).isSome) && (Zff ml i.2[n8].2).isSome) := by
      rw [List.take_succ_eq_append_getElem hgl, List.all_append]; simp
    have go : ∀ b9, b9 = (Zpj i.1.2 t && (i.2.take (n8 + 1)).all fun p => (Zff ml p.2).isSome) → Zdh.J8 (Yly i t h) R a8 n8 c8 e8 h'.length 0 ((Zff ml i.2[n8].2).getD []) (n8 : Int) (((n : Nat) : Int)) (some (j, o)) n c e ma mn mc me b9 h3 := by
      intro b9 hb9
      apply Zdh.J8i
      simp only [Zak o3, Nat.zero_add, List.getElem?_cons_zero, Zai, Zax]
      refine ((hv.same sq).same s3).pushN Ycj Yli Ykh Ykv (by rw [Zbb Zdd]; simp; omega) rfl (by omega) rfl (by omega) (fun h6 hl6 hi6 hk6 => ?_)
      simp only [Zaj]
      apply Zdh.J9i
      rw [Zbt (by omega)]
      have hle := S3.le
      refine hR (n8 + 1) _ _ _ _ _ _ _ (by omega) ⟨rfl, by omega, ⟨by omega, fun j hj => ?_⟩, by have := sq.le; have := s3.le; omega, ?_, hb9, rfl, Vec.mk1 ?_, fun j hj => by cases hj; have := sq.le; have := s3.le; omega⟩
      · rw [hk6 j (by omega) fun q hq => by have := ha q hq; omega]; exact S3.eq j hj
      · have hr3 := (hrm.same' sq).same' s3
        obtain ⟨hx1, hx2⟩ := hr3
        rcases fm.2 with h0 | ⟨q2, hq2, _, hq3⟩
        · exact ⟨hx1, .inl (by omega)⟩
        · refine ⟨hx1, hx2.imp id ?_⟩
          rintro ⟨q, o', ty, all, ro, hqa, hqb, hqg, hq4, hq5⟩
          refine ⟨q, o', ty, all, ro, hqa, by omega, ?_, hq4, hq5⟩
          rw [hk6 q hqb fun q' hq' => ?_]
          · exact hqg
          · intro e
            subst e
            have h1l := ha q hq'
            rw [hqa] at hq2; cases hq2
            have := Own.lt hq3; omega
      · rw [hi6, List.take_succ_eq_append_getElem hgl, List.map_append, Zgt]; rfl
    refine Zdi (fun hb => go _ (by rw [tk, ← Bool.and_assoc, hb]; rfl)) (fun hb => go _ (by rw [tk, ← Bool.and_assoc, hb]; rfl))
  · apply Zdh.A4x0i
    have : n8 = n := by omega
    subst this
    rw [show i.2.take n8 = i.2 from List.take_of_length_le (by omega)] at hv ⊢
    have hnw : Zho i t = if Zpj i.1.2 t && i.2.all (fun p => (Zff ml p.2).isSome) then some (i.2.map (Yoy ml)) else none := by
      unfold Zho Zpj
      unfold Zjv at hml'
      cases hm : Zkf i.1.2 t with
      | none => rfl
      | some m =>
        rw [hm] at hml'
        simp only at hml'
        subst hml'
        simp only [Option.isSome_some, Bool.true_and]
        by_cases hall : i.2.all (fun p => (Zff (bdL m) p.2).isSome) = true
        · rw [if_pos hall, if_pos hall, Yff hall]
        · rw [if_neg hall, if_neg hall]
    refine Zbp (fun hb => ?_) (fun hb => ?_)
    · have : Zho i t = none := by rw [hnw, hb]; rfl
      exact ⟨hS, none, 0, 0, true, by rw [this]; rfl, by rw [this]; exact ⟨rfl, .inl rfl⟩⟩
    · have : Zho i t = some (i.2.map (Yoy ml)) := by rw [hnw, hb]; rfl
      refine ⟨hS, a8, n8, c8, e8, by rw [this]; rfl, ?_⟩
      rw [this]
      exact hv.fresh (b := h.length) (by simp; omega) fun j hj => by have := ha j hj; omega
end Go.Sim

set_option linter.unusedVariables false
set_option linter.unusedSimpArgs false
set_option maxRecDepth 20000
namespace Go.Sim
open Go Go.RowKit

def Ygk : List Nat := [88, 89, 90, 120, 121, 122, 49, 50, 51, 52, 53, 54]
theorem Zwy {v : Nat} (hv : Zdj v = true) : ∃ k : Nat, k < 6 ∧ Zfn[k]? = some v ∧ Ztj Ygk v = (k : Int) := by
  have := (Zpq v).2 hv
  simp only [Zfn, List.mem_cons, List.not_mem_nil, or_false] at this
  rcases this with rfl | rfl | rfl | rfl | rfl | rfl
  · exact ⟨0, by omega, rfl, rfl⟩
  · exact ⟨1, by omega, rfl, rfl⟩
  · exact ⟨2, by omega, rfl, rfl⟩
  · exact ⟨3, by omega, rfl, rfl⟩
  · exact ⟨4, by omega, rfl, rfl⟩
  · exact ⟨5, by omega, rfl, rfl⟩
theorem Zti {t : Ty} (h : t.ok = true) : t.hd ∈ [105, 98, 117, 108, 109, 112, 120, 121, 122, 88, 89, 90] := by
  have := Ty.ok_ar h
  unfold arN Zni Zdj at this
  simp only [Bool.or_eq_true, beq_iff_eq] at this
  simp only [List.mem_cons, List.not_mem_nil, or_false]
  split at this
  · omega
  · split at this
    · omega
    · split at this
      · omega
      · omega
theorem Ycw {t : Ty} (h : t.ok = true) (hv : Zdj t.hd = false) : Ztj Ygk t.hd = -1 := by
  apply Zwj
  have := Zti h
  simp only [List.mem_cons, List.not_mem_nil, or_false] at this
  rcases this with e | e | e | e | e | e | e | e | e | e | e | e <;> rw [e] at hv ⊢ <;> first | (exact absurd hv (by decide)) | decide
theorem Ztz {h : Zaa} (c : Nat) : Zag pg Zis [.int .u8 (c : Int)] h fun v h' => v = .int .i64 (Ztj Ygk c) ∧ h' = h := by
  apply Zrq.call
  refine (Zzz Ygk c (by decide)).mono ?_
  rintro v h1 ⟨rfl, rfl⟩
  simp only [Zav]
  exact ⟨by trivial, by trivial⟩
def eR (x : Zaq × Zaq) : List Zaq := [x.1, x.2]
theorem Zyn (x : Zaq × Zaq) : (eR x).length = 2 := rfl
theorem Yft {α : Type} {enc : α → List Zaq} {w : Nat} (hw : ∀ x, (enc x).length = w) : ∀ {l : List α} {k : Nat} {x : α}, k < l.length → putRow (Zeg enc l) (k * w) (enc x) = Zeg enc (l.set k x)
  | [], k, x, h => by simp at h
  | y :: l, 0, x, _ => by
    simp only [Nat.zero_mul, Zjs, List.set_cons_zero, putRow, List.take_zero, List.nil_append, Nat.zero_add, hw]
    rw [← hw y, List.drop_left]
  | y :: l, k + 1, x, h => by
    have ih := Yft hw (l := l) (k := k) (x := x) (by simpa using h)
    unfold putRow at ih ⊢
    simp only [Zjs, List.set_cons_succ]
    rw [← ih, Nat.succ_mul, Nat.add_comm (k * w) w, ← hw y, List.take_length_add_append, Nat.add_assoc, List.drop_length_add_append]; simp only [List.append_assoc]
def Zsv (S : Nat → Prop) (h : Zaa) (i : Nat) (m : Bd) : Prop := ∃ rows : List (Zaq × Zaq), rows.length = 12 ∧ h[i]? = some (.cells Zfl (Zeg eR rows) false) ∧
  ∀ (k : Nat) (x : Zaq × Zaq), rows[k]? = some x → match (Zfn[k]?).bind (Zhr m) with | some t => Zhv S h t (eR x) | none => x = (.int .u8 0, .slice none 0 0 true)
theorem Zsv.keep {S : Nat → Prop} {h h' : Zaa} {i : Nat} {m : Bd} (r : Zsv S h i m) (hi : h'[i]? = h[i]?) (hh : ∀ j, S j → j < h.length → h'[j]? = h[j]?) : Zsv S h' i m := by
  obtain ⟨rows, h1, h2, h3⟩ := r
  refine ⟨rows, h1, by rw [hi]; exact h2, fun k x hx => ?_⟩
  have := h3 k x hx
  split at this
  · exact this.keep hh
  · exact this
theorem Zsv.same {S : Nat → Prop} {h h' : Zaa} {i : Nat} {m : Bd} (r : Zsv S h i m) (s : Zbd h.length h h') : Zsv S h' i m := by
  have hl : i < h.length := by obtain ⟨_, _, h2, _⟩ := r; exact Own.lt h2
  exact r.keep (s.eq i hl) fun j _ hj => s.eq j hj
theorem Zsv.lt {S : Nat → Prop} {h : Zaa} {i : Nat} {m : Bd} (r : Zsv S h i m) : i < h.length := by obtain ⟨_, _, h2, _⟩ := r; exact Own.lt h2
theorem Zsv.nil {S : Nat → Prop} {h : Zaa} {i : Nat} (hi : h[i]? = some (.cells Zfl (Zeg eR (List.replicate 12 (.int .u8 0, .slice none 0 0 true))) false)) : Zsv S h i [] := by
  refine ⟨_, by simp, hi, fun k x hx => ?_⟩
  have : (Zfn[k]?).bind (Zhr []) = none := by cases Zfn[k]? <;> rfl
  rw [this]
  rw [List.getElem?_replicate] at hx
  split at hx
  · cases hx; rfl
  · cases hx
theorem Zsv.get {S : Nat → Prop} {h : Zaa} {i : Nat} {m : Bd} (r : Zsv S h i m) {k : Nat} (hk : k < 12) : ∃ x : Zaq × Zaq, Zae h (.ptr (some (i, 0 + k * 2 + 0))) = some x.1 ∧ Zaw h (.ptr (some (i, 0 + k * 2))) 2 = some [x.1, x.2] ∧
    match (Zfn[k]?).bind (Zhr m) with | some t => Zhv S h t [x.1, x.2] | none => x = (.int .u8 0, .slice none 0 0 true) := by
  obtain ⟨rows, h1, h2, h3⟩ := r
  have hrow : Row h.length h (some (i, 0)) (12 * 2) (Zeg eR rows) := ⟨by rw [Zbb Zyn, h1], .inr ⟨i, 0, _, _, _, rfl, Own.lt h2, h2, by rw [Zbb Zyn, h1]; simp, by rw [List.drop_zero, List.take_of_length_le (by rw [Zbb Zyn, h1]; simp)]⟩⟩
  obtain ⟨i', o', hk', he, _, hr, hc⟩ := Row.el Zyn hrow h1 hk (by omega)
  cases he
  exact ⟨rows[k], by have := hc 0 (by omega); simpa [eR] using this, hr, h3 k _ (List.getElem?_eq_getElem hk')⟩
theorem Zsv.put {S : Nat → Prop} {h : Zaa} {i : Nat} {m : Bd} (r : Zsv S h i m) (hSi : ∀ j, S j → j ≠ i) {k v : Nat} (hk : Zfn[k]? = some v) (hg : Zhr m v = none) {t : Ty} {x y : Zaq} (ht : Zhv S h t [x, y]) :
    ∃ h', Zbc h (.ptr (some (i, 0 + k * 2))) [x, y] = some h' ∧ Zlb i h h' ∧ Zsv S h' i (m ++ [(v, t)]) := by
  obtain ⟨rows, h1, h2, h3⟩ := r
  have hk6 : k < 6 := (List.getElem?_eq_some_iff.1 hk).1
  have hput : putRow (Zeg eR rows) (k * 2) (eR (x, y)) = Zeg eR (rows.set k (x, y)) := Yft Zyn (by omega)
  refine ⟨h.set i (.cells Zfl (Zeg eR (rows.set k (x, y))) false), ?_, Zlb.set _ _ _, ?_⟩
  · rw [Nat.zero_add, Zbv h2 (by rw [Zbb Zyn, h1]; simp; omega), ← hput]; rfl
  · have hkeep : ∀ j, S j → j < h.length → (h.set i (.cells Zfl (Zeg eR (rows.set k (x, y))) false))[j]? = h[j]? := fun j hj _ => Zcv (fun e => hSi j hj e.symm)
    refine ⟨_, by simp [h1], Zdq h2, fun k' x' hx' => ?_⟩
    by_cases e : k = k'
    · subst e
      rw [List.getElem?_set_self (by omega)] at hx'
      cases hx'
      rw [hk]
      simp only [Option.bind_some, Ygd, hg, if_true]
      exact ht.keep hkeep
    · rw [List.getElem?_set_ne e] at hx'
      have := h3 k' x' hx'
      have hb : (Zfn[k']?).bind (Zhr (m ++ [(v, t)])) = (Zfn[k']?).bind (Zhr m) := by
        cases hv' : Zfn[k']? with
        | none => rfl
        | some w =>
          simp only [Option.bind_some, Ygd]
          cases hb : Zhr m w with
          | some u => rfl
          | none =>
            have : ¬ v = w := fun e' => by
              subst e'
              have h5 := List.getElem?_eq_some_iff.1 hk
              have h6 := List.getElem?_eq_some_iff.1 hv'
              exact e ((List.getElem_inj (h₀ := h5.1) (h₁ := h6.1) Zsb).1 (h5.2.trans h6.2.symm))
            simp [this]
      rw [hb]
      split at this
      · exact this.keep hkeep
      · exact this
def Ytb (S : Nat → Prop) (h : Zaa) (i : Nat) (r : Option Bd) (v : Zaq) (h' : Zaa) : Prop := Zlb i h h' ∧ (match r with | some m' => v = .bool true ∧ Zsv S h' i m' | none => v = .bool false)
theorem Zlb.of_same {i : Nat} {h h' : Zaa} (s : Zbd h.length h h') : Zlb i h h' := ⟨s.le, fun j hj _ => s.eq j hj⟩
theorem Zyu : ∀ (N : Nat) {a t : Ty} {S : Nat → Prop} {h : Zaa} {va vt : List Zaq} {i n : Nat} {m : Bd}, a.size ≤ N → a.ok = true → t.ok = true → n ≤ 1048576 → t.txt.length ≤ n → BOk n m → (∀ j, S j → j ≠ i) → Zhv S h a va → Zhv S h t vt → Zsv S h i m →
    Zag pg Zla [.ptr (some (i, 0)), .agg va, .agg vt] h (Ytb S h i (matchT m a t))
  | 0, a, t, S, h, va, vt, i, n, m, hN, _, _, _, _, _, _, _, _, _ => by have := a.size_ps; omega
  | N + 1, a, t, S, h, va, vt, i, n, m, hN, ha, ht, hB, hn, bo, hSi, ra, rt, rm => by
    have hcase := Ybz (m := m) ha ht
    obtain ⟨aa, ca, ea, vas, rfl, rowa, hSa, hval, hva⟩ := id ra.parts
    obtain ⟨at', ct, et, vts, rfl, rowt, hSt, hvtl, hvt⟩ := id rt.parts
    have hps2 : a.ps.length ≤ 2 := by cases a <;> simp [Ty.ps]
    have hil := rm.lt
    apply Zim.call
    simp only [Zax]
    generalize hh0 : h ++ [Zcg.cells Zaf [.int .u8 (a.hd : Int), .slice aa a.ps.length ca ea] false] = h0
    generalize hh1 : h0 ++ [Zcg.cells Zaf [.int .u8 (t.hd : Int), .slice at' t.ps.length ct et] false] = h1
    have s0 : Zbd h.length h h0 := by rw [← hh0]; exact Zam
    have s1 : Zbd h0.length h0 h1 := by rw [← hh1]; exact Zam
    have o0 : h0[h.length]? = some (.cells Zaf [.int .u8 (a.hd : Int), .slice aa a.ps.length ca ea] false) := by rw [← hh0]; simp
    have oa := s1.get o0 (Own.lt o0)
    have ot : h1[h0.length]? = some (.cells Zaf [.int .u8 (t.hd : Int), .slice at' t.ps.length ct et] false) := by rw [← hh1]; simp
    have S1 := s0.cat s1
    have l0 : h0.length = h.length + 1 := by rw [← hh0]; simp
    have l1 : h1.length = h.length + 2 := by rw [← hh1]; simp [l0]
    simp only [Zak oa, Nat.zero_add, List.getElem?_cons_succ, List.getElem?_cons_zero, Zav]
    refine (Ztz a.hd).mono ?_
    rintro v h2 ⟨rfl, rfl⟩
    have rm1 := rm.same S1
    have K1 : Zlb i h h2 := Zlb.of_same S1
    simp only [Zav, Zau]
    cases hv : Zdj a.hd with
    | true =>
      rw [hv] at hcase
      simp only [if_true] at hcase
      obtain ⟨k, hk6, hkv, hix⟩ := Zwy hv
      rw [hix]
      obtain ⟨x, hx1, hx2, hx3⟩ := rm1.get (k := k) (by omega)
      rw [hkv, Option.bind_some] at hx3
      have hge : decide ((k : Int) ≥ 0) = true := by simp
      simp only [hge, Zcu, Int.toNat_natCast, hx1, hx2, Zds ot (show 0 + 2 ≤ _ by simp), List.drop_zero, List.take_succ_cons, List.take_zero, Zas, Zah, Zan, Zav, Zaj]
      refine ⟨by omega, ?_⟩
      cases hg : Zhr m a.hd with
      | none =>
        rw [hg] at hx3
        simp only at hx3
        subst hx3
        have hbn : Zox m a.hd t = some (m ++ [(a.hd, t)]) := by unfold Zox; rw [hg]
        rw [hcase, hbn]
        simp only [Zav, show ((0 : Int) == 0) = true from rfl, Zcu]
        obtain ⟨h', hst, hK, hr'⟩ := rm1.put hSi hkv hg (rt.same S1)
        rw [hst]
        simp only [Zba]
        exact ⟨by omega, K1.trans hK, rfl, hr'⟩
      | some u =>
        rw [hg] at hx3
        simp only at hx3
        have hu := bo.var _ (Zqt hg)
        obtain ⟨ux, uc, ue, hux⟩ := hx3.shape
        simp only [List.cons.injEq, and_true] at hux
        obtain ⟨hux1, hux2⟩ := hux
        rw [hux1, hux2] at hx2 hx3
        rw [hux1, hux2]
        simp only [Zav, Zaj]
        have hu0 : (((u.hd : Nat) : Int) == 0) = false := by
          have := Zti hu.2.1
          have hne : u.hd ≠ 0 := fun e => by rw [e] at this; simp at this
          simp; omega
        simp only [hu0, Zbn]
        have rt1 := rt.same S1
        refine ⟨by omega, (Zqe _ (Nat.le_refl _) (by omega) hu.2.1 hx3).mono ?_⟩
        rintro v h3 ⟨rfl, s3⟩
        have ot3 := s3.get ot (Own.lt ot)
        have rt3 := rt1.same s3
        simp only [Zai, Zds ot3 (show 0 + 2 ≤ _ by simp), List.drop_zero, List.take_succ_cons, List.take_zero, true_and]
        refine (Zqe _ (Nat.le_refl _) (by omega) ht rt3).mono ?_
        rintro v h4 ⟨rfl, s4⟩
        simp only [Zai]
        have hri : ∀ hx, Zbd h2.length h2 hx → Zaw hx (.ptr (some (i, 0 + k * 2))) 2 = Zaw h2 (.ptr (some (i, 0 + k * 2))) 2 := fun hx sx => by
          simp only [Zaw, sx.eq i (by omega)]
        rw [hri _ (s3.cat s4), hri _ s3]
        refine ⟨by trivial, ?_⟩
        have K4 : Zlb i h h4 := K1.trans (Zlb.of_same (s3.cat s4))
        by_cases he : u = t
        · subst he
          have hbn : Zox m a.hd u = some m := by unfold Zox; rw [hg]; simp
          rw [hcase, hbn]
          exact ⟨K4, by simp, (rm1.same (s3.cat s4))⟩
        · have hne : ¬ u.txt = t.txt := fun e => he (Ty.txt_inj' hu.2.1 ht e)
          have hbn : Zox m a.hd t = none := by unfold Zox; rw [hg]; simp [he]
          rw [hcase, hbn]
          exact ⟨K4, by simp [hne]⟩
    | false =>
      rw [hv] at hcase
      simp only [Bool.false_eq_true, if_false] at hcase
      rw [Ycw ha hv]
      have hge : decide ((-1 : Int) ≥ 0) = false := by decide
      simp only [hge, Zbn, Zak ot, Zak oa, List.getElem?_cons_succ, List.getElem?_cons_zero, Zav, Zaj]
      refine Zhw (fun hne => ?_) (fun he => ?_)
      · rw [if_neg (fun e => hne (by rw [e]))] at hcase
        rw [hcase]
        exact ⟨K1, rfl⟩
      · have he' : a.hd = t.hd := by omega
        rw [if_pos he'] at hcase
        rw [hcase]
        have hlen := Yfh ha ht he'
        refine Zim.L10ind _ _ _ _ _ _ _ (J := fun (g : Nat) x43 h' => x43 = (g : Int) ∧ g ≤ a.ps.length ∧ Zlb i h2 h' ∧ ∃ m1, matchL m (a.ps.take g) (t.ps.take g) = some m1 ∧ Zsv S h' i m1) (fun g => a.ps.length - g) ?_ 0 _ _ ⟨rfl, by omega, Zlb.refl _ _, m, by simp [matchL], rm1⟩
        rintro g x43 h' ⟨rfl, hg, hK, m1, hm1, rm1⟩ R hR
        unfold Zim.L10t
        have KK := K1.trans hK
        refine Zar (fun hlt => ?_) (fun hge => ?_)
        · have hga : g < a.ps.length := by omega
          have hgt : g < t.ps.length := by omega
          have oa1 : h'[h.length]? = some (.cells Zaf [.int .u8 (a.hd : Int), .slice aa a.ps.length ca ea] false) := by rw [hK.eq _ (Own.lt oa) (by omega)]; exact oa
          have ot1 : h'[h0.length]? = some (.cells Zaf [.int .u8 (t.hd : Int), .slice at' t.ps.length ct et] false) := by rw [hK.eq _ (Own.lt ot) (by omega)]; exact ot
          obtain ⟨ja, ofa, a3, c3, e3, rfl, hra, hka⟩ := Zhv.get (rowa.keepAt (i := i) (fun j o h0 e => hSi j (hSa j o (by omega) e)) KK) hval (fun k w x h1 h2 => (hva k w x h1 h2).keep fun j hj hl => KK.eq j hl (hSi j hj)) hga
          obtain ⟨jt, oft, a4, c4, e4, rfl, hrt, hkt⟩ := Zhv.get (rowt.keepAt (i := i) (fun j o h0 e => hSi j (hSt j o (by omega) e)) KK) hvtl (fun k w x h1 h2 => (hvt k w x h1 h2).keep fun j hj hl => KK.eq j hl (hSi j hj)) hgt
          simp only [Zau, Int.toNat_natCast, Zak oa1, Zak ot1, hra, hrt, Nat.zero_add, List.getElem?_cons_succ, List.getElem?_cons_zero, Zaj, Zas, Zah, Zan, Zav, true_and]
          have hma := List.getElem_mem hga
          have hmt := List.getElem_mem hgt
          have h1 := Ty.size_part hma
          have h2 := Ty.len_part hmt
          have bo1 : BOk n m1 := BOk.matchL (fun x hx => Ty.ok_ps ha x (List.mem_of_mem_take hx)) (fun x hx => ⟨Ty.ok_ps ht x (List.mem_of_mem_take hx), by have := Ty.len_part (List.mem_of_mem_take hx); omega⟩) bo hm1
          have htk := Zsd a.ps t.ps m g hga hgt
          rw [hm1] at htk
          simp only at htk
          refine ⟨by omega, by omega, (Zyu N (by omega) (Ty.ok_ps ha _ hma) (Ty.ok_ps ht _ hmt) hB (by omega) bo1 hSi hka hkt rm1).mono ?_⟩
          rintro v h3 ⟨K3, hres⟩
          have oa3 : h3[h.length]? = some (.cells Zaf [.int .u8 (a.hd : Int), .slice (some (ja, ofa)) a.ps.length ca ea] false) := by rw [K3.eq _ (Own.lt oa1) (by omega)]; exact oa1
          cases hmm : matchT m1 a.ps[g] t.ps[g] with
          | none =>
            rw [hmm] at hres htk
            subst hres
            simp only [Zap, Bool.not_false, Zcu, Zak oa3, List.getElem?_cons_succ, List.getElem?_cons_zero, true_and]
            rw [Zrw a.ps t.ps m (g + 1) hlen htk]
            exact ⟨KK.trans K3, rfl⟩
          | some m2 =>
            rw [hmm] at hres htk
            obtain ⟨rfl, rm2⟩ := hres
            simp only [Zap, Bool.not_true, Zbn, Zak oa3, List.getElem?_cons_succ, List.getElem?_cons_zero, true_and]
            rw [Zbt (by omega)]
            exact hR (g + 1) _ _ (by omega) ⟨rfl, by omega, hK.trans K3, m2, htk, rm2⟩
        · apply Zim.A10x0i
          have : g = a.ps.length := by omega
          subst this
          rw [List.take_length, hlen, List.take_length] at hm1
          rw [hm1]
          exact ⟨KK, rfl, rm1⟩
end Go.Sim

set_option linter.unusedVariables false
set_option linter.unusedSimpArgs false
set_option maxRecDepth 20000
namespace Go.Sim
open Go Go.RowKit

theorem Zrz : ∀ (N : Nat) {S : Nat → Prop} {h : Zaa} {t : Ty} {v : List Zaq}, t.size ≤ N → t.txt.length ≤ 1048576 → Zhv S h t v → Zag pg Zhf [.agg v] h fun x h' => x = .int .i64 (t.txt.length : Nat) ∧ Zbd h.length h h'
  | 0, S, h, t, v, hN, _, _ => by have := t.size_ps; omega
  | N + 1, S, h, t, v, hN, hB, r => by
    obtain ⟨a, c, e, vs, rfl, hrow, hS, hvl, hp⟩ := r.parts
    have hps2 : t.ps.length ≤ 2 := by cases t <;> simp [Ty.ps]
    have htx := t.txt_mids
    have hln := congrArg List.length htx
    rw [List.length_append, List.length_cons] at hln
    apply Zfp.call
    simp only [Zax, Zez, Nat.zero_add, List.getElem?_cons_succ, List.getElem?_cons_zero, Zaj]
    generalize hh0 : h ++ [Zcg.cells Zaf [.int .u8 (t.hd : Int), .slice a t.ps.length c e] false] = h0
    have s0 : Zbd h.length h h0 := by rw [← hh0]; exact Zam
    have o0 : h0[h.length]? = some (.cells Zaf [.int .u8 (t.hd : Int), .slice a t.ps.length c e] false) := by rw [← hh0]; simp
    refine Zfp.L3ind _ _ _ _ _ _ _ _ (J := fun (g : Nat) x3 x9 h' => x9 = (g : Int) ∧ g ≤ t.ps.length ∧ Zbd h.length h h' ∧ Zbd h0.length h0 h' ∧ x3 = ((1 + (Zoi 0 (t.ps.take g)).length : Nat) : Int)) (fun g => t.ps.length - g) ?_ 0 _ _ _ ⟨rfl, by omega, s0, Zbd.refl _ _, by simp [Zoi]⟩
    rintro g x3 x9 h' ⟨rfl, hg, hSm, hS1, rfl⟩ R hR
    unfold Zfp.L3t
    have o2 := hS1.get o0 (Own.lt o0)
    refine Zar (fun hlt => ?_) (fun hge => ?_)
    · have hg' : g < t.ps.length := by omega
      obtain ⟨i, o, a2, c2, e2, rfl, hr, hk⟩ := Zhv.get (hrow.same' hSm) hvl (fun k w x h1 h2 => (hp k w x h1 h2).same hSm) hg'
      simp only [Zau, Int.toNat_natCast, hr, Zas, Zah, Zan, Zav, Zaj, Zax]
      rw [Zhm]
      simp only [Zba]
      rw [Ymt]
      simp only [Zas, Zah, Zan, Zav, Zaj]
      have hm := List.getElem_mem hg'
      have h1 := Ty.size_part hm
      have h2 := Ty.len_part hm
      have hmt := Ztl t.ps 0 g hg'
      have hml : (Zoi 0 (t.ps.take (g + 1))).length ≤ (Zoi 0 t.ps).length := Zxj _ _ _
      have hmtl := congrArg List.length hmt
      simp only [List.length_append, List.length_cons, Nat.zero_add] at hmtl
      have s2 : Zbd h'.length h' (h' ++ [.cells Zaf [.int .u8 (t.ps[g].hd : Int), .slice a2 t.ps[g].ps.length c2 e2] false]) := Zam
      refine ⟨by omega, (Zrz N (by omega) (by omega) (hk.same s2)).mono ?_⟩
      rintro x h3 ⟨rfl, s3⟩
      simp only [Zav]
      rw [Zbt (by omega), Zbt (by omega), IntWalk.i64_in _ (by omega)]
      exact hR (g + 1) _ _ _ (by omega) ⟨rfl, by omega, (hSm.cat s2).cat s3, (hS1.cat s2).cat s3, by omega⟩
    · apply Zfp.A3x0i
      have : g = t.ps.length := by omega
      subst this
      simp only [Zak o2, Nat.zero_add, List.getElem?_cons_succ, List.getElem?_cons_zero, Zaj]
      rw [List.take_length]
      refine Zar (fun hpos => ?_) (fun hneg => ?_)
      · have hne : t.ps ≠ [] := fun e => by rw [e] at hpos; simp at hpos
        rw [if_neg hne] at hln
        apply Zfp.J9i
        simp only [List.length_cons, List.length_nil] at hln
        rw [Zbt (by omega)]
        exact ⟨by congr 1; omega, hSm⟩
      · have hne : t.ps = [] := List.eq_nil_of_length_eq_zero (by omega)
        rw [if_pos hne] at hln
        simp only [List.length_nil] at hln
        apply Zfp.J9i
        exact ⟨by congr 1; omega, hSm⟩
def Ydc (m : Bd) (g : Nat) : List Nd := (Zfn.take g).filterMap fun v => (Zhr m v).map fun t => ([v], t.txt)
theorem Yju (m : Bd) (g : Nat) : Ydc m (g + 1) = Ydc m g ++ (match Zfn[g]? with | some v => (match Zhr m v with | some t => [([v], t.txt)] | none => []) | none => []) := by
  unfold Ydc
  rw [List.take_succ, List.filterMap_append]
  cases Zfn[g]? with
  | none => simp
  | some v => cases hb : Zhr m v <;> simp [hb]
theorem Ynv (m : Bd) (g : Nat) : (Ydc m g).length ≤ 6 := by
  unfold Ydc
  refine Nat.le_trans (List.length_filterMap_le _ _) ?_
  rw [List.length_take]; exact Nat.le_trans (Nat.min_le_right _ _) (by decide)
theorem Ynn {g v : Nat} (hv : Zfn[g]? = some v) : sub [88, 89, 90, 120, 121, 122, 49, 50, 51, 52, 53, 54] (g : Int) ((g : Int) + 1) = [v] := by
  have hg : g < 6 := (List.getElem?_eq_some_iff.1 hv).1
  match g, hg with
  | 0, _ | 1, _ | 2, _ | 3, _ | 4, _ | 5, _ => simp [Zfn] at hv; subst hv; rfl
theorem Yjp {S : Nat → Prop} {h : Zaa} {i : Nat} {m : Bd} (rm : Zsv S h i m) (bo : BOk 60 m) :
    Zag pg Zoo [.ptr (some (i, 0))] h fun v h' => Zbd h.length h h' ∧ ∃ a n c e, v = .tup [.slice a n c e, .bool true] ∧ n ≤ c ∧ Zeb Zbh eP h.length h' a n (bdL m) := by
  apply Zfg.call
  simp only [Zax, Zau]
  generalize hh0 : h ++ [Zcg.cells Zbh [] false] = h0
  have s0 : Zbd h.length h h0 := by rw [← hh0]; exact Zam
  have l0 : h0.length = h.length + 1 := by rw [← hh0]; simp
  have o0 : h0[h.length]? = some (.cells Zbh [] false) := by rw [← hh0]; simp
  refine Zfg.L3ind _ _ (J := fun (g : Nat) a4 n4 c4 e4 x10 h' => x10 = (g : Int) ∧ g ≤ 12 ∧ Zbd h.length h h' ∧ n4 = (Ydc m g).length ∧ n4 ≤ c4 ∧ Vec Zbh h' a4 n4 c4 (Zeg eP (Ydc m g)) ∧ (∀ i, a4 = some (i, 0) → h.length ≤ i)) (fun g => 12 - g) ?_ 0 _ _ _ _ _ _
    ⟨rfl, by omega, s0, by simp [Ydc], Nat.le_refl _, Vec.mk1 (by simpa [Ydc] using o0), fun i hi => by cases hi; omega⟩
  rintro g a4 n4 c4 e4 x10 h' ⟨rfl, hg, hSm, rfl, hnc, hv, ha⟩ R hR
  unfold Zfg.L3t
  have hbl := Ynv m g
  refine Zar (fun hlt => ?_) (fun hge => ?_)
  · have hg' : g < 12 := by omega
    obtain ⟨x, hx1, hx2, hx3⟩ := (rm.same hSm).get hg'
    have il := (rm.same hSm).lt
    have hx : ∃ (d : Nat) (a : Pt) (n c : Nat) (e : Bool), x = (.int .u8 (d : Int), .slice a n c e) ∧ (match (Zfn[g]?).bind (Zhr m) with | some t => d = t.hd | none => d = 0) := by
      split at hx3
      · rename_i t ht
        obtain ⟨ua, uc, ue, hu⟩ := hx3.shape
        simp only [List.cons.injEq, and_true] at hu
        exact ⟨t.hd, ua, t.ps.length, uc, ue, by rw [← hu.1, ← hu.2], by first | rfl | rw [ht]⟩
      · rename_i hn; exact ⟨0, none, 0, 0, true, hx3, by first | rfl | rw [hn]⟩
    obtain ⟨d, ua, un, uc, ue, rfl, hd⟩ := hx
    simp only [Int.toNat_natCast, hx2, Zau, Zas, Zah, Zan, Zav, Zaj, Zax]
    generalize hq : h' ++ [Zcg.cells Zaf [.int .u8 0, .slice none 0 0 true] false] = hq'
    have sq : Zbd h'.length h' hq' := by rw [← hq]; exact Zam
    have hrq : Zaw hq' (.ptr (some (i, 0 + g * 2))) 2 = some [.int .u8 (d : Int), .slice ua un uc ue] := by
      rw [← hx2]; simp only [Zaw, sq.eq i il]
    rw [hrq, ← hq, Zhm]
    generalize hw : h' ++ [Zcg.cells Zaf [.int .u8 (d : Int), .slice ua un uc ue] false] = hw'
    have sw : Zbd h'.length h' hw' := by rw [← hw]; exact Zam
    have ow : hw'[h'.length]? = some (.cells Zaf [.int .u8 (d : Int), .slice ua un uc ue] false) := by rw [← hw]; simp
    simp only [Zba, Zak ow, Nat.zero_add, List.getElem?_cons_zero, Zav, true_and]
    have SW := hSm.cat sw
    have hsuc := Yju m g
    have skip : (Zfn[g]?).bind (Zhr m) = none → Zfg.J9 (fun v h' => Zbd h.length h h' ∧ ∃ a n c e, v = .tup [.slice a n c e, .bool true] ∧ n ≤ c ∧ Zeb Zbh eP h.length h' a n (bdL m)) R (g : Int) (some (i, 0)) a4 (Ydc m g).length c4 e4 hw' := by
      intro hn
      have hsame : Ydc m (g + 1) = Ydc m g := by
        rw [hsuc]
        cases hvg : Zfn[g]? with
        | none => simp
        | some v => rw [hvg, Option.bind_some] at hn; simp [hn]
      apply Zfg.J9i
      rw [Zbt (by omega)]
      exact hR (g + 1) _ _ _ _ _ _ (by omega) ⟨rfl, by omega, SW, by rw [hsame], hnc, by rw [hsame]; exact hv.same sw, ha⟩
    refine ⟨by omega, ?_⟩
    cases hb : (Zfn[g]?).bind (Zhr m) with
    | none =>
      rw [hb] at hd
      simp only at hd
      subst hd
      simp only [show (((0 : Nat) : Int) == 0) = true from rfl, Zcu]
      exact skip hb
    | some t =>
      rw [hb] at hd hx3
      simp only at hd hx3
      obtain ⟨v, hvg, hbv⟩ := Option.bind_eq_some_iff.1 hb
      have hu := bo.var _ (Zqt hbv)
      have hg6 : g < 6 := (List.getElem?_eq_some_iff.1 hvg).1
      have hd0 : ((d : Int) == 0) = false := by
        have := Zti hu.2.1
        have hne : t.hd ≠ 0 := fun e => by rw [e] at this; simp at this
        simp; omega
      rw [show decide ((g : Int) ≥ 6) = false by simp; omega]
      simp only [hd0, Zbn]
      apply Zfg.J6i
      rw [← hw, Ymt, hw]
      simp only [Zas, Zah, Zan, Zav, Zaj]
      have hu2 : t.txt.length ≤ 60 := hu.2.2
      refine (Zrz _ (Nat.le_refl _) (by omega) (hx3.same sw)).mono ?_
      rintro v' h3 ⟨rfl, s3⟩
      have o3 := s3.get ow (Own.lt ow)
      simp only [Zav]
      rw [show decide (((t.txt.length : Nat) : Int) > 60) = false by simp; omega]
      simp only [Zbn, Zds o3 (show 0 + 2 ≤ _ by simp), List.drop_zero, List.take_succ_cons, List.take_zero, Zas, Zah, Zan, Zav, Zaj]
      rw [Zbt (by omega), show (((g + 1 : Nat) : Int)) = (g : Int) + 1 by omega, Ynn hvg]
      refine ⟨⟨by omega, by omega, by simp; omega⟩, (Zqe _ (Nat.le_refl _) (by omega) hu.2.1 ((hx3.same sw).same s3)).mono ?_⟩
      rintro v' h4 ⟨rfl, s4⟩
      simp only [Zai, Zax]
      have S4 := (SW.cat s3).cat s4
      refine (((hv.same sw).same s3).same s4).pushN Zxf Yba Yaw Yca (by rw [Zbb Zdd]) rfl (by omega) rfl (by omega) (fun h6 hl6 hi6 hk6 => ?_)
      simp only [Zaj]
      apply Zfg.J9i
      rw [Zbt (by omega)]
      have hle := S4.le
      have hs' : Ydc m (g + 1) = Ydc m g ++ [([v], t.txt)] := by rw [hsuc, hvg]; simp [hbv]
      refine hR (g + 1) _ _ _ _ _ _ (by omega) ⟨rfl, by omega, ⟨by omega, fun j hj => ?_⟩, by rw [hs']; simp, Nat.le_refl _, Vec.mk1 ?_, fun i hi => by cases hi; omega⟩
      · rw [hk6 j (by omega) fun i hi => by have := ha i hi; omega]; exact S4.eq j hj
      · rw [hi6, hs', Zgt]; rfl
  · apply Zfg.A3x0i
    have : g = 12 := by omega
    subst this
    have hb12 : Ydc m 12 = bdL m := by unfold Ydc bdL; rw [List.take_of_length_le (by decide)]
    rw [hb12] at hv hnc ⊢
    exact ⟨hSm, _, _, _, _, rfl, hnc, hv.fresh (b := h.length) rfl fun i hi => ha i hi⟩
theorem Yiy : Zeg eR (List.replicate 12 (Zaq.int .u8 0, Zaq.slice none 0 0 true)) = [.int .u8 0, .slice none 0 0 true, .int .u8 0, .slice none 0 0 true, .int .u8 0, .slice none 0 0 true, .int .u8 0, .slice none 0 0 true, .int .u8 0, .slice none 0 0 true, .int .u8 0, .slice none 0 0 true, .int .u8 0, .slice none 0 0 true, .int .u8 0, .slice none 0 0 true, .int .u8 0, .slice none 0 0 true, .int .u8 0, .slice none 0 0 true, .int .u8 0, .slice none 0 0 true, .int .u8 0, .slice none 0 0 true] := rfl
theorem Zqm {h h' : Zaa} {s : List Nat} {vs : List Zaq} (hm : match Zjh s with | some t => Zhv (Btw h.length h'.length) h' t vs | none => vs = [.int .u8 0, .slice none 0 0 true]) : ∃ (d : Int) (a : Pt) (n c : Nat) (e : Bool), vs = [.int .u8 d, .slice a n c e] := by
  split at hm
  · obtain ⟨a, c, e, rfl⟩ := hm.shape; exact ⟨_, _, _, _, _, rfl⟩
  · exact ⟨_, _, _, _, _, hm⟩
theorem Ztb (p s : List Nat) (hp0 : p.length ≤ 1048576) (hs0 : s.length ≤ 1048576) (h : Zaa) : Zag pg Ziz [.str p, .str s] h (Ygg p s h) := by
  apply Zll.call
  refine (Zpy p (by omega) h).mono ?_
  rintro v h1 ⟨s1, vs1, rfl, r1⟩
  obtain ⟨d1, a1, n1, c1, e1, rfl⟩ := Zqm r1
  simp only [Zde, Zah, Zdp, Zav, Zaj, Zan, Zap, Zax]
  rw [Zhm]
  generalize hh2 : h1 ++ [Zcg.cells Zaf [.int .u8 d1, .slice a1 n1 c1 e1] false] = h2
  have s2 : Zbd h1.length h1 h2 := by rw [← hh2]; exact Zam
  have o2 : h2[h1.length]? = some (.cells Zaf [.int .u8 d1, .slice a1 n1 c1 e1] false) := by rw [← hh2]; simp
  simp only [Zba]
  refine (Zpy s (by omega) h2).mono ?_
  rintro v h3 ⟨s3, vs3, rfl, r3⟩
  obtain ⟨d3, a3, n3, c3, e3, rfl⟩ := Zqm r3
  simp only [Zde, Zah, Zdp, Zav, Zaj, Zan, Zap]
  rw [Zhm]
  generalize hh4 : h3 ++ [Zcg.cells Zaf [.int .u8 d3, .slice a3 n3 c3 e3] false] = h4
  have s4 : Zbd h3.length h3 h4 := by rw [← hh4]; exact Zam
  have o4 : h4[h3.length]? = some (.cells Zaf [.int .u8 d3, .slice a3 n3 c3 e3] false) := by rw [← hh4]; simp
  simp only [Zba]
  rw [← Yiy]
  generalize hh5 : h4 ++ [Zcg.cells Zfl (Zeg eR (List.replicate 12 (Zaq.int .u8 0, Zaq.slice none 0 0 true))) false] = h5
  have s5 : Zbd h4.length h4 h5 := by rw [← hh5]; exact Zam
  have o5 : h5[h4.length]? = some (.cells Zfl (Zeg eR (List.replicate 12 (Zaq.int .u8 0, Zaq.slice none 0 0 true))) false) := by rw [← hh5]; simp
  have x2 : h5[h1.length]? = some (.cells Zaf [.int .u8 d1, .slice a1 n1 c1 e1] false) := s5.get (s4.get (s3.get o2 (Own.lt o2)) (by have := Own.lt o2; have := s3.le; omega)) (by have := Own.lt o2; have := s3.le; have := s4.le; omega)
  have x4 := s5.get o4 (Own.lt o4)
  have S2 := s1.cat s2
  have S5 := (((S2.cat s3).cat s4).cat s5)
  have no : Zkf p s = none → ∀ hz, Zbd h.length h hz → Ygg p s h (.tup [.slice (some (hz.length, 0)) 0 0 true, .bool false]) (hz ++ [Zcg.cells Zbh [] false]) := fun hn hz sz =>
    ⟨sz.cat Zam, _, 0, 0, true, by unfold Zpj; rw [hn]; rfl, Nat.le_refl _, by unfold Zjv; rw [hn]; exact ⟨rfl, .inl rfl⟩⟩
  cases hp : Zjh p with
  | none =>
    have : Zoj p = false := by unfold Zoj; rw [hp]; rfl
    rw [this]
    simp only [Bool.not_false, Zcu]
    exact no (by unfold Zkf; rw [hp]) _ S5
  | some a =>
    rw [Ylo hp]
    simp only [Bool.not_true, Zbn]
    cases ht : Zjh s with
    | none =>
      have : Zoj s = false := by unfold Zoj; rw [ht]; rfl
      rw [this]
      simp only [Bool.not_false, Zcu]
      exact no (by unfold Zkf; rw [hp, ht]) _ S5
    | some t =>
      rw [Ylo ht]
      rw [hp] at r1
      rw [ht] at r3
      simp only at r1 r3
      simp only [Bool.not_true, Zbn, Zds x2 (show 0 + 2 ≤ _ by simp), Zds x4 (show 0 + 2 ≤ _ by simp), List.drop_zero, List.take_succ_cons, List.take_zero, Zas, Zah, Zan, Zav, Zaj]
      obtain ⟨ha1, ha2, ha3⟩ := Zfs.1 hp
      obtain ⟨ht1, ht2, ht3⟩ := Zfs.1 ht
      have hms : Zkf p s = matchT [] a t := by unfold Zkf; rw [hp, ht]
      have l3 := s3.le; have l4 := s4.le; have l2 := s2.le
      have R1 := ((((r1.same s2).same s3).same s4).same s5).mono (S' := fun j => j ≠ h4.length) (fun j hj => by have := hj.2; omega)
      have R3 := ((r3.same s4).same s5).mono (S' := fun j => j ≠ h4.length) (fun j hj => by have := hj.2; omega)
      refine (Zyu _ (Nat.le_refl _) ha1 ht1 (n := 60) (by omega) (by rw [← ht2]; exact ht3) BOk.nil (fun j hj => hj) R1 R3 (Zsv.nil o5)).mono ?_
      rintro v h6 ⟨K6, hres⟩
      have l5 := S5.le
      have lh4 : h.length ≤ h4.length := (((S2.cat s3).cat s4)).le
      have S6 : Zbd h.length h h6 := ⟨by have := K6.le; omega, fun j hj => by rw [K6.eq j (by omega) (by omega)]; exact S5.eq j hj⟩
      cases hm : matchT [] a t with
      | none =>
        rw [hm] at hres hms
        subst hres
        simp only [Zap, Bool.not_false, Zcu]
        exact no hms _ S6
      | some m =>
        rw [hm] at hres hms
        obtain ⟨rfl, rm6⟩ := hres
        simp only [Zap, Bool.not_true, Zbn]
        apply Zll.J6i
        refine (Yjp rm6 (Zxh hms)).mono ?_
        rintro v h7 ⟨s7, a7, n7, c7, e7, rfl, hc7, f7⟩
        simp only [Zde, Zah, Zaj, Zap, Zan]
        refine ⟨S6.cat s7, a7, n7, c7, e7, by unfold Zpj; rw [hms]; rfl, hc7, ?_⟩
        unfold Zjv; rw [hms]
        exact ⟨f7.1, f7.2.imp id fun ⟨i, ha, hb, hi⟩ => ⟨i, ha, by have := S6.le; omega, hi⟩⟩
theorem Zrd (p s : List Nat) (hp0 : p.length ≤ 1048576) (hs0 : s.length ≤ 1048576) (h : Zaa) : Zag pg Zia [.str p, .str s] h fun v h' => v = .bool (Zpj p s) ∧ Zbd h.length h h' := by
  apply Znw.call
  refine (Ztb p s hp0 hs0 h).mono ?_
  rintro v h1 ⟨s1, a, n, c, e, rfl, _⟩
  simp only [Zde, Zah, Zaj, Zap, Zan]
  exact ⟨by trivial, s1⟩
end Go.Sim
