/- A part of the proof of a statement of this seat: see the text that holds the theorem. No condition. -/
import Derived.Test.YtlljbdepamknoaaGreatDoorNm
import Derived.Test.YtlljbdepamknoaaGreatDoorCSSrch
import Derived.Test.YtlljbdepamknoaaGreatDoorPTCSApply2
import Derived.Test.YtlljbdepamknoaaGreatDoorPMatch
set_option linter.unusedVariables false
set_option linter.unusedSimpArgs false
set_option linter.all false
set_option linter.unusedVariables false
set_option linter.unusedSimpArgs false
set_option maxRecDepth 20000
namespace Go.Sim
open Go Go.RowKit

def Ynm (f : Nat) (hb : Zaa) (a0 a1 : Pt) (n0 c0 n1 c1 : Nat) (e0 e1 : Bool) (w : Wd) (sp : Bool) : Prop := ∀ {h : Zaa} {i : Nat} {qa : Pt} {asked st : List Nd} {n : Nd} {d : Nat}, Ztk hb i (.slice a0 n0 c0 e0) (.slice a1 n1 c1 e1) sp h qa asked st [] → asked.length ≤ 300 → Zfk w n = true → d + f = 31 → d ≤ st.length →
      Zag pg Zfd [.ptr (some (i, 0)), .agg [.str n.1, .str n.2], .int .i64 (d : Int)] h (Yox hb i (.slice a0 n0 c0 e0) (.slice a1 n1 c1 e1) sp d h qa (Zow (wk w) sp Zpw f asked n))
theorem Yox.of {hb : Zaa} {i : Nat} {u v : Zaq} {sp : Bool} {d : Nat} {h h0 : Zaa} {qa qa0 : Pt} {r : Fnd × List Nd} {x : Zaq} {h' : Zaa} (F : FrS i qa0 h0 h qa) (q : Yox hb i u v sp d h qa r x h') : Yox hb i u v sp d h0 qa0 r x h' := by
  obtain ⟨e, qa', st', a, f, z⟩ := q
  exact ⟨e, qa', st', a, F.trans f, z⟩
theorem Ync {g : Nat} (h : g < 3) : sub [40, 44, 44] (g : Int) ((g + 1 : Nat) : Int) = [Ykr g] := by
  match g, h with
  | 0, _ => rfl
  | 1, _ => rfl
  | 2, _ => rfl
theorem Yme {hb : Zaa} {a0 a1 : Pt} {n0 c0 n1 c1 : Nat} {e0 e1 : Bool} {w : Wd} (r : Zlx hb a0 n0 c0 a1 n1 c1 w) (b : WB w) (hw : Zdw w = true) (sp : Bool) (f : Nat)
    (ih : ∀ f', f = f' + 1 → Ynm f' hb a0 a1 n0 c0 n1 c1 e0 e1 w sp) {h hX : Zaa} {i p1 : Nat} {qa : Pt} {asked st st' : List Nd} {n : Nd} {d qs cs : Nat} {es : Bool} (rd : Ztk hb i (.slice a0 n0 c0 e0) (.slice a1 n1 c1 e1) sp hX qa asked st []) (FX : FrS i qa h hX qa)
    (hal : asked.length ≤ 300) (hnd : Zfk w n = true) (hf : d + f = 31) (hstl : st'.length = d + 1) (hlast : st'.getLast? = some n) (hrow : Row hX.length hX (some (qs, 0)) ((d + 1) * 2) (Zeg eP st')) (hqi : qs ≠ i) (hqq : ∀ q, qa = some (q, 0) → qs ≠ q) (hcs : d + 1 ≤ cs)
    (hp1 : hX[p1]? = some (.cells Zab [.str n.1, .str n.2] false)) (hpi : p1 ≠ i) (hpq : ∀ q, qa = some (q, 0) → p1 ≠ q) :
    Zqr (Yox hb i (.slice a0 n0 c0 e0) (.slice a1 n1 c1 e1) sp d h qa (Zow (wk w) sp Zpw f asked n)) (some (i, 0)) (d : Int) p1 hX (some (qs, 0)) (d + 1) cs es := by
  unfold Zqr
  have hty := Zys hnd
  have hl10 := Zvx hw
  have hl1 := r.len1
  obtain ⟨qn, qc, qe, sa, sn, sc, se, ho, hv, hr, hsc, hdj⟩ := rd.ob
  have hlow := rd.low
  have hil := rd.lt
  have hnv := hv.len
  simp only [Zau]
  rw [Zbv ho (by simp)]
  simp only [Zba, putRow, Nat.zero_add, List.take_succ_cons, List.take_zero, List.length_cons, List.length_nil, List.drop_succ_cons, List.drop_zero, List.drop_nil, List.cons_append, List.nil_append, List.append_nil]
  have rd1 : Ztk hb i (.slice a0 n0 c0 e0) (.slice a1 n1 c1 e1) sp (hX.set i (.cells Zcp [.slice a0 n0 c0 e0, .slice a1 n1 c1 e1, .bool sp, .slice qa qn qc qe, .slice (some (qs, 0)) (d + 1) cs es, .str []] false)) qa asked st' [] :=
    Ztk.write rd.same rd.ge ho hv rd.ne hrow hcs fun j o hn ha => by cases ha; exact ⟨hqi, hqq⟩
  have F1 : FrS i qa h (hX.set i (.cells Zcp [.slice a0 n0 c0 e0, .slice a1 n1 c1 e1, .bool sp, .slice qa qn qc qe, .slice (some (qs, 0)) (d + 1) cs es, .str []] false)) qa := FX.trans FrS.set
  have o1 : (hX.set i (.cells Zcp [.slice a0 n0 c0 e0, .slice a1 n1 c1 e1, .bool sp, .slice qa qn qc qe, .slice (some (qs, 0)) (d + 1) cs es, .str []] false))[i]? = _ := Zdq ho
  have p1' : (hX.set i (.cells Zcp [.slice a0 n0 c0 e0, .slice a1 n1 c1 e1, .bool sp, .slice qa qn qc qe, .slice (some (qs, 0)) (d + 1) cs es, .str []] false))[p1]? = some (.cells Zab [.str n.1, .str n.2] false) := by rw [Zcv hpi.symm]; exact hp1
  generalize hX.set i (.cells Zcp [.slice a0 n0 c0 e0, .slice a1 n1 c1 e1, .bool sp, .slice qa qn qc qe, .slice (some (qs, 0)) (d + 1) cs es, .str []] false) = h1 at rd1 F1 o1 p1' ⊢
  -- an end
  have bad : ∀ (y : List Nat) (h' : Zaa) (qa' : Pt) (asked' : List Nd), y ≠ [] → Ztk hb i (.slice a0 n0 c0 e0) (.slice a1 n1 c1 e1) sp h' qa' asked' st' [] → FrS i qa h h' qa' → Zow (wk w) sp Zpw f asked n = (.no y n, asked') →
      Zbw (Zbc h' (.ptr (some (i, 0 + 5))) [.str y]) fun h'' => Yox hb i (.slice a0 n0 c0 e0) (.slice a1 n1 c1 e1) sp d h qa (Zow (wk w) sp Zpw f asked n) (.str []) h'' := by
    intro y h' qa' asked' hy rd' F' he
    refine rd'.reason y fun h'' rd'' F'' => ?_
    rw [he]
    exact ⟨rfl, qa', st', rd'', F'.trans F'', by omega, fun s hs => (by cases hs), fun y' m hm => by cases hm; exact ⟨hy, hlast⟩⟩
  simp only [Zak o1, List.getElem?_cons_succ, List.getElem?_cons_zero, Zaj]
  refine Zar (fun h300 => bad Ynp h1 qa asked (by decide) rd1 F1 (Yah (by omega))) (fun h300 => ?_)
  have h300' : ¬ 300 ≤ asked.length := by omega
  have hv1 : Ylm hb.length h1 qa qn qc asked := by
    obtain ⟨qn', qc', qe', sa', sn', sc', se', ho', hv', _⟩ := rd1.ob
    rw [o1] at ho'
    simp only [Option.some.injEq, Zcg.cells.injEq, List.cons.injEq, Zaq.slice.injEq, true_and, and_true] at ho'
    obtain ⟨⟨rfl, rfl, rfl⟩, _⟩ := ho'
    exact hv'
  have hrow1 : Row h1.length h1 (some (qs, 0)) ((d + 1) * 2) (Zeg eP st') := by
    obtain ⟨qn', qc', qe', sa', sn', sc', se', ho', _, hr', _⟩ := rd1.ob
    rw [o1] at ho'
    simp only [Option.some.injEq, Zcg.cells.injEq, List.cons.injEq, Zaq.slice.injEq, true_and, and_true] at ho'
    obtain ⟨_, rfl, rfl, rfl, rfl⟩ := ho'
    exact hr'
  have hlow1 := rd1.low
  have hil1 := rd1.lt
  have s2 : Zbd h1.length h1 (h1 ++ [Zcg.cells Zab [.str n.1, .str n.2] false]) := Zam
  simp only [Zay p1', Zas, Zah, Zan, Zai, Zax, true_and]
  refine ⟨by rw [Zak (s2.get o1 (Own.lt o1))]; rfl, ?_⟩
  refine hv1.vec.pushN Zjz Zqk Zpp Zqc (by rw [Zbb Zdd, hv1.len]) rfl (by omega) rfl (by omega) (fun h3 hl3 hi3 hk3 => ?_)
  have o3 : h3[i]? = some (.cells Zcp [.slice a0 n0 c0 e0, .slice a1 n1 c1 e1, .bool sp, .slice qa qn qc qe, .slice (some (qs, 0)) (d + 1) cs es, .str []] false) := by rw [hk3 i (Own.lt o1) fun q hq => (rd1.ne q hq).symm]; exact o1
  have p3 : h3[p1]? = some (.cells Zab [.str n.1, .str n.2] false) := by rw [hk3 p1 (Own.lt p1') hpq]; exact p1'
  have hqsl : qs < h1.length := by
    rcases hrow1.2 with h0 | ⟨j, o, t, all, ro, ha, hj, _⟩
    · omega
    · cases ha; exact hj
  simp only [Zaj]
  rw [Zbv o3 (by simp)]
  simp only [Zba, putRow, List.take_succ_cons, List.take_zero, List.length_cons, List.length_nil, List.drop_succ_cons, List.drop_zero, List.drop_nil, List.cons_append, List.nil_append, List.append_nil]
  have F3 : FrS i qa h1 h3 (some (h1.length + 1, 0)) := ⟨by omega, fun j hj hne hq => hk3 j hj hq, .inr fun q hq => by cases hq; omega⟩
  have rowl : Row h3.length h3 (some (qs, 0)) ((d + 1) * 2) (Zeg eP st') := F3.row hrow1 fun j o hn ha => by cases ha; exact ⟨hqi, hqq⟩
  have rd4 : Ztk hb i (.slice a0 n0 c0 e0) (.slice a1 n1 c1 e1) sp (h3.set i (.cells Zcp [.slice a0 n0 c0 e0, .slice a1 n1 c1 e1, .bool sp, .slice (some (h1.length + 1, 0)) (qn + 1) (qn + 1) false, .slice (some (qs, 0)) (d + 1) cs es, .str []] false)) (some (h1.length + 1, 0)) (asked ++ [n]) st' [] := by
    have hle := rd1.same.le
    refine Ztk.write ⟨by omega, fun j hj => ?_⟩ rd.ge o3 ⟨Vec.mk1 ?_, by rw [List.length_append, hnv]; rfl, fun q hq => by cases hq; omega⟩ (fun q hq => by cases hq; omega) rowl hcs (fun j o hn ha => by cases ha; exact ⟨hqi, fun q hq => by cases hq; omega⟩)
    · rw [hk3 j (by omega) fun q hq => by have := (hlow1 q hq).1; omega]; exact rd1.same.eq j hj
    · rw [hi3, Zgt]; rfl
  have F4 : FrS i qa h (h3.set i (.cells Zcp [.slice a0 n0 c0 e0, .slice a1 n1 c1 e1, .bool sp, .slice (some (h1.length + 1, 0)) (qn + 1) (qn + 1) false, .slice (some (qs, 0)) (d + 1) cs es, .str []] false)) (some (h1.length + 1, 0)) := (F1.trans F3).trans FrS.set
  have p4 : (h3.set i (.cells Zcp [.slice a0 n0 c0 e0, .slice a1 n1 c1 e1, .bool sp, .slice (some (h1.length + 1, 0)) (qn + 1) (qn + 1) false, .slice (some (qs, 0)) (d + 1) cs es, .str []] false))[p1]? = some (.cells Zab [.str n.1, .str n.2] false) := by rw [Zcv hpi.symm]; exact p3
  have hp1l := Own.lt p1'
  generalize h3.set i (.cells Zcp [.slice a0 n0 c0 e0, .slice a1 n1 c1 e1, .bool sp, .slice (some (h1.length + 1, 0)) (qn + 1) (qn + 1) false, .slice (some (qs, 0)) (d + 1) cs es, .str []] false) = h4 at rd4 F4 p4 ⊢
  refine Zar (fun hd => ?_) (fun hd => ?_)
  · have : f = 0 := by omega
    subst this
    exact bad Ymu h4 _ _ (by decide) rd4 F4 (Yab h300')
  obtain ⟨f', rfl⟩ : ∃ f', f = f' + 1 := ⟨f - 1, by omega⟩
  have ih := @ih f' rfl
  simp only [Zay p4, Zas, Zah, Zan, Zai]
  refine (Yij r b rd4 hw hnd).mono ?_
  rintro v h5 ⟨rfl, rd5, F5, hneg, hpos⟩
  have F5' := F4.trans F5
  simp only [Zav]
  refine Zar (fun hlt => ?_) (fun hge => ?_)
  · rw [if_pos hlt] at rd5
    rw [Zsq h300' hlt]
    exact ⟨rfl, _, st', rd5, F5', by omega, fun s hs => (by cases hs), fun y m hm => by cases hm; exact ⟨hneg hlt, hlast⟩⟩
  rw [if_neg hge] at rd5
  obtain ⟨k, hk, hkl⟩ := hpos hge
  have hqa4 : ∀ q, some (h1.length + 1, 0) = some (q, 0) → p1 ≠ q := fun q hq => by cases hq; omega
  have p5 := F5.get p4 hpi hqa4
  obtain ⟨qn5, qc5, qe5, sa5, sn5, sc5, se5, o5, v5, r5, hsc5, hd5⟩ := rd5.ob
  obtain ⟨ii, oi, hki, na, nn, ncp, ne, rfl, _, hri, _, _, _, hrw, hnl⟩ := (r.same rd5.same).inst (k := k) (by omega)
  have hbk := b.is _ (List.getElem_mem hkl)
  rw [hk]
  simp only [Zak p5, Zak o5, Nat.zero_add, List.getElem?_cons_succ, List.getElem?_cons_zero, Zeo, Zau, Zaj, Int.toNat_natCast, hri, Zas, Zah, Zan, Zai, true_and]
  refine ⟨by omega, ?_⟩
  refine (Ymf (i := w.is[k]) (t := n.2) hrw (by omega) (by omega) (by omega) (fun p hp => (hbk.2.2.2 p hp).2)).mono ?_
  rintro v h6 ⟨s6, ma, mn, mc, me, rfl, fm⟩
  have rd6 := rd5.step s6
  have F6 := F5'.trans (FrS.of_same s6)
  have p6 := s6.get p5 (Own.lt p5)
  have o6 := s6.get o5 (Own.lt o5)
  have hneeds : (wk w).needs (k : Int) n.2 = Zho w.is[k] n.2 := by show Zho (Zmn w (k : Int)) n.2 = _; rw [Zvj hkl]
  simp only [Zde, Zah, Zaj, Zap, Zan, Zak o6, List.getElem?_cons_succ, List.getElem?_cons_zero, true_and]
  refine Zbp (fun hok => ?_) (fun hok => ?_)
  · refine bad Ysl h6 _ _ (by decide) rd6 F6 (Yeq h300' hge ?_)
    rw [hk, hneeds]
    cases hh : Zho w.is[k] n.2 with
    | none => rfl
    | some _ => rw [hh] at hok; cases hok
  obtain ⟨ms, hms⟩ := Option.isSome_iff_exists.1 hok
  have hms3 := Ybb hw hkl hms
  rw [hms] at fm
  simp only [Option.getD_some] at fm
  have hmn := fm.1
  have hask := Ykd (k := wk w) (sp := sp) (dec := Zpw) (f := f') (n := n) (asked := asked) h300' hge (by rw [hk, hneeds]; exact hms)
  rw [hk] at hask
  have hask : Zow (wk w) sp Zpw (f' + 1) asked n = Ycy ms (Zfr w sp f' k asked n ms ms.length).1 := by rw [hask]; unfold Zfr; rw [List.take_length]
  refine (Yiw (by omega) (by omega)).mono ?_
  rintro v h7 ⟨rfl, s7⟩
  have rd7 := rd6.step s7
  have F7 := F6.trans (FrS.of_same s7)
  have p7 := s7.get p6 (Own.lt p6)
  have fm7 := fm.same s7
  have l7 := s7.le
  have hlow7 := rd7.low
  have hil7 := rd7.lt
  rw [Ybq (by omega), Int.toNat_natCast, Ykf (by omega)]
  simp only [Zai]
  have hlow6 := rd5.low
  have hil6 := rd5.lt
  refine Zdn.L18ind _ _ _ _ _ _ _ _ _ _ _ _ (J := fun (g : Nat) x10 x8 h' => x8 = (g : Int) ∧ g ≤ mn ∧ (Zfr w sp f' k asked n ms g).1.1 = .ok x10 ∧ ∃ qa' st2, Ztk hb i (.slice a0 n0 c0 e0) (.slice (some (ii, oi)) n1 c1 e1) sp h' qa' (Zfr w sp f' k asked n ms g).1.2 st2 [] ∧ d + 1 ≤ st2.length ∧ st2.length ≤ 32 ∧ FrS i (some (h1.length + 1, 0)) h7 h' qa') (fun g => mn - g) ?_ 0 _ _ _ ⟨rfl, by omega, rfl, _, st', rd7, by omega, by omega, FrS.refl _ _ _⟩
  rintro g x15 x8 h' ⟨rfl, hg, hout, qa', st2, rdg, hst2, hst32, Fg⟩ R hR
  obtain ⟨hb1, hb2⟩ := Zmy (w := w) (sp := sp) (f := f') (k := k) (n := n) (ms := ms) h300' g
  have hb2 := hb2 _ hout
  have hidx := Zyh (by omega) hout
  unfold Zdn.L18t
  refine Zar (fun hlt => ?_) (fun hge => ?_)
  · have fmg : Row h'.length h' ma (mn * 2) (Zeg eP ms) := Fg.row (fm7.row Zdd) fun j o hn ha => by
      obtain ⟨_, h0 | ⟨j', hj', hb', hjj⟩⟩ := fm7
      · omega
      · rw [ha] at hj'
        cases hj'
        exact ⟨by omega, fun q hq => by have := (hlow6 q hq).2; omega⟩
    obtain ⟨im, om, hgl, rfl, _, hrm, _⟩ := fmg.pr (k := g) (by omega)
    simp only [Zau, Int.toNat_natCast, hrm, Zas, Zah, Zan, Zai, Zax]
    rw [Zhm]
    generalize hh8 : h' ++ [Zcg.cells Zab [.str ms[g].1, .str ms[g].2] false] = h8
    have s8 : Zbd h'.length h' h8 := by rw [← hh8]; exact Zam
    have o8 : h8[h'.length]? = some (.cells Zab [.str ms[g].1, .str ms[g].2] false) := by rw [← hh8]; simp
    simp only [Zba, Zay o8, Zas, Zah, Zan, Zai]
    refine ⟨by omega, ?_⟩
    rw [Zbt (by omega)]
    refine (ih (n := ms[g]) (rdg.step s8) hb1 (hms3.2 _ (List.getElem_mem hgl)) (by omega) hst2).mono ?_
    rintro v h9 ⟨rfl, qa9, st9, rd9, F9, h932, hok9, hno⟩
    have F9' := (Fg.trans (FrS.of_same s8)).trans F9
    have hsucc := Zwd (w := w) (sp := sp) (f := f') (k := k) (asked := asked) (n := n) (ms := ms) hgl
    have hPg : Zfr w sp f' k asked n ms g = ((.ok x15, (Zfr w sp f' k asked n ms g).1.2), g) := Prod.ext (Prod.ext hout rfl) hidx
    rw [hPg] at hsucc
    unfold Zlw at hsucc
    simp only at hsucc
    obtain ⟨qn9, qc9, qe9, sa9, sn9, sc9, se9, o9, _⟩ := rd9.ob
    simp only [Zai, Zau, Zak o9, Nat.zero_add, List.getElem?_cons_succ, List.getElem?_cons_zero]
    rcases hr : Zow (wk w) sp Zpw f' (Zfr w sp f' k asked n ms g).1.2 ms[g] with ⟨x, a'⟩
    rw [hr] at hsucc rd9 hno hok9
    cases x with
    | no y m =>
      obtain ⟨hy, hl9⟩ := hno y m rfl
      simp only at hsucc
      have hall := Zwm hsucc
      refine Zbp (fun hd => ?_) (fun hd => absurd (of_decide_eq_true hd) hy)
      rw [hask, hall]
      exact ⟨rfl, qa9, st9, rd9, F7.trans F9', h932, fun s hs => (by cases hs), fun y' m' hm => by cases hm; exact ⟨hy, hl9⟩⟩
    | ok dd =>
      refine Zbp (fun hd => absurd rfl (of_decide_eq_false hd)) (fun hd => ?_)
      simp only at hsucc
      obtain ⟨hc1, hc2⟩ := Zmy (w := w) (sp := sp) (f := f') (k := k) (n := n) (ms := ms) h300' (g + 1)
      have hc2 := hc2 _ (by rw [hsucc])
      simp only [List.length_append, List.length_cons] at hc2
      have hl9 := hok9 dd rfl
      rw [Zbt (by omega), Ync (by omega)]
      refine ⟨⟨by omega, by omega, by simp; omega⟩, by simp; omega, by simp [Yqu]; omega, ?_⟩
      refine hR (g + 1) _ _ _ (by omega) ⟨rfl, by omega, by rw [hsucc]; simp [Yqu], qa9, st9, by rw [hsucc]; exact rd9, by omega, h932, F9'⟩
  · apply Zdn.A18x0i
    have : g = mn := by omega
    subst this
    have hend : Zfr w sp f' k asked n ms ms.length = ((.ok x15, (Zfr w sp f' k asked n ms g).1.2), g) := by rw [hmn]; exact Prod.ext (Prod.ext hout rfl) hidx
    have he : Zow (wk w) sp Zpw (f' + 1) asked n = (.ok (if ms = [] then x15 else x15 ++ [41]), (Zfr w sp f' k asked n ms g).1.2) := by rw [hask, hend]; rfl
    have fin : ∀ t, t = (if ms = [] then x15 else x15 ++ [41]) → Zdn.J27 (Yox hb i (.slice a0 n0 c0 e0) (.slice (some (ii, oi)) n1 c1 e1) sp d h qa (Zow (wk w) sp Zpw (f' + 1) asked n)) (some (i, 0)) (d : Int) t h' := by
      rintro t rfl
      apply Zdn.J27i
      obtain ⟨qn9, qc9, qe9, sa9, sn9, sc9, se9, o9, v9, r9, hsc9, hd9⟩ := rdg.ob
      have hsl9 : st2.length = sn9 := by have := r9.1; rw [Zbb Zdd] at this; omega
      simp only [Zau, Zak o9, Nat.zero_add, List.getElem?_cons_succ, List.getElem?_cons_zero, Zaj]
      rw [Zbt (by omega)]
      refine Ycv r9 (k := d + 1) (by omega) hsc9 rfl fun a' c' e' hr' hc' hp' => ?_
      simp only [Zaj]
      rw [Zbv o9 (by simp)]
      simp only [Zba, putRow, List.take_succ_cons, List.take_zero, List.length_cons, List.length_nil, List.drop_succ_cons, List.drop_zero, List.drop_nil, List.cons_append, List.nil_append, List.append_nil]
      rw [he]
      refine ⟨rfl, qa', st2.take (d + 1), Ztk.write rdg.same rdg.ge o9 v9 rdg.ne hr' hc' ?_, (F7.trans Fg).trans FrS.set, by rw [List.length_take]; omega, fun s hs => by rw [List.length_take]; omega, fun y m hm => by cases hm⟩
      intro j o hn ha
      rcases hp' with rfl | ⟨i', o', e1, e2⟩
      · cases ha
      · rw [e2] at ha; cases ha
        exact hd9 _ _ (by omega) e1
    refine Zar (fun hpos => ⟨by simp; omega, ?_⟩) (fun hpos => ?_)
    · exact fin _ (by rw [if_neg (fun hm => by rw [hm] at hmn; simp at hmn; omega)])
    · exact fin _ (by rw [if_pos (List.eq_nil_of_length_eq_zero (by omega))])
end Go.Sim

set_option linter.unusedVariables false
set_option linter.unusedSimpArgs false
set_option maxRecDepth 20000
namespace Go.Sim
open Go Go.RowKit

theorem Ybn {hb : Zaa} {a0 a1 : Pt} {n0 c0 n1 c1 : Nat} {e0 e1 : Bool} {w : Wd} (r : Zlx hb a0 n0 c0 a1 n1 c1 w) (b : WB w) (hw : Zdw w = true) (sp : Bool) (f : Nat)
    (ih : ∀ f', f = f' + 1 → Ynm f' hb a0 a1 n0 c0 n1 c1 e0 e1 w sp) : Ynm f hb a0 a1 n0 c0 n1 c1 e0 e1 w sp := by
  intro h i qa asked st n d rd hal hnd hf hd
  apply Zzi
  simp only [Zax]
  generalize hh0 : h ++ [Zcg.cells Zab [.str n.1, .str n.2] false] = h0
  have s0 : Zbd h.length h h0 := by rw [← hh0]; exact Zam
  have p1 : h0[h.length]? = some (.cells Zab [.str n.1, .str n.2] false) := by rw [← hh0]; simp
  have l0 : h0.length = h.length + 1 := by rw [← hh0]; simp
  have rd0 := rd.step s0
  have hil := rd.lt
  have hlow := rd.low
  obtain ⟨qn, qc, qe, sa, sn, sc, se, ho, hv, hr, hsc, hdj⟩ := rd0.ob
  have hsn : st.length = sn := by have := hr.1; rw [Zbb Zdd] at this; omega
  simp only [Zau, Zak ho, Nat.zero_add, List.getElem?_cons_succ, List.getElem?_cons_zero, Zaj]
  refine Ycv hr (k := d) (by omega) hsc rfl fun a' c' e' hr' hc' _ => ?_
  have htl : (st.take d).length = d := by rw [List.length_take]; omega
  generalize st.take d = tk at hr' htl
  have fin : ∀ (hX : Zaa) (qs cs : Nat) (es : Bool), Zbd h0.length h0 hX → hX[qs]? = some (.cells Zab (Zeg eP tk ++ [.str n.1, .str n.2]) false) → h0.length ≤ qs → d + 1 ≤ cs →
      Zqr (Yox hb i (.slice a0 n0 c0 e0) (.slice a1 n1 c1 e1) sp d h qa (Zow (wk w) sp Zpw f asked n)) (some (i, 0)) (d : Int) h.length hX (some (qs, 0)) (d + 1) cs es := by
    intro hX qs cs es sX hqs hle hcs
    have hrow : Row hX.length hX (some (qs, 0)) ((d + 1) * 2) (Zeg eP (tk ++ [n])) :=
      ⟨by rw [Zbb Zdd]; simp [htl], .inr ⟨_, _, _, _, _, rfl, Own.lt hqs, hqs, by simp [Zbb Zdd, htl]; omega, by
        rw [List.drop_zero, List.take_of_length_le (by simp [Zbb Zdd, htl]; omega)]; simp [Zeg, eP]⟩⟩
    exact Yme r b hw sp f ih (rd0.step sX) (FrS.of_same (s0.cat sX)) hal hnd hf (by simp [htl]) (by simp) hrow (by omega) (fun q hq => by have := (hlow q hq).2; omega) hcs
      (sX.get p1 (Own.lt p1)) (by omega) (fun q hq => by have := (hlow q hq).2; omega)
  have hnn : (Zeg eP [n]).all Zaq.leaf = true := Znx (enc := eP) (fun _ => rfl) _
  simp only [Zaj, Zay p1, Zas, Zah, Zan, Zai]
  refine ⟨⟨?_, ?_, ?_, ?_⟩, ?_⟩
  · rw [Zay (Zam.get p1 (Own.lt p1))]
  · rw [Zak (Zam.get ho (Own.lt ho))]; rfl
  · generalize hh1 : h0 ++ [Zcg.cells Zab [] false] = h1
    have s1 : Zbd h0.length h0 h1 := by rw [← hh1]; exact Zam
    have o1 : h1[h0.length]? = some (.cells Zab [] false) := by rw [← hh1]; simp
    have l1 : h1.length = h0.length + 1 := by rw [← hh1]; simp
    refine Vec.app0 (n := 0) o1 Zjz Zqk Zpp Zqc (by simp) (hr'.same' s1).rowOf (Znx (enc := eP) (fun _ => rfl) _) (by omega) (fun h2 hl2 hi2 hk2 => ?_)
    have S2 : Zbd h0.length h0 h2 := ⟨by omega, fun j hj => by rw [hk2 j (by omega) (by omega)]; exact s1.eq j hj⟩
    have q2 := S2.get p1 (Own.lt p1)
    have z2 := S2.get ho (Own.lt ho)
    have s3 : Zbd h2.length h2 (h2 ++ [Zcg.cells Zab [.str n.1, .str n.2] false]) := Zam
    have q3 := s3.get q2 (Own.lt q2)
    have z3 := s3.get z2 (Own.lt z2)
    simp only [Zaj, Nat.zero_add]
    refine ⟨by rw [Zay q2, Zay (s1.get p1 (Own.lt p1))], by rw [Zak z2, Zak (s1.get ho (Own.lt ho))], by rw [Zak z3, Zak z2], ?_⟩
    have hV : Vec Zab h2 (some (h1.length, 0)) d d (Zeg eP tk) := Vec.mk1 (by simpa using hi2)
    refine hV.pushN Zjz Zqk Zpp Zqc (by rw [Zbb Zdd, htl]) rfl (by omega) rfl (by omega) (fun h6 hl6 hi6 hk6 => ?_)
    have S6 : Zbd h0.length h0 h6 := ⟨by omega, fun j hj => by rw [hk6 j (by omega) fun q hq => by cases hq; omega]; exact S2.eq j hj⟩
    simp only [Zaj]
    refine ⟨by rw [Zay (S6.get p1 (Own.lt p1)), Zay q3], by rw [Zak (S6.get ho (Own.lt ho)), Zak z3], ?_⟩
    exact fin h6 _ _ _ S6 hi6 (by omega) (by omega)
  · generalize hh1 : h0 ++ [Zcg.cells Zab [] false] = h1
    have s1 : Zbd h0.length h0 h1 := by rw [← hh1]; exact Zam
    have o1 : h1[h0.length]? = some (.cells Zab [] false) := by rw [← hh1]; simp
    have l1 : h1.length = h0.length + 1 := by rw [← hh1]; simp
    generalize hh2 : h1 ++ [Zcg.cells Zab [.str n.1, .str n.2] false] = h2
    have s2 : Zbd h1.length h1 h2 := by rw [← hh2]; exact Zam
    have b2 : h2[h1.length]? = some (.cells Zab [.str n.1, .str n.2] false) := by rw [← hh2]; simp
    have l2 : h2.length = h1.length + 1 := by rw [← hh2]; simp
    have S2 := s1.cat s2
    have o2 := s2.get o1 (Own.lt o1)
    have q2 := S2.get p1 (Own.lt p1)
    have z2 := S2.get ho (Own.lt ho)
    refine ⟨by rw [Zak z2, Zak (s1.get ho (Own.lt ho))], ?_⟩
    refine Vec.app0 (n := 0) o2 Zjz Zqk Zpp Zqc (by simp) (hr'.same' S2).rowOf (Znx (enc := eP) (fun _ => rfl) _) (by omega) (fun h3 hl3 hi3 hk3 => ?_)
    have S3 : Zbd h0.length h0 h3 := ⟨by omega, fun j hj => by rw [hk3 j (by omega) (by omega)]; exact S2.eq j hj⟩
    have q3 := S3.get p1 (Own.lt p1)
    have z3 := S3.get ho (Own.lt ho)
    have b3 : h3[h1.length]? = some (.cells Zab [.str n.1, .str n.2] false) := by rw [hk3 _ (Own.lt b2) (by omega)]; exact b2
    simp only [Zaj, Nat.zero_add]
    refine ⟨by rw [Zay q3, Zay q2], by rw [Zak z3, Zak z2], ?_⟩
    have hr3 : Row h3.length h3 (some (h1.length, 0)) (1 * 2) (Zeg eP [n]) := ⟨rfl, .inr ⟨h1.length, 0, _, _, _, rfl, Own.lt b3, b3, by simp, by simp [eP]⟩⟩
    have hi3 : h3[h2.length]? = some (.cells Zab (Zeg eP tk) false) := by simpa using hi3
    refine Vec.app0 (n := d) hi3 Zjz Zqk Zpp Zqc (by rw [Zbb Zdd, htl]) hr3.rowOf hnn (by omega) (fun h6 hl6 hi6 hk6 => ?_)
    have S6 : Zbd h0.length h0 h6 := ⟨by omega, fun j hj => by rw [hk6 j (by omega) (by omega)]; exact S3.eq j hj⟩
    simp only [Zaj]
    refine ⟨by rw [Zay (S6.get p1 (Own.lt p1)), Zay q3], by rw [Zak (S6.get ho (Own.lt ho)), Zak z3], ?_⟩
    exact fin h6 _ _ _ S6 hi6 (by omega) (by omega)
  · generalize hh1 : h0 ++ [Zcg.cells Zab [.str n.1, .str n.2] false] = h1
    have s1 : Zbd h0.length h0 h1 := by rw [← hh1]; exact Zam
    have b1 : h1[h0.length]? = some (.cells Zab [.str n.1, .str n.2] false) := by rw [← hh1]; simp
    have l1 : h1.length = h0.length + 1 := by rw [← hh1]; simp
    generalize hh2 : h1 ++ [Zcg.cells Zab [] false] = h2
    have s2 : Zbd h1.length h1 h2 := by rw [← hh2]; exact Zam
    have o2 : h2[h1.length]? = some (.cells Zab [] false) := by rw [← hh2]; simp
    have l2 : h2.length = h1.length + 1 := by rw [← hh2]; simp
    have S2 := s1.cat s2
    have b2 := s2.get b1 (Own.lt b1)
    have q1 := s1.get p1 (Own.lt p1)
    have z1 := s1.get ho (Own.lt ho)
    have q2 := S2.get p1 (Own.lt p1)
    have z2 := S2.get ho (Own.lt ho)
    refine ⟨by rw [Zak z1]; rfl, by rw [Zay q2, Zay q1], by rw [Zak z2, Zak z1], ?_⟩
    refine Vec.app0 (n := 0) o2 Zjz Zqk Zpp Zqc (by simp) (hr'.same' S2).rowOf (Znx (enc := eP) (fun _ => rfl) _) (by omega) (fun h3 hl3 hi3 hk3 => ?_)
    have S3 : Zbd h0.length h0 h3 := ⟨by omega, fun j hj => by rw [hk3 j (by omega) (by omega)]; exact S2.eq j hj⟩
    have q3 := S3.get p1 (Own.lt p1)
    have z3 := S3.get ho (Own.lt ho)
    have b3 : h3[h0.length]? = some (.cells Zab [.str n.1, .str n.2] false) := by rw [hk3 _ (Own.lt b2) (by omega)]; exact b2
    simp only [Zaj, Nat.zero_add]
    refine ⟨by rw [Zay q3, Zay q2], by rw [Zak z3, Zak z2], ?_⟩
    have hr3 : Row h3.length h3 (some (h0.length, 0)) (1 * 2) (Zeg eP [n]) := ⟨rfl, .inr ⟨h0.length, 0, _, _, _, rfl, Own.lt b3, b3, by simp, by simp [eP]⟩⟩
    have hi3 : h3[h2.length]? = some (.cells Zab (Zeg eP tk) false) := by simpa using hi3
    refine Vec.app0 (n := d) hi3 Zjz Zqk Zpp Zqc (by rw [Zbb Zdd, htl]) hr3.rowOf hnn (by omega) (fun h6 hl6 hi6 hk6 => ?_)
    have S6 : Zbd h0.length h0 h6 := ⟨by omega, fun j hj => by rw [hk6 j (by omega) (by omega)]; exact S3.eq j hj⟩
    simp only [Zaj]
    refine ⟨by rw [Zay (S6.get p1 (Own.lt p1)), Zay q3], by rw [Zak (S6.get ho (Own.lt ho)), Zak z3], ?_⟩
    exact fin h6 _ _ _ S6 hi6 (by omega) (by omega)
theorem Ygb {hb : Zaa} {a0 a1 : Pt} {n0 c0 n1 c1 : Nat} {e0 e1 : Bool} {w : Wd} (r : Zlx hb a0 n0 c0 a1 n1 c1 w) (b : WB w) (hw : Zdw w = true) (sp : Bool) : ∀ f, Ynm f hb a0 a1 n0 c0 n1 c1 e0 e1 w sp
  | 0 => Ybn r b hw sp 0 fun f' h => by omega
  | f + 1 => Ybn r b hw sp (f + 1) fun f' h => by cases h; exact Ygb r b hw sp f
theorem Yhh {h : Zaa} {a0 a1 : Pt} {n0 c0 n1 c1 : Nat} {e0 e1 : Bool} {w : Wd} {nd : Nd} {sp : Bool} (r : Zlx h a0 n0 c0 a1 n1 c1 w) (b : WB w) (hnt : nd.2.length ≤ 1048576) :
    Zag pg Znp [.agg [.slice a0 n0 c0 e0, .slice a1 n1 c1 e1], .agg [.str nd.1, .str nd.2], .bool sp] h fun x h' => ∃ i x3 sa sn sc se st, x = .tup [.ptr (some (i, 0)), .str (Yqu (Zqa w nd sp)), .bool (Zdw w && Zfk w nd)] ∧ Zbd h.length h h' ∧
      h'[i]? = some (.cells Zcp [.slice a0 n0 c0 e0, .slice a1 n1 c1 e1, .bool sp, x3, .slice sa sn sc se, .str (Yso (Zqa w nd sp))] false) ∧ h.length ≤ i ∧ ((Zdw w && Zfk w nd) = true → Row h'.length h' sa (sn * 2) (Zeg eP st) ∧ sn ≤ 32 ∧ ∀ y m, Zqa w nd sp = .no y m → y ≠ [] ∧ st.getLast? = some m) := by
  apply Zrg.call
  simp only [Zax]
  generalize hh0 : h ++ [Zcg.cells Zal [.slice a0 n0 c0 e0, .slice a1 n1 c1 e1] false] = h0
  generalize hh1 : h0 ++ [Zcg.cells Zab [.str nd.1, .str nd.2] false] = h1
  have s0 : Zbd h.length h h0 := by rw [← hh0]; exact Zam
  have s1 : Zbd h0.length h0 h1 := by rw [← hh1]; exact Zam
  have w0 : h0[h.length]? = some (Zok a0 n0 c0 e0 a1 n1 c1 e1) := by rw [← hh0]; simp [Zok]
  have w1 := s1.get w0 (Own.lt w0)
  have p1 : h1[h0.length]? = some (.cells Zab [.str nd.1, .str nd.2] false) := by rw [← hh1]; simp
  have l1 : h1.length = h0.length + 1 := by rw [← hh1]; simp
  have l0 : h0.length = h.length + 1 := by rw [← hh0]; simp
  rw [Zyv w1]
  simp only [Zas, Zah, Zan, Zaj]
  generalize hh2 : h1 ++ [Zcg.cells Zab [] false] = h2
  have s2 : Zbd h1.length h1 h2 := by rw [← hh2]; exact Zam
  have o2 : h2[h1.length]? = some (.cells Zab [] false) := by rw [← hh2]; simp
  have l2 : h2.length = h1.length + 1 := by rw [← hh2]; simp
  generalize hh3 : h2 ++ [Zcg.cells Zab [] false] = h3
  have s3 : Zbd h2.length h2 h3 := by rw [← hh3]; exact Zam
  have o3 : h3[h2.length]? = some (.cells Zab [] false) := by rw [← hh3]; simp
  have l3 : h3.length = h2.length + 1 := by rw [← hh3]; simp
  generalize hh4 : h3 ++ [Zcg.cells Zcp [.slice a0 n0 c0 e0, .slice a1 n1 c1 e1, .bool sp, .slice (some (h1.length, 0)) 0 0 true, .slice (some (h2.length, 0)) 0 0 true, .str []] false] = h4
  have s4 : Zbd h3.length h3 h4 := by rw [← hh4]; exact Zam
  have z4 : h4[h3.length]? = some (.cells Zcp [.slice a0 n0 c0 e0, .slice a1 n1 c1 e1, .bool sp, .slice (some (h1.length, 0)) 0 0 true, .slice (some (h2.length, 0)) 0 0 true, .str []] false) := by rw [← hh4]; simp
  have S14 := (s2.cat s3).cat s4
  have S4 := (s0.cat s1).cat S14
  have w4 := S14.get w1 (Own.lt w1)
  have p4 := S14.get p1 (Own.lt p1)
  have e4 := (s3.cat s4).get o2 (Own.lt o2)
  rw [Zyv w4, Zay p4]
  simp only [Zas, Zah, Zan, Zaj, Zai]
  refine (Zul (ct := nd.1) (tt := nd.2) (r.same S4) b hnt).mono ?_
  rintro v h5 ⟨rfl, s5⟩
  have S5 := S4.cat s5
  have p5 := s5.get p4 (Own.lt p4)
  have e5 := s5.get e4 (Own.lt e4)
  have z5 := s5.get z4 (Own.lt z4)
  have le5 := S5.le
  have rd : Ztk h h3.length (.slice a0 n0 c0 e0) (.slice a1 n1 c1 e1) sp h5 (some (h1.length, 0)) [] [] [] :=
    ⟨S5, by omega, ⟨0, 0, true, some (h2.length, 0), 0, 0, true, z5, ⟨Vec.mk1 e5, rfl, fun q hq => by cases hq; omega⟩, by simpa using Row.nil, by omega, fun j o hn => absurd rfl hn⟩, fun q hq => by cases hq; omega⟩
  simp only [Zap]
  refine Zbp (fun hc => ?_) (fun hc => ?_)
  · have hf : Zqa w nd sp = .no Zui ([], []) := by unfold Zqa; rw [hc]; rfl
    refine rd.reason _ fun h6 rd6 F6 => ?_
    obtain ⟨qn, qc, qe, sa, sn, sc, se, ho, _⟩ := rd6.ob
    rw [hc, hf]
    exact ⟨h3.length, _, sa, sn, sc, se, [], rfl, rd6.same, ho, by omega, fun hc => by cases hc⟩
  rw [Zay p5]
  simp only [Zas, Zah, Zan, Zai]
  have hc' := hc
  simp only [Bool.and_eq_true] at hc'
  refine (Ygb r b hc'.1 sp 31 (n := nd) (d := 0) rd (by simp) hc'.2 (by omega) (by simp)).mono ?_
  rintro v h6 ⟨rfl, qa, st, rd6, F6, hst, _, hno⟩
  have hf : Zqa w nd sp = (Zow (wk w) sp Zpw 31 [] nd).1 := by unfold Zqa; rw [hc]; rfl
  obtain ⟨qn, qc, qe, sa, sn, sc, se, ho, _, hr, _⟩ := rd6.ob
  have hsl : st.length = sn := by have := hr.1; rw [Zbb Zdd] at this; omega
  simp only [Zai]
  rw [hc, hf]
  exact ⟨h3.length, _, sa, sn, sc, se, st, rfl, rd6.same, ho, by omega, fun _ => ⟨hr, by omega, hno⟩⟩
theorem Zkc {h : Zaa} {a0 a1 : Pt} {n0 c0 n1 c1 : Nat} {e0 e1 : Bool} {w : Wd} {nd : Nd} (r : Zlx h a0 n0 c0 a1 n1 c1 w) (b : WB w) (hnt : nd.2.length ≤ 1048576) :
    Zag pg Zdf [.agg [.slice a0 n0 c0 e0, .slice a1 n1 c1 e1], .agg [.str nd.1, .str nd.2]] h fun v h' => v = .tup [.agg [.str (Zge w nd).1.1, .str (Zge w nd).1.2], .bool (Zge w nd).2] ∧ Zbd h.length h h' := by
  apply Zka.call
  simp only [Zax]
  generalize hh0 : h ++ [Zcg.cells Zal [.slice a0 n0 c0 e0, .slice a1 n1 c1 e1] false] = h0
  generalize hh1 : h0 ++ [Zcg.cells Zab [.str nd.1, .str nd.2] false] = h1
  generalize hh2 : h1 ++ [Zcg.cells Zab [.str [], .str []] false] = h2
  have s0 : Zbd h.length h h0 := by rw [← hh0]; exact Zam
  have s1 : Zbd h0.length h0 h1 := by rw [← hh1]; exact Zam
  have s2 : Zbd h1.length h1 h2 := by rw [← hh2]; exact Zam
  have w0 : h0[h.length]? = some (Zok a0 n0 c0 e0 a1 n1 c1 e1) := by rw [← hh0]; simp [Zok]
  have w1 := s1.get w0 (Own.lt w0)
  have w2 := s2.get w1 (Own.lt w1)
  have p1 : h1[h0.length]? = some (.cells Zab [.str nd.1, .str nd.2] false) := by rw [← hh1]; simp
  have p2 := s2.get p1 (Own.lt p1)
  have o2 : h2[h1.length]? = some (.cells Zab [.str [], .str []] false) := by rw [← hh2]; simp
  have S2 := (s0.cat s1).cat s2
  have l1 : h1.length = h0.length + 1 := by rw [← hh1]; simp
  have l0 : h0.length = h.length + 1 := by rw [← hh0]; simp
  rw [Zyv w2, Zay p2]
  simp only [Zas, Zah, Zan, Zaj, Zai]
  refine (Yhh (sp := false) (nd := nd) (r.same S2) b hnt).mono ?_
  rintro v h3 ⟨i, x3, sa, sn, sc, se, st, rfl, s3, ho, hi, hno⟩
  have S3 := S2.cat s3
  have o3 := s3.get o2 (Own.lt o2)
  have hset : ∀ x, Zbd h.length h (h3.set h1.length x) := fun x => ⟨by simp; exact S3.le, fun j hj => by rw [Zcv (by omega)]; exact S3.eq j hj⟩
  have hrow : ∀ x y : List Nat, Zaw (h3.set h1.length (.cells Zab [.str x, .str y] false)) (.ptr (some (h1.length, 0))) 2 = some [.str x, .str y] := fun x y => Zay (Zdq o3)
  simp only [Zde, Zah, Zeo, Zai, Zan, Zap]
  refine Zbp (fun hc => ?_) (fun hc => ?_)
  · have hF : Zge w nd = (([], []), false) := by unfold Zge; rw [hc]; rfl
    rw [Zbv o3 (by simp)]
    simp only [Zba, putRow, List.take_zero, List.length_cons, List.length_nil, List.drop_succ_cons, List.drop_zero, List.drop_nil, List.nil_append, List.append_nil, hrow, Zas, Zah, Zan, Zai]
    exact ⟨by rw [hF], hset _⟩
  obtain ⟨hr, hsn, hno⟩ := hno hc
  simp only [Zau, Zak ho, Nat.zero_add, List.getElem?_cons_succ, List.getElem?_cons_zero, Zai]
  cases hf : Zqa w nd false with
  | ok s =>
    have hF : Zge w nd = (([], []), false) := by unfold Zge; rw [hf]; split <;> rfl
    refine Zar (fun _ => ?_) (fun hne => absurd rfl hne)
    rw [Zbv o3 (by simp)]
    simp only [Zba, putRow, List.take_zero, List.length_cons, List.length_nil, List.drop_succ_cons, List.drop_zero, List.drop_nil, List.nil_append, List.append_nil, hrow, Zas, Zah, Zan, Zai]
    exact ⟨by rw [hF], hset _⟩
  | no y m =>
    obtain ⟨hy, hl⟩ := hno y m hf
    refine Zar (fun he => absurd he hy) (fun _ => ?_)
    have hF : Zge w nd = (m, true) := by unfold Zge; rw [hc, hf]; rfl
    apply Zka.J4i
    have hsl : st.length = sn := by have := hr.1; rw [Zbb Zdd] at this; omega
    have hpos : 0 < sn := by
      rw [← hsl]
      cases st with
      | nil => simp at hl
      | cons _ _ => simp
    have hz : IntKind.wrap .i64 (((sn : Nat) : Int) - 1) = ((sn - 1 : Nat) : Int) := by rw [IntWalk.i64_in _ (by omega)]; omega
    obtain ⟨im, om, hgl, rfl, _, hrm, _⟩ := hr.pr (k := sn - 1) (by omega)
    have hlast : st[sn - 1] = m := by
      rw [List.getLast?_eq_getElem?, hsl, List.getElem?_eq_getElem hgl] at hl
      exact Option.some.inj hl
    simp only [Zau, Zak ho, Nat.zero_add, List.getElem?_cons_succ, List.getElem?_cons_zero, Zaj, hz, Int.toNat_natCast, hrm, Zas, Zah, Zan, Zai, true_and]
    refine ⟨by omega, ?_⟩
    rw [Zbv o3 (by simp)]
    simp only [Zba, putRow, List.take_zero, List.length_cons, List.length_nil, List.drop_succ_cons, List.drop_zero, List.drop_nil, List.nil_append, List.append_nil, hrow, Zas, Zah, Zan, Zai]
    exact ⟨by rw [hF, hlast], hset _⟩
end Go.Sim

set_option linter.unusedVariables false
set_option linter.unusedSimpArgs false
set_option maxRecDepth 20000
namespace Go.Sim
open Go Go.RowKit

theorem lawFailingNeed {h : Zaa} {a0 a1 : Pt} {n0 c0 n1 c1 : Nat} {e0 e1 : Bool} {w : Wd} {nd0 : Nd} (r : Zlx h a0 n0 c0 a1 n1 c1 w) (hb : Yqx w) (hb0 : Ype nd0) :
    Zag pg Zgb [.agg [.slice a0 n0 c0 e0, .slice a1 n1 c1 e1], .agg [.str nd0.1, .str nd0.2]] h fun v _ => v = .bool true := by
  apply Yil
  try simp only [Zax]
  generalize hg0 : h ++ [Zcg.cells Zen [.slice a0 n0 c0 e0, .slice a1 n1 c1 e1] false] = g0
  have sg0 : Zbd h.length h g0 := by rw [← hg0]; exact Zam
  have xw0 : g0[h.length]? = some (.cells Zen [.slice a0 n0 c0 e0, .slice a1 n1 c1 e1] false) := by rw [← hg0]; simp
  have lg0 : g0.length = h.length + 1 := by rw [← hg0]; simp
  generalize hg1 : g0 ++ [Zcg.cells Zja [.str nd0.1, .str nd0.2] false] = g1
  have sg1 : Zbd g0.length g0 g1 := by rw [← hg1]; exact Zam
  have xw1 := sg1.get xw0 (Own.lt xw0)
  have xn1 : g1[g0.length]? = some (.cells Zja [.str nd0.1, .str nd0.2] false) := by rw [← hg1]; simp
  have lg1 : g1.length = g0.length + 1 := by rw [← hg1]; simp
  have S1 := sg0.cat sg1
  simp only [Zay xw1, Zay xn1, Zas, Zah, Zan, Zaj, Zai]
  refine (Ygt (r.same S1) hb (x := 1048576) (by omega)).mono ?_
  rintro v k2 ⟨y, rfl, s2, hy⟩
  have xw2 := s2.get xw1 (Own.lt xw1)
  have xn2 := s2.get xn1 (Own.lt xn1)
  simp only [Zav]
  refine Zar (fun _ => by trivial) (fun hge => ?_)
  have hyy := hy (by omega)
  have b : WB w := .of hb (by omega)
  have hbl0 := hb0.1
  have hbm0 := hb0.2.1
  unfold Zva at hbl0 hbm0
  simp only [Zay xw2, Zay xn2, Zas, Zah, Zan, Zaj, Zai]
  refine (Zwq hbl0 hbm0 (x := y) (by omega)).mono ?_
  rintro v k3 ⟨z0, rfl, s3, hz0⟩
  have S13 := s2.cat s3
  have xw3 := s3.get xw2 (Own.lt xw2)
  have xn3 := s3.get xn2 (Own.lt xn2)
  simp only [Zav]
  refine Zar (fun _ => by trivial) (fun hge0 => ?_)
  have hzz0 := hz0 (by omega)
  have hnt0 : nd0.2.length ≤ 1048576 := by omega
  -- behind the reference's answer
  have want : ∀ (k : Zaa) (pw : Nat) (x y : List Nat), Zbd g1.length g1 k → k[pw]? = some (.cells Zab [.str x, .str y] false) → g1.length ≤ pw → Yic (fun v _ => v = .bool true) h.length g0.length k pw (Zge w nd0).1.1 (Zge w nd0).1.2 (Zge w nd0).2 := by
    intro k pw x y sk hk hpw
    unfold Yic
    rw [Zbv hk (by simp)]
    simp only [Zba, putRow, List.take_zero, List.length_cons, List.length_nil, List.drop_succ_cons, List.drop_zero, List.drop_nil, List.nil_append, List.append_nil]
    have k1w : (k.set pw (.cells Zab [.str (Zge w nd0).1.1, .str (Zge w nd0).1.2] false))[pw]? = some (.cells Zab [.str (Zge w nd0).1.1, .str (Zge w nd0).1.2] false) := Zdq hk
    have sk1 : Zbd g1.length g1 (k.set pw (.cells Zab [.str (Zge w nd0).1.1, .str (Zge w nd0).1.2] false)) := ⟨by simp; exact sk.le, fun j hj => by rw [Zcv (by omega)]; exact sk.eq j hj⟩
    generalize k.set pw (.cells Zab [.str (Zge w nd0).1.1, .str (Zge w nd0).1.2] false) = k1 at k1w sk1 ⊢
    have yw1 := sk1.get xw1 (Own.lt xw1)
    have yn1 := sk1.get xn1 (Own.lt xn1)
    simp only [Zay yw1, Zas, Zah, Zan, Zaj]
    refine (Zqv (r.same (S1.cat sk1)) b).mono ?_
    rintro v m1 ⟨p0, q0, d0', p1, q1, d1', zs, rfl, hq0, hq1, sm1, W6⟩
    have mw1 := sm1.get k1w (Own.lt k1w)
    have yw2 := sm1.get yw1 (Own.lt yw1)
    have yn2 := sm1.get yn1 (Own.lt yn1)
    simp only [Zdp, Zah, Zaj, Zan, Zax]
    rw [Zhm]
    generalize hm2 : m1 ++ [Zcg.cells Zal [.slice p0 n0 q0 d0', .slice p1 n1 q1 d1'] false] = m2
    have sm2 : Zbd m1.length m1 m2 := by rw [← hm2]; exact Zam
    have yi2 : m2[m1.length]? = some (.cells Zal [.slice p0 n0 q0 d0', .slice p1 n1 q1 d1'] false) := by rw [← hm2]; simp
    have mw2 := sm2.get mw1 (Own.lt mw1)
    have yw3 := sm2.get yw2 (Own.lt yw2)
    have yn3 := sm2.get yn2 (Own.lt yn2)
    have S2 := (S1.cat sk1).cat (sm1.cat sm2)
    have W7 := (W6.same sm2).rep hq0 hq1
    -- behind the program's answer
    have got : ∀ (u : Zaa) (pg0 : Nat) (x y : List Nat), Zbd m2.length m2 u → u[pg0]? = some (.cells Zab [.str x, .str y] false) → m2.length ≤ pg0 → Yrs (fun v _ => v = .bool true) h.length pw (Zge w nd0).2 m1.length u pg0 (Zge w nd0).1.1 (Zge w nd0).1.2 (Zge w nd0).2 := by
      intro u pg0 x y su hu hpg
      unfold Yrs
      rw [Zbv hu (by simp)]
      simp only [Zba, putRow, List.take_zero, List.length_cons, List.length_nil, List.drop_succ_cons, List.drop_zero, List.drop_nil, List.nil_append, List.append_nil]
      have u1g : (u.set pg0 (.cells Zab [.str (Zge w nd0).1.1, .str (Zge w nd0).1.2] false))[pg0]? = some (.cells Zab [.str (Zge w nd0).1.1, .str (Zge w nd0).1.2] false) := Zdq hu
      have su1 : Zbd m2.length m2 (u.set pg0 (.cells Zab [.str (Zge w nd0).1.1, .str (Zge w nd0).1.2] false)) := ⟨by simp; exact su.le, fun j hj => by rw [Zcv (by omega)]; exact su.eq j hj⟩
      generalize u.set pg0 (.cells Zab [.str (Zge w nd0).1.1, .str (Zge w nd0).1.2] false) = u1 at u1g su1 ⊢
      have uw := su1.get mw2 (Own.lt mw2)
      simp only [Zay u1g, Zay uw, Zas, Zah, Zan, Zai]
      refine Zvn.mono ?_
      rintro v u2 ⟨rfl, su2⟩
      have S3 := su1.cat su2
      have yw4 := S3.get yw3 (Own.lt yw3)
      have yi4 := S3.get yi2 (Own.lt yi2)
      simp only [Zap, beq_self_eq_true, eq_self, decide_true, Bool.not_true, Zbn, and_self]
      apply Zet.J13i
      simp only [Zay yi4, Zay yw4, Zas, Zah, Zan, Zaj, true_and]
      refine (Zqv (r.same (S2.cat S3)) b).mono ?_
      rintro v u3 ⟨v0, w0, j0, v1, w1, j1, ts, rfl, hv0, hv1, su3, W10⟩
      have yi5 := su3.get yi4 (Own.lt yi4)
      simp only [Zdp, Zah, Zaj, Zan, Zay yi5, true_and]
      refine (Ygo ((W7.same S3).same su3) (W10.rep hv0 hv1) b).mono ?_
      rintro v u4 ⟨rfl, _⟩
      simp only [Zap, Bool.not_true, Zbn]
    simp only [Zba, Zay yi2, Zay yn3, Zas, Zah, Zan, Zaj, Zai, true_and]
    have bx : ∀ u : Zaa, (u ++ [Zcg.cells Zab [.str [], .str []] false])[u.length]? = some (Zcg.cells Zab [.str [], .str []] false) := fun u => by simp
    refine ⟨?_, ?_⟩
    · refine (Zmj (c := nd0.1) (t := nd0.2)).mono ?_
      rintro v u1 ⟨rfl, su1⟩
      have yi3 := su1.get yi2 (Own.lt yi2)
      have yn4 := su1.get yn3 (Own.lt yn3)
      simp only [Zdp, Zah, Zai, Zan, Zay yi3, Zay yn4, true_and]
      refine ⟨?_, ?_⟩
      · refine (Zng (W7.same su1) b).mono ?_
        rintro v u2 ⟨rfl, su2⟩
        have S3 := su1.cat su2
        have yi4 := su2.get yi3 (Own.lt yi3)
        have yn5 := su2.get yn4 (Own.lt yn4)
        have sb : Zbd u2.length u2 (u2 ++ [Zcg.cells Zab [.str [], .str []] false]) := Zam
        simp only [Zde, Zdp, Zah, Zai, Zap, Zan, Zax, Zay yn5, Zay yi4, true_and]
        refine ⟨by rw [Zay (sb.get yn5 (Own.lt yn5))], by rw [Zay (sb.get yi4 (Own.lt yi4))], ?_⟩
        exact got _ _ _ _ (S3.cat sb) (bx _) S3.le
      · have sb : Zbd u1.length u1 (u1 ++ [Zcg.cells Zab [.str [], .str []] false]) := Zam
        have yi4 := sb.get yi3 (Own.lt yi3)
        have yn5 := sb.get yn4 (Own.lt yn4)
        try simp only [Zax]
        refine ⟨by rw [Zay yn5], by rw [Zay yi4], ?_⟩
        refine (Zng (W7.same (su1.cat sb)) b).mono ?_
        rintro v u2 ⟨rfl, su2⟩
        have z := su2.get (bx u1) (Own.lt (bx u1))
        simp only [Zde, Zdp, Zah, Zai, Zap, Zan]
        refine ⟨by rw [Zay (su2.get yn5 (Own.lt yn5)), Zay yn5], ?_⟩
        exact got _ _ _ _ ((su1.cat sb).cat su2) z su1.le
    · have sb : Zbd m2.length m2 (m2 ++ [Zcg.cells Zab [.str [], .str []] false]) := Zam
      have yi4 := sb.get yi2 (Own.lt yi2)
      have yn5 := sb.get yn3 (Own.lt yn3)
      try simp only [Zax]
      refine ⟨by rw [Zay yn5], by rw [Zay yi4], ?_⟩
      refine (Zmj (c := nd0.1) (t := nd0.2)).mono ?_
      rintro v u1 ⟨rfl, su1⟩
      have yi5 := su1.get yi4 (Own.lt yi4)
      have yn6 := su1.get yn5 (Own.lt yn5)
      have z := su1.get (bx m2) (Own.lt (bx m2))
      simp only [Zdp, Zah, Zai, Zan]
      refine ⟨by rw [Zay yi5, Zay yi4], ?_⟩
      refine (Zng (W7.same (sb.cat su1)) b).mono ?_
      rintro v u2 ⟨rfl, su2⟩
      have z := su2.get z (Own.lt z)
      simp only [Zde, Zdp, Zah, Zai, Zap, Zan]
      refine ⟨by rw [Zay (su2.get yn6 (Own.lt yn6)), Zay yn6], ?_⟩
      exact got _ _ _ _ ((sb.cat su1).cat su2) z (Nat.le_refl _)
  have bx : ∀ u : Zaa, (u ++ [Zcg.cells Zab [.str [], .str []] false])[u.length]? = some (Zcg.cells Zab [.str [], .str []] false) := fun u => by simp
  simp only [Zay xw3, Zay xn3, Zas, Zah, Zan, Zaj, Zai]
  refine ⟨?_, ?_⟩
  · refine (Zqv (r.same (S1.cat S13)) b).mono ?_
    rintro v k4 ⟨b0, d0, f0, b1, d1, f1, ys, rfl, hd0, hd1, s4, W3⟩
    have xw4 := s4.get xw3 (Own.lt xw3)
    have xn4 := s4.get xn3 (Own.lt xn3)
    have S14 := S13.cat s4
    simp only [Zdp, Zah, Zaj, Zan, Zay xn4, Zay xw4, true_and]
    refine ⟨?_, ?_⟩
    · refine (Zmj (c := nd0.1) (t := nd0.2)).mono ?_
      rintro v k5 ⟨rfl, s5⟩
      have xw5 := s5.get xw4 (Own.lt xw4)
      have xn5 := s5.get xn4 (Own.lt xn4)
      have S15 := S14.cat s5
      simp only [Zdp, Zah, Zai, Zan, Zay xn5, Zay xw5, true_and]
      refine ⟨?_, ?_⟩
      · refine (Zkc ((W3.rep hd0 hd1).same s5) b hnt0).mono ?_
        rintro v k6 ⟨rfl, s6⟩
        have xw6 := s6.get xw5 (Own.lt xw5)
        have xn6 := s6.get xn5 (Own.lt xn5)
        have S16 := S15.cat s6
        have sb : Zbd k6.length k6 (k6 ++ [Zcg.cells Zab [.str [], .str []] false]) := Zam
        simp only [Zde, Zdp, Zah, Zai, Zap, Zan, Zax, Zay xn6, Zay xw6, true_and]
        refine ⟨by rw [Zay (sb.get xn6 (Own.lt xn6))], by rw [Zay (sb.get xw6 (Own.lt xw6))], ?_⟩
        exact want _ _ _ _ (S16.cat sb) (bx _) S16.le
      · have sb : Zbd k5.length k5 (k5 ++ [Zcg.cells Zab [.str [], .str []] false]) := Zam
        have xw6 := sb.get xw5 (Own.lt xw5)
        have xn6 := sb.get xn5 (Own.lt xn5)
        try simp only [Zax]
        refine ⟨by rw [Zay xn6], by rw [Zay xw6], ?_⟩
        refine (Zkc ((W3.rep hd0 hd1).same (s5.cat sb)) b hnt0).mono ?_
        rintro v k6 ⟨rfl, s6⟩
        have z := s6.get (bx k5) (Own.lt (bx k5))
        simp only [Zde, Zdp, Zah, Zai, Zap, Zan]
        refine ⟨by rw [Zay (s6.get xn6 (Own.lt xn6)), Zay xn6], by rw [Zay (s6.get xw6 (Own.lt xw6)), Zay xw6], ?_⟩
        exact want _ _ _ _ ((S15.cat sb).cat s6) z S15.le
    · have sb : Zbd k4.length k4 (k4 ++ [Zcg.cells Zab [.str [], .str []] false]) := Zam
      have xw6 := sb.get xw4 (Own.lt xw4)
      have xn6 := sb.get xn4 (Own.lt xn4)
      try simp only [Zax]
      refine ⟨by rw [Zay xn6], by rw [Zay xw6], ?_⟩
      refine (Zmj (c := nd0.1) (t := nd0.2)).mono ?_
      rintro v k5 ⟨rfl, s5⟩
      have z := s5.get (bx k4) (Own.lt (bx k4))
      have xw7 := s5.get xw6 (Own.lt xw6)
      have xn7 := s5.get xn6 (Own.lt xn6)
      simp only [Zdp, Zah, Zai, Zan]
      refine ⟨by rw [Zay xw7, Zay xw6], ?_⟩
      refine (Zkc ((W3.rep hd0 hd1).same (sb.cat s5)) b hnt0).mono ?_
      rintro v k6 ⟨rfl, s6⟩
      have z := s6.get z (Own.lt z)
      simp only [Zde, Zdp, Zah, Zai, Zap, Zan]
      refine ⟨by rw [Zay (s6.get xn7 (Own.lt xn7)), Zay xn7], by rw [Zay (s6.get xw7 (Own.lt xw7)), Zay xw7], ?_⟩
      exact want _ _ _ _ (((S14.cat sb).cat s5).cat s6) z S14.le
  · have sb : Zbd k3.length k3 (k3 ++ [Zcg.cells Zab [.str [], .str []] false]) := Zam
    have xw4 := sb.get xw3 (Own.lt xw3)
    have xn4 := sb.get xn3 (Own.lt xn3)
    try simp only [Zax]
    refine ⟨by rw [Zay xn4], by rw [Zay xw4], ?_⟩
    refine (Zqv (r.same ((S1.cat S13).cat sb)) b).mono ?_
    rintro v k4 ⟨b0, d0, f0, b1, d1, f1, ys, rfl, hd0, hd1, s4, W3⟩
    have xw5 := s4.get xw4 (Own.lt xw4)
    have xn5 := s4.get xn4 (Own.lt xn4)
    have z := s4.get (bx k3) (Own.lt (bx k3))
    simp only [Zdp, Zah, Zaj, Zan]
    refine ⟨by rw [Zay xn5, Zay xn4], ?_⟩
    refine (Zmj (c := nd0.1) (t := nd0.2)).mono ?_
    rintro v k5 ⟨rfl, s5⟩
    have z := s5.get z (Own.lt z)
    have xw6 := s5.get xw5 (Own.lt xw5)
    have xn6 := s5.get xn5 (Own.lt xn5)
    simp only [Zdp, Zah, Zai, Zan]
    refine ⟨by rw [Zay xw6, Zay xw5], ?_⟩
    refine (Zkc ((W3.rep hd0 hd1).same s5) b hnt0).mono ?_
    rintro v k6 ⟨rfl, s6⟩
    have z := s6.get z (Own.lt z)
    simp only [Zde, Zdp, Zah, Zai, Zap, Zan]
    refine ⟨by rw [Zay (s6.get xn6 (Own.lt xn6)), Zay xn6], by rw [Zay (s6.get xw6 (Own.lt xw6)), Zay xw6], ?_⟩
    exact want _ _ _ _ ((((S13.cat sb).cat s4).cat s5).cat s6) z S13.le
end Go.Sim

set_option linter.unusedVariables false
namespace Go.Sim
open Go Go.RowKit
end Go.Sim
