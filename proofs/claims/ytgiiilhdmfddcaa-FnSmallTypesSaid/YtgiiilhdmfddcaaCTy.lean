/- A part of the proof of a statement of this seat: see the text that holds the theorem. No condition. -/
import Derived.Test.YtgiiilhdmfddcaaPTCTy
import Derived.Test.YtgiiilhdmfddcaaCVec
import Derived.Test.YtgiiilhdmfddcaaPTy
import Derived.Test.YtgiiilhdmfddcaaSh
set_option linter.all false
set_option linter.unusedVariables false
set_option linter.unusedSimpArgs false
namespace Go.Sim
open Go Go.RowKit

@[simp] theorem sub_hd (c : Nat) (s : List Nat) : sub (c :: s) 0 1 = [c] := by simp [sub]
@[simp] theorem sub_tl (c : Nat) (s : List Nat) : sub (c :: s) 1 ((c :: s).length : Int) = s := by
  simp only [sub, Int.toNat_natCast, List.take_length]; rfl
theorem sub_tl' {s s' : List Nat} {c : Nat} (h : s = c :: s') : sub s 1 (s.length : Int) = s' := by subst h; exact sub_tl c s'
theorem leaf_mem (c : Nat) : decide (c ∈ [105, 98, 117, 120, 121, 122, 88, 89, 90]) = isLeafN c := by
  rw [Bool.eq_iff_iff]; simp [isLeafN, isVarN, or_assoc]
def arS (s : List Nat) : Int := match s with | [c] => arN c | _ => -1
theorem arity_ok {h : AHeap} (s : List Nat) : SCall pg n_impl_arity [.str s] h fun v h' => v = .int .i64 (arS s) ∧ h' = h := by
  apply F_impl_arity.call
  match s with
  | [] => simp [arS]
  | [c] =>
    simp only [List.length_cons, List.length_nil]
    simp only [show ((0 + 1 : Nat) : Int) = 1 from rfl, beq_self_eq_true, Bool.not_true, bcase_false]
    refine lib_contains.mono ?_
    rintro v h' ⟨rfl, rfl⟩
    simp only [xBool_some, leaf_mem]
    unfold arS
    cases hl : isLeafN c with
    | true => simp [arN, hl]
    | false =>
      simp only [bcase_false, if_false, Bool.false_eq_true]
      refine bcase_dec (fun e => by simp at e; subst e; exact ⟨rfl, by trivial⟩) fun e1 => bcase_dec (fun e => by simp at e; subst e; exact ⟨rfl, by trivial⟩) fun e2 => bcase_dec (fun e => by simp at e; subst e; exact ⟨rfl, by trivial⟩) fun e3 => ?_
      simp at e1 e2 e3
      apply F_impl_arity.J9i
      simp [arN, hl, e1, e2, e3]
  | _ :: _ :: r =>
    simp [arS]
    rw [show ((r.length : Int) + 1 + 1 == 1) = false by simp; omega]; simp

/-- A tree of nodes in memory, all of whose objects are among S. -/
def NRep (S : Nat → Prop) (h : AHeap) : Ty → Pt → Prop
  | .k d, p => ∃ i a c e, p = some (i, 0) ∧ S i ∧ h[i]? = some (.cells t_impl_node [.str [d], .slice a 0 c e, .ptr none] false)
  | .u d x, p => ∃ i j c e q, p = some (i, 0) ∧ S i ∧ h[i]? = some (.cells t_impl_node [.str [d], .slice (some (j, 0)) 1 c e, .ptr none] false) ∧ S j ∧ h[j]? = some (.cells t_P_impl_node [.ptr q] false) ∧ NRep S h x q
  | .w d x y, p => ∃ i j c e q r, p = some (i, 0) ∧ S i ∧ h[i]? = some (.cells t_impl_node [.str [d], .slice (some (j, 0)) 2 c e, .ptr none] false) ∧ S j ∧ h[j]? = some (.cells t_P_impl_node [.ptr q, .ptr r] false) ∧ NRep S h x q ∧ NRep S h y r
theorem NRep.mono {S S' : Nat → Prop} {h : AHeap} (hs : ∀ i, S i → S' i) : ∀ {t : Ty} {p : Pt}, NRep S h t p → NRep S' h t p
  | .k d, p, ⟨i, a, c, e, hp, si, hi⟩ => ⟨i, a, c, e, hp, hs _ si, hi⟩
  | .u d x, p, ⟨i, j, c, e, q, hp, si, hi, sj, hj, hq⟩ => ⟨i, j, c, e, q, hp, hs _ si, hi, hs _ sj, hj, hq.mono hs⟩
  | .w d x y, p, ⟨i, j, c, e, q, r, hp, si, hi, sj, hj, hq, hr⟩ => ⟨i, j, c, e, q, r, hp, hs _ si, hi, hs _ sj, hj, hq.mono hs, hr.mono hs⟩
theorem NRep.agree {S : Nat → Prop} {h h' : AHeap} (hh : ∀ i, S i → h'[i]? = h[i]?) : ∀ {t : Ty} {p : Pt}, NRep S h t p → NRep S h' t p
  | .k d, p, ⟨i, a, c, e, hp, si, hi⟩ => ⟨i, a, c, e, hp, si, by rw [hh i si]; exact hi⟩
  | .u d x, p, ⟨i, j, c, e, q, hp, si, hi, sj, hj, hq⟩ => ⟨i, j, c, e, q, hp, si, by rw [hh i si]; exact hi, sj, by rw [hh j sj]; exact hj, hq.agree hh⟩
  | .w d x y, p, ⟨i, j, c, e, q, r, hp, si, hi, sj, hj, hq, hr⟩ => ⟨i, j, c, e, q, r, hp, si, by rw [hh i si]; exact hi, sj, by rw [hh j sj]; exact hj, hq.agree hh, hr.agree hh⟩
theorem NRep.lt {S : Nat → Prop} {h : AHeap} : ∀ {t : Ty} {p : Pt}, NRep S h t p → ∃ i, p = some (i, 0) ∧ S i ∧ i < h.length
  | .k d, p, ⟨i, a, c, e, hp, si, hi⟩ => ⟨i, hp, si, Own.lt hi⟩
  | .u d x, p, ⟨i, j, c, e, q, hp, si, hi, _⟩ => ⟨i, hp, si, Own.lt hi⟩
  | .w d x y, p, ⟨i, j, c, e, q, r, hp, si, hi, _⟩ => ⟨i, hp, si, Own.lt hi⟩
/-- The node and its parts. -/
theorem NRep.parts {S : Nat → Prop} {h : AHeap} {t : Ty} {p : Pt} (r : NRep S h t p) : ∃ i a c e, ∃ qs : List Pt, p = some (i, 0) ∧ S i ∧ h[i]? = some (.cells t_impl_node [.str [t.hd], .slice a t.ps.length c e, .ptr none] false) ∧
    Row h.length h a t.ps.length (qs.map .ptr) ∧ (∀ j o, t.ps.length ≠ 0 → a = some (j, o) → S j) ∧ qs.length = t.ps.length ∧ ∀ (k : Nat) (q : Pt) (x : Ty), qs[k]? = some q → t.ps[k]? = some x → NRep S h x q := by
  cases t with
  | k d =>
    obtain ⟨i, a, c, e, hp, si, hi⟩ := r
    exact ⟨i, a, c, e, [], hp, si, hi, Row.nil, fun _ _ h => absurd rfl h, rfl, by simp⟩
  | u d x =>
    obtain ⟨i, j, c, e, q, hp, si, hi, sj, hj, hq⟩ := r
    refine ⟨i, _, c, e, [q], hp, si, hi, ⟨rfl, .inr ⟨j, 0, _, _, _, rfl, Own.lt hj, hj, by simp [Ty.ps], by simp [Ty.ps]⟩⟩, ?_, rfl, ?_⟩
    · rintro j' o' _ e; cases e; exact sj
    · intro k q' x' h1 h2
      cases k with
      | zero => simp [Ty.ps] at h1 h2; subst h1; subst h2; exact hq
      | succ k => simp at h1
  | w d x y =>
    obtain ⟨i, j, c, e, q, r, hp, si, hi, sj, hj, hq, hr⟩ := r
    refine ⟨i, _, c, e, [q, r], hp, si, hi, ⟨rfl, .inr ⟨j, 0, _, _, _, rfl, Own.lt hj, hj, by simp [Ty.ps], by simp [Ty.ps]⟩⟩, ?_, rfl, ?_⟩
    · rintro j' o' _ e; cases e; exact sj
    · intro k q' x' h1 h2
      match k with
      | 0 => simp [Ty.ps] at h1 h2; subst h1; subst h2; exact hq
      | 1 => simp [Ty.ps] at h1 h2; subst h1; subst h2; exact hr
      | k + 2 => simp at h1
/-- A node made of its parts. -/
theorem NRep.make {S : Nat → Prop} {h : AHeap} {t : Ty} {i : Nat} {a : Pt} {n c : Nat} {e : Bool} {qs : List Pt} (si : S i) (hi : h[i]? = some (.cells t_impl_node [.str [t.hd], .slice a n c e, .ptr none] false)) (hn : n = t.ps.length)
    (hv : Vec t_P_impl_node h a n c (qs.map .ptr)) (hl : qs.length = n) (ha : ∀ j, a = some (j, 0) → S j) (hq : ∀ (k : Nat) (q : Pt) (x : Ty), qs[k]? = some q → t.ps[k]? = some x → NRep S h x q) : NRep S h t (some (i, 0)) := by
  subst hn
  cases t with
  | k d => exact ⟨i, a, c, e, rfl, si, hi⟩
  | u d x =>
    rcases hv with ⟨_, h0, _⟩ | ⟨j, rfl, hj⟩
    · simp [Ty.ps] at h0
    · match qs, hl with
      | [q], _ => exact ⟨i, j, c, e, q, rfl, si, hi, ha j rfl, hj, hq 0 q x rfl rfl⟩
  | w d x y =>
    rcases hv with ⟨_, h0, _⟩ | ⟨j, rfl, hj⟩
    · simp [Ty.ps] at h0
    · match qs, hl with
      | [q, r], _ => exact ⟨i, j, c, e, q, r, rfl, si, hi, ha j rfl, hj, hq 0 q x rfl rfl, hq 1 r y rfl rfl⟩

theorem u_L_P_node : pg.underlying t_L_P_impl_node = some (.slice t_P_impl_node) := by kernel_rfl
theorem c_P_node : pg.cellsOf t_P_impl_node = 1 := by kernel_rfl
theorem k_P_node : pg.okElem t_P_impl_node = true := by kernel_rfl
theorem b_P_node : pg.bytesOf t_P_impl_node ≤ 127 := Nat.le_of_ble_eq_true (by kernel_rfl)

theorem sub_mark {g : Nat} (hg : g < 2) : sub [40, 44] (g : Int) (IntKind.wrap .i64 ((g : Int) + 1)) = [markN g] := by
  rcases g with _ | _ | g
  · rfl
  · rfl
  · omega
theorem prefix_one (c : Nat) (s : List Nat) : ([c] : List Nat).isPrefixOf s = true ↔ ∃ r, s = c :: r := by
  cases s with
  | nil => exact ⟨fun h => (by cases h), fun ⟨r, h⟩ => (by cases h)⟩
  | cons d r =>
    have : ([c] : List Nat).isPrefixOf (d :: r) = (c == d) := by show (c == d && _) = _; exact Bool.and_true _
    rw [this, beq_iff_eq]
    exact ⟨fun h => ⟨r, by rw [h]⟩, fun ⟨r', h⟩ => (by cases h; rfl)⟩
/-- Where in memory between two sizes of the heap. -/
def Btw (lo hi : Nat) : Nat → Prop := fun i => lo ≤ i ∧ i < hi
set_option maxRecDepth 20000 in
theorem readType_ok : ∀ (N : Nat) (s : List Nat), s.length ≤ N → ∀ h : AHeap, SCall pg n_impl_readType [.str s] h fun v h' => Same h.length h h' ∧ ∃ p r, v = .tup [.ptr p, .str r] ∧
    ((∃ t, Opens s t r ∧ NRep (Btw h.length h'.length) h' t p) ∨ (p = none ∧ ∀ t r', ¬ Opens s t r')) := by
  intro N
  induction N with
  | zero =>
    intro s hs h
    have : s = [] := List.eq_nil_of_length_eq_zero (by omega)
    subst this
    apply F_impl_readType.call
    simp
    exact ⟨Same.refl _ _, none, [], ⟨rfl, rfl⟩, .inr ⟨rfl, fun t r' => Opens.nil⟩⟩
  | succ N ih =>
    intro s hs h
    apply F_impl_readType.call
    match s, hs with
    | [], _ => simp; exact ⟨Same.refl _ _, none, [], ⟨rfl, rfl⟩, .inr ⟨rfl, fun t r' => Opens.nil⟩⟩
    | c :: s, hs =>
    simp only [List.length_cons] at hs
    simp only [reduceCtorEq, decide_false, bcase_false]
    refine ⟨⟨by omega, by omega, by simp; omega⟩, ?_⟩
    rw [sub_hd]
    refine (arity_ok [c]).mono ?_
    rintro v h1 ⟨rfl, rfl⟩
    simp only [xInt_some, arS]
    refine bcase_dec (fun hneg => ?_) (fun hge => ?_)
    · refine ⟨Same.refl _ _, _, _, rfl, .inr ⟨rfl, ?_⟩⟩
      rintro t r' ⟨ht, he⟩
      have := Ty.ok_ar ht
      obtain ⟨r, hr⟩ := t.txt_cons
      rw [hr] at he; simp at he
      rw [← he.1] at this; omega
    · apply F_impl_readType.J3i
      refine ⟨⟨by omega, by omega, by simp; omega⟩, ?_⟩
      simp only [letH_def]
      refine ⟨⟨by omega, by simp; omega, by simp⟩, ?_⟩
      rw [sub_hd, sub_tl]
      have hc0 : hCell (h1 ++ [AObj.cells t_impl_node [.str [c], .slice none 0 0 true, .ptr none] false]) (.ptr (some (h1.length, 0 + 0))) = some (.str [c]) := by simp [hCell]
      rw [hc0]
      simp only [xStr_some]
      refine (arity_ok [c]).mono ?_
      rintro v h2 ⟨rfl, rfl⟩
      simp only [xInt_some, arS]
      obtain ⟨m, hm⟩ : ∃ m : Nat, arN c = m := ⟨(arN c).toNat, by omega⟩
      have hm2 : m ≤ 2 := by unfold arN at hm; split at hm <;> try split at hm
                             all_goals try split at hm
                             all_goals omega
      rw [hm]
      refine F_impl_readType.L6ind _ _ _ _ (J := fun (g : Nat) x0 x28 h' => x28 = (g : Int) ∧ g ≤ m ∧ Same h1.length h1 h' ∧ h1.length < h'.length ∧ x0.length ≤ N ∧ ∃ (ps : List Ty) (qs : List Pt) (a : Pt) (cp : Nat) (e : Bool), ps.length = g ∧ qs.length = g ∧ (∀ p ∈ ps, p.ok = true) ∧ s = mids ps ++ x0 ∧
        h'[h1.length]? = some (.cells t_impl_node [.str [c], .slice a g cp e, .ptr none] false) ∧ Vec t_P_impl_node h' a g cp (qs.map .ptr) ∧ (∀ j, a = some (j, 0) → h1.length < j) ∧
        ∀ (k : Nat) (q : Pt) (x : Ty), qs[k]? = some q → ps[k]? = some x → ∃ lo hi, h1.length < lo ∧ hi ≤ h'.length ∧ (∀ j, a = some (j, 0) → ¬ Btw lo hi j) ∧ NRep (Btw lo hi) h' x q)
        (fun g => m - g) ?_ 0 _ _ _ ⟨rfl, by omega, Same.app (Nat.le_refl _) _, by simp, by omega, [], [], none, 0, true, rfl, rfl, by simp, by simp [mids], by simp, Vec.mk0, by simp, by simp⟩
      rintro g x0 x28 h' ⟨rfl, hg, hS, hlt1, hx0, ps, qs, a, cp, e, hps, hqs, hok, hs0, hnode, hvec, ha, hrep⟩ R hR
      unfold F_impl_readType.L6t
      have fail : ∀ (h2 : AHeap), Same h'.length h' h2 → (∀ t r', ¬ Opens (c :: s) t r') → Same h1.length h1 h2 ∧ ∃ p r, (AVal.tup [.ptr none, .str x0]) = .tup [.ptr p, .str r] ∧
          ((∃ t, Opens (c :: s) t r ∧ NRep (Btw h1.length h2.length) h2 t p) ∨ (p = none ∧ ∀ t r', ¬ Opens (c :: s) t r')) :=
        fun h2 s2 hno => ⟨hS.trans (s2.mono hS.le), none, x0, rfl, .inr ⟨rfl, hno⟩⟩
      have step : ∀ t r', Opens (c :: s) t r' → t.hd = c ∧ t.ps.length = m ∧ ps = t.ps.take ps.length ∧ (ps.length < t.ps.length → ∃ p s', x0 = markN ps.length :: s' ∧ ∃ r', Opens s' p r') ∧ (ps.length = t.ps.length → x0 = (if t.ps = [] then r' else 41 :: r')) := by
        intro t r' ho
        have h1 := Ty.ok_ar ho.1
        have hhd : t.hd = c := by
          obtain ⟨r, hr⟩ := t.txt_cons
          have := ho.2; rw [hr] at this; simp at this; exact this.1.symm
        rw [hhd, hm] at h1
        rw [hs0] at ho
        have := ho.step hok (by omega)
        exact ⟨hhd, by omega, this.2⟩
      refine bcase_dec (fun hlt => ?_) (fun hge2 => ?_)
      · have hlt' : g < m := by omega
        refine ⟨⟨by omega, ?_, ?_⟩, ?_⟩
        · rw [IntWalk.i64_in _ (by omega)]; omega
        · rw [IntWalk.i64_in _ (by omega)]; simp; omega
        rw [sub_mark (by omega)]
        refine lib_hasPrefix.mono ?_
        rintro v h2 ⟨rfl, rfl⟩
        simp only [xBool_some]
        cases hp : ([markN g] : List Nat).isPrefixOf x0 with
        | false =>
          simp only [Bool.not_false, bcase_true]
          refine fail _ (Same.refl _ _) fun t r' ho => ?_
          obtain ⟨_, hl, _, hst, _⟩ := step t r' ho
          obtain ⟨p, s', hx, _⟩ := hst (by omega)
          rw [hps] at hx
          have : ([markN g] : List Nat).isPrefixOf x0 = true := (prefix_one _ _).2 ⟨_, hx⟩
          rw [hp] at this; cases this
        | true =>
          obtain ⟨s', hx⟩ := (prefix_one _ _).1 hp
          simp only [Bool.not_true, bcase_false]
          refine ⟨⟨by omega, by rw [hx]; simp; omega, by omega⟩, ?_⟩
          rw [sub_tl' hx]
          have hsl : s'.length ≤ N := by rw [hx] at hx0; simp at hx0; omega
          refine (ih s' hsl h2).mono ?_
          rintro v h3 ⟨hS3, p, r, rfl, hres⟩
          simp only [xTup_tup, xCons_cons, xPtr_some, xStr_some, xNil_nil]
          rcases hres with ⟨t, ho, hn⟩ | ⟨rfl, hno⟩
          · obtain ⟨i, rfl, hbi, hil⟩ := hn.lt
            simp only [Option.isNone_some, bcase_false]
            have hn3 : h3[h1.length]? = some (.cells t_impl_node [.str [c], .slice a g cp e, .ptr none] false) := by rw [hS3.eq _ hlt1]; exact hnode
            have hcell : hCell h3 (.ptr (some (h1.length, 0 + 1))) = some (.slice a g cp e) := by simp [hCell, hn3]
            rw [hcell]
            simp only [xSl_some, letH_def]
            refine (hvec.same hS3).push u_L_P_node c_P_node k_P_node b_P_node (by simp [hqs]) rfl (by omega) (fun h4 hl4 hi4 hk4 => ?_)
            simp only [xSl_some]
            have hn4 : h4[h1.length]? = some (.cells t_impl_node [.str [c], .slice a g cp e, .ptr none] false) := by
              rw [hk4 _ (Own.lt hn3) fun i hi => by have := ha i hi; omega]; exact hn3
            have hst : hStore h4 (.ptr (some (h1.length, 0 + 1))) [.slice (some (h3.length + 1, 0)) (g + 1) (g + 1) false] = some (h4.set h1.length (.cells t_impl_node [.str [c], .slice (some (h3.length + 1, 0)) (g + 1) (g + 1) false, .ptr none] false)) := by
              simp [hStore, hn4, putRow]
            rw [hst]
            simp only [xHeap_some]
            rw [IntWalk.i64_in _ (by omega)]
            have hle3 := hS3.le
            have hset : ∀ j, j ≠ h1.length → (h4.set h1.length (AObj.cells t_impl_node [.str [c], .slice (some (h3.length + 1, 0)) (g + 1) (g + 1) false, .ptr none] false))[j]? = h4[j]? := fun j hj => List.getElem?_set_ne (by omega)
            have hsame : ∀ j, j < h1.length → h4[j]? = h1[j]? := fun j hj => by
              rw [hk4 j (by omega) fun i hi => by have := ha i hi; omega, hS3.eq j (by omega), hS.eq j hj]
            refine hR (g + 1) _ _ _ (by omega) ⟨by omega, by omega, ⟨by simp; omega, fun j hj => by rw [hset j (by omega)]; exact hsame j hj⟩, by simp; omega, ?_, ps ++ [t], qs ++ [some (i, 0)], some (h3.length + 1, 0), g + 1, false, by simp [hps], by simp [hqs], ?_, ?_, ?_, ?_, ?_, ?_⟩
            · have := ho.2; have hl := congrArg List.length this; simp at hl; omega
            · intro p hp
              rcases List.mem_append.1 hp with hp | hp
              · exact hok p hp
              · simp at hp; subst hp; exact ho.1
            · rw [hs0, hx, ho.2]
              match ps, hps, hlt' with
              | [], hps, _ => subst hps; simp [mids, markN]
              | [x], hps, _ => subst hps; simp [mids, markN]
              | x :: y :: l, hps, _ => simp at hps; omega
            · rw [List.getElem?_set_self (by omega)]
            · refine Vec.mk1 ?_
              rw [hset _ (by omega)]
              simpa using hi4
            · intro j hj; cases hj; omega
            · intro k q x hq hx'
              by_cases hkg : k < g
              · rw [List.getElem?_append_left (by omega)] at hq hx'
                obtain ⟨lo, hi, hlo, hhi, hbt, hnr⟩ := hrep k q x hq hx'
                refine ⟨lo, hi, hlo, by simp; omega, fun j hj hb => by cases hj; have := hb.2; omega, hnr.agree fun j hb => ?_⟩
                have := hb.1; have := hb.2
                rw [hset j (by omega), hk4 j (by omega) fun i hi => fun e => hbt i hi (e ▸ hb), hS3.eq j (by omega)]
              · have hkg' : k = g := by
                  have := (List.getElem?_eq_some_iff.1 hq).1; simp at this; omega
                subst hkg'
                rw [List.getElem?_append_right (by omega)] at hq hx'
                simp [hps, hqs] at hq hx'
                subst hq; subst hx'
                refine ⟨h2.length, h3.length, by omega, by simp; omega, fun j hj hb => by cases hj; have := hb.2; omega, hn.agree fun j hb => ?_⟩
                have := hb.1; have := hb.2
                rw [hset j (by omega), hk4 j (by omega) fun i hi => fun e => by
                  subst e
                  rw [hi] at hvec
                  have := hvec.lt
                  omega]
          · simp only [Option.isNone_none, bcase_true]
            refine fail _ hS3 fun t r' ho => ?_
            obtain ⟨_, hl, _, hst, _⟩ := step t r' ho
            obtain ⟨p, s2, hx2, r2, ho2⟩ := hst (by omega)
            rw [hps, hx] at hx2
            simp at hx2
            rw [← hx2] at ho2
            exact hno _ _ ho2
      · have hgm : g = m := by omega
        subst hgm
        apply F_impl_readType.A6x0i
        have hcell : hCell h' (.ptr (some (h1.length, 0 + 1))) = some (.slice a g cp e) := by simp [hCell, hnode]
        rw [hcell]
        simp only [xSl_some]
        have mk : ∀ t r', Opens (c :: s) t r' → NRep (Btw h1.length h'.length) h' t (some (h1.length, 0)) := by
          intro t r' ho
          obtain ⟨hhd, hl, htk, _⟩ := step t r' ho
          rw [hps, ← hl, List.take_length] at htk
          refine NRep.make (S := Btw h1.length h'.length) (a := a) (n := g) (c := cp) (e := e) (qs := qs) ⟨Nat.le_refl _, hlt1⟩ (by rw [hhd]; exact hnode) (by omega) hvec hqs (fun j hj => ⟨by have := ha j hj; omega, by subst hj; exact hvec.lt⟩) fun k q x hq hx => ?_
          rw [← htk] at hx
          obtain ⟨lo, hi, hlo, hhi, hbt, hnr⟩ := hrep k q x hq hx
          exact hnr.mono fun i hb => ⟨by have := hb.1; omega, by have := hb.2; omega⟩
        -- the type that was read
        have hty : ∃ t : Ty, t.ok = true ∧ t.hd = c ∧ t.ps = ps := by
          match ps, hps, hok with
          | [], hps, _ =>
            have h0 : arN c = 0 := by simp at hps; omega
            refine ⟨.k c, ?_, rfl, rfl⟩
            simp only [Ty.ok]
            cases hl : isLeafN c with
            | true => rfl
            | false => unfold arN at h0; rw [hl] at h0; simp at h0; split at h0 <;> try split at h0
                       all_goals omega
          | [x], hps, hok =>
            have h0 : arN c = 1 := by simp at hps; omega
            refine ⟨.u c x, ?_, rfl, rfl⟩
            simp only [Ty.ok, hok x (by simp), Bool.and_true, Bool.or_eq_true, beq_iff_eq]
            unfold arN at h0; split at h0
            · omega
            · split at h0
              · rename_i h; simpa using h
              · split at h0 <;> omega
          | [x, y], hps, hok =>
            have h0 : arN c = 2 := by simp at hps; omega
            refine ⟨.w c x y, ?_, rfl, rfl⟩
            simp only [Ty.ok, hok x (by simp), hok y (by simp), Bool.and_true, beq_iff_eq]
            unfold arN at h0; split at h0
            · omega
            · split at h0
              · omega
              · split at h0
                · rename_i h; simpa using h
                · omega
          | _ :: _ :: _ :: _, hps, _ => simp at hps; omega
        obtain ⟨t, htok, hthd, htps⟩ := hty
        refine bcase_dec (fun hpos => ?_) (fun hz => ?_)
        · refine lib_hasPrefix.mono ?_
          rintro v h2 ⟨rfl, rfl⟩
          simp only [xBool_some]
          have hne : ps ≠ [] := by intro e; subst e; simp at hps; omega
          cases hp : ([41] : List Nat).isPrefixOf x0 with
          | false =>
            simp only [Bool.not_false, bcase_true]
            refine fail _ (Same.refl _ _) fun t r' ho => ?_
            obtain ⟨_, hl, htk, _, hst⟩ := step t r' ho
            have := hst (by omega)
            have hne : t.ps ≠ [] := by intro e; rw [e] at hl; simp at hl; omega
            rw [if_neg hne] at this
            have : ([41] : List Nat).isPrefixOf x0 = true := (prefix_one _ _).2 ⟨_, this⟩
            rw [hp] at this; cases this
          | true =>
            obtain ⟨s', hx⟩ := (prefix_one _ _).1 hp
            simp only [Bool.not_true, bcase_false]
            refine ⟨⟨by omega, by rw [hx]; simp; omega, by omega⟩, ?_⟩
            rw [sub_tl' hx]
            apply F_impl_readType.J20i
            have ho : Opens (c :: s) t s' := by
              refine ⟨htok, ?_⟩
              rw [hs0, hx]
              cases t with
              | k d => simp [Ty.ps] at htps; subst htps; exact absurd rfl hne
              | u d x => simp [Ty.ps] at htps; subst htps; simp [Ty.hd] at hthd; subst hthd; simp [mids, Ty.txt]
              | w d x y => simp [Ty.ps] at htps; subst htps; simp [Ty.hd] at hthd; subst hthd; simp [mids, Ty.txt]
            exact ⟨hS, _, _, rfl, .inl ⟨t, ho, mk _ _ ho⟩⟩
        · apply F_impl_readType.J20i
          have h0 : ps = [] := List.eq_nil_of_length_eq_zero (by omega)
          subst h0
          have ho : Opens (c :: s) t x0 := by
            refine ⟨htok, ?_⟩
            rw [hs0]
            cases t with
            | k d => simp [Ty.hd] at hthd; subst hthd; simp [mids, Ty.txt]
            | u d x => simp [Ty.ps] at htps
            | w d x y => simp [Ty.ps] at htps
          exact ⟨hS, _, _, rfl, .inl ⟨t, ho, mk _ _ ho⟩⟩

/-- typeOf: the tree of a text, or nil. -/
theorem typeOf_ok (s : List Nat) (h : AHeap) : SCall pg n_impl_typeOf [.str s] h fun v h' => Same h.length h h' ∧ ∃ p, v = .ptr p ∧ (match ofTxt s with | some t => NRep (Btw h.length h'.length) h' t p | none => p = none) := by
  apply F_impl_typeOf.call
  refine bcase_dec (fun hl => ?_) (fun hl => ?_)
  · have : ofTxt s = none := by unfold ofTxt; rw [if_neg (by omega)]
    rw [this]
    exact ⟨Same.refl _ _, none, rfl, rfl⟩
  · refine (readType_ok s.length s (Nat.le_refl _) h).mono ?_
    rintro v h1 ⟨hS, p, r, rfl, hres⟩
    simp only [xTup_tup, xCons_cons, xPtr_some, xStr_some, xNil_nil]
    have hof : ofTxt s = tyAny s := by unfold ofTxt; rw [if_pos (by omega)]
    rw [hof]
    rcases hres with ⟨t, ho, hn⟩ | ⟨rfl, hno⟩
    · by_cases hr : r = []
      · subst hr
        have : tyAny s = some t := tyAny_some.2 ⟨ho.1, by simpa using ho.2⟩
        simp [this]; exact ⟨hS, hn⟩
      · have : tyAny s = none := tyAny_none.2 fun t' ht' e => by
          have := Opens.unique ho ⟨ht', show s = t'.txt ++ [] by simpa using e⟩
          exact hr this.2
        simp [hr, this]; exact hS
    · have : tyAny s = none := tyAny_none.2 fun t' ht' e => hno t' [] ⟨ht', by simpa using e⟩
      rw [this]
      by_cases hr : r = []
      · simp [hr]; exact hS
      · simp [hr]; exact hS
theorem typeValid_ok (s : List Nat) (h : AHeap) : SCall pg n_impl_TypeValid [.str s] h fun v h' => v = .bool (tyOk s) ∧ Same h.length h h' := by
  apply F_impl_TypeValid.call
  refine (typeOf_ok s h).mono ?_
  rintro v h1 ⟨hS, p, rfl, hp⟩
  simp only [xPtr_some]
  unfold tyOk
  cases ho : ofTxt s with
  | none => rw [ho] at hp; subst hp; simp; exact hS
  | some t => rw [ho] at hp; obtain ⟨i, rfl, _⟩ := hp.lt; simp; exact hS
end Go.Sim
