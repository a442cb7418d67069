/- A part of the proof of a statement of this seat: see the text that holds the theorem. No condition. -/
import Derived.Test.YtlljbdepamknoaaPTC1
import Derived.Test.YtlljbdepamknoaaCTy
import Derived.Test.YtlljbdepamknoaaSimX
import Derived.Test.YtlljbdepamknoaaNm
import Derived.Test.YtlljbdepamknoaaPTCOwn
set_option linter.unusedVariables false
set_option linter.unusedSimpArgs false
set_option linter.all false
set_option linter.unusedVariables false
set_option linter.unusedSimpArgs false
set_option maxRecDepth 20000
namespace Go.Sim
open Go Go.RowKit

theorem Yfm {s : List Nat} {c g : Nat} (h : s[g]? = some c) (hn : c ∉ s.take g) : Zoy s c = g := by
  induction s generalizing g with
  | nil => simp at h
  | cons b s ih =>
    cases g with
    | zero => simp at h; subst h; simp [Zoy]
    | succ g =>
      simp at h hn
      have := ih h hn.2
      have hb : ¬ b = c := fun e => hn.1 e.symm
      simp only [Zoy, beq_iff_eq, hb, if_false, this]
      rw [if_neg (by omega)]; omega
theorem Zsn {s : List Nat} {c : Nat} (hn : c ∉ s) : Zoy s c = -1 := by
  have := (Ycw s c).2 hn; have := Ybl s c; omega
theorem Zxi {s : List Nat} {g : Nat} (h : g < s.length) : s.getD g 0 = s[g] := by simp [List.getD, h]
theorem Zvq {h : Zaa} (s : List Nat) (c : Nat) (hs : s.length ≤ 9223372036854775807) : Zae pg Zgb [.str s, .int .u8 (c : Int)] h fun v h' => v = .int .i64 (Zoy s c) ∧ h' = h := by
  apply Zfz.call
  refine Zfz.L2ind _ _ _ (J := fun (g : Nat) x5 h' => x5 = (g : Int) ∧ h' = h ∧ g ≤ s.length ∧ c ∉ s.take g) (fun g => s.length - g) ?_ 0 _ _ ⟨rfl, rfl, by omega, by simp⟩
  rintro g x5 h' ⟨rfl, rfl, hg, hn⟩ R hR
  unfold Zfz.L2t
  refine Zam (fun hlt => ?_) (fun hge => ?_)
  · have hlt' : g < s.length := by omega
    refine ⟨⟨by omega, by omega⟩, ?_⟩
    rw [Int.toNat_natCast, Zxi hlt']
    refine Zfr (fun he => ?_) (fun he => ?_)
    · exact ⟨by rw [Yfm (g := g) (by rw [List.getElem?_eq_getElem hlt', Int.ofNat.inj he]) hn], rfl⟩
    · rw [IntWalk.i64_in _ (by omega)]
      refine hR (g + 1) _ _ (by omega) ⟨by omega, rfl, by omega, ?_⟩
      rw [List.take_succ_eq_append_getElem hlt']
      simp only [List.mem_append, List.mem_singleton, not_or]
      exact ⟨hn, fun e => he (by rw [e])⟩
  · have : g = s.length := by omega
    subst this
    rw [List.take_length] at hn
    apply Zfz.A2x0i
    rw [Zsn hn]; exact ⟨rfl, rfl⟩
theorem Yhd (c : Nat) : (if Zoy [105, 98, 117, 108, 109, 112, 120, 121, 122, 88, 89, 90] c < 0 then (-1 : Int) else if Zoy [105, 98, 117, 108, 109, 112, 120, 121, 122, 88, 89, 90] c = 3 then 1 else if Zoy [105, 98, 117, 108, 109, 112, 120, 121, 122, 88, 89, 90] c = 4 then 1 else if Zoy [105, 98, 117, 108, 109, 112, 120, 121, 122, 88, 89, 90] c = 5 then 2 else 0) = arN c := by
  by_cases h : c ∈ [105, 98, 117, 108, 109, 112, 120, 121, 122, 88, 89, 90]
  · simp at h
    rcases h with rfl | rfl | rfl | rfl | rfl | rfl | rfl | rfl | rfl | rfl | rfl | rfl <;> rfl
  · rw [Zsn h]
    simp at h
    simp [arN, Zlp, Zgr, h]
theorem Yfr (c : Nat) : decide (Zoy [105, 98, 117, 108, 109, 112, 120, 121, 122, 88, 89, 90] c ≥ 6) = Zgr c := by
  by_cases h : c ∈ [105, 98, 117, 108, 109, 112, 120, 121, 122, 88, 89, 90]
  · simp at h
    rcases h with rfl | rfl | rfl | rfl | rfl | rfl | rfl | rfl | rfl | rfl | rfl | rfl <;> rfl
  · rw [Zsn h]
    simp at h
    simp [Zgr, h]
theorem Zyc {h : Zaa} (c : Nat) : Zae pg Zhu [.int .u8 (c : Int)] h fun v h' => v = .int .i64 (arN c) ∧ h' = h := by
  apply Zjl.call
  refine (Zvq _ c (by simp)).mono ?_
  rintro v h1 ⟨rfl, rfl⟩
  simp only [Zbe]
  rw [← Yhd c]
  generalize Zoy [105, 98, 117, 108, 109, 112, 120, 121, 122, 88, 89, 90] c = k
  refine Zam (fun hk => ?_) (fun hk => ?_)
  · rw [if_pos hk]; exact ⟨rfl, by trivial⟩
  · rw [if_neg hk]
    refine Zfr (fun h3 => ?_) (fun h3 => ?_)
    · rw [if_pos h3]; exact ⟨rfl, by trivial⟩
    · rw [if_neg h3]
      refine Zfr (fun h4 => ?_) (fun h4 => ?_)
      · rw [if_pos h4]; exact ⟨rfl, by trivial⟩
      · rw [if_neg h4]
        refine Zfr (fun h5 => ?_) (fun h5 => ?_)
        · rw [if_pos h5]; exact ⟨rfl, by trivial⟩
        · rw [if_neg h5]; apply Zjl.J8i; exact ⟨rfl, by trivial⟩

def rdr (s : List Nat) (k : Nat) (b : Bool) : Zck := .cells Zcn [.str s, .int .i64 (k : Int), .bool b] false
theorem Yci {s : List Nat} {k : Nat} (h : k < s.length) : s.drop k = s[k] :: s.drop (k + 1) := List.drop_eq_getElem_cons h
theorem Zwh {h : Zaa} {i : Nat} {s : List Nat} {k : Nat} {b : Bool} (hi : h[i]? = some (rdr s k b)) (hk : k ≤ s.length) (hs : s.length ≤ 9223372036854775807) : Zae pg Zdt [.ptr (some (i, 0))] h fun v h' =>
    (∃ c : Nat, s.drop k = c :: s.drop (k + 1) ∧ k < s.length ∧ v = .int .u8 (c : Int) ∧ h' = h.set i (rdr s (k + 1) b)) ∨ (s.drop k = [] ∧ v = .int .u8 0 ∧ h' = h.set i (rdr s k true)) := by
  unfold rdr at hi
  apply Zih.call
  simp only [Zba, Zau hi, Nat.zero_add, List.getElem?_cons_zero, List.getElem?_cons_succ, Zbe, Zal]
  refine ⟨by trivial, Zam (fun hge => ?_) (fun hl => ?_)⟩
  · rw [Zbb hi (by simp)]
    exact .inr ⟨List.drop_eq_nil_of_le (by omega), by trivial, rfl⟩
  · have hl' : k < s.length := by omega
    rw [Zbb hi (by simp)]
    simp only [Zar, Zau (Zbn hi)]
    rw [IntWalk.i64_in _ (by omega)]
    simp only [Zbi, List.take_succ_cons, List.take_zero, List.length_cons, List.length_nil, List.cons_append, List.nil_append, List.drop_succ_cons, List.drop_zero, List.getElem?_cons_zero, List.getElem?_cons_succ, Zbe, Zal]
    rw [IntWalk.i64_in _ (by omega)]
    refine ⟨by trivial, ⟨by omega, by omega⟩, .inl ⟨s[k], Yci hl', hl', ?_, ?_⟩⟩
    · have : ((k : Int) + 1 - 1).toNat = k := by omega
      rw [this, Zxi hl']
    · simp [rdr]
def Zii (S : Nat → Prop) (h : Zaa) : Ty → List Zag → Prop
  | .k d, v => ∃ a c e, v = [.int .u8 (d : Int), .slice a 0 c e]
  | .u d x, v => ∃ j c e r, v = [.int .u8 (d : Int), .slice (some (j, 0)) 1 c e] ∧ S j ∧ h[j]? = some (.cells Zaj r false) ∧ Zii S h x r
  | .w d x y, v => ∃ j c e r r', v = [.int .u8 (d : Int), .slice (some (j, 0)) 2 c e] ∧ S j ∧ h[j]? = some (.cells Zaj (r ++ r') false) ∧ Zii S h x r ∧ Zii S h y r'
theorem Zii.mono {S S' : Nat → Prop} {h : Zaa} (hs : ∀ i, S i → S' i) : ∀ {t : Ty} {v : List Zag}, Zii S h t v → Zii S' h t v
  | .k d, _, h => h
  | .u d x, _, ⟨j, c, e, r, hv, sj, hj, hr⟩ => ⟨j, c, e, r, hv, hs _ sj, hj, hr.mono hs⟩
  | .w d x y, _, ⟨j, c, e, r, r', hv, sj, hj, hr, hr'⟩ => ⟨j, c, e, r, r', hv, hs _ sj, hj, hr.mono hs, hr'.mono hs⟩
theorem Zii.agree {S : Nat → Prop} {h h' : Zaa} (hh : ∀ i, S i → h'[i]? = h[i]?) : ∀ {t : Ty} {v : List Zag}, Zii S h t v → Zii S h' t v
  | .k d, _, h => h
  | .u d x, _, ⟨j, c, e, r, hv, sj, hj, hr⟩ => ⟨j, c, e, r, hv, sj, by rw [hh j sj]; exact hj, hr.agree hh⟩
  | .w d x y, _, ⟨j, c, e, r, r', hv, sj, hj, hr, hr'⟩ => ⟨j, c, e, r, r', hv, sj, by rw [hh j sj]; exact hj, hr.agree hh, hr'.agree hh⟩
theorem Zii.shape {S : Nat → Prop} {h : Zaa} {t : Ty} {v : List Zag} (r : Zii S h t v) : ∃ a c e, v = [.int .u8 (t.hd : Int), .slice a t.ps.length c e] := by
  cases t with
  | k d => exact r
  | u d x => obtain ⟨j, c, e, r, hv, _⟩ := r; exact ⟨_, c, e, hv⟩
  | w d x y => obtain ⟨j, c, e, r, r', hv, _⟩ := r; exact ⟨_, c, e, hv⟩
theorem Zii.len {S : Nat → Prop} {h : Zaa} {t : Ty} {v : List Zag} (r : Zii S h t v) : v.length = 2 := by obtain ⟨a, c, e, rfl⟩ := r.shape; rfl
theorem Zii.leaf {S : Nat → Prop} {h : Zaa} {t : Ty} {v : List Zag} (r : Zii S h t v) : v.all Zag.leaf = true := by obtain ⟨a, c, e, rfl⟩ := r.shape; rfl
theorem Zii.parts {S : Nat → Prop} {h : Zaa} {t : Ty} {v : List Zag} (r : Zii S h t v) : ∃ a c e, ∃ vs : List (List Zag), v = [.int .u8 (t.hd : Int), .slice a t.ps.length c e] ∧ Row h.length h a (t.ps.length * 2) vs.flatten ∧
    (∀ j o, t.ps.length ≠ 0 → a = some (j, o) → S j) ∧ vs.length = t.ps.length ∧ ∀ (k : Nat) (w : List Zag) (x : Ty), vs[k]? = some w → t.ps[k]? = some x → Zii S h x w := by
  cases t with
  | k d => obtain ⟨a, c, e, rfl⟩ := r; exact ⟨a, c, e, [], rfl, Row.nil, fun _ _ h => absurd rfl h, rfl, by simp⟩
  | u d x =>
    obtain ⟨j, c, e, r, rfl, sj, hj, hr⟩ := r
    have hl := hr.len
    refine ⟨_, c, e, [r], rfl, ⟨by simp [Ty.ps, hl], .inr ⟨j, 0, _, _, _, rfl, Own.lt hj, hj, by simp [Ty.ps, hl], by simp [Ty.ps]; rw [List.take_of_length_le (by omega)]⟩⟩, fun j' o' _ e => by cases e; exact sj, rfl, ?_⟩
    intro k w x' h1 h2
    cases k with
    | zero => simp [Ty.ps] at h1 h2; subst h1; subst h2; exact hr
    | succ k => simp at h1
  | w d x y =>
    obtain ⟨j, c, e, r, r', rfl, sj, hj, hr, hr'⟩ := r
    have hl := hr.len
    have hl' := hr'.len
    refine ⟨_, c, e, [r, r'], rfl, ⟨by simp [Ty.ps, hl, hl'], .inr ⟨j, 0, _, _, _, rfl, Own.lt hj, hj, by simp [Ty.ps, hl, hl'], by simp [Ty.ps]; rw [List.take_of_length_le (by simp; omega)]⟩⟩, fun j' o' _ e => by cases e; exact sj, rfl, ?_⟩
    intro k w x' h1 h2
    match k with
    | 0 => simp [Ty.ps] at h1 h2; subst h1; subst h2; exact hr
    | 1 => simp [Ty.ps] at h1 h2; subst h1; subst h2; exact hr'
    | k + 2 => simp at h1
theorem Zii.make {S : Nat → Prop} {h : Zaa} {t : Ty} {j n c : Nat} {e : Bool} {vs : List (List Zag)} (hn : n = t.ps.length) (sj : S j) (hj : h[j]? = some (.cells Zaj vs.flatten false)) (hl : vs.length = n)
    (hq : ∀ (k : Nat) (w : List Zag) (x : Ty), vs[k]? = some w → t.ps[k]? = some x → Zii S h x w) : Zii S h t [.int .u8 (t.hd : Int), .slice (some (j, 0)) n c e] := by
  subst hn
  cases t with
  | k d => exact ⟨_, c, e, rfl⟩
  | u d x =>
    match vs, hl with
    | [r], _ => exact ⟨j, c, e, r, rfl, sj, by simpa using hj, hq 0 r x rfl rfl⟩
  | w d x y =>
    match vs, hl with
    | [r, r'], _ => exact ⟨j, c, e, r, r', rfl, sj, by simpa using hj, hq 0 r x rfl rfl, hq 1 r' y rfl rfl⟩

theorem Zyo : pg.underlying Zls = some (.slice Zaj) := by kernel_rfl
theorem Ydr : pg.cellsOf Zaj = 2 := by kernel_rfl
theorem Ycq : pg.okElem Zaj = true := by kernel_rfl
theorem Yek : pg.bytesOf Zaj ≤ 127 := Nat.le_of_ble_eq_true (by kernel_rfl)
theorem Yah (vs : List (List Zag)) (r : List Zag) : (vs ++ [r]).flatten = vs.flatten ++ r := by simp
theorem Ydc {vs : List (List Zag)} (h : ∀ v ∈ vs, v.length = 2) : vs.flatten.length = vs.length * 2 := by
  induction vs with
  | nil => rfl
  | cons v vs ih => rw [List.flatten_cons, List.length_append, h v (by simp), ih fun w hw => h w (by simp [hw]), List.length_cons]; omega
theorem Yji {c : Nat} {ps : List Ty} (hok : ∀ p ∈ ps, p.ok = true) (ha : arN c = ps.length) : ∃ t : Ty, t.ok = true ∧ t.hd = c ∧ t.ps = ps := by
  match ps, ha, hok with
  | [], h0, _ =>
    refine ⟨.k c, ?_, rfl, rfl⟩
    simp only [Ty.ok]
    cases hl : Zlp c with
    | true => rfl
    | false => unfold arN at h0; rw [hl] at h0; simp at h0; split at h0 <;> try split at h0
               all_goals omega
  | [x], h0, hok =>
    refine ⟨.u c x, ?_, rfl, rfl⟩
    simp only [Ty.ok, hok x (by simp), Bool.and_true, Bool.or_eq_true, beq_iff_eq]
    simp at h0
    unfold arN at h0; split at h0
    · omega
    · split at h0
      · rename_i h; simpa using h
      · split at h0 <;> omega
  | [x, y], h0, hok =>
    refine ⟨.w c x y, ?_, rfl, rfl⟩
    simp only [Ty.ok, hok x (by simp), hok y (by simp), Bool.and_true, beq_iff_eq]
    simp at h0
    unfold arN at h0; split at h0
    · omega
    · split at h0
      · omega
      · split at h0
        · rename_i h; simpa using h
        · omega
  | _ :: _ :: _ :: r, h0, _ =>
    simp at h0; unfold arN at h0; split at h0 <;> try split at h0
    all_goals try split at h0
    all_goals omega
theorem Yig (t : Ty) (r : List Nat) : t.txt ++ r = t.hd :: (Ztg t.ps ++ (if t.ps = [] then r else 41 :: r)) := by
  cases t <;> simp [Ty.txt, Ty.hd, Ty.ps, Ztg]
def Zqn (i : Nat) (s : List Nat) (k : Nat) (h : Zaa) (v : Zag) (h' : Zaa) : Prop :=
  Zjx i h h' ∧ ∃ (d : Nat) (a : Pt) (n c : Nat) (e : Bool) (k' : Nat) (bad : Bool), v = .agg [.int .u8 (d : Int), .slice a n c e] ∧ h'[i]? = some (rdr s k' bad) ∧ k' ≤ s.length ∧
    ((bad = false ∧ ∃ t, Zfs (s.drop k) t (s.drop k') ∧ Zii (Btw h.length h'.length) h' t [.int .u8 (d : Int), .slice a n c e]) ∨ (bad = true ∧ ∀ t r, ¬ Zfs (s.drop k) t r))

theorem Zph {s : List Nat} {k i : Nat} {h h' : Zaa} {k1 c i2 i3 n cp : Nat} {bad e : Bool} {a : Pt} {x y : Zag} (hil : i < h.length) (hK : Zjx i h h') (hgi : h'[i]? = some (rdr s k1 bad)) (hk1 : k1 ≤ s.length)
    (hi2 : h'[i2]? = some (.cells Zaj [x, y] false)) (hl2 : h.length ≤ i2) (hne : i2 ≠ i3) (hi3 : h'[i3]? = some (.cells Zaj [.int .u8 (c : Int), .slice a n cp e] false))
    (hfin : (bad = false ∧ ∃ t, Zfs (s.drop k) t (s.drop k1) ∧ Zii (fun x => Btw h.length h'.length x ∧ x ≠ i2) h' t [.int .u8 (c : Int), .slice a n cp e]) ∨ (bad = true ∧ ∀ t r, ¬ Zfs (s.drop k) t r)) :
    Zay.J12 (Zqn i s k h) i3 0 i2 0 h' := by
  apply Zay.J12i
  rw [Zha hi3 (by simp)]
  simp only [List.drop_zero, List.take_succ_cons, List.take_zero, Zaq, Zah, Zbe, Zaf, Zap]
  rw [Zbb hi2 (by simp)]
  simp only [Zar]
  rw [Zha (Zbn hi2) (by simp [Zbi])]
  simp only [Zbi, List.take_zero, List.nil_append, List.length_cons, List.length_nil, List.cons_append, List.drop_succ_cons, List.drop_zero, List.drop_nil, List.append_nil, List.take_succ_cons, Zaq, Zah, Zbe, Zaf, Zap]
  refine ⟨hK.trans' ?_, c, a, n, cp, e, k1, bad, rfl, by rw [Zbl (by omega)]; exact hgi, hk1, ?_⟩
  · exact fun j hj => Zbl (by omega)
  · rcases hfin with ⟨hb, t, ho, hr⟩ | hb
    · refine .inl ⟨hb, t, ho, ?_⟩
      refine Zii.mono (S := fun x => Btw h.length h'.length x ∧ x ≠ i2) (fun z hz => by simpa using hz.1) (hr.agree fun z hz => Zbl (fun e => hz.2 e.symm))
    · exact .inr hb
theorem Ygm {s : List Nat} (hs : s.length ≤ 9223372036854775807) {k i : Nat} {h : Zaa} (hil : i < h.length)
    (ih : ∀ k', k < k' → k' ≤ s.length → ∀ (h : Zaa), h[i]? = some (rdr s k' false) → Zae pg Zdj [.ptr (some (i, 0))] h (Zqn i s k' h))
    {g : Zaa} {c k1 i2 i3 j0 : Nat} {bad : Bool} (hK : Zjx i h g) (hgi : g[i]? = some (rdr s k1 bad)) (hk1 : k1 ≤ s.length) (hl2 : h.length ≤ i2) (hl3 : h.length ≤ i3) (hlj : h.length ≤ j0)
    (hne : i2 ≠ i3) (hne2 : i2 ≠ j0) (hne3 : i3 ≠ j0) (hi2 : g[i2]? = some (.cells Zaj [.int .u8 0, .slice none 0 0 true] false)) (hi3 : g[i3]? = some (.cells Zaj [.int .u8 (c : Int), .slice (some (j0, 0)) 0 0 true] false))
    (hj0 : g[j0]? = some (.cells Zaj [] false))
    (hcase : (bad = false ∧ k < k1 ∧ s.drop k = c :: s.drop k1 ∧ 0 ≤ arN c) ∨ (bad = true ∧ ∀ t r, ¬ Zfs (s.drop k) t r)) :
    Zay.J4 (Zqn i s k h) (some (i, 0)) i2 0 i3 0 (arN c) g := by
  apply Zay.J4i
  have hm2 : arN c ≤ 2 := by unfold arN; split <;> try split
                             all_goals try split
                             all_goals omega
  have hi2l := Own.lt hi2
  have hi3l := Own.lt hi3
  refine Zay.L5ind _ _ _ _ _ _ _ (J := fun (q : Nat) x5 h' => x5 = (q : Int) ∧ ∃ (bad : Bool) (k1 n cp : Nat) (e : Bool) (j : Nat), Zjx i h h' ∧ h'[i]? = some (rdr s k1 bad) ∧ k1 ≤ s.length ∧
      h'[i2]? = some (.cells Zaj [.int .u8 0, .slice none 0 0 true] false) ∧ h'[i3]? = some (.cells Zaj [.int .u8 (c : Int), .slice (some (j, 0)) n cp e] false) ∧ h.length ≤ j ∧ i2 ≠ j ∧ i3 ≠ j ∧ i2 < h'.length ∧ i3 < h'.length ∧
      ((bad = true ∧ ∀ t r, ¬ Zfs (s.drop k) t r) ∨ (bad = false ∧ k < k1 ∧ n = q ∧ (q : Int) ≤ arN c ∧ ∃ (ps : List Ty) (vs : List (List Zag)), ps.length = q ∧ vs.length = q ∧ (∀ p ∈ ps, p.ok = true) ∧ s.drop k = c :: (Ztg ps ++ s.drop k1) ∧
        h'[j]? = some (.cells Zaj vs.flatten false) ∧ (∀ v ∈ vs, v.length = 2) ∧ ∀ (kk : Nat) (v : List Zag) (x : Ty), vs[kk]? = some v → ps[kk]? = some x → ∃ lo hi, h.length ≤ lo ∧ i2 < lo ∧ i3 < lo ∧ hi ≤ h'.length ∧ ¬ Btw lo hi j ∧ Zii (Btw lo hi) h' x v)))
    (fun q => (arN c).toNat - q) ?_ 0 _ _ ⟨rfl, bad, k1, 0, 0, true, j0, hK, hgi, hk1, hi2, hi3, hlj, hne2, hne3, hi2l, hi3l, ?_⟩
  · rintro q x5 h' ⟨rfl, bad, k1, n, cp, e, j, hK, hgi, hk1, hi2, hi3, hlj, hn2, hn3, hl2', hl3', hst⟩ R hR
    have over : ¬ (bad = false ∧ (q : Int) < arN c) → Zay.A5x0 (Zqn i s k h) (arN c) (some (i, 0)) i3 0 i2 0 h' := by
      intro hgo
      · skip
        apply Zay.A5x0i
        rcases hst with ⟨hb, hno⟩ | ⟨hb, hkk, rfl, hq, ps, vs, hps, hvs, hok, hdr, hj, hv2, hrep⟩
        · subst hb
          have hend := Zph hil hK hgi hk1 hi2 hl2 hne hi3 (.inr ⟨rfl, hno⟩)
          refine Zam (fun _ => ?_) (fun _ => hend)
          unfold rdr at hgi
          simp only [Zba, Zau hgi, Nat.zero_add, List.getElem?_cons_zero, List.getElem?_cons_succ, Zat, Bool.not_true, Zbj]
          exact hend
        · subst hb
          have hqa : (n : Int) = arN c := by have : ¬ (n : Int) < arN c := fun hlt => hgo ⟨rfl, hlt⟩; omega
          obtain ⟨t, htok, hthd, htps⟩ := Yji (c := c) hok (by omega)
          have hrT : Zii (fun x => Btw h.length h'.length x ∧ x ≠ i2) h' t [.int .u8 (c : Int), .slice (some (j, 0)) n cp e] := by
            rw [← hthd]
            refine Zii.make (vs := vs) (by rw [htps]; exact hps.symm) ⟨⟨hlj, Own.lt hj⟩, fun e => hn2 e.symm⟩ hj hvs fun kk v x hv hx => ?_
            rw [htps] at hx
            obtain ⟨lo, hi, h1, h2, h3, h4, h5, h6⟩ := hrep kk v x hv hx
            exact h6.mono fun z hz => ⟨⟨by have := hz.1; omega, by have := hz.2; omega⟩, by have := hz.1; omega⟩
          have hno : (∀ r, s.drop k1 ≠ (if t.ps = [] then r else 41 :: r)) → ∀ t' r, ¬ Zfs (s.drop k) t' r := by
            intro hx t' r ho
            rw [hdr] at ho
            have h1 := Ty.ok_ar ho.1
            have hhd : t'.hd = c := by
              obtain ⟨r', hr⟩ := t'.txt_cons
              have := ho.2; rw [hr] at this; simp at this; exact this.1.symm
            rw [hhd] at h1
            have := ho.step hok (by omega)
            have h3 := this.2.2.2 (by omega)
            have hemp : t'.ps = [] ↔ t.ps = [] := by
              rw [← List.length_eq_zero_iff, ← List.length_eq_zero_iff, htps]; omega
            simp only [hemp] at h3
            exact hx _ h3
          have hyes : ∀ r, s.drop k1 = (if t.ps = [] then r else 41 :: r) → Zfs (s.drop k) t r := by
            intro r hr
            refine ⟨htok, ?_⟩
            rw [Yig, hthd, hdr, hr, htps]
          refine Zam (fun hpos => ?_) (fun hz => ?_)
          · have hne0 : t.ps ≠ [] := by rw [htps]; intro e0; rw [e0] at hps; simp at hps; omega
            simp only [if_neg hne0] at hno hyes
            have hgi' := hgi
            unfold rdr at hgi'
            simp only [Zba, Zau hgi', Nat.zero_add, List.getElem?_cons_zero, List.getElem?_cons_succ, Zat, Bool.not_false, Zfd]
            refine (Zwh hgi hk1 hs).mono ?_
            have hK2 : ∀ b' k2, Zjx i h (h'.set i (rdr s k2 b')) := fun b' k2 => hK.trans (Zjx.set _ _ _)
            have hin2 : i ≠ i2 := by omega
            have hin3 : i ≠ i3 := by omega
            have badEnd : ∀ k2, k2 ≤ s.length → (∀ r, s.drop k1 ≠ 41 :: r) → Zay.J12 (Zqn i s k h) i3 0 i2 0 (h'.set i (rdr s k2 true)) := fun k2 hk2 hx =>
              Zph hil (hK2 _ _) (Zbn hgi) hk2 (by rw [Zbl hin2]; exact hi2) hl2 hne (by rw [Zbl hin3]; exact hi3) (.inr ⟨rfl, hno hx⟩)
            rintro v h2 (⟨d, hd, hlt, rfl, rfl⟩ | ⟨hnil, rfl, rfl⟩)
            · simp only [Zbe]
              have hg2 : (h'.set i (rdr s (k1 + 1) false))[i]? = some (.cells Zcn [.str s, .int .i64 ((k1 + 1 : Nat) : Int), .bool false] false) := Zbn hgi
              refine Zhr (fun hne41 => ?_) (fun he41 => ?_)
              · try simp only [Zba]
                rw [Zbb hg2 (by simp)]
                simp only [Zar]
                have := badEnd (k1 + 1) (by omega) (fun r hr => by rw [hd] at hr; simp at hr; omega)
                simpa [rdr, Zbi, List.set_set] using this
              · have hd41 : d = 41 := by omega
                try simp only [Zba]
                rw [Zau hg2]
                simp only [Nat.zero_add, List.getElem?_cons_zero, List.getElem?_cons_succ, Zat]
                rw [Zbb hg2 (by simp)]
                simp only [Zar]
                have := Zph (bad := false) (k1 := k1 + 1) hil (hK2 false (k1 + 1)) (Zbn hgi) (by omega) (by rw [Zbl hin2]; exact hi2) hl2 hne (by rw [Zbl hin3]; exact hi3)
                  (.inl ⟨rfl, t, hyes _ (by rw [hd, hd41]), Zii.mono (fun z hz => by simpa using hz) (hrT.agree fun z hz => Zbl (by have := hz.1.1; omega))⟩)
                simpa [rdr, Zbi, List.set_set] using this
            · simp only [Zbe]
              have hg2 : (h'.set i (rdr s k1 true))[i]? = some (.cells Zcn [.str s, .int .i64 (k1 : Int), .bool true] false) := Zbn hgi
              simp only [show ((0 : Int) == 41) = false from rfl, Bool.not_false, Zfd, Zba]
              rw [Zbb hg2 (by simp)]
              simp only [Zar]
              have := badEnd k1 hk1 (fun r hr => by rw [hnil] at hr; cases hr)
              simpa [rdr, Zbi, List.set_set] using this
          · have he0 : t.ps = [] := by rw [htps]; exact List.eq_nil_of_length_eq_zero (by omega)
            refine Zph hil hK hgi hk1 hi2 hl2 hne hi3 (.inl ⟨rfl, t, hyes _ (by rw [if_pos he0]), hrT⟩)
    unfold Zay.L5t
    have hgi' := hgi
    unfold rdr at hgi'
    refine Zam (fun hlt => ?_) (fun hge => over fun hx => hge hx.2)
    simp only [Zba, Zau hgi', Nat.zero_add, List.getElem?_cons_zero, List.getElem?_cons_succ, Zat]
    refine Zcl (fun hb => ?_) (fun hb => over fun hx => by rw [hb] at hx; cases hx.1)
    subst hb
    rcases hst with ⟨hb, _⟩ | ⟨_, hkk, rfl, hq, ps, vs, hps, hvs, hok, hdr, hj, hv2, hrep⟩
    · cases hb
    have hin2 : i ≠ i2 := by omega
    have hin3 : i ≠ i3 := by omega
    have hn2' : n < 2 := by omega
    have hstep : ∀ t r, Zfs (s.drop k) t r → ∃ p s', s.drop k1 = Zok n :: s' ∧ ∃ r', Zfs s' p r' := by
      intro t r ho
      rw [hdr] at ho
      have h1 := Ty.ok_ar ho.1
      have hhd : t.hd = c := by
        obtain ⟨r', hr⟩ := t.txt_cons
        have := ho.2; rw [hr] at this; simp at this; exact this.1.symm
      rw [hhd] at h1
      have := ho.step hok (by omega)
      rw [← hps]
      exact this.2.2.1 (by omega)
    apply Zay.J7i
    refine ⟨⟨by omega, by simp; omega⟩, ?_⟩
    have hmk : ([40, 44] : List Nat).getD ((n : Int).toNat) 0 = Zok n := by
      rw [Int.toNat_natCast]
      rcases n with _ | _ | n
      · rfl
      · rfl
      · omega
    rw [hmk]
    refine (Zwh hgi hk1 hs).mono ?_
    have badGo : ∀ k2, k2 ≤ s.length → (∀ t r, ¬ Zfs (s.drop k) t r) → Zay.J8 (Zqn i s k h) R (some (i, 0)) i3 0 (n : Int) (arN c) i2 0 (h'.set i (rdr s k2 true)) := by
      intro k2 hk2 hno
      apply Zay.J8i
      have hg := Zbn (x := rdr s k2 true) hgi
      have hg' : (h'.set i (rdr s k2 true))[i]? = some (.cells Zcn [.str s, .int .i64 (k2 : Int), .bool true] false) := hg
      simp only [Zba]
      rw [Zau hg']
      simp only [Nat.zero_add, List.getElem?_cons_zero, List.getElem?_cons_succ, Zat, Bool.not_true, Zbj]
      apply Zay.J6i
      rw [IntWalk.i64_in _ (by omega)]
      refine hR (n + 1) _ _ (by omega) ⟨by omega, true, k2, n, cp, e, j, hK.trans (Zjx.set _ _ _), hg, hk2, by rw [Zbl hin2]; exact hi2, by rw [Zbl hin3]; exact hi3, hlj, hn2, hn3, by simp; omega, by simp; omega, .inl ⟨rfl, hno⟩⟩
    rintro v h2 (⟨d, hd, hlt1, rfl, rfl⟩ | ⟨hnil, rfl, rfl⟩)
    · simp only [Zbe]
      have hg3 := Zbn (x := rdr s (k1 + 1) false) hgi
      have hg2 : (h'.set i (rdr s (k1 + 1) false))[i]? = some (.cells Zcn [.str s, .int .i64 ((k1 + 1 : Nat) : Int), .bool false] false) := hg3
      refine Zhr (fun hne1 => ?_) (fun he1 => ?_)
      · simp only [Zba]
        rw [Zbb hg2 (by simp)]
        simp only [Zar]
        have := badGo (k1 + 1) (by omega) (fun t r ho => by
          obtain ⟨p, s', hx, _⟩ := hstep t r ho
          rw [hd] at hx; simp at hx; omega)
        simpa [rdr, Zbi, List.set_set] using this
      · have hdm : d = Zok n := by omega
        simp only [Zba]
        rw [Zau hg2]
        simp only [Nat.zero_add, List.getElem?_cons_zero, List.getElem?_cons_succ, Zat]
        rw [Zbb hg2 (by simp)]
        simp only [Zar]
        have hsame : (h'.set i (rdr s (k1 + 1) false)).set i (Zck.cells Zcn (Zbi [Zag.str s, Zag.int .i64 ((k1 + 1 : Nat) : Int), Zag.bool false] 2 [Zag.bool false]) false) = h'.set i (rdr s (k1 + 1) false) := by
          simp [rdr, Zbi, List.set_set]
        rw [hsame]
        apply Zay.J8i
        simp only [Zba]
        rw [Zau hg2]
        simp only [Nat.zero_add, List.getElem?_cons_zero, List.getElem?_cons_succ, Zat, Bool.not_false, Zfd]
        have hi3a : (h'.set i (rdr s (k1 + 1) false))[i3]? = some (.cells Zaj [.int .u8 (c : Int), .slice (some (j, 0)) n cp e] false) := by rw [Zbl hin3]; exact hi3
        rw [Zau hi3a]
        simp only [List.getElem?_cons_zero, List.getElem?_cons_succ, Zaf]
        refine (ih (k1 + 1) (by omega) (by omega) _ hg3).mono ?_
        rintro v h3 ⟨hK3, d3, a3, n3, c3, e3, k3, bad3, rfl, hg4, hk3, hres⟩

        have hl3 := hK3.le
        simp only [List.length_set] at hl3
        have hold3 : ∀ z, z < h'.length → z ≠ i → h3[z]? = h'[z]? := fun z hz hzi => by rw [hK3.eq z (by simpa using hz) hzi, Zbl (by omega)]
        have hi33 : h3[i3]? = some (.cells Zaj [.int .u8 (c : Int), .slice (some (j, 0)) n cp e] false) := by rw [hold3 _ hl3' (by omega)]; exact hi3
        have hj3 : h3[j]? = some (.cells Zaj vs.flatten false) := by rw [hold3 _ (Own.lt hj) (by omega)]; exact hj
        simp only [Zdk, Zah, Zbe, Zaf, Zap]
        refine ⟨by rw [Zau hi33]; rfl, ?_⟩
        simp only [Zbf]
        refine ⟨by rw [Zau (Zlw hi33), Zau hi33], ?_⟩
        refine (Vec.mk1 hj3).pushN Zyo Ydr Ycq Yek (by rw [Ydc hv2, hvs]) rfl (by omega) (by simp [Zag.leaf]) (by omega) (fun h4 hl4 hi4 hk4 => ?_)
        simp only [Zaf]
        have hold4 : ∀ z, z < h3.length → z ≠ j → h4[z]? = h3[z]? := fun z hz hzj => hk4 z hz fun w hw => by cases hw; exact hzj
        have hi34 : h4[i3]? = some (.cells Zaj [.int .u8 (c : Int), .slice (some (j, 0)) n cp e] false) := by rw [hold4 _ (by omega) hn3]; exact hi33
        rw [Zbb hi34 (by simp)]
        simp only [Zar]
        apply Zay.J6i
        rw [IntWalk.i64_in _ (by omega)]
        have hiL : i < h'.length := Own.lt hgi
        have hold5 : ∀ (x : Zck) z, z ≠ i3 → z ≠ j → z < h3.length → (h4.set i3 x)[z]? = h3[z]? := fun x z h1 h2 h3 => by rw [Zbl (by omega), hold4 _ h3 h2]
        refine hR (n + 1) _ _ (by omega) ⟨by omega, bad3, k3, n + 1, n + 1, false, h3.length + 1, ?_, ?_, hk3, ?_, ?_, by omega, by omega, by omega, by simp; omega, by simp; omega, ?_⟩
        · refine ⟨by simp; have := hK.le; omega, fun z hz hzi => ?_⟩
          have := hK.le
          rw [hold5 _ _ (by omega) (by omega) (by omega), hold3 _ (by omega) hzi]; exact hK.eq z hz hzi
        · rw [hold5 _ _ hin3 (by omega) (by omega)]; exact hg4
        · rw [hold5 _ _ hne hn2 (by omega), hold3 _ hl2' (by omega)]; exact hi2
        · rw [Zbn hi34]; simp [Zbi]
        · rcases hres with ⟨hb3, t, ho, hr⟩ | ⟨hb3, hno⟩
          · refine .inr ⟨hb3, ?_, rfl, by omega, ps ++ [t], vs ++ [[.int .u8 (d3 : Int), .slice a3 n3 c3 e3]], by simp [hps], by simp [hvs], ?_, ?_, ?_, ?_, ?_⟩
            · have := ho.2
              have hl := congrArg List.length this
              simp at hl; have := t.txt_pos; omega
            · intro p hp
              rcases List.mem_append.1 hp with hp | hp
              · exact hok p hp
              · simp at hp; subst hp; exact ho.1
            · rw [hdr, hd, hdm, ho.2]
              match ps, hps, hn2' with
              | [], hps, _ => subst hps; simp [Ztg, Zok]
              | [x], hps, _ => subst hps; simp [Ztg, Zok]
              | x :: y :: l, hps, _ => simp at hps; omega
            · rw [Zbl (by omega), hi4, Yah]
            · intro v hv
              rcases List.mem_append.1 hv with hv | hv
              · exact hv2 v hv
              · simp at hv; subst hv; rfl
            · intro kk v x hv hx
              by_cases hkn : kk < n
              · rw [List.getElem?_append_left (by omega)] at hv hx
                obtain ⟨lo, hi, h1, h2, h2', h3', h4', h5⟩ := hrep kk v x hv hx
                refine ⟨lo, hi, h1, h2, h2', by simp; omega, fun hb => by have := hb.2; omega, h5.agree fun z hz => ?_⟩
                have := hz.1; have := hz.2
                rw [hold5 _ _ (by omega) (fun e => h4' (e ▸ hz)) (by omega), hold3 _ (by omega) (by omega)]
              · have hk' : kk = n := by
                  have := (List.getElem?_eq_some_iff.1 hv).1; simp at this; omega
                subst hk'
                rw [List.getElem?_append_right (by omega)] at hv hx
                simp [hps, hvs] at hv hx
                subst hv; subst hx
                refine ⟨h'.length, h3.length, by have := hK.le; omega, by omega, by omega, by simp; omega, fun hb => by have := hb.2; omega, ?_⟩
                have hr' : Zii (Btw h'.length h3.length) h3 t [.int .u8 (d3 : Int), .slice a3 n3 c3 e3] := by simpa using hr
                refine hr'.agree fun z hz => ?_
                have := hz.1; have := hz.2; have := Own.lt hj
                rw [hold5 _ _ (by omega) (by omega) (by omega)]
          · refine .inl ⟨hb3, fun t r ho => ?_⟩
            obtain ⟨p, s', hx, r', ho'⟩ := hstep t r ho
            rw [hd] at hx; simp at hx
            rw [← hx.2] at ho'
            exact hno _ _ ho'
    · simp only [Zbe]
      have hg2 : (h'.set i (rdr s k1 true))[i]? = some (.cells Zcn [.str s, .int .i64 (k1 : Int), .bool true] false) := Zbn hgi
      refine Zhr (fun _ => ?_) (fun he1 => by exfalso; unfold Zok at he1; split at he1 <;> omega)
      simp only [Zba]
      rw [Zbb hg2 (by simp)]
      simp only [Zar]
      have := badGo k1 hk1 (fun t r ho => by
        obtain ⟨p, s', hx, _⟩ := hstep t r ho
        rw [hnil] at hx; cases hx)
      simpa [rdr, Zbi, List.set_set] using this
  · rcases hcase with ⟨hb, hkk, hdr, ha⟩ | hb
    · exact .inr ⟨hb, hkk, rfl, by simpa using ha, [], [], rfl, rfl, by simp, by simpa [Ztg] using hdr, by simpa using hj0, by simp, by simp⟩
    · exact .inl hb

theorem Yfn {s : List Nat} (hs : s.length ≤ 9223372036854775807) (i : Nat) : ∀ (N k : Nat), s.length - k ≤ N → k ≤ s.length → ∀ (h : Zaa), h[i]? = some (rdr s k false) →
    Zae pg Zdj [.ptr (some (i, 0))] h (Zqn i s k h) := by
  intro N
  induction N using Nat.strongRecOn with
  | _ N ihN =>
  intro k hN hk h hi
  have hil := Own.lt hi
  have ih : ∀ k', k < k' → k' ≤ s.length → ∀ (h : Zaa), h[i]? = some (rdr s k' false) → Zae pg Zdj [.ptr (some (i, 0))] h (Zqn i s k' h) :=
    fun k' h1 h2 => ihN (s.length - k') (by omega) k' (Nat.le_refl _) h2
  apply Zay.call
  simp only [Zbf]
  refine (Zwh (Zlw hi) hk hs).mono ?_
  have main : ∀ (c k1 : Nat) (b1 : Bool), k1 ≤ s.length → ((b1 = false ∧ k < k1 ∧ s.drop k = c :: s.drop k1) ∨ (b1 = true ∧ arN c < 0 ∧ s.drop k = [])) → ∀ h2, h2 = (h ++ [Zck.cells Zaj [.int .u8 0, .slice none 0 0 true] false]).set i (rdr s k1 b1) →
      Zcb (Zbc (h2 ++ [Zck.cells Zaj [] false] ++ [Zck.cells Zaj [.int .u8 0, .slice none 0 0 true] false]) (.ptr (some (List.length (h2 ++ [Zck.cells Zaj [] false]), 0))) [.int .u8 (c : Int), .slice (some (List.length h2, 0)) 0 0 true]) fun h_6 => Zgn .u8 (Zai h_6 (.ptr (some (List.length (h2 ++ [Zck.cells Zaj [] false]), 0 + 0)))) fun x_7 => Zae pg Zhu [.int .u8 x_7] h_6 fun v_8 h_9 =>
        Zgn .i64 (some v_8) fun x_10 => Zbu (some (i, 0)) fun i_11 o_12 => Zcv (Zai h_9 (.ptr (some (i_11, o_12 + 2)))) fun b_13 => bcase b_13 (Zbu (some (i, 0)) fun i_14 o_15 => Zcb (Zbc h_9 (.ptr (some (i_14, o_15 + 2))) [.bool true]) fun h_16 => Zay.J4 (Zqn i s k h) (some (i, 0)) (List.length h) 0 (List.length (h2 ++ [Zck.cells Zaj [] false])) 0 x_10 h_16) (Zbu (some (i, 0)) fun i_17 o_18 => Zcb (Zbc h_9 (.ptr (some (i_17, o_18 + 2))) [.bool (decide ((x_10 : Int) < 0))]) fun h_19 => Zay.J4 (Zqn i s k h) (some (i, 0)) (List.length h) 0 (List.length (h2 ++ [Zck.cells Zaj [] false])) 0 x_10 h_19) := by
    intro c k1 b1 hk1 hc h2 hh2
    have hl2 : h2.length = h.length + 1 := by rw [hh2]; simp
    have hi2 : h2[i]? = some (rdr s k1 b1) := by rw [hh2]; exact Zbn (Zlw hi)
    have hz2 : h2[h.length]? = some (.cells Zaj [.int .u8 0, .slice none 0 0 true] false) := by rw [hh2, Zbl (by omega)]; simp
    have hK2 : Zjx i h h2 := by rw [hh2]; exact (Zjx.app i h _).trans (Zjx.set _ _ _)
    generalize hg : h2 ++ [Zck.cells Zaj [] false] = g
    have hgl : g.length = h.length + 2 := by rw [← hg]; simp [hl2]
    have hgi : g[i]? = some (rdr s k1 b1) := by rw [← hg]; exact Zlw hi2
    have hgz : g[h.length]? = some (.cells Zaj [.int .u8 0, .slice none 0 0 true] false) := by rw [← hg]; exact Zlw hz2
    have hga : g[h2.length]? = some (.cells Zaj [] false) := by rw [← hg]; simp
    have hKg : Zjx i h g := by rw [← hg]; exact hK2.trans (Zjx.app i _ _)
    have hn : (g ++ [Zck.cells Zaj [.int .u8 0, .slice none 0 0 true] false])[g.length]? = some (Zck.cells Zaj [.int .u8 0, .slice none 0 0 true] false) := by simp
    rw [Zbb hn (by simp)]
    simp only [Zar]
    rw [Zau (Zbn hn)]
    simp only [Zbi, List.take_zero, List.nil_append, List.cons_append, Nat.add_zero, List.getElem?_cons_zero, Zbe]
    refine (Zyc c).mono ?_
    rintro v h9 ⟨rfl, rfl⟩
    have hold : ∀ (x : Zck) z w, g[z]? = some w → ((g ++ [Zck.cells Zaj [.int .u8 0, .slice none 0 0 true] false]).set g.length x)[z]? = some w := fun x z w hz => by rw [Zbl (by have := Own.lt hz; omega)]; exact Zlw hz
    simp only [Zbe, Zba]
    have h9i := hold (Zck.cells Zaj [.int .u8 (c : Int), .slice (some (List.length h2, 0)) 0 0 true] false) i _ hgi
    have h9i' : ((g ++ [Zck.cells Zaj [.int .u8 0, .slice none 0 0 true] false]).set g.length (Zck.cells Zaj [.int .u8 (c : Int), .slice (some (List.length h2, 0)) 0 0 true] false))[i]? = some (.cells Zcn [.str s, .int .i64 (k1 : Int), .bool b1] false) := h9i
    rw [show (Zag.int IntKind.u8 (c : Int) :: Zag.slice (some (List.length h2, 0)) 0 0 true :: List.drop (0 + [Zag.int IntKind.u8 (c : Int), Zag.slice (some (List.length h2, 0)) 0 0 true].length) [Zag.int IntKind.u8 0, Zag.slice none 0 0 true]) = [.int .u8 (c : Int), .slice (some (List.length h2, 0)) 0 0 true] from rfl]
    have tail : ∀ b2, ((b2 = false ∧ k < k1 ∧ s.drop k = c :: s.drop k1 ∧ 0 ≤ arN c) ∨ (b2 = true ∧ ∀ t r, ¬ Zfs (s.drop k) t r)) → ∀ g2, g2 = (((g ++ [Zck.cells Zaj [.int .u8 0, .slice none 0 0 true] false]).set g.length (Zck.cells Zaj [.int .u8 (c : Int), .slice (some (List.length h2, 0)) 0 0 true] false)).set i (rdr s k1 b2)) →
        Zay.J4 (Zqn i s k h) (some (i, 0)) (List.length h) 0 (List.length g) 0 (arN c) g2 := by
      intro b2 hb g2 hg2
      refine Ygm hs hil ih (c := c) (k1 := k1) (bad := b2) (j0 := h2.length) ?_ ?_ hk1 (Nat.le_refl _) (by omega) (by omega) (by omega) (by omega) (by omega) ?_ ?_ ?_ hb
      · rw [hg2]; exact ((hKg.trans (Zjx.app i _ _)).trans' (fun j hj => Zbl (by omega))).trans (Zjx.set _ _ _)
      · rw [hg2]; exact Zbn h9i
      · rw [hg2, Zbl (by omega)]; exact hold _ _ _ hgz
      · rw [hg2, Zbl (by omega)]; exact Zbn hn
      · rw [hg2, Zbl (by omega)]; exact hold _ _ _ hga
    rw [Zau h9i']
    simp only [Nat.zero_add, List.getElem?_cons_zero, List.getElem?_cons_succ, Zat]
    rw [Zbb h9i' (by simp), Zbb h9i' (by simp)]
    simp only [Zar]
    rcases hc with ⟨rfl, h1, h2'⟩ | ⟨rfl, h1, h2'⟩
    · simp only [Zbj]
      by_cases ha : arN c < 0
      · refine tail true (.inr ⟨rfl, ?_⟩) _ (by simp [rdr, Zbi, ha])
        intro t r ho
        have h3 := Ty.ok_ar ho.1
        have hhd : t.hd = c := by
          obtain ⟨r', hr⟩ := t.txt_cons
          have := ho.2; rw [hr, h2'] at this; simp at this; exact this.1.symm
        rw [hhd] at h3; omega
      · exact tail false (.inl ⟨rfl, h1, h2', by omega⟩) _ (by simp [rdr, Zbi, ha])
    · simp only [Zfd]
      refine tail true (.inr ⟨rfl, ?_⟩) _ (by simp [rdr, Zbi])
      intro t r ho
      rw [h2'] at ho; exact Zfs.nil ho
  rintro v h2 (⟨c, hd, hlt, rfl, hh⟩ | ⟨hnil, rfl, hh⟩)
  · simp only [Zbe]
    exact main c (k + 1) false (by omega) (.inl ⟨rfl, by omega, hd⟩) h2 hh
  · simp only [Zbe]
    exact main 0 k true hk (.inr ⟨rfl, by decide, hnil⟩) h2 hh

theorem Ych (s : List Nat) (hs : s.length ≤ 9223372036854775807) (h : Zaa) : Zae pg Zkz [.str s] h fun v h' => Zbd h.length h h' ∧ ∃ vs : List Zag, v = .tup [.agg vs, .bool (Zpe s)] ∧
    (match Zlm s with | some t => Zii (Btw h.length h'.length) h' t vs | none => vs = [.int .u8 0, .slice none 0 0 true]) := by
  apply Zkq.call
  simp only [Zbf]
  generalize hg : h ++ [Zck.cells Zaj [.int .u8 0, .slice none 0 0 true] false] = g
  have hgl : g.length = h.length + 1 := by rw [← hg]; simp
  have hgz : g[h.length]? = some (.cells Zaj [.int .u8 0, .slice none 0 0 true] false) := by rw [← hg]; simp
  have hgs : Zbd h.length h g := by rw [← hg]; exact Zbd.app (Nat.le_refl _) _
  have hr : (g ++ [Zck.cells Zcn [.str s, .int .i64 0, .bool false] false])[g.length]? = some (rdr s 0 false) := by simp [rdr]
  refine (Yfn hs g.length _ 0 (Nat.le_refl _) (Nat.zero_le _) _ hr).mono ?_
  rintro v h3 ⟨hK, d, a, n, c, e, k', bad, rfl, hi, hk', hres⟩
  simp only [Zdk, Zah, Zbe, Zaf, Zap, Zbf]
  have hl3 := hK.le
  simp at hl3
  have hz3 : h3[h.length]? = some (.cells Zaj [.int .u8 0, .slice none 0 0 true] false) := by rw [hK.eq _ (by simp; omega) (by omega)]; exact Zlw hgz
  have hs3 : Zbd h.length h h3 := ⟨by omega, fun j hj => by rw [hK.eq _ (by simp; omega) (by omega), Zvb (by omega)]; exact hgs.eq j hj⟩
  have hn : (h3 ++ [Zck.cells Zaj [.int .u8 0, .slice none 0 0 true] false])[h3.length]? = some (.cells Zaj [.int .u8 0, .slice none 0 0 true] false) := by simp
  rw [Zbb hn (by simp)]
  simp only [Zar]
  generalize h5e : (h3 ++ [Zck.cells Zaj [.int .u8 0, .slice none 0 0 true] false]).set h3.length (.cells Zaj (Zbi [.int .u8 0, .slice none 0 0 true] 0 [.int .u8 (d : Int), .slice a n c e]) false) = h5
  have h5o : ∀ z, z < h3.length → h5[z]? = h3[z]? := fun z hz => by rw [← h5e, Zbl (by omega), Zvb hz]
  have h5l : h5.length = h3.length + 1 := by rw [← h5e]; simp
  have h5n : h5[h3.length]? = some (.cells Zaj [.int .u8 (d : Int), .slice a n c e] false) := by rw [← h5e, Zbn hn]; simp [Zbi]
  have h5i : h5[g.length]? = some (.cells Zcn [.str s, .int .i64 (k' : Int), .bool bad] false) := by rw [h5o _ (Own.lt hi)]; exact hi
  have h5z : h5[h.length]? = some (.cells Zaj [.int .u8 0, .slice none 0 0 true] false) := by rw [h5o _ (Own.lt hz3)]; exact hz3
  have h5s : Zbd h.length h h5 := ⟨by omega, fun j hj => by rw [h5o _ (by omega)]; exact hs3.eq j hj⟩
  rw [Zau h5i]
  simp only [Nat.zero_add, List.getElem?_cons_zero, List.getElem?_cons_succ, Zat]
  have fail : Zlm s = none → Zcb (Zbc h5 (.ptr (some (List.length h, 0))) [.int .u8 0, .slice none 0 0 true]) fun h_17 => Zdg (Zbw h_17 (.ptr (some (List.length h, 0))) 2) fun cs_18 => Zak cs_18 fun c_19 r_20 => Zgn .u8 (some c_19) fun x_21 => Zak r_20 fun c_22 r_23 => xSl (some c_22) fun a_24 n_25 c_26 e_27 => Zct r_23 (Zbd h.length h h_17 ∧ ∃ vs : List Zag, (Zag.tup [.agg [.int .u8 x_21, .slice a_24 n_25 c_26 e_27], .bool false]) = .tup [.agg vs, .bool (Zpe s)] ∧
    (match Zlm s with | some t => Zii (Btw h.length h_17.length) h_17 t vs | none => vs = [.int .u8 0, .slice none 0 0 true])) := by
    intro hno
    rw [Zbb h5z (by simp)]
    simp only [Zar]
    rw [Zha (Zbn h5z) (by simp [Zbi])]
    simp only [Zbi, List.take_zero, List.nil_append, List.length_cons, List.length_nil, List.cons_append, List.drop_succ_cons, List.drop_zero, List.drop_nil, List.append_nil, List.take_succ_cons, Zaq, Zah, Zbe, Zaf, Zap]
    refine ⟨⟨by simp; omega, fun j hj => by rw [Zbl (by omega)]; exact h5s.eq j hj⟩, _, by simp only [Zpe, hno]; rfl, by rw [hno]⟩
  rw [List.drop_zero] at hres
  rcases hres with ⟨rfl, t, ho, hrep⟩ | ⟨rfl, hno⟩
  · simp only [Zbj, Zau h5i, Nat.zero_add, List.getElem?_cons_zero, List.getElem?_cons_succ, Zbe]
    refine Zhr (fun hne => fail ?_) (fun he => ?_)
    · unfold Zlm
      split
      · exact Zme.2 fun t' ht' e' => by
          have := (ho.unique ⟨ht', show s = t'.txt ++ [] by simpa using e'⟩).2
          have := congrArg List.length this
          simp at this; omega
      · rfl
    · have hk : k' = s.length := by omega
      subst hk
      rw [List.drop_length] at ho
      have hs' : s = t.txt := by simpa using ho.2
      refine Zam (fun hl => fail ?_) (fun hl => ?_)
      · unfold Zlm; rw [if_neg (by omega)]
      · have hof : Zlm s = some t := Zrv.2 ⟨ho.1, hs', by omega⟩
        apply Zkq.J5i
        rw [Zha h5n (by simp)]
        simp only [List.drop_zero, List.take_succ_cons, List.take_zero, Zaq, Zah, Zbe, Zaf, Zap]
        rw [Zbb h5z (by simp)]
        simp only [Zar]
        rw [Zha (Zbn h5z) (by simp [Zbi])]
        simp only [Zbi, List.take_zero, List.nil_append, List.length_cons, List.length_nil, List.cons_append, List.drop_succ_cons, List.drop_zero, List.drop_nil, List.append_nil, List.take_succ_cons, Zaq, Zah, Zbe, Zaf, Zap]
        refine ⟨⟨by simp; omega, fun j hj => by rw [Zbl (by omega)]; exact h5s.eq j hj⟩, _, by simp only [Zpe, hof]; rfl, ?_⟩
        rw [hof]
        refine Zii.mono (S := Btw (g ++ [Zck.cells Zcn [.str s, .int .i64 0, .bool false] false]).length h3.length) (fun z hz => ⟨by have := hz.1; simp at this; omega, by have := hz.2; simp; omega⟩) (hrep.agree fun z hz => ?_)
        have h1 := hz.1; have h2 := hz.2
        simp at h1
        rw [Zbl (by omega), h5o _ h2]
  · simp only [Zfd]
    refine fail ?_
    unfold Zlm
    split
    · exact Zme.2 fun t' ht' e' => hno t' [] ⟨ht', by simpa using e'⟩
    · rfl
theorem Zkl (s : List Nat) (hs : s.length ≤ 9223372036854775807) (h : Zaa) : Zae pg Zeu [.str s] h fun v h' => v = .bool (Zpe s) ∧ Zbd h.length h h' := by
  apply Zli.call
  refine (Ych s hs h).mono ?_
  rintro v h1 ⟨hS, vs, rfl, hm⟩
  have hvs : ∃ (d : Int) (a : Pt) (n c : Nat) (e : Bool), vs = [.int .u8 d, .slice a n c e] := by
    split at hm
    · obtain ⟨a, c, e, rfl⟩ := hm.shape; exact ⟨_, _, _, _, _, rfl⟩
    · exact ⟨_, _, _, _, _, hm⟩
  obtain ⟨d, a, n, c, e, rfl⟩ := hvs
  simp only [Zkk, Zah, Zdk, Zbe, Zaf, Zap, Zat, Zbf]
  have hn : (h1 ++ [Zck.cells Zaj [.int .u8 0, .slice none 0 0 true] false])[h1.length]? = some (.cells Zaj [.int .u8 0, .slice none 0 0 true] false) := by simp
  rw [Zbb hn (by simp)]
  simp only [Zar]
  exact ⟨by trivial, hS.trans ((Zbd.app hS.le _).trans (Zbd.set hS.le _))⟩
end Go.Sim

set_option linter.unusedVariables false
namespace Go.Sim
open Go Go.RowKit

theorem k9 : pg.okElem Zdl = true := by kernel_rfl
theorem Zjz {k n : Nat} (h : k < n) (hn : n ≤ 4611686018427387904) : IntKind.wrap .i64 ((k : Int) + 1) = ((k + 1 : Nat) : Int) := by rw [IntWalk.i64_in _ (by omega)]; omega

def Yej (k : Nat) (acc : List Nat) : List Nat := if h : k = 0 then acc else Yej (k / 10) ((48 + k % 10) :: acc)
  termination_by k
  decreasing_by omega
theorem Zzx (acc : List Nat) : Yej 0 acc = acc := by unfold Yej; simp
theorem Ycx {k : Nat} (h : k ≠ 0) (acc : List Nat) : Yej k acc = Yej (k / 10) ((48 + k % 10) :: acc) := by
  conv => lhs; unfold Yej
  rw [dif_neg h]
def Zfj (k : Int) : List Nat := if k ≤ 0 then [109, 48] else 109 :: Yej k.toNat []
theorem Zzi {h : Zaa} {t : TypeId} {cs : List Zag} {n : Nat} (hn : cs.length = n) : rowOf (h ++ [.cells t cs false]) (some (h.length, 0)) n = some cs := by
  subst hn
  exact (Own.row (b := 0) (t := t) ⟨h.length, rfl, by omega, by simp⟩).rowOf
theorem Yai {h : Zaa} {t : TypeId} {v : Zag} : rowOf (h ++ [.cells t [v] false]) (some (h.length, 0)) 1 = some [v] := Zzi rfl
theorem Zdi {h : Zaa} {k : Int} (hk : k ≤ 4611686018427387904) : Zae pg Zce [.int .i64 k] h fun v h' => v = .str (Zfj k) ∧ Zbd h.length h h' := by
  apply Zfq.call
  refine Zam (fun hle => ?_) (fun hgt => ?_)
  · exact ⟨by simp [Zfj, hle], Zbd.refl _ _⟩
  · refine Zfq.L4ind _ (J := fun (g : Nat) x0 x3 h' => x0 = (g : Int) ∧ Zbd h.length h h' ∧ Yej g x3 = Yej k.toNat [] ∧ (x3.length : Int) + g ≤ k) (fun g => g) ?_ k.toNat k [] h ⟨by omega, Zbd.refl _ _, rfl, by simp; omega⟩
    rintro g x0 x3 h' ⟨rfl, hs, hd, hb⟩ R hR
    unfold Zfq.L4t
    refine Zam (fun hlt => ?_) (fun hge => ?_)
    · have h1 : Int.tmod (g : Int) 10 = ((g % 10 : Nat) : Int) := by rw [Int.tmod_eq_emod_of_nonneg (by omega)]; omega
      have h2 : Int.tdiv (g : Int) 10 = ((g / 10 : Nat) : Int) := by rw [Int.tdiv_eq_ediv_of_nonneg (by omega)]; omega
      rw [h1, h2, IntWalk.i64_in _ (by omega), IntWalk.u8_in _ (by omega), IntWalk.i64_in _ (by omega)]
      simp only [Zbf, Yai, Zaq]
      refine ⟨by omega, ?_⟩
      simp only [Zly, chk, decide_true]
      refine ⟨by omega, ?_, by omega, hR (g / 10) _ _ _ (by omega) ⟨rfl, hs.trans (Zbd.app hs.le _), ?_, ?_⟩⟩
      · simp; omega
      · rw [← hd, Ycx (k := g) (by omega)]
        congr 2
      · simp; omega
    · have : g = 0 := by omega
      subst this
      refine Zfq.A4x0i _ _ _ ⟨by simp; omega, ?_, hs⟩
      rw [Zzx] at hd
      unfold Zfj
      rw [if_neg (by omega), ← hd]; rfl

theorem Zjw {h : Zaa} {i : Nat} {x y : Zck} (hi : h[i]? = some y) : (h.set i x)[i]? = some x := by
  have := Own.lt hi
  simp [this]
def Yaa (k : Int) (n : Nat) : List (List Nat) := (List.range n).map fun (j : Nat) => Zfj (k + j)
@[simp] theorem Yen (k : Int) (n : Nat) : (Yaa k n).length = n := by simp [Yaa]
theorem Ygw (k : Int) (n : Nat) : Yaa k (n + 1) = Yaa k n ++ [Zfj (k + n)] := by simp [Yaa, List.range_succ]

end Go.Sim

set_option linter.unusedVariables false
namespace Go.Sim
open Go Go.RowKit

def sp (l : List (List Nat)) : List Nat := [32].intercalate l
end Go.Sim

set_option linter.unusedVariables false
set_option linter.unusedSimpArgs false
set_option maxRecDepth 20000
namespace Go.Sim
open Go Go.RowKit

end Go.Sim

set_option linter.unusedVariables false
set_option linter.unusedSimpArgs false
set_option maxRecDepth 20000
namespace Go.Sim
open Go Go.RowKit

end Go.Sim

set_option linter.unusedVariables false
namespace Go.Sim
open Go Go.RowKit

theorem Ztw {h : Zaa} {c t : List Nat} {x : Int} (hc : c.length ≤ 9223372036854775807) (ht : t.length ≤ 9223372036854775807) (hx : 0 ≤ x ∧ x ≤ 1048576) :
    Zae pg Zik [.agg [.str c, .str t], .int .i64 x] h fun v h' => ∃ y, v = .int .i64 y ∧ Zbd h.length h h' ∧ (0 ≤ y → (c.length : Int) + t.length + y = x) := by
  apply Znu.call
  simp only [Zbf]
  have s1 : Zbd h.length h (h ++ [.cells Zmy [.str c, .str t] false]) := Zbd.app (Nat.le_refl _) _
  simp [Zai]
  rw [IntWalk.i64_in _ (by omega)]
  refine Zam (fun hlt => s1) (fun hge => ?_)
  rw [IntWalk.i64_in _ (by omega)]
  exact Zam (fun hlt => s1) (fun hge => ⟨s1, by omega⟩)
theorem Zuh {h : Zaa} {c t c' t' : List Nat} :
    Zae pg Zin [.agg [.str c, .str t], .agg [.str c', .str t']] h fun v h' => v = .bool (decide (c = c') && decide (t = t')) ∧ Zbd h.length h h' := by
  apply Znj.call
  simp only [Zbf]
  simp [Zai]
  by_cases e1 : c = c' <;> by_cases e2 : t = t' <;> simp [e1, e2] <;> exact Zbd.app (Nat.le_refl _) _
theorem Zub {h : Zaa} {c t : List Nat} :
    Zae pg Zij [.agg [.str c, .str t]] h fun v h' => v = .agg [.str c, .str t] ∧ Zbd h.length h h' := by
  apply Znr.call
  simp only [Zbf]
  simp [Zai, Zbc, Zbw, Zbi, List.getElem?_append, List.getElem?_set]
  exact Zbd.app (Nat.le_refl _) _

def prs (l : List (List Nat × List Nat)) : List Zag := l.flatMap fun p => [.str p.1, .str p.2]
@[simp] theorem Yiu : prs [] = [] := rfl
@[simp] theorem Yei (p : List Nat × List Nat) (l : List (List Nat × List Nat)) : prs (p :: l) = .str p.1 :: .str p.2 :: prs l := rfl
@[simp] theorem Ygv (a b : List (List Nat × List Nat)) : prs (a ++ b) = prs a ++ prs b := by simp [prs]
theorem Zfa (l : List (List Nat × List Nat)) : (prs l).length = l.length * 2 := by
  induction l with
  | nil => rfl
  | cons p l ih => simp [ih]; omega
theorem Ztd : ∀ (l : List (List Nat × List Nat)) (k : Nat), (prs l).drop (k * 2) = prs (l.drop k)
  | l, 0 => by simp
  | [], k + 1 => by simp
  | p :: l, k + 1 => by rw [Nat.succ_mul]; simpa using Ztd l k
theorem Row.pair {b : Nat} {h : Zaa} {a : Pt} {n : Nat} {l : List (List Nat × List Nat)} (r : Row b h a (n * 2) (prs l)) {k : Nat} (hk : k < n) :
    ∃ i o, ∃ hk' : k < l.length, a = some (i, o) ∧ i < b ∧ Zbw h (.ptr (some (i, o + k * 2))) 2 = some [.str l[k].1, .str l[k].2] := by
  have hl : l.length = n := by have := r.1; rw [Zfa] at this; omega
  obtain ⟨_, r⟩ := r
  rcases r with h0 | ⟨i, o, t, all, ro, ha, hb, hi, hle, hcs⟩
  · omega
  · refine ⟨i, o, by omega, ha, hb, ?_⟩
    have hd : (all.drop (o + k * 2)).take 2 = [.str l[k].1, .str l[k].2] := by
      have h1 : ((all.drop o).take (n * 2)).drop (k * 2) = prs (l.drop k) := by rw [← hcs, Ztd]
      rw [List.drop_take, List.drop_drop] at h1
      have h2 : (all.drop (o + k * 2)).take 2 = ((all.drop (o + k * 2)).take (n * 2 - k * 2)).take 2 := by rw [List.take_take, Nat.min_eq_left (by omega)]
      rw [h2, h1, List.drop_eq_getElem_cons (by omega)]
      simp only [Yei, List.take_succ_cons, List.take_zero]
    simp only [Zbw, hi]
    rw [if_pos (by omega), hd]

def Zty (l : List (List Nat × List Nat)) : Nat := (l.map fun p => p.1.length + p.2.length).sum
theorem Zqd {l : List (List Nat × List Nat)} {g : Nat} (h : g < l.length) : Zty (l.take (g + 1)) = Zty (l.take g) + (l[g].1.length + l[g].2.length) := by
  unfold Zty; rw [List.take_succ_eq_append_getElem h, List.map_append, List.sum_append]; simp
theorem Zug (l : List (List Nat × List Nat)) (g : Nat) : Zty (l.take g) ≤ Zty l := by
  conv => rhs; rw [← List.take_append_drop g l]
  unfold Zty; rw [List.map_append, List.sum_append]; omega
theorem Zwx {l : List (List Nat × List Nat)} {g : Nat} (h : g < l.length) : l[g].1.length + l[g].2.length ≤ Zty l := by
  have := Zqd h; have := Zug l (g + 1); omega
theorem Zzm {h : Zaa} {a : Pt} {n c : Nat} {e : Bool} {l : List (List Nat × List Nat)} (r : Row h.length h a (n * 2) (prs l)) (hs : ∀ p ∈ l, p.1.length ≤ 9223372036854775807 ∧ p.2.length ≤ 9223372036854775807) (hn : n ≤ 9223372036854775807) {left : Int} (hl : 0 ≤ left ∧ left ≤ 1048576) :
    Zae pg Zjm [.slice a n c e, .int .i64 left] h fun v h' => ∃ x, v = .int .i64 x ∧ Zbd h.length h h' ∧ (0 ≤ x → (n : Int) + Zty l + x = left) := by
  have hll : l.length = n := by have := r.1; rw [Zfa] at this; omega
  apply Zgd.call
  rw [IntWalk.i64_in _ (by omega)]
  refine Zam (fun hlt => ?_) (fun hge => ?_)
  · exact ⟨_, rfl, Zbd.refl _ _, by omega⟩
  · refine Zgd.L5ind _ _ _ _ _ (J := fun (g : Nat) x1 x5 h' => x5 = (g : Int) ∧ Zbd h.length h h' ∧ g ≤ n ∧ 0 ≤ x1 ∧ x1 + n + Zty (l.take g) = left) (fun g => n - g) ?_ 0 _ 0 h ⟨rfl, Zbd.refl _ _, by omega, by omega, by simp [Zty]⟩
    rintro g x1 x5 h' ⟨rfl, hS, hg, h0, ht⟩ R hR
    unfold Zgd.L5t
    refine Zam (fun hlt => ?_) (fun hge => ?_)
    · have hlt' : g < n := by omega
      obtain ⟨i, o, hgl, rfl, hi, hc⟩ := (r.same hS).pair hlt'
      have hsl := hs _ (List.getElem_mem hgl)
      simp only [Zba, Int.toNat_natCast, hc, Zaq, Zah, Zap, Zal]
      refine ⟨by omega, (Ztw hsl.1 hsl.2 (by omega)).mono fun v h1 ⟨y, hv, hs1, hy⟩ => ?_⟩
      subst hv
      simp only [Zbe]
      have hS1 := hS.trans (hs1.mono hS.le)
      refine Zam (fun hneg => ⟨_, rfl, hS1, by omega⟩) (fun hneg => ?_)
      rw [Zjz hlt' (by omega)]
      have hyy := hy (by omega)
      refine hR (g + 1) _ _ _ (by omega) ⟨rfl, hS1, by omega, by omega, ?_⟩
      rw [Zqd hgl]; omega
    · have : g = n := by omega
      subst this
      rw [List.take_of_length_le (by omega)] at ht
      exact Zgd.A5x0i _ _ _ ⟨_, rfl, hS, by omega⟩
end Go.Sim

set_option linter.unusedVariables false
namespace Go.Sim
open Go Go.RowKit
theorem Zxo : ∀ (l : List (List Nat × List Nat)) (k : Nat), (prs l).take (k * 2) = prs (l.take k)
  | l, 0 => by simp
  | [], k + 1 => by simp
  | p :: l, k + 1 => by rw [Nat.succ_mul]; simpa using Zxo l k
theorem Zuw {h : Zaa} {i k : Nat} {t : TypeId} {L : List (List Nat × List Nat)} {a b : List Nat} (hi : h[i]? = some (.cells t (prs L) false)) (hk : k < L.length) :
    Zbc h (.ptr (some (i, k * 2))) [.str a, .str b] = some (h.set i (.cells t (prs (L.take k ++ [(a, b)] ++ L.drop (k + 1))) false)) := by
  have hle : k * 2 + 2 ≤ (prs L).length := by rw [Zfa]; omega
  simp only [Zbc, hi, List.length_cons, List.length_nil, Nat.zero_add, hle, if_true, Zbi]
  rw [Zxo, show k * 2 + (1 + 1) = (k + 1) * 2 by omega, Ztd]
  simp
theorem Zwy (n : Nat) : reps n [.str [], .str []] = prs (List.replicate n ([], [])) := by
  unfold reps
  induction n with
  | zero => rfl
  | succ n ih => rw [List.replicate_succ, List.flatten_cons, ih, List.replicate_succ]; rfl
theorem Zyz {h : Zaa} {a0 a1 : Pt} {n0 n1 c0 c1 : Nat} {e0 e1 : Bool} {l0 l1 : List (List Nat × List Nat)} (r0 : Row h.length h a0 (n0 * 2) (prs l0)) (r1 : Row h.length h a1 (n1 * 2) (prs l1)) (hn : n0 ≤ 4611686018427387904) (heq : l0 = l1) :
    Zae pg Zjp [.slice a0 n0 c0 e0, .slice a1 n1 c1 e1] h fun v h' => v = .bool true ∧ Zbd h.length h h' := by
  subst heq
  have hl0 : l0.length = n0 := by have := r0.1; rw [Zfa] at this; omega
  have hl1 : l0.length = n1 := by have := r1.1; rw [Zfa] at this; omega
  have : n1 = n0 := by omega
  subst this
  apply Zga.call
  simp only [beq_self_eq_true, Bool.not_true, Zbj]
  refine Zga.L4ind _ _ _ _ _ _ _ _ _ (J := fun (k : Nat) x5 h' => Zbd h.length h h' ∧ x5 = (k : Int) ∧ k ≤ n1) (fun k => n1 - k) ?_ 0 0 h ⟨Zbd.refl _ _, rfl, by omega⟩
  rintro k x5 h' ⟨hs, rfl, hk⟩ R hR
  unfold Zga.L4t
  refine Zam (fun hlt => ?_) (fun hge => Zga.A4x0i _ _ ⟨rfl, hs⟩)
  have hlt' : k < n1 := by omega
  obtain ⟨i, o, hgl, rfl, _, hc0⟩ := (r0.same hs).pair hlt'
  obtain ⟨i', o', _, rfl, _, hc1⟩ := (r1.same hs).pair hlt'
  simp only [Zba, Int.toNat_natCast, hc0, hc1, Zaq, Zah, Zap, Zal, true_and]
  refine ⟨⟨by omega, by omega⟩, ⟨by omega, by omega⟩, Zuh.mono fun v h1 ⟨hv, hs1⟩ => ?_⟩
  subst hv
  simp only [Zat, decide_true, Bool.and_self, Bool.not_true, Zbj]
  rw [Zjz hlt' (by omega)]
  exact hR (k + 1) _ _ (by omega) ⟨hs.trans (hs1.mono hs.le), rfl, by omega⟩

def need (p : List Nat × List Nat) : List Nat := p.1 ++ [32] ++ p.2
end Go.Sim

set_option linter.unusedSimpArgs false
namespace Go.Sim

def Zhs : List Nat := [88, 89, 90, 120, 121, 122]
def Zna (s : List Nat) : List Nat := Zhs.filter fun v => decide (v ∈ s)
end Go.Sim

set_option linter.unusedSimpArgs false
namespace Go.Sim

abbrev Nd := List Nat × List Nat
abbrev Ins := Nd × List Nd
structure Wd where
  cs : List Nd
  is : List Ins

def Zoa (s : List Nat) : Bool := match s with | [c] => decide (65 ≤ c ∧ c ≤ 84) | _ => false
def Zfi (cs : List Nd) (c : List Nat) : Bool := cs.any fun x => decide (x.1 = c)
def Zqx (cs : List Nd) (s : List Nat) (k : Nat) : Bool := Zfi cs [s.getD k 0] && (k == 0 || decide (s.getD (k - 1) 0 < s.getD k 0))
def Ztn (cs : List Nd) (s : List Nat) : Bool := (List.range s.length).all (Zqx cs s)
def Zpx (cs : List Nd) (i : Nat) : Bool := Zoa (cs.getD i ([], [])).1 && (i == 0 || Zea (cs.getD (i - 1) ([], [])).1 (cs.getD i ([], [])).1) && Ztn (cs.take i) (cs.getD i ([], [])).2
def Zgo (cs : List Nd) : Bool := (List.range cs.length).all (Zpx cs) && decide (1 ≤ cs.length ∧ cs.length ≤ 4)
def Znv (s : List Nat) : Bool := match s with | [c] => Zgr c | _ => false
noncomputable def Zhh (cs : List Nd) (t : List Nat) (n : Nd) : Bool := Zfi cs n.1 && Zpe n.2 && decide (n.2.length ≤ 20) && (Zna n.2).all fun v => decide (v ∈ t)
noncomputable def Zjn (cs : List Nd) (i : Ins) : Bool := Zgo cs && Zfi cs i.1.1 && Zpe i.1.2 && decide (i.1.2.length ≤ 20) && !Znv i.1.2 && decide (i.2.length ≤ 3) && i.2.all (Zhh cs i.1.2)
noncomputable def Zhd (w : Wd) : Bool := Zgo w.cs && decide (w.is.length ≤ 10) && w.is.all (Zjn w.cs)
noncomputable def Zog (w : Wd) (n : Nd) : Bool := Zfi w.cs n.1 && Zpe n.2
theorem Zhv {f : Nat → Bool} {g : Nat} (h : (List.range g).all f = true) (k : f g = true) : (List.range (g + 1)).all f = true := by
  rw [List.range_succ, List.all_append, h]; simp [k]
theorem Zlb {f : Nat → Bool} {g n : Nat} (h : g < n) (k : f g = false) : (List.range n).all f = false := by
  rw [List.all_eq_false]; exact ⟨g, List.mem_range.2 h, by simp [k]⟩
theorem Zfv {α : Type} {f : α → Bool} {l : List α} {g : Nat} (hg : g < l.length) (h : (l.take g).all f = true) (k : f l[g] = true) : (l.take (g + 1)).all f = true := by
  rw [List.take_succ_eq_append_getElem hg, List.all_append, h]; simp [k]
theorem Zon {α : Type} {f : α → Bool} {l : List α} {g : Nat} (hg : g < l.length) (k : f l[g] = false) : l.all f = false := by
  rw [List.all_eq_false]; exact ⟨_, List.getElem_mem hg, by simp [k]⟩
theorem Zgv {α : Type} {l : List α} {g : Nat} {d : α} (h : g < l.length) : l.getD g d = l[g] := by simp [List.getD, h]
theorem Zql {cs : List Nd} {c : List Nat} {g : Nat} (hg : g < cs.length) : Zfi (cs.take (g + 1)) c = (Zfi (cs.take g) c || decide (cs[g].1 = c)) := by
  unfold Zfi; rw [List.take_succ_eq_append_getElem hg, List.any_append]; simp
def Ybk (cs : List Nd) (c : List Nat) : Int := if Zfi cs c then (cs.findIdx fun x => decide (x.1 = c) : Nat) else -1
theorem Zqp (cs : List Nd) (c : List Nat) : decide (Ybk cs c < 0) = !Zfi cs c := by
  unfold Ybk; cases h : Zfi cs c <;> simp
theorem Yie {t : List Nat} (h : Zpe t = true) : Znv t = Zgr (t.headD 0) := by
  obtain ⟨u, hu, rfl, _⟩ := Zxw.1 h
  cases u with
  | k c => rfl
  | u c a =>
    have h1 := hu
    simp only [Ty.ok, Bool.and_eq_true, Bool.or_eq_true, beq_iff_eq] at h1
    rcases h1.1 with rfl | rfl <;> rfl
  | w c a b =>
    have h1 := hu
    simp only [Ty.ok, Bool.and_eq_true, beq_iff_eq] at h1
    rcases h1.1.1 with rfl; rfl
end Go.Sim

set_option linter.unusedVariables false
set_option linter.unusedSimpArgs false
set_option maxRecDepth 20000
namespace Go.Sim
open Go Go.RowKit

theorem Zwa {h : Zaa} {x a b : Int} : Zae pg Ziq [.int .i64 x, .int .i64 a, .int .i64 b] h fun v h' => v = .bool (decide (a ≤ x ∧ x ≤ b)) ∧ h' = h := by
  apply Zpm.call
  refine Zam (fun h1 => ?_) (fun h1 => ?_)
  · have : a ≤ x := h1
    simp [this]
  · have : ¬ a ≤ x := h1
    simp [this]
theorem Zzn {h : Zaa} (s : List Nat) : Zae pg Zjt [.str s] h fun v h' => v = .bool (Zoa s) ∧ h' = h := by
  apply Zms.call
  match s with
  | [] => simp [Zoa]
  | [c] =>
    simp only [List.length_cons, List.length_nil, show ((0 + 1 : Nat) : Int) = 1 from rfl, beq_self_eq_true, Zfd]
    have e1 : Zea [c] [65] = decide (c < 65) := by simp [Zea]
    have e2 : Zea [c] [84] = decide (c < 84) := by simp [Zea]
    rw [e1, e2]
    refine Zrk (fun h1 => ?_) (fun h1 => ?_)
    · refine ⟨?_, by trivial⟩
      congr 1
      simp [Zoa]
      rw [Bool.eq_iff_iff]; simp; omega
    · refine ⟨?_, by trivial⟩
      simp [Zoa]; omega
  | c :: d :: r =>
    refine Zfr (fun h1 => ?_) (fun h1 => ⟨rfl, rfl⟩)
    simp at h1; omega
theorem Zts {h : Zaa} (s : List Nat) (hb : ∀ b ∈ s, b < 256) : Zae pg Zid [.str s] h fun v h' => v = .bool (Zoa s) ∧ h' = h := by
  apply Zle.call
  match s, hb with
  | [], _ => simp [Zoa]
  | [c], hb =>
    have hc := hb c (by simp)
    simp only [List.length_cons, List.length_nil, show ((0 + 1 : Nat) : Int) = 1 from rfl, beq_self_eq_true, Zfd]
    refine ⟨⟨by omega, by simp⟩, ?_⟩
    simp only [Int.toNat_zero, List.getD_cons_zero]
    rw [IntWalk.i64_in _ (by omega)]
    refine Zwa.mono ?_
    rintro v h' ⟨rfl, rfl⟩
    simp only [Zat]
    refine ⟨?_, by trivial⟩
    congr 1
    simp [Zoa]; rw [Bool.eq_iff_iff]; simp; omega
  | c :: d :: r, _ =>
    refine Zfr (fun h1 => ?_) (fun h1 => ⟨rfl, rfl⟩)
    simp at h1; omega
theorem Zxa : pg.underlying Zkr = some (.slice Zao) := by kernel_rfl
theorem Yey : pg.cellsOf Zao = 2 := by kernel_rfl
theorem Yfh : pg.okElem Zao = true := by kernel_rfl
theorem Yer : pg.bytesOf Zao ≤ 127 := Nat.le_of_ble_eq_true (by kernel_rfl)
def Zbr {α : Type} (ty : TypeId) (enc : α → List Zag) (b : Nat) (h : Zaa) (a : Pt) (n : Nat) (l : List α) : Prop := l.length = n ∧ (n = 0 ∨ ∃ i, a = some (i, 0) ∧ b ≤ i ∧ h[i]? = some (.cells ty (Zbv enc l) false))
theorem Zbr.row {α : Type} {ty : TypeId} {enc : α → List Zag} {w b : Nat} {h : Zaa} {a : Pt} {n : Nat} {l : List α} (hw : ∀ x, (enc x).length = w) (f : Zbr ty enc b h a n l) : Row h.length h a (n * w) (Zbv enc l) := by
  obtain ⟨hl, h0 | ⟨i, ha, hb, hi⟩⟩ := f
  · subst h0
    have : l = [] := List.eq_nil_of_length_eq_zero hl
    subst this; simp; exact Row.nil
  · rw [ha]; exact (Vec.mk1 (n := 0) (c := 0) hi).row (by rw [Zaw hw, hl])
theorem Zbr.same {α : Type} {ty : TypeId} {enc : α → List Zag} {b : Nat} {h h' : Zaa} {a : Pt} {n : Nat} {l : List α} (f : Zbr ty enc b h a n l) (s : Zbd h.length h h') : Zbr ty enc b h' a n l :=
  ⟨f.1, f.2.imp id fun ⟨i, ha, hb, hi⟩ => ⟨i, ha, hb, by rw [s.eq i (Own.lt hi)]; exact hi⟩⟩
end Go.Sim

set_option linter.unusedVariables false
set_option linter.unusedSimpArgs false
set_option maxRecDepth 20000
namespace Go.Sim
open Go Go.RowKit

def Ztf (a : Pt) (n : Nat) (h h' : Zaa) : Prop := h.length ≤ h'.length ∧ ∀ j, j < h.length → (∀ i, a = some (i, 0) → n ≠ 0 → j ≠ i) → h'[j]? = h[j]?
theorem Ztf.refl (a : Pt) (n : Nat) (h : Zaa) : Ztf a n h h := ⟨Nat.le_refl _, fun _ _ _ => rfl⟩
theorem Ztf.same {a : Pt} {n : Nat} {h h1 h2 : Zaa} (o : Ztf a n h h1) (s : Zbd h1.length h1 h2) : Ztf a n h h2 := ⟨Nat.le_trans o.1 s.le, fun j hj hn => by rw [s.eq j (by have := o.1; omega)]; exact o.2 j hj hn⟩
theorem Ztf.set {n i : Nat} {h h1 : Zaa} {x : Zck} (o : Ztf (some (i, 0)) n h h1) (hn : n ≠ 0) : Ztf (some (i, 0)) n h (h1.set i x) := ⟨by simp; exact o.1, fun j hj hne => by rw [Zbl (fun e => hne i rfl hn e.symm)]; exact o.2 j hj hne⟩
theorem Row.only {b : Nat} {h h' : Zaa} {a a' : Pt} {n m : Nat} {cs : List Zag} (r : Row b h a m cs) (o : Ztf a' n h h') (hb : ∀ i, a' = some (i, 0) → n ≠ 0 → b ≤ i) : Row b h' a m cs := by
  obtain ⟨hl, r⟩ := r
  refine ⟨hl, r.imp id ?_⟩
  rintro ⟨i, o', t, all, ro, ha, hi, hg, x⟩
  exact ⟨i, o', t, all, ro, ha, hi, by rw [o.2 i (Own.lt hg) fun j hj hn => by have := hb j hj hn; omega]; exact hg, x⟩
theorem Znq {cs vs : List Zag} {o : Nat} (h : o + vs.length ≤ cs.length) : (Zbi cs o vs).length = cs.length := by unfold Zbi; simp; omega
theorem Yae {L : List Nd} {g : Nat} {x y : List Nat} (hg : g < L.length) : Zbi (Zbi (Zbv eP L) (g * 2) [.str x]) (g * 2 + 1) [.str y] = Zbv eP (L.take g ++ (x, y) :: L.drop (g + 1)) := by
  have h1 : Zbv eP L = Zbv eP (L.take g) ++ .str L[g].1 :: .str L[g].2 :: Zbv eP (L.drop (g + 1)) := by
    have e0 : L = L.take g ++ L[g] :: L.drop (g + 1) := by rw [← List.drop_eq_getElem_cons hg, List.take_append_drop]
    have := congrArg (Zbv eP) e0
    rw [Znb, Zem] at this
    exact this
  have hA : (Zbv eP (L.take g)).length = g * 2 := by rw [Zaw Zdq, List.length_take]; omega
  generalize hAe : Zbv eP (L.take g) = A at *
  generalize hB : Zbv eP (L.drop (g + 1)) = B at *
  rw [h1]
  have e1 : Zbi (A ++ Zag.str L[g].1 :: Zag.str L[g].2 :: B) (g * 2) [.str x] = A ++ .str x :: .str L[g].2 :: B := by
    unfold Zbi
    rw [← hA, List.take_left, show A.length + [Zag.str x].length = A.length + 1 from rfl, ← List.drop_drop, List.drop_left]
    simp
  rw [e1]
  unfold Zbi
  have e2 : (A ++ .str x :: .str L[g].2 :: B).take (g * 2 + 1) = A ++ [.str x] := by rw [← hA, List.take_length_add_append]; rfl
  have e3 : (A ++ .str x :: .str L[g].2 :: B).drop (g * 2 + 1 + [Zag.str y].length) = B := by
    rw [show g * 2 + 1 + [Zag.str y].length = A.length + 2 by rw [hA]; rfl, ← List.drop_drop, List.drop_left]; rfl
  rw [e2, e3]
  rw [Znb, Zem, hB, hAe]
  simp [eP]
def Zgs (k : Int) (n : Nat) : List Nd := (List.range n).map fun (j : Nat) => (Zfj (k + 2 * j), Zfj (k + 2 * j + 1))
theorem Zej (k : Int) (n : Nat) : (Zgs k n).length = n := by simp [Zgs]
theorem Zrs (k : Int) (n : Nat) : Zgs k (n + 1) = Zgs k n ++ [(Zfj (k + 2 * n), Zfj (k + 2 * n + 1))] := by simp [Zgs, List.range_succ]
theorem Zto (k : Int) {n g : Nat} (h : g < n) : (Zgs k n)[g]'(by rw [Zej]; exact h) = (Zfj (k + 2 * g), Zfj (k + 2 * g + 1)) := by simp [Zgs]
theorem Zos {h : Zaa} {b : Nat} {a : Pt} {n c : Nat} {e : Bool} {l : List Nd} {k : Int} (f : Zbr Zao eP b h a n l) (hk : 0 ≤ k ∧ k + 2 * n ≤ 4611686018427387000) :
    Zae pg Zif [.slice a n c e, .int .i64 k] h fun v h' => v = .int .i64 (k + 2 * n) ∧ Ztf a n h h' ∧ Zbr Zao eP b h' a n (Zgs k n) := by
  apply Zew.call
  obtain ⟨hl, hf⟩ := f
  refine Zew.L2ind _ _ _ _ _ (J := fun (g : Nat) x1 x5 h' => x5 = (g : Int) ∧ g ≤ n ∧ x1 = k + 2 * g ∧ Ztf a n h h' ∧ (n = 0 ∨ ∃ i, a = some (i, 0) ∧ b ≤ i ∧ h'[i]? = some (.cells Zao (Zbv eP (Zgs k g ++ l.drop g)) false))) (fun g => n - g) ?_ 0 _ _ _
    ⟨rfl, by omega, by simp, Ztf.refl _ _ _, by simpa [Zgs] using hf⟩
  rintro g x1 x5 h' ⟨rfl, hg, rfl, hO, hst⟩ R hR
  unfold Zew.L2t
  refine Zam (fun hlt => ?_) (fun hge => ?_)
  · rcases hst with h0 | ⟨i, rfl, hbi, ho⟩
    · omega
    have hn0 : n ≠ 0 := by omega
    have hgl : g < (Zgs k g ++ l.drop g).length := by simp [Zej]; omega
    have hlen : (Zbv eP (Zgs k g ++ l.drop g)).length = n * 2 := by rw [Zaw Zdq]; simp [Zej]; omega
    refine (Zdi (by omega)).mono ?_
    rintro v h1 ⟨rfl, s1⟩
    simp only [Zal, Zba, Int.toNat_natCast, Nat.zero_add, Nat.add_zero]
    have ho1 : h1[i]? = some (.cells Zao (Zbv eP (Zgs k g ++ l.drop g)) false) := by rw [s1.eq i (Own.lt ho)]; exact ho
    rw [Zbb ho1 (by rw [hlen]; simp; omega)]
    simp only [Zar]
    refine ⟨by omega, (Zdi (by rw [IntWalk.i64_in _ (by omega)]; omega)).mono ?_⟩
    rintro v h2 ⟨rfl, s2⟩
    simp only [Zal]
    rw [IntWalk.i64_in (k + 2 * (g : Int) + 1) (by omega)]
    have ho2 : h2[i]? = some (.cells Zao (Zbi (Zbv eP (Zgs k g ++ l.drop g)) (g * 2) [.str (Zfj (k + 2 * g))]) false) := by rw [s2.eq i (by simp; exact Own.lt ho1)]; exact Zbn ho1
    have hlen2 : (Zbi (Zbv eP (Zgs k g ++ l.drop g)) (g * 2) [.str (Zfj (k + 2 * g))]).length = n * 2 := by rw [Znq (by rw [hlen]; simp; omega), hlen]
    rw [Zbb ho2 (by rw [hlen2]; simp; omega)]
    simp only [Zar]
    rw [IntWalk.i64_in _ (by omega), Zcd (by omega)]
    refine ⟨by omega, hR (g + 1) _ _ _ (by omega) ⟨rfl, by omega, by omega, ((hO.same s1).set hn0 |>.same s2).set hn0, .inr ⟨i, rfl, hbi, ?_⟩⟩⟩
    rw [Zbn ho2, Yae hgl]
    congr 3
    rw [List.take_left' (Zej k g), Zrs]
    have : (Zgs k g ++ l.drop g).drop (g + 1) = l.drop (g + 1) := by
      rw [← List.drop_drop, List.drop_left' (Zej k g), List.drop_drop]
    rw [this]; simp
  · have : g = n := by omega
    subst this
    apply Zew.A2x0i
    refine ⟨rfl, hO, Zej _ _, ?_⟩
    rw [List.drop_of_length_le (by omega), List.append_nil] at hst
    exact hst
theorem Zua {h : Zaa} {a : Pt} {n c : Nat} {e : Bool} {k : Int} (r : Row h.length h a (n * 2) (Zbv eP (Zgs k n))) (hk : 0 ≤ k ∧ k + 2 * n ≤ 4611686018427387000) :
    Zae pg Zic [.slice a n c e, .int .i64 k] h fun v h' => v = .int .i64 (k + 2 * n) ∧ Zbd h.length h h' := by
  apply Zey.call
  refine Zey.L2ind _ _ _ _ _ (J := fun (g : Nat) x1 x5 h' => x5 = (g : Int) ∧ g ≤ n ∧ x1 = k + 2 * g ∧ Zbd h.length h h') (fun g => n - g) ?_ 0 _ _ _ ⟨rfl, by omega, by simp, Zbd.refl _ _⟩
  rintro g x1 x5 h' ⟨rfl, hg, rfl, hS⟩ R hR
  unfold Zey.L2t
  refine Zam (fun hlt => ?_) (fun hge => ?_)
  · obtain ⟨i, o, hgl, rfl, hi, _, hc⟩ := Row.el Zdq (r.same hS) (Zej k n) (k := g) (by omega) (by omega)
    rw [Zto k (by omega)] at hc
    have c0 := hc 0 (by omega)
    have c1 := hc 1 (by omega)
    simp only [eP, List.getElem?_cons_zero, List.getElem?_cons_succ] at c0 c1
    simp only [Zba, Int.toNat_natCast, c0, Zal]
    refine ⟨by omega, (Zdi (by omega)).mono ?_⟩
    rintro v h1 ⟨rfl, s1⟩
    have hl := hS.le
    simp only [Zal]
    have c01 := (s1.mono hl).cell (by omega) c0
    have c11 := (s1.mono hl).cell (by omega) c1
    refine ⟨c01, ?_⟩
    simp only [decide_true, Bool.not_true, Zbj, Zba, c11, Zal]
    refine ⟨by omega, (Zdi (by rw [IntWalk.i64_in _ (by omega)]; omega)).mono ?_⟩
    rintro v h2 ⟨rfl, s2⟩
    rw [IntWalk.i64_in (k + 2 * (g : Int) + 1) (by omega)]
    simp only [Zal, decide_true, Bool.not_true, Zbj]
    have S1 := hS.trans (s1.mono hl)
    have c12 := (s2.mono S1.le).cell (by omega) c11
    rw [IntWalk.i64_in _ (by omega), Zcd (by omega)]
    exact ⟨c12, hR (g + 1) _ _ _ (by omega) ⟨rfl, by omega, by omega, S1.trans (s2.mono S1.le)⟩⟩
  · have : g = n := by omega
    subst this
    exact Zey.A2x0i _ _ _ ⟨rfl, hS⟩

theorem Zbr.only {α : Type} {ty : TypeId} {enc : α → List Zag} {b : Nat} {h h' : Zaa} {a a' : Pt} {n m : Nat} {l : List α} (f : Zbr ty enc b h a n l) (o : Ztf a' m h h') (hb : ∀ i, a' = some (i, 0) → m ≠ 0 → ∀ j, a = some (j, 0) → j ≠ i) : Zbr ty enc b h' a n l :=
  ⟨f.1, f.2.imp id fun ⟨i, ha, hbi, hi⟩ => ⟨i, ha, hbi, by rw [o.2 i (Own.lt hi) fun j hj hn => hb j hj hn i ha]; exact hi⟩⟩
end Go.Sim

set_option linter.unusedVariables false
set_option linter.unusedSimpArgs false
set_option maxRecDepth 20000
namespace Go.Sim
open Go Go.RowKit

structure EI where
  c : List Nat
  t : List Nat
  a : Pt
  n : Nat
  cp : Nat
  e : Bool
  deriving Inhabited
def eN (x : EI) : List Zag := [.str x.c, .str x.t, .slice x.a x.n x.cp x.e]
theorem Zeo (x : EI) : (eN x).length = 3 := rfl
def Ygo (h : Zaa) (x : EI) (i : Ins) : Prop := x.c = i.1.1 ∧ x.t = i.1.2 ∧ Row h.length h x.a (x.n * 2) (Zbv eP i.2)
def Zqv (h : Zaa) (xs : List EI) (is : List Ins) : Prop := xs.length = is.length ∧ ∀ (k : Nat) (x : EI) (i : Ins), xs[k]? = some x → is[k]? = some i → Ygo h x i
structure Zln (h : Zaa) (a0 : Pt) (n0 c0 : Nat) (a1 : Pt) (n1 c1 : Nat) (w : Wd) : Prop where
  cls : Row h.length h a0 (n0 * 2) (Zbv eP w.cs)
  ins : ∃ xs, Row h.length h a1 (n1 * 3) (Zbv eN xs) ∧ Zqv h xs w.is
  le0 : n0 ≤ c0
  le1 : n1 ≤ c1
theorem Row.same' {h h' : Zaa} {a : Pt} {n : Nat} {cs : List Zag} (r : Row h.length h a n cs) (s : Zbd h.length h h') : Row h'.length h' a n cs := (r.same s).mono s.le
theorem Ygo.same {h h' : Zaa} {x : EI} {i : Ins} (r : Ygo h x i) (s : Zbd h.length h h') : Ygo h' x i := ⟨r.1, r.2.1, r.2.2.same' s⟩
theorem Zqv.same {h h' : Zaa} {xs : List EI} {is : List Ins} (r : Zqv h xs is) (s : Zbd h.length h h') : Zqv h' xs is := ⟨r.1, fun k x i hx hi => (r.2 k x i hx hi).same s⟩
theorem Zln.same {h h' : Zaa} {a0 a1 : Pt} {n0 c0 n1 c1 : Nat} {w : Wd} (r : Zln h a0 n0 c0 a1 n1 c1 w) (s : Zbd h.length h h') : Zln h' a0 n0 c0 a1 n1 c1 w :=
  ⟨r.cls.same' s, r.ins.imp fun xs ⟨r1, r2⟩ => ⟨r1.same' s, r2.same s⟩, r.le0, r.le1⟩
theorem Ygo.len {h : Zaa} {x : EI} {i : Ins} (r : Ygo h x i) : i.2.length = x.n := by have := r.2.2.1; rw [Zaw Zdq] at this; omega
theorem Zln.len0 {h : Zaa} {a0 a1 : Pt} {n0 c0 n1 c1 : Nat} {w : Wd} (r : Zln h a0 n0 c0 a1 n1 c1 w) : w.cs.length = n0 := by have := r.cls.1; rw [Zaw Zdq] at this; omega
theorem Zln.len1 {h : Zaa} {a0 a1 : Pt} {n0 c0 n1 c1 : Nat} {w : Wd} (r : Zln h a0 n0 c0 a1 n1 c1 w) : w.is.length = n1 := by
  obtain ⟨xs, r1, r2, _⟩ := r.ins
  have := r1.1; rw [Zaw Zeo] at this; omega
theorem Zln.inst {h : Zaa} {a0 a1 : Pt} {n0 c0 n1 c1 : Nat} {w : Wd} (r : Zln h a0 n0 c0 a1 n1 c1 w) {k : Nat} (hk : k < n1) :
    ∃ i o, ∃ hk' : k < w.is.length, ∃ a n cp e, a1 = some (i, o) ∧ i < h.length ∧ Zbw h (.ptr (some (i, o + k * 3))) 3 = some [.str w.is[k].1.1, .str w.is[k].1.2, .slice a n cp e] ∧ Zai h (.ptr (some (i, o + k * 3))) = some (.str w.is[k].1.1) ∧ Zai h (.ptr (some (i, o + k * 3 + 1))) = some (.str w.is[k].1.2) ∧ Zai h (.ptr (some (i, o + k * 3 + 2))) = some (.slice a n cp e) ∧
      Row h.length h a (n * 2) (Zbv eP w.is[k].2) ∧ w.is[k].2.length = n := by
  have hl := r.len1
  obtain ⟨xs, r1, r2, r3⟩ := r.ins
  obtain ⟨i, o, hk', ha, hi, hr, hc⟩ := Row.el Zeo r1 (by omega) hk (by omega)
  have hI := r3 k xs[k] w.is[k] (List.getElem?_eq_getElem hk') (List.getElem?_eq_getElem (by omega))
  obtain ⟨e1, e2, e3⟩ := id hI
  refine ⟨i, o, by omega, xs[k].a, xs[k].n, xs[k].cp, xs[k].e, ha, hi, ?_, ?_, ?_, ?_, e3, hI.len⟩
  · rw [hr, eN, e1, e2]
  · have := hc 0 (by omega); rw [← e1]; simpa [eN] using this
  · have := hc 1 (by omega); rw [← e2]; simpa [eN] using this
  · have := hc 2 (by omega); simpa [eN] using this
theorem Row.pr {b : Nat} {h : Zaa} {a : Pt} {n : Nat} {l : List Nd} (r : Row b h a (n * 2) (Zbv eP l)) {k : Nat} (hk : k < n) :
    ∃ i o, ∃ hk' : k < l.length, a = some (i, o) ∧ i < b ∧ Zbw h (.ptr (some (i, o + k * 2))) 2 = some [.str l[k].1, .str l[k].2] ∧ Zai h (.ptr (some (i, o + k * 2))) = some (.str l[k].1) ∧ Zai h (.ptr (some (i, o + k * 2 + 1))) = some (.str l[k].2) := by
  have hl : l.length = n := by have := r.1; rw [Zaw Zdq] at this; omega
  obtain ⟨i, o, hk', ha, hi, hr, hc⟩ := Row.el Zdq r hl hk (by omega)
  exact ⟨i, o, hk', ha, hi, hr, by simpa [eP] using hc 0 (by omega), by simpa [eP] using hc 1 (by omega)⟩

def Mid (lo hi : Nat) (h h' : Zaa) : Prop := h.length ≤ h'.length ∧ ∀ j, j < h.length → (j < lo ∨ hi ≤ j) → h'[j]? = h[j]?
theorem Mid.refl (lo hi : Nat) (h : Zaa) : Mid lo hi h h := ⟨Nat.le_refl _, fun _ _ _ => rfl⟩
theorem Mid.trans {lo hi : Nat} {h h1 h2 : Zaa} (a : Mid lo hi h h1) (b : Mid lo hi h1 h2) : Mid lo hi h h2 := ⟨Nat.le_trans a.1 b.1, fun j hj hn => by rw [b.2 j (by have := a.1; omega) hn]; exact a.2 j hj hn⟩
theorem Mid.of_same {lo hi : Nat} {h h' : Zaa} (s : Zbd h.length h h') : Mid lo hi h h' := ⟨s.le, fun j hj _ => s.eq j hj⟩
theorem Mid.same {lo hi : Nat} {h h1 h2 : Zaa} (a : Mid lo hi h h1) (s : Zbd h1.length h1 h2) : Mid lo hi h h2 := a.trans (Mid.of_same s)
theorem Mid.set {lo hi i : Nat} {h h1 : Zaa} {x : Zck} (o : Mid lo hi h h1) (h0 : lo ≤ i) (h2 : i < hi) : Mid lo hi h (h1.set i x) := ⟨by simp; exact o.1, fun j hj hne => by rw [Zbl (by omega)]; exact o.2 j hj hne⟩
theorem Ztf.mid {lo hi : Nat} {a : Pt} {n : Nat} {h h' : Zaa} (o : Ztf a n h h') (hb : ∀ i, a = some (i, 0) → n ≠ 0 → lo ≤ i ∧ i < hi) : Mid lo hi h h' := ⟨o.1, fun j hj hn => o.2 j hj fun i hi h0 => by have := hb i hi h0; omega⟩
theorem Zbr.in {α : Type} {ty : TypeId} {enc : α → List Zag} {b : Nat} {h : Zaa} {a : Pt} {n : Nat} {l : List α} (f : Zbr ty enc b h a n l) : ∀ i, a = some (i, 0) → n ≠ 0 → b ≤ i ∧ i < h.length := by
  intro i hi hn
  rcases f.2 with h0 | ⟨j, ha, hb, hj⟩
  · exact absurd h0 hn
  · rw [hi] at ha; cases ha; exact ⟨hb, Own.lt hj⟩
theorem Row.mid {lo hi b : Nat} {h h' : Zaa} {a : Pt} {m : Nat} {cs : List Zag} (r : Row b h a m cs) (o : Mid lo hi h h') (hb : b ≤ lo) : Row b h' a m cs := by
  obtain ⟨hl, r⟩ := r
  refine ⟨hl, r.imp id ?_⟩
  rintro ⟨i, o', t, all, ro, ha, hi, hg, x⟩
  exact ⟨i, o', t, all, ro, ha, hi, by rw [o.2 i (Own.lt hg) (.inl (by omega))]; exact hg, x⟩
theorem Zbr.mid {α : Type} {ty : TypeId} {enc : α → List Zag} {lo hi b : Nat} {h h' : Zaa} {a : Pt} {n : Nat} {l : List α} (f : Zbr ty enc b h a n l) (o : Mid lo hi h h') (hb : hi ≤ b) : Zbr ty enc b h' a n l :=
  ⟨f.1, f.2.imp id fun ⟨i, ha, hbi, hi⟩ => ⟨i, ha, hbi, by rw [o.2 i (Own.lt hi) (.inr (by omega))]; exact hi⟩⟩

structure Zgu (b : Nat) (h : Zaa) (a0 : Pt) (n0 : Nat) (a1 : Pt) (n1 : Nat) (xs : List EI) (w : Wd) : Prop where
  cls : Zbr Zan eP b h a0 n0 w.cs
  ins : Zbr Zab eN b h a1 n1 xs
  len : xs.length = w.is.length
  need : ∀ (k : Nat) (x : EI) (i : Ins), xs[k]? = some x → w.is[k]? = some i → x.c = i.1.1 ∧ x.t = i.1.2 ∧ Zbr Zao eP b h x.a x.n i.2
  sep : ∀ (j k : Nat) (x y : EI), j ≠ k → xs[j]? = some x → xs[k]? = some y → x.n ≠ 0 → y.n ≠ 0 → x.a ≠ y.a
  nn : ∀ x ∈ xs, x.a ≠ none
theorem Zgu.same {b : Nat} {h h' : Zaa} {a0 a1 : Pt} {n0 n1 : Nat} {xs : List EI} {w : Wd} (f : Zgu b h a0 n0 a1 n1 xs w) (s : Zbd h.length h h') : Zgu b h' a0 n0 a1 n1 xs w :=
  ⟨f.cls.same s, f.ins.same s, f.len, fun k x i hx hi => ⟨(f.need k x i hx hi).1, (f.need k x i hx hi).2.1, (f.need k x i hx hi).2.2.same s⟩, f.sep, f.nn⟩
theorem Zgu.mid {lo hi b : Nat} {h h' : Zaa} {a0 a1 : Pt} {n0 n1 : Nat} {xs : List EI} {w : Wd} (f : Zgu b h a0 n0 a1 n1 xs w) (s : Mid lo hi h h') (hb : hi ≤ b) : Zgu b h' a0 n0 a1 n1 xs w :=
  ⟨f.cls.mid s hb, f.ins.mid s hb, f.len, fun k x i hx hi => ⟨(f.need k x i hx hi).1, (f.need k x i hx hi).2.1, (f.need k x i hx hi).2.2.mid s hb⟩, f.sep, f.nn⟩
theorem Zgu.rep {b : Nat} {h : Zaa} {a0 a1 : Pt} {n0 c0 n1 c1 : Nat} {xs : List EI} {w : Wd} (f : Zgu b h a0 n0 a1 n1 xs w) (h0 : n0 ≤ c0) (h1 : n1 ≤ c1) : Zln h a0 n0 c0 a1 n1 c1 w :=
  ⟨f.cls.row Zdq, ⟨xs, f.ins.row Zeo, f.len, fun k x i hx hi => ⟨(f.need k x i hx hi).1, (f.need k x i hx hi).2.1, (f.need k x i hx hi).2.2.row Zdq⟩⟩, h0, h1⟩
end Go.Sim
