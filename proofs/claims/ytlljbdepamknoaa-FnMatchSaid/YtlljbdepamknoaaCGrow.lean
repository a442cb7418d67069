/- A part of the proof of a statement of this seat: see the text that holds the theorem. No condition. -/
import Derived.Test.YtlljbdepamknoaaPTCSApply
import Derived.Test.YtlljbdepamknoaaCTy
import Derived.Test.YtlljbdepamknoaaSimX
import Derived.Test.YtlljbdepamknoaaNm
set_option linter.unusedVariables false
set_option linter.unusedSimpArgs false
set_option linter.all false
set_option linter.unusedVariables false
set_option linter.unusedSimpArgs false
set_option maxRecDepth 20000
namespace Go.Sim
open Go Go.RowKit

theorem Ybd {s : List Nat} {c g : Nat} (h : s[g]? = some c) (hn : c ∉ s.take g) : Zlf s c = g := by
  induction s generalizing g with
  | nil => simp at h
  | cons b s ih =>
    cases g with
    | zero => simp at h; subst h; simp [Zlf]
    | succ g =>
      simp at h hn
      have := ih h hn.2
      have hb : ¬ b = c := fun e => hn.1 e.symm
      simp only [Zlf, beq_iff_eq, hb, if_false, this]
      rw [if_neg (by omega)]; omega
theorem Zrx {s : List Nat} {c : Nat} (hn : c ∉ s) : Zlf s c = -1 := by
  have := (Zyx s c).2 hn; have := Zxw s c; omega
theorem Ztf {s : List Nat} {g : Nat} (h : g < s.length) : s.getD g 0 = s[g] := by simp [List.getD, h]
theorem Zvz {h : Zaa} (s : List Nat) (c : Nat) (hs : s.length ≤ 9223372036854775807) : Zae pg Zfc [.str s, .int .u8 (c : Int)] h fun v h' => v = .int .i64 (Zlf s c) ∧ h' = h := by
  apply Zef.call
  refine Zef.L2ind _ _ _ (J := fun (g : Nat) x5 h' => x5 = (g : Int) ∧ h' = h ∧ g ≤ s.length ∧ c ∉ s.take g) (fun g => s.length - g) ?_ 0 _ _ ⟨rfl, rfl, by omega, by simp⟩
  rintro g x5 h' ⟨rfl, rfl, hg, hn⟩ R hR
  unfold Zef.L2t
  refine Zaq (fun hlt => ?_) (fun hge => ?_)
  · have hlt' : g < s.length := by omega
    refine ⟨⟨by omega, by omega⟩, ?_⟩
    rw [Int.toNat_natCast, Ztf hlt']
    refine Zcl (fun he => ?_) (fun he => ?_)
    · exact ⟨by rw [Ybd (g := g) (by rw [List.getElem?_eq_getElem hlt', Int.ofNat.inj he]) hn], rfl⟩
    · rw [IntWalk.i64_in _ (by omega)]
      refine hR (g + 1) _ _ (by omega) ⟨by omega, rfl, by omega, ?_⟩
      rw [List.take_succ_eq_append_getElem hlt']
      simp only [List.mem_append, List.mem_singleton, not_or]
      exact ⟨hn, fun e => he (by rw [e])⟩
  · have : g = s.length := by omega
    subst this
    rw [List.take_length] at hn
    apply Zef.A2x0i
    rw [Zrx hn]; exact ⟨rfl, rfl⟩
theorem Ycl (c : Nat) : (if Zlf [105, 98, 117, 108, 109, 112, 120, 121, 122, 88, 89, 90] c < 0 then (-1 : Int) else if Zlf [105, 98, 117, 108, 109, 112, 120, 121, 122, 88, 89, 90] c = 3 then 1 else if Zlf [105, 98, 117, 108, 109, 112, 120, 121, 122, 88, 89, 90] c = 4 then 1 else if Zlf [105, 98, 117, 108, 109, 112, 120, 121, 122, 88, 89, 90] c = 5 then 2 else 0) = arN c := by
  by_cases h : c ∈ [105, 98, 117, 108, 109, 112, 120, 121, 122, 88, 89, 90]
  · simp at h
    rcases h with rfl | rfl | rfl | rfl | rfl | rfl | rfl | rfl | rfl | rfl | rfl | rfl <;> rfl
  · rw [Zrx h]
    simp at h
    simp [arN, Zfb, Zbj, h]
theorem Zuh {h : Zaa} (c : Nat) : Zae pg Zfg [.int .u8 (c : Int)] h fun v h' => v = .int .i64 (arN c) ∧ h' = h := by
  apply Zgx.call
  refine (Zvz _ c (by simp)).mono ?_
  rintro v h1 ⟨rfl, rfl⟩
  simp only [Zaf]
  rw [← Ycl c]
  generalize Zlf [105, 98, 117, 108, 109, 112, 120, 121, 122, 88, 89, 90] c = k
  refine Zaq (fun hk => ?_) (fun hk => ?_)
  · rw [if_pos hk]; exact ⟨rfl, by trivial⟩
  · rw [if_neg hk]
    refine Zcl (fun h3 => ?_) (fun h3 => ?_)
    · rw [if_pos h3]; exact ⟨rfl, by trivial⟩
    · rw [if_neg h3]
      refine Zcl (fun h4 => ?_) (fun h4 => ?_)
      · rw [if_pos h4]; exact ⟨rfl, by trivial⟩
      · rw [if_neg h4]
        refine Zcl (fun h5 => ?_) (fun h5 => ?_)
        · rw [if_pos h5]; exact ⟨rfl, by trivial⟩
        · rw [if_neg h5]; apply Zgx.J8i; exact ⟨rfl, by trivial⟩

def rdr (s : List Nat) (k : Nat) (b : Bool) : Zce := .cells Zbl [.str s, .int .i64 (k : Int), .bool b] false
theorem Zwn {s : List Nat} {k : Nat} (h : k < s.length) : s.drop k = s[k] :: s.drop (k + 1) := List.drop_eq_getElem_cons h
theorem Zry {h : Zaa} {i : Nat} {s : List Nat} {k : Nat} {b : Bool} (hi : h[i]? = some (rdr s k b)) (hk : k ≤ s.length) (hs : s.length ≤ 9223372036854775807) : Zae pg Zcm [.ptr (some (i, 0))] h fun v h' =>
    (∃ c : Nat, s.drop k = c :: s.drop (k + 1) ∧ k < s.length ∧ v = .int .u8 (c : Int) ∧ h' = h.set i (rdr s (k + 1) b)) ∨ (s.drop k = [] ∧ v = .int .u8 0 ∧ h' = h.set i (rdr s k true)) := by
  unfold rdr at hi
  apply Zfo.call
  simp only [Zan, Zap hi, Nat.zero_add, List.getElem?_cons_zero, List.getElem?_cons_succ, Zaf, Zam]
  refine ⟨by trivial, Zaq (fun hge => ?_) (fun hl => ?_)⟩
  · rw [Zbm hi (by simp)]
    exact .inr ⟨List.drop_eq_nil_of_le (by omega), by trivial, rfl⟩
  · have hl' : k < s.length := by omega
    rw [Zbm hi (by simp)]
    simp only [Zat, Zap (Zcq hi)]
    rw [IntWalk.i64_in _ (by omega)]
    simp only [putRow, List.take_succ_cons, List.take_zero, List.length_cons, List.length_nil, List.cons_append, List.nil_append, List.drop_succ_cons, List.drop_zero, List.getElem?_cons_zero, List.getElem?_cons_succ, Zaf, Zam]
    rw [IntWalk.i64_in _ (by omega)]
    refine ⟨by trivial, ⟨by omega, by omega⟩, .inl ⟨s[k], Zwn hl', hl', ?_, ?_⟩⟩
    · have : ((k : Int) + 1 - 1).toNat = k := by omega
      rw [this, Ztf hl']
    · simp [rdr]
def Zdo (S : Nat → Prop) (h : Zaa) : Ty → List Zac → Prop
  | .k d, v => ∃ a c e, v = [.int .u8 (d : Int), .slice a 0 c e]
  | .u d x, v => ∃ j c e r, v = [.int .u8 (d : Int), .slice (some (j, 0)) 1 c e] ∧ S j ∧ h[j]? = some (.cells Zab r false) ∧ Zdo S h x r
  | .w d x y, v => ∃ j c e r r', v = [.int .u8 (d : Int), .slice (some (j, 0)) 2 c e] ∧ S j ∧ h[j]? = some (.cells Zab (r ++ r') false) ∧ Zdo S h x r ∧ Zdo S h y r'
theorem Zdo.mono {S S' : Nat → Prop} {h : Zaa} (hs : ∀ i, S i → S' i) : ∀ {t : Ty} {v : List Zac}, Zdo S h t v → Zdo S' h t v
  | .k d, _, h => h
  | .u d x, _, ⟨j, c, e, r, hv, sj, hj, hr⟩ => ⟨j, c, e, r, hv, hs _ sj, hj, hr.mono hs⟩
  | .w d x y, _, ⟨j, c, e, r, r', hv, sj, hj, hr, hr'⟩ => ⟨j, c, e, r, r', hv, hs _ sj, hj, hr.mono hs, hr'.mono hs⟩
theorem Zdo.agree {S : Nat → Prop} {h h' : Zaa} (hh : ∀ i, S i → h'[i]? = h[i]?) : ∀ {t : Ty} {v : List Zac}, Zdo S h t v → Zdo S h' t v
  | .k d, _, h => h
  | .u d x, _, ⟨j, c, e, r, hv, sj, hj, hr⟩ => ⟨j, c, e, r, hv, sj, by rw [hh j sj]; exact hj, hr.agree hh⟩
  | .w d x y, _, ⟨j, c, e, r, r', hv, sj, hj, hr, hr'⟩ => ⟨j, c, e, r, r', hv, sj, by rw [hh j sj]; exact hj, hr.agree hh, hr'.agree hh⟩
theorem Zdo.shape {S : Nat → Prop} {h : Zaa} {t : Ty} {v : List Zac} (r : Zdo S h t v) : ∃ a c e, v = [.int .u8 (t.hd : Int), .slice a t.ps.length c e] := by
  cases t with
  | k d => exact r
  | u d x => obtain ⟨j, c, e, r, hv, _⟩ := r; exact ⟨_, c, e, hv⟩
  | w d x y => obtain ⟨j, c, e, r, r', hv, _⟩ := r; exact ⟨_, c, e, hv⟩
theorem Zdo.len {S : Nat → Prop} {h : Zaa} {t : Ty} {v : List Zac} (r : Zdo S h t v) : v.length = 2 := by obtain ⟨a, c, e, rfl⟩ := r.shape; rfl
theorem Zdo.leaf {S : Nat → Prop} {h : Zaa} {t : Ty} {v : List Zac} (r : Zdo S h t v) : v.all Zac.leaf = true := by obtain ⟨a, c, e, rfl⟩ := r.shape; rfl
theorem Zdo.parts {S : Nat → Prop} {h : Zaa} {t : Ty} {v : List Zac} (r : Zdo S h t v) : ∃ a c e, ∃ vs : List (List Zac), v = [.int .u8 (t.hd : Int), .slice a t.ps.length c e] ∧ Row h.length h a (t.ps.length * 2) vs.flatten ∧
    (∀ j o, t.ps.length ≠ 0 → a = some (j, o) → S j) ∧ vs.length = t.ps.length ∧ ∀ (k : Nat) (w : List Zac) (x : Ty), vs[k]? = some w → t.ps[k]? = some x → Zdo S h x w := by
  cases t with
  | k d => obtain ⟨a, c, e, rfl⟩ := r; exact ⟨a, c, e, [], rfl, Row.nil, fun _ _ h => absurd rfl h, rfl, by simp⟩
  | u d x =>
    obtain ⟨j, c, e, r, rfl, sj, hj, hr⟩ := r
    have hl := hr.len
    refine ⟨_, c, e, [r], rfl, ⟨by simp [Ty.ps, hl], .inr ⟨j, 0, _, _, _, rfl, Own.lt hj, hj, by simp [Ty.ps, hl], by simp [Ty.ps]; rw [List.take_of_length_le (by omega)]⟩⟩, fun j' o' _ e => by cases e; exact sj, rfl, ?_⟩
    intro k w x' h1 h2
    cases k with
    | zero => simp [Ty.ps] at h1 h2; subst h1; subst h2; exact hr
    | succ k => simp at h1
  | w d x y =>
    obtain ⟨j, c, e, r, r', rfl, sj, hj, hr, hr'⟩ := r
    have hl := hr.len
    have hl' := hr'.len
    refine ⟨_, c, e, [r, r'], rfl, ⟨by simp [Ty.ps, hl, hl'], .inr ⟨j, 0, _, _, _, rfl, Own.lt hj, hj, by simp [Ty.ps, hl, hl'], by simp [Ty.ps]; rw [List.take_of_length_le (by simp; omega)]⟩⟩, fun j' o' _ e => by cases e; exact sj, rfl, ?_⟩
    intro k w x' h1 h2
    match k with
    | 0 => simp [Ty.ps] at h1 h2; subst h1; subst h2; exact hr
    | 1 => simp [Ty.ps] at h1 h2; subst h1; subst h2; exact hr'
    | k + 2 => simp at h1
theorem Zdo.make {S : Nat → Prop} {h : Zaa} {t : Ty} {j n c : Nat} {e : Bool} {vs : List (List Zac)} (hn : n = t.ps.length) (sj : S j) (hj : h[j]? = some (.cells Zab vs.flatten false)) (hl : vs.length = n)
    (hq : ∀ (k : Nat) (w : List Zac) (x : Ty), vs[k]? = some w → t.ps[k]? = some x → Zdo S h x w) : Zdo S h t [.int .u8 (t.hd : Int), .slice (some (j, 0)) n c e] := by
  subst hn
  cases t with
  | k d => exact ⟨_, c, e, rfl⟩
  | u d x =>
    match vs, hl with
    | [r], _ => exact ⟨j, c, e, r, rfl, sj, by simpa using hj, hq 0 r x rfl rfl⟩
  | w d x y =>
    match vs, hl with
    | [r, r'], _ => exact ⟨j, c, e, r, r', rfl, sj, by simpa using hj, hq 0 r x rfl rfl, hq 1 r' y rfl rfl⟩

theorem Zur : pg.underlying Zen = some (.slice Zab) := by kernel_rfl
theorem Zzy : pg.cellsOf Zab = 2 := by kernel_rfl
theorem Zzk : pg.okElem Zab = true := by kernel_rfl
theorem Zyw : pg.bytesOf Zab ≤ 127 := Nat.le_of_ble_eq_true (by kernel_rfl)
theorem Zwb (vs : List (List Zac)) (r : List Zac) : (vs ++ [r]).flatten = vs.flatten ++ r := by simp
theorem Zys {vs : List (List Zac)} (h : ∀ v ∈ vs, v.length = 2) : vs.flatten.length = vs.length * 2 := by
  induction vs with
  | nil => rfl
  | cons v vs ih => rw [List.flatten_cons, List.length_append, h v (by simp), ih fun w hw => h w (by simp [hw]), List.length_cons]; omega
theorem Ydg {c : Nat} {ps : List Ty} (hok : ∀ p ∈ ps, p.ok = true) (ha : arN c = ps.length) : ∃ t : Ty, t.ok = true ∧ t.hd = c ∧ t.ps = ps := by
  match ps, ha, hok with
  | [], h0, _ =>
    refine ⟨.k c, ?_, rfl, rfl⟩
    simp only [Ty.ok]
    cases hl : Zfb c with
    | true => rfl
    | false => unfold arN at h0; rw [hl] at h0; simp at h0; split at h0 <;> try split at h0
               all_goals omega
  | [x], h0, hok =>
    refine ⟨.u c x, ?_, rfl, rfl⟩
    simp only [Ty.ok, hok x (by simp), Bool.and_true, Bool.or_eq_true, beq_iff_eq]
    simp at h0
    unfold arN at h0; split at h0
    · omega
    · split at h0
      · rename_i h; simpa using h
      · split at h0 <;> omega
  | [x, y], h0, hok =>
    refine ⟨.w c x y, ?_, rfl, rfl⟩
    simp only [Ty.ok, hok x (by simp), hok y (by simp), Bool.and_true, beq_iff_eq]
    simp at h0
    unfold arN at h0; split at h0
    · omega
    · split at h0
      · omega
      · split at h0
        · rename_i h; simpa using h
        · omega
  | _ :: _ :: _ :: r, h0, _ =>
    simp at h0; unfold arN at h0; split at h0 <;> try split at h0
    all_goals try split at h0
    all_goals omega
theorem Ych (t : Ty) (r : List Nat) : t.txt ++ r = t.hd :: (Zpf t.ps ++ (if t.ps = [] then r else 41 :: r)) := by
  cases t <;> simp [Ty.txt, Ty.hd, Ty.ps, Zpf]
def Zne (i : Nat) (s : List Nat) (k : Nat) (h : Zaa) (v : Zac) (h' : Zaa) : Prop :=
  Zdn i h h' ∧ ∃ (d : Nat) (a : Pt) (n c : Nat) (e : Bool) (k' : Nat) (bad : Bool), v = .agg [.int .u8 (d : Int), .slice a n c e] ∧ h'[i]? = some (rdr s k' bad) ∧ k' ≤ s.length ∧
    ((bad = false ∧ ∃ t, Zdy (s.drop k) t (s.drop k') ∧ Zdo (Btw h.length h'.length) h' t [.int .u8 (d : Int), .slice a n c e]) ∨ (bad = true ∧ ∀ t r, ¬ Zdy (s.drop k) t r))

theorem Zlr {s : List Nat} {k i : Nat} {h h' : Zaa} {k1 c i2 i3 n cp : Nat} {bad e : Bool} {a : Pt} {x y : Zac} (hil : i < h.length) (hK : Zdn i h h') (hgi : h'[i]? = some (rdr s k1 bad)) (hk1 : k1 ≤ s.length)
    (hi2 : h'[i2]? = some (.cells Zab [x, y] false)) (hl2 : h.length ≤ i2) (hne : i2 ≠ i3) (hi3 : h'[i3]? = some (.cells Zab [.int .u8 (c : Int), .slice a n cp e] false))
    (hfin : (bad = false ∧ ∃ t, Zdy (s.drop k) t (s.drop k1) ∧ Zdo (fun x => Btw h.length h'.length x ∧ x ≠ i2) h' t [.int .u8 (c : Int), .slice a n cp e]) ∨ (bad = true ∧ ∀ t r, ¬ Zdy (s.drop k) t r)) :
    Zah.J12 (Zne i s k h) i3 0 i2 0 h' := by
  apply Zah.J12i
  rw [Zej hi3 (by simp)]
  simp only [List.drop_zero, List.take_succ_cons, List.take_zero, Zaz, Zaj, Zaf, Zai, Zau]
  rw [Zbm hi2 (by simp)]
  simp only [Zat]
  rw [Zej (Zcq hi2) (by simp [putRow])]
  simp only [putRow, List.take_zero, List.nil_append, List.length_cons, List.length_nil, List.cons_append, List.drop_succ_cons, List.drop_zero, List.drop_nil, List.append_nil, List.take_succ_cons, Zaz, Zaj, Zaf, Zai, Zau]
  refine ⟨hK.trans' ?_, c, a, n, cp, e, k1, bad, rfl, by rw [Zcf (by omega)]; exact hgi, hk1, ?_⟩
  · exact fun j hj => Zcf (by omega)
  · rcases hfin with ⟨hb, t, ho, hr⟩ | hb
    · refine .inl ⟨hb, t, ho, ?_⟩
      refine Zdo.mono (S := fun x => Btw h.length h'.length x ∧ x ≠ i2) (fun z hz => by simpa using hz.1) (hr.agree fun z hz => Zcf (fun e => hz.2 e.symm))
    · exact .inr hb
theorem Yba {s : List Nat} (hs : s.length ≤ 9223372036854775807) {k i : Nat} {h : Zaa} (hil : i < h.length)
    (ih : ∀ k', k < k' → k' ≤ s.length → ∀ (h : Zaa), h[i]? = some (rdr s k' false) → Zae pg Zbw [.ptr (some (i, 0))] h (Zne i s k' h))
    {g : Zaa} {c k1 i2 i3 j0 : Nat} {bad : Bool} (hK : Zdn i h g) (hgi : g[i]? = some (rdr s k1 bad)) (hk1 : k1 ≤ s.length) (hl2 : h.length ≤ i2) (hl3 : h.length ≤ i3) (hlj : h.length ≤ j0)
    (hne : i2 ≠ i3) (hne2 : i2 ≠ j0) (hne3 : i3 ≠ j0) (hi2 : g[i2]? = some (.cells Zab [.int .u8 0, .slice none 0 0 true] false)) (hi3 : g[i3]? = some (.cells Zab [.int .u8 (c : Int), .slice (some (j0, 0)) 0 0 true] false))
    (hj0 : g[j0]? = some (.cells Zab [] false))
    (hcase : (bad = false ∧ k < k1 ∧ s.drop k = c :: s.drop k1 ∧ 0 ≤ arN c) ∨ (bad = true ∧ ∀ t r, ¬ Zdy (s.drop k) t r)) :
    Zah.J4 (Zne i s k h) (some (i, 0)) i2 0 i3 0 (arN c) g := by
  apply Zah.J4i
  have hm2 : arN c ≤ 2 := by unfold arN; split <;> try split
                             all_goals try split
                             all_goals omega
  have hi2l := Own.lt hi2
  have hi3l := Own.lt hi3
  refine Zah.L5ind _ _ _ _ _ _ _ (J := fun (q : Nat) x5 h' => x5 = (q : Int) ∧ ∃ (bad : Bool) (k1 n cp : Nat) (e : Bool) (j : Nat), Zdn i h h' ∧ h'[i]? = some (rdr s k1 bad) ∧ k1 ≤ s.length ∧
      h'[i2]? = some (.cells Zab [.int .u8 0, .slice none 0 0 true] false) ∧ h'[i3]? = some (.cells Zab [.int .u8 (c : Int), .slice (some (j, 0)) n cp e] false) ∧ h.length ≤ j ∧ i2 ≠ j ∧ i3 ≠ j ∧ i2 < h'.length ∧ i3 < h'.length ∧
      ((bad = true ∧ ∀ t r, ¬ Zdy (s.drop k) t r) ∨ (bad = false ∧ k < k1 ∧ n = q ∧ (q : Int) ≤ arN c ∧ ∃ (ps : List Ty) (vs : List (List Zac)), ps.length = q ∧ vs.length = q ∧ (∀ p ∈ ps, p.ok = true) ∧ s.drop k = c :: (Zpf ps ++ s.drop k1) ∧
        h'[j]? = some (.cells Zab vs.flatten false) ∧ (∀ v ∈ vs, v.length = 2) ∧ ∀ (kk : Nat) (v : List Zac) (x : Ty), vs[kk]? = some v → ps[kk]? = some x → ∃ lo hi, h.length ≤ lo ∧ i2 < lo ∧ i3 < lo ∧ hi ≤ h'.length ∧ ¬ Btw lo hi j ∧ Zdo (Btw lo hi) h' x v)))
    (fun q => (arN c).toNat - q) ?_ 0 _ _ ⟨rfl, bad, k1, 0, 0, true, j0, hK, hgi, hk1, hi2, hi3, hlj, hne2, hne3, hi2l, hi3l, ?_⟩
  · rintro q x5 h' ⟨rfl, bad, k1, n, cp, e, j, hK, hgi, hk1, hi2, hi3, hlj, hn2, hn3, hl2', hl3', hst⟩ R hR
    have over : ¬ (bad = false ∧ (q : Int) < arN c) → Zah.A5x0 (Zne i s k h) (arN c) (some (i, 0)) i3 0 i2 0 h' := by
      intro hgo
      · skip
        apply Zah.A5x0i
        rcases hst with ⟨hb, hno⟩ | ⟨hb, hkk, rfl, hq, ps, vs, hps, hvs, hok, hdr, hj, hv2, hrep⟩
        · subst hb
          have hend := Zlr hil hK hgi hk1 hi2 hl2 hne hi3 (.inr ⟨rfl, hno⟩)
          refine Zaq (fun _ => ?_) (fun _ => hend)
          unfold rdr at hgi
          simp only [Zan, Zap hgi, Nat.zero_add, List.getElem?_cons_zero, List.getElem?_cons_succ, Zal, Bool.not_true, Zas]
          exact hend
        · subst hb
          have hqa : (n : Int) = arN c := by have : ¬ (n : Int) < arN c := fun hlt => hgo ⟨rfl, hlt⟩; omega
          obtain ⟨t, htok, hthd, htps⟩ := Ydg (c := c) hok (by omega)
          have hrT : Zdo (fun x => Btw h.length h'.length x ∧ x ≠ i2) h' t [.int .u8 (c : Int), .slice (some (j, 0)) n cp e] := by
            rw [← hthd]
            refine Zdo.make (vs := vs) (by rw [htps]; exact hps.symm) ⟨⟨hlj, Own.lt hj⟩, fun e => hn2 e.symm⟩ hj hvs fun kk v x hv hx => ?_
            rw [htps] at hx
            obtain ⟨lo, hi, h1, h2, h3, h4, h5, h6⟩ := hrep kk v x hv hx
            exact h6.mono fun z hz => ⟨⟨by have := hz.1; omega, by have := hz.2; omega⟩, by have := hz.1; omega⟩
          have hno : (∀ r, s.drop k1 ≠ (if t.ps = [] then r else 41 :: r)) → ∀ t' r, ¬ Zdy (s.drop k) t' r := by
            intro hx t' r ho
            rw [hdr] at ho
            have h1 := Ty.ok_ar ho.1
            have hhd : t'.hd = c := by
              obtain ⟨r', hr⟩ := t'.txt_cons
              have := ho.2; rw [hr] at this; simp at this; exact this.1.symm
            rw [hhd] at h1
            have := ho.step hok (by omega)
            have h3 := this.2.2.2 (by omega)
            have hemp : t'.ps = [] ↔ t.ps = [] := by
              rw [← List.length_eq_zero_iff, ← List.length_eq_zero_iff, htps]; omega
            simp only [hemp] at h3
            exact hx _ h3
          have hyes : ∀ r, s.drop k1 = (if t.ps = [] then r else 41 :: r) → Zdy (s.drop k) t r := by
            intro r hr
            refine ⟨htok, ?_⟩
            rw [Ych, hthd, hdr, hr, htps]
          refine Zaq (fun hpos => ?_) (fun hz => ?_)
          · have hne0 : t.ps ≠ [] := by rw [htps]; intro e0; rw [e0] at hps; simp at hps; omega
            simp only [if_neg hne0] at hno hyes
            have hgi' := hgi
            unfold rdr at hgi'
            simp only [Zan, Zap hgi', Nat.zero_add, List.getElem?_cons_zero, List.getElem?_cons_succ, Zal, Bool.not_false, Zax]
            refine (Zry hgi hk1 hs).mono ?_
            have hK2 : ∀ b' k2, Zdn i h (h'.set i (rdr s k2 b')) := fun b' k2 => hK.trans (Zdn.set _ _ _)
            have hin2 : i ≠ i2 := by omega
            have hin3 : i ≠ i3 := by omega
            have badEnd : ∀ k2, k2 ≤ s.length → (∀ r, s.drop k1 ≠ 41 :: r) → Zah.J12 (Zne i s k h) i3 0 i2 0 (h'.set i (rdr s k2 true)) := fun k2 hk2 hx =>
              Zlr hil (hK2 _ _) (Zcq hgi) hk2 (by rw [Zcf hin2]; exact hi2) hl2 hne (by rw [Zcf hin3]; exact hi3) (.inr ⟨rfl, hno hx⟩)
            rintro v h2 (⟨d, hd, hlt, rfl, rfl⟩ | ⟨hnil, rfl, rfl⟩)
            · simp only [Zaf]
              have hg2 : (h'.set i (rdr s (k1 + 1) false))[i]? = some (.cells Zbl [.str s, .int .i64 ((k1 + 1 : Nat) : Int), .bool false] false) := Zcq hgi
              refine Zhd (fun hne41 => ?_) (fun he41 => ?_)
              · try simp only [Zan]
                rw [Zbm hg2 (by simp)]
                simp only [Zat]
                have := badEnd (k1 + 1) (by omega) (fun r hr => by rw [hd] at hr; simp at hr; omega)
                simpa [rdr, putRow, List.set_set] using this
              · have hd41 : d = 41 := by omega
                try simp only [Zan]
                rw [Zap hg2]
                simp only [Nat.zero_add, List.getElem?_cons_zero, List.getElem?_cons_succ, Zal]
                rw [Zbm hg2 (by simp)]
                simp only [Zat]
                have := Zlr (bad := false) (k1 := k1 + 1) hil (hK2 false (k1 + 1)) (Zcq hgi) (by omega) (by rw [Zcf hin2]; exact hi2) hl2 hne (by rw [Zcf hin3]; exact hi3)
                  (.inl ⟨rfl, t, hyes _ (by rw [hd, hd41]), Zdo.mono (fun z hz => by simpa using hz) (hrT.agree fun z hz => Zcf (by have := hz.1.1; omega))⟩)
                simpa [rdr, putRow, List.set_set] using this
            · simp only [Zaf]
              have hg2 : (h'.set i (rdr s k1 true))[i]? = some (.cells Zbl [.str s, .int .i64 (k1 : Int), .bool true] false) := Zcq hgi
              simp only [show ((0 : Int) == 41) = false from rfl, Bool.not_false, Zax, Zan]
              rw [Zbm hg2 (by simp)]
              simp only [Zat]
              have := badEnd k1 hk1 (fun r hr => by rw [hnil] at hr; cases hr)
              simpa [rdr, putRow, List.set_set] using this
          · have he0 : t.ps = [] := by rw [htps]; exact List.eq_nil_of_length_eq_zero (by omega)
            refine Zlr hil hK hgi hk1 hi2 hl2 hne hi3 (.inl ⟨rfl, t, hyes _ (by rw [if_pos he0]), hrT⟩)
    unfold Zah.L5t
    have hgi' := hgi
    unfold rdr at hgi'
    refine Zaq (fun hlt => ?_) (fun hge => over fun hx => hge hx.2)
    simp only [Zan, Zap hgi', Nat.zero_add, List.getElem?_cons_zero, List.getElem?_cons_succ, Zal]
    refine Zeq (fun hb => ?_) (fun hb => over fun hx => by rw [hb] at hx; cases hx.1)
    subst hb
    rcases hst with ⟨hb, _⟩ | ⟨_, hkk, rfl, hq, ps, vs, hps, hvs, hok, hdr, hj, hv2, hrep⟩
    · cases hb
    have hin2 : i ≠ i2 := by omega
    have hin3 : i ≠ i3 := by omega
    have hn2' : n < 2 := by omega
    have hstep : ∀ t r, Zdy (s.drop k) t r → ∃ p s', s.drop k1 = Zij n :: s' ∧ ∃ r', Zdy s' p r' := by
      intro t r ho
      rw [hdr] at ho
      have h1 := Ty.ok_ar ho.1
      have hhd : t.hd = c := by
        obtain ⟨r', hr⟩ := t.txt_cons
        have := ho.2; rw [hr] at this; simp at this; exact this.1.symm
      rw [hhd] at h1
      have := ho.step hok (by omega)
      rw [← hps]
      exact this.2.2.1 (by omega)
    apply Zah.J7i
    refine ⟨⟨by omega, by simp; omega⟩, ?_⟩
    have hmk : ([40, 44] : List Nat).getD ((n : Int).toNat) 0 = Zij n := by
      rw [Int.toNat_natCast]
      rcases n with _ | _ | n
      · rfl
      · rfl
      · omega
    rw [hmk]
    refine (Zry hgi hk1 hs).mono ?_
    have badGo : ∀ k2, k2 ≤ s.length → (∀ t r, ¬ Zdy (s.drop k) t r) → Zah.J8 (Zne i s k h) R (some (i, 0)) i3 0 (n : Int) (arN c) i2 0 (h'.set i (rdr s k2 true)) := by
      intro k2 hk2 hno
      apply Zah.J8i
      have hg := Zcq (x := rdr s k2 true) hgi
      have hg' : (h'.set i (rdr s k2 true))[i]? = some (.cells Zbl [.str s, .int .i64 (k2 : Int), .bool true] false) := hg
      simp only [Zan]
      rw [Zap hg']
      simp only [Nat.zero_add, List.getElem?_cons_zero, List.getElem?_cons_succ, Zal, Bool.not_true, Zas]
      apply Zah.J6i
      rw [IntWalk.i64_in _ (by omega)]
      refine hR (n + 1) _ _ (by omega) ⟨by omega, true, k2, n, cp, e, j, hK.trans (Zdn.set _ _ _), hg, hk2, by rw [Zcf hin2]; exact hi2, by rw [Zcf hin3]; exact hi3, hlj, hn2, hn3, by simp; omega, by simp; omega, .inl ⟨rfl, hno⟩⟩
    rintro v h2 (⟨d, hd, hlt1, rfl, rfl⟩ | ⟨hnil, rfl, rfl⟩)
    · simp only [Zaf]
      have hg3 := Zcq (x := rdr s (k1 + 1) false) hgi
      have hg2 : (h'.set i (rdr s (k1 + 1) false))[i]? = some (.cells Zbl [.str s, .int .i64 ((k1 + 1 : Nat) : Int), .bool false] false) := hg3
      refine Zhd (fun hne1 => ?_) (fun he1 => ?_)
      · simp only [Zan]
        rw [Zbm hg2 (by simp)]
        simp only [Zat]
        have := badGo (k1 + 1) (by omega) (fun t r ho => by
          obtain ⟨p, s', hx, _⟩ := hstep t r ho
          rw [hd] at hx; simp at hx; omega)
        simpa [rdr, putRow, List.set_set] using this
      · have hdm : d = Zij n := by omega
        simp only [Zan]
        rw [Zap hg2]
        simp only [Nat.zero_add, List.getElem?_cons_zero, List.getElem?_cons_succ, Zal]
        rw [Zbm hg2 (by simp)]
        simp only [Zat]
        have hsame : (h'.set i (rdr s (k1 + 1) false)).set i (Zce.cells Zbl (putRow [Zac.str s, Zac.int .i64 ((k1 + 1 : Nat) : Int), Zac.bool false] 2 [Zac.bool false]) false) = h'.set i (rdr s (k1 + 1) false) := by
          simp [rdr, putRow, List.set_set]
        rw [hsame]
        apply Zah.J8i
        simp only [Zan]
        rw [Zap hg2]
        simp only [Nat.zero_add, List.getElem?_cons_zero, List.getElem?_cons_succ, Zal, Bool.not_false, Zax]
        have hi3a : (h'.set i (rdr s (k1 + 1) false))[i3]? = some (.cells Zab [.int .u8 (c : Int), .slice (some (j, 0)) n cp e] false) := by rw [Zcf hin3]; exact hi3
        rw [Zap hi3a]
        simp only [List.getElem?_cons_zero, List.getElem?_cons_succ, Zai]
        refine (ih (k1 + 1) (by omega) (by omega) _ hg3).mono ?_
        rintro v h3 ⟨hK3, d3, a3, n3, c3, e3, k3, bad3, rfl, hg4, hk3, hres⟩

        have hl3 := hK3.le
        simp only [List.length_set] at hl3
        have hold3 : ∀ z, z < h'.length → z ≠ i → h3[z]? = h'[z]? := fun z hz hzi => by rw [hK3.eq z (by simpa using hz) hzi, Zcf (by omega)]
        have hi33 : h3[i3]? = some (.cells Zab [.int .u8 (c : Int), .slice (some (j, 0)) n cp e] false) := by rw [hold3 _ hl3' (by omega)]; exact hi3
        have hj3 : h3[j]? = some (.cells Zab vs.flatten false) := by rw [hold3 _ (Own.lt hj) (by omega)]; exact hj
        simp only [Zgl, Zaj, Zaf, Zai, Zau]
        refine ⟨by rw [Zap hi33]; rfl, ?_⟩
        simp only [Zbf]
        refine ⟨by rw [Zap (Zio hi33), Zap hi33], ?_⟩
        refine (Vec.mk1 hj3).pushN Zur Zzy Zzk Zyw (by rw [Zys hv2, hvs]) rfl (by omega) (by simp [Zac.leaf]) (by omega) (fun h4 hl4 hi4 hk4 => ?_)
        simp only [Zai]
        have hold4 : ∀ z, z < h3.length → z ≠ j → h4[z]? = h3[z]? := fun z hz hzj => hk4 z hz fun w hw => by cases hw; exact hzj
        have hi34 : h4[i3]? = some (.cells Zab [.int .u8 (c : Int), .slice (some (j, 0)) n cp e] false) := by rw [hold4 _ (by omega) hn3]; exact hi33
        rw [Zbm hi34 (by simp)]
        simp only [Zat]
        apply Zah.J6i
        rw [IntWalk.i64_in _ (by omega)]
        have hiL : i < h'.length := Own.lt hgi
        have hold5 : ∀ (x : Zce) z, z ≠ i3 → z ≠ j → z < h3.length → (h4.set i3 x)[z]? = h3[z]? := fun x z h1 h2 h3 => by rw [Zcf (by omega), hold4 _ h3 h2]
        refine hR (n + 1) _ _ (by omega) ⟨by omega, bad3, k3, n + 1, n + 1, false, h3.length + 1, ?_, ?_, hk3, ?_, ?_, by omega, by omega, by omega, by simp; omega, by simp; omega, ?_⟩
        · refine ⟨by simp; have := hK.le; omega, fun z hz hzi => ?_⟩
          have := hK.le
          rw [hold5 _ _ (by omega) (by omega) (by omega), hold3 _ (by omega) hzi]; exact hK.eq z hz hzi
        · rw [hold5 _ _ hin3 (by omega) (by omega)]; exact hg4
        · rw [hold5 _ _ hne hn2 (by omega), hold3 _ hl2' (by omega)]; exact hi2
        · rw [Zcq hi34]; simp [putRow]
        · rcases hres with ⟨hb3, t, ho, hr⟩ | ⟨hb3, hno⟩
          · refine .inr ⟨hb3, ?_, rfl, by omega, ps ++ [t], vs ++ [[.int .u8 (d3 : Int), .slice a3 n3 c3 e3]], by simp [hps], by simp [hvs], ?_, ?_, ?_, ?_, ?_⟩
            · have := ho.2
              have hl := congrArg List.length this
              simp at hl; have := t.txt_pos; omega
            · intro p hp
              rcases List.mem_append.1 hp with hp | hp
              · exact hok p hp
              · simp at hp; subst hp; exact ho.1
            · rw [hdr, hd, hdm, ho.2]
              match ps, hps, hn2' with
              | [], hps, _ => subst hps; simp [Zpf, Zij]
              | [x], hps, _ => subst hps; simp [Zpf, Zij]
              | x :: y :: l, hps, _ => simp at hps; omega
            · rw [Zcf (by omega), hi4, Zwb]
            · intro v hv
              rcases List.mem_append.1 hv with hv | hv
              · exact hv2 v hv
              · simp at hv; subst hv; rfl
            · intro kk v x hv hx
              by_cases hkn : kk < n
              · rw [List.getElem?_append_left (by omega)] at hv hx
                obtain ⟨lo, hi, h1, h2, h2', h3', h4', h5⟩ := hrep kk v x hv hx
                refine ⟨lo, hi, h1, h2, h2', by simp; omega, fun hb => by have := hb.2; omega, h5.agree fun z hz => ?_⟩
                have := hz.1; have := hz.2
                rw [hold5 _ _ (by omega) (fun e => h4' (e ▸ hz)) (by omega), hold3 _ (by omega) (by omega)]
              · have hk' : kk = n := by
                  have := (List.getElem?_eq_some_iff.1 hv).1; simp at this; omega
                subst hk'
                rw [List.getElem?_append_right (by omega)] at hv hx
                simp [hps, hvs] at hv hx
                subst hv; subst hx
                refine ⟨h'.length, h3.length, by have := hK.le; omega, by omega, by omega, by simp; omega, fun hb => by have := hb.2; omega, ?_⟩
                have hr' : Zdo (Btw h'.length h3.length) h3 t [.int .u8 (d3 : Int), .slice a3 n3 c3 e3] := by simpa using hr
                refine hr'.agree fun z hz => ?_
                have := hz.1; have := hz.2; have := Own.lt hj
                rw [hold5 _ _ (by omega) (by omega) (by omega)]
          · refine .inl ⟨hb3, fun t r ho => ?_⟩
            obtain ⟨p, s', hx, r', ho'⟩ := hstep t r ho
            rw [hd] at hx; simp at hx
            rw [← hx.2] at ho'
            exact hno _ _ ho'
    · simp only [Zaf]
      have hg2 : (h'.set i (rdr s k1 true))[i]? = some (.cells Zbl [.str s, .int .i64 (k1 : Int), .bool true] false) := Zcq hgi
      refine Zhd (fun _ => ?_) (fun he1 => by exfalso; unfold Zij at he1; split at he1 <;> omega)
      simp only [Zan]
      rw [Zbm hg2 (by simp)]
      simp only [Zat]
      have := badGo k1 hk1 (fun t r ho => by
        obtain ⟨p, s', hx, _⟩ := hstep t r ho
        rw [hnil] at hx; cases hx)
      simpa [rdr, putRow, List.set_set] using this
  · rcases hcase with ⟨hb, hkk, hdr, ha⟩ | hb
    · exact .inr ⟨hb, hkk, rfl, by simpa using ha, [], [], rfl, rfl, by simp, by simpa [Zpf] using hdr, by simpa using hj0, by simp, by simp⟩
    · exact .inl hb

theorem Ybo {s : List Nat} (hs : s.length ≤ 9223372036854775807) (i : Nat) : ∀ (N k : Nat), s.length - k ≤ N → k ≤ s.length → ∀ (h : Zaa), h[i]? = some (rdr s k false) →
    Zae pg Zbw [.ptr (some (i, 0))] h (Zne i s k h) := by
  intro N
  induction N using Nat.strongRecOn with
  | _ N ihN =>
  intro k hN hk h hi
  have hil := Own.lt hi
  have ih : ∀ k', k < k' → k' ≤ s.length → ∀ (h : Zaa), h[i]? = some (rdr s k' false) → Zae pg Zbw [.ptr (some (i, 0))] h (Zne i s k' h) :=
    fun k' h1 h2 => ihN (s.length - k') (by omega) k' (Nat.le_refl _) h2
  apply Zah.call
  simp only [Zbf]
  refine (Zry (Zio hi) hk hs).mono ?_
  have main : ∀ (c k1 : Nat) (b1 : Bool), k1 ≤ s.length → ((b1 = false ∧ k < k1 ∧ s.drop k = c :: s.drop k1) ∨ (b1 = true ∧ arN c < 0 ∧ s.drop k = [])) → ∀ h2, h2 = (h ++ [Zce.cells Zab [.int .u8 0, .slice none 0 0 true] false]).set i (rdr s k1 b1) →
      Zcr (Zbi (h2 ++ [Zce.cells Zab [] false] ++ [Zce.cells Zab [.int .u8 0, .slice none 0 0 true] false]) (.ptr (some (List.length (h2 ++ [Zce.cells Zab [] false]), 0))) [.int .u8 (c : Int), .slice (some (List.length h2, 0)) 0 0 true]) fun h_6 => Zck .u8 (Zak h_6 (.ptr (some (List.length (h2 ++ [Zce.cells Zab [] false]), 0 + 0)))) fun x_7 => Zae pg Zfg [.int .u8 x_7] h_6 fun v_8 h_9 =>
        Zck .i64 (some v_8) fun x_10 => Zbb (some (i, 0)) fun i_11 o_12 => Zcg (Zak h_9 (.ptr (some (i_11, o_12 + 2)))) fun b_13 => bcase b_13 (Zbb (some (i, 0)) fun i_14 o_15 => Zcr (Zbi h_9 (.ptr (some (i_14, o_15 + 2))) [.bool true]) fun h_16 => Zah.J4 (Zne i s k h) (some (i, 0)) (List.length h) 0 (List.length (h2 ++ [Zce.cells Zab [] false])) 0 x_10 h_16) (Zbb (some (i, 0)) fun i_17 o_18 => Zcr (Zbi h_9 (.ptr (some (i_17, o_18 + 2))) [.bool (decide ((x_10 : Int) < 0))]) fun h_19 => Zah.J4 (Zne i s k h) (some (i, 0)) (List.length h) 0 (List.length (h2 ++ [Zce.cells Zab [] false])) 0 x_10 h_19) := by
    intro c k1 b1 hk1 hc h2 hh2
    have hl2 : h2.length = h.length + 1 := by rw [hh2]; simp
    have hi2 : h2[i]? = some (rdr s k1 b1) := by rw [hh2]; exact Zcq (Zio hi)
    have hz2 : h2[h.length]? = some (.cells Zab [.int .u8 0, .slice none 0 0 true] false) := by rw [hh2, Zcf (by omega)]; simp
    have hK2 : Zdn i h h2 := by rw [hh2]; exact (Zdn.app i h _).trans (Zdn.set _ _ _)
    generalize hg : h2 ++ [Zce.cells Zab [] false] = g
    have hgl : g.length = h.length + 2 := by rw [← hg]; simp [hl2]
    have hgi : g[i]? = some (rdr s k1 b1) := by rw [← hg]; exact Zio hi2
    have hgz : g[h.length]? = some (.cells Zab [.int .u8 0, .slice none 0 0 true] false) := by rw [← hg]; exact Zio hz2
    have hga : g[h2.length]? = some (.cells Zab [] false) := by rw [← hg]; simp
    have hKg : Zdn i h g := by rw [← hg]; exact hK2.trans (Zdn.app i _ _)
    have hn : (g ++ [Zce.cells Zab [.int .u8 0, .slice none 0 0 true] false])[g.length]? = some (Zce.cells Zab [.int .u8 0, .slice none 0 0 true] false) := by simp
    rw [Zbm hn (by simp)]
    simp only [Zat]
    rw [Zap (Zcq hn)]
    simp only [putRow, List.take_zero, List.nil_append, List.cons_append, Nat.add_zero, List.getElem?_cons_zero, Zaf]
    refine (Zuh c).mono ?_
    rintro v h9 ⟨rfl, rfl⟩
    have hold : ∀ (x : Zce) z w, g[z]? = some w → ((g ++ [Zce.cells Zab [.int .u8 0, .slice none 0 0 true] false]).set g.length x)[z]? = some w := fun x z w hz => by rw [Zcf (by have := Own.lt hz; omega)]; exact Zio hz
    simp only [Zaf, Zan]
    have h9i := hold (Zce.cells Zab [.int .u8 (c : Int), .slice (some (List.length h2, 0)) 0 0 true] false) i _ hgi
    have h9i' : ((g ++ [Zce.cells Zab [.int .u8 0, .slice none 0 0 true] false]).set g.length (Zce.cells Zab [.int .u8 (c : Int), .slice (some (List.length h2, 0)) 0 0 true] false))[i]? = some (.cells Zbl [.str s, .int .i64 (k1 : Int), .bool b1] false) := h9i
    rw [show (Zac.int IntKind.u8 (c : Int) :: Zac.slice (some (List.length h2, 0)) 0 0 true :: List.drop (0 + [Zac.int IntKind.u8 (c : Int), Zac.slice (some (List.length h2, 0)) 0 0 true].length) [Zac.int IntKind.u8 0, Zac.slice none 0 0 true]) = [.int .u8 (c : Int), .slice (some (List.length h2, 0)) 0 0 true] from rfl]
    have tail : ∀ b2, ((b2 = false ∧ k < k1 ∧ s.drop k = c :: s.drop k1 ∧ 0 ≤ arN c) ∨ (b2 = true ∧ ∀ t r, ¬ Zdy (s.drop k) t r)) → ∀ g2, g2 = (((g ++ [Zce.cells Zab [.int .u8 0, .slice none 0 0 true] false]).set g.length (Zce.cells Zab [.int .u8 (c : Int), .slice (some (List.length h2, 0)) 0 0 true] false)).set i (rdr s k1 b2)) →
        Zah.J4 (Zne i s k h) (some (i, 0)) (List.length h) 0 (List.length g) 0 (arN c) g2 := by
      intro b2 hb g2 hg2
      refine Yba hs hil ih (c := c) (k1 := k1) (bad := b2) (j0 := h2.length) ?_ ?_ hk1 (Nat.le_refl _) (by omega) (by omega) (by omega) (by omega) (by omega) ?_ ?_ ?_ hb
      · rw [hg2]; exact ((hKg.trans (Zdn.app i _ _)).trans' (fun j hj => Zcf (by omega))).trans (Zdn.set _ _ _)
      · rw [hg2]; exact Zcq h9i
      · rw [hg2, Zcf (by omega)]; exact hold _ _ _ hgz
      · rw [hg2, Zcf (by omega)]; exact Zcq hn
      · rw [hg2, Zcf (by omega)]; exact hold _ _ _ hga
    rw [Zap h9i']
    simp only [Nat.zero_add, List.getElem?_cons_zero, List.getElem?_cons_succ, Zal]
    rw [Zbm h9i' (by simp), Zbm h9i' (by simp)]
    simp only [Zat]
    rcases hc with ⟨rfl, h1, h2'⟩ | ⟨rfl, h1, h2'⟩
    · simp only [Zas]
      by_cases ha : arN c < 0
      · refine tail true (.inr ⟨rfl, ?_⟩) _ (by simp [rdr, putRow, ha])
        intro t r ho
        have h3 := Ty.ok_ar ho.1
        have hhd : t.hd = c := by
          obtain ⟨r', hr⟩ := t.txt_cons
          have := ho.2; rw [hr, h2'] at this; simp at this; exact this.1.symm
        rw [hhd] at h3; omega
      · exact tail false (.inl ⟨rfl, h1, h2', by omega⟩) _ (by simp [rdr, putRow, ha])
    · simp only [Zax]
      refine tail true (.inr ⟨rfl, ?_⟩) _ (by simp [rdr, putRow])
      intro t r ho
      rw [h2'] at ho; exact Zdy.nil ho
  rintro v h2 (⟨c, hd, hlt, rfl, hh⟩ | ⟨hnil, rfl, hh⟩)
  · simp only [Zaf]
    exact main c (k + 1) false (by omega) (.inl ⟨rfl, by omega, hd⟩) h2 hh
  · simp only [Zaf]
    exact main 0 k true hk (.inr ⟨rfl, by decide, hnil⟩) h2 hh

theorem Zkd (s : List Nat) (hs : s.length ≤ 9223372036854775807) (h : Zaa) : Zae pg Zdx [.str s] h fun v h' => Zbk h.length h h' ∧ ∃ vs : List Zac, v = .tup [.agg vs, .bool (Zkp s)] ∧
    (match Zdr s with | some t => Zdo (Btw h.length h'.length) h' t vs | none => vs = [.int .u8 0, .slice none 0 0 true]) := by
  apply Zhm.call
  simp only [Zbf]
  generalize hg : h ++ [Zce.cells Zab [.int .u8 0, .slice none 0 0 true] false] = g
  have hgl : g.length = h.length + 1 := by rw [← hg]; simp
  have hgz : g[h.length]? = some (.cells Zab [.int .u8 0, .slice none 0 0 true] false) := by rw [← hg]; simp
  have hgs : Zbk h.length h g := by rw [← hg]; exact Zbk.app (Nat.le_refl _) _
  have hr : (g ++ [Zce.cells Zbl [.str s, .int .i64 0, .bool false] false])[g.length]? = some (rdr s 0 false) := by simp [rdr]
  refine (Ybo hs g.length _ 0 (Nat.le_refl _) (Nat.zero_le _) _ hr).mono ?_
  rintro v h3 ⟨hK, d, a, n, c, e, k', bad, rfl, hi, hk', hres⟩
  simp only [Zgl, Zaj, Zaf, Zai, Zau, Zbf]
  have hl3 := hK.le
  simp at hl3
  have hz3 : h3[h.length]? = some (.cells Zab [.int .u8 0, .slice none 0 0 true] false) := by rw [hK.eq _ (by simp; omega) (by omega)]; exact Zio hgz
  have hs3 : Zbk h.length h h3 := ⟨by omega, fun j hj => by rw [hK.eq _ (by simp; omega) (by omega), Zwj (by omega)]; exact hgs.eq j hj⟩
  have hn : (h3 ++ [Zce.cells Zab [.int .u8 0, .slice none 0 0 true] false])[h3.length]? = some (.cells Zab [.int .u8 0, .slice none 0 0 true] false) := by simp
  rw [Zbm hn (by simp)]
  simp only [Zat]
  generalize h5e : (h3 ++ [Zce.cells Zab [.int .u8 0, .slice none 0 0 true] false]).set h3.length (.cells Zab (putRow [.int .u8 0, .slice none 0 0 true] 0 [.int .u8 (d : Int), .slice a n c e]) false) = h5
  have h5o : ∀ z, z < h3.length → h5[z]? = h3[z]? := fun z hz => by rw [← h5e, Zcf (by omega), Zwj hz]
  have h5l : h5.length = h3.length + 1 := by rw [← h5e]; simp
  have h5n : h5[h3.length]? = some (.cells Zab [.int .u8 (d : Int), .slice a n c e] false) := by rw [← h5e, Zcq hn]; simp [putRow]
  have h5i : h5[g.length]? = some (.cells Zbl [.str s, .int .i64 (k' : Int), .bool bad] false) := by rw [h5o _ (Own.lt hi)]; exact hi
  have h5z : h5[h.length]? = some (.cells Zab [.int .u8 0, .slice none 0 0 true] false) := by rw [h5o _ (Own.lt hz3)]; exact hz3
  have h5s : Zbk h.length h h5 := ⟨by omega, fun j hj => by rw [h5o _ (by omega)]; exact hs3.eq j hj⟩
  rw [Zap h5i]
  simp only [Nat.zero_add, List.getElem?_cons_zero, List.getElem?_cons_succ, Zal]
  have fail : Zdr s = none → Zcr (Zbi h5 (.ptr (some (List.length h, 0))) [.int .u8 0, .slice none 0 0 true]) fun h_17 => Zep (Zdd h_17 (.ptr (some (List.length h, 0))) 2) fun cs_18 => Zar cs_18 fun c_19 r_20 => Zck .u8 (some c_19) fun x_21 => Zar r_20 fun c_22 r_23 => xSl (some c_22) fun a_24 n_25 c_26 e_27 => Zec r_23 (Zbk h.length h h_17 ∧ ∃ vs : List Zac, (Zac.tup [.agg [.int .u8 x_21, .slice a_24 n_25 c_26 e_27], .bool false]) = .tup [.agg vs, .bool (Zkp s)] ∧
    (match Zdr s with | some t => Zdo (Btw h.length h_17.length) h_17 t vs | none => vs = [.int .u8 0, .slice none 0 0 true])) := by
    intro hno
    rw [Zbm h5z (by simp)]
    simp only [Zat]
    rw [Zej (Zcq h5z) (by simp [putRow])]
    simp only [putRow, List.take_zero, List.nil_append, List.length_cons, List.length_nil, List.cons_append, List.drop_succ_cons, List.drop_zero, List.drop_nil, List.append_nil, List.take_succ_cons, Zaz, Zaj, Zaf, Zai, Zau]
    refine ⟨⟨by simp; omega, fun j hj => by rw [Zcf (by omega)]; exact h5s.eq j hj⟩, _, by simp only [Zkp, hno]; rfl, by rw [hno]⟩
  rw [List.drop_zero] at hres
  rcases hres with ⟨rfl, t, ho, hrep⟩ | ⟨rfl, hno⟩
  · simp only [Zas, Zap h5i, Nat.zero_add, List.getElem?_cons_zero, List.getElem?_cons_succ, Zaf]
    refine Zhd (fun hne => fail ?_) (fun he => ?_)
    · unfold Zdr
      split
      · exact Zix.2 fun t' ht' e' => by
          have := (ho.unique ⟨ht', show s = t'.txt ++ [] by simpa using e'⟩).2
          have := congrArg List.length this
          simp at this; omega
      · rfl
    · have hk : k' = s.length := by omega
      subst hk
      rw [List.drop_length] at ho
      have hs' : s = t.txt := by simpa using ho.2
      refine Zaq (fun hl => fail ?_) (fun hl => ?_)
      · unfold Zdr; rw [if_neg (by omega)]
      · have hof : Zdr s = some t := Zcc.2 ⟨ho.1, hs', by omega⟩
        apply Zhm.J5i
        rw [Zej h5n (by simp)]
        simp only [List.drop_zero, List.take_succ_cons, List.take_zero, Zaz, Zaj, Zaf, Zai, Zau]
        rw [Zbm h5z (by simp)]
        simp only [Zat]
        rw [Zej (Zcq h5z) (by simp [putRow])]
        simp only [putRow, List.take_zero, List.nil_append, List.length_cons, List.length_nil, List.cons_append, List.drop_succ_cons, List.drop_zero, List.drop_nil, List.append_nil, List.take_succ_cons, Zaz, Zaj, Zaf, Zai, Zau]
        refine ⟨⟨by simp; omega, fun j hj => by rw [Zcf (by omega)]; exact h5s.eq j hj⟩, _, by simp only [Zkp, hof]; rfl, ?_⟩
        rw [hof]
        refine Zdo.mono (S := Btw (g ++ [Zce.cells Zbl [.str s, .int .i64 0, .bool false] false]).length h3.length) (fun z hz => ⟨by have := hz.1; simp at this; omega, by have := hz.2; simp; omega⟩) (hrep.agree fun z hz => ?_)
        have h1 := hz.1; have h2 := hz.2
        simp at h1
        rw [Zcf (by omega), h5o _ h2]
  · simp only [Zax]
    refine fail ?_
    unfold Zdr
    split
    · exact Zix.2 fun t' ht' e' => hno t' [] ⟨ht', by simpa using e'⟩
    · rfl
end Go.Sim

set_option linter.unusedVariables false
namespace Go.Sim
open Go Go.RowKit

theorem c9 : pg.cellsOf Zbg = 1 := by kernel_rfl
def Ydv (k : Nat) (acc : List Nat) : List Nat := if h : k = 0 then acc else Ydv (k / 10) ((48 + k % 10) :: acc)
  termination_by k
  decreasing_by omega
def Ycg (k : Int) : List Nat := if k ≤ 0 then [109, 48] else 109 :: Ydv k.toNat []
def Zwq (k : Int) (n : Nat) : List (List Nat) := (List.range n).map fun (j : Nat) => Ycg (k + j)
@[simp] theorem Yas (k : Int) (n : Nat) : (Zwq k n).length = n := by simp [Zwq]
theorem Yca (k : Int) (n : Nat) : Zwq k (n + 1) = Zwq k n ++ [Ycg (k + n)] := by simp [Zwq, List.range_succ]

end Go.Sim

set_option linter.unusedVariables false
namespace Go.Sim
open Go Go.RowKit

end Go.Sim

set_option linter.unusedVariables false
set_option linter.unusedSimpArgs false
set_option maxRecDepth 20000
namespace Go.Sim
open Go Go.RowKit

end Go.Sim

set_option linter.unusedVariables false
set_option linter.unusedSimpArgs false
set_option maxRecDepth 20000
namespace Go.Sim
open Go Go.RowKit

end Go.Sim

set_option linter.unusedVariables false
namespace Go.Sim
open Go Go.RowKit

def prs (l : List (List Nat × List Nat)) : List Zac := l.flatMap fun p => [.str p.1, .str p.2]
@[simp] theorem Ydo : prs [] = [] := rfl
@[simp] theorem Ydd (p : List Nat × List Nat) (l : List (List Nat × List Nat)) : prs (p :: l) = .str p.1 :: .str p.2 :: prs l := rfl
@[simp] theorem Ybw (a b : List (List Nat × List Nat)) : prs (a ++ b) = prs a ++ prs b := by simp [prs]
theorem Ybx (l : List (List Nat × List Nat)) : (prs l).length = l.length * 2 := by
  induction l with
  | nil => rfl
  | cons p l ih => simp [ih]; omega
def Zyk (l : List (List Nat × List Nat)) : Nat := (l.map fun p => p.1.length + p.2.length).sum
theorem Zyj {l : List (List Nat × List Nat)} {g : Nat} (h : g < l.length) : Zyk (l.take (g + 1)) = Zyk (l.take g) + (l[g].1.length + l[g].2.length) := by
  unfold Zyk; rw [List.take_succ_eq_append_getElem h, List.map_append, List.sum_append]; simp
theorem Zpr (l : List (List Nat × List Nat)) (g : Nat) : Zyk (l.take g) ≤ Zyk l := by
  conv => rhs; rw [← List.take_append_drop g l]
  unfold Zyk; rw [List.map_append, List.sum_append]; omega
theorem Ztp {l : List (List Nat × List Nat)} {g : Nat} (h : g < l.length) : l[g].1.length + l[g].2.length ≤ Zyk l := by
  have := Zyj h; have := Zpr l (g + 1); omega
end Go.Sim

set_option linter.unusedVariables false
namespace Go.Sim
open Go Go.RowKit
def need (p : List Nat × List Nat) : List Nat := p.1 ++ [32] ++ p.2
end Go.Sim

set_option linter.unusedSimpArgs false
namespace Go.Sim

def Zbo : List Nat := [88, 89, 90, 120, 121, 122]
def Zuc (s : List Nat) : List Nat := Zbo.filter fun v => decide (v ∈ s)
theorem Zhb (c : Nat) : c ∈ Zbo ↔ Zbj c = true := by simp [Zbo, Zbj]; omega
noncomputable def Zrm (s : List Nat) : Int := match Zdr s with | some t => t.size | none => -1
theorem Zow (s : List Nat) : (s.filter fun c => !Zgd c).length + s.count 40 + s.count 41 + s.count 44 = s.length := by
  induction s with
  | nil => rfl
  | cons c s ih =>
    simp only [List.count_cons, List.length_cons, List.filter_cons]
    by_cases h1 : c = 40
    · subst h1; rw [show Zgd 40 = true from rfl]; simp; omega
    · by_cases h2 : c = 41
      · subst h2; rw [show Zgd 41 = true from rfl]; simp; omega
      · by_cases h3 : c = 44
        · subst h3; rw [show Zgd 44 = true from rfl]; simp; omega
        · have : Zgd c = false := by simp [Zgd, h1, h2, h3]
          rw [this]; simp [h1, h2, h3]; omega
theorem Zsn {t : Ty} (h : t.ok = true) : (t.size : Int) = (t.txt.length : Int) - (t.txt.count 40 : Nat) - (t.txt.count 41 : Nat) - (t.txt.count 44 : Nat) := by
  have h1 := Zow t.txt
  rw [Ty.txt_filter h, Ty.letters_len] at h1
  omega
theorem Zkk {s : List Nat} {t : Ty} (h : Zdr s = some t) : Zrm s = t.size := by unfold Zrm; rw [h]
theorem Zuu {s : List Nat} (h : Zdr s = none) : Zrm s = -1 := by unfold Zrm; rw [h]
theorem Zqg {s : List Nat} (h : Zkp s = true) : ∃ t, Zdr s = some t := Option.isSome_iff_exists.1 h
theorem Zvu {s : List Nat} (h : Zkp s = false) : Zdr s = none := by
  cases ho : Zdr s with
  | none => rfl
  | some t => simp [Zkp, ho] at h
theorem Zrs {s : List Nat} {t : Ty} (h : Zdr s = some t) : Zkp s = true := by simp [Zkp, h]
end Go.Sim

set_option linter.unusedSimpArgs false
namespace Go.Sim

abbrev Nd := List Nat × List Nat
abbrev Ins := Nd × List Nd
structure Wd where
  cs : List Nd
  is : List Ins

def Zkz (s : List Nat) : Bool := match s with | [c] => Zbj c | _ => false
theorem Zns {f : Nat → Bool} {g : Nat} (h : (List.range g).all f = true) (k : f g = true) : (List.range (g + 1)).all f = true := by
  rw [List.range_succ, List.all_append, h]; simp [k]
theorem Zor {f : Nat → Bool} {g n : Nat} (h : g < n) (k : f g = false) : (List.range n).all f = false := by
  rw [List.all_eq_false]; exact ⟨g, List.mem_range.2 h, by simp [k]⟩
theorem Zly {α : Type} {l : List α} {g : Nat} {d : α} (h : g < l.length) : l.getD g d = l[g] := by simp [List.getD, h]
end Go.Sim

set_option linter.unusedVariables false
set_option linter.unusedSimpArgs false
set_option maxRecDepth 20000
namespace Go.Sim
open Go Go.RowKit

def Zee {α : Type} (ty : TypeId) (enc : α → List Zac) (b : Nat) (h : Zaa) (a : Pt) (n : Nat) (l : List α) : Prop := l.length = n ∧ (n = 0 ∨ ∃ i, a = some (i, 0) ∧ b ≤ i ∧ h[i]? = some (.cells ty (Zdk enc l) false))
theorem Zee.row {α : Type} {ty : TypeId} {enc : α → List Zac} {w b : Nat} {h : Zaa} {a : Pt} {n : Nat} {l : List α} (hw : ∀ x, (enc x).length = w) (f : Zee ty enc b h a n l) : Row h.length h a (n * w) (Zdk enc l) := by
  obtain ⟨hl, h0 | ⟨i, ha, hb, hi⟩⟩ := f
  · subst h0
    have : l = [] := List.eq_nil_of_length_eq_zero hl
    subst this; simp; exact Row.nil
  · rw [ha]; exact (Vec.mk1 (n := 0) (c := 0) hi).row (by rw [Zaw hw, hl])
theorem Zee.same {α : Type} {ty : TypeId} {enc : α → List Zac} {b : Nat} {h h' : Zaa} {a : Pt} {n : Nat} {l : List α} (f : Zee ty enc b h a n l) (s : Zbk h.length h h') : Zee ty enc b h' a n l :=
  ⟨f.1, f.2.imp id fun ⟨i, ha, hb, hi⟩ => ⟨i, ha, hb, by rw [s.eq i (Own.lt hi)]; exact hi⟩⟩
end Go.Sim

set_option linter.unusedVariables false
set_option linter.unusedSimpArgs false
set_option maxRecDepth 20000
namespace Go.Sim
open Go Go.RowKit

def Zyo (a : Pt) (n : Nat) (h h' : Zaa) : Prop := h.length ≤ h'.length ∧ ∀ j, j < h.length → (∀ i, a = some (i, 0) → n ≠ 0 → j ≠ i) → h'[j]? = h[j]?
theorem Zyo.refl (a : Pt) (n : Nat) (h : Zaa) : Zyo a n h h := ⟨Nat.le_refl _, fun _ _ _ => rfl⟩
theorem Zyo.same {a : Pt} {n : Nat} {h h1 h2 : Zaa} (o : Zyo a n h h1) (s : Zbk h1.length h1 h2) : Zyo a n h h2 := ⟨Nat.le_trans o.1 s.le, fun j hj hn => by rw [s.eq j (by have := o.1; omega)]; exact o.2 j hj hn⟩
theorem Zyo.set {n i : Nat} {h h1 : Zaa} {x : Zce} (o : Zyo (some (i, 0)) n h h1) (hn : n ≠ 0) : Zyo (some (i, 0)) n h (h1.set i x) := ⟨by simp; exact o.1, fun j hj hne => by rw [Zcf (fun e => hne i rfl hn e.symm)]; exact o.2 j hj hne⟩
theorem Row.only {b : Nat} {h h' : Zaa} {a a' : Pt} {n m : Nat} {cs : List Zac} (r : Row b h a m cs) (o : Zyo a' n h h') (hb : ∀ i, a' = some (i, 0) → n ≠ 0 → b ≤ i) : Row b h' a m cs := by
  obtain ⟨hl, r⟩ := r
  refine ⟨hl, r.imp id ?_⟩
  rintro ⟨i, o', t, all, ro, ha, hi, hg, x⟩
  exact ⟨i, o', t, all, ro, ha, hi, by rw [o.2 i (Own.lt hg) fun j hj hn => by have := hb j hj hn; omega]; exact hg, x⟩
theorem Zee.only {α : Type} {ty : TypeId} {enc : α → List Zac} {b : Nat} {h h' : Zaa} {a a' : Pt} {n m : Nat} {l : List α} (f : Zee ty enc b h a n l) (o : Zyo a' m h h') (hb : ∀ i, a' = some (i, 0) → m ≠ 0 → ∀ j, a = some (j, 0) → j ≠ i) : Zee ty enc b h' a n l :=
  ⟨f.1, f.2.imp id fun ⟨i, ha, hbi, hi⟩ => ⟨i, ha, hbi, by rw [o.2 i (Own.lt hi) fun j hj hn => hb j hj hn i ha]; exact hi⟩⟩
end Go.Sim

set_option linter.unusedVariables false
set_option linter.unusedSimpArgs false
set_option maxRecDepth 20000
namespace Go.Sim
open Go Go.RowKit

structure EI where
  c : List Nat
  t : List Nat
  a : Pt
  n : Nat
  cp : Nat
  e : Bool
  deriving Inhabited
def eN (x : EI) : List Zac := [.str x.c, .str x.t, .slice x.a x.n x.cp x.e]
def Yby (h : Zaa) (x : EI) (i : Ins) : Prop := x.c = i.1.1 ∧ x.t = i.1.2 ∧ Row h.length h x.a (x.n * 2) (Zdk eP i.2)
def Yae (h : Zaa) (xs : List EI) (is : List Ins) : Prop := xs.length = is.length ∧ ∀ (k : Nat) (x : EI) (i : Ins), xs[k]? = some x → is[k]? = some i → Yby h x i
structure Yck (h : Zaa) (a0 : Pt) (n0 c0 : Nat) (a1 : Pt) (n1 c1 : Nat) (w : Wd) : Prop where
  cls : Row h.length h a0 (n0 * 2) (Zdk eP w.cs)
  ins : ∃ xs, Row h.length h a1 (n1 * 3) (Zdk eN xs) ∧ Yae h xs w.is
  le0 : n0 ≤ c0
  le1 : n1 ≤ c1
theorem Row.same' {h h' : Zaa} {a : Pt} {n : Nat} {cs : List Zac} (r : Row h.length h a n cs) (s : Zbk h.length h h') : Row h'.length h' a n cs := (r.same s).mono s.le
theorem Yby.same {h h' : Zaa} {x : EI} {i : Ins} (r : Yby h x i) (s : Zbk h.length h h') : Yby h' x i := ⟨r.1, r.2.1, r.2.2.same' s⟩
theorem Yae.same {h h' : Zaa} {xs : List EI} {is : List Ins} (r : Yae h xs is) (s : Zbk h.length h h') : Yae h' xs is := ⟨r.1, fun k x i hx hi => (r.2 k x i hx hi).same s⟩
theorem Yck.same {h h' : Zaa} {a0 a1 : Pt} {n0 c0 n1 c1 : Nat} {w : Wd} (r : Yck h a0 n0 c0 a1 n1 c1 w) (s : Zbk h.length h h') : Yck h' a0 n0 c0 a1 n1 c1 w :=
  ⟨r.cls.same' s, r.ins.imp fun xs ⟨r1, r2⟩ => ⟨r1.same' s, r2.same s⟩, r.le0, r.le1⟩
theorem Yby.len {h : Zaa} {x : EI} {i : Ins} (r : Yby h x i) : i.2.length = x.n := by have := r.2.2.1; rw [Zaw Zgg] at this; omega
theorem Yck.len0 {h : Zaa} {a0 a1 : Pt} {n0 c0 n1 c1 : Nat} {w : Wd} (r : Yck h a0 n0 c0 a1 n1 c1 w) : w.cs.length = n0 := by have := r.cls.1; rw [Zaw Zgg] at this; omega
theorem Row.pr {b : Nat} {h : Zaa} {a : Pt} {n : Nat} {l : List Nd} (r : Row b h a (n * 2) (Zdk eP l)) {k : Nat} (hk : k < n) :
    ∃ i o, ∃ hk' : k < l.length, a = some (i, o) ∧ i < b ∧ Zdd h (.ptr (some (i, o + k * 2))) 2 = some [.str l[k].1, .str l[k].2] ∧ Zak h (.ptr (some (i, o + k * 2))) = some (.str l[k].1) ∧ Zak h (.ptr (some (i, o + k * 2 + 1))) = some (.str l[k].2) := by
  have hl : l.length = n := by have := r.1; rw [Zaw Zgg] at this; omega
  obtain ⟨i, o, hk', ha, hi, hr, hc⟩ := Row.el Zgg r hl hk (by omega)
  exact ⟨i, o, hk', ha, hi, hr, by simpa [eP] using hc 0 (by omega), by simpa [eP] using hc 1 (by omega)⟩

def Mid (lo hi : Nat) (h h' : Zaa) : Prop := h.length ≤ h'.length ∧ ∀ j, j < h.length → (j < lo ∨ hi ≤ j) → h'[j]? = h[j]?
theorem Mid.refl (lo hi : Nat) (h : Zaa) : Mid lo hi h h := ⟨Nat.le_refl _, fun _ _ _ => rfl⟩
theorem Mid.trans {lo hi : Nat} {h h1 h2 : Zaa} (a : Mid lo hi h h1) (b : Mid lo hi h1 h2) : Mid lo hi h h2 := ⟨Nat.le_trans a.1 b.1, fun j hj hn => by rw [b.2 j (by have := a.1; omega) hn]; exact a.2 j hj hn⟩
theorem Mid.of_same {lo hi : Nat} {h h' : Zaa} (s : Zbk h.length h h') : Mid lo hi h h' := ⟨s.le, fun j hj _ => s.eq j hj⟩
theorem Mid.same {lo hi : Nat} {h h1 h2 : Zaa} (a : Mid lo hi h h1) (s : Zbk h1.length h1 h2) : Mid lo hi h h2 := a.trans (Mid.of_same s)
theorem Mid.set {lo hi i : Nat} {h h1 : Zaa} {x : Zce} (o : Mid lo hi h h1) (h0 : lo ≤ i) (h2 : i < hi) : Mid lo hi h (h1.set i x) := ⟨by simp; exact o.1, fun j hj hne => by rw [Zcf (by omega)]; exact o.2 j hj hne⟩
theorem Zee.in {α : Type} {ty : TypeId} {enc : α → List Zac} {b : Nat} {h : Zaa} {a : Pt} {n : Nat} {l : List α} (f : Zee ty enc b h a n l) : ∀ i, a = some (i, 0) → n ≠ 0 → b ≤ i ∧ i < h.length := by
  intro i hi hn
  rcases f.2 with h0 | ⟨j, ha, hb, hj⟩
  · exact absurd h0 hn
  · rw [hi] at ha; cases ha; exact ⟨hb, Own.lt hj⟩
structure Zwa (b : Nat) (h : Zaa) (a0 : Pt) (n0 : Nat) (a1 : Pt) (n1 : Nat) (xs : List EI) (w : Wd) : Prop where
  cls : Zee Zqk eP b h a0 n0 w.cs
  ins : Zee Znb eN b h a1 n1 xs
  len : xs.length = w.is.length
  need : ∀ (k : Nat) (x : EI) (i : Ins), xs[k]? = some x → w.is[k]? = some i → x.c = i.1.1 ∧ x.t = i.1.2 ∧ Zee Zru eP b h x.a x.n i.2
  sep : ∀ (j k : Nat) (x y : EI), j ≠ k → xs[j]? = some x → xs[k]? = some y → x.n ≠ 0 → y.n ≠ 0 → x.a ≠ y.a
  nn : ∀ x ∈ xs, x.a ≠ none
theorem Zwa.same {b : Nat} {h h' : Zaa} {a0 a1 : Pt} {n0 n1 : Nat} {xs : List EI} {w : Wd} (f : Zwa b h a0 n0 a1 n1 xs w) (s : Zbk h.length h h') : Zwa b h' a0 n0 a1 n1 xs w :=
  ⟨f.cls.same s, f.ins.same s, f.len, fun k x i hx hi => ⟨(f.need k x i hx hi).1, (f.need k x i hx hi).2.1, (f.need k x i hx hi).2.2.same s⟩, f.sep, f.nn⟩
end Go.Sim

set_option linter.unusedVariables false
set_option linter.unusedSimpArgs false
set_option maxRecDepth 20000
namespace Go.Sim
open Go Go.RowKit

def one (c : Nat) : List Nat := [c]
theorem Zmn : pg.underlying Zkn = some (.slice Zbg) := by kernel_rfl
theorem Zpn : pg.cellsOf Zbg = 1 := by kernel_rfl
theorem Zqa : pg.okElem Zbg = true := by kernel_rfl
theorem Zqn : pg.bytesOf Zbg ≤ 127 := Nat.le_of_ble_eq_true (by kernel_rfl)
theorem Ybj (s : List Nat) (h : Zaa) : Zae pg Zjk [.str s] h fun v h' => Zbk h.length h h' ∧ ∃ a n c e, v = .slice a n c e ∧ Row h'.length h' a n (strs ((Zuc s).map one)) := by
  apply Zel.call
  simp only [Zbf]
  have hlist : (h ++ [Zce.cells Zbg [] false] ++ [Zce.cells Zbg [.str [88], .str [89], .str [90], .str [120], .str [121], .str [122]] false])[h.length + 1]? = some (.cells Zbg [.str [88], .str [89], .str [90], .str [120], .str [121], .str [122]] false) := by simp
  have hlen : List.length (h ++ [Zce.cells Zbg [] false]) = h.length + 1 := by simp
  rw [hlen]
  refine Zel.L3ind _ _ _ _ _ _ _ (J := fun (g : Nat) a3 n3 c3 e3 x9 h' => x9 = (g : Int) ∧ g ≤ 6 ∧ Zbk h.length h h' ∧ h'[h.length + 1]? = some (.cells Zbg [.str [88], .str [89], .str [90], .str [120], .str [121], .str [122]] false) ∧ n3 = (((Zbo.take g).filter fun v => decide (v ∈ s)).map one).length ∧ Vec Zbg h' a3 n3 c3 (strs (((Zbo.take g).filter fun v => decide (v ∈ s)).map one)) ∧ ∀ i, a3 = some (i, 0) → h.length ≤ i ∧ i ≠ h.length + 1) (fun g => 6 - g) ?_ 0 _ _ _ _ _ _
    ⟨rfl, by omega, (Zbk.app (Nat.le_refl _) _).trans (Zbk.app (by simp) _), hlist, by simp, Vec.mk1 (by simp), fun i hi => by cases hi; omega⟩
  rintro g a3 n3 c3 e3 x9 h' ⟨rfl, hg, hS, hl, rfl, hv, ha⟩ R hR
  unfold Zel.L3t
  refine Zaq (fun hlt => ?_) (fun hge => ?_)
  · have hlt' : g < 6 := by omega
    have hc : ∃ c, Zbo[g]? = some c ∧ Zak h' (.ptr (some (h.length + 1, 0 + (g : Int).toNat * 1))) = some (.str [c]) := by
      rw [Zap hl, Int.toNat_natCast]
      match g, hlt' with
      | 0, _ | 1, _ | 2, _ | 3, _ | 4, _ | 5, _ => exact ⟨_, rfl, rfl⟩
    obtain ⟨c, hc1, hc2⟩ := hc
    simp only [Zan, hc2, Zam]
    refine ⟨by omega, Zip.mono ?_⟩
    rintro v h2 ⟨rfl, rfl⟩
    simp only [Zal]
    have htk : Zbo.take (g + 1) = Zbo.take g ++ [c] := by
      rw [List.take_succ, hc1]; rfl
    have hbd : (((Zbo.take g).filter fun v => decide (v ∈ s)).map one).length ≤ 6 := by
      rw [List.length_map]
      exact Nat.le_trans (List.length_filter_le _ _) (by simp; omega)
    refine Zaq (fun hin => ?_) (fun hout => ?_)
    · simp only [Zbf]
      refine hv.push Zmn Zpn Zqa Zqn (by simp) rfl (by omega) (fun h4 hl4 hi4 hk4 => ?_)
      simp only [Zai]
      apply Zel.J7i
      rw [Zch (by omega)]
      have hle := hS.le
      refine hR (g + 1) _ _ _ _ _ _ (by omega) ⟨rfl, by omega, ⟨by omega, fun j hj => ?_⟩, ?_, ?_, Vec.mk1 ?_, fun i hi => by cases hi; have := Own.lt hl; omega⟩
      · rw [hk4 j (by omega) fun i hi => by have := (ha i hi).1; omega]; exact hS.eq j hj
      · rw [hk4 _ (Own.lt hl) fun i hi => (ha i hi).2.symm]; exact hl
      · rw [htk, List.filter_append]; simp [hin]
      · rw [hi4, htk, List.filter_append]; simp [hin, strs, one]
    · apply Zel.J7i
      rw [Zch (by omega)]
      have hf : (Zbo.take (g + 1)).filter (fun v => decide (v ∈ s)) = (Zbo.take g).filter fun v => decide (v ∈ s) := by rw [htk, List.filter_append]; simp [hout]
      refine hR (g + 1) _ _ _ _ _ _ (by omega) ⟨rfl, by omega, hS, hl, by rw [hf], by rw [hf]; exact hv, ha⟩
  · have : g = 6 := by omega
    subst this
    apply Zel.A3x0i
    refine ⟨hS, _, _, _, _, rfl, hv.row (by simp)⟩
theorem Zql (l : List Nat) : ([] : List Nat).intercalate (l.map one) = l := by
  induction l with
  | nil => rfl
  | cons a l ih =>
    cases l with
    | nil => rfl
    | cons b l => simp only [List.map_cons, List.intercalate, List.intersperse_cons_cons, List.flatten_cons] at ih ⊢; rw [ih]; rfl
theorem Zww (s : List Nat) (h : Zaa) : Zae pg Zhl [.str s] h fun v h' => v = .str (if Zkp s = true then Zuc s else []) ∧ Zbk h.length h h' := by
  apply Zki.call
  refine (Zgr s h).mono ?_
  rintro v h1 ⟨rfl, s1⟩
  simp only [Zal]
  refine Zeq (fun hb => ?_) (fun hb => ?_)
  · simp [hb]; exact s1
  · refine (Ybj s h1).mono ?_
    rintro v h2 ⟨s2, a, n, c, e, rfl, hr⟩
    simp only [Zai]
    have hl : (Zuc s).length ≤ 6 := List.length_filter_le _ _
    have hn : n = (Zuc s).length := by have := hr.1; simpa using this.symm
    refine (Ztn hr (by omega) (by rw [Zql]; omega)).mono ?_
    rintro v h3 ⟨rfl, rfl⟩
    simp only [Zam]
    refine ⟨?_, s1.trans (s2.mono s1.le)⟩
    rw [Zql, if_pos hb]
theorem Zqo (s : List Nat) (h : Zaa) : Zae pg Zft [.str s] h fun v h' => v = .int .i64 (Zrm s) ∧ Zbk h.length h h' := by
  apply Zjt.call
  refine (Zgr s h).mono ?_
  rintro v h1 ⟨rfl, s1⟩
  simp only [Zal]
  refine Zeq (fun hb => ?_) (fun hb => ?_)
  · rw [Zuu (Zvu hb)]; exact ⟨rfl, s1⟩
  · obtain ⟨t, ht⟩ := Zqg hb
    obtain ⟨h1', rfl, hl⟩ := Zcc.1 ht
    refine Zmu.mono ?_
    rintro v h2 ⟨rfl, rfl⟩
    simp only [Zaf]
    refine Zmu.mono ?_
    rintro v h2 ⟨rfl, rfl⟩
    simp only [Zaf]
    refine Zmu.mono ?_
    rintro v h2 ⟨rfl, rfl⟩
    simp only [Zaf]
    have c1 := List.count_le_length (a := 40) (l := t.txt)
    have c2 := List.count_le_length (a := 41) (l := t.txt)
    have c3 := List.count_le_length (a := 44) (l := t.txt)
    rw [Zkk ht, Zsn h1', IntWalk.i64_in (((t.txt.length : Nat) : Int) - ((t.txt.count 40 : Nat) : Int)) (by omega), IntWalk.i64_in (((t.txt.length : Nat) : Int) - ((t.txt.count 40 : Nat) : Int) - ((t.txt.count 41 : Nat) : Int)) (by omega), IntWalk.i64_in _ (by omega)]
    exact ⟨rfl, s1⟩
end Go.Sim

set_option linter.unusedVariables false
set_option linter.unusedSimpArgs false
set_option maxRecDepth 20000
namespace Go.Sim
open Go Go.RowKit

theorem Zkq {h : Zaa} {t : TypeId} {cs : List Zac} {o : Nat} : Zak (h ++ [.cells t cs false]) (.ptr (some (h.length, o))) = cs[o]? := Zap (t := t) (cs := cs) (ro := false) (by simp)
theorem Zxf {h : Zaa} {t : TypeId} {cs : List Zac} {n : Nat} (hn : cs.length = n) : Zdd (h ++ [.cells t cs false]) (.ptr (some (h.length, 0))) n = some cs := by
  rw [Zej (show (h ++ [Zce.cells t cs false])[h.length]? = some (.cells t cs false) by simp) (by omega)]; simp [← hn]
theorem Zbd {h : Zaa} {x : Zce} : Zbk h.length h (h ++ [x]) := Zbk.app (Nat.le_refl _) _
theorem Zum {h : Zaa} {t : TypeId} {cs vs : List Zac} (hl : cs.length = vs.length) : Zbi (h ++ [.cells t cs false]) (.ptr (some (h.length, 0))) vs = some (h ++ [.cells t vs false]) := by
  rw [Zbm (show (h ++ [Zce.cells t cs false])[h.length]? = some (.cells t cs false) by simp) (by omega)]
  simp [putRow, hl]
theorem Zhy {h : Zaa} {t : TypeId} {x y a b : Zac} : Zbi (h ++ [.cells t [x, y] false]) (.ptr (some (h.length, 0))) [a, b] = some (h ++ [.cells t [a, b] false]) := Zum rfl
theorem Row.sl {b : Nat} {h : Zaa} {a : Pt} {n k : Nat} {l : List Nd} (r : Row b h a (n * 2) (Zdk eP l)) (hk : k ≤ n) (hl : l.length = n) : Row b h a (k * 2) (Zdk eP (l.take k)) := by
  obtain ⟨h1, h2⟩ := r
  have e : (Zdk eP (l.take k)).length = k * 2 := by rw [Zaw Zgg, List.length_take, Nat.min_eq_left (by omega)]
  refine ⟨e, ?_⟩
  rcases h2 with h0 | ⟨i, o, t, all, ro, ha, hb, hi, hle, hcs⟩
  · exact .inl (by omega)
  · refine .inr ⟨i, o, t, all, ro, ha, hb, hi, by omega, ?_⟩
    rw [← Zrg Zgg, hcs, List.take_take, Nat.min_eq_left (by omega)]
end Go.Sim

set_option linter.unusedVariables false
set_option linter.unusedSimpArgs false
set_option maxRecDepth 20000
namespace Go.Sim
open Go Go.RowKit
end Go.Sim

set_option linter.unusedVariables false
set_option linter.unusedSimpArgs false
set_option maxRecDepth 20000
namespace Go.Sim
open Go Go.RowKit

theorem Ybf (c : Nat) : decide (c ∈ [120, 121, 122, 88, 89, 90]) = Zbj c := by rw [Bool.eq_iff_iff]; simp [Zbj, or_assoc]
theorem Zsr {h : Zaa} (s : List Nat) : Zae pg Zgp [.str s] h fun v h' => v = .bool (Zkz s) ∧ h' = h := by
  apply Zlj.call
  match s with
  | [] => exact Zcl (fun h1 => by simp at h1) (fun h1 => ⟨rfl, rfl⟩)
  | [c] =>
    refine Zcl (fun h1 => ?_) (fun h1 => by simp at h1)
    refine Zip.mono ?_
    rintro v h' ⟨rfl, rfl⟩
    simp only [Zal]
    exact ⟨by rw [Ybf]; rfl, by trivial⟩
  | c :: d :: r => exact Zcl (fun h1 => by simp at h1; omega) (fun h1 => ⟨rfl, rfl⟩)
end Go.Sim

set_option linter.unusedVariables false
set_option linter.unusedSimpArgs false
set_option maxRecDepth 20000
namespace Go.Sim
open Go Go.RowKit

end Go.Sim

set_option linter.unusedVariables false
set_option linter.unusedSimpArgs false
set_option maxRecDepth 20000
namespace Go.Sim
open Go Go.RowKit

structure WB (w : Wd) : Prop where
  lc : w.cs.length ≤ 1048576
  li : w.is.length ≤ 1048576
  cs : ∀ p ∈ w.cs, p.1.length ≤ 1048576 ∧ p.2.length ≤ 1048576 ∧ ∀ b ∈ p.1, b < 256
  is : ∀ i ∈ w.is, i.1.1.length ≤ 1048576 ∧ i.1.2.length ≤ 1048576 ∧ i.2.length ≤ 1048576 ∧ ∀ p ∈ i.2, p.1.length ≤ 1048576 ∧ p.2.length ≤ 1048576
theorem Zbk.get {b : Nat} {h h' : Zaa} {j : Nat} {x : Zce} (s : Zbk b h h') (hj : h[j]? = some x) (hb : j < b) : h'[j]? = some x := by rw [s.eq j hb]; exact hj
theorem Zbk.cat {h h1 h2 : Zaa} (a : Zbk h.length h h1) (b : Zbk h1.length h1 h2) : Zbk h.length h h2 := a.trans (b.mono a.le)

theorem Zzt {h : Zaa} {t : TypeId} {x y : Zac} : Zdd (h ++ [.cells t [x, y] false]) (.ptr (some (h.length, 0))) 2 = some [x, y] := Zxf rfl
end Go.Sim

set_option linter.unusedVariables false
set_option linter.unusedSimpArgs false
set_option maxRecDepth 20000
namespace Go.Sim
open Go Go.RowKit

end Go.Sim

set_option linter.unusedVariables false
set_option linter.unusedSimpArgs false
set_option maxRecDepth 20000
namespace Go.Sim
open Go Go.RowKit
end Go.Sim

set_option linter.unusedVariables false
set_option linter.unusedSimpArgs false
set_option maxRecDepth 20000
namespace Go.Sim
open Go Go.RowKit

def isz (i : Ins) : Nat := i.1.1.length + i.1.2.length + (i.2.length + Zyk i.2)
def Zzu (l : List Ins) : Nat := (l.map isz).sum
def wsz (w : Wd) : Nat := w.cs.length + Zyk w.cs + (w.is.length + Zzu w.is)
theorem Zvt {l : List Ins} {g : Nat} (h : g < l.length) : Zzu (l.take (g + 1)) = Zzu (l.take g) + isz l[g] := by
  unfold Zzu; rw [List.take_succ_eq_append_getElem h, List.map_append, List.sum_append]; simp
theorem Zph (l : List Ins) (g : Nat) : Zzu (l.take g) ≤ Zzu l := by
  conv => rhs; rw [← List.take_append_drop g l]
  unfold Zzu; rw [List.map_append, List.sum_append]; omega
theorem Zzc {l : List Ins} {g : Nat} (h : g < l.length) : isz l[g] ≤ Zzu l := by
  have := Zvt h; have := Zph l (g + 1); omega
def Zzr (n : Nat) : Prop := n ≤ 9223372036854775807
structure Ydy (w : Wd) : Prop where
  lc : Zzr w.cs.length
  li : Zzr w.is.length
  cs : ∀ p ∈ w.cs, Zzr p.1.length ∧ Zzr p.2.length ∧ ∀ b ∈ p.1, b < 256
  is : ∀ i ∈ w.is, Zzr i.1.1.length ∧ Zzr i.1.2.length ∧ Zzr i.2.length ∧ ∀ p ∈ i.2, Zzr p.1.length ∧ Zzr p.2.length
theorem WB.of {w : Wd} (b : Ydy w) (h : wsz w ≤ 1048576) : WB w := by
  have h1 : ∀ p ∈ w.cs, p.1.length + p.2.length ≤ Zyk w.cs := fun p hp => by
    obtain ⟨k, hk, rfl⟩ := List.mem_iff_getElem.1 hp; exact Ztp hk
  have h2 : ∀ i ∈ w.is, isz i ≤ Zzu w.is := fun p hp => by
    obtain ⟨k, hk, rfl⟩ := List.mem_iff_getElem.1 hp; exact Zzc hk
  unfold wsz at h
  refine ⟨by omega, by omega, fun p hp => ⟨by have := h1 p hp; omega, by have := h1 p hp; omega, (b.cs p hp).2.2⟩, fun i hi => ?_⟩
  have := h2 i hi
  unfold isz at this
  refine ⟨by omega, by omega, by omega, fun p hp => ?_⟩
  have h3 : p.1.length + p.2.length ≤ Zyk i.2 := by obtain ⟨k, hk, rfl⟩ := List.mem_iff_getElem.1 hp; exact Ztp hk
  omega
theorem Zee.keep {α : Type} {ty : TypeId} {enc : α → List Zac} {b b' : Nat} {h h' : Zaa} {a : Pt} {n : Nat} {l : List α} (f : Zee ty enc b h a n l) (hb : b' ≤ b) (hk : ∀ i, b ≤ i → i < h.length → h'[i]? = h[i]?) : Zee ty enc b' h' a n l :=
  ⟨f.1, f.2.imp id fun ⟨i, ha, hbi, hi⟩ => ⟨i, ha, by omega, by rw [hk i hbi (Own.lt hi)]; exact hi⟩⟩
end Go.Sim

set_option linter.unusedVariables false
set_option linter.unusedSimpArgs false
set_option maxRecDepth 20000
namespace Go.Sim
open Go Go.RowKit

theorem Zop {h : Zaa} {i : Nat} {t : TypeId} {x y : Zac} {ro : Bool} (hi : h[i]? = some (.cells t [x, y] ro)) : Zdd h (.ptr (some (i, 0))) 2 = some [x, y] := by
  rw [Zej hi (by simp)]; rfl
end Go.Sim

set_option linter.unusedVariables false
set_option linter.unusedSimpArgs false
set_option maxRecDepth 20000
namespace Go.Sim
open Go Go.RowKit

theorem Ty.size_ps (t : Ty) : t.size = 1 + (t.ps.map Ty.size).sum := by cases t <;> simp [Ty.size, Ty.ps] <;> omega
theorem Zdo.same {S : Nat → Prop} {h h' : Zaa} (s : Zbk h.length h h') : ∀ {t : Ty} {v : List Zac}, Zdo S h t v → Zdo S h' t v
  | .k d, _, h => h
  | .u d x, _, ⟨j, c, e, r, hv, sj, hj, hr⟩ => ⟨j, c, e, r, hv, sj, s.get hj (Own.lt hj), hr.same s⟩
  | .w d x y, _, ⟨j, c, e, r, r', hv, sj, hj, hr, hr'⟩ => ⟨j, c, e, r, r', hv, sj, s.get hj (Own.lt hj), hr.same s, hr'.same s⟩
end Go.Sim
