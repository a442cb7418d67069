/- A part of the proof of a statement of this seat: see the text that holds the theorem. No condition. -/
import Derived.Test.YtlljbdepamknoaaGreatPTC6
import Derived.Test.YtlljbdepamknoaaGreatCTy
import Derived.Test.YtlljbdepamknoaaGreatNm
import Derived.Test.YtlljbdepamknoaaGreatSimX
import Derived.Test.YtlljbdepamknoaaGreatPTCSup
set_option linter.unusedVariables false
set_option linter.unusedSimpArgs false
set_option linter.all false
set_option linter.unusedVariables false
set_option linter.unusedSimpArgs false
set_option maxRecDepth 20000
namespace Go.Sim
open Go Go.RowKit

theorem Ylo {s : List Nat} {c g : Nat} (h : s[g]? = some c) (hn : c ∉ s.take g) : Zqv s c = g := by
  induction s generalizing g with
  | nil => simp at h
  | cons b s ih =>
    cases g with
    | zero => simp at h; subst h; simp [Zqv]
    | succ g =>
      simp at h hn
      have := ih h hn.2
      have hb : ¬ b = c := fun e => hn.1 e.symm
      simp only [Zqv, beq_iff_eq, hb, if_false, this]
      rw [if_neg (by omega)]; omega
theorem Ztv {s : List Nat} {c : Nat} (hn : c ∉ s) : Zqv s c = -1 := by
  have := (Yjr s c).2 hn; have := Yhx s c; omega
theorem Zpv {s : List Nat} {g : Nat} (h : g < s.length) : s.getD g 0 = s[g] := by simp [List.getD, h]
theorem Zwk {h : Zaa} (s : List Nat) (c : Nat) (hs : s.length ≤ 9223372036854775807) : Zad pg Zfu [.str s, .int .u8 (c : Int)] h fun v h' => v = .int .i64 (Zqv s c) ∧ h' = h := by
  apply Zhf.call
  refine Zhf.L2ind _ _ _ (J := fun (g : Nat) x5 h' => x5 = (g : Int) ∧ h' = h ∧ g ≤ s.length ∧ c ∉ s.take g) (fun g => s.length - g) ?_ 0 _ _ ⟨rfl, rfl, by omega, by simp⟩
  rintro g x5 h' ⟨rfl, rfl, hg, hn⟩ R hR
  unfold Zhf.L2t
  refine Zap (fun hlt => ?_) (fun hge => ?_)
  · have hlt' : g < s.length := by omega
    refine ⟨⟨by omega, by omega⟩, ?_⟩
    rw [Int.toNat_natCast, Zpv hlt']
    refine Zfe (fun he => ?_) (fun he => ?_)
    · exact ⟨by rw [Ylo (g := g) (by rw [List.getElem?_eq_getElem hlt', Int.ofNat.inj he]) hn], rfl⟩
    · rw [IntWalk.i64_in _ (by omega)]
      refine hR (g + 1) _ _ (by omega) ⟨by omega, rfl, by omega, ?_⟩
      rw [List.take_succ_eq_append_getElem hlt']
      simp only [List.mem_append, List.mem_singleton, not_or]
      exact ⟨hn, fun e => he (by rw [e])⟩
  · have : g = s.length := by omega
    subst this
    rw [List.take_length] at hn
    apply Zhf.A2x0i
    rw [Ztv hn]; exact ⟨rfl, rfl⟩
theorem Ynf (c : Nat) : (if Zqv [105, 98, 117, 108, 109, 112, 120, 121, 122, 88, 89, 90] c < 0 then (-1 : Int) else if Zqv [105, 98, 117, 108, 109, 112, 120, 121, 122, 88, 89, 90] c = 3 then 1 else if Zqv [105, 98, 117, 108, 109, 112, 120, 121, 122, 88, 89, 90] c = 4 then 1 else if Zqv [105, 98, 117, 108, 109, 112, 120, 121, 122, 88, 89, 90] c = 5 then 2 else 0) = arN c := by
  by_cases h : c ∈ [105, 98, 117, 108, 109, 112, 120, 121, 122, 88, 89, 90]
  · simp at h
    rcases h with rfl | rfl | rfl | rfl | rfl | rfl | rfl | rfl | rfl | rfl | rfl | rfl <;> rfl
  · rw [Ztv h]
    simp at h
    simp [arN, Zlo, Zcv, h]
theorem Yle (c : Nat) : decide (Zqv [105, 98, 117, 108, 109, 112, 120, 121, 122, 88, 89, 90] c ≥ 6) = Zcv c := by
  by_cases h : c ∈ [105, 98, 117, 108, 109, 112, 120, 121, 122, 88, 89, 90]
  · simp at h
    rcases h with rfl | rfl | rfl | rfl | rfl | rfl | rfl | rfl | rfl | rfl | rfl | rfl <;> rfl
  · rw [Ztv h]
    simp at h
    simp [Zcv, h]
theorem Ydg {h : Zaa} (c : Nat) : Zad pg Zjj [.int .u8 (c : Int)] h fun v h' => v = .int .i64 (arN c) ∧ h' = h := by
  apply Zli.call
  refine (Zwk _ c (by simp)).mono ?_
  rintro v h1 ⟨rfl, rfl⟩
  simp only [Zao]
  rw [← Ynf c]
  generalize Zqv [105, 98, 117, 108, 109, 112, 120, 121, 122, 88, 89, 90] c = k
  refine Zap (fun hk => ?_) (fun hk => ?_)
  · rw [if_pos hk]; exact ⟨rfl, by trivial⟩
  · rw [if_neg hk]
    refine Zfe (fun h3 => ?_) (fun h3 => ?_)
    · rw [if_pos h3]; exact ⟨rfl, by trivial⟩
    · rw [if_neg h3]
      refine Zfe (fun h4 => ?_) (fun h4 => ?_)
      · rw [if_pos h4]; exact ⟨rfl, by trivial⟩
      · rw [if_neg h4]
        refine Zfe (fun h5 => ?_) (fun h5 => ?_)
        · rw [if_pos h5]; exact ⟨rfl, by trivial⟩
        · rw [if_neg h5]; apply Zli.J8i; exact ⟨rfl, by trivial⟩

def rdr (s : List Nat) (k : Nat) (b : Bool) : Zcj := .cells Zcw [.str s, .int .i64 (k : Int), .bool b] false
theorem Zqn {s : List Nat} {k : Nat} (h : k < s.length) : s.drop k = s[k] :: s.drop (k + 1) := List.drop_eq_getElem_cons h
theorem Yak {h : Zaa} {i : Nat} {s : List Nat} {k : Nat} {b : Bool} (hi : h[i]? = some (rdr s k b)) (hk : k ≤ s.length) (hs : s.length ≤ 9223372036854775807) : Zad pg Zef [.ptr (some (i, 0))] h fun v h' =>
    (∃ c : Nat, s.drop k = c :: s.drop (k + 1) ∧ k < s.length ∧ v = .int .u8 (c : Int) ∧ h' = h.set i (rdr s (k + 1) b)) ∨ (s.drop k = [] ∧ v = .int .u8 0 ∧ h' = h.set i (rdr s k true)) := by
  unfold rdr at hi
  apply Zkc.call
  simp only [Zax, Zak hi, Nat.zero_add, List.getElem?_cons_zero, List.getElem?_cons_succ, Zao, Zag]
  refine ⟨by trivial, Zap (fun hge => ?_) (fun hl => ?_)⟩
  · rw [Zbq hi (by simp)]
    exact .inr ⟨List.drop_eq_nil_of_le (by omega), by trivial, rfl⟩
  · have hl' : k < s.length := by omega
    rw [Zbq hi (by simp)]
    simp only [Zav, Zak (Zcp hi)]
    rw [IntWalk.i64_in _ (by omega)]
    simp only [putRow, List.take_succ_cons, List.take_zero, List.length_cons, List.length_nil, List.cons_append, List.nil_append, List.drop_succ_cons, List.drop_zero, List.getElem?_cons_zero, List.getElem?_cons_succ, Zao, Zag]
    rw [IntWalk.i64_in _ (by omega)]
    refine ⟨by trivial, ⟨by omega, by omega⟩, .inl ⟨s[k], Zqn hl', hl', ?_, ?_⟩⟩
    · have : ((k : Int) + 1 - 1).toNat = k := by omega
      rw [this, Zpv hl']
    · simp [rdr]
def Zgq (S : Nat → Prop) (h : Zaa) : Ty → List Zan → Prop
  | .k d, v => ∃ a c e, v = [.int .u8 (d : Int), .slice a 0 c e]
  | .u d x, v => ∃ j c e r, v = [.int .u8 (d : Int), .slice (some (j, 0)) 1 c e] ∧ S j ∧ h[j]? = some (.cells Zac r false) ∧ Zgq S h x r
  | .w d x y, v => ∃ j c e r r', v = [.int .u8 (d : Int), .slice (some (j, 0)) 2 c e] ∧ S j ∧ h[j]? = some (.cells Zac (r ++ r') false) ∧ Zgq S h x r ∧ Zgq S h y r'
theorem Zgq.mono {S S' : Nat → Prop} {h : Zaa} (hs : ∀ i, S i → S' i) : ∀ {t : Ty} {v : List Zan}, Zgq S h t v → Zgq S' h t v
  | .k d, _, h => h
  | .u d x, _, ⟨j, c, e, r, hv, sj, hj, hr⟩ => ⟨j, c, e, r, hv, hs _ sj, hj, hr.mono hs⟩
  | .w d x y, _, ⟨j, c, e, r, r', hv, sj, hj, hr, hr'⟩ => ⟨j, c, e, r, r', hv, hs _ sj, hj, hr.mono hs, hr'.mono hs⟩
theorem Zgq.agree {S : Nat → Prop} {h h' : Zaa} (hh : ∀ i, S i → h'[i]? = h[i]?) : ∀ {t : Ty} {v : List Zan}, Zgq S h t v → Zgq S h' t v
  | .k d, _, h => h
  | .u d x, _, ⟨j, c, e, r, hv, sj, hj, hr⟩ => ⟨j, c, e, r, hv, sj, by rw [hh j sj]; exact hj, hr.agree hh⟩
  | .w d x y, _, ⟨j, c, e, r, r', hv, sj, hj, hr, hr'⟩ => ⟨j, c, e, r, r', hv, sj, by rw [hh j sj]; exact hj, hr.agree hh, hr'.agree hh⟩
theorem Zgq.shape {S : Nat → Prop} {h : Zaa} {t : Ty} {v : List Zan} (r : Zgq S h t v) : ∃ a c e, v = [.int .u8 (t.hd : Int), .slice a t.ps.length c e] := by
  cases t with
  | k d => exact r
  | u d x => obtain ⟨j, c, e, r, hv, _⟩ := r; exact ⟨_, c, e, hv⟩
  | w d x y => obtain ⟨j, c, e, r, r', hv, _⟩ := r; exact ⟨_, c, e, hv⟩
theorem Zgq.len {S : Nat → Prop} {h : Zaa} {t : Ty} {v : List Zan} (r : Zgq S h t v) : v.length = 2 := by obtain ⟨a, c, e, rfl⟩ := r.shape; rfl
theorem Zgq.leaf {S : Nat → Prop} {h : Zaa} {t : Ty} {v : List Zan} (r : Zgq S h t v) : v.all Zan.leaf = true := by obtain ⟨a, c, e, rfl⟩ := r.shape; rfl
theorem Zgq.parts {S : Nat → Prop} {h : Zaa} {t : Ty} {v : List Zan} (r : Zgq S h t v) : ∃ a c e, ∃ vs : List (List Zan), v = [.int .u8 (t.hd : Int), .slice a t.ps.length c e] ∧ Row h.length h a (t.ps.length * 2) vs.flatten ∧
    (∀ j o, t.ps.length ≠ 0 → a = some (j, o) → S j) ∧ vs.length = t.ps.length ∧ ∀ (k : Nat) (w : List Zan) (x : Ty), vs[k]? = some w → t.ps[k]? = some x → Zgq S h x w := by
  cases t with
  | k d => obtain ⟨a, c, e, rfl⟩ := r; exact ⟨a, c, e, [], rfl, Row.nil, fun _ _ h => absurd rfl h, rfl, by simp⟩
  | u d x =>
    obtain ⟨j, c, e, r, rfl, sj, hj, hr⟩ := r
    have hl := hr.len
    refine ⟨_, c, e, [r], rfl, ⟨by simp [Ty.ps, hl], .inr ⟨j, 0, _, _, _, rfl, Own.lt hj, hj, by simp [Ty.ps, hl], by simp [Ty.ps]; rw [List.take_of_length_le (by omega)]⟩⟩, fun j' o' _ e => by cases e; exact sj, rfl, ?_⟩
    intro k w x' h1 h2
    cases k with
    | zero => simp [Ty.ps] at h1 h2; subst h1; subst h2; exact hr
    | succ k => simp at h1
  | w d x y =>
    obtain ⟨j, c, e, r, r', rfl, sj, hj, hr, hr'⟩ := r
    have hl := hr.len
    have hl' := hr'.len
    refine ⟨_, c, e, [r, r'], rfl, ⟨by simp [Ty.ps, hl, hl'], .inr ⟨j, 0, _, _, _, rfl, Own.lt hj, hj, by simp [Ty.ps, hl, hl'], by simp [Ty.ps]; rw [List.take_of_length_le (by simp; omega)]⟩⟩, fun j' o' _ e => by cases e; exact sj, rfl, ?_⟩
    intro k w x' h1 h2
    match k with
    | 0 => simp [Ty.ps] at h1 h2; subst h1; subst h2; exact hr
    | 1 => simp [Ty.ps] at h1 h2; subst h1; subst h2; exact hr'
    | k + 2 => simp at h1
theorem Zgq.make {S : Nat → Prop} {h : Zaa} {t : Ty} {j n c : Nat} {e : Bool} {vs : List (List Zan)} (hn : n = t.ps.length) (sj : S j) (hj : h[j]? = some (.cells Zac vs.flatten false)) (hl : vs.length = n)
    (hq : ∀ (k : Nat) (w : List Zan) (x : Ty), vs[k]? = some w → t.ps[k]? = some x → Zgq S h x w) : Zgq S h t [.int .u8 (t.hd : Int), .slice (some (j, 0)) n c e] := by
  subst hn
  cases t with
  | k d => exact ⟨_, c, e, rfl⟩
  | u d x =>
    match vs, hl with
    | [r], _ => exact ⟨j, c, e, r, rfl, sj, by simpa using hj, hq 0 r x rfl rfl⟩
  | w d x y =>
    match vs, hl with
    | [r, r'], _ => exact ⟨j, c, e, r, r', rfl, sj, by simpa using hj, hq 0 r x rfl rfl, hq 1 r' y rfl rfl⟩

theorem Yen : pg.underlying Zid = some (.slice Zac) := by kernel_rfl
theorem Ykc : pg.cellsOf Zac = 2 := by kernel_rfl
theorem Yir : pg.okElem Zac = true := by kernel_rfl
theorem Yjb : pg.bytesOf Zac ≤ 127 := Nat.le_of_ble_eq_true (by kernel_rfl)
theorem Yfo (vs : List (List Zan)) (r : List Zan) : (vs ++ [r]).flatten = vs.flatten ++ r := by simp
theorem Zwa {vs : List (List Zan)} (h : ∀ v ∈ vs, v.length = 2) : vs.flatten.length = vs.length * 2 := by
  induction vs with
  | nil => rfl
  | cons v vs ih => rw [List.flatten_cons, List.length_append, h v (by simp), ih fun w hw => h w (by simp [hw]), List.length_cons]; omega
theorem Yoc {c : Nat} {ps : List Ty} (hok : ∀ p ∈ ps, p.ok = true) (ha : arN c = ps.length) : ∃ t : Ty, t.ok = true ∧ t.hd = c ∧ t.ps = ps := by
  match ps, ha, hok with
  | [], h0, _ =>
    refine ⟨.k c, ?_, rfl, rfl⟩
    simp only [Ty.ok]
    cases hl : Zlo c with
    | true => rfl
    | false => unfold arN at h0; rw [hl] at h0; simp at h0; split at h0 <;> try split at h0
               all_goals omega
  | [x], h0, hok =>
    refine ⟨.u c x, ?_, rfl, rfl⟩
    simp only [Ty.ok, hok x (by simp), Bool.and_true, Bool.or_eq_true, beq_iff_eq]
    simp at h0
    unfold arN at h0; split at h0
    · omega
    · split at h0
      · rename_i h; simpa using h
      · split at h0 <;> omega
  | [x, y], h0, hok =>
    refine ⟨.w c x y, ?_, rfl, rfl⟩
    simp only [Ty.ok, hok x (by simp), hok y (by simp), Bool.and_true, beq_iff_eq]
    simp at h0
    unfold arN at h0; split at h0
    · omega
    · split at h0
      · omega
      · split at h0
        · rename_i h; simpa using h
        · omega
  | _ :: _ :: _ :: r, h0, _ =>
    simp at h0; unfold arN at h0; split at h0 <;> try split at h0
    all_goals try split at h0
    all_goals omega
theorem txt_of (t : Ty) (r : List Nat) : t.txt ++ r = t.hd :: (Zxd t.ps ++ (if t.ps = [] then r else 41 :: r)) := by
  cases t <;> simp [Ty.txt, Ty.hd, Ty.ps, Zxd]
def Zua (i : Nat) (s : List Nat) (k : Nat) (h : Zaa) (v : Zan) (h' : Zaa) : Prop :=
  Zga i h h' ∧ ∃ (d : Nat) (a : Pt) (n c : Nat) (e : Bool) (k' : Nat) (bad : Bool), v = .agg [.int .u8 (d : Int), .slice a n c e] ∧ h'[i]? = some (rdr s k' bad) ∧ k' ≤ s.length ∧
    ((bad = false ∧ ∃ t, Zgu (s.drop k) t (s.drop k') ∧ Zgq (Btw h.length h'.length) h' t [.int .u8 (d : Int), .slice a n c e]) ∨ (bad = true ∧ ∀ t r, ¬ Zgu (s.drop k) t r))

theorem Zsr {s : List Nat} {k i : Nat} {h h' : Zaa} {k1 c i2 i3 n cp : Nat} {bad e : Bool} {a : Pt} {x y : Zan} (hil : i < h.length) (hK : Zga i h h') (hgi : h'[i]? = some (rdr s k1 bad)) (hk1 : k1 ≤ s.length)
    (hi2 : h'[i2]? = some (.cells Zac [x, y] false)) (hl2 : h.length ≤ i2) (hne : i2 ≠ i3) (hi3 : h'[i3]? = some (.cells Zac [.int .u8 (c : Int), .slice a n cp e] false))
    (hfin : (bad = false ∧ ∃ t, Zgu (s.drop k) t (s.drop k1) ∧ Zgq (fun x => Btw h.length h'.length x ∧ x ≠ i2) h' t [.int .u8 (c : Int), .slice a n cp e]) ∨ (bad = true ∧ ∀ t r, ¬ Zgu (s.drop k) t r)) :
    Zbf.J12 (Zua i s k h) i3 0 i2 0 h' := by
  apply Zbf.J12i
  rw [Zdt hi3 (by simp)]
  simp only [List.drop_zero, List.take_succ_cons, List.take_zero, Zau, Zaf, Zao, Zah, Zaq]
  rw [Zbq hi2 (by simp)]
  simp only [Zav]
  rw [Zdt (Zcp hi2) (by simp [putRow])]
  simp only [putRow, List.take_zero, List.nil_append, List.length_cons, List.length_nil, List.cons_append, List.drop_succ_cons, List.drop_zero, List.drop_nil, List.append_nil, List.take_succ_cons, Zau, Zaf, Zao, Zah, Zaq]
  refine ⟨hK.trans' ?_, c, a, n, cp, e, k1, bad, rfl, by rw [Zbt (by omega)]; exact hgi, hk1, ?_⟩
  · exact fun j hj => Zbt (by omega)
  · rcases hfin with ⟨hb, t, ho, hr⟩ | hb
    · refine .inl ⟨hb, t, ho, ?_⟩
      refine Zgq.mono (S := fun x => Btw h.length h'.length x ∧ x ≠ i2) (fun z hz => by simpa using hz.1) (hr.agree fun z hz => Zbt (fun e => hz.2 e.symm))
    · exact .inr hb
theorem Ylc {s : List Nat} (hs : s.length ≤ 9223372036854775807) {k i : Nat} {h : Zaa} (hil : i < h.length)
    (ih : ∀ k', k < k' → k' ≤ s.length → ∀ (h : Zaa), h[i]? = some (rdr s k' false) → Zad pg Zdr [.ptr (some (i, 0))] h (Zua i s k' h))
    {g : Zaa} {c k1 i2 i3 j0 : Nat} {bad : Bool} (hK : Zga i h g) (hgi : g[i]? = some (rdr s k1 bad)) (hk1 : k1 ≤ s.length) (hl2 : h.length ≤ i2) (hl3 : h.length ≤ i3) (hlj : h.length ≤ j0)
    (hne : i2 ≠ i3) (hne2 : i2 ≠ j0) (hne3 : i3 ≠ j0) (hi2 : g[i2]? = some (.cells Zac [.int .u8 0, .slice none 0 0 true] false)) (hi3 : g[i3]? = some (.cells Zac [.int .u8 (c : Int), .slice (some (j0, 0)) 0 0 true] false))
    (hj0 : g[j0]? = some (.cells Zac [] false))
    (hcase : (bad = false ∧ k < k1 ∧ s.drop k = c :: s.drop k1 ∧ 0 ≤ arN c) ∨ (bad = true ∧ ∀ t r, ¬ Zgu (s.drop k) t r)) :
    Zbf.J4 (Zua i s k h) (some (i, 0)) i2 0 i3 0 (arN c) g := by
  apply Zbf.J4i
  have hm2 : arN c ≤ 2 := by unfold arN; split <;> try split
                             all_goals try split
                             all_goals omega
  have hi2l := Own.lt hi2
  have hi3l := Own.lt hi3
  refine Zbf.L5ind _ _ _ _ _ _ _ (J := fun (q : Nat) x5 h' => x5 = (q : Int) ∧ ∃ (bad : Bool) (k1 n cp : Nat) (e : Bool) (j : Nat), Zga i h h' ∧ h'[i]? = some (rdr s k1 bad) ∧ k1 ≤ s.length ∧
      h'[i2]? = some (.cells Zac [.int .u8 0, .slice none 0 0 true] false) ∧ h'[i3]? = some (.cells Zac [.int .u8 (c : Int), .slice (some (j, 0)) n cp e] false) ∧ h.length ≤ j ∧ i2 ≠ j ∧ i3 ≠ j ∧ i2 < h'.length ∧ i3 < h'.length ∧
      ((bad = true ∧ ∀ t r, ¬ Zgu (s.drop k) t r) ∨ (bad = false ∧ k < k1 ∧ n = q ∧ (q : Int) ≤ arN c ∧ ∃ (ps : List Ty) (vs : List (List Zan)), ps.length = q ∧ vs.length = q ∧ (∀ p ∈ ps, p.ok = true) ∧ s.drop k = c :: (Zxd ps ++ s.drop k1) ∧
        h'[j]? = some (.cells Zac vs.flatten false) ∧ (∀ v ∈ vs, v.length = 2) ∧ ∀ (kk : Nat) (v : List Zan) (x : Ty), vs[kk]? = some v → ps[kk]? = some x → ∃ lo hi, h.length ≤ lo ∧ i2 < lo ∧ i3 < lo ∧ hi ≤ h'.length ∧ ¬ Btw lo hi j ∧ Zgq (Btw lo hi) h' x v)))
    (fun q => (arN c).toNat - q) ?_ 0 _ _ ⟨rfl, bad, k1, 0, 0, true, j0, hK, hgi, hk1, hi2, hi3, hlj, hne2, hne3, hi2l, hi3l, ?_⟩
  · rintro q x5 h' ⟨rfl, bad, k1, n, cp, e, j, hK, hgi, hk1, hi2, hi3, hlj, hn2, hn3, hl2', hl3', hst⟩ R hR
    have over : ¬ (bad = false ∧ (q : Int) < arN c) → Zbf.A5x0 (Zua i s k h) (arN c) (some (i, 0)) i3 0 i2 0 h' := by
      intro hgo
      · skip
        apply Zbf.A5x0i
        rcases hst with ⟨hb, hno⟩ | ⟨hb, hkk, rfl, hq, ps, vs, hps, hvs, hok, hdr, hj, hv2, hrep⟩
        · subst hb
          have hend := Zsr hil hK hgi hk1 hi2 hl2 hne hi3 (.inr ⟨rfl, hno⟩)
          refine Zap (fun _ => ?_) (fun _ => hend)
          unfold rdr at hgi
          simp only [Zax, Zak hgi, Nat.zero_add, List.getElem?_cons_zero, List.getElem?_cons_succ, Zai, Bool.not_true, Zay]
          exact hend
        · subst hb
          have hqa : (n : Int) = arN c := by have : ¬ (n : Int) < arN c := fun hlt => hgo ⟨rfl, hlt⟩; omega
          obtain ⟨t, htok, hthd, htps⟩ := Yoc (c := c) hok (by omega)
          have hrT : Zgq (fun x => Btw h.length h'.length x ∧ x ≠ i2) h' t [.int .u8 (c : Int), .slice (some (j, 0)) n cp e] := by
            rw [← hthd]
            refine Zgq.make (vs := vs) (by rw [htps]; exact hps.symm) ⟨⟨hlj, Own.lt hj⟩, fun e => hn2 e.symm⟩ hj hvs fun kk v x hv hx => ?_
            rw [htps] at hx
            obtain ⟨lo, hi, h1, h2, h3, h4, h5, h6⟩ := hrep kk v x hv hx
            exact h6.mono fun z hz => ⟨⟨by have := hz.1; omega, by have := hz.2; omega⟩, by have := hz.1; omega⟩
          have hno : (∀ r, s.drop k1 ≠ (if t.ps = [] then r else 41 :: r)) → ∀ t' r, ¬ Zgu (s.drop k) t' r := by
            intro hx t' r ho
            rw [hdr] at ho
            have h1 := Ty.ok_ar ho.1
            have hhd : t'.hd = c := by
              obtain ⟨r', hr⟩ := t'.txt_cons
              have := ho.2; rw [hr] at this; simp at this; exact this.1.symm
            rw [hhd] at h1
            have := ho.step hok (by omega)
            have h3 := this.2.2.2 (by omega)
            have hemp : t'.ps = [] ↔ t.ps = [] := by
              rw [← List.length_eq_zero_iff, ← List.length_eq_zero_iff, htps]; omega
            simp only [hemp] at h3
            exact hx _ h3
          have hyes : ∀ r, s.drop k1 = (if t.ps = [] then r else 41 :: r) → Zgu (s.drop k) t r := by
            intro r hr
            refine ⟨htok, ?_⟩
            rw [txt_of, hthd, hdr, hr, htps]
          refine Zap (fun hpos => ?_) (fun hz => ?_)
          · have hne0 : t.ps ≠ [] := by rw [htps]; intro e0; rw [e0] at hps; simp at hps; omega
            simp only [if_neg hne0] at hno hyes
            have hgi' := hgi
            unfold rdr at hgi'
            simp only [Zax, Zak hgi', Nat.zero_add, List.getElem?_cons_zero, List.getElem?_cons_succ, Zai, Bool.not_false, Zbj]
            refine (Yak hgi hk1 hs).mono ?_
            have hK2 : ∀ b' k2, Zga i h (h'.set i (rdr s k2 b')) := fun b' k2 => hK.trans (Zga.set _ _ _)
            have hin2 : i ≠ i2 := by omega
            have hin3 : i ≠ i3 := by omega
            have badEnd : ∀ k2, k2 ≤ s.length → (∀ r, s.drop k1 ≠ 41 :: r) → Zbf.J12 (Zua i s k h) i3 0 i2 0 (h'.set i (rdr s k2 true)) := fun k2 hk2 hx =>
              Zsr hil (hK2 _ _) (Zcp hgi) hk2 (by rw [Zbt hin2]; exact hi2) hl2 hne (by rw [Zbt hin3]; exact hi3) (.inr ⟨rfl, hno hx⟩)
            rintro v h2 (⟨d, hd, hlt, rfl, rfl⟩ | ⟨hnil, rfl, rfl⟩)
            · simp only [Zao]
              have hg2 : (h'.set i (rdr s (k1 + 1) false))[i]? = some (.cells Zcw [.str s, .int .i64 ((k1 + 1 : Nat) : Int), .bool false] false) := Zcp hgi
              refine Zer (fun hne41 => ?_) (fun he41 => ?_)
              · try simp only [Zax]
                rw [Zbq hg2 (by simp)]
                simp only [Zav]
                have := badEnd (k1 + 1) (by omega) (fun r hr => by rw [hd] at hr; simp at hr; omega)
                simpa [rdr, putRow, List.set_set] using this
              · have hd41 : d = 41 := by omega
                try simp only [Zax]
                rw [Zak hg2]
                simp only [Nat.zero_add, List.getElem?_cons_zero, List.getElem?_cons_succ, Zai]
                rw [Zbq hg2 (by simp)]
                simp only [Zav]
                have := Zsr (bad := false) (k1 := k1 + 1) hil (hK2 false (k1 + 1)) (Zcp hgi) (by omega) (by rw [Zbt hin2]; exact hi2) hl2 hne (by rw [Zbt hin3]; exact hi3)
                  (.inl ⟨rfl, t, hyes _ (by rw [hd, hd41]), Zgq.mono (fun z hz => by simpa using hz) (hrT.agree fun z hz => Zbt (by have := hz.1.1; omega))⟩)
                simpa [rdr, putRow, List.set_set] using this
            · simp only [Zao]
              have hg2 : (h'.set i (rdr s k1 true))[i]? = some (.cells Zcw [.str s, .int .i64 (k1 : Int), .bool true] false) := Zcp hgi
              simp only [show ((0 : Int) == 41) = false from rfl, Bool.not_false, Zbj, Zax]
              rw [Zbq hg2 (by simp)]
              simp only [Zav]
              have := badEnd k1 hk1 (fun r hr => by rw [hnil] at hr; cases hr)
              simpa [rdr, putRow, List.set_set] using this
          · have he0 : t.ps = [] := by rw [htps]; exact List.eq_nil_of_length_eq_zero (by omega)
            refine Zsr hil hK hgi hk1 hi2 hl2 hne hi3 (.inl ⟨rfl, t, hyes _ (by rw [if_pos he0]), hrT⟩)
    unfold Zbf.L5t
    have hgi' := hgi
    unfold rdr at hgi'
    refine Zap (fun hlt => ?_) (fun hge => over fun hx => hge hx.2)
    simp only [Zax, Zak hgi', Nat.zero_add, List.getElem?_cons_zero, List.getElem?_cons_succ, Zai]
    refine Zbv (fun hb => ?_) (fun hb => over fun hx => by rw [hb] at hx; cases hx.1)
    subst hb
    rcases hst with ⟨hb, _⟩ | ⟨_, hkk, rfl, hq, ps, vs, hps, hvs, hok, hdr, hj, hv2, hrep⟩
    · cases hb
    have hin2 : i ≠ i2 := by omega
    have hin3 : i ≠ i3 := by omega
    have hn2' : n < 2 := by omega
    have hstep : ∀ t r, Zgu (s.drop k) t r → ∃ p s', s.drop k1 = Zny n :: s' ∧ ∃ r', Zgu s' p r' := by
      intro t r ho
      rw [hdr] at ho
      have h1 := Ty.ok_ar ho.1
      have hhd : t.hd = c := by
        obtain ⟨r', hr⟩ := t.txt_cons
        have := ho.2; rw [hr] at this; simp at this; exact this.1.symm
      rw [hhd] at h1
      have := ho.step hok (by omega)
      rw [← hps]
      exact this.2.2.1 (by omega)
    apply Zbf.J7i
    refine ⟨⟨by omega, by simp; omega⟩, ?_⟩
    have hmk : ([40, 44] : List Nat).getD ((n : Int).toNat) 0 = Zny n := by
      rw [Int.toNat_natCast]
      rcases n with _ | _ | n
      · rfl
      · rfl
      · omega
    rw [hmk]
    refine (Yak hgi hk1 hs).mono ?_
    have badGo : ∀ k2, k2 ≤ s.length → (∀ t r, ¬ Zgu (s.drop k) t r) → Zbf.J8 (Zua i s k h) R (some (i, 0)) i3 0 (n : Int) (arN c) i2 0 (h'.set i (rdr s k2 true)) := by
      intro k2 hk2 hno
      apply Zbf.J8i
      have hg := Zcp (x := rdr s k2 true) hgi
      have hg' : (h'.set i (rdr s k2 true))[i]? = some (.cells Zcw [.str s, .int .i64 (k2 : Int), .bool true] false) := hg
      simp only [Zax]
      rw [Zak hg']
      simp only [Nat.zero_add, List.getElem?_cons_zero, List.getElem?_cons_succ, Zai, Bool.not_true, Zay]
      apply Zbf.J6i
      rw [IntWalk.i64_in _ (by omega)]
      refine hR (n + 1) _ _ (by omega) ⟨by omega, true, k2, n, cp, e, j, hK.trans (Zga.set _ _ _), hg, hk2, by rw [Zbt hin2]; exact hi2, by rw [Zbt hin3]; exact hi3, hlj, hn2, hn3, by simp; omega, by simp; omega, .inl ⟨rfl, hno⟩⟩
    rintro v h2 (⟨d, hd, hlt1, rfl, rfl⟩ | ⟨hnil, rfl, rfl⟩)
    · simp only [Zao]
      have hg3 := Zcp (x := rdr s (k1 + 1) false) hgi
      have hg2 : (h'.set i (rdr s (k1 + 1) false))[i]? = some (.cells Zcw [.str s, .int .i64 ((k1 + 1 : Nat) : Int), .bool false] false) := hg3
      refine Zer (fun hne1 => ?_) (fun he1 => ?_)
      · simp only [Zax]
        rw [Zbq hg2 (by simp)]
        simp only [Zav]
        have := badGo (k1 + 1) (by omega) (fun t r ho => by
          obtain ⟨p, s', hx, _⟩ := hstep t r ho
          rw [hd] at hx; simp at hx; omega)
        simpa [rdr, putRow, List.set_set] using this
      · have hdm : d = Zny n := by omega
        simp only [Zax]
        rw [Zak hg2]
        simp only [Nat.zero_add, List.getElem?_cons_zero, List.getElem?_cons_succ, Zai]
        rw [Zbq hg2 (by simp)]
        simp only [Zav]
        have hsame : (h'.set i (rdr s (k1 + 1) false)).set i (Zcj.cells Zcw (putRow [Zan.str s, Zan.int .i64 ((k1 + 1 : Nat) : Int), Zan.bool false] 2 [Zan.bool false]) false) = h'.set i (rdr s (k1 + 1) false) := by
          simp [rdr, putRow, List.set_set]
        rw [hsame]
        apply Zbf.J8i
        simp only [Zax]
        rw [Zak hg2]
        simp only [Nat.zero_add, List.getElem?_cons_zero, List.getElem?_cons_succ, Zai, Bool.not_false, Zbj]
        have hi3a : (h'.set i (rdr s (k1 + 1) false))[i3]? = some (.cells Zac [.int .u8 (c : Int), .slice (some (j, 0)) n cp e] false) := by rw [Zbt hin3]; exact hi3
        rw [Zak hi3a]
        simp only [List.getElem?_cons_zero, List.getElem?_cons_succ, Zah]
        refine (ih (k1 + 1) (by omega) (by omega) _ hg3).mono ?_
        rintro v h3 ⟨hK3, d3, a3, n3, c3, e3, k3, bad3, rfl, hg4, hk3, hres⟩

        have hl3 := hK3.le
        simp only [List.length_set] at hl3
        have hold3 : ∀ z, z < h'.length → z ≠ i → h3[z]? = h'[z]? := fun z hz hzi => by rw [hK3.eq z (by simpa using hz) hzi, Zbt (by omega)]
        have hi33 : h3[i3]? = some (.cells Zac [.int .u8 (c : Int), .slice (some (j, 0)) n cp e] false) := by rw [hold3 _ hl3' (by omega)]; exact hi3
        have hj3 : h3[j]? = some (.cells Zac vs.flatten false) := by rw [hold3 _ (Own.lt hj) (by omega)]; exact hj
        simp only [Zde, Zaf, Zao, Zah, Zaq]
        refine ⟨by rw [Zak hi33]; rfl, ?_⟩
        simp only [Zaz]
        refine ⟨by rw [Zak (Zko hi33), Zak hi33], ?_⟩
        refine (Vec.mk1 hj3).pushN Yen Ykc Yir Yjb (by rw [Zwa hv2, hvs]) rfl (by omega) (by simp [Zan.leaf]) (by omega) (fun h4 hl4 hi4 hk4 => ?_)
        simp only [Zah]
        have hold4 : ∀ z, z < h3.length → z ≠ j → h4[z]? = h3[z]? := fun z hz hzj => hk4 z hz fun w hw => by cases hw; exact hzj
        have hi34 : h4[i3]? = some (.cells Zac [.int .u8 (c : Int), .slice (some (j, 0)) n cp e] false) := by rw [hold4 _ (by omega) hn3]; exact hi33
        rw [Zbq hi34 (by simp)]
        simp only [Zav]
        apply Zbf.J6i
        rw [IntWalk.i64_in _ (by omega)]
        have hiL : i < h'.length := Own.lt hgi
        have hold5 : ∀ (x : Zcj) z, z ≠ i3 → z ≠ j → z < h3.length → (h4.set i3 x)[z]? = h3[z]? := fun x z h1 h2 h3 => by rw [Zbt (by omega), hold4 _ h3 h2]
        refine hR (n + 1) _ _ (by omega) ⟨by omega, bad3, k3, n + 1, n + 1, false, h3.length + 1, ?_, ?_, hk3, ?_, ?_, by omega, by omega, by omega, by simp; omega, by simp; omega, ?_⟩
        · refine ⟨by simp; have := hK.le; omega, fun z hz hzi => ?_⟩
          have := hK.le
          rw [hold5 _ _ (by omega) (by omega) (by omega), hold3 _ (by omega) hzi]; exact hK.eq z hz hzi
        · rw [hold5 _ _ hin3 (by omega) (by omega)]; exact hg4
        · rw [hold5 _ _ hne hn2 (by omega), hold3 _ hl2' (by omega)]; exact hi2
        · rw [Zcp hi34]; simp [putRow]
        · rcases hres with ⟨hb3, t, ho, hr⟩ | ⟨hb3, hno⟩
          · refine .inr ⟨hb3, ?_, rfl, by omega, ps ++ [t], vs ++ [[.int .u8 (d3 : Int), .slice a3 n3 c3 e3]], by simp [hps], by simp [hvs], ?_, ?_, ?_, ?_, ?_⟩
            · have := ho.2
              have hl := congrArg List.length this
              simp at hl; have := t.txt_pos; omega
            · intro p hp
              rcases List.mem_append.1 hp with hp | hp
              · exact hok p hp
              · simp at hp; subst hp; exact ho.1
            · rw [hdr, hd, hdm, ho.2]
              match ps, hps, hn2' with
              | [], hps, _ => subst hps; simp [Zxd, Zny]
              | [x], hps, _ => subst hps; simp [Zxd, Zny]
              | x :: y :: l, hps, _ => simp at hps; omega
            · rw [Zbt (by omega), hi4, Yfo]
            · intro v hv
              rcases List.mem_append.1 hv with hv | hv
              · exact hv2 v hv
              · simp at hv; subst hv; rfl
            · intro kk v x hv hx
              by_cases hkn : kk < n
              · rw [List.getElem?_append_left (by omega)] at hv hx
                obtain ⟨lo, hi, h1, h2, h2', h3', h4', h5⟩ := hrep kk v x hv hx
                refine ⟨lo, hi, h1, h2, h2', by simp; omega, fun hb => by have := hb.2; omega, h5.agree fun z hz => ?_⟩
                have := hz.1; have := hz.2
                rw [hold5 _ _ (by omega) (fun e => h4' (e ▸ hz)) (by omega), hold3 _ (by omega) (by omega)]
              · have hk' : kk = n := by
                  have := (List.getElem?_eq_some_iff.1 hv).1; simp at this; omega
                subst hk'
                rw [List.getElem?_append_right (by omega)] at hv hx
                simp [hps, hvs] at hv hx
                subst hv; subst hx
                refine ⟨h'.length, h3.length, by have := hK.le; omega, by omega, by omega, by simp; omega, fun hb => by have := hb.2; omega, ?_⟩
                have hr' : Zgq (Btw h'.length h3.length) h3 t [.int .u8 (d3 : Int), .slice a3 n3 c3 e3] := by simpa using hr
                refine hr'.agree fun z hz => ?_
                have := hz.1; have := hz.2; have := Own.lt hj
                rw [hold5 _ _ (by omega) (by omega) (by omega)]
          · refine .inl ⟨hb3, fun t r ho => ?_⟩
            obtain ⟨p, s', hx, r', ho'⟩ := hstep t r ho
            rw [hd] at hx; simp at hx
            rw [← hx.2] at ho'
            exact hno _ _ ho'
    · simp only [Zao]
      have hg2 : (h'.set i (rdr s k1 true))[i]? = some (.cells Zcw [.str s, .int .i64 (k1 : Int), .bool true] false) := Zcp hgi
      refine Zer (fun _ => ?_) (fun he1 => by exfalso; unfold Zny at he1; split at he1 <;> omega)
      simp only [Zax]
      rw [Zbq hg2 (by simp)]
      simp only [Zav]
      have := badGo k1 hk1 (fun t r ho => by
        obtain ⟨p, s', hx, _⟩ := hstep t r ho
        rw [hnil] at hx; cases hx)
      simpa [rdr, putRow, List.set_set] using this
  · rcases hcase with ⟨hb, hkk, hdr, ha⟩ | hb
    · exact .inr ⟨hb, hkk, rfl, by simpa using ha, [], [], rfl, rfl, by simp, by simpa [Zxd] using hdr, by simpa using hj0, by simp, by simp⟩
    · exact .inl hb

theorem Ylz {s : List Nat} (hs : s.length ≤ 9223372036854775807) (i : Nat) : ∀ (N k : Nat), s.length - k ≤ N → k ≤ s.length → ∀ (h : Zaa), h[i]? = some (rdr s k false) →
    Zad pg Zdr [.ptr (some (i, 0))] h (Zua i s k h) := by
  intro N
  induction N using Nat.strongRecOn with
  | _ N ihN =>
  intro k hN hk h hi
  have hil := Own.lt hi
  have ih : ∀ k', k < k' → k' ≤ s.length → ∀ (h : Zaa), h[i]? = some (rdr s k' false) → Zad pg Zdr [.ptr (some (i, 0))] h (Zua i s k' h) :=
    fun k' h1 h2 => ihN (s.length - k') (by omega) k' (Nat.le_refl _) h2
  apply Zbf.call
  simp only [Zaz]
  refine (Yak (Zko hi) hk hs).mono ?_
  have main : ∀ (c k1 : Nat) (b1 : Bool), k1 ≤ s.length → ((b1 = false ∧ k < k1 ∧ s.drop k = c :: s.drop k1) ∨ (b1 = true ∧ arN c < 0 ∧ s.drop k = [])) → ∀ h2, h2 = (h ++ [Zcj.cells Zac [.int .u8 0, .slice none 0 0 true] false]).set i (rdr s k1 b1) →
      Zcb (Zbd (h2 ++ [Zcj.cells Zac [] false] ++ [Zcj.cells Zac [.int .u8 0, .slice none 0 0 true] false]) (.ptr (some (List.length (h2 ++ [Zcj.cells Zac [] false]), 0))) [.int .u8 (c : Int), .slice (some (List.length h2, 0)) 0 0 true]) fun h_6 => Zdd .u8 (Zae h_6 (.ptr (some (List.length (h2 ++ [Zcj.cells Zac [] false]), 0 + 0)))) fun x_7 => Zad pg Zjj [.int .u8 x_7] h_6 fun v_8 h_9 =>
        Zdd .i64 (some v_8) fun x_10 => Zbi (some (i, 0)) fun i_11 o_12 => Zbx (Zae h_9 (.ptr (some (i_11, o_12 + 2)))) fun b_13 => bcase b_13 (Zbi (some (i, 0)) fun i_14 o_15 => Zcb (Zbd h_9 (.ptr (some (i_14, o_15 + 2))) [.bool true]) fun h_16 => Zbf.J4 (Zua i s k h) (some (i, 0)) (List.length h) 0 (List.length (h2 ++ [Zcj.cells Zac [] false])) 0 x_10 h_16) (Zbi (some (i, 0)) fun i_17 o_18 => Zcb (Zbd h_9 (.ptr (some (i_17, o_18 + 2))) [.bool (decide ((x_10 : Int) < 0))]) fun h_19 => Zbf.J4 (Zua i s k h) (some (i, 0)) (List.length h) 0 (List.length (h2 ++ [Zcj.cells Zac [] false])) 0 x_10 h_19) := by
    intro c k1 b1 hk1 hc h2 hh2
    have hl2 : h2.length = h.length + 1 := by rw [hh2]; simp
    have hi2 : h2[i]? = some (rdr s k1 b1) := by rw [hh2]; exact Zcp (Zko hi)
    have hz2 : h2[h.length]? = some (.cells Zac [.int .u8 0, .slice none 0 0 true] false) := by rw [hh2, Zbt (by omega)]; simp
    have hK2 : Zga i h h2 := by rw [hh2]; exact (Zga.app i h _).trans (Zga.set _ _ _)
    generalize hg : h2 ++ [Zcj.cells Zac [] false] = g
    have hgl : g.length = h.length + 2 := by rw [← hg]; simp [hl2]
    have hgi : g[i]? = some (rdr s k1 b1) := by rw [← hg]; exact Zko hi2
    have hgz : g[h.length]? = some (.cells Zac [.int .u8 0, .slice none 0 0 true] false) := by rw [← hg]; exact Zko hz2
    have hga : g[h2.length]? = some (.cells Zac [] false) := by rw [← hg]; simp
    have hKg : Zga i h g := by rw [← hg]; exact hK2.trans (Zga.app i _ _)
    have hn : (g ++ [Zcj.cells Zac [.int .u8 0, .slice none 0 0 true] false])[g.length]? = some (Zcj.cells Zac [.int .u8 0, .slice none 0 0 true] false) := by simp
    rw [Zbq hn (by simp)]
    simp only [Zav]
    rw [Zak (Zcp hn)]
    simp only [putRow, List.take_zero, List.nil_append, List.cons_append, Nat.add_zero, List.getElem?_cons_zero, Zao]
    refine (Ydg c).mono ?_
    rintro v h9 ⟨rfl, rfl⟩
    have hold : ∀ (x : Zcj) z w, g[z]? = some w → ((g ++ [Zcj.cells Zac [.int .u8 0, .slice none 0 0 true] false]).set g.length x)[z]? = some w := fun x z w hz => by rw [Zbt (by have := Own.lt hz; omega)]; exact Zko hz
    simp only [Zao, Zax]
    have h9i := hold (Zcj.cells Zac [.int .u8 (c : Int), .slice (some (List.length h2, 0)) 0 0 true] false) i _ hgi
    have h9i' : ((g ++ [Zcj.cells Zac [.int .u8 0, .slice none 0 0 true] false]).set g.length (Zcj.cells Zac [.int .u8 (c : Int), .slice (some (List.length h2, 0)) 0 0 true] false))[i]? = some (.cells Zcw [.str s, .int .i64 (k1 : Int), .bool b1] false) := h9i
    rw [show (Zan.int IntKind.u8 (c : Int) :: Zan.slice (some (List.length h2, 0)) 0 0 true :: List.drop (0 + [Zan.int IntKind.u8 (c : Int), Zan.slice (some (List.length h2, 0)) 0 0 true].length) [Zan.int IntKind.u8 0, Zan.slice none 0 0 true]) = [.int .u8 (c : Int), .slice (some (List.length h2, 0)) 0 0 true] from rfl]
    have tail : ∀ b2, ((b2 = false ∧ k < k1 ∧ s.drop k = c :: s.drop k1 ∧ 0 ≤ arN c) ∨ (b2 = true ∧ ∀ t r, ¬ Zgu (s.drop k) t r)) → ∀ g2, g2 = (((g ++ [Zcj.cells Zac [.int .u8 0, .slice none 0 0 true] false]).set g.length (Zcj.cells Zac [.int .u8 (c : Int), .slice (some (List.length h2, 0)) 0 0 true] false)).set i (rdr s k1 b2)) →
        Zbf.J4 (Zua i s k h) (some (i, 0)) (List.length h) 0 (List.length g) 0 (arN c) g2 := by
      intro b2 hb g2 hg2
      refine Ylc hs hil ih (c := c) (k1 := k1) (bad := b2) (j0 := h2.length) ?_ ?_ hk1 (Nat.le_refl _) (by omega) (by omega) (by omega) (by omega) (by omega) ?_ ?_ ?_ hb
      · rw [hg2]; exact ((hKg.trans (Zga.app i _ _)).trans' (fun j hj => Zbt (by omega))).trans (Zga.set _ _ _)
      · rw [hg2]; exact Zcp h9i
      · rw [hg2, Zbt (by omega)]; exact hold _ _ _ hgz
      · rw [hg2, Zbt (by omega)]; exact Zcp hn
      · rw [hg2, Zbt (by omega)]; exact hold _ _ _ hga
    rw [Zak h9i']
    simp only [Nat.zero_add, List.getElem?_cons_zero, List.getElem?_cons_succ, Zai]
    rw [Zbq h9i' (by simp), Zbq h9i' (by simp)]
    simp only [Zav]
    rcases hc with ⟨rfl, h1, h2'⟩ | ⟨rfl, h1, h2'⟩
    · simp only [Zay]
      by_cases ha : arN c < 0
      · refine tail true (.inr ⟨rfl, ?_⟩) _ (by simp [rdr, putRow, ha])
        intro t r ho
        have h3 := Ty.ok_ar ho.1
        have hhd : t.hd = c := by
          obtain ⟨r', hr⟩ := t.txt_cons
          have := ho.2; rw [hr, h2'] at this; simp at this; exact this.1.symm
        rw [hhd] at h3; omega
      · exact tail false (.inl ⟨rfl, h1, h2', by omega⟩) _ (by simp [rdr, putRow, ha])
    · simp only [Zbj]
      refine tail true (.inr ⟨rfl, ?_⟩) _ (by simp [rdr, putRow])
      intro t r ho
      rw [h2'] at ho; exact Zgu.nil ho
  rintro v h2 (⟨c, hd, hlt, rfl, hh⟩ | ⟨hnil, rfl, hh⟩)
  · simp only [Zao]
    exact main c (k + 1) false (by omega) (.inl ⟨rfl, by omega, hd⟩) h2 hh
  · simp only [Zao]
    exact main 0 k true hk (.inr ⟨rfl, by decide, hnil⟩) h2 hh

theorem Znu (s : List Nat) (hs : s.length ≤ 9223372036854775807) (h : Zaa) : Zad pg Zfj [.str s] h fun v h' => Zbe h.length h h' ∧ ∃ vs : List Zan, v = .tup [.agg vs, .bool (Zls s)] ∧
    (match Zhz s with | some t => Zgq (Btw h.length h'.length) h' t vs | none => vs = [.int .u8 0, .slice none 0 0 true]) := by
  apply Zmx.call
  simp only [Zaz]
  generalize hg : h ++ [Zcj.cells Zac [.int .u8 0, .slice none 0 0 true] false] = g
  have hgl : g.length = h.length + 1 := by rw [← hg]; simp
  have hgz : g[h.length]? = some (.cells Zac [.int .u8 0, .slice none 0 0 true] false) := by rw [← hg]; simp
  have hgs : Zbe h.length h g := by rw [← hg]; exact Zbe.app (Nat.le_refl _) _
  have hr : (g ++ [Zcj.cells Zcw [.str s, .int .i64 0, .bool false] false])[g.length]? = some (rdr s 0 false) := by simp [rdr]
  refine (Ylz hs g.length _ 0 (Nat.le_refl _) (Nat.zero_le _) _ hr).mono ?_
  rintro v h3 ⟨hK, d, a, n, c, e, k', bad, rfl, hi, hk', hres⟩
  simp only [Zde, Zaf, Zao, Zah, Zaq, Zaz]
  have hl3 := hK.le
  simp at hl3
  have hz3 : h3[h.length]? = some (.cells Zac [.int .u8 0, .slice none 0 0 true] false) := by rw [hK.eq _ (by simp; omega) (by omega)]; exact Zko hgz
  have hs3 : Zbe h.length h h3 := ⟨by omega, fun j hj => by rw [hK.eq _ (by simp; omega) (by omega), Zzp (by omega)]; exact hgs.eq j hj⟩
  have hn : (h3 ++ [Zcj.cells Zac [.int .u8 0, .slice none 0 0 true] false])[h3.length]? = some (.cells Zac [.int .u8 0, .slice none 0 0 true] false) := by simp
  rw [Zbq hn (by simp)]
  simp only [Zav]
  generalize h5e : (h3 ++ [Zcj.cells Zac [.int .u8 0, .slice none 0 0 true] false]).set h3.length (.cells Zac (putRow [.int .u8 0, .slice none 0 0 true] 0 [.int .u8 (d : Int), .slice a n c e]) false) = h5
  have h5o : ∀ z, z < h3.length → h5[z]? = h3[z]? := fun z hz => by rw [← h5e, Zbt (by omega), Zzp hz]
  have h5l : h5.length = h3.length + 1 := by rw [← h5e]; simp
  have h5n : h5[h3.length]? = some (.cells Zac [.int .u8 (d : Int), .slice a n c e] false) := by rw [← h5e, Zcp hn]; simp [putRow]
  have h5i : h5[g.length]? = some (.cells Zcw [.str s, .int .i64 (k' : Int), .bool bad] false) := by rw [h5o _ (Own.lt hi)]; exact hi
  have h5z : h5[h.length]? = some (.cells Zac [.int .u8 0, .slice none 0 0 true] false) := by rw [h5o _ (Own.lt hz3)]; exact hz3
  have h5s : Zbe h.length h h5 := ⟨by omega, fun j hj => by rw [h5o _ (by omega)]; exact hs3.eq j hj⟩
  rw [Zak h5i]
  simp only [Nat.zero_add, List.getElem?_cons_zero, List.getElem?_cons_succ, Zai]
  have fail : Zhz s = none → Zcb (Zbd h5 (.ptr (some (List.length h, 0))) [.int .u8 0, .slice none 0 0 true]) fun h_17 => Zcx (Zbp h_17 (.ptr (some (List.length h, 0))) 2) fun cs_18 => Zaj cs_18 fun c_19 r_20 => Zdd .u8 (some c_19) fun x_21 => Zaj r_20 fun c_22 r_23 => xSl (some c_22) fun a_24 n_25 c_26 e_27 => Zcg r_23 (Zbe h.length h h_17 ∧ ∃ vs : List Zan, (Zan.tup [.agg [.int .u8 x_21, .slice a_24 n_25 c_26 e_27], .bool false]) = .tup [.agg vs, .bool (Zls s)] ∧
    (match Zhz s with | some t => Zgq (Btw h.length h_17.length) h_17 t vs | none => vs = [.int .u8 0, .slice none 0 0 true])) := by
    intro hno
    rw [Zbq h5z (by simp)]
    simp only [Zav]
    rw [Zdt (Zcp h5z) (by simp [putRow])]
    simp only [putRow, List.take_zero, List.nil_append, List.length_cons, List.length_nil, List.cons_append, List.drop_succ_cons, List.drop_zero, List.drop_nil, List.append_nil, List.take_succ_cons, Zau, Zaf, Zao, Zah, Zaq]
    refine ⟨⟨by simp; omega, fun j hj => by rw [Zbt (by omega)]; exact h5s.eq j hj⟩, _, by simp only [Zls, hno]; rfl, by rw [hno]⟩
  rw [List.drop_zero] at hres
  rcases hres with ⟨rfl, t, ho, hrep⟩ | ⟨rfl, hno⟩
  · simp only [Zay, Zak h5i, Nat.zero_add, List.getElem?_cons_zero, List.getElem?_cons_succ, Zao]
    refine Zer (fun hne => fail ?_) (fun he => ?_)
    · unfold Zhz
      split
      · exact Zog.2 fun t' ht' e' => by
          have := (ho.unique ⟨ht', show s = t'.txt ++ [] by simpa using e'⟩).2
          have := congrArg List.length this
          simp at this; omega
      · rfl
    · have hk : k' = s.length := by omega
      subst hk
      rw [List.drop_length] at ho
      have hs' : s = t.txt := by simpa using ho.2
      refine Zap (fun hl => fail ?_) (fun hl => ?_)
      · unfold Zhz; rw [if_neg (by omega)]
      · have hof : Zhz s = some t := Zeq.2 ⟨ho.1, hs', by omega⟩
        apply Zmx.J5i
        rw [Zdt h5n (by simp)]
        simp only [List.drop_zero, List.take_succ_cons, List.take_zero, Zau, Zaf, Zao, Zah, Zaq]
        rw [Zbq h5z (by simp)]
        simp only [Zav]
        rw [Zdt (Zcp h5z) (by simp [putRow])]
        simp only [putRow, List.take_zero, List.nil_append, List.length_cons, List.length_nil, List.cons_append, List.drop_succ_cons, List.drop_zero, List.drop_nil, List.append_nil, List.take_succ_cons, Zau, Zaf, Zao, Zah, Zaq]
        refine ⟨⟨by simp; omega, fun j hj => by rw [Zbt (by omega)]; exact h5s.eq j hj⟩, _, by simp only [Zls, hof]; rfl, ?_⟩
        rw [hof]
        refine Zgq.mono (S := Btw (g ++ [Zcj.cells Zcw [.str s, .int .i64 0, .bool false] false]).length h3.length) (fun z hz => ⟨by have := hz.1; simp at this; omega, by have := hz.2; simp; omega⟩) (hrep.agree fun z hz => ?_)
        have h1 := hz.1; have h2 := hz.2
        simp at h1
        rw [Zbt (by omega), h5o _ h2]
  · simp only [Zbj]
    refine fail ?_
    unfold Zhz
    split
    · exact Zog.2 fun t' ht' e' => hno t' [] ⟨ht', by simpa using e'⟩
    · rfl
theorem Zia (s : List Nat) (hs : s.length ≤ 9223372036854775807) (h : Zaa) : Zad pg Zeb [.str s] h fun v h' => v = .bool (Zls s) ∧ Zbe h.length h h' := by
  apply Znh.call
  refine (Znu s hs h).mono ?_
  rintro v h1 ⟨hS, vs, rfl, hm⟩
  have hvs : ∃ (d : Int) (a : Pt) (n c : Nat) (e : Bool), vs = [.int .u8 d, .slice a n c e] := by
    split at hm
    · obtain ⟨a, c, e, rfl⟩ := hm.shape; exact ⟨_, _, _, _, _, rfl⟩
    · exact ⟨_, _, _, _, _, hm⟩
  obtain ⟨d, a, n, c, e, rfl⟩ := hvs
  simp only [Zct, Zaf, Zde, Zao, Zah, Zaq, Zai, Zaz]
  have hn : (h1 ++ [Zcj.cells Zac [.int .u8 0, .slice none 0 0 true] false])[h1.length]? = some (.cells Zac [.int .u8 0, .slice none 0 0 true] false) := by simp
  rw [Zbq hn (by simp)]
  simp only [Zav]
  exact ⟨by trivial, hS.trans ((Zbe.app hS.le _).trans (Zbe.set hS.le _))⟩
end Go.Sim

set_option linter.unusedVariables false
namespace Go.Sim
open Go Go.RowKit

theorem c9 : pg.cellsOf Zcz = 1 := by kernel_rfl
theorem b9 : pg.bytesOf Zcz = 16 := by kernel_rfl

theorem Zma {k n : Nat} (h : k < n) (hn : n ≤ 4611686018427387904) : IntKind.wrap .i64 ((k : Int) + 1) = ((k + 1 : Nat) : Int) := by rw [IntWalk.i64_in _ (by omega)]; omega

def Yok (k : Nat) (acc : List Nat) : List Nat := if h : k = 0 then acc else Yok (k / 10) ((48 + k % 10) :: acc)
  termination_by k
  decreasing_by omega
def Ymn (k : Int) : List Nat := if k ≤ 0 then [109, 48] else 109 :: Yok k.toNat []
theorem Zlz {h : Zaa} {i : Nat} {x y : Zcj} (hi : h[i]? = some y) : (h.set i x)[i]? = some x := by
  have := Own.lt hi
  simp [this]
def Yfp (k : Int) (n : Nat) : List (List Nat) := (List.range n).map fun (j : Nat) => Ymn (k + j)
@[simp] theorem Ykt (k : Int) (n : Nat) : (Yfp k n).length = n := by simp [Yfp]
theorem Ymf (k : Int) (n : Nat) : Yfp k (n + 1) = Yfp k n ++ [Ymn (k + n)] := by simp [Yfp, List.range_succ]

end Go.Sim

set_option linter.unusedVariables false
namespace Go.Sim
open Go Go.RowKit

end Go.Sim

set_option linter.unusedVariables false
set_option linter.unusedSimpArgs false
set_option maxRecDepth 20000
namespace Go.Sim
open Go Go.RowKit

end Go.Sim

set_option linter.unusedVariables false
set_option linter.unusedSimpArgs false
set_option maxRecDepth 20000
namespace Go.Sim
open Go Go.RowKit

end Go.Sim

set_option linter.unusedVariables false
namespace Go.Sim
open Go Go.RowKit

theorem Zsv {h : Zaa} {c t : List Nat} {x : Int} (hc : c.length ≤ 9223372036854775807) (ht : t.length ≤ 9223372036854775807) (hx : 0 ≤ x ∧ x ≤ 1048576) :
    Zad pg Zil [.agg [.str c, .str t], .int .i64 x] h fun v h' => ∃ y, v = .int .i64 y ∧ Zbe h.length h h' ∧ (0 ≤ y → (c.length : Int) + t.length + y = x) := by
  apply Zpw.call
  simp only [Zaz]
  have s1 : Zbe h.length h (h ++ [.cells Zjg [.str c, .str t] false]) := Zbe.app (Nat.le_refl _) _
  simp [Zae]
  rw [IntWalk.i64_in _ (by omega)]
  refine Zap (fun hlt => s1) (fun hge => ?_)
  rw [IntWalk.i64_in _ (by omega)]
  exact Zap (fun hlt => s1) (fun hge => ⟨s1, by omega⟩)
theorem Zxy {h : Zaa} {c t c' t' : List Nat} :
    Zad pg Zkf [.agg [.str c, .str t], .agg [.str c', .str t']] h fun v h' => v = .bool (decide (c = c') && decide (t = t')) ∧ Zbe h.length h h' := by
  apply Zqb.call
  simp only [Zaz]
  simp [Zae]
  by_cases e1 : c = c' <;> by_cases e2 : t = t' <;> simp [e1, e2] <;> exact Zbe.app (Nat.le_refl _) _
theorem Zqc {h : Zaa} {c t : List Nat} :
    Zad pg Zgw [.agg [.str c, .str t]] h fun v h' => v = .agg [.str c, .str t] ∧ Zbe h.length h h' := by
  apply Zqd.call
  simp only [Zaz]
  simp [Zae, Zbd, Zbp, putRow, List.getElem?_append, List.getElem?_set]
  exact Zbe.app (Nat.le_refl _) _

def prs (l : List (List Nat × List Nat)) : List Zan := l.flatMap fun p => [.str p.1, .str p.2]
@[simp] theorem Yob : prs [] = [] := rfl
@[simp] theorem Yjs (p : List Nat × List Nat) (l : List (List Nat × List Nat)) : prs (p :: l) = .str p.1 :: .str p.2 :: prs l := rfl
@[simp] theorem Ymh (a b : List (List Nat × List Nat)) : prs (a ++ b) = prs a ++ prs b := by simp [prs]
theorem Zfx (l : List (List Nat × List Nat)) : (prs l).length = l.length * 2 := by
  induction l with
  | nil => rfl
  | cons p l ih => simp [ih]; omega
theorem Zwt : ∀ (l : List (List Nat × List Nat)) (k : Nat), (prs l).drop (k * 2) = prs (l.drop k)
  | l, 0 => by simp
  | [], k + 1 => by simp
  | p :: l, k + 1 => by rw [Nat.succ_mul]; simpa using Zwt l k
theorem Row.pair {b : Nat} {h : Zaa} {a : Pt} {n : Nat} {l : List (List Nat × List Nat)} (r : Row b h a (n * 2) (prs l)) {k : Nat} (hk : k < n) :
    ∃ i o, ∃ hk' : k < l.length, a = some (i, o) ∧ i < b ∧ Zbp h (.ptr (some (i, o + k * 2))) 2 = some [.str l[k].1, .str l[k].2] := by
  have hl : l.length = n := by have := r.1; rw [Zfx] at this; omega
  obtain ⟨_, r⟩ := r
  rcases r with h0 | ⟨i, o, t, all, ro, ha, hb, hi, hle, hcs⟩
  · omega
  · refine ⟨i, o, by omega, ha, hb, ?_⟩
    have hd : (all.drop (o + k * 2)).take 2 = [.str l[k].1, .str l[k].2] := by
      have h1 : ((all.drop o).take (n * 2)).drop (k * 2) = prs (l.drop k) := by rw [← hcs, Zwt]
      rw [List.drop_take, List.drop_drop] at h1
      have h2 : (all.drop (o + k * 2)).take 2 = ((all.drop (o + k * 2)).take (n * 2 - k * 2)).take 2 := by rw [List.take_take, Nat.min_eq_left (by omega)]
      rw [h2, h1, List.drop_eq_getElem_cons (by omega)]
      simp only [Yjs, List.take_succ_cons, List.take_zero]
    simp only [Zbp, hi]
    rw [if_pos (by omega), hd]

def Zzf (l : List (List Nat × List Nat)) : Nat := (l.map fun p => p.1.length + p.2.length).sum
theorem Zti {l : List (List Nat × List Nat)} {g : Nat} (h : g < l.length) : Zzf (l.take (g + 1)) = Zzf (l.take g) + (l[g].1.length + l[g].2.length) := by
  unfold Zzf; rw [List.take_succ_eq_append_getElem h, List.map_append, List.sum_append]; simp
theorem Zzn (l : List (List Nat × List Nat)) (g : Nat) : Zzf (l.take g) ≤ Zzf l := by
  conv => rhs; rw [← List.take_append_drop g l]
  unfold Zzf; rw [List.map_append, List.sum_append]; omega
theorem Ycp {l : List (List Nat × List Nat)} {g : Nat} (h : g < l.length) : l[g].1.length + l[g].2.length ≤ Zzf l := by
  have := Zti h; have := Zzn l (g + 1); omega
theorem Ydz {h : Zaa} {a : Pt} {n c : Nat} {e : Bool} {l : List (List Nat × List Nat)} (r : Row h.length h a (n * 2) (prs l)) (hs : ∀ p ∈ l, p.1.length ≤ 9223372036854775807 ∧ p.2.length ≤ 9223372036854775807) (hn : n ≤ 9223372036854775807) {left : Int} (hl : 0 ≤ left ∧ left ≤ 1048576) :
    Zad pg Zlh [.slice a n c e, .int .i64 left] h fun v h' => ∃ x, v = .int .i64 x ∧ Zbe h.length h h' ∧ (0 ≤ x → (n : Int) + Zzf l + x = left) := by
  have hll : l.length = n := by have := r.1; rw [Zfx] at this; omega
  apply Zhn.call
  rw [IntWalk.i64_in _ (by omega)]
  refine Zap (fun hlt => ?_) (fun hge => ?_)
  · exact ⟨_, rfl, Zbe.refl _ _, by omega⟩
  · refine Zhn.L5ind _ _ _ _ _ (J := fun (g : Nat) x1 x5 h' => x5 = (g : Int) ∧ Zbe h.length h h' ∧ g ≤ n ∧ 0 ≤ x1 ∧ x1 + n + Zzf (l.take g) = left) (fun g => n - g) ?_ 0 _ 0 h ⟨rfl, Zbe.refl _ _, by omega, by omega, by simp [Zzf]⟩
    rintro g x1 x5 h' ⟨rfl, hS, hg, h0, ht⟩ R hR
    unfold Zhn.L5t
    refine Zap (fun hlt => ?_) (fun hge => ?_)
    · have hlt' : g < n := by omega
      obtain ⟨i, o, hgl, rfl, hi, hc⟩ := (r.same hS).pair hlt'
      have hsl := hs _ (List.getElem_mem hgl)
      simp only [Zax, Int.toNat_natCast, hc, Zau, Zaf, Zaq, Zag]
      refine ⟨by omega, (Zsv hsl.1 hsl.2 (by omega)).mono fun v h1 ⟨y, hv, hs1, hy⟩ => ?_⟩
      subst hv
      simp only [Zao]
      have hS1 := hS.trans (hs1.mono hS.le)
      refine Zap (fun hneg => ⟨_, rfl, hS1, by omega⟩) (fun hneg => ?_)
      rw [Zma hlt' (by omega)]
      have hyy := hy (by omega)
      refine hR (g + 1) _ _ _ (by omega) ⟨rfl, hS1, by omega, by omega, ?_⟩
      rw [Zti hgl]; omega
    · have : g = n := by omega
      subst this
      rw [List.take_of_length_le (by omega)] at ht
      exact Zhn.A5x0i _ _ _ ⟨_, rfl, hS, by omega⟩
end Go.Sim

set_option linter.unusedVariables false
namespace Go.Sim
open Go Go.RowKit
theorem Ycn : ∀ (l : List (List Nat × List Nat)) (k : Nat), (prs l).take (k * 2) = prs (l.take k)
  | l, 0 => by simp
  | [], k + 1 => by simp
  | p :: l, k + 1 => by rw [Nat.succ_mul]; simpa using Ycn l k
theorem Zxm {h : Zaa} {i k : Nat} {t : TypeId} {L : List (List Nat × List Nat)} {a b : List Nat} (hi : h[i]? = some (.cells t (prs L) false)) (hk : k < L.length) :
    Zbd h (.ptr (some (i, k * 2))) [.str a, .str b] = some (h.set i (.cells t (prs (L.take k ++ [(a, b)] ++ L.drop (k + 1))) false)) := by
  have hle : k * 2 + 2 ≤ (prs L).length := by rw [Zfx]; omega
  simp only [Zbd, hi, List.length_cons, List.length_nil, Nat.zero_add, hle, if_true, putRow]
  rw [Ycn, show k * 2 + (1 + 1) = (k + 1) * 2 by omega, Zwt]
  simp
theorem Ycd (n : Nat) : reps n [.str [], .str []] = prs (List.replicate n ([], [])) := by
  unfold reps
  induction n with
  | zero => rfl
  | succ n ih => rw [List.replicate_succ, List.flatten_cons, ih, List.replicate_succ]; rfl
theorem Ydk {h : Zaa} {a0 a1 : Pt} {n0 n1 c0 c1 : Nat} {e0 e1 : Bool} {l0 l1 : List (List Nat × List Nat)} (r0 : Row h.length h a0 (n0 * 2) (prs l0)) (r1 : Row h.length h a1 (n1 * 2) (prs l1)) (hn : n0 ≤ 4611686018427387904) (heq : l0 = l1) :
    Zad pg Zll [.slice a0 n0 c0 e0, .slice a1 n1 c1 e1] h fun v h' => v = .bool true ∧ Zbe h.length h h' := by
  subst heq
  have hl0 : l0.length = n0 := by have := r0.1; rw [Zfx] at this; omega
  have hl1 : l0.length = n1 := by have := r1.1; rw [Zfx] at this; omega
  have : n1 = n0 := by omega
  subst this
  apply Zhj.call
  simp only [beq_self_eq_true, Bool.not_true, Zay]
  refine Zhj.L4ind _ _ _ _ _ _ _ _ _ (J := fun (k : Nat) x5 h' => Zbe h.length h h' ∧ x5 = (k : Int) ∧ k ≤ n1) (fun k => n1 - k) ?_ 0 0 h ⟨Zbe.refl _ _, rfl, by omega⟩
  rintro k x5 h' ⟨hs, rfl, hk⟩ R hR
  unfold Zhj.L4t
  refine Zap (fun hlt => ?_) (fun hge => Zhj.A4x0i _ _ ⟨rfl, hs⟩)
  have hlt' : k < n1 := by omega
  obtain ⟨i, o, hgl, rfl, _, hc0⟩ := (r0.same hs).pair hlt'
  obtain ⟨i', o', _, rfl, _, hc1⟩ := (r1.same hs).pair hlt'
  simp only [Zax, Int.toNat_natCast, hc0, hc1, Zau, Zaf, Zaq, Zag, true_and]
  refine ⟨⟨by omega, by omega⟩, ⟨by omega, by omega⟩, Zxy.mono fun v h1 ⟨hv, hs1⟩ => ?_⟩
  subst hv
  simp only [Zai, decide_true, Bool.and_self, Bool.not_true, Zay]
  rw [Zma hlt' (by omega)]
  exact hR (k + 1) _ _ (by omega) ⟨hs.trans (hs1.mono hs.le), rfl, by omega⟩

def need (p : List Nat × List Nat) : List Nat := p.1 ++ [32] ++ p.2
end Go.Sim

set_option linter.unusedSimpArgs false
namespace Go.Sim

def Zee : List Nat := [88, 89, 90, 120, 121, 122]
def Zpn (s : List Nat) : List Nat := Zee.filter fun v => decide (v ∈ s)
theorem Zns (c : Nat) : c ∈ Zee ↔ Zcv c = true := by simp [Zee, Zcv]; omega
theorem Zqi {s : List Nat} (h : Zls s = true) : ∃ t, Zhz s = some t := Option.isSome_iff_exists.1 h
theorem Yfn {s : List Nat} {t : Ty} (h : Zhz s = some t) : Zls s = true := by simp [Zls, h]
end Go.Sim

set_option linter.unusedSimpArgs false
namespace Go.Sim

abbrev Nd := List Nat × List Nat
abbrev Ins := Nd × List Nd
structure Wd where
  cs : List Nd
  is : List Ins

def Zsg (s : List Nat) : Bool := match s with | [c] => decide (65 ≤ c ∧ c ≤ 84) | _ => false
def Zgc (cs : List Nd) (c : List Nat) : Bool := cs.any fun x => decide (x.1 = c)
def Zur (cs : List Nd) (s : List Nat) (k : Nat) : Bool := Zgc cs [s.getD k 0] && (k == 0 || decide (s.getD (k - 1) 0 < s.getD k 0))
def Zyd (cs : List Nd) (s : List Nat) : Bool := (List.range s.length).all (Zur cs s)
def Zuy (cs : List Nd) (i : Nat) : Bool := Zsg (cs.getD i ([], [])).1 && (i == 0 || Zdk (cs.getD (i - 1) ([], [])).1 (cs.getD i ([], [])).1) && Zyd (cs.take i) (cs.getD i ([], [])).2
def Zir (cs : List Nd) : Bool := (List.range cs.length).all (Zuy cs) && decide (1 ≤ cs.length ∧ cs.length ≤ 4)
def Ziu (s : List Nat) : Bool := match s with | [c] => Zcv c | _ => false
noncomputable def Zih (cs : List Nd) (t : List Nat) (n : Nd) : Bool := Zgc cs n.1 && Zls n.2 && decide (n.2.length ≤ 20) && (Zpn n.2).all fun v => decide (v ∈ t)
noncomputable def Zky (cs : List Nd) (i : Ins) : Bool := Zir cs && Zgc cs i.1.1 && Zls i.1.2 && decide (i.1.2.length ≤ 20) && !Ziu i.1.2 && decide (i.2.length ≤ 3) && i.2.all (Zih cs i.1.2)
noncomputable def Zfy (w : Wd) : Bool := Zir w.cs && decide (w.is.length ≤ 10) && w.is.all (Zky w.cs)
noncomputable def Zfz (w : Wd) (n : Nd) : Bool := Zgc w.cs n.1 && Zls n.2
theorem Zfw {f : Nat → Bool} {g : Nat} (h : (List.range g).all f = true) (k : f g = true) : (List.range (g + 1)).all f = true := by
  rw [List.range_succ, List.all_append, h]; simp [k]
theorem Zin {f : Nat → Bool} {g n : Nat} (h : g < n) (k : f g = false) : (List.range n).all f = false := by
  rw [List.all_eq_false]; exact ⟨g, List.mem_range.2 h, by simp [k]⟩
theorem Zfq {α : Type} {f : α → Bool} {l : List α} {g : Nat} (hg : g < l.length) (h : (l.take g).all f = true) (k : f l[g] = true) : (l.take (g + 1)).all f = true := by
  rw [List.take_succ_eq_append_getElem hg, List.all_append, h]; simp [k]
theorem Zpk {α : Type} {f : α → Bool} {l : List α} {g : Nat} (hg : g < l.length) (k : f l[g] = false) : l.all f = false := by
  rw [List.all_eq_false]; exact ⟨_, List.getElem_mem hg, by simp [k]⟩
theorem Zez {α : Type} {l : List α} {g : Nat} {d : α} (h : g < l.length) : l.getD g d = l[g] := by simp [List.getD, h]
theorem Zuf {cs : List Nd} {c : List Nat} {g : Nat} (hg : g < cs.length) : Zgc (cs.take (g + 1)) c = (Zgc (cs.take g) c || decide (cs[g].1 = c)) := by
  unfold Zgc; rw [List.take_succ_eq_append_getElem hg, List.any_append]; simp
def Ybf (cs : List Nd) (c : List Nat) : Int := if Zgc cs c then (cs.findIdx fun x => decide (x.1 = c) : Nat) else -1
theorem Ztw (cs : List Nd) (c : List Nat) : decide (Ybf cs c < 0) = !Zgc cs c := by
  unfold Ybf; cases h : Zgc cs c <;> simp
theorem Ynn {t : List Nat} (h : Zls t = true) : Ziu t = Zcv (t.headD 0) := by
  obtain ⟨u, hu, rfl, _⟩ := Zqa.1 h
  cases u with
  | k c => rfl
  | u c a =>
    have h1 := hu
    simp only [Ty.ok, Bool.and_eq_true, Bool.or_eq_true, beq_iff_eq] at h1
    rcases h1.1 with rfl | rfl <;> rfl
  | w c a b =>
    have h1 := hu
    simp only [Ty.ok, Bool.and_eq_true, beq_iff_eq] at h1
    rcases h1.1.1 with rfl; rfl
end Go.Sim

set_option linter.unusedVariables false
set_option linter.unusedSimpArgs false
set_option maxRecDepth 20000
namespace Go.Sim
open Go Go.RowKit

theorem Yae {h : Zaa} {x a b : Int} : Zad pg Zkr [.int .i64 x, .int .i64 a, .int .i64 b] h fun v h' => v = .bool (decide (a ≤ x ∧ x ≤ b)) ∧ h' = h := by
  apply Zty.call
  refine Zap (fun h1 => ?_) (fun h1 => ?_)
  · have : a ≤ x := h1
    simp [this]
  · have : ¬ a ≤ x := h1
    simp [this]
theorem Ydh {h : Zaa} (s : List Nat) : Zad pg Zlm [.str s] h fun v h' => v = .bool (Zsg s) ∧ h' = h := by
  apply Zop.call
  match s with
  | [] => simp [Zsg]
  | [c] =>
    simp only [List.length_cons, List.length_nil, show ((0 + 1 : Nat) : Int) = 1 from rfl, beq_self_eq_true, Zbj]
    have e1 : Zdk [c] [65] = decide (c < 65) := by simp [Zdk]
    have e2 : Zdk [c] [84] = decide (c < 84) := by simp [Zdk]
    rw [e1, e2]
    refine Zhy (fun h1 => ?_) (fun h1 => ?_)
    · refine ⟨?_, by trivial⟩
      congr 1
      simp [Zsg]
      rw [Bool.eq_iff_iff]; simp; omega
    · refine ⟨?_, by trivial⟩
      simp [Zsg]; omega
  | c :: d :: r =>
    refine Zfe (fun h1 => ?_) (fun h1 => ⟨rfl, rfl⟩)
    simp at h1; omega
theorem Zyp {h : Zaa} (s : List Nat) (hb : ∀ b ∈ s, b < 256) : Zad pg Zjr [.str s] h fun v h' => v = .bool (Zsg s) ∧ h' = h := by
  apply Zni.call
  match s, hb with
  | [], _ => simp [Zsg]
  | [c], hb =>
    have hc := hb c (by simp)
    simp only [List.length_cons, List.length_nil, show ((0 + 1 : Nat) : Int) = 1 from rfl, beq_self_eq_true, Zbj]
    refine ⟨⟨by omega, by simp⟩, ?_⟩
    simp only [Int.toNat_zero, List.getD_cons_zero]
    rw [IntWalk.i64_in _ (by omega)]
    refine Yae.mono ?_
    rintro v h' ⟨rfl, rfl⟩
    simp only [Zai]
    refine ⟨?_, by trivial⟩
    congr 1
    simp [Zsg]; rw [Bool.eq_iff_iff]; simp; omega
  | c :: d :: r, _ =>
    refine Zfe (fun h1 => ?_) (fun h1 => ⟨rfl, rfl⟩)
    simp at h1; omega
def Zej {α : Type} (ty : TypeId) (enc : α → List Zan) (b : Nat) (h : Zaa) (a : Pt) (n : Nat) (l : List α) : Prop := l.length = n ∧ (n = 0 ∨ ∃ i, a = some (i, 0) ∧ b ≤ i ∧ h[i]? = some (.cells ty (Zfa enc l) false))
theorem Zej.row {α : Type} {ty : TypeId} {enc : α → List Zan} {w b : Nat} {h : Zaa} {a : Pt} {n : Nat} {l : List α} (hw : ∀ x, (enc x).length = w) (f : Zej ty enc b h a n l) : Row h.length h a (n * w) (Zfa enc l) := by
  obtain ⟨hl, h0 | ⟨i, ha, hb, hi⟩⟩ := f
  · subst h0
    have : l = [] := List.eq_nil_of_length_eq_zero hl
    subst this; simp; exact Row.nil
  · rw [ha]; exact (Vec.mk1 (n := 0) (c := 0) hi).row (by rw [Zbk hw, hl])
theorem Zej.same {α : Type} {ty : TypeId} {enc : α → List Zan} {b : Nat} {h h' : Zaa} {a : Pt} {n : Nat} {l : List α} (f : Zej ty enc b h a n l) (s : Zbe h.length h h') : Zej ty enc b h' a n l :=
  ⟨f.1, f.2.imp id fun ⟨i, ha, hb, hi⟩ => ⟨i, ha, hb, by rw [s.eq i (Own.lt hi)]; exact hi⟩⟩
end Go.Sim

set_option linter.unusedVariables false
set_option linter.unusedSimpArgs false
set_option maxRecDepth 20000
namespace Go.Sim
open Go Go.RowKit

def Yil (a : Pt) (n : Nat) (h h' : Zaa) : Prop := h.length ≤ h'.length ∧ ∀ j, j < h.length → (∀ i, a = some (i, 0) → n ≠ 0 → j ≠ i) → h'[j]? = h[j]?
theorem Yil.refl (a : Pt) (n : Nat) (h : Zaa) : Yil a n h h := ⟨Nat.le_refl _, fun _ _ _ => rfl⟩
theorem Yil.same {a : Pt} {n : Nat} {h h1 h2 : Zaa} (o : Yil a n h h1) (s : Zbe h1.length h1 h2) : Yil a n h h2 := ⟨Nat.le_trans o.1 s.le, fun j hj hn => by rw [s.eq j (by have := o.1; omega)]; exact o.2 j hj hn⟩
theorem Yil.set {n i : Nat} {h h1 : Zaa} {x : Zcj} (o : Yil (some (i, 0)) n h h1) (hn : n ≠ 0) : Yil (some (i, 0)) n h (h1.set i x) := ⟨by simp; exact o.1, fun j hj hne => by rw [Zbt (fun e => hne i rfl hn e.symm)]; exact o.2 j hj hne⟩
theorem Row.only {b : Nat} {h h' : Zaa} {a a' : Pt} {n m : Nat} {cs : List Zan} (r : Row b h a m cs) (o : Yil a' n h h') (hb : ∀ i, a' = some (i, 0) → n ≠ 0 → b ≤ i) : Row b h' a m cs := by
  obtain ⟨hl, r⟩ := r
  refine ⟨hl, r.imp id ?_⟩
  rintro ⟨i, o', t, all, ro, ha, hi, hg, x⟩
  exact ⟨i, o', t, all, ro, ha, hi, by rw [o.2 i (Own.lt hg) fun j hj hn => by have := hb j hj hn; omega]; exact hg, x⟩
theorem Zej.only {α : Type} {ty : TypeId} {enc : α → List Zan} {b : Nat} {h h' : Zaa} {a a' : Pt} {n m : Nat} {l : List α} (f : Zej ty enc b h a n l) (o : Yil a' m h h') (hb : ∀ i, a' = some (i, 0) → m ≠ 0 → ∀ j, a = some (j, 0) → j ≠ i) : Zej ty enc b h' a n l :=
  ⟨f.1, f.2.imp id fun ⟨i, ha, hbi, hi⟩ => ⟨i, ha, hbi, by rw [o.2 i (Own.lt hi) fun j hj hn => hb j hj hn i ha]; exact hi⟩⟩
end Go.Sim

set_option linter.unusedVariables false
set_option linter.unusedSimpArgs false
set_option maxRecDepth 20000
namespace Go.Sim
open Go Go.RowKit

structure EI where
  c : List Nat
  t : List Nat
  a : Pt
  n : Nat
  cp : Nat
  e : Bool
  deriving Inhabited
def eN (x : EI) : List Zan := [.str x.c, .str x.t, .slice x.a x.n x.cp x.e]
theorem Zyn (x : EI) : (eN x).length = 3 := rfl
def Yma (h : Zaa) (x : EI) (i : Ins) : Prop := x.c = i.1.1 ∧ x.t = i.1.2 ∧ Row h.length h x.a (x.n * 2) (Zfa eP i.2)
def Ygu (h : Zaa) (xs : List EI) (is : List Ins) : Prop := xs.length = is.length ∧ ∀ (k : Nat) (x : EI) (i : Ins), xs[k]? = some x → is[k]? = some i → Yma h x i
structure Zpe (h : Zaa) (a0 : Pt) (n0 c0 : Nat) (a1 : Pt) (n1 c1 : Nat) (w : Wd) : Prop where
  cls : Row h.length h a0 (n0 * 2) (Zfa eP w.cs)
  ins : ∃ xs, Row h.length h a1 (n1 * 3) (Zfa eN xs) ∧ Ygu h xs w.is
  le0 : n0 ≤ c0
  le1 : n1 ≤ c1
theorem Row.same' {h h' : Zaa} {a : Pt} {n : Nat} {cs : List Zan} (r : Row h.length h a n cs) (s : Zbe h.length h h') : Row h'.length h' a n cs := (r.same s).mono s.le
theorem Yma.same {h h' : Zaa} {x : EI} {i : Ins} (r : Yma h x i) (s : Zbe h.length h h') : Yma h' x i := ⟨r.1, r.2.1, r.2.2.same' s⟩
theorem Ygu.same {h h' : Zaa} {xs : List EI} {is : List Ins} (r : Ygu h xs is) (s : Zbe h.length h h') : Ygu h' xs is := ⟨r.1, fun k x i hx hi => (r.2 k x i hx hi).same s⟩
theorem Zpe.same {h h' : Zaa} {a0 a1 : Pt} {n0 c0 n1 c1 : Nat} {w : Wd} (r : Zpe h a0 n0 c0 a1 n1 c1 w) (s : Zbe h.length h h') : Zpe h' a0 n0 c0 a1 n1 c1 w :=
  ⟨r.cls.same' s, r.ins.imp fun xs ⟨r1, r2⟩ => ⟨r1.same' s, r2.same s⟩, r.le0, r.le1⟩
theorem Yma.len {h : Zaa} {x : EI} {i : Ins} (r : Yma h x i) : i.2.length = x.n := by have := r.2.2.1; rw [Zbk Zek] at this; omega
theorem Zpe.len0 {h : Zaa} {a0 a1 : Pt} {n0 c0 n1 c1 : Nat} {w : Wd} (r : Zpe h a0 n0 c0 a1 n1 c1 w) : w.cs.length = n0 := by have := r.cls.1; rw [Zbk Zek] at this; omega
theorem Zpe.len1 {h : Zaa} {a0 a1 : Pt} {n0 c0 n1 c1 : Nat} {w : Wd} (r : Zpe h a0 n0 c0 a1 n1 c1 w) : w.is.length = n1 := by
  obtain ⟨xs, r1, r2, _⟩ := r.ins
  have := r1.1; rw [Zbk Zyn] at this; omega
theorem Zpe.inst {h : Zaa} {a0 a1 : Pt} {n0 c0 n1 c1 : Nat} {w : Wd} (r : Zpe h a0 n0 c0 a1 n1 c1 w) {k : Nat} (hk : k < n1) :
    ∃ i o, ∃ hk' : k < w.is.length, ∃ a n cp e, a1 = some (i, o) ∧ i < h.length ∧ Zbp h (.ptr (some (i, o + k * 3))) 3 = some [.str w.is[k].1.1, .str w.is[k].1.2, .slice a n cp e] ∧ Zae h (.ptr (some (i, o + k * 3))) = some (.str w.is[k].1.1) ∧ Zae h (.ptr (some (i, o + k * 3 + 1))) = some (.str w.is[k].1.2) ∧ Zae h (.ptr (some (i, o + k * 3 + 2))) = some (.slice a n cp e) ∧
      Row h.length h a (n * 2) (Zfa eP w.is[k].2) ∧ w.is[k].2.length = n := by
  have hl := r.len1
  obtain ⟨xs, r1, r2, r3⟩ := r.ins
  obtain ⟨i, o, hk', ha, hi, hr, hc⟩ := Row.el Zyn r1 (by omega) hk (by omega)
  have hI := r3 k xs[k] w.is[k] (List.getElem?_eq_getElem hk') (List.getElem?_eq_getElem (by omega))
  obtain ⟨e1, e2, e3⟩ := id hI
  refine ⟨i, o, by omega, xs[k].a, xs[k].n, xs[k].cp, xs[k].e, ha, hi, ?_, ?_, ?_, ?_, e3, hI.len⟩
  · rw [hr, eN, e1, e2]
  · have := hc 0 (by omega); rw [← e1]; simpa [eN] using this
  · have := hc 1 (by omega); rw [← e2]; simpa [eN] using this
  · have := hc 2 (by omega); simpa [eN] using this
theorem Row.pr {b : Nat} {h : Zaa} {a : Pt} {n : Nat} {l : List Nd} (r : Row b h a (n * 2) (Zfa eP l)) {k : Nat} (hk : k < n) :
    ∃ i o, ∃ hk' : k < l.length, a = some (i, o) ∧ i < b ∧ Zbp h (.ptr (some (i, o + k * 2))) 2 = some [.str l[k].1, .str l[k].2] ∧ Zae h (.ptr (some (i, o + k * 2))) = some (.str l[k].1) ∧ Zae h (.ptr (some (i, o + k * 2 + 1))) = some (.str l[k].2) := by
  have hl : l.length = n := by have := r.1; rw [Zbk Zek] at this; omega
  obtain ⟨i, o, hk', ha, hi, hr, hc⟩ := Row.el Zek r hl hk (by omega)
  exact ⟨i, o, hk', ha, hi, hr, by simpa [eP] using hc 0 (by omega), by simpa [eP] using hc 1 (by omega)⟩

def Mid (lo hi : Nat) (h h' : Zaa) : Prop := h.length ≤ h'.length ∧ ∀ j, j < h.length → (j < lo ∨ hi ≤ j) → h'[j]? = h[j]?
theorem Mid.refl (lo hi : Nat) (h : Zaa) : Mid lo hi h h := ⟨Nat.le_refl _, fun _ _ _ => rfl⟩
theorem Mid.trans {lo hi : Nat} {h h1 h2 : Zaa} (a : Mid lo hi h h1) (b : Mid lo hi h1 h2) : Mid lo hi h h2 := ⟨Nat.le_trans a.1 b.1, fun j hj hn => by rw [b.2 j (by have := a.1; omega) hn]; exact a.2 j hj hn⟩
theorem Mid.of_same {lo hi : Nat} {h h' : Zaa} (s : Zbe h.length h h') : Mid lo hi h h' := ⟨s.le, fun j hj _ => s.eq j hj⟩
theorem Mid.same {lo hi : Nat} {h h1 h2 : Zaa} (a : Mid lo hi h h1) (s : Zbe h1.length h1 h2) : Mid lo hi h h2 := a.trans (Mid.of_same s)
theorem Mid.set {lo hi i : Nat} {h h1 : Zaa} {x : Zcj} (o : Mid lo hi h h1) (h0 : lo ≤ i) (h2 : i < hi) : Mid lo hi h (h1.set i x) := ⟨by simp; exact o.1, fun j hj hne => by rw [Zbt (by omega)]; exact o.2 j hj hne⟩
theorem Zej.in {α : Type} {ty : TypeId} {enc : α → List Zan} {b : Nat} {h : Zaa} {a : Pt} {n : Nat} {l : List α} (f : Zej ty enc b h a n l) : ∀ i, a = some (i, 0) → n ≠ 0 → b ≤ i ∧ i < h.length := by
  intro i hi hn
  rcases f.2 with h0 | ⟨j, ha, hb, hj⟩
  · exact absurd h0 hn
  · rw [hi] at ha; cases ha; exact ⟨hb, Own.lt hj⟩
structure Zvw (b : Nat) (h : Zaa) (a0 : Pt) (n0 : Nat) (a1 : Pt) (n1 : Nat) (xs : List EI) (w : Wd) : Prop where
  cls : Zej Zbr eP b h a0 n0 w.cs
  ins : Zej Zal eN b h a1 n1 xs
  len : xs.length = w.is.length
  need : ∀ (k : Nat) (x : EI) (i : Ins), xs[k]? = some x → w.is[k]? = some i → x.c = i.1.1 ∧ x.t = i.1.2 ∧ Zej Zar eP b h x.a x.n i.2
  sep : ∀ (j k : Nat) (x y : EI), j ≠ k → xs[j]? = some x → xs[k]? = some y → x.n ≠ 0 → y.n ≠ 0 → x.a ≠ y.a
  nn : ∀ x ∈ xs, x.a ≠ none
theorem Zvw.same {b : Nat} {h h' : Zaa} {a0 a1 : Pt} {n0 n1 : Nat} {xs : List EI} {w : Wd} (f : Zvw b h a0 n0 a1 n1 xs w) (s : Zbe h.length h h') : Zvw b h' a0 n0 a1 n1 xs w :=
  ⟨f.cls.same s, f.ins.same s, f.len, fun k x i hx hi => ⟨(f.need k x i hx hi).1, (f.need k x i hx hi).2.1, (f.need k x i hx hi).2.2.same s⟩, f.sep, f.nn⟩
theorem Zvw.rep {b : Nat} {h : Zaa} {a0 a1 : Pt} {n0 c0 n1 c1 : Nat} {xs : List EI} {w : Wd} (f : Zvw b h a0 n0 a1 n1 xs w) (h0 : n0 ≤ c0) (h1 : n1 ≤ c1) : Zpe h a0 n0 c0 a1 n1 c1 w :=
  ⟨f.cls.row Zek, ⟨xs, f.ins.row Zyn, f.len, fun k x i hx hi => ⟨(f.need k x i hx hi).1, (f.need k x i hx hi).2.1, (f.need k x i hx hi).2.2.row Zek⟩⟩, h0, h1⟩
end Go.Sim

set_option linter.unusedVariables false
set_option linter.unusedSimpArgs false
set_option maxRecDepth 20000
namespace Go.Sim
open Go Go.RowKit

def one (c : Nat) : List Nat := [c]
theorem Ztj : pg.underlying Zrh = some (.slice Zcz) := by kernel_rfl
theorem Zxs : pg.cellsOf Zcz = 1 := by kernel_rfl
theorem Zxi : pg.okElem Zcz = true := by kernel_rfl
theorem Zzg : pg.bytesOf Zcz ≤ 127 := Nat.le_of_ble_eq_true (by kernel_rfl)
theorem Ylg (s : List Nat) (h : Zaa) : Zad pg Zpi [.str s] h fun v h' => Zbe h.length h h' ∧ ∃ a n c e, v = .slice a n c e ∧ Row h'.length h' a n (strs ((Zpn s).map one)) := by
  apply Zhu.call
  simp only [Zaz]
  have hlist : (h ++ [Zcj.cells Zcz [] false] ++ [Zcj.cells Zcz [.str [88], .str [89], .str [90], .str [120], .str [121], .str [122]] false])[h.length + 1]? = some (.cells Zcz [.str [88], .str [89], .str [90], .str [120], .str [121], .str [122]] false) := by simp
  have hlen : List.length (h ++ [Zcj.cells Zcz [] false]) = h.length + 1 := by simp
  rw [hlen]
  refine Zhu.L3ind _ _ _ _ _ _ _ (J := fun (g : Nat) a3 n3 c3 e3 x9 h' => x9 = (g : Int) ∧ g ≤ 6 ∧ Zbe h.length h h' ∧ h'[h.length + 1]? = some (.cells Zcz [.str [88], .str [89], .str [90], .str [120], .str [121], .str [122]] false) ∧ n3 = (((Zee.take g).filter fun v => decide (v ∈ s)).map one).length ∧ Vec Zcz h' a3 n3 c3 (strs (((Zee.take g).filter fun v => decide (v ∈ s)).map one)) ∧ ∀ i, a3 = some (i, 0) → h.length ≤ i ∧ i ≠ h.length + 1) (fun g => 6 - g) ?_ 0 _ _ _ _ _ _
    ⟨rfl, by omega, (Zbe.app (Nat.le_refl _) _).trans (Zbe.app (by simp) _), hlist, by simp, Vec.mk1 (by simp), fun i hi => by cases hi; omega⟩
  rintro g a3 n3 c3 e3 x9 h' ⟨rfl, hg, hS, hl, rfl, hv, ha⟩ R hR
  unfold Zhu.L3t
  refine Zap (fun hlt => ?_) (fun hge => ?_)
  · have hlt' : g < 6 := by omega
    have hc : ∃ c, Zee[g]? = some c ∧ Zae h' (.ptr (some (h.length + 1, 0 + (g : Int).toNat * 1))) = some (.str [c]) := by
      rw [Zak hl, Int.toNat_natCast]
      match g, hlt' with
      | 0, _ | 1, _ | 2, _ | 3, _ | 4, _ | 5, _ => exact ⟨_, rfl, rfl⟩
    obtain ⟨c, hc1, hc2⟩ := hc
    simp only [Zax, hc2, Zag]
    refine ⟨by omega, Zle.mono ?_⟩
    rintro v h2 ⟨rfl, rfl⟩
    simp only [Zai]
    have htk : Zee.take (g + 1) = Zee.take g ++ [c] := by
      rw [List.take_succ, hc1]; rfl
    have hbd : (((Zee.take g).filter fun v => decide (v ∈ s)).map one).length ≤ 6 := by
      rw [List.length_map]
      exact Nat.le_trans (List.length_filter_le _ _) (by simp; omega)
    refine Zap (fun hin => ?_) (fun hout => ?_)
    · simp only [Zaz]
      refine hv.push Ztj Zxs Zxi Zzg (by simp) rfl (by omega) (fun h4 hl4 hi4 hk4 => ?_)
      simp only [Zah]
      apply Zhu.J7i
      rw [Zbs (by omega)]
      have hle := hS.le
      refine hR (g + 1) _ _ _ _ _ _ (by omega) ⟨rfl, by omega, ⟨by omega, fun j hj => ?_⟩, ?_, ?_, Vec.mk1 ?_, fun i hi => by cases hi; have := Own.lt hl; omega⟩
      · rw [hk4 j (by omega) fun i hi => by have := (ha i hi).1; omega]; exact hS.eq j hj
      · rw [hk4 _ (Own.lt hl) fun i hi => (ha i hi).2.symm]; exact hl
      · rw [htk, List.filter_append]; simp [hin]
      · rw [hi4, htk, List.filter_append]; simp [hin, strs, one]
    · apply Zhu.J7i
      rw [Zbs (by omega)]
      have hf : (Zee.take (g + 1)).filter (fun v => decide (v ∈ s)) = (Zee.take g).filter fun v => decide (v ∈ s) := by rw [htk, List.filter_append]; simp [hout]
      refine hR (g + 1) _ _ _ _ _ _ (by omega) ⟨rfl, by omega, hS, hl, by rw [hf], by rw [hf]; exact hv, ha⟩
  · have : g = 6 := by omega
    subst this
    apply Zhu.A3x0i
    refine ⟨hS, _, _, _, _, rfl, hv.row (by simp)⟩
end Go.Sim
