/- A part of the proof of a statement of this seat: see the text that holds the theorem. No condition. -/
import Derived.Test.YtlljbdepamknoaaGreatDoorPTCTy
import Derived.Test.YtlljbdepamknoaaGreatDoorCTy
import Derived.Test.YtlljbdepamknoaaGreatDoorPTCFind
import Derived.Test.YtlljbdepamknoaaGreatDoorSimX
import Derived.Test.YtlljbdepamknoaaGreatDoorNm
set_option linter.unusedVariables false
set_option linter.unusedSimpArgs false
set_option linter.all false
set_option linter.unusedVariables false
set_option linter.unusedSimpArgs false
set_option maxRecDepth 20000
namespace Go.Sim
open Go Go.RowKit

theorem Ypj {s : List Nat} {c g : Nat} (h : s[g]? = some c) (hn : c ∉ s.take g) : Zst s c = g := by
 induction s generalizing g with
 | nil => simp at h
 | cons b s ih =>
  cases g with
  | zero => simp at h; subst h; simp [Zst]
  | succ g =>
   simp at h hn
   have := ih h hn.2
   have hb : ¬ b = c := fun e => hn.1 e.symm
   simp only [Zst, beq_iff_eq, hb, if_false, this]
   rw [if_neg (by omega)]; omega
theorem Zvl {s : List Nat} {c : Nat} (hn : c ∉ s) : Zst s c = -1 := by
 have := (Ynz s c).2 hn; have := Yjn s c; omega
theorem Yeu {s : List Nat} {g : Nat} (h : g < s.length) : s.getD g 0 = s[g] := by simp [List.getD, h]
theorem Zzi {h : Zaa} (s : List Nat) (c : Nat) (hs : s.length ≤ 9223372036854775807) : Zae pg Zgd [.str s, .int .u8 (c : Int)] h fun v h' => v = .int .i64 (Zst s c) ∧ h' = h := by
 apply Zhk.call
 refine Zhk.L2ind _ _ _ (J := fun (g : Nat) x5 h' => x5 = (g : Int) ∧ h' = h ∧ g ≤ s.length ∧ c ∉ s.take g) (fun g => s.length - g) ?_ 0 _ _ ⟨rfl, rfl, by omega, by simp⟩
 rintro g x5 h' ⟨rfl, rfl, hg, hn⟩ R hR
 unfold Zhk.L2t
 refine Zap (fun hlt => ?_) (fun hge => ?_)
 ·have hlt' : g < s.length := by omega
  refine ⟨⟨by omega, by omega⟩, ?_⟩
  rw [Int.toNat_natCast, Yeu hlt']
  refine Zfe (fun he => ?_) (fun he => ?_)
  ·exact ⟨by rw [Ypj (g := g) (by rw [List.getElem?_eq_getElem hlt', Int.ofNat.inj he]) hn], rfl⟩
  ·rw [IntWalk.i64_in _ (by omega)]
   refine hR (g + 1) _ _ (by omega) ⟨by omega, rfl, by omega, ?_⟩
   rw [List.take_succ_eq_append_getElem hlt']
   simp only [List.mem_append, List.mem_singleton, not_or]
   exact ⟨hn, fun e => he (by rw [e])⟩
 ·have : g = s.length := by omega
  subst this
  rw [List.take_length] at hn
  apply Zhk.A2x0i
  rw [Zvl hn]; exact ⟨rfl, rfl⟩
theorem Ysh (c : Nat) : (if Zst [105, 98, 117, 108, 109, 112, 120, 121, 122, 88, 89, 90] c < 0 then (-1 : Int) else if Zst [105, 98, 117, 108, 109, 112, 120, 121, 122, 88, 89, 90] c = 3 then 1 else if Zst [105, 98, 117, 108, 109, 112, 120, 121, 122, 88, 89, 90] c = 4 then 1 else if Zst [105, 98, 117, 108, 109, 112, 120, 121, 122, 88, 89, 90] c = 5 then 2 else 0) = arN c := by
 by_cases h : c ∈ [105, 98, 117, 108, 109, 112, 120, 121, 122, 88, 89, 90]
 ·simp at h
  rcases h with rfl | rfl | rfl | rfl | rfl | rfl | rfl | rfl | rfl | rfl | rfl | rfl <;> rfl
 ·rw [Zvl h]
  simp at h
  simp [arN, Zmv, Zdd, h]
theorem Ypz (c : Nat) : decide (Zst [105, 98, 117, 108, 109, 112, 120, 121, 122, 88, 89, 90] c ≥ 6) = Zdd c := by
 by_cases h : c ∈ [105, 98, 117, 108, 109, 112, 120, 121, 122, 88, 89, 90]
 ·simp at h
  rcases h with rfl | rfl | rfl | rfl | rfl | rfl | rfl | rfl | rfl | rfl | rfl | rfl <;> rfl
 ·rw [Zvl h]
  simp at h
  simp [Zdd, h]
theorem Yhh {h : Zaa} (c : Nat) : Zae pg Zkb [.int .u8 (c : Int)] h fun v h' => v = .int .i64 (arN c) ∧ h' = h := by
 apply Zmw.call
 refine (Zzi _ c (by simp)).mono ?_
 rintro v h1 ⟨rfl, rfl⟩
 simp only [Zau]
 rw [← Ysh c]
 generalize Zst [105, 98, 117, 108, 109, 112, 120, 121, 122, 88, 89, 90] c = k
 refine Zap (fun hk => ?_) (fun hk => ?_)
 ·rw [if_pos hk]; exact ⟨rfl, by trivial⟩
 ·rw [if_neg hk]
  refine Zfe (fun h3 => ?_) (fun h3 => ?_)
  ·rw [if_pos h3]; exact ⟨rfl, by trivial⟩
  ·rw [if_neg h3]
   refine Zfe (fun h4 => ?_) (fun h4 => ?_)
   ·rw [if_pos h4]; exact ⟨rfl, by trivial⟩
   ·rw [if_neg h4]
    refine Zfe (fun h5 => ?_) (fun h5 => ?_)
    ·rw [if_pos h5]; exact ⟨rfl, by trivial⟩
    ·rw [if_neg h5]; apply Zmw.J8i; exact ⟨rfl, by trivial⟩

def rdr (s : List Nat) (k : Nat) (b : Bool) : Zci := .cells Zde [.str s, .int .i64 (k : Int), .bool b] false
theorem Ylt {s : List Nat} {k : Nat} (h : k < s.length) : s.drop k = s[k] :: s.drop (k + 1) := List.drop_eq_getElem_cons h
theorem Ydl {h : Zaa} {i : Nat} {s : List Nat} {k : Nat} {b : Bool} (hi : h[i]? = some (rdr s k b)) (hk : k ≤ s.length) (hs : s.length ≤ 9223372036854775807) : Zae pg Zes [.ptr (some (i, 0))] h fun v h' =>
  (∃ c : Nat, s.drop k = c :: s.drop (k + 1) ∧ k < s.length ∧ v = .int .u8 (c : Int) ∧ h' = h.set i (rdr s (k + 1) b)) ∨ (s.drop k = [] ∧ v = .int .u8 0 ∧ h' = h.set i (rdr s k true)) := by
 unfold rdr at hi
 apply Zko.call
 simp only [Zaw, Zat hi, Nat.zero_add, List.getElem?_cons_zero, List.getElem?_cons_succ, Zau, Zag]
 refine ⟨by trivial, Zap (fun hge => ?_) (fun hl => ?_)⟩
 ·rw [Zca hi (by simp)]
  exact .inr ⟨List.drop_eq_nil_of_le (by omega), by trivial, rfl⟩
 ·have hl' : k < s.length := by omega
  rw [Zca hi (by simp)]
  simp only [Zay, Zat (Zcy hi)]
  rw [IntWalk.i64_in _ (by omega)]
  simp only [putRow, List.take_succ_cons, List.take_zero, List.length_cons, List.length_nil, List.cons_append, List.nil_append, List.drop_succ_cons, List.drop_zero, List.getElem?_cons_zero, List.getElem?_cons_succ, Zau, Zag]
  rw [IntWalk.i64_in _ (by omega)]
  refine ⟨by trivial, ⟨by omega, by omega⟩, .inl ⟨s[k], Ylt hl', hl', ?_, ?_⟩⟩
  ·have : ((k : Int) + 1 - 1).toNat = k := by omega
   rw [this, Yeu hl']
  ·simp [rdr]
def Zgv (S : Nat → Prop) (h : Zaa) : Ty → List Zaq → Prop
 | .k d, v => ∃ a c e, v = [.int .u8 (d : Int), .slice a 0 c e]
 | .u d x, v => ∃ j c e r, v = [.int .u8 (d : Int), .slice (some (j, 0)) 1 c e] ∧ S j ∧ h[j]? = some (.cells Zac r false) ∧ Zgv S h x r
 | .w d x y, v => ∃ j c e r r', v = [.int .u8 (d : Int), .slice (some (j, 0)) 2 c e] ∧ S j ∧ h[j]? = some (.cells Zac (r ++ r') false) ∧ Zgv S h x r ∧ Zgv S h y r'
theorem Zgv.mono {S S' : Nat → Prop} {h : Zaa} (hs : ∀ i, S i → S' i) : ∀ {t : Ty} {v : List Zaq}, Zgv S h t v → Zgv S' h t v
 | .k d, _, h => h
 | .u d x, _, ⟨j, c, e, r, hv, sj, hj, hr⟩ => ⟨j, c, e, r, hv, hs _ sj, hj, hr.mono hs⟩
 | .w d x y, _, ⟨j, c, e, r, r', hv, sj, hj, hr, hr'⟩ => ⟨j, c, e, r, r', hv, hs _ sj, hj, hr.mono hs, hr'.mono hs⟩
theorem Zgv.agree {S : Nat → Prop} {h h' : Zaa} (hh : ∀ i, S i → h'[i]? = h[i]?) : ∀ {t : Ty} {v : List Zaq}, Zgv S h t v → Zgv S h' t v
 | .k d, _, h => h
 | .u d x, _, ⟨j, c, e, r, hv, sj, hj, hr⟩ => ⟨j, c, e, r, hv, sj, by rw [hh j sj]; exact hj, hr.agree hh⟩
 | .w d x y, _, ⟨j, c, e, r, r', hv, sj, hj, hr, hr'⟩ => ⟨j, c, e, r, r', hv, sj, by rw [hh j sj]; exact hj, hr.agree hh, hr'.agree hh⟩
theorem Zgv.shape {S : Nat → Prop} {h : Zaa} {t : Ty} {v : List Zaq} (r : Zgv S h t v) : ∃ a c e, v = [.int .u8 (t.hd : Int), .slice a t.ps.length c e] := by
 cases t with
 | k d => exact r
 | u d x => obtain ⟨j, c, e, r, hv, _⟩ := r; exact ⟨_, c, e, hv⟩
 | w d x y => obtain ⟨j, c, e, r, r', hv, _⟩ := r; exact ⟨_, c, e, hv⟩
theorem Zgv.len {S : Nat → Prop} {h : Zaa} {t : Ty} {v : List Zaq} (r : Zgv S h t v) : v.length = 2 := by obtain ⟨a, c, e, rfl⟩ := r.shape; rfl
theorem Zgv.leaf {S : Nat → Prop} {h : Zaa} {t : Ty} {v : List Zaq} (r : Zgv S h t v) : v.all Zaq.leaf = true := by obtain ⟨a, c, e, rfl⟩ := r.shape; rfl
theorem Zgv.parts {S : Nat → Prop} {h : Zaa} {t : Ty} {v : List Zaq} (r : Zgv S h t v) : ∃ a c e, ∃ vs : List (List Zaq), v = [.int .u8 (t.hd : Int), .slice a t.ps.length c e] ∧ Row h.length h a (t.ps.length * 2) vs.flatten ∧
  (∀ j o, t.ps.length ≠ 0 → a = some (j, o) → S j) ∧ vs.length = t.ps.length ∧ ∀ (k : Nat) (w : List Zaq) (x : Ty), vs[k]? = some w → t.ps[k]? = some x → Zgv S h x w := by
 cases t with
 | k d => obtain ⟨a, c, e, rfl⟩ := r; exact ⟨a, c, e, [], rfl, Row.nil, fun _ _ h => absurd rfl h, rfl, by simp⟩
 | u d x =>
  obtain ⟨j, c, e, r, rfl, sj, hj, hr⟩ := r
  have hl := hr.len
  refine ⟨_, c, e, [r], rfl, ⟨by simp [Ty.ps, hl], .inr ⟨j, 0, _, _, _, rfl, Own.lt hj, hj, by simp [Ty.ps, hl], by simp [Ty.ps]; rw [List.take_of_length_le (by omega)]⟩⟩, fun j' o' _ e => by cases e; exact sj, rfl, ?_⟩
  intro k w x' h1 h2
  cases k with
  | zero => simp [Ty.ps] at h1 h2; subst h1; subst h2; exact hr
  | succ k => simp at h1
 | w d x y =>
  obtain ⟨j, c, e, r, r', rfl, sj, hj, hr, hr'⟩ := r
  have hl := hr.len
  have hl' := hr'.len
  refine ⟨_, c, e, [r, r'], rfl, ⟨by simp [Ty.ps, hl, hl'], .inr ⟨j, 0, _, _, _, rfl, Own.lt hj, hj, by simp [Ty.ps, hl, hl'], by simp [Ty.ps]; rw [List.take_of_length_le (by simp; omega)]⟩⟩, fun j' o' _ e => by cases e; exact sj, rfl, ?_⟩
  intro k w x' h1 h2
  match k with
  | 0 => simp [Ty.ps] at h1 h2; subst h1; subst h2; exact hr
  | 1 => simp [Ty.ps] at h1 h2; subst h1; subst h2; exact hr'
  | k + 2 => simp at h1
theorem Zgv.make {S : Nat → Prop} {h : Zaa} {t : Ty} {j n c : Nat} {e : Bool} {vs : List (List Zaq)} (hn : n = t.ps.length) (sj : S j) (hj : h[j]? = some (.cells Zac vs.flatten false)) (hl : vs.length = n)
  (hq : ∀ (k : Nat) (w : List Zaq) (x : Ty), vs[k]? = some w → t.ps[k]? = some x → Zgv S h x w) : Zgv S h t [.int .u8 (t.hd : Int), .slice (some (j, 0)) n c e] := by
 subst hn
 cases t with
 | k d => exact ⟨_, c, e, rfl⟩
 | u d x =>
  match vs, hl with
  | [r], _ => exact ⟨j, c, e, r, rfl, sj, by simpa using hj, hq 0 r x rfl rfl⟩
 | w d x y =>
  match vs, hl with
  | [r, r'], _ => exact ⟨j, c, e, r, r', rfl, sj, by simpa using hj, hq 0 r x rfl rfl, hq 1 r' y rfl rfl⟩

theorem Ygw : pg.underlying Zik = some (.slice Zac) := by kernel_rfl
theorem Yni : pg.cellsOf Zac = 2 := by kernel_rfl
theorem Yof : pg.okElem Zac = true := by kernel_rfl
theorem Ynr : pg.bytesOf Zac ≤ 127 := Nat.le_of_ble_eq_true (by kernel_rfl)
theorem Yku (vs : List (List Zaq)) (r : List Zaq) : (vs ++ [r]).flatten = vs.flatten ++ r := by simp
theorem Yoa {vs : List (List Zaq)} (h : ∀ v ∈ vs, v.length = 2) : vs.flatten.length = vs.length * 2 := by
 induction vs with
 | nil => rfl
 | cons v vs ih => rw [List.flatten_cons, List.length_append, h v (by simp), ih fun w hw => h w (by simp [hw]), List.length_cons]; omega
theorem Yto {c : Nat} {ps : List Ty} (hok : ∀ p ∈ ps, p.ok = true) (ha : arN c = ps.length) : ∃ t : Ty, t.ok = true ∧ t.hd = c ∧ t.ps = ps := by
 match ps, ha, hok with
 | [], h0, _ =>
  refine ⟨.k c, ?_, rfl, rfl⟩
  simp only [Ty.ok]
  cases hl : Zmv c with
  | true => rfl
  | false => unfold arN at h0; rw [hl] at h0; simp at h0; split at h0 <;> try split at h0
             all_goals omega
 | [x], h0, hok =>
  refine ⟨.u c x, ?_, rfl, rfl⟩
  simp only [Ty.ok, hok x (by simp), Bool.and_true, Bool.or_eq_true, beq_iff_eq]
  simp at h0
  unfold arN at h0; split at h0
  ·omega
  ·split at h0
   ·rename_i h; simpa using h
   ·split at h0 <;> omega
 | [x, y], h0, hok =>
  refine ⟨.w c x y, ?_, rfl, rfl⟩
  simp only [Ty.ok, hok x (by simp), hok y (by simp), Bool.and_true, beq_iff_eq]
  simp at h0
  unfold arN at h0; split at h0
  ·omega
  ·split at h0
   ·omega
   ·split at h0
    ·rename_i h; simpa using h
    ·omega
 | _ :: _ :: _ :: r, h0, _ =>
  simp at h0; unfold arN at h0; split at h0 <;> try split at h0
  all_goals try split at h0
  all_goals omega
theorem Yrt (t : Ty) (r : List Nat) : t.txt ++ r = t.hd :: (Zzw t.ps ++ (if t.ps = [] then r else 41 :: r)) := by
 cases t <;> simp [Ty.txt, Ty.hd, Ty.ps, Zzw]
def Zwg (i : Nat) (s : List Nat) (k : Nat) (h : Zaa) (v : Zaq) (h' : Zaa) : Prop :=
 Zjf i h h' ∧ ∃ (d : Nat) (a : Pt) (n c : Nat) (e : Bool) (k' : Nat) (bad : Bool), v = .agg [.int .u8 (d : Int), .slice a n c e] ∧ h'[i]? = some (rdr s k' bad) ∧ k' ≤ s.length ∧
  ((bad = false ∧ ∃ t, Zgz (s.drop k) t (s.drop k') ∧ Zgv (Btw h.length h'.length) h' t [.int .u8 (d : Int), .slice a n c e]) ∨ (bad = true ∧ ∀ t r, ¬ Zgz (s.drop k) t r))

theorem Zuq {s : List Nat} {k i : Nat} {h h' : Zaa} {k1 c i2 i3 n cp : Nat} {bad e : Bool} {a : Pt} {x y : Zaq} (hil : i < h.length) (hK : Zjf i h h') (hgi : h'[i]? = some (rdr s k1 bad)) (hk1 : k1 ≤ s.length)
  (hi2 : h'[i2]? = some (.cells Zac [x, y] false)) (hl2 : h.length ≤ i2) (hne : i2 ≠ i3) (hi3 : h'[i3]? = some (.cells Zac [.int .u8 (c : Int), .slice a n cp e] false))
  (hfin : (bad = false ∧ ∃ t, Zgz (s.drop k) t (s.drop k1) ∧ Zgv (fun x => Btw h.length h'.length x ∧ x ≠ i2) h' t [.int .u8 (c : Int), .slice a n cp e]) ∨ (bad = true ∧ ∀ t r, ¬ Zgz (s.drop k) t r)) :
  Zbi.J12 (Zwg i s k h) i3 0 i2 0 h' := by
 apply Zbi.J12i
 rw [Zeb hi3 (by simp)]
 simp only [List.drop_zero, List.take_succ_cons, List.take_zero, Zas, Zah, Zau, Zaf, Zar]
 rw [Zca hi2 (by simp)]
 simp only [Zay]
 rw [Zeb (Zcy hi2) (by simp [putRow])]
 simp only [putRow, List.take_zero, List.nil_append, List.length_cons, List.length_nil, List.cons_append, List.drop_succ_cons, List.drop_zero, List.drop_nil, List.append_nil, List.take_succ_cons, Zas, Zah, Zau, Zaf, Zar]
 refine ⟨hK.trans' ?_, c, a, n, cp, e, k1, bad, rfl, by rw [Zbz (by omega)]; exact hgi, hk1, ?_⟩
 ·exact fun j hj => Zbz (by omega)
 ·rcases hfin with ⟨hb, t, ho, hr⟩ | hb
  ·refine .inl ⟨hb, t, ho, ?_⟩
   refine Zgv.mono (S := fun x => Btw h.length h'.length x ∧ x ≠ i2) (fun z hz => by simpa using hz.1) (hr.agree fun z hz => Zbz (fun e => hz.2 e.symm))
  ·exact .inr hb
theorem Yqv {s : List Nat} (hs : s.length ≤ 9223372036854775807) {k i : Nat} {h : Zaa} (hil : i < h.length)
  (ih : ∀ k', k < k' → k' ≤ s.length → ∀ (h : Zaa), h[i]? = some (rdr s k' false) → Zae pg Zed [.ptr (some (i, 0))] h (Zwg i s k' h))
  {g : Zaa} {c k1 i2 i3 j0 : Nat} {bad : Bool} (hK : Zjf i h g) (hgi : g[i]? = some (rdr s k1 bad)) (hk1 : k1 ≤ s.length) (hl2 : h.length ≤ i2) (hl3 : h.length ≤ i3) (hlj : h.length ≤ j0)
  (hne : i2 ≠ i3) (hne2 : i2 ≠ j0) (hne3 : i3 ≠ j0) (hi2 : g[i2]? = some (.cells Zac [.int .u8 0, .slice none 0 0 true] false)) (hi3 : g[i3]? = some (.cells Zac [.int .u8 (c : Int), .slice (some (j0, 0)) 0 0 true] false))
  (hj0 : g[j0]? = some (.cells Zac [] false))
  (hcase : (bad = false ∧ k < k1 ∧ s.drop k = c :: s.drop k1 ∧ 0 ≤ arN c) ∨ (bad = true ∧ ∀ t r, ¬ Zgz (s.drop k) t r)) :
  Zbi.J4 (Zwg i s k h) (some (i, 0)) i2 0 i3 0 (arN c) g := by
 apply Zbi.J4i
 have hm2 : arN c ≤ 2 := by unfold arN; split <;> try split
                            all_goals try split
                            all_goals omega
 have hi2l := Own.lt hi2
 have hi3l := Own.lt hi3
 refine Zbi.L5ind _ _ _ _ _ _ _ (J := fun (q : Nat) x5 h' => x5 = (q : Int) ∧ ∃ (bad : Bool) (k1 n cp : Nat) (e : Bool) (j : Nat), Zjf i h h' ∧ h'[i]? = some (rdr s k1 bad) ∧ k1 ≤ s.length ∧
   h'[i2]? = some (.cells Zac [.int .u8 0, .slice none 0 0 true] false) ∧ h'[i3]? = some (.cells Zac [.int .u8 (c : Int), .slice (some (j, 0)) n cp e] false) ∧ h.length ≤ j ∧ i2 ≠ j ∧ i3 ≠ j ∧ i2 < h'.length ∧ i3 < h'.length ∧
   ((bad = true ∧ ∀ t r, ¬ Zgz (s.drop k) t r) ∨ (bad = false ∧ k < k1 ∧ n = q ∧ (q : Int) ≤ arN c ∧ ∃ (ps : List Ty) (vs : List (List Zaq)), ps.length = q ∧ vs.length = q ∧ (∀ p ∈ ps, p.ok = true) ∧ s.drop k = c :: (Zzw ps ++ s.drop k1) ∧
    h'[j]? = some (.cells Zac vs.flatten false) ∧ (∀ v ∈ vs, v.length = 2) ∧ ∀ (kk : Nat) (v : List Zaq) (x : Ty), vs[kk]? = some v → ps[kk]? = some x → ∃ lo hi, h.length ≤ lo ∧ i2 < lo ∧ i3 < lo ∧ hi ≤ h'.length ∧ ¬ Btw lo hi j ∧ Zgv (Btw lo hi) h' x v)))
  (fun q => (arN c).toNat - q) ?_ 0 _ _ ⟨rfl, bad, k1, 0, 0, true, j0, hK, hgi, hk1, hi2, hi3, hlj, hne2, hne3, hi2l, hi3l, ?_⟩
 ·rintro q x5 h' ⟨rfl, bad, k1, n, cp, e, j, hK, hgi, hk1, hi2, hi3, hlj, hn2, hn3, hl2', hl3', hst⟩ R hR
  have over : ¬ (bad = false ∧ (q : Int) < arN c) → Zbi.A5x0 (Zwg i s k h) (arN c) (some (i, 0)) i3 0 i2 0 h' := by
   intro hgo
   ·skip
    apply Zbi.A5x0i
    rcases hst with ⟨hb, hno⟩ | ⟨hb, hkk, rfl, hq, ps, vs, hps, hvs, hok, hdr, hj, hv2, hrep⟩
    ·subst hb
     have hend := Zuq hil hK hgi hk1 hi2 hl2 hne hi3 (.inr ⟨rfl, hno⟩)
     refine Zap (fun _ => ?_) (fun _ => hend)
     unfold rdr at hgi
     simp only [Zaw, Zat hgi, Nat.zero_add, List.getElem?_cons_zero, List.getElem?_cons_succ, Zam, Bool.not_true, Zbh]
     exact hend
    ·subst hb
     have hqa : (n : Int) = arN c := by have : ¬ (n : Int) < arN c := fun hlt => hgo ⟨rfl, hlt⟩; omega
     obtain ⟨t, htok, hthd, htps⟩ := Yto (c := c) hok (by omega)
     have hrT : Zgv (fun x => Btw h.length h'.length x ∧ x ≠ i2) h' t [.int .u8 (c : Int), .slice (some (j, 0)) n cp e] := by
      rw [← hthd]
      refine Zgv.make (vs := vs) (by rw [htps]; exact hps.symm) ⟨⟨hlj, Own.lt hj⟩, fun e => hn2 e.symm⟩ hj hvs fun kk v x hv hx => ?_
      rw [htps] at hx
      obtain ⟨lo, hi, h1, h2, h3, h4, h5, h6⟩ := hrep kk v x hv hx
      exact h6.mono fun z hz => ⟨⟨by have := hz.1; omega, by have := hz.2; omega⟩, by have := hz.1; omega⟩
     have hno : (∀ r, s.drop k1 ≠ (if t.ps = [] then r else 41 :: r)) → ∀ t' r, ¬ Zgz (s.drop k) t' r := by
      intro hx t' r ho
      rw [hdr] at ho
      have h1 := Ty.ok_ar ho.1
      have hhd : t'.hd = c := by
       obtain ⟨r', hr⟩ := t'.txt_cons
       have := ho.2; rw [hr] at this; simp at this; exact this.1.symm
      rw [hhd] at h1
      have := ho.step hok (by omega)
      have h3 := this.2.2.2 (by omega)
      have hemp : t'.ps = [] ↔ t.ps = [] := by
       rw [← List.length_eq_zero_iff, ← List.length_eq_zero_iff, htps]; omega
      simp only [hemp] at h3
      exact hx _ h3
     have hyes : ∀ r, s.drop k1 = (if t.ps = [] then r else 41 :: r) → Zgz (s.drop k) t r := by
      intro r hr
      refine ⟨htok, ?_⟩
      rw [Yrt, hthd, hdr, hr, htps]
     refine Zap (fun hpos => ?_) (fun hz => ?_)
     ·have hne0 : t.ps ≠ [] := by rw [htps]; intro e0; rw [e0] at hps; simp at hps; omega
      simp only [if_neg hne0] at hno hyes
      have hgi' := hgi
      unfold rdr at hgi'
      simp only [Zaw, Zat hgi', Nat.zero_add, List.getElem?_cons_zero, List.getElem?_cons_succ, Zam, Bool.not_false, Zcf]
      refine (Ydl hgi hk1 hs).mono ?_
      have hK2 : ∀ b' k2, Zjf i h (h'.set i (rdr s k2 b')) := fun b' k2 => hK.trans (Zjf.set _ _ _)
      have hin2 : i ≠ i2 := by omega
      have hin3 : i ≠ i3 := by omega
      have badEnd : ∀ k2, k2 ≤ s.length → (∀ r, s.drop k1 ≠ 41 :: r) → Zbi.J12 (Zwg i s k h) i3 0 i2 0 (h'.set i (rdr s k2 true)) := fun k2 hk2 hx =>
       Zuq hil (hK2 _ _) (Zcy hgi) hk2 (by rw [Zbz hin2]; exact hi2) hl2 hne (by rw [Zbz hin3]; exact hi3) (.inr ⟨rfl, hno hx⟩)
      rintro v h2 (⟨d, hd, hlt, rfl, rfl⟩ | ⟨hnil, rfl, rfl⟩)
      ·simp only [Zau]
       have hg2 : (h'.set i (rdr s (k1 + 1) false))[i]? = some (.cells Zde [.str s, .int .i64 ((k1 + 1 : Nat) : Int), .bool false] false) := Zcy hgi
       refine Zgw (fun hne41 => ?_) (fun he41 => ?_)
       ·try simp only [Zaw]
        rw [Zca hg2 (by simp)]
        simp only [Zay]
        have := badEnd (k1 + 1) (by omega) (fun r hr => by rw [hd] at hr; simp at hr; omega)
        simpa [rdr, putRow, List.set_set] using this
       ·have hd41 : d = 41 := by omega
        try simp only [Zaw]
        rw [Zat hg2]
        simp only [Nat.zero_add, List.getElem?_cons_zero, List.getElem?_cons_succ, Zam]
        rw [Zca hg2 (by simp)]
        simp only [Zay]
        have := Zuq (bad := false) (k1 := k1 + 1) hil (hK2 false (k1 + 1)) (Zcy hgi) (by omega) (by rw [Zbz hin2]; exact hi2) hl2 hne (by rw [Zbz hin3]; exact hi3)
         (.inl ⟨rfl, t, hyes _ (by rw [hd, hd41]), Zgv.mono (fun z hz => by simpa using hz) (hrT.agree fun z hz => Zbz (by have := hz.1.1; omega))⟩)
        simpa [rdr, putRow, List.set_set] using this
      ·simp only [Zau]
       have hg2 : (h'.set i (rdr s k1 true))[i]? = some (.cells Zde [.str s, .int .i64 (k1 : Int), .bool true] false) := Zcy hgi
       simp only [show ((0 : Int) == 41) = false from rfl, Bool.not_false, Zcf, Zaw]
       rw [Zca hg2 (by simp)]
       simp only [Zay]
       have := badEnd k1 hk1 (fun r hr => by rw [hnil] at hr; cases hr)
       simpa [rdr, putRow, List.set_set] using this
     ·have he0 : t.ps = [] := by rw [htps]; exact List.eq_nil_of_length_eq_zero (by omega)
      refine Zuq hil hK hgi hk1 hi2 hl2 hne hi3 (.inl ⟨rfl, t, hyes _ (by rw [if_pos he0]), hrT⟩)
  unfold Zbi.L5t
  have hgi' := hgi
  unfold rdr at hgi'
  refine Zap (fun hlt => ?_) (fun hge => over fun hx => hge hx.2)
  simp only [Zaw, Zat hgi', Nat.zero_add, List.getElem?_cons_zero, List.getElem?_cons_succ, Zam]
  refine Zcc (fun hb => ?_) (fun hb => over fun hx => by rw [hb] at hx; cases hx.1)
  subst hb
  rcases hst with ⟨hb, _⟩ | ⟨_, hkk, rfl, hq, ps, vs, hps, hvs, hok, hdr, hj, hv2, hrep⟩
  ·cases hb
  have hin2 : i ≠ i2 := by omega
  have hin3 : i ≠ i3 := by omega
  have hn2' : n < 2 := by omega
  have hstep : ∀ t r, Zgz (s.drop k) t r → ∃ p s', s.drop k1 = Zoz n :: s' ∧ ∃ r', Zgz s' p r' := by
   intro t r ho
   rw [hdr] at ho
   have h1 := Ty.ok_ar ho.1
   have hhd : t.hd = c := by
    obtain ⟨r', hr⟩ := t.txt_cons
    have := ho.2; rw [hr] at this; simp at this; exact this.1.symm
   rw [hhd] at h1
   have := ho.step hok (by omega)
   rw [← hps]
   exact this.2.2.1 (by omega)
  apply Zbi.J7i
  refine ⟨⟨by omega, by simp; omega⟩, ?_⟩
  have hmk : ([40, 44] : List Nat).getD ((n : Int).toNat) 0 = Zoz n := by
   rw [Int.toNat_natCast]
   rcases n with _ | _ | n
   ·rfl
   ·rfl
   ·omega
  rw [hmk]
  refine (Ydl hgi hk1 hs).mono ?_
  have badGo : ∀ k2, k2 ≤ s.length → (∀ t r, ¬ Zgz (s.drop k) t r) → Zbi.J8 (Zwg i s k h) R (some (i, 0)) i3 0 (n : Int) (arN c) i2 0 (h'.set i (rdr s k2 true)) := by
   intro k2 hk2 hno
   apply Zbi.J8i
   have hg := Zcy (x := rdr s k2 true) hgi
   have hg' : (h'.set i (rdr s k2 true))[i]? = some (.cells Zde [.str s, .int .i64 (k2 : Int), .bool true] false) := hg
   simp only [Zaw]
   rw [Zat hg']
   simp only [Nat.zero_add, List.getElem?_cons_zero, List.getElem?_cons_succ, Zam, Bool.not_true, Zbh]
   apply Zbi.J6i
   rw [IntWalk.i64_in _ (by omega)]
   refine hR (n + 1) _ _ (by omega) ⟨by omega, true, k2, n, cp, e, j, hK.trans (Zjf.set _ _ _), hg, hk2, by rw [Zbz hin2]; exact hi2, by rw [Zbz hin3]; exact hi3, hlj, hn2, hn3, by simp; omega, by simp; omega, .inl ⟨rfl, hno⟩⟩
  rintro v h2 (⟨d, hd, hlt1, rfl, rfl⟩ | ⟨hnil, rfl, rfl⟩)
  ·simp only [Zau]
   have hg3 := Zcy (x := rdr s (k1 + 1) false) hgi
   have hg2 : (h'.set i (rdr s (k1 + 1) false))[i]? = some (.cells Zde [.str s, .int .i64 ((k1 + 1 : Nat) : Int), .bool false] false) := hg3
   refine Zgw (fun hne1 => ?_) (fun he1 => ?_)
   ·simp only [Zaw]
    rw [Zca hg2 (by simp)]
    simp only [Zay]
    have := badGo (k1 + 1) (by omega) (fun t r ho => by
     obtain ⟨p, s', hx, _⟩ := hstep t r ho
     rw [hd] at hx; simp at hx; omega)
    simpa [rdr, putRow, List.set_set] using this
   ·have hdm : d = Zoz n := by omega
    simp only [Zaw]
    rw [Zat hg2]
    simp only [Nat.zero_add, List.getElem?_cons_zero, List.getElem?_cons_succ, Zam]
    rw [Zca hg2 (by simp)]
    simp only [Zay]
    have hsame : (h'.set i (rdr s (k1 + 1) false)).set i (Zci.cells Zde (putRow [Zaq.str s, Zaq.int .i64 ((k1 + 1 : Nat) : Int), Zaq.bool false] 2 [Zaq.bool false]) false) = h'.set i (rdr s (k1 + 1) false) := by
     simp [rdr, putRow, List.set_set]
    rw [hsame]
    apply Zbi.J8i
    simp only [Zaw]
    rw [Zat hg2]
    simp only [Nat.zero_add, List.getElem?_cons_zero, List.getElem?_cons_succ, Zam, Bool.not_false, Zcf]
    have hi3a : (h'.set i (rdr s (k1 + 1) false))[i3]? = some (.cells Zac [.int .u8 (c : Int), .slice (some (j, 0)) n cp e] false) := by rw [Zbz hin3]; exact hi3
    rw [Zat hi3a]
    simp only [List.getElem?_cons_zero, List.getElem?_cons_succ, Zaf]
    refine (ih (k1 + 1) (by omega) (by omega) _ hg3).mono ?_
    rintro v h3 ⟨hK3, d3, a3, n3, c3, e3, k3, bad3, rfl, hg4, hk3, hres⟩

    have hl3 := hK3.le
    simp only [List.length_set] at hl3
    have hold3 : ∀ z, z < h'.length → z ≠ i → h3[z]? = h'[z]? := fun z hz hzi => by rw [hK3.eq z (by simpa using hz) hzi, Zbz (by omega)]
    have hi33 : h3[i3]? = some (.cells Zac [.int .u8 (c : Int), .slice (some (j, 0)) n cp e] false) := by rw [hold3 _ hl3' (by omega)]; exact hi3
    have hj3 : h3[j]? = some (.cells Zac vs.flatten false) := by rw [hold3 _ (Own.lt hj) (by omega)]; exact hj
    simp only [Zdq, Zah, Zau, Zaf, Zar]
    refine ⟨by rw [Zat hi33]; rfl, ?_⟩
    simp only [Zav]
    refine ⟨by rw [Zat (Zom hi33), Zat hi33], ?_⟩
    refine (Vec.mk1 hj3).pushN Ygw Yni Yof Ynr (by rw [Yoa hv2, hvs]) rfl (by omega) (by simp [Zaq.leaf]) (by omega) (fun h4 hl4 hi4 hk4 => ?_)
    simp only [Zaf]
    have hold4 : ∀ z, z < h3.length → z ≠ j → h4[z]? = h3[z]? := fun z hz hzj => hk4 z hz fun w hw => by cases hw; exact hzj
    have hi34 : h4[i3]? = some (.cells Zac [.int .u8 (c : Int), .slice (some (j, 0)) n cp e] false) := by rw [hold4 _ (by omega) hn3]; exact hi33
    rw [Zca hi34 (by simp)]
    simp only [Zay]
    apply Zbi.J6i
    rw [IntWalk.i64_in _ (by omega)]
    have hiL : i < h'.length := Own.lt hgi
    have hold5 : ∀ (x : Zci) z, z ≠ i3 → z ≠ j → z < h3.length → (h4.set i3 x)[z]? = h3[z]? := fun x z h1 h2 h3 => by rw [Zbz (by omega), hold4 _ h3 h2]
    refine hR (n + 1) _ _ (by omega) ⟨by omega, bad3, k3, n + 1, n + 1, false, h3.length + 1, ?_, ?_, hk3, ?_, ?_, by omega, by omega, by omega, by simp; omega, by simp; omega, ?_⟩
    ·refine ⟨by simp; have := hK.le; omega, fun z hz hzi => ?_⟩
     have := hK.le
     rw [hold5 _ _ (by omega) (by omega) (by omega), hold3 _ (by omega) hzi]; exact hK.eq z hz hzi
    ·rw [hold5 _ _ hin3 (by omega) (by omega)]; exact hg4
    ·rw [hold5 _ _ hne hn2 (by omega), hold3 _ hl2' (by omega)]; exact hi2
    ·rw [Zcy hi34]; simp [putRow]
    ·rcases hres with ⟨hb3, t, ho, hr⟩ | ⟨hb3, hno⟩
     ·refine .inr ⟨hb3, ?_, rfl, by omega, ps ++ [t], vs ++ [[.int .u8 (d3 : Int), .slice a3 n3 c3 e3]], by simp [hps], by simp [hvs], ?_, ?_, ?_, ?_, ?_⟩
      ·have := ho.2
       have hl := congrArg List.length this
       simp at hl; have := t.txt_pos; omega
      ·intro p hp
       rcases List.mem_append.1 hp with hp | hp
       ·exact hok p hp
       ·simp at hp; subst hp; exact ho.1
      ·rw [hdr, hd, hdm, ho.2]
       match ps, hps, hn2' with
       | [], hps, _ => subst hps; simp [Zzw, Zoz]
       | [x], hps, _ => subst hps; simp [Zzw, Zoz]
       | x :: y :: l, hps, _ => simp at hps; omega
      ·rw [Zbz (by omega), hi4, Yku]
      ·intro v hv
       rcases List.mem_append.1 hv with hv | hv
       ·exact hv2 v hv
       ·simp at hv; subst hv; rfl
      ·intro kk v x hv hx
       by_cases hkn : kk < n
       ·rw [List.getElem?_append_left (by omega)] at hv hx
        obtain ⟨lo, hi, h1, h2, h2', h3', h4', h5⟩ := hrep kk v x hv hx
        refine ⟨lo, hi, h1, h2, h2', by simp; omega, fun hb => by have := hb.2; omega, h5.agree fun z hz => ?_⟩
        have := hz.1; have := hz.2
        rw [hold5 _ _ (by omega) (fun e => h4' (e ▸ hz)) (by omega), hold3 _ (by omega) (by omega)]
       ·have hk' : kk = n := by
         have := (List.getElem?_eq_some_iff.1 hv).1; simp at this; omega
        subst hk'
        rw [List.getElem?_append_right (by omega)] at hv hx
        simp [hps, hvs] at hv hx
        subst hv; subst hx
        refine ⟨h'.length, h3.length, by have := hK.le; omega, by omega, by omega, by simp; omega, fun hb => by have := hb.2; omega, ?_⟩
        have hr' : Zgv (Btw h'.length h3.length) h3 t [.int .u8 (d3 : Int), .slice a3 n3 c3 e3] := by simpa using hr
        refine hr'.agree fun z hz => ?_
        have := hz.1; have := hz.2; have := Own.lt hj
        rw [hold5 _ _ (by omega) (by omega) (by omega)]
     ·refine .inl ⟨hb3, fun t r ho => ?_⟩
      obtain ⟨p, s', hx, r', ho'⟩ := hstep t r ho
      rw [hd] at hx; simp at hx
      rw [← hx.2] at ho'
      exact hno _ _ ho'
  ·simp only [Zau]
   have hg2 : (h'.set i (rdr s k1 true))[i]? = some (.cells Zde [.str s, .int .i64 (k1 : Int), .bool true] false) := Zcy hgi
   refine Zgw (fun _ => ?_) (fun he1 => by exfalso; unfold Zoz at he1; split at he1 <;> omega)
   simp only [Zaw]
   rw [Zca hg2 (by simp)]
   simp only [Zay]
   have := badGo k1 hk1 (fun t r ho => by
    obtain ⟨p, s', hx, _⟩ := hstep t r ho
    rw [hnil] at hx; cases hx)
   simpa [rdr, putRow, List.set_set] using this
 ·rcases hcase with ⟨hb, hkk, hdr, ha⟩ | hb
  ·exact .inr ⟨hb, hkk, rfl, by simpa using ha, [], [], rfl, rfl, by simp, by simpa [Zzw] using hdr, by simpa using hj0, by simp, by simp⟩
  ·exact .inl hb

theorem Ypq {s : List Nat} (hs : s.length ≤ 9223372036854775807) (i : Nat) : ∀ (N k : Nat), s.length - k ≤ N → k ≤ s.length → ∀ (h : Zaa), h[i]? = some (rdr s k false) →
  Zae pg Zed [.ptr (some (i, 0))] h (Zwg i s k h) := by
 intro N
 induction N using Nat.strongRecOn with
 | _ N ihN =>
 intro k hN hk h hi
 have hil := Own.lt hi
 have ih : ∀ k', k < k' → k' ≤ s.length → ∀ (h : Zaa), h[i]? = some (rdr s k' false) → Zae pg Zed [.ptr (some (i, 0))] h (Zwg i s k' h) :=
  fun k' h1 h2 => ihN (s.length - k') (by omega) k' (Nat.le_refl _) h2
 apply Zbi.call
 simp only [Zav]
 refine (Ydl (Zom hi) hk hs).mono ?_
 have main : ∀ (c k1 : Nat) (b1 : Bool), k1 ≤ s.length → ((b1 = false ∧ k < k1 ∧ s.drop k = c :: s.drop k1) ∨ (b1 = true ∧ arN c < 0 ∧ s.drop k = [])) → ∀ h2, h2 = (h ++ [Zci.cells Zac [.int .u8 0, .slice none 0 0 true] false]).set i (rdr s k1 b1) →
   Zcp (Zbn (h2 ++ [Zci.cells Zac [] false] ++ [Zci.cells Zac [.int .u8 0, .slice none 0 0 true] false]) (.ptr (some (List.length (h2 ++ [Zci.cells Zac [] false]), 0))) [.int .u8 (c : Int), .slice (some (List.length h2, 0)) 0 0 true]) fun h_6 => Zen .u8 (Zal h_6 (.ptr (some (List.length (h2 ++ [Zci.cells Zac [] false]), 0 + 0)))) fun x_7 => Zae pg Zkb [.int .u8 x_7] h_6 fun v_8 h_9 =>
    Zen .i64 (some v_8) fun x_10 => Zbl (some (i, 0)) fun i_11 o_12 => Zch (Zal h_9 (.ptr (some (i_11, o_12 + 2)))) fun b_13 => bcase b_13 (Zbl (some (i, 0)) fun i_14 o_15 => Zcp (Zbn h_9 (.ptr (some (i_14, o_15 + 2))) [.bool true]) fun h_16 => Zbi.J4 (Zwg i s k h) (some (i, 0)) (List.length h) 0 (List.length (h2 ++ [Zci.cells Zac [] false])) 0 x_10 h_16) (Zbl (some (i, 0)) fun i_17 o_18 => Zcp (Zbn h_9 (.ptr (some (i_17, o_18 + 2))) [.bool (decide ((x_10 : Int) < 0))]) fun h_19 => Zbi.J4 (Zwg i s k h) (some (i, 0)) (List.length h) 0 (List.length (h2 ++ [Zci.cells Zac [] false])) 0 x_10 h_19) := by
  intro c k1 b1 hk1 hc h2 hh2
  have hl2 : h2.length = h.length + 1 := by rw [hh2]; simp
  have hi2 : h2[i]? = some (rdr s k1 b1) := by rw [hh2]; exact Zcy (Zom hi)
  have hz2 : h2[h.length]? = some (.cells Zac [.int .u8 0, .slice none 0 0 true] false) := by rw [hh2, Zbz (by omega)]; simp
  have hK2 : Zjf i h h2 := by rw [hh2]; exact (Zjf.app i h _).trans (Zjf.set _ _ _)
  generalize hg : h2 ++ [Zci.cells Zac [] false] = g
  have hgl : g.length = h.length + 2 := by rw [← hg]; simp [hl2]
  have hgi : g[i]? = some (rdr s k1 b1) := by rw [← hg]; exact Zom hi2
  have hgz : g[h.length]? = some (.cells Zac [.int .u8 0, .slice none 0 0 true] false) := by rw [← hg]; exact Zom hz2
  have hga : g[h2.length]? = some (.cells Zac [] false) := by rw [← hg]; simp
  have hKg : Zjf i h g := by rw [← hg]; exact hK2.trans (Zjf.app i _ _)
  have hn : (g ++ [Zci.cells Zac [.int .u8 0, .slice none 0 0 true] false])[g.length]? = some (Zci.cells Zac [.int .u8 0, .slice none 0 0 true] false) := by simp
  rw [Zca hn (by simp)]
  simp only [Zay]
  rw [Zat (Zcy hn)]
  simp only [putRow, List.take_zero, List.nil_append, List.cons_append, Nat.add_zero, List.getElem?_cons_zero, Zau]
  refine (Yhh c).mono ?_
  rintro v h9 ⟨rfl, rfl⟩
  have hold : ∀ (x : Zci) z w, g[z]? = some w → ((g ++ [Zci.cells Zac [.int .u8 0, .slice none 0 0 true] false]).set g.length x)[z]? = some w := fun x z w hz => by rw [Zbz (by have := Own.lt hz; omega)]; exact Zom hz
  simp only [Zau, Zaw]
  have h9i := hold (Zci.cells Zac [.int .u8 (c : Int), .slice (some (List.length h2, 0)) 0 0 true] false) i _ hgi
  have h9i' : ((g ++ [Zci.cells Zac [.int .u8 0, .slice none 0 0 true] false]).set g.length (Zci.cells Zac [.int .u8 (c : Int), .slice (some (List.length h2, 0)) 0 0 true] false))[i]? = some (.cells Zde [.str s, .int .i64 (k1 : Int), .bool b1] false) := h9i
  rw [show (Zaq.int IntKind.u8 (c : Int) :: Zaq.slice (some (List.length h2, 0)) 0 0 true :: List.drop (0 + [Zaq.int IntKind.u8 (c : Int), Zaq.slice (some (List.length h2, 0)) 0 0 true].length) [Zaq.int IntKind.u8 0, Zaq.slice none 0 0 true]) = [.int .u8 (c : Int), .slice (some (List.length h2, 0)) 0 0 true] from rfl]
  have tail : ∀ b2, ((b2 = false ∧ k < k1 ∧ s.drop k = c :: s.drop k1 ∧ 0 ≤ arN c) ∨ (b2 = true ∧ ∀ t r, ¬ Zgz (s.drop k) t r)) → ∀ g2, g2 = (((g ++ [Zci.cells Zac [.int .u8 0, .slice none 0 0 true] false]).set g.length (Zci.cells Zac [.int .u8 (c : Int), .slice (some (List.length h2, 0)) 0 0 true] false)).set i (rdr s k1 b2)) →
    Zbi.J4 (Zwg i s k h) (some (i, 0)) (List.length h) 0 (List.length g) 0 (arN c) g2 := by
   intro b2 hb g2 hg2
   refine Yqv hs hil ih (c := c) (k1 := k1) (bad := b2) (j0 := h2.length) ?_ ?_ hk1 (Nat.le_refl _) (by omega) (by omega) (by omega) (by omega) (by omega) ?_ ?_ ?_ hb
   ·rw [hg2]; exact ((hKg.trans (Zjf.app i _ _)).trans' (fun j hj => Zbz (by omega))).trans (Zjf.set _ _ _)
   ·rw [hg2]; exact Zcy h9i
   ·rw [hg2, Zbz (by omega)]; exact hold _ _ _ hgz
   ·rw [hg2, Zbz (by omega)]; exact Zcy hn
   ·rw [hg2, Zbz (by omega)]; exact hold _ _ _ hga
  rw [Zat h9i']
  simp only [Nat.zero_add, List.getElem?_cons_zero, List.getElem?_cons_succ, Zam]
  rw [Zca h9i' (by simp), Zca h9i' (by simp)]
  simp only [Zay]
  rcases hc with ⟨rfl, h1, h2'⟩ | ⟨rfl, h1, h2'⟩
  ·simp only [Zbh]
   by_cases ha : arN c < 0
   ·refine tail true (.inr ⟨rfl, ?_⟩) _ (by simp [rdr, putRow, ha])
    intro t r ho
    have h3 := Ty.ok_ar ho.1
    have hhd : t.hd = c := by
     obtain ⟨r', hr⟩ := t.txt_cons
     have := ho.2; rw [hr, h2'] at this; simp at this; exact this.1.symm
    rw [hhd] at h3; omega
   ·exact tail false (.inl ⟨rfl, h1, h2', by omega⟩) _ (by simp [rdr, putRow, ha])
  ·simp only [Zcf]
   refine tail true (.inr ⟨rfl, ?_⟩) _ (by simp [rdr, putRow])
   intro t r ho
   rw [h2'] at ho; exact Zgz.nil ho
 rintro v h2 (⟨c, hd, hlt, rfl, hh⟩ | ⟨hnil, rfl, hh⟩)
 ·simp only [Zau]
  exact main c (k + 1) false (by omega) (.inl ⟨rfl, by omega, hd⟩) h2 hh
 ·simp only [Zau]
  exact main 0 k true hk (.inr ⟨rfl, by decide, hnil⟩) h2 hh

theorem Zoy (s : List Nat) (hs : s.length ≤ 9223372036854775807) (h : Zaa) : Zae pg Zft [.str s] h fun v h' => Zba h.length h h' ∧ ∃ vs : List Zaq, v = .tup [.agg vs, .bool (Znr s)] ∧
  (match Zif s with | some t => Zgv (Btw h.length h'.length) h' t vs | none => vs = [.int .u8 0, .slice none 0 0 true]) := by
 apply Zod.call
 simp only [Zav]
 generalize hg : h ++ [Zci.cells Zac [.int .u8 0, .slice none 0 0 true] false] = g
 have hgl : g.length = h.length + 1 := by rw [← hg]; simp
 have hgz : g[h.length]? = some (.cells Zac [.int .u8 0, .slice none 0 0 true] false) := by rw [← hg]; simp
 have hgs : Zba h.length h g := by rw [← hg]; exact Zba.app (Nat.le_refl _) _
 have hr : (g ++ [Zci.cells Zde [.str s, .int .i64 0, .bool false] false])[g.length]? = some (rdr s 0 false) := by simp [rdr]
 refine (Ypq hs g.length _ 0 (Nat.le_refl _) (Nat.zero_le _) _ hr).mono ?_
 rintro v h3 ⟨hK, d, a, n, c, e, k', bad, rfl, hi, hk', hres⟩
 simp only [Zdq, Zah, Zau, Zaf, Zar, Zav]
 have hl3 := hK.le
 simp at hl3
 have hz3 : h3[h.length]? = some (.cells Zac [.int .u8 0, .slice none 0 0 true] false) := by rw [hK.eq _ (by simp; omega) (by omega)]; exact Zom hgz
 have hs3 : Zba h.length h h3 := ⟨by omega, fun j hj => by rw [hK.eq _ (by simp; omega) (by omega), Yce (by omega)]; exact hgs.eq j hj⟩
 have hn : (h3 ++ [Zci.cells Zac [.int .u8 0, .slice none 0 0 true] false])[h3.length]? = some (.cells Zac [.int .u8 0, .slice none 0 0 true] false) := by simp
 rw [Zca hn (by simp)]
 simp only [Zay]
 generalize h5e : (h3 ++ [Zci.cells Zac [.int .u8 0, .slice none 0 0 true] false]).set h3.length (.cells Zac (putRow [.int .u8 0, .slice none 0 0 true] 0 [.int .u8 (d : Int), .slice a n c e]) false) = h5
 have h5o : ∀ z, z < h3.length → h5[z]? = h3[z]? := fun z hz => by rw [← h5e, Zbz (by omega), Yce hz]
 have h5l : h5.length = h3.length + 1 := by rw [← h5e]; simp
 have h5n : h5[h3.length]? = some (.cells Zac [.int .u8 (d : Int), .slice a n c e] false) := by rw [← h5e, Zcy hn]; simp [putRow]
 have h5i : h5[g.length]? = some (.cells Zde [.str s, .int .i64 (k' : Int), .bool bad] false) := by rw [h5o _ (Own.lt hi)]; exact hi
 have h5z : h5[h.length]? = some (.cells Zac [.int .u8 0, .slice none 0 0 true] false) := by rw [h5o _ (Own.lt hz3)]; exact hz3
 have h5s : Zba h.length h h5 := ⟨by omega, fun j hj => by rw [h5o _ (by omega)]; exact hs3.eq j hj⟩
 rw [Zat h5i]
 simp only [Nat.zero_add, List.getElem?_cons_zero, List.getElem?_cons_succ, Zam]
 have fail : Zif s = none → Zcp (Zbn h5 (.ptr (some (List.length h, 0))) [.int .u8 0, .slice none 0 0 true]) fun h_17 => Zcz (Zbx h_17 (.ptr (some (List.length h, 0))) 2) fun cs_18 => Zao cs_18 fun c_19 r_20 => Zen .u8 (some c_19) fun x_21 => Zao r_20 fun c_22 r_23 => xSl (some c_22) fun a_24 n_25 c_26 e_27 => Zcl r_23 (Zba h.length h h_17 ∧ ∃ vs : List Zaq, (Zaq.tup [.agg [.int .u8 x_21, .slice a_24 n_25 c_26 e_27], .bool false]) = .tup [.agg vs, .bool (Znr s)] ∧
  (match Zif s with | some t => Zgv (Btw h.length h_17.length) h_17 t vs | none => vs = [.int .u8 0, .slice none 0 0 true])) := by
  intro hno
  rw [Zca h5z (by simp)]
  simp only [Zay]
  rw [Zeb (Zcy h5z) (by simp [putRow])]
  simp only [putRow, List.take_zero, List.nil_append, List.length_cons, List.length_nil, List.cons_append, List.drop_succ_cons, List.drop_zero, List.drop_nil, List.append_nil, List.take_succ_cons, Zas, Zah, Zau, Zaf, Zar]
  refine ⟨⟨by simp; omega, fun j hj => by rw [Zbz (by omega)]; exact h5s.eq j hj⟩, _, by simp only [Znr, hno]; rfl, by rw [hno]⟩
 rw [List.drop_zero] at hres
 rcases hres with ⟨rfl, t, ho, hrep⟩ | ⟨rfl, hno⟩
 ·simp only [Zbh, Zat h5i, Nat.zero_add, List.getElem?_cons_zero, List.getElem?_cons_succ, Zau]
  refine Zgw (fun hne => fail ?_) (fun he => ?_)
  ·unfold Zif
   split
   ·exact Zqc.2 fun t' ht' e' => by
     have := (ho.unique ⟨ht', show s = t'.txt ++ [] by simpa using e'⟩).2
     have := congrArg List.length this
     simp at this; omega
   ·rfl
  ·have hk : k' = s.length := by omega
   subst hk
   rw [List.drop_length] at ho
   have hs' : s = t.txt := by simpa using ho.2
   refine Zap (fun hl => fail ?_) (fun hl => ?_)
   ·unfold Zif; rw [if_neg (by omega)]
   ·have hof : Zif s = some t := Zfc.2 ⟨ho.1, hs', by omega⟩
    apply Zod.J5i
    rw [Zeb h5n (by simp)]
    simp only [List.drop_zero, List.take_succ_cons, List.take_zero, Zas, Zah, Zau, Zaf, Zar]
    rw [Zca h5z (by simp)]
    simp only [Zay]
    rw [Zeb (Zcy h5z) (by simp [putRow])]
    simp only [putRow, List.take_zero, List.nil_append, List.length_cons, List.length_nil, List.cons_append, List.drop_succ_cons, List.drop_zero, List.drop_nil, List.append_nil, List.take_succ_cons, Zas, Zah, Zau, Zaf, Zar]
    refine ⟨⟨by simp; omega, fun j hj => by rw [Zbz (by omega)]; exact h5s.eq j hj⟩, _, by simp only [Znr, hof]; rfl, ?_⟩
    rw [hof]
    refine Zgv.mono (S := Btw (g ++ [Zci.cells Zde [.str s, .int .i64 0, .bool false] false]).length h3.length) (fun z hz => ⟨by have := hz.1; simp at this; omega, by have := hz.2; simp; omega⟩) (hrep.agree fun z hz => ?_)
    have h1 := hz.1; have h2 := hz.2
    simp at h1
    rw [Zbz (by omega), h5o _ h2]
 ·simp only [Zcf]
  refine fail ?_
  unfold Zif
  split
  ·exact Zqc.2 fun t' ht' e' => hno t' [] ⟨ht', by simpa using e'⟩
  ·rfl
theorem Zim (s : List Nat) (hs : s.length ≤ 9223372036854775807) (h : Zaa) : Zae pg Zep [.str s] h fun v h' => v = .bool (Znr s) ∧ Zba h.length h h' := by
 apply Zou.call
 refine (Zoy s hs h).mono ?_
 rintro v h1 ⟨hS, vs, rfl, hm⟩
 have hvs : ∃ (d : Int) (a : Pt) (n c : Nat) (e : Bool), vs = [.int .u8 d, .slice a n c e] := by
  split at hm
  ·obtain ⟨a, c, e, rfl⟩ := hm.shape; exact ⟨_, _, _, _, _, rfl⟩
  ·exact ⟨_, _, _, _, _, hm⟩
 obtain ⟨d, a, n, c, e, rfl⟩ := hvs
 simp only [Zcx, Zah, Zdq, Zau, Zaf, Zar, Zam, Zav]
 have hn : (h1 ++ [Zci.cells Zac [.int .u8 0, .slice none 0 0 true] false])[h1.length]? = some (.cells Zac [.int .u8 0, .slice none 0 0 true] false) := by simp
 rw [Zca hn (by simp)]
 simp only [Zay]
 exact ⟨by trivial, hS.trans ((Zba.app hS.le _).trans (Zba.set hS.le _))⟩
end Go.Sim

set_option linter.unusedVariables false
namespace Go.Sim
open Go Go.RowKit

theorem c9 : pg.cellsOf Zaz = 1 := by kernel_rfl
theorem b9 : pg.bytesOf Zaz = 16 := by kernel_rfl

theorem Zni {k n : Nat} (h : k < n) (hn : n ≤ 4611686018427387904) : IntKind.wrap .i64 ((k : Int) + 1) = ((k + 1 : Nat) : Int) := by rw [IntWalk.i64_in _ (by omega)]; omega

def Yui (k : Nat) (acc : List Nat) : List Nat := if h : k = 0 then acc else Yui (k / 10) ((48 + k % 10) :: acc)
 termination_by k
 decreasing_by omega
def Yrk (k : Int) : List Nat := if k ≤ 0 then [109, 48] else 109 :: Yui k.toNat []
theorem Yhx {h : Zaa} {t : TypeId} {cs : List Zaq} {n : Nat} (hn : cs.length = n) : rowOf (h ++ [.cells t cs false]) (some (h.length, 0)) n = some cs := by
 subst hn
 exact (Own.row (b := 0) (t := t) ⟨h.length, rfl, by omega, by simp⟩).rowOf
theorem Yaa {h : Zaa} {t : TypeId} {v : Zaq} : rowOf (h ++ [.cells t [v] false]) (some (h.length, 0)) 1 = some [v] := Yhx rfl
theorem Znk {h : Zaa} {i : Nat} {x y : Zci} (hi : h[i]? = some y) : (h.set i x)[i]? = some x := by
 have := Own.lt hi
 simp [this]
def Yld (k : Int) (n : Nat) : List (List Nat) := (List.range n).map fun (j : Nat) => Yrk (k + j)
@[simp] theorem Ypd (k : Int) (n : Nat) : (Yld k n).length = n := by simp [Yld]
theorem Yqy (k : Int) (n : Nat) : Yld k (n + 1) = Yld k n ++ [Yrk (k + n)] := by simp [Yld, List.range_succ]

end Go.Sim

set_option linter.unusedVariables false
namespace Go.Sim
open Go Go.RowKit

def sp (l : List (List Nat)) : List Nat := [32].intercalate l
end Go.Sim

set_option linter.unusedVariables false
set_option linter.unusedSimpArgs false
set_option maxRecDepth 20000
namespace Go.Sim
open Go Go.RowKit

theorem Zph {u : Nat} (h : u < 10) : Ycg u = [48 + u] := by
 unfold Ycg Lib.decDigits
 rw [dif_pos h]
 simp [UInt8.toNat_ofNat']; omega
theorem Ydf {u : Nat} (h : ¬ u < 10) : Ycg u = Ycg (u / 10) ++ [48 + u % 10] := by
 unfold Ycg
 conv => lhs; unfold Lib.decDigits
 rw [dif_neg h]
 simp [UInt8.toNat_ofNat']; omega
theorem Yex : ∀ (k u : Nat), u < 10 ^ (k + 1) → (Ycg u).length ≤ k + 1 := by
 intro k
 induction k with
 | zero => intro u h; rw [Zph (by omega)]; simp
 | succ k ih =>
  intro u h
  by_cases hu : u < 10
  ·rw [Zph hu]; simp
  ·rw [Ydf hu]
   have := ih (u / 10) (by rw [Nat.pow_succ] at h; omega)
   simp; omega
theorem Yal {z : Int} (h : z < 0) : Zcw z = 45 :: Ycg z.natAbs := by unfold Zcw Lib.itoa Ycg; rw [if_pos h]; rfl
theorem Zrn {z : Int} (h : ¬ z < 0) : Zcw z = Ycg z.toNat := by unfold Zcw Lib.itoa Ycg; rw [if_neg h]
theorem Ynj {h : Zaa} {z : Int} (h0 : 0 ≤ z) (h1 : z ≤ 9223372036854775807) : Zfv.L6 (fun v h' => v = .str (Ycg z.toNat) ∧ Zba h.length h h') z [] h := by
 refine Zfv.L6ind _ (J := fun (g : Nat) x0 x3 h' => x0 = (g : Int) ∧ Zba h.length h h' ∧ Ycg g ++ x3 = Ycg z.toNat ∧ (g : Int) ≤ z) (fun g => g) ?_ z.toNat _ _ _ ⟨by omega, Zba.refl _ _, by simp, by omega⟩
 rintro g x0 x3 h' ⟨rfl, hs, hd, hb⟩ R hR
 have hl : x3.length ≤ 20 := by
  have h2 := congrArg List.length hd
  rw [List.length_append] at h2
  have := Yex 18 z.toNat (by omega); omega
 unfold Zfv.L6t
 refine Zap (fun hlt => ?_) (fun hge => ?_)
 ·have h1 : Int.tmod (g : Int) 10 = ((g % 10 : Nat) : Int) := by rw [Int.tmod_eq_emod_of_nonneg (by omega)]; omega
  have h2 : Int.tdiv (g : Int) 10 = ((g / 10 : Nat) : Int) := by rw [Int.tdiv_eq_ediv_of_nonneg (by omega)]; omega
  rw [h1, h2, IntWalk.i64_in _ (by omega), IntWalk.u8_in _ (by omega), IntWalk.i64_in _ (by omega)]
  simp only [Zav, Yaa, Zas]
  refine ⟨by omega, ?_⟩
  simp only [Zlb, chk, decide_true]
  refine ⟨by omega, by simp; omega, by omega, hR (g / 10) _ _ _ (by omega) ⟨rfl, hs.trans (Zba.app hs.le _), ?_, by omega⟩⟩
  rw [← hd, Ydf (u := g) (by omega), show (48 + ((g % 10 : Nat) : Int)).toNat = 48 + g % 10 by omega]
  simp
 ·apply Zfv.A6x0i
  rw [IntWalk.i64_in _ (by omega), IntWalk.u8_in _ (by omega)]
  simp only [Zav, Yaa, Zas, Zlb, chk, decide_true]
  refine ⟨by omega, by simp; omega, ?_, hs.trans (Zba.app hs.le _)⟩
  rw [← hd, Zph (u := g) (by omega), show (48 + (g : Int)).toNat = 48 + g by omega]
theorem Ybu {h : Zaa} {z : Int} (h0 : -9223372036854775808 ≤ z) (h1 : z ≤ 9223372036854775807) : Zae pg Zgu [.int .i64 z] h fun v h' => v = .str (Zcw z) ∧ Zba h.length h h' := by
 have pos : ∀ (z : Int) (h : Zaa), 0 ≤ z → z ≤ 9223372036854775807 → Zae pg Zgu [.int .i64 z] h fun v h' => v = .str (Ycg z.toNat) ∧ Zba h.length h h' := by
  intro z h h0 h1
  apply Zfv.call
  refine Zap (fun hlt => by omega) (fun hge => Zap (fun hlt => by omega) (fun hge => Ynj h0 h1))
 by_cases hz : z < 0
 ·apply Zfv.call
  refine Zap (fun hlt => ?_) (fun hge => Zap (fun hlt => ?_) (fun hge => by omega))
  ·have : z = -9223372036854775808 := by omega
   subst this
   exact ⟨by rw [Yal (by omega)]; simp [Ydf, Zph], Zba.refl _ _⟩
  ·rw [IntWalk.i64_in _ (by omega)]
   refine (pos (0 - z) h (by omega) (by omega)).mono ?_
   rintro v h' ⟨rfl, hs⟩
   simp only [Zag]
   have := Yex 18 (0 - z).toNat (by omega)
   refine ⟨by simp only [List.length_cons, List.length_nil]; omega, ?_, hs⟩
   rw [Yal hz, show (0 - z).toNat = z.natAbs by omega]; rfl
 ·rw [Zrn hz]; exact pos z h (by omega) h1

end Go.Sim

set_option linter.unusedVariables false
set_option linter.unusedSimpArgs false
set_option maxRecDepth 20000
namespace Go.Sim
open Go Go.RowKit

end Go.Sim

set_option linter.unusedVariables false
namespace Go.Sim
open Go Go.RowKit

theorem Zvf {h : Zaa} {c t : List Nat} {x : Int} (hc : c.length ≤ 9223372036854775807) (ht : t.length ≤ 9223372036854775807) (hx : 0 ≤ x ∧ x ≤ 1048576) :
  Zae pg Zis [.agg [.str c, .str t], .int .i64 x] h fun v h' => ∃ y, v = .int .i64 y ∧ Zba h.length h h' ∧ (0 ≤ y → (c.length : Int) + t.length + y = x) := by
 apply Zrs.call
 simp only [Zav]
 have s1 : Zba h.length h (h ++ [.cells Zjz [.str c, .str t] false]) := Zba.app (Nat.le_refl _) _
 simp [Zal]
 rw [IntWalk.i64_in _ (by omega)]
 refine Zap (fun hlt => s1) (fun hge => ?_)
 rw [IntWalk.i64_in _ (by omega)]
 exact Zap (fun hlt => s1) (fun hge => ⟨s1, by omega⟩)
theorem Yil {h : Zaa} {c t : List Nat} (hb : c.length + t.length ≤ 1048576) :
  Zae pg Zjw [.agg [.str c, .str t]] h fun v h' => v = .str (c ++ [32] ++ t) ∧ Zba h.length h h' := by
 apply Znh.call
 simp only [Zav]
 have s1 : Zba h.length h (h ++ [.cells Zad [.str c, .str t] false]) := Zba.app (Nat.le_refl _) _
 simp [Zal]
 exact ⟨by omega, by omega, s1⟩
theorem Yka {h : Zaa} {c t : List Nat} (hb : c.length + t.length ≤ 1048576) :
  Zae pg Zjl [.agg [.str c, .str t]] h fun v h' => v = .str (c ++ [32] ++ t) ∧ Zba h.length h h' := by
 apply Zmz.call
 simp only [Zav]
 have s1 : Zba h.length h (h ++ [.cells Zad [.str c, .str t] false]) := Zba.app (Nat.le_refl _) _
 simp [Zal]
 exact ⟨by omega, by omega, s1⟩
theorem Yaw {h : Zaa} {c t c' t' : List Nat} :
  Zae pg Zks [.agg [.str c, .str t], .agg [.str c', .str t']] h fun v h' => v = .bool (decide (c = c') && decide (t = t')) ∧ Zba h.length h h' := by
 apply Zsm.call
 simp only [Zav]
 simp [Zal]
 by_cases e1 : c = c' <;> by_cases e2 : t = t' <;> simp [e1, e2] <;> exact Zba.app (Nat.le_refl _) _
theorem Zsg {h : Zaa} {c t : List Nat} :
  Zae pg Zgy [.agg [.str c, .str t]] h fun v h' => v = .agg [.str c, .str t] ∧ Zba h.length h h' := by
 apply Zsl.call
 simp only [Zav]
 simp [Zal, Zbn, Zbx, putRow, List.getElem?_append, List.getElem?_set]
 exact Zba.app (Nat.le_refl _) _

def prs (l : List (List Nat × List Nat)) : List Zaq := l.flatMap fun p => [.str p.1, .str p.2]
@[simp] theorem Ytl : prs [] = [] := rfl
@[simp] theorem Ymw (p : List Nat × List Nat) (l : List (List Nat × List Nat)) : prs (p :: l) = .str p.1 :: .str p.2 :: prs l := rfl
@[simp] theorem Yra (a b : List (List Nat × List Nat)) : prs (a ++ b) = prs a ++ prs b := by simp [prs]
theorem Zgc (l : List (List Nat × List Nat)) : (prs l).length = l.length * 2 := by
 induction l with
 | nil => rfl
 | cons p l ih => simp [ih]; omega
theorem Zzu : ∀ (l : List (List Nat × List Nat)) (k : Nat), (prs l).drop (k * 2) = prs (l.drop k)
 | l, 0 => by simp
 | [], k + 1 => by simp
 | p :: l, k + 1 => by rw [Nat.succ_mul]; simpa using Zzu l k
theorem Row.pair {b : Nat} {h : Zaa} {a : Pt} {n : Nat} {l : List (List Nat × List Nat)} (r : Row b h a (n * 2) (prs l)) {k : Nat} (hk : k < n) :
  ∃ i o, ∃ hk' : k < l.length, a = some (i, o) ∧ i < b ∧ Zbx h (.ptr (some (i, o + k * 2))) 2 = some [.str l[k].1, .str l[k].2] := by
 have hl : l.length = n := by have := r.1; rw [Zgc] at this; omega
 obtain ⟨_, r⟩ := r
 rcases r with h0 | ⟨i, o, t, all, ro, ha, hb, hi, hle, hcs⟩
 ·omega
 ·refine ⟨i, o, by omega, ha, hb, ?_⟩
  have hd : (all.drop (o + k * 2)).take 2 = [.str l[k].1, .str l[k].2] := by
   have h1 : ((all.drop o).take (n * 2)).drop (k * 2) = prs (l.drop k) := by rw [← hcs, Zzu]
   rw [List.drop_take, List.drop_drop] at h1
   have h2 : (all.drop (o + k * 2)).take 2 = ((all.drop (o + k * 2)).take (n * 2 - k * 2)).take 2 := by rw [List.take_take, Nat.min_eq_left (by omega)]
   rw [h2, h1, List.drop_eq_getElem_cons (by omega)]
   simp only [Ymw, List.take_succ_cons, List.take_zero]
  simp only [Zbx, hi]
  rw [if_pos (by omega), hd]

def Ybq (l : List (List Nat × List Nat)) : Nat := (l.map fun p => p.1.length + p.2.length).sum
theorem Zvj {l : List (List Nat × List Nat)} {g : Nat} (h : g < l.length) : Ybq (l.take (g + 1)) = Ybq (l.take g) + (l[g].1.length + l[g].2.length) := by
 unfold Ybq; rw [List.take_succ_eq_append_getElem h, List.map_append, List.sum_append]; simp
theorem Yaq (l : List (List Nat × List Nat)) (g : Nat) : Ybq (l.take g) ≤ Ybq l := by
 conv => rhs; rw [← List.take_append_drop g l]
 unfold Ybq; rw [List.map_append, List.sum_append]; omega
theorem Yfs {l : List (List Nat × List Nat)} {g : Nat} (h : g < l.length) : l[g].1.length + l[g].2.length ≤ Ybq l := by
 have := Zvj h; have := Yaq l (g + 1); omega
theorem Yhb {h : Zaa} {a : Pt} {n c : Nat} {e : Bool} {l : List (List Nat × List Nat)} (r : Row h.length h a (n * 2) (prs l)) (hs : ∀ p ∈ l, p.1.length ≤ 9223372036854775807 ∧ p.2.length ≤ 9223372036854775807) (hn : n ≤ 9223372036854775807) {Zgf : Int} (hl : 0 ≤ Zgf ∧ Zgf ≤ 1048576) :
  Zae pg Zmm [.slice a n c e, .int .i64 Zgf] h fun v h' => ∃ x, v = .int .i64 x ∧ Zba h.length h h' ∧ (0 ≤ x → (n : Int) + Ybq l + x = Zgf) := by
 have hll : l.length = n := by have := r.1; rw [Zgc] at this; omega
 apply Zhi.call
 rw [IntWalk.i64_in _ (by omega)]
 refine Zap (fun hlt => ?_) (fun hge => ?_)
 ·exact ⟨_, rfl, Zba.refl _ _, by omega⟩
 ·refine Zhi.L5ind _ _ _ _ _ (J := fun (g : Nat) x1 x5 h' => x5 = (g : Int) ∧ Zba h.length h h' ∧ g ≤ n ∧ 0 ≤ x1 ∧ x1 + n + Ybq (l.take g) = Zgf) (fun g => n - g) ?_ 0 _ 0 h ⟨rfl, Zba.refl _ _, by omega, by omega, by simp [Ybq]⟩
  rintro g x1 x5 h' ⟨rfl, hS, hg, h0, ht⟩ R hR
  unfold Zhi.L5t
  refine Zap (fun hlt => ?_) (fun hge => ?_)
  ·have hlt' : g < n := by omega
   obtain ⟨i, o, hgl, rfl, hi, hc⟩ := (r.same hS).pair hlt'
   have hsl := hs _ (List.getElem_mem hgl)
   simp only [Zaw, Int.toNat_natCast, hc, Zas, Zah, Zar, Zag]
   refine ⟨by omega, (Zvf hsl.1 hsl.2 (by omega)).mono fun v h1 ⟨y, hv, hs1, hy⟩ => ?_⟩
   subst hv
   simp only [Zau]
   have hS1 := hS.trans (hs1.mono hS.le)
   refine Zap (fun hneg => ⟨_, rfl, hS1, by omega⟩) (fun hneg => ?_)
   rw [Zni hlt' (by omega)]
   have hyy := hy (by omega)
   refine hR (g + 1) _ _ _ (by omega) ⟨rfl, hS1, by omega, by omega, ?_⟩
   rw [Zvj hgl]; omega
  ·have : g = n := by omega
   subst this
   rw [List.take_of_length_le (by omega)] at ht
   exact Zhi.A5x0i _ _ _ ⟨_, rfl, hS, by omega⟩
end Go.Sim

set_option linter.unusedVariables false
namespace Go.Sim
open Go Go.RowKit
theorem Yew : ∀ (l : List (List Nat × List Nat)) (k : Nat), (prs l).take (k * 2) = prs (l.take k)
 | l, 0 => by simp
 | [], k + 1 => by simp
 | p :: l, k + 1 => by rw [Nat.succ_mul]; simpa using Yew l k
theorem Ybh {h : Zaa} {i k : Nat} {t : TypeId} {L : List (List Nat × List Nat)} {a b : List Nat} (hi : h[i]? = some (.cells t (prs L) false)) (hk : k < L.length) :
  Zbn h (.ptr (some (i, k * 2))) [.str a, .str b] = some (h.set i (.cells t (prs (L.take k ++ [(a, b)] ++ L.drop (k + 1))) false)) := by
 have hle : k * 2 + 2 ≤ (prs L).length := by rw [Zgc]; omega
 simp only [Zbn, hi, List.length_cons, List.length_nil, Nat.zero_add, hle, if_true, putRow]
 rw [Yew, show k * 2 + (1 + 1) = (k + 1) * 2 by omega, Zzu]
 simp
theorem Yge (n : Nat) : reps n [.str [], .str []] = prs (List.replicate n ([], [])) := by
 unfold reps
 induction n with
 | zero => rfl
 | succ n ih => rw [List.replicate_succ, List.flatten_cons, ih, List.replicate_succ]; rfl
theorem Yib {h : Zaa} {a0 a1 : Pt} {n0 n1 c0 c1 : Nat} {e0 e1 : Bool} {l0 l1 : List (List Nat × List Nat)} (r0 : Row h.length h a0 (n0 * 2) (prs l0)) (r1 : Row h.length h a1 (n1 * 2) (prs l1)) (hn : n0 ≤ 4611686018427387904) (heq : l0 = l1) :
  Zae pg Zmp [.slice a0 n0 c0 e0, .slice a1 n1 c1 e1] h fun v h' => v = .bool true ∧ Zba h.length h h' := by
 subst heq
 have hl0 : l0.length = n0 := by have := r0.1; rw [Zgc] at this; omega
 have hl1 : l0.length = n1 := by have := r1.1; rw [Zgc] at this; omega
 have : n1 = n0 := by omega
 subst this
 apply Zhq.call
 simp only [beq_self_eq_true, Bool.not_true, Zbh]
 refine Zhq.L4ind _ _ _ _ _ _ _ _ _ (J := fun (k : Nat) x5 h' => Zba h.length h h' ∧ x5 = (k : Int) ∧ k ≤ n1) (fun k => n1 - k) ?_ 0 0 h ⟨Zba.refl _ _, rfl, by omega⟩
 rintro k x5 h' ⟨hs, rfl, hk⟩ R hR
 unfold Zhq.L4t
 refine Zap (fun hlt => ?_) (fun hge => Zhq.A4x0i _ _ ⟨rfl, hs⟩)
 have hlt' : k < n1 := by omega
 obtain ⟨i, o, hgl, rfl, _, hc0⟩ := (r0.same hs).pair hlt'
 obtain ⟨i', o', _, rfl, _, hc1⟩ := (r1.same hs).pair hlt'
 simp only [Zaw, Int.toNat_natCast, hc0, hc1, Zas, Zah, Zar, Zag, true_and]
 refine ⟨⟨by omega, by omega⟩, ⟨by omega, by omega⟩, Yaw.mono fun v h1 ⟨hv, hs1⟩ => ?_⟩
 subst hv
 simp only [Zam, decide_true, Bool.and_self, Bool.not_true, Zbh]
 rw [Zni hlt' (by omega)]
 exact hR (k + 1) _ _ (by omega) ⟨hs.trans (hs1.mono hs.le), rfl, by omega⟩

def need (p : List Nat × List Nat) : List Nat := p.1 ++ [32] ++ p.2
end Go.Sim

set_option linter.unusedSimpArgs false
namespace Go.Sim

def Zey : List Nat := [88, 89, 90, 120, 121, 122]
def Zrg (s : List Nat) : List Nat := Zey.filter fun v => decide (v ∈ s)
theorem Zpd (c : Nat) : c ∈ Zey ↔ Zdd c = true := by simp [Zey, Zdd]; omega
theorem Zsf {s : List Nat} (h : Znr s = true) : ∃ t, Zif s = some t := Option.isSome_iff_exists.1 h
theorem Ylk {s : List Nat} {t : Ty} (h : Zif s = some t) : Znr s = true := by simp [Znr, h]
end Go.Sim

set_option linter.unusedSimpArgs false
namespace Go.Sim

abbrev Nd := List Nat × List Nat
abbrev Ins := Nd × List Nd
structure Wd where
 cs : List Nd
 is : List Ins

def Zta (s : List Nat) : Bool := match s with | [c] => decide (65 ≤ c ∧ c ≤ 84) | _ => false
def Zfo (cs : List Nd) (c : List Nat) : Bool := cs.any fun x => decide (x.1 = c)
def Zxg (cs : List Nd) (s : List Nat) (k : Nat) : Bool := Zfo cs [s.getD k 0] && (k == 0 || decide (s.getD (k - 1) 0 < s.getD k 0))
def Ycq (cs : List Nd) (s : List Nat) : Bool := (List.range s.length).all (Zxg cs s)
def Zwj (cs : List Nd) (i : Nat) : Bool := Zta (cs.getD i ([], [])).1 && (i == 0 || Zdu (cs.getD (i - 1) ([], [])).1 (cs.getD i ([], [])).1) && Ycq (cs.take i) (cs.getD i ([], [])).2
def Zig (cs : List Nd) : Bool := (List.range cs.length).all (Zwj cs) && decide (1 ≤ cs.length ∧ cs.length ≤ 4)
def Zji (s : List Nat) : Bool := match s with | [c] => Zdd c | _ => false
noncomputable def Zih (cs : List Nd) (t : List Nat) (n : Nd) : Bool := Zfo cs n.1 && Znr n.2 && decide (n.2.length ≤ 20) && (Zrg n.2).all fun v => decide (v ∈ t)
noncomputable def Zlw (cs : List Nd) (i : Ins) : Bool := Zig cs && Zfo cs i.1.1 && Znr i.1.2 && decide (i.1.2.length ≤ 20) && !Zji i.1.2 && decide (i.2.length ≤ 3) && i.2.all (Zih cs i.1.2)
noncomputable def Zdy (w : Wd) : Bool := Zig w.cs && decide (w.is.length ≤ 10) && w.is.all (Zlw w.cs)
noncomputable def Zdk (w : Wd) (n : Nd) : Bool := Zfo w.cs n.1 && Znr n.2
theorem Zgb {f : Nat → Bool} {g : Nat} (h : (List.range g).all f = true) (k : f g = true) : (List.range (g + 1)).all f = true := by
 rw [List.range_succ, List.all_append, h]; simp [k]
theorem Ziz {f : Nat → Bool} {g n : Nat} (h : g < n) (k : f g = false) : (List.range n).all f = false := by
 rw [List.all_eq_false]; exact ⟨g, List.mem_range.2 h, by simp [k]⟩
theorem Zfw {α : Type} {f : α → Bool} {l : List α} {g : Nat} (hg : g < l.length) (h : (l.take g).all f = true) (k : f l[g] = true) : (l.take (g + 1)).all f = true := by
 rw [List.take_succ_eq_append_getElem hg, List.all_append, h]; simp [k]
theorem Zrc {α : Type} {f : α → Bool} {l : List α} {g : Nat} (hg : g < l.length) (k : f l[g] = false) : l.all f = false := by
 rw [List.all_eq_false]; exact ⟨_, List.getElem_mem hg, by simp [k]⟩
theorem Zez {α : Type} {l : List α} {g : Nat} {d : α} (h : g < l.length) : l.getD g d = l[g] := by simp [List.getD, h]
theorem Zwa {cs : List Nd} {c : List Nat} {g : Nat} (hg : g < cs.length) : Zfo (cs.take (g + 1)) c = (Zfo (cs.take g) c || decide (cs[g].1 = c)) := by
 unfold Zfo; rw [List.take_succ_eq_append_getElem hg, List.any_append]; simp
def Ydx (cs : List Nd) (c : List Nat) : Int := if Zfo cs c then (cs.findIdx fun x => decide (x.1 = c) : Nat) else -1
theorem Zws (cs : List Nd) (c : List Nat) : decide (Ydx cs c < 0) = !Zfo cs c := by
 unfold Ydx; cases h : Zfo cs c <;> simp
theorem Ysg {t : List Nat} (h : Znr t = true) : Zji t = Zdd (t.headD 0) := by
 obtain ⟨u, hu, rfl, _⟩ := Zrz.1 h
 cases u with
 | k c => rfl
 | u c a =>
  have h1 := hu
  simp only [Ty.ok, Bool.and_eq_true, Bool.or_eq_true, beq_iff_eq] at h1
  rcases h1.1 with rfl | rfl <;> rfl
 | w c a b =>
  have h1 := hu
  simp only [Ty.ok, Bool.and_eq_true, beq_iff_eq] at h1
  rcases h1.1.1 with rfl; rfl
end Go.Sim

set_option linter.unusedVariables false
set_option linter.unusedSimpArgs false
set_option maxRecDepth 20000
namespace Go.Sim
open Go Go.RowKit

theorem Yei {h : Zaa} {x a b : Int} : Zae pg Zlc [.int .i64 x, .int .i64 a, .int .i64 b] h fun v h' => v = .bool (decide (a ≤ x ∧ x ≤ b)) ∧ h' = h := by
 apply Zvk.call
 refine Zap (fun h1 => ?_) (fun h1 => ?_)
 ·have : a ≤ x := h1
  simp [this]
 ·have : ¬ a ≤ x := h1
  simp [this]
theorem Ygx {h : Zaa} (s : List Nat) : Zae pg Zmi [.str s] h fun v h' => v = .bool (Zta s) ∧ h' = h := by
 apply Zqr.call
 match s with
 | [] => simp [Zta]
 | [c] =>
  simp only [List.length_cons, List.length_nil, show ((0 + 1 : Nat) : Int) = 1 from rfl, beq_self_eq_true, Zcf]
  have e1 : Zdu [c] [65] = decide (c < 65) := by simp [Zdu]
  have e2 : Zdu [c] [84] = decide (c < 84) := by simp [Zdu]
  rw [e1, e2]
  refine Zyg (fun h1 => ?_) (fun h1 => ?_)
  ·refine ⟨?_, by trivial⟩
   congr 1
   simp [Zta]
   rw [Bool.eq_iff_iff]; simp; omega
  ·refine ⟨?_, by trivial⟩
   simp [Zta]; omega
 | c :: d :: r =>
  refine Zfe (fun h1 => ?_) (fun h1 => ⟨rfl, rfl⟩)
  simp at h1; omega
theorem Yau {h : Zaa} (s : List Nat) (hb : ∀ b ∈ s, b < 256) : Zae pg Zkj [.str s] h fun v h' => v = .bool (Zta s) ∧ h' = h := by
 apply Zot.call
 match s, hb with
 | [], _ => simp [Zta]
 | [c], hb =>
  have hc := hb c (by simp)
  simp only [List.length_cons, List.length_nil, show ((0 + 1 : Nat) : Int) = 1 from rfl, beq_self_eq_true, Zcf]
  refine ⟨⟨by omega, by simp⟩, ?_⟩
  simp only [Int.toNat_zero, List.getD_cons_zero]
  rw [IntWalk.i64_in _ (by omega)]
  refine Yei.mono ?_
  rintro v h' ⟨rfl, rfl⟩
  simp only [Zam]
  refine ⟨?_, by trivial⟩
  congr 1
  simp [Zta]; rw [Bool.eq_iff_iff]; simp; omega
 | c :: d :: r, _ =>
  refine Zfe (fun h1 => ?_) (fun h1 => ⟨rfl, rfl⟩)
  simp at h1; omega
theorem Ynt : pg.underlying Zir = some (.slice Zad) := by kernel_rfl
theorem Yru : pg.cellsOf Zad = 2 := by kernel_rfl
theorem Yrm : pg.okElem Zad = true := by kernel_rfl
theorem Ysb : pg.bytesOf Zad ≤ 127 := Nat.le_of_ble_eq_true (by kernel_rfl)
def Zct {α : Type} (ty : TypeId) (enc : α → List Zaq) (b : Nat) (h : Zaa) (a : Pt) (n : Nat) (l : List α) : Prop := l.length = n ∧ (n = 0 ∨ ∃ i, a = some (i, 0) ∧ b ≤ i ∧ h[i]? = some (.cells ty (Zdl enc l) false))
theorem Zct.row {α : Type} {ty : TypeId} {enc : α → List Zaq} {w b : Nat} {h : Zaa} {a : Pt} {n : Nat} {l : List α} (hw : ∀ x, (enc x).length = w) (f : Zct ty enc b h a n l) : Row h.length h a (n * w) (Zdl enc l) := by
 obtain ⟨hl, h0 | ⟨i, ha, hb, hi⟩⟩ := f
 ·subst h0
  have : l = [] := List.eq_nil_of_length_eq_zero hl
  subst this; simp; exact Row.nil
 ·rw [ha]; exact (Vec.mk1 (n := 0) (c := 0) hi).row (by rw [Zbf hw, hl])
theorem Zct.same {α : Type} {ty : TypeId} {enc : α → List Zaq} {b : Nat} {h h' : Zaa} {a : Pt} {n : Nat} {l : List α} (f : Zct ty enc b h a n l) (s : Zba h.length h h') : Zct ty enc b h' a n l :=
 ⟨f.1, f.2.imp id fun ⟨i, ha, hb, hi⟩ => ⟨i, ha, hb, by rw [s.eq i (Own.lt hi)]; exact hi⟩⟩
end Go.Sim

set_option linter.unusedVariables false
set_option linter.unusedSimpArgs false
set_option maxRecDepth 20000
namespace Go.Sim
open Go Go.RowKit

def Ymj (a : Pt) (n : Nat) (h h' : Zaa) : Prop := h.length ≤ h'.length ∧ ∀ j, j < h.length → (∀ i, a = some (i, 0) → n ≠ 0 → j ≠ i) → h'[j]? = h[j]?
theorem Ymj.refl (a : Pt) (n : Nat) (h : Zaa) : Ymj a n h h := ⟨Nat.le_refl _, fun _ _ _ => rfl⟩
theorem Ymj.same {a : Pt} {n : Nat} {h h1 h2 : Zaa} (o : Ymj a n h h1) (s : Zba h1.length h1 h2) : Ymj a n h h2 := ⟨Nat.le_trans o.1 s.le, fun j hj hn => by rw [s.eq j (by have := o.1; omega)]; exact o.2 j hj hn⟩
theorem Ymj.set {n i : Nat} {h h1 : Zaa} {x : Zci} (o : Ymj (some (i, 0)) n h h1) (hn : n ≠ 0) : Ymj (some (i, 0)) n h (h1.set i x) := ⟨by simp; exact o.1, fun j hj hne => by rw [Zbz (fun e => hne i rfl hn e.symm)]; exact o.2 j hj hne⟩
theorem Row.only {b : Nat} {h h' : Zaa} {a a' : Pt} {n m : Nat} {cs : List Zaq} (r : Row b h a m cs) (o : Ymj a' n h h') (hb : ∀ i, a' = some (i, 0) → n ≠ 0 → b ≤ i) : Row b h' a m cs := by
 obtain ⟨hl, r⟩ := r
 refine ⟨hl, r.imp id ?_⟩
 rintro ⟨i, o', t, all, ro, ha, hi, hg, x⟩
 exact ⟨i, o', t, all, ro, ha, hi, by rw [o.2 i (Own.lt hg) fun j hj hn => by have := hb j hj hn; omega]; exact hg, x⟩
theorem Zct.only {α : Type} {ty : TypeId} {enc : α → List Zaq} {b : Nat} {h h' : Zaa} {a a' : Pt} {n m : Nat} {l : List α} (f : Zct ty enc b h a n l) (o : Ymj a' m h h') (hb : ∀ i, a' = some (i, 0) → m ≠ 0 → ∀ j, a = some (j, 0) → j ≠ i) : Zct ty enc b h' a n l :=
 ⟨f.1, f.2.imp id fun ⟨i, ha, hbi, hi⟩ => ⟨i, ha, hbi, by rw [o.2 i (Own.lt hi) fun j hj hn => hb j hj hn i ha]; exact hi⟩⟩
end Go.Sim

set_option linter.unusedVariables false
set_option linter.unusedSimpArgs false
set_option maxRecDepth 20000
namespace Go.Sim
open Go Go.RowKit

structure EI where
 c : List Nat
 t : List Nat
 a : Pt
 n : Nat
 cp : Nat
 e : Bool
 deriving Inhabited
def eN (x : EI) : List Zaq := [.str x.c, .str x.t, .slice x.a x.n x.cp x.e]
theorem Zxi (x : EI) : (eN x).length = 3 := rfl
def Ypi (h : Zaa) (x : EI) (i : Ins) : Prop := x.c = i.1.1 ∧ x.t = i.1.2 ∧ Row h.length h x.a (x.n * 2) (Zdl eP i.2)
def Yma (h : Zaa) (xs : List EI) (is : List Ins) : Prop := xs.length = is.length ∧ ∀ (k : Nat) (x : EI) (i : Ins), xs[k]? = some x → is[k]? = some i → Ypi h x i
structure Zlu (h : Zaa) (a0 : Pt) (n0 c0 : Nat) (a1 : Pt) (n1 c1 : Nat) (w : Wd) : Prop where
 cls : Row h.length h a0 (n0 * 2) (Zdl eP w.cs)
 ins : ∃ xs, Row h.length h a1 (n1 * 3) (Zdl eN xs) ∧ Yma h xs w.is
 le0 : n0 ≤ c0
 le1 : n1 ≤ c1
theorem Row.same' {h h' : Zaa} {a : Pt} {n : Nat} {cs : List Zaq} (r : Row h.length h a n cs) (s : Zba h.length h h') : Row h'.length h' a n cs := (r.same s).mono s.le
theorem Ypi.same {h h' : Zaa} {x : EI} {i : Ins} (r : Ypi h x i) (s : Zba h.length h h') : Ypi h' x i := ⟨r.1, r.2.1, r.2.2.same' s⟩
theorem Yma.same {h h' : Zaa} {xs : List EI} {is : List Ins} (r : Yma h xs is) (s : Zba h.length h h') : Yma h' xs is := ⟨r.1, fun k x i hx hi => (r.2 k x i hx hi).same s⟩
theorem Zlu.same {h h' : Zaa} {a0 a1 : Pt} {n0 c0 n1 c1 : Nat} {w : Wd} (r : Zlu h a0 n0 c0 a1 n1 c1 w) (s : Zba h.length h h') : Zlu h' a0 n0 c0 a1 n1 c1 w :=
 ⟨r.cls.same' s, r.ins.imp fun xs ⟨r1, r2⟩ => ⟨r1.same' s, r2.same s⟩, r.le0, r.le1⟩
theorem Ypi.len {h : Zaa} {x : EI} {i : Ins} (r : Ypi h x i) : i.2.length = x.n := by have := r.2.2.1; rw [Zbf Zet] at this; omega
theorem Zlu.len0 {h : Zaa} {a0 a1 : Pt} {n0 c0 n1 c1 : Nat} {w : Wd} (r : Zlu h a0 n0 c0 a1 n1 c1 w) : w.cs.length = n0 := by have := r.cls.1; rw [Zbf Zet] at this; omega
theorem Zlu.len1 {h : Zaa} {a0 a1 : Pt} {n0 c0 n1 c1 : Nat} {w : Wd} (r : Zlu h a0 n0 c0 a1 n1 c1 w) : w.is.length = n1 := by
 obtain ⟨xs, r1, r2, _⟩ := r.ins
 have := r1.1; rw [Zbf Zxi] at this; omega
theorem Zlu.inst {h : Zaa} {a0 a1 : Pt} {n0 c0 n1 c1 : Nat} {w : Wd} (r : Zlu h a0 n0 c0 a1 n1 c1 w) {k : Nat} (hk : k < n1) :
  ∃ i o, ∃ hk' : k < w.is.length, ∃ a n cp e, a1 = some (i, o) ∧ i < h.length ∧ Zbx h (.ptr (some (i, o + k * 3))) 3 = some [.str w.is[k].1.1, .str w.is[k].1.2, .slice a n cp e] ∧ Zal h (.ptr (some (i, o + k * 3))) = some (.str w.is[k].1.1) ∧ Zal h (.ptr (some (i, o + k * 3 + 1))) = some (.str w.is[k].1.2) ∧ Zal h (.ptr (some (i, o + k * 3 + 2))) = some (.slice a n cp e) ∧
   Row h.length h a (n * 2) (Zdl eP w.is[k].2) ∧ w.is[k].2.length = n := by
 have hl := r.len1
 obtain ⟨xs, r1, r2, r3⟩ := r.ins
 obtain ⟨i, o, hk', ha, hi, hr, hc⟩ := Row.el Zxi r1 (by omega) hk (by omega)
 have hI := r3 k xs[k] w.is[k] (List.getElem?_eq_getElem hk') (List.getElem?_eq_getElem (by omega))
 obtain ⟨e1, e2, e3⟩ := id hI
 refine ⟨i, o, by omega, xs[k].a, xs[k].n, xs[k].cp, xs[k].e, ha, hi, ?_, ?_, ?_, ?_, e3, hI.len⟩
 ·rw [hr, eN, e1, e2]
 ·have := hc 0 (by omega); rw [← e1]; simpa [eN] using this
 ·have := hc 1 (by omega); rw [← e2]; simpa [eN] using this
 ·have := hc 2 (by omega); simpa [eN] using this
theorem Row.pr {b : Nat} {h : Zaa} {a : Pt} {n : Nat} {l : List Nd} (r : Row b h a (n * 2) (Zdl eP l)) {k : Nat} (hk : k < n) :
  ∃ i o, ∃ hk' : k < l.length, a = some (i, o) ∧ i < b ∧ Zbx h (.ptr (some (i, o + k * 2))) 2 = some [.str l[k].1, .str l[k].2] ∧ Zal h (.ptr (some (i, o + k * 2))) = some (.str l[k].1) ∧ Zal h (.ptr (some (i, o + k * 2 + 1))) = some (.str l[k].2) := by
 have hl : l.length = n := by have := r.1; rw [Zbf Zet] at this; omega
 obtain ⟨i, o, hk', ha, hi, hr, hc⟩ := Row.el Zet r hl hk (by omega)
 exact ⟨i, o, hk', ha, hi, hr, by simpa [eP] using hc 0 (by omega), by simpa [eP] using hc 1 (by omega)⟩

def Mid (lo hi : Nat) (h h' : Zaa) : Prop := h.length ≤ h'.length ∧ ∀ j, j < h.length → (j < lo ∨ hi ≤ j) → h'[j]? = h[j]?
theorem Mid.refl (lo hi : Nat) (h : Zaa) : Mid lo hi h h := ⟨Nat.le_refl _, fun _ _ _ => rfl⟩
theorem Mid.trans {lo hi : Nat} {h h1 h2 : Zaa} (a : Mid lo hi h h1) (b : Mid lo hi h1 h2) : Mid lo hi h h2 := ⟨Nat.le_trans a.1 b.1, fun j hj hn => by rw [b.2 j (by have := a.1; omega) hn]; exact a.2 j hj hn⟩
theorem Mid.of_same {lo hi : Nat} {h h' : Zaa} (s : Zba h.length h h') : Mid lo hi h h' := ⟨s.le, fun j hj _ => s.eq j hj⟩
theorem Mid.same {lo hi : Nat} {h h1 h2 : Zaa} (a : Mid lo hi h h1) (s : Zba h1.length h1 h2) : Mid lo hi h h2 := a.trans (Mid.of_same s)
theorem Mid.set {lo hi i : Nat} {h h1 : Zaa} {x : Zci} (o : Mid lo hi h h1) (h0 : lo ≤ i) (h2 : i < hi) : Mid lo hi h (h1.set i x) := ⟨by simp; exact o.1, fun j hj hne => by rw [Zbz (by omega)]; exact o.2 j hj hne⟩
theorem Zct.in {α : Type} {ty : TypeId} {enc : α → List Zaq} {b : Nat} {h : Zaa} {a : Pt} {n : Nat} {l : List α} (f : Zct ty enc b h a n l) : ∀ i, a = some (i, 0) → n ≠ 0 → b ≤ i ∧ i < h.length := by
 intro i hi hn
 rcases f.2 with h0 | ⟨j, ha, hb, hj⟩
 ·exact absurd h0 hn
 ·rw [hi] at ha; cases ha; exact ⟨hb, Own.lt hj⟩
structure Zqo (b : Nat) (h : Zaa) (a0 : Pt) (n0 : Nat) (a1 : Pt) (n1 : Nat) (xs : List EI) (w : Wd) : Prop where
 cls : Zct Zbq eP b h a0 n0 w.cs
 ins : Zct Zai eN b h a1 n1 xs
 len : xs.length = w.is.length
 need : ∀ (k : Nat) (x : EI) (i : Ins), xs[k]? = some x → w.is[k]? = some i → x.c = i.1.1 ∧ x.t = i.1.2 ∧ Zct Zad eP b h x.a x.n i.2
 sep : ∀ (j k : Nat) (x y : EI), j ≠ k → xs[j]? = some x → xs[k]? = some y → x.n ≠ 0 → y.n ≠ 0 → x.a ≠ y.a
 nn : ∀ x ∈ xs, x.a ≠ none
theorem Zqo.same {b : Nat} {h h' : Zaa} {a0 a1 : Pt} {n0 n1 : Nat} {xs : List EI} {w : Wd} (f : Zqo b h a0 n0 a1 n1 xs w) (s : Zba h.length h h') : Zqo b h' a0 n0 a1 n1 xs w :=
 ⟨f.cls.same s, f.ins.same s, f.len, fun k x i hx hi => ⟨(f.need k x i hx hi).1, (f.need k x i hx hi).2.1, (f.need k x i hx hi).2.2.same s⟩, f.sep, f.nn⟩
theorem Zqo.rep {b : Nat} {h : Zaa} {a0 a1 : Pt} {n0 c0 n1 c1 : Nat} {xs : List EI} {w : Wd} (f : Zqo b h a0 n0 a1 n1 xs w) (h0 : n0 ≤ c0) (h1 : n1 ≤ c1) : Zlu h a0 n0 c0 a1 n1 c1 w :=
 ⟨f.cls.row Zet, ⟨xs, f.ins.row Zxi, f.len, fun k x i hx hi => ⟨(f.need k x i hx hi).1, (f.need k x i hx hi).2.1, (f.need k x i hx hi).2.2.row Zet⟩⟩, h0, h1⟩
end Go.Sim

set_option linter.unusedVariables false
set_option linter.unusedSimpArgs false
set_option maxRecDepth 20000
namespace Go.Sim
open Go Go.RowKit

def one (c : Nat) : List Nat := [c]
theorem Zvn : pg.underlying Zbw = some (.slice Zaz) := by kernel_rfl
theorem Ycl : pg.cellsOf Zaz = 1 := by kernel_rfl
theorem Ybm : pg.okElem Zaz = true := by kernel_rfl
theorem Ycd : pg.bytesOf Zaz ≤ 127 := Nat.le_of_ble_eq_true (by kernel_rfl)
theorem Yqw (s : List Nat) (h : Zaa) : Zae pg Zrh [.str s] h fun v h' => Zba h.length h h' ∧ ∃ a n c e, v = .slice a n c e ∧ Row h'.length h' a n (strs ((Zrg s).map one)) := by
 apply Zhy.call
 simp only [Zav]
 have hlist : (h ++ [Zci.cells Zaz [] false] ++ [Zci.cells Zaz [.str [88], .str [89], .str [90], .str [120], .str [121], .str [122]] false])[h.length + 1]? = some (.cells Zaz [.str [88], .str [89], .str [90], .str [120], .str [121], .str [122]] false) := by simp
 have hlen : List.length (h ++ [Zci.cells Zaz [] false]) = h.length + 1 := by simp
 rw [hlen]
 refine Zhy.L3ind _ _ _ _ _ _ _ (J := fun (g : Nat) a3 n3 c3 e3 x9 h' => x9 = (g : Int) ∧ g ≤ 6 ∧ Zba h.length h h' ∧ h'[h.length + 1]? = some (.cells Zaz [.str [88], .str [89], .str [90], .str [120], .str [121], .str [122]] false) ∧ n3 = (((Zey.take g).filter fun v => decide (v ∈ s)).map one).length ∧ Vec Zaz h' a3 n3 c3 (strs (((Zey.take g).filter fun v => decide (v ∈ s)).map one)) ∧ ∀ i, a3 = some (i, 0) → h.length ≤ i ∧ i ≠ h.length + 1) (fun g => 6 - g) ?_ 0 _ _ _ _ _ _
  ⟨rfl, by omega, (Zba.app (Nat.le_refl _) _).trans (Zba.app (by simp) _), hlist, by simp, Vec.mk1 (by simp), fun i hi => by cases hi; omega⟩
 rintro g a3 n3 c3 e3 x9 h' ⟨rfl, hg, hS, hl, rfl, hv, ha⟩ R hR
 unfold Zhy.L3t
 refine Zap (fun hlt => ?_) (fun hge => ?_)
 ·have hlt' : g < 6 := by omega
  have hc : ∃ c, Zey[g]? = some c ∧ Zal h' (.ptr (some (h.length + 1, 0 + (g : Int).toNat * 1))) = some (.str [c]) := by
   rw [Zat hl, Int.toNat_natCast]
   match g, hlt' with
   | 0, _ | 1, _ | 2, _ | 3, _ | 4, _ | 5, _ => exact ⟨_, rfl, rfl⟩
  obtain ⟨c, hc1, hc2⟩ := hc
  simp only [Zaw, hc2, Zag]
  refine ⟨by omega, Zmb.mono ?_⟩
  rintro v h2 ⟨rfl, rfl⟩
  simp only [Zam]
  have htk : Zey.take (g + 1) = Zey.take g ++ [c] := by
   rw [List.take_succ, hc1]; rfl
  have hbd : (((Zey.take g).filter fun v => decide (v ∈ s)).map one).length ≤ 6 := by
   rw [List.length_map]
   exact Nat.le_trans (List.length_filter_le _ _) (by simp; omega)
  refine Zap (fun hin => ?_) (fun hout => ?_)
  ·simp only [Zav]
   refine hv.push Zvn Ycl Ybm Ycd (by simp) rfl (by omega) (fun h4 hl4 hi4 hk4 => ?_)
   simp only [Zaf]
   apply Zhy.J7i
   rw [Zbr (by omega)]
   have hle := hS.le
   refine hR (g + 1) _ _ _ _ _ _ (by omega) ⟨rfl, by omega, ⟨by omega, fun j hj => ?_⟩, ?_, ?_, Vec.mk1 ?_, fun i hi => by cases hi; have := Own.lt hl; omega⟩
   ·rw [hk4 j (by omega) fun i hi => by have := (ha i hi).1; omega]; exact hS.eq j hj
   ·rw [hk4 _ (Own.lt hl) fun i hi => (ha i hi).2.symm]; exact hl
   ·rw [htk, List.filter_append]; simp [hin]
   ·rw [hi4, htk, List.filter_append]; simp [hin, strs, one]
  ·apply Zhy.J7i
   rw [Zbr (by omega)]
   have hf : (Zey.take (g + 1)).filter (fun v => decide (v ∈ s)) = (Zey.take g).filter fun v => decide (v ∈ s) := by rw [htk, List.filter_append]; simp [hout]
   refine hR (g + 1) _ _ _ _ _ _ (by omega) ⟨rfl, by omega, hS, hl, by rw [hf], by rw [hf]; exact hv, ha⟩
 ·have : g = 6 := by omega
  subst this
  apply Zhy.A3x0i
  refine ⟨hS, _, _, _, _, rfl, hv.row (by simp)⟩
end Go.Sim
