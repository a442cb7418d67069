/- A part of the proof of a statement of this seat: see the text that holds the theorem. No condition. -/
import Derived.Test.YtlljbdepamknoaaGreatDoorPTCVars
import Derived.Test.YtlljbdepamknoaaGreatDoorCTy
import Derived.Test.YtlljbdepamknoaaGreatDoorSimX
import Derived.Test.YtlljbdepamknoaaGreatDoorNm
set_option linter.unusedVariables false
set_option linter.unusedSimpArgs false
set_option linter.all false
set_option linter.unusedVariables false
set_option linter.unusedSimpArgs false
set_option maxRecDepth 20000
namespace Go.Sim
open Go Go.RowKit

theorem Yqt {s : List Nat} {c g : Nat} (h : s[g]? = some c) (hn : c ∉ s.take g) : Ztn s c = g := by
 induction s generalizing g with
 | nil => simp at h
 | cons b s ih =>
  cases g with
  | zero => simp at h; subst h; simp [Ztn]
  | succ g =>
   simp at h hn
   have := ih h hn.2
   have hb : ¬ b = c := fun e => hn.1 e.symm
   simp only [Ztn, beq_iff_eq, hb, if_false, this]
   rw [if_neg (by omega)]; omega
theorem Zwt {s : List Nat} {c : Nat} (hn : c ∉ s) : Ztn s c = -1 := by
 have := (Ypn s c).2 hn; have := Ylz s c; omega
theorem Yfj {s : List Nat} {g : Nat} (h : g < s.length) : s.getD g 0 = s[g] := by simp [List.getD, h]
theorem Zzf {h : Zaa} (s : List Nat) (c : Nat) (hs : s.length ≤ 9223372036854775807) : Zae pg Zgz [.str s, .int .u8 (c : Int)] h fun v h' => v = .int .i64 (Ztn s c) ∧ h' = h := by
 apply Zit.call
 refine Zit.L2ind _ _ _ (J := fun (g : Nat) x5 h' => x5 = (g : Int) ∧ h' = h ∧ g ≤ s.length ∧ c ∉ s.take g) (fun g => s.length - g) ?_ 0 _ _ ⟨rfl, rfl, by omega, by simp⟩
 rintro g x5 h' ⟨rfl, rfl, hg, hn⟩ R hR
 unfold Zit.L2t
 refine Zan (fun hlt => ?_) (fun hge => ?_)
 ·have hlt' : g < s.length := by omega
  refine ⟨⟨by omega, by omega⟩, ?_⟩
  rw [Int.toNat_natCast, Yfj hlt']
  refine Zfh (fun he => ?_) (fun he => ?_)
  ·exact ⟨by rw [Yqt (g := g) (by rw [List.getElem?_eq_getElem hlt', Int.ofNat.inj he]) hn], rfl⟩
  ·rw [IntWalk.i64_in _ (by omega)]
   refine hR (g + 1) _ _ (by omega) ⟨by omega, rfl, by omega, ?_⟩
   rw [List.take_succ_eq_append_getElem hlt']
   simp only [List.mem_append, List.mem_singleton, not_or]
   exact ⟨hn, fun e => he (by rw [e])⟩
 ·have : g = s.length := by omega
  subst this
  rw [List.take_length] at hn
  apply Zit.A2x0i
  rw [Zwt hn]; exact ⟨rfl, rfl⟩
theorem Ytc (c : Nat) : (if Ztn [105, 98, 117, 108, 109, 112, 120, 121, 122, 88, 89, 90] c < 0 then (-1 : Int) else if Ztn [105, 98, 117, 108, 109, 112, 120, 121, 122, 88, 89, 90] c = 3 then 1 else if Ztn [105, 98, 117, 108, 109, 112, 120, 121, 122, 88, 89, 90] c = 4 then 1 else if Ztn [105, 98, 117, 108, 109, 112, 120, 121, 122, 88, 89, 90] c = 5 then 2 else 0) = arN c := by
 by_cases h : c ∈ [105, 98, 117, 108, 109, 112, 120, 121, 122, 88, 89, 90]
 ·simp at h
  rcases h with rfl | rfl | rfl | rfl | rfl | rfl | rfl | rfl | rfl | rfl | rfl | rfl <;> rfl
 ·rw [Zwt h]
  simp at h
  simp [arN, Znw, Zdi, h]
theorem Yrn (c : Nat) : decide (Ztn [105, 98, 117, 108, 109, 112, 120, 121, 122, 88, 89, 90] c ≥ 6) = Zdi c := by
 by_cases h : c ∈ [105, 98, 117, 108, 109, 112, 120, 121, 122, 88, 89, 90]
 ·simp at h
  rcases h with rfl | rfl | rfl | rfl | rfl | rfl | rfl | rfl | rfl | rfl | rfl | rfl <;> rfl
 ·rw [Zwt h]
  simp at h
  simp [Zdi, h]
theorem Yiu {h : Zaa} (c : Nat) : Zae pg Zle [.int .u8 (c : Int)] h fun v h' => v = .int .i64 (arN c) ∧ h' = h := by
 apply Znk.call
 refine (Zzf _ c (by simp)).mono ?_
 rintro v h1 ⟨rfl, rfl⟩
 simp only [Zau]
 rw [← Ytc c]
 generalize Ztn [105, 98, 117, 108, 109, 112, 120, 121, 122, 88, 89, 90] c = k
 refine Zan (fun hk => ?_) (fun hk => ?_)
 ·rw [if_pos hk]; exact ⟨rfl, by trivial⟩
 ·rw [if_neg hk]
  refine Zfh (fun h3 => ?_) (fun h3 => ?_)
  ·rw [if_pos h3]; exact ⟨rfl, by trivial⟩
  ·rw [if_neg h3]
   refine Zfh (fun h4 => ?_) (fun h4 => ?_)
   ·rw [if_pos h4]; exact ⟨rfl, by trivial⟩
   ·rw [if_neg h4]
    refine Zfh (fun h5 => ?_) (fun h5 => ?_)
    ·rw [if_pos h5]; exact ⟨rfl, by trivial⟩
    ·rw [if_neg h5]; apply Znk.J8i; exact ⟨rfl, by trivial⟩

def rdr (s : List Nat) (k : Nat) (b : Bool) : Zco := .cells Zdj [.str s, .int .i64 (k : Int), .bool b] false
theorem Yki {s : List Nat} {k : Nat} (h : k < s.length) : s.drop k = s[k] :: s.drop (k + 1) := List.drop_eq_getElem_cons h
theorem Yeq {h : Zaa} {i : Nat} {s : List Nat} {k : Nat} {b : Bool} (hi : h[i]? = some (rdr s k b)) (hk : k ≤ s.length) (hs : s.length ≤ 9223372036854775807) : Zae pg Zfk [.ptr (some (i, 0))] h fun v h' =>
  (∃ c : Nat, s.drop k = c :: s.drop (k + 1) ∧ k < s.length ∧ v = .int .u8 (c : Int) ∧ h' = h.set i (rdr s (k + 1) b)) ∨ (s.drop k = [] ∧ v = .int .u8 0 ∧ h' = h.set i (rdr s k true)) := by
 unfold rdr at hi
 apply Zlv.call
 simp only [Zax, Zaq hi, Nat.zero_add, List.getElem?_cons_zero, List.getElem?_cons_succ, Zau, Zai]
 refine ⟨by trivial, Zan (fun hge => ?_) (fun hl => ?_)⟩
 ·rw [Zbr hi (by simp)]
  exact .inr ⟨List.drop_eq_nil_of_le (by omega), by trivial, rfl⟩
 ·have hl' : k < s.length := by omega
  rw [Zbr hi (by simp)]
  simp only [Zaw, Zaq (Zcq hi)]
  rw [IntWalk.i64_in _ (by omega)]
  simp only [putRow, List.take_succ_cons, List.take_zero, List.length_cons, List.length_nil, List.cons_append, List.nil_append, List.drop_succ_cons, List.drop_zero, List.getElem?_cons_zero, List.getElem?_cons_succ, Zau, Zai]
  rw [IntWalk.i64_in _ (by omega)]
  refine ⟨by trivial, ⟨by omega, by omega⟩, .inl ⟨s[k], Yki hl', hl', ?_, ?_⟩⟩
  ·have : ((k : Int) + 1 - 1).toNat = k := by omega
   rw [this, Yfj hl']
  ·simp [rdr]
def Zhy (S : Nat → Prop) (h : Zaa) : Ty → List Zam → Prop
 | .k d, v => ∃ a c e, v = [.int .u8 (d : Int), .slice a 0 c e]
 | .u d x, v => ∃ j c e r, v = [.int .u8 (d : Int), .slice (some (j, 0)) 1 c e] ∧ S j ∧ h[j]? = some (.cells Zad r false) ∧ Zhy S h x r
 | .w d x y, v => ∃ j c e r r', v = [.int .u8 (d : Int), .slice (some (j, 0)) 2 c e] ∧ S j ∧ h[j]? = some (.cells Zad (r ++ r') false) ∧ Zhy S h x r ∧ Zhy S h y r'
theorem Zhy.mono {S S' : Nat → Prop} {h : Zaa} (hs : ∀ i, S i → S' i) : ∀ {t : Ty} {v : List Zam}, Zhy S h t v → Zhy S' h t v
 | .k d, _, h => h
 | .u d x, _, ⟨j, c, e, r, hv, sj, hj, hr⟩ => ⟨j, c, e, r, hv, hs _ sj, hj, hr.mono hs⟩
 | .w d x y, _, ⟨j, c, e, r, r', hv, sj, hj, hr, hr'⟩ => ⟨j, c, e, r, r', hv, hs _ sj, hj, hr.mono hs, hr'.mono hs⟩
theorem Zhy.agree {S : Nat → Prop} {h h' : Zaa} (hh : ∀ i, S i → h'[i]? = h[i]?) : ∀ {t : Ty} {v : List Zam}, Zhy S h t v → Zhy S h' t v
 | .k d, _, h => h
 | .u d x, _, ⟨j, c, e, r, hv, sj, hj, hr⟩ => ⟨j, c, e, r, hv, sj, by rw [hh j sj]; exact hj, hr.agree hh⟩
 | .w d x y, _, ⟨j, c, e, r, r', hv, sj, hj, hr, hr'⟩ => ⟨j, c, e, r, r', hv, sj, by rw [hh j sj]; exact hj, hr.agree hh, hr'.agree hh⟩
theorem Zhy.shape {S : Nat → Prop} {h : Zaa} {t : Ty} {v : List Zam} (r : Zhy S h t v) : ∃ a c e, v = [.int .u8 (t.hd : Int), .slice a t.ps.length c e] := by
 cases t with
 | k d => exact r
 | u d x => obtain ⟨j, c, e, r, hv, _⟩ := r; exact ⟨_, c, e, hv⟩
 | w d x y => obtain ⟨j, c, e, r, r', hv, _⟩ := r; exact ⟨_, c, e, hv⟩
theorem Zhy.len {S : Nat → Prop} {h : Zaa} {t : Ty} {v : List Zam} (r : Zhy S h t v) : v.length = 2 := by obtain ⟨a, c, e, rfl⟩ := r.shape; rfl
theorem Zhy.leaf {S : Nat → Prop} {h : Zaa} {t : Ty} {v : List Zam} (r : Zhy S h t v) : v.all Zam.leaf = true := by obtain ⟨a, c, e, rfl⟩ := r.shape; rfl
theorem Zhy.parts {S : Nat → Prop} {h : Zaa} {t : Ty} {v : List Zam} (r : Zhy S h t v) : ∃ a c e, ∃ vs : List (List Zam), v = [.int .u8 (t.hd : Int), .slice a t.ps.length c e] ∧ Row h.length h a (t.ps.length * 2) vs.flatten ∧
  (∀ j o, t.ps.length ≠ 0 → a = some (j, o) → S j) ∧ vs.length = t.ps.length ∧ ∀ (k : Nat) (w : List Zam) (x : Ty), vs[k]? = some w → t.ps[k]? = some x → Zhy S h x w := by
 cases t with
 | k d => obtain ⟨a, c, e, rfl⟩ := r; exact ⟨a, c, e, [], rfl, Row.nil, fun _ _ h => absurd rfl h, rfl, by simp⟩
 | u d x =>
  obtain ⟨j, c, e, r, rfl, sj, hj, hr⟩ := r
  have hl := hr.len
  refine ⟨_, c, e, [r], rfl, ⟨by simp [Ty.ps, hl], .inr ⟨j, 0, _, _, _, rfl, Own.lt hj, hj, by simp [Ty.ps, hl], by simp [Ty.ps]; rw [List.take_of_length_le (by omega)]⟩⟩, fun j' o' _ e => by cases e; exact sj, rfl, ?_⟩
  intro k w x' h1 h2
  cases k with
  | zero => simp [Ty.ps] at h1 h2; subst h1; subst h2; exact hr
  | succ k => simp at h1
 | w d x y =>
  obtain ⟨j, c, e, r, r', rfl, sj, hj, hr, hr'⟩ := r
  have hl := hr.len
  have hl' := hr'.len
  refine ⟨_, c, e, [r, r'], rfl, ⟨by simp [Ty.ps, hl, hl'], .inr ⟨j, 0, _, _, _, rfl, Own.lt hj, hj, by simp [Ty.ps, hl, hl'], by simp [Ty.ps]; rw [List.take_of_length_le (by simp; omega)]⟩⟩, fun j' o' _ e => by cases e; exact sj, rfl, ?_⟩
  intro k w x' h1 h2
  match k with
  | 0 => simp [Ty.ps] at h1 h2; subst h1; subst h2; exact hr
  | 1 => simp [Ty.ps] at h1 h2; subst h1; subst h2; exact hr'
  | k + 2 => simp at h1
theorem Zhy.make {S : Nat → Prop} {h : Zaa} {t : Ty} {j n c : Nat} {e : Bool} {vs : List (List Zam)} (hn : n = t.ps.length) (sj : S j) (hj : h[j]? = some (.cells Zad vs.flatten false)) (hl : vs.length = n)
  (hq : ∀ (k : Nat) (w : List Zam) (x : Ty), vs[k]? = some w → t.ps[k]? = some x → Zhy S h x w) : Zhy S h t [.int .u8 (t.hd : Int), .slice (some (j, 0)) n c e] := by
 subst hn
 cases t with
 | k d => exact ⟨_, c, e, rfl⟩
 | u d x =>
  match vs, hl with
  | [r], _ => exact ⟨j, c, e, r, rfl, sj, by simpa using hj, hq 0 r x rfl rfl⟩
 | w d x y =>
  match vs, hl with
  | [r, r'], _ => exact ⟨j, c, e, r, r', rfl, sj, by simpa using hj, hq 0 r x rfl rfl, hq 1 r' y rfl rfl⟩

theorem Yjd : pg.underlying Zjz = some (.slice Zad) := by kernel_rfl
theorem Yph : pg.cellsOf Zad = 2 := by kernel_rfl
theorem Yof : pg.okElem Zad = true := by kernel_rfl
theorem Ypm : pg.bytesOf Zad ≤ 127 := Nat.le_of_ble_eq_true (by kernel_rfl)
theorem Yko (vs : List (List Zam)) (r : List Zam) : (vs ++ [r]).flatten = vs.flatten ++ r := by simp
theorem Ynl {vs : List (List Zam)} (h : ∀ v ∈ vs, v.length = 2) : vs.flatten.length = vs.length * 2 := by
 induction vs with
 | nil => rfl
 | cons v vs ih => rw [List.flatten_cons, List.length_append, h v (by simp), ih fun w hw => h w (by simp [hw]), List.length_cons]; omega
theorem Yuk {c : Nat} {ps : List Ty} (hok : ∀ p ∈ ps, p.ok = true) (ha : arN c = ps.length) : ∃ t : Ty, t.ok = true ∧ t.hd = c ∧ t.ps = ps := by
 match ps, ha, hok with
 | [], h0, _ =>
  refine ⟨.k c, ?_, rfl, rfl⟩
  simp only [Ty.ok]
  cases hl : Znw c with
  | true => rfl
  | false => unfold arN at h0; rw [hl] at h0; simp at h0; split at h0 <;> try split at h0
             all_goals omega
 | [x], h0, hok =>
  refine ⟨.u c x, ?_, rfl, rfl⟩
  simp only [Ty.ok, hok x (by simp), Bool.and_true, Bool.or_eq_true, beq_iff_eq]
  simp at h0
  unfold arN at h0; split at h0
  ·omega
  ·split at h0
   ·rename_i h; simpa using h
   ·split at h0 <;> omega
 | [x, y], h0, hok =>
  refine ⟨.w c x y, ?_, rfl, rfl⟩
  simp only [Ty.ok, hok x (by simp), hok y (by simp), Bool.and_true, beq_iff_eq]
  simp at h0
  unfold arN at h0; split at h0
  ·omega
  ·split at h0
   ·omega
   ·split at h0
    ·rename_i h; simpa using h
    ·omega
 | _ :: _ :: _ :: r, h0, _ =>
  simp at h0; unfold arN at h0; split at h0 <;> try split at h0
  all_goals try split at h0
  all_goals omega
theorem Yso (t : Ty) (r : List Nat) : t.txt ++ r = t.hd :: (Yal t.ps ++ (if t.ps = [] then r else 41 :: r)) := by
 cases t <;> simp [Ty.txt, Ty.hd, Ty.ps, Yal]
def Zwv (i : Nat) (s : List Nat) (k : Nat) (h : Zaa) (v : Zam) (h' : Zaa) : Prop :=
 Zgy i h h' ∧ ∃ (d : Nat) (a : Pt) (n c : Nat) (e : Bool) (k' : Nat) (bad : Bool), v = .agg [.int .u8 (d : Int), .slice a n c e] ∧ h'[i]? = some (rdr s k' bad) ∧ k' ≤ s.length ∧
  ((bad = false ∧ ∃ t, Zia (s.drop k) t (s.drop k') ∧ Zhy (Btw h.length h'.length) h' t [.int .u8 (d : Int), .slice a n c e]) ∨ (bad = true ∧ ∀ t r, ¬ Zia (s.drop k) t r))

theorem Zvi {s : List Nat} {k i : Nat} {h h' : Zaa} {k1 c i2 i3 n cp : Nat} {bad e : Bool} {a : Pt} {x y : Zam} (hil : i < h.length) (hK : Zgy i h h') (hgi : h'[i]? = some (rdr s k1 bad)) (hk1 : k1 ≤ s.length)
  (hi2 : h'[i2]? = some (.cells Zad [x, y] false)) (hl2 : h.length ≤ i2) (hne : i2 ≠ i3) (hi3 : h'[i3]? = some (.cells Zad [.int .u8 (c : Int), .slice a n cp e] false))
  (hfin : (bad = false ∧ ∃ t, Zia (s.drop k) t (s.drop k1) ∧ Zhy (fun x => Btw h.length h'.length x ∧ x ≠ i2) h' t [.int .u8 (c : Int), .slice a n cp e]) ∨ (bad = true ∧ ∀ t r, ¬ Zia (s.drop k) t r)) :
  Zbi.J12 (Zwv i s k h) i3 0 i2 0 h' := by
 apply Zbi.J12i
 rw [Zem hi3 (by simp)]
 simp only [List.drop_zero, List.take_succ_cons, List.take_zero, Zar, Zah, Zau, Zag, Zat]
 rw [Zbr hi2 (by simp)]
 simp only [Zaw]
 rw [Zem (Zcq hi2) (by simp [putRow])]
 simp only [putRow, List.take_zero, List.nil_append, List.length_cons, List.length_nil, List.cons_append, List.drop_succ_cons, List.drop_zero, List.drop_nil, List.append_nil, List.take_succ_cons, Zar, Zah, Zau, Zag, Zat]
 refine ⟨hK.trans' ?_, c, a, n, cp, e, k1, bad, rfl, by rw [Zcj (by omega)]; exact hgi, hk1, ?_⟩
 ·exact fun j hj => Zcj (by omega)
 ·rcases hfin with ⟨hb, t, ho, hr⟩ | hb
  ·refine .inl ⟨hb, t, ho, ?_⟩
   refine Zhy.mono (S := fun x => Btw h.length h'.length x ∧ x ≠ i2) (fun z hz => by simpa using hz.1) (hr.agree fun z hz => Zcj (fun e => hz.2 e.symm))
  ·exact .inr hb
theorem Yqv {s : List Nat} (hs : s.length ≤ 9223372036854775807) {k i : Nat} {h : Zaa} (hil : i < h.length)
  (ih : ∀ k', k < k' → k' ≤ s.length → ∀ (h : Zaa), h[i]? = some (rdr s k' false) → Zae pg Zeq [.ptr (some (i, 0))] h (Zwv i s k' h))
  {g : Zaa} {c k1 i2 i3 j0 : Nat} {bad : Bool} (hK : Zgy i h g) (hgi : g[i]? = some (rdr s k1 bad)) (hk1 : k1 ≤ s.length) (hl2 : h.length ≤ i2) (hl3 : h.length ≤ i3) (hlj : h.length ≤ j0)
  (hne : i2 ≠ i3) (hne2 : i2 ≠ j0) (hne3 : i3 ≠ j0) (hi2 : g[i2]? = some (.cells Zad [.int .u8 0, .slice none 0 0 true] false)) (hi3 : g[i3]? = some (.cells Zad [.int .u8 (c : Int), .slice (some (j0, 0)) 0 0 true] false))
  (hj0 : g[j0]? = some (.cells Zad [] false))
  (hcase : (bad = false ∧ k < k1 ∧ s.drop k = c :: s.drop k1 ∧ 0 ≤ arN c) ∨ (bad = true ∧ ∀ t r, ¬ Zia (s.drop k) t r)) :
  Zbi.J4 (Zwv i s k h) (some (i, 0)) i2 0 i3 0 (arN c) g := by
 apply Zbi.J4i
 have hm2 : arN c ≤ 2 := by unfold arN; split <;> try split
                            all_goals try split
                            all_goals omega
 have hi2l := Own.lt hi2
 have hi3l := Own.lt hi3
 refine Zbi.L5ind _ _ _ _ _ _ _ (J := fun (q : Nat) x5 h' => x5 = (q : Int) ∧ ∃ (bad : Bool) (k1 n cp : Nat) (e : Bool) (j : Nat), Zgy i h h' ∧ h'[i]? = some (rdr s k1 bad) ∧ k1 ≤ s.length ∧
   h'[i2]? = some (.cells Zad [.int .u8 0, .slice none 0 0 true] false) ∧ h'[i3]? = some (.cells Zad [.int .u8 (c : Int), .slice (some (j, 0)) n cp e] false) ∧ h.length ≤ j ∧ i2 ≠ j ∧ i3 ≠ j ∧ i2 < h'.length ∧ i3 < h'.length ∧
   ((bad = true ∧ ∀ t r, ¬ Zia (s.drop k) t r) ∨ (bad = false ∧ k < k1 ∧ n = q ∧ (q : Int) ≤ arN c ∧ ∃ (ps : List Ty) (vs : List (List Zam)), ps.length = q ∧ vs.length = q ∧ (∀ p ∈ ps, p.ok = true) ∧ s.drop k = c :: (Yal ps ++ s.drop k1) ∧
    h'[j]? = some (.cells Zad vs.flatten false) ∧ (∀ v ∈ vs, v.length = 2) ∧ ∀ (kk : Nat) (v : List Zam) (x : Ty), vs[kk]? = some v → ps[kk]? = some x → ∃ lo hi, h.length ≤ lo ∧ i2 < lo ∧ i3 < lo ∧ hi ≤ h'.length ∧ ¬ Btw lo hi j ∧ Zhy (Btw lo hi) h' x v)))
  (fun q => (arN c).toNat - q) ?_ 0 _ _ ⟨rfl, bad, k1, 0, 0, true, j0, hK, hgi, hk1, hi2, hi3, hlj, hne2, hne3, hi2l, hi3l, ?_⟩
 ·rintro q x5 h' ⟨rfl, bad, k1, n, cp, e, j, hK, hgi, hk1, hi2, hi3, hlj, hn2, hn3, hl2', hl3', hst⟩ R hR
  have over : ¬ (bad = false ∧ (q : Int) < arN c) → Zbi.A5x0 (Zwv i s k h) (arN c) (some (i, 0)) i3 0 i2 0 h' := by
   intro hgo
   ·skip
    apply Zbi.A5x0i
    rcases hst with ⟨hb, hno⟩ | ⟨hb, hkk, rfl, hq, ps, vs, hps, hvs, hok, hdr, hj, hv2, hrep⟩
    ·subst hb
     have hend := Zvi hil hK hgi hk1 hi2 hl2 hne hi3 (.inr ⟨rfl, hno⟩)
     refine Zan (fun _ => ?_) (fun _ => hend)
     unfold rdr at hgi
     simp only [Zax, Zaq hgi, Nat.zero_add, List.getElem?_cons_zero, List.getElem?_cons_succ, Zal, Bool.not_true, Zbh]
     exact hend
    ·subst hb
     have hqa : (n : Int) = arN c := by have : ¬ (n : Int) < arN c := fun hlt => hgo ⟨rfl, hlt⟩; omega
     obtain ⟨t, htok, hthd, htps⟩ := Yuk (c := c) hok (by omega)
     have hrT : Zhy (fun x => Btw h.length h'.length x ∧ x ≠ i2) h' t [.int .u8 (c : Int), .slice (some (j, 0)) n cp e] := by
      rw [← hthd]
      refine Zhy.make (vs := vs) (by rw [htps]; exact hps.symm) ⟨⟨hlj, Own.lt hj⟩, fun e => hn2 e.symm⟩ hj hvs fun kk v x hv hx => ?_
      rw [htps] at hx
      obtain ⟨lo, hi, h1, h2, h3, h4, h5, h6⟩ := hrep kk v x hv hx
      exact h6.mono fun z hz => ⟨⟨by have := hz.1; omega, by have := hz.2; omega⟩, by have := hz.1; omega⟩
     have hno : (∀ r, s.drop k1 ≠ (if t.ps = [] then r else 41 :: r)) → ∀ t' r, ¬ Zia (s.drop k) t' r := by
      intro hx t' r ho
      rw [hdr] at ho
      have h1 := Ty.ok_ar ho.1
      have hhd : t'.hd = c := by
       obtain ⟨r', hr⟩ := t'.txt_cons
       have := ho.2; rw [hr] at this; simp at this; exact this.1.symm
      rw [hhd] at h1
      have := ho.step hok (by omega)
      have h3 := this.2.2.2 (by omega)
      have hemp : t'.ps = [] ↔ t.ps = [] := by
       rw [← List.length_eq_zero_iff, ← List.length_eq_zero_iff, htps]; omega
      simp only [hemp] at h3
      exact hx _ h3
     have hyes : ∀ r, s.drop k1 = (if t.ps = [] then r else 41 :: r) → Zia (s.drop k) t r := by
      intro r hr
      refine ⟨htok, ?_⟩
      rw [Yso, hthd, hdr, hr, htps]
     refine Zan (fun hpos => ?_) (fun hz => ?_)
     ·have hne0 : t.ps ≠ [] := by rw [htps]; intro e0; rw [e0] at hps; simp at hps; omega
      simp only [if_neg hne0] at hno hyes
      have hgi' := hgi
      unfold rdr at hgi'
      simp only [Zax, Zaq hgi', Nat.zero_add, List.getElem?_cons_zero, List.getElem?_cons_succ, Zal, Bool.not_false, Zct]
      refine (Yeq hgi hk1 hs).mono ?_
      have hK2 : ∀ b' k2, Zgy i h (h'.set i (rdr s k2 b')) := fun b' k2 => hK.trans (Zgy.set _ _ _)
      have hin2 : i ≠ i2 := by omega
      have hin3 : i ≠ i3 := by omega
      have badEnd : ∀ k2, k2 ≤ s.length → (∀ r, s.drop k1 ≠ 41 :: r) → Zbi.J12 (Zwv i s k h) i3 0 i2 0 (h'.set i (rdr s k2 true)) := fun k2 hk2 hx =>
       Zvi hil (hK2 _ _) (Zcq hgi) hk2 (by rw [Zcj hin2]; exact hi2) hl2 hne (by rw [Zcj hin3]; exact hi3) (.inr ⟨rfl, hno hx⟩)
      rintro v h2 (⟨d, hd, hlt, rfl, rfl⟩ | ⟨hnil, rfl, rfl⟩)
      ·simp only [Zau]
       have hg2 : (h'.set i (rdr s (k1 + 1) false))[i]? = some (.cells Zdj [.str s, .int .i64 ((k1 + 1 : Nat) : Int), .bool false] false) := Zcq hgi
       refine Zgh (fun hne41 => ?_) (fun he41 => ?_)
       ·try simp only [Zax]
        rw [Zbr hg2 (by simp)]
        simp only [Zaw]
        have := badEnd (k1 + 1) (by omega) (fun r hr => by rw [hd] at hr; simp at hr; omega)
        simpa [rdr, putRow, List.set_set] using this
       ·have hd41 : d = 41 := by omega
        try simp only [Zax]
        rw [Zaq hg2]
        simp only [Nat.zero_add, List.getElem?_cons_zero, List.getElem?_cons_succ, Zal]
        rw [Zbr hg2 (by simp)]
        simp only [Zaw]
        have := Zvi (bad := false) (k1 := k1 + 1) hil (hK2 false (k1 + 1)) (Zcq hgi) (by omega) (by rw [Zcj hin2]; exact hi2) hl2 hne (by rw [Zcj hin3]; exact hi3)
         (.inl ⟨rfl, t, hyes _ (by rw [hd, hd41]), Zhy.mono (fun z hz => by simpa using hz) (hrT.agree fun z hz => Zcj (by have := hz.1.1; omega))⟩)
        simpa [rdr, putRow, List.set_set] using this
      ·simp only [Zau]
       have hg2 : (h'.set i (rdr s k1 true))[i]? = some (.cells Zdj [.str s, .int .i64 (k1 : Int), .bool true] false) := Zcq hgi
       simp only [show ((0 : Int) == 41) = false from rfl, Bool.not_false, Zct, Zax]
       rw [Zbr hg2 (by simp)]
       simp only [Zaw]
       have := badEnd k1 hk1 (fun r hr => by rw [hnil] at hr; cases hr)
       simpa [rdr, putRow, List.set_set] using this
     ·have he0 : t.ps = [] := by rw [htps]; exact List.eq_nil_of_length_eq_zero (by omega)
      refine Zvi hil hK hgi hk1 hi2 hl2 hne hi3 (.inl ⟨rfl, t, hyes _ (by rw [if_pos he0]), hrT⟩)
  unfold Zbi.L5t
  have hgi' := hgi
  unfold rdr at hgi'
  refine Zan (fun hlt => ?_) (fun hge => over fun hx => hge hx.2)
  simp only [Zax, Zaq hgi', Nat.zero_add, List.getElem?_cons_zero, List.getElem?_cons_succ, Zal]
  refine Zcb (fun hb => ?_) (fun hb => over fun hx => by rw [hb] at hx; cases hx.1)
  subst hb
  rcases hst with ⟨hb, _⟩ | ⟨_, hkk, rfl, hq, ps, vs, hps, hvs, hok, hdr, hj, hv2, hrep⟩
  ·cases hb
  have hin2 : i ≠ i2 := by omega
  have hin3 : i ≠ i3 := by omega
  have hn2' : n < 2 := by omega
  have hstep : ∀ t r, Zia (s.drop k) t r → ∃ p s', s.drop k1 = Zqc n :: s' ∧ ∃ r', Zia s' p r' := by
   intro t r ho
   rw [hdr] at ho
   have h1 := Ty.ok_ar ho.1
   have hhd : t.hd = c := by
    obtain ⟨r', hr⟩ := t.txt_cons
    have := ho.2; rw [hr] at this; simp at this; exact this.1.symm
   rw [hhd] at h1
   have := ho.step hok (by omega)
   rw [← hps]
   exact this.2.2.1 (by omega)
  apply Zbi.J7i
  refine ⟨⟨by omega, by simp; omega⟩, ?_⟩
  have hmk : ([40, 44] : List Nat).getD ((n : Int).toNat) 0 = Zqc n := by
   rw [Int.toNat_natCast]
   rcases n with _ | _ | n
   ·rfl
   ·rfl
   ·omega
  rw [hmk]
  refine (Yeq hgi hk1 hs).mono ?_
  have badGo : ∀ k2, k2 ≤ s.length → (∀ t r, ¬ Zia (s.drop k) t r) → Zbi.J8 (Zwv i s k h) R (some (i, 0)) i3 0 (n : Int) (arN c) i2 0 (h'.set i (rdr s k2 true)) := by
   intro k2 hk2 hno
   apply Zbi.J8i
   have hg := Zcq (x := rdr s k2 true) hgi
   have hg' : (h'.set i (rdr s k2 true))[i]? = some (.cells Zdj [.str s, .int .i64 (k2 : Int), .bool true] false) := hg
   simp only [Zax]
   rw [Zaq hg']
   simp only [Nat.zero_add, List.getElem?_cons_zero, List.getElem?_cons_succ, Zal, Bool.not_true, Zbh]
   apply Zbi.J6i
   rw [IntWalk.i64_in _ (by omega)]
   refine hR (n + 1) _ _ (by omega) ⟨by omega, true, k2, n, cp, e, j, hK.trans (Zgy.set _ _ _), hg, hk2, by rw [Zcj hin2]; exact hi2, by rw [Zcj hin3]; exact hi3, hlj, hn2, hn3, by simp; omega, by simp; omega, .inl ⟨rfl, hno⟩⟩
  rintro v h2 (⟨d, hd, hlt1, rfl, rfl⟩ | ⟨hnil, rfl, rfl⟩)
  ·simp only [Zau]
   have hg3 := Zcq (x := rdr s (k1 + 1) false) hgi
   have hg2 : (h'.set i (rdr s (k1 + 1) false))[i]? = some (.cells Zdj [.str s, .int .i64 ((k1 + 1 : Nat) : Int), .bool false] false) := hg3
   refine Zgh (fun hne1 => ?_) (fun he1 => ?_)
   ·simp only [Zax]
    rw [Zbr hg2 (by simp)]
    simp only [Zaw]
    have := badGo (k1 + 1) (by omega) (fun t r ho => by
     obtain ⟨p, s', hx, _⟩ := hstep t r ho
     rw [hd] at hx; simp at hx; omega)
    simpa [rdr, putRow, List.set_set] using this
   ·have hdm : d = Zqc n := by omega
    simp only [Zax]
    rw [Zaq hg2]
    simp only [Nat.zero_add, List.getElem?_cons_zero, List.getElem?_cons_succ, Zal]
    rw [Zbr hg2 (by simp)]
    simp only [Zaw]
    have hsame : (h'.set i (rdr s (k1 + 1) false)).set i (Zco.cells Zdj (putRow [Zam.str s, Zam.int .i64 ((k1 + 1 : Nat) : Int), Zam.bool false] 2 [Zam.bool false]) false) = h'.set i (rdr s (k1 + 1) false) := by
     simp [rdr, putRow, List.set_set]
    rw [hsame]
    apply Zbi.J8i
    simp only [Zax]
    rw [Zaq hg2]
    simp only [Nat.zero_add, List.getElem?_cons_zero, List.getElem?_cons_succ, Zal, Bool.not_false, Zct]
    have hi3a : (h'.set i (rdr s (k1 + 1) false))[i3]? = some (.cells Zad [.int .u8 (c : Int), .slice (some (j, 0)) n cp e] false) := by rw [Zcj hin3]; exact hi3
    rw [Zaq hi3a]
    simp only [List.getElem?_cons_zero, List.getElem?_cons_succ, Zag]
    refine (ih (k1 + 1) (by omega) (by omega) _ hg3).mono ?_
    rintro v h3 ⟨hK3, d3, a3, n3, c3, e3, k3, bad3, rfl, hg4, hk3, hres⟩

    have hl3 := hK3.le
    simp only [List.length_set] at hl3
    have hold3 : ∀ z, z < h'.length → z ≠ i → h3[z]? = h'[z]? := fun z hz hzi => by rw [hK3.eq z (by simpa using hz) hzi, Zcj (by omega)]
    have hi33 : h3[i3]? = some (.cells Zad [.int .u8 (c : Int), .slice (some (j, 0)) n cp e] false) := by rw [hold3 _ hl3' (by omega)]; exact hi3
    have hj3 : h3[j]? = some (.cells Zad vs.flatten false) := by rw [hold3 _ (Own.lt hj) (by omega)]; exact hj
    simp only [Zdp, Zah, Zau, Zag, Zat]
    refine ⟨by rw [Zaq hi33]; rfl, ?_⟩
    simp only [Zaz]
    refine ⟨by rw [Zaq (Zpg hi33), Zaq hi33], ?_⟩
    refine (Vec.mk1 hj3).pushN Yjd Yph Yof Ypm (by rw [Ynl hv2, hvs]) rfl (by omega) (by simp [Zam.leaf]) (by omega) (fun h4 hl4 hi4 hk4 => ?_)
    simp only [Zag]
    have hold4 : ∀ z, z < h3.length → z ≠ j → h4[z]? = h3[z]? := fun z hz hzj => hk4 z hz fun w hw => by cases hw; exact hzj
    have hi34 : h4[i3]? = some (.cells Zad [.int .u8 (c : Int), .slice (some (j, 0)) n cp e] false) := by rw [hold4 _ (by omega) hn3]; exact hi33
    rw [Zbr hi34 (by simp)]
    simp only [Zaw]
    apply Zbi.J6i
    rw [IntWalk.i64_in _ (by omega)]
    have hiL : i < h'.length := Own.lt hgi
    have hold5 : ∀ (x : Zco) z, z ≠ i3 → z ≠ j → z < h3.length → (h4.set i3 x)[z]? = h3[z]? := fun x z h1 h2 h3 => by rw [Zcj (by omega), hold4 _ h3 h2]
    refine hR (n + 1) _ _ (by omega) ⟨by omega, bad3, k3, n + 1, n + 1, false, h3.length + 1, ?_, ?_, hk3, ?_, ?_, by omega, by omega, by omega, by simp; omega, by simp; omega, ?_⟩
    ·refine ⟨by simp; have := hK.le; omega, fun z hz hzi => ?_⟩
     have := hK.le
     rw [hold5 _ _ (by omega) (by omega) (by omega), hold3 _ (by omega) hzi]; exact hK.eq z hz hzi
    ·rw [hold5 _ _ hin3 (by omega) (by omega)]; exact hg4
    ·rw [hold5 _ _ hne hn2 (by omega), hold3 _ hl2' (by omega)]; exact hi2
    ·rw [Zcq hi34]; simp [putRow]
    ·rcases hres with ⟨hb3, t, ho, hr⟩ | ⟨hb3, hno⟩
     ·refine .inr ⟨hb3, ?_, rfl, by omega, ps ++ [t], vs ++ [[.int .u8 (d3 : Int), .slice a3 n3 c3 e3]], by simp [hps], by simp [hvs], ?_, ?_, ?_, ?_, ?_⟩
      ·have := ho.2
       have hl := congrArg List.length this
       simp at hl; have := t.txt_pos; omega
      ·intro p hp
       rcases List.mem_append.1 hp with hp | hp
       ·exact hok p hp
       ·simp at hp; subst hp; exact ho.1
      ·rw [hdr, hd, hdm, ho.2]
       match ps, hps, hn2' with
       | [], hps, _ => subst hps; simp [Yal, Zqc]
       | [x], hps, _ => subst hps; simp [Yal, Zqc]
       | x :: y :: l, hps, _ => simp at hps; omega
      ·rw [Zcj (by omega), hi4, Yko]
      ·intro v hv
       rcases List.mem_append.1 hv with hv | hv
       ·exact hv2 v hv
       ·simp at hv; subst hv; rfl
      ·intro kk v x hv hx
       by_cases hkn : kk < n
       ·rw [List.getElem?_append_left (by omega)] at hv hx
        obtain ⟨lo, hi, h1, h2, h2', h3', h4', h5⟩ := hrep kk v x hv hx
        refine ⟨lo, hi, h1, h2, h2', by simp; omega, fun hb => by have := hb.2; omega, h5.agree fun z hz => ?_⟩
        have := hz.1; have := hz.2
        rw [hold5 _ _ (by omega) (fun e => h4' (e ▸ hz)) (by omega), hold3 _ (by omega) (by omega)]
       ·have hk' : kk = n := by
         have := (List.getElem?_eq_some_iff.1 hv).1; simp at this; omega
        subst hk'
        rw [List.getElem?_append_right (by omega)] at hv hx
        simp [hps, hvs] at hv hx
        subst hv; subst hx
        refine ⟨h'.length, h3.length, by have := hK.le; omega, by omega, by omega, by simp; omega, fun hb => by have := hb.2; omega, ?_⟩
        have hr' : Zhy (Btw h'.length h3.length) h3 t [.int .u8 (d3 : Int), .slice a3 n3 c3 e3] := by simpa using hr
        refine hr'.agree fun z hz => ?_
        have := hz.1; have := hz.2; have := Own.lt hj
        rw [hold5 _ _ (by omega) (by omega) (by omega)]
     ·refine .inl ⟨hb3, fun t r ho => ?_⟩
      obtain ⟨p, s', hx, r', ho'⟩ := hstep t r ho
      rw [hd] at hx; simp at hx
      rw [← hx.2] at ho'
      exact hno _ _ ho'
  ·simp only [Zau]
   have hg2 : (h'.set i (rdr s k1 true))[i]? = some (.cells Zdj [.str s, .int .i64 (k1 : Int), .bool true] false) := Zcq hgi
   refine Zgh (fun _ => ?_) (fun he1 => by exfalso; unfold Zqc at he1; split at he1 <;> omega)
   simp only [Zax]
   rw [Zbr hg2 (by simp)]
   simp only [Zaw]
   have := badGo k1 hk1 (fun t r ho => by
    obtain ⟨p, s', hx, _⟩ := hstep t r ho
    rw [hnil] at hx; cases hx)
   simpa [rdr, putRow, List.set_set] using this
 ·rcases hcase with ⟨hb, hkk, hdr, ha⟩ | hb
  ·exact .inr ⟨hb, hkk, rfl, by simpa using ha, [], [], rfl, rfl, by simp, by simpa [Yal] using hdr, by simpa using hj0, by simp, by simp⟩
  ·exact .inl hb

theorem Yqw {s : List Nat} (hs : s.length ≤ 9223372036854775807) (i : Nat) : ∀ (N k : Nat), s.length - k ≤ N → k ≤ s.length → ∀ (h : Zaa), h[i]? = some (rdr s k false) →
  Zae pg Zeq [.ptr (some (i, 0))] h (Zwv i s k h) := by
 intro N
 induction N using Nat.strongRecOn with
 | _ N ihN =>
 intro k hN hk h hi
 have hil := Own.lt hi
 have ih : ∀ k', k < k' → k' ≤ s.length → ∀ (h : Zaa), h[i]? = some (rdr s k' false) → Zae pg Zeq [.ptr (some (i, 0))] h (Zwv i s k' h) :=
  fun k' h1 h2 => ihN (s.length - k') (by omega) k' (Nat.le_refl _) h2
 apply Zbi.call
 simp only [Zaz]
 refine (Yeq (Zpg hi) hk hs).mono ?_
 have main : ∀ (c k1 : Nat) (b1 : Bool), k1 ≤ s.length → ((b1 = false ∧ k < k1 ∧ s.drop k = c :: s.drop k1) ∨ (b1 = true ∧ arN c < 0 ∧ s.drop k = [])) → ∀ h2, h2 = (h ++ [Zco.cells Zad [.int .u8 0, .slice none 0 0 true] false]).set i (rdr s k1 b1) →
   Zcp (Zbk (h2 ++ [Zco.cells Zad [] false] ++ [Zco.cells Zad [.int .u8 0, .slice none 0 0 true] false]) (.ptr (some (List.length (h2 ++ [Zco.cells Zad [] false]), 0))) [.int .u8 (c : Int), .slice (some (List.length h2, 0)) 0 0 true]) fun h_6 => Zen .u8 (Zak h_6 (.ptr (some (List.length (h2 ++ [Zco.cells Zad [] false]), 0 + 0)))) fun x_7 => Zae pg Zle [.int .u8 x_7] h_6 fun v_8 h_9 =>
    Zen .i64 (some v_8) fun x_10 => Zbl (some (i, 0)) fun i_11 o_12 => Zci (Zak h_9 (.ptr (some (i_11, o_12 + 2)))) fun b_13 => bcase b_13 (Zbl (some (i, 0)) fun i_14 o_15 => Zcp (Zbk h_9 (.ptr (some (i_14, o_15 + 2))) [.bool true]) fun h_16 => Zbi.J4 (Zwv i s k h) (some (i, 0)) (List.length h) 0 (List.length (h2 ++ [Zco.cells Zad [] false])) 0 x_10 h_16) (Zbl (some (i, 0)) fun i_17 o_18 => Zcp (Zbk h_9 (.ptr (some (i_17, o_18 + 2))) [.bool (decide ((x_10 : Int) < 0))]) fun h_19 => Zbi.J4 (Zwv i s k h) (some (i, 0)) (List.length h) 0 (List.length (h2 ++ [Zco.cells Zad [] false])) 0 x_10 h_19) := by
  intro c k1 b1 hk1 hc h2 hh2
  have hl2 : h2.length = h.length + 1 := by rw [hh2]; simp
  have hi2 : h2[i]? = some (rdr s k1 b1) := by rw [hh2]; exact Zcq (Zpg hi)
  have hz2 : h2[h.length]? = some (.cells Zad [.int .u8 0, .slice none 0 0 true] false) := by rw [hh2, Zcj (by omega)]; simp
  have hK2 : Zgy i h h2 := by rw [hh2]; exact (Zgy.app i h _).trans (Zgy.set _ _ _)
  generalize hg : h2 ++ [Zco.cells Zad [] false] = g
  have hgl : g.length = h.length + 2 := by rw [← hg]; simp [hl2]
  have hgi : g[i]? = some (rdr s k1 b1) := by rw [← hg]; exact Zpg hi2
  have hgz : g[h.length]? = some (.cells Zad [.int .u8 0, .slice none 0 0 true] false) := by rw [← hg]; exact Zpg hz2
  have hga : g[h2.length]? = some (.cells Zad [] false) := by rw [← hg]; simp
  have hKg : Zgy i h g := by rw [← hg]; exact hK2.trans (Zgy.app i _ _)
  have hn : (g ++ [Zco.cells Zad [.int .u8 0, .slice none 0 0 true] false])[g.length]? = some (Zco.cells Zad [.int .u8 0, .slice none 0 0 true] false) := by simp
  rw [Zbr hn (by simp)]
  simp only [Zaw]
  rw [Zaq (Zcq hn)]
  simp only [putRow, List.take_zero, List.nil_append, List.cons_append, Nat.add_zero, List.getElem?_cons_zero, Zau]
  refine (Yiu c).mono ?_
  rintro v h9 ⟨rfl, rfl⟩
  have hold : ∀ (x : Zco) z w, g[z]? = some w → ((g ++ [Zco.cells Zad [.int .u8 0, .slice none 0 0 true] false]).set g.length x)[z]? = some w := fun x z w hz => by rw [Zcj (by have := Own.lt hz; omega)]; exact Zpg hz
  simp only [Zau, Zax]
  have h9i := hold (Zco.cells Zad [.int .u8 (c : Int), .slice (some (List.length h2, 0)) 0 0 true] false) i _ hgi
  have h9i' : ((g ++ [Zco.cells Zad [.int .u8 0, .slice none 0 0 true] false]).set g.length (Zco.cells Zad [.int .u8 (c : Int), .slice (some (List.length h2, 0)) 0 0 true] false))[i]? = some (.cells Zdj [.str s, .int .i64 (k1 : Int), .bool b1] false) := h9i
  rw [show (Zam.int IntKind.u8 (c : Int) :: Zam.slice (some (List.length h2, 0)) 0 0 true :: List.drop (0 + [Zam.int IntKind.u8 (c : Int), Zam.slice (some (List.length h2, 0)) 0 0 true].length) [Zam.int IntKind.u8 0, Zam.slice none 0 0 true]) = [.int .u8 (c : Int), .slice (some (List.length h2, 0)) 0 0 true] from rfl]
  have tail : ∀ b2, ((b2 = false ∧ k < k1 ∧ s.drop k = c :: s.drop k1 ∧ 0 ≤ arN c) ∨ (b2 = true ∧ ∀ t r, ¬ Zia (s.drop k) t r)) → ∀ g2, g2 = (((g ++ [Zco.cells Zad [.int .u8 0, .slice none 0 0 true] false]).set g.length (Zco.cells Zad [.int .u8 (c : Int), .slice (some (List.length h2, 0)) 0 0 true] false)).set i (rdr s k1 b2)) →
    Zbi.J4 (Zwv i s k h) (some (i, 0)) (List.length h) 0 (List.length g) 0 (arN c) g2 := by
   intro b2 hb g2 hg2
   refine Yqv hs hil ih (c := c) (k1 := k1) (bad := b2) (j0 := h2.length) ?_ ?_ hk1 (Nat.le_refl _) (by omega) (by omega) (by omega) (by omega) (by omega) ?_ ?_ ?_ hb
   ·rw [hg2]; exact ((hKg.trans (Zgy.app i _ _)).trans' (fun j hj => Zcj (by omega))).trans (Zgy.set _ _ _)
   ·rw [hg2]; exact Zcq h9i
   ·rw [hg2, Zcj (by omega)]; exact hold _ _ _ hgz
   ·rw [hg2, Zcj (by omega)]; exact Zcq hn
   ·rw [hg2, Zcj (by omega)]; exact hold _ _ _ hga
  rw [Zaq h9i']
  simp only [Nat.zero_add, List.getElem?_cons_zero, List.getElem?_cons_succ, Zal]
  rw [Zbr h9i' (by simp), Zbr h9i' (by simp)]
  simp only [Zaw]
  rcases hc with ⟨rfl, h1, h2'⟩ | ⟨rfl, h1, h2'⟩
  ·simp only [Zbh]
   by_cases ha : arN c < 0
   ·refine tail true (.inr ⟨rfl, ?_⟩) _ (by simp [rdr, putRow, ha])
    intro t r ho
    have h3 := Ty.ok_ar ho.1
    have hhd : t.hd = c := by
     obtain ⟨r', hr⟩ := t.txt_cons
     have := ho.2; rw [hr, h2'] at this; simp at this; exact this.1.symm
    rw [hhd] at h3; omega
   ·exact tail false (.inl ⟨rfl, h1, h2', by omega⟩) _ (by simp [rdr, putRow, ha])
  ·simp only [Zct]
   refine tail true (.inr ⟨rfl, ?_⟩) _ (by simp [rdr, putRow])
   intro t r ho
   rw [h2'] at ho; exact Zia.nil ho
 rintro v h2 (⟨c, hd, hlt, rfl, hh⟩ | ⟨hnil, rfl, hh⟩)
 ·simp only [Zau]
  exact main c (k + 1) false (by omega) (.inl ⟨rfl, by omega, hd⟩) h2 hh
 ·simp only [Zau]
  exact main 0 k true hk (.inr ⟨rfl, by decide, hnil⟩) h2 hh

theorem Zqi (s : List Nat) (hs : s.length ≤ 9223372036854775807) (h : Zaa) : Zae pg Zgt [.str s] h fun v h' => Zbb h.length h h' ∧ ∃ vs : List Zam, v = .tup [.agg vs, .bool (Zos s)] ∧
  (match Zjp s with | some t => Zhy (Btw h.length h'.length) h' t vs | none => vs = [.int .u8 0, .slice none 0 0 true]) := by
 apply Zpa.call
 simp only [Zaz]
 generalize hg : h ++ [Zco.cells Zad [.int .u8 0, .slice none 0 0 true] false] = g
 have hgl : g.length = h.length + 1 := by rw [← hg]; simp
 have hgz : g[h.length]? = some (.cells Zad [.int .u8 0, .slice none 0 0 true] false) := by rw [← hg]; simp
 have hgs : Zbb h.length h g := by rw [← hg]; exact Zbb.app (Nat.le_refl _) _
 have hr : (g ++ [Zco.cells Zdj [.str s, .int .i64 0, .bool false] false])[g.length]? = some (rdr s 0 false) := by simp [rdr]
 refine (Yqw hs g.length _ 0 (Nat.le_refl _) (Nat.zero_le _) _ hr).mono ?_
 rintro v h3 ⟨hK, d, a, n, c, e, k', bad, rfl, hi, hk', hres⟩
 simp only [Zdp, Zah, Zau, Zag, Zat, Zaz]
 have hl3 := hK.le
 simp at hl3
 have hz3 : h3[h.length]? = some (.cells Zad [.int .u8 0, .slice none 0 0 true] false) := by rw [hK.eq _ (by simp; omega) (by omega)]; exact Zpg hgz
 have hs3 : Zbb h.length h h3 := ⟨by omega, fun j hj => by rw [hK.eq _ (by simp; omega) (by omega), Ybw (by omega)]; exact hgs.eq j hj⟩
 have hn : (h3 ++ [Zco.cells Zad [.int .u8 0, .slice none 0 0 true] false])[h3.length]? = some (.cells Zad [.int .u8 0, .slice none 0 0 true] false) := by simp
 rw [Zbr hn (by simp)]
 simp only [Zaw]
 generalize h5e : (h3 ++ [Zco.cells Zad [.int .u8 0, .slice none 0 0 true] false]).set h3.length (.cells Zad (putRow [.int .u8 0, .slice none 0 0 true] 0 [.int .u8 (d : Int), .slice a n c e]) false) = h5
 have h5o : ∀ z, z < h3.length → h5[z]? = h3[z]? := fun z hz => by rw [← h5e, Zcj (by omega), Ybw hz]
 have h5l : h5.length = h3.length + 1 := by rw [← h5e]; simp
 have h5n : h5[h3.length]? = some (.cells Zad [.int .u8 (d : Int), .slice a n c e] false) := by rw [← h5e, Zcq hn]; simp [putRow]
 have h5i : h5[g.length]? = some (.cells Zdj [.str s, .int .i64 (k' : Int), .bool bad] false) := by rw [h5o _ (Own.lt hi)]; exact hi
 have h5z : h5[h.length]? = some (.cells Zad [.int .u8 0, .slice none 0 0 true] false) := by rw [h5o _ (Own.lt hz3)]; exact hz3
 have h5s : Zbb h.length h h5 := ⟨by omega, fun j hj => by rw [h5o _ (by omega)]; exact hs3.eq j hj⟩
 rw [Zaq h5i]
 simp only [Nat.zero_add, List.getElem?_cons_zero, List.getElem?_cons_succ, Zal]
 have fail : Zjp s = none → Zcp (Zbk h5 (.ptr (some (List.length h, 0))) [.int .u8 0, .slice none 0 0 true]) fun h_17 => Zdh (Zbv h_17 (.ptr (some (List.length h, 0))) 2) fun cs_18 => Zap cs_18 fun c_19 r_20 => Zen .u8 (some c_19) fun x_21 => Zap r_20 fun c_22 r_23 => xSl (some c_22) fun a_24 n_25 c_26 e_27 => Zcr r_23 (Zbb h.length h h_17 ∧ ∃ vs : List Zam, (Zam.tup [.agg [.int .u8 x_21, .slice a_24 n_25 c_26 e_27], .bool false]) = .tup [.agg vs, .bool (Zos s)] ∧
  (match Zjp s with | some t => Zhy (Btw h.length h_17.length) h_17 t vs | none => vs = [.int .u8 0, .slice none 0 0 true])) := by
  intro hno
  rw [Zbr h5z (by simp)]
  simp only [Zaw]
  rw [Zem (Zcq h5z) (by simp [putRow])]
  simp only [putRow, List.take_zero, List.nil_append, List.length_cons, List.length_nil, List.cons_append, List.drop_succ_cons, List.drop_zero, List.drop_nil, List.append_nil, List.take_succ_cons, Zar, Zah, Zau, Zag, Zat]
  refine ⟨⟨by simp; omega, fun j hj => by rw [Zcj (by omega)]; exact h5s.eq j hj⟩, _, by simp only [Zos, hno]; rfl, by rw [hno]⟩
 rw [List.drop_zero] at hres
 rcases hres with ⟨rfl, t, ho, hrep⟩ | ⟨rfl, hno⟩
 ·simp only [Zbh, Zaq h5i, Nat.zero_add, List.getElem?_cons_zero, List.getElem?_cons_succ, Zau]
  refine Zgh (fun hne => fail ?_) (fun he => ?_)
  ·unfold Zjp
   split
   ·exact Zqu.2 fun t' ht' e' => by
     have := (ho.unique ⟨ht', show s = t'.txt ++ [] by simpa using e'⟩).2
     have := congrArg List.length this
     simp at this; omega
   ·rfl
  ·have hk : k' = s.length := by omega
   subst hk
   rw [List.drop_length] at ho
   have hs' : s = t.txt := by simpa using ho.2
   refine Zan (fun hl => fail ?_) (fun hl => ?_)
   ·unfold Zjp; rw [if_neg (by omega)]
   ·have hof : Zjp s = some t := Zfs.2 ⟨ho.1, hs', by omega⟩
    apply Zpa.J5i
    rw [Zem h5n (by simp)]
    simp only [List.drop_zero, List.take_succ_cons, List.take_zero, Zar, Zah, Zau, Zag, Zat]
    rw [Zbr h5z (by simp)]
    simp only [Zaw]
    rw [Zem (Zcq h5z) (by simp [putRow])]
    simp only [putRow, List.take_zero, List.nil_append, List.length_cons, List.length_nil, List.cons_append, List.drop_succ_cons, List.drop_zero, List.drop_nil, List.append_nil, List.take_succ_cons, Zar, Zah, Zau, Zag, Zat]
    refine ⟨⟨by simp; omega, fun j hj => by rw [Zcj (by omega)]; exact h5s.eq j hj⟩, _, by simp only [Zos, hof]; rfl, ?_⟩
    rw [hof]
    refine Zhy.mono (S := Btw (g ++ [Zco.cells Zdj [.str s, .int .i64 0, .bool false] false]).length h3.length) (fun z hz => ⟨by have := hz.1; simp at this; omega, by have := hz.2; simp; omega⟩) (hrep.agree fun z hz => ?_)
    have h1 := hz.1; have h2 := hz.2
    simp at h1
    rw [Zcj (by omega), h5o _ h2]
 ·simp only [Zct]
  refine fail ?_
  unfold Zjp
  split
  ·exact Zqu.2 fun t' ht' e' => hno t' [] ⟨ht', by simpa using e'⟩
  ·rfl
theorem Zke (s : List Nat) (hs : s.length ≤ 9223372036854775807) (h : Zaa) : Zae pg Zfg [.str s] h fun v h' => v = .bool (Zos s) ∧ Zbb h.length h h' := by
 apply Zpu.call
 refine (Zqi s hs h).mono ?_
 rintro v h1 ⟨hS, vs, rfl, hm⟩
 have hvs : ∃ (d : Int) (a : Pt) (n c : Nat) (e : Bool), vs = [.int .u8 d, .slice a n c e] := by
  split at hm
  ·obtain ⟨a, c, e, rfl⟩ := hm.shape; exact ⟨_, _, _, _, _, rfl⟩
  ·exact ⟨_, _, _, _, _, hm⟩
 obtain ⟨d, a, n, c, e, rfl⟩ := hvs
 simp only [Zdn, Zah, Zdp, Zau, Zag, Zat, Zal, Zaz]
 have hn : (h1 ++ [Zco.cells Zad [.int .u8 0, .slice none 0 0 true] false])[h1.length]? = some (.cells Zad [.int .u8 0, .slice none 0 0 true] false) := by simp
 rw [Zbr hn (by simp)]
 simp only [Zaw]
 exact ⟨by trivial, hS.trans ((Zbb.app hS.le _).trans (Zbb.set hS.le _))⟩
end Go.Sim

set_option linter.unusedVariables false
namespace Go.Sim
open Go Go.RowKit

theorem c9 : pg.cellsOf Zcm = 1 := by kernel_rfl
theorem k9 : pg.okElem Zcm = true := by kernel_rfl
theorem b9 : pg.bytesOf Zcm = 16 := by kernel_rfl

theorem Zoq {k n : Nat} (h : k < n) (hn : n ≤ 4611686018427387904) : IntKind.wrap .i64 ((k : Int) + 1) = ((k + 1 : Nat) : Int) := by rw [IntWalk.i64_in _ (by omega)]; omega

def Ypf (k : Nat) (acc : List Nat) : List Nat := if h : k = 0 then acc else Ypf (k / 10) ((48 + k % 10) :: acc)
 termination_by k
 decreasing_by omega
theorem Ymi (acc : List Nat) : Ypf 0 acc = acc := by unfold Ypf; simp
theorem Ynw {k : Nat} (h : k ≠ 0) (acc : List Nat) : Ypf k acc = Ypf (k / 10) ((48 + k % 10) :: acc) := by
 conv => lhs; unfold Ypf
 rw [dif_neg h]
def Zmw (k : Int) : List Nat := if k ≤ 0 then [109, 48] else 109 :: Ypf k.toNat []
theorem Yhu {h : Zaa} {t : TypeId} {cs : List Zam} {n : Nat} (hn : cs.length = n) : rowOf (h ++ [.cells t cs false]) (some (h.length, 0)) n = some cs := by
 subst hn
 exact (Own.row (b := 0) (t := t) ⟨h.length, rfl, by omega, by simp⟩).rowOf
theorem Zvp {h : Zaa} {t : TypeId} {v : Zam} : rowOf (h ++ [.cells t [v] false]) (some (h.length, 0)) 1 = some [v] := Yhu rfl
theorem Zkt {h : Zaa} {k : Int} (hk : k ≤ 4611686018427387904) : Zae pg Zfa [.int .i64 k] h fun v h' => v = .str (Zmw k) ∧ Zbb h.length h h' := by
 apply Zhx.call
 refine Zan (fun hle => ?_) (fun hgt => ?_)
 ·exact ⟨by simp [Zmw, hle], Zbb.refl _ _⟩
 ·refine Zhx.L4ind _ (J := fun (g : Nat) x0 x3 h' => x0 = (g : Int) ∧ Zbb h.length h h' ∧ Ypf g x3 = Ypf k.toNat [] ∧ (x3.length : Int) + g ≤ k) (fun g => g) ?_ k.toNat k [] h ⟨by omega, Zbb.refl _ _, rfl, by simp; omega⟩
  rintro g x0 x3 h' ⟨rfl, hs, hd, hb⟩ R hR
  unfold Zhx.L4t
  refine Zan (fun hlt => ?_) (fun hge => ?_)
  ·have h1 : Int.tmod (g : Int) 10 = ((g % 10 : Nat) : Int) := by rw [Int.tmod_eq_emod_of_nonneg (by omega)]; omega
   have h2 : Int.tdiv (g : Int) 10 = ((g / 10 : Nat) : Int) := by rw [Int.tdiv_eq_ediv_of_nonneg (by omega)]; omega
   rw [h1, h2, IntWalk.i64_in _ (by omega), IntWalk.u8_in _ (by omega), IntWalk.i64_in _ (by omega)]
   simp only [Zaz, Zvp, Zar]
   refine ⟨by omega, ?_⟩
   simp only [Zll, chk, decide_true]
   refine ⟨by omega, ?_, by omega, hR (g / 10) _ _ _ (by omega) ⟨rfl, hs.trans (Zbb.app hs.le _), ?_, ?_⟩⟩
   ·simp; omega
   ·rw [← hd, Ynw (k := g) (by omega)]
    congr 2
   ·simp; omega
  ·have : g = 0 := by omega
   subst this
   refine Zhx.A4x0i _ _ _ ⟨by simp; omega, ?_, hs⟩
   rw [Ymi] at hd
   unfold Zmw
   rw [if_neg (by omega), ← hd]; rfl

theorem Zoj {h : Zaa} {i : Nat} {x y : Zco} (hi : h[i]? = some y) : (h.set i x)[i]? = some x := by
 have := Own.lt hi
 simp [this]
def Yjx (k : Int) (n : Nat) : List (List Nat) := (List.range n).map fun (j : Nat) => Zmw (k + j)
@[simp] theorem Ypt (k : Int) (n : Nat) : (Yjx k n).length = n := by simp [Yjx]
theorem Ysc (k : Int) (n : Nat) : Yjx k (n + 1) = Yjx k n ++ [Zmw (k + n)] := by simp [Yjx, List.range_succ]

end Go.Sim

set_option linter.unusedVariables false
namespace Go.Sim
open Go Go.RowKit

def sp (l : List (List Nat)) : List Nat := [32].intercalate l
end Go.Sim

set_option linter.unusedVariables false
set_option linter.unusedSimpArgs false
set_option maxRecDepth 20000
namespace Go.Sim
open Go Go.RowKit

theorem Ztr {u : Nat} (h : u < 10) : Ydh u = [48 + u] := by
 unfold Ydh Lib.decDigits
 rw [dif_pos h]
 simp [UInt8.toNat_ofNat']; omega
theorem Ydq {u : Nat} (h : ¬ u < 10) : Ydh u = Ydh (u / 10) ++ [48 + u % 10] := by
 unfold Ydh
 conv => lhs; unfold Lib.decDigits
 rw [dif_neg h]
 simp [UInt8.toNat_ofNat']; omega
theorem Yfr : ∀ (k u : Nat), u < 10 ^ (k + 1) → (Ydh u).length ≤ k + 1 := by
 intro k
 induction k with
 | zero => intro u h; rw [Ztr (by omega)]; simp
 | succ k ih =>
  intro u h
  by_cases hu : u < 10
  ·rw [Ztr hu]; simp
  ·rw [Ydq hu]
   have := ih (u / 10) (by rw [Nat.pow_succ] at h; omega)
   simp; omega
theorem Yax {z : Int} (h : z < 0) : Yef z = 45 :: Ydh z.natAbs := by unfold Yef Lib.itoa Ydh; rw [if_pos h]; rfl
theorem Ybs {z : Int} (h : ¬ z < 0) : Yef z = Ydh z.toNat := by unfold Yef Lib.itoa Ydh; rw [if_neg h]
theorem Ynm {h : Zaa} {z : Int} (h0 : 0 ≤ z) (h1 : z ≤ 9223372036854775807) : Zgp.L6 (fun v h' => v = .str (Ydh z.toNat) ∧ Zbb h.length h h') z [] h := by
 refine Zgp.L6ind _ (J := fun (g : Nat) x0 x3 h' => x0 = (g : Int) ∧ Zbb h.length h h' ∧ Ydh g ++ x3 = Ydh z.toNat ∧ (g : Int) ≤ z) (fun g => g) ?_ z.toNat _ _ _ ⟨by omega, Zbb.refl _ _, by simp, by omega⟩
 rintro g x0 x3 h' ⟨rfl, hs, hd, hb⟩ R hR
 have hl : x3.length ≤ 20 := by
  have h2 := congrArg List.length hd
  rw [List.length_append] at h2
  have := Yfr 18 z.toNat (by omega); omega
 unfold Zgp.L6t
 refine Zan (fun hlt => ?_) (fun hge => ?_)
 ·have h1 : Int.tmod (g : Int) 10 = ((g % 10 : Nat) : Int) := by rw [Int.tmod_eq_emod_of_nonneg (by omega)]; omega
  have h2 : Int.tdiv (g : Int) 10 = ((g / 10 : Nat) : Int) := by rw [Int.tdiv_eq_ediv_of_nonneg (by omega)]; omega
  rw [h1, h2, IntWalk.i64_in _ (by omega), IntWalk.u8_in _ (by omega), IntWalk.i64_in _ (by omega)]
  simp only [Zaz, Zvp, Zar]
  refine ⟨by omega, ?_⟩
  simp only [Zll, chk, decide_true]
  refine ⟨by omega, by simp; omega, by omega, hR (g / 10) _ _ _ (by omega) ⟨rfl, hs.trans (Zbb.app hs.le _), ?_, by omega⟩⟩
  rw [← hd, Ydq (u := g) (by omega), show (48 + ((g % 10 : Nat) : Int)).toNat = 48 + g % 10 by omega]
  simp
 ·apply Zgp.A6x0i
  rw [IntWalk.i64_in _ (by omega), IntWalk.u8_in _ (by omega)]
  simp only [Zaz, Zvp, Zar, Zll, chk, decide_true]
  refine ⟨by omega, by simp; omega, ?_, hs.trans (Zbb.app hs.le _)⟩
  rw [← hd, Ztr (u := g) (by omega), show (48 + (g : Int)).toNat = 48 + g by omega]
theorem Ylg {h : Zaa} {z : Int} (h0 : -9223372036854775808 ≤ z) (h1 : z ≤ 9223372036854775807) : Zae pg Zka [.int .i64 z] h fun v h' => v = .str (Yef z) ∧ Zbb h.length h h' := by
 have pos : ∀ (z : Int) (h : Zaa), 0 ≤ z → z ≤ 9223372036854775807 → Zae pg Zka [.int .i64 z] h fun v h' => v = .str (Ydh z.toNat) ∧ Zbb h.length h h' := by
  intro z h h0 h1
  apply Zgp.call
  refine Zan (fun hlt => by omega) (fun hge => Zan (fun hlt => by omega) (fun hge => Ynm h0 h1))
 by_cases hz : z < 0
 ·apply Zgp.call
  refine Zan (fun hlt => ?_) (fun hge => Zan (fun hlt => ?_) (fun hge => by omega))
  ·have : z = -9223372036854775808 := by omega
   subst this
   exact ⟨by rw [Yax (by omega)]; simp [Ydq, Ztr], Zbb.refl _ _⟩
  ·rw [IntWalk.i64_in _ (by omega)]
   refine (pos (0 - z) h (by omega) (by omega)).mono ?_
   rintro v h' ⟨rfl, hs⟩
   simp only [Zai]
   have := Yfr 18 (0 - z).toNat (by omega)
   refine ⟨by simp only [List.length_cons, List.length_nil]; omega, ?_, hs⟩
   rw [Yax hz, show (0 - z).toNat = z.natAbs by omega]; rfl
 ·rw [Ybs hz]; exact pos z h (by omega) h1

theorem Ykk {h : Zaa} {a0 a1 : Pt} {n0 n1 c0 c1 : Nat} {e0 e1 : Bool} {l0 l1 : List Int} (r0 : Row h.length h a0 n0 (Zcf eI l0)) (r1 : Row h.length h a1 n1 (Zcf eI l1)) (hn : n0 ≤ 4611686018427387904) (heq : l0 = l1) :
  Zae pg Zif [.slice a0 n0 c0 e0, .slice a1 n1 c1 e1] h fun v h' => v = .bool true ∧ h' = h := by
 have h0 : l0.length = n0 := by have := r0.1; rw [Zay Zlu] at this; omega
 have h1 : l1.length = n1 := by have := r1.1; rw [Zay Zlu] at this; omega
 subst heq
 apply Zjw.call
 refine Zgh (fun hne => by omega) (fun he => ?_)
 refine Zjw.L4ind _ _ _ _ _ _ _ _ _ (J := fun (g : Nat) x5 h' => x5 = (g : Int) ∧ g ≤ n0 ∧ h' = h) (fun g => n0 - g) ?_ 0 _ _ ⟨rfl, by omega, rfl⟩
 rintro g x5 h' ⟨rfl, hg, rfl⟩ R hR
 unfold Zjw.L4t
 refine Zan (fun hlt => ?_) (fun hge => Zjw.A4x0i _ _ ⟨rfl, rfl⟩)
 obtain ⟨i, o, hgl, rfl, hi, hc⟩ := Row.el1 Zlu r0 (k := g) (by omega)
 obtain ⟨i', o', hgl', rfl, hi', hc'⟩ := Row.el1 Zlu r1 (k := g) (by omega)
 simp only [Zax, Int.toNat_natCast, hc, hc', eI, List.getElem?_cons_zero, Zau]
 refine ⟨by omega, by omega, by trivial, Zgh (fun hne => absurd rfl hne) (fun _ => ?_)⟩
 rw [Zbj (by omega)]
 exact hR (g + 1) _ _ (by omega) ⟨rfl, by omega, rfl⟩

end Go.Sim

set_option linter.unusedVariables false
set_option linter.unusedSimpArgs false
set_option maxRecDepth 20000
namespace Go.Sim
open Go Go.RowKit

end Go.Sim

set_option linter.unusedVariables false
namespace Go.Sim
open Go Go.RowKit

theorem Ybp {h : Zaa} {c t : List Nat} {x : Int} (hc : c.length ≤ 9223372036854775807) (ht : t.length ≤ 9223372036854775807) (hx : 0 ≤ x ∧ x ≤ 1048576) :
  Zae pg Zmc [.agg [.str c, .str t], .int .i64 x] h fun v h' => ∃ y, v = .int .i64 y ∧ Zbb h.length h h' ∧ (0 ≤ y → (c.length : Int) + t.length + y = x) := by
 apply Ztm.call
 simp only [Zaz]
 have s1 : Zbb h.length h (h ++ [.cells Zsb [.str c, .str t] false]) := Zbb.app (Nat.le_refl _) _
 simp [Zak]
 rw [IntWalk.i64_in _ (by omega)]
 refine Zan (fun hlt => s1) (fun hge => ?_)
 rw [IntWalk.i64_in _ (by omega)]
 exact Zan (fun hlt => s1) (fun hge => ⟨s1, by omega⟩)
theorem Ylk {h : Zaa} {c t : List Nat} (hb : c.length + t.length ≤ 1048576) :
  Zae pg Zku [.agg [.str c, .str t]] h fun v h' => v = .str (c ++ [32] ++ t) ∧ Zbb h.length h h' := by
 apply Zoh.call
 simp only [Zaz]
 have s1 : Zbb h.length h (h ++ [.cells Zaj [.str c, .str t] false]) := Zbb.app (Nat.le_refl _) _
 simp [Zak]
 exact ⟨by omega, by omega, s1⟩
theorem Yly {h : Zaa} {c t : List Nat} (hb : c.length + t.length ≤ 1048576) :
  Zae pg Zkv [.agg [.str c, .str t]] h fun v h' => v = .str (c ++ [32] ++ t) ∧ Zbb h.length h h' := by
 apply Zol.call
 simp only [Zaz]
 have s1 : Zbb h.length h (h ++ [.cells Zaj [.str c, .str t] false]) := Zbb.app (Nat.le_refl _) _
 simp [Zak]
 exact ⟨by omega, by omega, s1⟩
theorem Yde {h : Zaa} {c t c' t' : List Nat} :
  Zae pg Zmb [.agg [.str c, .str t], .agg [.str c', .str t']] h fun v h' => v = .bool (decide (c = c') && decide (t = t')) ∧ Zbb h.length h h' := by
 apply Zss.call
 simp only [Zaz]
 simp [Zak]
 by_cases e1 : c = c' <;> by_cases e2 : t = t' <;> simp [e1, e2] <;> exact Zbb.app (Nat.le_refl _) _
theorem Ycg {h : Zaa} {c t : List Nat} :
  Zae pg Zlz [.agg [.str c, .str t]] h fun v h' => v = .agg [.str c, .str t] ∧ Zbb h.length h h' := by
 apply Zth.call
 simp only [Zaz]
 simp [Zak, Zbk, Zbv, putRow, List.getElem?_append, List.getElem?_set]
 exact Zbb.app (Nat.le_refl _) _

def prs (l : List (List Nat × List Nat)) : List Zam := l.flatMap fun p => [.str p.1, .str p.2]
@[simp] theorem Yui : prs [] = [] := rfl
@[simp] theorem Yoq (p : List Nat × List Nat) (l : List (List Nat × List Nat)) : prs (p :: l) = .str p.1 :: .str p.2 :: prs l := rfl
@[simp] theorem Yse (a b : List (List Nat × List Nat)) : prs (a ++ b) = prs a ++ prs b := by simp [prs]
theorem Zhb (l : List (List Nat × List Nat)) : (prs l).length = l.length * 2 := by
 induction l with
 | nil => rfl
 | cons p l ih => simp [ih]; omega
theorem Zzo : ∀ (l : List (List Nat × List Nat)) (k : Nat), (prs l).drop (k * 2) = prs (l.drop k)
 | l, 0 => by simp
 | [], k + 1 => by simp
 | p :: l, k + 1 => by rw [Nat.succ_mul]; simpa using Zzo l k
theorem Row.pair {b : Nat} {h : Zaa} {a : Pt} {n : Nat} {l : List (List Nat × List Nat)} (r : Row b h a (n * 2) (prs l)) {k : Nat} (hk : k < n) :
  ∃ i o, ∃ hk' : k < l.length, a = some (i, o) ∧ i < b ∧ Zbv h (.ptr (some (i, o + k * 2))) 2 = some [.str l[k].1, .str l[k].2] := by
 have hl : l.length = n := by have := r.1; rw [Zhb] at this; omega
 obtain ⟨_, r⟩ := r
 rcases r with h0 | ⟨i, o, t, all, ro, ha, hb, hi, hle, hcs⟩
 ·omega
 ·refine ⟨i, o, by omega, ha, hb, ?_⟩
  have hd : (all.drop (o + k * 2)).take 2 = [.str l[k].1, .str l[k].2] := by
   have h1 : ((all.drop o).take (n * 2)).drop (k * 2) = prs (l.drop k) := by rw [← hcs, Zzo]
   rw [List.drop_take, List.drop_drop] at h1
   have h2 : (all.drop (o + k * 2)).take 2 = ((all.drop (o + k * 2)).take (n * 2 - k * 2)).take 2 := by rw [List.take_take, Nat.min_eq_left (by omega)]
   rw [h2, h1, List.drop_eq_getElem_cons (by omega)]
   simp only [Yoq, List.take_succ_cons, List.take_zero]
  simp only [Zbv, hi]
  rw [if_pos (by omega), hd]

def Ybb (l : List (List Nat × List Nat)) : Nat := (l.map fun p => p.1.length + p.2.length).sum
theorem Zvn {l : List (List Nat × List Nat)} {g : Nat} (h : g < l.length) : Ybb (l.take (g + 1)) = Ybb (l.take g) + (l[g].1.length + l[g].2.length) := by
 unfold Ybb; rw [List.take_succ_eq_append_getElem h, List.map_append, List.sum_append]; simp
theorem Ycw (l : List (List Nat × List Nat)) (g : Nat) : Ybb (l.take g) ≤ Ybb l := by
 conv => rhs; rw [← List.take_append_drop g l]
 unfold Ybb; rw [List.map_append, List.sum_append]; omega
theorem Yfx {l : List (List Nat × List Nat)} {g : Nat} (h : g < l.length) : l[g].1.length + l[g].2.length ≤ Ybb l := by
 have := Zvn h; have := Ycw l (g + 1); omega
theorem Yhx {h : Zaa} {a : Pt} {n c : Nat} {e : Bool} {l : List (List Nat × List Nat)} (r : Row h.length h a (n * 2) (prs l)) (hs : ∀ p ∈ l, p.1.length ≤ 9223372036854775807 ∧ p.2.length ≤ 9223372036854775807) (hn : n ≤ 9223372036854775807) {left : Int} (hl : 0 ≤ left ∧ left ≤ 1048576) :
  Zae pg Znz [.slice a n c e, .int .i64 left] h fun v h' => ∃ x, v = .int .i64 x ∧ Zbb h.length h h' ∧ (0 ≤ x → (n : Int) + Ybb l + x = left) := by
 have hll : l.length = n := by have := r.1; rw [Zhb] at this; omega
 apply Ziv.call
 rw [IntWalk.i64_in _ (by omega)]
 refine Zan (fun hlt => ?_) (fun hge => ?_)
 ·exact ⟨_, rfl, Zbb.refl _ _, by omega⟩
 ·refine Ziv.L5ind _ _ _ _ _ (J := fun (g : Nat) x1 x5 h' => x5 = (g : Int) ∧ Zbb h.length h h' ∧ g ≤ n ∧ 0 ≤ x1 ∧ x1 + n + Ybb (l.take g) = left) (fun g => n - g) ?_ 0 _ 0 h ⟨rfl, Zbb.refl _ _, by omega, by omega, by simp [Ybb]⟩
  rintro g x1 x5 h' ⟨rfl, hS, hg, h0, ht⟩ R hR
  unfold Ziv.L5t
  refine Zan (fun hlt => ?_) (fun hge => ?_)
  ·have hlt' : g < n := by omega
   obtain ⟨i, o, hgl, rfl, hi, hc⟩ := (r.same hS).pair hlt'
   have hsl := hs _ (List.getElem_mem hgl)
   simp only [Zax, Int.toNat_natCast, hc, Zar, Zah, Zat, Zai]
   refine ⟨by omega, (Ybp hsl.1 hsl.2 (by omega)).mono fun v h1 ⟨y, hv, hs1, hy⟩ => ?_⟩
   subst hv
   simp only [Zau]
   have hS1 := hS.trans (hs1.mono hS.le)
   refine Zan (fun hneg => ⟨_, rfl, hS1, by omega⟩) (fun hneg => ?_)
   rw [Zoq hlt' (by omega)]
   have hyy := hy (by omega)
   refine hR (g + 1) _ _ _ (by omega) ⟨rfl, hS1, by omega, by omega, ?_⟩
   rw [Zvn hgl]; omega
  ·have : g = n := by omega
   subst this
   rw [List.take_of_length_le (by omega)] at ht
   exact Ziv.A5x0i _ _ _ ⟨_, rfl, hS, by omega⟩
end Go.Sim

set_option linter.unusedVariables false
namespace Go.Sim
open Go Go.RowKit
theorem Ygy : ∀ (l : List (List Nat × List Nat)) (k : Nat), (prs l).take (k * 2) = prs (l.take k)
 | l, 0 => by simp
 | [], k + 1 => by simp
 | p :: l, k + 1 => by rw [Nat.succ_mul]; simpa using Ygy l k
theorem Ycc {h : Zaa} {i k : Nat} {t : TypeId} {L : List (List Nat × List Nat)} {a b : List Nat} (hi : h[i]? = some (.cells t (prs L) false)) (hk : k < L.length) :
  Zbk h (.ptr (some (i, k * 2))) [.str a, .str b] = some (h.set i (.cells t (prs (L.take k ++ [(a, b)] ++ L.drop (k + 1))) false)) := by
 have hle : k * 2 + 2 ≤ (prs L).length := by rw [Zhb]; omega
 simp only [Zbk, hi, List.length_cons, List.length_nil, Nat.zero_add, hle, if_true, putRow]
 rw [Ygy, show k * 2 + (1 + 1) = (k + 1) * 2 by omega, Zzo]
 simp
theorem Ygc (n : Nat) : reps n [.str [], .str []] = prs (List.replicate n ([], [])) := by
 unfold reps
 induction n with
 | zero => rfl
 | succ n ih => rw [List.replicate_succ, List.flatten_cons, ih, List.replicate_succ]; rfl
theorem Yho {h : Zaa} {a0 a1 : Pt} {n0 n1 c0 c1 : Nat} {e0 e1 : Bool} {l0 l1 : List (List Nat × List Nat)} (r0 : Row h.length h a0 (n0 * 2) (prs l0)) (r1 : Row h.length h a1 (n1 * 2) (prs l1)) (hn : n0 ≤ 4611686018427387904) (heq : l0 = l1) :
  Zae pg Znp [.slice a0 n0 c0 e0, .slice a1 n1 c1 e1] h fun v h' => v = .bool true ∧ Zbb h.length h h' := by
 subst heq
 have hl0 : l0.length = n0 := by have := r0.1; rw [Zhb] at this; omega
 have hl1 : l0.length = n1 := by have := r1.1; rw [Zhb] at this; omega
 have : n1 = n0 := by omega
 subst this
 apply Zir.call
 simp only [beq_self_eq_true, Bool.not_true, Zbh]
 refine Zir.L4ind _ _ _ _ _ _ _ _ _ (J := fun (k : Nat) x5 h' => Zbb h.length h h' ∧ x5 = (k : Int) ∧ k ≤ n1) (fun k => n1 - k) ?_ 0 0 h ⟨Zbb.refl _ _, rfl, by omega⟩
 rintro k x5 h' ⟨hs, rfl, hk⟩ R hR
 unfold Zir.L4t
 refine Zan (fun hlt => ?_) (fun hge => Zir.A4x0i _ _ ⟨rfl, hs⟩)
 have hlt' : k < n1 := by omega
 obtain ⟨i, o, hgl, rfl, _, hc0⟩ := (r0.same hs).pair hlt'
 obtain ⟨i', o', _, rfl, _, hc1⟩ := (r1.same hs).pair hlt'
 simp only [Zax, Int.toNat_natCast, hc0, hc1, Zar, Zah, Zat, Zai, true_and]
 refine ⟨⟨by omega, by omega⟩, ⟨by omega, by omega⟩, Yde.mono fun v h1 ⟨hv, hs1⟩ => ?_⟩
 subst hv
 simp only [Zal, decide_true, Bool.and_self, Bool.not_true, Zbh]
 rw [Zoq hlt' (by omega)]
 exact hR (k + 1) _ _ (by omega) ⟨hs.trans (hs1.mono hs.le), rfl, by omega⟩

def need (p : List Nat × List Nat) : List Nat := p.1 ++ [32] ++ p.2
end Go.Sim

set_option linter.unusedSimpArgs false
namespace Go.Sim

def Zfj : List Nat := [88, 89, 90, 120, 121, 122]
def Zsg (s : List Nat) : List Nat := Zfj.filter fun v => decide (v ∈ s)
theorem Zqo (c : Nat) : c ∈ Zfj ↔ Zdi c = true := by simp [Zfj, Zdi]; omega
theorem Zte {s : List Nat} (h : Zos s = true) : ∃ t, Zjp s = some t := Option.isSome_iff_exists.1 h
theorem Yls {s : List Nat} {t : Ty} (h : Zjp s = some t) : Zos s = true := by simp [Zos, h]
end Go.Sim

set_option linter.unusedSimpArgs false
namespace Go.Sim

abbrev Nd := List Nat × List Nat
abbrev Ins := Nd × List Nd
structure Wd where
 cs : List Nd
 is : List Ins

def Zuf (s : List Nat) : Bool := match s with | [c] => decide (65 ≤ c ∧ c ≤ 84) | _ => false
def Zgj (cs : List Nd) (c : List Nat) : Bool := cs.any fun x => decide (x.1 = c)
def Zxt (cs : List Nd) (s : List Nat) (k : Nat) : Bool := Zgj cs [s.getD k 0] && (k == 0 || decide (s.getD (k - 1) 0 < s.getD k 0))
def Ydd (cs : List Nd) (s : List Nat) : Bool := (List.range s.length).all (Zxt cs s)
def Zvv (cs : List Nd) (i : Nat) : Bool := Zuf (cs.getD i ([], [])).1 && (i == 0 || Zeh (cs.getD (i - 1) ([], [])).1 (cs.getD i ([], [])).1) && Ydd (cs.take i) (cs.getD i ([], [])).2
def Zjj (cs : List Nd) : Bool := (List.range cs.length).all (Zvv cs) && decide (1 ≤ cs.length ∧ cs.length ≤ 4)
def Zko (s : List Nat) : Bool := match s with | [c] => Zdi c | _ => false
noncomputable def Zki (cs : List Nd) (t : List Nat) (n : Nd) : Bool := Zgj cs n.1 && Zos n.2 && decide (n.2.length ≤ 20) && (Zsg n.2).all fun v => decide (v ∈ t)
noncomputable def Zmi (cs : List Nd) (i : Ins) : Bool := Zjj cs && Zgj cs i.1.1 && Zos i.1.2 && decide (i.1.2.length ≤ 20) && !Zko i.1.2 && decide (i.2.length ≤ 3) && i.2.all (Zki cs i.1.2)
noncomputable def Zdm (w : Wd) : Bool := Zjj w.cs && decide (w.is.length ≤ 10) && w.is.all (Zmi w.cs)
noncomputable def Zet (w : Wd) (n : Nd) : Bool := Zgj w.cs n.1 && Zos n.2
theorem Zha {f : Nat → Bool} {g : Nat} (h : (List.range g).all f = true) (k : f g = true) : (List.range (g + 1)).all f = true := by
 rw [List.range_succ, List.all_append, h]; simp [k]
theorem Zjx {f : Nat → Bool} {g n : Nat} (h : g < n) (k : f g = false) : (List.range n).all f = false := by
 rw [List.all_eq_false]; exact ⟨g, List.mem_range.2 h, by simp [k]⟩
theorem Zgk {α : Type} {f : α → Bool} {l : List α} {g : Nat} (hg : g < l.length) (h : (l.take g).all f = true) (k : f l[g] = true) : (l.take (g + 1)).all f = true := by
 rw [List.take_succ_eq_append_getElem hg, List.all_append, h]; simp [k]
theorem Zse {α : Type} {f : α → Bool} {l : List α} {g : Nat} (hg : g < l.length) (k : f l[g] = false) : l.all f = false := by
 rw [List.all_eq_false]; exact ⟨_, List.getElem_mem hg, by simp [k]⟩
theorem Zfp {α : Type} {l : List α} {g : Nat} {d : α} (h : g < l.length) : l.getD g d = l[g] := by simp [List.getD, h]
theorem Zwe {cs : List Nd} {c : List Nat} {g : Nat} (hg : g < cs.length) : Zgj (cs.take (g + 1)) c = (Zgj (cs.take g) c || decide (cs[g].1 = c)) := by
 unfold Zgj; rw [List.take_succ_eq_append_getElem hg, List.any_append]; simp
def Ydv (cs : List Nd) (c : List Nat) : Int := if Zgj cs c then (cs.findIdx fun x => decide (x.1 = c) : Nat) else -1
theorem Zvz (cs : List Nd) (c : List Nat) : decide (Ydv cs c < 0) = !Zgj cs c := by
 unfold Ydv; cases h : Zgj cs c <;> simp
theorem Ytj {t : List Nat} (h : Zos t = true) : Zko t = Zdi (t.headD 0) := by
 obtain ⟨u, hu, rfl, _⟩ := Zsx.1 h
 cases u with
 | k c => rfl
 | u c a =>
  have h1 := hu
  simp only [Ty.ok, Bool.and_eq_true, Bool.or_eq_true, beq_iff_eq] at h1
  rcases h1.1 with rfl | rfl <;> rfl
 | w c a b =>
  have h1 := hu
  simp only [Ty.ok, Bool.and_eq_true, beq_iff_eq] at h1
  rcases h1.1.1 with rfl; rfl
end Go.Sim

set_option linter.unusedVariables false
set_option linter.unusedSimpArgs false
set_option maxRecDepth 20000
namespace Go.Sim
open Go Go.RowKit

theorem Ykr {h : Zaa} {x a b : Int} : Zae pg Zpe [.int .i64 x, .int .i64 a, .int .i64 b] h fun v h' => v = .bool (decide (a ≤ x ∧ x ≤ b)) ∧ h' = h := by
 apply Zxj.call
 refine Zan (fun h1 => ?_) (fun h1 => ?_)
 ·have : a ≤ x := h1
  simp [this]
 ·have : ¬ a ≤ x := h1
  simp [this]
theorem Yix {h : Zaa} (s : List Nat) : Zae pg Znu [.str s] h fun v h' => v = .bool (Zuf s) ∧ h' = h := by
 apply Zrh.call
 match s with
 | [] => simp [Zuf]
 | [c] =>
  simp only [List.length_cons, List.length_nil, show ((0 + 1 : Nat) : Int) = 1 from rfl, beq_self_eq_true, Zct]
  have e1 : Zeh [c] [65] = decide (c < 65) := by simp [Zeh]
  have e2 : Zeh [c] [84] = decide (c < 84) := by simp [Zeh]
  rw [e1, e2]
  refine Zyf (fun h1 => ?_) (fun h1 => ?_)
  ·refine ⟨?_, by trivial⟩
   congr 1
   simp [Zuf]
   rw [Bool.eq_iff_iff]; simp; omega
  ·refine ⟨?_, by trivial⟩
   simp [Zuf]; omega
 | c :: d :: r =>
  refine Zfh (fun h1 => ?_) (fun h1 => ⟨rfl, rfl⟩)
  simp at h1; omega
theorem Yci {h : Zaa} (s : List Nat) (hb : ∀ b ∈ s, b < 256) : Zae pg Zlo [.str s] h fun v h' => v = .bool (Zuf s) ∧ h' = h := by
 apply Zpo.call
 match s, hb with
 | [], _ => simp [Zuf]
 | [c], hb =>
  have hc := hb c (by simp)
  simp only [List.length_cons, List.length_nil, show ((0 + 1 : Nat) : Int) = 1 from rfl, beq_self_eq_true, Zct]
  refine ⟨⟨by omega, by simp⟩, ?_⟩
  simp only [Int.toNat_zero, List.getD_cons_zero]
  rw [IntWalk.i64_in _ (by omega)]
  refine Ykr.mono ?_
  rintro v h' ⟨rfl, rfl⟩
  simp only [Zal]
  refine ⟨?_, by trivial⟩
  congr 1
  simp [Zuf]; rw [Bool.eq_iff_iff]; simp; omega
 | c :: d :: r, _ =>
  refine Zfh (fun h1 => ?_) (fun h1 => ⟨rfl, rfl⟩)
  simp at h1; omega
theorem Ynv : pg.underlying Zkl = some (.slice Zaj) := by kernel_rfl
theorem Ysr : pg.cellsOf Zaj = 2 := by kernel_rfl
theorem Ytl : pg.okElem Zaj = true := by kernel_rfl
theorem Yta : pg.bytesOf Zaj ≤ 127 := Nat.le_of_ble_eq_true (by kernel_rfl)
def Zcv {α : Type} (ty : TypeId) (enc : α → List Zam) (b : Nat) (h : Zaa) (a : Pt) (n : Nat) (l : List α) : Prop := l.length = n ∧ (n = 0 ∨ ∃ i, a = some (i, 0) ∧ b ≤ i ∧ h[i]? = some (.cells ty (Zcf enc l) false))
theorem Zcv.row {α : Type} {ty : TypeId} {enc : α → List Zam} {w b : Nat} {h : Zaa} {a : Pt} {n : Nat} {l : List α} (hw : ∀ x, (enc x).length = w) (f : Zcv ty enc b h a n l) : Row h.length h a (n * w) (Zcf enc l) := by
 obtain ⟨hl, h0 | ⟨i, ha, hb, hi⟩⟩ := f
 ·subst h0
  have : l = [] := List.eq_nil_of_length_eq_zero hl
  subst this; simp; exact Row.nil
 ·rw [ha]; exact (Vec.mk1 (n := 0) (c := 0) hi).row (by rw [Zay hw, hl])
theorem Zcv.same {α : Type} {ty : TypeId} {enc : α → List Zam} {b : Nat} {h h' : Zaa} {a : Pt} {n : Nat} {l : List α} (f : Zcv ty enc b h a n l) (s : Zbb h.length h h') : Zcv ty enc b h' a n l :=
 ⟨f.1, f.2.imp id fun ⟨i, ha, hb, hi⟩ => ⟨i, ha, hb, by rw [s.eq i (Own.lt hi)]; exact hi⟩⟩
end Go.Sim

set_option linter.unusedVariables false
set_option linter.unusedSimpArgs false
set_option maxRecDepth 20000
namespace Go.Sim
open Go Go.RowKit

def Zxw (a : Pt) (n : Nat) (h h' : Zaa) : Prop := h.length ≤ h'.length ∧ ∀ j, j < h.length → (∀ i, a = some (i, 0) → n ≠ 0 → j ≠ i) → h'[j]? = h[j]?
theorem Zxw.refl (a : Pt) (n : Nat) (h : Zaa) : Zxw a n h h := ⟨Nat.le_refl _, fun _ _ _ => rfl⟩
theorem Zxw.same {a : Pt} {n : Nat} {h h1 h2 : Zaa} (o : Zxw a n h h1) (s : Zbb h1.length h1 h2) : Zxw a n h h2 := ⟨Nat.le_trans o.1 s.le, fun j hj hn => by rw [s.eq j (by have := o.1; omega)]; exact o.2 j hj hn⟩
theorem Zxw.set {n i : Nat} {h h1 : Zaa} {x : Zco} (o : Zxw (some (i, 0)) n h h1) (hn : n ≠ 0) : Zxw (some (i, 0)) n h (h1.set i x) := ⟨by simp; exact o.1, fun j hj hne => by rw [Zcj (fun e => hne i rfl hn e.symm)]; exact o.2 j hj hne⟩
theorem Row.only {b : Nat} {h h' : Zaa} {a a' : Pt} {n m : Nat} {cs : List Zam} (r : Row b h a m cs) (o : Zxw a' n h h') (hb : ∀ i, a' = some (i, 0) → n ≠ 0 → b ≤ i) : Row b h' a m cs := by
 obtain ⟨hl, r⟩ := r
 refine ⟨hl, r.imp id ?_⟩
 rintro ⟨i, o', t, all, ro, ha, hi, hg, x⟩
 exact ⟨i, o', t, all, ro, ha, hi, by rw [o.2 i (Own.lt hg) fun j hj hn => by have := hb j hj hn; omega]; exact hg, x⟩
theorem Zsu {cs vs : List Zam} {o : Nat} (h : o + vs.length ≤ cs.length) : (putRow cs o vs).length = cs.length := by unfold putRow; simp; omega
theorem Ymc {L : List Nd} {g : Nat} {x y : List Nat} (hg : g < L.length) : putRow (putRow (Zcf eP L) (g * 2) [.str x]) (g * 2 + 1) [.str y] = Zcf eP (L.take g ++ (x, y) :: L.drop (g + 1)) := by
 have h1 : Zcf eP L = Zcf eP (L.take g) ++ .str L[g].1 :: .str L[g].2 :: Zcf eP (L.drop (g + 1)) := by
  have e0 : L = L.take g ++ L[g] :: L.drop (g + 1) := by rw [← List.drop_eq_getElem_cons hg, List.take_append_drop]
  have := congrArg (Zcf eP) e0
  rw [Zeg, Zfu] at this
  exact this
 have hA : (Zcf eP (L.take g)).length = g * 2 := by rw [Zay Zek, List.length_take]; omega
 generalize hAe : Zcf eP (L.take g) = A at *
 generalize hB : Zcf eP (L.drop (g + 1)) = B at *
 rw [h1]
 have e1 : putRow (A ++ Zam.str L[g].1 :: Zam.str L[g].2 :: B) (g * 2) [.str x] = A ++ .str x :: .str L[g].2 :: B := by
  unfold putRow
  rw [← hA, List.take_left, show A.length + [Zam.str x].length = A.length + 1 from rfl, ← List.drop_drop, List.drop_left]
  simp
 rw [e1]
 unfold putRow
 have e2 : (A ++ .str x :: .str L[g].2 :: B).take (g * 2 + 1) = A ++ [.str x] := by rw [← hA, List.take_length_add_append]; rfl
 have e3 : (A ++ .str x :: .str L[g].2 :: B).drop (g * 2 + 1 + [Zam.str y].length) = B := by
  rw [show g * 2 + 1 + [Zam.str y].length = A.length + 2 by rw [hA]; rfl, ← List.drop_drop, List.drop_left]; rfl
 rw [e2, e3]
 rw [Zeg, Zfu, hB, hAe]
 simp [eP]
def Zmj (k : Int) (n : Nat) : List Nd := (List.range n).map fun (j : Nat) => (Zmw (k + 2 * j), Zmw (k + 2 * j + 1))
theorem Ziq (k : Int) (n : Nat) : (Zmj k n).length = n := by simp [Zmj]
theorem Zys (k : Int) (n : Nat) : Zmj k (n + 1) = Zmj k n ++ [(Zmw (k + 2 * n), Zmw (k + 2 * n + 1))] := by simp [Zmj, List.range_succ]
theorem Ydb {h : Zaa} {b : Nat} {a : Pt} {n c : Nat} {e : Bool} {l : List Nd} {k : Int} (f : Zcv Zaj eP b h a n l) (hk : 0 ≤ k ∧ k + 2 * n ≤ 4611686018427387000) :
  Zae pg Zls [.slice a n c e, .int .i64 k] h fun v h' => v = .int .i64 (k + 2 * n) ∧ Zxw a n h h' ∧ Zcv Zaj eP b h' a n (Zmj k n) := by
 apply Zgu.call
 obtain ⟨hl, hf⟩ := f
 refine Zgu.L2ind _ _ _ _ _ (J := fun (g : Nat) x1 x5 h' => x5 = (g : Int) ∧ g ≤ n ∧ x1 = k + 2 * g ∧ Zxw a n h h' ∧ (n = 0 ∨ ∃ i, a = some (i, 0) ∧ b ≤ i ∧ h'[i]? = some (.cells Zaj (Zcf eP (Zmj k g ++ l.drop g)) false))) (fun g => n - g) ?_ 0 _ _ _
  ⟨rfl, by omega, by simp, Zxw.refl _ _ _, by simpa [Zmj] using hf⟩
 rintro g x1 x5 h' ⟨rfl, hg, rfl, hO, hst⟩ R hR
 unfold Zgu.L2t
 refine Zan (fun hlt => ?_) (fun hge => ?_)
 ·rcases hst with h0 | ⟨i, rfl, hbi, ho⟩
  ·omega
  have hn0 : n ≠ 0 := by omega
  have hgl : g < (Zmj k g ++ l.drop g).length := by simp [Ziq]; omega
  have hlen : (Zcf eP (Zmj k g ++ l.drop g)).length = n * 2 := by rw [Zay Zek]; simp [Ziq]; omega
  refine (Zkt (by omega)).mono ?_
  rintro v h1 ⟨rfl, s1⟩
  simp only [Zai, Zax, Int.toNat_natCast, Nat.zero_add, Nat.add_zero]
  have ho1 : h1[i]? = some (.cells Zaj (Zcf eP (Zmj k g ++ l.drop g)) false) := by rw [s1.eq i (Own.lt ho)]; exact ho
  rw [Zbr ho1 (by rw [hlen]; simp; omega)]
  simp only [Zaw]
  refine ⟨by omega, (Zkt (by rw [IntWalk.i64_in _ (by omega)]; omega)).mono ?_⟩
  rintro v h2 ⟨rfl, s2⟩
  simp only [Zai]
  rw [IntWalk.i64_in (k + 2 * (g : Int) + 1) (by omega)]
  have ho2 : h2[i]? = some (.cells Zaj (putRow (Zcf eP (Zmj k g ++ l.drop g)) (g * 2) [.str (Zmw (k + 2 * g))]) false) := by rw [s2.eq i (by simp; exact Own.lt ho1)]; exact Zcq ho1
  have hlen2 : (putRow (Zcf eP (Zmj k g ++ l.drop g)) (g * 2) [.str (Zmw (k + 2 * g))]).length = n * 2 := by rw [Zsu (by rw [hlen]; simp; omega), hlen]
  rw [Zbr ho2 (by rw [hlen2]; simp; omega)]
  simp only [Zaw]
  rw [IntWalk.i64_in _ (by omega), Zbj (by omega)]
  refine ⟨by omega, hR (g + 1) _ _ _ (by omega) ⟨rfl, by omega, by omega, ((hO.same s1).set hn0 |>.same s2).set hn0, .inr ⟨i, rfl, hbi, ?_⟩⟩⟩
  rw [Zcq ho2, Ymc hgl]
  congr 3
  rw [List.take_left' (Ziq k g), Zys]
  have : (Zmj k g ++ l.drop g).drop (g + 1) = l.drop (g + 1) := by
   rw [← List.drop_drop, List.drop_left' (Ziq k g), List.drop_drop]
  rw [this]; simp
 ·have : g = n := by omega
  subst this
  apply Zgu.A2x0i
  refine ⟨rfl, hO, Ziq _ _, ?_⟩
  rw [List.drop_of_length_le (by omega), List.append_nil] at hst
  exact hst
theorem Zcv.only {α : Type} {ty : TypeId} {enc : α → List Zam} {b : Nat} {h h' : Zaa} {a a' : Pt} {n m : Nat} {l : List α} (f : Zcv ty enc b h a n l) (o : Zxw a' m h h') (hb : ∀ i, a' = some (i, 0) → m ≠ 0 → ∀ j, a = some (j, 0) → j ≠ i) : Zcv ty enc b h' a n l :=
 ⟨f.1, f.2.imp id fun ⟨i, ha, hbi, hi⟩ => ⟨i, ha, hbi, by rw [o.2 i (Own.lt hi) fun j hj hn => hb j hj hn i ha]; exact hi⟩⟩
end Go.Sim

set_option linter.unusedVariables false
set_option linter.unusedSimpArgs false
set_option maxRecDepth 20000
namespace Go.Sim
open Go Go.RowKit

structure EI where
 c : List Nat
 t : List Nat
 a : Pt
 n : Nat
 cp : Nat
 e : Bool
 deriving Inhabited
def eN (x : EI) : List Zam := [.str x.c, .str x.t, .slice x.a x.n x.cp x.e]
theorem Ziy (x : EI) : (eN x).length = 3 := rfl
def Yrd (h : Zaa) (x : EI) (i : Ins) : Prop := x.c = i.1.1 ∧ x.t = i.1.2 ∧ Row h.length h x.a (x.n * 2) (Zcf eP i.2)
def Ycj (h : Zaa) (xs : List EI) (is : List Ins) : Prop := xs.length = is.length ∧ ∀ (k : Nat) (x : EI) (i : Ins), xs[k]? = some x → is[k]? = some i → Yrd h x i
structure Zmm (h : Zaa) (a0 : Pt) (n0 c0 : Nat) (a1 : Pt) (n1 c1 : Nat) (w : Wd) : Prop where
 cls : Row h.length h a0 (n0 * 2) (Zcf eP w.cs)
 ins : ∃ xs, Row h.length h a1 (n1 * 3) (Zcf eN xs) ∧ Ycj h xs w.is
 le0 : n0 ≤ c0
 le1 : n1 ≤ c1
theorem Row.same' {h h' : Zaa} {a : Pt} {n : Nat} {cs : List Zam} (r : Row h.length h a n cs) (s : Zbb h.length h h') : Row h'.length h' a n cs := (r.same s).mono s.le
theorem Yrd.same {h h' : Zaa} {x : EI} {i : Ins} (r : Yrd h x i) (s : Zbb h.length h h') : Yrd h' x i := ⟨r.1, r.2.1, r.2.2.same' s⟩
theorem Ycj.same {h h' : Zaa} {xs : List EI} {is : List Ins} (r : Ycj h xs is) (s : Zbb h.length h h') : Ycj h' xs is := ⟨r.1, fun k x i hx hi => (r.2 k x i hx hi).same s⟩
theorem Zmm.same {h h' : Zaa} {a0 a1 : Pt} {n0 c0 n1 c1 : Nat} {w : Wd} (r : Zmm h a0 n0 c0 a1 n1 c1 w) (s : Zbb h.length h h') : Zmm h' a0 n0 c0 a1 n1 c1 w :=
 ⟨r.cls.same' s, r.ins.imp fun xs ⟨r1, r2⟩ => ⟨r1.same' s, r2.same s⟩, r.le0, r.le1⟩
theorem Yrd.len {h : Zaa} {x : EI} {i : Ins} (r : Yrd h x i) : i.2.length = x.n := by have := r.2.2.1; rw [Zay Zek] at this; omega
theorem Zmm.len0 {h : Zaa} {a0 a1 : Pt} {n0 c0 n1 c1 : Nat} {w : Wd} (r : Zmm h a0 n0 c0 a1 n1 c1 w) : w.cs.length = n0 := by have := r.cls.1; rw [Zay Zek] at this; omega
theorem Zmm.len1 {h : Zaa} {a0 a1 : Pt} {n0 c0 n1 c1 : Nat} {w : Wd} (r : Zmm h a0 n0 c0 a1 n1 c1 w) : w.is.length = n1 := by
 obtain ⟨xs, r1, r2, _⟩ := r.ins
 have := r1.1; rw [Zay Ziy] at this; omega
theorem Zmm.inst {h : Zaa} {a0 a1 : Pt} {n0 c0 n1 c1 : Nat} {w : Wd} (r : Zmm h a0 n0 c0 a1 n1 c1 w) {k : Nat} (hk : k < n1) :
  ∃ i o, ∃ hk' : k < w.is.length, ∃ a n cp e, a1 = some (i, o) ∧ i < h.length ∧ Zbv h (.ptr (some (i, o + k * 3))) 3 = some [.str w.is[k].1.1, .str w.is[k].1.2, .slice a n cp e] ∧ Zak h (.ptr (some (i, o + k * 3))) = some (.str w.is[k].1.1) ∧ Zak h (.ptr (some (i, o + k * 3 + 1))) = some (.str w.is[k].1.2) ∧ Zak h (.ptr (some (i, o + k * 3 + 2))) = some (.slice a n cp e) ∧
   Row h.length h a (n * 2) (Zcf eP w.is[k].2) ∧ w.is[k].2.length = n := by
 have hl := r.len1
 obtain ⟨xs, r1, r2, r3⟩ := r.ins
 obtain ⟨i, o, hk', ha, hi, hr, hc⟩ := Row.el Ziy r1 (by omega) hk (by omega)
 have hI := r3 k xs[k] w.is[k] (List.getElem?_eq_getElem hk') (List.getElem?_eq_getElem (by omega))
 obtain ⟨e1, e2, e3⟩ := id hI
 refine ⟨i, o, by omega, xs[k].a, xs[k].n, xs[k].cp, xs[k].e, ha, hi, ?_, ?_, ?_, ?_, e3, hI.len⟩
 ·rw [hr, eN, e1, e2]
 ·have := hc 0 (by omega); rw [← e1]; simpa [eN] using this
 ·have := hc 1 (by omega); rw [← e2]; simpa [eN] using this
 ·have := hc 2 (by omega); simpa [eN] using this
theorem Row.pr {b : Nat} {h : Zaa} {a : Pt} {n : Nat} {l : List Nd} (r : Row b h a (n * 2) (Zcf eP l)) {k : Nat} (hk : k < n) :
  ∃ i o, ∃ hk' : k < l.length, a = some (i, o) ∧ i < b ∧ Zbv h (.ptr (some (i, o + k * 2))) 2 = some [.str l[k].1, .str l[k].2] ∧ Zak h (.ptr (some (i, o + k * 2))) = some (.str l[k].1) ∧ Zak h (.ptr (some (i, o + k * 2 + 1))) = some (.str l[k].2) := by
 have hl : l.length = n := by have := r.1; rw [Zay Zek] at this; omega
 obtain ⟨i, o, hk', ha, hi, hr, hc⟩ := Row.el Zek r hl hk (by omega)
 exact ⟨i, o, hk', ha, hi, hr, by simpa [eP] using hc 0 (by omega), by simpa [eP] using hc 1 (by omega)⟩

def Mid (lo hi : Nat) (h h' : Zaa) : Prop := h.length ≤ h'.length ∧ ∀ j, j < h.length → (j < lo ∨ hi ≤ j) → h'[j]? = h[j]?
theorem Mid.refl (lo hi : Nat) (h : Zaa) : Mid lo hi h h := ⟨Nat.le_refl _, fun _ _ _ => rfl⟩
theorem Mid.trans {lo hi : Nat} {h h1 h2 : Zaa} (a : Mid lo hi h h1) (b : Mid lo hi h1 h2) : Mid lo hi h h2 := ⟨Nat.le_trans a.1 b.1, fun j hj hn => by rw [b.2 j (by have := a.1; omega) hn]; exact a.2 j hj hn⟩
theorem Mid.of_same {lo hi : Nat} {h h' : Zaa} (s : Zbb h.length h h') : Mid lo hi h h' := ⟨s.le, fun j hj _ => s.eq j hj⟩
theorem Mid.same {lo hi : Nat} {h h1 h2 : Zaa} (a : Mid lo hi h h1) (s : Zbb h1.length h1 h2) : Mid lo hi h h2 := a.trans (Mid.of_same s)
theorem Mid.set {lo hi i : Nat} {h h1 : Zaa} {x : Zco} (o : Mid lo hi h h1) (h0 : lo ≤ i) (h2 : i < hi) : Mid lo hi h (h1.set i x) := ⟨by simp; exact o.1, fun j hj hne => by rw [Zcj (by omega)]; exact o.2 j hj hne⟩
theorem Zxw.mid {lo hi : Nat} {a : Pt} {n : Nat} {h h' : Zaa} (o : Zxw a n h h') (hb : ∀ i, a = some (i, 0) → n ≠ 0 → lo ≤ i ∧ i < hi) : Mid lo hi h h' := ⟨o.1, fun j hj hn => o.2 j hj fun i hi h0 => by have := hb i hi h0; omega⟩
theorem Zcv.in {α : Type} {ty : TypeId} {enc : α → List Zam} {b : Nat} {h : Zaa} {a : Pt} {n : Nat} {l : List α} (f : Zcv ty enc b h a n l) : ∀ i, a = some (i, 0) → n ≠ 0 → b ≤ i ∧ i < h.length := by
 intro i hi hn
 rcases f.2 with h0 | ⟨j, ha, hb, hj⟩
 ·exact absurd h0 hn
 ·rw [hi] at ha; cases ha; exact ⟨hb, Own.lt hj⟩
theorem Row.mid {lo hi b : Nat} {h h' : Zaa} {a : Pt} {m : Nat} {cs : List Zam} (r : Row b h a m cs) (o : Mid lo hi h h') (hb : b ≤ lo) : Row b h' a m cs := by
 obtain ⟨hl, r⟩ := r
 refine ⟨hl, r.imp id ?_⟩
 rintro ⟨i, o', t, all, ro, ha, hi, hg, x⟩
 exact ⟨i, o', t, all, ro, ha, hi, by rw [o.2 i (Own.lt hg) (.inl (by omega))]; exact hg, x⟩
theorem Zcv.mid {α : Type} {ty : TypeId} {enc : α → List Zam} {lo hi b : Nat} {h h' : Zaa} {a : Pt} {n : Nat} {l : List α} (f : Zcv ty enc b h a n l) (o : Mid lo hi h h') (hb : hi ≤ b) : Zcv ty enc b h' a n l :=
 ⟨f.1, f.2.imp id fun ⟨i, ha, hbi, hi⟩ => ⟨i, ha, hbi, by rw [o.2 i (Own.lt hi) (.inr (by omega))]; exact hi⟩⟩

structure Zne (b : Nat) (h : Zaa) (a0 : Pt) (n0 : Nat) (a1 : Pt) (n1 : Nat) (xs : List EI) (w : Wd) : Prop where
 cls : Zcv Zbc eP b h a0 n0 w.cs
 ins : Zcv Zac eN b h a1 n1 xs
 len : xs.length = w.is.length
 need : ∀ (k : Nat) (x : EI) (i : Ins), xs[k]? = some x → w.is[k]? = some i → x.c = i.1.1 ∧ x.t = i.1.2 ∧ Zcv Zaj eP b h x.a x.n i.2
 sep : ∀ (j k : Nat) (x y : EI), j ≠ k → xs[j]? = some x → xs[k]? = some y → x.n ≠ 0 → y.n ≠ 0 → x.a ≠ y.a
 nn : ∀ x ∈ xs, x.a ≠ none
theorem Zne.same {b : Nat} {h h' : Zaa} {a0 a1 : Pt} {n0 n1 : Nat} {xs : List EI} {w : Wd} (f : Zne b h a0 n0 a1 n1 xs w) (s : Zbb h.length h h') : Zne b h' a0 n0 a1 n1 xs w :=
 ⟨f.cls.same s, f.ins.same s, f.len, fun k x i hx hi => ⟨(f.need k x i hx hi).1, (f.need k x i hx hi).2.1, (f.need k x i hx hi).2.2.same s⟩, f.sep, f.nn⟩
theorem Zne.mid {lo hi b : Nat} {h h' : Zaa} {a0 a1 : Pt} {n0 n1 : Nat} {xs : List EI} {w : Wd} (f : Zne b h a0 n0 a1 n1 xs w) (s : Mid lo hi h h') (hb : hi ≤ b) : Zne b h' a0 n0 a1 n1 xs w :=
 ⟨f.cls.mid s hb, f.ins.mid s hb, f.len, fun k x i hx hi => ⟨(f.need k x i hx hi).1, (f.need k x i hx hi).2.1, (f.need k x i hx hi).2.2.mid s hb⟩, f.sep, f.nn⟩
theorem Zne.rep {b : Nat} {h : Zaa} {a0 a1 : Pt} {n0 c0 n1 c1 : Nat} {xs : List EI} {w : Wd} (f : Zne b h a0 n0 a1 n1 xs w) (h0 : n0 ≤ c0) (h1 : n1 ≤ c1) : Zmm h a0 n0 c0 a1 n1 c1 w :=
 ⟨f.cls.row Zek, ⟨xs, f.ins.row Ziy, f.len, fun k x i hx hi => ⟨(f.need k x i hx hi).1, (f.need k x i hx hi).2.1, (f.need k x i hx hi).2.2.row Zek⟩⟩, h0, h1⟩
end Go.Sim
