/- A part of the proof of a statement of this seat: see the text that holds the theorem. No condition. -/
import Derived.Test.YtlljbdepamknoaaGreatDoorPTCSTy
import Derived.Test.YtlljbdepamknoaaGreatDoorCTy
import Derived.Test.YtlljbdepamknoaaGreatDoorPTCMost
import Derived.Test.YtlljbdepamknoaaGreatDoorSimW
import Derived.Test.YtlljbdepamknoaaGreatDoorNm
set_option linter.unusedVariables false
set_option linter.unusedSimpArgs false
set_option linter.all false
set_option linter.unusedVariables false
set_option linter.unusedSimpArgs false
set_option maxRecDepth 20000
namespace Go.Sim
open Go Go.RowKit

theorem idxN_of {s : List Nat} {c g : Nat} (h : s[g]? = some c) (hn : c ∉ s.take g) : idxN s c = g := by
  induction s generalizing g with
  | nil => simp at h
  | cons b s ih =>
    cases g with
    | zero => simp at h; subst h; simp [idxN]
    | succ g =>
      simp at h hn
      have := ih h hn.2
      have hb : ¬ b = c := fun e => hn.1 e.symm
      simp only [idxN, beq_iff_eq, hb, if_false, this]
      rw [if_neg (by omega)]; omega
theorem idxN_no {s : List Nat} {c : Nat} (hn : c ∉ s) : idxN s c = -1 := by
  have := (idxN_neg s c).2 hn; have := idxN_ge s c; omega
theorem getD_get {s : List Nat} {g : Nat} (h : g < s.length) : s.getD g 0 = s[g] := by simp [List.getD, h]
theorem find_ok {h : AHeap} (s : List Nat) (c : Nat) (hs : s.length ≤ 9223372036854775807) : SCall pg n_spec_l13Find [.str s, .int .u8 (c : Int)] h fun v h' => v = .int .i64 (idxN s c) ∧ h' = h := by
  apply F_spec_l13Find.call
  refine F_spec_l13Find.L2ind _ _ _ (J := fun (g : Nat) x5 h' => x5 = (g : Int) ∧ h' = h ∧ g ≤ s.length ∧ c ∉ s.take g) (fun g => s.length - g) ?_ 0 _ _ ⟨rfl, rfl, by omega, by simp⟩
  rintro g x5 h' ⟨rfl, rfl, hg, hn⟩ R hR
  unfold F_spec_l13Find.L2t
  refine bcase_dec (fun hlt => ?_) (fun hge => ?_)
  · have hlt' : g < s.length := by omega
    refine ⟨⟨by omega, by omega⟩, ?_⟩
    rw [Int.toNat_natCast, getD_get hlt']
    refine bcase_beq (fun he => ?_) (fun he => ?_)
    · exact ⟨by rw [idxN_of (g := g) (by rw [List.getElem?_eq_getElem hlt', Int.ofNat.inj he]) hn], rfl⟩
    · rw [IntWalk.i64_in _ (by omega)]
      refine hR (g + 1) _ _ (by omega) ⟨by omega, rfl, by omega, ?_⟩
      rw [List.take_succ_eq_append_getElem hlt']
      simp only [List.mem_append, List.mem_singleton, not_or]
      exact ⟨hn, fun e => he (by rw [e])⟩
  · have : g = s.length := by omega
    subst this
    rw [List.take_length] at hn
    apply F_spec_l13Find.A2x0i
    rw [idxN_no hn]; exact ⟨rfl, rfl⟩
/-- The arity of a letter, as the reference finds it. -/
theorem ar_idx (c : Nat) : (if idxN [105, 98, 117, 108, 109, 112, 120, 121, 122, 88, 89, 90] c < 0 then (-1 : Int) else if idxN [105, 98, 117, 108, 109, 112, 120, 121, 122, 88, 89, 90] c = 3 then 1 else if idxN [105, 98, 117, 108, 109, 112, 120, 121, 122, 88, 89, 90] c = 4 then 1 else if idxN [105, 98, 117, 108, 109, 112, 120, 121, 122, 88, 89, 90] c = 5 then 2 else 0) = arN c := by
  by_cases h : c ∈ [105, 98, 117, 108, 109, 112, 120, 121, 122, 88, 89, 90]
  · simp at h
    rcases h with rfl | rfl | rfl | rfl | rfl | rfl | rfl | rfl | rfl | rfl | rfl | rfl <;> rfl
  · rw [idxN_no h]
    simp at h
    simp [arN, isLeafN, isVarN, h]
theorem var_idx (c : Nat) : decide (idxN [105, 98, 117, 108, 109, 112, 120, 121, 122, 88, 89, 90] c ≥ 6) = isVarN c := by
  by_cases h : c ∈ [105, 98, 117, 108, 109, 112, 120, 121, 122, 88, 89, 90]
  · simp at h
    rcases h with rfl | rfl | rfl | rfl | rfl | rfl | rfl | rfl | rfl | rfl | rfl | rfl <;> rfl
  · rw [idxN_no h]
    simp at h
    simp [isVarN, h]
theorem l1Arity_ok {h : AHeap} (c : Nat) : SCall pg n_spec_l1Arity [.int .u8 (c : Int)] h fun v h' => v = .int .i64 (arN c) ∧ h' = h := by
  apply F_spec_l1Arity.call
  refine (find_ok _ c (by simp)).mono ?_
  rintro v h1 ⟨rfl, rfl⟩
  simp only [xInt_some]
  rw [← ar_idx c]
  generalize idxN [105, 98, 117, 108, 109, 112, 120, 121, 122, 88, 89, 90] c = k
  refine bcase_dec (fun hk => ?_) (fun hk => ?_)
  · rw [if_pos hk]; exact ⟨rfl, by trivial⟩
  · rw [if_neg hk]
    refine bcase_beq (fun h3 => ?_) (fun h3 => ?_)
    · rw [if_pos h3]; exact ⟨rfl, by trivial⟩
    · rw [if_neg h3]
      refine bcase_beq (fun h4 => ?_) (fun h4 => ?_)
      · rw [if_pos h4]; exact ⟨rfl, by trivial⟩
      · rw [if_neg h4]
        refine bcase_beq (fun h5 => ?_) (fun h5 => ?_)
        · rw [if_pos h5]; exact ⟨rfl, by trivial⟩
        · rw [if_neg h5]; apply F_spec_l1Arity.J8i; exact ⟨rfl, by trivial⟩

/-- A reader in memory. -/
def rdr (s : List Nat) (k : Nat) (b : Bool) : AObj := .cells t_spec_l1Reader [.str s, .int .i64 (k : Int), .bool b] false
theorem drop_cons {s : List Nat} {k : Nat} (h : k < s.length) : s.drop k = s[k] :: s.drop (k + 1) := List.drop_eq_getElem_cons h
theorem next_ok {h : AHeap} {i : Nat} {s : List Nat} {k : Nat} {b : Bool} (hi : h[i]? = some (rdr s k b)) (hk : k ≤ s.length) (hs : s.length ≤ 9223372036854775807) : SCall pg n_spec_l1Reader_next [.ptr (some (i, 0))] h fun v h' =>
    (∃ c : Nat, s.drop k = c :: s.drop (k + 1) ∧ k < s.length ∧ v = .int .u8 (c : Int) ∧ h' = h.set i (rdr s (k + 1) b)) ∨ (s.drop k = [] ∧ v = .int .u8 0 ∧ h' = h.set i (rdr s k true)) := by
  unfold rdr at hi
  apply F_spec_l1Reader_next.call
  simp only [xSome_some, hCell_of hi, Nat.zero_add, List.getElem?_cons_zero, List.getElem?_cons_succ, xInt_some, xStr_some]
  refine ⟨by trivial, bcase_dec (fun hge => ?_) (fun hl => ?_)⟩
  · rw [hStore_of hi (by simp)]
    exact .inr ⟨List.drop_eq_nil_of_le (by omega), by trivial, rfl⟩
  · have hl' : k < s.length := by omega
    rw [hStore_of hi (by simp)]
    simp only [xHeap_some, hCell_of (set_get hi)]
    rw [IntWalk.i64_in _ (by omega)]
    simp only [putRow, List.take_succ_cons, List.take_zero, List.length_cons, List.length_nil, List.cons_append, List.nil_append, List.drop_succ_cons, List.drop_zero, List.getElem?_cons_zero, List.getElem?_cons_succ, xInt_some, xStr_some]
    rw [IntWalk.i64_in _ (by omega)]
    refine ⟨by trivial, ⟨by omega, by omega⟩, .inl ⟨s[k], drop_cons hl', hl', ?_, ?_⟩⟩
    · have : ((k : Int) + 1 - 1).toNat = k := by omega
      rw [this, getD_get hl']
    · simp [rdr]
/-- A tree of the reference in memory: its two cells. -/
def SRep (S : Nat → Prop) (h : AHeap) : Ty → List AVal → Prop
  | .k d, v => ∃ a c e, v = [.int .u8 (d : Int), .slice a 0 c e]
  | .u d x, v => ∃ j c e r, v = [.int .u8 (d : Int), .slice (some (j, 0)) 1 c e] ∧ S j ∧ h[j]? = some (.cells t_spec_l1Node r false) ∧ SRep S h x r
  | .w d x y, v => ∃ j c e r r', v = [.int .u8 (d : Int), .slice (some (j, 0)) 2 c e] ∧ S j ∧ h[j]? = some (.cells t_spec_l1Node (r ++ r') false) ∧ SRep S h x r ∧ SRep S h y r'
theorem SRep.mono {S S' : Nat → Prop} {h : AHeap} (hs : ∀ i, S i → S' i) : ∀ {t : Ty} {v : List AVal}, SRep S h t v → SRep S' h t v
  | .k d, _, h => h
  | .u d x, _, ⟨j, c, e, r, hv, sj, hj, hr⟩ => ⟨j, c, e, r, hv, hs _ sj, hj, hr.mono hs⟩
  | .w d x y, _, ⟨j, c, e, r, r', hv, sj, hj, hr, hr'⟩ => ⟨j, c, e, r, r', hv, hs _ sj, hj, hr.mono hs, hr'.mono hs⟩
theorem SRep.agree {S : Nat → Prop} {h h' : AHeap} (hh : ∀ i, S i → h'[i]? = h[i]?) : ∀ {t : Ty} {v : List AVal}, SRep S h t v → SRep S h' t v
  | .k d, _, h => h
  | .u d x, _, ⟨j, c, e, r, hv, sj, hj, hr⟩ => ⟨j, c, e, r, hv, sj, by rw [hh j sj]; exact hj, hr.agree hh⟩
  | .w d x y, _, ⟨j, c, e, r, r', hv, sj, hj, hr, hr'⟩ => ⟨j, c, e, r, r', hv, sj, by rw [hh j sj]; exact hj, hr.agree hh, hr'.agree hh⟩
theorem SRep.shape {S : Nat → Prop} {h : AHeap} {t : Ty} {v : List AVal} (r : SRep S h t v) : ∃ a c e, v = [.int .u8 (t.hd : Int), .slice a t.ps.length c e] := by
  cases t with
  | k d => exact r
  | u d x => obtain ⟨j, c, e, r, hv, _⟩ := r; exact ⟨_, c, e, hv⟩
  | w d x y => obtain ⟨j, c, e, r, r', hv, _⟩ := r; exact ⟨_, c, e, hv⟩
theorem SRep.len {S : Nat → Prop} {h : AHeap} {t : Ty} {v : List AVal} (r : SRep S h t v) : v.length = 2 := by obtain ⟨a, c, e, rfl⟩ := r.shape; rfl
theorem SRep.leaf {S : Nat → Prop} {h : AHeap} {t : Ty} {v : List AVal} (r : SRep S h t v) : v.all AVal.leaf = true := by obtain ⟨a, c, e, rfl⟩ := r.shape; rfl
/-- The parts: one after the other. -/
theorem SRep.parts {S : Nat → Prop} {h : AHeap} {t : Ty} {v : List AVal} (r : SRep S h t v) : ∃ a c e, ∃ vs : List (List AVal), v = [.int .u8 (t.hd : Int), .slice a t.ps.length c e] ∧ Row h.length h a (t.ps.length * 2) vs.flatten ∧
    (∀ j o, t.ps.length ≠ 0 → a = some (j, o) → S j) ∧ vs.length = t.ps.length ∧ ∀ (k : Nat) (w : List AVal) (x : Ty), vs[k]? = some w → t.ps[k]? = some x → SRep S h x w := by
  cases t with
  | k d => obtain ⟨a, c, e, rfl⟩ := r; exact ⟨a, c, e, [], rfl, Row.nil, fun _ _ h => absurd rfl h, rfl, by simp⟩
  | u d x =>
    obtain ⟨j, c, e, r, rfl, sj, hj, hr⟩ := r
    have hl := hr.len
    refine ⟨_, c, e, [r], rfl, ⟨by simp [Ty.ps, hl], .inr ⟨j, 0, _, _, _, rfl, Own.lt hj, hj, by simp [Ty.ps, hl], by simp [Ty.ps]; rw [List.take_of_length_le (by omega)]⟩⟩, fun j' o' _ e => by cases e; exact sj, rfl, ?_⟩
    intro k w x' h1 h2
    cases k with
    | zero => simp [Ty.ps] at h1 h2; subst h1; subst h2; exact hr
    | succ k => simp at h1
  | w d x y =>
    obtain ⟨j, c, e, r, r', rfl, sj, hj, hr, hr'⟩ := r
    have hl := hr.len
    have hl' := hr'.len
    refine ⟨_, c, e, [r, r'], rfl, ⟨by simp [Ty.ps, hl, hl'], .inr ⟨j, 0, _, _, _, rfl, Own.lt hj, hj, by simp [Ty.ps, hl, hl'], by simp [Ty.ps]; rw [List.take_of_length_le (by simp; omega)]⟩⟩, fun j' o' _ e => by cases e; exact sj, rfl, ?_⟩
    intro k w x' h1 h2
    match k with
    | 0 => simp [Ty.ps] at h1 h2; subst h1; subst h2; exact hr
    | 1 => simp [Ty.ps] at h1 h2; subst h1; subst h2; exact hr'
    | k + 2 => simp at h1
theorem SRep.make {S : Nat → Prop} {h : AHeap} {t : Ty} {j n c : Nat} {e : Bool} {vs : List (List AVal)} (hn : n = t.ps.length) (sj : S j) (hj : h[j]? = some (.cells t_spec_l1Node vs.flatten false)) (hl : vs.length = n)
    (hq : ∀ (k : Nat) (w : List AVal) (x : Ty), vs[k]? = some w → t.ps[k]? = some x → SRep S h x w) : SRep S h t [.int .u8 (t.hd : Int), .slice (some (j, 0)) n c e] := by
  subst hn
  cases t with
  | k d => exact ⟨_, c, e, rfl⟩
  | u d x =>
    match vs, hl with
    | [r], _ => exact ⟨j, c, e, r, rfl, sj, by simpa using hj, hq 0 r x rfl rfl⟩
  | w d x y =>
    match vs, hl with
    | [r, r'], _ => exact ⟨j, c, e, r, r', rfl, sj, by simpa using hj, hq 0 r x rfl rfl, hq 1 r' y rfl rfl⟩

theorem u_L_l1Node : pg.underlying t_L_spec_l1Node = some (.slice t_spec_l1Node) := by kernel_rfl
theorem c_l1Node : pg.cellsOf t_spec_l1Node = 2 := by kernel_rfl
theorem k_l1Node : pg.okElem t_spec_l1Node = true := by kernel_rfl
theorem b_l1Node : pg.bytesOf t_spec_l1Node ≤ 127 := Nat.le_of_ble_eq_true (by kernel_rfl)
theorem flat_snoc (vs : List (List AVal)) (r : List AVal) : (vs ++ [r]).flatten = vs.flatten ++ r := by simp
theorem flat_len {vs : List (List AVal)} (h : ∀ v ∈ vs, v.length = 2) : vs.flatten.length = vs.length * 2 := by
  induction vs with
  | nil => rfl
  | cons v vs ih => rw [List.flatten_cons, List.length_append, h v (by simp), ih fun w hw => h w (by simp [hw]), List.length_cons]; omega
/-- The letter with these parts is a type. -/
theorem ty_of {c : Nat} {ps : List Ty} (hok : ∀ p ∈ ps, p.ok = true) (ha : arN c = ps.length) : ∃ t : Ty, t.ok = true ∧ t.hd = c ∧ t.ps = ps := by
  match ps, ha, hok with
  | [], h0, _ =>
    refine ⟨.k c, ?_, rfl, rfl⟩
    simp only [Ty.ok]
    cases hl : isLeafN c with
    | true => rfl
    | false => unfold arN at h0; rw [hl] at h0; simp at h0; split at h0 <;> try split at h0
               all_goals omega
  | [x], h0, hok =>
    refine ⟨.u c x, ?_, rfl, rfl⟩
    simp only [Ty.ok, hok x (by simp), Bool.and_true, Bool.or_eq_true, beq_iff_eq]
    simp at h0
    unfold arN at h0; split at h0
    · omega
    · split at h0
      · rename_i h; simpa using h
      · split at h0 <;> omega
  | [x, y], h0, hok =>
    refine ⟨.w c x y, ?_, rfl, rfl⟩
    simp only [Ty.ok, hok x (by simp), hok y (by simp), Bool.and_true, beq_iff_eq]
    simp at h0
    unfold arN at h0; split at h0
    · omega
    · split at h0
      · omega
      · split at h0
        · rename_i h; simpa using h
        · omega
  | _ :: _ :: _ :: r, h0, _ =>
    simp at h0; unfold arN at h0; split at h0 <;> try split at h0
    all_goals try split at h0
    all_goals omega
/-- Its text. -/
theorem txt_of (t : Ty) (r : List Nat) : t.txt ++ r = t.hd :: (mids t.ps ++ (if t.ps = [] then r else 41 :: r)) := by
  cases t <;> simp [Ty.txt, Ty.hd, Ty.ps, mids]
/-- What the reader answers. -/
def NodeQ (i : Nat) (s : List Nat) (k : Nat) (h : AHeap) (v : AVal) (h' : AHeap) : Prop :=
  Keep i h h' ∧ ∃ (d : Nat) (a : Pt) (n c : Nat) (e : Bool) (k' : Nat) (bad : Bool), v = .agg [.int .u8 (d : Int), .slice a n c e] ∧ h'[i]? = some (rdr s k' bad) ∧ k' ≤ s.length ∧
    ((bad = false ∧ ∃ t, Opens (s.drop k) t (s.drop k') ∧ SRep (Btw h.length h'.length) h' t [.int .u8 (d : Int), .slice a n c e]) ∨ (bad = true ∧ ∀ t r, ¬ Opens (s.drop k) t r))

theorem node_end {s : List Nat} {k i : Nat} {h h' : AHeap} {k1 c i2 i3 n cp : Nat} {bad e : Bool} {a : Pt} {x y : AVal} (hil : i < h.length) (hK : Keep i h h') (hgi : h'[i]? = some (rdr s k1 bad)) (hk1 : k1 ≤ s.length)
    (hi2 : h'[i2]? = some (.cells t_spec_l1Node [x, y] false)) (hl2 : h.length ≤ i2) (hne : i2 ≠ i3) (hi3 : h'[i3]? = some (.cells t_spec_l1Node [.int .u8 (c : Int), .slice a n cp e] false))
    (hfin : (bad = false ∧ ∃ t, Opens (s.drop k) t (s.drop k1) ∧ SRep (fun x => Btw h.length h'.length x ∧ x ≠ i2) h' t [.int .u8 (c : Int), .slice a n cp e]) ∨ (bad = true ∧ ∀ t r, ¬ Opens (s.drop k) t r)) :
    F_spec_l1Reader_node.J12 (NodeQ i s k h) i3 0 i2 0 h' := by
  apply F_spec_l1Reader_node.J12i
  rw [hRow_of hi3 (by simp)]
  simp only [List.drop_zero, List.take_succ_cons, List.take_zero, xRow_some, xCons_cons, xInt_some, xSl_some, xNil_nil]
  rw [hStore_of hi2 (by simp)]
  simp only [xHeap_some]
  rw [hRow_of (set_get hi2) (by simp [putRow])]
  simp only [putRow, List.take_zero, List.nil_append, List.length_cons, List.length_nil, List.cons_append, List.drop_succ_cons, List.drop_zero, List.drop_nil, List.append_nil, List.take_succ_cons, xRow_some, xCons_cons, xInt_some, xSl_some, xNil_nil]
  refine ⟨hK.trans' ?_, c, a, n, cp, e, k1, bad, rfl, by rw [set_ne (by omega)]; exact hgi, hk1, ?_⟩
  · exact fun j hj => set_ne (by omega)
  · rcases hfin with ⟨hb, t, ho, hr⟩ | hb
    · refine .inl ⟨hb, t, ho, ?_⟩
      refine SRep.mono (S := fun x => Btw h.length h'.length x ∧ x ≠ i2) (fun z hz => by simpa using hz.1) (hr.agree fun z hz => set_ne (fun e => hz.2 e.symm))
    · exact .inr hb
theorem node_J4 {s : List Nat} (hs : s.length ≤ 9223372036854775807) {k i : Nat} {h : AHeap} (hil : i < h.length)
    (ih : ∀ k', k < k' → k' ≤ s.length → ∀ (h : AHeap), h[i]? = some (rdr s k' false) → SCall pg n_spec_l1Reader_node [.ptr (some (i, 0))] h (NodeQ i s k' h))
    {g : AHeap} {c k1 i2 i3 j0 : Nat} {bad : Bool} (hK : Keep i h g) (hgi : g[i]? = some (rdr s k1 bad)) (hk1 : k1 ≤ s.length) (hl2 : h.length ≤ i2) (hl3 : h.length ≤ i3) (hlj : h.length ≤ j0)
    (hne : i2 ≠ i3) (hne2 : i2 ≠ j0) (hne3 : i3 ≠ j0) (hi2 : g[i2]? = some (.cells t_spec_l1Node [.int .u8 0, .slice none 0 0 true] false)) (hi3 : g[i3]? = some (.cells t_spec_l1Node [.int .u8 (c : Int), .slice (some (j0, 0)) 0 0 true] false))
    (hj0 : g[j0]? = some (.cells t_spec_l1Node [] false))
    (hcase : (bad = false ∧ k < k1 ∧ s.drop k = c :: s.drop k1 ∧ 0 ≤ arN c) ∨ (bad = true ∧ ∀ t r, ¬ Opens (s.drop k) t r)) :
    F_spec_l1Reader_node.J4 (NodeQ i s k h) (some (i, 0)) i2 0 i3 0 (arN c) g := by
  apply F_spec_l1Reader_node.J4i
  have hm2 : arN c ≤ 2 := by unfold arN; split <;> try split
                             all_goals try split
                             all_goals omega
  have hi2l := Own.lt hi2
  have hi3l := Own.lt hi3
  refine F_spec_l1Reader_node.L5ind _ _ _ _ _ _ _ (J := fun (q : Nat) x5 h' => x5 = (q : Int) ∧ ∃ (bad : Bool) (k1 n cp : Nat) (e : Bool) (j : Nat), Keep i h h' ∧ h'[i]? = some (rdr s k1 bad) ∧ k1 ≤ s.length ∧
      h'[i2]? = some (.cells t_spec_l1Node [.int .u8 0, .slice none 0 0 true] false) ∧ h'[i3]? = some (.cells t_spec_l1Node [.int .u8 (c : Int), .slice (some (j, 0)) n cp e] false) ∧ h.length ≤ j ∧ i2 ≠ j ∧ i3 ≠ j ∧ i2 < h'.length ∧ i3 < h'.length ∧
      ((bad = true ∧ ∀ t r, ¬ Opens (s.drop k) t r) ∨ (bad = false ∧ k < k1 ∧ n = q ∧ (q : Int) ≤ arN c ∧ ∃ (ps : List Ty) (vs : List (List AVal)), ps.length = q ∧ vs.length = q ∧ (∀ p ∈ ps, p.ok = true) ∧ s.drop k = c :: (mids ps ++ s.drop k1) ∧
        h'[j]? = some (.cells t_spec_l1Node vs.flatten false) ∧ (∀ v ∈ vs, v.length = 2) ∧ ∀ (kk : Nat) (v : List AVal) (x : Ty), vs[kk]? = some v → ps[kk]? = some x → ∃ lo hi, h.length ≤ lo ∧ i2 < lo ∧ i3 < lo ∧ hi ≤ h'.length ∧ ¬ Btw lo hi j ∧ SRep (Btw lo hi) h' x v)))
    (fun q => (arN c).toNat - q) ?_ 0 _ _ ⟨rfl, bad, k1, 0, 0, true, j0, hK, hgi, hk1, hi2, hi3, hlj, hne2, hne3, hi2l, hi3l, ?_⟩
  · rintro q x5 h' ⟨rfl, bad, k1, n, cp, e, j, hK, hgi, hk1, hi2, hi3, hlj, hn2, hn3, hl2', hl3', hst⟩ R hR
    have over : ¬ (bad = false ∧ (q : Int) < arN c) → F_spec_l1Reader_node.A5x0 (NodeQ i s k h) (arN c) (some (i, 0)) i3 0 i2 0 h' := by
      intro hgo
      · skip
        apply F_spec_l1Reader_node.A5x0i
        rcases hst with ⟨hb, hno⟩ | ⟨hb, hkk, rfl, hq, ps, vs, hps, hvs, hok, hdr, hj, hv2, hrep⟩
        · subst hb
          have hend := node_end hil hK hgi hk1 hi2 hl2 hne hi3 (.inr ⟨rfl, hno⟩)
          refine bcase_dec (fun _ => ?_) (fun _ => hend)
          unfold rdr at hgi
          simp only [xSome_some, hCell_of hgi, Nat.zero_add, List.getElem?_cons_zero, List.getElem?_cons_succ, xBool_some, Bool.not_true, bcase_false]
          exact hend
        · subst hb
          have hqa : (n : Int) = arN c := by have : ¬ (n : Int) < arN c := fun hlt => hgo ⟨rfl, hlt⟩; omega
          obtain ⟨t, htok, hthd, htps⟩ := ty_of (c := c) hok (by omega)
          have hrT : SRep (fun x => Btw h.length h'.length x ∧ x ≠ i2) h' t [.int .u8 (c : Int), .slice (some (j, 0)) n cp e] := by
            rw [← hthd]
            refine SRep.make (vs := vs) (by rw [htps]; exact hps.symm) ⟨⟨hlj, Own.lt hj⟩, fun e => hn2 e.symm⟩ hj hvs fun kk v x hv hx => ?_
            rw [htps] at hx
            obtain ⟨lo, hi, h1, h2, h3, h4, h5, h6⟩ := hrep kk v x hv hx
            exact h6.mono fun z hz => ⟨⟨by have := hz.1; omega, by have := hz.2; omega⟩, by have := hz.1; omega⟩
          have hno : (∀ r, s.drop k1 ≠ (if t.ps = [] then r else 41 :: r)) → ∀ t' r, ¬ Opens (s.drop k) t' r := by
            intro hx t' r ho
            rw [hdr] at ho
            have h1 := Ty.ok_ar ho.1
            have hhd : t'.hd = c := by
              obtain ⟨r', hr⟩ := t'.txt_cons
              have := ho.2; rw [hr] at this; simp at this; exact this.1.symm
            rw [hhd] at h1
            have := ho.step hok (by omega)
            have h3 := this.2.2.2 (by omega)
            have hemp : t'.ps = [] ↔ t.ps = [] := by
              rw [← List.length_eq_zero_iff, ← List.length_eq_zero_iff, htps]; omega
            simp only [hemp] at h3
            exact hx _ h3
          have hyes : ∀ r, s.drop k1 = (if t.ps = [] then r else 41 :: r) → Opens (s.drop k) t r := by
            intro r hr
            refine ⟨htok, ?_⟩
            rw [txt_of, hthd, hdr, hr, htps]
          refine bcase_dec (fun hpos => ?_) (fun hz => ?_)
          · have hne0 : t.ps ≠ [] := by rw [htps]; intro e0; rw [e0] at hps; simp at hps; omega
            simp only [if_neg hne0] at hno hyes
            have hgi' := hgi
            unfold rdr at hgi'
            simp only [xSome_some, hCell_of hgi', Nat.zero_add, List.getElem?_cons_zero, List.getElem?_cons_succ, xBool_some, Bool.not_false, bcase_true]
            refine (next_ok hgi hk1 hs).mono ?_
            have hK2 : ∀ b' k2, Keep i h (h'.set i (rdr s k2 b')) := fun b' k2 => hK.trans (Keep.set _ _ _)
            have hin2 : i ≠ i2 := by omega
            have hin3 : i ≠ i3 := by omega
            have badEnd : ∀ k2, k2 ≤ s.length → (∀ r, s.drop k1 ≠ 41 :: r) → F_spec_l1Reader_node.J12 (NodeQ i s k h) i3 0 i2 0 (h'.set i (rdr s k2 true)) := fun k2 hk2 hx =>
              node_end hil (hK2 _ _) (set_get hgi) hk2 (by rw [set_ne hin2]; exact hi2) hl2 hne (by rw [set_ne hin3]; exact hi3) (.inr ⟨rfl, hno hx⟩)
            rintro v h2 (⟨d, hd, hlt, rfl, rfl⟩ | ⟨hnil, rfl, rfl⟩)
            · simp only [xInt_some]
              have hg2 : (h'.set i (rdr s (k1 + 1) false))[i]? = some (.cells t_spec_l1Reader [.str s, .int .i64 ((k1 + 1 : Nat) : Int), .bool false] false) := set_get hgi
              refine bcase_nbeq (fun hne41 => ?_) (fun he41 => ?_)
              · try simp only [xSome_some]
                rw [hStore_of hg2 (by simp)]
                simp only [xHeap_some]
                have := badEnd (k1 + 1) (by omega) (fun r hr => by rw [hd] at hr; simp at hr; omega)
                simpa [rdr, putRow, List.set_set] using this
              · have hd41 : d = 41 := by omega
                try simp only [xSome_some]
                rw [hCell_of hg2]
                simp only [Nat.zero_add, List.getElem?_cons_zero, List.getElem?_cons_succ, xBool_some]
                rw [hStore_of hg2 (by simp)]
                simp only [xHeap_some]
                have := node_end (bad := false) (k1 := k1 + 1) hil (hK2 false (k1 + 1)) (set_get hgi) (by omega) (by rw [set_ne hin2]; exact hi2) hl2 hne (by rw [set_ne hin3]; exact hi3)
                  (.inl ⟨rfl, t, hyes _ (by rw [hd, hd41]), SRep.mono (fun z hz => by simpa using hz) (hrT.agree fun z hz => set_ne (by have := hz.1.1; omega))⟩)
                simpa [rdr, putRow, List.set_set] using this
            · simp only [xInt_some]
              have hg2 : (h'.set i (rdr s k1 true))[i]? = some (.cells t_spec_l1Reader [.str s, .int .i64 (k1 : Int), .bool true] false) := set_get hgi
              simp only [show ((0 : Int) == 41) = false from rfl, Bool.not_false, bcase_true, xSome_some]
              rw [hStore_of hg2 (by simp)]
              simp only [xHeap_some]
              have := badEnd k1 hk1 (fun r hr => by rw [hnil] at hr; cases hr)
              simpa [rdr, putRow, List.set_set] using this
          · have he0 : t.ps = [] := by rw [htps]; exact List.eq_nil_of_length_eq_zero (by omega)
            refine node_end hil hK hgi hk1 hi2 hl2 hne hi3 (.inl ⟨rfl, t, hyes _ (by rw [if_pos he0]), hrT⟩)
    unfold F_spec_l1Reader_node.L5t
    have hgi' := hgi
    unfold rdr at hgi'
    refine bcase_dec (fun hlt => ?_) (fun hge => over fun hx => hge hx.2)
    simp only [xSome_some, hCell_of hgi', Nat.zero_add, List.getElem?_cons_zero, List.getElem?_cons_succ, xBool_some]
    refine bcase_not (fun hb => ?_) (fun hb => over fun hx => by rw [hb] at hx; cases hx.1)
    subst hb
    rcases hst with ⟨hb, _⟩ | ⟨_, hkk, rfl, hq, ps, vs, hps, hvs, hok, hdr, hj, hv2, hrep⟩
    · cases hb
    have hin2 : i ≠ i2 := by omega
    have hin3 : i ≠ i3 := by omega
    have hn2' : n < 2 := by omega
    have hstep : ∀ t r, Opens (s.drop k) t r → ∃ p s', s.drop k1 = markN n :: s' ∧ ∃ r', Opens s' p r' := by
      intro t r ho
      rw [hdr] at ho
      have h1 := Ty.ok_ar ho.1
      have hhd : t.hd = c := by
        obtain ⟨r', hr⟩ := t.txt_cons
        have := ho.2; rw [hr] at this; simp at this; exact this.1.symm
      rw [hhd] at h1
      have := ho.step hok (by omega)
      rw [← hps]
      exact this.2.2.1 (by omega)
    apply F_spec_l1Reader_node.J7i
    refine ⟨⟨by omega, by simp; omega⟩, ?_⟩
    have hmk : ([40, 44] : List Nat).getD ((n : Int).toNat) 0 = markN n := by
      rw [Int.toNat_natCast]
      rcases n with _ | _ | n
      · rfl
      · rfl
      · omega
    rw [hmk]
    refine (next_ok hgi hk1 hs).mono ?_
    have badGo : ∀ k2, k2 ≤ s.length → (∀ t r, ¬ Opens (s.drop k) t r) → F_spec_l1Reader_node.J8 (NodeQ i s k h) R (some (i, 0)) i3 0 (n : Int) (arN c) i2 0 (h'.set i (rdr s k2 true)) := by
      intro k2 hk2 hno
      apply F_spec_l1Reader_node.J8i
      have hg := set_get (x := rdr s k2 true) hgi
      have hg' : (h'.set i (rdr s k2 true))[i]? = some (.cells t_spec_l1Reader [.str s, .int .i64 (k2 : Int), .bool true] false) := hg
      simp only [xSome_some]
      rw [hCell_of hg']
      simp only [Nat.zero_add, List.getElem?_cons_zero, List.getElem?_cons_succ, xBool_some, Bool.not_true, bcase_false]
      apply F_spec_l1Reader_node.J6i
      rw [IntWalk.i64_in _ (by omega)]
      refine hR (n + 1) _ _ (by omega) ⟨by omega, true, k2, n, cp, e, j, hK.trans (Keep.set _ _ _), hg, hk2, by rw [set_ne hin2]; exact hi2, by rw [set_ne hin3]; exact hi3, hlj, hn2, hn3, by simp; omega, by simp; omega, .inl ⟨rfl, hno⟩⟩
    rintro v h2 (⟨d, hd, hlt1, rfl, rfl⟩ | ⟨hnil, rfl, rfl⟩)
    · simp only [xInt_some]
      have hg3 := set_get (x := rdr s (k1 + 1) false) hgi
      have hg2 : (h'.set i (rdr s (k1 + 1) false))[i]? = some (.cells t_spec_l1Reader [.str s, .int .i64 ((k1 + 1 : Nat) : Int), .bool false] false) := hg3
      refine bcase_nbeq (fun hne1 => ?_) (fun he1 => ?_)
      · simp only [xSome_some]
        rw [hStore_of hg2 (by simp)]
        simp only [xHeap_some]
        have := badGo (k1 + 1) (by omega) (fun t r ho => by
          obtain ⟨p, s', hx, _⟩ := hstep t r ho
          rw [hd] at hx; simp at hx; omega)
        simpa [rdr, putRow, List.set_set] using this
      · have hdm : d = markN n := by omega
        simp only [xSome_some]
        rw [hCell_of hg2]
        simp only [Nat.zero_add, List.getElem?_cons_zero, List.getElem?_cons_succ, xBool_some]
        rw [hStore_of hg2 (by simp)]
        simp only [xHeap_some]
        have hsame : (h'.set i (rdr s (k1 + 1) false)).set i (AObj.cells t_spec_l1Reader (putRow [AVal.str s, AVal.int .i64 ((k1 + 1 : Nat) : Int), AVal.bool false] 2 [AVal.bool false]) false) = h'.set i (rdr s (k1 + 1) false) := by
          simp [rdr, putRow, List.set_set]
        rw [hsame]
        apply F_spec_l1Reader_node.J8i
        simp only [xSome_some]
        rw [hCell_of hg2]
        simp only [Nat.zero_add, List.getElem?_cons_zero, List.getElem?_cons_succ, xBool_some, Bool.not_false, bcase_true]
        have hi3a : (h'.set i (rdr s (k1 + 1) false))[i3]? = some (.cells t_spec_l1Node [.int .u8 (c : Int), .slice (some (j, 0)) n cp e] false) := by rw [set_ne hin3]; exact hi3
        rw [hCell_of hi3a]
        simp only [List.getElem?_cons_zero, List.getElem?_cons_succ, xSl_some]
        refine (ih (k1 + 1) (by omega) (by omega) _ hg3).mono ?_
        rintro v h3 ⟨hK3, d3, a3, n3, c3, e3, k3, bad3, rfl, hg4, hk3, hres⟩

        have hl3 := hK3.le
        simp only [List.length_set] at hl3
        have hold3 : ∀ z, z < h'.length → z ≠ i → h3[z]? = h'[z]? := fun z hz hzi => by rw [hK3.eq z (by simpa using hz) hzi, set_ne (by omega)]
        have hi33 : h3[i3]? = some (.cells t_spec_l1Node [.int .u8 (c : Int), .slice (some (j, 0)) n cp e] false) := by rw [hold3 _ hl3' (by omega)]; exact hi3
        have hj3 : h3[j]? = some (.cells t_spec_l1Node vs.flatten false) := by rw [hold3 _ (Own.lt hj) (by omega)]; exact hj
        simp only [xAgg_agg, xCons_cons, xInt_some, xSl_some, xNil_nil]
        refine ⟨by rw [hCell_of hi33]; rfl, ?_⟩
        simp only [letH_def]
        refine ⟨by rw [hCell_of (app_old hi33), hCell_of hi33], ?_⟩
        refine (Vec.mk1 hj3).pushN u_L_l1Node c_l1Node k_l1Node b_l1Node (by rw [flat_len hv2, hvs]) rfl (by omega) (by simp [AVal.leaf]) (by omega) (fun h4 hl4 hi4 hk4 => ?_)
        simp only [xSl_some]
        have hold4 : ∀ z, z < h3.length → z ≠ j → h4[z]? = h3[z]? := fun z hz hzj => hk4 z hz fun w hw => by cases hw; exact hzj
        have hi34 : h4[i3]? = some (.cells t_spec_l1Node [.int .u8 (c : Int), .slice (some (j, 0)) n cp e] false) := by rw [hold4 _ (by omega) hn3]; exact hi33
        rw [hStore_of hi34 (by simp)]
        simp only [xHeap_some]
        apply F_spec_l1Reader_node.J6i
        rw [IntWalk.i64_in _ (by omega)]
        have hiL : i < h'.length := Own.lt hgi
        have hold5 : ∀ (x : AObj) z, z ≠ i3 → z ≠ j → z < h3.length → (h4.set i3 x)[z]? = h3[z]? := fun x z h1 h2 h3 => by rw [set_ne (by omega), hold4 _ h3 h2]
        refine hR (n + 1) _ _ (by omega) ⟨by omega, bad3, k3, n + 1, n + 1, false, h3.length + 1, ?_, ?_, hk3, ?_, ?_, by omega, by omega, by omega, by simp; omega, by simp; omega, ?_⟩
        · refine ⟨by simp; have := hK.le; omega, fun z hz hzi => ?_⟩
          have := hK.le
          rw [hold5 _ _ (by omega) (by omega) (by omega), hold3 _ (by omega) hzi]; exact hK.eq z hz hzi
        · rw [hold5 _ _ hin3 (by omega) (by omega)]; exact hg4
        · rw [hold5 _ _ hne hn2 (by omega), hold3 _ hl2' (by omega)]; exact hi2
        · rw [set_get hi34]; simp [putRow]
        · rcases hres with ⟨hb3, t, ho, hr⟩ | ⟨hb3, hno⟩
          · refine .inr ⟨hb3, ?_, rfl, by omega, ps ++ [t], vs ++ [[.int .u8 (d3 : Int), .slice a3 n3 c3 e3]], by simp [hps], by simp [hvs], ?_, ?_, ?_, ?_, ?_⟩
            · have := ho.2
              have hl := congrArg List.length this
              simp at hl; have := t.txt_pos; omega
            · intro p hp
              rcases List.mem_append.1 hp with hp | hp
              · exact hok p hp
              · simp at hp; subst hp; exact ho.1
            · rw [hdr, hd, hdm, ho.2]
              match ps, hps, hn2' with
              | [], hps, _ => subst hps; simp [mids, markN]
              | [x], hps, _ => subst hps; simp [mids, markN]
              | x :: y :: l, hps, _ => simp at hps; omega
            · rw [set_ne (by omega), hi4, flat_snoc]
            · intro v hv
              rcases List.mem_append.1 hv with hv | hv
              · exact hv2 v hv
              · simp at hv; subst hv; rfl
            · intro kk v x hv hx
              by_cases hkn : kk < n
              · rw [List.getElem?_append_left (by omega)] at hv hx
                obtain ⟨lo, hi, h1, h2, h2', h3', h4', h5⟩ := hrep kk v x hv hx
                refine ⟨lo, hi, h1, h2, h2', by simp; omega, fun hb => by have := hb.2; omega, h5.agree fun z hz => ?_⟩
                have := hz.1; have := hz.2
                rw [hold5 _ _ (by omega) (fun e => h4' (e ▸ hz)) (by omega), hold3 _ (by omega) (by omega)]
              · have hk' : kk = n := by
                  have := (List.getElem?_eq_some_iff.1 hv).1; simp at this; omega
                subst hk'
                rw [List.getElem?_append_right (by omega)] at hv hx
                simp [hps, hvs] at hv hx
                subst hv; subst hx
                refine ⟨h'.length, h3.length, by have := hK.le; omega, by omega, by omega, by simp; omega, fun hb => by have := hb.2; omega, ?_⟩
                have hr' : SRep (Btw h'.length h3.length) h3 t [.int .u8 (d3 : Int), .slice a3 n3 c3 e3] := by simpa using hr
                refine hr'.agree fun z hz => ?_
                have := hz.1; have := hz.2; have := Own.lt hj
                rw [hold5 _ _ (by omega) (by omega) (by omega)]
          · refine .inl ⟨hb3, fun t r ho => ?_⟩
            obtain ⟨p, s', hx, r', ho'⟩ := hstep t r ho
            rw [hd] at hx; simp at hx
            rw [← hx.2] at ho'
            exact hno _ _ ho'
    · simp only [xInt_some]
      have hg2 : (h'.set i (rdr s k1 true))[i]? = some (.cells t_spec_l1Reader [.str s, .int .i64 (k1 : Int), .bool true] false) := set_get hgi
      refine bcase_nbeq (fun _ => ?_) (fun he1 => by exfalso; unfold markN at he1; split at he1 <;> omega)
      simp only [xSome_some]
      rw [hStore_of hg2 (by simp)]
      simp only [xHeap_some]
      have := badGo k1 hk1 (fun t r ho => by
        obtain ⟨p, s', hx, _⟩ := hstep t r ho
        rw [hnil] at hx; cases hx)
      simpa [rdr, putRow, List.set_set] using this
  · rcases hcase with ⟨hb, hkk, hdr, ha⟩ | hb
    · exact .inr ⟨hb, hkk, rfl, by simpa using ha, [], [], rfl, rfl, by simp, by simpa [mids] using hdr, by simpa using hj0, by simp, by simp⟩
    · exact .inl hb

theorem node_ok {s : List Nat} (hs : s.length ≤ 9223372036854775807) (i : Nat) : ∀ (N k : Nat), s.length - k ≤ N → k ≤ s.length → ∀ (h : AHeap), h[i]? = some (rdr s k false) →
    SCall pg n_spec_l1Reader_node [.ptr (some (i, 0))] h (NodeQ i s k h) := by
  intro N
  induction N using Nat.strongRecOn with
  | _ N ihN =>
  intro k hN hk h hi
  have hil := Own.lt hi
  have ih : ∀ k', k < k' → k' ≤ s.length → ∀ (h : AHeap), h[i]? = some (rdr s k' false) → SCall pg n_spec_l1Reader_node [.ptr (some (i, 0))] h (NodeQ i s k' h) :=
    fun k' h1 h2 => ihN (s.length - k') (by omega) k' (Nat.le_refl _) h2
  apply F_spec_l1Reader_node.call
  simp only [letH_def]
  refine (next_ok (app_old hi) hk hs).mono ?_
  have main : ∀ (c k1 : Nat) (b1 : Bool), k1 ≤ s.length → ((b1 = false ∧ k < k1 ∧ s.drop k = c :: s.drop k1) ∨ (b1 = true ∧ arN c < 0 ∧ s.drop k = [])) → ∀ h2, h2 = (h ++ [AObj.cells t_spec_l1Node [.int .u8 0, .slice none 0 0 true] false]).set i (rdr s k1 b1) →
      xHeap (hStore (h2 ++ [AObj.cells t_spec_l1Node [] false] ++ [AObj.cells t_spec_l1Node [.int .u8 0, .slice none 0 0 true] false]) (.ptr (some (List.length (h2 ++ [AObj.cells t_spec_l1Node [] false]), 0))) [.int .u8 (c : Int), .slice (some (List.length h2, 0)) 0 0 true]) fun h_6 => xInt .u8 (hCell h_6 (.ptr (some (List.length (h2 ++ [AObj.cells t_spec_l1Node [] false]), 0 + 0)))) fun x_7 => SCall pg n_spec_l1Arity [.int .u8 x_7] h_6 fun v_8 h_9 =>
        xInt .i64 (some v_8) fun x_10 => xSome (some (i, 0)) fun i_11 o_12 => xBool (hCell h_9 (.ptr (some (i_11, o_12 + 2)))) fun b_13 => bcase b_13 (xSome (some (i, 0)) fun i_14 o_15 => xHeap (hStore h_9 (.ptr (some (i_14, o_15 + 2))) [.bool true]) fun h_16 => F_spec_l1Reader_node.J4 (NodeQ i s k h) (some (i, 0)) (List.length h) 0 (List.length (h2 ++ [AObj.cells t_spec_l1Node [] false])) 0 x_10 h_16) (xSome (some (i, 0)) fun i_17 o_18 => xHeap (hStore h_9 (.ptr (some (i_17, o_18 + 2))) [.bool (decide ((x_10 : Int) < 0))]) fun h_19 => F_spec_l1Reader_node.J4 (NodeQ i s k h) (some (i, 0)) (List.length h) 0 (List.length (h2 ++ [AObj.cells t_spec_l1Node [] false])) 0 x_10 h_19) := by
    intro c k1 b1 hk1 hc h2 hh2
    have hl2 : h2.length = h.length + 1 := by rw [hh2]; simp
    have hi2 : h2[i]? = some (rdr s k1 b1) := by rw [hh2]; exact set_get (app_old hi)
    have hz2 : h2[h.length]? = some (.cells t_spec_l1Node [.int .u8 0, .slice none 0 0 true] false) := by rw [hh2, set_ne (by omega)]; simp
    have hK2 : Keep i h h2 := by rw [hh2]; exact (Keep.app i h _).trans (Keep.set _ _ _)
    generalize hg : h2 ++ [AObj.cells t_spec_l1Node [] false] = g
    have hgl : g.length = h.length + 2 := by rw [← hg]; simp [hl2]
    have hgi : g[i]? = some (rdr s k1 b1) := by rw [← hg]; exact app_old hi2
    have hgz : g[h.length]? = some (.cells t_spec_l1Node [.int .u8 0, .slice none 0 0 true] false) := by rw [← hg]; exact app_old hz2
    have hga : g[h2.length]? = some (.cells t_spec_l1Node [] false) := by rw [← hg]; simp
    have hKg : Keep i h g := by rw [← hg]; exact hK2.trans (Keep.app i _ _)
    have hn : (g ++ [AObj.cells t_spec_l1Node [.int .u8 0, .slice none 0 0 true] false])[g.length]? = some (AObj.cells t_spec_l1Node [.int .u8 0, .slice none 0 0 true] false) := by simp
    rw [hStore_of hn (by simp)]
    simp only [xHeap_some]
    rw [hCell_of (set_get hn)]
    simp only [putRow, List.take_zero, List.nil_append, List.cons_append, Nat.add_zero, List.getElem?_cons_zero, xInt_some]
    refine (l1Arity_ok c).mono ?_
    rintro v h9 ⟨rfl, rfl⟩
    have hold : ∀ (x : AObj) z w, g[z]? = some w → ((g ++ [AObj.cells t_spec_l1Node [.int .u8 0, .slice none 0 0 true] false]).set g.length x)[z]? = some w := fun x z w hz => by rw [set_ne (by have := Own.lt hz; omega)]; exact app_old hz
    simp only [xInt_some, xSome_some]
    have h9i := hold (AObj.cells t_spec_l1Node [.int .u8 (c : Int), .slice (some (List.length h2, 0)) 0 0 true] false) i _ hgi
    have h9i' : ((g ++ [AObj.cells t_spec_l1Node [.int .u8 0, .slice none 0 0 true] false]).set g.length (AObj.cells t_spec_l1Node [.int .u8 (c : Int), .slice (some (List.length h2, 0)) 0 0 true] false))[i]? = some (.cells t_spec_l1Reader [.str s, .int .i64 (k1 : Int), .bool b1] false) := h9i
    rw [show (AVal.int IntKind.u8 (c : Int) :: AVal.slice (some (List.length h2, 0)) 0 0 true :: List.drop (0 + [AVal.int IntKind.u8 (c : Int), AVal.slice (some (List.length h2, 0)) 0 0 true].length) [AVal.int IntKind.u8 0, AVal.slice none 0 0 true]) = [.int .u8 (c : Int), .slice (some (List.length h2, 0)) 0 0 true] from rfl]
    have tail : ∀ b2, ((b2 = false ∧ k < k1 ∧ s.drop k = c :: s.drop k1 ∧ 0 ≤ arN c) ∨ (b2 = true ∧ ∀ t r, ¬ Opens (s.drop k) t r)) → ∀ g2, g2 = (((g ++ [AObj.cells t_spec_l1Node [.int .u8 0, .slice none 0 0 true] false]).set g.length (AObj.cells t_spec_l1Node [.int .u8 (c : Int), .slice (some (List.length h2, 0)) 0 0 true] false)).set i (rdr s k1 b2)) →
        F_spec_l1Reader_node.J4 (NodeQ i s k h) (some (i, 0)) (List.length h) 0 (List.length g) 0 (arN c) g2 := by
      intro b2 hb g2 hg2
      refine node_J4 hs hil ih (c := c) (k1 := k1) (bad := b2) (j0 := h2.length) ?_ ?_ hk1 (Nat.le_refl _) (by omega) (by omega) (by omega) (by omega) (by omega) ?_ ?_ ?_ hb
      · rw [hg2]; exact ((hKg.trans (Keep.app i _ _)).trans' (fun j hj => set_ne (by omega))).trans (Keep.set _ _ _)
      · rw [hg2]; exact set_get h9i
      · rw [hg2, set_ne (by omega)]; exact hold _ _ _ hgz
      · rw [hg2, set_ne (by omega)]; exact set_get hn
      · rw [hg2, set_ne (by omega)]; exact hold _ _ _ hga
    rw [hCell_of h9i']
    simp only [Nat.zero_add, List.getElem?_cons_zero, List.getElem?_cons_succ, xBool_some]
    rw [hStore_of h9i' (by simp), hStore_of h9i' (by simp)]
    simp only [xHeap_some]
    rcases hc with ⟨rfl, h1, h2'⟩ | ⟨rfl, h1, h2'⟩
    · simp only [bcase_false]
      by_cases ha : arN c < 0
      · refine tail true (.inr ⟨rfl, ?_⟩) _ (by simp [rdr, putRow, ha])
        intro t r ho
        have h3 := Ty.ok_ar ho.1
        have hhd : t.hd = c := by
          obtain ⟨r', hr⟩ := t.txt_cons
          have := ho.2; rw [hr, h2'] at this; simp at this; exact this.1.symm
        rw [hhd] at h3; omega
      · exact tail false (.inl ⟨rfl, h1, h2', by omega⟩) _ (by simp [rdr, putRow, ha])
    · simp only [bcase_true]
      refine tail true (.inr ⟨rfl, ?_⟩) _ (by simp [rdr, putRow])
      intro t r ho
      rw [h2'] at ho; exact Opens.nil ho
  rintro v h2 (⟨c, hd, hlt, rfl, hh⟩ | ⟨hnil, rfl, hh⟩)
  · simp only [xInt_some]
    exact main c (k + 1) false (by omega) (.inl ⟨rfl, by omega, hd⟩) h2 hh
  · simp only [xInt_some]
    exact main 0 k true hk (.inr ⟨rfl, by decide, hnil⟩) h2 hh

/-- The reference's reading: its tree, or nothing. -/
theorem l1Read_ok (s : List Nat) (hs : s.length ≤ 9223372036854775807) (h : AHeap) : SCall pg n_spec_l1Read [.str s] h fun v h' => Same h.length h h' ∧ ∃ vs : List AVal, v = .tup [.agg vs, .bool (tyOk s)] ∧
    (match ofTxt s with | some t => SRep (Btw h.length h'.length) h' t vs | none => vs = [.int .u8 0, .slice none 0 0 true]) := by
  apply F_spec_l1Read.call
  simp only [letH_def]
  generalize hg : h ++ [AObj.cells t_spec_l1Node [.int .u8 0, .slice none 0 0 true] false] = g
  have hgl : g.length = h.length + 1 := by rw [← hg]; simp
  have hgz : g[h.length]? = some (.cells t_spec_l1Node [.int .u8 0, .slice none 0 0 true] false) := by rw [← hg]; simp
  have hgs : Same h.length h g := by rw [← hg]; exact Same.app (Nat.le_refl _) _
  have hr : (g ++ [AObj.cells t_spec_l1Reader [.str s, .int .i64 0, .bool false] false])[g.length]? = some (rdr s 0 false) := by simp [rdr]
  refine (node_ok hs g.length _ 0 (Nat.le_refl _) (Nat.zero_le _) _ hr).mono ?_
  rintro v h3 ⟨hK, d, a, n, c, e, k', bad, rfl, hi, hk', hres⟩
  simp only [xAgg_agg, xCons_cons, xInt_some, xSl_some, xNil_nil, letH_def]
  have hl3 := hK.le
  simp at hl3
  have hz3 : h3[h.length]? = some (.cells t_spec_l1Node [.int .u8 0, .slice none 0 0 true] false) := by rw [hK.eq _ (by simp; omega) (by omega)]; exact app_old hgz
  have hs3 : Same h.length h h3 := ⟨by omega, fun j hj => by rw [hK.eq _ (by simp; omega) (by omega), app_lt (by omega)]; exact hgs.eq j hj⟩
  have hn : (h3 ++ [AObj.cells t_spec_l1Node [.int .u8 0, .slice none 0 0 true] false])[h3.length]? = some (.cells t_spec_l1Node [.int .u8 0, .slice none 0 0 true] false) := by simp
  rw [hStore_of hn (by simp)]
  simp only [xHeap_some]
  generalize h5e : (h3 ++ [AObj.cells t_spec_l1Node [.int .u8 0, .slice none 0 0 true] false]).set h3.length (.cells t_spec_l1Node (putRow [.int .u8 0, .slice none 0 0 true] 0 [.int .u8 (d : Int), .slice a n c e]) false) = h5
  have h5o : ∀ z, z < h3.length → h5[z]? = h3[z]? := fun z hz => by rw [← h5e, set_ne (by omega), app_lt hz]
  have h5l : h5.length = h3.length + 1 := by rw [← h5e]; simp
  have h5n : h5[h3.length]? = some (.cells t_spec_l1Node [.int .u8 (d : Int), .slice a n c e] false) := by rw [← h5e, set_get hn]; simp [putRow]
  have h5i : h5[g.length]? = some (.cells t_spec_l1Reader [.str s, .int .i64 (k' : Int), .bool bad] false) := by rw [h5o _ (Own.lt hi)]; exact hi
  have h5z : h5[h.length]? = some (.cells t_spec_l1Node [.int .u8 0, .slice none 0 0 true] false) := by rw [h5o _ (Own.lt hz3)]; exact hz3
  have h5s : Same h.length h h5 := ⟨by omega, fun j hj => by rw [h5o _ (by omega)]; exact hs3.eq j hj⟩
  rw [hCell_of h5i]
  simp only [Nat.zero_add, List.getElem?_cons_zero, List.getElem?_cons_succ, xBool_some]
  have fail : ofTxt s = none → xHeap (hStore h5 (.ptr (some (List.length h, 0))) [.int .u8 0, .slice none 0 0 true]) fun h_17 => xRow (hRow h_17 (.ptr (some (List.length h, 0))) 2) fun cs_18 => xCons cs_18 fun c_19 r_20 => xInt .u8 (some c_19) fun x_21 => xCons r_20 fun c_22 r_23 => xSl (some c_22) fun a_24 n_25 c_26 e_27 => xNil r_23 (Same h.length h h_17 ∧ ∃ vs : List AVal, (AVal.tup [.agg [.int .u8 x_21, .slice a_24 n_25 c_26 e_27], .bool false]) = .tup [.agg vs, .bool (tyOk s)] ∧
    (match ofTxt s with | some t => SRep (Btw h.length h_17.length) h_17 t vs | none => vs = [.int .u8 0, .slice none 0 0 true])) := by
    intro hno
    rw [hStore_of h5z (by simp)]
    simp only [xHeap_some]
    rw [hRow_of (set_get h5z) (by simp [putRow])]
    simp only [putRow, List.take_zero, List.nil_append, List.length_cons, List.length_nil, List.cons_append, List.drop_succ_cons, List.drop_zero, List.drop_nil, List.append_nil, List.take_succ_cons, xRow_some, xCons_cons, xInt_some, xSl_some, xNil_nil]
    refine ⟨⟨by simp; omega, fun j hj => by rw [set_ne (by omega)]; exact h5s.eq j hj⟩, _, by simp only [tyOk, hno]; rfl, by rw [hno]⟩
  rw [List.drop_zero] at hres
  rcases hres with ⟨rfl, t, ho, hrep⟩ | ⟨rfl, hno⟩
  · simp only [bcase_false, hCell_of h5i, Nat.zero_add, List.getElem?_cons_zero, List.getElem?_cons_succ, xInt_some]
    refine bcase_nbeq (fun hne => fail ?_) (fun he => ?_)
    · unfold ofTxt
      split
      · exact tyAny_none.2 fun t' ht' e' => by
          have := (ho.unique ⟨ht', show s = t'.txt ++ [] by simpa using e'⟩).2
          have := congrArg List.length this
          simp at this; omega
      · rfl
    · have hk : k' = s.length := by omega
      subst hk
      rw [List.drop_length] at ho
      have hs' : s = t.txt := by simpa using ho.2
      refine bcase_dec (fun hl => fail ?_) (fun hl => ?_)
      · unfold ofTxt; rw [if_neg (by omega)]
      · have hof : ofTxt s = some t := ofTxt_some.2 ⟨ho.1, hs', by omega⟩
        apply F_spec_l1Read.J5i
        rw [hRow_of h5n (by simp)]
        simp only [List.drop_zero, List.take_succ_cons, List.take_zero, xRow_some, xCons_cons, xInt_some, xSl_some, xNil_nil]
        rw [hStore_of h5z (by simp)]
        simp only [xHeap_some]
        rw [hRow_of (set_get h5z) (by simp [putRow])]
        simp only [putRow, List.take_zero, List.nil_append, List.length_cons, List.length_nil, List.cons_append, List.drop_succ_cons, List.drop_zero, List.drop_nil, List.append_nil, List.take_succ_cons, xRow_some, xCons_cons, xInt_some, xSl_some, xNil_nil]
        refine ⟨⟨by simp; omega, fun j hj => by rw [set_ne (by omega)]; exact h5s.eq j hj⟩, _, by simp only [tyOk, hof]; rfl, ?_⟩
        rw [hof]
        refine SRep.mono (S := Btw (g ++ [AObj.cells t_spec_l1Reader [.str s, .int .i64 0, .bool false] false]).length h3.length) (fun z hz => ⟨by have := hz.1; simp at this; omega, by have := hz.2; simp; omega⟩) (hrep.agree fun z hz => ?_)
        have h1 := hz.1; have h2 := hz.2
        simp at h1
        rw [set_ne (by omega), h5o _ h2]
  · simp only [bcase_true]
    refine fail ?_
    unfold ofTxt
    split
    · exact tyAny_none.2 fun t' ht' e' => hno t' [] ⟨ht', by simpa using e'⟩
    · rfl
theorem sTypeValid_ok (s : List Nat) (hs : s.length ≤ 9223372036854775807) (h : AHeap) : SCall pg n_spec_TypeValid [.str s] h fun v h' => v = .bool (tyOk s) ∧ Same h.length h h' := by
  apply F_spec_TypeValid.call
  refine (l1Read_ok s hs h).mono ?_
  rintro v h1 ⟨hS, vs, rfl, hm⟩
  have hvs : ∃ (d : Int) (a : Pt) (n c : Nat) (e : Bool), vs = [.int .u8 d, .slice a n c e] := by
    split at hm
    · obtain ⟨a, c, e, rfl⟩ := hm.shape; exact ⟨_, _, _, _, _, rfl⟩
    · exact ⟨_, _, _, _, _, hm⟩
  obtain ⟨d, a, n, c, e, rfl⟩ := hvs
  simp only [xTup_tup, xCons_cons, xAgg_agg, xInt_some, xSl_some, xNil_nil, xBool_some, letH_def]
  have hn : (h1 ++ [AObj.cells t_spec_l1Node [.int .u8 0, .slice none 0 0 true] false])[h1.length]? = some (.cells t_spec_l1Node [.int .u8 0, .slice none 0 0 true] false) := by simp
  rw [hStore_of hn (by simp)]
  simp only [xHeap_some]
  exact ⟨by trivial, hS.trans ((Same.app hS.le _).trans (Same.set hS.le _))⟩
end Go.Sim

set_option linter.unusedVariables false
namespace Go.Sim
open Go Go.RowKit

theorem c9 : pg.cellsOf t_string = 1 := by kernel_rfl
theorem b9 : pg.bytesOf t_string = 16 := by kernel_rfl

/-- A counting index, one further. -/
theorem wrap_succ {k n : Nat} (h : k < n) (hn : n ≤ 4611686018427387904) : IntKind.wrap .i64 ((k : Int) + 1) = ((k + 1 : Nat) : Int) := by rw [IntWalk.i64_in _ (by omega)]; omega

/-- A number's digits. -/
def digs (k : Nat) (acc : List Nat) : List Nat := if h : k = 0 then acc else digs (k / 10) ((48 + k % 10) :: acc)
  termination_by k
  decreasing_by omega
def markT (k : Int) : List Nat := if k ≤ 0 then [109, 48] else 109 :: digs k.toNat []
theorem rowOf_last {h : AHeap} {t : TypeId} {cs : List AVal} {n : Nat} (hn : cs.length = n) : rowOf (h ++ [.cells t cs false]) (some (h.length, 0)) n = some cs := by
  subst hn
  exact (Own.row (b := 0) (t := t) ⟨h.length, rfl, by omega, by simp⟩).rowOf
theorem rowOf_one {h : AHeap} {t : TypeId} {v : AVal} : rowOf (h ++ [.cells t [v] false]) (some (h.length, 0)) 1 = some [v] := rowOf_last rfl
theorem getElem_set_self' {h : AHeap} {i : Nat} {x y : AObj} (hi : h[i]? = some y) : (h.set i x)[i]? = some x := by
  have := Own.lt hi
  simp [this]
def marks (k : Int) (n : Nat) : List (List Nat) := (List.range n).map fun (j : Nat) => markT (k + j)
@[simp] theorem marks_length (k : Int) (n : Nat) : (marks k n).length = n := by simp [marks]
theorem marks_succ (k : Int) (n : Nat) : marks k (n + 1) = marks k n ++ [markT (k + n)] := by simp [marks, List.range_succ]

end Go.Sim

/- FormatTexts: the contracts of what the law calls, and the law at the machine's level. -/
set_option linter.unusedVariables false
namespace Go.Sim
open Go Go.RowKit

def sp (l : List (List Nat)) : List Nat := [32].intercalate l
end Go.Sim

set_option linter.unusedVariables false
set_option linter.unusedSimpArgs false
set_option maxRecDepth 20000
namespace Go.Sim
open Go Go.RowKit

theorem decN_lt {u : Nat} (h : u < 10) : decN u = [48 + u] := by
  unfold decN Lib.decDigits
  rw [dif_pos h]
  simp [UInt8.toNat_ofNat']; omega
theorem decN_ge {u : Nat} (h : ¬ u < 10) : decN u = decN (u / 10) ++ [48 + u % 10] := by
  unfold decN
  conv => lhs; unfold Lib.decDigits
  rw [dif_neg h]
  simp [UInt8.toNat_ofNat']; omega
theorem decN_len : ∀ (k u : Nat), u < 10 ^ (k + 1) → (decN u).length ≤ k + 1 := by
  intro k
  induction k with
  | zero => intro u h; rw [decN_lt (by omega)]; simp
  | succ k ih =>
    intro u h
    by_cases hu : u < 10
    · rw [decN_lt hu]; simp
    · rw [decN_ge hu]
      have := ih (u / 10) (by rw [Nat.pow_succ] at h; omega)
      simp; omega
theorem itoaN_neg {z : Int} (h : z < 0) : itoaN z = 45 :: decN z.natAbs := by unfold itoaN Lib.itoa decN; rw [if_pos h]; rfl
theorem itoaN_pos {z : Int} (h : ¬ z < 0) : itoaN z = decN z.toNat := by unfold itoaN Lib.itoa decN; rw [if_neg h]
theorem dec_loop {h : AHeap} {z : Int} (h0 : 0 ≤ z) (h1 : z ≤ 9223372036854775807) : F_spec_l13Dec.L6 (fun v h' => v = .str (decN z.toNat) ∧ Same h.length h h') z [] h := by
  refine F_spec_l13Dec.L6ind _ (J := fun (g : Nat) x0 x3 h' => x0 = (g : Int) ∧ Same h.length h h' ∧ decN g ++ x3 = decN z.toNat ∧ (g : Int) ≤ z) (fun g => g) ?_ z.toNat _ _ _ ⟨by omega, Same.refl _ _, by simp, by omega⟩
  rintro g x0 x3 h' ⟨rfl, hs, hd, hb⟩ R hR
  have hl : x3.length ≤ 20 := by
    have h2 := congrArg List.length hd
    rw [List.length_append] at h2
    have := decN_len 18 z.toNat (by omega); omega
  unfold F_spec_l13Dec.L6t
  refine bcase_dec (fun hlt => ?_) (fun hge => ?_)
  · have h1 : Int.tmod (g : Int) 10 = ((g % 10 : Nat) : Int) := by rw [Int.tmod_eq_emod_of_nonneg (by omega)]; omega
    have h2 : Int.tdiv (g : Int) 10 = ((g / 10 : Nat) : Int) := by rw [Int.tdiv_eq_ediv_of_nonneg (by omega)]; omega
    rw [h1, h2, IntWalk.i64_in _ (by omega), IntWalk.u8_in _ (by omega), IntWalk.i64_in _ (by omega)]
    simp only [letH_def, rowOf_one, xRow_some]
    refine ⟨by omega, ?_⟩
    simp only [bytesA, chk, decide_true]
    refine ⟨by omega, by simp; omega, by omega, hR (g / 10) _ _ _ (by omega) ⟨rfl, hs.trans (Same.app hs.le _), ?_, by omega⟩⟩
    rw [← hd, decN_ge (u := g) (by omega), show (48 + ((g % 10 : Nat) : Int)).toNat = 48 + g % 10 by omega]
    simp
  · apply F_spec_l13Dec.A6x0i
    rw [IntWalk.i64_in _ (by omega), IntWalk.u8_in _ (by omega)]
    simp only [letH_def, rowOf_one, xRow_some, bytesA, chk, decide_true]
    refine ⟨by omega, by simp; omega, ?_, hs.trans (Same.app hs.le _)⟩
    rw [← hd, decN_lt (u := g) (by omega), show (48 + (g : Int)).toNat = 48 + g by omega]
theorem l13Dec_ok {h : AHeap} {z : Int} (h0 : -9223372036854775808 ≤ z) (h1 : z ≤ 9223372036854775807) : SCall pg n_spec_l13Dec [.int .i64 z] h fun v h' => v = .str (itoaN z) ∧ Same h.length h h' := by
  have pos : ∀ (z : Int) (h : AHeap), 0 ≤ z → z ≤ 9223372036854775807 → SCall pg n_spec_l13Dec [.int .i64 z] h fun v h' => v = .str (decN z.toNat) ∧ Same h.length h h' := by
    intro z h h0 h1
    apply F_spec_l13Dec.call
    refine bcase_dec (fun hlt => by omega) (fun hge => bcase_dec (fun hlt => by omega) (fun hge => dec_loop h0 h1))
  by_cases hz : z < 0
  · apply F_spec_l13Dec.call
    refine bcase_dec (fun hlt => ?_) (fun hge => bcase_dec (fun hlt => ?_) (fun hge => by omega))
    · have : z = -9223372036854775808 := by omega
      subst this
      exact ⟨by rw [itoaN_neg (by omega)]; simp [decN_ge, decN_lt], Same.refl _ _⟩
    · rw [IntWalk.i64_in _ (by omega)]
      refine (pos (0 - z) h (by omega) (by omega)).mono ?_
      rintro v h' ⟨rfl, hs⟩
      simp only [xStr_some]
      have := decN_len 18 (0 - z).toNat (by omega)
      refine ⟨by simp only [List.length_cons, List.length_nil]; omega, ?_, hs⟩
      rw [itoaN_neg hz, show (0 - z).toNat = z.natAbs by omega]; rfl
  · rw [itoaN_pos hz]; exact pos z h (by omega) h1

end Go.Sim

set_option linter.unusedVariables false
set_option linter.unusedSimpArgs false
set_option maxRecDepth 20000
namespace Go.Sim
open Go Go.RowKit

end Go.Sim

set_option linter.unusedVariables false
namespace Go.Sim
open Go Go.RowKit

theorem szNeed_ok {h : AHeap} {c t : List Nat} {x : Int} (hc : c.length ≤ 9223372036854775807) (ht : t.length ≤ 9223372036854775807) (hx : 0 ≤ x ∧ x ≤ 1048576) :
    SCall pg n_laws_szNeed [.agg [.str c, .str t], .int .i64 x] h fun v h' => ∃ y, v = .int .i64 y ∧ Same h.length h h' ∧ (0 ≤ y → (c.length : Int) + t.length + y = x) := by
  apply F_laws_szNeed.call
  simp only [letH_def]
  have s1 : Same h.length h (h ++ [.cells t_laws_Need [.str c, .str t] false]) := Same.app (Nat.le_refl _) _
  simp [hCell]
  rw [IntWalk.i64_in _ (by omega)]
  refine bcase_dec (fun hlt => s1) (fun hge => ?_)
  rw [IntWalk.i64_in _ (by omega)]
  exact bcase_dec (fun hlt => s1) (fun hge => ⟨s1, by omega⟩)
theorem need33_ok {h : AHeap} {c t : List Nat} (hb : c.length + t.length ≤ 1048576) :
    SCall pg n_spec_FormatNeed [.agg [.str c, .str t]] h fun v h' => v = .str (c ++ [32] ++ t) ∧ Same h.length h h' := by
  apply F_spec_FormatNeed.call
  simp only [letH_def]
  have s1 : Same h.length h (h ++ [.cells t_impl_Need [.str c, .str t] false]) := Same.app (Nat.le_refl _) _
  simp [hCell]
  exact ⟨by omega, by omega, s1⟩
theorem need35_ok {h : AHeap} {c t : List Nat} (hb : c.length + t.length ≤ 1048576) :
    SCall pg n_impl_FormatNeed [.agg [.str c, .str t]] h fun v h' => v = .str (c ++ [32] ++ t) ∧ Same h.length h h' := by
  apply F_impl_FormatNeed.call
  simp only [letH_def]
  have s1 : Same h.length h (h ++ [.cells t_impl_Need [.str c, .str t] false]) := Same.app (Nat.le_refl _) _
  simp [hCell]
  exact ⟨by omega, by omega, s1⟩
theorem eqNeed_ok {h : AHeap} {c t c' t' : List Nat} :
    SCall pg n_laws_eqNeed [.agg [.str c, .str t], .agg [.str c', .str t']] h fun v h' => v = .bool (decide (c = c') && decide (t = t')) ∧ Same h.length h h' := by
  apply F_laws_eqNeed.call
  simp only [letH_def]
  simp [hCell]
  by_cases e1 : c = c' <;> by_cases e2 : t = t' <;> simp [e1, e2] <;> exact Same.app (Nat.le_refl _) _
theorem toNeed_ok {h : AHeap} {c t : List Nat} :
    SCall pg n_laws_toNeed [.agg [.str c, .str t]] h fun v h' => v = .agg [.str c, .str t] ∧ Same h.length h h' := by
  apply F_laws_toNeed.call
  simp only [letH_def]
  simp [hCell, hStore, hRow, putRow, List.getElem?_append, List.getElem?_set]
  exact Same.app (Nat.le_refl _) _

/-- Pairs of strings in a row. -/
def prs (l : List (List Nat × List Nat)) : List AVal := l.flatMap fun p => [.str p.1, .str p.2]
@[simp] theorem prs_nil : prs [] = [] := rfl
@[simp] theorem prs_cons (p : List Nat × List Nat) (l : List (List Nat × List Nat)) : prs (p :: l) = .str p.1 :: .str p.2 :: prs l := rfl
@[simp] theorem prs_append (a b : List (List Nat × List Nat)) : prs (a ++ b) = prs a ++ prs b := by simp [prs]
theorem prs_length (l : List (List Nat × List Nat)) : (prs l).length = l.length * 2 := by
  induction l with
  | nil => rfl
  | cons p l ih => simp [ih]; omega
theorem prs_drop : ∀ (l : List (List Nat × List Nat)) (k : Nat), (prs l).drop (k * 2) = prs (l.drop k)
  | l, 0 => by simp
  | [], k + 1 => by simp
  | p :: l, k + 1 => by rw [Nat.succ_mul]; simpa using prs_drop l k
theorem Row.pair {b : Nat} {h : AHeap} {a : Pt} {n : Nat} {l : List (List Nat × List Nat)} (r : Row b h a (n * 2) (prs l)) {k : Nat} (hk : k < n) :
    ∃ i o, ∃ hk' : k < l.length, a = some (i, o) ∧ i < b ∧ hRow h (.ptr (some (i, o + k * 2))) 2 = some [.str l[k].1, .str l[k].2] := by
  have hl : l.length = n := by have := r.1; rw [prs_length] at this; omega
  obtain ⟨_, r⟩ := r
  rcases r with h0 | ⟨i, o, t, all, ro, ha, hb, hi, hle, hcs⟩
  · omega
  · refine ⟨i, o, by omega, ha, hb, ?_⟩
    have hd : (all.drop (o + k * 2)).take 2 = [.str l[k].1, .str l[k].2] := by
      have h1 : ((all.drop o).take (n * 2)).drop (k * 2) = prs (l.drop k) := by rw [← hcs, prs_drop]
      rw [List.drop_take, List.drop_drop] at h1
      have h2 : (all.drop (o + k * 2)).take 2 = ((all.drop (o + k * 2)).take (n * 2 - k * 2)).take 2 := by rw [List.take_take, Nat.min_eq_left (by omega)]
      rw [h2, h1, List.drop_eq_getElem_cons (by omega)]
      simp only [prs_cons, List.take_succ_cons, List.take_zero]
    simp only [hRow, hi]
    rw [if_pos (by omega), hd]

def tot2 (l : List (List Nat × List Nat)) : Nat := (l.map fun p => p.1.length + p.2.length).sum
theorem tot2_take {l : List (List Nat × List Nat)} {g : Nat} (h : g < l.length) : tot2 (l.take (g + 1)) = tot2 (l.take g) + (l[g].1.length + l[g].2.length) := by
  unfold tot2; rw [List.take_succ_eq_append_getElem h, List.map_append, List.sum_append]; simp
theorem tot2_take_le (l : List (List Nat × List Nat)) (g : Nat) : tot2 (l.take g) ≤ tot2 l := by
  conv => rhs; rw [← List.take_append_drop g l]
  unfold tot2; rw [List.map_append, List.sum_append]; omega
theorem tot2_get {l : List (List Nat × List Nat)} {g : Nat} (h : g < l.length) : l[g].1.length + l[g].2.length ≤ tot2 l := by
  have := tot2_take h; have := tot2_take_le l (g + 1); omega
theorem szNeeds_ok {h : AHeap} {a : Pt} {n c : Nat} {e : Bool} {l : List (List Nat × List Nat)} (r : Row h.length h a (n * 2) (prs l)) (hs : ∀ p ∈ l, p.1.length ≤ 9223372036854775807 ∧ p.2.length ≤ 9223372036854775807) (hn : n ≤ 9223372036854775807) {left : Int} (hl : 0 ≤ left ∧ left ≤ 1048576) :
    SCall pg n_laws_szNeedS [.slice a n c e, .int .i64 left] h fun v h' => ∃ x, v = .int .i64 x ∧ Same h.length h h' ∧ (0 ≤ x → (n : Int) + tot2 l + x = left) := by
  have hll : l.length = n := by have := r.1; rw [prs_length] at this; omega
  apply F_laws_szNeedS.call
  rw [IntWalk.i64_in _ (by omega)]
  refine bcase_dec (fun hlt => ?_) (fun hge => ?_)
  · exact ⟨_, rfl, Same.refl _ _, by omega⟩
  · refine F_laws_szNeedS.L5ind _ _ _ _ _ (J := fun (g : Nat) x1 x5 h' => x5 = (g : Int) ∧ Same h.length h h' ∧ g ≤ n ∧ 0 ≤ x1 ∧ x1 + n + tot2 (l.take g) = left) (fun g => n - g) ?_ 0 _ 0 h ⟨rfl, Same.refl _ _, by omega, by omega, by simp [tot2]⟩
    rintro g x1 x5 h' ⟨rfl, hS, hg, h0, ht⟩ R hR
    unfold F_laws_szNeedS.L5t
    refine bcase_dec (fun hlt => ?_) (fun hge => ?_)
    · have hlt' : g < n := by omega
      obtain ⟨i, o, hgl, rfl, hi, hc⟩ := (r.same hS).pair hlt'
      have hsl := hs _ (List.getElem_mem hgl)
      simp only [xSome_some, Int.toNat_natCast, hc, xRow_some, xCons_cons, xNil_nil, xStr_some]
      refine ⟨by omega, (szNeed_ok hsl.1 hsl.2 (by omega)).mono fun v h1 ⟨y, hv, hs1, hy⟩ => ?_⟩
      subst hv
      simp only [xInt_some]
      have hS1 := hS.trans (hs1.mono hS.le)
      refine bcase_dec (fun hneg => ⟨_, rfl, hS1, by omega⟩) (fun hneg => ?_)
      rw [wrap_succ hlt' (by omega)]
      have hyy := hy (by omega)
      refine hR (g + 1) _ _ _ (by omega) ⟨rfl, hS1, by omega, by omega, ?_⟩
      rw [tot2_take hgl]; omega
    · have : g = n := by omega
      subst this
      rw [List.take_of_length_le (by omega)] at ht
      exact F_laws_szNeedS.A5x0i _ _ _ ⟨_, rfl, hS, by omega⟩
end Go.Sim

set_option linter.unusedVariables false
namespace Go.Sim
open Go Go.RowKit
theorem prs_take : ∀ (l : List (List Nat × List Nat)) (k : Nat), (prs l).take (k * 2) = prs (l.take k)
  | l, 0 => by simp
  | [], k + 1 => by simp
  | p :: l, k + 1 => by rw [Nat.succ_mul]; simpa using prs_take l k
theorem store_two {h : AHeap} {i k : Nat} {t : TypeId} {L : List (List Nat × List Nat)} {a b : List Nat} (hi : h[i]? = some (.cells t (prs L) false)) (hk : k < L.length) :
    hStore h (.ptr (some (i, k * 2))) [.str a, .str b] = some (h.set i (.cells t (prs (L.take k ++ [(a, b)] ++ L.drop (k + 1))) false)) := by
  have hle : k * 2 + 2 ≤ (prs L).length := by rw [prs_length]; omega
  simp only [hStore, hi, List.length_cons, List.length_nil, Nat.zero_add, hle, if_true, putRow]
  rw [prs_take, show k * 2 + (1 + 1) = (k + 1) * 2 by omega, prs_drop]
  simp
theorem reps_two (n : Nat) : reps n [.str [], .str []] = prs (List.replicate n ([], [])) := by
  unfold reps
  induction n with
  | zero => rfl
  | succ n ih => rw [List.replicate_succ, List.flatten_cons, ih, List.replicate_succ]; rfl
theorem eqNeeds_ok {h : AHeap} {a0 a1 : Pt} {n0 n1 c0 c1 : Nat} {e0 e1 : Bool} {l0 l1 : List (List Nat × List Nat)} (r0 : Row h.length h a0 (n0 * 2) (prs l0)) (r1 : Row h.length h a1 (n1 * 2) (prs l1)) (hn : n0 ≤ 4611686018427387904) (heq : l0 = l1) :
    SCall pg n_laws_eqNeedS [.slice a0 n0 c0 e0, .slice a1 n1 c1 e1] h fun v h' => v = .bool true ∧ Same h.length h h' := by
  subst heq
  have hl0 : l0.length = n0 := by have := r0.1; rw [prs_length] at this; omega
  have hl1 : l0.length = n1 := by have := r1.1; rw [prs_length] at this; omega
  have : n1 = n0 := by omega
  subst this
  apply F_laws_eqNeedS.call
  simp only [beq_self_eq_true, Bool.not_true, bcase_false]
  refine F_laws_eqNeedS.L4ind _ _ _ _ _ _ _ _ _ (J := fun (k : Nat) x5 h' => Same h.length h h' ∧ x5 = (k : Int) ∧ k ≤ n1) (fun k => n1 - k) ?_ 0 0 h ⟨Same.refl _ _, rfl, by omega⟩
  rintro k x5 h' ⟨hs, rfl, hk⟩ R hR
  unfold F_laws_eqNeedS.L4t
  refine bcase_dec (fun hlt => ?_) (fun hge => F_laws_eqNeedS.A4x0i _ _ ⟨rfl, hs⟩)
  have hlt' : k < n1 := by omega
  obtain ⟨i, o, hgl, rfl, _, hc0⟩ := (r0.same hs).pair hlt'
  obtain ⟨i', o', _, rfl, _, hc1⟩ := (r1.same hs).pair hlt'
  simp only [xSome_some, Int.toNat_natCast, hc0, hc1, xRow_some, xCons_cons, xNil_nil, xStr_some, true_and]
  refine ⟨⟨by omega, by omega⟩, ⟨by omega, by omega⟩, eqNeed_ok.mono fun v h1 ⟨hv, hs1⟩ => ?_⟩
  subst hv
  simp only [xBool_some, decide_true, Bool.and_self, Bool.not_true, bcase_false]
  rw [wrap_succ hlt' (by omega)]
  exact hR (k + 1) _ _ (by omega) ⟨hs.trans (hs1.mono hs.le), rfl, by omega⟩

def need (p : List Nat × List Nat) : List Nat := p.1 ++ [32] ++ p.2
end Go.Sim

set_option linter.unusedSimpArgs false
namespace Go.Sim

/-- The variables that stand in a text, in order. -/
def varsN : List Nat := [88, 89, 90, 120, 121, 122]
def varsL (s : List Nat) : List Nat := varsN.filter fun v => decide (v ∈ s)
theorem varsN_var (c : Nat) : c ∈ varsN ↔ isVarN c = true := by simp [varsN, isVarN]; omega
theorem tyOk_some {s : List Nat} (h : tyOk s = true) : ∃ t, ofTxt s = some t := Option.isSome_iff_exists.1 h
theorem tyOk_of {s : List Nat} {t : Ty} (h : ofTxt s = some t) : tyOk s = true := by simp [tyOk, h]
end Go.Sim

/- Worlds: plain Lean. -/
set_option linter.unusedSimpArgs false
namespace Go.Sim

abbrev Nd := List Nat × List Nat
/-- An instance: its need and its needs. A world: its classes and its instances. -/
abbrev Ins := Nd × List Nd
structure Wd where
  cs : List Nd
  is : List Ins

def isCls (s : List Nat) : Bool := match s with | [c] => decide (65 ≤ c ∧ c ≤ 84) | _ => false
def knownC (cs : List Nd) (c : List Nat) : Bool := cs.any fun x => decide (x.1 = c)
def supAt (cs : List Nd) (s : List Nat) (k : Nat) : Bool := knownC cs [s.getD k 0] && (k == 0 || decide (s.getD (k - 1) 0 < s.getD k 0))
def supsOk (cs : List Nd) (s : List Nat) : Bool := (List.range s.length).all (supAt cs s)
def clsAt (cs : List Nd) (i : Nat) : Bool := isCls (cs.getD i ([], [])).1 && (i == 0 || natLess (cs.getD (i - 1) ([], [])).1 (cs.getD i ([], [])).1) && supsOk (cs.take i) (cs.getD i ([], [])).2
def clsOk (cs : List Nd) : Bool := (List.range cs.length).all (clsAt cs) && decide (1 ≤ cs.length ∧ cs.length ≤ 4)
def isVarS (s : List Nat) : Bool := match s with | [c] => isVarN c | _ => false
noncomputable def needIn (cs : List Nd) (t : List Nat) (n : Nd) : Bool := knownC cs n.1 && tyOk n.2 && decide (n.2.length ≤ 20) && (varsL n.2).all fun v => decide (v ∈ t)
noncomputable def insOk (cs : List Nd) (i : Ins) : Bool := clsOk cs && knownC cs i.1.1 && tyOk i.1.2 && decide (i.1.2.length ≤ 20) && !isVarS i.1.2 && decide (i.2.length ≤ 3) && i.2.all (needIn cs i.1.2)
noncomputable def worldOk (w : Wd) : Bool := clsOk w.cs && decide (w.is.length ≤ 10) && w.is.all (insOk w.cs)
noncomputable def needOkW (w : Wd) (n : Nd) : Bool := knownC w.cs n.1 && tyOk n.2
theorem range_succ_all {f : Nat → Bool} {g : Nat} (h : (List.range g).all f = true) (k : f g = true) : (List.range (g + 1)).all f = true := by
  rw [List.range_succ, List.all_append, h]; simp [k]
theorem range_not_all {f : Nat → Bool} {g n : Nat} (h : g < n) (k : f g = false) : (List.range n).all f = false := by
  rw [List.all_eq_false]; exact ⟨g, List.mem_range.2 h, by simp [k]⟩
theorem take_succ_all {α : Type} {f : α → Bool} {l : List α} {g : Nat} (hg : g < l.length) (h : (l.take g).all f = true) (k : f l[g] = true) : (l.take (g + 1)).all f = true := by
  rw [List.take_succ_eq_append_getElem hg, List.all_append, h]; simp [k]
theorem not_all {α : Type} {f : α → Bool} {l : List α} {g : Nat} (hg : g < l.length) (k : f l[g] = false) : l.all f = false := by
  rw [List.all_eq_false]; exact ⟨_, List.getElem_mem hg, by simp [k]⟩
theorem getD_at {α : Type} {l : List α} {g : Nat} {d : α} (h : g < l.length) : l.getD g d = l[g] := by simp [List.getD, h]
theorem knownC_take {cs : List Nd} {c : List Nat} {g : Nat} (hg : g < cs.length) : knownC (cs.take (g + 1)) c = (knownC (cs.take g) c || decide (cs[g].1 = c)) := by
  unfold knownC; rw [List.take_succ_eq_append_getElem hg, List.any_append]; simp
/-- The index of a class. -/
def clsIx (cs : List Nd) (c : List Nat) : Int := if knownC cs c then (cs.findIdx fun x => decide (x.1 = c) : Nat) else -1
theorem clsIx_neg (cs : List Nd) (c : List Nat) : decide (clsIx cs c < 0) = !knownC cs c := by
  unfold clsIx; cases h : knownC cs c <;> simp
theorem var_hd {t : List Nat} (h : tyOk t = true) : isVarS t = isVarN (t.headD 0) := by
  obtain ⟨u, hu, rfl, _⟩ := tyOk_iff.1 h
  cases u with
  | k c => rfl
  | u c a =>
    have h1 := hu
    simp only [Ty.ok, Bool.and_eq_true, Bool.or_eq_true, beq_iff_eq] at h1
    rcases h1.1 with rfl | rfl <;> rfl
  | w c a b =>
    have h1 := hu
    simp only [Ty.ok, Bool.and_eq_true, beq_iff_eq] at h1
    rcases h1.1.1 with rfl; rfl
end Go.Sim

set_option linter.unusedVariables false
set_option linter.unusedSimpArgs false
set_option maxRecDepth 20000
namespace Go.Sim
open Go Go.RowKit

theorem l1In_ok {h : AHeap} {x a b : Int} : SCall pg n_spec_l1In [.int .i64 x, .int .i64 a, .int .i64 b] h fun v h' => v = .bool (decide (a ≤ x ∧ x ≤ b)) ∧ h' = h := by
  apply F_spec_l1In.call
  refine bcase_dec (fun h1 => ?_) (fun h1 => ?_)
  · have : a ≤ x := h1
    simp [this]
  · have : ¬ a ≤ x := h1
    simp [this]
theorem isClass_ok {h : AHeap} (s : List Nat) : SCall pg n_impl_isClass [.str s] h fun v h' => v = .bool (isCls s) ∧ h' = h := by
  apply F_impl_isClass.call
  match s with
  | [] => simp [isCls]
  | [c] =>
    simp only [List.length_cons, List.length_nil, show ((0 + 1 : Nat) : Int) = 1 from rfl, beq_self_eq_true, bcase_true]
    have e1 : natLess [c] [65] = decide (c < 65) := by simp [natLess]
    have e2 : natLess [c] [84] = decide (c < 84) := by simp [natLess]
    rw [e1, e2]
    refine bcase_ndec (fun h1 => ?_) (fun h1 => ?_)
    · refine ⟨?_, by trivial⟩
      congr 1
      simp [isCls]
      rw [Bool.eq_iff_iff]; simp; omega
    · refine ⟨?_, by trivial⟩
      simp [isCls]; omega
  | c :: d :: r =>
    refine bcase_beq (fun h1 => ?_) (fun h1 => ⟨rfl, rfl⟩)
    simp at h1; omega
theorem l3Capital_ok {h : AHeap} (s : List Nat) (hb : ∀ b ∈ s, b < 256) : SCall pg n_spec_l3Capital [.str s] h fun v h' => v = .bool (isCls s) ∧ h' = h := by
  apply F_spec_l3Capital.call
  match s, hb with
  | [], _ => simp [isCls]
  | [c], hb =>
    have hc := hb c (by simp)
    simp only [List.length_cons, List.length_nil, show ((0 + 1 : Nat) : Int) = 1 from rfl, beq_self_eq_true, bcase_true]
    refine ⟨⟨by omega, by simp⟩, ?_⟩
    simp only [Int.toNat_zero, List.getD_cons_zero]
    rw [IntWalk.i64_in _ (by omega)]
    refine l1In_ok.mono ?_
    rintro v h' ⟨rfl, rfl⟩
    simp only [xBool_some]
    refine ⟨?_, by trivial⟩
    congr 1
    simp [isCls]; rw [Bool.eq_iff_iff]; simp; omega
  | c :: d :: r, _ =>
    refine bcase_beq (fun h1 => ?_) (fun h1 => ⟨rfl, rfl⟩)
    simp at h1; omega
/-- A row of its own, or nothing. -/
def FreshR {α : Type} (ty : TypeId) (enc : α → List AVal) (b : Nat) (h : AHeap) (a : Pt) (n : Nat) (l : List α) : Prop := l.length = n ∧ (n = 0 ∨ ∃ i, a = some (i, 0) ∧ b ≤ i ∧ h[i]? = some (.cells ty (flat enc l) false))
theorem FreshR.row {α : Type} {ty : TypeId} {enc : α → List AVal} {w b : Nat} {h : AHeap} {a : Pt} {n : Nat} {l : List α} (hw : ∀ x, (enc x).length = w) (f : FreshR ty enc b h a n l) : Row h.length h a (n * w) (flat enc l) := by
  obtain ⟨hl, h0 | ⟨i, ha, hb, hi⟩⟩ := f
  · subst h0
    have : l = [] := List.eq_nil_of_length_eq_zero hl
    subst this; simp; exact Row.nil
  · rw [ha]; exact (Vec.mk1 (n := 0) (c := 0) hi).row (by rw [flat_length hw, hl])
theorem FreshR.same {α : Type} {ty : TypeId} {enc : α → List AVal} {b : Nat} {h h' : AHeap} {a : Pt} {n : Nat} {l : List α} (f : FreshR ty enc b h a n l) (s : Same h.length h h') : FreshR ty enc b h' a n l :=
  ⟨f.1, f.2.imp id fun ⟨i, ha, hb, hi⟩ => ⟨i, ha, hb, by rw [s.eq i (Own.lt hi)]; exact hi⟩⟩
end Go.Sim

set_option linter.unusedVariables false
set_option linter.unusedSimpArgs false
set_option maxRecDepth 20000
namespace Go.Sim
open Go Go.RowKit

/-- Nothing has turned but the row. -/
def Only (a : Pt) (n : Nat) (h h' : AHeap) : Prop := h.length ≤ h'.length ∧ ∀ j, j < h.length → (∀ i, a = some (i, 0) → n ≠ 0 → j ≠ i) → h'[j]? = h[j]?
theorem Only.refl (a : Pt) (n : Nat) (h : AHeap) : Only a n h h := ⟨Nat.le_refl _, fun _ _ _ => rfl⟩
theorem Only.same {a : Pt} {n : Nat} {h h1 h2 : AHeap} (o : Only a n h h1) (s : Same h1.length h1 h2) : Only a n h h2 := ⟨Nat.le_trans o.1 s.le, fun j hj hn => by rw [s.eq j (by have := o.1; omega)]; exact o.2 j hj hn⟩
theorem Only.set {n i : Nat} {h h1 : AHeap} {x : AObj} (o : Only (some (i, 0)) n h h1) (hn : n ≠ 0) : Only (some (i, 0)) n h (h1.set i x) := ⟨by simp; exact o.1, fun j hj hne => by rw [set_ne (fun e => hne i rfl hn e.symm)]; exact o.2 j hj hne⟩
theorem Row.only {b : Nat} {h h' : AHeap} {a a' : Pt} {n m : Nat} {cs : List AVal} (r : Row b h a m cs) (o : Only a' n h h') (hb : ∀ i, a' = some (i, 0) → n ≠ 0 → b ≤ i) : Row b h' a m cs := by
  obtain ⟨hl, r⟩ := r
  refine ⟨hl, r.imp id ?_⟩
  rintro ⟨i, o', t, all, ro, ha, hi, hg, x⟩
  exact ⟨i, o', t, all, ro, ha, hi, by rw [o.2 i (Own.lt hg) fun j hj hn => by have := hb j hj hn; omega]; exact hg, x⟩
theorem FreshR.only {α : Type} {ty : TypeId} {enc : α → List AVal} {b : Nat} {h h' : AHeap} {a a' : Pt} {n m : Nat} {l : List α} (f : FreshR ty enc b h a n l) (o : Only a' m h h') (hb : ∀ i, a' = some (i, 0) → m ≠ 0 → ∀ j, a = some (j, 0) → j ≠ i) : FreshR ty enc b h' a n l :=
  ⟨f.1, f.2.imp id fun ⟨i, ha, hbi, hi⟩ => ⟨i, ha, hbi, by rw [o.2 i (Own.lt hi) fun j hj hn => hb j hj hn i ha]; exact hi⟩⟩
end Go.Sim

set_option linter.unusedVariables false
set_option linter.unusedSimpArgs false
set_option maxRecDepth 20000
namespace Go.Sim
open Go Go.RowKit

/-- An instance's cells. -/
structure EI where
  c : List Nat
  t : List Nat
  a : Pt
  n : Nat
  cp : Nat
  e : Bool
  deriving Inhabited
def eN (x : EI) : List AVal := [.str x.c, .str x.t, .slice x.a x.n x.cp x.e]
theorem eN_len (x : EI) : (eN x).length = 3 := rfl
/-- An instance in memory. -/
def IRep (h : AHeap) (x : EI) (i : Ins) : Prop := x.c = i.1.1 ∧ x.t = i.1.2 ∧ Row h.length h x.a (x.n * 2) (flat eP i.2)
def IsRep (h : AHeap) (xs : List EI) (is : List Ins) : Prop := xs.length = is.length ∧ ∀ (k : Nat) (x : EI) (i : Ins), xs[k]? = some x → is[k]? = some i → IRep h x i
/-- A world in memory. -/
structure WRep (h : AHeap) (a0 : Pt) (n0 c0 : Nat) (a1 : Pt) (n1 c1 : Nat) (w : Wd) : Prop where
  cls : Row h.length h a0 (n0 * 2) (flat eP w.cs)
  ins : ∃ xs, Row h.length h a1 (n1 * 3) (flat eN xs) ∧ IsRep h xs w.is
  le0 : n0 ≤ c0
  le1 : n1 ≤ c1
theorem Row.same' {h h' : AHeap} {a : Pt} {n : Nat} {cs : List AVal} (r : Row h.length h a n cs) (s : Same h.length h h') : Row h'.length h' a n cs := (r.same s).mono s.le
theorem IRep.same {h h' : AHeap} {x : EI} {i : Ins} (r : IRep h x i) (s : Same h.length h h') : IRep h' x i := ⟨r.1, r.2.1, r.2.2.same' s⟩
theorem IsRep.same {h h' : AHeap} {xs : List EI} {is : List Ins} (r : IsRep h xs is) (s : Same h.length h h') : IsRep h' xs is := ⟨r.1, fun k x i hx hi => (r.2 k x i hx hi).same s⟩
theorem WRep.same {h h' : AHeap} {a0 a1 : Pt} {n0 c0 n1 c1 : Nat} {w : Wd} (r : WRep h a0 n0 c0 a1 n1 c1 w) (s : Same h.length h h') : WRep h' a0 n0 c0 a1 n1 c1 w :=
  ⟨r.cls.same' s, r.ins.imp fun xs ⟨r1, r2⟩ => ⟨r1.same' s, r2.same s⟩, r.le0, r.le1⟩
theorem IRep.len {h : AHeap} {x : EI} {i : Ins} (r : IRep h x i) : i.2.length = x.n := by have := r.2.2.1; rw [flat_length eP_len] at this; omega
theorem WRep.len0 {h : AHeap} {a0 a1 : Pt} {n0 c0 n1 c1 : Nat} {w : Wd} (r : WRep h a0 n0 c0 a1 n1 c1 w) : w.cs.length = n0 := by have := r.cls.1; rw [flat_length eP_len] at this; omega
theorem WRep.len1 {h : AHeap} {a0 a1 : Pt} {n0 c0 n1 c1 : Nat} {w : Wd} (r : WRep h a0 n0 c0 a1 n1 c1 w) : w.is.length = n1 := by
  obtain ⟨xs, r1, r2, _⟩ := r.ins
  have := r1.1; rw [flat_length eN_len] at this; omega
/-- The instance k. -/
theorem WRep.inst {h : AHeap} {a0 a1 : Pt} {n0 c0 n1 c1 : Nat} {w : Wd} (r : WRep h a0 n0 c0 a1 n1 c1 w) {k : Nat} (hk : k < n1) :
    ∃ i o, ∃ hk' : k < w.is.length, ∃ a n cp e, a1 = some (i, o) ∧ i < h.length ∧ hRow h (.ptr (some (i, o + k * 3))) 3 = some [.str w.is[k].1.1, .str w.is[k].1.2, .slice a n cp e] ∧ hCell h (.ptr (some (i, o + k * 3))) = some (.str w.is[k].1.1) ∧ hCell h (.ptr (some (i, o + k * 3 + 1))) = some (.str w.is[k].1.2) ∧ hCell h (.ptr (some (i, o + k * 3 + 2))) = some (.slice a n cp e) ∧
      Row h.length h a (n * 2) (flat eP w.is[k].2) ∧ w.is[k].2.length = n := by
  have hl := r.len1
  obtain ⟨xs, r1, r2, r3⟩ := r.ins
  obtain ⟨i, o, hk', ha, hi, hr, hc⟩ := Row.el eN_len r1 (by omega) hk (by omega)
  have hI := r3 k xs[k] w.is[k] (List.getElem?_eq_getElem hk') (List.getElem?_eq_getElem (by omega))
  obtain ⟨e1, e2, e3⟩ := id hI
  refine ⟨i, o, by omega, xs[k].a, xs[k].n, xs[k].cp, xs[k].e, ha, hi, ?_, ?_, ?_, ?_, e3, hI.len⟩
  · rw [hr, eN, e1, e2]
  · have := hc 0 (by omega); rw [← e1]; simpa [eN] using this
  · have := hc 1 (by omega); rw [← e2]; simpa [eN] using this
  · have := hc 2 (by omega); simpa [eN] using this
/-- An element of a row of pairs. -/
theorem Row.pr {b : Nat} {h : AHeap} {a : Pt} {n : Nat} {l : List Nd} (r : Row b h a (n * 2) (flat eP l)) {k : Nat} (hk : k < n) :
    ∃ i o, ∃ hk' : k < l.length, a = some (i, o) ∧ i < b ∧ hRow h (.ptr (some (i, o + k * 2))) 2 = some [.str l[k].1, .str l[k].2] ∧ hCell h (.ptr (some (i, o + k * 2))) = some (.str l[k].1) ∧ hCell h (.ptr (some (i, o + k * 2 + 1))) = some (.str l[k].2) := by
  have hl : l.length = n := by have := r.1; rw [flat_length eP_len] at this; omega
  obtain ⟨i, o, hk', ha, hi, hr, hc⟩ := Row.el eP_len r hl hk (by omega)
  exact ⟨i, o, hk', ha, hi, hr, by simpa [eP] using hc 0 (by omega), by simpa [eP] using hc 1 (by omega)⟩

/-- Only what lies in between may have turned. -/
def Mid (lo hi : Nat) (h h' : AHeap) : Prop := h.length ≤ h'.length ∧ ∀ j, j < h.length → (j < lo ∨ hi ≤ j) → h'[j]? = h[j]?
theorem Mid.refl (lo hi : Nat) (h : AHeap) : Mid lo hi h h := ⟨Nat.le_refl _, fun _ _ _ => rfl⟩
theorem Mid.trans {lo hi : Nat} {h h1 h2 : AHeap} (a : Mid lo hi h h1) (b : Mid lo hi h1 h2) : Mid lo hi h h2 := ⟨Nat.le_trans a.1 b.1, fun j hj hn => by rw [b.2 j (by have := a.1; omega) hn]; exact a.2 j hj hn⟩
theorem Mid.of_same {lo hi : Nat} {h h' : AHeap} (s : Same h.length h h') : Mid lo hi h h' := ⟨s.le, fun j hj _ => s.eq j hj⟩
theorem Mid.same {lo hi : Nat} {h h1 h2 : AHeap} (a : Mid lo hi h h1) (s : Same h1.length h1 h2) : Mid lo hi h h2 := a.trans (Mid.of_same s)
theorem Mid.set {lo hi i : Nat} {h h1 : AHeap} {x : AObj} (o : Mid lo hi h h1) (h0 : lo ≤ i) (h2 : i < hi) : Mid lo hi h (h1.set i x) := ⟨by simp; exact o.1, fun j hj hne => by rw [set_ne (by omega)]; exact o.2 j hj hne⟩
theorem FreshR.in {α : Type} {ty : TypeId} {enc : α → List AVal} {b : Nat} {h : AHeap} {a : Pt} {n : Nat} {l : List α} (f : FreshR ty enc b h a n l) : ∀ i, a = some (i, 0) → n ≠ 0 → b ≤ i ∧ i < h.length := by
  intro i hi hn
  rcases f.2 with h0 | ⟨j, ha, hb, hj⟩
  · exact absurd h0 hn
  · rw [hi] at ha; cases ha; exact ⟨hb, Own.lt hj⟩
/-- A world of one's own: every row behind b; the rows of needs lie apart. -/
structure WFresh (b : Nat) (h : AHeap) (a0 : Pt) (n0 : Nat) (a1 : Pt) (n1 : Nat) (xs : List EI) (w : Wd) : Prop where
  cls : FreshR t_impl_Class eP b h a0 n0 w.cs
  ins : FreshR t_impl_Instance eN b h a1 n1 xs
  len : xs.length = w.is.length
  need : ∀ (k : Nat) (x : EI) (i : Ins), xs[k]? = some x → w.is[k]? = some i → x.c = i.1.1 ∧ x.t = i.1.2 ∧ FreshR t_impl_Need eP b h x.a x.n i.2
  sep : ∀ (j k : Nat) (x y : EI), j ≠ k → xs[j]? = some x → xs[k]? = some y → x.n ≠ 0 → y.n ≠ 0 → x.a ≠ y.a
  nn : ∀ x ∈ xs, x.a ≠ none
theorem WFresh.same {b : Nat} {h h' : AHeap} {a0 a1 : Pt} {n0 n1 : Nat} {xs : List EI} {w : Wd} (f : WFresh b h a0 n0 a1 n1 xs w) (s : Same h.length h h') : WFresh b h' a0 n0 a1 n1 xs w :=
  ⟨f.cls.same s, f.ins.same s, f.len, fun k x i hx hi => ⟨(f.need k x i hx hi).1, (f.need k x i hx hi).2.1, (f.need k x i hx hi).2.2.same s⟩, f.sep, f.nn⟩
theorem WFresh.rep {b : Nat} {h : AHeap} {a0 a1 : Pt} {n0 c0 n1 c1 : Nat} {xs : List EI} {w : Wd} (f : WFresh b h a0 n0 a1 n1 xs w) (h0 : n0 ≤ c0) (h1 : n1 ≤ c1) : WRep h a0 n0 c0 a1 n1 c1 w :=
  ⟨f.cls.row eP_len, ⟨xs, f.ins.row eN_len, f.len, fun k x i hx hi => ⟨(f.need k x i hx hi).1, (f.need k x i hx hi).2.1, (f.need k x i hx hi).2.2.row eP_len⟩⟩, h0, h1⟩
end Go.Sim
