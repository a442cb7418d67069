/- The operations that do not look at memory, all of them. -/
import Derived.Test.YtgiiilhdmfddcaaSimE
set_option linter.unusedVariables false
set_option linter.all false
set_option linter.unusedSimpArgs false
namespace Go.Sim
open Go Go.RowKit

section
variable {P : Program} {μ : List Pl}

def EvRel (μ : List Pl) (env : Env) (ρ : Operand → Value) : Prop := ∀ x, VR μ (ev env x) (ρ x)

theorem cstLeaf_ok (v : Value) : VR μ (cstLeaf v) v := by
  unfold cstLeaf
  split <;> first | exact .undef _ | constructor
theorem VRs.map_leaf : ∀ l : List Value, VRs μ (l.map cstLeaf) l
  | [] => .nil
  | v :: r => .cons (cstLeaf_ok v) (VRs.map_leaf r)
theorem cst_ok (v : Value) : VR μ (cst v) v := by
  unfold cst
  split
  · exact .agg (VRs.map_leaf _)
  · exact cstLeaf_ok v
theorem ev_ok {env : Env} {a : Act} (h : EnvRel μ env a.tmps) : EvRel μ env a.eval := fun x => by
  cases x with
  | tmp t => exact h t
  | const v => exact cst_ok v
  | global g => exact .undef _
  | func f => exact .fn .nil

theorem xAny_elim {o : Option AVal} {K : AVal → Prop} (h : xAny o K) : ∃ v, o = some v ∧ K v := by
  unfold xAny at h
  split at h
  · exact ⟨_, rfl, h⟩
  · exact h.elim

theorem bin_ok {op : BinOp} {t : TypeId} {xo yo : Operand} {a b : AVal} {x y : Value} (ha : VR μ a x) (hb : VR μ b y) {K : AVal → Prop} (hk : binA P op t a b K) :
    Pure P μ (do eqGuard op t xo yo x y; binOp op t x y) K := by
  unfold binA at hk
  split at hk
  · obtain ⟨e, hg, h1, h2, hk⟩ := eq_ok (xo := xo) (yo := yo) ha hb hk
    exact .mk (fun w => by simp [(hg w).1, h1 w]) (.bool _) hk
  · obtain ⟨e, hg, h1, h2, hk⟩ := eq_ok (xo := xo) (yo := yo) ha hb hk
    exact .mk (fun w => by simp [(hg w).2, h2 w]) (.bool _) hk
  · rename_i hne1 hne2
    have hg : ∀ w : World, (eqGuard op t xo yo x y).run P w = .ok () w := fun w => by
      cases op <;> first | exact absurd rfl hne1 | exact absurd rfl hne2 | rfl
    split at hk
    · split at hk
      · cases ha; cases hb
        split at hk
        · replace hk := chk_elim hk; obtain ⟨rfl, hk⟩ := hk; exact .mk (fun w => by simp [hg w, binOp, Op.intArith]) (.int _ _) hk
        · replace hk := chk_elim hk; obtain ⟨rfl, hk⟩ := hk; exact .mk (fun w => by simp [hg w, binOp, Op.intArith]) (.int _ _) hk
        · replace hk := chk_elim hk; obtain ⟨rfl, hk⟩ := hk; exact .mk (fun w => by simp [hg w, binOp, Op.intArith]) (.int _ _) hk
        · replace hk := chk_elim hk; obtain ⟨rfl, h0, hk⟩ := hk; exact .mk (fun w => by simp [hg w, binOp, Op.intDiv, h0]) (.int _ _) hk
        · replace hk := chk_elim hk; obtain ⟨rfl, h0, hk⟩ := hk; exact .mk (fun w => by simp [hg w, binOp, Op.intDiv, h0]) (.int _ _) hk
        · replace hk := chk_elim hk; obtain ⟨rfl, hk⟩ := hk; exact .mk (fun w => by simp [hg w, binOp, Op.intCmp]) (.bool _) hk
        · replace hk := chk_elim hk; obtain ⟨rfl, hk⟩ := hk; exact .mk (fun w => by simp [hg w, binOp, Op.intCmp]) (.bool _) hk
        · replace hk := chk_elim hk; obtain ⟨rfl, hk⟩ := hk; exact .mk (fun w => by simp [hg w, binOp, Op.intCmp]) (.bool _) hk
        · replace hk := chk_elim hk; obtain ⟨rfl, hk⟩ := hk; exact .mk (fun w => by simp [hg w, binOp, Op.intCmp]) (.bool _) hk
        · replace hk := chk_elim hk; obtain ⟨rfl, hk⟩ := hk; exact .mk (fun w => by simp [hg w, binOp, Op.intBits]) (.int _ _) hk
        · obtain ⟨h0, hk⟩ := hk
          exact .mk (fun w => by simp [hg w, binOp, Op.shift, show ¬ (_ : Int) < 0 from Int.not_lt.2 h0]) (.int _ _) hk
        · exact hk.elim
      · exact hk.elim
    · split at hk
      · cases ha; cases hb
        rename_i s1 s2
        split at hk
        · obtain ⟨hl, hk⟩ := hk
          rw [bytesOf_length, bytesOf_length] at hl
          rw [← bytesOf_append] at hk
          refine .mk (x := .string (s1 ++ s2)) (fun w => ?_) (.str _) hk
          have h1 : ¬ ((s1.size + s2.size : Nat) : Int) > IntKind.i64.max := by simp [IntKind.max, IntKind.signed, IntKind.bits]; omega
          simp only [Sem.run_bind, hg w, Result.andThen_ok, binOp, Op.stringOp]
          rw [if_neg h1]; rfl
        · exact .mk (fun w => by simp only [Sem.run_bind, hg w, Result.andThen_ok, binOp, Op.stringOp]; rfl) (by rw [natLess_bytesOf]; exact .bool _) hk
        · exact .mk (fun w => by simp only [Sem.run_bind, hg w, Result.andThen_ok, binOp, Op.stringOp]; rfl) (by
            rw [natLess_bytesOf]
            have : decide (bytesOf s1 = bytesOf s2) = (s1.toList == s2.toList) := by rw [Bool.eq_iff_iff]; simp [bytesOf_eq_iff]
            rw [this]; exact .bool _) hk
        · exact .mk (fun w => by simp only [Sem.run_bind, hg w, Result.andThen_ok, binOp, Op.stringOp]; rfl) (by
            rw [natLess_bytesOf]
            have : decide (bytesOf s1 = bytesOf s2) = (s1.toList == s2.toList) := by rw [Bool.eq_iff_iff]; simp [bytesOf_eq_iff]
            rw [this]; exact .bool _) hk
        · exact .mk (fun w => by simp only [Sem.run_bind, hg w, Result.andThen_ok, binOp, Op.stringOp]; rfl) (by rw [natLess_bytesOf]; exact .bool _) hk
        · exact hk.elim
      · exact hk.elim
    · exact hk.elim

theorem un_ok {op : UnOp} {a : AVal} {x : Value} (ha : VR μ a x) {K : AVal → Prop} (hk : unA op a K) : Pure P μ (Op.unary op x) K := by
  unfold unA at hk
  split at hk
  · split at hk
    · cases ha; exact .mk (fun w => by simp [Op.unary]) (.bool _) hk
    · exact hk.elim
  · split at hk
    · cases ha; exact .mk (fun w => by simp [Op.unary, Op.intArith]) (.int _ _) hk
    · exact hk.elim
  · exact hk.elim

theorem pick_ok {c a b : AVal} {z x y : Value} (hc : VR μ c z) (ha : VR μ a x) (hb : VR μ b y) {K : AVal → Prop} (hk : pickA c a b K) :
    ∃ x' v, (∀ w, (do pure (.value (if ← asBool z then x else y)) : Sem Next).run P w = .ok (.value x') w) ∧ VR μ v x' ∧ K v := by
  unfold pickA at hk
  split at hk
  · cases hc
    rename_i e
    cases e
    · exact ⟨y, b, fun w => by simp [asBool], hb, hk⟩
    · exact ⟨x, a, fun w => by simp [asBool], ha, hk⟩
  · exact hk.elim

theorem extract_ok {a : AVal} {x : Value} {i : Nat} (ha : VR μ a x) {K : AVal → Prop} (hk : extractA a i K) : Pure P μ (Instr.extract x i) K := by
  unfold extractA at hk
  split at hk
  · cases ha with
    | tup hs =>
      obtain ⟨v, hv, hk⟩ := xAny_elim hk
      obtain ⟨y, hy, hr⟩ := hs.get hv
      rw [Array.getElem?_toList] at hy
      exact .mk (fun w => by simp [Instr.extract, hy]) hr hk
  · exact hk.elim

theorem part_ok {t : TypeId} {cs : List AVal} {xs : Array Value} {off : Nat} (hs : VRs μ cs xs.toList) {K : AVal → Prop} (hk : partA P t cs off K) : Pure P μ (part t xs off) K := by
  unfold partA at hk
  split at hk
  · rename_i ha
    refine .mk (x := .agg (xs.extract off (off + P.cellsOf t))) (fun w => by simp [part, isAgg_true ha, sizeOf_run (isAgg_some ha)]) (.agg ?_) hk
    have := (hs.drop off).take (P.cellsOf t)
    rw [Array.toList_extract, List.extract_eq_take_drop]
    simpa using this
  · rename_i ha
    replace hk := chk_elim hk; obtain ⟨hu, hk⟩ := hk
    obtain ⟨v, hv, hk⟩ := xAny_elim hk
    obtain ⟨y, hy, hr⟩ := hs.get hv
    rw [Array.getElem?_toList] at hy
    exact .mk (run_part_leaf ha hu hy) hr hk

theorem xField_elim {t : TypeId} {i : Nat} {K : Field → Prop} (h : xField (fieldOf P t i) K) : ∃ fs f, P.underlying t = some (.struct fs) ∧ fs[i]? = some f ∧ K f := by
  unfold xField fieldOf at h
  split at h
  · rename_i f hf
    split at hf
    · rename_i fs hu; exact ⟨fs, f, hu, hf, h⟩
    · cases hf
  · exact h.elim

theorem field_ok {t : TypeId} {a : AVal} {x : Value} {i : Nat} (ha : VR μ a x) {K : AVal → Prop} (hk : fieldA P t a i K) : Pure P μ (Instr.field t x i) K := by
  unfold fieldA at hk
  split at hk
  · cases ha with
    | agg hs =>
      obtain ⟨fs, f, hu, hf, hk⟩ := xField_elim hk
      obtain ⟨y, v, hr, hv, hk⟩ := part_ok hs hk
      exact .mk (fun w => by simp [Instr.field, run_underlying hu, hf, asAgg, hr]) hv hk
  · exact hk.elim

theorem add_ok (e : Pl) (o n : Nat) : (⟨e.b, e.o + o, none⟩ : Addr).add n = ⟨e.b, e.o + (o + n), none⟩ := by
  unfold Addr.add; split <;> simp_all [Nat.add_assoc]

theorem fieldAddr_ok {t : TypeId} {a : AVal} {x : Value} {i : Nat} (ha : VR μ a x) {K : AVal → Prop} (hk : fieldAddrA P t a i K) : Pure P μ (Instr.fieldAt t x i) K := by
  unfold fieldAddrA at hk
  split at hk
  · obtain ⟨fs, f, hu, hf, hk⟩ := xField_elim hk
    replace hk := chk_elim hk; obtain ⟨hs, hk⟩ := hk
    replace hk := chk_elim hk; obtain ⟨hz, hk⟩ := hk
    obtain ⟨b, o, rfl, hk⟩ := xSome_elim hk
    cases ha with
    | ptr hi =>
      refine .mk (fun w => ?_) (.ptr hi) hk
      simp [Instr.fieldAt, run_underlying hu, hf, Instr.sureAddr, fieldPlace, sizeOf_run hs, hz, add_ok]
  · exact hk.elim

theorem indexAddr_ok {t : TypeId} {a i : AVal} {x y : Value} (ha : VR μ a x) (hi : VR μ i y) {K : AVal → Prop} (hk : indexAddrA P t a i K) : Pure P μ (Instr.indexAt t x y) K := by
  unfold indexAddrA at hk
  split at hk
  · cases hi
    split at hk
    · rename_i e hu
      split at hk
      · replace hk := chk_elim hk; obtain ⟨hs, hb, hk⟩ := hk
        obtain ⟨b, o, rfl, hk⟩ := xSome_elim hk
        cases ha with
        | slice h1 h2 h3 h4 h5 =>
          refine .mk (fun w => ?_) (.ptr h1) hk
          simp [Instr.indexAt, asIntOf, run_underlying hu, hb, sizeOf_run hs, add_ok]
      · exact hk.elim
    · rename_i len e hu
      split at hk
      · replace hk := chk_elim hk; obtain ⟨hs, hb, hk⟩ := hk
        obtain ⟨b, o, rfl, hk⟩ := xSome_elim hk
        cases ha with
        | ptr h1 =>
          refine .mk (fun w => ?_) (.ptr h1) hk
          simp [Instr.indexAt, asIntOf, run_underlying hu, Instr.sureAddr, hb, sizeOf_run hs, add_ok]
      · exact hk.elim
    · exact hk.elim
  · exact hk.elim

theorem index_ok {t : TypeId} {a i : AVal} {x y : Value} (ha : VR μ a x) (hi : VR μ i y) {K : AVal → Prop} (hk : indexA P t a i K) : Pure P μ (Instr.index t x y) K := by
  unfold indexA at hk
  split at hk
  · cases hi
    rename_i n
    split at hk
    · rename_i hu
      split at hk
      · cases ha
        rename_i s
        obtain ⟨hb, hk⟩ := hk
        rw [bytesOf_length] at hb
        have hlt : n.toNat < s.size := by omega
        have hg : s[n.toNat]? = some s[n.toNat] := by simp [hlt]
        refine .mk (x := .int .u8 (s[n.toNat]).toNat) (fun w => ?_) ?_ hk
        · simp [Instr.index, asIntOf, run_underlying hu, hb.1, hg]
        · have : (bytesOf s).getD n.toNat 0 = (s[n.toNat]).toNat := by
            have hlt' : n.toNat < s.data.size := hlt
            have hq : s.data[n.toNat]? = some s[n.toNat] := by rw [Array.getElem?_eq_getElem hlt']; rfl
            simp only [bytesOf, List.getD, List.getElem?_map, Array.getElem?_toList, hq]; rfl
          rw [this]; exact .int _ _
      · exact hk.elim
    · rename_i len e hu
      split at hk
      · cases ha with
        | agg hs =>
          replace hk := chk_elim hk; obtain ⟨hse, hb, hk⟩ := hk
          obtain ⟨z, v, hr, hv, hk⟩ := part_ok hs hk
          exact .mk (fun w => by simp [Instr.index, asIntOf, run_underlying hu, hb, sizeOf_run hse, hr]) hv hk
      · exact hk.elim
    · exact hk.elim
  · exact hk.elim

theorem conv_ok {s d : TypeId} {a : AVal} {x : Value} (ha : VR μ a x) {K : AVal → Prop} (hk : convA P s d a K) : Pure P μ (convert s d x) K := by
  unfold convA at hk
  split at hk
  · rename_i k hd
    split at hk
    · cases ha
      replace hk := chk_elim hk; obtain ⟨hs, hk⟩ := hk
      obtain ⟨ds, hds⟩ := Option.isSome_iff_exists.1 hs
      exact .mk (fun w => by simp [convert, run_underlying hds, run_underlying hd, Conv.intToInt]) (.int _ _) hk
    · exact hk.elim
  · rename_i hd
    split at hk
    · cases ha
      replace hk := chk_elim hk; obtain ⟨hs, hk⟩ := hk
      have hs := isStrT_ok hs
      exact .mk (fun w => by simp [convert, run_underlying hs, run_underlying hd]) (.str _) hk
    · cases ha
      rename_i n
      replace hk := chk_elim hk; obtain ⟨hs, hb, hk⟩ := hk
      obtain ⟨k, hs⟩ := isIntT_ok hs
      refine .mk (x := .string (Utf8.encode n)) (fun w => by simp [convert, run_underlying hs, run_underlying hd, Conv.intToString]) ?_ hk
      have h1 : Utf8.valid n = true := by simp [Utf8.valid]; omega
      have h2 : n.toNat < 128 := by omega
      have : [n.toNat] = bytesOf (Utf8.encode n) := by
        simp only [Utf8.encode, h1, if_true, h2, bytesOf]
        simp
        omega
      rw [this]; exact .str _
    · exact hk.elim
  · exact hk.elim

theorem bytesOf_extract (s : ByteArray) (l h : Nat) : bytesOf (s.extract l h) = ((bytesOf s).take h).drop l := by
  simp only [bytesOf, ByteArray.data_extract, Array.toList_extract, List.extract_eq_take_drop]
  rw [← List.map_take, ← List.map_drop, List.take_drop, List.drop_take]
  congr 2
  rw [List.drop_take]
  by_cases hl : l ≤ h
  · rw [show l + (h - l) = h by omega]
  · rw [show h - l = 0 by omega]; simp

theorem optInt_some {x : Option Operand} {env : Env} {ρ : Operand → Value} (hρ : EvRel μ env ρ) {d : Int} {K : Int → Prop} (h : optInt (x.map (ev env)) d K) :
    (x = none ∧ K d) ∨ ∃ k n, x.map ρ = some (.int k n) ∧ K n := by
  unfold optInt at h
  split at h
  · rename_i hx; cases x with
    | none => exact .inl ⟨rfl, h⟩
    | some y => simp at hx
  · rename_i k n hx; cases x with
    | none => simp at hx
    | some y =>
      simp only [Option.map_some, Option.some.injEq] at hx
      have := hρ y
      rw [hx] at this
      cases hy : ρ y with
      | int k' n' => rw [hy] at this; cases this; exact .inr ⟨k, n, by simp [hy], h⟩
      | _ => rw [hy] at this; cases this
  · exact h.elim

theorem sliceStr_ok {t : TypeId} {env : Env} {ρ : Operand → Value} (hρ : EvRel μ env ρ) {s : ByteArray} {lo hi : Option Operand} (hu : P.underlying t = some .string) {K : AVal → Prop}
    (hk : sliceStr (bytesOf s) (lo.map (ev env)) (hi.map (ev env)) K) : Pure P μ (Instr.sliceAt t (.string s) (lo.map ρ) (hi.map ρ) none) K := by
  unfold sliceStr at hk
  have fin : ∀ (l h : Int) (w : World), (0 ≤ l ∧ l ≤ h ∧ h ≤ (bytesOf s).length) → (Instr.sliceBounds false s.size s.size (lo.map ρ) (hi.map ρ) none).run P w = .ok (l.toNat, h.toNat, s.size) w →
      (Instr.sliceAt t (.string s) (lo.map ρ) (hi.map ρ) none).run P w = .ok (.string (s.extract l.toNat h.toNat)) w := fun l h w _ hr => by
    simp [run_sliceAt_string w t _ _ _ _ hu, Instr.slice, run_underlying hu, hr]
  have hv : ∀ l h : Int, VR μ (.str (sub (bytesOf s) l h)) (.string (s.extract l.toNat h.toNat)) := fun l h => by
    unfold sub; rw [← bytesOf_extract]; exact .str _
  rcases optInt_some hρ hk with ⟨rfl, hk2⟩ | ⟨kh, h, hh, hk2⟩
  · rcases optInt_some hρ hk2 with ⟨rfl, hb, hk3⟩ | ⟨kl, l, hl, hb, hk3⟩
    · refine .mk (fun w => fin _ _ w hb ?_) (hv _ _) hk3
      simp [Instr.sliceBounds, bytesOf_length]
    · refine .mk (fun w => fin _ _ w hb ?_) (hv _ _) hk3
      rw [bytesOf_length] at hb ⊢
      simp [Instr.sliceBounds, hl, run_sliceBound w kl l s.size .sliceB hb.1 (by omega)]
  · rcases optInt_some hρ hk2 with ⟨rfl, hb, hk3⟩ | ⟨kl, l, hl, hb, hk3⟩
    · refine .mk (fun w => fin _ _ w hb ?_) (hv _ _) hk3
      rw [bytesOf_length] at hb
      simp [Instr.sliceBounds, hh, run_sliceBound w kh h s.size .sliceAlen (by omega) (by omega)]
    · refine .mk (fun w => fin _ _ w hb ?_) (hv _ _) hk3
      rw [bytesOf_length] at hb
      simp [Instr.sliceBounds, hh, hl, run_sliceBound w kh h s.size .sliceAlen (by omega) (by omega), run_sliceBound w kl l h.toNat .sliceB hb.1 (by omega)]

theorem bounds_run {env : Env} {ρ : Operand → Value} (hρ : EvRel μ env ρ) {len cap capm : Nat} (hcap : cap ≤ capm) {lo hi mx : Option Operand} (hm : ((mx.map (ev env)).isNone || (hi.map (ev env)).isSome) = true) {K : Int → Int → Int → Prop}
    (hk : optInt (mx.map (ev env)) cap fun m => optInt (hi.map (ev env)) len fun h => optInt (lo.map (ev env)) 0 fun l => (0 ≤ l ∧ l ≤ h ∧ h ≤ m ∧ m ≤ cap) ∧ K l h m) :
    ∃ l h m : Int, (0 ≤ l ∧ l ≤ h ∧ h ≤ m ∧ m ≤ cap) ∧ K l h m ∧ (mx = none → m = cap) ∧
      ∀ w, (Instr.sliceBounds true len capm (lo.map ρ) (hi.map ρ) (mx.map ρ)).run P w = .ok (l.toNat, h.toNat, if mx = none then capm else m.toNat) w := by
  rcases optInt_some hρ hk with ⟨rfl, hk1⟩ | ⟨km, m, hmx, hk1⟩
  · rcases optInt_some hρ hk1 with ⟨rfl, hk2⟩ | ⟨kh, h, hh, hk2⟩
    · rcases optInt_some hρ hk2 with ⟨rfl, hb, hk3⟩ | ⟨kl, l, hl, hb, hk3⟩
      · exact ⟨_, _, _, hb, hk3, fun _ => rfl, fun w => by simp [Instr.sliceBounds]⟩
      · exact ⟨_, _, _, hb, hk3, fun _ => rfl, fun w => by simp [Instr.sliceBounds, hl, run_sliceBound w kl l len .sliceB hb.1 (by omega)]⟩
    · rcases optInt_some hρ hk2 with ⟨rfl, hb, hk3⟩ | ⟨kl, l, hl, hb, hk3⟩
      · exact ⟨_, _, _, hb, hk3, fun _ => rfl, fun w => by simp [Instr.sliceBounds, hh, run_sliceBound w kh h capm .sliceAcap (by omega) (by omega)]⟩
      · exact ⟨_, _, _, hb, hk3, fun _ => rfl, fun w => by simp [Instr.sliceBounds, hh, hl, run_sliceBound w kh h capm .sliceAcap (by omega) (by omega), run_sliceBound w kl l h.toNat .sliceB hb.1 (by omega)]⟩
  · have hne : mx ≠ none := fun e => by subst e; simp at hmx
    rcases optInt_some hρ hk1 with ⟨rfl, hk2⟩ | ⟨kh, h, hh, hk2⟩
    · cases mx with
      | none => exact absurd rfl hne
      | some x => simp at hm
    · rcases optInt_some hρ hk2 with ⟨rfl, hb, hk3⟩ | ⟨kl, l, hl, hb, hk3⟩
      · exact ⟨_, _, _, hb, hk3, fun e => absurd e hne, fun w => by simp [Instr.sliceBounds, hh, hmx, hne, run_sliceBound w km m capm .slice3Acap (by omega) (by omega), run_sliceBound w kh h m.toNat .slice3B (by omega) (by omega)]⟩
      · exact ⟨_, _, _, hb, hk3, fun e => absurd e hne, fun w => by simp [Instr.sliceBounds, hh, hl, hmx, hne, run_sliceBound w km m capm .slice3Acap (by omega) (by omega), run_sliceBound w kh h m.toNat .slice3B (by omega) (by omega), run_sliceBound w kl l h.toNat .slice3C hb.1 (by omega)]⟩

theorem sliceSl_ok {t e : TypeId} {env : Env} {ρ : Operand → Value} (hρ : EvRel μ env ρ) {a : Option (Nat × Nat)} {len cap : Nat} {ex : Bool} {x : Value} (hx : VR μ (.slice a len cap ex) x) {lo hi mx : Option Operand}
    (hu : P.underlying t = some (.slice e)) (hs : (P.underlying e).isSome = true) (hm : ((mx.map (ev env)).isNone || (hi.map (ev env)).isSome) = true) {K : AVal → Prop}
    (hk : sliceSl a len cap ex (P.cellsOf e) (lo.map (ev env)) (hi.map (ev env)) (mx.map (ev env)) K) : Pure P μ (Instr.sliceAt t x (lo.map ρ) (hi.map ρ) (mx.map ρ)) K := by
  have hel : P.elem t = e := by simp [Program.elem, hu]
  have hu' : P.underlying t = some (.slice (P.elem t)) := by rw [hel]; exact hu
  obtain ⟨am, capm, rfl, hcap⟩ : ∃ am capm, x = .slice am len capm ∧ (a ≠ none → cap ≤ capm) := by
    cases hx with
    | slice0 => exact ⟨_, _, rfl, by simp⟩
    | sliceE0 => exact ⟨_, _, rfl, by simp⟩
    | sliceE1 => exact ⟨_, _, rfl, by simp⟩
    | slice h1 h2 h3 h4 h5 => exact ⟨_, _, rfl, fun _ => h3⟩
  have run : ∀ (l h m : Int) (w : World), (Instr.sliceBounds true len capm (lo.map ρ) (hi.map ρ) (mx.map ρ)).run P w = .ok (l.toNat, h.toNat, m.toNat) w →
      (Instr.sliceAt t (.slice am len capm) (lo.map ρ) (hi.map ρ) (mx.map ρ)).run P w = .ok (.slice (if m.toNat = l.toNat then am else am.map (·.add (l.toNat * P.cellsOf e))) (h.toNat - l.toNat) (m.toNat - l.toNat)) w := fun l h m w hr => by
    rw [run_sliceAt_slice w t _ _ _ _ hu', run_slice_any w t am len capm hu', hr]
    simp [hel, sizeOf_run hs, sliced]
  cases a with
  | none =>
    have hlen : len = 0 := by cases hx <;> rfl
    subst hlen
    have step : ∀ (l h m : Int), (l = 0 ∧ h = 0 ∧ (mx = none ∨ m = 0)) → (mx = none → m = capm) → (∀ w, (Instr.sliceBounds true 0 capm (lo.map ρ) (hi.map ρ) (mx.map ρ)).run P w = .ok (l.toNat, h.toNat, m.toNat) w) →
        K (.slice none 0 (match mx.map (ev env) with | some _ => 0 | none => cap) ex) → Pure P μ (Instr.sliceAt t (.slice am 0 capm) (lo.map ρ) (hi.map ρ) (mx.map ρ)) K := by
      intro l h m ⟨h1, h2, h3⟩ hmc hr hk
      subst h1; subst h2
      refine .mk (fun w => run _ _ _ w (hr w)) ?_ hk
      simp only [Int.toNat_zero, Nat.sub_zero, Nat.zero_mul]
      have hadd : (if m.toNat = 0 then am else am.map (·.add 0)) = am := by
        split
        · rfl
        · cases am <;> simp [Addr.add]
      rw [hadd]
      cases mx with
      | none =>
        have := hmc rfl
        subst this
        simp only [Option.map_none, Int.toNat_natCast]
        cases hx <;> constructor
      | some mo =>
        have hm0 : m = 0 := by rcases h3 with h3 | h3 <;> simp_all
        subst hm0
        simp only [Option.map_some, Int.toNat_zero]
        cases hx <;> constructor
    unfold sliceSl at hk
    rcases optInt_some hρ hk with ⟨rfl, hk1⟩ | ⟨km, m, hmx, hk1⟩
    · rcases optInt_some hρ hk1 with ⟨rfl, hk2⟩ | ⟨kh, h, hh, hk2⟩
      · rcases optInt_some hρ hk2 with ⟨rfl, hb, hc, hk3⟩ | ⟨kl, l, hl, hb, hc, hk3⟩
        · exact step 0 0 capm ⟨rfl, rfl, .inl rfl⟩ (fun _ => rfl) (fun w => by simp [Instr.sliceBounds]) hk3
        · exact step l 0 capm ⟨hc.1, rfl, .inl rfl⟩ (fun _ => rfl) (fun w => by simp [Instr.sliceBounds, hl, run_sliceBound w kl l 0 .sliceB hb.1 (by omega)]) hk3
      · rcases optInt_some hρ hk2 with ⟨rfl, hb, hc, hk3⟩ | ⟨kl, l, hl, hb, hc, hk3⟩
        · exact step 0 h capm ⟨rfl, hc.2.1, .inl rfl⟩ (fun _ => rfl) (fun w => by simp [Instr.sliceBounds, hh, run_sliceBound w kh h capm .sliceAcap (by omega) (by omega)]) hk3
        · exact step l h capm ⟨hc.1, hc.2.1, .inl rfl⟩ (fun _ => rfl) (fun w => by simp [Instr.sliceBounds, hh, hl, run_sliceBound w kh h capm .sliceAcap (by omega) (by omega), run_sliceBound w kl l h.toNat .sliceB hb.1 (by omega)]) hk3
    · have hne : mx ≠ none := fun e => by subst e; simp at hmx
      rcases optInt_some hρ hk1 with ⟨rfl, hk2⟩ | ⟨kh, h, hh, hk2⟩
      · cases mx with
        | none => exact absurd rfl hne
        | some x => simp at hm
      · rcases optInt_some hρ hk2 with ⟨rfl, hb, hc, hk3⟩ | ⟨kl, l, hl, hb, hc, hk3⟩
        · have hm0 : m = 0 := by rcases hc.2.2 with h | h
                                 · simp at h; exact absurd h hne
                                 · exact h
          exact step 0 h m ⟨rfl, hc.2.1, .inr hm0⟩ (fun e => absurd e hne) (fun w => by simp [Instr.sliceBounds, hh, hmx, run_sliceBound w km m capm .slice3Acap (by omega) (by omega), run_sliceBound w kh h m.toNat .slice3B (by omega) (by omega)]) hk3
        · have hm0 : m = 0 := by rcases hc.2.2 with h | h
                                 · simp at h; exact absurd h hne
                                 · exact h
          exact step l h m ⟨hc.1, hc.2.1, .inr hm0⟩ (fun e => absurd e hne) (fun w => by simp [Instr.sliceBounds, hh, hl, hmx, run_sliceBound w km m capm .slice3Acap (by omega) (by omega), run_sliceBound w kh h m.toNat .slice3B (by omega) (by omega), run_sliceBound w kl l h.toNat .slice3C hb.1 (by omega)]) hk3
  | some p =>
    obtain ⟨b, o⟩ := p
    have hcap := hcap (by simp)
    obtain ⟨l, h, m, hb, ⟨hk1, hk2⟩, hmc, hr⟩ := bounds_run (P := P) (K := fun l h m => (l < m → K (.slice (some (b, o + l.toNat * P.cellsOf e)) (h - l).toNat (m - l).toNat (ex || (mx.map (ev env)).isSome))) ∧
       (¬ l < m → K (.slice none 0 (if ex || (mx.map (ev env)).isSome then 0 else 1) false))) hρ hcap hm hk
    have hr2 : ∀ w, (Instr.sliceBounds true len capm (lo.map ρ) (hi.map ρ) (mx.map ρ)).run P w = .ok (l.toNat, h.toNat, ((if mx = none then capm else m.toNat : Nat) : Int).toNat) w := fun w => by rw [hr w]; rfl
    cases hx with
    | slice h1 h2 h3 h4 h5 =>
      rename_i e'
      by_cases hlm : l < m
      · refine .mk (fun w => run _ _ _ w (hr2 w)) ?_ (hk1 hlm)
        have hne : ((if mx = none then capm else m.toNat : Nat) : Int).toNat ≠ l.toNat := by
          split
          · rename_i hx; have := hmc hx; omega
          · omega
        rw [if_neg hne]
        simp only [Option.map_some, add_ok]
        have e1 : h.toNat - l.toNat = (h - l).toNat := by omega
        rw [e1]
        refine .slice h1 (by omega) ?_ ?_ ?_
        · split
          · rename_i hx; have := hmc hx; omega
          · omega
        · intro hex
          split
          · rename_i hx; subst hx; simp at hex; have := hmc rfl; have := h4 hex; omega
          · omega
        · intro ho h0
          have h6 := h5 ho (by omega)
          refine Nat.le_trans (Nat.mul_le_mul_right _ ?_) h6
          split <;> omega
      · refine .mk (fun w => run _ _ _ w (hr2 w)) ?_ (hk2 hlm)
        have e1 : h.toNat - l.toNat = 0 := by omega
        rw [e1]
        cases mx with
        | none =>
          have hmc := hmc rfl
          simp only [Option.map_none, Option.isSome_none, Bool.or_false, if_true]
          cases ex with
          | true =>
            have := h4 rfl
            have e2 : ((capm : Nat) : Int).toNat - l.toNat = 0 := by omega
            rw [e2]; exact .sliceE0
          | false => exact .sliceE1
        | some mo =>
          simp only [Option.map_some, Option.isSome_some, Bool.or_true, if_true, reduceCtorEq, if_false]
          have e2 : ((m.toNat : Nat) : Int).toNat - l.toNat = 0 := by omega
          rw [e2]; exact .sliceE0

theorem evs_ok {env : Env} {ρ : Operand → Value} (hρ : EvRel μ env ρ) : ∀ xs : List Operand, VRs μ (xs.map (ev env)) (xs.map ρ)
  | [] => .nil
  | x :: r => .cons (hρ x) (evs_ok hρ r)
theorem args_ok {env : Env} {ρ : Operand → Value} (hρ : EvRel μ env ρ) (xs : Array Operand) : VRs μ (xs.toList.map (ev env)) (xs.map ρ).toList := by
  rw [Array.toList_map]; exact evs_ok hρ _
theorem VRs.one {v : AVal} {xs : Array Value} (h : VRs μ [v] xs.toList) : ∃ x, xs = #[x] ∧ VR μ v x := by
  obtain ⟨l⟩ := xs
  cases h with
  | cons a b => cases b; exact ⟨_, rfl, a⟩
theorem VRs.two {v u : AVal} {xs : Array Value} (h : VRs μ [v, u] xs.toList) : ∃ x y, xs = #[x, y] ∧ VR μ v x ∧ VR μ u y := by
  obtain ⟨l⟩ := xs
  cases h with
  | cons a b => cases b with
    | cons b c => cases c; exact ⟨_, _, rfl, a, b⟩

theorem len_ok {env : Env} {ρ : Operand → Value} (hρ : EvRel μ env ρ) {c : Call} (ty : TypeId) {K : AVal → Prop} (hk : lenA P c.argTypes (c.args.toList.map (ev env)) K) :
    Pure P μ (Builtin.len_ c.argTypes ty (c.args.map ρ)) K := by
  have hargs := args_ok hρ c.args
  unfold lenA at hk
  split at hk
  · rename_i s hs
    rw [hs] at hargs
    obtain ⟨x, hx, hv⟩ := hargs.one
    replace hk := chk_elim hk; obtain ⟨hu, hk⟩ := hk
    cases hv
    rename_i s
    rw [bytesOf_length] at hk
    cases ht : c.argTypes[0]? with
    | none => simp [ht] at hu
    | some t =>
      simp [ht] at hu
      have hu := isStrT_ok hu
      exact .mk (fun w => by simp [Builtin.len_, ht, hx, run_underlying hu, goInt]) (.int _ _) hk
  · rename_i a n cp ex hs
    rw [hs] at hargs
    obtain ⟨x, hx, hv⟩ := hargs.one
    replace hk := chk_elim hk; obtain ⟨hu, hk⟩ := hk
    cases ht : c.argTypes[0]? with
    | none => simp [ht] at hu
    | some t =>
      simp [ht] at hu
      obtain ⟨e, hu⟩ := isSlT_ok hu
      cases hv <;> exact .mk (fun w => by simp [Builtin.len_, ht, hx, run_underlying hu, goInt]) (.int _ _) hk
  · exact hk.elim
end
end Go.Sim
