/- A part of the proof of a statement of this seat: see the text that holds the theorem. No condition. -/
import Derived.Test.YtlljbdepamknoaaSimE
import Derived.Deep.Draws
import Derived.Laws.BytesString
import Derived.Laws.MakeOwn
import Derived.Laws.Small
set_option linter.unusedVariables false
set_option linter.unusedSimpArgs false
set_option linter.all false
set_option linter.unusedSimpArgs false
namespace Go.Sim
open Go Go.RowKit

section
variable {P : Program} {μ : List Pl}

def Zrd (μ : List Pl) (env : Env) (ρ : Operand → Value) : Prop := ∀ x, VR μ (ev env x) (ρ x)

theorem Zoj (v : Value) : VR μ (Zmx v) v := by
  unfold Zmx
  split <;> first | exact .undef _ | constructor
theorem VRs.map_leaf : ∀ l : List Value, VRs μ (l.map Zmx) l
  | [] => .nil
  | v :: r => .cons (Zoj v) (VRs.map_leaf r)
theorem Yhm (v : Value) : VR μ (cst v) v := by
  unfold cst
  split
  · exact .agg (VRs.map_leaf _)
  · exact Zoj v
theorem Yhf {env : Env} {a : Act} (h : Zjd μ env a.tmps) : Zrd μ env a.eval := fun x => by
  cases x with
  | tmp t => exact h t
  | const v => exact Yhm v
  | global g => exact .undef _
  | func f => exact .fn .nil

theorem Zlx {o : Option Zag} {K : Zag → Prop} (h : Zwt o K) : ∃ v, o = some v ∧ K v := by
  unfold Zwt at h
  split at h
  · exact ⟨_, rfl, h⟩
  · exact h.elim

theorem Yhk {op : BinOp} {t : TypeId} {xo yo : Operand} {a b : Zag} {x y : Value} (ha : VR μ a x) (hb : VR μ b y) {K : Zag → Prop} (hk : Yev P op t a b K) :
    Zst P μ (do eqGuard op t xo yo x y; binOp op t x y) K := by
  unfold Yev at hk
  split at hk
  · obtain ⟨e, hg, h1, h2, hk⟩ := Yhe (xo := xo) (yo := yo) ha hb hk
    exact .mk (fun w => by simp [(hg w).1, h1 w]) (.bool _) hk
  · obtain ⟨e, hg, h1, h2, hk⟩ := Yhe (xo := xo) (yo := yo) ha hb hk
    exact .mk (fun w => by simp [(hg w).2, h2 w]) (.bool _) hk
  · rename_i hne1 hne2
    have hg : ∀ w : World, (eqGuard op t xo yo x y).run P w = .ok () w := fun w => by
      cases op <;> first | exact absurd rfl hne1 | exact absurd rfl hne2 | rfl
    split at hk
    · split at hk
      · cases ha; cases hb
        split at hk
        · replace hk := Zbg hk; obtain ⟨rfl, hk⟩ := hk; exact .mk (fun w => by simp [hg w, binOp, Op.intArith]) (.int _ _) hk
        · replace hk := Zbg hk; obtain ⟨rfl, hk⟩ := hk; exact .mk (fun w => by simp [hg w, binOp, Op.intArith]) (.int _ _) hk
        · replace hk := Zbg hk; obtain ⟨rfl, hk⟩ := hk; exact .mk (fun w => by simp [hg w, binOp, Op.intArith]) (.int _ _) hk
        · replace hk := Zbg hk; obtain ⟨rfl, h0, hk⟩ := hk; exact .mk (fun w => by simp [hg w, binOp, Op.intDiv, h0]) (.int _ _) hk
        · replace hk := Zbg hk; obtain ⟨rfl, h0, hk⟩ := hk; exact .mk (fun w => by simp [hg w, binOp, Op.intDiv, h0]) (.int _ _) hk
        · replace hk := Zbg hk; obtain ⟨rfl, hk⟩ := hk; exact .mk (fun w => by simp [hg w, binOp, Op.intCmp]) (.bool _) hk
        · replace hk := Zbg hk; obtain ⟨rfl, hk⟩ := hk; exact .mk (fun w => by simp [hg w, binOp, Op.intCmp]) (.bool _) hk
        · replace hk := Zbg hk; obtain ⟨rfl, hk⟩ := hk; exact .mk (fun w => by simp [hg w, binOp, Op.intCmp]) (.bool _) hk
        · replace hk := Zbg hk; obtain ⟨rfl, hk⟩ := hk; exact .mk (fun w => by simp [hg w, binOp, Op.intCmp]) (.bool _) hk
        · replace hk := Zbg hk; obtain ⟨rfl, hk⟩ := hk; exact .mk (fun w => by simp [hg w, binOp, Op.intBits]) (.int _ _) hk
        · obtain ⟨h0, hk⟩ := hk
          exact .mk (fun w => by simp [hg w, binOp, Op.shift, show ¬ (_ : Int) < 0 from Int.not_lt.2 h0]) (.int _ _) hk
        · exact hk.elim
      · exact hk.elim
    · split at hk
      · cases ha; cases hb
        rename_i s1 s2
        split at hk
        · obtain ⟨hl, hk⟩ := hk
          rw [Zcz, Zcz] at hl
          rw [← Zqu] at hk
          refine .mk (x := .string (s1 ++ s2)) (fun w => ?_) (.str _) hk
          have h1 : ¬ ((s1.size + s2.size : Nat) : Int) > IntKind.i64.max := by simp [IntKind.max, IntKind.signed, IntKind.bits]; omega
          simp only [Sem.run_bind, hg w, Result.andThen_ok, binOp, Op.stringOp]
          rw [if_neg h1]; rfl
        · exact .mk (fun w => by simp only [Sem.run_bind, hg w, Result.andThen_ok, binOp, Op.stringOp]; rfl) (by rw [Zhb]; exact .bool _) hk
        · exact .mk (fun w => by simp only [Sem.run_bind, hg w, Result.andThen_ok, binOp, Op.stringOp]; rfl) (by
            rw [Zhb]
            have : decide (bytesOf s1 = bytesOf s2) = (s1.toList == s2.toList) := by rw [Bool.eq_iff_iff]; simp [Zgf]
            rw [this]; exact .bool _) hk
        · exact .mk (fun w => by simp only [Sem.run_bind, hg w, Result.andThen_ok, binOp, Op.stringOp]; rfl) (by
            rw [Zhb]
            have : decide (bytesOf s1 = bytesOf s2) = (s1.toList == s2.toList) := by rw [Bool.eq_iff_iff]; simp [Zgf]
            rw [this]; exact .bool _) hk
        · exact .mk (fun w => by simp only [Sem.run_bind, hg w, Result.andThen_ok, binOp, Op.stringOp]; rfl) (by rw [Zhb]; exact .bool _) hk
        · exact hk.elim
      · exact hk.elim
    · exact hk.elim

theorem Yjd {op : UnOp} {a : Zag} {x : Value} (ha : VR μ a x) {K : Zag → Prop} (hk : unA op a K) : Zst P μ (Op.unary op x) K := by
  unfold unA at hk
  split at hk
  · split at hk
    · cases ha; exact .mk (fun w => by simp [Op.unary]) (.bool _) hk
    · exact hk.elim
  · split at hk
    · cases ha; exact .mk (fun w => by simp [Op.unary, Op.intArith]) (.int _ _) hk
    · exact hk.elim
  · exact hk.elim

theorem Ygd {c a b : Zag} {z x y : Value} (hc : VR μ c z) (ha : VR μ a x) (hb : VR μ b y) {K : Zag → Prop} (hk : Yar c a b K) :
    ∃ x' v, (∀ w, (do pure (.value (if ← asBool z then x else y)) : Sem Next).run P w = .ok (.value x') w) ∧ VR μ v x' ∧ K v := by
  unfold Yar at hk
  split at hk
  · cases hc
    rename_i e
    cases e
    · exact ⟨y, b, fun w => by simp [asBool], hb, hk⟩
    · exact ⟨x, a, fun w => by simp [asBool], ha, hk⟩
  · exact hk.elim

theorem Zzh {a : Zag} {x : Value} {i : Nat} (ha : VR μ a x) {K : Zag → Prop} (hk : Zny a i K) : Zst P μ (Instr.extract x i) K := by
  unfold Zny at hk
  split at hk
  · cases ha with
    | tup hs =>
      obtain ⟨v, hv, hk⟩ := Zlx hk
      obtain ⟨y, hy, hr⟩ := hs.get hv
      rw [Array.getElem?_toList] at hy
      exact .mk (fun w => by simp [Instr.extract, hy]) hr hk
  · exact hk.elim

theorem Ycc {t : TypeId} {cs : List Zag} {xs : Array Value} {off : Nat} (hs : VRs μ cs xs.toList) {K : Zag → Prop} (hk : Zqw P t cs off K) : Zst P μ (part t xs off) K := by
  unfold Zqw at hk
  split at hk
  · rename_i ha
    refine .mk (x := .agg (xs.extract off (off + P.cellsOf t))) (fun w => by simp [part, Zru ha, Zeb (Zzu ha)]) (.agg ?_) hk
    have := (hs.drop off).take (P.cellsOf t)
    rw [Array.toList_extract, List.extract_eq_take_drop]
    simpa using this
  · rename_i ha
    replace hk := Zbg hk; obtain ⟨hu, hk⟩ := hk
    obtain ⟨v, hv, hk⟩ := Zlx hk
    obtain ⟨y, hy, hr⟩ := hs.get hv
    rw [Array.getElem?_toList] at hy
    exact .mk (Zkn ha hu hy) hr hk

theorem Zqq {t : TypeId} {i : Nat} {K : Field → Prop} (h : Zmi (Zqh P t i) K) : ∃ fs f, P.underlying t = some (.struct fs) ∧ fs[i]? = some f ∧ K f := by
  unfold Zmi Zqh at h
  split at h
  · rename_i f hf
    split at hf
    · rename_i fs hu; exact ⟨fs, f, hu, hf, h⟩
    · cases hf
  · exact h.elim

theorem Yeb {t : TypeId} {a : Zag} {x : Value} {i : Nat} (ha : VR μ a x) {K : Zag → Prop} (hk : Zvc P t a i K) : Zst P μ (Instr.field t x i) K := by
  unfold Zvc at hk
  split at hk
  · cases ha with
    | agg hs =>
      obtain ⟨fs, f, hu, hf, hk⟩ := Zqq hk
      obtain ⟨y, v, hr, hv, hk⟩ := Ycc hs hk
      exact .mk (fun w => by simp [Instr.field, run_underlying hu, hf, asAgg, hr]) hv hk
  · exact hk.elim

theorem Zuy (e : Pl) (o n : Nat) : (⟨e.b, e.o + o, none⟩ : Addr).add n = ⟨e.b, e.o + (o + n), none⟩ := by
  unfold Addr.add; split <;> simp_all [Nat.add_assoc]

theorem Zum {t : TypeId} {a : Zag} {x : Value} {i : Nat} (ha : VR μ a x) {K : Zag → Prop} (hk : Zkb P t a i K) : Zst P μ (Instr.fieldAt t x i) K := by
  unfold Zkb at hk
  split at hk
  · obtain ⟨fs, f, hu, hf, hk⟩ := Zqq hk
    replace hk := Zbg hk; obtain ⟨hs, hk⟩ := hk
    replace hk := Zbg hk; obtain ⟨hz, hk⟩ := hk
    obtain ⟨b, o, rfl, hk⟩ := Zcm hk
    cases ha with
    | ptr hi =>
      refine .mk (fun w => ?_) (.ptr hi) hk
      simp [Instr.fieldAt, run_underlying hu, hf, Instr.sureAddr, fieldPlace, Zeb hs, hz, Zuy]
  · exact hk.elim

theorem Zve {t : TypeId} {a i : Zag} {x y : Value} (ha : VR μ a x) (hi : VR μ i y) {K : Zag → Prop} (hk : Zki P t a i K) : Zst P μ (Instr.indexAt t x y) K := by
  unfold Zki at hk
  split at hk
  · cases hi
    split at hk
    · rename_i e hu
      split at hk
      · replace hk := Zbg hk; obtain ⟨hs, hb, hk⟩ := hk
        obtain ⟨b, o, rfl, hk⟩ := Zcm hk
        cases ha with
        | slice h1 h2 h3 h4 h5 =>
          refine .mk (fun w => ?_) (.ptr h1) hk
          simp [Instr.indexAt, asIntOf, run_underlying hu, hb, Zeb hs, Zuy]
      · exact hk.elim
    · rename_i len e hu
      split at hk
      · replace hk := Zbg hk; obtain ⟨hs, hb, hk⟩ := hk
        obtain ⟨b, o, rfl, hk⟩ := Zcm hk
        cases ha with
        | ptr h1 =>
          refine .mk (fun w => ?_) (.ptr h1) hk
          simp [Instr.indexAt, asIntOf, run_underlying hu, Instr.sureAddr, hb, Zeb hs, Zuy]
      · exact hk.elim
    · exact hk.elim
  · exact hk.elim

theorem Ycr {t : TypeId} {a i : Zag} {x y : Value} (ha : VR μ a x) (hi : VR μ i y) {K : Zag → Prop} (hk : Ztr P t a i K) : Zst P μ (Instr.index t x y) K := by
  unfold Ztr at hk
  split at hk
  · cases hi
    rename_i n
    split at hk
    · rename_i hu
      split at hk
      · cases ha
        rename_i s
        obtain ⟨hb, hk⟩ := hk
        rw [Zcz] at hb
        have hlt : n.toNat < s.size := by omega
        have hg : s[n.toNat]? = some s[n.toNat] := by simp [hlt]
        refine .mk (x := .int .u8 (s[n.toNat]).toNat) (fun w => ?_) ?_ hk
        · simp [Instr.index, asIntOf, run_underlying hu, hb.1, hg]
        · have : (bytesOf s).getD n.toNat 0 = (s[n.toNat]).toNat := by
            have hlt' : n.toNat < s.data.size := hlt
            have hq : s.data[n.toNat]? = some s[n.toNat] := by rw [Array.getElem?_eq_getElem hlt']; rfl
            simp only [bytesOf, List.getD, List.getElem?_map, Array.getElem?_toList, hq]; rfl
          rw [this]; exact .int _ _
      · exact hk.elim
    · rename_i len e hu
      split at hk
      · cases ha with
        | agg hs =>
          replace hk := Zbg hk; obtain ⟨hse, hb, hk⟩ := hk
          obtain ⟨z, v, hr, hv, hk⟩ := Ycc hs hk
          exact .mk (fun w => by simp [Instr.index, asIntOf, run_underlying hu, hb, Zeb hse, hr]) hv hk
      · exact hk.elim
    · exact hk.elim
  · exact hk.elim

theorem Ygn {s d : TypeId} {a : Zag} {x : Value} (ha : VR μ a x) {K : Zag → Prop} (hk : Zvw P s d a K) : Zst P μ (convert s d x) K := by
  unfold Zvw at hk
  split at hk
  · rename_i k hd
    split at hk
    · cases ha
      replace hk := Zbg hk; obtain ⟨hs, hk⟩ := hk
      obtain ⟨ds, hds⟩ := Option.isSome_iff_exists.1 hs
      exact .mk (fun w => by simp [convert, run_underlying hds, run_underlying hd, Conv.intToInt]) (.int _ _) hk
    · exact hk.elim
  · rename_i hd
    split at hk
    · cases ha
      replace hk := Zbg hk; obtain ⟨hs, hk⟩ := hk
      have hs := Zke hs
      exact .mk (fun w => by simp [convert, run_underlying hs, run_underlying hd]) (.str _) hk
    · cases ha
      rename_i n
      replace hk := Zbg hk; obtain ⟨hs, hb, hk⟩ := hk
      obtain ⟨k, hs⟩ := Yas hs
      refine .mk (x := .string (Utf8.encode n)) (fun w => by simp [convert, run_underlying hs, run_underlying hd, Conv.intToString]) ?_ hk
      have h1 : Utf8.valid n = true := by simp [Utf8.valid]; omega
      have h2 : n.toNat < 128 := by omega
      have : [n.toNat] = bytesOf (Utf8.encode n) := by
        simp only [Utf8.encode, h1, if_true, h2, bytesOf]
        simp
        omega
      rw [this]; exact .str _
    · exact hk.elim
  · exact hk.elim

theorem Zpz (s : ByteArray) (l h : Nat) : bytesOf (s.extract l h) = ((bytesOf s).take h).drop l := by
  simp only [bytesOf, ByteArray.data_extract, Array.toList_extract, List.extract_eq_take_drop]
  rw [← List.map_take, ← List.map_drop, List.take_drop, List.drop_take]
  congr 2
  rw [List.drop_take]
  by_cases hl : l ≤ h
  · rw [show l + (h - l) = h by omega]
  · rw [show h - l = 0 by omega]; simp

theorem Zdb {x : Option Operand} {env : Env} {ρ : Operand → Value} (hρ : Zrd μ env ρ) {d : Int} {K : Int → Prop} (h : Zhc (x.map (ev env)) d K) :
    (x = none ∧ K d) ∨ ∃ k n, x.map ρ = some (.int k n) ∧ K n := by
  unfold Zhc at h
  split at h
  · rename_i hx; cases x with
    | none => exact .inl ⟨rfl, h⟩
    | some y => simp at hx
  · rename_i k n hx; cases x with
    | none => simp at hx
    | some y =>
      simp only [Option.map_some, Option.some.injEq] at hx
      have := hρ y
      rw [hx] at this
      cases hy : ρ y with
      | int k' n' => rw [hy] at this; cases this; exact .inr ⟨k, n, by simp [hy], h⟩
      | _ => rw [hy] at this; cases this
  · exact h.elim

theorem Zwp {t : TypeId} {env : Env} {ρ : Operand → Value} (hρ : Zrd μ env ρ) {s : ByteArray} {lo hi : Option Operand} (hu : P.underlying t = some .string) {K : Zag → Prop}
    (hk : Znw (bytesOf s) (lo.map (ev env)) (hi.map (ev env)) K) : Zst P μ (Instr.sliceAt t (.string s) (lo.map ρ) (hi.map ρ) none) K := by
  unfold Znw at hk
  have fin : ∀ (l h : Int) (w : World), (0 ≤ l ∧ l ≤ h ∧ h ≤ (bytesOf s).length) → (Instr.sliceBounds false s.size s.size (lo.map ρ) (hi.map ρ) none).run P w = .ok (l.toNat, h.toNat, s.size) w →
      (Instr.sliceAt t (.string s) (lo.map ρ) (hi.map ρ) none).run P w = .ok (.string (s.extract l.toNat h.toNat)) w := fun l h w _ hr => by
    simp [run_sliceAt_string w t _ _ _ _ hu, Instr.slice, run_underlying hu, hr]
  have hv : ∀ l h : Int, VR μ (.str (sub (bytesOf s) l h)) (.string (s.extract l.toNat h.toNat)) := fun l h => by
    unfold sub; rw [← Zpz]; exact .str _
  rcases Zdb hρ hk with ⟨rfl, hk2⟩ | ⟨kh, h, hh, hk2⟩
  · rcases Zdb hρ hk2 with ⟨rfl, hb, hk3⟩ | ⟨kl, l, hl, hb, hk3⟩
    · refine .mk (fun w => fin _ _ w hb ?_) (hv _ _) hk3
      simp [Instr.sliceBounds, Zcz]
    · refine .mk (fun w => fin _ _ w hb ?_) (hv _ _) hk3
      rw [Zcz] at hb ⊢
      simp [Instr.sliceBounds, hl, run_sliceBound w kl l s.size .sliceB hb.1 (by omega)]
  · rcases Zdb hρ hk2 with ⟨rfl, hb, hk3⟩ | ⟨kl, l, hl, hb, hk3⟩
    · refine .mk (fun w => fin _ _ w hb ?_) (hv _ _) hk3
      rw [Zcz] at hb
      simp [Instr.sliceBounds, hh, run_sliceBound w kh h s.size .sliceAlen (by omega) (by omega)]
    · refine .mk (fun w => fin _ _ w hb ?_) (hv _ _) hk3
      rw [Zcz] at hb
      simp [Instr.sliceBounds, hh, hl, run_sliceBound w kh h s.size .sliceAlen (by omega) (by omega), run_sliceBound w kl l h.toNat .sliceB hb.1 (by omega)]

theorem Zyk {env : Env} {ρ : Operand → Value} (hρ : Zrd μ env ρ) {len cap capm : Nat} (hcap : cap ≤ capm) {lo hi mx : Option Operand} (hm : ((mx.map (ev env)).isNone || (hi.map (ev env)).isSome) = true) {K : Int → Int → Int → Prop}
    (hk : Zhc (mx.map (ev env)) cap fun m => Zhc (hi.map (ev env)) len fun h => Zhc (lo.map (ev env)) 0 fun l => (0 ≤ l ∧ l ≤ h ∧ h ≤ m ∧ m ≤ cap) ∧ K l h m) :
    ∃ l h m : Int, (0 ≤ l ∧ l ≤ h ∧ h ≤ m ∧ m ≤ cap) ∧ K l h m ∧ (mx = none → m = cap) ∧
      ∀ w, (Instr.sliceBounds true len capm (lo.map ρ) (hi.map ρ) (mx.map ρ)).run P w = .ok (l.toNat, h.toNat, if mx = none then capm else m.toNat) w := by
  rcases Zdb hρ hk with ⟨rfl, hk1⟩ | ⟨km, m, hmx, hk1⟩
  · rcases Zdb hρ hk1 with ⟨rfl, hk2⟩ | ⟨kh, h, hh, hk2⟩
    · rcases Zdb hρ hk2 with ⟨rfl, hb, hk3⟩ | ⟨kl, l, hl, hb, hk3⟩
      · exact ⟨_, _, _, hb, hk3, fun _ => rfl, fun w => by simp [Instr.sliceBounds]⟩
      · exact ⟨_, _, _, hb, hk3, fun _ => rfl, fun w => by simp [Instr.sliceBounds, hl, run_sliceBound w kl l len .sliceB hb.1 (by omega)]⟩
    · rcases Zdb hρ hk2 with ⟨rfl, hb, hk3⟩ | ⟨kl, l, hl, hb, hk3⟩
      · exact ⟨_, _, _, hb, hk3, fun _ => rfl, fun w => by simp [Instr.sliceBounds, hh, run_sliceBound w kh h capm .sliceAcap (by omega) (by omega)]⟩
      · exact ⟨_, _, _, hb, hk3, fun _ => rfl, fun w => by simp [Instr.sliceBounds, hh, hl, run_sliceBound w kh h capm .sliceAcap (by omega) (by omega), run_sliceBound w kl l h.toNat .sliceB hb.1 (by omega)]⟩
  · have hne : mx ≠ none := fun e => by subst e; simp at hmx
    rcases Zdb hρ hk1 with ⟨rfl, hk2⟩ | ⟨kh, h, hh, hk2⟩
    · cases mx with
      | none => exact absurd rfl hne
      | some x => simp at hm
    · rcases Zdb hρ hk2 with ⟨rfl, hb, hk3⟩ | ⟨kl, l, hl, hb, hk3⟩
      · exact ⟨_, _, _, hb, hk3, fun e => absurd e hne, fun w => by simp [Instr.sliceBounds, hh, hmx, hne, run_sliceBound w km m capm .slice3Acap (by omega) (by omega), run_sliceBound w kh h m.toNat .slice3B (by omega) (by omega)]⟩
      · exact ⟨_, _, _, hb, hk3, fun e => absurd e hne, fun w => by simp [Instr.sliceBounds, hh, hl, hmx, hne, run_sliceBound w km m capm .slice3Acap (by omega) (by omega), run_sliceBound w kh h m.toNat .slice3B (by omega) (by omega), run_sliceBound w kl l h.toNat .slice3C hb.1 (by omega)]⟩

theorem Zzk {t e : TypeId} {env : Env} {ρ : Operand → Value} (hρ : Zrd μ env ρ) {a : Option (Nat × Nat)} {len cap : Nat} {ex : Bool} {x : Value} (hx : VR μ (.slice a len cap ex) x) {lo hi mx : Option Operand}
    (hu : P.underlying t = some (.slice e)) (hs : (P.underlying e).isSome = true) (hm : ((mx.map (ev env)).isNone || (hi.map (ev env)).isSome) = true) {K : Zag → Prop}
    (hk : Zep a len cap ex (P.cellsOf e) (lo.map (ev env)) (hi.map (ev env)) (mx.map (ev env)) K) : Zst P μ (Instr.sliceAt t x (lo.map ρ) (hi.map ρ) (mx.map ρ)) K := by
  have hel : P.elem t = e := by simp [Program.elem, hu]
  have hu' : P.underlying t = some (.slice (P.elem t)) := by rw [hel]; exact hu
  obtain ⟨am, capm, rfl, hcap⟩ : ∃ am capm, x = .slice am len capm ∧ (a ≠ none → cap ≤ capm) := by
    cases hx with
    | slice0 => exact ⟨_, _, rfl, by simp⟩
    | sliceE0 => exact ⟨_, _, rfl, by simp⟩
    | sliceE1 => exact ⟨_, _, rfl, by simp⟩
    | slice h1 h2 h3 h4 h5 => exact ⟨_, _, rfl, fun _ => h3⟩
  have run : ∀ (l h m : Int) (w : World), (Instr.sliceBounds true len capm (lo.map ρ) (hi.map ρ) (mx.map ρ)).run P w = .ok (l.toNat, h.toNat, m.toNat) w →
      (Instr.sliceAt t (.slice am len capm) (lo.map ρ) (hi.map ρ) (mx.map ρ)).run P w = .ok (.slice (if m.toNat = l.toNat then am else am.map (·.add (l.toNat * P.cellsOf e))) (h.toNat - l.toNat) (m.toNat - l.toNat)) w := fun l h m w hr => by
    rw [run_sliceAt_slice w t _ _ _ _ hu', run_slice_any w t am len capm hu', hr]
    simp [hel, Zeb hs, sliced]
  cases a with
  | none =>
    have hlen : len = 0 := by cases hx <;> rfl
    subst hlen
    have step : ∀ (l h m : Int), (l = 0 ∧ h = 0 ∧ (mx = none ∨ m = 0)) → (mx = none → m = capm) → (∀ w, (Instr.sliceBounds true 0 capm (lo.map ρ) (hi.map ρ) (mx.map ρ)).run P w = .ok (l.toNat, h.toNat, m.toNat) w) →
        K (.slice none 0 (match mx.map (ev env) with | some _ => 0 | none => cap) ex) → Zst P μ (Instr.sliceAt t (.slice am 0 capm) (lo.map ρ) (hi.map ρ) (mx.map ρ)) K := by
      intro l h m ⟨h1, h2, h3⟩ hmc hr hk
      subst h1; subst h2
      refine .mk (fun w => run _ _ _ w (hr w)) ?_ hk
      simp only [Int.toNat_zero, Nat.sub_zero, Nat.zero_mul]
      have hadd : (if m.toNat = 0 then am else am.map (·.add 0)) = am := by
        split
        · rfl
        · cases am <;> simp [Addr.add]
      rw [hadd]
      cases mx with
      | none =>
        have := hmc rfl
        subst this
        simp only [Option.map_none, Int.toNat_natCast]
        cases hx <;> constructor
      | some mo =>
        have hm0 : m = 0 := by rcases h3 with h3 | h3 <;> simp_all
        subst hm0
        simp only [Option.map_some, Int.toNat_zero]
        cases hx <;> constructor
    unfold Zep at hk
    rcases Zdb hρ hk with ⟨rfl, hk1⟩ | ⟨km, m, hmx, hk1⟩
    · rcases Zdb hρ hk1 with ⟨rfl, hk2⟩ | ⟨kh, h, hh, hk2⟩
      · rcases Zdb hρ hk2 with ⟨rfl, hb, hc, hk3⟩ | ⟨kl, l, hl, hb, hc, hk3⟩
        · exact step 0 0 capm ⟨rfl, rfl, .inl rfl⟩ (fun _ => rfl) (fun w => by simp [Instr.sliceBounds]) hk3
        · exact step l 0 capm ⟨hc.1, rfl, .inl rfl⟩ (fun _ => rfl) (fun w => by simp [Instr.sliceBounds, hl, run_sliceBound w kl l 0 .sliceB hb.1 (by omega)]) hk3
      · rcases Zdb hρ hk2 with ⟨rfl, hb, hc, hk3⟩ | ⟨kl, l, hl, hb, hc, hk3⟩
        · exact step 0 h capm ⟨rfl, hc.2.1, .inl rfl⟩ (fun _ => rfl) (fun w => by simp [Instr.sliceBounds, hh, run_sliceBound w kh h capm .sliceAcap (by omega) (by omega)]) hk3
        · exact step l h capm ⟨hc.1, hc.2.1, .inl rfl⟩ (fun _ => rfl) (fun w => by simp [Instr.sliceBounds, hh, hl, run_sliceBound w kh h capm .sliceAcap (by omega) (by omega), run_sliceBound w kl l h.toNat .sliceB hb.1 (by omega)]) hk3
    · have hne : mx ≠ none := fun e => by subst e; simp at hmx
      rcases Zdb hρ hk1 with ⟨rfl, hk2⟩ | ⟨kh, h, hh, hk2⟩
      · cases mx with
        | none => exact absurd rfl hne
        | some x => simp at hm
      · rcases Zdb hρ hk2 with ⟨rfl, hb, hc, hk3⟩ | ⟨kl, l, hl, hb, hc, hk3⟩
        · have hm0 : m = 0 := by rcases hc.2.2 with h | h
                                 · simp at h; exact absurd h hne
                                 · exact h
          exact step 0 h m ⟨rfl, hc.2.1, .inr hm0⟩ (fun e => absurd e hne) (fun w => by simp [Instr.sliceBounds, hh, hmx, run_sliceBound w km m capm .slice3Acap (by omega) (by omega), run_sliceBound w kh h m.toNat .slice3B (by omega) (by omega)]) hk3
        · have hm0 : m = 0 := by rcases hc.2.2 with h | h
                                 · simp at h; exact absurd h hne
                                 · exact h
          exact step l h m ⟨hc.1, hc.2.1, .inr hm0⟩ (fun e => absurd e hne) (fun w => by simp [Instr.sliceBounds, hh, hl, hmx, run_sliceBound w km m capm .slice3Acap (by omega) (by omega), run_sliceBound w kh h m.toNat .slice3B (by omega) (by omega), run_sliceBound w kl l h.toNat .slice3C hb.1 (by omega)]) hk3
  | some p =>
    obtain ⟨b, o⟩ := p
    have hcap := hcap (by simp)
    obtain ⟨l, h, m, hb, ⟨hk1, hk2⟩, hmc, hr⟩ := Zyk (P := P) (K := fun l h m => (l < m → K (.slice (some (b, o + l.toNat * P.cellsOf e)) (h - l).toNat (m - l).toNat (ex || (mx.map (ev env)).isSome))) ∧
       (¬ l < m → K (.slice none 0 (if ex || (mx.map (ev env)).isSome then 0 else 1) false))) hρ hcap hm hk
    have hr2 : ∀ w, (Instr.sliceBounds true len capm (lo.map ρ) (hi.map ρ) (mx.map ρ)).run P w = .ok (l.toNat, h.toNat, ((if mx = none then capm else m.toNat : Nat) : Int).toNat) w := fun w => by rw [hr w]; rfl
    cases hx with
    | slice h1 h2 h3 h4 h5 =>
      rename_i e'
      by_cases hlm : l < m
      · refine .mk (fun w => run _ _ _ w (hr2 w)) ?_ (hk1 hlm)
        have hne : ((if mx = none then capm else m.toNat : Nat) : Int).toNat ≠ l.toNat := by
          split
          · rename_i hx; have := hmc hx; omega
          · omega
        rw [if_neg hne]
        simp only [Option.map_some, Zuy]
        have e1 : h.toNat - l.toNat = (h - l).toNat := by omega
        rw [e1]
        refine .slice h1 (by omega) ?_ ?_ ?_
        · split
          · rename_i hx; have := hmc hx; omega
          · omega
        · intro hex
          split
          · rename_i hx; subst hx; simp at hex; have := hmc rfl; have := h4 hex; omega
          · omega
        · intro ho h0
          have h6 := h5 ho (by omega)
          refine Nat.le_trans (Nat.mul_le_mul_right _ ?_) h6
          split <;> omega
      · refine .mk (fun w => run _ _ _ w (hr2 w)) ?_ (hk2 hlm)
        have e1 : h.toNat - l.toNat = 0 := by omega
        rw [e1]
        cases mx with
        | none =>
          have hmc := hmc rfl
          simp only [Option.map_none, Option.isSome_none, Bool.or_false, if_true]
          cases ex with
          | true =>
            have := h4 rfl
            have e2 : ((capm : Nat) : Int).toNat - l.toNat = 0 := by omega
            rw [e2]; exact .sliceE0
          | false => exact .sliceE1
        | some mo =>
          simp only [Option.map_some, Option.isSome_some, Bool.or_true, if_true, reduceCtorEq, if_false]
          have e2 : ((m.toNat : Nat) : Int).toNat - l.toNat = 0 := by omega
          rw [e2]; exact .sliceE0

theorem Yfb {env : Env} {ρ : Operand → Value} (hρ : Zrd μ env ρ) : ∀ xs : List Operand, VRs μ (xs.map (ev env)) (xs.map ρ)
  | [] => .nil
  | x :: r => .cons (hρ x) (Yfb hρ r)
theorem Zoo {env : Env} {ρ : Operand → Value} (hρ : Zrd μ env ρ) (xs : Array Operand) : VRs μ (xs.toList.map (ev env)) (xs.map ρ).toList := by
  rw [Array.toList_map]; exact Yfb hρ _
theorem VRs.one {v : Zag} {xs : Array Value} (h : VRs μ [v] xs.toList) : ∃ x, xs = #[x] ∧ VR μ v x := by
  obtain ⟨l⟩ := xs
  cases h with
  | cons a b => cases b; exact ⟨_, rfl, a⟩
theorem VRs.two {v u : Zag} {xs : Array Value} (h : VRs μ [v, u] xs.toList) : ∃ x y, xs = #[x, y] ∧ VR μ v x ∧ VR μ u y := by
  obtain ⟨l⟩ := xs
  cases h with
  | cons a b => cases b with
    | cons b c => cases c; exact ⟨_, _, rfl, a, b⟩

theorem Yhs {env : Env} {ρ : Operand → Value} (hρ : Zrd μ env ρ) {c : Call} (ty : TypeId) {K : Zag → Prop} (hk : Ygc P c.argTypes (c.args.toList.map (ev env)) K) :
    Zst P μ (Builtin.len_ c.argTypes ty (c.args.map ρ)) K := by
  have hargs := Zoo hρ c.args
  unfold Ygc at hk
  split at hk
  · rename_i s hs
    rw [hs] at hargs
    obtain ⟨x, hx, hv⟩ := hargs.one
    replace hk := Zbg hk; obtain ⟨hu, hk⟩ := hk
    cases hv
    rename_i s
    rw [Zcz] at hk
    cases ht : c.argTypes[0]? with
    | none => simp [ht] at hu
    | some t =>
      simp [ht] at hu
      have hu := Zke hu
      exact .mk (fun w => by simp [Builtin.len_, ht, hx, run_underlying hu, goInt]) (.int _ _) hk
  · rename_i a n cp ex hs
    rw [hs] at hargs
    obtain ⟨x, hx, hv⟩ := hargs.one
    replace hk := Zbg hk; obtain ⟨hu, hk⟩ := hk
    cases ht : c.argTypes[0]? with
    | none => simp [ht] at hu
    | some t =>
      simp [ht] at hu
      obtain ⟨e, hu⟩ := Zxh hu
      cases hv <;> exact .mk (fun w => by simp [Builtin.len_, ht, hx, run_underlying hu, goInt]) (.int _ _) hk
  · exact hk.elim
end
end Go.Sim

set_option linter.unusedSimpArgs false
namespace Go.Sim
open Go Go.RowKit

section
variable {P : Program} {μ : List Pl}

theorem Zst.val {s : Sem Value} {K : Zag → Prop} (h : Zst P μ s K) : ∃ x v, (∀ w, (do pure (.value (← s)) : Sem Next).run P w = .ok (.value x) w) ∧ VR μ v x ∧ K v := by
  obtain ⟨x, v, hr, hv, hk⟩ := h
  exact ⟨x, v, fun w => by simp [hr w], hv, hk⟩

theorem Ygj {env : Env} {ρ : Operand → Value} (hρ : Zrd μ env ρ) {o : Oper} {K : Zag → Prop} (hk : Znt P env o K) :
    ∃ x v, (∀ w, (execOp ρ o).run P w = .ok (.value x) w) ∧ VR μ v x ∧ K v := by
  unfold Znt at hk
  obtain ⟨dst, op, type, pos, after, guard⟩ := o
  cases op <;> simp only at hk <;> simp only [execOp]
  case move x => exact ⟨_, _, fun w => rfl, hρ x, hk⟩
  case assign x => exact ⟨_, _, fun w => rfl, hρ x, hk⟩
  case pick c a b => exact Ygd (hρ c) (hρ a) (hρ b) hk
  case binOp op t x y yt => exact (Yhk (hρ x) (hρ y) hk).val
  case unOp op t x => exact (Yjd (hρ x) hk).val
  case nilCheck x =>
    have := hρ x
    unfold Yio at hk
    split at hk
    · rename_i he
      obtain ⟨b, o, rfl, hk⟩ := Zcm hk
      rw [he] at this
      cases hy : ρ x with
      | pointer a =>
        rw [hy] at this
        cases this with
        | ptr hi => exact ⟨_, _, fun w => rfl, .ptr hi, hk⟩
      | _ => rw [hy] at this; cases this
    · rename_i f cs he
      rw [he] at this
      cases hy : ρ x with
      | func fn first cap =>
        rw [hy] at this
        cases this with
        | fn hs => exact ⟨_, _, fun w => rfl, .fn hs, hk⟩
      | _ => rw [hy] at this; cases this
    · exact hk.elim
  case extract x i => exact (Zzh (hρ x) hk).val
  case field t x i => exact (Yeb (hρ x) hk).val
  case fieldAddr t x i => exact (Zum (hρ x) hk).val
  case indexAddr t x i => exact (Zve (hρ x) (hρ i) hk).val
  case index t x i => exact (Ycr (hρ x) (hρ i) hk).val
  case convert s d x => exact (Ygn (hρ x) hk).val
  case slice t x lo hi mx =>
    refine Zst.val ?_
    unfold Zrq at hk
    split at hk
    · rename_i hu
      split at hk
      · rename_i s he
        replace hk := Zbg hk; obtain ⟨hm, hk⟩ := hk
        have := hρ x
        rw [he] at this
        cases mx with
        | some m => simp at hm
        | none =>
          cases hy : ρ x with
          | string s' => rw [hy] at this; cases this; exact Zwp hρ hu hk
          | _ => rw [hy] at this; cases this
      · exact hk.elim
    · rename_i e hu
      split at hk
      · rename_i a len cap ex he
        replace hk := Zbg hk; obtain ⟨hs, hk⟩ := hk
        replace hk := Zbg hk; obtain ⟨hm, hk⟩ := hk
        have := hρ x
        rw [he] at this
        exact Zzk hρ this hu hs hm hk
      · exact hk.elim
    · exact hk.elim
  case makeFunc fn first caps =>
    cases fn <;> simp only at hk
    case func f =>
      replace hk := Zbg hk; obtain ⟨h0, hk⟩ := hk
      have : first.map ρ = #[] := by simpa using h0
      exact ⟨_, _, fun w => by simp [Instr.makeFunc, this], .fn (Zoo hρ caps), hk⟩
    all_goals exact hk.elim
  case call c =>
    obtain ⟨callee, args, ats⟩ := c
    cases callee <;> simp only at hk
    case builtin b =>
      cases b <;> simp only at hk
      case len =>
        refine (Yhs (c := ⟨.builtin .len, args, ats⟩) hρ type hk).val.imp fun x ⟨v, hr, h⟩ => ⟨v, fun w => ?_, h⟩
        have := hr w
        simpa [resolve, invoke, builtin] using this
      all_goals exact hk.elim
    all_goals exact hk.elim
  all_goals exact hk.elim
end
end Go.Sim

set_option linter.unusedSimpArgs false
namespace Go.Sim
open Go Go.RowKit

def Zre (P : Program) (t : TypeId) : Option (List Zag) :=
  match P.info? t with
  | some i => (match i.zero with | some v => some (v.cells.toList.map Zmx) | none => none)
  | none => none
def Yjb (h : Zaa) (t : TypeId) (cs : List Zag) (K : Zag → Zaa → Prop) : Prop := K (.ptr (some (h.length, 0))) (h ++ [.cells t cs false])
def Yes (P : Program) (t : TypeId) (h : Zaa) (K : Zag → Zaa → Prop) : Prop := Zdg (Zre P t) fun cs => Yjb h t cs K
def Yjj (t : TypeId) (h : Zaa) (v : Zag) (K : Zag → Zaa → Prop) : Prop := Zdg (sv v) fun cs => Yjb h t cs K
def Zwl (place : Nat → Option (Nat × Nat)) (cells : List Zag) : List (Nat × Zag) → Option (List Zag)
  | [] => some cells
  | (i, v) :: rest =>
    match place i with
    | none => none
    | some (off, size) =>
      match sv v with
      | none => none
      | some vs => if vs.length = size ∧ off + vs.length ≤ cells.length then Zwl place (Zbi cells off vs) rest else none
def parts (env : Env) (ps : Array (Nat × Operand)) : List (Nat × Zag) := ps.toList.map fun p => (p.1, ev env p.2)
def Yax (P : Program) (t : TypeId) (ps : List (Nat × Zag)) (K : Zag → Prop) : Prop :=
  Zdg (Zre P t) fun z =>
    match P.underlying t with
    | some (.struct fs) => chk ((fs.toList.all fun f => (P.underlying f.type).isSome) = true) (Zdg (Zwl (fun i => (fs[i]?).map fun f => (f.offset, P.cellsOf f.type)) z ps) fun cs => K (.agg cs))
    | some (.array _ e) => chk ((P.underlying e).isSome = true) (Zdg (Zwl (fun i => some (i * P.cellsOf e, P.cellsOf e)) z ps) fun cs => K (.agg cs))
    | _ => False
def reps (n : Nat) (z : List Zag) : List Zag := (List.replicate n z).flatten
def Zku (P : Program) (t : TypeId) (n : Nat) (ps : List (Nat × Zag)) (h : Zaa) (K : Zag → Zaa → Prop) : Prop :=
  match P.underlying t with
  | some (.slice e) => Zdg (Zre P e) fun z => chk ((P.underlying e).isSome = true ∧ z.length = P.cellsOf e ∧ 0 < P.cellsOf e ∧ n * P.cellsOf e ≤ 16777216)
      (Zdg (Zwl (fun i => some (i * P.cellsOf e, P.cellsOf e)) (reps n z) ps) fun cs => K (.slice (some (h.length, 0)) n n true) (h ++ [.cells e cs false]))
  | _ => False
def Zip (P : Program) (t : TypeId) (l c : Zag) (h : Zaa) (K : Zag → Zaa → Prop) : Prop :=
  match P.underlying t with
  | some (.slice e) => Zdg (Zre P e) fun z => chk ((P.underlying e).isSome = true ∧ z.length = P.cellsOf e ∧ 0 < P.cellsOf e)
      (Zgn .i64 (some l) fun l => Zgn .i64 (some c) fun c => (0 ≤ l ∧ l ≤ c ∧ c * (P.bytesOf e + 1) ≤ 140737488355328) ∧
        K (.slice (some (h.length, 0)) l.toNat c.toNat true) (h ++ [.cells e (reps c.toNat z) false]))
  | _ => False
def rowOf (h : Zaa) (a : Option (Nat × Nat)) (n : Nat) : Option (List Zag) :=
  match a with
  | none => if n = 0 then some [] else none
  | some p => if n = 0 then some [] else Zbw h (.ptr (some p)) n
def Zlj (h : Zaa) (i : Nat) (e : TypeId) (K : List Zag → Prop) : Prop :=
  match h[i]? with
  | some (.cells e' cs false) => e' = e ∧ K cs
  | _ => False
def _root_.Go.Program.okElem (P : Program) (e : TypeId) : Bool := decide ((P.underlying e).isSome = true ∧ (Zre P e).map List.length = some (P.cellsOf e) ∧ 0 < P.cellsOf e)
def Zcy (P : Program) (t : TypeId) (h : Zaa) (s x : Zag) (K : Zag → Zaa → Prop) : Prop :=
  match P.underlying t with
  | some (.slice e) => (match s with
    | .slice sa len cap ex => (match x with
      | .slice xa m _ _ => Zdg (rowOf h xa (m * P.cellsOf e)) fun new =>
        (P.okElem e = true ∧ (len + m) * (P.bytesOf e + 1) ≤ 140737488355328 ∧ new.all Zag.leaf = true) ∧
        (match sa with
         | none => (m = 0 → K s h) ∧ (m ≠ 0 → cap = 0 ∧ K (.slice (some (h.length, 0)) m m false) (h ++ [.cells e new false]))
         | some (i, o) =>
           (o = 0 ∧ Zlj h i e fun cs => cs.length = len * P.cellsOf e ∧ K (.slice (some (h.length, 0)) (len + m) (len + m) false) (h.set i .dead ++ [.cells e (cs ++ new) false])) ∨
           (len + m ≤ cap ∧ Zlj h i e fun cs => o + len * P.cellsOf e + new.length ≤ cs.length ∧ K (.slice (some (i, o)) (len + m) cap ex) (h.set i (.cells e (Zbi cs (o + len * P.cellsOf e) new) false))) ∨
           ((ex = true ∧ cap < len + m) ∧ Zdg (rowOf h sa (len * P.cellsOf e)) fun old => K (.slice (some (h.length, 0)) (len + m) (len + m) false) (h ++ [.cells e (old ++ new) false])))
      | _ => False)
    | _ => False)
  | _ => False

section
variable {P : Program} {base : Nat} {w0 : World} {μ : List Pl} {h : Zaa} {w : World}

theorem Zom {t : TypeId} {cs : List Zag} (hz : Zre P t = some cs) : ∃ i v, P.info? t = some i ∧ i.zero = some v ∧ VRs μ cs v.cells.toList ∧ ∀ w, (zeroValue t).run P w = .ok v w := by
  unfold Zre at hz
  split at hz
  · rename_i i hi
    split at hz
    · rename_i v hv
      cases hz
      exact ⟨i, v, hi, hv, VRs.map_leaf _, fun w => by simp [zeroValue, typeInfo, hi, hv]⟩
    · cases hz
  · cases hz
theorem Zet {o : Option (List Zag)} {K : List Zag → Prop} (h : Zdg o K) : ∃ cs, o = some cs ∧ K cs := by
  unfold Zdg at h
  split at h
  · exact ⟨_, rfl, h⟩
  · exact h.elim

theorem Rel.newRow (r : Rel P base w0 μ h w) {t : TypeId} {cs : List Zag} {C : Array Value} {n : Nat} (hv : VRs μ cs (C.toList.take cs.length)) :
    Rel P base w0 (μ ++ [⟨w.heap.size, 0, true, C.size, P.cellsOf t⟩]) (h ++ [.cells t cs false]) ((w.drewN n).alloc (.cells C t)) := by
  have hb : Below w.heap.size w ((w.drewN n).alloc (.cells C t)) := by
    have h0 : Below w.heap.size w (w.drewN n) := ⟨rfl, rfl, rfl, Nat.le_refl _, fun _ _ => rfl⟩
    exact h0.alloc (Nat.le_refl _) _
  refine r.new hb _ _ (Nat.le_refl _) ?_
  refine ⟨C, t, (0, 0), ?_, ?_, ?_⟩
  · show ((w.drewN n).heap.push _)[w.heap.size]? = _
    have : (w.drewN n).heap = w.heap := rfl
    rw [this, Array.getElem?_push]; simp
  · simpa using hv.ext (Ext.app _ _)
  · simp only [Bool.false_eq_true, if_false]
    exact ⟨trivial, trivial, trivial, trivial, trivial, trivial, r.size⟩
theorem Rel.newRow0 (r : Rel P base w0 μ h w) {t : TypeId} {cs : List Zag} {C : Array Value} (hv : VRs μ cs (C.toList.take cs.length)) :
    Rel P base w0 (μ ++ [⟨w.heap.size, 0, true, C.size, P.cellsOf t⟩]) (h ++ [.cells t cs false]) (w.alloc (.cells C t)) := by
  exact r.newRow (t := t) (C := C) (n := 0) hv
theorem Rel.last (r : Rel P base w0 μ h w) (e : Pl) : (μ ++ [e])[h.length]? = some e := by
  rw [← r.len]; simp

theorem Yem (r : Rel P base w0 μ h w) {t : TypeId} {cs : List Zag} {v : Value} (hv : VRs μ cs v.cells.toList) {K : Zag → Zaa → Prop} (hk : Yjb h t cs K) :
    Res P base w0 μ ((do pure (.pointer (some (← newVar t v))) : Sem Value).run P w) K := by
  have hl := hv.length
  have r' := r.newRow0 (t := t) (C := v.cells) (cs := cs) (by rw [hl, List.take_length]; exact hv)
  refine ⟨.pointer (some ⟨w.heap.size, 0, none⟩), _, _, _, _, ?_, Ext.app _ _, r', ?_, hk⟩
  · simp [newVar, newRow]
  · exact .ptr (e := ⟨w.heap.size, 0, true, v.cells.size, P.cellsOf t⟩) (o := 0) (r.last _)
theorem Ydx (r : Rel P base w0 μ h w) {t : TypeId} {K : Zag → Zaa → Prop} (hk : Yes P t h K) :
    Res P base w0 μ ((Instr.alloc t true (.tuple #[])).run P w) K := by
  obtain ⟨cs, hz, hk⟩ := Zet hk
  obtain ⟨i, v, hi, hv, hvs, hr⟩ := Zom (μ := μ) hz
  have := Yem r hvs hk
  simpa [Instr.alloc, hr w] using this
theorem Yhy (r : Rel P base w0 μ h w) {t : TypeId} {a : Zag} {x : Value} (ha : VR μ a x) {K : Zag → Zaa → Prop} (hk : Yjj t h a K) :
    Res P base w0 μ ((Instr.box t x).run P w) K := by
  obtain ⟨cs, hs, hk⟩ := Zet hk
  exact Yem r (Yfk ha hs).1 hk

theorem Zvd (off : Nat) : ∀ (ys : List Value) (k : Nat) (C : Array Value), off + k + ys.length ≤ C.size →
    ((ys.zipIdx k).foldl (fun cs (p : Value × Nat) => cs.setIfInBounds (off + p.2) p.1) C).toList = C.toList.take (off + k) ++ ys ++ C.toList.drop (off + k + ys.length)
  | [], k, C, _ => by simp
  | y :: ys, k, C, hl => by
    simp only [List.length_cons] at hl
    simp only [List.zipIdx_cons, List.foldl_cons]
    rw [Zvd off ys (k + 1) _ (by simp; omega)]
    have e := list_seg_step C.toList (off + k) y ys (by simp; omega)
    simpa [Array.toList_setIfInBounds, Nat.add_assoc] using e
theorem Zsm (place : Nat → Option (Nat × Nat)) : ∀ (ps : List (Nat × Zag)) (qs : List (Nat × Value)) (cs : List Zag) (C : Array Value) (out : List Zag),
    VRs μ cs C.toList → ps.map (·.1) = qs.map (·.1) → VRs μ (ps.map (·.2)) (qs.map (·.2)) → Zwl place cs ps = some out →
    ∃ D, Instr.fill place C qs = some D ∧ VRs μ out D.toList ∧ D.size = C.size
  | [], [], cs, C, out, hc, _, _, hf => by simp [Zwl] at hf; subst hf; exact ⟨C, rfl, hc, rfl⟩
  | [], q :: qs, _, _, _, _, h1, _, _ => by simp at h1
  | p :: ps, [], _, _, _, _, h1, _, _ => by simp at h1
  | (i, v) :: ps, (j, y) :: qs, cs, C, out, hc, h1, h2, hf => by
    simp only [List.map_cons, List.cons.injEq] at h1
    obtain ⟨rfl, h1⟩ := h1
    simp only [List.map_cons] at h2
    cases h2 with
    | cons hv h2 =>
    simp only [Zwl] at hf
    split at hf
    · cases hf
    · rename_i off size hp
      split at hf
      · cases hf
      · rename_i vs hs
        split at hf
        · rename_i hb
          have hvs := (Yfk hv hs).1
          have hl := hvs.length
          have hcl := hc.length
          simp only [Array.length_toList] at hl hcl
          have hput := Zvd off y.cells.toList 0 C (by simp; omega)
          have ih := Zsm place ps qs (Zbi cs off vs) (y.cells.zipIdx.foldl (fun cs (p : Value × Nat) => cs.setIfInBounds (off + p.2) p.1) C) out (by
            rw [← Array.foldl_toList, Array.toList_zipIdx, hput]
            exact hc.put hvs off) h1 h2 hf
          obtain ⟨D, hD, hr, hds⟩ := ih
          have hsz : (y.cells.zipIdx.foldl (fun cs (p : Value × Nat) => cs.setIfInBounds (off + p.2) p.1) C).size = C.size := by
            rw [← Array.length_toList, ← Array.foldl_toList, Array.toList_zipIdx, hput]
            simp; omega
          refine ⟨D, ?_, hr, hds.trans hsz⟩
          simp only [Instr.fill, hp]
          rw [hl] at hb
          rw [if_neg (by simp; omega)]
          exact hD
        · cases hf
theorem Zxf {env : Env} {ρ : Operand → Value} (hρ : Zrd μ env ρ) (ps : Array (Nat × Operand)) :
    (parts env ps).map (·.1) = ((ps.map fun (i, x) => (i, ρ x)).toList).map (·.1) ∧ VRs μ ((parts env ps).map (·.2)) (((ps.map fun (i, x) => (i, ρ x)).toList).map (·.2)) := by
  unfold parts
  rw [Array.toList_map]
  refine ⟨by simp [Function.comp_def], ?_⟩
  simp only [List.map_map, Function.comp_def]
  have : ∀ l : List (Nat × Operand), VRs μ (l.map fun p => ev env p.2) (l.map fun p => ρ p.2) := fun l => by
    induction l with
    | nil => exact .nil
    | cons p r ih => exact .cons (hρ _) ih
  exact this _
theorem Ydt {t : TypeId} {ps : List (Nat × Zag)} {qs : Array (Nat × Value)} (h1 : ps.map (·.1) = qs.toList.map (·.1)) (h2 : VRs μ (ps.map (·.2)) (qs.toList.map (·.2))) {K : Zag → Prop} (hk : Yax P t ps K) :
    Zst P μ (Instr.build t qs) K := by
  obtain ⟨z, hz, hk⟩ := Zet hk
  obtain ⟨i, v, hi, hv, hvs, hzr⟩ := Zom (μ := μ) hz
  split at hk
  · rename_i fs hu
    replace hk := Zbg hk; obtain ⟨hall, hk⟩ := hk
    obtain ⟨cs, hf, hk⟩ := Zet hk
    obtain ⟨D, hD, hr, hds⟩ := Zsm _ ps qs.toList z v.cells cs hvs h1 h2 hf
    have hm : ∀ w : World, (fs.mapM fun f => (do pure (f.offset, ← sizeOf f.type) : Sem (Nat × Nat))).run P w = .ok (fs.map fun f => (f.offset, P.cellsOf f.type)) w := fun w => by
      rw [Array.mapM_eq_mapM_toList]
      have key : ∀ l : List Field, (l.all fun f => (P.underlying f.type).isSome) = true → (l.mapM fun f => (do pure (f.offset, ← sizeOf f.type) : Sem (Nat × Nat))).run P w = .ok (l.map fun f => (f.offset, P.cellsOf f.type)) w := by
        intro l
        induction l with
        | nil => intro _; simp
        | cons f l ih =>
          intro hl
          simp only [List.all_cons, Bool.and_eq_true] at hl
          rw [List.mapM_cons, Sem.run_bind, Sem.run_bind, Zeb hl.1]
          simp only [Result.andThen_ok, Sem.run_pure, Sem.run_bind, ih hl.2, List.map_cons]
      rw [Sem.run_map, key _ hall]
      simp only [Result.andThen_ok]
      congr 1
      apply Array.ext'; simp
    refine .mk (x := .agg D) (fun w => ?_) (.agg hr) hk
    simp only [Instr.build, Sem.run_bind, hzr w, Result.andThen_ok, run_underlying hu, hm w]
    have : (fun x => (fs.map fun (f : Field) => (f.offset, P.cellsOf f.type))[x]?) = fun (i : Nat) => (fs[i]?).map fun (f : Field) => (f.offset, P.cellsOf f.type) := by funext x; simp
    simp [this, hD]
  · rename_i n e hu
    replace hk := Zbg hk; obtain ⟨hs, hk⟩ := hk
    obtain ⟨cs, hf, hk⟩ := Zet hk
    obtain ⟨D, hD, hr, hds⟩ := Zsm _ ps qs.toList z v.cells cs hvs h1 h2 hf
    refine .mk (x := .agg D) (fun w => ?_) (.agg hr) hk
    simp [Instr.build, hzr w, run_underlying hu, Zeb hs, hD]
  · exact hk.elim

theorem Zhi {α : Type} (z : List α) (hz : 0 < z.length) : ∀ (n j : Nat), j < n * z.length → (List.replicate n z).flatten[j]? = z[j % z.length]?
  | 0, j, h => by simp at h
  | n + 1, j, h => by
    rw [List.replicate_succ, List.flatten_cons]
    by_cases hj : j < z.length
    · rw [List.getElem?_append_left hj, Nat.mod_eq_of_lt hj]
    · rw [List.getElem?_append_right (by omega), Zhi z hz n (j - z.length) (by rw [Nat.succ_mul] at h; omega)]
      congr 1
      rw [Nat.mod_eq_sub_mod (show j ≥ z.length by omega)]
theorem Zpi (n : Nat) (C : Array Value) (hz : 0 < C.size) : (((Array.range (n * C.size)).map fun i => C[i % C.size]!)).toList = (List.replicate n C.toList).flatten := by
  apply List.ext_getElem?
  intro j
  by_cases hj : j < n * C.size
  · rw [Zhi C.toList (by simpa using hz) n j (by simpa using hj)]
    have hm : j % C.size < C.size := Nat.mod_lt _ hz
    simp [hj, getElem!_pos C (j % C.size) hm, hm]
  · rw [List.getElem?_eq_none (by simp; omega), List.getElem?_eq_none (by simp; omega)]
theorem VRs.reps {cs : List Zag} {xs : List Value} (h : VRs μ cs xs) : ∀ n, VRs μ (Sim.reps n cs) (List.replicate n xs).flatten
  | 0 => .nil
  | n + 1 => by
    have := h.append (VRs.reps h n)
    simpa [Sim.reps, List.replicate_succ] using this

theorem Ztc (r : Rel P base w0 μ h w) {t : TypeId} {n : Nat} {ps : List (Nat × Zag)} {qs : Array (Nat × Value)} (h1 : ps.map (·.1) = qs.toList.map (·.1)) (h2 : VRs μ (ps.map (·.2)) (qs.toList.map (·.2)))
    {K : Zag → Zaa → Prop} (hk : Zku P t n ps h K) : Res P base w0 μ ((Instr.buildSlice t n qs).run P w) K := by
  unfold Zku at hk
  split at hk
  · rename_i e hu
    obtain ⟨z, hz, hk⟩ := Zet hk
    replace hk := Zbg hk; obtain ⟨⟨hs, hzl, hpos, hsz⟩, hk⟩ := hk
    obtain ⟨i, v, hi, hv, hvs, hzr⟩ := Zom (μ := μ) hz
    obtain ⟨cs, hf, hk⟩ := Zet hk
    have hl := hvs.length
    simp only [Array.length_toList] at hl
    have hC : VRs μ (Sim.reps n z) (((Array.range (n * v.cells.size)).map fun i => v.cells[i % v.cells.size]!)).toList := by
      rw [Zpi n v.cells (by omega)]; exact hvs.reps n
    obtain ⟨D, hD, hr, hds⟩ := Zsm _ ps qs.toList _ _ cs hC h1 h2 hf
    have hDl := hr.length
    have hDs : D.size = n * P.cellsOf e := by
      rw [hds]; simp; rw [← hzl, hl]
    have hrel := r.newRow0 (t := e) (C := D) (cs := cs) (by rw [hDl, List.take_length]; exact hr)
    refine ⟨.slice (some ⟨w.heap.size, 0, none⟩) n n, _, _, _, _, ?_, Ext.app _ _, hrel, ?_, hk⟩
    · have hc : P.cellsOf e = v.cells.size := by omega
      have h24 : ¬ (16777216 < n * v.cells.size) := by rw [← hc]; omega
      rw [hc] at hD
      by_cases h0 : n = 0
      · subst h0
        rw [Nat.zero_mul] at hD
        have e0 : ∀ f : Nat → Value, (Array.range 0).map f = #[] := fun f => by apply Array.ext'; simp
        rw [e0] at hD
        simp only [Instr.buildSlice, Sem.run_bind, run_underlying hu, Result.andThen_ok, Zeb hs, hc, Nat.zero_mul]
        simp [newRow, e0, hD]
      · have h3 : ¬ (n * v.cells.size = 0) := by
          intro h; rcases Nat.mul_eq_zero.1 h with h | h <;> omega
        simp [Instr.buildSlice, run_underlying hu, Zeb hs, hc, h24, h3, hzr w, newRow, hD]
    · refine .slice (e := ⟨w.heap.size, 0, true, D.size, P.cellsOf e⟩) (o := 0) (r.last _) (Nat.le_refl _) (Nat.le_refl _) (fun _ => rfl) (fun _ _ => by rw [hDs]; exact Nat.le_refl _)
  · exact hk.elim

theorem Zsv (r : Rel P base w0 μ h w) {sa : Option (Nat × Nat)} {len cap : Nat} {ex : Bool} {x : Value} (hx : VR μ (.slice sa len cap ex) x) {n : Nat} {cs : List Zag} (hc : rowOf h sa n = some cs) :
    cs.length = n ∧ ∃ am capm, x = .slice am len capm ∧ (n = 0 ∨ ∃ a, am = some a ∧ ∃ ys : List Value, VRs μ cs ys ∧ ∀ (j : Nat) (y : Value), ys[j]? = some y → w.cell? (a.add j) = some y) := by
  unfold rowOf at hc
  split at hc
  · split at hc
    · rename_i h0
      cases hc
      subst h0
      refine ⟨rfl, ?_⟩
      cases hx <;> exact ⟨_, _, rfl, .inl rfl⟩
    · cases hc
  · rename_i p
    obtain ⟨i, o⟩ := p
    cases hx with
    | slice h1 h2 h3 h4 h5 =>
      split at hc
      · rename_i h0; cases hc; subst h0; exact ⟨rfl, _, _, rfl, .inl rfl⟩
      · obtain ⟨hl, a, ha, ys, hys, hcell⟩ := r.row (.ptr (o := o) h1) hc
        cases ha
        exact ⟨hl, _, _, rfl, .inr ⟨_, rfl, ys, hys, hcell⟩⟩

theorem Zky (t ty e : TypeId) (hu : P.underlying t = some (.slice e)) (hs : (P.underlying e).isSome = true) (am : Option Addr) (len cap : Nat) (hle : len ≤ cap) (bm : Option Addr) (c : Nat) (w : World) :
    (Builtin.append_ #[t, t] ty #[.slice am len cap, .slice bm 0 c]).run P w = .ok (.slice am len cap) w := by
  obtain ⟨d, hd⟩ := Option.isSome_iff_exists.1 hs
  obtain ⟨i, hi⟩ := info_of_underlying hd
  cases am <;> cases bm <;> simp [Builtin.append_, run_underlying hu, sizeOf, typeInfo, hi, Builtin.lenOf, hle, Builtin.firstCells, loadCells, loadCellsFrom, storeCells]

theorem Zlf (t ty e : TypeId) (i : TypeInfo) (ht : P.underlying t = some (.slice e)) (hi : P.info? e = some i)
    (g o sLen sCap : Nat) (cur : Array Value) (hg : w.heap[g]? = some (.cells cur e (0, 0)))
    (a : Addr) (m c : Nat) (news : List Value) (hl : news.length = m * i.size) (hnews : ∀ (j : Nat) (u : Value), news[j]? = some u → w.cell? (a.add j) = some u) (h1 : ∀ u ∈ news, u.oneCell' = true)
    (hroom : sLen + m ≤ sCap) (hfit : o + sLen * i.size + news.length ≤ cur.size) :
    (Builtin.append_ #[t, t] ty #[.slice (some ⟨g, o, none⟩) sLen sCap, .slice (some a) m c]).run P w =
      .ok (.slice (some ⟨g, o, none⟩) (sLen + m) sCap) (w.setRow g (cur.toList.take (o + sLen * i.size) ++ news ++ cur.toList.drop (o + sLen * i.size + news.length)).toArray) := by
  have hf := run_firstCells_some (P := P) w i.size m a m c news hl hnews
  have hst := run_storeCells_at P g (o + sLen * i.size) e news 0 cur w hg (by simpa using hfit) h1
  simp only [Nat.add_zero] at hst
  have hadd : (⟨g, o, none⟩ : Addr).add (sLen * i.size) = ⟨g, o + sLen * i.size, none⟩ := by unfold Addr.add; split <;> simp_all
  simp [Builtin.append_, run_underlying ht, sizeOf, typeInfo, hi, Builtin.lenOf, hroom, hf, hadd, hst]
end
end Go.Sim

set_option linter.unusedSimpArgs false
namespace Go.Sim
open Go Go.RowKit
section
variable {P : Program} {base : Nat} {w0 : World} {μ : List Pl} {h : Zaa} {w : World}

theorem Zko {i : Nat} {e : TypeId} {K : List Zag → Prop} (hk : Zlj h i e K) : ∃ cs, h[i]? = some (.cells e cs false) ∧ K cs := by
  unfold Zlj at hk
  split at hk
  · rename_i e' cs hi
    obtain ⟨rfl, hk⟩ := hk
    exact ⟨cs, hi, hk⟩
  · exact hk.elim

theorem Rel.ownBlock (r : Rel P base w0 μ h w) {i : Nat} {e : TypeId} {cs : List Zag} (hi : h[i]? = some (.cells e cs false)) {p : Pl} (hp : μ[i]? = some p) :
    ∃ C, w.heap[p.b]? = some (.cells C e (0, 0)) ∧ VRs μ cs (C.toList.take cs.length) ∧ cs.length ≤ C.size ∧ p.own = true ∧ p.o = 0 ∧ C.size = p.n ∧ P.cellsOf e = p.sz ∧ base ≤ p.b := by
  obtain ⟨C, el, fr, hg, hcs, hown⟩ := r.obj i _ hi p hp
  simp only [Bool.false_eq_true, if_false] at hown
  obtain ⟨ho1, ho0, rfl, rfl, hn, hcz, hbase⟩ := hown
  rw [ho0, List.drop_zero] at hcs
  have hl := hcs.length
  refine ⟨C, hg, hcs, ?_, ho1, ho0, hn, hcz, hbase⟩
  simp at hl; omega

theorem Rel.regrow (r : Rel P base w0 μ h w) {w' : World} {i : Nat} {e : TypeId} {cs cs' : List Zag} (hi : h[i]? = some (.cells e cs false)) {p : Pl} (hp : μ[i]? = some p)
    (hb : Below base w w') (hk : ∀ k, k ≠ p.b → k < w.heap.size → w'.heap[k]? = w.heap[k]?)
    (hn : Zje P base w0 μ p w' (.cells e cs' false)) : Rel P base w0 (μ ++ [p]) (h.set i .dead ++ [.cells e cs' false]) w' := by
  have r1 : Rel P base w0 μ (h.set i .dead) w' := r.change hi rfl hp hb hk trivial (.inr rfl)
  have hlen : (h.set i Zck.dead).length = h.length := by simp
  refine ⟨r1.below, by simp [r.len], ?_, ?_, r1.size⟩
  · intro j ob hj e' he'
    by_cases hlt : j < h.length
    · rw [List.getElem?_append_left (by rw [hlen]; exact hlt)] at hj
      rw [List.getElem?_append_left (by rw [r.len]; exact hlt)] at he'
      exact (r1.obj j ob hj e' he').keep (Ext.app _ _) fun x hx => hx
    · rw [List.getElem?_append_right (by rw [hlen]; omega)] at hj
      rw [List.getElem?_append_right (by rw [r.len]; omega)] at he'
      have hz : j - h.length = 0 := by have := (List.getElem?_eq_some_iff.1 hj).1; simp at this; omega
      rw [hlen, hz] at hj
      rw [r.len, hz] at he'
      simp at hj he'; subst hj; subst he'
      exact hn.keep (Ext.app _ _) fun x hx => hx
  · have key : ∀ (a b : Nat) (oa ob : Zck) (ea eb : Pl), a < h.length → h.length ≤ b → (h.set i .dead ++ [.cells e cs' false])[a]? = some oa → (h.set i .dead ++ [.cells e cs' false])[b]? = some ob → oa.own = true → (μ ++ [p])[a]? = some ea → (μ ++ [p])[b]? = some eb → ea.b ≠ eb.b := by
      intro a b oa ob ea eb hal hbl ha hb2 hoa hea heb
      rw [List.getElem?_append_left (by rw [hlen]; exact hal)] at ha
      rw [List.getElem?_append_left (by rw [r.len]; exact hal)] at hea
      rw [List.getElem?_append_right (by rw [r.len]; omega)] at heb
      rw [List.getElem?_append_right (by rw [hlen]; omega)] at hb2
      have hz : b - h.length = 0 := by have := (List.getElem?_eq_some_iff.1 hb2).1; simp at this; omega
      rw [r.len, hz] at heb; simp at heb; subst heb
      have hia : i ≠ a := fun e => by
        subst e
        rw [List.getElem?_set_self hal] at ha; cases ha; simp [Zck.own] at hoa
      rw [List.getElem?_set_ne hia] at ha
      exact r.sep a i oa _ ea p (fun e => hia e.symm) ha hi hoa rfl hea hp
    intro a b oa ob ea eb hab ha hb2 hoa hob hea heb
    by_cases hal : a < h.length <;> by_cases hbl : b < h.length
    · rw [List.getElem?_append_left (by rw [hlen]; exact hal)] at ha
      rw [List.getElem?_append_left (by rw [hlen]; exact hbl)] at hb2
      rw [List.getElem?_append_left (by rw [r.len]; exact hal)] at hea
      rw [List.getElem?_append_left (by rw [r.len]; exact hbl)] at heb
      exact r1.sep a b oa ob ea eb hab ha hb2 hoa hob hea heb
    · exact key a b oa ob ea eb hal (by omega) ha hb2 hoa hea heb
    · exact (key b a ob oa eb ea hbl (by omega) hb2 ha hob heb hea).symm
    · have x := (List.getElem?_eq_some_iff.1 ha).1
      have y := (List.getElem?_eq_some_iff.1 hb2).1
      simp at x y; omega

theorem Ydm (cs : List Zag) (o : Nat) (vs : List Zag) (C : List Value) (ys : List Value) (hC : VRs μ cs (C.take cs.length)) (hv : VRs μ vs ys) (hle : o + vs.length ≤ cs.length) (hcl : cs.length ≤ C.length) :
    VRs μ (Zbi cs o vs) ((C.take o ++ ys ++ C.drop (o + ys.length)).take (Zbi cs o vs).length) := by
  have hl := hv.length
  have hpl : (Zbi cs o vs).length = cs.length := by simp [Zbi]; omega
  have := hC.put hv o
  rw [hpl]
  have e2 : (C.take o ++ ys ++ C.drop (o + ys.length)).take cs.length = ((C.take cs.length).take o ++ ys ++ (C.take cs.length).drop (o + ys.length)) := by
    apply List.ext_getElem?
    intro j
    simp only [List.getElem?_take, List.getElem?_append, List.length_append, List.length_take, List.getElem?_drop]
    by_cases h1 : j < cs.length <;> by_cases h2 : j < o <;> simp [h1, h2] <;> (try omega) <;> (repeat' split) <;> (try omega) <;> (try rfl) <;> (try (congr 1; omega))
  rw [e2]; exact this

theorem Zyi (cs : List Zag) (o : Nat) : Zbi cs o [] = cs := by simp [Zbi]
theorem Ydj {h : Zaa} {i : Nat} {o : Zck} (hi : h[i]? = some o) : h.set i o = h := by
  apply List.ext_getElem?
  intro j
  by_cases hij : i = j
  · subst hij; rw [List.getElem?_set_self (List.getElem?_eq_some_iff.1 hi).1, hi]
  · rw [List.getElem?_set_ne hij]

theorem Rel.grown (r : Rel P base w0 μ h w) {e : TypeId} {z : Value} {cs : List Zag} {xs : List Value} (hv : VRs μ cs xs) {need cap : Nat} (hl : xs.length = need * P.cellsOf e) (hcap : need ≤ cap) (hzs : z.cells.size = P.cellsOf e) :
    Rel P base w0 (μ ++ [⟨w.heap.size, 0, true, cap * P.cellsOf e, P.cellsOf e⟩]) (h ++ [.cells e cs false]) (w.drew.alloc (.cells (xs.toArray ++ Builtin.zeroCells z.cells (cap - need)) e)) := by
  have hsz : (xs.toArray ++ Builtin.zeroCells z.cells (cap - need)).size = cap * P.cellsOf e := by
    rw [Array.size_append, size_zeroCells, List.size_toArray, hl, hzs, ← Nat.add_mul]; congr 1; omega
  have := r.newRow (t := e) (cs := cs) (C := xs.toArray ++ Builtin.zeroCells z.cells (cap - need)) (n := 1) (by
    have hvl := hv.length
    rw [Array.toList_append, hvl, List.take_left]; exact hv)
  rw [hsz] at this
  exact this

structure Zmb (P : Program) (t e : TypeId) (i : TypeInfo) (z : Value) (need : Nat) : Prop where
  hu : P.underlying t = some (.slice e)
  hse : (P.underlying e).isSome = true
  hi : P.info? e = some i
  hiz : i.zero = some z
  hzs : z.cells.size = P.cellsOf e
  hsize : i.size = P.cellsOf e
  hpos : 0 < P.cellsOf e
  h63 : ((need : Nat) : Int) ≤ 9223372036854775807
  hby : need * i.bytes ≤ 140737488355328

theorem Zvr (r : Rel P base w0 μ h w) {t ty e : TypeId} {i : TypeInfo} {z : Value} {len : Nat} (F : Zmb P t e i z len) {j o cap capm : Nat} {ex : Bool} {p : Pl}
    (h1 : μ[j]? = some p) (h2 : len ≤ cap) (h3 : cap ≤ capm) (h4 : ex = true → capm = cap) (h5 : p.own = true → o = 0 → capm * p.sz ≤ p.n) (bm : Option Addr) (bc : Nat) {K : Zag → Zaa → Prop}
    (hk : (o = 0 ∧ Zlj h j e fun cs => cs.length = len * P.cellsOf e ∧ K (.slice (some (h.length, 0)) len len false) (h.set j .dead ++ [.cells e (cs ++ []) false])) ∨ K (.slice (some (j, o)) len cap ex) h) :
    Res P base w0 μ ((Builtin.append_ #[t, t] ty #[.slice (some ⟨p.b, p.o + o, none⟩) len capm, .slice bm 0 bc]).run P w) K := by
  have hrun := Zky (P := P) t ty e F.hu F.hse (some ⟨p.b, p.o + o, none⟩) len capm (by omega) bm bc w
  rcases hk with ⟨ho, hk⟩ | hk
  · subst ho
    obtain ⟨cs, hj, hcl, hk⟩ := Zko hk
    obtain ⟨C, hg, hcs, hcC, ho1, ho0, hn, hcz, hbase⟩ := r.ownBlock hj h1
    have hrel := r.regrow (cs' := cs ++ []) hj h1 (w' := w) (Below.refl _ _) (fun _ _ _ => rfl) (by
      refine ⟨C, e, (0, 0), hg, ?_, ?_⟩
      · rw [ho0]; simpa using hcs
      · simp only [Bool.false_eq_true, if_false]; exact ⟨ho1, ho0, trivial, trivial, hn, hcz, hbase⟩)
    refine ⟨_, w, _, _, _, hrun, Ext.app _ _, hrel, ?_, hk⟩
    refine .slice (e := p) ?_ (Nat.le_refl _) (by omega) (by simp) (fun a b => h5 a b)
    rw [List.getElem?_append_right (by rw [r.len]; omega)]; simp [r.len]
  · exact ⟨_, w, μ, _, h, hrun, Ext.refl _, r, .slice h1 h2 h3 h4 h5, hk⟩

theorem append_nil (r : Rel P base w0 μ h w) {t ty e : TypeId} {i : TypeInfo} {z : Value} {m : Nat} (F : Zmb P t e i z m) (hm : m ≠ 0) (am : Option Addr) {a : Addr} {bc : Nat} {new : List Zag} {ys : List Value}
    (hys : VRs μ new ys) (hyl : ys.length = m * P.cellsOf e) (hsrc : ∀ (q : Nat) (y : Value), ys[q]? = some y → w.cell? (a.add q) = some y) {K : Zag → Zaa → Prop}
    (hk : K (.slice (some (h.length, 0)) m m false) (h ++ [.cells e new false])) :
    Res P base w0 μ ((Builtin.append_ #[t, t] ty #[.slice am 0 0, .slice (some a) m bc]).run P w) K := by
  have hyl' : ys.length = m * i.size := by rw [hyl, F.hsize]
  have hrel := r.grown (z := z) hys (need := m) (cap := grownCap w m 0 e) hyl (grownCap_ge w m 0 e) F.hzs
  have hvr : VR (μ ++ [⟨w.heap.size, 0, true, grownCap w m 0 e * P.cellsOf e, P.cellsOf e⟩]) (.slice (some (h.length, 0)) m m false) (.slice (some ⟨w.heap.size, 0, none⟩) m (grownCap w m 0 e)) :=
    .slice (e := ⟨w.heap.size, 0, true, grownCap w m 0 e * P.cellsOf e, P.cellsOf e⟩) (o := 0) (r.last _) (Nat.le_refl _) (grownCap_ge w m 0 e) (by simp) (fun _ _ => Nat.le_refl _)
  refine ⟨_, _, _, _, _, ?_, Ext.app _ _, hrel, hvr, hk⟩
  have hby := F.hby
  have h63 := F.h63
  cases am with
  | none => exact run_append_nil w t ty e i z F.hu F.hi F.hiz a m bc ys hyl' hsrc (by omega) h63 (by omega)
  | some b =>
    have := run_append_grow (P := P) w t ty e i z F.hu F.hi F.hiz b 0 0 [] (by simp) (by simp) a m bc ys hyl' hsrc (by omega) (by simpa using h63) (growslice_fits (by omega) (by simpa using hby))
    simpa using this

theorem Zla {μ' : List Pl} {h' : Zaa} (r' : Rel P base w0 μ' h' w) (hx' : Ext μ μ') {t ty e : TypeId} {i : TypeInfo} {z : Value} {len m : Nat} (F : Zmb P t e i z (len + m)) {b a : Addr} {capm bc : Nat} {old new : List Zag} {olds ys : List Value}
    (hol : VRs μ' old olds) (holl : olds.length = len * P.cellsOf e) (hold : ∀ (q : Nat) (y : Value), olds[q]? = some y → w.cell? (b.add q) = some y)
    (hys : VRs μ new ys) (hyl : ys.length = m * P.cellsOf e) (hsrc : ∀ (q : Nat) (y : Value), ys[q]? = some y → w.cell? (a.add q) = some y) (hlt : capm < len + m) {K : Zag → Zaa → Prop}
    (hk : K (.slice (some (h'.length, 0)) (len + m) (len + m) false) (h' ++ [.cells e (old ++ new) false])) :
    Res P base w0 μ ((Builtin.append_ #[t, t] ty #[.slice (some b) len capm, .slice (some a) m bc]).run P w) K := by
  have hr := run_append_grow (P := P) w t ty e i z F.hu F.hi F.hiz b len capm olds (by rw [holl, F.hsize]) hold a m bc ys (by rw [hyl, F.hsize]) hsrc hlt F.h63 (growslice_fits (by omega) F.hby)
  have hrel := r'.grown (z := z) (hol.append (hys.ext hx')) (need := len + m) (cap := grownCap w (len + m) capm e) (by rw [List.length_append, holl, hyl, Nat.add_mul]) (grownCap_ge w _ _ e) F.hzs
  rw [show olds.toArray ++ ys.toArray = (olds ++ ys).toArray by simp] at hr
  exact ⟨_, _, _, _, _, hr, hx'.trans (Ext.app _ _), hrel, .slice (e := ⟨w.heap.size, 0, true, grownCap w (len + m) capm e * P.cellsOf e, P.cellsOf e⟩) (o := 0) (r'.last _) (Nat.le_refl _) (grownCap_ge w _ _ e) (by simp) (fun _ _ => Nat.le_refl _), hk⟩

theorem Zyb (r : Rel P base w0 μ h w) {t ty e : TypeId} {i : TypeInfo} {z : Value} {len m : Nat} (F : Zmb P t e i z (len + m)) {j capm : Nat} {p : Pl} (h1 : μ[j]? = some p) (h5 : p.own = true → capm * p.sz ≤ p.n)
    {a : Addr} {bc : Nat} {new : List Zag} {ys : List Value} (hys : VRs μ new ys) (hone : ∀ u ∈ ys, u.oneCell' = true) (hyl : ys.length = m * P.cellsOf e) (hsrc : ∀ (q : Nat) (y : Value), ys[q]? = some y → w.cell? (a.add q) = some y) {K : Zag → Zaa → Prop}
    {cs : List Zag} (hj : h[j]? = some (.cells e cs false)) (hcl : cs.length = len * P.cellsOf e)
    (hk : K (.slice (some (h.length, 0)) (len + m) (len + m) false) (h.set j .dead ++ [.cells e (cs ++ new) false])) :
    Res P base w0 μ ((Builtin.append_ #[t, t] ty #[.slice (some ⟨p.b, p.o + 0, none⟩) len capm, .slice (some a) m bc]).run P w) K := by
  obtain ⟨C, hg, hcs, hcC, ho1, ho0, hn, hcz, hbase⟩ := r.ownBlock hj h1
  have hyl' : ys.length = m * i.size := by rw [hyl, F.hsize]
  have e3 : p.o + 0 = 0 := by omega
  by_cases hroom : len + m ≤ capm
  · have hcap := h5 ho1
    have hfit2 : 0 + len * i.size + ys.length ≤ C.size := by
      rw [hyl', Nat.zero_add, ← Nat.add_mul, hn, F.hsize, hcz]; exact Nat.le_trans (Nat.mul_le_mul_right _ hroom) hcap
    have hrun := Zlf (P := P) (w := w) t ty e i F.hu F.hi p.b 0 len capm C hg a m bc ys hyl' hsrc hone hroom hfit2
    have e1 : cs.length = 0 + len * i.size := by rw [hcl, F.hsize]; omega
    have hrel := r.regrow (cs' := cs ++ new) hj h1 (w' := w.setRow p.b (C.toList.take (0 + len * i.size) ++ ys ++ C.toList.drop (0 + len * i.size + ys.length)).toArray)
      ⟨rfl, rfl, rfl, by simp [World.setRow], fun k hk => setRow_other w p.b k _ (by omega)⟩ (fun k hk _ => setRow_other w p.b k _ hk) (by
      refine ⟨_, e, (0, 0), setRow_heap w p.b C _ e _ hg, ?_, ?_⟩
      · rw [ho0, List.drop_zero]
        have e2 : (cs ++ new).length = (C.toList.take (0 + len * i.size) ++ ys).length := by
          rw [List.length_append, List.length_append, List.length_take, hys.length, e1]; simp at hcC ⊢; omega
        rw [e2]
        show VRs μ _ (List.take _ (C.toList.take (0 + len * i.size) ++ ys ++ C.toList.drop (0 + len * i.size + ys.length)))
        rw [List.take_left, ← e1]
        exact hcs.append hys
      · simp only [Bool.false_eq_true, if_false]
        refine ⟨ho1, ho0, trivial, trivial, ?_, hcz, hbase⟩
        rw [← hn]
        simp only [List.size_toArray, List.length_append, List.length_take, List.length_drop, Array.length_toList]
        omega)
    rw [e3]
    refine ⟨_, _, _, _, _, hrun, Ext.app _ _, hrel, ?_, hk⟩
    have := VR.slice (μ := μ ++ [p]) (i := h.length) (o := 0) (n := len + m) (c := len + m) (cap := capm) (ex := false) (e := p) (by
      rw [List.getElem?_append_right (by rw [r.len]; omega)]; simp [r.len]) (Nat.le_refl _) hroom (by simp) (fun a _ => h5 a)
    rwa [e3] at this
  · have r1 : Rel P base w0 μ (h.set j .dead) w := r.change hj rfl h1 (Below.refl _ _) (fun _ _ _ => rfl) trivial (.inr rfl)
    refine Zla r1 (Ext.refl _) F hcs (by rw [← hcs.length, hcl]) ?_ hys hyl hsrc (by omega) (by simpa using hk)
    intro q y hy
    rw [Zuy, ho0]
    rw [List.getElem?_take] at hy
    split at hy
    · simp only [World.cell?, hg, Option.isSome_none, Bool.false_eq_true, if_false]
      rw [Array.getElem?_toList] at hy
      rw [← hy]; congr 1; omega
    · cases hy

theorem Zvf (r : Rel P base w0 μ h w) {t ty e : TypeId} {i : TypeInfo} {z : Value} {len m : Nat} (F : Zmb P t e i z (len + m)) {j o cap capm : Nat} {ex : Bool} {p : Pl} (h1 : μ[j]? = some p) (h3 : cap ≤ capm) (h4 : ex = true → capm = cap) (h5 : p.own = true → o = 0 → capm * p.sz ≤ p.n)
    {a : Addr} {bc : Nat} {new : List Zag} {ys : List Value} (hys : VRs μ new ys) (hone : ∀ u ∈ ys, u.oneCell' = true) (hyl : ys.length = m * P.cellsOf e) (hsrc : ∀ (q : Nat) (y : Value), ys[q]? = some y → w.cell? (a.add q) = some y) {K : Zag → Zaa → Prop}
    (hle : len + m ≤ cap) {cs : List Zag} (hj : h[j]? = some (.cells e cs false)) (hcl : o + len * P.cellsOf e + new.length ≤ cs.length)
    (hk : K (.slice (some (j, o)) (len + m) cap ex) (h.set j (.cells e (Zbi cs (o + len * P.cellsOf e) new) false))) :
    Res P base w0 μ ((Builtin.append_ #[t, t] ty #[.slice (some ⟨p.b, p.o + o, none⟩) len capm, .slice (some a) m bc]).run P w) K := by
  obtain ⟨C, hg, hcs, hcC, ho1, ho0, hn, hcz, hbase⟩ := r.ownBlock hj h1
  have hnyl := hys.length
  have hsize := F.hsize
  have hfit2 : o + len * i.size + ys.length ≤ C.size := by rw [← hnyl, hsize]; omega
  have hrun := Zlf (P := P) (w := w) t ty e i F.hu F.hi p.b o len capm C hg a m bc ys (by rw [hyl, hsize]) hsrc hone (by omega) hfit2
  have e3 : p.o + o = o := by omega
  rw [e3]
  refine ⟨_, _, μ, _, _, hrun, Ext.refl _, ?_, ?_, hk⟩
  · refine r.change (o := .cells e cs false) hj rfl h1 ⟨rfl, rfl, rfl, by simp [World.setRow], fun k hk => setRow_other w p.b k _ (by omega)⟩ (fun k hk _ => setRow_other w p.b k _ hk) ?_ (.inl rfl)
    refine ⟨_, e, (0, 0), setRow_heap w p.b C _ e _ hg, ?_, ?_⟩
    · rw [ho0, List.drop_zero, ← hsize]
      exact Ydm cs _ new C.toList ys hcs hys (by rw [hsize]; omega) (by simpa using hcC)
    · simp only [Bool.false_eq_true, if_false]
      refine ⟨ho1, ho0, trivial, trivial, ?_, hcz, hbase⟩
      rw [← hn]
      simp only [List.size_toArray, List.length_append, List.length_take, List.length_drop, Array.length_toList]
      omega
  · have := VR.slice (o := o) (n := len + m) (c := cap) (cap := capm) (ex := ex) h1 hle h3 h4 h5
    rwa [e3] at this

theorem Ycd (r : Rel P base w0 μ h w) {t ty : TypeId} {s x : Zag} {sv xv : Value} (hs : VR μ s sv) (hx : VR μ x xv) {K : Zag → Zaa → Prop} (hk : Zcy P t h s x K) :
    Res P base w0 μ ((Builtin.append_ #[t, t] ty #[sv, xv]).run P w) K := by
  unfold Zcy at hk
  split at hk
  case h_2 => exact hk.elim
  rename_i e hu
  split at hk
  case h_2 => exact hk.elim
  rename_i sa len cap ex
  split at hk
  case h_2 => exact hk.elim
  rename_i xa m xc xe
  obtain ⟨new, hnew, ⟨hok, hfit, hleaf⟩, hk2⟩ := Zet hk
  obtain ⟨hse, hz, hpos⟩ := of_decide_eq_true hok
  clear hk
  cases hzc : Zre P e with
  | none => simp [hzc] at hz
  | some zc =>
  obtain ⟨i, z, hi, hiz, hzv, _⟩ := Zom (μ := μ) hzc
  obtain ⟨hnl, bm, bc, rfl, hsrc⟩ := Zsv r hx hnew
  have hzs : z.cells.size = P.cellsOf e := by
    have := hzv.length; simp [hzc] at hz; simp at this; omega
  have hF : Zmb P t e i z (len + m) := by
    have a1 : (len + m) * 1 ≤ (len + m) * (P.bytesOf e + 1) := Nat.mul_le_mul_left _ (by omega)
    have hbytes : i.bytes = P.bytesOf e := by simp [Program.bytesOf, hi]
    have a2 : (len + m) * i.bytes ≤ (len + m) * (P.bytesOf e + 1) := Nat.mul_le_mul_left _ (by omega)
    exact ⟨hu, hse, hi, hiz, hzs, by simp [Program.cellsOf, hi], hpos, by omega, by omega⟩
  by_cases hm : m = 0
  · subst hm
    have hnew0 : new = [] := List.eq_nil_of_length_eq_zero (by simpa using hnl)
    subst hnew0
    cases hs with
    | slice0 => exact ⟨_, w, μ, _, h, Zky t ty e hu hse _ _ _ (Nat.le_refl _) _ _ w, Ext.refl _, r, .slice0, hk2.1 rfl⟩
    | sliceE0 => exact ⟨_, w, μ, _, h, Zky t ty e hu hse _ _ _ (Nat.le_refl _) _ _ w, Ext.refl _, r, .sliceE0, hk2.1 rfl⟩
    | sliceE1 => exact ⟨_, w, μ, _, h, Zky t ty e hu hse _ _ _ (Nat.zero_le _) _ _ w, Ext.refl _, r, .sliceE1, hk2.1 rfl⟩
    | slice h1 h2 h3 h4 h5 =>
      refine Zvr r hF h1 h2 h3 h4 h5 bm bc ?_
      rcases hk2 with ⟨ho, hk⟩ | ⟨_, hk⟩ | ⟨⟨hex, hlt⟩, _⟩
      · exact .inl ⟨ho, by simpa using hk⟩
      · obtain ⟨cs, hj, hcl, hk⟩ := Zko hk
        rw [Zyi, Ydj hj] at hk
        exact .inr hk
      · omega
  · obtain ⟨a, rfl, ys, hys, hsrc⟩ := hsrc.resolve_left (by
      intro h0
      rcases Nat.mul_eq_zero.1 h0 with h0 | h0 <;> omega)
    have hyl : ys.length = m * P.cellsOf e := by rw [← hys.length, hnl]
    have hone := hys.leaf1 hleaf
    cases sa with
    | none =>
      obtain ⟨hc0, hk⟩ := hk2.2 hm
      subst hc0
      have hlen0 : len = 0 := by cases hs <;> rfl
      subst hlen0
      rw [Nat.zero_add] at hF
      cases hs with
      | slice0 => exact append_nil r hF hm none hys hyl hsrc hk
      | sliceE0 => exact append_nil r hF hm _ hys hyl hsrc hk
    | some q =>
      obtain ⟨j, o⟩ := q
      cases hs with
      | slice h1 h2 h3 h4 h5 =>
      rcases hk2 with ⟨ho, hk⟩ | ⟨hle, hk⟩ | ⟨⟨hex, hlt⟩, hk⟩
      · subst ho
        obtain ⟨cs, hj, hcl, hk⟩ := Zko hk
        exact Zyb r hF h1 (fun a => h5 a rfl) hys hone hyl hsrc hj hcl hk
      · obtain ⟨cs, hj, hcl, hk⟩ := Zko hk
        exact Zvf r hF h1 h3 h4 h5 hys hone hyl hsrc hle hj hcl hk
      · obtain ⟨old, hold, hk⟩ := Zet hk
        obtain ⟨hol, am, capm', heq, hrow⟩ := Zsv r (.slice (o := o) h1 h2 h3 h4 h5) hold
        cases heq
        have := h4 hex
        rcases hrow with h0 | ⟨b, hb, olds, hvo, hcell⟩
        · have ho' : old = [] := List.eq_nil_of_length_eq_zero (by omega)
          subst ho'
          exact Zla (olds := []) r (Ext.refl _) hF .nil (by simp [h0]) (by simp) hys hyl hsrc (by omega) hk
        · cases hb
          exact Zla r (Ext.refl _) hF hvo (by rw [← hvo.length, hol]) hcell hys hyl hsrc (by omega) hk
end
end Go.Sim

set_option linter.unusedSimpArgs false
namespace Go.Sim
open Go Go.RowKit

def Zly : List Zag → (List Nat → Prop) → Prop
  | [], K => K []
  | .int k n :: r, K => chk (k = .u8) ((0 ≤ n ∧ n < 256) ∧ Zly r fun s => K (n.toNat :: s))
  | _ :: _, _ => False
def Ygb (P : Program) (t : TypeId) : Bool := match P.underlying t with | some (.int .u8) => true | _ => false
theorem Ydy {P : Program} {t : TypeId} (h : Ygb P t = true) : P.underlying t = some (.int .u8) := by unfold Ygb at h; split at h <;> simp_all
def Ygu (P : Program) (s d : TypeId) (h : Zaa) (x : Zag) (K : Zag → Prop) : Prop :=
  match P.underlying s with
  | some (.slice e) => chk (Zow P d = true ∧ Ygb P e = true) (match x with | .slice a n _ _ => Zdg (rowOf h a n) fun cs => Zly cs fun b => K (.str b) | _ => False)
  | _ => False
def Ygt (x y : Zag) (K : Zag → Prop) : Prop :=
  match x with
  | .int k a => (match y with | .int k' b => chk (k = k') (K (.int k (if b < a then b else a))) | _ => False)
  | _ => False

section
variable {P : Program} {base : Nat} {w0 : World} {μ : List Pl} {h : Zaa} {w : World}

theorem Zqe : ∀ {cs : List Zag} {K : List Nat → Prop}, Zly cs K → ∃ ns : List Int, cs = ns.map (.int .u8) ∧ (∀ n ∈ ns, 0 ≤ n ∧ n < 256) ∧ K (ns.map Int.toNat)
  | [], K, hk => ⟨[], rfl, by simp, hk⟩
  | .int k n :: r, K, hk => by
    unfold Zly at hk
    replace hk := Zbg hk
    obtain ⟨rfl, hb, hk⟩ := hk
    obtain ⟨ns, rfl, hns, hk⟩ := Zqe hk
    exact ⟨n :: ns, rfl, by simpa using ⟨hb, hns⟩, by simpa using hk⟩
  | .undef :: _, _, hk | .bool _ :: _, _, hk | .str _ :: _, _, hk | .ptr _ :: _, _, hk | .slice .. :: _, _, hk | .map _ :: _, _, hk | .fn .. :: _, _, hk | .nilFn :: _, _, hk | .iter _ :: _, _, hk
  | .agg _ :: _, _, hk | .tup _ :: _, _, hk => by unfold Zly at hk; exact hk.elim
theorem VRs.u8 : ∀ {ns : List Int} {ys : List Value}, VRs μ (ns.map (.int .u8)) ys → ys = ns.map (Value.int .u8)
  | [], _, .nil => rfl
  | n :: ns, _, .cons a b => by cases a; rw [VRs.u8 b]; rfl
theorem Zov : ∀ (ns : List Int) (s : ByteArray), (∀ n ∈ ns, 0 ≤ n ∧ n < 256) → bytesOf (ns.foldl (fun r n => r.push (UInt8.ofNat n.toNat)) s) = bytesOf s ++ ns.map Int.toNat
  | [], s, _ => by simp
  | n :: ns, s, h => by
    have hn := h n (by simp)
    rw [List.foldl_cons, Zov ns _ fun m hm => h m (by simp [hm])]
    have : n.toNat < 256 := by omega
    simp [bytesOf, ByteArray.push, Nat.mod_eq_of_lt this]
theorem Yfq (r : Rel P base w0 μ h w) {s d : TypeId} {a : Zag} {x : Value} (ha : VR μ a x) {K : Zag → Zaa → Prop} (hk : Ygu P s d h a fun v => K v h) : Res P base w0 μ ((convert s d x).run P w) K := by
  unfold Ygu at hk
  split at hk
  · rename_i e hu
    replace hk := Zbg hk
    obtain ⟨⟨hd, he⟩, hk⟩ := hk
    have hd := Zke hd
    have he := Ydy he
    split at hk
    · rename_i sa n sc se
      obtain ⟨cs, hcs, hk1⟩ := Zet hk
      clear hk
      obtain ⟨hl, am, capm, rfl, hsrc⟩ := Zsv r ha hcs
      obtain ⟨ns, rfl, hns, hk⟩ := Zqe hk1
      clear hk1
      have hlen : ns.length = n := by simpa using hl
      have fin : ∀ b : ByteArray, (convert s d (.slice am n capm)).run P w = .ok (.string b) w → bytesOf b = ns.map Int.toNat → Res P base w0 μ ((convert s d (.slice am n capm)).run P w) K := by
        intro b hr hb
        rw [hr]
        refine ⟨_, w, μ, .str (bytesOf b), h, rfl, Ext.refl _, r, .str b, ?_⟩
        rw [hb]; exact hk
      have hb0 : bytesOf (ns.foldl (fun r n => r.push (UInt8.ofNat n.toNat)) ByteArray.empty) = ns.map Int.toNat := by
        rw [Zov ns _ hns]; simp [bytesOf]
      have hc := run_convert_bytes_string (P := P) w s d e am n capm hu he hd
      rcases hsrc with h0 | ⟨q, rfl, ys, hys, hcell⟩
      · have hn0 : ns = [] := List.eq_nil_of_length_eq_zero (by omega)
        subst hn0
        simp only [List.length_nil] at hlen
        subst hlen
        refine fin ByteArray.empty ?_ (by simp [bytesOf])
        rw [hc]
        cases am <;> simp [Conv.bytesToString, loadCells, loadCellsFrom]
      · have hy := hys.u8
        subst hy
        have hload := run_loadCells_list (P := P) w q (ns.map (Value.int .u8)) hcell
        simp only [List.length_map, hlen] at hload
        exact fin _ (by rw [hc, run_bytesToString w q n capm ns hload]) hb0
    · exact hk.elim
  · exact hk.elim

theorem Zth (r : Rel P base w0 μ h w) {t : TypeId} {a b : Zag} {x y : Value} (ha : VR μ a x) (hb : VR μ b y) {K : Zag → Zaa → Prop} (hk : Zip P t a b h K) : Res P base w0 μ ((Instr.makeSlice t x y).run P w) K := by
  unfold Zip at hk
  split at hk
  · rename_i e hu
    obtain ⟨z, hz, hk1⟩ := Zet hk
    clear hk
    have hk2 := Zbg hk1
    clear hk1
    obtain ⟨⟨hs, hzl, hpos⟩, hk⟩ := hk2
    obtain ⟨i, v, hi, hv, hvs, hzr⟩ := Zom (μ := μ) hz
    unfold Zgn at hk
    split at hk
    · rename_i kl l hl
      cases hl
      obtain ⟨rfl, hk⟩ := hk
      split at hk
      · rename_i kc c hc
        cases hc
        obtain ⟨rfl, ⟨h0, hlc, hbound⟩, hk⟩ := hk
        cases ha; cases hb
        have hbytes : i.bytes = P.bytesOf e := by simp [Program.bytesOf, hi]
        have hm : 0 ≤ c * (P.bytesOf e : Int) := Int.mul_nonneg (by omega) (by omega)
        have hexp : c * ((P.bytesOf e : Int) + 1) = c * (P.bytesOf e : Int) + c := by rw [Int.mul_add, Int.mul_one]
        have hb1 : (i.bytes : Int) * c ≤ 281474976710656 := by rw [hbytes, Int.mul_comm]; omega
        have hrun := run_make w t e i v hu hi hv .i64 .i64 l c h0 hlc hb1 (by omega)
        have hcl := hvs.length
        simp only [Array.length_toList] at hcl
        have hsz : i.size = v.cells.size := by rw [← hcl, hzl]; simp [Program.cellsOf, hi]
        have hC : VRs μ (Sim.reps c.toNat z) (madeCells v.cells (c.toNat * i.size)).toList := by
          unfold madeCells
          rw [hsz, Zpi c.toNat v.cells (by omega)]; exact hvs.reps _
        have hCl := hC.length
        have hrel := r.newRow0 (t := e) (C := madeCells v.cells (c.toNat * i.size)) (cs := Sim.reps c.toNat z) (by rw [hCl, List.take_length]; exact hC)
        rw [hrun]
        refine ⟨_, _, _, _, _, rfl, Ext.app _ _, hrel, ?_, hk⟩
        refine .slice (e := ⟨w.heap.size, 0, true, _, P.cellsOf e⟩) (o := 0) (r.last _) (by omega) (Nat.le_refl _) (fun _ => rfl) (fun _ _ => ?_)
        have : i.size = P.cellsOf e := by simp [Program.cellsOf, hi]
        simp [madeCells, this]
      · exact hk.elim
    · exact hk.elim
  · exact hk.elim
theorem Yhh {ts : Array TypeId} {t : TypeId} {a b : Zag} {x y : Value} (ha : VR μ a x) (hb : VR μ b y) {K : Zag → Prop} (hk : Ygt a b K) : ∃ v z, (∀ w, (Builtin.min_ ts t #[x, y]).run P w = .ok z w) ∧ VR μ v z ∧ K v := by
  unfold Ygt at hk
  split at hk
  · split at hk
    · replace hk := Zbg hk
      obtain ⟨rfl, hk⟩ := hk
      cases ha; cases hb
      exact ⟨_, _, fun w => run_min_int2 w ts t _ _ _ _, .int _ _, hk⟩
    · exact hk.elim
  · exact hk.elim
end
end Go.Sim
