/- An abstract machine: values, heaps, the relation to the model's values and worlds, and the predicate transformer over the model's own code. Sound: see SimB. -/
import Derived.WalkKit
import Derived.Below
import Derived.KernelRfl
import Derived.Laws.Rows
set_option linter.unusedVariables false
set_option linter.unusedSimpArgs false
namespace Go.Sim
open Go Go.RowKit

inductive AVal where
  | undef
  | bool (b : Bool)
  | int (k : IntKind) (n : Int)
  | str (s : List Nat)
  | ptr (a : Option (Nat × Nat))
  | slice (a : Option (Nat × Nat)) (len cap : Nat) (exact : Bool)
  | map (r : Option Nat)
  | fn (f : FuncId) (caps : List AVal)
  | nilFn
  | iter (r : Nat)
  | agg (cs : List AVal)
  | tup (vs : List AVal)
  deriving Inhabited

def bytesOf (s : ByteArray) : List Nat := s.data.toList.map UInt8.toNat

/-- Where an abstract object lies: its block, the offset in it, whether it is the call's own, the block's cells, the cells of an element. -/
structure Pl where
  b : Nat
  o : Nat
  own : Bool
  n : Nat
  sz : Nat

mutual
inductive VR (μ : List Pl) : AVal → Value → Prop
  | undef (x : Value) : VR μ .undef x
  | bool (b : Bool) : VR μ (.bool b) (.bool b)
  | int (k : IntKind) (n : Int) : VR μ (.int k n) (.int k n)
  | str (s : ByteArray) : VR μ (.str (bytesOf s)) (.string s)
  | ptr0 : VR μ (.ptr none) (.pointer none)
  | ptr {i o : Nat} {e : Pl} : μ[i]? = some e → VR μ (.ptr (some (i, o))) (.pointer (some ⟨e.b, e.o + o, none⟩))
  | slice0 : VR μ (.slice none 0 0 true) (.slice none 0 0)
  | sliceE0 {a : Option Addr} : VR μ (.slice none 0 0 false) (.slice a 0 0)
  | sliceE1 {a : Option Addr} {cap : Nat} : VR μ (.slice none 0 1 false) (.slice a 0 cap)
  | slice {i o n c cap : Nat} {ex : Bool} {e : Pl} : μ[i]? = some e → n ≤ c → c ≤ cap → (ex = true → cap = c) →
      (e.own = true → o = 0 → cap * e.sz ≤ e.n) → VR μ (.slice (some (i, o)) n c ex) (.slice (some ⟨e.b, e.o + o, none⟩) n cap)
  | map0 : VR μ (.map none) (.map none)
  | map {i : Nat} {e : Pl} : μ[i]? = some e → VR μ (.map (some i)) (.map (some e.b))
  | fn {f : FuncId} {cs : List AVal} {xs : Array Value} : VRs μ cs xs.toList → VR μ (.fn f cs) (.func (.func f) #[] xs)
  | nilFn : VR μ .nilFn .nilFunc
  | iter {i : Nat} {e : Pl} : μ[i]? = some e → e.o = 0 → VR μ (.iter i) (.pointer (some ⟨e.b, 0, none⟩))
  | agg {cs : List AVal} {xs : Array Value} : VRs μ cs xs.toList → VR μ (.agg cs) (.agg xs)
  | tup {cs : List AVal} {xs : Array Value} : VRs μ cs xs.toList → VR μ (.tup cs) (.tuple xs)
inductive VRs (μ : List Pl) : List AVal → List Value → Prop
  | nil : VRs μ [] []
  | cons {v : AVal} {x : Value} {vs : List AVal} {xs : List Value} : VR μ v x → VRs μ vs xs → VRs μ (v :: vs) (x :: xs)
end

def Ext (μ μ' : List Pl) : Prop := ∀ (i : Nat) (e : Pl), μ[i]? = some e → μ'[i]? = some e
theorem Ext.refl (μ : List Pl) : Ext μ μ := fun _ _ h => h
theorem Ext.trans {a b c : List Pl} (h : Ext a b) (k : Ext b c) : Ext a c := fun i e hi => k i e (h i e hi)
theorem Ext.app (μ l : List Pl) : Ext μ (μ ++ l) := fun i e h => by
  obtain ⟨hlt, _⟩ := List.getElem?_eq_some_iff.1 h
  rw [List.getElem?_append_left hlt]; exact h

mutual
theorem VR.ext {μ μ' : List Pl} (h : Ext μ μ') : ∀ {v : AVal} {x : Value}, VR μ v x → VR μ' v x
  | _, _, .undef x => .undef x
  | _, _, .bool b => .bool b
  | _, _, .int k n => .int k n
  | _, _, .str s => .str s
  | _, _, .ptr0 => .ptr0
  | _, _, .ptr hi => .ptr (h _ _ hi)
  | _, _, .slice0 => .slice0
  | _, _, .sliceE0 => .sliceE0
  | _, _, .sliceE1 => .sliceE1
  | _, _, .slice hi a b c d => .slice (h _ _ hi) a b c d
  | _, _, .map0 => .map0
  | _, _, .map hi => .map (h _ _ hi)
  | _, _, .fn hs => .fn (VRs.ext h hs)
  | _, _, .nilFn => .nilFn
  | _, _, .iter hi ho => .iter (h _ _ hi) ho
  | _, _, .agg hs => .agg (VRs.ext h hs)
  | _, _, .tup hs => .tup (VRs.ext h hs)
theorem VRs.ext {μ μ' : List Pl} (h : Ext μ μ') : ∀ {vs : List AVal} {xs : List Value}, VRs μ vs xs → VRs μ' vs xs
  | _, _, .nil => .nil
  | _, _, .cons a b => .cons (VR.ext h a) (VRs.ext h b)
end

theorem VRs.length {μ : List Pl} : ∀ {vs : List AVal} {xs : List Value}, VRs μ vs xs → vs.length = xs.length
  | _, _, .nil => rfl
  | _, _, .cons _ b => by simp [VRs.length b]
theorem VRs.get {μ : List Pl} : ∀ {vs : List AVal} {xs : List Value}, VRs μ vs xs → ∀ {j : Nat} {v : AVal}, vs[j]? = some v → ∃ x, xs[j]? = some x ∧ VR μ v x
  | _, _, .nil, j, v, h => by simp at h
  | _, _, .cons a b, 0, v, h => by simp at h; subst h; exact ⟨_, rfl, a⟩
  | _, _, .cons a b, j + 1, v, h => by simp at h; obtain ⟨x, hx, r⟩ := b.get h; exact ⟨x, by simpa using hx, r⟩
theorem VRs.get' {μ : List Pl} {vs : List AVal} {xs : List Value} (h : VRs μ vs xs) {j : Nat} {x : Value} (hx : xs[j]? = some x) : ∃ v, vs[j]? = some v ∧ VR μ v x := by
  have hl := h.length
  obtain ⟨hlt, _⟩ := List.getElem?_eq_some_iff.1 hx
  have hv : vs[j]? = some (vs[j]'(by omega)) := List.getElem?_eq_getElem _
  obtain ⟨y, hy, r⟩ := h.get hv
  rw [hx] at hy; cases hy
  exact ⟨_, hv, r⟩
theorem VRs.of {μ : List Pl} : ∀ {vs : List AVal} {xs : List Value}, vs.length = xs.length → (∀ (j : Nat) (v : AVal) (x : Value), vs[j]? = some v → xs[j]? = some x → VR μ v x) → VRs μ vs xs
  | [], [], _, _ => .nil
  | v :: vs, x :: xs, hl, h => .cons (h 0 v x rfl rfl) (VRs.of (by simpa using hl) (fun j v x a b => h (j + 1) v x (by simpa using a) (by simpa using b)))
  | [], _ :: _, hl, _ => by simp at hl
  | _ :: _, [], hl, _ => by simp at hl
theorem VRs.append {μ : List Pl} : ∀ {vs ws : List AVal} {xs ys : List Value}, VRs μ vs xs → VRs μ ws ys → VRs μ (vs ++ ws) (xs ++ ys)
  | _, _, _, _, .nil, h => h
  | _, _, _, _, .cons a b, h => .cons a (VRs.append b h)
theorem VRs.take {μ : List Pl} : ∀ {vs : List AVal} {xs : List Value} (n : Nat), VRs μ vs xs → VRs μ (vs.take n) (xs.take n)
  | _, _, 0, _ => by simp; exact .nil
  | _, _, _ + 1, .nil => .nil
  | _, _, n + 1, .cons a b => .cons a (VRs.take n b)
theorem VRs.drop {μ : List Pl} : ∀ {vs : List AVal} {xs : List Value} (n : Nat), VRs μ vs xs → VRs μ (vs.drop n) (xs.drop n)
  | _, _, 0, h => h
  | _, _, _ + 1, .nil => .nil
  | _, _, n + 1, .cons _ b => VRs.drop n b
theorem VRs.replicate {μ : List Pl} {v : AVal} {x : Value} (h : VR μ v x) : ∀ n, VRs μ (List.replicate n v) (List.replicate n x)
  | 0 => .nil
  | n + 1 => .cons h (VRs.replicate h n)

inductive AObj where
  | cells (t : TypeId) (cs : List AVal) (ro : Bool)
  | map (es : List (AVal × AVal))
  | iter (s : List Nat) (pos : Nat)
  | dead
  | amb (φ : Nat → World → Prop)
  deriving Inhabited

abbrev AHeap := List AObj

def AObj.own : AObj → Bool
  | .cells _ _ ro => !ro
  | .dead => false
  | .amb _ => false
  | _ => true

/-- What an abstract object says of the block where it lies. -/
def ObjRel (P : Program) (base : Nat) (w0 : World) (μ : List Pl) (e : Pl) (w : World) : AObj → Prop
  | .cells t cs ro => ∃ C el fr, w.heap[e.b]? = some (.cells C el fr) ∧ VRs μ cs ((C.toList.drop e.o).take cs.length) ∧
      (if ro then e.own = false ∧ e.b < base else e.own = true ∧ e.o = 0 ∧ el = t ∧ fr = (0, 0) ∧ C.size = e.n ∧ P.cellsOf t = e.sz ∧ base ≤ e.b)
  | .map es => base ≤ e.b ∧ ∃ ents clk, w.heap[e.b]? = some (.map ents clk) ∧ VRs μ (es.map (·.1)) (ents.toList.map (·.key)) ∧ VRs μ (es.map (·.2)) (ents.toList.map (·.val))
  | .iter s pos => base ≤ e.b ∧ e.o = 0 ∧ ∃ s', bytesOf s' = s ∧ w.heap[e.b]? = some (.stringIter s' pos)
  | .dead => True
  | .amb φ => φ base w0
/-- Of what the present world does not speak. -/
def AObj.still : AObj → Bool
  | .dead => true
  | .amb _ => true
  | _ => false

structure Rel (P : Program) (base : Nat) (w0 : World) (μ : List Pl) (h : AHeap) (w : World) : Prop where
  below : Below base w0 w
  len : μ.length = h.length
  obj : ∀ (i : Nat) (o : AObj), h[i]? = some o → ∀ e : Pl, μ[i]? = some e → ObjRel P base w0 μ e w o
  sep : ∀ (i j : Nat) (oi oj : AObj) (ei ej : Pl), i ≠ j → h[i]? = some oi → h[j]? = some oj → oi.own = true → oj.own = true → μ[i]? = some ei → μ[j]? = some ej → ei.b ≠ ej.b
  size : base ≤ w.heap.size

theorem Rel.get {P : Program} {base : Nat} {w0 : World} {μ : List Pl} {h : AHeap} {w : World} (r : Rel P base w0 μ h w) {i : Nat} {o : AObj} (hi : h[i]? = some o) : ∃ e, μ[i]? = some e ∧ ObjRel P base w0 μ e w o := by
  have hlt : i < μ.length := by rw [r.len]; exact (List.getElem?_eq_some_iff.1 hi).1
  exact ⟨μ[i], List.getElem?_eq_getElem hlt, r.obj i o hi _ (List.getElem?_eq_getElem hlt)⟩

abbrev Env := List (Nat × AVal)
def Env.get : Env → Nat → AVal
  | [], _ => .undef
  | (t, v) :: r, s => match Nat.beq t s with | true => v | false => Env.get r s
def Env.set : Env → Nat → AVal → Env
  | [], s, x => [(s, x)]
  | (t, v) :: r, s, x => match Nat.beq t s with | true => (t, x) :: r | false => (t, v) :: Env.set r s x
def Env.keep (env : Env) (ks : List Nat) : Env := ks.map fun t => (t, env.get t)
/-- The arguments' slots. -/
def Env.args : Nat → List AVal → Env
  | _, [] => []
  | i, v :: r => (i, v) :: Env.args (i + 1) r

def EnvRel (μ : List Pl) (env : Env) (tmps : Array Value) : Prop := ∀ t, VR μ (env.get t) (tmps.getD t undef)

theorem Env.get_set (env : Env) (s : Nat) (x : AVal) (t : Nat) : (env.set s x).get t = if t = s then x else env.get t := by
  induction env with
  | nil =>
    simp only [Env.set, Env.get]
    by_cases h : t = s
    · subst h; simp
    · rw [if_neg h]
      cases hb : Nat.beq s t with
      | true => exact absurd (Nat.eq_of_beq_eq_true hb).symm h
      | false => rfl
  | cons p r ih =>
    obtain ⟨q, v⟩ := p
    simp only [Env.set, Env.get]
    cases hqs : Nat.beq q s with
    | true =>
      have e := Nat.eq_of_beq_eq_true hqs; subst e
      simp only [Env.get]
      cases hqt : Nat.beq q t with
      | true => have e := Nat.eq_of_beq_eq_true hqt; subst e; simp
      | false =>
        have : t ≠ q := fun e => by subst e; simp at hqt
        simp [this]
    | false =>
      simp only [Env.get]
      cases hqt : Nat.beq q t with
      | true =>
        have e := Nat.eq_of_beq_eq_true hqt; subst e
        have : q ≠ s := fun e => by subst e; simp at hqs
        simp [this]
      | false => exact ih
theorem Env.get_keep (env : Env) (ks : List Nat) (t : Nat) : (env.keep ks).get t = env.get t ∨ (env.keep ks).get t = .undef := by
  induction ks with
  | nil => exact .inr rfl
  | cons k ks ih =>
    simp only [Env.keep, List.map_cons, Env.get]
    cases hb : Nat.beq k t with
    | true => have e := Nat.eq_of_beq_eq_true hb; subst e; exact .inl rfl
    | false => exact ih
theorem EnvRel.keep {μ : List Pl} {env : Env} {tmps : Array Value} (h : EnvRel μ env tmps) (ks : List Nat) : EnvRel μ (env.keep ks) tmps := fun t => by
  rcases Env.get_keep env ks t with e | e
  · rw [e]; exact h t
  · rw [e]; exact .undef _
theorem EnvRel.ext {μ μ' : List Pl} (he : Ext μ μ') {env : Env} {tmps : Array Value} (h : EnvRel μ env tmps) : EnvRel μ' env tmps := fun t => (h t).ext he
theorem EnvRel.set {μ : List Pl} {env : Env} {tmps : Array Value} (h : EnvRel μ env tmps) {d : Nat} {v : AVal} {x : Value} (hd : d < tmps.size) (hv : VR μ v x) : EnvRel μ (env.set d v) (tmps.setIfInBounds d x) := fun t => by
  rw [Env.get_set]
  by_cases e : t = d
  · subst e
    rw [if_pos rfl]
    simp only [Array.getD_eq_getD_getElem?, Array.getElem?_setIfInBounds]
    simpa [hd] using hv
  · rw [if_neg e]
    have := h t
    simp only [Array.getD_eq_getD_getElem?] at this ⊢
    rw [Array.getElem?_setIfInBounds]
    rwa [if_neg (fun e' => e e'.symm)]
/-- A fact known of a slot may be written in: the machine's value is as it was. -/
theorem EnvRel.know {μ : List Pl} {env : Env} {tmps : Array Value} (h : EnvRel μ env tmps) {d : Nat} {v : AVal} (hv : VR μ v (tmps.getD d undef)) : EnvRel μ (env.set d v) tmps := fun t => by
  rw [Env.get_set]
  by_cases e : t = d
  · subst e; rw [if_pos rfl]; exact hv
  · rw [if_neg e]; exact h t

end Go.Sim
