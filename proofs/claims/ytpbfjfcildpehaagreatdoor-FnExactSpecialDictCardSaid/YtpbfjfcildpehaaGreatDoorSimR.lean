/- A part of the proof of a statement of this seat: see the text that holds the theorem. No condition. -/
import Derived.Test.YtpbfjfcildpehaaGreatDoorSimK
import Derived.IntWalk
set_option linter.unusedVariables false
set_option linter.unusedSimpArgs false
set_option linter.all false
/- What an operation that only reckons or loads hands on is one value; operations look at their operands alone. -/
set_option linter.unusedSimpArgs false
namespace Go.Sim
open Go Go.RowKit

/-- F hands on one value. -/
def Det {α : Type} (F : (α → Prop) → Prop) : Prop := ∀ k, F k → ∃ v, k v ∧ ∀ k', k' v → F k'
theorem Det.ret {α : Type} (a : α) : Det (fun k => k a) := fun _ h => ⟨a, h, fun _ h => h⟩
theorem Det.no {α : Type} : Det (fun _ : α → Prop => False) := fun _ h => h.elim
theorem Det.and {α : Type} {p : Prop} {F : (α → Prop) → Prop} (d : Det F) : Det (fun k => p ∧ F k) := fun k ⟨hp, h⟩ => let ⟨v, hv, r⟩ := d k h; ⟨v, hv, fun k' h' => ⟨hp, r k' h'⟩⟩
theorem Det.chk {α : Type} {p : Prop} [Decidable p] {F : (α → Prop) → Prop} (d : Det F) : Det (fun k => chk p (F k)) := fun k h => by
  have ⟨hp, h⟩ := chk_elim h
  obtain ⟨v, hv, r⟩ := d k h
  exact ⟨v, hv, fun k' h' => by unfold Sim.chk; rw [decide_eq_true hp]; exact r k' h'⟩
theorem Det.bind {α β : Type} {F : (α → Prop) → Prop} {G : α → (β → Prop) → Prop} (d : Det F) (e : ∀ a, Det (G a)) : Det (fun k => F fun a => G a k) := fun k h => by
  obtain ⟨a, ha, r⟩ := d _ h
  obtain ⟨b, hb, q⟩ := e a k ha
  exact ⟨b, hb, fun k' h' => r _ (q k' h')⟩
theorem Det.map {α β : Type} {F : (α → Prop) → Prop} (d : Det F) (f : α → β) : Det (fun k => F fun a => k (f a)) := d.bind fun a => Det.ret (f a)
theorem Det.bcase {α : Type} {b : Bool} {F G : (α → Prop) → Prop} (d : Det F) (e : Det G) : Det (fun k => bcase b (F k) (G k)) := by cases b <;> assumption

section
variable {P : Program}
theorem det_xv (s : Sh) (o : Option AVal) : Det (xv s o) := by
  intro k h
  cases s <;> simp only [xv, xBool, xStr, xPtr, xSl, xMap, xAny, xInt] at * <;> split at h <;> first
    | exact h.elim
    | exact ⟨_, h, fun _ h => h⟩
    | exact ⟨_, h.2, fun _ h' => ⟨h.1, h'⟩⟩
theorem det_xAny (o : Option AVal) : Det (xAny o) := det_xv .any o
theorem det_xRow (o : Option (List AVal)) : Det (xRow o) := fun k h => by
  unfold xRow at *; split at h <;> first | exact ⟨_, h, fun _ h => h⟩ | exact h.elim
theorem det_xs : ∀ (ss : List Sh) (cs : List AVal), Det (xs ss cs)
  | [], cs => fun k h => by
    simp only [xs, xNil] at *; split at h <;> first | exact ⟨_, h, fun _ h => h⟩ | exact h.elim
  | s :: ss, cs => fun k h => by
    simp only [xs, xCons] at *
    split at h
    · exact ((det_xv s _).bind (G := fun v k => xs ss _ fun vs => k (v :: vs)) fun v => (det_xs ss _).map (v :: ·)) k h
    · exact h.elim
theorem det_loadA (t : TypeId) (h : AHeap) (p : AVal) : Det (loadA P t h p) := by
  intro k hh
  unfold loadA at *
  split at hh
  · exact ((det_xRow _).bind (G := fun cs k => xs _ cs fun vs => k (.agg vs)) fun cs => (det_xs _ cs).map AVal.agg) k hh
  · exact det_xv _ _ k hh
theorem det_ptrEq (a b : Option (Nat × Nat)) : Det (ptrEq a b) := by
  intro k h
  unfold ptrEq at *
  split at h
  · exact ⟨_, h, fun _ h => h⟩
  · split at h
    · exact ⟨_, h, fun _ h => h⟩
    · exact h.elim
theorem det_xSome (a : Option (Nat × Nat)) (f : Nat → Nat → AVal) : Det (fun k : AVal → Prop => xSome a fun b o => k (f b o)) := by
  intro k h
  obtain ⟨b, o, rfl, h⟩ := xSome_elim h
  exact ⟨_, h, fun _ h => h⟩
theorem det_eqA (t : TypeId) (x y : AVal) : Det (eqA P t x y) := by
  intro k h
  unfold eqA at *
  split at h <;> (try exact h.elim) <;> split at h <;> (try exact h.elim)
  · exact (Det.ret _).chk k h
  · exact ⟨_, h, fun _ h => h⟩
  · exact (Det.ret _).chk k h
  · exact (det_ptrEq _ _).chk k h
  · split at h
    · exact ⟨_, h, fun _ h => h⟩
    · exact h.elim
  · exact (Det.ret _).and.chk k h
theorem det_binA (op : BinOp) (t : TypeId) (x y : AVal) : Det (binA P op t x y) := by
  intro k h
  unfold binA at *
  split at h
  · exact (det_eqA t x y).map _ k h
  · exact (det_eqA t x y).map _ k h
  · split at h
    · split at h
      · split at h <;> first
          | exact h.elim
          | exact (Det.ret _).chk k h
          | exact (Det.ret _).and.chk k h
          | exact (Det.ret _).and k h
      · exact h.elim
    · split at h
      · split at h <;> first
          | exact h.elim
          | exact (Det.ret _).and k h
          | exact ⟨_, h, fun _ h => h⟩
      · exact h.elim
    · exact h.elim
theorem det_partA (t : TypeId) (cs : List AVal) (off : Nat) : Det (partA P t cs off) := by
  intro k h
  unfold partA at *
  split at h
  · exact ⟨_, h, fun _ h => h⟩
  · exact (det_xAny _).chk k h
theorem det_optInt (o : Option AVal) (d : Int) : Det (optInt o d) := fun k h => by
  unfold optInt at *; split at h <;> first | exact ⟨_, h, fun _ h => h⟩ | exact h.elim
theorem det_field (o : Option Field) : Det (xField o) := fun k h => by
  unfold xField at *; split at h <;> first | exact ⟨_, h, fun _ h => h⟩ | exact h.elim
theorem det_sliceStr (s : List Nat) (lo hi : Option AVal) : Det (sliceStr s lo hi) := by
  unfold sliceStr
  exact (det_optInt hi s.length).bind fun h => (det_optInt lo 0).bind fun l => (Det.ret _).and
theorem det_sliceSl (a : Option (Nat × Nat)) (len cap : Nat) (ex : Bool) (sz : Nat) (lo hi mx : Option AVal) : Det (sliceSl a len cap ex sz lo hi mx) := by
  unfold sliceSl
  refine (det_optInt mx cap).bind fun m => (det_optInt hi len).bind fun h => (det_optInt lo 0).bind fun l => Det.and ?_
  intro k hk
  split at hk
  · exact (Det.ret _).and k hk
  · rename_i b o
    by_cases hlm : l < m
    · exact ⟨_, hk.1 hlm, fun k' h' => ⟨fun _ => h', fun h => absurd hlm h⟩⟩
    · exact ⟨_, hk.2 hlm, fun k' h' => ⟨fun h => absurd h hlm, fun _ => h'⟩⟩
theorem det_pureA (env : Env) (o : Oper) : Det (pureA P env o) := by
  intro k h
  obtain ⟨dst, op, type, pos, after, guard⟩ := o
  unfold pureA at *
  cases op <;> simp only at h ⊢ <;> (try exact h.elim)
  case move x => exact ⟨_, h, fun _ h => h⟩
  case assign x => exact ⟨_, h, fun _ h => h⟩
  case pick c a b =>
    unfold pickA at *
    split at h
    · exact (Det.ret _).bcase (Det.ret _) k h
    · exact h.elim
  case nilCheck x =>
    unfold nilA at *
    split at h <;> first | exact h.elim | exact ⟨_, h, fun _ h => h⟩ | exact det_xSome _ (fun b o => .ptr (some (b, o))) k h
  case fieldAddr t x i =>
    unfold fieldAddrA at *
    split at h
    · rename_i a _
      exact (Det.bind (F := xField (fieldOf P t i)) (G := fun (f : Field) (k : AVal → Prop) => chk ((P.underlying f.type).isSome = true) (chk (P.cellsOf f.type ≠ 0) (xSome a fun b o => k (AVal.ptr (some (b, o + f.offset)))))) (det_field _) fun f => Det.chk (Det.chk (det_xSome a fun b o => AVal.ptr (some (b, o + f.offset))))) k h
    · exact h.elim
  case field t x i =>
    unfold fieldA at *
    split at h
    · exact (det_field _).bind (G := fun f k => partA P f.type _ f.offset k) (fun f => det_partA _ _ _) k h
    · exact h.elim
  case indexAddr t x i =>
    unfold indexAddrA at *
    split at h
    · split at h
      · split at h <;> first | exact h.elim | exact (det_xSome _ (fun b o => AVal.ptr (some (b, o + _)))).and.chk k h
      · split at h <;> first | exact h.elim | exact (det_xSome _ (fun b o => AVal.ptr (some (b, o + _)))).and.chk k h
      · exact h.elim
    · exact h.elim
  case index t x i =>
    unfold indexA at *
    split at h
    · split at h
      · split at h
        · exact (Det.ret _).and k h
        · exact h.elim
      · split at h
        · exact (det_partA _ _ _).and.chk k h
        · exact h.elim
      · exact h.elim
    · exact h.elim
  case slice t x lo hi mx =>
    unfold sliceA at *
    split at h
    · split at h
      · exact (det_sliceStr _ _ _).chk k h
      · exact h.elim
    · split at h
      · exact (det_sliceSl _ _ _ _ _ _ _ _).chk.chk k h
      · exact h.elim
    · exact h.elim
  case binOp op t x y yt => exact det_binA _ _ _ _ k h
  case unOp op t x =>
    unfold unA at *
    split at h
    · split at h <;> first | exact h.elim | exact ⟨_, h, fun _ h => h⟩
    · split at h <;> first | exact h.elim | exact ⟨_, h, fun _ h => h⟩
    · exact h.elim
  case convert s d x =>
    unfold convA at *
    split at h
    · split at h <;> first | exact h.elim | exact (Det.ret _).chk k h
    · split at h <;> first | exact h.elim | exact (Det.ret _).chk k h | exact (Det.ret _).and.chk k h
    · exact h.elim
  case extract x i =>
    unfold extractA at *
    split at h
    · exact det_xAny _ k h
    · exact h.elim
  case makeFunc fn first caps =>
    cases fn <;> simp only at h ⊢ <;> first | exact h.elim | exact (Det.ret _).chk k h
  case call c =>
    split at h
    · unfold lenA at *
      split at h <;> first | exact h.elim | exact (Det.ret _).chk k h
    · exact h.elim

/-- Operations that neither look at memory nor write it. -/
def reckons (P : Program) (op : Op) : Bool :=
  match op with
  | .move _ | .assign _ | .pick .. | .binOp .. | .unOp .. | .nilCheck _ | .extract .. | .field .. | .fieldAddr .. | .indexAddr .. | .index .. | .slice .. | .makeFunc .. | .build .. => true
  | .call c => (match c.callee with | .builtin .len => true | _ => false)
  | .convert s _ _ => !isSlT P s
  | _ => false
def loads (op : Op) : Bool := match op with | .load .. => true | _ => false
/-- What a reckoning operation hands on hangs on no heap. -/
def calmA (P : Program) (env : Env) (o : Oper) (k : AVal → Prop) : Prop :=
  match o.op with
  | .build t ps => buildA P t (parts env ps) k
  | _ => pureA P env o k
theorem det_calmA (env : Env) (o : Oper) : Det (calmA P env o) := by
  intro k h
  unfold calmA at *
  split at h
  · refine (det_xRow _).bind (G := fun z k => _) (fun z => ?_) k h
    intro k h
    split at h
    · exact ((det_xRow _).map _).chk k h
    · exact ((det_xRow _).map _).chk k h
    · exact h.elim
  · exact det_pureA env o k h
theorem opA_reckons {env : Env} {h : AHeap} {o : Oper} (hr : reckons P o.op = true) {K : AVal → AHeap → Prop} : opA P env h o K ↔ calmA P env o fun v => K v h := by
  obtain ⟨dst, op, type, pos, after, guard⟩ := o
  cases op <;> simp only [reckons, Bool.false_eq_true] at hr <;> try (simp only [opA, calmA]; done)
  case call c =>
    simp only [opA, calmA, callA]
    split at hr
    · rename_i hc; simp [hc]
    · cases hr
  case convert s d x =>
    simp only [Bool.not_eq_true'] at hr
    simp only [opA, calmA, hr]

theorem parts_congr {env env' : Env} {ps : Array (Nat × Operand)} (hx : ∀ x ∈ ps.map (·.2), ev env x = ev env' x) : parts env ps = parts env' ps := by
  unfold parts
  refine List.map_congr_left fun p hp => ?_
  rw [hx p.2 (Array.mem_map.2 ⟨p, by simpa using hp, rfl⟩)]
theorem args_congr {env env' : Env} {xs : Array Operand} (hx : ∀ x ∈ xs, ev env x = ev env' x) : xs.toList.map (ev env) = xs.toList.map (ev env') :=
  List.map_congr_left fun x hp => hx x (by simpa using hp)
theorem opA_congr {env env' : Env} {h : AHeap} {o : Oper} (hx : ∀ x ∈ o.op.operands, ev env x = ev env' x) {K : AVal → AHeap → Prop} : opA P env h o K ↔ opA P env' h o K := by
  obtain ⟨dst, op, type, pos, after, guard⟩ := o
  cases op <;> simp only [Op.operands] at hx <;> simp only [opA, pureA]
  case build t ps => rw [parts_congr fun x h => hx x (by simpa using h)]
  case buildSlice t n ps => rw [parts_congr fun x h => hx x (by simpa using h)]
  case makeFunc fn first caps =>
    have hc := args_congr (xs := caps) fun x h => hx x (by simp [h])
    cases fn <;> simp only [hc]
  case call c =>
    simp only [Call.operands] at hx
    have ha : c.args.toList.map (ev env) = c.args.toList.map (ev env') := args_congr fun x h => hx x (by simp [h])
    simp only [callA, pureA, ha]
    cases hc : c.callee with
    | value f =>
      have hf : ev env f = ev env' f := hx f (by simp [hc])
      cases f <;> simp only [hf]
    | invoke r m => exact Iff.rfl
    | builtin b => cases b <;> exact Iff.rfl
  case slice t x lo hi mx =>
    cases lo <;> cases hi <;> cases mx <;> simp_all
  case makeMap t r => cases r <;> simp_all
  all_goals (first | rfl | (simp_all; done))
end
end Go.Sim

/- A region whose order Go leaves open: one order, with what was loaded held, tells of all. -/
set_option linter.unusedSimpArgs false
namespace Go.Sim
open Go Go.RowKit

/-- A cell, or a row, that was loaded by operation i. -/
structure Hold where
  i : Nat
  p : AVal
  n : Option Nat
def Hold.ok (d : Hold) (h h' : AHeap) : Prop := match d.n with | none => hCell h' d.p = hCell h d.p | some n => hRow h' d.p n = hRow h d.p n
theorem Hold.ok_refl (d : Hold) (h : AHeap) : d.ok h h := by unfold Hold.ok; split <;> rfl
def waitsOn (ops : Array Oper) (j i : Nat) : Bool := match ops[j]? with | some o => o.after.any (fun e => Region.binds .any e && e.on == i) | none => false
def holdsK (ops : Array Oper) (j : Nat) : List Hold → AHeap → AHeap → Prop → Prop
  | [], _, _, K => K
  | d :: r, h, h', K => (match waitsOn ops j d.i with | true => holdsK ops j r h h' K | false => d.ok h h' ∧ holdsK ops j r h h' K)
theorem holdsK_elim {ops : Array Oper} {j : Nat} : ∀ {hs : List Hold} {h h' : AHeap} {K : Prop}, holdsK ops j hs h h' K → (∀ d ∈ hs, waitsOn ops j d.i = true ∨ d.ok h h') ∧ K
  | [], _, _, _, hk => ⟨by simp, hk⟩
  | d :: r, h, h', K, hk => by
    unfold holdsK at hk
    split at hk
    · rename_i hw
      obtain ⟨a, b⟩ := holdsK_elim hk
      exact ⟨fun x hx => by rcases List.mem_cons.1 hx with rfl | hx; exact .inl hw; exact a x hx, b⟩
    · obtain ⟨ho, hk⟩ := hk
      obtain ⟨a, b⟩ := holdsK_elim hk
      exact ⟨fun x hx => by rcases List.mem_cons.1 hx with rfl | hx; exact .inr ho; exact a x hx, b⟩

def stepI (P : Program) (N : Nat) (ops : Array Oper) (i : Nat) (env : Env) (h : AHeap) (K : Env → AHeap → Prop) : Prop :=
  match ops[i]? with | some o => stepA P N ops env h o K | none => K env h
def holdOf (P : Program) (ops : Array Oper) (i : Nat) (env : Env) : Hold :=
  match ops[i]? with
  | some o => (match o.op with
    | .load t a => (match isAgg P t with | true => ⟨i, ev env a, some (P.cellsOf t)⟩ | false => ⟨i, ev env a, none⟩)
    | _ => ⟨i, .undef, none⟩)
  | none => ⟨i, .undef, none⟩
def opIs (ops : Array Oper) (f : Op → Bool) (i : Nat) : Bool := match ops[i]? with | some o => f o.op | none => false
def allR (f : Nat → Prop) : List Nat → Prop
  | [] => True
  | [i] => f i
  | i :: r => f i ∧ allR f r
theorem allR_elim {f : Nat → Prop} : ∀ {l : List Nat}, allR f l → ∀ i ∈ l, f i
  | [], _, i, hi => by simp at hi
  | [j], h, i, hi => by simp at hi; subst hi; exact h
  | j :: k :: r, h, i, hi => by
    rcases List.mem_cons.1 hi with rfl | hi
    · exact h.1
    · exact allR_elim h.2 i hi
/-- What a region whose order is open does: what only reckons comes first, then what only loads, then whichever of the rest. -/
def drawA (P : Program) (N : Nat) (ops : Array Oper) (ks : List Nat) (K : Env → AHeap → Prop) : Nat → Array Bool → List Hold → Env → AHeap → Prop
  | 0, listed, _, env, h => (match Region.ready .any ops listed with | [] => K (env.keep ks) h | _ => False)
  | f + 1, listed, hs, env, h =>
    (match Region.ready .any ops listed with
    | [] => K (env.keep ks) h
    | rs => (match rs.find? (fun i => opIs ops (reckons P) i && Region.free .any ops listed i) with
      | some i => stepI P N ops i env h fun env' h' => drawA P N ops ks K f (listed.setIfInBounds i true) hs env' h'
      | none => (match (match rs with | [_] => none | _ => rs.find? (fun i => opIs ops loads i && Region.free .any ops listed i)) with
        | some i => stepI P N ops i env h fun env' h' => drawA P N ops ks K f (listed.setIfInBounds i true) (holdOf P ops i env :: hs) env' h'
        | none => allR (fun i => stepI P N ops i env h fun env' h' => holdsK ops i hs h h' (drawA P N ops ks K f (listed.setIfInBounds i true) hs env' h')) rs)))

/-- Whichever order: what was loaded is held. -/
def anyH (P : Program) (N : Nat) (ops : Array Oper) (K : Env → AHeap → Prop) (hs : List Hold) : Nat → Array Bool → Env → AHeap → Prop
  | 0, listed, env, h => Region.ready .any ops listed = [] ∧ K env h
  | f + 1, listed, env, h => (Region.ready .any ops listed = [] → K env h) ∧
    ∀ i ∈ Region.ready .any ops listed, stepI P N ops i env h fun env' h' => (∀ d ∈ hs, waitsOn ops i d.i = true ∨ d.ok h h') ∧ anyH P N ops K hs f (listed.setIfInBounds i true) env' h'

def EnvEq (env env' : Env) : Prop := ∀ t, env.get t = env'.get t
def After (o : Oper) (env : Env) (v : AVal) (env1 : Env) : Prop := ∀ t, env1.get t = if o.dst = some t then v else env.get t

section
variable {P : Program} {N : Nat} {ops : Array Oper}

theorem putA_tr {env env' : Env} {d : Option Tmp} {v : AVal} {K K' : Env → Prop} (hk : putA N env d v K)
    (hK : ∀ env1 env1', (∀ t, env1.get t = if d = some t then v else env.get t) → (∀ t, env1'.get t = if d = some t then v else env'.get t) → K env1 → K' env1') : putA N env' d v K' := by
  unfold putA at *
  cases d with
  | none => exact hK env env' (by simp) (by simp) hk
  | some d =>
    refine chk_mono hk fun hk => hK _ _ ?_ ?_ hk
    · intro t; rw [Env.get_set]; by_cases e : t = d <;> simp [e, eq_comm]; exact fun q => absurd q.symm e
    · intro t; rw [Env.get_set]; by_cases e : t = d <;> simp [e, eq_comm]; exact fun q => absurd q.symm e

theorem ev_agree {env env' : Env} {o : Oper} (hl : ∀ t ∈ o.looksAt ops, env.get t = env'.get t) : ∀ x ∈ o.op.operands, ev env x = ev env' x := fun x hx => by
  cases x with
  | tmp t => exact hl t (List.mem_append_left _ (List.mem_filterMap.2 ⟨.tmp t, by simpa using hx, rfl⟩))
  | _ => rfl
theorem get_know {env : Env} {t : Nat} {v : AVal} (h : env.get t = v) (s : Nat) : (env.set t v).get s = env.get s := by
  rw [Env.get_set]; split
  · rename_i e; subst e; exact h.symm
  · rfl
theorem step_tr {env env' : Env} {h h2 : AHeap} {o : Oper} {K K' : Env → AHeap → Prop} (hs : stepA P N ops env h o K) (hl : ∀ t ∈ o.looksAt ops, env.get t = env'.get t)
    (hop : ∀ (e1 e2 : Env), (∀ x ∈ o.op.operands, ev e1 x = ev e2 x) → (∀ t, e1.get t = env.get t) → ∀ (A B : AVal → AHeap → Prop), opA P e1 h o A → (∀ v h', A v h' → B v h') → opA P e2 h2 o B)
    (hun : ∀ e1 e2, EnvEq e1 env → EnvEq e2 env' → putA N e1 o.dst (.tup []) (fun x => K x h) → putA N e2 o.dst (.tup []) (fun x => K' x h2))
    (hK : ∀ v h' env1 env1', After o env v env1 → After o env' v env1' → K env1 h' → K' env1' h') : stepA P N ops env' h2 o K' := by
  unfold stepA at *
  cases hg : o.guard with
  | none =>
    simp only [hg] at hs ⊢
    exact hop env env' (ev_agree hl) (fun _ => rfl) _ _ hs fun v h' hp => putA_tr hp fun e1 e2 a b k => hK v h' e1 e2 a b k
  | some g =>
    obtain ⟨j, want⟩ := g
    simp only [hg] at hs ⊢
    cases ht : (ops[j]?).bind (·.dst) with
    | none => simp only [ht] at hs
    | some t =>
      simp only [ht] at hs ⊢
      have htl : env.get t = env'.get t := hl t (List.mem_append_right _ (by simp [hg, ht]))
      rw [← htl]
      split at hs
      · rename_i b hb
        have key : ∀ c, b = c → (opA P (env.set t (.bool c)) h o (fun v h' => putA N (env.set t (.bool c)) o.dst v fun env' => K env' h') → opA P (env'.set t (.bool c)) h2 o (fun v h' => putA N (env'.set t (.bool c)) o.dst v fun env' => K' env' h')) ∧
            (putA N (env.set t (.bool c)) o.dst (.tup []) (fun env' => K env' h) → putA N (env'.set t (.bool c)) o.dst (.tup []) (fun env' => K' env' h2)) := by
          intro c e
          subst e
          have k1 := get_know hb
          have k2 := get_know (htl ▸ hb : env'.get t = .bool b)
          constructor
          · intro ho
            refine hop _ _ (ev_agree fun s hs => by rw [k1, k2]; exact hl s hs) k1 _ _ ho fun v h' hp => putA_tr hp fun e1 e2 a b k => hK v h' e1 e2 ?_ ?_ k
            · intro s; rw [a s, k1]
            · intro s; rw [b s, k2]
          · exact hun _ _ k1 k2
        cases b
        · obtain ⟨k1, k2⟩ := key false rfl
          cases want
          · exact k1 hs
          · exact k2 hs
        · obtain ⟨k1, k2⟩ := key true rfl
          cases want
          · exact k2 hs
          · exact k1 hs
      · exact hun env env' (fun _ => rfl) (fun _ => rfl) hs
      · exact hs.elim

theorem step_same {env env' : Env} {h : AHeap} {o : Oper} {K K' : Env → AHeap → Prop} (hs : stepA P N ops env h o K) (hl : ∀ t ∈ o.looksAt ops, env.get t = env'.get t)
    (hK : ∀ v h' env1 env1', After o env v env1 → After o env' v env1' → K env1 h' → K' env1' h') : stepA P N ops env' h o K' :=
  step_tr hs hl (fun e1 e2 hx _ A B ha hm => opA_mono ((opA_congr hx).1 ha) hm)
    (fun e1 e2 q1 q2 hp => putA_tr hp fun f1 f2 a b k => hK _ _ f1 f2 (fun t => by rw [a t, q1 t]) (fun t => by rw [b t, q2 t]) k) hK

/-- Operation o hands on v here, and does nothing else. -/
def Yd (P : Program) (N : Nat) (ops : Array Oper) (o : Oper) (v : AVal) (env : Env) (h : AHeap) : Prop :=
  ∀ K : Env → AHeap → Prop, (∀ env1, After o env v env1 → K env1 h) → stepA P N ops env h o K

theorem anyH_weak {K : Env → AHeap → Prop} {hs hs' : List Hold} (hsub : ∀ d ∈ hs, d ∈ hs') : ∀ (f : Nat) {listed : Array Bool} {env env' : Env} {h : AHeap}, (∀ e e' h, EnvEq e e' → K e h → K e' h) → EnvEq env env' →
    anyH P N ops K hs' f listed env h → anyH P N ops K hs f listed env' h
  | 0, _, _, _, _, hK, he, hh => ⟨hh.1, hK _ _ _ he hh.2⟩
  | f + 1, listed, env, env', h, hK, he, hh => by
    refine ⟨fun hr => hK _ _ _ he (hh.1 hr), fun i hi => ?_⟩
    have := hh.2 i hi
    unfold stepI at *
    cases ho : ops[i]? with
    | none =>
      rw [ho] at this
      exact ⟨fun d hd => this.1 d (hsub d hd), anyH_weak hsub f hK he this.2⟩
    | some o =>
      rw [ho] at this
      refine step_same this (fun t _ => he t) fun v h' e1 e2 a b k => ⟨fun d hd => k.1 d (hsub d hd), anyH_weak hsub f hK (fun t => ?_) k.2⟩
      rw [a t, b t, he t]

theorem anyH_first {K : Env → AHeap → Prop} {hs hs' : List Hold} (hK : ∀ e e' h, EnvEq e e' → K e h → K e' h) (hsub : ∀ d ∈ hs, d ∈ hs') {i : Nat} {oi : Oper} {v : AVal} (hi : ops[i]? = some oi) {T : AHeap → AHeap → Prop}
    (hT : ∀ j h h1, waitsOn ops j i = false → (∀ d ∈ hs', waitsOn ops j d.i = true ∨ d.ok h h1) → T h h1)
    {Y : Env → AHeap → Prop} (hY : ∀ env h, Y env h → Yd P N ops oi v env h)
    (hst : ∀ env h env1 h1, Y env h → (∀ t ∈ oi.looksAt ops, env.get t = env1.get t) → T h h1 → Y env1 h1) :
    ∀ (fuel : Nat) (listed : Array Bool) (env env1 : Env) (h : AHeap),
      (∀ j oj, ops[j]? = some oj → j ≠ i → listed.getD j true = false → (∀ e ∈ oj.after, Region.binds .any e = true → e.on ≠ i) → oi.apart ops oj = true) →
      i ∈ Region.ready .any ops listed → Y env h → After oi env v env1 →
      anyH P N ops K hs' fuel (listed.setIfInBounds i true) env1 h → anyH P N ops K hs (fuel + 1) listed env h := by
  intro fuel
  have now : ∀ (fuel : Nat) (listed : Array Bool) (env env1 : Env) (h : AHeap), Y env h → After oi env v env1 → anyH P N ops K hs' fuel (listed.setIfInBounds i true) env1 h →
      stepI P N ops i env h fun env' h' => (∀ d ∈ hs, waitsOn ops i d.i = true ∨ d.ok h h') ∧ anyH P N ops K hs fuel (listed.setIfInBounds i true) env' h' := by
    intro fuel listed env env1 h hy ha H
    unfold stepI
    rw [hi]
    exact hY _ _ hy _ fun env2 h2 => ⟨fun d _ => .inr (d.ok_refl h), anyH_weak hsub fuel hK (fun t => by rw [ha t, h2 t]) H⟩
  induction fuel with
  | zero =>
    intro listed env env1 h _ hr hy ha H
    refine ⟨fun e => (by rw [e] at hr; cases hr), fun j hj => ?_⟩
    by_cases hji : j = i
    · subst hji; exact now 0 listed env env1 h hy ha H
    · have := ready_mono hj hji
      rw [H.1] at this
      cases this
  | succ fuel ih =>
    intro listed env env1 h hfree hr hy ha H
    refine ⟨fun e => (by rw [e] at hr; cases hr), fun j hj => ?_⟩
    by_cases hji : j = i
    · subst hji; exact now (fuel + 1) listed env env1 h hy ha H
    · have h1 := H.2 j (ready_mono hj hji)
      obtain ⟨hjun, oj, hoj, hall⟩ := mem_ready.1 hj
      have hnot : ∀ e ∈ oj.after, Region.binds .any e = true → e.on ≠ i := fun e he hb heq => by
        have h1 := hall e he hb
        have h0 := (mem_ready.1 hr).1
        rw [heq] at h1
        rcases Nat.lt_or_ge i listed.size with h' | h'
        · simp [h'] at h0 h1; rw [h0] at h1; cases h1
        · simp [Array.getElem?_eq_none h'] at h1
      have hw : waitsOn ops j i = false := by
        unfold waitsOn
        rw [hoj]
        simp only [Array.any_eq_false]
        intro q hq
        simp only [Bool.and_eq_true, beq_iff_eq, not_and]
        intro hb
        exact hnot _ (Array.getElem_mem hq) hb
      obtain ⟨a1, a2, a3⟩ := Oper.apart_spec (hfree j oj hoj hji hjun hnot)
      unfold stepI at h1 ⊢
      rw [hoj] at h1 ⊢
      refine step_same h1 (fun t ht => ?_) fun u h' e1 e2 q1 q2 k => ?_
      · rw [ha t, if_neg (fun e => a1 t e ht)]
      · refine ⟨fun d hd => k.1 d (hsub d hd), ih (listed.setIfInBounds j true) e2 e1 h' ?_ (ready_mono hr (Ne.symm hji)) ?_ ?_ ?_⟩
        · intro k ok hk hki hun hno
          refine hfree k ok hk hki ?_ hno
          by_cases hjk : j = k
          · subst hjk; exact hjun
          · rw [getD_set_ne true hjk] at hun; exact hun
        · refine hst env h e2 h' hy (fun t ht => ?_) (hT j h h' hw k.1)
          rw [q2 t, if_neg (fun e => a3 t e ht)]
        · intro t
          rw [q1 t, q2 t, ha t]
          by_cases x : oj.dst = some t <;> by_cases y : oi.dst = some t <;> simp [x, y]
          exact absurd x (a2 t y)
        · rw [Array.setIfInBounds_comm _ _ hji]
          exact k.2
end
end Go.Sim

/- Regions in whatever order; whole bodies: the predicate transformer, and that it is sound. -/
set_option linter.unusedSimpArgs false
namespace Go.Sim
open Go Go.RowKit

section
variable {P : Program} {N : Nat} {ops : Array Oper}

/-- A step that only reckons: one value, whatever the heap. -/
theorem calm_step {o : Oper} (hr : reckons P o.op = true) {env : Env} {h : AHeap} {K : Env → AHeap → Prop} (hs : stepA P N ops env h o K) :
    ∃ v, (∃ env1, After o env v env1 ∧ K env1 h) ∧ ∀ env' h', (∀ t ∈ o.looksAt ops, env.get t = env'.get t) → Yd P N ops o v env' h' := by
  have core : ∀ (e : Env) (A : AVal → AHeap → Prop), opA P e h o A → ∃ v, A v h ∧ ∀ (e2 : Env) (h2 : AHeap) (B : AVal → AHeap → Prop), (∀ x ∈ o.op.operands, ev e x = ev e2 x) → B v h2 → opA P e2 h2 o B := by
    intro e A ha
    obtain ⟨v, hv, r⟩ := det_calmA e o _ ((opA_reckons hr).1 ha)
    exact ⟨v, hv, fun e2 h2 B hx hb => (opA_congr hx).1 ((opA_reckons hr).2 (r (fun v => B v h2) hb))⟩
  have put : ∀ {e : Env} {v : AVal} {K : Env → Prop}, putA N e o.dst v K → (∃ e1, (∀ t, e1.get t = if o.dst = some t then v else e.get t) ∧ K e1) ∧ ∀ (e2 : Env) (K2 : Env → Prop), (∀ e3, (∀ t, e3.get t = if o.dst = some t then v else e2.get t) → K2 e3) → putA N e2 o.dst v K2 := by
    intro e v K hp
    unfold putA at *
    cases hd : o.dst with
    | none => simp only [hd] at hp ⊢; exact ⟨⟨e, by simp, hp⟩, fun e2 K2 h => h e2 (by simp)⟩
    | some d =>
      simp only [hd] at hp ⊢
      have hc := chk_elim hp
      refine ⟨⟨_, ?_, hc.2⟩, fun e2 K2 h => ?_⟩
      · intro t; rw [Env.get_set]; by_cases q : t = d
        · subst q; simp
        · rw [if_neg q, if_neg (by simp; exact fun x => q x.symm)]
      · unfold chk; rw [decide_eq_true hc.1]
        refine h _ fun t => ?_
        rw [Env.get_set]; by_cases q : t = d
        · subst q; simp
        · rw [if_neg q, if_neg (by simp; exact fun x => q x.symm)]
  unfold stepA at hs
  cases hg : o.guard with
  | none =>
    simp only [hg] at hs
    obtain ⟨v, hv, r⟩ := core env _ hs
    obtain ⟨⟨e1, h1, k1⟩, q⟩ := put hv
    refine ⟨v, ⟨e1, h1, k1⟩, fun env' h' hl K hK => ?_⟩
    unfold stepA
    simp only [hg]
    exact r env' h' _ (ev_agree hl) (q env' _ fun e3 a => hK e3 a)
  | some g =>
    obtain ⟨j, want⟩ := g
    simp only [hg] at hs
    cases ht : (ops[j]?).bind (·.dst) with
    | none => simp only [ht] at hs
    | some t =>
      simp only [ht] at hs
      split at hs
      · rename_i b hb
        have htl : ∀ env' : Env, (∀ t ∈ o.looksAt ops, env.get t = env'.get t) → env'.get t = .bool b := fun env' hl => by
          rw [← hl t (List.mem_append_right _ (by simp [hg, ht]))]; exact hb
        have go : ∀ c, b = c → opA P (env.set t (.bool c)) h o (fun v h' => putA N (env.set t (.bool c)) o.dst v fun env' => K env' h') → want = c →
            ∃ v, (∃ env1, After o env v env1 ∧ K env1 h) ∧ ∀ env' h', (∀ t ∈ o.looksAt ops, env.get t = env'.get t) → Yd P N ops o v env' h' := by
          intro c e ho hw
          subst e; subst hw
          obtain ⟨v, hv, r⟩ := core _ _ ho
          obtain ⟨⟨e1, h1, k1⟩, q⟩ := put hv
          refine ⟨v, ⟨e1, fun s => by rw [h1 s, get_know hb], k1⟩, fun env' h' hl K hK => ?_⟩
          have hb' := htl env' hl
          unfold stepA
          simp only [hg, ht, hb']
          have body : opA P (env'.set t (.bool want)) h' o fun v h'_1 => putA N (env'.set t (.bool want)) o.dst v fun env' => K env' h'_1 :=
            r _ h' _ (ev_agree fun s hs => by rw [get_know hb, get_know hb']; exact hl s hs) (q _ _ fun e3 a => hK e3 fun s => by rw [a s, get_know hb'])
          cases want <;> exact body
        have skip : ∀ c, b = c → putA N (env.set t (.bool c)) o.dst (.tup []) (fun env' => K env' h) → want ≠ c →
            ∃ v, (∃ env1, After o env v env1 ∧ K env1 h) ∧ ∀ env' h', (∀ t ∈ o.looksAt ops, env.get t = env'.get t) → Yd P N ops o v env' h' := by
          intro c e ho hw
          subst e
          obtain ⟨⟨e1, h1, k1⟩, q⟩ := put ho
          refine ⟨.tup [], ⟨e1, fun s => by rw [h1 s, get_know hb], k1⟩, fun env' h' hl K hK => ?_⟩
          have hb' := htl env' hl
          unfold stepA
          simp only [hg, ht, hb']
          have body : putA N (env'.set t (.bool b)) o.dst (.tup []) fun env' => K env' h' := q _ _ fun e3 a => hK e3 fun s => by rw [a s, get_know hb']
          cases b <;> cases want <;> first | exact body | exact absurd rfl hw
        cases b
        · cases want
          · exact go false rfl hs rfl
          · exact skip false rfl hs (by simp)
        · cases want
          · exact skip true rfl hs (by simp)
          · exact go true rfl hs rfl
      · rename_i hb
        obtain ⟨⟨e1, h1, k1⟩, q⟩ := put hs
        refine ⟨.tup [], ⟨e1, h1, k1⟩, fun env' h' hl K hK => ?_⟩
        have hb' : env'.get t = .tup [] := by rw [← hl t (List.mem_append_right _ (by simp [hg, ht]))]; exact hb
        unfold stepA
        simp only [hg, ht, hb']
        exact q _ _ fun e3 a => hK e3 a
      · exact hs.elim

theorem load_congr {t : TypeId} {h h' : AHeap} {p : AVal} {k : AVal → Prop} (hc : (match isAgg P t with | true => hRow h' p (P.cellsOf t) = hRow h p (P.cellsOf t) | false => hCell h' p = hCell h p)) (hk : loadA P t h p k) : loadA P t h' p k := by
  unfold loadA at *
  cases ha : isAgg P t with
  | true => simp only [ha] at hc hk ⊢; rw [hc]; exact hk
  | false => simp only [ha] at hc hk ⊢; rw [hc]; exact hk

/-- A step that only loads: one value, wherever what it loads is held. -/
theorem load_step {i : Nat} {o : Oper} (hi : ops[i]? = some o) (hr : loads o.op = true) {env : Env} {h : AHeap} {K : Env → AHeap → Prop} (hs : stepA P N ops env h o K) :
    ∃ v, (∃ env1, After o env v env1 ∧ K env1 h) ∧ ∀ env' h', (∀ t ∈ o.looksAt ops, env.get t = env'.get t) → (holdOf P ops i env).ok h h' → Yd P N ops o v env' h' := by
  obtain ⟨t, a, hop⟩ : ∃ t a, o.op = .load t a := by
    cases hq : o.op <;> simp [hq, loads] at hr
    exact ⟨_, _, rfl⟩
  have hold : ∀ h', (holdOf P ops i env).ok h h' → (match isAgg P t with | true => hRow h' (ev env a) (P.cellsOf t) = hRow h (ev env a) (P.cellsOf t) | false => hCell h' (ev env a) = hCell h (ev env a)) := by
    intro h' hh
    unfold holdOf Hold.ok at hh
    rw [hi] at hh
    simp only [hop] at hh
    cases ha : isAgg P t <;> simp only [ha] at hh ⊢ <;> exact hh
  have core : ∀ (e : Env) (A : AVal → AHeap → Prop), (∀ x ∈ o.op.operands, ev env x = ev e x) → opA P e h o A → ∃ v, A v h ∧ ∀ (e2 : Env) (h2 : AHeap) (B : AVal → AHeap → Prop), (∀ x ∈ o.op.operands, ev e x = ev e2 x) → (holdOf P ops i env).ok h h2 → B v h2 → opA P e2 h2 o B := by
    intro e A hx0 ha
    have hxa : ev env a = ev e a := hx0 a (by simp [hop, Op.operands])
    unfold opA at ha
    simp only [hop] at ha
    have hc := chk_elim ha
    obtain ⟨v, hv, r⟩ := det_loadA t h (ev e a) _ hc.2
    refine ⟨v, hv, fun e2 h2 B hx hh hb => (opA_congr hx).1 ?_⟩
    unfold opA
    simp only [hop]
    unfold chk; rw [decide_eq_true hc.1]
    have := hold h2 hh
    rw [hxa] at this
    exact load_congr this (r (fun v => B v h2) hb)
  have put : ∀ {e : Env} {v : AVal} {K : Env → Prop}, putA N e o.dst v K → (∃ e1, (∀ t, e1.get t = if o.dst = some t then v else e.get t) ∧ K e1) ∧ ∀ (e2 : Env) (K2 : Env → Prop), (∀ e3, (∀ t, e3.get t = if o.dst = some t then v else e2.get t) → K2 e3) → putA N e2 o.dst v K2 := by
    intro e v K hp
    unfold putA at *
    cases hd : o.dst with
    | none => simp only [hd] at hp ⊢; exact ⟨⟨e, by simp, hp⟩, fun e2 K2 h => h e2 (by simp)⟩
    | some d =>
      simp only [hd] at hp ⊢
      have hc := chk_elim hp
      refine ⟨⟨_, ?_, hc.2⟩, fun e2 K2 h => ?_⟩
      · intro t; rw [Env.get_set]; by_cases q : t = d
        · subst q; simp
        · rw [if_neg q, if_neg (by simp; exact fun x => q x.symm)]
      · unfold chk; rw [decide_eq_true hc.1]
        refine h _ fun t => ?_
        rw [Env.get_set]; by_cases q : t = d
        · subst q; simp
        · rw [if_neg q, if_neg (by simp; exact fun x => q x.symm)]
  unfold stepA at hs
  cases hg : o.guard with
  | none =>
    simp only [hg] at hs
    obtain ⟨v, hv, r⟩ := core env _ (fun _ _ => rfl) hs
    obtain ⟨⟨e1, h1, k1⟩, q⟩ := put hv
    refine ⟨v, ⟨e1, h1, k1⟩, fun env' h' hl hh K hK => ?_⟩
    unfold stepA
    simp only [hg]
    exact r env' h' _ (ev_agree hl) hh (q env' _ fun e3 a => hK e3 a)
  | some g =>
    obtain ⟨j, want⟩ := g
    simp only [hg] at hs
    cases ht : (ops[j]?).bind (·.dst) with
    | none => simp only [ht] at hs
    | some t =>
      simp only [ht] at hs
      split at hs
      · rename_i b hb
        have htl : ∀ env' : Env, (∀ t ∈ o.looksAt ops, env.get t = env'.get t) → env'.get t = .bool b := fun env' hl => by
          rw [← hl t (List.mem_append_right _ (by simp [hg, ht]))]; exact hb
        have go : ∀ c, b = c → opA P (env.set t (.bool c)) h o (fun v h' => putA N (env.set t (.bool c)) o.dst v fun env' => K env' h') → want = c →
            ∃ v, (∃ env1, After o env v env1 ∧ K env1 h) ∧ ∀ env' h', (∀ t ∈ o.looksAt ops, env.get t = env'.get t) → (holdOf P ops i env).ok h h' → Yd P N ops o v env' h' := by
          intro c e ho hw
          subst e; subst hw
          obtain ⟨v, hv, r⟩ := core _ _ (ev_agree (ops := ops) fun s _ => by rw [get_know hb]) ho
          obtain ⟨⟨e1, h1, k1⟩, q⟩ := put hv
          refine ⟨v, ⟨e1, fun s => by rw [h1 s, get_know hb], k1⟩, fun env' h' hl hh K hK => ?_⟩
          have hb' := htl env' hl
          unfold stepA
          simp only [hg, ht, hb']
          have body : opA P (env'.set t (.bool want)) h' o fun v h'_1 => putA N (env'.set t (.bool want)) o.dst v fun env' => K env' h'_1 :=
            r _ h' _ (ev_agree fun s hs => by rw [get_know hb, get_know hb']; exact hl s hs) hh (q _ _ fun e3 a => hK e3 fun s => by rw [a s, get_know hb'])
          cases want <;> exact body
        have skip : ∀ c, b = c → putA N (env.set t (.bool c)) o.dst (.tup []) (fun env' => K env' h) → want ≠ c →
            ∃ v, (∃ env1, After o env v env1 ∧ K env1 h) ∧ ∀ env' h', (∀ t ∈ o.looksAt ops, env.get t = env'.get t) → (holdOf P ops i env).ok h h' → Yd P N ops o v env' h' := by
          intro c e ho hw
          subst e
          obtain ⟨⟨e1, h1, k1⟩, q⟩ := put ho
          refine ⟨.tup [], ⟨e1, fun s => by rw [h1 s, get_know hb], k1⟩, fun env' h' hl _ K hK => ?_⟩
          have hb' := htl env' hl
          unfold stepA
          simp only [hg, ht, hb']
          have body : putA N (env'.set t (.bool b)) o.dst (.tup []) fun env' => K env' h' := q _ _ fun e3 a => hK e3 fun s => by rw [a s, get_know hb']
          cases b <;> cases want <;> first | exact body | exact absurd rfl hw
        cases b
        · cases want
          · exact go false rfl hs rfl
          · exact skip false rfl hs (by simp)
        · cases want
          · exact skip true rfl hs (by simp)
          · exact go true rfl hs rfl
      · rename_i hb
        obtain ⟨⟨e1, h1, k1⟩, q⟩ := put hs
        refine ⟨.tup [], ⟨e1, h1, k1⟩, fun env' h' hl _ K hK => ?_⟩
        have hb' : env'.get t = .tup [] := by rw [← hl t (List.mem_append_right _ (by simp [hg, ht]))]; exact hb
        unfold stepA
        simp only [hg, ht, hb']
        exact q _ _ fun e3 a => hK e3 a
      · exact hs.elim

theorem keep_ext {env env' : Env} (h : EnvEq env env') (ks : List Nat) : env.keep ks = env'.keep ks := List.map_congr_left fun t _ => by rw [h t]
theorem Hold.ok_trans {d : Hold} {a b c : AHeap} (h : d.ok a b) (k : d.ok b c) : d.ok a c := by
  unfold Hold.ok at *; split at h <;> simp_all

theorem draw_any {ks : List Nat} {K : Env → AHeap → Prop} : ∀ (f : Nat) (listed : Array Bool) (hs : List Hold) (env : Env) (h : AHeap), drawA P N ops ks K f listed hs env h →
    anyH P N ops (fun env h => K (env.keep ks) h) hs f listed env h
  | 0, listed, hs, env, h, hd => by
    unfold drawA at hd
    split at hd
    · rename_i hr; exact ⟨hr, hd⟩
    · exact hd.elim
  | f + 1, listed, hs, env, h, hd => by
    have hK : ∀ e e' h, EnvEq e e' → K (e.keep ks) h → K (e'.keep ks) h := fun e e' h he hk => by rw [← keep_ext he]; exact hk
    unfold drawA at hd
    split at hd
    · rename_i hr; exact ⟨fun _ => hd, by rw [hr]; simp⟩
    · rename_i hne
      split at hd
      · rename_i i hi
        have hmem := List.mem_of_find?_eq_some hi
        have hp := List.find?_some hi
        simp only [Bool.and_eq_true] at hp
        obtain ⟨hp1, hp2⟩ := hp
        unfold opIs at hp1
        split at hp1
        · rename_i o ho
          unfold stepI at hd
          rw [ho] at hd
          obtain ⟨v, ⟨env1, ha, hk⟩, hy⟩ := calm_step hp1 hd
          exact anyH_first (T := fun _ _ => True) (Y := fun e _ => ∀ t ∈ o.looksAt ops, env.get t = e.get t) hK (hs' := hs) (fun d hd => hd) ho (fun _ _ _ _ _ => trivial) (fun e h' he => hy e h' he)
            (fun e1 _ e2 _ y hl _ t ht => (y t ht).trans (hl t ht)) f listed env env1 h (Region.free_spec ho hp2) hmem (fun _ _ => rfl) ha (draw_any f _ _ _ _ hk)
        · cases hp1
      · split at hd
        · rename_i i hi
          have hi' : (Region.ready .any ops listed).find? (fun i => opIs ops loads i && Region.free .any ops listed i) = some i := by
            split at hi
            · cases hi
            · exact hi
          have hmem := List.mem_of_find?_eq_some hi'
          have hp := List.find?_some hi'
          simp only [Bool.and_eq_true] at hp
          obtain ⟨hp1, hp2⟩ := hp
          unfold opIs at hp1
          split at hp1
          · rename_i o ho
            unfold stepI at hd
            rw [ho] at hd
            obtain ⟨v, ⟨env1, ha, hk⟩, hy⟩ := load_step ho hp1 hd
            have hid : (holdOf P ops i env).i = i := by unfold holdOf; split <;> (try split) <;> (try split) <;> rfl
            exact anyH_first (T := fun a b => (holdOf P ops i env).ok a b) (Y := fun e h' => (∀ t ∈ o.looksAt ops, env.get t = e.get t) ∧ (holdOf P ops i env).ok h h') hK (hs' := holdOf P ops i env :: hs) (fun d hd => List.mem_cons_of_mem _ hd) ho
              (fun j a b hw hall => by
                have := hall _ (List.mem_cons_self ..)
                rw [hid, hw] at this
                exact this.resolve_left (by simp)) (fun e h' he => hy e h' he.1 he.2)
              (fun e1 _ e2 _ y hl ht => ⟨fun t htt => (y.1 t htt).trans (hl t htt), Hold.ok_trans y.2 ht⟩) f listed env env1 h (Region.free_spec ho hp2) hmem ⟨fun _ _ => rfl, Hold.ok_refl _ _⟩ ha (draw_any f _ _ _ _ hk)
          · cases hp1
        · refine ⟨fun hr => absurd hr hne, fun i hi => ?_⟩
          have := allR_elim hd i hi
          unfold stepI at this ⊢
          cases ho : ops[i]? with
          | none =>
            rw [ho] at this
            obtain ⟨a, b⟩ := holdsK_elim this
            exact ⟨a, draw_any f _ _ _ _ b⟩
          | some o =>
            rw [ho] at this
            refine step_same this (fun _ _ => rfl) fun v h' e1 e2 q1 q2 k => ?_
            obtain ⟨a, b⟩ := holdsK_elim k
            exact ⟨a, anyH_weak (fun d hd => hd) f hK (fun t => by rw [q1 t, q2 t]) (draw_any f _ _ _ _ b)⟩
end
end Go.Sim

/- Whole bodies: the predicate transformer 'den' over the model's code, and that it is sound. -/
set_option linter.unusedSimpArgs false
namespace Go.Sim
open Go Go.RowKit

/-- The first region's number in a piece of code. -/
def firstReg : Code → Nat
  | .region id _ _ => id
  | .seq a _ => firstReg a
  | .block _ c => firstReg c
  | .loop c => firstReg c
  | .scope c => firstReg c
  | _ => 0
abbrev Keeps := List (Nat × List Nat)
def Keeps.find : Keeps → Nat → Option (List Nat)
  | [], _ => none
  | (i, ks) :: r, n => match Nat.beq i n with | true => some ks | false => Keeps.find r n
/-- A loop: what holds at its head holds again behind each round, until it is left. -/
inductive Loop (B : Env → AHeap → (Exit → Env → AHeap → Prop) → Prop) (ks : List Nat) (K : Exit → Env → AHeap → Prop) : Env → AHeap → Prop
  | mk {env : Env} {h : AHeap} (R : Exit → Env → AHeap → Prop) (hb : B env h R) (hn : ∀ env' h', R .normal env' h' → Loop B ks K (env'.keep ks) h')
      (hx : ∀ e env' h', e ≠ .normal → R e env' h' → K e env' h') : Loop B ks K env h
def onExit (id : Nat) (K : Exit → Env → AHeap → Prop) : Exit → Env → AHeap → Prop
  | .exit id', env, h => (match Nat.beq id' id with | true => K .normal env h | false => K (.exit id') env h)
  | e, env, h => K e env h
def andThen (next : Env → AHeap → Prop) (K : Exit → Env → AHeap → Prop) : Exit → Env → AHeap → Prop
  | .normal, env, h => next env h
  | e, env, h => K e env h
/-- A place where the text is cut. -/
structure At (K : Exit → Env → AHeap → Prop) (e : Exit) (env : Env) (h : AHeap) : Prop where
  get : K e env h
def left (kp : Keeps) (r : Nat) (K : Exit → Env → AHeap → Prop) : Exit → Env → AHeap → Prop
  | .exit id, env, h => At K (.exit id) (env.keep ((kp.find (3000000 + r)).getD [])) h
  | e, env, h => K e (env.keep ((kp.find (3000000 + r)).getD [])) h
theorem left_ok {kp : Keeps} {r : Nat} {K : Exit → Env → AHeap → Prop} {e : Exit} {env : Env} {h : AHeap} (hk : left kp r K e env h) : K e (env.keep ((kp.find (3000000 + r)).getD [])) h := by
  cases e <;> first | exact hk.get | exact hk
/-- The machine's post of an abstract one. -/
def LK (P : Program) (base N : Nat) (w0 : World) (μ : List Pl) (K : Exit → Env → AHeap → Prop) (e : Exit) (a : Act) (w : World) : Prop := Post P base N w0 μ (K e) a w
/-- Code does what K says: told of the machine. -/
structure Den (P : Program) (N : Nat) (c : Code) (env : Env) (h : AHeap) (K : Exit → Env → AHeap → Prop) : Prop where
  ok : ∀ (base : Nat) (w0 : World) (μ : List Pl) (a : Act) (w : World), St P base N w0 μ env h a w → c.wp P (LK P base N w0 μ K) a w
/-- keeps: 1000000 + r: what is kept at the head of the loop that begins with region r, 3000000 + r: behind it; 2000000 + r: behind region r, whose order is open; 4000000 + r: ahead of what begins with region r and follows something else. -/
def den (P : Program) (N : Nat) (kp : Keeps) : Code → Env → AHeap → (Exit → Env → AHeap → Prop) → Prop
  | .skip, env, h, K => K .normal env h
  | .region id ops draw, env, h, K =>
    (match draw with
    | false => regA P N ops ops.toList env h fun env' h' => K .normal env' h'
    | true => chk (P.follows .mixedOrders = true) (chk (Region.noSelect ops = true) (drawA P N ops ((kp.find (2000000 + id)).getD []) (fun env' h' => K .normal env' h') ops.size (Array.replicate ops.size false) [] env h)))
  | .seq a b, env, h, K => den P N kp a env h (andThen (fun env' h' => (match kp.find (4000000 + firstReg b) with | some ks => Den P N b (env'.keep ks) h' K | none => den P N kp b env' h' K)) K)
  | .cond c a b, env, h, K => (match ev env c with | .bool t => bcase t (den P N kp a env h K) (den P N kp b env h K) | _ => False)
  | .block id c, env, h, K => den P N kp c env h (onExit id K)
  | .loop c, env, h, K => Loop (Den P N c) ((kp.find (1000000 + firstReg c)).getD []) (left kp (firstReg c) K) (env.keep ((kp.find (1000000 + firstReg c)).getD [])) h
  | .exit id, env, h, K => K (.exit id) env h
  | .ret, env, h, K => K .ret env h
  | _, _, _, _ => False

/-- What a round's end asks: the invariant at the loop's head, or what follows. -/
def rnd (ks : List Nat) (I : Env → AHeap → Prop) (K : Exit → Env → AHeap → Prop) : Exit → Env → AHeap → Prop
  | .normal, env, h => I (env.keep ks) h
  | e, env, h => K e env h
def letH (h : AHeap) (K : AHeap → Prop) : Prop := K h
section
variable {P : Program} {base N : Nat} {w0 : World} {μ : List Pl} {h : AHeap} {w : World}

theorem any_ok {ops : Array Oper} {hs : List Hold} {K : Env → AHeap → Prop} {Q : Exit → Act → World → Prop} : ∀ (f : Nat) {listed : Array Bool} {μ : List Pl} {h : AHeap} {w : World} {env : Env} {a : Act}, St P base N w0 μ env h a w →
    anyH P N ops K hs f listed env h → (∀ a w, Post P base N w0 μ K a w → Q .normal a w) → wpAny P .any ops Q f listed a w
  | 0, _, μ, h, w, env, a, s, hk, hq => ⟨hk.1, hq a w ⟨μ, env, h, Ext.refl _, s, hk.2⟩⟩
  | f + 1, listed, μ, h, w, env, a, s, hk, hq => by
    refine ⟨fun hr => hq a w ⟨μ, env, h, Ext.refl _, s, hk.1 hr⟩, fun i hi => ?_⟩
    have h1 := hk.2 i hi
    unfold stepI at h1
    unfold wpOp
    cases ho : ops[i]? with
    | none => rw [ho] at h1; exact any_ok f s h1.2 hq
    | some o =>
      rw [ho] at h1
      have hstep := step_ok (next := wpAny P .any ops Q f (listed.setIfInBounds i true)) (Q := Q) s h1 (fun a' w' ⟨μ', env', h', hx, s', hk'⟩ => any_ok f s' hk'.2 (fun a w ⟨μ2, env2, h2, hx2, s2, k2⟩ => hq a w ⟨μ2, env2, h2, hx.trans hx2, s2, k2⟩))
      simp only
      split
      · rename_i hw; rw [if_pos hw] at hstep; exact .inl hstep
      · rename_i hw; rw [if_neg hw] at hstep; exact hstep

theorem Post.ext {μ μ' : List Pl} (hx : Ext μ μ') {K K' : Env → AHeap → Prop} (hk : ∀ e h, K e h → K' e h) {a : Act} {w : World} (h : Post P base N w0 μ' K a w) : Post P base N w0 μ K' a w :=
  let ⟨μ2, env, h2, x, s, k⟩ := h
  ⟨μ2, env, h2, hx.trans x, s, hk _ _ k⟩
theorem St.keep {env : Env} {a : Act} (s : St P base N w0 μ env h a w) (ks : List Nat) : St P base N w0 μ (env.keep ks) h a w := ⟨s.rel, s.env.keep ks, s.size, s.defers⟩
theorem St.drew {env : Env} {a : Act} (s : St P base N w0 μ env h a w) : St P base N w0 μ env h a { w with drawn := w.drawn + 1 } :=
  ⟨s.rel.grow ⟨rfl, rfl, rfl, Nat.le_refl _, fun _ _ => rfl⟩, s.env, s.size, s.defers⟩

theorem loop_ok {c : Code} {B : Env → AHeap → (Exit → Env → AHeap → Prop) → Prop} {ks : List Nat} {K : Exit → Env → AHeap → Prop} {μ0 : List Pl}
    (hB : ∀ (env : Env) (h : AHeap) (R : Exit → Env → AHeap → Prop) (μ : List Pl) (a : Act) (w : World), B env h R → St P base N w0 μ env h a w → c.wp P (LK P base N w0 μ R) a w) :
    ∀ {env : Env} {h : AHeap}, Loop B ks K env h → ∀ (μ : List Pl) (a : Act) (w : World), Ext μ0 μ → St P base N w0 μ env h a w → ∀ (b : Frame) (k : List Item) (cs : List Frame),
      ∃ e a' w', LK P base N w0 μ0 K e a' w' ∧ Arrives P (lone (b.at a (.code c :: .inLoop c :: k)) cs w) b k cs e a' w' := by
  intro env h hl
  induction hl with
  | @mk env h R hb hn hx ih =>
    intro μ a w hμ s b k cs
    obtain ⟨e, a1, w1, hq, harr⟩ := hB env h R μ a w hb s b (.inLoop c :: k) cs
    obtain ⟨μ1, env1, h1, hx1, s1, hr⟩ := hq
    have out : e ≠ .normal → LK P base N w0 μ0 K e a1 w1 := fun hne => ⟨μ1, env1, h1, hμ.trans hx1, s1, hx e env1 h1 hne hr⟩
    cases e with
    | normal =>
      obtain ⟨e2, a2, w2, hq2, harr2⟩ := ih env1 h1 hr μ1 a1 w1 (hμ.trans hx1) (s1.keep ks) b k cs
      exact ⟨e2, a2, w2, hq2, .of_steps (Steps.trans harr (.one step_inLoop)) harr2⟩
    | exit id => exact ⟨_, a1, w1, out (by simp), .pass (x := .inLoop c) rfl (fun _ _ => .inl (by simp)) harr⟩
    | goto l => exact ⟨_, a1, w1, out (by simp), .pass (x := .inLoop c) rfl (fun _ _ => .inl (by simp)) harr⟩
    | ret => exact ⟨_, a1, w1, out (by simp), .pass (x := .inLoop c) rfl (fun _ _ => .inl (by simp)) harr⟩
    | panic ch => exact ⟨_, a1, w1, out (by simp), .pass (x := .inLoop c) rfl (fun _ _ => .inl (by simp)) harr⟩
    | outgrown => exact ⟨_, a1, w1, out (by simp), .pass (x := .inLoop c) rfl (fun _ _ => .inl (by simp)) harr⟩

theorem den_ok (kp : Keeps) : ∀ (c : Code) (env : Env) (h : AHeap) (K : Exit → Env → AHeap → Prop) (μ : List Pl) (a : Act) (w : World), den P N kp c env h K → St P base N w0 μ env h a w → c.wp P (LK P base N w0 μ K) a w
  | .skip, env, h, K, μ, a, w, hk, s => wp_skip ⟨μ, env, h, Ext.refl _, s, hk⟩
  | .region id ops draw, env, h, K, μ, a, w, hk, s => by
    unfold den at hk
    split at hk
    · exact wp_region_list (reg_ok _ s hk fun a w hp => hp)
    · replace hk := chk_elim hk
      obtain ⟨hm, hk⟩ := hk
      replace hk := chk_elim hk
      obtain ⟨_, hk⟩ := hk
      exact wp_region_any hm (any_ok _ s.drew (draw_any _ _ _ _ _ hk) fun a w hp => by
        obtain ⟨μ', env', h', x, s2, k⟩ := hp
        exact ⟨μ', _, h', x, s2.keep _, k⟩)
  | .seq x y, env, h, K, μ, a, w, hk, s => by
    unfold den at hk
    refine wp_seq (wp_mono (den_ok kp x env h _ μ a w hk s) fun e a w hp => ?_)
    obtain ⟨μ', env', h', hx, s', k⟩ := hp
    cases e with
    | normal =>
      replace k : (match kp.find (4000000 + firstReg y) with | some ks => Den P N y (env'.keep ks) h' K | none => den P N kp y env' h' K) := k
      split at k
      · exact wp_mono (k.ok base w0 μ' a w (s'.keep _)) fun e a w hp => Post.ext hx (fun _ _ k => k) hp
      · exact wp_mono (den_ok kp y _ h' K μ' a w k s') fun e a w hp => Post.ext hx (fun _ _ k => k) hp
    | _ => exact ⟨μ', env', h', hx, s', k⟩
  | .cond c x y, env, h, K, μ, a, w, hk, s => by
    unfold den at hk
    split at hk
    · rename_i t ht
      have hv := ev_ok s.env c
      rw [ht] at hv
      have hc : a.eval c = .bool t := by
        cases hy : a.eval c with
        | bool b => rw [hy] at hv; cases hv; rfl
        | _ => rw [hy] at hv; cases hv
      refine wp_cond hc ?_
      cases t
      · exact den_ok kp y env h K μ a w hk s
      · exact den_ok kp x env h K μ a w hk s
    · exact hk.elim
  | .block id c, env, h, K, μ, a, w, hk, s => by
    unfold den at hk
    refine wp_block (wp_mono (den_ok kp c env h _ μ a w hk s) fun e a w hp => ?_)
    obtain ⟨μ', env', h', hx, s', k⟩ := hp
    cases e with
    | exit id' =>
      simp only [onExit] at k
      simp only [Exit.inBlock]
      cases hb : Nat.beq id' id with
      | true => rw [hb] at k; rw [if_pos (Nat.eq_of_beq_eq_true hb)]; exact ⟨μ', env', h', hx, s', k⟩
      | false => rw [hb] at k; rw [if_neg (Nat.ne_of_beq_eq_false hb)]; exact ⟨μ', env', h', hx, s', k⟩
    | _ => exact ⟨μ', env', h', hx, s', k⟩
  | .loop c, env, h, K, μ, a, w, hk, s => by
    unfold den at hk
    intro b k cs
    obtain ⟨e, a', w', hq, harr⟩ := loop_ok (μ0 := μ) (fun env h R μ a w hb s => hb.ok base w0 μ a w s) hk μ a w (Ext.refl _) (s.keep _) b k cs
    obtain ⟨μ', env', h', hx, s', k⟩ := hq
    exact ⟨e, a', w', ⟨μ', _, h', hx, s'.keep _, left_ok k⟩, .of_steps (.one step_loop) harr⟩
  | .exit id, env, h, K, μ, a, w, hk, s => wp_exit ⟨μ, env, h, Ext.refl _, s, hk⟩
  | .ret, env, h, K, μ, a, w, hk, s => wp_ret ⟨μ, env, h, Ext.refl _, s, hk⟩
  | .scope c, env, h, K, μ, a, w, hk, s => by unfold den at hk; exact hk.elim
  | .rangeFunc f ps x y, env, h, K, μ, a, w, hk, s => by unfold den at hk; exact hk.elim
  | .label l, env, h, K, μ, a, w, hk, s => by unfold den at hk; exact hk.elim
  | .goto l, env, h, K, μ, a, w, hk, s => by unfold den at hk; exact hk.elim
  | .refuse y, env, h, K, μ, a, w, hk, s => by unfold den at hk; exact hk.elim
end

theorem den_Den {P : Program} {N : Nat} {kp : Keeps} {c : Code} {env : Env} {h : AHeap} {K : Exit → Env → AHeap → Prop} (hk : den P N kp c env h K) : Den P N c env h K :=
  ⟨fun _ _ μ a w s => den_ok kp c env h K μ a w hk s⟩

def retL (P : Program) (env : Env) (h : AHeap) : List ResultVar → (List AVal → Prop) → Prop
  | [], K => K []
  | .tmp t :: r, K => retL P env h r fun vs => K (env.get t :: vs)
  | .cell a t :: r, K => chk ((P.underlying t).isSome = true) (loadA P t h (env.get a) fun v => retL P env h r fun vs => K (v :: vs))
def retA (P : Program) (rs : List ResultVar) (Q : AVal → AHeap → Prop) : Exit → Env → AHeap → Prop
  | .normal, env, h => retL P env h rs fun vs => (match vs with | [v] => Q v h | vs => Q (.tup vs) h)
  | .ret, env, h => retL P env h rs fun vs => (match vs with | [v] => Q v h | vs => Q (.tup vs) h)
  | _, _, _ => False
section
variable {P : Program} {base N : Nat} {w0 : World} {μ : List Pl} {h : AHeap} {w : World}
theorem retL_ok {env : Env} {a : Act} (s : St P base N w0 μ env h a w) : ∀ (rs : List ResultVar) {K : List AVal → Prop}, retL P env h rs K →
    ∃ xs vs, (rs.mapM fun (x : ResultVar) => (match x with | .tmp t => pure (a.tmps.getD t undef) | .cell b t => do loadVar t (← asAddr (a.tmps.getD b undef)) : Sem Value)).run P w = .ok xs w ∧ VRs μ vs xs ∧ K vs
  | [], K, hk => ⟨[], [], by simp, .nil, hk⟩
  | .tmp t :: r, K, hk => by
    obtain ⟨xs, vs, hr, hv, hk⟩ := retL_ok s r hk
    refine ⟨a.tmps.getD t undef :: xs, env.get t :: vs, ?_, .cons (s.env t) hv, hk⟩
    rw [List.mapM_cons]
    simp only [Sem.run_bind, Sem.run_pure, Result.andThen_ok, hr]
  | .cell b t :: r, K, hk => by
    unfold retL at hk
    replace hk := chk_elim hk
    obtain ⟨hu, hk⟩ := hk
    obtain ⟨y, v, hl, hv, hk⟩ := load_ok s.rel (s.env b) hu hk
    obtain ⟨xs, vs, hr, hvs, hk⟩ := retL_ok s r hk
    refine ⟨y :: xs, v :: vs, ?_, .cons hv hvs, hk⟩
    rw [List.mapM_cons]
    have hl2 : (do loadVar t (← asAddr (a.tmps.getD b undef)) : Sem Value).run P w = .ok y w := by
      unfold Instr.loadAt at hl
      cases hx : a.tmps.getD b undef with
      | pointer p =>
        cases p with
        | none => rw [hx] at hl; simp [Instr.sureAddr] at hl
        | some q => rw [hx] at hl; simpa [Instr.sureAddr, asAddr] using hl
      | _ => rw [hx] at hl; simp [Instr.sureAddr] at hl
    simp only [Sem.run_bind] at hl2
    simp only [Sem.run_bind, hl2, Sem.run_pure, Result.andThen_ok, hr]

theorem args_env : ∀ (args : List AVal) (xs : List Value) (i : Nat) (t : Nat), VRs μ args xs → VR μ ((Env.args i args).get t) (((List.replicate i undef) ++ xs)[t]?.getD undef)
  | [], xs, i, t, h => .undef _
  | v :: r, xs, i, t, h => by
    cases h with
    | @cons _ x _ ys hv hr =>
    simp only [Env.args, Env.get]
    cases hb : Nat.beq i t with
    | true =>
      have e := Nat.eq_of_beq_eq_true hb
      subst e
      rw [List.getElem?_append_right (by simp)]
      simpa using hv
    | false =>
      have ne := Nat.ne_of_beq_eq_false hb
      have ih := args_env r ys (i + 1) t hr
      by_cases hlt : t < i
      · rw [List.getElem?_append_left (by simpa using hlt)]
        rw [List.getElem?_append_left (by simp; omega)] at ih
        simp [hlt, show t < i + 1 by omega] at ih ⊢
        exact ih
      · rw [List.getElem?_append_right (by simp; omega)] at ih ⊢
        simp only [List.length_replicate] at ih ⊢
        rw [show t - i = (t - (i + 1)) + 1 by omega]
        simpa using ih

/-- A function's contract out of its body. -/
theorem SCall.of_body {n : FuncId} {fn : Func} {c : Code} {args : List AVal} {h : AHeap} {Q : AVal → AHeap → Prop} (kp : Keeps) (hf : P.funcs[n]? = some fn) (hb : fn.body = some c) (hname : (fn.name == "runtime.NumGoroutine") = false)
    (hn : args.length ≤ fn.ntmps) (hd : den P fn.ntmps kp c (Env.args 0 args) h (retA P fn.results.toList Q)) : SCall P n args h Q := by
  refine ⟨⟨fn, hf, by rw [hb]; rfl, hname⟩, fun base w0 μ w xs r hx => ?_⟩
  have hl := hx.length
  simp only [Array.length_toList] at hl
  refine calls_of_wp hf hb ?_
  have s : St P base fn.ntmps w0 μ (Env.args 0 args) h { tmps := xs ++ Array.replicate (fn.ntmps - xs.size) undef, defers := [] } w := by
    refine ⟨r, fun t => ?_, by simp; omega, rfl⟩
    have := args_env args xs.toList 0 t hx
    simp only [List.replicate_zero, List.nil_append, Array.getElem?_toList] at this
    simp only [Array.getD_eq_getD_getElem?, Array.getElem?_append, Array.getElem?_replicate]
    by_cases h1 : t < xs.size
    · simp only [h1, if_true]; exact this
    · rw [Array.getElem?_eq_none (by omega)] at this
      simp only [h1, if_false]
      split <;> simpa using this
  refine wp_mono (den_ok kp c _ h _ μ _ w hd s) fun e a w hp => ?_
  obtain ⟨μ', env', h', hx', s', hk⟩ := hp
  have fin : retL P env' h' fn.results.toList (fun vs => (match vs with | [v] => Q v h' | vs => Q (.tup vs) h')) →
      a.defers = [] ∧ ∃ v, (results fn a.tmps).run P w = .ok v w ∧ ∃ x μ' v' h', Ending.returned v = .returned x ∧ Ext μ μ' ∧ Rel P base w0 μ' h' w ∧ VR μ' v' x ∧ Q v' h' := by
    intro hk
    obtain ⟨ys, vs, hr, hv, hk⟩ := retL_ok s' _ hk
    refine ⟨s'.defers, (if h : ys.toArray.size = 1 then ys.toArray[0] else .tuple ys.toArray), ?_, ?_⟩
    · unfold results
      rw [Array.mapM_eq_mapM_toList]
      simp only [Sem.run_bind, Sem.run_map]
      erw [hr]
      simp only [Result.andThen_ok, Sem.run_pure]
    · have hlen := hv.length
      match vs, ys, hv, hk with
      | [v], [y], .cons hvy .nil, hk => exact ⟨y, μ', v, h', by simp, hx', s'.rel, hvy, hk⟩
      | [], [], .nil, hk => exact ⟨_, μ', .tup [], h', rfl, hx', s'.rel, .tup .nil, hk⟩
      | v :: u :: vs, y :: z :: ys, hv, hk => exact ⟨.tuple (y :: z :: ys).toArray, μ', .tup (v :: u :: vs), h', by simp, hx', s'.rel, .tup (by simpa using hv), hk⟩
  cases e with
  | normal => exact fin hk
  | ret => exact fin hk
  | _ => exact hk.elim
end
end Go.Sim

/- What the printed texts speak of: readings of a loop's environment, pieces of code, a loop's rule. -/
set_option linter.unusedSimpArgs false
namespace Go.Sim
open Go Go.RowKit

abbrev Pt := Option (Nat × Nat)
abbrev QT := AVal → AHeap → Prop
abbrev KT := Exit → Env → AHeap → Prop
def cod (f : Func) : Code := (f.body).getD .skip
def _root_.Go.Code.sub : Code → List Nat → Code
  | c, [] => c
  | .seq a _, 0 :: p => a.sub p
  | .seq _ b, _ :: p => b.sub p
  | .cond _ a _, 0 :: p => a.sub p
  | .cond _ _ b, _ :: p => b.sub p
  | .block _ c, _ :: p => c.sub p
  | .loop c, _ :: p => c.sub p
  | c, _ => c

def eVal (k : Nat) (env : Env) (K : AVal → Env → Prop) : Prop := match env with | (k', v) :: r => chk (k' = k) (K v r) | [] => False
def eNil (env : Env) (K : Prop) : Prop := match env with | [] => K | _ => False
def eInt (k : IntKind) (v : AVal) (K : Int → Prop) : Prop := match v with | .int k' n => chk (k' = k) (K n) | _ => False
def eUndef (v : AVal) (K : Prop) : Prop := match v with | .undef => K | _ => False
def eFn (f : Nat) (v : AVal) (K : List AVal → Prop) : Prop := match v with | .fn g cs => chk (g = f) (K cs) | _ => False
def eNilFn (v : AVal) (K : Prop) : Prop := match v with | .nilFn => K | _ => False
def eIter (v : AVal) (K : Nat → Prop) : Prop := match v with | .iter r => K r | _ => False
theorem eVal_elim {k : Nat} {env : Env} {K : AVal → Env → Prop} (h : eVal k env K) : ∃ v r, env = (k, v) :: r ∧ K v r := by
  unfold eVal at h
  split at h
  · replace h := chk_elim h; obtain ⟨rfl, h⟩ := h; exact ⟨_, _, rfl, h⟩
  · exact h.elim
theorem eNil_elim {env : Env} {K : Prop} (h : eNil env K) : env = [] ∧ K := by unfold eNil at h; split at h; exact ⟨rfl, h⟩; exact h.elim
theorem eInt_elim {k : IntKind} {v : AVal} {K : Int → Prop} (h : eInt k v K) : ∃ n, v = .int k n ∧ K n := by
  unfold eInt at h
  split at h
  · replace h := chk_elim h; obtain ⟨rfl, h⟩ := h; exact ⟨_, rfl, h⟩
  · exact h.elim
theorem eFn_elim {f : Nat} {v : AVal} {K : List AVal → Prop} (h : eFn f v K) : ∃ cs, v = .fn f cs ∧ K cs := by
  unfold eFn at h
  split at h
  · replace h := chk_elim h; obtain ⟨rfl, h⟩ := h; exact ⟨_, rfl, h⟩
  · exact h.elim
theorem xBool_elim {v : AVal} {K : Bool → Prop} (h : xBool (some v) K) : ∃ b, v = .bool b ∧ K b := by unfold xBool at h; split at h; · rename_i e; cases e; exact ⟨_, rfl, h⟩
                                                                                                      · exact h.elim
theorem xStr_elim {v : AVal} {K : List Nat → Prop} (h : xStr (some v) K) : ∃ b, v = .str b ∧ K b := by
  unfold xStr at h; split at h
  · rename_i e; cases e; exact ⟨_, rfl, h⟩
  · exact h.elim
theorem xPtr_elim {v : AVal} {K : Option (Nat × Nat) → Prop} (h : xPtr (some v) K) : ∃ b, v = .ptr b ∧ K b := by
  unfold xPtr at h; split at h
  · rename_i e; cases e; exact ⟨_, rfl, h⟩
  · exact h.elim
theorem xSl_elim {v : AVal} {K : Option (Nat × Nat) → Nat → Nat → Bool → Prop} (h : xSl (some v) K) : ∃ a n c e, v = .slice a n c e ∧ K a n c e := by
  unfold xSl at h; split at h
  · rename_i e; cases e; exact ⟨_, _, _, _, rfl, h⟩
  · exact h.elim
theorem xMap_elim {v : AVal} {K : Option Nat → Prop} (h : xMap (some v) K) : ∃ b, v = .map b ∧ K b := by
  unfold xMap at h; split at h
  · rename_i e; cases e; exact ⟨_, rfl, h⟩
  · exact h.elim
theorem xCons_elim {cs : List AVal} {K : AVal → List AVal → Prop} (h : xCons cs K) : ∃ c r, cs = c :: r ∧ K c r := by unfold xCons at h; split at h; exact ⟨_, _, rfl, h⟩; exact h.elim
theorem xNil_elim {cs : List AVal} {K : Prop} (h : xNil cs K) : cs = [] ∧ K := by unfold xNil at h; split at h; exact ⟨rfl, h⟩; exact h.elim

theorem Loop.inv2 {B : Env → AHeap → (Exit → Env → AHeap → Prop) → Prop} {ks : List Nat} {K : Exit → Env → AHeap → Prop} {G : Type} (I N : G → Env → AHeap → Prop) (m : G → Nat)
    (hr : ∀ g env h, I g env h → B env h (rnd ks (N g) K)) (hN : ∀ g env h, N g env h → ∃ g', m g' < m g ∧ I g' env h) (g : G) : ∀ {env : Env} {h : AHeap}, I g env h → Loop B ks K env h := by
  induction hn : m g using Nat.strongRecOn generalizing g with
  | _ n ih =>
    intro env h hI
    refine Loop.mk _ (hr g env h hI) ?_ ?_
    · intro env' h' hk
      obtain ⟨g', hlt, hI'⟩ := hN _ _ _ hk
      exact ih (m g') (hn ▸ hlt) g' rfl hI'
    · intro e env' h' hne hk
      cases e with
      | normal => exact absurd rfl hne
      | _ => exact hk
end Go.Sim

/- Readings of abstract heaps: rows, what stays the same, appending to a row of one's own. -/
set_option linter.unusedSimpArgs false
namespace Go.Sim
open Go Go.RowKit

@[simp] theorem xBool_some {b : Bool} {K : Bool → Prop} : xBool (some (.bool b)) K = K b := rfl
@[simp] theorem xInt_some {k : IntKind} {n : Int} {K : Int → Prop} : xInt k (some (.int k n)) K = K n := by simp [xInt]
@[simp] theorem xStr_some {s : List Nat} {K : List Nat → Prop} : xStr (some (.str s)) K = K s := rfl
@[simp] theorem xPtr_some {a : Option (Nat × Nat)} {K : Option (Nat × Nat) → Prop} : xPtr (some (.ptr a)) K = K a := rfl
@[simp] theorem xSl_some {a : Option (Nat × Nat)} {n c : Nat} {e : Bool} {K : Option (Nat × Nat) → Nat → Nat → Bool → Prop} : xSl (some (.slice a n c e)) K = K a n c e := rfl
@[simp] theorem xMap_some {a : Option Nat} {K : Option Nat → Prop} : xMap (some (.map a)) K = K a := rfl
@[simp] theorem xAny_some {v : AVal} {K : AVal → Prop} : xAny (some v) K = K v := rfl
@[simp] theorem xCons_cons {c : AVal} {r : List AVal} {K : AVal → List AVal → Prop} : xCons (c :: r) K = K c r := rfl
@[simp] theorem xNil_nil {K : Prop} : xNil [] K = K := rfl
@[simp] theorem xRow_some {cs : List AVal} {K : List AVal → Prop} : xRow (some cs) K = K cs := rfl
@[simp] theorem xAgg_agg {cs : List AVal} {K : List AVal → Prop} : xAgg (.agg cs) K = K cs := rfl
@[simp] theorem xTup_tup {cs : List AVal} {K : List AVal → Prop} : xTup (.tup cs) K = K cs := rfl
@[simp] theorem xSome_some {i o : Nat} {K : Nat → Nat → Prop} : xSome (some (i, o)) K = K i o := rfl
@[simp] theorem xHeap_some {h : AHeap} {K : AHeap → Prop} : xHeap (some h) K = K h := rfl
@[simp] theorem letH_def {h : AHeap} {K : AHeap → Prop} : letH h K = K h := rfl
@[simp] theorem bcase_true {A B : Prop} : bcase true A B = A := rfl
@[simp] theorem bcase_false {A B : Prop} : bcase false A B = B := rfl
theorem bcase_dec {p : Prop} [Decidable p] {A B : Prop} (ha : p → A) (hb : ¬ p → B) : bcase (decide p) A B := by
  by_cases h : p
  · simp [h]; exact ha h
  · simp [h]; exact hb h

def strs (l : List (List Nat)) : List AVal := l.map .str
def ints (l : List Int) : List AVal := l.map (.int .i64)
@[simp] theorem strs_length (l : List (List Nat)) : (strs l).length = l.length := by simp [strs]
@[simp] theorem strs_nil : strs [] = [] := rfl
@[simp] theorem strs_append (a b : List (List Nat)) : strs (a ++ b) = strs a ++ strs b := by simp [strs]
@[simp] theorem strs_leaf (l : List (List Nat)) : (strs l).all AVal.leaf = true := by simp [strs, AVal.leaf]
theorem strs_get (l : List (List Nat)) (k : Nat) : (strs l)[k]? = l[k]?.map .str := by simp [strs]

/-- What lies below b is the same in both heaps. -/
structure Same (b : Nat) (h h' : AHeap) : Prop where
  le : h.length ≤ h'.length
  eq : ∀ i, i < b → h'[i]? = h[i]?
theorem Same.refl (b : Nat) (h : AHeap) : Same b h h := ⟨Nat.le_refl _, fun _ _ => rfl⟩
theorem Same.trans {b : Nat} {h h1 h2 : AHeap} (x : Same b h h1) (y : Same b h1 h2) : Same b h h2 := ⟨Nat.le_trans x.le y.le, fun i hi => (y.eq i hi).trans (x.eq i hi)⟩
theorem Same.mono {b b' : Nat} {h h' : AHeap} (x : Same b h h') (hb : b' ≤ b) : Same b' h h' := ⟨x.le, fun i hi => x.eq i (by omega)⟩
theorem Same.app {b : Nat} {h : AHeap} (hb : b ≤ h.length) (l : AHeap) : Same b h (h ++ l) := ⟨by simp, fun i hi => List.getElem?_append_left (by omega)⟩
theorem Same.set {b i : Nat} {h : AHeap} (hb : b ≤ i) (x : AObj) : Same b h (h.set i x) := ⟨by simp, fun j hj => by rw [List.getElem?_set_ne (by omega)]⟩

theorem Same.cell {b : Nat} {h h' : AHeap} (s : Same b h h') {i o : Nat} (hi : i < b) {x : Option AVal} (hc : hCell h (.ptr (some (i, o))) = x) : hCell h' (.ptr (some (i, o))) = x := by
  have e := s.eq i hi
  simp only [hCell] at *
  rw [e]; exact hc

/-- n cells at a, below b. -/
def Row (b : Nat) (h : AHeap) (a : Option (Nat × Nat)) (n : Nat) (cs : List AVal) : Prop :=
  cs.length = n ∧ (n = 0 ∨ ∃ i o t all ro, a = some (i, o) ∧ i < b ∧ h[i]? = some (.cells t all ro) ∧ o + n ≤ all.length ∧ cs = (all.drop o).take n)
theorem Row.nil {b : Nat} {h : AHeap} {a : Option (Nat × Nat)} : Row b h a 0 [] := ⟨rfl, .inl rfl⟩
theorem Row.same {b : Nat} {h h' : AHeap} {a : Option (Nat × Nat)} {n : Nat} {cs : List AVal} (r : Row b h a n cs) (s : Same b h h') : Row b h' a n cs := by
  obtain ⟨hl, r⟩ := r
  refine ⟨hl, r.imp id ?_⟩
  rintro ⟨i, o, t, all, ro, ha, hb, hi, hle, hcs⟩
  exact ⟨i, o, t, all, ro, ha, hb, by rw [s.eq i hb]; exact hi, hle, hcs⟩
theorem Row.mono {b b' : Nat} {h : AHeap} {a : Option (Nat × Nat)} {n : Nat} {cs : List AVal} (r : Row b h a n cs) (hb : b ≤ b') : Row b' h a n cs := by
  obtain ⟨hl, r⟩ := r
  refine ⟨hl, r.imp id ?_⟩
  rintro ⟨i, o, t, all, ro, ha, hi, x⟩
  exact ⟨i, o, t, all, ro, ha, by omega, x⟩
theorem Row.rowOf {b : Nat} {h : AHeap} {a : Option (Nat × Nat)} {n : Nat} {cs : List AVal} (r : Row b h a n cs) : rowOf h a n = some cs := by
  obtain ⟨hl, r⟩ := r
  rcases r with h0 | ⟨i, o, t, all, ro, rfl, hb, hi, hle, hcs⟩
  · subst h0
    have : cs = [] := List.eq_nil_of_length_eq_zero hl
    subst this
    unfold Sim.rowOf; cases a <;> simp
  · unfold Sim.rowOf
    by_cases h0 : n = 0
    · subst h0; simp at hcs; simp [hcs]
    · simp [h0, hRow, hi, hle, hcs]
theorem Row.at {b : Nat} {h : AHeap} {a : Option (Nat × Nat)} {n : Nat} {cs : List AVal} (r : Row b h a n cs) {k : Nat} (hk : k < n) : ∃ i o, a = some (i, o) ∧ i < b ∧ hCell h (.ptr (some (i, o + k))) = cs[k]? := by
  obtain ⟨hl, r⟩ := r
  rcases r with h0 | ⟨i, o, t, all, ro, rfl, hb, hi, hle, hcs⟩
  · omega
  · refine ⟨i, o, rfl, hb, ?_⟩
    simp [hCell, hi, hcs, List.getElem?_take, hk]

/-- A row of one's own, at b or above: all of an object. -/
def Own (b : Nat) (h : AHeap) (a : Option (Nat × Nat)) (t : TypeId) (cs : List AVal) : Prop := ∃ i, a = some (i, 0) ∧ b ≤ i ∧ h[i]? = some (.cells t cs false)
theorem Own.lt {h : AHeap} {i : Nat} {x : AObj} (hi : h[i]? = some x) : i < h.length := (List.getElem?_eq_some_iff.1 hi).1
theorem Own.row {b : Nat} {h : AHeap} {a : Option (Nat × Nat)} {t : TypeId} {cs : List AVal} (r : Own b h a t cs) : Row h.length h a cs.length cs := by
  obtain ⟨i, rfl, hb, hi⟩ := r
  exact ⟨rfl, .inr ⟨i, 0, t, cs, false, rfl, Own.lt hi, hi, by omega, by simp⟩⟩
theorem Own.last {h : AHeap} {t : TypeId} {cs : List AVal} {b : Nat} (hb : b ≤ h.length) : Own b (h ++ [.cells t cs false]) (some (h.length, 0)) t cs := ⟨h.length, rfl, hb, by simp⟩
theorem Own.same {b b' : Nat} {h h' : AHeap} {a : Option (Nat × Nat)} {t : TypeId} {cs : List AVal} (r : Own b h a t cs) (s : Same b' h h') (hb : h.length ≤ b') : Own b h' a t cs := by
  obtain ⟨i, rfl, hi, hg⟩ := r
  exact ⟨i, rfl, hi, by rw [s.eq i (by have := Own.lt hg; omega)]; exact hg⟩
theorem Own.mono {b b' : Nat} {h : AHeap} {a : Option (Nat × Nat)} {t : TypeId} {cs : List AVal} (r : Own b h a t cs) (hb : b' ≤ b) : Own b' h a t cs := by
  obtain ⟨i, rfl, hi, hg⟩ := r
  exact ⟨i, rfl, by omega, hg⟩

/-- A result that is a row of its own, or nothing. -/
def Fresh (b : Nat) (h : AHeap) (a : Option (Nat × Nat)) (n : Nat) (t : TypeId) (cs : List AVal) : Prop := cs.length = n ∧ (n = 0 ∨ Own b h a t cs)
theorem Fresh.row {b : Nat} {h : AHeap} {a : Option (Nat × Nat)} {n : Nat} {t : TypeId} {cs : List AVal} (r : Fresh b h a n t cs) : Row h.length h a n cs := by
  obtain ⟨hl, r⟩ := r
  rcases r with h0 | r
  · exact ⟨hl, .inl h0⟩
  · rw [← hl]; exact r.row
theorem Fresh.same {b b' : Nat} {h h' : AHeap} {a : Option (Nat × Nat)} {n : Nat} {t : TypeId} {cs : List AVal} (r : Fresh b h a n t cs) (s : Same b' h h') (hb : h.length ≤ b') : Fresh b h' a n t cs := ⟨r.1, r.2.imp id fun x => x.same s hb⟩
theorem Fresh.mono {b b' : Nat} {h : AHeap} {a : Option (Nat × Nat)} {n : Nat} {t : TypeId} {cs : List AVal} (r : Fresh b h a n t cs) (hb : b' ≤ b) : Fresh b' h a n t cs := ⟨r.1, r.2.imp id fun x => x.mono hb⟩

/-- Appending to a row of one's own, whose elements are one cell. -/
theorem append_own1 {P : Program} {t ty : TypeId} {h : AHeap} {b i n c : Nat} {e : Bool} {xa : Option (Nat × Nat)} {m c' : Nat} {e' : Bool} {cs new : List AVal} {K : AVal → AHeap → Prop}
    (hu : P.underlying t = some (.slice ty)) (hc : P.cellsOf ty = 1) (hok : P.okElem ty = true) (hby : P.bytesOf ty ≤ 64) (hn : cs.length = n) (hi : h[i]? = some (.cells ty cs false)) (hb : b ≤ i) (hx : rowOf h xa m = some new) (hl : new.all AVal.leaf = true)
    (hle : n + m ≤ 1099511627776) (hk : ∀ h', h' = h.set i .dead ++ [.cells ty (cs ++ new) false] → Same b h h' → Own b h' (some (h.length, 0)) ty (cs ++ new) → K (.slice (some (h.length, 0)) (n + m) (n + m) false) h') :
    appendA P t h (.slice (some (i, 0)) n c e) (.slice xa m c' e') K := by
  have hlt := Own.lt hi
  unfold appendA
  simp only [hu, hc, Nat.mul_one, hx, xRow_some]
  refine ⟨⟨hok, ?_, hl⟩, .inl ⟨trivial, ?_⟩⟩
  · have : (n + m) * (P.bytesOf ty + 1) ≤ (n + m) * 65 := Nat.mul_le_mul_left _ (by omega)
    omega
  · simp only [ownRow, hi, true_and]
    refine ⟨hn, hk _ rfl ?_ ?_⟩
    · refine (Same.set hb .dead).trans (Same.app (by simp; omega) _)
    · refine ⟨h.length, rfl, by omega, by simp⟩
end Go.Sim

/- A list that grows: its row moves, all else stays. -/
set_option linter.unusedSimpArgs false
namespace Go.Sim
open Go Go.RowKit

/-- Behind a growth of the object i: every other object of before is the same. -/
structure Keep (i : Nat) (h h' : AHeap) : Prop where
  le : h.length ≤ h'.length
  eq : ∀ j, j < h.length → j ≠ i → h'[j]? = h[j]?
theorem Keep.refl (i : Nat) (h : AHeap) : Keep i h h := ⟨Nat.le_refl _, fun _ _ _ => rfl⟩
theorem Keep.same {i b : Nat} {h h' : AHeap} (k : Keep i h h') (hb : b ≤ i) (hl : b ≤ h.length) : Same b h h' := ⟨k.le, fun j hj => k.eq j (by omega) (by omega)⟩
theorem Row.keep {b i : Nat} {h h' : AHeap} {a : Pt} {n : Nat} {cs : List AVal} (r : Row b h a n cs) (ha : n ≠ 0 → ∀ j o, a = some (j, o) → j ≠ i) (k : Keep i h h') : Row b h' a n cs := by
  obtain ⟨hl, r⟩ := r
  by_cases h0 : n = 0
  · exact ⟨hl, .inl h0⟩
  replace ha := ha h0
  refine ⟨hl, r.imp id ?_⟩
  rintro ⟨j, o, t, all, ro, ha', hb, hi, hle, hcs⟩
  exact ⟨j, o, t, all, ro, ha', hb, by rw [k.eq j (Own.lt hi) (ha _ _ ha')]; exact hi, hle, hcs⟩

theorem Fresh.apart {b i : Nat} {h : AHeap} {a : Pt} {n : Nat} {t : TypeId} {cs : List AVal} (f : Fresh b h a n t cs) (hi : i < b) : n ≠ 0 → ∀ j o, a = some (j, o) → j ≠ i := by
  intro h0 j o hj
  obtain ⟨_, h1 | ⟨k, hk, hb, _⟩⟩ := f
  · exact absurd h1 h0
  · rw [hj] at hk; cases hk; omega
/-- A growing row, seen from the heap h0 in which it was the object i0. -/
def Out (t : TypeId) (h0 : AHeap) (i0 : Nat) (h : AHeap) (a : Pt) (n : Nat) (cs : List AVal) : Prop :=
  ∃ i, a = some (i, 0) ∧ (i = i0 ∨ h0.length ≤ i) ∧ h[i]? = some (.cells t cs false) ∧ cs.length = n ∧ Keep i0 h0 h
theorem Out.refl {t : TypeId} {h : AHeap} {i : Nat} {cs : List AVal} (hi : h[i]? = some (.cells t cs false)) : Out t h i h (some (i, 0)) cs.length cs := ⟨i, rfl, .inl rfl, hi, rfl, Keep.refl _ _⟩
theorem Out.new {t : TypeId} {h : AHeap} {cs : List AVal} : Out t (h ++ [.cells t cs false]) h.length (h ++ [.cells t cs false]) (some (h.length, 0)) cs.length cs := Out.refl (by simp)
theorem Out.call {t : TypeId} {h0 h h' : AHeap} {i0 : Nat} {a : Pt} {n : Nat} {cs : List AVal} (x : Out t h0 i0 h a n cs) (s : Same h.length h h') : Out t h0 i0 h' a n cs := by
  obtain ⟨i, ha, hi, hg, hn, k⟩ := x
  exact ⟨i, ha, hi, by rw [s.eq i (Own.lt hg)]; exact hg, hn, ⟨Nat.le_trans k.le s.le, fun j hj hne => by rw [s.eq j (by have := k.le; omega)]; exact k.eq j hj hne⟩⟩
theorem Out.id {t : TypeId} {h0 h : AHeap} {i0 : Nat} {a : Pt} {n : Nat} {cs : List AVal} (x : Out t h0 i0 h a n cs) : ∃ i, a = some (i, 0) ∧ i < h.length ∧ h[i]? = some (.cells t cs false) := by
  obtain ⟨i, ha, hi, hg, hn, k⟩ := x
  exact ⟨i, ha, Own.lt hg, hg⟩
theorem Out.trans {t : TypeId} {h0 h h' : AHeap} {i0 i : Nat} {a a' : Pt} {n n' : Nat} {cs cs' : List AVal} (x : Out t h0 i0 h a n cs) (ha : a = some (i, 0)) (y : Out t h i h' a' n' cs') : Out t h0 i0 h' a' n' cs' := by
  obtain ⟨j, hj, hi, hg, hn, k⟩ := x
  rw [ha] at hj
  cases hj
  obtain ⟨i', ha', hi', hg', hn', k'⟩ := y
  have hlt := Own.lt hg
  refine ⟨i', ha', ?_, hg', hn', ⟨Nat.le_trans k.le k'.le, fun j hj hne => ?_⟩⟩
  · have := k.le
    rcases hi' with rfl | hi'
    · exact hi
    · right; omega
  · have := k.le
    rw [k'.eq j (by omega) (by rcases hi with rfl | hi; exact hne; omega)]
    exact k.eq j hj hne
theorem Out.keep {t : TypeId} {h0 h : AHeap} {i0 : Nat} {a : Pt} {n : Nat} {cs : List AVal} (x : Out t h0 i0 h a n cs) : Keep i0 h0 h := x.choose_spec.2.2.2.2
theorem Out.len {t : TypeId} {h0 h : AHeap} {i0 : Nat} {a : Pt} {n : Nat} {cs : List AVal} (x : Out t h0 i0 h a n cs) : cs.length = n := x.choose_spec.2.2.2.1
/-- As a result. -/
theorem Out.fresh {t : TypeId} {h0 h : AHeap} {i0 b : Nat} {a : Pt} {n : Nat} {cs : List AVal} (x : Out t h0 i0 h a n cs) (hb : b ≤ i0) (hl : b ≤ h0.length) : Fresh b h a n t cs := by
  obtain ⟨i, ha, hi, hg, hn, k⟩ := x
  exact ⟨hn, .inr ⟨i, ha, by omega, hg⟩⟩
/-- Growing, whose elements are one cell: by a row that may lie anywhere. -/
theorem Out.append {P : Program} {t ty : TypeId} {h0 h : AHeap} {i0 n c : Nat} {a : Pt} {e : Bool} {xa : Pt} {m c' : Nat} {e' : Bool} {cs new : List AVal} {K : AVal → AHeap → Prop} (x : Out ty h0 i0 h a n cs)
    (hu : P.underlying t = some (.slice ty)) (hc : P.cellsOf ty = 1) (hok : P.okElem ty = true) (hby : P.bytesOf ty ≤ 64) (hx : rowOf h xa m = some new) (hl : new.all AVal.leaf = true)
    (hle : n + m ≤ 1099511627776) (hk : ∀ a' n' h', Out ty h0 i0 h' a' n' (cs ++ new) → K (.slice a' n' n' false) h') : appendA P t h (.slice a n c e) (.slice xa m c' e') K := by
  obtain ⟨i, rfl, hi, hg, hn, k⟩ := x
  refine append_own1 (b := 0) hu hc hok hby hn hg (by omega) hx hl hle fun h' hh _ _ => hk _ _ h' ⟨h.length, rfl, .inr k.le, by rw [hh]; simp, ?_, ⟨?_, fun j hj hne => ?_⟩⟩
  · have : new.length = m := by
      unfold rowOf at hx
      split at hx
      · split at hx
        · cases hx; simp_all
        · cases hx
      · split at hx
        · cases hx; simp_all
        · unfold hRow at hx
          split at hx
          · split at hx
            · split at hx
              · cases hx; simp; omega
              · cases hx
            · cases hx
          · cases hx
    simp; omega
  · rw [hh]; have := k.le; simp; omega
  · have := k.le
    rw [hh, List.getElem?_append_left (by simp; omega), List.getElem?_set_ne (by omega)]
    exact k.eq j hj hne
/-- Growing by one element that was put into a row of its own. -/
theorem Out.push {P : Program} {t ty : TypeId} {h0 h : AHeap} {i0 n c : Nat} {a : Pt} {e : Bool} {cs : List AVal} {v : AVal} {K : AVal → AHeap → Prop} (x : Out ty h0 i0 h a n cs)
    (hu : P.underlying t = some (.slice ty)) (hc : P.cellsOf ty = 1) (hok : P.okElem ty = true) (hby : P.bytesOf ty ≤ 64) (hl : v.leaf = true)
    (hle : n + 1 ≤ 1099511627776) (hk : ∀ a' n' h', Out ty h0 i0 h' a' n' (cs ++ [v]) → K (.slice a' n' n' false) h') : appendA P t (h ++ [.cells ty [v] false]) (.slice a n c e) (.slice (some (h.length, 0)) 1 1 true) K :=
  (x.call (Same.app (Nat.le_refl _) _)).append hu hc hok hby (new := [v]) (Own.row (b := 0) (t := ty) (cs := [v]) ⟨h.length, rfl, by omega, by simp⟩).rowOf (show List.all [v] AVal.leaf = true by rw [List.all_cons, hl]; rfl) hle hk
/-- The element of a list of strings. -/
theorem Row.str {b : Nat} {h : AHeap} {a : Pt} {n : Nat} {l : List (List Nat)} (r : Row b h a n (strs l)) {k : Nat} (hk : k < n) : ∃ i o, ∃ hk' : k < l.length, a = some (i, o) ∧ i < b ∧ hCell h (.ptr (some (i, o + k))) = some (.str l[k]) := by
  have hl : l.length = n := by simpa using r.1
  obtain ⟨i, o, ha, hi, hc⟩ := r.at hk
  exact ⟨i, o, by omega, ha, hi, by rw [hc, strs_get, List.getElem?_eq_getElem (by omega)]; rfl⟩

end Go.Sim
