/- What an operation that only reckons or loads hands on is one value; operations look at their operands alone. -/
import Derived.Test.YtgiiilhdmfddcaaSimK
set_option linter.unusedVariables false
set_option linter.all false
set_option linter.unusedSimpArgs false
namespace Go.Sim
open Go Go.RowKit

/-- F hands on one value. -/
def Det {α : Type} (F : (α → Prop) → Prop) : Prop := ∀ k, F k → ∃ v, k v ∧ ∀ k', k' v → F k'
theorem Det.ret {α : Type} (a : α) : Det (fun k => k a) := fun _ h => ⟨a, h, fun _ h => h⟩
theorem Det.no {α : Type} : Det (fun _ : α → Prop => False) := fun _ h => h.elim
theorem Det.and {α : Type} {p : Prop} {F : (α → Prop) → Prop} (d : Det F) : Det (fun k => p ∧ F k) := fun k ⟨hp, h⟩ => let ⟨v, hv, r⟩ := d k h; ⟨v, hv, fun k' h' => ⟨hp, r k' h'⟩⟩
theorem Det.chk {α : Type} {p : Prop} [Decidable p] {F : (α → Prop) → Prop} (d : Det F) : Det (fun k => chk p (F k)) := fun k h => by
  have ⟨hp, h⟩ := chk_elim h
  obtain ⟨v, hv, r⟩ := d k h
  exact ⟨v, hv, fun k' h' => by unfold Sim.chk; rw [decide_eq_true hp]; exact r k' h'⟩
theorem Det.bind {α β : Type} {F : (α → Prop) → Prop} {G : α → (β → Prop) → Prop} (d : Det F) (e : ∀ a, Det (G a)) : Det (fun k => F fun a => G a k) := fun k h => by
  obtain ⟨a, ha, r⟩ := d _ h
  obtain ⟨b, hb, q⟩ := e a k ha
  exact ⟨b, hb, fun k' h' => r _ (q k' h')⟩
theorem Det.map {α β : Type} {F : (α → Prop) → Prop} (d : Det F) (f : α → β) : Det (fun k => F fun a => k (f a)) := d.bind fun a => Det.ret (f a)
theorem Det.bcase {α : Type} {b : Bool} {F G : (α → Prop) → Prop} (d : Det F) (e : Det G) : Det (fun k => bcase b (F k) (G k)) := by cases b <;> assumption

section
variable {P : Program}
theorem det_xInt (q : IntKind) (o : Option AVal) : Det (xInt q o) := fun k h => by
  unfold xInt at *; split at h <;> first | exact ⟨_, h.2, fun _ h' => ⟨h.1, h'⟩⟩ | exact h.elim
theorem det_xv (s : Sh) (o : Option AVal) : Det (xv s o) := by
  intro k h
  cases s <;> simp only [xv, xBool, xStr, xPtr, xSl, xMap, xAny, xInt] at * <;> split at h <;> first
    | exact h.elim
    | exact ⟨_, h, fun _ h => h⟩
    | exact ⟨_, h.2, fun _ h' => ⟨h.1, h'⟩⟩
theorem det_xAny (o : Option AVal) : Det (xAny o) := det_xv .any o
theorem det_xRow (o : Option (List AVal)) : Det (xRow o) := fun k h => by
  unfold xRow at *; split at h <;> first | exact ⟨_, h, fun _ h => h⟩ | exact h.elim
theorem det_xs : ∀ (ss : List Sh) (cs : List AVal), Det (xs ss cs)
  | [], cs => fun k h => by
    simp only [xs, xNil] at *; split at h <;> first | exact ⟨_, h, fun _ h => h⟩ | exact h.elim
  | s :: ss, cs => fun k h => by
    simp only [xs, xCons] at *
    split at h
    · exact ((det_xv s _).bind (G := fun v k => xs ss _ fun vs => k (v :: vs)) fun v => (det_xs ss _).map (v :: ·)) k h
    · exact h.elim
theorem det_loadA (t : TypeId) (h : AHeap) (p : AVal) : Det (loadA P t h p) := by
  intro k hh
  unfold loadA at *
  split at hh
  · exact ((det_xRow _).bind (G := fun cs k => xs _ cs fun vs => k (.agg vs)) fun cs => (det_xs _ cs).map AVal.agg) k hh
  · exact det_xv _ _ k hh
theorem det_ptrEq (a b : Option (Nat × Nat)) : Det (ptrEq a b) := by
  intro k h
  unfold ptrEq at *
  split at h
  · exact ⟨_, h, fun _ h => h⟩
  · split at h
    · exact ⟨_, h, fun _ h => h⟩
    · exact h.elim
theorem det_xSome (a : Option (Nat × Nat)) (f : Nat → Nat → AVal) : Det (fun k : AVal → Prop => xSome a fun b o => k (f b o)) := by
  intro k h
  obtain ⟨b, o, rfl, h⟩ := xSome_elim h
  exact ⟨_, h, fun _ h => h⟩
theorem det_eqA (t : TypeId) (x y : AVal) : Det (eqA P t x y) := by
  intro k h
  unfold eqA at *
  split at h <;> (try exact h.elim) <;> split at h <;> (try exact h.elim)
  · exact (Det.ret _).chk k h
  · exact ⟨_, h, fun _ h => h⟩
  · exact (Det.ret _).chk k h
  · exact (det_ptrEq _ _).chk k h
  · split at h
    · exact ⟨_, h, fun _ h => h⟩
    · exact h.elim
  · exact (Det.ret _).and.chk k h
theorem det_binA (op : BinOp) (t : TypeId) (x y : AVal) : Det (binA P op t x y) := by
  intro k h
  unfold binA at *
  split at h
  · exact (det_eqA t x y).map _ k h
  · exact (det_eqA t x y).map _ k h
  · split at h
    · split at h
      · split at h <;> first
          | exact h.elim
          | exact (Det.ret _).chk k h
          | exact (Det.ret _).and.chk k h
          | exact (Det.ret _).and k h
      · exact h.elim
    · split at h
      · split at h <;> first
          | exact h.elim
          | exact (Det.ret _).and k h
          | exact ⟨_, h, fun _ h => h⟩
      · exact h.elim
    · exact h.elim
theorem det_partA (t : TypeId) (cs : List AVal) (off : Nat) : Det (partA P t cs off) := by
  intro k h
  unfold partA at *
  split at h
  · exact ⟨_, h, fun _ h => h⟩
  · exact (det_xAny _).chk k h
theorem det_optInt (o : Option AVal) (d : Int) : Det (optInt o d) := fun k h => by
  unfold optInt at *; split at h <;> first | exact ⟨_, h, fun _ h => h⟩ | exact h.elim
theorem det_field (o : Option Field) : Det (xField o) := fun k h => by
  unfold xField at *; split at h <;> first | exact ⟨_, h, fun _ h => h⟩ | exact h.elim
theorem det_sliceStr (s : List Nat) (lo hi : Option AVal) : Det (sliceStr s lo hi) := by
  unfold sliceStr
  exact (det_optInt hi s.length).bind fun h => (det_optInt lo 0).bind fun l => (Det.ret _).and
theorem det_sliceSl (a : Option (Nat × Nat)) (len cap : Nat) (ex : Bool) (sz : Nat) (lo hi mx : Option AVal) : Det (sliceSl a len cap ex sz lo hi mx) := by
  unfold sliceSl
  refine (det_optInt mx cap).bind fun m => (det_optInt hi len).bind fun h => (det_optInt lo 0).bind fun l => Det.and ?_
  intro k hk
  split at hk
  · exact (Det.ret _).and k hk
  · rename_i b o
    by_cases hlm : l < m
    · exact ⟨_, hk.1 hlm, fun k' h' => ⟨fun _ => h', fun h => absurd hlm h⟩⟩
    · exact ⟨_, hk.2 hlm, fun k' h' => ⟨fun h => absurd h hlm, fun _ => h'⟩⟩
theorem det_pureA (env : Env) (o : Oper) : Det (pureA P env o) := by
  intro k h
  obtain ⟨dst, op, type, pos, after, guard⟩ := o
  unfold pureA at *
  cases op <;> simp only at h ⊢ <;> (try exact h.elim)
  case move x => exact ⟨_, h, fun _ h => h⟩
  case assign x => exact ⟨_, h, fun _ h => h⟩
  case pick c a b =>
    unfold pickA at *
    split at h
    · exact (Det.ret _).bcase (Det.ret _) k h
    · exact h.elim
  case nilCheck x =>
    unfold nilA at *
    split at h <;> first | exact h.elim | exact ⟨_, h, fun _ h => h⟩ | exact det_xSome _ (fun b o => .ptr (some (b, o))) k h
  case fieldAddr t x i =>
    unfold fieldAddrA at *
    split at h
    · rename_i a _
      exact (Det.bind (F := xField (fieldOf P t i)) (G := fun (f : Field) (k : AVal → Prop) => chk ((P.underlying f.type).isSome = true) (chk (P.cellsOf f.type ≠ 0) (xSome a fun b o => k (AVal.ptr (some (b, o + f.offset)))))) (det_field _) fun f => Det.chk (Det.chk (det_xSome a fun b o => AVal.ptr (some (b, o + f.offset))))) k h
    · exact h.elim
  case field t x i =>
    unfold fieldA at *
    split at h
    · exact (det_field _).bind (G := fun f k => partA P f.type _ f.offset k) (fun f => det_partA _ _ _) k h
    · exact h.elim
  case indexAddr t x i =>
    unfold indexAddrA at *
    split at h
    · split at h
      · split at h <;> first | exact h.elim | exact (det_xSome _ (fun b o => AVal.ptr (some (b, o + _)))).and.chk k h
      · split at h <;> first | exact h.elim | exact (det_xSome _ (fun b o => AVal.ptr (some (b, o + _)))).and.chk k h
      · exact h.elim
    · exact h.elim
  case index t x i =>
    unfold indexA at *
    split at h
    · split at h
      · split at h
        · exact (Det.ret _).and k h
        · exact h.elim
      · split at h
        · exact (det_partA _ _ _).and.chk k h
        · exact h.elim
      · exact h.elim
    · exact h.elim
  case slice t x lo hi mx =>
    unfold sliceA at *
    split at h
    · split at h
      · exact (det_sliceStr _ _ _).chk k h
      · exact h.elim
    · split at h
      · exact (det_sliceSl _ _ _ _ _ _ _ _).chk.chk k h
      · exact h.elim
    · exact h.elim
  case binOp op t x y yt => exact det_binA _ _ _ _ k h
  case unOp op t x =>
    unfold unA at *
    split at h
    · split at h <;> first | exact h.elim | exact ⟨_, h, fun _ h => h⟩
    · split at h <;> first | exact h.elim | exact ⟨_, h, fun _ h => h⟩
    · exact h.elim
  case convert s d x =>
    unfold convA at *
    split at h
    · split at h <;> first | exact h.elim | exact (Det.ret _).chk k h
    · split at h <;> first | exact h.elim | exact (Det.ret _).chk k h | exact (Det.ret _).and.chk k h
    · exact h.elim
  case extract x i =>
    unfold extractA at *
    split at h
    · exact det_xAny _ k h
    · exact h.elim
  case makeFunc fn first caps =>
    cases fn <;> simp only at h ⊢ <;> first | exact h.elim | exact (Det.ret _).chk k h
  case call c =>
    split at h
    · unfold lenA at *
      split at h <;> first | exact h.elim | exact (Det.ret _).chk k h
    · exact h.elim

/-- Operations that neither look at memory nor write it. -/
def reckons (P : Program) (op : Op) : Bool :=
  match op with
  | .move _ | .assign _ | .pick .. | .binOp .. | .unOp .. | .nilCheck _ | .extract .. | .field .. | .fieldAddr .. | .indexAddr .. | .index .. | .slice .. | .makeFunc .. | .build .. => true
  | .call c => (match c.callee with | .builtin .len => true | _ => false)
  | .convert s _ _ => !isSlT P s
  | _ => false
def loads (op : Op) : Bool := match op with | .load .. => true | _ => false
/-- What a reckoning operation hands on hangs on no heap. -/
def calmA (P : Program) (env : Env) (o : Oper) (k : AVal → Prop) : Prop :=
  match o.op with
  | .build t ps => buildA P t (parts env ps) k
  | _ => pureA P env o k
theorem det_calmA (env : Env) (o : Oper) : Det (calmA P env o) := by
  intro k h
  unfold calmA at *
  split at h
  · refine (det_xRow _).bind (G := fun z k => _) (fun z => ?_) k h
    intro k h
    split at h
    · exact ((det_xRow _).map _).chk k h
    · exact ((det_xRow _).map _).chk k h
    · exact h.elim
  · exact det_pureA env o k h
theorem opA_reckons {env : Env} {h : AHeap} {o : Oper} (hr : reckons P o.op = true) {K : AVal → AHeap → Prop} : opA P env h o K ↔ calmA P env o fun v => K v h := by
  obtain ⟨dst, op, type, pos, after, guard⟩ := o
  cases op <;> simp only [reckons, Bool.false_eq_true] at hr <;> try (simp only [opA, calmA]; done)
  case call c =>
    simp only [opA, calmA, callA]
    split at hr
    · rename_i hc; simp [hc]
    · cases hr
  case convert s d x =>
    simp only [Bool.not_eq_true'] at hr
    simp only [opA, calmA, hr]

theorem parts_congr {env env' : Env} {ps : Array (Nat × Operand)} (hx : ∀ x ∈ ps.map (·.2), ev env x = ev env' x) : parts env ps = parts env' ps := by
  unfold parts
  refine List.map_congr_left fun p hp => ?_
  rw [hx p.2 (Array.mem_map.2 ⟨p, by simpa using hp, rfl⟩)]
theorem args_congr {env env' : Env} {xs : Array Operand} (hx : ∀ x ∈ xs, ev env x = ev env' x) : xs.toList.map (ev env) = xs.toList.map (ev env') :=
  List.map_congr_left fun x hp => hx x (by simpa using hp)
theorem opA_congr {env env' : Env} {h : AHeap} {o : Oper} (hx : ∀ x ∈ o.op.operands, ev env x = ev env' x) {K : AVal → AHeap → Prop} : opA P env h o K ↔ opA P env' h o K := by
  obtain ⟨dst, op, type, pos, after, guard⟩ := o
  cases op <;> simp only [Op.operands] at hx <;> simp only [opA, pureA]
  case build t ps => rw [parts_congr fun x h => hx x (by simpa using h)]
  case buildSlice t n ps => rw [parts_congr fun x h => hx x (by simpa using h)]
  case makeFunc fn first caps =>
    have hc := args_congr (xs := caps) fun x h => hx x (by simp [h])
    cases fn <;> simp only [hc]
  case call c =>
    simp only [Call.operands] at hx
    have ha : c.args.toList.map (ev env) = c.args.toList.map (ev env') := args_congr fun x h => hx x (by simp [h])
    simp only [callA, pureA, ha]
    cases hc : c.callee with
    | value f =>
      have hf : ev env f = ev env' f := hx f (by simp [hc])
      simp only [hf]
    | invoke r m => exact Iff.rfl
    | builtin b => cases b <;> exact Iff.rfl
  case slice t x lo hi mx =>
    cases lo <;> cases hi <;> cases mx <;> simp_all
  all_goals (first | rfl | (simp_all; done))
end
end Go.Sim
