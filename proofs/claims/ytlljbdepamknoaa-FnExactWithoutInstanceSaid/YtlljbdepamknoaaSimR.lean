/- A part of the proof of a statement of this seat: see the text that holds the theorem. No condition. -/
import Derived.Test.YtlljbdepamknoaaSimK
import Derived.IntWalk
set_option linter.unusedVariables false
set_option linter.unusedSimpArgs false
set_option linter.all false
set_option linter.unusedSimpArgs false
namespace Go.Sim
open Go Go.RowKit

def Det {α : Type} (F : (α → Prop) → Prop) : Prop := ∀ k, F k → ∃ v, k v ∧ ∀ k', k' v → F k'
theorem Det.ret {α : Type} (a : α) : Det (fun k => k a) := fun _ h => ⟨a, h, fun _ h => h⟩
theorem Det.no {α : Type} : Det (fun _ : α → Prop => False) := fun _ h => h.elim
theorem Det.and {α : Type} {p : Prop} {F : (α → Prop) → Prop} (d : Det F) : Det (fun k => p ∧ F k) := fun k ⟨hp, h⟩ => let ⟨v, hv, r⟩ := d k h; ⟨v, hv, fun k' h' => ⟨hp, r k' h'⟩⟩
theorem Det.chk {α : Type} {p : Prop} [Decidable p] {F : (α → Prop) → Prop} (d : Det F) : Det (fun k => chk p (F k)) := fun k h => by
  have ⟨hp, h⟩ := Zbg h
  obtain ⟨v, hv, r⟩ := d k h
  exact ⟨v, hv, fun k' h' => by unfold Sim.chk; rw [decide_eq_true hp]; exact r k' h'⟩
theorem Det.bind {α β : Type} {F : (α → Prop) → Prop} {G : α → (β → Prop) → Prop} (d : Det F) (e : ∀ a, Det (G a)) : Det (fun k => F fun a => G a k) := fun k h => by
  obtain ⟨a, ha, r⟩ := d _ h
  obtain ⟨b, hb, q⟩ := e a k ha
  exact ⟨b, hb, fun k' h' => r _ (q k' h')⟩
theorem Det.map {α β : Type} {F : (α → Prop) → Prop} (d : Det F) (f : α → β) : Det (fun k => F fun a => k (f a)) := d.bind fun a => Det.ret (f a)
theorem Det.bcase {α : Type} {b : Bool} {F G : (α → Prop) → Prop} (d : Det F) (e : Det G) : Det (fun k => bcase b (F k) (G k)) := by cases b <;> assumption

section
variable {P : Program}
theorem Ycb (s : Sh) (o : Option Zag) : Det (xv s o) := by
  intro k h
  cases s <;> simp only [xv, Zcv, Zbs, Znk, xSl, Yfx, Zwt, Zgn] at * <;> split at h <;> first
    | exact h.elim
    | exact ⟨_, h, fun _ h => h⟩
    | exact ⟨_, h.2, fun _ h' => ⟨h.1, h'⟩⟩
theorem Zww (o : Option Zag) : Det (Zwt o) := Ycb .any o
theorem Zpd (o : Option (List Zag)) : Det (Zdg o) := fun k h => by
  unfold Zdg at *; split at h <;> first | exact ⟨_, h, fun _ h => h⟩ | exact h.elim
theorem Yep : ∀ (ss : List Sh) (cs : List Zag), Det (xs ss cs)
  | [], cs => fun k h => by
    simp only [xs, Zct] at *; split at h <;> first | exact ⟨_, h, fun _ h => h⟩ | exact h.elim
  | s :: ss, cs => fun k h => by
    simp only [xs, Zak] at *
    split at h
    · exact ((Ycb s _).bind (G := fun v k => xs ss _ fun vs => k (v :: vs)) fun v => (Yep ss _).map (v :: ·)) k h
    · exact h.elim
theorem Ybe (t : TypeId) (h : Zaa) (p : Zag) : Det (Zpa P t h p) := by
  intro k hh
  unfold Zpa at *
  split at hh
  · exact ((Zpd _).bind (G := fun cs k => xs _ cs fun vs => k (.agg vs)) fun cs => (Yep _ cs).map Zag.agg) k hh
  · exact Ycb _ _ k hh
theorem Yaq (a b : Option (Nat × Nat)) : Det (Zwq a b) := by
  intro k h
  unfold Zwq at *
  split at h
  · exact ⟨_, h, fun _ h => h⟩
  · split at h
    · exact ⟨_, h, fun _ h => h⟩
    · exact h.elim
theorem Znm (a : Option (Nat × Nat)) (f : Nat → Nat → Zag) : Det (fun k : Zag → Prop => Zbu a fun b o => k (f b o)) := by
  intro k h
  obtain ⟨b, o, rfl, h⟩ := Zcm h
  exact ⟨_, h, fun _ h => h⟩
theorem Ycl (t : TypeId) (x y : Zag) : Det (eqA P t x y) := by
  intro k h
  unfold eqA at *
  split at h <;> (try exact h.elim) <;> split at h <;> (try exact h.elim)
  · exact (Det.ret _).chk k h
  · exact ⟨_, h, fun _ h => h⟩
  · exact (Det.ret _).chk k h
  · exact (Yaq _ _).chk k h
  · split at h
    · exact ⟨_, h, fun _ h => h⟩
    · exact h.elim
  · exact (Det.ret _).and.chk k h
theorem Ycz (op : BinOp) (t : TypeId) (x y : Zag) : Det (Yev P op t x y) := by
  intro k h
  unfold Yev at *
  split at h
  · exact (Ycl t x y).map _ k h
  · exact (Ycl t x y).map _ k h
  · split at h
    · split at h
      · split at h <;> first
          | exact h.elim
          | exact (Det.ret _).chk k h
          | exact (Det.ret _).and.chk k h
          | exact (Det.ret _).and k h
      · exact h.elim
    · split at h
      · split at h <;> first
          | exact h.elim
          | exact (Det.ret _).and k h
          | exact ⟨_, h, fun _ h => h⟩
      · exact h.elim
    · exact h.elim
theorem Ztx (t : TypeId) (cs : List Zag) (off : Nat) : Det (Zqw P t cs off) := by
  intro k h
  unfold Zqw at *
  split at h
  · exact ⟨_, h, fun _ h => h⟩
  · exact (Zww _).chk k h
theorem Zka (o : Option Zag) (d : Int) : Det (Zhc o d) := fun k h => by
  unfold Zhc at *; split at h <;> first | exact ⟨_, h, fun _ h => h⟩ | exact h.elim
theorem Zuf (o : Option Field) : Det (Zmi o) := fun k h => by
  unfold Zmi at *; split at h <;> first | exact ⟨_, h, fun _ h => h⟩ | exact h.elim
theorem Zud (s : List Nat) (lo hi : Option Zag) : Det (Znw s lo hi) := by
  unfold Znw
  exact (Zka hi s.length).bind fun h => (Zka lo 0).bind fun l => (Det.ret _).and
theorem Zwg (a : Option (Nat × Nat)) (len cap : Nat) (ex : Bool) (sz : Nat) (lo hi mx : Option Zag) : Det (Zep a len cap ex sz lo hi mx) := by
  unfold Zep
  refine (Zka mx cap).bind fun m => (Zka hi len).bind fun h => (Zka lo 0).bind fun l => Det.and ?_
  intro k hk
  split at hk
  · exact (Det.ret _).and k hk
  · rename_i b o
    by_cases hlm : l < m
    · exact ⟨_, hk.1 hlm, fun k' h' => ⟨fun _ => h', fun h => absurd hlm h⟩⟩
    · exact ⟨_, hk.2 hlm, fun k' h' => ⟨fun h => absurd h hlm, fun _ => h'⟩⟩
theorem Yaf (env : Env) (o : Oper) : Det (Znt P env o) := by
  intro k h
  obtain ⟨dst, op, type, pos, after, guard⟩ := o
  unfold Znt at *
  cases op <;> simp only at h ⊢ <;> (try exact h.elim)
  case move x => exact ⟨_, h, fun _ h => h⟩
  case assign x => exact ⟨_, h, fun _ h => h⟩
  case pick c a b =>
    unfold Yar at *
    split at h
    · exact (Det.ret _).bcase (Det.ret _) k h
    · exact h.elim
  case nilCheck x =>
    unfold Yio at *
    split at h <;> first | exact h.elim | exact ⟨_, h, fun _ h => h⟩ | exact Znm _ (fun b o => .ptr (some (b, o))) k h
  case fieldAddr t x i =>
    unfold Zkb at *
    split at h
    · rename_i a _
      exact (Det.bind (F := Zmi (Zqh P t i)) (G := fun (f : Field) (k : Zag → Prop) => chk ((P.underlying f.type).isSome = true) (chk (P.cellsOf f.type ≠ 0) (Zbu a fun b o => k (Zag.ptr (some (b, o + f.offset)))))) (Zuf _) fun f => Det.chk (Det.chk (Znm a fun b o => Zag.ptr (some (b, o + f.offset))))) k h
    · exact h.elim
  case field t x i =>
    unfold Zvc at *
    split at h
    · exact (Zuf _).bind (G := fun f k => Zqw P f.type _ f.offset k) (fun f => Ztx _ _ _) k h
    · exact h.elim
  case indexAddr t x i =>
    unfold Zki at *
    split at h
    · split at h
      · split at h <;> first | exact h.elim | exact (Znm _ (fun b o => Zag.ptr (some (b, o + _)))).and.chk k h
      · split at h <;> first | exact h.elim | exact (Znm _ (fun b o => Zag.ptr (some (b, o + _)))).and.chk k h
      · exact h.elim
    · exact h.elim
  case index t x i =>
    unfold Ztr at *
    split at h
    · split at h
      · split at h
        · exact (Det.ret _).and k h
        · exact h.elim
      · split at h
        · exact (Ztx _ _ _).and.chk k h
        · exact h.elim
      · exact h.elim
    · exact h.elim
  case slice t x lo hi mx =>
    unfold Zrq at *
    split at h
    · split at h
      · exact (Zud _ _ _).chk k h
      · exact h.elim
    · split at h
      · exact (Zwg _ _ _ _ _ _ _ _).chk.chk k h
      · exact h.elim
    · exact h.elim
  case binOp op t x y yt => exact Ycz _ _ _ _ k h
  case unOp op t x =>
    unfold unA at *
    split at h
    · split at h <;> first | exact h.elim | exact ⟨_, h, fun _ h => h⟩
    · split at h <;> first | exact h.elim | exact ⟨_, h, fun _ h => h⟩
    · exact h.elim
  case convert s d x =>
    unfold Zvw at *
    split at h
    · split at h <;> first | exact h.elim | exact (Det.ret _).chk k h
    · split at h <;> first | exact h.elim | exact (Det.ret _).chk k h | exact (Det.ret _).and.chk k h
    · exact h.elim
  case extract x i =>
    unfold Zny at *
    split at h
    · exact Zww _ k h
    · exact h.elim
  case makeFunc fn first caps =>
    cases fn <;> simp only at h ⊢ <;> first | exact h.elim | exact (Det.ret _).chk k h
  case call c =>
    split at h
    · unfold Ygc at *
      split at h <;> first | exact h.elim | exact (Det.ret _).chk k h
    · exact h.elim

def Ztb (P : Program) (op : Op) : Bool :=
  match op with
  | .move _ | .assign _ | .pick .. | .binOp .. | .unOp .. | .nilCheck _ | .extract .. | .field .. | .fieldAddr .. | .indexAddr .. | .index .. | .slice .. | .makeFunc .. | .build .. => true
  | .call c => (match c.callee with | .builtin .len => true | _ => false)
  | .convert s _ _ => !Zyg P s
  | _ => false
def Yeg (op : Op) : Bool := match op with | .load .. => true | _ => false
def Zzq (P : Program) (env : Env) (o : Oper) (k : Zag → Prop) : Prop :=
  match o.op with
  | .build t ps => Yax P t (parts env ps) k
  | _ => Znt P env o k
theorem Ybi (env : Env) (o : Oper) : Det (Zzq P env o) := by
  intro k h
  unfold Zzq at *
  split at h
  · refine (Zpd _).bind (G := fun z k => _) (fun z => ?_) k h
    intro k h
    split at h
    · exact ((Zpd _).map _).chk k h
    · exact ((Zpd _).map _).chk k h
    · exact h.elim
  · exact Yaf env o k h
theorem Zqo {env : Env} {h : Zaa} {o : Oper} (hr : Ztb P o.op = true) {K : Zag → Zaa → Prop} : opA P env h o K ↔ Zzq P env o fun v => K v h := by
  obtain ⟨dst, op, type, pos, after, guard⟩ := o
  cases op <;> simp only [Ztb, Bool.false_eq_true] at hr <;> try (simp only [opA, Zzq]; done)
  case call c =>
    simp only [opA, Zzq, Ybf]
    split at hr
    · rename_i hc; simp [hc]
    · cases hr
  case convert s d x =>
    simp only [Bool.not_eq_true'] at hr
    simp only [opA, Zzq, hr]

theorem Zpl {env env' : Env} {ps : Array (Nat × Operand)} (hx : ∀ x ∈ ps.map (·.2), ev env x = ev env' x) : parts env ps = parts env' ps := by
  unfold parts
  refine List.map_congr_left fun p hp => ?_
  rw [hx p.2 (Array.mem_map.2 ⟨p, by simpa using hp, rfl⟩)]
theorem Zrf {env env' : Env} {xs : Array Operand} (hx : ∀ x ∈ xs, ev env x = ev env' x) : xs.toList.map (ev env) = xs.toList.map (ev env') :=
  List.map_congr_left fun x hp => hx x (by simpa using hp)
theorem Zqi {env env' : Env} {h : Zaa} {o : Oper} (hx : ∀ x ∈ o.op.operands, ev env x = ev env' x) {K : Zag → Zaa → Prop} : opA P env h o K ↔ opA P env' h o K := by
  obtain ⟨dst, op, type, pos, after, guard⟩ := o
  cases op <;> simp only [Op.operands] at hx <;> simp only [opA, Znt]
  case build t ps => rw [Zpl fun x h => hx x (by simpa using h)]
  case buildSlice t n ps => rw [Zpl fun x h => hx x (by simpa using h)]
  case makeFunc fn first caps =>
    have hc := Zrf (xs := caps) fun x h => hx x (by simp [h])
    cases fn <;> simp only [hc]
  case call c =>
    simp only [Call.operands] at hx
    have ha : c.args.toList.map (ev env) = c.args.toList.map (ev env') := Zrf fun x h => hx x (by simp [h])
    simp only [Ybf, Znt, ha]
    cases hc : c.callee with
    | value f =>
      have hf : ev env f = ev env' f := hx f (by simp [hc])
      cases f <;> simp only [hf]
    | invoke r m => exact Iff.rfl
    | builtin b => cases b <;> exact Iff.rfl
  case slice t x lo hi mx =>
    cases lo <;> cases hi <;> cases mx <;> simp_all
  case makeMap t r => cases r <;> simp_all
  all_goals (first | rfl | (simp_all; done))
end
end Go.Sim

set_option linter.unusedSimpArgs false
namespace Go.Sim
open Go Go.RowKit

structure Zrh where
  i : Nat
  p : Zag
  n : Option Nat
def Zrh.ok (d : Zrh) (h h' : Zaa) : Prop := match d.n with | none => Zai h' d.p = Zai h d.p | some n => Zbw h' d.p n = Zbw h d.p n
theorem Zrh.ok_refl (d : Zrh) (h : Zaa) : d.ok h h := by unfold Zrh.ok; split <;> rfl
def Zlt (ops : Array Oper) (j i : Nat) : Bool := match ops[j]? with | some o => o.after.any (fun e => Region.binds .any e && e.on == i) | none => false
def Zuj (ops : Array Oper) (j : Nat) : List Zrh → Zaa → Zaa → Prop → Prop
  | [], _, _, K => K
  | d :: r, h, h', K => (match Zlt ops j d.i with | true => Zuj ops j r h h' K | false => d.ok h h' ∧ Zuj ops j r h h' K)
theorem Zkv {ops : Array Oper} {j : Nat} : ∀ {hs : List Zrh} {h h' : Zaa} {K : Prop}, Zuj ops j hs h h' K → (∀ d ∈ hs, Zlt ops j d.i = true ∨ d.ok h h') ∧ K
  | [], _, _, _, hk => ⟨by simp, hk⟩
  | d :: r, h, h', K, hk => by
    unfold Zuj at hk
    split at hk
    · rename_i hw
      obtain ⟨a, b⟩ := Zkv hk
      exact ⟨fun x hx => by rcases List.mem_cons.1 hx with rfl | hx; exact .inl hw; exact a x hx, b⟩
    · obtain ⟨ho, hk⟩ := hk
      obtain ⟨a, b⟩ := Zkv hk
      exact ⟨fun x hx => by rcases List.mem_cons.1 hx with rfl | hx; exact .inr ho; exact a x hx, b⟩

def Zoz (P : Program) (N : Nat) (ops : Array Oper) (i : Nat) (env : Env) (h : Zaa) (K : Env → Zaa → Prop) : Prop :=
  match ops[i]? with | some o => Zjb P N ops env h o K | none => K env h
def Zlk (P : Program) (ops : Array Oper) (i : Nat) (env : Env) : Zrh :=
  match ops[i]? with
  | some o => (match o.op with
    | .load t a => (match isAgg P t with | true => ⟨i, ev env a, some (P.cellsOf t)⟩ | false => ⟨i, ev env a, none⟩)
    | _ => ⟨i, .undef, none⟩)
  | none => ⟨i, .undef, none⟩
def Yif (ops : Array Oper) (f : Op → Bool) (i : Nat) : Bool := match ops[i]? with | some o => f o.op | none => false
def Yjg (f : Nat → Prop) : List Nat → Prop
  | [] => True
  | [i] => f i
  | i :: r => f i ∧ Yjg f r
theorem Ztz {f : Nat → Prop} : ∀ {l : List Nat}, Yjg f l → ∀ i ∈ l, f i
  | [], _, i, hi => by simp at hi
  | [j], h, i, hi => by simp at hi; subst hi; exact h
  | j :: k :: r, h, i, hi => by
    rcases List.mem_cons.1 hi with rfl | hi
    · exact h.1
    · exact Ztz h.2 i hi
def Zvp (P : Program) (N : Nat) (ops : Array Oper) (ks : List Nat) (K : Env → Zaa → Prop) : Nat → Array Bool → List Zrh → Env → Zaa → Prop
  | 0, listed, _, env, h => (match Region.ready .any ops listed with | [] => K (env.keep ks) h | _ => False)
  | f + 1, listed, hs, env, h =>
    (match Region.ready .any ops listed with
    | [] => K (env.keep ks) h
    | rs => (match rs.find? (fun i => Yif ops (Ztb P) i && Region.free .any ops listed i) with
      | some i => Zoz P N ops i env h fun env' h' => Zvp P N ops ks K f (listed.setIfInBounds i true) hs env' h'
      | none => (match (match rs with | [_] => none | _ => rs.find? (fun i => Yif ops Yeg i && Region.free .any ops listed i)) with
        | some i => Zoz P N ops i env h fun env' h' => Zvp P N ops ks K f (listed.setIfInBounds i true) (Zlk P ops i env :: hs) env' h'
        | none => Yjg (fun i => Zoz P N ops i env h fun env' h' => Zuj ops i hs h h' (Zvp P N ops ks K f (listed.setIfInBounds i true) hs env' h')) rs)))

def Ydl (P : Program) (N : Nat) (ops : Array Oper) (K : Env → Zaa → Prop) (hs : List Zrh) : Nat → Array Bool → Env → Zaa → Prop
  | 0, listed, env, h => Region.ready .any ops listed = [] ∧ K env h
  | f + 1, listed, env, h => (Region.ready .any ops listed = [] → K env h) ∧
    ∀ i ∈ Region.ready .any ops listed, Zoz P N ops i env h fun env' h' => (∀ d ∈ hs, Zlt ops i d.i = true ∨ d.ok h h') ∧ Ydl P N ops K hs f (listed.setIfInBounds i true) env' h'

def Zwo (env env' : Env) : Prop := ∀ t, env.get t = env'.get t
def Zoi (o : Oper) (env : Env) (v : Zag) (env1 : Env) : Prop := ∀ t, env1.get t = if o.dst = some t then v else env.get t

section
variable {P : Program} {N : Nat} {ops : Array Oper}

theorem Zvm {env env' : Env} {d : Option Tmp} {v : Zag} {K K' : Env → Prop} (hk : Zml N env d v K)
    (hK : ∀ env1 env1', (∀ t, env1.get t = if d = some t then v else env.get t) → (∀ t, env1'.get t = if d = some t then v else env'.get t) → K env1 → K' env1') : Zml N env' d v K' := by
  unfold Zml at *
  cases d with
  | none => exact hK env env' (by simp) (by simp) hk
  | some d =>
    refine Zbt hk fun hk => hK _ _ ?_ ?_ hk
    · intro t; rw [Env.get_set]; by_cases e : t = d <;> simp [e, eq_comm]; exact fun q => absurd q.symm e
    · intro t; rw [Env.get_set]; by_cases e : t = d <;> simp [e, eq_comm]; exact fun q => absurd q.symm e

theorem Zkt {env env' : Env} {o : Oper} (hl : ∀ t ∈ o.looksAt ops, env.get t = env'.get t) : ∀ x ∈ o.op.operands, ev env x = ev env' x := fun x hx => by
  cases x with
  | tmp t => exact hl t (List.mem_append_left _ (List.mem_filterMap.2 ⟨.tmp t, by simpa using hx, rfl⟩))
  | _ => rfl
theorem Zer {env : Env} {t : Nat} {v : Zag} (h : env.get t = v) (s : Nat) : (env.set t v).get s = env.get s := by
  rw [Env.get_set]; split
  · rename_i e; subst e; exact h.symm
  · rfl
theorem Ygl {env env' : Env} {h h2 : Zaa} {o : Oper} {K K' : Env → Zaa → Prop} (hs : Zjb P N ops env h o K) (hl : ∀ t ∈ o.looksAt ops, env.get t = env'.get t)
    (hop : ∀ (e1 e2 : Env), (∀ x ∈ o.op.operands, ev e1 x = ev e2 x) → (∀ t, e1.get t = env.get t) → ∀ (A B : Zag → Zaa → Prop), opA P e1 h o A → (∀ v h', A v h' → B v h') → opA P e2 h2 o B)
    (hun : ∀ e1 e2, Zwo e1 env → Zwo e2 env' → Zml N e1 o.dst (.tup []) (fun x => K x h) → Zml N e2 o.dst (.tup []) (fun x => K' x h2))
    (hK : ∀ v h' env1 env1', Zoi o env v env1 → Zoi o env' v env1' → K env1 h' → K' env1' h') : Zjb P N ops env' h2 o K' := by
  unfold Zjb at *
  cases hg : o.guard with
  | none =>
    simp only [hg] at hs ⊢
    exact hop env env' (Zkt hl) (fun _ => rfl) _ _ hs fun v h' hp => Zvm hp fun e1 e2 a b k => hK v h' e1 e2 a b k
  | some g =>
    obtain ⟨j, want⟩ := g
    simp only [hg] at hs ⊢
    cases ht : (ops[j]?).bind (·.dst) with
    | none => simp only [ht] at hs
    | some t =>
      simp only [ht] at hs ⊢
      have htl : env.get t = env'.get t := hl t (List.mem_append_right _ (by simp [hg, ht]))
      rw [← htl]
      split at hs
      · rename_i b hb
        have key : ∀ c, b = c → (opA P (env.set t (.bool c)) h o (fun v h' => Zml N (env.set t (.bool c)) o.dst v fun env' => K env' h') → opA P (env'.set t (.bool c)) h2 o (fun v h' => Zml N (env'.set t (.bool c)) o.dst v fun env' => K' env' h')) ∧
            (Zml N (env.set t (.bool c)) o.dst (.tup []) (fun env' => K env' h) → Zml N (env'.set t (.bool c)) o.dst (.tup []) (fun env' => K' env' h2)) := by
          intro c e
          subst e
          have k1 := Zer hb
          have k2 := Zer (htl ▸ hb : env'.get t = .bool b)
          constructor
          · intro ho
            refine hop _ _ (Zkt fun s hs => by rw [k1, k2]; exact hl s hs) k1 _ _ ho fun v h' hp => Zvm hp fun e1 e2 a b k => hK v h' e1 e2 ?_ ?_ k
            · intro s; rw [a s, k1]
            · intro s; rw [b s, k2]
          · exact hun _ _ k1 k2
        cases b
        · obtain ⟨k1, k2⟩ := key false rfl
          cases want
          · exact k1 hs
          · exact k2 hs
        · obtain ⟨k1, k2⟩ := key true rfl
          cases want
          · exact k2 hs
          · exact k1 hs
      · exact hun env env' (fun _ => rfl) (fun _ => rfl) hs
      · exact hs.elim

theorem Zps {env env' : Env} {h : Zaa} {o : Oper} {K K' : Env → Zaa → Prop} (hs : Zjb P N ops env h o K) (hl : ∀ t ∈ o.looksAt ops, env.get t = env'.get t)
    (hK : ∀ v h' env1 env1', Zoi o env v env1 → Zoi o env' v env1' → K env1 h' → K' env1' h') : Zjb P N ops env' h o K' :=
  Ygl hs hl (fun e1 e2 hx _ A B ha hm => Ycy ((Zqi hx).1 ha) hm)
    (fun e1 e2 q1 q2 hp => Zvm hp fun f1 f2 a b k => hK _ _ f1 f2 (fun t => by rw [a t, q1 t]) (fun t => by rw [b t, q2 t]) k) hK

def Yd (P : Program) (N : Nat) (ops : Array Oper) (o : Oper) (v : Zag) (env : Env) (h : Zaa) : Prop :=
  ∀ K : Env → Zaa → Prop, (∀ env1, Zoi o env v env1 → K env1 h) → Zjb P N ops env h o K

theorem Zno {K : Env → Zaa → Prop} {hs hs' : List Zrh} (hsub : ∀ d ∈ hs, d ∈ hs') : ∀ (f : Nat) {listed : Array Bool} {env env' : Env} {h : Zaa}, (∀ e e' h, Zwo e e' → K e h → K e' h) → Zwo env env' →
    Ydl P N ops K hs' f listed env h → Ydl P N ops K hs f listed env' h
  | 0, _, _, _, _, hK, he, hh => ⟨hh.1, hK _ _ _ he hh.2⟩
  | f + 1, listed, env, env', h, hK, he, hh => by
    refine ⟨fun hr => hK _ _ _ he (hh.1 hr), fun i hi => ?_⟩
    have := hh.2 i hi
    unfold Zoz at *
    cases ho : ops[i]? with
    | none =>
      rw [ho] at this
      exact ⟨fun d hd => this.1 d (hsub d hd), Zno hsub f hK he this.2⟩
    | some o =>
      rw [ho] at this
      refine Zps this (fun t _ => he t) fun v h' e1 e2 a b k => ⟨fun d hd => k.1 d (hsub d hd), Zno hsub f hK (fun t => ?_) k.2⟩
      rw [a t, b t, he t]

theorem Zsd {K : Env → Zaa → Prop} {hs hs' : List Zrh} (hK : ∀ e e' h, Zwo e e' → K e h → K e' h) (hsub : ∀ d ∈ hs, d ∈ hs') {i : Nat} {oi : Oper} {v : Zag} (hi : ops[i]? = some oi) {T : Zaa → Zaa → Prop}
    (hT : ∀ j h h1, Zlt ops j i = false → (∀ d ∈ hs', Zlt ops j d.i = true ∨ d.ok h h1) → T h h1)
    {Y : Env → Zaa → Prop} (hY : ∀ env h, Y env h → Yd P N ops oi v env h)
    (hst : ∀ env h env1 h1, Y env h → (∀ t ∈ oi.looksAt ops, env.get t = env1.get t) → T h h1 → Y env1 h1) :
    ∀ (fuel : Nat) (listed : Array Bool) (env env1 : Env) (h : Zaa),
      (∀ j oj, ops[j]? = some oj → j ≠ i → listed.getD j true = false → (∀ e ∈ oj.after, Region.binds .any e = true → e.on ≠ i) → oi.apart ops oj = true) →
      i ∈ Region.ready .any ops listed → Y env h → Zoi oi env v env1 →
      Ydl P N ops K hs' fuel (listed.setIfInBounds i true) env1 h → Ydl P N ops K hs (fuel + 1) listed env h := by
  intro fuel
  have now : ∀ (fuel : Nat) (listed : Array Bool) (env env1 : Env) (h : Zaa), Y env h → Zoi oi env v env1 → Ydl P N ops K hs' fuel (listed.setIfInBounds i true) env1 h →
      Zoz P N ops i env h fun env' h' => (∀ d ∈ hs, Zlt ops i d.i = true ∨ d.ok h h') ∧ Ydl P N ops K hs fuel (listed.setIfInBounds i true) env' h' := by
    intro fuel listed env env1 h hy ha H
    unfold Zoz
    rw [hi]
    exact hY _ _ hy _ fun env2 h2 => ⟨fun d _ => .inr (d.ok_refl h), Zno hsub fuel hK (fun t => by rw [ha t, h2 t]) H⟩
  induction fuel with
  | zero =>
    intro listed env env1 h _ hr hy ha H
    refine ⟨fun e => (by rw [e] at hr; cases hr), fun j hj => ?_⟩
    by_cases hji : j = i
    · subst hji; exact now 0 listed env env1 h hy ha H
    · have := ready_mono hj hji
      rw [H.1] at this
      cases this
  | succ fuel ih =>
    intro listed env env1 h hfree hr hy ha H
    refine ⟨fun e => (by rw [e] at hr; cases hr), fun j hj => ?_⟩
    by_cases hji : j = i
    · subst hji; exact now (fuel + 1) listed env env1 h hy ha H
    · have h1 := H.2 j (ready_mono hj hji)
      obtain ⟨hjun, oj, hoj, hall⟩ := mem_ready.1 hj
      have hnot : ∀ e ∈ oj.after, Region.binds .any e = true → e.on ≠ i := fun e he hb heq => by
        have h1 := hall e he hb
        have h0 := (mem_ready.1 hr).1
        rw [heq] at h1
        rcases Nat.lt_or_ge i listed.size with h' | h'
        · simp [h'] at h0 h1; rw [h0] at h1; cases h1
        · simp [Array.getElem?_eq_none h'] at h1
      have hw : Zlt ops j i = false := by
        unfold Zlt
        rw [hoj]
        simp only [Array.any_eq_false]
        intro q hq
        simp only [Bool.and_eq_true, beq_iff_eq, not_and]
        intro hb
        exact hnot _ (Array.getElem_mem hq) hb
      obtain ⟨a1, a2, a3⟩ := Oper.apart_spec (hfree j oj hoj hji hjun hnot)
      unfold Zoz at h1 ⊢
      rw [hoj] at h1 ⊢
      refine Zps h1 (fun t ht => ?_) fun u h' e1 e2 q1 q2 k => ?_
      · rw [ha t, if_neg (fun e => a1 t e ht)]
      · refine ⟨fun d hd => k.1 d (hsub d hd), ih (listed.setIfInBounds j true) e2 e1 h' ?_ (ready_mono hr (Ne.symm hji)) ?_ ?_ ?_⟩
        · intro k ok hk hki hun hno
          refine hfree k ok hk hki ?_ hno
          by_cases hjk : j = k
          · subst hjk; exact hjun
          · rw [getD_set_ne true hjk] at hun; exact hun
        · refine hst env h e2 h' hy (fun t ht => ?_) (hT j h h' hw k.1)
          rw [q2 t, if_neg (fun e => a3 t e ht)]
        · intro t
          rw [q1 t, q2 t, ha t]
          by_cases x : oj.dst = some t <;> by_cases y : oi.dst = some t <;> simp [x, y]
          exact absurd x (a2 t y)
        · rw [Array.setIfInBounds_comm _ _ hji]
          exact k.2
end
end Go.Sim

set_option linter.unusedSimpArgs false
namespace Go.Sim
open Go Go.RowKit

section
variable {P : Program} {N : Nat} {ops : Array Oper}

theorem Yca {o : Oper} (hr : Ztb P o.op = true) {env : Env} {h : Zaa} {K : Env → Zaa → Prop} (hs : Zjb P N ops env h o K) :
    ∃ v, (∃ env1, Zoi o env v env1 ∧ K env1 h) ∧ ∀ env' h', (∀ t ∈ o.looksAt ops, env.get t = env'.get t) → Yd P N ops o v env' h' := by
  have core : ∀ (e : Env) (A : Zag → Zaa → Prop), opA P e h o A → ∃ v, A v h ∧ ∀ (e2 : Env) (h2 : Zaa) (B : Zag → Zaa → Prop), (∀ x ∈ o.op.operands, ev e x = ev e2 x) → B v h2 → opA P e2 h2 o B := by
    intro e A ha
    obtain ⟨v, hv, r⟩ := Ybi e o _ ((Zqo hr).1 ha)
    exact ⟨v, hv, fun e2 h2 B hx hb => (Zqi hx).1 ((Zqo hr).2 (r (fun v => B v h2) hb))⟩
  have put : ∀ {e : Env} {v : Zag} {K : Env → Prop}, Zml N e o.dst v K → (∃ e1, (∀ t, e1.get t = if o.dst = some t then v else e.get t) ∧ K e1) ∧ ∀ (e2 : Env) (K2 : Env → Prop), (∀ e3, (∀ t, e3.get t = if o.dst = some t then v else e2.get t) → K2 e3) → Zml N e2 o.dst v K2 := by
    intro e v K hp
    unfold Zml at *
    cases hd : o.dst with
    | none => simp only [hd] at hp ⊢; exact ⟨⟨e, by simp, hp⟩, fun e2 K2 h => h e2 (by simp)⟩
    | some d =>
      simp only [hd] at hp ⊢
      have hc := Zbg hp
      refine ⟨⟨_, ?_, hc.2⟩, fun e2 K2 h => ?_⟩
      · intro t; rw [Env.get_set]; by_cases q : t = d
        · subst q; simp
        · rw [if_neg q, if_neg (by simp; exact fun x => q x.symm)]
      · unfold chk; rw [decide_eq_true hc.1]
        refine h _ fun t => ?_
        rw [Env.get_set]; by_cases q : t = d
        · subst q; simp
        · rw [if_neg q, if_neg (by simp; exact fun x => q x.symm)]
  unfold Zjb at hs
  cases hg : o.guard with
  | none =>
    simp only [hg] at hs
    obtain ⟨v, hv, r⟩ := core env _ hs
    obtain ⟨⟨e1, h1, k1⟩, q⟩ := put hv
    refine ⟨v, ⟨e1, h1, k1⟩, fun env' h' hl K hK => ?_⟩
    unfold Zjb
    simp only [hg]
    exact r env' h' _ (Zkt hl) (q env' _ fun e3 a => hK e3 a)
  | some g =>
    obtain ⟨j, want⟩ := g
    simp only [hg] at hs
    cases ht : (ops[j]?).bind (·.dst) with
    | none => simp only [ht] at hs
    | some t =>
      simp only [ht] at hs
      split at hs
      · rename_i b hb
        have htl : ∀ env' : Env, (∀ t ∈ o.looksAt ops, env.get t = env'.get t) → env'.get t = .bool b := fun env' hl => by
          rw [← hl t (List.mem_append_right _ (by simp [hg, ht]))]; exact hb
        have go : ∀ c, b = c → opA P (env.set t (.bool c)) h o (fun v h' => Zml N (env.set t (.bool c)) o.dst v fun env' => K env' h') → want = c →
            ∃ v, (∃ env1, Zoi o env v env1 ∧ K env1 h) ∧ ∀ env' h', (∀ t ∈ o.looksAt ops, env.get t = env'.get t) → Yd P N ops o v env' h' := by
          intro c e ho hw
          subst e; subst hw
          obtain ⟨v, hv, r⟩ := core _ _ ho
          obtain ⟨⟨e1, h1, k1⟩, q⟩ := put hv
          refine ⟨v, ⟨e1, fun s => by rw [h1 s, Zer hb], k1⟩, fun env' h' hl K hK => ?_⟩
          have hb' := htl env' hl
          unfold Zjb
          simp only [hg, ht, hb']
          have body : opA P (env'.set t (.bool want)) h' o fun v h'_1 => Zml N (env'.set t (.bool want)) o.dst v fun env' => K env' h'_1 :=
            r _ h' _ (Zkt fun s hs => by rw [Zer hb, Zer hb']; exact hl s hs) (q _ _ fun e3 a => hK e3 fun s => by rw [a s, Zer hb'])
          cases want <;> exact body
        have skip : ∀ c, b = c → Zml N (env.set t (.bool c)) o.dst (.tup []) (fun env' => K env' h) → want ≠ c →
            ∃ v, (∃ env1, Zoi o env v env1 ∧ K env1 h) ∧ ∀ env' h', (∀ t ∈ o.looksAt ops, env.get t = env'.get t) → Yd P N ops o v env' h' := by
          intro c e ho hw
          subst e
          obtain ⟨⟨e1, h1, k1⟩, q⟩ := put ho
          refine ⟨.tup [], ⟨e1, fun s => by rw [h1 s, Zer hb], k1⟩, fun env' h' hl K hK => ?_⟩
          have hb' := htl env' hl
          unfold Zjb
          simp only [hg, ht, hb']
          have body : Zml N (env'.set t (.bool b)) o.dst (.tup []) fun env' => K env' h' := q _ _ fun e3 a => hK e3 fun s => by rw [a s, Zer hb']
          cases b <;> cases want <;> first | exact body | exact absurd rfl hw
        cases b
        · cases want
          · exact go false rfl hs rfl
          · exact skip false rfl hs (by simp)
        · cases want
          · exact skip true rfl hs (by simp)
          · exact go true rfl hs rfl
      · rename_i hb
        obtain ⟨⟨e1, h1, k1⟩, q⟩ := put hs
        refine ⟨.tup [], ⟨e1, h1, k1⟩, fun env' h' hl K hK => ?_⟩
        have hb' : env'.get t = .tup [] := by rw [← hl t (List.mem_append_right _ (by simp [hg, ht]))]; exact hb
        unfold Zjb
        simp only [hg, ht, hb']
        exact q _ _ fun e3 a => hK e3 a
      · exact hs.elim

theorem Zzt {t : TypeId} {h h' : Zaa} {p : Zag} {k : Zag → Prop} (hc : (match isAgg P t with | true => Zbw h' p (P.cellsOf t) = Zbw h p (P.cellsOf t) | false => Zai h' p = Zai h p)) (hk : Zpa P t h p k) : Zpa P t h' p k := by
  unfold Zpa at *
  cases ha : isAgg P t with
  | true => simp only [ha] at hc hk ⊢; rw [hc]; exact hk
  | false => simp only [ha] at hc hk ⊢; rw [hc]; exact hk

theorem Ybq {i : Nat} {o : Oper} (hi : ops[i]? = some o) (hr : Yeg o.op = true) {env : Env} {h : Zaa} {K : Env → Zaa → Prop} (hs : Zjb P N ops env h o K) :
    ∃ v, (∃ env1, Zoi o env v env1 ∧ K env1 h) ∧ ∀ env' h', (∀ t ∈ o.looksAt ops, env.get t = env'.get t) → (Zlk P ops i env).ok h h' → Yd P N ops o v env' h' := by
  obtain ⟨t, a, hop⟩ : ∃ t a, o.op = .load t a := by
    cases hq : o.op <;> simp [hq, Yeg] at hr
    exact ⟨_, _, rfl⟩
  have hold : ∀ h', (Zlk P ops i env).ok h h' → (match isAgg P t with | true => Zbw h' (ev env a) (P.cellsOf t) = Zbw h (ev env a) (P.cellsOf t) | false => Zai h' (ev env a) = Zai h (ev env a)) := by
    intro h' hh
    unfold Zlk Zrh.ok at hh
    rw [hi] at hh
    simp only [hop] at hh
    cases ha : isAgg P t <;> simp only [ha] at hh ⊢ <;> exact hh
  have core : ∀ (e : Env) (A : Zag → Zaa → Prop), (∀ x ∈ o.op.operands, ev env x = ev e x) → opA P e h o A → ∃ v, A v h ∧ ∀ (e2 : Env) (h2 : Zaa) (B : Zag → Zaa → Prop), (∀ x ∈ o.op.operands, ev e x = ev e2 x) → (Zlk P ops i env).ok h h2 → B v h2 → opA P e2 h2 o B := by
    intro e A hx0 ha
    have hxa : ev env a = ev e a := hx0 a (by simp [hop, Op.operands])
    unfold opA at ha
    simp only [hop] at ha
    have hc := Zbg ha
    obtain ⟨v, hv, r⟩ := Ybe t h (ev e a) _ hc.2
    refine ⟨v, hv, fun e2 h2 B hx hh hb => (Zqi hx).1 ?_⟩
    unfold opA
    simp only [hop]
    unfold chk; rw [decide_eq_true hc.1]
    have := hold h2 hh
    rw [hxa] at this
    exact Zzt this (r (fun v => B v h2) hb)
  have put : ∀ {e : Env} {v : Zag} {K : Env → Prop}, Zml N e o.dst v K → (∃ e1, (∀ t, e1.get t = if o.dst = some t then v else e.get t) ∧ K e1) ∧ ∀ (e2 : Env) (K2 : Env → Prop), (∀ e3, (∀ t, e3.get t = if o.dst = some t then v else e2.get t) → K2 e3) → Zml N e2 o.dst v K2 := by
    intro e v K hp
    unfold Zml at *
    cases hd : o.dst with
    | none => simp only [hd] at hp ⊢; exact ⟨⟨e, by simp, hp⟩, fun e2 K2 h => h e2 (by simp)⟩
    | some d =>
      simp only [hd] at hp ⊢
      have hc := Zbg hp
      refine ⟨⟨_, ?_, hc.2⟩, fun e2 K2 h => ?_⟩
      · intro t; rw [Env.get_set]; by_cases q : t = d
        · subst q; simp
        · rw [if_neg q, if_neg (by simp; exact fun x => q x.symm)]
      · unfold chk; rw [decide_eq_true hc.1]
        refine h _ fun t => ?_
        rw [Env.get_set]; by_cases q : t = d
        · subst q; simp
        · rw [if_neg q, if_neg (by simp; exact fun x => q x.symm)]
  unfold Zjb at hs
  cases hg : o.guard with
  | none =>
    simp only [hg] at hs
    obtain ⟨v, hv, r⟩ := core env _ (fun _ _ => rfl) hs
    obtain ⟨⟨e1, h1, k1⟩, q⟩ := put hv
    refine ⟨v, ⟨e1, h1, k1⟩, fun env' h' hl hh K hK => ?_⟩
    unfold Zjb
    simp only [hg]
    exact r env' h' _ (Zkt hl) hh (q env' _ fun e3 a => hK e3 a)
  | some g =>
    obtain ⟨j, want⟩ := g
    simp only [hg] at hs
    cases ht : (ops[j]?).bind (·.dst) with
    | none => simp only [ht] at hs
    | some t =>
      simp only [ht] at hs
      split at hs
      · rename_i b hb
        have htl : ∀ env' : Env, (∀ t ∈ o.looksAt ops, env.get t = env'.get t) → env'.get t = .bool b := fun env' hl => by
          rw [← hl t (List.mem_append_right _ (by simp [hg, ht]))]; exact hb
        have go : ∀ c, b = c → opA P (env.set t (.bool c)) h o (fun v h' => Zml N (env.set t (.bool c)) o.dst v fun env' => K env' h') → want = c →
            ∃ v, (∃ env1, Zoi o env v env1 ∧ K env1 h) ∧ ∀ env' h', (∀ t ∈ o.looksAt ops, env.get t = env'.get t) → (Zlk P ops i env).ok h h' → Yd P N ops o v env' h' := by
          intro c e ho hw
          subst e; subst hw
          obtain ⟨v, hv, r⟩ := core _ _ (Zkt (ops := ops) fun s _ => by rw [Zer hb]) ho
          obtain ⟨⟨e1, h1, k1⟩, q⟩ := put hv
          refine ⟨v, ⟨e1, fun s => by rw [h1 s, Zer hb], k1⟩, fun env' h' hl hh K hK => ?_⟩
          have hb' := htl env' hl
          unfold Zjb
          simp only [hg, ht, hb']
          have body : opA P (env'.set t (.bool want)) h' o fun v h'_1 => Zml N (env'.set t (.bool want)) o.dst v fun env' => K env' h'_1 :=
            r _ h' _ (Zkt fun s hs => by rw [Zer hb, Zer hb']; exact hl s hs) hh (q _ _ fun e3 a => hK e3 fun s => by rw [a s, Zer hb'])
          cases want <;> exact body
        have skip : ∀ c, b = c → Zml N (env.set t (.bool c)) o.dst (.tup []) (fun env' => K env' h) → want ≠ c →
            ∃ v, (∃ env1, Zoi o env v env1 ∧ K env1 h) ∧ ∀ env' h', (∀ t ∈ o.looksAt ops, env.get t = env'.get t) → (Zlk P ops i env).ok h h' → Yd P N ops o v env' h' := by
          intro c e ho hw
          subst e
          obtain ⟨⟨e1, h1, k1⟩, q⟩ := put ho
          refine ⟨.tup [], ⟨e1, fun s => by rw [h1 s, Zer hb], k1⟩, fun env' h' hl _ K hK => ?_⟩
          have hb' := htl env' hl
          unfold Zjb
          simp only [hg, ht, hb']
          have body : Zml N (env'.set t (.bool b)) o.dst (.tup []) fun env' => K env' h' := q _ _ fun e3 a => hK e3 fun s => by rw [a s, Zer hb']
          cases b <;> cases want <;> first | exact body | exact absurd rfl hw
        cases b
        · cases want
          · exact go false rfl hs rfl
          · exact skip false rfl hs (by simp)
        · cases want
          · exact skip true rfl hs (by simp)
          · exact go true rfl hs rfl
      · rename_i hb
        obtain ⟨⟨e1, h1, k1⟩, q⟩ := put hs
        refine ⟨.tup [], ⟨e1, h1, k1⟩, fun env' h' hl _ K hK => ?_⟩
        have hb' : env'.get t = .tup [] := by rw [← hl t (List.mem_append_right _ (by simp [hg, ht]))]; exact hb
        unfold Zjb
        simp only [hg, ht, hb']
        exact q _ _ fun e3 a => hK e3 a
      · exact hs.elim

theorem Ydh {env env' : Env} (h : Zwo env env') (ks : List Nat) : env.keep ks = env'.keep ks := List.map_congr_left fun t _ => by rw [h t]
theorem Zrh.ok_trans {d : Zrh} {a b c : Zaa} (h : d.ok a b) (k : d.ok b c) : d.ok a c := by
  unfold Zrh.ok at *; split at h <;> simp_all

theorem Znd {ks : List Nat} {K : Env → Zaa → Prop} : ∀ (f : Nat) (listed : Array Bool) (hs : List Zrh) (env : Env) (h : Zaa), Zvp P N ops ks K f listed hs env h →
    Ydl P N ops (fun env h => K (env.keep ks) h) hs f listed env h
  | 0, listed, hs, env, h, hd => by
    unfold Zvp at hd
    split at hd
    · rename_i hr; exact ⟨hr, hd⟩
    · exact hd.elim
  | f + 1, listed, hs, env, h, hd => by
    have hK : ∀ e e' h, Zwo e e' → K (e.keep ks) h → K (e'.keep ks) h := fun e e' h he hk => by rw [← Ydh he]; exact hk
    unfold Zvp at hd
    split at hd
    · rename_i hr; exact ⟨fun _ => hd, by rw [hr]; simp⟩
    · rename_i hne
      split at hd
      · rename_i i hi
        have hmem := List.mem_of_find?_eq_some hi
        have hp := List.find?_some hi
        simp only [Bool.and_eq_true] at hp
        obtain ⟨hp1, hp2⟩ := hp
        unfold Yif at hp1
        split at hp1
        · rename_i o ho
          unfold Zoz at hd
          rw [ho] at hd
          obtain ⟨v, ⟨env1, ha, hk⟩, hy⟩ := Yca hp1 hd
          exact Zsd (T := fun _ _ => True) (Y := fun e _ => ∀ t ∈ o.looksAt ops, env.get t = e.get t) hK (hs' := hs) (fun d hd => hd) ho (fun _ _ _ _ _ => trivial) (fun e h' he => hy e h' he)
            (fun e1 _ e2 _ y hl _ t ht => (y t ht).trans (hl t ht)) f listed env env1 h (Region.free_spec ho hp2) hmem (fun _ _ => rfl) ha (Znd f _ _ _ _ hk)
        · cases hp1
      · split at hd
        · rename_i i hi
          have hi' : (Region.ready .any ops listed).find? (fun i => Yif ops Yeg i && Region.free .any ops listed i) = some i := by
            split at hi
            · cases hi
            · exact hi
          have hmem := List.mem_of_find?_eq_some hi'
          have hp := List.find?_some hi'
          simp only [Bool.and_eq_true] at hp
          obtain ⟨hp1, hp2⟩ := hp
          unfold Yif at hp1
          split at hp1
          · rename_i o ho
            unfold Zoz at hd
            rw [ho] at hd
            obtain ⟨v, ⟨env1, ha, hk⟩, hy⟩ := Ybq ho hp1 hd
            have hid : (Zlk P ops i env).i = i := by unfold Zlk; split <;> (try split) <;> (try split) <;> rfl
            exact Zsd (T := fun a b => (Zlk P ops i env).ok a b) (Y := fun e h' => (∀ t ∈ o.looksAt ops, env.get t = e.get t) ∧ (Zlk P ops i env).ok h h') hK (hs' := Zlk P ops i env :: hs) (fun d hd => List.mem_cons_of_mem _ hd) ho
              (fun j a b hw hall => by
                have := hall _ (List.mem_cons_self ..)
                rw [hid, hw] at this
                exact this.resolve_left (by simp)) (fun e h' he => hy e h' he.1 he.2)
              (fun e1 _ e2 _ y hl ht => ⟨fun t htt => (y.1 t htt).trans (hl t htt), Zrh.ok_trans y.2 ht⟩) f listed env env1 h (Region.free_spec ho hp2) hmem ⟨fun _ _ => rfl, Zrh.ok_refl _ _⟩ ha (Znd f _ _ _ _ hk)
          · cases hp1
        · refine ⟨fun hr => absurd hr hne, fun i hi => ?_⟩
          have := Ztz hd i hi
          unfold Zoz at this ⊢
          cases ho : ops[i]? with
          | none =>
            rw [ho] at this
            obtain ⟨a, b⟩ := Zkv this
            exact ⟨a, Znd f _ _ _ _ b⟩
          | some o =>
            rw [ho] at this
            refine Zps this (fun _ _ => rfl) fun v h' e1 e2 q1 q2 k => ?_
            obtain ⟨a, b⟩ := Zkv k
            exact ⟨a, Zno (fun d hd => hd) f hK (fun t => by rw [q1 t, q2 t]) (Znd f _ _ _ _ b)⟩
end
end Go.Sim

set_option linter.unusedSimpArgs false
namespace Go.Sim
open Go Go.RowKit

def Zim : Code → Nat
  | .region id _ _ => id
  | .seq a _ => Zim a
  | .block _ c => Zim c
  | .loop c => Zim c
  | .scope c => Zim c
  | _ => 0
abbrev Zcg := List (Nat × List Nat)
def Zcg.find : Zcg → Nat → Option (List Nat)
  | [], _ => none
  | (i, ks) :: r, n => match Nat.beq i n with | true => some ks | false => Zcg.find r n
inductive Zes (B : Env → Zaa → (Exit → Env → Zaa → Prop) → Prop) (ks : List Nat) (K : Exit → Env → Zaa → Prop) : Env → Zaa → Prop
  | mk {env : Env} {h : Zaa} (R : Exit → Env → Zaa → Prop) (hb : B env h R) (hn : ∀ env' h', R .normal env' h' → Zes B ks K (env'.keep ks) h')
      (hx : ∀ e env' h', e ≠ .normal → R e env' h' → K e env' h') : Zes B ks K env h
def Zda (id : Nat) (K : Exit → Env → Zaa → Prop) : Exit → Env → Zaa → Prop
  | .exit id', env, h => (match Nat.beq id' id with | true => K .normal env h | false => K (.exit id') env h)
  | e, env, h => K e env h
def andThen (next : Env → Zaa → Prop) (K : Exit → Env → Zaa → Prop) : Exit → Env → Zaa → Prop
  | .normal, env, h => next env h
  | e, env, h => K e env h
structure At (K : Exit → Env → Zaa → Prop) (e : Exit) (env : Env) (h : Zaa) : Prop where
  get : K e env h
def left (kp : Zcg) (r : Nat) (K : Exit → Env → Zaa → Prop) : Exit → Env → Zaa → Prop
  | .exit id, env, h => At K (.exit id) (env.keep ((kp.find (3000000 + r)).getD [])) h
  | e, env, h => K e (env.keep ((kp.find (3000000 + r)).getD [])) h
theorem Yfp {kp : Zcg} {r : Nat} {K : Exit → Env → Zaa → Prop} {e : Exit} {env : Env} {h : Zaa} (hk : left kp r K e env h) : K e (env.keep ((kp.find (3000000 + r)).getD [])) h := by
  cases e <;> first | exact hk.get | exact hk
def LK (P : Program) (base N : Nat) (w0 : World) (μ : List Pl) (K : Exit → Env → Zaa → Prop) (e : Exit) (a : Act) (w : World) : Prop := Yea P base N w0 μ (K e) a w
structure Den (P : Program) (N : Nat) (c : Code) (env : Env) (h : Zaa) (K : Exit → Env → Zaa → Prop) : Prop where
  ok : ∀ (base : Nat) (w0 : World) (μ : List Pl) (a : Act) (w : World), St P base N w0 μ env h a w → c.wp P (LK P base N w0 μ K) a w
def den (P : Program) (N : Nat) (kp : Zcg) : Code → Env → Zaa → (Exit → Env → Zaa → Prop) → Prop
  | .skip, env, h, K => K .normal env h
  | .region id ops draw, env, h, K =>
    (match draw with
    | false => Yja P N ops ops.toList env h fun env' h' => K .normal env' h'
    | true => chk (P.follows .mixedOrders = true) (chk (Region.noSelect ops = true) (Zvp P N ops ((kp.find (2000000 + id)).getD []) (fun env' h' => K .normal env' h') ops.size (Array.replicate ops.size false) [] env h)))
  | .seq a b, env, h, K => den P N kp a env h (andThen (fun env' h' => (match kp.find (4000000 + Zim b) with | some ks => Den P N b (env'.keep ks) h' K | none => den P N kp b env' h' K)) K)
  | .cond c a b, env, h, K => (match ev env c with | .bool t => bcase t (den P N kp a env h K) (den P N kp b env h K) | _ => False)
  | .block id c, env, h, K => den P N kp c env h (Zda id K)
  | .loop c, env, h, K => Zes (Den P N c) ((kp.find (1000000 + Zim c)).getD []) (left kp (Zim c) K) (env.keep ((kp.find (1000000 + Zim c)).getD [])) h
  | .exit id, env, h, K => K (.exit id) env h
  | .ret, env, h, K => K .ret env h
  | _, _, _, _ => False

def rnd (ks : List Nat) (I : Env → Zaa → Prop) (K : Exit → Env → Zaa → Prop) : Exit → Env → Zaa → Prop
  | .normal, env, h => I (env.keep ks) h
  | e, env, h => K e env h
def Zdw (h : Zaa) (K : Zaa → Prop) : Prop := K h
section
variable {P : Program} {base N : Nat} {w0 : World} {μ : List Pl} {h : Zaa} {w : World}

theorem Ybs {ops : Array Oper} {hs : List Zrh} {K : Env → Zaa → Prop} {Q : Exit → Act → World → Prop} : ∀ (f : Nat) {listed : Array Bool} {μ : List Pl} {h : Zaa} {w : World} {env : Env} {a : Act}, St P base N w0 μ env h a w →
    Ydl P N ops K hs f listed env h → (∀ a w, Yea P base N w0 μ K a w → Q .normal a w) → wpAny P .any ops Q f listed a w
  | 0, _, μ, h, w, env, a, s, hk, hq => ⟨hk.1, hq a w ⟨μ, env, h, Ext.refl _, s, hk.2⟩⟩
  | f + 1, listed, μ, h, w, env, a, s, hk, hq => by
    refine ⟨fun hr => hq a w ⟨μ, env, h, Ext.refl _, s, hk.1 hr⟩, fun i hi => ?_⟩
    have h1 := hk.2 i hi
    unfold Zoz at h1
    unfold wpOp
    cases ho : ops[i]? with
    | none => rw [ho] at h1; exact Ybs f s h1.2 hq
    | some o =>
      rw [ho] at h1
      have hstep := Yay (next := wpAny P .any ops Q f (listed.setIfInBounds i true)) (Q := Q) s h1 (fun a' w' ⟨μ', env', h', hx, s', hk'⟩ => Ybs f s' hk'.2 (fun a w ⟨μ2, env2, h2, hx2, s2, k2⟩ => hq a w ⟨μ2, env2, h2, hx.trans hx2, s2, k2⟩))
      simp only
      split
      · rename_i hw; rw [if_pos hw] at hstep; exact .inl hstep
      · rename_i hw; rw [if_neg hw] at hstep; exact hstep

theorem Yea.ext {μ μ' : List Pl} (hx : Ext μ μ') {K K' : Env → Zaa → Prop} (hk : ∀ e h, K e h → K' e h) {a : Act} {w : World} (h : Yea P base N w0 μ' K a w) : Yea P base N w0 μ K' a w :=
  let ⟨μ2, env, h2, x, s, k⟩ := h
  ⟨μ2, env, h2, hx.trans x, s, hk _ _ k⟩
theorem St.keep {env : Env} {a : Act} (s : St P base N w0 μ env h a w) (ks : List Nat) : St P base N w0 μ (env.keep ks) h a w := ⟨s.rel, s.env.keep ks, s.size, s.defers⟩
theorem St.drew {env : Env} {a : Act} (s : St P base N w0 μ env h a w) : St P base N w0 μ env h a { w with drawn := w.drawn + 1 } :=
  ⟨s.rel.grow ⟨rfl, rfl, rfl, Nat.le_refl _, fun _ _ => rfl⟩, s.env, s.size, s.defers⟩

theorem Yfj {c : Code} {B : Env → Zaa → (Exit → Env → Zaa → Prop) → Prop} {ks : List Nat} {K : Exit → Env → Zaa → Prop} {μ0 : List Pl}
    (hB : ∀ (env : Env) (h : Zaa) (R : Exit → Env → Zaa → Prop) (μ : List Pl) (a : Act) (w : World), B env h R → St P base N w0 μ env h a w → c.wp P (LK P base N w0 μ R) a w) :
    ∀ {env : Env} {h : Zaa}, Zes B ks K env h → ∀ (μ : List Pl) (a : Act) (w : World), Ext μ0 μ → St P base N w0 μ env h a w → ∀ (b : Frame) (k : List Item) (cs : List Frame),
      ∃ e a' w', LK P base N w0 μ0 K e a' w' ∧ Arrives P (lone (b.at a (.code c :: .inLoop c :: k)) cs w) b k cs e a' w' := by
  intro env h hl
  induction hl with
  | @mk env h R hb hn hx ih =>
    intro μ a w hμ s b k cs
    obtain ⟨e, a1, w1, hq, harr⟩ := hB env h R μ a w hb s b (.inLoop c :: k) cs
    obtain ⟨μ1, env1, h1, hx1, s1, hr⟩ := hq
    have out : e ≠ .normal → LK P base N w0 μ0 K e a1 w1 := fun hne => ⟨μ1, env1, h1, hμ.trans hx1, s1, hx e env1 h1 hne hr⟩
    cases e with
    | normal =>
      obtain ⟨e2, a2, w2, hq2, harr2⟩ := ih env1 h1 hr μ1 a1 w1 (hμ.trans hx1) (s1.keep ks) b k cs
      exact ⟨e2, a2, w2, hq2, .of_steps (Steps.trans harr (.one step_inLoop)) harr2⟩
    | exit id => exact ⟨_, a1, w1, out (by simp), .pass (x := .inLoop c) rfl (fun _ _ => .inl (by simp)) harr⟩
    | goto l => exact ⟨_, a1, w1, out (by simp), .pass (x := .inLoop c) rfl (fun _ _ => .inl (by simp)) harr⟩
    | ret => exact ⟨_, a1, w1, out (by simp), .pass (x := .inLoop c) rfl (fun _ _ => .inl (by simp)) harr⟩
    | panic ch => exact ⟨_, a1, w1, out (by simp), .pass (x := .inLoop c) rfl (fun _ _ => .inl (by simp)) harr⟩
    | outgrown => exact ⟨_, a1, w1, out (by simp), .pass (x := .inLoop c) rfl (fun _ _ => .inl (by simp)) harr⟩

theorem Zpo (kp : Zcg) : ∀ (c : Code) (env : Env) (h : Zaa) (K : Exit → Env → Zaa → Prop) (μ : List Pl) (a : Act) (w : World), den P N kp c env h K → St P base N w0 μ env h a w → c.wp P (LK P base N w0 μ K) a w
  | .skip, env, h, K, μ, a, w, hk, s => wp_skip ⟨μ, env, h, Ext.refl _, s, hk⟩
  | .region id ops draw, env, h, K, μ, a, w, hk, s => by
    unfold den at hk
    split at hk
    · exact wp_region_list (Yeo _ s hk fun a w hp => hp)
    · replace hk := Zbg hk
      obtain ⟨hm, hk⟩ := hk
      replace hk := Zbg hk
      obtain ⟨_, hk⟩ := hk
      exact wp_region_any hm (Ybs _ s.drew (Znd _ _ _ _ _ hk) fun a w hp => by
        obtain ⟨μ', env', h', x, s2, k⟩ := hp
        exact ⟨μ', _, h', x, s2.keep _, k⟩)
  | .seq x y, env, h, K, μ, a, w, hk, s => by
    unfold den at hk
    refine wp_seq (wp_mono (Zpo kp x env h _ μ a w hk s) fun e a w hp => ?_)
    obtain ⟨μ', env', h', hx, s', k⟩ := hp
    cases e with
    | normal =>
      replace k : (match kp.find (4000000 + Zim y) with | some ks => Den P N y (env'.keep ks) h' K | none => den P N kp y env' h' K) := k
      split at k
      · exact wp_mono (k.ok base w0 μ' a w (s'.keep _)) fun e a w hp => Yea.ext hx (fun _ _ k => k) hp
      · exact wp_mono (Zpo kp y _ h' K μ' a w k s') fun e a w hp => Yea.ext hx (fun _ _ k => k) hp
    | _ => exact ⟨μ', env', h', hx, s', k⟩
  | .cond c x y, env, h, K, μ, a, w, hk, s => by
    unfold den at hk
    split at hk
    · rename_i t ht
      have hv := Yhf s.env c
      rw [ht] at hv
      have hc : a.eval c = .bool t := by
        cases hy : a.eval c with
        | bool b => rw [hy] at hv; cases hv; rfl
        | _ => rw [hy] at hv; cases hv
      refine wp_cond hc ?_
      cases t
      · exact Zpo kp y env h K μ a w hk s
      · exact Zpo kp x env h K μ a w hk s
    · exact hk.elim
  | .block id c, env, h, K, μ, a, w, hk, s => by
    unfold den at hk
    refine wp_block (wp_mono (Zpo kp c env h _ μ a w hk s) fun e a w hp => ?_)
    obtain ⟨μ', env', h', hx, s', k⟩ := hp
    cases e with
    | exit id' =>
      simp only [Zda] at k
      simp only [Exit.inBlock]
      cases hb : Nat.beq id' id with
      | true => rw [hb] at k; rw [if_pos (Nat.eq_of_beq_eq_true hb)]; exact ⟨μ', env', h', hx, s', k⟩
      | false => rw [hb] at k; rw [if_neg (Nat.ne_of_beq_eq_false hb)]; exact ⟨μ', env', h', hx, s', k⟩
    | _ => exact ⟨μ', env', h', hx, s', k⟩
  | .loop c, env, h, K, μ, a, w, hk, s => by
    unfold den at hk
    intro b k cs
    obtain ⟨e, a', w', hq, harr⟩ := Yfj (μ0 := μ) (fun env h R μ a w hb s => hb.ok base w0 μ a w s) hk μ a w (Ext.refl _) (s.keep _) b k cs
    obtain ⟨μ', env', h', hx, s', k⟩ := hq
    exact ⟨e, a', w', ⟨μ', _, h', hx, s'.keep _, Yfp k⟩, .of_steps (.one step_loop) harr⟩
  | .exit id, env, h, K, μ, a, w, hk, s => wp_exit ⟨μ, env, h, Ext.refl _, s, hk⟩
  | .ret, env, h, K, μ, a, w, hk, s => wp_ret ⟨μ, env, h, Ext.refl _, s, hk⟩
  | .scope c, env, h, K, μ, a, w, hk, s => by unfold den at hk; exact hk.elim
  | .rangeFunc f ps x y, env, h, K, μ, a, w, hk, s => by unfold den at hk; exact hk.elim
  | .label l, env, h, K, μ, a, w, hk, s => by unfold den at hk; exact hk.elim
  | .goto l, env, h, K, μ, a, w, hk, s => by unfold den at hk; exact hk.elim
  | .refuse y, env, h, K, μ, a, w, hk, s => by unfold den at hk; exact hk.elim
end

theorem Zbh {P : Program} {N : Nat} {kp : Zcg} {c : Code} {env : Env} {h : Zaa} {K : Exit → Env → Zaa → Prop} (hk : den P N kp c env h K) : Den P N c env h K :=
  ⟨fun _ _ μ a w s => Zpo kp c env h K μ a w hk s⟩

def Ygi (P : Program) (env : Env) (h : Zaa) : List ResultVar → (List Zag → Prop) → Prop
  | [], K => K []
  | .tmp t :: r, K => Ygi P env h r fun vs => K (env.get t :: vs)
  | .cell a t :: r, K => chk ((P.underlying t).isSome = true) (Zpa P t h (env.get a) fun v => Ygi P env h r fun vs => K (v :: vs))
def Zex (P : Program) (rs : List ResultVar) (Q : Zag → Zaa → Prop) : Exit → Env → Zaa → Prop
  | .normal, env, h => Ygi P env h rs fun vs => (match vs with | [v] => Q v h | vs => Q (.tup vs) h)
  | .ret, env, h => Ygi P env h rs fun vs => (match vs with | [v] => Q v h | vs => Q (.tup vs) h)
  | _, _, _ => False
section
variable {P : Program} {base N : Nat} {w0 : World} {μ : List Pl} {h : Zaa} {w : World}
theorem Zwi {env : Env} {a : Act} (s : St P base N w0 μ env h a w) : ∀ (rs : List ResultVar) {K : List Zag → Prop}, Ygi P env h rs K →
    ∃ xs vs, (rs.mapM fun (x : ResultVar) => (match x with | .tmp t => pure (a.tmps.getD t undef) | .cell b t => do loadVar t (← asAddr (a.tmps.getD b undef)) : Sem Value)).run P w = .ok xs w ∧ VRs μ vs xs ∧ K vs
  | [], K, hk => ⟨[], [], by simp, .nil, hk⟩
  | .tmp t :: r, K, hk => by
    obtain ⟨xs, vs, hr, hv, hk⟩ := Zwi s r hk
    refine ⟨a.tmps.getD t undef :: xs, env.get t :: vs, ?_, .cons (s.env t) hv, hk⟩
    rw [List.mapM_cons]
    simp only [Sem.run_bind, Sem.run_pure, Result.andThen_ok, hr]
  | .cell b t :: r, K, hk => by
    unfold Ygi at hk
    replace hk := Zbg hk
    obtain ⟨hu, hk⟩ := hk
    obtain ⟨y, v, hl, hv, hk⟩ := Ycm s.rel (s.env b) hu hk
    obtain ⟨xs, vs, hr, hvs, hk⟩ := Zwi s r hk
    refine ⟨y :: xs, v :: vs, ?_, .cons hv hvs, hk⟩
    rw [List.mapM_cons]
    have hl2 : (do loadVar t (← asAddr (a.tmps.getD b undef)) : Sem Value).run P w = .ok y w := by
      unfold Instr.loadAt at hl
      cases hx : a.tmps.getD b undef with
      | pointer p =>
        cases p with
        | none => rw [hx] at hl; simp [Instr.sureAddr] at hl
        | some q => rw [hx] at hl; simpa [Instr.sureAddr, asAddr] using hl
      | _ => rw [hx] at hl; simp [Instr.sureAddr] at hl
    simp only [Sem.run_bind] at hl2
    simp only [Sem.run_bind, hl2, Sem.run_pure, Result.andThen_ok, hr]

theorem Zxq : ∀ (args : List Zag) (xs : List Value) (i : Nat) (t : Nat), VRs μ args xs → VR μ ((Env.args i args).get t) (((List.replicate i undef) ++ xs)[t]?.getD undef)
  | [], xs, i, t, h => .undef _
  | v :: r, xs, i, t, h => by
    cases h with
    | @cons _ x _ ys hv hr =>
    simp only [Env.args, Env.get]
    cases hb : Nat.beq i t with
    | true =>
      have e := Nat.eq_of_beq_eq_true hb
      subst e
      rw [List.getElem?_append_right (by simp)]
      simpa using hv
    | false =>
      have ne := Nat.ne_of_beq_eq_false hb
      have ih := Zxq r ys (i + 1) t hr
      by_cases hlt : t < i
      · rw [List.getElem?_append_left (by simpa using hlt)]
        rw [List.getElem?_append_left (by simp; omega)] at ih
        simp [hlt, show t < i + 1 by omega] at ih ⊢
        exact ih
      · rw [List.getElem?_append_right (by simp; omega)] at ih ⊢
        simp only [List.length_replicate] at ih ⊢
        rw [show t - i = (t - (i + 1)) + 1 by omega]
        simpa using ih

theorem Zae.of_body {n : FuncId} {fn : Func} {c : Code} {args : List Zag} {h : Zaa} {Q : Zag → Zaa → Prop} (kp : Zcg) (hf : P.funcs[n]? = some fn) (hb : fn.body = some c) (hname : (fn.name == "runtime.NumGoroutine") = false)
    (hn : args.length ≤ fn.ntmps) (hd : den P fn.ntmps kp c (Env.args 0 args) h (Zex P fn.results.toList Q)) : Zae P n args h Q := by
  refine ⟨⟨fn, hf, by rw [hb]; rfl, hname⟩, fun base w0 μ w xs r hx => ?_⟩
  have hl := hx.length
  simp only [Array.length_toList] at hl
  refine calls_of_wp hf hb ?_
  have s : St P base fn.ntmps w0 μ (Env.args 0 args) h { tmps := xs ++ Array.replicate (fn.ntmps - xs.size) undef, defers := [] } w := by
    refine ⟨r, fun t => ?_, by simp; omega, rfl⟩
    have := Zxq args xs.toList 0 t hx
    simp only [List.replicate_zero, List.nil_append, Array.getElem?_toList] at this
    simp only [Array.getD_eq_getD_getElem?, Array.getElem?_append, Array.getElem?_replicate]
    by_cases h1 : t < xs.size
    · simp only [h1, if_true]; exact this
    · rw [Array.getElem?_eq_none (by omega)] at this
      simp only [h1, if_false]
      split <;> simpa using this
  refine wp_mono (Zpo kp c _ h _ μ _ w hd s) fun e a w hp => ?_
  obtain ⟨μ', env', h', hx', s', hk⟩ := hp
  have fin : Ygi P env' h' fn.results.toList (fun vs => (match vs with | [v] => Q v h' | vs => Q (.tup vs) h')) →
      a.defers = [] ∧ ∃ v, (results fn a.tmps).run P w = .ok v w ∧ ∃ x μ' v' h', Ending.returned v = .returned x ∧ Ext μ μ' ∧ Rel P base w0 μ' h' w ∧ VR μ' v' x ∧ Q v' h' := by
    intro hk
    obtain ⟨ys, vs, hr, hv, hk⟩ := Zwi s' _ hk
    refine ⟨s'.defers, (if h : ys.toArray.size = 1 then ys.toArray[0] else .tuple ys.toArray), ?_, ?_⟩
    · unfold results
      rw [Array.mapM_eq_mapM_toList]
      simp only [Sem.run_bind, Sem.run_map]
      erw [hr]
      simp only [Result.andThen_ok, Sem.run_pure]
    · have hlen := hv.length
      match vs, ys, hv, hk with
      | [v], [y], .cons hvy .nil, hk => exact ⟨y, μ', v, h', by simp, hx', s'.rel, hvy, hk⟩
      | [], [], .nil, hk => exact ⟨_, μ', .tup [], h', rfl, hx', s'.rel, .tup .nil, hk⟩
      | v :: u :: vs, y :: z :: ys, hv, hk => exact ⟨.tuple (y :: z :: ys).toArray, μ', .tup (v :: u :: vs), h', by simp, hx', s'.rel, .tup (by simpa using hv), hk⟩
  cases e with
  | normal => exact fin hk
  | ret => exact fin hk
  | _ => exact hk.elim
end
end Go.Sim

set_option linter.unusedSimpArgs false
namespace Go.Sim
open Go Go.RowKit

abbrev Pt := Option (Nat × Nat)
abbrev QT := Zag → Zaa → Prop
abbrev KT := Exit → Env → Zaa → Prop
def cod (f : Func) : Code := (f.body).getD .skip
def _root_.Go.Code.sub : Code → List Nat → Code
  | c, [] => c
  | .seq a _, 0 :: p => a.sub p
  | .seq _ b, _ :: p => b.sub p
  | .cond _ a _, 0 :: p => a.sub p
  | .cond _ _ b, _ :: p => b.sub p
  | .block _ c, _ :: p => c.sub p
  | .loop c, _ :: p => c.sub p
  | c, _ => c

def Zcq (k : Nat) (env : Env) (K : Zag → Env → Prop) : Prop := match env with | (k', v) :: r => chk (k' = k) (K v r) | [] => False
def Zld (env : Env) (K : Prop) : Prop := match env with | [] => K | _ => False
def Zfb (k : IntKind) (v : Zag) (K : Int → Prop) : Prop := match v with | .int k' n => chk (k' = k) (K n) | _ => False
def Yjk (v : Zag) (K : Prop) : Prop := match v with | .undef => K | _ => False
def eFn (f : Nat) (v : Zag) (K : List Zag → Prop) : Prop := match v with | .fn g cs => chk (g = f) (K cs) | _ => False
def Yjm (v : Zag) (K : Prop) : Prop := match v with | .nilFn => K | _ => False
def Yjq (v : Zag) (K : Nat → Prop) : Prop := match v with | .iter r => K r | _ => False
theorem Zad {k : Nat} {env : Env} {K : Zag → Env → Prop} (h : Zcq k env K) : ∃ v r, env = (k, v) :: r ∧ K v r := by
  unfold Zcq at h
  split at h
  · replace h := Zbg h; obtain ⟨rfl, h⟩ := h; exact ⟨_, _, rfl, h⟩
  · exact h.elim
theorem Zbm {env : Env} {K : Prop} (h : Zld env K) : env = [] ∧ K := by unfold Zld at h; split at h; exact ⟨rfl, h⟩; exact h.elim
theorem Zas {k : IntKind} {v : Zag} {K : Int → Prop} (h : Zfb k v K) : ∃ n, v = .int k n ∧ K n := by
  unfold Zfb at h
  split at h
  · replace h := Zbg h; obtain ⟨rfl, h⟩ := h; exact ⟨_, rfl, h⟩
  · exact h.elim
theorem Zxs {f : Nat} {v : Zag} {K : List Zag → Prop} (h : eFn f v K) : ∃ cs, v = .fn f cs ∧ K cs := by
  unfold eFn at h
  split at h
  · replace h := Zbg h; obtain ⟨rfl, h⟩ := h; exact ⟨_, rfl, h⟩
  · exact h.elim
theorem Zfn {v : Zag} {K : List Nat → Prop} (h : Zbs (some v) K) : ∃ b, v = .str b ∧ K b := by
  unfold Zbs at h; split at h
  · rename_i e; cases e; exact ⟨_, rfl, h⟩
  · exact h.elim
theorem Zdn {v : Zag} {K : Option (Nat × Nat) → Prop} (h : Znk (some v) K) : ∃ b, v = .ptr b ∧ K b := by
  unfold Znk at h; split at h
  · rename_i e; cases e; exact ⟨_, rfl, h⟩
  · exact h.elim
theorem Zbo {v : Zag} {K : Option (Nat × Nat) → Nat → Nat → Bool → Prop} (h : xSl (some v) K) : ∃ a n c e, v = .slice a n c e ∧ K a n c e := by
  unfold xSl at h; split at h
  · rename_i e; cases e; exact ⟨_, _, _, _, rfl, h⟩
  · exact h.elim
theorem Zri {cs : List Zag} {K : Zag → List Zag → Prop} (h : Zak cs K) : ∃ c r, cs = c :: r ∧ K c r := by unfold Zak at h; split at h; exact ⟨_, _, rfl, h⟩; exact h.elim
theorem Zuk {cs : List Zag} {K : Prop} (h : Zct cs K) : cs = [] ∧ K := by unfold Zct at h; split at h; exact ⟨rfl, h⟩; exact h.elim

theorem Zes.inv2 {B : Env → Zaa → (Exit → Env → Zaa → Prop) → Prop} {ks : List Nat} {K : Exit → Env → Zaa → Prop} {G : Type} (I N : G → Env → Zaa → Prop) (m : G → Nat)
    (hr : ∀ g env h, I g env h → B env h (rnd ks (N g) K)) (hN : ∀ g env h, N g env h → ∃ g', m g' < m g ∧ I g' env h) (g : G) : ∀ {env : Env} {h : Zaa}, I g env h → Zes B ks K env h := by
  induction hn : m g using Nat.strongRecOn generalizing g with
  | _ n ih =>
    intro env h hI
    refine Zes.mk _ (hr g env h hI) ?_ ?_
    · intro env' h' hk
      obtain ⟨g', hlt, hI'⟩ := hN _ _ _ hk
      exact ih (m g') (hn ▸ hlt) g' rfl hI'
    · intro e env' h' hne hk
      cases e with
      | normal => exact absurd rfl hne
      | _ => exact hk
end Go.Sim

set_option linter.unusedSimpArgs false
namespace Go.Sim
open Go Go.RowKit

@[simp] theorem Zat {b : Bool} {K : Bool → Prop} : Zcv (some (.bool b)) K = K b := rfl
@[simp] theorem Zbe {k : IntKind} {n : Int} {K : Int → Prop} : Zgn k (some (.int k n)) K = K n := by simp [Zgn]
@[simp] theorem Zal {s : List Nat} {K : List Nat → Prop} : Zbs (some (.str s)) K = K s := rfl
@[simp] theorem Zpw {a : Option (Nat × Nat)} {K : Option (Nat × Nat) → Prop} : Znk (some (.ptr a)) K = K a := rfl
@[simp] theorem Zaf {a : Option (Nat × Nat)} {n c : Nat} {e : Bool} {K : Option (Nat × Nat) → Nat → Nat → Bool → Prop} : xSl (some (.slice a n c e)) K = K a n c e := rfl
@[simp] theorem Yhv {a : Option Nat} {K : Option Nat → Prop} : Yfx (some (.map a)) K = K a := rfl
@[simp] theorem Yhz {v : Zag} {K : Zag → Prop} : Zwt (some v) K = K v := rfl
@[simp] theorem Zah {c : Zag} {r : List Zag} {K : Zag → List Zag → Prop} : Zak (c :: r) K = K c r := rfl
@[simp] theorem Zap {K : Prop} : Zct [] K = K := rfl
@[simp] theorem Zaq {cs : List Zag} {K : List Zag → Prop} : Zdg (some cs) K = K cs := rfl
@[simp] theorem Zdk {cs : List Zag} {K : List Zag → Prop} : Zoc (.agg cs) K = K cs := rfl
@[simp] theorem Zkk {cs : List Zag} {K : List Zag → Prop} : Zys (.tup cs) K = K cs := rfl
@[simp] theorem Zba {i o : Nat} {K : Nat → Nat → Prop} : Zbu (some (i, o)) K = K i o := rfl
@[simp] theorem Zar {h : Zaa} {K : Zaa → Prop} : Zcb (some h) K = K h := rfl
@[simp] theorem Zbf {h : Zaa} {K : Zaa → Prop} : Zdw h K = K h := rfl
@[simp] theorem Zfd {A B : Prop} : bcase true A B = A := rfl
@[simp] theorem Zbj {A B : Prop} : bcase false A B = B := rfl
theorem Zam {p : Prop} [Decidable p] {A B : Prop} (ha : p → A) (hb : ¬ p → B) : bcase (decide p) A B := by
  by_cases h : p
  · simp [h]; exact ha h
  · simp [h]; exact hb h

def strs (l : List (List Nat)) : List Zag := l.map .str
def Yju (l : List Int) : List Zag := l.map (.int .i64)
@[simp] theorem Ygf (l : List (List Nat)) : (strs l).length = l.length := by simp [strs]
@[simp] theorem Yip : strs [] = [] := rfl
@[simp] theorem Yfv (a b : List (List Nat)) : strs (a ++ b) = strs a ++ strs b := by simp [strs]
@[simp] theorem Yhu (l : List (List Nat)) : (strs l).all Zag.leaf = true := by simp [strs, Zag.leaf]
theorem Zwv (l : List (List Nat)) (k : Nat) : (strs l)[k]? = l[k]?.map .str := by simp [strs]

structure Zbd (b : Nat) (h h' : Zaa) : Prop where
  le : h.length ≤ h'.length
  eq : ∀ i, i < b → h'[i]? = h[i]?
theorem Zbd.refl (b : Nat) (h : Zaa) : Zbd b h h := ⟨Nat.le_refl _, fun _ _ => rfl⟩
theorem Zbd.trans {b : Nat} {h h1 h2 : Zaa} (x : Zbd b h h1) (y : Zbd b h1 h2) : Zbd b h h2 := ⟨Nat.le_trans x.le y.le, fun i hi => (y.eq i hi).trans (x.eq i hi)⟩
theorem Zbd.mono {b b' : Nat} {h h' : Zaa} (x : Zbd b h h') (hb : b' ≤ b) : Zbd b' h h' := ⟨x.le, fun i hi => x.eq i (by omega)⟩
theorem Zbd.app {b : Nat} {h : Zaa} (hb : b ≤ h.length) (l : Zaa) : Zbd b h (h ++ l) := ⟨by simp, fun i hi => List.getElem?_append_left (by omega)⟩
theorem Zbd.set {b i : Nat} {h : Zaa} (hb : b ≤ i) (x : Zck) : Zbd b h (h.set i x) := ⟨by simp, fun j hj => by rw [List.getElem?_set_ne (by omega)]⟩

theorem Zbd.cell {b : Nat} {h h' : Zaa} (s : Zbd b h h') {i o : Nat} (hi : i < b) {x : Option Zag} (hc : Zai h (.ptr (some (i, o))) = x) : Zai h' (.ptr (some (i, o))) = x := by
  have e := s.eq i hi
  simp only [Zai] at *
  rw [e]; exact hc

def Row (b : Nat) (h : Zaa) (a : Option (Nat × Nat)) (n : Nat) (cs : List Zag) : Prop :=
  cs.length = n ∧ (n = 0 ∨ ∃ i o t all ro, a = some (i, o) ∧ i < b ∧ h[i]? = some (.cells t all ro) ∧ o + n ≤ all.length ∧ cs = (all.drop o).take n)
theorem Row.nil {b : Nat} {h : Zaa} {a : Option (Nat × Nat)} : Row b h a 0 [] := ⟨rfl, .inl rfl⟩
theorem Row.same {b : Nat} {h h' : Zaa} {a : Option (Nat × Nat)} {n : Nat} {cs : List Zag} (r : Row b h a n cs) (s : Zbd b h h') : Row b h' a n cs := by
  obtain ⟨hl, r⟩ := r
  refine ⟨hl, r.imp id ?_⟩
  rintro ⟨i, o, t, all, ro, ha, hb, hi, hle, hcs⟩
  exact ⟨i, o, t, all, ro, ha, hb, by rw [s.eq i hb]; exact hi, hle, hcs⟩
theorem Row.mono {b b' : Nat} {h : Zaa} {a : Option (Nat × Nat)} {n : Nat} {cs : List Zag} (r : Row b h a n cs) (hb : b ≤ b') : Row b' h a n cs := by
  obtain ⟨hl, r⟩ := r
  refine ⟨hl, r.imp id ?_⟩
  rintro ⟨i, o, t, all, ro, ha, hi, x⟩
  exact ⟨i, o, t, all, ro, ha, by omega, x⟩
theorem Row.rowOf {b : Nat} {h : Zaa} {a : Option (Nat × Nat)} {n : Nat} {cs : List Zag} (r : Row b h a n cs) : rowOf h a n = some cs := by
  obtain ⟨hl, r⟩ := r
  rcases r with h0 | ⟨i, o, t, all, ro, rfl, hb, hi, hle, hcs⟩
  · subst h0
    have : cs = [] := List.eq_nil_of_length_eq_zero hl
    subst this
    unfold Sim.rowOf; cases a <;> simp
  · unfold Sim.rowOf
    by_cases h0 : n = 0
    · subst h0; simp at hcs; simp [hcs]
    · simp [h0, Zbw, hi, hle, hcs]
theorem Row.at {b : Nat} {h : Zaa} {a : Option (Nat × Nat)} {n : Nat} {cs : List Zag} (r : Row b h a n cs) {k : Nat} (hk : k < n) : ∃ i o, a = some (i, o) ∧ i < b ∧ Zai h (.ptr (some (i, o + k))) = cs[k]? := by
  obtain ⟨hl, r⟩ := r
  rcases r with h0 | ⟨i, o, t, all, ro, rfl, hb, hi, hle, hcs⟩
  · omega
  · refine ⟨i, o, rfl, hb, ?_⟩
    simp [Zai, hi, hcs, List.getElem?_take, hk]

def Own (b : Nat) (h : Zaa) (a : Option (Nat × Nat)) (t : TypeId) (cs : List Zag) : Prop := ∃ i, a = some (i, 0) ∧ b ≤ i ∧ h[i]? = some (.cells t cs false)
theorem Own.lt {h : Zaa} {i : Nat} {x : Zck} (hi : h[i]? = some x) : i < h.length := (List.getElem?_eq_some_iff.1 hi).1
theorem Own.row {b : Nat} {h : Zaa} {a : Option (Nat × Nat)} {t : TypeId} {cs : List Zag} (r : Own b h a t cs) : Row h.length h a cs.length cs := by
  obtain ⟨i, rfl, hb, hi⟩ := r
  exact ⟨rfl, .inr ⟨i, 0, t, cs, false, rfl, Own.lt hi, hi, by omega, by simp⟩⟩
theorem Own.last {h : Zaa} {t : TypeId} {cs : List Zag} {b : Nat} (hb : b ≤ h.length) : Own b (h ++ [.cells t cs false]) (some (h.length, 0)) t cs := ⟨h.length, rfl, hb, by simp⟩
theorem Own.same {b b' : Nat} {h h' : Zaa} {a : Option (Nat × Nat)} {t : TypeId} {cs : List Zag} (r : Own b h a t cs) (s : Zbd b' h h') (hb : h.length ≤ b') : Own b h' a t cs := by
  obtain ⟨i, rfl, hi, hg⟩ := r
  exact ⟨i, rfl, hi, by rw [s.eq i (by have := Own.lt hg; omega)]; exact hg⟩
theorem Own.mono {b b' : Nat} {h : Zaa} {a : Option (Nat × Nat)} {t : TypeId} {cs : List Zag} (r : Own b h a t cs) (hb : b' ≤ b) : Own b' h a t cs := by
  obtain ⟨i, rfl, hi, hg⟩ := r
  exact ⟨i, rfl, by omega, hg⟩

def Zqf (b : Nat) (h : Zaa) (a : Option (Nat × Nat)) (n : Nat) (t : TypeId) (cs : List Zag) : Prop := cs.length = n ∧ (n = 0 ∨ Own b h a t cs)
theorem Zqf.row {b : Nat} {h : Zaa} {a : Option (Nat × Nat)} {n : Nat} {t : TypeId} {cs : List Zag} (r : Zqf b h a n t cs) : Row h.length h a n cs := by
  obtain ⟨hl, r⟩ := r
  rcases r with h0 | r
  · exact ⟨hl, .inl h0⟩
  · rw [← hl]; exact r.row
theorem Zqf.same {b b' : Nat} {h h' : Zaa} {a : Option (Nat × Nat)} {n : Nat} {t : TypeId} {cs : List Zag} (r : Zqf b h a n t cs) (s : Zbd b' h h') (hb : h.length ≤ b') : Zqf b h' a n t cs := ⟨r.1, r.2.imp id fun x => x.same s hb⟩
theorem Zqf.mono {b b' : Nat} {h : Zaa} {a : Option (Nat × Nat)} {n : Nat} {t : TypeId} {cs : List Zag} (r : Zqf b h a n t cs) (hb : b' ≤ b) : Zqf b' h a n t cs := ⟨r.1, r.2.imp id fun x => x.mono hb⟩

theorem Zvx {P : Program} {t ty : TypeId} {h : Zaa} {b i n c : Nat} {e : Bool} {xa : Option (Nat × Nat)} {m c' : Nat} {e' : Bool} {cs new : List Zag} {K : Zag → Zaa → Prop}
    (hu : P.underlying t = some (.slice ty)) (hc : P.cellsOf ty = 1) (hok : P.okElem ty = true) (hby : P.bytesOf ty ≤ 64) (hn : cs.length = n) (hi : h[i]? = some (.cells ty cs false)) (hb : b ≤ i) (hx : rowOf h xa m = some new) (hl : new.all Zag.leaf = true)
    (hle : n + m ≤ 1099511627776) (hk : ∀ h', h' = h.set i .dead ++ [.cells ty (cs ++ new) false] → Zbd b h h' → Own b h' (some (h.length, 0)) ty (cs ++ new) → K (.slice (some (h.length, 0)) (n + m) (n + m) false) h') :
    Zcy P t h (.slice (some (i, 0)) n c e) (.slice xa m c' e') K := by
  have hlt := Own.lt hi
  unfold Zcy
  simp only [hu, hc, Nat.mul_one, hx, Zaq]
  refine ⟨⟨hok, ?_, hl⟩, .inl ⟨trivial, ?_⟩⟩
  · have : (n + m) * (P.bytesOf ty + 1) ≤ (n + m) * 65 := Nat.mul_le_mul_left _ (by omega)
    omega
  · simp only [Zlj, hi, true_and]
    refine ⟨hn, hk _ rfl ?_ ?_⟩
    · refine (Zbd.set hb .dead).trans (Zbd.app (by simp; omega) _)
    · refine ⟨h.length, rfl, by omega, by simp⟩
end Go.Sim

set_option linter.unusedSimpArgs false
namespace Go.Sim
open Go Go.RowKit

structure Zjx (i : Nat) (h h' : Zaa) : Prop where
  le : h.length ≤ h'.length
  eq : ∀ j, j < h.length → j ≠ i → h'[j]? = h[j]?
theorem Zjx.refl (i : Nat) (h : Zaa) : Zjx i h h := ⟨Nat.le_refl _, fun _ _ _ => rfl⟩
theorem Zjx.same {i b : Nat} {h h' : Zaa} (k : Zjx i h h') (hb : b ≤ i) (hl : b ≤ h.length) : Zbd b h h' := ⟨k.le, fun j hj => k.eq j (by omega) (by omega)⟩
theorem Row.keep {b i : Nat} {h h' : Zaa} {a : Pt} {n : Nat} {cs : List Zag} (r : Row b h a n cs) (ha : n ≠ 0 → ∀ j o, a = some (j, o) → j ≠ i) (k : Zjx i h h') : Row b h' a n cs := by
  obtain ⟨hl, r⟩ := r
  by_cases h0 : n = 0
  · exact ⟨hl, .inl h0⟩
  replace ha := ha h0
  refine ⟨hl, r.imp id ?_⟩
  rintro ⟨j, o, t, all, ro, ha', hb, hi, hle, hcs⟩
  exact ⟨j, o, t, all, ro, ha', hb, by rw [k.eq j (Own.lt hi) (ha _ _ ha')]; exact hi, hle, hcs⟩

theorem Zqf.apart {b i : Nat} {h : Zaa} {a : Pt} {n : Nat} {t : TypeId} {cs : List Zag} (f : Zqf b h a n t cs) (hi : i < b) : n ≠ 0 → ∀ j o, a = some (j, o) → j ≠ i := by
  intro h0 j o hj
  obtain ⟨_, h1 | ⟨k, hk, hb, _⟩⟩ := f
  · exact absurd h1 h0
  · rw [hj] at hk; cases hk; omega
def Out (t : TypeId) (h0 : Zaa) (i0 : Nat) (h : Zaa) (a : Pt) (n : Nat) (cs : List Zag) : Prop :=
  ∃ i, a = some (i, 0) ∧ (i = i0 ∨ h0.length ≤ i) ∧ h[i]? = some (.cells t cs false) ∧ cs.length = n ∧ Zjx i0 h0 h
theorem Out.refl {t : TypeId} {h : Zaa} {i : Nat} {cs : List Zag} (hi : h[i]? = some (.cells t cs false)) : Out t h i h (some (i, 0)) cs.length cs := ⟨i, rfl, .inl rfl, hi, rfl, Zjx.refl _ _⟩
theorem Out.new {t : TypeId} {h : Zaa} {cs : List Zag} : Out t (h ++ [.cells t cs false]) h.length (h ++ [.cells t cs false]) (some (h.length, 0)) cs.length cs := Out.refl (by simp)
theorem Out.call {t : TypeId} {h0 h h' : Zaa} {i0 : Nat} {a : Pt} {n : Nat} {cs : List Zag} (x : Out t h0 i0 h a n cs) (s : Zbd h.length h h') : Out t h0 i0 h' a n cs := by
  obtain ⟨i, ha, hi, hg, hn, k⟩ := x
  exact ⟨i, ha, hi, by rw [s.eq i (Own.lt hg)]; exact hg, hn, ⟨Nat.le_trans k.le s.le, fun j hj hne => by rw [s.eq j (by have := k.le; omega)]; exact k.eq j hj hne⟩⟩
theorem Out.id {t : TypeId} {h0 h : Zaa} {i0 : Nat} {a : Pt} {n : Nat} {cs : List Zag} (x : Out t h0 i0 h a n cs) : ∃ i, a = some (i, 0) ∧ i < h.length ∧ h[i]? = some (.cells t cs false) := by
  obtain ⟨i, ha, hi, hg, hn, k⟩ := x
  exact ⟨i, ha, Own.lt hg, hg⟩
theorem Out.trans {t : TypeId} {h0 h h' : Zaa} {i0 i : Nat} {a a' : Pt} {n n' : Nat} {cs cs' : List Zag} (x : Out t h0 i0 h a n cs) (ha : a = some (i, 0)) (y : Out t h i h' a' n' cs') : Out t h0 i0 h' a' n' cs' := by
  obtain ⟨j, hj, hi, hg, hn, k⟩ := x
  rw [ha] at hj
  cases hj
  obtain ⟨i', ha', hi', hg', hn', k'⟩ := y
  have hlt := Own.lt hg
  refine ⟨i', ha', ?_, hg', hn', ⟨Nat.le_trans k.le k'.le, fun j hj hne => ?_⟩⟩
  · have := k.le
    rcases hi' with rfl | hi'
    · exact hi
    · right; omega
  · have := k.le
    rw [k'.eq j (by omega) (by rcases hi with rfl | hi; exact hne; omega)]
    exact k.eq j hj hne
theorem Out.keep {t : TypeId} {h0 h : Zaa} {i0 : Nat} {a : Pt} {n : Nat} {cs : List Zag} (x : Out t h0 i0 h a n cs) : Zjx i0 h0 h := x.choose_spec.2.2.2.2
theorem Out.len {t : TypeId} {h0 h : Zaa} {i0 : Nat} {a : Pt} {n : Nat} {cs : List Zag} (x : Out t h0 i0 h a n cs) : cs.length = n := x.choose_spec.2.2.2.1
theorem Out.fresh {t : TypeId} {h0 h : Zaa} {i0 b : Nat} {a : Pt} {n : Nat} {cs : List Zag} (x : Out t h0 i0 h a n cs) (hb : b ≤ i0) (hl : b ≤ h0.length) : Zqf b h a n t cs := by
  obtain ⟨i, ha, hi, hg, hn, k⟩ := x
  exact ⟨hn, .inr ⟨i, ha, by omega, hg⟩⟩
theorem Out.append {P : Program} {t ty : TypeId} {h0 h : Zaa} {i0 n c : Nat} {a : Pt} {e : Bool} {xa : Pt} {m c' : Nat} {e' : Bool} {cs new : List Zag} {K : Zag → Zaa → Prop} (x : Out ty h0 i0 h a n cs)
    (hu : P.underlying t = some (.slice ty)) (hc : P.cellsOf ty = 1) (hok : P.okElem ty = true) (hby : P.bytesOf ty ≤ 64) (hx : rowOf h xa m = some new) (hl : new.all Zag.leaf = true)
    (hle : n + m ≤ 1099511627776) (hk : ∀ a' n' h', Out ty h0 i0 h' a' n' (cs ++ new) → K (.slice a' n' n' false) h') : Zcy P t h (.slice a n c e) (.slice xa m c' e') K := by
  obtain ⟨i, rfl, hi, hg, hn, k⟩ := x
  refine Zvx (b := 0) hu hc hok hby hn hg (by omega) hx hl hle fun h' hh _ _ => hk _ _ h' ⟨h.length, rfl, .inr k.le, by rw [hh]; simp, ?_, ⟨?_, fun j hj hne => ?_⟩⟩
  · have : new.length = m := by
      unfold rowOf at hx
      split at hx
      · split at hx
        · cases hx; simp_all
        · cases hx
      · split at hx
        · cases hx; simp_all
        · unfold Zbw at hx
          split at hx
          · split at hx
            · split at hx
              · cases hx; simp; omega
              · cases hx
            · cases hx
          · cases hx
    simp; omega
  · rw [hh]; have := k.le; simp; omega
  · have := k.le
    rw [hh, List.getElem?_append_left (by simp; omega), List.getElem?_set_ne (by omega)]
    exact k.eq j hj hne
theorem Out.push {P : Program} {t ty : TypeId} {h0 h : Zaa} {i0 n c : Nat} {a : Pt} {e : Bool} {cs : List Zag} {v : Zag} {K : Zag → Zaa → Prop} (x : Out ty h0 i0 h a n cs)
    (hu : P.underlying t = some (.slice ty)) (hc : P.cellsOf ty = 1) (hok : P.okElem ty = true) (hby : P.bytesOf ty ≤ 64) (hl : v.leaf = true)
    (hle : n + 1 ≤ 1099511627776) (hk : ∀ a' n' h', Out ty h0 i0 h' a' n' (cs ++ [v]) → K (.slice a' n' n' false) h') : Zcy P t (h ++ [.cells ty [v] false]) (.slice a n c e) (.slice (some (h.length, 0)) 1 1 true) K :=
  (x.call (Zbd.app (Nat.le_refl _) _)).append hu hc hok hby (new := [v]) (Own.row (b := 0) (t := ty) (cs := [v]) ⟨h.length, rfl, by omega, by simp⟩).rowOf (show List.all [v] Zag.leaf = true by rw [List.all_cons, hl]; rfl) hle hk
theorem Row.str {b : Nat} {h : Zaa} {a : Pt} {n : Nat} {l : List (List Nat)} (r : Row b h a n (strs l)) {k : Nat} (hk : k < n) : ∃ i o, ∃ hk' : k < l.length, a = some (i, o) ∧ i < b ∧ Zai h (.ptr (some (i, o + k))) = some (.str l[k]) := by
  have hl : l.length = n := by simpa using r.1
  obtain ⟨i, o, ha, hi, hc⟩ := r.at hk
  exact ⟨i, o, by omega, ha, hi, by rw [hc, Zwv, List.getElem?_eq_getElem (by omega)]; rfl⟩

end Go.Sim
