/- A region whose order Go leaves open: one order, with what was loaded held, tells of all. -/
import Derived.Test.YtgiiilhdmfddcaaSimL
set_option linter.unusedVariables false
set_option linter.all false
set_option linter.unusedSimpArgs false
namespace Go.Sim
open Go Go.RowKit

/-- A cell, or a row, that was loaded by operation i. -/
structure Hold where
  i : Nat
  p : AVal
  n : Option Nat
def Hold.ok (d : Hold) (h h' : AHeap) : Prop := match d.n with | none => hCell h' d.p = hCell h d.p | some n => hRow h' d.p n = hRow h d.p n
theorem Hold.ok_refl (d : Hold) (h : AHeap) : d.ok h h := by unfold Hold.ok; split <;> rfl
def waitsOn (ops : Array Oper) (j i : Nat) : Bool := match ops[j]? with | some o => o.after.any (fun e => Region.binds .any e && e.on == i) | none => false
def holdsK (ops : Array Oper) (j : Nat) : List Hold → AHeap → AHeap → Prop → Prop
  | [], _, _, K => K
  | d :: r, h, h', K => (match waitsOn ops j d.i with | true => holdsK ops j r h h' K | false => d.ok h h' ∧ holdsK ops j r h h' K)
theorem holdsK_elim {ops : Array Oper} {j : Nat} : ∀ {hs : List Hold} {h h' : AHeap} {K : Prop}, holdsK ops j hs h h' K → (∀ d ∈ hs, waitsOn ops j d.i = true ∨ d.ok h h') ∧ K
  | [], _, _, _, hk => ⟨by simp, hk⟩
  | d :: r, h, h', K, hk => by
    unfold holdsK at hk
    split at hk
    · rename_i hw
      obtain ⟨a, b⟩ := holdsK_elim hk
      exact ⟨fun x hx => by rcases List.mem_cons.1 hx with rfl | hx; exact .inl hw; exact a x hx, b⟩
    · obtain ⟨ho, hk⟩ := hk
      obtain ⟨a, b⟩ := holdsK_elim hk
      exact ⟨fun x hx => by rcases List.mem_cons.1 hx with rfl | hx; exact .inr ho; exact a x hx, b⟩

def stepI (P : Program) (N : Nat) (ops : Array Oper) (i : Nat) (env : Env) (h : AHeap) (K : Env → AHeap → Prop) : Prop :=
  match ops[i]? with | some o => stepA P N ops env h o K | none => K env h
def holdOf (P : Program) (ops : Array Oper) (i : Nat) (env : Env) : Hold :=
  match ops[i]? with
  | some o => (match o.op with
    | .load t a => (match isAgg P t with | true => ⟨i, ev env a, some (P.cellsOf t)⟩ | false => ⟨i, ev env a, none⟩)
    | _ => ⟨i, .undef, none⟩)
  | none => ⟨i, .undef, none⟩
def opIs (ops : Array Oper) (f : Op → Bool) (i : Nat) : Bool := match ops[i]? with | some o => f o.op | none => false
def allR (f : Nat → Prop) : List Nat → Prop
  | [] => True
  | [i] => f i
  | i :: r => f i ∧ allR f r
theorem allR_elim {f : Nat → Prop} : ∀ {l : List Nat}, allR f l → ∀ i ∈ l, f i
  | [], _, i, hi => by simp at hi
  | [j], h, i, hi => by simp at hi; subst hi; exact h
  | j :: k :: r, h, i, hi => by
    rcases List.mem_cons.1 hi with rfl | hi
    · exact h.1
    · exact allR_elim h.2 i hi
/-- What a region whose order is open does: what only reckons comes first, then what only loads, then whichever of the rest. -/
def drawA (P : Program) (N : Nat) (ops : Array Oper) (ks : List Nat) (K : Env → AHeap → Prop) : Nat → Array Bool → List Hold → Env → AHeap → Prop
  | 0, listed, _, env, h => (match Region.ready .any ops listed with | [] => K (env.keep ks) h | _ => False)
  | f + 1, listed, hs, env, h =>
    (match Region.ready .any ops listed with
    | [] => K (env.keep ks) h
    | rs => (match rs.find? (fun i => opIs ops (reckons P) i && Region.free .any ops listed i) with
      | some i => stepI P N ops i env h fun env' h' => drawA P N ops ks K f (listed.setIfInBounds i true) hs env' h'
      | none => (match (match rs with | [_] => none | _ => rs.find? (fun i => opIs ops loads i && Region.free .any ops listed i)) with
        | some i => stepI P N ops i env h fun env' h' => drawA P N ops ks K f (listed.setIfInBounds i true) (holdOf P ops i env :: hs) env' h'
        | none => allR (fun i => stepI P N ops i env h fun env' h' => holdsK ops i hs h h' (drawA P N ops ks K f (listed.setIfInBounds i true) hs env' h')) rs)))

/-- Whichever order: what was loaded is held. -/
def anyH (P : Program) (N : Nat) (ops : Array Oper) (K : Env → AHeap → Prop) (hs : List Hold) : Nat → Array Bool → Env → AHeap → Prop
  | 0, listed, env, h => Region.ready .any ops listed = [] ∧ K env h
  | f + 1, listed, env, h => (Region.ready .any ops listed = [] → K env h) ∧
    ∀ i ∈ Region.ready .any ops listed, stepI P N ops i env h fun env' h' => (∀ d ∈ hs, waitsOn ops i d.i = true ∨ d.ok h h') ∧ anyH P N ops K hs f (listed.setIfInBounds i true) env' h'

def EnvEq (env env' : Env) : Prop := ∀ t, env.get t = env'.get t
def After (o : Oper) (env : Env) (v : AVal) (env1 : Env) : Prop := ∀ t, env1.get t = if o.dst = some t then v else env.get t

section
variable {P : Program} {N : Nat} {ops : Array Oper}

theorem putA_tr {env env' : Env} {d : Option Tmp} {v : AVal} {K K' : Env → Prop} (hk : putA N env d v K)
    (hK : ∀ env1 env1', (∀ t, env1.get t = if d = some t then v else env.get t) → (∀ t, env1'.get t = if d = some t then v else env'.get t) → K env1 → K' env1') : putA N env' d v K' := by
  unfold putA at *
  cases d with
  | none => exact hK env env' (by simp) (by simp) hk
  | some d =>
    refine chk_mono hk fun hk => hK _ _ ?_ ?_ hk
    · intro t; rw [Env.get_set]; by_cases e : t = d <;> simp [e, eq_comm]; exact fun q => absurd q.symm e
    · intro t; rw [Env.get_set]; by_cases e : t = d <;> simp [e, eq_comm]; exact fun q => absurd q.symm e

theorem ev_agree {env env' : Env} {o : Oper} (hl : ∀ t ∈ o.looksAt ops, env.get t = env'.get t) : ∀ x ∈ o.op.operands, ev env x = ev env' x := fun x hx => by
  cases x with
  | tmp t => exact hl t (List.mem_append_left _ (List.mem_filterMap.2 ⟨.tmp t, by simpa using hx, rfl⟩))
  | _ => rfl
theorem get_know {env : Env} {t : Nat} {v : AVal} (h : env.get t = v) (s : Nat) : (env.set t v).get s = env.get s := by
  rw [Env.get_set]; split
  · rename_i e; subst e; exact h.symm
  · rfl
theorem step_tr {env env' : Env} {h h2 : AHeap} {o : Oper} {K K' : Env → AHeap → Prop} (hs : stepA P N ops env h o K) (hl : ∀ t ∈ o.looksAt ops, env.get t = env'.get t)
    (hop : ∀ (e1 e2 : Env), (∀ x ∈ o.op.operands, ev e1 x = ev e2 x) → (∀ t, e1.get t = env.get t) → ∀ (A B : AVal → AHeap → Prop), opA P e1 h o A → (∀ v h', A v h' → B v h') → opA P e2 h2 o B)
    (hun : ∀ e1 e2, EnvEq e1 env → EnvEq e2 env' → putA N e1 o.dst (.tup []) (fun x => K x h) → putA N e2 o.dst (.tup []) (fun x => K' x h2))
    (hK : ∀ v h' env1 env1', After o env v env1 → After o env' v env1' → K env1 h' → K' env1' h') : stepA P N ops env' h2 o K' := by
  unfold stepA at *
  cases hg : o.guard with
  | none =>
    simp only [hg] at hs ⊢
    exact hop env env' (ev_agree hl) (fun _ => rfl) _ _ hs fun v h' hp => putA_tr hp fun e1 e2 a b k => hK v h' e1 e2 a b k
  | some g =>
    obtain ⟨j, want⟩ := g
    simp only [hg] at hs ⊢
    cases ht : (ops[j]?).bind (·.dst) with
    | none => simp only [ht] at hs
    | some t =>
      simp only [ht] at hs ⊢
      have htl : env.get t = env'.get t := hl t (List.mem_append_right _ (by simp [hg, ht]))
      rw [← htl]
      split at hs
      · rename_i b hb
        have key : ∀ c, b = c → (opA P (env.set t (.bool c)) h o (fun v h' => putA N (env.set t (.bool c)) o.dst v fun env' => K env' h') → opA P (env'.set t (.bool c)) h2 o (fun v h' => putA N (env'.set t (.bool c)) o.dst v fun env' => K' env' h')) ∧
            (putA N (env.set t (.bool c)) o.dst (.tup []) (fun env' => K env' h) → putA N (env'.set t (.bool c)) o.dst (.tup []) (fun env' => K' env' h2)) := by
          intro c e
          subst e
          have k1 := get_know hb
          have k2 := get_know (htl ▸ hb : env'.get t = .bool b)
          constructor
          · intro ho
            refine hop _ _ (ev_agree fun s hs => by rw [k1, k2]; exact hl s hs) k1 _ _ ho fun v h' hp => putA_tr hp fun e1 e2 a b k => hK v h' e1 e2 ?_ ?_ k
            · intro s; rw [a s, k1]
            · intro s; rw [b s, k2]
          · exact hun _ _ k1 k2
        cases b
        · obtain ⟨k1, k2⟩ := key false rfl
          cases want
          · exact k1 hs
          · exact k2 hs
        · obtain ⟨k1, k2⟩ := key true rfl
          cases want
          · exact k2 hs
          · exact k1 hs
      · exact hun env env' (fun _ => rfl) (fun _ => rfl) hs
      · exact hs.elim

theorem step_same {env env' : Env} {h : AHeap} {o : Oper} {K K' : Env → AHeap → Prop} (hs : stepA P N ops env h o K) (hl : ∀ t ∈ o.looksAt ops, env.get t = env'.get t)
    (hK : ∀ v h' env1 env1', After o env v env1 → After o env' v env1' → K env1 h' → K' env1' h') : stepA P N ops env' h o K' :=
  step_tr hs hl (fun e1 e2 hx _ A B ha hm => opA_mono ((opA_congr hx).1 ha) hm)
    (fun e1 e2 q1 q2 hp => putA_tr hp fun f1 f2 a b k => hK _ _ f1 f2 (fun t => by rw [a t, q1 t]) (fun t => by rw [b t, q2 t]) k) hK

/-- Operation o hands on v here, and does nothing else. -/
def Yd (P : Program) (N : Nat) (ops : Array Oper) (o : Oper) (v : AVal) (env : Env) (h : AHeap) : Prop :=
  ∀ K : Env → AHeap → Prop, (∀ env1, After o env v env1 → K env1 h) → stepA P N ops env h o K

theorem anyH_weak {K : Env → AHeap → Prop} {hs hs' : List Hold} (hsub : ∀ d ∈ hs, d ∈ hs') : ∀ (f : Nat) {listed : Array Bool} {env env' : Env} {h : AHeap}, (∀ e e' h, EnvEq e e' → K e h → K e' h) → EnvEq env env' →
    anyH P N ops K hs' f listed env h → anyH P N ops K hs f listed env' h
  | 0, _, _, _, _, hK, he, hh => ⟨hh.1, hK _ _ _ he hh.2⟩
  | f + 1, listed, env, env', h, hK, he, hh => by
    refine ⟨fun hr => hK _ _ _ he (hh.1 hr), fun i hi => ?_⟩
    have := hh.2 i hi
    unfold stepI at *
    cases ho : ops[i]? with
    | none =>
      rw [ho] at this
      exact ⟨fun d hd => this.1 d (hsub d hd), anyH_weak hsub f hK he this.2⟩
    | some o =>
      rw [ho] at this
      refine step_same this (fun t _ => he t) fun v h' e1 e2 a b k => ⟨fun d hd => k.1 d (hsub d hd), anyH_weak hsub f hK (fun t => ?_) k.2⟩
      rw [a t, b t, he t]

theorem anyH_first {K : Env → AHeap → Prop} {hs hs' : List Hold} (hK : ∀ e e' h, EnvEq e e' → K e h → K e' h) (hsub : ∀ d ∈ hs, d ∈ hs') {i : Nat} {oi : Oper} {v : AVal} (hi : ops[i]? = some oi) {T : AHeap → AHeap → Prop}
    (hT : ∀ j h h1, waitsOn ops j i = false → (∀ d ∈ hs', waitsOn ops j d.i = true ∨ d.ok h h1) → T h h1)
    {Y : Env → AHeap → Prop} (hY : ∀ env h, Y env h → Yd P N ops oi v env h)
    (hst : ∀ env h env1 h1, Y env h → (∀ t ∈ oi.looksAt ops, env.get t = env1.get t) → T h h1 → Y env1 h1) :
    ∀ (fuel : Nat) (listed : Array Bool) (env env1 : Env) (h : AHeap),
      (∀ j oj, ops[j]? = some oj → j ≠ i → listed.getD j true = false → (∀ e ∈ oj.after, Region.binds .any e = true → e.on ≠ i) → oi.apart ops oj = true) →
      i ∈ Region.ready .any ops listed → Y env h → After oi env v env1 →
      anyH P N ops K hs' fuel (listed.setIfInBounds i true) env1 h → anyH P N ops K hs (fuel + 1) listed env h := by
  intro fuel
  have now : ∀ (fuel : Nat) (listed : Array Bool) (env env1 : Env) (h : AHeap), Y env h → After oi env v env1 → anyH P N ops K hs' fuel (listed.setIfInBounds i true) env1 h →
      stepI P N ops i env h fun env' h' => (∀ d ∈ hs, waitsOn ops i d.i = true ∨ d.ok h h') ∧ anyH P N ops K hs fuel (listed.setIfInBounds i true) env' h' := by
    intro fuel listed env env1 h hy ha H
    unfold stepI
    rw [hi]
    exact hY _ _ hy _ fun env2 h2 => ⟨fun d _ => .inr (d.ok_refl h), anyH_weak hsub fuel hK (fun t => by rw [ha t, h2 t]) H⟩
  induction fuel with
  | zero =>
    intro listed env env1 h _ hr hy ha H
    refine ⟨fun e => (by rw [e] at hr; cases hr), fun j hj => ?_⟩
    by_cases hji : j = i
    · subst hji; exact now 0 listed env env1 h hy ha H
    · have := ready_mono hj hji
      rw [H.1] at this
      cases this
  | succ fuel ih =>
    intro listed env env1 h hfree hr hy ha H
    refine ⟨fun e => (by rw [e] at hr; cases hr), fun j hj => ?_⟩
    by_cases hji : j = i
    · subst hji; exact now (fuel + 1) listed env env1 h hy ha H
    · have h1 := H.2 j (ready_mono hj hji)
      obtain ⟨hjun, oj, hoj, hall⟩ := mem_ready.1 hj
      have hnot : ∀ e ∈ oj.after, Region.binds .any e = true → e.on ≠ i := fun e he hb heq => by
        have h1 := hall e he hb
        have h0 := (mem_ready.1 hr).1
        rw [heq] at h1
        rcases Nat.lt_or_ge i listed.size with h' | h'
        · simp [h'] at h0 h1; rw [h0] at h1; cases h1
        · simp [Array.getElem?_eq_none h'] at h1
      have hw : waitsOn ops j i = false := by
        unfold waitsOn
        rw [hoj]
        simp only [Array.any_eq_false]
        intro q hq
        simp only [Bool.and_eq_true, beq_iff_eq, not_and]
        intro hb
        exact hnot _ (Array.getElem_mem hq) hb
      obtain ⟨a1, a2, a3⟩ := Oper.apart_spec (hfree j oj hoj hji hjun hnot)
      unfold stepI at h1 ⊢
      rw [hoj] at h1 ⊢
      refine step_same h1 (fun t ht => ?_) fun u h' e1 e2 q1 q2 k => ?_
      · rw [ha t, if_neg (fun e => a1 t e ht)]
      · refine ⟨fun d hd => k.1 d (hsub d hd), ih (listed.setIfInBounds j true) e2 e1 h' ?_ (ready_mono hr (Ne.symm hji)) ?_ ?_ ?_⟩
        · intro k ok hk hki hun hno
          refine hfree k ok hk hki ?_ hno
          by_cases hjk : j = k
          · subst hjk; exact hjun
          · rw [getD_set_ne true hjk] at hun; exact hun
        · refine hst env h e2 h' hy (fun t ht => ?_) (hT j h h' hw k.1)
          rw [q2 t, if_neg (fun e => a3 t e ht)]
        · intro t
          rw [q1 t, q2 t, ha t]
          by_cases x : oj.dst = some t <;> by_cases y : oi.dst = some t <;> simp [x, y]
          exact absurd x (a2 t y)
        · rw [Array.setIfInBounds_comm _ _ hji]
          exact k.2
end
end Go.Sim
