/- Whole bodies: the predicate transformer 'den' over the model's code, and that it is sound. -/
import Derived.Test.YtgiiilhdmfddcaaSimN
set_option linter.unusedVariables false
set_option linter.all false
set_option linter.unusedSimpArgs false
namespace Go.Sim
open Go Go.RowKit

/-- The first region's number in a piece of code. -/
def firstReg : Code → Nat
  | .region id _ _ => id
  | .seq a _ => firstReg a
  | .block _ c => firstReg c
  | .loop c => firstReg c
  | .scope c => firstReg c
  | _ => 0
abbrev Keeps := List (Nat × List Nat)
def Keeps.find : Keeps → Nat → Option (List Nat)
  | [], _ => none
  | (i, ks) :: r, n => match Nat.beq i n with | true => some ks | false => Keeps.find r n
/-- A loop: what holds at its head holds again behind each round, until it is left. -/
inductive Loop (B : Env → AHeap → (Exit → Env → AHeap → Prop) → Prop) (ks : List Nat) (K : Exit → Env → AHeap → Prop) : Env → AHeap → Prop
  | mk {env : Env} {h : AHeap} (R : Exit → Env → AHeap → Prop) (hb : B env h R) (hn : ∀ env' h', R .normal env' h' → Loop B ks K (env'.keep ks) h')
      (hx : ∀ e env' h', e ≠ .normal → R e env' h' → K e env' h') : Loop B ks K env h
def onExit (id : Nat) (K : Exit → Env → AHeap → Prop) : Exit → Env → AHeap → Prop
  | .exit id', env, h => (match Nat.beq id' id with | true => K .normal env h | false => K (.exit id') env h)
  | e, env, h => K e env h
def andThen (next : Env → AHeap → Prop) (K : Exit → Env → AHeap → Prop) : Exit → Env → AHeap → Prop
  | .normal, env, h => next env h
  | e, env, h => K e env h
/-- A place where the text is cut. -/
structure At (K : Exit → Env → AHeap → Prop) (e : Exit) (env : Env) (h : AHeap) : Prop where
  get : K e env h
def left (kp : Keeps) (r : Nat) (K : Exit → Env → AHeap → Prop) : Exit → Env → AHeap → Prop
  | .exit id, env, h => At K (.exit id) (env.keep ((kp.find (3000000 + r)).getD [])) h
  | e, env, h => K e (env.keep ((kp.find (3000000 + r)).getD [])) h
theorem left_ok {kp : Keeps} {r : Nat} {K : Exit → Env → AHeap → Prop} {e : Exit} {env : Env} {h : AHeap} (hk : left kp r K e env h) : K e (env.keep ((kp.find (3000000 + r)).getD [])) h := by
  cases e <;> first | exact hk.get | exact hk
/-- The machine's post of an abstract one. -/
def LK (P : Program) (base N : Nat) (w0 : World) (μ : List Pl) (K : Exit → Env → AHeap → Prop) (e : Exit) (a : Act) (w : World) : Prop := Post P base N w0 μ (K e) a w
/-- Code does what K says: told of the machine. -/
structure Den (P : Program) (N : Nat) (c : Code) (env : Env) (h : AHeap) (K : Exit → Env → AHeap → Prop) : Prop where
  ok : ∀ (base : Nat) (w0 : World) (μ : List Pl) (a : Act) (w : World), St P base N w0 μ env h a w → c.wp P (LK P base N w0 μ K) a w
/-- keeps: 1000000 + r: what is kept at the head of the loop that begins with region r, 3000000 + r: behind it; 2000000 + r: behind region r, whose order is open; 4000000 + r: ahead of what begins with region r and follows something else. -/
def den (P : Program) (N : Nat) (kp : Keeps) : Code → Env → AHeap → (Exit → Env → AHeap → Prop) → Prop
  | .skip, env, h, K => K .normal env h
  | .region id ops draw, env, h, K =>
    (match draw with
    | false => regA P N ops ops.toList env h fun env' h' => K .normal env' h'
    | true => chk (P.follows .mixedOrders = true) (chk (Region.noSelect ops = true) (drawA P N ops ((kp.find (2000000 + id)).getD []) (fun env' h' => K .normal env' h') ops.size (Array.replicate ops.size false) [] env h)))
  | .seq a b, env, h, K => den P N kp a env h (andThen (fun env' h' => (match kp.find (4000000 + firstReg b) with | some ks => Den P N b (env'.keep ks) h' K | none => den P N kp b env' h' K)) K)
  | .cond c a b, env, h, K => (match ev env c with | .bool t => bcase t (den P N kp a env h K) (den P N kp b env h K) | _ => False)
  | .block id c, env, h, K => den P N kp c env h (onExit id K)
  | .loop c, env, h, K => Loop (Den P N c) ((kp.find (1000000 + firstReg c)).getD []) (left kp (firstReg c) K) (env.keep ((kp.find (1000000 + firstReg c)).getD [])) h
  | .exit id, env, h, K => K (.exit id) env h
  | .ret, env, h, K => K .ret env h
  | _, _, _, _ => False

/-- What a round's end asks: the invariant at the loop's head, or what follows. -/
def rnd (ks : List Nat) (I : Env → AHeap → Prop) (K : Exit → Env → AHeap → Prop) : Exit → Env → AHeap → Prop
  | .normal, env, h => I (env.keep ks) h
  | e, env, h => K e env h
def letH (h : AHeap) (K : AHeap → Prop) : Prop := K h
theorem Loop.inv {B : Env → AHeap → (Exit → Env → AHeap → Prop) → Prop} {ks : List Nat} {K : Exit → Env → AHeap → Prop} {G : Type} (I : G → Env → AHeap → Prop) (m : G → Nat)
    (hr : ∀ g env h, I g env h → B env h (rnd ks (fun env' h' => ∃ g', m g' < m g ∧ I g' env' h') K)) (g : G) : ∀ {env : Env} {h : AHeap}, I g env h → Loop B ks K env h := by
  induction hn : m g using Nat.strongRecOn generalizing g with
  | _ n ih =>
    intro env h hI
    refine Loop.mk _ (hr g env h hI) ?_ ?_
    · rintro env' h' ⟨g', hlt, hI'⟩
      exact ih (m g') (hn ▸ hlt) g' rfl hI'
    · intro e env' h' hne hk
      cases e with
      | normal => exact absurd rfl hne
      | _ => exact hk

section
variable {P : Program} {base N : Nat} {w0 : World} {μ : List Pl} {h : AHeap} {w : World}

theorem any_ok {ops : Array Oper} {hs : List Hold} {K : Env → AHeap → Prop} {Q : Exit → Act → World → Prop} : ∀ (f : Nat) {listed : Array Bool} {μ : List Pl} {h : AHeap} {w : World} {env : Env} {a : Act}, St P base N w0 μ env h a w →
    anyH P N ops K hs f listed env h → (∀ a w, Post P base N w0 μ K a w → Q .normal a w) → wpAny P .any ops Q f listed a w
  | 0, _, μ, h, w, env, a, s, hk, hq => ⟨hk.1, hq a w ⟨μ, env, h, Ext.refl _, s, hk.2⟩⟩
  | f + 1, listed, μ, h, w, env, a, s, hk, hq => by
    refine ⟨fun hr => hq a w ⟨μ, env, h, Ext.refl _, s, hk.1 hr⟩, fun i hi => ?_⟩
    have h1 := hk.2 i hi
    unfold stepI at h1
    unfold wpOp
    cases ho : ops[i]? with
    | none => rw [ho] at h1; exact any_ok f s h1.2 hq
    | some o =>
      rw [ho] at h1
      have hstep := step_ok (next := wpAny P .any ops Q f (listed.setIfInBounds i true)) (Q := Q) s h1 (fun a' w' ⟨μ', env', h', hx, s', hk'⟩ => any_ok f s' hk'.2 (fun a w ⟨μ2, env2, h2, hx2, s2, k2⟩ => hq a w ⟨μ2, env2, h2, hx.trans hx2, s2, k2⟩))
      simp only
      split
      · rename_i hw; rw [if_pos hw] at hstep; exact .inl hstep
      · rename_i hw; rw [if_neg hw] at hstep; exact hstep

theorem Post.ext {μ μ' : List Pl} (hx : Ext μ μ') {K K' : Env → AHeap → Prop} (hk : ∀ e h, K e h → K' e h) {a : Act} {w : World} (h : Post P base N w0 μ' K a w) : Post P base N w0 μ K' a w :=
  let ⟨μ2, env, h2, x, s, k⟩ := h
  ⟨μ2, env, h2, hx.trans x, s, hk _ _ k⟩
theorem St.keep {env : Env} {a : Act} (s : St P base N w0 μ env h a w) (ks : List Nat) : St P base N w0 μ (env.keep ks) h a w := ⟨s.rel, s.env.keep ks, s.size, s.defers⟩
theorem St.drew {env : Env} {a : Act} (s : St P base N w0 μ env h a w) : St P base N w0 μ env h a { w with drawn := w.drawn + 1 } :=
  ⟨s.rel.grow ⟨rfl, rfl, rfl, Nat.le_refl _, fun _ _ => rfl⟩, s.env, s.size, s.defers⟩

theorem loop_ok {c : Code} {B : Env → AHeap → (Exit → Env → AHeap → Prop) → Prop} {ks : List Nat} {K : Exit → Env → AHeap → Prop} {μ0 : List Pl}
    (hB : ∀ (env : Env) (h : AHeap) (R : Exit → Env → AHeap → Prop) (μ : List Pl) (a : Act) (w : World), B env h R → St P base N w0 μ env h a w → c.wp P (LK P base N w0 μ R) a w) :
    ∀ {env : Env} {h : AHeap}, Loop B ks K env h → ∀ (μ : List Pl) (a : Act) (w : World), Ext μ0 μ → St P base N w0 μ env h a w → ∀ (b : Frame) (k : List Item) (cs : List Frame),
      ∃ e a' w', LK P base N w0 μ0 K e a' w' ∧ Arrives P (lone (b.at a (.code c :: .inLoop c :: k)) cs w) b k cs e a' w' := by
  intro env h hl
  induction hl with
  | @mk env h R hb hn hx ih =>
    intro μ a w hμ s b k cs
    obtain ⟨e, a1, w1, hq, harr⟩ := hB env h R μ a w hb s b (.inLoop c :: k) cs
    obtain ⟨μ1, env1, h1, hx1, s1, hr⟩ := hq
    have out : e ≠ .normal → LK P base N w0 μ0 K e a1 w1 := fun hne => ⟨μ1, env1, h1, hμ.trans hx1, s1, hx e env1 h1 hne hr⟩
    cases e with
    | normal =>
      obtain ⟨e2, a2, w2, hq2, harr2⟩ := ih env1 h1 hr μ1 a1 w1 (hμ.trans hx1) (s1.keep ks) b k cs
      exact ⟨e2, a2, w2, hq2, .of_steps (Steps.trans harr (.one step_inLoop)) harr2⟩
    | exit id => exact ⟨_, a1, w1, out (by simp), .pass (x := .inLoop c) rfl (fun _ _ => .inl (by simp)) harr⟩
    | goto l => exact ⟨_, a1, w1, out (by simp), .pass (x := .inLoop c) rfl (fun _ _ => .inl (by simp)) harr⟩
    | ret => exact ⟨_, a1, w1, out (by simp), .pass (x := .inLoop c) rfl (fun _ _ => .inl (by simp)) harr⟩
    | panic ch => exact ⟨_, a1, w1, out (by simp), .pass (x := .inLoop c) rfl (fun _ _ => .inl (by simp)) harr⟩
    | outgrown => exact ⟨_, a1, w1, out (by simp), .pass (x := .inLoop c) rfl (fun _ _ => .inl (by simp)) harr⟩

theorem den_ok (kp : Keeps) : ∀ (c : Code) (env : Env) (h : AHeap) (K : Exit → Env → AHeap → Prop) (μ : List Pl) (a : Act) (w : World), den P N kp c env h K → St P base N w0 μ env h a w → c.wp P (LK P base N w0 μ K) a w
  | .skip, env, h, K, μ, a, w, hk, s => wp_skip ⟨μ, env, h, Ext.refl _, s, hk⟩
  | .region id ops draw, env, h, K, μ, a, w, hk, s => by
    unfold den at hk
    split at hk
    · exact wp_region_list (reg_ok _ s hk fun a w hp => hp)
    · replace hk := chk_elim hk
      obtain ⟨hm, hk⟩ := hk
      replace hk := chk_elim hk
      obtain ⟨_, hk⟩ := hk
      exact wp_region_any hm (any_ok _ s.drew (draw_any _ _ _ _ _ hk) fun a w hp => by
        obtain ⟨μ', env', h', x, s2, k⟩ := hp
        exact ⟨μ', _, h', x, s2.keep _, k⟩)
  | .seq x y, env, h, K, μ, a, w, hk, s => by
    unfold den at hk
    refine wp_seq (wp_mono (den_ok kp x env h _ μ a w hk s) fun e a w hp => ?_)
    obtain ⟨μ', env', h', hx, s', k⟩ := hp
    cases e with
    | normal =>
      replace k : (match kp.find (4000000 + firstReg y) with | some ks => Den P N y (env'.keep ks) h' K | none => den P N kp y env' h' K) := k
      split at k
      · exact wp_mono (k.ok base w0 μ' a w (s'.keep _)) fun e a w hp => Post.ext hx (fun _ _ k => k) hp
      · exact wp_mono (den_ok kp y _ h' K μ' a w k s') fun e a w hp => Post.ext hx (fun _ _ k => k) hp
    | _ => exact ⟨μ', env', h', hx, s', k⟩
  | .cond c x y, env, h, K, μ, a, w, hk, s => by
    unfold den at hk
    split at hk
    · rename_i t ht
      have hv := ev_ok s.env c
      rw [ht] at hv
      have hc : a.eval c = .bool t := by
        cases hy : a.eval c with
        | bool b => rw [hy] at hv; cases hv; rfl
        | _ => rw [hy] at hv; cases hv
      refine wp_cond hc ?_
      cases t
      · exact den_ok kp y env h K μ a w hk s
      · exact den_ok kp x env h K μ a w hk s
    · exact hk.elim
  | .block id c, env, h, K, μ, a, w, hk, s => by
    unfold den at hk
    refine wp_block (wp_mono (den_ok kp c env h _ μ a w hk s) fun e a w hp => ?_)
    obtain ⟨μ', env', h', hx, s', k⟩ := hp
    cases e with
    | exit id' =>
      simp only [onExit] at k
      simp only [Exit.inBlock]
      cases hb : Nat.beq id' id with
      | true => rw [hb] at k; rw [if_pos (Nat.eq_of_beq_eq_true hb)]; exact ⟨μ', env', h', hx, s', k⟩
      | false => rw [hb] at k; rw [if_neg (Nat.ne_of_beq_eq_false hb)]; exact ⟨μ', env', h', hx, s', k⟩
    | _ => exact ⟨μ', env', h', hx, s', k⟩
  | .loop c, env, h, K, μ, a, w, hk, s => by
    unfold den at hk
    intro b k cs
    obtain ⟨e, a', w', hq, harr⟩ := loop_ok (μ0 := μ) (fun env h R μ a w hb s => hb.ok base w0 μ a w s) hk μ a w (Ext.refl _) (s.keep _) b k cs
    obtain ⟨μ', env', h', hx, s', k⟩ := hq
    exact ⟨e, a', w', ⟨μ', _, h', hx, s'.keep _, left_ok k⟩, .of_steps (.one step_loop) harr⟩
  | .exit id, env, h, K, μ, a, w, hk, s => wp_exit ⟨μ, env, h, Ext.refl _, s, hk⟩
  | .ret, env, h, K, μ, a, w, hk, s => wp_ret ⟨μ, env, h, Ext.refl _, s, hk⟩
  | .scope c, env, h, K, μ, a, w, hk, s => by unfold den at hk; exact hk.elim
  | .rangeFunc f ps x y, env, h, K, μ, a, w, hk, s => by unfold den at hk; exact hk.elim
  | .label l, env, h, K, μ, a, w, hk, s => by unfold den at hk; exact hk.elim
  | .goto l, env, h, K, μ, a, w, hk, s => by unfold den at hk; exact hk.elim
  | .refuse y, env, h, K, μ, a, w, hk, s => by unfold den at hk; exact hk.elim
end

theorem den_Den {P : Program} {N : Nat} {kp : Keeps} {c : Code} {env : Env} {h : AHeap} {K : Exit → Env → AHeap → Prop} (hk : den P N kp c env h K) : Den P N c env h K :=
  ⟨fun _ _ μ a w s => den_ok kp c env h K μ a w hk s⟩

def retL (P : Program) (env : Env) (h : AHeap) : List ResultVar → (List AVal → Prop) → Prop
  | [], K => K []
  | .tmp t :: r, K => retL P env h r fun vs => K (env.get t :: vs)
  | .cell a t :: r, K => chk ((P.underlying t).isSome = true) (loadA P t h (env.get a) fun v => retL P env h r fun vs => K (v :: vs))
def retA (P : Program) (rs : List ResultVar) (Q : AVal → AHeap → Prop) : Exit → Env → AHeap → Prop
  | .normal, env, h => retL P env h rs fun vs => (match vs with | [v] => Q v h | vs => Q (.tup vs) h)
  | .ret, env, h => retL P env h rs fun vs => (match vs with | [v] => Q v h | vs => Q (.tup vs) h)
  | _, _, _ => False
section
variable {P : Program} {base N : Nat} {w0 : World} {μ : List Pl} {h : AHeap} {w : World}
theorem retL_ok {env : Env} {a : Act} (s : St P base N w0 μ env h a w) : ∀ (rs : List ResultVar) {K : List AVal → Prop}, retL P env h rs K →
    ∃ xs vs, (rs.mapM fun (x : ResultVar) => (match x with | .tmp t => pure (a.tmps.getD t undef) | .cell b t => do loadVar t (← asAddr (a.tmps.getD b undef)) : Sem Value)).run P w = .ok xs w ∧ VRs μ vs xs ∧ K vs
  | [], K, hk => ⟨[], [], by simp, .nil, hk⟩
  | .tmp t :: r, K, hk => by
    obtain ⟨xs, vs, hr, hv, hk⟩ := retL_ok s r hk
    refine ⟨a.tmps.getD t undef :: xs, env.get t :: vs, ?_, .cons (s.env t) hv, hk⟩
    rw [List.mapM_cons]
    simp only [Sem.run_bind, Sem.run_pure, Result.andThen_ok, hr]
  | .cell b t :: r, K, hk => by
    unfold retL at hk
    replace hk := chk_elim hk
    obtain ⟨hu, hk⟩ := hk
    obtain ⟨y, v, hl, hv, hk⟩ := load_ok s.rel (s.env b) hu hk
    obtain ⟨xs, vs, hr, hvs, hk⟩ := retL_ok s r hk
    refine ⟨y :: xs, v :: vs, ?_, .cons hv hvs, hk⟩
    rw [List.mapM_cons]
    have hl2 : (do loadVar t (← asAddr (a.tmps.getD b undef)) : Sem Value).run P w = .ok y w := by
      unfold Instr.loadAt at hl
      cases hx : a.tmps.getD b undef with
      | pointer p =>
        cases p with
        | none => rw [hx] at hl; simp [Instr.sureAddr] at hl
        | some q => rw [hx] at hl; simpa [Instr.sureAddr, asAddr] using hl
      | _ => rw [hx] at hl; simp [Instr.sureAddr] at hl
    simp only [Sem.run_bind] at hl2
    simp only [Sem.run_bind, hl2, Sem.run_pure, Result.andThen_ok, hr]

theorem args_env : ∀ (args : List AVal) (xs : List Value) (i : Nat) (t : Nat), VRs μ args xs → VR μ ((Env.args i args).get t) (((List.replicate i undef) ++ xs)[t]?.getD undef)
  | [], xs, i, t, h => .undef _
  | v :: r, xs, i, t, h => by
    cases h with
    | @cons _ x _ ys hv hr =>
    simp only [Env.args, Env.get]
    cases hb : Nat.beq i t with
    | true =>
      have e := Nat.eq_of_beq_eq_true hb
      subst e
      rw [List.getElem?_append_right (by simp)]
      simpa using hv
    | false =>
      have ne := Nat.ne_of_beq_eq_false hb
      have ih := args_env r ys (i + 1) t hr
      by_cases hlt : t < i
      · rw [List.getElem?_append_left (by simpa using hlt)]
        rw [List.getElem?_append_left (by simp; omega)] at ih
        simp [hlt, show t < i + 1 by omega] at ih ⊢
        exact ih
      · rw [List.getElem?_append_right (by simp; omega)] at ih ⊢
        simp only [List.length_replicate] at ih ⊢
        rw [show t - i = (t - (i + 1)) + 1 by omega]
        simpa using ih

/-- A function's contract out of its body. -/
theorem SCall.of_body {n : FuncId} {fn : Func} {c : Code} {args : List AVal} {h : AHeap} {Q : AVal → AHeap → Prop} (kp : Keeps) (hf : P.funcs[n]? = some fn) (hb : fn.body = some c) (hname : (fn.name == "runtime.NumGoroutine") = false)
    (hn : args.length ≤ fn.ntmps) (hd : den P fn.ntmps kp c (Env.args 0 args) h (retA P fn.results.toList Q)) : SCall P n args h Q := by
  refine ⟨⟨fn, hf, by rw [hb]; rfl, hname⟩, fun base w0 μ w xs r hx => ?_⟩
  have hl := hx.length
  simp only [Array.length_toList] at hl
  refine calls_of_wp hf hb ?_
  have s : St P base fn.ntmps w0 μ (Env.args 0 args) h { tmps := xs ++ Array.replicate (fn.ntmps - xs.size) undef, defers := [] } w := by
    refine ⟨r, fun t => ?_, by simp; omega, rfl⟩
    have := args_env args xs.toList 0 t hx
    simp only [List.replicate_zero, List.nil_append, Array.getElem?_toList] at this
    simp only [Array.getD_eq_getD_getElem?, Array.getElem?_append, Array.getElem?_replicate]
    by_cases h1 : t < xs.size
    · simp only [h1, if_true]; exact this
    · rw [Array.getElem?_eq_none (by omega)] at this
      simp only [h1, if_false]
      split <;> simpa using this
  refine wp_mono (den_ok kp c _ h _ μ _ w hd s) fun e a w hp => ?_
  obtain ⟨μ', env', h', hx', s', hk⟩ := hp
  have fin : retL P env' h' fn.results.toList (fun vs => (match vs with | [v] => Q v h' | vs => Q (.tup vs) h')) →
      a.defers = [] ∧ ∃ v, (results fn a.tmps).run P w = .ok v w ∧ ∃ x μ' v' h', Ending.returned v = .returned x ∧ Ext μ μ' ∧ Rel P base w0 μ' h' w ∧ VR μ' v' x ∧ Q v' h' := by
    intro hk
    obtain ⟨ys, vs, hr, hv, hk⟩ := retL_ok s' _ hk
    refine ⟨s'.defers, (if h : ys.toArray.size = 1 then ys.toArray[0] else .tuple ys.toArray), ?_, ?_⟩
    · unfold results
      rw [Array.mapM_eq_mapM_toList]
      simp only [Sem.run_bind, Sem.run_map]
      erw [hr]
      simp only [Result.andThen_ok, Sem.run_pure]
    · have hlen := hv.length
      match vs, ys, hv, hk with
      | [v], [y], .cons hvy .nil, hk => exact ⟨y, μ', v, h', by simp, hx', s'.rel, hvy, hk⟩
      | [], [], .nil, hk => exact ⟨_, μ', .tup [], h', rfl, hx', s'.rel, .tup .nil, hk⟩
      | v :: u :: vs, y :: z :: ys, hv, hk => exact ⟨.tuple (y :: z :: ys).toArray, μ', .tup (v :: u :: vs), h', by simp, hx', s'.rel, .tup (by simpa using hv), hk⟩
  cases e with
  | normal => exact fin hk
  | ret => exact fin hk
  | _ => exact hk.elim
end
end Go.Sim
