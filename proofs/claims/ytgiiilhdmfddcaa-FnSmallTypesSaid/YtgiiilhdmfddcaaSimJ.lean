/- Calls, regions, whole bodies: the predicate transformer and that it is sound. -/
import Derived.Test.YtgiiilhdmfddcaaSimIa
import Derived.Orders
set_option linter.unusedVariables false
set_option linter.all false
set_option linter.unusedSimpArgs false
namespace Go.Sim
open Go Go.RowKit

/-- A call of function n, told over abstract values and heaps. -/
structure SCall (P : Program) (n : FuncId) (args : List AVal) (h : AHeap) (Q : AVal → AHeap → Prop) : Prop where
  able : ∃ fn, P.funcs[n]? = some fn ∧ fn.body.isSome = true ∧ (fn.name == "runtime.NumGoroutine") = false
  calls : ∀ (base : Nat) (w0 : World) (μ : List Pl) (w : World) (xs : Array Value), Rel P base w0 μ h w → VRs μ args xs.toList →
    Calls P n xs w fun e w' => ∃ x μ' v h', e = .returned x ∧ Ext μ μ' ∧ Rel P base w0 μ' h' w' ∧ VR μ' v x ∧ Q v h'
theorem SCall.mono {P : Program} {n : FuncId} {args : List AVal} {h : AHeap} {Q Q' : AVal → AHeap → Prop} (hc : SCall P n args h Q) (hq : ∀ v h', Q v h' → Q' v h') : SCall P n args h Q' :=
  ⟨hc.1, fun base w0 μ w xs r hx => (hc.2 base w0 μ w xs r hx).mono fun _ _ ⟨x, μ', v, h', a, b, c, d, q⟩ => ⟨x, μ', v, h', a, b, c, d, hq _ _ q⟩⟩

def rts (P : Program) (f : FuncId) : List TypeId := match P.funcs[f]? with | some fn => fn.resultTypes.toList | none => []
def fnCall (P : Program) (f : FuncId) (args : List AVal) (h : AHeap) (K : AVal → AHeap → Prop) : Prop := SCall P f args h fun v h' => xres P (rts P f) v fun v => K v h'
def callA (P : Program) (env : Env) (h : AHeap) (o : Oper) (c : Call) (K : AVal → AHeap → Prop) : Prop :=
  match c.callee with
  | .value f => (match ev env f with
    | .fn g caps => fnCall P g (c.args.toList.map (ev env) ++ caps) h K
    | _ => False)
  | .builtin .append => (match c.argTypes.toList with
    | [t, u] => chk (u = t) (match c.args.toList.map (ev env) with | [s, x] => appendA P t h s x fun v h' => xv .slice (some v) fun v => K v h' | _ => False)
    | _ => False)
  | .builtin .min => (match c.args.toList.map (ev env) with | [x, y] => minA x y fun v => K v h | _ => False)
  | _ => pureA P env o fun v => K v h
def opA (P : Program) (env : Env) (h : AHeap) (o : Oper) (K : AVal → AHeap → Prop) : Prop :=
  match o.op with
  | .load t a => chk ((P.underlying t).isSome = true) (loadA P t h (ev env a) fun v => K v h)
  | .store t a x => chk ((P.underlying t).isSome = true) (storeA P t h (ev env a) (ev env x) fun h' => K .undef h')
  | .alloc t => allocA P t h K
  | .box t x => boxA t h (ev env x) K
  | .build t ps => buildA P t (parts env ps) fun v => K v h
  | .buildSlice t n ps => buildSliceA P t n (parts env ps) h K
  | .call c => callA P env h o c K
  | .makeSlice t l c => makeSliceA P t (ev env l) (ev env c) h K
  | .convert s d x => (match isSlT P s with | true => strA P s d h (ev env x) fun v => K v h | false => pureA P env o fun v => K v h)
  | _ => pureA P env o fun v => K v h
def putA (N : Nat) (env : Env) (d : Option Tmp) (v : AVal) (K : Env → Prop) : Prop := match d with | none => K env | some d => chk (d < N) (K (env.set d v))
def stepA (P : Program) (N : Nat) (ops : Array Oper) (env : Env) (h : AHeap) (o : Oper) (K : Env → AHeap → Prop) : Prop :=
  match o.guard with
  | none => opA P env h o fun v h' => putA N env o.dst v fun env' => K env' h'
  | some (j, want) => (match (ops[j]?).bind (·.dst) with
    | some t => (match env.get t with
      | .bool b => bcase b
          (match want with | true => opA P (env.set t (.bool true)) h o fun v h' => putA N (env.set t (.bool true)) o.dst v fun env' => K env' h' | false => putA N (env.set t (.bool true)) o.dst (.tup []) fun env' => K env' h)
          (match want with | false => opA P (env.set t (.bool false)) h o fun v h' => putA N (env.set t (.bool false)) o.dst v fun env' => K env' h' | true => putA N (env.set t (.bool false)) o.dst (.tup []) fun env' => K env' h)
      | .tup [] => putA N env o.dst (.tup []) fun env' => K env' h
      | _ => False)
    | none => False)
def regA (P : Program) (N : Nat) (ops : Array Oper) : List Oper → Env → AHeap → (Env → AHeap → Prop) → Prop
  | [], env, h, K => K env h
  | o :: r, env, h, K => stepA P N ops env h o fun env' h' => regA P N ops r env' h' K

section
variable {P : Program} {base N : Nat} {w0 : World} {μ : List Pl} {h : AHeap} {w : World}

/-- The machine's state stands for an abstract one. -/
structure St (P : Program) (base N : Nat) (w0 : World) (μ : List Pl) (env : Env) (h : AHeap) (a : Act) (w : World) : Prop where
  rel : Rel P base w0 μ h w
  env : EnvRel μ env a.tmps
  size : a.tmps.size = N
  defers : a.defers = []

/-- A post over abstract states, for the machine's. -/
def Post (P : Program) (base N : Nat) (w0 : World) (μ : List Pl) (K : Env → AHeap → Prop) (a : Act) (w : World) : Prop :=
  ∃ μ' env h, Ext μ μ' ∧ St P base N w0 μ' env h a w ∧ K env h

theorem St.put {env : Env} {a : Act} (s : St P base N w0 μ env h a w) {μ' : List Pl} {h' : AHeap} {w' : World} (he : Ext μ μ') (hr : Rel P base w0 μ' h' w') {v : AVal} {x : Value} (hv : VR μ' v x) {d : Option Tmp} {K : Env → Prop} (hk : putA N env d v K) :
    ∃ env', St P base N w0 μ' env' h' (a.put d x) w' ∧ K env' := by
  unfold putA at hk
  cases d with
  | none => exact ⟨env, ⟨hr, s.env.ext he, s.size, s.defers⟩, hk⟩
  | some d =>
    replace hk := chk_elim hk
    obtain ⟨hd, hk⟩ := hk
    refine ⟨_, ⟨hr, (s.env.ext he).set (by rw [s.size]; exact hd) hv, ?_, s.defers⟩, hk⟩
    simp [Act.put, s.size]

theorem St.know {env : Env} {a : Act} (s : St P base N w0 μ env h a w) {t : Nat} {v : AVal} (hv : VR μ v (a.tmps.getD t undef)) : St P base N w0 μ (env.set t v) h a w :=
  ⟨s.rel, s.env.know hv, s.size, s.defers⟩

theorem Res.wp {o : Oper} {a : Act} {K : AVal → AHeap → Prop} {next : Act → World → Prop} {Q : Exit → Act → World → Prop} {s : Sem Value}
    (hr : Res P base w0 μ (s.run P w) K) (he : (execOp a.eval o).run P w = (s.run P w).andThen fun x w' => .ok (.value x) w')
    (hn : ∀ x w' μ' v h', Ext μ μ' → Rel P base w0 μ' h' w' → VR μ' v x → K v h' → next (a.put o.dst x) w') : o.wp P a w next Q := by
  obtain ⟨x, w', μ', v, h', hrun, hx, hrel, hv, hk⟩ := hr
  unfold Oper.wp
  rw [he, hrun]
  exact hn x w' μ' v h' hx hrel hv hk

theorem call_ok {env : Env} {a : Act} (s : St P base N w0 μ env h a w) {f : FuncId} {args : List AVal} {xs : Array Value} (hxs : VRs μ args xs.toList) {K : AVal → AHeap → Prop} (hk : fnCall P f args h K)
    {o : Oper} (he : (execOp a.eval o).run P w = (callFunc f xs).run P w) {next : Act → World → Prop} {Q : Exit → Act → World → Prop}
    (hn : ∀ x w' μ' v h', Ext μ μ' → Rel P base w0 μ' h' w' → VR μ' v x → K v h' → next (a.put o.dst x) w') : o.wp P a w next Q := by
  obtain ⟨⟨fn, hf, hb, hname⟩, hc⟩ := hk
  have hcall : (callFunc f xs).run P w = .ok (.enter f xs) w := by
    obtain ⟨c, hc⟩ := Option.isSome_iff_exists.1 hb
    have hname' : fn.name ≠ "runtime.NumGoroutine" := by simpa using hname
    simp [callFunc, hf, hc, hname']
  unfold Oper.wp
  rw [he, hcall]
  refine (hc base w0 μ w xs s.rel hxs).mono ?_
  rintro e w' ⟨x, μ', v, h', rfl, hx, hr, hv, hq⟩
  exact hn x w' μ' v h' hx hr hv (xres_elim (K := fun v => K v h') hq)

theorem op_ok {env : Env} {a : Act} (s : St P base N w0 μ env h a w) {o : Oper} {K : AVal → AHeap → Prop} (hk : opA P env h o K) {next : Act → World → Prop} {Q : Exit → Act → World → Prop}
    (hn : ∀ x w' μ' v h', Ext μ μ' → Rel P base w0 μ' h' w' → VR μ' v x → K v h' → next (a.put o.dst x) w') : o.wp P a w next Q := by
  have hρ := ev_ok s.env
  have pure : pureA P env o (fun v => K v h) → o.wp P a w next Q := fun hk => by
    obtain ⟨x, v, hr, hv, hk⟩ := pure_ok hρ hk
    unfold Oper.wp
    rw [hr w]
    exact hn x w μ v h (Ext.refl _) s.rel hv hk
  unfold opA at hk
  split at hk
  · rename_i t p he
    replace hk := chk_elim hk
    obtain ⟨hu, hk⟩ := hk
    obtain ⟨y, v, hr, hv, hk⟩ := load_ok s.rel (hρ p) hu hk
    unfold Oper.wp
    simp only [execOp, he, Sem.run_bind, hr, Result.andThen_ok, Sem.run_pure]
    exact hn y w μ v h (Ext.refl _) s.rel hv hk
  · rename_i t p x he
    replace hk := chk_elim hk
    obtain ⟨hu, hk⟩ := hk
    obtain ⟨w', h', hr, hrel, hk⟩ := store_ok s.rel (hρ p) (hρ x) hu hk
    unfold Oper.wp
    simp only [execOp, he, Sem.run_bind, hr, Result.andThen_ok, Sem.run_pure]
    exact hn undef w' μ .undef h' (Ext.refl _) hrel (.undef _) hk
  · rename_i t he
    exact Res.wp (alloc_ok s.rel hk) (by simp [execOp, he]) hn
  · rename_i t x he
    exact Res.wp (box_ok s.rel (hρ x) hk) (by simp [execOp, he]) hn
  · rename_i t ps he
    obtain ⟨h1, h2⟩ := parts_ok hρ ps
    obtain ⟨x, v, hr, hv, hk⟩ := build_ok h1 h2 hk
    unfold Oper.wp
    simp only [execOp, he, Sem.run_bind, hr w, Result.andThen_ok, Sem.run_pure]
    exact hn x w μ v h (Ext.refl _) s.rel hv hk
  · rename_i t n ps he
    obtain ⟨h1, h2⟩ := parts_ok hρ ps
    exact Res.wp (buildSlice_ok s.rel h1 h2 hk) (by simp [execOp, he]) hn
  · rename_i c he
    unfold callA at hk
    split at hk
    · rename_i f hcal
      split at hk
      · rename_i g caps hev
        have hf := hρ f
        rw [hev] at hf
        cases hfv : a.eval f with
        | func fn first cap =>
          rw [hfv] at hf
          cases hf with
          | fn hcaps =>
          refine call_ok s (xs := c.args.map a.eval ++ cap) (by rw [Array.toList_append]; exact (args_ok hρ c.args).append hcaps) hk ?_ hn
          simp [execOp, he, resolve, hcal, hfv, Deferred.ofValue, invoke]
        | _ => rw [hfv] at hf; cases hf
      · exact hk.elim
    · rename_i hcal
      split at hk
      · rename_i t u hts
        replace hk := chk_elim hk
        obtain ⟨rfl, hk⟩ := hk
        split at hk
        · rename_i sv xv hargs
          have hvs := args_ok hρ c.args
          rw [hargs] at hvs
          obtain ⟨x, y, hxy, h1, h2⟩ := hvs.two
          refine Res.wp (append_ok (ty := o.type) s.rel h1 h2 hk) ?_ fun x w' μ' v h' hx hr hv hk => (by obtain ⟨v2, hv2, hk⟩ := xv_elim hk; cases hv2; exact hn x w' μ' v h' hx hr hv hk)
          have hat : c.argTypes = #[u, u] := by
            apply Array.ext'; simpa using hts
          simp [execOp, he, resolve, hcal, invoke, builtin, hxy, hat]
        · exact hk.elim
      · exact hk.elim
    · rename_i hcal
      split at hk
      · rename_i a b hargs
        have hvs := args_ok hρ c.args
        rw [hargs] at hvs
        obtain ⟨x, y, hxy, h1, h2⟩ := hvs.two
        obtain ⟨v, z, hr, hv, hk⟩ := min_ok (ts := c.argTypes) (t := o.type) h1 h2 hk
        exact Res.wp (s := Builtin.min_ c.argTypes o.type #[x, y]) ⟨z, w, μ, v, h, hr w, Ext.refl _, s.rel, hv, hk⟩ (by simp [execOp, he, resolve, hcal, invoke, builtin, hxy]) hn
      · exact hk.elim
    · exact pure hk
  · rename_i t l c he
    exact Res.wp (makeSlice_ok s.rel (hρ l) (hρ c) hk) (by simp [execOp, he]) hn
  · rename_i a b x he
    split at hk
    · exact Res.wp (strA_ok s.rel (hρ x) hk) (by simp [execOp, he]) hn
    · exact pure hk
  · exact pure hk

theorem getD_bool {tmps : Array Value} {t : Nat} {b : Bool} (h : VR μ (.bool b) (tmps.getD t undef)) : tmps[t]? = some (.bool b) := by
  simp only [Array.getD_eq_getD_getElem?] at h
  cases hx : tmps[t]? with
  | none => rw [hx] at h; simp [undef] at h; cases h
  | some x => rw [hx] at h; simp at h; cases h; rfl

theorem step_ok {ops : Array Oper} {env : Env} {a : Act} (s : St P base N w0 μ env h a w) {o : Oper} {K : Env → AHeap → Prop} (hk : stepA P N ops env h o K) {next : Act → World → Prop} {Q : Exit → Act → World → Prop}
    (hn : ∀ a w, Post P base N w0 μ K a w → next a w) : if Region.wanted o (yielded ops a.tmps) then o.wp P a w next Q else next (a.put o.dst undef) w := by
  have fin : ∀ {env : Env} {v : AVal} {x : Value} {μ' : List Pl} {h' : AHeap} {w' : World}, St P base N w0 μ env h a w → Ext μ μ' → Rel P base w0 μ' h' w' → VR μ' v x → putA N env o.dst v (fun env' => K env' h') → next (a.put o.dst x) w' := by
    intro env v x μ' h' w' s hx hr hv hk
    obtain ⟨env', s', hk⟩ := s.put hx hr hv hk
    exact hn _ _ ⟨μ', env', h', hx, s', hk⟩
  unfold stepA at hk
  split at hk
  · rename_i hg
    have : Region.wanted o (yielded ops a.tmps) = true := by simp [Region.wanted, hg]
    rw [if_pos this]
    exact op_ok s hk fun x w' μ' v h' hx hr hv hk => fin s hx hr hv hk
  · rename_i j want hg
    split at hk
    · rename_i t ht
      split at hk
      · rename_i b hb
        have henv := s.env t
        rw [hb] at henv
        have hy : yielded ops a.tmps j = some b := by
          unfold yielded
          rw [ht]; simp only [Option.bind_some, getD_bool henv]
        have hwant : Region.wanted o (yielded ops a.tmps) = (b == want) := by simp [Region.wanted, hg, hy]
        rw [hwant]
        have hknow : ∀ c, b = c → St P base N w0 μ (env.set t (.bool c)) h a w := fun c e => by subst e; exact s.know henv
        refine bcase_elim hk ?_ ?_
        · rintro rfl hk
          have s' := hknow true rfl
          cases want with
          | true => exact op_ok s' hk fun x w' μ' v h' hx hr hv hk => fin s' hx hr hv hk
          | false => exact fin s' (Ext.refl _) s.rel (.tup .nil) hk
        · rintro rfl hk
          have s' := hknow false rfl
          cases want with
          | false => exact op_ok s' hk fun x w' μ' v h' hx hr hv hk => fin s' hx hr hv hk
          | true => exact fin s' (Ext.refl _) s.rel (.tup .nil) hk
      · rename_i hb
        have henv := s.env t
        rw [hb] at henv
        have hy : yielded ops a.tmps j = none := by
          unfold yielded
          rw [ht]; simp only [Option.bind_some]
          have : a.tmps[t]? = none ∨ a.tmps[t]? = some (.tuple #[]) := by
            simp only [Array.getD_eq_getD_getElem?] at henv
            cases hx : a.tmps[t]? with
            | none => exact .inl rfl
            | some x =>
              rw [hx] at henv
              simp only [Option.getD_some] at henv
              cases henv with
              | tup hv => 
                have := hv.length
                rename_i xs
                have : xs = #[] := by apply Array.ext'; exact List.eq_nil_of_length_eq_zero (by simpa using this.symm)
                subst this; exact .inr rfl
          rcases this with h | h <;> rw [h]
        have hwant : Region.wanted o (yielded ops a.tmps) = false := by simp [Region.wanted, hg, hy]
        rw [hwant]
        exact fin s (Ext.refl _) s.rel (.tup .nil) hk
      · exact hk.elim
    · exact hk.elim

theorem reg_ok {ops : Array Oper} {Q : Exit → Act → World → Prop} : ∀ (l : List Oper) {μ : List Pl} {h : AHeap} {w : World} {env : Env} {a : Act}, St P base N w0 μ env h a w → ∀ {K : Env → AHeap → Prop}, regA P N ops l env h K →
    (∀ a w, Post P base N w0 μ K a w → Q .normal a w) → wpList P ops Q l a w
  | [], μ, h, w, env, a, s, K, hk, hq => hq a w ⟨μ, env, h, Ext.refl _, s, hk⟩
  | o :: r, μ, h, w, env, a, s, K, hk, hq => by
    have hstep := step_ok (next := wpList P ops Q r) (Q := Q) s hk (fun a' w' ⟨μ', env', h', hx, s', hk'⟩ => reg_ok r s' hk' (fun a w ⟨μ2, env2, h2, hx2, s2, k2⟩ => hq a w ⟨μ2, env2, h2, hx.trans hx2, s2, k2⟩))
    unfold wpList
    split
    · rename_i hw; rw [if_pos hw] at hstep; exact .inl hstep
    · rename_i hw; rw [if_neg hw] at hstep; exact hstep
end
end Go.Sim
