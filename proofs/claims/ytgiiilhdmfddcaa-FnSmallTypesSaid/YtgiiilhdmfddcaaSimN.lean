/- Regions in whatever order; whole bodies: the predicate transformer, and that it is sound. -/
import Derived.Test.YtgiiilhdmfddcaaSimM
set_option linter.unusedVariables false
set_option linter.all false
set_option linter.unusedSimpArgs false
namespace Go.Sim
open Go Go.RowKit

section
variable {P : Program} {N : Nat} {ops : Array Oper}

/-- A step that only reckons: one value, whatever the heap. -/
theorem calm_step {o : Oper} (hr : reckons P o.op = true) {env : Env} {h : AHeap} {K : Env → AHeap → Prop} (hs : stepA P N ops env h o K) :
    ∃ v, (∃ env1, After o env v env1 ∧ K env1 h) ∧ ∀ env' h', (∀ t ∈ o.looksAt ops, env.get t = env'.get t) → Yd P N ops o v env' h' := by
  have core : ∀ (e : Env) (A : AVal → AHeap → Prop), opA P e h o A → ∃ v, A v h ∧ ∀ (e2 : Env) (h2 : AHeap) (B : AVal → AHeap → Prop), (∀ x ∈ o.op.operands, ev e x = ev e2 x) → B v h2 → opA P e2 h2 o B := by
    intro e A ha
    obtain ⟨v, hv, r⟩ := det_calmA e o _ ((opA_reckons hr).1 ha)
    exact ⟨v, hv, fun e2 h2 B hx hb => (opA_congr hx).1 ((opA_reckons hr).2 (r (fun v => B v h2) hb))⟩
  have put : ∀ {e : Env} {v : AVal} {K : Env → Prop}, putA N e o.dst v K → (∃ e1, (∀ t, e1.get t = if o.dst = some t then v else e.get t) ∧ K e1) ∧ ∀ (e2 : Env) (K2 : Env → Prop), (∀ e3, (∀ t, e3.get t = if o.dst = some t then v else e2.get t) → K2 e3) → putA N e2 o.dst v K2 := by
    intro e v K hp
    unfold putA at *
    cases hd : o.dst with
    | none => simp only [hd] at hp ⊢; exact ⟨⟨e, by simp, hp⟩, fun e2 K2 h => h e2 (by simp)⟩
    | some d =>
      simp only [hd] at hp ⊢
      have hc := chk_elim hp
      refine ⟨⟨_, ?_, hc.2⟩, fun e2 K2 h => ?_⟩
      · intro t; rw [Env.get_set]; by_cases q : t = d
        · subst q; simp
        · rw [if_neg q, if_neg (by simp; exact fun x => q x.symm)]
      · unfold chk; rw [decide_eq_true hc.1]
        refine h _ fun t => ?_
        rw [Env.get_set]; by_cases q : t = d
        · subst q; simp
        · rw [if_neg q, if_neg (by simp; exact fun x => q x.symm)]
  unfold stepA at hs
  cases hg : o.guard with
  | none =>
    simp only [hg] at hs
    obtain ⟨v, hv, r⟩ := core env _ hs
    obtain ⟨⟨e1, h1, k1⟩, q⟩ := put hv
    refine ⟨v, ⟨e1, h1, k1⟩, fun env' h' hl K hK => ?_⟩
    unfold stepA
    simp only [hg]
    exact r env' h' _ (ev_agree hl) (q env' _ fun e3 a => hK e3 a)
  | some g =>
    obtain ⟨j, want⟩ := g
    simp only [hg] at hs
    cases ht : (ops[j]?).bind (·.dst) with
    | none => simp only [ht] at hs
    | some t =>
      simp only [ht] at hs
      split at hs
      · rename_i b hb
        have htl : ∀ env' : Env, (∀ t ∈ o.looksAt ops, env.get t = env'.get t) → env'.get t = .bool b := fun env' hl => by
          rw [← hl t (List.mem_append_right _ (by simp [hg, ht]))]; exact hb
        have go : ∀ c, b = c → opA P (env.set t (.bool c)) h o (fun v h' => putA N (env.set t (.bool c)) o.dst v fun env' => K env' h') → want = c →
            ∃ v, (∃ env1, After o env v env1 ∧ K env1 h) ∧ ∀ env' h', (∀ t ∈ o.looksAt ops, env.get t = env'.get t) → Yd P N ops o v env' h' := by
          intro c e ho hw
          subst e; subst hw
          obtain ⟨v, hv, r⟩ := core _ _ ho
          obtain ⟨⟨e1, h1, k1⟩, q⟩ := put hv
          refine ⟨v, ⟨e1, fun s => by rw [h1 s, get_know hb], k1⟩, fun env' h' hl K hK => ?_⟩
          have hb' := htl env' hl
          unfold stepA
          simp only [hg, ht, hb']
          have body : opA P (env'.set t (.bool want)) h' o fun v h'_1 => putA N (env'.set t (.bool want)) o.dst v fun env' => K env' h'_1 :=
            r _ h' _ (ev_agree fun s hs => by rw [get_know hb, get_know hb']; exact hl s hs) (q _ _ fun e3 a => hK e3 fun s => by rw [a s, get_know hb'])
          cases want <;> exact body
        have skip : ∀ c, b = c → putA N (env.set t (.bool c)) o.dst (.tup []) (fun env' => K env' h) → want ≠ c →
            ∃ v, (∃ env1, After o env v env1 ∧ K env1 h) ∧ ∀ env' h', (∀ t ∈ o.looksAt ops, env.get t = env'.get t) → Yd P N ops o v env' h' := by
          intro c e ho hw
          subst e
          obtain ⟨⟨e1, h1, k1⟩, q⟩ := put ho
          refine ⟨.tup [], ⟨e1, fun s => by rw [h1 s, get_know hb], k1⟩, fun env' h' hl K hK => ?_⟩
          have hb' := htl env' hl
          unfold stepA
          simp only [hg, ht, hb']
          have body : putA N (env'.set t (.bool b)) o.dst (.tup []) fun env' => K env' h' := q _ _ fun e3 a => hK e3 fun s => by rw [a s, get_know hb']
          cases b <;> cases want <;> first | exact body | exact absurd rfl hw
        cases b
        · cases want
          · exact go false rfl hs rfl
          · exact skip false rfl hs (by simp)
        · cases want
          · exact skip true rfl hs (by simp)
          · exact go true rfl hs rfl
      · rename_i hb
        obtain ⟨⟨e1, h1, k1⟩, q⟩ := put hs
        refine ⟨.tup [], ⟨e1, h1, k1⟩, fun env' h' hl K hK => ?_⟩
        have hb' : env'.get t = .tup [] := by rw [← hl t (List.mem_append_right _ (by simp [hg, ht]))]; exact hb
        unfold stepA
        simp only [hg, ht, hb']
        exact q _ _ fun e3 a => hK e3 a
      · exact hs.elim

theorem load_congr {t : TypeId} {h h' : AHeap} {p : AVal} {k : AVal → Prop} (hc : (match isAgg P t with | true => hRow h' p (P.cellsOf t) = hRow h p (P.cellsOf t) | false => hCell h' p = hCell h p)) (hk : loadA P t h p k) : loadA P t h' p k := by
  unfold loadA at *
  cases ha : isAgg P t with
  | true => simp only [ha] at hc hk ⊢; rw [hc]; exact hk
  | false => simp only [ha] at hc hk ⊢; rw [hc]; exact hk

/-- A step that only loads: one value, wherever what it loads is held. -/
theorem load_step {i : Nat} {o : Oper} (hi : ops[i]? = some o) (hr : loads o.op = true) {env : Env} {h : AHeap} {K : Env → AHeap → Prop} (hs : stepA P N ops env h o K) :
    ∃ v, (∃ env1, After o env v env1 ∧ K env1 h) ∧ ∀ env' h', (∀ t ∈ o.looksAt ops, env.get t = env'.get t) → (holdOf P ops i env).ok h h' → Yd P N ops o v env' h' := by
  obtain ⟨t, a, hop⟩ : ∃ t a, o.op = .load t a := by
    cases hq : o.op <;> simp [hq, loads] at hr
    exact ⟨_, _, rfl⟩
  have hold : ∀ h', (holdOf P ops i env).ok h h' → (match isAgg P t with | true => hRow h' (ev env a) (P.cellsOf t) = hRow h (ev env a) (P.cellsOf t) | false => hCell h' (ev env a) = hCell h (ev env a)) := by
    intro h' hh
    unfold holdOf Hold.ok at hh
    rw [hi] at hh
    simp only [hop] at hh
    cases ha : isAgg P t <;> simp only [ha] at hh ⊢ <;> exact hh
  have core : ∀ (e : Env) (A : AVal → AHeap → Prop), (∀ x ∈ o.op.operands, ev env x = ev e x) → opA P e h o A → ∃ v, A v h ∧ ∀ (e2 : Env) (h2 : AHeap) (B : AVal → AHeap → Prop), (∀ x ∈ o.op.operands, ev e x = ev e2 x) → (holdOf P ops i env).ok h h2 → B v h2 → opA P e2 h2 o B := by
    intro e A hx0 ha
    have hxa : ev env a = ev e a := hx0 a (by simp [hop, Op.operands])
    unfold opA at ha
    simp only [hop] at ha
    have hc := chk_elim ha
    obtain ⟨v, hv, r⟩ := det_loadA t h (ev e a) _ hc.2
    refine ⟨v, hv, fun e2 h2 B hx hh hb => (opA_congr hx).1 ?_⟩
    unfold opA
    simp only [hop]
    unfold chk; rw [decide_eq_true hc.1]
    have := hold h2 hh
    rw [hxa] at this
    exact load_congr this (r (fun v => B v h2) hb)
  have put : ∀ {e : Env} {v : AVal} {K : Env → Prop}, putA N e o.dst v K → (∃ e1, (∀ t, e1.get t = if o.dst = some t then v else e.get t) ∧ K e1) ∧ ∀ (e2 : Env) (K2 : Env → Prop), (∀ e3, (∀ t, e3.get t = if o.dst = some t then v else e2.get t) → K2 e3) → putA N e2 o.dst v K2 := by
    intro e v K hp
    unfold putA at *
    cases hd : o.dst with
    | none => simp only [hd] at hp ⊢; exact ⟨⟨e, by simp, hp⟩, fun e2 K2 h => h e2 (by simp)⟩
    | some d =>
      simp only [hd] at hp ⊢
      have hc := chk_elim hp
      refine ⟨⟨_, ?_, hc.2⟩, fun e2 K2 h => ?_⟩
      · intro t; rw [Env.get_set]; by_cases q : t = d
        · subst q; simp
        · rw [if_neg q, if_neg (by simp; exact fun x => q x.symm)]
      · unfold chk; rw [decide_eq_true hc.1]
        refine h _ fun t => ?_
        rw [Env.get_set]; by_cases q : t = d
        · subst q; simp
        · rw [if_neg q, if_neg (by simp; exact fun x => q x.symm)]
  unfold stepA at hs
  cases hg : o.guard with
  | none =>
    simp only [hg] at hs
    obtain ⟨v, hv, r⟩ := core env _ (fun _ _ => rfl) hs
    obtain ⟨⟨e1, h1, k1⟩, q⟩ := put hv
    refine ⟨v, ⟨e1, h1, k1⟩, fun env' h' hl hh K hK => ?_⟩
    unfold stepA
    simp only [hg]
    exact r env' h' _ (ev_agree hl) hh (q env' _ fun e3 a => hK e3 a)
  | some g =>
    obtain ⟨j, want⟩ := g
    simp only [hg] at hs
    cases ht : (ops[j]?).bind (·.dst) with
    | none => simp only [ht] at hs
    | some t =>
      simp only [ht] at hs
      split at hs
      · rename_i b hb
        have htl : ∀ env' : Env, (∀ t ∈ o.looksAt ops, env.get t = env'.get t) → env'.get t = .bool b := fun env' hl => by
          rw [← hl t (List.mem_append_right _ (by simp [hg, ht]))]; exact hb
        have go : ∀ c, b = c → opA P (env.set t (.bool c)) h o (fun v h' => putA N (env.set t (.bool c)) o.dst v fun env' => K env' h') → want = c →
            ∃ v, (∃ env1, After o env v env1 ∧ K env1 h) ∧ ∀ env' h', (∀ t ∈ o.looksAt ops, env.get t = env'.get t) → (holdOf P ops i env).ok h h' → Yd P N ops o v env' h' := by
          intro c e ho hw
          subst e; subst hw
          obtain ⟨v, hv, r⟩ := core _ _ (ev_agree (ops := ops) fun s _ => by rw [get_know hb]) ho
          obtain ⟨⟨e1, h1, k1⟩, q⟩ := put hv
          refine ⟨v, ⟨e1, fun s => by rw [h1 s, get_know hb], k1⟩, fun env' h' hl hh K hK => ?_⟩
          have hb' := htl env' hl
          unfold stepA
          simp only [hg, ht, hb']
          have body : opA P (env'.set t (.bool want)) h' o fun v h'_1 => putA N (env'.set t (.bool want)) o.dst v fun env' => K env' h'_1 :=
            r _ h' _ (ev_agree fun s hs => by rw [get_know hb, get_know hb']; exact hl s hs) hh (q _ _ fun e3 a => hK e3 fun s => by rw [a s, get_know hb'])
          cases want <;> exact body
        have skip : ∀ c, b = c → putA N (env.set t (.bool c)) o.dst (.tup []) (fun env' => K env' h) → want ≠ c →
            ∃ v, (∃ env1, After o env v env1 ∧ K env1 h) ∧ ∀ env' h', (∀ t ∈ o.looksAt ops, env.get t = env'.get t) → (holdOf P ops i env).ok h h' → Yd P N ops o v env' h' := by
          intro c e ho hw
          subst e
          obtain ⟨⟨e1, h1, k1⟩, q⟩ := put ho
          refine ⟨.tup [], ⟨e1, fun s => by rw [h1 s, get_know hb], k1⟩, fun env' h' hl _ K hK => ?_⟩
          have hb' := htl env' hl
          unfold stepA
          simp only [hg, ht, hb']
          have body : putA N (env'.set t (.bool b)) o.dst (.tup []) fun env' => K env' h' := q _ _ fun e3 a => hK e3 fun s => by rw [a s, get_know hb']
          cases b <;> cases want <;> first | exact body | exact absurd rfl hw
        cases b
        · cases want
          · exact go false rfl hs rfl
          · exact skip false rfl hs (by simp)
        · cases want
          · exact skip true rfl hs (by simp)
          · exact go true rfl hs rfl
      · rename_i hb
        obtain ⟨⟨e1, h1, k1⟩, q⟩ := put hs
        refine ⟨.tup [], ⟨e1, h1, k1⟩, fun env' h' hl _ K hK => ?_⟩
        have hb' : env'.get t = .tup [] := by rw [← hl t (List.mem_append_right _ (by simp [hg, ht]))]; exact hb
        unfold stepA
        simp only [hg, ht, hb']
        exact q _ _ fun e3 a => hK e3 a
      · exact hs.elim

theorem keep_ext {env env' : Env} (h : EnvEq env env') (ks : List Nat) : env.keep ks = env'.keep ks := List.map_congr_left fun t _ => by rw [h t]
theorem Hold.ok_trans {d : Hold} {a b c : AHeap} (h : d.ok a b) (k : d.ok b c) : d.ok a c := by
  unfold Hold.ok at *; split at h <;> simp_all

theorem draw_any {ks : List Nat} {K : Env → AHeap → Prop} : ∀ (f : Nat) (listed : Array Bool) (hs : List Hold) (env : Env) (h : AHeap), drawA P N ops ks K f listed hs env h →
    anyH P N ops (fun env h => K (env.keep ks) h) hs f listed env h
  | 0, listed, hs, env, h, hd => by
    unfold drawA at hd
    split at hd
    · rename_i hr; exact ⟨hr, hd⟩
    · exact hd.elim
  | f + 1, listed, hs, env, h, hd => by
    have hK : ∀ e e' h, EnvEq e e' → K (e.keep ks) h → K (e'.keep ks) h := fun e e' h he hk => by rw [← keep_ext he]; exact hk
    unfold drawA at hd
    split at hd
    · rename_i hr; exact ⟨fun _ => hd, by rw [hr]; simp⟩
    · rename_i hne
      split at hd
      · rename_i i hi
        have hmem := List.mem_of_find?_eq_some hi
        have hp := List.find?_some hi
        simp only [Bool.and_eq_true] at hp
        obtain ⟨hp1, hp2⟩ := hp
        unfold opIs at hp1
        split at hp1
        · rename_i o ho
          unfold stepI at hd
          rw [ho] at hd
          obtain ⟨v, ⟨env1, ha, hk⟩, hy⟩ := calm_step hp1 hd
          exact anyH_first (T := fun _ _ => True) (Y := fun e _ => ∀ t ∈ o.looksAt ops, env.get t = e.get t) hK (hs' := hs) (fun d hd => hd) ho (fun _ _ _ _ _ => trivial) (fun e h' he => hy e h' he)
            (fun e1 _ e2 _ y hl _ t ht => (y t ht).trans (hl t ht)) f listed env env1 h (Region.free_spec ho hp2) hmem (fun _ _ => rfl) ha (draw_any f _ _ _ _ hk)
        · cases hp1
      · split at hd
        · rename_i i hi
          have hi' : (Region.ready .any ops listed).find? (fun i => opIs ops loads i && Region.free .any ops listed i) = some i := by
            split at hi
            · cases hi
            · exact hi
          have hmem := List.mem_of_find?_eq_some hi'
          have hp := List.find?_some hi'
          simp only [Bool.and_eq_true] at hp
          obtain ⟨hp1, hp2⟩ := hp
          unfold opIs at hp1
          split at hp1
          · rename_i o ho
            unfold stepI at hd
            rw [ho] at hd
            obtain ⟨v, ⟨env1, ha, hk⟩, hy⟩ := load_step ho hp1 hd
            have hid : (holdOf P ops i env).i = i := by unfold holdOf; split <;> (try split) <;> (try split) <;> rfl
            exact anyH_first (T := fun a b => (holdOf P ops i env).ok a b) (Y := fun e h' => (∀ t ∈ o.looksAt ops, env.get t = e.get t) ∧ (holdOf P ops i env).ok h h') hK (hs' := holdOf P ops i env :: hs) (fun d hd => List.mem_cons_of_mem _ hd) ho
              (fun j a b hw hall => by
                have := hall _ (List.mem_cons_self ..)
                rw [hid, hw] at this
                exact this.resolve_left (by simp)) (fun e h' he => hy e h' he.1 he.2)
              (fun e1 _ e2 _ y hl ht => ⟨fun t htt => (y.1 t htt).trans (hl t htt), Hold.ok_trans y.2 ht⟩) f listed env env1 h (Region.free_spec ho hp2) hmem ⟨fun _ _ => rfl, Hold.ok_refl _ _⟩ ha (draw_any f _ _ _ _ hk)
          · cases hp1
        · refine ⟨fun hr => absurd hr hne, fun i hi => ?_⟩
          have := allR_elim hd i hi
          unfold stepI at this ⊢
          cases ho : ops[i]? with
          | none =>
            rw [ho] at this
            obtain ⟨a, b⟩ := holdsK_elim this
            exact ⟨a, draw_any f _ _ _ _ b⟩
          | some o =>
            rw [ho] at this
            refine step_same this (fun _ _ => rfl) fun v h' e1 e2 q1 q2 k => ?_
            obtain ⟨a, b⟩ := holdsK_elim k
            exact ⟨a, anyH_weak (fun d hd => hd) f hK (fun t => by rw [q1 t, q2 t]) (draw_any f _ _ _ _ b)⟩
end
end Go.Sim
