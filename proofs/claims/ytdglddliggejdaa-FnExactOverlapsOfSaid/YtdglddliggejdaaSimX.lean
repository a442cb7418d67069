/- A part of the proof of a statement of this seat: see the text that holds the theorem. No condition. -/
import Derived.Test.YtdglddliggejdaaSimM
import Derived.IntWalk
import Derived.ChangeArms
import Derived.ChangeSlices
import Derived.Lib.Join
import Derived.Carry
import Derived.Lib.Bytealg
import Derived.Lib.Strings
import Derived.Lib.ItoaNum
import Derived.Lib.LaidTab
import Derived.Sort.Grow
import Derived.Deep.Draws
import Derived.Shelf.SlIter.Nil
set_option linter.unusedVariables false
set_option linter.unusedSimpArgs false
set_option linter.all false
set_option linter.unusedSimpArgs false
namespace Go.Sim
open Go Go.RowKit

section
variable {P:Program} {N:Nat} {ops:Array Oper}

theorem Yfz {o:Oper} (hr:Zwo P o.op=true) {env:Env} {h:Zaa} {K:Env→Zaa→Prop} (hs:Zkp P N ops env h o K) :
  ∃ v,(∃ env1,Zqv o env v env1∧K env1 h)∧∀ env' h',(∀ t∈o.looksAt ops,env.get t=env'.get t)→Yd P N ops o v env' h':=by
 have core:∀ (e:Env) (A:Zag→Zaa→Prop),opA P e h o A→∃ v,A v h∧∀ (e2:Env) (h2:Zaa) (B:Zag→Zaa→Prop),(∀ x∈o.op.operands,ev e x=ev e2 x)→B v h2→opA P e2 h2 o B:=by
  intro e A ha
  obtain ⟨v,hv,r⟩:=Yhp e o _ ((Ztp hr).1 ha)
  exact ⟨v,hv,fun e2 h2 B hx hb=>(Zth hx).1 ((Ztp hr).2 (r (fun v=>B v h2) hb))⟩
 have put:∀ {e:Env} {v:Zag} {K:Env→Prop},Zor N e o.dst v K→(∃ e1,(∀ t,e1.get t=if o.dst=some t then v else e.get t)∧K e1)∧∀ (e2:Env) (K2:Env→Prop),(∀ e3,(∀ t,e3.get t=if o.dst=some t then v else e2.get t)→K2 e3)→Zor N e2 o.dst v K2:=by
  intro e v K hp
  unfold Zor at *
  cases hd:o.dst with
  | none=>simp only [hd] at hp ⊢; exact ⟨⟨e,by simp,hp⟩,fun e2 K2 h=>h e2 (by simp)⟩
  | some d=>
   simp only [hd] at hp ⊢
   have hc:=Zbi hp
   refine ⟨⟨_,?_,hc.2⟩,fun e2 K2 h=>?_⟩
   ·intro t; rw [Env.get_set]; by_cases q:t=d
    ·subst q; simp
    ·rw [if_neg q,if_neg (by simp; exact fun x=>q x.symm)]
   ·unfold chk; rw [decide_eq_true hc.1]
    refine h _ fun t=>?_
    rw [Env.get_set]; by_cases q:t=d
    ·subst q; simp
    ·rw [if_neg q,if_neg (by simp; exact fun x=>q x.symm)]
 unfold Zkp at hs
 cases hg:o.guard with
 | none=>
  simp only [hg] at hs
  obtain ⟨v,hv,r⟩:=core env _ hs
  obtain ⟨⟨e1,h1,k1⟩,q⟩:=put hv
  refine ⟨v,⟨e1,h1,k1⟩,fun env' h' hl K hK=>?_⟩
  unfold Zkp
  simp only [hg]
  exact r env' h' _ (Zmr hl) (q env' _ fun e3 a=>hK e3 a)
 | some g=>
  obtain ⟨j,want⟩:=g
  simp only [hg] at hs
  cases ht:(ops[j]?).bind (·.dst) with
  | none=>simp only [ht] at hs
  | some t=>
   simp only [ht] at hs
   split at hs
   ·rename_i b hb
    have htl:∀ env':Env,(∀ t∈o.looksAt ops,env.get t=env'.get t)→env'.get t=.bool b:=fun env' hl=>by
     rw [← hl t (List.mem_append_right _ (by simp [hg,ht]))]; exact hb
    have go:∀ c,b=c→opA P (env.set t (.bool c)) h o (fun v h'=>Zor N (env.set t (.bool c)) o.dst v fun env'=>K env' h')→want=c →
      ∃ v,(∃ env1,Zqv o env v env1∧K env1 h)∧∀ env' h',(∀ t∈o.looksAt ops,env.get t=env'.get t)→Yd P N ops o v env' h':=by
     intro c e ho hw
     subst e; subst hw
     obtain ⟨v,hv,r⟩:=core _ _ ho
     obtain ⟨⟨e1,h1,k1⟩,q⟩:=put hv
     refine ⟨v,⟨e1,fun s=>by rw [h1 s,Zfj hb],k1⟩,fun env' h' hl K hK=>?_⟩
     have hb':=htl env' hl
     unfold Zkp
     simp only [hg,ht,hb']
     have body:opA P (env'.set t (.bool want)) h' o fun v h'_1=>Zor N (env'.set t (.bool want)) o.dst v fun env'=>K env' h'_1:=
      r _ h' _ (Zmr fun s hs=>by rw [Zfj hb,Zfj hb']; exact hl s hs) (q _ _ fun e3 a=>hK e3 fun s=>by rw [a s,Zfj hb'])
     cases want <;> exact body
    have skip:∀ c,b=c→Zor N (env.set t (.bool c)) o.dst (.tup []) (fun env'=>K env' h)→want≠c →
      ∃ v,(∃ env1,Zqv o env v env1∧K env1 h)∧∀ env' h',(∀ t∈o.looksAt ops,env.get t=env'.get t)→Yd P N ops o v env' h':=by
     intro c e ho hw
     subst e
     obtain ⟨⟨e1,h1,k1⟩,q⟩:=put ho
     refine ⟨.tup [],⟨e1,fun s=>by rw [h1 s,Zfj hb],k1⟩,fun env' h' hl K hK=>?_⟩
     have hb':=htl env' hl
     unfold Zkp
     simp only [hg,ht,hb']
     have body:Zor N (env'.set t (.bool b)) o.dst (.tup []) fun env'=>K env' h':=q _ _ fun e3 a=>hK e3 fun s=>by rw [a s,Zfj hb']
     cases b <;> cases want <;> first | exact body | exact absurd rfl hw
    cases b
    ·cases want
     ·exact go false rfl hs rfl
     ·exact skip false rfl hs (by simp)
    ·cases want
     ·exact skip true rfl hs (by simp)
     ·exact go true rfl hs rfl
   ·rename_i hb
    obtain ⟨⟨e1,h1,k1⟩,q⟩:=put hs
    refine ⟨.tup [],⟨e1,h1,k1⟩,fun env' h' hl K hK=>?_⟩
    have hb':env'.get t=.tup []:=by rw [← hl t (List.mem_append_right _ (by simp [hg,ht]))]; exact hb
    unfold Zkp
    simp only [hg,ht,hb']
    exact q _ _ fun e3 a=>hK e3 a
   ·exact hs.elim

theorem Ydq {t:TypeId} {h h':Zaa} {p:Zag} {k:Zag→Prop} (hc:(match isAgg P t with | true=>Zbo h' p (P.cellsOf t)=Zbo h p (P.cellsOf t) | false=>Zaf h' p=Zaf h p)) (hk:Zsa P t h p k):Zsa P t h' p k:=by
 unfold Zsa at *
 cases ha:isAgg P t with
 | true=>simp only [ha] at hc hk ⊢; rw [hc]; exact hk
 | false=>simp only [ha] at hc hk ⊢; rw [hc]; exact hk

theorem Yfa {i:Nat} {o:Oper} (hi:ops[i]?=some o) (hr:Yix o.op=true) {env:Env} {h:Zaa} {K:Env→Zaa→Prop} (hs:Zkp P N ops env h o K) :
  ∃ v,(∃ env1,Zqv o env v env1∧K env1 h)∧∀ env' h',(∀ t∈o.looksAt ops,env.get t=env'.get t)→(Znh P ops i env).ok h h'→Yd P N ops o v env' h':=by
 obtain ⟨t,a,hop⟩:∃ t a,o.op=.load t a:=by
  cases hq:o.op <;> simp [hq,Yix] at hr
  exact ⟨_,_,rfl⟩
 have hold:∀ h',(Znh P ops i env).ok h h'→(match isAgg P t with | true=>Zbo h' (ev env a) (P.cellsOf t)=Zbo h (ev env a) (P.cellsOf t) | false=>Zaf h' (ev env a)=Zaf h (ev env a)):=by
  intro h' hh
  unfold Znh Zvg.ok at hh
  rw [hi] at hh
  simp only [hop] at hh
  cases ha:isAgg P t <;> simp only [ha] at hh ⊢ <;> exact hh
 have core:∀ (e:Env) (A:Zag→Zaa→Prop),(∀ x∈o.op.operands,ev env x=ev e x)→opA P e h o A→∃ v,A v h∧∀ (e2:Env) (h2:Zaa) (B:Zag→Zaa→Prop),(∀ x∈o.op.operands,ev e x=ev e2 x)→(Znh P ops i env).ok h h2→B v h2→opA P e2 h2 o B:=by
  intro e A hx0 ha
  have hxa:ev env a=ev e a:=hx0 a (by simp [hop,Op.operands])
  unfold opA at ha
  simp only [hop] at ha
  have hc:=Zbi ha
  obtain ⟨v,hv,r⟩:=Ygn t h (ev e a) _ hc.2
  refine ⟨v,hv,fun e2 h2 B hx hh hb=>(Zth hx).1 ?_⟩
  unfold opA
  simp only [hop]
  unfold chk; rw [decide_eq_true hc.1]
  have:=hold h2 hh
  rw [hxa] at this
  exact Ydq this (r (fun v=>B v h2) hb)
 have put:∀ {e:Env} {v:Zag} {K:Env→Prop},Zor N e o.dst v K→(∃ e1,(∀ t,e1.get t=if o.dst=some t then v else e.get t)∧K e1)∧∀ (e2:Env) (K2:Env→Prop),(∀ e3,(∀ t,e3.get t=if o.dst=some t then v else e2.get t)→K2 e3)→Zor N e2 o.dst v K2:=by
  intro e v K hp
  unfold Zor at *
  cases hd:o.dst with
  | none=>simp only [hd] at hp ⊢; exact ⟨⟨e,by simp,hp⟩,fun e2 K2 h=>h e2 (by simp)⟩
  | some d=>
   simp only [hd] at hp ⊢
   have hc:=Zbi hp
   refine ⟨⟨_,?_,hc.2⟩,fun e2 K2 h=>?_⟩
   ·intro t; rw [Env.get_set]; by_cases q:t=d
    ·subst q; simp
    ·rw [if_neg q,if_neg (by simp; exact fun x=>q x.symm)]
   ·unfold chk; rw [decide_eq_true hc.1]
    refine h _ fun t=>?_
    rw [Env.get_set]; by_cases q:t=d
    ·subst q; simp
    ·rw [if_neg q,if_neg (by simp; exact fun x=>q x.symm)]
 unfold Zkp at hs
 cases hg:o.guard with
 | none=>
  simp only [hg] at hs
  obtain ⟨v,hv,r⟩:=core env _ (fun _ _=>rfl) hs
  obtain ⟨⟨e1,h1,k1⟩,q⟩:=put hv
  refine ⟨v,⟨e1,h1,k1⟩,fun env' h' hl hh K hK=>?_⟩
  unfold Zkp
  simp only [hg]
  exact r env' h' _ (Zmr hl) hh (q env' _ fun e3 a=>hK e3 a)
 | some g=>
  obtain ⟨j,want⟩:=g
  simp only [hg] at hs
  cases ht:(ops[j]?).bind (·.dst) with
  | none=>simp only [ht] at hs
  | some t=>
   simp only [ht] at hs
   split at hs
   ·rename_i b hb
    have htl:∀ env':Env,(∀ t∈o.looksAt ops,env.get t=env'.get t)→env'.get t=.bool b:=fun env' hl=>by
     rw [← hl t (List.mem_append_right _ (by simp [hg,ht]))]; exact hb
    have go:∀ c,b=c→opA P (env.set t (.bool c)) h o (fun v h'=>Zor N (env.set t (.bool c)) o.dst v fun env'=>K env' h')→want=c →
      ∃ v,(∃ env1,Zqv o env v env1∧K env1 h)∧∀ env' h',(∀ t∈o.looksAt ops,env.get t=env'.get t)→(Znh P ops i env).ok h h'→Yd P N ops o v env' h':=by
     intro c e ho hw
     subst e; subst hw
     obtain ⟨v,hv,r⟩:=core _ _ (Zmr (ops:=ops) fun s _=>by rw [Zfj hb]) ho
     obtain ⟨⟨e1,h1,k1⟩,q⟩:=put hv
     refine ⟨v,⟨e1,fun s=>by rw [h1 s,Zfj hb],k1⟩,fun env' h' hl hh K hK=>?_⟩
     have hb':=htl env' hl
     unfold Zkp
     simp only [hg,ht,hb']
     have body:opA P (env'.set t (.bool want)) h' o fun v h'_1=>Zor N (env'.set t (.bool want)) o.dst v fun env'=>K env' h'_1:=
      r _ h' _ (Zmr fun s hs=>by rw [Zfj hb,Zfj hb']; exact hl s hs) hh (q _ _ fun e3 a=>hK e3 fun s=>by rw [a s,Zfj hb'])
     cases want <;> exact body
    have skip:∀ c,b=c→Zor N (env.set t (.bool c)) o.dst (.tup []) (fun env'=>K env' h)→want≠c →
      ∃ v,(∃ env1,Zqv o env v env1∧K env1 h)∧∀ env' h',(∀ t∈o.looksAt ops,env.get t=env'.get t)→(Znh P ops i env).ok h h'→Yd P N ops o v env' h':=by
     intro c e ho hw
     subst e
     obtain ⟨⟨e1,h1,k1⟩,q⟩:=put ho
     refine ⟨.tup [],⟨e1,fun s=>by rw [h1 s,Zfj hb],k1⟩,fun env' h' hl _ K hK=>?_⟩
     have hb':=htl env' hl
     unfold Zkp
     simp only [hg,ht,hb']
     have body:Zor N (env'.set t (.bool b)) o.dst (.tup []) fun env'=>K env' h':=q _ _ fun e3 a=>hK e3 fun s=>by rw [a s,Zfj hb']
     cases b <;> cases want <;> first | exact body | exact absurd rfl hw
    cases b
    ·cases want
     ·exact go false rfl hs rfl
     ·exact skip false rfl hs (by simp)
    ·cases want
     ·exact skip true rfl hs (by simp)
     ·exact go true rfl hs rfl
   ·rename_i hb
    obtain ⟨⟨e1,h1,k1⟩,q⟩:=put hs
    refine ⟨.tup [],⟨e1,h1,k1⟩,fun env' h' hl _ K hK=>?_⟩
    have hb':env'.get t=.tup []:=by rw [← hl t (List.mem_append_right _ (by simp [hg,ht]))]; exact hb
    unfold Zkp
    simp only [hg,ht,hb']
    exact q _ _ fun e3 a=>hK e3 a
   ·exact hs.elim

theorem Yit {env env':Env} (h:Yak env env') (ks:List Nat):env.keep ks=env'.keep ks:=List.map_congr_left fun t _=>by rw [h t]
theorem Zvg.ok_trans {d:Zvg} {a b c:Zaa} (h:d.ok a b) (k:d.ok b c):d.ok a c:=by
 unfold Zvg.ok at *; split at h <;> simp_all

theorem Zqg {ks:List Nat} {K:Env→Zaa→Prop}:∀ (f:Nat) (listed:Array Bool) (hs:List Zvg) (env:Env) (h:Zaa),Zzs P N ops ks K f listed hs env h →
  Yju P N ops (fun env h=>K (env.keep ks) h) hs f listed env h
 | 0,listed,hs,env,h,hd=>by
  unfold Zzs at hd
  split at hd
  ·rename_i hr; exact ⟨hr,hd⟩
  ·exact hd.elim
 | f + 1,listed,hs,env,h,hd=>by
  have hK:∀ e e' h,Yak e e'→K (e.keep ks) h→K (e'.keep ks) h:=fun e e' h he hk=>by rw [← Yit he]; exact hk
  unfold Zzs at hd
  split at hd
  ·rename_i hr; exact ⟨fun _=>hd,by rw [hr]; simp⟩
  ·rename_i hne
   split at hd
   ·rename_i i hi
    have hmem:=List.mem_of_find?_eq_some hi
    have hp:=List.find?_some hi
    simp only [Bool.and_eq_true] at hp
    obtain ⟨hp1,hp2⟩:=hp
    unfold Yoo at hp1
    split at hp1
    ·rename_i o ho
     unfold Zrx at hd
     rw [ho] at hd
     obtain ⟨v,⟨env1,ha,hk⟩,hy⟩:=Yfz hp1 hd
     exact Zuu (T:=fun _ _=>True) (Y:=fun e _=>∀ t∈o.looksAt ops,env.get t=e.get t) hK (hs':=hs) (fun d hd=>hd) ho (fun _ _ _ _ _=>trivial) (fun e h' he=>hy e h' he)
      (fun e1 _ e2 _ y hl _ t ht=>(y t ht).trans (hl t ht)) f listed env env1 h (Region.free_spec ho hp2) hmem (fun _ _=>rfl) ha (Zqg f _ _ _ _ hk)
    ·cases hp1
   ·split at hd
    ·rename_i i hi
     have hi':(Region.ready .any ops listed).find? (fun i=>Yoo ops Yix i && Region.free .any ops listed i)=some i:=by
      split at hi
      ·cases hi
      ·exact hi
     have hmem:=List.mem_of_find?_eq_some hi'
     have hp:=List.find?_some hi'
     simp only [Bool.and_eq_true] at hp
     obtain ⟨hp1,hp2⟩:=hp
     unfold Yoo at hp1
     split at hp1
     ·rename_i o ho
      unfold Zrx at hd
      rw [ho] at hd
      obtain ⟨v,⟨env1,ha,hk⟩,hy⟩:=Yfa ho hp1 hd
      have hid:(Znh P ops i env).i=i:=by unfold Znh; split <;> (try split) <;> (try split) <;> rfl
      exact Zuu (T:=fun a b=>(Znh P ops i env).ok a b) (Y:=fun e h'=>(∀ t∈o.looksAt ops,env.get t=e.get t)∧(Znh P ops i env).ok h h') hK (hs':=Znh P ops i env :: hs) (fun d hd=>List.mem_cons_of_mem _ hd) ho
       (fun j a b hw hall=>by
        have:=hall _ (List.mem_cons_self ..)
        rw [hid,hw] at this
        exact this.resolve_left (by simp)) (fun e h' he=>hy e h' he.1 he.2)
       (fun e1 _ e2 _ y hl ht=>⟨fun t htt=>(y.1 t htt).trans (hl t htt),Zvg.ok_trans y.2 ht⟩) f listed env env1 h (Region.free_spec ho hp2) hmem ⟨fun _ _=>rfl,Zvg.ok_refl _ _⟩ ha (Zqg f _ _ _ _ hk)
     ·cases hp1
    ·refine ⟨fun hr=>absurd hr hne,fun i hi=>?_⟩
     have:=Zxl hd i hi
     unfold Zrx at this ⊢
     cases ho:ops[i]? with
     | none=>
      rw [ho] at this
      obtain ⟨a,b⟩:=Zmo this
      exact ⟨a,Zqg f _ _ _ _ b⟩
     | some o=>
      rw [ho] at this
      refine Zsx this (fun _ _=>rfl) fun v h' e1 e2 q1 q2 k=>?_
      obtain ⟨a,b⟩:=Zmo k
      exact ⟨a,Zqf (fun d hd=>hd) f hK (fun t=>by rw [q1 t,q2 t]) (Zqg f _ _ _ _ b)⟩
end
end Go.Sim

set_option linter.unusedSimpArgs false
namespace Go.Sim
open Go Go.RowKit

def Zjt:Code→Nat
 | .region id _ _=>id
 | .seq a _=>Zjt a
 | .block _ c=>Zjt c
 | .loop c=>Zjt c
 | .scope c=>Zjt c
 | _=>0
abbrev Zce:=List (Nat × List Nat)
def Zce.find:Zce→Nat→Option (List Nat)
 | [],_=>none
 | (i,ks) :: r,n=>match Nat.beq i n with | true=>some ks | false=>Zce.find r n
inductive Zdt (B:Env→Zaa→(Exit→Env→Zaa→Prop)→Prop) (ks:List Nat) (K:Exit→Env→Zaa→Prop):Env→Zaa→Prop
 | mk {env:Env} {h:Zaa} (R:Exit→Env→Zaa→Prop) (hb:B env h R) (hn:∀ env' h',R .normal env' h'→Zdt B ks K (env'.keep ks) h')
   (hx:∀ e env' h',e≠.normal→R e env' h'→K e env' h'):Zdt B ks K env h
def Zcg (id:Nat) (K:Exit→Env→Zaa→Prop):Exit→Env→Zaa→Prop
 | .exit id',env,h=>(match Nat.beq id' id with | true=>K .normal env h | false=>K (.exit id') env h)
 | e,env,h=>K e env h
def andThen (next:Env→Zaa→Prop) (K:Exit→Env→Zaa→Prop):Exit→Env→Zaa→Prop
 | .normal,env,h=>next env h
 | e,env,h=>K e env h
structure At (K:Exit→Env→Zaa→Prop) (e:Exit) (env:Env) (h:Zaa):Prop where
 get:K e env h
def left (kp:Zce) (r:Nat) (K:Exit→Env→Zaa→Prop):Exit→Env→Zaa→Prop
 | .exit id,env,h=>At K (.exit id) (env.keep ((kp.find (3000000 + r)).getD [])) h
 | e,env,h=>K e (env.keep ((kp.find (3000000 + r)).getD [])) h
theorem Yky {kp:Zce} {r:Nat} {K:Exit→Env→Zaa→Prop} {e:Exit} {env:Env} {h:Zaa} (hk:left kp r K e env h):K e (env.keep ((kp.find (3000000 + r)).getD [])) h:=by
 cases e <;> first | exact hk.get | exact hk
def LK (P:Program) (base N:Nat) (w0:World) (μ:List Pl) (K:Exit→Env→Zaa→Prop) (e:Exit) (a:Act) (w:World):Prop:=Yiv P base N w0 μ (K e) a w
structure Den (P:Program) (N:Nat) (c:Code) (env:Env) (h:Zaa) (K:Exit→Env→Zaa→Prop):Prop where
 ok:∀ (base:Nat) (w0:World) (μ:List Pl) (a:Act) (w:World),St P base N w0 μ env h a w→c.wp P (LK P base N w0 μ K) a w
def den (P:Program) (N:Nat) (kp:Zce):Code→Env→Zaa→(Exit→Env→Zaa→Prop)→Prop
 | .skip,env,h,K=>K .normal env h
 | .region id ops draw,env,h,K=>
  (match draw with
  | false=>Ypk P N ops ops.toList env h fun env' h'=>K .normal env' h'
  | true=>chk (P.follows .mixedOrders=true) (chk (Region.noSelect ops=true) (Zzs P N ops ((kp.find (2000000 + id)).getD []) (fun env' h'=>K .normal env' h') ops.size (Array.replicate ops.size false) [] env h)))
 | .seq a b,env,h,K=>den P N kp a env h (andThen (fun env' h'=>(match kp.find (4000000 + Zjt b) with | some ks=>Den P N b (env'.keep ks) h' K | none=>den P N kp b env' h' K)) K)
 | .cond c a b,env,h,K=>(match ev env c with | .bool t=>bcase t (den P N kp a env h K) (den P N kp b env h K) | _=>False)
 | .block id c,env,h,K=>den P N kp c env h (Zcg id K)
 | .loop c,env,h,K=>Zdt (Den P N c) ((kp.find (1000000 + Zjt c)).getD []) (left kp (Zjt c) K) (env.keep ((kp.find (1000000 + Zjt c)).getD [])) h
 | .exit id,env,h,K=>K (.exit id) env h
 | .ret,env,h,K=>K .ret env h
 | _,_,_,_=>False

def rnd (ks:List Nat) (I:Env→Zaa→Prop) (K:Exit→Env→Zaa→Prop):Exit→Env→Zaa→Prop
 | .normal,env,h=>I (env.keep ks) h
 | e,env,h=>K e env h
def Zdn (h:Zaa) (K:Zaa→Prop):Prop:=K h
section
variable {P:Program} {base N:Nat} {w0:World} {μ:List Pl} {h:Zaa} {w:World}

theorem Yhm {ops:Array Oper} {hs:List Zvg} {K:Env→Zaa→Prop} {Q:Exit→Act→World→Prop}:∀ (f:Nat) {listed:Array Bool} {μ:List Pl} {h:Zaa} {w:World} {env:Env} {a:Act},St P base N w0 μ env h a w →
  Yju P N ops K hs f listed env h→(∀ a w,Yiv P base N w0 μ K a w→Q .normal a w)→wpAny P .any ops Q f listed a w
 | 0,_,μ,h,w,env,a,s,hk,hq=>⟨hk.1,hq a w ⟨μ,env,h,Ext.refl _,s,hk.2⟩⟩
 | f + 1,listed,μ,h,w,env,a,s,hk,hq=>by
  refine ⟨fun hr=>hq a w ⟨μ,env,h,Ext.refl _,s,hk.1 hr⟩,fun i hi=>?_⟩
  have h1:=hk.2 i hi
  unfold Zrx at h1
  unfold wpOp
  cases ho:ops[i]? with
  | none=>rw [ho] at h1; exact Yhm f s h1.2 hq
  | some o=>
   rw [ho] at h1
   have hstep:=Ygw (next:=wpAny P .any ops Q f (listed.setIfInBounds i true)) (Q:=Q) s h1 (fun a' w' ⟨μ',env',h',hx,s',hk'⟩=>Yhm f s' hk'.2 (fun a w ⟨μ2,env2,h2,hx2,s2,k2⟩=>hq a w ⟨μ2,env2,h2,hx.trans hx2,s2,k2⟩))
   simp only
   split
   ·rename_i hw; rw [if_pos hw] at hstep; exact .inl hstep
   ·rename_i hw; rw [if_neg hw] at hstep; exact hstep

theorem Yiv.ext {μ μ':List Pl} (hx:Ext μ μ') {K K':Env→Zaa→Prop} (hk:∀ e h,K e h→K' e h) {a:Act} {w:World} (h:Yiv P base N w0 μ' K a w):Yiv P base N w0 μ K' a w:=
 let ⟨μ2,env,h2,x,s,k⟩:=h
 ⟨μ2,env,h2,hx.trans x,s,hk _ _ k⟩
theorem St.keep {env:Env} {a:Act} (s:St P base N w0 μ env h a w) (ks:List Nat):St P base N w0 μ (env.keep ks) h a w:=⟨s.rel,s.env.keep ks,s.size,s.defers⟩
theorem St.drew {env:Env} {a:Act} (s:St P base N w0 μ env h a w):St P base N w0 μ env h a { w with drawn:=w.drawn + 1 }:=
 ⟨s.rel.grow ⟨rfl,rfl,rfl,Nat.le_refl _,fun _ _=>rfl⟩,s.env,s.size,s.defers⟩

theorem Yml {c:Code} {B:Env→Zaa→(Exit→Env→Zaa→Prop)→Prop} {ks:List Nat} {K:Exit→Env→Zaa→Prop} {μ0:List Pl}
  (hB:∀ (env:Env) (h:Zaa) (R:Exit→Env→Zaa→Prop) (μ:List Pl) (a:Act) (w:World),B env h R→St P base N w0 μ env h a w→c.wp P (LK P base N w0 μ R) a w) :
  ∀ {env:Env} {h:Zaa},Zdt B ks K env h→∀ (μ:List Pl) (a:Act) (w:World),Ext μ0 μ→St P base N w0 μ env h a w→∀ (b:Frame) (k:List Item) (cs:List Frame),
   ∃ e a' w',LK P base N w0 μ0 K e a' w'∧Arrives P (lone (b.at a (.code c :: .inLoop c :: k)) cs w) b k cs e a' w':=by
 intro env h hl
 induction hl with
 | @mk env h R hb hn hx ih=>
  intro μ a w hμ s b k cs
  obtain ⟨e,a1,w1,hq,harr⟩:=hB env h R μ a w hb s b (.inLoop c :: k) cs
  obtain ⟨μ1,env1,h1,hx1,s1,hr⟩:=hq
  have out:e≠.normal→LK P base N w0 μ0 K e a1 w1:=fun hne=>⟨μ1,env1,h1,hμ.trans hx1,s1,hx e env1 h1 hne hr⟩
  cases e with
  | normal=>
   obtain ⟨e2,a2,w2,hq2,harr2⟩:=ih env1 h1 hr μ1 a1 w1 (hμ.trans hx1) (s1.keep ks) b k cs
   exact ⟨e2,a2,w2,hq2,.of_steps (Steps.trans harr (.one step_inLoop)) harr2⟩
  | exit id=>exact ⟨_,a1,w1,out (by simp),.pass (x:=.inLoop c) rfl (fun _ _=>.inl (by simp)) harr⟩
  | goto l=>exact ⟨_,a1,w1,out (by simp),.pass (x:=.inLoop c) rfl (fun _ _=>.inl (by simp)) harr⟩
  | ret=>exact ⟨_,a1,w1,out (by simp),.pass (x:=.inLoop c) rfl (fun _ _=>.inl (by simp)) harr⟩
  | panic ch=>exact ⟨_,a1,w1,out (by simp),.pass (x:=.inLoop c) rfl (fun _ _=>.inl (by simp)) harr⟩
  | outgrown=>exact ⟨_,a1,w1,out (by simp),.pass (x:=.inLoop c) rfl (fun _ _=>.inl (by simp)) harr⟩

theorem Ztj (kp:Zce):∀ (c:Code) (env:Env) (h:Zaa) (K:Exit→Env→Zaa→Prop) (μ:List Pl) (a:Act) (w:World),den P N kp c env h K→St P base N w0 μ env h a w→c.wp P (LK P base N w0 μ K) a w
 | .skip,env,h,K,μ,a,w,hk,s=>wp_skip ⟨μ,env,h,Ext.refl _,s,hk⟩
 | .region id ops draw,env,h,K,μ,a,w,hk,s=>by
  unfold den at hk
  split at hk
  ·exact wp_region_list (Yka _ s hk fun a w hp=>hp)
  ·replace hk:=Zbi hk
   obtain ⟨hm,hk⟩:=hk
   replace hk:=Zbi hk
   obtain ⟨_,hk⟩:=hk
   exact wp_region_any hm (Yhm _ s.drew (Zqg _ _ _ _ _ hk) fun a w hp=>by
    obtain ⟨μ',env',h',x,s2,k⟩:=hp
    exact ⟨μ',_,h',x,s2.keep _,k⟩)
 | .seq x y,env,h,K,μ,a,w,hk,s=>by
  unfold den at hk
  refine wp_seq (wp_mono (Ztj kp x env h _ μ a w hk s) fun e a w hp=>?_)
  obtain ⟨μ',env',h',hx,s',k⟩:=hp
  cases e with
  | normal=>
   replace k:(match kp.find (4000000 + Zjt y) with | some ks=>Den P N y (env'.keep ks) h' K | none=>den P N kp y env' h' K):=k
   split at k
   ·exact wp_mono (k.ok base w0 μ' a w (s'.keep _)) fun e a w hp=>Yiv.ext hx (fun _ _ k=>k) hp
   ·exact wp_mono (Ztj kp y _ h' K μ' a w k s') fun e a w hp=>Yiv.ext hx (fun _ _ k=>k) hp
  | _=>exact ⟨μ',env',h',hx,s',k⟩
 | .cond c x y,env,h,K,μ,a,w,hk,s=>by
  unfold den at hk
  split at hk
  ·rename_i t ht
   have hv:=Ynv s.env c
   rw [ht] at hv
   have hc:a.eval c=.bool t:=by
    cases hy:a.eval c with
    | bool b=>rw [hy] at hv; cases hv; rfl
    | _=>rw [hy] at hv; cases hv
   refine wp_cond hc ?_
   cases t
   ·exact Ztj kp y env h K μ a w hk s
   ·exact Ztj kp x env h K μ a w hk s
  ·exact hk.elim
 | .block id c,env,h,K,μ,a,w,hk,s=>by
  unfold den at hk
  refine wp_block (wp_mono (Ztj kp c env h _ μ a w hk s) fun e a w hp=>?_)
  obtain ⟨μ',env',h',hx,s',k⟩:=hp
  cases e with
  | exit id'=>
   simp only [Zcg] at k
   simp only [Exit.inBlock]
   cases hb:Nat.beq id' id with
   | true=>rw [hb] at k; rw [if_pos (Nat.eq_of_beq_eq_true hb)]; exact ⟨μ',env',h',hx,s',k⟩
   | false=>rw [hb] at k; rw [if_neg (Nat.ne_of_beq_eq_false hb)]; exact ⟨μ',env',h',hx,s',k⟩
  | _=>exact ⟨μ',env',h',hx,s',k⟩
 | .loop c,env,h,K,μ,a,w,hk,s=>by
  unfold den at hk
  intro b k cs
  obtain ⟨e,a',w',hq,harr⟩:=Yml (μ0:=μ) (fun env h R μ a w hb s=>hb.ok base w0 μ a w s) hk μ a w (Ext.refl _) (s.keep _) b k cs
  obtain ⟨μ',env',h',hx,s',k⟩:=hq
  exact ⟨e,a',w',⟨μ',_,h',hx,s'.keep _,Yky k⟩,.of_steps (.one step_loop) harr⟩
 | .exit id,env,h,K,μ,a,w,hk,s=>wp_exit ⟨μ,env,h,Ext.refl _,s,hk⟩
 | .ret,env,h,K,μ,a,w,hk,s=>wp_ret ⟨μ,env,h,Ext.refl _,s,hk⟩
 | .scope c,env,h,K,μ,a,w,hk,s=>by unfold den at hk; exact hk.elim
 | .rangeFunc f ps x y,env,h,K,μ,a,w,hk,s=>by unfold den at hk; exact hk.elim
 | .label l,env,h,K,μ,a,w,hk,s=>by unfold den at hk; exact hk.elim
 | .goto l,env,h,K,μ,a,w,hk,s=>by unfold den at hk; exact hk.elim
 | .refuse y,env,h,K,μ,a,w,hk,s=>by unfold den at hk; exact hk.elim
end

theorem Zax {P:Program} {N:Nat} {kp:Zce} {c:Code} {env:Env} {h:Zaa} {K:Exit→Env→Zaa→Prop} (hk:den P N kp c env h K):Den P N c env h K:=
 ⟨fun _ _ μ a w s=>Ztj kp c env h K μ a w hk s⟩

def Ylz (P:Program) (env:Env) (h:Zaa):List ResultVar→(List Zag→Prop)→Prop
 | [],K=>K []
 | .tmp t :: r,K=>Ylz P env h r fun vs=>K (env.get t :: vs)
 | .cell a t :: r,K=>chk ((P.underlying t).isSome=true) (Zsa P t h (env.get a) fun v=>Ylz P env h r fun vs=>K (v :: vs))
def Zet (P:Program) (rs:List ResultVar) (Q:Zag→Zaa→Prop):Exit→Env→Zaa→Prop
 | .normal,env,h=>Ylz P env h rs fun vs=>(match vs with | [v]=>Q v h | vs=>Q (.tup vs) h)
 | .ret,env,h=>Ylz P env h rs fun vs=>(match vs with | [v]=>Q v h | vs=>Q (.tup vs) h)
 | _,_,_=>False
section
variable {P:Program} {base N:Nat} {w0:World} {μ:List Pl} {h:Zaa} {w:World}
theorem Yab {env:Env} {a:Act} (s:St P base N w0 μ env h a w):∀ (rs:List ResultVar) {K:List Zag→Prop},Ylz P env h rs K →
  ∃ xs vs,(rs.mapM fun (x:ResultVar)=>(match x with | .tmp t=>pure (a.tmps.getD t undef) | .cell b t=>do loadVar t (← asAddr (a.tmps.getD b undef)):Sem Value)).run P w=.ok xs w∧VRs μ vs xs∧K vs
 | [],K,hk=>⟨[],[],by simp,.nil,hk⟩
 | .tmp t :: r,K,hk=>by
  obtain ⟨xs,vs,hr,hv,hk⟩:=Yab s r hk
  refine ⟨a.tmps.getD t undef :: xs,env.get t :: vs,?_,.cons (s.env t) hv,hk⟩
  rw [List.mapM_cons]
  simp only [Sem.run_bind,Sem.run_pure,Result.andThen_ok,hr]
 | .cell b t :: r,K,hk=>by
  unfold Ylz at hk
  replace hk:=Zbi hk
  obtain ⟨hu,hk⟩:=hk
  obtain ⟨y,v,hl,hv,hk⟩:=Ygm s.rel (s.env b) hu hk
  obtain ⟨xs,vs,hr,hvs,hk⟩:=Yab s r hk
  refine ⟨y :: xs,v :: vs,?_,.cons hv hvs,hk⟩
  rw [List.mapM_cons]
  have hl2:(do loadVar t (← asAddr (a.tmps.getD b undef)):Sem Value).run P w=.ok y w:=by
   unfold Instr.loadAt at hl
   cases hx:a.tmps.getD b undef with
   | pointer p=>
    cases p with
    | none=>rw [hx] at hl; simp [Instr.sureAddr] at hl
    | some q=>rw [hx] at hl; simpa [Instr.sureAddr,asAddr] using hl
   | _=>rw [hx] at hl; simp [Instr.sureAddr] at hl
  simp only [Sem.run_bind] at hl2
  simp only [Sem.run_bind,hl2,Sem.run_pure,Result.andThen_ok,hr]

theorem Ybs:∀ (args:List Zag) (xs:List Value) (i:Nat) (t:Nat),VRs μ args xs→VR μ ((Env.args i args).get t) (((List.replicate i undef) ++ xs)[t]?.getD undef)
 | [],xs,i,t,h=>.undef _
 | v :: r,xs,i,t,h=>by
  cases h with
  | @cons _ x _ ys hv hr=>
  simp only [Env.args,Env.get]
  cases hb:Nat.beq i t with
  | true=>
   have e:=Nat.eq_of_beq_eq_true hb
   subst e
   rw [List.getElem?_append_right (by simp)]
   simpa using hv
  | false=>
   have ne:=Nat.ne_of_beq_eq_false hb
   have ih:=Ybs r ys (i + 1) t hr
   by_cases hlt:t < i
   ·rw [List.getElem?_append_left (by simpa using hlt)]
    rw [List.getElem?_append_left (by simp; omega)] at ih
    simp [hlt,show t < i + 1 by omega] at ih ⊢
    exact ih
   ·rw [List.getElem?_append_right (by simp; omega)] at ih ⊢
    simp only [List.length_replicate] at ih ⊢
    rw [show t - i=(t - (i + 1)) + 1 by omega]
    simpa using ih

theorem Zad.of_body {n : FuncId} {fn : Func} {c : Code} {args : List Zag} {h : Zaa} {Q : Zag → Zaa → Prop} (kp : Zce) (hf : P.funcs[n]? = some fn) (hb : fn.body = some c) (hname : (fn.name == "runtime.NumGoroutine") = false)
  (hn:args.length≤fn.ntmps) (hd:den P fn.ntmps kp c (Env.args 0 args) h (Zet P fn.results.toList Q)):Zad P n args h Q:=by
 refine ⟨⟨fn,hf,by rw [hb]; rfl,hname⟩,fun base w0 μ w xs r hx=>?_⟩
 have hl:=hx.length
 simp only [Array.length_toList] at hl
 refine calls_of_wp hf hb ?_
 have s:St P base fn.ntmps w0 μ (Env.args 0 args) h { tmps:=xs ++ Array.replicate (fn.ntmps - xs.size) undef,defers:=[] } w:=by
  refine ⟨r,fun t=>?_,by simp; omega,rfl⟩
  have:=Ybs args xs.toList 0 t hx
  simp only [List.replicate_zero,List.nil_append,Array.getElem?_toList] at this
  simp only [Array.getD_eq_getD_getElem?,Array.getElem?_append,Array.getElem?_replicate]
  by_cases h1:t < xs.size
  ·simp only [h1,if_true]; exact this
  ·rw [Array.getElem?_eq_none (by omega)] at this
   simp only [h1,if_false]
   split <;> simpa using this
 refine wp_mono (Ztj kp c _ h _ μ _ w hd s) fun e a w hp=>?_
 obtain ⟨μ',env',h',hx',s',hk⟩:=hp
 have fin:Ylz P env' h' fn.results.toList (fun vs=>(match vs with | [v]=>Q v h' | vs=>Q (.tup vs) h')) →
   a.defers=[]∧∃ v,(results fn a.tmps).run P w=.ok v w∧∃ x μ' v' h',Ending.returned v=.returned x∧Ext μ μ'∧Rel P base w0 μ' h' w∧VR μ' v' x∧Q v' h':=by
  intro hk
  obtain ⟨ys,vs,hr,hv,hk⟩:=Yab s' _ hk
  refine ⟨s'.defers,(if h:ys.toArray.size=1 then ys.toArray[0] else .tuple ys.toArray),?_,?_⟩
  ·unfold results
   rw [Array.mapM_eq_mapM_toList]
   simp only [Sem.run_bind,Sem.run_map]
   erw [hr]
   simp only [Result.andThen_ok,Sem.run_pure]
  ·have hlen:=hv.length
   match vs,ys,hv,hk with
   | [v],[y],.cons hvy .nil,hk=>exact ⟨y,μ',v,h',by simp,hx',s'.rel,hvy,hk⟩
   | [],[],.nil,hk=>exact ⟨_,μ',.tup [],h',rfl,hx',s'.rel,.tup .nil,hk⟩
   | v :: u :: vs,y :: z :: ys,hv,hk=>exact ⟨.tuple (y :: z :: ys).toArray,μ',.tup (v :: u :: vs),h',by simp,hx',s'.rel,.tup (by simpa using hv),hk⟩
 cases e with
 | normal=>exact fin hk
 | ret=>exact fin hk
 | _=>exact hk.elim
end
end Go.Sim

set_option linter.unusedSimpArgs false
namespace Go.Sim
open Go Go.RowKit

abbrev Pt:=Option (Nat × Nat)
abbrev QT:=Zag→Zaa→Prop
abbrev KT:=Exit→Env→Zaa→Prop
def cod (f:Func):Code:=(f.body).getD .skip
def _root_.Go.Code.sub:Code→List Nat→Code
 | c,[]=>c
 | .seq a _,0 :: p=>a.sub p
 | .seq _ b,_ :: p=>b.sub p
 | .cond _ a _,0 :: p=>a.sub p
 | .cond _ _ b,_ :: p=>b.sub p
 | .block _ c,_ :: p=>c.sub p
 | .loop c,_ :: p=>c.sub p
 | c,_=>c

def Zbx (k:Nat) (env:Env) (K:Zag→Env→Prop):Prop:=match env with | (k',v) :: r=>chk (k'=k) (K v r) | []=>False
def Ziy (env:Env) (K:Prop):Prop:=match env with | []=>K | _=>False
def Zdz (k:IntKind) (v:Zag) (K:Int→Prop):Prop:=match v with | .int k' n=>chk (k'=k) (K n) | _=>False
def Ypu (v:Zag) (K:Prop):Prop:=match v with | .undef=>K | _=>False
def eFn (f:Nat) (v:Zag) (K:List Zag→Prop):Prop:=match v with | .fn g cs=>chk (g=f) (K cs) | _=>False
def Yqa (v:Zag) (K:Prop):Prop:=match v with | .nilFn=>K | _=>False
def Yqj (v:Zag) (K:Nat→Prop):Prop:=match v with | .iter r=>K r | _=>False
theorem Zae {k:Nat} {env:Env} {K:Zag→Env→Prop} (h:Zbx k env K):∃ v r,env=(k,v) :: r∧K v r:=by
 unfold Zbx at h
 split at h
 ·replace h:=Zbi h; obtain ⟨rfl,h⟩:=h; exact ⟨_,_,rfl,h⟩
 ·exact h.elim
theorem Zbj {env:Env} {K:Prop} (h:Ziy env K):env=[]∧K:=by unfold Ziy at h; split at h; exact ⟨rfl,h⟩; exact h.elim
theorem Zat {k:IntKind} {v:Zag} {K:Int→Prop} (h:Zdz k v K):∃ n,v=.int k n∧K n:=by
 unfold Zdz at h
 split at h
 ·replace h:=Zbi h; obtain ⟨rfl,h⟩:=h; exact ⟨_,rfl,h⟩
 ·exact h.elim
theorem Ybx {f:Nat} {v:Zag} {K:List Zag→Prop} (h:eFn f v K):∃ cs,v=.fn f cs∧K cs:=by
 unfold eFn at h
 split at h
 ·replace h:=Zbi h; obtain ⟨rfl,h⟩:=h; exact ⟨_,rfl,h⟩
 ·exact h.elim
theorem Zjd {v:Zag} {K:List Nat→Prop} (h:Zcb (some v) K):∃ b,v=.str b∧K b:=by
 unfold Zcb at h; split at h
 ·rename_i e; cases e; exact ⟨_,rfl,h⟩
 ·exact h.elim
theorem Zbu {v:Zag} {K:Option (Nat × Nat)→Prop} (h:Zfw (some v) K):∃ b,v=.ptr b∧K b:=by
 unfold Zfw at h; split at h
 ·rename_i e; cases e; exact ⟨_,rfl,h⟩
 ·exact h.elim
theorem Zbt {v:Zag} {K:Option (Nat × Nat)→Nat→Nat→Bool→Prop} (h:xSl (some v) K):∃ a n c e,v=.slice a n c e∧K a n c e:=by
 unfold xSl at h; split at h
 ·rename_i e; cases e; exact ⟨_,_,_,_,rfl,h⟩
 ·exact h.elim
theorem Zyy {v:Zag} {K:Option Nat→Prop} (h:Yeu (some v) K):∃ b,v=.map b∧K b:=by
 unfold Yeu at h; split at h
 ·rename_i e; cases e; exact ⟨_,rfl,h⟩
 ·exact h.elim
theorem Zvp {cs:List Zag} {K:Zag→List Zag→Prop} (h:Zam cs K):∃ c r,cs=c :: r∧K c r:=by unfold Zam at h; split at h; exact ⟨_,_,rfl,h⟩; exact h.elim
theorem Zxm {cs:List Zag} {K:Prop} (h:Zcq cs K):cs=[]∧K:=by unfold Zcq at h; split at h; exact ⟨rfl,h⟩; exact h.elim

theorem Zdt.inv2 {B:Env→Zaa→(Exit→Env→Zaa→Prop)→Prop} {ks:List Nat} {K:Exit→Env→Zaa→Prop} {G:Type} (I N:G→Env→Zaa→Prop) (m:G→Nat)
  (hr:∀ g env h,I g env h→B env h (rnd ks (N g) K)) (hN:∀ g env h,N g env h→∃ g',m g' < m g∧I g' env h) (g:G):∀ {env:Env} {h:Zaa},I g env h→Zdt B ks K env h:=by
 induction hn:m g using Nat.strongRecOn generalizing g with
 | _ n ih=>
  intro env h hI
  refine Zdt.mk _ (hr g env h hI) ?_ ?_
  ·intro env' h' hk
   obtain ⟨g',hlt,hI'⟩:=hN _ _ _ hk
   exact ih (m g') (hn ▸ hlt) g' rfl hI'
  ·intro e env' h' hne hk
   cases e with
   | normal=>exact absurd rfl hne
   | _=>exact hk
end Go.Sim

set_option linter.unusedSimpArgs false
namespace Go.Sim
open Go Go.RowKit

@[simp] theorem Zah {b:Bool} {K:Bool→Prop}:Zbw (some (.bool b)) K=K b:=rfl
@[simp] theorem Zal {k:IntKind} {n:Int} {K:Int→Prop}:Zco k (some (.int k n)) K=K n:=by simp [Zco]
@[simp] theorem Zap {s:List Nat} {K:List Nat→Prop}:Zcb (some (.str s)) K=K s:=rfl
@[simp] theorem Zdj {a:Option (Nat × Nat)} {K:Option (Nat × Nat)→Prop}:Zfw (some (.ptr a)) K=K a:=rfl
@[simp] theorem Zai {a:Option (Nat × Nat)} {n c:Nat} {e:Bool} {K:Option (Nat × Nat)→Nat→Nat→Bool→Prop}:xSl (some (.slice a n c e)) K=K a n c e:=rfl
@[simp] theorem Yoe {a:Option Nat} {K:Option Nat→Prop}:Yeu (some (.map a)) K=K a:=rfl
@[simp] theorem Yoa {v:Zag} {K:Zag→Prop}:Zzn (some v) K=K v:=rfl
@[simp] theorem Zak {c:Zag} {r:List Zag} {K:Zag→List Zag→Prop}:Zam (c :: r) K=K c r:=rfl
@[simp] theorem Zar {K:Prop}:Zcq [] K=K:=rfl
@[simp] theorem Zas {cs:List Zag} {K:List Zag→Prop}:Zcy (some cs) K=K cs:=rfl
@[simp] theorem Zcw {cs:List Zag} {K:List Zag→Prop}:Zqp (.agg cs) K=K cs:=rfl
@[simp] theorem Zdw {cs:List Zag} {K:List Zag→Prop}:Zzi (.tup cs) K=K cs:=rfl
@[simp] theorem Zau {i o:Nat} {K:Nat→Nat→Prop}:Zbf (some (i,o)) K=K i o:=rfl
@[simp] theorem Zaq {h:Zaa} {K:Zaa→Prop}:Zcf (some h) K=K h:=rfl
@[simp] theorem Zba {h:Zaa} {K:Zaa→Prop}:Zdn h K=K h:=rfl
@[simp] theorem Zcs {A B:Prop}:bcase true A B=A:=rfl
@[simp] theorem Zay {A B:Prop}:bcase false A B=B:=rfl
theorem Zaj {p:Prop} [Decidable p] {A B:Prop} (ha:p→A) (hb:¬ p→B):bcase (decide p) A B:=by
 by_cases h:p
 ·simp [h]; exact ha h
 ·simp [h]; exact hb h

def strs (l:List (List Nat)):List Zag:=l.map .str
def Yqm (l:List Int):List Zag:=l.map (.int .i64)
@[simp] theorem Yly (l:List (List Nat)):(strs l).length=l.length:=by simp [strs]
@[simp] theorem Yor:strs []=[]:=rfl
@[simp] theorem Ylv (a b:List (List Nat)):strs (a ++ b)=strs a ++ strs b:=by simp [strs]
@[simp] theorem Yol (l:List (List Nat)):(strs l).all Zag.leaf=true:=by simp [strs,Zag.leaf]
theorem Ych (l:List (List Nat)) (k:Nat):(strs l)[k]?=l[k]?.map .str:=by simp [strs]

structure Zbb (b:Nat) (h h':Zaa):Prop where
 le:h.length≤h'.length
 eq:∀ i,i < b→h'[i]?=h[i]?
theorem Zbb.refl (b:Nat) (h:Zaa):Zbb b h h:=⟨Nat.le_refl _,fun _ _=>rfl⟩
theorem Zbb.trans {b:Nat} {h h1 h2:Zaa} (x:Zbb b h h1) (y:Zbb b h1 h2):Zbb b h h2:=⟨Nat.le_trans x.le y.le,fun i hi=>(y.eq i hi).trans (x.eq i hi)⟩
theorem Zbb.mono {b b':Nat} {h h':Zaa} (x:Zbb b h h') (hb:b'≤b):Zbb b' h h':=⟨x.le,fun i hi=>x.eq i (by omega)⟩
theorem Zbb.app {b:Nat} {h:Zaa} (hb:b≤h.length) (l:Zaa):Zbb b h (h ++ l):=⟨by simp,fun i hi=>List.getElem?_append_left (by omega)⟩
theorem Zbb.set {b i:Nat} {h:Zaa} (hb:b≤i) (x:Zcp):Zbb b h (h.set i x):=⟨by simp,fun j hj=>by rw [List.getElem?_set_ne (by omega)]⟩

theorem Zbb.cell {b:Nat} {h h':Zaa} (s:Zbb b h h') {i o:Nat} (hi:i < b) {x:Option Zag} (hc:Zaf h (.ptr (some (i,o)))=x):Zaf h' (.ptr (some (i,o)))=x:=by
 have e:=s.eq i hi
 simp only [Zaf] at *
 rw [e]; exact hc

def Row (b:Nat) (h:Zaa) (a:Option (Nat × Nat)) (n:Nat) (cs:List Zag):Prop:=
 cs.length=n∧(n=0 ∨ ∃ i o t all ro,a=some (i,o)∧i < b∧h[i]?=some (.cells t all ro)∧o + n≤all.length∧cs=(all.drop o).take n)
theorem Row.nil {b:Nat} {h:Zaa} {a:Option (Nat × Nat)}:Row b h a 0 []:=⟨rfl,.inl rfl⟩
theorem Row.same {b:Nat} {h h':Zaa} {a:Option (Nat × Nat)} {n:Nat} {cs:List Zag} (r:Row b h a n cs) (s:Zbb b h h'):Row b h' a n cs:=by
 obtain ⟨hl,r⟩:=r
 refine ⟨hl,r.imp id ?_⟩
 rintro ⟨i,o,t,all,ro,ha,hb,hi,hle,hcs⟩
 exact ⟨i,o,t,all,ro,ha,hb,by rw [s.eq i hb]; exact hi,hle,hcs⟩
theorem Row.mono {b b':Nat} {h:Zaa} {a:Option (Nat × Nat)} {n:Nat} {cs:List Zag} (r:Row b h a n cs) (hb:b≤b'):Row b' h a n cs:=by
 obtain ⟨hl,r⟩:=r
 refine ⟨hl,r.imp id ?_⟩
 rintro ⟨i,o,t,all,ro,ha,hi,x⟩
 exact ⟨i,o,t,all,ro,ha,by omega,x⟩
theorem Row.rowOf {b:Nat} {h:Zaa} {a:Option (Nat × Nat)} {n:Nat} {cs:List Zag} (r:Row b h a n cs):rowOf h a n=some cs:=by
 obtain ⟨hl,r⟩:=r
 rcases r with h0 | ⟨i,o,t,all,ro,rfl,hb,hi,hle,hcs⟩
 ·subst h0
  have:cs=[]:=List.eq_nil_of_length_eq_zero hl
  subst this
  unfold Sim.rowOf; cases a <;> simp
 ·unfold Sim.rowOf
  by_cases h0:n=0
  ·subst h0; simp at hcs; simp [hcs]
  ·simp [h0,Zbo,hi,hle,hcs]
theorem Row.at {b:Nat} {h:Zaa} {a:Option (Nat × Nat)} {n:Nat} {cs:List Zag} (r:Row b h a n cs) {k:Nat} (hk:k < n):∃ i o,a=some (i,o)∧i < b∧Zaf h (.ptr (some (i,o + k)))=cs[k]?:=by
 obtain ⟨hl,r⟩:=r
 rcases r with h0 | ⟨i,o,t,all,ro,rfl,hb,hi,hle,hcs⟩
 ·omega
 ·refine ⟨i,o,rfl,hb,?_⟩
  simp [Zaf,hi,hcs,List.getElem?_take,hk]

def Own (b:Nat) (h:Zaa) (a:Option (Nat × Nat)) (t:TypeId) (cs:List Zag):Prop:=∃ i,a=some (i,0)∧b≤i∧h[i]?=some (.cells t cs false)
theorem Own.lt {h:Zaa} {i:Nat} {x:Zcp} (hi:h[i]?=some x):i < h.length:=(List.getElem?_eq_some_iff.1 hi).1
theorem Own.row {b:Nat} {h:Zaa} {a:Option (Nat × Nat)} {t:TypeId} {cs:List Zag} (r:Own b h a t cs):Row h.length h a cs.length cs:=by
 obtain ⟨i,rfl,hb,hi⟩:=r
 exact ⟨rfl,.inr ⟨i,0,t,cs,false,rfl,Own.lt hi,hi,by omega,by simp⟩⟩
theorem Own.last {h:Zaa} {t:TypeId} {cs:List Zag} {b:Nat} (hb:b≤h.length):Own b (h ++ [.cells t cs false]) (some (h.length,0)) t cs:=⟨h.length,rfl,hb,by simp⟩
theorem Own.same {b b':Nat} {h h':Zaa} {a:Option (Nat × Nat)} {t:TypeId} {cs:List Zag} (r:Own b h a t cs) (s:Zbb b' h h') (hb:h.length≤b'):Own b h' a t cs:=by
 obtain ⟨i,rfl,hi,hg⟩:=r
 exact ⟨i,rfl,hi,by rw [s.eq i (by have:=Own.lt hg; omega)]; exact hg⟩
theorem Own.mono {b b':Nat} {h:Zaa} {a:Option (Nat × Nat)} {t:TypeId} {cs:List Zag} (r:Own b h a t cs) (hb:b'≤b):Own b' h a t cs:=by
 obtain ⟨i,rfl,hi,hg⟩:=r
 exact ⟨i,rfl,by omega,hg⟩

def Zum (b:Nat) (h:Zaa) (a:Option (Nat × Nat)) (n:Nat) (t:TypeId) (cs:List Zag):Prop:=cs.length=n∧(n=0 ∨ Own b h a t cs)
theorem Zum.row {b:Nat} {h:Zaa} {a:Option (Nat × Nat)} {n:Nat} {t:TypeId} {cs:List Zag} (r:Zum b h a n t cs):Row h.length h a n cs:=by
 obtain ⟨hl,r⟩:=r
 rcases r with h0 | r
 ·exact ⟨hl,.inl h0⟩
 ·rw [← hl]; exact r.row
theorem Zum.same {b b':Nat} {h h':Zaa} {a:Option (Nat × Nat)} {n:Nat} {t:TypeId} {cs:List Zag} (r:Zum b h a n t cs) (s:Zbb b' h h') (hb:h.length≤b'):Zum b h' a n t cs:=⟨r.1,r.2.imp id fun x=>x.same s hb⟩
theorem Zum.mono {b b':Nat} {h:Zaa} {a:Option (Nat × Nat)} {n:Nat} {t:TypeId} {cs:List Zag} (r:Zum b h a n t cs) (hb:b'≤b):Zum b' h a n t cs:=⟨r.1,r.2.imp id fun x=>x.mono hb⟩

theorem Zzy {P:Program} {t ty:TypeId} {h:Zaa} {b i n c:Nat} {e:Bool} {xa:Option (Nat × Nat)} {m c':Nat} {e':Bool} {cs new:List Zag} {K:Zag→Zaa→Prop}
  (hu:P.underlying t=some (.slice ty)) (hc:P.cellsOf ty=1) (hok:P.okElem ty=true) (hby:P.bytesOf ty≤64) (hn:cs.length=n) (hi:h[i]?=some (.cells ty cs false)) (hb:b≤i) (hx:rowOf h xa m=some new) (hl:new.all Zag.leaf=true)
  (hle:n + m≤1099511627776) (hk:∀ h',h'=h.set i .dead ++ [.cells ty (cs ++ new) false]→Zbb b h h'→Own b h' (some (h.length,0)) ty (cs ++ new)→K (.slice (some (h.length,0)) (n + m) (n + m) false) h') :
  Zdv P t h (.slice (some (i,0)) n c e) (.slice xa m c' e') K:=by
 have hlt:=Own.lt hi
 unfold Zdv
 simp only [hu,hc,Nat.mul_one,hx,Zas]
 refine ⟨⟨hok,?_,hl⟩,.inl ⟨trivial,?_⟩⟩
 ·have:(n + m) * (P.bytesOf ty + 1)≤(n + m) * 65:=Nat.mul_le_mul_left _ (by omega)
  omega
 ·simp only [Zon,hi,true_and]
  refine ⟨hn,hk _ rfl ?_ ?_⟩
  ·refine (Zbb.set hb .dead).trans (Zbb.app (by simp; omega) _)
  ·refine ⟨h.length,rfl,by omega,by simp⟩
end Go.Sim

set_option linter.unusedSimpArgs false
namespace Go.Sim
open Go Go.RowKit

structure Zif (i:Nat) (h h':Zaa):Prop where
 le:h.length≤h'.length
 eq:∀ j,j < h.length→j≠i→h'[j]?=h[j]?
theorem Zif.refl (i:Nat) (h:Zaa):Zif i h h:=⟨Nat.le_refl _,fun _ _ _=>rfl⟩
theorem Zif.same {i b:Nat} {h h':Zaa} (k:Zif i h h') (hb:b≤i) (hl:b≤h.length):Zbb b h h':=⟨k.le,fun j hj=>k.eq j (by omega) (by omega)⟩
theorem Row.keep {b i:Nat} {h h':Zaa} {a:Pt} {n:Nat} {cs:List Zag} (r:Row b h a n cs) (ha:n≠0→∀ j o,a=some (j,o)→j≠i) (k:Zif i h h'):Row b h' a n cs:=by
 obtain ⟨hl,r⟩:=r
 by_cases h0:n=0
 ·exact ⟨hl,.inl h0⟩
 replace ha:=ha h0
 refine ⟨hl,r.imp id ?_⟩
 rintro ⟨j,o,t,all,ro,ha',hb,hi,hle,hcs⟩
 exact ⟨j,o,t,all,ro,ha',hb,by rw [k.eq j (Own.lt hi) (ha _ _ ha')]; exact hi,hle,hcs⟩

theorem Zum.apart {b i:Nat} {h:Zaa} {a:Pt} {n:Nat} {t:TypeId} {cs:List Zag} (f:Zum b h a n t cs) (hi:i < b):n≠0→∀ j o,a=some (j,o)→j≠i:=by
 intro h0 j o hj
 obtain ⟨_,h1 | ⟨k,hk,hb,_⟩⟩:=f
 ·exact absurd h1 h0
 ·rw [hj] at hk; cases hk; omega
def Out (t:TypeId) (h0:Zaa) (i0:Nat) (h:Zaa) (a:Pt) (n:Nat) (cs:List Zag):Prop:=
 ∃ i,a=some (i,0)∧(i=i0 ∨ h0.length≤i)∧h[i]?=some (.cells t cs false)∧cs.length=n∧Zif i0 h0 h
theorem Out.refl {t:TypeId} {h:Zaa} {i:Nat} {cs:List Zag} (hi:h[i]?=some (.cells t cs false)):Out t h i h (some (i,0)) cs.length cs:=⟨i,rfl,.inl rfl,hi,rfl,Zif.refl _ _⟩
theorem Out.new {t:TypeId} {h:Zaa} {cs:List Zag}:Out t (h ++ [.cells t cs false]) h.length (h ++ [.cells t cs false]) (some (h.length,0)) cs.length cs:=Out.refl (by simp)
theorem Out.call {t:TypeId} {h0 h h':Zaa} {i0:Nat} {a:Pt} {n:Nat} {cs:List Zag} (x:Out t h0 i0 h a n cs) (s:Zbb h.length h h'):Out t h0 i0 h' a n cs:=by
 obtain ⟨i,ha,hi,hg,hn,k⟩:=x
 exact ⟨i,ha,hi,by rw [s.eq i (Own.lt hg)]; exact hg,hn,⟨Nat.le_trans k.le s.le,fun j hj hne=>by rw [s.eq j (by have:=k.le; omega)]; exact k.eq j hj hne⟩⟩
theorem Out.id {t:TypeId} {h0 h:Zaa} {i0:Nat} {a:Pt} {n:Nat} {cs:List Zag} (x:Out t h0 i0 h a n cs):∃ i,a=some (i,0)∧i < h.length∧h[i]?=some (.cells t cs false):=by
 obtain ⟨i,ha,hi,hg,hn,k⟩:=x
 exact ⟨i,ha,Own.lt hg,hg⟩
theorem Out.trans {t:TypeId} {h0 h h':Zaa} {i0 i:Nat} {a a':Pt} {n n':Nat} {cs cs':List Zag} (x:Out t h0 i0 h a n cs) (ha:a=some (i,0)) (y:Out t h i h' a' n' cs'):Out t h0 i0 h' a' n' cs':=by
 obtain ⟨j,hj,hi,hg,hn,k⟩:=x
 rw [ha] at hj
 cases hj
 obtain ⟨i',ha',hi',hg',hn',k'⟩:=y
 have hlt:=Own.lt hg
 refine ⟨i',ha',?_,hg',hn',⟨Nat.le_trans k.le k'.le,fun j hj hne=>?_⟩⟩
 ·have:=k.le
  rcases hi' with rfl | hi'
  ·exact hi
  ·right; omega
 ·have:=k.le
  rw [k'.eq j (by omega) (by rcases hi with rfl | hi; exact hne; omega)]
  exact k.eq j hj hne
theorem Out.keep {t:TypeId} {h0 h:Zaa} {i0:Nat} {a:Pt} {n:Nat} {cs:List Zag} (x:Out t h0 i0 h a n cs):Zif i0 h0 h:=x.choose_spec.2.2.2.2
theorem Out.len {t:TypeId} {h0 h:Zaa} {i0:Nat} {a:Pt} {n:Nat} {cs:List Zag} (x:Out t h0 i0 h a n cs):cs.length=n:=x.choose_spec.2.2.2.1
theorem Out.append {P:Program} {t ty:TypeId} {h0 h:Zaa} {i0 n c:Nat} {a:Pt} {e:Bool} {xa:Pt} {m c':Nat} {e':Bool} {cs new:List Zag} {K:Zag→Zaa→Prop} (x:Out ty h0 i0 h a n cs)
  (hu:P.underlying t=some (.slice ty)) (hc:P.cellsOf ty=1) (hok:P.okElem ty=true) (hby:P.bytesOf ty≤64) (hx:rowOf h xa m=some new) (hl:new.all Zag.leaf=true)
  (hle:n + m≤1099511627776) (hk:∀ a' n' h',Out ty h0 i0 h' a' n' (cs ++ new)→K (.slice a' n' n' false) h'):Zdv P t h (.slice a n c e) (.slice xa m c' e') K:=by
 obtain ⟨i,rfl,hi,hg,hn,k⟩:=x
 refine Zzy (b:=0) hu hc hok hby hn hg (by omega) hx hl hle fun h' hh _ _=>hk _ _ h' ⟨h.length,rfl,.inr k.le,by rw [hh]; simp,?_,⟨?_,fun j hj hne=>?_⟩⟩
 ·have:new.length=m:=by
   unfold rowOf at hx
   split at hx
   ·split at hx
    ·cases hx; simp_all
    ·cases hx
   ·split at hx
    ·cases hx; simp_all
    ·unfold Zbo at hx
     split at hx
     ·split at hx
      ·split at hx
       ·cases hx; simp; omega
       ·cases hx
      ·cases hx
     ·cases hx
  simp; omega
 ·rw [hh]; have:=k.le; simp; omega
 ·have:=k.le
  rw [hh,List.getElem?_append_left (by simp; omega),List.getElem?_set_ne (by omega)]
  exact k.eq j hj hne
theorem Out.push {P:Program} {t ty:TypeId} {h0 h:Zaa} {i0 n c:Nat} {a:Pt} {e:Bool} {cs:List Zag} {v:Zag} {K:Zag→Zaa→Prop} (x:Out ty h0 i0 h a n cs)
  (hu:P.underlying t=some (.slice ty)) (hc:P.cellsOf ty=1) (hok:P.okElem ty=true) (hby:P.bytesOf ty≤64) (hl:v.leaf=true)
  (hle:n + 1≤1099511627776) (hk:∀ a' n' h',Out ty h0 i0 h' a' n' (cs ++ [v])→K (.slice a' n' n' false) h'):Zdv P t (h ++ [.cells ty [v] false]) (.slice a n c e) (.slice (some (h.length,0)) 1 1 true) K:=
 (x.call (Zbb.app (Nat.le_refl _) _)).append hu hc hok hby (new:=[v]) (Own.row (b:=0) (t:=ty) (cs:=[v]) ⟨h.length,rfl,by omega,by simp⟩).rowOf (show List.all [v] Zag.leaf=true by rw [List.all_cons,hl]; rfl) hle hk
theorem Row.str {b:Nat} {h:Zaa} {a:Pt} {n:Nat} {l:List (List Nat)} (r:Row b h a n (strs l)) {k:Nat} (hk:k < n):∃ i o,∃ hk':k < l.length,a=some (i,o)∧i < b∧Zaf h (.ptr (some (i,o + k)))=some (.str l[k]):=by
 have hl:l.length=n:=by simpa using r.1
 obtain ⟨i,o,ha,hi,hc⟩:=r.at hk
 exact ⟨i,o,by omega,ha,hi,by rw [hc,Ych,List.getElem?_eq_getElem (by omega)]; rfl⟩

end Go.Sim

set_option linter.unusedSimpArgs false
namespace Go.Sim
open Go Go.RowKit

inductive Dt where
 | int (k:IntKind) (n:Int)
 | bool (b:Bool)
 | str (s:List Nat)
 | sl (ds:List Dt)
 | st (ds:List Dt)
 deriving Inhabited

def Yjw (P:Program):Nat→List Field→Nat→Bool
 | o,[],n=>Nat.beq o n
 | o,f :: r,n=>Nat.beq f.offset o && Yjw P (o + P.cellsOf f.type) r n
def okT (P:Program):Nat→TypeId→Bool
 | 0,_=>false
 | n + 1,t=>match P.underlying t with
  | some .bool=>Nat.beq (P.cellsOf t) 1
  | some (.int _)=>Nat.beq (P.cellsOf t) 1
  | some .string=>Nat.beq (P.cellsOf t) 1
  | some (.slice e)=>Nat.beq (P.cellsOf t) 1 && Nat.ble 1 (P.cellsOf e) && okT P n e
  | some (.struct fs)=>Yjw P 0 fs.toList (P.cellsOf t) && fs.toList.all fun f=>okT P n f.type
  | _=>false

def rd (P:Program) (h:Zaa):Nat→TypeId→List Zag→Dt→Prop
 | 0,_,_,_=>False
 | f + 1,t,cs,d=>match P.underlying t with
  | some .bool=>∃ b,cs=[.bool b]∧d=.bool b
  | some (.int k)=>∃ n,cs=[.int k n]∧d=.int k n∧(Lit.int k n).wf=true
  | some .string=>∃ s,cs=[.str s]∧d=.str s∧s.length≤9223372036854775807∧∀ b∈s,b < 256
  | some (.slice e)=>∃ (a:Pt) (n c:Nat) (ex:Bool) (ds:List Dt) (vs:List (List Zag)),cs=[.slice a n c ex]∧d=.sl ds∧ds.length=n∧n≤9223372036854775807∧vs.length=n∧Row h.length h a (n * P.cellsOf e) vs.flatten ∧
    ∀ (i:Nat) (v:List Zag) (x:Dt),vs[i]?=some v→ds[i]?=some x→v.length=P.cellsOf e∧rd P h f e v x
  | some (.struct fs)=>∃ (ds:List Dt) (vs:List (List Zag)),d=.st ds∧ds.length=fs.size∧vs.length=fs.size∧cs=vs.flatten ∧
    ∀ (i:Nat) (fd:Field) (v:List Zag) (x:Dt),fs[i]?=some fd→vs[i]?=some v→ds[i]?=some x→v.length=P.cellsOf fd.type∧rd P h f fd.type v x
  | _=>False
theorem Zto {P:Program} {h h':Zaa} (s:Zbb h.length h h'):∀ (f:Nat) {t:TypeId} {cs:List Zag} {d:Dt},rd P h f t cs d→rd P h' f t cs d
 | 0,_,_,_,hr=>hr.elim
 | f + 1,t,cs,d,hr=>by
  unfold rd at *
  split at hr
  ·exact hr
  ·exact hr
  ·exact hr
  ·obtain ⟨a,n,c,ex,ds,vs,h1,h2,h3,h4,h5,h6,h7⟩:=hr
   exact ⟨a,n,c,ex,ds,vs,h1,h2,h3,h4,h5,(h6.same s).mono s.le,fun i v x hv hx=>⟨(h7 i v x hv hx).1,Zto s f (h7 i v x hv hx).2⟩⟩
  ·obtain ⟨ds,vs,h1,h2,h3,h4,h5⟩:=hr
   exact ⟨ds,vs,h1,h2,h3,h4,fun i fd v x hf hv hx=>⟨(h5 i fd v x hf hv hx).1,Zto s f (h5 i fd v x hf hv hx).2⟩⟩
  ·exact hr

section
variable {H:Type} {enc:TypeId × Value→H} {P:Program} {w:World} {spare:Nat→Bool} {held:Bool} {base:Nat} {w0:World}

def Got (P:Program) (base:Nat) (w0:World) (w:World) (μ:List Pl) (h:Zaa) (F:List Pl→Zaa→Prop):Prop:=
 ∃ μ' h',Ext μ μ'∧Zbb h.length h h'∧Rel P base w0 μ' h' w∧F μ' h'

theorem Zvx (s:ByteArray):∀ b∈bytesOf s,b < 256:=by
 intro b hb
 simp only [bytesOf,List.mem_map] at hb
 obtain ⟨x,_,rfl⟩:=hb
 exact x.toNat_lt

theorem Zxb {α:Type} (F:α→List Value→Dt→List Zag→Zaa→Prop) (hF:∀ x y d vs h h',Zbb h.length h h'→F x y d vs h→F x y d vs h') (rdv:α→List Value) :
  ∀ (l:List α),(∀ x∈l,∀ (μ:List Pl) (h:Zaa),Rel P base w0 μ h w→Got P base w0 w μ h fun μ' h'=>∃ vs d,VRs μ' vs (rdv x)∧F x (rdv x) d vs h')→∀ (μ:List Pl) (h:Zaa),Rel P base w0 μ h w →
   Got P base w0 w μ h fun μ' h'=>∃ (vss:List (List Zag)) (ds:List Dt),vss.length=l.length∧ds.length=l.length∧VRs μ' vss.flatten ((l.map rdv).flatten) ∧
   ∀ (i:Nat) (x:α) (v:List Zag) (d:Dt),l[i]?=some x→vss[i]?=some v→ds[i]?=some d→VRs μ' v (rdv x)∧F x (rdv x) d v h'
 | [],_,μ,h,r=>⟨μ,h,Ext.refl _,Zbb.refl _ _,r,[],[],rfl,rfl,.nil,by simp⟩
 | x :: l,step,μ,h,r=>by
  obtain ⟨μ1,h1,e1,s1,r1,v,d,hv,hd⟩:=step x (by simp) μ h r
  obtain ⟨μ2,h2,e2,s2,r2,vss,ds,hl1,hl2,hvs,hall⟩:=Zxb F hF rdv l (fun y hy=>step y (by simp [hy])) μ1 h1 r1
  refine ⟨μ2,h2,e1.trans e2,s1.trans (s2.mono s1.le),r2,v :: vss,d :: ds,by simp [hl1],by simp [hl2],?_,?_⟩
  ·simpa using (hv.ext e2).append hvs
  ·intro i y v' d' hy hv' hd'
   cases i with
   | zero=>simp at hy hv' hd'; subst hy; subst hv'; subst hd'; exact ⟨hv.ext e2,hF _ _ _ _ _ _ s2 hd⟩
   | succ i=>simp at hy hv' hd'; exact hall i y v' d' hy hv' hd'

theorem Rel.ro {μ:List Pl} {h:Zaa} (r:Rel P base w0 μ h w) {b o:Nat} {t:TypeId} {cs:List Zag} {C:Array Value} {el:TypeId} {fr:Nat × Nat} (hb:w.heap[b]?=some (.cells C el fr)) (hlt:b < base) (hv:VRs μ cs ((C.toList.drop o).take cs.length)) :
  Rel P base w0 (μ ++ [⟨b,o,false,0,0⟩]) (h ++ [.cells t cs true]) w:=by
 refine ⟨r.below,by simp [r.len],?_,?_,r.size⟩
 ·intro i ob hi e' he'
  by_cases hl:i < h.length
  ·rw [List.getElem?_append_left hl] at hi
   rw [List.getElem?_append_left (by rw [r.len]; exact hl)] at he'
   exact (r.obj i ob hi e' he').keep (Ext.app _ _) fun x hx=>hx
  ·rw [List.getElem?_append_right (by omega)] at hi
   rw [List.getElem?_append_right (by rw [r.len]; omega)] at he'
   have hz:i - h.length=0:=by
    have:=(List.getElem?_eq_some_iff.1 hi).1; simp at this; omega
   rw [hz] at hi
   rw [r.len,hz] at he'
   simp at hi he'; subst hi; subst he'
   exact ⟨C,el,fr,hb,hv.ext (Ext.app _ _),by simp; exact hlt⟩
 ·intro i j oi oj ei ej hij hi hj hoi hoj hei hej
  have key:∀ (i:Nat) (oi:Zcp),(h ++ [Zcp.cells t cs true])[i]?=some oi→oi.own=true→i < h.length:=by
   intro i oi hi ho
   by_cases hl:i < h.length
   ·exact hl
   ·rw [List.getElem?_append_right (by omega)] at hi
    have hz:i - h.length=0:=by
     have:=(List.getElem?_eq_some_iff.1 hi).1; simp at this; omega
    rw [hz] at hi; simp at hi; subst hi; simp [Zcp.own] at ho
  have hli:=key i oi hi hoi
  have hlj:=key j oj hj hoj
  rw [List.getElem?_append_left hli] at hi
  rw [List.getElem?_append_left hlj] at hj
  rw [List.getElem?_append_left (by rw [r.len]; exact hli)] at hei
  rw [List.getElem?_append_left (by rw [r.len]; exact hlj)] at hej
  exact r.sep i j oi oj ei ej hij hi hj hoi hoj hei hej

theorem Zxj {β:Type} (C:List β) (o z:Nat) (f:Nat→List β):∀ n,(∀ i,i < n→f i=(C.drop (o + i * z)).take z∧(f i).length=z)→((List.range n).map f).flatten=(C.drop o).take (n * z)∧(((List.range n).map f).flatten).length=n * z
 | 0,_=>by simp
 | n + 1,h=>by
  obtain ⟨ih,il⟩:=Zxj C o z f n fun i hi=>h i (by omega)
  obtain ⟨h1,h2⟩:=h n (by omega)
  rw [List.range_succ,List.map_append,List.flatten_append]
  constructor
  ·rw [ih,Nat.succ_mul,List.take_add]
   congr 1
   simp only [List.map_cons,List.map_nil,List.flatten_cons,List.flatten_nil,List.append_nil,h1,List.drop_drop]
  ·rw [List.length_append,il,Nat.succ_mul]; simp [h2]
theorem Zrr {β:Type} (z:Nat):∀ (l:List (List β)) (n:Nat),(∀ x∈l,x.length=z)→(l.take n).flatten=l.flatten.take (n * z)
 | [],n,_=>by simp
 | x :: l,0,_=>by simp
 | x :: l,n + 1,h=>by
  have hx:=h x (by simp)
  rw [List.take_succ_cons,List.flatten_cons,List.flatten_cons,Zrr z l n fun y hy=>h y (by simp [hy]),Nat.succ_mul,Nat.add_comm,List.take_append,hx,List.take_of_length_le (l:=x) (by omega)]
  congr 2; omega
theorem Zsq {β:Type} (z:Nat):∀ (l:List (List β)),(∀ x∈l,x.length=z)→l.flatten.length=l.length * z
 | [],_=>by simp
 | x :: l,h=>by
  rw [List.flatten_cons,List.length_append,h x (by simp),Zsq z l fun y hy=>h y (by simp [hy]),List.length_cons,Nat.succ_mul]; omega

theorem Zoq {a:Addr} {n:Nat} {cs:List Value} (h:w.cells? 0 a n=some cs) (hn:0 < n):a.spot=none∧∃ C el fr,w.heap[a.block]?=some (.cells C el fr)∧cs.length=n∧cs=(C.toList.drop a.off).take n:=by
 obtain ⟨_,hl,hc⟩:=World.cells?_some h
 have h0:=hc 0 hn
 have hcs:∃ v,cs[0]?=some v:=⟨cs[0]'(by omega),List.getElem?_eq_getElem (by omega)⟩
 obtain ⟨v,hv⟩:=hcs
 rw [hv] at h0
 have ha0:a.add 0=a:=by simp [Addr.add]
 rw [ha0] at h0
 unfold World.cell? at h0
 split at h0
 ·rename_i C el fr hb
  split at h0
  ·cases h0
  ·rename_i hsp
   refine ⟨by simpa using hsp,C,el,fr,hb,hl,?_⟩
   apply List.ext_getElem?
   intro i
   by_cases hi:i < n
   ·rw [← hc i hi]
    have:w.cell? (a.add i)=C[a.off + i]?:=by
     unfold Addr.add
     split
     ·rename_i e; subst e; simp [World.cell?,hb,hsp]
     ·simp [World.cell?,hb]
    rw [this]; simp [List.getElem?_take,hi]
   ·rw [List.getElem?_eq_none (by omega),List.getElem?_eq_none (by simp; omega)]
 ·cases h0

theorem Zvf (cs:List Value):∀ (fs:List Field) (o:Nat),Yjw P o fs cs.length=true→(fs.map fun f=>(cs.drop f.offset).take (P.cellsOf f.type)).flatten=cs.drop o
 | [],o,h=>by
  have:=Nat.eq_of_beq_eq_true h
  subst this; simp
 | f :: fs,o,h=>by
  simp only [Yjw,Bool.and_eq_true] at h
  have ho:=Nat.eq_of_beq_eq_true h.1
  rw [List.map_cons,List.flatten_cons,Zvf cs fs _ h.2,ho,← List.drop_drop,List.take_append_drop]

theorem imp (hbase:w.heap.size≤base) (hsp:∀ b,spare b=true):∀ (N fuel:Nat) {t:TypeId} {cs:List Value} {x:DataW H × List MemPlace},okT P N t=true→DataW.trod enc P w 0 spare held fuel t cs=some x →
  ∀ (μ:List Pl) (h:Zaa),Rel P base w0 μ h w→cs.length=P.cellsOf t∧Got P base w0 w μ h fun μ' h'=>∃ vs d,VRs μ' vs cs∧rd P h' N t vs d
 | 0,_,_,_,_,hok,_,_,_,_=>by simp [okT] at hok
 | N + 1,fuel,t,cs,x,hok,htr,μ,h,r=>by
  unfold okT at hok
  cases hu:P.underlying t with
  | none=>rw [hu] at hok; simp at hok
  | some td=>
  rw [hu] at hok
  cases td <;> simp only at hok <;> try (simp at hok; done)
  case bool=>
   obtain ⟨b,rfl,_⟩:=DataW.trod_bool hu htr
   exact ⟨by simpa using (Nat.eq_of_beq_eq_true hok).symm,μ,h,Ext.refl _,Zbb.refl _ _,r,_,.bool b,.cons (.bool b) .nil,by simp [rd,hu]⟩
  case int k=>
   obtain ⟨n,rfl,_,hwf⟩:=DataW.trod_int hu htr
   exact ⟨by simpa using (Nat.eq_of_beq_eq_true hok).symm,μ,h,Ext.refl _,Zbb.refl _ _,r,_,.int k n,.cons (.int k n) .nil,by simp [rd,hu,hwf]⟩
  case string=>
   obtain ⟨s,rfl,_,hs⟩:=DataW.trod_string hu htr
   refine ⟨by simpa using (Nat.eq_of_beq_eq_true hok).symm,μ,h,Ext.refl _,Zbb.refl _ _,r,_,.str (bytesOf s),.cons (.str s) .nil,?_⟩
   simp only [rd,hu]
   exact ⟨_,rfl,rfl,by rw [Zdg]; simpa [maxLen] using hs,Zvx s⟩
  case slice e=>
   simp only [Bool.and_eq_true] at hok
   obtain ⟨⟨h1,hz⟩,hoke⟩:=hok
   have hz:1≤P.cellsOf e:=by simpa using hz
   rcases DataW.trod_slice hu htr with ⟨rfl,_⟩ | ⟨a,len,cap,elems,rest,n,_,rfl,_,hb,hl,hm,hlen,hel,hsr,_⟩
   ·refine ⟨by simpa using (Nat.eq_of_beq_eq_true h1).symm,μ,h,Ext.refl _,Zbb.refl _ _,r,_,.sl [],.cons .slice0 .nil,?_⟩
    simp only [rd,hu]
    exact ⟨_,_,_,_,[],[],rfl,rfl,rfl,by omega,rfl,by simpa using Row.nil,by simp⟩
   ·refine ⟨by simpa using (Nat.eq_of_beq_eq_true h1).symm,?_⟩
    obtain ⟨hrl,hre⟩:=hsr (hsp _)
    have hmx:cap≤9223372036854775807:=by simpa [maxLen] using hm
    by_cases hc0:cap=0
    ·subst hc0
     have:len=0:=by omega
     subst this
     refine ⟨μ,h,Ext.refl _,Zbb.refl _ _,r,_,.sl [],.cons (.sliceE0 (a:=some a)) .nil,?_⟩
     simp only [rd,hu]
     exact ⟨_,_,_,_,[],[],rfl,rfl,rfl,by omega,rfl,by simpa using Row.nil,by simp⟩
    ·-- the cells of each element
     have each:∀ i,i < cap→∃ cs y,w.cells? 0 (a.add (i * P.cellsOf e)) (P.cellsOf e)=some cs∧DataW.trod enc P w 0 spare held n e cs=some y:=by
      intro i hi
      have:∃ y,(w.cells? 0 (a.add (i * P.cellsOf e)) (P.cellsOf e)).bind (DataW.trod enc P w 0 spare held n e)=some y:=by
       by_cases hil:i < len
       ·exact ⟨elems[i]'(by omega),by rw [hel i hil,List.getElem?_eq_getElem]⟩
       ·have:=hre (i - len) (by omega)
        rw [show len + (i - len)=i by omega] at this
        exact ⟨rest[i - len]'(by omega),by rw [this,List.getElem?_eq_getElem]⟩
      obtain ⟨y,hy⟩:=this
      obtain ⟨cs,hcs,hy⟩:=Option.bind_eq_some_iff.1 hy
      exact ⟨cs,y,hcs,hy⟩
     have hz0:0 < P.cellsOf e:=hz
     obtain ⟨cs0,_,hcs0,_⟩:=each 0 (by omega)
     have ha0:a.add (0 * P.cellsOf e)=a:=by simp [Addr.add]
     rw [ha0] at hcs0
     obtain ⟨hspot,C,el,fr,hblk,_,_⟩:=Zoq hcs0 hz0
     have hlt:a.block < base:=Nat.lt_of_lt_of_le (Array.getElem?_eq_some_iff.1 hblk).1 hbase
     obtain ⟨μ2,h2,e2,s2,r2,vss,ds,hl1,hl2,hvs,hall⟩:=Zxb (P:=P) (base:=base) (w0:=w0) (w:=w) (fun _ _ d vs h'=>vs.length=P.cellsOf e∧rd P h' N e vs d)
      (fun _ _ _ _ _ _ s hd=>⟨hd.1,Zto s N hd.2⟩) (fun i=>(w.cells? 0 (a.add (i * P.cellsOf e)) (P.cellsOf e)).getD []) (List.range cap) (fun i hi μ h r=>by
       obtain ⟨cs,y,hcs,hy⟩:=each i (by simpa using hi)
       obtain ⟨hcl,μ',h',ex,sx,rx,vs,d,hv,hd⟩:=imp hbase hsp N n hoke hy μ h r
       refine ⟨μ',h',ex,sx,rx,vs,d,by simpa [hcs] using hv,?_,hd⟩
       have:=hv.length; omega) μ h r
     have hrows:=Zxj C.toList a.off (P.cellsOf e) (fun i=>(w.cells? 0 (a.add (i * P.cellsOf e)) (P.cellsOf e)).getD []) cap (fun i hi=>by
      obtain ⟨cs,y,hcs,_⟩:=each i hi
      obtain ⟨_,C',el',fr',hblk',hcl,hce⟩:=Zoq hcs hz0
      have hab:(a.add (i * P.cellsOf e)).block=a.block:=by unfold Addr.add; split <;> rfl
      have hao:(a.add (i * P.cellsOf e)).off=a.off + i * P.cellsOf e:=by unfold Addr.add; split <;> simp_all
      rw [hab,hblk] at hblk'
      cases hblk'
      rw [hao] at hce
      simp only [hcs,Option.getD_some]
      exact ⟨hce,hcl⟩)
     have hvl:=hvs.length
     have hvz:∀ v∈vss,v.length=P.cellsOf e:=by
      intro v hv
      obtain ⟨i,hi⟩:=List.getElem?_of_mem hv
      have hil:=(List.getElem?_eq_some_iff.1 hi).1
      simp at hl1 hl2
      exact (hall i i v (ds[i]'(by omega)) (by rw [List.getElem?_range (by omega)]) hi (List.getElem?_eq_getElem _)).2.1
     rw [hrows.1] at hvs
     rw [hrows.2] at hvl
     have r3:=r2.ro (t:=e) hblk hlt (o:=a.off) (cs:=vss.flatten) (by rw [hvl]; exact hvs)
     simp at hl1 hl2
     have s3:Zbb h2.length h2 (h2 ++ [.cells e vss.flatten true]):=Zbb.app (Nat.le_refl _) _
     refine ⟨_,_,e2.trans (Ext.app _ _),s2.trans (s3.mono s2.le),r3,[.slice (some (h2.length,0)) len cap true],.sl (ds.take len),.cons ?_ .nil,?_⟩
     ·have hae:a=⟨a.block,a.off + 0,none⟩:=by rw [← hspot]; rfl
      have:=VR.slice (μ:=μ2 ++ [⟨a.block,a.off,false,0,0⟩]) (i:=h2.length) (o:=0) (n:=len) (c:=cap) (cap:=cap) (ex:=true) (e:=⟨a.block,a.off,false,0,0⟩) (r2.last _) hl (Nat.le_refl _) (fun _=>rfl) (fun hf=>by cases hf)
      rw [← hae] at this
      exact this
     ·simp only [rd,hu]
      refine ⟨_,_,_,_,ds.take len,vss.take len,rfl,rfl,by simp; omega,by omega,by simp; omega,?_,?_⟩
      ·have hfl:=Zrr (P.cellsOf e) vss len hvz
       have hfl2:=Zsq (P.cellsOf e) (vss.take len) fun v hv=>hvz v (List.mem_of_mem_take hv)
       refine ⟨by rw [hfl2,List.length_take,Nat.min_eq_left (by omega)],.inr ⟨h2.length,0,e,vss.flatten,true,rfl,by simp,by simp,?_,by simpa using hfl⟩⟩
       rw [hvl,Nat.zero_add]; exact Nat.mul_le_mul_right _ hl
      ·intro i v y hv hy
       have hil:i < len:=by have:=(List.getElem?_eq_some_iff.1 hv).1; simp at this; omega
       rw [List.getElem?_take,if_pos hil] at hv hy
       have:=(hall i i v y (by rw [List.getElem?_range (by omega)]) hv hy).2
       exact ⟨this.1,Zto s3 N this.2⟩
  case struct fs=>
   simp only [Bool.and_eq_true,List.all_eq_true] at hok
   obtain ⟨htl,hfs⟩:=hok
   obtain ⟨xs,n,_,_,hcl,hxl,hel⟩:=DataW.trod_struct hu htr
   refine ⟨hcl,?_⟩
   obtain ⟨μ2,h2,e2,s2,r2,vss,ds,hl1,hl2,hvs,hall⟩:=Zxb (P:=P) (base:=base) (w0:=w0) (w:=w) (fun (f:Field) _ d vs h'=>vs.length=P.cellsOf f.type∧rd P h' N f.type vs d)
    (fun _ _ _ _ _ _ s hd=>⟨hd.1,Zto s N hd.2⟩) (fun f=>(cs.drop f.offset).take (P.cellsOf f.type)) fs.toList (fun f hf μ h r=>by
     obtain ⟨i,hi⟩:=List.getElem?_of_mem hf
     have hi':fs[i]?=some f:=by simpa using hi
     have hil:=(Array.getElem?_eq_some_iff.1 hi').1
     have htr':DataW.trod enc P w 0 spare held n f.type ((cs.drop f.offset).take (P.cellsOf f.type))=some (xs[i]'(by omega)):=by rw [hel i f hi',List.getElem?_eq_getElem]
     obtain ⟨hcl',μ',h',ex,sx,rx,vs,d,hv,hd⟩:=imp hbase hsp N n (hfs f hf) htr' μ h r
     refine ⟨μ',h',ex,sx,rx,vs,d,hv,?_,hd⟩
     have:=hv.length; omega) μ h r
   rw [Zvf cs fs.toList 0 (by rw [hcl]; exact htl)] at hvs
   simp at hl1 hl2
   refine ⟨μ2,h2,e2,s2,r2,vss.flatten,.st ds,by simpa using hvs,?_⟩
   simp only [rd,hu]
   exact ⟨ds,vss,rfl,hl2,hl1,rfl,fun i fd v y hf hv hy=>(hall i fd v y (by simpa using hf) hv hy).2⟩
end
theorem VR.slice_le {μ:List Pl} {a:Option (Nat × Nat)} {n c:Nat} {e:Bool} {x:Value} (h:VR μ (.slice a n c e) x):n≤c:=by
 cases h <;> omega
end Go.Sim

set_option linter.unusedSimpArgs false
namespace Go.Sim
open Go Go.RowKit

theorem Yem (l:List UInt8):bytesOf ⟨l.toArray⟩=l.map UInt8.toNat:=by simp [bytesOf]

section
variable {P:Program} {base:Nat} {w0:World} {μ:List Pl} {h:Zaa} {w:World}
theorem VRs.strs:∀ {l:List (List Nat)} {ys:List Value},VRs μ (Sim.strs l) ys→∃ xs:List ByteArray,ys=xs.map .string∧xs.map bytesOf=l
 | [],_,.nil=>⟨[],rfl,rfl⟩
 | s :: l,_,.cons a b=>by
  obtain ⟨xs,rfl,hx⟩:=VRs.strs b
  cases a with
  | str s=>exact ⟨s :: xs,rfl,by simp [hx]⟩

end
end Go.Sim

set_option linter.unusedSimpArgs false
namespace Go.Sim
open Go Go.RowKit

theorem trodAll_below {H:Type} {enc:TypeId × Value→H} {P:Program} (hl:laidOutB P=true) {W W':World} (hb:Below W.heap.size W W'):∀ {ts:List TypeId} {vs:List Value} {ds:List (DataW H)} {ps:List MemPlace},
  (∀ t∈ts,P.readableRec t=true∧t < P.types.size)→DataW.TrodAll enc P W 0 (fun _=>true) true ts vs ds ps→DataW.TrodAll enc P W' 0 (fun b=>decide (b < W.heap.size)) true ts vs ds ps
 | [],[],[],_,_,h=>h
 | t :: ts,v :: vs,d :: ds,ps,ht,⟨p,q,h1,h2,e⟩=>by
  have h1':=h1
  obtain ⟨fuel,hf⟩:=h1'
  exact ⟨p,q,Below.trod hl (ht t (by simp)).1 (ht t (by simp)).2 h1 hb (DataW.trod_lt _ _ _ _ hf),trodAll_below hl hb (fun t' h'=>ht t' (by simp [h'])) h2,e⟩
 | [],_ :: _,_,_,_,h=>by simp [DataW.TrodAll] at h
 | [],[],_ :: _,_,_,h=>by simp [DataW.TrodAll] at h
 | _ :: _,[],_,_,_,h=>by simp [DataW.TrodAll] at h
 | _ :: _,_ :: _,[],_,_,h=>by simp [DataW.TrodAll] at h

end Go.Sim

set_option linter.unusedSimpArgs false
namespace Go.Sim
open Go Go.RowKit

def Zno:List Nat→Nat→Int
 | [],_=>-1
 | b :: l,c=>if b == c then 0 else if Zno l c == -1 then -1 else Zno l c + 1
theorem Yga (l:List Nat) (c:Nat):-1≤Zno l c:=by
 induction l with
 | nil=>simp [Zno]
 | cons b l ih => simp only [Zno]; split <;> try split
                  all_goals omega
theorem Zvy (l:List Nat) (c:Nat):0≤Zno l c ↔ c∈l:=by
 induction l with
 | nil=>simp [Zno]
 | cons b l ih=>
  have:=Yga l c
  simp only [Zno,List.mem_cons]
  by_cases hb:b=c
  ·simp [hb]
  ·have hb':c≠b:=fun e=>hb e.symm
   simp only [beq_iff_eq,hb,hb',if_false,false_or]
   rw [← ih]
   by_cases h1:Zno l c=-1
   ·simp [h1]
   ·simp only [h1,if_false]; omega
theorem Yij (l:List Nat) (c:Nat):Zno l c < 0 ↔ c ∉ l:=by rw [← Zvy]; omega
theorem Zuq (l:List UInt8) (c:UInt8):Lib.indexByte l c=Zno (l.map UInt8.toNat) c.toNat:=by
 induction l with
 | nil=>rfl
 | cons b l ih=>
  simp only [Lib.indexByte,Zno,List.map_cons,ih]
  have:(b == c)=(b.toNat == c.toNat):=by
   rw [Bool.eq_iff_iff]; simp [UInt8.toNat_inj]
  rw [this]
theorem Yav {s:ByteArray} {c:Nat} (h:bytesOf s=[c]):∃ b:UInt8,s=⟨#[b]⟩∧b.toNat=c:=by
 obtain ⟨⟨l⟩⟩:=s
 simp [bytesOf] at h
 match l,h with
 | [b],h=>simp at h; exact ⟨b,rfl,h⟩
theorem Zox:∀ (p s:List UInt8),(p.map UInt8.toNat).isPrefixOf (s.map UInt8.toNat)=p.isPrefixOf s
 | [],_=>by simp
 | a :: p,[]=>by simp
 | a :: p,b :: s=>by
  simp only [List.map_cons,List.isPrefixOf_cons₂,Zox p s]
  congr 1
  rw [Bool.eq_iff_iff]; simp [UInt8.toNat_inj]
section
variable {P:Program} {h:Zaa}
theorem Zad.plain {n : FuncId} {args : List Zag} (v0 : Zag) (able : ∃ fn, P.funcs[n]? = some fn ∧ fn.body.isSome = true ∧ (fn.name == "runtime.NumGoroutine") = false)
  (hc:∀ (μ:List Pl) (xs:Array Value) (w:World),VRs μ args xs.toList→Calls P n xs w fun e w'=>∃ x,e=.returned x∧Below w.heap.size w w'∧VR μ v0 x) :
  Zad P n args h fun v h'=>v=v0∧h'=h:=by
 refine ⟨able,fun base w0 μ w xs rel hx=>(hc μ xs w hx).mono ?_⟩
 rintro e w' ⟨x,rfl,hb,hv⟩
 exact ⟨x,μ,v0,h,rfl,Ext.refl _,rel.grow hb,hv,rfl,rfl⟩
theorem Zad.contains1 {n : FuncId} (able : ∃ fn, P.funcs[n]? = some fn ∧ fn.body.isSome = true ∧ (fn.name == "runtime.NumGoroutine") = false)
  (hc:∀ (s:ByteArray) (c:UInt8) (w:World),Calls P n #[.string s,.string ⟨#[c]⟩] w fun e w'=>e=.returned (.bool (decide (0≤Lib.indexByte s.data.toList c)))∧w'=w) {s:List Nat} {c:Nat} :
  Zad P n [.str s,.str [c]] h fun v h'=>v=.bool (decide (c∈s))∧h'=h:=by
 refine Zad.plain _ able fun μ xs w hx=>?_
 match xs,hx with
 | ⟨[x1,x2]⟩,.cons h1 (.cons h2 .nil)=>
  cases h1 with
  | str s=>
  generalize ht:[c]=t at h2
  cases h2 with
  | str t=>
  obtain ⟨b,rfl,rfl⟩:=Yav ht.symm
  refine (hc s b w).mono ?_
  rintro e w' ⟨rfl,rfl⟩
  refine ⟨_,rfl,Below.refl _ _,?_⟩
  rw [Zuq]
  have:decide (0≤Zno (s.data.toList.map UInt8.toNat) b.toNat)=decide (b.toNat∈bytesOf s):=by
   rw [decide_eq_decide]; exact Zvy _ _
  rw [this]; exact .bool _
theorem Zad.hasPrefix {n : FuncId} (able : ∃ fn, P.funcs[n]? = some fn ∧ fn.body.isSome = true ∧ (fn.name == "runtime.NumGoroutine") = false)
  (hc:∀ (s p:ByteArray) (w:World),Calls P n #[.string s,.string p] w fun e w'=>e=.returned (.bool (Lib.hasPrefix s.data.toList p.data.toList))∧w'=w) {s p:List Nat} :
  Zad P n [.str s,.str p] h fun v h'=>v=.bool (p.isPrefixOf s)∧h'=h:=by
 refine Zad.plain _ able fun μ xs w hx=>?_
 match xs,hx with
 | ⟨[x1,x2]⟩,.cons h1 (.cons h2 .nil)=>
  cases h1 with
  | str s=>
  cases h2 with
  | str t=>
  refine (hc s t w).mono ?_
  rintro e w' ⟨rfl,rfl⟩
  refine ⟨_,rfl,Below.refl _ _,?_⟩
  have:Lib.hasPrefix s.data.toList t.data.toList=(bytesOf t).isPrefixOf (bytesOf s):=by unfold Lib.hasPrefix bytesOf; rw [Zox]
  rw [this]; exact .bool _
def Yqk (u:Nat):List Nat:=(Lib.decDigits u).map UInt8.toNat
def Yof (n:Int):List Nat:=(Lib.itoa n).map UInt8.toNat
def Ynq (P : Program) : Zcp := .amb fun base w0 => ∀ w, Below base w0 w → Lib.TabIs P w "internal/strconv.uint64pow10" .u64 Lib.pow10Tab
theorem Zad.itoa {n : FuncId} (able : ∃ fn, P.funcs[n]? = some fn ∧ fn.body.isSome = true ∧ (fn.name == "runtime.NumGoroutine") = false)
  (hc : ∀ (z : Int), -9223372036854775808 ≤ z → z ≤ 9223372036854775807 → ∀ (w : World), Lib.TabIs P w "internal/strconv.uint64pow10" .u64 Lib.pow10Tab → Calls P n #[.int .i64 z] w fun e w' => e = .returned (.string ⟨(Lib.itoa z).toArray⟩) ∧ ∃ k os, w' = Go.Sort.grow (w.drewN k) os)
  {k:Nat} (hk:h[k]?=some (Ynq P)) {z:Int} (h0:-9223372036854775808≤z) (h1:z≤9223372036854775807) :
  Zad P n [.int .i64 z] h fun v h'=>v=.str (Yof z)∧h'=h:=by
 refine ⟨able,fun base w0 μ w xs rel hx=>?_⟩
 match xs,hx with
 | ⟨[x1]⟩,.cons hx1 .nil=>
  cases hx1
  have hlt:k < μ.length:=by rw [rel.len]; exact (List.getElem?_eq_some_iff.1 hk).1
  have ham:=rel.obj k _ hk _ (List.getElem?_eq_getElem hlt)
  refine (hc z h0 h1 w (ham w rel.below)).mono ?_
  rintro e w' ⟨rfl,q,os,rfl⟩
  refine ⟨_,μ,.str (Yof z),h,rfl,Ext.refl _,rel.grow ⟨rfl,rfl,rfl,by simp [Go.Sort.grow,World.drewN],fun j hj=>?_⟩,?_,rfl,rfl⟩
  ·simp only [Go.Sort.grow,World.drewN]
   rw [Array.getElem?_append_left hj]
  ·have:=VR.str (μ:=μ) ⟨(Lib.itoa z).toArray⟩
   rw [Yem] at this; exact this
end
end Go.Sim


set_option linter.unusedSimpArgs false
namespace Go.Sim
open Go Go.RowKit

section
variable {P:Program} {h:Zaa}
end
end Go.Sim
