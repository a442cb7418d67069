/- A part of the proof of a statement of this seat: see the text that holds the theorem. No condition. -/
import Derived.Test.YtflfcofeedjblaaGreatSimN
import Derived.IntWalk
import Derived.ChangeArms
import Derived.ChangeSlices
import Derived.Lib.Join
import Derived.Carry
import Derived.Lib.Bytealg
import Derived.Lib.Strings
import Derived.Lib.ItoaNum
import Derived.Lib.LaidTab
import Derived.Sort.Grow
import Derived.Deep.Draws
import Derived.Shelf.SlIter.Nil
set_option linter.unusedVariables false
set_option linter.unusedSimpArgs false
set_option linter.all false
set_option linter.unusedSimpArgs false
namespace Go.Sim
open Go Go.RowKit

def Zng:Code→Nat
 | .region id _ _=>id
 | .seq a _=>Zng a
 | .block _ c=>Zng c
 | .loop c=>Zng c
 | .scope c=>Zng c
 | _=>0
abbrev Zcj:=List (Nat × List Nat)
def Zcj.find:Zcj→Nat→Option (List Nat)
 | [],_=>none
 | (i,ks) :: r,n=>match Nat.beq i n with | true=>some ks | false=>Zcj.find r n
inductive Zet (B:Env→Zaa→(Exit→Env→Zaa→Prop)→Prop) (ks:List Nat) (K:Exit→Env→Zaa→Prop):Env→Zaa→Prop
 | mk {env:Env} {h:Zaa} (R:Exit→Env→Zaa→Prop) (hb:B env h R) (hn:∀ env' h',R .normal env' h'→Zet B ks K (env'.keep ks) h')
   (hx:∀ e env' h',e≠.normal→R e env' h'→K e env' h'):Zet B ks K env h
def Zcs (id:Nat) (K:Exit→Env→Zaa→Prop):Exit→Env→Zaa→Prop
 | .exit id',env,h=>(match Nat.beq id' id with | true=>K .normal env h | false=>K (.exit id') env h)
 | e,env,h=>K e env h
def andThen (next:Env→Zaa→Prop) (K:Exit→Env→Zaa→Prop):Exit→Env→Zaa→Prop
 | .normal,env,h=>next env h
 | e,env,h=>K e env h
structure At (K:Exit→Env→Zaa→Prop) (e:Exit) (env:Env) (h:Zaa):Prop where
 get:K e env h
def left (kp:Zcj) (r:Nat) (K:Exit→Env→Zaa→Prop):Exit→Env→Zaa→Prop
 | .exit id,env,h=>At K (.exit id) (env.keep ((kp.find (3000000 + r)).getD [])) h
 | e,env,h=>K e (env.keep ((kp.find (3000000 + r)).getD [])) h
theorem Ysh {kp:Zcj} {r:Nat} {K:Exit→Env→Zaa→Prop} {e:Exit} {env:Env} {h:Zaa} (hk:left kp r K e env h):K e (env.keep ((kp.find (3000000 + r)).getD [])) h:=by
 cases e <;> first | exact hk.get | exact hk
def LK (P:Program) (base N:Nat) (w0:World) (μ:List Pl) (K:Exit→Env→Zaa→Prop) (e:Exit) (a:Act) (w:World):Prop:=Yoz P base N w0 μ (K e) a w
structure Den (P:Program) (N:Nat) (c:Code) (env:Env) (h:Zaa) (K:Exit→Env→Zaa→Prop):Prop where
 ok:∀ (base:Nat) (w0:World) (μ:List Pl) (a:Act) (w:World),St P base N w0 μ env h a w→c.wp P (LK P base N w0 μ K) a w
def den (P:Program) (N:Nat) (kp:Zcj):Code→Env→Zaa→(Exit→Env→Zaa→Prop)→Prop
 | .skip,env,h,K=>K .normal env h
 | .region id ops draw,env,h,K=>
  (match draw with
  | false=>Yuj P N ops ops.toList env h fun env' h'=>K .normal env' h'
  | true=>chk (P.follows .mixedOrders=true) (chk (Region.noSelect ops=true) (Yft P N ops ((kp.find (2000000 + id)).getD []) (fun env' h'=>K .normal env' h') ops.size (Array.replicate ops.size false) [] env h)))
 | .seq a b,env,h,K=>den P N kp a env h (andThen (fun env' h'=>(match kp.find (4000000 + Zng b) with | some ks=>Den P N b (env'.keep ks) h' K | none=>den P N kp b env' h' K)) K)
 | .cond c a b,env,h,K=>(match ev env c with | .bool t=>bcase t (den P N kp a env h K) (den P N kp b env h K) | _=>False)
 | .block id c,env,h,K=>den P N kp c env h (Zcs id K)
 | .loop c,env,h,K=>Zet (Den P N c) ((kp.find (1000000 + Zng c)).getD []) (left kp (Zng c) K) (env.keep ((kp.find (1000000 + Zng c)).getD [])) h
 | .exit id,env,h,K=>K (.exit id) env h
 | .ret,env,h,K=>K .ret env h
 | _,_,_,_=>False

def rnd (ks:List Nat) (I:Env→Zaa→Prop) (K:Exit→Env→Zaa→Prop):Exit→Env→Zaa→Prop
 | .normal,env,h=>I (env.keep ks) h
 | e,env,h=>K e env h
def Zck (h:Zaa) (K:Zaa→Prop):Prop:=K h
section
variable {P:Program} {base N:Nat} {w0:World} {μ:List Pl} {h:Zaa} {w:World}

theorem Ymd {ops:Array Oper} {hs:List Yax} {K:Env→Zaa→Prop} {Q:Exit→Act→World→Prop}:∀ (f:Nat) {listed:Array Bool} {μ:List Pl} {h:Zaa} {w:World} {env:Env} {a:Act},St P base N w0 μ env h a w →
  Yoy P N ops K hs f listed env h→(∀ a w,Yoz P base N w0 μ K a w→Q .normal a w)→wpAny P .any ops Q f listed a w
 | 0,_,μ,h,w,env,a,s,hk,hq=>⟨hk.1,hq a w ⟨μ,env,h,Ext.refl _,s,hk.2⟩⟩
 | f + 1,listed,μ,h,w,env,a,s,hk,hq=>by
  refine ⟨fun hr=>hq a w ⟨μ,env,h,Ext.refl _,s,hk.1 hr⟩,fun i hi=>?_⟩
  have h1:=hk.2 i hi
  unfold Zwt at h1
  unfold wpOp
  cases ho:ops[i]? with
  | none=>rw [ho] at h1; exact Ymd f s h1.2 hq
  | some o=>
   rw [ho] at h1
   have hstep:=Yle (next:=wpAny P .any ops Q f (listed.setIfInBounds i true)) (Q:=Q) s h1 (fun a' w' ⟨μ',env',h',hx,s',hk'⟩=>Ymd f s' hk'.2 (fun a w ⟨μ2,env2,h2,hx2,s2,k2⟩=>hq a w ⟨μ2,env2,h2,hx.trans hx2,s2,k2⟩))
   simp only
   split
   ·rename_i hw; rw [if_pos hw] at hstep; exact .inl hstep
   ·rename_i hw; rw [if_neg hw] at hstep; exact hstep

theorem Yoz.ext {μ μ':List Pl} (hx:Ext μ μ') {K K':Env→Zaa→Prop} (hk:∀ e h,K e h→K' e h) {a:Act} {w:World} (h:Yoz P base N w0 μ' K a w):Yoz P base N w0 μ K' a w:=
 let ⟨μ2,env,h2,x,s,k⟩:=h
 ⟨μ2,env,h2,hx.trans x,s,hk _ _ k⟩
theorem St.keep {env:Env} {a:Act} (s:St P base N w0 μ env h a w) (ks:List Nat):St P base N w0 μ (env.keep ks) h a w:=⟨s.rel,s.env.keep ks,s.size,s.defers⟩
theorem St.drew {env:Env} {a:Act} (s:St P base N w0 μ env h a w):St P base N w0 μ env h a { w with drawn:=w.drawn + 1 }:=
 ⟨s.rel.grow ⟨rfl,rfl,rfl,Nat.le_refl _,fun _ _=>rfl⟩,s.env,s.size,s.defers⟩

theorem Yrj {c:Code} {B:Env→Zaa→(Exit→Env→Zaa→Prop)→Prop} {ks:List Nat} {K:Exit→Env→Zaa→Prop} {μ0:List Pl}
  (hB:∀ (env:Env) (h:Zaa) (R:Exit→Env→Zaa→Prop) (μ:List Pl) (a:Act) (w:World),B env h R→St P base N w0 μ env h a w→c.wp P (LK P base N w0 μ R) a w) :
  ∀ {env:Env} {h:Zaa},Zet B ks K env h→∀ (μ:List Pl) (a:Act) (w:World),Ext μ0 μ→St P base N w0 μ env h a w→∀ (b:Frame) (k:List Item) (cs:List Frame),
   ∃ e a' w',LK P base N w0 μ0 K e a' w'∧Arrives P (lone (b.at a (.code c :: .inLoop c :: k)) cs w) b k cs e a' w':=by
 intro env h hl
 induction hl with
 | @mk env h R hb hn hx ih=>
  intro μ a w hμ s b k cs
  obtain ⟨e,a1,w1,hq,harr⟩:=hB env h R μ a w hb s b (.inLoop c :: k) cs
  obtain ⟨μ1,env1,h1,hx1,s1,hr⟩:=hq
  have out:e≠.normal→LK P base N w0 μ0 K e a1 w1:=fun hne=>⟨μ1,env1,h1,hμ.trans hx1,s1,hx e env1 h1 hne hr⟩
  cases e with
  | normal=>
   obtain ⟨e2,a2,w2,hq2,harr2⟩:=ih env1 h1 hr μ1 a1 w1 (hμ.trans hx1) (s1.keep ks) b k cs
   exact ⟨e2,a2,w2,hq2,.of_steps (Steps.trans harr (.one step_inLoop)) harr2⟩
  | exit id=>exact ⟨_,a1,w1,out (by simp),.pass (x:=.inLoop c) rfl (fun _ _=>.inl (by simp)) harr⟩
  | goto l=>exact ⟨_,a1,w1,out (by simp),.pass (x:=.inLoop c) rfl (fun _ _=>.inl (by simp)) harr⟩
  | ret=>exact ⟨_,a1,w1,out (by simp),.pass (x:=.inLoop c) rfl (fun _ _=>.inl (by simp)) harr⟩
  | panic ch=>exact ⟨_,a1,w1,out (by simp),.pass (x:=.inLoop c) rfl (fun _ _=>.inl (by simp)) harr⟩
  | outgrown=>exact ⟨_,a1,w1,out (by simp),.pass (x:=.inLoop c) rfl (fun _ _=>.inl (by simp)) harr⟩

theorem Zyc (kp:Zcj):∀ (c:Code) (env:Env) (h:Zaa) (K:Exit→Env→Zaa→Prop) (μ:List Pl) (a:Act) (w:World),den P N kp c env h K→St P base N w0 μ env h a w→c.wp P (LK P base N w0 μ K) a w
 | .skip,env,h,K,μ,a,w,hk,s=>wp_skip ⟨μ,env,h,Ext.refl _,s,hk⟩
 | .region id ops draw,env,h,K,μ,a,w,hk,s=>by
  unfold den at hk
  split at hk
  ·exact wp_region_list (Yqt _ s hk fun a w hp=>hp)
  ·replace hk:=Zcc hk
   obtain ⟨hm,hk⟩:=hk
   replace hk:=Zcc hk
   obtain ⟨_,hk⟩:=hk
   exact wp_region_any hm (Ymd _ s.drew (Zuj _ _ _ _ _ hk) fun a w hp=>by
    obtain ⟨μ',env',h',x,s2,k⟩:=hp
    exact ⟨μ',_,h',x,s2.keep _,k⟩)
 | .seq x y,env,h,K,μ,a,w,hk,s=>by
  unfold den at hk
  refine wp_seq (wp_mono (Zyc kp x env h _ μ a w hk s) fun e a w hp=>?_)
  obtain ⟨μ',env',h',hx,s',k⟩:=hp
  cases e with
  | normal=>
   replace k:(match kp.find (4000000 + Zng y) with | some ks=>Den P N y (env'.keep ks) h' K | none=>den P N kp y env' h' K):=k
   split at k
   ·exact wp_mono (k.ok base w0 μ' a w (s'.keep _)) fun e a w hp=>Yoz.ext hx (fun _ _ k=>k) hp
   ·exact wp_mono (Zyc kp y _ h' K μ' a w k s') fun e a w hp=>Yoz.ext hx (fun _ _ k=>k) hp
  | _=>exact ⟨μ',env',h',hx,s',k⟩
 | .cond c x y,env,h,K,μ,a,w,hk,s=>by
  unfold den at hk
  split at hk
  ·rename_i t ht
   have hv:=Ysu s.env c
   rw [ht] at hv
   have hc:a.eval c=.bool t:=by
    cases hy:a.eval c with
    | bool b=>rw [hy] at hv; cases hv; rfl
    | _=>rw [hy] at hv; cases hv
   refine wp_cond hc ?_
   cases t
   ·exact Zyc kp y env h K μ a w hk s
   ·exact Zyc kp x env h K μ a w hk s
  ·exact hk.elim
 | .block id c,env,h,K,μ,a,w,hk,s=>by
  unfold den at hk
  refine wp_block (wp_mono (Zyc kp c env h _ μ a w hk s) fun e a w hp=>?_)
  obtain ⟨μ',env',h',hx,s',k⟩:=hp
  cases e with
  | exit id'=>
   simp only [Zcs] at k
   simp only [Exit.inBlock]
   cases hb:Nat.beq id' id with
   | true=>rw [hb] at k; rw [if_pos (Nat.eq_of_beq_eq_true hb)]; exact ⟨μ',env',h',hx,s',k⟩
   | false=>rw [hb] at k; rw [if_neg (Nat.ne_of_beq_eq_false hb)]; exact ⟨μ',env',h',hx,s',k⟩
  | _=>exact ⟨μ',env',h',hx,s',k⟩
 | .loop c,env,h,K,μ,a,w,hk,s=>by
  unfold den at hk
  intro b k cs
  obtain ⟨e,a',w',hq,harr⟩:=Yrj (μ0:=μ) (fun env h R μ a w hb s=>hb.ok base w0 μ a w s) hk μ a w (Ext.refl _) (s.keep _) b k cs
  obtain ⟨μ',env',h',hx,s',k⟩:=hq
  exact ⟨e,a',w',⟨μ',_,h',hx,s'.keep _,Ysh k⟩,.of_steps (.one step_loop) harr⟩
 | .exit id,env,h,K,μ,a,w,hk,s=>wp_exit ⟨μ,env,h,Ext.refl _,s,hk⟩
 | .ret,env,h,K,μ,a,w,hk,s=>wp_ret ⟨μ,env,h,Ext.refl _,s,hk⟩
 | .scope c,env,h,K,μ,a,w,hk,s=>by unfold den at hk; exact hk.elim
 | .rangeFunc f ps x y,env,h,K,μ,a,w,hk,s=>by unfold den at hk; exact hk.elim
 | .label l,env,h,K,μ,a,w,hk,s=>by unfold den at hk; exact hk.elim
 | .goto l,env,h,K,μ,a,w,hk,s=>by unfold den at hk; exact hk.elim
 | .refuse y,env,h,K,μ,a,w,hk,s=>by unfold den at hk; exact hk.elim
end

theorem Zba {P:Program} {N:Nat} {kp:Zcj} {c:Code} {env:Env} {h:Zaa} {K:Exit→Env→Zaa→Prop} (hk:den P N kp c env h K):Den P N c env h K:=
 ⟨fun _ _ μ a w s=>Zyc kp c env h K μ a w hk s⟩

def Yre (P:Program) (env:Env) (h:Zaa):List ResultVar→(List Zau→Prop)→Prop
 | [],K=>K []
 | .tmp t :: r,K=>Yre P env h r fun vs=>K (env.get t :: vs)
 | .cell a t :: r,K=>chk ((P.underlying t).isSome=true) (Zwu P t h (env.get a) fun v=>Yre P env h r fun vs=>K (v :: vs))
def Zfb (P:Program) (rs:List ResultVar) (Q:Zau→Zaa→Prop):Exit→Env→Zaa→Prop
 | .normal,env,h=>Yre P env h rs fun vs=>(match vs with | [v]=>Q v h | vs=>Q (.tup vs) h)
 | .ret,env,h=>Yre P env h rs fun vs=>(match vs with | [v]=>Q v h | vs=>Q (.tup vs) h)
 | _,_,_=>False
section
variable {P:Program} {base N:Nat} {w0:World} {μ:List Pl} {h:Zaa} {w:World}
theorem Ygm {env:Env} {a:Act} (s:St P base N w0 μ env h a w):∀ (rs:List ResultVar) {K:List Zau→Prop},Yre P env h rs K →
  ∃ xs vs,(rs.mapM fun (x:ResultVar)=>(match x with | .tmp t=>pure (a.tmps.getD t undef) | .cell b t=>do loadVar t (← asAddr (a.tmps.getD b undef)):Sem Value)).run P w=.ok xs w∧VRs μ vs xs∧K vs
 | [],K,hk=>⟨[],[],by simp,.nil,hk⟩
 | .tmp t :: r,K,hk=>by
  obtain ⟨xs,vs,hr,hv,hk⟩:=Ygm s r hk
  refine ⟨a.tmps.getD t undef :: xs,env.get t :: vs,?_,.cons (s.env t) hv,hk⟩
  rw [List.mapM_cons]
  simp only [Sem.run_bind,Sem.run_pure,Result.andThen_ok,hr]
 | .cell b t :: r,K,hk=>by
  unfold Yre at hk
  replace hk:=Zcc hk
  obtain ⟨hu,hk⟩:=hk
  obtain ⟨y,v,hl,hv,hk⟩:=Ynb s.rel (s.env b) hu hk
  obtain ⟨xs,vs,hr,hvs,hk⟩:=Ygm s r hk
  refine ⟨y :: xs,v :: vs,?_,.cons hv hvs,hk⟩
  rw [List.mapM_cons]
  have hl2:(do loadVar t (← asAddr (a.tmps.getD b undef)):Sem Value).run P w=.ok y w:=by
   unfold Instr.loadAt at hl
   cases hx:a.tmps.getD b undef with
   | pointer p=>
    cases p with
    | none=>rw [hx] at hl; simp [Instr.sureAddr] at hl
    | some q=>rw [hx] at hl; simpa [Instr.sureAddr,asAddr] using hl
   | _=>rw [hx] at hl; simp [Instr.sureAddr] at hl
  simp only [Sem.run_bind] at hl2
  simp only [Sem.run_bind,hl2,Sem.run_pure,Result.andThen_ok,hr]

theorem Yhw:∀ (args:List Zau) (xs:List Value) (i:Nat) (t:Nat),VRs μ args xs→VR μ ((Env.args i args).get t) (((List.replicate i undef) ++ xs)[t]?.getD undef)
 | [],xs,i,t,h=>.undef _
 | v :: r,xs,i,t,h=>by
  cases h with
  | @cons _ x _ ys hv hr=>
  simp only [Env.args,Env.get]
  cases hb:Nat.beq i t with
  | true=>
   have e:=Nat.eq_of_beq_eq_true hb
   subst e
   rw [List.getElem?_append_right (by simp)]
   simpa using hv
  | false=>
   have ne:=Nat.ne_of_beq_eq_false hb
   have ih:=Yhw r ys (i + 1) t hr
   by_cases hlt:t < i
   ·rw [List.getElem?_append_left (by simpa using hlt)]
    rw [List.getElem?_append_left (by simp; omega)] at ih
    simp [hlt,show t < i + 1 by omega] at ih ⊢
    exact ih
   ·rw [List.getElem?_append_right (by simp; omega)] at ih ⊢
    simp only [List.length_replicate] at ih ⊢
    rw [show t - i=(t - (i + 1)) + 1 by omega]
    simpa using ih

theorem Zah.of_body {n : FuncId} {fn : Func} {c : Code} {args : List Zau} {h : Zaa} {Q : Zau → Zaa → Prop} (kp : Zcj) (hf : P.funcs[n]? = some fn) (hb : fn.body = some c) (hname : (fn.name == "runtime.NumGoroutine") = false)
  (hn:args.length≤fn.ntmps) (hd:den P fn.ntmps kp c (Env.args 0 args) h (Zfb P fn.results.toList Q)):Zah P n args h Q:=by
 refine ⟨⟨fn,hf,by rw [hb]; rfl,hname⟩,fun base w0 μ w xs r hx=>?_⟩
 have hl:=hx.length
 simp only [Array.length_toList] at hl
 refine calls_of_wp hf hb ?_
 have s:St P base fn.ntmps w0 μ (Env.args 0 args) h { tmps:=xs ++ Array.replicate (fn.ntmps - xs.size) undef,defers:=[] } w:=by
  refine ⟨r,fun t=>?_,by simp; omega,rfl⟩
  have:=Yhw args xs.toList 0 t hx
  simp only [List.replicate_zero,List.nil_append,Array.getElem?_toList] at this
  simp only [Array.getD_eq_getD_getElem?,Array.getElem?_append,Array.getElem?_replicate]
  by_cases h1:t < xs.size
  ·simp only [h1,if_true]; exact this
  ·rw [Array.getElem?_eq_none (by omega)] at this
   simp only [h1,if_false]
   split <;> simpa using this
 refine wp_mono (Zyc kp c _ h _ μ _ w hd s) fun e a w hp=>?_
 obtain ⟨μ',env',h',hx',s',hk⟩:=hp
 have fin:Yre P env' h' fn.results.toList (fun vs=>(match vs with | [v]=>Q v h' | vs=>Q (.tup vs) h')) →
   a.defers=[]∧∃ v,(results fn a.tmps).run P w=.ok v w∧∃ x μ' v' h',Ending.returned v=.returned x∧Ext μ μ'∧Rel P base w0 μ' h' w∧VR μ' v' x∧Q v' h':=by
  intro hk
  obtain ⟨ys,vs,hr,hv,hk⟩:=Ygm s' _ hk
  refine ⟨s'.defers,(if h:ys.toArray.size=1 then ys.toArray[0] else .tuple ys.toArray),?_,?_⟩
  ·unfold results
   rw [Array.mapM_eq_mapM_toList]
   simp only [Sem.run_bind,Sem.run_map]
   erw [hr]
   simp only [Result.andThen_ok,Sem.run_pure]
  ·have hlen:=hv.length
   match vs,ys,hv,hk with
   | [v],[y],.cons hvy .nil,hk=>exact ⟨y,μ',v,h',by simp,hx',s'.rel,hvy,hk⟩
   | [],[],.nil,hk=>exact ⟨_,μ',.tup [],h',rfl,hx',s'.rel,.tup .nil,hk⟩
   | v :: u :: vs,y :: z :: ys,hv,hk=>exact ⟨.tuple (y :: z :: ys).toArray,μ',.tup (v :: u :: vs),h',by simp,hx',s'.rel,.tup (by simpa using hv),hk⟩
 cases e with
 | normal=>exact fin hk
 | ret=>exact fin hk
 | _=>exact hk.elim
end
end Go.Sim

set_option linter.unusedSimpArgs false
namespace Go.Sim
open Go Go.RowKit

abbrev Pt:=Option (Nat × Nat)
abbrev QT:=Zau→Zaa→Prop
abbrev KT:=Exit→Env→Zaa→Prop
def cod (f:Func):Code:=(f.body).getD .skip
def _root_.Go.Code.sub:Code→List Nat→Code
 | c,[]=>c
 | .seq a _,0 :: p=>a.sub p
 | .seq _ b,_ :: p=>b.sub p
 | .cond _ a _,0 :: p=>a.sub p
 | .cond _ _ b,_ :: p=>b.sub p
 | .block _ c,_ :: p=>c.sub p
 | .loop c,_ :: p=>c.sub p
 | c,_=>c

def Zbw (k:Nat) (env:Env) (K:Zau→Env→Prop):Prop:=match env with | (k',v) :: r=>chk (k'=k) (K v r) | []=>False
def Zkh (env:Env) (K:Prop):Prop:=match env with | []=>K | _=>False
def Zee (k:IntKind) (v:Zau) (K:Int→Prop):Prop:=match v with | .int k' n=>chk (k'=k) (K n) | _=>False
def Yut (v:Zau) (K:Prop):Prop:=match v with | .undef=>K | _=>False
def eFn (f:Nat) (v:Zau) (K:List Zau→Prop):Prop:=match v with | .fn g cs=>chk (g=f) (K cs) | _=>False
def Yuz (v:Zau) (K:Prop):Prop:=match v with | .nilFn=>K | _=>False
def Yvd (v:Zau) (K:Nat→Prop):Prop:=match v with | .iter r=>K r | _=>False
theorem Zak {k:Nat} {env:Env} {K:Zau→Env→Prop} (h:Zbw k env K):∃ v r,env=(k,v) :: r∧K v r:=by
 unfold Zbw at h
 split at h
 ·replace h:=Zcc h; obtain ⟨rfl,h⟩:=h; exact ⟨_,_,rfl,h⟩
 ·exact h.elim
theorem Zbp {env:Env} {K:Prop} (h:Zkh env K):env=[]∧K:=by unfold Zkh at h; split at h; exact ⟨rfl,h⟩; exact h.elim
theorem Zax {k:IntKind} {v:Zau} {K:Int→Prop} (h:Zee k v K):∃ n,v=.int k n∧K n:=by
 unfold Zee at h
 split at h
 ·replace h:=Zcc h; obtain ⟨rfl,h⟩:=h; exact ⟨_,rfl,h⟩
 ·exact h.elim
theorem Zux {f:Nat} {v:Zau} {K:List Zau→Prop} (h:eFn f v K):∃ cs,v=.fn f cs∧K cs:=by
 unfold eFn at h
 split at h
 ·replace h:=Zcc h; obtain ⟨rfl,h⟩:=h; exact ⟨_,rfl,h⟩
 ·exact h.elim
theorem Zlq {v : Zau} {K : Bool → Prop} (h : Zbx (some v) K) : ∃ b, v = .bool b ∧ K b := by unfold Zbx at h; split at h; · rename_i e; cases e; exact ⟨_, rfl, h⟩
                                                                                            · exact h.elim
theorem Zfe {v:Zau} {K:List Nat→Prop} (h:Zbg (some v) K):∃ b,v=.str b∧K b:=by
 unfold Zbg at h; split at h
 ·rename_i e; cases e; exact ⟨_,rfl,h⟩
 ·exact h.elim
theorem Zbt {v:Zau} {K:Option (Nat × Nat)→Prop} (h:Zhh (some v) K):∃ b,v=.ptr b∧K b:=by
 unfold Zhh at h; split at h
 ·rename_i e; cases e; exact ⟨_,rfl,h⟩
 ·exact h.elim
theorem Zby {v:Zau} {K:Option (Nat × Nat)→Nat→Nat→Bool→Prop} (h:xSl (some v) K):∃ a n c e,v=.slice a n c e∧K a n c e:=by
 unfold xSl at h; split at h
 ·rename_i e; cases e; exact ⟨_,_,_,_,rfl,h⟩
 ·exact h.elim
theorem Ydh {v:Zau} {K:Option Nat→Prop} (h:Ymx (some v) K):∃ b,v=.map b∧K b:=by
 unfold Ymx at h; split at h
 ·rename_i e; cases e; exact ⟨_,rfl,h⟩
 ·exact h.elim
theorem Zph {cs:List Zau} {K:Zau→List Zau→Prop} (h:Zaj cs K):∃ c r,cs=c :: r∧K c r:=by unfold Zaj at h; split at h; exact ⟨_,_,rfl,h⟩; exact h.elim
theorem Zsi {cs:List Zau} {K:Prop} (h:Zbv cs K):cs=[]∧K:=by unfold Zbv at h; split at h; exact ⟨rfl,h⟩; exact h.elim

theorem Zet.inv2 {B:Env→Zaa→(Exit→Env→Zaa→Prop)→Prop} {ks:List Nat} {K:Exit→Env→Zaa→Prop} {G:Type} (I N:G→Env→Zaa→Prop) (m:G→Nat)
  (hr:∀ g env h,I g env h→B env h (rnd ks (N g) K)) (hN:∀ g env h,N g env h→∃ g',m g' < m g∧I g' env h) (g:G):∀ {env:Env} {h:Zaa},I g env h→Zet B ks K env h:=by
 induction hn:m g using Nat.strongRecOn generalizing g with
 | _ n ih=>
  intro env h hI
  refine Zet.mk _ (hr g env h hI) ?_ ?_
  ·intro env' h' hk
   obtain ⟨g',hlt,hI'⟩:=hN _ _ _ hk
   exact ih (m g') (hn ▸ hlt) g' rfl hI'
  ·intro e env' h' hne hk
   cases e with
   | normal=>exact absurd rfl hne
   | _=>exact hk
end Go.Sim

set_option linter.unusedSimpArgs false
namespace Go.Sim
open Go Go.RowKit

@[simp] theorem Zap {b:Bool} {K:Bool→Prop}:Zbx (some (.bool b)) K=K b:=rfl
@[simp] theorem Zar {k:IntKind} {n:Int} {K:Int→Prop}:Zdo k (some (.int k n)) K=K n:=by simp [Zdo]
@[simp] theorem Zal {s:List Nat} {K:List Nat→Prop}:Zbg (some (.str s)) K=K s:=rfl
@[simp] theorem Zhr {a:Option (Nat × Nat)} {K:Option (Nat × Nat)→Prop}:Zhh (some (.ptr a)) K=K a:=rfl
@[simp] theorem Zae {a:Option (Nat × Nat)} {n c:Nat} {e:Bool} {K:Option (Nat × Nat)→Nat→Nat→Bool→Prop}:xSl (some (.slice a n c e)) K=K a n c e:=rfl
@[simp] theorem Ytb {a:Option Nat} {K:Option Nat→Prop}:Ymx (some (.map a)) K=K a:=rfl
@[simp] theorem Yty {v:Zau} {K:Zau→Prop}:Yaw (some v) K=K v:=rfl
@[simp] theorem Zaf {c:Zau} {r:List Zau} {K:Zau→List Zau→Prop}:Zaj (c :: r) K=K c r:=rfl
@[simp] theorem Zan {K:Prop}:Zbv [] K=K:=rfl
@[simp] theorem Zaq {cs:List Zau} {K:List Zau→Prop}:Zco (some cs) K=K cs:=rfl
@[simp] theorem Zdc {cs:List Zau} {K:List Zau→Prop}:Znt (.agg cs) K=K cs:=rfl
@[simp] theorem Zct {cs:List Zau} {K:List Zau→Prop}:Zny (.tup cs) K=K cs:=rfl
@[simp] theorem Zav {i o:Nat} {K:Nat→Nat→Prop}:Zbm (some (i,o)) K=K i o:=rfl
@[simp] theorem Zas {h:Zaa} {K:Zaa→Prop}:Zbu (some h) K=K h:=rfl
@[simp] theorem Zaw {h:Zaa} {K:Zaa→Prop}:Zck h K=K h:=rfl
@[simp] theorem Zcn {A B:Prop}:bcase true A B=A:=rfl
@[simp] theorem Zca {A B:Prop}:bcase false A B=B:=rfl
theorem Zat {p:Prop} [Decidable p] {A B:Prop} (ha:p→A) (hb:¬ p→B):bcase (decide p) A B:=by
 by_cases h:p
 ·simp [h]; exact ha h
 ·simp [h]; exact hb h

def strs (l:List (List Nat)):List Zau:=l.map .str
def Yvi (l:List Int):List Zau:=l.map (.int .i64)
@[simp] theorem Yro (l:List (List Nat)):(strs l).length=l.length:=by simp [strs]
@[simp] theorem Yuc:strs []=[]:=rfl
@[simp] theorem Yey (a b:List (List Nat)):strs (a ++ b)=strs a ++ strs b:=by simp [strs]
@[simp] theorem Ytx (l:List (List Nat)):(strs l).all Zau.leaf=true:=by simp [strs,Zau.leaf]
theorem Yhi (l:List (List Nat)) (k:Nat):(strs l)[k]?=l[k]?.map .str:=by simp [strs]

structure Zbc (b:Nat) (h h':Zaa):Prop where
 le:h.length≤h'.length
 eq:∀ i,i < b→h'[i]?=h[i]?
theorem Zbc.refl (b:Nat) (h:Zaa):Zbc b h h:=⟨Nat.le_refl _,fun _ _=>rfl⟩
theorem Zbc.trans {b:Nat} {h h1 h2:Zaa} (x:Zbc b h h1) (y:Zbc b h1 h2):Zbc b h h2:=⟨Nat.le_trans x.le y.le,fun i hi=>(y.eq i hi).trans (x.eq i hi)⟩
theorem Zbc.mono {b b':Nat} {h h':Zaa} (x:Zbc b h h') (hb:b'≤b):Zbc b' h h':=⟨x.le,fun i hi=>x.eq i (by omega)⟩
theorem Zbc.app {b:Nat} {h:Zaa} (hb:b≤h.length) (l:Zaa):Zbc b h (h ++ l):=⟨by simp,fun i hi=>List.getElem?_append_left (by omega)⟩
theorem Zbc.set {b i:Nat} {h:Zaa} (hb:b≤i) (x:Zcd):Zbc b h (h.set i x):=⟨by simp,fun j hj=>by rw [List.getElem?_set_ne (by omega)]⟩

theorem Zbc.cell {b:Nat} {h h':Zaa} (s:Zbc b h h') {i o:Nat} (hi:i < b) {x:Option Zau} (hc:Zag h (.ptr (some (i,o)))=x):Zag h' (.ptr (some (i,o)))=x:=by
 have e:=s.eq i hi
 simp only [Zag] at *
 rw [e]; exact hc

def Row (b:Nat) (h:Zaa) (a:Option (Nat × Nat)) (n:Nat) (cs:List Zau):Prop:=
 cs.length=n∧(n=0 ∨ ∃ i o t all ro,a=some (i,o)∧i < b∧h[i]?=some (.cells t all ro)∧o + n≤all.length∧cs=(all.drop o).take n)
theorem Row.nil {b:Nat} {h:Zaa} {a:Option (Nat × Nat)}:Row b h a 0 []:=⟨rfl,.inl rfl⟩
theorem Row.same {b:Nat} {h h':Zaa} {a:Option (Nat × Nat)} {n:Nat} {cs:List Zau} (r:Row b h a n cs) (s:Zbc b h h'):Row b h' a n cs:=by
 obtain ⟨hl,r⟩:=r
 refine ⟨hl,r.imp id ?_⟩
 rintro ⟨i,o,t,all,ro,ha,hb,hi,hle,hcs⟩
 exact ⟨i,o,t,all,ro,ha,hb,by rw [s.eq i hb]; exact hi,hle,hcs⟩
theorem Row.mono {b b':Nat} {h:Zaa} {a:Option (Nat × Nat)} {n:Nat} {cs:List Zau} (r:Row b h a n cs) (hb:b≤b'):Row b' h a n cs:=by
 obtain ⟨hl,r⟩:=r
 refine ⟨hl,r.imp id ?_⟩
 rintro ⟨i,o,t,all,ro,ha,hi,x⟩
 exact ⟨i,o,t,all,ro,ha,by omega,x⟩
theorem Row.rowOf {b:Nat} {h:Zaa} {a:Option (Nat × Nat)} {n:Nat} {cs:List Zau} (r:Row b h a n cs):rowOf h a n=some cs:=by
 obtain ⟨hl,r⟩:=r
 rcases r with h0 | ⟨i,o,t,all,ro,rfl,hb,hi,hle,hcs⟩
 ·subst h0
  have:cs=[]:=List.eq_nil_of_length_eq_zero hl
  subst this
  unfold Sim.rowOf; cases a <;> simp
 ·unfold Sim.rowOf
  by_cases h0:n=0
  ·subst h0; simp at hcs; simp [hcs]
  ·simp [h0,Zbj,hi,hle,hcs]
theorem Row.at {b:Nat} {h:Zaa} {a:Option (Nat × Nat)} {n:Nat} {cs:List Zau} (r:Row b h a n cs) {k:Nat} (hk:k < n):∃ i o,a=some (i,o)∧i < b∧Zag h (.ptr (some (i,o + k)))=cs[k]?:=by
 obtain ⟨hl,r⟩:=r
 rcases r with h0 | ⟨i,o,t,all,ro,rfl,hb,hi,hle,hcs⟩
 ·omega
 ·refine ⟨i,o,rfl,hb,?_⟩
  simp [Zag,hi,hcs,List.getElem?_take,hk]

def Own (b:Nat) (h:Zaa) (a:Option (Nat × Nat)) (t:TypeId) (cs:List Zau):Prop:=∃ i,a=some (i,0)∧b≤i∧h[i]?=some (.cells t cs false)
theorem Own.lt {h:Zaa} {i:Nat} {x:Zcd} (hi:h[i]?=some x):i < h.length:=(List.getElem?_eq_some_iff.1 hi).1
theorem Own.row {b:Nat} {h:Zaa} {a:Option (Nat × Nat)} {t:TypeId} {cs:List Zau} (r:Own b h a t cs):Row h.length h a cs.length cs:=by
 obtain ⟨i,rfl,hb,hi⟩:=r
 exact ⟨rfl,.inr ⟨i,0,t,cs,false,rfl,Own.lt hi,hi,by omega,by simp⟩⟩
theorem Own.last {h:Zaa} {t:TypeId} {cs:List Zau} {b:Nat} (hb:b≤h.length):Own b (h ++ [.cells t cs false]) (some (h.length,0)) t cs:=⟨h.length,rfl,hb,by simp⟩
theorem Own.same {b b':Nat} {h h':Zaa} {a:Option (Nat × Nat)} {t:TypeId} {cs:List Zau} (r:Own b h a t cs) (s:Zbc b' h h') (hb:h.length≤b'):Own b h' a t cs:=by
 obtain ⟨i,rfl,hi,hg⟩:=r
 exact ⟨i,rfl,hi,by rw [s.eq i (by have:=Own.lt hg; omega)]; exact hg⟩
theorem Own.mono {b b':Nat} {h:Zaa} {a:Option (Nat × Nat)} {t:TypeId} {cs:List Zau} (r:Own b h a t cs) (hb:b'≤b):Own b' h a t cs:=by
 obtain ⟨i,rfl,hi,hg⟩:=r
 exact ⟨i,rfl,by omega,hg⟩

def Zyx (b:Nat) (h:Zaa) (a:Option (Nat × Nat)) (n:Nat) (t:TypeId) (cs:List Zau):Prop:=cs.length=n∧(n=0 ∨ Own b h a t cs)
theorem Zyx.row {b:Nat} {h:Zaa} {a:Option (Nat × Nat)} {n:Nat} {t:TypeId} {cs:List Zau} (r:Zyx b h a n t cs):Row h.length h a n cs:=by
 obtain ⟨hl,r⟩:=r
 rcases r with h0 | r
 ·exact ⟨hl,.inl h0⟩
 ·rw [← hl]; exact r.row
theorem Zyx.same {b b':Nat} {h h':Zaa} {a:Option (Nat × Nat)} {n:Nat} {t:TypeId} {cs:List Zau} (r:Zyx b h a n t cs) (s:Zbc b' h h') (hb:h.length≤b'):Zyx b h' a n t cs:=⟨r.1,r.2.imp id fun x=>x.same s hb⟩
theorem Zyx.mono {b b':Nat} {h:Zaa} {a:Option (Nat × Nat)} {n:Nat} {t:TypeId} {cs:List Zau} (r:Zyx b h a n t cs) (hb:b'≤b):Zyx b' h a n t cs:=⟨r.1,r.2.imp id fun x=>x.mono hb⟩

theorem Yfn {P:Program} {t ty:TypeId} {h:Zaa} {b i n c:Nat} {e:Bool} {xa:Option (Nat × Nat)} {m c':Nat} {e':Bool} {cs new:List Zau} {K:Zau→Zaa→Prop}
  (hu:P.underlying t=some (.slice ty)) (hc:P.cellsOf ty=1) (hok:P.okElem ty=true) (hby:P.bytesOf ty≤64) (hn:cs.length=n) (hi:h[i]?=some (.cells ty cs false)) (hb:b≤i) (hx:rowOf h xa m=some new) (hl:new.all Zau.leaf=true)
  (hle:n + m≤1099511627776) (hk:∀ h',h'=h.set i .dead ++ [.cells ty (cs ++ new) false]→Zbc b h h'→Own b h' (some (h.length,0)) ty (cs ++ new)→K (.slice (some (h.length,0)) (n + m) (n + m) false) h') :
  Zcz P t h (.slice (some (i,0)) n c e) (.slice xa m c' e') K:=by
 have hlt:=Own.lt hi
 unfold Zcz
 simp only [hu,hc,Nat.mul_one,hx,Zaq]
 refine ⟨⟨hok,?_,hl⟩,.inl ⟨trivial,?_⟩⟩
 ·have:(n + m) * (P.bytesOf ty + 1)≤(n + m) * 65:=Nat.mul_le_mul_left _ (by omega)
  omega
 ·simp only [Zrs,hi,true_and]
  refine ⟨hn,hk _ rfl ?_ ?_⟩
  ·refine (Zbc.set hb .dead).trans (Zbc.app (by simp; omega) _)
  ·refine ⟨h.length,rfl,by omega,by simp⟩
end Go.Sim

set_option linter.unusedSimpArgs false
namespace Go.Sim
open Go Go.RowKit

structure Zdu (i:Nat) (h h':Zaa):Prop where
 le:h.length≤h'.length
 eq:∀ j,j < h.length→j≠i→h'[j]?=h[j]?
theorem Zdu.refl (i:Nat) (h:Zaa):Zdu i h h:=⟨Nat.le_refl _,fun _ _ _=>rfl⟩
theorem Zdu.same {i b:Nat} {h h':Zaa} (k:Zdu i h h') (hb:b≤i) (hl:b≤h.length):Zbc b h h':=⟨k.le,fun j hj=>k.eq j (by omega) (by omega)⟩
theorem Row.keep {b i:Nat} {h h':Zaa} {a:Pt} {n:Nat} {cs:List Zau} (r:Row b h a n cs) (ha:n≠0→∀ j o,a=some (j,o)→j≠i) (k:Zdu i h h'):Row b h' a n cs:=by
 obtain ⟨hl,r⟩:=r
 by_cases h0:n=0
 ·exact ⟨hl,.inl h0⟩
 replace ha:=ha h0
 refine ⟨hl,r.imp id ?_⟩
 rintro ⟨j,o,t,all,ro,ha',hb,hi,hle,hcs⟩
 exact ⟨j,o,t,all,ro,ha',hb,by rw [k.eq j (Own.lt hi) (ha _ _ ha')]; exact hi,hle,hcs⟩

theorem Zyx.apart {b i:Nat} {h:Zaa} {a:Pt} {n:Nat} {t:TypeId} {cs:List Zau} (f:Zyx b h a n t cs) (hi:i < b):n≠0→∀ j o,a=some (j,o)→j≠i:=by
 intro h0 j o hj
 obtain ⟨_,h1 | ⟨k,hk,hb,_⟩⟩:=f
 ·exact absurd h1 h0
 ·rw [hj] at hk; cases hk; omega
def Out (t:TypeId) (h0:Zaa) (i0:Nat) (h:Zaa) (a:Pt) (n:Nat) (cs:List Zau):Prop:=
 ∃ i,a=some (i,0)∧(i=i0 ∨ h0.length≤i)∧h[i]?=some (.cells t cs false)∧cs.length=n∧Zdu i0 h0 h
theorem Out.refl {t:TypeId} {h:Zaa} {i:Nat} {cs:List Zau} (hi:h[i]?=some (.cells t cs false)):Out t h i h (some (i,0)) cs.length cs:=⟨i,rfl,.inl rfl,hi,rfl,Zdu.refl _ _⟩
theorem Out.new {t:TypeId} {h:Zaa} {cs:List Zau}:Out t (h ++ [.cells t cs false]) h.length (h ++ [.cells t cs false]) (some (h.length,0)) cs.length cs:=Out.refl (by simp)
theorem Out.call {t:TypeId} {h0 h h':Zaa} {i0:Nat} {a:Pt} {n:Nat} {cs:List Zau} (x:Out t h0 i0 h a n cs) (s:Zbc h.length h h'):Out t h0 i0 h' a n cs:=by
 obtain ⟨i,ha,hi,hg,hn,k⟩:=x
 exact ⟨i,ha,hi,by rw [s.eq i (Own.lt hg)]; exact hg,hn,⟨Nat.le_trans k.le s.le,fun j hj hne=>by rw [s.eq j (by have:=k.le; omega)]; exact k.eq j hj hne⟩⟩
theorem Out.id {t:TypeId} {h0 h:Zaa} {i0:Nat} {a:Pt} {n:Nat} {cs:List Zau} (x:Out t h0 i0 h a n cs):∃ i,a=some (i,0)∧i < h.length∧h[i]?=some (.cells t cs false):=by
 obtain ⟨i,ha,hi,hg,hn,k⟩:=x
 exact ⟨i,ha,Own.lt hg,hg⟩
theorem Out.trans {t:TypeId} {h0 h h':Zaa} {i0 i:Nat} {a a':Pt} {n n':Nat} {cs cs':List Zau} (x:Out t h0 i0 h a n cs) (ha:a=some (i,0)) (y:Out t h i h' a' n' cs'):Out t h0 i0 h' a' n' cs':=by
 obtain ⟨j,hj,hi,hg,hn,k⟩:=x
 rw [ha] at hj
 cases hj
 obtain ⟨i',ha',hi',hg',hn',k'⟩:=y
 have hlt:=Own.lt hg
 refine ⟨i',ha',?_,hg',hn',⟨Nat.le_trans k.le k'.le,fun j hj hne=>?_⟩⟩
 ·have:=k.le
  rcases hi' with rfl | hi'
  ·exact hi
  ·right; omega
 ·have:=k.le
  rw [k'.eq j (by omega) (by rcases hi with rfl | hi; exact hne; omega)]
  exact k.eq j hj hne
theorem Out.keep {t:TypeId} {h0 h:Zaa} {i0:Nat} {a:Pt} {n:Nat} {cs:List Zau} (x:Out t h0 i0 h a n cs):Zdu i0 h0 h:=x.choose_spec.2.2.2.2
theorem Out.len {t:TypeId} {h0 h:Zaa} {i0:Nat} {a:Pt} {n:Nat} {cs:List Zau} (x:Out t h0 i0 h a n cs):cs.length=n:=x.choose_spec.2.2.2.1
theorem Out.fresh {t:TypeId} {h0 h:Zaa} {i0 b:Nat} {a:Pt} {n:Nat} {cs:List Zau} (x:Out t h0 i0 h a n cs) (hb:b≤i0) (hl:b≤h0.length):Zyx b h a n t cs:=by
 obtain ⟨i,ha,hi,hg,hn,k⟩:=x
 exact ⟨hn,.inr ⟨i,ha,by omega,hg⟩⟩
theorem Out.append {P:Program} {t ty:TypeId} {h0 h:Zaa} {i0 n c:Nat} {a:Pt} {e:Bool} {xa:Pt} {m c':Nat} {e':Bool} {cs new:List Zau} {K:Zau→Zaa→Prop} (x:Out ty h0 i0 h a n cs)
  (hu:P.underlying t=some (.slice ty)) (hc:P.cellsOf ty=1) (hok:P.okElem ty=true) (hby:P.bytesOf ty≤64) (hx:rowOf h xa m=some new) (hl:new.all Zau.leaf=true)
  (hle:n + m≤1099511627776) (hk:∀ a' n' h',Out ty h0 i0 h' a' n' (cs ++ new)→K (.slice a' n' n' false) h'):Zcz P t h (.slice a n c e) (.slice xa m c' e') K:=by
 obtain ⟨i,rfl,hi,hg,hn,k⟩:=x
 refine Yfn (b:=0) hu hc hok hby hn hg (by omega) hx hl hle fun h' hh _ _=>hk _ _ h' ⟨h.length,rfl,.inr k.le,by rw [hh]; simp,?_,⟨?_,fun j hj hne=>?_⟩⟩
 ·have:new.length=m:=by
   unfold rowOf at hx
   split at hx
   ·split at hx
    ·cases hx; simp_all
    ·cases hx
   ·split at hx
    ·cases hx; simp_all
    ·unfold Zbj at hx
     split at hx
     ·split at hx
      ·split at hx
       ·cases hx; simp; omega
       ·cases hx
      ·cases hx
     ·cases hx
  simp; omega
 ·rw [hh]; have:=k.le; simp; omega
 ·have:=k.le
  rw [hh,List.getElem?_append_left (by simp; omega),List.getElem?_set_ne (by omega)]
  exact k.eq j hj hne
theorem Out.push {P:Program} {t ty:TypeId} {h0 h:Zaa} {i0 n c:Nat} {a:Pt} {e:Bool} {cs:List Zau} {v:Zau} {K:Zau→Zaa→Prop} (x:Out ty h0 i0 h a n cs)
  (hu:P.underlying t=some (.slice ty)) (hc:P.cellsOf ty=1) (hok:P.okElem ty=true) (hby:P.bytesOf ty≤64) (hl:v.leaf=true)
  (hle:n + 1≤1099511627776) (hk:∀ a' n' h',Out ty h0 i0 h' a' n' (cs ++ [v])→K (.slice a' n' n' false) h'):Zcz P t (h ++ [.cells ty [v] false]) (.slice a n c e) (.slice (some (h.length,0)) 1 1 true) K:=
 (x.call (Zbc.app (Nat.le_refl _) _)).append hu hc hok hby (new:=[v]) (Own.row (b:=0) (t:=ty) (cs:=[v]) ⟨h.length,rfl,by omega,by simp⟩).rowOf (show List.all [v] Zau.leaf=true by rw [List.all_cons,hl]; rfl) hle hk
theorem Row.str {b:Nat} {h:Zaa} {a:Pt} {n:Nat} {l:List (List Nat)} (r:Row b h a n (strs l)) {k:Nat} (hk:k < n):∃ i o,∃ hk':k < l.length,a=some (i,o)∧i < b∧Zag h (.ptr (some (i,o + k)))=some (.str l[k]):=by
 have hl:l.length=n:=by simpa using r.1
 obtain ⟨i,o,ha,hi,hc⟩:=r.at hk
 exact ⟨i,o,by omega,ha,hi,by rw [hc,Yhi,List.getElem?_eq_getElem (by omega)]; rfl⟩

end Go.Sim

set_option linter.unusedSimpArgs false
namespace Go.Sim
open Go Go.RowKit

inductive Dt where
 | int (k:IntKind) (n:Int)
 | bool (b:Bool)
 | str (s:List Nat)
 | sl (ds:List Dt)
 | st (ds:List Dt)
 deriving Inhabited

def Yoq (P:Program):Nat→List Field→Nat→Bool
 | o,[],n=>Nat.beq o n
 | o,f :: r,n=>Nat.beq f.offset o && Yoq P (o + P.cellsOf f.type) r n
def okT (P:Program):Nat→TypeId→Bool
 | 0,_=>false
 | n + 1,t=>match P.underlying t with
  | some .bool=>Nat.beq (P.cellsOf t) 1
  | some (.int _)=>Nat.beq (P.cellsOf t) 1
  | some .string=>Nat.beq (P.cellsOf t) 1
  | some (.slice e)=>Nat.beq (P.cellsOf t) 1 && Nat.ble 1 (P.cellsOf e) && okT P n e
  | some (.struct fs)=>Yoq P 0 fs.toList (P.cellsOf t) && fs.toList.all fun f=>okT P n f.type
  | _=>false

def rd (P:Program) (h:Zaa):Nat→TypeId→List Zau→Dt→Prop
 | 0,_,_,_=>False
 | f + 1,t,cs,d=>match P.underlying t with
  | some .bool=>∃ b,cs=[.bool b]∧d=.bool b
  | some (.int k)=>∃ n,cs=[.int k n]∧d=.int k n∧(Lit.int k n).wf=true
  | some .string=>∃ s,cs=[.str s]∧d=.str s∧s.length≤9223372036854775807∧∀ b∈s,b < 256
  | some (.slice e)=>∃ (a:Pt) (n c:Nat) (ex:Bool) (ds:List Dt) (vs:List (List Zau)),cs=[.slice a n c ex]∧d=.sl ds∧ds.length=n∧n≤9223372036854775807∧vs.length=n∧Row h.length h a (n * P.cellsOf e) vs.flatten ∧
    ∀ (i:Nat) (v:List Zau) (x:Dt),vs[i]?=some v→ds[i]?=some x→v.length=P.cellsOf e∧rd P h f e v x
  | some (.struct fs)=>∃ (ds:List Dt) (vs:List (List Zau)),d=.st ds∧ds.length=fs.size∧vs.length=fs.size∧cs=vs.flatten ∧
    ∀ (i:Nat) (fd:Field) (v:List Zau) (x:Dt),fs[i]?=some fd→vs[i]?=some v→ds[i]?=some x→v.length=P.cellsOf fd.type∧rd P h f fd.type v x
  | _=>False
theorem rd_same {P:Program} {h h':Zaa} (s:Zbc h.length h h'):∀ (f:Nat) {t:TypeId} {cs:List Zau} {d:Dt},rd P h f t cs d→rd P h' f t cs d
 | 0,_,_,_,hr=>hr.elim
 | f + 1,t,cs,d,hr=>by
  unfold rd at *
  split at hr
  ·exact hr
  ·exact hr
  ·exact hr
  ·obtain ⟨a,n,c,ex,ds,vs,h1,h2,h3,h4,h5,h6,h7⟩:=hr
   exact ⟨a,n,c,ex,ds,vs,h1,h2,h3,h4,h5,(h6.same s).mono s.le,fun i v x hv hx=>⟨(h7 i v x hv hx).1,rd_same s f (h7 i v x hv hx).2⟩⟩
  ·obtain ⟨ds,vs,h1,h2,h3,h4,h5⟩:=hr
   exact ⟨ds,vs,h1,h2,h3,h4,fun i fd v x hf hv hx=>⟨(h5 i fd v x hf hv hx).1,rd_same s f (h5 i fd v x hf hv hx).2⟩⟩
  ·exact hr

section
variable {H:Type} {enc:TypeId × Value→H} {P:Program} {w:World} {spare:Nat→Bool} {held:Bool} {base:Nat} {w0:World}

def Got (P:Program) (base:Nat) (w0:World) (w:World) (μ:List Pl) (h:Zaa) (F:List Pl→Zaa→Prop):Prop:=
 ∃ μ' h',Ext μ μ'∧Zbc h.length h h'∧Rel P base w0 μ' h' w∧F μ' h'

theorem Ybm (s:ByteArray):∀ b∈bytesOf s,b < 256:=by
 intro b hb
 simp only [bytesOf,List.mem_map] at hb
 obtain ⟨x,_,rfl⟩:=hb
 exact x.toNat_lt

theorem Ybh {α:Type} (F:α→List Value→Dt→List Zau→Zaa→Prop) (hF:∀ x y d vs h h',Zbc h.length h h'→F x y d vs h→F x y d vs h') (rdv:α→List Value) :
  ∀ (l:List α),(∀ x∈l,∀ (μ:List Pl) (h:Zaa),Rel P base w0 μ h w→Got P base w0 w μ h fun μ' h'=>∃ vs d,VRs μ' vs (rdv x)∧F x (rdv x) d vs h')→∀ (μ:List Pl) (h:Zaa),Rel P base w0 μ h w →
   Got P base w0 w μ h fun μ' h'=>∃ (vss:List (List Zau)) (ds:List Dt),vss.length=l.length∧ds.length=l.length∧VRs μ' vss.flatten ((l.map rdv).flatten) ∧
   ∀ (i:Nat) (x:α) (v:List Zau) (d:Dt),l[i]?=some x→vss[i]?=some v→ds[i]?=some d→VRs μ' v (rdv x)∧F x (rdv x) d v h'
 | [],_,μ,h,r=>⟨μ,h,Ext.refl _,Zbc.refl _ _,r,[],[],rfl,rfl,.nil,by simp⟩
 | x :: l,step,μ,h,r=>by
  obtain ⟨μ1,h1,e1,s1,r1,v,d,hv,hd⟩:=step x (by simp) μ h r
  obtain ⟨μ2,h2,e2,s2,r2,vss,ds,hl1,hl2,hvs,hall⟩:=Ybh F hF rdv l (fun y hy=>step y (by simp [hy])) μ1 h1 r1
  refine ⟨μ2,h2,e1.trans e2,s1.trans (s2.mono s1.le),r2,v :: vss,d :: ds,by simp [hl1],by simp [hl2],?_,?_⟩
  ·simpa using (hv.ext e2).append hvs
  ·intro i y v' d' hy hv' hd'
   cases i with
   | zero=>simp at hy hv' hd'; subst hy; subst hv'; subst hd'; exact ⟨hv.ext e2,hF _ _ _ _ _ _ s2 hd⟩
   | succ i=>simp at hy hv' hd'; exact hall i y v' d' hy hv' hd'

theorem Rel.ro {μ:List Pl} {h:Zaa} (r:Rel P base w0 μ h w) {b o:Nat} {t:TypeId} {cs:List Zau} {C:Array Value} {el:TypeId} {fr:Nat × Nat} (hb:w.heap[b]?=some (.cells C el fr)) (hlt:b < base) (hv:VRs μ cs ((C.toList.drop o).take cs.length)) :
  Rel P base w0 (μ ++ [⟨b,o,false,0,0⟩]) (h ++ [.cells t cs true]) w:=by
 refine ⟨r.below,by simp [r.len],?_,?_,r.size⟩
 ·intro i ob hi e' he'
  by_cases hl:i < h.length
  ·rw [List.getElem?_append_left hl] at hi
   rw [List.getElem?_append_left (by rw [r.len]; exact hl)] at he'
   exact (r.obj i ob hi e' he').keep (Ext.app _ _) fun x hx=>hx
  ·rw [List.getElem?_append_right (by omega)] at hi
   rw [List.getElem?_append_right (by rw [r.len]; omega)] at he'
   have hz:i - h.length=0:=by
    have:=(List.getElem?_eq_some_iff.1 hi).1; simp at this; omega
   rw [hz] at hi
   rw [r.len,hz] at he'
   simp at hi he'; subst hi; subst he'
   exact ⟨C,el,fr,hb,hv.ext (Ext.app _ _),by simp; exact hlt⟩
 ·intro i j oi oj ei ej hij hi hj hoi hoj hei hej
  have key:∀ (i:Nat) (oi:Zcd),(h ++ [Zcd.cells t cs true])[i]?=some oi→oi.own=true→i < h.length:=by
   intro i oi hi ho
   by_cases hl:i < h.length
   ·exact hl
   ·rw [List.getElem?_append_right (by omega)] at hi
    have hz:i - h.length=0:=by
     have:=(List.getElem?_eq_some_iff.1 hi).1; simp at this; omega
    rw [hz] at hi; simp at hi; subst hi; simp [Zcd.own] at ho
  have hli:=key i oi hi hoi
  have hlj:=key j oj hj hoj
  rw [List.getElem?_append_left hli] at hi
  rw [List.getElem?_append_left hlj] at hj
  rw [List.getElem?_append_left (by rw [r.len]; exact hli)] at hei
  rw [List.getElem?_append_left (by rw [r.len]; exact hlj)] at hej
  exact r.sep i j oi oj ei ej hij hi hj hoi hoj hei hej

theorem Ycw {β:Type} (C:List β) (o z:Nat) (f:Nat→List β):∀ n,(∀ i,i < n→f i=(C.drop (o + i * z)).take z∧(f i).length=z)→((List.range n).map f).flatten=(C.drop o).take (n * z)∧(((List.range n).map f).flatten).length=n * z
 | 0,_=>by simp
 | n + 1,h=>by
  obtain ⟨ih,il⟩:=Ycw C o z f n fun i hi=>h i (by omega)
  obtain ⟨h1,h2⟩:=h n (by omega)
  rw [List.range_succ,List.map_append,List.flatten_append]
  constructor
  ·rw [ih,Nat.succ_mul,List.take_add]
   congr 1
   simp only [List.map_cons,List.map_nil,List.flatten_cons,List.flatten_nil,List.append_nil,h1,List.drop_drop]
  ·rw [List.length_append,il,Nat.succ_mul]; simp [h2]
theorem Zwd {β:Type} (z:Nat):∀ (l:List (List β)) (n:Nat),(∀ x∈l,x.length=z)→(l.take n).flatten=l.flatten.take (n * z)
 | [],n,_=>by simp
 | x :: l,0,_=>by simp
 | x :: l,n + 1,h=>by
  have hx:=h x (by simp)
  rw [List.take_succ_cons,List.flatten_cons,List.flatten_cons,Zwd z l n fun y hy=>h y (by simp [hy]),Nat.succ_mul,Nat.add_comm,List.take_append,hx,List.take_of_length_le (l:=x) (by omega)]
  congr 2; omega
theorem Zzg {β:Type} (z:Nat):∀ (l:List (List β)),(∀ x∈l,x.length=z)→l.flatten.length=l.length * z
 | [],_=>by simp
 | x :: l,h=>by
  rw [List.flatten_cons,List.length_append,h x (by simp),Zzg z l fun y hy=>h y (by simp [hy]),List.length_cons,Nat.succ_mul]; omega

theorem Ztn {a:Addr} {n:Nat} {cs:List Value} (h:w.cells? 0 a n=some cs) (hn:0 < n):a.spot=none∧∃ C el fr,w.heap[a.block]?=some (.cells C el fr)∧cs.length=n∧cs=(C.toList.drop a.off).take n:=by
 obtain ⟨_,hl,hc⟩:=World.cells?_some h
 have h0:=hc 0 hn
 have hcs:∃ v,cs[0]?=some v:=⟨cs[0]'(by omega),List.getElem?_eq_getElem (by omega)⟩
 obtain ⟨v,hv⟩:=hcs
 rw [hv] at h0
 have ha0:a.add 0=a:=by simp [Addr.add]
 rw [ha0] at h0
 unfold World.cell? at h0
 split at h0
 ·rename_i C el fr hb
  split at h0
  ·cases h0
  ·rename_i hsp
   refine ⟨by simpa using hsp,C,el,fr,hb,hl,?_⟩
   apply List.ext_getElem?
   intro i
   by_cases hi:i < n
   ·rw [← hc i hi]
    have:w.cell? (a.add i)=C[a.off + i]?:=by
     unfold Addr.add
     split
     ·rename_i e; subst e; simp [World.cell?,hb,hsp]
     ·simp [World.cell?,hb]
    rw [this]; simp [List.getElem?_take,hi]
   ·rw [List.getElem?_eq_none (by omega),List.getElem?_eq_none (by simp; omega)]
 ·cases h0

theorem Yah (cs:List Value):∀ (fs:List Field) (o:Nat),Yoq P o fs cs.length=true→(fs.map fun f=>(cs.drop f.offset).take (P.cellsOf f.type)).flatten=cs.drop o
 | [],o,h=>by
  have:=Nat.eq_of_beq_eq_true h
  subst this; simp
 | f :: fs,o,h=>by
  simp only [Yoq,Bool.and_eq_true] at h
  have ho:=Nat.eq_of_beq_eq_true h.1
  rw [List.map_cons,List.flatten_cons,Yah cs fs _ h.2,ho,← List.drop_drop,List.take_append_drop]

theorem imp (hbase:w.heap.size≤base) (hsp:∀ b,spare b=true):∀ (N fuel:Nat) {t:TypeId} {cs:List Value} {x:DataW H × List MemPlace},okT P N t=true→DataW.trod enc P w 0 spare held fuel t cs=some x →
  ∀ (μ:List Pl) (h:Zaa),Rel P base w0 μ h w→cs.length=P.cellsOf t∧Got P base w0 w μ h fun μ' h'=>∃ vs d,VRs μ' vs cs∧rd P h' N t vs d
 | 0,_,_,_,_,hok,_,_,_,_=>by simp [okT] at hok
 | N + 1,fuel,t,cs,x,hok,htr,μ,h,r=>by
  unfold okT at hok
  cases hu:P.underlying t with
  | none=>rw [hu] at hok; simp at hok
  | some td=>
  rw [hu] at hok
  cases td <;> simp only at hok <;> try (simp at hok; done)
  case bool=>
   obtain ⟨b,rfl,_⟩:=DataW.trod_bool hu htr
   exact ⟨by simpa using (Nat.eq_of_beq_eq_true hok).symm,μ,h,Ext.refl _,Zbc.refl _ _,r,_,.bool b,.cons (.bool b) .nil,by simp [rd,hu]⟩
  case int k=>
   obtain ⟨n,rfl,_,hwf⟩:=DataW.trod_int hu htr
   exact ⟨by simpa using (Nat.eq_of_beq_eq_true hok).symm,μ,h,Ext.refl _,Zbc.refl _ _,r,_,.int k n,.cons (.int k n) .nil,by simp [rd,hu,hwf]⟩
  case string=>
   obtain ⟨s,rfl,_,hs⟩:=DataW.trod_string hu htr
   refine ⟨by simpa using (Nat.eq_of_beq_eq_true hok).symm,μ,h,Ext.refl _,Zbc.refl _ _,r,_,.str (bytesOf s),.cons (.str s) .nil,?_⟩
   simp only [rd,hu]
   exact ⟨_,rfl,rfl,by rw [Zen]; simpa [maxLen] using hs,Ybm s⟩
  case slice e=>
   simp only [Bool.and_eq_true] at hok
   obtain ⟨⟨h1,hz⟩,hoke⟩:=hok
   have hz:1≤P.cellsOf e:=by simpa using hz
   rcases DataW.trod_slice hu htr with ⟨rfl,_⟩ | ⟨a,len,cap,elems,rest,n,_,rfl,_,hb,hl,hm,hlen,hel,hsr,_⟩
   ·refine ⟨by simpa using (Nat.eq_of_beq_eq_true h1).symm,μ,h,Ext.refl _,Zbc.refl _ _,r,_,.sl [],.cons .slice0 .nil,?_⟩
    simp only [rd,hu]
    exact ⟨_,_,_,_,[],[],rfl,rfl,rfl,by omega,rfl,by simpa using Row.nil,by simp⟩
   ·refine ⟨by simpa using (Nat.eq_of_beq_eq_true h1).symm,?_⟩
    obtain ⟨hrl,hre⟩:=hsr (hsp _)
    have hmx:cap≤9223372036854775807:=by simpa [maxLen] using hm
    by_cases hc0:cap=0
    ·subst hc0
     have:len=0:=by omega
     subst this
     refine ⟨μ,h,Ext.refl _,Zbc.refl _ _,r,_,.sl [],.cons (.sliceE0 (a:=some a)) .nil,?_⟩
     simp only [rd,hu]
     exact ⟨_,_,_,_,[],[],rfl,rfl,rfl,by omega,rfl,by simpa using Row.nil,by simp⟩
    ·-- the cells of each element
     have each:∀ i,i < cap→∃ cs y,w.cells? 0 (a.add (i * P.cellsOf e)) (P.cellsOf e)=some cs∧DataW.trod enc P w 0 spare held n e cs=some y:=by
      intro i hi
      have:∃ y,(w.cells? 0 (a.add (i * P.cellsOf e)) (P.cellsOf e)).bind (DataW.trod enc P w 0 spare held n e)=some y:=by
       by_cases hil:i < len
       ·exact ⟨elems[i]'(by omega),by rw [hel i hil,List.getElem?_eq_getElem]⟩
       ·have:=hre (i - len) (by omega)
        rw [show len + (i - len)=i by omega] at this
        exact ⟨rest[i - len]'(by omega),by rw [this,List.getElem?_eq_getElem]⟩
      obtain ⟨y,hy⟩:=this
      obtain ⟨cs,hcs,hy⟩:=Option.bind_eq_some_iff.1 hy
      exact ⟨cs,y,hcs,hy⟩
     have hz0:0 < P.cellsOf e:=hz
     obtain ⟨cs0,_,hcs0,_⟩:=each 0 (by omega)
     have ha0:a.add (0 * P.cellsOf e)=a:=by simp [Addr.add]
     rw [ha0] at hcs0
     obtain ⟨hspot,C,el,fr,hblk,_,_⟩:=Ztn hcs0 hz0
     have hlt:a.block < base:=Nat.lt_of_lt_of_le (Array.getElem?_eq_some_iff.1 hblk).1 hbase
     obtain ⟨μ2,h2,e2,s2,r2,vss,ds,hl1,hl2,hvs,hall⟩:=Ybh (P:=P) (base:=base) (w0:=w0) (w:=w) (fun _ _ d vs h'=>vs.length=P.cellsOf e∧rd P h' N e vs d)
      (fun _ _ _ _ _ _ s hd=>⟨hd.1,rd_same s N hd.2⟩) (fun i=>(w.cells? 0 (a.add (i * P.cellsOf e)) (P.cellsOf e)).getD []) (List.range cap) (fun i hi μ h r=>by
       obtain ⟨cs,y,hcs,hy⟩:=each i (by simpa using hi)
       obtain ⟨hcl,μ',h',ex,sx,rx,vs,d,hv,hd⟩:=imp hbase hsp N n hoke hy μ h r
       refine ⟨μ',h',ex,sx,rx,vs,d,by simpa [hcs] using hv,?_,hd⟩
       have:=hv.length; omega) μ h r
     have hrows:=Ycw C.toList a.off (P.cellsOf e) (fun i=>(w.cells? 0 (a.add (i * P.cellsOf e)) (P.cellsOf e)).getD []) cap (fun i hi=>by
      obtain ⟨cs,y,hcs,_⟩:=each i hi
      obtain ⟨_,C',el',fr',hblk',hcl,hce⟩:=Ztn hcs hz0
      have hab:(a.add (i * P.cellsOf e)).block=a.block:=by unfold Addr.add; split <;> rfl
      have hao:(a.add (i * P.cellsOf e)).off=a.off + i * P.cellsOf e:=by unfold Addr.add; split <;> simp_all
      rw [hab,hblk] at hblk'
      cases hblk'
      rw [hao] at hce
      simp only [hcs,Option.getD_some]
      exact ⟨hce,hcl⟩)
     have hvl:=hvs.length
     have hvz:∀ v∈vss,v.length=P.cellsOf e:=by
      intro v hv
      obtain ⟨i,hi⟩:=List.getElem?_of_mem hv
      have hil:=(List.getElem?_eq_some_iff.1 hi).1
      simp at hl1 hl2
      exact (hall i i v (ds[i]'(by omega)) (by rw [List.getElem?_range (by omega)]) hi (List.getElem?_eq_getElem _)).2.1
     rw [hrows.1] at hvs
     rw [hrows.2] at hvl
     have r3:=r2.ro (t:=e) hblk hlt (o:=a.off) (cs:=vss.flatten) (by rw [hvl]; exact hvs)
     simp at hl1 hl2
     have s3:Zbc h2.length h2 (h2 ++ [.cells e vss.flatten true]):=Zbc.app (Nat.le_refl _) _
     refine ⟨_,_,e2.trans (Ext.app _ _),s2.trans (s3.mono s2.le),r3,[.slice (some (h2.length,0)) len cap true],.sl (ds.take len),.cons ?_ .nil,?_⟩
     ·have hae:a=⟨a.block,a.off + 0,none⟩:=by rw [← hspot]; rfl
      have:=VR.slice (μ:=μ2 ++ [⟨a.block,a.off,false,0,0⟩]) (i:=h2.length) (o:=0) (n:=len) (c:=cap) (cap:=cap) (ex:=true) (e:=⟨a.block,a.off,false,0,0⟩) (r2.last _) hl (Nat.le_refl _) (fun _=>rfl) (fun hf=>by cases hf)
      rw [← hae] at this
      exact this
     ·simp only [rd,hu]
      refine ⟨_,_,_,_,ds.take len,vss.take len,rfl,rfl,by simp; omega,by omega,by simp; omega,?_,?_⟩
      ·have hfl:=Zwd (P.cellsOf e) vss len hvz
       have hfl2:=Zzg (P.cellsOf e) (vss.take len) fun v hv=>hvz v (List.mem_of_mem_take hv)
       refine ⟨by rw [hfl2,List.length_take,Nat.min_eq_left (by omega)],.inr ⟨h2.length,0,e,vss.flatten,true,rfl,by simp,by simp,?_,by simpa using hfl⟩⟩
       rw [hvl,Nat.zero_add]; exact Nat.mul_le_mul_right _ hl
      ·intro i v y hv hy
       have hil:i < len:=by have:=(List.getElem?_eq_some_iff.1 hv).1; simp at this; omega
       rw [List.getElem?_take,if_pos hil] at hv hy
       have:=(hall i i v y (by rw [List.getElem?_range (by omega)]) hv hy).2
       exact ⟨this.1,rd_same s3 N this.2⟩
  case struct fs=>
   simp only [Bool.and_eq_true,List.all_eq_true] at hok
   obtain ⟨htl,hfs⟩:=hok
   obtain ⟨xs,n,_,_,hcl,hxl,hel⟩:=DataW.trod_struct hu htr
   refine ⟨hcl,?_⟩
   obtain ⟨μ2,h2,e2,s2,r2,vss,ds,hl1,hl2,hvs,hall⟩:=Ybh (P:=P) (base:=base) (w0:=w0) (w:=w) (fun (f:Field) _ d vs h'=>vs.length=P.cellsOf f.type∧rd P h' N f.type vs d)
    (fun _ _ _ _ _ _ s hd=>⟨hd.1,rd_same s N hd.2⟩) (fun f=>(cs.drop f.offset).take (P.cellsOf f.type)) fs.toList (fun f hf μ h r=>by
     obtain ⟨i,hi⟩:=List.getElem?_of_mem hf
     have hi':fs[i]?=some f:=by simpa using hi
     have hil:=(Array.getElem?_eq_some_iff.1 hi').1
     have htr':DataW.trod enc P w 0 spare held n f.type ((cs.drop f.offset).take (P.cellsOf f.type))=some (xs[i]'(by omega)):=by rw [hel i f hi',List.getElem?_eq_getElem]
     obtain ⟨hcl',μ',h',ex,sx,rx,vs,d,hv,hd⟩:=imp hbase hsp N n (hfs f hf) htr' μ h r
     refine ⟨μ',h',ex,sx,rx,vs,d,hv,?_,hd⟩
     have:=hv.length; omega) μ h r
   rw [Yah cs fs.toList 0 (by rw [hcl]; exact htl)] at hvs
   simp at hl1 hl2
   refine ⟨μ2,h2,e2,s2,r2,vss.flatten,.st ds,by simpa using hvs,?_⟩
   simp only [rd,hu]
   exact ⟨ds,vss,rfl,hl2,hl1,rfl,fun i fd v y hf hv hy=>(hall i fd v y (by simpa using hf) hv hy).2⟩
end
theorem VR.slice_le {μ:List Pl} {a:Option (Nat × Nat)} {n c:Nat} {e:Bool} {x:Value} (h:VR μ (.slice a n c e) x):n≤c:=by
 cases h <;> omega
end Go.Sim

set_option linter.unusedSimpArgs false
namespace Go.Sim
open Go Go.RowKit

theorem Yde {α β:Type} (f:α→β) (sep:List α):∀ l:List (List α),(sep.map f).intercalate (l.map (List.map f))=(sep.intercalate l).map f
 | []=>rfl
 | [x]=>by simp [List.intercalate]
 | x :: y :: l=>by
  have:=Yde f sep (y :: l)
  simp only [List.intercalate,List.map_cons,List.intersperse_cons_cons,List.flatten_cons,List.map_append] at this ⊢
  rw [this]
theorem Ynj (b o j:Nat):(⟨b,o,none⟩:Addr).add j=⟨b,o + j,none⟩:=by unfold Addr.add; split <;> simp_all
theorem Yas (l:List UInt8):bytesOf ⟨l.toArray⟩=l.map UInt8.toNat:=by simp [bytesOf]

section
variable {P:Program} {base:Nat} {w0:World} {μ:List Pl} {h:Zaa} {w:World}
theorem VRs.strs:∀ {l:List (List Nat)} {ys:List Value},VRs μ (Sim.strs l) ys→∃ xs:List ByteArray,ys=xs.map .string∧xs.map bytesOf=l
 | [],_,.nil=>⟨[],rfl,rfl⟩
 | s :: l,_,.cons a b=>by
  obtain ⟨xs,rfl,hx⟩:=VRs.strs b
  cases a with
  | str s=>exact ⟨s :: xs,rfl,by simp [hx]⟩

theorem Zah.join {n : FuncId} (able : ∃ fn, P.funcs[n]? = some fn ∧ fn.body.isSome = true ∧ (fn.name == "runtime.NumGoroutine") = false)
  (hnone:∀ (a:Option Addr) (c:Nat) (sep:ByteArray) (w:World),Calls P n #[.slice a 0 c,.string sep] w fun e w'=>e=.returned (.string ⟨#[]⟩)∧w'=w)
  (hsome:∀ (bk o c:Nat) (xs:List ByteArray) (sep:ByteArray) (w:World),(∀ (j:Nat) x,xs[j]?=some x→w.cell? ⟨bk,o + j,none⟩=some (.string x))→bk < w.heap.size→xs.length≤140737488355328→xs.length≤c →
   (Lib.join (xs.map (·.data.toList)) sep.data.toList).length≤140737488355328 →
   Calls P n #[.slice (some ⟨bk,o,none⟩) xs.length c,.string sep] w fun e w'=>e=.returned (.string ⟨(Lib.join (xs.map (·.data.toList)) sep.data.toList).toArray⟩)∧Below w.heap.size w w')
  {a:Pt} {m c:Nat} {ex:Bool} {l:List (List Nat)} {sep:List Nat} (r:Row h.length h a m (strs l)) (hm:m≤140737488355328) (hl:(sep.intercalate l).length≤140737488355328) :
  Zah P n [.slice a m c ex,.str sep] h fun v h'=>v=.str (sep.intercalate l)∧h'=h:=by
 refine ⟨able,fun base w0 μ w xs rel hx=>?_⟩
 have hll:l.length=m:=by simpa using r.1
 match xs,hx with
 | ⟨[x1,x2]⟩,.cons h1 (.cons h2 .nil)=>
  obtain ⟨_,am,capm,rfl,hrow⟩:=Zxf rel h1 r.rowOf
  cases h2 with
  | str sb=>
  rcases hrow with h0 | ⟨ad,rfl,ys,hys,hcell⟩
  ·subst h0
   have:l=[]:=List.eq_nil_of_length_eq_zero hll
   subst this
   refine (hnone am capm sb w).mono ?_
   rintro e w' ⟨rfl,rfl⟩
   exact ⟨_,μ,.str [],h,rfl,Ext.refl _,rel,(by have:=VR.str (μ:=μ) ⟨#[]⟩; simpa [bytesOf] using this),rfl,rfl⟩
  ·obtain ⟨bs,rfl,hbs⟩:=hys.strs
   by_cases h0:m=0
   ·subst h0
    have:l=[]:=List.eq_nil_of_length_eq_zero hll
    subst this
    refine (hnone (some ad) capm sb w).mono ?_
    rintro e w' ⟨rfl,rfl⟩
    exact ⟨_,μ,.str [],h,rfl,Ext.refl _,rel,(by have:=VR.str (μ:=μ) ⟨#[]⟩; simpa [bytesOf] using this),rfl,rfl⟩
   ·have hbl:bs.length=m:=by rw [← hll,← hbs]; simp
    have hc0:=hcell 0 (.string (bs[0]'(by omega))) (by rw [List.getElem?_map,List.getElem?_eq_getElem (by omega)]; rfl)
    have hsp:ad.spot=none∧ad.block < w.heap.size:=by
     have:ad.add 0=ad:=by simp [Addr.add]
     rw [this] at hc0
     unfold World.cell? at hc0
     split at hc0
     ·rename_i C el fr hb
      split at hc0
      ·cases hc0
      ·rename_i hsp
       exact ⟨by simpa using hsp,(Array.getElem?_eq_some_iff.1 hb).1⟩
     ·cases hc0
    have had:ad=⟨ad.block,ad.off,none⟩:=by rw [← hsp.1]
    have hcap:m≤capm:=by cases h1 <;> omega
    have hjoin:(Lib.join (bs.map (·.data.toList)) sb.data.toList).map UInt8.toNat=(bytesOf sb).intercalate l:=by
     unfold Lib.join
     rw [← Yde]
     congr 1
     rw [← hbs]; simp [bytesOf]
    have hjl:(Lib.join (bs.map (·.data.toList)) sb.data.toList).length≤140737488355328:=by
     have:=congrArg List.length hjoin
     rw [List.length_map] at this
     omega
    have key:=hsome ad.block ad.off capm bs sb w (fun j x hj=>by
     have:=hcell j (.string x) (by rw [List.getElem?_map,hj]; rfl)
     rw [had] at this
     rwa [Ynj] at this) hsp.2 (by omega) (by omega) hjl
    rw [hbl,← had] at key
    refine key.mono ?_
    rintro e w' ⟨rfl,hb⟩
    refine ⟨_,μ,.str ((bytesOf sb).intercalate l),h,rfl,Ext.refl _,rel.grow hb,?_,rfl,rfl⟩
    have:=VR.str (μ:=μ) ⟨(Lib.join (bs.map (·.data.toList)) sb.data.toList).toArray⟩
    rw [Yas,hjoin] at this
    exact this
end
end Go.Sim

set_option linter.unusedSimpArgs false
namespace Go.Sim
open Go Go.RowKit

theorem trodAll_below {H:Type} {enc:TypeId × Value→H} {P:Program} (hl:laidOutB P=true) {W W':World} (hb:Below W.heap.size W W'):∀ {ts:List TypeId} {vs:List Value} {ds:List (DataW H)} {ps:List MemPlace},
  (∀ t∈ts,P.readableRec t=true∧t < P.types.size)→DataW.TrodAll enc P W 0 (fun _=>true) true ts vs ds ps→DataW.TrodAll enc P W' 0 (fun b=>decide (b < W.heap.size)) true ts vs ds ps
 | [],[],[],_,_,h=>h
 | t :: ts,v :: vs,d :: ds,ps,ht,⟨p,q,h1,h2,e⟩=>by
  have h1':=h1
  obtain ⟨fuel,hf⟩:=h1'
  exact ⟨p,q,Below.trod hl (ht t (by simp)).1 (ht t (by simp)).2 h1 hb (DataW.trod_lt _ _ _ _ hf),trodAll_below hl hb (fun t' h'=>ht t' (by simp [h'])) h2,e⟩
 | [],_ :: _,_,_,_,h=>by simp [DataW.TrodAll] at h
 | [],[],_ :: _,_,_,h=>by simp [DataW.TrodAll] at h
 | _ :: _,[],_,_,_,h=>by simp [DataW.TrodAll] at h
 | _ :: _,_ :: _,[],_,_,h=>by simp [DataW.TrodAll] at h

end Go.Sim

set_option linter.unusedSimpArgs false
namespace Go.Sim
open Go Go.RowKit

def Zvf:List Nat→Nat→Int
 | [],_=>-1
 | b :: l,c=>if b == c then 0 else if Zvf l c == -1 then -1 else Zvf l c + 1
theorem Ykz (l:List Nat) (c:Nat):-1≤Zvf l c:=by
 induction l with
 | nil=>simp [Zvf]
 | cons b l ih => simp only [Zvf]; split <;> try split
                  all_goals omega
theorem Yby (l:List Nat) (c:Nat):0≤Zvf l c ↔ c∈l:=by
 induction l with
 | nil=>simp [Zvf]
 | cons b l ih=>
  have:=Ykz l c
  simp only [Zvf,List.mem_cons]
  by_cases hb:b=c
  ·simp [hb]
  ·have hb':c≠b:=fun e=>hb e.symm
   simp only [beq_iff_eq,hb,hb',if_false,false_or]
   rw [← ih]
   by_cases h1:Zvf l c=-1
   ·simp [h1]
   ·simp only [h1,if_false]; omega
theorem You (l:List Nat) (c:Nat):Zvf l c < 0 ↔ c ∉ l:=by rw [← Yby]; omega
theorem Zzo (l:List UInt8) (c:UInt8):Lib.indexByte l c=Zvf (l.map UInt8.toNat) c.toNat:=by
 induction l with
 | nil=>rfl
 | cons b l ih=>
  simp only [Lib.indexByte,Zvf,List.map_cons,ih]
  have:(b == c)=(b.toNat == c.toNat):=by
   rw [Bool.eq_iff_iff]; simp [UInt8.toNat_inj]
  rw [this]
theorem Zym {s:ByteArray} {c:Nat} (h:bytesOf s=[c]):∃ b:UInt8,s=⟨#[b]⟩∧b.toNat=c:=by
 obtain ⟨⟨l⟩⟩:=s
 simp [bytesOf] at h
 match l,h with
 | [b],h=>simp at h; exact ⟨b,rfl,h⟩
theorem Zth:∀ (p s:List UInt8),(p.map UInt8.toNat).isPrefixOf (s.map UInt8.toNat)=p.isPrefixOf s
 | [],_=>by simp
 | a :: p,[]=>by simp
 | a :: p,b :: s=>by
  simp only [List.map_cons,List.isPrefixOf_cons₂,Zth p s]
  congr 1
  rw [Bool.eq_iff_iff]; simp [UInt8.toNat_inj]
section
variable {P:Program} {h:Zaa}
theorem Zah.plain {n : FuncId} {args : List Zau} (v0 : Zau) (able : ∃ fn, P.funcs[n]? = some fn ∧ fn.body.isSome = true ∧ (fn.name == "runtime.NumGoroutine") = false)
  (hc:∀ (μ:List Pl) (xs:Array Value) (w:World),VRs μ args xs.toList→Calls P n xs w fun e w'=>∃ x,e=.returned x∧Below w.heap.size w w'∧VR μ v0 x) :
  Zah P n args h fun v h'=>v=v0∧h'=h:=by
 refine ⟨able,fun base w0 μ w xs rel hx=>(hc μ xs w hx).mono ?_⟩
 rintro e w' ⟨x,rfl,hb,hv⟩
 exact ⟨x,μ,v0,h,rfl,Ext.refl _,rel.grow hb,hv,rfl,rfl⟩
theorem Zah.contains1 {n : FuncId} (able : ∃ fn, P.funcs[n]? = some fn ∧ fn.body.isSome = true ∧ (fn.name == "runtime.NumGoroutine") = false)
  (hc:∀ (s:ByteArray) (c:UInt8) (w:World),Calls P n #[.string s,.string ⟨#[c]⟩] w fun e w'=>e=.returned (.bool (decide (0≤Lib.indexByte s.data.toList c)))∧w'=w) {s:List Nat} {c:Nat} :
  Zah P n [.str s,.str [c]] h fun v h'=>v=.bool (decide (c∈s))∧h'=h:=by
 refine Zah.plain _ able fun μ xs w hx=>?_
 match xs,hx with
 | ⟨[x1,x2]⟩,.cons h1 (.cons h2 .nil)=>
  cases h1 with
  | str s=>
  generalize ht:[c]=t at h2
  cases h2 with
  | str t=>
  obtain ⟨b,rfl,rfl⟩:=Zym ht.symm
  refine (hc s b w).mono ?_
  rintro e w' ⟨rfl,rfl⟩
  refine ⟨_,rfl,Below.refl _ _,?_⟩
  rw [Zzo]
  have:decide (0≤Zvf (s.data.toList.map UInt8.toNat) b.toNat)=decide (b.toNat∈bytesOf s):=by
   rw [decide_eq_decide]; exact Yby _ _
  rw [this]; exact .bool _
theorem Zah.hasPrefix {n : FuncId} (able : ∃ fn, P.funcs[n]? = some fn ∧ fn.body.isSome = true ∧ (fn.name == "runtime.NumGoroutine") = false)
  (hc:∀ (s p:ByteArray) (w:World),Calls P n #[.string s,.string p] w fun e w'=>e=.returned (.bool (Lib.hasPrefix s.data.toList p.data.toList))∧w'=w) {s p:List Nat} :
  Zah P n [.str s,.str p] h fun v h'=>v=.bool (p.isPrefixOf s)∧h'=h:=by
 refine Zah.plain _ able fun μ xs w hx=>?_
 match xs,hx with
 | ⟨[x1,x2]⟩,.cons h1 (.cons h2 .nil)=>
  cases h1 with
  | str s=>
  cases h2 with
  | str t=>
  refine (hc s t w).mono ?_
  rintro e w' ⟨rfl,rfl⟩
  refine ⟨_,rfl,Below.refl _ _,?_⟩
  have:Lib.hasPrefix s.data.toList t.data.toList=(bytesOf t).isPrefixOf (bytesOf s):=by unfold Lib.hasPrefix bytesOf; rw [Zth]
  rw [this]; exact .bool _
def Yvj (u:Nat):List Nat:=(Lib.decDigits u).map UInt8.toNat
def Yss (n:Int):List Nat:=(Lib.itoa n).map UInt8.toNat
def Ysr (P : Program) : Zcd := .amb fun base w0 => ∀ w, Below base w0 w → Lib.TabIs P w "internal/strconv.uint64pow10" .u64 Lib.pow10Tab
theorem Zah.itoa {n : FuncId} (able : ∃ fn, P.funcs[n]? = some fn ∧ fn.body.isSome = true ∧ (fn.name == "runtime.NumGoroutine") = false)
  (hc : ∀ (z : Int), -9223372036854775808 ≤ z → z ≤ 9223372036854775807 → ∀ (w : World), Lib.TabIs P w "internal/strconv.uint64pow10" .u64 Lib.pow10Tab → Calls P n #[.int .i64 z] w fun e w' => e = .returned (.string ⟨(Lib.itoa z).toArray⟩) ∧ ∃ k os, w' = Go.Sort.grow (w.drewN k) os)
  {k:Nat} (hk:h[k]?=some (Ysr P)) {z:Int} (h0:-9223372036854775808≤z) (h1:z≤9223372036854775807) :
  Zah P n [.int .i64 z] h fun v h'=>v=.str (Yss z)∧h'=h:=by
 refine ⟨able,fun base w0 μ w xs rel hx=>?_⟩
 match xs,hx with
 | ⟨[x1]⟩,.cons hx1 .nil=>
  cases hx1
  have hlt:k < μ.length:=by rw [rel.len]; exact (List.getElem?_eq_some_iff.1 hk).1
  have ham:=rel.obj k _ hk _ (List.getElem?_eq_getElem hlt)
  refine (hc z h0 h1 w (ham w rel.below)).mono ?_
  rintro e w' ⟨rfl,q,os,rfl⟩
  refine ⟨_,μ,.str (Yss z),h,rfl,Ext.refl _,rel.grow ⟨rfl,rfl,rfl,by simp [Go.Sort.grow,World.drewN],fun j hj=>?_⟩,?_,rfl,rfl⟩
  ·simp only [Go.Sort.grow,World.drewN]
   rw [Array.getElem?_append_left hj]
  ·have:=VR.str (μ:=μ) ⟨(Lib.itoa z).toArray⟩
   rw [Yas] at this; exact this
end
end Go.Sim


set_option linter.unusedSimpArgs false
namespace Go.Sim
open Go Go.RowKit

section
variable {P:Program} {h:Zaa}
theorem Zah.keys {n g : FuncId} {M : TypeId} (able : ∃ fn, P.funcs[n]? = some fn ∧ fn.body.isSome = true ∧ (fn.name == "runtime.NumGoroutine") = false)
  (hc:∀ (mb:Option Nat) (W:World),Calls P n #[.map mb] W fun e w'=>e=.returned (.func (.func g) #[] #[.pointer (some ⟨W.heap.size,0,none⟩)])∧w'=W.alloc (.cells #[.map mb] M)) {m:Option Nat} :
  Zah P n [.map m] h fun v h'=>v=.fn g [.ptr (some (h.length,0))]∧h'=h ++ [.cells M [.map m] false]:=by
 refine ⟨able,fun base w0 μ w xs rel hx=>?_⟩
 match xs,hx with
 | ⟨[x1]⟩,.cons hx1 .nil=>
  have key:∀ mb,VR μ (.map m) (.map mb)→Calls P n #[.map mb] w fun e w'=>∃ x μ' v h',e=.returned x∧Ext μ μ'∧Rel P base w0 μ' h' w'∧VR μ' v x∧v=.fn g [.ptr (some (h.length,0))]∧h'=h ++ [.cells M [.map m] false]:=by
   intro mb hv
   refine (hc mb w).mono ?_
   rintro e w' ⟨rfl,rfl⟩
   have r':=rel.newRow0 (t:=M) (cs:=[.map m]) (C:=#[.map mb]) (by simpa using VRs.cons hv .nil)
   refine ⟨_,_,_,_,rfl,Ext.app _ _,r',?_,rfl,rfl⟩
   refine .fn (.cons ?_ .nil)
   exact .ptr (e:=⟨w.heap.size,0,true,1,P.cellsOf M⟩) (o:=0) (by simpa using rel.last _)
  cases hx1 with
  | map0=>exact key none .map0
  | map hi=>exact key _ (.map hi)
theorem Ytn {a b:UInt8} (h:([a]:List UInt8)≤[b]):a.toNat≤b.toNat:=by
 have h1:¬ ([b]:List UInt8) < [a]:=h
 rw [List.cons_lt_cons_iff] at h1
 have h2:¬ b < a:=fun e=>h1 (.inl e)
 have:¬ b.toNat < a.toNat:=fun e=>h2 (UInt8.lt_iff_toNat_lt.2 e)
 omega
theorem VRs.ones {μ:List Pl}:∀ {vs:List Nat} {xs:List Value},VRs μ (vs.map fun v=>.str [v]) xs→∃ bs:List UInt8,bs.map UInt8.toNat=vs∧xs=bs.map fun b=>.string ⟨#[b]⟩
 | [],[],_=>⟨[],rfl,rfl⟩
 | [],_ :: _,h=>by cases h
 | v :: vs,[],h=>by cases h
 | v :: vs,x :: xs,h=>by
  simp only [List.map_cons] at h
  cases h with
  | cons h1 h2=>
  generalize ht:[v]=t at h1
  cases h1 with
  | str s=>
  obtain ⟨b,rfl,rfl⟩:=Zym ht.symm
  obtain ⟨bs,rfl,rfl⟩:=VRs.ones h2
  exact ⟨b :: bs,rfl,rfl⟩
theorem VRs.ones2 {μ:List Pl} (bs:List UInt8):VRs μ ((bs.map UInt8.toNat).map fun v=>.str [v]) (bs.map fun b=>.string ⟨#[b]⟩):=by
 induction bs with
 | nil=>exact .nil
 | cons b bs ih=>
  simp only [List.map_cons]
  refine .cons ?_ ih
  have:=VR.str (μ:=μ) ⟨#[b]⟩
  simpa [bytesOf] using this
theorem Ysi {bs:List UInt8} {ss:List (List UInt8)} (hp:ss.Perm (bs.map fun b=>[b])):∃ us:List UInt8,ss=us.map (fun b=>[b])∧us.Perm bs:=by
 have hall:∀ s∈ss,∃ b,s=[b]:=fun s hs=>by
  obtain ⟨b,_,rfl⟩:=List.mem_map.1 (hp.mem_iff.1 hs); exact ⟨b,rfl⟩
 have hus:ss=(ss.map fun s=>s.headD 0).map (fun b=>[b]):=by
  rw [List.map_map]
  conv=>lhs; rw [← List.map_id ss]
  apply List.map_congr_left
  intro s hs
  obtain ⟨b,rfl⟩:=hall s hs
  rfl
 refine ⟨ss.map fun s=>s.headD 0,hus,?_⟩
 have:=hp.map fun s=>s.headD 0
 simpa [List.map_map,Function.comp_def] using this
theorem Zah.sortedKeys {n g : FuncId} {M K : TypeId} (hK : P.underlying K = some .string) (hcK : P.cellsOf K = 1) (able : ∃ fn, P.funcs[n]? = some fn ∧ fn.body.isSome = true ∧ (fn.name == "runtime.NumGoroutine") = false)
  (hc:∀ (Bm b nn:Nat) (D0:DataW Unit) (R:Value→Option (DataW Unit × List MemPlace)) (w:World),w.ownsMap P K R b nn D0→Bm < w.heap.size→w.cell? ⟨Bm,0,none⟩=some (.map (some b))→Maps.size D0≤maxLen→Maps.size D0 * 16≤140737488355328 →
   Calls P n #[.func (.func g) #[] #[.pointer (some ⟨Bm,0,none⟩)]] w fun e w'=>∃ (v:Value) (ss:List (List UInt8)),e=.returned v∧ss.Perm (strKeys D0) ∧
    w'.ownsRow w.heap.size K 1 v ss.length ((ss.mergeSort (fun x y=>decide (x≤y))).map Go.Proofs.encStr)∧(v=.slice none 0 0 ↔ ss=[])∧Below w.heap.size w w')
  {i m:Nat} {es:List ME} {clk:Nat} (hi:h[i]?=some (.cells M [.map (some m)] false)) (hm:h[m]?=some (.map es clk)) {vs:List Nat} (hks:es.map (·.1)=vs.map fun v=>.str [v]) (nd:vs.Nodup) (born:(es.map (·.2.2)).Nodup) (lt:∀ e∈es,e.2.2 < clk) (hl:es.length≤1048576) :
  Zah P n [.fn g [.ptr (some (i,0))]] h fun v h'=>∃ us:List Nat,us.Perm vs∧us.Pairwise (·≤·)∧((us=[]∧v=.slice none 0 0 true∧h'=h) ∨ (∃ c,v=.slice (some (h.length,0)) us.length c false∧us.length≤c∧h'=h ++ [.cells K (us.map fun v=>.str [v]) false])):=by
 refine ⟨able,fun base w0 μ w xs rel hx=>?_⟩
 match xs,hx with
 | ⟨[x1]⟩,.cons hx1 .nil=>
  generalize hf:Zau.fn g [.ptr (some (i,0))]=f at hx1
  cases hx1 <;> try (cases hf; done)
  rename_i f' caps ys hcaps
  cases hf
  obtain ⟨ys⟩:=ys
  match ys,hcaps with
  | [y],.cons hy .nil=>
  generalize hp:(Zau.ptr (some (i,0)))=p at hy
  cases hy <;> try (cases hp; done)
  rename_i i' o' e hei
  cases hp
  obtain ⟨C,el,fr,hC,hvs,hown⟩:=rel.obj i _ hi e hei
  simp only [Bool.false_eq_true,if_false] at hown
  obtain ⟨ho1,ho0,rfl,rfl,hn,hcz,hbase⟩:=hown
  rw [ho0,List.drop_zero] at hvs
  simp only [List.length_cons,List.length_nil] at hvs
  have hC0:∃ x r,C.toList=x :: r∧VR μ (.map (some m)) x:=by
   match hCl:C.toList,hvs with
   | x :: r,hv=>simp only [List.take_succ_cons] at hv; cases hv with | cons a b=>exact ⟨x,r,rfl,a⟩
   | [],hv=>simp at hv; cases hv
  obtain ⟨x,r,hCl,hvx⟩:=hC0
  generalize hmm:Zau.map (some m)=mm at hvx
  cases hvx <;> try (cases hmm; done)
  rename_i m' em hem
  cases hmm
  obtain ⟨hbm,ents,hents,hk1,hk2,hk3⟩:=rel.obj m _ hm em hem
  rw [hks] at hk1
  obtain ⟨bs,rfl,hkeys⟩:=hk1.ones
  have hlen:ents.size=es.length:=by have:=congrArg List.length hk3; simp at this; exact this.symm
  have hel:w.cell? ⟨e.b,0,none⟩=some (.map (some em.b)):=by
   have:C[0]?=some (.map (some em.b)):=by rw [← Array.getElem?_toList,hCl]; rfl
   simp [World.cell?,hC,this]
  have hkey:∀ y∈ents.toList,∃ b:UInt8,y.key=.string ⟨#[b]⟩:=fun y hy=>by
   have:y.key∈ents.toList.map (·.key):=List.mem_map.2 ⟨y,hy,rfl⟩
   rw [hkeys] at this
   obtain ⟨b,_,hb⟩:=List.mem_map.1 this
   exact ⟨b,hb.symm⟩
  have hko:∀ b:UInt8,keyOf P K (.string ⟨#[b]⟩)=some (.string [b]):=fun b=>by
   simp [keyOf,hK,mapKey,maxLen]; exact if_pos (by show (1:Nat)≤_; decide)
  let R:Value→Option (DataW Unit × List MemPlace):=fun _=>some (.nil,[])
  have hrg:ents.toList.map (fun y=>strOf (WideElems.rg P K R y).1)=bs.map fun b=>[b]:=by
   have:ents.toList.map (fun y=>strOf (WideElems.rg P K R y).1)=(ents.toList.map (·.key)).map fun k=>match keyOf P K k with | some l=>strOf l | none=>[]:=by
    rw [List.map_map]
    apply List.map_congr_left
    intro y hy
    obtain ⟨b,hb⟩:=hkey y hy
    simp [WideElems.rg,WideElems.rd,hb,hko,R,strOf]
   rw [this,hkeys,List.map_map]
   apply List.map_congr_left
   intro b _
   simp [hko,strOf]
  have hnb:bs.Nodup:=List.Pairwise.of_map (R:=fun a b:UInt8=>a≠b) UInt8.toNat (fun a b h e=>h (by rw [e])) nd
  have hfit:WideElems.Fit P K R ents clk:=by
   refine ⟨by rw [hlen]; exact Nat.le_trans hl (by decide),⟨?_,by rw [← hk3]; exact born,?_⟩,?_⟩
   ·intro y hy
    have:y.born∈ents.toList.map (·.born):=List.mem_map.2 ⟨y,hy,rfl⟩
    rw [← hk3] at this
    obtain ⟨e',he',hb⟩:=List.mem_map.1 this
    rw [← hb]; exact lt e' he'
   ·rw [hkeys]
    refine List.Pairwise.map _ ?_ hnb
    intro a b hab e
    exact hab (by simpa using e)
   ·intro y hy
    obtain ⟨b,hb⟩:=hkey y hy
    exact ⟨_,by simp [WideElems.rd,hb,hko,R]; rfl⟩
  have hps:=WideShapes.sorted_perm (ents.toList.map (WideElems.rg P K R))
  have hsz:Maps.size (DataW.map ((ents.toList.map (WideElems.rg P K R)).foldr DataW.insert []))=es.length:=by
   show List.length _=_
   rw [hps.length_eq,List.length_map,Array.length_toList,hlen]
  show Calls P n #[.func (.func g) #[] #[.pointer (some ⟨e.b,e.o + 0,none⟩)]] w _
  rw [show e.o + 0=0 by omega]
  refine (hc e.b em.b ents.size _ R w ⟨ents,clk,hents,hfit,Nat.le_refl _,rfl⟩ (Array.getElem?_eq_some_iff.1 hC).1 hel (by rw [hsz]; exact Nat.le_trans hl (by decide)) (by rw [hsz]; omega)).mono ?_
  rintro ee w' ⟨v,ss,rfl,hperm,hrow,hnil,hb⟩
  have hperm2:ss.Perm (bs.map fun b=>[b]):=by
   refine hperm.trans ?_
   show (List.map (fun p:Lit × DataW Unit=>strOf p.1) _).Perm _
   rw [← hrg]
   have:=hps.map fun p:Lit × DataW Unit=>strOf p.1
   simpa [List.map_map,Function.comp_def] using this
  have tr:∀ a b c:List UInt8,decide (a≤b)=true→decide (b≤c)=true→decide (a≤c)=true:=fun a b c h1 h2=>by simp only [decide_eq_true_eq] at *; exact List.le_trans h1 h2
  have to:∀ a b:List UInt8,(decide (a≤b) || decide (b≤a))=true:=fun a b=>by simp only [Bool.or_eq_true,decide_eq_true_eq]; exact List.le_total a b
  have hsrt:=List.pairwise_mergeSort tr to ss
  have hpm:=List.mergeSort_perm ss (fun x y=>decide (x≤y))
  obtain ⟨us,hus,hup⟩:=Ysi (hpm.trans hperm2)
  rw [hus] at hrow hsrt
  have hul:us.length=ss.length:=by have:=hpm.length_eq; rw [hus] at this; simpa using this
  have hsn:(us.map UInt8.toNat).Pairwise (·≤·):=by
   rw [List.pairwise_map] at hsrt ⊢
   exact hsrt.imp fun {a b} h=>Ytn (of_decide_eq_true h)
  have henc:(us.map (fun b=>[b])).map Go.Proofs.encStr=us.map fun b=>.string ⟨#[b]⟩:=by
   rw [List.map_map]; rfl
  rw [henc] at hrow
  obtain ⟨_,hrow⟩:=hrow
  rcases hrow with ⟨rfl,h0⟩ | ⟨gb,cap,cur,rfl,hg1,hg2,hg3,hg4,hg5,hg6⟩
  ·have:us=[]:=List.eq_nil_of_length_eq_zero (by omega)
   subst this
   exact ⟨_,μ,_,h,rfl,Ext.refl _,rel.grow hb,.slice0,[],by simpa using hup.map UInt8.toNat,List.Pairwise.nil,.inl ⟨rfl,rfl,rfl⟩⟩
  ·have hpl:(us.map fun b=>Zau.str [b.toNat]).length=us.length:=by simp
   have r':=rel.new hb ⟨gb,0,true,cur.size,P.cellsOf K⟩ (.cells K (us.map fun b=>Zau.str [b.toNat]) false) hg1 (by
    refine ⟨cur,K,(0,0),hg2,?_,?_⟩
    ·rw [List.drop_zero,hpl,hul,← Nat.mul_one ss.length,hg6]
     simpa [List.map_map,Function.comp_def] using VRs.ones2 us
    ·simp only [Bool.false_eq_true,if_false]
     exact ⟨trivial,trivial,trivial,trivial,trivial,trivial,Nat.le_trans rel.size hg1⟩)
   refine ⟨_,_,.slice (some (h.length,0)) us.length us.length false,_,rfl,Ext.app _ _,r',?_,us.map UInt8.toNat,hup.map _,hsn,.inr ⟨us.length,by simp,by simp,by simp [List.map_map,Function.comp_def]⟩⟩
   rw [← hul]
   refine .slice (e:=⟨gb,0,true,cur.size,P.cellsOf K⟩) (o:=0) (rel.last _) (Nat.le_refl _) (by omega) (fun h=>by cases h) (fun _ _=>?_)
   show cap * P.cellsOf K≤cur.size
   rw [hcK]; omega
end
end Go.Sim
