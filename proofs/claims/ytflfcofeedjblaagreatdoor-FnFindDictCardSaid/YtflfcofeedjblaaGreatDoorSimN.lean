/- A part of the proof of a statement of this seat: see the text that holds the theorem. No condition. -/
import Derived.Test.YtflfcofeedjblaaGreatDoorSimIc
import Derived.Orders
set_option linter.unusedVariables false
set_option linter.unusedSimpArgs false
set_option linter.all false
set_option linter.unusedSimpArgs false
namespace Go.Sim
open Go Go.RowKit

structure Zaj (P:Program) (n:FuncId) (args:List Zat) (h:Zaa) (Q:Zat→Zaa→Prop):Prop where
 able : ∃ fn, P.funcs[n]? = some fn ∧ fn.body.isSome = true ∧ (fn.name == "runtime.NumGoroutine") = false
 calls:∀ (base:Nat) (w0:World) (μ:List Pl) (w:World) (xs:Array Value),Rel P base w0 μ h w→VRs μ args xs.toList →
  Calls P n xs w fun e w'=>∃ x μ' v h',e=.returned x∧Ext μ μ'∧Rel P base w0 μ' h' w'∧VR μ' v x∧Q v h'
theorem Zaj.mono {P:Program} {n:FuncId} {args:List Zat} {h:Zaa} {Q Q':Zat→Zaa→Prop} (hc:Zaj P n args h Q) (hq:∀ v h',Q v h'→Q' v h'):Zaj P n args h Q':=
 ⟨hc.1,fun base w0 μ w xs r hx=>(hc.2 base w0 μ w xs r hx).mono fun _ _ ⟨x,μ',v,h',a,b,c,d,q⟩=>⟨x,μ',v,h',a,b,c,d,hq _ _ q⟩⟩

def rts (P:Program) (f:FuncId):List TypeId:=match P.funcs[f]? with | some fn=>fn.resultTypes.toList | none=>[]
def Yva (P:Program) (f:FuncId) (args:List Zat) (h:Zaa) (K:Zat→Zaa→Prop):Prop:=Zaj P f args h fun v h'=>Ysy P (rts P f) v fun v=>K v h'
def Yus (v:Zat) (K:FuncId→List Zat→Prop):Prop:=match v with | .fn g caps=>K g caps | _=>False
def Ywr (P:Program) (t:TypeId):List TypeId:=match P.underlying t with | some (.tuple ts)=>ts.toList | _=>[t]
def Yvv (P:Program) (t:TypeId) (v:Zat) (args:List Zat) (h:Zaa) (K:Zat→Zaa→Prop):Prop:=Yus v fun g caps=>Zaj P g (args ++ caps) h fun v h'=>Ysy P (Ywr P t) v fun v=>K v h'
def Ylz (P:Program) (env:Env) (h:Zaa) (o:Oper) (c:Call) (K:Zat→Zaa→Prop):Prop:=
 match c.callee with
 | .value f=>(match f with
  | .func g=>Yva P g (c.args.toList.map (ev env) ++ []) h K
  | f=>Yvv P o.type (ev env f) (c.args.toList.map (ev env)) h K)
 | .builtin .append=>(match c.argTypes.toList with
  | [t,u]=>chk (u=t) (match c.args.toList.map (ev env) with | [s,x]=>Zcf P t h s x fun v h'=>xv .slice (some v) fun v=>K v h' | _=>False)
  | _=>False)
 | .builtin .min=>(match c.args.toList.map (ev env) with | [x,y]=>Yth x y fun v=>K v h | _=>False)
 | .builtin .clear=>(match c.argTypes.toList with
  | [t]=>(match c.args.toList.map (ev env) with | [x]=>Yik P t h x K | _=>False)
  | _=>False)
 | _=>Ztr P env o fun v=>K v h
def opA (P:Program) (env:Env) (h:Zaa) (o:Oper) (K:Zat→Zaa→Prop):Prop:=
 match o.op with
 | .load t a=>chk ((P.underlying t).isSome=true) (Zwm P t h (ev env a) fun v=>K v h)
 | .store t a x=>chk ((P.underlying t).isSome=true) (Yad P t h (ev env a) (ev env x) fun h'=>K .undef h')
 | .alloc t=>Yrw P t h K
 | .box t x=>Ywe t h (ev env x) K
 | .build t ps=>Yly P t (parts env ps) fun v=>K v h
 | .buildSlice t n ps=>Zqd P t n (parts env ps) h K
 | .call c=>Ylz P env h o c K
 | .makeSlice t l c=>Zna P t (ev env l) (ev env c) h K
 | .makeMap t r=>Zse P t (r.map (ev env)) h K
 | .lookup t x i ok=>Zvf P t h (ev env x) (ev env i) ok fun v=>K v h
 | .mapUpdate t m k v=>Znb P t h (ev env m) (ev env k) (ev env v) K
 | .range t x=>Yaa P t (ev env x) h K
 | .next x st=>Yja P o.type (ev env x) st h K
 | .entry x=>Zzv P o.type (ev env x) h fun v=>K v h
 | .convert s d x=>(match Yix P s with | true=>Yti P s d h (ev env x) fun v=>K v h | false=>Ztr P env o fun v=>K v h)
 | _=>Ztr P env o fun v=>K v h
def Zsp (N:Nat) (env:Env) (d:Option Tmp) (v:Zat) (K:Env→Prop):Prop:=match d with | none=>K env | some d=>chk (d < N) (K (env.set d v))
def Zny (P:Program) (N:Nat) (ops:Array Oper) (env:Env) (h:Zaa) (o:Oper) (K:Env→Zaa→Prop):Prop:=
 match o.guard with
 | none=>opA P env h o fun v h'=>Zsp N env o.dst v fun env'=>K env' h'
 | some (j,want)=>(match (ops[j]?).bind (·.dst) with
  | some t=>(match env.get t with
   | .bool b=>bcase b
     (match want with | true=>opA P (env.set t (.bool true)) h o fun v h'=>Zsp N (env.set t (.bool true)) o.dst v fun env'=>K env' h' | false=>Zsp N (env.set t (.bool true)) o.dst (.tup []) fun env'=>K env' h)
     (match want with | false=>opA P (env.set t (.bool false)) h o fun v h'=>Zsp N (env.set t (.bool false)) o.dst v fun env'=>K env' h' | true=>Zsp N (env.set t (.bool false)) o.dst (.tup []) fun env'=>K env' h)
   | .tup []=>Zsp N env o.dst (.tup []) fun env'=>K env' h
   | _=>False)
  | none=>False)
def Ywa (P:Program) (N:Nat) (ops:Array Oper):List Oper→Env→Zaa→(Env→Zaa→Prop)→Prop
 | [],env,h,K=>K env h
 | o :: r,env,h,K=>Zny P N ops env h o fun env' h'=>Ywa P N ops r env' h' K

section
variable {P:Program} {base N:Nat} {w0:World} {μ:List Pl} {h:Zaa} {w:World}

structure St (P:Program) (base N:Nat) (w0:World) (μ:List Pl) (env:Env) (h:Zaa) (a:Act) (w:World):Prop where
 rel:Rel P base w0 μ h w
 env:Zoa μ env a.tmps
 size:a.tmps.size=N
 defers:a.defers=[]

def Yqh (P:Program) (base N:Nat) (w0:World) (μ:List Pl) (K:Env→Zaa→Prop) (a:Act) (w:World):Prop:=
 ∃ μ' env h,Ext μ μ'∧St P base N w0 μ' env h a w∧K env h

theorem St.put {env:Env} {a:Act} (s:St P base N w0 μ env h a w) {μ':List Pl} {h':Zaa} {w':World} (he:Ext μ μ') (hr:Rel P base w0 μ' h' w') {v:Zat} {x:Value} (hv:VR μ' v x) {d:Option Tmp} {K:Env→Prop} (hk:Zsp N env d v K) :
  ∃ env',St P base N w0 μ' env' h' (a.put d x) w'∧K env':=by
 unfold Zsp at hk
 cases d with
 | none=>exact ⟨env,⟨hr,s.env.ext he,s.size,s.defers⟩,hk⟩
 | some d=>
  replace hk:=Zcb hk
  obtain ⟨hd,hk⟩:=hk
  refine ⟨_,⟨hr,(s.env.ext he).set (by rw [s.size]; exact hd) hv,?_,s.defers⟩,hk⟩
  simp [Act.put,s.size]

theorem St.know {env:Env} {a:Act} (s:St P base N w0 μ env h a w) {t:Nat} {v:Zat} (hv:VR μ v (a.tmps.getD t undef)):St P base N w0 μ (env.set t v) h a w:=
 ⟨s.rel,s.env.know hv,s.size,s.defers⟩

theorem Res.wp {o:Oper} {a:Act} {K:Zat→Zaa→Prop} {next:Act→World→Prop} {Q:Exit→Act→World→Prop} {s:Sem Value}
  (hr:Res P base w0 μ (s.run P w) K) (he:(execOp a.eval o).run P w=(s.run P w).andThen fun x w'=>.ok (.value x) w')
  (hn:∀ x w' μ' v h',Ext μ μ'→Rel P base w0 μ' h' w'→VR μ' v x→K v h'→next (a.put o.dst x) w'):o.wp P a w next Q:=by
 obtain ⟨x,w',μ',v,h',hrun,hx,hrel,hv,hk⟩:=hr
 unfold Oper.wp
 rw [he,hrun]
 exact hn x w' μ' v h' hx hrel hv hk

theorem Yta {env:Env} {a:Act} (s:St P base N w0 μ env h a w) {f:FuncId} {args:List Zat} {xs:Array Value} (hxs:VRs μ args xs.toList) {K:Zat→Zaa→Prop} (hk:Zaj P f args h K)
  {o:Oper} (he:(execOp a.eval o).run P w=(callFunc f xs).run P w) {next:Act→World→Prop} {Q:Exit→Act→World→Prop}
  (hn:∀ x w' μ' v h',Ext μ μ'→Rel P base w0 μ' h' w'→VR μ' v x→K v h'→next (a.put o.dst x) w'):o.wp P a w next Q:=by
 obtain ⟨⟨fn,hf,hb,hname⟩,hc⟩:=hk
 have hcall:(callFunc f xs).run P w=.ok (.enter f xs) w:=by
  obtain ⟨c,hc⟩:=Option.isSome_iff_exists.1 hb
  have hname' : fn.name ≠ "runtime.NumGoroutine" := by simpa using hname
  simp [callFunc,hf,hc,hname']
 unfold Oper.wp
 rw [he,hcall]
 refine (hc base w0 μ w xs s.rel hxs).mono ?_
 rintro e w' ⟨x,μ',v,h',rfl,hx,hr,hv,hq⟩
 exact hn x w' μ' v h' hx hr hv hq

theorem VRs.single {v:Zat} {xs:Array Value} (h:VRs μ [v] xs.toList):∃ x,xs=#[x]∧VR μ v x:=by
 obtain ⟨l⟩:=xs
 match l,h with
 | [x],.cons a .nil=>exact ⟨x,rfl,a⟩
theorem Yse {env:Env} {a:Act} (s:St P base N w0 μ env h a w) {o:Oper} {K:Zat→Zaa→Prop} (hk:opA P env h o K) {next:Act→World→Prop} {Q:Exit→Act→World→Prop}
  (hn:∀ x w' μ' v h',Ext μ μ'→Rel P base w0 μ' h' w'→VR μ' v x→K v h'→next (a.put o.dst x) w'):o.wp P a w next Q:=by
 have hρ:=Yuk s.env
 have pure:Ztr P env o (fun v=>K v h)→o.wp P a w next Q:=fun hk=>by
  obtain ⟨x,v,hr,hv,hk⟩:=Yss hρ hk
  unfold Oper.wp
  rw [hr w]
  exact hn x w μ v h (Ext.refl _) s.rel hv hk
 unfold opA at hk
 split at hk
 ·rename_i t p he
  replace hk:=Zcb hk
  obtain ⟨hu,hk⟩:=hk
  obtain ⟨y,v,hr,hv,hk⟩:=Yon s.rel (hρ p) hu hk
  unfold Oper.wp
  simp only [execOp,he,Sem.run_bind,hr,Result.andThen_ok,Sem.run_pure]
  exact hn y w μ v h (Ext.refl _) s.rel hv hk
 ·rename_i t p x he
  replace hk:=Zcb hk
  obtain ⟨hu,hk⟩:=hk
  obtain ⟨w',h',hr,hrel,hk⟩:=Yqn s.rel (hρ p) (hρ x) hu hk
  unfold Oper.wp
  simp only [execOp,he,Sem.run_bind,hr,Result.andThen_ok,Sem.run_pure]
  exact hn undef w' μ .undef h' (Ext.refl _) hrel (.undef _) hk
 ·rename_i t he
  exact Res.wp (Yqx s.rel hk) (by simp [execOp,he]) hn
 ·rename_i t x he
  exact Res.wp (Yvb s.rel (hρ x) hk) (by simp [execOp,he]) hn
 ·rename_i t ps he
  obtain ⟨h1,h2⟩:=Yhe hρ ps
  obtain ⟨x,v,hr,hv,hk⟩:=Ypz h1 h2 hk
  unfold Oper.wp
  simp only [execOp,he,Sem.run_bind,hr w,Result.andThen_ok,Sem.run_pure]
  exact hn x w μ v h (Ext.refl _) s.rel hv hk
 ·rename_i t n ps he
  obtain ⟨h1,h2⟩:=Yhe hρ ps
  exact Res.wp (Ybu s.rel h1 h2 hk) (by simp [execOp,he]) hn
 ·rename_i c he
  unfold Ylz at hk
  split at hk
  ·rename_i f hcal
   have go:∀ (f:Operand),c.callee=.value f→∀ (g:FuncId) (caps:List Zat),ev env f=.fn g caps→Zaj P g (c.args.toList.map (ev env) ++ caps) h K→o.wp P a w next Q:=by
    intro f hcal g caps hev hk
    have hf:=hρ f
    rw [hev] at hf
    cases hfv:a.eval f with
    | func fn first cap=>
     rw [hfv] at hf
     cases hf with
     | fn hcaps=>
     refine Yta s (xs:=c.args.map a.eval ++ cap) (by rw [Array.toList_append]; exact (Zvq hρ c.args).append hcaps) hk ?_ hn
     simp [execOp,he,resolve,hcal,hfv,Deferred.ofValue,invoke]
    | _=>rw [hfv] at hf; cases hf
   split at hk
   ·rename_i g
    exact go _ hcal g [] rfl (Zaj.mono hk fun _ _ hq=>Yen (K:=fun v=>K v _) hq)
   ·unfold Yvv Yus at hk
    split at hk
    ·rename_i g caps hev
     exact go _ hcal g caps hev (Zaj.mono hk fun _ _ hq=>Yen (K:=fun v=>K v _) hq)
    ·exact hk.elim
  ·rename_i hcal
   split at hk
   ·rename_i t u hts
    replace hk:=Zcb hk
    obtain ⟨rfl,hk⟩:=hk
    split at hk
    ·rename_i sv xv hargs
     have hvs:=Zvq hρ c.args
     rw [hargs] at hvs
     obtain ⟨x,y,hxy,h1,h2⟩:=hvs.two
     refine Res.wp (Ylc (ty:=o.type) s.rel h1 h2 hk) ?_ fun x w' μ' v h' hx hr hv hk=>(by obtain ⟨v2,hv2,hk⟩:=Znp hk; cases hv2; exact hn x w' μ' v h' hx hr hv hk)
     have hat:c.argTypes=#[u,u]:=by
      apply Array.ext'; simpa using hts
     simp [execOp,he,resolve,hcal,invoke,builtin,hxy,hat]
    ·exact hk.elim
   ·exact hk.elim
  ·rename_i hcal
   split at hk
   ·rename_i a b hargs
    have hvs:=Zvq hρ c.args
    rw [hargs] at hvs
    obtain ⟨x,y,hxy,h1,h2⟩:=hvs.two
    obtain ⟨v,z,hr,hv,hk⟩:=Yto (ts:=c.argTypes) (t:=o.type) h1 h2 hk
    exact Res.wp (s:=Builtin.min_ c.argTypes o.type #[x,y]) ⟨z,w,μ,v,h,hr w,Ext.refl _,s.rel,hv,hk⟩ (by simp [execOp,he,resolve,hcal,invoke,builtin,hxy]) hn
   ·exact hk.elim
  ·rename_i hcal
   split at hk
   ·rename_i t hts
    split at hk
    ·rename_i x1 hargs
     have hvs:=Zvq hρ c.args
     rw [hargs] at hvs
     obtain ⟨x,hxy,h1⟩:=hvs.single
     refine Res.wp (Yoz (ty:=o.type) s.rel h1 hk) ?_ hn
     have hat:c.argTypes=#[t]:=by
      apply Array.ext'; simpa using hts
     simp [execOp,he,resolve,hcal,invoke,builtin,hxy,hat]
    ·exact hk.elim
   ·exact hk.elim
  ·exact pure hk
 ·rename_i t l c he
  exact Res.wp (Yed s.rel (hρ l) (hρ c) hk) (by simp [execOp,he]) hn
 ·rename_i t m he
  refine Res.wp (Ykh (x:=m.map a.eval) s.rel ?_ hk) (by simp [execOp,he]) hn
  cases m with
  | none=>exact .inl ⟨rfl,rfl⟩
  | some m=>exact .inr ⟨_,_,rfl,rfl,hρ m⟩
 ·rename_i t x i ok he
  obtain ⟨z,v,hr,hv,hk⟩:=Yks s.rel (hρ x) (hρ i) hk
  exact Res.wp (s:=Instr.lookup t (a.eval x) (a.eval i) ok) ⟨z,w,μ,v,h,hr,Ext.refl _,s.rel,hv,hk⟩ (by simp [execOp,he]) hn
 ·rename_i t m k x he
  obtain ⟨w',h',hr,hrel,hk⟩:=Yeo s.rel (hρ m) (hρ k) (hρ x) hk
  unfold Oper.wp
  simp only [execOp,he,Sem.run_bind,hr,Result.andThen_ok,Sem.run_pure]
  exact hn undef w' μ .undef h' (Ext.refl _) hrel (.undef _) hk
 ·rename_i t x he
  exact Res.wp (Yrd s.rel (hρ x) hk) (by simp [execOp,he]) hn
 ·rename_i x st he
  exact Res.wp (Ykq (ty:=o.type) s.rel (hρ x) hk) (by simp [execOp,he]) hn
 ·rename_i x he
  obtain ⟨z,v,hr,hv,hk⟩:=Yqp s.rel (hρ x) hk
  exact Res.wp (s:=Instr.entry (a.eval x)) ⟨z,w,μ,v,h,hr,Ext.refl _,s.rel,hv,hk⟩ (by simp [execOp,he]) hn
 ·rename_i a b x he
  split at hk
  ·exact Res.wp (Ytf s.rel (hρ x) hk) (by simp [execOp,he]) hn
  ·exact pure hk
 ·exact pure hk

theorem Yla {tmps:Array Value} {t:Nat} {b:Bool} (h:VR μ (.bool b) (tmps.getD t undef)):tmps[t]?=some (.bool b):=by
 simp only [Array.getD_eq_getD_getElem?] at h
 cases hx:tmps[t]? with
 | none=>rw [hx] at h; simp [undef] at h; cases h
 | some x=>rw [hx] at h; simp at h; cases h; rfl

theorem Ynf {ops:Array Oper} {env:Env} {a:Act} (s:St P base N w0 μ env h a w) {o:Oper} {K:Env→Zaa→Prop} (hk:Zny P N ops env h o K) {next:Act→World→Prop} {Q:Exit→Act→World→Prop}
  (hn:∀ a w,Yqh P base N w0 μ K a w→next a w):if Region.wanted o (yielded ops a.tmps) then o.wp P a w next Q else next (a.put o.dst undef) w:=by
 have fin:∀ {env:Env} {v:Zat} {x:Value} {μ':List Pl} {h':Zaa} {w':World},St P base N w0 μ env h a w→Ext μ μ'→Rel P base w0 μ' h' w'→VR μ' v x→Zsp N env o.dst v (fun env'=>K env' h')→next (a.put o.dst x) w':=by
  intro env v x μ' h' w' s hx hr hv hk
  obtain ⟨env',s',hk⟩:=s.put hx hr hv hk
  exact hn _ _ ⟨μ',env',h',hx,s',hk⟩
 unfold Zny at hk
 split at hk
 ·rename_i hg
  have:Region.wanted o (yielded ops a.tmps)=true:=by simp [Region.wanted,hg]
  rw [if_pos this]
  exact Yse s hk fun x w' μ' v h' hx hr hv hk=>fin s hx hr hv hk
 ·rename_i j want hg
  split at hk
  ·rename_i t ht
   split at hk
   ·rename_i b hb
    have henv:=s.env t
    rw [hb] at henv
    have hy:yielded ops a.tmps j=some b:=by
     unfold yielded
     rw [ht]; simp only [Option.bind_some,Yla henv]
    have hwant:Region.wanted o (yielded ops a.tmps)=(b == want):=by simp [Region.wanted,hg,hy]
    rw [hwant]
    have hknow:∀ c,b=c→St P base N w0 μ (env.set t (.bool c)) h a w:=fun c e=>by subst e; exact s.know henv
    refine Ykl hk ?_ ?_
    ·rintro rfl hk
     have s':=hknow true rfl
     cases want with
     | true=>exact Yse s' hk fun x w' μ' v h' hx hr hv hk=>fin s' hx hr hv hk
     | false=>exact fin s' (Ext.refl _) s.rel (.tup .nil) hk
    ·rintro rfl hk
     have s':=hknow false rfl
     cases want with
     | false=>exact Yse s' hk fun x w' μ' v h' hx hr hv hk=>fin s' hx hr hv hk
     | true=>exact fin s' (Ext.refl _) s.rel (.tup .nil) hk
   ·rename_i hb
    have henv:=s.env t
    rw [hb] at henv
    have hy:yielded ops a.tmps j=none:=by
     unfold yielded
     rw [ht]; simp only [Option.bind_some]
     have:a.tmps[t]?=none ∨ a.tmps[t]?=some (.tuple #[]):=by
      simp only [Array.getD_eq_getD_getElem?] at henv
      cases hx:a.tmps[t]? with
      | none=>exact .inl rfl
      | some x=>
       rw [hx] at henv
       simp only [Option.getD_some] at henv
       cases henv with
       | tup hv => 
        have:=hv.length
        rename_i xs
        have:xs=#[]:=by apply Array.ext'; exact List.eq_nil_of_length_eq_zero (by simpa using this.symm)
        subst this; exact .inr rfl
     rcases this with h | h <;> rw [h]
    have hwant:Region.wanted o (yielded ops a.tmps)=false:=by simp [Region.wanted,hg,hy]
    rw [hwant]
    exact fin s (Ext.refl _) s.rel (.tup .nil) hk
   ·exact hk.elim
  ·exact hk.elim

theorem Yrr {ops:Array Oper} {Q:Exit→Act→World→Prop}:∀ (l:List Oper) {μ:List Pl} {h:Zaa} {w:World} {env:Env} {a:Act},St P base N w0 μ env h a w→∀ {K:Env→Zaa→Prop},Ywa P N ops l env h K →
  (∀ a w,Yqh P base N w0 μ K a w→Q .normal a w)→wpList P ops Q l a w
 | [],μ,h,w,env,a,s,K,hk,hq=>hq a w ⟨μ,env,h,Ext.refl _,s,hk⟩
 | o :: r,μ,h,w,env,a,s,K,hk,hq=>by
  have hstep:=Ynf (next:=wpList P ops Q r) (Q:=Q) s hk (fun a' w' ⟨μ',env',h',hx,s',hk'⟩=>Yrr r s' hk' (fun a w ⟨μ2,env2,h2,hx2,s2,k2⟩=>hq a w ⟨μ2,env2,h2,hx.trans hx2,s2,k2⟩))
  unfold wpList
  split
  ·rename_i hw; rw [if_pos hw] at hstep; exact .inl hstep
  ·rename_i hw; rw [if_neg hw] at hstep; exact hstep
end
end Go.Sim

set_option linter.unusedSimpArgs false
namespace Go.Sim
open Go Go.RowKit

section
variable {P:Program} {K K':Zat→Zaa→Prop} {k k':Zat→Prop}

theorem Yjw {o:Option Zat} {K K':Bool→Prop} (h:Zck o K) (m:∀ b,K b→K' b):Zck o K':=by
 unfold Zck at *; split at h <;> first | exact m _ h | exact h.elim
theorem Yop {q:IntKind} {o:Option Zat} {K K':Int→Prop} (h:Zdt q o K) (m:∀ b,K b→K' b):Zdt q o K':=by
 unfold Zdt at *; split at h <;> first | exact ⟨h.1,m _ h.2⟩ | exact h.elim
theorem Zyz {o:Option Zat} {K K':List Nat→Prop} (h:Zbc o K) (m:∀ b,K b→K' b):Zbc o K':=by
 unfold Zbc at *; split at h <;> first | exact m _ h | exact h.elim
theorem Yns {o:Option Zat} {K K':Option (Nat × Nat)→Prop} (h:Zgm o K) (m:∀ b,K b→K' b):Zgm o K':=by
 unfold Zgm at *; split at h <;> first | exact m _ h | exact h.elim
theorem Ypc {o:Option Zat} {K K':Option (Nat × Nat)→Nat→Nat→Bool→Prop} (h:xSl o K) (m:∀ a b c d,K a b c d→K' a b c d):xSl o K':=by
 unfold xSl at *; split at h <;> first | exact m _ _ _ _ h | exact h.elim
theorem Yme {o:Option Zat} {K K':Option Nat→Prop} (h:Yms o K) (m:∀ b,K b→K' b):Yms o K':=by
 unfold Yms at *; split at h <;> first | exact m _ h | exact h.elim
theorem Zuh {o:Option Zat} (h:Zzn o k) (m:∀ b,k b→k' b):Zzn o k':=by
 unfold Zzn at *; split at h <;> first | exact m _ h | exact h.elim
theorem Yai {cs:List Zat} {K K':Zat→List Zat→Prop} (h:Zai cs K) (m:∀ a b,K a b→K' a b):Zai cs K':=by
 unfold Zai at *; split at h <;> first | exact m _ _ h | exact h.elim
theorem Ydt {cs:List Zat} {K K':Prop} (h:Zbu cs K) (m:K→K'):Zbu cs K':=by
 unfold Zbu at *; split at h <;> first | exact m h | exact h.elim
theorem Zgw {o:Option (List Zat)} {K K':List Zat→Prop} (h:Zcn o K) (m:∀ b,K b→K' b):Zcn o K':=by
 unfold Zcn at *; split at h <;> first | exact m _ h | exact h.elim
theorem Zzx {o:Option Zaa} {K K':Zaa→Prop} (h:Zbn o K) (m:∀ b,K b→K' b):Zbn o K':=by
 unfold Zbn at *; split at h <;> first | exact m _ h | exact h.elim
theorem Ymu {v:Zat} {K K':List Zat→Prop} (h:Zob v K) (m:∀ b,K b→K' b):Zob v K':=by
 unfold Zob at *; split at h <;> first | exact m _ h | exact h.elim
theorem Yne {v:Zat} {K K':List Zat→Prop} (h:Zjx v K) (m:∀ b,K b→K' b):Zjx v K':=by
 unfold Zjx at *; split at h <;> first | exact m _ h | exact h.elim
theorem Zyp {o:Option Field} {K K':Field→Prop} (h:Zsy o K) (m:∀ b,K b→K' b):Zsy o K':=by
 unfold Zsy at *; split at h <;> first | exact m _ h | exact h.elim
theorem Zdh {p:Prop} [Decidable p] {K K':Prop} (h:chk p K) (m:K→K'):chk p K':=by
 unfold chk at *; split at h <;> first | exact m h | exact h.elim
theorem Znd {o:Option Zat} {d:Int} {K K':Int→Prop} (h:Zks o d K) (m:∀ b,K b→K' b):Zks o d K':=by
 unfold Zks at *; split at h <;> first | exact m _ h | exact h.elim
theorem Yjq {b:Bool} {A B A' B':Prop} (h:bcase b A B) (m:A→A') (n:B→B'):bcase b A' B':=by
 unfold bcase at *; split at h <;> first | exact m h | exact n h
theorem Zqb {s:Sh} {o:Option Zat} (h:xv s o k) (m:∀ v,k v→k' v):xv s o k':=by
 cases s <;> simp only [xv] at *
 ·exact Yjw h fun _=>m _
 ·exact Yop h fun _=>m _
 ·exact Zyz h fun _=>m _
 ·exact Yns h fun _=>m _
 ·exact Ypc h fun _ _ _ _=>m _
 ·exact Yme h fun _=>m _
 ·exact Zuh h m
theorem Yeu:∀ {ss:List Sh} {cs:List Zat} {K K':List Zat→Prop},xs ss cs K→(∀ v,K v→K' v)→xs ss cs K'
 | [],_,_,_,h,m=>Ydt h (m _)
 | _ :: _,_,_,_,h,m=>Yai h fun _ _ h=>Zqb h fun _ h=>Yeu h fun _=>m _
theorem Ylu {t:TypeId} {v:Zat} (h:xt P t v k) (m:∀ v,k v→k' v):xt P t v k':=by
 unfold xt at *
 split at h
 ·exact Ymu h fun _ h=>Yeu h fun _=>m _
 ·exact Zqb h m
theorem Yhn:∀ {ts:List TypeId} {cs:List Zat} {K K':List Zat→Prop},xts P ts cs K→(∀ v,K v→K' v)→xts P ts cs K'
 | [],_,_,_,h,m=>Ydt h (m _)
 | _ :: _,_,_,_,h,m=>Yai h fun _ _ h=>Ylu h fun _ h=>Yhn h fun _=>m _
theorem Ycs {ts:List TypeId} {v:Zat} (h:Ysy P ts v k) (m:∀ v,k v→k' v):Ysy P ts v k':=by
 unfold Ysy at *
 split at h
 ·exact m _ h
 ·exact Ylu h m
 ·exact Yne h fun _ h=>Yhn h fun _=>m _
theorem Yjv {t:TypeId} {h:Zaa} {p:Zat} (hh:Zwm P t h p k) (m:∀ v,k v→k' v):Zwm P t h p k':=by
 unfold Zwm at *
 split at hh
 ·exact Zgw hh fun _ h=>Yeu h fun _=>m _
 ·exact Zqb hh m
theorem Yfw {t:TypeId} {h:Zaa} {p v:Zat} {K K':Zaa→Prop} (hh:Yad P t h p v K) (m:∀ v,K v→K' v):Yad P t h p v K':=by
 unfold Yad at *
 split at hh
 ·split at hh
  ·exact Zzx hh m
  ·exact hh.elim
 ·exact hh.elim
theorem Yjy {a b:Option (Nat × Nat)} {K K':Bool→Prop} (h:Ygc a b K) (m:∀ b,K b→K' b):Ygc a b K':=by
 unfold Ygc at *
 split at h
 ·exact m _ h
 ·split at h
  ·exact m _ h
  ·exact h.elim
theorem Zsc {a:Option (Nat × Nat)} {K K':Nat→Nat→Prop} (h:Zbg a K) (m:∀ b o,K b o→K' b o):Zbg a K':=by
 obtain ⟨b,o,rfl,h⟩:=Zbr h
 exact m _ _ h
theorem Ygx {t:TypeId} {x y:Zat} {K K':Bool→Prop} (h:eqA P t x y K) (m:∀ b,K b→K' b):eqA P t x y K':=by
 unfold eqA at *
 split at h <;> (try exact h.elim) <;> split at h <;> (try exact h.elim)
 ·exact Zdh h (m _)
 ·exact m _ h
 ·exact Zdh h (m _)
 ·exact Zdh h fun h=>Yjy h m
 ·split at h
  ·exact m _ h
  ·exact h.elim
 ·exact Zdh h fun h=>⟨h.1,m _ h.2⟩
theorem Ymx {op:BinOp} {t:TypeId} {x y:Zat} (h:Yrm P op t x y k) (m:∀ v,k v→k' v):Yrm P op t x y k':=by
 unfold Yrm at *
 split at h
 ·exact Ygx h fun _=>m _
 ·exact Ygx h fun _=>m _
 ·split at h
  ·split at h
   ·split at h <;> first
     | exact h.elim
     | exact Zdh h (m _)
     | exact Zdh h fun h=>⟨h.1,m _ h.2⟩
     | exact ⟨h.1,m _ h.2⟩
   ·exact h.elim
  ·split at h
   ·split at h <;> first
     | exact h.elim
     | exact ⟨h.1,m _ h.2⟩
     | exact m _ h
   ·exact h.elim
  ·exact h.elim
theorem Zzw {t:TypeId} {cs:List Zat} {off:Nat} (h:Zzo P t cs off k) (m:∀ v,k v→k' v):Zzo P t cs off k':=by
 unfold Zzo at *
 split at h
 ·exact m _ h
 ·exact Zdh h fun h=>Zuh h m
theorem Ylh {ts:Array TypeId} {xs:List Zat} (h:Ysn P ts xs k) (m:∀ v,k v→k' v):Ysn P ts xs k':=by
 unfold Ysn at *
 split at h <;> first | exact h.elim | exact Zdh h (m _)
theorem Ykn {s d:TypeId} {x:Zat} (h:Ygi P s d x k) (m:∀ v,k v→k' v):Ygi P s d x k':=by
 unfold Ygi at *
 split at h
 ·split at h <;> first | exact h.elim | exact Zdh h (m _)
 ·split at h <;> first | exact h.elim | exact Zdh h (m _) | exact Zdh h fun h=>⟨h.1,m _ h.2⟩
 ·exact h.elim
theorem Yex {t:TypeId} {x:Zat} {lo hi mx:Option Zat} (h:Yar P t x lo hi mx k) (m:∀ v,k v→k' v):Yar P t x lo hi mx k':=by
 unfold Yar at *
 split at h
 ·split at h
  ·exact Zdh h fun h=>Znd h fun _ h=>Znd h fun _ h=>⟨h.1,m _ h.2⟩
  ·exact h.elim
 ·split at h
  ·refine Zdh h fun h=>Zdh h fun h=>Znd h fun _ h=>Znd h fun _ h=>Znd h fun _ h=>⟨h.1,?_⟩
   have h2:=h.2
   split at h2
   ·exact ⟨h2.1,m _ h2.2⟩
   ·exact ⟨fun a=>m _ (h2.1 a),fun a=>m _ (h2.2 a)⟩
  ·exact h.elim
 ·exact h.elim
theorem Zvn {env:Env} {o:Oper} (h:Ztr P env o k) (m:∀ v,k v→k' v):Ztr P env o k':=by
 obtain ⟨dst,op,type,pos,after,guard⟩:=o
 unfold Ztr at *
 cases op <;> simp only at h ⊢ <;> (try exact h.elim)
 case move x=>exact m _ h
 case assign x=>exact m _ h
 case pick c a b=>
  unfold Ynb at *
  split at h
  ·exact Yjq h (m _) (m _)
  ·exact h.elim
 case nilCheck x=>
  unfold Yvk at *
  split at h <;> first | exact h.elim | exact m _ h | exact Zsc h fun _ _=>m _
 case fieldAddr t x i=>
  unfold Zhq at *
  split at h
  ·exact Zyp h fun _ h=>Zdh h fun h=>Zdh h fun h=>Zsc h fun _ _=>m _
  ·exact h.elim
 case field t x i=>
  unfold Ydc at *
  split at h
  ·exact Zyp h fun _ h=>Zzw h m
  ·exact h.elim
 case indexAddr t x i=>
  unfold Zpc at *
  split at h
  ·split at h
   ·split at h <;> first | exact h.elim | exact Zdh h fun h=>⟨h.1,Zsc h.2 fun _ _=>m _⟩
   ·split at h <;> first | exact h.elim | exact Zdh h fun h=>⟨h.1,Zsc h.2 fun _ _=>m _⟩
   ·exact h.elim
  ·exact h.elim
 case index t x i=>
  unfold Ydm at *
  split at h
  ·split at h
   ·split at h
    ·exact ⟨h.1,m _ h.2⟩
    ·exact h.elim
   ·split at h
    ·exact Zdh h fun h=>⟨h.1,Zzw h.2 m⟩
    ·exact h.elim
   ·exact h.elim
  ·exact h.elim
 case slice t x lo hi mx=>exact Yex h m
 case binOp op t x y yt=>exact Ymx h m
 case unOp op t x=>
  unfold unA at *
  split at h
  ·split at h <;> first | exact h.elim | exact m _ h
  ·split at h <;> first | exact h.elim | exact m _ h
  ·exact h.elim
 case convert s d x=>exact Ykn h m
 case extract x i=>
  unfold Zuj at *
  split at h
  ·exact Zuh h m
  ·exact h.elim
 case makeFunc fn first caps=>
  cases fn <;> simp only at h ⊢ <;> first | exact h.elim | exact Zdh h (m _)
 case call c=>
  split at h
  ·exact Ylh h m
  ·exact h.elim
theorem Zya {h:Zaa} {j:Nat} {e:TypeId} {A B:List Zat→Prop} (hh:Zrb h j e A) (m:∀ cs,A cs→B cs):Zrb h j e B:=by
 unfold Zrb at *
 split at hh
 ·exact ⟨hh.1,m _ hh.2⟩
 ·exact hh.elim
theorem Ydy {t:TypeId} {h:Zaa} {s x:Zat} (hh:Zcf P t h s x K) (m:∀ v h,K v h→K' v h):Zcf P t h s x K':=by
 unfold Zcf at *
 split at hh <;> (try exact hh.elim)
 split at hh <;> (try exact hh.elim)
 split at hh <;> (try exact hh.elim)
 refine Zgw hh fun new h=>⟨h.1,?_⟩
 have h2:=h.2
 split at h2
 ·exact ⟨fun a=>m _ _ (h2.1 a),fun a=>⟨(h2.2 a).1,m _ _ (h2.2 a).2⟩⟩
 ·rcases h2 with ⟨a,b⟩ | ⟨a,b⟩ | ⟨a,b⟩
  ·exact .inl ⟨a,Zya b fun _ h=>⟨h.1,m _ _ h.2⟩⟩
  ·exact .inr (.inl ⟨a,Zya b fun _ h=>⟨h.1,m _ _ h.2⟩⟩)
  ·exact .inr (.inr ⟨a,Zgw b fun _=>m _ _⟩)
theorem Zyl:∀ {cs:List Zat} {K K':List Nat→Prop},Znt cs K→(∀ s,K s→K' s)→Znt cs K'
 | [],_,_,h,m=>m _ h
 | .int k n :: r,_,_,h,m=>by
  unfold Znt at *
  exact Zdh h fun h=>⟨h.1,Zyl h.2 fun _=>m _⟩
 | .undef :: _,_,_,h,_ | .bool _ :: _,_,_,h,_ | .str _ :: _,_,_,h,_ | .ptr _ :: _,_,_,h,_ | .slice .. :: _,_,_,h,_ | .map _ :: _,_,_,h,_ | .fn .. :: _,_,_,h,_ | .nilFn :: _,_,_,h,_ | .iter _ :: _,_,_,h,_
 | .agg _ :: _,_,_,h,_ | .tup _ :: _,_,_,h,_=>by unfold Znt at h; exact h.elim
theorem Ync {s d:TypeId} {h:Zaa} {x:Zat} {K K':Zat→Prop} (hh:Yti P s d h x K) (m:∀ v,K v→K' v):Yti P s d h x K':=by
 unfold Yti at *
 split at hh
 ·refine Zdh hh fun h=>?_
  split at h
  ·exact Zgw h fun _ h=>Zyl h fun _=>m _
  ·exact h.elim
 ·exact hh.elim
theorem Yog {x y:Zat} {K K':Zat→Prop} (hh:Yth x y K) (m:∀ v,K v→K' v):Yth x y K':=by
 unfold Yth at *
 split at hh
 ·split at hh
  ·exact Zdh hh (m _)
  ·exact hh.elim
 ·exact hh.elim
theorem Zxe {t:TypeId} {a b:Zat} {h:Zaa} {K K':Zat→Zaa→Prop} (hh:Zna P t a b h K) (m:∀ v h,K v h→K' v h):Zna P t a b h K':=by
 unfold Zna at *
 split at hh
 ·refine Zgw hh fun _ h=>Zdh h fun h=>?_
  unfold Zdt at *
  split at h
  ·refine ⟨h.1,?_⟩
   replace h:=h.2
   split at h
   ·exact ⟨h.1,h.2.1,m _ _ h.2.2⟩
   ·exact h.elim
  ·exact h.elim
 ·exact hh.elim
theorem Zly {h:Zaa} {m:Option Nat} {K K':List ME→Nat→Prop} (hh:Zif h m K) (m':∀ a b,K a b→K' a b):Zif h m K':=by
 unfold Zif at *
 split at hh
 ·exact m' _ _ hh
 ·split at hh
  ·exact m' _ _ hh
  ·exact hh.elim
theorem Ykb {es:List ME} {s:List Nat} {K K':Option Zat→Prop} (hh:Zzh es s K) (m:∀ a,K a→K' a):Zzh es s K':=by
 unfold Zzh at *; split at hh <;> first | exact m _ hh | exact hh.elim
theorem Ykv {es:List ME} {clk:Nat} {s:List Nat} {v:Zat} {K K':List ME→Nat→Prop} (hh:Yox es clk s v K) (m:∀ a b,K a b→K' a b):Yox es clk s v K':=by
 unfold Yox at *; split at hh <;> first | exact m _ _ hh | exact hh.elim
theorem Ygu {m:Option Nat} {K K':Nat→Prop} (hh:xMp m K) (mm:∀ a,K a→K' a):xMp m K':=by
 unfold xMp at *; split at hh <;> first | exact mm _ hh | exact hh.elim
theorem Ykm {h:Zaa} {r:Nat} {K K':List Nat→Nat→Prop} (hh:Yjf h r K) (m:∀ a b,K a b→K' a b):Yjf h r K':=by
 unfold Yjf at *; split at hh <;> first | exact m _ _ hh | exact hh.elim
theorem Zxz {h:Zaa} {r:Nat} {K K':Option Nat→Nat→List Nat→Nat→Prop} (hh:Zxm h r K) (m:∀ a b c d,K a b c d→K' a b c d):Zxm h r K':=by
 unfold Zxm at *; split at hh <;> first | exact m _ _ _ _ hh | exact hh.elim
theorem Ydf {t:TypeId} {h:Zaa} {x i:Zat} {ok:Bool} (hh:Zvf P t h x i ok k) (m:∀ v,k v→k' v):Zvf P t h x i ok k':=by
 unfold Zvf at *
 split at hh
 ·refine Zdh hh fun h=>?_
  split at h
  ·exact Zyz h fun _ h=>Zuh h fun _ h=>Zly h fun _ _ h=>Ykb h fun _ h=>Zqb h fun _=>m _
  ·exact h.elim
 ·exact hh.elim
theorem Zze {t:TypeId} {h:Zaa} {x i v:Zat} (hh:Znb P t h x i v K) (m:∀ v h,K v h→K' v h):Znb P t h x i v K':=by
 unfold Znb at *
 split at hh
 ·refine Zdh hh fun h=>?_
  split at h
  ·exact Ygu h fun _ h=>Zyz h fun _ h=>Zly h fun _ _ h=>Ykv h fun _ _=>m _ _
  ·exact h.elim
 ·exact hh.elim
theorem Ybq {t:TypeId} {r:Option Zat} {h:Zaa} (hh:Zse P t r h K) (m:∀ v h,K v h→K' v h):Zse P t r h K':=by
 unfold Zse at *
 split at hh <;> first | exact m _ _ hh | exact Zdh hh (m _ _) | exact hh.elim
theorem Yew {t:TypeId} {x:Zat} {h:Zaa} (hh:Yaa P t x h K) (m:∀ v h,K v h→K' v h):Yaa P t x h K':=by
 unfold Yaa at *
 split at hh <;> first | exact hh.elim | exact Zdh hh (m _ _) | exact Zdh hh fun h=>Zly h fun _ _=>m _ _
theorem Ynq {m:Option Nat} {A B A' B':Prop} (hh:Yvl m A B) (p:A→A') (q:B→B'):Yvl m A' B':=by
 unfold Yvl at *; split at hh <;> first | exact p hh | exact q hh
theorem Yjr {ty:TypeId} {x:Zat} {st:Bool} {h:Zaa} (hh:Yja P ty x st h K) (m:∀ v h,K v h→K' v h):Yja P ty x st h K':=by
 unfold Yja at *
 split at hh
 ·split at hh
  ·exact Ykm hh fun _ _ h=>⟨fun a=>⟨(h.1 a).1,m _ _ (h.1 a).2⟩,fun a=>m _ _ (h.2 a)⟩
  ·exact Zxz hh fun _ _ _ _ h=>Ynq h (m _ _) fun h=>Zly h fun _ _ h=>⟨h.1,fun a=>m _ _ (h.2.1 a),fun e he hn=>Zqb (h.2.2 e he hn) fun _ h=>Zqb h fun _=>m _ _⟩
 ·exact hh.elim
theorem Ygk {ty:TypeId} {x:Zat} {h:Zaa} (hh:Zzv P ty x h k) (m:∀ v,k v→k' v):Zzv P ty x h k':=by
 unfold Zzv at *
 split at hh
 ·exact Zxz hh fun _ _ _ _ h=>Ygu h fun _ h=>Zly h fun _ _ h=>⟨h.1,h.2.imp fun _ h=>⟨h.1,h.2.imp fun _ h=>⟨h.1,Zqb h.2 fun _ h=>Zqb h fun _=>m _⟩⟩⟩
 ·exact hh.elim
theorem Yqi {env:Env} {h:Zaa} {o:Oper} (hh:opA P env h o K) (m:∀ v h,K v h→K' v h):opA P env h o K':=by
 obtain ⟨dst,op,type,pos,after,guard⟩:=o
 unfold opA at *
 cases op <;> simp only at hh ⊢
 case load t a=>exact Zdh hh fun h=>Yjv h fun _=>m _ _
 case store t a x=>exact Zdh hh fun h=>Yfw h fun _=>m _ _
 case alloc t=>exact Zgw hh fun _=>m _ _
 case box t x=>exact Zgw hh fun _=>m _ _
 case build t ps=>
  refine Zgw hh fun _ h=>?_
  split at h
  ·exact Zdh h fun h=>Zgw h fun _=>m _ _
  ·exact Zdh h fun h=>Zgw h fun _=>m _ _
  ·exact h.elim
 case buildSlice t n ps=>
  unfold Zqd at *
  split at hh
  ·exact Zgw hh fun _ h=>Zdh h fun h=>Zgw h fun _=>m _ _
  ·exact hh.elim
 case call c=>
  unfold Ylz at *
  split at hh
  ·split at hh
   ·exact Zaj.mono hh fun _ _ h=>Ycs h fun _=>m _ _
   ·unfold Yvv Yus at *
    split at hh
    ·exact Zaj.mono hh fun _ _ h=>Ycs h fun _=>m _ _
    ·exact hh.elim
  ·split at hh
   ·refine Zdh hh fun h=>?_
    split at h
    ·exact Ydy h fun _ _ h=>Zqb h fun _=>m _ _
    ·exact h.elim
   ·exact hh.elim
  ·split at hh
   ·exact Yog hh fun _=>m _ _
   ·exact hh.elim
  ·split at hh
   ·split at hh
    ·unfold Yik at *
     split at hh
     ·split at hh
      ·refine ⟨fun h0=>m _ _ (hh.1 h0),fun h0=>Zgw (hh.2 h0) fun _ h=>Zdh h fun h=>Zzx h fun _=>m _ _⟩
      ·exact hh.elim
     ·exact hh.elim
    ·exact hh.elim
   ·exact hh.elim
  ·exact Zvn hh fun _=>m _ _
 case makeSlice t l c=>exact Zxe hh m
 case makeMap t r=>exact Ybq hh m
 case lookup t x i ok=>exact Ydf hh fun _=>m _ _
 case mapUpdate t mm k v=>exact Zze hh m
 case range t x=>exact Yew hh m
 case next x st=>exact Yjr hh m
 case entry x=>exact Ygk hh fun _=>m _ _
 case convert s d x=>
  split at hh
  ·exact Ync hh fun _=>m _ _
  ·exact Zvn hh fun _=>m _ _
 all_goals exact Zvn hh fun _=>m _ _
end
end Go.Sim

set_option linter.unusedSimpArgs false
namespace Go.Sim
open Go Go.RowKit

def Det {α:Type} (F:(α→Prop)→Prop):Prop:=∀ k,F k→∃ v,k v∧∀ k',k' v→F k'
theorem Det.ret {α:Type} (a:α):Det (fun k=>k a):=fun _ h=>⟨a,h,fun _ h=>h⟩
theorem Det.no {α:Type}:Det (fun _:α→Prop=>False):=fun _ h=>h.elim
theorem Det.and {α:Type} {p:Prop} {F:(α→Prop)→Prop} (d:Det F):Det (fun k=>p∧F k):=fun k ⟨hp,h⟩=>let ⟨v,hv,r⟩:=d k h; ⟨v,hv,fun k' h'=>⟨hp,r k' h'⟩⟩
theorem Det.chk {α:Type} {p:Prop} [Decidable p] {F:(α→Prop)→Prop} (d:Det F):Det (fun k=>chk p (F k)):=fun k h=>by
 have ⟨hp,h⟩:=Zcb h
 obtain ⟨v,hv,r⟩:=d k h
 exact ⟨v,hv,fun k' h'=>by unfold Sim.chk; rw [decide_eq_true hp]; exact r k' h'⟩
theorem Det.bind {α β:Type} {F:(α→Prop)→Prop} {G:α→(β→Prop)→Prop} (d:Det F) (e:∀ a,Det (G a)):Det (fun k=>F fun a=>G a k):=fun k h=>by
 obtain ⟨a,ha,r⟩:=d _ h
 obtain ⟨b,hb,q⟩:=e a k ha
 exact ⟨b,hb,fun k' h'=>r _ (q k' h')⟩
theorem Det.map {α β:Type} {F:(α→Prop)→Prop} (d:Det F) (f:α→β):Det (fun k=>F fun a=>k (f a)):=d.bind fun a=>Det.ret (f a)
theorem Det.bcase {α:Type} {b:Bool} {F G:(α→Prop)→Prop} (d:Det F) (e:Det G):Det (fun k=>bcase b (F k) (G k)):=by cases b <;> assumption

section
variable {P:Program}
theorem Ylq (s:Sh) (o:Option Zat):Det (xv s o):=by
 intro k h
 cases s <;> simp only [xv,Zck,Zbc,Zgm,xSl,Yms,Zzn,Zdt] at * <;> split at h <;> first
  | exact h.elim
  | exact ⟨_,h,fun _ h=>h⟩
  | exact ⟨_,h.2,fun _ h'=>⟨h.1,h'⟩⟩
theorem Yio (o:Option Zat):Det (Zzn o):=Ylq .any o
theorem Zwt (o:Option (List Zat)):Det (Zcn o):=fun k h=>by
 unfold Zcn at *; split at h <;> first | exact ⟨_,h,fun _ h=>h⟩ | exact h.elim
theorem Yrv:∀ (ss:List Sh) (cs:List Zat),Det (xs ss cs)
 | [],cs=>fun k h=>by
  simp only [xs,Zbu] at *; split at h <;> first | exact ⟨_,h,fun _ h=>h⟩ | exact h.elim
 | s :: ss,cs=>fun k h=>by
  simp only [xs,Zai] at *
  split at h
  ·exact ((Ylq s _).bind (G:=fun v k=>xs ss _ fun vs=>k (v :: vs)) fun v=>(Yrv ss _).map (v :: ·)) k h
  ·exact h.elim
theorem Ymg (t:TypeId) (h:Zaa) (p:Zat):Det (Zwm P t h p):=by
 intro k hh
 unfold Zwm at *
 split at hh
 ·exact ((Zwt _).bind (G:=fun cs k=>xs _ cs fun vs=>k (.agg vs)) fun cs=>(Yrv _ cs).map Zat.agg) k hh
 ·exact Ylq _ _ k hh
theorem Yno (a b:Option (Nat × Nat)):Det (Ygc a b):=by
 intro k h
 unfold Ygc at *
 split at h
 ·exact ⟨_,h,fun _ h=>h⟩
 ·split at h
  ·exact ⟨_,h,fun _ h=>h⟩
  ·exact h.elim
theorem Zui (a:Option (Nat × Nat)) (f:Nat→Nat→Zat):Det (fun k:Zat→Prop=>Zbg a fun b o=>k (f b o)):=by
 intro k h
 obtain ⟨b,o,rfl,h⟩:=Zbr h
 exact ⟨_,h,fun _ h=>h⟩
theorem Ylb (t:TypeId) (x y:Zat):Det (eqA P t x y):=by
 intro k h
 unfold eqA at *
 split at h <;> (try exact h.elim) <;> split at h <;> (try exact h.elim)
 ·exact (Det.ret _).chk k h
 ·exact ⟨_,h,fun _ h=>h⟩
 ·exact (Det.ret _).chk k h
 ·exact (Yno _ _).chk k h
 ·split at h
  ·exact ⟨_,h,fun _ h=>h⟩
  ·exact h.elim
 ·exact (Det.ret _).and.chk k h
theorem Yps (op:BinOp) (t:TypeId) (x y:Zat):Det (Yrm P op t x y):=by
 intro k h
 unfold Yrm at *
 split at h
 ·exact (Ylb t x y).map _ k h
 ·exact (Ylb t x y).map _ k h
 ·split at h
  ·split at h
   ·split at h <;> first
     | exact h.elim
     | exact (Det.ret _).chk k h
     | exact (Det.ret _).and.chk k h
     | exact (Det.ret _).and k h
   ·exact h.elim
  ·split at h
   ·split at h <;> first
     | exact h.elim
     | exact (Det.ret _).and k h
     | exact ⟨_,h,fun _ h=>h⟩
   ·exact h.elim
  ·exact h.elim
theorem Ycd (t:TypeId) (cs:List Zat) (off:Nat):Det (Zzo P t cs off):=by
 intro k h
 unfold Zzo at *
 split at h
 ·exact ⟨_,h,fun _ h=>h⟩
 ·exact (Yio _).chk k h
theorem Zoy (o:Option Zat) (d:Int):Det (Zks o d):=fun k h=>by
 unfold Zks at *; split at h <;> first | exact ⟨_,h,fun _ h=>h⟩ | exact h.elim
theorem Ycj (o:Option Field):Det (Zsy o):=fun k h=>by
 unfold Zsy at *; split at h <;> first | exact ⟨_,h,fun _ h=>h⟩ | exact h.elim
theorem Ycu (s:List Nat) (lo hi:Option Zat):Det (Zuk s lo hi):=by
 unfold Zuk
 exact (Zoy hi s.length).bind fun h=>(Zoy lo 0).bind fun l=>(Det.ret _).and
theorem Yfh (a:Option (Nat × Nat)) (len cap:Nat) (ex:Bool) (sz:Nat) (lo hi mx:Option Zat):Det (Zhu a len cap ex sz lo hi mx):=by
 unfold Zhu
 refine (Zoy mx cap).bind fun m=>(Zoy hi len).bind fun h=>(Zoy lo 0).bind fun l=>Det.and ?_
 intro k hk
 split at hk
 ·exact (Det.ret _).and k hk
 ·rename_i b o
  by_cases hlm:l < m
  ·exact ⟨_,hk.1 hlm,fun k' h'=>⟨fun _=>h',fun h=>absurd hlm h⟩⟩
  ·exact ⟨_,hk.2 hlm,fun k' h'=>⟨fun h=>absurd h hlm,fun _=>h'⟩⟩
theorem Ynz (env:Env) (o:Oper):Det (Ztr P env o):=by
 intro k h
 obtain ⟨dst,op,type,pos,after,guard⟩:=o
 unfold Ztr at *
 cases op <;> simp only at h ⊢ <;> (try exact h.elim)
 case move x=>exact ⟨_,h,fun _ h=>h⟩
 case assign x=>exact ⟨_,h,fun _ h=>h⟩
 case pick c a b=>
  unfold Ynb at *
  split at h
  ·exact (Det.ret _).bcase (Det.ret _) k h
  ·exact h.elim
 case nilCheck x=>
  unfold Yvk at *
  split at h <;> first | exact h.elim | exact ⟨_,h,fun _ h=>h⟩ | exact Zui _ (fun b o=>.ptr (some (b,o))) k h
 case fieldAddr t x i=>
  unfold Zhq at *
  split at h
  ·rename_i a _
   exact (Det.bind (F:=Zsy (Zyd P t i)) (G:=fun (f:Field) (k:Zat→Prop)=>chk ((P.underlying f.type).isSome=true) (chk (P.cellsOf f.type≠0) (Zbg a fun b o=>k (Zat.ptr (some (b,o + f.offset)))))) (Ycj _) fun f=>Det.chk (Det.chk (Zui a fun b o=>Zat.ptr (some (b,o + f.offset))))) k h
  ·exact h.elim
 case field t x i=>
  unfold Ydc at *
  split at h
  ·exact (Ycj _).bind (G:=fun f k=>Zzo P f.type _ f.offset k) (fun f=>Ycd _ _ _) k h
  ·exact h.elim
 case indexAddr t x i=>
  unfold Zpc at *
  split at h
  ·split at h
   ·split at h <;> first | exact h.elim | exact (Zui _ (fun b o=>Zat.ptr (some (b,o + _)))).and.chk k h
   ·split at h <;> first | exact h.elim | exact (Zui _ (fun b o=>Zat.ptr (some (b,o + _)))).and.chk k h
   ·exact h.elim
  ·exact h.elim
 case index t x i=>
  unfold Ydm at *
  split at h
  ·split at h
   ·split at h
    ·exact (Det.ret _).and k h
    ·exact h.elim
   ·split at h
    ·exact (Ycd _ _ _).and.chk k h
    ·exact h.elim
   ·exact h.elim
  ·exact h.elim
 case slice t x lo hi mx=>
  unfold Yar at *
  split at h
  ·split at h
   ·exact (Ycu _ _ _).chk k h
   ·exact h.elim
  ·split at h
   ·exact (Yfh _ _ _ _ _ _ _ _).chk.chk k h
   ·exact h.elim
  ·exact h.elim
 case binOp op t x y yt=>exact Yps _ _ _ _ k h
 case unOp op t x=>
  unfold unA at *
  split at h
  ·split at h <;> first | exact h.elim | exact ⟨_,h,fun _ h=>h⟩
  ·split at h <;> first | exact h.elim | exact ⟨_,h,fun _ h=>h⟩
  ·exact h.elim
 case convert s d x=>
  unfold Ygi at *
  split at h
  ·split at h <;> first | exact h.elim | exact (Det.ret _).chk k h
  ·split at h <;> first | exact h.elim | exact (Det.ret _).chk k h | exact (Det.ret _).and.chk k h
  ·exact h.elim
 case extract x i=>
  unfold Zuj at *
  split at h
  ·exact Yio _ k h
  ·exact h.elim
 case makeFunc fn first caps=>
  cases fn <;> simp only at h ⊢ <;> first | exact h.elim | exact (Det.ret _).chk k h
 case call c=>
  split at h
  ·unfold Ysn at *
   split at h <;> first | exact h.elim | exact (Det.ret _).chk k h
  ·exact h.elim

def Yaz (P:Program) (op:Op):Bool:=
 match op with
 | .move _ | .assign _ | .pick .. | .binOp .. | .unOp .. | .nilCheck _ | .extract .. | .field .. | .fieldAddr .. | .indexAddr .. | .index .. | .slice .. | .makeFunc .. | .build ..=>true
 | .call c=>(match c.callee with | .builtin .len=>true | _=>false)
 | .convert s _ _=>!Yix P s
 | _=>false
def Ypo (op:Op):Bool:=match op with | .load ..=>true | _=>false
def Yjx (P:Program) (env:Env) (o:Oper) (k:Zat→Prop):Prop:=
 match o.op with
 | .build t ps=>Yly P t (parts env ps) k
 | _=>Ztr P env o k
theorem Ylg (env:Env) (o:Oper):Det (Yjx P env o):=by
 intro k h
 unfold Yjx at *
 split at h
 ·refine (Zwt _).bind (G:=fun z k=>_) (fun z=>?_) k h
  intro k h
  split at h
  ·exact ((Zwt _).map _).chk k h
  ·exact ((Zwt _).map _).chk k h
  ·exact h.elim
 ·exact Ynz env o k h
theorem Zxl {env:Env} {h:Zaa} {o:Oper} (hr:Yaz P o.op=true) {K:Zat→Zaa→Prop}:opA P env h o K ↔ Yjx P env o fun v=>K v h:=by
 obtain ⟨dst,op,type,pos,after,guard⟩:=o
 cases op <;> simp only [Yaz,Bool.false_eq_true] at hr <;> try (simp only [opA,Yjx]; done)
 case call c=>
  simp only [opA,Yjx,Ylz]
  split at hr
  ·rename_i hc; simp [hc]
  ·cases hr
 case convert s d x=>
  simp only [Bool.not_eq_true'] at hr
  simp only [opA,Yjx,hr]

theorem Zxq {env env':Env} {ps:Array (Nat × Operand)} (hx:∀ x∈ps.map (·.2),ev env x=ev env' x):parts env ps=parts env' ps:=by
 unfold parts
 refine List.map_congr_left fun p hp=>?_
 rw [hx p.2 (Array.mem_map.2 ⟨p,by simpa using hp,rfl⟩)]
theorem Yab {env env':Env} {xs:Array Operand} (hx:∀ x∈xs,ev env x=ev env' x):xs.toList.map (ev env)=xs.toList.map (ev env'):=
 List.map_congr_left fun x hp=>hx x (by simpa using hp)
theorem Zxs {env env':Env} {h:Zaa} {o:Oper} (hx:∀ x∈o.op.operands,ev env x=ev env' x) {K:Zat→Zaa→Prop}:opA P env h o K ↔ opA P env' h o K:=by
 obtain ⟨dst,op,type,pos,after,guard⟩:=o
 cases op <;> simp only [Op.operands] at hx <;> simp only [opA,Ztr]
 case build t ps=>rw [Zxq fun x h=>hx x (by simpa using h)]
 case buildSlice t n ps=>rw [Zxq fun x h=>hx x (by simpa using h)]
 case makeFunc fn first caps=>
  have hc:=Yab (xs:=caps) fun x h=>hx x (by simp [h])
  cases fn <;> simp only [hc]
 case call c=>
  simp only [Call.operands] at hx
  have ha:c.args.toList.map (ev env)=c.args.toList.map (ev env'):=Yab fun x h=>hx x (by simp [h])
  simp only [Ylz,Ztr,ha]
  cases hc:c.callee with
  | value f=>
   have hf:ev env f=ev env' f:=hx f (by simp [hc])
   cases f <;> simp only [hf]
  | invoke r m=>exact Iff.rfl
  | builtin b=>cases b <;> exact Iff.rfl
 case slice t x lo hi mx=>
  cases lo <;> cases hi <;> cases mx <;> simp_all
 case makeMap t r=>cases r <;> simp_all
 all_goals (first | rfl | (simp_all; done))
end
end Go.Sim

set_option linter.unusedSimpArgs false
namespace Go.Sim
open Go Go.RowKit

structure Yak where
 i:Nat
 p:Zat
 n:Option Nat
def Yak.ok (d:Yak) (h h':Zaa):Prop:=match d.n with | none=>Zae h' d.p=Zae h d.p | some n=>Zbj h' d.p n=Zbj h d.p n
theorem Yak.ok_refl (d:Yak) (h:Zaa):d.ok h h:=by unfold Yak.ok; split <;> rfl
def Zrh (ops:Array Oper) (j i:Nat):Bool:=match ops[j]? with | some o=>o.after.any (fun e=>Region.binds .any e && e.on == i) | none=>false
def Yei (ops:Array Oper) (j:Nat):List Yak→Zaa→Zaa→Prop→Prop
 | [],_,_,K=>K
 | d :: r,h,h',K=>(match Zrh ops j d.i with | true=>Yei ops j r h h' K | false=>d.ok h h'∧Yei ops j r h h' K)
theorem Zpz {ops:Array Oper} {j:Nat}:∀ {hs:List Yak} {h h':Zaa} {K:Prop},Yei ops j hs h h' K→(∀ d∈hs,Zrh ops j d.i=true ∨ d.ok h h')∧K
 | [],_,_,_,hk=>⟨by simp,hk⟩
 | d :: r,h,h',K,hk=>by
  unfold Yei at hk
  split at hk
  ·rename_i hw
   obtain ⟨a,b⟩:=Zpz hk
   exact ⟨fun x hx=>by rcases List.mem_cons.1 hx with rfl | hx; exact .inl hw; exact a x hx,b⟩
  ·obtain ⟨ho,hk⟩:=hk
   obtain ⟨a,b⟩:=Zpz hk
   exact ⟨fun x hx=>by rcases List.mem_cons.1 hx with rfl | hx; exact .inr ho; exact a x hx,b⟩

def Zwn (P:Program) (N:Nat) (ops:Array Oper) (i:Nat) (env:Env) (h:Zaa) (K:Env→Zaa→Prop):Prop:=
 match ops[i]? with | some o=>Zny P N ops env h o K | none=>K env h
def Zqt (P:Program) (ops:Array Oper) (i:Nat) (env:Env):Yak:=
 match ops[i]? with
 | some o=>(match o.op with
  | .load t a=>(match isAgg P t with | true=>⟨i,ev env a,some (P.cellsOf t)⟩ | false=>⟨i,ev env a,none⟩)
  | _=>⟨i,.undef,none⟩)
 | none=>⟨i,.undef,none⟩
def Ytx (ops:Array Oper) (f:Op→Bool) (i:Nat):Bool:=match ops[i]? with | some o=>f o.op | none=>false
def Yvr (f:Nat→Prop):List Nat→Prop
 | []=>True
 | [i]=>f i
 | i :: r=>f i∧Yvr f r
theorem Ydv {f:Nat→Prop}:∀ {l:List Nat},Yvr f l→∀ i∈l,f i
 | [],_,i,hi=>by simp at hi
 | [j],h,i,hi=>by simp at hi; subst hi; exact h
 | j :: k :: r,h,i,hi=>by
  rcases List.mem_cons.1 hi with rfl | hi
  ·exact h.1
  ·exact Ydv h.2 i hi
def Yfv (P:Program) (N:Nat) (ops:Array Oper) (ks:List Nat) (K:Env→Zaa→Prop):Nat→Array Bool→List Yak→Env→Zaa→Prop
 | 0,listed,_,env,h=>(match Region.ready .any ops listed with | []=>K (env.keep ks) h | _=>False)
 | f + 1,listed,hs,env,h=>
  (match Region.ready .any ops listed with
  | []=>K (env.keep ks) h
  | rs=>(match rs.find? (fun i=>Ytx ops (Yaz P) i && Region.free .any ops listed i) with
   | some i=>Zwn P N ops i env h fun env' h'=>Yfv P N ops ks K f (listed.setIfInBounds i true) hs env' h'
   | none=>(match (match rs with | [_]=>none | _=>rs.find? (fun i=>Ytx ops Ypo i && Region.free .any ops listed i)) with
    | some i=>Zwn P N ops i env h fun env' h'=>Yfv P N ops ks K f (listed.setIfInBounds i true) (Zqt P ops i env :: hs) env' h'
    | none=>Yvr (fun i=>Zwn P N ops i env h fun env' h'=>Yei ops i hs h h' (Yfv P N ops ks K f (listed.setIfInBounds i true) hs env' h')) rs)))

def Ypd (P:Program) (N:Nat) (ops:Array Oper) (K:Env→Zaa→Prop) (hs:List Yak):Nat→Array Bool→Env→Zaa→Prop
 | 0,listed,env,h=>Region.ready .any ops listed=[]∧K env h
 | f + 1,listed,env,h=>(Region.ready .any ops listed=[]→K env h) ∧
  ∀ i∈Region.ready .any ops listed,Zwn P N ops i env h fun env' h'=>(∀ d∈hs,Zrh ops i d.i=true ∨ d.ok h h')∧Ypd P N ops K hs f (listed.setIfInBounds i true) env' h'

def Yga (env env':Env):Prop:=∀ t,env.get t=env'.get t
def Zvp (o:Oper) (env:Env) (v:Zat) (env1:Env):Prop:=∀ t,env1.get t=if o.dst=some t then v else env.get t

section
variable {P:Program} {N:Nat} {ops:Array Oper}

theorem Yfk {env env':Env} {d:Option Tmp} {v:Zat} {K K':Env→Prop} (hk:Zsp N env d v K)
  (hK:∀ env1 env1',(∀ t,env1.get t=if d=some t then v else env.get t)→(∀ t,env1'.get t=if d=some t then v else env'.get t)→K env1→K' env1'):Zsp N env' d v K':=by
 unfold Zsp at *
 cases d with
 | none=>exact hK env env' (by simp) (by simp) hk
 | some d=>
  refine Zdh hk fun hk=>hK _ _ ?_ ?_ hk
  ·intro t; rw [Env.get_set]; by_cases e:t=d <;> simp [e,eq_comm]; exact fun q=>absurd q.symm e
  ·intro t; rw [Env.get_set]; by_cases e:t=d <;> simp [e,eq_comm]; exact fun q=>absurd q.symm e

theorem Zqn {env env':Env} {o:Oper} (hl:∀ t∈o.looksAt ops,env.get t=env'.get t):∀ x∈o.op.operands,ev env x=ev env' x:=fun x hx=>by
 cases x with
 | tmp t=>exact hl t (List.mem_append_left _ (List.mem_filterMap.2 ⟨.tmp t,by simpa using hx,rfl⟩))
 | _=>rfl
theorem Zhc {env:Env} {t:Nat} {v:Zat} (h:env.get t=v) (s:Nat):(env.set t v).get s=env.get s:=by
 rw [Env.get_set]; split
 ·rename_i e; subst e; exact h.symm
 ·rfl
theorem Yry {env env':Env} {h h2:Zaa} {o:Oper} {K K':Env→Zaa→Prop} (hs:Zny P N ops env h o K) (hl:∀ t∈o.looksAt ops,env.get t=env'.get t)
  (hop:∀ (e1 e2:Env),(∀ x∈o.op.operands,ev e1 x=ev e2 x)→(∀ t,e1.get t=env.get t)→∀ (A B:Zat→Zaa→Prop),opA P e1 h o A→(∀ v h',A v h'→B v h')→opA P e2 h2 o B)
  (hun:∀ e1 e2,Yga e1 env→Yga e2 env'→Zsp N e1 o.dst (.tup []) (fun x=>K x h)→Zsp N e2 o.dst (.tup []) (fun x=>K' x h2))
  (hK:∀ v h' env1 env1',Zvp o env v env1→Zvp o env' v env1'→K env1 h'→K' env1' h'):Zny P N ops env' h2 o K':=by
 unfold Zny at *
 cases hg:o.guard with
 | none=>
  simp only [hg] at hs ⊢
  exact hop env env' (Zqn hl) (fun _=>rfl) _ _ hs fun v h' hp=>Yfk hp fun e1 e2 a b k=>hK v h' e1 e2 a b k
 | some g=>
  obtain ⟨j,want⟩:=g
  simp only [hg] at hs ⊢
  cases ht:(ops[j]?).bind (·.dst) with
  | none=>simp only [ht] at hs
  | some t=>
   simp only [ht] at hs ⊢
   have htl:env.get t=env'.get t:=hl t (List.mem_append_right _ (by simp [hg,ht]))
   rw [← htl]
   split at hs
   ·rename_i b hb
    have key:∀ c,b=c→(opA P (env.set t (.bool c)) h o (fun v h'=>Zsp N (env.set t (.bool c)) o.dst v fun env'=>K env' h')→opA P (env'.set t (.bool c)) h2 o (fun v h'=>Zsp N (env'.set t (.bool c)) o.dst v fun env'=>K' env' h')) ∧
      (Zsp N (env.set t (.bool c)) o.dst (.tup []) (fun env'=>K env' h)→Zsp N (env'.set t (.bool c)) o.dst (.tup []) (fun env'=>K' env' h2)):=by
     intro c e
     subst e
     have k1:=Zhc hb
     have k2:=Zhc (htl ▸ hb:env'.get t=.bool b)
     constructor
     ·intro ho
      refine hop _ _ (Zqn fun s hs=>by rw [k1,k2]; exact hl s hs) k1 _ _ ho fun v h' hp=>Yfk hp fun e1 e2 a b k=>hK v h' e1 e2 ?_ ?_ k
      ·intro s; rw [a s,k1]
      ·intro s; rw [b s,k2]
     ·exact hun _ _ k1 k2
    cases b
    ·obtain ⟨k1,k2⟩:=key false rfl
     cases want
     ·exact k1 hs
     ·exact k2 hs
    ·obtain ⟨k1,k2⟩:=key true rfl
     cases want
     ·exact k2 hs
     ·exact k1 hs
   ·exact hun env env' (fun _=>rfl) (fun _=>rfl) hs
   ·exact hs.elim

theorem Zxc {env env':Env} {h:Zaa} {o:Oper} {K K':Env→Zaa→Prop} (hs:Zny P N ops env h o K) (hl:∀ t∈o.looksAt ops,env.get t=env'.get t)
  (hK:∀ v h' env1 env1',Zvp o env v env1→Zvp o env' v env1'→K env1 h'→K' env1' h'):Zny P N ops env' h o K':=
 Yry hs hl (fun e1 e2 hx _ A B ha hm=>Yqi ((Zxs hx).1 ha) hm)
  (fun e1 e2 q1 q2 hp=>Yfk hp fun f1 f2 a b k=>hK _ _ f1 f2 (fun t=>by rw [a t,q1 t]) (fun t=>by rw [b t,q2 t]) k) hK

def Yd (P:Program) (N:Nat) (ops:Array Oper) (o:Oper) (v:Zat) (env:Env) (h:Zaa):Prop:=
 ∀ K:Env→Zaa→Prop,(∀ env1,Zvp o env v env1→K env1 h)→Zny P N ops env h o K

theorem Zuo {K:Env→Zaa→Prop} {hs hs':List Yak} (hsub:∀ d∈hs,d∈hs'):∀ (f:Nat) {listed:Array Bool} {env env':Env} {h:Zaa},(∀ e e' h,Yga e e'→K e h→K e' h)→Yga env env' →
  Ypd P N ops K hs' f listed env h→Ypd P N ops K hs f listed env' h
 | 0,_,_,_,_,hK,he,hh=>⟨hh.1,hK _ _ _ he hh.2⟩
 | f + 1,listed,env,env',h,hK,he,hh=>by
  refine ⟨fun hr=>hK _ _ _ he (hh.1 hr),fun i hi=>?_⟩
  have:=hh.2 i hi
  unfold Zwn at *
  cases ho:ops[i]? with
  | none=>
   rw [ho] at this
   exact ⟨fun d hd=>this.1 d (hsub d hd),Zuo hsub f hK he this.2⟩
  | some o=>
   rw [ho] at this
   refine Zxc this (fun t _=>he t) fun v h' e1 e2 a b k=>⟨fun d hd=>k.1 d (hsub d hd),Zuo hsub f hK (fun t=>?_) k.2⟩
   rw [a t,b t,he t]

theorem Zzy {K:Env→Zaa→Prop} {hs hs':List Yak} (hK:∀ e e' h,Yga e e'→K e h→K e' h) (hsub:∀ d∈hs,d∈hs') {i:Nat} {oi:Oper} {v:Zat} (hi:ops[i]?=some oi) {T:Zaa→Zaa→Prop}
  (hT:∀ j h h1,Zrh ops j i=false→(∀ d∈hs',Zrh ops j d.i=true ∨ d.ok h h1)→T h h1)
  {Y:Env→Zaa→Prop} (hY:∀ env h,Y env h→Yd P N ops oi v env h)
  (hst:∀ env h env1 h1,Y env h→(∀ t∈oi.looksAt ops,env.get t=env1.get t)→T h h1→Y env1 h1) :
  ∀ (fuel:Nat) (listed:Array Bool) (env env1:Env) (h:Zaa),
   (∀ j oj,ops[j]?=some oj→j≠i→listed.getD j true=false→(∀ e∈oj.after,Region.binds .any e=true→e.on≠i)→oi.apart ops oj=true) →
   i∈Region.ready .any ops listed→Y env h→Zvp oi env v env1 →
   Ypd P N ops K hs' fuel (listed.setIfInBounds i true) env1 h→Ypd P N ops K hs (fuel + 1) listed env h:=by
 intro fuel
 have now:∀ (fuel:Nat) (listed:Array Bool) (env env1:Env) (h:Zaa),Y env h→Zvp oi env v env1→Ypd P N ops K hs' fuel (listed.setIfInBounds i true) env1 h →
   Zwn P N ops i env h fun env' h'=>(∀ d∈hs,Zrh ops i d.i=true ∨ d.ok h h')∧Ypd P N ops K hs fuel (listed.setIfInBounds i true) env' h':=by
  intro fuel listed env env1 h hy ha H
  unfold Zwn
  rw [hi]
  exact hY _ _ hy _ fun env2 h2=>⟨fun d _=>.inr (d.ok_refl h),Zuo hsub fuel hK (fun t=>by rw [ha t,h2 t]) H⟩
 induction fuel with
 | zero=>
  intro listed env env1 h _ hr hy ha H
  refine ⟨fun e=>(by rw [e] at hr; cases hr),fun j hj=>?_⟩
  by_cases hji:j=i
  ·subst hji; exact now 0 listed env env1 h hy ha H
  ·have:=ready_mono hj hji
   rw [H.1] at this
   cases this
 | succ fuel ih=>
  intro listed env env1 h hfree hr hy ha H
  refine ⟨fun e=>(by rw [e] at hr; cases hr),fun j hj=>?_⟩
  by_cases hji:j=i
  ·subst hji; exact now (fuel + 1) listed env env1 h hy ha H
  ·have h1:=H.2 j (ready_mono hj hji)
   obtain ⟨hjun,oj,hoj,hall⟩:=mem_ready.1 hj
   have hnot:∀ e∈oj.after,Region.binds .any e=true→e.on≠i:=fun e he hb heq=>by
    have h1:=hall e he hb
    have h0:=(mem_ready.1 hr).1
    rw [heq] at h1
    rcases Nat.lt_or_ge i listed.size with h' | h'
    ·simp [h'] at h0 h1; rw [h0] at h1; cases h1
    ·simp [Array.getElem?_eq_none h'] at h1
   have hw:Zrh ops j i=false:=by
    unfold Zrh
    rw [hoj]
    simp only [Array.any_eq_false]
    intro q hq
    simp only [Bool.and_eq_true,beq_iff_eq,not_and]
    intro hb
    exact hnot _ (Array.getElem_mem hq) hb
   obtain ⟨a1,a2,a3⟩:=Oper.apart_spec (hfree j oj hoj hji hjun hnot)
   unfold Zwn at h1 ⊢
   rw [hoj] at h1 ⊢
   refine Zxc h1 (fun t ht=>?_) fun u h' e1 e2 q1 q2 k=>?_
   ·rw [ha t,if_neg (fun e=>a1 t e ht)]
   ·refine ⟨fun d hd=>k.1 d (hsub d hd),ih (listed.setIfInBounds j true) e2 e1 h' ?_ (ready_mono hr (Ne.symm hji)) ?_ ?_ ?_⟩
    ·intro k ok hk hki hun hno
     refine hfree k ok hk hki ?_ hno
     by_cases hjk:j=k
     ·subst hjk; exact hjun
     ·rw [getD_set_ne true hjk] at hun; exact hun
    ·refine hst env h e2 h' hy (fun t ht=>?_) (hT j h h' hw k.1)
     rw [q2 t,if_neg (fun e=>a3 t e ht)]
    ·intro t
     rw [q1 t,q2 t,ha t]
     by_cases x:oj.dst=some t <;> by_cases y:oi.dst=some t <;> simp [x,y]
     exact absurd x (a2 t y)
    ·rw [Array.setIfInBounds_comm _ _ hji]
     exact k.2
end
end Go.Sim

set_option linter.unusedSimpArgs false
namespace Go.Sim
open Go Go.RowKit

section
variable {P:Program} {N:Nat} {ops:Array Oper}

theorem Ymq {o:Oper} (hr:Yaz P o.op=true) {env:Env} {h:Zaa} {K:Env→Zaa→Prop} (hs:Zny P N ops env h o K) :
  ∃ v,(∃ env1,Zvp o env v env1∧K env1 h)∧∀ env' h',(∀ t∈o.looksAt ops,env.get t=env'.get t)→Yd P N ops o v env' h':=by
 have core:∀ (e:Env) (A:Zat→Zaa→Prop),opA P e h o A→∃ v,A v h∧∀ (e2:Env) (h2:Zaa) (B:Zat→Zaa→Prop),(∀ x∈o.op.operands,ev e x=ev e2 x)→B v h2→opA P e2 h2 o B:=by
  intro e A ha
  obtain ⟨v,hv,r⟩:=Ylg e o _ ((Zxl hr).1 ha)
  exact ⟨v,hv,fun e2 h2 B hx hb=>(Zxs hx).1 ((Zxl hr).2 (r (fun v=>B v h2) hb))⟩
 have put:∀ {e:Env} {v:Zat} {K:Env→Prop},Zsp N e o.dst v K→(∃ e1,(∀ t,e1.get t=if o.dst=some t then v else e.get t)∧K e1)∧∀ (e2:Env) (K2:Env→Prop),(∀ e3,(∀ t,e3.get t=if o.dst=some t then v else e2.get t)→K2 e3)→Zsp N e2 o.dst v K2:=by
  intro e v K hp
  unfold Zsp at *
  cases hd:o.dst with
  | none=>simp only [hd] at hp ⊢; exact ⟨⟨e,by simp,hp⟩,fun e2 K2 h=>h e2 (by simp)⟩
  | some d=>
   simp only [hd] at hp ⊢
   have hc:=Zcb hp
   refine ⟨⟨_,?_,hc.2⟩,fun e2 K2 h=>?_⟩
   ·intro t; rw [Env.get_set]; by_cases q:t=d
    ·subst q; simp
    ·rw [if_neg q,if_neg (by simp; exact fun x=>q x.symm)]
   ·unfold chk; rw [decide_eq_true hc.1]
    refine h _ fun t=>?_
    rw [Env.get_set]; by_cases q:t=d
    ·subst q; simp
    ·rw [if_neg q,if_neg (by simp; exact fun x=>q x.symm)]
 unfold Zny at hs
 cases hg:o.guard with
 | none=>
  simp only [hg] at hs
  obtain ⟨v,hv,r⟩:=core env _ hs
  obtain ⟨⟨e1,h1,k1⟩,q⟩:=put hv
  refine ⟨v,⟨e1,h1,k1⟩,fun env' h' hl K hK=>?_⟩
  unfold Zny
  simp only [hg]
  exact r env' h' _ (Zqn hl) (q env' _ fun e3 a=>hK e3 a)
 | some g=>
  obtain ⟨j,want⟩:=g
  simp only [hg] at hs
  cases ht:(ops[j]?).bind (·.dst) with
  | none=>simp only [ht] at hs
  | some t=>
   simp only [ht] at hs
   split at hs
   ·rename_i b hb
    have htl:∀ env':Env,(∀ t∈o.looksAt ops,env.get t=env'.get t)→env'.get t=.bool b:=fun env' hl=>by
     rw [← hl t (List.mem_append_right _ (by simp [hg,ht]))]; exact hb
    have go:∀ c,b=c→opA P (env.set t (.bool c)) h o (fun v h'=>Zsp N (env.set t (.bool c)) o.dst v fun env'=>K env' h')→want=c →
      ∃ v,(∃ env1,Zvp o env v env1∧K env1 h)∧∀ env' h',(∀ t∈o.looksAt ops,env.get t=env'.get t)→Yd P N ops o v env' h':=by
     intro c e ho hw
     subst e; subst hw
     obtain ⟨v,hv,r⟩:=core _ _ ho
     obtain ⟨⟨e1,h1,k1⟩,q⟩:=put hv
     refine ⟨v,⟨e1,fun s=>by rw [h1 s,Zhc hb],k1⟩,fun env' h' hl K hK=>?_⟩
     have hb':=htl env' hl
     unfold Zny
     simp only [hg,ht,hb']
     have body:opA P (env'.set t (.bool want)) h' o fun v h'_1=>Zsp N (env'.set t (.bool want)) o.dst v fun env'=>K env' h'_1:=
      r _ h' _ (Zqn fun s hs=>by rw [Zhc hb,Zhc hb']; exact hl s hs) (q _ _ fun e3 a=>hK e3 fun s=>by rw [a s,Zhc hb'])
     cases want <;> exact body
    have skip:∀ c,b=c→Zsp N (env.set t (.bool c)) o.dst (.tup []) (fun env'=>K env' h)→want≠c →
      ∃ v,(∃ env1,Zvp o env v env1∧K env1 h)∧∀ env' h',(∀ t∈o.looksAt ops,env.get t=env'.get t)→Yd P N ops o v env' h':=by
     intro c e ho hw
     subst e
     obtain ⟨⟨e1,h1,k1⟩,q⟩:=put ho
     refine ⟨.tup [],⟨e1,fun s=>by rw [h1 s,Zhc hb],k1⟩,fun env' h' hl K hK=>?_⟩
     have hb':=htl env' hl
     unfold Zny
     simp only [hg,ht,hb']
     have body:Zsp N (env'.set t (.bool b)) o.dst (.tup []) fun env'=>K env' h':=q _ _ fun e3 a=>hK e3 fun s=>by rw [a s,Zhc hb']
     cases b <;> cases want <;> first | exact body | exact absurd rfl hw
    cases b
    ·cases want
     ·exact go false rfl hs rfl
     ·exact skip false rfl hs (by simp)
    ·cases want
     ·exact skip true rfl hs (by simp)
     ·exact go true rfl hs rfl
   ·rename_i hb
    obtain ⟨⟨e1,h1,k1⟩,q⟩:=put hs
    refine ⟨.tup [],⟨e1,h1,k1⟩,fun env' h' hl K hK=>?_⟩
    have hb':env'.get t=.tup []:=by rw [← hl t (List.mem_append_right _ (by simp [hg,ht]))]; exact hb
    unfold Zny
    simp only [hg,ht,hb']
    exact q _ _ fun e3 a=>hK e3 a
   ·exact hs.elim

theorem Yjd {t:TypeId} {h h':Zaa} {p:Zat} {k:Zat→Prop} (hc:(match isAgg P t with | true=>Zbj h' p (P.cellsOf t)=Zbj h p (P.cellsOf t) | false=>Zae h' p=Zae h p)) (hk:Zwm P t h p k):Zwm P t h' p k:=by
 unfold Zwm at *
 cases ha:isAgg P t with
 | true=>simp only [ha] at hc hk ⊢; rw [hc]; exact hk
 | false=>simp only [ha] at hc hk ⊢; rw [hc]; exact hk

theorem Ymh {i:Nat} {o:Oper} (hi:ops[i]?=some o) (hr:Ypo o.op=true) {env:Env} {h:Zaa} {K:Env→Zaa→Prop} (hs:Zny P N ops env h o K) :
  ∃ v,(∃ env1,Zvp o env v env1∧K env1 h)∧∀ env' h',(∀ t∈o.looksAt ops,env.get t=env'.get t)→(Zqt P ops i env).ok h h'→Yd P N ops o v env' h':=by
 obtain ⟨t,a,hop⟩:∃ t a,o.op=.load t a:=by
  cases hq:o.op <;> simp [hq,Ypo] at hr
  exact ⟨_,_,rfl⟩
 have hold:∀ h',(Zqt P ops i env).ok h h'→(match isAgg P t with | true=>Zbj h' (ev env a) (P.cellsOf t)=Zbj h (ev env a) (P.cellsOf t) | false=>Zae h' (ev env a)=Zae h (ev env a)):=by
  intro h' hh
  unfold Zqt Yak.ok at hh
  rw [hi] at hh
  simp only [hop] at hh
  cases ha:isAgg P t <;> simp only [ha] at hh ⊢ <;> exact hh
 have core:∀ (e:Env) (A:Zat→Zaa→Prop),(∀ x∈o.op.operands,ev env x=ev e x)→opA P e h o A→∃ v,A v h∧∀ (e2:Env) (h2:Zaa) (B:Zat→Zaa→Prop),(∀ x∈o.op.operands,ev e x=ev e2 x)→(Zqt P ops i env).ok h h2→B v h2→opA P e2 h2 o B:=by
  intro e A hx0 ha
  have hxa:ev env a=ev e a:=hx0 a (by simp [hop,Op.operands])
  unfold opA at ha
  simp only [hop] at ha
  have hc:=Zcb ha
  obtain ⟨v,hv,r⟩:=Ymg t h (ev e a) _ hc.2
  refine ⟨v,hv,fun e2 h2 B hx hh hb=>(Zxs hx).1 ?_⟩
  unfold opA
  simp only [hop]
  unfold chk; rw [decide_eq_true hc.1]
  have:=hold h2 hh
  rw [hxa] at this
  exact Yjd this (r (fun v=>B v h2) hb)
 have put:∀ {e:Env} {v:Zat} {K:Env→Prop},Zsp N e o.dst v K→(∃ e1,(∀ t,e1.get t=if o.dst=some t then v else e.get t)∧K e1)∧∀ (e2:Env) (K2:Env→Prop),(∀ e3,(∀ t,e3.get t=if o.dst=some t then v else e2.get t)→K2 e3)→Zsp N e2 o.dst v K2:=by
  intro e v K hp
  unfold Zsp at *
  cases hd:o.dst with
  | none=>simp only [hd] at hp ⊢; exact ⟨⟨e,by simp,hp⟩,fun e2 K2 h=>h e2 (by simp)⟩
  | some d=>
   simp only [hd] at hp ⊢
   have hc:=Zcb hp
   refine ⟨⟨_,?_,hc.2⟩,fun e2 K2 h=>?_⟩
   ·intro t; rw [Env.get_set]; by_cases q:t=d
    ·subst q; simp
    ·rw [if_neg q,if_neg (by simp; exact fun x=>q x.symm)]
   ·unfold chk; rw [decide_eq_true hc.1]
    refine h _ fun t=>?_
    rw [Env.get_set]; by_cases q:t=d
    ·subst q; simp
    ·rw [if_neg q,if_neg (by simp; exact fun x=>q x.symm)]
 unfold Zny at hs
 cases hg:o.guard with
 | none=>
  simp only [hg] at hs
  obtain ⟨v,hv,r⟩:=core env _ (fun _ _=>rfl) hs
  obtain ⟨⟨e1,h1,k1⟩,q⟩:=put hv
  refine ⟨v,⟨e1,h1,k1⟩,fun env' h' hl hh K hK=>?_⟩
  unfold Zny
  simp only [hg]
  exact r env' h' _ (Zqn hl) hh (q env' _ fun e3 a=>hK e3 a)
 | some g=>
  obtain ⟨j,want⟩:=g
  simp only [hg] at hs
  cases ht:(ops[j]?).bind (·.dst) with
  | none=>simp only [ht] at hs
  | some t=>
   simp only [ht] at hs
   split at hs
   ·rename_i b hb
    have htl:∀ env':Env,(∀ t∈o.looksAt ops,env.get t=env'.get t)→env'.get t=.bool b:=fun env' hl=>by
     rw [← hl t (List.mem_append_right _ (by simp [hg,ht]))]; exact hb
    have go:∀ c,b=c→opA P (env.set t (.bool c)) h o (fun v h'=>Zsp N (env.set t (.bool c)) o.dst v fun env'=>K env' h')→want=c →
      ∃ v,(∃ env1,Zvp o env v env1∧K env1 h)∧∀ env' h',(∀ t∈o.looksAt ops,env.get t=env'.get t)→(Zqt P ops i env).ok h h'→Yd P N ops o v env' h':=by
     intro c e ho hw
     subst e; subst hw
     obtain ⟨v,hv,r⟩:=core _ _ (Zqn (ops:=ops) fun s _=>by rw [Zhc hb]) ho
     obtain ⟨⟨e1,h1,k1⟩,q⟩:=put hv
     refine ⟨v,⟨e1,fun s=>by rw [h1 s,Zhc hb],k1⟩,fun env' h' hl hh K hK=>?_⟩
     have hb':=htl env' hl
     unfold Zny
     simp only [hg,ht,hb']
     have body:opA P (env'.set t (.bool want)) h' o fun v h'_1=>Zsp N (env'.set t (.bool want)) o.dst v fun env'=>K env' h'_1:=
      r _ h' _ (Zqn fun s hs=>by rw [Zhc hb,Zhc hb']; exact hl s hs) hh (q _ _ fun e3 a=>hK e3 fun s=>by rw [a s,Zhc hb'])
     cases want <;> exact body
    have skip:∀ c,b=c→Zsp N (env.set t (.bool c)) o.dst (.tup []) (fun env'=>K env' h)→want≠c →
      ∃ v,(∃ env1,Zvp o env v env1∧K env1 h)∧∀ env' h',(∀ t∈o.looksAt ops,env.get t=env'.get t)→(Zqt P ops i env).ok h h'→Yd P N ops o v env' h':=by
     intro c e ho hw
     subst e
     obtain ⟨⟨e1,h1,k1⟩,q⟩:=put ho
     refine ⟨.tup [],⟨e1,fun s=>by rw [h1 s,Zhc hb],k1⟩,fun env' h' hl _ K hK=>?_⟩
     have hb':=htl env' hl
     unfold Zny
     simp only [hg,ht,hb']
     have body:Zsp N (env'.set t (.bool b)) o.dst (.tup []) fun env'=>K env' h':=q _ _ fun e3 a=>hK e3 fun s=>by rw [a s,Zhc hb']
     cases b <;> cases want <;> first | exact body | exact absurd rfl hw
    cases b
    ·cases want
     ·exact go false rfl hs rfl
     ·exact skip false rfl hs (by simp)
    ·cases want
     ·exact skip true rfl hs (by simp)
     ·exact go true rfl hs rfl
   ·rename_i hb
    obtain ⟨⟨e1,h1,k1⟩,q⟩:=put hs
    refine ⟨.tup [],⟨e1,h1,k1⟩,fun env' h' hl _ K hK=>?_⟩
    have hb':env'.get t=.tup []:=by rw [← hl t (List.mem_append_right _ (by simp [hg,ht]))]; exact hb
    unfold Zny
    simp only [hg,ht,hb']
    exact q _ _ fun e3 a=>hK e3 a
   ·exact hs.elim

theorem Yrh {env env':Env} (h:Yga env env') (ks:List Nat):env.keep ks=env'.keep ks:=List.map_congr_left fun t _=>by rw [h t]
theorem Yak.ok_trans {d:Yak} {a b c:Zaa} (h:d.ok a b) (k:d.ok b c):d.ok a c:=by
 unfold Yak.ok at *; split at h <;> simp_all

theorem Zub {ks:List Nat} {K:Env→Zaa→Prop}:∀ (f:Nat) (listed:Array Bool) (hs:List Yak) (env:Env) (h:Zaa),Yfv P N ops ks K f listed hs env h →
  Ypd P N ops (fun env h=>K (env.keep ks) h) hs f listed env h
 | 0,listed,hs,env,h,hd=>by
  unfold Yfv at hd
  split at hd
  ·rename_i hr; exact ⟨hr,hd⟩
  ·exact hd.elim
 | f + 1,listed,hs,env,h,hd=>by
  have hK:∀ e e' h,Yga e e'→K (e.keep ks) h→K (e'.keep ks) h:=fun e e' h he hk=>by rw [← Yrh he]; exact hk
  unfold Yfv at hd
  split at hd
  ·rename_i hr; exact ⟨fun _=>hd,by rw [hr]; simp⟩
  ·rename_i hne
   split at hd
   ·rename_i i hi
    have hmem:=List.mem_of_find?_eq_some hi
    have hp:=List.find?_some hi
    simp only [Bool.and_eq_true] at hp
    obtain ⟨hp1,hp2⟩:=hp
    unfold Ytx at hp1
    split at hp1
    ·rename_i o ho
     unfold Zwn at hd
     rw [ho] at hd
     obtain ⟨v,⟨env1,ha,hk⟩,hy⟩:=Ymq hp1 hd
     exact Zzy (T:=fun _ _=>True) (Y:=fun e _=>∀ t∈o.looksAt ops,env.get t=e.get t) hK (hs':=hs) (fun d hd=>hd) ho (fun _ _ _ _ _=>trivial) (fun e h' he=>hy e h' he)
      (fun e1 _ e2 _ y hl _ t ht=>(y t ht).trans (hl t ht)) f listed env env1 h (Region.free_spec ho hp2) hmem (fun _ _=>rfl) ha (Zub f _ _ _ _ hk)
    ·cases hp1
   ·split at hd
    ·rename_i i hi
     have hi':(Region.ready .any ops listed).find? (fun i=>Ytx ops Ypo i && Region.free .any ops listed i)=some i:=by
      split at hi
      ·cases hi
      ·exact hi
     have hmem:=List.mem_of_find?_eq_some hi'
     have hp:=List.find?_some hi'
     simp only [Bool.and_eq_true] at hp
     obtain ⟨hp1,hp2⟩:=hp
     unfold Ytx at hp1
     split at hp1
     ·rename_i o ho
      unfold Zwn at hd
      rw [ho] at hd
      obtain ⟨v,⟨env1,ha,hk⟩,hy⟩:=Ymh ho hp1 hd
      have hid:(Zqt P ops i env).i=i:=by unfold Zqt; split <;> (try split) <;> (try split) <;> rfl
      exact Zzy (T:=fun a b=>(Zqt P ops i env).ok a b) (Y:=fun e h'=>(∀ t∈o.looksAt ops,env.get t=e.get t)∧(Zqt P ops i env).ok h h') hK (hs':=Zqt P ops i env :: hs) (fun d hd=>List.mem_cons_of_mem _ hd) ho
       (fun j a b hw hall=>by
        have:=hall _ (List.mem_cons_self ..)
        rw [hid,hw] at this
        exact this.resolve_left (by simp)) (fun e h' he=>hy e h' he.1 he.2)
       (fun e1 _ e2 _ y hl ht=>⟨fun t htt=>(y.1 t htt).trans (hl t htt),Yak.ok_trans y.2 ht⟩) f listed env env1 h (Region.free_spec ho hp2) hmem ⟨fun _ _=>rfl,Yak.ok_refl _ _⟩ ha (Zub f _ _ _ _ hk)
     ·cases hp1
    ·refine ⟨fun hr=>absurd hr hne,fun i hi=>?_⟩
     have:=Ydv hd i hi
     unfold Zwn at this ⊢
     cases ho:ops[i]? with
     | none=>
      rw [ho] at this
      obtain ⟨a,b⟩:=Zpz this
      exact ⟨a,Zub f _ _ _ _ b⟩
     | some o=>
      rw [ho] at this
      refine Zxc this (fun _ _=>rfl) fun v h' e1 e2 q1 q2 k=>?_
      obtain ⟨a,b⟩:=Zpz k
      exact ⟨a,Zuo (fun d hd=>hd) f hK (fun t=>by rw [q1 t,q2 t]) (Zub f _ _ _ _ b)⟩
end
end Go.Sim
