/- A part of the proof of a statement of this seat: see the text that holds the theorem. No condition. -/
import Derived.Test.YtflfcofeedjblaaGreatSimIc
import Derived.Orders
set_option linter.unusedVariables false
set_option linter.unusedSimpArgs false
set_option linter.all false
set_option linter.unusedSimpArgs false
namespace Go.Sim
open Go Go.RowKit

structure Zah (P:Program) (n:FuncId) (args:List Zau) (h:Zaa) (Q:Zau→Zaa→Prop):Prop where
 able : ∃ fn, P.funcs[n]? = some fn ∧ fn.body.isSome = true ∧ (fn.name == "runtime.NumGoroutine") = false
 calls:∀ (base:Nat) (w0:World) (μ:List Pl) (w:World) (xs:Array Value),Rel P base w0 μ h w→VRs μ args xs.toList →
  Calls P n xs w fun e w'=>∃ x μ' v h',e=.returned x∧Ext μ μ'∧Rel P base w0 μ' h' w'∧VR μ' v x∧Q v h'
theorem Zah.mono {P:Program} {n:FuncId} {args:List Zau} {h:Zaa} {Q Q':Zau→Zaa→Prop} (hc:Zah P n args h Q) (hq:∀ v h',Q v h'→Q' v h'):Zah P n args h Q':=
 ⟨hc.1,fun base w0 μ w xs r hx=>(hc.2 base w0 μ w xs r hx).mono fun _ _ ⟨x,μ',v,h',a,b,c,d,q⟩=>⟨x,μ',v,h',a,b,c,d,hq _ _ q⟩⟩

def rts (P:Program) (f:FuncId):List TypeId:=match P.funcs[f]? with | some fn=>fn.resultTypes.toList | none=>[]
def Ytx (P:Program) (f:FuncId) (args:List Zau) (h:Zaa) (K:Zau→Zaa→Prop):Prop:=Zah P f args h fun v h'=>Ysc P (rts P f) v fun v=>K v h'
def Yuo (v:Zau) (K:FuncId→List Zau→Prop):Prop:=match v with | .fn g caps=>K g caps | _=>False
def Yvd (P:Program) (t:TypeId):List TypeId:=match P.underlying t with | some (.tuple ts)=>ts.toList | _=>[t]
def Yur (P:Program) (t:TypeId) (v:Zau) (args:List Zau) (h:Zaa) (K:Zau→Zaa→Prop):Prop:=Yuo v fun g caps=>Zah P g (args ++ caps) h fun v h'=>Ysc P (Yvd P t) v fun v=>K v h'
def Ylt (P:Program) (env:Env) (h:Zaa) (o:Oper) (c:Call) (K:Zau→Zaa→Prop):Prop:=
 match c.callee with
 | .value f=>(match f with
  | .func g=>Ytx P g (c.args.toList.map (ev env) ++ []) h K
  | f=>Yur P o.type (ev env f) (c.args.toList.map (ev env)) h K)
 | .builtin .append=>(match c.argTypes.toList with
  | [t,u]=>chk (u=t) (match c.args.toList.map (ev env) with | [s,x]=>Zda P t h s x fun v h'=>xv .slice (some v) fun v=>K v h' | _=>False)
  | _=>False)
 | .builtin .min=>(match c.args.toList.map (ev env) with | [x,y]=>Ysj x y fun v=>K v h | _=>False)
 | .builtin .clear=>(match c.argTypes.toList with
  | [t]=>(match c.args.toList.map (ev env) with | [x]=>Yhp P t h x K | _=>False)
  | _=>False)
 | _=>Ztv P env o fun v=>K v h
def opA (P:Program) (env:Env) (h:Zaa) (o:Oper) (K:Zau→Zaa→Prop):Prop:=
 match o.op with
 | .load t a=>chk ((P.underlying t).isSome=true) (Zwv P t h (ev env a) fun v=>K v h)
 | .store t a x=>chk ((P.underlying t).isSome=true) (Yae P t h (ev env a) (ev env x) fun h'=>K .undef h')
 | .alloc t=>Yrb P t h K
 | .box t x=>Yut t h (ev env x) K
 | .build t ps=>Ynl P t (parts env ps) fun v=>K v h
 | .buildSlice t n ps=>Zqx P t n (parts env ps) h K
 | .call c=>Ylt P env h o c K
 | .makeSlice t l c=>Znm P t (ev env l) (ev env c) h K
 | .makeMap t r=>Zss P t (r.map (ev env)) h K
 | .lookup t x i ok=>Zvu P t h (ev env x) (ev env i) ok fun v=>K v h
 | .mapUpdate t m k v=>Znl P t h (ev env m) (ev env k) (ev env v) K
 | .range t x=>Yap P t (ev env x) h K
 | .next x st=>Yiw P o.type (ev env x) st h K
 | .entry x=>Yah P o.type (ev env x) h fun v=>K v h
 | .convert s d x=>(match Yjf P s with | true=>Ysl P s d h (ev env x) fun v=>K v h | false=>Ztv P env o fun v=>K v h)
 | _=>Ztv P env o fun v=>K v h
def Ztl (N:Nat) (env:Env) (d:Option Tmp) (v:Zau) (K:Env→Prop):Prop:=match d with | none=>K env | some d=>chk (d < N) (K (env.set d v))
def Zoj (P:Program) (N:Nat) (ops:Array Oper) (env:Env) (h:Zaa) (o:Oper) (K:Env→Zaa→Prop):Prop:=
 match o.guard with
 | none=>opA P env h o fun v h'=>Ztl N env o.dst v fun env'=>K env' h'
 | some (j,want)=>(match (ops[j]?).bind (·.dst) with
  | some t=>(match env.get t with
   | .bool b=>bcase b
     (match want with | true=>opA P (env.set t (.bool true)) h o fun v h'=>Ztl N (env.set t (.bool true)) o.dst v fun env'=>K env' h' | false=>Ztl N (env.set t (.bool true)) o.dst (.tup []) fun env'=>K env' h)
     (match want with | false=>opA P (env.set t (.bool false)) h o fun v h'=>Ztl N (env.set t (.bool false)) o.dst v fun env'=>K env' h' | true=>Ztl N (env.set t (.bool false)) o.dst (.tup []) fun env'=>K env' h)
   | .tup []=>Ztl N env o.dst (.tup []) fun env'=>K env' h
   | _=>False)
  | none=>False)
def Yup (P:Program) (N:Nat) (ops:Array Oper):List Oper→Env→Zaa→(Env→Zaa→Prop)→Prop
 | [],env,h,K=>K env h
 | o :: r,env,h,K=>Zoj P N ops env h o fun env' h'=>Yup P N ops r env' h' K

section
variable {P:Program} {base N:Nat} {w0:World} {μ:List Pl} {h:Zaa} {w:World}

structure St (P:Program) (base N:Nat) (w0:World) (μ:List Pl) (env:Env) (h:Zaa) (a:Act) (w:World):Prop where
 rel:Rel P base w0 μ h w
 env:Zok μ env a.tmps
 size:a.tmps.size=N
 defers:a.defers=[]

def Yon (P:Program) (base N:Nat) (w0:World) (μ:List Pl) (K:Env→Zaa→Prop) (a:Act) (w:World):Prop:=
 ∃ μ' env h,Ext μ μ'∧St P base N w0 μ' env h a w∧K env h

theorem St.put {env:Env} {a:Act} (s:St P base N w0 μ env h a w) {μ':List Pl} {h':Zaa} {w':World} (he:Ext μ μ') (hr:Rel P base w0 μ' h' w') {v:Zau} {x:Value} (hv:VR μ' v x) {d:Option Tmp} {K:Env→Prop} (hk:Ztl N env d v K) :
  ∃ env',St P base N w0 μ' env' h' (a.put d x) w'∧K env':=by
 unfold Ztl at hk
 cases d with
 | none=>exact ⟨env,⟨hr,s.env.ext he,s.size,s.defers⟩,hk⟩
 | some d=>
  replace hk:=Zcc hk
  obtain ⟨hd,hk⟩:=hk
  refine ⟨_,⟨hr,(s.env.ext he).set (by rw [s.size]; exact hd) hv,?_,s.defers⟩,hk⟩
  simp [Act.put,s.size]

theorem St.know {env:Env} {a:Act} (s:St P base N w0 μ env h a w) {t:Nat} {v:Zau} (hv:VR μ v (a.tmps.getD t undef)):St P base N w0 μ (env.set t v) h a w:=
 ⟨s.rel,s.env.know hv,s.size,s.defers⟩

theorem Res.wp {o:Oper} {a:Act} {K:Zau→Zaa→Prop} {next:Act→World→Prop} {Q:Exit→Act→World→Prop} {s:Sem Value}
  (hr:Res P base w0 μ (s.run P w) K) (he:(execOp a.eval o).run P w=(s.run P w).andThen fun x w'=>.ok (.value x) w')
  (hn:∀ x w' μ' v h',Ext μ μ'→Rel P base w0 μ' h' w'→VR μ' v x→K v h'→next (a.put o.dst x) w'):o.wp P a w next Q:=by
 obtain ⟨x,w',μ',v,h',hrun,hx,hrel,hv,hk⟩:=hr
 unfold Oper.wp
 rw [he,hrun]
 exact hn x w' μ' v h' hx hrel hv hk

theorem Yrk {env:Env} {a:Act} (s:St P base N w0 μ env h a w) {f:FuncId} {args:List Zau} {xs:Array Value} (hxs:VRs μ args xs.toList) {K:Zau→Zaa→Prop} (hk:Zah P f args h K)
  {o:Oper} (he:(execOp a.eval o).run P w=(callFunc f xs).run P w) {next:Act→World→Prop} {Q:Exit→Act→World→Prop}
  (hn:∀ x w' μ' v h',Ext μ μ'→Rel P base w0 μ' h' w'→VR μ' v x→K v h'→next (a.put o.dst x) w'):o.wp P a w next Q:=by
 obtain ⟨⟨fn,hf,hb,hname⟩,hc⟩:=hk
 have hcall:(callFunc f xs).run P w=.ok (.enter f xs) w:=by
  obtain ⟨c,hc⟩:=Option.isSome_iff_exists.1 hb
  have hname' : fn.name ≠ "runtime.NumGoroutine" := by simpa using hname
  simp [callFunc,hf,hc,hname']
 unfold Oper.wp
 rw [he,hcall]
 refine (hc base w0 μ w xs s.rel hxs).mono ?_
 rintro e w' ⟨x,μ',v,h',rfl,hx,hr,hv,hq⟩
 exact hn x w' μ' v h' hx hr hv hq

theorem VRs.single {v:Zau} {xs:Array Value} (h:VRs μ [v] xs.toList):∃ x,xs=#[x]∧VR μ v x:=by
 obtain ⟨l⟩:=xs
 match l,h with
 | [x],.cons a .nil=>exact ⟨x,rfl,a⟩
theorem Ysf {env:Env} {a:Act} (s:St P base N w0 μ env h a w) {o:Oper} {K:Zau→Zaa→Prop} (hk:opA P env h o K) {next:Act→World→Prop} {Q:Exit→Act→World→Prop}
  (hn:∀ x w' μ' v h',Ext μ μ'→Rel P base w0 μ' h' w'→VR μ' v x→K v h'→next (a.put o.dst x) w'):o.wp P a w next Q:=by
 have hρ:=Ytn s.env
 have pure:Ztv P env o (fun v=>K v h)→o.wp P a w next Q:=fun hk=>by
  obtain ⟨x,v,hr,hv,hk⟩:=Ysg hρ hk
  unfold Oper.wp
  rw [hr w]
  exact hn x w μ v h (Ext.refl _) s.rel hv hk
 unfold opA at hk
 split at hk
 ·rename_i t p he
  replace hk:=Zcc hk
  obtain ⟨hu,hk⟩:=hk
  obtain ⟨y,v,hr,hv,hk⟩:=Yni s.rel (hρ p) hu hk
  unfold Oper.wp
  simp only [execOp,he,Sem.run_bind,hr,Result.andThen_ok,Sem.run_pure]
  exact hn y w μ v h (Ext.refl _) s.rel hv hk
 ·rename_i t p x he
  replace hk:=Zcc hk
  obtain ⟨hu,hk⟩:=hk
  obtain ⟨w',h',hr,hrel,hk⟩:=Ypx s.rel (hρ p) (hρ x) hu hk
  unfold Oper.wp
  simp only [execOp,he,Sem.run_bind,hr,Result.andThen_ok,Sem.run_pure]
  exact hn undef w' μ .undef h' (Ext.refl _) hrel (.undef _) hk
 ·rename_i t he
  exact Res.wp (Ypj s.rel hk) (by simp [execOp,he]) hn
 ·rename_i t x he
  exact Res.wp (Ytv s.rel (hρ x) hk) (by simp [execOp,he]) hn
 ·rename_i t ps he
  obtain ⟨h1,h2⟩:=Ygz hρ ps
  obtain ⟨x,v,hr,hv,hk⟩:=Ypn h1 h2 hk
  unfold Oper.wp
  simp only [execOp,he,Sem.run_bind,hr w,Result.andThen_ok,Sem.run_pure]
  exact hn x w μ v h (Ext.refl _) s.rel hv hk
 ·rename_i t n ps he
  obtain ⟨h1,h2⟩:=Ygz hρ ps
  exact Res.wp (Ybk s.rel h1 h2 hk) (by simp [execOp,he]) hn
 ·rename_i c he
  unfold Ylt at hk
  split at hk
  ·rename_i f hcal
   have go:∀ (f:Operand),c.callee=.value f→∀ (g:FuncId) (caps:List Zau),ev env f=.fn g caps→Zah P g (c.args.toList.map (ev env) ++ caps) h K→o.wp P a w next Q:=by
    intro f hcal g caps hev hk
    have hf:=hρ f
    rw [hev] at hf
    cases hfv:a.eval f with
    | func fn first cap=>
     rw [hfv] at hf
     cases hf with
     | fn hcaps=>
     refine Yrk s (xs:=c.args.map a.eval ++ cap) (by rw [Array.toList_append]; exact (Zvj hρ c.args).append hcaps) hk ?_ hn
     simp [execOp,he,resolve,hcal,hfv,Deferred.ofValue,invoke]
    | _=>rw [hfv] at hf; cases hf
   split at hk
   ·rename_i g
    exact go _ hcal g [] rfl (Zah.mono hk fun _ _ hq=>Yck (K:=fun v=>K v _) hq)
   ·unfold Yur Yuo at hk
    split at hk
    ·rename_i g caps hev
     exact go _ hcal g caps hev (Zah.mono hk fun _ _ hq=>Yck (K:=fun v=>K v _) hq)
    ·exact hk.elim
  ·rename_i hcal
   split at hk
   ·rename_i t u hts
    replace hk:=Zcc hk
    obtain ⟨rfl,hk⟩:=hk
    split at hk
    ·rename_i sv xv hargs
     have hvs:=Zvj hρ c.args
     rw [hargs] at hvs
     obtain ⟨x,y,hxy,h1,h2⟩:=hvs.two
     refine Res.wp (Yky (ty:=o.type) s.rel h1 h2 hk) ?_ fun x w' μ' v h' hx hr hv hk=>(by obtain ⟨v2,hv2,hk⟩:=Znq hk; cases hv2; exact hn x w' μ' v h' hx hr hv hk)
     have hat:c.argTypes=#[u,u]:=by
      apply Array.ext'; simpa using hts
     simp [execOp,he,resolve,hcal,invoke,builtin,hxy,hat]
    ·exact hk.elim
   ·exact hk.elim
  ·rename_i hcal
   split at hk
   ·rename_i a b hargs
    have hvs:=Zvj hρ c.args
    rw [hargs] at hvs
    obtain ⟨x,y,hxy,h1,h2⟩:=hvs.two
    obtain ⟨v,z,hr,hv,hk⟩:=Yts (ts:=c.argTypes) (t:=o.type) h1 h2 hk
    exact Res.wp (s:=Builtin.min_ c.argTypes o.type #[x,y]) ⟨z,w,μ,v,h,hr w,Ext.refl _,s.rel,hv,hk⟩ (by simp [execOp,he,resolve,hcal,invoke,builtin,hxy]) hn
   ·exact hk.elim
  ·rename_i hcal
   split at hk
   ·rename_i t hts
    split at hk
    ·rename_i x1 hargs
     have hvs:=Zvj hρ c.args
     rw [hargs] at hvs
     obtain ⟨x,hxy,h1⟩:=hvs.single
     refine Res.wp (Yqg (ty:=o.type) s.rel h1 hk) ?_ hn
     have hat:c.argTypes=#[t]:=by
      apply Array.ext'; simpa using hts
     simp [execOp,he,resolve,hcal,invoke,builtin,hxy,hat]
    ·exact hk.elim
   ·exact hk.elim
  ·exact pure hk
 ·rename_i t l c he
  exact Res.wp (Yda s.rel (hρ l) (hρ c) hk) (by simp [execOp,he]) hn
 ·rename_i t m he
  refine Res.wp (Yjp (x:=m.map a.eval) s.rel ?_ hk) (by simp [execOp,he]) hn
  cases m with
  | none=>exact .inl ⟨rfl,rfl⟩
  | some m=>exact .inr ⟨_,_,rfl,rfl,hρ m⟩
 ·rename_i t x i ok he
  obtain ⟨z,v,hr,hv,hk⟩:=Ymr s.rel (hρ x) (hρ i) hk
  exact Res.wp (s:=Instr.lookup t (a.eval x) (a.eval i) ok) ⟨z,w,μ,v,h,hr,Ext.refl _,s.rel,hv,hk⟩ (by simp [execOp,he]) hn
 ·rename_i t m k x he
  obtain ⟨w',h',hr,hrel,hk⟩:=Ydk s.rel (hρ m) (hρ k) (hρ x) hk
  unfold Oper.wp
  simp only [execOp,he,Sem.run_bind,hr,Result.andThen_ok,Sem.run_pure]
  exact hn undef w' μ .undef h' (Ext.refl _) hrel (.undef _) hk
 ·rename_i t x he
  exact Res.wp (Ypv s.rel (hρ x) hk) (by simp [execOp,he]) hn
 ·rename_i x st he
  exact Res.wp (Yne (ty:=o.type) s.rel (hρ x) hk) (by simp [execOp,he]) hn
 ·rename_i x he
  obtain ⟨z,v,hr,hv,hk⟩:=Ypy s.rel (hρ x) hk
  exact Res.wp (s:=Instr.entry (a.eval x)) ⟨z,w,μ,v,h,hr,Ext.refl _,s.rel,hv,hk⟩ (by simp [execOp,he]) hn
 ·rename_i a b x he
  split at hk
  ·exact Res.wp (Yru s.rel (hρ x) hk) (by simp [execOp,he]) hn
  ·exact pure hk
 ·exact pure hk

theorem Yob {tmps:Array Value} {t:Nat} {b:Bool} (h:VR μ (.bool b) (tmps.getD t undef)):tmps[t]?=some (.bool b):=by
 simp only [Array.getD_eq_getD_getElem?] at h
 cases hx:tmps[t]? with
 | none=>rw [hx] at h; simp [undef] at h; cases h
 | some x=>rw [hx] at h; simp at h; cases h; rfl

theorem Ynw {ops:Array Oper} {env:Env} {a:Act} (s:St P base N w0 μ env h a w) {o:Oper} {K:Env→Zaa→Prop} (hk:Zoj P N ops env h o K) {next:Act→World→Prop} {Q:Exit→Act→World→Prop}
  (hn:∀ a w,Yon P base N w0 μ K a w→next a w):if Region.wanted o (yielded ops a.tmps) then o.wp P a w next Q else next (a.put o.dst undef) w:=by
 have fin:∀ {env:Env} {v:Zau} {x:Value} {μ':List Pl} {h':Zaa} {w':World},St P base N w0 μ env h a w→Ext μ μ'→Rel P base w0 μ' h' w'→VR μ' v x→Ztl N env o.dst v (fun env'=>K env' h')→next (a.put o.dst x) w':=by
  intro env v x μ' h' w' s hx hr hv hk
  obtain ⟨env',s',hk⟩:=s.put hx hr hv hk
  exact hn _ _ ⟨μ',env',h',hx,s',hk⟩
 unfold Zoj at hk
 split at hk
 ·rename_i hg
  have:Region.wanted o (yielded ops a.tmps)=true:=by simp [Region.wanted,hg]
  rw [if_pos this]
  exact Ysf s hk fun x w' μ' v h' hx hr hv hk=>fin s hx hr hv hk
 ·rename_i j want hg
  split at hk
  ·rename_i t ht
   split at hk
   ·rename_i b hb
    have henv:=s.env t
    rw [hb] at henv
    have hy:yielded ops a.tmps j=some b:=by
     unfold yielded
     rw [ht]; simp only [Option.bind_some,Yob henv]
    have hwant:Region.wanted o (yielded ops a.tmps)=(b == want):=by simp [Region.wanted,hg,hy]
    rw [hwant]
    have hknow:∀ c,b=c→St P base N w0 μ (env.set t (.bool c)) h a w:=fun c e=>by subst e; exact s.know henv
    refine Yio hk ?_ ?_
    ·rintro rfl hk
     have s':=hknow true rfl
     cases want with
     | true=>exact Ysf s' hk fun x w' μ' v h' hx hr hv hk=>fin s' hx hr hv hk
     | false=>exact fin s' (Ext.refl _) s.rel (.tup .nil) hk
    ·rintro rfl hk
     have s':=hknow false rfl
     cases want with
     | false=>exact Ysf s' hk fun x w' μ' v h' hx hr hv hk=>fin s' hx hr hv hk
     | true=>exact fin s' (Ext.refl _) s.rel (.tup .nil) hk
   ·rename_i hb
    have henv:=s.env t
    rw [hb] at henv
    have hy:yielded ops a.tmps j=none:=by
     unfold yielded
     rw [ht]; simp only [Option.bind_some]
     have:a.tmps[t]?=none ∨ a.tmps[t]?=some (.tuple #[]):=by
      simp only [Array.getD_eq_getD_getElem?] at henv
      cases hx:a.tmps[t]? with
      | none=>exact .inl rfl
      | some x=>
       rw [hx] at henv
       simp only [Option.getD_some] at henv
       cases henv with
       | tup hv => 
        have:=hv.length
        rename_i xs
        have:xs=#[]:=by apply Array.ext'; exact List.eq_nil_of_length_eq_zero (by simpa using this.symm)
        subst this; exact .inr rfl
     rcases this with h | h <;> rw [h]
    have hwant:Region.wanted o (yielded ops a.tmps)=false:=by simp [Region.wanted,hg,hy]
    rw [hwant]
    exact fin s (Ext.refl _) s.rel (.tup .nil) hk
   ·exact hk.elim
  ·exact hk.elim

theorem Yra {ops:Array Oper} {Q:Exit→Act→World→Prop}:∀ (l:List Oper) {μ:List Pl} {h:Zaa} {w:World} {env:Env} {a:Act},St P base N w0 μ env h a w→∀ {K:Env→Zaa→Prop},Yup P N ops l env h K →
  (∀ a w,Yon P base N w0 μ K a w→Q .normal a w)→wpList P ops Q l a w
 | [],μ,h,w,env,a,s,K,hk,hq=>hq a w ⟨μ,env,h,Ext.refl _,s,hk⟩
 | o :: r,μ,h,w,env,a,s,K,hk,hq=>by
  have hstep:=Ynw (next:=wpList P ops Q r) (Q:=Q) s hk (fun a' w' ⟨μ',env',h',hx,s',hk'⟩=>Yra r s' hk' (fun a w ⟨μ2,env2,h2,hx2,s2,k2⟩=>hq a w ⟨μ2,env2,h2,hx.trans hx2,s2,k2⟩))
  unfold wpList
  split
  ·rename_i hw; rw [if_pos hw] at hstep; exact .inl hstep
  ·rename_i hw; rw [if_neg hw] at hstep; exact hstep
end
end Go.Sim

set_option linter.unusedSimpArgs false
namespace Go.Sim
open Go Go.RowKit

section
variable {P:Program} {K K':Zau→Zaa→Prop} {k k':Zau→Prop}

theorem Yjn {o:Option Zau} {K K':Bool→Prop} (h:Zbx o K) (m:∀ b,K b→K' b):Zbx o K':=by
 unfold Zbx at *; split at h <;> first | exact m _ h | exact h.elim
theorem Ylj {q:IntKind} {o:Option Zau} {K K':Int→Prop} (h:Zdo q o K) (m:∀ b,K b→K' b):Zdo q o K':=by
 unfold Zdo at *; split at h <;> first | exact ⟨h.1,m _ h.2⟩ | exact h.elim
theorem Zxo {o:Option Zau} {K K':List Nat→Prop} (h:Zbg o K) (m:∀ b,K b→K' b):Zbg o K':=by
 unfold Zbg at *; split at h <;> first | exact m _ h | exact h.elim
theorem Ync {o:Option Zau} {K K':Option (Nat × Nat)→Prop} (h:Zhi o K) (m:∀ b,K b→K' b):Zhi o K':=by
 unfold Zhi at *; split at h <;> first | exact m _ h | exact h.elim
theorem Ype {o:Option Zau} {K K':Option (Nat × Nat)→Nat→Nat→Bool→Prop} (h:xSl o K) (m:∀ a b c d,K a b c d→K' a b c d):xSl o K':=by
 unfold xSl at *; split at h <;> first | exact m _ _ _ _ h | exact h.elim
theorem Ynb {o:Option Zau} {K K':Option Nat→Prop} (h:Ylq o K) (m:∀ b,K b→K' b):Ylq o K':=by
 unfold Ylq at *; split at h <;> first | exact m _ h | exact h.elim
theorem Zue {o:Option Zau} (h:Yak o k) (m:∀ b,k b→k' b):Yak o k':=by
 unfold Yak at *; split at h <;> first | exact m _ h | exact h.elim
theorem Yax {cs:List Zau} {K K':Zau→List Zau→Prop} (h:Zaj cs K) (m:∀ a b,K a b→K' a b):Zaj cs K':=by
 unfold Zaj at *; split at h <;> first | exact m _ _ h | exact h.elim
theorem Yeh {cs:List Zau} {K K':Prop} (h:Zbv cs K) (m:K→K'):Zbv cs K':=by
 unfold Zbv at *; split at h <;> first | exact m h | exact h.elim
theorem Zgp {o:Option (List Zau)} {K K':List Zau→Prop} (h:Zco o K) (m:∀ b,K b→K' b):Zco o K':=by
 unfold Zco at *; split at h <;> first | exact m _ h | exact h.elim
theorem Yag {o:Option Zaa} {K K':Zaa→Prop} (h:Zbu o K) (m:∀ b,K b→K' b):Zbu o K':=by
 unfold Zbu at *; split at h <;> first | exact m _ h | exact h.elim
theorem Ymd {v:Zau} {K K':List Zau→Prop} (h:Zoc v K) (m:∀ b,K b→K' b):Zoc v K':=by
 unfold Zoc at *; split at h <;> first | exact m _ h | exact h.elim
theorem Ykp {v:Zau} {K K':List Zau→Prop} (h:Zob v K) (m:∀ b,K b→K' b):Zob v K':=by
 unfold Zob at *; split at h <;> first | exact m _ h | exact h.elim
theorem Zyk {o:Option Field} {K K':Field→Prop} (h:Ztj o K) (m:∀ b,K b→K' b):Ztj o K':=by
 unfold Ztj at *; split at h <;> first | exact m _ h | exact h.elim
theorem Zde {p:Prop} [Decidable p] {K K':Prop} (h:chk p K) (m:K→K'):chk p K':=by
 unfold chk at *; split at h <;> first | exact m h | exact h.elim
theorem Zod {o:Option Zau} {d:Int} {K K':Int→Prop} (h:Zln o d K) (m:∀ b,K b→K' b):Zln o d K':=by
 unfold Zln at *; split at h <;> first | exact m _ h | exact h.elim
theorem Yjz {b:Bool} {A B A' B':Prop} (h:bcase b A B) (m:A→A') (n:B→B'):bcase b A' B':=by
 unfold bcase at *; split at h <;> first | exact m h | exact n h
theorem Zqs {s:Sh} {o:Option Zau} (h:xv s o k) (m:∀ v,k v→k' v):xv s o k':=by
 cases s <;> simp only [xv] at *
 ·exact Yjn h fun _=>m _
 ·exact Ylj h fun _=>m _
 ·exact Zxo h fun _=>m _
 ·exact Ync h fun _=>m _
 ·exact Ype h fun _ _ _ _=>m _
 ·exact Ynb h fun _=>m _
 ·exact Zue h m
theorem Yfk:∀ {ss:List Sh} {cs:List Zau} {K K':List Zau→Prop},xs ss cs K→(∀ v,K v→K' v)→xs ss cs K'
 | [],_,_,_,h,m=>Yeh h (m _)
 | _ :: _,_,_,_,h,m=>Yax h fun _ _ h=>Zqs h fun _ h=>Yfk h fun _=>m _
theorem Ymn {t:TypeId} {v:Zau} (h:xt P t v k) (m:∀ v,k v→k' v):xt P t v k':=by
 unfold xt at *
 split at h
 ·exact Ymd h fun _ h=>Yfk h fun _=>m _
 ·exact Zqs h m
theorem Yih:∀ {ts:List TypeId} {cs:List Zau} {K K':List Zau→Prop},xts P ts cs K→(∀ v,K v→K' v)→xts P ts cs K'
 | [],_,_,_,h,m=>Yeh h (m _)
 | _ :: _,_,_,_,h,m=>Yax h fun _ _ h=>Ymn h fun _ h=>Yih h fun _=>m _
theorem Ycx {ts:List TypeId} {v:Zau} (h:Ysc P ts v k) (m:∀ v,k v→k' v):Ysc P ts v k':=by
 unfold Ysc at *
 split at h
 ·exact m _ h
 ·exact Ymn h m
 ·exact Ykp h fun _ h=>Yih h fun _=>m _
theorem Yji {t:TypeId} {h:Zaa} {p:Zau} (hh:Zwv P t h p k) (m:∀ v,k v→k' v):Zwv P t h p k':=by
 unfold Zwv at *
 split at hh
 ·exact Zgp hh fun _ h=>Yfk h fun _=>m _
 ·exact Zqs hh m
theorem Ygo {t:TypeId} {h:Zaa} {p v:Zau} {K K':Zaa→Prop} (hh:Yae P t h p v K) (m:∀ v,K v→K' v):Yae P t h p v K':=by
 unfold Yae at *
 split at hh
 ·split at hh
  ·exact Yag hh m
  ·exact hh.elim
 ·exact hh.elim
theorem Yjb {a b:Option (Nat × Nat)} {K K':Bool→Prop} (h:Yfl a b K) (m:∀ b,K b→K' b):Yfl a b K':=by
 unfold Yfl at *
 split at h
 ·exact m _ h
 ·split at h
  ·exact m _ h
  ·exact h.elim
theorem Zsu {a:Option (Nat × Nat)} {K K':Nat→Nat→Prop} (h:Zbm a K) (m:∀ b o,K b o→K' b o):Zbm a K':=by
 obtain ⟨b,o,rfl,h⟩:=Zbn h
 exact m _ _ h
theorem Yhe {t:TypeId} {x y:Zau} {K K':Bool→Prop} (h:eqA P t x y K) (m:∀ b,K b→K' b):eqA P t x y K':=by
 unfold eqA at *
 split at h <;> (try exact h.elim) <;> split at h <;> (try exact h.elim)
 ·exact Zde h (m _)
 ·exact m _ h
 ·exact Zde h (m _)
 ·exact Zde h fun h=>Yjb h m
 ·split at h
  ·exact m _ h
  ·exact h.elim
 ·exact Zde h fun h=>⟨h.1,m _ h.2⟩
theorem Yku {op:BinOp} {t:TypeId} {x y:Zau} (h:Yqx P op t x y k) (m:∀ v,k v→k' v):Yqx P op t x y k':=by
 unfold Yqx at *
 split at h
 ·exact Yhe h fun _=>m _
 ·exact Yhe h fun _=>m _
 ·split at h
  ·split at h
   ·split at h <;> first
     | exact h.elim
     | exact Zde h (m _)
     | exact Zde h fun h=>⟨h.1,m _ h.2⟩
     | exact ⟨h.1,m _ h.2⟩
   ·exact h.elim
  ·split at h
   ·split at h <;> first
     | exact h.elim
     | exact ⟨h.1,m _ h.2⟩
     | exact m _ h
   ·exact h.elim
  ·exact h.elim
theorem Yav {t:TypeId} {cs:List Zau} {off:Nat} (h:Zzt P t cs off k) (m:∀ v,k v→k' v):Zzt P t cs off k':=by
 unfold Zzt at *
 split at h
 ·exact m _ h
 ·exact Zde h fun h=>Zue h m
theorem Ynk {ts:Array TypeId} {xs:List Zau} (h:Ysa P ts xs k) (m:∀ v,k v→k' v):Ysa P ts xs k':=by
 unfold Ysa at *
 split at h <;> first | exact h.elim | exact Zde h (m _)
theorem Yka {s d:TypeId} {x:Zau} (h:Yfx P s d x k) (m:∀ v,k v→k' v):Yfx P s d x k':=by
 unfold Yfx at *
 split at h
 ·split at h <;> first | exact h.elim | exact Zde h (m _)
 ·split at h <;> first | exact h.elim | exact Zde h (m _) | exact Zde h fun h=>⟨h.1,m _ h.2⟩
 ·exact h.elim
theorem Yfq {t:TypeId} {x:Zau} {lo hi mx:Option Zau} (h:Yam P t x lo hi mx k) (m:∀ v,k v→k' v):Yam P t x lo hi mx k':=by
 unfold Yam at *
 split at h
 ·split at h
  ·exact Zde h fun h=>Zod h fun _ h=>Zod h fun _ h=>⟨h.1,m _ h.2⟩
  ·exact h.elim
 ·split at h
  ·refine Zde h fun h=>Zde h fun h=>Zod h fun _ h=>Zod h fun _ h=>Zod h fun _ h=>⟨h.1,?_⟩
   have h2:=h.2
   split at h2
   ·exact ⟨h2.1,m _ h2.2⟩
   ·exact ⟨fun a=>m _ (h2.1 a),fun a=>m _ (h2.2 a)⟩
  ·exact h.elim
 ·exact h.elim
theorem Zvp {env:Env} {o:Oper} (h:Ztv P env o k) (m:∀ v,k v→k' v):Ztv P env o k':=by
 obtain ⟨dst,op,type,pos,after,guard⟩:=o
 unfold Ztv at *
 cases op <;> simp only at h ⊢ <;> (try exact h.elim)
 case move x=>exact m _ h
 case assign x=>exact m _ h
 case pick c a b=>
  unfold Ynn at *
  split at h
  ·exact Yjz h (m _) (m _)
  ·exact h.elim
 case nilCheck x=>
  unfold Ytz at *
  split at h <;> first | exact h.elim | exact m _ h | exact Zsu h fun _ _=>m _
 case fieldAddr t x i=>
  unfold Zhg at *
  split at h
  ·exact Zyk h fun _ h=>Zde h fun h=>Zde h fun h=>Zsu h fun _ _=>m _
  ·exact h.elim
 case field t x i=>
  unfold Ydz at *
  split at h
  ·exact Zyk h fun _ h=>Yav h m
  ·exact h.elim
 case indexAddr t x i=>
  unfold Zpk at *
  split at h
  ·split at h
   ·split at h <;> first | exact h.elim | exact Zde h fun h=>⟨h.1,Zsu h.2 fun _ _=>m _⟩
   ·split at h <;> first | exact h.elim | exact Zde h fun h=>⟨h.1,Zsu h.2 fun _ _=>m _⟩
   ·exact h.elim
  ·exact h.elim
 case index t x i=>
  unfold Ycz at *
  split at h
  ·split at h
   ·split at h
    ·exact ⟨h.1,m _ h.2⟩
    ·exact h.elim
   ·split at h
    ·exact Zde h fun h=>⟨h.1,Yav h.2 m⟩
    ·exact h.elim
   ·exact h.elim
  ·exact h.elim
 case slice t x lo hi mx=>exact Yfq h m
 case binOp op t x y yt=>exact Yku h m
 case unOp op t x=>
  unfold unA at *
  split at h
  ·split at h <;> first | exact h.elim | exact m _ h
  ·split at h <;> first | exact h.elim | exact m _ h
  ·exact h.elim
 case convert s d x=>exact Yka h m
 case extract x i=>
  unfold Zuo at *
  split at h
  ·exact Zue h m
  ·exact h.elim
 case makeFunc fn first caps=>
  cases fn <;> simp only at h ⊢ <;> first | exact h.elim | exact Zde h (m _)
 case call c=>
  split at h
  ·exact Ynk h m
  ·exact h.elim
theorem Zxm {h:Zaa} {j:Nat} {e:TypeId} {A B:List Zau→Prop} (hh:Zsh h j e A) (m:∀ cs,A cs→B cs):Zsh h j e B:=by
 unfold Zsh at *
 split at hh
 ·exact ⟨hh.1,m _ hh.2⟩
 ·exact hh.elim
theorem Ydu {t:TypeId} {h:Zaa} {s x:Zau} (hh:Zda P t h s x K) (m:∀ v h,K v h→K' v h):Zda P t h s x K':=by
 unfold Zda at *
 split at hh <;> (try exact hh.elim)
 split at hh <;> (try exact hh.elim)
 split at hh <;> (try exact hh.elim)
 refine Zgp hh fun new h=>⟨h.1,?_⟩
 have h2:=h.2
 split at h2
 ·exact ⟨fun a=>m _ _ (h2.1 a),fun a=>⟨(h2.2 a).1,m _ _ (h2.2 a).2⟩⟩
 ·rcases h2 with ⟨a,b⟩ | ⟨a,b⟩ | ⟨a,b⟩
  ·exact .inl ⟨a,Zxm b fun _ h=>⟨h.1,m _ _ h.2⟩⟩
  ·exact .inr (.inl ⟨a,Zxm b fun _ h=>⟨h.1,m _ _ h.2⟩⟩)
  ·exact .inr (.inr ⟨a,Zgp b fun _=>m _ _⟩)
theorem Zxy:∀ {cs:List Zau} {K K':List Nat→Prop},Zsd cs K→(∀ s,K s→K' s)→Zsd cs K'
 | [],_,_,h,m=>m _ h
 | .int k n :: r,_,_,h,m=>by
  unfold Zsd at *
  exact Zde h fun h=>⟨h.1,Zxy h.2 fun _=>m _⟩
 | .undef :: _,_,_,h,_ | .bool _ :: _,_,_,h,_ | .str _ :: _,_,_,h,_ | .ptr _ :: _,_,_,h,_ | .slice .. :: _,_,_,h,_ | .map _ :: _,_,_,h,_ | .fn .. :: _,_,_,h,_ | .nilFn :: _,_,_,h,_ | .iter _ :: _,_,_,h,_
 | .agg _ :: _,_,_,h,_ | .tup _ :: _,_,_,h,_=>by unfold Zsd at h; exact h.elim
theorem Ylw {s d:TypeId} {h:Zaa} {x:Zau} {K K':Zau→Prop} (hh:Ysl P s d h x K) (m:∀ v,K v→K' v):Ysl P s d h x K':=by
 unfold Ysl at *
 split at hh
 ·refine Zde hh fun h=>?_
  split at h
  ·exact Zgp h fun _ h=>Zxy h fun _=>m _
  ·exact h.elim
 ·exact hh.elim
theorem Ynf {x y:Zau} {K K':Zau→Prop} (hh:Ysj x y K) (m:∀ v,K v→K' v):Ysj x y K':=by
 unfold Ysj at *
 split at hh
 ·split at hh
  ·exact Zde hh (m _)
  ·exact hh.elim
 ·exact hh.elim
theorem Zyj {t:TypeId} {a b:Zau} {h:Zaa} {K K':Zau→Zaa→Prop} (hh:Znm P t a b h K) (m:∀ v h,K v h→K' v h):Znm P t a b h K':=by
 unfold Znm at *
 split at hh
 ·refine Zgp hh fun _ h=>Zde h fun h=>?_
  unfold Zdo at *
  split at h
  ·refine ⟨h.1,?_⟩
   replace h:=h.2
   split at h
   ·exact ⟨h.1,h.2.1,m _ _ h.2.2⟩
   ·exact h.elim
  ·exact h.elim
 ·exact hh.elim
theorem Zmd {h:Zaa} {m:Option Nat} {K K':List ME→Nat→Prop} (hh:Zia h m K) (m':∀ a b,K a b→K' a b):Zia h m K':=by
 unfold Zia at *
 split at hh
 ·exact m' _ _ hh
 ·split at hh
  ·exact m' _ _ hh
  ·exact hh.elim
theorem Yjv {es:List ME} {s:List Nat} {K K':Option Zau→Prop} (hh:Zzq es s K) (m:∀ a,K a→K' a):Zzq es s K':=by
 unfold Zzq at *; split at hh <;> first | exact m _ hh | exact hh.elim
theorem Yls {es:List ME} {clk:Nat} {s:List Nat} {v:Zau} {K K':List ME→Nat→Prop} (hh:Yog es clk s v K) (m:∀ a b,K a b→K' a b):Yog es clk s v K':=by
 unfold Yog at *; split at hh <;> first | exact m _ _ hh | exact hh.elim
theorem Yhu {m:Option Nat} {K K':Nat→Prop} (hh:xMp m K) (mm:∀ a,K a→K' a):xMp m K':=by
 unfold xMp at *; split at hh <;> first | exact mm _ hh | exact hh.elim
theorem Yiu {h:Zaa} {r:Nat} {K K':List Nat→Nat→Prop} (hh:Yjk h r K) (m:∀ a b,K a b→K' a b):Yjk h r K':=by
 unfold Yjk at *; split at hh <;> first | exact m _ _ hh | exact hh.elim
theorem Zze {h:Zaa} {r:Nat} {K K':Option Nat→Nat→List Nat→Nat→Prop} (hh:Zyn h r K) (m:∀ a b c d,K a b c d→K' a b c d):Zyn h r K':=by
 unfold Zyn at *; split at hh <;> first | exact m _ _ _ _ hh | exact hh.elim
theorem Yeg {t:TypeId} {h:Zaa} {x i:Zau} {ok:Bool} (hh:Zvu P t h x i ok k) (m:∀ v,k v→k' v):Zvu P t h x i ok k':=by
 unfold Zvu at *
 split at hh
 ·refine Zde hh fun h=>?_
  split at h
  ·exact Zxo h fun _ h=>Zue h fun _ h=>Zmd h fun _ _ h=>Yjv h fun _ h=>Zqs h fun _=>m _
  ·exact h.elim
 ·exact hh.elim
theorem Zzm {t:TypeId} {h:Zaa} {x i v:Zau} (hh:Znl P t h x i v K) (m:∀ v h,K v h→K' v h):Znl P t h x i v K':=by
 unfold Znl at *
 split at hh
 ·refine Zde hh fun h=>?_
  split at h
  ·exact Yhu h fun _ h=>Zxo h fun _ h=>Zmd h fun _ _ h=>Yls h fun _ _=>m _ _
  ·exact h.elim
 ·exact hh.elim
theorem Ybb {t:TypeId} {r:Option Zau} {h:Zaa} (hh:Zss P t r h K) (m:∀ v h,K v h→K' v h):Zss P t r h K':=by
 unfold Zss at *
 split at hh <;> first | exact m _ _ hh | exact Zde hh (m _ _) | exact hh.elim
theorem Ygh {t:TypeId} {x:Zau} {h:Zaa} (hh:Yap P t x h K) (m:∀ v h,K v h→K' v h):Yap P t x h K':=by
 unfold Yap at *
 split at hh <;> first | exact hh.elim | exact Zde hh (m _ _) | exact Zde hh fun h=>Zmd h fun _ _=>m _ _
theorem Ylf {m:Option Nat} {A B A' B':Prop} (hh:Yud m A B) (p:A→A') (q:B→B'):Yud m A' B':=by
 unfold Yud at *; split at hh <;> first | exact p hh | exact q hh
theorem Ykg {ty:TypeId} {x:Zau} {st:Bool} {h:Zaa} (hh:Yiw P ty x st h K) (m:∀ v h,K v h→K' v h):Yiw P ty x st h K':=by
 unfold Yiw at *
 split at hh
 ·split at hh
  ·exact Yiu hh fun _ _ h=>⟨fun a=>⟨(h.1 a).1,m _ _ (h.1 a).2⟩,fun a=>m _ _ (h.2 a)⟩
  ·exact Zze hh fun _ _ _ _ h=>Ylf h (m _ _) fun h=>Zmd h fun _ _ h=>⟨h.1,fun a=>m _ _ (h.2.1 a),fun e he hn=>Zqs (h.2.2 e he hn) fun _ h=>Zqs h fun _=>m _ _⟩
 ·exact hh.elim
theorem Yfn {ty:TypeId} {x:Zau} {h:Zaa} (hh:Yah P ty x h k) (m:∀ v,k v→k' v):Yah P ty x h k':=by
 unfold Yah at *
 split at hh
 ·exact Zze hh fun _ _ _ _ h=>Yhu h fun _ h=>Zmd h fun _ _ h=>⟨h.1,h.2.imp fun _ h=>⟨h.1,h.2.imp fun _ h=>⟨h.1,Zqs h.2 fun _ h=>Zqs h fun _=>m _⟩⟩⟩
 ·exact hh.elim
theorem Yol {env:Env} {h:Zaa} {o:Oper} (hh:opA P env h o K) (m:∀ v h,K v h→K' v h):opA P env h o K':=by
 obtain ⟨dst,op,type,pos,after,guard⟩:=o
 unfold opA at *
 cases op <;> simp only at hh ⊢
 case load t a=>exact Zde hh fun h=>Yji h fun _=>m _ _
 case store t a x=>exact Zde hh fun h=>Ygo h fun _=>m _ _
 case alloc t=>exact Zgp hh fun _=>m _ _
 case box t x=>exact Zgp hh fun _=>m _ _
 case build t ps=>
  refine Zgp hh fun _ h=>?_
  split at h
  ·exact Zde h fun h=>Zgp h fun _=>m _ _
  ·exact Zde h fun h=>Zgp h fun _=>m _ _
  ·exact h.elim
 case buildSlice t n ps=>
  unfold Zqx at *
  split at hh
  ·exact Zgp hh fun _ h=>Zde h fun h=>Zgp h fun _=>m _ _
  ·exact hh.elim
 case call c=>
  unfold Ylt at *
  split at hh
  ·split at hh
   ·exact Zah.mono hh fun _ _ h=>Ycx h fun _=>m _ _
   ·unfold Yur Yuo at *
    split at hh
    ·exact Zah.mono hh fun _ _ h=>Ycx h fun _=>m _ _
    ·exact hh.elim
  ·split at hh
   ·refine Zde hh fun h=>?_
    split at h
    ·exact Ydu h fun _ _ h=>Zqs h fun _=>m _ _
    ·exact h.elim
   ·exact hh.elim
  ·split at hh
   ·exact Ynf hh fun _=>m _ _
   ·exact hh.elim
  ·split at hh
   ·split at hh
    ·unfold Yhp at *
     split at hh
     ·split at hh
      ·refine ⟨fun h0=>m _ _ (hh.1 h0),fun h0=>Zgp (hh.2 h0) fun _ h=>Zde h fun h=>Yag h fun _=>m _ _⟩
      ·exact hh.elim
     ·exact hh.elim
    ·exact hh.elim
   ·exact hh.elim
  ·exact Zvp hh fun _=>m _ _
 case makeSlice t l c=>exact Zyj hh m
 case makeMap t r=>exact Ybb hh m
 case lookup t x i ok=>exact Yeg hh fun _=>m _ _
 case mapUpdate t mm k v=>exact Zzm hh m
 case range t x=>exact Ygh hh m
 case next x st=>exact Ykg hh m
 case entry x=>exact Yfn hh fun _=>m _ _
 case convert s d x=>
  split at hh
  ·exact Ylw hh fun _=>m _ _
  ·exact Zvp hh fun _=>m _ _
 all_goals exact Zvp hh fun _=>m _ _
end
end Go.Sim

set_option linter.unusedSimpArgs false
namespace Go.Sim
open Go Go.RowKit

def Det {α:Type} (F:(α→Prop)→Prop):Prop:=∀ k,F k→∃ v,k v∧∀ k',k' v→F k'
theorem Det.ret {α:Type} (a:α):Det (fun k=>k a):=fun _ h=>⟨a,h,fun _ h=>h⟩
theorem Det.no {α:Type}:Det (fun _:α→Prop=>False):=fun _ h=>h.elim
theorem Det.and {α:Type} {p:Prop} {F:(α→Prop)→Prop} (d:Det F):Det (fun k=>p∧F k):=fun k ⟨hp,h⟩=>let ⟨v,hv,r⟩:=d k h; ⟨v,hv,fun k' h'=>⟨hp,r k' h'⟩⟩
theorem Det.chk {α:Type} {p:Prop} [Decidable p] {F:(α→Prop)→Prop} (d:Det F):Det (fun k=>chk p (F k)):=fun k h=>by
 have ⟨hp,h⟩:=Zcc h
 obtain ⟨v,hv,r⟩:=d k h
 exact ⟨v,hv,fun k' h'=>by unfold Sim.chk; rw [decide_eq_true hp]; exact r k' h'⟩
theorem Det.bind {α β:Type} {F:(α→Prop)→Prop} {G:α→(β→Prop)→Prop} (d:Det F) (e:∀ a,Det (G a)):Det (fun k=>F fun a=>G a k):=fun k h=>by
 obtain ⟨a,ha,r⟩:=d _ h
 obtain ⟨b,hb,q⟩:=e a k ha
 exact ⟨b,hb,fun k' h'=>r _ (q k' h')⟩
theorem Det.map {α β:Type} {F:(α→Prop)→Prop} (d:Det F) (f:α→β):Det (fun k=>F fun a=>k (f a)):=d.bind fun a=>Det.ret (f a)
theorem Det.bcase {α:Type} {b:Bool} {F G:(α→Prop)→Prop} (d:Det F) (e:Det G):Det (fun k=>bcase b (F k) (G k)):=by cases b <;> assumption

section
variable {P:Program}
theorem Ymk (s:Sh) (o:Option Zau):Det (xv s o):=by
 intro k h
 cases s <;> simp only [xv,Zbx,Zbg,Zhi,xSl,Ylq,Yak,Zdo] at * <;> split at h <;> first
  | exact h.elim
  | exact ⟨_,h,fun _ h=>h⟩
  | exact ⟨_,h.2,fun _ h'=>⟨h.1,h'⟩⟩
theorem Yib (o:Option Zau):Det (Yak o):=Ymk .any o
theorem Zxh (o:Option (List Zau)):Det (Zco o):=fun k h=>by
 unfold Zco at *; split at h <;> first | exact ⟨_,h,fun _ h=>h⟩ | exact h.elim
theorem Yqy:∀ (ss:List Sh) (cs:List Zau),Det (xs ss cs)
 | [],cs=>fun k h=>by
  simp only [xs,Zbv] at *; split at h <;> first | exact ⟨_,h,fun _ h=>h⟩ | exact h.elim
 | s :: ss,cs=>fun k h=>by
  simp only [xs,Zaj] at *
  split at h
  ·exact ((Ymk s _).bind (G:=fun v k=>xs ss _ fun vs=>k (v :: vs)) fun v=>(Yqy ss _).map (v :: ·)) k h
  ·exact h.elim
theorem Yoa (t:TypeId) (h:Zaa) (p:Zau):Det (Zwv P t h p):=by
 intro k hh
 unfold Zwv at *
 split at hh
 ·exact ((Zxh _).bind (G:=fun cs k=>xs _ cs fun vs=>k (.agg vs)) fun cs=>(Yqy _ cs).map Zau.agg) k hh
 ·exact Ymk _ _ k hh
theorem Ykv (a b:Option (Nat × Nat)):Det (Yfl a b):=by
 intro k h
 unfold Yfl at *
 split at h
 ·exact ⟨_,h,fun _ h=>h⟩
 ·split at h
  ·exact ⟨_,h,fun _ h=>h⟩
  ·exact h.elim
theorem Zul (a:Option (Nat × Nat)) (f:Nat→Nat→Zau):Det (fun k:Zau→Prop=>Zbm a fun b o=>k (f b o)):=by
 intro k h
 obtain ⟨b,o,rfl,h⟩:=Zbn h
 exact ⟨_,h,fun _ h=>h⟩
theorem Ylo (t:TypeId) (x y:Zau):Det (eqA P t x y):=by
 intro k h
 unfold eqA at *
 split at h <;> (try exact h.elim) <;> split at h <;> (try exact h.elim)
 ·exact (Det.ret _).chk k h
 ·exact ⟨_,h,fun _ h=>h⟩
 ·exact (Det.ret _).chk k h
 ·exact (Ykv _ _).chk k h
 ·split at h
  ·exact ⟨_,h,fun _ h=>h⟩
  ·exact h.elim
 ·exact (Det.ret _).and.chk k h
theorem Yor (op:BinOp) (t:TypeId) (x y:Zau):Det (Yqx P op t x y):=by
 intro k h
 unfold Yqx at *
 split at h
 ·exact (Ylo t x y).map _ k h
 ·exact (Ylo t x y).map _ k h
 ·split at h
  ·split at h
   ·split at h <;> first
     | exact h.elim
     | exact (Det.ret _).chk k h
     | exact (Det.ret _).and.chk k h
     | exact (Det.ret _).and k h
   ·exact h.elim
  ·split at h
   ·split at h <;> first
     | exact h.elim
     | exact (Det.ret _).and k h
     | exact ⟨_,h,fun _ h=>h⟩
   ·exact h.elim
  ·exact h.elim
theorem Ydn (t:TypeId) (cs:List Zau) (off:Nat):Det (Zzt P t cs off):=by
 intro k h
 unfold Zzt at *
 split at h
 ·exact ⟨_,h,fun _ h=>h⟩
 ·exact (Yib _).chk k h
theorem Zpo (o:Option Zau) (d:Int):Det (Zln o d):=fun k h=>by
 unfold Zln at *; split at h <;> first | exact ⟨_,h,fun _ h=>h⟩ | exact h.elim
theorem Yct (o:Option Field):Det (Ztj o):=fun k h=>by
 unfold Ztj at *; split at h <;> first | exact ⟨_,h,fun _ h=>h⟩ | exact h.elim
theorem Ycn (s:List Nat) (lo hi:Option Zau):Det (Zuc s lo hi):=by
 unfold Zuc
 exact (Zpo hi s.length).bind fun h=>(Zpo lo 0).bind fun l=>(Det.ret _).and
theorem Ygj (a:Option (Nat × Nat)) (len cap:Nat) (ex:Bool) (sz:Nat) (lo hi mx:Option Zau):Det (Zls a len cap ex sz lo hi mx):=by
 unfold Zls
 refine (Zpo mx cap).bind fun m=>(Zpo hi len).bind fun h=>(Zpo lo 0).bind fun l=>Det.and ?_
 intro k hk
 split at hk
 ·exact (Det.ret _).and k hk
 ·rename_i b o
  by_cases hlm:l < m
  ·exact ⟨_,hk.1 hlm,fun k' h'=>⟨fun _=>h',fun h=>absurd hlm h⟩⟩
  ·exact ⟨_,hk.2 hlm,fun k' h'=>⟨fun h=>absurd h hlm,fun _=>h'⟩⟩
theorem Yle (env:Env) (o:Oper):Det (Ztv P env o):=by
 intro k h
 obtain ⟨dst,op,type,pos,after,guard⟩:=o
 unfold Ztv at *
 cases op <;> simp only at h ⊢ <;> (try exact h.elim)
 case move x=>exact ⟨_,h,fun _ h=>h⟩
 case assign x=>exact ⟨_,h,fun _ h=>h⟩
 case pick c a b=>
  unfold Ynn at *
  split at h
  ·exact (Det.ret _).bcase (Det.ret _) k h
  ·exact h.elim
 case nilCheck x=>
  unfold Ytz at *
  split at h <;> first | exact h.elim | exact ⟨_,h,fun _ h=>h⟩ | exact Zul _ (fun b o=>.ptr (some (b,o))) k h
 case fieldAddr t x i=>
  unfold Zhg at *
  split at h
  ·rename_i a _
   exact (Det.bind (F:=Ztj (Zyx P t i)) (G:=fun (f:Field) (k:Zau→Prop)=>chk ((P.underlying f.type).isSome=true) (chk (P.cellsOf f.type≠0) (Zbm a fun b o=>k (Zau.ptr (some (b,o + f.offset)))))) (Yct _) fun f=>Det.chk (Det.chk (Zul a fun b o=>Zau.ptr (some (b,o + f.offset))))) k h
  ·exact h.elim
 case field t x i=>
  unfold Ydz at *
  split at h
  ·exact (Yct _).bind (G:=fun f k=>Zzt P f.type _ f.offset k) (fun f=>Ydn _ _ _) k h
  ·exact h.elim
 case indexAddr t x i=>
  unfold Zpk at *
  split at h
  ·split at h
   ·split at h <;> first | exact h.elim | exact (Zul _ (fun b o=>Zau.ptr (some (b,o + _)))).and.chk k h
   ·split at h <;> first | exact h.elim | exact (Zul _ (fun b o=>Zau.ptr (some (b,o + _)))).and.chk k h
   ·exact h.elim
  ·exact h.elim
 case index t x i=>
  unfold Ycz at *
  split at h
  ·split at h
   ·split at h
    ·exact (Det.ret _).and k h
    ·exact h.elim
   ·split at h
    ·exact (Ydn _ _ _).and.chk k h
    ·exact h.elim
   ·exact h.elim
  ·exact h.elim
 case slice t x lo hi mx=>
  unfold Yam at *
  split at h
  ·split at h
   ·exact (Ycn _ _ _).chk k h
   ·exact h.elim
  ·split at h
   ·exact (Ygj _ _ _ _ _ _ _ _).chk.chk k h
   ·exact h.elim
  ·exact h.elim
 case binOp op t x y yt=>exact Yor _ _ _ _ k h
 case unOp op t x=>
  unfold unA at *
  split at h
  ·split at h <;> first | exact h.elim | exact ⟨_,h,fun _ h=>h⟩
  ·split at h <;> first | exact h.elim | exact ⟨_,h,fun _ h=>h⟩
  ·exact h.elim
 case convert s d x=>
  unfold Yfx at *
  split at h
  ·split at h <;> first | exact h.elim | exact (Det.ret _).chk k h
  ·split at h <;> first | exact h.elim | exact (Det.ret _).chk k h | exact (Det.ret _).and.chk k h
  ·exact h.elim
 case extract x i=>
  unfold Zuo at *
  split at h
  ·exact Yib _ k h
  ·exact h.elim
 case makeFunc fn first caps=>
  cases fn <;> simp only at h ⊢ <;> first | exact h.elim | exact (Det.ret _).chk k h
 case call c=>
  split at h
  ·unfold Ysa at *
   split at h <;> first | exact h.elim | exact (Det.ret _).chk k h
  ·exact h.elim

def Yca (P:Program) (op:Op):Bool:=
 match op with
 | .move _ | .assign _ | .pick .. | .binOp .. | .unOp .. | .nilCheck _ | .extract .. | .field .. | .fieldAddr .. | .indexAddr .. | .index .. | .slice .. | .makeFunc .. | .build ..=>true
 | .call c=>(match c.callee with | .builtin .len=>true | _=>false)
 | .convert s _ _=>!Yjf P s
 | _=>false
def Yok (op:Op):Bool:=match op with | .load ..=>true | _=>false
def Yjl (P:Program) (env:Env) (o:Oper) (k:Zau→Prop):Prop:=
 match o.op with
 | .build t ps=>Ynl P t (parts env ps) k
 | _=>Ztv P env o k
theorem Yms (env:Env) (o:Oper):Det (Yjl P env o):=by
 intro k h
 unfold Yjl at *
 split at h
 ·refine (Zxh _).bind (G:=fun z k=>_) (fun z=>?_) k h
  intro k h
  split at h
  ·exact ((Zxh _).map _).chk k h
  ·exact ((Zxh _).map _).chk k h
  ·exact h.elim
 ·exact Yle env o k h
theorem Zxz {env:Env} {h:Zaa} {o:Oper} (hr:Yca P o.op=true) {K:Zau→Zaa→Prop}:opA P env h o K ↔ Yjl P env o fun v=>K v h:=by
 obtain ⟨dst,op,type,pos,after,guard⟩:=o
 cases op <;> simp only [Yca,Bool.false_eq_true] at hr <;> try (simp only [opA,Yjl]; done)
 case call c=>
  simp only [opA,Yjl,Ylt]
  split at hr
  ·rename_i hc; simp [hc]
  ·cases hr
 case convert s d x=>
  simp only [Bool.not_eq_true'] at hr
  simp only [opA,Yjl,hr]

theorem Zyl {env env':Env} {ps:Array (Nat × Operand)} (hx:∀ x∈ps.map (·.2),ev env x=ev env' x):parts env ps=parts env' ps:=by
 unfold parts
 refine List.map_congr_left fun p hp=>?_
 rw [hx p.2 (Array.mem_map.2 ⟨p,by simpa using hp,rfl⟩)]
theorem Yar {env env':Env} {xs:Array Operand} (hx:∀ x∈xs,ev env x=ev env' x):xs.toList.map (ev env)=xs.toList.map (ev env'):=
 List.map_congr_left fun x hp=>hx x (by simpa using hp)
theorem Zxj {env env':Env} {h:Zaa} {o:Oper} (hx:∀ x∈o.op.operands,ev env x=ev env' x) {K:Zau→Zaa→Prop}:opA P env h o K ↔ opA P env' h o K:=by
 obtain ⟨dst,op,type,pos,after,guard⟩:=o
 cases op <;> simp only [Op.operands] at hx <;> simp only [opA,Ztv]
 case build t ps=>rw [Zyl fun x h=>hx x (by simpa using h)]
 case buildSlice t n ps=>rw [Zyl fun x h=>hx x (by simpa using h)]
 case makeFunc fn first caps=>
  have hc:=Yar (xs:=caps) fun x h=>hx x (by simp [h])
  cases fn <;> simp only [hc]
 case call c=>
  simp only [Call.operands] at hx
  have ha:c.args.toList.map (ev env)=c.args.toList.map (ev env'):=Yar fun x h=>hx x (by simp [h])
  simp only [Ylt,Ztv,ha]
  cases hc:c.callee with
  | value f=>
   have hf:ev env f=ev env' f:=hx f (by simp [hc])
   cases f <;> simp only [hf]
  | invoke r m=>exact Iff.rfl
  | builtin b=>cases b <;> exact Iff.rfl
 case slice t x lo hi mx=>
  cases lo <;> cases hi <;> cases mx <;> simp_all
 case makeMap t r=>cases r <;> simp_all
 all_goals (first | rfl | (simp_all; done))
end
end Go.Sim

set_option linter.unusedSimpArgs false
namespace Go.Sim
open Go Go.RowKit

structure Yac where
 i:Nat
 p:Zau
 n:Option Nat
def Yac.ok (d:Yac) (h h':Zaa):Prop:=match d.n with | none=>Zag h' d.p=Zag h d.p | some n=>Zbj h' d.p n=Zbj h d.p n
theorem Yac.ok_refl (d:Yac) (h:Zaa):d.ok h h:=by unfold Yac.ok; split <;> rfl
def Zse (ops:Array Oper) (j i:Nat):Bool:=match ops[j]? with | some o=>o.after.any (fun e=>Region.binds .any e && e.on == i) | none=>false
def Ycl (ops:Array Oper) (j:Nat):List Yac→Zaa→Zaa→Prop→Prop
 | [],_,_,K=>K
 | d :: r,h,h',K=>(match Zse ops j d.i with | true=>Ycl ops j r h h' K | false=>d.ok h h'∧Ycl ops j r h h' K)
theorem Zqu {ops:Array Oper} {j:Nat}:∀ {hs:List Yac} {h h':Zaa} {K:Prop},Ycl ops j hs h h' K→(∀ d∈hs,Zse ops j d.i=true ∨ d.ok h h')∧K
 | [],_,_,_,hk=>⟨by simp,hk⟩
 | d :: r,h,h',K,hk=>by
  unfold Ycl at hk
  split at hk
  ·rename_i hw
   obtain ⟨a,b⟩:=Zqu hk
   exact ⟨fun x hx=>by rcases List.mem_cons.1 hx with rfl | hx; exact .inl hw; exact a x hx,b⟩
  ·obtain ⟨ho,hk⟩:=hk
   obtain ⟨a,b⟩:=Zqu hk
   exact ⟨fun x hx=>by rcases List.mem_cons.1 hx with rfl | hx; exact .inr ho; exact a x hx,b⟩

def Zws (P:Program) (N:Nat) (ops:Array Oper) (i:Nat) (env:Env) (h:Zaa) (K:Env→Zaa→Prop):Prop:=
 match ops[i]? with | some o=>Zoj P N ops env h o K | none=>K env h
def Zrn (P:Program) (ops:Array Oper) (i:Nat) (env:Env):Yac:=
 match ops[i]? with
 | some o=>(match o.op with
  | .load t a=>(match isAgg P t with | true=>⟨i,ev env a,some (P.cellsOf t)⟩ | false=>⟨i,ev env a,none⟩)
  | _=>⟨i,.undef,none⟩)
 | none=>⟨i,.undef,none⟩
def Yss (ops:Array Oper) (f:Op→Bool) (i:Nat):Bool:=match ops[i]? with | some o=>f o.op | none=>false
def Yun (f:Nat→Prop):List Nat→Prop
 | []=>True
 | [i]=>f i
 | i :: r=>f i∧Yun f r
theorem Ydg {f:Nat→Prop}:∀ {l:List Nat},Yun f l→∀ i∈l,f i
 | [],_,i,hi=>by simp at hi
 | [j],h,i,hi=>by simp at hi; subst hi; exact h
 | j :: k :: r,h,i,hi=>by
  rcases List.mem_cons.1 hi with rfl | hi
  ·exact h.1
  ·exact Ydg h.2 i hi
def Yfr (P:Program) (N:Nat) (ops:Array Oper) (ks:List Nat) (K:Env→Zaa→Prop):Nat→Array Bool→List Yac→Env→Zaa→Prop
 | 0,listed,_,env,h=>(match Region.ready .any ops listed with | []=>K (env.keep ks) h | _=>False)
 | f + 1,listed,hs,env,h=>
  (match Region.ready .any ops listed with
  | []=>K (env.keep ks) h
  | rs=>(match rs.find? (fun i=>Yss ops (Yca P) i && Region.free .any ops listed i) with
   | some i=>Zws P N ops i env h fun env' h'=>Yfr P N ops ks K f (listed.setIfInBounds i true) hs env' h'
   | none=>(match (match rs with | [_]=>none | _=>rs.find? (fun i=>Yss ops Yok i && Region.free .any ops listed i)) with
    | some i=>Zws P N ops i env h fun env' h'=>Yfr P N ops ks K f (listed.setIfInBounds i true) (Zrn P ops i env :: hs) env' h'
    | none=>Yun (fun i=>Zws P N ops i env h fun env' h'=>Ycl ops i hs h h' (Yfr P N ops ks K f (listed.setIfInBounds i true) hs env' h')) rs)))

def Yqo (P:Program) (N:Nat) (ops:Array Oper) (K:Env→Zaa→Prop) (hs:List Yac):Nat→Array Bool→Env→Zaa→Prop
 | 0,listed,env,h=>Region.ready .any ops listed=[]∧K env h
 | f + 1,listed,env,h=>(Region.ready .any ops listed=[]→K env h) ∧
  ∀ i∈Region.ready .any ops listed,Zws P N ops i env h fun env' h'=>(∀ d∈hs,Zse ops i d.i=true ∨ d.ok h h')∧Yqo P N ops K hs f (listed.setIfInBounds i true) env' h'

def Yfz (env env':Env):Prop:=∀ t,env.get t=env'.get t
def Zvw (o:Oper) (env:Env) (v:Zau) (env1:Env):Prop:=∀ t,env1.get t=if o.dst=some t then v else env.get t

section
variable {P:Program} {N:Nat} {ops:Array Oper}

theorem Ygf {env env':Env} {d:Option Tmp} {v:Zau} {K K':Env→Prop} (hk:Ztl N env d v K)
  (hK:∀ env1 env1',(∀ t,env1.get t=if d=some t then v else env.get t)→(∀ t,env1'.get t=if d=some t then v else env'.get t)→K env1→K' env1'):Ztl N env' d v K':=by
 unfold Ztl at *
 cases d with
 | none=>exact hK env env' (by simp) (by simp) hk
 | some d=>
  refine Zde hk fun hk=>hK _ _ ?_ ?_ hk
  ·intro t; rw [Env.get_set]; by_cases e:t=d <;> simp [e,eq_comm]; exact fun q=>absurd q.symm e
  ·intro t; rw [Env.get_set]; by_cases e:t=d <;> simp [e,eq_comm]; exact fun q=>absurd q.symm e

theorem Zqh {env env':Env} {o:Oper} (hl:∀ t∈o.looksAt ops,env.get t=env'.get t):∀ x∈o.op.operands,ev env x=ev env' x:=fun x hx=>by
 cases x with
 | tmp t=>exact hl t (List.mem_append_left _ (List.mem_filterMap.2 ⟨.tmp t,by simpa using hx,rfl⟩))
 | _=>rfl
theorem Zgy {env:Env} {t:Nat} {v:Zau} (h:env.get t=v) (s:Nat):(env.set t v).get s=env.get s:=by
 rw [Env.get_set]; split
 ·rename_i e; subst e; exact h.symm
 ·rfl
theorem Yrz {env env':Env} {h h2:Zaa} {o:Oper} {K K':Env→Zaa→Prop} (hs:Zoj P N ops env h o K) (hl:∀ t∈o.looksAt ops,env.get t=env'.get t)
  (hop:∀ (e1 e2:Env),(∀ x∈o.op.operands,ev e1 x=ev e2 x)→(∀ t,e1.get t=env.get t)→∀ (A B:Zau→Zaa→Prop),opA P e1 h o A→(∀ v h',A v h'→B v h')→opA P e2 h2 o B)
  (hun:∀ e1 e2,Yfz e1 env→Yfz e2 env'→Ztl N e1 o.dst (.tup []) (fun x=>K x h)→Ztl N e2 o.dst (.tup []) (fun x=>K' x h2))
  (hK:∀ v h' env1 env1',Zvw o env v env1→Zvw o env' v env1'→K env1 h'→K' env1' h'):Zoj P N ops env' h2 o K':=by
 unfold Zoj at *
 cases hg:o.guard with
 | none=>
  simp only [hg] at hs ⊢
  exact hop env env' (Zqh hl) (fun _=>rfl) _ _ hs fun v h' hp=>Ygf hp fun e1 e2 a b k=>hK v h' e1 e2 a b k
 | some g=>
  obtain ⟨j,want⟩:=g
  simp only [hg] at hs ⊢
  cases ht:(ops[j]?).bind (·.dst) with
  | none=>simp only [ht] at hs
  | some t=>
   simp only [ht] at hs ⊢
   have htl:env.get t=env'.get t:=hl t (List.mem_append_right _ (by simp [hg,ht]))
   rw [← htl]
   split at hs
   ·rename_i b hb
    have key:∀ c,b=c→(opA P (env.set t (.bool c)) h o (fun v h'=>Ztl N (env.set t (.bool c)) o.dst v fun env'=>K env' h')→opA P (env'.set t (.bool c)) h2 o (fun v h'=>Ztl N (env'.set t (.bool c)) o.dst v fun env'=>K' env' h')) ∧
      (Ztl N (env.set t (.bool c)) o.dst (.tup []) (fun env'=>K env' h)→Ztl N (env'.set t (.bool c)) o.dst (.tup []) (fun env'=>K' env' h2)):=by
     intro c e
     subst e
     have k1:=Zgy hb
     have k2:=Zgy (htl ▸ hb:env'.get t=.bool b)
     constructor
     ·intro ho
      refine hop _ _ (Zqh fun s hs=>by rw [k1,k2]; exact hl s hs) k1 _ _ ho fun v h' hp=>Ygf hp fun e1 e2 a b k=>hK v h' e1 e2 ?_ ?_ k
      ·intro s; rw [a s,k1]
      ·intro s; rw [b s,k2]
     ·exact hun _ _ k1 k2
    cases b
    ·obtain ⟨k1,k2⟩:=key false rfl
     cases want
     ·exact k1 hs
     ·exact k2 hs
    ·obtain ⟨k1,k2⟩:=key true rfl
     cases want
     ·exact k2 hs
     ·exact k1 hs
   ·exact hun env env' (fun _=>rfl) (fun _=>rfl) hs
   ·exact hs.elim

theorem Zxu {env env':Env} {h:Zaa} {o:Oper} {K K':Env→Zaa→Prop} (hs:Zoj P N ops env h o K) (hl:∀ t∈o.looksAt ops,env.get t=env'.get t)
  (hK:∀ v h' env1 env1',Zvw o env v env1→Zvw o env' v env1'→K env1 h'→K' env1' h'):Zoj P N ops env' h o K':=
 Yrz hs hl (fun e1 e2 hx _ A B ha hm=>Yol ((Zxj hx).1 ha) hm)
  (fun e1 e2 q1 q2 hp=>Ygf hp fun f1 f2 a b k=>hK _ _ f1 f2 (fun t=>by rw [a t,q1 t]) (fun t=>by rw [b t,q2 t]) k) hK

def Yd (P:Program) (N:Nat) (ops:Array Oper) (o:Oper) (v:Zau) (env:Env) (h:Zaa):Prop:=
 ∀ K:Env→Zaa→Prop,(∀ env1,Zvw o env v env1→K env1 h)→Zoj P N ops env h o K

theorem Zuf {K:Env→Zaa→Prop} {hs hs':List Yac} (hsub:∀ d∈hs,d∈hs'):∀ (f:Nat) {listed:Array Bool} {env env':Env} {h:Zaa},(∀ e e' h,Yfz e e'→K e h→K e' h)→Yfz env env' →
  Yqo P N ops K hs' f listed env h→Yqo P N ops K hs f listed env' h
 | 0,_,_,_,_,hK,he,hh=>⟨hh.1,hK _ _ _ he hh.2⟩
 | f + 1,listed,env,env',h,hK,he,hh=>by
  refine ⟨fun hr=>hK _ _ _ he (hh.1 hr),fun i hi=>?_⟩
  have:=hh.2 i hi
  unfold Zws at *
  cases ho:ops[i]? with
  | none=>
   rw [ho] at this
   exact ⟨fun d hd=>this.1 d (hsub d hd),Zuf hsub f hK he this.2⟩
  | some o=>
   rw [ho] at this
   refine Zxu this (fun t _=>he t) fun v h' e1 e2 a b k=>⟨fun d hd=>k.1 d (hsub d hd),Zuf hsub f hK (fun t=>?_) k.2⟩
   rw [a t,b t,he t]

theorem Yaw {K:Env→Zaa→Prop} {hs hs':List Yac} (hK:∀ e e' h,Yfz e e'→K e h→K e' h) (hsub:∀ d∈hs,d∈hs') {i:Nat} {oi:Oper} {v:Zau} (hi:ops[i]?=some oi) {T:Zaa→Zaa→Prop}
  (hT:∀ j h h1,Zse ops j i=false→(∀ d∈hs',Zse ops j d.i=true ∨ d.ok h h1)→T h h1)
  {Y:Env→Zaa→Prop} (hY:∀ env h,Y env h→Yd P N ops oi v env h)
  (hst:∀ env h env1 h1,Y env h→(∀ t∈oi.looksAt ops,env.get t=env1.get t)→T h h1→Y env1 h1) :
  ∀ (fuel:Nat) (listed:Array Bool) (env env1:Env) (h:Zaa),
   (∀ j oj,ops[j]?=some oj→j≠i→listed.getD j true=false→(∀ e∈oj.after,Region.binds .any e=true→e.on≠i)→oi.apart ops oj=true) →
   i∈Region.ready .any ops listed→Y env h→Zvw oi env v env1 →
   Yqo P N ops K hs' fuel (listed.setIfInBounds i true) env1 h→Yqo P N ops K hs (fuel + 1) listed env h:=by
 intro fuel
 have now:∀ (fuel:Nat) (listed:Array Bool) (env env1:Env) (h:Zaa),Y env h→Zvw oi env v env1→Yqo P N ops K hs' fuel (listed.setIfInBounds i true) env1 h →
   Zws P N ops i env h fun env' h'=>(∀ d∈hs,Zse ops i d.i=true ∨ d.ok h h')∧Yqo P N ops K hs fuel (listed.setIfInBounds i true) env' h':=by
  intro fuel listed env env1 h hy ha H
  unfold Zws
  rw [hi]
  exact hY _ _ hy _ fun env2 h2=>⟨fun d _=>.inr (d.ok_refl h),Zuf hsub fuel hK (fun t=>by rw [ha t,h2 t]) H⟩
 induction fuel with
 | zero=>
  intro listed env env1 h _ hr hy ha H
  refine ⟨fun e=>(by rw [e] at hr; cases hr),fun j hj=>?_⟩
  by_cases hji:j=i
  ·subst hji; exact now 0 listed env env1 h hy ha H
  ·have:=ready_mono hj hji
   rw [H.1] at this
   cases this
 | succ fuel ih=>
  intro listed env env1 h hfree hr hy ha H
  refine ⟨fun e=>(by rw [e] at hr; cases hr),fun j hj=>?_⟩
  by_cases hji:j=i
  ·subst hji; exact now (fuel + 1) listed env env1 h hy ha H
  ·have h1:=H.2 j (ready_mono hj hji)
   obtain ⟨hjun,oj,hoj,hall⟩:=mem_ready.1 hj
   have hnot:∀ e∈oj.after,Region.binds .any e=true→e.on≠i:=fun e he hb heq=>by
    have h1:=hall e he hb
    have h0:=(mem_ready.1 hr).1
    rw [heq] at h1
    rcases Nat.lt_or_ge i listed.size with h' | h'
    ·simp [h'] at h0 h1; rw [h0] at h1; cases h1
    ·simp [Array.getElem?_eq_none h'] at h1
   have hw:Zse ops j i=false:=by
    unfold Zse
    rw [hoj]
    simp only [Array.any_eq_false]
    intro q hq
    simp only [Bool.and_eq_true,beq_iff_eq,not_and]
    intro hb
    exact hnot _ (Array.getElem_mem hq) hb
   obtain ⟨a1,a2,a3⟩:=Oper.apart_spec (hfree j oj hoj hji hjun hnot)
   unfold Zws at h1 ⊢
   rw [hoj] at h1 ⊢
   refine Zxu h1 (fun t ht=>?_) fun u h' e1 e2 q1 q2 k=>?_
   ·rw [ha t,if_neg (fun e=>a1 t e ht)]
   ·refine ⟨fun d hd=>k.1 d (hsub d hd),ih (listed.setIfInBounds j true) e2 e1 h' ?_ (ready_mono hr (Ne.symm hji)) ?_ ?_ ?_⟩
    ·intro k ok hk hki hun hno
     refine hfree k ok hk hki ?_ hno
     by_cases hjk:j=k
     ·subst hjk; exact hjun
     ·rw [getD_set_ne true hjk] at hun; exact hun
    ·refine hst env h e2 h' hy (fun t ht=>?_) (hT j h h' hw k.1)
     rw [q2 t,if_neg (fun e=>a3 t e ht)]
    ·intro t
     rw [q1 t,q2 t,ha t]
     by_cases x:oj.dst=some t <;> by_cases y:oi.dst=some t <;> simp [x,y]
     exact absurd x (a2 t y)
    ·rw [Array.setIfInBounds_comm _ _ hji]
     exact k.2
end
end Go.Sim

set_option linter.unusedSimpArgs false
namespace Go.Sim
open Go Go.RowKit

section
variable {P:Program} {N:Nat} {ops:Array Oper}

theorem Ynt {o:Oper} (hr:Yca P o.op=true) {env:Env} {h:Zaa} {K:Env→Zaa→Prop} (hs:Zoj P N ops env h o K) :
  ∃ v,(∃ env1,Zvw o env v env1∧K env1 h)∧∀ env' h',(∀ t∈o.looksAt ops,env.get t=env'.get t)→Yd P N ops o v env' h':=by
 have core:∀ (e:Env) (A:Zau→Zaa→Prop),opA P e h o A→∃ v,A v h∧∀ (e2:Env) (h2:Zaa) (B:Zau→Zaa→Prop),(∀ x∈o.op.operands,ev e x=ev e2 x)→B v h2→opA P e2 h2 o B:=by
  intro e A ha
  obtain ⟨v,hv,r⟩:=Yms e o _ ((Zxz hr).1 ha)
  exact ⟨v,hv,fun e2 h2 B hx hb=>(Zxj hx).1 ((Zxz hr).2 (r (fun v=>B v h2) hb))⟩
 have put:∀ {e:Env} {v:Zau} {K:Env→Prop},Ztl N e o.dst v K→(∃ e1,(∀ t,e1.get t=if o.dst=some t then v else e.get t)∧K e1)∧∀ (e2:Env) (K2:Env→Prop),(∀ e3,(∀ t,e3.get t=if o.dst=some t then v else e2.get t)→K2 e3)→Ztl N e2 o.dst v K2:=by
  intro e v K hp
  unfold Ztl at *
  cases hd:o.dst with
  | none=>simp only [hd] at hp ⊢; exact ⟨⟨e,by simp,hp⟩,fun e2 K2 h=>h e2 (by simp)⟩
  | some d=>
   simp only [hd] at hp ⊢
   have hc:=Zcc hp
   refine ⟨⟨_,?_,hc.2⟩,fun e2 K2 h=>?_⟩
   ·intro t; rw [Env.get_set]; by_cases q:t=d
    ·subst q; simp
    ·rw [if_neg q,if_neg (by simp; exact fun x=>q x.symm)]
   ·unfold chk; rw [decide_eq_true hc.1]
    refine h _ fun t=>?_
    rw [Env.get_set]; by_cases q:t=d
    ·subst q; simp
    ·rw [if_neg q,if_neg (by simp; exact fun x=>q x.symm)]
 unfold Zoj at hs
 cases hg:o.guard with
 | none=>
  simp only [hg] at hs
  obtain ⟨v,hv,r⟩:=core env _ hs
  obtain ⟨⟨e1,h1,k1⟩,q⟩:=put hv
  refine ⟨v,⟨e1,h1,k1⟩,fun env' h' hl K hK=>?_⟩
  unfold Zoj
  simp only [hg]
  exact r env' h' _ (Zqh hl) (q env' _ fun e3 a=>hK e3 a)
 | some g=>
  obtain ⟨j,want⟩:=g
  simp only [hg] at hs
  cases ht:(ops[j]?).bind (·.dst) with
  | none=>simp only [ht] at hs
  | some t=>
   simp only [ht] at hs
   split at hs
   ·rename_i b hb
    have htl:∀ env':Env,(∀ t∈o.looksAt ops,env.get t=env'.get t)→env'.get t=.bool b:=fun env' hl=>by
     rw [← hl t (List.mem_append_right _ (by simp [hg,ht]))]; exact hb
    have go:∀ c,b=c→opA P (env.set t (.bool c)) h o (fun v h'=>Ztl N (env.set t (.bool c)) o.dst v fun env'=>K env' h')→want=c →
      ∃ v,(∃ env1,Zvw o env v env1∧K env1 h)∧∀ env' h',(∀ t∈o.looksAt ops,env.get t=env'.get t)→Yd P N ops o v env' h':=by
     intro c e ho hw
     subst e; subst hw
     obtain ⟨v,hv,r⟩:=core _ _ ho
     obtain ⟨⟨e1,h1,k1⟩,q⟩:=put hv
     refine ⟨v,⟨e1,fun s=>by rw [h1 s,Zgy hb],k1⟩,fun env' h' hl K hK=>?_⟩
     have hb':=htl env' hl
     unfold Zoj
     simp only [hg,ht,hb']
     have body:opA P (env'.set t (.bool want)) h' o fun v h'_1=>Ztl N (env'.set t (.bool want)) o.dst v fun env'=>K env' h'_1:=
      r _ h' _ (Zqh fun s hs=>by rw [Zgy hb,Zgy hb']; exact hl s hs) (q _ _ fun e3 a=>hK e3 fun s=>by rw [a s,Zgy hb'])
     cases want <;> exact body
    have skip:∀ c,b=c→Ztl N (env.set t (.bool c)) o.dst (.tup []) (fun env'=>K env' h)→want≠c →
      ∃ v,(∃ env1,Zvw o env v env1∧K env1 h)∧∀ env' h',(∀ t∈o.looksAt ops,env.get t=env'.get t)→Yd P N ops o v env' h':=by
     intro c e ho hw
     subst e
     obtain ⟨⟨e1,h1,k1⟩,q⟩:=put ho
     refine ⟨.tup [],⟨e1,fun s=>by rw [h1 s,Zgy hb],k1⟩,fun env' h' hl K hK=>?_⟩
     have hb':=htl env' hl
     unfold Zoj
     simp only [hg,ht,hb']
     have body:Ztl N (env'.set t (.bool b)) o.dst (.tup []) fun env'=>K env' h':=q _ _ fun e3 a=>hK e3 fun s=>by rw [a s,Zgy hb']
     cases b <;> cases want <;> first | exact body | exact absurd rfl hw
    cases b
    ·cases want
     ·exact go false rfl hs rfl
     ·exact skip false rfl hs (by simp)
    ·cases want
     ·exact skip true rfl hs (by simp)
     ·exact go true rfl hs rfl
   ·rename_i hb
    obtain ⟨⟨e1,h1,k1⟩,q⟩:=put hs
    refine ⟨.tup [],⟨e1,h1,k1⟩,fun env' h' hl K hK=>?_⟩
    have hb':env'.get t=.tup []:=by rw [← hl t (List.mem_append_right _ (by simp [hg,ht]))]; exact hb
    unfold Zoj
    simp only [hg,ht,hb']
    exact q _ _ fun e3 a=>hK e3 a
   ·exact hs.elim

theorem Ykd {t:TypeId} {h h':Zaa} {p:Zau} {k:Zau→Prop} (hc:(match isAgg P t with | true=>Zbj h' p (P.cellsOf t)=Zbj h p (P.cellsOf t) | false=>Zag h' p=Zag h p)) (hk:Zwv P t h p k):Zwv P t h' p k:=by
 unfold Zwv at *
 cases ha:isAgg P t with
 | true=>simp only [ha] at hc hk ⊢; rw [hc]; exact hk
 | false=>simp only [ha] at hc hk ⊢; rw [hc]; exact hk

theorem Ynp {i:Nat} {o:Oper} (hi:ops[i]?=some o) (hr:Yok o.op=true) {env:Env} {h:Zaa} {K:Env→Zaa→Prop} (hs:Zoj P N ops env h o K) :
  ∃ v,(∃ env1,Zvw o env v env1∧K env1 h)∧∀ env' h',(∀ t∈o.looksAt ops,env.get t=env'.get t)→(Zrn P ops i env).ok h h'→Yd P N ops o v env' h':=by
 obtain ⟨t,a,hop⟩:∃ t a,o.op=.load t a:=by
  cases hq:o.op <;> simp [hq,Yok] at hr
  exact ⟨_,_,rfl⟩
 have hold:∀ h',(Zrn P ops i env).ok h h'→(match isAgg P t with | true=>Zbj h' (ev env a) (P.cellsOf t)=Zbj h (ev env a) (P.cellsOf t) | false=>Zag h' (ev env a)=Zag h (ev env a)):=by
  intro h' hh
  unfold Zrn Yac.ok at hh
  rw [hi] at hh
  simp only [hop] at hh
  cases ha:isAgg P t <;> simp only [ha] at hh ⊢ <;> exact hh
 have core:∀ (e:Env) (A:Zau→Zaa→Prop),(∀ x∈o.op.operands,ev env x=ev e x)→opA P e h o A→∃ v,A v h∧∀ (e2:Env) (h2:Zaa) (B:Zau→Zaa→Prop),(∀ x∈o.op.operands,ev e x=ev e2 x)→(Zrn P ops i env).ok h h2→B v h2→opA P e2 h2 o B:=by
  intro e A hx0 ha
  have hxa:ev env a=ev e a:=hx0 a (by simp [hop,Op.operands])
  unfold opA at ha
  simp only [hop] at ha
  have hc:=Zcc ha
  obtain ⟨v,hv,r⟩:=Yoa t h (ev e a) _ hc.2
  refine ⟨v,hv,fun e2 h2 B hx hh hb=>(Zxj hx).1 ?_⟩
  unfold opA
  simp only [hop]
  unfold chk; rw [decide_eq_true hc.1]
  have:=hold h2 hh
  rw [hxa] at this
  exact Ykd this (r (fun v=>B v h2) hb)
 have put:∀ {e:Env} {v:Zau} {K:Env→Prop},Ztl N e o.dst v K→(∃ e1,(∀ t,e1.get t=if o.dst=some t then v else e.get t)∧K e1)∧∀ (e2:Env) (K2:Env→Prop),(∀ e3,(∀ t,e3.get t=if o.dst=some t then v else e2.get t)→K2 e3)→Ztl N e2 o.dst v K2:=by
  intro e v K hp
  unfold Ztl at *
  cases hd:o.dst with
  | none=>simp only [hd] at hp ⊢; exact ⟨⟨e,by simp,hp⟩,fun e2 K2 h=>h e2 (by simp)⟩
  | some d=>
   simp only [hd] at hp ⊢
   have hc:=Zcc hp
   refine ⟨⟨_,?_,hc.2⟩,fun e2 K2 h=>?_⟩
   ·intro t; rw [Env.get_set]; by_cases q:t=d
    ·subst q; simp
    ·rw [if_neg q,if_neg (by simp; exact fun x=>q x.symm)]
   ·unfold chk; rw [decide_eq_true hc.1]
    refine h _ fun t=>?_
    rw [Env.get_set]; by_cases q:t=d
    ·subst q; simp
    ·rw [if_neg q,if_neg (by simp; exact fun x=>q x.symm)]
 unfold Zoj at hs
 cases hg:o.guard with
 | none=>
  simp only [hg] at hs
  obtain ⟨v,hv,r⟩:=core env _ (fun _ _=>rfl) hs
  obtain ⟨⟨e1,h1,k1⟩,q⟩:=put hv
  refine ⟨v,⟨e1,h1,k1⟩,fun env' h' hl hh K hK=>?_⟩
  unfold Zoj
  simp only [hg]
  exact r env' h' _ (Zqh hl) hh (q env' _ fun e3 a=>hK e3 a)
 | some g=>
  obtain ⟨j,want⟩:=g
  simp only [hg] at hs
  cases ht:(ops[j]?).bind (·.dst) with
  | none=>simp only [ht] at hs
  | some t=>
   simp only [ht] at hs
   split at hs
   ·rename_i b hb
    have htl:∀ env':Env,(∀ t∈o.looksAt ops,env.get t=env'.get t)→env'.get t=.bool b:=fun env' hl=>by
     rw [← hl t (List.mem_append_right _ (by simp [hg,ht]))]; exact hb
    have go:∀ c,b=c→opA P (env.set t (.bool c)) h o (fun v h'=>Ztl N (env.set t (.bool c)) o.dst v fun env'=>K env' h')→want=c →
      ∃ v,(∃ env1,Zvw o env v env1∧K env1 h)∧∀ env' h',(∀ t∈o.looksAt ops,env.get t=env'.get t)→(Zrn P ops i env).ok h h'→Yd P N ops o v env' h':=by
     intro c e ho hw
     subst e; subst hw
     obtain ⟨v,hv,r⟩:=core _ _ (Zqh (ops:=ops) fun s _=>by rw [Zgy hb]) ho
     obtain ⟨⟨e1,h1,k1⟩,q⟩:=put hv
     refine ⟨v,⟨e1,fun s=>by rw [h1 s,Zgy hb],k1⟩,fun env' h' hl hh K hK=>?_⟩
     have hb':=htl env' hl
     unfold Zoj
     simp only [hg,ht,hb']
     have body:opA P (env'.set t (.bool want)) h' o fun v h'_1=>Ztl N (env'.set t (.bool want)) o.dst v fun env'=>K env' h'_1:=
      r _ h' _ (Zqh fun s hs=>by rw [Zgy hb,Zgy hb']; exact hl s hs) hh (q _ _ fun e3 a=>hK e3 fun s=>by rw [a s,Zgy hb'])
     cases want <;> exact body
    have skip:∀ c,b=c→Ztl N (env.set t (.bool c)) o.dst (.tup []) (fun env'=>K env' h)→want≠c →
      ∃ v,(∃ env1,Zvw o env v env1∧K env1 h)∧∀ env' h',(∀ t∈o.looksAt ops,env.get t=env'.get t)→(Zrn P ops i env).ok h h'→Yd P N ops o v env' h':=by
     intro c e ho hw
     subst e
     obtain ⟨⟨e1,h1,k1⟩,q⟩:=put ho
     refine ⟨.tup [],⟨e1,fun s=>by rw [h1 s,Zgy hb],k1⟩,fun env' h' hl _ K hK=>?_⟩
     have hb':=htl env' hl
     unfold Zoj
     simp only [hg,ht,hb']
     have body:Ztl N (env'.set t (.bool b)) o.dst (.tup []) fun env'=>K env' h':=q _ _ fun e3 a=>hK e3 fun s=>by rw [a s,Zgy hb']
     cases b <;> cases want <;> first | exact body | exact absurd rfl hw
    cases b
    ·cases want
     ·exact go false rfl hs rfl
     ·exact skip false rfl hs (by simp)
    ·cases want
     ·exact skip true rfl hs (by simp)
     ·exact go true rfl hs rfl
   ·rename_i hb
    obtain ⟨⟨e1,h1,k1⟩,q⟩:=put hs
    refine ⟨.tup [],⟨e1,h1,k1⟩,fun env' h' hl _ K hK=>?_⟩
    have hb':env'.get t=.tup []:=by rw [← hl t (List.mem_append_right _ (by simp [hg,ht]))]; exact hb
    unfold Zoj
    simp only [hg,ht,hb']
    exact q _ _ fun e3 a=>hK e3 a
   ·exact hs.elim

theorem Yqe {env env':Env} (h:Yfz env env') (ks:List Nat):env.keep ks=env'.keep ks:=List.map_congr_left fun t _=>by rw [h t]
theorem Yac.ok_trans {d:Yac} {a b c:Zaa} (h:d.ok a b) (k:d.ok b c):d.ok a c:=by
 unfold Yac.ok at *; split at h <;> simp_all

theorem Zve {ks:List Nat} {K:Env→Zaa→Prop}:∀ (f:Nat) (listed:Array Bool) (hs:List Yac) (env:Env) (h:Zaa),Yfr P N ops ks K f listed hs env h →
  Yqo P N ops (fun env h=>K (env.keep ks) h) hs f listed env h
 | 0,listed,hs,env,h,hd=>by
  unfold Yfr at hd
  split at hd
  ·rename_i hr; exact ⟨hr,hd⟩
  ·exact hd.elim
 | f + 1,listed,hs,env,h,hd=>by
  have hK:∀ e e' h,Yfz e e'→K (e.keep ks) h→K (e'.keep ks) h:=fun e e' h he hk=>by rw [← Yqe he]; exact hk
  unfold Yfr at hd
  split at hd
  ·rename_i hr; exact ⟨fun _=>hd,by rw [hr]; simp⟩
  ·rename_i hne
   split at hd
   ·rename_i i hi
    have hmem:=List.mem_of_find?_eq_some hi
    have hp:=List.find?_some hi
    simp only [Bool.and_eq_true] at hp
    obtain ⟨hp1,hp2⟩:=hp
    unfold Yss at hp1
    split at hp1
    ·rename_i o ho
     unfold Zws at hd
     rw [ho] at hd
     obtain ⟨v,⟨env1,ha,hk⟩,hy⟩:=Ynt hp1 hd
     exact Yaw (T:=fun _ _=>True) (Y:=fun e _=>∀ t∈o.looksAt ops,env.get t=e.get t) hK (hs':=hs) (fun d hd=>hd) ho (fun _ _ _ _ _=>trivial) (fun e h' he=>hy e h' he)
      (fun e1 _ e2 _ y hl _ t ht=>(y t ht).trans (hl t ht)) f listed env env1 h (Region.free_spec ho hp2) hmem (fun _ _=>rfl) ha (Zve f _ _ _ _ hk)
    ·cases hp1
   ·split at hd
    ·rename_i i hi
     have hi':(Region.ready .any ops listed).find? (fun i=>Yss ops Yok i && Region.free .any ops listed i)=some i:=by
      split at hi
      ·cases hi
      ·exact hi
     have hmem:=List.mem_of_find?_eq_some hi'
     have hp:=List.find?_some hi'
     simp only [Bool.and_eq_true] at hp
     obtain ⟨hp1,hp2⟩:=hp
     unfold Yss at hp1
     split at hp1
     ·rename_i o ho
      unfold Zws at hd
      rw [ho] at hd
      obtain ⟨v,⟨env1,ha,hk⟩,hy⟩:=Ynp ho hp1 hd
      have hid:(Zrn P ops i env).i=i:=by unfold Zrn; split <;> (try split) <;> (try split) <;> rfl
      exact Yaw (T:=fun a b=>(Zrn P ops i env).ok a b) (Y:=fun e h'=>(∀ t∈o.looksAt ops,env.get t=e.get t)∧(Zrn P ops i env).ok h h') hK (hs':=Zrn P ops i env :: hs) (fun d hd=>List.mem_cons_of_mem _ hd) ho
       (fun j a b hw hall=>by
        have:=hall _ (List.mem_cons_self ..)
        rw [hid,hw] at this
        exact this.resolve_left (by simp)) (fun e h' he=>hy e h' he.1 he.2)
       (fun e1 _ e2 _ y hl ht=>⟨fun t htt=>(y.1 t htt).trans (hl t htt),Yac.ok_trans y.2 ht⟩) f listed env env1 h (Region.free_spec ho hp2) hmem ⟨fun _ _=>rfl,Yac.ok_refl _ _⟩ ha (Zve f _ _ _ _ hk)
     ·cases hp1
    ·refine ⟨fun hr=>absurd hr hne,fun i hi=>?_⟩
     have:=Ydg hd i hi
     unfold Zws at this ⊢
     cases ho:ops[i]? with
     | none=>
      rw [ho] at this
      obtain ⟨a,b⟩:=Zqu this
      exact ⟨a,Zve f _ _ _ _ b⟩
     | some o=>
      rw [ho] at this
      refine Zxu this (fun _ _=>rfl) fun v h' e1 e2 q1 q2 k=>?_
      obtain ⟨a,b⟩:=Zqu k
      exact ⟨a,Zuf (fun d hd=>hd) f hK (fun t=>by rw [q1 t,q2 t]) (Zve f _ _ _ _ b)⟩
end
end Go.Sim
