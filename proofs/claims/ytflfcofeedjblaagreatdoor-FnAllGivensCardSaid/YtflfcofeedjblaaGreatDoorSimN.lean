/- A part of the proof of a statement of this seat: see the text that holds the theorem. No condition. -/
import Derived.Test.YtflfcofeedjblaaGreatDoorSimIc
import Derived.Orders
set_option linter.unusedVariables false
set_option linter.unusedSimpArgs false
set_option linter.all false
set_option linter.unusedSimpArgs false
namespace Go.Sim
open Go Go.RowKit

structure Zak (P:Program) (n:FuncId) (args:List Zay) (h:Zaa) (Q:Zay→Zaa→Prop):Prop where
 able : ∃ fn, P.funcs[n]? = some fn ∧ fn.body.isSome = true ∧ (fn.name == "runtime.NumGoroutine") = false
 calls:∀ (base:Nat) (w0:World) (μ:List Pl) (w:World) (xs:Array Value),Rel P base w0 μ h w→VRs μ args xs.toList →
  Calls P n xs w fun e w'=>∃ x μ' v h',e=.returned x∧Ext μ μ'∧Rel P base w0 μ' h' w'∧VR μ' v x∧Q v h'
theorem Zak.mono {P:Program} {n:FuncId} {args:List Zay} {h:Zaa} {Q Q':Zay→Zaa→Prop} (hc:Zak P n args h Q) (hq:∀ v h',Q v h'→Q' v h'):Zak P n args h Q':=
 ⟨hc.1,fun base w0 μ w xs r hx=>(hc.2 base w0 μ w xs r hx).mono fun _ _ ⟨x,μ',v,h',a,b,c,d,q⟩=>⟨x,μ',v,h',a,b,c,d,hq _ _ q⟩⟩

def rts (P:Program) (f:FuncId):List TypeId:=match P.funcs[f]? with | some fn=>fn.resultTypes.toList | none=>[]
def Yzh (P:Program) (f:FuncId) (args:List Zay) (h:Zaa) (K:Zay→Zaa→Prop):Prop:=Zak P f args h fun v h'=>Yxd P (rts P f) v fun v=>K v h'
def Yyx (v:Zay) (K:FuncId→List Zay→Prop):Prop:=match v with | .fn g caps=>K g caps | _=>False
def Xca (P:Program) (t:TypeId):List TypeId:=match P.underlying t with | some (.tuple ts)=>ts.toList | _=>[t]
def Xbb (P:Program) (t:TypeId) (v:Zay) (args:List Zay) (h:Zaa) (K:Zay→Zaa→Prop):Prop:=Yyx v fun g caps=>Zak P g (args ++ caps) h fun v h'=>Yxd P (Xca P t) v fun v=>K v h'
def Yqc (P:Program) (env:Env) (h:Zaa) (o:Oper) (c:Call) (K:Zay→Zaa→Prop):Prop:=
 match c.callee with
 | .value f=>(match f with
  | .func g=>Yzh P g (c.args.toList.map (ev env) ++ []) h K
  | f=>Xbb P o.type (ev env f) (c.args.toList.map (ev env)) h K)
 | .builtin .append=>(match c.argTypes.toList with
  | [t,u]=>chk (u=t) (match c.args.toList.map (ev env) with | [s,x]=>Zci P t h s x fun v h'=>xv .slice (some v) fun v=>K v h' | _=>False)
  | _=>False)
 | .builtin .min=>(match c.args.toList.map (ev env) with | [x,y]=>Yyp x y fun v=>K v h | _=>False)
 | .builtin .clear=>(match c.argTypes.toList with
  | [t]=>(match c.args.toList.map (ev env) with | [x]=>Ymf P t h x K | _=>False)
  | _=>False)
 | _=>Zwl P env o fun v=>K v h
def opA (P:Program) (env:Env) (h:Zaa) (o:Oper) (K:Zay→Zaa→Prop):Prop:=
 match o.op with
 | .load t a=>chk ((P.underlying t).isSome=true) (Zzo P t h (ev env a) fun v=>K v h)
 | .store t a x=>chk ((P.underlying t).isSome=true) (Ydj P t h (ev env a) (ev env x) fun h'=>K .undef h')
 | .alloc t=>Ywp P t h K
 | .box t x=>Xbu t h (ev env x) K
 | .build t ps=>Yqf P t (parts env ps) fun v=>K v h
 | .buildSlice t n ps=>Zst P t n (parts env ps) h K
 | .call c=>Yqc P env h o c K
 | .makeSlice t l c=>Zph P t (ev env l) (ev env c) h K
 | .makeMap t r=>Zut P t (r.map (ev env)) h K
 | .lookup t x i ok=>Zyo P t h (ev env x) (ev env i) ok fun v=>K v h
 | .mapUpdate t m k v=>Zpf P t h (ev env m) (ev env k) (ev env v) K
 | .range t x=>Yeb P t (ev env x) h K
 | .next x st=>Yoq P o.type (ev env x) st h K
 | .entry x=>Ydt P o.type (ev env x) h fun v=>K v h
 | .convert s d x=>(match Yon P s with | true=>Yym P s d h (ev env x) fun v=>K v h | false=>Zwl P env o fun v=>K v h)
 | _=>Zwl P env o fun v=>K v h
def Zvh (N:Nat) (env:Env) (d:Option Tmp) (v:Zay) (K:Env→Prop):Prop:=match d with | none=>K env | some d=>chk (d < N) (K (env.set d v))
def Zqh (P:Program) (N:Nat) (ops:Array Oper) (env:Env) (h:Zaa) (o:Oper) (K:Env→Zaa→Prop):Prop:=
 match o.guard with
 | none=>opA P env h o fun v h'=>Zvh N env o.dst v fun env'=>K env' h'
 | some (j,want)=>(match (ops[j]?).bind (·.dst) with
  | some t=>(match env.get t with
   | .bool b=>bcase b
     (match want with | true=>opA P (env.set t (.bool true)) h o fun v h'=>Zvh N (env.set t (.bool true)) o.dst v fun env'=>K env' h' | false=>Zvh N (env.set t (.bool true)) o.dst (.tup []) fun env'=>K env' h)
     (match want with | false=>opA P (env.set t (.bool false)) h o fun v h'=>Zvh N (env.set t (.bool false)) o.dst v fun env'=>K env' h' | true=>Zvh N (env.set t (.bool false)) o.dst (.tup []) fun env'=>K env' h)
   | .tup []=>Zvh N env o.dst (.tup []) fun env'=>K env' h
   | _=>False)
  | none=>False)
def Xbh (P:Program) (N:Nat) (ops:Array Oper):List Oper→Env→Zaa→(Env→Zaa→Prop)→Prop
 | [],env,h,K=>K env h
 | o :: r,env,h,K=>Zqh P N ops env h o fun env' h'=>Xbh P N ops r env' h' K

section
variable {P:Program} {base N:Nat} {w0:World} {μ:List Pl} {h:Zaa} {w:World}

structure St (P:Program) (base N:Nat) (w0:World) (μ:List Pl) (env:Env) (h:Zaa) (a:Act) (w:World):Prop where
 rel:Rel P base w0 μ h w
 env:Zqr μ env a.tmps
 size:a.tmps.size=N
 defers:a.defers=[]

def Ytz (P:Program) (base N:Nat) (w0:World) (μ:List Pl) (K:Env→Zaa→Prop) (a:Act) (w:World):Prop:=
 ∃ μ' env h,Ext μ μ'∧St P base N w0 μ' env h a w∧K env h

theorem St.put {env:Env} {a:Act} (s:St P base N w0 μ env h a w) {μ':List Pl} {h':Zaa} {w':World} (he:Ext μ μ') (hr:Rel P base w0 μ' h' w') {v:Zay} {x:Value} (hv:VR μ' v x) {d:Option Tmp} {K:Env→Prop} (hk:Zvh N env d v K) :
  ∃ env',St P base N w0 μ' env' h' (a.put d x) w'∧K env':=by
 unfold Zvh at hk
 cases d with
 | none=>exact ⟨env,⟨hr,s.env.ext he,s.size,s.defers⟩,hk⟩
 | some d=>
  replace hk:=Zcm hk
  obtain ⟨hd,hk⟩:=hk
  refine ⟨_,⟨hr,(s.env.ext he).set (by rw [s.size]; exact hd) hv,?_,s.defers⟩,hk⟩
  simp [Act.put,s.size]

theorem St.know {env:Env} {a:Act} (s:St P base N w0 μ env h a w) {t:Nat} {v:Zay} (hv:VR μ v (a.tmps.getD t undef)):St P base N w0 μ (env.set t v) h a w:=
 ⟨s.rel,s.env.know hv,s.size,s.defers⟩

theorem Res.wp {o:Oper} {a:Act} {K:Zay→Zaa→Prop} {next:Act→World→Prop} {Q:Exit→Act→World→Prop} {s:Sem Value}
  (hr:Res P base w0 μ (s.run P w) K) (he:(execOp a.eval o).run P w=(s.run P w).andThen fun x w'=>.ok (.value x) w')
  (hn:∀ x w' μ' v h',Ext μ μ'→Rel P base w0 μ' h' w'→VR μ' v x→K v h'→next (a.put o.dst x) w'):o.wp P a w next Q:=by
 obtain ⟨x,w',μ',v,h',hrun,hx,hrel,hv,hk⟩:=hr
 unfold Oper.wp
 rw [he,hrun]
 exact hn x w' μ' v h' hx hrel hv hk

theorem Yxl {env:Env} {a:Act} (s:St P base N w0 μ env h a w) {f:FuncId} {args:List Zay} {xs:Array Value} (hxs:VRs μ args xs.toList) {K:Zay→Zaa→Prop} (hk:Zak P f args h K)
  {o:Oper} (he:(execOp a.eval o).run P w=(callFunc f xs).run P w) {next:Act→World→Prop} {Q:Exit→Act→World→Prop}
  (hn:∀ x w' μ' v h',Ext μ μ'→Rel P base w0 μ' h' w'→VR μ' v x→K v h'→next (a.put o.dst x) w'):o.wp P a w next Q:=by
 obtain ⟨⟨fn,hf,hb,hname⟩,hc⟩:=hk
 have hcall:(callFunc f xs).run P w=.ok (.enter f xs) w:=by
  obtain ⟨c,hc⟩:=Option.isSome_iff_exists.1 hb
  have hname' : fn.name ≠ "runtime.NumGoroutine" := by simpa using hname
  simp [callFunc,hf,hc,hname']
 unfold Oper.wp
 rw [he,hcall]
 refine (hc base w0 μ w xs s.rel hxs).mono ?_
 rintro e w' ⟨x,μ',v,h',rfl,hx,hr,hv,hq⟩
 exact hn x w' μ' v h' hx hr hv hq

theorem VRs.single {v:Zay} {xs:Array Value} (h:VRs μ [v] xs.toList):∃ x,xs=#[x]∧VR μ v x:=by
 obtain ⟨l⟩:=xs
 match l,h with
 | [x],.cons a .nil=>exact ⟨x,rfl,a⟩
theorem Yxq {env:Env} {a:Act} (s:St P base N w0 μ env h a w) {o:Oper} {K:Zay→Zaa→Prop} (hk:opA P env h o K) {next:Act→World→Prop} {Q:Exit→Act→World→Prop}
  (hn:∀ x w' μ' v h',Ext μ μ'→Rel P base w0 μ' h' w'→VR μ' v x→K v h'→next (a.put o.dst x) w'):o.wp P a w next Q:=by
 have hρ:=Yzu s.env
 have pure:Zwl P env o (fun v=>K v h)→o.wp P a w next Q:=fun hk=>by
  obtain ⟨x,v,hr,hv,hk⟩:=Yxk hρ hk
  unfold Oper.wp
  rw [hr w]
  exact hn x w μ v h (Ext.refl _) s.rel hv hk
 unfold opA at hk
 split at hk
 ·rename_i t p he
  replace hk:=Zcm hk
  obtain ⟨hu,hk⟩:=hk
  obtain ⟨y,v,hr,hv,hk⟩:=Yqb s.rel (hρ p) hu hk
  unfold Oper.wp
  simp only [execOp,he,Sem.run_bind,hr,Result.andThen_ok,Sem.run_pure]
  exact hn y w μ v h (Ext.refl _) s.rel hv hk
 ·rename_i t p x he
  replace hk:=Zcm hk
  obtain ⟨hu,hk⟩:=hk
  obtain ⟨w',h',hr,hrel,hk⟩:=Yut s.rel (hρ p) (hρ x) hu hk
  unfold Oper.wp
  simp only [execOp,he,Sem.run_bind,hr,Result.andThen_ok,Sem.run_pure]
  exact hn undef w' μ .undef h' (Ext.refl _) hrel (.undef _) hk
 ·rename_i t he
  exact Res.wp (Yur s.rel hk) (by simp [execOp,he]) hn
 ·rename_i t x he
  exact Res.wp (Yzm s.rel (hρ x) hk) (by simp [execOp,he]) hn
 ·rename_i t ps he
  obtain ⟨h1,h2⟩:=Ylg hρ ps
  obtain ⟨x,v,hr,hv,hk⟩:=Yuu h1 h2 hk
  unfold Oper.wp
  simp only [execOp,he,Sem.run_bind,hr w,Result.andThen_ok,Sem.run_pure]
  exact hn x w μ v h (Ext.refl _) s.rel hv hk
 ·rename_i t n ps he
  obtain ⟨h1,h2⟩:=Ylg hρ ps
  exact Res.wp (Yfj s.rel h1 h2 hk) (by simp [execOp,he]) hn
 ·rename_i c he
  unfold Yqc at hk
  split at hk
  ·rename_i f hcal
   have go:∀ (f:Operand),c.callee=.value f→∀ (g:FuncId) (caps:List Zay),ev env f=.fn g caps→Zak P g (c.args.toList.map (ev env) ++ caps) h K→o.wp P a w next Q:=by
    intro f hcal g caps hev hk
    have hf:=hρ f
    rw [hev] at hf
    cases hfv:a.eval f with
    | func fn first cap=>
     rw [hfv] at hf
     cases hf with
     | fn hcaps=>
     refine Yxl s (xs:=c.args.map a.eval ++ cap) (by rw [Array.toList_append]; exact (Zxu hρ c.args).append hcaps) hk ?_ hn
     simp [execOp,he,resolve,hcal,hfv,Deferred.ofValue,invoke]
    | _=>rw [hfv] at hf; cases hf
   split at hk
   ·rename_i g
    exact go _ hcal g [] rfl (Zak.mono hk fun _ _ hq=>Yhe (K:=fun v=>K v _) hq)
   ·unfold Xbb Yyx at hk
    split at hk
    ·rename_i g caps hev
     exact go _ hcal g caps hev (Zak.mono hk fun _ _ hq=>Yhe (K:=fun v=>K v _) hq)
    ·exact hk.elim
  ·rename_i hcal
   split at hk
   ·rename_i t u hts
    replace hk:=Zcm hk
    obtain ⟨rfl,hk⟩:=hk
    split at hk
    ·rename_i sv xv hargs
     have hvs:=Zxu hρ c.args
     rw [hargs] at hvs
     obtain ⟨x,y,hxy,h1,h2⟩:=hvs.two
     refine Res.wp (Ysm (ty:=o.type) s.rel h1 h2 hk) ?_ fun x w' μ' v h' hx hr hv hk=>(by obtain ⟨v2,hv2,hk⟩:=Zpy hk; cases hv2; exact hn x w' μ' v h' hx hr hv hk)
     have hat:c.argTypes=#[u,u]:=by
      apply Array.ext'; simpa using hts
     simp [execOp,he,resolve,hcal,invoke,builtin,hxy,hat]
    ·exact hk.elim
   ·exact hk.elim
  ·rename_i hcal
   split at hk
   ·rename_i a b hargs
    have hvs:=Zxu hρ c.args
    rw [hargs] at hvs
    obtain ⟨x,y,hxy,h1,h2⟩:=hvs.two
    obtain ⟨v,z,hr,hv,hk⟩:=Yzx (ts:=c.argTypes) (t:=o.type) h1 h2 hk
    exact Res.wp (s:=Builtin.min_ c.argTypes o.type #[x,y]) ⟨z,w,μ,v,h,hr w,Ext.refl _,s.rel,hv,hk⟩ (by simp [execOp,he,resolve,hcal,invoke,builtin,hxy]) hn
   ·exact hk.elim
  ·rename_i hcal
   split at hk
   ·rename_i t hts
    split at hk
    ·rename_i x1 hargs
     have hvs:=Zxu hρ c.args
     rw [hargs] at hvs
     obtain ⟨x,hxy,h1⟩:=hvs.single
     refine Res.wp (Yvz (ty:=o.type) s.rel h1 hk) ?_ hn
     have hat:c.argTypes=#[t]:=by
      apply Array.ext'; simpa using hts
     simp [execOp,he,resolve,hcal,invoke,builtin,hxy,hat]
    ·exact hk.elim
   ·exact hk.elim
  ·exact pure hk
 ·rename_i t l c he
  exact Res.wp (Ygj s.rel (hρ l) (hρ c) hk) (by simp [execOp,he]) hn
 ·rename_i t m he
  refine Res.wp (Yot (x:=m.map a.eval) s.rel ?_ hk) (by simp [execOp,he]) hn
  cases m with
  | none=>exact .inl ⟨rfl,rfl⟩
  | some m=>exact .inr ⟨_,_,rfl,rfl,hρ m⟩
 ·rename_i t x i ok he
  obtain ⟨z,v,hr,hv,hk⟩:=Yrk s.rel (hρ x) (hρ i) hk
  exact Res.wp (s:=Instr.lookup t (a.eval x) (a.eval i) ok) ⟨z,w,μ,v,h,hr,Ext.refl _,s.rel,hv,hk⟩ (by simp [execOp,he]) hn
 ·rename_i t m k x he
  obtain ⟨w',h',hr,hrel,hk⟩:=Ygd s.rel (hρ m) (hρ k) (hρ x) hk
  unfold Oper.wp
  simp only [execOp,he,Sem.run_bind,hr,Result.andThen_ok,Sem.run_pure]
  exact hn undef w' μ .undef h' (Ext.refl _) hrel (.undef _) hk
 ·rename_i t x he
  exact Res.wp (Yuo s.rel (hρ x) hk) (by simp [execOp,he]) hn
 ·rename_i x st he
  exact Res.wp (Ypi (ty:=o.type) s.rel (hρ x) hk) (by simp [execOp,he]) hn
 ·rename_i x he
  obtain ⟨z,v,hr,hv,hk⟩:=Yvq s.rel (hρ x) hk
  exact Res.wp (s:=Instr.entry (a.eval x)) ⟨z,w,μ,v,h,hr,Ext.refl _,s.rel,hv,hk⟩ (by simp [execOp,he]) hn
 ·rename_i a b x he
  split at hk
  ·exact Res.wp (Yxu s.rel (hρ x) hk) (by simp [execOp,he]) hn
  ·exact pure hk
 ·exact pure hk

theorem Ypn {tmps:Array Value} {t:Nat} {b:Bool} (h:VR μ (.bool b) (tmps.getD t undef)):tmps[t]?=some (.bool b):=by
 simp only [Array.getD_eq_getD_getElem?] at h
 cases hx:tmps[t]? with
 | none=>rw [hx] at h; simp [undef] at h; cases h
 | some x=>rw [hx] at h; simp at h; cases h; rfl

theorem Yte {ops:Array Oper} {env:Env} {a:Act} (s:St P base N w0 μ env h a w) {o:Oper} {K:Env→Zaa→Prop} (hk:Zqh P N ops env h o K) {next:Act→World→Prop} {Q:Exit→Act→World→Prop}
  (hn:∀ a w,Ytz P base N w0 μ K a w→next a w):if Region.wanted o (yielded ops a.tmps) then o.wp P a w next Q else next (a.put o.dst undef) w:=by
 have fin:∀ {env:Env} {v:Zay} {x:Value} {μ':List Pl} {h':Zaa} {w':World},St P base N w0 μ env h a w→Ext μ μ'→Rel P base w0 μ' h' w'→VR μ' v x→Zvh N env o.dst v (fun env'=>K env' h')→next (a.put o.dst x) w':=by
  intro env v x μ' h' w' s hx hr hv hk
  obtain ⟨env',s',hk⟩:=s.put hx hr hv hk
  exact hn _ _ ⟨μ',env',h',hx,s',hk⟩
 unfold Zqh at hk
 split at hk
 ·rename_i hg
  have:Region.wanted o (yielded ops a.tmps)=true:=by simp [Region.wanted,hg]
  rw [if_pos this]
  exact Yxq s hk fun x w' μ' v h' hx hr hv hk=>fin s hx hr hv hk
 ·rename_i j want hg
  split at hk
  ·rename_i t ht
   split at hk
   ·rename_i b hb
    have henv:=s.env t
    rw [hb] at henv
    have hy:yielded ops a.tmps j=some b:=by
     unfold yielded
     rw [ht]; simp only [Option.bind_some,Ypn henv]
    have hwant:Region.wanted o (yielded ops a.tmps)=(b == want):=by simp [Region.wanted,hg,hy]
    rw [hwant]
    have hknow:∀ c,b=c→St P base N w0 μ (env.set t (.bool c)) h a w:=fun c e=>by subst e; exact s.know henv
    refine Yns hk ?_ ?_
    ·rintro rfl hk
     have s':=hknow true rfl
     cases want with
     | true=>exact Yxq s' hk fun x w' μ' v h' hx hr hv hk=>fin s' hx hr hv hk
     | false=>exact fin s' (Ext.refl _) s.rel (.tup .nil) hk
    ·rintro rfl hk
     have s':=hknow false rfl
     cases want with
     | false=>exact Yxq s' hk fun x w' μ' v h' hx hr hv hk=>fin s' hx hr hv hk
     | true=>exact fin s' (Ext.refl _) s.rel (.tup .nil) hk
   ·rename_i hb
    have henv:=s.env t
    rw [hb] at henv
    have hy:yielded ops a.tmps j=none:=by
     unfold yielded
     rw [ht]; simp only [Option.bind_some]
     have:a.tmps[t]?=none ∨ a.tmps[t]?=some (.tuple #[]):=by
      simp only [Array.getD_eq_getD_getElem?] at henv
      cases hx:a.tmps[t]? with
      | none=>exact .inl rfl
      | some x=>
       rw [hx] at henv
       simp only [Option.getD_some] at henv
       cases henv with
       | tup hv => 
        have:=hv.length
        rename_i xs
        have:xs=#[]:=by apply Array.ext'; exact List.eq_nil_of_length_eq_zero (by simpa using this.symm)
        subst this; exact .inr rfl
     rcases this with h | h <;> rw [h]
    have hwant:Region.wanted o (yielded ops a.tmps)=false:=by simp [Region.wanted,hg,hy]
    rw [hwant]
    exact fin s (Ext.refl _) s.rel (.tup .nil) hk
   ·exact hk.elim
  ·exact hk.elim

theorem Ywr {ops:Array Oper} {Q:Exit→Act→World→Prop}:∀ (l:List Oper) {μ:List Pl} {h:Zaa} {w:World} {env:Env} {a:Act},St P base N w0 μ env h a w→∀ {K:Env→Zaa→Prop},Xbh P N ops l env h K →
  (∀ a w,Ytz P base N w0 μ K a w→Q .normal a w)→wpList P ops Q l a w
 | [],μ,h,w,env,a,s,K,hk,hq=>hq a w ⟨μ,env,h,Ext.refl _,s,hk⟩
 | o :: r,μ,h,w,env,a,s,K,hk,hq=>by
  have hstep:=Yte (next:=wpList P ops Q r) (Q:=Q) s hk (fun a' w' ⟨μ',env',h',hx,s',hk'⟩=>Ywr r s' hk' (fun a w ⟨μ2,env2,h2,hx2,s2,k2⟩=>hq a w ⟨μ2,env2,h2,hx.trans hx2,s2,k2⟩))
  unfold wpList
  split
  ·rename_i hw; rw [if_pos hw] at hstep; exact .inl hstep
  ·rename_i hw; rw [if_neg hw] at hstep; exact hstep
end
end Go.Sim

set_option linter.unusedSimpArgs false
namespace Go.Sim
open Go Go.RowKit

section
variable {P:Program} {K K':Zay→Zaa→Prop} {k k':Zay→Prop}

theorem Ynm {o:Option Zay} {K K':Bool→Prop} (h:Zca o K) (m:∀ b,K b→K' b):Zca o K':=by
 unfold Zca at *; split at h <;> first | exact m _ h | exact h.elim
theorem Ysl {q:IntKind} {o:Option Zay} {K K':Int→Prop} (h:Zec q o K) (m:∀ b,K b→K' b):Zec q o K':=by
 unfold Zec at *; split at h <;> first | exact ⟨h.1,m _ h.2⟩ | exact h.elim
theorem Ybr {o:Option Zay} {K K':List Nat→Prop} (h:Zbd o K) (m:∀ b,K b→K' b):Zbd o K':=by
 unfold Zbd at *; split at h <;> first | exact m _ h | exact h.elim
theorem Ytu {o:Option Zay} {K K':Option (Nat × Nat)→Prop} (h:Zgn o K) (m:∀ b,K b→K' b):Zgn o K':=by
 unfold Zgn at *; split at h <;> first | exact m _ h | exact h.elim
theorem Yvg {o:Option Zay} {K K':Option (Nat × Nat)→Nat→Nat→Bool→Prop} (h:xSl o K) (m:∀ a b c d,K a b c d→K' a b c d):xSl o K':=by
 unfold xSl at *; split at h <;> first | exact m _ _ _ _ h | exact h.elim
theorem Yrs {o:Option Zay} {K K':Option Nat→Prop} (h:Yqa o K) (m:∀ b,K b→K' b):Yqa o K':=by
 unfold Yqa at *; split at h <;> first | exact m _ h | exact h.elim
theorem Zwy {o:Option Zay} (h:Ycx o k) (m:∀ b,k b→k' b):Ycx o k':=by
 unfold Ycx at *; split at h <;> first | exact m _ h | exact h.elim
theorem Ydi {cs:List Zay} {K K':Zay→List Zay→Prop} (h:Zai cs K) (m:∀ a b,K a b→K' a b):Zai cs K':=by
 unfold Zai at *; split at h <;> first | exact m _ _ h | exact h.elim
theorem Yie {cs:List Zay} {K K':Prop} (h:Zbq cs K) (m:K→K'):Zbq cs K':=by
 unfold Zbq at *; split at h <;> first | exact m h | exact h.elim
theorem Zih {o:Option (List Zay)} {K K':List Zay→Prop} (h:Zcd o K) (m:∀ b,K b→K' b):Zcd o K':=by
 unfold Zcd at *; split at h <;> first | exact m _ h | exact h.elim
theorem Ydr {o:Option Zaa} {K K':Zaa→Prop} (h:Zbt o K) (m:∀ b,K b→K' b):Zbt o K':=by
 unfold Zbt at *; split at h <;> first | exact m _ h | exact h.elim
theorem Yrx {v:Zay} {K K':List Zay→Prop} (h:Zqi v K) (m:∀ b,K b→K' b):Zqi v K':=by
 unfold Zqi at *; split at h <;> first | exact m _ h | exact h.elim
theorem Yrj {v:Zay} {K K':List Zay→Prop} (h:Zlf v K) (m:∀ b,K b→K' b):Zlf v K':=by
 unfold Zlf at *; split at h <;> first | exact m _ h | exact h.elim
theorem Ybt {o:Option Field} {K K':Field→Prop} (h:Zvq o K) (m:∀ b,K b→K' b):Zvq o K':=by
 unfold Zvq at *; split at h <;> first | exact m _ h | exact h.elim
theorem Zdn {p:Prop} [Decidable p] {K K':Prop} (h:chk p K) (m:K→K'):chk p K':=by
 unfold chk at *; split at h <;> first | exact m h | exact h.elim
theorem Zqg {o:Option Zay} {d:Int} {K K':Int→Prop} (h:Zlx o d K) (m:∀ b,K b→K' b):Zlx o d K':=by
 unfold Zlx at *; split at h <;> first | exact m _ h | exact h.elim
theorem Ypa {b:Bool} {A B A' B':Prop} (h:bcase b A B) (m:A→A') (n:B→B'):bcase b A' B':=by
 unfold bcase at *; split at h <;> first | exact m h | exact n h
theorem Zsj {s:Sh} {o:Option Zay} (h:xv s o k) (m:∀ v,k v→k' v):xv s o k':=by
 cases s <;> simp only [xv] at *
 ·exact Ynm h fun _=>m _
 ·exact Ysl h fun _=>m _
 ·exact Ybr h fun _=>m _
 ·exact Ytu h fun _=>m _
 ·exact Yvg h fun _ _ _ _=>m _
 ·exact Yrs h fun _=>m _
 ·exact Zwy h m
theorem Yjh:∀ {ss:List Sh} {cs:List Zay} {K K':List Zay→Prop},xs ss cs K→(∀ v,K v→K' v)→xs ss cs K'
 | [],_,_,_,h,m=>Yie h (m _)
 | _ :: _,_,_,_,h,m=>Ydi h fun _ _ h=>Zsj h fun _ h=>Yjh h fun _=>m _
theorem Yti {t:TypeId} {v:Zay} (h:xt P t v k) (m:∀ v,k v→k' v):xt P t v k':=by
 unfold xt at *
 split at h
 ·exact Yrx h fun _ h=>Yjh h fun _=>m _
 ·exact Zsj h m
theorem Yls:∀ {ts:List TypeId} {cs:List Zay} {K K':List Zay→Prop},xts P ts cs K→(∀ v,K v→K' v)→xts P ts cs K'
 | [],_,_,_,h,m=>Yie h (m _)
 | _ :: _,_,_,_,h,m=>Ydi h fun _ _ h=>Yti h fun _ h=>Yls h fun _=>m _
theorem Yhw {ts:List TypeId} {v:Zay} (h:Yxd P ts v k) (m:∀ v,k v→k' v):Yxd P ts v k':=by
 unfold Yxd at *
 split at h
 ·exact m _ h
 ·exact Yti h m
 ·exact Yrj h fun _ h=>Yls h fun _=>m _
theorem You {t:TypeId} {h:Zaa} {p:Zay} (hh:Zzo P t h p k) (m:∀ v,k v→k' v):Zzo P t h p k':=by
 unfold Zzo at *
 split at hh
 ·exact Zih hh fun _ h=>Yjh h fun _=>m _
 ·exact Zsj hh m
theorem Yjp {t:TypeId} {h:Zaa} {p v:Zay} {K K':Zaa→Prop} (hh:Ydj P t h p v K) (m:∀ v,K v→K' v):Ydj P t h p v K':=by
 unfold Ydj at *
 split at hh
 ·split at hh
  ·exact Ydr hh m
  ·exact hh.elim
 ·exact hh.elim
theorem Yof {a b:Option (Nat × Nat)} {K K':Bool→Prop} (h:Ykp a b K) (m:∀ b,K b→K' b):Ykp a b K':=by
 unfold Ykp at *
 split at h
 ·exact m _ h
 ·split at h
  ·exact m _ h
  ·exact h.elim
theorem Zux {a:Option (Nat × Nat)} {K K':Nat→Nat→Prop} (h:Zbf a K) (m:∀ b o,K b o→K' b o):Zbf a K':=by
 obtain ⟨b,o,rfl,h⟩:=Zbk h
 exact m _ _ h
theorem Ymn {t:TypeId} {x y:Zay} {K K':Bool→Prop} (h:eqA P t x y K) (m:∀ b,K b→K' b):eqA P t x y K':=by
 unfold eqA at *
 split at h <;> (try exact h.elim) <;> split at h <;> (try exact h.elim)
 ·exact Zdn h (m _)
 ·exact m _ h
 ·exact Zdn h (m _)
 ·exact Zdn h fun h=>Yof h m
 ·split at h
  ·exact m _ h
  ·exact h.elim
 ·exact Zdn h fun h=>⟨h.1,m _ h.2⟩
theorem Yrr {op:BinOp} {t:TypeId} {x y:Zay} (h:Ywv P op t x y k) (m:∀ v,k v→k' v):Ywv P op t x y k':=by
 unfold Ywv at *
 split at h
 ·exact Ymn h fun _=>m _
 ·exact Ymn h fun _=>m _
 ·split at h
  ·split at h
   ·split at h <;> first
     | exact h.elim
     | exact Zdn h (m _)
     | exact Zdn h fun h=>⟨h.1,m _ h.2⟩
     | exact ⟨h.1,m _ h.2⟩
   ·exact h.elim
  ·split at h
   ·split at h <;> first
     | exact h.elim
     | exact ⟨h.1,m _ h.2⟩
     | exact m _ h
   ·exact h.elim
  ·exact h.elim
theorem Ydn {t:TypeId} {cs:List Zay} {off:Nat} (h:Ycz P t cs off k) (m:∀ v,k v→k' v):Ycz P t cs off k':=by
 unfold Ycz at *
 split at h
 ·exact m _ h
 ·exact Zdn h fun h=>Zwy h m
theorem Yqd {ts:Array TypeId} {xs:List Zay} (h:Yxp P ts xs k) (m:∀ v,k v→k' v):Yxp P ts xs k':=by
 unfold Yxp at *
 split at h <;> first | exact h.elim | exact Zdn h (m _)
theorem Yoi {s d:TypeId} {x:Zay} (h:Ykk P s d x k) (m:∀ v,k v→k' v):Ykk P s d x k':=by
 unfold Ykk at *
 split at h
 ·split at h <;> first | exact h.elim | exact Zdn h (m _)
 ·split at h <;> first | exact h.elim | exact Zdn h (m _) | exact Zdn h fun h=>⟨h.1,m _ h.2⟩
 ·exact h.elim
theorem Yiy {t:TypeId} {x:Zay} {lo hi mx:Option Zay} (h:Ydo P t x lo hi mx k) (m:∀ v,k v→k' v):Ydo P t x lo hi mx k':=by
 unfold Ydo at *
 split at h
 ·split at h
  ·exact Zdn h fun h=>Zqg h fun _ h=>Zqg h fun _ h=>⟨h.1,m _ h.2⟩
  ·exact h.elim
 ·split at h
  ·refine Zdn h fun h=>Zdn h fun h=>Zqg h fun _ h=>Zqg h fun _ h=>Zqg h fun _ h=>⟨h.1,?_⟩
   have h2:=h.2
   split at h2
   ·exact ⟨h2.1,m _ h2.2⟩
   ·exact ⟨fun a=>m _ (h2.1 a),fun a=>m _ (h2.2 a)⟩
  ·exact h.elim
 ·exact h.elim
theorem Zym {env:Env} {o:Oper} (h:Zwl P env o k) (m:∀ v,k v→k' v):Zwl P env o k':=by
 obtain ⟨dst,op,type,pos,after,guard⟩:=o
 unfold Zwl at *
 cases op <;> simp only at h ⊢ <;> (try exact h.elim)
 case move x=>exact m _ h
 case assign x=>exact m _ h
 case pick c a b=>
  unfold Yqe at *
  split at h
  ·exact Ypa h (m _) (m _)
  ·exact h.elim
 case nilCheck x=>
  unfold Xav at *
  split at h <;> first | exact h.elim | exact m _ h | exact Zux h fun _ _=>m _
 case fieldAddr t x i=>
  unfold Zjb at *
  split at h
  ·exact Ybt h fun _ h=>Zdn h fun h=>Zdn h fun h=>Zux h fun _ _=>m _
  ·exact h.elim
 case field t x i=>
  unfold Yij at *
  split at h
  ·exact Ybt h fun _ h=>Ydn h m
  ·exact h.elim
 case indexAddr t x i=>
  unfold Zry at *
  split at h
  ·split at h
   ·split at h <;> first | exact h.elim | exact Zdn h fun h=>⟨h.1,Zux h.2 fun _ _=>m _⟩
   ·split at h <;> first | exact h.elim | exact Zdn h fun h=>⟨h.1,Zux h.2 fun _ _=>m _⟩
   ·exact h.elim
  ·exact h.elim
 case index t x i=>
  unfold Yhg at *
  split at h
  ·split at h
   ·split at h
    ·exact ⟨h.1,m _ h.2⟩
    ·exact h.elim
   ·split at h
    ·exact Zdn h fun h=>⟨h.1,Ydn h.2 m⟩
    ·exact h.elim
   ·exact h.elim
  ·exact h.elim
 case slice t x lo hi mx=>exact Yiy h m
 case binOp op t x y yt=>exact Yrr h m
 case unOp op t x=>
  unfold unA at *
  split at h
  ·split at h <;> first | exact h.elim | exact m _ h
  ·split at h <;> first | exact h.elim | exact m _ h
  ·exact h.elim
 case convert s d x=>exact Yoi h m
 case extract x i=>
  unfold Zwk at *
  split at h
  ·exact Zwy h m
  ·exact h.elim
 case makeFunc fn first caps=>
  cases fn <;> simp only at h ⊢ <;> first | exact h.elim | exact Zdn h (m _)
 case call c=>
  split at h
  ·exact Yqd h m
  ·exact h.elim
theorem Yci {h:Zaa} {j:Nat} {e:TypeId} {A B:List Zay→Prop} (hh:Zto h j e A) (m:∀ cs,A cs→B cs):Zto h j e B:=by
 unfold Zto at *
 split at hh
 ·exact ⟨hh.1,m _ hh.2⟩
 ·exact hh.elim
theorem Ygl {t:TypeId} {h:Zaa} {s x:Zay} (hh:Zci P t h s x K) (m:∀ v h,K v h→K' v h):Zci P t h s x K':=by
 unfold Zci at *
 split at hh <;> (try exact hh.elim)
 split at hh <;> (try exact hh.elim)
 split at hh <;> (try exact hh.elim)
 refine Zih hh fun new h=>⟨h.1,?_⟩
 have h2:=h.2
 split at h2
 ·exact ⟨fun a=>m _ _ (h2.1 a),fun a=>⟨(h2.2 a).1,m _ _ (h2.2 a).2⟩⟩
 ·rcases h2 with ⟨a,b⟩ | ⟨a,b⟩ | ⟨a,b⟩
  ·exact .inl ⟨a,Yci b fun _ h=>⟨h.1,m _ _ h.2⟩⟩
  ·exact .inr (.inl ⟨a,Yci b fun _ h=>⟨h.1,m _ _ h.2⟩⟩)
  ·exact .inr (.inr ⟨a,Zih b fun _=>m _ _⟩)
theorem Ycf:∀ {cs:List Zay} {K K':List Nat→Prop},Znz cs K→(∀ s,K s→K' s)→Znz cs K'
 | [],_,_,h,m=>m _ h
 | .int k n :: r,_,_,h,m=>by
  unfold Znz at *
  exact Zdn h fun h=>⟨h.1,Ycf h.2 fun _=>m _⟩
 | .undef :: _,_,_,h,_ | .bool _ :: _,_,_,h,_ | .str _ :: _,_,_,h,_ | .ptr _ :: _,_,_,h,_ | .slice .. :: _,_,_,h,_ | .map _ :: _,_,_,h,_ | .fn .. :: _,_,_,h,_ | .nilFn :: _,_,_,h,_ | .iter _ :: _,_,_,h,_
 | .agg _ :: _,_,_,h,_ | .tup _ :: _,_,_,h,_=>by unfold Znz at h; exact h.elim
theorem Ytd {s d:TypeId} {h:Zaa} {x:Zay} {K K':Zay→Prop} (hh:Yym P s d h x K) (m:∀ v,K v→K' v):Yym P s d h x K':=by
 unfold Yym at *
 split at hh
 ·refine Zdn hh fun h=>?_
  split at h
  ·exact Zih h fun _ h=>Ycf h fun _=>m _
  ·exact h.elim
 ·exact hh.elim
theorem Ysd {x y:Zay} {K K':Zay→Prop} (hh:Yyp x y K) (m:∀ v,K v→K' v):Yyp x y K':=by
 unfold Yyp at *
 split at hh
 ·split at hh
  ·exact Zdn hh (m _)
  ·exact hh.elim
 ·exact hh.elim
theorem Ybo {t:TypeId} {a b:Zay} {h:Zaa} {K K':Zay→Zaa→Prop} (hh:Zph P t a b h K) (m:∀ v h,K v h→K' v h):Zph P t a b h K':=by
 unfold Zph at *
 split at hh
 ·refine Zih hh fun _ h=>Zdn h fun h=>?_
  unfold Zec at *
  split at h
  ·refine ⟨h.1,?_⟩
   replace h:=h.2
   split at h
   ·exact ⟨h.1,h.2.1,m _ _ h.2.2⟩
   ·exact h.elim
  ·exact h.elim
 ·exact hh.elim
theorem Zoc {h:Zaa} {m:Option Nat} {K K':List ME→Nat→Prop} (hh:Zjl h m K) (m':∀ a b,K a b→K' a b):Zjl h m K':=by
 unfold Zjl at *
 split at hh
 ·exact m' _ _ hh
 ·split at hh
  ·exact m' _ _ hh
  ·exact hh.elim
theorem Yom {es:List ME} {s:List Nat} {K K':Option Zay→Prop} (hh:Ydg es s K) (m:∀ a,K a→K' a):Ydg es s K':=by
 unfold Ydg at *; split at hh <;> first | exact m _ hh | exact hh.elim
theorem Ysy {es:List ME} {clk:Nat} {s:List Nat} {v:Zay} {K K':List ME→Nat→Prop} (hh:Yty es clk s v K) (m:∀ a b,K a b→K' a b):Yty es clk s v K':=by
 unfold Yty at *; split at hh <;> first | exact m _ _ hh | exact hh.elim
theorem Ymw {m:Option Nat} {K K':Nat→Prop} (hh:xMp m K) (mm:∀ a,K a→K' a):xMp m K':=by
 unfold xMp at *; split at hh <;> first | exact mm _ hh | exact hh.elim
theorem Ynp {h:Zaa} {r:Nat} {K K':List Nat→Nat→Prop} (hh:Yfb h r K) (m:∀ a b,K a b→K' a b):Yfb h r K':=by
 unfold Yfb at *; split at hh <;> first | exact m _ _ hh | exact hh.elim
theorem Ybx {h:Zaa} {r:Nat} {K K':Option Nat→Nat→List Nat→Nat→Prop} (hh:Yck h r K) (m:∀ a b c d,K a b c d→K' a b c d):Yck h r K':=by
 unfold Yck at *; split at hh <;> first | exact m _ _ _ _ hh | exact hh.elim
theorem Yif {t:TypeId} {h:Zaa} {x i:Zay} {ok:Bool} (hh:Zyo P t h x i ok k) (m:∀ v,k v→k' v):Zyo P t h x i ok k':=by
 unfold Zyo at *
 split at hh
 ·refine Zdn hh fun h=>?_
  split at h
  ·exact Ybr h fun _ h=>Zwy h fun _ h=>Zoc h fun _ _ h=>Yom h fun _ h=>Zsj h fun _=>m _
  ·exact h.elim
 ·exact hh.elim
theorem Yal {t:TypeId} {h:Zaa} {x i v:Zay} (hh:Zpf P t h x i v K) (m:∀ v h,K v h→K' v h):Zpf P t h x i v K':=by
 unfold Zpf at *
 split at hh
 ·refine Zdn hh fun h=>?_
  split at h
  ·exact Ymw h fun _ h=>Ybr h fun _ h=>Zoc h fun _ _ h=>Ysy h fun _ _=>m _ _
  ·exact h.elim
 ·exact hh.elim
theorem Yfr {t:TypeId} {r:Option Zay} {h:Zaa} (hh:Zut P t r h K) (m:∀ v h,K v h→K' v h):Zut P t r h K':=by
 unfold Zut at *
 split at hh <;> first | exact m _ _ hh | exact Zdn hh (m _ _) | exact hh.elim
theorem Ykt {t:TypeId} {x:Zay} {h:Zaa} (hh:Yeb P t x h K) (m:∀ v h,K v h→K' v h):Yeb P t x h K':=by
 unfold Yeb at *
 split at hh <;> first | exact hh.elim | exact Zdn hh (m _ _) | exact Zdn hh fun h=>Zoc h fun _ _=>m _ _
theorem Yrv {m:Option Nat} {A B A' B':Prop} (hh:Xar m A B) (p:A→A') (q:B→B'):Xar m A' B':=by
 unfold Xar at *; split at hh <;> first | exact p hh | exact q hh
theorem Yoj {ty:TypeId} {x:Zay} {st:Bool} {h:Zaa} (hh:Yoq P ty x st h K) (m:∀ v h,K v h→K' v h):Yoq P ty x st h K':=by
 unfold Yoq at *
 split at hh
 ·split at hh
  ·exact Ynp hh fun _ _ h=>⟨fun a=>⟨(h.1 a).1,m _ _ (h.1 a).2⟩,fun a=>m _ _ (h.2 a)⟩
  ·exact Ybx hh fun _ _ _ _ h=>Yrv h (m _ _) fun h=>Zoc h fun _ _ h=>⟨h.1,fun a=>m _ _ (h.2.1 a),fun e he hn=>Zsj (h.2.2 e he hn) fun _ h=>Zsj h fun _=>m _ _⟩
 ·exact hh.elim
theorem Yjw {ty:TypeId} {x:Zay} {h:Zaa} (hh:Ydt P ty x h k) (m:∀ v,k v→k' v):Ydt P ty x h k':=by
 unfold Ydt at *
 split at hh
 ·exact Ybx hh fun _ _ _ _ h=>Ymw h fun _ h=>Zoc h fun _ _ h=>⟨h.1,h.2.imp fun _ h=>⟨h.1,h.2.imp fun _ h=>⟨h.1,Zsj h.2 fun _ h=>Zsj h fun _=>m _⟩⟩⟩
 ·exact hh.elim
theorem Yvv {env:Env} {h:Zaa} {o:Oper} (hh:opA P env h o K) (m:∀ v h,K v h→K' v h):opA P env h o K':=by
 obtain ⟨dst,op,type,pos,after,guard⟩:=o
 unfold opA at *
 cases op <;> simp only at hh ⊢
 case load t a=>exact Zdn hh fun h=>You h fun _=>m _ _
 case store t a x=>exact Zdn hh fun h=>Yjp h fun _=>m _ _
 case alloc t=>exact Zih hh fun _=>m _ _
 case box t x=>exact Zih hh fun _=>m _ _
 case build t ps=>
  refine Zih hh fun _ h=>?_
  split at h
  ·exact Zdn h fun h=>Zih h fun _=>m _ _
  ·exact Zdn h fun h=>Zih h fun _=>m _ _
  ·exact h.elim
 case buildSlice t n ps=>
  unfold Zst at *
  split at hh
  ·exact Zih hh fun _ h=>Zdn h fun h=>Zih h fun _=>m _ _
  ·exact hh.elim
 case call c=>
  unfold Yqc at *
  split at hh
  ·split at hh
   ·exact Zak.mono hh fun _ _ h=>Yhw h fun _=>m _ _
   ·unfold Xbb Yyx at *
    split at hh
    ·exact Zak.mono hh fun _ _ h=>Yhw h fun _=>m _ _
    ·exact hh.elim
  ·split at hh
   ·refine Zdn hh fun h=>?_
    split at h
    ·exact Ygl h fun _ _ h=>Zsj h fun _=>m _ _
    ·exact h.elim
   ·exact hh.elim
  ·split at hh
   ·exact Ysd hh fun _=>m _ _
   ·exact hh.elim
  ·split at hh
   ·split at hh
    ·unfold Ymf at *
     split at hh
     ·split at hh
      ·refine ⟨fun h0=>m _ _ (hh.1 h0),fun h0=>Zih (hh.2 h0) fun _ h=>Zdn h fun h=>Ydr h fun _=>m _ _⟩
      ·exact hh.elim
     ·exact hh.elim
    ·exact hh.elim
   ·exact hh.elim
  ·exact Zym hh fun _=>m _ _
 case makeSlice t l c=>exact Ybo hh m
 case makeMap t r=>exact Yfr hh m
 case lookup t x i ok=>exact Yif hh fun _=>m _ _
 case mapUpdate t mm k v=>exact Yal hh m
 case range t x=>exact Ykt hh m
 case next x st=>exact Yoj hh m
 case entry x=>exact Yjw hh fun _=>m _ _
 case convert s d x=>
  split at hh
  ·exact Ytd hh fun _=>m _ _
  ·exact Zym hh fun _=>m _ _
 all_goals exact Zym hh fun _=>m _ _
end
end Go.Sim

set_option linter.unusedSimpArgs false
namespace Go.Sim
open Go Go.RowKit

def Det {α:Type} (F:(α→Prop)→Prop):Prop:=∀ k,F k→∃ v,k v∧∀ k',k' v→F k'
theorem Det.ret {α:Type} (a:α):Det (fun k=>k a):=fun _ h=>⟨a,h,fun _ h=>h⟩
theorem Det.no {α:Type}:Det (fun _:α→Prop=>False):=fun _ h=>h.elim
theorem Det.and {α:Type} {p:Prop} {F:(α→Prop)→Prop} (d:Det F):Det (fun k=>p∧F k):=fun k ⟨hp,h⟩=>let ⟨v,hv,r⟩:=d k h; ⟨v,hv,fun k' h'=>⟨hp,r k' h'⟩⟩
theorem Det.chk {α:Type} {p:Prop} [Decidable p] {F:(α→Prop)→Prop} (d:Det F):Det (fun k=>chk p (F k)):=fun k h=>by
 have ⟨hp,h⟩:=Zcm h
 obtain ⟨v,hv,r⟩:=d k h
 exact ⟨v,hv,fun k' h'=>by unfold Sim.chk; rw [decide_eq_true hp]; exact r k' h'⟩
theorem Det.bind {α β:Type} {F:(α→Prop)→Prop} {G:α→(β→Prop)→Prop} (d:Det F) (e:∀ a,Det (G a)):Det (fun k=>F fun a=>G a k):=fun k h=>by
 obtain ⟨a,ha,r⟩:=d _ h
 obtain ⟨b,hb,q⟩:=e a k ha
 exact ⟨b,hb,fun k' h'=>r _ (q k' h')⟩
theorem Det.map {α β:Type} {F:(α→Prop)→Prop} (d:Det F) (f:α→β):Det (fun k=>F fun a=>k (f a)):=d.bind fun a=>Det.ret (f a)
theorem Det.bcase {α:Type} {b:Bool} {F G:(α→Prop)→Prop} (d:Det F) (e:Det G):Det (fun k=>bcase b (F k) (G k)):=by cases b <;> assumption

section
variable {P:Program}
theorem Yqu (s:Sh) (o:Option Zay):Det (xv s o):=by
 intro k h
 cases s <;> simp only [xv,Zca,Zbd,Zgn,xSl,Yqa,Ycx,Zec] at * <;> split at h <;> first
  | exact h.elim
  | exact ⟨_,h,fun _ h=>h⟩
  | exact ⟨_,h.2,fun _ h'=>⟨h.1,h'⟩⟩
theorem Ymx (o:Option Zay):Det (Ycx o):=Yqu .any o
theorem Zzz (o:Option (List Zay)):Det (Zcd o):=fun k h=>by
 unfold Zcd at *; split at h <;> first | exact ⟨_,h,fun _ h=>h⟩ | exact h.elim
theorem Yww:∀ (ss:List Sh) (cs:List Zay),Det (xs ss cs)
 | [],cs=>fun k h=>by
  simp only [xs,Zbq] at *; split at h <;> first | exact ⟨_,h,fun _ h=>h⟩ | exact h.elim
 | s :: ss,cs=>fun k h=>by
  simp only [xs,Zai] at *
  split at h
  ·exact ((Yqu s _).bind (G:=fun v k=>xs ss _ fun vs=>k (v :: vs)) fun v=>(Yww ss _).map (v :: ·)) k h
  ·exact h.elim
theorem Yqg (t:TypeId) (h:Zaa) (p:Zay):Det (Zzo P t h p):=by
 intro k hh
 unfold Zzo at *
 split at hh
 ·exact ((Zzz _).bind (G:=fun cs k=>xs _ cs fun vs=>k (.agg vs)) fun cs=>(Yww _ cs).map Zay.agg) k hh
 ·exact Yqu _ _ k hh
theorem Yqs (a b:Option (Nat × Nat)):Det (Ykp a b):=by
 intro k h
 unfold Ykp at *
 split at h
 ·exact ⟨_,h,fun _ h=>h⟩
 ·split at h
  ·exact ⟨_,h,fun _ h=>h⟩
  ·exact h.elim
theorem Zxb (a:Option (Nat × Nat)) (f:Nat→Nat→Zay):Det (fun k:Zay→Prop=>Zbf a fun b o=>k (f b o)):=by
 intro k h
 obtain ⟨b,o,rfl,h⟩:=Zbk h
 exact ⟨_,h,fun _ h=>h⟩
theorem Ysw (t:TypeId) (x y:Zay):Det (eqA P t x y):=by
 intro k h
 unfold eqA at *
 split at h <;> (try exact h.elim) <;> split at h <;> (try exact h.elim)
 ·exact (Det.ret _).chk k h
 ·exact ⟨_,h,fun _ h=>h⟩
 ·exact (Det.ret _).chk k h
 ·exact (Yqs _ _).chk k h
 ·split at h
  ·exact ⟨_,h,fun _ h=>h⟩
  ·exact h.elim
 ·exact (Det.ret _).and.chk k h
theorem Ywl (op:BinOp) (t:TypeId) (x y:Zay):Det (Ywv P op t x y):=by
 intro k h
 unfold Ywv at *
 split at h
 ·exact (Ysw t x y).map _ k h
 ·exact (Ysw t x y).map _ k h
 ·split at h
  ·split at h
   ·split at h <;> first
     | exact h.elim
     | exact (Det.ret _).chk k h
     | exact (Det.ret _).and.chk k h
     | exact (Det.ret _).and k h
   ·exact h.elim
  ·split at h
   ·split at h <;> first
     | exact h.elim
     | exact (Det.ret _).and k h
     | exact ⟨_,h,fun _ h=>h⟩
   ·exact h.elim
  ·exact h.elim
theorem Ygq (t:TypeId) (cs:List Zay) (off:Nat):Det (Ycz P t cs off):=by
 intro k h
 unfold Ycz at *
 split at h
 ·exact ⟨_,h,fun _ h=>h⟩
 ·exact (Ymx _).chk k h
theorem Zrq (o:Option Zay) (d:Int):Det (Zlx o d):=fun k h=>by
 unfold Zlx at *; split at h <;> first | exact ⟨_,h,fun _ h=>h⟩ | exact h.elim
theorem Ygk (o:Option Field):Det (Zvq o):=fun k h=>by
 unfold Zvq at *; split at h <;> first | exact ⟨_,h,fun _ h=>h⟩ | exact h.elim
theorem Yhz (s:List Nat) (lo hi:Option Zay):Det (Zws s lo hi):=by
 unfold Zws
 exact (Zrq hi s.length).bind fun h=>(Zrq lo 0).bind fun l=>(Det.ret _).and
theorem Yjs (a:Option (Nat × Nat)) (len cap:Nat) (ex:Bool) (sz:Nat) (lo hi mx:Option Zay):Det (Zhu a len cap ex sz lo hi mx):=by
 unfold Zhu
 refine (Zrq mx cap).bind fun m=>(Zrq hi len).bind fun h=>(Zrq lo 0).bind fun l=>Det.and ?_
 intro k hk
 split at hk
 ·exact (Det.ret _).and k hk
 ·rename_i b o
  by_cases hlm:l < m
  ·exact ⟨_,hk.1 hlm,fun k' h'=>⟨fun _=>h',fun h=>absurd hlm h⟩⟩
  ·exact ⟨_,hk.2 hlm,fun k' h'=>⟨fun h=>absurd h hlm,fun _=>h'⟩⟩
theorem Yrz (env:Env) (o:Oper):Det (Zwl P env o):=by
 intro k h
 obtain ⟨dst,op,type,pos,after,guard⟩:=o
 unfold Zwl at *
 cases op <;> simp only at h ⊢ <;> (try exact h.elim)
 case move x=>exact ⟨_,h,fun _ h=>h⟩
 case assign x=>exact ⟨_,h,fun _ h=>h⟩
 case pick c a b=>
  unfold Yqe at *
  split at h
  ·exact (Det.ret _).bcase (Det.ret _) k h
  ·exact h.elim
 case nilCheck x=>
  unfold Xav at *
  split at h <;> first | exact h.elim | exact ⟨_,h,fun _ h=>h⟩ | exact Zxb _ (fun b o=>.ptr (some (b,o))) k h
 case fieldAddr t x i=>
  unfold Zjb at *
  split at h
  ·rename_i a _
   exact (Det.bind (F:=Zvq (Ycb P t i)) (G:=fun (f:Field) (k:Zay→Prop)=>chk ((P.underlying f.type).isSome=true) (chk (P.cellsOf f.type≠0) (Zbf a fun b o=>k (Zay.ptr (some (b,o + f.offset)))))) (Ygk _) fun f=>Det.chk (Det.chk (Zxb a fun b o=>Zay.ptr (some (b,o + f.offset))))) k h
  ·exact h.elim
 case field t x i=>
  unfold Yij at *
  split at h
  ·exact (Ygk _).bind (G:=fun f k=>Ycz P f.type _ f.offset k) (fun f=>Ygq _ _ _) k h
  ·exact h.elim
 case indexAddr t x i=>
  unfold Zry at *
  split at h
  ·split at h
   ·split at h <;> first | exact h.elim | exact (Zxb _ (fun b o=>Zay.ptr (some (b,o + _)))).and.chk k h
   ·split at h <;> first | exact h.elim | exact (Zxb _ (fun b o=>Zay.ptr (some (b,o + _)))).and.chk k h
   ·exact h.elim
  ·exact h.elim
 case index t x i=>
  unfold Yhg at *
  split at h
  ·split at h
   ·split at h
    ·exact (Det.ret _).and k h
    ·exact h.elim
   ·split at h
    ·exact (Ygq _ _ _).and.chk k h
    ·exact h.elim
   ·exact h.elim
  ·exact h.elim
 case slice t x lo hi mx=>
  unfold Ydo at *
  split at h
  ·split at h
   ·exact (Yhz _ _ _).chk k h
   ·exact h.elim
  ·split at h
   ·exact (Yjs _ _ _ _ _ _ _ _).chk.chk k h
   ·exact h.elim
  ·exact h.elim
 case binOp op t x y yt=>exact Ywl _ _ _ _ k h
 case unOp op t x=>
  unfold unA at *
  split at h
  ·split at h <;> first | exact h.elim | exact ⟨_,h,fun _ h=>h⟩
  ·split at h <;> first | exact h.elim | exact ⟨_,h,fun _ h=>h⟩
  ·exact h.elim
 case convert s d x=>
  unfold Ykk at *
  split at h
  ·split at h <;> first | exact h.elim | exact (Det.ret _).chk k h
  ·split at h <;> first | exact h.elim | exact (Det.ret _).chk k h | exact (Det.ret _).and.chk k h
  ·exact h.elim
 case extract x i=>
  unfold Zwk at *
  split at h
  ·exact Ymx _ k h
  ·exact h.elim
 case makeFunc fn first caps=>
  cases fn <;> simp only at h ⊢ <;> first | exact h.elim | exact (Det.ret _).chk k h
 case call c=>
  split at h
  ·unfold Yxp at *
   split at h <;> first | exact h.elim | exact (Det.ret _).chk k h
  ·exact h.elim

def Yex (P:Program) (op:Op):Bool:=
 match op with
 | .move _ | .assign _ | .pick .. | .binOp .. | .unOp .. | .nilCheck _ | .extract .. | .field .. | .fieldAddr .. | .indexAddr .. | .index .. | .slice .. | .makeFunc .. | .build ..=>true
 | .call c=>(match c.callee with | .builtin .len=>true | _=>false)
 | .convert s _ _=>!Yon P s
 | _=>false
def Ywj (op:Op):Bool:=match op with | .load ..=>true | _=>false
def Yos (P:Program) (env:Env) (o:Oper) (k:Zay→Prop):Prop:=
 match o.op with
 | .build t ps=>Yqf P t (parts env ps) k
 | _=>Zwl P env o k
theorem Ysk (env:Env) (o:Oper):Det (Yos P env o):=by
 intro k h
 unfold Yos at *
 split at h
 ·refine (Zzz _).bind (G:=fun z k=>_) (fun z=>?_) k h
  intro k h
  split at h
  ·exact ((Zzz _).map _).chk k h
  ·exact ((Zzz _).map _).chk k h
  ·exact h.elim
 ·exact Yrz env o k h
theorem Ybg {env:Env} {h:Zaa} {o:Oper} (hr:Yex P o.op=true) {K:Zay→Zaa→Prop}:opA P env h o K ↔ Yos P env o fun v=>K v h:=by
 obtain ⟨dst,op,type,pos,after,guard⟩:=o
 cases op <;> simp only [Yex,Bool.false_eq_true] at hr <;> try (simp only [opA,Yos]; done)
 case call c=>
  simp only [opA,Yos,Yqc]
  split at hr
  ·rename_i hc; simp [hc]
  ·cases hr
 case convert s d x=>
  simp only [Bool.not_eq_true'] at hr
  simp only [opA,Yos,hr]

theorem Yco {env env':Env} {ps:Array (Nat × Operand)} (hx:∀ x∈ps.map (·.2),ev env x=ev env' x):parts env ps=parts env' ps:=by
 unfold parts
 refine List.map_congr_left fun p hp=>?_
 rw [hx p.2 (Array.mem_map.2 ⟨p,by simpa using hp,rfl⟩)]
theorem Ydw {env env':Env} {xs:Array Operand} (hx:∀ x∈xs,ev env x=ev env' x):xs.toList.map (ev env)=xs.toList.map (ev env'):=
 List.map_congr_left fun x hp=>hx x (by simpa using hp)
theorem Ycs {env env':Env} {h:Zaa} {o:Oper} (hx:∀ x∈o.op.operands,ev env x=ev env' x) {K:Zay→Zaa→Prop}:opA P env h o K ↔ opA P env' h o K:=by
 obtain ⟨dst,op,type,pos,after,guard⟩:=o
 cases op <;> simp only [Op.operands] at hx <;> simp only [opA,Zwl]
 case build t ps=>rw [Yco fun x h=>hx x (by simpa using h)]
 case buildSlice t n ps=>rw [Yco fun x h=>hx x (by simpa using h)]
 case makeFunc fn first caps=>
  have hc:=Ydw (xs:=caps) fun x h=>hx x (by simp [h])
  cases fn <;> simp only [hc]
 case call c=>
  simp only [Call.operands] at hx
  have ha:c.args.toList.map (ev env)=c.args.toList.map (ev env'):=Ydw fun x h=>hx x (by simp [h])
  simp only [Yqc,Zwl,ha]
  cases hc:c.callee with
  | value f=>
   have hf:ev env f=ev env' f:=hx f (by simp [hc])
   cases f <;> simp only [hf]
  | invoke r m=>exact Iff.rfl
  | builtin b=>cases b <;> exact Iff.rfl
 case slice t x lo hi mx=>
  cases lo <;> cases hi <;> cases mx <;> simp_all
 case makeMap t r=>cases r <;> simp_all
 all_goals (first | rfl | (simp_all; done))
end
end Go.Sim

set_option linter.unusedSimpArgs false
namespace Go.Sim
open Go Go.RowKit

structure Ydk where
 i:Nat
 p:Zay
 n:Option Nat
def Ydk.ok (d:Ydk) (h h':Zaa):Prop:=match d.n with | none=>Zag h' d.p=Zag h d.p | some n=>Zbe h' d.p n=Zbe h d.p n
theorem Ydk.ok_refl (d:Ydk) (h:Zaa):d.ok h h:=by unfold Ydk.ok; split <;> rfl
def Zui (ops:Array Oper) (j i:Nat):Bool:=match ops[j]? with | some o=>o.after.any (fun e=>Region.binds .any e && e.on == i) | none=>false
def Yge (ops:Array Oper) (j:Nat):List Ydk→Zaa→Zaa→Prop→Prop
 | [],_,_,K=>K
 | d :: r,h,h',K=>(match Zui ops j d.i with | true=>Yge ops j r h h' K | false=>d.ok h h'∧Yge ops j r h h' K)
theorem Zsr {ops:Array Oper} {j:Nat}:∀ {hs:List Ydk} {h h':Zaa} {K:Prop},Yge ops j hs h h' K→(∀ d∈hs,Zui ops j d.i=true ∨ d.ok h h')∧K
 | [],_,_,_,hk=>⟨by simp,hk⟩
 | d :: r,h,h',K,hk=>by
  unfold Yge at hk
  split at hk
  ·rename_i hw
   obtain ⟨a,b⟩:=Zsr hk
   exact ⟨fun x hx=>by rcases List.mem_cons.1 hx with rfl | hx; exact .inl hw; exact a x hx,b⟩
  ·obtain ⟨ho,hk⟩:=hk
   obtain ⟨a,b⟩:=Zsr hk
   exact ⟨fun x hx=>by rcases List.mem_cons.1 hx with rfl | hx; exact .inr ho; exact a x hx,b⟩

def Zzq (P:Program) (N:Nat) (ops:Array Oper) (i:Nat) (env:Env) (h:Zaa) (K:Env→Zaa→Prop):Prop:=
 match ops[i]? with | some o=>Zqh P N ops env h o K | none=>K env h
def Ztc (P:Program) (ops:Array Oper) (i:Nat) (env:Env):Ydk:=
 match ops[i]? with
 | some o=>(match o.op with
  | .load t a=>(match isAgg P t with | true=>⟨i,ev env a,some (P.cellsOf t)⟩ | false=>⟨i,ev env a,none⟩)
  | _=>⟨i,.undef,none⟩)
 | none=>⟨i,.undef,none⟩
def Xaa (ops:Array Oper) (f:Op→Bool) (i:Nat):Bool:=match ops[i]? with | some o=>f o.op | none=>false
def Xbj (f:Nat→Prop):List Nat→Prop
 | []=>True
 | [i]=>f i
 | i :: r=>f i∧Xbj f r
theorem Ygw {f:Nat→Prop}:∀ {l:List Nat},Xbj f l→∀ i∈l,f i
 | [],_,i,hi=>by simp at hi
 | [j],h,i,hi=>by simp at hi; subst hi; exact h
 | j :: k :: r,h,i,hi=>by
  rcases List.mem_cons.1 hi with rfl | hi
  ·exact h.1
  ·exact Ygw h.2 i hi
def Yjn (P:Program) (N:Nat) (ops:Array Oper) (ks:List Nat) (K:Env→Zaa→Prop):Nat→Array Bool→List Ydk→Env→Zaa→Prop
 | 0,listed,_,env,h=>(match Region.ready .any ops listed with | []=>K (env.keep ks) h | _=>False)
 | f + 1,listed,hs,env,h=>
  (match Region.ready .any ops listed with
  | []=>K (env.keep ks) h
  | rs=>(match rs.find? (fun i=>Xaa ops (Yex P) i && Region.free .any ops listed i) with
   | some i=>Zzq P N ops i env h fun env' h'=>Yjn P N ops ks K f (listed.setIfInBounds i true) hs env' h'
   | none=>(match (match rs with | [_]=>none | _=>rs.find? (fun i=>Xaa ops Ywj i && Region.free .any ops listed i)) with
    | some i=>Zzq P N ops i env h fun env' h'=>Yjn P N ops ks K f (listed.setIfInBounds i true) (Ztc P ops i env :: hs) env' h'
    | none=>Xbj (fun i=>Zzq P N ops i env h fun env' h'=>Yge ops i hs h h' (Yjn P N ops ks K f (listed.setIfInBounds i true) hs env' h')) rs)))

def Yuc (P:Program) (N:Nat) (ops:Array Oper) (K:Env→Zaa→Prop) (hs:List Ydk):Nat→Array Bool→Env→Zaa→Prop
 | 0,listed,env,h=>Region.ready .any ops listed=[]∧K env h
 | f + 1,listed,env,h=>(Region.ready .any ops listed=[]→K env h) ∧
  ∀ i∈Region.ready .any ops listed,Zzq P N ops i env h fun env' h'=>(∀ d∈hs,Zui ops i d.i=true ∨ d.ok h h')∧Yuc P N ops K hs f (listed.setIfInBounds i true) env' h'

def Ykb (env env':Env):Prop:=∀ t,env.get t=env'.get t
def Zyg (o:Oper) (env:Env) (v:Zay) (env1:Env):Prop:=∀ t,env1.get t=if o.dst=some t then v else env.get t

section
variable {P:Program} {N:Nat} {ops:Array Oper}

theorem Yku {env env':Env} {d:Option Tmp} {v:Zay} {K K':Env→Prop} (hk:Zvh N env d v K)
  (hK:∀ env1 env1',(∀ t,env1.get t=if d=some t then v else env.get t)→(∀ t,env1'.get t=if d=some t then v else env'.get t)→K env1→K' env1'):Zvh N env' d v K':=by
 unfold Zvh at *
 cases d with
 | none=>exact hK env env' (by simp) (by simp) hk
 | some d=>
  refine Zdn hk fun hk=>hK _ _ ?_ ?_ hk
  ·intro t; rw [Env.get_set]; by_cases e:t=d <;> simp [e,eq_comm]; exact fun q=>absurd q.symm e
  ·intro t; rw [Env.get_set]; by_cases e:t=d <;> simp [e,eq_comm]; exact fun q=>absurd q.symm e

theorem Zsl {env env':Env} {o:Oper} (hl:∀ t∈o.looksAt ops,env.get t=env'.get t):∀ x∈o.op.operands,ev env x=ev env' x:=fun x hx=>by
 cases x with
 | tmp t=>exact hl t (List.mem_append_left _ (List.mem_filterMap.2 ⟨.tmp t,by simpa using hx,rfl⟩))
 | _=>rfl
theorem Zim {env:Env} {t:Nat} {v:Zay} (h:env.get t=v) (s:Nat):(env.set t v).get s=env.get s:=by
 rw [Env.get_set]; split
 ·rename_i e; subst e; exact h.symm
 ·rfl
theorem Yyf {env env':Env} {h h2:Zaa} {o:Oper} {K K':Env→Zaa→Prop} (hs:Zqh P N ops env h o K) (hl:∀ t∈o.looksAt ops,env.get t=env'.get t)
  (hop:∀ (e1 e2:Env),(∀ x∈o.op.operands,ev e1 x=ev e2 x)→(∀ t,e1.get t=env.get t)→∀ (A B:Zay→Zaa→Prop),opA P e1 h o A→(∀ v h',A v h'→B v h')→opA P e2 h2 o B)
  (hun:∀ e1 e2,Ykb e1 env→Ykb e2 env'→Zvh N e1 o.dst (.tup []) (fun x=>K x h)→Zvh N e2 o.dst (.tup []) (fun x=>K' x h2))
  (hK:∀ v h' env1 env1',Zyg o env v env1→Zyg o env' v env1'→K env1 h'→K' env1' h'):Zqh P N ops env' h2 o K':=by
 unfold Zqh at *
 cases hg:o.guard with
 | none=>
  simp only [hg] at hs ⊢
  exact hop env env' (Zsl hl) (fun _=>rfl) _ _ hs fun v h' hp=>Yku hp fun e1 e2 a b k=>hK v h' e1 e2 a b k
 | some g=>
  obtain ⟨j,want⟩:=g
  simp only [hg] at hs ⊢
  cases ht:(ops[j]?).bind (·.dst) with
  | none=>simp only [ht] at hs
  | some t=>
   simp only [ht] at hs ⊢
   have htl:env.get t=env'.get t:=hl t (List.mem_append_right _ (by simp [hg,ht]))
   rw [← htl]
   split at hs
   ·rename_i b hb
    have key:∀ c,b=c→(opA P (env.set t (.bool c)) h o (fun v h'=>Zvh N (env.set t (.bool c)) o.dst v fun env'=>K env' h')→opA P (env'.set t (.bool c)) h2 o (fun v h'=>Zvh N (env'.set t (.bool c)) o.dst v fun env'=>K' env' h')) ∧
      (Zvh N (env.set t (.bool c)) o.dst (.tup []) (fun env'=>K env' h)→Zvh N (env'.set t (.bool c)) o.dst (.tup []) (fun env'=>K' env' h2)):=by
     intro c e
     subst e
     have k1:=Zim hb
     have k2:=Zim (htl ▸ hb:env'.get t=.bool b)
     constructor
     ·intro ho
      refine hop _ _ (Zsl fun s hs=>by rw [k1,k2]; exact hl s hs) k1 _ _ ho fun v h' hp=>Yku hp fun e1 e2 a b k=>hK v h' e1 e2 ?_ ?_ k
      ·intro s; rw [a s,k1]
      ·intro s; rw [b s,k2]
     ·exact hun _ _ k1 k2
    cases b
    ·obtain ⟨k1,k2⟩:=key false rfl
     cases want
     ·exact k1 hs
     ·exact k2 hs
    ·obtain ⟨k1,k2⟩:=key true rfl
     cases want
     ·exact k2 hs
     ·exact k1 hs
   ·exact hun env env' (fun _=>rfl) (fun _=>rfl) hs
   ·exact hs.elim

theorem Ybq {env env':Env} {h:Zaa} {o:Oper} {K K':Env→Zaa→Prop} (hs:Zqh P N ops env h o K) (hl:∀ t∈o.looksAt ops,env.get t=env'.get t)
  (hK:∀ v h' env1 env1',Zyg o env v env1→Zyg o env' v env1'→K env1 h'→K' env1' h'):Zqh P N ops env' h o K':=
 Yyf hs hl (fun e1 e2 hx _ A B ha hm=>Yvv ((Ycs hx).1 ha) hm)
  (fun e1 e2 q1 q2 hp=>Yku hp fun f1 f2 a b k=>hK _ _ f1 f2 (fun t=>by rw [a t,q1 t]) (fun t=>by rw [b t,q2 t]) k) hK

def Yd (P:Program) (N:Nat) (ops:Array Oper) (o:Oper) (v:Zay) (env:Env) (h:Zaa):Prop:=
 ∀ K:Env→Zaa→Prop,(∀ env1,Zyg o env v env1→K env1 h)→Zqh P N ops env h o K

theorem Zxk {K:Env→Zaa→Prop} {hs hs':List Ydk} (hsub:∀ d∈hs,d∈hs'):∀ (f:Nat) {listed:Array Bool} {env env':Env} {h:Zaa},(∀ e e' h,Ykb e e'→K e h→K e' h)→Ykb env env' →
  Yuc P N ops K hs' f listed env h→Yuc P N ops K hs f listed env' h
 | 0,_,_,_,_,hK,he,hh=>⟨hh.1,hK _ _ _ he hh.2⟩
 | f + 1,listed,env,env',h,hK,he,hh=>by
  refine ⟨fun hr=>hK _ _ _ he (hh.1 hr),fun i hi=>?_⟩
  have:=hh.2 i hi
  unfold Zzq at *
  cases ho:ops[i]? with
  | none=>
   rw [ho] at this
   exact ⟨fun d hd=>this.1 d (hsub d hd),Zxk hsub f hK he this.2⟩
  | some o=>
   rw [ho] at this
   refine Ybq this (fun t _=>he t) fun v h' e1 e2 a b k=>⟨fun d hd=>k.1 d (hsub d hd),Zxk hsub f hK (fun t=>?_) k.2⟩
   rw [a t,b t,he t]

theorem Yeg {K:Env→Zaa→Prop} {hs hs':List Ydk} (hK:∀ e e' h,Ykb e e'→K e h→K e' h) (hsub:∀ d∈hs,d∈hs') {i:Nat} {oi:Oper} {v:Zay} (hi:ops[i]?=some oi) {T:Zaa→Zaa→Prop}
  (hT:∀ j h h1,Zui ops j i=false→(∀ d∈hs',Zui ops j d.i=true ∨ d.ok h h1)→T h h1)
  {Y:Env→Zaa→Prop} (hY:∀ env h,Y env h→Yd P N ops oi v env h)
  (hst:∀ env h env1 h1,Y env h→(∀ t∈oi.looksAt ops,env.get t=env1.get t)→T h h1→Y env1 h1) :
  ∀ (fuel:Nat) (listed:Array Bool) (env env1:Env) (h:Zaa),
   (∀ j oj,ops[j]?=some oj→j≠i→listed.getD j true=false→(∀ e∈oj.after,Region.binds .any e=true→e.on≠i)→oi.apart ops oj=true) →
   i∈Region.ready .any ops listed→Y env h→Zyg oi env v env1 →
   Yuc P N ops K hs' fuel (listed.setIfInBounds i true) env1 h→Yuc P N ops K hs (fuel + 1) listed env h:=by
 intro fuel
 have now:∀ (fuel:Nat) (listed:Array Bool) (env env1:Env) (h:Zaa),Y env h→Zyg oi env v env1→Yuc P N ops K hs' fuel (listed.setIfInBounds i true) env1 h →
   Zzq P N ops i env h fun env' h'=>(∀ d∈hs,Zui ops i d.i=true ∨ d.ok h h')∧Yuc P N ops K hs fuel (listed.setIfInBounds i true) env' h':=by
  intro fuel listed env env1 h hy ha H
  unfold Zzq
  rw [hi]
  exact hY _ _ hy _ fun env2 h2=>⟨fun d _=>.inr (d.ok_refl h),Zxk hsub fuel hK (fun t=>by rw [ha t,h2 t]) H⟩
 induction fuel with
 | zero=>
  intro listed env env1 h _ hr hy ha H
  refine ⟨fun e=>(by rw [e] at hr; cases hr),fun j hj=>?_⟩
  by_cases hji:j=i
  ·subst hji; exact now 0 listed env env1 h hy ha H
  ·have:=ready_mono hj hji
   rw [H.1] at this
   cases this
 | succ fuel ih=>
  intro listed env env1 h hfree hr hy ha H
  refine ⟨fun e=>(by rw [e] at hr; cases hr),fun j hj=>?_⟩
  by_cases hji:j=i
  ·subst hji; exact now (fuel + 1) listed env env1 h hy ha H
  ·have h1:=H.2 j (ready_mono hj hji)
   obtain ⟨hjun,oj,hoj,hall⟩:=mem_ready.1 hj
   have hnot:∀ e∈oj.after,Region.binds .any e=true→e.on≠i:=fun e he hb heq=>by
    have h1:=hall e he hb
    have h0:=(mem_ready.1 hr).1
    rw [heq] at h1
    rcases Nat.lt_or_ge i listed.size with h' | h'
    ·simp [h'] at h0 h1; rw [h0] at h1; cases h1
    ·simp [Array.getElem?_eq_none h'] at h1
   have hw:Zui ops j i=false:=by
    unfold Zui
    rw [hoj]
    simp only [Array.any_eq_false]
    intro q hq
    simp only [Bool.and_eq_true,beq_iff_eq,not_and]
    intro hb
    exact hnot _ (Array.getElem_mem hq) hb
   obtain ⟨a1,a2,a3⟩:=Oper.apart_spec (hfree j oj hoj hji hjun hnot)
   unfold Zzq at h1 ⊢
   rw [hoj] at h1 ⊢
   refine Ybq h1 (fun t ht=>?_) fun u h' e1 e2 q1 q2 k=>?_
   ·rw [ha t,if_neg (fun e=>a1 t e ht)]
   ·refine ⟨fun d hd=>k.1 d (hsub d hd),ih (listed.setIfInBounds j true) e2 e1 h' ?_ (ready_mono hr (Ne.symm hji)) ?_ ?_ ?_⟩
    ·intro k ok hk hki hun hno
     refine hfree k ok hk hki ?_ hno
     by_cases hjk:j=k
     ·subst hjk; exact hjun
     ·rw [getD_set_ne true hjk] at hun; exact hun
    ·refine hst env h e2 h' hy (fun t ht=>?_) (hT j h h' hw k.1)
     rw [q2 t,if_neg (fun e=>a3 t e ht)]
    ·intro t
     rw [q1 t,q2 t,ha t]
     by_cases x:oj.dst=some t <;> by_cases y:oi.dst=some t <;> simp [x,y]
     exact absurd x (a2 t y)
    ·rw [Array.setIfInBounds_comm _ _ hji]
     exact k.2
end
end Go.Sim

set_option linter.unusedSimpArgs false
namespace Go.Sim
open Go Go.RowKit

section
variable {P:Program} {N:Nat} {ops:Array Oper}

theorem Ysg {o:Oper} (hr:Yex P o.op=true) {env:Env} {h:Zaa} {K:Env→Zaa→Prop} (hs:Zqh P N ops env h o K) :
  ∃ v,(∃ env1,Zyg o env v env1∧K env1 h)∧∀ env' h',(∀ t∈o.looksAt ops,env.get t=env'.get t)→Yd P N ops o v env' h':=by
 have core:∀ (e:Env) (A:Zay→Zaa→Prop),opA P e h o A→∃ v,A v h∧∀ (e2:Env) (h2:Zaa) (B:Zay→Zaa→Prop),(∀ x∈o.op.operands,ev e x=ev e2 x)→B v h2→opA P e2 h2 o B:=by
  intro e A ha
  obtain ⟨v,hv,r⟩:=Ysk e o _ ((Ybg hr).1 ha)
  exact ⟨v,hv,fun e2 h2 B hx hb=>(Ycs hx).1 ((Ybg hr).2 (r (fun v=>B v h2) hb))⟩
 have put:∀ {e:Env} {v:Zay} {K:Env→Prop},Zvh N e o.dst v K→(∃ e1,(∀ t,e1.get t=if o.dst=some t then v else e.get t)∧K e1)∧∀ (e2:Env) (K2:Env→Prop),(∀ e3,(∀ t,e3.get t=if o.dst=some t then v else e2.get t)→K2 e3)→Zvh N e2 o.dst v K2:=by
  intro e v K hp
  unfold Zvh at *
  cases hd:o.dst with
  | none=>simp only [hd] at hp ⊢; exact ⟨⟨e,by simp,hp⟩,fun e2 K2 h=>h e2 (by simp)⟩
  | some d=>
   simp only [hd] at hp ⊢
   have hc:=Zcm hp
   refine ⟨⟨_,?_,hc.2⟩,fun e2 K2 h=>?_⟩
   ·intro t; rw [Env.get_set]; by_cases q:t=d
    ·subst q; simp
    ·rw [if_neg q,if_neg (by simp; exact fun x=>q x.symm)]
   ·unfold chk; rw [decide_eq_true hc.1]
    refine h _ fun t=>?_
    rw [Env.get_set]; by_cases q:t=d
    ·subst q; simp
    ·rw [if_neg q,if_neg (by simp; exact fun x=>q x.symm)]
 unfold Zqh at hs
 cases hg:o.guard with
 | none=>
  simp only [hg] at hs
  obtain ⟨v,hv,r⟩:=core env _ hs
  obtain ⟨⟨e1,h1,k1⟩,q⟩:=put hv
  refine ⟨v,⟨e1,h1,k1⟩,fun env' h' hl K hK=>?_⟩
  unfold Zqh
  simp only [hg]
  exact r env' h' _ (Zsl hl) (q env' _ fun e3 a=>hK e3 a)
 | some g=>
  obtain ⟨j,want⟩:=g
  simp only [hg] at hs
  cases ht:(ops[j]?).bind (·.dst) with
  | none=>simp only [ht] at hs
  | some t=>
   simp only [ht] at hs
   split at hs
   ·rename_i b hb
    have htl:∀ env':Env,(∀ t∈o.looksAt ops,env.get t=env'.get t)→env'.get t=.bool b:=fun env' hl=>by
     rw [← hl t (List.mem_append_right _ (by simp [hg,ht]))]; exact hb
    have go:∀ c,b=c→opA P (env.set t (.bool c)) h o (fun v h'=>Zvh N (env.set t (.bool c)) o.dst v fun env'=>K env' h')→want=c →
      ∃ v,(∃ env1,Zyg o env v env1∧K env1 h)∧∀ env' h',(∀ t∈o.looksAt ops,env.get t=env'.get t)→Yd P N ops o v env' h':=by
     intro c e ho hw
     subst e; subst hw
     obtain ⟨v,hv,r⟩:=core _ _ ho
     obtain ⟨⟨e1,h1,k1⟩,q⟩:=put hv
     refine ⟨v,⟨e1,fun s=>by rw [h1 s,Zim hb],k1⟩,fun env' h' hl K hK=>?_⟩
     have hb':=htl env' hl
     unfold Zqh
     simp only [hg,ht,hb']
     have body:opA P (env'.set t (.bool want)) h' o fun v h'_1=>Zvh N (env'.set t (.bool want)) o.dst v fun env'=>K env' h'_1:=
      r _ h' _ (Zsl fun s hs=>by rw [Zim hb,Zim hb']; exact hl s hs) (q _ _ fun e3 a=>hK e3 fun s=>by rw [a s,Zim hb'])
     cases want <;> exact body
    have skip:∀ c,b=c→Zvh N (env.set t (.bool c)) o.dst (.tup []) (fun env'=>K env' h)→want≠c →
      ∃ v,(∃ env1,Zyg o env v env1∧K env1 h)∧∀ env' h',(∀ t∈o.looksAt ops,env.get t=env'.get t)→Yd P N ops o v env' h':=by
     intro c e ho hw
     subst e
     obtain ⟨⟨e1,h1,k1⟩,q⟩:=put ho
     refine ⟨.tup [],⟨e1,fun s=>by rw [h1 s,Zim hb],k1⟩,fun env' h' hl K hK=>?_⟩
     have hb':=htl env' hl
     unfold Zqh
     simp only [hg,ht,hb']
     have body:Zvh N (env'.set t (.bool b)) o.dst (.tup []) fun env'=>K env' h':=q _ _ fun e3 a=>hK e3 fun s=>by rw [a s,Zim hb']
     cases b <;> cases want <;> first | exact body | exact absurd rfl hw
    cases b
    ·cases want
     ·exact go false rfl hs rfl
     ·exact skip false rfl hs (by simp)
    ·cases want
     ·exact skip true rfl hs (by simp)
     ·exact go true rfl hs rfl
   ·rename_i hb
    obtain ⟨⟨e1,h1,k1⟩,q⟩:=put hs
    refine ⟨.tup [],⟨e1,h1,k1⟩,fun env' h' hl K hK=>?_⟩
    have hb':env'.get t=.tup []:=by rw [← hl t (List.mem_append_right _ (by simp [hg,ht]))]; exact hb
    unfold Zqh
    simp only [hg,ht,hb']
    exact q _ _ fun e3 a=>hK e3 a
   ·exact hs.elim

theorem Yow {t:TypeId} {h h':Zaa} {p:Zay} {k:Zay→Prop} (hc:(match isAgg P t with | true=>Zbe h' p (P.cellsOf t)=Zbe h p (P.cellsOf t) | false=>Zag h' p=Zag h p)) (hk:Zzo P t h p k):Zzo P t h' p k:=by
 unfold Zzo at *
 cases ha:isAgg P t with
 | true=>simp only [ha] at hc hk ⊢; rw [hc]; exact hk
 | false=>simp only [ha] at hc hk ⊢; rw [hc]; exact hk

theorem Ytl {i:Nat} {o:Oper} (hi:ops[i]?=some o) (hr:Ywj o.op=true) {env:Env} {h:Zaa} {K:Env→Zaa→Prop} (hs:Zqh P N ops env h o K) :
  ∃ v,(∃ env1,Zyg o env v env1∧K env1 h)∧∀ env' h',(∀ t∈o.looksAt ops,env.get t=env'.get t)→(Ztc P ops i env).ok h h'→Yd P N ops o v env' h':=by
 obtain ⟨t,a,hop⟩:∃ t a,o.op=.load t a:=by
  cases hq:o.op <;> simp [hq,Ywj] at hr
  exact ⟨_,_,rfl⟩
 have hold:∀ h',(Ztc P ops i env).ok h h'→(match isAgg P t with | true=>Zbe h' (ev env a) (P.cellsOf t)=Zbe h (ev env a) (P.cellsOf t) | false=>Zag h' (ev env a)=Zag h (ev env a)):=by
  intro h' hh
  unfold Ztc Ydk.ok at hh
  rw [hi] at hh
  simp only [hop] at hh
  cases ha:isAgg P t <;> simp only [ha] at hh ⊢ <;> exact hh
 have core:∀ (e:Env) (A:Zay→Zaa→Prop),(∀ x∈o.op.operands,ev env x=ev e x)→opA P e h o A→∃ v,A v h∧∀ (e2:Env) (h2:Zaa) (B:Zay→Zaa→Prop),(∀ x∈o.op.operands,ev e x=ev e2 x)→(Ztc P ops i env).ok h h2→B v h2→opA P e2 h2 o B:=by
  intro e A hx0 ha
  have hxa:ev env a=ev e a:=hx0 a (by simp [hop,Op.operands])
  unfold opA at ha
  simp only [hop] at ha
  have hc:=Zcm ha
  obtain ⟨v,hv,r⟩:=Yqg t h (ev e a) _ hc.2
  refine ⟨v,hv,fun e2 h2 B hx hh hb=>(Ycs hx).1 ?_⟩
  unfold opA
  simp only [hop]
  unfold chk; rw [decide_eq_true hc.1]
  have:=hold h2 hh
  rw [hxa] at this
  exact Yow this (r (fun v=>B v h2) hb)
 have put:∀ {e:Env} {v:Zay} {K:Env→Prop},Zvh N e o.dst v K→(∃ e1,(∀ t,e1.get t=if o.dst=some t then v else e.get t)∧K e1)∧∀ (e2:Env) (K2:Env→Prop),(∀ e3,(∀ t,e3.get t=if o.dst=some t then v else e2.get t)→K2 e3)→Zvh N e2 o.dst v K2:=by
  intro e v K hp
  unfold Zvh at *
  cases hd:o.dst with
  | none=>simp only [hd] at hp ⊢; exact ⟨⟨e,by simp,hp⟩,fun e2 K2 h=>h e2 (by simp)⟩
  | some d=>
   simp only [hd] at hp ⊢
   have hc:=Zcm hp
   refine ⟨⟨_,?_,hc.2⟩,fun e2 K2 h=>?_⟩
   ·intro t; rw [Env.get_set]; by_cases q:t=d
    ·subst q; simp
    ·rw [if_neg q,if_neg (by simp; exact fun x=>q x.symm)]
   ·unfold chk; rw [decide_eq_true hc.1]
    refine h _ fun t=>?_
    rw [Env.get_set]; by_cases q:t=d
    ·subst q; simp
    ·rw [if_neg q,if_neg (by simp; exact fun x=>q x.symm)]
 unfold Zqh at hs
 cases hg:o.guard with
 | none=>
  simp only [hg] at hs
  obtain ⟨v,hv,r⟩:=core env _ (fun _ _=>rfl) hs
  obtain ⟨⟨e1,h1,k1⟩,q⟩:=put hv
  refine ⟨v,⟨e1,h1,k1⟩,fun env' h' hl hh K hK=>?_⟩
  unfold Zqh
  simp only [hg]
  exact r env' h' _ (Zsl hl) hh (q env' _ fun e3 a=>hK e3 a)
 | some g=>
  obtain ⟨j,want⟩:=g
  simp only [hg] at hs
  cases ht:(ops[j]?).bind (·.dst) with
  | none=>simp only [ht] at hs
  | some t=>
   simp only [ht] at hs
   split at hs
   ·rename_i b hb
    have htl:∀ env':Env,(∀ t∈o.looksAt ops,env.get t=env'.get t)→env'.get t=.bool b:=fun env' hl=>by
     rw [← hl t (List.mem_append_right _ (by simp [hg,ht]))]; exact hb
    have go:∀ c,b=c→opA P (env.set t (.bool c)) h o (fun v h'=>Zvh N (env.set t (.bool c)) o.dst v fun env'=>K env' h')→want=c →
      ∃ v,(∃ env1,Zyg o env v env1∧K env1 h)∧∀ env' h',(∀ t∈o.looksAt ops,env.get t=env'.get t)→(Ztc P ops i env).ok h h'→Yd P N ops o v env' h':=by
     intro c e ho hw
     subst e; subst hw
     obtain ⟨v,hv,r⟩:=core _ _ (Zsl (ops:=ops) fun s _=>by rw [Zim hb]) ho
     obtain ⟨⟨e1,h1,k1⟩,q⟩:=put hv
     refine ⟨v,⟨e1,fun s=>by rw [h1 s,Zim hb],k1⟩,fun env' h' hl hh K hK=>?_⟩
     have hb':=htl env' hl
     unfold Zqh
     simp only [hg,ht,hb']
     have body:opA P (env'.set t (.bool want)) h' o fun v h'_1=>Zvh N (env'.set t (.bool want)) o.dst v fun env'=>K env' h'_1:=
      r _ h' _ (Zsl fun s hs=>by rw [Zim hb,Zim hb']; exact hl s hs) hh (q _ _ fun e3 a=>hK e3 fun s=>by rw [a s,Zim hb'])
     cases want <;> exact body
    have skip:∀ c,b=c→Zvh N (env.set t (.bool c)) o.dst (.tup []) (fun env'=>K env' h)→want≠c →
      ∃ v,(∃ env1,Zyg o env v env1∧K env1 h)∧∀ env' h',(∀ t∈o.looksAt ops,env.get t=env'.get t)→(Ztc P ops i env).ok h h'→Yd P N ops o v env' h':=by
     intro c e ho hw
     subst e
     obtain ⟨⟨e1,h1,k1⟩,q⟩:=put ho
     refine ⟨.tup [],⟨e1,fun s=>by rw [h1 s,Zim hb],k1⟩,fun env' h' hl _ K hK=>?_⟩
     have hb':=htl env' hl
     unfold Zqh
     simp only [hg,ht,hb']
     have body:Zvh N (env'.set t (.bool b)) o.dst (.tup []) fun env'=>K env' h':=q _ _ fun e3 a=>hK e3 fun s=>by rw [a s,Zim hb']
     cases b <;> cases want <;> first | exact body | exact absurd rfl hw
    cases b
    ·cases want
     ·exact go false rfl hs rfl
     ·exact skip false rfl hs (by simp)
    ·cases want
     ·exact skip true rfl hs (by simp)
     ·exact go true rfl hs rfl
   ·rename_i hb
    obtain ⟨⟨e1,h1,k1⟩,q⟩:=put hs
    refine ⟨.tup [],⟨e1,h1,k1⟩,fun env' h' hl _ K hK=>?_⟩
    have hb':env'.get t=.tup []:=by rw [← hl t (List.mem_append_right _ (by simp [hg,ht]))]; exact hb
    unfold Zqh
    simp only [hg,ht,hb']
    exact q _ _ fun e3 a=>hK e3 a
   ·exact hs.elim

theorem Ywd {env env':Env} (h:Ykb env env') (ks:List Nat):env.keep ks=env'.keep ks:=List.map_congr_left fun t _=>by rw [h t]
theorem Ydk.ok_trans {d:Ydk} {a b c:Zaa} (h:d.ok a b) (k:d.ok b c):d.ok a c:=by
 unfold Ydk.ok at *; split at h <;> simp_all

theorem Zwi {ks:List Nat} {K:Env→Zaa→Prop}:∀ (f:Nat) (listed:Array Bool) (hs:List Ydk) (env:Env) (h:Zaa),Yjn P N ops ks K f listed hs env h →
  Yuc P N ops (fun env h=>K (env.keep ks) h) hs f listed env h
 | 0,listed,hs,env,h,hd=>by
  unfold Yjn at hd
  split at hd
  ·rename_i hr; exact ⟨hr,hd⟩
  ·exact hd.elim
 | f + 1,listed,hs,env,h,hd=>by
  have hK:∀ e e' h,Ykb e e'→K (e.keep ks) h→K (e'.keep ks) h:=fun e e' h he hk=>by rw [← Ywd he]; exact hk
  unfold Yjn at hd
  split at hd
  ·rename_i hr; exact ⟨fun _=>hd,by rw [hr]; simp⟩
  ·rename_i hne
   split at hd
   ·rename_i i hi
    have hmem:=List.mem_of_find?_eq_some hi
    have hp:=List.find?_some hi
    simp only [Bool.and_eq_true] at hp
    obtain ⟨hp1,hp2⟩:=hp
    unfold Xaa at hp1
    split at hp1
    ·rename_i o ho
     unfold Zzq at hd
     rw [ho] at hd
     obtain ⟨v,⟨env1,ha,hk⟩,hy⟩:=Ysg hp1 hd
     exact Yeg (T:=fun _ _=>True) (Y:=fun e _=>∀ t∈o.looksAt ops,env.get t=e.get t) hK (hs':=hs) (fun d hd=>hd) ho (fun _ _ _ _ _=>trivial) (fun e h' he=>hy e h' he)
      (fun e1 _ e2 _ y hl _ t ht=>(y t ht).trans (hl t ht)) f listed env env1 h (Region.free_spec ho hp2) hmem (fun _ _=>rfl) ha (Zwi f _ _ _ _ hk)
    ·cases hp1
   ·split at hd
    ·rename_i i hi
     have hi':(Region.ready .any ops listed).find? (fun i=>Xaa ops Ywj i && Region.free .any ops listed i)=some i:=by
      split at hi
      ·cases hi
      ·exact hi
     have hmem:=List.mem_of_find?_eq_some hi'
     have hp:=List.find?_some hi'
     simp only [Bool.and_eq_true] at hp
     obtain ⟨hp1,hp2⟩:=hp
     unfold Xaa at hp1
     split at hp1
     ·rename_i o ho
      unfold Zzq at hd
      rw [ho] at hd
      obtain ⟨v,⟨env1,ha,hk⟩,hy⟩:=Ytl ho hp1 hd
      have hid:(Ztc P ops i env).i=i:=by unfold Ztc; split <;> (try split) <;> (try split) <;> rfl
      exact Yeg (T:=fun a b=>(Ztc P ops i env).ok a b) (Y:=fun e h'=>(∀ t∈o.looksAt ops,env.get t=e.get t)∧(Ztc P ops i env).ok h h') hK (hs':=Ztc P ops i env :: hs) (fun d hd=>List.mem_cons_of_mem _ hd) ho
       (fun j a b hw hall=>by
        have:=hall _ (List.mem_cons_self ..)
        rw [hid,hw] at this
        exact this.resolve_left (by simp)) (fun e h' he=>hy e h' he.1 he.2)
       (fun e1 _ e2 _ y hl ht=>⟨fun t htt=>(y.1 t htt).trans (hl t htt),Ydk.ok_trans y.2 ht⟩) f listed env env1 h (Region.free_spec ho hp2) hmem ⟨fun _ _=>rfl,Ydk.ok_refl _ _⟩ ha (Zwi f _ _ _ _ hk)
     ·cases hp1
    ·refine ⟨fun hr=>absurd hr hne,fun i hi=>?_⟩
     have:=Ygw hd i hi
     unfold Zzq at this ⊢
     cases ho:ops[i]? with
     | none=>
      rw [ho] at this
      obtain ⟨a,b⟩:=Zsr this
      exact ⟨a,Zwi f _ _ _ _ b⟩
     | some o=>
      rw [ho] at this
      refine Ybq this (fun _ _=>rfl) fun v h' e1 e2 q1 q2 k=>?_
      obtain ⟨a,b⟩:=Zsr k
      exact ⟨a,Zxk (fun d hd=>hd) f hK (fun t=>by rw [q1 t,q2 t]) (Zwi f _ _ _ _ b)⟩
end
end Go.Sim
