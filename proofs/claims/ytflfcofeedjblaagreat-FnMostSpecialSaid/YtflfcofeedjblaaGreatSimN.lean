/- A part of the proof of a statement of this seat: see the text that holds the theorem. No condition. -/
import Derived.Test.YtflfcofeedjblaaGreatSimIc
import Derived.Orders
set_option linter.unusedVariables false
set_option linter.unusedSimpArgs false
set_option linter.all false
set_option linter.unusedSimpArgs false
namespace Go.Sim
open Go Go.RowKit

structure Zah (P:Program) (n:FuncId) (args:List Zau) (h:Zaa) (Q:Zau→Zaa→Prop):Prop where
 able : ∃ fn, P.funcs[n]? = some fn ∧ fn.body.isSome = true ∧ (fn.name == "runtime.NumGoroutine") = false
 calls:∀ (base:Nat) (w0:World) (μ:List Pl) (w:World) (xs:Array Value),Rel P base w0 μ h w→VRs μ args xs.toList →
  Calls P n xs w fun e w'=>∃ x μ' v h',e=.returned x∧Ext μ μ'∧Rel P base w0 μ' h' w'∧VR μ' v x∧Q v h'
theorem Zah.mono {P:Program} {n:FuncId} {args:List Zau} {h:Zaa} {Q Q':Zau→Zaa→Prop} (hc:Zah P n args h Q) (hq:∀ v h',Q v h'→Q' v h'):Zah P n args h Q':=
 ⟨hc.1,fun base w0 μ w xs r hx=>(hc.2 base w0 μ w xs r hx).mono fun _ _ ⟨x,μ',v,h',a,b,c,d,q⟩=>⟨x,μ',v,h',a,b,c,d,hq _ _ q⟩⟩

def rts (P:Program) (f:FuncId):List TypeId:=match P.funcs[f]? with | some fn=>fn.resultTypes.toList | none=>[]
def Ysv (P:Program) (f:FuncId) (args:List Zau) (h:Zaa) (K:Zau→Zaa→Prop):Prop:=Zah P f args h fun v h'=>Yri P (rts P f) v fun v=>K v h'
def Yus (v:Zau) (K:FuncId→List Zau→Prop):Prop:=match v with | .fn g caps=>K g caps | _=>False
def Yvh (P:Program) (t:TypeId):List TypeId:=match P.underlying t with | some (.tuple ts)=>ts.toList | _=>[t]
def Yur (P:Program) (t:TypeId) (v:Zau) (args:List Zau) (h:Zaa) (K:Zau→Zaa→Prop):Prop:=Yus v fun g caps=>Zah P g (args ++ caps) h fun v h'=>Yri P (Yvh P t) v fun v=>K v h'
def Ymq (P:Program) (env:Env) (h:Zaa) (o:Oper) (c:Call) (K:Zau→Zaa→Prop):Prop:=
 match c.callee with
 | .value f=>(match f with
  | .func g=>Ysv P g (c.args.toList.map (ev env) ++ []) h K
  | f=>Yur P o.type (ev env f) (c.args.toList.map (ev env)) h K)
 | .builtin .append=>(match c.argTypes.toList with
  | [t,u]=>chk (u=t) (match c.args.toList.map (ev env) with | [s,x]=>Zcz P t h s x fun v h'=>xv .slice (some v) fun v=>K v h' | _=>False)
  | _=>False)
 | .builtin .min=>(match c.args.toList.map (ev env) with | [x,y]=>Ysl x y fun v=>K v h | _=>False)
 | .builtin .clear=>(match c.argTypes.toList with
  | [t]=>(match c.args.toList.map (ev env) with | [x]=>Yha P t h x K | _=>False)
  | _=>False)
 | _=>Zun P env o fun v=>K v h
def opA (P:Program) (env:Env) (h:Zaa) (o:Oper) (K:Zau→Zaa→Prop):Prop:=
 match o.op with
 | .load t a=>chk ((P.underlying t).isSome=true) (Zwu P t h (ev env a) fun v=>K v h)
 | .store t a x=>chk ((P.underlying t).isSome=true) (Yaf P t h (ev env a) (ev env x) fun h'=>K .undef h')
 | .alloc t=>Yqw P t h K
 | .box t x=>Yux t h (ev env x) K
 | .build t ps=>Ylp P t (parts env ps) fun v=>K v h
 | .buildSlice t n ps=>Zqg P t n (parts env ps) h K
 | .call c=>Ymq P env h o c K
 | .makeSlice t l c=>Znj P t (ev env l) (ev env c) h K
 | .makeMap t r=>Zst P t (r.map (ev env)) h K
 | .lookup t x i ok=>Zvi P t h (ev env x) (ev env i) ok fun v=>K v h
 | .mapUpdate t m k v=>Znm P t h (ev env m) (ev env k) (ev env v) K
 | .range t x=>Yaq P t (ev env x) h K
 | .next x st=>Yin P o.type (ev env x) st h K
 | .entry x=>Yae P o.type (ev env x) h fun v=>K v h
 | .convert s d x=>(match Ykd P s with | true=>Ysj P s d h (ev env x) fun v=>K v h | false=>Zun P env o fun v=>K v h)
 | _=>Zun P env o fun v=>K v h
def Ztd (N:Nat) (env:Env) (d:Option Tmp) (v:Zau) (K:Env→Prop):Prop:=match d with | none=>K env | some d=>chk (d < N) (K (env.set d v))
def Zoj (P:Program) (N:Nat) (ops:Array Oper) (env:Env) (h:Zaa) (o:Oper) (K:Env→Zaa→Prop):Prop:=
 match o.guard with
 | none=>opA P env h o fun v h'=>Ztd N env o.dst v fun env'=>K env' h'
 | some (j,want)=>(match (ops[j]?).bind (·.dst) with
  | some t=>(match env.get t with
   | .bool b=>bcase b
     (match want with | true=>opA P (env.set t (.bool true)) h o fun v h'=>Ztd N (env.set t (.bool true)) o.dst v fun env'=>K env' h' | false=>Ztd N (env.set t (.bool true)) o.dst (.tup []) fun env'=>K env' h)
     (match want with | false=>opA P (env.set t (.bool false)) h o fun v h'=>Ztd N (env.set t (.bool false)) o.dst v fun env'=>K env' h' | true=>Ztd N (env.set t (.bool false)) o.dst (.tup []) fun env'=>K env' h)
   | .tup []=>Ztd N env o.dst (.tup []) fun env'=>K env' h
   | _=>False)
  | none=>False)
def Yuj (P:Program) (N:Nat) (ops:Array Oper):List Oper→Env→Zaa→(Env→Zaa→Prop)→Prop
 | [],env,h,K=>K env h
 | o :: r,env,h,K=>Zoj P N ops env h o fun env' h'=>Yuj P N ops r env' h' K

section
variable {P:Program} {base N:Nat} {w0:World} {μ:List Pl} {h:Zaa} {w:World}

structure St (P:Program) (base N:Nat) (w0:World) (μ:List Pl) (env:Env) (h:Zaa) (a:Act) (w:World):Prop where
 rel:Rel P base w0 μ h w
 env:Zoo μ env a.tmps
 size:a.tmps.size=N
 defers:a.defers=[]

def Yoz (P:Program) (base N:Nat) (w0:World) (μ:List Pl) (K:Env→Zaa→Prop) (a:Act) (w:World):Prop:=
 ∃ μ' env h,Ext μ μ'∧St P base N w0 μ' env h a w∧K env h

theorem St.put {env:Env} {a:Act} (s:St P base N w0 μ env h a w) {μ':List Pl} {h':Zaa} {w':World} (he:Ext μ μ') (hr:Rel P base w0 μ' h' w') {v:Zau} {x:Value} (hv:VR μ' v x) {d:Option Tmp} {K:Env→Prop} (hk:Ztd N env d v K) :
  ∃ env',St P base N w0 μ' env' h' (a.put d x) w'∧K env':=by
 unfold Ztd at hk
 cases d with
 | none=>exact ⟨env,⟨hr,s.env.ext he,s.size,s.defers⟩,hk⟩
 | some d=>
  replace hk:=Zcc hk
  obtain ⟨hd,hk⟩:=hk
  refine ⟨_,⟨hr,(s.env.ext he).set (by rw [s.size]; exact hd) hv,?_,s.defers⟩,hk⟩
  simp [Act.put,s.size]

theorem St.know {env:Env} {a:Act} (s:St P base N w0 μ env h a w) {t:Nat} {v:Zau} (hv:VR μ v (a.tmps.getD t undef)):St P base N w0 μ (env.set t v) h a w:=
 ⟨s.rel,s.env.know hv,s.size,s.defers⟩

theorem Res.wp {o:Oper} {a:Act} {K:Zau→Zaa→Prop} {next:Act→World→Prop} {Q:Exit→Act→World→Prop} {s:Sem Value}
  (hr:Res P base w0 μ (s.run P w) K) (he:(execOp a.eval o).run P w=(s.run P w).andThen fun x w'=>.ok (.value x) w')
  (hn:∀ x w' μ' v h',Ext μ μ'→Rel P base w0 μ' h' w'→VR μ' v x→K v h'→next (a.put o.dst x) w'):o.wp P a w next Q:=by
 obtain ⟨x,w',μ',v,h',hrun,hx,hrel,hv,hk⟩:=hr
 unfold Oper.wp
 rw [he,hrun]
 exact hn x w' μ' v h' hx hrel hv hk

theorem Yrw {env:Env} {a:Act} (s:St P base N w0 μ env h a w) {f:FuncId} {args:List Zau} {xs:Array Value} (hxs:VRs μ args xs.toList) {K:Zau→Zaa→Prop} (hk:Zah P f args h K)
  {o:Oper} (he:(execOp a.eval o).run P w=(callFunc f xs).run P w) {next:Act→World→Prop} {Q:Exit→Act→World→Prop}
  (hn:∀ x w' μ' v h',Ext μ μ'→Rel P base w0 μ' h' w'→VR μ' v x→K v h'→next (a.put o.dst x) w'):o.wp P a w next Q:=by
 obtain ⟨⟨fn,hf,hb,hname⟩,hc⟩:=hk
 have hcall:(callFunc f xs).run P w=.ok (.enter f xs) w:=by
  obtain ⟨c,hc⟩:=Option.isSome_iff_exists.1 hb
  have hname' : fn.name ≠ "runtime.NumGoroutine" := by simpa using hname
  simp [callFunc,hf,hc,hname']
 unfold Oper.wp
 rw [he,hcall]
 refine (hc base w0 μ w xs s.rel hxs).mono ?_
 rintro e w' ⟨x,μ',v,h',rfl,hx,hr,hv,hq⟩
 exact hn x w' μ' v h' hx hr hv hq

theorem VRs.single {v:Zau} {xs:Array Value} (h:VRs μ [v] xs.toList):∃ x,xs=#[x]∧VR μ v x:=by
 obtain ⟨l⟩:=xs
 match l,h with
 | [x],.cons a .nil=>exact ⟨x,rfl,a⟩
theorem Ysg {env:Env} {a:Act} (s:St P base N w0 μ env h a w) {o:Oper} {K:Zau→Zaa→Prop} (hk:opA P env h o K) {next:Act→World→Prop} {Q:Exit→Act→World→Prop}
  (hn:∀ x w' μ' v h',Ext μ μ'→Rel P base w0 μ' h' w'→VR μ' v x→K v h'→next (a.put o.dst x) w'):o.wp P a w next Q:=by
 have hρ:=Ysu s.env
 have pure:Zun P env o (fun v=>K v h)→o.wp P a w next Q:=fun hk=>by
  obtain ⟨x,v,hr,hv,hk⟩:=Yse hρ hk
  unfold Oper.wp
  rw [hr w]
  exact hn x w μ v h (Ext.refl _) s.rel hv hk
 unfold opA at hk
 split at hk
 ·rename_i t p he
  replace hk:=Zcc hk
  obtain ⟨hu,hk⟩:=hk
  obtain ⟨y,v,hr,hv,hk⟩:=Ynb s.rel (hρ p) hu hk
  unfold Oper.wp
  simp only [execOp,he,Sem.run_bind,hr,Result.andThen_ok,Sem.run_pure]
  exact hn y w μ v h (Ext.refl _) s.rel hv hk
 ·rename_i t p x he
  replace hk:=Zcc hk
  obtain ⟨hu,hk⟩:=hk
  obtain ⟨w',h',hr,hrel,hk⟩:=Yom s.rel (hρ p) (hρ x) hu hk
  unfold Oper.wp
  simp only [execOp,he,Sem.run_bind,hr,Result.andThen_ok,Sem.run_pure]
  exact hn undef w' μ .undef h' (Ext.refl _) hrel (.undef _) hk
 ·rename_i t he
  exact Res.wp (Ypw s.rel hk) (by simp [execOp,he]) hn
 ·rename_i t x he
  exact Res.wp (Yth s.rel (hρ x) hk) (by simp [execOp,he]) hn
 ·rename_i t ps he
  obtain ⟨h1,h2⟩:=Yib hρ ps
  obtain ⟨x,v,hr,hv,hk⟩:=Yps h1 h2 hk
  unfold Oper.wp
  simp only [execOp,he,Sem.run_bind,hr w,Result.andThen_ok,Sem.run_pure]
  exact hn x w μ v h (Ext.refl _) s.rel hv hk
 ·rename_i t n ps he
  obtain ⟨h1,h2⟩:=Yib hρ ps
  exact Res.wp (Ybq s.rel h1 h2 hk) (by simp [execOp,he]) hn
 ·rename_i c he
  unfold Ymq at hk
  split at hk
  ·rename_i f hcal
   have go:∀ (f:Operand),c.callee=.value f→∀ (g:FuncId) (caps:List Zau),ev env f=.fn g caps→Zah P g (c.args.toList.map (ev env) ++ caps) h K→o.wp P a w next Q:=by
    intro f hcal g caps hev hk
    have hf:=hρ f
    rw [hev] at hf
    cases hfv:a.eval f with
    | func fn first cap=>
     rw [hfv] at hf
     cases hf with
     | fn hcaps=>
     refine Yrw s (xs:=c.args.map a.eval ++ cap) (by rw [Array.toList_append]; exact (Zvj hρ c.args).append hcaps) hk ?_ hn
     simp [execOp,he,resolve,hcal,hfv,Deferred.ofValue,invoke]
    | _=>rw [hfv] at hf; cases hf
   split at hk
   ·rename_i g
    exact go _ hcal g [] rfl (Zah.mono hk fun _ _ hq=>Ydw (K:=fun v=>K v _) hq)
   ·unfold Yur Yus at hk
    split at hk
    ·rename_i g caps hev
     exact go _ hcal g caps hev (Zah.mono hk fun _ _ hq=>Ydw (K:=fun v=>K v _) hq)
    ·exact hk.elim
  ·rename_i hcal
   split at hk
   ·rename_i t u hts
    replace hk:=Zcc hk
    obtain ⟨rfl,hk⟩:=hk
    split at hk
    ·rename_i sv xv hargs
     have hvs:=Zvj hρ c.args
     rw [hargs] at hvs
     obtain ⟨x,y,hxy,h1,h2⟩:=hvs.two
     refine Res.wp (Ymz (ty:=o.type) s.rel h1 h2 hk) ?_ fun x w' μ' v h' hx hr hv hk=>(by obtain ⟨v2,hv2,hk⟩:=Znv hk; cases hv2; exact hn x w' μ' v h' hx hr hv hk)
     have hat:c.argTypes=#[u,u]:=by
      apply Array.ext'; simpa using hts
     simp [execOp,he,resolve,hcal,invoke,builtin,hxy,hat]
    ·exact hk.elim
   ·exact hk.elim
  ·rename_i hcal
   split at hk
   ·rename_i a b hargs
    have hvs:=Zvj hρ c.args
    rw [hargs] at hvs
    obtain ⟨x,y,hxy,h1,h2⟩:=hvs.two
    obtain ⟨v,z,hr,hv,hk⟩:=Ytp (ts:=c.argTypes) (t:=o.type) h1 h2 hk
    exact Res.wp (s:=Builtin.min_ c.argTypes o.type #[x,y]) ⟨z,w,μ,v,h,hr w,Ext.refl _,s.rel,hv,hk⟩ (by simp [execOp,he,resolve,hcal,invoke,builtin,hxy]) hn
   ·exact hk.elim
  ·rename_i hcal
   split at hk
   ·rename_i t hts
    split at hk
    ·rename_i x1 hargs
     have hvs:=Zvj hρ c.args
     rw [hargs] at hvs
     obtain ⟨x,hxy,h1⟩:=hvs.single
     refine Res.wp (Ypr (ty:=o.type) s.rel h1 hk) ?_ hn
     have hat:c.argTypes=#[t]:=by
      apply Array.ext'; simpa using hts
     simp [execOp,he,resolve,hcal,invoke,builtin,hxy,hat]
    ·exact hk.elim
   ·exact hk.elim
  ·exact pure hk
 ·rename_i t l c he
  exact Res.wp (Ycu s.rel (hρ l) (hρ c) hk) (by simp [execOp,he]) hn
 ·rename_i t m he
  refine Res.wp (Yjq (x:=m.map a.eval) s.rel ?_ hk) (by simp [execOp,he]) hn
  cases m with
  | none=>exact .inl ⟨rfl,rfl⟩
  | some m=>exact .inr ⟨_,_,rfl,rfl,hρ m⟩
 ·rename_i t x i ok he
  obtain ⟨z,v,hr,hv,hk⟩:=Ymy s.rel (hρ x) (hρ i) hk
  exact Res.wp (s:=Instr.lookup t (a.eval x) (a.eval i) ok) ⟨z,w,μ,v,h,hr,Ext.refl _,s.rel,hv,hk⟩ (by simp [execOp,he]) hn
 ·rename_i t m k x he
  obtain ⟨w',h',hr,hrel,hk⟩:=Yej s.rel (hρ m) (hρ k) (hρ x) hk
  unfold Oper.wp
  simp only [execOp,he,Sem.run_bind,hr,Result.andThen_ok,Sem.run_pure]
  exact hn undef w' μ .undef h' (Ext.refl _) hrel (.undef _) hk
 ·rename_i t x he
  exact Res.wp (Yoo s.rel (hρ x) hk) (by simp [execOp,he]) hn
 ·rename_i x st he
  exact Res.wp (Ylq (ty:=o.type) s.rel (hρ x) hk) (by simp [execOp,he]) hn
 ·rename_i x he
  obtain ⟨z,v,hr,hv,hk⟩:=Yqc s.rel (hρ x) hk
  exact Res.wp (s:=Instr.entry (a.eval x)) ⟨z,w,μ,v,h,hr,Ext.refl _,s.rel,hv,hk⟩ (by simp [execOp,he]) hn
 ·rename_i a b x he
  split at hk
  ·exact Res.wp (Yrk s.rel (hρ x) hk) (by simp [execOp,he]) hn
  ·exact pure hk
 ·exact pure hk

theorem Ynt {tmps:Array Value} {t:Nat} {b:Bool} (h:VR μ (.bool b) (tmps.getD t undef)):tmps[t]?=some (.bool b):=by
 simp only [Array.getD_eq_getD_getElem?] at h
 cases hx:tmps[t]? with
 | none=>rw [hx] at h; simp [undef] at h; cases h
 | some x=>rw [hx] at h; simp at h; cases h; rfl

theorem Yle {ops:Array Oper} {env:Env} {a:Act} (s:St P base N w0 μ env h a w) {o:Oper} {K:Env→Zaa→Prop} (hk:Zoj P N ops env h o K) {next:Act→World→Prop} {Q:Exit→Act→World→Prop}
  (hn:∀ a w,Yoz P base N w0 μ K a w→next a w):if Region.wanted o (yielded ops a.tmps) then o.wp P a w next Q else next (a.put o.dst undef) w:=by
 have fin:∀ {env:Env} {v:Zau} {x:Value} {μ':List Pl} {h':Zaa} {w':World},St P base N w0 μ env h a w→Ext μ μ'→Rel P base w0 μ' h' w'→VR μ' v x→Ztd N env o.dst v (fun env'=>K env' h')→next (a.put o.dst x) w':=by
  intro env v x μ' h' w' s hx hr hv hk
  obtain ⟨env',s',hk⟩:=s.put hx hr hv hk
  exact hn _ _ ⟨μ',env',h',hx,s',hk⟩
 unfold Zoj at hk
 split at hk
 ·rename_i hg
  have:Region.wanted o (yielded ops a.tmps)=true:=by simp [Region.wanted,hg]
  rw [if_pos this]
  exact Ysg s hk fun x w' μ' v h' hx hr hv hk=>fin s hx hr hv hk
 ·rename_i j want hg
  split at hk
  ·rename_i t ht
   split at hk
   ·rename_i b hb
    have henv:=s.env t
    rw [hb] at henv
    have hy:yielded ops a.tmps j=some b:=by
     unfold yielded
     rw [ht]; simp only [Option.bind_some,Ynt henv]
    have hwant:Region.wanted o (yielded ops a.tmps)=(b == want):=by simp [Region.wanted,hg,hy]
    rw [hwant]
    have hknow:∀ c,b=c→St P base N w0 μ (env.set t (.bool c)) h a w:=fun c e=>by subst e; exact s.know henv
    refine Yjd hk ?_ ?_
    ·rintro rfl hk
     have s':=hknow true rfl
     cases want with
     | true=>exact Ysg s' hk fun x w' μ' v h' hx hr hv hk=>fin s' hx hr hv hk
     | false=>exact fin s' (Ext.refl _) s.rel (.tup .nil) hk
    ·rintro rfl hk
     have s':=hknow false rfl
     cases want with
     | false=>exact Ysg s' hk fun x w' μ' v h' hx hr hv hk=>fin s' hx hr hv hk
     | true=>exact fin s' (Ext.refl _) s.rel (.tup .nil) hk
   ·rename_i hb
    have henv:=s.env t
    rw [hb] at henv
    have hy:yielded ops a.tmps j=none:=by
     unfold yielded
     rw [ht]; simp only [Option.bind_some]
     have:a.tmps[t]?=none ∨ a.tmps[t]?=some (.tuple #[]):=by
      simp only [Array.getD_eq_getD_getElem?] at henv
      cases hx:a.tmps[t]? with
      | none=>exact .inl rfl
      | some x=>
       rw [hx] at henv
       simp only [Option.getD_some] at henv
       cases henv with
       | tup hv => 
        have:=hv.length
        rename_i xs
        have:xs=#[]:=by apply Array.ext'; exact List.eq_nil_of_length_eq_zero (by simpa using this.symm)
        subst this; exact .inr rfl
     rcases this with h | h <;> rw [h]
    have hwant:Region.wanted o (yielded ops a.tmps)=false:=by simp [Region.wanted,hg,hy]
    rw [hwant]
    exact fin s (Ext.refl _) s.rel (.tup .nil) hk
   ·exact hk.elim
  ·exact hk.elim

theorem Yqt {ops:Array Oper} {Q:Exit→Act→World→Prop}:∀ (l:List Oper) {μ:List Pl} {h:Zaa} {w:World} {env:Env} {a:Act},St P base N w0 μ env h a w→∀ {K:Env→Zaa→Prop},Yuj P N ops l env h K →
  (∀ a w,Yoz P base N w0 μ K a w→Q .normal a w)→wpList P ops Q l a w
 | [],μ,h,w,env,a,s,K,hk,hq=>hq a w ⟨μ,env,h,Ext.refl _,s,hk⟩
 | o :: r,μ,h,w,env,a,s,K,hk,hq=>by
  have hstep:=Yle (next:=wpList P ops Q r) (Q:=Q) s hk (fun a' w' ⟨μ',env',h',hx,s',hk'⟩=>Yqt r s' hk' (fun a w ⟨μ2,env2,h2,hx2,s2,k2⟩=>hq a w ⟨μ2,env2,h2,hx.trans hx2,s2,k2⟩))
  unfold wpList
  split
  ·rename_i hw; rw [if_pos hw] at hstep; exact .inl hstep
  ·rename_i hw; rw [if_neg hw] at hstep; exact hstep
end
end Go.Sim

set_option linter.unusedSimpArgs false
namespace Go.Sim
open Go Go.RowKit

section
variable {P:Program} {K K':Zau→Zaa→Prop} {k k':Zau→Prop}

theorem Yit {o:Option Zau} {K K':Bool→Prop} (h:Zbx o K) (m:∀ b,K b→K' b):Zbx o K':=by
 unfold Zbx at *; split at h <;> first | exact m _ h | exact h.elim
theorem Ykl {q:IntKind} {o:Option Zau} {K K':Int→Prop} (h:Zdo q o K) (m:∀ b,K b→K' b):Zdo q o K':=by
 unfold Zdo at *; split at h <;> first | exact ⟨h.1,m _ h.2⟩ | exact h.elim
theorem Zyq {o:Option Zau} {K K':List Nat→Prop} (h:Zbg o K) (m:∀ b,K b→K' b):Zbg o K':=by
 unfold Zbg at *; split at h <;> first | exact m _ h | exact h.elim
theorem Ylt {o:Option Zau} {K K':Option (Nat × Nat)→Prop} (h:Zhh o K) (m:∀ b,K b→K' b):Zhh o K':=by
 unfold Zhh at *; split at h <;> first | exact m _ h | exact h.elim
theorem Yqs {o:Option Zau} {K K':Option (Nat × Nat)→Nat→Nat→Bool→Prop} (h:xSl o K) (m:∀ a b c d,K a b c d→K' a b c d):xSl o K':=by
 unfold xSl at *; split at h <;> first | exact m _ _ _ _ h | exact h.elim
theorem Ynk {o:Option Zau} {K K':Option Nat→Prop} (h:Ymx o K) (m:∀ b,K b→K' b):Ymx o K':=by
 unfold Ymx at *; split at h <;> first | exact m _ h | exact h.elim
theorem Zuh {o:Option Zau} (h:Yaw o k) (m:∀ b,k b→k' b):Yaw o k':=by
 unfold Yaw at *; split at h <;> first | exact m _ h | exact h.elim
theorem Yay {cs:List Zau} {K K':Zau→List Zau→Prop} (h:Zaj cs K) (m:∀ a b,K a b→K' a b):Zaj cs K':=by
 unfold Zaj at *; split at h <;> first | exact m _ _ h | exact h.elim
theorem Ycv {cs:List Zau} {K K':Prop} (h:Zbv cs K) (m:K→K'):Zbv cs K':=by
 unfold Zbv at *; split at h <;> first | exact m h | exact h.elim
theorem Zgs {o:Option (List Zau)} {K K':List Zau→Prop} (h:Zco o K) (m:∀ b,K b→K' b):Zco o K':=by
 unfold Zco at *; split at h <;> first | exact m _ h | exact h.elim
theorem Yal {o:Option Zaa} {K K':Zaa→Prop} (h:Zbu o K) (m:∀ b,K b→K' b):Zbu o K':=by
 unfold Zbu at *; split at h <;> first | exact m _ h | exact h.elim
theorem Ykk {v:Zau} {K K':List Zau→Prop} (h:Znt v K) (m:∀ b,K b→K' b):Znt v K':=by
 unfold Znt at *; split at h <;> first | exact m _ h | exact h.elim
theorem Yoc {v:Zau} {K K':List Zau→Prop} (h:Zny v K) (m:∀ b,K b→K' b):Zny v K':=by
 unfold Zny at *; split at h <;> first | exact m _ h | exact h.elim
theorem Zxu {o:Option Field} {K K':Field→Prop} (h:Ztl o K) (m:∀ b,K b→K' b):Ztl o K':=by
 unfold Ztl at *; split at h <;> first | exact m _ h | exact h.elim
theorem Zde {p:Prop} [Decidable p] {K K':Prop} (h:chk p K) (m:K→K'):chk p K':=by
 unfold chk at *; split at h <;> first | exact m h | exact h.elim
theorem Znp {o:Option Zau} {d:Int} {K K':Int→Prop} (h:Zln o d K) (m:∀ b,K b→K' b):Zln o d K':=by
 unfold Zln at *; split at h <;> first | exact m _ h | exact h.elim
theorem Yje {b:Bool} {A B A' B':Prop} (h:bcase b A B) (m:A→A') (n:B→B'):bcase b A' B':=by
 unfold bcase at *; split at h <;> first | exact m h | exact n h
theorem Zqv {s:Sh} {o:Option Zau} (h:xv s o k) (m:∀ v,k v→k' v):xv s o k':=by
 cases s <;> simp only [xv] at *
 ·exact Yit h fun _=>m _
 ·exact Ykl h fun _=>m _
 ·exact Zyq h fun _=>m _
 ·exact Ylt h fun _=>m _
 ·exact Yqs h fun _ _ _ _=>m _
 ·exact Ynk h fun _=>m _
 ·exact Zuh h m
theorem Ygf:∀ {ss:List Sh} {cs:List Zau} {K K':List Zau→Prop},xs ss cs K→(∀ v,K v→K' v)→xs ss cs K'
 | [],_,_,_,h,m=>Ycv h (m _)
 | _ :: _,_,_,_,h,m=>Yay h fun _ _ h=>Zqv h fun _ h=>Ygf h fun _=>m _
theorem Ykv {t:TypeId} {v:Zau} (h:xt P t v k) (m:∀ v,k v→k' v):xt P t v k':=by
 unfold xt at *
 split at h
 ·exact Ykk h fun _ h=>Ygf h fun _=>m _
 ·exact Zqv h m
theorem Yil:∀ {ts:List TypeId} {cs:List Zau} {K K':List Zau→Prop},xts P ts cs K→(∀ v,K v→K' v)→xts P ts cs K'
 | [],_,_,_,h,m=>Ycv h (m _)
 | _ :: _,_,_,_,h,m=>Yay h fun _ _ h=>Ykv h fun _ h=>Yil h fun _=>m _
theorem Yer {ts:List TypeId} {v:Zau} (h:Yri P ts v k) (m:∀ v,k v→k' v):Yri P ts v k':=by
 unfold Yri at *
 split at h
 ·exact m _ h
 ·exact Ykv h m
 ·exact Yoc h fun _ h=>Yil h fun _=>m _
theorem Yjl {t:TypeId} {h:Zaa} {p:Zau} (hh:Zwu P t h p k) (m:∀ v,k v→k' v):Zwu P t h p k':=by
 unfold Zwu at *
 split at hh
 ·exact Zgs hh fun _ h=>Ygf h fun _=>m _
 ·exact Zqv hh m
theorem Yfz {t:TypeId} {h:Zaa} {p v:Zau} {K K':Zaa→Prop} (hh:Yaf P t h p v K) (m:∀ v,K v→K' v):Yaf P t h p v K':=by
 unfold Yaf at *
 split at hh
 ·split at hh
  ·exact Yal hh m
  ·exact hh.elim
 ·exact hh.elim
theorem Yjm {a b:Option (Nat × Nat)} {K K':Bool→Prop} (h:Yet a b K) (m:∀ b,K b→K' b):Yet a b K':=by
 unfold Yet at *
 split at h
 ·exact m _ h
 ·split at h
  ·exact m _ h
  ·exact h.elim
theorem Zsu {a:Option (Nat × Nat)} {K K':Nat→Nat→Prop} (h:Zbm a K) (m:∀ b o,K b o→K' b o):Zbm a K':=by
 obtain ⟨b,o,rfl,h⟩:=Zbn h
 exact m _ _ h
theorem Ygy {t:TypeId} {x y:Zau} {K K':Bool→Prop} (h:eqA P t x y K) (m:∀ b,K b→K' b):eqA P t x y K':=by
 unfold eqA at *
 split at h <;> (try exact h.elim) <;> split at h <;> (try exact h.elim)
 ·exact Zde h (m _)
 ·exact m _ h
 ·exact Zde h (m _)
 ·exact Zde h fun h=>Yjm h m
 ·split at h
  ·exact m _ h
  ·exact h.elim
 ·exact Zde h fun h=>⟨h.1,m _ h.2⟩
theorem Yls {op:BinOp} {t:TypeId} {x y:Zau} (h:Yqx P op t x y k) (m:∀ v,k v→k' v):Yqx P op t x y k':=by
 unfold Yqx at *
 split at h
 ·exact Ygy h fun _=>m _
 ·exact Ygy h fun _=>m _
 ·split at h
  ·split at h
   ·split at h <;> first
     | exact h.elim
     | exact Zde h (m _)
     | exact Zde h fun h=>⟨h.1,m _ h.2⟩
     | exact ⟨h.1,m _ h.2⟩
   ·exact h.elim
  ·split at h
   ·split at h <;> first
     | exact h.elim
     | exact ⟨h.1,m _ h.2⟩
     | exact m _ h
   ·exact h.elim
  ·exact h.elim
theorem Yan {t:TypeId} {cs:List Zau} {off:Nat} (h:Zzv P t cs off k) (m:∀ v,k v→k' v):Zzv P t cs off k':=by
 unfold Zzv at *
 split at h
 ·exact m _ h
 ·exact Zde h fun h=>Zuh h m
theorem Ymw {ts:Array TypeId} {xs:List Zau} (h:Yrp P ts xs k) (m:∀ v,k v→k' v):Yrp P ts xs k':=by
 unfold Yrp at *
 split at h <;> first | exact h.elim | exact Zde h (m _)
theorem Ykg {s d:TypeId} {x:Zau} (h:Yfx P s d x k) (m:∀ v,k v→k' v):Yfx P s d x k':=by
 unfold Yfx at *
 split at h
 ·split at h <;> first | exact h.elim | exact Zde h (m _)
 ·split at h <;> first | exact h.elim | exact Zde h (m _) | exact Zde h fun h=>⟨h.1,m _ h.2⟩
 ·exact h.elim
theorem Yfd {t:TypeId} {x:Zau} {lo hi mx:Option Zau} (h:Yar P t x lo hi mx k) (m:∀ v,k v→k' v):Yar P t x lo hi mx k':=by
 unfold Yar at *
 split at h
 ·split at h
  ·exact Zde h fun h=>Znp h fun _ h=>Znp h fun _ h=>⟨h.1,m _ h.2⟩
  ·exact h.elim
 ·split at h
  ·refine Zde h fun h=>Zde h fun h=>Znp h fun _ h=>Znp h fun _ h=>Znp h fun _ h=>⟨h.1,?_⟩
   have h2:=h.2
   split at h2
   ·exact ⟨h2.1,m _ h2.2⟩
   ·exact ⟨fun a=>m _ (h2.1 a),fun a=>m _ (h2.2 a)⟩
  ·exact h.elim
 ·exact h.elim
theorem Zvy {env:Env} {o:Oper} (h:Zun P env o k) (m:∀ v,k v→k' v):Zun P env o k':=by
 obtain ⟨dst,op,type,pos,after,guard⟩:=o
 unfold Zun at *
 cases op <;> simp only at h ⊢ <;> (try exact h.elim)
 case move x=>exact m _ h
 case assign x=>exact m _ h
 case pick c a b=>
  unfold Yku at *
  split at h
  ·exact Yje h (m _) (m _)
  ·exact h.elim
 case nilCheck x=>
  unfold Yue at *
  split at h <;> first | exact h.elim | exact m _ h | exact Zsu h fun _ _=>m _
 case fieldAddr t x i=>
  unfold Zhf at *
  split at h
  ·exact Zxu h fun _ h=>Zde h fun h=>Zde h fun h=>Zsu h fun _ _=>m _
  ·exact h.elim
 case field t x i=>
  unfold Ycq at *
  split at h
  ·exact Zxu h fun _ h=>Yan h m
  ·exact h.elim
 case indexAddr t x i=>
  unfold Zpv at *
  split at h
  ·split at h
   ·split at h <;> first | exact h.elim | exact Zde h fun h=>⟨h.1,Zsu h.2 fun _ _=>m _⟩
   ·split at h <;> first | exact h.elim | exact Zde h fun h=>⟨h.1,Zsu h.2 fun _ _=>m _⟩
   ·exact h.elim
  ·exact h.elim
 case index t x i=>
  unfold Yeq at *
  split at h
  ·split at h
   ·split at h
    ·exact ⟨h.1,m _ h.2⟩
    ·exact h.elim
   ·split at h
    ·exact Zde h fun h=>⟨h.1,Yan h.2 m⟩
    ·exact h.elim
   ·exact h.elim
  ·exact h.elim
 case slice t x lo hi mx=>exact Yfd h m
 case binOp op t x y yt=>exact Yls h m
 case unOp op t x=>
  unfold unA at *
  split at h
  ·split at h <;> first | exact h.elim | exact m _ h
  ·split at h <;> first | exact h.elim | exact m _ h
  ·exact h.elim
 case convert s d x=>exact Ykg h m
 case extract x i=>
  unfold Ztw at *
  split at h
  ·exact Zuh h m
  ·exact h.elim
 case makeFunc fn first caps=>
  cases fn <;> simp only at h ⊢ <;> first | exact h.elim | exact Zde h (m _)
 case call c=>
  split at h
  ·exact Ymw h m
  ·exact h.elim
theorem Zxw {h:Zaa} {j:Nat} {e:TypeId} {A B:List Zau→Prop} (hh:Zrs h j e A) (m:∀ cs,A cs→B cs):Zrs h j e B:=by
 unfold Zrs at *
 split at hh
 ·exact ⟨hh.1,m _ hh.2⟩
 ·exact hh.elim
theorem Ych {t:TypeId} {h:Zaa} {s x:Zau} (hh:Zcz P t h s x K) (m:∀ v h,K v h→K' v h):Zcz P t h s x K':=by
 unfold Zcz at *
 split at hh <;> (try exact hh.elim)
 split at hh <;> (try exact hh.elim)
 split at hh <;> (try exact hh.elim)
 refine Zgs hh fun new h=>⟨h.1,?_⟩
 have h2:=h.2
 split at h2
 ·exact ⟨fun a=>m _ _ (h2.1 a),fun a=>⟨(h2.2 a).1,m _ _ (h2.2 a).2⟩⟩
 ·rcases h2 with ⟨a,b⟩ | ⟨a,b⟩ | ⟨a,b⟩
  ·exact .inl ⟨a,Zxw b fun _ h=>⟨h.1,m _ _ h.2⟩⟩
  ·exact .inr (.inl ⟨a,Zxw b fun _ h=>⟨h.1,m _ _ h.2⟩⟩)
  ·exact .inr (.inr ⟨a,Zgs b fun _=>m _ _⟩)
theorem Zxs:∀ {cs:List Zau} {K K':List Nat→Prop},Zsd cs K→(∀ s,K s→K' s)→Zsd cs K'
 | [],_,_,h,m=>m _ h
 | .int k n :: r,_,_,h,m=>by
  unfold Zsd at *
  exact Zde h fun h=>⟨h.1,Zxs h.2 fun _=>m _⟩
 | .undef :: _,_,_,h,_ | .bool _ :: _,_,_,h,_ | .str _ :: _,_,_,h,_ | .ptr _ :: _,_,_,h,_ | .slice .. :: _,_,_,h,_ | .map _ :: _,_,_,h,_ | .fn .. :: _,_,_,h,_ | .nilFn :: _,_,_,h,_ | .iter _ :: _,_,_,h,_
 | .agg _ :: _,_,_,h,_ | .tup _ :: _,_,_,h,_=>by unfold Zsd at h; exact h.elim
theorem Yni {s d:TypeId} {h:Zaa} {x:Zau} {K K':Zau→Prop} (hh:Ysj P s d h x K) (m:∀ v,K v→K' v):Ysj P s d h x K':=by
 unfold Ysj at *
 split at hh
 ·refine Zde hh fun h=>?_
  split at h
  ·exact Zgs h fun _ h=>Zxs h fun _=>m _
  ·exact h.elim
 ·exact hh.elim
theorem Yml {x y:Zau} {K K':Zau→Prop} (hh:Ysl x y K) (m:∀ v,K v→K' v):Ysl x y K':=by
 unfold Ysl at *
 split at hh
 ·split at hh
  ·exact Zde hh (m _)
  ·exact hh.elim
 ·exact hh.elim
theorem Zxx {t:TypeId} {a b:Zau} {h:Zaa} {K K':Zau→Zaa→Prop} (hh:Znj P t a b h K) (m:∀ v h,K v h→K' v h):Znj P t a b h K':=by
 unfold Znj at *
 split at hh
 ·refine Zgs hh fun _ h=>Zde h fun h=>?_
  unfold Zdo at *
  split at h
  ·refine ⟨h.1,?_⟩
   replace h:=h.2
   split at h
   ·exact ⟨h.1,h.2.1,m _ _ h.2.2⟩
   ·exact h.elim
  ·exact h.elim
 ·exact hh.elim
theorem Zmg {h:Zaa} {m:Option Nat} {K K':List ME→Nat→Prop} (hh:Zic h m K) (m':∀ a b,K a b→K' a b):Zic h m K':=by
 unfold Zic at *
 split at hh
 ·exact m' _ _ hh
 ·split at hh
  ·exact m' _ _ hh
  ·exact hh.elim
theorem Yjb {es:List ME} {s:List Nat} {K K':Option Zau→Prop} (hh:Zzp es s K) (m:∀ a,K a→K' a):Zzp es s K':=by
 unfold Zzp at *; split at hh <;> first | exact m _ hh | exact hh.elim
theorem Ymg {es:List ME} {clk:Nat} {s:List Nat} {v:Zau} {K K':List ME→Nat→Prop} (hh:Yoh es clk s v K) (m:∀ a b,K a b→K' a b):Yoh es clk s v K':=by
 unfold Yoh at *; split at hh <;> first | exact m _ _ hh | exact hh.elim
theorem Yhh {m:Option Nat} {K K':Nat→Prop} (hh:xMp m K) (mm:∀ a,K a→K' a):xMp m K':=by
 unfold xMp at *; split at hh <;> first | exact mm _ hh | exact hh.elim
theorem Yke {h:Zaa} {r:Nat} {K K':List Nat→Nat→Prop} (hh:Yjg h r K) (m:∀ a b,K a b→K' a b):Yjg h r K':=by
 unfold Yjg at *; split at hh <;> first | exact m _ _ hh | exact hh.elim
theorem Zyz {h:Zaa} {r:Nat} {K K':Option Nat→Nat→List Nat→Nat→Prop} (hh:Zxo h r K) (m:∀ a b c d,K a b c d→K' a b c d):Zxo h r K':=by
 unfold Zxo at *; split at hh <;> first | exact m _ _ _ _ hh | exact hh.elim
theorem Yda {t:TypeId} {h:Zaa} {x i:Zau} {ok:Bool} (hh:Zvi P t h x i ok k) (m:∀ v,k v→k' v):Zvi P t h x i ok k':=by
 unfold Zvi at *
 split at hh
 ·refine Zde hh fun h=>?_
  split at h
  ·exact Zyq h fun _ h=>Zuh h fun _ h=>Zmg h fun _ _ h=>Yjb h fun _ h=>Zqv h fun _=>m _
  ·exact h.elim
 ·exact hh.elim
theorem Zxj {t:TypeId} {h:Zaa} {x i v:Zau} (hh:Znm P t h x i v K) (m:∀ v h,K v h→K' v h):Znm P t h x i v K':=by
 unfold Znm at *
 split at hh
 ·refine Zde hh fun h=>?_
  split at h
  ·exact Yhh h fun _ h=>Zyq h fun _ h=>Zmg h fun _ _ h=>Ymg h fun _ _=>m _ _
  ·exact h.elim
 ·exact hh.elim
theorem Ybl {t:TypeId} {r:Option Zau} {h:Zaa} (hh:Zst P t r h K) (m:∀ v h,K v h→K' v h):Zst P t r h K':=by
 unfold Zst at *
 split at hh <;> first | exact m _ _ hh | exact Zde hh (m _ _) | exact hh.elim
theorem Yez {t:TypeId} {x:Zau} {h:Zaa} (hh:Yaq P t x h K) (m:∀ v h,K v h→K' v h):Yaq P t x h K':=by
 unfold Yaq at *
 split at hh <;> first | exact hh.elim | exact Zde hh (m _ _) | exact Zde hh fun h=>Zmg h fun _ _=>m _ _
theorem Yll {m:Option Nat} {A B A' B':Prop} (hh:Yug m A B) (p:A→A') (q:B→B'):Yug m A' B':=by
 unfold Yug at *; split at hh <;> first | exact p hh | exact q hh
theorem Ykc {ty:TypeId} {x:Zau} {st:Bool} {h:Zaa} (hh:Yin P ty x st h K) (m:∀ v h,K v h→K' v h):Yin P ty x st h K':=by
 unfold Yin at *
 split at hh
 ·split at hh
  ·exact Yke hh fun _ _ h=>⟨fun a=>⟨(h.1 a).1,m _ _ (h.1 a).2⟩,fun a=>m _ _ (h.2 a)⟩
  ·exact Zyz hh fun _ _ _ _ h=>Yll h (m _ _) fun h=>Zmg h fun _ _ h=>⟨h.1,fun a=>m _ _ (h.2.1 a),fun e he hn=>Zqv (h.2.2 e he hn) fun _ h=>Zqv h fun _=>m _ _⟩
 ·exact hh.elim
theorem Yge {ty:TypeId} {x:Zau} {h:Zaa} (hh:Yae P ty x h k) (m:∀ v,k v→k' v):Yae P ty x h k':=by
 unfold Yae at *
 split at hh
 ·exact Zyz hh fun _ _ _ _ h=>Yhh h fun _ h=>Zmg h fun _ _ h=>⟨h.1,h.2.imp fun _ h=>⟨h.1,h.2.imp fun _ h=>⟨h.1,Zqv h.2 fun _ h=>Zqv h fun _=>m _⟩⟩⟩
 ·exact hh.elim
theorem Ypi {env:Env} {h:Zaa} {o:Oper} (hh:opA P env h o K) (m:∀ v h,K v h→K' v h):opA P env h o K':=by
 obtain ⟨dst,op,type,pos,after,guard⟩:=o
 unfold opA at *
 cases op <;> simp only at hh ⊢
 case load t a=>exact Zde hh fun h=>Yjl h fun _=>m _ _
 case store t a x=>exact Zde hh fun h=>Yfz h fun _=>m _ _
 case alloc t=>exact Zgs hh fun _=>m _ _
 case box t x=>exact Zgs hh fun _=>m _ _
 case build t ps=>
  refine Zgs hh fun _ h=>?_
  split at h
  ·exact Zde h fun h=>Zgs h fun _=>m _ _
  ·exact Zde h fun h=>Zgs h fun _=>m _ _
  ·exact h.elim
 case buildSlice t n ps=>
  unfold Zqg at *
  split at hh
  ·exact Zgs hh fun _ h=>Zde h fun h=>Zgs h fun _=>m _ _
  ·exact hh.elim
 case call c=>
  unfold Ymq at *
  split at hh
  ·split at hh
   ·exact Zah.mono hh fun _ _ h=>Yer h fun _=>m _ _
   ·unfold Yur Yus at *
    split at hh
    ·exact Zah.mono hh fun _ _ h=>Yer h fun _=>m _ _
    ·exact hh.elim
  ·split at hh
   ·refine Zde hh fun h=>?_
    split at h
    ·exact Ych h fun _ _ h=>Zqv h fun _=>m _ _
    ·exact h.elim
   ·exact hh.elim
  ·split at hh
   ·exact Yml hh fun _=>m _ _
   ·exact hh.elim
  ·split at hh
   ·split at hh
    ·unfold Yha at *
     split at hh
     ·split at hh
      ·refine ⟨fun h0=>m _ _ (hh.1 h0),fun h0=>Zgs (hh.2 h0) fun _ h=>Zde h fun h=>Yal h fun _=>m _ _⟩
      ·exact hh.elim
     ·exact hh.elim
    ·exact hh.elim
   ·exact hh.elim
  ·exact Zvy hh fun _=>m _ _
 case makeSlice t l c=>exact Zxx hh m
 case makeMap t r=>exact Ybl hh m
 case lookup t x i ok=>exact Yda hh fun _=>m _ _
 case mapUpdate t mm k v=>exact Zxj hh m
 case range t x=>exact Yez hh m
 case next x st=>exact Ykc hh m
 case entry x=>exact Yge hh fun _=>m _ _
 case convert s d x=>
  split at hh
  ·exact Yni hh fun _=>m _ _
  ·exact Zvy hh fun _=>m _ _
 all_goals exact Zvy hh fun _=>m _ _
end
end Go.Sim

set_option linter.unusedSimpArgs false
namespace Go.Sim
open Go Go.RowKit

def Det {α:Type} (F:(α→Prop)→Prop):Prop:=∀ k,F k→∃ v,k v∧∀ k',k' v→F k'
theorem Det.ret {α:Type} (a:α):Det (fun k=>k a):=fun _ h=>⟨a,h,fun _ h=>h⟩
theorem Det.no {α:Type}:Det (fun _:α→Prop=>False):=fun _ h=>h.elim
theorem Det.and {α:Type} {p:Prop} {F:(α→Prop)→Prop} (d:Det F):Det (fun k=>p∧F k):=fun k ⟨hp,h⟩=>let ⟨v,hv,r⟩:=d k h; ⟨v,hv,fun k' h'=>⟨hp,r k' h'⟩⟩
theorem Det.chk {α:Type} {p:Prop} [Decidable p] {F:(α→Prop)→Prop} (d:Det F):Det (fun k=>chk p (F k)):=fun k h=>by
 have ⟨hp,h⟩:=Zcc h
 obtain ⟨v,hv,r⟩:=d k h
 exact ⟨v,hv,fun k' h'=>by unfold Sim.chk; rw [decide_eq_true hp]; exact r k' h'⟩
theorem Det.bind {α β:Type} {F:(α→Prop)→Prop} {G:α→(β→Prop)→Prop} (d:Det F) (e:∀ a,Det (G a)):Det (fun k=>F fun a=>G a k):=fun k h=>by
 obtain ⟨a,ha,r⟩:=d _ h
 obtain ⟨b,hb,q⟩:=e a k ha
 exact ⟨b,hb,fun k' h'=>r _ (q k' h')⟩
theorem Det.map {α β:Type} {F:(α→Prop)→Prop} (d:Det F) (f:α→β):Det (fun k=>F fun a=>k (f a)):=d.bind fun a=>Det.ret (f a)
theorem Det.bcase {α:Type} {b:Bool} {F G:(α→Prop)→Prop} (d:Det F) (e:Det G):Det (fun k=>bcase b (F k) (G k)):=by cases b <;> assumption

section
variable {P:Program}
theorem Yma (s:Sh) (o:Option Zau):Det (xv s o):=by
 intro k h
 cases s <;> simp only [xv,Zbx,Zbg,Zhh,xSl,Ymx,Yaw,Zdo] at * <;> split at h <;> first
  | exact h.elim
  | exact ⟨_,h,fun _ h=>h⟩
  | exact ⟨_,h.2,fun _ h'=>⟨h.1,h'⟩⟩
theorem Yhp (o:Option Zau):Det (Yaw o):=Yma .any o
theorem Zxg (o:Option (List Zau)):Det (Zco o):=fun k h=>by
 unfold Zco at *; split at h <;> first | exact ⟨_,h,fun _ h=>h⟩ | exact h.elim
theorem Yra:∀ (ss:List Sh) (cs:List Zau),Det (xs ss cs)
 | [],cs=>fun k h=>by
  simp only [xs,Zbv] at *; split at h <;> first | exact ⟨_,h,fun _ h=>h⟩ | exact h.elim
 | s :: ss,cs=>fun k h=>by
  simp only [xs,Zaj] at *
  split at h
  ·exact ((Yma s _).bind (G:=fun v k=>xs ss _ fun vs=>k (v :: vs)) fun v=>(Yra ss _).map (v :: ·)) k h
  ·exact h.elim
theorem Ykj (t:TypeId) (h:Zaa) (p:Zau):Det (Zwu P t h p):=by
 intro k hh
 unfold Zwu at *
 split at hh
 ·exact ((Zxg _).bind (G:=fun cs k=>xs _ cs fun vs=>k (.agg vs)) fun cs=>(Yra _ cs).map Zau.agg) k hh
 ·exact Yma _ _ k hh
theorem Ylw (a b:Option (Nat × Nat)):Det (Yet a b):=by
 intro k h
 unfold Yet at *
 split at h
 ·exact ⟨_,h,fun _ h=>h⟩
 ·split at h
  ·exact ⟨_,h,fun _ h=>h⟩
  ·exact h.elim
theorem Zuv (a:Option (Nat × Nat)) (f:Nat→Nat→Zau):Det (fun k:Zau→Prop=>Zbm a fun b o=>k (f b o)):=by
 intro k h
 obtain ⟨b,o,rfl,h⟩:=Zbn h
 exact ⟨_,h,fun _ h=>h⟩
theorem Ymo (t:TypeId) (x y:Zau):Det (eqA P t x y):=by
 intro k h
 unfold eqA at *
 split at h <;> (try exact h.elim) <;> split at h <;> (try exact h.elim)
 ·exact (Det.ret _).chk k h
 ·exact ⟨_,h,fun _ h=>h⟩
 ·exact (Det.ret _).chk k h
 ·exact (Ylw _ _).chk k h
 ·split at h
  ·exact ⟨_,h,fun _ h=>h⟩
  ·exact h.elim
 ·exact (Det.ret _).and.chk k h
theorem Ypy (op:BinOp) (t:TypeId) (x y:Zau):Det (Yqx P op t x y):=by
 intro k h
 unfold Yqx at *
 split at h
 ·exact (Ymo t x y).map _ k h
 ·exact (Ymo t x y).map _ k h
 ·split at h
  ·split at h
   ·split at h <;> first
     | exact h.elim
     | exact (Det.ret _).chk k h
     | exact (Det.ret _).and.chk k h
     | exact (Det.ret _).and k h
   ·exact h.elim
  ·split at h
   ·split at h <;> first
     | exact h.elim
     | exact (Det.ret _).and k h
     | exact ⟨_,h,fun _ h=>h⟩
   ·exact h.elim
  ·exact h.elim
theorem Yel (t:TypeId) (cs:List Zau) (off:Nat):Det (Zzv P t cs off):=by
 intro k h
 unfold Zzv at *
 split at h
 ·exact ⟨_,h,fun _ h=>h⟩
 ·exact (Yhp _).chk k h
theorem Zpp (o:Option Zau) (d:Int):Det (Zln o d):=fun k h=>by
 unfold Zln at *; split at h <;> first | exact ⟨_,h,fun _ h=>h⟩ | exact h.elim
theorem Ycj (o:Option Field):Det (Ztl o):=fun k h=>by
 unfold Ztl at *; split at h <;> first | exact ⟨_,h,fun _ h=>h⟩ | exact h.elim
theorem Yed (s:List Nat) (lo hi:Option Zau):Det (Zub s lo hi):=by
 unfold Zub
 exact (Zpp hi s.length).bind fun h=>(Zpp lo 0).bind fun l=>(Det.ret _).and
theorem Yga (a:Option (Nat × Nat)) (len cap:Nat) (ex:Bool) (sz:Nat) (lo hi mx:Option Zau):Det (Zls a len cap ex sz lo hi mx):=by
 unfold Zls
 refine (Zpp mx cap).bind fun m=>(Zpp hi len).bind fun h=>(Zpp lo 0).bind fun l=>Det.and ?_
 intro k hk
 split at hk
 ·exact (Det.ret _).and k hk
 ·rename_i b o
  by_cases hlm:l < m
  ·exact ⟨_,hk.1 hlm,fun k' h'=>⟨fun _=>h',fun h=>absurd hlm h⟩⟩
  ·exact ⟨_,hk.2 hlm,fun k' h'=>⟨fun h=>absurd h hlm,fun _=>h'⟩⟩
theorem Ynh (env:Env) (o:Oper):Det (Zun P env o):=by
 intro k h
 obtain ⟨dst,op,type,pos,after,guard⟩:=o
 unfold Zun at *
 cases op <;> simp only at h ⊢ <;> (try exact h.elim)
 case move x=>exact ⟨_,h,fun _ h=>h⟩
 case assign x=>exact ⟨_,h,fun _ h=>h⟩
 case pick c a b=>
  unfold Yku at *
  split at h
  ·exact (Det.ret _).bcase (Det.ret _) k h
  ·exact h.elim
 case nilCheck x=>
  unfold Yue at *
  split at h <;> first | exact h.elim | exact ⟨_,h,fun _ h=>h⟩ | exact Zuv _ (fun b o=>.ptr (some (b,o))) k h
 case fieldAddr t x i=>
  unfold Zhf at *
  split at h
  ·rename_i a _
   exact (Det.bind (F:=Ztl (Zxn P t i)) (G:=fun (f:Field) (k:Zau→Prop)=>chk ((P.underlying f.type).isSome=true) (chk (P.cellsOf f.type≠0) (Zbm a fun b o=>k (Zau.ptr (some (b,o + f.offset)))))) (Ycj _) fun f=>Det.chk (Det.chk (Zuv a fun b o=>Zau.ptr (some (b,o + f.offset))))) k h
  ·exact h.elim
 case field t x i=>
  unfold Ycq at *
  split at h
  ·exact (Ycj _).bind (G:=fun f k=>Zzv P f.type _ f.offset k) (fun f=>Yel _ _ _) k h
  ·exact h.elim
 case indexAddr t x i=>
  unfold Zpv at *
  split at h
  ·split at h
   ·split at h <;> first | exact h.elim | exact (Zuv _ (fun b o=>Zau.ptr (some (b,o + _)))).and.chk k h
   ·split at h <;> first | exact h.elim | exact (Zuv _ (fun b o=>Zau.ptr (some (b,o + _)))).and.chk k h
   ·exact h.elim
  ·exact h.elim
 case index t x i=>
  unfold Yeq at *
  split at h
  ·split at h
   ·split at h
    ·exact (Det.ret _).and k h
    ·exact h.elim
   ·split at h
    ·exact (Yel _ _ _).and.chk k h
    ·exact h.elim
   ·exact h.elim
  ·exact h.elim
 case slice t x lo hi mx=>
  unfold Yar at *
  split at h
  ·split at h
   ·exact (Yed _ _ _).chk k h
   ·exact h.elim
  ·split at h
   ·exact (Yga _ _ _ _ _ _ _ _).chk.chk k h
   ·exact h.elim
  ·exact h.elim
 case binOp op t x y yt=>exact Ypy _ _ _ _ k h
 case unOp op t x=>
  unfold unA at *
  split at h
  ·split at h <;> first | exact h.elim | exact ⟨_,h,fun _ h=>h⟩
  ·split at h <;> first | exact h.elim | exact ⟨_,h,fun _ h=>h⟩
  ·exact h.elim
 case convert s d x=>
  unfold Yfx at *
  split at h
  ·split at h <;> first | exact h.elim | exact (Det.ret _).chk k h
  ·split at h <;> first | exact h.elim | exact (Det.ret _).chk k h | exact (Det.ret _).and.chk k h
  ·exact h.elim
 case extract x i=>
  unfold Ztw at *
  split at h
  ·exact Yhp _ k h
  ·exact h.elim
 case makeFunc fn first caps=>
  cases fn <;> simp only at h ⊢ <;> first | exact h.elim | exact (Det.ret _).chk k h
 case call c=>
  split at h
  ·unfold Yrp at *
   split at h <;> first | exact h.elim | exact (Det.ret _).chk k h
  ·exact h.elim

def Ybt (P:Program) (op:Op):Bool:=
 match op with
 | .move _ | .assign _ | .pick .. | .binOp .. | .unOp .. | .nilCheck _ | .extract .. | .field .. | .fieldAddr .. | .indexAddr .. | .index .. | .slice .. | .makeFunc .. | .build ..=>true
 | .call c=>(match c.callee with | .builtin .len=>true | _=>false)
 | .convert s _ _=>!Ykd P s
 | _=>false
def Yqa (op:Op):Bool:=match op with | .load ..=>true | _=>false
def Yjs (P:Program) (env:Env) (o:Oper) (k:Zau→Prop):Prop:=
 match o.op with
 | .build t ps=>Ylp P t (parts env ps) k
 | _=>Zun P env o k
theorem Ykw (env:Env) (o:Oper):Det (Yjs P env o):=by
 intro k h
 unfold Yjs at *
 split at h
 ·refine (Zxg _).bind (G:=fun z k=>_) (fun z=>?_) k h
  intro k h
  split at h
  ·exact ((Zxg _).map _).chk k h
  ·exact ((Zxg _).map _).chk k h
  ·exact h.elim
 ·exact Ynh env o k h
theorem Zzk {env:Env} {h:Zaa} {o:Oper} (hr:Ybt P o.op=true) {K:Zau→Zaa→Prop}:opA P env h o K ↔ Yjs P env o fun v=>K v h:=by
 obtain ⟨dst,op,type,pos,after,guard⟩:=o
 cases op <;> simp only [Ybt,Bool.false_eq_true] at hr <;> try (simp only [opA,Yjs]; done)
 case call c=>
  simp only [opA,Yjs,Ymq]
  split at hr
  ·rename_i hc; simp [hc]
  ·cases hr
 case convert s d x=>
  simp only [Bool.not_eq_true'] at hr
  simp only [opA,Yjs,hr]

theorem Zyb {env env':Env} {ps:Array (Nat × Operand)} (hx:∀ x∈ps.map (·.2),ev env x=ev env' x):parts env ps=parts env' ps:=by
 unfold parts
 refine List.map_congr_left fun p hp=>?_
 rw [hx p.2 (Array.mem_map.2 ⟨p,by simpa using hp,rfl⟩)]
theorem Yam {env env':Env} {xs:Array Operand} (hx:∀ x∈xs,ev env x=ev env' x):xs.toList.map (ev env)=xs.toList.map (ev env'):=
 List.map_congr_left fun x hp=>hx x (by simpa using hp)
theorem Zzi {env env':Env} {h:Zaa} {o:Oper} (hx:∀ x∈o.op.operands,ev env x=ev env' x) {K:Zau→Zaa→Prop}:opA P env h o K ↔ opA P env' h o K:=by
 obtain ⟨dst,op,type,pos,after,guard⟩:=o
 cases op <;> simp only [Op.operands] at hx <;> simp only [opA,Zun]
 case build t ps=>rw [Zyb fun x h=>hx x (by simpa using h)]
 case buildSlice t n ps=>rw [Zyb fun x h=>hx x (by simpa using h)]
 case makeFunc fn first caps=>
  have hc:=Yam (xs:=caps) fun x h=>hx x (by simp [h])
  cases fn <;> simp only [hc]
 case call c=>
  simp only [Call.operands] at hx
  have ha:c.args.toList.map (ev env)=c.args.toList.map (ev env'):=Yam fun x h=>hx x (by simp [h])
  simp only [Ymq,Zun,ha]
  cases hc:c.callee with
  | value f=>
   have hf:ev env f=ev env' f:=hx f (by simp [hc])
   cases f <;> simp only [hf]
  | invoke r m=>exact Iff.rfl
  | builtin b=>cases b <;> exact Iff.rfl
 case slice t x lo hi mx=>
  cases lo <;> cases hi <;> cases mx <;> simp_all
 case makeMap t r=>cases r <;> simp_all
 all_goals (first | rfl | (simp_all; done))
end
end Go.Sim

set_option linter.unusedSimpArgs false
namespace Go.Sim
open Go Go.RowKit

structure Yax where
 i:Nat
 p:Zau
 n:Option Nat
def Yax.ok (d:Yax) (h h':Zaa):Prop:=match d.n with | none=>Zag h' d.p=Zag h d.p | some n=>Zbj h' d.p n=Zbj h d.p n
theorem Yax.ok_refl (d:Yax) (h:Zaa):d.ok h h:=by unfold Yax.ok; split <;> rfl
def Zrq (ops:Array Oper) (j i:Nat):Bool:=match ops[j]? with | some o=>o.after.any (fun e=>Region.binds .any e && e.on == i) | none=>false
def Ydd (ops:Array Oper) (j:Nat):List Yax→Zaa→Zaa→Prop→Prop
 | [],_,_,K=>K
 | d :: r,h,h',K=>(match Zrq ops j d.i with | true=>Ydd ops j r h h' K | false=>d.ok h h'∧Ydd ops j r h h' K)
theorem Zqd {ops:Array Oper} {j:Nat}:∀ {hs:List Yax} {h h':Zaa} {K:Prop},Ydd ops j hs h h' K→(∀ d∈hs,Zrq ops j d.i=true ∨ d.ok h h')∧K
 | [],_,_,_,hk=>⟨by simp,hk⟩
 | d :: r,h,h',K,hk=>by
  unfold Ydd at hk
  split at hk
  ·rename_i hw
   obtain ⟨a,b⟩:=Zqd hk
   exact ⟨fun x hx=>by rcases List.mem_cons.1 hx with rfl | hx; exact .inl hw; exact a x hx,b⟩
  ·obtain ⟨ho,hk⟩:=hk
   obtain ⟨a,b⟩:=Zqd hk
   exact ⟨fun x hx=>by rcases List.mem_cons.1 hx with rfl | hx; exact .inr ho; exact a x hx,b⟩

def Zwt (P:Program) (N:Nat) (ops:Array Oper) (i:Nat) (env:Env) (h:Zaa) (K:Env→Zaa→Prop):Prop:=
 match ops[i]? with | some o=>Zoj P N ops env h o K | none=>K env h
def Zrp (P:Program) (ops:Array Oper) (i:Nat) (env:Env):Yax:=
 match ops[i]? with
 | some o=>(match o.op with
  | .load t a=>(match isAgg P t with | true=>⟨i,ev env a,some (P.cellsOf t)⟩ | false=>⟨i,ev env a,none⟩)
  | _=>⟨i,.undef,none⟩)
 | none=>⟨i,.undef,none⟩
def Ytr (ops:Array Oper) (f:Op→Bool) (i:Nat):Bool:=match ops[i]? with | some o=>f o.op | none=>false
def Yuk (f:Nat→Prop):List Nat→Prop
 | []=>True
 | [i]=>f i
 | i :: r=>f i∧Yuk f r
theorem Yeg {f:Nat→Prop}:∀ {l:List Nat},Yuk f l→∀ i∈l,f i
 | [],_,i,hi=>by simp at hi
 | [j],h,i,hi=>by simp at hi; subst hi; exact h
 | j :: k :: r,h,i,hi=>by
  rcases List.mem_cons.1 hi with rfl | hi
  ·exact h.1
  ·exact Yeg h.2 i hi
def Yft (P:Program) (N:Nat) (ops:Array Oper) (ks:List Nat) (K:Env→Zaa→Prop):Nat→Array Bool→List Yax→Env→Zaa→Prop
 | 0,listed,_,env,h=>(match Region.ready .any ops listed with | []=>K (env.keep ks) h | _=>False)
 | f + 1,listed,hs,env,h=>
  (match Region.ready .any ops listed with
  | []=>K (env.keep ks) h
  | rs=>(match rs.find? (fun i=>Ytr ops (Ybt P) i && Region.free .any ops listed i) with
   | some i=>Zwt P N ops i env h fun env' h'=>Yft P N ops ks K f (listed.setIfInBounds i true) hs env' h'
   | none=>(match (match rs with | [_]=>none | _=>rs.find? (fun i=>Ytr ops Yqa i && Region.free .any ops listed i)) with
    | some i=>Zwt P N ops i env h fun env' h'=>Yft P N ops ks K f (listed.setIfInBounds i true) (Zrp P ops i env :: hs) env' h'
    | none=>Yuk (fun i=>Zwt P N ops i env h fun env' h'=>Ydd ops i hs h h' (Yft P N ops ks K f (listed.setIfInBounds i true) hs env' h')) rs)))

def Yoy (P:Program) (N:Nat) (ops:Array Oper) (K:Env→Zaa→Prop) (hs:List Yax):Nat→Array Bool→Env→Zaa→Prop
 | 0,listed,env,h=>Region.ready .any ops listed=[]∧K env h
 | f + 1,listed,env,h=>(Region.ready .any ops listed=[]→K env h) ∧
  ∀ i∈Region.ready .any ops listed,Zwt P N ops i env h fun env' h'=>(∀ d∈hs,Zrq ops i d.i=true ∨ d.ok h h')∧Yoy P N ops K hs f (listed.setIfInBounds i true) env' h'

def Yfw (env env':Env):Prop:=∀ t,env.get t=env'.get t
def Zvu (o:Oper) (env:Env) (v:Zau) (env1:Env):Prop:=∀ t,env1.get t=if o.dst=some t then v else env.get t

section
variable {P:Program} {N:Nat} {ops:Array Oper}

theorem Yfm {env env':Env} {d:Option Tmp} {v:Zau} {K K':Env→Prop} (hk:Ztd N env d v K)
  (hK:∀ env1 env1',(∀ t,env1.get t=if d=some t then v else env.get t)→(∀ t,env1'.get t=if d=some t then v else env'.get t)→K env1→K' env1'):Ztd N env' d v K':=by
 unfold Ztd at *
 cases d with
 | none=>exact hK env env' (by simp) (by simp) hk
 | some d=>
  refine Zde hk fun hk=>hK _ _ ?_ ?_ hk
  ·intro t; rw [Env.get_set]; by_cases e:t=d <;> simp [e,eq_comm]; exact fun q=>absurd q.symm e
  ·intro t; rw [Env.get_set]; by_cases e:t=d <;> simp [e,eq_comm]; exact fun q=>absurd q.symm e

theorem Zqw {env env':Env} {o:Oper} (hl:∀ t∈o.looksAt ops,env.get t=env'.get t):∀ x∈o.op.operands,ev env x=ev env' x:=fun x hx=>by
 cases x with
 | tmp t=>exact hl t (List.mem_append_left _ (List.mem_filterMap.2 ⟨.tmp t,by simpa using hx,rfl⟩))
 | _=>rfl
theorem Zha {env:Env} {t:Nat} {v:Zau} (h:env.get t=v) (s:Nat):(env.set t v).get s=env.get s:=by
 rw [Env.get_set]; split
 ·rename_i e; subst e; exact h.symm
 ·rfl
theorem Ysa {env env':Env} {h h2:Zaa} {o:Oper} {K K':Env→Zaa→Prop} (hs:Zoj P N ops env h o K) (hl:∀ t∈o.looksAt ops,env.get t=env'.get t)
  (hop:∀ (e1 e2:Env),(∀ x∈o.op.operands,ev e1 x=ev e2 x)→(∀ t,e1.get t=env.get t)→∀ (A B:Zau→Zaa→Prop),opA P e1 h o A→(∀ v h',A v h'→B v h')→opA P e2 h2 o B)
  (hun:∀ e1 e2,Yfw e1 env→Yfw e2 env'→Ztd N e1 o.dst (.tup []) (fun x=>K x h)→Ztd N e2 o.dst (.tup []) (fun x=>K' x h2))
  (hK:∀ v h' env1 env1',Zvu o env v env1→Zvu o env' v env1'→K env1 h'→K' env1' h'):Zoj P N ops env' h2 o K':=by
 unfold Zoj at *
 cases hg:o.guard with
 | none=>
  simp only [hg] at hs ⊢
  exact hop env env' (Zqw hl) (fun _=>rfl) _ _ hs fun v h' hp=>Yfm hp fun e1 e2 a b k=>hK v h' e1 e2 a b k
 | some g=>
  obtain ⟨j,want⟩:=g
  simp only [hg] at hs ⊢
  cases ht:(ops[j]?).bind (·.dst) with
  | none=>simp only [ht] at hs
  | some t=>
   simp only [ht] at hs ⊢
   have htl:env.get t=env'.get t:=hl t (List.mem_append_right _ (by simp [hg,ht]))
   rw [← htl]
   split at hs
   ·rename_i b hb
    have key:∀ c,b=c→(opA P (env.set t (.bool c)) h o (fun v h'=>Ztd N (env.set t (.bool c)) o.dst v fun env'=>K env' h')→opA P (env'.set t (.bool c)) h2 o (fun v h'=>Ztd N (env'.set t (.bool c)) o.dst v fun env'=>K' env' h')) ∧
      (Ztd N (env.set t (.bool c)) o.dst (.tup []) (fun env'=>K env' h)→Ztd N (env'.set t (.bool c)) o.dst (.tup []) (fun env'=>K' env' h2)):=by
     intro c e
     subst e
     have k1:=Zha hb
     have k2:=Zha (htl ▸ hb:env'.get t=.bool b)
     constructor
     ·intro ho
      refine hop _ _ (Zqw fun s hs=>by rw [k1,k2]; exact hl s hs) k1 _ _ ho fun v h' hp=>Yfm hp fun e1 e2 a b k=>hK v h' e1 e2 ?_ ?_ k
      ·intro s; rw [a s,k1]
      ·intro s; rw [b s,k2]
     ·exact hun _ _ k1 k2
    cases b
    ·obtain ⟨k1,k2⟩:=key false rfl
     cases want
     ·exact k1 hs
     ·exact k2 hs
    ·obtain ⟨k1,k2⟩:=key true rfl
     cases want
     ·exact k2 hs
     ·exact k1 hs
   ·exact hun env env' (fun _=>rfl) (fun _=>rfl) hs
   ·exact hs.elim

theorem Zyl {env env':Env} {h:Zaa} {o:Oper} {K K':Env→Zaa→Prop} (hs:Zoj P N ops env h o K) (hl:∀ t∈o.looksAt ops,env.get t=env'.get t)
  (hK:∀ v h' env1 env1',Zvu o env v env1→Zvu o env' v env1'→K env1 h'→K' env1' h'):Zoj P N ops env' h o K':=
 Ysa hs hl (fun e1 e2 hx _ A B ha hm=>Ypi ((Zzi hx).1 ha) hm)
  (fun e1 e2 q1 q2 hp=>Yfm hp fun f1 f2 a b k=>hK _ _ f1 f2 (fun t=>by rw [a t,q1 t]) (fun t=>by rw [b t,q2 t]) k) hK

def Yd (P:Program) (N:Nat) (ops:Array Oper) (o:Oper) (v:Zau) (env:Env) (h:Zaa):Prop:=
 ∀ K:Env→Zaa→Prop,(∀ env1,Zvu o env v env1→K env1 h)→Zoj P N ops env h o K

theorem Zvd {K:Env→Zaa→Prop} {hs hs':List Yax} (hsub:∀ d∈hs,d∈hs'):∀ (f:Nat) {listed:Array Bool} {env env':Env} {h:Zaa},(∀ e e' h,Yfw e e'→K e h→K e' h)→Yfw env env' →
  Yoy P N ops K hs' f listed env h→Yoy P N ops K hs f listed env' h
 | 0,_,_,_,_,hK,he,hh=>⟨hh.1,hK _ _ _ he hh.2⟩
 | f + 1,listed,env,env',h,hK,he,hh=>by
  refine ⟨fun hr=>hK _ _ _ he (hh.1 hr),fun i hi=>?_⟩
  have:=hh.2 i hi
  unfold Zwt at *
  cases ho:ops[i]? with
  | none=>
   rw [ho] at this
   exact ⟨fun d hd=>this.1 d (hsub d hd),Zvd hsub f hK he this.2⟩
  | some o=>
   rw [ho] at this
   refine Zyl this (fun t _=>he t) fun v h' e1 e2 a b k=>⟨fun d hd=>k.1 d (hsub d hd),Zvd hsub f hK (fun t=>?_) k.2⟩
   rw [a t,b t,he t]

theorem Yai {K:Env→Zaa→Prop} {hs hs':List Yax} (hK:∀ e e' h,Yfw e e'→K e h→K e' h) (hsub:∀ d∈hs,d∈hs') {i:Nat} {oi:Oper} {v:Zau} (hi:ops[i]?=some oi) {T:Zaa→Zaa→Prop}
  (hT:∀ j h h1,Zrq ops j i=false→(∀ d∈hs',Zrq ops j d.i=true ∨ d.ok h h1)→T h h1)
  {Y:Env→Zaa→Prop} (hY:∀ env h,Y env h→Yd P N ops oi v env h)
  (hst:∀ env h env1 h1,Y env h→(∀ t∈oi.looksAt ops,env.get t=env1.get t)→T h h1→Y env1 h1) :
  ∀ (fuel:Nat) (listed:Array Bool) (env env1:Env) (h:Zaa),
   (∀ j oj,ops[j]?=some oj→j≠i→listed.getD j true=false→(∀ e∈oj.after,Region.binds .any e=true→e.on≠i)→oi.apart ops oj=true) →
   i∈Region.ready .any ops listed→Y env h→Zvu oi env v env1 →
   Yoy P N ops K hs' fuel (listed.setIfInBounds i true) env1 h→Yoy P N ops K hs (fuel + 1) listed env h:=by
 intro fuel
 have now:∀ (fuel:Nat) (listed:Array Bool) (env env1:Env) (h:Zaa),Y env h→Zvu oi env v env1→Yoy P N ops K hs' fuel (listed.setIfInBounds i true) env1 h →
   Zwt P N ops i env h fun env' h'=>(∀ d∈hs,Zrq ops i d.i=true ∨ d.ok h h')∧Yoy P N ops K hs fuel (listed.setIfInBounds i true) env' h':=by
  intro fuel listed env env1 h hy ha H
  unfold Zwt
  rw [hi]
  exact hY _ _ hy _ fun env2 h2=>⟨fun d _=>.inr (d.ok_refl h),Zvd hsub fuel hK (fun t=>by rw [ha t,h2 t]) H⟩
 induction fuel with
 | zero=>
  intro listed env env1 h _ hr hy ha H
  refine ⟨fun e=>(by rw [e] at hr; cases hr),fun j hj=>?_⟩
  by_cases hji:j=i
  ·subst hji; exact now 0 listed env env1 h hy ha H
  ·have:=ready_mono hj hji
   rw [H.1] at this
   cases this
 | succ fuel ih=>
  intro listed env env1 h hfree hr hy ha H
  refine ⟨fun e=>(by rw [e] at hr; cases hr),fun j hj=>?_⟩
  by_cases hji:j=i
  ·subst hji; exact now (fuel + 1) listed env env1 h hy ha H
  ·have h1:=H.2 j (ready_mono hj hji)
   obtain ⟨hjun,oj,hoj,hall⟩:=mem_ready.1 hj
   have hnot:∀ e∈oj.after,Region.binds .any e=true→e.on≠i:=fun e he hb heq=>by
    have h1:=hall e he hb
    have h0:=(mem_ready.1 hr).1
    rw [heq] at h1
    rcases Nat.lt_or_ge i listed.size with h' | h'
    ·simp [h'] at h0 h1; rw [h0] at h1; cases h1
    ·simp [Array.getElem?_eq_none h'] at h1
   have hw:Zrq ops j i=false:=by
    unfold Zrq
    rw [hoj]
    simp only [Array.any_eq_false]
    intro q hq
    simp only [Bool.and_eq_true,beq_iff_eq,not_and]
    intro hb
    exact hnot _ (Array.getElem_mem hq) hb
   obtain ⟨a1,a2,a3⟩:=Oper.apart_spec (hfree j oj hoj hji hjun hnot)
   unfold Zwt at h1 ⊢
   rw [hoj] at h1 ⊢
   refine Zyl h1 (fun t ht=>?_) fun u h' e1 e2 q1 q2 k=>?_
   ·rw [ha t,if_neg (fun e=>a1 t e ht)]
   ·refine ⟨fun d hd=>k.1 d (hsub d hd),ih (listed.setIfInBounds j true) e2 e1 h' ?_ (ready_mono hr (Ne.symm hji)) ?_ ?_ ?_⟩
    ·intro k ok hk hki hun hno
     refine hfree k ok hk hki ?_ hno
     by_cases hjk:j=k
     ·subst hjk; exact hjun
     ·rw [getD_set_ne true hjk] at hun; exact hun
    ·refine hst env h e2 h' hy (fun t ht=>?_) (hT j h h' hw k.1)
     rw [q2 t,if_neg (fun e=>a3 t e ht)]
    ·intro t
     rw [q1 t,q2 t,ha t]
     by_cases x:oj.dst=some t <;> by_cases y:oi.dst=some t <;> simp [x,y]
     exact absurd x (a2 t y)
    ·rw [Array.setIfInBounds_comm _ _ hji]
     exact k.2
end
end Go.Sim

set_option linter.unusedSimpArgs false
namespace Go.Sim
open Go Go.RowKit

section
variable {P:Program} {N:Nat} {ops:Array Oper}

theorem Ylf {o:Oper} (hr:Ybt P o.op=true) {env:Env} {h:Zaa} {K:Env→Zaa→Prop} (hs:Zoj P N ops env h o K) :
  ∃ v,(∃ env1,Zvu o env v env1∧K env1 h)∧∀ env' h',(∀ t∈o.looksAt ops,env.get t=env'.get t)→Yd P N ops o v env' h':=by
 have core:∀ (e:Env) (A:Zau→Zaa→Prop),opA P e h o A→∃ v,A v h∧∀ (e2:Env) (h2:Zaa) (B:Zau→Zaa→Prop),(∀ x∈o.op.operands,ev e x=ev e2 x)→B v h2→opA P e2 h2 o B:=by
  intro e A ha
  obtain ⟨v,hv,r⟩:=Ykw e o _ ((Zzk hr).1 ha)
  exact ⟨v,hv,fun e2 h2 B hx hb=>(Zzi hx).1 ((Zzk hr).2 (r (fun v=>B v h2) hb))⟩
 have put:∀ {e:Env} {v:Zau} {K:Env→Prop},Ztd N e o.dst v K→(∃ e1,(∀ t,e1.get t=if o.dst=some t then v else e.get t)∧K e1)∧∀ (e2:Env) (K2:Env→Prop),(∀ e3,(∀ t,e3.get t=if o.dst=some t then v else e2.get t)→K2 e3)→Ztd N e2 o.dst v K2:=by
  intro e v K hp
  unfold Ztd at *
  cases hd:o.dst with
  | none=>simp only [hd] at hp ⊢; exact ⟨⟨e,by simp,hp⟩,fun e2 K2 h=>h e2 (by simp)⟩
  | some d=>
   simp only [hd] at hp ⊢
   have hc:=Zcc hp
   refine ⟨⟨_,?_,hc.2⟩,fun e2 K2 h=>?_⟩
   ·intro t; rw [Env.get_set]; by_cases q:t=d
    ·subst q; simp
    ·rw [if_neg q,if_neg (by simp; exact fun x=>q x.symm)]
   ·unfold chk; rw [decide_eq_true hc.1]
    refine h _ fun t=>?_
    rw [Env.get_set]; by_cases q:t=d
    ·subst q; simp
    ·rw [if_neg q,if_neg (by simp; exact fun x=>q x.symm)]
 unfold Zoj at hs
 cases hg:o.guard with
 | none=>
  simp only [hg] at hs
  obtain ⟨v,hv,r⟩:=core env _ hs
  obtain ⟨⟨e1,h1,k1⟩,q⟩:=put hv
  refine ⟨v,⟨e1,h1,k1⟩,fun env' h' hl K hK=>?_⟩
  unfold Zoj
  simp only [hg]
  exact r env' h' _ (Zqw hl) (q env' _ fun e3 a=>hK e3 a)
 | some g=>
  obtain ⟨j,want⟩:=g
  simp only [hg] at hs
  cases ht:(ops[j]?).bind (·.dst) with
  | none=>simp only [ht] at hs
  | some t=>
   simp only [ht] at hs
   split at hs
   ·rename_i b hb
    have htl:∀ env':Env,(∀ t∈o.looksAt ops,env.get t=env'.get t)→env'.get t=.bool b:=fun env' hl=>by
     rw [← hl t (List.mem_append_right _ (by simp [hg,ht]))]; exact hb
    have go:∀ c,b=c→opA P (env.set t (.bool c)) h o (fun v h'=>Ztd N (env.set t (.bool c)) o.dst v fun env'=>K env' h')→want=c →
      ∃ v,(∃ env1,Zvu o env v env1∧K env1 h)∧∀ env' h',(∀ t∈o.looksAt ops,env.get t=env'.get t)→Yd P N ops o v env' h':=by
     intro c e ho hw
     subst e; subst hw
     obtain ⟨v,hv,r⟩:=core _ _ ho
     obtain ⟨⟨e1,h1,k1⟩,q⟩:=put hv
     refine ⟨v,⟨e1,fun s=>by rw [h1 s,Zha hb],k1⟩,fun env' h' hl K hK=>?_⟩
     have hb':=htl env' hl
     unfold Zoj
     simp only [hg,ht,hb']
     have body:opA P (env'.set t (.bool want)) h' o fun v h'_1=>Ztd N (env'.set t (.bool want)) o.dst v fun env'=>K env' h'_1:=
      r _ h' _ (Zqw fun s hs=>by rw [Zha hb,Zha hb']; exact hl s hs) (q _ _ fun e3 a=>hK e3 fun s=>by rw [a s,Zha hb'])
     cases want <;> exact body
    have skip:∀ c,b=c→Ztd N (env.set t (.bool c)) o.dst (.tup []) (fun env'=>K env' h)→want≠c →
      ∃ v,(∃ env1,Zvu o env v env1∧K env1 h)∧∀ env' h',(∀ t∈o.looksAt ops,env.get t=env'.get t)→Yd P N ops o v env' h':=by
     intro c e ho hw
     subst e
     obtain ⟨⟨e1,h1,k1⟩,q⟩:=put ho
     refine ⟨.tup [],⟨e1,fun s=>by rw [h1 s,Zha hb],k1⟩,fun env' h' hl K hK=>?_⟩
     have hb':=htl env' hl
     unfold Zoj
     simp only [hg,ht,hb']
     have body:Ztd N (env'.set t (.bool b)) o.dst (.tup []) fun env'=>K env' h':=q _ _ fun e3 a=>hK e3 fun s=>by rw [a s,Zha hb']
     cases b <;> cases want <;> first | exact body | exact absurd rfl hw
    cases b
    ·cases want
     ·exact go false rfl hs rfl
     ·exact skip false rfl hs (by simp)
    ·cases want
     ·exact skip true rfl hs (by simp)
     ·exact go true rfl hs rfl
   ·rename_i hb
    obtain ⟨⟨e1,h1,k1⟩,q⟩:=put hs
    refine ⟨.tup [],⟨e1,h1,k1⟩,fun env' h' hl K hK=>?_⟩
    have hb':env'.get t=.tup []:=by rw [← hl t (List.mem_append_right _ (by simp [hg,ht]))]; exact hb
    unfold Zoj
    simp only [hg,ht,hb']
    exact q _ _ fun e3 a=>hK e3 a
   ·exact hs.elim

theorem Yim {t:TypeId} {h h':Zaa} {p:Zau} {k:Zau→Prop} (hc:(match isAgg P t with | true=>Zbj h' p (P.cellsOf t)=Zbj h p (P.cellsOf t) | false=>Zag h' p=Zag h p)) (hk:Zwu P t h p k):Zwu P t h' p k:=by
 unfold Zwu at *
 cases ha:isAgg P t with
 | true=>simp only [ha] at hc hk ⊢; rw [hc]; exact hk
 | false=>simp only [ha] at hc hk ⊢; rw [hc]; exact hk

theorem Ymn {i:Nat} {o:Oper} (hi:ops[i]?=some o) (hr:Yqa o.op=true) {env:Env} {h:Zaa} {K:Env→Zaa→Prop} (hs:Zoj P N ops env h o K) :
  ∃ v,(∃ env1,Zvu o env v env1∧K env1 h)∧∀ env' h',(∀ t∈o.looksAt ops,env.get t=env'.get t)→(Zrp P ops i env).ok h h'→Yd P N ops o v env' h':=by
 obtain ⟨t,a,hop⟩:∃ t a,o.op=.load t a:=by
  cases hq:o.op <;> simp [hq,Yqa] at hr
  exact ⟨_,_,rfl⟩
 have hold:∀ h',(Zrp P ops i env).ok h h'→(match isAgg P t with | true=>Zbj h' (ev env a) (P.cellsOf t)=Zbj h (ev env a) (P.cellsOf t) | false=>Zag h' (ev env a)=Zag h (ev env a)):=by
  intro h' hh
  unfold Zrp Yax.ok at hh
  rw [hi] at hh
  simp only [hop] at hh
  cases ha:isAgg P t <;> simp only [ha] at hh ⊢ <;> exact hh
 have core:∀ (e:Env) (A:Zau→Zaa→Prop),(∀ x∈o.op.operands,ev env x=ev e x)→opA P e h o A→∃ v,A v h∧∀ (e2:Env) (h2:Zaa) (B:Zau→Zaa→Prop),(∀ x∈o.op.operands,ev e x=ev e2 x)→(Zrp P ops i env).ok h h2→B v h2→opA P e2 h2 o B:=by
  intro e A hx0 ha
  have hxa:ev env a=ev e a:=hx0 a (by simp [hop,Op.operands])
  unfold opA at ha
  simp only [hop] at ha
  have hc:=Zcc ha
  obtain ⟨v,hv,r⟩:=Ykj t h (ev e a) _ hc.2
  refine ⟨v,hv,fun e2 h2 B hx hh hb=>(Zzi hx).1 ?_⟩
  unfold opA
  simp only [hop]
  unfold chk; rw [decide_eq_true hc.1]
  have:=hold h2 hh
  rw [hxa] at this
  exact Yim this (r (fun v=>B v h2) hb)
 have put:∀ {e:Env} {v:Zau} {K:Env→Prop},Ztd N e o.dst v K→(∃ e1,(∀ t,e1.get t=if o.dst=some t then v else e.get t)∧K e1)∧∀ (e2:Env) (K2:Env→Prop),(∀ e3,(∀ t,e3.get t=if o.dst=some t then v else e2.get t)→K2 e3)→Ztd N e2 o.dst v K2:=by
  intro e v K hp
  unfold Ztd at *
  cases hd:o.dst with
  | none=>simp only [hd] at hp ⊢; exact ⟨⟨e,by simp,hp⟩,fun e2 K2 h=>h e2 (by simp)⟩
  | some d=>
   simp only [hd] at hp ⊢
   have hc:=Zcc hp
   refine ⟨⟨_,?_,hc.2⟩,fun e2 K2 h=>?_⟩
   ·intro t; rw [Env.get_set]; by_cases q:t=d
    ·subst q; simp
    ·rw [if_neg q,if_neg (by simp; exact fun x=>q x.symm)]
   ·unfold chk; rw [decide_eq_true hc.1]
    refine h _ fun t=>?_
    rw [Env.get_set]; by_cases q:t=d
    ·subst q; simp
    ·rw [if_neg q,if_neg (by simp; exact fun x=>q x.symm)]
 unfold Zoj at hs
 cases hg:o.guard with
 | none=>
  simp only [hg] at hs
  obtain ⟨v,hv,r⟩:=core env _ (fun _ _=>rfl) hs
  obtain ⟨⟨e1,h1,k1⟩,q⟩:=put hv
  refine ⟨v,⟨e1,h1,k1⟩,fun env' h' hl hh K hK=>?_⟩
  unfold Zoj
  simp only [hg]
  exact r env' h' _ (Zqw hl) hh (q env' _ fun e3 a=>hK e3 a)
 | some g=>
  obtain ⟨j,want⟩:=g
  simp only [hg] at hs
  cases ht:(ops[j]?).bind (·.dst) with
  | none=>simp only [ht] at hs
  | some t=>
   simp only [ht] at hs
   split at hs
   ·rename_i b hb
    have htl:∀ env':Env,(∀ t∈o.looksAt ops,env.get t=env'.get t)→env'.get t=.bool b:=fun env' hl=>by
     rw [← hl t (List.mem_append_right _ (by simp [hg,ht]))]; exact hb
    have go:∀ c,b=c→opA P (env.set t (.bool c)) h o (fun v h'=>Ztd N (env.set t (.bool c)) o.dst v fun env'=>K env' h')→want=c →
      ∃ v,(∃ env1,Zvu o env v env1∧K env1 h)∧∀ env' h',(∀ t∈o.looksAt ops,env.get t=env'.get t)→(Zrp P ops i env).ok h h'→Yd P N ops o v env' h':=by
     intro c e ho hw
     subst e; subst hw
     obtain ⟨v,hv,r⟩:=core _ _ (Zqw (ops:=ops) fun s _=>by rw [Zha hb]) ho
     obtain ⟨⟨e1,h1,k1⟩,q⟩:=put hv
     refine ⟨v,⟨e1,fun s=>by rw [h1 s,Zha hb],k1⟩,fun env' h' hl hh K hK=>?_⟩
     have hb':=htl env' hl
     unfold Zoj
     simp only [hg,ht,hb']
     have body:opA P (env'.set t (.bool want)) h' o fun v h'_1=>Ztd N (env'.set t (.bool want)) o.dst v fun env'=>K env' h'_1:=
      r _ h' _ (Zqw fun s hs=>by rw [Zha hb,Zha hb']; exact hl s hs) hh (q _ _ fun e3 a=>hK e3 fun s=>by rw [a s,Zha hb'])
     cases want <;> exact body
    have skip:∀ c,b=c→Ztd N (env.set t (.bool c)) o.dst (.tup []) (fun env'=>K env' h)→want≠c →
      ∃ v,(∃ env1,Zvu o env v env1∧K env1 h)∧∀ env' h',(∀ t∈o.looksAt ops,env.get t=env'.get t)→(Zrp P ops i env).ok h h'→Yd P N ops o v env' h':=by
     intro c e ho hw
     subst e
     obtain ⟨⟨e1,h1,k1⟩,q⟩:=put ho
     refine ⟨.tup [],⟨e1,fun s=>by rw [h1 s,Zha hb],k1⟩,fun env' h' hl _ K hK=>?_⟩
     have hb':=htl env' hl
     unfold Zoj
     simp only [hg,ht,hb']
     have body:Ztd N (env'.set t (.bool b)) o.dst (.tup []) fun env'=>K env' h':=q _ _ fun e3 a=>hK e3 fun s=>by rw [a s,Zha hb']
     cases b <;> cases want <;> first | exact body | exact absurd rfl hw
    cases b
    ·cases want
     ·exact go false rfl hs rfl
     ·exact skip false rfl hs (by simp)
    ·cases want
     ·exact skip true rfl hs (by simp)
     ·exact go true rfl hs rfl
   ·rename_i hb
    obtain ⟨⟨e1,h1,k1⟩,q⟩:=put hs
    refine ⟨.tup [],⟨e1,h1,k1⟩,fun env' h' hl _ K hK=>?_⟩
    have hb':env'.get t=.tup []:=by rw [← hl t (List.mem_append_right _ (by simp [hg,ht]))]; exact hb
    unfold Zoj
    simp only [hg,ht,hb']
    exact q _ _ fun e3 a=>hK e3 a
   ·exact hs.elim

theorem Ypd {env env':Env} (h:Yfw env env') (ks:List Nat):env.keep ks=env'.keep ks:=List.map_congr_left fun t _=>by rw [h t]
theorem Yax.ok_trans {d:Yax} {a b c:Zaa} (h:d.ok a b) (k:d.ok b c):d.ok a c:=by
 unfold Yax.ok at *; split at h <;> simp_all

theorem Zuj {ks:List Nat} {K:Env→Zaa→Prop}:∀ (f:Nat) (listed:Array Bool) (hs:List Yax) (env:Env) (h:Zaa),Yft P N ops ks K f listed hs env h →
  Yoy P N ops (fun env h=>K (env.keep ks) h) hs f listed env h
 | 0,listed,hs,env,h,hd=>by
  unfold Yft at hd
  split at hd
  ·rename_i hr; exact ⟨hr,hd⟩
  ·exact hd.elim
 | f + 1,listed,hs,env,h,hd=>by
  have hK:∀ e e' h,Yfw e e'→K (e.keep ks) h→K (e'.keep ks) h:=fun e e' h he hk=>by rw [← Ypd he]; exact hk
  unfold Yft at hd
  split at hd
  ·rename_i hr; exact ⟨fun _=>hd,by rw [hr]; simp⟩
  ·rename_i hne
   split at hd
   ·rename_i i hi
    have hmem:=List.mem_of_find?_eq_some hi
    have hp:=List.find?_some hi
    simp only [Bool.and_eq_true] at hp
    obtain ⟨hp1,hp2⟩:=hp
    unfold Ytr at hp1
    split at hp1
    ·rename_i o ho
     unfold Zwt at hd
     rw [ho] at hd
     obtain ⟨v,⟨env1,ha,hk⟩,hy⟩:=Ylf hp1 hd
     exact Yai (T:=fun _ _=>True) (Y:=fun e _=>∀ t∈o.looksAt ops,env.get t=e.get t) hK (hs':=hs) (fun d hd=>hd) ho (fun _ _ _ _ _=>trivial) (fun e h' he=>hy e h' he)
      (fun e1 _ e2 _ y hl _ t ht=>(y t ht).trans (hl t ht)) f listed env env1 h (Region.free_spec ho hp2) hmem (fun _ _=>rfl) ha (Zuj f _ _ _ _ hk)
    ·cases hp1
   ·split at hd
    ·rename_i i hi
     have hi':(Region.ready .any ops listed).find? (fun i=>Ytr ops Yqa i && Region.free .any ops listed i)=some i:=by
      split at hi
      ·cases hi
      ·exact hi
     have hmem:=List.mem_of_find?_eq_some hi'
     have hp:=List.find?_some hi'
     simp only [Bool.and_eq_true] at hp
     obtain ⟨hp1,hp2⟩:=hp
     unfold Ytr at hp1
     split at hp1
     ·rename_i o ho
      unfold Zwt at hd
      rw [ho] at hd
      obtain ⟨v,⟨env1,ha,hk⟩,hy⟩:=Ymn ho hp1 hd
      have hid:(Zrp P ops i env).i=i:=by unfold Zrp; split <;> (try split) <;> (try split) <;> rfl
      exact Yai (T:=fun a b=>(Zrp P ops i env).ok a b) (Y:=fun e h'=>(∀ t∈o.looksAt ops,env.get t=e.get t)∧(Zrp P ops i env).ok h h') hK (hs':=Zrp P ops i env :: hs) (fun d hd=>List.mem_cons_of_mem _ hd) ho
       (fun j a b hw hall=>by
        have:=hall _ (List.mem_cons_self ..)
        rw [hid,hw] at this
        exact this.resolve_left (by simp)) (fun e h' he=>hy e h' he.1 he.2)
       (fun e1 _ e2 _ y hl ht=>⟨fun t htt=>(y.1 t htt).trans (hl t htt),Yax.ok_trans y.2 ht⟩) f listed env env1 h (Region.free_spec ho hp2) hmem ⟨fun _ _=>rfl,Yax.ok_refl _ _⟩ ha (Zuj f _ _ _ _ hk)
     ·cases hp1
    ·refine ⟨fun hr=>absurd hr hne,fun i hi=>?_⟩
     have:=Yeg hd i hi
     unfold Zwt at this ⊢
     cases ho:ops[i]? with
     | none=>
      rw [ho] at this
      obtain ⟨a,b⟩:=Zqd this
      exact ⟨a,Zuj f _ _ _ _ b⟩
     | some o=>
      rw [ho] at this
      refine Zyl this (fun _ _=>rfl) fun v h' e1 e2 q1 q2 k=>?_
      obtain ⟨a,b⟩:=Zqd k
      exact ⟨a,Zvd (fun d hd=>hd) f hK (fun t=>by rw [q1 t,q2 t]) (Zuj f _ _ _ _ b)⟩
end
end Go.Sim
