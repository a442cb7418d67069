/- A part of the proof of a statement of this seat: see the text that holds the theorem. No condition. -/
import Derived.Test.YtdglddliggejdaaSimIc
import Derived.LaidEqlPtr
import Derived.Orders
set_option linter.unusedVariables false
set_option linter.unusedSimpArgs false
set_option linter.all false
set_option linter.unusedSimpArgs false
namespace Go.Sim
open Go Go.RowKit

def Zdc (h:Zaa) (i:Nat):Bool:=match h[i]? with | some (.cells _ _ false)=>true | _=>false
def Zlu (P:Program) (t:TypeId):Bool:=match P.underlying t with | some (.pointer e)=>(match P.info? e with | some j=>!(Nat.beq j.size 0) | none=>false) | _=>false
def Ymp (h:Zaa) (p q:Nat × Nat) (K:Bool→Prop):Prop:=(p=q∧K true) ∨ (p.1≠q.1∧Zdc h p.1=true∧Zdc h q.1=true∧K false)
def Zpu (h:Zaa) (a b:Option (Nat × Nat)) (K:Bool→Prop):Prop:=
 match b with | none=>K a.isNone | some q=>(match a with | none=>K false | some p=>Ymp h p q K)
def Yhr (P:Program) (op:BinOp) (t:TypeId) (h:Zaa) (a b:Option (Nat × Nat)) (K:Zag→Zaa→Prop):Prop:=
 match op with
 | .eql=>chk (Zlu P t=true) (Zpu h a b fun e=>K (.bool e) h)
 | .neq=>chk (Zlu P t=true) (Zpu h a b fun e=>K (.bool (!e)) h)
 | _=>False
def Zje (h:Zaa):List ME→(Nat × Nat)→Nat→Option (Option (Nat × Zag))
 | [],_,_=>some none
 | (.ptr (some q),v,_) :: r,p,i=>if p=q then some (some (i,v)) else if p.1≠q.1∧Zdc h p.1=true∧Zdc h q.1=true then Zje h r p (i + 1) else none
 | _ :: _,_,_=>none
def Zqv (r:Option (Option (Nat × Zag))) (K:Option Zag→Prop):Prop:=match r with | some (some (_,v))=>K (some v) | some none=>K none | none=>False
def Ygv (r:Option (Option (Nat × Zag))) (es:List ME) (clk:Nat) (p:Nat × Nat) (v:Zag) (K:List ME→Nat→Prop):Prop:=
 match r with
 | some (some (i,_))=>K (es.modify i fun e=>(.ptr (some p),v,e.2.2)) clk
 | some none=>K (es ++ [(.ptr (some p),v,clk)]) (clk + 1)
 | none=>False
def Yhw (r:Option (Option (Nat × Zag))) (es:List ME) (K:List ME→Prop):Prop:=match r with | some (some (i,_))=>K (es.eraseIdx i) | some none=>K es | none=>False
def okV (ok:Bool) (r:Option Zag) (v:Zag):Zag:=match ok with | true=>.tup [v,.bool r.isSome] | false=>v
def Zmr (P:Program) (t:TypeId) (h:Zaa) (m k:Zag) (ok:Bool) (K:Zag→Prop):Prop:=
 match P.underlying t with
 | some (.map kt et)=>chk (Zlu P kt=true∧isAgg P et=false) (match m with
  | .map a=>Zfg (some k) fun q=>Zbf q fun i o=>Zxs (Ygi P et) fun z=>Zdi h a fun es _=>Zqv (Zje h es (i,o) 0) fun r=>xv (Zil P et) (some (r.getD z)) fun v=>K (okV ok r v)
  | _=>False)
 | _=>False
def Zhm (P:Program) (t:TypeId) (h:Zaa) (m k v:Zag) (K:Zag→Zaa→Prop):Prop:=
 match P.underlying t with
 | some (.map kt _)=>chk (Zlu P kt=true) (match m with
  | .map a=>xMp a fun mi=>Zfg (some k) fun q=>Zbf q fun i o=>Zdi h (some mi) fun es clk=>Ygv (Zje h es (i,o) 0) es clk (i,o) v fun es' clk'=>K .undef (h.set mi (.map es' clk'))
  | _=>False)
 | _=>False
def Zpg (P:Program) (t:TypeId) (h:Zaa) (m k:Zag) (K:Zag→Zaa→Prop):Prop:=
 match P.underlying t with
 | some (.map kt _)=>chk (Zlu P kt=true) (match m with
  | .map a=>xMp a fun mi=>Zfg (some k) fun q=>Zbf q fun i o=>Zdi h (some mi) fun es clk=>Yhw (Zje h es (i,o) 0) es fun es'=>K (.tup []) (h.set mi (.map es' clk))
  | _=>False)
 | _=>False
def Yic (P:Program) (t:TypeId):Bool:=match P.underlying t with | some (.map kt _)=>Zoo P kt | _=>false
def Yii (x:Operand):Bool:=match x with | .const (.pointer none)=>true | _=>false

section
variable {P:Program} {base:Nat} {w0:World} {μ:List Pl} {h:Zaa} {w:World}
theorem Zml {t:TypeId} (h:Zlu P t=true):∃ e j,P.underlying t=some (.pointer e)∧P.info? e=some j∧j.size≠0:=by
 unfold Zlu at h
 split at h
 ·rename_i e he
  split at h
  ·rename_i j hj
   refine ⟨e,j,he,hj,fun h0=>?_⟩
   rw [h0] at h; simp at h
  ·cases h
 ·cases h
theorem Znp {i:Nat} (hh:Zdc h i=true):∃ t cs,h[i]?=some (.cells t cs false):=by
 unfold Zdc at hh
 split at hh
 ·rename_i t cs he; exact ⟨t,cs,he⟩
 ·cases hh
theorem Zvr (r:Rel P base w0 μ h w) {i:Nat} {e:Pl} (he:μ[i]?=some e) (hh:Zdc h i=true):∃ C t,w.heap[e.b]?=some (.cells C t (0,0)):=by
 obtain ⟨t,cs,hi⟩:=Znp hh
 obtain ⟨C,el,fr,h1,_,h3⟩:=r.obj i _ hi e he
 simp only [Bool.false_eq_true,if_false] at h3
 obtain ⟨_,_,_,rfl,_⟩:=h3
 exact ⟨C,el,h1⟩
theorem Yly (r:Rel P base w0 μ h w) {i j:Nat} {e f:Pl} (he:μ[i]?=some e) (hf:μ[j]?=some f) (hi:Zdc h i=true) (hj:Zdc h j=true) (hne:i≠j):e.b≠f.b:=by
 obtain ⟨t,cs,h1⟩:=Znp hi
 obtain ⟨t',cs',h2⟩:=Znp hj
 exact r.sep i j _ _ e f hne h1 h2 rfl rfl he hf
theorem Zob (r:Rel P base w0 μ h w) {t:TypeId} (ht:Zlu P t=true) {a b:Option (Nat × Nat)} {x y:Value} (ha:VR μ (.ptr a) x) (hb:VR μ (.ptr b) y) {K:Bool→Prop} (hk:Zpu h a b K) :
  ∃ e:Bool,(∀ d,(Op.equalIn (d + 1) t x y).run P w=.ok e w)∧K e:=by
 obtain ⟨te,j,hu,hj,hsz⟩:=Zml ht
 unfold Zpu at hk
 cases hb with
 | ptr0=>
  cases ha with
  | ptr0=>exact ⟨true,fun d=>by simp [Op.equalIn,run_underlying hu],hk⟩
  | ptr hi=>exact ⟨false,fun d=>by simp [Op.equalIn,run_underlying hu],hk⟩
 | ptr hf=>
  cases ha with
  | ptr0=>exact ⟨false,fun d=>by simp [Op.equalIn,run_underlying hu],hk⟩
  | ptr he=>
   rename_i j1 o1 f i1 o2 e
   rcases hk with ⟨hpq,hk⟩ | ⟨hne,o1',o2',hk⟩
   ·cases hpq
    rw [he] at hf; cases hf
    exact ⟨true,fun d=>by simp [Op.equalIn,run_underlying hu,sizeOf,typeInfo,hj,run_sameAddr_same],hk⟩
   ·obtain ⟨C,t1,h1⟩:=Zvr r he o1'
    obtain ⟨C',t2,h2⟩:=Zvr r hf o2'
    have hnb:=Yly r he hf o1' o2' hne
    exact ⟨false,fun d=>by
     simp [Op.equalIn,run_underlying hu,sizeOf,typeInfo,hj,hsz,run_sameAddr_other w (a:=⟨e.b,e.o + o2,none⟩) (b:=⟨f.b,f.o + o1,none⟩) (fun q=>hnb (congrArg Addr.block q)) h1 h2],hk⟩
theorem Ymg (r:Rel P base w0 μ h w) {op:BinOp} {t:TypeId} {xo yo:Operand} {a b:Option (Nat × Nat)} {x y:Value} (ha:VR μ (.ptr a) x) (hb:VR μ (.ptr b) y) {K:Zag→Zaa→Prop} (hk:Yhr P op t h a b K) :
  ∃ e:Bool,(do eqGuard op t xo yo x y; binOp op t x y:Sem Value).run P w=.ok (.bool e) w∧K (.bool e) h:=by
 have hg:∀ op',op'=BinOp.eql ∨ op'=BinOp.neq→(eqGuard op' t xo yo x y).run P w=.ok () w:=by
  intro op' ho
  rcases ho with rfl | rfl <;> cases ha <;> simp [eqGuard]
 unfold Yhr at hk
 split at hk
 ·replace hk:=Zbd hk; obtain ⟨ht,hk⟩:=hk
  obtain ⟨e,he,hk⟩:=Zob r ht ha hb hk
  refine ⟨e,?_,hk⟩
  simp only [Sem.run_bind,hg _ (.inl rfl),Result.andThen_ok]
  cases ha <;> cases hb <;> (simp only [binOp]; simp [Op.equal,Op.maxDepth,he 9999])
 ·replace hk:=Zbd hk; obtain ⟨ht,hk⟩:=hk
  obtain ⟨e,he,hk⟩:=Zob r ht ha hb hk
  refine ⟨!e,?_,hk⟩
  simp only [Sem.run_bind,hg _ (.inr rfl),Result.andThen_ok]
  cases ha <;> cases hb <;> (simp only [binOp]; simp [Op.equal,Op.maxDepth,he 9999])
 ·exact hk.elim
theorem Zhs (r:Rel P base w0 μ h w) {kt:TypeId} (ht:Zlu P kt=true) {i o:Nat} {e:Pl} (hi:μ[i]?=some e):∀ {es:List ME} {ents:List MapEntry} {n:Nat} {q:Option (Nat × Zag)},
  VRs μ (es.map (·.1)) (ents.map (·.key))→VRs μ (es.map (·.2.1)) (ents.map (·.val))→Zje h es (i,o) n=some q →
  (q=none∧(Instr.findAsking kt (.pointer (some ⟨e.b,e.o + o,none⟩)) ents n).run P w=.ok none w) ∨
   ∃ j v x k0,q=some (j,v)∧n≤j∧VR μ v x∧(Instr.findAsking kt (.pointer (some ⟨e.b,e.o + o,none⟩)) ents n).run P w=.ok (some (j,x)) w∧ents[j - n]?=some k0∧k0.key=.pointer (some ⟨e.b,e.o + o,none⟩)
 | [],[],n,q,_,_,hf=>by simp [Zje] at hf; subst hf; exact .inl ⟨rfl,by simp [Instr.findAsking]⟩
 | [],_ :: _,n,q,hk,_,_=>by cases hk
 | _ :: _,[],n,q,hk,_,_=>by cases hk
 | (k,v,b) :: es,en :: ents,n,q,hk,hv,hf=>by
  simp only [List.map_cons] at hk hv
  cases hk with
  | cons hk1 hk2=>
  cases hv with
  | cons hv1 hv2=>
  cases k with
  | ptr a=>
   cases a with
   | none=>simp [Zje] at hf
   | some p=>
    simp only [Zje] at hf
    generalize hek:en.key=ek at hk1
    have hx:VR μ (.ptr (some (i,o))) (.pointer (some ⟨e.b,e.o + o,none⟩)):=.ptr hi
    by_cases hpq:(i,o)=p
    ·rw [if_pos hpq] at hf
     cases hf
     obtain ⟨c,hc,hke⟩:=Zob (K:=fun c=>c=true) r ht hx hk1 (by subst hpq; exact .inl ⟨rfl,rfl⟩)
     subst hke
     have hkey:en.key=.pointer (some ⟨e.b,e.o + o,none⟩):=by
      subst hpq
      cases hk1 with
      | ptr hf2=>rw [hi] at hf2; cases hf2; exact hek
     refine .inr ⟨n,v,en.val,en,rfl,Nat.le_refl _,hv1,?_,by simp,hkey⟩
     unfold Instr.findAsking
     simp [Op.equal,Op.maxDepth,hek,hc 9999]
    ·rw [if_neg hpq] at hf
     by_cases hne:(i,o).1≠p.1∧Zdc h (i,o).1=true∧Zdc h p.1=true
     ·rw [if_pos hne] at hf
      obtain ⟨c,hc,hke⟩:=Zob (K:=fun c=>c=false) r ht hx hk1 (.inr ⟨hne.1,hne.2.1,hne.2.2,rfl⟩)
      subst hke
      have step:(Instr.findAsking kt (.pointer (some ⟨e.b,e.o + o,none⟩)) (en :: ents) n).run P w=(Instr.findAsking kt (.pointer (some ⟨e.b,e.o + o,none⟩)) ents (n + 1)).run P w:=by
       conv=>lhs; unfold Instr.findAsking
       simp [Op.equal,Op.maxDepth,hek,hc 9999]
      rcases Zhs r ht hi hk2 hv2 hf with ⟨h1,h2⟩ | ⟨j,v',x,k0,h1,h2,h3,h4,h5,h6⟩
      ·exact .inl ⟨h1,by rw [step,h2]⟩
      ·refine .inr ⟨j,v',x,k0,h1,by omega,h3,by rw [step,h4],?_,h6⟩
       rw [show j - n=(j - (n + 1)) + 1 by omega]; simpa using h5
     ·rw [if_neg hne] at hf; cases hf
  | _=>simp [Zje] at hf
theorem Zey {kt te:TypeId} (hu:P.underlying kt=some (.pointer te)) (x:Value) (es:List MapEntry):(Instr.findKey kt x es).run P w=(Instr.findAsking kt x es).run P w:=by
 cases es with
 | nil=>simp [Instr.findKey,run_underlying hu,Instr.findNow,Instr.findAsking]
 | cons e es=>simp [Instr.findKey,run_underlying hu,Instr.findNow,Instr.sameNow]
theorem Zmo {kt te:TypeId} (hu:P.underlying kt=some (.pointer te)) (x:Option Addr) (b:Bool):(Instr.checkKey b 10000 kt (.pointer x)).run P w=.ok () w:=by
 unfold Instr.checkKey
 simp [run_underlying hu]
theorem Zmq {o:Option Zag} {K:Option (Nat × Nat)→Prop} (h:Zfg o K):∃ s,o=some (.ptr s)∧K s:=by
 unfold Zfg at h; split at h
 ·exact ⟨_,rfl,h⟩
 ·exact h.elim
theorem Znw {a:Option (Nat × Nat)} {K:Nat→Nat→Prop} (h:Zbf a K):∃ i o,a=some (i,o)∧K i o:=by
 unfold Zbf at h; split at h
 ·exact ⟨_,_,rfl,h⟩
 ·exact h.elim
theorem Ybv (r:Rel P base w0 μ h w) {t:TypeId} {a k:Zag} {x y:Value} {ok:Bool} (ha:VR μ a x) (hkk:VR μ k y) {K:Zag→Prop} (hk:Zmr P t h a k ok K) :
  ∃ z v,(Instr.lookup t x y ok).run P w=.ok z w∧VR μ v z∧K v:=by
 unfold Zmr at hk
 split at hk
 ·rename_i kt et hu
  replace hk:=Zbd hk
  obtain ⟨⟨hs,hag⟩,hk⟩:=hk
  obtain ⟨te,tj,hkt,_⟩:=Zml hs
  split at hk
  ·rename_i m
   obtain ⟨q,hq,hk⟩:=Zmq hk
   cases hq
   obtain ⟨i,o,rfl,hk⟩:=Znw hk
   obtain ⟨z0,hz,hk⟩:=Zks hk
   obtain ⟨zv,hzv1,hzr⟩:=Zzl (μ:=μ) hz
   cases hkk with
   | ptr hi=>
   rename_i e
   have hchk:∀ b,(Instr.checkKey b 10000 kt (.pointer (some ⟨e.b,e.o + o,none⟩))).run P w=.ok () w:=fun b=>Zmo hkt _ b
   rcases Zjn hk with ⟨rfl,hk1⟩ | ⟨i',es,clk,rfl,hi',hk1⟩
   ·cases ha
    simp only [Zqv,Zje] at hk1
    obtain ⟨v,hv,hk2⟩:=Zha hk1
    cases hv
    have hfk:(Instr.findKey kt (.pointer (some ⟨e.b,e.o + o,none⟩)) []).run P w=.ok none w:=by rw [Zey hkt]; simp [Instr.findAsking]
    cases ok
    ·exact ⟨zv,_,by simp [Instr.lookup,run_underlying hu,hchk,hfk,hzr w],hzv1,hk2⟩
    ·exact ⟨.tuple #[zv,.bool false],_,by simp [Instr.lookup,run_underlying hu,hchk,hfk,hzr w],.tup (.cons hzv1 (.cons (.bool _) .nil)),hk2⟩
   ·cases ha with
    | map hmu=>
    obtain ⟨hb0,ents,hg,hk1',hk2',hk3'⟩:=r.obj i' _ hi' _ hmu
    unfold Zqv at hk1
    split at hk1
    ·rename_i j v hf
     obtain ⟨v1,hv,hl⟩:=Zha hk1
     cases hv
     rcases Zhs r hs hi hk1' hk2' hf with ⟨h1,_⟩ | ⟨j',v',x',k0,h1,_,h3,h4,_⟩
     ·cases h1
     ·cases h1
      cases ok
      ·exact ⟨x',_,by simp [Instr.lookup,run_underlying hu,MapKept.run_getObj_map hg,hchk,Zey hkt,h4],h3,hl⟩
      ·exact ⟨.tuple #[x',.bool true],_,by simp [Instr.lookup,run_underlying hu,MapKept.run_getObj_map hg,hchk,Zey hkt,h4],.tup (.cons h3 (.cons (.bool _) .nil)),hl⟩
    ·rename_i hf
     obtain ⟨v1,hv,hl⟩:=Zha hk1
     cases hv
     rcases Zhs r hs hi hk1' hk2' hf with ⟨_,h4⟩ | ⟨j',v',x',k0,h1,_⟩
     ·cases ok
      ·exact ⟨zv,_,by simp [Instr.lookup,run_underlying hu,MapKept.run_getObj_map hg,hchk,Zey hkt,h4,hzr w],hzv1,hl⟩
      ·exact ⟨.tuple #[zv,.bool false],_,by simp [Instr.lookup,run_underlying hu,MapKept.run_getObj_map hg,hchk,Zey hkt,h4,hzr w],.tup (.cons hzv1 (.cons (.bool _) .nil)),hl⟩
     ·cases h1
    ·exact hk1.elim
  ·exact hk.elim
 ·exact hk.elim
theorem Zuo (r:Rel P base w0 μ h w) {t:TypeId} {a k v:Zag} {x y z:Value} (ha:VR μ a x) (hkk:VR μ k y) (hv:VR μ v z) {K:Zag→Zaa→Prop} (hk:Zhm P t h a k v K) :
  ∃ w' h',(Instr.mapUpdate t x y z).run P w=.ok () w'∧Rel P base w0 μ h' w'∧K .undef h':=by
 unfold Zhm at hk
 split at hk
 ·rename_i kt et hu
  replace hk:=Zbd hk
  obtain ⟨hs,hk⟩:=hk
  obtain ⟨te,tj,hkt,_⟩:=Zml hs
  split at hk
  ·rename_i m
   unfold xMp at hk
   split at hk
   ·rename_i mi
    obtain ⟨q,hq,hk⟩:=Zmq hk
    cases hq
    obtain ⟨i,o,rfl,hk⟩:=Znw hk
    cases hkk with
    | ptr hi=>
    rename_i e0
    obtain ⟨es,clk,hi',hk1⟩:=Zgw hk
    cases ha with
    | map hmu=>
    rename_i e
    obtain ⟨hb0,ents,hg,hk1',hk2',hk3'⟩:=r.obj mi _ hi' _ hmu
    have hchk:(Instr.checkKey false 10000 kt (.pointer (some ⟨e0.b,e0.o + o,none⟩))).run P w=.ok () w:=Zmo hkt _ false
    have hlt:=(Array.getElem?_eq_some_iff.1 hg).1
    have hkv:VR μ (.ptr (some (i,o))) (.pointer (some ⟨e0.b,e0.o + o,none⟩)):=.ptr hi
    unfold Ygv at hk1
    split at hk1
    ·rename_i j v0 hf
     rcases Zhs r hs hi hk1' hk2' hf with ⟨h1,_⟩ | ⟨j',v',x',k0,h1,_,h3,h4,h5,h6⟩
     ·cases h1
     ·cases h1
      have hj':ents[j]?=some k0:=by simpa using h5
      have hst:∀ w:World,(Instr.keyThatStays k0.key (.pointer (some ⟨e0.b,e0.o + o,none⟩))).run P w=.ok (.pointer (some ⟨e0.b,e0.o + o,none⟩)) w:=fun w=>by
       rw [h6]; simp [Instr.keyThatStays,Instr.sameBits]
      refine ⟨_,_,?_,r.over (x:=.map (ents.modify j fun e=>{ e with key:=.pointer (some ⟨e0.b,e0.o + o,none⟩),val:=z }) clk) hi' rfl hmu hb0 rfl ?_,hk1⟩
      ·simp [Instr.mapUpdate,run_underlying hu,MapKept.run_getObj_map hg,hchk,Zey hkt,h4,hj',hst,MapKept.run_setObj_map _ hg]
      ·refine ⟨hb0,ents.modify j fun e=>{ e with key:=.pointer (some ⟨e0.b,e0.o + o,none⟩),val:=z },by simp [hlt],?_,?_,?_⟩
       ·rw [Array.toList_modify]; exact VRs.modify (p:=fun (x:ME)=>x.1) (q:=fun (x:MapEntry)=>x.key) (v:=.ptr (some (i,o))) (k:=.pointer (some ⟨e0.b,e0.o + o,none⟩)) hkv (fun _=>rfl) (fun _=>rfl) j hk1'
       ·rw [Array.toList_modify]; exact VRs.modify (p:=fun (x:ME)=>x.2.1) (q:=fun (x:MapEntry)=>x.val) (v:=v) (k:=z) hv (fun _=>rfl) (fun _=>rfl) j hk2'
       ·rw [Array.toList_modify,Zfi (p:=fun (x:ME)=>x.2.2) (f:=fun e=>(.ptr (some (i,o)),v,e.2.2)) (fun _=>rfl) es j,Zfi (p:=fun (x:MapEntry)=>x.born) (f:=fun e=>{ e with key:=.pointer (some ⟨e0.b,e0.o + o,none⟩),val:=z }) (fun _=>rfl) ents.toList j]; exact hk3'
    ·rename_i hf
     rcases Zhs r hs hi hk1' hk2' hf with ⟨_,h4⟩ | ⟨j',v',x',k0,h1,_⟩
     ·refine ⟨_,_,?_,r.over (x:=.map (ents.push { key:=.pointer (some ⟨e0.b,e0.o + o,none⟩),val:=z,born:=clk }) (clk + 1)) hi' rfl hmu hb0 rfl ?_,hk1⟩
      ·simp [Instr.mapUpdate,run_underlying hu,MapKept.run_getObj_map hg,hchk,Zey hkt,h4,MapKept.run_setObj_map _ hg]
      ·refine ⟨hb0,ents.push { key:=.pointer (some ⟨e0.b,e0.o + o,none⟩),val:=z,born:=clk },by simp [hlt],?_,?_,?_⟩
       ·simpa using hk1'.append (.cons hkv .nil)
       ·simpa using hk2'.append (.cons hv .nil)
       ·simp [hk3']
     ·cases h1
    ·exact hk1.elim
   ·exact hk.elim
  ·exact hk.elim
 ·exact hk.elim
theorem VRs.erase {vs:List Zag} {xs:List Value} (hh:VRs μ vs xs):∀ (j:Nat),VRs μ (vs.eraseIdx j) (xs.eraseIdx j):=by
 induction vs generalizing xs with
 | nil=>intro j; cases hh; exact .nil
 | cons v vs ih=>
  intro j
  cases hh with
  | cons h1 h2=>
  cases j with
  | zero=>exact h2
  | succ j=>exact .cons h1 (ih h2 j)
theorem Zdx {α β:Type} (f:α→β):∀ (l:List α) (j:Nat),(l.map f).eraseIdx j=(l.eraseIdx j).map f
 | [],j=>by simp
 | a :: l,0=>by simp
 | a :: l,j + 1=>by simp [Zdx f l j]
theorem Yet (r:Rel P base w0 μ h w) {t ty:TypeId} {ats:Array TypeId} (hat:ats[0]?=some t) {a k:Zag} {x y:Value} (ha:VR μ a x) (hkk:VR μ k y) {K:Zag→Zaa→Prop} (hk:Zpg P t h a k K) :
  Res P base w0 μ ((Builtin.delete_ ats ty #[x,y]).run P w) K:=by
 unfold Zpg at hk
 split at hk
 ·rename_i kt et hu
  replace hk:=Zbd hk
  obtain ⟨hs,hk⟩:=hk
  obtain ⟨te,tj,hkt,_⟩:=Zml hs
  split at hk
  ·rename_i m
   unfold xMp at hk
   split at hk
   ·rename_i mi
    obtain ⟨q,hq,hk⟩:=Zmq hk
    cases hq
    obtain ⟨i,o,rfl,hk⟩:=Znw hk
    cases hkk with
    | ptr hi=>
    rename_i e0
    obtain ⟨es,clk,hi',hk1⟩:=Zgw hk
    cases ha with
    | map hmu=>
    rename_i e
    obtain ⟨hb0,ents,hg,hk1',hk2',hk3'⟩:=r.obj mi _ hi' _ hmu
    have hchk:∀ b,(Instr.checkKey b 10000 kt (.pointer (some ⟨e0.b,e0.o + o,none⟩))).run P w=.ok () w:=fun b=>Zmo hkt _ b
    have hlt:=(Array.getElem?_eq_some_iff.1 hg).1
    unfold Yhw at hk1
    split at hk1
    ·rename_i j v0 hf
     rcases Zhs r hs hi hk1' hk2' hf with ⟨h1,_⟩ | ⟨j',v',x',k0,h1,_,h3,h4,h5,h6⟩
     ·cases h1
     ·cases h1
      have hjl:j < ents.size:=by have:=(List.getElem?_eq_some_iff.1 h5).1; simpa using this
      have htl:(ents.eraseIdxIfInBounds j).toList=ents.toList.eraseIdx j:=by simp [Array.eraseIdxIfInBounds,hjl]
      refine ⟨.tuple #[],_,μ,.tup [],_,?_,Ext.refl _,r.over (x:=.map (ents.eraseIdxIfInBounds j) clk) hi' rfl hmu hb0 rfl ?_,.tup .nil,hk1⟩
      ·simp [Builtin.delete_,hat,run_underlying hu,MapKept.run_getObj_map hg,hchk,Zey hkt,h4,MapKept.run_setObj_map _ hg]
      ·refine ⟨hb0,ents.eraseIdxIfInBounds j,by simp [hlt],?_,?_,?_⟩
       ·rw [htl,← Zdx,← Zdx]; exact hk1'.erase j
       ·rw [htl,← Zdx,← Zdx]; exact hk2'.erase j
       ·rw [htl,← Zdx,← Zdx,hk3']
    ·rename_i hf
     rcases Zhs r hs hi hk1' hk2' hf with ⟨_,h4⟩ | ⟨j',v',x',k0,h1,_⟩
     ·refine ⟨.tuple #[],_,μ,.tup [],_,?_,Ext.refl _,r.over (x:=.map ents clk) hi' rfl hmu hb0 rfl ?_,.tup .nil,hk1⟩
      ·simp [Builtin.delete_,hat,run_underlying hu,MapKept.run_getObj_map hg,hchk,Zey hkt,h4,MapKept.run_setObj_map _ hg]
      ·exact ⟨hb0,ents,by simp [hlt],hk1',hk2',hk3'⟩
     ·cases h1
    ·exact hk1.elim
   ·exact hk.elim
  ·exact hk.elim
 ·exact hk.elim
end
end Go.Sim

set_option linter.unusedSimpArgs false
namespace Go.Sim
open Go Go.RowKit

structure Zad (P:Program) (n:FuncId) (args:List Zag) (h:Zaa) (Q:Zag→Zaa→Prop):Prop where
 able : ∃ fn, P.funcs[n]? = some fn ∧ fn.body.isSome = true ∧ (fn.name == "runtime.NumGoroutine") = false
 calls:∀ (base:Nat) (w0:World) (μ:List Pl) (w:World) (xs:Array Value),Rel P base w0 μ h w→VRs μ args xs.toList →
  Calls P n xs w fun e w'=>∃ x μ' v h',e=.returned x∧Ext μ μ'∧Rel P base w0 μ' h' w'∧VR μ' v x∧Q v h'
theorem Zad.mono {P:Program} {n:FuncId} {args:List Zag} {h:Zaa} {Q Q':Zag→Zaa→Prop} (hc:Zad P n args h Q) (hq:∀ v h',Q v h'→Q' v h'):Zad P n args h Q':=
 ⟨hc.1,fun base w0 μ w xs r hx=>(hc.2 base w0 μ w xs r hx).mono fun _ _ ⟨x,μ',v,h',a,b,c,d,q⟩=>⟨x,μ',v,h',a,b,c,d,hq _ _ q⟩⟩

def rts (P:Program) (f:FuncId):List TypeId:=match P.funcs[f]? with | some fn=>fn.resultTypes.toList | none=>[]
def Ylu (P:Program) (f:FuncId) (args:List Zag) (h:Zaa) (K:Zag→Zaa→Prop):Prop:=Zad P f args h fun v h'=>Yju P (rts P f) v fun v=>K v h'
def Ymv (v:Zag) (K:FuncId→List Zag→Prop):Prop:=match v with | .fn g caps=>K g caps | _=>False
def Ynv (P:Program) (t:TypeId):List TypeId:=match P.underlying t with | some (.tuple ts)=>ts.toList | _=>[t]
def Ymm (P:Program) (t:TypeId) (v:Zag) (args:List Zag) (h:Zaa) (K:Zag→Zaa→Prop):Prop:=Ymv v fun g caps=>Zad P g (args ++ caps) h fun v h'=>Yju P (Ynv P t) v fun v=>K v h'
def Ydq (P:Program) (env:Env) (h:Zaa) (o:Oper) (c:Call) (K:Zag→Zaa→Prop):Prop:=
 match c.callee with
 | .value f=>(match f with
  | .func g=>Ylu P g (c.args.toList.map (ev env) ++ []) h K
  | f=>Ymm P o.type (ev env f) (c.args.toList.map (ev env)) h K)
 | .builtin .append=>(match c.argTypes.toList with
  | [t,u]=>chk (u=t) (match c.args.toList.map (ev env) with | [s,x]=>Zdv P t h s x fun v h'=>xv .slice (some v) fun v=>K v h' | _=>False)
  | _=>False)
 | .builtin .min=>(match c.args.toList.map (ev env) with | [x,y]=>Ykr x y fun v=>K v h | _=>False)
 | .builtin .clear=>(match c.argTypes.toList with
  | [t]=>(match c.args.toList.map (ev env) with | [x]=>Yam P t h x K | _=>False)
  | _=>False)
 | .builtin .delete=>(match c.argTypes.toList with
  | t :: _=>(match c.args.toList.map (ev env) with | [m,k]=>Zpg P t h m k K | _=>False)
  | _=>False)
 | _=>Zmy P env o fun v=>K v h
def opA (P:Program) (env:Env) (h:Zaa) (o:Oper) (K:Zag→Zaa→Prop):Prop:=
 match o.op with
 | .load t a=>chk ((P.underlying t).isSome=true) (Zqd P t h (ev env a) fun v=>K v h)
 | .store t a x=>chk ((P.underlying t).isSome=true) (Zto P t h (ev env a) (ev env x) fun h'=>K .undef h')
 | .alloc t=>Yhy P t h K
 | .box t x=>Ynp t h (ev env x) K
 | .build t ps=>Ycw P t (parts env ps) fun v=>K v h
 | .buildSlice t n ps=>Zle P t n (parts env ps) h K
 | .call c=>Ydq P env h o c K
 | .makeSlice t l c=>Ziw P t (ev env l) (ev env c) h K
 | .makeMap t r=>Zmt P t (r.map (ev env)) h K
 | .lookup t x i ok=>(match Yic P t with | true=>Zmr P t h (ev env x) (ev env i) ok fun v=>K v h | false=>Zpl P t h (ev env x) (ev env i) ok fun v=>K v h)
 | .mapUpdate t m k v=>(match Yic P t with | true=>Zhm P t h (ev env m) (ev env k) (ev env v) K | false=>Ziu P t h (ev env m) (ev env k) (ev env v) K)
 | .range t x=>Ztc P t (ev env x) h K
 | .next x st=>Yca P o.type (ev env x) st h K
 | .entry x=>Zts P o.type (ev env x) h fun v=>K v h
 | .convert s d x=>(match Ybc P s with | true=>Ykm P s d h (ev env x) fun v=>K v h | false=>Zmy P env o fun v=>K v h)
 | .binOp op t x y _=>(match ev env x with
  | .ptr a=>Zfg (some (ev env y)) fun b=>Yhr P op t h a b K
  | _=>Zmy P env o fun v=>K v h)
 | _=>Zmy P env o fun v=>K v h
def Zno (N:Nat) (env:Env) (d:Option Tmp) (v:Zag) (K:Env→Prop):Prop:=match d with | none=>K env | some d=>chk (d < N) (K (env.set d v))
def Zjj (P:Program) (N:Nat) (ops:Array Oper) (env:Env) (h:Zaa) (o:Oper) (K:Env→Zaa→Prop):Prop:=
 match o.guard with
 | none=>opA P env h o fun v h'=>Zno N env o.dst v fun env'=>K env' h'
 | some (j,want)=>(match (ops[j]?).bind (·.dst) with
  | some t=>(match env.get t with
   | .bool b=>bcase b
     (match want with | true=>opA P (env.set t (.bool true)) h o fun v h'=>Zno N (env.set t (.bool true)) o.dst v fun env'=>K env' h' | false=>Zno N (env.set t (.bool true)) o.dst (.tup []) fun env'=>K env' h)
     (match want with | false=>opA P (env.set t (.bool false)) h o fun v h'=>Zno N (env.set t (.bool false)) o.dst v fun env'=>K env' h' | true=>Zno N (env.set t (.bool false)) o.dst (.tup []) fun env'=>K env' h)
   | .tup []=>Zno N env o.dst (.tup []) fun env'=>K env' h
   | _=>False)
  | none=>False)
def Ymq (P:Program) (N:Nat) (ops:Array Oper):List Oper→Env→Zaa→(Env→Zaa→Prop)→Prop
 | [],env,h,K=>K env h
 | o :: r,env,h,K=>Zjj P N ops env h o fun env' h'=>Ymq P N ops r env' h' K

section
variable {P:Program} {base N:Nat} {w0:World} {μ:List Pl} {h:Zaa} {w:World}

structure St (P:Program) (base N:Nat) (w0:World) (μ:List Pl) (env:Env) (h:Zaa) (a:Act) (w:World):Prop where
 rel:Rel P base w0 μ h w
 env:Zjp μ env a.tmps
 size:a.tmps.size=N
 defers:a.defers=[]

def Ygq (P:Program) (base N:Nat) (w0:World) (μ:List Pl) (K:Env→Zaa→Prop) (a:Act) (w:World):Prop:=
 ∃ μ' env h,Ext μ μ'∧St P base N w0 μ' env h a w∧K env h

theorem St.put {env:Env} {a:Act} (s:St P base N w0 μ env h a w) {μ':List Pl} {h':Zaa} {w':World} (he:Ext μ μ') (hr:Rel P base w0 μ' h' w') {v:Zag} {x:Value} (hv:VR μ' v x) {d:Option Tmp} {K:Env→Prop} (hk:Zno N env d v K) :
  ∃ env',St P base N w0 μ' env' h' (a.put d x) w'∧K env':=by
 unfold Zno at hk
 cases d with
 | none=>exact ⟨env,⟨hr,s.env.ext he,s.size,s.defers⟩,hk⟩
 | some d=>
  replace hk:=Zbd hk
  obtain ⟨hd,hk⟩:=hk
  refine ⟨_,⟨hr,(s.env.ext he).set (by rw [s.size]; exact hd) hv,?_,s.defers⟩,hk⟩
  simp [Act.put,s.size]

theorem St.know {env:Env} {a:Act} (s:St P base N w0 μ env h a w) {t:Nat} {v:Zag} (hv:VR μ v (a.tmps.getD t undef)):St P base N w0 μ (env.set t v) h a w:=
 ⟨s.rel,s.env.know hv,s.size,s.defers⟩

theorem Res.wp {o:Oper} {a:Act} {K:Zag→Zaa→Prop} {next:Act→World→Prop} {Q:Exit→Act→World→Prop} {s:Sem Value}
  (hr:Res P base w0 μ (s.run P w) K) (he:(execOp a.eval o).run P w=(s.run P w).andThen fun x w'=>.ok (.value x) w')
  (hn:∀ x w' μ' v h',Ext μ μ'→Rel P base w0 μ' h' w'→VR μ' v x→K v h'→next (a.put o.dst x) w'):o.wp P a w next Q:=by
 obtain ⟨x,w',μ',v,h',hrun,hx,hrel,hv,hk⟩:=hr
 unfold Oper.wp
 rw [he,hrun]
 exact hn x w' μ' v h' hx hrel hv hk

theorem Yis {env:Env} {a:Act} (s:St P base N w0 μ env h a w) {f:FuncId} {args:List Zag} {xs:Array Value} (hxs:VRs μ args xs.toList) {K:Zag→Zaa→Prop} (hk:Zad P f args h K)
  {o:Oper} (he:(execOp a.eval o).run P w=(callFunc f xs).run P w) {next:Act→World→Prop} {Q:Exit→Act→World→Prop}
  (hn:∀ x w' μ' v h',Ext μ μ'→Rel P base w0 μ' h' w'→VR μ' v x→K v h'→next (a.put o.dst x) w'):o.wp P a w next Q:=by
 obtain ⟨⟨fn,hf,hb,hname⟩,hc⟩:=hk
 have hcall:(callFunc f xs).run P w=.ok (.enter f xs) w:=by
  obtain ⟨c,hc⟩:=Option.isSome_iff_exists.1 hb
  have hname' : fn.name ≠ "runtime.NumGoroutine" := by simpa using hname
  simp [callFunc,hf,hc,hname']
 unfold Oper.wp
 rw [he,hcall]
 refine (hc base w0 μ w xs s.rel hxs).mono ?_
 rintro e w' ⟨x,μ',v,h',rfl,hx,hr,hv,hq⟩
 exact hn x w' μ' v h' hx hr hv hq

theorem VRs.single {v:Zag} {xs:Array Value} (h:VRs μ [v] xs.toList):∃ x,xs=#[x]∧VR μ v x:=by
 obtain ⟨l⟩:=xs
 match l,h with
 | [x],.cons a .nil=>exact ⟨x,rfl,a⟩
theorem Yjz {env:Env} {a:Act} (s:St P base N w0 μ env h a w) {o:Oper} {K:Zag→Zaa→Prop} (hk:opA P env h o K) {next:Act→World→Prop} {Q:Exit→Act→World→Prop}
  (hn:∀ x w' μ' v h',Ext μ μ'→Rel P base w0 μ' h' w'→VR μ' v x→K v h'→next (a.put o.dst x) w'):o.wp P a w next Q:=by
 have hρ:=Ylj s.env
 have pure:Zmy P env o (fun v=>K v h)→o.wp P a w next Q:=fun hk=>by
  obtain ⟨x,v,hr,hv,hk⟩:=Yit hρ hk
  unfold Oper.wp
  rw [hr w]
  exact hn x w μ v h (Ext.refl _) s.rel hv hk
 unfold opA at hk
 split at hk
 ·rename_i t p he
  replace hk:=Zbd hk
  obtain ⟨hu,hk⟩:=hk
  obtain ⟨y,v,hr,hv,hk⟩:=Yfi s.rel (hρ p) hu hk
  unfold Oper.wp
  simp only [execOp,he,Sem.run_bind,hr,Result.andThen_ok,Sem.run_pure]
  exact hn y w μ v h (Ext.refl _) s.rel hv hk
 ·rename_i t p x he
  replace hk:=Zbd hk
  obtain ⟨hu,hk⟩:=hk
  obtain ⟨w',h',hr,hrel,hk⟩:=Ygp s.rel (hρ p) (hρ x) hu hk
  unfold Oper.wp
  simp only [execOp,he,Sem.run_bind,hr,Result.andThen_ok,Sem.run_pure]
  exact hn undef w' μ .undef h' (Ext.refl _) hrel (.undef _) hk
 ·rename_i t he
  exact Res.wp (Yhk s.rel hk) (by simp [execOp,he]) hn
 ·rename_i t x he
  exact Res.wp (Yle s.rel (hρ x) hk) (by simp [execOp,he]) hn
 ·rename_i t ps he
  obtain ⟨h1,h2⟩:=Yad hρ ps
  obtain ⟨x,v,hr,hv,hk⟩:=Ygu h1 h2 hk
  unfold Oper.wp
  simp only [execOp,he,Sem.run_bind,hr w,Result.andThen_ok,Sem.run_pure]
  exact hn x w μ v h (Ext.refl _) s.rel hv hk
 ·rename_i t n ps he
  obtain ⟨h1,h2⟩:=Yad hρ ps
  exact Res.wp (Zut s.rel h1 h2 hk) (by simp [execOp,he]) hn
 ·rename_i c he
  unfold Ydq at hk
  split at hk
  ·rename_i f hcal
   have go:∀ (f:Operand),c.callee=.value f→∀ (g:FuncId) (caps:List Zag),ev env f=.fn g caps→Zad P g (c.args.toList.map (ev env) ++ caps) h K→o.wp P a w next Q:=by
    intro f hcal g caps hev hk
    have hf:=hρ f
    rw [hev] at hf
    cases hfv:a.eval f with
    | func fn first cap=>
     rw [hfv] at hf
     cases hf with
     | fn hcaps=>
     refine Yis s (xs:=c.args.map a.eval ++ cap) (by rw [Array.toList_append]; exact (Znx hρ c.args).append hcaps) hk ?_ hn
     simp [execOp,he,resolve,hcal,hfv,Deferred.ofValue,invoke]
    | _=>rw [hfv] at hf; cases hf
   split at hk
   ·rename_i g
    exact go _ hcal g [] rfl (Zad.mono hk fun _ _ hq=>Zwz (K:=fun v=>K v _) hq)
   ·unfold Ymm Ymv at hk
    split at hk
    ·rename_i g caps hev
     exact go _ hcal g caps hev (Zad.mono hk fun _ _ hq=>Zwz (K:=fun v=>K v _) hq)
    ·exact hk.elim
  ·rename_i hcal
   split at hk
   ·rename_i t u hts
    replace hk:=Zbd hk
    obtain ⟨rfl,hk⟩:=hk
    split at hk
    ·rename_i sv xv hargs
     have hvs:=Znx hρ c.args
     rw [hargs] at hvs
     obtain ⟨x,y,hxy,h1,h2⟩:=hvs.two
     refine Res.wp (Ydi (ty:=o.type) s.rel h1 h2 hk) ?_ fun x w' μ' v h' hx hr hv hk=>(by obtain ⟨v2,hv2,hk⟩:=Zha hk; cases hv2; exact hn x w' μ' v h' hx hr hv hk)
     have hat:c.argTypes=#[u,u]:=by
      apply Array.ext'; simpa using hts
     simp [execOp,he,resolve,hcal,invoke,builtin,hxy,hat]
    ·exact hk.elim
   ·exact hk.elim
  ·rename_i hcal
   split at hk
   ·rename_i a b hargs
    have hvs:=Znx hρ c.args
    rw [hargs] at hvs
    obtain ⟨x,y,hxy,h1,h2⟩:=hvs.two
    obtain ⟨v,z,hr,hv,hk⟩:=Ylb (ts:=c.argTypes) (t:=o.type) h1 h2 hk
    exact Res.wp (s:=Builtin.min_ c.argTypes o.type #[x,y]) ⟨z,w,μ,v,h,hr w,Ext.refl _,s.rel,hv,hk⟩ (by simp [execOp,he,resolve,hcal,invoke,builtin,hxy]) hn
   ·exact hk.elim
  ·rename_i hcal
   split at hk
   ·rename_i t hts
    split at hk
    ·rename_i x1 hargs
     have hvs:=Znx hρ c.args
     rw [hargs] at hvs
     obtain ⟨x,hxy,h1⟩:=hvs.single
     refine Res.wp (Yhc (ty:=o.type) s.rel h1 hk) ?_ hn
     have hat:c.argTypes=#[t]:=by
      apply Array.ext'; simpa using hts
     simp [execOp,he,resolve,hcal,invoke,builtin,hxy,hat]
    ·exact hk.elim
   ·exact hk.elim
  ·rename_i hcal
   split at hk
   ·rename_i t rest hts
    split at hk
    ·rename_i mv kv hargs
     have hvs:=Znx hρ c.args
     rw [hargs] at hvs
     obtain ⟨x,y,hxy,h1,h2⟩:=hvs.two
     have hat:c.argTypes[0]?=some t:=by rw [← Array.getElem?_toList,hts]; rfl
     refine Res.wp (Yet (ty:=o.type) s.rel hat h1 h2 hk) ?_ hn
     simp [execOp,he,resolve,hcal,invoke,builtin,hxy]
    ·exact hk.elim
   ·exact hk.elim
  ·exact pure hk
 ·rename_i t l c he
  exact Res.wp (Zvm s.rel (hρ l) (hρ c) hk) (by simp [execOp,he]) hn
 ·rename_i t m he
  refine Res.wp (Ybz (x:=m.map a.eval) s.rel ?_ hk) (by simp [execOp,he]) hn
  cases m with
  | none=>exact .inl ⟨rfl,rfl⟩
  | some m=>exact .inr ⟨_,_,rfl,rfl,hρ m⟩
 ·rename_i t x i ok he
  split at hk
  ·obtain ⟨z,v,hr,hv,hk⟩:=Ybv s.rel (hρ x) (hρ i) hk
   exact Res.wp (s:=Instr.lookup t (a.eval x) (a.eval i) ok) ⟨z,w,μ,v,h,hr,Ext.refl _,s.rel,hv,hk⟩ (by simp [execOp,he]) hn
  ·obtain ⟨z,v,hr,hv,hk⟩:=Yey s.rel (hρ x) (hρ i) hk
   exact Res.wp (s:=Instr.lookup t (a.eval x) (a.eval i) ok) ⟨z,w,μ,v,h,hr,Ext.refl _,s.rel,hv,hk⟩ (by simp [execOp,he]) hn
 ·rename_i t m k x he
  split at hk
  ·obtain ⟨w',h',hr,hrel,hk⟩:=Zuo s.rel (hρ m) (hρ k) (hρ x) hk
   unfold Oper.wp
   simp only [execOp,he,Sem.run_bind,hr,Result.andThen_ok,Sem.run_pure]
   exact hn undef w' μ .undef h' (Ext.refl _) hrel (.undef _) hk
  ·obtain ⟨w',h',hr,hrel,hk⟩:=Zwb s.rel (hρ m) (hρ k) (hρ x) hk
   unfold Oper.wp
   simp only [execOp,he,Sem.run_bind,hr,Result.andThen_ok,Sem.run_pure]
   exact hn undef w' μ .undef h' (Ext.refl _) hrel (.undef _) hk
 ·rename_i t x he
  exact Res.wp (Ygm s.rel (hρ x) hk) (by simp [execOp,he]) hn
 ·rename_i x st he
  exact Res.wp (Yez (ty:=o.type) s.rel (hρ x) hk) (by simp [execOp,he]) hn
 ·rename_i x he
  obtain ⟨z,v,hr,hv,hk⟩:=Yha s.rel (hρ x) hk
  exact Res.wp (s:=Instr.entry (a.eval x)) ⟨z,w,μ,v,h,hr,Ext.refl _,s.rel,hv,hk⟩ (by simp [execOp,he]) hn
 ·rename_i a b x he
  split at hk
  ·exact Res.wp (Yja s.rel (hρ x) hk) (by simp [execOp,he]) hn
  ·exact pure hk
 ·rename_i op t x y yt he
  split at hk
  ·rename_i pa hx
   obtain ⟨pb,hy,hk⟩:=Zmq hk
   have hy:=Option.some.inj hy
   have h1:=hρ x; rw [hx] at h1
   have h2:=hρ y; rw [hy] at h2
   obtain ⟨e,hr,hk⟩:=Ymg (xo:=x) (yo:=y) s.rel h1 h2 hk
   unfold Oper.wp
   simp only [execOp,he]
   rw [Sem.run_bind,hr]
   exact hn _ w μ _ h (Ext.refl _) s.rel (.bool e) hk
  ·exact pure hk
 ·exact pure hk

theorem Yfw {tmps:Array Value} {t:Nat} {b:Bool} (h:VR μ (.bool b) (tmps.getD t undef)):tmps[t]?=some (.bool b):=by
 simp only [Array.getD_eq_getD_getElem?] at h
 cases hx:tmps[t]? with
 | none=>rw [hx] at h; simp [undef] at h; cases h
 | some x=>rw [hx] at h; simp at h; cases h; rfl

theorem Yfp {ops:Array Oper} {env:Env} {a:Act} (s:St P base N w0 μ env h a w) {o:Oper} {K:Env→Zaa→Prop} (hk:Zjj P N ops env h o K) {next:Act→World→Prop} {Q:Exit→Act→World→Prop}
  (hn:∀ a w,Ygq P base N w0 μ K a w→next a w):if Region.wanted o (yielded ops a.tmps) then o.wp P a w next Q else next (a.put o.dst undef) w:=by
 have fin:∀ {env:Env} {v:Zag} {x:Value} {μ':List Pl} {h':Zaa} {w':World},St P base N w0 μ env h a w→Ext μ μ'→Rel P base w0 μ' h' w'→VR μ' v x→Zno N env o.dst v (fun env'=>K env' h')→next (a.put o.dst x) w':=by
  intro env v x μ' h' w' s hx hr hv hk
  obtain ⟨env',s',hk⟩:=s.put hx hr hv hk
  exact hn _ _ ⟨μ',env',h',hx,s',hk⟩
 unfold Zjj at hk
 split at hk
 ·rename_i hg
  have:Region.wanted o (yielded ops a.tmps)=true:=by simp [Region.wanted,hg]
  rw [if_pos this]
  exact Yjz s hk fun x w' μ' v h' hx hr hv hk=>fin s hx hr hv hk
 ·rename_i j want hg
  split at hk
  ·rename_i t ht
   split at hk
   ·rename_i b hb
    have henv:=s.env t
    rw [hb] at henv
    have hy:yielded ops a.tmps j=some b:=by
     unfold yielded
     rw [ht]; simp only [Option.bind_some,Yfw henv]
    have hwant:Region.wanted o (yielded ops a.tmps)=(b == want):=by simp [Region.wanted,hg,hy]
    rw [hwant]
    have hknow:∀ c,b=c→St P base N w0 μ (env.set t (.bool c)) h a w:=fun c e=>by subst e; exact s.know henv
    refine Ycr hk ?_ ?_
    ·rintro rfl hk
     have s':=hknow true rfl
     cases want with
     | true=>exact Yjz s' hk fun x w' μ' v h' hx hr hv hk=>fin s' hx hr hv hk
     | false=>exact fin s' (Ext.refl _) s.rel (.tup .nil) hk
    ·rintro rfl hk
     have s':=hknow false rfl
     cases want with
     | false=>exact Yjz s' hk fun x w' μ' v h' hx hr hv hk=>fin s' hx hr hv hk
     | true=>exact fin s' (Ext.refl _) s.rel (.tup .nil) hk
   ·rename_i hb
    have henv:=s.env t
    rw [hb] at henv
    have hy:yielded ops a.tmps j=none:=by
     unfold yielded
     rw [ht]; simp only [Option.bind_some]
     have:a.tmps[t]?=none ∨ a.tmps[t]?=some (.tuple #[]):=by
      simp only [Array.getD_eq_getD_getElem?] at henv
      cases hx:a.tmps[t]? with
      | none=>exact .inl rfl
      | some x=>
       rw [hx] at henv
       simp only [Option.getD_some] at henv
       cases henv with
       | tup hv => 
        have:=hv.length
        rename_i xs
        have:xs=#[]:=by apply Array.ext'; exact List.eq_nil_of_length_eq_zero (by simpa using this.symm)
        subst this; exact .inr rfl
     rcases this with h | h <;> rw [h]
    have hwant:Region.wanted o (yielded ops a.tmps)=false:=by simp [Region.wanted,hg,hy]
    rw [hwant]
    exact fin s (Ext.refl _) s.rel (.tup .nil) hk
   ·exact hk.elim
  ·exact hk.elim

theorem Yia {ops:Array Oper} {Q:Exit→Act→World→Prop}:∀ (l:List Oper) {μ:List Pl} {h:Zaa} {w:World} {env:Env} {a:Act},St P base N w0 μ env h a w→∀ {K:Env→Zaa→Prop},Ymq P N ops l env h K →
  (∀ a w,Ygq P base N w0 μ K a w→Q .normal a w)→wpList P ops Q l a w
 | [],μ,h,w,env,a,s,K,hk,hq=>hq a w ⟨μ,env,h,Ext.refl _,s,hk⟩
 | o :: r,μ,h,w,env,a,s,K,hk,hq=>by
  have hstep:=Yfp (next:=wpList P ops Q r) (Q:=Q) s hk (fun a' w' ⟨μ',env',h',hx,s',hk'⟩=>Yia r s' hk' (fun a w ⟨μ2,env2,h2,hx2,s2,k2⟩=>hq a w ⟨μ2,env2,h2,hx.trans hx2,s2,k2⟩))
  unfold wpList
  split
  ·rename_i hw; rw [if_pos hw] at hstep; exact .inl hstep
  ·rename_i hw; rw [if_neg hw] at hstep; exact hstep
end
end Go.Sim

set_option linter.unusedSimpArgs false
namespace Go.Sim
open Go Go.RowKit

section
variable {P:Program} {K K':Zag→Zaa→Prop} {k k':Zag→Prop}

theorem Ybh {o:Option Zag} {K K':Bool→Prop} (h:Zbr o K) (m:∀ b,K b→K' b):Zbr o K':=by
 unfold Zbr at *; split at h <;> first | exact m _ h | exact h.elim
theorem Yfc {q:IntKind} {o:Option Zag} {K K':Int→Prop} (h:Zcr q o K) (m:∀ b,K b→K' b):Zcr q o K':=by
 unfold Zcr at *; split at h <;> first | exact ⟨h.1,m _ h.2⟩ | exact h.elim
theorem Zrg {o:Option Zag} {K K':List Nat→Prop} (h:Zbz o K) (m:∀ b,K b→K' b):Zbz o K':=by
 unfold Zbz at *; split at h <;> first | exact m _ h | exact h.elim
theorem Zmc {o:Option Zag} {K K':Option (Nat × Nat)→Prop} (h:Zfg o K) (m:∀ b,K b→K' b):Zfg o K':=by
 unfold Zfg at *; split at h <;> first | exact m _ h | exact h.elim
theorem Ygh {o:Option Zag} {K K':Option (Nat × Nat)→Nat→Nat→Bool→Prop} (h:xSl o K) (m:∀ a b c d,K a b c d→K' a b c d):xSl o K':=by
 unfold xSl at *; split at h <;> first | exact m _ _ _ _ h | exact h.elim
theorem Yeu {o:Option Zag} {K K':Option Nat→Prop} (h:Ycu o K) (m:∀ b,K b→K' b):Ycu o K':=by
 unfold Ycu at *; split at h <;> first | exact m _ h | exact h.elim
theorem Zmm {o:Option Zag} (h:Zxs o k) (m:∀ b,k b→k' b):Zxs o k':=by
 unfold Zxs at *; split at h <;> first | exact m _ h | exact h.elim
theorem Ztm {cs:List Zag} {K K':Zag→List Zag→Prop} (h:Zal cs K) (m:∀ a b,K a b→K' a b):Zal cs K':=by
 unfold Zal at *; split at h <;> first | exact m _ _ h | exact h.elim
theorem Zvo {cs:List Zag} {K K':Prop} (h:Zcq cs K) (m:K→K'):Zcq cs K':=by
 unfold Zcq at *; split at h <;> first | exact m h | exact h.elim
theorem Zep {o:Option (List Zag)} {K K':List Zag→Prop} (h:Zcx o K) (m:∀ b,K b→K' b):Zcx o K':=by
 unfold Zcx at *; split at h <;> first | exact m _ h | exact h.elim
theorem Ztu {o:Option Zaa} {K K':Zaa→Prop} (h:Zch o K) (m:∀ b,K b→K' b):Zch o K':=by
 unfold Zch at *; split at h <;> first | exact m _ h | exact h.elim
theorem Yes {v:Zag} {K K':List Zag→Prop} (h:Zpz v K) (m:∀ b,K b→K' b):Zpz v K':=by
 unfold Zpz at *; split at h <;> first | exact m _ h | exact h.elim
theorem Yfs {v:Zag} {K K':List Zag→Prop} (h:Yac v K) (m:∀ b,K b→K' b):Yac v K':=by
 unfold Yac at *; split at h <;> first | exact m _ h | exact h.elim
theorem Zsb {o:Option Field} {K K':Field→Prop} (h:Znj o K) (m:∀ b,K b→K' b):Znj o K':=by
 unfold Znj at *; split at h <;> first | exact m _ h | exact h.elim
theorem Zbt {p:Prop} [Decidable p] {K K':Prop} (h:chk p K) (m:K→K'):chk p K':=by
 unfold chk at *; split at h <;> first | exact m h | exact h.elim
theorem Ziy {o:Option Zag} {d:Int} {K K':Int→Prop} (h:Zik o d K) (m:∀ b,K b→K' b):Zik o d K':=by
 unfold Zik at *; split at h <;> first | exact m _ h | exact h.elim
theorem Ybo {b:Bool} {A B A' B':Prop} (h:bcase b A B) (m:A→A') (n:B→B'):bcase b A' B':=by
 unfold bcase at *; split at h <;> first | exact m h | exact n h
theorem Zjs {s:Sh} {o:Option Zag} (h:xv s o k) (m:∀ v,k v→k' v):xv s o k':=by
 cases s <;> simp only [xv] at *
 ·exact Ybh h fun _=>m _
 ·exact Yfc h fun _=>m _
 ·exact Zrg h fun _=>m _
 ·exact Zmc h fun _=>m _
 ·exact Ygh h fun _ _ _ _=>m _
 ·exact Yeu h fun _=>m _
 ·exact Zmm h m
theorem Zyj:∀ {ss:List Sh} {cs:List Zag} {K K':List Zag→Prop},xs ss cs K→(∀ v,K v→K' v)→xs ss cs K'
 | [],_,_,_,h,m=>Zvo h (m _)
 | _ :: _,_,_,_,h,m=>Ztm h fun _ _ h=>Zjs h fun _ h=>Zyj h fun _=>m _
theorem Ydh {t:TypeId} {v:Zag} (h:xt P t v k) (m:∀ v,k v→k' v):xt P t v k':=by
 unfold xt at *
 split at h
 ·exact Yes h fun _ h=>Zyj h fun _=>m _
 ·exact Zjs h m
theorem Zzv:∀ {ts:List TypeId} {cs:List Zag} {K K':List Zag→Prop},xts P ts cs K→(∀ v,K v→K' v)→xts P ts cs K'
 | [],_,_,_,h,m=>Zvo h (m _)
 | _ :: _,_,_,_,h,m=>Ztm h fun _ _ h=>Ydh h fun _ h=>Zzv h fun _=>m _
theorem Zxi {ts:List TypeId} {v:Zag} (h:Yju P ts v k) (m:∀ v,k v→k' v):Yju P ts v k':=by
 unfold Yju at *
 split at h
 ·exact m _ h
 ·exact Ydh h m
 ·exact Yfs h fun _ h=>Zzv h fun _=>m _
theorem Ybg {t:TypeId} {h:Zaa} {p:Zag} (hh:Zqd P t h p k) (m:∀ v,k v→k' v):Zqd P t h p k':=by
 unfold Zqd at *
 split at hh
 ·exact Zep hh fun _ h=>Zyj h fun _=>m _
 ·exact Zjs hh m
theorem Zzg {t:TypeId} {h:Zaa} {p v:Zag} {K K':Zaa→Prop} (hh:Zto P t h p v K) (m:∀ v,K v→K' v):Zto P t h p v K':=by
 unfold Zto at *
 split at hh
 ·split at hh
  ·exact Ztu hh m
  ·exact hh.elim
 ·exact hh.elim
theorem Ycn {a b:Option (Nat × Nat)} {K K':Bool→Prop} (h:Zyx a b K) (m:∀ b,K b→K' b):Zyx a b K':=by
 unfold Zyx at *
 split at h
 ·exact m _ h
 ·split at h
  ·exact m _ h
  ·exact h.elim
theorem Zhl {a:Option (Nat × Nat)} {K K':Nat→Nat→Prop} (h:Zbf a K) (m:∀ b o,K b o→K' b o):Zbf a K':=by
 obtain ⟨b,o,rfl,h⟩:=Zbi h
 exact m _ _ h
theorem Yan {t:TypeId} {x y:Zag} {K K':Bool→Prop} (h:eqA P t x y K) (m:∀ b,K b→K' b):eqA P t x y K':=by
 unfold eqA at *
 split at h <;> (try exact h.elim) <;> split at h <;> (try exact h.elim)
 ·exact Zbt h (m _)
 ·exact m _ h
 ·exact Zbt h (m _)
 ·exact Zbt h fun h=>Ycn h m
 ·split at h
  ·exact m _ h
  ·exact h.elim
 ·exact Zbt h fun h=>⟨h.1,m _ h.2⟩
theorem Ydg {op:BinOp} {t:TypeId} {x y:Zag} (h:Yfz P op t x y k) (m:∀ v,k v→k' v):Yfz P op t x y k':=by
 unfold Yfz at *
 split at h
 ·exact Yan h fun _=>m _
 ·exact Yan h fun _=>m _
 ·split at h
  ·split at h
   ·split at h <;> first
     | exact h.elim
     | exact Zbt h (m _)
     | exact Zbt h fun h=>⟨h.1,m _ h.2⟩
     | exact ⟨h.1,m _ h.2⟩
   ·exact h.elim
  ·split at h
   ·split at h <;> first
     | exact h.elim
     | exact ⟨h.1,m _ h.2⟩
     | exact m _ h
   ·exact h.elim
  ·exact h.elim
theorem Zsy {t:TypeId} {cs:List Zag} {off:Nat} (h:Zso P t cs off k) (m:∀ v,k v→k' v):Zso P t cs off k':=by
 unfold Zso at *
 split at h
 ·exact m _ h
 ·exact Zbt h fun h=>Zmm h m
theorem Yds {ts:Array TypeId} {xs:List Zag} (h:Yjp P ts xs k) (m:∀ v,k v→k' v):Yjp P ts xs k':=by
 unfold Yjp at *
 split at h <;> first | exact h.elim | exact Zbt h (m _)
theorem Ybk {s d:TypeId} {x:Zag} (h:Zyg P s d x k) (m:∀ v,k v→k' v):Zyg P s d x k':=by
 unfold Zyg at *
 split at h
 ·split at h <;> first | exact h.elim | exact Zbt h (m _)
 ·split at h <;> first | exact h.elim | exact Zbt h (m _) | exact Zbt h fun h=>⟨h.1,m _ h.2⟩
 ·exact h.elim
theorem Zxu {t:TypeId} {x:Zag} {lo hi mx:Option Zag} (h:Ztn P t x lo hi mx k) (m:∀ v,k v→k' v):Ztn P t x lo hi mx k':=by
 unfold Ztn at *
 split at h
 ·split at h
  ·exact Zbt h fun h=>Ziy h fun _ h=>Ziy h fun _ h=>⟨h.1,m _ h.2⟩
  ·exact h.elim
 ·split at h
  ·refine Zbt h fun h=>Zbt h fun h=>Ziy h fun _ h=>Ziy h fun _ h=>Ziy h fun _ h=>⟨h.1,?_⟩
   have h2:=h.2
   split at h2
   ·exact ⟨h2.1,m _ h2.2⟩
   ·exact ⟨fun a=>m _ (h2.1 a),fun a=>m _ (h2.2 a)⟩
  ·exact h.elim
 ·exact h.elim
theorem Zmx {env:Env} {o:Oper} (h:Zmy P env o k) (m:∀ v,k v→k' v):Zmy P env o k':=by
 obtain ⟨dst,op,type,pos,after,guard⟩:=o
 unfold Zmy at *
 cases op <;> simp only at h ⊢ <;> (try exact h.elim)
 case move x=>exact m _ h
 case assign x=>exact m _ h
 case pick c a b=>
  unfold Yec at *
  split at h
  ·exact Ybo h (m _) (m _)
  ·exact h.elim
 case nilCheck x=>
  unfold Ymi at *
  split at h <;> first | exact h.elim | exact m _ h | exact Zhl h fun _ _=>m _
 case fieldAddr t x i=>
  unfold Zkn at *
  split at h
  ·exact Zsb h fun _ h=>Zbt h fun h=>Zbt h fun h=>Zhl h fun _ _=>m _
  ·exact h.elim
 case field t x i=>
  unfold Zxg at *
  split at h
  ·exact Zsb h fun _ h=>Zsy h m
  ·exact h.elim
 case indexAddr t x i=>
  unfold Zki at *
  split at h
  ·split at h
   ·split at h <;> first | exact h.elim | exact Zbt h fun h=>⟨h.1,Zhl h.2 fun _ _=>m _⟩
   ·split at h <;> first | exact h.elim | exact Zbt h fun h=>⟨h.1,Zhl h.2 fun _ _=>m _⟩
   ·exact h.elim
  ·exact h.elim
 case index t x i=>
  unfold Zvu at *
  split at h
  ·split at h
   ·split at h
    ·exact ⟨h.1,m _ h.2⟩
    ·exact h.elim
   ·split at h
    ·exact Zbt h fun h=>⟨h.1,Zsy h.2 m⟩
    ·exact h.elim
   ·exact h.elim
  ·exact h.elim
 case slice t x lo hi mx=>exact Zxu h m
 case binOp op t x y yt=>exact Ydg h m
 case unOp op t x=>
  unfold unA at *
  split at h
  ·split at h <;> first | exact h.elim | exact m _ h
  ·split at h <;> first | exact h.elim | exact m _ h
  ·exact h.elim
 case convert s d x=>exact Ybk h m
 case extract x i=>
  unfold Zoj at *
  split at h
  ·exact Zmm h m
  ·exact h.elim
 case makeFunc fn first caps=>
  cases fn <;> simp only at h ⊢ <;> first | exact h.elim | exact Zbt h (m _)
 case call c=>
  split at h
  ·exact Yds h m
  ·exact h.elim
theorem Zsi {h:Zaa} {j:Nat} {e:TypeId} {A B:List Zag→Prop} (hh:Znl h j e A) (m:∀ cs,A cs→B cs):Znl h j e B:=by
 unfold Znl at *
 split at hh
 ·exact ⟨hh.1,m _ hh.2⟩
 ·exact hh.elim
theorem Zvq {t:TypeId} {h:Zaa} {s x:Zag} (hh:Zdv P t h s x K) (m:∀ v h,K v h→K' v h):Zdv P t h s x K':=by
 unfold Zdv at *
 split at hh <;> (try exact hh.elim)
 split at hh <;> (try exact hh.elim)
 split at hh <;> (try exact hh.elim)
 refine Zep hh fun new h=>⟨h.1,?_⟩
 have h2:=h.2
 split at h2
 ·exact ⟨fun a=>m _ _ (h2.1 a),fun a=>⟨(h2.2 a).1,m _ _ (h2.2 a).2⟩⟩
 ·rcases h2 with ⟨a,b⟩ | ⟨a,b⟩ | ⟨a,b⟩
  ·exact .inl ⟨a,Zsi b fun _ h=>⟨h.1,m _ _ h.2⟩⟩
  ·exact .inr (.inl ⟨a,Zsi b fun _ h=>⟨h.1,m _ _ h.2⟩⟩)
  ·exact .inr (.inr ⟨a,Zep b fun _=>m _ _⟩)
theorem Zrx:∀ {cs:List Zag} {K K':List Nat→Prop},Zot cs K→(∀ s,K s→K' s)→Zot cs K'
 | [],_,_,h,m=>m _ h
 | .int k n :: r,_,_,h,m=>by
  unfold Zot at *
  exact Zbt h fun h=>⟨h.1,Zrx h.2 fun _=>m _⟩
 | .undef :: _,_,_,h,_ | .bool _ :: _,_,_,h,_ | .str _ :: _,_,_,h,_ | .ptr _ :: _,_,_,h,_ | .slice .. :: _,_,_,h,_ | .map _ :: _,_,_,h,_ | .fn .. :: _,_,_,h,_ | .nilFn :: _,_,_,h,_ | .iter _ :: _,_,_,h,_
 | .agg _ :: _,_,_,h,_ | .tup _ :: _,_,_,h,_=>by unfold Zot at h; exact h.elim
theorem Ydr {s d:TypeId} {h:Zaa} {x:Zag} {K K':Zag→Prop} (hh:Ykm P s d h x K) (m:∀ v,K v→K' v):Ykm P s d h x K':=by
 unfold Ykm at *
 split at hh
 ·refine Zbt hh fun h=>?_
  split at h
  ·exact Zep h fun _ h=>Zrx h fun _=>m _
  ·exact h.elim
 ·exact hh.elim
theorem Ydo {x y:Zag} {K K':Zag→Prop} (hh:Ykr x y K) (m:∀ v,K v→K' v):Ykr x y K':=by
 unfold Ykr at *
 split at hh
 ·split at hh
  ·exact Zbt hh (m _)
  ·exact hh.elim
 ·exact hh.elim
theorem Zrh {t:TypeId} {a b:Zag} {h:Zaa} {K K':Zag→Zaa→Prop} (hh:Ziw P t a b h K) (m:∀ v h,K v h→K' v h):Ziw P t a b h K':=by
 unfold Ziw at *
 split at hh
 ·refine Zep hh fun _ h=>Zbt h fun h=>?_
  unfold Zcr at *
  split at h
  ·refine ⟨h.1,?_⟩
   replace h:=h.2
   split at h
   ·exact ⟨h.1,h.2.1,m _ _ h.2.2⟩
   ·exact h.elim
  ·exact h.elim
 ·exact hh.elim
theorem Zes {h:Zaa} {m:Option Nat} {K K':List ME→Nat→Prop} (hh:Zdi h m K) (m':∀ a b,K a b→K' a b):Zdi h m K':=by
 unfold Zdi at *
 split at hh
 ·exact m' _ _ hh
 ·split at hh
  ·exact m' _ _ hh
  ·exact hh.elim
theorem Ycm {es:List ME} {s:List Nat} {K K':Option Zag→Prop} (hh:Zre es s K) (m:∀ a,K a→K' a):Zre es s K':=by
 unfold Zre at *; split at hh <;> first | exact m _ hh | exact hh.elim
theorem Yeo {es:List ME} {clk:Nat} {s:List Nat} {v:Zag} {K K':List ME→Nat→Prop} (hh:Ykh es clk s v K) (m:∀ a b,K a b→K' a b):Ykh es clk s v K':=by
 unfold Ykh at *; split at hh <;> first | exact m _ _ hh | exact hh.elim
theorem Zqn {m:Option Nat} {K K':Nat→Prop} (hh:xMp m K) (mm:∀ a,K a→K' a):xMp m K':=by
 unfold xMp at *; split at hh <;> first | exact mm _ hh | exact hh.elim
theorem Yci {h:Zaa} {r:Nat} {K K':List Nat→Nat→Prop} (hh:Ybl h r K) (m:∀ a b,K a b→K' a b):Ybl h r K':=by
 unfold Ybl at *; split at hh <;> first | exact m _ _ hh | exact hh.elim
theorem Zqu {h:Zaa} {r:Nat} {K K':Option Nat→Nat→List Nat→Nat→Prop} (hh:Zrf h r K) (m:∀ a b c d,K a b c d→K' a b c d):Zrf h r K':=by
 unfold Zrf at *; split at hh <;> first | exact m _ _ _ _ hh | exact hh.elim
theorem Zwd {t:TypeId} {h:Zaa} {x i:Zag} {ok:Bool} (hh:Zpl P t h x i ok k) (m:∀ v,k v→k' v):Zpl P t h x i ok k':=by
 unfold Zpl at *
 split at hh
 ·refine Zbt hh fun h=>?_
  split at h
  ·exact Zrg h fun _ h=>Zmm h fun _ h=>Zes h fun _ _ h=>Ycm h fun _ h=>Zjs h fun _=>m _
  ·exact h.elim
 ·exact hh.elim
theorem Zri {t:TypeId} {h:Zaa} {x i v:Zag} (hh:Ziu P t h x i v K) (m:∀ v h,K v h→K' v h):Ziu P t h x i v K':=by
 unfold Ziu at *
 split at hh
 ·refine Zbt hh fun h=>?_
  split at h
  ·exact Zqn h fun _ h=>Zrg h fun _ h=>Zes h fun _ _ h=>Yeo h fun _ _=>m _ _
  ·exact h.elim
 ·exact hh.elim
theorem Zuu {t:TypeId} {r:Option Zag} {h:Zaa} (hh:Zmt P t r h K) (m:∀ v h,K v h→K' v h):Zmt P t r h K':=by
 unfold Zmt at *
 split at hh <;> first | exact m _ _ hh | exact Zbt hh (m _ _) | exact hh.elim
theorem Zyk {t:TypeId} {x:Zag} {h:Zaa} (hh:Ztc P t x h K) (m:∀ v h,K v h→K' v h):Ztc P t x h K':=by
 unfold Ztc at *
 split at hh <;> first | exact hh.elim | exact Zbt hh (m _ _) | exact Zbt hh fun h=>Zes h fun _ _=>m _ _
theorem Yfq {m:Option Nat} {A B A' B':Prop} (hh:Yml m A B) (p:A→A') (q:B→B'):Yml m A' B':=by
 unfold Yml at *; split at hh <;> first | exact p hh | exact q hh
theorem Ybp {ty:TypeId} {x:Zag} {st:Bool} {h:Zaa} (hh:Yca P ty x st h K) (m:∀ v h,K v h→K' v h):Yca P ty x st h K':=by
 unfold Yca at *
 split at hh
 ·split at hh
  ·exact Yci hh fun _ _ h=>⟨fun a=>⟨(h.1 a).1,m _ _ (h.1 a).2⟩,fun a=>m _ _ (h.2 a)⟩
  ·exact Zqu hh fun _ _ _ _ h=>Yfq h (m _ _) fun h=>Zes h fun _ _ h=>⟨h.1,fun a=>m _ _ (h.2.1 a),fun e he hn=>Zjs (h.2.2 e he hn) fun _ h=>Zjs h fun _=>m _ _⟩
 ·exact hh.elim
theorem Zxy {ty:TypeId} {x:Zag} {h:Zaa} (hh:Zts P ty x h k) (m:∀ v,k v→k' v):Zts P ty x h k':=by
 unfold Zts at *
 split at hh
 ·exact Zqu hh fun _ _ _ _ h=>Zqn h fun _ h=>Zes h fun _ _ h=>⟨h.1,h.2.imp fun _ h=>⟨h.1,h.2.imp fun _ h=>⟨h.1,Zjs h.2 fun _ h=>Zjs h fun _=>m _⟩⟩⟩
 ·exact hh.elim
theorem Zrz {h:Zaa} {a b:Option (Nat × Nat)} {K K':Bool→Prop} (hh:Zpu h a b K) (m:∀ e,K e→K' e):Zpu h a b K':=by
 unfold Zpu at *
 split at hh
 ·exact m _ hh
 ·split at hh
  ·exact m _ hh
  ·exact hh.imp (fun h=>⟨h.1,m _ h.2⟩) fun h=>⟨h.1,h.2.1,h.2.2.1,m _ h.2.2.2⟩
theorem Yde {op:BinOp} {t:TypeId} {h:Zaa} {a b:Option (Nat × Nat)} (hh:Yhr P op t h a b K) (m:∀ v h,K v h→K' v h):Yhr P op t h a b K':=by
 unfold Yhr at *
 split at hh
 ·exact Zbt hh fun h=>Zrz h fun _=>m _ _
 ·exact Zbt hh fun h=>Zrz h fun _=>m _ _
 ·exact hh.elim
theorem Yaz {r:Option (Option (Nat × Zag))} {K K':Option Zag→Prop} (hh:Zqv r K) (m:∀ e,K e→K' e):Zqv r K':=by
 unfold Zqv at *; split at hh <;> first | exact m _ hh | exact hh.elim
theorem Ydv {r:Option (Option (Nat × Zag))} {es:List ME} {clk:Nat} {p:Nat × Nat} {v:Zag} {K K':List ME→Nat→Prop} (hh:Ygv r es clk p v K) (m:∀ a b,K a b→K' a b):Ygv r es clk p v K':=by
 unfold Ygv at *; split at hh <;> first | exact m _ _ hh | exact hh.elim
theorem Yej {r:Option (Option (Nat × Zag))} {es:List ME} {K K':List ME→Prop} (hh:Yhw r es K) (m:∀ a,K a→K' a):Yhw r es K':=by
 unfold Yhw at *; split at hh <;> first | exact m _ hh | exact hh.elim
theorem Zud {t:TypeId} {h:Zaa} {x i:Zag} {ok:Bool} (hh:Zmr P t h x i ok k) (m:∀ v,k v→k' v):Zmr P t h x i ok k':=by
 unfold Zmr at *
 split at hh
 ·refine Zbt hh fun h=>?_
  split at h
  ·exact Zmc h fun _ h=>Zhl h fun _ _ h=>Zmm h fun _ h=>Zes h fun _ _ h=>Yaz h fun _ h=>Zjs h fun _=>m _
  ·exact h.elim
 ·exact hh.elim
theorem Zqc {t:TypeId} {h:Zaa} {x i v:Zag} (hh:Zhm P t h x i v K) (m:∀ v h,K v h→K' v h):Zhm P t h x i v K':=by
 unfold Zhm at *
 split at hh
 ·refine Zbt hh fun h=>?_
  split at h
  ·exact Zqn h fun _ h=>Zmc h fun _ h=>Zhl h fun _ _ h=>Zes h fun _ _ h=>Ydv h fun _ _=>m _ _
  ·exact h.elim
 ·exact hh.elim
theorem Zwk {t:TypeId} {h:Zaa} {x i:Zag} (hh:Zpg P t h x i K) (m:∀ v h,K v h→K' v h):Zpg P t h x i K':=by
 unfold Zpg at *
 split at hh
 ·refine Zbt hh fun h=>?_
  split at h
  ·exact Zqn h fun _ h=>Zmc h fun _ h=>Zhl h fun _ _ h=>Zes h fun _ _ h=>Yej h fun _=>m _ _
  ·exact h.elim
 ·exact hh.elim
theorem Ygr {env:Env} {h:Zaa} {o:Oper} (hh:opA P env h o K) (m:∀ v h,K v h→K' v h):opA P env h o K':=by
 obtain ⟨dst,op,type,pos,after,guard⟩:=o
 unfold opA at *
 cases op <;> simp only at hh ⊢
 case load t a=>exact Zbt hh fun h=>Ybg h fun _=>m _ _
 case store t a x=>exact Zbt hh fun h=>Zzg h fun _=>m _ _
 case alloc t=>exact Zep hh fun _=>m _ _
 case box t x=>exact Zep hh fun _=>m _ _
 case build t ps=>
  refine Zep hh fun _ h=>?_
  split at h
  ·exact Zbt h fun h=>Zep h fun _=>m _ _
  ·exact Zbt h fun h=>Zep h fun _=>m _ _
  ·exact h.elim
 case buildSlice t n ps=>
  unfold Zle at *
  split at hh
  ·exact Zep hh fun _ h=>Zbt h fun h=>Zep h fun _=>m _ _
  ·exact hh.elim
 case call c=>
  unfold Ydq at *
  split at hh
  ·split at hh
   ·exact Zad.mono hh fun _ _ h=>Zxi h fun _=>m _ _
   ·unfold Ymm Ymv at *
    split at hh
    ·exact Zad.mono hh fun _ _ h=>Zxi h fun _=>m _ _
    ·exact hh.elim
  ·split at hh
   ·refine Zbt hh fun h=>?_
    split at h
    ·exact Zvq h fun _ _ h=>Zjs h fun _=>m _ _
    ·exact h.elim
   ·exact hh.elim
  ·split at hh
   ·exact Ydo hh fun _=>m _ _
   ·exact hh.elim
  ·split at hh
   ·split at hh
    ·unfold Yam at *
     split at hh
     ·split at hh
      ·refine ⟨fun h0=>m _ _ (hh.1 h0),fun h0=>Zep (hh.2 h0) fun _ h=>Zbt h fun h=>Ztu h fun _=>m _ _⟩
      ·exact hh.elim
     ·exact hh.elim
    ·exact hh.elim
   ·exact hh.elim
  ·split at hh
   ·split at hh
    ·exact Zwk hh m
    ·exact hh.elim
   ·exact hh.elim
  ·exact Zmx hh fun _=>m _ _
 case makeSlice t l c=>exact Zrh hh m
 case makeMap t r=>exact Zuu hh m
 case lookup t x i ok=>
  split at hh
  ·exact Zud hh fun _=>m _ _
  ·exact Zwd hh fun _=>m _ _
 case mapUpdate t mm k v=>
  split at hh
  ·exact Zqc hh m
  ·exact Zri hh m
 case binOp op t x y yt=>
  split at hh
  ·exact Zmc hh fun _ h=>Yde h m
  ·exact Zmx hh fun _=>m _ _
 case range t x=>exact Zyk hh m
 case next x st=>exact Ybp hh m
 case entry x=>exact Zxy hh fun _=>m _ _
 case convert s d x=>
  split at hh
  ·exact Ydr hh fun _=>m _ _
  ·exact Zmx hh fun _=>m _ _
 all_goals exact Zmx hh fun _=>m _ _
end
end Go.Sim

set_option linter.unusedSimpArgs false
namespace Go.Sim
open Go Go.RowKit

def Det {α:Type} (F:(α→Prop)→Prop):Prop:=∀ k,F k→∃ v,k v∧∀ k',k' v→F k'
theorem Det.ret {α:Type} (a:α):Det (fun k=>k a):=fun _ h=>⟨a,h,fun _ h=>h⟩
theorem Det.no {α:Type}:Det (fun _:α→Prop=>False):=fun _ h=>h.elim
theorem Det.and {α:Type} {p:Prop} {F:(α→Prop)→Prop} (d:Det F):Det (fun k=>p∧F k):=fun k ⟨hp,h⟩=>let ⟨v,hv,r⟩:=d k h; ⟨v,hv,fun k' h'=>⟨hp,r k' h'⟩⟩
theorem Det.chk {α:Type} {p:Prop} [Decidable p] {F:(α→Prop)→Prop} (d:Det F):Det (fun k=>chk p (F k)):=fun k h=>by
 have ⟨hp,h⟩:=Zbd h
 obtain ⟨v,hv,r⟩:=d k h
 exact ⟨v,hv,fun k' h'=>by unfold Sim.chk; rw [decide_eq_true hp]; exact r k' h'⟩
theorem Det.bind {α β:Type} {F:(α→Prop)→Prop} {G:α→(β→Prop)→Prop} (d:Det F) (e:∀ a,Det (G a)):Det (fun k=>F fun a=>G a k):=fun k h=>by
 obtain ⟨a,ha,r⟩:=d _ h
 obtain ⟨b,hb,q⟩:=e a k ha
 exact ⟨b,hb,fun k' h'=>r _ (q k' h')⟩
theorem Det.map {α β:Type} {F:(α→Prop)→Prop} (d:Det F) (f:α→β):Det (fun k=>F fun a=>k (f a)):=d.bind fun a=>Det.ret (f a)
theorem Det.bcase {α:Type} {b:Bool} {F G:(α→Prop)→Prop} (d:Det F) (e:Det G):Det (fun k=>bcase b (F k) (G k)):=by cases b <;> assumption

section
variable {P:Program}
theorem Yee (s:Sh) (o:Option Zag):Det (xv s o):=by
 intro k h
 cases s <;> simp only [xv,Zbr,Zbz,Zfg,xSl,Ycu,Zxs,Zcr] at * <;> split at h <;> first
  | exact h.elim
  | exact ⟨_,h,fun _ h=>h⟩
  | exact ⟨_,h.2,fun _ h'=>⟨h.1,h'⟩⟩
theorem Yah (o:Option Zag):Det (Zxs o):=Yee .any o
theorem Zqq (o:Option (List Zag)):Det (Zcx o):=fun k h=>by
 unfold Zcx at *; split at h <;> first | exact ⟨_,h,fun _ h=>h⟩ | exact h.elim
theorem Yif:∀ (ss:List Sh) (cs:List Zag),Det (xs ss cs)
 | [],cs=>fun k h=>by
  simp only [xs,Zcq] at *; split at h <;> first | exact ⟨_,h,fun _ h=>h⟩ | exact h.elim
 | s :: ss,cs=>fun k h=>by
  simp only [xs,Zal] at *
  split at h
  ·exact ((Yee s _).bind (G:=fun v k=>xs ss _ fun vs=>k (v :: vs)) fun v=>(Yif ss _).map (v :: ·)) k h
  ·exact h.elim
theorem Yfu (t:TypeId) (h:Zaa) (p:Zag):Det (Zqd P t h p):=by
 intro k hh
 unfold Zqd at *
 split at hh
 ·exact ((Zqq _).bind (G:=fun cs k=>xs _ cs fun vs=>k (.agg vs)) fun cs=>(Yif _ cs).map Zag.agg) k hh
 ·exact Yee _ _ k hh
theorem Yep (a b:Option (Nat × Nat)):Det (Zyx a b):=by
 intro k h
 unfold Zyx at *
 split at h
 ·exact ⟨_,h,fun _ h=>h⟩
 ·split at h
  ·exact ⟨_,h,fun _ h=>h⟩
  ·exact h.elim
theorem Zou (a:Option (Nat × Nat)) (f:Nat→Nat→Zag):Det (fun k:Zag→Prop=>Zbf a fun b o=>k (f b o)):=by
 intro k h
 obtain ⟨b,o,rfl,h⟩:=Zbi h
 exact ⟨_,h,fun _ h=>h⟩
theorem Yfx (t:TypeId) (x y:Zag):Det (eqA P t x y):=by
 intro k h
 unfold eqA at *
 split at h <;> (try exact h.elim) <;> split at h <;> (try exact h.elim)
 ·exact (Det.ret _).chk k h
 ·exact ⟨_,h,fun _ h=>h⟩
 ·exact (Det.ret _).chk k h
 ·exact (Yep _ _).chk k h
 ·split at h
  ·exact ⟨_,h,fun _ h=>h⟩
  ·exact h.elim
 ·exact (Det.ret _).and.chk k h
theorem Yhf (op:BinOp) (t:TypeId) (x y:Zag):Det (Yfz P op t x y):=by
 intro k h
 unfold Yfz at *
 split at h
 ·exact (Yfx t x y).map _ k h
 ·exact (Yfx t x y).map _ k h
 ·split at h
  ·split at h
   ·split at h <;> first
     | exact h.elim
     | exact (Det.ret _).chk k h
     | exact (Det.ret _).and.chk k h
     | exact (Det.ret _).and k h
   ·exact h.elim
  ·split at h
   ·split at h <;> first
     | exact h.elim
     | exact (Det.ret _).and k h
     | exact ⟨_,h,fun _ h=>h⟩
   ·exact h.elim
  ·exact h.elim
theorem Zwh (t:TypeId) (cs:List Zag) (off:Nat):Det (Zso P t cs off):=by
 intro k h
 unfold Zso at *
 split at h
 ·exact ⟨_,h,fun _ h=>h⟩
 ·exact (Yah _).chk k h
theorem Zkm (o:Option Zag) (d:Int):Det (Zik o d):=fun k h=>by
 unfold Zik at *; split at h <;> first | exact ⟨_,h,fun _ h=>h⟩ | exact h.elim
theorem Zxb (o:Option Field):Det (Znj o):=fun k h=>by
 unfold Znj at *; split at h <;> first | exact ⟨_,h,fun _ h=>h⟩ | exact h.elim
theorem Zxp (s:List Nat) (lo hi:Option Zag):Det (Zof s lo hi):=by
 unfold Zof
 exact (Zkm hi s.length).bind fun h=>(Zkm lo 0).bind fun l=>(Det.ret _).and
theorem Zyb (a:Option (Nat × Nat)) (len cap:Nat) (ex:Bool) (sz:Nat) (lo hi mx:Option Zag):Det (Zlm a len cap ex sz lo hi mx):=by
 unfold Zlm
 refine (Zkm mx cap).bind fun m=>(Zkm hi len).bind fun h=>(Zkm lo 0).bind fun l=>Det.and ?_
 intro k hk
 split at hk
 ·exact (Det.ret _).and k hk
 ·rename_i b o
  by_cases hlm:l < m
  ·exact ⟨_,hk.1 hlm,fun k' h'=>⟨fun _=>h',fun h=>absurd hlm h⟩⟩
  ·exact ⟨_,hk.2 hlm,fun k' h'=>⟨fun h=>absurd h hlm,fun _=>h'⟩⟩
theorem Ydu (env:Env) (o:Oper):Det (Zmy P env o):=by
 intro k h
 obtain ⟨dst,op,type,pos,after,guard⟩:=o
 unfold Zmy at *
 cases op <;> simp only at h ⊢ <;> (try exact h.elim)
 case move x=>exact ⟨_,h,fun _ h=>h⟩
 case assign x=>exact ⟨_,h,fun _ h=>h⟩
 case pick c a b=>
  unfold Yec at *
  split at h
  ·exact (Det.ret _).bcase (Det.ret _) k h
  ·exact h.elim
 case nilCheck x=>
  unfold Ymi at *
  split at h <;> first | exact h.elim | exact ⟨_,h,fun _ h=>h⟩ | exact Zou _ (fun b o=>.ptr (some (b,o))) k h
 case fieldAddr t x i=>
  unfold Zkn at *
  split at h
  ·rename_i a _
   exact (Det.bind (F:=Znj (Zqw P t i)) (G:=fun (f:Field) (k:Zag→Prop)=>chk ((P.underlying f.type).isSome=true) (chk (P.cellsOf f.type≠0) (Zbf a fun b o=>k (Zag.ptr (some (b,o + f.offset)))))) (Zxb _) fun f=>Det.chk (Det.chk (Zou a fun b o=>Zag.ptr (some (b,o + f.offset))))) k h
  ·exact h.elim
 case field t x i=>
  unfold Zxg at *
  split at h
  ·exact (Zxb _).bind (G:=fun f k=>Zso P f.type _ f.offset k) (fun f=>Zwh _ _ _) k h
  ·exact h.elim
 case indexAddr t x i=>
  unfold Zki at *
  split at h
  ·split at h
   ·split at h <;> first | exact h.elim | exact (Zou _ (fun b o=>Zag.ptr (some (b,o + _)))).and.chk k h
   ·split at h <;> first | exact h.elim | exact (Zou _ (fun b o=>Zag.ptr (some (b,o + _)))).and.chk k h
   ·exact h.elim
  ·exact h.elim
 case index t x i=>
  unfold Zvu at *
  split at h
  ·split at h
   ·split at h
    ·exact (Det.ret _).and k h
    ·exact h.elim
   ·split at h
    ·exact (Zwh _ _ _).and.chk k h
    ·exact h.elim
   ·exact h.elim
  ·exact h.elim
 case slice t x lo hi mx=>
  unfold Ztn at *
  split at h
  ·split at h
   ·exact (Zxp _ _ _).chk k h
   ·exact h.elim
  ·split at h
   ·exact (Zyb _ _ _ _ _ _ _ _).chk.chk k h
   ·exact h.elim
  ·exact h.elim
 case binOp op t x y yt=>exact Yhf _ _ _ _ k h
 case unOp op t x=>
  unfold unA at *
  split at h
  ·split at h <;> first | exact h.elim | exact ⟨_,h,fun _ h=>h⟩
  ·split at h <;> first | exact h.elim | exact ⟨_,h,fun _ h=>h⟩
  ·exact h.elim
 case convert s d x=>
  unfold Zyg at *
  split at h
  ·split at h <;> first | exact h.elim | exact (Det.ret _).chk k h
  ·split at h <;> first | exact h.elim | exact (Det.ret _).chk k h | exact (Det.ret _).and.chk k h
  ·exact h.elim
 case extract x i=>
  unfold Zoj at *
  split at h
  ·exact Yah _ k h
  ·exact h.elim
 case makeFunc fn first caps=>
  cases fn <;> simp only at h ⊢ <;> first | exact h.elim | exact (Det.ret _).chk k h
 case call c=>
  split at h
  ·unfold Yjp at *
   split at h <;> first | exact h.elim | exact (Det.ret _).chk k h
  ·exact h.elim

def Zux (P:Program) (op:Op):Bool:=
 match op with
 | .binOp _ t _ y _=>(match Zoo P t with | false=>true | true=>Yii y && Zlu P t)
 | .move _ | .assign _ | .pick .. | .unOp .. | .nilCheck _ | .extract .. | .field .. | .fieldAddr .. | .indexAddr .. | .index .. | .slice .. | .makeFunc .. | .build ..=>true
 | .call c=>(match c.callee with | .builtin .len=>true | _=>false)
 | .convert s _ _=>!Ybc P s
 | _=>false
def Yho (op:Op):Bool:=match op with | .load ..=>true | _=>false
def Zya (P:Program) (env:Env) (o:Oper) (k:Zag→Prop):Prop:=
 match o.op with
 | .build t ps=>Ycw P t (parts env ps) k
 | _=>Zmy P env o k
theorem Ydf (env:Env) (o:Oper):Det (Zya P env o):=by
 intro k h
 unfold Zya at *
 split at h
 ·refine (Zqq _).bind (G:=fun z k=>_) (fun z=>?_) k h
  intro k h
  split at h
  ·exact ((Zqq _).map _).chk k h
  ·exact ((Zqq _).map _).chk k h
  ·exact h.elim
 ·exact Ydu env o k h
theorem Zsj {env:Env} {h:Zaa} {o:Oper} (hr:Zux P o.op=true) {K:Zag→Zaa→Prop}:opA P env h o K ↔ Zya P env o fun v=>K v h:=by
 obtain ⟨dst,op,type,pos,after,guard⟩:=o
 cases op <;> simp only [Zux,Bool.false_eq_true] at hr <;> try (simp only [opA,Zya]; done)
 case call c=>
  simp only [opA,Zya,Ydq]
  split at hr
  ·rename_i hc; simp [hc]
  ·cases hr
 case convert s d x=>
  simp only [Bool.not_eq_true'] at hr
  simp only [opA,Zya,hr]
 case binOp op t x y yt=>
  simp only [opA,Zya,Zmy]
  cases hx:ev env x <;> try exact Iff.rfl
  cases hy:ev env y <;> try (cases op <;> exact Iff.rfl)
  rename_i a b
  simp only [Zfg]
  have hRT:Zlu P t=true→Zoo P t=true:=fun h=>by
   obtain ⟨e,j,hu,_⟩:=Zml h
   unfold Zoo; rw [hu]
  have hno:∀ (p:Prop) [Decidable p] (q:Prop),¬ p→(Sim.chk p q ↔ False):=fun p _ q h=>⟨fun hc=>h (Zbd hc).1,fun h=>h.elim⟩
  have hyes:∀ (p:Prop) [Decidable p] (q:Prop),p→(Sim.chk p q ↔ q):=fun p _ q h=>⟨fun hc=>(Zbd hc).2,fun hq=>by unfold Sim.chk; rw [decide_eq_true h]; exact hq⟩
  cases hT:Zoo P t with
  | false=>
   have hR:¬ Zlu P t=true:=fun h=>by rw [hRT h] at hT; cases hT
   have hT':¬ Zoo P t=true:=by rw [hT]; simp
   cases op <;> simp only [Yhr,Yfz,eqA] <;> first | exact Iff.rfl | (rw [hno _ _ hR,hno _ _ hT'])
  | true=>
   rw [hT] at hr
   simp only [Bool.and_eq_true] at hr
   have hb:b=none:=by
    have:=hr.1
    unfold Yii at this
    split at this
    ·simp [ev,cst,Zmp] at hy; exact hy.symm
    ·cases this
   subst hb
   cases op <;> simp only [Yhr,Yfz,eqA] <;> first | exact Iff.rfl | (rw [hyes _ _ hr.2,hyes _ _ hT]; exact Iff.rfl)

theorem Zsd {env env':Env} {ps:Array (Nat × Operand)} (hx:∀ x∈ps.map (·.2),ev env x=ev env' x):parts env ps=parts env' ps:=by
 unfold parts
 refine List.map_congr_left fun p hp=>?_
 rw [hx p.2 (Array.mem_map.2 ⟨p,by simpa using hp,rfl⟩)]
theorem Zta {env env':Env} {xs:Array Operand} (hx:∀ x∈xs,ev env x=ev env' x):xs.toList.map (ev env)=xs.toList.map (ev env'):=
 List.map_congr_left fun x hp=>hx x (by simpa using hp)
theorem Zro {env env':Env} {h:Zaa} {o:Oper} (hx:∀ x∈o.op.operands,ev env x=ev env' x) {K:Zag→Zaa→Prop}:opA P env h o K ↔ opA P env' h o K:=by
 obtain ⟨dst,op,type,pos,after,guard⟩:=o
 cases op <;> simp only [Op.operands] at hx <;> simp only [opA,Zmy]
 case build t ps=>rw [Zsd fun x h=>hx x (by simpa using h)]
 case buildSlice t n ps=>rw [Zsd fun x h=>hx x (by simpa using h)]
 case makeFunc fn first caps=>
  have hc:=Zta (xs:=caps) fun x h=>hx x (by simp [h])
  cases fn <;> simp only [hc]
 case call c=>
  simp only [Call.operands] at hx
  have ha:c.args.toList.map (ev env)=c.args.toList.map (ev env'):=Zta fun x h=>hx x (by simp [h])
  simp only [Ydq,Zmy,ha]
  cases hc:c.callee with
  | value f=>
   have hf:ev env f=ev env' f:=hx f (by simp [hc])
   cases f <;> simp only [hf]
  | invoke r m=>exact Iff.rfl
  | builtin b=>cases b <;> exact Iff.rfl
 case slice t x lo hi mx=>
  cases lo <;> cases hi <;> cases mx <;> simp_all
 case makeMap t r=>cases r <;> simp_all
 all_goals (first | rfl | (simp_all; done))
end
end Go.Sim

set_option linter.unusedSimpArgs false
namespace Go.Sim
open Go Go.RowKit

structure Ztj where
 i:Nat
 p:Zag
 n:Option Nat
def Ztj.ok (d:Ztj) (h h':Zaa):Prop:=match d.n with | none=>Zae h' d.p=Zae h d.p | some n=>Zbk h' d.p n=Zbk h d.p n
theorem Ztj.ok_refl (d:Ztj) (h:Zaa):d.ok h h:=by unfold Ztj.ok; split <;> rfl
def Zmh (ops:Array Oper) (j i:Nat):Bool:=match ops[j]? with | some o=>o.after.any (fun e=>Region.binds .any e && e.on == i) | none=>false
def Zxl (ops:Array Oper) (j:Nat):List Ztj→Zaa→Zaa→Prop→Prop
 | [],_,_,K=>K
 | d :: r,h,h',K=>(match Zmh ops j d.i with | true=>Zxl ops j r h h' K | false=>d.ok h h'∧Zxl ops j r h h' K)
theorem Zlr {ops:Array Oper} {j:Nat}:∀ {hs:List Ztj} {h h':Zaa} {K:Prop},Zxl ops j hs h h' K→(∀ d∈hs,Zmh ops j d.i=true ∨ d.ok h h')∧K
 | [],_,_,_,hk=>⟨by simp,hk⟩
 | d :: r,h,h',K,hk=>by
  unfold Zxl at hk
  split at hk
  ·rename_i hw
   obtain ⟨a,b⟩:=Zlr hk
   exact ⟨fun x hx=>by rcases List.mem_cons.1 hx with rfl | hx; exact .inl hw; exact a x hx,b⟩
  ·obtain ⟨ho,hk⟩:=hk
   obtain ⟨a,b⟩:=Zlr hk
   exact ⟨fun x hx=>by rcases List.mem_cons.1 hx with rfl | hx; exact .inr ho; exact a x hx,b⟩

def Zqe (P:Program) (N:Nat) (ops:Array Oper) (i:Nat) (env:Env) (h:Zaa) (K:Env→Zaa→Prop):Prop:=
 match ops[i]? with | some o=>Zjj P N ops env h o K | none=>K env h
def Zly (P:Program) (ops:Array Oper) (i:Nat) (env:Env):Ztj:=
 match ops[i]? with
 | some o=>(match o.op with
  | .load t a=>(match isAgg P t with | true=>⟨i,ev env a,some (P.cellsOf t)⟩ | false=>⟨i,ev env a,none⟩)
  | _=>⟨i,.undef,none⟩)
 | none=>⟨i,.undef,none⟩
def Yky (ops:Array Oper) (f:Op→Bool) (i:Nat):Bool:=match ops[i]? with | some o=>f o.op | none=>false
def Ymo (f:Nat→Prop):List Nat→Prop
 | []=>True
 | [i]=>f i
 | i :: r=>f i∧Ymo f r
theorem Zwx {f:Nat→Prop}:∀ {l:List Nat},Ymo f l→∀ i∈l,f i
 | [],_,i,hi=>by simp at hi
 | [j],h,i,hi=>by simp at hi; subst hi; exact h
 | j :: k :: r,h,i,hi=>by
  rcases List.mem_cons.1 hi with rfl | hi
  ·exact h.1
  ·exact Zwx h.2 i hi
def Zyt (P:Program) (N:Nat) (ops:Array Oper) (ks:List Nat) (K:Env→Zaa→Prop):Nat→Array Bool→List Ztj→Env→Zaa→Prop
 | 0,listed,_,env,h=>(match Region.ready .any ops listed with | []=>K (env.keep ks) h | _=>False)
 | f + 1,listed,hs,env,h=>
  (match Region.ready .any ops listed with
  | []=>K (env.keep ks) h
  | rs=>(match rs.find? (fun i=>Yky ops (Zux P) i && Region.free .any ops listed i) with
   | some i=>Zqe P N ops i env h fun env' h'=>Zyt P N ops ks K f (listed.setIfInBounds i true) hs env' h'
   | none=>(match (match rs with | [_]=>none | _=>rs.find? (fun i=>Yky ops Yho i && Region.free .any ops listed i)) with
    | some i=>Zqe P N ops i env h fun env' h'=>Zyt P N ops ks K f (listed.setIfInBounds i true) (Zly P ops i env :: hs) env' h'
    | none=>Ymo (fun i=>Zqe P N ops i env h fun env' h'=>Zxl ops i hs h h' (Zyt P N ops ks K f (listed.setIfInBounds i true) hs env' h')) rs)))

def Yhn (P:Program) (N:Nat) (ops:Array Oper) (K:Env→Zaa→Prop) (hs:List Ztj):Nat→Array Bool→Env→Zaa→Prop
 | 0,listed,env,h=>Region.ready .any ops listed=[]∧K env h
 | f + 1,listed,env,h=>(Region.ready .any ops listed=[]→K env h) ∧
  ∀ i∈Region.ready .any ops listed,Zqe P N ops i env h fun env' h'=>(∀ d∈hs,Zmh ops i d.i=true ∨ d.ok h h')∧Yhn P N ops K hs f (listed.setIfInBounds i true) env' h'

def Zyc (env env':Env):Prop:=∀ t,env.get t=env'.get t
def Zpn (o:Oper) (env:Env) (v:Zag) (env1:Env):Prop:=∀ t,env1.get t=if o.dst=some t then v else env.get t

section
variable {P:Program} {N:Nat} {ops:Array Oper}

theorem Zza {env env':Env} {d:Option Tmp} {v:Zag} {K K':Env→Prop} (hk:Zno N env d v K)
  (hK:∀ env1 env1',(∀ t,env1.get t=if d=some t then v else env.get t)→(∀ t,env1'.get t=if d=some t then v else env'.get t)→K env1→K' env1'):Zno N env' d v K':=by
 unfold Zno at *
 cases d with
 | none=>exact hK env env' (by simp) (by simp) hk
 | some d=>
  refine Zbt hk fun hk=>hK _ _ ?_ ?_ hk
  ·intro t; rw [Env.get_set]; by_cases e:t=d <;> simp [e,eq_comm]; exact fun q=>absurd q.symm e
  ·intro t; rw [Env.get_set]; by_cases e:t=d <;> simp [e,eq_comm]; exact fun q=>absurd q.symm e

theorem Zlf {env env':Env} {o:Oper} (hl:∀ t∈o.looksAt ops,env.get t=env'.get t):∀ x∈o.op.operands,ev env x=ev env' x:=fun x hx=>by
 cases x with
 | tmp t=>exact hl t (List.mem_append_left _ (List.mem_filterMap.2 ⟨.tmp t,by simpa using hx,rfl⟩))
 | _=>rfl
theorem Zew {env:Env} {t:Nat} {v:Zag} (h:env.get t=v) (s:Nat):(env.set t v).get s=env.get s:=by
 rw [Env.get_set]; split
 ·rename_i e; subst e; exact h.symm
 ·rfl
theorem Yio {env env':Env} {h h2:Zaa} {o:Oper} {K K':Env→Zaa→Prop} (hs:Zjj P N ops env h o K) (hl:∀ t∈o.looksAt ops,env.get t=env'.get t)
  (hop:∀ (e1 e2:Env),(∀ x∈o.op.operands,ev e1 x=ev e2 x)→(∀ t,e1.get t=env.get t)→∀ (A B:Zag→Zaa→Prop),opA P e1 h o A→(∀ v h',A v h'→B v h')→opA P e2 h2 o B)
  (hun:∀ e1 e2,Zyc e1 env→Zyc e2 env'→Zno N e1 o.dst (.tup []) (fun x=>K x h)→Zno N e2 o.dst (.tup []) (fun x=>K' x h2))
  (hK:∀ v h' env1 env1',Zpn o env v env1→Zpn o env' v env1'→K env1 h'→K' env1' h'):Zjj P N ops env' h2 o K':=by
 unfold Zjj at *
 cases hg:o.guard with
 | none=>
  simp only [hg] at hs ⊢
  exact hop env env' (Zlf hl) (fun _=>rfl) _ _ hs fun v h' hp=>Zza hp fun e1 e2 a b k=>hK v h' e1 e2 a b k
 | some g=>
  obtain ⟨j,want⟩:=g
  simp only [hg] at hs ⊢
  cases ht:(ops[j]?).bind (·.dst) with
  | none=>simp only [ht] at hs
  | some t=>
   simp only [ht] at hs ⊢
   have htl:env.get t=env'.get t:=hl t (List.mem_append_right _ (by simp [hg,ht]))
   rw [← htl]
   split at hs
   ·rename_i b hb
    have key:∀ c,b=c→(opA P (env.set t (.bool c)) h o (fun v h'=>Zno N (env.set t (.bool c)) o.dst v fun env'=>K env' h')→opA P (env'.set t (.bool c)) h2 o (fun v h'=>Zno N (env'.set t (.bool c)) o.dst v fun env'=>K' env' h')) ∧
      (Zno N (env.set t (.bool c)) o.dst (.tup []) (fun env'=>K env' h)→Zno N (env'.set t (.bool c)) o.dst (.tup []) (fun env'=>K' env' h2)):=by
     intro c e
     subst e
     have k1:=Zew hb
     have k2:=Zew (htl ▸ hb:env'.get t=.bool b)
     constructor
     ·intro ho
      refine hop _ _ (Zlf fun s hs=>by rw [k1,k2]; exact hl s hs) k1 _ _ ho fun v h' hp=>Zza hp fun e1 e2 a b k=>hK v h' e1 e2 ?_ ?_ k
      ·intro s; rw [a s,k1]
      ·intro s; rw [b s,k2]
     ·exact hun _ _ k1 k2
    cases b
    ·obtain ⟨k1,k2⟩:=key false rfl
     cases want
     ·exact k1 hs
     ·exact k2 hs
    ·obtain ⟨k1,k2⟩:=key true rfl
     cases want
     ·exact k2 hs
     ·exact k1 hs
   ·exact hun env env' (fun _=>rfl) (fun _=>rfl) hs
   ·exact hs.elim

theorem Zrv {env env':Env} {h:Zaa} {o:Oper} {K K':Env→Zaa→Prop} (hs:Zjj P N ops env h o K) (hl:∀ t∈o.looksAt ops,env.get t=env'.get t)
  (hK:∀ v h' env1 env1',Zpn o env v env1→Zpn o env' v env1'→K env1 h'→K' env1' h'):Zjj P N ops env' h o K':=
 Yio hs hl (fun e1 e2 hx _ A B ha hm=>Ygr ((Zro hx).1 ha) hm)
  (fun e1 e2 q1 q2 hp=>Zza hp fun f1 f2 a b k=>hK _ _ f1 f2 (fun t=>by rw [a t,q1 t]) (fun t=>by rw [b t,q2 t]) k) hK

def Yd (P:Program) (N:Nat) (ops:Array Oper) (o:Oper) (v:Zag) (env:Env) (h:Zaa):Prop:=
 ∀ K:Env→Zaa→Prop,(∀ env1,Zpn o env v env1→K env1 h)→Zjj P N ops env h o K

theorem Zon {K:Env→Zaa→Prop} {hs hs':List Ztj} (hsub:∀ d∈hs,d∈hs'):∀ (f:Nat) {listed:Array Bool} {env env':Env} {h:Zaa},(∀ e e' h,Zyc e e'→K e h→K e' h)→Zyc env env' →
  Yhn P N ops K hs' f listed env h→Yhn P N ops K hs f listed env' h
 | 0,_,_,_,_,hK,he,hh=>⟨hh.1,hK _ _ _ he hh.2⟩
 | f + 1,listed,env,env',h,hK,he,hh=>by
  refine ⟨fun hr=>hK _ _ _ he (hh.1 hr),fun i hi=>?_⟩
  have:=hh.2 i hi
  unfold Zqe at *
  cases ho:ops[i]? with
  | none=>
   rw [ho] at this
   exact ⟨fun d hd=>this.1 d (hsub d hd),Zon hsub f hK he this.2⟩
  | some o=>
   rw [ho] at this
   refine Zrv this (fun t _=>he t) fun v h' e1 e2 a b k=>⟨fun d hd=>k.1 d (hsub d hd),Zon hsub f hK (fun t=>?_) k.2⟩
   rw [a t,b t,he t]

theorem Ztl {K:Env→Zaa→Prop} {hs hs':List Ztj} (hK:∀ e e' h,Zyc e e'→K e h→K e' h) (hsub:∀ d∈hs,d∈hs') {i:Nat} {oi:Oper} {v:Zag} (hi:ops[i]?=some oi) {T:Zaa→Zaa→Prop}
  (hT:∀ j h h1,Zmh ops j i=false→(∀ d∈hs',Zmh ops j d.i=true ∨ d.ok h h1)→T h h1)
  {Y:Env→Zaa→Prop} (hY:∀ env h,Y env h→Yd P N ops oi v env h)
  (hst:∀ env h env1 h1,Y env h→(∀ t∈oi.looksAt ops,env.get t=env1.get t)→T h h1→Y env1 h1) :
  ∀ (fuel:Nat) (listed:Array Bool) (env env1:Env) (h:Zaa),
   (∀ j oj,ops[j]?=some oj→j≠i→listed.getD j true=false→(∀ e∈oj.after,Region.binds .any e=true→e.on≠i)→oi.apart ops oj=true) →
   i∈Region.ready .any ops listed→Y env h→Zpn oi env v env1 →
   Yhn P N ops K hs' fuel (listed.setIfInBounds i true) env1 h→Yhn P N ops K hs (fuel + 1) listed env h:=by
 intro fuel
 have now:∀ (fuel:Nat) (listed:Array Bool) (env env1:Env) (h:Zaa),Y env h→Zpn oi env v env1→Yhn P N ops K hs' fuel (listed.setIfInBounds i true) env1 h →
   Zqe P N ops i env h fun env' h'=>(∀ d∈hs,Zmh ops i d.i=true ∨ d.ok h h')∧Yhn P N ops K hs fuel (listed.setIfInBounds i true) env' h':=by
  intro fuel listed env env1 h hy ha H
  unfold Zqe
  rw [hi]
  exact hY _ _ hy _ fun env2 h2=>⟨fun d _=>.inr (d.ok_refl h),Zon hsub fuel hK (fun t=>by rw [ha t,h2 t]) H⟩
 induction fuel with
 | zero=>
  intro listed env env1 h _ hr hy ha H
  refine ⟨fun e=>(by rw [e] at hr; cases hr),fun j hj=>?_⟩
  by_cases hji:j=i
  ·subst hji; exact now 0 listed env env1 h hy ha H
  ·have:=ready_mono hj hji
   rw [H.1] at this
   cases this
 | succ fuel ih=>
  intro listed env env1 h hfree hr hy ha H
  refine ⟨fun e=>(by rw [e] at hr; cases hr),fun j hj=>?_⟩
  by_cases hji:j=i
  ·subst hji; exact now (fuel + 1) listed env env1 h hy ha H
  ·have h1:=H.2 j (ready_mono hj hji)
   obtain ⟨hjun,oj,hoj,hall⟩:=mem_ready.1 hj
   have hnot:∀ e∈oj.after,Region.binds .any e=true→e.on≠i:=fun e he hb heq=>by
    have h1:=hall e he hb
    have h0:=(mem_ready.1 hr).1
    rw [heq] at h1
    rcases Nat.lt_or_ge i listed.size with h' | h'
    ·simp [h'] at h0 h1; rw [h0] at h1; cases h1
    ·simp [Array.getElem?_eq_none h'] at h1
   have hw:Zmh ops j i=false:=by
    unfold Zmh
    rw [hoj]
    simp only [Array.any_eq_false]
    intro q hq
    simp only [Bool.and_eq_true,beq_iff_eq,not_and]
    intro hb
    exact hnot _ (Array.getElem_mem hq) hb
   obtain ⟨a1,a2,a3⟩:=Oper.apart_spec (hfree j oj hoj hji hjun hnot)
   unfold Zqe at h1 ⊢
   rw [hoj] at h1 ⊢
   refine Zrv h1 (fun t ht=>?_) fun u h' e1 e2 q1 q2 k=>?_
   ·rw [ha t,if_neg (fun e=>a1 t e ht)]
   ·refine ⟨fun d hd=>k.1 d (hsub d hd),ih (listed.setIfInBounds j true) e2 e1 h' ?_ (ready_mono hr (Ne.symm hji)) ?_ ?_ ?_⟩
    ·intro k ok hk hki hun hno
     refine hfree k ok hk hki ?_ hno
     by_cases hjk:j=k
     ·subst hjk; exact hjun
     ·rw [getD_set_ne true hjk] at hun; exact hun
    ·refine hst env h e2 h' hy (fun t ht=>?_) (hT j h h' hw k.1)
     rw [q2 t,if_neg (fun e=>a3 t e ht)]
    ·intro t
     rw [q1 t,q2 t,ha t]
     by_cases x:oj.dst=some t <;> by_cases y:oi.dst=some t <;> simp [x,y]
     exact absurd x (a2 t y)
    ·rw [Array.setIfInBounds_comm _ _ hji]
     exact k.2
end
end Go.Sim
