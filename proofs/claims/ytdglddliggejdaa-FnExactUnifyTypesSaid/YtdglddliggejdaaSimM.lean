/- A part of the proof of a statement of this seat: see the text that holds the theorem. No condition. -/
import Derived.Test.YtdglddliggejdaaSimIc
import Derived.LaidEqlPtr
import Derived.Orders
set_option linter.unusedVariables false
set_option linter.unusedSimpArgs false
set_option linter.all false
set_option linter.unusedSimpArgs false
namespace Go.Sim
open Go Go.RowKit

def Zby (h:Zaa) (i:Nat):Bool:=match h[i]? with | some (.cells _ _ false)=>true | _=>false
def Zid (P:Program) (t:TypeId):Bool:=match P.underlying t with | some (.pointer e)=>(match P.info? e with | some j=>!(Nat.beq j.size 0) | none=>false) | _=>false
def Ygg (h:Zaa) (p q:Nat × Nat) (K:Bool→Prop):Prop:=(p=q∧K true) ∨ (p.1≠q.1∧Zby h p.1=true∧Zby h q.1=true∧K false)
def Zkl (h:Zaa) (a b:Option (Nat × Nat)) (K:Bool→Prop):Prop:=
 match b with | none=>K a.isNone | some q=>(match a with | none=>K false | some p=>Ygg h p q K)
def Yco (P:Program) (op:BinOp) (t:TypeId) (h:Zaa) (a b:Option (Nat × Nat)) (K:Zac→Zaa→Prop):Prop:=
 match op with
 | .eql=>chk (Zid P t=true) (Zkl h a b fun e=>K (.bool e) h)
 | .neq=>chk (Zid P t=true) (Zkl h a b fun e=>K (.bool (!e)) h)
 | _=>False
def Zgo (h:Zaa):List ME→(Nat × Nat)→Nat→Option (Option (Nat × Zac))
 | [],_,_=>some none
 | (.ptr (some q),v,_) :: r,p,i=>if p=q then some (some (i,v)) else if p.1≠q.1∧Zby h p.1=true∧Zby h q.1=true then Zgo h r p (i + 1) else none
 | _ :: _,_,_=>none
def Zns (r:Option (Option (Nat × Zac))) (K:Option Zac→Prop):Prop:=match r with | some (some (_,v))=>K (some v) | some none=>K none | none=>False
def Yau (r:Option (Option (Nat × Zac))) (es:List ME) (clk:Nat) (p:Nat × Nat) (v:Zac) (K:List ME→Nat→Prop):Prop:=
 match r with
 | some (some (i,_))=>K (es.modify i fun e=>(.ptr (some p),v,e.2.2)) clk
 | some none=>K (es ++ [(.ptr (some p),v,clk)]) (clk + 1)
 | none=>False
def Yce (r:Option (Option (Nat × Zac))) (es:List ME) (K:List ME→Prop):Prop:=match r with | some (some (i,_))=>K (es.eraseIdx i) | some none=>K es | none=>False
def okV (ok:Bool) (r:Option Zac) (v:Zac):Zac:=match ok with | true=>.tup [v,.bool r.isSome] | false=>v
def Zjl (P:Program) (t:TypeId) (h:Zaa) (m k:Zac) (ok:Bool) (K:Zac→Prop):Prop:=
 match P.underlying t with
 | some (.map kt et)=>chk (Zid P kt=true∧isAgg P et=false) (match m with
  | .map a=>Zeu (some k) fun q=>Zaw q fun i o=>Zol (Ybw P et) fun z=>Zbl h a fun es _=>Zns (Zgo h es (i,o) 0) fun r=>xv (Zgb P et) (some (r.getD z)) fun v=>K (okV ok r v)
  | _=>False)
 | _=>False
def Zfq (P:Program) (t:TypeId) (h:Zaa) (m k v:Zac) (K:Zac→Zaa→Prop):Prop:=
 match P.underlying t with
 | some (.map kt _)=>chk (Zid P kt=true) (match m with
  | .map a=>xMp a fun mi=>Zeu (some k) fun q=>Zaw q fun i o=>Zbl h (some mi) fun es clk=>Yau (Zgo h es (i,o) 0) es clk (i,o) v fun es' clk'=>K .undef (h.set mi (.map es' clk'))
  | _=>False)
 | _=>False
def Zle (P:Program) (t:TypeId) (h:Zaa) (m k:Zac) (K:Zac→Zaa→Prop):Prop:=
 match P.underlying t with
 | some (.map kt _)=>chk (Zid P kt=true) (match m with
  | .map a=>xMp a fun mi=>Zeu (some k) fun q=>Zaw q fun i o=>Zbl h (some mi) fun es clk=>Yce (Zgo h es (i,o) 0) es fun es'=>K (.tup []) (h.set mi (.map es' clk))
  | _=>False)
 | _=>False
def Ycr (P:Program) (t:TypeId):Bool:=match P.underlying t with | some (.map kt _)=>Zkw P kt | _=>false
def Ycm (x:Operand):Bool:=match x with | .const (.pointer none)=>true | _=>false

section
variable {P:Program} {base:Nat} {w0:World} {μ:List Pl} {h:Zaa} {w:World}
theorem Zja {t:TypeId} (h:Zid P t=true):∃ e j,P.underlying t=some (.pointer e)∧P.info? e=some j∧j.size≠0:=by
 unfold Zid at h
 split at h
 ·rename_i e he
  split at h
  ·rename_i j hj
   refine ⟨e,j,he,hj,fun h0=>?_⟩
   rw [h0] at h; simp at h
  ·cases h
 ·cases h
theorem Zjy {i:Nat} (hh:Zby h i=true):∃ t cs,h[i]?=some (.cells t cs false):=by
 unfold Zby at hh
 split at hh
 ·rename_i t cs he; exact ⟨t,cs,he⟩
 ·cases hh
theorem Zsa (r:Rel P base w0 μ h w) {i:Nat} {e:Pl} (he:μ[i]?=some e) (hh:Zby h i=true):∃ C t,w.heap[e.b]?=some (.cells C t (0,0)):=by
 obtain ⟨t,cs,hi⟩:=Zjy hh
 obtain ⟨C,el,fr,h1,_,h3⟩:=r.obj i _ hi e he
 simp only [Bool.false_eq_true,if_false] at h3
 obtain ⟨_,_,_,rfl,_⟩:=h3
 exact ⟨C,el,h1⟩
theorem Yes (r:Rel P base w0 μ h w) {i j:Nat} {e f:Pl} (he:μ[i]?=some e) (hf:μ[j]?=some f) (hi:Zby h i=true) (hj:Zby h j=true) (hne:i≠j):e.b≠f.b:=by
 obtain ⟨t,cs,h1⟩:=Zjy hi
 obtain ⟨t',cs',h2⟩:=Zjy hj
 exact r.sep i j _ _ e f hne h1 h2 rfl rfl he hf
theorem Zkv (r:Rel P base w0 μ h w) {t:TypeId} (ht:Zid P t=true) {a b:Option (Nat × Nat)} {x y:Value} (ha:VR μ (.ptr a) x) (hb:VR μ (.ptr b) y) {K:Bool→Prop} (hk:Zkl h a b K) :
  ∃ e:Bool,(∀ d,(Op.equalIn (d + 1) t x y).run P w=.ok e w)∧K e:=by
 obtain ⟨te,j,hu,hj,hsz⟩:=Zja ht
 unfold Zkl at hk
 cases hb with
 | ptr0=>
  cases ha with
  | ptr0=>exact ⟨true,fun d=>by simp [Op.equalIn,run_underlying hu],hk⟩
  | ptr hi=>exact ⟨false,fun d=>by simp [Op.equalIn,run_underlying hu],hk⟩
 | ptr hf=>
  cases ha with
  | ptr0=>exact ⟨false,fun d=>by simp [Op.equalIn,run_underlying hu],hk⟩
  | ptr he=>
   rename_i j1 o1 f i1 o2 e
   rcases hk with ⟨hpq,hk⟩ | ⟨hne,o1',o2',hk⟩
   ·cases hpq
    rw [he] at hf; cases hf
    exact ⟨true,fun d=>by simp [Op.equalIn,run_underlying hu,sizeOf,typeInfo,hj,run_sameAddr_same],hk⟩
   ·obtain ⟨C,t1,h1⟩:=Zsa r he o1'
    obtain ⟨C',t2,h2⟩:=Zsa r hf o2'
    have hnb:=Yes r he hf o1' o2' hne
    exact ⟨false,fun d=>by
     simp [Op.equalIn,run_underlying hu,sizeOf,typeInfo,hj,hsz,run_sameAddr_other w (a:=⟨e.b,e.o + o2,none⟩) (b:=⟨f.b,f.o + o1,none⟩) (fun q=>hnb (congrArg Addr.block q)) h1 h2],hk⟩
theorem Yfa (r:Rel P base w0 μ h w) {op:BinOp} {t:TypeId} {xo yo:Operand} {a b:Option (Nat × Nat)} {x y:Value} (ha:VR μ (.ptr a) x) (hb:VR μ (.ptr b) y) {K:Zac→Zaa→Prop} (hk:Yco P op t h a b K) :
  ∃ e:Bool,(do eqGuard op t xo yo x y; binOp op t x y:Sem Value).run P w=.ok (.bool e) w∧K (.bool e) h:=by
 have hg:∀ op',op'=BinOp.eql ∨ op'=BinOp.neq→(eqGuard op' t xo yo x y).run P w=.ok () w:=by
  intro op' ho
  rcases ho with rfl | rfl <;> cases ha <;> simp [eqGuard]
 unfold Yco at hk
 split at hk
 ·replace hk:=Zar hk; obtain ⟨ht,hk⟩:=hk
  obtain ⟨e,he,hk⟩:=Zkv r ht ha hb hk
  refine ⟨e,?_,hk⟩
  simp only [Sem.run_bind,hg _ (.inl rfl),Result.andThen_ok]
  cases ha <;> cases hb <;> (simp only [binOp]; simp [Op.equal,Op.maxDepth,he 9999])
 ·replace hk:=Zar hk; obtain ⟨ht,hk⟩:=hk
  obtain ⟨e,he,hk⟩:=Zkv r ht ha hb hk
  refine ⟨!e,?_,hk⟩
  simp only [Sem.run_bind,hg _ (.inr rfl),Result.andThen_ok]
  cases ha <;> cases hb <;> (simp only [binOp]; simp [Op.equal,Op.maxDepth,he 9999])
 ·exact hk.elim
theorem Zfo (r:Rel P base w0 μ h w) {kt:TypeId} (ht:Zid P kt=true) {i o:Nat} {e:Pl} (hi:μ[i]?=some e):∀ {es:List ME} {ents:List MapEntry} {n:Nat} {q:Option (Nat × Zac)},
  VRs μ (es.map (·.1)) (ents.map (·.key))→VRs μ (es.map (·.2.1)) (ents.map (·.val))→Zgo h es (i,o) n=some q →
  (q=none∧(Instr.findAsking kt (.pointer (some ⟨e.b,e.o + o,none⟩)) ents n).run P w=.ok none w) ∨
   ∃ j v x k0,q=some (j,v)∧n≤j∧VR μ v x∧(Instr.findAsking kt (.pointer (some ⟨e.b,e.o + o,none⟩)) ents n).run P w=.ok (some (j,x)) w∧ents[j - n]?=some k0∧k0.key=.pointer (some ⟨e.b,e.o + o,none⟩)
 | [],[],n,q,_,_,hf=>by simp [Zgo] at hf; subst hf; exact .inl ⟨rfl,by simp [Instr.findAsking]⟩
 | [],_ :: _,n,q,hk,_,_=>by cases hk
 | _ :: _,[],n,q,hk,_,_=>by cases hk
 | (k,v,b) :: es,en :: ents,n,q,hk,hv,hf=>by
  simp only [List.map_cons] at hk hv
  cases hk with
  | cons hk1 hk2=>
  cases hv with
  | cons hv1 hv2=>
  cases k with
  | ptr a=>
   cases a with
   | none=>simp [Zgo] at hf
   | some p=>
    simp only [Zgo] at hf
    generalize hek:en.key=ek at hk1
    have hx:VR μ (.ptr (some (i,o))) (.pointer (some ⟨e.b,e.o + o,none⟩)):=.ptr hi
    by_cases hpq:(i,o)=p
    ·rw [if_pos hpq] at hf
     cases hf
     obtain ⟨c,hc,hke⟩:=Zkv (K:=fun c=>c=true) r ht hx hk1 (by subst hpq; exact .inl ⟨rfl,rfl⟩)
     subst hke
     have hkey:en.key=.pointer (some ⟨e.b,e.o + o,none⟩):=by
      subst hpq
      cases hk1 with
      | ptr hf2=>rw [hi] at hf2; cases hf2; exact hek
     refine .inr ⟨n,v,en.val,en,rfl,Nat.le_refl _,hv1,?_,by simp,hkey⟩
     unfold Instr.findAsking
     simp [Op.equal,Op.maxDepth,hek,hc 9999]
    ·rw [if_neg hpq] at hf
     by_cases hne:(i,o).1≠p.1∧Zby h (i,o).1=true∧Zby h p.1=true
     ·rw [if_pos hne] at hf
      obtain ⟨c,hc,hke⟩:=Zkv (K:=fun c=>c=false) r ht hx hk1 (.inr ⟨hne.1,hne.2.1,hne.2.2,rfl⟩)
      subst hke
      have step:(Instr.findAsking kt (.pointer (some ⟨e.b,e.o + o,none⟩)) (en :: ents) n).run P w=(Instr.findAsking kt (.pointer (some ⟨e.b,e.o + o,none⟩)) ents (n + 1)).run P w:=by
       conv=>lhs; unfold Instr.findAsking
       simp [Op.equal,Op.maxDepth,hek,hc 9999]
      rcases Zfo r ht hi hk2 hv2 hf with ⟨h1,h2⟩ | ⟨j,v',x,k0,h1,h2,h3,h4,h5,h6⟩
      ·exact .inl ⟨h1,by rw [step,h2]⟩
      ·refine .inr ⟨j,v',x,k0,h1,by omega,h3,by rw [step,h4],?_,h6⟩
       rw [show j - n=(j - (n + 1)) + 1 by omega]; simpa using h5
     ·rw [if_neg hne] at hf; cases hf
  | _=>simp [Zgo] at hf
theorem Zdt {kt te:TypeId} (hu:P.underlying kt=some (.pointer te)) (x:Value) (es:List MapEntry):(Instr.findKey kt x es).run P w=(Instr.findAsking kt x es).run P w:=by
 cases es with
 | nil=>simp [Instr.findKey,run_underlying hu,Instr.findNow,Instr.findAsking]
 | cons e es=>simp [Instr.findKey,run_underlying hu,Instr.findNow,Instr.sameNow]
theorem Zin {kt te:TypeId} (hu:P.underlying kt=some (.pointer te)) (x:Option Addr) (b:Bool):(Instr.checkKey b 10000 kt (.pointer x)).run P w=.ok () w:=by
 unfold Instr.checkKey
 simp [run_underlying hu]
theorem Zjf {o:Option Zac} {K:Option (Nat × Nat)→Prop} (h:Zeu o K):∃ s,o=some (.ptr s)∧K s:=by
 unfold Zeu at h; split at h
 ·exact ⟨_,rfl,h⟩
 ·exact h.elim
theorem Zjz {a:Option (Nat × Nat)} {K:Nat→Nat→Prop} (h:Zaw a K):∃ i o,a=some (i,o)∧K i o:=by
 unfold Zaw at h; split at h
 ·exact ⟨_,_,rfl,h⟩
 ·exact h.elim
theorem Zwg (r:Rel P base w0 μ h w) {t:TypeId} {a k:Zac} {x y:Value} {ok:Bool} (ha:VR μ a x) (hkk:VR μ k y) {K:Zac→Prop} (hk:Zjl P t h a k ok K) :
  ∃ z v,(Instr.lookup t x y ok).run P w=.ok z w∧VR μ v z∧K v:=by
 unfold Zjl at hk
 split at hk
 ·rename_i kt et hu
  replace hk:=Zar hk
  obtain ⟨⟨hs,hag⟩,hk⟩:=hk
  obtain ⟨te,tj,hkt,_⟩:=Zja hs
  split at hk
  ·rename_i m
   obtain ⟨q,hq,hk⟩:=Zjf hk
   cases hq
   obtain ⟨i,o,rfl,hk⟩:=Zjz hk
   obtain ⟨z0,hz,hk⟩:=Ziw hk
   obtain ⟨zv,hzv1,hzr⟩:=Zus (μ:=μ) hz
   cases hkk with
   | ptr hi=>
   rename_i e
   have hchk:∀ b,(Instr.checkKey b 10000 kt (.pointer (some ⟨e.b,e.o + o,none⟩))).run P w=.ok () w:=fun b=>Zin hkt _ b
   rcases Zha hk with ⟨rfl,hk1⟩ | ⟨i',es,clk,rfl,hi',hk1⟩
   ·cases ha
    simp only [Zns,Zgo] at hk1
    obtain ⟨v,hv,hk2⟩:=Zfg hk1
    cases hv
    have hfk:(Instr.findKey kt (.pointer (some ⟨e.b,e.o + o,none⟩)) []).run P w=.ok none w:=by rw [Zdt hkt]; simp [Instr.findAsking]
    cases ok
    ·exact ⟨zv,_,by simp [Instr.lookup,run_underlying hu,hchk,hfk,hzr w],hzv1,hk2⟩
    ·exact ⟨.tuple #[zv,.bool false],_,by simp [Instr.lookup,run_underlying hu,hchk,hfk,hzr w],.tup (.cons hzv1 (.cons (.bool _) .nil)),hk2⟩
   ·cases ha with
    | map hmu=>
    obtain ⟨hb0,ents,hg,hk1',hk2',hk3'⟩:=r.obj i' _ hi' _ hmu
    unfold Zns at hk1
    split at hk1
    ·rename_i j v hf
     obtain ⟨v1,hv,hl⟩:=Zfg hk1
     cases hv
     rcases Zfo r hs hi hk1' hk2' hf with ⟨h1,_⟩ | ⟨j',v',x',k0,h1,_,h3,h4,_⟩
     ·cases h1
     ·cases h1
      cases ok
      ·exact ⟨x',_,by simp [Instr.lookup,run_underlying hu,MapKept.run_getObj_map hg,hchk,Zdt hkt,h4],h3,hl⟩
      ·exact ⟨.tuple #[x',.bool true],_,by simp [Instr.lookup,run_underlying hu,MapKept.run_getObj_map hg,hchk,Zdt hkt,h4],.tup (.cons h3 (.cons (.bool _) .nil)),hl⟩
    ·rename_i hf
     obtain ⟨v1,hv,hl⟩:=Zfg hk1
     cases hv
     rcases Zfo r hs hi hk1' hk2' hf with ⟨_,h4⟩ | ⟨j',v',x',k0,h1,_⟩
     ·cases ok
      ·exact ⟨zv,_,by simp [Instr.lookup,run_underlying hu,MapKept.run_getObj_map hg,hchk,Zdt hkt,h4,hzr w],hzv1,hl⟩
      ·exact ⟨.tuple #[zv,.bool false],_,by simp [Instr.lookup,run_underlying hu,MapKept.run_getObj_map hg,hchk,Zdt hkt,h4,hzr w],.tup (.cons hzv1 (.cons (.bool _) .nil)),hl⟩
     ·cases h1
    ·exact hk1.elim
  ·exact hk.elim
 ·exact hk.elim
theorem Zqe (r:Rel P base w0 μ h w) {t:TypeId} {a k v:Zac} {x y z:Value} (ha:VR μ a x) (hkk:VR μ k y) (hv:VR μ v z) {K:Zac→Zaa→Prop} (hk:Zfq P t h a k v K) :
  ∃ w' h',(Instr.mapUpdate t x y z).run P w=.ok () w'∧Rel P base w0 μ h' w'∧K .undef h':=by
 unfold Zfq at hk
 split at hk
 ·rename_i kt et hu
  replace hk:=Zar hk
  obtain ⟨hs,hk⟩:=hk
  obtain ⟨te,tj,hkt,_⟩:=Zja hs
  split at hk
  ·rename_i m
   unfold xMp at hk
   split at hk
   ·rename_i mi
    obtain ⟨q,hq,hk⟩:=Zjf hk
    cases hq
    obtain ⟨i,o,rfl,hk⟩:=Zjz hk
    cases hkk with
    | ptr hi=>
    rename_i e0
    obtain ⟨es,clk,hi',hk1⟩:=Zfd hk
    cases ha with
    | map hmu=>
    rename_i e
    obtain ⟨hb0,ents,hg,hk1',hk2',hk3'⟩:=r.obj mi _ hi' _ hmu
    have hchk:(Instr.checkKey false 10000 kt (.pointer (some ⟨e0.b,e0.o + o,none⟩))).run P w=.ok () w:=Zin hkt _ false
    have hlt:=(Array.getElem?_eq_some_iff.1 hg).1
    have hkv:VR μ (.ptr (some (i,o))) (.pointer (some ⟨e0.b,e0.o + o,none⟩)):=.ptr hi
    unfold Yau at hk1
    split at hk1
    ·rename_i j v0 hf
     rcases Zfo r hs hi hk1' hk2' hf with ⟨h1,_⟩ | ⟨j',v',x',k0,h1,_,h3,h4,h5,h6⟩
     ·cases h1
     ·cases h1
      have hj':ents[j]?=some k0:=by simpa using h5
      have hst:∀ w:World,(Instr.keyThatStays k0.key (.pointer (some ⟨e0.b,e0.o + o,none⟩))).run P w=.ok (.pointer (some ⟨e0.b,e0.o + o,none⟩)) w:=fun w=>by
       rw [h6]; simp [Instr.keyThatStays,Instr.sameBits]
      refine ⟨_,_,?_,r.over (x:=.map (ents.modify j fun e=>{ e with key:=.pointer (some ⟨e0.b,e0.o + o,none⟩),val:=z }) clk) hi' rfl hmu hb0 rfl ?_,hk1⟩
      ·simp [Instr.mapUpdate,run_underlying hu,MapKept.run_getObj_map hg,hchk,Zdt hkt,h4,hj',hst,MapKept.run_setObj_map _ hg]
      ·refine ⟨hb0,ents.modify j fun e=>{ e with key:=.pointer (some ⟨e0.b,e0.o + o,none⟩),val:=z },by simp [hlt],?_,?_,?_⟩
       ·rw [Array.toList_modify]; exact VRs.modify (p:=fun (x:ME)=>x.1) (q:=fun (x:MapEntry)=>x.key) (v:=.ptr (some (i,o))) (k:=.pointer (some ⟨e0.b,e0.o + o,none⟩)) hkv (fun _=>rfl) (fun _=>rfl) j hk1'
       ·rw [Array.toList_modify]; exact VRs.modify (p:=fun (x:ME)=>x.2.1) (q:=fun (x:MapEntry)=>x.val) (v:=v) (k:=z) hv (fun _=>rfl) (fun _=>rfl) j hk2'
       ·rw [Array.toList_modify,Zeb (p:=fun (x:ME)=>x.2.2) (f:=fun e=>(.ptr (some (i,o)),v,e.2.2)) (fun _=>rfl) es j,Zeb (p:=fun (x:MapEntry)=>x.born) (f:=fun e=>{ e with key:=.pointer (some ⟨e0.b,e0.o + o,none⟩),val:=z }) (fun _=>rfl) ents.toList j]; exact hk3'
    ·rename_i hf
     rcases Zfo r hs hi hk1' hk2' hf with ⟨_,h4⟩ | ⟨j',v',x',k0,h1,_⟩
     ·refine ⟨_,_,?_,r.over (x:=.map (ents.push { key:=.pointer (some ⟨e0.b,e0.o + o,none⟩),val:=z,born:=clk }) (clk + 1)) hi' rfl hmu hb0 rfl ?_,hk1⟩
      ·simp [Instr.mapUpdate,run_underlying hu,MapKept.run_getObj_map hg,hchk,Zdt hkt,h4,MapKept.run_setObj_map _ hg]
      ·refine ⟨hb0,ents.push { key:=.pointer (some ⟨e0.b,e0.o + o,none⟩),val:=z,born:=clk },by simp [hlt],?_,?_,?_⟩
       ·simpa using hk1'.append (.cons hkv .nil)
       ·simpa using hk2'.append (.cons hv .nil)
       ·simp [hk3']
     ·cases h1
    ·exact hk1.elim
   ·exact hk.elim
  ·exact hk.elim
 ·exact hk.elim
theorem VRs.erase {vs:List Zac} {xs:List Value} (hh:VRs μ vs xs):∀ (j:Nat),VRs μ (vs.eraseIdx j) (xs.eraseIdx j):=by
 induction vs generalizing xs with
 | nil=>intro j; cases hh; exact .nil
 | cons v vs ih=>
  intro j
  cases hh with
  | cons h1 h2=>
  cases j with
  | zero=>exact h2
  | succ j=>exact .cons h1 (ih h2 j)
theorem Zcr {α β:Type} (f:α→β):∀ (l:List α) (j:Nat),(l.map f).eraseIdx j=(l.eraseIdx j).map f
 | [],j=>by simp
 | a :: l,0=>by simp
 | a :: l,j + 1=>by simp [Zcr f l j]
theorem Zxm (r:Rel P base w0 μ h w) {t ty:TypeId} {ats:Array TypeId} (hat:ats[0]?=some t) {a k:Zac} {x y:Value} (ha:VR μ a x) (hkk:VR μ k y) {K:Zac→Zaa→Prop} (hk:Zle P t h a k K) :
  Res P base w0 μ ((Builtin.delete_ ats ty #[x,y]).run P w) K:=by
 unfold Zle at hk
 split at hk
 ·rename_i kt et hu
  replace hk:=Zar hk
  obtain ⟨hs,hk⟩:=hk
  obtain ⟨te,tj,hkt,_⟩:=Zja hs
  split at hk
  ·rename_i m
   unfold xMp at hk
   split at hk
   ·rename_i mi
    obtain ⟨q,hq,hk⟩:=Zjf hk
    cases hq
    obtain ⟨i,o,rfl,hk⟩:=Zjz hk
    cases hkk with
    | ptr hi=>
    rename_i e0
    obtain ⟨es,clk,hi',hk1⟩:=Zfd hk
    cases ha with
    | map hmu=>
    rename_i e
    obtain ⟨hb0,ents,hg,hk1',hk2',hk3'⟩:=r.obj mi _ hi' _ hmu
    have hchk:∀ b,(Instr.checkKey b 10000 kt (.pointer (some ⟨e0.b,e0.o + o,none⟩))).run P w=.ok () w:=fun b=>Zin hkt _ b
    have hlt:=(Array.getElem?_eq_some_iff.1 hg).1
    unfold Yce at hk1
    split at hk1
    ·rename_i j v0 hf
     rcases Zfo r hs hi hk1' hk2' hf with ⟨h1,_⟩ | ⟨j',v',x',k0,h1,_,h3,h4,h5,h6⟩
     ·cases h1
     ·cases h1
      have hjl:j < ents.size:=by have:=(List.getElem?_eq_some_iff.1 h5).1; simpa using this
      have htl:(ents.eraseIdxIfInBounds j).toList=ents.toList.eraseIdx j:=by simp [Array.eraseIdxIfInBounds,hjl]
      refine ⟨.tuple #[],_,μ,.tup [],_,?_,Ext.refl _,r.over (x:=.map (ents.eraseIdxIfInBounds j) clk) hi' rfl hmu hb0 rfl ?_,.tup .nil,hk1⟩
      ·simp [Builtin.delete_,hat,run_underlying hu,MapKept.run_getObj_map hg,hchk,Zdt hkt,h4,MapKept.run_setObj_map _ hg]
      ·refine ⟨hb0,ents.eraseIdxIfInBounds j,by simp [hlt],?_,?_,?_⟩
       ·rw [htl,← Zcr,← Zcr]; exact hk1'.erase j
       ·rw [htl,← Zcr,← Zcr]; exact hk2'.erase j
       ·rw [htl,← Zcr,← Zcr,hk3']
    ·rename_i hf
     rcases Zfo r hs hi hk1' hk2' hf with ⟨_,h4⟩ | ⟨j',v',x',k0,h1,_⟩
     ·refine ⟨.tuple #[],_,μ,.tup [],_,?_,Ext.refl _,r.over (x:=.map ents clk) hi' rfl hmu hb0 rfl ?_,.tup .nil,hk1⟩
      ·simp [Builtin.delete_,hat,run_underlying hu,MapKept.run_getObj_map hg,hchk,Zdt hkt,h4,MapKept.run_setObj_map _ hg]
      ·exact ⟨hb0,ents,by simp [hlt],hk1',hk2',hk3'⟩
     ·cases h1
    ·exact hk1.elim
   ·exact hk.elim
  ·exact hk.elim
 ·exact hk.elim
end
end Go.Sim

set_option linter.unusedSimpArgs false
namespace Go.Sim
open Go Go.RowKit

structure Zad (P:Program) (n:FuncId) (args:List Zac) (h:Zaa) (Q:Zac→Zaa→Prop):Prop where
 able : ∃ fn, P.funcs[n]? = some fn ∧ fn.body.isSome = true ∧ (fn.name == "runtime.NumGoroutine") = false
 calls:∀ (base:Nat) (w0:World) (μ:List Pl) (w:World) (xs:Array Value),Rel P base w0 μ h w→VRs μ args xs.toList →
  Calls P n xs w fun e w'=>∃ x μ' v h',e=.returned x∧Ext μ μ'∧Rel P base w0 μ' h' w'∧VR μ' v x∧Q v h'
theorem Zad.mono {P:Program} {n:FuncId} {args:List Zac} {h:Zaa} {Q Q':Zac→Zaa→Prop} (hc:Zad P n args h Q) (hq:∀ v h',Q v h'→Q' v h'):Zad P n args h Q':=
 ⟨hc.1,fun base w0 μ w xs r hx=>(hc.2 base w0 μ w xs r hx).mono fun _ _ ⟨x,μ',v,h',a,b,c,d,q⟩=>⟨x,μ',v,h',a,b,c,d,hq _ _ q⟩⟩

def rts (P:Program) (f:FuncId):List TypeId:=match P.funcs[f]? with | some fn=>fn.resultTypes.toList | none=>[]
def Yfh (P:Program) (f:FuncId) (args:List Zac) (h:Zaa) (K:Zac→Zaa→Prop):Prop:=Zad P f args h fun v h'=>Yde P (rts P f) v fun v=>K v h'
def Yfy (v:Zac) (K:FuncId→List Zac→Prop):Prop:=match v with | .fn g caps=>K g caps | _=>False
def Yhb (P:Program) (t:TypeId):List TypeId:=match P.underlying t with | some (.tuple ts)=>ts.toList | _=>[t]
def Ygi (P:Program) (t:TypeId) (v:Zac) (args:List Zac) (h:Zaa) (K:Zac→Zaa→Prop):Prop:=Yfy v fun g caps=>Zad P g (args ++ caps) h fun v h'=>Yde P (Yhb P t) v fun v=>K v h'
def Zwy (P:Program) (env:Env) (h:Zaa) (o:Oper) (c:Call) (K:Zac→Zaa→Prop):Prop:=
 match c.callee with
 | .value f=>(match f with
  | .func g=>Yfh P g (c.args.toList.map (ev env) ++ []) h K
  | f=>Ygi P o.type (ev env f) (c.args.toList.map (ev env)) h K)
 | .builtin .append=>(match c.argTypes.toList with
  | [t,u]=>chk (u=t) (match c.args.toList.map (ev env) with | [s,x]=>Zdk P t h s x fun v h'=>xv .slice (some v) fun v=>K v h' | _=>False)
  | _=>False)
 | .builtin .min=>(match c.args.toList.map (ev env) with | [x,y]=>Yen x y fun v=>K v h | _=>False)
 | .builtin .clear=>(match c.argTypes.toList with
  | [t]=>(match c.args.toList.map (ev env) with | [x]=>Zuk P t h x K | _=>False)
  | _=>False)
 | .builtin .delete=>(match c.argTypes.toList with
  | t :: _=>(match c.args.toList.map (ev env) with | [m,k]=>Zle P t h m k K | _=>False)
  | _=>False)
 | _=>Zjn P env o fun v=>K v h
def opA (P:Program) (env:Env) (h:Zaa) (o:Oper) (K:Zac→Zaa→Prop):Prop:=
 match o.op with
 | .load t a=>chk ((P.underlying t).isSome=true) (Zmg P t h (ev env a) fun v=>K v h)
 | .store t a x=>chk ((P.underlying t).isSome=true) (Zpp P t h (ev env a) (ev env x) fun h'=>K .undef h')
 | .alloc t=>Ycq P t h K
 | .box t x=>Ygz t h (ev env x) K
 | .build t ps=>Zzd P t (parts env ps) fun v=>K v h
 | .buildSlice t n ps=>Zhw P t n (parts env ps) h K
 | .call c=>Zwy P env h o c K
 | .makeSlice t l c=>Zgl P t (ev env l) (ev env c) h K
 | .makeMap t r=>Zjm P t (r.map (ev env)) h K
 | .lookup t x i ok=>(match Ycr P t with | true=>Zjl P t h (ev env x) (ev env i) ok fun v=>K v h | false=>Zlb P t h (ev env x) (ev env i) ok fun v=>K v h)
 | .mapUpdate t m k v=>(match Ycr P t with | true=>Zfq P t h (ev env m) (ev env k) (ev env v) K | false=>Zgk P t h (ev env m) (ev env k) (ev env v) K)
 | .range t x=>Zpr P t (ev env x) h K
 | .next x st=>Zvc P o.type (ev env x) st h K
 | .entry x=>Zpa P o.type (ev env x) h fun v=>K v h
 | .convert s d x=>(match Zwi P s with | true=>Yeo P s d h (ev env x) fun v=>K v h | false=>Zjn P env o fun v=>K v h)
 | .binOp op t x y _=>(match ev env x with
  | .ptr a=>Zeu (some (ev env y)) fun b=>Yco P op t h a b K
  | _=>Zjn P env o fun v=>K v h)
 | _=>Zjn P env o fun v=>K v h
def Zjs (N:Nat) (env:Env) (d:Option Tmp) (v:Zac) (K:Env→Prop):Prop:=match d with | none=>K env | some d=>chk (d < N) (K (env.set d v))
def Zgu (P:Program) (N:Nat) (ops:Array Oper) (env:Env) (h:Zaa) (o:Oper) (K:Env→Zaa→Prop):Prop:=
 match o.guard with
 | none=>opA P env h o fun v h'=>Zjs N env o.dst v fun env'=>K env' h'
 | some (j,want)=>(match (ops[j]?).bind (·.dst) with
  | some t=>(match env.get t with
   | .bool b=>bcase b
     (match want with | true=>opA P (env.set t (.bool true)) h o fun v h'=>Zjs N (env.set t (.bool true)) o.dst v fun env'=>K env' h' | false=>Zjs N (env.set t (.bool true)) o.dst (.tup []) fun env'=>K env' h)
     (match want with | false=>opA P (env.set t (.bool false)) h o fun v h'=>Zjs N (env.set t (.bool false)) o.dst v fun env'=>K env' h' | true=>Zjs N (env.set t (.bool false)) o.dst (.tup []) fun env'=>K env' h)
   | .tup []=>Zjs N env o.dst (.tup []) fun env'=>K env' h
   | _=>False)
  | none=>False)
def Ygo (P:Program) (N:Nat) (ops:Array Oper):List Oper→Env→Zaa→(Env→Zaa→Prop)→Prop
 | [],env,h,K=>K env h
 | o :: r,env,h,K=>Zgu P N ops env h o fun env' h'=>Ygo P N ops r env' h' K

section
variable {P:Program} {base N:Nat} {w0:World} {μ:List Pl} {h:Zaa} {w:World}

structure St (P:Program) (base N:Nat) (w0:World) (μ:List Pl) (env:Env) (h:Zaa) (a:Act) (w:World):Prop where
 rel:Rel P base w0 μ h w
 env:Zgz μ env a.tmps
 size:a.tmps.size=N
 defers:a.defers=[]

def Yab (P:Program) (base N:Nat) (w0:World) (μ:List Pl) (K:Env→Zaa→Prop) (a:Act) (w:World):Prop:=
 ∃ μ' env h,Ext μ μ'∧St P base N w0 μ' env h a w∧K env h

theorem St.put {env:Env} {a:Act} (s:St P base N w0 μ env h a w) {μ':List Pl} {h':Zaa} {w':World} (he:Ext μ μ') (hr:Rel P base w0 μ' h' w') {v:Zac} {x:Value} (hv:VR μ' v x) {d:Option Tmp} {K:Env→Prop} (hk:Zjs N env d v K) :
  ∃ env',St P base N w0 μ' env' h' (a.put d x) w'∧K env':=by
 unfold Zjs at hk
 cases d with
 | none=>exact ⟨env,⟨hr,s.env.ext he,s.size,s.defers⟩,hk⟩
 | some d=>
  replace hk:=Zar hk
  obtain ⟨hd,hk⟩:=hk
  refine ⟨_,⟨hr,(s.env.ext he).set (by rw [s.size]; exact hd) hv,?_,s.defers⟩,hk⟩
  simp [Act.put,s.size]

theorem St.know {env:Env} {a:Act} (s:St P base N w0 μ env h a w) {t:Nat} {v:Zac} (hv:VR μ v (a.tmps.getD t undef)):St P base N w0 μ (env.set t v) h a w:=
 ⟨s.rel,s.env.know hv,s.size,s.defers⟩

theorem Res.wp {o:Oper} {a:Act} {K:Zac→Zaa→Prop} {next:Act→World→Prop} {Q:Exit→Act→World→Prop} {s:Sem Value}
  (hr:Res P base w0 μ (s.run P w) K) (he:(execOp a.eval o).run P w=(s.run P w).andThen fun x w'=>.ok (.value x) w')
  (hn:∀ x w' μ' v h',Ext μ μ'→Rel P base w0 μ' h' w'→VR μ' v x→K v h'→next (a.put o.dst x) w'):o.wp P a w next Q:=by
 obtain ⟨x,w',μ',v,h',hrun,hx,hrel,hv,hk⟩:=hr
 unfold Oper.wp
 rw [he,hrun]
 exact hn x w' μ' v h' hx hrel hv hk

theorem Ydn {env:Env} {a:Act} (s:St P base N w0 μ env h a w) {f:FuncId} {args:List Zac} {xs:Array Value} (hxs:VRs μ args xs.toList) {K:Zac→Zaa→Prop} (hk:Zad P f args h K)
  {o:Oper} (he:(execOp a.eval o).run P w=(callFunc f xs).run P w) {next:Act→World→Prop} {Q:Exit→Act→World→Prop}
  (hn:∀ x w' μ' v h',Ext μ μ'→Rel P base w0 μ' h' w'→VR μ' v x→K v h'→next (a.put o.dst x) w'):o.wp P a w next Q:=by
 obtain ⟨⟨fn,hf,hb,hname⟩,hc⟩:=hk
 have hcall:(callFunc f xs).run P w=.ok (.enter f xs) w:=by
  obtain ⟨c,hc⟩:=Option.isSome_iff_exists.1 hb
  have hname' : fn.name ≠ "runtime.NumGoroutine" := by simpa using hname
  simp [callFunc,hf,hc,hname']
 unfold Oper.wp
 rw [he,hcall]
 refine (hc base w0 μ w xs s.rel hxs).mono ?_
 rintro e w' ⟨x,μ',v,h',rfl,hx,hr,hv,hq⟩
 exact hn x w' μ' v h' hx hr hv hq

theorem VRs.single {v:Zac} {xs:Array Value} (h:VRs μ [v] xs.toList):∃ x,xs=#[x]∧VR μ v x:=by
 obtain ⟨l⟩:=xs
 match l,h with
 | [x],.cons a .nil=>exact ⟨x,rfl,a⟩
theorem Ycs {env:Env} {a:Act} (s:St P base N w0 μ env h a w) {o:Oper} {K:Zac→Zaa→Prop} (hk:opA P env h o K) {next:Act→World→Prop} {Q:Exit→Act→World→Prop}
  (hn:∀ x w' μ' v h',Ext μ μ'→Rel P base w0 μ' h' w'→VR μ' v x→K v h'→next (a.put o.dst x) w'):o.wp P a w next Q:=by
 have hρ:=Yfo s.env
 have pure:Zjn P env o (fun v=>K v h)→o.wp P a w next Q:=fun hk=>by
  obtain ⟨x,v,hr,hv,hk⟩:=Ydr hρ hk
  unfold Oper.wp
  rw [hr w]
  exact hn x w μ v h (Ext.refl _) s.rel hv hk
 unfold opA at hk
 split at hk
 ·rename_i t p he
  replace hk:=Zar hk
  obtain ⟨hu,hk⟩:=hk
  obtain ⟨y,v,hr,hv,hk⟩:=Zzb s.rel (hρ p) hu hk
  unfold Oper.wp
  simp only [execOp,he,Sem.run_bind,hr,Result.andThen_ok,Sem.run_pure]
  exact hn y w μ v h (Ext.refl _) s.rel hv hk
 ·rename_i t p x he
  replace hk:=Zar hk
  obtain ⟨hu,hk⟩:=hk
  obtain ⟨w',h',hr,hrel,hk⟩:=Ybp s.rel (hρ p) (hρ x) hu hk
  unfold Oper.wp
  simp only [execOp,he,Sem.run_bind,hr,Result.andThen_ok,Sem.run_pure]
  exact hn undef w' μ .undef h' (Ext.refl _) hrel (.undef _) hk
 ·rename_i t he
  exact Res.wp (Yad s.rel hk) (by simp [execOp,he]) hn
 ·rename_i t x he
  exact Res.wp (Yft s.rel (hρ x) hk) (by simp [execOp,he]) hn
 ·rename_i t ps he
  obtain ⟨h1,h2⟩:=Zum hρ ps
  obtain ⟨x,v,hr,hv,hk⟩:=Ybd h1 h2 hk
  unfold Oper.wp
  simp only [execOp,he,Sem.run_bind,hr w,Result.andThen_ok,Sem.run_pure]
  exact hn x w μ v h (Ext.refl _) s.rel hv hk
 ·rename_i t n ps he
  obtain ⟨h1,h2⟩:=Zum hρ ps
  exact Res.wp (Zqg s.rel h1 h2 hk) (by simp [execOp,he]) hn
 ·rename_i c he
  unfold Zwy at hk
  split at hk
  ·rename_i f hcal
   have go:∀ (f:Operand),c.callee=.value f→∀ (g:FuncId) (caps:List Zac),ev env f=.fn g caps→Zad P g (c.args.toList.map (ev env) ++ caps) h K→o.wp P a w next Q:=by
    intro f hcal g caps hev hk
    have hf:=hρ f
    rw [hev] at hf
    cases hfv:a.eval f with
    | func fn first cap=>
     rw [hfv] at hf
     cases hf with
     | fn hcaps=>
     refine Ydn s (xs:=c.args.map a.eval ++ cap) (by rw [Array.toList_append]; exact (Zkc hρ c.args).append hcaps) hk ?_ hn
     simp [execOp,he,resolve,hcal,hfv,Deferred.ofValue,invoke]
    | _=>rw [hfv] at hf; cases hf
   split at hk
   ·rename_i g
    exact go _ hcal g [] rfl (Zad.mono hk fun _ _ hq=>Zrb (K:=fun v=>K v _) hq)
   ·unfold Ygi Yfy at hk
    split at hk
    ·rename_i g caps hev
     exact go _ hcal g caps hev (Zad.mono hk fun _ _ hq=>Zrb (K:=fun v=>K v _) hq)
    ·exact hk.elim
  ·rename_i hcal
   split at hk
   ·rename_i t u hts
    replace hk:=Zar hk
    obtain ⟨rfl,hk⟩:=hk
    split at hk
    ·rename_i sv xv hargs
     have hvs:=Zkc hρ c.args
     rw [hargs] at hvs
     obtain ⟨x,y,hxy,h1,h2⟩:=hvs.two
     refine Res.wp (Zys (ty:=o.type) s.rel h1 h2 hk) ?_ fun x w' μ' v h' hx hr hv hk=>(by obtain ⟨v2,hv2,hk⟩:=Zfg hk; cases hv2; exact hn x w' μ' v h' hx hr hv hk)
     have hat:c.argTypes=#[u,u]:=by
      apply Array.ext'; simpa using hts
     simp [execOp,he,resolve,hcal,invoke,builtin,hxy,hat]
    ·exact hk.elim
   ·exact hk.elim
  ·rename_i hcal
   split at hk
   ·rename_i a b hargs
    have hvs:=Zkc hρ c.args
    rw [hargs] at hvs
    obtain ⟨x,y,hxy,h1,h2⟩:=hvs.two
    obtain ⟨v,z,hr,hv,hk⟩:=Yfp (ts:=c.argTypes) (t:=o.type) h1 h2 hk
    exact Res.wp (s:=Builtin.min_ c.argTypes o.type #[x,y]) ⟨z,w,μ,v,h,hr w,Ext.refl _,s.rel,hv,hk⟩ (by simp [execOp,he,resolve,hcal,invoke,builtin,hxy]) hn
   ·exact hk.elim
  ·rename_i hcal
   split at hk
   ·rename_i t hts
    split at hk
    ·rename_i x1 hargs
     have hvs:=Zkc hρ c.args
     rw [hargs] at hvs
     obtain ⟨x,hxy,h1⟩:=hvs.single
     refine Res.wp (Ybq (ty:=o.type) s.rel h1 hk) ?_ hn
     have hat:c.argTypes=#[t]:=by
      apply Array.ext'; simpa using hts
     simp [execOp,he,resolve,hcal,invoke,builtin,hxy,hat]
    ·exact hk.elim
   ·exact hk.elim
  ·rename_i hcal
   split at hk
   ·rename_i t rest hts
    split at hk
    ·rename_i mv kv hargs
     have hvs:=Zkc hρ c.args
     rw [hargs] at hvs
     obtain ⟨x,y,hxy,h1,h2⟩:=hvs.two
     have hat:c.argTypes[0]?=some t:=by rw [← Array.getElem?_toList,hts]; rfl
     refine Res.wp (Zxm (ty:=o.type) s.rel hat h1 h2 hk) ?_ hn
     simp [execOp,he,resolve,hcal,invoke,builtin,hxy]
    ·exact hk.elim
   ·exact hk.elim
  ·exact pure hk
 ·rename_i t l c he
  exact Res.wp (Zrr s.rel (hρ l) (hρ c) hk) (by simp [execOp,he]) hn
 ·rename_i t m he
  refine Res.wp (Zvr (x:=m.map a.eval) s.rel ?_ hk) (by simp [execOp,he]) hn
  cases m with
  | none=>exact .inl ⟨rfl,rfl⟩
  | some m=>exact .inr ⟨_,_,rfl,rfl,hρ m⟩
 ·rename_i t x i ok he
  split at hk
  ·obtain ⟨z,v,hr,hv,hk⟩:=Zwg s.rel (hρ x) (hρ i) hk
   exact Res.wp (s:=Instr.lookup t (a.eval x) (a.eval i) ok) ⟨z,w,μ,v,h,hr,Ext.refl _,s.rel,hv,hk⟩ (by simp [execOp,he]) hn
  ·obtain ⟨z,v,hr,hv,hk⟩:=Zyy s.rel (hρ x) (hρ i) hk
   exact Res.wp (s:=Instr.lookup t (a.eval x) (a.eval i) ok) ⟨z,w,μ,v,h,hr,Ext.refl _,s.rel,hv,hk⟩ (by simp [execOp,he]) hn
 ·rename_i t m k x he
  split at hk
  ·obtain ⟨w',h',hr,hrel,hk⟩:=Zqe s.rel (hρ m) (hρ k) (hρ x) hk
   unfold Oper.wp
   simp only [execOp,he,Sem.run_bind,hr,Result.andThen_ok,Sem.run_pure]
   exact hn undef w' μ .undef h' (Ext.refl _) hrel (.undef _) hk
  ·obtain ⟨w',h',hr,hrel,hk⟩:=Zru s.rel (hρ m) (hρ k) (hρ x) hk
   unfold Oper.wp
   simp only [execOp,he,Sem.run_bind,hr,Result.andThen_ok,Sem.run_pure]
   exact hn undef w' μ .undef h' (Ext.refl _) hrel (.undef _) hk
 ·rename_i t x he
  exact Res.wp (Ybi s.rel (hρ x) hk) (by simp [execOp,he]) hn
 ·rename_i x st he
  exact Res.wp (Zya (ty:=o.type) s.rel (hρ x) hk) (by simp [execOp,he]) hn
 ·rename_i x he
  obtain ⟨z,v,hr,hv,hk⟩:=Yal s.rel (hρ x) hk
  exact Res.wp (s:=Instr.entry (a.eval x)) ⟨z,w,μ,v,h,hr,Ext.refl _,s.rel,hv,hk⟩ (by simp [execOp,he]) hn
 ·rename_i a b x he
  split at hk
  ·exact Res.wp (Yct s.rel (hρ x) hk) (by simp [execOp,he]) hn
  ·exact pure hk
 ·rename_i op t x y yt he
  split at hk
  ·rename_i pa hx
   obtain ⟨pb,hy,hk⟩:=Zjf hk
   have hy:=Option.some.inj hy
   have h1:=hρ x; rw [hx] at h1
   have h2:=hρ y; rw [hy] at h2
   obtain ⟨e,hr,hk⟩:=Yfa (xo:=x) (yo:=y) s.rel h1 h2 hk
   unfold Oper.wp
   simp only [execOp,he]
   rw [Sem.run_bind,hr]
   exact hn _ w μ _ h (Ext.refl _) s.rel (.bool e) hk
  ·exact pure hk
 ·exact pure hk

theorem Zzv {tmps:Array Value} {t:Nat} {b:Bool} (h:VR μ (.bool b) (tmps.getD t undef)):tmps[t]?=some (.bool b):=by
 simp only [Array.getD_eq_getD_getElem?] at h
 cases hx:tmps[t]? with
 | none=>rw [hx] at h; simp [undef] at h; cases h
 | some x=>rw [hx] at h; simp at h; cases h; rfl

theorem Zxw {ops:Array Oper} {env:Env} {a:Act} (s:St P base N w0 μ env h a w) {o:Oper} {K:Env→Zaa→Prop} (hk:Zgu P N ops env h o K) {next:Act→World→Prop} {Q:Exit→Act→World→Prop}
  (hn:∀ a w,Yab P base N w0 μ K a w→next a w):if Region.wanted o (yielded ops a.tmps) then o.wp P a w next Q else next (a.put o.dst undef) w:=by
 have fin:∀ {env:Env} {v:Zac} {x:Value} {μ':List Pl} {h':Zaa} {w':World},St P base N w0 μ env h a w→Ext μ μ'→Rel P base w0 μ' h' w'→VR μ' v x→Zjs N env o.dst v (fun env'=>K env' h')→next (a.put o.dst x) w':=by
  intro env v x μ' h' w' s hx hr hv hk
  obtain ⟨env',s',hk⟩:=s.put hx hr hv hk
  exact hn _ _ ⟨μ',env',h',hx,s',hk⟩
 unfold Zgu at hk
 split at hk
 ·rename_i hg
  have:Region.wanted o (yielded ops a.tmps)=true:=by simp [Region.wanted,hg]
  rw [if_pos this]
  exact Ycs s hk fun x w' μ' v h' hx hr hv hk=>fin s hx hr hv hk
 ·rename_i j want hg
  split at hk
  ·rename_i t ht
   split at hk
   ·rename_i b hb
    have henv:=s.env t
    rw [hb] at henv
    have hy:yielded ops a.tmps j=some b:=by
     unfold yielded
     rw [ht]; simp only [Option.bind_some,Zzv henv]
    have hwant:Region.wanted o (yielded ops a.tmps)=(b == want):=by simp [Region.wanted,hg,hy]
    rw [hwant]
    have hknow:∀ c,b=c→St P base N w0 μ (env.set t (.bool c)) h a w:=fun c e=>by subst e; exact s.know henv
    refine Zvm hk ?_ ?_
    ·rintro rfl hk
     have s':=hknow true rfl
     cases want with
     | true=>exact Ycs s' hk fun x w' μ' v h' hx hr hv hk=>fin s' hx hr hv hk
     | false=>exact fin s' (Ext.refl _) s.rel (.tup .nil) hk
    ·rintro rfl hk
     have s':=hknow false rfl
     cases want with
     | false=>exact Ycs s' hk fun x w' μ' v h' hx hr hv hk=>fin s' hx hr hv hk
     | true=>exact fin s' (Ext.refl _) s.rel (.tup .nil) hk
   ·rename_i hb
    have henv:=s.env t
    rw [hb] at henv
    have hy:yielded ops a.tmps j=none:=by
     unfold yielded
     rw [ht]; simp only [Option.bind_some]
     have:a.tmps[t]?=none ∨ a.tmps[t]?=some (.tuple #[]):=by
      simp only [Array.getD_eq_getD_getElem?] at henv
      cases hx:a.tmps[t]? with
      | none=>exact .inl rfl
      | some x=>
       rw [hx] at henv
       simp only [Option.getD_some] at henv
       cases henv with
       | tup hv => 
        have:=hv.length
        rename_i xs
        have:xs=#[]:=by apply Array.ext'; exact List.eq_nil_of_length_eq_zero (by simpa using this.symm)
        subst this; exact .inr rfl
     rcases this with h | h <;> rw [h]
    have hwant:Region.wanted o (yielded ops a.tmps)=false:=by simp [Region.wanted,hg,hy]
    rw [hwant]
    exact fin s (Ext.refl _) s.rel (.tup .nil) hk
   ·exact hk.elim
  ·exact hk.elim

theorem Ycg {ops:Array Oper} {Q:Exit→Act→World→Prop}:∀ (l:List Oper) {μ:List Pl} {h:Zaa} {w:World} {env:Env} {a:Act},St P base N w0 μ env h a w→∀ {K:Env→Zaa→Prop},Ygo P N ops l env h K →
  (∀ a w,Yab P base N w0 μ K a w→Q .normal a w)→wpList P ops Q l a w
 | [],μ,h,w,env,a,s,K,hk,hq=>hq a w ⟨μ,env,h,Ext.refl _,s,hk⟩
 | o :: r,μ,h,w,env,a,s,K,hk,hq=>by
  have hstep:=Zxw (next:=wpList P ops Q r) (Q:=Q) s hk (fun a' w' ⟨μ',env',h',hx,s',hk'⟩=>Ycg r s' hk' (fun a w ⟨μ2,env2,h2,hx2,s2,k2⟩=>hq a w ⟨μ2,env2,h2,hx.trans hx2,s2,k2⟩))
  unfold wpList
  split
  ·rename_i hw; rw [if_pos hw] at hstep; exact .inl hstep
  ·rename_i hw; rw [if_neg hw] at hstep; exact hstep
end
end Go.Sim

set_option linter.unusedSimpArgs false
namespace Go.Sim
open Go Go.RowKit

section
variable {P:Program} {K K':Zac→Zaa→Prop} {k k':Zac→Prop}

theorem Zvp {o:Option Zac} {K K':Bool→Prop} (h:Zbs o K) (m:∀ b,K b→K' b):Zbs o K':=by
 unfold Zbs at *; split at h <;> first | exact m _ h | exact h.elim
theorem Zww {q:IntKind} {o:Option Zac} {K K':Int→Prop} (h:Zbo q o K) (m:∀ b,K b→K' b):Zbo q o K':=by
 unfold Zbo at *; split at h <;> first | exact ⟨h.1,m _ h.2⟩ | exact h.elim
theorem Znu {o:Option Zac} {K K':List Nat→Prop} (h:Zep o K) (m:∀ b,K b→K' b):Zep o K':=by
 unfold Zep at *; split at h <;> first | exact m _ h | exact h.elim
theorem Zix {o:Option Zac} {K K':Option (Nat × Nat)→Prop} (h:Zeu o K) (m:∀ b,K b→K' b):Zeu o K':=by
 unfold Zeu at *; split at h <;> first | exact m _ h | exact h.elim
theorem Yba {o:Option Zac} {K K':Option (Nat × Nat)→Nat→Nat→Bool→Prop} (h:xSl o K) (m:∀ a b c d,K a b c d→K' a b c d):xSl o K':=by
 unfold xSl at *; split at h <;> first | exact m _ _ _ _ h | exact h.elim
theorem Zxc {o:Option Zac} {K K':Option Nat→Prop} (h:Ztx o K) (m:∀ b,K b→K' b):Ztx o K':=by
 unfold Ztx at *; split at h <;> first | exact m _ h | exact h.elim
theorem Zjb {o:Option Zac} (h:Zol o k) (m:∀ b,k b→k' b):Zol o k':=by
 unfold Zol at *; split at h <;> first | exact m _ h | exact h.elim
theorem Zoz {cs:List Zac} {K K':Zac→List Zac→Prop} (h:Zah cs K) (m:∀ a b,K a b→K' a b):Zah cs K':=by
 unfold Zah at *; split at h <;> first | exact m _ _ h | exact h.elim
theorem Zqq {cs:List Zac} {K K':Prop} (h:Zco cs K) (m:K→K'):Zco cs K':=by
 unfold Zco at *; split at h <;> first | exact m h | exact h.elim
theorem Zdj {o:Option (List Zac)} {K K':List Zac→Prop} (h:Zcv o K) (m:∀ b,K b→K' b):Zcv o K':=by
 unfold Zcv at *; split at h <;> first | exact m _ h | exact h.elim
theorem Zpm {o:Option Zaa} {K K':Zaa→Prop} (h:Zcf o K) (m:∀ b,K b→K' b):Zcf o K':=by
 unfold Zcf at *; split at h <;> first | exact m _ h | exact h.elim
theorem Zzh {v:Zac} {K K':List Zac→Prop} (h:Zse v K) (m:∀ b,K b→K' b):Zse v K':=by
 unfold Zse at *; split at h <;> first | exact m _ h | exact h.elim
theorem Zyb {v:Zac} {K K':List Zac→Prop} (h:Zqj v K) (m:∀ b,K b→K' b):Zqj v K':=by
 unfold Zqj at *; split at h <;> first | exact m _ h | exact h.elim
theorem Zng {o:Option Field} {K K':Field→Prop} (h:Zjr o K) (m:∀ b,K b→K' b):Zjr o K':=by
 unfold Zjr at *; split at h <;> first | exact m _ h | exact h.elim
theorem Zaz {p:Prop} [Decidable p] {K K':Prop} (h:chk p K) (m:K→K'):chk p K':=by
 unfold chk at *; split at h <;> first | exact m h | exact h.elim
theorem Zgp {o:Option Zac} {d:Int} {K K':Int→Prop} (h:Zgq o d K) (m:∀ b,K b→K' b):Zgq o d K':=by
 unfold Zgq at *; split at h <;> first | exact m _ h | exact h.elim
theorem Zwn {b:Bool} {A B A' B':Prop} (h:bcase b A B) (m:A→A') (n:B→B'):bcase b A' B':=by
 unfold bcase at *; split at h <;> first | exact m h | exact n h
theorem Zhe {s:Sh} {o:Option Zac} (h:xv s o k) (m:∀ v,k v→k' v):xv s o k':=by
 cases s <;> simp only [xv] at *
 ·exact Zvp h fun _=>m _
 ·exact Zww h fun _=>m _
 ·exact Znu h fun _=>m _
 ·exact Zix h fun _=>m _
 ·exact Yba h fun _ _ _ _=>m _
 ·exact Zxc h fun _=>m _
 ·exact Zjb h m
theorem Ztb:∀ {ss:List Sh} {cs:List Zac} {K K':List Zac→Prop},xs ss cs K→(∀ v,K v→K' v)→xs ss cs K'
 | [],_,_,_,h,m=>Zqq h (m _)
 | _ :: _,_,_,_,h,m=>Zoz h fun _ _ h=>Zhe h fun _ h=>Ztb h fun _=>m _
theorem Zzs {t:TypeId} {v:Zac} (h:xt P t v k) (m:∀ v,k v→k' v):xt P t v k':=by
 unfold xt at *
 split at h
 ·exact Zzh h fun _ h=>Ztb h fun _=>m _
 ·exact Zhe h m
theorem Zug:∀ {ts:List TypeId} {cs:List Zac} {K K':List Zac→Prop},xts P ts cs K→(∀ v,K v→K' v)→xts P ts cs K'
 | [],_,_,_,h,m=>Zqq h (m _)
 | _ :: _,_,_,_,h,m=>Zoz h fun _ _ h=>Zzs h fun _ h=>Zug h fun _=>m _
theorem Zqr {ts:List TypeId} {v:Zac} (h:Yde P ts v k) (m:∀ v,k v→k' v):Yde P ts v k':=by
 unfold Yde at *
 split at h
 ·exact m _ h
 ·exact Zzs h m
 ·exact Zyb h fun _ h=>Zug h fun _=>m _
theorem Zva {t:TypeId} {h:Zaa} {p:Zac} (hh:Zmg P t h p k) (m:∀ v,k v→k' v):Zmg P t h p k':=by
 unfold Zmg at *
 split at hh
 ·exact Zdj hh fun _ h=>Ztb h fun _=>m _
 ·exact Zhe hh m
theorem Zst {t:TypeId} {h:Zaa} {p v:Zac} {K K':Zaa→Prop} (hh:Zpp P t h p v K) (m:∀ v,K v→K' v):Zpp P t h p v K':=by
 unfold Zpp at *
 split at hh
 ·split at hh
  ·exact Zpm hh m
  ·exact hh.elim
 ·exact hh.elim
theorem Zvu {a b:Option (Nat × Nat)} {K K':Bool→Prop} (h:Zti a b K) (m:∀ b,K b→K' b):Zti a b K':=by
 unfold Zti at *
 split at h
 ·exact m _ h
 ·split at h
  ·exact m _ h
  ·exact h.elim
theorem Zfr {a:Option (Nat × Nat)} {K K':Nat→Nat→Prop} (h:Zaw a K) (m:∀ b o,K b o→K' b o):Zaw a K':=by
 obtain ⟨b,o,rfl,h⟩:=Zbr h
 exact m _ _ h
theorem Zul {t:TypeId} {x y:Zac} {K K':Bool→Prop} (h:eqA P t x y K) (m:∀ b,K b→K' b):eqA P t x y K':=by
 unfold eqA at *
 split at h <;> (try exact h.elim) <;> split at h <;> (try exact h.elim)
 ·exact Zaz h (m _)
 ·exact m _ h
 ·exact Zaz h (m _)
 ·exact Zaz h fun h=>Zvu h m
 ·split at h
  ·exact m _ h
  ·exact h.elim
 ·exact Zaz h fun h=>⟨h.1,m _ h.2⟩
theorem Zwz {op:BinOp} {t:TypeId} {x y:Zac} (h:Zzy P op t x y k) (m:∀ v,k v→k' v):Zzy P op t x y k':=by
 unfold Zzy at *
 split at h
 ·exact Zul h fun _=>m _
 ·exact Zul h fun _=>m _
 ·split at h
  ·split at h
   ·split at h <;> first
     | exact h.elim
     | exact Zaz h (m _)
     | exact Zaz h fun h=>⟨h.1,m _ h.2⟩
     | exact ⟨h.1,m _ h.2⟩
   ·exact h.elim
  ·split at h
   ·split at h <;> first
     | exact h.elim
     | exact ⟨h.1,m _ h.2⟩
     | exact m _ h
   ·exact h.elim
  ·exact h.elim
theorem Zpo {t:TypeId} {cs:List Zac} {off:Nat} (h:Zon P t cs off k) (m:∀ v,k v→k' v):Zon P t cs off k':=by
 unfold Zon at *
 split at h
 ·exact m _ h
 ·exact Zaz h fun h=>Zjb h m
theorem Zzw {ts:Array TypeId} {xs:List Zac} (h:Yeb P ts xs k) (m:∀ v,k v→k' v):Yeb P ts xs k':=by
 unfold Yeb at *
 split at h <;> first | exact h.elim | exact Zaz h (m _)
theorem Zvw {s d:TypeId} {x:Zac} (h:Ztl P s d x k) (m:∀ v,k v→k' v):Ztl P s d x k':=by
 unfold Ztl at *
 split at h
 ·split at h <;> first | exact h.elim | exact Zaz h (m _)
 ·split at h <;> first | exact h.elim | exact Zaz h (m _) | exact Zaz h fun h=>⟨h.1,m _ h.2⟩
 ·exact h.elim
theorem Zsk {t:TypeId} {x:Zac} {lo hi mx:Option Zac} (h:Zos P t x lo hi mx k) (m:∀ v,k v→k' v):Zos P t x lo hi mx k':=by
 unfold Zos at *
 split at h
 ·split at h
  ·exact Zaz h fun h=>Zgp h fun _ h=>Zgp h fun _ h=>⟨h.1,m _ h.2⟩
  ·exact h.elim
 ·split at h
  ·refine Zaz h fun h=>Zaz h fun h=>Zgp h fun _ h=>Zgp h fun _ h=>Zgp h fun _ h=>⟨h.1,?_⟩
   have h2:=h.2
   split at h2
   ·exact ⟨h2.1,m _ h2.2⟩
   ·exact ⟨fun a=>m _ (h2.1 a),fun a=>m _ (h2.2 a)⟩
  ·exact h.elim
 ·exact h.elim
theorem Zjg {env:Env} {o:Oper} (h:Zjn P env o k) (m:∀ v,k v→k' v):Zjn P env o k':=by
 obtain ⟨dst,op,type,pos,after,guard⟩:=o
 unfold Zjn at *
 cases op <;> simp only at h ⊢ <;> (try exact h.elim)
 case move x=>exact m _ h
 case assign x=>exact m _ h
 case pick c a b=>
  unfold Zxf at *
  split at h
  ·exact Zwn h (m _) (m _)
  ·exact h.elim
 case nilCheck x=>
  unfold Yge at *
  split at h <;> first | exact h.elim | exact m _ h | exact Zfr h fun _ _=>m _
 case fieldAddr t x i=>
  unfold Zhh at *
  split at h
  ·exact Zng h fun _ h=>Zaz h fun h=>Zaz h fun h=>Zfr h fun _ _=>m _
  ·exact h.elim
 case field t x i=>
  unfold Zrt at *
  split at h
  ·exact Zng h fun _ h=>Zpo h m
  ·exact h.elim
 case indexAddr t x i=>
  unfold Zhn at *
  split at h
  ·split at h
   ·split at h <;> first | exact h.elim | exact Zaz h fun h=>⟨h.1,Zfr h.2 fun _ _=>m _⟩
   ·split at h <;> first | exact h.elim | exact Zaz h fun h=>⟨h.1,Zfr h.2 fun _ _=>m _⟩
   ·exact h.elim
  ·exact h.elim
 case index t x i=>
  unfold Zqn at *
  split at h
  ·split at h
   ·split at h
    ·exact ⟨h.1,m _ h.2⟩
    ·exact h.elim
   ·split at h
    ·exact Zaz h fun h=>⟨h.1,Zpo h.2 m⟩
    ·exact h.elim
   ·exact h.elim
  ·exact h.elim
 case slice t x lo hi mx=>exact Zsk h m
 case binOp op t x y yt=>exact Zwz h m
 case unOp op t x=>
  unfold unA at *
  split at h
  ·split at h <;> first | exact h.elim | exact m _ h
  ·split at h <;> first | exact h.elim | exact m _ h
  ·exact h.elim
 case convert s d x=>exact Zvw h m
 case extract x i=>
  unfold Zki at *
  split at h
  ·exact Zjb h m
  ·exact h.elim
 case makeFunc fn first caps=>
  cases fn <;> simp only at h ⊢ <;> first | exact h.elim | exact Zaz h (m _)
 case call c=>
  split at h
  ·exact Zzw h m
  ·exact h.elim
theorem Znh {h:Zaa} {j:Nat} {e:TypeId} {A B:List Zac→Prop} (hh:Zjp h j e A) (m:∀ cs,A cs→B cs):Zjp h j e B:=by
 unfold Zjp at *
 split at hh
 ·exact ⟨hh.1,m _ hh.2⟩
 ·exact hh.elim
theorem Zrd {t:TypeId} {h:Zaa} {s x:Zac} (hh:Zdk P t h s x K) (m:∀ v h,K v h→K' v h):Zdk P t h s x K':=by
 unfold Zdk at *
 split at hh <;> (try exact hh.elim)
 split at hh <;> (try exact hh.elim)
 split at hh <;> (try exact hh.elim)
 refine Zdj hh fun new h=>⟨h.1,?_⟩
 have h2:=h.2
 split at h2
 ·exact ⟨fun a=>m _ _ (h2.1 a),fun a=>⟨(h2.2 a).1,m _ _ (h2.2 a).2⟩⟩
 ·rcases h2 with ⟨a,b⟩ | ⟨a,b⟩ | ⟨a,b⟩
  ·exact .inl ⟨a,Znh b fun _ h=>⟨h.1,m _ _ h.2⟩⟩
  ·exact .inr (.inl ⟨a,Znh b fun _ h=>⟨h.1,m _ _ h.2⟩⟩)
  ·exact .inr (.inr ⟨a,Zdj b fun _=>m _ _⟩)
theorem Zmz:∀ {cs:List Zac} {K K':List Nat→Prop},Zhm cs K→(∀ s,K s→K' s)→Zhm cs K'
 | [],_,_,h,m=>m _ h
 | .int k n :: r,_,_,h,m=>by
  unfold Zhm at *
  exact Zaz h fun h=>⟨h.1,Zmz h.2 fun _=>m _⟩
 | .undef :: _,_,_,h,_ | .bool _ :: _,_,_,h,_ | .str _ :: _,_,_,h,_ | .ptr _ :: _,_,_,h,_ | .slice .. :: _,_,_,h,_ | .map _ :: _,_,_,h,_ | .fn .. :: _,_,_,h,_ | .nilFn :: _,_,_,h,_ | .iter _ :: _,_,_,h,_
 | .agg _ :: _,_,_,h,_ | .tup _ :: _,_,_,h,_=>by unfold Zhm at h; exact h.elim
theorem Zyu {s d:TypeId} {h:Zaa} {x:Zac} {K K':Zac→Prop} (hh:Yeo P s d h x K) (m:∀ v,K v→K' v):Yeo P s d h x K':=by
 unfold Yeo at *
 split at hh
 ·refine Zaz hh fun h=>?_
  split at h
  ·exact Zdj h fun _ h=>Zmz h fun _=>m _
  ·exact h.elim
 ·exact hh.elim
theorem Zxn {x y:Zac} {K K':Zac→Prop} (hh:Yen x y K) (m:∀ v,K v→K' v):Yen x y K':=by
 unfold Yen at *
 split at hh
 ·split at hh
  ·exact Zaz hh (m _)
  ·exact hh.elim
 ·exact hh.elim
theorem Znk {t:TypeId} {a b:Zac} {h:Zaa} {K K':Zac→Zaa→Prop} (hh:Zgl P t a b h K) (m:∀ v h,K v h→K' v h):Zgl P t a b h K':=by
 unfold Zgl at *
 split at hh
 ·refine Zdj hh fun _ h=>Zaz h fun h=>?_
  unfold Zbo at *
  split at h
  ·refine ⟨h.1,?_⟩
   replace h:=h.2
   split at h
   ·exact ⟨h.1,h.2.1,m _ _ h.2.2⟩
   ·exact h.elim
  ·exact h.elim
 ·exact hh.elim
theorem Zdn {h:Zaa} {m:Option Nat} {K K':List ME→Nat→Prop} (hh:Zbl h m K) (m':∀ a b,K a b→K' a b):Zbl h m K':=by
 unfold Zbl at *
 split at hh
 ·exact m' _ _ hh
 ·split at hh
  ·exact m' _ _ hh
  ·exact hh.elim
theorem Zvs {es:List ME} {s:List Nat} {K K':Option Zac→Prop} (hh:Zlm es s K) (m:∀ a,K a→K' a):Zlm es s K':=by
 unfold Zlm at *; split at hh <;> first | exact m _ hh | exact hh.elim
theorem Zyd {es:List ME} {clk:Nat} {s:List Nat} {v:Zac} {K K':List ME→Nat→Prop} (hh:Yar es clk s v K) (m:∀ a b,K a b→K' a b):Yar es clk s v K':=by
 unfold Yar at *; split at hh <;> first | exact m _ _ hh | exact hh.elim
theorem Zmm {m:Option Nat} {K K':Nat→Prop} (hh:xMp m K) (mm:∀ a,K a→K' a):xMp m K':=by
 unfold xMp at *; split at hh <;> first | exact mm _ hh | exact hh.elim
theorem Zuz {h:Zaa} {r:Nat} {K K':List Nat→Nat→Prop} (hh:Zwl h r K) (m:∀ a b,K a b→K' a b):Zwl h r K':=by
 unfold Zwl at *; split at hh <;> first | exact m _ _ hh | exact hh.elim
theorem Zna {h:Zaa} {r:Nat} {K K':Option Nat→Nat→List Nat→Nat→Prop} (hh:Zjv h r K) (m:∀ a b c d,K a b c d→K' a b c d):Zjv h r K':=by
 unfold Zjv at *; split at hh <;> first | exact m _ _ _ _ hh | exact hh.elim
theorem Zqu {t:TypeId} {h:Zaa} {x i:Zac} {ok:Bool} (hh:Zlb P t h x i ok k) (m:∀ v,k v→k' v):Zlb P t h x i ok k':=by
 unfold Zlb at *
 split at hh
 ·refine Zaz hh fun h=>?_
  split at h
  ·exact Znu h fun _ h=>Zjb h fun _ h=>Zdn h fun _ _ h=>Zvs h fun _ h=>Zhe h fun _=>m _
  ·exact h.elim
 ·exact hh.elim
theorem Znn {t:TypeId} {h:Zaa} {x i v:Zac} (hh:Zgk P t h x i v K) (m:∀ v h,K v h→K' v h):Zgk P t h x i v K':=by
 unfold Zgk at *
 split at hh
 ·refine Zaz hh fun h=>?_
  split at h
  ·exact Zmm h fun _ h=>Znu h fun _ h=>Zdn h fun _ _ h=>Zyd h fun _ _=>m _ _
  ·exact h.elim
 ·exact hh.elim
theorem Zpu {t:TypeId} {r:Option Zac} {h:Zaa} (hh:Zjm P t r h K) (m:∀ v h,K v h→K' v h):Zjm P t r h K':=by
 unfold Zjm at *
 split at hh <;> first | exact m _ _ hh | exact Zaz hh (m _ _) | exact hh.elim
theorem Zsi {t:TypeId} {x:Zac} {h:Zaa} (hh:Zpr P t x h K) (m:∀ v h,K v h→K' v h):Zpr P t x h K':=by
 unfold Zpr at *
 split at hh <;> first | exact hh.elim | exact Zaz hh (m _ _) | exact Zaz hh fun h=>Zdn h fun _ _=>m _ _
theorem Zxx {m:Option Nat} {A B A' B':Prop} (hh:Yep m A B) (p:A→A') (q:B→B'):Yep m A' B':=by
 unfold Yep at *; split at hh <;> first | exact p hh | exact q hh
theorem Zvj {ty:TypeId} {x:Zac} {st:Bool} {h:Zaa} (hh:Zvc P ty x st h K) (m:∀ v h,K v h→K' v h):Zvc P ty x st h K':=by
 unfold Zvc at *
 split at hh
 ·split at hh
  ·exact Zuz hh fun _ _ h=>⟨fun a=>⟨(h.1 a).1,m _ _ (h.1 a).2⟩,fun a=>m _ _ (h.2 a)⟩
  ·exact Zna hh fun _ _ _ _ h=>Zxx h (m _ _) fun h=>Zdn h fun _ _ h=>⟨h.1,fun a=>m _ _ (h.2.1 a),fun e he hn=>Zhe (h.2.2 e he hn) fun _ h=>Zhe h fun _=>m _ _⟩
 ·exact hh.elim
theorem Zth {ty:TypeId} {x:Zac} {h:Zaa} (hh:Zpa P ty x h k) (m:∀ v,k v→k' v):Zpa P ty x h k':=by
 unfold Zpa at *
 split at hh
 ·exact Zna hh fun _ _ _ _ h=>Zmm h fun _ h=>Zdn h fun _ _ h=>⟨h.1,h.2.imp fun _ h=>⟨h.1,h.2.imp fun _ h=>⟨h.1,Zhe h.2 fun _ h=>Zhe h fun _=>m _⟩⟩⟩
 ·exact hh.elim
theorem Zoc {h:Zaa} {a b:Option (Nat × Nat)} {K K':Bool→Prop} (hh:Zkl h a b K) (m:∀ e,K e→K' e):Zkl h a b K':=by
 unfold Zkl at *
 split at hh
 ·exact m _ hh
 ·split at hh
  ·exact m _ hh
  ·exact hh.imp (fun h=>⟨h.1,m _ h.2⟩) fun h=>⟨h.1,h.2.1,h.2.2.1,m _ h.2.2.2⟩
theorem Zxj {op:BinOp} {t:TypeId} {h:Zaa} {a b:Option (Nat × Nat)} (hh:Yco P op t h a b K) (m:∀ v h,K v h→K' v h):Yco P op t h a b K':=by
 unfold Yco at *
 split at hh
 ·exact Zaz hh fun h=>Zoc h fun _=>m _ _
 ·exact Zaz hh fun h=>Zoc h fun _=>m _ _
 ·exact hh.elim
theorem Zwd {r:Option (Option (Nat × Zac))} {K K':Option Zac→Prop} (hh:Zns r K) (m:∀ e,K e→K' e):Zns r K':=by
 unfold Zns at *; split at hh <;> first | exact m _ hh | exact hh.elim
theorem Zyi {r:Option (Option (Nat × Zac))} {es:List ME} {clk:Nat} {p:Nat × Nat} {v:Zac} {K K':List ME→Nat→Prop} (hh:Yau r es clk p v K) (m:∀ a b,K a b→K' a b):Yau r es clk p v K':=by
 unfold Yau at *; split at hh <;> first | exact m _ _ hh | exact hh.elim
theorem Zzk {r:Option (Option (Nat × Zac))} {es:List ME} {K K':List ME→Prop} (hh:Yce r es K) (m:∀ a,K a→K' a):Yce r es K':=by
 unfold Yce at *; split at hh <;> first | exact m _ hh | exact hh.elim
theorem Zpy {t:TypeId} {h:Zaa} {x i:Zac} {ok:Bool} (hh:Zjl P t h x i ok k) (m:∀ v,k v→k' v):Zjl P t h x i ok k':=by
 unfold Zjl at *
 split at hh
 ·refine Zaz hh fun h=>?_
  split at h
  ·exact Zix h fun _ h=>Zfr h fun _ _ h=>Zjb h fun _ h=>Zdn h fun _ _ h=>Zwd h fun _ h=>Zhe h fun _=>m _
  ·exact h.elim
 ·exact hh.elim
theorem Zme {t:TypeId} {h:Zaa} {x i v:Zac} (hh:Zfq P t h x i v K) (m:∀ v h,K v h→K' v h):Zfq P t h x i v K':=by
 unfold Zfq at *
 split at hh
 ·refine Zaz hh fun h=>?_
  split at h
  ·exact Zmm h fun _ h=>Zix h fun _ h=>Zfr h fun _ _ h=>Zdn h fun _ _ h=>Zyi h fun _ _=>m _ _
  ·exact h.elim
 ·exact hh.elim
theorem Zrn {t:TypeId} {h:Zaa} {x i:Zac} (hh:Zle P t h x i K) (m:∀ v h,K v h→K' v h):Zle P t h x i K':=by
 unfold Zle at *
 split at hh
 ·refine Zaz hh fun h=>?_
  split at h
  ·exact Zmm h fun _ h=>Zix h fun _ h=>Zfr h fun _ _ h=>Zdn h fun _ _ h=>Zzk h fun _=>m _ _
  ·exact h.elim
 ·exact hh.elim
theorem Ybl {env:Env} {h:Zaa} {o:Oper} (hh:opA P env h o K) (m:∀ v h,K v h→K' v h):opA P env h o K':=by
 obtain ⟨dst,op,type,pos,after,guard⟩:=o
 unfold opA at *
 cases op <;> simp only at hh ⊢
 case load t a=>exact Zaz hh fun h=>Zva h fun _=>m _ _
 case store t a x=>exact Zaz hh fun h=>Zst h fun _=>m _ _
 case alloc t=>exact Zdj hh fun _=>m _ _
 case box t x=>exact Zdj hh fun _=>m _ _
 case build t ps=>
  refine Zdj hh fun _ h=>?_
  split at h
  ·exact Zaz h fun h=>Zdj h fun _=>m _ _
  ·exact Zaz h fun h=>Zdj h fun _=>m _ _
  ·exact h.elim
 case buildSlice t n ps=>
  unfold Zhw at *
  split at hh
  ·exact Zdj hh fun _ h=>Zaz h fun h=>Zdj h fun _=>m _ _
  ·exact hh.elim
 case call c=>
  unfold Zwy at *
  split at hh
  ·split at hh
   ·exact Zad.mono hh fun _ _ h=>Zqr h fun _=>m _ _
   ·unfold Ygi Yfy at *
    split at hh
    ·exact Zad.mono hh fun _ _ h=>Zqr h fun _=>m _ _
    ·exact hh.elim
  ·split at hh
   ·refine Zaz hh fun h=>?_
    split at h
    ·exact Zrd h fun _ _ h=>Zhe h fun _=>m _ _
    ·exact h.elim
   ·exact hh.elim
  ·split at hh
   ·exact Zxn hh fun _=>m _ _
   ·exact hh.elim
  ·split at hh
   ·split at hh
    ·unfold Zuk at *
     split at hh
     ·split at hh
      ·refine ⟨fun h0=>m _ _ (hh.1 h0),fun h0=>Zdj (hh.2 h0) fun _ h=>Zaz h fun h=>Zpm h fun _=>m _ _⟩
      ·exact hh.elim
     ·exact hh.elim
    ·exact hh.elim
   ·exact hh.elim
  ·split at hh
   ·split at hh
    ·exact Zrn hh m
    ·exact hh.elim
   ·exact hh.elim
  ·exact Zjg hh fun _=>m _ _
 case makeSlice t l c=>exact Znk hh m
 case makeMap t r=>exact Zpu hh m
 case lookup t x i ok=>
  split at hh
  ·exact Zpy hh fun _=>m _ _
  ·exact Zqu hh fun _=>m _ _
 case mapUpdate t mm k v=>
  split at hh
  ·exact Zme hh m
  ·exact Znn hh m
 case binOp op t x y yt=>
  split at hh
  ·exact Zix hh fun _ h=>Zxj h m
  ·exact Zjg hh fun _=>m _ _
 case range t x=>exact Zsi hh m
 case next x st=>exact Zvj hh m
 case entry x=>exact Zth hh fun _=>m _ _
 case convert s d x=>
  split at hh
  ·exact Zyu hh fun _=>m _ _
  ·exact Zjg hh fun _=>m _ _
 all_goals exact Zjg hh fun _=>m _ _
end
end Go.Sim

set_option linter.unusedSimpArgs false
namespace Go.Sim
open Go Go.RowKit

def Det {α:Type} (F:(α→Prop)→Prop):Prop:=∀ k,F k→∃ v,k v∧∀ k',k' v→F k'
theorem Det.ret {α:Type} (a:α):Det (fun k=>k a):=fun _ h=>⟨a,h,fun _ h=>h⟩
theorem Det.no {α:Type}:Det (fun _:α→Prop=>False):=fun _ h=>h.elim
theorem Det.and {α:Type} {p:Prop} {F:(α→Prop)→Prop} (d:Det F):Det (fun k=>p∧F k):=fun k ⟨hp,h⟩=>let ⟨v,hv,r⟩:=d k h; ⟨v,hv,fun k' h'=>⟨hp,r k' h'⟩⟩
theorem Det.chk {α:Type} {p:Prop} [Decidable p] {F:(α→Prop)→Prop} (d:Det F):Det (fun k=>chk p (F k)):=fun k h=>by
 have ⟨hp,h⟩:=Zar h
 obtain ⟨v,hv,r⟩:=d k h
 exact ⟨v,hv,fun k' h'=>by unfold Sim.chk; rw [decide_eq_true hp]; exact r k' h'⟩
theorem Det.bind {α β:Type} {F:(α→Prop)→Prop} {G:α→(β→Prop)→Prop} (d:Det F) (e:∀ a,Det (G a)):Det (fun k=>F fun a=>G a k):=fun k h=>by
 obtain ⟨a,ha,r⟩:=d _ h
 obtain ⟨b,hb,q⟩:=e a k ha
 exact ⟨b,hb,fun k' h'=>r _ (q k' h')⟩
theorem Det.map {α β:Type} {F:(α→Prop)→Prop} (d:Det F) (f:α→β):Det (fun k=>F fun a=>k (f a)):=d.bind fun a=>Det.ret (f a)
theorem Det.bcase {α:Type} {b:Bool} {F G:(α→Prop)→Prop} (d:Det F) (e:Det G):Det (fun k=>bcase b (F k) (G k)):=by cases b <;> assumption

section
variable {P:Program}
theorem Zzm (s:Sh) (o:Option Zac):Det (xv s o):=by
 intro k h
 cases s <;> simp only [xv,Zbs,Zep,Zeu,xSl,Ztx,Zol,Zbo] at * <;> split at h <;> first
  | exact h.elim
  | exact ⟨_,h,fun _ h=>h⟩
  | exact ⟨_,h.2,fun _ h'=>⟨h.1,h'⟩⟩
theorem Zun (o:Option Zac):Det (Zol o):=Zzm .any o
theorem Zmo (o:Option (List Zac)):Det (Zcv o):=fun k h=>by
 unfold Zcv at *; split at h <;> first | exact ⟨_,h,fun _ h=>h⟩ | exact h.elim
theorem Yby:∀ (ss:List Sh) (cs:List Zac),Det (xs ss cs)
 | [],cs=>fun k h=>by
  simp only [xs,Zco] at *; split at h <;> first | exact ⟨_,h,fun _ h=>h⟩ | exact h.elim
 | s :: ss,cs=>fun k h=>by
  simp only [xs,Zah] at *
  split at h
  ·exact ((Zzm s _).bind (G:=fun v k=>xs ss _ fun vs=>k (v :: vs)) fun v=>(Yby ss _).map (v :: ·)) k h
  ·exact h.elim
theorem Zxs (t:TypeId) (h:Zaa) (p:Zac):Det (Zmg P t h p):=by
 intro k hh
 unfold Zmg at *
 split at hh
 ·exact ((Zmo _).bind (G:=fun cs k=>xs _ cs fun vs=>k (.agg vs)) fun cs=>(Yby _ cs).map Zac.agg) k hh
 ·exact Zzm _ _ k hh
theorem Zzf (a b:Option (Nat × Nat)):Det (Zti a b):=by
 intro k h
 unfold Zti at *
 split at h
 ·exact ⟨_,h,fun _ h=>h⟩
 ·split at h
  ·exact ⟨_,h,fun _ h=>h⟩
  ·exact h.elim
theorem Zkn (a:Option (Nat × Nat)) (f:Nat→Nat→Zac):Det (fun k:Zac→Prop=>Zaw a fun b o=>k (f b o)):=by
 intro k h
 obtain ⟨b,o,rfl,h⟩:=Zbr h
 exact ⟨_,h,fun _ h=>h⟩
theorem Zyj (t:TypeId) (x y:Zac):Det (eqA P t x y):=by
 intro k h
 unfold eqA at *
 split at h <;> (try exact h.elim) <;> split at h <;> (try exact h.elim)
 ·exact (Det.ret _).chk k h
 ·exact ⟨_,h,fun _ h=>h⟩
 ·exact (Det.ret _).chk k h
 ·exact (Zzf _ _).chk k h
 ·split at h
  ·exact ⟨_,h,fun _ h=>h⟩
  ·exact h.elim
 ·exact (Det.ret _).and.chk k h
theorem Yaj (op:BinOp) (t:TypeId) (x y:Zac):Det (Zzy P op t x y):=by
 intro k h
 unfold Zzy at *
 split at h
 ·exact (Zyj t x y).map _ k h
 ·exact (Zyj t x y).map _ k h
 ·split at h
  ·split at h
   ·split at h <;> first
     | exact h.elim
     | exact (Det.ret _).chk k h
     | exact (Det.ret _).and.chk k h
     | exact (Det.ret _).and k h
   ·exact h.elim
  ·split at h
   ·split at h <;> first
     | exact h.elim
     | exact (Det.ret _).and k h
     | exact ⟨_,h,fun _ h=>h⟩
   ·exact h.elim
  ·exact h.elim
theorem Zre (t:TypeId) (cs:List Zac) (off:Nat):Det (Zon P t cs off):=by
 intro k h
 unfold Zon at *
 split at h
 ·exact ⟨_,h,fun _ h=>h⟩
 ·exact (Zun _).chk k h
theorem Zhk (o:Option Zac) (d:Int):Det (Zgq o d):=fun k h=>by
 unfold Zgq at *; split at h <;> first | exact ⟨_,h,fun _ h=>h⟩ | exact h.elim
theorem Zrs (o:Option Field):Det (Zjr o):=fun k h=>by
 unfold Zjr at *; split at h <;> first | exact ⟨_,h,fun _ h=>h⟩ | exact h.elim
theorem Zrw (s:List Nat) (lo hi:Option Zac):Det (Zkt s lo hi):=by
 unfold Zkt
 exact (Zhk hi s.length).bind fun h=>(Zhk lo 0).bind fun l=>(Det.ret _).and
theorem Zsw (a:Option (Nat × Nat)) (len cap:Nat) (ex:Bool) (sz:Nat) (lo hi mx:Option Zac):Det (Znj a len cap ex sz lo hi mx):=by
 unfold Znj
 refine (Zhk mx cap).bind fun m=>(Zhk hi len).bind fun h=>(Zhk lo 0).bind fun l=>Det.and ?_
 intro k hk
 split at hk
 ·exact (Det.ret _).and k hk
 ·rename_i b o
  by_cases hlm:l < m
  ·exact ⟨_,hk.1 hlm,fun k' h'=>⟨fun _=>h',fun h=>absurd hlm h⟩⟩
  ·exact ⟨_,hk.2 hlm,fun k' h'=>⟨fun h=>absurd h hlm,fun _=>h'⟩⟩
theorem Zyv (env:Env) (o:Oper):Det (Zjn P env o):=by
 intro k h
 obtain ⟨dst,op,type,pos,after,guard⟩:=o
 unfold Zjn at *
 cases op <;> simp only at h ⊢ <;> (try exact h.elim)
 case move x=>exact ⟨_,h,fun _ h=>h⟩
 case assign x=>exact ⟨_,h,fun _ h=>h⟩
 case pick c a b=>
  unfold Zxf at *
  split at h
  ·exact (Det.ret _).bcase (Det.ret _) k h
  ·exact h.elim
 case nilCheck x=>
  unfold Yge at *
  split at h <;> first | exact h.elim | exact ⟨_,h,fun _ h=>h⟩ | exact Zkn _ (fun b o=>.ptr (some (b,o))) k h
 case fieldAddr t x i=>
  unfold Zhh at *
  split at h
  ·rename_i a _
   exact (Det.bind (F:=Zjr (Zne P t i)) (G:=fun (f:Field) (k:Zac→Prop)=>chk ((P.underlying f.type).isSome=true) (chk (P.cellsOf f.type≠0) (Zaw a fun b o=>k (Zac.ptr (some (b,o + f.offset)))))) (Zrs _) fun f=>Det.chk (Det.chk (Zkn a fun b o=>Zac.ptr (some (b,o + f.offset))))) k h
  ·exact h.elim
 case field t x i=>
  unfold Zrt at *
  split at h
  ·exact (Zrs _).bind (G:=fun f k=>Zon P f.type _ f.offset k) (fun f=>Zre _ _ _) k h
  ·exact h.elim
 case indexAddr t x i=>
  unfold Zhn at *
  split at h
  ·split at h
   ·split at h <;> first | exact h.elim | exact (Zkn _ (fun b o=>Zac.ptr (some (b,o + _)))).and.chk k h
   ·split at h <;> first | exact h.elim | exact (Zkn _ (fun b o=>Zac.ptr (some (b,o + _)))).and.chk k h
   ·exact h.elim
  ·exact h.elim
 case index t x i=>
  unfold Zqn at *
  split at h
  ·split at h
   ·split at h
    ·exact (Det.ret _).and k h
    ·exact h.elim
   ·split at h
    ·exact (Zre _ _ _).and.chk k h
    ·exact h.elim
   ·exact h.elim
  ·exact h.elim
 case slice t x lo hi mx=>
  unfold Zos at *
  split at h
  ·split at h
   ·exact (Zrw _ _ _).chk k h
   ·exact h.elim
  ·split at h
   ·exact (Zsw _ _ _ _ _ _ _ _).chk.chk k h
   ·exact h.elim
  ·exact h.elim
 case binOp op t x y yt=>exact Yaj _ _ _ _ k h
 case unOp op t x=>
  unfold unA at *
  split at h
  ·split at h <;> first | exact h.elim | exact ⟨_,h,fun _ h=>h⟩
  ·split at h <;> first | exact h.elim | exact ⟨_,h,fun _ h=>h⟩
  ·exact h.elim
 case convert s d x=>
  unfold Ztl at *
  split at h
  ·split at h <;> first | exact h.elim | exact (Det.ret _).chk k h
  ·split at h <;> first | exact h.elim | exact (Det.ret _).chk k h | exact (Det.ret _).and.chk k h
  ·exact h.elim
 case extract x i=>
  unfold Zki at *
  split at h
  ·exact Zun _ k h
  ·exact h.elim
 case makeFunc fn first caps=>
  cases fn <;> simp only at h ⊢ <;> first | exact h.elim | exact (Det.ret _).chk k h
 case call c=>
  split at h
  ·unfold Yeb at *
   split at h <;> first | exact h.elim | exact (Det.ret _).chk k h
  ·exact h.elim

def Zpv (P:Program) (op:Op):Bool:=
 match op with
 | .binOp _ t _ y _=>(match Zkw P t with | false=>true | true=>Ycm y && Zid P t)
 | .move _ | .assign _ | .pick .. | .unOp .. | .nilCheck _ | .extract .. | .field .. | .fieldAddr .. | .indexAddr .. | .index .. | .slice .. | .makeFunc .. | .build ..=>true
 | .call c=>(match c.callee with | .builtin .len=>true | _=>false)
 | .convert s _ _=>!Zwi P s
 | _=>false
def Ybr (op:Op):Bool:=match op with | .load ..=>true | _=>false
def Zsg (P:Program) (env:Env) (o:Oper) (k:Zac→Prop):Prop:=
 match o.op with
 | .build t ps=>Zzd P t (parts env ps) k
 | _=>Zjn P env o k
theorem Zxv (env:Env) (o:Oper):Det (Zsg P env o):=by
 intro k h
 unfold Zsg at *
 split at h
 ·refine (Zmo _).bind (G:=fun z k=>_) (fun z=>?_) k h
  intro k h
  split at h
  ·exact ((Zmo _).map _).chk k h
  ·exact ((Zmo _).map _).chk k h
  ·exact h.elim
 ·exact Zyv env o k h
theorem Zoh {env:Env} {h:Zaa} {o:Oper} (hr:Zpv P o.op=true) {K:Zac→Zaa→Prop}:opA P env h o K ↔ Zsg P env o fun v=>K v h:=by
 obtain ⟨dst,op,type,pos,after,guard⟩:=o
 cases op <;> simp only [Zpv,Bool.false_eq_true] at hr <;> try (simp only [opA,Zsg]; done)
 case call c=>
  simp only [opA,Zsg,Zwy]
  split at hr
  ·rename_i hc; simp [hc]
  ·cases hr
 case convert s d x=>
  simp only [Bool.not_eq_true'] at hr
  simp only [opA,Zsg,hr]
 case binOp op t x y yt=>
  simp only [opA,Zsg,Zjn]
  cases hx:ev env x <;> try exact Iff.rfl
  cases hy:ev env y <;> try (cases op <;> exact Iff.rfl)
  rename_i a b
  simp only [Zeu]
  have hRT:Zid P t=true→Zkw P t=true:=fun h=>by
   obtain ⟨e,j,hu,_⟩:=Zja h
   unfold Zkw; rw [hu]
  have hno:∀ (p:Prop) [Decidable p] (q:Prop),¬ p→(Sim.chk p q ↔ False):=fun p _ q h=>⟨fun hc=>h (Zar hc).1,fun h=>h.elim⟩
  have hyes:∀ (p:Prop) [Decidable p] (q:Prop),p→(Sim.chk p q ↔ q):=fun p _ q h=>⟨fun hc=>(Zar hc).2,fun hq=>by unfold Sim.chk; rw [decide_eq_true h]; exact hq⟩
  cases hT:Zkw P t with
  | false=>
   have hR:¬ Zid P t=true:=fun h=>by rw [hRT h] at hT; cases hT
   have hT':¬ Zkw P t=true:=by rw [hT]; simp
   cases op <;> simp only [Yco,Zzy,eqA] <;> first | exact Iff.rfl | (rw [hno _ _ hR,hno _ _ hT'])
  | true=>
   rw [hT] at hr
   simp only [Bool.and_eq_true] at hr
   have hb:b=none:=by
    have:=hr.1
    unfold Ycm at this
    split at this
    ·simp [ev,cst,Ziy] at hy; exact hy.symm
    ·cases this
   subst hb
   cases op <;> simp only [Yco,Zzy,eqA] <;> first | exact Iff.rfl | (rw [hyes _ _ hr.2,hyes _ _ hT]; exact Iff.rfl)

theorem Zni {env env':Env} {ps:Array (Nat × Operand)} (hx:∀ x∈ps.map (·.2),ev env x=ev env' x):parts env ps=parts env' ps:=by
 unfold parts
 refine List.map_congr_left fun p hp=>?_
 rw [hx p.2 (Array.mem_map.2 ⟨p,by simpa using hp,rfl⟩)]
theorem Zpk {env env':Env} {xs:Array Operand} (hx:∀ x∈xs,ev env x=ev env' x):xs.toList.map (ev env)=xs.toList.map (ev env'):=
 List.map_congr_left fun x hp=>hx x (by simpa using hp)
theorem Zno {env env':Env} {h:Zaa} {o:Oper} (hx:∀ x∈o.op.operands,ev env x=ev env' x) {K:Zac→Zaa→Prop}:opA P env h o K ↔ opA P env' h o K:=by
 obtain ⟨dst,op,type,pos,after,guard⟩:=o
 cases op <;> simp only [Op.operands] at hx <;> simp only [opA,Zjn]
 case build t ps=>rw [Zni fun x h=>hx x (by simpa using h)]
 case buildSlice t n ps=>rw [Zni fun x h=>hx x (by simpa using h)]
 case makeFunc fn first caps=>
  have hc:=Zpk (xs:=caps) fun x h=>hx x (by simp [h])
  cases fn <;> simp only [hc]
 case call c=>
  simp only [Call.operands] at hx
  have ha:c.args.toList.map (ev env)=c.args.toList.map (ev env'):=Zpk fun x h=>hx x (by simp [h])
  simp only [Zwy,Zjn,ha]
  cases hc:c.callee with
  | value f=>
   have hf:ev env f=ev env' f:=hx f (by simp [hc])
   cases f <;> simp only [hf]
  | invoke r m=>exact Iff.rfl
  | builtin b=>cases b <;> exact Iff.rfl
 case slice t x lo hi mx=>
  cases lo <;> cases hi <;> cases mx <;> simp_all
 case makeMap t r=>cases r <;> simp_all
 all_goals (first | rfl | (simp_all; done))
end
end Go.Sim

set_option linter.unusedSimpArgs false
namespace Go.Sim
open Go Go.RowKit

structure Zox where
 i:Nat
 p:Zac
 n:Option Nat
def Zox.ok (d:Zox) (h h':Zaa):Prop:=match d.n with | none=>Zaj h' d.p=Zaj h d.p | some n=>Zcl h' d.p n=Zcl h d.p n
theorem Zox.ok_refl (d:Zox) (h:Zaa):d.ok h h:=by unfold Zox.ok; split <;> rfl
def Ziq (ops:Array Oper) (j i:Nat):Bool:=match ops[j]? with | some o=>o.after.any (fun e=>Region.binds .any e && e.on == i) | none=>false
def Zsb (ops:Array Oper) (j:Nat):List Zox→Zaa→Zaa→Prop→Prop
 | [],_,_,K=>K
 | d :: r,h,h',K=>(match Ziq ops j d.i with | true=>Zsb ops j r h h' K | false=>d.ok h h'∧Zsb ops j r h h' K)
theorem Zht {ops:Array Oper} {j:Nat}:∀ {hs:List Zox} {h h':Zaa} {K:Prop},Zsb ops j hs h h' K→(∀ d∈hs,Ziq ops j d.i=true ∨ d.ok h h')∧K
 | [],_,_,_,hk=>⟨by simp,hk⟩
 | d :: r,h,h',K,hk=>by
  unfold Zsb at hk
  split at hk
  ·rename_i hw
   obtain ⟨a,b⟩:=Zht hk
   exact ⟨fun x hx=>by rcases List.mem_cons.1 hx with rfl | hx; exact .inl hw; exact a x hx,b⟩
  ·obtain ⟨ho,hk⟩:=hk
   obtain ⟨a,b⟩:=Zht hk
   exact ⟨fun x hx=>by rcases List.mem_cons.1 hx with rfl | hx; exact .inr ho; exact a x hx,b⟩

def Zmd (P:Program) (N:Nat) (ops:Array Oper) (i:Nat) (env:Env) (h:Zaa) (K:Env→Zaa→Prop):Prop:=
 match ops[i]? with | some o=>Zgu P N ops env h o K | none=>K env h
def Zii (P:Program) (ops:Array Oper) (i:Nat) (env:Env):Zox:=
 match ops[i]? with
 | some o=>(match o.op with
  | .load t a=>(match isAgg P t with | true=>⟨i,ev env a,some (P.cellsOf t)⟩ | false=>⟨i,ev env a,none⟩)
  | _=>⟨i,.undef,none⟩)
 | none=>⟨i,.undef,none⟩
def Yfl (ops:Array Oper) (f:Op→Bool) (i:Nat):Bool:=match ops[i]? with | some o=>f o.op | none=>false
def Ygs (f:Nat→Prop):List Nat→Prop
 | []=>True
 | [i]=>f i
 | i :: r=>f i∧Ygs f r
theorem Zqy {f:Nat→Prop}:∀ {l:List Nat},Ygs f l→∀ i∈l,f i
 | [],_,i,hi=>by simp at hi
 | [j],h,i,hi=>by simp at hi; subst hi; exact h
 | j :: k :: r,h,i,hi=>by
  rcases List.mem_cons.1 hi with rfl | hi
  ·exact h.1
  ·exact Zqy h.2 i hi
def Zsq (P:Program) (N:Nat) (ops:Array Oper) (ks:List Nat) (K:Env→Zaa→Prop):Nat→Array Bool→List Zox→Env→Zaa→Prop
 | 0,listed,_,env,h=>(match Region.ready .any ops listed with | []=>K (env.keep ks) h | _=>False)
 | f + 1,listed,hs,env,h=>
  (match Region.ready .any ops listed with
  | []=>K (env.keep ks) h
  | rs=>(match rs.find? (fun i=>Yfl ops (Zpv P) i && Region.free .any ops listed i) with
   | some i=>Zmd P N ops i env h fun env' h'=>Zsq P N ops ks K f (listed.setIfInBounds i true) hs env' h'
   | none=>(match (match rs with | [_]=>none | _=>rs.find? (fun i=>Yfl ops Ybr i && Region.free .any ops listed i)) with
    | some i=>Zmd P N ops i env h fun env' h'=>Zsq P N ops ks K f (listed.setIfInBounds i true) (Zii P ops i env :: hs) env' h'
    | none=>Ygs (fun i=>Zmd P N ops i env h fun env' h'=>Zsb ops i hs h h' (Zsq P N ops ks K f (listed.setIfInBounds i true) hs env' h')) rs)))

def Yae (P:Program) (N:Nat) (ops:Array Oper) (K:Env→Zaa→Prop) (hs:List Zox):Nat→Array Bool→Env→Zaa→Prop
 | 0,listed,env,h=>Region.ready .any ops listed=[]∧K env h
 | f + 1,listed,env,h=>(Region.ready .any ops listed=[]→K env h) ∧
  ∀ i∈Region.ready .any ops listed,Zmd P N ops i env h fun env' h'=>(∀ d∈hs,Ziq ops i d.i=true ∨ d.ok h h')∧Yae P N ops K hs f (listed.setIfInBounds i true) env' h'

def Zss (env env':Env):Prop:=∀ t,env.get t=env'.get t
def Zlf (o:Oper) (env:Env) (v:Zac) (env1:Env):Prop:=∀ t,env1.get t=if o.dst=some t then v else env.get t

section
variable {P:Program} {N:Nat} {ops:Array Oper}

theorem Ztn {env env':Env} {d:Option Tmp} {v:Zac} {K K':Env→Prop} (hk:Zjs N env d v K)
  (hK:∀ env1 env1',(∀ t,env1.get t=if d=some t then v else env.get t)→(∀ t,env1'.get t=if d=some t then v else env'.get t)→K env1→K' env1'):Zjs N env' d v K':=by
 unfold Zjs at *
 cases d with
 | none=>exact hK env env' (by simp) (by simp) hk
 | some d=>
  refine Zaz hk fun hk=>hK _ _ ?_ ?_ hk
  ·intro t; rw [Env.get_set]; by_cases e:t=d <;> simp [e,eq_comm]; exact fun q=>absurd q.symm e
  ·intro t; rw [Env.get_set]; by_cases e:t=d <;> simp [e,eq_comm]; exact fun q=>absurd q.symm e

theorem Zhu {env env':Env} {o:Oper} (hl:∀ t∈o.looksAt ops,env.get t=env'.get t):∀ x∈o.op.operands,ev env x=ev env' x:=fun x hx=>by
 cases x with
 | tmp t=>exact hl t (List.mem_append_left _ (List.mem_filterMap.2 ⟨.tmp t,by simpa using hx,rfl⟩))
 | _=>rfl
theorem Zdr {env:Env} {t:Nat} {v:Zac} (h:env.get t=v) (s:Nat):(env.set t v).get s=env.get s:=by
 rw [Env.get_set]; split
 ·rename_i e; subst e; exact h.symm
 ·rfl
theorem Ydu {env env':Env} {h h2:Zaa} {o:Oper} {K K':Env→Zaa→Prop} (hs:Zgu P N ops env h o K) (hl:∀ t∈o.looksAt ops,env.get t=env'.get t)
  (hop:∀ (e1 e2:Env),(∀ x∈o.op.operands,ev e1 x=ev e2 x)→(∀ t,e1.get t=env.get t)→∀ (A B:Zac→Zaa→Prop),opA P e1 h o A→(∀ v h',A v h'→B v h')→opA P e2 h2 o B)
  (hun:∀ e1 e2,Zss e1 env→Zss e2 env'→Zjs N e1 o.dst (.tup []) (fun x=>K x h)→Zjs N e2 o.dst (.tup []) (fun x=>K' x h2))
  (hK:∀ v h' env1 env1',Zlf o env v env1→Zlf o env' v env1'→K env1 h'→K' env1' h'):Zgu P N ops env' h2 o K':=by
 unfold Zgu at *
 cases hg:o.guard with
 | none=>
  simp only [hg] at hs ⊢
  exact hop env env' (Zhu hl) (fun _=>rfl) _ _ hs fun v h' hp=>Ztn hp fun e1 e2 a b k=>hK v h' e1 e2 a b k
 | some g=>
  obtain ⟨j,want⟩:=g
  simp only [hg] at hs ⊢
  cases ht:(ops[j]?).bind (·.dst) with
  | none=>simp only [ht] at hs
  | some t=>
   simp only [ht] at hs ⊢
   have htl:env.get t=env'.get t:=hl t (List.mem_append_right _ (by simp [hg,ht]))
   rw [← htl]
   split at hs
   ·rename_i b hb
    have key:∀ c,b=c→(opA P (env.set t (.bool c)) h o (fun v h'=>Zjs N (env.set t (.bool c)) o.dst v fun env'=>K env' h')→opA P (env'.set t (.bool c)) h2 o (fun v h'=>Zjs N (env'.set t (.bool c)) o.dst v fun env'=>K' env' h')) ∧
      (Zjs N (env.set t (.bool c)) o.dst (.tup []) (fun env'=>K env' h)→Zjs N (env'.set t (.bool c)) o.dst (.tup []) (fun env'=>K' env' h2)):=by
     intro c e
     subst e
     have k1:=Zdr hb
     have k2:=Zdr (htl ▸ hb:env'.get t=.bool b)
     constructor
     ·intro ho
      refine hop _ _ (Zhu fun s hs=>by rw [k1,k2]; exact hl s hs) k1 _ _ ho fun v h' hp=>Ztn hp fun e1 e2 a b k=>hK v h' e1 e2 ?_ ?_ k
      ·intro s; rw [a s,k1]
      ·intro s; rw [b s,k2]
     ·exact hun _ _ k1 k2
    cases b
    ·obtain ⟨k1,k2⟩:=key false rfl
     cases want
     ·exact k1 hs
     ·exact k2 hs
    ·obtain ⟨k1,k2⟩:=key true rfl
     cases want
     ·exact k2 hs
     ·exact k1 hs
   ·exact hun env env' (fun _=>rfl) (fun _=>rfl) hs
   ·exact hs.elim

theorem Znx {env env':Env} {h:Zaa} {o:Oper} {K K':Env→Zaa→Prop} (hs:Zgu P N ops env h o K) (hl:∀ t∈o.looksAt ops,env.get t=env'.get t)
  (hK:∀ v h' env1 env1',Zlf o env v env1→Zlf o env' v env1'→K env1 h'→K' env1' h'):Zgu P N ops env' h o K':=
 Ydu hs hl (fun e1 e2 hx _ A B ha hm=>Ybl ((Zno hx).1 ha) hm)
  (fun e1 e2 q1 q2 hp=>Ztn hp fun f1 f2 a b k=>hK _ _ f1 f2 (fun t=>by rw [a t,q1 t]) (fun t=>by rw [b t,q2 t]) k) hK

def Yd (P:Program) (N:Nat) (ops:Array Oper) (o:Oper) (v:Zac) (env:Env) (h:Zaa):Prop:=
 ∀ K:Env→Zaa→Prop,(∀ env1,Zlf o env v env1→K env1 h)→Zgu P N ops env h o K

theorem Zkh {K:Env→Zaa→Prop} {hs hs':List Zox} (hsub:∀ d∈hs,d∈hs'):∀ (f:Nat) {listed:Array Bool} {env env':Env} {h:Zaa},(∀ e e' h,Zss e e'→K e h→K e' h)→Zss env env' →
  Yae P N ops K hs' f listed env h→Yae P N ops K hs f listed env' h
 | 0,_,_,_,_,hK,he,hh=>⟨hh.1,hK _ _ _ he hh.2⟩
 | f + 1,listed,env,env',h,hK,he,hh=>by
  refine ⟨fun hr=>hK _ _ _ he (hh.1 hr),fun i hi=>?_⟩
  have:=hh.2 i hi
  unfold Zmd at *
  cases ho:ops[i]? with
  | none=>
   rw [ho] at this
   exact ⟨fun d hd=>this.1 d (hsub d hd),Zkh hsub f hK he this.2⟩
  | some o=>
   rw [ho] at this
   refine Znx this (fun t _=>he t) fun v h' e1 e2 a b k=>⟨fun d hd=>k.1 d (hsub d hd),Zkh hsub f hK (fun t=>?_) k.2⟩
   rw [a t,b t,he t]

theorem Zou {K:Env→Zaa→Prop} {hs hs':List Zox} (hK:∀ e e' h,Zss e e'→K e h→K e' h) (hsub:∀ d∈hs,d∈hs') {i:Nat} {oi:Oper} {v:Zac} (hi:ops[i]?=some oi) {T:Zaa→Zaa→Prop}
  (hT:∀ j h h1,Ziq ops j i=false→(∀ d∈hs',Ziq ops j d.i=true ∨ d.ok h h1)→T h h1)
  {Y:Env→Zaa→Prop} (hY:∀ env h,Y env h→Yd P N ops oi v env h)
  (hst:∀ env h env1 h1,Y env h→(∀ t∈oi.looksAt ops,env.get t=env1.get t)→T h h1→Y env1 h1) :
  ∀ (fuel:Nat) (listed:Array Bool) (env env1:Env) (h:Zaa),
   (∀ j oj,ops[j]?=some oj→j≠i→listed.getD j true=false→(∀ e∈oj.after,Region.binds .any e=true→e.on≠i)→oi.apart ops oj=true) →
   i∈Region.ready .any ops listed→Y env h→Zlf oi env v env1 →
   Yae P N ops K hs' fuel (listed.setIfInBounds i true) env1 h→Yae P N ops K hs (fuel + 1) listed env h:=by
 intro fuel
 have now:∀ (fuel:Nat) (listed:Array Bool) (env env1:Env) (h:Zaa),Y env h→Zlf oi env v env1→Yae P N ops K hs' fuel (listed.setIfInBounds i true) env1 h →
   Zmd P N ops i env h fun env' h'=>(∀ d∈hs,Ziq ops i d.i=true ∨ d.ok h h')∧Yae P N ops K hs fuel (listed.setIfInBounds i true) env' h':=by
  intro fuel listed env env1 h hy ha H
  unfold Zmd
  rw [hi]
  exact hY _ _ hy _ fun env2 h2=>⟨fun d _=>.inr (d.ok_refl h),Zkh hsub fuel hK (fun t=>by rw [ha t,h2 t]) H⟩
 induction fuel with
 | zero=>
  intro listed env env1 h _ hr hy ha H
  refine ⟨fun e=>(by rw [e] at hr; cases hr),fun j hj=>?_⟩
  by_cases hji:j=i
  ·subst hji; exact now 0 listed env env1 h hy ha H
  ·have:=ready_mono hj hji
   rw [H.1] at this
   cases this
 | succ fuel ih=>
  intro listed env env1 h hfree hr hy ha H
  refine ⟨fun e=>(by rw [e] at hr; cases hr),fun j hj=>?_⟩
  by_cases hji:j=i
  ·subst hji; exact now (fuel + 1) listed env env1 h hy ha H
  ·have h1:=H.2 j (ready_mono hj hji)
   obtain ⟨hjun,oj,hoj,hall⟩:=mem_ready.1 hj
   have hnot:∀ e∈oj.after,Region.binds .any e=true→e.on≠i:=fun e he hb heq=>by
    have h1:=hall e he hb
    have h0:=(mem_ready.1 hr).1
    rw [heq] at h1
    rcases Nat.lt_or_ge i listed.size with h' | h'
    ·simp [h'] at h0 h1; rw [h0] at h1; cases h1
    ·simp [Array.getElem?_eq_none h'] at h1
   have hw:Ziq ops j i=false:=by
    unfold Ziq
    rw [hoj]
    simp only [Array.any_eq_false]
    intro q hq
    simp only [Bool.and_eq_true,beq_iff_eq,not_and]
    intro hb
    exact hnot _ (Array.getElem_mem hq) hb
   obtain ⟨a1,a2,a3⟩:=Oper.apart_spec (hfree j oj hoj hji hjun hnot)
   unfold Zmd at h1 ⊢
   rw [hoj] at h1 ⊢
   refine Znx h1 (fun t ht=>?_) fun u h' e1 e2 q1 q2 k=>?_
   ·rw [ha t,if_neg (fun e=>a1 t e ht)]
   ·refine ⟨fun d hd=>k.1 d (hsub d hd),ih (listed.setIfInBounds j true) e2 e1 h' ?_ (ready_mono hr (Ne.symm hji)) ?_ ?_ ?_⟩
    ·intro k ok hk hki hun hno
     refine hfree k ok hk hki ?_ hno
     by_cases hjk:j=k
     ·subst hjk; exact hjun
     ·rw [getD_set_ne true hjk] at hun; exact hun
    ·refine hst env h e2 h' hy (fun t ht=>?_) (hT j h h' hw k.1)
     rw [q2 t,if_neg (fun e=>a3 t e ht)]
    ·intro t
     rw [q1 t,q2 t,ha t]
     by_cases x:oj.dst=some t <;> by_cases y:oi.dst=some t <;> simp [x,y]
     exact absurd x (a2 t y)
    ·rw [Array.setIfInBounds_comm _ _ hji]
     exact k.2
end
end Go.Sim
