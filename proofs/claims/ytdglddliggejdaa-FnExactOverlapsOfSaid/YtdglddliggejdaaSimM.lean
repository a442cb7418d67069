/- A part of the proof of a statement of this seat: see the text that holds the theorem. No condition. -/
import Derived.Test.YtdglddliggejdaaSimIc
import Derived.LaidEqlPtr
import Derived.Orders
set_option linter.unusedVariables false
set_option linter.unusedSimpArgs false
set_option linter.all false
set_option linter.unusedSimpArgs false
namespace Go.Sim
open Go Go.RowKit

def Zdf (h:Zaa) (i:Nat):Bool:=match h[i]? with | some (.cells _ _ false)=>true | _=>false
def Zni (P:Program) (t:TypeId):Bool:=match P.underlying t with | some (.pointer e)=>(match P.info? e with | some j=>!(Nat.beq j.size 0) | none=>false) | _=>false
def Ypo (h:Zaa) (p q:Nat × Nat) (K:Bool→Prop):Prop:=(p=q∧K true) ∨ (p.1≠q.1∧Zdf h p.1=true∧Zdf h q.1=true∧K false)
def Zrq (h:Zaa) (a b:Option (Nat × Nat)) (K:Bool→Prop):Prop:=
 match b with | none=>K a.isNone | some q=>(match a with | none=>K false | some p=>Ypo h p q K)
def Ykq (P:Program) (op:BinOp) (t:TypeId) (h:Zaa) (a b:Option (Nat × Nat)) (K:Zag→Zaa→Prop):Prop:=
 match op with
 | .eql=>chk (Zni P t=true) (Zrq h a b fun e=>K (.bool e) h)
 | .neq=>chk (Zni P t=true) (Zrq h a b fun e=>K (.bool (!e)) h)
 | _=>False
def Zkg (h:Zaa):List ME→(Nat × Nat)→Nat→Option (Option (Nat × Zag))
 | [],_,_=>some none
 | (.ptr (some q),v,_) :: r,p,i=>if p=q then some (some (i,v)) else if p.1≠q.1∧Zdf h p.1=true∧Zdf h q.1=true then Zkg h r p (i + 1) else none
 | _ :: _,_,_=>none
def Zsv (r:Option (Option (Nat × Zag))) (K:Option Zag→Prop):Prop:=match r with | some (some (_,v))=>K (some v) | some none=>K none | none=>False
def Yir (r:Option (Option (Nat × Zag))) (es:List ME) (clk:Nat) (p:Nat × Nat) (v:Zag) (K:List ME→Nat→Prop):Prop:=
 match r with
 | some (some (i,_))=>K (es.modify i fun e=>(.ptr (some p),v,e.2.2)) clk
 | some none=>K (es ++ [(.ptr (some p),v,clk)]) (clk + 1)
 | none=>False
def Yki (r:Option (Option (Nat × Zag))) (es:List ME) (K:List ME→Prop):Prop:=match r with | some (some (i,_))=>K (es.eraseIdx i) | some none=>K es | none=>False
def okV (ok:Bool) (r:Option Zag) (v:Zag):Zag:=match ok with | true=>.tup [v,.bool r.isSome] | false=>v
def Zog (P:Program) (t:TypeId) (h:Zaa) (m k:Zag) (ok:Bool) (K:Zag→Prop):Prop:=
 match P.underlying t with
 | some (.map kt et)=>chk (Zni P kt=true∧isAgg P et=false) (match m with
  | .map a=>Zfw (some k) fun q=>Zbf q fun i o=>Zzn (Yjp P et) fun z=>Zdm h a fun es _=>Zsv (Zkg h es (i,o) 0) fun r=>xv (Zjp P et) (some (r.getD z)) fun v=>K (okV ok r v)
  | _=>False)
 | _=>False
def Ziw (P:Program) (t:TypeId) (h:Zaa) (m k v:Zag) (K:Zag→Zaa→Prop):Prop:=
 match P.underlying t with
 | some (.map kt _)=>chk (Zni P kt=true) (match m with
  | .map a=>xMp a fun mi=>Zfw (some k) fun q=>Zbf q fun i o=>Zdm h (some mi) fun es clk=>Yir (Zkg h es (i,o) 0) es clk (i,o) v fun es' clk'=>K .undef (h.set mi (.map es' clk'))
  | _=>False)
 | _=>False
def Zrf (P:Program) (t:TypeId) (h:Zaa) (m k:Zag) (K:Zag→Zaa→Prop):Prop:=
 match P.underlying t with
 | some (.map kt _)=>chk (Zni P kt=true) (match m with
  | .map a=>xMp a fun mi=>Zfw (some k) fun q=>Zbf q fun i o=>Zdm h (some mi) fun es clk=>Yki (Zkg h es (i,o) 0) es fun es'=>K (.tup []) (h.set mi (.map es' clk))
  | _=>False)
 | _=>False
def Yke (P:Program) (t:TypeId):Bool:=match P.underlying t with | some (.map kt _)=>Zpz P kt | _=>false
def Yks (x:Operand):Bool:=match x with | .const (.pointer none)=>true | _=>false

section
variable {P:Program} {base:Nat} {w0:World} {μ:List Pl} {h:Zaa} {w:World}
theorem Zoa {t:TypeId} (h:Zni P t=true):∃ e j,P.underlying t=some (.pointer e)∧P.info? e=some j∧j.size≠0:=by
 unfold Zni at h
 split at h
 ·rename_i e he
  split at h
  ·rename_i j hj
   refine ⟨e,j,he,hj,fun h0=>?_⟩
   rw [h0] at h; simp at h
  ·cases h
 ·cases h
theorem Zpb {i:Nat} (hh:Zdf h i=true):∃ t cs,h[i]?=some (.cells t cs false):=by
 unfold Zdf at hh
 split at hh
 ·rename_i t cs he; exact ⟨t,cs,he⟩
 ·cases hh
theorem Zzk (r:Rel P base w0 μ h w) {i:Nat} {e:Pl} (he:μ[i]?=some e) (hh:Zdf h i=true):∃ C t,w.heap[e.b]?=some (.cells C t (0,0)):=by
 obtain ⟨t,cs,hi⟩:=Zpb hh
 obtain ⟨C,el,fr,h1,_,h3⟩:=r.obj i _ hi e he
 simp only [Bool.false_eq_true,if_false] at h3
 obtain ⟨_,_,_,rfl,_⟩:=h3
 exact ⟨C,el,h1⟩
theorem Ynn (r:Rel P base w0 μ h w) {i j:Nat} {e f:Pl} (he:μ[i]?=some e) (hf:μ[j]?=some f) (hi:Zdf h i=true) (hj:Zdf h j=true) (hne:i≠j):e.b≠f.b:=by
 obtain ⟨t,cs,h1⟩:=Zpb hi
 obtain ⟨t',cs',h2⟩:=Zpb hj
 exact r.sep i j _ _ e f hne h1 h2 rfl rfl he hf
theorem Zps (r:Rel P base w0 μ h w) {t:TypeId} (ht:Zni P t=true) {a b:Option (Nat × Nat)} {x y:Value} (ha:VR μ (.ptr a) x) (hb:VR μ (.ptr b) y) {K:Bool→Prop} (hk:Zrq h a b K) :
  ∃ e:Bool,(∀ d,(Op.equalIn (d + 1) t x y).run P w=.ok e w)∧K e:=by
 obtain ⟨te,j,hu,hj,hsz⟩:=Zoa ht
 unfold Zrq at hk
 cases hb with
 | ptr0=>
  cases ha with
  | ptr0=>exact ⟨true,fun d=>by simp [Op.equalIn,run_underlying hu],hk⟩
  | ptr hi=>exact ⟨false,fun d=>by simp [Op.equalIn,run_underlying hu],hk⟩
 | ptr hf=>
  cases ha with
  | ptr0=>exact ⟨false,fun d=>by simp [Op.equalIn,run_underlying hu],hk⟩
  | ptr he=>
   rename_i j1 o1 f i1 o2 e
   rcases hk with ⟨hpq,hk⟩ | ⟨hne,o1',o2',hk⟩
   ·cases hpq
    rw [he] at hf; cases hf
    exact ⟨true,fun d=>by simp [Op.equalIn,run_underlying hu,sizeOf,typeInfo,hj,run_sameAddr_same],hk⟩
   ·obtain ⟨C,t1,h1⟩:=Zzk r he o1'
    obtain ⟨C',t2,h2⟩:=Zzk r hf o2'
    have hnb:=Ynn r he hf o1' o2' hne
    exact ⟨false,fun d=>by
     simp [Op.equalIn,run_underlying hu,sizeOf,typeInfo,hj,hsz,run_sameAddr_other w (a:=⟨e.b,e.o + o2,none⟩) (b:=⟨f.b,f.o + o1,none⟩) (fun q=>hnb (congrArg Addr.block q)) h1 h2],hk⟩
theorem Yng (r:Rel P base w0 μ h w) {op:BinOp} {t:TypeId} {xo yo:Operand} {a b:Option (Nat × Nat)} {x y:Value} (ha:VR μ (.ptr a) x) (hb:VR μ (.ptr b) y) {K:Zag→Zaa→Prop} (hk:Ykq P op t h a b K) :
  ∃ e:Bool,(do eqGuard op t xo yo x y; binOp op t x y:Sem Value).run P w=.ok (.bool e) w∧K (.bool e) h:=by
 have hg:∀ op',op'=BinOp.eql ∨ op'=BinOp.neq→(eqGuard op' t xo yo x y).run P w=.ok () w:=by
  intro op' ho
  rcases ho with rfl | rfl <;> cases ha <;> simp [eqGuard]
 unfold Ykq at hk
 split at hk
 ·replace hk:=Zbi hk; obtain ⟨ht,hk⟩:=hk
  obtain ⟨e,he,hk⟩:=Zps r ht ha hb hk
  refine ⟨e,?_,hk⟩
  simp only [Sem.run_bind,hg _ (.inl rfl),Result.andThen_ok]
  cases ha <;> cases hb <;> (simp only [binOp]; simp [Op.equal,Op.maxDepth,he 9999])
 ·replace hk:=Zbi hk; obtain ⟨ht,hk⟩:=hk
  obtain ⟨e,he,hk⟩:=Zps r ht ha hb hk
  refine ⟨!e,?_,hk⟩
  simp only [Sem.run_bind,hg _ (.inr rfl),Result.andThen_ok]
  cases ha <;> cases hb <;> (simp only [binOp]; simp [Op.equal,Op.maxDepth,he 9999])
 ·exact hk.elim
theorem Zis (r:Rel P base w0 μ h w) {kt:TypeId} (ht:Zni P kt=true) {i o:Nat} {e:Pl} (hi:μ[i]?=some e):∀ {es:List ME} {ents:List MapEntry} {n:Nat} {q:Option (Nat × Zag)},
  VRs μ (es.map (·.1)) (ents.map (·.key))→VRs μ (es.map (·.2.1)) (ents.map (·.val))→Zkg h es (i,o) n=some q →
  (q=none∧(Instr.findAsking kt (.pointer (some ⟨e.b,e.o + o,none⟩)) ents n).run P w=.ok none w) ∨
   ∃ j v x k0,q=some (j,v)∧n≤j∧VR μ v x∧(Instr.findAsking kt (.pointer (some ⟨e.b,e.o + o,none⟩)) ents n).run P w=.ok (some (j,x)) w∧ents[j - n]?=some k0∧k0.key=.pointer (some ⟨e.b,e.o + o,none⟩)
 | [],[],n,q,_,_,hf=>by simp [Zkg] at hf; subst hf; exact .inl ⟨rfl,by simp [Instr.findAsking]⟩
 | [],_ :: _,n,q,hk,_,_=>by cases hk
 | _ :: _,[],n,q,hk,_,_=>by cases hk
 | (k,v,b) :: es,en :: ents,n,q,hk,hv,hf=>by
  simp only [List.map_cons] at hk hv
  cases hk with
  | cons hk1 hk2=>
  cases hv with
  | cons hv1 hv2=>
  cases k with
  | ptr a=>
   cases a with
   | none=>simp [Zkg] at hf
   | some p=>
    simp only [Zkg] at hf
    generalize hek:en.key=ek at hk1
    have hx:VR μ (.ptr (some (i,o))) (.pointer (some ⟨e.b,e.o + o,none⟩)):=.ptr hi
    by_cases hpq:(i,o)=p
    ·rw [if_pos hpq] at hf
     cases hf
     obtain ⟨c,hc,hke⟩:=Zps (K:=fun c=>c=true) r ht hx hk1 (by subst hpq; exact .inl ⟨rfl,rfl⟩)
     subst hke
     have hkey:en.key=.pointer (some ⟨e.b,e.o + o,none⟩):=by
      subst hpq
      cases hk1 with
      | ptr hf2=>rw [hi] at hf2; cases hf2; exact hek
     refine .inr ⟨n,v,en.val,en,rfl,Nat.le_refl _,hv1,?_,by simp,hkey⟩
     unfold Instr.findAsking
     simp [Op.equal,Op.maxDepth,hek,hc 9999]
    ·rw [if_neg hpq] at hf
     by_cases hne:(i,o).1≠p.1∧Zdf h (i,o).1=true∧Zdf h p.1=true
     ·rw [if_pos hne] at hf
      obtain ⟨c,hc,hke⟩:=Zps (K:=fun c=>c=false) r ht hx hk1 (.inr ⟨hne.1,hne.2.1,hne.2.2,rfl⟩)
      subst hke
      have step:(Instr.findAsking kt (.pointer (some ⟨e.b,e.o + o,none⟩)) (en :: ents) n).run P w=(Instr.findAsking kt (.pointer (some ⟨e.b,e.o + o,none⟩)) ents (n + 1)).run P w:=by
       conv=>lhs; unfold Instr.findAsking
       simp [Op.equal,Op.maxDepth,hek,hc 9999]
      rcases Zis r ht hi hk2 hv2 hf with ⟨h1,h2⟩ | ⟨j,v',x,k0,h1,h2,h3,h4,h5,h6⟩
      ·exact .inl ⟨h1,by rw [step,h2]⟩
      ·refine .inr ⟨j,v',x,k0,h1,by omega,h3,by rw [step,h4],?_,h6⟩
       rw [show j - n=(j - (n + 1)) + 1 by omega]; simpa using h5
     ·rw [if_neg hne] at hf; cases hf
  | _=>simp [Zkg] at hf
theorem Zfg {kt te:TypeId} (hu:P.underlying kt=some (.pointer te)) (x:Value) (es:List MapEntry):(Instr.findKey kt x es).run P w=(Instr.findAsking kt x es).run P w:=by
 cases es with
 | nil=>simp [Instr.findKey,run_underlying hu,Instr.findNow,Instr.findAsking]
 | cons e es=>simp [Instr.findKey,run_underlying hu,Instr.findNow,Instr.sameNow]
theorem Znm {kt te:TypeId} (hu:P.underlying kt=some (.pointer te)) (x:Option Addr) (b:Bool):(Instr.checkKey b 10000 kt (.pointer x)).run P w=.ok () w:=by
 unfold Instr.checkKey
 simp [run_underlying hu]
theorem Zoc {o:Option Zag} {K:Option (Nat × Nat)→Prop} (h:Zfw o K):∃ s,o=some (.ptr s)∧K s:=by
 unfold Zfw at h; split at h
 ·exact ⟨_,rfl,h⟩
 ·exact h.elim
theorem Zph {a:Option (Nat × Nat)} {K:Nat→Nat→Prop} (h:Zbf a K):∃ i o,a=some (i,o)∧K i o:=by
 unfold Zbf at h; split at h
 ·exact ⟨_,_,rfl,h⟩
 ·exact h.elim
theorem Ycy (r:Rel P base w0 μ h w) {t:TypeId} {a k:Zag} {x y:Value} {ok:Bool} (ha:VR μ a x) (hkk:VR μ k y) {K:Zag→Prop} (hk:Zog P t h a k ok K) :
  ∃ z v,(Instr.lookup t x y ok).run P w=.ok z w∧VR μ v z∧K v:=by
 unfold Zog at hk
 split at hk
 ·rename_i kt et hu
  replace hk:=Zbi hk
  obtain ⟨⟨hs,hag⟩,hk⟩:=hk
  obtain ⟨te,tj,hkt,_⟩:=Zoa hs
  split at hk
  ·rename_i m
   obtain ⟨q,hq,hk⟩:=Zoc hk
   cases hq
   obtain ⟨i,o,rfl,hk⟩:=Zph hk
   obtain ⟨z0,hz,hk⟩:=Zlx hk
   obtain ⟨zv,hzv1,hzr⟩:=Ybv (μ:=μ) hz
   cases hkk with
   | ptr hi=>
   rename_i e
   have hchk:∀ b,(Instr.checkKey b 10000 kt (.pointer (some ⟨e.b,e.o + o,none⟩))).run P w=.ok () w:=fun b=>Znm hkt _ b
   rcases Zks hk with ⟨rfl,hk1⟩ | ⟨i',es,clk,rfl,hi',hk1⟩
   ·cases ha
    simp only [Zsv,Zkg] at hk1
    obtain ⟨v,hv,hk2⟩:=Zhy hk1
    cases hv
    have hfk:(Instr.findKey kt (.pointer (some ⟨e.b,e.o + o,none⟩)) []).run P w=.ok none w:=by rw [Zfg hkt]; simp [Instr.findAsking]
    cases ok
    ·exact ⟨zv,_,by simp [Instr.lookup,run_underlying hu,hchk,hfk,hzr w],hzv1,hk2⟩
    ·exact ⟨.tuple #[zv,.bool false],_,by simp [Instr.lookup,run_underlying hu,hchk,hfk,hzr w],.tup (.cons hzv1 (.cons (.bool _) .nil)),hk2⟩
   ·cases ha with
    | map hmu=>
    obtain ⟨hb0,ents,hg,hk1',hk2',hk3'⟩:=r.obj i' _ hi' _ hmu
    unfold Zsv at hk1
    split at hk1
    ·rename_i j v hf
     obtain ⟨v1,hv,hl⟩:=Zhy hk1
     cases hv
     rcases Zis r hs hi hk1' hk2' hf with ⟨h1,_⟩ | ⟨j',v',x',k0,h1,_,h3,h4,_⟩
     ·cases h1
     ·cases h1
      cases ok
      ·exact ⟨x',_,by simp [Instr.lookup,run_underlying hu,MapKept.run_getObj_map hg,hchk,Zfg hkt,h4],h3,hl⟩
      ·exact ⟨.tuple #[x',.bool true],_,by simp [Instr.lookup,run_underlying hu,MapKept.run_getObj_map hg,hchk,Zfg hkt,h4],.tup (.cons h3 (.cons (.bool _) .nil)),hl⟩
    ·rename_i hf
     obtain ⟨v1,hv,hl⟩:=Zhy hk1
     cases hv
     rcases Zis r hs hi hk1' hk2' hf with ⟨_,h4⟩ | ⟨j',v',x',k0,h1,_⟩
     ·cases ok
      ·exact ⟨zv,_,by simp [Instr.lookup,run_underlying hu,MapKept.run_getObj_map hg,hchk,Zfg hkt,h4,hzr w],hzv1,hl⟩
      ·exact ⟨.tuple #[zv,.bool false],_,by simp [Instr.lookup,run_underlying hu,MapKept.run_getObj_map hg,hchk,Zfg hkt,h4,hzr w],.tup (.cons hzv1 (.cons (.bool _) .nil)),hl⟩
     ·cases h1
    ·exact hk1.elim
  ·exact hk.elim
 ·exact hk.elim
theorem Zwe (r:Rel P base w0 μ h w) {t:TypeId} {a k v:Zag} {x y z:Value} (ha:VR μ a x) (hkk:VR μ k y) (hv:VR μ v z) {K:Zag→Zaa→Prop} (hk:Ziw P t h a k v K) :
  ∃ w' h',(Instr.mapUpdate t x y z).run P w=.ok () w'∧Rel P base w0 μ h' w'∧K .undef h':=by
 unfold Ziw at hk
 split at hk
 ·rename_i kt et hu
  replace hk:=Zbi hk
  obtain ⟨hs,hk⟩:=hk
  obtain ⟨te,tj,hkt,_⟩:=Zoa hs
  split at hk
  ·rename_i m
   unfold xMp at hk
   split at hk
   ·rename_i mi
    obtain ⟨q,hq,hk⟩:=Zoc hk
    cases hq
    obtain ⟨i,o,rfl,hk⟩:=Zph hk
    cases hkk with
    | ptr hi=>
    rename_i e0
    obtain ⟨es,clk,hi',hk1⟩:=Zhv hk
    cases ha with
    | map hmu=>
    rename_i e
    obtain ⟨hb0,ents,hg,hk1',hk2',hk3'⟩:=r.obj mi _ hi' _ hmu
    have hchk:(Instr.checkKey false 10000 kt (.pointer (some ⟨e0.b,e0.o + o,none⟩))).run P w=.ok () w:=Znm hkt _ false
    have hlt:=(Array.getElem?_eq_some_iff.1 hg).1
    have hkv:VR μ (.ptr (some (i,o))) (.pointer (some ⟨e0.b,e0.o + o,none⟩)):=.ptr hi
    unfold Yir at hk1
    split at hk1
    ·rename_i j v0 hf
     rcases Zis r hs hi hk1' hk2' hf with ⟨h1,_⟩ | ⟨j',v',x',k0,h1,_,h3,h4,h5,h6⟩
     ·cases h1
     ·cases h1
      have hj':ents[j]?=some k0:=by simpa using h5
      have hst:∀ w:World,(Instr.keyThatStays k0.key (.pointer (some ⟨e0.b,e0.o + o,none⟩))).run P w=.ok (.pointer (some ⟨e0.b,e0.o + o,none⟩)) w:=fun w=>by
       rw [h6]; simp [Instr.keyThatStays,Instr.sameBits]
      refine ⟨_,_,?_,r.over (x:=.map (ents.modify j fun e=>{ e with key:=.pointer (some ⟨e0.b,e0.o + o,none⟩),val:=z }) clk) hi' rfl hmu hb0 rfl ?_,hk1⟩
      ·simp [Instr.mapUpdate,run_underlying hu,MapKept.run_getObj_map hg,hchk,Zfg hkt,h4,hj',hst,MapKept.run_setObj_map _ hg]
      ·refine ⟨hb0,ents.modify j fun e=>{ e with key:=.pointer (some ⟨e0.b,e0.o + o,none⟩),val:=z },by simp [hlt],?_,?_,?_⟩
       ·rw [Array.toList_modify]; exact VRs.modify (p:=fun (x:ME)=>x.1) (q:=fun (x:MapEntry)=>x.key) (v:=.ptr (some (i,o))) (k:=.pointer (some ⟨e0.b,e0.o + o,none⟩)) hkv (fun _=>rfl) (fun _=>rfl) j hk1'
       ·rw [Array.toList_modify]; exact VRs.modify (p:=fun (x:ME)=>x.2.1) (q:=fun (x:MapEntry)=>x.val) (v:=v) (k:=z) hv (fun _=>rfl) (fun _=>rfl) j hk2'
       ·rw [Array.toList_modify,Zfx (p:=fun (x:ME)=>x.2.2) (f:=fun e=>(.ptr (some (i,o)),v,e.2.2)) (fun _=>rfl) es j,Zfx (p:=fun (x:MapEntry)=>x.born) (f:=fun e=>{ e with key:=.pointer (some ⟨e0.b,e0.o + o,none⟩),val:=z }) (fun _=>rfl) ents.toList j]; exact hk3'
    ·rename_i hf
     rcases Zis r hs hi hk1' hk2' hf with ⟨_,h4⟩ | ⟨j',v',x',k0,h1,_⟩
     ·refine ⟨_,_,?_,r.over (x:=.map (ents.push { key:=.pointer (some ⟨e0.b,e0.o + o,none⟩),val:=z,born:=clk }) (clk + 1)) hi' rfl hmu hb0 rfl ?_,hk1⟩
      ·simp [Instr.mapUpdate,run_underlying hu,MapKept.run_getObj_map hg,hchk,Zfg hkt,h4,MapKept.run_setObj_map _ hg]
      ·refine ⟨hb0,ents.push { key:=.pointer (some ⟨e0.b,e0.o + o,none⟩),val:=z,born:=clk },by simp [hlt],?_,?_,?_⟩
       ·simpa using hk1'.append (.cons hkv .nil)
       ·simpa using hk2'.append (.cons hv .nil)
       ·simp [hk3']
     ·cases h1
    ·exact hk1.elim
   ·exact hk.elim
  ·exact hk.elim
 ·exact hk.elim
theorem VRs.erase {vs:List Zag} {xs:List Value} (hh:VRs μ vs xs):∀ (j:Nat),VRs μ (vs.eraseIdx j) (xs.eraseIdx j):=by
 induction vs generalizing xs with
 | nil=>intro j; cases hh; exact .nil
 | cons v vs ih=>
  intro j
  cases hh with
  | cons h1 h2=>
  cases j with
  | zero=>exact h2
  | succ j=>exact .cons h1 (ih h2 j)
theorem Zeh {α β:Type} (f:α→β):∀ (l:List α) (j:Nat),(l.map f).eraseIdx j=(l.eraseIdx j).map f
 | [],j=>by simp
 | a :: l,0=>by simp
 | a :: l,j + 1=>by simp [Zeh f l j]
theorem Ygi (r:Rel P base w0 μ h w) {t ty:TypeId} {ats:Array TypeId} (hat:ats[0]?=some t) {a k:Zag} {x y:Value} (ha:VR μ a x) (hkk:VR μ k y) {K:Zag→Zaa→Prop} (hk:Zrf P t h a k K) :
  Res P base w0 μ ((Builtin.delete_ ats ty #[x,y]).run P w) K:=by
 unfold Zrf at hk
 split at hk
 ·rename_i kt et hu
  replace hk:=Zbi hk
  obtain ⟨hs,hk⟩:=hk
  obtain ⟨te,tj,hkt,_⟩:=Zoa hs
  split at hk
  ·rename_i m
   unfold xMp at hk
   split at hk
   ·rename_i mi
    obtain ⟨q,hq,hk⟩:=Zoc hk
    cases hq
    obtain ⟨i,o,rfl,hk⟩:=Zph hk
    cases hkk with
    | ptr hi=>
    rename_i e0
    obtain ⟨es,clk,hi',hk1⟩:=Zhv hk
    cases ha with
    | map hmu=>
    rename_i e
    obtain ⟨hb0,ents,hg,hk1',hk2',hk3'⟩:=r.obj mi _ hi' _ hmu
    have hchk:∀ b,(Instr.checkKey b 10000 kt (.pointer (some ⟨e0.b,e0.o + o,none⟩))).run P w=.ok () w:=fun b=>Znm hkt _ b
    have hlt:=(Array.getElem?_eq_some_iff.1 hg).1
    unfold Yki at hk1
    split at hk1
    ·rename_i j v0 hf
     rcases Zis r hs hi hk1' hk2' hf with ⟨h1,_⟩ | ⟨j',v',x',k0,h1,_,h3,h4,h5,h6⟩
     ·cases h1
     ·cases h1
      have hjl:j < ents.size:=by have:=(List.getElem?_eq_some_iff.1 h5).1; simpa using this
      have htl:(ents.eraseIdxIfInBounds j).toList=ents.toList.eraseIdx j:=by simp [Array.eraseIdxIfInBounds,hjl]
      refine ⟨.tuple #[],_,μ,.tup [],_,?_,Ext.refl _,r.over (x:=.map (ents.eraseIdxIfInBounds j) clk) hi' rfl hmu hb0 rfl ?_,.tup .nil,hk1⟩
      ·simp [Builtin.delete_,hat,run_underlying hu,MapKept.run_getObj_map hg,hchk,Zfg hkt,h4,MapKept.run_setObj_map _ hg]
      ·refine ⟨hb0,ents.eraseIdxIfInBounds j,by simp [hlt],?_,?_,?_⟩
       ·rw [htl,← Zeh,← Zeh]; exact hk1'.erase j
       ·rw [htl,← Zeh,← Zeh]; exact hk2'.erase j
       ·rw [htl,← Zeh,← Zeh,hk3']
    ·rename_i hf
     rcases Zis r hs hi hk1' hk2' hf with ⟨_,h4⟩ | ⟨j',v',x',k0,h1,_⟩
     ·refine ⟨.tuple #[],_,μ,.tup [],_,?_,Ext.refl _,r.over (x:=.map ents clk) hi' rfl hmu hb0 rfl ?_,.tup .nil,hk1⟩
      ·simp [Builtin.delete_,hat,run_underlying hu,MapKept.run_getObj_map hg,hchk,Zfg hkt,h4,MapKept.run_setObj_map _ hg]
      ·exact ⟨hb0,ents,by simp [hlt],hk1',hk2',hk3'⟩
     ·cases h1
    ·exact hk1.elim
   ·exact hk.elim
  ·exact hk.elim
 ·exact hk.elim
end
end Go.Sim

set_option linter.unusedSimpArgs false
namespace Go.Sim
open Go Go.RowKit

structure Zad (P:Program) (n:FuncId) (args:List Zag) (h:Zaa) (Q:Zag→Zaa→Prop):Prop where
 able : ∃ fn, P.funcs[n]? = some fn ∧ fn.body.isSome = true ∧ (fn.name == "runtime.NumGoroutine") = false
 calls:∀ (base:Nat) (w0:World) (μ:List Pl) (w:World) (xs:Array Value),Rel P base w0 μ h w→VRs μ args xs.toList →
  Calls P n xs w fun e w'=>∃ x μ' v h',e=.returned x∧Ext μ μ'∧Rel P base w0 μ' h' w'∧VR μ' v x∧Q v h'
theorem Zad.mono {P:Program} {n:FuncId} {args:List Zag} {h:Zaa} {Q Q':Zag→Zaa→Prop} (hc:Zad P n args h Q) (hq:∀ v h',Q v h'→Q' v h'):Zad P n args h Q':=
 ⟨hc.1,fun base w0 μ w xs r hx=>(hc.2 base w0 μ w xs r hx).mono fun _ _ ⟨x,μ',v,h',a,b,c,d,q⟩=>⟨x,μ',v,h',a,b,c,d,hq _ _ q⟩⟩

def rts (P:Program) (f:FuncId):List TypeId:=match P.funcs[f]? with | some fn=>fn.resultTypes.toList | none=>[]
def Ynk (P:Program) (f:FuncId) (args:List Zag) (h:Zaa) (K:Zag→Zaa→Prop):Prop:=Zad P f args h fun v h'=>Ykx P (rts P f) v fun v=>K v h'
def Yph (v:Zag) (K:FuncId→List Zag→Prop):Prop:=match v with | .fn g caps=>K g caps | _=>False
def Yqh (P:Program) (t:TypeId):List TypeId:=match P.underlying t with | some (.tuple ts)=>ts.toList | _=>[t]
def Ypl (P:Program) (t:TypeId) (v:Zag) (args:List Zag) (h:Zaa) (K:Zag→Zaa→Prop):Prop:=Yph v fun g caps=>Zad P g (args ++ caps) h fun v h'=>Ykx P (Yqh P t) v fun v=>K v h'
def Yht (P:Program) (env:Env) (h:Zaa) (o:Oper) (c:Call) (K:Zag→Zaa→Prop):Prop:=
 match c.callee with
 | .value f=>(match f with
  | .func g=>Ynk P g (c.args.toList.map (ev env) ++ []) h K
  | f=>Ypl P o.type (ev env f) (c.args.toList.map (ev env)) h K)
 | .builtin .append=>(match c.argTypes.toList with
  | [t,u]=>chk (u=t) (match c.args.toList.map (ev env) with | [s,x]=>Zdv P t h s x fun v h'=>xv .slice (some v) fun v=>K v h' | _=>False)
  | _=>False)
 | .builtin .min=>(match c.args.toList.map (ev env) with | [x,y]=>Ymy x y fun v=>K v h | _=>False)
 | .builtin .clear=>(match c.argTypes.toList with
  | [t]=>(match c.args.toList.map (ev env) with | [x]=>Ycl P t h x K | _=>False)
  | _=>False)
 | .builtin .delete=>(match c.argTypes.toList with
  | t :: _=>(match c.args.toList.map (ev env) with | [m,k]=>Zrf P t h m k K | _=>False)
  | _=>False)
 | _=>Zok P env o fun v=>K v h
def opA (P:Program) (env:Env) (h:Zaa) (o:Oper) (K:Zag→Zaa→Prop):Prop:=
 match o.op with
 | .load t a=>chk ((P.underlying t).isSome=true) (Zsa P t h (ev env a) fun v=>K v h)
 | .store t a x=>chk ((P.underlying t).isSome=true) (Zvk P t h (ev env a) (ev env x) fun h'=>K .undef h')
 | .alloc t=>Ykl P t h K
 | .box t x=>Ypt t h (ev env x) K
 | .build t ps=>Yho P t (parts env ps) fun v=>K v h
 | .buildSlice t n ps=>Zmp P t n (parts env ps) h K
 | .call c=>Yht P env h o c K
 | .makeSlice t l c=>Zjz P t (ev env l) (ev env c) h K
 | .makeMap t r=>Zoi P t (r.map (ev env)) h K
 | .lookup t x i ok=>(match Yke P t with | true=>Zog P t h (ev env x) (ev env i) ok fun v=>K v h | false=>Zqz P t h (ev env x) (ev env i) ok fun v=>K v h)
 | .mapUpdate t m k v=>(match Yke P t with | true=>Ziw P t h (ev env m) (ev env k) (ev env v) K | false=>Zjx P t h (ev env m) (ev env k) (ev env v) K)
 | .range t x=>Zuw P t (ev env x) h K
 | .next x st=>Yec P o.type (ev env x) st h K
 | .entry x=>Zvo P o.type (ev env x) h fun v=>K v h
 | .convert s d x=>(match Ydi P s with | true=>Ymz P s d h (ev env x) fun v=>K v h | false=>Zok P env o fun v=>K v h)
 | .binOp op t x y _=>(match ev env x with
  | .ptr a=>Zfw (some (ev env y)) fun b=>Ykq P op t h a b K
  | _=>Zok P env o fun v=>K v h)
 | _=>Zok P env o fun v=>K v h
def Zor (N:Nat) (env:Env) (d:Option Tmp) (v:Zag) (K:Env→Prop):Prop:=match d with | none=>K env | some d=>chk (d < N) (K (env.set d v))
def Zkp (P:Program) (N:Nat) (ops:Array Oper) (env:Env) (h:Zaa) (o:Oper) (K:Env→Zaa→Prop):Prop:=
 match o.guard with
 | none=>opA P env h o fun v h'=>Zor N env o.dst v fun env'=>K env' h'
 | some (j,want)=>(match (ops[j]?).bind (·.dst) with
  | some t=>(match env.get t with
   | .bool b=>bcase b
     (match want with | true=>opA P (env.set t (.bool true)) h o fun v h'=>Zor N (env.set t (.bool true)) o.dst v fun env'=>K env' h' | false=>Zor N (env.set t (.bool true)) o.dst (.tup []) fun env'=>K env' h)
     (match want with | false=>opA P (env.set t (.bool false)) h o fun v h'=>Zor N (env.set t (.bool false)) o.dst v fun env'=>K env' h' | true=>Zor N (env.set t (.bool false)) o.dst (.tup []) fun env'=>K env' h)
   | .tup []=>Zor N env o.dst (.tup []) fun env'=>K env' h
   | _=>False)
  | none=>False)
def Ypk (P:Program) (N:Nat) (ops:Array Oper):List Oper→Env→Zaa→(Env→Zaa→Prop)→Prop
 | [],env,h,K=>K env h
 | o :: r,env,h,K=>Zkp P N ops env h o fun env' h'=>Ypk P N ops r env' h' K

section
variable {P:Program} {base N:Nat} {w0:World} {μ:List Pl} {h:Zaa} {w:World}

structure St (P:Program) (base N:Nat) (w0:World) (μ:List Pl) (env:Env) (h:Zaa) (a:Act) (w:World):Prop where
 rel:Rel P base w0 μ h w
 env:Zkw μ env a.tmps
 size:a.tmps.size=N
 defers:a.defers=[]

def Yiv (P:Program) (base N:Nat) (w0:World) (μ:List Pl) (K:Env→Zaa→Prop) (a:Act) (w:World):Prop:=
 ∃ μ' env h,Ext μ μ'∧St P base N w0 μ' env h a w∧K env h

theorem St.put {env:Env} {a:Act} (s:St P base N w0 μ env h a w) {μ':List Pl} {h':Zaa} {w':World} (he:Ext μ μ') (hr:Rel P base w0 μ' h' w') {v:Zag} {x:Value} (hv:VR μ' v x) {d:Option Tmp} {K:Env→Prop} (hk:Zor N env d v K) :
  ∃ env',St P base N w0 μ' env' h' (a.put d x) w'∧K env':=by
 unfold Zor at hk
 cases d with
 | none=>exact ⟨env,⟨hr,s.env.ext he,s.size,s.defers⟩,hk⟩
 | some d=>
  replace hk:=Zbi hk
  obtain ⟨hd,hk⟩:=hk
  refine ⟨_,⟨hr,(s.env.ext he).set (by rw [s.size]; exact hd) hv,?_,s.defers⟩,hk⟩
  simp [Act.put,s.size]

theorem St.know {env:Env} {a:Act} (s:St P base N w0 μ env h a w) {t:Nat} {v:Zag} (hv:VR μ v (a.tmps.getD t undef)):St P base N w0 μ (env.set t v) h a w:=
 ⟨s.rel,s.env.know hv,s.size,s.defers⟩

theorem Res.wp {o:Oper} {a:Act} {K:Zag→Zaa→Prop} {next:Act→World→Prop} {Q:Exit→Act→World→Prop} {s:Sem Value}
  (hr:Res P base w0 μ (s.run P w) K) (he:(execOp a.eval o).run P w=(s.run P w).andThen fun x w'=>.ok (.value x) w')
  (hn:∀ x w' μ' v h',Ext μ μ'→Rel P base w0 μ' h' w'→VR μ' v x→K v h'→next (a.put o.dst x) w'):o.wp P a w next Q:=by
 obtain ⟨x,w',μ',v,h',hrun,hx,hrel,hv,hk⟩:=hr
 unfold Oper.wp
 rw [he,hrun]
 exact hn x w' μ' v h' hx hrel hv hk

theorem Yll {env:Env} {a:Act} (s:St P base N w0 μ env h a w) {f:FuncId} {args:List Zag} {xs:Array Value} (hxs:VRs μ args xs.toList) {K:Zag→Zaa→Prop} (hk:Zad P f args h K)
  {o:Oper} (he:(execOp a.eval o).run P w=(callFunc f xs).run P w) {next:Act→World→Prop} {Q:Exit→Act→World→Prop}
  (hn:∀ x w' μ' v h',Ext μ μ'→Rel P base w0 μ' h' w'→VR μ' v x→K v h'→next (a.put o.dst x) w'):o.wp P a w next Q:=by
 obtain ⟨⟨fn,hf,hb,hname⟩,hc⟩:=hk
 have hcall:(callFunc f xs).run P w=.ok (.enter f xs) w:=by
  obtain ⟨c,hc⟩:=Option.isSome_iff_exists.1 hb
  have hname' : fn.name ≠ "runtime.NumGoroutine" := by simpa using hname
  simp [callFunc,hf,hc,hname']
 unfold Oper.wp
 rw [he,hcall]
 refine (hc base w0 μ w xs s.rel hxs).mono ?_
 rintro e w' ⟨x,μ',v,h',rfl,hx,hr,hv,hq⟩
 exact hn x w' μ' v h' hx hr hv hq

theorem VRs.single {v:Zag} {xs:Array Value} (h:VRs μ [v] xs.toList):∃ x,xs=#[x]∧VR μ v x:=by
 obtain ⟨l⟩:=xs
 match l,h with
 | [x],.cons a .nil=>exact ⟨x,rfl,a⟩
theorem Yld {env:Env} {a:Act} (s:St P base N w0 μ env h a w) {o:Oper} {K:Zag→Zaa→Prop} (hk:opA P env h o K) {next:Act→World→Prop} {Q:Exit→Act→World→Prop}
  (hn:∀ x w' μ' v h',Ext μ μ'→Rel P base w0 μ' h' w'→VR μ' v x→K v h'→next (a.put o.dst x) w'):o.wp P a w next Q:=by
 have hρ:=Ynv s.env
 have pure:Zok P env o (fun v=>K v h)→o.wp P a w next Q:=fun hk=>by
  obtain ⟨x,v,hr,hv,hk⟩:=Ylx hρ hk
  unfold Oper.wp
  rw [hr w]
  exact hn x w μ v h (Ext.refl _) s.rel hv hk
 unfold opA at hk
 split at hk
 ·rename_i t p he
  replace hk:=Zbi hk
  obtain ⟨hu,hk⟩:=hk
  obtain ⟨y,v,hr,hv,hk⟩:=Ygm s.rel (hρ p) hu hk
  unfold Oper.wp
  simp only [execOp,he,Sem.run_bind,hr,Result.andThen_ok,Sem.run_pure]
  exact hn y w μ v h (Ext.refl _) s.rel hv hk
 ·rename_i t p x he
  replace hk:=Zbi hk
  obtain ⟨hu,hk⟩:=hk
  obtain ⟨w',h',hr,hrel,hk⟩:=Yiq s.rel (hρ p) (hρ x) hu hk
  unfold Oper.wp
  simp only [execOp,he,Sem.run_bind,hr,Result.andThen_ok,Sem.run_pure]
  exact hn undef w' μ .undef h' (Ext.refl _) hrel (.undef _) hk
 ·rename_i t he
  exact Res.wp (Yjc s.rel hk) (by simp [execOp,he]) hn
 ·rename_i t x he
  exact Res.wp (Yod s.rel (hρ x) hk) (by simp [execOp,he]) hn
 ·rename_i t ps he
  obtain ⟨h1,h2⟩:=Ycd hρ ps
  obtain ⟨x,v,hr,hv,hk⟩:=Yjb h1 h2 hk
  unfold Oper.wp
  simp only [execOp,he,Sem.run_bind,hr w,Result.andThen_ok,Sem.run_pure]
  exact hn x w μ v h (Ext.refl _) s.rel hv hk
 ·rename_i t n ps he
  obtain ⟨h1,h2⟩:=Ycd hρ ps
  exact Res.wp (Zwk s.rel h1 h2 hk) (by simp [execOp,he]) hn
 ·rename_i c he
  unfold Yht at hk
  split at hk
  ·rename_i f hcal
   have go:∀ (f:Operand),c.callee=.value f→∀ (g:FuncId) (caps:List Zag),ev env f=.fn g caps→Zad P g (c.args.toList.map (ev env) ++ caps) h K→o.wp P a w next Q:=by
    intro f hcal g caps hev hk
    have hf:=hρ f
    rw [hev] at hf
    cases hfv:a.eval f with
    | func fn first cap=>
     rw [hfv] at hf
     cases hf with
     | fn hcaps=>
     refine Yll s (xs:=c.args.map a.eval ++ cap) (by rw [Array.toList_append]; exact (Zpk hρ c.args).append hcaps) hk ?_ hn
     simp [execOp,he,resolve,hcal,hfv,Deferred.ofValue,invoke]
    | _=>rw [hfv] at hf; cases hf
   split at hk
   ·rename_i g
    exact go _ hcal g [] rfl (Zad.mono hk fun _ _ hq=>Zyl (K:=fun v=>K v _) hq)
   ·unfold Ypl Yph at hk
    split at hk
    ·rename_i g caps hev
     exact go _ hcal g caps hev (Zad.mono hk fun _ _ hq=>Zyl (K:=fun v=>K v _) hq)
    ·exact hk.elim
  ·rename_i hcal
   split at hk
   ·rename_i t u hts
    replace hk:=Zbi hk
    obtain ⟨rfl,hk⟩:=hk
    split at hk
    ·rename_i sv xv hargs
     have hvs:=Zpk hρ c.args
     rw [hargs] at hvs
     obtain ⟨x,y,hxy,h1,h2⟩:=hvs.two
     refine Res.wp (Yfe (ty:=o.type) s.rel h1 h2 hk) ?_ fun x w' μ' v h' hx hr hv hk=>(by obtain ⟨v2,hv2,hk⟩:=Zhy hk; cases hv2; exact hn x w' μ' v h' hx hr hv hk)
     have hat:c.argTypes=#[u,u]:=by
      apply Array.ext'; simpa using hts
     simp [execOp,he,resolve,hcal,invoke,builtin,hxy,hat]
    ·exact hk.elim
   ·exact hk.elim
  ·rename_i hcal
   split at hk
   ·rename_i a b hargs
    have hvs:=Zpk hρ c.args
    rw [hargs] at hvs
    obtain ⟨x,y,hxy,h1,h2⟩:=hvs.two
    obtain ⟨v,z,hr,hv,hk⟩:=Yop (ts:=c.argTypes) (t:=o.type) h1 h2 hk
    exact Res.wp (s:=Builtin.min_ c.argTypes o.type #[x,y]) ⟨z,w,μ,v,h,hr w,Ext.refl _,s.rel,hv,hk⟩ (by simp [execOp,he,resolve,hcal,invoke,builtin,hxy]) hn
   ·exact hk.elim
  ·rename_i hcal
   split at hk
   ·rename_i t hts
    split at hk
    ·rename_i x1 hargs
     have hvs:=Zpk hρ c.args
     rw [hargs] at hvs
     obtain ⟨x,hxy,h1⟩:=hvs.single
     refine Res.wp (Yin (ty:=o.type) s.rel h1 hk) ?_ hn
     have hat:c.argTypes=#[t]:=by
      apply Array.ext'; simpa using hts
     simp [execOp,he,resolve,hcal,invoke,builtin,hxy,hat]
    ·exact hk.elim
   ·exact hk.elim
  ·rename_i hcal
   split at hk
   ·rename_i t rest hts
    split at hk
    ·rename_i mv kv hargs
     have hvs:=Zpk hρ c.args
     rw [hargs] at hvs
     obtain ⟨x,y,hxy,h1,h2⟩:=hvs.two
     have hat:c.argTypes[0]?=some t:=by rw [← Array.getElem?_toList,hts]; rfl
     refine Res.wp (Ygi (ty:=o.type) s.rel hat h1 h2 hk) ?_ hn
     simp [execOp,he,resolve,hcal,invoke,builtin,hxy]
    ·exact hk.elim
   ·exact hk.elim
  ·exact pure hk
 ·rename_i t l c he
  exact Res.wp (Zyp s.rel (hρ l) (hρ c) hk) (by simp [execOp,he]) hn
 ·rename_i t m he
  refine Res.wp (Ydf (x:=m.map a.eval) s.rel ?_ hk) (by simp [execOp,he]) hn
  cases m with
  | none=>exact .inl ⟨rfl,rfl⟩
  | some m=>exact .inr ⟨_,_,rfl,rfl,hρ m⟩
 ·rename_i t x i ok he
  split at hk
  ·obtain ⟨z,v,hr,hv,hk⟩:=Ycy s.rel (hρ x) (hρ i) hk
   exact Res.wp (s:=Instr.lookup t (a.eval x) (a.eval i) ok) ⟨z,w,μ,v,h,hr,Ext.refl _,s.rel,hv,hk⟩ (by simp [execOp,he]) hn
  ·obtain ⟨z,v,hr,hv,hk⟩:=Ygc s.rel (hρ x) (hρ i) hk
   exact Res.wp (s:=Instr.lookup t (a.eval x) (a.eval i) ok) ⟨z,w,μ,v,h,hr,Ext.refl _,s.rel,hv,hk⟩ (by simp [execOp,he]) hn
 ·rename_i t m k x he
  split at hk
  ·obtain ⟨w',h',hr,hrel,hk⟩:=Zwe s.rel (hρ m) (hρ k) (hρ x) hk
   unfold Oper.wp
   simp only [execOp,he,Sem.run_bind,hr,Result.andThen_ok,Sem.run_pure]
   exact hn undef w' μ .undef h' (Ext.refl _) hrel (.undef _) hk
  ·obtain ⟨w',h',hr,hrel,hk⟩:=Zyv s.rel (hρ m) (hρ k) (hρ x) hk
   unfold Oper.wp
   simp only [execOp,he,Sem.run_bind,hr,Result.andThen_ok,Sem.run_pure]
   exact hn undef w' μ .undef h' (Ext.refl _) hrel (.undef _) hk
 ·rename_i t x he
  exact Res.wp (Yiz s.rel (hρ x) hk) (by simp [execOp,he]) hn
 ·rename_i x st he
  exact Res.wp (Yie (ty:=o.type) s.rel (hρ x) hk) (by simp [execOp,he]) hn
 ·rename_i x he
  obtain ⟨z,v,hr,hv,hk⟩:=Yil s.rel (hρ x) hk
  exact Res.wp (s:=Instr.entry (a.eval x)) ⟨z,w,μ,v,h,hr,Ext.refl _,s.rel,hv,hk⟩ (by simp [execOp,he]) hn
 ·rename_i a b x he
  split at hk
  ·exact Res.wp (Ylr s.rel (hρ x) hk) (by simp [execOp,he]) hn
  ·exact pure hk
 ·rename_i op t x y yt he
  split at hk
  ·rename_i pa hx
   obtain ⟨pb,hy,hk⟩:=Zoc hk
   have hy:=Option.some.inj hy
   have h1:=hρ x; rw [hx] at h1
   have h2:=hρ y; rw [hy] at h2
   obtain ⟨e,hr,hk⟩:=Yng (xo:=x) (yo:=y) s.rel h1 h2 hk
   unfold Oper.wp
   simp only [execOp,he]
   rw [Sem.run_bind,hr]
   exact hn _ w μ _ h (Ext.refl _) s.rel (.bool e) hk
  ·exact pure hk
 ·exact pure hk

theorem Yhk {tmps:Array Value} {t:Nat} {b:Bool} (h:VR μ (.bool b) (tmps.getD t undef)):tmps[t]?=some (.bool b):=by
 simp only [Array.getD_eq_getD_getElem?] at h
 cases hx:tmps[t]? with
 | none=>rw [hx] at h; simp [undef] at h; cases h
 | some x=>rw [hx] at h; simp at h; cases h; rfl

theorem Ygw {ops:Array Oper} {env:Env} {a:Act} (s:St P base N w0 μ env h a w) {o:Oper} {K:Env→Zaa→Prop} (hk:Zkp P N ops env h o K) {next:Act→World→Prop} {Q:Exit→Act→World→Prop}
  (hn:∀ a w,Yiv P base N w0 μ K a w→next a w):if Region.wanted o (yielded ops a.tmps) then o.wp P a w next Q else next (a.put o.dst undef) w:=by
 have fin:∀ {env:Env} {v:Zag} {x:Value} {μ':List Pl} {h':Zaa} {w':World},St P base N w0 μ env h a w→Ext μ μ'→Rel P base w0 μ' h' w'→VR μ' v x→Zor N env o.dst v (fun env'=>K env' h')→next (a.put o.dst x) w':=by
  intro env v x μ' h' w' s hx hr hv hk
  obtain ⟨env',s',hk⟩:=s.put hx hr hv hk
  exact hn _ _ ⟨μ',env',h',hx,s',hk⟩
 unfold Zkp at hk
 split at hk
 ·rename_i hg
  have:Region.wanted o (yielded ops a.tmps)=true:=by simp [Region.wanted,hg]
  rw [if_pos this]
  exact Yld s hk fun x w' μ' v h' hx hr hv hk=>fin s hx hr hv hk
 ·rename_i j want hg
  split at hk
  ·rename_i t ht
   split at hk
   ·rename_i b hb
    have henv:=s.env t
    rw [hb] at henv
    have hy:yielded ops a.tmps j=some b:=by
     unfold yielded
     rw [ht]; simp only [Option.bind_some,Yhk henv]
    have hwant:Region.wanted o (yielded ops a.tmps)=(b == want):=by simp [Region.wanted,hg,hy]
    rw [hwant]
    have hknow:∀ c,b=c→St P base N w0 μ (env.set t (.bool c)) h a w:=fun c e=>by subst e; exact s.know henv
    refine Yeo hk ?_ ?_
    ·rintro rfl hk
     have s':=hknow true rfl
     cases want with
     | true=>exact Yld s' hk fun x w' μ' v h' hx hr hv hk=>fin s' hx hr hv hk
     | false=>exact fin s' (Ext.refl _) s.rel (.tup .nil) hk
    ·rintro rfl hk
     have s':=hknow false rfl
     cases want with
     | false=>exact Yld s' hk fun x w' μ' v h' hx hr hv hk=>fin s' hx hr hv hk
     | true=>exact fin s' (Ext.refl _) s.rel (.tup .nil) hk
   ·rename_i hb
    have henv:=s.env t
    rw [hb] at henv
    have hy:yielded ops a.tmps j=none:=by
     unfold yielded
     rw [ht]; simp only [Option.bind_some]
     have:a.tmps[t]?=none ∨ a.tmps[t]?=some (.tuple #[]):=by
      simp only [Array.getD_eq_getD_getElem?] at henv
      cases hx:a.tmps[t]? with
      | none=>exact .inl rfl
      | some x=>
       rw [hx] at henv
       simp only [Option.getD_some] at henv
       cases henv with
       | tup hv => 
        have:=hv.length
        rename_i xs
        have:xs=#[]:=by apply Array.ext'; exact List.eq_nil_of_length_eq_zero (by simpa using this.symm)
        subst this; exact .inr rfl
     rcases this with h | h <;> rw [h]
    have hwant:Region.wanted o (yielded ops a.tmps)=false:=by simp [Region.wanted,hg,hy]
    rw [hwant]
    exact fin s (Ext.refl _) s.rel (.tup .nil) hk
   ·exact hk.elim
  ·exact hk.elim

theorem Yka {ops:Array Oper} {Q:Exit→Act→World→Prop}:∀ (l:List Oper) {μ:List Pl} {h:Zaa} {w:World} {env:Env} {a:Act},St P base N w0 μ env h a w→∀ {K:Env→Zaa→Prop},Ypk P N ops l env h K →
  (∀ a w,Yiv P base N w0 μ K a w→Q .normal a w)→wpList P ops Q l a w
 | [],μ,h,w,env,a,s,K,hk,hq=>hq a w ⟨μ,env,h,Ext.refl _,s,hk⟩
 | o :: r,μ,h,w,env,a,s,K,hk,hq=>by
  have hstep:=Ygw (next:=wpList P ops Q r) (Q:=Q) s hk (fun a' w' ⟨μ',env',h',hx,s',hk'⟩=>Yka r s' hk' (fun a w ⟨μ2,env2,h2,hx2,s2,k2⟩=>hq a w ⟨μ2,env2,h2,hx.trans hx2,s2,k2⟩))
  unfold wpList
  split
  ·rename_i hw; rw [if_pos hw] at hstep; exact .inl hstep
  ·rename_i hw; rw [if_neg hw] at hstep; exact hstep
end
end Go.Sim

set_option linter.unusedSimpArgs false
namespace Go.Sim
open Go Go.RowKit

section
variable {P:Program} {K K':Zag→Zaa→Prop} {k k':Zag→Prop}

theorem Ydu {o:Option Zag} {K K':Bool→Prop} (h:Zbw o K) (m:∀ b,K b→K' b):Zbw o K':=by
 unfold Zbw at *; split at h <;> first | exact m _ h | exact h.elim
theorem Ygd {q:IntKind} {o:Option Zag} {K K':Int→Prop} (h:Zco q o K) (m:∀ b,K b→K' b):Zco q o K':=by
 unfold Zco at *; split at h <;> first | exact ⟨h.1,m _ h.2⟩ | exact h.elim
theorem Ztv {o:Option Zag} {K K':List Nat→Prop} (h:Zcb o K) (m:∀ b,K b→K' b):Zcb o K':=by
 unfold Zcb at *; split at h <;> first | exact m _ h | exact h.elim
theorem Znx {o:Option Zag} {K K':Option (Nat × Nat)→Prop} (h:Zfw o K) (m:∀ b,K b→K' b):Zfw o K':=by
 unfold Zfw at *; split at h <;> first | exact m _ h | exact h.elim
theorem Yih {o:Option Zag} {K K':Option (Nat × Nat)→Nat→Nat→Bool→Prop} (h:xSl o K) (m:∀ a b c d,K a b c d→K' a b c d):xSl o K':=by
 unfold xSl at *; split at h <;> first | exact m _ _ _ _ h | exact h.elim
theorem Yhi {o:Option Zag} {K K':Option Nat→Prop} (h:Yeu o K) (m:∀ b,K b→K' b):Yeu o K':=by
 unfold Yeu at *; split at h <;> first | exact m _ h | exact h.elim
theorem Znn {o:Option Zag} (h:Zzn o k) (m:∀ b,k b→k' b):Zzn o k':=by
 unfold Zzn at *; split at h <;> first | exact m _ h | exact h.elim
theorem Zvn {cs:List Zag} {K K':Zag→List Zag→Prop} (h:Zam cs K) (m:∀ a b,K a b→K' a b):Zam cs K':=by
 unfold Zam at *; split at h <;> first | exact m _ _ h | exact h.elim
theorem Zxq {cs:List Zag} {K K':Prop} (h:Zcq cs K) (m:K→K'):Zcq cs K':=by
 unfold Zcq at *; split at h <;> first | exact m h | exact h.elim
theorem Zez {o:Option (List Zag)} {K K':List Zag→Prop} (h:Zcy o K) (m:∀ b,K b→K' b):Zcy o K':=by
 unfold Zcy at *; split at h <;> first | exact m _ h | exact h.elim
theorem Zuy {o:Option Zaa} {K K':Zaa→Prop} (h:Zcf o K) (m:∀ b,K b→K' b):Zcf o K':=by
 unfold Zcf at *; split at h <;> first | exact m _ h | exact h.elim
theorem Yha {v:Zag} {K K':List Zag→Prop} (h:Zqp v K) (m:∀ b,K b→K' b):Zqp v K':=by
 unfold Zqp at *; split at h <;> first | exact m _ h | exact h.elim
theorem Yhg {v:Zag} {K K':List Zag→Prop} (h:Zzi v K) (m:∀ b,K b→K' b):Zzi v K':=by
 unfold Zzi at *; split at h <;> first | exact m _ h | exact h.elim
theorem Zsn {o:Option Field} {K K':Field→Prop} (h:Zoy o K) (m:∀ b,K b→K' b):Zoy o K':=by
 unfold Zoy at *; split at h <;> first | exact m _ h | exact h.elim
theorem Zby {p:Prop} [Decidable p] {K K':Prop} (h:chk p K) (m:K→K'):chk p K':=by
 unfold chk at *; split at h <;> first | exact m h | exact h.elim
theorem Zkc {o:Option Zag} {d:Int} {K K':Int→Prop} (h:Zjm o d K) (m:∀ b,K b→K' b):Zjm o d K':=by
 unfold Zjm at *; split at h <;> first | exact m _ h | exact h.elim
theorem Ydh {b:Bool} {A B A' B':Prop} (h:bcase b A B) (m:A→A') (n:B→B'):bcase b A' B':=by
 unfold bcase at *; split at h <;> first | exact m h | exact n h
theorem Zlb {s:Sh} {o:Option Zag} (h:xv s o k) (m:∀ v,k v→k' v):xv s o k':=by
 cases s <;> simp only [xv] at *
 ·exact Ydu h fun _=>m _
 ·exact Ygd h fun _=>m _
 ·exact Ztv h fun _=>m _
 ·exact Znx h fun _=>m _
 ·exact Yih h fun _ _ _ _=>m _
 ·exact Yhi h fun _=>m _
 ·exact Znn h m
theorem Ybj:∀ {ss:List Sh} {cs:List Zag} {K K':List Zag→Prop},xs ss cs K→(∀ v,K v→K' v)→xs ss cs K'
 | [],_,_,_,h,m=>Zxq h (m _)
 | _ :: _,_,_,_,h,m=>Zvn h fun _ _ h=>Zlb h fun _ h=>Ybj h fun _=>m _
theorem Yfq {t:TypeId} {v:Zag} (h:xt P t v k) (m:∀ v,k v→k' v):xt P t v k':=by
 unfold xt at *
 split at h
 ·exact Yha h fun _ h=>Ybj h fun _=>m _
 ·exact Zlb h m
theorem Ybk:∀ {ts:List TypeId} {cs:List Zag} {K K':List Zag→Prop},xts P ts cs K→(∀ v,K v→K' v)→xts P ts cs K'
 | [],_,_,_,h,m=>Zxq h (m _)
 | _ :: _,_,_,_,h,m=>Zvn h fun _ _ h=>Yfq h fun _ h=>Ybk h fun _=>m _
theorem Zxx {ts:List TypeId} {v:Zag} (h:Ykx P ts v k) (m:∀ v,k v→k' v):Ykx P ts v k':=by
 unfold Ykx at *
 split at h
 ·exact m _ h
 ·exact Yfq h m
 ·exact Yhg h fun _ h=>Ybk h fun _=>m _
theorem Ycz {t:TypeId} {h:Zaa} {p:Zag} (hh:Zsa P t h p k) (m:∀ v,k v→k' v):Zsa P t h p k':=by
 unfold Zsa at *
 split at hh
 ·exact Zez hh fun _ h=>Ybj h fun _=>m _
 ·exact Zlb hh m
theorem Ybd {t:TypeId} {h:Zaa} {p v:Zag} {K K':Zaa→Prop} (hh:Zvk P t h p v K) (m:∀ v,K v→K' v):Zvk P t h p v K':=by
 unfold Zvk at *
 split at hh
 ·split at hh
  ·exact Zuy hh m
  ·exact hh.elim
 ·exact hh.elim
theorem Ydm {a b:Option (Nat × Nat)} {K K':Bool→Prop} (h:Yaf a b K) (m:∀ b,K b→K' b):Yaf a b K':=by
 unfold Yaf at *
 split at h
 ·exact m _ h
 ·split at h
  ·exact m _ h
  ·exact h.elim
theorem Zix {a:Option (Nat × Nat)} {K K':Nat→Nat→Prop} (h:Zbf a K) (m:∀ b o,K b o→K' b o):Zbf a K':=by
 obtain ⟨b,o,rfl,h⟩:=Zbn h
 exact m _ _ h
theorem Ycp {t:TypeId} {x y:Zag} {K K':Bool→Prop} (h:eqA P t x y K) (m:∀ b,K b→K' b):eqA P t x y K':=by
 unfold eqA at *
 split at h <;> (try exact h.elim) <;> split at h <;> (try exact h.elim)
 ·exact Zby h (m _)
 ·exact m _ h
 ·exact Zby h (m _)
 ·exact Zby h fun h=>Ydm h m
 ·split at h
  ·exact m _ h
  ·exact h.elim
 ·exact Zby h fun h=>⟨h.1,m _ h.2⟩
theorem Yhf {op:BinOp} {t:TypeId} {x y:Zag} (h:Yig P op t x y k) (m:∀ v,k v→k' v):Yig P op t x y k':=by
 unfold Yig at *
 split at h
 ·exact Ycp h fun _=>m _
 ·exact Ycp h fun _=>m _
 ·split at h
  ·split at h
   ·split at h <;> first
     | exact h.elim
     | exact Zby h (m _)
     | exact Zby h fun h=>⟨h.1,m _ h.2⟩
     | exact ⟨h.1,m _ h.2⟩
   ·exact h.elim
  ·split at h
   ·split at h <;> first
     | exact h.elim
     | exact ⟨h.1,m _ h.2⟩
     | exact m _ h
   ·exact h.elim
  ·exact h.elim
theorem Zvi {t:TypeId} {cs:List Zag} {off:Nat} (h:Zuj P t cs off k) (m:∀ v,k v→k' v):Zuj P t cs off k':=by
 unfold Zuj at *
 split at h
 ·exact m _ h
 ·exact Zby h fun h=>Znn h m
theorem Ygh {ts:Array TypeId} {xs:List Zag} (h:Ykt P ts xs k) (m:∀ v,k v→k' v):Ykt P ts xs k':=by
 unfold Ykt at *
 split at h <;> first | exact h.elim | exact Zby h (m _)
theorem Yes {s d:TypeId} {x:Zag} (h:Yao P s d x k) (m:∀ v,k v→k' v):Yao P s d x k':=by
 unfold Yao at *
 split at h
 ·split at h <;> first | exact h.elim | exact Zby h (m _)
 ·split at h <;> first | exact h.elim | exact Zby h (m _) | exact Zby h fun h=>⟨h.1,m _ h.2⟩
 ·exact h.elim
theorem Yaw {t:TypeId} {x:Zag} {lo hi mx:Option Zag} (h:Zut P t x lo hi mx k) (m:∀ v,k v→k' v):Zut P t x lo hi mx k':=by
 unfold Zut at *
 split at h
 ·split at h
  ·exact Zby h fun h=>Zkc h fun _ h=>Zkc h fun _ h=>⟨h.1,m _ h.2⟩
  ·exact h.elim
 ·split at h
  ·refine Zby h fun h=>Zby h fun h=>Zkc h fun _ h=>Zkc h fun _ h=>Zkc h fun _ h=>⟨h.1,?_⟩
   have h2:=h.2
   split at h2
   ·exact ⟨h2.1,m _ h2.2⟩
   ·exact ⟨fun a=>m _ (h2.1 a),fun a=>m _ (h2.2 a)⟩
  ·exact h.elim
 ·exact h.elim
theorem Zoj {env:Env} {o:Oper} (h:Zok P env o k) (m:∀ v,k v→k' v):Zok P env o k':=by
 obtain ⟨dst,op,type,pos,after,guard⟩:=o
 unfold Zok at *
 cases op <;> simp only at h ⊢ <;> (try exact h.elim)
 case move x=>exact m _ h
 case assign x=>exact m _ h
 case pick c a b=>
  unfold Yfc at *
  split at h
  ·exact Ydh h (m _) (m _)
  ·exact h.elim
 case nilCheck x=>
  unfold Yot at *
  split at h <;> first | exact h.elim | exact m _ h | exact Zix h fun _ _=>m _
 case fieldAddr t x i=>
  unfold Zlt at *
  split at h
  ·exact Zsn h fun _ h=>Zby h fun h=>Zby h fun h=>Zix h fun _ _=>m _
  ·exact h.elim
 case field t x i=>
  unfold Zym at *
  split at h
  ·exact Zsn h fun _ h=>Zvi h m
  ·exact h.elim
 case indexAddr t x i=>
  unfold Zlw at *
  split at h
  ·split at h
   ·split at h <;> first | exact h.elim | exact Zby h fun h=>⟨h.1,Zix h.2 fun _ _=>m _⟩
   ·split at h <;> first | exact h.elim | exact Zby h fun h=>⟨h.1,Zix h.2 fun _ _=>m _⟩
   ·exact h.elim
  ·exact h.elim
 case index t x i=>
  unfold Zxo at *
  split at h
  ·split at h
   ·split at h
    ·exact ⟨h.1,m _ h.2⟩
    ·exact h.elim
   ·split at h
    ·exact Zby h fun h=>⟨h.1,Zvi h.2 m⟩
    ·exact h.elim
   ·exact h.elim
  ·exact h.elim
 case slice t x lo hi mx=>exact Yaw h m
 case binOp op t x y yt=>exact Yhf h m
 case unOp op t x=>
  unfold unA at *
  split at h
  ·split at h <;> first | exact h.elim | exact m _ h
  ·split at h <;> first | exact h.elim | exact m _ h
  ·exact h.elim
 case convert s d x=>exact Yes h m
 case extract x i=>
  unfold Zpp at *
  split at h
  ·exact Znn h m
  ·exact h.elim
 case makeFunc fn first caps=>
  cases fn <;> simp only at h ⊢ <;> first | exact h.elim | exact Zby h (m _)
 case call c=>
  split at h
  ·exact Ygh h m
  ·exact h.elim
theorem Zts {h:Zaa} {j:Nat} {e:TypeId} {A B:List Zag→Prop} (hh:Zon h j e A) (m:∀ cs,A cs→B cs):Zon h j e B:=by
 unfold Zon at *
 split at hh
 ·exact ⟨hh.1,m _ hh.2⟩
 ·exact hh.elim
theorem Zyw {t:TypeId} {h:Zaa} {s x:Zag} (hh:Zdv P t h s x K) (m:∀ v h,K v h→K' v h):Zdv P t h s x K':=by
 unfold Zdv at *
 split at hh <;> (try exact hh.elim)
 split at hh <;> (try exact hh.elim)
 split at hh <;> (try exact hh.elim)
 refine Zez hh fun new h=>⟨h.1,?_⟩
 have h2:=h.2
 split at h2
 ·exact ⟨fun a=>m _ _ (h2.1 a),fun a=>⟨(h2.2 a).1,m _ _ (h2.2 a).2⟩⟩
 ·rcases h2 with ⟨a,b⟩ | ⟨a,b⟩ | ⟨a,b⟩
  ·exact .inl ⟨a,Zts b fun _ h=>⟨h.1,m _ _ h.2⟩⟩
  ·exact .inr (.inl ⟨a,Zts b fun _ h=>⟨h.1,m _ _ h.2⟩⟩)
  ·exact .inr (.inr ⟨a,Zez b fun _=>m _ _⟩)
theorem Zsw:∀ {cs:List Zag} {K K':List Nat→Prop},Znw cs K→(∀ s,K s→K' s)→Znw cs K'
 | [],_,_,h,m=>m _ h
 | .int k n :: r,_,_,h,m=>by
  unfold Znw at *
  exact Zby h fun h=>⟨h.1,Zsw h.2 fun _=>m _⟩
 | .undef :: _,_,_,h,_ | .bool _ :: _,_,_,h,_ | .str _ :: _,_,_,h,_ | .ptr _ :: _,_,_,h,_ | .slice .. :: _,_,_,h,_ | .map _ :: _,_,_,h,_ | .fn .. :: _,_,_,h,_ | .nilFn :: _,_,_,h,_ | .iter _ :: _,_,_,h,_
 | .agg _ :: _,_,_,h,_ | .tup _ :: _,_,_,h,_=>by unfold Znw at h; exact h.elim
theorem Yhu {s d:TypeId} {h:Zaa} {x:Zag} {K K':Zag→Prop} (hh:Ymz P s d h x K) (m:∀ v,K v→K' v):Ymz P s d h x K':=by
 unfold Ymz at *
 split at hh
 ·refine Zby hh fun h=>?_
  split at h
  ·exact Zez h fun _ h=>Zsw h fun _=>m _
  ·exact h.elim
 ·exact hh.elim
theorem Yhc {x y:Zag} {K K':Zag→Prop} (hh:Ymy x y K) (m:∀ v,K v→K' v):Ymy x y K':=by
 unfold Ymy at *
 split at hh
 ·split at hh
  ·exact Zby hh (m _)
  ·exact hh.elim
 ·exact hh.elim
theorem Ztq {t:TypeId} {a b:Zag} {h:Zaa} {K K':Zag→Zaa→Prop} (hh:Zjz P t a b h K) (m:∀ v h,K v h→K' v h):Zjz P t a b h K':=by
 unfold Zjz at *
 split at hh
 ·refine Zez hh fun _ h=>Zby h fun h=>?_
  unfold Zco at *
  split at h
  ·refine ⟨h.1,?_⟩
   replace h:=h.2
   split at h
   ·exact ⟨h.1,h.2.1,m _ _ h.2.2⟩
   ·exact h.elim
  ·exact h.elim
 ·exact hh.elim
theorem Zfd {h:Zaa} {m:Option Nat} {K K':List ME→Nat→Prop} (hh:Zdm h m K) (m':∀ a b,K a b→K' a b):Zdm h m K':=by
 unfold Zdm at *
 split at hh
 ·exact m' _ _ hh
 ·split at hh
  ·exact m' _ _ hh
  ·exact hh.elim
theorem Ydr {es:List ME} {s:List Nat} {K K':Option Zag→Prop} (hh:Ztr es s K) (m:∀ a,K a→K' a):Ztr es s K':=by
 unfold Ztr at *; split at hh <;> first | exact m _ hh | exact hh.elim
theorem Yhs {es:List ME} {clk:Nat} {s:List Nat} {v:Zag} {K K':List ME→Nat→Prop} (hh:Ylc es clk s v K) (m:∀ a b,K a b→K' a b):Ylc es clk s v K':=by
 unfold Ylc at *; split at hh <;> first | exact m _ _ hh | exact hh.elim
theorem Zsh {m:Option Nat} {K K':Nat→Prop} (hh:xMp m K) (mm:∀ a,K a→K' a):xMp m K':=by
 unfold xMp at *; split at hh <;> first | exact mm _ hh | exact hh.elim
theorem Ydw {h:Zaa} {r:Nat} {K K':List Nat→Nat→Prop} (hh:Yee h r K) (m:∀ a b,K a b→K' a b):Yee h r K':=by
 unfold Yee at *; split at hh <;> first | exact m _ _ hh | exact hh.elim
theorem Ztn {h:Zaa} {r:Nat} {K K':Option Nat→Nat→List Nat→Nat→Prop} (hh:Zss h r K) (m:∀ a b c d,K a b c d→K' a b c d):Zss h r K':=by
 unfold Zss at *; split at hh <;> first | exact m _ _ _ _ hh | exact hh.elim
theorem Zye {t:TypeId} {h:Zaa} {x i:Zag} {ok:Bool} (hh:Zqz P t h x i ok k) (m:∀ v,k v→k' v):Zqz P t h x i ok k':=by
 unfold Zqz at *
 split at hh
 ·refine Zby hh fun h=>?_
  split at h
  ·exact Ztv h fun _ h=>Znn h fun _ h=>Zfd h fun _ _ h=>Ydr h fun _ h=>Zlb h fun _=>m _
  ·exact h.elim
 ·exact hh.elim
theorem Zso {t:TypeId} {h:Zaa} {x i v:Zag} (hh:Zjx P t h x i v K) (m:∀ v h,K v h→K' v h):Zjx P t h x i v K':=by
 unfold Zjx at *
 split at hh
 ·refine Zby hh fun h=>?_
  split at h
  ·exact Zsh h fun _ h=>Ztv h fun _ h=>Zfd h fun _ _ h=>Yhs h fun _ _=>m _ _
  ·exact h.elim
 ·exact hh.elim
theorem Zvv {t:TypeId} {r:Option Zag} {h:Zaa} (hh:Zoi P t r h K) (m:∀ v h,K v h→K' v h):Zoi P t r h K':=by
 unfold Zoi at *
 split at hh <;> first | exact m _ _ hh | exact Zby hh (m _ _) | exact hh.elim
theorem Zzv {t:TypeId} {x:Zag} {h:Zaa} (hh:Zuw P t x h K) (m:∀ v h,K v h→K' v h):Zuw P t x h K':=by
 unfold Zuw at *
 split at hh <;> first | exact hh.elim | exact Zby hh (m _ _) | exact Zby hh fun h=>Zfd h fun _ _=>m _ _
theorem Yfx {m:Option Nat} {A B A' B':Prop} (hh:Yos m A B) (p:A→A') (q:B→B'):Yos m A' B':=by
 unfold Yos at *; split at hh <;> first | exact p hh | exact q hh
theorem Ydp {ty:TypeId} {x:Zag} {st:Bool} {h:Zaa} (hh:Yec P ty x st h K) (m:∀ v h,K v h→K' v h):Yec P ty x st h K':=by
 unfold Yec at *
 split at hh
 ·split at hh
  ·exact Ydw hh fun _ _ h=>⟨fun a=>⟨(h.1 a).1,m _ _ (h.1 a).2⟩,fun a=>m _ _ (h.2 a)⟩
  ·exact Ztn hh fun _ _ _ _ h=>Yfx h (m _ _) fun h=>Zfd h fun _ _ h=>⟨h.1,fun a=>m _ _ (h.2.1 a),fun e he hn=>Zlb (h.2.2 e he hn) fun _ h=>Zlb h fun _=>m _ _⟩
 ·exact hh.elim
theorem Ybh {ty:TypeId} {x:Zag} {h:Zaa} (hh:Zvo P ty x h k) (m:∀ v,k v→k' v):Zvo P ty x h k':=by
 unfold Zvo at *
 split at hh
 ·exact Ztn hh fun _ _ _ _ h=>Zsh h fun _ h=>Zfd h fun _ _ h=>⟨h.1,h.2.imp fun _ h=>⟨h.1,h.2.imp fun _ h=>⟨h.1,Zlb h.2 fun _ h=>Zlb h fun _=>m _⟩⟩⟩
 ·exact hh.elim
theorem Ztf {h:Zaa} {a b:Option (Nat × Nat)} {K K':Bool→Prop} (hh:Zrq h a b K) (m:∀ e,K e→K' e):Zrq h a b K':=by
 unfold Zrq at *
 split at hh
 ·exact m _ hh
 ·split at hh
  ·exact m _ hh
  ·exact hh.imp (fun h=>⟨h.1,m _ h.2⟩) fun h=>⟨h.1,h.2.1,h.2.2.1,m _ h.2.2.2⟩
theorem Yfi {op:BinOp} {t:TypeId} {h:Zaa} {a b:Option (Nat × Nat)} (hh:Ykq P op t h a b K) (m:∀ v h,K v h→K' v h):Ykq P op t h a b K':=by
 unfold Ykq at *
 split at hh
 ·exact Zby hh fun h=>Ztf h fun _=>m _ _
 ·exact Zby hh fun h=>Ztf h fun _=>m _ _
 ·exact hh.elim
theorem Yed {r:Option (Option (Nat × Zag))} {K K':Option Zag→Prop} (hh:Zsv r K) (m:∀ e,K e→K' e):Zsv r K':=by
 unfold Zsv at *; split at hh <;> first | exact m _ hh | exact hh.elim
theorem Yex {r:Option (Option (Nat × Zag))} {es:List ME} {clk:Nat} {p:Nat × Nat} {v:Zag} {K K':List ME→Nat→Prop} (hh:Yir r es clk p v K) (m:∀ a b,K a b→K' a b):Yir r es clk p v K':=by
 unfold Yir at *; split at hh <;> first | exact m _ _ hh | exact hh.elim
theorem Ygu {r:Option (Option (Nat × Zag))} {es:List ME} {K K':List ME→Prop} (hh:Yki r es K) (m:∀ a,K a→K' a):Yki r es K':=by
 unfold Yki at *; split at hh <;> first | exact m _ hh | exact hh.elim
theorem Zvt {t:TypeId} {h:Zaa} {x i:Zag} {ok:Bool} (hh:Zog P t h x i ok k) (m:∀ v,k v→k' v):Zog P t h x i ok k':=by
 unfold Zog at *
 split at hh
 ·refine Zby hh fun h=>?_
  split at h
  ·exact Znx h fun _ h=>Zix h fun _ _ h=>Znn h fun _ h=>Zfd h fun _ _ h=>Yed h fun _ h=>Zlb h fun _=>m _
  ·exact h.elim
 ·exact hh.elim
theorem Zrw {t:TypeId} {h:Zaa} {x i v:Zag} (hh:Ziw P t h x i v K) (m:∀ v h,K v h→K' v h):Ziw P t h x i v K':=by
 unfold Ziw at *
 split at hh
 ·refine Zby hh fun h=>?_
  split at h
  ·exact Zsh h fun _ h=>Znx h fun _ h=>Zix h fun _ _ h=>Zfd h fun _ _ h=>Yex h fun _ _=>m _ _
  ·exact h.elim
 ·exact hh.elim
theorem Zxw {t:TypeId} {h:Zaa} {x i:Zag} (hh:Zrf P t h x i K) (m:∀ v h,K v h→K' v h):Zrf P t h x i K':=by
 unfold Zrf at *
 split at hh
 ·refine Zby hh fun h=>?_
  split at h
  ·exact Zsh h fun _ h=>Znx h fun _ h=>Zix h fun _ _ h=>Zfd h fun _ _ h=>Ygu h fun _=>m _ _
  ·exact h.elim
 ·exact hh.elim
theorem Yik {env:Env} {h:Zaa} {o:Oper} (hh:opA P env h o K) (m:∀ v h,K v h→K' v h):opA P env h o K':=by
 obtain ⟨dst,op,type,pos,after,guard⟩:=o
 unfold opA at *
 cases op <;> simp only at hh ⊢
 case load t a=>exact Zby hh fun h=>Ycz h fun _=>m _ _
 case store t a x=>exact Zby hh fun h=>Ybd h fun _=>m _ _
 case alloc t=>exact Zez hh fun _=>m _ _
 case box t x=>exact Zez hh fun _=>m _ _
 case build t ps=>
  refine Zez hh fun _ h=>?_
  split at h
  ·exact Zby h fun h=>Zez h fun _=>m _ _
  ·exact Zby h fun h=>Zez h fun _=>m _ _
  ·exact h.elim
 case buildSlice t n ps=>
  unfold Zmp at *
  split at hh
  ·exact Zez hh fun _ h=>Zby h fun h=>Zez h fun _=>m _ _
  ·exact hh.elim
 case call c=>
  unfold Yht at *
  split at hh
  ·split at hh
   ·exact Zad.mono hh fun _ _ h=>Zxx h fun _=>m _ _
   ·unfold Ypl Yph at *
    split at hh
    ·exact Zad.mono hh fun _ _ h=>Zxx h fun _=>m _ _
    ·exact hh.elim
  ·split at hh
   ·refine Zby hh fun h=>?_
    split at h
    ·exact Zyw h fun _ _ h=>Zlb h fun _=>m _ _
    ·exact h.elim
   ·exact hh.elim
  ·split at hh
   ·exact Yhc hh fun _=>m _ _
   ·exact hh.elim
  ·split at hh
   ·split at hh
    ·unfold Ycl at *
     split at hh
     ·split at hh
      ·refine ⟨fun h0=>m _ _ (hh.1 h0),fun h0=>Zez (hh.2 h0) fun _ h=>Zby h fun h=>Zuy h fun _=>m _ _⟩
      ·exact hh.elim
     ·exact hh.elim
    ·exact hh.elim
   ·exact hh.elim
  ·split at hh
   ·split at hh
    ·exact Zxw hh m
    ·exact hh.elim
   ·exact hh.elim
  ·exact Zoj hh fun _=>m _ _
 case makeSlice t l c=>exact Ztq hh m
 case makeMap t r=>exact Zvv hh m
 case lookup t x i ok=>
  split at hh
  ·exact Zvt hh fun _=>m _ _
  ·exact Zye hh fun _=>m _ _
 case mapUpdate t mm k v=>
  split at hh
  ·exact Zrw hh m
  ·exact Zso hh m
 case binOp op t x y yt=>
  split at hh
  ·exact Znx hh fun _ h=>Yfi h m
  ·exact Zoj hh fun _=>m _ _
 case range t x=>exact Zzv hh m
 case next x st=>exact Ydp hh m
 case entry x=>exact Ybh hh fun _=>m _ _
 case convert s d x=>
  split at hh
  ·exact Yhu hh fun _=>m _ _
  ·exact Zoj hh fun _=>m _ _
 all_goals exact Zoj hh fun _=>m _ _
end
end Go.Sim

set_option linter.unusedSimpArgs false
namespace Go.Sim
open Go Go.RowKit

def Det {α:Type} (F:(α→Prop)→Prop):Prop:=∀ k,F k→∃ v,k v∧∀ k',k' v→F k'
theorem Det.ret {α:Type} (a:α):Det (fun k=>k a):=fun _ h=>⟨a,h,fun _ h=>h⟩
theorem Det.no {α:Type}:Det (fun _:α→Prop=>False):=fun _ h=>h.elim
theorem Det.and {α:Type} {p:Prop} {F:(α→Prop)→Prop} (d:Det F):Det (fun k=>p∧F k):=fun k ⟨hp,h⟩=>let ⟨v,hv,r⟩:=d k h; ⟨v,hv,fun k' h'=>⟨hp,r k' h'⟩⟩
theorem Det.chk {α:Type} {p:Prop} [Decidable p] {F:(α→Prop)→Prop} (d:Det F):Det (fun k=>chk p (F k)):=fun k h=>by
 have ⟨hp,h⟩:=Zbi h
 obtain ⟨v,hv,r⟩:=d k h
 exact ⟨v,hv,fun k' h'=>by unfold Sim.chk; rw [decide_eq_true hp]; exact r k' h'⟩
theorem Det.bind {α β:Type} {F:(α→Prop)→Prop} {G:α→(β→Prop)→Prop} (d:Det F) (e:∀ a,Det (G a)):Det (fun k=>F fun a=>G a k):=fun k h=>by
 obtain ⟨a,ha,r⟩:=d _ h
 obtain ⟨b,hb,q⟩:=e a k ha
 exact ⟨b,hb,fun k' h'=>r _ (q k' h')⟩
theorem Det.map {α β:Type} {F:(α→Prop)→Prop} (d:Det F) (f:α→β):Det (fun k=>F fun a=>k (f a)):=d.bind fun a=>Det.ret (f a)
theorem Det.bcase {α:Type} {b:Bool} {F G:(α→Prop)→Prop} (d:Det F) (e:Det G):Det (fun k=>bcase b (F k) (G k)):=by cases b <;> assumption

section
variable {P:Program}
theorem Ygq (s:Sh) (o:Option Zag):Det (xv s o):=by
 intro k h
 cases s <;> simp only [xv,Zbw,Zcb,Zfw,xSl,Yeu,Zzn,Zco] at * <;> split at h <;> first
  | exact h.elim
  | exact ⟨_,h,fun _ h=>h⟩
  | exact ⟨_,h.2,fun _ h'=>⟨h.1,h'⟩⟩
theorem Yco (o:Option Zag):Det (Zzn o):=Ygq .any o
theorem Zsj (o:Option (List Zag)):Det (Zcy o):=fun k h=>by
 unfold Zcy at *; split at h <;> first | exact ⟨_,h,fun _ h=>h⟩ | exact h.elim
theorem Ykp:∀ (ss:List Sh) (cs:List Zag),Det (xs ss cs)
 | [],cs=>fun k h=>by
  simp only [xs,Zcq] at *; split at h <;> first | exact ⟨_,h,fun _ h=>h⟩ | exact h.elim
 | s :: ss,cs=>fun k h=>by
  simp only [xs,Zam] at *
  split at h
  ·exact ((Ygq s _).bind (G:=fun v k=>xs ss _ fun vs=>k (v :: vs)) fun v=>(Ykp ss _).map (v :: ·)) k h
  ·exact h.elim
theorem Ygn (t:TypeId) (h:Zaa) (p:Zag):Det (Zsa P t h p):=by
 intro k hh
 unfold Zsa at *
 split at hh
 ·exact ((Zsj _).bind (G:=fun cs k=>xs _ cs fun vs=>k (.agg vs)) fun cs=>(Ykp _ cs).map Zag.agg) k hh
 ·exact Ygq _ _ k hh
theorem Yfu (a b:Option (Nat × Nat)):Det (Yaf a b):=by
 intro k h
 unfold Yaf at *
 split at h
 ·exact ⟨_,h,fun _ h=>h⟩
 ·split at h
  ·exact ⟨_,h,fun _ h=>h⟩
  ·exact h.elim
theorem Zpx (a:Option (Nat × Nat)) (f:Nat→Nat→Zag):Det (fun k:Zag→Prop=>Zbf a fun b o=>k (f b o)):=by
 intro k h
 obtain ⟨b,o,rfl,h⟩:=Zbn h
 exact ⟨_,h,fun _ h=>h⟩
theorem Yif (t:TypeId) (x y:Zag):Det (eqA P t x y):=by
 intro k h
 unfold eqA at *
 split at h <;> (try exact h.elim) <;> split at h <;> (try exact h.elim)
 ·exact (Det.ret _).chk k h
 ·exact ⟨_,h,fun _ h=>h⟩
 ·exact (Det.ret _).chk k h
 ·exact (Yfu _ _).chk k h
 ·split at h
  ·exact ⟨_,h,fun _ h=>h⟩
  ·exact h.elim
 ·exact (Det.ret _).and.chk k h
theorem Yjg (op:BinOp) (t:TypeId) (x y:Zag):Det (Yig P op t x y):=by
 intro k h
 unfold Yig at *
 split at h
 ·exact (Yif t x y).map _ k h
 ·exact (Yif t x y).map _ k h
 ·split at h
  ·split at h
   ·split at h <;> first
     | exact h.elim
     | exact (Det.ret _).chk k h
     | exact (Det.ret _).and.chk k h
     | exact (Det.ret _).and k h
   ·exact h.elim
  ·split at h
   ·split at h <;> first
     | exact h.elim
     | exact (Det.ret _).and k h
     | exact ⟨_,h,fun _ h=>h⟩
   ·exact h.elim
  ·exact h.elim
theorem Zzm (t:TypeId) (cs:List Zag) (off:Nat):Det (Zuj P t cs off):=by
 intro k h
 unfold Zuj at *
 split at h
 ·exact ⟨_,h,fun _ h=>h⟩
 ·exact (Yco _).chk k h
theorem Zmd (o:Option Zag) (d:Int):Det (Zjm o d):=fun k h=>by
 unfold Zjm at *; split at h <;> first | exact ⟨_,h,fun _ h=>h⟩ | exact h.elim
theorem Zys (o:Option Field):Det (Zoy o):=fun k h=>by
 unfold Zoy at *; split at h <;> first | exact ⟨_,h,fun _ h=>h⟩ | exact h.elim
theorem Zza (s:List Nat) (lo hi:Option Zag):Det (Zpn s lo hi):=by
 unfold Zpn
 exact (Zmd hi s.length).bind fun h=>(Zmd lo 0).bind fun l=>(Det.ret _).and
theorem Yah (a:Option (Nat × Nat)) (len cap:Nat) (ex:Bool) (sz:Nat) (lo hi mx:Option Zag):Det (Zms a len cap ex sz lo hi mx):=by
 unfold Zms
 refine (Zmd mx cap).bind fun m=>(Zmd hi len).bind fun h=>(Zmd lo 0).bind fun l=>Det.and ?_
 intro k hk
 split at hk
 ·exact (Det.ret _).and k hk
 ·rename_i b o
  by_cases hlm:l < m
  ·exact ⟨_,hk.1 hlm,fun k' h'=>⟨fun _=>h',fun h=>absurd hlm h⟩⟩
  ·exact ⟨_,hk.2 hlm,fun k' h'=>⟨fun h=>absurd h hlm,fun _=>h'⟩⟩
theorem Yhz (env:Env) (o:Oper):Det (Zok P env o):=by
 intro k h
 obtain ⟨dst,op,type,pos,after,guard⟩:=o
 unfold Zok at *
 cases op <;> simp only at h ⊢ <;> (try exact h.elim)
 case move x=>exact ⟨_,h,fun _ h=>h⟩
 case assign x=>exact ⟨_,h,fun _ h=>h⟩
 case pick c a b=>
  unfold Yfc at *
  split at h
  ·exact (Det.ret _).bcase (Det.ret _) k h
  ·exact h.elim
 case nilCheck x=>
  unfold Yot at *
  split at h <;> first | exact h.elim | exact ⟨_,h,fun _ h=>h⟩ | exact Zpx _ (fun b o=>.ptr (some (b,o))) k h
 case fieldAddr t x i=>
  unfold Zlt at *
  split at h
  ·rename_i a _
   exact (Det.bind (F:=Zoy (Ztk P t i)) (G:=fun (f:Field) (k:Zag→Prop)=>chk ((P.underlying f.type).isSome=true) (chk (P.cellsOf f.type≠0) (Zbf a fun b o=>k (Zag.ptr (some (b,o + f.offset)))))) (Zys _) fun f=>Det.chk (Det.chk (Zpx a fun b o=>Zag.ptr (some (b,o + f.offset))))) k h
  ·exact h.elim
 case field t x i=>
  unfold Zym at *
  split at h
  ·exact (Zys _).bind (G:=fun f k=>Zuj P f.type _ f.offset k) (fun f=>Zzm _ _ _) k h
  ·exact h.elim
 case indexAddr t x i=>
  unfold Zlw at *
  split at h
  ·split at h
   ·split at h <;> first | exact h.elim | exact (Zpx _ (fun b o=>Zag.ptr (some (b,o + _)))).and.chk k h
   ·split at h <;> first | exact h.elim | exact (Zpx _ (fun b o=>Zag.ptr (some (b,o + _)))).and.chk k h
   ·exact h.elim
  ·exact h.elim
 case index t x i=>
  unfold Zxo at *
  split at h
  ·split at h
   ·split at h
    ·exact (Det.ret _).and k h
    ·exact h.elim
   ·split at h
    ·exact (Zzm _ _ _).and.chk k h
    ·exact h.elim
   ·exact h.elim
  ·exact h.elim
 case slice t x lo hi mx=>
  unfold Zut at *
  split at h
  ·split at h
   ·exact (Zza _ _ _).chk k h
   ·exact h.elim
  ·split at h
   ·exact (Yah _ _ _ _ _ _ _ _).chk.chk k h
   ·exact h.elim
  ·exact h.elim
 case binOp op t x y yt=>exact Yjg _ _ _ _ k h
 case unOp op t x=>
  unfold unA at *
  split at h
  ·split at h <;> first | exact h.elim | exact ⟨_,h,fun _ h=>h⟩
  ·split at h <;> first | exact h.elim | exact ⟨_,h,fun _ h=>h⟩
  ·exact h.elim
 case convert s d x=>
  unfold Yao at *
  split at h
  ·split at h <;> first | exact h.elim | exact (Det.ret _).chk k h
  ·split at h <;> first | exact h.elim | exact (Det.ret _).chk k h | exact (Det.ret _).and.chk k h
  ·exact h.elim
 case extract x i=>
  unfold Zpp at *
  split at h
  ·exact Yco _ k h
  ·exact h.elim
 case makeFunc fn first caps=>
  cases fn <;> simp only at h ⊢ <;> first | exact h.elim | exact (Det.ret _).chk k h
 case call c=>
  split at h
  ·unfold Ykt at *
   split at h <;> first | exact h.elim | exact (Det.ret _).chk k h
  ·exact h.elim

def Zwo (P:Program) (op:Op):Bool:=
 match op with
 | .binOp _ t _ y _=>(match Zpz P t with | false=>true | true=>Yks y && Zni P t)
 | .move _ | .assign _ | .pick .. | .unOp .. | .nilCheck _ | .extract .. | .field .. | .fieldAddr .. | .indexAddr .. | .index .. | .slice .. | .makeFunc .. | .build ..=>true
 | .call c=>(match c.callee with | .builtin .len=>true | _=>false)
 | .convert s _ _=>!Ydi P s
 | _=>false
def Yix (op:Op):Bool:=match op with | .load ..=>true | _=>false
def Yap (P:Program) (env:Env) (o:Oper) (k:Zag→Prop):Prop:=
 match o.op with
 | .build t ps=>Yho P t (parts env ps) k
 | _=>Zok P env o k
theorem Yhp (env:Env) (o:Oper):Det (Yap P env o):=by
 intro k h
 unfold Yap at *
 split at h
 ·refine (Zsj _).bind (G:=fun z k=>_) (fun z=>?_) k h
  intro k h
  split at h
  ·exact ((Zsj _).map _).chk k h
  ·exact ((Zsj _).map _).chk k h
  ·exact h.elim
 ·exact Yhz env o k h
theorem Ztp {env:Env} {h:Zaa} {o:Oper} (hr:Zwo P o.op=true) {K:Zag→Zaa→Prop}:opA P env h o K ↔ Yap P env o fun v=>K v h:=by
 obtain ⟨dst,op,type,pos,after,guard⟩:=o
 cases op <;> simp only [Zwo,Bool.false_eq_true] at hr <;> try (simp only [opA,Yap]; done)
 case call c=>
  simp only [opA,Yap,Yht]
  split at hr
  ·rename_i hc; simp [hc]
  ·cases hr
 case convert s d x=>
  simp only [Bool.not_eq_true'] at hr
  simp only [opA,Yap,hr]
 case binOp op t x y yt=>
  simp only [opA,Yap,Zok]
  cases hx:ev env x <;> try exact Iff.rfl
  cases hy:ev env y <;> try (cases op <;> exact Iff.rfl)
  rename_i a b
  simp only [Zfw]
  have hRT:Zni P t=true→Zpz P t=true:=fun h=>by
   obtain ⟨e,j,hu,_⟩:=Zoa h
   unfold Zpz; rw [hu]
  have hno:∀ (p:Prop) [Decidable p] (q:Prop),¬ p→(Sim.chk p q ↔ False):=fun p _ q h=>⟨fun hc=>h (Zbi hc).1,fun h=>h.elim⟩
  have hyes:∀ (p:Prop) [Decidable p] (q:Prop),p→(Sim.chk p q ↔ q):=fun p _ q h=>⟨fun hc=>(Zbi hc).2,fun hq=>by unfold Sim.chk; rw [decide_eq_true h]; exact hq⟩
  cases hT:Zpz P t with
  | false=>
   have hR:¬ Zni P t=true:=fun h=>by rw [hRT h] at hT; cases hT
   have hT':¬ Zpz P t=true:=by rw [hT]; simp
   cases op <;> simp only [Ykq,Yig,eqA] <;> first | exact Iff.rfl | (rw [hno _ _ hR,hno _ _ hT'])
  | true=>
   rw [hT] at hr
   simp only [Bool.and_eq_true] at hr
   have hb:b=none:=by
    have:=hr.1
    unfold Yks at this
    split at this
    ·simp [ev,cst,Znv] at hy; exact hy.symm
    ·cases this
   subst hb
   cases op <;> simp only [Ykq,Yig,eqA] <;> first | exact Iff.rfl | (rw [hyes _ _ hr.2,hyes _ _ hT]; exact Iff.rfl)

theorem Zty {env env':Env} {ps:Array (Nat × Operand)} (hx:∀ x∈ps.map (·.2),ev env x=ev env' x):parts env ps=parts env' ps:=by
 unfold parts
 refine List.map_congr_left fun p hp=>?_
 rw [hx p.2 (Array.mem_map.2 ⟨p,by simpa using hp,rfl⟩)]
theorem Zvm {env env':Env} {xs:Array Operand} (hx:∀ x∈xs,ev env x=ev env' x):xs.toList.map (ev env)=xs.toList.map (ev env'):=
 List.map_congr_left fun x hp=>hx x (by simpa using hp)
theorem Zth {env env':Env} {h:Zaa} {o:Oper} (hx:∀ x∈o.op.operands,ev env x=ev env' x) {K:Zag→Zaa→Prop}:opA P env h o K ↔ opA P env' h o K:=by
 obtain ⟨dst,op,type,pos,after,guard⟩:=o
 cases op <;> simp only [Op.operands] at hx <;> simp only [opA,Zok]
 case build t ps=>rw [Zty fun x h=>hx x (by simpa using h)]
 case buildSlice t n ps=>rw [Zty fun x h=>hx x (by simpa using h)]
 case makeFunc fn first caps=>
  have hc:=Zvm (xs:=caps) fun x h=>hx x (by simp [h])
  cases fn <;> simp only [hc]
 case call c=>
  simp only [Call.operands] at hx
  have ha:c.args.toList.map (ev env)=c.args.toList.map (ev env'):=Zvm fun x h=>hx x (by simp [h])
  simp only [Yht,Zok,ha]
  cases hc:c.callee with
  | value f=>
   have hf:ev env f=ev env' f:=hx f (by simp [hc])
   cases f <;> simp only [hf]
  | invoke r m=>exact Iff.rfl
  | builtin b=>cases b <;> exact Iff.rfl
 case slice t x lo hi mx=>
  cases lo <;> cases hi <;> cases mx <;> simp_all
 case makeMap t r=>cases r <;> simp_all
 all_goals (first | rfl | (simp_all; done))
end
end Go.Sim

set_option linter.unusedSimpArgs false
namespace Go.Sim
open Go Go.RowKit

structure Zvg where
 i:Nat
 p:Zag
 n:Option Nat
def Zvg.ok (d:Zvg) (h h':Zaa):Prop:=match d.n with | none=>Zaf h' d.p=Zaf h d.p | some n=>Zbo h' d.p n=Zbo h d.p n
theorem Zvg.ok_refl (d:Zvg) (h:Zaa):d.ok h h:=by unfold Zvg.ok; split <;> rfl
def Znq (ops:Array Oper) (j i:Nat):Bool:=match ops[j]? with | some o=>o.after.any (fun e=>Region.binds .any e && e.on == i) | none=>false
def Zxs (ops:Array Oper) (j:Nat):List Zvg→Zaa→Zaa→Prop→Prop
 | [],_,_,K=>K
 | d :: r,h,h',K=>(match Znq ops j d.i with | true=>Zxs ops j r h h' K | false=>d.ok h h'∧Zxs ops j r h h' K)
theorem Zmo {ops:Array Oper} {j:Nat}:∀ {hs:List Zvg} {h h':Zaa} {K:Prop},Zxs ops j hs h h' K→(∀ d∈hs,Znq ops j d.i=true ∨ d.ok h h')∧K
 | [],_,_,_,hk=>⟨by simp,hk⟩
 | d :: r,h,h',K,hk=>by
  unfold Zxs at hk
  split at hk
  ·rename_i hw
   obtain ⟨a,b⟩:=Zmo hk
   exact ⟨fun x hx=>by rcases List.mem_cons.1 hx with rfl | hx; exact .inl hw; exact a x hx,b⟩
  ·obtain ⟨ho,hk⟩:=hk
   obtain ⟨a,b⟩:=Zmo hk
   exact ⟨fun x hx=>by rcases List.mem_cons.1 hx with rfl | hx; exact .inr ho; exact a x hx,b⟩

def Zrx (P:Program) (N:Nat) (ops:Array Oper) (i:Nat) (env:Env) (h:Zaa) (K:Env→Zaa→Prop):Prop:=
 match ops[i]? with | some o=>Zkp P N ops env h o K | none=>K env h
def Znh (P:Program) (ops:Array Oper) (i:Nat) (env:Env):Zvg:=
 match ops[i]? with
 | some o=>(match o.op with
  | .load t a=>(match isAgg P t with | true=>⟨i,ev env a,some (P.cellsOf t)⟩ | false=>⟨i,ev env a,none⟩)
  | _=>⟨i,.undef,none⟩)
 | none=>⟨i,.undef,none⟩
def Yoo (ops:Array Oper) (f:Op→Bool) (i:Nat):Bool:=match ops[i]? with | some o=>f o.op | none=>false
def Yoy (f:Nat→Prop):List Nat→Prop
 | []=>True
 | [i]=>f i
 | i :: r=>f i∧Yoy f r
theorem Zxl {f:Nat→Prop}:∀ {l:List Nat},Yoy f l→∀ i∈l,f i
 | [],_,i,hi=>by simp at hi
 | [j],h,i,hi=>by simp at hi; subst hi; exact h
 | j :: k :: r,h,i,hi=>by
  rcases List.mem_cons.1 hi with rfl | hi
  ·exact h.1
  ·exact Zxl h.2 i hi
def Zzs (P:Program) (N:Nat) (ops:Array Oper) (ks:List Nat) (K:Env→Zaa→Prop):Nat→Array Bool→List Zvg→Env→Zaa→Prop
 | 0,listed,_,env,h=>(match Region.ready .any ops listed with | []=>K (env.keep ks) h | _=>False)
 | f + 1,listed,hs,env,h=>
  (match Region.ready .any ops listed with
  | []=>K (env.keep ks) h
  | rs=>(match rs.find? (fun i=>Yoo ops (Zwo P) i && Region.free .any ops listed i) with
   | some i=>Zrx P N ops i env h fun env' h'=>Zzs P N ops ks K f (listed.setIfInBounds i true) hs env' h'
   | none=>(match (match rs with | [_]=>none | _=>rs.find? (fun i=>Yoo ops Yix i && Region.free .any ops listed i)) with
    | some i=>Zrx P N ops i env h fun env' h'=>Zzs P N ops ks K f (listed.setIfInBounds i true) (Znh P ops i env :: hs) env' h'
    | none=>Yoy (fun i=>Zrx P N ops i env h fun env' h'=>Zxs ops i hs h h' (Zzs P N ops ks K f (listed.setIfInBounds i true) hs env' h')) rs)))

def Yju (P:Program) (N:Nat) (ops:Array Oper) (K:Env→Zaa→Prop) (hs:List Zvg):Nat→Array Bool→Env→Zaa→Prop
 | 0,listed,env,h=>Region.ready .any ops listed=[]∧K env h
 | f + 1,listed,env,h=>(Region.ready .any ops listed=[]→K env h) ∧
  ∀ i∈Region.ready .any ops listed,Zrx P N ops i env h fun env' h'=>(∀ d∈hs,Znq ops i d.i=true ∨ d.ok h h')∧Yju P N ops K hs f (listed.setIfInBounds i true) env' h'

def Yak (env env':Env):Prop:=∀ t,env.get t=env'.get t
def Zqv (o:Oper) (env:Env) (v:Zag) (env1:Env):Prop:=∀ t,env1.get t=if o.dst=some t then v else env.get t

section
variable {P:Program} {N:Nat} {ops:Array Oper}

theorem Ybc {env env':Env} {d:Option Tmp} {v:Zag} {K K':Env→Prop} (hk:Zor N env d v K)
  (hK:∀ env1 env1',(∀ t,env1.get t=if d=some t then v else env.get t)→(∀ t,env1'.get t=if d=some t then v else env'.get t)→K env1→K' env1'):Zor N env' d v K':=by
 unfold Zor at *
 cases d with
 | none=>exact hK env env' (by simp) (by simp) hk
 | some d=>
  refine Zby hk fun hk=>hK _ _ ?_ ?_ hk
  ·intro t; rw [Env.get_set]; by_cases e:t=d <;> simp [e,eq_comm]; exact fun q=>absurd q.symm e
  ·intro t; rw [Env.get_set]; by_cases e:t=d <;> simp [e,eq_comm]; exact fun q=>absurd q.symm e

theorem Zmr {env env':Env} {o:Oper} (hl:∀ t∈o.looksAt ops,env.get t=env'.get t):∀ x∈o.op.operands,ev env x=ev env' x:=fun x hx=>by
 cases x with
 | tmp t=>exact hl t (List.mem_append_left _ (List.mem_filterMap.2 ⟨.tmp t,by simpa using hx,rfl⟩))
 | _=>rfl
theorem Zfj {env:Env} {t:Nat} {v:Zag} (h:env.get t=v) (s:Nat):(env.set t v).get s=env.get s:=by
 rw [Env.get_set]; split
 ·rename_i e; subst e; exact h.symm
 ·rfl
theorem Ymt {env env':Env} {h h2:Zaa} {o:Oper} {K K':Env→Zaa→Prop} (hs:Zkp P N ops env h o K) (hl:∀ t∈o.looksAt ops,env.get t=env'.get t)
  (hop:∀ (e1 e2:Env),(∀ x∈o.op.operands,ev e1 x=ev e2 x)→(∀ t,e1.get t=env.get t)→∀ (A B:Zag→Zaa→Prop),opA P e1 h o A→(∀ v h',A v h'→B v h')→opA P e2 h2 o B)
  (hun:∀ e1 e2,Yak e1 env→Yak e2 env'→Zor N e1 o.dst (.tup []) (fun x=>K x h)→Zor N e2 o.dst (.tup []) (fun x=>K' x h2))
  (hK:∀ v h' env1 env1',Zqv o env v env1→Zqv o env' v env1'→K env1 h'→K' env1' h'):Zkp P N ops env' h2 o K':=by
 unfold Zkp at *
 cases hg:o.guard with
 | none=>
  simp only [hg] at hs ⊢
  exact hop env env' (Zmr hl) (fun _=>rfl) _ _ hs fun v h' hp=>Ybc hp fun e1 e2 a b k=>hK v h' e1 e2 a b k
 | some g=>
  obtain ⟨j,want⟩:=g
  simp only [hg] at hs ⊢
  cases ht:(ops[j]?).bind (·.dst) with
  | none=>simp only [ht] at hs
  | some t=>
   simp only [ht] at hs ⊢
   have htl:env.get t=env'.get t:=hl t (List.mem_append_right _ (by simp [hg,ht]))
   rw [← htl]
   split at hs
   ·rename_i b hb
    have key:∀ c,b=c→(opA P (env.set t (.bool c)) h o (fun v h'=>Zor N (env.set t (.bool c)) o.dst v fun env'=>K env' h')→opA P (env'.set t (.bool c)) h2 o (fun v h'=>Zor N (env'.set t (.bool c)) o.dst v fun env'=>K' env' h')) ∧
      (Zor N (env.set t (.bool c)) o.dst (.tup []) (fun env'=>K env' h)→Zor N (env'.set t (.bool c)) o.dst (.tup []) (fun env'=>K' env' h2)):=by
     intro c e
     subst e
     have k1:=Zfj hb
     have k2:=Zfj (htl ▸ hb:env'.get t=.bool b)
     constructor
     ·intro ho
      refine hop _ _ (Zmr fun s hs=>by rw [k1,k2]; exact hl s hs) k1 _ _ ho fun v h' hp=>Ybc hp fun e1 e2 a b k=>hK v h' e1 e2 ?_ ?_ k
      ·intro s; rw [a s,k1]
      ·intro s; rw [b s,k2]
     ·exact hun _ _ k1 k2
    cases b
    ·obtain ⟨k1,k2⟩:=key false rfl
     cases want
     ·exact k1 hs
     ·exact k2 hs
    ·obtain ⟨k1,k2⟩:=key true rfl
     cases want
     ·exact k2 hs
     ·exact k1 hs
   ·exact hun env env' (fun _=>rfl) (fun _=>rfl) hs
   ·exact hs.elim

theorem Zsx {env env':Env} {h:Zaa} {o:Oper} {K K':Env→Zaa→Prop} (hs:Zkp P N ops env h o K) (hl:∀ t∈o.looksAt ops,env.get t=env'.get t)
  (hK:∀ v h' env1 env1',Zqv o env v env1→Zqv o env' v env1'→K env1 h'→K' env1' h'):Zkp P N ops env' h o K':=
 Ymt hs hl (fun e1 e2 hx _ A B ha hm=>Yik ((Zth hx).1 ha) hm)
  (fun e1 e2 q1 q2 hp=>Ybc hp fun f1 f2 a b k=>hK _ _ f1 f2 (fun t=>by rw [a t,q1 t]) (fun t=>by rw [b t,q2 t]) k) hK

def Yd (P:Program) (N:Nat) (ops:Array Oper) (o:Oper) (v:Zag) (env:Env) (h:Zaa):Prop:=
 ∀ K:Env→Zaa→Prop,(∀ env1,Zqv o env v env1→K env1 h)→Zkp P N ops env h o K

theorem Zqf {K:Env→Zaa→Prop} {hs hs':List Zvg} (hsub:∀ d∈hs,d∈hs'):∀ (f:Nat) {listed:Array Bool} {env env':Env} {h:Zaa},(∀ e e' h,Yak e e'→K e h→K e' h)→Yak env env' →
  Yju P N ops K hs' f listed env h→Yju P N ops K hs f listed env' h
 | 0,_,_,_,_,hK,he,hh=>⟨hh.1,hK _ _ _ he hh.2⟩
 | f + 1,listed,env,env',h,hK,he,hh=>by
  refine ⟨fun hr=>hK _ _ _ he (hh.1 hr),fun i hi=>?_⟩
  have:=hh.2 i hi
  unfold Zrx at *
  cases ho:ops[i]? with
  | none=>
   rw [ho] at this
   exact ⟨fun d hd=>this.1 d (hsub d hd),Zqf hsub f hK he this.2⟩
  | some o=>
   rw [ho] at this
   refine Zsx this (fun t _=>he t) fun v h' e1 e2 a b k=>⟨fun d hd=>k.1 d (hsub d hd),Zqf hsub f hK (fun t=>?_) k.2⟩
   rw [a t,b t,he t]

theorem Zuu {K:Env→Zaa→Prop} {hs hs':List Zvg} (hK:∀ e e' h,Yak e e'→K e h→K e' h) (hsub:∀ d∈hs,d∈hs') {i:Nat} {oi:Oper} {v:Zag} (hi:ops[i]?=some oi) {T:Zaa→Zaa→Prop}
  (hT:∀ j h h1,Znq ops j i=false→(∀ d∈hs',Znq ops j d.i=true ∨ d.ok h h1)→T h h1)
  {Y:Env→Zaa→Prop} (hY:∀ env h,Y env h→Yd P N ops oi v env h)
  (hst:∀ env h env1 h1,Y env h→(∀ t∈oi.looksAt ops,env.get t=env1.get t)→T h h1→Y env1 h1) :
  ∀ (fuel:Nat) (listed:Array Bool) (env env1:Env) (h:Zaa),
   (∀ j oj,ops[j]?=some oj→j≠i→listed.getD j true=false→(∀ e∈oj.after,Region.binds .any e=true→e.on≠i)→oi.apart ops oj=true) →
   i∈Region.ready .any ops listed→Y env h→Zqv oi env v env1 →
   Yju P N ops K hs' fuel (listed.setIfInBounds i true) env1 h→Yju P N ops K hs (fuel + 1) listed env h:=by
 intro fuel
 have now:∀ (fuel:Nat) (listed:Array Bool) (env env1:Env) (h:Zaa),Y env h→Zqv oi env v env1→Yju P N ops K hs' fuel (listed.setIfInBounds i true) env1 h →
   Zrx P N ops i env h fun env' h'=>(∀ d∈hs,Znq ops i d.i=true ∨ d.ok h h')∧Yju P N ops K hs fuel (listed.setIfInBounds i true) env' h':=by
  intro fuel listed env env1 h hy ha H
  unfold Zrx
  rw [hi]
  exact hY _ _ hy _ fun env2 h2=>⟨fun d _=>.inr (d.ok_refl h),Zqf hsub fuel hK (fun t=>by rw [ha t,h2 t]) H⟩
 induction fuel with
 | zero=>
  intro listed env env1 h _ hr hy ha H
  refine ⟨fun e=>(by rw [e] at hr; cases hr),fun j hj=>?_⟩
  by_cases hji:j=i
  ·subst hji; exact now 0 listed env env1 h hy ha H
  ·have:=ready_mono hj hji
   rw [H.1] at this
   cases this
 | succ fuel ih=>
  intro listed env env1 h hfree hr hy ha H
  refine ⟨fun e=>(by rw [e] at hr; cases hr),fun j hj=>?_⟩
  by_cases hji:j=i
  ·subst hji; exact now (fuel + 1) listed env env1 h hy ha H
  ·have h1:=H.2 j (ready_mono hj hji)
   obtain ⟨hjun,oj,hoj,hall⟩:=mem_ready.1 hj
   have hnot:∀ e∈oj.after,Region.binds .any e=true→e.on≠i:=fun e he hb heq=>by
    have h1:=hall e he hb
    have h0:=(mem_ready.1 hr).1
    rw [heq] at h1
    rcases Nat.lt_or_ge i listed.size with h' | h'
    ·simp [h'] at h0 h1; rw [h0] at h1; cases h1
    ·simp [Array.getElem?_eq_none h'] at h1
   have hw:Znq ops j i=false:=by
    unfold Znq
    rw [hoj]
    simp only [Array.any_eq_false]
    intro q hq
    simp only [Bool.and_eq_true,beq_iff_eq,not_and]
    intro hb
    exact hnot _ (Array.getElem_mem hq) hb
   obtain ⟨a1,a2,a3⟩:=Oper.apart_spec (hfree j oj hoj hji hjun hnot)
   unfold Zrx at h1 ⊢
   rw [hoj] at h1 ⊢
   refine Zsx h1 (fun t ht=>?_) fun u h' e1 e2 q1 q2 k=>?_
   ·rw [ha t,if_neg (fun e=>a1 t e ht)]
   ·refine ⟨fun d hd=>k.1 d (hsub d hd),ih (listed.setIfInBounds j true) e2 e1 h' ?_ (ready_mono hr (Ne.symm hji)) ?_ ?_ ?_⟩
    ·intro k ok hk hki hun hno
     refine hfree k ok hk hki ?_ hno
     by_cases hjk:j=k
     ·subst hjk; exact hjun
     ·rw [getD_set_ne true hjk] at hun; exact hun
    ·refine hst env h e2 h' hy (fun t ht=>?_) (hT j h h' hw k.1)
     rw [q2 t,if_neg (fun e=>a3 t e ht)]
    ·intro t
     rw [q1 t,q2 t,ha t]
     by_cases x:oj.dst=some t <;> by_cases y:oi.dst=some t <;> simp [x,y]
     exact absurd x (a2 t y)
    ·rw [Array.setIfInBounds_comm _ _ hji]
     exact k.2
end
end Go.Sim
