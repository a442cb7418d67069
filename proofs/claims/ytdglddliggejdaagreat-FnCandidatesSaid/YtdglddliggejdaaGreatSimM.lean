/- A part of the proof of a statement of this seat: see the text that holds the theorem. No condition. -/
import Derived.Test.YtdglddliggejdaaGreatSimIc
import Derived.LaidEqlPtr
import Derived.Orders
set_option linter.unusedVariables false
set_option linter.unusedSimpArgs false
set_option linter.all false
set_option linter.unusedSimpArgs false
namespace Go.Sim
open Go Go.RowKit

def Zeg (h:Zaa) (i:Nat):Bool:=match h[i]? with | some (.cells _ _ false)=>true | _=>false
def Zpt (P:Program) (t:TypeId):Bool:=match P.underlying t with | some (.pointer e)=>(match P.info? e with | some j=>!(Nat.beq j.size 0) | none=>false) | _=>false
def Yvh (h:Zaa) (p q:Nat × Nat) (K:Bool→Prop):Prop:=(p=q∧K true) ∨ (p.1≠q.1∧Zeg h p.1=true∧Zeg h q.1=true∧K false)
def Zvg (h:Zaa) (a b:Option (Nat × Nat)) (K:Bool→Prop):Prop:=
 match b with | none=>K a.isNone | some q=>(match a with | none=>K false | some p=>Yvh h p q K)
def Yqy (P:Program) (op:BinOp) (t:TypeId) (h:Zaa) (a b:Option (Nat × Nat)) (K:Zas→Zaa→Prop):Prop:=
 match op with
 | .eql=>chk (Zpt P t=true) (Zvg h a b fun e=>K (.bool e) h)
 | .neq=>chk (Zpt P t=true) (Zvg h a b fun e=>K (.bool (!e)) h)
 | _=>False
def Zmf (h:Zaa):List ME→(Nat × Nat)→Nat→Option (Option (Nat × Zas))
 | [],_,_=>some none
 | (.ptr (some q),v,_) :: r,p,i=>if p=q then some (some (i,v)) else if p.1≠q.1∧Zeg h p.1=true∧Zeg h q.1=true then Zmf h r p (i + 1) else none
 | _ :: _,_,_=>none
def Zxa (r:Option (Option (Nat × Zas))) (K:Option Zas→Prop):Prop:=match r with | some (some (_,v))=>K (some v) | some none=>K none | none=>False
def Ypr (r:Option (Option (Nat × Zas))) (es:List ME) (clk:Nat) (p:Nat × Nat) (v:Zas) (K:List ME→Nat→Prop):Prop:=
 match r with
 | some (some (i,_))=>K (es.modify i fun e=>(.ptr (some p),v,e.2.2)) clk
 | some none=>K (es ++ [(.ptr (some p),v,clk)]) (clk + 1)
 | none=>False
def Yqw (r:Option (Option (Nat × Zas))) (es:List ME) (K:List ME→Prop):Prop:=match r with | some (some (i,_))=>K (es.eraseIdx i) | some none=>K es | none=>False
def okV (ok:Bool) (r:Option Zas) (v:Zas):Zas:=match ok with | true=>.tup [v,.bool r.isSome] | false=>v
def Zrd (P:Program) (t:TypeId) (h:Zaa) (m k:Zas) (ok:Bool) (K:Zas→Prop):Prop:=
 match P.underlying t with
 | some (.map kt et)=>chk (Zpt P kt=true∧isAgg P et=false) (match m with
  | .map a=>Zfc (some k) fun q=>Zbi q fun i o=>Zzf (Ypp P et) fun z=>Zdy h a fun es _=>Zxa (Zmf h es (i,o) 0) fun r=>xv (Zlt P et) (some (r.getD z)) fun v=>K (okV ok r v)
  | _=>False)
 | _=>False
def Zkr (P:Program) (t:TypeId) (h:Zaa) (m k v:Zas) (K:Zas→Zaa→Prop):Prop:=
 match P.underlying t with
 | some (.map kt _)=>chk (Zpt P kt=true) (match m with
  | .map a=>xMp a fun mi=>Zfc (some k) fun q=>Zbi q fun i o=>Zdy h (some mi) fun es clk=>Ypr (Zmf h es (i,o) 0) es clk (i,o) v fun es' clk'=>K .undef (h.set mi (.map es' clk'))
  | _=>False)
 | _=>False
def Zun (P:Program) (t:TypeId) (h:Zaa) (m k:Zas) (K:Zas→Zaa→Prop):Prop:=
 match P.underlying t with
 | some (.map kt _)=>chk (Zpt P kt=true) (match m with
  | .map a=>xMp a fun mi=>Zfc (some k) fun q=>Zbi q fun i o=>Zdy h (some mi) fun es clk=>Yqw (Zmf h es (i,o) 0) es fun es'=>K (.tup []) (h.set mi (.map es' clk))
  | _=>False)
 | _=>False
def Yqs (P:Program) (t:TypeId):Bool:=match P.underlying t with | some (.map kt _)=>Zug P kt | _=>false
def Yra (x:Operand):Bool:=match x with | .const (.pointer none)=>true | _=>false

section
variable {P:Program} {base:Nat} {w0:World} {μ:List Pl} {h:Zaa} {w:World}
theorem Zqs {t:TypeId} (h:Zpt P t=true):∃ e j,P.underlying t=some (.pointer e)∧P.info? e=some j∧j.size≠0:=by
 unfold Zpt at h
 split at h
 ·rename_i e he
  split at h
  ·rename_i j hj
   refine ⟨e,j,he,hj,fun h0=>?_⟩
   rw [h0] at h; simp at h
  ·cases h
 ·cases h
theorem Zsl {i:Nat} (hh:Zeg h i=true):∃ t cs,h[i]?=some (.cells t cs false):=by
 unfold Zeg at hh
 split at hh
 ·rename_i t cs he; exact ⟨t,cs,he⟩
 ·cases hh
theorem Ycy (r:Rel P base w0 μ h w) {i:Nat} {e:Pl} (he:μ[i]?=some e) (hh:Zeg h i=true):∃ C t,w.heap[e.b]?=some (.cells C t (0,0)):=by
 obtain ⟨t,cs,hi⟩:=Zsl hh
 obtain ⟨C,el,fr,h1,_,h3⟩:=r.obj i _ hi e he
 simp only [Bool.false_eq_true,if_false] at h3
 obtain ⟨_,_,_,rfl,_⟩:=h3
 exact ⟨C,el,h1⟩
theorem Yuj (r:Rel P base w0 μ h w) {i j:Nat} {e f:Pl} (he:μ[i]?=some e) (hf:μ[j]?=some f) (hi:Zeg h i=true) (hj:Zeg h j=true) (hne:i≠j):e.b≠f.b:=by
 obtain ⟨t,cs,h1⟩:=Zsl hi
 obtain ⟨t',cs',h2⟩:=Zsl hj
 exact r.sep i j _ _ e f hne h1 h2 rfl rfl he hf
theorem Zua (r:Rel P base w0 μ h w) {t:TypeId} (ht:Zpt P t=true) {a b:Option (Nat × Nat)} {x y:Value} (ha:VR μ (.ptr a) x) (hb:VR μ (.ptr b) y) {K:Bool→Prop} (hk:Zvg h a b K) :
  ∃ e:Bool,(∀ d,(Op.equalIn (d + 1) t x y).run P w=.ok e w)∧K e:=by
 obtain ⟨te,j,hu,hj,hsz⟩:=Zqs ht
 unfold Zvg at hk
 cases hb with
 | ptr0=>
  cases ha with
  | ptr0=>exact ⟨true,fun d=>by simp [Op.equalIn,run_underlying hu],hk⟩
  | ptr hi=>exact ⟨false,fun d=>by simp [Op.equalIn,run_underlying hu],hk⟩
 | ptr hf=>
  cases ha with
  | ptr0=>exact ⟨false,fun d=>by simp [Op.equalIn,run_underlying hu],hk⟩
  | ptr he=>
   rename_i j1 o1 f i1 o2 e
   rcases hk with ⟨hpq,hk⟩ | ⟨hne,o1',o2',hk⟩
   ·cases hpq
    rw [he] at hf; cases hf
    exact ⟨true,fun d=>by simp [Op.equalIn,run_underlying hu,sizeOf,typeInfo,hj,run_sameAddr_same],hk⟩
   ·obtain ⟨C,t1,h1⟩:=Ycy r he o1'
    obtain ⟨C',t2,h2⟩:=Ycy r hf o2'
    have hnb:=Yuj r he hf o1' o2' hne
    exact ⟨false,fun d=>by
     simp [Op.equalIn,run_underlying hu,sizeOf,typeInfo,hj,hsz,run_sameAddr_other w (a:=⟨e.b,e.o + o2,none⟩) (b:=⟨f.b,f.o + o1,none⟩) (fun q=>hnb (congrArg Addr.block q)) h1 h2],hk⟩
theorem Yty (r:Rel P base w0 μ h w) {op:BinOp} {t:TypeId} {xo yo:Operand} {a b:Option (Nat × Nat)} {x y:Value} (ha:VR μ (.ptr a) x) (hb:VR μ (.ptr b) y) {K:Zas→Zaa→Prop} (hk:Yqy P op t h a b K) :
  ∃ e:Bool,(do eqGuard op t xo yo x y; binOp op t x y:Sem Value).run P w=.ok (.bool e) w∧K (.bool e) h:=by
 have hg:∀ op',op'=BinOp.eql ∨ op'=BinOp.neq→(eqGuard op' t xo yo x y).run P w=.ok () w:=by
  intro op' ho
  rcases ho with rfl | rfl <;> cases ha <;> simp [eqGuard]
 unfold Yqy at hk
 split at hk
 ·replace hk:=Zbz hk; obtain ⟨ht,hk⟩:=hk
  obtain ⟨e,he,hk⟩:=Zua r ht ha hb hk
  refine ⟨e,?_,hk⟩
  simp only [Sem.run_bind,hg _ (.inl rfl),Result.andThen_ok]
  cases ha <;> cases hb <;> (simp only [binOp]; simp [Op.equal,Op.maxDepth,he 9999])
 ·replace hk:=Zbz hk; obtain ⟨ht,hk⟩:=hk
  obtain ⟨e,he,hk⟩:=Zua r ht ha hb hk
  refine ⟨!e,?_,hk⟩
  simp only [Sem.run_bind,hg _ (.inr rfl),Result.andThen_ok]
  cases ha <;> cases hb <;> (simp only [binOp]; simp [Op.equal,Op.maxDepth,he 9999])
 ·exact hk.elim
theorem Zkl (r:Rel P base w0 μ h w) {kt:TypeId} (ht:Zpt P kt=true) {i o:Nat} {e:Pl} (hi:μ[i]?=some e):∀ {es:List ME} {ents:List MapEntry} {n:Nat} {q:Option (Nat × Zas)},
  VRs μ (es.map (·.1)) (ents.map (·.key))→VRs μ (es.map (·.2.1)) (ents.map (·.val))→Zmf h es (i,o) n=some q →
  (q=none∧(Instr.findAsking kt (.pointer (some ⟨e.b,e.o + o,none⟩)) ents n).run P w=.ok none w) ∨
   ∃ j v x k0,q=some (j,v)∧n≤j∧VR μ v x∧(Instr.findAsking kt (.pointer (some ⟨e.b,e.o + o,none⟩)) ents n).run P w=.ok (some (j,x)) w∧ents[j - n]?=some k0∧k0.key=.pointer (some ⟨e.b,e.o + o,none⟩)
 | [],[],n,q,_,_,hf=>by simp [Zmf] at hf; subst hf; exact .inl ⟨rfl,by simp [Instr.findAsking]⟩
 | [],_ :: _,n,q,hk,_,_=>by cases hk
 | _ :: _,[],n,q,hk,_,_=>by cases hk
 | (k,v,b) :: es,en :: ents,n,q,hk,hv,hf=>by
  simp only [List.map_cons] at hk hv
  cases hk with
  | cons hk1 hk2=>
  cases hv with
  | cons hv1 hv2=>
  cases k with
  | ptr a=>
   cases a with
   | none=>simp [Zmf] at hf
   | some p=>
    simp only [Zmf] at hf
    generalize hek:en.key=ek at hk1
    have hx:VR μ (.ptr (some (i,o))) (.pointer (some ⟨e.b,e.o + o,none⟩)):=.ptr hi
    by_cases hpq:(i,o)=p
    ·rw [if_pos hpq] at hf
     cases hf
     obtain ⟨c,hc,hke⟩:=Zua (K:=fun c=>c=true) r ht hx hk1 (by subst hpq; exact .inl ⟨rfl,rfl⟩)
     subst hke
     have hkey:en.key=.pointer (some ⟨e.b,e.o + o,none⟩):=by
      subst hpq
      cases hk1 with
      | ptr hf2=>rw [hi] at hf2; cases hf2; exact hek
     refine .inr ⟨n,v,en.val,en,rfl,Nat.le_refl _,hv1,?_,by simp,hkey⟩
     unfold Instr.findAsking
     simp [Op.equal,Op.maxDepth,hek,hc 9999]
    ·rw [if_neg hpq] at hf
     by_cases hne:(i,o).1≠p.1∧Zeg h (i,o).1=true∧Zeg h p.1=true
     ·rw [if_pos hne] at hf
      obtain ⟨c,hc,hke⟩:=Zua (K:=fun c=>c=false) r ht hx hk1 (.inr ⟨hne.1,hne.2.1,hne.2.2,rfl⟩)
      subst hke
      have step:(Instr.findAsking kt (.pointer (some ⟨e.b,e.o + o,none⟩)) (en :: ents) n).run P w=(Instr.findAsking kt (.pointer (some ⟨e.b,e.o + o,none⟩)) ents (n + 1)).run P w:=by
       conv=>lhs; unfold Instr.findAsking
       simp [Op.equal,Op.maxDepth,hek,hc 9999]
      rcases Zkl r ht hi hk2 hv2 hf with ⟨h1,h2⟩ | ⟨j,v',x,k0,h1,h2,h3,h4,h5,h6⟩
      ·exact .inl ⟨h1,by rw [step,h2]⟩
      ·refine .inr ⟨j,v',x,k0,h1,by omega,h3,by rw [step,h4],?_,h6⟩
       rw [show j - n=(j - (n + 1)) + 1 by omega]; simpa using h5
     ·rw [if_neg hne] at hf; cases hf
  | _=>simp [Zmf] at hf
theorem Zgr {kt te:TypeId} (hu:P.underlying kt=some (.pointer te)) (x:Value) (es:List MapEntry):(Instr.findKey kt x es).run P w=(Instr.findAsking kt x es).run P w:=by
 cases es with
 | nil=>simp [Instr.findKey,run_underlying hu,Instr.findNow,Instr.findAsking]
 | cons e es=>simp [Instr.findKey,run_underlying hu,Instr.findNow,Instr.sameNow]
theorem Zqm {kt te:TypeId} (hu:P.underlying kt=some (.pointer te)) (x:Option Addr) (b:Bool):(Instr.checkKey b 10000 kt (.pointer x)).run P w=.ok () w:=by
 unfold Instr.checkKey
 simp [run_underlying hu]
theorem Zre {o:Option Zas} {K:Option (Nat × Nat)→Prop} (h:Zfc o K):∃ s,o=some (.ptr s)∧K s:=by
 unfold Zfc at h; split at h
 ·exact ⟨_,rfl,h⟩
 ·exact h.elim
theorem Zss {a:Option (Nat × Nat)} {K:Nat→Nat→Prop} (h:Zbi a K):∃ i o,a=some (i,o)∧K i o:=by
 unfold Zbi at h; split at h
 ·exact ⟨_,_,rfl,h⟩
 ·exact h.elim
theorem Yix (r:Rel P base w0 μ h w) {t:TypeId} {a k:Zas} {x y:Value} {ok:Bool} (ha:VR μ a x) (hkk:VR μ k y) {K:Zas→Prop} (hk:Zrd P t h a k ok K) :
  ∃ z v,(Instr.lookup t x y ok).run P w=.ok z w∧VR μ v z∧K v:=by
 unfold Zrd at hk
 split at hk
 ·rename_i kt et hu
  replace hk:=Zbz hk
  obtain ⟨⟨hs,hag⟩,hk⟩:=hk
  obtain ⟨te,tj,hkt,_⟩:=Zqs hs
  split at hk
  ·rename_i m
   obtain ⟨q,hq,hk⟩:=Zre hk
   cases hq
   obtain ⟨i,o,rfl,hk⟩:=Zss hk
   obtain ⟨z0,hz,hk⟩:=Zla hk
   obtain ⟨zv,hzv1,hzr⟩:=Yhw (μ:=μ) hz
   cases hkk with
   | ptr hi=>
   rename_i e
   have hchk:∀ b,(Instr.checkKey b 10000 kt (.pointer (some ⟨e.b,e.o + o,none⟩))).run P w=.ok () w:=fun b=>Zqm hkt _ b
   rcases Zng hk with ⟨rfl,hk1⟩ | ⟨i',es,clk,rfl,hi',hk1⟩
   ·cases ha
    simp only [Zxa,Zmf] at hk1
    obtain ⟨v,hv,hk2⟩:=Zjl hk1
    cases hv
    have hfk:(Instr.findKey kt (.pointer (some ⟨e.b,e.o + o,none⟩)) []).run P w=.ok none w:=by rw [Zgr hkt]; simp [Instr.findAsking]
    cases ok
    ·exact ⟨zv,_,by simp [Instr.lookup,run_underlying hu,hchk,hfk,hzr w],hzv1,hk2⟩
    ·exact ⟨.tuple #[zv,.bool false],_,by simp [Instr.lookup,run_underlying hu,hchk,hfk,hzr w],.tup (.cons hzv1 (.cons (.bool _) .nil)),hk2⟩
   ·cases ha with
    | map hmu=>
    obtain ⟨hb0,ents,hg,hk1',hk2',hk3'⟩:=r.obj i' _ hi' _ hmu
    unfold Zxa at hk1
    split at hk1
    ·rename_i j v hf
     obtain ⟨v1,hv,hl⟩:=Zjl hk1
     cases hv
     rcases Zkl r hs hi hk1' hk2' hf with ⟨h1,_⟩ | ⟨j',v',x',k0,h1,_,h3,h4,_⟩
     ·cases h1
     ·cases h1
      cases ok
      ·exact ⟨x',_,by simp [Instr.lookup,run_underlying hu,MapKept.run_getObj_map hg,hchk,Zgr hkt,h4],h3,hl⟩
      ·exact ⟨.tuple #[x',.bool true],_,by simp [Instr.lookup,run_underlying hu,MapKept.run_getObj_map hg,hchk,Zgr hkt,h4],.tup (.cons h3 (.cons (.bool _) .nil)),hl⟩
    ·rename_i hf
     obtain ⟨v1,hv,hl⟩:=Zjl hk1
     cases hv
     rcases Zkl r hs hi hk1' hk2' hf with ⟨_,h4⟩ | ⟨j',v',x',k0,h1,_⟩
     ·cases ok
      ·exact ⟨zv,_,by simp [Instr.lookup,run_underlying hu,MapKept.run_getObj_map hg,hchk,Zgr hkt,h4,hzr w],hzv1,hl⟩
      ·exact ⟨.tuple #[zv,.bool false],_,by simp [Instr.lookup,run_underlying hu,MapKept.run_getObj_map hg,hchk,Zgr hkt,h4,hzr w],.tup (.cons hzv1 (.cons (.bool _) .nil)),hl⟩
     ·cases h1
    ·exact hk1.elim
  ·exact hk.elim
 ·exact hk.elim
theorem Yar (r:Rel P base w0 μ h w) {t:TypeId} {a k v:Zas} {x y z:Value} (ha:VR μ a x) (hkk:VR μ k y) (hv:VR μ v z) {K:Zas→Zaa→Prop} (hk:Zkr P t h a k v K) :
  ∃ w' h',(Instr.mapUpdate t x y z).run P w=.ok () w'∧Rel P base w0 μ h' w'∧K .undef h':=by
 unfold Zkr at hk
 split at hk
 ·rename_i kt et hu
  replace hk:=Zbz hk
  obtain ⟨hs,hk⟩:=hk
  obtain ⟨te,tj,hkt,_⟩:=Zqs hs
  split at hk
  ·rename_i m
   unfold xMp at hk
   split at hk
   ·rename_i mi
    obtain ⟨q,hq,hk⟩:=Zre hk
    cases hq
    obtain ⟨i,o,rfl,hk⟩:=Zss hk
    cases hkk with
    | ptr hi=>
    rename_i e0
    obtain ⟨es,clk,hi',hk1⟩:=Zjp hk
    cases ha with
    | map hmu=>
    rename_i e
    obtain ⟨hb0,ents,hg,hk1',hk2',hk3'⟩:=r.obj mi _ hi' _ hmu
    have hchk:(Instr.checkKey false 10000 kt (.pointer (some ⟨e0.b,e0.o + o,none⟩))).run P w=.ok () w:=Zqm hkt _ false
    have hlt:=(Array.getElem?_eq_some_iff.1 hg).1
    have hkv:VR μ (.ptr (some (i,o))) (.pointer (some ⟨e0.b,e0.o + o,none⟩)):=.ptr hi
    unfold Ypr at hk1
    split at hk1
    ·rename_i j v0 hf
     rcases Zkl r hs hi hk1' hk2' hf with ⟨h1,_⟩ | ⟨j',v',x',k0,h1,_,h3,h4,h5,h6⟩
     ·cases h1
     ·cases h1
      have hj':ents[j]?=some k0:=by simpa using h5
      have hst:∀ w:World,(Instr.keyThatStays k0.key (.pointer (some ⟨e0.b,e0.o + o,none⟩))).run P w=.ok (.pointer (some ⟨e0.b,e0.o + o,none⟩)) w:=fun w=>by
       rw [h6]; simp [Instr.keyThatStays,Instr.sameBits]
      refine ⟨_,_,?_,r.over (x:=.map (ents.modify j fun e=>{ e with key:=.pointer (some ⟨e0.b,e0.o + o,none⟩),val:=z }) clk) hi' rfl hmu hb0 rfl ?_,hk1⟩
      ·simp [Instr.mapUpdate,run_underlying hu,MapKept.run_getObj_map hg,hchk,Zgr hkt,h4,hj',hst,MapKept.run_setObj_map _ hg]
      ·refine ⟨hb0,ents.modify j fun e=>{ e with key:=.pointer (some ⟨e0.b,e0.o + o,none⟩),val:=z },by simp [hlt],?_,?_,?_⟩
       ·rw [Array.toList_modify]; exact VRs.modify (p:=fun (x:ME)=>x.1) (q:=fun (x:MapEntry)=>x.key) (v:=.ptr (some (i,o))) (k:=.pointer (some ⟨e0.b,e0.o + o,none⟩)) hkv (fun _=>rfl) (fun _=>rfl) j hk1'
       ·rw [Array.toList_modify]; exact VRs.modify (p:=fun (x:ME)=>x.2.1) (q:=fun (x:MapEntry)=>x.val) (v:=v) (k:=z) hv (fun _=>rfl) (fun _=>rfl) j hk2'
       ·rw [Array.toList_modify,Zhu (p:=fun (x:ME)=>x.2.2) (f:=fun e=>(.ptr (some (i,o)),v,e.2.2)) (fun _=>rfl) es j,Zhu (p:=fun (x:MapEntry)=>x.born) (f:=fun e=>{ e with key:=.pointer (some ⟨e0.b,e0.o + o,none⟩),val:=z }) (fun _=>rfl) ents.toList j]; exact hk3'
    ·rename_i hf
     rcases Zkl r hs hi hk1' hk2' hf with ⟨_,h4⟩ | ⟨j',v',x',k0,h1,_⟩
     ·refine ⟨_,_,?_,r.over (x:=.map (ents.push { key:=.pointer (some ⟨e0.b,e0.o + o,none⟩),val:=z,born:=clk }) (clk + 1)) hi' rfl hmu hb0 rfl ?_,hk1⟩
      ·simp [Instr.mapUpdate,run_underlying hu,MapKept.run_getObj_map hg,hchk,Zgr hkt,h4,MapKept.run_setObj_map _ hg]
      ·refine ⟨hb0,ents.push { key:=.pointer (some ⟨e0.b,e0.o + o,none⟩),val:=z,born:=clk },by simp [hlt],?_,?_,?_⟩
       ·simpa using hk1'.append (.cons hkv .nil)
       ·simpa using hk2'.append (.cons hv .nil)
       ·simp [hk3']
     ·cases h1
    ·exact hk1.elim
   ·exact hk.elim
  ·exact hk.elim
 ·exact hk.elim
theorem VRs.erase {vs:List Zas} {xs:List Value} (hh:VRs μ vs xs):∀ (j:Nat),VRs μ (vs.eraseIdx j) (xs.eraseIdx j):=by
 induction vs generalizing xs with
 | nil=>intro j; cases hh; exact .nil
 | cons v vs ih=>
  intro j
  cases hh with
  | cons h1 h2=>
  cases j with
  | zero=>exact h2
  | succ j=>exact .cons h1 (ih h2 j)
theorem Zfm {α β:Type} (f:α→β):∀ (l:List α) (j:Nat),(l.map f).eraseIdx j=(l.eraseIdx j).map f
 | [],j=>by simp
 | a :: l,0=>by simp
 | a :: l,j + 1=>by simp [Zfm f l j]
theorem Ynh (r:Rel P base w0 μ h w) {t ty:TypeId} {ats:Array TypeId} (hat:ats[0]?=some t) {a k:Zas} {x y:Value} (ha:VR μ a x) (hkk:VR μ k y) {K:Zas→Zaa→Prop} (hk:Zun P t h a k K) :
  Res P base w0 μ ((Builtin.delete_ ats ty #[x,y]).run P w) K:=by
 unfold Zun at hk
 split at hk
 ·rename_i kt et hu
  replace hk:=Zbz hk
  obtain ⟨hs,hk⟩:=hk
  obtain ⟨te,tj,hkt,_⟩:=Zqs hs
  split at hk
  ·rename_i m
   unfold xMp at hk
   split at hk
   ·rename_i mi
    obtain ⟨q,hq,hk⟩:=Zre hk
    cases hq
    obtain ⟨i,o,rfl,hk⟩:=Zss hk
    cases hkk with
    | ptr hi=>
    rename_i e0
    obtain ⟨es,clk,hi',hk1⟩:=Zjp hk
    cases ha with
    | map hmu=>
    rename_i e
    obtain ⟨hb0,ents,hg,hk1',hk2',hk3'⟩:=r.obj mi _ hi' _ hmu
    have hchk:∀ b,(Instr.checkKey b 10000 kt (.pointer (some ⟨e0.b,e0.o + o,none⟩))).run P w=.ok () w:=fun b=>Zqm hkt _ b
    have hlt:=(Array.getElem?_eq_some_iff.1 hg).1
    unfold Yqw at hk1
    split at hk1
    ·rename_i j v0 hf
     rcases Zkl r hs hi hk1' hk2' hf with ⟨h1,_⟩ | ⟨j',v',x',k0,h1,_,h3,h4,h5,h6⟩
     ·cases h1
     ·cases h1
      have hjl:j < ents.size:=by have:=(List.getElem?_eq_some_iff.1 h5).1; simpa using this
      have htl:(ents.eraseIdxIfInBounds j).toList=ents.toList.eraseIdx j:=by simp [Array.eraseIdxIfInBounds,hjl]
      refine ⟨.tuple #[],_,μ,.tup [],_,?_,Ext.refl _,r.over (x:=.map (ents.eraseIdxIfInBounds j) clk) hi' rfl hmu hb0 rfl ?_,.tup .nil,hk1⟩
      ·simp [Builtin.delete_,hat,run_underlying hu,MapKept.run_getObj_map hg,hchk,Zgr hkt,h4,MapKept.run_setObj_map _ hg]
      ·refine ⟨hb0,ents.eraseIdxIfInBounds j,by simp [hlt],?_,?_,?_⟩
       ·rw [htl,← Zfm,← Zfm]; exact hk1'.erase j
       ·rw [htl,← Zfm,← Zfm]; exact hk2'.erase j
       ·rw [htl,← Zfm,← Zfm,hk3']
    ·rename_i hf
     rcases Zkl r hs hi hk1' hk2' hf with ⟨_,h4⟩ | ⟨j',v',x',k0,h1,_⟩
     ·refine ⟨.tuple #[],_,μ,.tup [],_,?_,Ext.refl _,r.over (x:=.map ents clk) hi' rfl hmu hb0 rfl ?_,.tup .nil,hk1⟩
      ·simp [Builtin.delete_,hat,run_underlying hu,MapKept.run_getObj_map hg,hchk,Zgr hkt,h4,MapKept.run_setObj_map _ hg]
      ·exact ⟨hb0,ents,by simp [hlt],hk1',hk2',hk3'⟩
     ·cases h1
    ·exact hk1.elim
   ·exact hk.elim
  ·exact hk.elim
 ·exact hk.elim
end
end Go.Sim

set_option linter.unusedSimpArgs false
namespace Go.Sim
open Go Go.RowKit

structure Zah (P:Program) (n:FuncId) (args:List Zas) (h:Zaa) (Q:Zas→Zaa→Prop):Prop where
 able : ∃ fn, P.funcs[n]? = some fn ∧ fn.body.isSome = true ∧ (fn.name == "runtime.NumGoroutine") = false
 calls:∀ (base:Nat) (w0:World) (μ:List Pl) (w:World) (xs:Array Value),Rel P base w0 μ h w→VRs μ args xs.toList →
  Calls P n xs w fun e w'=>∃ x μ' v h',e=.returned x∧Ext μ μ'∧Rel P base w0 μ' h' w'∧VR μ' v x∧Q v h'
theorem Zah.mono {P:Program} {n:FuncId} {args:List Zas} {h:Zaa} {Q Q':Zas→Zaa→Prop} (hc:Zah P n args h Q) (hq:∀ v h',Q v h'→Q' v h'):Zah P n args h Q':=
 ⟨hc.1,fun base w0 μ w xs r hx=>(hc.2 base w0 μ w xs r hx).mono fun _ _ ⟨x,μ',v,h',a,b,c,d,q⟩=>⟨x,μ',v,h',a,b,c,d,hq _ _ q⟩⟩

def rts (P:Program) (f:FuncId):List TypeId:=match P.funcs[f]? with | some fn=>fn.resultTypes.toList | none=>[]
def Yub (P:Program) (f:FuncId) (args:List Zas) (h:Zaa) (K:Zas→Zaa→Prop):Prop:=Zah P f args h fun v h'=>Ysp P (rts P f) v fun v=>K v h'
def Yvn (v:Zas) (K:FuncId→List Zas→Prop):Prop:=match v with | .fn g caps=>K g caps | _=>False
def Ywj (P:Program) (t:TypeId):List TypeId:=match P.underlying t with | some (.tuple ts)=>ts.toList | _=>[t]
def Yvr (P:Program) (t:TypeId) (v:Zas) (args:List Zas) (h:Zaa) (K:Zas→Zaa→Prop):Prop:=Yvn v fun g caps=>Zah P g (args ++ caps) h fun v h'=>Ysp P (Ywj P t) v fun v=>K v h'
def Ymk (P:Program) (env:Env) (h:Zaa) (o:Oper) (c:Call) (K:Zas→Zaa→Prop):Prop:=
 match c.callee with
 | .value f=>(match f with
  | .func g=>Yub P g (c.args.toList.map (ev env) ++ []) h K
  | f=>Yvr P o.type (ev env f) (c.args.toList.map (ev env)) h K)
 | .builtin .append=>(match c.argTypes.toList with
  | [t,u]=>chk (u=t) (match c.args.toList.map (ev env) with | [s,x]=>Zcz P t h s x fun v h'=>xv .slice (some v) fun v=>K v h' | _=>False)
  | _=>False)
 | .builtin .min=>(match c.args.toList.map (ev env) with | [x,y]=>Yta x y fun v=>K v h | _=>False)
 | .builtin .clear=>(match c.argTypes.toList with
  | [t]=>(match c.args.toList.map (ev env) with | [x]=>Ygt P t h x K | _=>False)
  | _=>False)
 | .builtin .delete=>(match c.argTypes.toList with
  | t :: _=>(match c.args.toList.map (ev env) with | [m,k]=>Zun P t h m k K | _=>False)
  | _=>False)
 | _=>Zrs P env o fun v=>K v h
def opA (P:Program) (env:Env) (h:Zaa) (o:Oper) (K:Zas→Zaa→Prop):Prop:=
 match o.op with
 | .load t a=>chk ((P.underlying t).isSome=true) (Zvs P t h (ev env a) fun v=>K v h)
 | .store t a x=>chk ((P.underlying t).isSome=true) (Zzo P t h (ev env a) (ev env x) fun h'=>K .undef h')
 | .alloc t=>Yrb P t h K
 | .box t x=>Yvx t h (ev env x) K
 | .build t ps=>Yle P t (parts env ps) fun v=>K v h
 | .buildSlice t n ps=>Zpi P t n (parts env ps) h K
 | .call c=>Ymk P env h o c K
 | .makeSlice t l c=>Zmb P t (ev env l) (ev env c) h K
 | .makeMap t r=>Zrk P t (r.map (ev env)) h K
 | .lookup t x i ok=>(match Yqs P t with | true=>Zrd P t h (ev env x) (ev env i) ok fun v=>K v h | false=>Zum P t h (ev env x) (ev env i) ok fun v=>K v h)
 | .mapUpdate t m k v=>(match Yqs P t with | true=>Zkr P t h (ev env m) (ev env k) (ev env v) K | false=>Zmd P t h (ev env m) (ev env k) (ev env v) K)
 | .range t x=>Zzk P t (ev env x) h K
 | .next x st=>Yiq P o.type (ev env x) st h K
 | .entry x=>Zzm P o.type (ev env x) h fun v=>K v h
 | .convert s d x=>(match Yjj P s with | true=>Ytb P s d h (ev env x) fun v=>K v h | false=>Zrs P env o fun v=>K v h)
 | .binOp op t x y _=>(match ev env x with
  | .ptr a=>Zfc (some (ev env y)) fun b=>Yqy P op t h a b K
  | _=>Zrs P env o fun v=>K v h)
 | _=>Zrs P env o fun v=>K v h
def Zsb (N:Nat) (env:Env) (d:Option Tmp) (v:Zas) (K:Env→Prop):Prop:=match d with | none=>K env | some d=>chk (d < N) (K (env.set d v))
def Zmy (P:Program) (N:Nat) (ops:Array Oper) (env:Env) (h:Zaa) (o:Oper) (K:Env→Zaa→Prop):Prop:=
 match o.guard with
 | none=>opA P env h o fun v h'=>Zsb N env o.dst v fun env'=>K env' h'
 | some (j,want)=>(match (ops[j]?).bind (·.dst) with
  | some t=>(match env.get t with
   | .bool b=>bcase b
     (match want with | true=>opA P (env.set t (.bool true)) h o fun v h'=>Zsb N (env.set t (.bool true)) o.dst v fun env'=>K env' h' | false=>Zsb N (env.set t (.bool true)) o.dst (.tup []) fun env'=>K env' h)
     (match want with | false=>opA P (env.set t (.bool false)) h o fun v h'=>Zsb N (env.set t (.bool false)) o.dst v fun env'=>K env' h' | true=>Zsb N (env.set t (.bool false)) o.dst (.tup []) fun env'=>K env' h)
   | .tup []=>Zsb N env o.dst (.tup []) fun env'=>K env' h
   | _=>False)
  | none=>False)
def Yvj (P:Program) (N:Nat) (ops:Array Oper):List Oper→Env→Zaa→(Env→Zaa→Prop)→Prop
 | [],env,h,K=>K env h
 | o :: r,env,h,K=>Zmy P N ops env h o fun env' h'=>Yvj P N ops r env' h' K

section
variable {P:Program} {base N:Nat} {w0:World} {μ:List Pl} {h:Zaa} {w:World}

structure St (P:Program) (base N:Nat) (w0:World) (μ:List Pl) (env:Env) (h:Zaa) (a:Act) (w:World):Prop where
 rel:Rel P base w0 μ h w
 env:Znl μ env a.tmps
 size:a.tmps.size=N
 defers:a.defers=[]

def Yoi (P:Program) (base N:Nat) (w0:World) (μ:List Pl) (K:Env→Zaa→Prop) (a:Act) (w:World):Prop:=
 ∃ μ' env h,Ext μ μ'∧St P base N w0 μ' env h a w∧K env h

theorem St.put {env:Env} {a:Act} (s:St P base N w0 μ env h a w) {μ':List Pl} {h':Zaa} {w':World} (he:Ext μ μ') (hr:Rel P base w0 μ' h' w') {v:Zas} {x:Value} (hv:VR μ' v x) {d:Option Tmp} {K:Env→Prop} (hk:Zsb N env d v K) :
  ∃ env',St P base N w0 μ' env' h' (a.put d x) w'∧K env':=by
 unfold Zsb at hk
 cases d with
 | none=>exact ⟨env,⟨hr,s.env.ext he,s.size,s.defers⟩,hk⟩
 | some d=>
  replace hk:=Zbz hk
  obtain ⟨hd,hk⟩:=hk
  refine ⟨_,⟨hr,(s.env.ext he).set (by rw [s.size]; exact hd) hv,?_,s.defers⟩,hk⟩
  simp [Act.put,s.size]

theorem St.know {env:Env} {a:Act} (s:St P base N w0 μ env h a w) {t:Nat} {v:Zas} (hv:VR μ v (a.tmps.getD t undef)):St P base N w0 μ (env.set t v) h a w:=
 ⟨s.rel,s.env.know hv,s.size,s.defers⟩

theorem Res.wp {o:Oper} {a:Act} {K:Zas→Zaa→Prop} {next:Act→World→Prop} {Q:Exit→Act→World→Prop} {s:Sem Value}
  (hr:Res P base w0 μ (s.run P w) K) (he:(execOp a.eval o).run P w=(s.run P w).andThen fun x w'=>.ok (.value x) w')
  (hn:∀ x w' μ' v h',Ext μ μ'→Rel P base w0 μ' h' w'→VR μ' v x→K v h'→next (a.put o.dst x) w'):o.wp P a w next Q:=by
 obtain ⟨x,w',μ',v,h',hrun,hx,hrel,hv,hk⟩:=hr
 unfold Oper.wp
 rw [he,hrun]
 exact hn x w' μ' v h' hx hrel hv hk

theorem Yrk {env:Env} {a:Act} (s:St P base N w0 μ env h a w) {f:FuncId} {args:List Zas} {xs:Array Value} (hxs:VRs μ args xs.toList) {K:Zas→Zaa→Prop} (hk:Zah P f args h K)
  {o:Oper} (he:(execOp a.eval o).run P w=(callFunc f xs).run P w) {next:Act→World→Prop} {Q:Exit→Act→World→Prop}
  (hn:∀ x w' μ' v h',Ext μ μ'→Rel P base w0 μ' h' w'→VR μ' v x→K v h'→next (a.put o.dst x) w'):o.wp P a w next Q:=by
 obtain ⟨⟨fn,hf,hb,hname⟩,hc⟩:=hk
 have hcall:(callFunc f xs).run P w=.ok (.enter f xs) w:=by
  obtain ⟨c,hc⟩:=Option.isSome_iff_exists.1 hb
  have hname' : fn.name ≠ "runtime.NumGoroutine" := by simpa using hname
  simp [callFunc,hf,hc,hname']
 unfold Oper.wp
 rw [he,hcall]
 refine (hc base w0 μ w xs s.rel hxs).mono ?_
 rintro e w' ⟨x,μ',v,h',rfl,hx,hr,hv,hq⟩
 exact hn x w' μ' v h' hx hr hv hq

theorem VRs.single {v:Zas} {xs:Array Value} (h:VRs μ [v] xs.toList):∃ x,xs=#[x]∧VR μ v x:=by
 obtain ⟨l⟩:=xs
 match l,h with
 | [x],.cons a .nil=>exact ⟨x,rfl,a⟩
theorem Ysc {env:Env} {a:Act} (s:St P base N w0 μ env h a w) {o:Oper} {K:Zas→Zaa→Prop} (hk:opA P env h o K) {next:Act→World→Prop} {Q:Exit→Act→World→Prop}
  (hn:∀ x w' μ' v h',Ext μ μ'→Rel P base w0 μ' h' w'→VR μ' v x→K v h'→next (a.put o.dst x) w'):o.wp P a w next Q:=by
 have hρ:=Yuc s.env
 have pure:Zrs P env o (fun v=>K v h)→o.wp P a w next Q:=fun hk=>by
  obtain ⟨x,v,hr,hv,hk⟩:=Ysq hρ hk
  unfold Oper.wp
  rw [hr w]
  exact hn x w μ v h (Ext.refl _) s.rel hv hk
 unfold opA at hk
 split at hk
 ·rename_i t p he
  replace hk:=Zbz hk
  obtain ⟨hu,hk⟩:=hk
  obtain ⟨y,v,hr,hv,hk⟩:=Ylt s.rel (hρ p) hu hk
  unfold Oper.wp
  simp only [execOp,he,Sem.run_bind,hr,Result.andThen_ok,Sem.run_pure]
  exact hn y w μ v h (Ext.refl _) s.rel hv hk
 ·rename_i t p x he
  replace hk:=Zbz hk
  obtain ⟨hu,hk⟩:=hk
  obtain ⟨w',h',hr,hrel,hk⟩:=Yog s.rel (hρ p) (hρ x) hu hk
  unfold Oper.wp
  simp only [execOp,he,Sem.run_bind,hr,Result.andThen_ok,Sem.run_pure]
  exact hn undef w' μ .undef h' (Ext.refl _) hrel (.undef _) hk
 ·rename_i t he
  exact Res.wp (Yoc s.rel hk) (by simp [execOp,he]) hn
 ·rename_i t x he
  exact Res.wp (Yuf s.rel (hρ x) hk) (by simp [execOp,he]) hn
 ·rename_i t ps he
  obtain ⟨h1,h2⟩:=Yhe hρ ps
  obtain ⟨x,v,hr,hv,hk⟩:=Yps h1 h2 hk
  unfold Oper.wp
  simp only [execOp,he,Sem.run_bind,hr w,Result.andThen_ok,Sem.run_pure]
  exact hn x w μ v h (Ext.refl _) s.rel hv hk
 ·rename_i t n ps he
  obtain ⟨h1,h2⟩:=Yhe hρ ps
  exact Res.wp (Yam s.rel h1 h2 hk) (by simp [execOp,he]) hn
 ·rename_i c he
  unfold Ymk at hk
  split at hk
  ·rename_i f hcal
   have go:∀ (f:Operand),c.callee=.value f→∀ (g:FuncId) (caps:List Zas),ev env f=.fn g caps→Zah P g (c.args.toList.map (ev env) ++ caps) h K→o.wp P a w next Q:=by
    intro f hcal g caps hev hk
    have hf:=hρ f
    rw [hev] at hf
    cases hfv:a.eval f with
    | func fn first cap=>
     rw [hfv] at hf
     cases hf with
     | fn hcaps=>
     refine Yrk s (xs:=c.args.map a.eval ++ cap) (by rw [Array.toList_append]; exact (Zsk hρ c.args).append hcaps) hk ?_ hn
     simp [execOp,he,resolve,hcal,hfv,Deferred.ofValue,invoke]
    | _=>rw [hfv] at hf; cases hf
   split at hk
   ·rename_i g
    exact go _ hcal g [] rfl (Zah.mono hk fun _ _ hq=>Ycx (K:=fun v=>K v _) hq)
   ·unfold Yvr Yvn at hk
    split at hk
    ·rename_i g caps hev
     exact go _ hcal g caps hev (Zah.mono hk fun _ _ hq=>Ycx (K:=fun v=>K v _) hq)
    ·exact hk.elim
  ·rename_i hcal
   split at hk
   ·rename_i t u hts
    replace hk:=Zbz hk
    obtain ⟨rfl,hk⟩:=hk
    split at hk
    ·rename_i sv xv hargs
     have hvs:=Zsk hρ c.args
     rw [hargs] at hvs
     obtain ⟨x,y,hxy,h1,h2⟩:=hvs.two
     refine Res.wp (Yme (ty:=o.type) s.rel h1 h2 hk) ?_ fun x w' μ' v h' hx hr hv hk=>(by obtain ⟨v2,hv2,hk⟩:=Zjl hk; cases hv2; exact hn x w' μ' v h' hx hr hv hk)
     have hat:c.argTypes=#[u,u]:=by
      apply Array.ext'; simpa using hts
     simp [execOp,he,resolve,hcal,invoke,builtin,hxy,hat]
    ·exact hk.elim
   ·exact hk.elim
  ·rename_i hcal
   split at hk
   ·rename_i a b hargs
    have hvs:=Zsk hρ c.args
    rw [hargs] at hvs
    obtain ⟨x,y,hxy,h1,h2⟩:=hvs.two
    obtain ⟨v,z,hr,hv,hk⟩:=Yuh (ts:=c.argTypes) (t:=o.type) h1 h2 hk
    exact Res.wp (s:=Builtin.min_ c.argTypes o.type #[x,y]) ⟨z,w,μ,v,h,hr w,Ext.refl _,s.rel,hv,hk⟩ (by simp [execOp,he,resolve,hcal,invoke,builtin,hxy]) hn
   ·exact hk.elim
  ·rename_i hcal
   split at hk
   ·rename_i t hts
    split at hk
    ·rename_i x1 hargs
     have hvs:=Zsk hρ c.args
     rw [hargs] at hvs
     obtain ⟨x,hxy,h1⟩:=hvs.single
     refine Res.wp (Yoy (ty:=o.type) s.rel h1 hk) ?_ hn
     have hat:c.argTypes=#[t]:=by
      apply Array.ext'; simpa using hts
     simp [execOp,he,resolve,hcal,invoke,builtin,hxy,hat]
    ·exact hk.elim
   ·exact hk.elim
  ·rename_i hcal
   split at hk
   ·rename_i t rest hts
    split at hk
    ·rename_i mv kv hargs
     have hvs:=Zsk hρ c.args
     rw [hargs] at hvs
     obtain ⟨x,y,hxy,h1,h2⟩:=hvs.two
     have hat:c.argTypes[0]?=some t:=by rw [← Array.getElem?_toList,hts]; rfl
     refine Res.wp (Ynh (ty:=o.type) s.rel hat h1 h2 hk) ?_ hn
     simp [execOp,he,resolve,hcal,invoke,builtin,hxy]
    ·exact hk.elim
   ·exact hk.elim
  ·exact pure hk
 ·rename_i t l c he
  exact Res.wp (Ydh s.rel (hρ l) (hρ c) hk) (by simp [execOp,he]) hn
 ·rename_i t m he
  refine Res.wp (Yja (x:=m.map a.eval) s.rel ?_ hk) (by simp [execOp,he]) hn
  cases m with
  | none=>exact .inl ⟨rfl,rfl⟩
  | some m=>exact .inr ⟨_,_,rfl,rfl,hρ m⟩
 ·rename_i t x i ok he
  split at hk
  ·obtain ⟨z,v,hr,hv,hk⟩:=Yix s.rel (hρ x) (hρ i) hk
   exact Res.wp (s:=Instr.lookup t (a.eval x) (a.eval i) ok) ⟨z,w,μ,v,h,hr,Ext.refl _,s.rel,hv,hk⟩ (by simp [execOp,he]) hn
  ·obtain ⟨z,v,hr,hv,hk⟩:=Yly s.rel (hρ x) (hρ i) hk
   exact Res.wp (s:=Instr.lookup t (a.eval x) (a.eval i) ok) ⟨z,w,μ,v,h,hr,Ext.refl _,s.rel,hv,hk⟩ (by simp [execOp,he]) hn
 ·rename_i t m k x he
  split at hk
  ·obtain ⟨w',h',hr,hrel,hk⟩:=Yar s.rel (hρ m) (hρ k) (hρ x) hk
   unfold Oper.wp
   simp only [execOp,he,Sem.run_bind,hr,Result.andThen_ok,Sem.run_pure]
   exact hn undef w' μ .undef h' (Ext.refl _) hrel (.undef _) hk
  ·obtain ⟨w',h',hr,hrel,hk⟩:=Yco s.rel (hρ m) (hρ k) (hρ x) hk
   unfold Oper.wp
   simp only [execOp,he,Sem.run_bind,hr,Result.andThen_ok,Sem.run_pure]
   exact hn undef w' μ .undef h' (Ext.refl _) hrel (.undef _) hk
 ·rename_i t x he
  exact Res.wp (Yop s.rel (hρ x) hk) (by simp [execOp,he]) hn
 ·rename_i x st he
  exact Res.wp (Yne (ty:=o.type) s.rel (hρ x) hk) (by simp [execOp,he]) hn
 ·rename_i x he
  obtain ⟨z,v,hr,hv,hk⟩:=Yoe s.rel (hρ x) hk
  exact Res.wp (s:=Instr.entry (a.eval x)) ⟨z,w,μ,v,h,hr,Ext.refl _,s.rel,hv,hk⟩ (by simp [execOp,he]) hn
 ·rename_i a b x he
  split at hk
  ·exact Res.wp (Yri s.rel (hρ x) hk) (by simp [execOp,he]) hn
  ·exact pure hk
 ·rename_i op t x y yt he
  split at hk
  ·rename_i pa hx
   obtain ⟨pb,hy,hk⟩:=Zre hk
   have hy:=Option.some.inj hy
   have h1:=hρ x; rw [hx] at h1
   have h2:=hρ y; rw [hy] at h2
   obtain ⟨e,hr,hk⟩:=Yty (xo:=x) (yo:=y) s.rel h1 h2 hk
   unfold Oper.wp
   simp only [execOp,he]
   rw [Sem.run_bind,hr]
   exact hn _ w μ _ h (Ext.refl _) s.rel (.bool e) hk
  ·exact pure hk
 ·exact pure hk

theorem Ykt {tmps:Array Value} {t:Nat} {b:Bool} (h:VR μ (.bool b) (tmps.getD t undef)):tmps[t]?=some (.bool b):=by
 simp only [Array.getD_eq_getD_getElem?] at h
 cases hx:tmps[t]? with
 | none=>rw [hx] at h; simp [undef] at h; cases h
 | some x=>rw [hx] at h; simp at h; cases h; rfl

theorem Yma {ops:Array Oper} {env:Env} {a:Act} (s:St P base N w0 μ env h a w) {o:Oper} {K:Env→Zaa→Prop} (hk:Zmy P N ops env h o K) {next:Act→World→Prop} {Q:Exit→Act→World→Prop}
  (hn:∀ a w,Yoi P base N w0 μ K a w→next a w):if Region.wanted o (yielded ops a.tmps) then o.wp P a w next Q else next (a.put o.dst undef) w:=by
 have fin:∀ {env:Env} {v:Zas} {x:Value} {μ':List Pl} {h':Zaa} {w':World},St P base N w0 μ env h a w→Ext μ μ'→Rel P base w0 μ' h' w'→VR μ' v x→Zsb N env o.dst v (fun env'=>K env' h')→next (a.put o.dst x) w':=by
  intro env v x μ' h' w' s hx hr hv hk
  obtain ⟨env',s',hk⟩:=s.put hx hr hv hk
  exact hn _ _ ⟨μ',env',h',hx,s',hk⟩
 unfold Zmy at hk
 split at hk
 ·rename_i hg
  have:Region.wanted o (yielded ops a.tmps)=true:=by simp [Region.wanted,hg]
  rw [if_pos this]
  exact Ysc s hk fun x w' μ' v h' hx hr hv hk=>fin s hx hr hv hk
 ·rename_i j want hg
  split at hk
  ·rename_i t ht
   split at hk
   ·rename_i b hb
    have henv:=s.env t
    rw [hb] at henv
    have hy:yielded ops a.tmps j=some b:=by
     unfold yielded
     rw [ht]; simp only [Option.bind_some,Ykt henv]
    have hwant:Region.wanted o (yielded ops a.tmps)=(b == want):=by simp [Region.wanted,hg,hy]
    rw [hwant]
    have hknow:∀ c,b=c→St P base N w0 μ (env.set t (.bool c)) h a w:=fun c e=>by subst e; exact s.know henv
    refine Yjg hk ?_ ?_
    ·rintro rfl hk
     have s':=hknow true rfl
     cases want with
     | true=>exact Ysc s' hk fun x w' μ' v h' hx hr hv hk=>fin s' hx hr hv hk
     | false=>exact fin s' (Ext.refl _) s.rel (.tup .nil) hk
    ·rintro rfl hk
     have s':=hknow false rfl
     cases want with
     | false=>exact Ysc s' hk fun x w' μ' v h' hx hr hv hk=>fin s' hx hr hv hk
     | true=>exact fin s' (Ext.refl _) s.rel (.tup .nil) hk
   ·rename_i hb
    have henv:=s.env t
    rw [hb] at henv
    have hy:yielded ops a.tmps j=none:=by
     unfold yielded
     rw [ht]; simp only [Option.bind_some]
     have:a.tmps[t]?=none ∨ a.tmps[t]?=some (.tuple #[]):=by
      simp only [Array.getD_eq_getD_getElem?] at henv
      cases hx:a.tmps[t]? with
      | none=>exact .inl rfl
      | some x=>
       rw [hx] at henv
       simp only [Option.getD_some] at henv
       cases henv with
       | tup hv => 
        have:=hv.length
        rename_i xs
        have:xs=#[]:=by apply Array.ext'; exact List.eq_nil_of_length_eq_zero (by simpa using this.symm)
        subst this; exact .inr rfl
     rcases this with h | h <;> rw [h]
    have hwant:Region.wanted o (yielded ops a.tmps)=false:=by simp [Region.wanted,hg,hy]
    rw [hwant]
    exact fin s (Ext.refl _) s.rel (.tup .nil) hk
   ·exact hk.elim
  ·exact hk.elim

theorem Yqt {ops:Array Oper} {Q:Exit→Act→World→Prop}:∀ (l:List Oper) {μ:List Pl} {h:Zaa} {w:World} {env:Env} {a:Act},St P base N w0 μ env h a w→∀ {K:Env→Zaa→Prop},Yvj P N ops l env h K →
  (∀ a w,Yoi P base N w0 μ K a w→Q .normal a w)→wpList P ops Q l a w
 | [],μ,h,w,env,a,s,K,hk,hq=>hq a w ⟨μ,env,h,Ext.refl _,s,hk⟩
 | o :: r,μ,h,w,env,a,s,K,hk,hq=>by
  have hstep:=Yma (next:=wpList P ops Q r) (Q:=Q) s hk (fun a' w' ⟨μ',env',h',hx,s',hk'⟩=>Yqt r s' hk' (fun a w ⟨μ2,env2,h2,hx2,s2,k2⟩=>hq a w ⟨μ2,env2,h2,hx.trans hx2,s2,k2⟩))
  unfold wpList
  split
  ·rename_i hw; rw [if_pos hw] at hstep; exact .inl hstep
  ·rename_i hw; rw [if_neg hw] at hstep; exact hstep
end
end Go.Sim

set_option linter.unusedSimpArgs false
namespace Go.Sim
open Go Go.RowKit

section
variable {P:Program} {K K':Zas→Zaa→Prop} {k k':Zas→Prop}

theorem Yjv {o:Option Zas} {K K':Bool→Prop} (h:Zbr o K) (m:∀ b,K b→K' b):Zbr o K':=by
 unfold Zbr at *; split at h <;> first | exact m _ h | exact h.elim
theorem Ymx {q:IntKind} {o:Option Zas} {K K':Int→Prop} (h:Zck q o K) (m:∀ b,K b→K' b):Zck q o K':=by
 unfold Zck at *; split at h <;> first | exact ⟨h.1,m _ h.2⟩ | exact h.elim
theorem Zxt {o:Option Zas} {K K':List Nat→Prop} (h:Zbn o K) (m:∀ b,K b→K' b):Zbn o K':=by
 unfold Zbn at *; split at h <;> first | exact m _ h | exact h.elim
theorem Zqp {o:Option Zas} {K K':Option (Nat × Nat)→Prop} (h:Zfc o K) (m:∀ b,K b→K' b):Zfc o K':=by
 unfold Zfc at *; split at h <;> first | exact m _ h | exact h.elim
theorem Yon {o:Option Zas} {K K':Option (Nat × Nat)→Nat→Nat→Bool→Prop} (h:xSl o K) (m:∀ a b c d,K a b c d→K' a b c d):xSl o K':=by
 unfold xSl at *; split at h <;> first | exact m _ _ _ _ h | exact h.elim
theorem Yki {o:Option Zas} {K K':Option Nat→Prop} (h:Yhp o K) (m:∀ b,K b→K' b):Yhp o K':=by
 unfold Yhp at *; split at h <;> first | exact m _ h | exact h.elim
theorem Zqa {o:Option Zas} (h:Zzf o k) (m:∀ b,k b→k' b):Zzf o k':=by
 unfold Zzf at *; split at h <;> first | exact m _ h | exact h.elim
theorem Zzn {cs:List Zas} {K K':Zas→List Zas→Prop} (h:Zag cs K) (m:∀ a b,K a b→K' a b):Zag cs K':=by
 unfold Zag at *; split at h <;> first | exact m _ _ h | exact h.elim
theorem Ydc {cs:List Zas} {K K':Prop} (h:Zbu cs K) (m:K→K'):Zbu cs K':=by
 unfold Zbu at *; split at h <;> first | exact m h | exact h.elim
theorem Zgf {o:Option (List Zas)} {K K':List Zas→Prop} (h:Zcb o K) (m:∀ b,K b→K' b):Zcb o K':=by
 unfold Zcb at *; split at h <;> first | exact m _ h | exact h.elim
theorem Zzg {o:Option Zaa} {K K':Zaa→Prop} (h:Zbx o K) (m:∀ b,K b→K' b):Zbx o K':=by
 unfold Zbx at *; split at h <;> first | exact m _ h | exact h.elim
theorem Ylx {v:Zas} {K K':List Zas→Prop} (h:Zmv v K) (m:∀ b,K b→K' b):Zmv v K':=by
 unfold Zmv at *; split at h <;> first | exact m _ h | exact h.elim
theorem Ykf {v:Zas} {K K':List Zas→Prop} (h:Zru v K) (m:∀ b,K b→K' b):Zru v K':=by
 unfold Zru at *; split at h <;> first | exact m _ h | exact h.elim
theorem Zyh {o:Option Field} {K K':Field→Prop} (h:Zrv o K) (m:∀ b,K b→K' b):Zrv o K':=by
 unfold Zrv at *; split at h <;> first | exact m _ h | exact h.elim
theorem Zcv {p:Prop} [Decidable p] {K K':Prop} (h:chk p K) (m:K→K'):chk p K':=by
 unfold chk at *; split at h <;> first | exact m h | exact h.elim
theorem Zmj {o:Option Zas} {d:Int} {K K':Int→Prop} (h:Zjz o d K) (m:∀ b,K b→K' b):Zjz o d K':=by
 unfold Zjz at *; split at h <;> first | exact m _ h | exact h.elim
theorem Yjo {b:Bool} {A B A' B':Prop} (h:bcase b A B) (m:A→A') (n:B→B'):bcase b A' B':=by
 unfold bcase at *; split at h <;> first | exact m h | exact n h
theorem Znp {s:Sh} {o:Option Zas} (h:xv s o k) (m:∀ v,k v→k' v):xv s o k':=by
 cases s <;> simp only [xv] at *
 ·exact Yjv h fun _=>m _
 ·exact Ymx h fun _=>m _
 ·exact Zxt h fun _=>m _
 ·exact Zqp h fun _=>m _
 ·exact Yon h fun _ _ _ _=>m _
 ·exact Yki h fun _=>m _
 ·exact Zqa h m
theorem Yfg:∀ {ss:List Sh} {cs:List Zas} {K K':List Zas→Prop},xs ss cs K→(∀ v,K v→K' v)→xs ss cs K'
 | [],_,_,_,h,m=>Ydc h (m _)
 | _ :: _,_,_,_,h,m=>Zzn h fun _ _ h=>Znp h fun _ h=>Yfg h fun _=>m _
theorem Ykp {t:TypeId} {v:Zas} (h:xt P t v k) (m:∀ v,k v→k' v):xt P t v k':=by
 unfold xt at *
 split at h
 ·exact Ylx h fun _ h=>Yfg h fun _=>m _
 ·exact Znp h m
theorem Yhf:∀ {ts:List TypeId} {cs:List Zas} {K K':List Zas→Prop},xts P ts cs K→(∀ v,K v→K' v)→xts P ts cs K'
 | [],_,_,_,h,m=>Ydc h (m _)
 | _ :: _,_,_,_,h,m=>Zzn h fun _ _ h=>Ykp h fun _ h=>Yhf h fun _=>m _
theorem Ybp {ts:List TypeId} {v:Zas} (h:Ysp P ts v k) (m:∀ v,k v→k' v):Ysp P ts v k':=by
 unfold Ysp at *
 split at h
 ·exact m _ h
 ·exact Ykp h m
 ·exact Ykf h fun _ h=>Yhf h fun _=>m _
theorem Yiv {t:TypeId} {h:Zaa} {p:Zas} (hh:Zvs P t h p k) (m:∀ v,k v→k' v):Zvs P t h p k':=by
 unfold Zvs at *
 split at hh
 ·exact Zgf hh fun _ h=>Yfg h fun _=>m _
 ·exact Znp hh m
theorem Yfk {t:TypeId} {h:Zaa} {p v:Zas} {K K':Zaa→Prop} (hh:Zzo P t h p v K) (m:∀ v,K v→K' v):Zzo P t h p v K':=by
 unfold Zzo at *
 split at hh
 ·split at hh
  ·exact Zzg hh m
  ·exact hh.elim
 ·exact hh.elim
theorem Yie {a b:Option (Nat × Nat)} {K K':Bool→Prop} (h:Yep a b K) (m:∀ b,K b→K' b):Yep a b K':=by
 unfold Yep at *
 split at h
 ·exact m _ h
 ·split at h
  ·exact m _ h
  ·exact h.elim
theorem Zkp {a:Option (Nat × Nat)} {K K':Nat→Nat→Prop} (h:Zbi a K) (m:∀ b o,K b o→K' b o):Zbi a K':=by
 obtain ⟨b,o,rfl,h⟩:=Zbp h
 exact m _ _ h
theorem Yhk {t:TypeId} {x y:Zas} {K K':Bool→Prop} (h:eqA P t x y K) (m:∀ b,K b→K' b):eqA P t x y K':=by
 unfold eqA at *
 split at h <;> (try exact h.elim) <;> split at h <;> (try exact h.elim)
 ·exact Zcv h (m _)
 ·exact m _ h
 ·exact Zcv h (m _)
 ·exact Zcv h fun h=>Yie h m
 ·split at h
  ·exact m _ h
  ·exact h.elim
 ·exact Zcv h fun h=>⟨h.1,m _ h.2⟩
theorem Ync {op:BinOp} {t:TypeId} {x y:Zas} (h:Ynx P op t x y k) (m:∀ v,k v→k' v):Ynx P op t x y k':=by
 unfold Ynx at *
 split at h
 ·exact Yhk h fun _=>m _
 ·exact Yhk h fun _=>m _
 ·split at h
  ·split at h
   ·split at h <;> first
     | exact h.elim
     | exact Zcv h (m _)
     | exact Zcv h fun h=>⟨h.1,m _ h.2⟩
     | exact ⟨h.1,m _ h.2⟩
   ·exact h.elim
  ·split at h
   ·split at h <;> first
     | exact h.elim
     | exact ⟨h.1,m _ h.2⟩
     | exact m _ h
   ·exact h.elim
  ·exact h.elim
theorem Zzv {t:TypeId} {cs:List Zas} {off:Nat} (h:Zyt P t cs off k) (m:∀ v,k v→k' v):Zyt P t cs off k':=by
 unfold Zyt at *
 split at h
 ·exact m _ h
 ·exact Zcv h fun h=>Zqa h m
theorem Yms {ts:Array TypeId} {xs:List Zas} (h:Yse P ts xs k) (m:∀ v,k v→k' v):Yse P ts xs k':=by
 unfold Yse at *
 split at h <;> first | exact h.elim | exact Zcv h (m _)
theorem Yik {s d:TypeId} {x:Zas} (h:Yew P s d x k) (m:∀ v,k v→k' v):Yew P s d x k':=by
 unfold Yew at *
 split at h
 ·split at h <;> first | exact h.elim | exact Zcv h (m _)
 ·split at h <;> first | exact h.elim | exact Zcv h (m _) | exact Zcv h fun h=>⟨h.1,m _ h.2⟩
 ·exact h.elim
theorem Yft {t:TypeId} {x:Zas} {lo hi mx:Option Zas} (h:Zzu P t x lo hi mx k) (m:∀ v,k v→k' v):Zzu P t x lo hi mx k':=by
 unfold Zzu at *
 split at h
 ·split at h
  ·exact Zcv h fun h=>Zmj h fun _ h=>Zmj h fun _ h=>⟨h.1,m _ h.2⟩
  ·exact h.elim
 ·split at h
  ·refine Zcv h fun h=>Zcv h fun h=>Zmj h fun _ h=>Zmj h fun _ h=>Zmj h fun _ h=>⟨h.1,?_⟩
   have h2:=h.2
   split at h2
   ·exact ⟨h2.1,m _ h2.2⟩
   ·exact ⟨fun a=>m _ (h2.1 a),fun a=>m _ (h2.2 a)⟩
  ·exact h.elim
 ·exact h.elim
theorem Zro {env:Env} {o:Oper} (h:Zrs P env o k) (m:∀ v,k v→k' v):Zrs P env o k':=by
 obtain ⟨dst,op,type,pos,after,guard⟩:=o
 unfold Zrs at *
 cases op <;> simp only at h ⊢ <;> (try exact h.elim)
 case move x=>exact m _ h
 case assign x=>exact m _ h
 case pick c a b=>
  unfold Ylh at *
  split at h
  ·exact Yjo h (m _) (m _)
  ·exact h.elim
 case nilCheck x=>
  unfold Yuw at *
  split at h <;> first | exact h.elim | exact m _ h | exact Zkp h fun _ _=>m _
 case fieldAddr t x i=>
  unfold Zje at *
  split at h
  ·exact Zyh h fun _ h=>Zcv h fun h=>Zcv h fun h=>Zkp h fun _ _=>m _
  ·exact h.elim
 case field t x i=>
  unfold Ybt at *
  split at h
  ·exact Zyh h fun _ h=>Zzv h m
  ·exact h.elim
 case indexAddr t x i=>
  unfold Zoe at *
  split at h
  ·split at h
   ·split at h <;> first | exact h.elim | exact Zcv h fun h=>⟨h.1,Zkp h.2 fun _ _=>m _⟩
   ·split at h <;> first | exact h.elim | exact Zcv h fun h=>⟨h.1,Zkp h.2 fun _ _=>m _⟩
   ·exact h.elim
  ·exact h.elim
 case index t x i=>
  unfold Ycz at *
  split at h
  ·split at h
   ·split at h
    ·exact ⟨h.1,m _ h.2⟩
    ·exact h.elim
   ·split at h
    ·exact Zcv h fun h=>⟨h.1,Zzv h.2 m⟩
    ·exact h.elim
   ·exact h.elim
  ·exact h.elim
 case slice t x lo hi mx=>exact Yft h m
 case binOp op t x y yt=>exact Ync h m
 case unOp op t x=>
  unfold unA at *
  split at h
  ·split at h <;> first | exact h.elim | exact m _ h
  ·split at h <;> first | exact h.elim | exact m _ h
  ·exact h.elim
 case convert s d x=>exact Yik h m
 case extract x i=>
  unfold Zto at *
  split at h
  ·exact Zqa h m
  ·exact h.elim
 case makeFunc fn first caps=>
  cases fn <;> simp only at h ⊢ <;> first | exact h.elim | exact Zcv h (m _)
 case call c=>
  split at h
  ·exact Yms h m
  ·exact h.elim
theorem Zya {h:Zaa} {j:Nat} {e:TypeId} {A B:List Zas→Prop} (hh:Zqd h j e A) (m:∀ cs,A cs→B cs):Zqd h j e B:=by
 unfold Zqd at *
 split at hh
 ·exact ⟨hh.1,m _ hh.2⟩
 ·exact hh.elim
theorem Yde {t:TypeId} {h:Zaa} {s x:Zas} (hh:Zcz P t h s x K) (m:∀ v h,K v h→K' v h):Zcz P t h s x K':=by
 unfold Zcz at *
 split at hh <;> (try exact hh.elim)
 split at hh <;> (try exact hh.elim)
 split at hh <;> (try exact hh.elim)
 refine Zgf hh fun new h=>⟨h.1,?_⟩
 have h2:=h.2
 split at h2
 ·exact ⟨fun a=>m _ _ (h2.1 a),fun a=>⟨(h2.2 a).1,m _ _ (h2.2 a).2⟩⟩
 ·rcases h2 with ⟨a,b⟩ | ⟨a,b⟩ | ⟨a,b⟩
  ·exact .inl ⟨a,Zya b fun _ h=>⟨h.1,m _ _ h.2⟩⟩
  ·exact .inr (.inl ⟨a,Zya b fun _ h=>⟨h.1,m _ _ h.2⟩⟩)
  ·exact .inr (.inr ⟨a,Zgf b fun _=>m _ _⟩)
theorem Zwx:∀ {cs:List Zas} {K K':List Nat→Prop},Zqw cs K→(∀ s,K s→K' s)→Zqw cs K'
 | [],_,_,h,m=>m _ h
 | .int k n :: r,_,_,h,m=>by
  unfold Zqw at *
  exact Zcv h fun h=>⟨h.1,Zwx h.2 fun _=>m _⟩
 | .undef :: _,_,_,h,_ | .bool _ :: _,_,_,h,_ | .str _ :: _,_,_,h,_ | .ptr _ :: _,_,_,h,_ | .slice .. :: _,_,_,h,_ | .map _ :: _,_,_,h,_ | .fn .. :: _,_,_,h,_ | .nilFn :: _,_,_,h,_ | .iter _ :: _,_,_,h,_
 | .agg _ :: _,_,_,h,_ | .tup _ :: _,_,_,h,_=>by unfold Zqw at h; exact h.elim
theorem Yll {s d:TypeId} {h:Zaa} {x:Zas} {K K':Zas→Prop} (hh:Ytb P s d h x K) (m:∀ v,K v→K' v):Ytb P s d h x K':=by
 unfold Ytb at *
 split at hh
 ·refine Zcv hh fun h=>?_
  split at h
  ·exact Zgf h fun _ h=>Zwx h fun _=>m _
  ·exact h.elim
 ·exact hh.elim
theorem Ynd {x y:Zas} {K K':Zas→Prop} (hh:Yta x y K) (m:∀ v,K v→K' v):Yta x y K':=by
 unfold Yta at *
 split at hh
 ·split at hh
  ·exact Zcv hh (m _)
  ·exact hh.elim
 ·exact hh.elim
theorem Zxc {t:TypeId} {a b:Zas} {h:Zaa} {K K':Zas→Zaa→Prop} (hh:Zmb P t a b h K) (m:∀ v h,K v h→K' v h):Zmb P t a b h K':=by
 unfold Zmb at *
 split at hh
 ·refine Zgf hh fun _ h=>Zcv h fun h=>?_
  unfold Zck at *
  split at h
  ·refine ⟨h.1,?_⟩
   replace h:=h.2
   split at h
   ·exact ⟨h.1,h.2.1,m _ _ h.2.2⟩
   ·exact h.elim
  ·exact h.elim
 ·exact hh.elim
theorem Zgn {h:Zaa} {m:Option Nat} {K K':List ME→Nat→Prop} (hh:Zdy h m K) (m':∀ a b,K a b→K' a b):Zdy h m K':=by
 unfold Zdy at *
 split at hh
 ·exact m' _ _ hh
 ·split at hh
  ·exact m' _ _ hh
  ·exact hh.elim
theorem Yjs {es:List ME} {s:List Nat} {K K':Option Zas→Prop} (hh:Zsr es s K) (m:∀ a,K a→K' a):Zsr es s K':=by
 unfold Zsr at *; split at hh <;> first | exact m _ hh | exact hh.elim
theorem Ylf {es:List ME} {clk:Nat} {s:List Nat} {v:Zas} {K K':List ME→Nat→Prop} (hh:Yjy es clk s v K) (m:∀ a b,K a b→K' a b):Yjy es clk s v K':=by
 unfold Yjy at *; split at hh <;> first | exact m _ _ hh | exact hh.elim
theorem Zwb {m:Option Nat} {K K':Nat→Prop} (hh:xMp m K) (mm:∀ a,K a→K' a):xMp m K':=by
 unfold xMp at *; split at hh <;> first | exact mm _ hh | exact hh.elim
theorem Yif {h:Zaa} {r:Nat} {K K':List Nat→Nat→Prop} (hh:Yiw h r K) (m:∀ a b,K a b→K' a b):Yiw h r K':=by
 unfold Yiw at *; split at hh <;> first | exact m _ _ hh | exact hh.elim
theorem Zxw {h:Zaa} {r:Nat} {K K':Option Nat→Nat→List Nat→Nat→Prop} (hh:Zxg h r K) (m:∀ a b c d,K a b c d→K' a b c d):Zxg h r K':=by
 unfold Zxg at *; split at hh <;> first | exact m _ _ _ _ hh | exact hh.elim
theorem Ydk {t:TypeId} {h:Zaa} {x i:Zas} {ok:Bool} (hh:Zum P t h x i ok k) (m:∀ v,k v→k' v):Zum P t h x i ok k':=by
 unfold Zum at *
 split at hh
 ·refine Zcv hh fun h=>?_
  split at h
  ·exact Zxt h fun _ h=>Zqa h fun _ h=>Zgn h fun _ _ h=>Yjs h fun _ h=>Znp h fun _=>m _
  ·exact h.elim
 ·exact hh.elim
theorem Zyb {t:TypeId} {h:Zaa} {x i v:Zas} (hh:Zmd P t h x i v K) (m:∀ v h,K v h→K' v h):Zmd P t h x i v K':=by
 unfold Zmd at *
 split at hh
 ·refine Zcv hh fun h=>?_
  split at h
  ·exact Zwb h fun _ h=>Zxt h fun _ h=>Zgn h fun _ _ h=>Ylf h fun _ _=>m _ _
  ·exact h.elim
 ·exact hh.elim
theorem Yax {t:TypeId} {r:Option Zas} {h:Zaa} (hh:Zrk P t r h K) (m:∀ v h,K v h→K' v h):Zrk P t r h K':=by
 unfold Zrk at *
 split at hh <;> first | exact m _ _ hh | exact Zcv hh (m _ _) | exact hh.elim
theorem Yem {t:TypeId} {x:Zas} {h:Zaa} (hh:Zzk P t x h K) (m:∀ v h,K v h→K' v h):Zzk P t x h K':=by
 unfold Zzk at *
 split at hh <;> first | exact hh.elim | exact Zcv hh (m _ _) | exact Zcv hh fun h=>Zgn h fun _ _=>m _ _
theorem Ykh {m:Option Nat} {A B A' B':Prop} (hh:Yux m A B) (p:A→A') (q:B→B'):Yux m A' B':=by
 unfold Yux at *; split at hh <;> first | exact p hh | exact q hh
theorem Yjt {ty:TypeId} {x:Zas} {st:Bool} {h:Zaa} (hh:Yiq P ty x st h K) (m:∀ v h,K v h→K' v h):Yiq P ty x st h K':=by
 unfold Yiq at *
 split at hh
 ·split at hh
  ·exact Yif hh fun _ _ h=>⟨fun a=>⟨(h.1 a).1,m _ _ (h.1 a).2⟩,fun a=>m _ _ (h.2 a)⟩
  ·exact Zxw hh fun _ _ _ _ h=>Ykh h (m _ _) fun h=>Zgn h fun _ _ h=>⟨h.1,fun a=>m _ _ (h.2.1 a),fun e he hn=>Znp (h.2.2 e he hn) fun _ h=>Znp h fun _=>m _ _⟩
 ·exact hh.elim
theorem Ygb {ty:TypeId} {x:Zas} {h:Zaa} (hh:Zzm P ty x h k) (m:∀ v,k v→k' v):Zzm P ty x h k':=by
 unfold Zzm at *
 split at hh
 ·exact Zxw hh fun _ _ _ _ h=>Zwb h fun _ h=>Zgn h fun _ _ h=>⟨h.1,h.2.imp fun _ h=>⟨h.1,h.2.imp fun _ h=>⟨h.1,Znp h.2 fun _ h=>Znp h fun _=>m _⟩⟩⟩
 ·exact hh.elim
theorem Zwy {h:Zaa} {a b:Option (Nat × Nat)} {K K':Bool→Prop} (hh:Zvg h a b K) (m:∀ e,K e→K' e):Zvg h a b K':=by
 unfold Zvg at *
 split at hh
 ·exact m _ hh
 ·split at hh
  ·exact m _ hh
  ·exact hh.imp (fun h=>⟨h.1,m _ h.2⟩) fun h=>⟨h.1,h.2.1,h.2.2.1,m _ h.2.2.2⟩
theorem Ykq {op:BinOp} {t:TypeId} {h:Zaa} {a b:Option (Nat × Nat)} (hh:Yqy P op t h a b K) (m:∀ v h,K v h→K' v h):Yqy P op t h a b K':=by
 unfold Yqy at *
 split at hh
 ·exact Zcv hh fun h=>Zwy h fun _=>m _ _
 ·exact Zcv hh fun h=>Zwy h fun _=>m _ _
 ·exact hh.elim
theorem Yit {r:Option (Option (Nat × Zas))} {K K':Option Zas→Prop} (hh:Zxa r K) (m:∀ e,K e→K' e):Zxa r K':=by
 unfold Zxa at *; split at hh <;> first | exact m _ hh | exact hh.elim
theorem Ynk {r:Option (Option (Nat × Zas))} {es:List ME} {clk:Nat} {p:Nat × Nat} {v:Zas} {K K':List ME→Nat→Prop} (hh:Ypr r es clk p v K) (m:∀ a b,K a b→K' a b):Ypr r es clk p v K':=by
 unfold Ypr at *; split at hh <;> first | exact m _ _ hh | exact hh.elim
theorem Yko {r:Option (Option (Nat × Zas))} {es:List ME} {K K':List ME→Prop} (hh:Yqw r es K) (m:∀ a,K a→K' a):Yqw r es K':=by
 unfold Yqw at *; split at hh <;> first | exact m _ hh | exact hh.elim
theorem Yay {t:TypeId} {h:Zaa} {x i:Zas} {ok:Bool} (hh:Zrd P t h x i ok k) (m:∀ v,k v→k' v):Zrd P t h x i ok k':=by
 unfold Zrd at *
 split at hh
 ·refine Zcv hh fun h=>?_
  split at h
  ·exact Zqp h fun _ h=>Zkp h fun _ _ h=>Zqa h fun _ h=>Zgn h fun _ _ h=>Yit h fun _ h=>Znp h fun _=>m _
  ·exact h.elim
 ·exact hh.elim
theorem Zvu {t:TypeId} {h:Zaa} {x i v:Zas} (hh:Zkr P t h x i v K) (m:∀ v h,K v h→K' v h):Zkr P t h x i v K':=by
 unfold Zkr at *
 split at hh
 ·refine Zcv hh fun h=>?_
  split at h
  ·exact Zwb h fun _ h=>Zqp h fun _ h=>Zkp h fun _ _ h=>Zgn h fun _ _ h=>Ynk h fun _ _=>m _ _
  ·exact h.elim
 ·exact hh.elim
theorem Ycu {t:TypeId} {h:Zaa} {x i:Zas} (hh:Zun P t h x i K) (m:∀ v h,K v h→K' v h):Zun P t h x i K':=by
 unfold Zun at *
 split at hh
 ·refine Zcv hh fun h=>?_
  split at h
  ·exact Zwb h fun _ h=>Zqp h fun _ h=>Zkp h fun _ _ h=>Zgn h fun _ _ h=>Yko h fun _=>m _ _
  ·exact h.elim
 ·exact hh.elim
theorem Yoo {env:Env} {h:Zaa} {o:Oper} (hh:opA P env h o K) (m:∀ v h,K v h→K' v h):opA P env h o K':=by
 obtain ⟨dst,op,type,pos,after,guard⟩:=o
 unfold opA at *
 cases op <;> simp only at hh ⊢
 case load t a=>exact Zcv hh fun h=>Yiv h fun _=>m _ _
 case store t a x=>exact Zcv hh fun h=>Yfk h fun _=>m _ _
 case alloc t=>exact Zgf hh fun _=>m _ _
 case box t x=>exact Zgf hh fun _=>m _ _
 case build t ps=>
  refine Zgf hh fun _ h=>?_
  split at h
  ·exact Zcv h fun h=>Zgf h fun _=>m _ _
  ·exact Zcv h fun h=>Zgf h fun _=>m _ _
  ·exact h.elim
 case buildSlice t n ps=>
  unfold Zpi at *
  split at hh
  ·exact Zgf hh fun _ h=>Zcv h fun h=>Zgf h fun _=>m _ _
  ·exact hh.elim
 case call c=>
  unfold Ymk at *
  split at hh
  ·split at hh
   ·exact Zah.mono hh fun _ _ h=>Ybp h fun _=>m _ _
   ·unfold Yvr Yvn at *
    split at hh
    ·exact Zah.mono hh fun _ _ h=>Ybp h fun _=>m _ _
    ·exact hh.elim
  ·split at hh
   ·refine Zcv hh fun h=>?_
    split at h
    ·exact Yde h fun _ _ h=>Znp h fun _=>m _ _
    ·exact h.elim
   ·exact hh.elim
  ·split at hh
   ·exact Ynd hh fun _=>m _ _
   ·exact hh.elim
  ·split at hh
   ·split at hh
    ·unfold Ygt at *
     split at hh
     ·split at hh
      ·refine ⟨fun h0=>m _ _ (hh.1 h0),fun h0=>Zgf (hh.2 h0) fun _ h=>Zcv h fun h=>Zzg h fun _=>m _ _⟩
      ·exact hh.elim
     ·exact hh.elim
    ·exact hh.elim
   ·exact hh.elim
  ·split at hh
   ·split at hh
    ·exact Ycu hh m
    ·exact hh.elim
   ·exact hh.elim
  ·exact Zro hh fun _=>m _ _
 case makeSlice t l c=>exact Zxc hh m
 case makeMap t r=>exact Yax hh m
 case lookup t x i ok=>
  split at hh
  ·exact Yay hh fun _=>m _ _
  ·exact Ydk hh fun _=>m _ _
 case mapUpdate t mm k v=>
  split at hh
  ·exact Zvu hh m
  ·exact Zyb hh m
 case binOp op t x y yt=>
  split at hh
  ·exact Zqp hh fun _ h=>Ykq h m
  ·exact Zro hh fun _=>m _ _
 case range t x=>exact Yem hh m
 case next x st=>exact Yjt hh m
 case entry x=>exact Ygb hh fun _=>m _ _
 case convert s d x=>
  split at hh
  ·exact Yll hh fun _=>m _ _
  ·exact Zro hh fun _=>m _ _
 all_goals exact Zro hh fun _=>m _ _
end
end Go.Sim

set_option linter.unusedSimpArgs false
namespace Go.Sim
open Go Go.RowKit

def Det {α:Type} (F:(α→Prop)→Prop):Prop:=∀ k,F k→∃ v,k v∧∀ k',k' v→F k'
theorem Det.ret {α:Type} (a:α):Det (fun k=>k a):=fun _ h=>⟨a,h,fun _ h=>h⟩
theorem Det.no {α:Type}:Det (fun _:α→Prop=>False):=fun _ h=>h.elim
theorem Det.and {α:Type} {p:Prop} {F:(α→Prop)→Prop} (d:Det F):Det (fun k=>p∧F k):=fun k ⟨hp,h⟩=>let ⟨v,hv,r⟩:=d k h; ⟨v,hv,fun k' h'=>⟨hp,r k' h'⟩⟩
theorem Det.chk {α:Type} {p:Prop} [Decidable p] {F:(α→Prop)→Prop} (d:Det F):Det (fun k=>chk p (F k)):=fun k h=>by
 have ⟨hp,h⟩:=Zbz h
 obtain ⟨v,hv,r⟩:=d k h
 exact ⟨v,hv,fun k' h'=>by unfold Sim.chk; rw [decide_eq_true hp]; exact r k' h'⟩
theorem Det.bind {α β:Type} {F:(α→Prop)→Prop} {G:α→(β→Prop)→Prop} (d:Det F) (e:∀ a,Det (G a)):Det (fun k=>F fun a=>G a k):=fun k h=>by
 obtain ⟨a,ha,r⟩:=d _ h
 obtain ⟨b,hb,q⟩:=e a k ha
 exact ⟨b,hb,fun k' h'=>r _ (q k' h')⟩
theorem Det.map {α β:Type} {F:(α→Prop)→Prop} (d:Det F) (f:α→β):Det (fun k=>F fun a=>k (f a)):=d.bind fun a=>Det.ret (f a)
theorem Det.bcase {α:Type} {b:Bool} {F G:(α→Prop)→Prop} (d:Det F) (e:Det G):Det (fun k=>bcase b (F k) (G k)):=by cases b <;> assumption

section
variable {P:Program}
theorem Ymq (s:Sh) (o:Option Zas):Det (xv s o):=by
 intro k h
 cases s <;> simp only [xv,Zbr,Zbn,Zfc,xSl,Yhp,Zzf,Zck] at * <;> split at h <;> first
  | exact h.elim
  | exact ⟨_,h,fun _ h=>h⟩
  | exact ⟨_,h.2,fun _ h'=>⟨h.1,h'⟩⟩
theorem Ygm (o:Option Zas):Det (Zzf o):=Ymq .any o
theorem Zwl (o:Option (List Zas)):Det (Zcb o):=fun k h=>by
 unfold Zcb at *; split at h <;> first | exact ⟨_,h,fun _ h=>h⟩ | exact h.elim
theorem Yqu:∀ (ss:List Sh) (cs:List Zas),Det (xs ss cs)
 | [],cs=>fun k h=>by
  simp only [xs,Zbu] at *; split at h <;> first | exact ⟨_,h,fun _ h=>h⟩ | exact h.elim
 | s :: ss,cs=>fun k h=>by
  simp only [xs,Zag] at *
  split at h
  ·exact ((Ymq s _).bind (G:=fun v k=>xs ss _ fun vs=>k (v :: vs)) fun v=>(Yqu ss _).map (v :: ·)) k h
  ·exact h.elim
theorem Ynq (t:TypeId) (h:Zaa) (p:Zas):Det (Zvs P t h p):=by
 intro k hh
 unfold Zvs at *
 split at hh
 ·exact ((Zwl _).bind (G:=fun cs k=>xs _ cs fun vs=>k (.agg vs)) fun cs=>(Yqu _ cs).map Zas.agg) k hh
 ·exact Ymq _ _ k hh
theorem Yno (a b:Option (Nat × Nat)):Det (Yep a b):=by
 intro k h
 unfold Yep at *
 split at h
 ·exact ⟨_,h,fun _ h=>h⟩
 ·split at h
  ·exact ⟨_,h,fun _ h=>h⟩
  ·exact h.elim
theorem Zub (a:Option (Nat × Nat)) (f:Nat→Nat→Zas):Det (fun k:Zas→Prop=>Zbi a fun b o=>k (f b o)):=by
 intro k h
 obtain ⟨b,o,rfl,h⟩:=Zbp h
 exact ⟨_,h,fun _ h=>h⟩
theorem Ymt (t:TypeId) (x y:Zas):Det (eqA P t x y):=by
 intro k h
 unfold eqA at *
 split at h <;> (try exact h.elim) <;> split at h <;> (try exact h.elim)
 ·exact (Det.ret _).chk k h
 ·exact ⟨_,h,fun _ h=>h⟩
 ·exact (Det.ret _).chk k h
 ·exact (Yno _ _).chk k h
 ·split at h
  ·exact ⟨_,h,fun _ h=>h⟩
  ·exact h.elim
 ·exact (Det.ret _).and.chk k h
theorem Ypi (op:BinOp) (t:TypeId) (x y:Zas):Det (Ynx P op t x y):=by
 intro k h
 unfold Ynx at *
 split at h
 ·exact (Ymt t x y).map _ k h
 ·exact (Ymt t x y).map _ k h
 ·split at h
  ·split at h
   ·split at h <;> first
     | exact h.elim
     | exact (Det.ret _).chk k h
     | exact (Det.ret _).and.chk k h
     | exact (Det.ret _).and k h
   ·exact h.elim
  ·split at h
   ·split at h <;> first
     | exact h.elim
     | exact (Det.ret _).and k h
     | exact ⟨_,h,fun _ h=>h⟩
   ·exact h.elim
  ·exact h.elim
theorem Ydu (t:TypeId) (cs:List Zas) (off:Nat):Det (Zyt P t cs off):=by
 intro k h
 unfold Zyt at *
 split at h
 ·exact ⟨_,h,fun _ h=>h⟩
 ·exact (Ygm _).chk k h
theorem Zny (o:Option Zas) (d:Int):Det (Zjz o d):=fun k h=>by
 unfold Zjz at *; split at h <;> first | exact ⟨_,h,fun _ h=>h⟩ | exact h.elim
theorem Ybr (o:Option Field):Det (Zrv o):=fun k h=>by
 unfold Zrv at *; split at h <;> first | exact ⟨_,h,fun _ h=>h⟩ | exact h.elim
theorem Ydq (s:List Nat) (lo hi:Option Zas):Det (Ztg s lo hi):=by
 unfold Ztg
 exact (Zny hi s.length).bind fun h=>(Zny lo 0).bind fun l=>(Det.ret _).and
theorem Yfi (a:Option (Nat × Nat)) (len cap:Nat) (ex:Bool) (sz:Nat) (lo hi mx:Option Zas):Det (Zkm a len cap ex sz lo hi mx):=by
 unfold Zkm
 refine (Zny mx cap).bind fun m=>(Zny hi len).bind fun h=>(Zny lo 0).bind fun l=>Det.and ?_
 intro k hk
 split at hk
 ·exact (Det.ret _).and k hk
 ·rename_i b o
  by_cases hlm:l < m
  ·exact ⟨_,hk.1 hlm,fun k' h'=>⟨fun _=>h',fun h=>absurd hlm h⟩⟩
  ·exact ⟨_,hk.2 hlm,fun k' h'=>⟨fun h=>absurd h hlm,fun _=>h'⟩⟩
theorem Ymd (env:Env) (o:Oper):Det (Zrs P env o):=by
 intro k h
 obtain ⟨dst,op,type,pos,after,guard⟩:=o
 unfold Zrs at *
 cases op <;> simp only at h ⊢ <;> (try exact h.elim)
 case move x=>exact ⟨_,h,fun _ h=>h⟩
 case assign x=>exact ⟨_,h,fun _ h=>h⟩
 case pick c a b=>
  unfold Ylh at *
  split at h
  ·exact (Det.ret _).bcase (Det.ret _) k h
  ·exact h.elim
 case nilCheck x=>
  unfold Yuw at *
  split at h <;> first | exact h.elim | exact ⟨_,h,fun _ h=>h⟩ | exact Zub _ (fun b o=>.ptr (some (b,o))) k h
 case fieldAddr t x i=>
  unfold Zje at *
  split at h
  ·rename_i a _
   exact (Det.bind (F:=Zrv (Zyk P t i)) (G:=fun (f:Field) (k:Zas→Prop)=>chk ((P.underlying f.type).isSome=true) (chk (P.cellsOf f.type≠0) (Zbi a fun b o=>k (Zas.ptr (some (b,o + f.offset)))))) (Ybr _) fun f=>Det.chk (Det.chk (Zub a fun b o=>Zas.ptr (some (b,o + f.offset))))) k h
  ·exact h.elim
 case field t x i=>
  unfold Ybt at *
  split at h
  ·exact (Ybr _).bind (G:=fun f k=>Zyt P f.type _ f.offset k) (fun f=>Ydu _ _ _) k h
  ·exact h.elim
 case indexAddr t x i=>
  unfold Zoe at *
  split at h
  ·split at h
   ·split at h <;> first | exact h.elim | exact (Zub _ (fun b o=>Zas.ptr (some (b,o + _)))).and.chk k h
   ·split at h <;> first | exact h.elim | exact (Zub _ (fun b o=>Zas.ptr (some (b,o + _)))).and.chk k h
   ·exact h.elim
  ·exact h.elim
 case index t x i=>
  unfold Ycz at *
  split at h
  ·split at h
   ·split at h
    ·exact (Det.ret _).and k h
    ·exact h.elim
   ·split at h
    ·exact (Ydu _ _ _).and.chk k h
    ·exact h.elim
   ·exact h.elim
  ·exact h.elim
 case slice t x lo hi mx=>
  unfold Zzu at *
  split at h
  ·split at h
   ·exact (Ydq _ _ _).chk k h
   ·exact h.elim
  ·split at h
   ·exact (Yfi _ _ _ _ _ _ _ _).chk.chk k h
   ·exact h.elim
  ·exact h.elim
 case binOp op t x y yt=>exact Ypi _ _ _ _ k h
 case unOp op t x=>
  unfold unA at *
  split at h
  ·split at h <;> first | exact h.elim | exact ⟨_,h,fun _ h=>h⟩
  ·split at h <;> first | exact h.elim | exact ⟨_,h,fun _ h=>h⟩
  ·exact h.elim
 case convert s d x=>
  unfold Yew at *
  split at h
  ·split at h <;> first | exact h.elim | exact (Det.ret _).chk k h
  ·split at h <;> first | exact h.elim | exact (Det.ret _).chk k h | exact (Det.ret _).and.chk k h
  ·exact h.elim
 case extract x i=>
  unfold Zto at *
  split at h
  ·exact Ygm _ k h
  ·exact h.elim
 case makeFunc fn first caps=>
  cases fn <;> simp only at h ⊢ <;> first | exact h.elim | exact (Det.ret _).chk k h
 case call c=>
  split at h
  ·unfold Yse at *
   split at h <;> first | exact h.elim | exact (Det.ret _).chk k h
  ·exact h.elim

def Yag (P:Program) (op:Op):Bool:=
 match op with
 | .binOp _ t _ y _=>(match Zug P t with | false=>true | true=>Yra y && Zpt P t)
 | .move _ | .assign _ | .pick .. | .unOp .. | .nilCheck _ | .extract .. | .field .. | .fieldAddr .. | .indexAddr .. | .index .. | .slice .. | .makeFunc .. | .build ..=>true
 | .call c=>(match c.callee with | .builtin .len=>true | _=>false)
 | .convert s _ _=>!Yjj P s
 | _=>false
def Ypb (op:Op):Bool:=match op with | .load ..=>true | _=>false
def Yfe (P:Program) (env:Env) (o:Oper) (k:Zas→Prop):Prop:=
 match o.op with
 | .build t ps=>Yle P t (parts env ps) k
 | _=>Zrs P env o k
theorem Ykk (env:Env) (o:Oper):Det (Yfe P env o):=by
 intro k h
 unfold Yfe at *
 split at h
 ·refine (Zwl _).bind (G:=fun z k=>_) (fun z=>?_) k h
  intro k h
  split at h
  ·exact ((Zwl _).map _).chk k h
  ·exact ((Zwl _).map _).chk k h
  ·exact h.elim
 ·exact Ymd env o k h
theorem Zwu {env:Env} {h:Zaa} {o:Oper} (hr:Yag P o.op=true) {K:Zas→Zaa→Prop}:opA P env h o K ↔ Yfe P env o fun v=>K v h:=by
 obtain ⟨dst,op,type,pos,after,guard⟩:=o
 cases op <;> simp only [Yag,Bool.false_eq_true] at hr <;> try (simp only [opA,Yfe]; done)
 case call c=>
  simp only [opA,Yfe,Ymk]
  split at hr
  ·rename_i hc; simp [hc]
  ·cases hr
 case convert s d x=>
  simp only [Bool.not_eq_true'] at hr
  simp only [opA,Yfe,hr]
 case binOp op t x y yt=>
  simp only [opA,Yfe,Zrs]
  cases hx:ev env x <;> try exact Iff.rfl
  cases hy:ev env y <;> try (cases op <;> exact Iff.rfl)
  rename_i a b
  simp only [Zfc]
  have hRT:Zpt P t=true→Zug P t=true:=fun h=>by
   obtain ⟨e,j,hu,_⟩:=Zqs h
   unfold Zug; rw [hu]
  have hno:∀ (p:Prop) [Decidable p] (q:Prop),¬ p→(Sim.chk p q ↔ False):=fun p _ q h=>⟨fun hc=>h (Zbz hc).1,fun h=>h.elim⟩
  have hyes:∀ (p:Prop) [Decidable p] (q:Prop),p→(Sim.chk p q ↔ q):=fun p _ q h=>⟨fun hc=>(Zbz hc).2,fun hq=>by unfold Sim.chk; rw [decide_eq_true h]; exact hq⟩
  cases hT:Zug P t with
  | false=>
   have hR:¬ Zpt P t=true:=fun h=>by rw [hRT h] at hT; cases hT
   have hT':¬ Zug P t=true:=by rw [hT]; simp
   cases op <;> simp only [Yqy,Ynx,eqA] <;> first | exact Iff.rfl | (rw [hno _ _ hR,hno _ _ hT'])
  | true=>
   rw [hT] at hr
   simp only [Bool.and_eq_true] at hr
   have hb:b=none:=by
    have:=hr.1
    unfold Yra at this
    split at this
    ·simp [ev,cst,Zqn] at hy; exact hy.symm
    ·cases this
   subst hb
   cases op <;> simp only [Yqy,Ynx,eqA] <;> first | exact Iff.rfl | (rw [hyes _ _ hr.2,hyes _ _ hT]; exact Iff.rfl)

theorem Zxs {env env':Env} {ps:Array (Nat × Operand)} (hx:∀ x∈ps.map (·.2),ev env x=ev env' x):parts env ps=parts env' ps:=by
 unfold parts
 refine List.map_congr_left fun p hp=>?_
 rw [hx p.2 (Array.mem_map.2 ⟨p,by simpa using hp,rfl⟩)]
theorem Zzi {env env':Env} {xs:Array Operand} (hx:∀ x∈xs,ev env x=ev env' x):xs.toList.map (ev env)=xs.toList.map (ev env'):=
 List.map_congr_left fun x hp=>hx x (by simpa using hp)
theorem Zxz {env env':Env} {h:Zaa} {o:Oper} (hx:∀ x∈o.op.operands,ev env x=ev env' x) {K:Zas→Zaa→Prop}:opA P env h o K ↔ opA P env' h o K:=by
 obtain ⟨dst,op,type,pos,after,guard⟩:=o
 cases op <;> simp only [Op.operands] at hx <;> simp only [opA,Zrs]
 case build t ps=>rw [Zxs fun x h=>hx x (by simpa using h)]
 case buildSlice t n ps=>rw [Zxs fun x h=>hx x (by simpa using h)]
 case makeFunc fn first caps=>
  have hc:=Zzi (xs:=caps) fun x h=>hx x (by simp [h])
  cases fn <;> simp only [hc]
 case call c=>
  simp only [Call.operands] at hx
  have ha:c.args.toList.map (ev env)=c.args.toList.map (ev env'):=Zzi fun x h=>hx x (by simp [h])
  simp only [Ymk,Zrs,ha]
  cases hc:c.callee with
  | value f=>
   have hf:ev env f=ev env' f:=hx f (by simp [hc])
   cases f <;> simp only [hf]
  | invoke r m=>exact Iff.rfl
  | builtin b=>cases b <;> exact Iff.rfl
 case slice t x lo hi mx=>
  cases lo <;> cases hi <;> cases mx <;> simp_all
 case makeMap t r=>cases r <;> simp_all
 all_goals (first | rfl | (simp_all; done))
end
end Go.Sim

set_option linter.unusedSimpArgs false
namespace Go.Sim
open Go Go.RowKit

structure Yac where
 i:Nat
 p:Zas
 n:Option Nat
def Yac.ok (d:Yac) (h h':Zaa):Prop:=match d.n with | none=>Zai h' d.p=Zai h d.p | some n=>Zan h' d.p n=Zan h d.p n
theorem Yac.ok_refl (d:Yac) (h:Zaa):d.ok h h:=by unfold Yac.ok; split <;> rfl
def Zqi (ops:Array Oper) (j i:Nat):Bool:=match ops[j]? with | some o=>o.after.any (fun e=>Region.binds .any e && e.on == i) | none=>false
def Ydr (ops:Array Oper) (j:Nat):List Yac→Zaa→Zaa→Prop→Prop
 | [],_,_,K=>K
 | d :: r,h,h',K=>(match Zqi ops j d.i with | true=>Ydr ops j r h h' K | false=>d.ok h h'∧Ydr ops j r h h' K)
theorem Zpk {ops:Array Oper} {j:Nat}:∀ {hs:List Yac} {h h':Zaa} {K:Prop},Ydr ops j hs h h' K→(∀ d∈hs,Zqi ops j d.i=true ∨ d.ok h h')∧K
 | [],_,_,_,hk=>⟨by simp,hk⟩
 | d :: r,h,h',K,hk=>by
  unfold Ydr at hk
  split at hk
  ·rename_i hw
   obtain ⟨a,b⟩:=Zpk hk
   exact ⟨fun x hx=>by rcases List.mem_cons.1 hx with rfl | hx; exact .inl hw; exact a x hx,b⟩
  ·obtain ⟨ho,hk⟩:=hk
   obtain ⟨a,b⟩:=Zpk hk
   exact ⟨fun x hx=>by rcases List.mem_cons.1 hx with rfl | hx; exact .inr ho; exact a x hx,b⟩

def Zvt (P:Program) (N:Nat) (ops:Array Oper) (i:Nat) (env:Env) (h:Zaa) (K:Env→Zaa→Prop):Prop:=
 match ops[i]? with | some o=>Zmy P N ops env h o K | none=>K env h
def Zpp (P:Program) (ops:Array Oper) (i:Nat) (env:Env):Yac:=
 match ops[i]? with
 | some o=>(match o.op with
  | .load t a=>(match isAgg P t with | true=>⟨i,ev env a,some (P.cellsOf t)⟩ | false=>⟨i,ev env a,none⟩)
  | _=>⟨i,.undef,none⟩)
 | none=>⟨i,.undef,none⟩
def Ytn (ops:Array Oper) (f:Op→Bool) (i:Nat):Bool:=match ops[i]? with | some o=>f o.op | none=>false
def Yvc (f:Nat→Prop):List Nat→Prop
 | []=>True
 | [i]=>f i
 | i :: r=>f i∧Yvc f r
theorem Ydn {f:Nat→Prop}:∀ {l:List Nat},Yvc f l→∀ i∈l,f i
 | [],_,i,hi=>by simp at hi
 | [j],h,i,hi=>by simp at hi; subst hi; exact h
 | j :: k :: r,h,i,hi=>by
  rcases List.mem_cons.1 hi with rfl | hi
  ·exact h.1
  ·exact Ydn h.2 i hi
def Yex (P:Program) (N:Nat) (ops:Array Oper) (ks:List Nat) (K:Env→Zaa→Prop):Nat→Array Bool→List Yac→Env→Zaa→Prop
 | 0,listed,_,env,h=>(match Region.ready .any ops listed with | []=>K (env.keep ks) h | _=>False)
 | f + 1,listed,hs,env,h=>
  (match Region.ready .any ops listed with
  | []=>K (env.keep ks) h
  | rs=>(match rs.find? (fun i=>Ytn ops (Yag P) i && Region.free .any ops listed i) with
   | some i=>Zvt P N ops i env h fun env' h'=>Yex P N ops ks K f (listed.setIfInBounds i true) hs env' h'
   | none=>(match (match rs with | [_]=>none | _=>rs.find? (fun i=>Ytn ops Ypb i && Region.free .any ops listed i)) with
    | some i=>Zvt P N ops i env h fun env' h'=>Yex P N ops ks K f (listed.setIfInBounds i true) (Zpp P ops i env :: hs) env' h'
    | none=>Yvc (fun i=>Zvt P N ops i env h fun env' h'=>Ydr ops i hs h h' (Yex P N ops ks K f (listed.setIfInBounds i true) hs env' h')) rs)))

def Yqe (P:Program) (N:Nat) (ops:Array Oper) (K:Env→Zaa→Prop) (hs:List Yac):Nat→Array Bool→Env→Zaa→Prop
 | 0,listed,env,h=>Region.ready .any ops listed=[]∧K env h
 | f + 1,listed,env,h=>(Region.ready .any ops listed=[]→K env h) ∧
  ∀ i∈Region.ready .any ops listed,Zvt P N ops i env h fun env' h'=>(∀ d∈hs,Zqi ops i d.i=true ∨ d.ok h h')∧Yqe P N ops K hs f (listed.setIfInBounds i true) env' h'

def Yfq (env env':Env):Prop:=∀ t,env.get t=env'.get t
def Zuz (o:Oper) (env:Env) (v:Zas) (env1:Env):Prop:=∀ t,env1.get t=if o.dst=some t then v else env.get t

section
variable {P:Program} {N:Nat} {ops:Array Oper}

theorem Yeu {env env':Env} {d:Option Tmp} {v:Zas} {K K':Env→Prop} (hk:Zsb N env d v K)
  (hK:∀ env1 env1',(∀ t,env1.get t=if d=some t then v else env.get t)→(∀ t,env1'.get t=if d=some t then v else env'.get t)→K env1→K' env1'):Zsb N env' d v K':=by
 unfold Zsb at *
 cases d with
 | none=>exact hK env env' (by simp) (by simp) hk
 | some d=>
  refine Zcv hk fun hk=>hK _ _ ?_ ?_ hk
  ·intro t; rw [Env.get_set]; by_cases e:t=d <;> simp [e,eq_comm]; exact fun q=>absurd q.symm e
  ·intro t; rw [Env.get_set]; by_cases e:t=d <;> simp [e,eq_comm]; exact fun q=>absurd q.symm e

theorem Zoz {env env':Env} {o:Oper} (hl:∀ t∈o.looksAt ops,env.get t=env'.get t):∀ x∈o.op.operands,ev env x=ev env' x:=fun x hx=>by
 cases x with
 | tmp t=>exact hl t (List.mem_append_left _ (List.mem_filterMap.2 ⟨.tmp t,by simpa using hx,rfl⟩))
 | _=>rfl
theorem Zgu {env:Env} {t:Nat} {v:Zas} (h:env.get t=v) (s:Nat):(env.set t v).get s=env.get s:=by
 rw [Env.get_set]; split
 ·rename_i e; subst e; exact h.symm
 ·rfl
theorem Ysf {env env':Env} {h h2:Zaa} {o:Oper} {K K':Env→Zaa→Prop} (hs:Zmy P N ops env h o K) (hl:∀ t∈o.looksAt ops,env.get t=env'.get t)
  (hop:∀ (e1 e2:Env),(∀ x∈o.op.operands,ev e1 x=ev e2 x)→(∀ t,e1.get t=env.get t)→∀ (A B:Zas→Zaa→Prop),opA P e1 h o A→(∀ v h',A v h'→B v h')→opA P e2 h2 o B)
  (hun:∀ e1 e2,Yfq e1 env→Yfq e2 env'→Zsb N e1 o.dst (.tup []) (fun x=>K x h)→Zsb N e2 o.dst (.tup []) (fun x=>K' x h2))
  (hK:∀ v h' env1 env1',Zuz o env v env1→Zuz o env' v env1'→K env1 h'→K' env1' h'):Zmy P N ops env' h2 o K':=by
 unfold Zmy at *
 cases hg:o.guard with
 | none=>
  simp only [hg] at hs ⊢
  exact hop env env' (Zoz hl) (fun _=>rfl) _ _ hs fun v h' hp=>Yeu hp fun e1 e2 a b k=>hK v h' e1 e2 a b k
 | some g=>
  obtain ⟨j,want⟩:=g
  simp only [hg] at hs ⊢
  cases ht:(ops[j]?).bind (·.dst) with
  | none=>simp only [ht] at hs
  | some t=>
   simp only [ht] at hs ⊢
   have htl:env.get t=env'.get t:=hl t (List.mem_append_right _ (by simp [hg,ht]))
   rw [← htl]
   split at hs
   ·rename_i b hb
    have key:∀ c,b=c→(opA P (env.set t (.bool c)) h o (fun v h'=>Zsb N (env.set t (.bool c)) o.dst v fun env'=>K env' h')→opA P (env'.set t (.bool c)) h2 o (fun v h'=>Zsb N (env'.set t (.bool c)) o.dst v fun env'=>K' env' h')) ∧
      (Zsb N (env.set t (.bool c)) o.dst (.tup []) (fun env'=>K env' h)→Zsb N (env'.set t (.bool c)) o.dst (.tup []) (fun env'=>K' env' h2)):=by
     intro c e
     subst e
     have k1:=Zgu hb
     have k2:=Zgu (htl ▸ hb:env'.get t=.bool b)
     constructor
     ·intro ho
      refine hop _ _ (Zoz fun s hs=>by rw [k1,k2]; exact hl s hs) k1 _ _ ho fun v h' hp=>Yeu hp fun e1 e2 a b k=>hK v h' e1 e2 ?_ ?_ k
      ·intro s; rw [a s,k1]
      ·intro s; rw [b s,k2]
     ·exact hun _ _ k1 k2
    cases b
    ·obtain ⟨k1,k2⟩:=key false rfl
     cases want
     ·exact k1 hs
     ·exact k2 hs
    ·obtain ⟨k1,k2⟩:=key true rfl
     cases want
     ·exact k2 hs
     ·exact k1 hs
   ·exact hun env env' (fun _=>rfl) (fun _=>rfl) hs
   ·exact hs.elim

theorem Zxm {env env':Env} {h:Zaa} {o:Oper} {K K':Env→Zaa→Prop} (hs:Zmy P N ops env h o K) (hl:∀ t∈o.looksAt ops,env.get t=env'.get t)
  (hK:∀ v h' env1 env1',Zuz o env v env1→Zuz o env' v env1'→K env1 h'→K' env1' h'):Zmy P N ops env' h o K':=
 Ysf hs hl (fun e1 e2 hx _ A B ha hm=>Yoo ((Zxz hx).1 ha) hm)
  (fun e1 e2 q1 q2 hp=>Yeu hp fun f1 f2 a b k=>hK _ _ f1 f2 (fun t=>by rw [a t,q1 t]) (fun t=>by rw [b t,q2 t]) k) hK

def Yd (P:Program) (N:Nat) (ops:Array Oper) (o:Oper) (v:Zas) (env:Env) (h:Zaa):Prop:=
 ∀ K:Env→Zaa→Prop,(∀ env1,Zuz o env v env1→K env1 h)→Zmy P N ops env h o K

theorem Zth {K:Env→Zaa→Prop} {hs hs':List Yac} (hsub:∀ d∈hs,d∈hs'):∀ (f:Nat) {listed:Array Bool} {env env':Env} {h:Zaa},(∀ e e' h,Yfq e e'→K e h→K e' h)→Yfq env env' →
  Yqe P N ops K hs' f listed env h→Yqe P N ops K hs f listed env' h
 | 0,_,_,_,_,hK,he,hh=>⟨hh.1,hK _ _ _ he hh.2⟩
 | f + 1,listed,env,env',h,hK,he,hh=>by
  refine ⟨fun hr=>hK _ _ _ he (hh.1 hr),fun i hi=>?_⟩
  have:=hh.2 i hi
  unfold Zvt at *
  cases ho:ops[i]? with
  | none=>
   rw [ho] at this
   exact ⟨fun d hd=>this.1 d (hsub d hd),Zth hsub f hK he this.2⟩
  | some o=>
   rw [ho] at this
   refine Zxm this (fun t _=>he t) fun v h' e1 e2 a b k=>⟨fun d hd=>k.1 d (hsub d hd),Zth hsub f hK (fun t=>?_) k.2⟩
   rw [a t,b t,he t]

theorem Zzl {K:Env→Zaa→Prop} {hs hs':List Yac} (hK:∀ e e' h,Yfq e e'→K e h→K e' h) (hsub:∀ d∈hs,d∈hs') {i:Nat} {oi:Oper} {v:Zas} (hi:ops[i]?=some oi) {T:Zaa→Zaa→Prop}
  (hT:∀ j h h1,Zqi ops j i=false→(∀ d∈hs',Zqi ops j d.i=true ∨ d.ok h h1)→T h h1)
  {Y:Env→Zaa→Prop} (hY:∀ env h,Y env h→Yd P N ops oi v env h)
  (hst:∀ env h env1 h1,Y env h→(∀ t∈oi.looksAt ops,env.get t=env1.get t)→T h h1→Y env1 h1) :
  ∀ (fuel:Nat) (listed:Array Bool) (env env1:Env) (h:Zaa),
   (∀ j oj,ops[j]?=some oj→j≠i→listed.getD j true=false→(∀ e∈oj.after,Region.binds .any e=true→e.on≠i)→oi.apart ops oj=true) →
   i∈Region.ready .any ops listed→Y env h→Zuz oi env v env1 →
   Yqe P N ops K hs' fuel (listed.setIfInBounds i true) env1 h→Yqe P N ops K hs (fuel + 1) listed env h:=by
 intro fuel
 have now:∀ (fuel:Nat) (listed:Array Bool) (env env1:Env) (h:Zaa),Y env h→Zuz oi env v env1→Yqe P N ops K hs' fuel (listed.setIfInBounds i true) env1 h →
   Zvt P N ops i env h fun env' h'=>(∀ d∈hs,Zqi ops i d.i=true ∨ d.ok h h')∧Yqe P N ops K hs fuel (listed.setIfInBounds i true) env' h':=by
  intro fuel listed env env1 h hy ha H
  unfold Zvt
  rw [hi]
  exact hY _ _ hy _ fun env2 h2=>⟨fun d _=>.inr (d.ok_refl h),Zth hsub fuel hK (fun t=>by rw [ha t,h2 t]) H⟩
 induction fuel with
 | zero=>
  intro listed env env1 h _ hr hy ha H
  refine ⟨fun e=>(by rw [e] at hr; cases hr),fun j hj=>?_⟩
  by_cases hji:j=i
  ·subst hji; exact now 0 listed env env1 h hy ha H
  ·have:=ready_mono hj hji
   rw [H.1] at this
   cases this
 | succ fuel ih=>
  intro listed env env1 h hfree hr hy ha H
  refine ⟨fun e=>(by rw [e] at hr; cases hr),fun j hj=>?_⟩
  by_cases hji:j=i
  ·subst hji; exact now (fuel + 1) listed env env1 h hy ha H
  ·have h1:=H.2 j (ready_mono hj hji)
   obtain ⟨hjun,oj,hoj,hall⟩:=mem_ready.1 hj
   have hnot:∀ e∈oj.after,Region.binds .any e=true→e.on≠i:=fun e he hb heq=>by
    have h1:=hall e he hb
    have h0:=(mem_ready.1 hr).1
    rw [heq] at h1
    rcases Nat.lt_or_ge i listed.size with h' | h'
    ·simp [h'] at h0 h1; rw [h0] at h1; cases h1
    ·simp [Array.getElem?_eq_none h'] at h1
   have hw:Zqi ops j i=false:=by
    unfold Zqi
    rw [hoj]
    simp only [Array.any_eq_false]
    intro q hq
    simp only [Bool.and_eq_true,beq_iff_eq,not_and]
    intro hb
    exact hnot _ (Array.getElem_mem hq) hb
   obtain ⟨a1,a2,a3⟩:=Oper.apart_spec (hfree j oj hoj hji hjun hnot)
   unfold Zvt at h1 ⊢
   rw [hoj] at h1 ⊢
   refine Zxm h1 (fun t ht=>?_) fun u h' e1 e2 q1 q2 k=>?_
   ·rw [ha t,if_neg (fun e=>a1 t e ht)]
   ·refine ⟨fun d hd=>k.1 d (hsub d hd),ih (listed.setIfInBounds j true) e2 e1 h' ?_ (ready_mono hr (Ne.symm hji)) ?_ ?_ ?_⟩
    ·intro k ok hk hki hun hno
     refine hfree k ok hk hki ?_ hno
     by_cases hjk:j=k
     ·subst hjk; exact hjun
     ·rw [getD_set_ne true hjk] at hun; exact hun
    ·refine hst env h e2 h' hy (fun t ht=>?_) (hT j h h' hw k.1)
     rw [q2 t,if_neg (fun e=>a3 t e ht)]
    ·intro t
     rw [q1 t,q2 t,ha t]
     by_cases x:oj.dst=some t <;> by_cases y:oi.dst=some t <;> simp [x,y]
     exact absurd x (a2 t y)
    ·rw [Array.setIfInBounds_comm _ _ hji]
     exact k.2
end
end Go.Sim
