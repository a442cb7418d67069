/- A part of the proof of a statement of this seat: see the text that holds the theorem. No condition. -/
import Derived.Test.YtdglddliggejdaaGreatSimIc
import Derived.LaidEqlPtr
import Derived.Orders
set_option linter.unusedVariables false
set_option linter.unusedSimpArgs false
set_option linter.all false
set_option linter.unusedSimpArgs false
namespace Go.Sim
open Go Go.RowKit

def Zco (h:Zaa) (i:Nat):Bool:=match h[i]? with | some (.cells _ _ false)=>true | _=>false
def Zkv (P:Program) (t:TypeId):Bool:=match P.underlying t with | some (.pointer e)=>(match P.info? e with | some j=>!(Nat.beq j.size 0) | none=>false) | _=>false
def Ymg (h:Zaa) (p q:Nat × Nat) (K:Bool→Prop):Prop:=(p=q∧K true) ∨ (p.1≠q.1∧Zco h p.1=true∧Zco h q.1=true∧K false)
def Zog (h:Zaa) (a b:Option (Nat × Nat)) (K:Bool→Prop):Prop:=
 match b with | none=>K a.isNone | some q=>(match a with | none=>K false | some p=>Ymg h p q K)
def Yhv (P:Program) (op:BinOp) (t:TypeId) (h:Zaa) (a b:Option (Nat × Nat)) (K:Zad→Zaa→Prop):Prop:=
 match op with
 | .eql=>chk (Zkv P t=true) (Zog h a b fun e=>K (.bool e) h)
 | .neq=>chk (Zkv P t=true) (Zog h a b fun e=>K (.bool (!e)) h)
 | _=>False
def Zin (h:Zaa):List ME→(Nat × Nat)→Nat→Option (Option (Nat × Zad))
 | [],_,_=>some none
 | (.ptr (some q),v,_) :: r,p,i=>if p=q then some (some (i,v)) else if p.1≠q.1∧Zco h p.1=true∧Zco h q.1=true then Zin h r p (i + 1) else none
 | _ :: _,_,_=>none
def Zqw (r:Option (Option (Nat × Zad))) (K:Option Zad→Prop):Prop:=match r with | some (some (_,v))=>K (some v) | some none=>K none | none=>False
def Yfz (r:Option (Option (Nat × Zad))) (es:List ME) (clk:Nat) (p:Nat × Nat) (v:Zad) (K:List ME→Nat→Prop):Prop:=
 match r with
 | some (some (i,_))=>K (es.modify i fun e=>(.ptr (some p),v,e.2.2)) clk
 | some none=>K (es ++ [(.ptr (some p),v,clk)]) (clk + 1)
 | none=>False
def Yhu (r:Option (Option (Nat × Zad))) (es:List ME) (K:List ME→Prop):Prop:=match r with | some (some (i,_))=>K (es.eraseIdx i) | some none=>K es | none=>False
def okV (ok:Bool) (r:Option Zad) (v:Zad):Zad:=match ok with | true=>.tup [v,.bool r.isSome] | false=>v
def Zmd (P:Program) (t:TypeId) (h:Zaa) (m k:Zad) (ok:Bool) (K:Zad→Prop):Prop:=
 match P.underlying t with
 | some (.map kt et)=>chk (Zkv P kt=true∧isAgg P et=false) (match m with
  | .map a=>Zep (some k) fun q=>Zax q fun i o=>Zsq (Yhj P et) fun z=>Zbv h a fun es _=>Zqw (Zin h es (i,o) 0) fun r=>xv (Zhu P et) (some (r.getD z)) fun v=>K (okV ok r v)
  | _=>False)
 | _=>False
def Zgz (P:Program) (t:TypeId) (h:Zaa) (m k v:Zad) (K:Zad→Zaa→Prop):Prop:=
 match P.underlying t with
 | some (.map kt _)=>chk (Zkv P kt=true) (match m with
  | .map a=>xMp a fun mi=>Zep (some k) fun q=>Zax q fun i o=>Zbv h (some mi) fun es clk=>Yfz (Zin h es (i,o) 0) es clk (i,o) v fun es' clk'=>K .undef (h.set mi (.map es' clk'))
  | _=>False)
 | _=>False
def Zop (P:Program) (t:TypeId) (h:Zaa) (m k:Zad) (K:Zad→Zaa→Prop):Prop:=
 match P.underlying t with
 | some (.map kt _)=>chk (Zkv P kt=true) (match m with
  | .map a=>xMp a fun mi=>Zep (some k) fun q=>Zax q fun i o=>Zbv h (some mi) fun es clk=>Yhu (Zin h es (i,o) 0) es fun es'=>K (.tup []) (h.set mi (.map es' clk))
  | _=>False)
 | _=>False
def Yih (P:Program) (t:TypeId):Bool:=match P.underlying t with | some (.map kt _)=>Zoc P kt | _=>false
def Yif (x:Operand):Bool:=match x with | .const (.pointer none)=>true | _=>false

section
variable {P:Program} {base:Nat} {w0:World} {μ:List Pl} {h:Zaa} {w:World}
theorem Zln {t:TypeId} (h:Zkv P t=true):∃ e j,P.underlying t=some (.pointer e)∧P.info? e=some j∧j.size≠0:=by
 unfold Zkv at h
 split at h
 ·rename_i e he
  split at h
  ·rename_i j hj
   refine ⟨e,j,he,hj,fun h0=>?_⟩
   rw [h0] at h; simp at h
  ·cases h
 ·cases h
theorem Zni {i:Nat} (hh:Zco h i=true):∃ t cs,h[i]?=some (.cells t cs false):=by
 unfold Zco at hh
 split at hh
 ·rename_i t cs he; exact ⟨t,cs,he⟩
 ·cases hh
theorem Zvp (r:Rel P base w0 μ h w) {i:Nat} {e:Pl} (he:μ[i]?=some e) (hh:Zco h i=true):∃ C t,w.heap[e.b]?=some (.cells C t (0,0)):=by
 obtain ⟨t,cs,hi⟩:=Zni hh
 obtain ⟨C,el,fr,h1,_,h3⟩:=r.obj i _ hi e he
 simp only [Bool.false_eq_true,if_false] at h3
 obtain ⟨_,_,_,rfl,_⟩:=h3
 exact ⟨C,el,h1⟩
theorem Ylf (r:Rel P base w0 μ h w) {i j:Nat} {e f:Pl} (he:μ[i]?=some e) (hf:μ[j]?=some f) (hi:Zco h i=true) (hj:Zco h j=true) (hne:i≠j):e.b≠f.b:=by
 obtain ⟨t,cs,h1⟩:=Zni hi
 obtain ⟨t',cs',h2⟩:=Zni hj
 exact r.sep i j _ _ e f hne h1 h2 rfl rfl he hf
theorem Znm (r:Rel P base w0 μ h w) {t:TypeId} (ht:Zkv P t=true) {a b:Option (Nat × Nat)} {x y:Value} (ha:VR μ (.ptr a) x) (hb:VR μ (.ptr b) y) {K:Bool→Prop} (hk:Zog h a b K) :
  ∃ e:Bool,(∀ d,(Op.equalIn (d + 1) t x y).run P w=.ok e w)∧K e:=by
 obtain ⟨te,j,hu,hj,hsz⟩:=Zln ht
 unfold Zog at hk
 cases hb with
 | ptr0=>
  cases ha with
  | ptr0=>exact ⟨true,fun d=>by simp [Op.equalIn,run_underlying hu],hk⟩
  | ptr hi=>exact ⟨false,fun d=>by simp [Op.equalIn,run_underlying hu],hk⟩
 | ptr hf=>
  cases ha with
  | ptr0=>exact ⟨false,fun d=>by simp [Op.equalIn,run_underlying hu],hk⟩
  | ptr he=>
   rename_i j1 o1 f i1 o2 e
   rcases hk with ⟨hpq,hk⟩ | ⟨hne,o1',o2',hk⟩
   ·cases hpq
    rw [he] at hf; cases hf
    exact ⟨true,fun d=>by simp [Op.equalIn,run_underlying hu,sizeOf,typeInfo,hj,run_sameAddr_same],hk⟩
   ·obtain ⟨C,t1,h1⟩:=Zvp r he o1'
    obtain ⟨C',t2,h2⟩:=Zvp r hf o2'
    have hnb:=Ylf r he hf o1' o2' hne
    exact ⟨false,fun d=>by
     simp [Op.equalIn,run_underlying hu,sizeOf,typeInfo,hj,hsz,run_sameAddr_other w (a:=⟨e.b,e.o + o2,none⟩) (b:=⟨f.b,f.o + o1,none⟩) (fun q=>hnb (congrArg Addr.block q)) h1 h2],hk⟩
theorem Ykl (r:Rel P base w0 μ h w) {op:BinOp} {t:TypeId} {xo yo:Operand} {a b:Option (Nat × Nat)} {x y:Value} (ha:VR μ (.ptr a) x) (hb:VR μ (.ptr b) y) {K:Zad→Zaa→Prop} (hk:Yhv P op t h a b K) :
  ∃ e:Bool,(do eqGuard op t xo yo x y; binOp op t x y:Sem Value).run P w=.ok (.bool e) w∧K (.bool e) h:=by
 have hg:∀ op',op'=BinOp.eql ∨ op'=BinOp.neq→(eqGuard op' t xo yo x y).run P w=.ok () w:=by
  intro op' ho
  rcases ho with rfl | rfl <;> cases ha <;> simp [eqGuard]
 unfold Yhv at hk
 split at hk
 ·replace hk:=Zay hk; obtain ⟨ht,hk⟩:=hk
  obtain ⟨e,he,hk⟩:=Znm r ht ha hb hk
  refine ⟨e,?_,hk⟩
  simp only [Sem.run_bind,hg _ (.inl rfl),Result.andThen_ok]
  cases ha <;> cases hb <;> (simp only [binOp]; simp [Op.equal,Op.maxDepth,he 9999])
 ·replace hk:=Zay hk; obtain ⟨ht,hk⟩:=hk
  obtain ⟨e,he,hk⟩:=Znm r ht ha hb hk
  refine ⟨!e,?_,hk⟩
  simp only [Sem.run_bind,hg _ (.inr rfl),Result.andThen_ok]
  cases ha <;> cases hb <;> (simp only [binOp]; simp [Op.equal,Op.maxDepth,he 9999])
 ·exact hk.elim
theorem Zhe (r:Rel P base w0 μ h w) {kt:TypeId} (ht:Zkv P kt=true) {i o:Nat} {e:Pl} (hi:μ[i]?=some e):∀ {es:List ME} {ents:List MapEntry} {n:Nat} {q:Option (Nat × Zad)},
  VRs μ (es.map (·.1)) (ents.map (·.key))→VRs μ (es.map (·.2.1)) (ents.map (·.val))→Zin h es (i,o) n=some q →
  (q=none∧(Instr.findAsking kt (.pointer (some ⟨e.b,e.o + o,none⟩)) ents n).run P w=.ok none w) ∨
   ∃ j v x k0,q=some (j,v)∧n≤j∧VR μ v x∧(Instr.findAsking kt (.pointer (some ⟨e.b,e.o + o,none⟩)) ents n).run P w=.ok (some (j,x)) w∧ents[j - n]?=some k0∧k0.key=.pointer (some ⟨e.b,e.o + o,none⟩)
 | [],[],n,q,_,_,hf=>by simp [Zin] at hf; subst hf; exact .inl ⟨rfl,by simp [Instr.findAsking]⟩
 | [],_ :: _,n,q,hk,_,_=>by cases hk
 | _ :: _,[],n,q,hk,_,_=>by cases hk
 | (k,v,b) :: es,en :: ents,n,q,hk,hv,hf=>by
  simp only [List.map_cons] at hk hv
  cases hk with
  | cons hk1 hk2=>
  cases hv with
  | cons hv1 hv2=>
  cases k with
  | ptr a=>
   cases a with
   | none=>simp [Zin] at hf
   | some p=>
    simp only [Zin] at hf
    generalize hek:en.key=ek at hk1
    have hx:VR μ (.ptr (some (i,o))) (.pointer (some ⟨e.b,e.o + o,none⟩)):=.ptr hi
    by_cases hpq:(i,o)=p
    ·rw [if_pos hpq] at hf
     cases hf
     obtain ⟨c,hc,hke⟩:=Znm (K:=fun c=>c=true) r ht hx hk1 (by subst hpq; exact .inl ⟨rfl,rfl⟩)
     subst hke
     have hkey:en.key=.pointer (some ⟨e.b,e.o + o,none⟩):=by
      subst hpq
      cases hk1 with
      | ptr hf2=>rw [hi] at hf2; cases hf2; exact hek
     refine .inr ⟨n,v,en.val,en,rfl,Nat.le_refl _,hv1,?_,by simp,hkey⟩
     unfold Instr.findAsking
     simp [Op.equal,Op.maxDepth,hek,hc 9999]
    ·rw [if_neg hpq] at hf
     by_cases hne:(i,o).1≠p.1∧Zco h (i,o).1=true∧Zco h p.1=true
     ·rw [if_pos hne] at hf
      obtain ⟨c,hc,hke⟩:=Znm (K:=fun c=>c=false) r ht hx hk1 (.inr ⟨hne.1,hne.2.1,hne.2.2,rfl⟩)
      subst hke
      have step:(Instr.findAsking kt (.pointer (some ⟨e.b,e.o + o,none⟩)) (en :: ents) n).run P w=(Instr.findAsking kt (.pointer (some ⟨e.b,e.o + o,none⟩)) ents (n + 1)).run P w:=by
       conv=>lhs; unfold Instr.findAsking
       simp [Op.equal,Op.maxDepth,hek,hc 9999]
      rcases Zhe r ht hi hk2 hv2 hf with ⟨h1,h2⟩ | ⟨j,v',x,k0,h1,h2,h3,h4,h5,h6⟩
      ·exact .inl ⟨h1,by rw [step,h2]⟩
      ·refine .inr ⟨j,v',x,k0,h1,by omega,h3,by rw [step,h4],?_,h6⟩
       rw [show j - n=(j - (n + 1)) + 1 by omega]; simpa using h5
     ·rw [if_neg hne] at hf; cases hf
  | _=>simp [Zin] at hf
theorem Zet {kt te:TypeId} (hu:P.underlying kt=some (.pointer te)) (x:Value) (es:List MapEntry):(Instr.findKey kt x es).run P w=(Instr.findAsking kt x es).run P w:=by
 cases es with
 | nil=>simp [Instr.findKey,run_underlying hu,Instr.findNow,Instr.findAsking]
 | cons e es=>simp [Instr.findKey,run_underlying hu,Instr.findNow,Instr.sameNow]
theorem Zle {kt te:TypeId} (hu:P.underlying kt=some (.pointer te)) (x:Option Addr) (b:Bool):(Instr.checkKey b 10000 kt (.pointer x)).run P w=.ok () w:=by
 unfold Instr.checkKey
 simp [run_underlying hu]
theorem Zma {o:Option Zad} {K:Option (Nat × Nat)→Prop} (h:Zep o K):∃ s,o=some (.ptr s)∧K s:=by
 unfold Zep at h; split at h
 ·exact ⟨_,rfl,h⟩
 ·exact h.elim
theorem Znh {a:Option (Nat × Nat)} {K:Nat→Nat→Prop} (h:Zax a K):∃ i o,a=some (i,o)∧K i o:=by
 unfold Zax at h; split at h
 ·exact ⟨_,_,rfl,h⟩
 ·exact h.elim
theorem Ybh (r:Rel P base w0 μ h w) {t:TypeId} {a k:Zad} {x y:Value} {ok:Bool} (ha:VR μ a x) (hkk:VR μ k y) {K:Zad→Prop} (hk:Zmd P t h a k ok K) :
  ∃ z v,(Instr.lookup t x y ok).run P w=.ok z w∧VR μ v z∧K v:=by
 unfold Zmd at hk
 split at hk
 ·rename_i kt et hu
  replace hk:=Zay hk
  obtain ⟨⟨hs,hag⟩,hk⟩:=hk
  obtain ⟨te,tj,hkt,_⟩:=Zln hs
  split at hk
  ·rename_i m
   obtain ⟨q,hq,hk⟩:=Zma hk
   cases hq
   obtain ⟨i,o,rfl,hk⟩:=Znh hk
   obtain ⟨z0,hz,hk⟩:=Zld hk
   obtain ⟨zv,hzv1,hzr⟩:=Zyp (μ:=μ) hz
   cases hkk with
   | ptr hi=>
   rename_i e
   have hchk:∀ b,(Instr.checkKey b 10000 kt (.pointer (some ⟨e.b,e.o + o,none⟩))).run P w=.ok () w:=fun b=>Zle hkt _ b
   rcases Zix hk with ⟨rfl,hk1⟩ | ⟨i',es,clk,rfl,hi',hk1⟩
   ·cases ha
    simp only [Zqw,Zin] at hk1
    obtain ⟨v,hv,hk2⟩:=Zgn hk1
    cases hv
    have hfk:(Instr.findKey kt (.pointer (some ⟨e.b,e.o + o,none⟩)) []).run P w=.ok none w:=by rw [Zet hkt]; simp [Instr.findAsking]
    cases ok
    ·exact ⟨zv,_,by simp [Instr.lookup,run_underlying hu,hchk,hfk,hzr w],hzv1,hk2⟩
    ·exact ⟨.tuple #[zv,.bool false],_,by simp [Instr.lookup,run_underlying hu,hchk,hfk,hzr w],.tup (.cons hzv1 (.cons (.bool _) .nil)),hk2⟩
   ·cases ha with
    | map hmu=>
    obtain ⟨hb0,ents,hg,hk1',hk2',hk3'⟩:=r.obj i' _ hi' _ hmu
    unfold Zqw at hk1
    split at hk1
    ·rename_i j v hf
     obtain ⟨v1,hv,hl⟩:=Zgn hk1
     cases hv
     rcases Zhe r hs hi hk1' hk2' hf with ⟨h1,_⟩ | ⟨j',v',x',k0,h1,_,h3,h4,_⟩
     ·cases h1
     ·cases h1
      cases ok
      ·exact ⟨x',_,by simp [Instr.lookup,run_underlying hu,MapKept.run_getObj_map hg,hchk,Zet hkt,h4],h3,hl⟩
      ·exact ⟨.tuple #[x',.bool true],_,by simp [Instr.lookup,run_underlying hu,MapKept.run_getObj_map hg,hchk,Zet hkt,h4],.tup (.cons h3 (.cons (.bool _) .nil)),hl⟩
    ·rename_i hf
     obtain ⟨v1,hv,hl⟩:=Zgn hk1
     cases hv
     rcases Zhe r hs hi hk1' hk2' hf with ⟨_,h4⟩ | ⟨j',v',x',k0,h1,_⟩
     ·cases ok
      ·exact ⟨zv,_,by simp [Instr.lookup,run_underlying hu,MapKept.run_getObj_map hg,hchk,Zet hkt,h4,hzr w],hzv1,hl⟩
      ·exact ⟨.tuple #[zv,.bool false],_,by simp [Instr.lookup,run_underlying hu,MapKept.run_getObj_map hg,hchk,Zet hkt,h4,hzr w],.tup (.cons hzv1 (.cons (.bool _) .nil)),hl⟩
     ·cases h1
    ·exact hk1.elim
  ·exact hk.elim
 ·exact hk.elim
theorem Ztw (r:Rel P base w0 μ h w) {t:TypeId} {a k v:Zad} {x y z:Value} (ha:VR μ a x) (hkk:VR μ k y) (hv:VR μ v z) {K:Zad→Zaa→Prop} (hk:Zgz P t h a k v K) :
  ∃ w' h',(Instr.mapUpdate t x y z).run P w=.ok () w'∧Rel P base w0 μ h' w'∧K .undef h':=by
 unfold Zgz at hk
 split at hk
 ·rename_i kt et hu
  replace hk:=Zay hk
  obtain ⟨hs,hk⟩:=hk
  obtain ⟨te,tj,hkt,_⟩:=Zln hs
  split at hk
  ·rename_i m
   unfold xMp at hk
   split at hk
   ·rename_i mi
    obtain ⟨q,hq,hk⟩:=Zma hk
    cases hq
    obtain ⟨i,o,rfl,hk⟩:=Znh hk
    cases hkk with
    | ptr hi=>
    rename_i e0
    obtain ⟨es,clk,hi',hk1⟩:=Zgt hk
    cases ha with
    | map hmu=>
    rename_i e
    obtain ⟨hb0,ents,hg,hk1',hk2',hk3'⟩:=r.obj mi _ hi' _ hmu
    have hchk:(Instr.checkKey false 10000 kt (.pointer (some ⟨e0.b,e0.o + o,none⟩))).run P w=.ok () w:=Zle hkt _ false
    have hlt:=(Array.getElem?_eq_some_iff.1 hg).1
    have hkv:VR μ (.ptr (some (i,o))) (.pointer (some ⟨e0.b,e0.o + o,none⟩)):=.ptr hi
    unfold Yfz at hk1
    split at hk1
    ·rename_i j v0 hf
     rcases Zhe r hs hi hk1' hk2' hf with ⟨h1,_⟩ | ⟨j',v',x',k0,h1,_,h3,h4,h5,h6⟩
     ·cases h1
     ·cases h1
      have hj':ents[j]?=some k0:=by simpa using h5
      have hst:∀ w:World,(Instr.keyThatStays k0.key (.pointer (some ⟨e0.b,e0.o + o,none⟩))).run P w=.ok (.pointer (some ⟨e0.b,e0.o + o,none⟩)) w:=fun w=>by
       rw [h6]; simp [Instr.keyThatStays,Instr.sameBits]
      refine ⟨_,_,?_,r.over (x:=.map (ents.modify j fun e=>{ e with key:=.pointer (some ⟨e0.b,e0.o + o,none⟩),val:=z }) clk) hi' rfl hmu hb0 rfl ?_,hk1⟩
      ·simp [Instr.mapUpdate,run_underlying hu,MapKept.run_getObj_map hg,hchk,Zet hkt,h4,hj',hst,MapKept.run_setObj_map _ hg]
      ·refine ⟨hb0,ents.modify j fun e=>{ e with key:=.pointer (some ⟨e0.b,e0.o + o,none⟩),val:=z },by simp [hlt],?_,?_,?_⟩
       ·rw [Array.toList_modify]; exact VRs.modify (p:=fun (x:ME)=>x.1) (q:=fun (x:MapEntry)=>x.key) (v:=.ptr (some (i,o))) (k:=.pointer (some ⟨e0.b,e0.o + o,none⟩)) hkv (fun _=>rfl) (fun _=>rfl) j hk1'
       ·rw [Array.toList_modify]; exact VRs.modify (p:=fun (x:ME)=>x.2.1) (q:=fun (x:MapEntry)=>x.val) (v:=v) (k:=z) hv (fun _=>rfl) (fun _=>rfl) j hk2'
       ·rw [Array.toList_modify,Zfi (p:=fun (x:ME)=>x.2.2) (f:=fun e=>(.ptr (some (i,o)),v,e.2.2)) (fun _=>rfl) es j,Zfi (p:=fun (x:MapEntry)=>x.born) (f:=fun e=>{ e with key:=.pointer (some ⟨e0.b,e0.o + o,none⟩),val:=z }) (fun _=>rfl) ents.toList j]; exact hk3'
    ·rename_i hf
     rcases Zhe r hs hi hk1' hk2' hf with ⟨_,h4⟩ | ⟨j',v',x',k0,h1,_⟩
     ·refine ⟨_,_,?_,r.over (x:=.map (ents.push { key:=.pointer (some ⟨e0.b,e0.o + o,none⟩),val:=z,born:=clk }) (clk + 1)) hi' rfl hmu hb0 rfl ?_,hk1⟩
      ·simp [Instr.mapUpdate,run_underlying hu,MapKept.run_getObj_map hg,hchk,Zet hkt,h4,MapKept.run_setObj_map _ hg]
      ·refine ⟨hb0,ents.push { key:=.pointer (some ⟨e0.b,e0.o + o,none⟩),val:=z,born:=clk },by simp [hlt],?_,?_,?_⟩
       ·simpa using hk1'.append (.cons hkv .nil)
       ·simpa using hk2'.append (.cons hv .nil)
       ·simp [hk3']
     ·cases h1
    ·exact hk1.elim
   ·exact hk.elim
  ·exact hk.elim
 ·exact hk.elim
theorem VRs.erase {vs:List Zad} {xs:List Value} (hh:VRs μ vs xs):∀ (j:Nat),VRs μ (vs.eraseIdx j) (xs.eraseIdx j):=by
 induction vs generalizing xs with
 | nil=>intro j; cases hh; exact .nil
 | cons v vs ih=>
  intro j
  cases hh with
  | cons h1 h2=>
  cases j with
  | zero=>exact h2
  | succ j=>exact .cons h1 (ih h2 j)
theorem Zdt {α β:Type} (f:α→β):∀ (l:List α) (j:Nat),(l.map f).eraseIdx j=(l.eraseIdx j).map f
 | [],j=>by simp
 | a :: l,0=>by simp
 | a :: l,j + 1=>by simp [Zdt f l j]
theorem Yde (r:Rel P base w0 μ h w) {t ty:TypeId} {ats:Array TypeId} (hat:ats[0]?=some t) {a k:Zad} {x y:Value} (ha:VR μ a x) (hkk:VR μ k y) {K:Zad→Zaa→Prop} (hk:Zop P t h a k K) :
  Res P base w0 μ ((Builtin.delete_ ats ty #[x,y]).run P w) K:=by
 unfold Zop at hk
 split at hk
 ·rename_i kt et hu
  replace hk:=Zay hk
  obtain ⟨hs,hk⟩:=hk
  obtain ⟨te,tj,hkt,_⟩:=Zln hs
  split at hk
  ·rename_i m
   unfold xMp at hk
   split at hk
   ·rename_i mi
    obtain ⟨q,hq,hk⟩:=Zma hk
    cases hq
    obtain ⟨i,o,rfl,hk⟩:=Znh hk
    cases hkk with
    | ptr hi=>
    rename_i e0
    obtain ⟨es,clk,hi',hk1⟩:=Zgt hk
    cases ha with
    | map hmu=>
    rename_i e
    obtain ⟨hb0,ents,hg,hk1',hk2',hk3'⟩:=r.obj mi _ hi' _ hmu
    have hchk:∀ b,(Instr.checkKey b 10000 kt (.pointer (some ⟨e0.b,e0.o + o,none⟩))).run P w=.ok () w:=fun b=>Zle hkt _ b
    have hlt:=(Array.getElem?_eq_some_iff.1 hg).1
    unfold Yhu at hk1
    split at hk1
    ·rename_i j v0 hf
     rcases Zhe r hs hi hk1' hk2' hf with ⟨h1,_⟩ | ⟨j',v',x',k0,h1,_,h3,h4,h5,h6⟩
     ·cases h1
     ·cases h1
      have hjl:j < ents.size:=by have:=(List.getElem?_eq_some_iff.1 h5).1; simpa using this
      have htl:(ents.eraseIdxIfInBounds j).toList=ents.toList.eraseIdx j:=by simp [Array.eraseIdxIfInBounds,hjl]
      refine ⟨.tuple #[],_,μ,.tup [],_,?_,Ext.refl _,r.over (x:=.map (ents.eraseIdxIfInBounds j) clk) hi' rfl hmu hb0 rfl ?_,.tup .nil,hk1⟩
      ·simp [Builtin.delete_,hat,run_underlying hu,MapKept.run_getObj_map hg,hchk,Zet hkt,h4,MapKept.run_setObj_map _ hg]
      ·refine ⟨hb0,ents.eraseIdxIfInBounds j,by simp [hlt],?_,?_,?_⟩
       ·rw [htl,← Zdt,← Zdt]; exact hk1'.erase j
       ·rw [htl,← Zdt,← Zdt]; exact hk2'.erase j
       ·rw [htl,← Zdt,← Zdt,hk3']
    ·rename_i hf
     rcases Zhe r hs hi hk1' hk2' hf with ⟨_,h4⟩ | ⟨j',v',x',k0,h1,_⟩
     ·refine ⟨.tuple #[],_,μ,.tup [],_,?_,Ext.refl _,r.over (x:=.map ents clk) hi' rfl hmu hb0 rfl ?_,.tup .nil,hk1⟩
      ·simp [Builtin.delete_,hat,run_underlying hu,MapKept.run_getObj_map hg,hchk,Zet hkt,h4,MapKept.run_setObj_map _ hg]
      ·exact ⟨hb0,ents,by simp [hlt],hk1',hk2',hk3'⟩
     ·cases h1
    ·exact hk1.elim
   ·exact hk.elim
  ·exact hk.elim
 ·exact hk.elim
end
end Go.Sim

set_option linter.unusedSimpArgs false
namespace Go.Sim
open Go Go.RowKit

structure Zac (P:Program) (n:FuncId) (args:List Zad) (h:Zaa) (Q:Zad→Zaa→Prop):Prop where
 able : ∃ fn, P.funcs[n]? = some fn ∧ fn.body.isSome = true ∧ (fn.name == "runtime.NumGoroutine") = false
 calls:∀ (base:Nat) (w0:World) (μ:List Pl) (w:World) (xs:Array Value),Rel P base w0 μ h w→VRs μ args xs.toList →
  Calls P n xs w fun e w'=>∃ x μ' v h',e=.returned x∧Ext μ μ'∧Rel P base w0 μ' h' w'∧VR μ' v x∧Q v h'
theorem Zac.mono {P:Program} {n:FuncId} {args:List Zad} {h:Zaa} {Q Q':Zad→Zaa→Prop} (hc:Zac P n args h Q) (hq:∀ v h',Q v h'→Q' v h'):Zac P n args h Q':=
 ⟨hc.1,fun base w0 μ w xs r hx=>(hc.2 base w0 μ w xs r hx).mono fun _ _ ⟨x,μ',v,h',a,b,c,d,q⟩=>⟨x,μ',v,h',a,b,c,d,hq _ _ q⟩⟩

def rts (P:Program) (f:FuncId):List TypeId:=match P.funcs[f]? with | some fn=>fn.resultTypes.toList | none=>[]
def Yki (P:Program) (f:FuncId) (args:List Zad) (h:Zaa) (K:Zad→Zaa→Prop):Prop:=Zac P f args h fun v h'=>Yjd P (rts P f) v fun v=>K v h'
def Ylu (v:Zad) (K:FuncId→List Zad→Prop):Prop:=match v with | .fn g caps=>K g caps | _=>False
def Yna (P:Program) (t:TypeId):List TypeId:=match P.underlying t with | some (.tuple ts)=>ts.toList | _=>[t]
def Ymo (P:Program) (t:TypeId) (v:Zad) (args:List Zad) (h:Zaa) (K:Zad→Zaa→Prop):Prop:=Ylu v fun g caps=>Zac P g (args ++ caps) h fun v h'=>Yjd P (Yna P t) v fun v=>K v h'
def Ycn (P:Program) (env:Env) (h:Zaa) (o:Oper) (c:Call) (K:Zad→Zaa→Prop):Prop:=
 match c.callee with
 | .value f=>(match f with
  | .func g=>Yki P g (c.args.toList.map (ev env) ++ []) h K
  | f=>Ymo P o.type (ev env f) (c.args.toList.map (ev env)) h K)
 | .builtin .append=>(match c.argTypes.toList with
  | [t,u]=>chk (u=t) (match c.args.toList.map (ev env) with | [s,x]=>Zea P t h s x fun v h'=>xv .slice (some v) fun v=>K v h' | _=>False)
  | _=>False)
 | .builtin .min=>(match c.args.toList.map (ev env) with | [x,y]=>Ykf x y fun v=>K v h | _=>False)
 | .builtin .clear=>(match c.argTypes.toList with
  | [t]=>(match c.args.toList.map (ev env) with | [x]=>Zyv P t h x K | _=>False)
  | _=>False)
 | .builtin .delete=>(match c.argTypes.toList with
  | t :: _=>(match c.args.toList.map (ev env) with | [m,k]=>Zop P t h m k K | _=>False)
  | _=>False)
 | _=>Zmn P env o fun v=>K v h
def opA (P:Program) (env:Env) (h:Zaa) (o:Oper) (K:Zad→Zaa→Prop):Prop:=
 match o.op with
 | .load t a=>chk ((P.underlying t).isSome=true) (Zpx P t h (ev env a) fun v=>K v h)
 | .store t a x=>chk ((P.underlying t).isSome=true) (Ztk P t h (ev env a) (ev env x) fun h'=>K .undef h')
 | .alloc t=>Yie P t h K
 | .box t x=>Ymx t h (ev env x) K
 | .build t ps=>Ycv P t (parts env ps) fun v=>K v h
 | .buildSlice t n ps=>Zkl P t n (parts env ps) h K
 | .call c=>Ycn P env h o c K
 | .makeSlice t l c=>Zic P t (ev env l) (ev env c) h K
 | .makeMap t r=>Zmh P t (r.map (ev env)) h K
 | .lookup t x i ok=>(match Yih P t with | true=>Zmd P t h (ev env x) (ev env i) ok fun v=>K v h | false=>Zoo P t h (ev env x) (ev env i) ok fun v=>K v h)
 | .mapUpdate t m k v=>(match Yih P t with | true=>Zgz P t h (ev env m) (ev env k) (ev env v) K | false=>Zif P t h (ev env m) (ev env k) (ev env v) K)
 | .range t x=>Zth P t (ev env x) h K
 | .next x st=>Zzy P o.type (ev env x) st h K
 | .entry x=>Zsz P o.type (ev env x) h fun v=>K v h
 | .convert s d x=>(match Ybm P s with | true=>Ykg P s d h (ev env x) fun v=>K v h | false=>Zmn P env o fun v=>K v h)
 | .binOp op t x y _=>(match ev env x with
  | .ptr a=>Zep (some (ev env y)) fun b=>Yhv P op t h a b K
  | _=>Zmn P env o fun v=>K v h)
 | _=>Zmn P env o fun v=>K v h
def Zmx (N:Nat) (env:Env) (d:Option Tmp) (v:Zad) (K:Env→Prop):Prop:=match d with | none=>K env | some d=>chk (d < N) (K (env.set d v))
def Zir (P:Program) (N:Nat) (ops:Array Oper) (env:Env) (h:Zaa) (o:Oper) (K:Env→Zaa→Prop):Prop:=
 match o.guard with
 | none=>opA P env h o fun v h'=>Zmx N env o.dst v fun env'=>K env' h'
 | some (j,want)=>(match (ops[j]?).bind (·.dst) with
  | some t=>(match env.get t with
   | .bool b=>bcase b
     (match want with | true=>opA P (env.set t (.bool true)) h o fun v h'=>Zmx N (env.set t (.bool true)) o.dst v fun env'=>K env' h' | false=>Zmx N (env.set t (.bool true)) o.dst (.tup []) fun env'=>K env' h)
     (match want with | false=>opA P (env.set t (.bool false)) h o fun v h'=>Zmx N (env.set t (.bool false)) o.dst v fun env'=>K env' h' | true=>Zmx N (env.set t (.bool false)) o.dst (.tup []) fun env'=>K env' h)
   | .tup []=>Zmx N env o.dst (.tup []) fun env'=>K env' h
   | _=>False)
  | none=>False)
def Yml (P:Program) (N:Nat) (ops:Array Oper):List Oper→Env→Zaa→(Env→Zaa→Prop)→Prop
 | [],env,h,K=>K env h
 | o :: r,env,h,K=>Zir P N ops env h o fun env' h'=>Yml P N ops r env' h' K

section
variable {P:Program} {base N:Nat} {w0:World} {μ:List Pl} {h:Zaa} {w:World}

structure St (P:Program) (base N:Nat) (w0:World) (μ:List Pl) (env:Env) (h:Zaa) (a:Act) (w:World):Prop where
 rel:Rel P base w0 μ h w
 env:Zit μ env a.tmps
 size:a.tmps.size=N
 defers:a.defers=[]

def Ygl (P:Program) (base N:Nat) (w0:World) (μ:List Pl) (K:Env→Zaa→Prop) (a:Act) (w:World):Prop:=
 ∃ μ' env h,Ext μ μ'∧St P base N w0 μ' env h a w∧K env h

theorem St.put {env:Env} {a:Act} (s:St P base N w0 μ env h a w) {μ':List Pl} {h':Zaa} {w':World} (he:Ext μ μ') (hr:Rel P base w0 μ' h' w') {v:Zad} {x:Value} (hv:VR μ' v x) {d:Option Tmp} {K:Env→Prop} (hk:Zmx N env d v K) :
  ∃ env',St P base N w0 μ' env' h' (a.put d x) w'∧K env':=by
 unfold Zmx at hk
 cases d with
 | none=>exact ⟨env,⟨hr,s.env.ext he,s.size,s.defers⟩,hk⟩
 | some d=>
  replace hk:=Zay hk
  obtain ⟨hd,hk⟩:=hk
  refine ⟨_,⟨hr,(s.env.ext he).set (by rw [s.size]; exact hd) hv,?_,s.defers⟩,hk⟩
  simp [Act.put,s.size]

theorem St.know {env:Env} {a:Act} (s:St P base N w0 μ env h a w) {t:Nat} {v:Zad} (hv:VR μ v (a.tmps.getD t undef)):St P base N w0 μ (env.set t v) h a w:=
 ⟨s.rel,s.env.know hv,s.size,s.defers⟩

theorem Res.wp {o:Oper} {a:Act} {K:Zad→Zaa→Prop} {next:Act→World→Prop} {Q:Exit→Act→World→Prop} {s:Sem Value}
  (hr:Res P base w0 μ (s.run P w) K) (he:(execOp a.eval o).run P w=(s.run P w).andThen fun x w'=>.ok (.value x) w')
  (hn:∀ x w' μ' v h',Ext μ μ'→Rel P base w0 μ' h' w'→VR μ' v x→K v h'→next (a.put o.dst x) w'):o.wp P a w next Q:=by
 obtain ⟨x,w',μ',v,h',hrun,hx,hrel,hv,hk⟩:=hr
 unfold Oper.wp
 rw [he,hrun]
 exact hn x w' μ' v h' hx hrel hv hk

theorem Yjo {env:Env} {a:Act} (s:St P base N w0 μ env h a w) {f:FuncId} {args:List Zad} {xs:Array Value} (hxs:VRs μ args xs.toList) {K:Zad→Zaa→Prop} (hk:Zac P f args h K)
  {o:Oper} (he:(execOp a.eval o).run P w=(callFunc f xs).run P w) {next:Act→World→Prop} {Q:Exit→Act→World→Prop}
  (hn:∀ x w' μ' v h',Ext μ μ'→Rel P base w0 μ' h' w'→VR μ' v x→K v h'→next (a.put o.dst x) w'):o.wp P a w next Q:=by
 obtain ⟨⟨fn,hf,hb,hname⟩,hc⟩:=hk
 have hcall:(callFunc f xs).run P w=.ok (.enter f xs) w:=by
  obtain ⟨c,hc⟩:=Option.isSome_iff_exists.1 hb
  have hname' : fn.name ≠ "runtime.NumGoroutine" := by simpa using hname
  simp [callFunc,hf,hc,hname']
 unfold Oper.wp
 rw [he,hcall]
 refine (hc base w0 μ w xs s.rel hxs).mono ?_
 rintro e w' ⟨x,μ',v,h',rfl,hx,hr,hv,hq⟩
 exact hn x w' μ' v h' hx hr hv hq

theorem VRs.single {v:Zad} {xs:Array Value} (h:VRs μ [v] xs.toList):∃ x,xs=#[x]∧VR μ v x:=by
 obtain ⟨l⟩:=xs
 match l,h with
 | [x],.cons a .nil=>exact ⟨x,rfl,a⟩
theorem Yje {env:Env} {a:Act} (s:St P base N w0 μ env h a w) {o:Oper} {K:Zad→Zaa→Prop} (hk:opA P env h o K) {next:Act→World→Prop} {Q:Exit→Act→World→Prop}
  (hn:∀ x w' μ' v h',Ext μ μ'→Rel P base w0 μ' h' w'→VR μ' v x→K v h'→next (a.put o.dst x) w'):o.wp P a w next Q:=by
 have hρ:=Yku s.env
 have pure:Zmn P env o (fun v=>K v h)→o.wp P a w next Q:=fun hk=>by
  obtain ⟨x,v,hr,hv,hk⟩:=Yjk hρ hk
  unfold Oper.wp
  rw [hr w]
  exact hn x w μ v h (Ext.refl _) s.rel hv hk
 unfold opA at hk
 split at hk
 ·rename_i t p he
  replace hk:=Zay hk
  obtain ⟨hu,hk⟩:=hk
  obtain ⟨y,v,hr,hv,hk⟩:=Yei s.rel (hρ p) hu hk
  unfold Oper.wp
  simp only [execOp,he,Sem.run_bind,hr,Result.andThen_ok,Sem.run_pure]
  exact hn y w μ v h (Ext.refl _) s.rel hv hk
 ·rename_i t p x he
  replace hk:=Zay hk
  obtain ⟨hu,hk⟩:=hk
  obtain ⟨w',h',hr,hrel,hk⟩:=Yhe s.rel (hρ p) (hρ x) hu hk
  unfold Oper.wp
  simp only [execOp,he,Sem.run_bind,hr,Result.andThen_ok,Sem.run_pure]
  exact hn undef w' μ .undef h' (Ext.refl _) hrel (.undef _) hk
 ·rename_i t he
  exact Res.wp (Yfv s.rel hk) (by simp [execOp,he]) hn
 ·rename_i t x he
  exact Res.wp (Ykz s.rel (hρ x) hk) (by simp [execOp,he]) hn
 ·rename_i t ps he
  obtain ⟨h1,h2⟩:=Zyn hρ ps
  obtain ⟨x,v,hr,hv,hk⟩:=Yfu h1 h2 hk
  unfold Oper.wp
  simp only [execOp,he,Sem.run_bind,hr w,Result.andThen_ok,Sem.run_pure]
  exact hn x w μ v h (Ext.refl _) s.rel hv hk
 ·rename_i t n ps he
  obtain ⟨h1,h2⟩:=Zyn hρ ps
  exact Res.wp (Zud s.rel h1 h2 hk) (by simp [execOp,he]) hn
 ·rename_i c he
  unfold Ycn at hk
  split at hk
  ·rename_i f hcal
   have go:∀ (f:Operand),c.callee=.value f→∀ (g:FuncId) (caps:List Zad),ev env f=.fn g caps→Zac P g (c.args.toList.map (ev env) ++ caps) h K→o.wp P a w next Q:=by
    intro f hcal g caps hev hk
    have hf:=hρ f
    rw [hev] at hf
    cases hfv:a.eval f with
    | func fn first cap=>
     rw [hfv] at hf
     cases hf with
     | fn hcaps=>
     refine Yjo s (xs:=c.args.map a.eval ++ cap) (by rw [Array.toList_append]; exact (Znf hρ c.args).append hcaps) hk ?_ hn
     simp [execOp,he,resolve,hcal,hfv,Deferred.ofValue,invoke]
    | _=>rw [hfv] at hf; cases hf
   split at hk
   ·rename_i g
    exact go _ hcal g [] rfl (Zac.mono hk fun _ _ hq=>Zuv (K:=fun v=>K v _) hq)
   ·unfold Ymo Ylu at hk
    split at hk
    ·rename_i g caps hev
     exact go _ hcal g caps hev (Zac.mono hk fun _ _ hq=>Zuv (K:=fun v=>K v _) hq)
    ·exact hk.elim
  ·rename_i hcal
   split at hk
   ·rename_i t u hts
    replace hk:=Zay hk
    obtain ⟨rfl,hk⟩:=hk
    split at hk
    ·rename_i sv xv hargs
     have hvs:=Znf hρ c.args
     rw [hargs] at hvs
     obtain ⟨x,y,hxy,h1,h2⟩:=hvs.two
     refine Res.wp (Yfi (ty:=o.type) s.rel h1 h2 hk) ?_ fun x w' μ' v h' hx hr hv hk=>(by obtain ⟨v2,hv2,hk⟩:=Zgn hk; cases hv2; exact hn x w' μ' v h' hx hr hv hk)
     have hat:c.argTypes=#[u,u]:=by
      apply Array.ext'; simpa using hts
     simp [execOp,he,resolve,hcal,invoke,builtin,hxy,hat]
    ·exact hk.elim
   ·exact hk.elim
  ·rename_i hcal
   split at hk
   ·rename_i a b hargs
    have hvs:=Znf hρ c.args
    rw [hargs] at hvs
    obtain ⟨x,y,hxy,h1,h2⟩:=hvs.two
    obtain ⟨v,z,hr,hv,hk⟩:=Ylc (ts:=c.argTypes) (t:=o.type) h1 h2 hk
    exact Res.wp (s:=Builtin.min_ c.argTypes o.type #[x,y]) ⟨z,w,μ,v,h,hr w,Ext.refl _,s.rel,hv,hk⟩ (by simp [execOp,he,resolve,hcal,invoke,builtin,hxy]) hn
   ·exact hk.elim
  ·rename_i hcal
   split at hk
   ·rename_i t hts
    split at hk
    ·rename_i x1 hargs
     have hvs:=Znf hρ c.args
     rw [hargs] at hvs
     obtain ⟨x,hxy,h1⟩:=hvs.single
     refine Res.wp (Yfw (ty:=o.type) s.rel h1 hk) ?_ hn
     have hat:c.argTypes=#[t]:=by
      apply Array.ext'; simpa using hts
     simp [execOp,he,resolve,hcal,invoke,builtin,hxy,hat]
    ·exact hk.elim
   ·exact hk.elim
  ·rename_i hcal
   split at hk
   ·rename_i t rest hts
    split at hk
    ·rename_i mv kv hargs
     have hvs:=Znf hρ c.args
     rw [hargs] at hvs
     obtain ⟨x,y,hxy,h1,h2⟩:=hvs.two
     have hat:c.argTypes[0]?=some t:=by rw [← Array.getElem?_toList,hts]; rfl
     refine Res.wp (Yde (ty:=o.type) s.rel hat h1 h2 hk) ?_ hn
     simp [execOp,he,resolve,hcal,invoke,builtin,hxy]
    ·exact hk.elim
   ·exact hk.elim
  ·exact pure hk
 ·rename_i t l c he
  exact Res.wp (Zwc s.rel (hρ l) (hρ c) hk) (by simp [execOp,he]) hn
 ·rename_i t m he
  refine Res.wp (Yaw (x:=m.map a.eval) s.rel ?_ hk) (by simp [execOp,he]) hn
  cases m with
  | none=>exact .inl ⟨rfl,rfl⟩
  | some m=>exact .inr ⟨_,_,rfl,rfl,hρ m⟩
 ·rename_i t x i ok he
  split at hk
  ·obtain ⟨z,v,hr,hv,hk⟩:=Ybh s.rel (hρ x) (hρ i) hk
   exact Res.wp (s:=Instr.lookup t (a.eval x) (a.eval i) ok) ⟨z,w,μ,v,h,hr,Ext.refl _,s.rel,hv,hk⟩ (by simp [execOp,he]) hn
  ·obtain ⟨z,v,hr,hv,hk⟩:=Ycg s.rel (hρ x) (hρ i) hk
   exact Res.wp (s:=Instr.lookup t (a.eval x) (a.eval i) ok) ⟨z,w,μ,v,h,hr,Ext.refl _,s.rel,hv,hk⟩ (by simp [execOp,he]) hn
 ·rename_i t m k x he
  split at hk
  ·obtain ⟨w',h',hr,hrel,hk⟩:=Ztw s.rel (hρ m) (hρ k) (hρ x) hk
   unfold Oper.wp
   simp only [execOp,he,Sem.run_bind,hr,Result.andThen_ok,Sem.run_pure]
   exact hn undef w' μ .undef h' (Ext.refl _) hrel (.undef _) hk
  ·obtain ⟨w',h',hr,hrel,hk⟩:=Zvb s.rel (hρ m) (hρ k) (hρ x) hk
   unfold Oper.wp
   simp only [execOp,he,Sem.run_bind,hr,Result.andThen_ok,Sem.run_pure]
   exact hn undef w' μ .undef h' (Ext.refl _) hrel (.undef _) hk
 ·rename_i t x he
  exact Res.wp (Ygf s.rel (hρ x) hk) (by simp [execOp,he]) hn
 ·rename_i x st he
  exact Res.wp (Yem (ty:=o.type) s.rel (hρ x) hk) (by simp [execOp,he]) hn
 ·rename_i x he
  obtain ⟨z,v,hr,hv,hk⟩:=Ygz s.rel (hρ x) hk
  exact Res.wp (s:=Instr.entry (a.eval x)) ⟨z,w,μ,v,h,hr,Ext.refl _,s.rel,hv,hk⟩ (by simp [execOp,he]) hn
 ·rename_i a b x he
  split at hk
  ·exact Res.wp (Yiq s.rel (hρ x) hk) (by simp [execOp,he]) hn
  ·exact pure hk
 ·rename_i op t x y yt he
  split at hk
  ·rename_i pa hx
   obtain ⟨pb,hy,hk⟩:=Zma hk
   have hy:=Option.some.inj hy
   have h1:=hρ x; rw [hx] at h1
   have h2:=hρ y; rw [hy] at h2
   obtain ⟨e,hr,hk⟩:=Ykl (xo:=x) (yo:=y) s.rel h1 h2 hk
   unfold Oper.wp
   simp only [execOp,he]
   rw [Sem.run_bind,hr]
   exact hn _ w μ _ h (Ext.refl _) s.rel (.bool e) hk
  ·exact pure hk
 ·exact pure hk

theorem Yen {tmps:Array Value} {t:Nat} {b:Bool} (h:VR μ (.bool b) (tmps.getD t undef)):tmps[t]?=some (.bool b):=by
 simp only [Array.getD_eq_getD_getElem?] at h
 cases hx:tmps[t]? with
 | none=>rw [hx] at h; simp [undef] at h; cases h
 | some x=>rw [hx] at h; simp at h; cases h; rfl

theorem Yff {ops:Array Oper} {env:Env} {a:Act} (s:St P base N w0 μ env h a w) {o:Oper} {K:Env→Zaa→Prop} (hk:Zir P N ops env h o K) {next:Act→World→Prop} {Q:Exit→Act→World→Prop}
  (hn:∀ a w,Ygl P base N w0 μ K a w→next a w):if Region.wanted o (yielded ops a.tmps) then o.wp P a w next Q else next (a.put o.dst undef) w:=by
 have fin:∀ {env:Env} {v:Zad} {x:Value} {μ':List Pl} {h':Zaa} {w':World},St P base N w0 μ env h a w→Ext μ μ'→Rel P base w0 μ' h' w'→VR μ' v x→Zmx N env o.dst v (fun env'=>K env' h')→next (a.put o.dst x) w':=by
  intro env v x μ' h' w' s hx hr hv hk
  obtain ⟨env',s',hk⟩:=s.put hx hr hv hk
  exact hn _ _ ⟨μ',env',h',hx,s',hk⟩
 unfold Zir at hk
 split at hk
 ·rename_i hg
  have:Region.wanted o (yielded ops a.tmps)=true:=by simp [Region.wanted,hg]
  rw [if_pos this]
  exact Yje s hk fun x w' μ' v h' hx hr hv hk=>fin s hx hr hv hk
 ·rename_i j want hg
  split at hk
  ·rename_i t ht
   split at hk
   ·rename_i b hb
    have henv:=s.env t
    rw [hb] at henv
    have hy:yielded ops a.tmps j=some b:=by
     unfold yielded
     rw [ht]; simp only [Option.bind_some,Yen henv]
    have hwant:Region.wanted o (yielded ops a.tmps)=(b == want):=by simp [Region.wanted,hg,hy]
    rw [hwant]
    have hknow:∀ c,b=c→St P base N w0 μ (env.set t (.bool c)) h a w:=fun c e=>by subst e; exact s.know henv
    refine Ybd hk ?_ ?_
    ·rintro rfl hk
     have s':=hknow true rfl
     cases want with
     | true=>exact Yje s' hk fun x w' μ' v h' hx hr hv hk=>fin s' hx hr hv hk
     | false=>exact fin s' (Ext.refl _) s.rel (.tup .nil) hk
    ·rintro rfl hk
     have s':=hknow false rfl
     cases want with
     | false=>exact Yje s' hk fun x w' μ' v h' hx hr hv hk=>fin s' hx hr hv hk
     | true=>exact fin s' (Ext.refl _) s.rel (.tup .nil) hk
   ·rename_i hb
    have henv:=s.env t
    rw [hb] at henv
    have hy:yielded ops a.tmps j=none:=by
     unfold yielded
     rw [ht]; simp only [Option.bind_some]
     have:a.tmps[t]?=none ∨ a.tmps[t]?=some (.tuple #[]):=by
      simp only [Array.getD_eq_getD_getElem?] at henv
      cases hx:a.tmps[t]? with
      | none=>exact .inl rfl
      | some x=>
       rw [hx] at henv
       simp only [Option.getD_some] at henv
       cases henv with
       | tup hv => 
        have:=hv.length
        rename_i xs
        have:xs=#[]:=by apply Array.ext'; exact List.eq_nil_of_length_eq_zero (by simpa using this.symm)
        subst this; exact .inr rfl
     rcases this with h | h <;> rw [h]
    have hwant:Region.wanted o (yielded ops a.tmps)=false:=by simp [Region.wanted,hg,hy]
    rw [hwant]
    exact fin s (Ext.refl _) s.rel (.tup .nil) hk
   ·exact hk.elim
  ·exact hk.elim

theorem Yhx {ops:Array Oper} {Q:Exit→Act→World→Prop}:∀ (l:List Oper) {μ:List Pl} {h:Zaa} {w:World} {env:Env} {a:Act},St P base N w0 μ env h a w→∀ {K:Env→Zaa→Prop},Yml P N ops l env h K →
  (∀ a w,Ygl P base N w0 μ K a w→Q .normal a w)→wpList P ops Q l a w
 | [],μ,h,w,env,a,s,K,hk,hq=>hq a w ⟨μ,env,h,Ext.refl _,s,hk⟩
 | o :: r,μ,h,w,env,a,s,K,hk,hq=>by
  have hstep:=Yff (next:=wpList P ops Q r) (Q:=Q) s hk (fun a' w' ⟨μ',env',h',hx,s',hk'⟩=>Yhx r s' hk' (fun a w ⟨μ2,env2,h2,hx2,s2,k2⟩=>hq a w ⟨μ2,env2,h2,hx.trans hx2,s2,k2⟩))
  unfold wpList
  split
  ·rename_i hw; rw [if_pos hw] at hstep; exact .inl hstep
  ·rename_i hw; rw [if_neg hw] at hstep; exact hstep
end
end Go.Sim

set_option linter.unusedSimpArgs false
namespace Go.Sim
open Go Go.RowKit

section
variable {P:Program} {K K':Zad→Zaa→Prop} {k k':Zad→Prop}

theorem Yan {o:Option Zad} {K K':Bool→Prop} (h:Zbh o K) (m:∀ b,K b→K' b):Zbh o K':=by
 unfold Zbh at *; split at h <;> first | exact m _ h | exact h.elim
theorem Yce {q:IntKind} {o:Option Zad} {K K':Int→Prop} (h:Zbo q o K) (m:∀ b,K b→K' b):Zbo q o K':=by
 unfold Zbo at *; split at h <;> first | exact ⟨h.1,m _ h.2⟩ | exact h.elim
theorem Zro {o:Option Zad} {K K':List Nat→Prop} (h:Zck o K) (m:∀ b,K b→K' b):Zck o K':=by
 unfold Zck at *; split at h <;> first | exact m _ h | exact h.elim
theorem Zli {o:Option Zad} {K K':Option (Nat × Nat)→Prop} (h:Zep o K) (m:∀ b,K b→K' b):Zep o K':=by
 unfold Zep at *; split at h <;> first | exact m _ h | exact h.elim
theorem Yhn {o:Option Zad} {K K':Option (Nat × Nat)→Nat→Nat→Bool→Prop} (h:xSl o K) (m:∀ a b c d,K a b c d→K' a b c d):xSl o K':=by
 unfold xSl at *; split at h <;> first | exact m _ _ _ _ h | exact h.elim
theorem Ybt {o:Option Zad} {K K':Option Nat→Prop} (h:Zwy o K) (m:∀ b,K b→K' b):Zwy o K':=by
 unfold Zwy at *; split at h <;> first | exact m _ h | exact h.elim
theorem Zlc {o:Option Zad} (h:Zsq o k) (m:∀ b,k b→k' b):Zsq o k':=by
 unfold Zsq at *; split at h <;> first | exact m _ h | exact h.elim
theorem Ztt {cs:List Zad} {K K':Zad→List Zad→Prop} (h:Zai cs K) (m:∀ a b,K a b→K' a b):Zai cs K':=by
 unfold Zai at *; split at h <;> first | exact m _ _ h | exact h.elim
theorem Zwd {cs:List Zad} {K K':Prop} (h:Zcg cs K) (m:K→K'):Zcg cs K':=by
 unfold Zcg at *; split at h <;> first | exact m h | exact h.elim
theorem Zel {o:Option (List Zad)} {K K':List Zad→Prop} (h:Zdg o K) (m:∀ b,K b→K' b):Zdg o K':=by
 unfold Zdg at *; split at h <;> first | exact m _ h | exact h.elim
theorem Zto {o:Option Zaa} {K K':Zaa→Prop} (h:Zcc o K) (m:∀ b,K b→K' b):Zcc o K':=by
 unfold Zcc at *; split at h <;> first | exact m _ h | exact h.elim
theorem Yej {v:Zad} {K K':List Zad→Prop} (h:Zqb v K) (m:∀ b,K b→K' b):Zqb v K':=by
 unfold Zqb at *; split at h <;> first | exact m _ h | exact h.elim
theorem Yer {v:Zad} {K K':List Zad→Prop} (h:Zmb v K) (m:∀ b,K b→K' b):Zmb v K':=by
 unfold Zmb at *; split at h <;> first | exact m _ h | exact h.elim
theorem Zrn {o:Option Field} {K K':Field→Prop} (h:Zmu o K) (m:∀ b,K b→K' b):Zmu o K':=by
 unfold Zmu at *; split at h <;> first | exact m _ h | exact h.elim
theorem Zbl {p:Prop} [Decidable p] {K K':Prop} (h:chk p K) (m:K→K'):chk p K':=by
 unfold chk at *; split at h <;> first | exact m h | exact h.elim
theorem Ziq {o:Option Zad} {d:Int} {K K':Int→Prop} (h:Zhs o d K) (m:∀ b,K b→K' b):Zhs o d K':=by
 unfold Zhs at *; split at h <;> first | exact m _ h | exact h.elim
theorem Ybn {b:Bool} {A B A' B':Prop} (h:bcase b A B) (m:A→A') (n:B→B'):bcase b A' B':=by
 unfold bcase at *; split at h <;> first | exact m h | exact n h
theorem Zje {s:Sh} {o:Option Zad} (h:xv s o k) (m:∀ v,k v→k' v):xv s o k':=by
 cases s <;> simp only [xv] at *
 ·exact Yan h fun _=>m _
 ·exact Yce h fun _=>m _
 ·exact Zro h fun _=>m _
 ·exact Zli h fun _=>m _
 ·exact Yhn h fun _ _ _ _=>m _
 ·exact Ybt h fun _=>m _
 ·exact Zlc h m
theorem Zxz:∀ {ss:List Sh} {cs:List Zad} {K K':List Zad→Prop},xs ss cs K→(∀ v,K v→K' v)→xs ss cs K'
 | [],_,_,_,h,m=>Zwd h (m _)
 | _ :: _,_,_,_,h,m=>Ztt h fun _ _ h=>Zje h fun _ h=>Zxz h fun _=>m _
theorem Ycp {t:TypeId} {v:Zad} (h:xt P t v k) (m:∀ v,k v→k' v):xt P t v k':=by
 unfold xt at *
 split at h
 ·exact Yej h fun _ h=>Zxz h fun _=>m _
 ·exact Zje h m
theorem Zzs:∀ {ts:List TypeId} {cs:List Zad} {K K':List Zad→Prop},xts P ts cs K→(∀ v,K v→K' v)→xts P ts cs K'
 | [],_,_,_,h,m=>Zwd h (m _)
 | _ :: _,_,_,_,h,m=>Ztt h fun _ _ h=>Ycp h fun _ h=>Zzs h fun _=>m _
theorem Zwg {ts:List TypeId} {v:Zad} (h:Yjd P ts v k) (m:∀ v,k v→k' v):Yjd P ts v k':=by
 unfold Yjd at *
 split at h
 ·exact m _ h
 ·exact Ycp h m
 ·exact Yer h fun _ h=>Zzs h fun _=>m _
theorem Yaa {t:TypeId} {h:Zaa} {p:Zad} (hh:Zpx P t h p k) (m:∀ v,k v→k' v):Zpx P t h p k':=by
 unfold Zpx at *
 split at hh
 ·exact Zel hh fun _ h=>Zxz h fun _=>m _
 ·exact Zje hh m
theorem Zxi {t:TypeId} {h:Zaa} {p v:Zad} {K K':Zaa→Prop} (hh:Ztk P t h p v K) (m:∀ v,K v→K' v):Ztk P t h p v K':=by
 unfold Ztk at *
 split at hh
 ·split at hh
  ·exact Zto hh m
  ·exact hh.elim
 ·exact hh.elim
theorem Yaj {a b:Option (Nat × Nat)} {K K':Bool→Prop} (h:Zxx a b K) (m:∀ b,K b→K' b):Zxx a b K':=by
 unfold Zxx at *
 split at h
 ·exact m _ h
 ·split at h
  ·exact m _ h
  ·exact h.elim
theorem Zhc {a:Option (Nat × Nat)} {K K':Nat→Nat→Prop} (h:Zax a K) (m:∀ b o,K b o→K' b o):Zax a K':=by
 obtain ⟨b,o,rfl,h⟩:=Zbm h
 exact m _ _ h
theorem Zzl {t:TypeId} {x y:Zad} {K K':Bool→Prop} (h:eqA P t x y K) (m:∀ b,K b→K' b):eqA P t x y K':=by
 unfold eqA at *
 split at h <;> (try exact h.elim) <;> split at h <;> (try exact h.elim)
 ·exact Zbl h (m _)
 ·exact m _ h
 ·exact Zbl h (m _)
 ·exact Zbl h fun h=>Yaj h m
 ·split at h
  ·exact m _ h
  ·exact h.elim
 ·exact Zbl h fun h=>⟨h.1,m _ h.2⟩
theorem Ydy {op:BinOp} {t:TypeId} {x y:Zad} (h:Yfr P op t x y k) (m:∀ v,k v→k' v):Yfr P op t x y k':=by
 unfold Yfr at *
 split at h
 ·exact Zzl h fun _=>m _
 ·exact Zzl h fun _=>m _
 ·split at h
  ·split at h
   ·split at h <;> first
     | exact h.elim
     | exact Zbl h (m _)
     | exact Zbl h fun h=>⟨h.1,m _ h.2⟩
     | exact ⟨h.1,m _ h.2⟩
   ·exact h.elim
  ·split at h
   ·split at h <;> first
     | exact h.elim
     | exact ⟨h.1,m _ h.2⟩
     | exact m _ h
   ·exact h.elim
  ·exact h.elim
theorem Ztl {t:TypeId} {cs:List Zad} {off:Nat} (h:Zsu P t cs off k) (m:∀ v,k v→k' v):Zsu P t cs off k':=by
 unfold Zsu at *
 split at h
 ·exact m _ h
 ·exact Zbl h fun h=>Zlc h m
theorem Ydc {ts:Array TypeId} {xs:List Zad} (h:Yiw P ts xs k) (m:∀ v,k v→k' v):Yiw P ts xs k':=by
 unfold Yiw at *
 split at h <;> first | exact h.elim | exact Zbl h (m _)
theorem Yav {s d:TypeId} {x:Zad} (h:Zyf P s d x k) (m:∀ v,k v→k' v):Zyf P s d x k':=by
 unfold Zyf at *
 split at h
 ·split at h <;> first | exact h.elim | exact Zbl h (m _)
 ·split at h <;> first | exact h.elim | exact Zbl h (m _) | exact Zbl h fun h=>⟨h.1,m _ h.2⟩
 ·exact h.elim
theorem Zye {t:TypeId} {x:Zad} {lo hi mx:Option Zad} (h:Zti P t x lo hi mx k) (m:∀ v,k v→k' v):Zti P t x lo hi mx k':=by
 unfold Zti at *
 split at h
 ·split at h
  ·exact Zbl h fun h=>Ziq h fun _ h=>Ziq h fun _ h=>⟨h.1,m _ h.2⟩
  ·exact h.elim
 ·split at h
  ·refine Zbl h fun h=>Zbl h fun h=>Ziq h fun _ h=>Ziq h fun _ h=>Ziq h fun _ h=>⟨h.1,?_⟩
   have h2:=h.2
   split at h2
   ·exact ⟨h2.1,m _ h2.2⟩
   ·exact ⟨fun a=>m _ (h2.1 a),fun a=>m _ (h2.2 a)⟩
  ·exact h.elim
 ·exact h.elim
theorem Zmk {env:Env} {o:Oper} (h:Zmn P env o k) (m:∀ v,k v→k' v):Zmn P env o k':=by
 obtain ⟨dst,op,type,pos,after,guard⟩:=o
 unfold Zmn at *
 cases op <;> simp only at h ⊢ <;> (try exact h.elim)
 case move x=>exact m _ h
 case assign x=>exact m _ h
 case pick c a b=>
  unfold Ydp at *
  split at h
  ·exact Ybn h (m _) (m _)
  ·exact h.elim
 case nilCheck x=>
  unfold Ymb at *
  split at h <;> first | exact h.elim | exact m _ h | exact Zhc h fun _ _=>m _
 case fieldAddr t x i=>
  unfold Zjs at *
  split at h
  ·exact Zrn h fun _ h=>Zbl h fun h=>Zbl h fun h=>Zhc h fun _ _=>m _
  ·exact h.elim
 case field t x i=>
  unfold Zur at *
  split at h
  ·exact Zrn h fun _ h=>Ztl h m
  ·exact h.elim
 case indexAddr t x i=>
  unfold Zjq at *
  split at h
  ·split at h
   ·split at h <;> first | exact h.elim | exact Zbl h fun h=>⟨h.1,Zhc h.2 fun _ _=>m _⟩
   ·split at h <;> first | exact h.elim | exact Zbl h fun h=>⟨h.1,Zhc h.2 fun _ _=>m _⟩
   ·exact h.elim
  ·exact h.elim
 case index t x i=>
  unfold Zwa at *
  split at h
  ·split at h
   ·split at h
    ·exact ⟨h.1,m _ h.2⟩
    ·exact h.elim
   ·split at h
    ·exact Zbl h fun h=>⟨h.1,Ztl h.2 m⟩
    ·exact h.elim
   ·exact h.elim
  ·exact h.elim
 case slice t x lo hi mx=>exact Zye h m
 case binOp op t x y yt=>exact Ydy h m
 case unOp op t x=>
  unfold unA at *
  split at h
  ·split at h <;> first | exact h.elim | exact m _ h
  ·split at h <;> first | exact h.elim | exact m _ h
  ·exact h.elim
 case convert s d x=>exact Yav h m
 case extract x i=>
  unfold Znx at *
  split at h
  ·exact Zlc h m
  ·exact h.elim
 case makeFunc fn first caps=>
  cases fn <;> simp only at h ⊢ <;> first | exact h.elim | exact Zbl h (m _)
 case call c=>
  split at h
  ·exact Ydc h m
  ·exact h.elim
theorem Zsc {h:Zaa} {j:Nat} {e:TypeId} {A B:List Zad→Prop} (hh:Zmz h j e A) (m:∀ cs,A cs→B cs):Zmz h j e B:=by
 unfold Zmz at *
 split at hh
 ·exact ⟨hh.1,m _ hh.2⟩
 ·exact hh.elim
theorem Zvt {t:TypeId} {h:Zaa} {s x:Zad} (hh:Zea P t h s x K) (m:∀ v h,K v h→K' v h):Zea P t h s x K':=by
 unfold Zea at *
 split at hh <;> (try exact hh.elim)
 split at hh <;> (try exact hh.elim)
 split at hh <;> (try exact hh.elim)
 refine Zel hh fun new h=>⟨h.1,?_⟩
 have h2:=h.2
 split at h2
 ·exact ⟨fun a=>m _ _ (h2.1 a),fun a=>⟨(h2.2 a).1,m _ _ (h2.2 a).2⟩⟩
 ·rcases h2 with ⟨a,b⟩ | ⟨a,b⟩ | ⟨a,b⟩
  ·exact .inl ⟨a,Zsc b fun _ h=>⟨h.1,m _ _ h.2⟩⟩
  ·exact .inr (.inl ⟨a,Zsc b fun _ h=>⟨h.1,m _ _ h.2⟩⟩)
  ·exact .inr (.inr ⟨a,Zel b fun _=>m _ _⟩)
theorem Zqy:∀ {cs:List Zad} {K K':List Nat→Prop},Zlk cs K→(∀ s,K s→K' s)→Zlk cs K'
 | [],_,_,h,m=>m _ h
 | .int k n :: r,_,_,h,m=>by
  unfold Zlk at *
  exact Zbl h fun h=>⟨h.1,Zqy h.2 fun _=>m _⟩
 | .undef :: _,_,_,h,_ | .bool _ :: _,_,_,h,_ | .str _ :: _,_,_,h,_ | .ptr _ :: _,_,_,h,_ | .slice .. :: _,_,_,h,_ | .map _ :: _,_,_,h,_ | .fn .. :: _,_,_,h,_ | .nilFn :: _,_,_,h,_ | .iter _ :: _,_,_,h,_
 | .agg _ :: _,_,_,h,_ | .tup _ :: _,_,_,h,_=>by unfold Zlk at h; exact h.elim
theorem Ycc {s d:TypeId} {h:Zaa} {x:Zad} {K K':Zad→Prop} (hh:Ykg P s d h x K) (m:∀ v,K v→K' v):Ykg P s d h x K':=by
 unfold Ykg at *
 split at hh
 ·refine Zbl hh fun h=>?_
  split at h
  ·exact Zel h fun _ h=>Zqy h fun _=>m _
  ·exact h.elim
 ·exact hh.elim
theorem Yfa {x y:Zad} {K K':Zad→Prop} (hh:Ykf x y K) (m:∀ v,K v→K' v):Ykf x y K':=by
 unfold Ykf at *
 split at hh
 ·split at hh
  ·exact Zbl hh (m _)
  ·exact hh.elim
 ·exact hh.elim
theorem Zrb {t:TypeId} {a b:Zad} {h:Zaa} {K K':Zad→Zaa→Prop} (hh:Zic P t a b h K) (m:∀ v h,K v h→K' v h):Zic P t a b h K':=by
 unfold Zic at *
 split at hh
 ·refine Zel hh fun _ h=>Zbl h fun h=>?_
  unfold Zbo at *
  split at h
  ·refine ⟨h.1,?_⟩
   replace h:=h.2
   split at h
   ·exact ⟨h.1,h.2.1,m _ _ h.2.2⟩
   ·exact h.elim
  ·exact h.elim
 ·exact hh.elim
theorem Zeq {h:Zaa} {m:Option Nat} {K K':List ME→Nat→Prop} (hh:Zbv h m K) (m':∀ a b,K a b→K' a b):Zbv h m K':=by
 unfold Zbv at *
 split at hh
 ·exact m' _ _ hh
 ·split at hh
  ·exact m' _ _ hh
  ·exact hh.elim
theorem Yae {es:List ME} {s:List Nat} {K K':Option Zad→Prop} (hh:Znd es s K) (m:∀ a,K a→K' a):Znd es s K':=by
 unfold Znd at *; split at hh <;> first | exact m _ hh | exact hh.elim
theorem Yda {es:List ME} {clk:Nat} {s:List Nat} {v:Zad} {K K':List ME→Nat→Prop} (hh:Zzv es clk s v K) (m:∀ a b,K a b→K' a b):Zzv es clk s v K':=by
 unfold Zzv at *; split at hh <;> first | exact m _ _ hh | exact hh.elim
theorem Zqo {m:Option Nat} {K K':Nat→Prop} (hh:xMp m K) (mm:∀ a,K a→K' a):xMp m K':=by
 unfold xMp at *; split at hh <;> first | exact mm _ hh | exact hh.elim
theorem Yad {h:Zaa} {r:Nat} {K K':List Nat→Nat→Prop} (hh:Yaz h r K) (m:∀ a b,K a b→K' a b):Yaz h r K':=by
 unfold Yaz at *; split at hh <;> first | exact m _ _ hh | exact hh.elim
theorem Zri {h:Zaa} {r:Nat} {K K':Option Nat→Nat→List Nat→Nat→Prop} (hh:Zms h r K) (m:∀ a b c d,K a b c d→K' a b c d):Zms h r K':=by
 unfold Zms at *; split at hh <;> first | exact m _ _ _ _ hh | exact hh.elim
theorem Zuz {t:TypeId} {h:Zaa} {x i:Zad} {ok:Bool} (hh:Zoo P t h x i ok k) (m:∀ v,k v→k' v):Zoo P t h x i ok k':=by
 unfold Zoo at *
 split at hh
 ·refine Zbl hh fun h=>?_
  split at h
  ·exact Zro h fun _ h=>Zlc h fun _ h=>Zeq h fun _ _ h=>Yae h fun _ h=>Zje h fun _=>m _
  ·exact h.elim
 ·exact hh.elim
theorem Zsd {t:TypeId} {h:Zaa} {x i v:Zad} (hh:Zif P t h x i v K) (m:∀ v h,K v h→K' v h):Zif P t h x i v K':=by
 unfold Zif at *
 split at hh
 ·refine Zbl hh fun h=>?_
  split at h
  ·exact Zqo h fun _ h=>Zro h fun _ h=>Zeq h fun _ _ h=>Yda h fun _ _=>m _ _
  ·exact h.elim
 ·exact hh.elim
theorem Ztx {t:TypeId} {r:Option Zad} {h:Zaa} (hh:Zmh P t r h K) (m:∀ v h,K v h→K' v h):Zmh P t r h K':=by
 unfold Zmh at *
 split at hh <;> first | exact m _ _ hh | exact Zbl hh (m _ _) | exact hh.elim
theorem Zxd {t:TypeId} {x:Zad} {h:Zaa} (hh:Zth P t x h K) (m:∀ v h,K v h→K' v h):Zth P t x h K':=by
 unfold Zth at *
 split at hh <;> first | exact hh.elim | exact Zbl hh (m _ _) | exact Zbl hh fun h=>Zeq h fun _ _=>m _ _
theorem Yco {m:Option Nat} {A B A' B':Prop} (hh:Yjx m A B) (p:A→A') (q:B→B'):Yjx m A' B':=by
 unfold Yjx at *; split at hh <;> first | exact p hh | exact q hh
theorem Yba {ty:TypeId} {x:Zad} {st:Bool} {h:Zaa} (hh:Zzy P ty x st h K) (m:∀ v h,K v h→K' v h):Zzy P ty x st h K':=by
 unfold Zzy at *
 split at hh
 ·split at hh
  ·exact Yad hh fun _ _ h=>⟨fun a=>⟨(h.1 a).1,m _ _ (h.1 a).2⟩,fun a=>m _ _ (h.2 a)⟩
  ·exact Zri hh fun _ _ _ _ h=>Yco h (m _ _) fun h=>Zeq h fun _ _ h=>⟨h.1,fun a=>m _ _ (h.2.1 a),fun e he hn=>Zje (h.2.2 e he hn) fun _ h=>Zje h fun _=>m _ _⟩
 ·exact hh.elim
theorem Zxw {ty:TypeId} {x:Zad} {h:Zaa} (hh:Zsz P ty x h k) (m:∀ v,k v→k' v):Zsz P ty x h k':=by
 unfold Zsz at *
 split at hh
 ·exact Zri hh fun _ _ _ _ h=>Zqo h fun _ h=>Zeq h fun _ _ h=>⟨h.1,h.2.imp fun _ h=>⟨h.1,h.2.imp fun _ h=>⟨h.1,Zje h.2 fun _ h=>Zje h fun _=>m _⟩⟩⟩
 ·exact hh.elim
theorem Zrt {h:Zaa} {a b:Option (Nat × Nat)} {K K':Bool→Prop} (hh:Zog h a b K) (m:∀ e,K e→K' e):Zog h a b K':=by
 unfold Zog at *
 split at hh
 ·exact m _ hh
 ·split at hh
  ·exact m _ hh
  ·exact hh.imp (fun h=>⟨h.1,m _ h.2⟩) fun h=>⟨h.1,h.2.1,h.2.2.1,m _ h.2.2.2⟩
theorem Yet {op:BinOp} {t:TypeId} {h:Zaa} {a b:Option (Nat × Nat)} (hh:Yhv P op t h a b K) (m:∀ v h,K v h→K' v h):Yhv P op t h a b K':=by
 unfold Yhv at *
 split at hh
 ·exact Zbl hh fun h=>Zrt h fun _=>m _ _
 ·exact Zbl hh fun h=>Zrt h fun _=>m _ _
 ·exact hh.elim
theorem Ybo {r:Option (Option (Nat × Zad))} {K K':Option Zad→Prop} (hh:Zqw r K) (m:∀ e,K e→K' e):Zqw r K':=by
 unfold Zqw at *; split at hh <;> first | exact m _ hh | exact hh.elim
theorem Ydh {r:Option (Option (Nat × Zad))} {es:List ME} {clk:Nat} {p:Nat × Nat} {v:Zad} {K K':List ME→Nat→Prop} (hh:Yfz r es clk p v K) (m:∀ a b,K a b→K' a b):Yfz r es clk p v K':=by
 unfold Yfz at *; split at hh <;> first | exact m _ _ hh | exact hh.elim
theorem Yeo {r:Option (Option (Nat × Zad))} {es:List ME} {K K':List ME→Prop} (hh:Yhu r es K) (m:∀ a,K a→K' a):Yhu r es K':=by
 unfold Yhu at *; split at hh <;> first | exact m _ hh | exact hh.elim
theorem Zuh {t:TypeId} {h:Zaa} {x i:Zad} {ok:Bool} (hh:Zmd P t h x i ok k) (m:∀ v,k v→k' v):Zmd P t h x i ok k':=by
 unfold Zmd at *
 split at hh
 ·refine Zbl hh fun h=>?_
  split at h
  ·exact Zli h fun _ h=>Zhc h fun _ _ h=>Zlc h fun _ h=>Zeq h fun _ _ h=>Ybo h fun _ h=>Zje h fun _=>m _
  ·exact h.elim
 ·exact hh.elim
theorem Zpy {t:TypeId} {h:Zaa} {x i v:Zad} (hh:Zgz P t h x i v K) (m:∀ v h,K v h→K' v h):Zgz P t h x i v K':=by
 unfold Zgz at *
 split at hh
 ·refine Zbl hh fun h=>?_
  split at h
  ·exact Zqo h fun _ h=>Zli h fun _ h=>Zhc h fun _ _ h=>Zeq h fun _ _ h=>Ydh h fun _ _=>m _ _
  ·exact h.elim
 ·exact hh.elim
theorem Zwb {t:TypeId} {h:Zaa} {x i:Zad} (hh:Zop P t h x i K) (m:∀ v h,K v h→K' v h):Zop P t h x i K':=by
 unfold Zop at *
 split at hh
 ·refine Zbl hh fun h=>?_
  split at h
  ·exact Zqo h fun _ h=>Zli h fun _ h=>Zhc h fun _ _ h=>Zeq h fun _ _ h=>Yeo h fun _=>m _ _
  ·exact h.elim
 ·exact hh.elim
theorem Ygv {env:Env} {h:Zaa} {o:Oper} (hh:opA P env h o K) (m:∀ v h,K v h→K' v h):opA P env h o K':=by
 obtain ⟨dst,op,type,pos,after,guard⟩:=o
 unfold opA at *
 cases op <;> simp only at hh ⊢
 case load t a=>exact Zbl hh fun h=>Yaa h fun _=>m _ _
 case store t a x=>exact Zbl hh fun h=>Zxi h fun _=>m _ _
 case alloc t=>exact Zel hh fun _=>m _ _
 case box t x=>exact Zel hh fun _=>m _ _
 case build t ps=>
  refine Zel hh fun _ h=>?_
  split at h
  ·exact Zbl h fun h=>Zel h fun _=>m _ _
  ·exact Zbl h fun h=>Zel h fun _=>m _ _
  ·exact h.elim
 case buildSlice t n ps=>
  unfold Zkl at *
  split at hh
  ·exact Zel hh fun _ h=>Zbl h fun h=>Zel h fun _=>m _ _
  ·exact hh.elim
 case call c=>
  unfold Ycn at *
  split at hh
  ·split at hh
   ·exact Zac.mono hh fun _ _ h=>Zwg h fun _=>m _ _
   ·unfold Ymo Ylu at *
    split at hh
    ·exact Zac.mono hh fun _ _ h=>Zwg h fun _=>m _ _
    ·exact hh.elim
  ·split at hh
   ·refine Zbl hh fun h=>?_
    split at h
    ·exact Zvt h fun _ _ h=>Zje h fun _=>m _ _
    ·exact h.elim
   ·exact hh.elim
  ·split at hh
   ·exact Yfa hh fun _=>m _ _
   ·exact hh.elim
  ·split at hh
   ·split at hh
    ·unfold Zyv at *
     split at hh
     ·split at hh
      ·refine ⟨fun h0=>m _ _ (hh.1 h0),fun h0=>Zel (hh.2 h0) fun _ h=>Zbl h fun h=>Zto h fun _=>m _ _⟩
      ·exact hh.elim
     ·exact hh.elim
    ·exact hh.elim
   ·exact hh.elim
  ·split at hh
   ·split at hh
    ·exact Zwb hh m
    ·exact hh.elim
   ·exact hh.elim
  ·exact Zmk hh fun _=>m _ _
 case makeSlice t l c=>exact Zrb hh m
 case makeMap t r=>exact Ztx hh m
 case lookup t x i ok=>
  split at hh
  ·exact Zuh hh fun _=>m _ _
  ·exact Zuz hh fun _=>m _ _
 case mapUpdate t mm k v=>
  split at hh
  ·exact Zpy hh m
  ·exact Zsd hh m
 case binOp op t x y yt=>
  split at hh
  ·exact Zli hh fun _ h=>Yet h m
  ·exact Zmk hh fun _=>m _ _
 case range t x=>exact Zxd hh m
 case next x st=>exact Yba hh m
 case entry x=>exact Zxw hh fun _=>m _ _
 case convert s d x=>
  split at hh
  ·exact Ycc hh fun _=>m _ _
  ·exact Zmk hh fun _=>m _ _
 all_goals exact Zmk hh fun _=>m _ _
end
end Go.Sim

set_option linter.unusedSimpArgs false
namespace Go.Sim
open Go Go.RowKit

def Det {α:Type} (F:(α→Prop)→Prop):Prop:=∀ k,F k→∃ v,k v∧∀ k',k' v→F k'
theorem Det.ret {α:Type} (a:α):Det (fun k=>k a):=fun _ h=>⟨a,h,fun _ h=>h⟩
theorem Det.no {α:Type}:Det (fun _:α→Prop=>False):=fun _ h=>h.elim
theorem Det.and {α:Type} {p:Prop} {F:(α→Prop)→Prop} (d:Det F):Det (fun k=>p∧F k):=fun k ⟨hp,h⟩=>let ⟨v,hv,r⟩:=d k h; ⟨v,hv,fun k' h'=>⟨hp,r k' h'⟩⟩
theorem Det.chk {α:Type} {p:Prop} [Decidable p] {F:(α→Prop)→Prop} (d:Det F):Det (fun k=>chk p (F k)):=fun k h=>by
 have ⟨hp,h⟩:=Zay h
 obtain ⟨v,hv,r⟩:=d k h
 exact ⟨v,hv,fun k' h'=>by unfold Sim.chk; rw [decide_eq_true hp]; exact r k' h'⟩
theorem Det.bind {α β:Type} {F:(α→Prop)→Prop} {G:α→(β→Prop)→Prop} (d:Det F) (e:∀ a,Det (G a)):Det (fun k=>F fun a=>G a k):=fun k h=>by
 obtain ⟨a,ha,r⟩:=d _ h
 obtain ⟨b,hb,q⟩:=e a k ha
 exact ⟨b,hb,fun k' h'=>r _ (q k' h')⟩
theorem Det.map {α β:Type} {F:(α→Prop)→Prop} (d:Det F) (f:α→β):Det (fun k=>F fun a=>k (f a)):=d.bind fun a=>Det.ret (f a)
theorem Det.bcase {α:Type} {b:Bool} {F G:(α→Prop)→Prop} (d:Det F) (e:Det G):Det (fun k=>bcase b (F k) (G k)):=by cases b <;> assumption

section
variable {P:Program}
theorem Yez (s:Sh) (o:Option Zad):Det (xv s o):=by
 intro k h
 cases s <;> simp only [xv,Zbh,Zck,Zep,xSl,Zwy,Zsq,Zbo] at * <;> split at h <;> first
  | exact h.elim
  | exact ⟨_,h,fun _ h=>h⟩
  | exact ⟨_,h.2,fun _ h'=>⟨h.1,h'⟩⟩
theorem Zyo (o:Option Zad):Det (Zsq o):=Yez .any o
theorem Zqh (o:Option (List Zad)):Det (Zdg o):=fun k h=>by
 unfold Zdg at *; split at h <;> first | exact ⟨_,h,fun _ h=>h⟩ | exact h.elim
theorem Yhz:∀ (ss:List Sh) (cs:List Zad),Det (xs ss cs)
 | [],cs=>fun k h=>by
  simp only [xs,Zcg] at *; split at h <;> first | exact ⟨_,h,fun _ h=>h⟩ | exact h.elim
 | s :: ss,cs=>fun k h=>by
  simp only [xs,Zai] at *
  split at h
  ·exact ((Yez s _).bind (G:=fun v k=>xs ss _ fun vs=>k (v :: vs)) fun v=>(Yhz ss _).map (v :: ·)) k h
  ·exact h.elim
theorem Yck (t:TypeId) (h:Zaa) (p:Zad):Det (Zpx P t h p):=by
 intro k hh
 unfold Zpx at *
 split at hh
 ·exact ((Zqh _).bind (G:=fun cs k=>xs _ cs fun vs=>k (.agg vs)) fun cs=>(Yhz _ cs).map Zad.agg) k hh
 ·exact Yez _ _ k hh
theorem Ycb (a b:Option (Nat × Nat)):Det (Zxx a b):=by
 intro k h
 unfold Zxx at *
 split at h
 ·exact ⟨_,h,fun _ h=>h⟩
 ·split at h
  ·exact ⟨_,h,fun _ h=>h⟩
  ·exact h.elim
theorem Zof (a:Option (Nat × Nat)) (f:Nat→Nat→Zad):Det (fun k:Zad→Prop=>Zax a fun b o=>k (f b o)):=by
 intro k h
 obtain ⟨b,o,rfl,h⟩:=Zbm h
 exact ⟨_,h,fun _ h=>h⟩
theorem Yee (t:TypeId) (x y:Zad):Det (eqA P t x y):=by
 intro k h
 unfold eqA at *
 split at h <;> (try exact h.elim) <;> split at h <;> (try exact h.elim)
 ·exact (Det.ret _).chk k h
 ·exact ⟨_,h,fun _ h=>h⟩
 ·exact (Det.ret _).chk k h
 ·exact (Ycb _ _).chk k h
 ·split at h
  ·exact ⟨_,h,fun _ h=>h⟩
  ·exact h.elim
 ·exact (Det.ret _).and.chk k h
theorem Yhl (op:BinOp) (t:TypeId) (x y:Zad):Det (Yfr P op t x y):=by
 intro k h
 unfold Yfr at *
 split at h
 ·exact (Yee t x y).map _ k h
 ·exact (Yee t x y).map _ k h
 ·split at h
  ·split at h
   ·split at h <;> first
     | exact h.elim
     | exact (Det.ret _).chk k h
     | exact (Det.ret _).and.chk k h
     | exact (Det.ret _).and k h
   ·exact h.elim
  ·split at h
   ·split at h <;> first
     | exact h.elim
     | exact (Det.ret _).and k h
     | exact ⟨_,h,fun _ h=>h⟩
   ·exact h.elim
  ·exact h.elim
theorem Zve (t:TypeId) (cs:List Zad) (off:Nat):Det (Zsu P t cs off):=by
 intro k h
 unfold Zsu at *
 split at h
 ·exact ⟨_,h,fun _ h=>h⟩
 ·exact (Zyo _).chk k h
theorem Zjm (o:Option Zad) (d:Int):Det (Zhs o d):=fun k h=>by
 unfold Zhs at *; split at h <;> first | exact ⟨_,h,fun _ h=>h⟩ | exact h.elim
theorem Zvu (o:Option Field):Det (Zmu o):=fun k h=>by
 unfold Zmu at *; split at h <;> first | exact ⟨_,h,fun _ h=>h⟩ | exact h.elim
theorem Zvl (s:List Nat) (lo hi:Option Zad):Det (Zol s lo hi):=by
 unfold Zol
 exact (Zjm hi s.length).bind fun h=>(Zjm lo 0).bind fun l=>(Det.ret _).and
theorem Zxs (a:Option (Nat × Nat)) (len cap:Nat) (ex:Bool) (sz:Nat) (lo hi mx:Option Zad):Det (Znk a len cap ex sz lo hi mx):=by
 unfold Znk
 refine (Zjm mx cap).bind fun m=>(Zjm hi len).bind fun h=>(Zjm lo 0).bind fun l=>Det.and ?_
 intro k hk
 split at hk
 ·exact (Det.ret _).and k hk
 ·rename_i b o
  by_cases hlm:l < m
  ·exact ⟨_,hk.1 hlm,fun k' h'=>⟨fun _=>h',fun h=>absurd hlm h⟩⟩
  ·exact ⟨_,hk.2 hlm,fun k' h'=>⟨fun h=>absurd h hlm,fun _=>h'⟩⟩
theorem Ydr (env:Env) (o:Oper):Det (Zmn P env o):=by
 intro k h
 obtain ⟨dst,op,type,pos,after,guard⟩:=o
 unfold Zmn at *
 cases op <;> simp only at h ⊢ <;> (try exact h.elim)
 case move x=>exact ⟨_,h,fun _ h=>h⟩
 case assign x=>exact ⟨_,h,fun _ h=>h⟩
 case pick c a b=>
  unfold Ydp at *
  split at h
  ·exact (Det.ret _).bcase (Det.ret _) k h
  ·exact h.elim
 case nilCheck x=>
  unfold Ymb at *
  split at h <;> first | exact h.elim | exact ⟨_,h,fun _ h=>h⟩ | exact Zof _ (fun b o=>.ptr (some (b,o))) k h
 case fieldAddr t x i=>
  unfold Zjs at *
  split at h
  ·rename_i a _
   exact (Det.bind (F:=Zmu (Zry P t i)) (G:=fun (f:Field) (k:Zad→Prop)=>chk ((P.underlying f.type).isSome=true) (chk (P.cellsOf f.type≠0) (Zax a fun b o=>k (Zad.ptr (some (b,o + f.offset)))))) (Zvu _) fun f=>Det.chk (Det.chk (Zof a fun b o=>Zad.ptr (some (b,o + f.offset))))) k h
  ·exact h.elim
 case field t x i=>
  unfold Zur at *
  split at h
  ·exact (Zvu _).bind (G:=fun f k=>Zsu P f.type _ f.offset k) (fun f=>Zve _ _ _) k h
  ·exact h.elim
 case indexAddr t x i=>
  unfold Zjq at *
  split at h
  ·split at h
   ·split at h <;> first | exact h.elim | exact (Zof _ (fun b o=>Zad.ptr (some (b,o + _)))).and.chk k h
   ·split at h <;> first | exact h.elim | exact (Zof _ (fun b o=>Zad.ptr (some (b,o + _)))).and.chk k h
   ·exact h.elim
  ·exact h.elim
 case index t x i=>
  unfold Zwa at *
  split at h
  ·split at h
   ·split at h
    ·exact (Det.ret _).and k h
    ·exact h.elim
   ·split at h
    ·exact (Zve _ _ _).and.chk k h
    ·exact h.elim
   ·exact h.elim
  ·exact h.elim
 case slice t x lo hi mx=>
  unfold Zti at *
  split at h
  ·split at h
   ·exact (Zvl _ _ _).chk k h
   ·exact h.elim
  ·split at h
   ·exact (Zxs _ _ _ _ _ _ _ _).chk.chk k h
   ·exact h.elim
  ·exact h.elim
 case binOp op t x y yt=>exact Yhl _ _ _ _ k h
 case unOp op t x=>
  unfold unA at *
  split at h
  ·split at h <;> first | exact h.elim | exact ⟨_,h,fun _ h=>h⟩
  ·split at h <;> first | exact h.elim | exact ⟨_,h,fun _ h=>h⟩
  ·exact h.elim
 case convert s d x=>
  unfold Zyf at *
  split at h
  ·split at h <;> first | exact h.elim | exact (Det.ret _).chk k h
  ·split at h <;> first | exact h.elim | exact (Det.ret _).chk k h | exact (Det.ret _).and.chk k h
  ·exact h.elim
 case extract x i=>
  unfold Znx at *
  split at h
  ·exact Zyo _ k h
  ·exact h.elim
 case makeFunc fn first caps=>
  cases fn <;> simp only at h ⊢ <;> first | exact h.elim | exact (Det.ret _).chk k h
 case call c=>
  split at h
  ·unfold Yiw at *
   split at h <;> first | exact h.elim | exact (Det.ret _).chk k h
  ·exact h.elim

def Zun (P:Program) (op:Op):Bool:=
 match op with
 | .binOp _ t _ y _=>(match Zoc P t with | false=>true | true=>Yif y && Zkv P t)
 | .move _ | .assign _ | .pick .. | .unOp .. | .nilCheck _ | .extract .. | .field .. | .fieldAddr .. | .indexAddr .. | .index .. | .slice .. | .makeFunc .. | .build ..=>true
 | .call c=>(match c.callee with | .builtin .len=>true | _=>false)
 | .convert s _ _=>!Ybm P s
 | _=>false
def Ygr (op:Op):Bool:=match op with | .load ..=>true | _=>false
def Zws (P:Program) (env:Env) (o:Oper) (k:Zad→Prop):Prop:=
 match o.op with
 | .build t ps=>Ycv P t (parts env ps) k
 | _=>Zmn P env o k
theorem Yfc (env:Env) (o:Oper):Det (Zws P env o):=by
 intro k h
 unfold Zws at *
 split at h
 ·refine (Zqh _).bind (G:=fun z k=>_) (fun z=>?_) k h
  intro k h
  split at h
  ·exact ((Zqh _).map _).chk k h
  ·exact ((Zqh _).map _).chk k h
  ·exact h.elim
 ·exact Ydr env o k h
theorem Zsb {env:Env} {h:Zaa} {o:Oper} (hr:Zun P o.op=true) {K:Zad→Zaa→Prop}:opA P env h o K ↔ Zws P env o fun v=>K v h:=by
 obtain ⟨dst,op,type,pos,after,guard⟩:=o
 cases op <;> simp only [Zun,Bool.false_eq_true] at hr <;> try (simp only [opA,Zws]; done)
 case call c=>
  simp only [opA,Zws,Ycn]
  split at hr
  ·rename_i hc; simp [hc]
  ·cases hr
 case convert s d x=>
  simp only [Bool.not_eq_true'] at hr
  simp only [opA,Zws,hr]
 case binOp op t x y yt=>
  simp only [opA,Zws,Zmn]
  cases hx:ev env x <;> try exact Iff.rfl
  cases hy:ev env y <;> try (cases op <;> exact Iff.rfl)
  rename_i a b
  simp only [Zep]
  have hRT:Zkv P t=true→Zoc P t=true:=fun h=>by
   obtain ⟨e,j,hu,_⟩:=Zln h
   unfold Zoc; rw [hu]
  have hno:∀ (p:Prop) [Decidable p] (q:Prop),¬ p→(Sim.chk p q ↔ False):=fun p _ q h=>⟨fun hc=>h (Zay hc).1,fun h=>h.elim⟩
  have hyes:∀ (p:Prop) [Decidable p] (q:Prop),p→(Sim.chk p q ↔ q):=fun p _ q h=>⟨fun hc=>(Zay hc).2,fun hq=>by unfold Sim.chk; rw [decide_eq_true h]; exact hq⟩
  cases hT:Zoc P t with
  | false=>
   have hR:¬ Zkv P t=true:=fun h=>by rw [hRT h] at hT; cases hT
   have hT':¬ Zoc P t=true:=by rw [hT]; simp
   cases op <;> simp only [Yhv,Yfr,eqA] <;> first | exact Iff.rfl | (rw [hno _ _ hR,hno _ _ hT'])
  | true=>
   rw [hT] at hr
   simp only [Bool.and_eq_true] at hr
   have hb:b=none:=by
    have:=hr.1
    unfold Yif at this
    split at this
    ·simp [ev,cst,Zla] at hy; exact hy.symm
    ·cases this
   subst hb
   cases op <;> simp only [Yhv,Yfr,eqA] <;> first | exact Iff.rfl | (rw [hyes _ _ hr.2,hyes _ _ hT]; exact Iff.rfl)

theorem Zrp {env env':Env} {ps:Array (Nat × Operand)} (hx:∀ x∈ps.map (·.2),ev env x=ev env' x):parts env ps=parts env' ps:=by
 unfold parts
 refine List.map_congr_left fun p hp=>?_
 rw [hx p.2 (Array.mem_map.2 ⟨p,by simpa using hp,rfl⟩)]
theorem Ztp {env env':Env} {xs:Array Operand} (hx:∀ x∈xs,ev env x=ev env' x):xs.toList.map (ev env)=xs.toList.map (ev env'):=
 List.map_congr_left fun x hp=>hx x (by simpa using hp)
theorem Zsh {env env':Env} {h:Zaa} {o:Oper} (hx:∀ x∈o.op.operands,ev env x=ev env' x) {K:Zad→Zaa→Prop}:opA P env h o K ↔ opA P env' h o K:=by
 obtain ⟨dst,op,type,pos,after,guard⟩:=o
 cases op <;> simp only [Op.operands] at hx <;> simp only [opA,Zmn]
 case build t ps=>rw [Zrp fun x h=>hx x (by simpa using h)]
 case buildSlice t n ps=>rw [Zrp fun x h=>hx x (by simpa using h)]
 case makeFunc fn first caps=>
  have hc:=Ztp (xs:=caps) fun x h=>hx x (by simp [h])
  cases fn <;> simp only [hc]
 case call c=>
  simp only [Call.operands] at hx
  have ha:c.args.toList.map (ev env)=c.args.toList.map (ev env'):=Ztp fun x h=>hx x (by simp [h])
  simp only [Ycn,Zmn,ha]
  cases hc:c.callee with
  | value f=>
   have hf:ev env f=ev env' f:=hx f (by simp [hc])
   cases f <;> simp only [hf]
  | invoke r m=>exact Iff.rfl
  | builtin b=>cases b <;> exact Iff.rfl
 case slice t x lo hi mx=>
  cases lo <;> cases hi <;> cases mx <;> simp_all
 case makeMap t r=>cases r <;> simp_all
 all_goals (first | rfl | (simp_all; done))
end
end Go.Sim

set_option linter.unusedSimpArgs false
namespace Go.Sim
open Go Go.RowKit

structure Zsx where
 i:Nat
 p:Zad
 n:Option Nat
def Zsx.ok (d:Zsx) (h h':Zaa):Prop:=match d.n with | none=>Zah h' d.p=Zah h d.p | some n=>Zcv h' d.p n=Zcv h d.p n
theorem Zsx.ok_refl (d:Zsx) (h:Zaa):d.ok h h:=by unfold Zsx.ok; split <;> rfl
def Zlu (ops:Array Oper) (j i:Nat):Bool:=match ops[j]? with | some o=>o.after.any (fun e=>Region.binds .any e && e.on == i) | none=>false
def Zvf (ops:Array Oper) (j:Nat):List Zsx→Zaa→Zaa→Prop→Prop
 | [],_,_,K=>K
 | d :: r,h,h',K=>(match Zlu ops j d.i with | true=>Zvf ops j r h h' K | false=>d.ok h h'∧Zvf ops j r h h' K)
theorem Zkg {ops:Array Oper} {j:Nat}:∀ {hs:List Zsx} {h h':Zaa} {K:Prop},Zvf ops j hs h h' K→(∀ d∈hs,Zlu ops j d.i=true ∨ d.ok h h')∧K
 | [],_,_,_,hk=>⟨by simp,hk⟩
 | d :: r,h,h',K,hk=>by
  unfold Zvf at hk
  split at hk
  ·rename_i hw
   obtain ⟨a,b⟩:=Zkg hk
   exact ⟨fun x hx=>by rcases List.mem_cons.1 hx with rfl | hx; exact .inl hw; exact a x hx,b⟩
  ·obtain ⟨ho,hk⟩:=hk
   obtain ⟨a,b⟩:=Zkg hk
   exact ⟨fun x hx=>by rcases List.mem_cons.1 hx with rfl | hx; exact .inr ho; exact a x hx,b⟩

def Zpw (P:Program) (N:Nat) (ops:Array Oper) (i:Nat) (env:Env) (h:Zaa) (K:Env→Zaa→Prop):Prop:=
 match ops[i]? with | some o=>Zir P N ops env h o K | none=>K env h
def Zks (P:Program) (ops:Array Oper) (i:Nat) (env:Env):Zsx:=
 match ops[i]? with
 | some o=>(match o.op with
  | .load t a=>(match isAgg P t with | true=>⟨i,ev env a,some (P.cellsOf t)⟩ | false=>⟨i,ev env a,none⟩)
  | _=>⟨i,.undef,none⟩)
 | none=>⟨i,.undef,none⟩
def Ykj (ops:Array Oper) (f:Op→Bool) (i:Nat):Bool:=match ops[i]? with | some o=>f o.op | none=>false
def Ymn (f:Nat→Prop):List Nat→Prop
 | []=>True
 | [i]=>f i
 | i :: r=>f i∧Ymn f r
theorem Zvs {f:Nat→Prop}:∀ {l:List Nat},Ymn f l→∀ i∈l,f i
 | [],_,i,hi=>by simp at hi
 | [j],h,i,hi=>by simp at hi; subst hi; exact h
 | j :: k :: r,h,i,hi=>by
  rcases List.mem_cons.1 hi with rfl | hi
  ·exact h.1
  ·exact Zvs h.2 i hi
def Zya (P:Program) (N:Nat) (ops:Array Oper) (ks:List Nat) (K:Env→Zaa→Prop):Nat→Array Bool→List Zsx→Env→Zaa→Prop
 | 0,listed,_,env,h=>(match Region.ready .any ops listed with | []=>K (env.keep ks) h | _=>False)
 | f + 1,listed,hs,env,h=>
  (match Region.ready .any ops listed with
  | []=>K (env.keep ks) h
  | rs=>(match rs.find? (fun i=>Ykj ops (Zun P) i && Region.free .any ops listed i) with
   | some i=>Zpw P N ops i env h fun env' h'=>Zya P N ops ks K f (listed.setIfInBounds i true) hs env' h'
   | none=>(match (match rs with | [_]=>none | _=>rs.find? (fun i=>Ykj ops Ygr i && Region.free .any ops listed i)) with
    | some i=>Zpw P N ops i env h fun env' h'=>Zya P N ops ks K f (listed.setIfInBounds i true) (Zks P ops i env :: hs) env' h'
    | none=>Ymn (fun i=>Zpw P N ops i env h fun env' h'=>Zvf ops i hs h h' (Zya P N ops ks K f (listed.setIfInBounds i true) hs env' h')) rs)))

def Ygh (P:Program) (N:Nat) (ops:Array Oper) (K:Env→Zaa→Prop) (hs:List Zsx):Nat→Array Bool→Env→Zaa→Prop
 | 0,listed,env,h=>Region.ready .any ops listed=[]∧K env h
 | f + 1,listed,env,h=>(Region.ready .any ops listed=[]→K env h) ∧
  ∀ i∈Region.ready .any ops listed,Zpw P N ops i env h fun env' h'=>(∀ d∈hs,Zlu ops i d.i=true ∨ d.ok h h')∧Ygh P N ops K hs f (listed.setIfInBounds i true) env' h'

def Zxu (env env':Env):Prop:=∀ t,env.get t=env'.get t
def Zor (o:Oper) (env:Env) (v:Zad) (env1:Env):Prop:=∀ t,env1.get t=if o.dst=some t then v else env.get t

section
variable {P:Program} {N:Nat} {ops:Array Oper}

theorem Zxc {env env':Env} {d:Option Tmp} {v:Zad} {K K':Env→Prop} (hk:Zmx N env d v K)
  (hK:∀ env1 env1',(∀ t,env1.get t=if d=some t then v else env.get t)→(∀ t,env1'.get t=if d=some t then v else env'.get t)→K env1→K' env1'):Zmx N env' d v K':=by
 unfold Zmx at *
 cases d with
 | none=>exact hK env env' (by simp) (by simp) hk
 | some d=>
  refine Zbl hk fun hk=>hK _ _ ?_ ?_ hk
  ·intro t; rw [Env.get_set]; by_cases e:t=d <;> simp [e,eq_comm]; exact fun q=>absurd q.symm e
  ·intro t; rw [Env.get_set]; by_cases e:t=d <;> simp [e,eq_comm]; exact fun q=>absurd q.symm e

theorem Zkk {env env':Env} {o:Oper} (hl:∀ t∈o.looksAt ops,env.get t=env'.get t):∀ x∈o.op.operands,ev env x=ev env' x:=fun x hx=>by
 cases x with
 | tmp t=>exact hl t (List.mem_append_left _ (List.mem_filterMap.2 ⟨.tmp t,by simpa using hx,rfl⟩))
 | _=>rfl
theorem Zeu {env:Env} {t:Nat} {v:Zad} (h:env.get t=v) (s:Nat):(env.set t v).get s=env.get s:=by
 rw [Env.get_set]; split
 ·rename_i e; subst e; exact h.symm
 ·rfl
theorem Yil {env env':Env} {h h2:Zaa} {o:Oper} {K K':Env→Zaa→Prop} (hs:Zir P N ops env h o K) (hl:∀ t∈o.looksAt ops,env.get t=env'.get t)
  (hop:∀ (e1 e2:Env),(∀ x∈o.op.operands,ev e1 x=ev e2 x)→(∀ t,e1.get t=env.get t)→∀ (A B:Zad→Zaa→Prop),opA P e1 h o A→(∀ v h',A v h'→B v h')→opA P e2 h2 o B)
  (hun:∀ e1 e2,Zxu e1 env→Zxu e2 env'→Zmx N e1 o.dst (.tup []) (fun x=>K x h)→Zmx N e2 o.dst (.tup []) (fun x=>K' x h2))
  (hK:∀ v h' env1 env1',Zor o env v env1→Zor o env' v env1'→K env1 h'→K' env1' h'):Zir P N ops env' h2 o K':=by
 unfold Zir at *
 cases hg:o.guard with
 | none=>
  simp only [hg] at hs ⊢
  exact hop env env' (Zkk hl) (fun _=>rfl) _ _ hs fun v h' hp=>Zxc hp fun e1 e2 a b k=>hK v h' e1 e2 a b k
 | some g=>
  obtain ⟨j,want⟩:=g
  simp only [hg] at hs ⊢
  cases ht:(ops[j]?).bind (·.dst) with
  | none=>simp only [ht] at hs
  | some t=>
   simp only [ht] at hs ⊢
   have htl:env.get t=env'.get t:=hl t (List.mem_append_right _ (by simp [hg,ht]))
   rw [← htl]
   split at hs
   ·rename_i b hb
    have key:∀ c,b=c→(opA P (env.set t (.bool c)) h o (fun v h'=>Zmx N (env.set t (.bool c)) o.dst v fun env'=>K env' h')→opA P (env'.set t (.bool c)) h2 o (fun v h'=>Zmx N (env'.set t (.bool c)) o.dst v fun env'=>K' env' h')) ∧
      (Zmx N (env.set t (.bool c)) o.dst (.tup []) (fun env'=>K env' h)→Zmx N (env'.set t (.bool c)) o.dst (.tup []) (fun env'=>K' env' h2)):=by
     intro c e
     subst e
     have k1:=Zeu hb
     have k2:=Zeu (htl ▸ hb:env'.get t=.bool b)
     constructor
     ·intro ho
      refine hop _ _ (Zkk fun s hs=>by rw [k1,k2]; exact hl s hs) k1 _ _ ho fun v h' hp=>Zxc hp fun e1 e2 a b k=>hK v h' e1 e2 ?_ ?_ k
      ·intro s; rw [a s,k1]
      ·intro s; rw [b s,k2]
     ·exact hun _ _ k1 k2
    cases b
    ·obtain ⟨k1,k2⟩:=key false rfl
     cases want
     ·exact k1 hs
     ·exact k2 hs
    ·obtain ⟨k1,k2⟩:=key true rfl
     cases want
     ·exact k2 hs
     ·exact k1 hs
   ·exact hun env env' (fun _=>rfl) (fun _=>rfl) hs
   ·exact hs.elim

theorem Zsm {env env':Env} {h:Zaa} {o:Oper} {K K':Env→Zaa→Prop} (hs:Zir P N ops env h o K) (hl:∀ t∈o.looksAt ops,env.get t=env'.get t)
  (hK:∀ v h' env1 env1',Zor o env v env1→Zor o env' v env1'→K env1 h'→K' env1' h'):Zir P N ops env' h o K':=
 Yil hs hl (fun e1 e2 hx _ A B ha hm=>Ygv ((Zsh hx).1 ha) hm)
  (fun e1 e2 q1 q2 hp=>Zxc hp fun f1 f2 a b k=>hK _ _ f1 f2 (fun t=>by rw [a t,q1 t]) (fun t=>by rw [b t,q2 t]) k) hK

def Yd (P:Program) (N:Nat) (ops:Array Oper) (o:Oper) (v:Zad) (env:Env) (h:Zaa):Prop:=
 ∀ K:Env→Zaa→Prop,(∀ env1,Zor o env v env1→K env1 h)→Zir P N ops env h o K

theorem Zoh {K:Env→Zaa→Prop} {hs hs':List Zsx} (hsub:∀ d∈hs,d∈hs'):∀ (f:Nat) {listed:Array Bool} {env env':Env} {h:Zaa},(∀ e e' h,Zxu e e'→K e h→K e' h)→Zxu env env' →
  Ygh P N ops K hs' f listed env h→Ygh P N ops K hs f listed env' h
 | 0,_,_,_,_,hK,he,hh=>⟨hh.1,hK _ _ _ he hh.2⟩
 | f + 1,listed,env,env',h,hK,he,hh=>by
  refine ⟨fun hr=>hK _ _ _ he (hh.1 hr),fun i hi=>?_⟩
  have:=hh.2 i hi
  unfold Zpw at *
  cases ho:ops[i]? with
  | none=>
   rw [ho] at this
   exact ⟨fun d hd=>this.1 d (hsub d hd),Zoh hsub f hK he this.2⟩
  | some o=>
   rw [ho] at this
   refine Zsm this (fun t _=>he t) fun v h' e1 e2 a b k=>⟨fun d hd=>k.1 d (hsub d hd),Zoh hsub f hK (fun t=>?_) k.2⟩
   rw [a t,b t,he t]

theorem Zsw {K:Env→Zaa→Prop} {hs hs':List Zsx} (hK:∀ e e' h,Zxu e e'→K e h→K e' h) (hsub:∀ d∈hs,d∈hs') {i:Nat} {oi:Oper} {v:Zad} (hi:ops[i]?=some oi) {T:Zaa→Zaa→Prop}
  (hT:∀ j h h1,Zlu ops j i=false→(∀ d∈hs',Zlu ops j d.i=true ∨ d.ok h h1)→T h h1)
  {Y:Env→Zaa→Prop} (hY:∀ env h,Y env h→Yd P N ops oi v env h)
  (hst:∀ env h env1 h1,Y env h→(∀ t∈oi.looksAt ops,env.get t=env1.get t)→T h h1→Y env1 h1) :
  ∀ (fuel:Nat) (listed:Array Bool) (env env1:Env) (h:Zaa),
   (∀ j oj,ops[j]?=some oj→j≠i→listed.getD j true=false→(∀ e∈oj.after,Region.binds .any e=true→e.on≠i)→oi.apart ops oj=true) →
   i∈Region.ready .any ops listed→Y env h→Zor oi env v env1 →
   Ygh P N ops K hs' fuel (listed.setIfInBounds i true) env1 h→Ygh P N ops K hs (fuel + 1) listed env h:=by
 intro fuel
 have now:∀ (fuel:Nat) (listed:Array Bool) (env env1:Env) (h:Zaa),Y env h→Zor oi env v env1→Ygh P N ops K hs' fuel (listed.setIfInBounds i true) env1 h →
   Zpw P N ops i env h fun env' h'=>(∀ d∈hs,Zlu ops i d.i=true ∨ d.ok h h')∧Ygh P N ops K hs fuel (listed.setIfInBounds i true) env' h':=by
  intro fuel listed env env1 h hy ha H
  unfold Zpw
  rw [hi]
  exact hY _ _ hy _ fun env2 h2=>⟨fun d _=>.inr (d.ok_refl h),Zoh hsub fuel hK (fun t=>by rw [ha t,h2 t]) H⟩
 induction fuel with
 | zero=>
  intro listed env env1 h _ hr hy ha H
  refine ⟨fun e=>(by rw [e] at hr; cases hr),fun j hj=>?_⟩
  by_cases hji:j=i
  ·subst hji; exact now 0 listed env env1 h hy ha H
  ·have:=ready_mono hj hji
   rw [H.1] at this
   cases this
 | succ fuel ih=>
  intro listed env env1 h hfree hr hy ha H
  refine ⟨fun e=>(by rw [e] at hr; cases hr),fun j hj=>?_⟩
  by_cases hji:j=i
  ·subst hji; exact now (fuel + 1) listed env env1 h hy ha H
  ·have h1:=H.2 j (ready_mono hj hji)
   obtain ⟨hjun,oj,hoj,hall⟩:=mem_ready.1 hj
   have hnot:∀ e∈oj.after,Region.binds .any e=true→e.on≠i:=fun e he hb heq=>by
    have h1:=hall e he hb
    have h0:=(mem_ready.1 hr).1
    rw [heq] at h1
    rcases Nat.lt_or_ge i listed.size with h' | h'
    ·simp [h'] at h0 h1; rw [h0] at h1; cases h1
    ·simp [Array.getElem?_eq_none h'] at h1
   have hw:Zlu ops j i=false:=by
    unfold Zlu
    rw [hoj]
    simp only [Array.any_eq_false]
    intro q hq
    simp only [Bool.and_eq_true,beq_iff_eq,not_and]
    intro hb
    exact hnot _ (Array.getElem_mem hq) hb
   obtain ⟨a1,a2,a3⟩:=Oper.apart_spec (hfree j oj hoj hji hjun hnot)
   unfold Zpw at h1 ⊢
   rw [hoj] at h1 ⊢
   refine Zsm h1 (fun t ht=>?_) fun u h' e1 e2 q1 q2 k=>?_
   ·rw [ha t,if_neg (fun e=>a1 t e ht)]
   ·refine ⟨fun d hd=>k.1 d (hsub d hd),ih (listed.setIfInBounds j true) e2 e1 h' ?_ (ready_mono hr (Ne.symm hji)) ?_ ?_ ?_⟩
    ·intro k ok hk hki hun hno
     refine hfree k ok hk hki ?_ hno
     by_cases hjk:j=k
     ·subst hjk; exact hjun
     ·rw [getD_set_ne true hjk] at hun; exact hun
    ·refine hst env h e2 h' hy (fun t ht=>?_) (hT j h h' hw k.1)
     rw [q2 t,if_neg (fun e=>a3 t e ht)]
    ·intro t
     rw [q1 t,q2 t,ha t]
     by_cases x:oj.dst=some t <;> by_cases y:oi.dst=some t <;> simp [x,y]
     exact absurd x (a2 t y)
    ·rw [Array.setIfInBounds_comm _ _ hji]
     exact k.2
end
end Go.Sim
