/- A part of the proof of a statement of this seat: see the text that holds the theorem. No condition. -/
import Derived.Test.YtdglddliggejdaaSimIc
import Derived.LaidEqlPtr
import Derived.Orders
set_option linter.unusedVariables false
set_option linter.unusedSimpArgs false
set_option linter.all false
set_option linter.unusedSimpArgs false
namespace Go.Sim
open Go Go.RowKit

def Zck (h:Zaa) (i:Nat):Bool:=match h[i]? with | some (.cells _ _ false)=>true | _=>false
def Zkh (P:Program) (t:TypeId):Bool:=match P.underlying t with | some (.pointer e)=>(match P.info? e with | some j=>!(Nat.beq j.size 0) | none=>false) | _=>false
def Ylk (h:Zaa) (p q:Nat × Nat) (K:Bool→Prop):Prop:=(p=q∧K true) ∨ (p.1≠q.1∧Zck h p.1=true∧Zck h q.1=true∧K false)
def Zmy (h:Zaa) (a b:Option (Nat × Nat)) (K:Bool→Prop):Prop:=
 match b with | none=>K a.isNone | some q=>(match a with | none=>K false | some p=>Ylk h p q K)
def Ygy (P:Program) (op:BinOp) (t:TypeId) (h:Zaa) (a b:Option (Nat × Nat)) (K:Zad→Zaa→Prop):Prop:=
 match op with
 | .eql=>chk (Zkh P t=true) (Zmy h a b fun e=>K (.bool e) h)
 | .neq=>chk (Zkh P t=true) (Zmy h a b fun e=>K (.bool (!e)) h)
 | _=>False
def Zib (h:Zaa):List ME→(Nat × Nat)→Nat→Option (Option (Nat × Zad))
 | [],_,_=>some none
 | (.ptr (some q),v,_) :: r,p,i=>if p=q then some (some (i,v)) else if p.1≠q.1∧Zck h p.1=true∧Zck h q.1=true then Zib h r p (i + 1) else none
 | _ :: _,_,_=>none
def Zqt (r:Option (Option (Nat × Zad))) (K:Option Zad→Prop):Prop:=match r with | some (some (_,v))=>K (some v) | some none=>K none | none=>False
def Yfr (r:Option (Option (Nat × Zad))) (es:List ME) (clk:Nat) (p:Nat × Nat) (v:Zad) (K:List ME→Nat→Prop):Prop:=
 match r with
 | some (some (i,_))=>K (es.modify i fun e=>(.ptr (some p),v,e.2.2)) clk
 | some none=>K (es ++ [(.ptr (some p),v,clk)]) (clk + 1)
 | none=>False
def Yhi (r:Option (Option (Nat × Zad))) (es:List ME) (K:List ME→Prop):Prop:=match r with | some (some (i,_))=>K (es.eraseIdx i) | some none=>K es | none=>False
def okV (ok:Bool) (r:Option Zad) (v:Zad):Zad:=match ok with | true=>.tup [v,.bool r.isSome] | false=>v
def Zlp (P:Program) (t:TypeId) (h:Zaa) (m k:Zad) (ok:Bool) (K:Zad→Prop):Prop:=
 match P.underlying t with
 | some (.map kt et)=>chk (Zkh P kt=true∧isAgg P et=false) (match m with
  | .map a=>Zei (some k) fun q=>Zaw q fun i o=>Zsa (Ygi P et) fun z=>Zbt h a fun es _=>Zqt (Zib h es (i,o) 0) fun r=>xv (Zhj P et) (some (r.getD z)) fun v=>K (okV ok r v)
  | _=>False)
 | _=>False
def Zgu (P:Program) (t:TypeId) (h:Zaa) (m k v:Zad) (K:Zad→Zaa→Prop):Prop:=
 match P.underlying t with
 | some (.map kt _)=>chk (Zkh P kt=true) (match m with
  | .map a=>xMp a fun mi=>Zei (some k) fun q=>Zaw q fun i o=>Zbt h (some mi) fun es clk=>Yfr (Zib h es (i,o) 0) es clk (i,o) v fun es' clk'=>K .undef (h.set mi (.map es' clk'))
  | _=>False)
 | _=>False
def Zok (P:Program) (t:TypeId) (h:Zaa) (m k:Zad) (K:Zad→Zaa→Prop):Prop:=
 match P.underlying t with
 | some (.map kt _)=>chk (Zkh P kt=true) (match m with
  | .map a=>xMp a fun mi=>Zei (some k) fun q=>Zaw q fun i o=>Zbt h (some mi) fun es clk=>Yhi (Zib h es (i,o) 0) es fun es'=>K (.tup []) (h.set mi (.map es' clk))
  | _=>False)
 | _=>False
def Yhd (P:Program) (t:TypeId):Bool:=match P.underlying t with | some (.map kt _)=>Znb P kt | _=>false
def Yhg (x:Operand):Bool:=match x with | .const (.pointer none)=>true | _=>false

section
variable {P:Program} {base:Nat} {w0:World} {μ:List Pl} {h:Zaa} {w:World}
theorem Zle {t:TypeId} (h:Zkh P t=true):∃ e j,P.underlying t=some (.pointer e)∧P.info? e=some j∧j.size≠0:=by
 unfold Zkh at h
 split at h
 ·rename_i e he
  split at h
  ·rename_i j hj
   refine ⟨e,j,he,hj,fun h0=>?_⟩
   rw [h0] at h; simp at h
  ·cases h
 ·cases h
theorem Zmt {i:Nat} (hh:Zck h i=true):∃ t cs,h[i]?=some (.cells t cs false):=by
 unfold Zck at hh
 split at hh
 ·rename_i t cs he; exact ⟨t,cs,he⟩
 ·cases hh
theorem Zvy (r:Rel P base w0 μ h w) {i:Nat} {e:Pl} (he:μ[i]?=some e) (hh:Zck h i=true):∃ C t,w.heap[e.b]?=some (.cells C t (0,0)):=by
 obtain ⟨t,cs,hi⟩:=Zmt hh
 obtain ⟨C,el,fr,h1,_,h3⟩:=r.obj i _ hi e he
 simp only [Bool.false_eq_true,if_false] at h3
 obtain ⟨_,_,_,rfl,_⟩:=h3
 exact ⟨C,el,h1⟩
theorem Yjz (r:Rel P base w0 μ h w) {i j:Nat} {e f:Pl} (he:μ[i]?=some e) (hf:μ[j]?=some f) (hi:Zck h i=true) (hj:Zck h j=true) (hne:i≠j):e.b≠f.b:=by
 obtain ⟨t,cs,h1⟩:=Zmt hi
 obtain ⟨t',cs',h2⟩:=Zmt hj
 exact r.sep i j _ _ e f hne h1 h2 rfl rfl he hf
theorem Znl (r:Rel P base w0 μ h w) {t:TypeId} (ht:Zkh P t=true) {a b:Option (Nat × Nat)} {x y:Value} (ha:VR μ (.ptr a) x) (hb:VR μ (.ptr b) y) {K:Bool→Prop} (hk:Zmy h a b K) :
  ∃ e:Bool,(∀ d,(Op.equalIn (d + 1) t x y).run P w=.ok e w)∧K e:=by
 obtain ⟨te,j,hu,hj,hsz⟩:=Zle ht
 unfold Zmy at hk
 cases hb with
 | ptr0=>
  cases ha with
  | ptr0=>exact ⟨true,fun d=>by simp [Op.equalIn,run_underlying hu],hk⟩
  | ptr hi=>exact ⟨false,fun d=>by simp [Op.equalIn,run_underlying hu],hk⟩
 | ptr hf=>
  cases ha with
  | ptr0=>exact ⟨false,fun d=>by simp [Op.equalIn,run_underlying hu],hk⟩
  | ptr he=>
   rename_i j1 o1 f i1 o2 e
   rcases hk with ⟨hpq,hk⟩ | ⟨hne,o1',o2',hk⟩
   ·cases hpq
    rw [he] at hf; cases hf
    exact ⟨true,fun d=>by simp [Op.equalIn,run_underlying hu,sizeOf,typeInfo,hj,run_sameAddr_same],hk⟩
   ·obtain ⟨C,t1,h1⟩:=Zvy r he o1'
    obtain ⟨C',t2,h2⟩:=Zvy r hf o2'
    have hnb:=Yjz r he hf o1' o2' hne
    exact ⟨false,fun d=>by
     simp [Op.equalIn,run_underlying hu,sizeOf,typeInfo,hj,hsz,run_sameAddr_other w (a:=⟨e.b,e.o + o2,none⟩) (b:=⟨f.b,f.o + o1,none⟩) (fun q=>hnb (congrArg Addr.block q)) h1 h2],hk⟩
theorem Yke (r:Rel P base w0 μ h w) {op:BinOp} {t:TypeId} {xo yo:Operand} {a b:Option (Nat × Nat)} {x y:Value} (ha:VR μ (.ptr a) x) (hb:VR μ (.ptr b) y) {K:Zad→Zaa→Prop} (hk:Ygy P op t h a b K) :
  ∃ e:Bool,(do eqGuard op t xo yo x y; binOp op t x y:Sem Value).run P w=.ok (.bool e) w∧K (.bool e) h:=by
 have hg:∀ op',op'=BinOp.eql ∨ op'=BinOp.neq→(eqGuard op' t xo yo x y).run P w=.ok () w:=by
  intro op' ho
  rcases ho with rfl | rfl <;> cases ha <;> simp [eqGuard]
 unfold Ygy at hk
 split at hk
 ·replace hk:=Zav hk; obtain ⟨ht,hk⟩:=hk
  obtain ⟨e,he,hk⟩:=Znl r ht ha hb hk
  refine ⟨e,?_,hk⟩
  simp only [Sem.run_bind,hg _ (.inl rfl),Result.andThen_ok]
  cases ha <;> cases hb <;> (simp only [binOp]; simp [Op.equal,Op.maxDepth,he 9999])
 ·replace hk:=Zav hk; obtain ⟨ht,hk⟩:=hk
  obtain ⟨e,he,hk⟩:=Znl r ht ha hb hk
  refine ⟨!e,?_,hk⟩
  simp only [Sem.run_bind,hg _ (.inr rfl),Result.andThen_ok]
  cases ha <;> cases hb <;> (simp only [binOp]; simp [Op.equal,Op.maxDepth,he 9999])
 ·exact hk.elim
theorem Zgt (r:Rel P base w0 μ h w) {kt:TypeId} (ht:Zkh P kt=true) {i o:Nat} {e:Pl} (hi:μ[i]?=some e):∀ {es:List ME} {ents:List MapEntry} {n:Nat} {q:Option (Nat × Zad)},
  VRs μ (es.map (·.1)) (ents.map (·.key))→VRs μ (es.map (·.2.1)) (ents.map (·.val))→Zib h es (i,o) n=some q →
  (q=none∧(Instr.findAsking kt (.pointer (some ⟨e.b,e.o + o,none⟩)) ents n).run P w=.ok none w) ∨
   ∃ j v x k0,q=some (j,v)∧n≤j∧VR μ v x∧(Instr.findAsking kt (.pointer (some ⟨e.b,e.o + o,none⟩)) ents n).run P w=.ok (some (j,x)) w∧ents[j - n]?=some k0∧k0.key=.pointer (some ⟨e.b,e.o + o,none⟩)
 | [],[],n,q,_,_,hf=>by simp [Zib] at hf; subst hf; exact .inl ⟨rfl,by simp [Instr.findAsking]⟩
 | [],_ :: _,n,q,hk,_,_=>by cases hk
 | _ :: _,[],n,q,hk,_,_=>by cases hk
 | (k,v,b) :: es,en :: ents,n,q,hk,hv,hf=>by
  simp only [List.map_cons] at hk hv
  cases hk with
  | cons hk1 hk2=>
  cases hv with
  | cons hv1 hv2=>
  cases k with
  | ptr a=>
   cases a with
   | none=>simp [Zib] at hf
   | some p=>
    simp only [Zib] at hf
    generalize hek:en.key=ek at hk1
    have hx:VR μ (.ptr (some (i,o))) (.pointer (some ⟨e.b,e.o + o,none⟩)):=.ptr hi
    by_cases hpq:(i,o)=p
    ·rw [if_pos hpq] at hf
     cases hf
     obtain ⟨c,hc,hke⟩:=Znl (K:=fun c=>c=true) r ht hx hk1 (by subst hpq; exact .inl ⟨rfl,rfl⟩)
     subst hke
     have hkey:en.key=.pointer (some ⟨e.b,e.o + o,none⟩):=by
      subst hpq
      cases hk1 with
      | ptr hf2=>rw [hi] at hf2; cases hf2; exact hek
     refine .inr ⟨n,v,en.val,en,rfl,Nat.le_refl _,hv1,?_,by simp,hkey⟩
     unfold Instr.findAsking
     simp [Op.equal,Op.maxDepth,hek,hc 9999]
    ·rw [if_neg hpq] at hf
     by_cases hne:(i,o).1≠p.1∧Zck h (i,o).1=true∧Zck h p.1=true
     ·rw [if_pos hne] at hf
      obtain ⟨c,hc,hke⟩:=Znl (K:=fun c=>c=false) r ht hx hk1 (.inr ⟨hne.1,hne.2.1,hne.2.2,rfl⟩)
      subst hke
      have step:(Instr.findAsking kt (.pointer (some ⟨e.b,e.o + o,none⟩)) (en :: ents) n).run P w=(Instr.findAsking kt (.pointer (some ⟨e.b,e.o + o,none⟩)) ents (n + 1)).run P w:=by
       conv=>lhs; unfold Instr.findAsking
       simp [Op.equal,Op.maxDepth,hek,hc 9999]
      rcases Zgt r ht hi hk2 hv2 hf with ⟨h1,h2⟩ | ⟨j,v',x,k0,h1,h2,h3,h4,h5,h6⟩
      ·exact .inl ⟨h1,by rw [step,h2]⟩
      ·refine .inr ⟨j,v',x,k0,h1,by omega,h3,by rw [step,h4],?_,h6⟩
       rw [show j - n=(j - (n + 1)) + 1 by omega]; simpa using h5
     ·rw [if_neg hne] at hf; cases hf
  | _=>simp [Zib] at hf
theorem Zes {kt te:TypeId} (hu:P.underlying kt=some (.pointer te)) (x:Value) (es:List MapEntry):(Instr.findKey kt x es).run P w=(Instr.findAsking kt x es).run P w:=by
 cases es with
 | nil=>simp [Instr.findKey,run_underlying hu,Instr.findNow,Instr.findAsking]
 | cons e es=>simp [Instr.findKey,run_underlying hu,Instr.findNow,Instr.sameNow]
theorem Zky {kt te:TypeId} (hu:P.underlying kt=some (.pointer te)) (x:Option Addr) (b:Bool):(Instr.checkKey b 10000 kt (.pointer x)).run P w=.ok () w:=by
 unfold Instr.checkKey
 simp [run_underlying hu]
theorem Zli {o:Option Zad} {K:Option (Nat × Nat)→Prop} (h:Zei o K):∃ s,o=some (.ptr s)∧K s:=by
 unfold Zei at h; split at h
 ·exact ⟨_,rfl,h⟩
 ·exact h.elim
theorem Zml {a:Option (Nat × Nat)} {K:Nat→Nat→Prop} (h:Zaw a K):∃ i o,a=some (i,o)∧K i o:=by
 unfold Zaw at h; split at h
 ·exact ⟨_,_,rfl,h⟩
 ·exact h.elim
theorem Ybg (r:Rel P base w0 μ h w) {t:TypeId} {a k:Zad} {x y:Value} {ok:Bool} (ha:VR μ a x) (hkk:VR μ k y) {K:Zad→Prop} (hk:Zlp P t h a k ok K) :
  ∃ z v,(Instr.lookup t x y ok).run P w=.ok z w∧VR μ v z∧K v:=by
 unfold Zlp at hk
 split at hk
 ·rename_i kt et hu
  replace hk:=Zav hk
  obtain ⟨⟨hs,hag⟩,hk⟩:=hk
  obtain ⟨te,tj,hkt,_⟩:=Zle hs
  split at hk
  ·rename_i m
   obtain ⟨q,hq,hk⟩:=Zli hk
   cases hq
   obtain ⟨i,o,rfl,hk⟩:=Zml hk
   obtain ⟨z0,hz,hk⟩:=Zku hk
   obtain ⟨zv,hzv1,hzr⟩:=Zzm (μ:=μ) hz
   cases hkk with
   | ptr hi=>
   rename_i e
   have hchk:∀ b,(Instr.checkKey b 10000 kt (.pointer (some ⟨e.b,e.o + o,none⟩))).run P w=.ok () w:=fun b=>Zky hkt _ b
   rcases Zil hk with ⟨rfl,hk1⟩ | ⟨i',es,clk,rfl,hi',hk1⟩
   ·cases ha
    simp only [Zqt,Zib] at hk1
    obtain ⟨v,hv,hk2⟩:=Zgc hk1
    cases hv
    have hfk:(Instr.findKey kt (.pointer (some ⟨e.b,e.o + o,none⟩)) []).run P w=.ok none w:=by rw [Zes hkt]; simp [Instr.findAsking]
    cases ok
    ·exact ⟨zv,_,by simp [Instr.lookup,run_underlying hu,hchk,hfk,hzr w],hzv1,hk2⟩
    ·exact ⟨.tuple #[zv,.bool false],_,by simp [Instr.lookup,run_underlying hu,hchk,hfk,hzr w],.tup (.cons hzv1 (.cons (.bool _) .nil)),hk2⟩
   ·cases ha with
    | map hmu=>
    obtain ⟨hb0,ents,hg,hk1',hk2',hk3'⟩:=r.obj i' _ hi' _ hmu
    unfold Zqt at hk1
    split at hk1
    ·rename_i j v hf
     obtain ⟨v1,hv,hl⟩:=Zgc hk1
     cases hv
     rcases Zgt r hs hi hk1' hk2' hf with ⟨h1,_⟩ | ⟨j',v',x',k0,h1,_,h3,h4,_⟩
     ·cases h1
     ·cases h1
      cases ok
      ·exact ⟨x',_,by simp [Instr.lookup,run_underlying hu,MapKept.run_getObj_map hg,hchk,Zes hkt,h4],h3,hl⟩
      ·exact ⟨.tuple #[x',.bool true],_,by simp [Instr.lookup,run_underlying hu,MapKept.run_getObj_map hg,hchk,Zes hkt,h4],.tup (.cons h3 (.cons (.bool _) .nil)),hl⟩
    ·rename_i hf
     obtain ⟨v1,hv,hl⟩:=Zgc hk1
     cases hv
     rcases Zgt r hs hi hk1' hk2' hf with ⟨_,h4⟩ | ⟨j',v',x',k0,h1,_⟩
     ·cases ok
      ·exact ⟨zv,_,by simp [Instr.lookup,run_underlying hu,MapKept.run_getObj_map hg,hchk,Zes hkt,h4,hzr w],hzv1,hl⟩
      ·exact ⟨.tuple #[zv,.bool false],_,by simp [Instr.lookup,run_underlying hu,MapKept.run_getObj_map hg,hchk,Zes hkt,h4,hzr w],.tup (.cons hzv1 (.cons (.bool _) .nil)),hl⟩
     ·cases h1
    ·exact hk1.elim
  ·exact hk.elim
 ·exact hk.elim
theorem Zte (r:Rel P base w0 μ h w) {t:TypeId} {a k v:Zad} {x y z:Value} (ha:VR μ a x) (hkk:VR μ k y) (hv:VR μ v z) {K:Zad→Zaa→Prop} (hk:Zgu P t h a k v K) :
  ∃ w' h',(Instr.mapUpdate t x y z).run P w=.ok () w'∧Rel P base w0 μ h' w'∧K .undef h':=by
 unfold Zgu at hk
 split at hk
 ·rename_i kt et hu
  replace hk:=Zav hk
  obtain ⟨hs,hk⟩:=hk
  obtain ⟨te,tj,hkt,_⟩:=Zle hs
  split at hk
  ·rename_i m
   unfold xMp at hk
   split at hk
   ·rename_i mi
    obtain ⟨q,hq,hk⟩:=Zli hk
    cases hq
    obtain ⟨i,o,rfl,hk⟩:=Zml hk
    cases hkk with
    | ptr hi=>
    rename_i e0
    obtain ⟨es,clk,hi',hk1⟩:=Zgn hk
    cases ha with
    | map hmu=>
    rename_i e
    obtain ⟨hb0,ents,hg,hk1',hk2',hk3'⟩:=r.obj mi _ hi' _ hmu
    have hchk:(Instr.checkKey false 10000 kt (.pointer (some ⟨e0.b,e0.o + o,none⟩))).run P w=.ok () w:=Zky hkt _ false
    have hlt:=(Array.getElem?_eq_some_iff.1 hg).1
    have hkv:VR μ (.ptr (some (i,o))) (.pointer (some ⟨e0.b,e0.o + o,none⟩)):=.ptr hi
    unfold Yfr at hk1
    split at hk1
    ·rename_i j v0 hf
     rcases Zgt r hs hi hk1' hk2' hf with ⟨h1,_⟩ | ⟨j',v',x',k0,h1,_,h3,h4,h5,h6⟩
     ·cases h1
     ·cases h1
      have hj':ents[j]?=some k0:=by simpa using h5
      have hst:∀ w:World,(Instr.keyThatStays k0.key (.pointer (some ⟨e0.b,e0.o + o,none⟩))).run P w=.ok (.pointer (some ⟨e0.b,e0.o + o,none⟩)) w:=fun w=>by
       rw [h6]; simp [Instr.keyThatStays,Instr.sameBits]
      refine ⟨_,_,?_,r.over (x:=.map (ents.modify j fun e=>{ e with key:=.pointer (some ⟨e0.b,e0.o + o,none⟩),val:=z }) clk) hi' rfl hmu hb0 rfl ?_,hk1⟩
      ·simp [Instr.mapUpdate,run_underlying hu,MapKept.run_getObj_map hg,hchk,Zes hkt,h4,hj',hst,MapKept.run_setObj_map _ hg]
      ·refine ⟨hb0,ents.modify j fun e=>{ e with key:=.pointer (some ⟨e0.b,e0.o + o,none⟩),val:=z },by simp [hlt],?_,?_,?_⟩
       ·rw [Array.toList_modify]; exact VRs.modify (p:=fun (x:ME)=>x.1) (q:=fun (x:MapEntry)=>x.key) (v:=.ptr (some (i,o))) (k:=.pointer (some ⟨e0.b,e0.o + o,none⟩)) hkv (fun _=>rfl) (fun _=>rfl) j hk1'
       ·rw [Array.toList_modify]; exact VRs.modify (p:=fun (x:ME)=>x.2.1) (q:=fun (x:MapEntry)=>x.val) (v:=v) (k:=z) hv (fun _=>rfl) (fun _=>rfl) j hk2'
       ·rw [Array.toList_modify,Zfe (p:=fun (x:ME)=>x.2.2) (f:=fun e=>(.ptr (some (i,o)),v,e.2.2)) (fun _=>rfl) es j,Zfe (p:=fun (x:MapEntry)=>x.born) (f:=fun e=>{ e with key:=.pointer (some ⟨e0.b,e0.o + o,none⟩),val:=z }) (fun _=>rfl) ents.toList j]; exact hk3'
    ·rename_i hf
     rcases Zgt r hs hi hk1' hk2' hf with ⟨_,h4⟩ | ⟨j',v',x',k0,h1,_⟩
     ·refine ⟨_,_,?_,r.over (x:=.map (ents.push { key:=.pointer (some ⟨e0.b,e0.o + o,none⟩),val:=z,born:=clk }) (clk + 1)) hi' rfl hmu hb0 rfl ?_,hk1⟩
      ·simp [Instr.mapUpdate,run_underlying hu,MapKept.run_getObj_map hg,hchk,Zes hkt,h4,MapKept.run_setObj_map _ hg]
      ·refine ⟨hb0,ents.push { key:=.pointer (some ⟨e0.b,e0.o + o,none⟩),val:=z,born:=clk },by simp [hlt],?_,?_,?_⟩
       ·simpa using hk1'.append (.cons hkv .nil)
       ·simpa using hk2'.append (.cons hv .nil)
       ·simp [hk3']
     ·cases h1
    ·exact hk1.elim
   ·exact hk.elim
  ·exact hk.elim
 ·exact hk.elim
theorem VRs.erase {vs:List Zad} {xs:List Value} (hh:VRs μ vs xs):∀ (j:Nat),VRs μ (vs.eraseIdx j) (xs.eraseIdx j):=by
 induction vs generalizing xs with
 | nil=>intro j; cases hh; exact .nil
 | cons v vs ih=>
  intro j
  cases hh with
  | cons h1 h2=>
  cases j with
  | zero=>exact h2
  | succ j=>exact .cons h1 (ih h2 j)
theorem Zdn {α β:Type} (f:α→β):∀ (l:List α) (j:Nat),(l.map f).eraseIdx j=(l.eraseIdx j).map f
 | [],j=>by simp
 | a :: l,0=>by simp
 | a :: l,j + 1=>by simp [Zdn f l j]
theorem Ydb (r:Rel P base w0 μ h w) {t ty:TypeId} {ats:Array TypeId} (hat:ats[0]?=some t) {a k:Zad} {x y:Value} (ha:VR μ a x) (hkk:VR μ k y) {K:Zad→Zaa→Prop} (hk:Zok P t h a k K) :
  Res P base w0 μ ((Builtin.delete_ ats ty #[x,y]).run P w) K:=by
 unfold Zok at hk
 split at hk
 ·rename_i kt et hu
  replace hk:=Zav hk
  obtain ⟨hs,hk⟩:=hk
  obtain ⟨te,tj,hkt,_⟩:=Zle hs
  split at hk
  ·rename_i m
   unfold xMp at hk
   split at hk
   ·rename_i mi
    obtain ⟨q,hq,hk⟩:=Zli hk
    cases hq
    obtain ⟨i,o,rfl,hk⟩:=Zml hk
    cases hkk with
    | ptr hi=>
    rename_i e0
    obtain ⟨es,clk,hi',hk1⟩:=Zgn hk
    cases ha with
    | map hmu=>
    rename_i e
    obtain ⟨hb0,ents,hg,hk1',hk2',hk3'⟩:=r.obj mi _ hi' _ hmu
    have hchk:∀ b,(Instr.checkKey b 10000 kt (.pointer (some ⟨e0.b,e0.o + o,none⟩))).run P w=.ok () w:=fun b=>Zky hkt _ b
    have hlt:=(Array.getElem?_eq_some_iff.1 hg).1
    unfold Yhi at hk1
    split at hk1
    ·rename_i j v0 hf
     rcases Zgt r hs hi hk1' hk2' hf with ⟨h1,_⟩ | ⟨j',v',x',k0,h1,_,h3,h4,h5,h6⟩
     ·cases h1
     ·cases h1
      have hjl:j < ents.size:=by have:=(List.getElem?_eq_some_iff.1 h5).1; simpa using this
      have htl:(ents.eraseIdxIfInBounds j).toList=ents.toList.eraseIdx j:=by simp [Array.eraseIdxIfInBounds,hjl]
      refine ⟨.tuple #[],_,μ,.tup [],_,?_,Ext.refl _,r.over (x:=.map (ents.eraseIdxIfInBounds j) clk) hi' rfl hmu hb0 rfl ?_,.tup .nil,hk1⟩
      ·simp [Builtin.delete_,hat,run_underlying hu,MapKept.run_getObj_map hg,hchk,Zes hkt,h4,MapKept.run_setObj_map _ hg]
      ·refine ⟨hb0,ents.eraseIdxIfInBounds j,by simp [hlt],?_,?_,?_⟩
       ·rw [htl,← Zdn,← Zdn]; exact hk1'.erase j
       ·rw [htl,← Zdn,← Zdn]; exact hk2'.erase j
       ·rw [htl,← Zdn,← Zdn,hk3']
    ·rename_i hf
     rcases Zgt r hs hi hk1' hk2' hf with ⟨_,h4⟩ | ⟨j',v',x',k0,h1,_⟩
     ·refine ⟨.tuple #[],_,μ,.tup [],_,?_,Ext.refl _,r.over (x:=.map ents clk) hi' rfl hmu hb0 rfl ?_,.tup .nil,hk1⟩
      ·simp [Builtin.delete_,hat,run_underlying hu,MapKept.run_getObj_map hg,hchk,Zes hkt,h4,MapKept.run_setObj_map _ hg]
      ·exact ⟨hb0,ents,by simp [hlt],hk1',hk2',hk3'⟩
     ·cases h1
    ·exact hk1.elim
   ·exact hk.elim
  ·exact hk.elim
 ·exact hk.elim
end
end Go.Sim

set_option linter.unusedSimpArgs false
namespace Go.Sim
open Go Go.RowKit

structure Zac (P:Program) (n:FuncId) (args:List Zad) (h:Zaa) (Q:Zad→Zaa→Prop):Prop where
 able : ∃ fn, P.funcs[n]? = some fn ∧ fn.body.isSome = true ∧ (fn.name == "runtime.NumGoroutine") = false
 calls:∀ (base:Nat) (w0:World) (μ:List Pl) (w:World) (xs:Array Value),Rel P base w0 μ h w→VRs μ args xs.toList →
  Calls P n xs w fun e w'=>∃ x μ' v h',e=.returned x∧Ext μ μ'∧Rel P base w0 μ' h' w'∧VR μ' v x∧Q v h'
theorem Zac.mono {P:Program} {n:FuncId} {args:List Zad} {h:Zaa} {Q Q':Zad→Zaa→Prop} (hc:Zac P n args h Q) (hq:∀ v h',Q v h'→Q' v h'):Zac P n args h Q':=
 ⟨hc.1,fun base w0 μ w xs r hx=>(hc.2 base w0 μ w xs r hx).mono fun _ _ ⟨x,μ',v,h',a,b,c,d,q⟩=>⟨x,μ',v,h',a,b,c,d,hq _ _ q⟩⟩

def rts (P:Program) (f:FuncId):List TypeId:=match P.funcs[f]? with | some fn=>fn.resultTypes.toList | none=>[]
def Ykj (P:Program) (f:FuncId) (args:List Zad) (h:Zaa) (K:Zad→Zaa→Prop):Prop:=Zac P f args h fun v h'=>Yij P (rts P f) v fun v=>K v h'
def Yko (v:Zad) (K:FuncId→List Zad→Prop):Prop:=match v with | .fn g caps=>K g caps | _=>False
def Ymi (P:Program) (t:TypeId):List TypeId:=match P.underlying t with | some (.tuple ts)=>ts.toList | _=>[t]
def Yln (P:Program) (t:TypeId) (v:Zad) (args:List Zad) (h:Zaa) (K:Zad→Zaa→Prop):Prop:=Yko v fun g caps=>Zac P g (args ++ caps) h fun v h'=>Yij P (Ymi P t) v fun v=>K v h'
def Ydr (P:Program) (env:Env) (h:Zaa) (o:Oper) (c:Call) (K:Zad→Zaa→Prop):Prop:=
 match c.callee with
 | .value f=>(match f with
  | .func g=>Ykj P g (c.args.toList.map (ev env) ++ []) h K
  | f=>Yln P o.type (ev env f) (c.args.toList.map (ev env)) h K)
 | .builtin .append=>(match c.argTypes.toList with
  | [t,u]=>chk (u=t) (match c.args.toList.map (ev env) with | [s,x]=>Zdt P t h s x fun v h'=>xv .slice (some v) fun v=>K v h' | _=>False)
  | _=>False)
 | .builtin .min=>(match c.args.toList.map (ev env) with | [x,y]=>Yjl x y fun v=>K v h | _=>False)
 | .builtin .clear=>(match c.argTypes.toList with
  | [t]=>(match c.args.toList.map (ev env) with | [x]=>Zyv P t h x K | _=>False)
  | _=>False)
 | .builtin .delete=>(match c.argTypes.toList with
  | t :: _=>(match c.args.toList.map (ev env) with | [m,k]=>Zok P t h m k K | _=>False)
  | _=>False)
 | _=>Zlx P env o fun v=>K v h
def opA (P:Program) (env:Env) (h:Zaa) (o:Oper) (K:Zad→Zaa→Prop):Prop:=
 match o.op with
 | .load t a=>chk ((P.underlying t).isSome=true) (Zpc P t h (ev env a) fun v=>K v h)
 | .store t a x=>chk ((P.underlying t).isSome=true) (Zsr P t h (ev env a) (ev env x) fun h'=>K .undef h')
 | .alloc t=>Yhl P t h K
 | .box t x=>Ylx t h (ev env x) K
 | .build t ps=>Ydj P t (parts env ps) fun v=>K v h
 | .buildSlice t n ps=>Zjr P t n (parts env ps) h K
 | .call c=>Ydr P env h o c K
 | .makeSlice t l c=>Zht P t (ev env l) (ev env c) h K
 | .makeMap t r=>Zlk P t (r.map (ev env)) h K
 | .lookup t x i ok=>(match Yhd P t with | true=>Zlp P t h (ev env x) (ev env i) ok fun v=>K v h | false=>Znv P t h (ev env x) (ev env i) ok fun v=>K v h)
 | .mapUpdate t m k v=>(match Yhd P t with | true=>Zgu P t h (ev env m) (ev env k) (ev env v) K | false=>Zhu P t h (ev env m) (ev env k) (ev env v) K)
 | .range t x=>Zsm P t (ev env x) h K
 | .next x st=>Zzt P o.type (ev env x) st h K
 | .entry x=>Zso P o.type (ev env x) h fun v=>K v h
 | .convert s d x=>(match Ybj P s with | true=>Yjp P s d h (ev env x) fun v=>K v h | false=>Zlx P env o fun v=>K v h)
 | .binOp op t x y _=>(match ev env x with
  | .ptr a=>Zei (some (ev env y)) fun b=>Ygy P op t h a b K
  | _=>Zlx P env o fun v=>K v h)
 | _=>Zlx P env o fun v=>K v h
def Zmf (N:Nat) (env:Env) (d:Option Tmp) (v:Zad) (K:Env→Prop):Prop:=match d with | none=>K env | some d=>chk (d < N) (K (env.set d v))
def Zij (P:Program) (N:Nat) (ops:Array Oper) (env:Env) (h:Zaa) (o:Oper) (K:Env→Zaa→Prop):Prop:=
 match o.guard with
 | none=>opA P env h o fun v h'=>Zmf N env o.dst v fun env'=>K env' h'
 | some (j,want)=>(match (ops[j]?).bind (·.dst) with
  | some t=>(match env.get t with
   | .bool b=>bcase b
     (match want with | true=>opA P (env.set t (.bool true)) h o fun v h'=>Zmf N (env.set t (.bool true)) o.dst v fun env'=>K env' h' | false=>Zmf N (env.set t (.bool true)) o.dst (.tup []) fun env'=>K env' h)
     (match want with | false=>opA P (env.set t (.bool false)) h o fun v h'=>Zmf N (env.set t (.bool false)) o.dst v fun env'=>K env' h' | true=>Zmf N (env.set t (.bool false)) o.dst (.tup []) fun env'=>K env' h)
   | .tup []=>Zmf N env o.dst (.tup []) fun env'=>K env' h
   | _=>False)
  | none=>False)
def Ylq (P:Program) (N:Nat) (ops:Array Oper):List Oper→Env→Zaa→(Env→Zaa→Prop)→Prop
 | [],env,h,K=>K env h
 | o :: r,env,h,K=>Zij P N ops env h o fun env' h'=>Ylq P N ops r env' h' K

section
variable {P:Program} {base N:Nat} {w0:World} {μ:List Pl} {h:Zaa} {w:World}

structure St (P:Program) (base N:Nat) (w0:World) (μ:List Pl) (env:Env) (h:Zaa) (a:Act) (w:World):Prop where
 rel:Rel P base w0 μ h w
 env:Zir μ env a.tmps
 size:a.tmps.size=N
 defers:a.defers=[]

def Ygv (P:Program) (base N:Nat) (w0:World) (μ:List Pl) (K:Env→Zaa→Prop) (a:Act) (w:World):Prop:=
 ∃ μ' env h,Ext μ μ'∧St P base N w0 μ' env h a w∧K env h

theorem St.put {env:Env} {a:Act} (s:St P base N w0 μ env h a w) {μ':List Pl} {h':Zaa} {w':World} (he:Ext μ μ') (hr:Rel P base w0 μ' h' w') {v:Zad} {x:Value} (hv:VR μ' v x) {d:Option Tmp} {K:Env→Prop} (hk:Zmf N env d v K) :
  ∃ env',St P base N w0 μ' env' h' (a.put d x) w'∧K env':=by
 unfold Zmf at hk
 cases d with
 | none=>exact ⟨env,⟨hr,s.env.ext he,s.size,s.defers⟩,hk⟩
 | some d=>
  replace hk:=Zav hk
  obtain ⟨hd,hk⟩:=hk
  refine ⟨_,⟨hr,(s.env.ext he).set (by rw [s.size]; exact hd) hv,?_,s.defers⟩,hk⟩
  simp [Act.put,s.size]

theorem St.know {env:Env} {a:Act} (s:St P base N w0 μ env h a w) {t:Nat} {v:Zad} (hv:VR μ v (a.tmps.getD t undef)):St P base N w0 μ (env.set t v) h a w:=
 ⟨s.rel,s.env.know hv,s.size,s.defers⟩

theorem Res.wp {o:Oper} {a:Act} {K:Zad→Zaa→Prop} {next:Act→World→Prop} {Q:Exit→Act→World→Prop} {s:Sem Value}
  (hr:Res P base w0 μ (s.run P w) K) (he:(execOp a.eval o).run P w=(s.run P w).andThen fun x w'=>.ok (.value x) w')
  (hn:∀ x w' μ' v h',Ext μ μ'→Rel P base w0 μ' h' w'→VR μ' v x→K v h'→next (a.put o.dst x) w'):o.wp P a w next Q:=by
 obtain ⟨x,w',μ',v,h',hrun,hx,hrel,hv,hk⟩:=hr
 unfold Oper.wp
 rw [he,hrun]
 exact hn x w' μ' v h' hx hrel hv hk

theorem Yim {env:Env} {a:Act} (s:St P base N w0 μ env h a w) {f:FuncId} {args:List Zad} {xs:Array Value} (hxs:VRs μ args xs.toList) {K:Zad→Zaa→Prop} (hk:Zac P f args h K)
  {o:Oper} (he:(execOp a.eval o).run P w=(callFunc f xs).run P w) {next:Act→World→Prop} {Q:Exit→Act→World→Prop}
  (hn:∀ x w' μ' v h',Ext μ μ'→Rel P base w0 μ' h' w'→VR μ' v x→K v h'→next (a.put o.dst x) w'):o.wp P a w next Q:=by
 obtain ⟨⟨fn,hf,hb,hname⟩,hc⟩:=hk
 have hcall:(callFunc f xs).run P w=.ok (.enter f xs) w:=by
  obtain ⟨c,hc⟩:=Option.isSome_iff_exists.1 hb
  have hname' : fn.name ≠ "runtime.NumGoroutine" := by simpa using hname
  simp [callFunc,hf,hc,hname']
 unfold Oper.wp
 rw [he,hcall]
 refine (hc base w0 μ w xs s.rel hxs).mono ?_
 rintro e w' ⟨x,μ',v,h',rfl,hx,hr,hv,hq⟩
 exact hn x w' μ' v h' hx hr hv hq

theorem VRs.single {v:Zad} {xs:Array Value} (h:VRs μ [v] xs.toList):∃ x,xs=#[x]∧VR μ v x:=by
 obtain ⟨l⟩:=xs
 match l,h with
 | [x],.cons a .nil=>exact ⟨x,rfl,a⟩
theorem Yiu {env:Env} {a:Act} (s:St P base N w0 μ env h a w) {o:Oper} {K:Zad→Zaa→Prop} (hk:opA P env h o K) {next:Act→World→Prop} {Q:Exit→Act→World→Prop}
  (hn:∀ x w' μ' v h',Ext μ μ'→Rel P base w0 μ' h' w'→VR μ' v x→K v h'→next (a.put o.dst x) w'):o.wp P a w next Q:=by
 have hρ:=Yjr s.env
 have pure:Zlx P env o (fun v=>K v h)→o.wp P a w next Q:=fun hk=>by
  obtain ⟨x,v,hr,hv,hk⟩:=Yiw hρ hk
  unfold Oper.wp
  rw [hr w]
  exact hn x w μ v h (Ext.refl _) s.rel hv hk
 unfold opA at hk
 split at hk
 ·rename_i t p he
  replace hk:=Zav hk
  obtain ⟨hu,hk⟩:=hk
  obtain ⟨y,v,hr,hv,hk⟩:=Yce s.rel (hρ p) hu hk
  unfold Oper.wp
  simp only [execOp,he,Sem.run_bind,hr,Result.andThen_ok,Sem.run_pure]
  exact hn y w μ v h (Ext.refl _) s.rel hv hk
 ·rename_i t p x he
  replace hk:=Zav hk
  obtain ⟨hu,hk⟩:=hk
  obtain ⟨w',h',hr,hrel,hk⟩:=Yfx s.rel (hρ p) (hρ x) hu hk
  unfold Oper.wp
  simp only [execOp,he,Sem.run_bind,hr,Result.andThen_ok,Sem.run_pure]
  exact hn undef w' μ .undef h' (Ext.refl _) hrel (.undef _) hk
 ·rename_i t he
  exact Res.wp (Ygu s.rel hk) (by simp [execOp,he]) hn
 ·rename_i t x he
  exact Res.wp (Ykp s.rel (hρ x) hk) (by simp [execOp,he]) hn
 ·rename_i t ps he
  obtain ⟨h1,h2⟩:=Zyo hρ ps
  obtain ⟨x,v,hr,hv,hk⟩:=Ygr h1 h2 hk
  unfold Oper.wp
  simp only [execOp,he,Sem.run_bind,hr w,Result.andThen_ok,Sem.run_pure]
  exact hn x w μ v h (Ext.refl _) s.rel hv hk
 ·rename_i t n ps he
  obtain ⟨h1,h2⟩:=Zyo hρ ps
  exact Res.wp (Ztf s.rel h1 h2 hk) (by simp [execOp,he]) hn
 ·rename_i c he
  unfold Ydr at hk
  split at hk
  ·rename_i f hcal
   have go:∀ (f:Operand),c.callee=.value f→∀ (g:FuncId) (caps:List Zad),ev env f=.fn g caps→Zac P g (c.args.toList.map (ev env) ++ caps) h K→o.wp P a w next Q:=by
    intro f hcal g caps hev hk
    have hf:=hρ f
    rw [hev] at hf
    cases hfv:a.eval f with
    | func fn first cap=>
     rw [hfv] at hf
     cases hf with
     | fn hcaps=>
     refine Yim s (xs:=c.args.map a.eval ++ cap) (by rw [Array.toList_append]; exact (Zms hρ c.args).append hcaps) hk ?_ hn
     simp [execOp,he,resolve,hcal,hfv,Deferred.ofValue,invoke]
    | _=>rw [hfv] at hf; cases hf
   split at hk
   ·rename_i g
    exact go _ hcal g [] rfl (Zac.mono hk fun _ _ hq=>Zvu (K:=fun v=>K v _) hq)
   ·unfold Yln Yko at hk
    split at hk
    ·rename_i g caps hev
     exact go _ hcal g caps hev (Zac.mono hk fun _ _ hq=>Zvu (K:=fun v=>K v _) hq)
    ·exact hk.elim
  ·rename_i hcal
   split at hk
   ·rename_i t u hts
    replace hk:=Zav hk
    obtain ⟨rfl,hk⟩:=hk
    split at hk
    ·rename_i sv xv hargs
     have hvs:=Zms hρ c.args
     rw [hargs] at hvs
     obtain ⟨x,y,hxy,h1,h2⟩:=hvs.two
     refine Res.wp (Ycj (ty:=o.type) s.rel h1 h2 hk) ?_ fun x w' μ' v h' hx hr hv hk=>(by obtain ⟨v2,hv2,hk⟩:=Zgc hk; cases hv2; exact hn x w' μ' v h' hx hr hv hk)
     have hat:c.argTypes=#[u,u]:=by
      apply Array.ext'; simpa using hts
     simp [execOp,he,resolve,hcal,invoke,builtin,hxy,hat]
    ·exact hk.elim
   ·exact hk.elim
  ·rename_i hcal
   split at hk
   ·rename_i a b hargs
    have hvs:=Zms hρ c.args
    rw [hargs] at hvs
    obtain ⟨x,y,hxy,h1,h2⟩:=hvs.two
    obtain ⟨v,z,hr,hv,hk⟩:=Ykl (ts:=c.argTypes) (t:=o.type) h1 h2 hk
    exact Res.wp (s:=Builtin.min_ c.argTypes o.type #[x,y]) ⟨z,w,μ,v,h,hr w,Ext.refl _,s.rel,hv,hk⟩ (by simp [execOp,he,resolve,hcal,invoke,builtin,hxy]) hn
   ·exact hk.elim
  ·rename_i hcal
   split at hk
   ·rename_i t hts
    split at hk
    ·rename_i x1 hargs
     have hvs:=Zms hρ c.args
     rw [hargs] at hvs
     obtain ⟨x,hxy,h1⟩:=hvs.single
     refine Res.wp (Yfc (ty:=o.type) s.rel h1 hk) ?_ hn
     have hat:c.argTypes=#[t]:=by
      apply Array.ext'; simpa using hts
     simp [execOp,he,resolve,hcal,invoke,builtin,hxy,hat]
    ·exact hk.elim
   ·exact hk.elim
  ·rename_i hcal
   split at hk
   ·rename_i t rest hts
    split at hk
    ·rename_i mv kv hargs
     have hvs:=Zms hρ c.args
     rw [hargs] at hvs
     obtain ⟨x,y,hxy,h1,h2⟩:=hvs.two
     have hat:c.argTypes[0]?=some t:=by rw [← Array.getElem?_toList,hts]; rfl
     refine Res.wp (Ydb (ty:=o.type) s.rel hat h1 h2 hk) ?_ hn
     simp [execOp,he,resolve,hcal,invoke,builtin,hxy]
    ·exact hk.elim
   ·exact hk.elim
  ·exact pure hk
 ·rename_i t l c he
  exact Res.wp (Zuq s.rel (hρ l) (hρ c) hk) (by simp [execOp,he]) hn
 ·rename_i t m he
  refine Res.wp (Ybb (x:=m.map a.eval) s.rel ?_ hk) (by simp [execOp,he]) hn
  cases m with
  | none=>exact .inl ⟨rfl,rfl⟩
  | some m=>exact .inr ⟨_,_,rfl,rfl,hρ m⟩
 ·rename_i t x i ok he
  split at hk
  ·obtain ⟨z,v,hr,hv,hk⟩:=Ybg s.rel (hρ x) (hρ i) hk
   exact Res.wp (s:=Instr.lookup t (a.eval x) (a.eval i) ok) ⟨z,w,μ,v,h,hr,Ext.refl _,s.rel,hv,hk⟩ (by simp [execOp,he]) hn
  ·obtain ⟨z,v,hr,hv,hk⟩:=Yef s.rel (hρ x) (hρ i) hk
   exact Res.wp (s:=Instr.lookup t (a.eval x) (a.eval i) ok) ⟨z,w,μ,v,h,hr,Ext.refl _,s.rel,hv,hk⟩ (by simp [execOp,he]) hn
 ·rename_i t m k x he
  split at hk
  ·obtain ⟨w',h',hr,hrel,hk⟩:=Zte s.rel (hρ m) (hρ k) (hρ x) hk
   unfold Oper.wp
   simp only [execOp,he,Sem.run_bind,hr,Result.andThen_ok,Sem.run_pure]
   exact hn undef w' μ .undef h' (Ext.refl _) hrel (.undef _) hk
  ·obtain ⟨w',h',hr,hrel,hk⟩:=Zvl s.rel (hρ m) (hρ k) (hρ x) hk
   unfold Oper.wp
   simp only [execOp,he,Sem.run_bind,hr,Result.andThen_ok,Sem.run_pure]
   exact hn undef w' μ .undef h' (Ext.refl _) hrel (.undef _) hk
 ·rename_i t x he
  exact Res.wp (Yfy s.rel (hρ x) hk) (by simp [execOp,he]) hn
 ·rename_i x st he
  exact Res.wp (Yer (ty:=o.type) s.rel (hρ x) hk) (by simp [execOp,he]) hn
 ·rename_i x he
  obtain ⟨z,v,hr,hv,hk⟩:=Ygj s.rel (hρ x) hk
  exact Res.wp (s:=Instr.entry (a.eval x)) ⟨z,w,μ,v,h,hr,Ext.refl _,s.rel,hv,hk⟩ (by simp [execOp,he]) hn
 ·rename_i a b x he
  split at hk
  ·exact Res.wp (Yix s.rel (hρ x) hk) (by simp [execOp,he]) hn
  ·exact pure hk
 ·rename_i op t x y yt he
  split at hk
  ·rename_i pa hx
   obtain ⟨pb,hy,hk⟩:=Zli hk
   have hy:=Option.some.inj hy
   have h1:=hρ x; rw [hx] at h1
   have h2:=hρ y; rw [hy] at h2
   obtain ⟨e,hr,hk⟩:=Yke (xo:=x) (yo:=y) s.rel h1 h2 hk
   unfold Oper.wp
   simp only [execOp,he]
   rw [Sem.run_bind,hr]
   exact hn _ w μ _ h (Ext.refl _) s.rel (.bool e) hk
  ·exact pure hk
 ·exact pure hk

theorem Yde {tmps:Array Value} {t:Nat} {b:Bool} (h:VR μ (.bool b) (tmps.getD t undef)):tmps[t]?=some (.bool b):=by
 simp only [Array.getD_eq_getD_getElem?] at h
 cases hx:tmps[t]? with
 | none=>rw [hx] at h; simp [undef] at h; cases h
 | some x=>rw [hx] at h; simp at h; cases h; rfl

theorem Ybm {ops:Array Oper} {env:Env} {a:Act} (s:St P base N w0 μ env h a w) {o:Oper} {K:Env→Zaa→Prop} (hk:Zij P N ops env h o K) {next:Act→World→Prop} {Q:Exit→Act→World→Prop}
  (hn:∀ a w,Ygv P base N w0 μ K a w→next a w):if Region.wanted o (yielded ops a.tmps) then o.wp P a w next Q else next (a.put o.dst undef) w:=by
 have fin:∀ {env:Env} {v:Zad} {x:Value} {μ':List Pl} {h':Zaa} {w':World},St P base N w0 μ env h a w→Ext μ μ'→Rel P base w0 μ' h' w'→VR μ' v x→Zmf N env o.dst v (fun env'=>K env' h')→next (a.put o.dst x) w':=by
  intro env v x μ' h' w' s hx hr hv hk
  obtain ⟨env',s',hk⟩:=s.put hx hr hv hk
  exact hn _ _ ⟨μ',env',h',hx,s',hk⟩
 unfold Zij at hk
 split at hk
 ·rename_i hg
  have:Region.wanted o (yielded ops a.tmps)=true:=by simp [Region.wanted,hg]
  rw [if_pos this]
  exact Yiu s hk fun x w' μ' v h' hx hr hv hk=>fin s hx hr hv hk
 ·rename_i j want hg
  split at hk
  ·rename_i t ht
   split at hk
   ·rename_i b hb
    have henv:=s.env t
    rw [hb] at henv
    have hy:yielded ops a.tmps j=some b:=by
     unfold yielded
     rw [ht]; simp only [Option.bind_some,Yde henv]
    have hwant:Region.wanted o (yielded ops a.tmps)=(b == want):=by simp [Region.wanted,hg,hy]
    rw [hwant]
    have hknow:∀ c,b=c→St P base N w0 μ (env.set t (.bool c)) h a w:=fun c e=>by subst e; exact s.know henv
    refine Yag hk ?_ ?_
    ·rintro rfl hk
     have s':=hknow true rfl
     cases want with
     | true=>exact Yiu s' hk fun x w' μ' v h' hx hr hv hk=>fin s' hx hr hv hk
     | false=>exact fin s' (Ext.refl _) s.rel (.tup .nil) hk
    ·rintro rfl hk
     have s':=hknow false rfl
     cases want with
     | false=>exact Yiu s' hk fun x w' μ' v h' hx hr hv hk=>fin s' hx hr hv hk
     | true=>exact fin s' (Ext.refl _) s.rel (.tup .nil) hk
   ·rename_i hb
    have henv:=s.env t
    rw [hb] at henv
    have hy:yielded ops a.tmps j=none:=by
     unfold yielded
     rw [ht]; simp only [Option.bind_some]
     have:a.tmps[t]?=none ∨ a.tmps[t]?=some (.tuple #[]):=by
      simp only [Array.getD_eq_getD_getElem?] at henv
      cases hx:a.tmps[t]? with
      | none=>exact .inl rfl
      | some x=>
       rw [hx] at henv
       simp only [Option.getD_some] at henv
       cases henv with
       | tup hv => 
        have:=hv.length
        rename_i xs
        have:xs=#[]:=by apply Array.ext'; exact List.eq_nil_of_length_eq_zero (by simpa using this.symm)
        subst this; exact .inr rfl
     rcases this with h | h <;> rw [h]
    have hwant:Region.wanted o (yielded ops a.tmps)=false:=by simp [Region.wanted,hg,hy]
    rw [hwant]
    exact fin s (Ext.refl _) s.rel (.tup .nil) hk
   ·exact hk.elim
  ·exact hk.elim

theorem Yhm {ops:Array Oper} {Q:Exit→Act→World→Prop}:∀ (l:List Oper) {μ:List Pl} {h:Zaa} {w:World} {env:Env} {a:Act},St P base N w0 μ env h a w→∀ {K:Env→Zaa→Prop},Ylq P N ops l env h K →
  (∀ a w,Ygv P base N w0 μ K a w→Q .normal a w)→wpList P ops Q l a w
 | [],μ,h,w,env,a,s,K,hk,hq=>hq a w ⟨μ,env,h,Ext.refl _,s,hk⟩
 | o :: r,μ,h,w,env,a,s,K,hk,hq=>by
  have hstep:=Ybm (next:=wpList P ops Q r) (Q:=Q) s hk (fun a' w' ⟨μ',env',h',hx,s',hk'⟩=>Yhm r s' hk' (fun a w ⟨μ2,env2,h2,hx2,s2,k2⟩=>hq a w ⟨μ2,env2,h2,hx.trans hx2,s2,k2⟩))
  unfold wpList
  split
  ·rename_i hw; rw [if_pos hw] at hstep; exact .inl hstep
  ·rename_i hw; rw [if_neg hw] at hstep; exact hstep
end
end Go.Sim

set_option linter.unusedSimpArgs false
namespace Go.Sim
open Go Go.RowKit

section
variable {P:Program} {K K':Zad→Zaa→Prop} {k k':Zad→Prop}

theorem Yat {o:Option Zad} {K K':Bool→Prop} (h:Zbg o K) (m:∀ b,K b→K' b):Zbg o K':=by
 unfold Zbg at *; split at h <;> first | exact m _ h | exact h.elim
theorem Ydh {q:IntKind} {o:Option Zad} {K K':Int→Prop} (h:Zbr q o K) (m:∀ b,K b→K' b):Zbr q o K':=by
 unfold Zbr at *; split at h <;> first | exact ⟨h.1,m _ h.2⟩ | exact h.elim
theorem Zrb {o:Option Zad} {K K':List Nat→Prop} (h:Zde o K) (m:∀ b,K b→K' b):Zde o K':=by
 unfold Zde at *; split at h <;> first | exact m _ h | exact h.elim
theorem Zkr {o:Option Zad} {K K':Option (Nat × Nat)→Prop} (h:Zei o K) (m:∀ b,K b→K' b):Zei o K':=by
 unfold Zei at *; split at h <;> first | exact m _ h | exact h.elim
theorem Yft {o:Option Zad} {K K':Option (Nat × Nat)→Nat→Nat→Bool→Prop} (h:xSl o K) (m:∀ a b c d,K a b c d→K' a b c d):xSl o K':=by
 unfold xSl at *; split at h <;> first | exact m _ _ _ _ h | exact h.elim
theorem Ydu {o:Option Zad} {K K':Option Nat→Prop} (h:Zxx o K) (m:∀ b,K b→K' b):Zxx o K':=by
 unfold Zxx at *; split at h <;> first | exact m _ h | exact h.elim
theorem Zlh {o:Option Zad} (h:Zsa o k) (m:∀ b,k b→k' b):Zsa o k':=by
 unfold Zsa at *; split at h <;> first | exact m _ h | exact h.elim
theorem Zta {cs:List Zad} {K K':Zad→List Zad→Prop} (h:Zal cs K) (m:∀ a b,K a b→K' a b):Zal cs K':=by
 unfold Zal at *; split at h <;> first | exact m _ _ h | exact h.elim
theorem Zwd {cs:List Zad} {K K':Prop} (h:Zcs cs K) (m:K→K'):Zcs cs K':=by
 unfold Zcs at *; split at h <;> first | exact m h | exact h.elim
theorem Zef {o:Option (List Zad)} {K K':List Zad→Prop} (h:Zdi o K) (m:∀ b,K b→K' b):Zdi o K':=by
 unfold Zdi at *; split at h <;> first | exact m _ h | exact h.elim
theorem Zsu {o:Option Zaa} {K K':Zaa→Prop} (h:Zce o K) (m:∀ b,K b→K' b):Zce o K':=by
 unfold Zce at *; split at h <;> first | exact m _ h | exact h.elim
theorem Yex {v:Zad} {K K':List Zad→Prop} (h:Zru v K) (m:∀ b,K b→K' b):Zru v K':=by
 unfold Zru at *; split at h <;> first | exact m _ h | exact h.elim
theorem Ycr {v:Zad} {K K':List Zad→Prop} (h:Zrs v K) (m:∀ b,K b→K' b):Zrs v K':=by
 unfold Zrs at *; split at h <;> first | exact m _ h | exact h.elim
theorem Zpu {o:Option Field} {K K':Field→Prop} (h:Zmg o K) (m:∀ b,K b→K' b):Zmg o K':=by
 unfold Zmg at *; split at h <;> first | exact m _ h | exact h.elim
theorem Zbj {p:Prop} [Decidable p] {K K':Prop} (h:chk p K) (m:K→K'):chk p K':=by
 unfold chk at *; split at h <;> first | exact m h | exact h.elim
theorem Zic {o:Option Zad} {d:Int} {K K':Int→Prop} (h:Zhl o d K) (m:∀ b,K b→K' b):Zhl o d K':=by
 unfold Zhl at *; split at h <;> first | exact m _ h | exact h.elim
theorem Yaf {b:Bool} {A B A' B':Prop} (h:bcase b A B) (m:A→A') (n:B→B'):bcase b A' B':=by
 unfold bcase at *; split at h <;> first | exact m h | exact n h
theorem Zix {s:Sh} {o:Option Zad} (h:xv s o k) (m:∀ v,k v→k' v):xv s o k':=by
 cases s <;> simp only [xv] at *
 ·exact Yat h fun _=>m _
 ·exact Ydh h fun _=>m _
 ·exact Zrb h fun _=>m _
 ·exact Zkr h fun _=>m _
 ·exact Yft h fun _ _ _ _=>m _
 ·exact Ydu h fun _=>m _
 ·exact Zlh h m
theorem Zwi:∀ {ss:List Sh} {cs:List Zad} {K K':List Zad→Prop},xs ss cs K→(∀ v,K v→K' v)→xs ss cs K'
 | [],_,_,_,h,m=>Zwd h (m _)
 | _ :: _,_,_,_,h,m=>Zta h fun _ _ h=>Zix h fun _ h=>Zwi h fun _=>m _
theorem Ydn {t:TypeId} {v:Zad} (h:xt P t v k) (m:∀ v,k v→k' v):xt P t v k':=by
 unfold xt at *
 split at h
 ·exact Yex h fun _ h=>Zwi h fun _=>m _
 ·exact Zix h m
theorem Zzk:∀ {ts:List TypeId} {cs:List Zad} {K K':List Zad→Prop},xts P ts cs K→(∀ v,K v→K' v)→xts P ts cs K'
 | [],_,_,_,h,m=>Zwd h (m _)
 | _ :: _,_,_,_,h,m=>Zta h fun _ _ h=>Ydn h fun _ h=>Zzk h fun _=>m _
theorem Zvm {ts:List TypeId} {v:Zad} (h:Yij P ts v k) (m:∀ v,k v→k' v):Yij P ts v k':=by
 unfold Yij at *
 split at h
 ·exact m _ h
 ·exact Ydn h m
 ·exact Ycr h fun _ h=>Zzk h fun _=>m _
theorem Yae {t:TypeId} {h:Zaa} {p:Zad} (hh:Zpc P t h p k) (m:∀ v,k v→k' v):Zpc P t h p k':=by
 unfold Zpc at *
 split at hh
 ·exact Zef hh fun _ h=>Zwi h fun _=>m _
 ·exact Zix hh m
theorem Zxj {t:TypeId} {h:Zaa} {p v:Zad} {K K':Zaa→Prop} (hh:Zsr P t h p v K) (m:∀ v,K v→K' v):Zsr P t h p v K':=by
 unfold Zsr at *
 split at hh
 ·split at hh
  ·exact Zsu hh m
  ·exact hh.elim
 ·exact hh.elim
theorem Yab {a b:Option (Nat × Nat)} {K K':Bool→Prop} (h:Zww a b K) (m:∀ b,K b→K' b):Zww a b K':=by
 unfold Zww at *
 split at h
 ·exact m _ h
 ·split at h
  ·exact m _ h
  ·exact h.elim
theorem Zgs {a:Option (Nat × Nat)} {K K':Nat→Nat→Prop} (h:Zaw a K) (m:∀ b o,K b o→K' b o):Zaw a K':=by
 obtain ⟨b,o,rfl,h⟩:=Zbp h
 exact m _ _ h
theorem Zyk {t:TypeId} {x y:Zad} {K K':Bool→Prop} (h:eqA P t x y K) (m:∀ b,K b→K' b):eqA P t x y K':=by
 unfold eqA at *
 split at h <;> (try exact h.elim) <;> split at h <;> (try exact h.elim)
 ·exact Zbj h (m _)
 ·exact m _ h
 ·exact Zbj h (m _)
 ·exact Zbj h fun h=>Yab h m
 ·split at h
  ·exact m _ h
  ·exact h.elim
 ·exact Zbj h fun h=>⟨h.1,m _ h.2⟩
theorem Ybz {op:BinOp} {t:TypeId} {x y:Zad} (h:Yfa P op t x y k) (m:∀ v,k v→k' v):Yfa P op t x y k':=by
 unfold Yfa at *
 split at h
 ·exact Zyk h fun _=>m _
 ·exact Zyk h fun _=>m _
 ·split at h
  ·split at h
   ·split at h <;> first
     | exact h.elim
     | exact Zbj h (m _)
     | exact Zbj h fun h=>⟨h.1,m _ h.2⟩
     | exact ⟨h.1,m _ h.2⟩
   ·exact h.elim
  ·split at h
   ·split at h <;> first
     | exact h.elim
     | exact ⟨h.1,m _ h.2⟩
     | exact m _ h
   ·exact h.elim
  ·exact h.elim
theorem Zsv {t:TypeId} {cs:List Zad} {off:Nat} (h:Zsb P t cs off k) (m:∀ v,k v→k' v):Zsb P t cs off k':=by
 unfold Zsb at *
 split at h
 ·exact m _ h
 ·exact Zbj h fun h=>Zlh h m
theorem Ybu {ts:Array TypeId} {xs:List Zad} (h:Yik P ts xs k) (m:∀ v,k v→k' v):Yik P ts xs k':=by
 unfold Yik at *
 split at h <;> first | exact h.elim | exact Zbj h (m _)
theorem Ybk {s d:TypeId} {x:Zad} (h:Zxp P s d x k) (m:∀ v,k v→k' v):Zxp P s d x k':=by
 unfold Zxp at *
 split at h
 ·split at h <;> first | exact h.elim | exact Zbj h (m _)
 ·split at h <;> first | exact h.elim | exact Zbj h (m _) | exact Zbj h fun h=>⟨h.1,m _ h.2⟩
 ·exact h.elim
theorem Zxq {t:TypeId} {x:Zad} {lo hi mx:Option Zad} (h:Zss P t x lo hi mx k) (m:∀ v,k v→k' v):Zss P t x lo hi mx k':=by
 unfold Zss at *
 split at h
 ·split at h
  ·exact Zbj h fun h=>Zic h fun _ h=>Zic h fun _ h=>⟨h.1,m _ h.2⟩
  ·exact h.elim
 ·split at h
  ·refine Zbj h fun h=>Zbj h fun h=>Zic h fun _ h=>Zic h fun _ h=>Zic h fun _ h=>⟨h.1,?_⟩
   have h2:=h.2
   split at h2
   ·exact ⟨h2.1,m _ h2.2⟩
   ·exact ⟨fun a=>m _ (h2.1 a),fun a=>m _ (h2.2 a)⟩
  ·exact h.elim
 ·exact h.elim
theorem Zlr {env:Env} {o:Oper} (h:Zlx P env o k) (m:∀ v,k v→k' v):Zlx P env o k':=by
 obtain ⟨dst,op,type,pos,after,guard⟩:=o
 unfold Zlx at *
 cases op <;> simp only at h ⊢ <;> (try exact h.elim)
 case move x=>exact m _ h
 case assign x=>exact m _ h
 case pick c a b=>
  unfold Yee at *
  split at h
  ·exact Yaf h (m _) (m _)
  ·exact h.elim
 case nilCheck x=>
  unfold Ylg at *
  split at h <;> first | exact h.elim | exact m _ h | exact Zgs h fun _ _=>m _
 case fieldAddr t x i=>
  unfold Zjd at *
  split at h
  ·exact Zpu h fun _ h=>Zbj h fun h=>Zbj h fun h=>Zgs h fun _ _=>m _
  ·exact h.elim
 case field t x i=>
  unfold Zvq at *
  split at h
  ·exact Zpu h fun _ h=>Zsv h m
  ·exact h.elim
 case indexAddr t x i=>
  unfold Zji at *
  split at h
  ·split at h
   ·split at h <;> first | exact h.elim | exact Zbj h fun h=>⟨h.1,Zgs h.2 fun _ _=>m _⟩
   ·split at h <;> first | exact h.elim | exact Zbj h fun h=>⟨h.1,Zgs h.2 fun _ _=>m _⟩
   ·exact h.elim
  ·exact h.elim
 case index t x i=>
  unfold Zuh at *
  split at h
  ·split at h
   ·split at h
    ·exact ⟨h.1,m _ h.2⟩
    ·exact h.elim
   ·split at h
    ·exact Zbj h fun h=>⟨h.1,Zsv h.2 m⟩
    ·exact h.elim
   ·exact h.elim
  ·exact h.elim
 case slice t x lo hi mx=>exact Zxq h m
 case binOp op t x y yt=>exact Ybz h m
 case unOp op t x=>
  unfold unA at *
  split at h
  ·split at h <;> first | exact h.elim | exact m _ h
  ·split at h <;> first | exact h.elim | exact m _ h
  ·exact h.elim
 case convert s d x=>exact Ybk h m
 case extract x i=>
  unfold Zno at *
  split at h
  ·exact Zlh h m
  ·exact h.elim
 case makeFunc fn first caps=>
  cases fn <;> simp only at h ⊢ <;> first | exact h.elim | exact Zbj h (m _)
 case call c=>
  split at h
  ·exact Ybu h m
  ·exact h.elim
theorem Zra {h:Zaa} {j:Nat} {e:TypeId} {A B:List Zad→Prop} (hh:Zma h j e A) (m:∀ cs,A cs→B cs):Zma h j e B:=by
 unfold Zma at *
 split at hh
 ·exact ⟨hh.1,m _ hh.2⟩
 ·exact hh.elim
theorem Zvz {t:TypeId} {h:Zaa} {s x:Zad} (hh:Zdt P t h s x K) (m:∀ v h,K v h→K' v h):Zdt P t h s x K':=by
 unfold Zdt at *
 split at hh <;> (try exact hh.elim)
 split at hh <;> (try exact hh.elim)
 split at hh <;> (try exact hh.elim)
 refine Zef hh fun new h=>⟨h.1,?_⟩
 have h2:=h.2
 split at h2
 ·exact ⟨fun a=>m _ _ (h2.1 a),fun a=>⟨(h2.2 a).1,m _ _ (h2.2 a).2⟩⟩
 ·rcases h2 with ⟨a,b⟩ | ⟨a,b⟩ | ⟨a,b⟩
  ·exact .inl ⟨a,Zra b fun _ h=>⟨h.1,m _ _ h.2⟩⟩
  ·exact .inr (.inl ⟨a,Zra b fun _ h=>⟨h.1,m _ _ h.2⟩⟩)
  ·exact .inr (.inr ⟨a,Zef b fun _=>m _ _⟩)
theorem Zqw:∀ {cs:List Zad} {K K':List Nat→Prop},Zla cs K→(∀ s,K s→K' s)→Zla cs K'
 | [],_,_,h,m=>m _ h
 | .int k n :: r,_,_,h,m=>by
  unfold Zla at *
  exact Zbj h fun h=>⟨h.1,Zqw h.2 fun _=>m _⟩
 | .undef :: _,_,_,h,_ | .bool _ :: _,_,_,h,_ | .str _ :: _,_,_,h,_ | .ptr _ :: _,_,_,h,_ | .slice .. :: _,_,_,h,_ | .map _ :: _,_,_,h,_ | .fn .. :: _,_,_,h,_ | .nilFn :: _,_,_,h,_ | .iter _ :: _,_,_,h,_
 | .agg _ :: _,_,_,h,_ | .tup _ :: _,_,_,h,_=>by unfold Zla at h; exact h.elim
theorem Ydv {s d:TypeId} {h:Zaa} {x:Zad} {K K':Zad→Prop} (hh:Yjp P s d h x K) (m:∀ v,K v→K' v):Yjp P s d h x K':=by
 unfold Yjp at *
 split at hh
 ·refine Zbj hh fun h=>?_
  split at h
  ·exact Zef h fun _ h=>Zqw h fun _=>m _
  ·exact h.elim
 ·exact hh.elim
theorem Yby {x y:Zad} {K K':Zad→Prop} (hh:Yjl x y K) (m:∀ v,K v→K' v):Yjl x y K':=by
 unfold Yjl at *
 split at hh
 ·split at hh
  ·exact Zbj hh (m _)
  ·exact hh.elim
 ·exact hh.elim
theorem Zrg {t:TypeId} {a b:Zad} {h:Zaa} {K K':Zad→Zaa→Prop} (hh:Zht P t a b h K) (m:∀ v h,K v h→K' v h):Zht P t a b h K':=by
 unfold Zht at *
 split at hh
 ·refine Zef hh fun _ h=>Zbj h fun h=>?_
  unfold Zbr at *
  split at h
  ·refine ⟨h.1,?_⟩
   replace h:=h.2
   split at h
   ·exact ⟨h.1,h.2.1,m _ _ h.2.2⟩
   ·exact h.elim
  ·exact h.elim
 ·exact hh.elim
theorem Zel {h:Zaa} {m:Option Nat} {K K':List ME→Nat→Prop} (hh:Zbt h m K) (m':∀ a b,K a b→K' a b):Zbt h m K':=by
 unfold Zbt at *
 split at hh
 ·exact m' _ _ hh
 ·split at hh
  ·exact m' _ _ hh
  ·exact hh.elim
theorem Yap {es:List ME} {s:List Nat} {K K':Option Zad→Prop} (hh:Zmj es s K) (m:∀ a,K a→K' a):Zmj es s K':=by
 unfold Zmj at *; split at hh <;> first | exact m _ hh | exact hh.elim
theorem Yct {es:List ME} {clk:Nat} {s:List Nat} {v:Zad} {K K':List ME→Nat→Prop} (hh:Zzc es clk s v K) (m:∀ a b,K a b→K' a b):Zzc es clk s v K':=by
 unfold Zzc at *; split at hh <;> first | exact m _ _ hh | exact hh.elim
theorem Zpq {m:Option Nat} {K K':Nat→Prop} (hh:xMp m K) (mm:∀ a,K a→K' a):xMp m K':=by
 unfold xMp at *; split at hh <;> first | exact mm _ hh | exact hh.elim
theorem Ybf {h:Zaa} {r:Nat} {K K':List Nat→Nat→Prop} (hh:Yax h r K) (m:∀ a b,K a b→K' a b):Yax h r K':=by
 unfold Yax at *; split at hh <;> first | exact m _ _ hh | exact hh.elim
theorem Zpy {h:Zaa} {r:Nat} {K K':Option Nat→Nat→List Nat→Nat→Prop} (hh:Zly h r K) (m:∀ a b c d,K a b c d→K' a b c d):Zly h r K':=by
 unfold Zly at *; split at hh <;> first | exact m _ _ _ _ hh | exact hh.elim
theorem Zul {t:TypeId} {h:Zaa} {x i:Zad} {ok:Bool} (hh:Znv P t h x i ok k) (m:∀ v,k v→k' v):Znv P t h x i ok k':=by
 unfold Znv at *
 split at hh
 ·refine Zbj hh fun h=>?_
  split at h
  ·exact Zrb h fun _ h=>Zlh h fun _ h=>Zel h fun _ _ h=>Yap h fun _ h=>Zix h fun _=>m _
  ·exact h.elim
 ·exact hh.elim
theorem Zqq {t:TypeId} {h:Zaa} {x i v:Zad} (hh:Zhu P t h x i v K) (m:∀ v h,K v h→K' v h):Zhu P t h x i v K':=by
 unfold Zhu at *
 split at hh
 ·refine Zbj hh fun h=>?_
  split at h
  ·exact Zpq h fun _ h=>Zrb h fun _ h=>Zel h fun _ _ h=>Yct h fun _ _=>m _ _
  ·exact h.elim
 ·exact hh.elim
theorem Ztt {t:TypeId} {r:Option Zad} {h:Zaa} (hh:Zlk P t r h K) (m:∀ v h,K v h→K' v h):Zlk P t r h K':=by
 unfold Zlk at *
 split at hh <;> first | exact m _ _ hh | exact Zbj hh (m _ _) | exact hh.elim
theorem Zwq {t:TypeId} {x:Zad} {h:Zaa} (hh:Zsm P t x h K) (m:∀ v h,K v h→K' v h):Zsm P t x h K':=by
 unfold Zsm at *
 split at hh <;> first | exact hh.elim | exact Zbj hh (m _ _) | exact Zbj hh fun h=>Zel h fun _ _=>m _ _
theorem Yea {m:Option Nat} {A B A' B':Prop} (hh:Yjm m A B) (p:A→A') (q:B→B'):Yjm m A' B':=by
 unfold Yjm at *; split at hh <;> first | exact p hh | exact q hh
theorem Yad {ty:TypeId} {x:Zad} {st:Bool} {h:Zaa} (hh:Zzt P ty x st h K) (m:∀ v h,K v h→K' v h):Zzt P ty x st h K':=by
 unfold Zzt at *
 split at hh
 ·split at hh
  ·exact Ybf hh fun _ _ h=>⟨fun a=>⟨(h.1 a).1,m _ _ (h.1 a).2⟩,fun a=>m _ _ (h.2 a)⟩
  ·exact Zpy hh fun _ _ _ _ h=>Yea h (m _ _) fun h=>Zel h fun _ _ h=>⟨h.1,fun a=>m _ _ (h.2.1 a),fun e he hn=>Zix (h.2.2 e he hn) fun _ h=>Zix h fun _=>m _ _⟩
 ·exact hh.elim
theorem Zwl {ty:TypeId} {x:Zad} {h:Zaa} (hh:Zso P ty x h k) (m:∀ v,k v→k' v):Zso P ty x h k':=by
 unfold Zso at *
 split at hh
 ·exact Zpy hh fun _ _ _ _ h=>Zpq h fun _ h=>Zel h fun _ _ h=>⟨h.1,h.2.imp fun _ h=>⟨h.1,h.2.imp fun _ h=>⟨h.1,Zix h.2 fun _ h=>Zix h fun _=>m _⟩⟩⟩
 ·exact hh.elim
theorem Zqa {h:Zaa} {a b:Option (Nat × Nat)} {K K':Bool→Prop} (hh:Zmy h a b K) (m:∀ e,K e→K' e):Zmy h a b K':=by
 unfold Zmy at *
 split at hh
 ·exact m _ hh
 ·split at hh
  ·exact m _ hh
  ·exact hh.imp (fun h=>⟨h.1,m _ h.2⟩) fun h=>⟨h.1,h.2.1,h.2.2.1,m _ h.2.2.2⟩
theorem Yej {op:BinOp} {t:TypeId} {h:Zaa} {a b:Option (Nat × Nat)} (hh:Ygy P op t h a b K) (m:∀ v h,K v h→K' v h):Ygy P op t h a b K':=by
 unfold Ygy at *
 split at hh
 ·exact Zbj hh fun h=>Zqa h fun _=>m _ _
 ·exact Zbj hh fun h=>Zqa h fun _=>m _ _
 ·exact hh.elim
theorem Yak {r:Option (Option (Nat × Zad))} {K K':Option Zad→Prop} (hh:Zqt r K) (m:∀ e,K e→K' e):Zqt r K':=by
 unfold Zqt at *; split at hh <;> first | exact m _ hh | exact hh.elim
theorem Ydq {r:Option (Option (Nat × Zad))} {es:List ME} {clk:Nat} {p:Nat × Nat} {v:Zad} {K K':List ME→Nat→Prop} (hh:Yfr r es clk p v K) (m:∀ a b,K a b→K' a b):Yfr r es clk p v K':=by
 unfold Yfr at *; split at hh <;> first | exact m _ _ hh | exact hh.elim
theorem Ycq {r:Option (Option (Nat × Zad))} {es:List ME} {K K':List ME→Prop} (hh:Yhi r es K) (m:∀ a,K a→K' a):Yhi r es K':=by
 unfold Yhi at *; split at hh <;> first | exact m _ hh | exact hh.elim
theorem Zto {t:TypeId} {h:Zaa} {x i:Zad} {ok:Bool} (hh:Zlp P t h x i ok k) (m:∀ v,k v→k' v):Zlp P t h x i ok k':=by
 unfold Zlp at *
 split at hh
 ·refine Zbj hh fun h=>?_
  split at h
  ·exact Zkr h fun _ h=>Zgs h fun _ _ h=>Zlh h fun _ h=>Zel h fun _ _ h=>Yak h fun _ h=>Zix h fun _=>m _
  ·exact h.elim
 ·exact hh.elim
theorem Zpb {t:TypeId} {h:Zaa} {x i v:Zad} (hh:Zgu P t h x i v K) (m:∀ v h,K v h→K' v h):Zgu P t h x i v K':=by
 unfold Zgu at *
 split at hh
 ·refine Zbj hh fun h=>?_
  split at h
  ·exact Zpq h fun _ h=>Zkr h fun _ h=>Zgs h fun _ _ h=>Zel h fun _ _ h=>Ydq h fun _ _=>m _ _
  ·exact h.elim
 ·exact hh.elim
theorem Zva {t:TypeId} {h:Zaa} {x i:Zad} (hh:Zok P t h x i K) (m:∀ v h,K v h→K' v h):Zok P t h x i K':=by
 unfold Zok at *
 split at hh
 ·refine Zbj hh fun h=>?_
  split at h
  ·exact Zpq h fun _ h=>Zkr h fun _ h=>Zgs h fun _ _ h=>Zel h fun _ _ h=>Ycq h fun _=>m _ _
  ·exact h.elim
 ·exact hh.elim
theorem Yfo {env:Env} {h:Zaa} {o:Oper} (hh:opA P env h o K) (m:∀ v h,K v h→K' v h):opA P env h o K':=by
 obtain ⟨dst,op,type,pos,after,guard⟩:=o
 unfold opA at *
 cases op <;> simp only at hh ⊢
 case load t a=>exact Zbj hh fun h=>Yae h fun _=>m _ _
 case store t a x=>exact Zbj hh fun h=>Zxj h fun _=>m _ _
 case alloc t=>exact Zef hh fun _=>m _ _
 case box t x=>exact Zef hh fun _=>m _ _
 case build t ps=>
  refine Zef hh fun _ h=>?_
  split at h
  ·exact Zbj h fun h=>Zef h fun _=>m _ _
  ·exact Zbj h fun h=>Zef h fun _=>m _ _
  ·exact h.elim
 case buildSlice t n ps=>
  unfold Zjr at *
  split at hh
  ·exact Zef hh fun _ h=>Zbj h fun h=>Zef h fun _=>m _ _
  ·exact hh.elim
 case call c=>
  unfold Ydr at *
  split at hh
  ·split at hh
   ·exact Zac.mono hh fun _ _ h=>Zvm h fun _=>m _ _
   ·unfold Yln Yko at *
    split at hh
    ·exact Zac.mono hh fun _ _ h=>Zvm h fun _=>m _ _
    ·exact hh.elim
  ·split at hh
   ·refine Zbj hh fun h=>?_
    split at h
    ·exact Zvz h fun _ _ h=>Zix h fun _=>m _ _
    ·exact h.elim
   ·exact hh.elim
  ·split at hh
   ·exact Yby hh fun _=>m _ _
   ·exact hh.elim
  ·split at hh
   ·split at hh
    ·unfold Zyv at *
     split at hh
     ·split at hh
      ·refine ⟨fun h0=>m _ _ (hh.1 h0),fun h0=>Zef (hh.2 h0) fun _ h=>Zbj h fun h=>Zsu h fun _=>m _ _⟩
      ·exact hh.elim
     ·exact hh.elim
    ·exact hh.elim
   ·exact hh.elim
  ·split at hh
   ·split at hh
    ·exact Zva hh m
    ·exact hh.elim
   ·exact hh.elim
  ·exact Zlr hh fun _=>m _ _
 case makeSlice t l c=>exact Zrg hh m
 case makeMap t r=>exact Ztt hh m
 case lookup t x i ok=>
  split at hh
  ·exact Zto hh fun _=>m _ _
  ·exact Zul hh fun _=>m _ _
 case mapUpdate t mm k v=>
  split at hh
  ·exact Zpb hh m
  ·exact Zqq hh m
 case binOp op t x y yt=>
  split at hh
  ·exact Zkr hh fun _ h=>Yej h m
  ·exact Zlr hh fun _=>m _ _
 case range t x=>exact Zwq hh m
 case next x st=>exact Yad hh m
 case entry x=>exact Zwl hh fun _=>m _ _
 case convert s d x=>
  split at hh
  ·exact Ydv hh fun _=>m _ _
  ·exact Zlr hh fun _=>m _ _
 all_goals exact Zlr hh fun _=>m _ _
end
end Go.Sim

set_option linter.unusedSimpArgs false
namespace Go.Sim
open Go Go.RowKit

def Det {α:Type} (F:(α→Prop)→Prop):Prop:=∀ k,F k→∃ v,k v∧∀ k',k' v→F k'
theorem Det.ret {α:Type} (a:α):Det (fun k=>k a):=fun _ h=>⟨a,h,fun _ h=>h⟩
theorem Det.no {α:Type}:Det (fun _:α→Prop=>False):=fun _ h=>h.elim
theorem Det.and {α:Type} {p:Prop} {F:(α→Prop)→Prop} (d:Det F):Det (fun k=>p∧F k):=fun k ⟨hp,h⟩=>let ⟨v,hv,r⟩:=d k h; ⟨v,hv,fun k' h'=>⟨hp,r k' h'⟩⟩
theorem Det.chk {α:Type} {p:Prop} [Decidable p] {F:(α→Prop)→Prop} (d:Det F):Det (fun k=>chk p (F k)):=fun k h=>by
 have ⟨hp,h⟩:=Zav h
 obtain ⟨v,hv,r⟩:=d k h
 exact ⟨v,hv,fun k' h'=>by unfold Sim.chk; rw [decide_eq_true hp]; exact r k' h'⟩
theorem Det.bind {α β:Type} {F:(α→Prop)→Prop} {G:α→(β→Prop)→Prop} (d:Det F) (e:∀ a,Det (G a)):Det (fun k=>F fun a=>G a k):=fun k h=>by
 obtain ⟨a,ha,r⟩:=d _ h
 obtain ⟨b,hb,q⟩:=e a k ha
 exact ⟨b,hb,fun k' h'=>r _ (q k' h')⟩
theorem Det.map {α β:Type} {F:(α→Prop)→Prop} (d:Det F) (f:α→β):Det (fun k=>F fun a=>k (f a)):=d.bind fun a=>Det.ret (f a)
theorem Det.bcase {α:Type} {b:Bool} {F G:(α→Prop)→Prop} (d:Det F) (e:Det G):Det (fun k=>bcase b (F k) (G k)):=by cases b <;> assumption

section
variable {P:Program}
theorem Yeb (s:Sh) (o:Option Zad):Det (xv s o):=by
 intro k h
 cases s <;> simp only [xv,Zbg,Zde,Zei,xSl,Zxx,Zsa,Zbr] at * <;> split at h <;> first
  | exact h.elim
  | exact ⟨_,h,fun _ h=>h⟩
  | exact ⟨_,h.2,fun _ h'=>⟨h.1,h'⟩⟩
theorem Zyh (o:Option Zad):Det (Zsa o):=Yeb .any o
theorem Zpo (o:Option (List Zad)):Det (Zdi o):=fun k h=>by
 unfold Zdi at *; split at h <;> first | exact ⟨_,h,fun _ h=>h⟩ | exact h.elim
theorem Yhn:∀ (ss:List Sh) (cs:List Zad),Det (xs ss cs)
 | [],cs=>fun k h=>by
  simp only [xs,Zcs] at *; split at h <;> first | exact ⟨_,h,fun _ h=>h⟩ | exact h.elim
 | s :: ss,cs=>fun k h=>by
  simp only [xs,Zal] at *
  split at h
  ·exact ((Yeb s _).bind (G:=fun v k=>xs ss _ fun vs=>k (v :: vs)) fun v=>(Yhn ss _).map (v :: ·)) k h
  ·exact h.elim
theorem Yds (t:TypeId) (h:Zaa) (p:Zad):Det (Zpc P t h p):=by
 intro k hh
 unfold Zpc at *
 split at hh
 ·exact ((Zpo _).bind (G:=fun cs k=>xs _ cs fun vs=>k (.agg vs)) fun cs=>(Yhn _ cs).map Zad.agg) k hh
 ·exact Yeb _ _ k hh
theorem Ydc (a b:Option (Nat × Nat)):Det (Zww a b):=by
 intro k h
 unfold Zww at *
 split at h
 ·exact ⟨_,h,fun _ h=>h⟩
 ·split at h
  ·exact ⟨_,h,fun _ h=>h⟩
  ·exact h.elim
theorem Znj (a:Option (Nat × Nat)) (f:Nat→Nat→Zad):Det (fun k:Zad→Prop=>Zaw a fun b o=>k (f b o)):=by
 intro k h
 obtain ⟨b,o,rfl,h⟩:=Zbp h
 exact ⟨_,h,fun _ h=>h⟩
theorem Yco (t:TypeId) (x y:Zad):Det (eqA P t x y):=by
 intro k h
 unfold eqA at *
 split at h <;> (try exact h.elim) <;> split at h <;> (try exact h.elim)
 ·exact (Det.ret _).chk k h
 ·exact ⟨_,h,fun _ h=>h⟩
 ·exact (Det.ret _).chk k h
 ·exact (Ydc _ _).chk k h
 ·split at h
  ·exact ⟨_,h,fun _ h=>h⟩
  ·exact h.elim
 ·exact (Det.ret _).and.chk k h
theorem Ygo (op:BinOp) (t:TypeId) (x y:Zad):Det (Yfa P op t x y):=by
 intro k h
 unfold Yfa at *
 split at h
 ·exact (Yco t x y).map _ k h
 ·exact (Yco t x y).map _ k h
 ·split at h
  ·split at h
   ·split at h <;> first
     | exact h.elim
     | exact (Det.ret _).chk k h
     | exact (Det.ret _).and.chk k h
     | exact (Det.ret _).and k h
   ·exact h.elim
  ·split at h
   ·split at h <;> first
     | exact h.elim
     | exact (Det.ret _).and k h
     | exact ⟨_,h,fun _ h=>h⟩
   ·exact h.elim
  ·exact h.elim
theorem Zvs (t:TypeId) (cs:List Zad) (off:Nat):Det (Zsb P t cs off):=by
 intro k h
 unfold Zsb at *
 split at h
 ·exact ⟨_,h,fun _ h=>h⟩
 ·exact (Zyh _).chk k h
theorem Zjg (o:Option Zad) (d:Int):Det (Zhl o d):=fun k h=>by
 unfold Zhl at *; split at h <;> first | exact ⟨_,h,fun _ h=>h⟩ | exact h.elim
theorem Zvf (o:Option Field):Det (Zmg o):=fun k h=>by
 unfold Zmg at *; split at h <;> first | exact ⟨_,h,fun _ h=>h⟩ | exact h.elim
theorem Zuj (s:List Nat) (lo hi:Option Zad):Det (Zng s lo hi):=by
 unfold Zng
 exact (Zjg hi s.length).bind fun h=>(Zjg lo 0).bind fun l=>(Det.ret _).and
theorem Zwj (a:Option (Nat × Nat)) (len cap:Nat) (ex:Bool) (sz:Nat) (lo hi mx:Option Zad):Det (Zmu a len cap ex sz lo hi mx):=by
 unfold Zmu
 refine (Zjg mx cap).bind fun m=>(Zjg hi len).bind fun h=>(Zjg lo 0).bind fun l=>Det.and ?_
 intro k hk
 split at hk
 ·exact (Det.ret _).and k hk
 ·rename_i b o
  by_cases hlm:l < m
  ·exact ⟨_,hk.1 hlm,fun k' h'=>⟨fun _=>h',fun h=>absurd hlm h⟩⟩
  ·exact ⟨_,hk.2 hlm,fun k' h'=>⟨fun h=>absurd h hlm,fun _=>h'⟩⟩
theorem Ycu (env:Env) (o:Oper):Det (Zlx P env o):=by
 intro k h
 obtain ⟨dst,op,type,pos,after,guard⟩:=o
 unfold Zlx at *
 cases op <;> simp only at h ⊢ <;> (try exact h.elim)
 case move x=>exact ⟨_,h,fun _ h=>h⟩
 case assign x=>exact ⟨_,h,fun _ h=>h⟩
 case pick c a b=>
  unfold Yee at *
  split at h
  ·exact (Det.ret _).bcase (Det.ret _) k h
  ·exact h.elim
 case nilCheck x=>
  unfold Ylg at *
  split at h <;> first | exact h.elim | exact ⟨_,h,fun _ h=>h⟩ | exact Znj _ (fun b o=>.ptr (some (b,o))) k h
 case fieldAddr t x i=>
  unfold Zjd at *
  split at h
  ·rename_i a _
   exact (Det.bind (F:=Zmg (Zqc P t i)) (G:=fun (f:Field) (k:Zad→Prop)=>chk ((P.underlying f.type).isSome=true) (chk (P.cellsOf f.type≠0) (Zaw a fun b o=>k (Zad.ptr (some (b,o + f.offset)))))) (Zvf _) fun f=>Det.chk (Det.chk (Znj a fun b o=>Zad.ptr (some (b,o + f.offset))))) k h
  ·exact h.elim
 case field t x i=>
  unfold Zvq at *
  split at h
  ·exact (Zvf _).bind (G:=fun f k=>Zsb P f.type _ f.offset k) (fun f=>Zvs _ _ _) k h
  ·exact h.elim
 case indexAddr t x i=>
  unfold Zji at *
  split at h
  ·split at h
   ·split at h <;> first | exact h.elim | exact (Znj _ (fun b o=>Zad.ptr (some (b,o + _)))).and.chk k h
   ·split at h <;> first | exact h.elim | exact (Znj _ (fun b o=>Zad.ptr (some (b,o + _)))).and.chk k h
   ·exact h.elim
  ·exact h.elim
 case index t x i=>
  unfold Zuh at *
  split at h
  ·split at h
   ·split at h
    ·exact (Det.ret _).and k h
    ·exact h.elim
   ·split at h
    ·exact (Zvs _ _ _).and.chk k h
    ·exact h.elim
   ·exact h.elim
  ·exact h.elim
 case slice t x lo hi mx=>
  unfold Zss at *
  split at h
  ·split at h
   ·exact (Zuj _ _ _).chk k h
   ·exact h.elim
  ·split at h
   ·exact (Zwj _ _ _ _ _ _ _ _).chk.chk k h
   ·exact h.elim
  ·exact h.elim
 case binOp op t x y yt=>exact Ygo _ _ _ _ k h
 case unOp op t x=>
  unfold unA at *
  split at h
  ·split at h <;> first | exact h.elim | exact ⟨_,h,fun _ h=>h⟩
  ·split at h <;> first | exact h.elim | exact ⟨_,h,fun _ h=>h⟩
  ·exact h.elim
 case convert s d x=>
  unfold Zxp at *
  split at h
  ·split at h <;> first | exact h.elim | exact (Det.ret _).chk k h
  ·split at h <;> first | exact h.elim | exact (Det.ret _).chk k h | exact (Det.ret _).and.chk k h
  ·exact h.elim
 case extract x i=>
  unfold Zno at *
  split at h
  ·exact Zyh _ k h
  ·exact h.elim
 case makeFunc fn first caps=>
  cases fn <;> simp only at h ⊢ <;> first | exact h.elim | exact (Det.ret _).chk k h
 case call c=>
  split at h
  ·unfold Yik at *
   split at h <;> first | exact h.elim | exact (Det.ret _).chk k h
  ·exact h.elim

def Ztq (P:Program) (op:Op):Bool:=
 match op with
 | .binOp _ t _ y _=>(match Znb P t with | false=>true | true=>Yhg y && Zkh P t)
 | .move _ | .assign _ | .pick .. | .unOp .. | .nilCheck _ | .extract .. | .field .. | .fieldAddr .. | .indexAddr .. | .index .. | .slice .. | .makeFunc .. | .build ..=>true
 | .call c=>(match c.callee with | .builtin .len=>true | _=>false)
 | .convert s _ _=>!Ybj P s
 | _=>false
def Yfv (op:Op):Bool:=match op with | .load ..=>true | _=>false
def Zxf (P:Program) (env:Env) (o:Oper) (k:Zad→Prop):Prop:=
 match o.op with
 | .build t ps=>Ydj P t (parts env ps) k
 | _=>Zlx P env o k
theorem Ybv (env:Env) (o:Oper):Det (Zxf P env o):=by
 intro k h
 unfold Zxf at *
 split at h
 ·refine (Zpo _).bind (G:=fun z k=>_) (fun z=>?_) k h
  intro k h
  split at h
  ·exact ((Zpo _).map _).chk k h
  ·exact ((Zpo _).map _).chk k h
  ·exact h.elim
 ·exact Ycu env o k h
theorem Zrk {env:Env} {h:Zaa} {o:Oper} (hr:Ztq P o.op=true) {K:Zad→Zaa→Prop}:opA P env h o K ↔ Zxf P env o fun v=>K v h:=by
 obtain ⟨dst,op,type,pos,after,guard⟩:=o
 cases op <;> simp only [Ztq,Bool.false_eq_true] at hr <;> try (simp only [opA,Zxf]; done)
 case call c=>
  simp only [opA,Zxf,Ydr]
  split at hr
  ·rename_i hc; simp [hc]
  ·cases hr
 case convert s d x=>
  simp only [Bool.not_eq_true'] at hr
  simp only [opA,Zxf,hr]
 case binOp op t x y yt=>
  simp only [opA,Zxf,Zlx]
  cases hx:ev env x <;> try exact Iff.rfl
  cases hy:ev env y <;> try (cases op <;> exact Iff.rfl)
  rename_i a b
  simp only [Zei]
  have hRT:Zkh P t=true→Znb P t=true:=fun h=>by
   obtain ⟨e,j,hu,_⟩:=Zle h
   unfold Znb; rw [hu]
  have hno:∀ (p:Prop) [Decidable p] (q:Prop),¬ p→(Sim.chk p q ↔ False):=fun p _ q h=>⟨fun hc=>h (Zav hc).1,fun h=>h.elim⟩
  have hyes:∀ (p:Prop) [Decidable p] (q:Prop),p→(Sim.chk p q ↔ q):=fun p _ q h=>⟨fun hc=>(Zav hc).2,fun hq=>by unfold Sim.chk; rw [decide_eq_true h]; exact hq⟩
  cases hT:Znb P t with
  | false=>
   have hR:¬ Zkh P t=true:=fun h=>by rw [hRT h] at hT; cases hT
   have hT':¬ Znb P t=true:=by rw [hT]; simp
   cases op <;> simp only [Ygy,Yfa,eqA] <;> first | exact Iff.rfl | (rw [hno _ _ hR,hno _ _ hT'])
  | true=>
   rw [hT] at hr
   simp only [Bool.and_eq_true] at hr
   have hb:b=none:=by
    have:=hr.1
    unfold Yhg at this
    split at this
    ·simp [ev,cst,Zkt] at hy; exact hy.symm
    ·cases this
   subst hb
   cases op <;> simp only [Ygy,Yfa,eqA] <;> first | exact Iff.rfl | (rw [hyes _ _ hr.2,hyes _ _ hT]; exact Iff.rfl)

theorem Zrc {env env':Env} {ps:Array (Nat × Operand)} (hx:∀ x∈ps.map (·.2),ev env x=ev env' x):parts env ps=parts env' ps:=by
 unfold parts
 refine List.map_congr_left fun p hp=>?_
 rw [hx p.2 (Array.mem_map.2 ⟨p,by simpa using hp,rfl⟩)]
theorem Zsh {env env':Env} {xs:Array Operand} (hx:∀ x∈xs,ev env x=ev env' x):xs.toList.map (ev env)=xs.toList.map (ev env'):=
 List.map_congr_left fun x hp=>hx x (by simpa using hp)
theorem Zqe {env env':Env} {h:Zaa} {o:Oper} (hx:∀ x∈o.op.operands,ev env x=ev env' x) {K:Zad→Zaa→Prop}:opA P env h o K ↔ opA P env' h o K:=by
 obtain ⟨dst,op,type,pos,after,guard⟩:=o
 cases op <;> simp only [Op.operands] at hx <;> simp only [opA,Zlx]
 case build t ps=>rw [Zrc fun x h=>hx x (by simpa using h)]
 case buildSlice t n ps=>rw [Zrc fun x h=>hx x (by simpa using h)]
 case makeFunc fn first caps=>
  have hc:=Zsh (xs:=caps) fun x h=>hx x (by simp [h])
  cases fn <;> simp only [hc]
 case call c=>
  simp only [Call.operands] at hx
  have ha:c.args.toList.map (ev env)=c.args.toList.map (ev env'):=Zsh fun x h=>hx x (by simp [h])
  simp only [Ydr,Zlx,ha]
  cases hc:c.callee with
  | value f=>
   have hf:ev env f=ev env' f:=hx f (by simp [hc])
   cases f <;> simp only [hf]
  | invoke r m=>exact Iff.rfl
  | builtin b=>cases b <;> exact Iff.rfl
 case slice t x lo hi mx=>
  cases lo <;> cases hi <;> cases mx <;> simp_all
 case makeMap t r=>cases r <;> simp_all
 all_goals (first | rfl | (simp_all; done))
end
end Go.Sim

set_option linter.unusedSimpArgs false
namespace Go.Sim
open Go Go.RowKit

structure Zst where
 i:Nat
 p:Zad
 n:Option Nat
def Zst.ok (d:Zst) (h h':Zaa):Prop:=match d.n with | none=>Zaj h' d.p=Zaj h d.p | some n=>Zda h' d.p n=Zda h d.p n
theorem Zst.ok_refl (d:Zst) (h:Zaa):d.ok h h:=by unfold Zst.ok; split <;> rfl
def Zkq (ops:Array Oper) (j i:Nat):Bool:=match ops[j]? with | some o=>o.after.any (fun e=>Region.binds .any e && e.on == i) | none=>false
def Zuz (ops:Array Oper) (j:Nat):List Zst→Zaa→Zaa→Prop→Prop
 | [],_,_,K=>K
 | d :: r,h,h',K=>(match Zkq ops j d.i with | true=>Zuz ops j r h h' K | false=>d.ok h h'∧Zuz ops j r h h' K)
theorem Zjq {ops:Array Oper} {j:Nat}:∀ {hs:List Zst} {h h':Zaa} {K:Prop},Zuz ops j hs h h' K→(∀ d∈hs,Zkq ops j d.i=true ∨ d.ok h h')∧K
 | [],_,_,_,hk=>⟨by simp,hk⟩
 | d :: r,h,h',K,hk=>by
  unfold Zuz at hk
  split at hk
  ·rename_i hw
   obtain ⟨a,b⟩:=Zjq hk
   exact ⟨fun x hx=>by rcases List.mem_cons.1 hx with rfl | hx; exact .inl hw; exact a x hx,b⟩
  ·obtain ⟨ho,hk⟩:=hk
   obtain ⟨a,b⟩:=Zjq hk
   exact ⟨fun x hx=>by rcases List.mem_cons.1 hx with rfl | hx; exact .inr ho; exact a x hx,b⟩

def Zox (P:Program) (N:Nat) (ops:Array Oper) (i:Nat) (env:Env) (h:Zaa) (K:Env→Zaa→Prop):Prop:=
 match ops[i]? with | some o=>Zij P N ops env h o K | none=>K env h
def Zkg (P:Program) (ops:Array Oper) (i:Nat) (env:Env):Zst:=
 match ops[i]? with
 | some o=>(match o.op with
  | .load t a=>(match isAgg P t with | true=>⟨i,ev env a,some (P.cellsOf t)⟩ | false=>⟨i,ev env a,none⟩)
  | _=>⟨i,.undef,none⟩)
 | none=>⟨i,.undef,none⟩
def Ykb (ops:Array Oper) (f:Op→Bool) (i:Nat):Bool:=match ops[i]? with | some o=>f o.op | none=>false
def Yli (f:Nat→Prop):List Nat→Prop
 | []=>True
 | [i]=>f i
 | i :: r=>f i∧Yli f r
theorem Zuo {f:Nat→Prop}:∀ {l:List Nat},Yli f l→∀ i∈l,f i
 | [],_,i,hi=>by simp at hi
 | [j],h,i,hi=>by simp at hi; subst hi; exact h
 | j :: k :: r,h,i,hi=>by
  rcases List.mem_cons.1 hi with rfl | hi
  ·exact h.1
  ·exact Zuo h.2 i hi
def Zxt (P:Program) (N:Nat) (ops:Array Oper) (ks:List Nat) (K:Env→Zaa→Prop):Nat→Array Bool→List Zst→Env→Zaa→Prop
 | 0,listed,_,env,h=>(match Region.ready .any ops listed with | []=>K (env.keep ks) h | _=>False)
 | f + 1,listed,hs,env,h=>
  (match Region.ready .any ops listed with
  | []=>K (env.keep ks) h
  | rs=>(match rs.find? (fun i=>Ykb ops (Ztq P) i && Region.free .any ops listed i) with
   | some i=>Zox P N ops i env h fun env' h'=>Zxt P N ops ks K f (listed.setIfInBounds i true) hs env' h'
   | none=>(match (match rs with | [_]=>none | _=>rs.find? (fun i=>Ykb ops Yfv i && Region.free .any ops listed i)) with
    | some i=>Zox P N ops i env h fun env' h'=>Zxt P N ops ks K f (listed.setIfInBounds i true) (Zkg P ops i env :: hs) env' h'
    | none=>Yli (fun i=>Zox P N ops i env h fun env' h'=>Zuz ops i hs h h' (Zxt P N ops ks K f (listed.setIfInBounds i true) hs env' h')) rs)))

def Ygx (P:Program) (N:Nat) (ops:Array Oper) (K:Env→Zaa→Prop) (hs:List Zst):Nat→Array Bool→Env→Zaa→Prop
 | 0,listed,env,h=>Region.ready .any ops listed=[]∧K env h
 | f + 1,listed,env,h=>(Region.ready .any ops listed=[]→K env h) ∧
  ∀ i∈Region.ready .any ops listed,Zox P N ops i env h fun env' h'=>(∀ d∈hs,Zkq ops i d.i=true ∨ d.ok h h')∧Ygx P N ops K hs f (listed.setIfInBounds i true) env' h'

def Zwt (env env':Env):Prop:=∀ t,env.get t=env'.get t
def Zoi (o:Oper) (env:Env) (v:Zad) (env1:Env):Prop:=∀ t,env1.get t=if o.dst=some t then v else env.get t

section
variable {P:Program} {N:Nat} {ops:Array Oper}

theorem Zxb {env env':Env} {d:Option Tmp} {v:Zad} {K K':Env→Prop} (hk:Zmf N env d v K)
  (hK:∀ env1 env1',(∀ t,env1.get t=if d=some t then v else env.get t)→(∀ t,env1'.get t=if d=some t then v else env'.get t)→K env1→K' env1'):Zmf N env' d v K':=by
 unfold Zmf at *
 cases d with
 | none=>exact hK env env' (by simp) (by simp) hk
 | some d=>
  refine Zbj hk fun hk=>hK _ _ ?_ ?_ hk
  ·intro t; rw [Env.get_set]; by_cases e:t=d <;> simp [e,eq_comm]; exact fun q=>absurd q.symm e
  ·intro t; rw [Env.get_set]; by_cases e:t=d <;> simp [e,eq_comm]; exact fun q=>absurd q.symm e

theorem Zjv {env env':Env} {o:Oper} (hl:∀ t∈o.looksAt ops,env.get t=env'.get t):∀ x∈o.op.operands,ev env x=ev env' x:=fun x hx=>by
 cases x with
 | tmp t=>exact hl t (List.mem_append_left _ (List.mem_filterMap.2 ⟨.tmp t,by simpa using hx,rfl⟩))
 | _=>rfl
theorem Zeo {env:Env} {t:Nat} {v:Zad} (h:env.get t=v) (s:Nat):(env.set t v).get s=env.get s:=by
 rw [Env.get_set]; split
 ·rename_i e; subst e; exact h.symm
 ·rfl
theorem Yio {env env':Env} {h h2:Zaa} {o:Oper} {K K':Env→Zaa→Prop} (hs:Zij P N ops env h o K) (hl:∀ t∈o.looksAt ops,env.get t=env'.get t)
  (hop:∀ (e1 e2:Env),(∀ x∈o.op.operands,ev e1 x=ev e2 x)→(∀ t,e1.get t=env.get t)→∀ (A B:Zad→Zaa→Prop),opA P e1 h o A→(∀ v h',A v h'→B v h')→opA P e2 h2 o B)
  (hun:∀ e1 e2,Zwt e1 env→Zwt e2 env'→Zmf N e1 o.dst (.tup []) (fun x=>K x h)→Zmf N e2 o.dst (.tup []) (fun x=>K' x h2))
  (hK:∀ v h' env1 env1',Zoi o env v env1→Zoi o env' v env1'→K env1 h'→K' env1' h'):Zij P N ops env' h2 o K':=by
 unfold Zij at *
 cases hg:o.guard with
 | none=>
  simp only [hg] at hs ⊢
  exact hop env env' (Zjv hl) (fun _=>rfl) _ _ hs fun v h' hp=>Zxb hp fun e1 e2 a b k=>hK v h' e1 e2 a b k
 | some g=>
  obtain ⟨j,want⟩:=g
  simp only [hg] at hs ⊢
  cases ht:(ops[j]?).bind (·.dst) with
  | none=>simp only [ht] at hs
  | some t=>
   simp only [ht] at hs ⊢
   have htl:env.get t=env'.get t:=hl t (List.mem_append_right _ (by simp [hg,ht]))
   rw [← htl]
   split at hs
   ·rename_i b hb
    have key:∀ c,b=c→(opA P (env.set t (.bool c)) h o (fun v h'=>Zmf N (env.set t (.bool c)) o.dst v fun env'=>K env' h')→opA P (env'.set t (.bool c)) h2 o (fun v h'=>Zmf N (env'.set t (.bool c)) o.dst v fun env'=>K' env' h')) ∧
      (Zmf N (env.set t (.bool c)) o.dst (.tup []) (fun env'=>K env' h)→Zmf N (env'.set t (.bool c)) o.dst (.tup []) (fun env'=>K' env' h2)):=by
     intro c e
     subst e
     have k1:=Zeo hb
     have k2:=Zeo (htl ▸ hb:env'.get t=.bool b)
     constructor
     ·intro ho
      refine hop _ _ (Zjv fun s hs=>by rw [k1,k2]; exact hl s hs) k1 _ _ ho fun v h' hp=>Zxb hp fun e1 e2 a b k=>hK v h' e1 e2 ?_ ?_ k
      ·intro s; rw [a s,k1]
      ·intro s; rw [b s,k2]
     ·exact hun _ _ k1 k2
    cases b
    ·obtain ⟨k1,k2⟩:=key false rfl
     cases want
     ·exact k1 hs
     ·exact k2 hs
    ·obtain ⟨k1,k2⟩:=key true rfl
     cases want
     ·exact k2 hs
     ·exact k1 hs
   ·exact hun env env' (fun _=>rfl) (fun _=>rfl) hs
   ·exact hs.elim

theorem Zqz {env env':Env} {h:Zaa} {o:Oper} {K K':Env→Zaa→Prop} (hs:Zij P N ops env h o K) (hl:∀ t∈o.looksAt ops,env.get t=env'.get t)
  (hK:∀ v h' env1 env1',Zoi o env v env1→Zoi o env' v env1'→K env1 h'→K' env1' h'):Zij P N ops env' h o K':=
 Yio hs hl (fun e1 e2 hx _ A B ha hm=>Yfo ((Zqe hx).1 ha) hm)
  (fun e1 e2 q1 q2 hp=>Zxb hp fun f1 f2 a b k=>hK _ _ f1 f2 (fun t=>by rw [a t,q1 t]) (fun t=>by rw [b t,q2 t]) k) hK

def Yd (P:Program) (N:Nat) (ops:Array Oper) (o:Oper) (v:Zad) (env:Env) (h:Zaa):Prop:=
 ∀ K:Env→Zaa→Prop,(∀ env1,Zoi o env v env1→K env1 h)→Zij P N ops env h o K

theorem Znh {K:Env→Zaa→Prop} {hs hs':List Zst} (hsub:∀ d∈hs,d∈hs'):∀ (f:Nat) {listed:Array Bool} {env env':Env} {h:Zaa},(∀ e e' h,Zwt e e'→K e h→K e' h)→Zwt env env' →
  Ygx P N ops K hs' f listed env h→Ygx P N ops K hs f listed env' h
 | 0,_,_,_,_,hK,he,hh=>⟨hh.1,hK _ _ _ he hh.2⟩
 | f + 1,listed,env,env',h,hK,he,hh=>by
  refine ⟨fun hr=>hK _ _ _ he (hh.1 hr),fun i hi=>?_⟩
  have:=hh.2 i hi
  unfold Zox at *
  cases ho:ops[i]? with
  | none=>
   rw [ho] at this
   exact ⟨fun d hd=>this.1 d (hsub d hd),Znh hsub f hK he this.2⟩
  | some o=>
   rw [ho] at this
   refine Zqz this (fun t _=>he t) fun v h' e1 e2 a b k=>⟨fun d hd=>k.1 d (hsub d hd),Znh hsub f hK (fun t=>?_) k.2⟩
   rw [a t,b t,he t]

theorem Zsi {K:Env→Zaa→Prop} {hs hs':List Zst} (hK:∀ e e' h,Zwt e e'→K e h→K e' h) (hsub:∀ d∈hs,d∈hs') {i:Nat} {oi:Oper} {v:Zad} (hi:ops[i]?=some oi) {T:Zaa→Zaa→Prop}
  (hT:∀ j h h1,Zkq ops j i=false→(∀ d∈hs',Zkq ops j d.i=true ∨ d.ok h h1)→T h h1)
  {Y:Env→Zaa→Prop} (hY:∀ env h,Y env h→Yd P N ops oi v env h)
  (hst:∀ env h env1 h1,Y env h→(∀ t∈oi.looksAt ops,env.get t=env1.get t)→T h h1→Y env1 h1) :
  ∀ (fuel:Nat) (listed:Array Bool) (env env1:Env) (h:Zaa),
   (∀ j oj,ops[j]?=some oj→j≠i→listed.getD j true=false→(∀ e∈oj.after,Region.binds .any e=true→e.on≠i)→oi.apart ops oj=true) →
   i∈Region.ready .any ops listed→Y env h→Zoi oi env v env1 →
   Ygx P N ops K hs' fuel (listed.setIfInBounds i true) env1 h→Ygx P N ops K hs (fuel + 1) listed env h:=by
 intro fuel
 have now:∀ (fuel:Nat) (listed:Array Bool) (env env1:Env) (h:Zaa),Y env h→Zoi oi env v env1→Ygx P N ops K hs' fuel (listed.setIfInBounds i true) env1 h →
   Zox P N ops i env h fun env' h'=>(∀ d∈hs,Zkq ops i d.i=true ∨ d.ok h h')∧Ygx P N ops K hs fuel (listed.setIfInBounds i true) env' h':=by
  intro fuel listed env env1 h hy ha H
  unfold Zox
  rw [hi]
  exact hY _ _ hy _ fun env2 h2=>⟨fun d _=>.inr (d.ok_refl h),Znh hsub fuel hK (fun t=>by rw [ha t,h2 t]) H⟩
 induction fuel with
 | zero=>
  intro listed env env1 h _ hr hy ha H
  refine ⟨fun e=>(by rw [e] at hr; cases hr),fun j hj=>?_⟩
  by_cases hji:j=i
  ·subst hji; exact now 0 listed env env1 h hy ha H
  ·have:=ready_mono hj hji
   rw [H.1] at this
   cases this
 | succ fuel ih=>
  intro listed env env1 h hfree hr hy ha H
  refine ⟨fun e=>(by rw [e] at hr; cases hr),fun j hj=>?_⟩
  by_cases hji:j=i
  ·subst hji; exact now (fuel + 1) listed env env1 h hy ha H
  ·have h1:=H.2 j (ready_mono hj hji)
   obtain ⟨hjun,oj,hoj,hall⟩:=mem_ready.1 hj
   have hnot:∀ e∈oj.after,Region.binds .any e=true→e.on≠i:=fun e he hb heq=>by
    have h1:=hall e he hb
    have h0:=(mem_ready.1 hr).1
    rw [heq] at h1
    rcases Nat.lt_or_ge i listed.size with h' | h'
    ·simp [h'] at h0 h1; rw [h0] at h1; cases h1
    ·simp [Array.getElem?_eq_none h'] at h1
   have hw:Zkq ops j i=false:=by
    unfold Zkq
    rw [hoj]
    simp only [Array.any_eq_false]
    intro q hq
    simp only [Bool.and_eq_true,beq_iff_eq,not_and]
    intro hb
    exact hnot _ (Array.getElem_mem hq) hb
   obtain ⟨a1,a2,a3⟩:=Oper.apart_spec (hfree j oj hoj hji hjun hnot)
   unfold Zox at h1 ⊢
   rw [hoj] at h1 ⊢
   refine Zqz h1 (fun t ht=>?_) fun u h' e1 e2 q1 q2 k=>?_
   ·rw [ha t,if_neg (fun e=>a1 t e ht)]
   ·refine ⟨fun d hd=>k.1 d (hsub d hd),ih (listed.setIfInBounds j true) e2 e1 h' ?_ (ready_mono hr (Ne.symm hji)) ?_ ?_ ?_⟩
    ·intro k ok hk hki hun hno
     refine hfree k ok hk hki ?_ hno
     by_cases hjk:j=k
     ·subst hjk; exact hjun
     ·rw [getD_set_ne true hjk] at hun; exact hun
    ·refine hst env h e2 h' hy (fun t ht=>?_) (hT j h h' hw k.1)
     rw [q2 t,if_neg (fun e=>a3 t e ht)]
    ·intro t
     rw [q1 t,q2 t,ha t]
     by_cases x:oj.dst=some t <;> by_cases y:oi.dst=some t <;> simp [x,y]
     exact absurd x (a2 t y)
    ·rw [Array.setIfInBounds_comm _ _ hji]
     exact k.2
end
end Go.Sim
