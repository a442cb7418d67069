/- A part of the proof of a statement of this seat: see the text that holds the theorem. No condition. -/
import Derived.Test.YtdglddliggejdaaSimG
import Derived.Deep.Draws
import Derived.Laws.BytesString
import Derived.Laws.MakeOwn
import Derived.Laws.Small
import Derived.MapKept
import Derived.Carry
import Derived.Laws.RangeString
import Derived.Maps.RangeRun
import GoSem.Builtin.Clear
set_option linter.unusedVariables false
set_option linter.unusedSimpArgs false
set_option linter.all false
set_option linter.unusedSimpArgs false
namespace Go.Sim
open Go Go.RowKit

def Zwj (P:Program) (t:TypeId):Option (List Zag):=
 match P.info? t with
 | some i=>(match i.zero with | some v=>some (v.cells.toList.map Znv) | none=>none)
 | none=>none
def Ypc (h:Zaa) (t:TypeId) (cs:List Zag) (K:Zag→Zaa→Prop):Prop:=K (.ptr (some (h.length,0))) (h ++ [.cells t cs false])
def Ykl (P:Program) (t:TypeId) (h:Zaa) (K:Zag→Zaa→Prop):Prop:=Zcy (Zwj P t) fun cs=>Ypc h t cs K
def Ypt (t:TypeId) (h:Zaa) (v:Zag) (K:Zag→Zaa→Prop):Prop:=Zcy (sv v) fun cs=>Ypc h t cs K
def Yax (place:Nat→Option (Nat × Nat)) (cells:List Zag):List (Nat × Zag)→Option (List Zag)
 | []=>some cells
 | (i,v) :: rest=>
  match place i with
  | none=>none
  | some (off,size)=>
   match sv v with
   | none=>none
   | some vs=>if vs.length=size∧off + vs.length≤cells.length then Yax place (Zbm cells off vs) rest else none
def parts (env:Env) (ps:Array (Nat × Operand)):List (Nat × Zag):=ps.toList.map fun p=>(p.1,ev env p.2)
def Yho (P:Program) (t:TypeId) (ps:List (Nat × Zag)) (K:Zag→Prop):Prop:=
 Zcy (Zwj P t) fun z=>
  match P.underlying t with
  | some (.struct fs)=>chk ((fs.toList.all fun f=>(P.underlying f.type).isSome)=true) (Zcy (Yax (fun i=>(fs[i]?).map fun f=>(f.offset,P.cellsOf f.type)) z ps) fun cs=>K (.agg cs))
  | some (.array _ e)=>chk ((P.underlying e).isSome=true) (Zcy (Yax (fun i=>some (i * P.cellsOf e,P.cellsOf e)) z ps) fun cs=>K (.agg cs))
  | _=>False
def reps (n:Nat) (z:List Zag):List Zag:=(List.replicate n z).flatten
def Zmp (P:Program) (t:TypeId) (n:Nat) (ps:List (Nat × Zag)) (h:Zaa) (K:Zag→Zaa→Prop):Prop:=
 match P.underlying t with
 | some (.slice e)=>Zcy (Zwj P e) fun z=>chk ((P.underlying e).isSome=true∧z.length=P.cellsOf e∧0 < P.cellsOf e∧n * P.cellsOf e≤16777216)
   (Zcy (Yax (fun i=>some (i * P.cellsOf e,P.cellsOf e)) (reps n z) ps) fun cs=>K (.slice (some (h.length,0)) n n true) (h ++ [.cells e cs false]))
 | _=>False
def Zjz (P:Program) (t:TypeId) (l c:Zag) (h:Zaa) (K:Zag→Zaa→Prop):Prop:=
 match P.underlying t with
 | some (.slice e)=>Zcy (Zwj P e) fun z=>chk ((P.underlying e).isSome=true∧z.length=P.cellsOf e∧0 < P.cellsOf e)
   (Zco .i64 (some l) fun l=>Zco .i64 (some c) fun c=>(0≤l∧l≤c∧c * (P.bytesOf e + 1)≤140737488355328) ∧
    K (.slice (some (h.length,0)) l.toNat c.toNat true) (h ++ [.cells e (reps c.toNat z) false]))
 | _=>False
def rowOf (h:Zaa) (a:Option (Nat × Nat)) (n:Nat):Option (List Zag):=
 match a with
 | none=>if n=0 then some [] else none
 | some p=>if n=0 then some [] else Zbo h (.ptr (some p)) n
def Zon (h:Zaa) (i:Nat) (e:TypeId) (K:List Zag→Prop):Prop:=
 match h[i]? with
 | some (.cells e' cs false)=>e'=e∧K cs
 | _=>False
def _root_.Go.Program.okElem (P:Program) (e:TypeId):Bool:=decide ((P.underlying e).isSome=true∧(Zwj P e).map List.length=some (P.cellsOf e)∧0 < P.cellsOf e)
def Zdv (P:Program) (t:TypeId) (h:Zaa) (s x:Zag) (K:Zag→Zaa→Prop):Prop:=
 match P.underlying t with
 | some (.slice e)=>(match s with
  | .slice sa len cap ex=>(match x with
   | .slice xa m _ _=>Zcy (rowOf h xa (m * P.cellsOf e)) fun new=>
    (P.okElem e=true∧(len + m) * (P.bytesOf e + 1)≤140737488355328∧new.all Zag.leaf=true) ∧
    (match sa with
     | none=>(m=0→K s h)∧(m≠0→cap=0∧K (.slice (some (h.length,0)) m m false) (h ++ [.cells e new false]))
     | some (i,o)=>
      (o=0∧Zon h i e fun cs=>cs.length=len * P.cellsOf e∧K (.slice (some (h.length,0)) (len + m) (len + m) false) (h.set i .dead ++ [.cells e (cs ++ new) false])) ∨
      (len + m≤cap∧Zon h i e fun cs=>o + len * P.cellsOf e + new.length≤cs.length∧K (.slice (some (i,o)) (len + m) cap ex) (h.set i (.cells e (Zbm cs (o + len * P.cellsOf e) new) false))) ∨
      ((ex=true∧cap < len + m)∧Zcy (rowOf h sa (len * P.cellsOf e)) fun old=>K (.slice (some (h.length,0)) (len + m) (len + m) false) (h ++ [.cells e (old ++ new) false])))
   | _=>False)
  | _=>False)
 | _=>False

section
variable {P:Program} {base:Nat} {w0:World} {μ:List Pl} {h:Zaa} {w:World}

theorem Zqw {t:TypeId} {cs:List Zag} (hz:Zwj P t=some cs):∃ i v,P.info? t=some i∧i.zero=some v∧VRs μ cs v.cells.toList∧∀ w,(zeroValue t).run P w=.ok v w:=by
 unfold Zwj at hz
 split at hz
 ·rename_i i hi
  split at hz
  ·rename_i v hv
   cases hz
   exact ⟨i,v,hi,hv,VRs.map_leaf _,fun w=>by simp [zeroValue,typeInfo,hi,hv]⟩
  ·cases hz
 ·cases hz
theorem Zfn {o:Option (List Zag)} {K:List Zag→Prop} (h:Zcy o K):∃ cs,o=some cs∧K cs:=by
 unfold Zcy at h
 split at h
 ·exact ⟨_,rfl,h⟩
 ·exact h.elim

theorem Rel.newRow (r:Rel P base w0 μ h w) {t:TypeId} {cs:List Zag} {C:Array Value} {n:Nat} (hv:VRs μ cs (C.toList.take cs.length)) :
  Rel P base w0 (μ ++ [⟨w.heap.size,0,true,C.size,P.cellsOf t⟩]) (h ++ [.cells t cs false]) ((w.drewN n).alloc (.cells C t)):=by
 have hb:Below w.heap.size w ((w.drewN n).alloc (.cells C t)):=by
  have h0:Below w.heap.size w (w.drewN n):=⟨rfl,rfl,rfl,Nat.le_refl _,fun _ _=>rfl⟩
  exact h0.alloc (Nat.le_refl _) _
 refine r.new hb _ _ (Nat.le_refl _) ?_
 refine ⟨C,t,(0,0),?_,?_,?_⟩
 ·show ((w.drewN n).heap.push _)[w.heap.size]?=_
  have:(w.drewN n).heap=w.heap:=rfl
  rw [this,Array.getElem?_push]; simp
 ·simpa using hv.ext (Ext.app _ _)
 ·simp only [Bool.false_eq_true,if_false]
  exact ⟨trivial,trivial,trivial,trivial,trivial,trivial,r.size⟩
theorem Rel.newRow0 (r:Rel P base w0 μ h w) {t:TypeId} {cs:List Zag} {C:Array Value} (hv:VRs μ cs (C.toList.take cs.length)) :
  Rel P base w0 (μ ++ [⟨w.heap.size,0,true,C.size,P.cellsOf t⟩]) (h ++ [.cells t cs false]) (w.alloc (.cells C t)):=by
 exact r.newRow (t:=t) (C:=C) (n:=0) hv
theorem Rel.last (r:Rel P base w0 μ h w) (e:Pl):(μ ++ [e])[h.length]?=some e:=by
 rw [← r.len]; simp

theorem Ykj (r:Rel P base w0 μ h w) {t:TypeId} {cs:List Zag} {v:Value} (hv:VRs μ cs v.cells.toList) {K:Zag→Zaa→Prop} (hk:Ypc h t cs K) :
  Res P base w0 μ ((do pure (.pointer (some (← newVar t v))):Sem Value).run P w) K:=by
 have hl:=hv.length
 have r':=r.newRow0 (t:=t) (C:=v.cells) (cs:=cs) (by rw [hl,List.take_length]; exact hv)
 refine ⟨.pointer (some ⟨w.heap.size,0,none⟩),_,_,_,_,?_,Ext.app _ _,r',?_,hk⟩
 ·simp [newVar,newRow]
 ·exact .ptr (e:=⟨w.heap.size,0,true,v.cells.size,P.cellsOf t⟩) (o:=0) (r.last _)
theorem Yjc (r:Rel P base w0 μ h w) {t:TypeId} {K:Zag→Zaa→Prop} (hk:Ykl P t h K) :
  Res P base w0 μ ((Instr.alloc t true (.tuple #[])).run P w) K:=by
 obtain ⟨cs,hz,hk⟩:=Zfn hk
 obtain ⟨i,v,hi,hv,hvs,hr⟩:=Zqw (μ:=μ) hz
 have:=Ykj r hvs hk
 simpa [Instr.alloc,hr w] using this
theorem Yod (r:Rel P base w0 μ h w) {t:TypeId} {a:Zag} {x:Value} (ha:VR μ a x) {K:Zag→Zaa→Prop} (hk:Ypt t h a K) :
  Res P base w0 μ ((Instr.box t x).run P w) K:=by
 obtain ⟨cs,hs,hk⟩:=Zfn hk
 exact Ykj r (Ylu ha hs).1 hk

theorem Zxi (off:Nat):∀ (ys:List Value) (k:Nat) (C:Array Value),off + k + ys.length≤C.size →
  ((ys.zipIdx k).foldl (fun cs (p:Value × Nat)=>cs.setIfInBounds (off + p.2) p.1) C).toList=C.toList.take (off + k) ++ ys ++ C.toList.drop (off + k + ys.length)
 | [],k,C,_=>by simp
 | y :: ys,k,C,hl=>by
  simp only [List.length_cons] at hl
  simp only [List.zipIdx_cons,List.foldl_cons]
  rw [Zxi off ys (k + 1) _ (by simp; omega)]
  have e:=list_seg_step C.toList (off + k) y ys (by simp; omega)
  simpa [Array.toList_setIfInBounds,Nat.add_assoc] using e
theorem Zwq (place:Nat→Option (Nat × Nat)):∀ (ps:List (Nat × Zag)) (qs:List (Nat × Value)) (cs:List Zag) (C:Array Value) (out:List Zag),
  VRs μ cs C.toList→ps.map (·.1)=qs.map (·.1)→VRs μ (ps.map (·.2)) (qs.map (·.2))→Yax place cs ps=some out →
  ∃ D,Instr.fill place C qs=some D∧VRs μ out D.toList∧D.size=C.size
 | [],[],cs,C,out,hc,_,_,hf=>by simp [Yax] at hf; subst hf; exact ⟨C,rfl,hc,rfl⟩
 | [],q :: qs,_,_,_,_,h1,_,_=>by simp at h1
 | p :: ps,[],_,_,_,_,h1,_,_=>by simp at h1
 | (i,v) :: ps,(j,y) :: qs,cs,C,out,hc,h1,h2,hf=>by
  simp only [List.map_cons,List.cons.injEq] at h1
  obtain ⟨rfl,h1⟩:=h1
  simp only [List.map_cons] at h2
  cases h2 with
  | cons hv h2=>
  simp only [Yax] at hf
  split at hf
  ·cases hf
  ·rename_i off size hp
   split at hf
   ·cases hf
   ·rename_i vs hs
    split at hf
    ·rename_i hb
     have hvs:=(Ylu hv hs).1
     have hl:=hvs.length
     have hcl:=hc.length
     simp only [Array.length_toList] at hl hcl
     have hput:=Zxi off y.cells.toList 0 C (by simp; omega)
     have ih:=Zwq place ps qs (Zbm cs off vs) (y.cells.zipIdx.foldl (fun cs (p:Value × Nat)=>cs.setIfInBounds (off + p.2) p.1) C) out (by
      rw [← Array.foldl_toList,Array.toList_zipIdx,hput]
      exact hc.put hvs off) h1 h2 hf
     obtain ⟨D,hD,hr,hds⟩:=ih
     have hsz:(y.cells.zipIdx.foldl (fun cs (p:Value × Nat)=>cs.setIfInBounds (off + p.2) p.1) C).size=C.size:=by
      rw [← Array.length_toList,← Array.foldl_toList,Array.toList_zipIdx,hput]
      simp; omega
     refine ⟨D,?_,hr,hds.trans hsz⟩
     simp only [Instr.fill,hp]
     rw [hl] at hb
     rw [if_neg (by simp; omega)]
     exact hD
    ·cases hf
theorem Ycd {env:Env} {ρ:Operand→Value} (hρ:Zui μ env ρ) (ps:Array (Nat × Operand)) :
  (parts env ps).map (·.1)=((ps.map fun (i,x)=>(i,ρ x)).toList).map (·.1)∧VRs μ ((parts env ps).map (·.2)) (((ps.map fun (i,x)=>(i,ρ x)).toList).map (·.2)):=by
 unfold parts
 rw [Array.toList_map]
 refine ⟨by simp [Function.comp_def],?_⟩
 simp only [List.map_map,Function.comp_def]
 have:∀ l:List (Nat × Operand),VRs μ (l.map fun p=>ev env p.2) (l.map fun p=>ρ p.2):=fun l=>by
  induction l with
  | nil=>exact .nil
  | cons p r ih=>exact .cons (hρ _) ih
 exact this _
theorem Yjb {t:TypeId} {ps:List (Nat × Zag)} {qs:Array (Nat × Value)} (h1:ps.map (·.1)=qs.toList.map (·.1)) (h2:VRs μ (ps.map (·.2)) (qs.toList.map (·.2))) {K:Zag→Prop} (hk:Yho P t ps K) :
  Zwd P μ (Instr.build t qs) K:=by
 obtain ⟨z,hz,hk⟩:=Zfn hk
 obtain ⟨i,v,hi,hv,hvs,hzr⟩:=Zqw (μ:=μ) hz
 split at hk
 ·rename_i fs hu
  replace hk:=Zbi hk; obtain ⟨hall,hk⟩:=hk
  obtain ⟨cs,hf,hk⟩:=Zfn hk
  obtain ⟨D,hD,hr,hds⟩:=Zwq _ ps qs.toList z v.cells cs hvs h1 h2 hf
  have hm:∀ w:World,(fs.mapM fun f=>(do pure (f.offset,← sizeOf f.type):Sem (Nat × Nat))).run P w=.ok (fs.map fun f=>(f.offset,P.cellsOf f.type)) w:=fun w=>by
   rw [Array.mapM_eq_mapM_toList]
   have key:∀ l:List Field,(l.all fun f=>(P.underlying f.type).isSome)=true→(l.mapM fun f=>(do pure (f.offset,← sizeOf f.type):Sem (Nat × Nat))).run P w=.ok (l.map fun f=>(f.offset,P.cellsOf f.type)) w:=by
    intro l
    induction l with
    | nil=>intro _; simp
    | cons f l ih=>
     intro hl
     simp only [List.all_cons,Bool.and_eq_true] at hl
     rw [List.mapM_cons,Sem.run_bind,Sem.run_bind,Zen hl.1]
     simp only [Result.andThen_ok,Sem.run_pure,Sem.run_bind,ih hl.2,List.map_cons]
   rw [Sem.run_map,key _ hall]
   simp only [Result.andThen_ok]
   congr 1
   apply Array.ext'; simp
  refine .mk (x:=.agg D) (fun w=>?_) (.agg hr) hk
  simp only [Instr.build,Sem.run_bind,hzr w,Result.andThen_ok,run_underlying hu,hm w]
  have:(fun x=>(fs.map fun (f:Field)=>(f.offset,P.cellsOf f.type))[x]?)=fun (i:Nat)=>(fs[i]?).map fun (f:Field)=>(f.offset,P.cellsOf f.type):=by funext x; simp
  simp [this,hD]
 ·rename_i n e hu
  replace hk:=Zbi hk; obtain ⟨hs,hk⟩:=hk
  obtain ⟨cs,hf,hk⟩:=Zfn hk
  obtain ⟨D,hD,hr,hds⟩:=Zwq _ ps qs.toList z v.cells cs hvs h1 h2 hf
  refine .mk (x:=.agg D) (fun w=>?_) (.agg hr) hk
  simp [Instr.build,hzr w,run_underlying hu,Zen hs,hD]
 ·exact hk.elim

theorem Zid {α:Type} (z:List α) (hz:0 < z.length):∀ (n j:Nat),j < n * z.length→(List.replicate n z).flatten[j]?=z[j % z.length]?
 | 0,j,h=>by simp at h
 | n + 1,j,h=>by
  rw [List.replicate_succ,List.flatten_cons]
  by_cases hj:j < z.length
  ·rw [List.getElem?_append_left hj,Nat.mod_eq_of_lt hj]
  ·rw [List.getElem?_append_right (by omega),Zid z hz n (j - z.length) (by rw [Nat.succ_mul] at h; omega)]
   congr 1
   rw [Nat.mod_eq_sub_mod (show j ≥ z.length by omega)]
theorem Zsk (n:Nat) (C:Array Value) (hz:0 < C.size):(((Array.range (n * C.size)).map fun i=>C[i % C.size]!)).toList=(List.replicate n C.toList).flatten:=by
 apply List.ext_getElem?
 intro j
 by_cases hj:j < n * C.size
 ·rw [Zid C.toList (by simpa using hz) n j (by simpa using hj)]
  have hm:j % C.size < C.size:=Nat.mod_lt _ hz
  simp [hj,getElem!_pos C (j % C.size) hm,hm]
 ·rw [List.getElem?_eq_none (by simp; omega),List.getElem?_eq_none (by simp; omega)]
theorem VRs.reps {cs:List Zag} {xs:List Value} (h:VRs μ cs xs):∀ n,VRs μ (Sim.reps n cs) (List.replicate n xs).flatten
 | 0=>.nil
 | n + 1=>by
  have:=h.append (VRs.reps h n)
  simpa [Sim.reps,List.replicate_succ] using this

theorem Zwk (r:Rel P base w0 μ h w) {t:TypeId} {n:Nat} {ps:List (Nat × Zag)} {qs:Array (Nat × Value)} (h1:ps.map (·.1)=qs.toList.map (·.1)) (h2:VRs μ (ps.map (·.2)) (qs.toList.map (·.2)))
  {K:Zag→Zaa→Prop} (hk:Zmp P t n ps h K):Res P base w0 μ ((Instr.buildSlice t n qs).run P w) K:=by
 unfold Zmp at hk
 split at hk
 ·rename_i e hu
  obtain ⟨z,hz,hk⟩:=Zfn hk
  replace hk:=Zbi hk; obtain ⟨⟨hs,hzl,hpos,hsz⟩,hk⟩:=hk
  obtain ⟨i,v,hi,hv,hvs,hzr⟩:=Zqw (μ:=μ) hz
  obtain ⟨cs,hf,hk⟩:=Zfn hk
  have hl:=hvs.length
  simp only [Array.length_toList] at hl
  have hC:VRs μ (Sim.reps n z) (((Array.range (n * v.cells.size)).map fun i=>v.cells[i % v.cells.size]!)).toList:=by
   rw [Zsk n v.cells (by omega)]; exact hvs.reps n
  obtain ⟨D,hD,hr,hds⟩:=Zwq _ ps qs.toList _ _ cs hC h1 h2 hf
  have hDl:=hr.length
  have hDs:D.size=n * P.cellsOf e:=by
   rw [hds]; simp; rw [← hzl,hl]
  have hrel:=r.newRow0 (t:=e) (C:=D) (cs:=cs) (by rw [hDl,List.take_length]; exact hr)
  refine ⟨.slice (some ⟨w.heap.size,0,none⟩) n n,_,_,_,_,?_,Ext.app _ _,hrel,?_,hk⟩
  ·have hc:P.cellsOf e=v.cells.size:=by omega
   have h24:¬ (16777216 < n * v.cells.size):=by rw [← hc]; omega
   rw [hc] at hD
   by_cases h0:n=0
   ·subst h0
    rw [Nat.zero_mul] at hD
    have e0:∀ f:Nat→Value,(Array.range 0).map f=#[]:=fun f=>by apply Array.ext'; simp
    rw [e0] at hD
    simp only [Instr.buildSlice,Sem.run_bind,run_underlying hu,Result.andThen_ok,Zen hs,hc,Nat.zero_mul]
    simp [newRow,e0,hD]
   ·have h3:¬ (n * v.cells.size=0):=by
     intro h; rcases Nat.mul_eq_zero.1 h with h | h <;> omega
    simp [Instr.buildSlice,run_underlying hu,Zen hs,hc,h24,h3,hzr w,newRow,hD]
  ·refine .slice (e:=⟨w.heap.size,0,true,D.size,P.cellsOf e⟩) (o:=0) (r.last _) (Nat.le_refl _) (Nat.le_refl _) (fun _=>rfl) (fun _ _=>by rw [hDs]; exact Nat.le_refl _)
 ·exact hk.elim

theorem Zwb (r:Rel P base w0 μ h w) {sa:Option (Nat × Nat)} {len cap:Nat} {ex:Bool} {x:Value} (hx:VR μ (.slice sa len cap ex) x) {n:Nat} {cs:List Zag} (hc:rowOf h sa n=some cs) :
  cs.length=n∧∃ am capm,x=.slice am len capm∧(n=0 ∨ ∃ a,am=some a∧∃ ys:List Value,VRs μ cs ys∧∀ (j:Nat) (y:Value),ys[j]?=some y→w.cell? (a.add j)=some y):=by
 unfold rowOf at hc
 split at hc
 ·split at hc
  ·rename_i h0
   cases hc
   subst h0
   refine ⟨rfl,?_⟩
   cases hx <;> exact ⟨_,_,rfl,.inl rfl⟩
  ·cases hc
 ·rename_i p
  obtain ⟨i,o⟩:=p
  cases hx with
  | slice h1 h2 h3 h4 h5=>
   split at hc
   ·rename_i h0; cases hc; subst h0; exact ⟨rfl,_,_,rfl,.inl rfl⟩
   ·obtain ⟨hl,a,ha,ys,hys,hcell⟩:=r.row (.ptr (o:=o) h1) hc
    cases ha
    exact ⟨hl,_,_,rfl,.inr ⟨_,rfl,ys,hys,hcell⟩⟩

theorem Zmt (t ty e:TypeId) (hu:P.underlying t=some (.slice e)) (hs:(P.underlying e).isSome=true) (am:Option Addr) (len cap:Nat) (hle:len≤cap) (bm:Option Addr) (c:Nat) (w:World) :
  (Builtin.append_ #[t,t] ty #[.slice am len cap,.slice bm 0 c]).run P w=.ok (.slice am len cap) w:=by
 obtain ⟨d,hd⟩:=Option.isSome_iff_exists.1 hs
 obtain ⟨i,hi⟩:=info_of_underlying hd
 cases am <;> cases bm <;> simp [Builtin.append_,run_underlying hu,sizeOf,typeInfo,hi,Builtin.lenOf,hle,Builtin.firstCells,loadCells,loadCellsFrom,storeCells]

theorem Znk (t ty e:TypeId) (i:TypeInfo) (ht:P.underlying t=some (.slice e)) (hi:P.info? e=some i)
  (g o sLen sCap:Nat) (cur:Array Value) (hg:w.heap[g]?=some (.cells cur e (0,0)))
  (a:Addr) (m c:Nat) (news:List Value) (hl:news.length=m * i.size) (hnews:∀ (j:Nat) (u:Value),news[j]?=some u→w.cell? (a.add j)=some u) (h1:∀ u∈news,u.oneCell'=true)
  (hroom:sLen + m≤sCap) (hfit:o + sLen * i.size + news.length≤cur.size) :
  (Builtin.append_ #[t,t] ty #[.slice (some ⟨g,o,none⟩) sLen sCap,.slice (some a) m c]).run P w =
   .ok (.slice (some ⟨g,o,none⟩) (sLen + m) sCap) (w.setRow g (cur.toList.take (o + sLen * i.size) ++ news ++ cur.toList.drop (o + sLen * i.size + news.length)).toArray):=by
 have hf:=run_firstCells_some (P:=P) w i.size m a m c news hl hnews
 have hst:=run_storeCells_at P g (o + sLen * i.size) e news 0 cur w hg (by simpa using hfit) h1
 simp only [Nat.add_zero] at hst
 have hadd:(⟨g,o,none⟩:Addr).add (sLen * i.size)=⟨g,o + sLen * i.size,none⟩:=by unfold Addr.add; split <;> simp_all
 simp [Builtin.append_,run_underlying ht,sizeOf,typeInfo,hi,Builtin.lenOf,hroom,hf,hadd,hst]
end
end Go.Sim

set_option linter.unusedSimpArgs false
namespace Go.Sim
open Go Go.RowKit
section
variable {P:Program} {base:Nat} {w0:World} {μ:List Pl} {h:Zaa} {w:World}

theorem Zmi {i:Nat} {e:TypeId} {K:List Zag→Prop} (hk:Zon h i e K):∃ cs,h[i]?=some (.cells e cs false)∧K cs:=by
 unfold Zon at hk
 split at hk
 ·rename_i e' cs hi
  obtain ⟨rfl,hk⟩:=hk
  exact ⟨cs,hi,hk⟩
 ·exact hk.elim

theorem Rel.ownBlock (r:Rel P base w0 μ h w) {i:Nat} {e:TypeId} {cs:List Zag} (hi:h[i]?=some (.cells e cs false)) {p:Pl} (hp:μ[i]?=some p) :
  ∃ C,w.heap[p.b]?=some (.cells C e (0,0))∧VRs μ cs (C.toList.take cs.length)∧cs.length≤C.size∧p.own=true∧p.o=0∧C.size=p.n∧P.cellsOf e=p.sz∧base≤p.b:=by
 obtain ⟨C,el,fr,hg,hcs,hown⟩:=r.obj i _ hi p hp
 simp only [Bool.false_eq_true,if_false] at hown
 obtain ⟨ho1,ho0,rfl,rfl,hn,hcz,hbase⟩:=hown
 rw [ho0,List.drop_zero] at hcs
 have hl:=hcs.length
 refine ⟨C,hg,hcs,?_,ho1,ho0,hn,hcz,hbase⟩
 simp at hl; omega

theorem Rel.regrow (r:Rel P base w0 μ h w) {w':World} {i:Nat} {e:TypeId} {cs cs':List Zag} (hi:h[i]?=some (.cells e cs false)) {p:Pl} (hp:μ[i]?=some p)
  (hb:Below base w w') (hk:∀ k,k≠p.b→k < w.heap.size→w'.heap[k]?=w.heap[k]?)
  (hn:Zku P base w0 μ p w' (.cells e cs' false)):Rel P base w0 (μ ++ [p]) (h.set i .dead ++ [.cells e cs' false]) w':=by
 have r1:Rel P base w0 μ (h.set i .dead) w':=r.change hi rfl hp hb hk trivial (.inr rfl)
 have hlen:(h.set i Zcp.dead).length=h.length:=by simp
 refine ⟨r1.below,by simp [r.len],?_,?_,r1.size⟩
 ·intro j ob hj e' he'
  by_cases hlt:j < h.length
  ·rw [List.getElem?_append_left (by rw [hlen]; exact hlt)] at hj
   rw [List.getElem?_append_left (by rw [r.len]; exact hlt)] at he'
   exact (r1.obj j ob hj e' he').keep (Ext.app _ _) fun x hx=>hx
  ·rw [List.getElem?_append_right (by rw [hlen]; omega)] at hj
   rw [List.getElem?_append_right (by rw [r.len]; omega)] at he'
   have hz:j - h.length=0:=by have:=(List.getElem?_eq_some_iff.1 hj).1; simp at this; omega
   rw [hlen,hz] at hj
   rw [r.len,hz] at he'
   simp at hj he'; subst hj; subst he'
   exact hn.keep (Ext.app _ _) fun x hx=>hx
 ·have key:∀ (a b:Nat) (oa ob:Zcp) (ea eb:Pl),a < h.length→h.length≤b→(h.set i .dead ++ [.cells e cs' false])[a]?=some oa→(h.set i .dead ++ [.cells e cs' false])[b]?=some ob→oa.own=true→(μ ++ [p])[a]?=some ea→(μ ++ [p])[b]?=some eb→ea.b≠eb.b:=by
   intro a b oa ob ea eb hal hbl ha hb2 hoa hea heb
   rw [List.getElem?_append_left (by rw [hlen]; exact hal)] at ha
   rw [List.getElem?_append_left (by rw [r.len]; exact hal)] at hea
   rw [List.getElem?_append_right (by rw [r.len]; omega)] at heb
   rw [List.getElem?_append_right (by rw [hlen]; omega)] at hb2
   have hz:b - h.length=0:=by have:=(List.getElem?_eq_some_iff.1 hb2).1; simp at this; omega
   rw [r.len,hz] at heb; simp at heb; subst heb
   have hia:i≠a:=fun e=>by
    subst e
    rw [List.getElem?_set_self hal] at ha; cases ha; simp [Zcp.own] at hoa
   rw [List.getElem?_set_ne hia] at ha
   exact r.sep a i oa _ ea p (fun e=>hia e.symm) ha hi hoa rfl hea hp
  intro a b oa ob ea eb hab ha hb2 hoa hob hea heb
  by_cases hal:a < h.length <;> by_cases hbl:b < h.length
  ·rw [List.getElem?_append_left (by rw [hlen]; exact hal)] at ha
   rw [List.getElem?_append_left (by rw [hlen]; exact hbl)] at hb2
   rw [List.getElem?_append_left (by rw [r.len]; exact hal)] at hea
   rw [List.getElem?_append_left (by rw [r.len]; exact hbl)] at heb
   exact r1.sep a b oa ob ea eb hab ha hb2 hoa hob hea heb
  ·exact key a b oa ob ea eb hal (by omega) ha hb2 hoa hea heb
  ·exact (key b a ob oa eb ea hbl (by omega) hb2 ha hob heb hea).symm
  ·have x:=(List.getElem?_eq_some_iff.1 ha).1
   have y:=(List.getElem?_eq_some_iff.1 hb2).1
   simp at x y; omega

theorem Yjt (cs:List Zag) (o:Nat) (vs:List Zag) (C:List Value) (ys:List Value) (hC:VRs μ cs (C.take cs.length)) (hv:VRs μ vs ys) (hle:o + vs.length≤cs.length) (hcl:cs.length≤C.length) :
  VRs μ (Zbm cs o vs) ((C.take o ++ ys ++ C.drop (o + ys.length)).take (Zbm cs o vs).length):=by
 have hl:=hv.length
 have hpl:(Zbm cs o vs).length=cs.length:=by simp [Zbm]; omega
 have:=hC.put hv o
 rw [hpl]
 have e2:(C.take o ++ ys ++ C.drop (o + ys.length)).take cs.length=((C.take cs.length).take o ++ ys ++ (C.take cs.length).drop (o + ys.length)):=by
  apply List.ext_getElem?
  intro j
  simp only [List.getElem?_take,List.getElem?_append,List.length_append,List.length_take,List.getElem?_drop]
  by_cases h1:j < cs.length <;> by_cases h2:j < o <;> simp [h1,h2] <;> (try omega) <;> (repeat' split) <;> (try omega) <;> (try rfl) <;> (try (congr 1; omega))
 rw [e2]; exact this

theorem Yea (cs:List Zag) (o:Nat):Zbm cs o []=cs:=by simp [Zbm]
theorem Yii {h:Zaa} {i:Nat} {o:Zcp} (hi:h[i]?=some o):h.set i o=h:=by
 apply List.ext_getElem?
 intro j
 by_cases hij:i=j
 ·subst hij; rw [List.getElem?_set_self (List.getElem?_eq_some_iff.1 hi).1,hi]
 ·rw [List.getElem?_set_ne hij]

theorem Rel.grown (r:Rel P base w0 μ h w) {e:TypeId} {z:Value} {cs:List Zag} {xs:List Value} (hv:VRs μ cs xs) {need cap:Nat} (hl:xs.length=need * P.cellsOf e) (hcap:need≤cap) (hzs:z.cells.size=P.cellsOf e) :
  Rel P base w0 (μ ++ [⟨w.heap.size,0,true,cap * P.cellsOf e,P.cellsOf e⟩]) (h ++ [.cells e cs false]) (w.drew.alloc (.cells (xs.toArray ++ Builtin.zeroCells z.cells (cap - need)) e)):=by
 have hsz:(xs.toArray ++ Builtin.zeroCells z.cells (cap - need)).size=cap * P.cellsOf e:=by
  rw [Array.size_append,size_zeroCells,List.size_toArray,hl,hzs,← Nat.add_mul]; congr 1; omega
 have:=r.newRow (t:=e) (cs:=cs) (C:=xs.toArray ++ Builtin.zeroCells z.cells (cap - need)) (n:=1) (by
  have hvl:=hv.length
  rw [Array.toList_append,hvl,List.take_left]; exact hv)
 rw [hsz] at this
 exact this

structure Zob (P:Program) (t e:TypeId) (i:TypeInfo) (z:Value) (need:Nat):Prop where
 hu:P.underlying t=some (.slice e)
 hse:(P.underlying e).isSome=true
 hi:P.info? e=some i
 hiz:i.zero=some z
 hzs:z.cells.size=P.cellsOf e
 hsize:i.size=P.cellsOf e
 hpos:0 < P.cellsOf e
 h63:((need:Nat):Int)≤9223372036854775807
 hby:need * i.bytes≤140737488355328

theorem Ybf (r:Rel P base w0 μ h w) {t ty e:TypeId} {i:TypeInfo} {z:Value} {len:Nat} (F:Zob P t e i z len) {j o cap capm:Nat} {ex:Bool} {p:Pl}
  (h1:μ[j]?=some p) (h2:len≤cap) (h3:cap≤capm) (h4:ex=true→capm=cap) (h5:p.own=true→o=0→capm * p.sz≤p.n) (bm:Option Addr) (bc:Nat) {K:Zag→Zaa→Prop}
  (hk:(o=0∧Zon h j e fun cs=>cs.length=len * P.cellsOf e∧K (.slice (some (h.length,0)) len len false) (h.set j .dead ++ [.cells e (cs ++ []) false])) ∨ K (.slice (some (j,o)) len cap ex) h) :
  Res P base w0 μ ((Builtin.append_ #[t,t] ty #[.slice (some ⟨p.b,p.o + o,none⟩) len capm,.slice bm 0 bc]).run P w) K:=by
 have hrun:=Zmt (P:=P) t ty e F.hu F.hse (some ⟨p.b,p.o + o,none⟩) len capm (by omega) bm bc w
 rcases hk with ⟨ho,hk⟩ | hk
 ·subst ho
  obtain ⟨cs,hj,hcl,hk⟩:=Zmi hk
  obtain ⟨C,hg,hcs,hcC,ho1,ho0,hn,hcz,hbase⟩:=r.ownBlock hj h1
  have hrel:=r.regrow (cs':=cs ++ []) hj h1 (w':=w) (Below.refl _ _) (fun _ _ _=>rfl) (by
   refine ⟨C,e,(0,0),hg,?_,?_⟩
   ·rw [ho0]; simpa using hcs
   ·simp only [Bool.false_eq_true,if_false]; exact ⟨ho1,ho0,trivial,trivial,hn,hcz,hbase⟩)
  refine ⟨_,w,_,_,_,hrun,Ext.app _ _,hrel,?_,hk⟩
  refine .slice (e:=p) ?_ (Nat.le_refl _) (by omega) (by simp) (fun a b=>h5 a b)
  rw [List.getElem?_append_right (by rw [r.len]; omega)]; simp [r.len]
 ·exact ⟨_,w,μ,_,h,hrun,Ext.refl _,r,.slice h1 h2 h3 h4 h5,hk⟩

theorem append_nil (r:Rel P base w0 μ h w) {t ty e:TypeId} {i:TypeInfo} {z:Value} {m:Nat} (F:Zob P t e i z m) (hm:m≠0) (am:Option Addr) {a:Addr} {bc:Nat} {new:List Zag} {ys:List Value}
  (hys:VRs μ new ys) (hyl:ys.length=m * P.cellsOf e) (hsrc:∀ (q:Nat) (y:Value),ys[q]?=some y→w.cell? (a.add q)=some y) {K:Zag→Zaa→Prop}
  (hk:K (.slice (some (h.length,0)) m m false) (h ++ [.cells e new false])) :
  Res P base w0 μ ((Builtin.append_ #[t,t] ty #[.slice am 0 0,.slice (some a) m bc]).run P w) K:=by
 have hyl':ys.length=m * i.size:=by rw [hyl,F.hsize]
 have hrel:=r.grown (z:=z) hys (need:=m) (cap:=grownCap w m 0 e) hyl (grownCap_ge w m 0 e) F.hzs
 have hvr:VR (μ ++ [⟨w.heap.size,0,true,grownCap w m 0 e * P.cellsOf e,P.cellsOf e⟩]) (.slice (some (h.length,0)) m m false) (.slice (some ⟨w.heap.size,0,none⟩) m (grownCap w m 0 e)):=
  .slice (e:=⟨w.heap.size,0,true,grownCap w m 0 e * P.cellsOf e,P.cellsOf e⟩) (o:=0) (r.last _) (Nat.le_refl _) (grownCap_ge w m 0 e) (by simp) (fun _ _=>Nat.le_refl _)
 refine ⟨_,_,_,_,_,?_,Ext.app _ _,hrel,hvr,hk⟩
 have hby:=F.hby
 have h63:=F.h63
 cases am with
 | none=>exact run_append_nil w t ty e i z F.hu F.hi F.hiz a m bc ys hyl' hsrc (by omega) h63 (by omega)
 | some b=>
  have:=run_append_grow (P:=P) w t ty e i z F.hu F.hi F.hiz b 0 0 [] (by simp) (by simp) a m bc ys hyl' hsrc (by omega) (by simpa using h63) (growslice_fits (by omega) (by simpa using hby))
  simpa using this

theorem Zmm {μ':List Pl} {h':Zaa} (r':Rel P base w0 μ' h' w) (hx':Ext μ μ') {t ty e:TypeId} {i:TypeInfo} {z:Value} {len m:Nat} (F:Zob P t e i z (len + m)) {b a:Addr} {capm bc:Nat} {old new:List Zag} {olds ys:List Value}
  (hol:VRs μ' old olds) (holl:olds.length=len * P.cellsOf e) (hold:∀ (q:Nat) (y:Value),olds[q]?=some y→w.cell? (b.add q)=some y)
  (hys:VRs μ new ys) (hyl:ys.length=m * P.cellsOf e) (hsrc:∀ (q:Nat) (y:Value),ys[q]?=some y→w.cell? (a.add q)=some y) (hlt:capm < len + m) {K:Zag→Zaa→Prop}
  (hk:K (.slice (some (h'.length,0)) (len + m) (len + m) false) (h' ++ [.cells e (old ++ new) false])) :
  Res P base w0 μ ((Builtin.append_ #[t,t] ty #[.slice (some b) len capm,.slice (some a) m bc]).run P w) K:=by
 have hr:=run_append_grow (P:=P) w t ty e i z F.hu F.hi F.hiz b len capm olds (by rw [holl,F.hsize]) hold a m bc ys (by rw [hyl,F.hsize]) hsrc hlt F.h63 (growslice_fits (by omega) F.hby)
 have hrel:=r'.grown (z:=z) (hol.append (hys.ext hx')) (need:=len + m) (cap:=grownCap w (len + m) capm e) (by rw [List.length_append,holl,hyl,Nat.add_mul]) (grownCap_ge w _ _ e) F.hzs
 rw [show olds.toArray ++ ys.toArray=(olds ++ ys).toArray by simp] at hr
 exact ⟨_,_,_,_,_,hr,hx'.trans (Ext.app _ _),hrel,.slice (e:=⟨w.heap.size,0,true,grownCap w (len + m) capm e * P.cellsOf e,P.cellsOf e⟩) (o:=0) (r'.last _) (Nat.le_refl _) (grownCap_ge w _ _ e) (by simp) (fun _ _=>Nat.le_refl _),hk⟩

theorem Ydy (r:Rel P base w0 μ h w) {t ty e:TypeId} {i:TypeInfo} {z:Value} {len m:Nat} (F:Zob P t e i z (len + m)) {j capm:Nat} {p:Pl} (h1:μ[j]?=some p) (h5:p.own=true→capm * p.sz≤p.n)
  {a:Addr} {bc:Nat} {new:List Zag} {ys:List Value} (hys:VRs μ new ys) (hone:∀ u∈ys,u.oneCell'=true) (hyl:ys.length=m * P.cellsOf e) (hsrc:∀ (q:Nat) (y:Value),ys[q]?=some y→w.cell? (a.add q)=some y) {K:Zag→Zaa→Prop}
  {cs:List Zag} (hj:h[j]?=some (.cells e cs false)) (hcl:cs.length=len * P.cellsOf e)
  (hk:K (.slice (some (h.length,0)) (len + m) (len + m) false) (h.set j .dead ++ [.cells e (cs ++ new) false])) :
  Res P base w0 μ ((Builtin.append_ #[t,t] ty #[.slice (some ⟨p.b,p.o + 0,none⟩) len capm,.slice (some a) m bc]).run P w) K:=by
 obtain ⟨C,hg,hcs,hcC,ho1,ho0,hn,hcz,hbase⟩:=r.ownBlock hj h1
 have hyl':ys.length=m * i.size:=by rw [hyl,F.hsize]
 have e3:p.o + 0=0:=by omega
 by_cases hroom:len + m≤capm
 ·have hcap:=h5 ho1
  have hfit2:0 + len * i.size + ys.length≤C.size:=by
   rw [hyl',Nat.zero_add,← Nat.add_mul,hn,F.hsize,hcz]; exact Nat.le_trans (Nat.mul_le_mul_right _ hroom) hcap
  have hrun:=Znk (P:=P) (w:=w) t ty e i F.hu F.hi p.b 0 len capm C hg a m bc ys hyl' hsrc hone hroom hfit2
  have e1:cs.length=0 + len * i.size:=by rw [hcl,F.hsize]; omega
  have hrel:=r.regrow (cs':=cs ++ new) hj h1 (w':=w.setRow p.b (C.toList.take (0 + len * i.size) ++ ys ++ C.toList.drop (0 + len * i.size + ys.length)).toArray)
   ⟨rfl,rfl,rfl,by simp [World.setRow],fun k hk=>setRow_other w p.b k _ (by omega)⟩ (fun k hk _=>setRow_other w p.b k _ hk) (by
   refine ⟨_,e,(0,0),setRow_heap w p.b C _ e _ hg,?_,?_⟩
   ·rw [ho0,List.drop_zero]
    have e2:(cs ++ new).length=(C.toList.take (0 + len * i.size) ++ ys).length:=by
     rw [List.length_append,List.length_append,List.length_take,hys.length,e1]; simp at hcC ⊢; omega
    rw [e2]
    show VRs μ _ (List.take _ (C.toList.take (0 + len * i.size) ++ ys ++ C.toList.drop (0 + len * i.size + ys.length)))
    rw [List.take_left,← e1]
    exact hcs.append hys
   ·simp only [Bool.false_eq_true,if_false]
    refine ⟨ho1,ho0,trivial,trivial,?_,hcz,hbase⟩
    rw [← hn]
    simp only [List.size_toArray,List.length_append,List.length_take,List.length_drop,Array.length_toList]
    omega)
  rw [e3]
  refine ⟨_,_,_,_,_,hrun,Ext.app _ _,hrel,?_,hk⟩
  have:=VR.slice (μ:=μ ++ [p]) (i:=h.length) (o:=0) (n:=len + m) (c:=len + m) (cap:=capm) (ex:=false) (e:=p) (by
   rw [List.getElem?_append_right (by rw [r.len]; omega)]; simp [r.len]) (Nat.le_refl _) hroom (by simp) (fun a _=>h5 a)
  rwa [e3] at this
 ·have r1:Rel P base w0 μ (h.set j .dead) w:=r.change hj rfl h1 (Below.refl _ _) (fun _ _ _=>rfl) trivial (.inr rfl)
  refine Zmm r1 (Ext.refl _) F hcs (by rw [← hcs.length,hcl]) ?_ hys hyl hsrc (by omega) (by simpa using hk)
  intro q y hy
  rw [Zxn,ho0]
  rw [List.getElem?_take] at hy
  split at hy
  ·simp only [World.cell?,hg,Option.isSome_none,Bool.false_eq_true,if_false]
   rw [Array.getElem?_toList] at hy
   rw [← hy]; congr 1; omega
  ·cases hy

theorem Zzt (r:Rel P base w0 μ h w) {t ty e:TypeId} {i:TypeInfo} {z:Value} {len m:Nat} (F:Zob P t e i z (len + m)) {j o cap capm:Nat} {ex:Bool} {p:Pl} (h1:μ[j]?=some p) (h3:cap≤capm) (h4:ex=true→capm=cap) (h5:p.own=true→o=0→capm * p.sz≤p.n)
  {a:Addr} {bc:Nat} {new:List Zag} {ys:List Value} (hys:VRs μ new ys) (hone:∀ u∈ys,u.oneCell'=true) (hyl:ys.length=m * P.cellsOf e) (hsrc:∀ (q:Nat) (y:Value),ys[q]?=some y→w.cell? (a.add q)=some y) {K:Zag→Zaa→Prop}
  (hle:len + m≤cap) {cs:List Zag} (hj:h[j]?=some (.cells e cs false)) (hcl:o + len * P.cellsOf e + new.length≤cs.length)
  (hk:K (.slice (some (j,o)) (len + m) cap ex) (h.set j (.cells e (Zbm cs (o + len * P.cellsOf e) new) false))) :
  Res P base w0 μ ((Builtin.append_ #[t,t] ty #[.slice (some ⟨p.b,p.o + o,none⟩) len capm,.slice (some a) m bc]).run P w) K:=by
 obtain ⟨C,hg,hcs,hcC,ho1,ho0,hn,hcz,hbase⟩:=r.ownBlock hj h1
 have hnyl:=hys.length
 have hsize:=F.hsize
 have hfit2:o + len * i.size + ys.length≤C.size:=by rw [← hnyl,hsize]; omega
 have hrun:=Znk (P:=P) (w:=w) t ty e i F.hu F.hi p.b o len capm C hg a m bc ys (by rw [hyl,hsize]) hsrc hone (by omega) hfit2
 have e3:p.o + o=o:=by omega
 rw [e3]
 refine ⟨_,_,μ,_,_,hrun,Ext.refl _,?_,?_,hk⟩
 ·refine r.change (o:=.cells e cs false) hj rfl h1 ⟨rfl,rfl,rfl,by simp [World.setRow],fun k hk=>setRow_other w p.b k _ (by omega)⟩ (fun k hk _=>setRow_other w p.b k _ hk) ?_ (.inl rfl)
  refine ⟨_,e,(0,0),setRow_heap w p.b C _ e _ hg,?_,?_⟩
  ·rw [ho0,List.drop_zero,← hsize]
   exact Yjt cs _ new C.toList ys hcs hys (by rw [hsize]; omega) (by simpa using hcC)
  ·simp only [Bool.false_eq_true,if_false]
   refine ⟨ho1,ho0,trivial,trivial,?_,hcz,hbase⟩
   rw [← hn]
   simp only [List.size_toArray,List.length_append,List.length_take,List.length_drop,Array.length_toList]
   omega
 ·have:=VR.slice (o:=o) (n:=len + m) (c:=cap) (cap:=capm) (ex:=ex) h1 hle h3 h4 h5
  rwa [e3] at this

theorem Yfe (r:Rel P base w0 μ h w) {t ty:TypeId} {s x:Zag} {sv xv:Value} (hs:VR μ s sv) (hx:VR μ x xv) {K:Zag→Zaa→Prop} (hk:Zdv P t h s x K) :
  Res P base w0 μ ((Builtin.append_ #[t,t] ty #[sv,xv]).run P w) K:=by
 unfold Zdv at hk
 split at hk
 case h_2=>exact hk.elim
 rename_i e hu
 split at hk
 case h_2=>exact hk.elim
 rename_i sa len cap ex
 split at hk
 case h_2=>exact hk.elim
 rename_i xa m xc xe
 obtain ⟨new,hnew,⟨hok,hfit,hleaf⟩,hk2⟩:=Zfn hk
 obtain ⟨hse,hz,hpos⟩:=of_decide_eq_true hok
 clear hk
 cases hzc:Zwj P e with
 | none=>simp [hzc] at hz
 | some zc=>
 obtain ⟨i,z,hi,hiz,hzv,_⟩:=Zqw (μ:=μ) hzc
 obtain ⟨hnl,bm,bc,rfl,hsrc⟩:=Zwb r hx hnew
 have hzs:z.cells.size=P.cellsOf e:=by
  have:=hzv.length; simp [hzc] at hz; simp at this; omega
 have hF:Zob P t e i z (len + m):=by
  have a1:(len + m) * 1≤(len + m) * (P.bytesOf e + 1):=Nat.mul_le_mul_left _ (by omega)
  have hbytes:i.bytes=P.bytesOf e:=by simp [Program.bytesOf,hi]
  have a2:(len + m) * i.bytes≤(len + m) * (P.bytesOf e + 1):=Nat.mul_le_mul_left _ (by omega)
  exact ⟨hu,hse,hi,hiz,hzs,by simp [Program.cellsOf,hi],hpos,by omega,by omega⟩
 by_cases hm:m=0
 ·subst hm
  have hnew0:new=[]:=List.eq_nil_of_length_eq_zero (by simpa using hnl)
  subst hnew0
  cases hs with
  | slice0=>exact ⟨_,w,μ,_,h,Zmt t ty e hu hse _ _ _ (Nat.le_refl _) _ _ w,Ext.refl _,r,.slice0,hk2.1 rfl⟩
  | sliceE0=>exact ⟨_,w,μ,_,h,Zmt t ty e hu hse _ _ _ (Nat.le_refl _) _ _ w,Ext.refl _,r,.sliceE0,hk2.1 rfl⟩
  | sliceE1=>exact ⟨_,w,μ,_,h,Zmt t ty e hu hse _ _ _ (Nat.zero_le _) _ _ w,Ext.refl _,r,.sliceE1,hk2.1 rfl⟩
  | slice h1 h2 h3 h4 h5=>
   refine Ybf r hF h1 h2 h3 h4 h5 bm bc ?_
   rcases hk2 with ⟨ho,hk⟩ | ⟨_,hk⟩ | ⟨⟨hex,hlt⟩,_⟩
   ·exact .inl ⟨ho,by simpa using hk⟩
   ·obtain ⟨cs,hj,hcl,hk⟩:=Zmi hk
    rw [Yea,Yii hj] at hk
    exact .inr hk
   ·omega
 ·obtain ⟨a,rfl,ys,hys,hsrc⟩:=hsrc.resolve_left (by
   intro h0
   rcases Nat.mul_eq_zero.1 h0 with h0 | h0 <;> omega)
  have hyl:ys.length=m * P.cellsOf e:=by rw [← hys.length,hnl]
  have hone:=hys.leaf1 hleaf
  cases sa with
  | none=>
   obtain ⟨hc0,hk⟩:=hk2.2 hm
   subst hc0
   have hlen0:len=0:=by cases hs <;> rfl
   subst hlen0
   rw [Nat.zero_add] at hF
   cases hs with
   | slice0=>exact append_nil r hF hm none hys hyl hsrc hk
   | sliceE0=>exact append_nil r hF hm _ hys hyl hsrc hk
  | some q=>
   obtain ⟨j,o⟩:=q
   cases hs with
   | slice h1 h2 h3 h4 h5=>
   rcases hk2 with ⟨ho,hk⟩ | ⟨hle,hk⟩ | ⟨⟨hex,hlt⟩,hk⟩
   ·subst ho
    obtain ⟨cs,hj,hcl,hk⟩:=Zmi hk
    exact Ydy r hF h1 (fun a=>h5 a rfl) hys hone hyl hsrc hj hcl hk
   ·obtain ⟨cs,hj,hcl,hk⟩:=Zmi hk
    exact Zzt r hF h1 h3 h4 h5 hys hone hyl hsrc hle hj hcl hk
   ·obtain ⟨old,hold,hk⟩:=Zfn hk
    obtain ⟨hol,am,capm',heq,hrow⟩:=Zwb r (.slice (o:=o) h1 h2 h3 h4 h5) hold
    cases heq
    have:=h4 hex
    rcases hrow with h0 | ⟨b,hb,olds,hvo,hcell⟩
    ·have ho':old=[]:=List.eq_nil_of_length_eq_zero (by omega)
     subst ho'
     exact Zmm (olds:=[]) r (Ext.refl _) hF .nil (by simp [h0]) (by simp) hys hyl hsrc (by omega) hk
    ·cases hb
     exact Zmm r (Ext.refl _) hF hvo (by rw [← hvo.length,hol]) hcell hys hyl hsrc (by omega) hk
end
end Go.Sim

set_option linter.unusedSimpArgs false
namespace Go.Sim
open Go Go.RowKit

def Znw:List Zag→(List Nat→Prop)→Prop
 | [],K=>K []
 | .int k n :: r,K=>chk (k=.u8) ((0≤n∧n < 256)∧Znw r fun s=>K (n.toNat :: s))
 | _ :: _,_=>False
def Ylg (P:Program) (t:TypeId):Bool:=match P.underlying t with | some (.int .u8)=>true | _=>false
theorem Yim {P:Program} {t:TypeId} (h:Ylg P t=true):P.underlying t=some (.int .u8):=by unfold Ylg at h; split at h <;> simp_all
def Ymz (P:Program) (s d:TypeId) (h:Zaa) (x:Zag) (K:Zag→Prop):Prop:=
 match P.underlying s with
 | some (.slice e)=>chk (Zri P d=true∧Ylg P e=true) (match x with | .slice a n _ _=>Zcy (rowOf h a n) fun cs=>Znw cs fun b=>K (.str b) | _=>False)
 | _=>False
def Ymy (x y:Zag) (K:Zag→Prop):Prop:=
 match x with
 | .int k a=>(match y with | .int k' b=>chk (k=k') (K (.int k (if b < a then b else a))) | _=>False)
 | _=>False

section
variable {P:Program} {base:Nat} {w0:World} {μ:List Pl} {h:Zaa} {w:World}

theorem Zsz:∀ {cs:List Zag} {K:List Nat→Prop},Znw cs K→∃ ns:List Int,cs=ns.map (.int .u8)∧(∀ n∈ns,0≤n∧n < 256)∧K (ns.map Int.toNat)
 | [],K,hk=>⟨[],rfl,by simp,hk⟩
 | .int k n :: r,K,hk=>by
  unfold Znw at hk
  replace hk:=Zbi hk
  obtain ⟨rfl,hb,hk⟩:=hk
  obtain ⟨ns,rfl,hns,hk⟩:=Zsz hk
  exact ⟨n :: ns,rfl,by simpa using ⟨hb,hns⟩,by simpa using hk⟩
 | .undef :: _,_,hk | .bool _ :: _,_,hk | .str _ :: _,_,hk | .ptr _ :: _,_,hk | .slice .. :: _,_,hk | .map _ :: _,_,hk | .fn .. :: _,_,hk | .nilFn :: _,_,hk | .iter _ :: _,_,hk
 | .agg _ :: _,_,hk | .tup _ :: _,_,hk=>by unfold Znw at hk; exact hk.elim
theorem VRs.u8:∀ {ns:List Int} {ys:List Value},VRs μ (ns.map (.int .u8)) ys→ys=ns.map (Value.int .u8)
 | [],_,.nil=>rfl
 | n :: ns,_,.cons a b=>by cases a; rw [VRs.u8 b]; rfl
theorem Zrk:∀ (ns:List Int) (s:ByteArray),(∀ n∈ns,0≤n∧n < 256)→bytesOf (ns.foldl (fun r n=>r.push (UInt8.ofNat n.toNat)) s)=bytesOf s ++ ns.map Int.toNat
 | [],s,_=>by simp
 | n :: ns,s,h=>by
  have hn:=h n (by simp)
  rw [List.foldl_cons,Zrk ns _ fun m hm=>h m (by simp [hm])]
  have:n.toNat < 256:=by omega
  simp [bytesOf,ByteArray.push,Nat.mod_eq_of_lt this]
theorem Ylr (r:Rel P base w0 μ h w) {s d:TypeId} {a:Zag} {x:Value} (ha:VR μ a x) {K:Zag→Zaa→Prop} (hk:Ymz P s d h a fun v=>K v h):Res P base w0 μ ((convert s d x).run P w) K:=by
 unfold Ymz at hk
 split at hk
 ·rename_i e hu
  replace hk:=Zbi hk
  obtain ⟨⟨hd,he⟩,hk⟩:=hk
  have hd:=Zma hd
  have he:=Yim he
  split at hk
  ·rename_i sa n sc se
   obtain ⟨cs,hcs,hk1⟩:=Zfn hk
   clear hk
   obtain ⟨hl,am,capm,rfl,hsrc⟩:=Zwb r ha hcs
   obtain ⟨ns,rfl,hns,hk⟩:=Zsz hk1
   clear hk1
   have hlen:ns.length=n:=by simpa using hl
   have fin:∀ b:ByteArray,(convert s d (.slice am n capm)).run P w=.ok (.string b) w→bytesOf b=ns.map Int.toNat→Res P base w0 μ ((convert s d (.slice am n capm)).run P w) K:=by
    intro b hr hb
    rw [hr]
    refine ⟨_,w,μ,.str (bytesOf b),h,rfl,Ext.refl _,r,.str b,?_⟩
    rw [hb]; exact hk
   have hb0:bytesOf (ns.foldl (fun r n=>r.push (UInt8.ofNat n.toNat)) ByteArray.empty)=ns.map Int.toNat:=by
    rw [Zrk ns _ hns]; simp [bytesOf]
   have hc:=run_convert_bytes_string (P:=P) w s d e am n capm hu he hd
   rcases hsrc with h0 | ⟨q,rfl,ys,hys,hcell⟩
   ·have hn0:ns=[]:=List.eq_nil_of_length_eq_zero (by omega)
    subst hn0
    simp only [List.length_nil] at hlen
    subst hlen
    refine fin ByteArray.empty ?_ (by simp [bytesOf])
    rw [hc]
    cases am <;> simp [Conv.bytesToString,loadCells,loadCellsFrom]
   ·have hy:=hys.u8
    subst hy
    have hload:=run_loadCells_list (P:=P) w q (ns.map (Value.int .u8)) hcell
    simp only [List.length_map,hlen] at hload
    exact fin _ (by rw [hc,run_bytesToString w q n capm ns hload]) hb0
  ·exact hk.elim
 ·exact hk.elim

theorem Zyp (r:Rel P base w0 μ h w) {t:TypeId} {a b:Zag} {x y:Value} (ha:VR μ a x) (hb:VR μ b y) {K:Zag→Zaa→Prop} (hk:Zjz P t a b h K):Res P base w0 μ ((Instr.makeSlice t x y).run P w) K:=by
 unfold Zjz at hk
 split at hk
 ·rename_i e hu
  obtain ⟨z,hz,hk1⟩:=Zfn hk
  clear hk
  have hk2:=Zbi hk1
  clear hk1
  obtain ⟨⟨hs,hzl,hpos⟩,hk⟩:=hk2
  obtain ⟨i,v,hi,hv,hvs,hzr⟩:=Zqw (μ:=μ) hz
  unfold Zco at hk
  split at hk
  ·rename_i kl l hl
   cases hl
   obtain ⟨rfl,hk⟩:=hk
   split at hk
   ·rename_i kc c hc
    cases hc
    obtain ⟨rfl,⟨h0,hlc,hbound⟩,hk⟩:=hk
    cases ha; cases hb
    have hbytes:i.bytes=P.bytesOf e:=by simp [Program.bytesOf,hi]
    have hm:0≤c * (P.bytesOf e:Int):=Int.mul_nonneg (by omega) (by omega)
    have hexp:c * ((P.bytesOf e:Int) + 1)=c * (P.bytesOf e:Int) + c:=by rw [Int.mul_add,Int.mul_one]
    have hb1:(i.bytes:Int) * c≤281474976710656:=by rw [hbytes,Int.mul_comm]; omega
    have hrun:=run_make w t e i v hu hi hv .i64 .i64 l c h0 hlc hb1 (by omega)
    have hcl:=hvs.length
    simp only [Array.length_toList] at hcl
    have hsz:i.size=v.cells.size:=by rw [← hcl,hzl]; simp [Program.cellsOf,hi]
    have hC:VRs μ (Sim.reps c.toNat z) (madeCells v.cells (c.toNat * i.size)).toList:=by
     unfold madeCells
     rw [hsz,Zsk c.toNat v.cells (by omega)]; exact hvs.reps _
    have hCl:=hC.length
    have hrel:=r.newRow0 (t:=e) (C:=madeCells v.cells (c.toNat * i.size)) (cs:=Sim.reps c.toNat z) (by rw [hCl,List.take_length]; exact hC)
    rw [hrun]
    refine ⟨_,_,_,_,_,rfl,Ext.app _ _,hrel,?_,hk⟩
    refine .slice (e:=⟨w.heap.size,0,true,_,P.cellsOf e⟩) (o:=0) (r.last _) (by omega) (Nat.le_refl _) (fun _=>rfl) (fun _ _=>?_)
    have:i.size=P.cellsOf e:=by simp [Program.cellsOf,hi]
    simp [madeCells,this]
   ·exact hk.elim
  ·exact hk.elim
 ·exact hk.elim
theorem Yop {ts:Array TypeId} {t:TypeId} {a b:Zag} {x y:Value} (ha:VR μ a x) (hb:VR μ b y) {K:Zag→Prop} (hk:Ymy a b K):∃ v z,(∀ w,(Builtin.min_ ts t #[x,y]).run P w=.ok z w)∧VR μ v z∧K v:=by
 unfold Ymy at hk
 split at hk
 ·split at hk
  ·replace hk:=Zbi hk
   obtain ⟨rfl,hk⟩:=hk
   cases ha; cases hb
   exact ⟨_,_,fun w=>run_min_int2 w ts t _ _ _ _,.int _ _,hk⟩
  ·exact hk.elim
 ·exact hk.elim
end
end Go.Sim

set_option linter.unusedSimpArgs false
namespace Go.Sim
open Go Go.RowKit

abbrev ME:=Zag × Zag × Nat
def Zdm (h:Zaa) (m:Option Nat) (K:List ME→Nat→Prop):Prop:=
 match m with
 | none=>K [] 0
 | some i=>(match h[i]? with | some (.map es clk)=>K es clk | _=>False)
def Zqs:List ME→List Nat→Nat→Option (Option (Nat × Zag))
 | [],_,_=>some none
 | (.str k,v,_) :: r,s,i=>if s=k then some (some (i,v)) else Zqs r s (i + 1)
 | _ :: _,_,_=>none
def Ztr (es:List ME) (s:List Nat) (K:Option Zag→Prop):Prop:=match Zqs es s 0 with | some (some (_,v))=>K (some v) | some none=>K none | none=>False
def Ylc (es:List ME) (clk:Nat) (s:List Nat) (v:Zag) (K:List ME→Nat→Prop):Prop:=
 match Zqs es s 0 with
 | some (some (i,_))=>K (es.modify i fun e=>(.str s,v,e.2.2)) clk
 | some none=>K (es ++ [(.str s,v,clk)]) (clk + 1)
 | none=>False
def xMp (m:Option Nat) (K:Nat→Prop):Prop:=match m with | some i=>K i | none=>False
def Yjp (P:Program) (t:TypeId):Option Zag:=match P.info? t with | some i=>(match i.zero with | some v=>some (Znv v) | none=>none) | none=>none
def Zqz (P:Program) (t:TypeId) (h:Zaa) (m k:Zag) (ok:Bool) (K:Zag→Prop):Prop:=
 match P.underlying t with
 | some (.map kt et)=>chk (Zri P kt=true∧isAgg P et=false) (match m with
  | .map a=>Zcb (some k) fun s=>Zzn (Yjp P et) fun z=>Zdm h a fun es _=>Ztr es s fun r=>xv (Zjp P et) (some (r.getD z)) fun v=>K (match ok with | true=>.tup [v,.bool r.isSome] | false=>v)
  | _=>False)
 | _=>False
def Zjx (P:Program) (t:TypeId) (h:Zaa) (m k v:Zag) (K:Zag→Zaa→Prop):Prop:=
 match P.underlying t with
 | some (.map kt _)=>chk (Zri P kt=true) (match m with
  | .map a=>xMp a fun i=>Zcb (some k) fun s=>Zdm h (some i) fun es clk=>Ylc es clk s v fun es' clk'=>K .undef (h.set i (.map es' clk'))
  | _=>False)
 | _=>False
def Ycm (P:Program) (t:TypeId):Bool:=match P.underlying t with | some (.map _ _)=>true | _=>false
def Zoi (P:Program) (t:TypeId) (r:Option Zag) (h:Zaa) (K:Zag→Zaa→Prop):Prop:=
 match r with
 | none=>K (.map (some h.length)) (h ++ [.map [] 0])
 | some (.int _ _)=>chk (Ycm P t=true) (K (.map (some h.length)) (h ++ [.map [] 0]))
 | _=>False
def Ypv (m:Option Nat) (clk:Nat):Nat:=match m with | none=>0 | some _=>clk
def Yos (m:Option Nat) (A B:Prop):Prop:=match m with | none=>A | some _=>B
def Yoq (P:Program) (t:TypeId) (i:Nat):Sh:=match P.underlying t with | some (.tuple ts)=>(match ts[i]? with | some t=>Zjp P t | none=>.any) | _=>.any
def Zuw (P:Program) (t:TypeId) (x:Zag) (h:Zaa) (K:Zag→Zaa→Prop):Prop:=
 match x with
 | .str s=>chk (Zri P t=true) (K (.iter h.length) (h ++ [.iter s 0]))
 | .map m=>chk (Ycm P t=true) (Zdm h m fun _ clk=>K (.iter h.length) (h ++ [.miter m (Ypv m clk) [] (Ypv m clk)]))
 | _=>False
def Yee (h:Zaa) (r:Nat) (K:List Nat→Nat→Prop):Prop:=match h[r]? with | some (.iter s pos)=>K s pos | _=>False
def Zss (h:Zaa) (r:Nat) (K:Option Nat→Nat→List Nat→Nat→Prop):Prop:=match h[r]? with | some (.miter m since seen last)=>K m since seen last | _=>False
def Yec (P:Program) (ty:TypeId) (it:Zag) (isStr:Bool) (h:Zaa) (K:Zag→Zaa→Prop):Prop:=
 match it with
 | .iter r=>(match isStr with
  | true=>Yee h r fun s pos=>(pos < s.length→s.getD pos 0 < 128∧K (.tup [.bool true,.int .i64 (pos:Int),.int .i32 ((s.getD pos 0:Nat):Int)]) (h.set r (.iter s (pos + 1))))∧(s.length≤pos→K (.tup [.bool false]) h)
  | false=>Zss h r fun m since seen last=>Yos m (K (.tup [.bool false]) h) (Zdm h m fun es clk=>((∀ e∈es,e.2.2 < since)∧since≤last)∧((∀ e∈es,e.2.2∈seen)→K (.tup [.bool false]) h) ∧
    ∀ e∈es,e.2.2 ∉ seen→xv (Yoq P ty 1) (some e.1) fun a=>xv (Yoq P ty 2) (some e.2.1) fun b=>K (.tup [.bool true,a,b]) (h.set r (.miter m since (seen ++ [e.2.2]) clk))))
 | _=>False
def Zvo (P:Program) (ty:TypeId) (it:Zag) (h:Zaa) (K:Zag→Prop):Prop:=
 match it with
 | .iter r=>Zss h r fun m _ seen last=>xMp m fun i=>Zdm h (some i) fun es clk=>((es.map (·.2.2)).Nodup∧clk=last)∧∃ e∈es,∃ s0,seen=s0 ++ [e.2.2]∧xv (Yoq P ty 0) (some e.1) fun a=>xv (Yoq P ty 1) (some e.2.1) fun b=>K (.tup [a,b])
 | _=>False

section
variable {P:Program} {base:Nat} {w0:World} {μ:List Pl} {h:Zaa} {w:World}
theorem Zyt {t:TypeId} (h:Ycm P t=true):∃ k e,P.underlying t=some (.map k e):=by unfold Ycm at h; split at h <;> simp_all
theorem Yaz {a b:ByteArray} (h:bytesOf a=bytesOf b):a=b:=by
 have:=Zna h
 cases a; cases b
 congr 1
 exact Array.ext' this
theorem Zqa {s:ByteArray}:∀ {es:List ME} {ents:List MapEntry} {i:Nat} {r:Option (Nat × Zag)},VRs μ (es.map (·.1)) (ents.map (·.key))→VRs μ (es.map (·.2.1)) (ents.map (·.val))→Zqs es (bytesOf s) i=some r →
  (r=none∧Instr.findNow .string (.string s) ents i=some none) ∨ ∃ j v x k0,r=some (j,v)∧i≤j∧VR μ v x∧Instr.findNow .string (.string s) ents i=some (some (j,x))∧ents[j - i]?=some k0∧k0.key=.string s
 | [],[],i,r,_,_,h=>by simp [Zqs] at h; subst h; exact .inl ⟨rfl,rfl⟩
 | [],e :: ents,i,r,hk,_,_=>by cases hk
 | e :: es,[],i,r,hk,_,_=>by cases hk
 | (k,v,b) :: es,e :: ents,i,r,hk,hv,h=>by
  simp only [List.map_cons] at hk hv
  cases hk with
  | cons hk1 hk2=>
  cases hv with
  | cons hv1 hv2=>
  cases k <;> simp only [Zqs] at h <;> try (cases h; done)
  rename_i kb
  generalize he:e.key=ek at hk1
  cases hk1
  rename_i kb
  by_cases hs:bytesOf s=bytesOf kb
  ·rw [if_pos hs] at h
   cases h
   have:s=kb:=Yaz hs
   subst this
   refine .inr ⟨i,v,e.val,e,rfl,Nat.le_refl _,hv1,?_,by simp,he⟩
   simp [Instr.findNow,he,Instr.sameNow,(MapKept.bytes_beq s s).2 rfl]
  ·rw [if_neg hs] at h
   have hne:(s == kb)=false:=by
    cases hb:s == kb with
    | false=>rfl
    | true=>exact absurd (by rw [(MapKept.bytes_beq s kb).1 hb]) hs
   rcases Zqa hk2 hv2 h with ⟨h1,h2⟩ | ⟨j,v',x,k0,h1,h2,h3,h4,h5,h6⟩
   ·exact .inl ⟨h1,by simp [Instr.findNow,he,Instr.sameNow,hne,h2]⟩
   ·refine .inr ⟨j,v',x,k0,h1,by omega,h3,by simp [Instr.findNow,he,Instr.sameNow,hne,h4],?_,h6⟩
    rw [show j - i=(j - (i + 1)) + 1 by omega]; simpa using h5

theorem Ybv {t:TypeId} {z:Zag} (hz:Yjp P t=some z):∃ v,VR μ z v∧∀ w,(zeroValue t).run P w=.ok v w:=by
 unfold Yjp at hz
 split at hz
 ·rename_i i hi
  split at hz
  ·rename_i v hv
   cases hz
   exact ⟨v,Zqu v,fun w=>by simp [zeroValue,typeInfo,hi,hv]⟩
  ·cases hz
 ·cases hz
theorem Zks {m:Option Nat} {K:List ME→Nat→Prop} (hk:Zdm h m K):(m=none∧K [] 0) ∨ ∃ i es clk,m=some i∧h[i]?=some (.map es clk)∧K es clk:=by
 unfold Zdm at hk
 split at hk
 ·exact .inl ⟨rfl,hk⟩
 ·split at hk
  ·rename_i hi; exact .inr ⟨_,_,_,rfl,hi,hk⟩
  ·exact hk.elim
theorem Zuv {o:Option Zag} {K:List Nat→Prop} (h:Zcb o K):∃ s,o=some (.str s)∧K s:=by
 unfold Zcb at h; split at h
 ·exact ⟨_,rfl,h⟩
 ·exact h.elim

theorem Ygc (r:Rel P base w0 μ h w) {t:TypeId} {a k:Zag} {x y:Value} {ok:Bool} (ha:VR μ a x) (hkk:VR μ k y) {K:Zag→Prop} (hk:Zqz P t h a k ok K) :
  ∃ z v,(Instr.lookup t x y ok).run P w=.ok z w∧VR μ v z∧K v:=by
 unfold Zqz at hk
 split at hk
 ·rename_i kt et hu
  replace hk:=Zbi hk
  obtain ⟨⟨hs,hag⟩,hk⟩:=hk
  have hs:=Zma hs
  split at hk
  ·rename_i m
   obtain ⟨s,hse,hk⟩:=Zuv hk
   cases hse
   obtain ⟨z0,hz,hk⟩:=Zlx hk
   obtain ⟨zv,hzv1,hzr⟩:=Ybv (μ:=μ) hz
   cases hkk with
   | str sb=>
   have hchk:∀ b,(Instr.checkKey b 10000 kt (.string sb)).run P w=.ok () w:=fun b=>MapKept.run_checkKey (d:=.string) hs (by simp [MapKept.IsKey]) b 9999
   rcases Zks hk with ⟨rfl,hk1⟩ | ⟨i',es,clk,rfl,hi',hk1⟩
   ·cases ha
    simp only [Ztr,Zqs] at hk1
    obtain ⟨v,hv,hk2⟩:=Zhy hk1
    cases hv
    have hfk:=MapKept.run_findKey (P:=P) (w:=w) (k:=.string sb) (l:=[]) hs rfl
    cases ok
    ·exact ⟨zv,_,by simp [Instr.lookup,run_underlying hu,hchk,hfk,hzr w],hzv1,hk2⟩
    ·exact ⟨.tuple #[zv,.bool false],_,by simp [Instr.lookup,run_underlying hu,hchk,hfk,hzr w],.tup (.cons hzv1 (.cons (.bool _) .nil)),hk2⟩
   ·cases ha with
    | map hmu=>
    obtain ⟨hb0,ents,hg,hk1',hk2',hk3'⟩:=r.obj i' _ hi' _ hmu
    unfold Ztr at hk1
    split at hk1
    ·rename_i j v hf
     obtain ⟨v1,hv,hk2⟩:=Zhy hk1
     cases hv
     rcases Zqa hk1' hk2' hf with ⟨h1,_⟩ | ⟨j',v',x',k0,h1,_,h3,h4,_⟩
     ·cases h1
     ·cases h1
      have hfk:=MapKept.run_findKey (P:=P) (w:=w) hs h4
      cases ok
      ·exact ⟨x',_,by simp [Instr.lookup,run_underlying hu,MapKept.run_getObj_map hg,hchk,hfk],h3,hk2⟩
      ·exact ⟨.tuple #[x',.bool true],_,by simp [Instr.lookup,run_underlying hu,MapKept.run_getObj_map hg,hchk,hfk],.tup (.cons h3 (.cons (.bool _) .nil)),hk2⟩
    ·rename_i hf
     obtain ⟨v1,hv,hk2⟩:=Zhy hk1
     cases hv
     rcases Zqa hk1' hk2' hf with ⟨_,h4⟩ | ⟨j',v',x',k0,h1,_⟩
     ·have hfk:=MapKept.run_findKey (P:=P) (w:=w) hs h4
      cases ok
      ·exact ⟨zv,_,by simp [Instr.lookup,run_underlying hu,MapKept.run_getObj_map hg,hchk,hfk,hzr w],hzv1,hk2⟩
      ·exact ⟨.tuple #[zv,.bool false],_,by simp [Instr.lookup,run_underlying hu,MapKept.run_getObj_map hg,hchk,hfk,hzr w],.tup (.cons hzv1 (.cons (.bool _) .nil)),hk2⟩
     ·cases h1
    ·exact hk1.elim
  ·exact hk.elim
 ·exact hk.elim
theorem Zhv {i:Nat} {K:List ME→Nat→Prop} (hk:Zdm h (some i) K):∃ es clk,h[i]?=some (.map es clk)∧K es clk:=by
 rcases Zks hk with ⟨h0,_⟩ | ⟨i',es,clk,h0,hi',hk1⟩
 ·cases h0
 ·cases h0; exact ⟨es,clk,hi',hk1⟩
theorem VRs.modify {α β:Type} {p:α→Zag} {q:β→Value} {f:α→α} {g:β→β} {v:Zag} {k:Value} (hv:VR μ v k) (hf:∀ x,p (f x)=v) (hg:∀ y,q (g y)=k):∀ {l:List α} {m:List β} (j:Nat),VRs μ (l.map p) (m.map q)→VRs μ ((l.modify j f).map p) ((m.modify j g).map q)
 | [],[],j,_=>by cases j <;> exact .nil
 | [],_ :: _,_,h=>by cases h
 | _ :: _,[],_,h=>by cases h
 | a :: l,b :: m,0,h=>by
  simp only [List.map_cons] at h
  cases h with
  | cons h1 h2=>
  simp only [List.modify_zero_cons,List.map_cons,hf,hg]
  exact .cons hv h2
 | a :: l,b :: m,j + 1,h=>by
  simp only [List.map_cons] at h
  cases h with
  | cons h1 h2=>
  simp only [List.modify_succ_cons,List.map_cons]
  exact .cons h1 (VRs.modify hv hf hg j h2)
theorem Zfx {α β:Type} {p:α→β} {f:α→α} (hf:∀ x,p (f x)=p x):∀ (l:List α) (j:Nat),(l.modify j f).map p=l.map p
 | [],j=>by cases j <;> rfl
 | a :: l,0=>by simp [List.modify_zero_cons,hf]
 | a :: l,j + 1=>by simp [List.modify_succ_cons,Zfx hf l j]
theorem Rel.over (r:Rel P base w0 μ h w) {i:Nat} {o o':Zcp} {e:Pl} {x:Obj} (hi:h[i]?=some o) (ho:o.own=true) (hei:μ[i]?=some e) (hb:base≤e.b) (hown:o'.own=true)
  (hn:Zku P base w0 μ e { w with heap:=w.heap.setIfInBounds e.b x } o'):Rel P base w0 μ (h.set i o') { w with heap:=w.heap.setIfInBounds e.b x }:=
 r.change hi ho hei ⟨rfl,rfl,rfl,by simp,fun k hk=>by simp [show ¬ e.b=k by omega]⟩ (fun k hk _=>by simp [Ne.symm hk]) hn (.inl hown)
theorem Zzq {s:ByteArray} {es:List ME} {ents:List MapEntry} {j:Nat} {v:Zag} (hk:VRs μ (es.map (·.1)) (ents.map (·.key))) (hv:VRs μ (es.map (·.2.1)) (ents.map (·.val))) (hf:Zqs es (bytesOf s) 0=some (some (j,v))) :
  ∃ x,Instr.findNow .string (.string s) ents 0=some (some (j,x))∧∃ k0,ents[j]?=some k0∧k0.key=.string s:=by
 rcases Zqa hk hv hf with ⟨h1,_⟩ | ⟨j',v',x',k0,h1,_,h3,h4,h5,h6⟩
 ·cases h1
 ·cases h1; exact ⟨x',h4,k0,h5,h6⟩
theorem Zyv (r:Rel P base w0 μ h w) {t:TypeId} {a k v:Zag} {x y z:Value} (ha:VR μ a x) (hkk:VR μ k y) (hv:VR μ v z) {K:Zag→Zaa→Prop} (hk:Zjx P t h a k v K) :
  ∃ w' h',(Instr.mapUpdate t x y z).run P w=.ok () w'∧Rel P base w0 μ h' w'∧K .undef h':=by
 unfold Zjx at hk
 split at hk
 ·rename_i kt et hu
  replace hk:=Zbi hk
  obtain ⟨hs,hk⟩:=hk
  have hs:=Zma hs
  split at hk
  ·rename_i m
   unfold xMp at hk
   split at hk
   ·rename_i i
    obtain ⟨s,hse,hk⟩:=Zuv hk
    cases hse
    cases hkk with
    | str sb=>
    obtain ⟨es,clk,hi',hk1⟩:=Zhv hk
    ·cases ha with
     | map hmu=>
     rename_i e
     obtain ⟨hb0,ents,hg,hk1',hk2',hk3'⟩:=r.obj i _ hi' _ hmu
     have hchk:(Instr.checkKey false 10000 kt (.string sb)).run P w=.ok () w:=MapKept.run_checkKey (d:=.string) hs (by simp [MapKept.IsKey]) false 9999
     have hlt:=(Array.getElem?_eq_some_iff.1 hg).1
     unfold Ylc at hk1
     split at hk1
     ·rename_i j v0 hf
      obtain ⟨x0,hf2,k0,hj,hkey⟩:=Zzq hk1' hk2' hf
      have hfk:=MapKept.run_findKey (P:=P) (w:=w) hs hf2
      have hj':ents[j]?=some k0:=by simpa using hj
      have hst:∀ w:World,(Instr.keyThatStays k0.key (.string sb)).run P w=.ok (.string sb) w:=fun w=>by
       rw [hkey]; simp [Instr.keyThatStays,Instr.sameBits,(MapKept.bytes_beq sb sb).2 rfl]
      refine ⟨_,_,?_,r.over (x:=.map (ents.modify j fun e=>{ e with key:=.string sb,val:=z }) clk) hi' rfl hmu hb0 rfl ?_,hk1⟩
      ·simp [Instr.mapUpdate,run_underlying hu,MapKept.run_getObj_map hg,hchk,hfk,hj',hst,MapKept.run_setObj_map _ hg]
      ·refine ⟨hb0,ents.modify j fun e=>{ e with key:=.string sb,val:=z },by simp [hlt],?_,?_,?_⟩
       ·rw [Array.toList_modify]; exact VRs.modify (p:=fun (x:ME)=>x.1) (q:=fun (x:MapEntry)=>x.key) (v:=.str (bytesOf sb)) (k:=.string sb) (.str sb) (fun _=>rfl) (fun _=>rfl) j hk1'
       ·rw [Array.toList_modify]; exact VRs.modify (p:=fun (x:ME)=>x.2.1) (q:=fun (x:MapEntry)=>x.val) (v:=v) (k:=z) hv (fun _=>rfl) (fun _=>rfl) j hk2'
       ·rw [Array.toList_modify,Zfx (p:=fun (x:ME)=>x.2.2) (f:=fun e=>(.str (bytesOf sb),v,e.2.2)) (fun _=>rfl) es j,Zfx (p:=fun (x:MapEntry)=>x.born) (f:=fun e=>{ e with key:=.string sb,val:=z }) (fun _=>rfl) ents.toList j]; exact hk3'
     ·rename_i hf
      rcases Zqa hk1' hk2' hf with ⟨_,h4⟩ | ⟨j',v',x',k0,h1,_⟩
      ·have hfk:=MapKept.run_findKey (P:=P) (w:=w) hs h4
       refine ⟨_,_,?_,r.over (x:=.map (ents.push { key:=.string sb,val:=z,born:=clk }) (clk + 1)) hi' rfl hmu hb0 rfl ?_,hk1⟩
       ·simp [Instr.mapUpdate,run_underlying hu,MapKept.run_getObj_map hg,hchk,hfk,MapKept.run_setObj_map _ hg]
       ·refine ⟨hb0,ents.push { key:=.string sb,val:=z,born:=clk },by simp [hlt],?_,?_,?_⟩
        ·simpa using hk1'.append (.cons (.str sb) .nil)
        ·simpa using hk2'.append (.cons hv .nil)
        ·simp [hk3']
      ·cases h1
     ·exact hk1.elim
   ·exact hk.elim
  ·exact hk.elim
 ·exact hk.elim
theorem Ydf (r:Rel P base w0 μ h w) {t:TypeId} {a:Option Zag} {x:Option Value} (hax:(a=none∧x=none) ∨ ∃ v y,a=some v∧x=some y∧VR μ v y) {K:Zag→Zaa→Prop} (hk:Zoi P t a h K) :
  Res P base w0 μ ((Instr.makeMap t x).run P w) K:=by
 have fin:K (.map (some h.length)) (h ++ [.map [] 0])→(Instr.makeMap t x).run P w=.ok (.map (some w.heap.size)) (w.alloc (.map #[] 0))→Res P base w0 μ ((Instr.makeMap t x).run P w) K:=by
  intro hk hr
  have hrel:=r.new (o:=.map [] 0) (e:=⟨w.heap.size,0,true,0,0⟩) ((Below.refl _ w).alloc (Nat.le_refl _) (.map #[] 0)) (Nat.le_refl _) (by
   refine ⟨r.size,#[],?_,.nil,.nil,rfl⟩
   show (w.heap.push _)[w.heap.size]?=_
   simp)
  exact ⟨_,_,_,_,_,hr,Ext.app _ _,hrel,.map (e:=⟨w.heap.size,0,true,0,0⟩) (r.last _),hk⟩
 unfold Zoi at hk
 rcases hax with ⟨rfl,rfl⟩ | ⟨v,y,rfl,rfl,hv⟩
 ·exact fin hk rfl
 ·split at hk
  ·rename_i h0; cases h0
  ·rename_i h0
   cases h0
   replace hk:=Zbi hk
   obtain ⟨hm,hk⟩:=hk
   obtain ⟨kt,et,hu⟩:=Zyt hm
   cases hv
   exact fin hk (by simp only [Instr.makeMap,Sem.run_bind,run_underlying hu,Result.andThen_ok,asInt,Sem.run_pure]; rfl)
  ·exact hk.elim
theorem Yiz (r:Rel P base w0 μ h w) {t:TypeId} {a:Zag} {x:Value} (ha:VR μ a x) {K:Zag→Zaa→Prop} (hk:Zuw P t a h K):Res P base w0 μ ((Instr.range t x).run P w) K:=by
 unfold Zuw at hk
 split at hk
 ·cases ha
  rename_i sb
  replace hk:=Zbi hk
  obtain ⟨hs,hk⟩:=hk
  have hs:=Zma hs
  have hrel:=r.new (o:=.iter (bytesOf sb) 0) (e:=⟨w.heap.size,0,true,0,0⟩) ((Below.refl _ w).alloc (Nat.le_refl _) (.stringIter sb 0)) (Nat.le_refl _) (by
   refine ⟨r.size,rfl,sb,rfl,?_⟩
   show (w.heap.push _)[w.heap.size]?=_
   simp)
  exact ⟨_,_,_,_,_,run_range_string w t sb hs,Ext.app _ _,hrel,.iter (e:=⟨w.heap.size,0,true,0,0⟩) (r.last _) rfl,hk⟩
 ·rename_i m
  replace hk:=Zbi hk
  obtain ⟨hm,hk⟩:=hk
  obtain ⟨kt,et,hu⟩:=Zyt hm
  rcases Zks hk with ⟨rfl,hk1⟩ | ⟨i,es,clk,rfl,hi,hk1⟩
  ·cases ha
   have hrel:=r.new (o:=.miter none 0 [] 0) (e:=⟨w.heap.size,0,true,0,0⟩) ((Below.refl _ w).alloc (Nat.le_refl _) (.mapIter none 0 #[] 0)) (Nat.le_refl _) (by
    refine ⟨r.size,rfl,none,?_,.inl ⟨rfl,rfl⟩⟩
    show (w.heap.push _)[w.heap.size]?=_
    simp)
   exact ⟨_,_,_,_,_,by simp only [Instr.range,Sem.run_bind,run_underlying hu,Result.andThen_ok,Sem.run_pure]; rfl,Ext.app _ _,hrel,.iter (e:=⟨w.heap.size,0,true,0,0⟩) (r.last _) rfl,hk1⟩
  ·cases ha with
   | map hmu=>
   rename_i e
   obtain ⟨hb0,ents,hg,hk1',hk2',hk3'⟩:=r.obj i _ hi _ hmu
   have hrel:=r.new (o:=.miter (some i) clk [] clk) (e:=⟨w.heap.size,0,true,0,0⟩) ((Below.refl _ w).alloc (Nat.le_refl _) (.mapIter (some e.b) clk #[] clk)) (Nat.le_refl _) (by
    refine ⟨r.size,rfl,some e.b,?_,.inr ⟨i,e,rfl,rfl,Ext.app _ _ _ _ hmu⟩⟩
    show (w.heap.push _)[w.heap.size]?=_
    simp)
   exact ⟨_,_,_,_,_,by simp only [Instr.range,Sem.run_bind,run_underlying hu,Result.andThen_ok,Sem.run_pure,MapKept.run_getObj_map hg]; rfl,Ext.app _ _,hrel,.iter (e:=⟨w.heap.size,0,true,0,0⟩) (r.last _) rfl,hk1⟩
 ·exact hk.elim
theorem Ydb {r:Nat} {K:List Nat→Nat→Prop} (hk:Yee h r K):∃ s pos,h[r]?=some (.iter s pos)∧K s pos:=by
 unfold Yee at hk
 split at hk
 ·rename_i hi; exact ⟨_,_,hi,hk⟩
 ·exact hk.elim
theorem Zua {r:Nat} {K:Option Nat→Nat→List Nat→Nat→Prop} (hk:Zss h r K):∃ m a b c,h[r]?=some (.miter m a b c)∧K m a b c:=by
 unfold Zss at hk
 split at hk
 ·rename_i hi; exact ⟨_,_,_,_,hi,hk⟩
 ·exact hk.elim
theorem VRs.mem2 {α β:Type} {p p':α→Zag} {q q':β→Value} {c:α→Nat} {d:β→Nat}:∀ {l:List α} {m:List β},VRs μ (l.map p) (m.map q)→VRs μ (l.map p') (m.map q')→l.map c=m.map d→∀ y∈m,∃ x∈l,VR μ (p x) (q y)∧VR μ (p' x) (q' y)∧c x=d y
 | [],[],_,_,_,y,hy=>by simp at hy
 | [],_ :: _,h,_,_,_,_=>by cases h
 | _ :: _,[],h,_,_,_,_=>by cases h
 | a :: l,b :: m,h,h',hc,y,hy=>by
  simp only [List.map_cons] at h h' hc
  cases h with
  | cons h1 h2=>
  cases h' with
  | cons h1' h2'=>
  simp only [List.cons.injEq] at hc
  rcases List.mem_cons.1 hy with rfl | hy
  ·exact ⟨a,by simp,h1,h1',hc.1⟩
  ·obtain ⟨x,hx,hr⟩:=VRs.mem2 h2 h2' hc.2 y hy
   exact ⟨x,by simp [hx],hr⟩
theorem Yie (r:Rel P base w0 μ h w) {a:Zag} {x:Value} {isStr:Bool} {ty:TypeId} (ha:VR μ a x) {K:Zag→Zaa→Prop} (hk:Yec P ty a isStr h K):Res P base w0 μ ((Instr.next x isStr ty).run P w) K:=by
 unfold Yec at hk
 split at hk
 ·rename_i i
  cases ha with
  | iter hmu ho=>
  rename_i e
  split at hk
  ·obtain ⟨s,pos,hi,hk⟩:=Ydb hk
   obtain ⟨hb0,ho2,s',rfl,hg⟩:=r.obj i _ hi _ hmu
   have hlt:=(Array.getElem?_eq_some_iff.1 hg).1
   have hget:(getObj e.b).run P w=.ok (.stringIter s' pos) w:=by simp [getObj,Sem.run,hg]
   have hset:∀ o,(setObj e.b o).run P w=.ok () { w with heap:=w.heap.setIfInBounds e.b o }:=fun o=>by simp [setObj,Sem.run,hg]
   by_cases hp:pos < s'.size
   ·obtain ⟨hc,hk⟩:=hk.1 (by rw [Zdg]; exact hp)
    have hby:(bytesOf s').getD pos 0=(s'[pos]'hp).toNat:=by
     have hlt':pos < s'.data.size:=hp
     have hq:s'.data[pos]?=some s'[pos]:=by rw [Array.getElem?_eq_getElem hlt']; rfl
     simp only [bytesOf,List.getD,List.getElem?_map,Array.getElem?_toList,hq]; rfl
    rw [hby] at hc hk
    have hd:=decode_ascii s' pos hp hc
    refine ⟨.tuple #[.bool true,.int .i64 pos,.int .i32 (s'[pos]'hp).toNat],_,μ,_,_,?_,Ext.refl _,r.over (x:=.stringIter s' (pos + 1)) hi rfl hmu hb0 rfl ?_,.tup (.cons (.bool _) (.cons (.int _ _) (.cons (.int _ _) .nil))),hk⟩
    ·simp [Instr.next,hget,hp,hd,hset,goInt]
    ·exact ⟨hb0,ho2,s',rfl,by simp [hlt]⟩
   ·refine ⟨.tuple #[.bool false],w,μ,_,h,?_,Ext.refl _,r,.tup (.cons (.bool _) .nil),hk.2 (by rw [Zdg]; omega)⟩
    simp [Instr.next,hget,hp]
  ·obtain ⟨m,since,seen,last,hi,hk⟩:=Zua hk
   obtain ⟨hb0,ho2,m',hg,hm⟩:=r.obj i _ hi _ hmu
   have hlt:=(Array.getElem?_eq_some_iff.1 hg).1
   rcases hm with ⟨rfl,rfl⟩ | ⟨mi,p,rfl,rfl,hmp⟩
   ·refine ⟨.tuple #[.bool false],w,μ,_,h,?_,Ext.refl _,r,.tup (.cons (.bool _) .nil),hk⟩
    have hget:(getObj e.b).run P w=.ok (.mapIter none since seen.toArray last) w:=by simp [getObj,Sem.run,hg]
    simp [Instr.next,hget]
   ·obtain ⟨es,clk,hmi,hk⟩:=Zhv hk
    obtain ⟨hb1,ents,hg1,hk1',hk2',hk3'⟩:=r.obj mi _ hmi _ hmp
    obtain ⟨⟨hold,hsl⟩,hover,hstep⟩:=hk
    have hborn:∀ y∈ents.toList,∃ x∈es,VR μ x.1 y.key∧VR μ x.2.1 y.val∧x.2.2=y.born:=VRs.mem2 (p:=fun (x:ME)=>x.1) (p':=fun (x:ME)=>x.2.1) (q:=fun (x:MapEntry)=>x.key) (q':=fun (x:MapEntry)=>x.val) (c:=fun (x:ME)=>x.2.2) (d:=fun (x:MapEntry)=>x.born) hk1' hk2' hk3'
    rcases run_next_at (P:=P) w ty e.b p.b since last seen.toArray ents clk hg hg1 (fun y hy=>by obtain ⟨x,hx,_,_,hb⟩:=hborn y hy; rw [← hb]; exact hold x hx) hsl with ⟨hz,hr⟩ | ⟨en,hen,w1,hw1,hr⟩
    ·refine ⟨_,_,μ,_,h,hr,Ext.refl _,r,.tup (.cons (.bool _) .nil),hover ?_⟩
     intro x hx
     have hmem:x.2.2∈ents.toList.map (·.born):=by rw [← hk3']; exact List.mem_map_of_mem hx
     obtain ⟨y,hy,hyb⟩:=List.mem_map.1 hmem
     have he:leftOf ents seen.toArray=#[]:=Array.eq_empty_of_size_eq_zero hz
     unfold leftOf at he
     rw [Array.filter_eq_empty_iff] at he
     have:=he y (by simpa using hy)
     rw [← hyb]; simpa using this
    ·have hen':en∈ents.toList∧en.born ∉ seen:=by
      unfold leftOf at hen
      simpa using hen
     obtain ⟨x,hx,hxk,hxv,hxb⟩:=hborn en hen'.1
     have hr1:Rel P base w0 μ h w1:=by
      rcases hw1 with rfl | rfl
      ·exact r
      ·exact r.grow ⟨rfl,rfl,rfl,Nat.le_refl _,fun _ _=>rfl⟩
     have hwh:w1.heap=w.heap:=by rcases hw1 with rfl | rfl <;> rfl
     have hst:=hstep x hx (by rw [hxb]; exact hen'.2)
     obtain ⟨a1,ha1,hst⟩:=Zhy hst
     obtain ⟨b1,hb1,hst⟩:=Zhy hst
     cases ha1; cases hb1
     refine ⟨_,_,μ,_,_,hr,Ext.refl _,hr1.over (x:=.mapIter (some p.b) since (seen.toArray.push en.born) clk) hi rfl hmu hb0 rfl ?_,.tup (.cons (.bool _) (.cons hxk (.cons hxv .nil))),hst⟩
     refine ⟨hb0,ho2,some p.b,by simp [hwh,hlt,hxb],.inr ⟨mi,p,rfl,rfl,hmp⟩⟩
 ·exact hk.elim
theorem Yil (r:Rel P base w0 μ h w) {a:Zag} {x:Value} (ha:VR μ a x) {K:Zag→Prop} {ty:TypeId} (hk:Zvo P ty a h K):∃ y v,(Instr.entry x).run P w=.ok y w∧VR μ v y∧K v:=by
 unfold Zvo at hk
 split at hk
 ·rename_i i
  cases ha with
  | iter hmu ho=>
  rename_i e
  obtain ⟨m,since,seen,last,hi,hk⟩:=Zua hk
  unfold xMp at hk
  split at hk
  ·rename_i mi
   obtain ⟨es,clk,hmi,⟨hnd,rfl⟩,x,hx,s0,rfl,hkK⟩:=Zhv hk
   obtain ⟨hb0,ho2,m',hg,hm⟩:=r.obj i _ hi _ hmu
   rcases hm with ⟨h0,_⟩ | ⟨mi',p,h0,rfl,hmp⟩
   ·cases h0
   ·cases h0
    obtain ⟨hb1,ents,hg1,hk1',hk2',hk3'⟩:=r.obj mi _ hmi _ hmp
    obtain ⟨a1,ha1,hkK⟩:=Zhy hkK
    obtain ⟨b1,hb1,hkK⟩:=Zhy hkK
    cases ha1; cases hb1
    have hmem:x.2.2∈ents.toList.map (·.born):=by rw [← hk3']; exact List.mem_map_of_mem hx
    obtain ⟨y,hy,hyb⟩:=List.mem_map.1 hmem
    obtain ⟨x',hx',hxk,hxv,hxb⟩:=VRs.mem2 (p:=fun (x:ME)=>x.1) (p':=fun (x:ME)=>x.2.1) (q:=fun (x:MapEntry)=>x.key) (q':=fun (x:MapEntry)=>x.val) (c:=fun (x:ME)=>x.2.2) (d:=fun (x:MapEntry)=>x.born) hk1' hk2' hk3' y hy
    have hxx:x'=x:=by
     obtain ⟨j,hj⟩:=List.getElem?_of_mem hx
     obtain ⟨j',hj'⟩:=List.getElem?_of_mem hx'
     have e1:(es.map (·.2.2))[j]?=some x.2.2:=by rw [List.getElem?_map,hj]; rfl
     have e2:(es.map (·.2.2))[j']?=some x.2.2:=by rw [List.getElem?_map,hj',Option.map_some,hxb,hyb]
     have:=(List.getElem?_inj (List.getElem?_eq_some_iff.1 e1).1 hnd).1 (e1.trans e2.symm)
     subst this
     rw [hj] at hj'; cases hj'; rfl
    subst hxx
    have hr:=run_entry_at (P:=P) w e.b p.b since s0.toArray ents clk y (by rw [← hyb] at hg; simpa using hg) hg1 hy (by rw [← hk3']; exact hnd)
    exact ⟨_,_,hr,.tup (.cons hxk (.cons hxv .nil)),hkK⟩
  ·exact hk.elim
 ·exact hk.elim
end
end Go.Sim

set_option linter.unusedSimpArgs false
namespace Go.Sim
open Go Go.RowKit

def Ycl (P:Program) (t:TypeId) (h:Zaa) (s:Zag) (K:Zag→Zaa→Prop):Prop:=
 match P.underlying t with
 | some (.slice e)=>(match s with
  | .slice a n _ _=>(n=0→K (.tup []) h)∧(n≠0→Zcy (Zwj P e) fun z=>chk (z.all Zag.leaf=true∧0 < z.length) (Zcf (Zbd h (.ptr a) (reps n z)) fun h'=>K (.tup []) h'))
  | _=>False)
 | _=>False
section
variable {P:Program} {base:Nat} {w0:World} {μ:List Pl} {h:Zaa} {w:World}
theorem Yiu (r:Rel P base w0 μ h w) {i o:Nat} {e:Pl} (hmu:μ[i]?=some e) {vs:List Zag} {ys:List Value} (hvs:VRs μ vs ys) (h1:∀ y∈ys,y.oneCell'=true) {h':Zaa} (hst:Zbd h (.ptr (some (i,o))) vs=some h') :
  ∃ w',(storeCells ⟨e.b,e.o + o,none⟩ ys).run P w=.ok () w'∧Rel P base w0 μ h' w':=by
 simp only [Zbd] at hst
 ·split at hst
  ·rename_i et cs hi
   split at hst
   ·rename_i hle
    cases hst
    have hobj:=r.obj i _ hi e hmu
    obtain ⟨C,el,fr,hg,hcs,hown⟩:=hobj
    simp only [Bool.false_eq_true,if_false] at hown
    obtain ⟨ho1,ho0,rfl,rfl,hn,hcz,hbase⟩:=hown
    have hlen:=hvs.length
    have hcl:=hcs.length
    have hCl:cs.length≤C.size:=by simp at hcl; omega
    rw [ho0] at hcs
    simp only [List.drop_zero] at hcs
    have hfit:(e.o + o) + 0 + ys.length≤C.size:=by rw [← hlen,ho0]; omega
    have hst:=run_storeCells_at (P:=P) e.b (e.o + o) el ys 0 C w hg hfit h1
    simp only [Nat.add_zero] at hst
    refine ⟨w.setRow e.b (C.toList.take (e.o + o) ++ ys ++ C.toList.drop (e.o + o + ys.length)).toArray,hst,?_⟩
    refine r.change (o:=.cells el cs false) hi rfl hmu ⟨rfl,rfl,rfl,by simp [World.setRow],fun k hk=>setRow_other w e.b k _ (by omega)⟩ (fun k hk _=>setRow_other w e.b k _ hk) ?_ (.inl rfl)
    refine ⟨_,el,(0,0),setRow_heap w e.b C _ el _ hg,?_,?_⟩
    ·have hpl:(Zbm cs o vs).length=cs.length:=by simp [Zbm]; omega
     rw [hpl,ho0]
     simp only [List.drop_zero,Nat.zero_add]
     have:=hcs.put hvs o
     have e2:((C.toList.take o ++ ys ++ C.toList.drop (o + ys.length)).take cs.length)=((C.toList.take cs.length).take o ++ ys ++ (C.toList.take cs.length).drop (o + ys.length)):=by
      apply List.ext_getElem?
      intro j
      simp only [List.getElem?_take,List.getElem?_append,List.length_append,List.length_take,List.getElem?_drop,Array.length_toList]
      have:=hlen
      by_cases h1:j < cs.length <;> by_cases h2:j < o <;> simp [h1,h2] <;> (try omega) <;> (repeat' split) <;> (try omega) <;> (try rfl) <;> (try (congr 1; omega))
     rw [e2]; exact this
    ·simp only [Bool.false_eq_true,if_false]
     refine ⟨ho1,ho0,trivial,trivial,?_,hcz,hbase⟩
     simp only [List.size_toArray,List.length_append,List.length_take,List.length_drop,Array.length_toList] at hfit ⊢
     omega
   ·cases hst
  ·cases hst
theorem Yin (r:Rel P base w0 μ h w) {t ty:TypeId} {s:Zag} {x:Value} (hs:VR μ s x) {K:Zag→Zaa→Prop} (hk:Ycl P t h s K) :
  Res P base w0 μ ((Builtin.clear_ #[t] ty #[x]).run P w) K:=by
 unfold Ycl at hk
 split at hk
 ·rename_i e hu
  split at hk
  ·rename_i a n c ex
   obtain ⟨k0,k1⟩:=hk
   by_cases hn:n=0
   ·subst hn
    refine ⟨.tuple #[],w,μ,.tup [],h,?_,Ext.refl _,r,.tup .nil,k0 rfl⟩
    cases hs <;> first | (simp [Builtin.clear_,run_underlying hu]; done) | (rename_i aa; cases aa <;> simp [Builtin.clear_,run_underlying hu]; done) | (rename_i aa bb; cases aa <;> simp [Builtin.clear_,run_underlying hu]; done) | (rename_i aa bb; cases bb <;> simp [Builtin.clear_,run_underlying hu]; done)
   ·obtain ⟨z,hz,hk⟩:=Zfn (k1 hn)
    replace hk:=Zbi hk; obtain ⟨⟨hl,hpos⟩,hk⟩:=hk
    obtain ⟨ii,zv,_,_,hzv,hzr⟩:=Zqw (μ:=μ) hz
    unfold Zcf at hk
    split at hk
    ·rename_i h' hst
     have hsz:0 < zv.cells.size:=by have:=hzv.length; simp at this; omega
     have hv:=hzv.reps n
     rw [← Zsk n zv.cells hsz] at hv
     cases hs with
     | slice hmu hle1 hle2 he1 he2=>
      have h1:∀ y∈(Builtin.zeroCells zv.cells n).toList,y.oneCell'=true:=by
       intro y hy
       have hall:=hzv.leaf1 hl
       have hy':y∈(List.replicate n zv.cells.toList).flatten:=by rw [← Zsk n zv.cells hsz]; exact hy
       obtain ⟨l,hl1,hl2⟩:=List.mem_flatten.1 hy'
       rw [List.mem_replicate] at hl1
       rw [hl1.2] at hl2
       exact hall y hl2
      obtain ⟨w',hr,hrel⟩:=Yiu r hmu (ys:=(Builtin.zeroCells zv.cells n).toList) hv h1 hst
      refine ⟨.tuple #[],w',μ,.tup [],h',?_,Ext.refl _,hrel,.tup .nil,hk⟩
      obtain ⟨m,rfl⟩:∃ m,n=m + 1:=⟨n - 1,by omega⟩
      simp [Builtin.clear_,run_underlying hu,hzr w,hr]
     | _=>first | omega | simp [Zbd] at hst
    ·exact hk.elim
  ·exact hk.elim
 ·exact hk.elim
end
end Go.Sim
