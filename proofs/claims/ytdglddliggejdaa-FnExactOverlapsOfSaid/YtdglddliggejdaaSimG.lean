/- A part of the proof of a statement of this seat: see the text that holds the theorem. No condition. -/
import Derived.WalkKit
import Derived.Below
import Derived.KernelRfl
import Derived.Laws.Rows
import Derived.Laws.CopyRow
import Derived.Laws.AppendOwn
import Derived.ChangeKeysEq
import Derived.Laws.Slices
import Derived.Laws.StructEq
import Derived.Laws.Strings
import Derived.Laws.Pointers
import Derived.Laws.Small
import Derived.Sort.Walk0
set_option linter.unusedVariables false
set_option linter.unusedSimpArgs false
set_option linter.all false
namespace Go.Sim
open Go Go.RowKit

inductive Zag where
 | undef
 | bool (b:Bool)
 | int (k:IntKind) (n:Int)
 | str (s:List Nat)
 | ptr (a:Option (Nat × Nat))
 | slice (a:Option (Nat × Nat)) (len cap:Nat) (exact:Bool)
 | map (r:Option Nat)
 | fn (f:FuncId) (caps:List Zag)
 | nilFn
 | iter (r:Nat)
 | agg (cs:List Zag)
 | tup (vs:List Zag)
 deriving Inhabited

def bytesOf (s:ByteArray):List Nat:=s.data.toList.map UInt8.toNat

structure Pl where
 b:Nat
 o:Nat
 own:Bool
 n:Nat
 sz:Nat

mutual
inductive VR (μ:List Pl):Zag→Value→Prop
 | undef (x:Value):VR μ .undef x
 | bool (b:Bool):VR μ (.bool b) (.bool b)
 | int (k:IntKind) (n:Int):VR μ (.int k n) (.int k n)
 | str (s:ByteArray):VR μ (.str (bytesOf s)) (.string s)
 | ptr0:VR μ (.ptr none) (.pointer none)
 | ptr {i o:Nat} {e:Pl}:μ[i]?=some e→VR μ (.ptr (some (i,o))) (.pointer (some ⟨e.b,e.o + o,none⟩))
 | slice0:VR μ (.slice none 0 0 true) (.slice none 0 0)
 | sliceE0 {a:Option Addr}:VR μ (.slice none 0 0 false) (.slice a 0 0)
 | sliceE1 {a:Option Addr} {cap:Nat}:VR μ (.slice none 0 1 false) (.slice a 0 cap)
 | slice {i o n c cap:Nat} {ex:Bool} {e:Pl}:μ[i]?=some e→n≤c→c≤cap→(ex=true→cap=c) →
   (e.own=true→o=0→cap * e.sz≤e.n)→VR μ (.slice (some (i,o)) n c ex) (.slice (some ⟨e.b,e.o + o,none⟩) n cap)
 | map0:VR μ (.map none) (.map none)
 | map {i:Nat} {e:Pl}:μ[i]?=some e→VR μ (.map (some i)) (.map (some e.b))
 | fn {f:FuncId} {cs:List Zag} {xs:Array Value}:VRs μ cs xs.toList→VR μ (.fn f cs) (.func (.func f) #[] xs)
 | nilFn:VR μ .nilFn .nilFunc
 | iter {i:Nat} {e:Pl}:μ[i]?=some e→e.o=0→VR μ (.iter i) (.pointer (some ⟨e.b,0,none⟩))
 | agg {cs:List Zag} {xs:Array Value}:VRs μ cs xs.toList→VR μ (.agg cs) (.agg xs)
 | tup {cs:List Zag} {xs:Array Value}:VRs μ cs xs.toList→VR μ (.tup cs) (.tuple xs)
inductive VRs (μ:List Pl):List Zag→List Value→Prop
 | nil:VRs μ [] []
 | cons {v:Zag} {x:Value} {vs:List Zag} {xs:List Value}:VR μ v x→VRs μ vs xs→VRs μ (v :: vs) (x :: xs)
end

def Ext (μ μ':List Pl):Prop:=∀ (i:Nat) (e:Pl),μ[i]?=some e→μ'[i]?=some e
theorem Ext.refl (μ:List Pl):Ext μ μ:=fun _ _ h=>h
theorem Ext.trans {a b c:List Pl} (h:Ext a b) (k:Ext b c):Ext a c:=fun i e hi=>k i e (h i e hi)
theorem Ext.app (μ l:List Pl):Ext μ (μ ++ l):=fun i e h=>by
 obtain ⟨hlt,_⟩:=List.getElem?_eq_some_iff.1 h
 rw [List.getElem?_append_left hlt]; exact h

mutual
theorem VR.ext {μ μ':List Pl} (h:Ext μ μ'):∀ {v:Zag} {x:Value},VR μ v x→VR μ' v x
 | _,_,.undef x=>.undef x
 | _,_,.bool b=>.bool b
 | _,_,.int k n=>.int k n
 | _,_,.str s=>.str s
 | _,_,.ptr0=>.ptr0
 | _,_,.ptr hi=>.ptr (h _ _ hi)
 | _,_,.slice0=>.slice0
 | _,_,.sliceE0=>.sliceE0
 | _,_,.sliceE1=>.sliceE1
 | _,_,.slice hi a b c d=>.slice (h _ _ hi) a b c d
 | _,_,.map0=>.map0
 | _,_,.map hi=>.map (h _ _ hi)
 | _,_,.fn hs=>.fn (VRs.ext h hs)
 | _,_,.nilFn=>.nilFn
 | _,_,.iter hi ho=>.iter (h _ _ hi) ho
 | _,_,.agg hs=>.agg (VRs.ext h hs)
 | _,_,.tup hs=>.tup (VRs.ext h hs)
theorem VRs.ext {μ μ':List Pl} (h:Ext μ μ'):∀ {vs:List Zag} {xs:List Value},VRs μ vs xs→VRs μ' vs xs
 | _,_,.nil=>.nil
 | _,_,.cons a b=>.cons (VR.ext h a) (VRs.ext h b)
end

theorem VRs.length {μ:List Pl}:∀ {vs:List Zag} {xs:List Value},VRs μ vs xs→vs.length=xs.length
 | _,_,.nil=>rfl
 | _,_,.cons _ b=>by simp [VRs.length b]
theorem VRs.get {μ:List Pl}:∀ {vs:List Zag} {xs:List Value},VRs μ vs xs→∀ {j:Nat} {v:Zag},vs[j]?=some v→∃ x,xs[j]?=some x∧VR μ v x
 | _,_,.nil,j,v,h=>by simp at h
 | _,_,.cons a b,0,v,h=>by simp at h; subst h; exact ⟨_,rfl,a⟩
 | _,_,.cons a b,j + 1,v,h=>by simp at h; obtain ⟨x,hx,r⟩:=b.get h; exact ⟨x,by simpa using hx,r⟩
theorem VRs.of {μ:List Pl}:∀ {vs:List Zag} {xs:List Value},vs.length=xs.length→(∀ (j:Nat) (v:Zag) (x:Value),vs[j]?=some v→xs[j]?=some x→VR μ v x)→VRs μ vs xs
 | [],[],_,_=>.nil
 | v :: vs,x :: xs,hl,h=>.cons (h 0 v x rfl rfl) (VRs.of (by simpa using hl) (fun j v x a b=>h (j + 1) v x (by simpa using a) (by simpa using b)))
 | [],_ :: _,hl,_=>by simp at hl
 | _ :: _,[],hl,_=>by simp at hl
theorem VRs.append {μ:List Pl}:∀ {vs ws:List Zag} {xs ys:List Value},VRs μ vs xs→VRs μ ws ys→VRs μ (vs ++ ws) (xs ++ ys)
 | _,_,_,_,.nil,h=>h
 | _,_,_,_,.cons a b,h=>.cons a (VRs.append b h)
theorem VRs.take {μ:List Pl}:∀ {vs:List Zag} {xs:List Value} (n:Nat),VRs μ vs xs→VRs μ (vs.take n) (xs.take n)
 | _,_,0,_=>by simp; exact .nil
 | _,_,_ + 1,.nil=>.nil
 | _,_,n + 1,.cons a b=>.cons a (VRs.take n b)
theorem VRs.drop {μ:List Pl}:∀ {vs:List Zag} {xs:List Value} (n:Nat),VRs μ vs xs→VRs μ (vs.drop n) (xs.drop n)
 | _,_,0,h=>h
 | _,_,_ + 1,.nil=>.nil
 | _,_,n + 1,.cons _ b=>VRs.drop n b
theorem VRs.replicate {μ:List Pl} {v:Zag} {x:Value} (h:VR μ v x):∀ n,VRs μ (List.replicate n v) (List.replicate n x)
 | 0=>.nil
 | n + 1=>.cons h (VRs.replicate h n)

inductive Zcp where
 | cells (t:TypeId) (cs:List Zag) (ro:Bool)
 | map (es:List (Zag × Zag × Nat)) (clk:Nat)
 | iter (s:List Nat) (pos:Nat)
 | miter (m:Option Nat) (since:Nat) (seen:List Nat) (last:Nat)
 | dead
 | amb (φ:Nat→World→Prop)
 deriving Inhabited

abbrev Zaa:=List Zcp

def Zcp.own:Zcp→Bool
 | .cells _ _ ro=>!ro
 | .dead=>false
 | .amb _=>false
 | _=>true

def Zku (P:Program) (base:Nat) (w0:World) (μ:List Pl) (e:Pl) (w:World):Zcp→Prop
 | .cells t cs ro=>∃ C el fr,w.heap[e.b]?=some (.cells C el fr)∧VRs μ cs ((C.toList.drop e.o).take cs.length) ∧
   (if ro then e.own=false∧e.b < base else e.own=true∧e.o=0∧el=t∧fr=(0,0)∧C.size=e.n∧P.cellsOf t=e.sz∧base≤e.b)
 | .map es clk=>base≤e.b∧∃ ents,w.heap[e.b]?=some (.map ents clk)∧VRs μ (es.map (·.1)) (ents.toList.map (·.key))∧VRs μ (es.map (·.2.1)) (ents.toList.map (·.val))∧es.map (·.2.2)=ents.toList.map (·.born)
 | .iter s pos=>base≤e.b∧e.o=0∧∃ s',bytesOf s'=s∧w.heap[e.b]?=some (.stringIter s' pos)
 | .miter m since seen last=>base≤e.b∧e.o=0∧∃ m',w.heap[e.b]?=some (.mapIter m' since seen.toArray last)∧((m=none∧m'=none) ∨ ∃ i p,m=some i∧m'=some p.b∧μ[i]?=some p)
 | .dead=>True
 | .amb φ=>φ base w0
def Zcp.still:Zcp→Bool
 | .dead=>true
 | .amb _=>true
 | _=>false

structure Rel (P:Program) (base:Nat) (w0:World) (μ:List Pl) (h:Zaa) (w:World):Prop where
 below:Below base w0 w
 len:μ.length=h.length
 obj:∀ (i:Nat) (o:Zcp),h[i]?=some o→∀ e:Pl,μ[i]?=some e→Zku P base w0 μ e w o
 sep:∀ (i j:Nat) (oi oj:Zcp) (ei ej:Pl),i≠j→h[i]?=some oi→h[j]?=some oj→oi.own=true→oj.own=true→μ[i]?=some ei→μ[j]?=some ej→ei.b≠ej.b
 size:base≤w.heap.size

theorem Rel.get {P:Program} {base:Nat} {w0:World} {μ:List Pl} {h:Zaa} {w:World} (r:Rel P base w0 μ h w) {i:Nat} {o:Zcp} (hi:h[i]?=some o):∃ e,μ[i]?=some e∧Zku P base w0 μ e w o:=by
 have hlt:i < μ.length:=by rw [r.len]; exact (List.getElem?_eq_some_iff.1 hi).1
 exact ⟨μ[i],List.getElem?_eq_getElem hlt,r.obj i o hi _ (List.getElem?_eq_getElem hlt)⟩

abbrev Env:=List (Nat × Zag)
def Env.get:Env→Nat→Zag
 | [],_=>.undef
 | (t,v) :: r,s=>match Nat.beq t s with | true=>v | false=>Env.get r s
def Env.set:Env→Nat→Zag→Env
 | [],s,x=>[(s,x)]
 | (t,v) :: r,s,x=>match Nat.beq t s with | true=>(t,x) :: r | false=>(t,v) :: Env.set r s x
def Env.keep (env:Env) (ks:List Nat):Env:=ks.map fun t=>(t,env.get t)
def Env.args:Nat→List Zag→Env
 | _,[]=>[]
 | i,v :: r=>(i,v) :: Env.args (i + 1) r

def Zkw (μ:List Pl) (env:Env) (tmps:Array Value):Prop:=∀ t,VR μ (env.get t) (tmps.getD t undef)

theorem Env.get_set (env:Env) (s:Nat) (x:Zag) (t:Nat):(env.set s x).get t=if t=s then x else env.get t:=by
 induction env with
 | nil=>
  simp only [Env.set,Env.get]
  by_cases h:t=s
  ·subst h; simp
  ·rw [if_neg h]
   cases hb:Nat.beq s t with
   | true=>exact absurd (Nat.eq_of_beq_eq_true hb).symm h
   | false=>rfl
 | cons p r ih=>
  obtain ⟨q,v⟩:=p
  simp only [Env.set,Env.get]
  cases hqs:Nat.beq q s with
  | true=>
   have e:=Nat.eq_of_beq_eq_true hqs; subst e
   simp only [Env.get]
   cases hqt:Nat.beq q t with
   | true=>have e:=Nat.eq_of_beq_eq_true hqt; subst e; simp
   | false=>
    have:t≠q:=fun e=>by subst e; simp at hqt
    simp [this]
  | false=>
   simp only [Env.get]
   cases hqt:Nat.beq q t with
   | true=>
    have e:=Nat.eq_of_beq_eq_true hqt; subst e
    have:q≠s:=fun e=>by subst e; simp at hqs
    simp [this]
   | false=>exact ih
theorem Env.get_keep (env:Env) (ks:List Nat) (t:Nat):(env.keep ks).get t=env.get t ∨ (env.keep ks).get t=.undef:=by
 induction ks with
 | nil=>exact .inr rfl
 | cons k ks ih=>
  simp only [Env.keep,List.map_cons,Env.get]
  cases hb:Nat.beq k t with
  | true=>have e:=Nat.eq_of_beq_eq_true hb; subst e; exact .inl rfl
  | false=>exact ih
theorem Zkw.keep {μ:List Pl} {env:Env} {tmps:Array Value} (h:Zkw μ env tmps) (ks:List Nat):Zkw μ (env.keep ks) tmps:=fun t=>by
 rcases Env.get_keep env ks t with e | e
 ·rw [e]; exact h t
 ·rw [e]; exact .undef _
theorem Zkw.ext {μ μ':List Pl} (he:Ext μ μ') {env:Env} {tmps:Array Value} (h:Zkw μ env tmps):Zkw μ' env tmps:=fun t=>(h t).ext he
theorem Zkw.set {μ:List Pl} {env:Env} {tmps:Array Value} (h:Zkw μ env tmps) {d:Nat} {v:Zag} {x:Value} (hd:d < tmps.size) (hv:VR μ v x):Zkw μ (env.set d v) (tmps.setIfInBounds d x):=fun t=>by
 rw [Env.get_set]
 by_cases e:t=d
 ·subst e
  rw [if_pos rfl]
  simp only [Array.getD_eq_getD_getElem?,Array.getElem?_setIfInBounds]
  simpa [hd] using hv
 ·rw [if_neg e]
  have:=h t
  simp only [Array.getD_eq_getD_getElem?] at this ⊢
  rw [Array.getElem?_setIfInBounds]
  rwa [if_neg (fun e'=>e e'.symm)]
theorem Zkw.know {μ:List Pl} {env:Env} {tmps:Array Value} (h:Zkw μ env tmps) {d:Nat} {v:Zag} (hv:VR μ v (tmps.getD d undef)):Zkw μ (env.set d v) tmps:=fun t=>by
 rw [Env.get_set]
 by_cases e:t=d
 ·subst e; rw [if_pos rfl]; exact hv
 ·rw [if_neg e]; exact h t

end Go.Sim

namespace Go.Sim
open Go Go.RowKit

def Zbw (o:Option Zag) (K:Bool→Prop):Prop:=match o with | some (.bool b)=>K b | _=>False
def Zco (k:IntKind) (o:Option Zag) (K:Int→Prop):Prop:=match o with | some (.int k' n)=>k'=k∧K n | _=>False
def Zcb (o:Option Zag) (K:List Nat→Prop):Prop:=match o with | some (.str s)=>K s | _=>False
def Zfw (o:Option Zag) (K:Option (Nat × Nat)→Prop):Prop:=match o with | some (.ptr a)=>K a | _=>False
def xSl (o:Option Zag) (K:Option (Nat × Nat)→Nat→Nat→Bool→Prop):Prop:=match o with | some (.slice a n c e)=>K a n c e | _=>False
def Yeu (o:Option Zag) (K:Option Nat→Prop):Prop:=match o with | some (.map a)=>K a | _=>False
def Zzn (o:Option Zag) (K:Zag→Prop):Prop:=match o with | some v=>K v | none=>False
def Zam (cs:List Zag) (K:Zag→List Zag→Prop):Prop:=match cs with | c :: r=>K c r | []=>False
def Zcq (cs:List Zag) (K:Prop):Prop:=match cs with | []=>K | _=>False
def Zcy (o:Option (List Zag)) (K:List Zag→Prop):Prop:=match o with | some cs=>K cs | none=>False
def Zqp (v:Zag) (K:List Zag→Prop):Prop:=match v with | .agg cs=>K cs | _=>False
def Zzi (v:Zag) (K:List Zag→Prop):Prop:=match v with | .tup cs=>K cs | _=>False

inductive Sh where
 | bool | int (k:IntKind) | str | ptr | slice | map | any
def xv:Sh→Option Zag→(Zag→Prop)→Prop
 | .bool,o,K=>Zbw o fun b=>K (.bool b)
 | .int k,o,K=>Zco k o fun n=>K (.int k n)
 | .str,o,K=>Zcb o fun s=>K (.str s)
 | .ptr,o,K=>Zfw o fun a=>K (.ptr a)
 | .slice,o,K=>xSl o fun a n c e=>K (.slice a n c e)
 | .map,o,K=>Yeu o fun a=>K (.map a)
 | .any,o,K=>Zzn o K
def xs:List Sh→List Zag→(List Zag→Prop)→Prop
 | [],cs,K=>Zcq cs (K [])
 | s :: ss,cs,K=>Zam cs fun c r=>xv s (some c) fun v=>xs ss r fun vs=>K (v :: vs)

def isAgg (P:Program) (t:TypeId):Bool:=match P.underlying t with | some (.struct _)=>true | some (.array _ _)=>true | _=>false
def Zjp (P:Program) (t:TypeId):Sh:=
 match P.underlying t with
 | some .bool=>.bool
 | some (.int k)=>.int k
 | some .string=>.str
 | some (.pointer _)=>.ptr
 | some (.slice _)=>.slice
 | some (.map _ _)=>.map
 | _=>.any
def Ybw (P:Program):Nat→TypeId→List Sh
 | 0,_=>[.any]
 | n + 1,t=>
  match P.underlying t with
  | some (.struct fs)=>(fs.toList.map fun f=>Ybw P n f.type).flatten
  | some (.array k e)=>(List.replicate k (Ybw P n e)).flatten
  | _=>[Zjp P t]
def xt (P:Program) (t:TypeId) (v:Zag) (K:Zag→Prop):Prop:=
 match isAgg P t with
 | true=>Zqp v fun cs=>xs (Ybw P 6 t) cs fun vs=>K (.agg vs)
 | false=>xv (Zjp P t) (some v) K
def xts (P:Program):List TypeId→List Zag→(List Zag→Prop)→Prop
 | [],cs,K=>Zcq cs (K [])
 | t :: ts,cs,K=>Zam cs fun c r=>xt P t c fun v=>xts P ts r fun vs=>K (v :: vs)
def Ykx (P:Program) (ts:List TypeId) (v:Zag) (K:Zag→Prop):Prop:=
 match ts with
 | []=>K v
 | [t]=>xt P t v K
 | ts=>Zzi v fun cs=>xts P ts cs fun vs=>K (.tup vs)

theorem Zhy {s:Sh} {o:Option Zag} {K:Zag→Prop} (h:xv s o K):∃ v,o=some v∧K v:=by
 cases s <;> simp only [xv,Zbw,Zco,Zcb,Zfw,xSl,Yeu,Zzn] at h <;> split at h <;> first
  | exact h.elim
  | exact ⟨_,rfl,h⟩
  | (obtain ⟨rfl,h⟩:=h; exact ⟨_,rfl,h⟩)
theorem Yad:∀ {ss:List Sh} {cs:List Zag} {K:List Zag→Prop},xs ss cs K→K cs
 | [],cs,K,h=>by
  unfold xs Zcq at h
  split at h
  ·exact h
  ·exact h.elim
 | s :: ss,cs,K,h=>by
  simp only [xs,Zam] at h
  split at h
  ·obtain ⟨v,hv,h⟩:=Zhy h
   cases hv
   exact Yad (K:=fun vs=>K (_ :: vs)) h
  ·exact h.elim
theorem Ygs {P:Program} {t:TypeId} {v:Zag} {K:Zag→Prop} (h:xt P t v K):K v:=by
 unfold xt at h
 split at h
 ·unfold Zqp at h
  split at h
  ·exact Yad (K:=fun vs=>K (.agg vs)) h
  ·exact h.elim
 ·obtain ⟨w,hw,h⟩:=Zhy h
  cases hw; exact h
theorem Ybu {P:Program}:∀ {ts:List TypeId} {cs:List Zag} {K:List Zag→Prop},xts P ts cs K→K cs
 | [],cs,K,h=>by
  unfold xts Zcq at h
  split at h
  ·exact h
  ·exact h.elim
 | s :: ss,cs,K,h=>by
  simp only [xts,Zam] at h
  split at h
  ·exact Ybu (K:=fun vs=>K (_ :: vs)) (Ygs h)
  ·exact h.elim
theorem Zyl {P:Program} {ts:List TypeId} {v:Zag} {K:Zag→Prop} (h:Ykx P ts v K):K v:=by
 unfold Ykx at h
 split at h
 ·exact h
 ·exact Ygs h
 ·unfold Zzi at h
  split at h
  ·exact Ybu (K:=fun vs=>K (.tup vs)) h
  ·exact h.elim

def Zaf (h:Zaa) (p:Zag):Option Zag:=
 match p with
 | .ptr (some (i,o))=>(match h[i]? with | some (.cells _ cs _)=>cs[o]? | _=>none)
 | _=>none
def Zbo (h:Zaa) (p:Zag) (n:Nat):Option (List Zag):=
 match p with
 | .ptr (some (i,o))=>(match h[i]? with | some (.cells _ cs _)=>if o + n≤cs.length then some ((cs.drop o).take n) else none | _=>none)
 | _=>none
def Zsa (P:Program) (t:TypeId) (h:Zaa) (p:Zag) (K:Zag→Prop):Prop:=
 match isAgg P t with
 | true=>Zcy (Zbo h p (P.cellsOf t)) fun cs=>xs (Ybw P 6 t) cs fun vs=>K (.agg vs)
 | false=>xv (Zjp P t) (Zaf h p) K

def Zag.leaf:Zag→Bool
 | .undef | .agg _ | .tup _ | .iter _=>false
 | _=>true
def sv:Zag→Option (List Zag)
 | .agg cs=>(match cs.all Zag.leaf with | true=>some cs | false=>none)
 | v=>(match v.leaf with | true=>some [v] | false=>none)
def Zbm (cs:List Zag) (o:Nat) (vs:List Zag):List Zag:=cs.take o ++ vs ++ cs.drop (o + vs.length)
def Zbd (h:Zaa) (p:Zag) (vs:List Zag):Option Zaa:=
 match p with
 | .ptr (some (i,o))=>(match h[i]? with
  | some (.cells t cs false)=>if o + vs.length≤cs.length then some (h.set i (.cells t (Zbm cs o vs) false)) else none
  | _=>none)
 | _=>none
def Zcf (o:Option Zaa) (K:Zaa→Prop):Prop:=match o with | some h=>K h | none=>False
def Zvk (P:Program) (t:TypeId) (h:Zaa) (p v:Zag) (K:Zaa→Prop):Prop:=
 match sv v with
 | some vs=>(match Nat.beq vs.length (P.cellsOf t) with | true=>Zcf (Zbd h p vs) K | false=>False)
 | none=>False

def Znv:Value→Zag
 | .bool b=>.bool b
 | .int k n=>.int k n
 | .string s=>.str (bytesOf s)
 | .pointer none=>.ptr none
 | .slice none 0 0=>.slice none 0 0 true
 | .map none=>.map none
 | .nilFunc=>.nilFn
 | _=>.undef
def cst:Value→Zag
 | .agg xs=>.agg (xs.toList.map Znv)
 | v=>Znv v
def ev (env:Env):Operand→Zag
 | .tmp t=>env.get t
 | .const v=>cst v
 | .global _=>.undef
 | .func f=>.fn f []

def Yqg (h:Zaa) (i:Nat):Prop:=∃ t cs,h[i]?=some (.cells t cs false)
def Zdy:List Nat→List Nat→Bool
 | _,[]=>false
 | [],_ :: _=>true
 | a :: x,b :: y=>a < b || (a == b && Zdy x y)
def lEq (s:Sh) (x y:Zag):Option Bool:=
 match s with
 | .str=>(match x with | .str a=>(match y with | .str b=>some (decide (a=b)) | _=>none) | _=>none)
 | .int _=>(match x with | .int k a=>(match y with | .int k' b=>if k=k' then some (a == b) else none | _=>none) | _=>none)
 | .bool=>(match x with | .bool a=>(match y with | .bool b=>some (a == b) | _=>none) | _=>none)
 | _=>none
def Ybe:List Sh→List Zag→List Zag→Option Bool
 | [],[],[]=>some true
 | [s],[a],[b]=>lEq s a b
 | s :: ss,a :: as',b :: bs=>match lEq s a b with | some e=>(match Ybe ss as' bs with | some f=>some (e && f) | none=>none) | none=>none
 | _,_,_=>none
def Ybm (P:Program) (t:TypeId):List Sh:=
 match P.stoodInHeld t || P.eqGuardType P.depth t with
 | true=>[.any]
 | false=>(match P.underlying t with
  | some (.struct fs)=>(List.range fs.size).map fun i=>match fs[i]? with
   | some f => if f.name ≠ "_" ∧ f.offset = i then Zjp P f.type else .any
   | none=>.any
  | _=>[.any])
def chk (p:Prop) [Decidable p] (K:Prop):Prop:=match decide p with | true=>K | false=>False
theorem Zbi {p:Prop} [Decidable p] {K:Prop} (h:chk p K):p∧K:=by
 unfold chk at h
 split at h
 ·rename_i hd; exact ⟨of_decide_eq_true hd,h⟩
 ·exact h.elim
def Yar (P:Program) (t:TypeId):Bool:=match P.underlying t with | some .bool=>true | _=>false
def Zri (P:Program) (t:TypeId):Bool:=match P.underlying t with | some .string=>true | _=>false
def Yfy (P:Program) (t:TypeId):Bool:=match P.underlying t with | some (.int _)=>true | _=>false
def Zpz (P:Program) (t:TypeId):Bool:=match P.underlying t with | some (.pointer _)=>true | _=>false
def Ydi (P:Program) (t:TypeId):Bool:=match P.underlying t with | some (.slice _)=>true | _=>false
theorem Ydn {P:Program} {t:TypeId} (h:Yar P t=true):P.underlying t=some .bool:=by unfold Yar at h; split at h <;> simp_all
theorem Zma {P:Program} {t:TypeId} (h:Zri P t=true):P.underlying t=some .string:=by unfold Zri at h; split at h <;> simp_all
theorem Yfj {P:Program} {t:TypeId} (h:Yfy P t=true):∃ k,P.underlying t=some (.int k):=by unfold Yfy at h; split at h <;> simp_all
theorem Ygz {P:Program} {t:TypeId} (h:Zpz P t=true):∃ e,P.underlying t=some (.pointer e):=by unfold Zpz at h; split at h <;> simp_all
theorem Ybt {P:Program} {t:TypeId} (h:Ydi P t=true):∃ e,P.underlying t=some (.slice e):=by unfold Ydi at h; split at h <;> simp_all
def Yaf (a b:Option (Nat × Nat)) (K:Bool→Prop):Prop:=
 match b with | none=>K a.isNone | some _=>(match a with | none=>K false | some _=>False)
def eqA (P:Program) (t:TypeId) (x y:Zag) (K:Bool→Prop):Prop:=
 match x with
 | .int k a=>(match y with | .int k' b=>chk (k=k') (K (a == b)) | _=>False)
 | .str a=>(match y with | .str b=>K (decide (a=b)) | _=>False)
 | .bool a=>(match y with | .bool b=>chk (Yar P t=true) (K (a == b)) | _=>False)
 | .ptr a=>(match y with | .ptr b=>chk (Zpz P t=true) (Yaf a b K) | _=>False)
 | .agg xs=>(match y with | .agg ys=>(match Ybe (Ybm P t) xs ys with | some e=>K e | none=>False) | _=>False)
 | .slice a _ _ e=>(match y with | .slice none 0 0 true=>chk (Ydi P t=true) ((a=none→e=true)∧K a.isNone) | _=>False)
 | _=>False
def Yig (P:Program) (op:BinOp) (t:TypeId) (x y:Zag) (K:Zag→Prop):Prop:=
 match op with
 | .eql=>eqA P t x y fun b=>K (.bool b)
 | .neq=>eqA P t x y fun b=>K (.bool (!b))
 | op=>(match x with
  | .int k a=>(match y with
   | .int k' b=>(match op with
    | .add=>chk (k=k') (K (.int k (k.wrap (a + b))))
    | .sub=>chk (k=k') (K (.int k (k.wrap (a - b))))
    | .mul=>chk (k=k') (K (.int k (k.wrap (a * b))))
    | .quo=>chk (k=k') (b≠0∧K (.int k (k.wrap (a.tdiv b))))
    | .rem=>chk (k=k') (b≠0∧K (.int k (a.tmod b)))
    | .lss=>chk (k=k') (K (.bool (decide (a < b))))
    | .leq=>chk (k=k') (K (.bool (decide (a≤b))))
    | .gtr=>chk (k=k') (K (.bool (decide (a > b))))
    | .geq=>chk (k=k') (K (.bool (decide (a ≥ b))))
    | .xor=>chk (k=k') (K (.int k (k.wrap (BitVec.ofInt k.bits a ^^^ BitVec.ofInt k.bits b).toNat)))
    | .shr=>0≤b∧K (.int k (a.fdiv (2 ^ (min b.toNat k.bits))))
    | _=>False)
   | _=>False)
  | .str a=>(match y with
   | .str b=>(match op with
    | .add=>a.length + b.length≤9223372036854775807∧K (.str (a ++ b))
    | .lss=>K (.bool (Zdy a b))
    | .leq=>K (.bool (Zdy a b || decide (a=b)))
    | .gtr=>K (.bool (!(Zdy a b || decide (a=b))))
    | .geq=>K (.bool (!Zdy a b))
    | _=>False)
   | _=>False)
  | _=>False)
def unA (op:UnOp) (x:Zag) (K:Zag→Prop):Prop:=
 match op with
 | .not=>(match x with | .bool b=>K (.bool (!b)) | _=>False)
 | .neg=>(match x with | .int k n=>K (.int k (k.wrap (0 - n))) | _=>False)
 | _=>False

def bcase (b:Bool) (A B:Prop):Prop:=match b with | true=>A | false=>B
theorem Zds {b:Bool} {A B:Prop} (h:b=true→A) (k:b=false→B):bcase b A B:=by cases b <;> simp_all [bcase]
theorem Yeo {b:Bool} {A B C:Prop} (h:bcase b A B) (k:b=true→A→C) (k':b=false→B→C):C:=by cases b <;> simp_all [bcase]

def Yfc (c a b:Zag) (K:Zag→Prop):Prop:=match c with | .bool c=>bcase c (K a) (K b) | _=>False
def Zbf (a:Option (Nat × Nat)) (K:Nat→Nat→Prop):Prop:=match a with | some (b,o)=>K b o | none=>False
theorem Zbn {a:Option (Nat × Nat)} {K:Nat→Nat→Prop} (h:Zbf a K):∃ b o,a=some (b,o)∧K b o:=by
 unfold Zbf at h
 split at h
 ·exact ⟨_,_,rfl,h⟩
 ·exact h.elim
def Yot (x:Zag) (K:Zag→Prop):Prop:=match x with | .ptr a=>Zbf a (fun b o=>K (.ptr (some (b,o)))) | .fn f cs=>K (.fn f cs) | _=>False
def Zpp (x:Zag) (i:Nat) (K:Zag→Prop):Prop:=match x with | .tup vs=>Zzn vs[i]? K | _=>False
def Ztk (P:Program) (t:TypeId) (i:Nat):Option Field:=match P.underlying t with | some (.struct fs)=>fs[i]? | _=>none
def Zoy (o:Option Field) (K:Field→Prop):Prop:=match o with | some f=>K f | none=>False
def Zuj (P:Program) (t:TypeId) (cs:List Zag) (off:Nat) (K:Zag→Prop):Prop:=
 match isAgg P t with
 | true=>K (.agg ((cs.drop off).take (P.cellsOf t)))
 | false=>chk ((P.underlying t).isSome=true) (Zzn cs[off]? K)
def Zym (P:Program) (t:TypeId) (x:Zag) (i:Nat) (K:Zag→Prop):Prop:=
 match x with
 | .agg cs=>Zoy (Ztk P t i) fun f=>Zuj P f.type cs f.offset K
 | _=>False
def Zlt (P:Program) (t:TypeId) (x:Zag) (i:Nat) (K:Zag→Prop):Prop:=
 match x with
 | .ptr a=>Zoy (Ztk P t i) fun f=>chk ((P.underlying f.type).isSome=true) (chk (P.cellsOf f.type≠0) (Zbf a fun b o=>K (.ptr (some (b,o + f.offset)))))
 | _=>False
def Zlw (P:Program) (t:TypeId) (x i:Zag) (K:Zag→Prop):Prop:=
 match i with
 | .int _ n=>(match P.underlying t with
  | some (.slice e)=>(match x with
   | .slice a len _ _=>chk ((P.underlying e).isSome=true) ((0≤n∧n < len)∧Zbf a fun b o=>K (.ptr (some (b,o + n.toNat * P.cellsOf e))))
   | _=>False)
  | some (.array len e)=>(match x with
   | .ptr a=>chk ((P.underlying e).isSome=true) ((0≤n∧n < len)∧Zbf a fun b o=>K (.ptr (some (b,o + n.toNat * P.cellsOf e))))
   | _=>False)
  | _=>False)
 | _=>False
def Zjo (s:List Nat) (n:Int) (K:Nat→Prop):Prop:=(0≤n∧n < s.length)∧K (s.getD n.toNat 0)
def Zxo (P:Program) (t:TypeId) (x i:Zag) (K:Zag→Prop):Prop:=
 match i with
 | .int _ n=>(match P.underlying t with
  | some .string=>(match x with | .str s=>Zjo s n fun b=>K (.int .u8 b) | _=>False)
  | some (.array len e)=>(match x with
   | .agg cs=>chk ((P.underlying e).isSome=true) ((0≤n∧n < len)∧Zuj P e cs (n.toNat * P.cellsOf e) K)
   | _=>False)
  | _=>False)
 | _=>False
def Zjm (o:Option Zag) (d:Int) (K:Int→Prop):Prop:=
 match o with
 | none=>K d
 | some (.int _ n)=>K n
 | some _=>False
def sub (s:List Nat) (l h:Int):List Nat:=(s.take h.toNat).drop l.toNat
def Zpn (s:List Nat) (lo hi:Option Zag) (K:Zag→Prop):Prop:=
 Zjm hi s.length fun h=>Zjm lo 0 fun l=>(0≤l∧l≤h∧h≤s.length)∧K (.str (sub s l h))
def Zms (a:Option (Nat × Nat)) (len cap:Nat) (ex:Bool) (sz:Nat) (lo hi mx:Option Zag) (K:Zag→Prop):Prop:=
 Zjm mx cap fun m=>Zjm hi len fun h=>Zjm lo 0 fun l=>(0≤l∧l≤h∧h≤m∧m≤cap) ∧
  (match a with
   | none=>(l=0∧h=0∧(mx=none ∨ m=0))∧K (.slice none 0 (match mx with | some _=>0 | none=>cap) ex)
   | some (b,o)=>
    (l < m→K (.slice (some (b,o + l.toNat * sz)) (h - l).toNat (m - l).toNat (ex || mx.isSome))) ∧
    (¬ l < m→K (.slice none 0 (if ex || mx.isSome then 0 else 1) false)))
def Zut (P:Program) (t:TypeId) (x:Zag) (lo hi mx:Option Zag) (K:Zag→Prop):Prop:=
 match P.underlying t with
 | some .string=>(match x with | .str s=>chk (mx.isNone=true) (Zpn s lo hi K) | _=>False)
 | some (.slice e)=>(match x with | .slice a len cap ex=>chk ((P.underlying e).isSome=true) (chk ((mx.isNone || hi.isSome)=true) (Zms a len cap ex (P.cellsOf e) lo hi mx fun v=>xv .slice (some v) K)) | _=>False)
 | _=>False
def Yao (P:Program) (src dst:TypeId) (x:Zag) (K:Zag→Prop):Prop:=
 match P.underlying dst with
 | some (.int k)=>(match x with | .int _ n=>chk ((P.underlying src).isSome=true) (K (.int k (k.wrap n))) | _=>False)
 | some .string=>(match x with
  | .str s=>chk (Zri P src=true) (K (.str s))
  | .int _ n=>chk (Yfy P src=true) ((0≤n∧n < 128)∧K (.str [n.toNat]))
  | _=>False)
 | _=>False
def Ykt (P:Program) (ts:Array TypeId) (xs:List Zag) (K:Zag→Prop):Prop:=
 match xs with
 | [.str s]=>chk (((ts[0]?).map (Zri P)).getD false=true) (K (.int .i64 s.length))
 | [.slice _ n _ _]=>chk (((ts[0]?).map (Ydi P)).getD false=true) (K (.int .i64 n))
 | _=>False
def Zok (P:Program) (env:Env) (o:Oper) (K:Zag→Prop):Prop:=
 match o.op with
 | .move x | .assign x=>K (ev env x)
 | .pick c a b=>Yfc (ev env c) (ev env a) (ev env b) K
 | .binOp op t x y _=>Yig P op t (ev env x) (ev env y) K
 | .unOp op _ x=>unA op (ev env x) K
 | .nilCheck x=>Yot (ev env x) K
 | .extract x i=>Zpp (ev env x) i K
 | .field t x i=>Zym P t (ev env x) i K
 | .fieldAddr t x i=>Zlt P t (ev env x) i K
 | .indexAddr t x i=>Zlw P t (ev env x) (ev env i) K
 | .index t x i=>Zxo P t (ev env x) (ev env i) K
 | .slice t x lo hi mx=>Zut P t (ev env x) (lo.map (ev env)) (hi.map (ev env)) (mx.map (ev env)) K
 | .convert s d x=>Yao P s d (ev env x) K
 | .makeFunc (.func f) first caps=>chk (first.size=0) (K (.fn f (caps.toList.map (ev env))))
 | .call c=>(match c.callee with
  | .builtin .len=>Ykt P c.argTypes (c.args.toList.map (ev env)) K
  | _=>False)
 | _=>False
end Go.Sim

namespace Go.Sim
open Go Go.RowKit

theorem Zku.keep {P:Program} {base:Nat} {w0:World} {μ μ':List Pl} {e:Pl} {w w':World} {o:Zcp} (h:Zku P base w0 μ e w o) (hx:Ext μ μ')
  (hb:∀ x,w.heap[e.b]?=some x→w'.heap[e.b]?=some x):Zku P base w0 μ' e w' o:=by
 cases o with
 | cells t cs ro=>
  obtain ⟨C,el,fr,h1,h2,h3⟩:=h
  exact ⟨C,el,fr,hb _ h1,h2.ext hx,h3⟩
 | map es clk=>
  obtain ⟨h0,ents,h1,h2,h3,h4⟩:=h
  exact ⟨h0,ents,hb _ h1,h2.ext hx,h3.ext hx,h4⟩
 | miter m since seen last=>
  obtain ⟨h0,h1,m',h2,h3⟩:=h
  exact ⟨h0,h1,m',hb _ h2,h3.imp id fun ⟨i,p,a,b,c⟩=>⟨i,p,a,b,hx _ _ c⟩⟩
 | iter s pos=>
  obtain ⟨h0,h1,s',h2,h3⟩:=h
  exact ⟨h0,h1,s',h2,hb _ h3⟩
 | dead=>trivial
 | amb φ=>exact h
theorem Zku.still {P:Program} {base:Nat} {w0:World} {μ μ':List Pl} {e e':Pl} {w w':World} {o:Zcp} (hs:o.still=true) (h:Zku P base w0 μ e w o):Zku P base w0 μ' e' w' o:=by
 cases o with
 | dead=>trivial
 | amb φ=>exact h
 | cells t cs ro=>cases hs
 | map es clk=>cases hs
 | iter s pos=>cases hs
 | miter m since seen last=>cases hs

section
variable {P:Program} {base:Nat} {w0:World} {μ:List Pl} {h:Zaa} {w:World}

theorem Rel.lt (r:Rel P base w0 μ h w) {i:Nat} {o:Zcp} (hi:h[i]?=some o) (ho:o.own=true) {e:Pl} (he:μ[i]?=some e):e.b < w.heap.size∧base≤e.b:=by
 have:=r.obj i o hi e he
 cases o with
 | cells t cs ro=>
  obtain ⟨C,el,fr,h1,_,h3⟩:=this
  simp [Zcp.own] at ho; subst ho
  simp at h3
  exact ⟨(Array.getElem?_eq_some_iff.1 h1).1,h3.2.2.2.2.2.2⟩
 | map es clk=>obtain ⟨h0,ents,h1,_⟩:=this; exact ⟨(Array.getElem?_eq_some_iff.1 h1).1,h0⟩
 | miter m since seen last=>obtain ⟨h0,_,m',h1,_⟩:=this; exact ⟨(Array.getElem?_eq_some_iff.1 h1).1,h0⟩
 | iter s pos=>obtain ⟨h0,_,s',_,h1⟩:=this; exact ⟨(Array.getElem?_eq_some_iff.1 h1).1,h0⟩
 | dead=>simp [Zcp.own] at ho
 | amb φ=>simp [Zcp.own] at ho

theorem Zku.lt {e:Pl} {o:Zcp} (h:Zku P base w0 μ e w o) (ho:¬ o.still=true):e.b < w.heap.size:=by
 cases o with
 | cells t cs ro=>obtain ⟨C,el,fr,h1,_⟩:=h; exact (Array.getElem?_eq_some_iff.1 h1).1
 | map es clk=>obtain ⟨_,_,h1,_⟩:=h; exact (Array.getElem?_eq_some_iff.1 h1).1
 | miter m since seen last=>obtain ⟨_,_,_,h1,_⟩:=h; exact (Array.getElem?_eq_some_iff.1 h1).1
 | iter s pos=>obtain ⟨_,_,_,_,h1⟩:=h; exact (Array.getElem?_eq_some_iff.1 h1).1
 | dead=>exact absurd rfl ho
 | amb φ=>exact absurd rfl ho

theorem Rel.grow (r:Rel P base w0 μ h w) {w':World} (hb:Below w.heap.size w w'):Rel P base w0 μ h w' where
 below:=r.below.trans (hb.mono r.size)
 len:=r.len
 obj:=fun i o hi e he=>by
  by_cases hd:o.still=true
  ·exact (r.obj i o hi e he).still hd
  ·have ho:=r.obj i o hi e he
   refine ho.keep (Ext.refl _) fun x hx=>?_
   rw [hb.block _ (ho.lt hd)]; exact hx
 sep:=r.sep
 size:=Nat.le_trans r.size hb.size

theorem Rel.new (r:Rel P base w0 μ h w) {w':World} (hb:Below w.heap.size w w') (e:Pl) (o:Zcp) (he:w.heap.size≤e.b)
  (ho:Zku P base w0 (μ ++ [e]) e w' o):Rel P base w0 (μ ++ [e]) (h ++ [o]) w':=by
 have r':=r.grow hb
 refine ⟨r'.below,by simp [r.len],?_,?_,r'.size⟩
 ·intro i ob hi e' he'
  by_cases hlt:i < h.length
  ·rw [List.getElem?_append_left hlt] at hi
   rw [List.getElem?_append_left (by rw [r.len]; exact hlt)] at he'
   exact (r'.obj i ob hi e' he').keep (Ext.app _ _) fun x hx=>hx
  ·rw [List.getElem?_append_right (by omega)] at hi
   rw [List.getElem?_append_right (by rw [r.len]; omega)] at he'
   have hz:i - h.length=0:=by
    have:=(List.getElem?_eq_some_iff.1 hi).1; simp at this; omega
   rw [hz] at hi
   rw [r.len,hz] at he'
   simp at hi he'; subst hi; subst he'
   exact ho
 ·intro i j oi oj ei ej hij hi hj hoi hoj hei hej
  have key:∀ (i j:Nat) (oi oj:Zcp) (ei ej:Pl),i < h.length→h.length≤j→(h ++ [o])[i]?=some oi→(h ++ [o])[j]?=some oj→oi.own=true→(μ ++ [e])[i]?=some ei→(μ ++ [e])[j]?=some ej→ei.b < ej.b:=by
   intro i j oi oj ei ej hil hjl hi hj hoi hei hej
   rw [List.getElem?_append_left hil] at hi
   rw [List.getElem?_append_left (by rw [r.len]; exact hil)] at hei
   rw [List.getElem?_append_right (by rw [r.len]; omega)] at hej
   rw [List.getElem?_append_right hjl] at hj
   have hz:j - h.length=0:=by have:=(List.getElem?_eq_some_iff.1 hj).1; simp at this; omega
   rw [r.len,hz] at hej; simp at hej; subst hej
   have:=r.lt hi hoi hei
   omega
  by_cases hil:i < h.length <;> by_cases hjl:j < h.length
  ·rw [List.getElem?_append_left hil] at hi
   rw [List.getElem?_append_left hjl] at hj
   rw [List.getElem?_append_left (by rw [r.len]; exact hil)] at hei
   rw [List.getElem?_append_left (by rw [r.len]; exact hjl)] at hej
   exact r.sep i j oi oj ei ej hij hi hj hoi hoj hei hej
  ·have:=key i j oi oj ei ej hil (by omega) hi hj hoi hei hej; omega
  ·have:=key j i oj oi ej ei hjl (by omega) hj hi hoj hej hei; omega
  ·have a:=(List.getElem?_eq_some_iff.1 hi).1
   have b:=(List.getElem?_eq_some_iff.1 hj).1
   simp at a b; omega

theorem Rel.change (r:Rel P base w0 μ h w) {w':World} {i:Nat} {o o':Zcp} {e:Pl} (hi:h[i]?=some o) (ho:o.own=true) (hei:μ[i]?=some e)
  (hb:Below base w w') (hk:∀ k,k≠e.b→k < w.heap.size→w'.heap[k]?=w.heap[k]?)
  (hn:Zku P base w0 μ e w' o') (hown:o'.own=true ∨ o'=.dead):Rel P base w0 μ (h.set i o') w':=by
 have hlt:=r.lt hi ho hei
 refine ⟨r.below.trans hb,by simp [r.len],?_,?_,Nat.le_trans r.size hb.size⟩
 ·intro j ob hj e' he'
  by_cases hij:i=j
  ·subst hij
   rw [List.getElem?_set_self (List.getElem?_eq_some_iff.1 hi).1] at hj
   cases hj
   rw [hei] at he'; cases he'
   exact hn
  ·rw [List.getElem?_set_ne hij] at hj
   have hold:=r.obj j ob hj e' he'
   by_cases hd:ob.still=true
   ·exact hold.still hd
   refine hold.keep (Ext.refl _) fun x hx=>?_
   rw [hk]
   ·exact hx
   ·intro he
    by_cases hobo:ob.own=true
    ·exact r.sep j i ob o e' e (fun h=>hij h.symm) hj hi hobo ho he' hei he
    ·cases ob with
     | cells t cs ro=>
      simp [Zcp.own] at hobo; subst hobo
      obtain ⟨_,_,_,_,_,h3⟩:=hold
      simp at h3; omega
     | map es clk=>simp [Zcp.own] at hobo
     | miter m since seen last=>simp [Zcp.own] at hobo
     | iter s p=>simp [Zcp.own] at hobo
     | dead=>exact hd rfl
     | amb φ=>exact hd rfl
   ·exact hold.lt hd
 ·intro a b oa ob ea eb hab ha hb' hoa hob hea heb
  have old:∀ (a:Nat) (oa:Zcp),(h.set i o')[a]?=some oa→oa.own=true→∃ o2,h[a]?=some o2∧o2.own=true:=by
   intro a oa ha hoa
   by_cases hia:i=a
   ·subst hia; exact ⟨o,hi,ho⟩
   ·rw [List.getElem?_set_ne hia] at ha; exact ⟨oa,ha,hoa⟩
  obtain ⟨o2,h2,k2⟩:=old a oa ha hoa
  obtain ⟨o3,h3,k3⟩:=old b ob hb' hob
  exact r.sep a b o2 o3 ea eb hab h2 h3 k2 k3 hea heb

theorem Rel.row (r:Rel P base w0 μ h w) {p:Zag} {x:Value} (hp:VR μ p x) {n:Nat} {cs:List Zag} (hc:Zbo h p n=some cs) :
  cs.length=n∧∃ a:Addr,x=.pointer (some a)∧∃ ys:List Value,VRs μ cs ys∧∀ (j:Nat) (y:Value),ys[j]?=some y→w.cell? (a.add j)=some y:=by
 unfold Zbo at hc
 split at hc
 ·rename_i i o
  split at hc
  ·rename_i t cells ro hi
   split at hc
   ·rename_i hle
    cases hc
    cases hp with
    | ptr hmu=>
     rename_i e
     obtain ⟨C,el,fr,h1,h2,h3⟩:=r.obj i _ hi e hmu
     refine ⟨by simp; omega,_,rfl,((C.toList.drop e.o).take cells.length |>.drop o).take n,(h2.drop o).take n,?_⟩
     intro j y hy
     have hjn:j < n:=by
      by_cases hj:j < n
      ·exact hj
      ·rw [List.getElem?_take,if_neg hj] at hy; cases hy
     rw [List.getElem?_take,if_pos hjn,List.getElem?_drop,List.getElem?_take,if_pos (by omega),List.getElem?_drop,Array.getElem?_toList] at hy
     rw [show (⟨e.b,e.o + o,none⟩:Addr).add j=⟨e.b,e.o + o + j,none⟩ by unfold Addr.add; split <;> simp_all]
     simp only [World.cell?,h1,Option.isSome_none,Bool.false_eq_true,if_false]
     rw [← hy]; congr 1; omega
   ·cases hc
  ·cases hc
 ·cases hc
theorem Rel.cell (r:Rel P base w0 μ h w) {p:Zag} {x:Value} (hp:VR μ p x) {v:Zag} (hc:Zaf h p=some v) :
  ∃ a:Addr,x=.pointer (some a)∧∃ y:Value,VR μ v y∧w.cell? a=some y:=by
 unfold Zaf at hc
 split at hc
 ·rename_i i o
  split at hc
  ·rename_i t cells ro hi
   cases hp with
   | ptr hmu=>
    rename_i e
    obtain ⟨C,el,fr,h1,h2,h3⟩:=r.obj i _ hi e hmu
    obtain ⟨y,hy,hv⟩:=h2.get hc
    refine ⟨_,rfl,y,hv,?_⟩
    have hol:o < cells.length:=(List.getElem?_eq_some_iff.1 hc).1
    rw [List.getElem?_take,if_pos hol,List.getElem?_drop,Array.getElem?_toList] at hy
    simp only [World.cell?,h1,Option.isSome_none,Bool.false_eq_true,if_false]
    exact hy
  ·cases hc
 ·cases hc

end
end Go.Sim

namespace Go.Sim
open Go Go.RowKit

def Res (P:Program) (base:Nat) (w0:World) (μ:List Pl) (r:Result Value) (K:Zag→Zaa→Prop):Prop:=
 ∃ x w' μ' v h',r=.ok x w'∧Ext μ μ'∧Rel P base w0 μ' h' w'∧VR μ' v x∧K v h'

theorem Zvr {P:Program} {t:TypeId} (h:isAgg P t=true) (w:World):(Go.isAgg t).run P w=.ok true w:=by
 unfold isAgg at h
 unfold Go.isAgg
 split at h
 ·rename_i hu; simp [run_underlying hu]
 ·rename_i hu; simp [run_underlying hu]
 ·cases h
theorem Zta {P:Program} {t:TypeId} (h:isAgg P t=false) (hu:(P.underlying t).isSome=true) (w:World):(Go.isAgg t).run P w=.ok false w:=by
 obtain ⟨d,hd⟩:=Option.isSome_iff_exists.1 hu
 unfold isAgg at h
 rw [hd] at h
 unfold Go.isAgg
 cases d <;> simp_all [run_underlying hd]
theorem Yet {P:Program} {t:TypeId} (h:isAgg P t=true):(P.underlying t).isSome=true:=by
 unfold isAgg at h
 split at h <;> simp_all
theorem Zen {P:Program} {t:TypeId} (hu:(P.underlying t).isSome=true) (w:World):(sizeOf t).run P w=.ok (P.cellsOf t) w:=by
 obtain ⟨d,hd⟩:=Option.isSome_iff_exists.1 hu
 obtain ⟨i,hi⟩:=info_of_underlying hd
 exact run_sizeOf w hi

section
variable {P:Program} {base:Nat} {w0:World} {μ:List Pl} {h:Zaa} {w:World}

theorem Ygm (r:Rel P base w0 μ h w) {t:TypeId} {p:Zag} {x:Value} (hp:VR μ p x) (hu:(P.underlying t).isSome=true) {K:Zag→Prop} (hk:Zsa P t h p K) :
  ∃ y v,(Instr.loadAt t x).run P w=.ok y w∧VR μ v y∧K v:=by
 unfold Zsa at hk
 split at hk
 ·rename_i ha
  unfold Zcy at hk
  split at hk
  ·rename_i cs hc
   obtain ⟨hl,a,rfl,ys,hys,hcell⟩:=r.row hp hc
   have hload:=run_loadCells_list (P:=P) w a ys hcell
   rw [← hys.length,hl] at hload
   refine ⟨.agg ys.toArray,.agg cs,?_,.agg (by simpa using hys),Yad (K:=fun vs=>K (.agg vs)) hk⟩
   simp [Instr.loadAt,Instr.sureAddr,loadVar,Zvr ha,Zen hu,hload]
  ·exact hk.elim
 ·rename_i ha
  obtain ⟨v,hv,hk⟩:=Zhy hk
  obtain ⟨a,rfl,y,hy,hc⟩:=r.cell hp hv
  refine ⟨y,v,?_,hy,hk⟩
  simp [Instr.loadAt,Instr.sureAddr,loadVar,Zta ha hu,hc]

theorem VR.leaf1 {v:Zag} {x:Value} (hv:VR μ v x) (hl:v.leaf=true):x.oneCell'=true∧x.cells=#[x]:=by
 cases hv <;> first | (simp [Zag.leaf] at hl; done) | exact ⟨rfl,rfl⟩
theorem VRs.leaf1:∀ {vs:List Zag} {xs:List Value},VRs μ vs xs→vs.all Zag.leaf=true→∀ x∈xs,x.oneCell'=true
 | _,_,.nil,_,x,hx=>by simp at hx
 | _,_,.cons a b,hl,x,hx=>by
  simp at hl
  rcases List.mem_cons.1 hx with e | e
  ·rw [e]; exact (a.leaf1 hl.1).1
  ·exact VRs.leaf1 b (by simpa using hl.2) x e
theorem Ylu {v:Zag} {x:Value} (hv:VR μ v x) {vs:List Zag} (hs:sv v=some vs):VRs μ vs x.cells.toList∧∀ y∈x.cells.toList,y.oneCell'=true:=by
 unfold sv at hs
 split at hs
 ·split at hs
  ·rename_i hall
   cases hs
   cases hv with
   | agg hxs=>exact ⟨hxs,hxs.leaf1 hall⟩
  ·cases hs
 ·split at hs
  ·rename_i hl
   cases hs
   have:=hv.leaf1 hl
   rw [this.2]
   exact ⟨.cons hv .nil,by simpa using this.1⟩
  ·cases hs

theorem VRs.put {cs:List Zag} {xs:List Value} {vs:List Zag} {ys:List Value} (hc:VRs μ cs xs) (hv:VRs μ vs ys) (o:Nat) :
  VRs μ (Zbm cs o vs) (xs.take o ++ ys ++ xs.drop (o + ys.length)):=by
 unfold Zbm
 rw [hv.length]
 exact ((hc.take o).append hv).append (hc.drop _)

theorem Yiq (r:Rel P base w0 μ h w) {t:TypeId} {p v:Zag} {x y:Value} (hp:VR μ p x) (hv:VR μ v y) (hu:(P.underlying t).isSome=true) {K:Zaa→Prop} (hk:Zvk P t h p v K) :
  ∃ w' h',(Instr.storeAt t x y).run P w=.ok () w'∧Rel P base w0 μ h' w'∧K h':=by
 unfold Zvk at hk
 split at hk
 ·rename_i vs hs
  obtain ⟨hvs,h1⟩:=Ylu hv hs
  split at hk
  ·rename_i hsz
   have hsz:=Nat.eq_of_beq_eq_true hsz
   unfold Zcf at hk
   split at hk
   ·rename_i h' hst
    unfold Zbd at hst
    split at hst
    ·rename_i i o
     split at hst
     ·rename_i et cs hi
      split at hst
      ·rename_i hle
       cases hst
       cases hp with
       | ptr hmu=>
        rename_i e
        have hobj:=r.obj i _ hi e hmu
        obtain ⟨C,el,fr,hg,hcs,hown⟩:=hobj
        simp only [Bool.false_eq_true,if_false] at hown
        obtain ⟨ho1,ho0,rfl,rfl,hn,hcz,hbase⟩:=hown
        have hlen:=hvs.length
        have hcl:=hcs.length
        have hCl:cs.length≤C.size:=by simp at hcl; omega
        rw [ho0] at hcs
        simp only [List.drop_zero] at hcs
        have hfit:(e.o + o) + 0 + y.cells.toList.length≤C.size:=by rw [← hlen,ho0]; omega
        have hst:=run_storeCells_at P e.b (e.o + o) el y.cells.toList 0 C w hg hfit h1
        simp only [Nat.add_zero] at hst
        refine ⟨w.setRow e.b (C.toList.take (e.o + o) ++ y.cells.toList ++ C.toList.drop (e.o + o + y.cells.toList.length)).toArray,h.set i (.cells el (Zbm cs o vs) false),?_,?_,hk⟩
        ·have hysz:y.cells.size=P.cellsOf t:=by rw [← hsz,hlen]; simp
         simp [Instr.storeAt,Instr.sureAddr,storeVar,Zen hu,hysz,hst]
        ·refine r.change (o:=.cells el cs false) hi rfl hmu ⟨rfl,rfl,rfl,by simp [World.setRow],fun k hk=>setRow_other w e.b k _ (by omega)⟩ (fun k hk _=>setRow_other w e.b k _ hk) ?_ (.inl rfl)
         refine ⟨_,el,(0,0),setRow_heap w e.b C _ el _ hg,?_,?_⟩
         ·have hpl:(Zbm cs o vs).length=cs.length:=by simp [Zbm]; omega
          rw [hpl,ho0]
          simp only [List.drop_zero,Nat.zero_add]
          have:=hcs.put hvs o
          have e2:((C.toList.take o ++ y.cells.toList ++ C.toList.drop (o + y.cells.toList.length)).take cs.length)=((C.toList.take cs.length).take o ++ y.cells.toList ++ (C.toList.take cs.length).drop (o + y.cells.toList.length)):=by
           apply List.ext_getElem?
           intro j
           simp only [List.getElem?_take,List.getElem?_append,List.length_append,List.length_take,List.getElem?_drop,Array.length_toList]
           have:=hlen
           simp only [Array.length_toList] at this ⊢
           by_cases h1:j < cs.length <;> by_cases h2:j < o <;> simp [h1,h2] <;> (try omega) <;> (repeat' split) <;> (try omega) <;> (try rfl) <;> (try (congr 1; omega))
          rw [e2]; exact this
         ·simp only [Bool.false_eq_true,if_false]
          refine ⟨ho1,ho0,trivial,trivial,?_,hcz,hbase⟩
          simp only [List.size_toArray,List.length_append,List.length_take,List.length_drop,Array.length_toList] at hfit ⊢
          omega
      ·cases hst
     ·cases hst
    ·cases hst
   ·exact hk.elim
  ·exact hk.elim
 ·exact hk.elim
end
end Go.Sim

set_option linter.unusedSimpArgs false
namespace Go.Sim
open Go Go.RowKit

theorem Zdg (s:ByteArray):(bytesOf s).length=s.size:=by simp [bytesOf]
theorem Zuh (a b:ByteArray):bytesOf (a ++ b)=bytesOf a ++ bytesOf b:=by simp [bytesOf]
theorem Zna:∀ {a b:List UInt8},a.map UInt8.toNat=b.map UInt8.toNat→a=b
 | [],[],_=>rfl
 | [],_ :: _,h=>by simp at h
 | _ :: _,[],h=>by simp at h
 | x :: a,y :: b,h=>by
  simp only [List.map_cons,List.cons.injEq] at h
  rw [UInt8.toNat_inj.1 h.1,Zna h.2]
theorem Zhg (a b:ByteArray):bytesOf a=bytesOf b ↔ a.toList=b.toList:=by
 rw [ByteArray.toList_eq,ByteArray.toList_eq]
 exact ⟨Zna,fun h=>by unfold bytesOf; rw [h]⟩
theorem Zpo:∀ a b:List UInt8,Zdy (a.map UInt8.toNat) (b.map UInt8.toNat)=Op.bytesLess a b
 | [],[]=>rfl
 | _ :: _,[]=>rfl
 | [],_ :: _=>rfl
 | x :: a,y :: b=>by
  simp only [List.map_cons,Zdy,Op.bytesLess,Zpo a b]
  congr 1
  congr 1
  rw [Bool.eq_iff_iff]; simp [UInt8.toNat_inj]
theorem Zhx (a b:ByteArray):Zdy (bytesOf a) (bytesOf b)=Op.bytesLess a.toList b.toList:=by
 rw [ByteArray.toList_eq,ByteArray.toList_eq]; exact Zpo _ _

def Zwd (P:Program) (μ:List Pl) (s:Sem Value) (K:Zag→Prop):Prop:=∃ x v,(∀ w,s.run P w=.ok x w)∧VR μ v x∧K v
theorem Zwd.mk {P:Program} {μ:List Pl} {s:Sem Value} {K:Zag→Prop} {x:Value} {v:Zag} (h:∀ w,s.run P w=.ok x w) (hv:VR μ v x) (hk:K v):Zwd P μ s K:=⟨x,v,h,hv,hk⟩

section
variable {P:Program} {μ:List Pl}

theorem Zmn {t:TypeId} {xs:Array Value} {off:Nat} {x:Value} (ha:isAgg P t=false) (hu:(P.underlying t).isSome=true) (hx:xs[off]?=some x) (w:World):(part t xs off).run P w=.ok x w:=by
 simp [part,Zta ha hu,hx]

theorem Yej {t:TypeId} (h:Zjp P t=.str):P.underlying t=some .string:=by
 unfold Zjp at h; split at h <;> simp_all
theorem Ydo {t:TypeId} {k:IntKind} (h:Zjp P t=.int k):P.underlying t=some (.int k):=by
 unfold Zjp at h; split at h <;> simp_all
theorem Ybi {t:TypeId} (h:Zjp P t=.bool):P.underlying t=some .bool:=by
 unfold Zjp at h; split at h <;> simp_all
theorem Ymd (d:Nat) (w:World) {t:TypeId} {a b:Zag} {x y:Value} {e:Bool} (ha:VR μ a x) (hb:VR μ b y) (h:lEq (Zjp P t) a b=some e) :
  (Op.equalIn (d + 1) t x y).run P w=.ok e w∧isAgg P t=false∧(P.underlying t).isSome=true:=by
 unfold lEq at h
 split at h
 ·rename_i hs
  have hu:=Yej hs
  split at h
  ·split at h
   ·cases ha; cases hb; cases h
    refine ⟨?_,by simp [isAgg,hu],by simp [hu]⟩
    rw [run_equalIn_string w d t _ _ hu]
    congr 1
    rw [Bool.eq_iff_iff]; simp [Zhg]
   ·cases h
  ·cases h
 ·rename_i hs
  have hu:=Ydo hs
  split at h
  ·split at h
   ·split at h
    ·rename_i hk
     subst hk
     cases ha; cases hb; cases h
     exact ⟨run_equalIn_int w d t _ _ _ _ hu,by simp [isAgg,hu],by simp [hu]⟩
    ·cases h
   ·cases h
  ·cases h
 ·rename_i hs
  have hu:=Ybi hs
  split at h
  ·split at h
   ·cases ha; cases hb; cases h
    exact ⟨run_equalIn_bool w d t _ _ hu,by simp [isAgg,hu],by simp [hu]⟩
   ·cases h
  ·cases h
 ·cases h
theorem Zyn {s:Sh} {ss:List Sh} {a b:Zag} {as' bs:List Zag} {e:Bool} (h:Ybe (s :: ss) (a :: as') (b :: bs)=some e):∃ e1 e2,lEq s a b=some e1∧Ybe ss as' bs=some e2∧e=(e1 && e2):=by
 unfold Ybe at h
 split at h
 ·rename_i h1; cases h1
 ·rename_i h1 h2 h3; cases h1; cases h2; cases h3; exact ⟨e,true,h,by simp [Ybe],by simp⟩
 ·rename_i h1 h2 h3; cases h1; cases h2; cases h3
  split at h
  ·rename_i e1 he1
   split at h
   ·rename_i e2 he2; cases h; exact ⟨e1,e2,he1,he2,rfl⟩
   ·cases h
  ·cases h
 ·cases h
theorem Yct (d:Nat) (w:World):∀ (fs:List Field) (k:Nat) (as' bs:List Zag) (xs ys:Array Value) (e:Bool),
  VRs μ as' (xs.toList.drop k)→VRs μ bs (ys.toList.drop k) →
  Ybe ((fs.zipIdx k).map fun p => if p.1.name ≠ "_" ∧ p.1.offset = p.2 then Zjp P p.1.type else .any) as' bs = some e →
  (Op.eqFields (d + 1) xs ys fs).run P w=.ok e w
 | [],k,as',bs,xs,ys,e,ha,hb,he=>by
  cases as' with
  | nil=>cases bs with
   | nil=>simp [Ybe] at he; subst he; simp [Op.eqFields]
   | cons b bs=>simp [Ybe] at he
  | cons a as'=>simp [Ybe] at he
 | f :: fs,k,as',bs,xs,ys,e,ha,hb,he=>by
  cases as' with
  | nil=>simp [Ybe] at he
  | cons a as'=>
  cases bs with
  | nil=>simp [Ybe] at he
  | cons b bs=>
  obtain ⟨x,hx,hax⟩:=ha.get (j:=0) rfl
  obtain ⟨y,hy,hby⟩:=hb.get (j:=0) rfl
  rw [List.getElem?_drop,Array.getElem?_toList,Nat.add_zero] at hx hy
  have hda:VRs μ as' (xs.toList.drop (k + 1)):=by have:=ha.drop 1; simpa [List.drop_drop] using this
  have hdb:VRs μ bs (ys.toList.drop (k + 1)):=by have:=hb.drop 1; simpa [List.drop_drop] using this
  simp only [List.zipIdx_cons,List.map_cons] at he
  obtain ⟨e1,e2,he1,he2,rfl⟩:=Zyn he
  have hc : f.name ≠ "_" ∧ f.offset = k := by
   by_cases hc : f.name ≠ "_" ∧ f.offset = k
   ·exact hc
   ·simp only [if_neg hc] at he1; simp [lEq] at he1
  simp only [if_pos hc] at he1
  obtain ⟨hn,ho⟩:=hc
  obtain ⟨heq,hag,hu⟩:=Ymd d w hax hby he1
  have hpx:=Zmn (P:=P) (off:=f.offset) hag hu (by rw [ho]; exact hx) w
  have hpy:=Zmn (P:=P) (off:=f.offset) hag hu (by rw [ho]; exact hy) w
  have ih:=Yct d w fs (k + 1) as' bs xs ys e2 hda hdb he2
  cases e1 <;> simp [Op.eqFields,hn,hpx,hpy,heq,ih]
theorem Yfk {t:TypeId} (h:∀ s∈Ybm P t,s≠.any):P.stoodInHeld t=false∧P.eqGuardType P.depth t=false∧P.underlying t=some (.struct (P.fieldsOf t)) ∧
  Ybm P t = ((P.fieldsOf t).toList.zipIdx 0).map fun p => if p.1.name ≠ "_" ∧ p.1.offset = p.2 then Zjp P p.1.type else .any := by
 unfold Ybm at h ⊢
 split at h
 ·exact absurd rfl (h .any (by simp))
 ·rename_i hs
  simp only [Bool.or_eq_false_iff] at hs
  split at h
  ·rename_i fs hu
   refine ⟨hs.1,hs.2,by simp [Program.fieldsOf,hu],?_⟩
   simp only [hs.1,hs.2,Bool.or_self,hu,Program.fieldsOf]
   apply List.ext_getElem?
   intro j
   simp only [List.getElem?_map,List.getElem?_zipIdx,Nat.zero_add,Array.getElem?_toList,List.getElem?_range]
   by_cases hj:j < fs.size
   ·simp [hj]
   ·simp [hj,Array.getElem?_eq_none (Nat.le_of_not_lt hj)]
  ·exact absurd rfl (h .any (by simp))
theorem Zve:∀ {ss:List Sh} {as' bs:List Zag} {e:Bool},Ybe ss as' bs=some e→∀ s∈ss,s≠.any
 | [],_,_,_,_,s,hs=>by simp at hs
 | s :: ss,[],bs,e,h,_,_=>by simp [Ybe] at h
 | s :: ss,a :: as',[],e,h,_,_=>by simp [Ybe] at h
 | s :: ss,a :: as',b :: bs,e,h,q,hq=>by
  obtain ⟨e1,e2,h1,h2,_⟩:=Zyn h
  rcases List.mem_cons.1 hq with rfl | hq
  ·rintro rfl; simp [lEq] at h1
  ·exact Zve h2 q hq

theorem Yon {t:TypeId} {xo yo:Operand} {a b:Zag} {x y:Value} (ha:VR μ a x) (hb:VR μ b y) {K:Bool→Prop} (hk:eqA P t a b K) :
  ∃ e:Bool,(∀ w,(eqGuard .eql t xo yo x y).run P w=.ok () w∧(eqGuard .neq t xo yo x y).run P w=.ok () w)∧(∀ w,(binOp .eql t x y).run P w=.ok (.bool e) w)∧(∀ w,(binOp .neq t x y).run P w=.ok (.bool (!e)) w)∧K e:=by
 unfold eqA at hk
 split at hk
 ·split at hk
  ·replace hk:=Zbi hk; obtain ⟨rfl,hk⟩:=hk
   cases ha; cases hb
   exact ⟨_,by simp [eqGuard],by simp [binOp,Op.intCmp],by simp [binOp,Op.intCmp,bne],hk⟩
  ·exact hk.elim
 ·split at hk
  ·cases ha; cases hb
   rename_i s1 s2
   refine ⟨_,by simp [eqGuard],?_,?_,hk⟩
   ·intro w; simp [binOp,Op.stringOp]; rw [Bool.eq_iff_iff]; simp [Zhg]
   ·intro w; simp [binOp,Op.stringOp]; rw [Bool.eq_iff_iff]; simp [Zhg]
  ·exact hk.elim
 ·split at hk
  ·replace hk:=Zbi hk; obtain ⟨hu,hk⟩:=hk
   have hu:=Ydn hu
   cases ha; cases hb
   refine ⟨_,by simp [eqGuard],fun w=>run_eql_bool w t _ _ hu,?_,hk⟩
   intro w; simp [binOp,run_equal_bool w t _ _ hu]
  ·exact hk.elim
 ·split at hk
  ·replace hk:=Zbi hk; obtain ⟨hu,hk⟩:=hk
   obtain ⟨e,hu⟩:=Ygz hu
   have k0:∀ (q:Option Addr) (d:Nat) (w:World),(Op.equalIn (d + 1) t (.pointer none) (.pointer q)).run P w=.ok q.isNone w:=fun q d w=>by simp [Op.equalIn,run_underlying hu]
   have k1:∀ (q:Addr) (d:Nat) (w:World),(Op.equalIn (d + 1) t (.pointer (some q)) (.pointer none)).run P w=.ok false w:=fun q d w=>by simp [Op.equalIn,run_underlying hu]
   unfold Yaf at hk
   cases ha with
   | ptr0=>
    cases hb with
    | ptr0=>exact ⟨_,by simp [eqGuard],fun w=>by simp only [binOp]; simp [Op.equal,Op.maxDepth,k0 none 9999],fun w=>by simp only [binOp]; simp [Op.equal,Op.maxDepth,k0 none 9999],hk⟩
    | ptr hi=>exact ⟨_,by simp [eqGuard],fun w=>by simp only [binOp]; simp [Op.equal,Op.maxDepth,k0 (some _) 9999],fun w=>by simp only [binOp]; simp [Op.equal,Op.maxDepth,k0 (some _) 9999],hk⟩
   | ptr hj=>
    cases hb with
    | ptr0=>exact ⟨_,by simp [eqGuard],fun w=>by simp only [binOp]; simp [Op.equal,Op.maxDepth,k1 _ 9999],fun w=>by simp only [binOp]; simp [Op.equal,Op.maxDepth,k1 _ 9999],hk⟩
    | ptr hi=>exact hk.elim
  ·exact hk.elim
 ·split at hk
  ·split at hk
   ·rename_i e he
    cases ha with
    | agg hxs=>
    cases hb with
    | agg hys=>
    obtain ⟨h1,h2,h3,h4⟩:=Yfk (Zve he)
    rw [h4] at he
    rename_i xs ys
    have hr:∀ w,(Op.equalIn 10000 t (.agg xs) (.agg ys)).run P w=.ok e w:=fun w=>by
     rw [run_equalIn_struct w 9999 t xs ys h3 h1]
     exact Yct 9998 w _ 0 _ _ xs ys e (by simpa using hxs) (by simpa using hys) he
    exact ⟨e,fun w=>⟨run_eqGuard_agg w .eql t xo yo xs ys h2,run_eqGuard_agg w .neq t xo yo xs ys h2⟩,fun w=>by rw [run_eql_struct,hr]; rfl,fun w=>by rw [run_neq_struct,hr]; rfl,hk⟩
   ·exact hk.elim
  ·exact hk.elim
 ·split at hk
  ·replace hk:=Zbi hk; obtain ⟨hu,hn,hk⟩:=hk
   obtain ⟨e,hu⟩:=Ybt hu
   cases hb
   have key:∀ (q:Option Addr) (n c d:Nat) (w:World),(Op.equalIn (d + 1) t (.slice q n c) (.slice none 0 0)).run P w=.ok q.isNone w:=fun q n c d w=>by cases q <;> simp [Op.equalIn,run_underlying hu]
   cases ha with
   | slice0=>exact ⟨_,by simp [eqGuard],fun w=>by simp only [binOp]; simp [Op.equal,Op.maxDepth,key _ _ _ 9999],fun w=>by simp only [binOp]; simp [Op.equal,Op.maxDepth,key _ _ _ 9999],hk⟩
   | sliceE0=>simp at hn
   | sliceE1=>simp at hn
   | slice h1 h2 h3 h4 h5=>exact ⟨_,by simp [eqGuard],fun w=>by simp only [binOp]; simp [Op.equal,Op.maxDepth,key _ _ _ 9999],fun w=>by simp only [binOp]; simp [Op.equal,Op.maxDepth,key _ _ _ 9999],hk⟩
  ·exact hk.elim
 ·exact hk.elim
end
end Go.Sim

set_option linter.unusedSimpArgs false
namespace Go.Sim
open Go Go.RowKit

section
variable {P:Program} {μ:List Pl}

def Zui (μ:List Pl) (env:Env) (ρ:Operand→Value):Prop:=∀ x,VR μ (ev env x) (ρ x)

theorem Zqu (v:Value):VR μ (Znv v) v:=by
 unfold Znv
 split <;> first | exact .undef _ | constructor
theorem VRs.map_leaf:∀ l:List Value,VRs μ (l.map Znv) l
 | []=>.nil
 | v :: r=>.cons (Zqu v) (VRs.map_leaf r)
theorem Ync (v:Value):VR μ (cst v) v:=by
 unfold cst
 split
 ·exact .agg (VRs.map_leaf _)
 ·exact Zqu v
theorem Ynv {env:Env} {a:Act} (h:Zkw μ env a.tmps):Zui μ env a.eval:=fun x=>by
 cases x with
 | tmp t=>exact h t
 | const v=>exact Ync v
 | global g=>exact .undef _
 | func f=>exact .fn .nil

theorem Zlx {o:Option Zag} {K:Zag→Prop} (h:Zzn o K):∃ v,o=some v∧K v:=by
 unfold Zzn at h
 split at h
 ·exact ⟨_,rfl,h⟩
 ·exact h.elim

theorem Ynp {op:BinOp} {t:TypeId} {xo yo:Operand} {a b:Zag} {x y:Value} (ha:VR μ a x) (hb:VR μ b y) {K:Zag→Prop} (hk:Yig P op t a b K) :
  Zwd P μ (do eqGuard op t xo yo x y; binOp op t x y) K:=by
 unfold Yig at hk
 split at hk
 ·obtain ⟨e,hg,h1,h2,hk⟩:=Yon (xo:=xo) (yo:=yo) ha hb hk
  exact .mk (fun w=>by simp [(hg w).1,h1 w]) (.bool _) hk
 ·obtain ⟨e,hg,h1,h2,hk⟩:=Yon (xo:=xo) (yo:=yo) ha hb hk
  exact .mk (fun w=>by simp [(hg w).2,h2 w]) (.bool _) hk
 ·rename_i hne1 hne2
  have hg:∀ w:World,(eqGuard op t xo yo x y).run P w=.ok () w:=fun w=>by
   cases op <;> first | exact absurd rfl hne1 | exact absurd rfl hne2 | rfl
  split at hk
  ·split at hk
   ·cases ha; cases hb
    split at hk
    ·replace hk:=Zbi hk; obtain ⟨rfl,hk⟩:=hk; exact .mk (fun w=>by simp [hg w,binOp,Op.intArith]) (.int _ _) hk
    ·replace hk:=Zbi hk; obtain ⟨rfl,hk⟩:=hk; exact .mk (fun w=>by simp [hg w,binOp,Op.intArith]) (.int _ _) hk
    ·replace hk:=Zbi hk; obtain ⟨rfl,hk⟩:=hk; exact .mk (fun w=>by simp [hg w,binOp,Op.intArith]) (.int _ _) hk
    ·replace hk:=Zbi hk; obtain ⟨rfl,h0,hk⟩:=hk; exact .mk (fun w=>by simp [hg w,binOp,Op.intDiv,h0]) (.int _ _) hk
    ·replace hk:=Zbi hk; obtain ⟨rfl,h0,hk⟩:=hk; exact .mk (fun w=>by simp [hg w,binOp,Op.intDiv,h0]) (.int _ _) hk
    ·replace hk:=Zbi hk; obtain ⟨rfl,hk⟩:=hk; exact .mk (fun w=>by simp [hg w,binOp,Op.intCmp]) (.bool _) hk
    ·replace hk:=Zbi hk; obtain ⟨rfl,hk⟩:=hk; exact .mk (fun w=>by simp [hg w,binOp,Op.intCmp]) (.bool _) hk
    ·replace hk:=Zbi hk; obtain ⟨rfl,hk⟩:=hk; exact .mk (fun w=>by simp [hg w,binOp,Op.intCmp]) (.bool _) hk
    ·replace hk:=Zbi hk; obtain ⟨rfl,hk⟩:=hk; exact .mk (fun w=>by simp [hg w,binOp,Op.intCmp]) (.bool _) hk
    ·replace hk:=Zbi hk; obtain ⟨rfl,hk⟩:=hk; exact .mk (fun w=>by simp [hg w,binOp,Op.intBits]) (.int _ _) hk
    ·obtain ⟨h0,hk⟩:=hk
     exact .mk (fun w=>by simp [hg w,binOp,Op.shift,show ¬ (_:Int) < 0 from Int.not_lt.2 h0]) (.int _ _) hk
    ·exact hk.elim
   ·exact hk.elim
  ·split at hk
   ·cases ha; cases hb
    rename_i s1 s2
    split at hk
    ·obtain ⟨hl,hk⟩:=hk
     rw [Zdg,Zdg] at hl
     rw [← Zuh] at hk
     refine .mk (x:=.string (s1 ++ s2)) (fun w=>?_) (.str _) hk
     have h1:¬ ((s1.size + s2.size:Nat):Int) > IntKind.i64.max:=by simp [IntKind.max,IntKind.signed,IntKind.bits]; omega
     simp only [Sem.run_bind,hg w,Result.andThen_ok,binOp,Op.stringOp]
     rw [if_neg h1]; rfl
    ·exact .mk (fun w=>by simp only [Sem.run_bind,hg w,Result.andThen_ok,binOp,Op.stringOp]; rfl) (by rw [Zhx]; exact .bool _) hk
    ·exact .mk (fun w=>by simp only [Sem.run_bind,hg w,Result.andThen_ok,binOp,Op.stringOp]; rfl) (by
      rw [Zhx]
      have:decide (bytesOf s1=bytesOf s2)=(s1.toList == s2.toList):=by rw [Bool.eq_iff_iff]; simp [Zhg]
      rw [this]; exact .bool _) hk
    ·exact .mk (fun w=>by simp only [Sem.run_bind,hg w,Result.andThen_ok,binOp,Op.stringOp]; rfl) (by
      rw [Zhx]
      have:decide (bytesOf s1=bytesOf s2)=(s1.toList == s2.toList):=by rw [Bool.eq_iff_iff]; simp [Zhg]
      rw [this]; exact .bool _) hk
    ·exact .mk (fun w=>by simp only [Sem.run_bind,hg w,Result.andThen_ok,binOp,Op.stringOp]; rfl) (by rw [Zhx]; exact .bool _) hk
    ·exact hk.elim
   ·exact hk.elim
  ·exact hk.elim

theorem Ypm {op:UnOp} {a:Zag} {x:Value} (ha:VR μ a x) {K:Zag→Prop} (hk:unA op a K):Zwd P μ (Op.unary op x) K:=by
 unfold unA at hk
 split at hk
 ·split at hk
  ·cases ha; exact .mk (fun w=>by simp [Op.unary]) (.bool _) hk
  ·exact hk.elim
 ·split at hk
  ·cases ha; exact .mk (fun w=>by simp [Op.unary,Op.intArith]) (.int _ _) hk
  ·exact hk.elim
 ·exact hk.elim

theorem Ymb {c a b:Zag} {z x y:Value} (hc:VR μ c z) (ha:VR μ a x) (hb:VR μ b y) {K:Zag→Prop} (hk:Yfc c a b K) :
  ∃ x' v,(∀ w,(do pure (.value (if ← asBool z then x else y)):Sem Next).run P w=.ok (.value x') w)∧VR μ v x'∧K v:=by
 unfold Yfc at hk
 split at hk
 ·cases hc
  rename_i e
  cases e
  ·exact ⟨y,b,fun w=>by simp [asBool],hb,hk⟩
  ·exact ⟨x,a,fun w=>by simp [asBool],ha,hk⟩
 ·exact hk.elim

theorem Ydt {a:Zag} {x:Value} {i:Nat} (ha:VR μ a x) {K:Zag→Prop} (hk:Zpp a i K):Zwd P μ (Instr.extract x i) K:=by
 unfold Zpp at hk
 split at hk
 ·cases ha with
  | tup hs=>
   obtain ⟨v,hv,hk⟩:=Zlx hk
   obtain ⟨y,hy,hr⟩:=hs.get hv
   rw [Array.getElem?_toList] at hy
   exact .mk (fun w=>by simp [Instr.extract,hy]) hr hk
 ·exact hk.elim

theorem Ygf {t:TypeId} {cs:List Zag} {xs:Array Value} {off:Nat} (hs:VRs μ cs xs.toList) {K:Zag→Prop} (hk:Zuj P t cs off K):Zwd P μ (part t xs off) K:=by
 unfold Zuj at hk
 split at hk
 ·rename_i ha
  refine .mk (x:=.agg (xs.extract off (off + P.cellsOf t))) (fun w=>by simp [part,Zvr ha,Zen (Yet ha)]) (.agg ?_) hk
  have:=(hs.drop off).take (P.cellsOf t)
  rw [Array.toList_extract,List.extract_eq_take_drop]
  simpa using this
 ·rename_i ha
  replace hk:=Zbi hk; obtain ⟨hu,hk⟩:=hk
  obtain ⟨v,hv,hk⟩:=Zlx hk
  obtain ⟨y,hy,hr⟩:=hs.get hv
  rw [Array.getElem?_toList] at hy
  exact .mk (Zmn ha hu hy) hr hk

theorem Ztc {t:TypeId} {i:Nat} {K:Field→Prop} (h:Zoy (Ztk P t i) K):∃ fs f,P.underlying t=some (.struct fs)∧fs[i]?=some f∧K f:=by
 unfold Zoy Ztk at h
 split at h
 ·rename_i f hf
  split at hf
  ·rename_i fs hu; exact ⟨fs,f,hu,hf,h⟩
  ·cases hf
 ·exact h.elim

theorem Yjx {t:TypeId} {a:Zag} {x:Value} {i:Nat} (ha:VR μ a x) {K:Zag→Prop} (hk:Zym P t a i K):Zwd P μ (Instr.field t x i) K:=by
 unfold Zym at hk
 split at hk
 ·cases ha with
  | agg hs=>
   obtain ⟨fs,f,hu,hf,hk⟩:=Ztc hk
   obtain ⟨y,v,hr,hv,hk⟩:=Ygf hs hk
   exact .mk (fun w=>by simp [Instr.field,run_underlying hu,hf,asAgg,hr]) hv hk
 ·exact hk.elim

theorem Zxn (e:Pl) (o n:Nat):(⟨e.b,e.o + o,none⟩:Addr).add n=⟨e.b,e.o + (o + n),none⟩:=by
 unfold Addr.add; split <;> simp_all [Nat.add_assoc]

theorem Zxd {t:TypeId} {a:Zag} {x:Value} {i:Nat} (ha:VR μ a x) {K:Zag→Prop} (hk:Zlt P t a i K):Zwd P μ (Instr.fieldAt t x i) K:=by
 unfold Zlt at hk
 split at hk
 ·obtain ⟨fs,f,hu,hf,hk⟩:=Ztc hk
  replace hk:=Zbi hk; obtain ⟨hs,hk⟩:=hk
  replace hk:=Zbi hk; obtain ⟨hz,hk⟩:=hk
  obtain ⟨b,o,rfl,hk⟩:=Zbn hk
  cases ha with
  | ptr hi=>
   refine .mk (fun w=>?_) (.ptr hi) hk
   simp [Instr.fieldAt,run_underlying hu,hf,Instr.sureAddr,fieldPlace,Zen hs,hz,Zxn]
 ·exact hk.elim

theorem Zyq {t:TypeId} {a i:Zag} {x y:Value} (ha:VR μ a x) (hi:VR μ i y) {K:Zag→Prop} (hk:Zlw P t a i K):Zwd P μ (Instr.indexAt t x y) K:=by
 unfold Zlw at hk
 split at hk
 ·cases hi
  split at hk
  ·rename_i e hu
   split at hk
   ·replace hk:=Zbi hk; obtain ⟨hs,hb,hk⟩:=hk
    obtain ⟨b,o,rfl,hk⟩:=Zbn hk
    cases ha with
    | slice h1 h2 h3 h4 h5=>
     refine .mk (fun w=>?_) (.ptr h1) hk
     simp [Instr.indexAt,asIntOf,run_underlying hu,hb,Zen hs,Zxn]
   ·exact hk.elim
  ·rename_i len e hu
   split at hk
   ·replace hk:=Zbi hk; obtain ⟨hs,hb,hk⟩:=hk
    obtain ⟨b,o,rfl,hk⟩:=Zbn hk
    cases ha with
    | ptr h1=>
     refine .mk (fun w=>?_) (.ptr h1) hk
     simp [Instr.indexAt,asIntOf,run_underlying hu,Instr.sureAddr,hb,Zen hs,Zxn]
   ·exact hk.elim
  ·exact hk.elim
 ·exact hk.elim

theorem Yjq {t:TypeId} {a i:Zag} {x y:Value} (ha:VR μ a x) (hi:VR μ i y) {K:Zag→Prop} (hk:Zxo P t a i K):Zwd P μ (Instr.index t x y) K:=by
 unfold Zxo at hk
 split at hk
 ·cases hi
  rename_i n
  split at hk
  ·rename_i hu
   split at hk
   ·cases ha
    rename_i s
    obtain ⟨hb,hk⟩:=hk
    rw [Zdg] at hb
    have hlt:n.toNat < s.size:=by omega
    have hg:s[n.toNat]?=some s[n.toNat]:=by simp [hlt]
    refine .mk (x:=.int .u8 (s[n.toNat]).toNat) (fun w=>?_) ?_ hk
    ·simp [Instr.index,asIntOf,run_underlying hu,hb.1,hg]
    ·have:(bytesOf s).getD n.toNat 0=(s[n.toNat]).toNat:=by
      have hlt':n.toNat < s.data.size:=hlt
      have hq:s.data[n.toNat]?=some s[n.toNat]:=by rw [Array.getElem?_eq_getElem hlt']; rfl
      simp only [bytesOf,List.getD,List.getElem?_map,Array.getElem?_toList,hq]; rfl
     rw [this]; exact .int _ _
   ·exact hk.elim
  ·rename_i len e hu
   split at hk
   ·cases ha with
    | agg hs=>
     replace hk:=Zbi hk; obtain ⟨hse,hb,hk⟩:=hk
     obtain ⟨z,v,hr,hv,hk⟩:=Ygf hs hk
     exact .mk (fun w=>by simp [Instr.index,asIntOf,run_underlying hu,hb,Zen hse,hr]) hv hk
   ·exact hk.elim
  ·exact hk.elim
 ·exact hk.elim

theorem Ylt {s d:TypeId} {a:Zag} {x:Value} (ha:VR μ a x) {K:Zag→Prop} (hk:Yao P s d a K):Zwd P μ (convert s d x) K:=by
 unfold Yao at hk
 split at hk
 ·rename_i k hd
  split at hk
  ·cases ha
   replace hk:=Zbi hk; obtain ⟨hs,hk⟩:=hk
   obtain ⟨ds,hds⟩:=Option.isSome_iff_exists.1 hs
   exact .mk (fun w=>by simp [convert,run_underlying hds,run_underlying hd,Conv.intToInt]) (.int _ _) hk
  ·exact hk.elim
 ·rename_i hd
  split at hk
  ·cases ha
   replace hk:=Zbi hk; obtain ⟨hs,hk⟩:=hk
   have hs:=Zma hs
   exact .mk (fun w=>by simp [convert,run_underlying hs,run_underlying hd]) (.str _) hk
  ·cases ha
   rename_i n
   replace hk:=Zbi hk; obtain ⟨hs,hb,hk⟩:=hk
   obtain ⟨k,hs⟩:=Yfj hs
   refine .mk (x:=.string (Utf8.encode n)) (fun w=>by simp [convert,run_underlying hs,run_underlying hd,Conv.intToString]) ?_ hk
   have h1:Utf8.valid n=true:=by simp [Utf8.valid]; omega
   have h2:n.toNat < 128:=by omega
   have:[n.toNat]=bytesOf (Utf8.encode n):=by
    simp only [Utf8.encode,h1,if_true,h2,bytesOf]
    simp
    omega
   rw [this]; exact .str _
  ·exact hk.elim
 ·exact hk.elim

theorem Zsy (s:ByteArray) (l h:Nat):bytesOf (s.extract l h)=((bytesOf s).take h).drop l:=by
 simp only [bytesOf,ByteArray.data_extract,Array.toList_extract,List.extract_eq_take_drop]
 rw [← List.map_take,← List.map_drop,List.take_drop,List.drop_take]
 congr 2
 rw [List.drop_take]
 by_cases hl:l≤h
 ·rw [show l + (h - l)=h by omega]
 ·rw [show h - l=0 by omega]; simp

theorem Zdh {x:Option Operand} {env:Env} {ρ:Operand→Value} (hρ:Zui μ env ρ) {d:Int} {K:Int→Prop} (h:Zjm (x.map (ev env)) d K) :
  (x=none∧K d) ∨ ∃ k n,x.map ρ=some (.int k n)∧K n:=by
 unfold Zjm at h
 split at h
 ·rename_i hx; cases x with
  | none=>exact .inl ⟨rfl,h⟩
  | some y=>simp at hx
 ·rename_i k n hx; cases x with
  | none=>simp at hx
  | some y=>
   simp only [Option.map_some,Option.some.injEq] at hx
   have:=hρ y
   rw [hx] at this
   cases hy:ρ y with
   | int k' n'=>rw [hy] at this; cases this; exact .inr ⟨k,n,by simp [hy],h⟩
   | _=>rw [hy] at this; cases this
 ·exact h.elim

theorem Yal {t:TypeId} {env:Env} {ρ:Operand→Value} (hρ:Zui μ env ρ) {s:ByteArray} {lo hi:Option Operand} (hu:P.underlying t=some .string) {K:Zag→Prop}
  (hk:Zpn (bytesOf s) (lo.map (ev env)) (hi.map (ev env)) K):Zwd P μ (Instr.sliceAt t (.string s) (lo.map ρ) (hi.map ρ) none) K:=by
 unfold Zpn at hk
 have fin:∀ (l h:Int) (w:World),(0≤l∧l≤h∧h≤(bytesOf s).length)→(Instr.sliceBounds false s.size s.size (lo.map ρ) (hi.map ρ) none).run P w=.ok (l.toNat,h.toNat,s.size) w →
   (Instr.sliceAt t (.string s) (lo.map ρ) (hi.map ρ) none).run P w=.ok (.string (s.extract l.toNat h.toNat)) w:=fun l h w _ hr=>by
  simp [run_sliceAt_string w t _ _ _ _ hu,Instr.slice,run_underlying hu,hr]
 have hv:∀ l h:Int,VR μ (.str (sub (bytesOf s) l h)) (.string (s.extract l.toNat h.toNat)):=fun l h=>by
  unfold sub; rw [← Zsy]; exact .str _
 rcases Zdh hρ hk with ⟨rfl,hk2⟩ | ⟨kh,h,hh,hk2⟩
 ·rcases Zdh hρ hk2 with ⟨rfl,hb,hk3⟩ | ⟨kl,l,hl,hb,hk3⟩
  ·refine .mk (fun w=>fin _ _ w hb ?_) (hv _ _) hk3
   simp [Instr.sliceBounds,Zdg]
  ·refine .mk (fun w=>fin _ _ w hb ?_) (hv _ _) hk3
   rw [Zdg] at hb ⊢
   simp [Instr.sliceBounds,hl,run_sliceBound w kl l s.size .sliceB hb.1 (by omega)]
 ·rcases Zdh hρ hk2 with ⟨rfl,hb,hk3⟩ | ⟨kl,l,hl,hb,hk3⟩
  ·refine .mk (fun w=>fin _ _ w hb ?_) (hv _ _) hk3
   rw [Zdg] at hb
   simp [Instr.sliceBounds,hh,run_sliceBound w kh h s.size .sliceAlen (by omega) (by omega)]
  ·refine .mk (fun w=>fin _ _ w hb ?_) (hv _ _) hk3
   rw [Zdg] at hb
   simp [Instr.sliceBounds,hh,hl,run_sliceBound w kh h s.size .sliceAlen (by omega) (by omega),run_sliceBound w kl l h.toNat .sliceB hb.1 (by omega)]

theorem Yep {env:Env} {ρ:Operand→Value} (hρ:Zui μ env ρ) {len cap capm:Nat} (hcap:cap≤capm) {lo hi mx:Option Operand} (hm:((mx.map (ev env)).isNone || (hi.map (ev env)).isSome)=true) {K:Int→Int→Int→Prop}
  (hk:Zjm (mx.map (ev env)) cap fun m=>Zjm (hi.map (ev env)) len fun h=>Zjm (lo.map (ev env)) 0 fun l=>(0≤l∧l≤h∧h≤m∧m≤cap)∧K l h m) :
  ∃ l h m:Int,(0≤l∧l≤h∧h≤m∧m≤cap)∧K l h m∧(mx=none→m=cap) ∧
   ∀ w,(Instr.sliceBounds true len capm (lo.map ρ) (hi.map ρ) (mx.map ρ)).run P w=.ok (l.toNat,h.toNat,if mx=none then capm else m.toNat) w:=by
 rcases Zdh hρ hk with ⟨rfl,hk1⟩ | ⟨km,m,hmx,hk1⟩
 ·rcases Zdh hρ hk1 with ⟨rfl,hk2⟩ | ⟨kh,h,hh,hk2⟩
  ·rcases Zdh hρ hk2 with ⟨rfl,hb,hk3⟩ | ⟨kl,l,hl,hb,hk3⟩
   ·exact ⟨_,_,_,hb,hk3,fun _=>rfl,fun w=>by simp [Instr.sliceBounds]⟩
   ·exact ⟨_,_,_,hb,hk3,fun _=>rfl,fun w=>by simp [Instr.sliceBounds,hl,run_sliceBound w kl l len .sliceB hb.1 (by omega)]⟩
  ·rcases Zdh hρ hk2 with ⟨rfl,hb,hk3⟩ | ⟨kl,l,hl,hb,hk3⟩
   ·exact ⟨_,_,_,hb,hk3,fun _=>rfl,fun w=>by simp [Instr.sliceBounds,hh,run_sliceBound w kh h capm .sliceAcap (by omega) (by omega)]⟩
   ·exact ⟨_,_,_,hb,hk3,fun _=>rfl,fun w=>by simp [Instr.sliceBounds,hh,hl,run_sliceBound w kh h capm .sliceAcap (by omega) (by omega),run_sliceBound w kl l h.toNat .sliceB hb.1 (by omega)]⟩
 ·have hne:mx≠none:=fun e=>by subst e; simp at hmx
  rcases Zdh hρ hk1 with ⟨rfl,hk2⟩ | ⟨kh,h,hh,hk2⟩
  ·cases mx with
   | none=>exact absurd rfl hne
   | some x=>simp at hm
  ·rcases Zdh hρ hk2 with ⟨rfl,hb,hk3⟩ | ⟨kl,l,hl,hb,hk3⟩
   ·exact ⟨_,_,_,hb,hk3,fun e=>absurd e hne,fun w=>by simp [Instr.sliceBounds,hh,hmx,hne,run_sliceBound w km m capm .slice3Acap (by omega) (by omega),run_sliceBound w kh h m.toNat .slice3B (by omega) (by omega)]⟩
   ·exact ⟨_,_,_,hb,hk3,fun e=>absurd e hne,fun w=>by simp [Instr.sliceBounds,hh,hl,hmx,hne,run_sliceBound w km m capm .slice3Acap (by omega) (by omega),run_sliceBound w kh h m.toNat .slice3B (by omega) (by omega),run_sliceBound w kl l h.toNat .slice3C hb.1 (by omega)]⟩

theorem Yef {t e:TypeId} {env:Env} {ρ:Operand→Value} (hρ:Zui μ env ρ) {a:Option (Nat × Nat)} {len cap:Nat} {ex:Bool} {x:Value} (hx:VR μ (.slice a len cap ex) x) {lo hi mx:Option Operand}
  (hu:P.underlying t=some (.slice e)) (hs:(P.underlying e).isSome=true) (hm:((mx.map (ev env)).isNone || (hi.map (ev env)).isSome)=true) {K:Zag→Prop}
  (hk:Zms a len cap ex (P.cellsOf e) (lo.map (ev env)) (hi.map (ev env)) (mx.map (ev env)) K):Zwd P μ (Instr.sliceAt t x (lo.map ρ) (hi.map ρ) (mx.map ρ)) K:=by
 have hel:P.elem t=e:=by simp [Program.elem,hu]
 have hu':P.underlying t=some (.slice (P.elem t)):=by rw [hel]; exact hu
 obtain ⟨am,capm,rfl,hcap⟩:∃ am capm,x=.slice am len capm∧(a≠none→cap≤capm):=by
  cases hx with
  | slice0=>exact ⟨_,_,rfl,by simp⟩
  | sliceE0=>exact ⟨_,_,rfl,by simp⟩
  | sliceE1=>exact ⟨_,_,rfl,by simp⟩
  | slice h1 h2 h3 h4 h5=>exact ⟨_,_,rfl,fun _=>h3⟩
 have run:∀ (l h m:Int) (w:World),(Instr.sliceBounds true len capm (lo.map ρ) (hi.map ρ) (mx.map ρ)).run P w=.ok (l.toNat,h.toNat,m.toNat) w →
   (Instr.sliceAt t (.slice am len capm) (lo.map ρ) (hi.map ρ) (mx.map ρ)).run P w=.ok (.slice (if m.toNat=l.toNat then am else am.map (·.add (l.toNat * P.cellsOf e))) (h.toNat - l.toNat) (m.toNat - l.toNat)) w:=fun l h m w hr=>by
  rw [run_sliceAt_slice w t _ _ _ _ hu',run_slice_any w t am len capm hu',hr]
  simp [hel,Zen hs,sliced]
 cases a with
 | none=>
  have hlen:len=0:=by cases hx <;> rfl
  subst hlen
  have step:∀ (l h m:Int),(l=0∧h=0∧(mx=none ∨ m=0))→(mx=none→m=capm)→(∀ w,(Instr.sliceBounds true 0 capm (lo.map ρ) (hi.map ρ) (mx.map ρ)).run P w=.ok (l.toNat,h.toNat,m.toNat) w) →
    K (.slice none 0 (match mx.map (ev env) with | some _=>0 | none=>cap) ex)→Zwd P μ (Instr.sliceAt t (.slice am 0 capm) (lo.map ρ) (hi.map ρ) (mx.map ρ)) K:=by
   intro l h m ⟨h1,h2,h3⟩ hmc hr hk
   subst h1; subst h2
   refine .mk (fun w=>run _ _ _ w (hr w)) ?_ hk
   simp only [Int.toNat_zero,Nat.sub_zero,Nat.zero_mul]
   have hadd:(if m.toNat=0 then am else am.map (·.add 0))=am:=by
    split
    ·rfl
    ·cases am <;> simp [Addr.add]
   rw [hadd]
   cases mx with
   | none=>
    have:=hmc rfl
    subst this
    simp only [Option.map_none,Int.toNat_natCast]
    cases hx <;> constructor
   | some mo=>
    have hm0:m=0:=by rcases h3 with h3 | h3 <;> simp_all
    subst hm0
    simp only [Option.map_some,Int.toNat_zero]
    cases hx <;> constructor
  unfold Zms at hk
  rcases Zdh hρ hk with ⟨rfl,hk1⟩ | ⟨km,m,hmx,hk1⟩
  ·rcases Zdh hρ hk1 with ⟨rfl,hk2⟩ | ⟨kh,h,hh,hk2⟩
   ·rcases Zdh hρ hk2 with ⟨rfl,hb,hc,hk3⟩ | ⟨kl,l,hl,hb,hc,hk3⟩
    ·exact step 0 0 capm ⟨rfl,rfl,.inl rfl⟩ (fun _=>rfl) (fun w=>by simp [Instr.sliceBounds]) hk3
    ·exact step l 0 capm ⟨hc.1,rfl,.inl rfl⟩ (fun _=>rfl) (fun w=>by simp [Instr.sliceBounds,hl,run_sliceBound w kl l 0 .sliceB hb.1 (by omega)]) hk3
   ·rcases Zdh hρ hk2 with ⟨rfl,hb,hc,hk3⟩ | ⟨kl,l,hl,hb,hc,hk3⟩
    ·exact step 0 h capm ⟨rfl,hc.2.1,.inl rfl⟩ (fun _=>rfl) (fun w=>by simp [Instr.sliceBounds,hh,run_sliceBound w kh h capm .sliceAcap (by omega) (by omega)]) hk3
    ·exact step l h capm ⟨hc.1,hc.2.1,.inl rfl⟩ (fun _=>rfl) (fun w=>by simp [Instr.sliceBounds,hh,hl,run_sliceBound w kh h capm .sliceAcap (by omega) (by omega),run_sliceBound w kl l h.toNat .sliceB hb.1 (by omega)]) hk3
  ·have hne:mx≠none:=fun e=>by subst e; simp at hmx
   rcases Zdh hρ hk1 with ⟨rfl,hk2⟩ | ⟨kh,h,hh,hk2⟩
   ·cases mx with
    | none=>exact absurd rfl hne
    | some x=>simp at hm
   ·rcases Zdh hρ hk2 with ⟨rfl,hb,hc,hk3⟩ | ⟨kl,l,hl,hb,hc,hk3⟩
    ·have hm0 : m = 0 := by rcases hc.2.2 with h | h
                            · simp at h; exact absurd h hne
                            · exact h
     exact step 0 h m ⟨rfl,hc.2.1,.inr hm0⟩ (fun e=>absurd e hne) (fun w=>by simp [Instr.sliceBounds,hh,hmx,run_sliceBound w km m capm .slice3Acap (by omega) (by omega),run_sliceBound w kh h m.toNat .slice3B (by omega) (by omega)]) hk3
    ·have hm0 : m = 0 := by rcases hc.2.2 with h | h
                            · simp at h; exact absurd h hne
                            · exact h
     exact step l h m ⟨hc.1,hc.2.1,.inr hm0⟩ (fun e=>absurd e hne) (fun w=>by simp [Instr.sliceBounds,hh,hl,hmx,run_sliceBound w km m capm .slice3Acap (by omega) (by omega),run_sliceBound w kh h m.toNat .slice3B (by omega) (by omega),run_sliceBound w kl l h.toNat .slice3C hb.1 (by omega)]) hk3
 | some p=>
  obtain ⟨b,o⟩:=p
  have hcap:=hcap (by simp)
  obtain ⟨l,h,m,hb,⟨hk1,hk2⟩,hmc,hr⟩:=Yep (P:=P) (K:=fun l h m=>(l < m→K (.slice (some (b,o + l.toNat * P.cellsOf e)) (h - l).toNat (m - l).toNat (ex || (mx.map (ev env)).isSome))) ∧
    (¬ l < m→K (.slice none 0 (if ex || (mx.map (ev env)).isSome then 0 else 1) false))) hρ hcap hm hk
  have hr2:∀ w,(Instr.sliceBounds true len capm (lo.map ρ) (hi.map ρ) (mx.map ρ)).run P w=.ok (l.toNat,h.toNat,((if mx=none then capm else m.toNat:Nat):Int).toNat) w:=fun w=>by rw [hr w]; rfl
  cases hx with
  | slice h1 h2 h3 h4 h5=>
   rename_i e'
   by_cases hlm:l < m
   ·refine .mk (fun w=>run _ _ _ w (hr2 w)) ?_ (hk1 hlm)
    have hne:((if mx=none then capm else m.toNat:Nat):Int).toNat≠l.toNat:=by
     split
     ·rename_i hx; have:=hmc hx; omega
     ·omega
    rw [if_neg hne]
    simp only [Option.map_some,Zxn]
    have e1:h.toNat - l.toNat=(h - l).toNat:=by omega
    rw [e1]
    refine .slice h1 (by omega) ?_ ?_ ?_
    ·split
     ·rename_i hx; have:=hmc hx; omega
     ·omega
    ·intro hex
     split
     ·rename_i hx; subst hx; simp at hex; have:=hmc rfl; have:=h4 hex; omega
     ·omega
    ·intro ho h0
     have h6:=h5 ho (by omega)
     refine Nat.le_trans (Nat.mul_le_mul_right _ ?_) h6
     split <;> omega
   ·refine .mk (fun w=>run _ _ _ w (hr2 w)) ?_ (hk2 hlm)
    have e1:h.toNat - l.toNat=0:=by omega
    rw [e1]
    cases mx with
    | none=>
     have hmc:=hmc rfl
     simp only [Option.map_none,Option.isSome_none,Bool.or_false,if_true]
     cases ex with
     | true=>
      have:=h4 rfl
      have e2:((capm:Nat):Int).toNat - l.toNat=0:=by omega
      rw [e2]; exact .sliceE0
     | false=>exact .sliceE1
    | some mo=>
     simp only [Option.map_some,Option.isSome_some,Bool.or_true,if_true,reduceCtorEq,if_false]
     have e2:((m.toNat:Nat):Int).toNat - l.toNat=0:=by omega
     rw [e2]; exact .sliceE0

theorem Ykd {env:Env} {ρ:Operand→Value} (hρ:Zui μ env ρ):∀ xs:List Operand,VRs μ (xs.map (ev env)) (xs.map ρ)
 | []=>.nil
 | x :: r=>.cons (hρ x) (Ykd hρ r)
theorem Zpk {env:Env} {ρ:Operand→Value} (hρ:Zui μ env ρ) (xs:Array Operand):VRs μ (xs.toList.map (ev env)) (xs.map ρ).toList:=by
 rw [Array.toList_map]; exact Ykd hρ _
theorem VRs.one {v:Zag} {xs:Array Value} (h:VRs μ [v] xs.toList):∃ x,xs=#[x]∧VR μ v x:=by
 obtain ⟨l⟩:=xs
 cases h with
 | cons a b=>cases b; exact ⟨_,rfl,a⟩
theorem VRs.two {v u:Zag} {xs:Array Value} (h:VRs μ [v,u] xs.toList):∃ x y,xs=#[x,y]∧VR μ v x∧VR μ u y:=by
 obtain ⟨l⟩:=xs
 cases h with
 | cons a b=>cases b with
  | cons b c=>cases c; exact ⟨_,_,rfl,a,b⟩

theorem Ynu {env:Env} {ρ:Operand→Value} (hρ:Zui μ env ρ) {c:Call} (ty:TypeId) {K:Zag→Prop} (hk:Ykt P c.argTypes (c.args.toList.map (ev env)) K) :
  Zwd P μ (Builtin.len_ c.argTypes ty (c.args.map ρ)) K:=by
 have hargs:=Zpk hρ c.args
 unfold Ykt at hk
 split at hk
 ·rename_i s hs
  rw [hs] at hargs
  obtain ⟨x,hx,hv⟩:=hargs.one
  replace hk:=Zbi hk; obtain ⟨hu,hk⟩:=hk
  cases hv
  rename_i s
  rw [Zdg] at hk
  cases ht:c.argTypes[0]? with
  | none=>simp [ht] at hu
  | some t=>
   simp [ht] at hu
   have hu:=Zma hu
   exact .mk (fun w=>by simp [Builtin.len_,ht,hx,run_underlying hu,goInt]) (.int _ _) hk
 ·rename_i a n cp ex hs
  rw [hs] at hargs
  obtain ⟨x,hx,hv⟩:=hargs.one
  replace hk:=Zbi hk; obtain ⟨hu,hk⟩:=hk
  cases ht:c.argTypes[0]? with
  | none=>simp [ht] at hu
  | some t=>
   simp [ht] at hu
   obtain ⟨e,hu⟩:=Ybt hu
   cases hv <;> exact .mk (fun w=>by simp [Builtin.len_,ht,hx,run_underlying hu,goInt]) (.int _ _) hk
 ·exact hk.elim
end
end Go.Sim

set_option linter.unusedSimpArgs false
namespace Go.Sim
open Go Go.RowKit

section
variable {P:Program} {μ:List Pl}

theorem Zwd.val {s:Sem Value} {K:Zag→Prop} (h:Zwd P μ s K):∃ x v,(∀ w,(do pure (.value (← s)):Sem Next).run P w=.ok (.value x) w)∧VR μ v x∧K v:=by
 obtain ⟨x,v,hr,hv,hk⟩:=h
 exact ⟨x,v,fun w=>by simp [hr w],hv,hk⟩

theorem Ylx {env:Env} {ρ:Operand→Value} (hρ:Zui μ env ρ) {o:Oper} {K:Zag→Prop} (hk:Zok P env o K) :
  ∃ x v,(∀ w,(execOp ρ o).run P w=.ok (.value x) w)∧VR μ v x∧K v:=by
 unfold Zok at hk
 obtain ⟨dst,op,type,pos,after,guard⟩:=o
 cases op <;> simp only at hk <;> simp only [execOp]
 case move x=>exact ⟨_,_,fun w=>rfl,hρ x,hk⟩
 case assign x=>exact ⟨_,_,fun w=>rfl,hρ x,hk⟩
 case pick c a b=>exact Ymb (hρ c) (hρ a) (hρ b) hk
 case binOp op t x y yt=>exact (Ynp (hρ x) (hρ y) hk).val
 case unOp op t x=>exact (Ypm (hρ x) hk).val
 case nilCheck x=>
  have:=hρ x
  unfold Yot at hk
  split at hk
  ·rename_i he
   obtain ⟨b,o,rfl,hk⟩:=Zbn hk
   rw [he] at this
   cases hy:ρ x with
   | pointer a=>
    rw [hy] at this
    cases this with
    | ptr hi=>exact ⟨_,_,fun w=>rfl,.ptr hi,hk⟩
   | _=>rw [hy] at this; cases this
  ·rename_i f cs he
   rw [he] at this
   cases hy:ρ x with
   | func fn first cap=>
    rw [hy] at this
    cases this with
    | fn hs=>exact ⟨_,_,fun w=>rfl,.fn hs,hk⟩
   | _=>rw [hy] at this; cases this
  ·exact hk.elim
 case extract x i=>exact (Ydt (hρ x) hk).val
 case field t x i=>exact (Yjx (hρ x) hk).val
 case fieldAddr t x i=>exact (Zxd (hρ x) hk).val
 case indexAddr t x i=>exact (Zyq (hρ x) (hρ i) hk).val
 case index t x i=>exact (Yjq (hρ x) (hρ i) hk).val
 case convert s d x=>exact (Ylt (hρ x) hk).val
 case slice t x lo hi mx=>
  refine Zwd.val ?_
  unfold Zut at hk
  split at hk
  ·rename_i hu
   split at hk
   ·rename_i s he
    replace hk:=Zbi hk; obtain ⟨hm,hk⟩:=hk
    have:=hρ x
    rw [he] at this
    cases mx with
    | some m=>simp at hm
    | none=>
     cases hy:ρ x with
     | string s'=>rw [hy] at this; cases this; exact Yal hρ hu hk
     | _=>rw [hy] at this; cases this
   ·exact hk.elim
  ·rename_i e hu
   split at hk
   ·rename_i a len cap ex he
    replace hk:=Zbi hk; obtain ⟨hs,hk⟩:=hk
    replace hk:=Zbi hk; obtain ⟨hm,hk⟩:=hk
    have:=hρ x
    rw [he] at this
    exact Yef hρ this hu hs hm hk
   ·exact hk.elim
  ·exact hk.elim
 case makeFunc fn first caps=>
  cases fn <;> simp only at hk
  case func f=>
   replace hk:=Zbi hk; obtain ⟨h0,hk⟩:=hk
   have:first.map ρ=#[]:=by simpa using h0
   exact ⟨_,_,fun w=>by simp [Instr.makeFunc,this],.fn (Zpk hρ caps),hk⟩
  all_goals exact hk.elim
 case call c=>
  obtain ⟨callee,args,ats⟩:=c
  cases callee <;> simp only at hk
  case builtin b=>
   cases b <;> simp only at hk
   case len=>
    refine (Ynu (c:=⟨.builtin .len,args,ats⟩) hρ type hk).val.imp fun x ⟨v,hr,h⟩=>⟨v,fun w=>?_,h⟩
    have:=hr w
    simpa [resolve,invoke,builtin] using this
   all_goals exact hk.elim
  all_goals exact hk.elim
 all_goals exact hk.elim
end
end Go.Sim
