/- A part of the proof of a statement of this seat: see the text that holds the theorem. No condition. -/
import Derived.Test.YtdglddliggejdaaGreatSimW
import Derived.Shelf.SlIter.Nil
set_option linter.unusedVariables false
set_option linter.unusedSimpArgs false
set_option linter.all false
set_option linter.unusedSimpArgs false
namespace Go.Sim
open Go Go.RowKit

section
variable {P:Program} {h:Zaa}
theorem Zae.keys {n g : FuncId} {M : TypeId} (able : ∃ fn, P.funcs[n]? = some fn ∧ fn.body.isSome = true ∧ (fn.name == "runtime.NumGoroutine") = false)
  (hc:∀ (mb:Option Nat) (W:World),Calls P n #[.map mb] W fun e w'=>e=.returned (.func (.func g) #[] #[.pointer (some ⟨W.heap.size,0,none⟩)])∧w'=W.alloc (.cells #[.map mb] M)) {m:Option Nat} :
  Zae P n [.map m] h fun v h'=>v=.fn g [.ptr (some (h.length,0))]∧h'=h ++ [.cells M [.map m] false]:=by
 refine ⟨able,fun base w0 μ w xs rel hx=>?_⟩
 match xs,hx with
 | ⟨[x1]⟩,.cons hx1 .nil=>
  have key:∀ mb,VR μ (.map m) (.map mb)→Calls P n #[.map mb] w fun e w'=>∃ x μ' v h',e=.returned x∧Ext μ μ'∧Rel P base w0 μ' h' w'∧VR μ' v x∧v=.fn g [.ptr (some (h.length,0))]∧h'=h ++ [.cells M [.map m] false]:=by
   intro mb hv
   refine (hc mb w).mono ?_
   rintro e w' ⟨rfl,rfl⟩
   have r':=rel.newRow0 (t:=M) (cs:=[.map m]) (C:=#[.map mb]) (by simpa using VRs.cons hv .nil)
   refine ⟨_,_,_,_,rfl,Ext.app _ _,r',?_,rfl,rfl⟩
   refine .fn (.cons ?_ .nil)
   exact .ptr (e:=⟨w.heap.size,0,true,1,P.cellsOf M⟩) (o:=0) (by simpa using rel.last _)
  cases hx1 with
  | map0=>exact key none .map0
  | map hi=>exact key _ (.map hi)
theorem Ypo {a b:UInt8} (h:([a]:List UInt8)≤[b]):a.toNat≤b.toNat:=by
 have h1:¬ ([b]:List UInt8) < [a]:=h
 rw [List.cons_lt_cons_iff] at h1
 have h2:¬ b < a:=fun e=>h1 (.inl e)
 have:¬ b.toNat < a.toNat:=fun e=>h2 (UInt8.lt_iff_toNat_lt.2 e)
 omega
theorem VRs.ones {μ:List Pl}:∀ {vs:List Nat} {xs:List Value},VRs μ (vs.map fun v=>.str [v]) xs→∃ bs:List UInt8,bs.map UInt8.toNat=vs∧xs=bs.map fun b=>.string ⟨#[b]⟩
 | [],[],_=>⟨[],rfl,rfl⟩
 | [],_ :: _,h=>by cases h
 | v :: vs,[],h=>by cases h
 | v :: vs,x :: xs,h=>by
  simp only [List.map_cons] at h
  cases h with
  | cons h1 h2=>
  generalize ht:[v]=t at h1
  cases h1 with
  | str s=>
  obtain ⟨b,rfl,rfl⟩:=Zut ht.symm
  obtain ⟨bs,rfl,rfl⟩:=VRs.ones h2
  exact ⟨b :: bs,rfl,rfl⟩
theorem VRs.ones2 {μ:List Pl} (bs:List UInt8):VRs μ ((bs.map UInt8.toNat).map fun v=>.str [v]) (bs.map fun b=>.string ⟨#[b]⟩):=by
 induction bs with
 | nil=>exact .nil
 | cons b bs ih=>
  simp only [List.map_cons]
  refine .cons ?_ ih
  have:=VR.str (μ:=μ) ⟨#[b]⟩
  simpa [bytesOf] using this
theorem Yoj {bs:List UInt8} {ss:List (List UInt8)} (hp:ss.Perm (bs.map fun b=>[b])):∃ us:List UInt8,ss=us.map (fun b=>[b])∧us.Perm bs:=by
 have hall:∀ s∈ss,∃ b,s=[b]:=fun s hs=>by
  obtain ⟨b,_,rfl⟩:=List.mem_map.1 (hp.mem_iff.1 hs); exact ⟨b,rfl⟩
 have hus:ss=(ss.map fun s=>s.headD 0).map (fun b=>[b]):=by
  rw [List.map_map]
  conv=>lhs; rw [← List.map_id ss]
  apply List.map_congr_left
  intro s hs
  obtain ⟨b,rfl⟩:=hall s hs
  rfl
 refine ⟨ss.map fun s=>s.headD 0,hus,?_⟩
 have:=hp.map fun s=>s.headD 0
 simpa [List.map_map,Function.comp_def] using this
theorem Zae.sortedKeys {n g : FuncId} {M K : TypeId} (hK : P.underlying K = some .string) (hcK : P.cellsOf K = 1) (able : ∃ fn, P.funcs[n]? = some fn ∧ fn.body.isSome = true ∧ (fn.name == "runtime.NumGoroutine") = false)
  (hc:∀ (Bm b nn:Nat) (D0:DataW Unit) (R:Value→Option (DataW Unit × List MemPlace)) (w:World),w.ownsMap P K R b nn D0→Bm < w.heap.size→w.cell? ⟨Bm,0,none⟩=some (.map (some b))→Maps.size D0≤maxLen→Maps.size D0 * 16≤140737488355328 →
   Calls P n #[.func (.func g) #[] #[.pointer (some ⟨Bm,0,none⟩)]] w fun e w'=>∃ (v:Value) (ss:List (List UInt8)),e=.returned v∧ss.Perm (strKeys D0) ∧
    w'.ownsRow w.heap.size K 1 v ss.length ((ss.mergeSort (fun x y=>decide (x≤y))).map Go.Proofs.encStr)∧(v=.slice none 0 0 ↔ ss=[])∧Below w.heap.size w w')
  {i m:Nat} {es:List ME} {clk:Nat} (hi:h[i]?=some (.cells M [.map (some m)] false)) (hm:h[m]?=some (.map es clk)) {vs:List Nat} (hks:es.map (·.1)=vs.map fun v=>.str [v]) (nd:vs.Nodup) (born:(es.map (·.2.2)).Nodup) (lt:∀ e∈es,e.2.2 < clk) (hl:es.length≤1048576) :
  Zae P n [.fn g [.ptr (some (i,0))]] h fun v h'=>∃ us:List Nat,us.Perm vs∧us.Pairwise (·≤·)∧((us=[]∧v=.slice none 0 0 true∧h'=h) ∨ (∃ c,v=.slice (some (h.length,0)) us.length c false∧us.length≤c∧h'=h ++ [.cells K (us.map fun v=>.str [v]) false])):=by
 refine ⟨able,fun base w0 μ w xs rel hx=>?_⟩
 match xs,hx with
 | ⟨[x1]⟩,.cons hx1 .nil=>
  generalize hf:Zal.fn g [.ptr (some (i,0))]=f at hx1
  cases hx1 <;> try (cases hf; done)
  rename_i f' caps ys hcaps
  cases hf
  obtain ⟨ys⟩:=ys
  match ys,hcaps with
  | [y],.cons hy .nil=>
  generalize hp:(Zal.ptr (some (i,0)))=p at hy
  cases hy <;> try (cases hp; done)
  rename_i i' o' e hei
  cases hp
  obtain ⟨C,el,fr,hC,hvs,hown⟩:=rel.obj i _ hi e hei
  simp only [Bool.false_eq_true,if_false] at hown
  obtain ⟨ho1,ho0,rfl,rfl,hn,hcz,hbase⟩:=hown
  rw [ho0,List.drop_zero] at hvs
  simp only [List.length_cons,List.length_nil] at hvs
  have hC0:∃ x r,C.toList=x :: r∧VR μ (.map (some m)) x:=by
   match hCl:C.toList,hvs with
   | x :: r,hv=>simp only [List.take_succ_cons] at hv; cases hv with | cons a b=>exact ⟨x,r,rfl,a⟩
   | [],hv=>simp at hv; cases hv
  obtain ⟨x,r,hCl,hvx⟩:=hC0
  generalize hmm:Zal.map (some m)=mm at hvx
  cases hvx <;> try (cases hmm; done)
  rename_i m' em hem
  cases hmm
  obtain ⟨hbm,ents,hents,hk1,hk2,hk3⟩:=rel.obj m _ hm em hem
  rw [hks] at hk1
  obtain ⟨bs,rfl,hkeys⟩:=hk1.ones
  have hlen:ents.size=es.length:=by have:=congrArg List.length hk3; simp at this; exact this.symm
  have hel:w.cell? ⟨e.b,0,none⟩=some (.map (some em.b)):=by
   have:C[0]?=some (.map (some em.b)):=by rw [← Array.getElem?_toList,hCl]; rfl
   simp [World.cell?,hC,this]
  have hkey:∀ y∈ents.toList,∃ b:UInt8,y.key=.string ⟨#[b]⟩:=fun y hy=>by
   have:y.key∈ents.toList.map (·.key):=List.mem_map.2 ⟨y,hy,rfl⟩
   rw [hkeys] at this
   obtain ⟨b,_,hb⟩:=List.mem_map.1 this
   exact ⟨b,hb.symm⟩
  have hko:∀ b:UInt8,keyOf P K (.string ⟨#[b]⟩)=some (.string [b]):=fun b=>by
   simp [keyOf,hK,mapKey,maxLen]; exact if_pos (by show (1:Nat)≤_; decide)
  let R:Value→Option (DataW Unit × List MemPlace):=fun _=>some (.nil,[])
  have hrg:ents.toList.map (fun y=>strOf (WideElems.rg P K R y).1)=bs.map fun b=>[b]:=by
   have:ents.toList.map (fun y=>strOf (WideElems.rg P K R y).1)=(ents.toList.map (·.key)).map fun k=>match keyOf P K k with | some l=>strOf l | none=>[]:=by
    rw [List.map_map]
    apply List.map_congr_left
    intro y hy
    obtain ⟨b,hb⟩:=hkey y hy
    simp [WideElems.rg,WideElems.rd,hb,hko,R,strOf]
   rw [this,hkeys,List.map_map]
   apply List.map_congr_left
   intro b _
   simp [hko,strOf]
  have hnb:bs.Nodup:=List.Pairwise.of_map (R:=fun a b:UInt8=>a≠b) UInt8.toNat (fun a b h e=>h (by rw [e])) nd
  have hfit:WideElems.Fit P K R ents clk:=by
   refine ⟨by rw [hlen]; exact Nat.le_trans hl (by decide),⟨?_,by rw [← hk3]; exact born,?_⟩,?_⟩
   ·intro y hy
    have:y.born∈ents.toList.map (·.born):=List.mem_map.2 ⟨y,hy,rfl⟩
    rw [← hk3] at this
    obtain ⟨e',he',hb⟩:=List.mem_map.1 this
    rw [← hb]; exact lt e' he'
   ·rw [hkeys]
    refine List.Pairwise.map _ ?_ hnb
    intro a b hab e
    exact hab (by simpa using e)
   ·intro y hy
    obtain ⟨b,hb⟩:=hkey y hy
    exact ⟨_,by simp [WideElems.rd,hb,hko,R]; rfl⟩
  have hps:=WideShapes.sorted_perm (ents.toList.map (WideElems.rg P K R))
  have hsz:Maps.size (DataW.map ((ents.toList.map (WideElems.rg P K R)).foldr DataW.insert []))=es.length:=by
   show List.length _=_
   rw [hps.length_eq,List.length_map,Array.length_toList,hlen]
  show Calls P n #[.func (.func g) #[] #[.pointer (some ⟨e.b,e.o + 0,none⟩)]] w _
  rw [show e.o + 0=0 by omega]
  refine (hc e.b em.b ents.size _ R w ⟨ents,clk,hents,hfit,Nat.le_refl _,rfl⟩ (Array.getElem?_eq_some_iff.1 hC).1 hel (by rw [hsz]; exact Nat.le_trans hl (by decide)) (by rw [hsz]; omega)).mono ?_
  rintro ee w' ⟨v,ss,rfl,hperm,hrow,hnil,hb⟩
  have hperm2:ss.Perm (bs.map fun b=>[b]):=by
   refine hperm.trans ?_
   show (List.map (fun p:Lit × DataW Unit=>strOf p.1) _).Perm _
   rw [← hrg]
   have:=hps.map fun p:Lit × DataW Unit=>strOf p.1
   simpa [List.map_map,Function.comp_def] using this
  have tr:∀ a b c:List UInt8,decide (a≤b)=true→decide (b≤c)=true→decide (a≤c)=true:=fun a b c h1 h2=>by simp only [decide_eq_true_eq] at *; exact List.le_trans h1 h2
  have to:∀ a b:List UInt8,(decide (a≤b) || decide (b≤a))=true:=fun a b=>by simp only [Bool.or_eq_true,decide_eq_true_eq]; exact List.le_total a b
  have hsrt:=List.pairwise_mergeSort tr to ss
  have hpm:=List.mergeSort_perm ss (fun x y=>decide (x≤y))
  obtain ⟨us,hus,hup⟩:=Yoj (hpm.trans hperm2)
  rw [hus] at hrow hsrt
  have hul:us.length=ss.length:=by have:=hpm.length_eq; rw [hus] at this; simpa using this
  have hsn:(us.map UInt8.toNat).Pairwise (·≤·):=by
   rw [List.pairwise_map] at hsrt ⊢
   exact hsrt.imp fun {a b} h=>Ypo (of_decide_eq_true h)
  have henc:(us.map (fun b=>[b])).map Go.Proofs.encStr=us.map fun b=>.string ⟨#[b]⟩:=by
   rw [List.map_map]; rfl
  rw [henc] at hrow
  obtain ⟨_,hrow⟩:=hrow
  rcases hrow with ⟨rfl,h0⟩ | ⟨gb,cap,cur,rfl,hg1,hg2,hg3,hg4,hg5,hg6⟩
  ·have:us=[]:=List.eq_nil_of_length_eq_zero (by omega)
   subst this
   exact ⟨_,μ,_,h,rfl,Ext.refl _,rel.grow hb,.slice0,[],by simpa using hup.map UInt8.toNat,List.Pairwise.nil,.inl ⟨rfl,rfl,rfl⟩⟩
  ·have hpl:(us.map fun b=>Zal.str [b.toNat]).length=us.length:=by simp
   have r':=rel.new hb ⟨gb,0,true,cur.size,P.cellsOf K⟩ (.cells K (us.map fun b=>Zal.str [b.toNat]) false) hg1 (by
    refine ⟨cur,K,(0,0),hg2,?_,?_⟩
    ·rw [List.drop_zero,hpl,hul,← Nat.mul_one ss.length,hg6]
     simpa [List.map_map,Function.comp_def] using VRs.ones2 us
    ·simp only [Bool.false_eq_true,if_false]
     exact ⟨trivial,trivial,trivial,trivial,trivial,trivial,Nat.le_trans rel.size hg1⟩)
   refine ⟨_,_,.slice (some (h.length,0)) us.length us.length false,_,rfl,Ext.app _ _,r',?_,us.map UInt8.toNat,hup.map _,hsn,.inr ⟨us.length,by simp,by simp,by simp [List.map_map,Function.comp_def]⟩⟩
   rw [← hul]
   refine .slice (e:=⟨gb,0,true,cur.size,P.cellsOf K⟩) (o:=0) (rel.last _) (Nat.le_refl _) (by omega) (fun h=>by cases h) (fun _ _=>?_)
   show cap * P.cellsOf K≤cur.size
   rw [hcK]; omega
end
end Go.Sim
