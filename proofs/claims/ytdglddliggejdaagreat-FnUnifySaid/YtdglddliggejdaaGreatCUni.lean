/- A part of the proof of a statement of this seat: see the text that holds the theorem. No condition. -/
import Derived.Test.YtdglddliggejdaaGreatPTCDraw
import Derived.Test.YtdglddliggejdaaGreatCMost
import Derived.Test.YtdglddliggejdaaGreatCSUn2
import Derived.Test.YtdglddliggejdaaGreatPApply
set_option linter.unusedVariables false
set_option linter.unusedSimpArgs false
set_option linter.all false
set_option linter.unusedVariables false
set_option linter.unusedSimpArgs false
set_option maxRecDepth 20000
namespace Go.Sim
open Go Go.RowKit

noncomputable def Yfp (l:List Nd):Bd:=l.map fun p=>(p.1.headD 0,(Zeh p.2).getD default)
theorem Zqg {l:List Nd} (h:Zez l=true) {p:Nd} (hp:p∈l):∃ v t,p.1=[v]∧Zam v=true∧Zeh p.2=some t:=by
 obtain ⟨h1,h2⟩:=Zid h hp
 obtain ⟨t,ht⟩:=Zlf h2
 match hq:p.1 with
 | []=>rw [hq] at h1; cases h1
 | [v]=>rw [hq] at h1; exact ⟨v,t,rfl,h1,ht⟩
 | _ :: _ :: _=>rw [hq] at h1; cases h1
theorem Zuu:∀ {l:List Nd},(∀ p∈l,∃ v t,p.1=[v]∧Zam v=true∧Zeh p.2=some t)→∀ c,Zcl (Yfp l) c=Zkc l c
 | [],_,c=>rfl
 | p :: l,h,c=>by
  obtain ⟨v,t,h1,h2,h3⟩:=h p (by simp)
  have ih:=Zuu (l:=l) (fun q hq=>h q (by simp [hq])) c
  unfold Yfp Zkc at ih ⊢
  simp only [List.map_cons,Zcl,h1,List.headD_cons,h3,Option.getD_some,List.find?_cons]
  by_cases e:v=c
  ·subst e; simp [h3]
  ·have:¬ ([v]:List Nat)=[c]:=fun x=>e (by simpa using x)
   simp only [e,if_false,this,decide_false]
   exact ih
theorem Yfj {l:List Nd} (h:Zez l=true):∀ (g:Nat) (hg:g < l.length) (k:Nat) (hk:k < g),(l[k]'(by omega)).1.headD 0 < l[g].1.headD 0
 | 0,_,k,hk=>by omega
 | g + 1,hg,k,hk=>by
  have h1:=(Zrl h hg).2.2
  rcases h1 with h1 | h1
  ·omega
  ·rw [Nat.add_sub_cancel,Zll (by omega)] at h1
   obtain ⟨v,t,hv,_⟩:=Zqg h (List.getElem_mem (h:=hg))
   obtain ⟨u,t',hu,_⟩:=Zqg h (List.getElem_mem (l:=l) (n:=g) (h:=by omega))
   rw [hv,hu,Zqp] at h1
   have h2:u < v:=of_decide_eq_true h1
   by_cases e:k=g
   ·subst e; rw [hv,hu]; exact h2
   ·have:=Yfj h g (by omega) k (by omega)
    rw [hu] at this; rw [hv]
    simp only [List.headD_cons] at this ⊢; omega
theorem Yao {l:List Nd} (h:Zez l=true) {g v:Nat} (hg:g < l.length) (hv:l[g].1=[v]):Zcl (Yfp (l.take g)) v=none:=by
 rw [Zno]
 intro hm
 unfold Yfp at hm
 rw [List.map_map] at hm
 obtain ⟨p,hp,he⟩:=List.mem_map.1 hm
 obtain ⟨k,hk,rfl⟩:=List.getElem_of_mem hp
 simp only [List.length_take] at hk
 have:=Yfj h g hg k (by omega)
 rw [hv] at this
 simp only [Function.comp_def,List.getElem_take,List.headD_cons] at he this
 omega
theorem Zpf.mono {S S':Nat→Prop} {h:Zaa} {i:Nat} {m:Bd} (r:Zpf S h i m) (hs:∀ j,S j→S' j):Zpf S' h i m:=by
 obtain ⟨rows,h1,h2,h3⟩:=r
 refine ⟨rows,h1,h2,fun k x hx=>?_⟩
 have:=h3 k x hx
 split at this
 ·exact this.mono hs
 ·exact this
theorem Zpf.below {S:Nat→Prop} {h:Zaa} {i:Nat} {m:Bd} (r:Zpf S h i m):Zpf (fun j=>S j∧j < h.length) h i m:=by
 obtain ⟨rows,h1,h2,h3⟩:=r
 refine ⟨rows,h1,h2,fun k x hx=>?_⟩
 have:=h3 k x hx
 split at this
 ·exact Zdk.below this
 ·exact this
theorem Zpa {h:Zaa} {a:Pt} {n c:Nat} {e:Bool} {l:List Nd} {t:List Nat} (r:Row h.length h a (n * 2) (Zec eP l)) (hn:n≤1048576) (hb:∀ p∈l,p.2.length≤1048576) (hb1:∀ p∈l,∀ x∈p.1,x < 256) (ht:t.length≤1048576) :
  Zac pg Zfx [.slice a n c e,.str t] h fun v h'=>v=Zhh l t∧Zbi h.length h h':=by
 have hl:l.length=n:=by have:=r.1; rw [Zbc Zgl] at this; omega
 apply Zdd.call
 refine (Zij t (by omega) h).mono ?_
 rintro v h1 ⟨s1,vs1,rfl,r1⟩
 obtain ⟨d1,a1,n1,c1,e1,rfl⟩:=Zmj r1
 simp only [Zcb,Zaf,Zdz,Zae,Zak,Zan,Zag,Zba]
 rw [Zgg]
 generalize hh2:h1 ++ [Zci.cells Zab [.int .u8 d1,.slice a1 n1 c1 e1] false]=h2
 have s2:Zbi h1.length h1 h2:=by rw [← hh2]; exact Zav
 have o2:h2[h1.length]?=some (.cells Zab [.int .u8 d1,.slice a1 n1 c1 e1] false):=by rw [← hh2]; simp
 have S2:=s1.cat s2
 simp only [Zas]
 cases hto:Znl t with
 | false=>
  simp only [Bool.not_false,Zaz]
  exact ⟨by unfold Zhh Zfu; rw [hto]; simp,S2⟩
 | true=>
 simp only [Bool.not_true,Zat]
 obtain ⟨u,hu⟩:=Zlf hto
 obtain ⟨hu1,hu2,hu3⟩:=Zbw.1 hu
 rw [hu] at r1
 simp only at r1
 refine (Zoz (r.same' S2) hn hb hb1).mono ?_
 rintro v h3 ⟨rfl,s3⟩
 simp only [Zag]
 have S3:=S2.cat s3
 refine Zdf (fun b1=>⟨by unfold Zhh Zfu; rw [b1]; rfl,S3⟩) (fun b1=>?_)
 apply Zdd.J4i
 simp only [Zba]
 rw [← Ybx]
 generalize hh4:h3 ++ [Zci.cells Zbe (Zec eR (List.replicate 12 (Zad.int .u8 0,Zad.slice none 0 0 true))) false]=h4
 have s4:Zbi h3.length h3 h4:=by rw [← hh4]; exact Zav
 have o4:h4[h3.length]?=some (.cells Zbe (Zec eR (List.replicate 12 (Zad.int .u8 0,Zad.slice none 0 0 true))) false):=by rw [← hh4]; simp
 have l4:h4.length=h3.length + 1:=by rw [← hh4]; simp
 have hone:∀ p∈l,∃ v t,p.1=[v]∧Zam v=true∧Zeh p.2=some t:=fun p hp=>Zqg b1 hp
 have o3:=s3.get o2 (Own.lt o2)
 refine Zdd.L6ind _ _ _ _ _ _ _ _ _ _ (J:=fun (g:Nat) x28 h'=>x28=(g:Int)∧g≤n∧Zbi h3.length h3 h'∧h4.length≤h'.length∧Zpf (fun j=>j≠h3.length) h' h3.length (Yfp (l.take g))) (fun g=>n - g) ?_ 0 _ _ ⟨rfl,by omega,s4,Nat.le_refl _,Zpf.nil o4⟩
 rintro g x28 h' ⟨rfl,hg,hS,hl4,rm⟩ R hR
 have SS:=S3.cat hS
 unfold Zdd.L6t
 refine Zar (fun hlt=>?_) (fun hge=>?_)
 ·obtain ⟨i,o,hgl,rfl,hi,hr,_,_⟩:=(r.same SS).pr (k:=g) (by omega)
  obtain ⟨v,tt,hv1,hv2,hv3⟩:=hone _ (List.getElem_mem hgl)
  obtain ⟨ht1,ht2,ht3⟩:=Zbw.1 hv3
  simp only [Zao,Int.toNat_natCast,hr,Zaw,Zaf,Zan,Zap,Zba]
  rw [Zgg]
  generalize hq:h' ++ [Zci.cells Zaq [.str l[g].1,.str l[g].2] false]=hq'
  have sq:Zbi h'.length h' hq':=by rw [← hq]; exact Zav
  have oq:hq'[h'.length]?=some (.cells Zaq [.str l[g].1,.str l[g].2] false):=by rw [← hq]; simp
  have hlq:=sq.le
  rw [hv1] at oq
  simp only [Zas,Zal oq,Nat.zero_add,List.getElem?_cons_succ,List.getElem?_cons_zero,Zap]
  refine ⟨by omega,by simp,?_⟩
  simp only [Int.toNat_zero,List.getD_cons_zero]
  refine (Zih v).mono ?_
  rintro v' h5 ⟨rfl,rfl⟩
  obtain ⟨k,hk6,hkv,hix⟩:=Zus hv2
  simp only [hix,Zae,Zal oq,List.getElem?_cons_succ,List.getElem?_cons_zero,true_and]
  refine (Zij l[g].2 (by omega) h5).mono ?_
  rintro v' h6 ⟨s6,vs6,rfl,r6⟩
  obtain ⟨d6,a6,n6,c6,e6,rfl⟩:=Zmj r6
  rw [hv3] at r6
  simp only at r6
  have hl6:=s6.le
  have ho6:Zah h6 (.ptr (some (h'.length,0)))=Zah h5 (.ptr (some (h'.length,0))):=by simp only [Zah,s6.eq _ (Own.lt oq)]
  simp only [Zcb,Zaf,Zdz,Zae,Zak,Zan,Zag,ho6,true_and]
  have rm6:=(rm.same sq).same s6
  obtain ⟨h7,hst,hK,rm7⟩:=rm6.put (fun j hj=>hj) hkv (Yao b1 hgl hv1) (r6.mono fun j hj=>by have:=hj.1; omega)
  rw [Int.toNat_natCast,Nat.zero_add] at *
  rw [hst]
  simp only [Zas]
  rw [Zby (by omega)]
  have hK7:=hK.le
  refine ⟨by rw [Zal oq]; rfl,⟨by omega,by omega⟩,hR (g + 1) _ _ (by omega) ⟨rfl,by omega,⟨by omega,fun j hj=>?_⟩,by omega,?_⟩⟩
  ·rw [hK.eq j (by omega) (by omega),s6.eq j (by omega),sq.eq j (by omega),hS.eq j hj]
  ·have:Yfp (l.take (g + 1))=Yfp (l.take g) ++ [(v,tt)]:=by
    unfold Yfp
    rw [List.take_succ_eq_append_getElem hgl,List.map_append]
    simp [hv1,hv3]
   rw [this]; exact rm7
 ·apply Zdd.A6x0i
  have:g=n:=by omega
  subst this
  rw [List.take_of_length_le (by omega)] at rm
  have hS3:=S3.le
  have h31:h1.length≤h3.length:=(s2.cat s3).le
  have o5:=hS.get o3 (Own.lt o3)
  simp only [Zfv o5 (show 0 + 2≤_ by simp),List.drop_zero,List.take_succ_cons,List.take_zero,Zaw,Zaf,Zan,Zae,Zak]
  have hbm:∀ c,Zcl (Yfp l) c=Zkc l c:=Zuu hone
  have rt:=(((r1.same s2).same s3).same hS).mono (S':=fun j=>j≠h3.length) (fun j hj=>by have:=hj.2; omega)
  refine (Zuj _ (Nat.le_refl _) hu1 (S:=fun j=>j≠h3.length∧j < h'.length) (fun j hj=>⟨hj.2,hj.1⟩) rt.below rm.below.w (fun v w hw=>?_) (fun v hv=>?_)).mono ?_
  ·rw [hbm] at hw; exact ((Zou b1 v).2 w hw).1
  ·rw [hbm]; exact (Znr b1 hv).2
  rintro v h6 ⟨s6,nv,rfl,hn6⟩
  rw [show Zcl (Yfp l)=Zkc l from funext hbm] at hn6
  obtain ⟨na,nc,ne,rfl⟩:=hn6.shape
  have hat:=Zig b1 hu1
  rw [← hu2] at hat
  have hal:=Zpg b1 t
  simp only [Zdz,Zaf,Zae,Zak,Zan,Zba]
  rw [Zgg]
  generalize hh7:h6 ++ [Zci.cells Zab [.int .u8 ((subst (Zkc l) u).hd:Int),.slice na (subst (Zkc l) u).ps.length nc ne] false]=h7
  have s7:Zbi h6.length h6 h7:=by rw [← hh7]; exact Zav
  have o7:h7[h6.length]?=some (.cells Zab [.int .u8 ((subst (Zkc l) u).hd:Int),.slice na (subst (Zkc l) u).ps.length nc ne] false):=by rw [← hh7]; simp
  have S7:=(SS.cat s6).cat s7
  simp only [Zas,Zfv o7 (show 0 + 2≤_ by simp),List.drop_zero,List.take_succ_cons,List.take_zero,Zaw,Zaf,Zan,Zae,Zak]
  refine (Zjx _ (Nat.le_refl _) (by rw [← hat.1]; omega) (hn6.same s7)).mono ?_
  rintro v h8 ⟨rfl,s8⟩
  have o8:=s8.get o7 (Own.lt o7)
  simp only [Zae]
  rw [← hat.1]
  refine Zar (fun hbig=>⟨by unfold Zhh Zfu; rw [if_neg (by simp; omega)],S7.cat s8⟩) (fun hsm=>?_)
  simp only [Zfv o8 (show 0 + 2≤_ by simp),List.drop_zero,List.take_succ_cons,List.take_zero,Zaw,Zaf,Zan,Zae,Zak]
  refine (Znu _ (Nat.le_refl _) (by rw [← hat.1]; omega) hat.2 ((hn6.same s7).same s8)).mono ?_
  rintro v h9 ⟨rfl,s9⟩
  simp only [Zap]
  refine ⟨?_,(S7.cat s8).cat s9⟩
  unfold Zhh Zfu
  rw [if_pos (by rw [b1,hto]; simp; omega),hat.1]
end Go.Sim

set_option linter.unusedSimpArgs false
set_option linter.unusedVariables false
namespace Go.Sim
structure Zst (G:Gr) (N:List Nat) (lk:Nat→Option Nat) (a b:Nat) (lk':Nat→Option Nat):Prop where
 ext:Zwi lk lk'
 gok:GOk G N lk'
 jnd:Jnd lk' a b
 new:∀ n m,n∈N→lk' n=some m→lk n=some m ∨ Ykb G lk' n m
 pres:∀ val,Str G N val→val a=val b→Rsp N lk val→Rsp N lk' val
def UNo (G:Gr) (N:List Nat) (lk:Nat→Option Nat) (a b:Nat):Prop:=∀ val,Str G N val→Rsp N lk val→val a≠val b
structure Yct (G:Gr) (N:List Nat) (lk:Nat→Option Nat) (a b:Nat) (lk':Nat→Option Nat) (i:Nat):Prop where
 ext:Zwi (lnk lk a b) lk'
 gok:GOk G N lk'
 jn:∀ j p q,j < i→(G.ps a)[j]?=some p→(G.ps b)[j]?=some q→Jnd lk' p q
 new:∀ n m,n∈N→lk' n=some m→lnk lk a b n=some m ∨ Ykb G lk' n m
 pres:∀ val,Str G N val→val a=val b→Rsp N lk val→Rsp N lk' val
section
variable {G:Gr} {N:List Nat} {lk lk' lk'':Nat→Option Nat} {a b p q i:Nat}
theorem Yct.start (g:GOk G N lk) (hb:b∈N) (ha0:lk a=none) (hb0:lk b=none) (hne:a≠b):Yct G N lk a b (lnk lk a b) 0:=
 ⟨Zwi.refl _,g.link hb ha0 hb0 hne,fun j p q h=>by omega,fun n m _ h=>.inl h,fun val _ he hr=>hr.link he⟩
theorem Yct.step (u:Yct G N lk a b lk' i) (hp:(G.ps a)[i]?=some p) (hq:(G.ps b)[i]?=some q) (ha:Zam (G.hd a)=false) (haN:a∈N) (hbN:b∈N) (hh:G.hd a=G.hd b) (y:Zst G N lk' p q lk''):Yct G N lk a b lk'' (i + 1):=by
 refine ⟨u.ext.trans y.ext,y.gok,fun j p' q' hj hp' hq'=>?_,fun n m hn h=>?_,fun val hs he hr=>?_⟩
 ·by_cases e:j=i
  ·subst e; rw [hp] at hp'; rw [hq] at hq'; cases hp'; cases hq'; exact y.jnd
  ·exact (u.jn j p' q' (by omega) hp' hq').ext y.ext
 ·rcases y.new n m hn h with h | h
  ·rcases u.new n m hn h with h | h
   ·exact .inl h
   ·exact .inr (h.ext y.ext)
  ·exact .inr h
 ·refine y.pres val hs ?_ (u.pres val hs he hr)
  have h1:=(hs a haN ha).2
  have h2:=(hs b hbN (by rw [← hh]; exact ha)).2
  rw [he,h2] at h1
  have:=congrArg (·[i]?) h1
  simp only [List.getElem?_map,hp,hq,Option.map_some,Option.some.injEq] at this
  exact this.symm
theorem Yct.done (u:Yct G N lk a b lk' (G.ps a).length) (ha0:lk a=none) (hf:Zam (G.hd a)=false→G.hd b=G.hd a) (hv:Zam (G.hd a)=true→Zam (G.hd b)=true→G.hd a≤G.hd b):Zst G N lk a b lk':=by
 have hab:lk' a=some b:=u.ext a b (by simp [lnk])
 refine ⟨(Zub ha0).trans u.ext,u.gok,.of_path (.step hab .refl),fun n m hn h=>?_,u.pres⟩
 rcases u.new n m hn h with h | h
 ·unfold lnk at h
  by_cases e:n=a
  ·rw [if_pos e] at h; cases h; subst e
   exact .inr ⟨fun hn'=>⟨hf hn',fun j p q h1 h2=>u.jn j p q (List.getElem?_eq_some_iff.1 h1).1 h1 h2⟩,hv⟩
  ·rw [if_neg e] at h; exact .inl h
 ·exact .inr h
theorem Yct.fail (u:Yct G N lk a b lk' i) (hp:(G.ps a)[i]?=some p) (hq:(G.ps b)[i]?=some q) (ha:Zam (G.hd a)=false) (haN:a∈N) (hbN:b∈N) (hh:G.hd a=G.hd b) (y:UNo G N lk' p q):UNo G N lk a b:=by
 intro val hs hr he
 refine y val hs (u.pres val hs he hr) ?_
 have h1:=(hs a haN ha).2
 have h2:=(hs b hbN (by rw [← hh]; exact ha)).2
 rw [he,h2] at h1
 have:=congrArg (·[i]?) h1
 simp only [List.getElem?_map,hp,hq,Option.map_some,Option.some.injEq] at this
 exact this.symm
theorem UNo.clash (haN:a∈N) (hbN:b∈N) (ha:Zam (G.hd a)=false) (hb:Zam (G.hd b)=false) (hh:G.hd a≠G.hd b):UNo G N lk a b:=by
 intro val hs _ he
 have h1:=(hs a haN ha).1
 have h2:=(hs b hbN hb).1
 rw [he] at h1
 exact hh (h1.symm.trans h2)
theorem UNo.symm (h:UNo G N lk a b):UNo G N lk b a:=fun val hs hr he=>h val hs hr he.symm
theorem Zst.symm (h:Zst G N lk a b lk'):Zst G N lk b a lk':=⟨h.ext,h.gok,h.jnd.symm,h.new,fun val hs he hr=>h.pres val hs he.symm hr⟩
theorem Zst.same (g:GOk G N lk):Zst G N lk a a lk:=⟨Zwi.refl _,g,.refl a,fun n m _ h=>.inl h,fun val _ _ hr=>hr⟩
theorem Zst.path (g:GOk G N lk) {a0 b0 i j:Nat} (ha:a0∈N) (hb:b0∈N) (h1:Pth lk i a0 a) (h2:Pth lk j b0 b) (h:Zst G N lk a b lk'):Zst G N lk a0 b0 lk':=
 ⟨h.ext,h.gok,((Jnd.of_path (h1.ext h.ext)).trans h.jnd).trans (Jnd.of_path (h2.ext h.ext)).symm,h.new,fun val hs he hr=>h.pres val hs (by rw [← hr.path g ha h1,← hr.path g hb h2,he]) hr⟩
theorem UNo.path (g:GOk G N lk) {a0 b0 i j:Nat} (ha:a0∈N) (hb:b0∈N) (h1:Pth lk i a0 a) (h2:Pth lk j b0 b) (h:UNo G N lk a b):UNo G N lk a0 b0:=
 fun val hs hr he=>h val hs hr (by rw [← hr.path g ha h1,← hr.path g hb h2,he])
theorem Zst.cls (y:Zst G N (fun _=>none) a b lk'):Cls G N lk':=fun n m hn h=>(y.new n m hn h).resolve_left (by simp)
theorem Rsp.none {val:Nat→Ty}:Rsp N (fun _=>Option.none) val:=fun n m _ h=>by cases h
theorem GOk.ends (g:GOk G N lk) {n:Nat} (hn:n∈N):∃ k e,Pth lk k n e∧lk e=none∧e∈N:=by
 obtain ⟨k,e,h1,h2⟩:=g.end_ n hn
 exact ⟨k,e,h1,h2,g.path hn h1⟩
end
end Go.Sim

set_option linter.unusedSimpArgs false
set_option linter.unusedVariables false
namespace Go.Sim
def GAg (N:List Nat) (G G':Gr):Prop:=∀ n∈N,G'.hd n=G.hd n∧G'.ps n=G.ps n
theorem GAg.refl (N:List Nat) (G:Gr):GAg N G G:=fun _ _=>⟨rfl,rfl⟩
theorem GAg.trans {N N':List Nat} {G G' G'':Gr} (h:GAg N G G') (k:GAg N' G' G'') (hN:∀ n∈N,n∈N'):GAg N G G'':=fun n hn=>⟨((k n (hN n hn)).1).trans (h n hn).1,((k n (hN n hn)).2).trans (h n hn).2⟩
def GCl (G:Gr) (N:List Nat):Prop:=∀ n∈N,∀ p∈G.ps n,p∈N
section
variable {G G':Gr} {N:List Nat} {nu nu':Nat→Nat}
theorem Raw.agree {n:Nat} {t:Ty} (r:Raw G nu n t) (ag:GAg N G G') (cl:GCl G N) (hnu:∀ x∈N,nu' x=nu x):n∈N→Raw G' nu' n t:=by
 induction r with
 | @var n h=>intro hn; rw [← hnu n hn]; exact .var (by rw [(ag n hn).1]; exact h)
 | @cst n h h1=>intro hn; rw [← (ag n hn).1]; exact .cst (by rw [(ag n hn).1]; exact h) (by rw [(ag n hn).2]; exact h1)
 | @one n p s h h1 _ ih=>
  intro hn
  rw [← (ag n hn).1]
  exact .one (by rw [(ag n hn).1]; exact h) (by rw [(ag n hn).2]; exact h1) (ih (cl n hn p (by rw [h1]; simp)))
 | @two n p q s t h h1 _ _ ih1 ih2=>
  intro hn
  rw [← (ag n hn).1]
  exact .two (by rw [(ag n hn).1]; exact h) (by rw [(ag n hn).2]; exact h1) (ih1 (cl n hn p (by rw [h1]; simp))) (ih2 (cl n hn q (by rw [h1]; simp)))
theorem Sub.agree {n x:Nat} (s:Sub G n x) (ag:GAg N G G') (cl:GCl G N):n∈N→Sub G' n x:=by
 induction s with
 | refl=>exact fun _=>.refl
 | @part n p x hp _ ih=>intro hn; exact .part (by rw [(ag n hn).2]; exact hp) (ih (cl n hn p hp))
theorem Sub.trans {x y z:Nat} (h:Sub G x y) (k:Sub G y z):Sub G x z:=by
 induction h with
 | refl=>exact k
 | part hp _ ih=>exact .part hp (ih k)
variable {lk:Nat→Option Nat} {V:Nat→Bool}
theorem VT.ok (g:GOk G N lk) {n:Nat} {t:Ty} (v:VT G lk nu n t) (hnu:∀ x∈N,Zam (G.hd x)=true→Zam (nu x)=true):n∈N→t.ok=true:=by
 induction v with
 | @var n e k h1 h2 h3=>
  intro hn
  have:=hnu e (g.path hn h1) h3
  simp only [Ty.ok,Zdm,this,Bool.or_true]
 | @cst n e k h1 h2 h3 h4=>
  intro hn
  have:=g.ar e (g.path hn h1)
  rw [h4] at this
  simp only [Ty.ok]
  unfold arN at this
  cases hl:Zdm (G.hd e) with
  | true=>rfl
  | false=>
   rw [hl] at this
   simp only [Bool.false_eq_true,if_false,List.length_nil] at this
   split at this
   ·simp at this
   ·split at this <;> simp at this
 | @one n e k p s h1 h2 h3 h4 _ ih=>
  intro hn
  have he:=g.path hn h1
  have:=g.ar e he
  rw [h4] at this
  simp only [Ty.ok,ih (g.par e he p (by rw [h4]; simp)),Bool.and_true]
  unfold arN at this
  split at this
  ·simp at this
  ·split at this
   ·assumption
   ·split at this <;> simp at this
 | @two n e k p q s t h1 h2 h3 h4 _ _ ih1 ih2=>
  intro hn
  have he:=g.path hn h1
  have:=g.ar e he
  rw [h4] at this
  simp only [Ty.ok,ih1 (g.par e he p (by rw [h4]; simp)),ih2 (g.par e he q (by rw [h4]; simp)),Bool.and_true]
  unfold arN at this
  split at this
  ·simp at this
  ·split at this
   ·simp at this
   ·split at this
    ·assumption
    ·simp at this
structure Two (G:Gr) (N:List Nat) (nu:Nat→Nat) (V:Nat→Bool) (a b:Nat) (ta tb:Ty):Prop where
 aN:a∈N
 bN:b∈N
 nv:Yca G N nu V
 ra:Raw G nu a ta
 rb:Raw G nu b tb
 raw:∀ n∈N,∃ t,Raw G nu n t
 sub:∀ x∈N,Sub G a x ∨ Sub G b x
variable {a b:Nat} {ta tb:Ty}
theorem Two.no (w:Two G N nu V a b ta tb) (h:UNo G N (fun _=>none) a b):¬ ∃ θ:Nat→Ty,sb V θ ta=sb V θ tb:=by
 rintro ⟨θ,he⟩
 exact h _ (Zoy w.nv w.raw θ) Rsp.none (by rw [Zfd w.ra,Zfd w.rb,he])
theorem Two.endless (w:Two G N nu V a b ta tb) (y:Zst G N (fun _=>none) a b lk) (h:∀ val,Str G N val→¬ Rsp N lk val):¬ ∃ θ:Nat→Ty,sb V θ ta=sb V θ tb:=by
 rintro ⟨θ,he⟩
 have hs:=Zoy w.nv w.raw θ
 exact h _ hs (y.pres _ hs (by rw [Zfd w.ra,Zfd w.rb,he]) Rsp.none)
theorem Two.all (w:Two G N nu V a b ta tb) (y:Zst G N (fun _=>none) a b lk) {T:Ty} (v:VT G lk nu a T):∀ x∈N,∃ s,VT G lk nu x s:=by
 intro x hx
 rcases w.sub x hx with h | h
 ·exact VT.sub y.gok y.cls h w.aN v
 ·exact VT.sub y.gok y.cls h w.bN (v.jnd y.jnd)
theorem Two.sol (w:Two G N nu V a b ta tb) (y:Zst G N (fun _=>none) a b lk) {T:Ty} (v:VT G lk nu a T):sb V (grF G N lk nu) ta=T∧sb V (grF G N lk nu) tb=T:=
 Yjg y.gok y.cls w.nv w.aN w.bN y.jnd w.ra w.rb v
theorem Two.mgu (w:Two G N G.hd Zam a b ta tb) (y:Zst G N (fun _=>none) a b lk) {T:Ty} (v:VT G lk G.hd a T):Yeg ta tb (grF G N lk G.hd):=by
 have hs:=w.sol y v
 refine ⟨⟨hs.1.trans hs.2.symm,fun θ h c hc=>Yio y.gok w.nv w.raw w.ra w.rb (fun val h1 h2=>y.pres val h1 h2 Rsp.none) h hc,fun c d hc hd h hne=>?_,fun c h=>Yji w.nv h⟩,fun c hc=>?_⟩
 ·exact Yjn (rk:=fun c=>c) y.gok y.cls w.nv (fun x hx e he hxv hev hle hne=>Nat.lt_of_le_of_ne hle hne) hc hd h hne
 ·unfold grF
  split
  ·rename_i hx
   obtain ⟨x,hxN,hxv,_,hv⟩:=hx.choose_spec
   exact hv.ok y.gok (fun x _ h=>h) hxN
  ·simp only [Ty.ok,Zdm,hc,Bool.or_true]
theorem Two.bound (w:Two G N G.hd Zam a b ta tb) (y:Zst G N (fun _=>none) a b lk) {x:Nat} (hx:x∈N) (hv:Zam (G.hd x)=true) {s:Ty} (v:VT G lk G.hd x s):grF G N lk G.hd (G.hd x)=s∧(s=.k (G.hd x) ↔ lk x=none):=by
 refine ⟨Yed w.nv hx hv v,?_⟩
 constructor
 ·have key:∀ {s:Ty},VT G lk G.hd x s→s=.k (G.hd x)→lk x=none:=by
   intro s v
   cases v with
   | @var _ e k h1 h2 h3=>
    intro he
    injection he with he
    have:=w.nv.inj e (y.gok.path hx h1) x hx h3 hv he
    rw [← this]; exact h2
   | @cst _ e k h1 h2 h3 h4=>
    intro he
    injection he with he
    rw [he,hv] at h3; cases h3
   | one=>intro he; cases he
   | two=>intro he; cases he
  exact key v
 ·intro h0
  exact v.det (.var .refl h0 hv)
end
end Go.Sim

set_option linter.unusedVariables false
set_option linter.unusedSimpArgs false
set_option maxRecDepth 20000
namespace Go.Sim
open Go Go.RowKit

structure GH (h:Zaa) (G:Gr) (N:List Nat) (lk:Nat→Option Nat) (Z:Nat→Prop):Prop where
 node:∀ n∈N,∃ a c e,h[n]?=some (.cells Zbg [.str [G.hd n],.slice a (G.ps n).length c e,.ptr ((lk n).map fun m=>(m,0))] false) ∧
  Row h.length h a (G.ps n).length ((G.ps n).map fun p=>Zad.ptr (some (p,0)))∧∀ j o,(G.ps n).length≠0→a=some (j,o)→j ∉ N∧¬ Z j
def Zxk (N:List Nat) (h h':Zaa):Prop:=h.length≤h'.length∧∀ j,j < h.length→j ∉ N→h'[j]?=h[j]?
theorem Zxk.refl (N:List Nat) (h:Zaa):Zxk N h h:=⟨Nat.le_refl _,fun _ _ _=>rfl⟩
theorem Zxk.trans {N:List Nat} {h h1 h2:Zaa} (a:Zxk N h h1) (b:Zxk N h1 h2):Zxk N h h2:=⟨Nat.le_trans a.1 b.1,fun j hj hn=>by rw [b.2 j (by have:=a.1; omega) hn]; exact a.2 j hj hn⟩
theorem Zxk.of_same {N:List Nat} {h h':Zaa} (s:Zbi h.length h h'):Zxk N h h':=⟨s.le,fun j hj _=>s.eq j hj⟩
theorem Row.to {h h':Zaa} {a:Pt} {m:Nat} {cs:List Zad} (r:Row h.length h a m cs) (hl:h.length≤h'.length) (hh:∀ j o,m≠0→a=some (j,o)→j < h.length→h'[j]?=h[j]?):Row h'.length h' a m cs:=by
 obtain ⟨hc,r⟩:=r
 by_cases h0:m=0
 ·exact ⟨hc,.inl h0⟩
 ·refine ⟨hc,r.imp id ?_⟩
  rintro ⟨i,o,t,all,ro,ha,hi,hg,x⟩
  exact ⟨i,o,t,all,ro,ha,by omega,by rw [hh i o h0 ha hi]; exact hg,x⟩
section
variable {h h':Zaa} {G:Gr} {N:List Nat} {lk:Nat→Option Nat} {Z:Nat→Prop}
theorem GH.lt (g:GH h G N lk Z) {n:Nat} (hn:n∈N):n < h.length:=by obtain ⟨_,_,_,hi,_⟩:=g.node n hn; exact Own.lt hi
theorem Row.cellsAt {a:Pt} {m:Nat} {cs:List Zad} (r:Row h.length h a m cs) {j o:Nat} (h0:m≠0) (ha:a=some (j,o)):∃ t all ro,h[j]?=some (.cells t all ro):=by
 rcases r.2 with hm | ⟨i,o',t,all,ro,ha',hi,hg,x⟩
 ·exact absurd hm h0
 ·rw [ha] at ha'; cases ha'; exact ⟨t,all,ro,hg⟩
theorem GH.agree (g:GH h G N lk Z) (hl:h.length≤h'.length) (hh:∀ (j:Nat) (t:TypeId) (cs:List Zad) (ro:Bool),h[j]?=some (Zci.cells t cs ro)→h'[j]?=h[j]?):GH h' G N lk Z:=by
 refine ⟨fun n hn=>?_⟩
 obtain ⟨a,c,e,hi,hr,hd⟩:=g.node n hn
 refine ⟨a,c,e,by rw [hh _ _ _ _ hi]; exact hi,hr.to hl fun j o h0 ha _=>?_,hd⟩
 obtain ⟨t,all,ro,hj⟩:=hr.cellsAt h0 ha
 exact hh _ _ _ _ hj
theorem GH.same (g:GH h G N lk Z) (s:Zbi h.length h h'):GH h' G N lk Z:=g.agree s.le fun j t cs ro hj=>s.eq j (Own.lt hj)
theorem GH.link (g:GH h G N lk Z) {a b:Nat} {x:Zci} (ha:a∈N) {p:Pt} {c:Nat} {e:Bool} (hx:x=.cells Zbg [.str [G.hd a],.slice p (G.ps a).length c e,.ptr (some (b,0))] false)
  (hr:Row h.length h p (G.ps a).length ((G.ps a).map fun p=>Zad.ptr (some (p,0)))) (hd:∀ j o,(G.ps a).length≠0→p=some (j,o)→j ∉ N∧¬ Z j):GH (h.set a x) G N (lnk lk a b) Z:=by
 refine ⟨fun n hn=>?_⟩
 have row:∀ {q:Pt} {m:Nat} {cs:List Zad},Row h.length h q m cs→(∀ j o,m≠0→q=some (j,o)→j ∉ N∧¬ Z j)→Row (h.set a x).length (h.set a x) q m cs:=fun r hd=>
  r.to (by simp) fun j o h0 hq _=>Zbr fun e'=>(hd j o h0 hq).1 (e' ▸ ha)
 by_cases e':n=a
 ·subst e'
  refine ⟨p,c,e,?_,row hr hd,hd⟩
  rw [List.getElem?_set_self (g.lt hn),hx]
  simp [lnk]
 ·obtain ⟨q,c',e'',hi,hr',hd'⟩:=g.node n hn
  refine ⟨q,c',e'',?_,row hr' hd',hd'⟩
  rw [Zbr (fun h=>e' h.symm),hi]
  simp [lnk,e']
theorem Row.outN {a:Pt} {m:Nat} {cs:List Zad} (r:Row h.length h a m cs) (hd:∀ j o,m≠0→a=some (j,o)→j ∉ N∧¬ Z j) (o:Zxk N h h'):Row h'.length h' a m cs:=
 r.to o.1 fun j o' h0 ha hl=>o.2 j hl (hd j o' h0 ha).1
theorem Zqi {a:Pt} {l:List Nat} (r:Row h.length h a l.length (l.map fun p=>Zad.ptr (some (p,0)))) {k p:Nat} (hp:l[k]?=some p):∃ j o,a=some (j,o)∧Zah h (.ptr (some (j,o + k * 1)))=some (.ptr (some (p,0))):=by
 have hk:=(List.getElem?_eq_some_iff.1 hp).1
 obtain ⟨j,o,ha,hj,hc⟩:=r.at hk
 rw [List.getElem?_map,hp] at hc
 exact ⟨j,o,ha,by rw [Nat.mul_one]; exact hc⟩
theorem Zux (g:GH h G N lk Z) (ok:GOk G N lk) {k n e:Nat} (hn:n∈N) (hp:Pth lk k n e) (he:lk e=none):Zac pg Zdx [.ptr (some (n,0))] h fun v h'=>v=.ptr (some (e,0))∧h'=h:=by
 apply Zfm.call
 refine Zfm.L1ind (J:=fun (i:Nat) a0 h'=>h'=h∧∃ m,a0=some (m,0)∧m∈N∧Pth lk i m e) (m:=fun i=>i) (hr:=?_) (g:=k) (hj:=⟨rfl,n,rfl,hn,hp⟩)
 rintro i a0 h' ⟨rfl,m,rfl,hm,hp⟩ R hR
 unfold Zfm.L1t
 obtain ⟨a,c,e',hnode,_⟩:=g.node m hm
 simp only [Zao,Zal hnode,Nat.zero_add,List.getElem?_cons_succ,List.getElem?_cons_zero,Zbu]
 cases hp with
 | refl=>
  rw [he]
  simp only [Option.map_none,Option.isNone_none,Bool.not_true,Zat]
  apply Zfm.A1x0i
  exact ⟨rfl,rfl⟩
 | step h1 h2=>
  rw [h1]
  simp only [Option.map_some,Option.isNone_some,Bool.not_false,Zaz]
  exact hR _ _ _ (Nat.lt_succ_self _) ⟨rfl,_,rfl,ok.lkN _ _ hm h1,h2⟩
def Yka (G:Gr) (N:List Nat) (lk:Nat→Option Nat) (Z:Nat→Prop) (a b:Nat) (h:Zaa) (v:Zad) (h':Zaa):Prop:=
 Zxk N h h'∧((v=.bool true∧∃ lk',Zst G N lk a b lk'∧GH h' G N lk' Z) ∨ (v=.bool false∧UNo G N lk a b))
theorem Zgo (g:GH h G N lk Z) {n:Nat} (hn:n∈N):Zco h n=true:=by
 obtain ⟨a,c,e,hi,_⟩:=g.node n hn
 simp [Zco,hi]
theorem Ybe (x y:Nat):(Zeb [x] [y] || decide ([x]=[y]))=decide (x≤y):=by
 rw [Bool.eq_iff_iff]
 simp [Zeb]
 omega
theorem Ygq:∀ (U:Nat) {h:Zaa} {lk:Nat→Option Nat} {a b:Nat},ub N lk≤U→GH h G N lk Z→GOk G N lk→a∈N→b∈N→Zac pg Ziu [.ptr (some (a,0)),.ptr (some (b,0))] h (Yka G N lk Z a b h):=by
 intro U
 induction U using Nat.strongRecOn with
 | ind U ih=>
 intro h lk a b hU g ok ha hb
 obtain ⟨k1,x,hp1,hx0,hx⟩:=ok.ends ha
 obtain ⟨k2,y,hp2,hy0,hy⟩:=ok.ends hb
 -- one end is linked to the other
 have core:∀ (p q:Nat) (Q:QT),p∈N→q∈N→lk p=none→lk q=none→p≠q→(Zam (G.hd q)=true→Zam (G.hd p)=true)→(Zam (G.hd p)=true→Zam (G.hd q)=true→G.hd p≤G.hd q) →
   (∀ v h',Yka G N lk Z p q h v h'→Q v h')→Zef.J7 Q (some (p,0)) (some (q,0)) h:=by
  intro p q Q hp hq hp0 hq0 hne hvar hord hQ
  obtain ⟨pa,pc,pe,hpi,hpr,hpd⟩:=g.node p hp
  obtain ⟨qa,qc,qe,hqi,hqr,hqd⟩:=g.node q hq
  have lenEq:Zam (G.hd p)=false→G.hd p=G.hd q→(G.ps p).length=(G.ps q).length:=fun _ e=>by
   have h1:=ok.ar p hp; have h2:=ok.ar q hq; rw [e] at h1; omega
  apply Zef.J7i
  simp only [Zao,Zal hpi,Nat.zero_add,List.getElem?_cons_succ,List.getElem?_cons_zero,Zap]
  refine (Zjv [G.hd p]).mono ?_
  rintro v h1 ⟨rfl,rfl⟩
  simp only [Zag,Zmm,Zal hpi,Zal hqi,List.getElem?_cons_zero,Zap,true_and]
  have j9:(Zam (G.hd p)=false→G.hd p=G.hd q)→Zef.J9 Q (some (p,0)) (some (q,0)) h1:=by
   intro hhd
   apply Zef.J9i
   simp only [Zao,Zal hpi,Nat.zero_add,List.getElem?_cons_succ,List.getElem?_cons_zero,Zak]
   rw [Zbj hpi (by simp)]
   simp only [Zas,putRow,List.take_succ_cons,List.take_zero,List.length_cons,List.length_nil,List.drop_succ_cons,List.drop_zero,List.drop_nil,List.cons_append,List.nil_append,List.append_nil,hp0,Option.map_none]
   have g1:=g.link (b:=q) hp rfl hpr hpd (c:=pc) (e:=pe)
   have o1:Zxk N h1 (h1.set p (.cells Zbg [.str [G.hd p],.slice pa (G.ps p).length pc pe,.ptr (some (q,0))] false)):=⟨by simp,fun j hj hn=>Zbr fun e=>hn (e ▸ hp)⟩
   generalize h1.set p (.cells Zbg [.str [G.hd p],.slice pa (G.ps p).length pc pe,.ptr (some (q,0))] false)=h2 at g1 o1 ⊢
   have hlt:=Yjs (b:=q) hp hp0
   refine Zef.L12ind (J:=fun (i:Nat) x82 h'=>x82=(i:Int)∧i≤(G.ps p).length∧Zxk N h2 h'∧∃ lk',Yct G N lk p q lk' i∧GH h' G N lk' Z) (m:=fun i=>(G.ps p).length - i) (hr:=?_) (g:=0)
    (hj:=⟨rfl,by omega,Zxk.refl _ _,_,Yct.start ok hq hp0 hq0 hne,g1⟩)
   rintro i x82 h3 ⟨rfl,hi,o3,lk',u,g3⟩ R hR
   unfold Zef.L12t
   have O3:=o1.trans o3
   refine Zar (fun hlt3=>?_) (fun hge=>?_)
   ·have hi':i < (G.ps p).length:=by omega
    have hpv:Zam (G.hd p)=false:=by
     cases hv:Zam (G.hd p) with
     | false=>rfl
     | true=>rw [ok.var_ps hp hv] at hi'; simp at hi'
    have hh:=hhd hpv
    have hl:=lenEq hpv hh
    have hpg:(G.ps p)[i]?=some (G.ps p)[i]:=List.getElem?_eq_getElem hi'
    have hqg:(G.ps q)[i]?=some ((G.ps q)[i]'(by omega)):=List.getElem?_eq_getElem (by omega)
    obtain ⟨ja,oa,rfl,hca⟩:=Zqi (hpr.outN hpd O3) hpg
    obtain ⟨ra,rc,re,hri,hrr,hrd⟩:=g3.node q hq
    obtain ⟨jb,ob,rfl,hcb⟩:=Zqi hrr hqg
    simp only [Zao,Int.toNat_natCast,hca,Zbu,Zal hri,Nat.zero_add,List.getElem?_cons_succ,List.getElem?_cons_zero,Zak,hcb]
    have hup:ub N lk' < ub N lk:=Nat.lt_of_le_of_lt (Yep u.ext) hlt
    refine ⟨by omega,by omega,(ih (ub N lk') (by omega) (Nat.le_refl _) g3 u.gok (ok.par p hp _ (List.getElem_mem hi')) (ok.par q hq _ (List.getElem_mem _))).mono ?_⟩
    rintro v h4 ⟨o4,⟨rfl,lk'',y,g4⟩ | ⟨rfl,no⟩⟩
    ·simp only [Zag,Bool.not_true,Zat]
     rw [Zby (by have:=ok.ps_le hp; omega)]
     exact hR (i + 1) _ _ (by omega) ⟨rfl,by omega,o3.trans o4,lk'',u.step hpg hqg hpv hp hq hh y,g4⟩
    ·simp only [Zag,Bool.not_false,Zaz]
     exact hQ _ _ ⟨O3.trans o4,.inr ⟨rfl,u.fail hpg hqg hpv hp hq hh no⟩⟩
   ·apply Zef.A12x1i
    have:i=(G.ps p).length:=by omega
    subst this
    exact hQ _ _ ⟨O3,.inl ⟨rfl,lk',u.done hp0 (fun hv=>(hhd hv).symm) hord,g3⟩⟩
  refine Zdf (fun hv=>?_) (fun hv=>j9 fun h=>by rw [hv] at h; cases h)
  have hqv:Zam (G.hd q)=false:=by
   cases hv':Zam (G.hd q) with
   | false=>rfl
   | true=>rw [hvar hv'] at hv; cases hv
  refine Zow (fun hne'=>?_) (fun he=>j9 fun _=>by simpa using he)
  exact hQ _ _ ⟨Zxk.refl _ _,.inr ⟨rfl,UNo.clash hp hq hv hqv fun e=>hne' (by rw [e])⟩⟩
 apply Zef.call
 refine (Zux g ok ha hp1 hx0).mono ?_
 rintro v h1 ⟨rfl,rfl⟩
 simp only [Zbu]
 refine (Zux g ok hb hp2 hy0).mono ?_
 rintro v h2 ⟨rfl,rfl⟩
 simp only [Zbu]
 by_cases hxy:x=y
 ·subst hxy
  refine .inl ⟨rfl,?_⟩
  simp only [Zaz]
  exact ⟨Zxk.refl _ _,.inl ⟨rfl,lk,Zst.path ok ha hb hp1 hp2 (Zst.same ok),g⟩⟩
 ·refine .inr ⟨hxy,Zgo g hx,Zgo g hy,?_⟩
  simp only [Zat]
  obtain ⟨xa,xc,xe,hxi,_⟩:=g.node x hx
  obtain ⟨ya,yc,ye,hyi,_⟩:=g.node y hy
  have fwd:∀ v h',Yka G N lk Z x y h2 v h'→Yka G N lk Z a b h2 v h':=fun v h' ⟨o,r⟩=>⟨o,r.imp (fun ⟨e,lk',u,g'⟩=>⟨e,lk',Zst.path ok ha hb hp1 hp2 u,g'⟩) fun ⟨e,u⟩=>⟨e,UNo.path ok ha hb hp1 hp2 u⟩⟩
  have bwd:∀ v h',Yka G N lk Z y x h2 v h'→Yka G N lk Z a b h2 v h':=fun v h' ⟨o,r⟩=>fwd v h' ⟨o,r.imp (fun ⟨e,lk',u,g'⟩=>⟨e,lk',u.symm,g'⟩) fun ⟨e,u⟩=>⟨e,u.symm⟩⟩
  have iv:∀ (c:Nat) (K:Zad→Zaa→Prop),K (.bool (Zam c)) h2→Zac pg Zbx [.str [c]] h2 K:=fun c K hK=>(Zjv [c]).mono fun v h' ⟨e1,e2⟩=>by rw [e1,e2]; exact hK
  simp only [Zao,Zal hxi,Zal hyi,Nat.zero_add,List.getElem?_cons_succ,List.getElem?_cons_zero,Zap,true_and]
  refine iv _ _ ?_
  simp only [Zag,Zal hxi,Zal hyi,List.getElem?_cons_zero,Zap]
  refine Zfh (fun hvx=>?_) (fun hvx=>?_)
  ·refine iv _ _ ?_
   simp only [Zag,Zal hxi,Zal hyi,List.getElem?_cons_zero,Zap]
   refine Zfh (fun hvy=>?_) (fun hvy=>?_)
   ·simp only [Ybe]
    refine Zow (fun hgt=>?_) (fun hle=>?_)
    ·rw [decide_eq_false hgt]
     exact core y x _ hy hx hy0 hx0 (fun e=>hxy e.symm) (fun _=>hvy) (fun _ _=>by omega) bwd
    ·refine iv _ _ ?_
     rw [hvx]
     simp only [Zag,Zal hxi,Zal hyi,List.getElem?_cons_zero,Zap,Bool.not_true,Zat]
     exact core x y _ hx hy hx0 hy0 hxy (fun _=>hvx) (fun _ _=>hle) fwd
   ·refine iv _ _ ?_
    rw [hvx]
    simp only [Zag,Zal hxi,Zal hyi,List.getElem?_cons_zero,Zap,Bool.not_true,Zat]
    exact core x y _ hx hy hx0 hy0 hxy (fun h=>hvx) (fun _ h=>by rw [hvy] at h; cases h) fwd
  ·refine iv _ _ ?_
   rw [hvx]
   simp only [Zag,Zal hxi,Zal hyi,List.getElem?_cons_zero,Zap,Bool.not_false,Zaz]
   refine iv _ _ ?_
   simp only [Zag,Zal hxi,Zal hyi,List.getElem?_cons_zero,Zap]
   refine Zfh (fun hvy=>?_) (fun hvy=>?_)
   ·exact core y x _ hy hx hy0 hx0 (fun e=>hxy e.symm) (fun _=>hvy) (fun _ h=>by rw [hvx] at h; cases h) bwd
   ·exact core x y _ hx hy hx0 hy0 hxy (fun h=>by rw [hvy] at h; cases h) (fun h=>by rw [hvx] at h; cases h) fwd
end
end Go.Sim

set_option linter.unusedVariables false
set_option linter.unusedSimpArgs false
set_option maxRecDepth 20000
namespace Go.Sim
open Go Go.RowKit

def Zsn (h:Zaa) (i:Nat) (A:List Nat):Prop:=∃ es clk,h[i]?=some (.map es clk)∧es.map (·.1)=A.map (fun n=>Zad.ptr (some (n,0)))∧es.map (·.2.1)=A.map (fun _=>Zad.bool true)
theorem Zqk {h:Zaa}:∀ {es:List ME} {A:List Nat} {n k:Nat},es.map (·.1)=A.map (fun n=>Zad.ptr (some (n,0)))→es.map (·.2.1)=A.map (fun _=>Zad.bool true)→(∀ x∈A,Zco h x=true)→Zco h n=true→n∈A →
  ∃ j b,Zin h es (n,0) k=some (some (k + j,.bool true))∧A[j]?=some n∧(∀ i,i < j→A[i]?≠some n)∧es[j]?=some (.ptr (some (n,0)),.bool true,b)
 | _,[],n,k,_,_,_,_,h=>by cases h
 | [],x :: A,n,k,h,_,_,_,_=>by simp at h
 | (ek,ev,eb) :: es,x :: A,n,k,hk,hv,hA,hn,hm=>by
  simp only [List.map_cons,List.cons.injEq] at hk hv
  obtain ⟨rfl,hk⟩:=hk
  obtain ⟨rfl,hv⟩:=hv
  by_cases e:n=x
  ·subst e
   exact ⟨0,eb,by simp [Zin],rfl,fun i hi=>by omega,rfl⟩
  ·obtain ⟨j,b,h1,h2,h3,h4⟩:=Zqk (k:=k + 1) hk hv (fun y hy=>hA y (List.mem_cons_of_mem _ hy)) hn ((List.mem_cons.1 hm).resolve_left e)
   have hne:¬ ((n,0):Nat × Nat)=(x,0):=fun h=>e (by simpa using h)
   refine ⟨j + 1,b,?_,h2,fun i hi=>?_,h4⟩
   ·unfold Zin
    rw [if_neg hne,if_pos ⟨e,hn,hA x List.mem_cons_self⟩,h1,show k + 1 + j=k + (j + 1) by omega]
   ·match i with
    | 0=>simp; exact fun h=>e h.symm
    | i + 1=>simpa using h3 i (by omega)
theorem Zsi {h:Zaa}:∀ {es:List ME} {A:List Nat} {n k:Nat},es.map (·.1)=A.map (fun n=>Zad.ptr (some (n,0)))→(∀ x∈A,Zco h x=true)→Zco h n=true→n ∉ A→Zin h es (n,0) k=some none
 | [],[],n,k,_,_,_,_=>rfl
 | [],x :: A,n,k,h,_,_,_=>by simp at h
 | e :: es,[],n,k,h,_,_,_=>by simp at h
 | (ek,ev,eb) :: es,x :: A,n,k,hk,hA,hn,hm=>by
  simp only [List.map_cons,List.cons.injEq] at hk
  obtain ⟨rfl,hk⟩:=hk
  have e:n≠x:=fun e=>hm (by rw [e]; exact List.mem_cons_self)
  have hne:¬ ((n,0):Nat × Nat)=(x,0):=fun h=>e (by simpa using h)
  unfold Zin
  rw [if_neg hne,if_pos ⟨e,hn,hA x List.mem_cons_self⟩]
  exact Zsi hk (fun y hy=>hA y (List.mem_cons_of_mem _ hy)) hn fun h=>hm (List.mem_cons_of_mem _ h)
section
variable {h h':Zaa} {i n:Nat} {A:List Nat}
theorem Zsn.get (r:Zsn h i A) (he:h'[i]?=h[i]?):Zsn h' i A:=by obtain ⟨es,k,h1,x⟩:=r; exact ⟨es,k,by rw [he]; exact h1,x⟩
theorem Zsn.map (r:Zsn h i A):∃ es k,h[i]?=some (.map es k):=by obtain ⟨es,k,h1,_⟩:=r; exact ⟨es,k,h1⟩
theorem Zsn.look (r:Zsn h i A) (hA:∀ x∈A,Zco h x=true) (hn:Zco h n=true) {K:Bool→Prop} (hK:K (decide (n∈A))) :
  Zbv h (some i) fun es _=>Zqw (Zin h es (n,0) 0) fun r=>Zbh (some (Option.getD r (.bool false))) K:=by
 obtain ⟨es,k,h1,hk,hv⟩:=r
 simp only [Zbv,h1]
 by_cases hm:n∈A
 ·obtain ⟨j,b,hf,_⟩:=Zqk (k:=0) hk hv hA hn hm
  rw [hf]
  simp only [Zqw,Option.getD_some,Zag]
  rw [decide_eq_true hm] at hK; exact hK
 ·rw [Zsi (k:=0) hk hA hn hm]
  simp only [Zqw,Option.getD_none,Zag]
  rw [decide_eq_false hm] at hK; exact hK
theorem Zsn.put (r:Zsn h i A) (hA:∀ x∈A,Zco h x=true) (hn:Zco h n=true):∃ es k es' k',h[i]?=some (.map es k)∧Zsn (h.set i (.map es' k')) i (if n∈A then A else A ++ [n]) ∧
  ∀ K:List ME→Nat→Prop,K es' k'→Yfz (Zin h es (n,0) 0) es k (n,0) (.bool true) K:=by
 obtain ⟨es,k,h1,hk,hv⟩:=r
 have hl:=Own.lt h1
 by_cases hm:n∈A
 ·obtain ⟨j,b,hf,_,_,hj⟩:=Zqk (k:=0) hk hv hA hn hm
  refine ⟨es,k,es,k,h1,?_,fun K hK=>?_⟩
  rotate_left
  ·rw [hf]
   simp only [Yfz,Nat.zero_add]
   rw [Zkf hj rfl]
   exact hK
  ·rw [if_pos hm]
   exact ⟨es,k,List.getElem?_set_self hl,hk,hv⟩
 ·refine ⟨es,k,es ++ [(.ptr (some (n,0)),.bool true,k)],k + 1,h1,?_,fun K hK=>?_⟩
  rotate_left
  ·rw [Zsi (k:=0) hk hA hn hm]
   exact hK
  ·rw [if_neg hm]
   exact ⟨_,_,List.getElem?_set_self hl,by simp [hk],by simp [hv]⟩
theorem Zsn.del (r:Zsn h i (A ++ [n])) (hA:∀ x∈A,Zco h x=true) (hn:Zco h n=true) (hm:n ∉ A):∃ es k es',h[i]?=some (.map es k)∧Zsn (h.set i (.map es' k)) i A ∧
  ∀ K:List ME→Prop,K es'→Yhu (Zin h es (n,0) 0) es K:=by
 obtain ⟨es,k,h1,hk,hv⟩:=r
 have hl:=Own.lt h1
 have hA':∀ x∈A ++ [n],Zco h x=true:=fun x hx=>by
  rcases List.mem_append.1 hx with hx | hx
  ·exact hA x hx
  ·rw [List.mem_singleton.1 hx]; exact hn
 obtain ⟨j,b,hf,hj,hfirst,_⟩:=Zqk (k:=0) hk hv hA' hn (by simp)
 have hjA:j=A.length:=by
  have hjl:=(List.getElem?_eq_some_iff.1 hj).1
  simp at hjl
  by_cases h:j < A.length
  ·rw [List.getElem?_append_left h] at hj
   exact absurd (List.mem_of_getElem? hj) hm
  ·omega
 refine ⟨es,k,es.eraseIdx j,h1,⟨_,_,List.getElem?_set_self hl,?_,?_⟩,fun K hK=>?_⟩
 ·rw [← Zdt,hk,hjA,List.map_append,List.eraseIdx_append_of_length_le (by simp)]; simp
 ·rw [← Zdt,hv,hjA,List.map_append,List.eraseIdx_append_of_length_le (by simp)]; simp
 ·rw [hf]
  simp only [Yhu,Nat.zero_add]
  exact hK
end
def Zhl (i j:Nat) (h h':Zaa):Prop:=h.length≤h'.length∧∀ k,k < h.length→k≠i→k≠j→h'[k]?=h[k]?
theorem Zhl.refl (i j:Nat) (h:Zaa):Zhl i j h h:=⟨Nat.le_refl _,fun _ _ _ _=>rfl⟩
theorem Zhl.trans {i j:Nat} {h h1 h2:Zaa} (a:Zhl i j h h1) (b:Zhl i j h1 h2):Zhl i j h h2:=⟨Nat.le_trans a.1 b.1,fun k hk h1 h2=>by rw [b.2 k (by have:=a.1; omega) h1 h2]; exact a.2 k hk h1 h2⟩
theorem Zhl.set1 (i j:Nat) (h:Zaa) (x:Zci):Zhl i j h (h.set i x):=⟨by simp,fun k _ h1 _=>Zbr fun e=>h1 e.symm⟩
theorem Zhl.set2 (i j:Nat) (h:Zaa) (x:Zci):Zhl i j h (h.set j x):=⟨by simp,fun k _ _ h2=>Zbr fun e=>h2 e.symm⟩
section
variable {G:Gr} {N:List Nat} {lk:Nat→Option Nat} {Z:Nat→Prop}
theorem GH.keepM {h h':Zaa} {i j:Nat} (g:GH h G N lk Z) (k:Zhl i j h h') (hi:∃ es c,h[i]?=some (.map es c)) (hj:∃ es c,h[j]?=some (.map es c)):GH h' G N lk Z:=by
 obtain ⟨es,c,hi⟩:=hi
 obtain ⟨es',c',hj⟩:=hj
 exact g.agree k.1 fun q t cs ro hq=>k.2 q (Own.lt hq) (fun e=>by subst e; rw [hi] at hq; cases hq) (fun e=>by subst e; rw [hj] at hq; cases hq)
def Ynb (G:Gr) (N:List Nat) (lk:Nat→Option Nat) (n mA mD:Nat) (A:List Nat) (h:Zaa) (v:Zad) (h':Zaa):Prop:=
 Zhl mA mD h h'∧((v=.bool true∧∀ val,Str G N val→¬ Rsp N lk val) ∨ (v=.bool false∧(∀ nu,∃ T,VT G lk nu n T)∧Zsn h' mA A∧∃ D,Zsn h' mD D∧(∀ x∈D,x∈N)∧∀ d∈D,∀ nu,∃ T,VT G lk nu d T))
theorem Ylk {N A:List Nat} {e:Nat} (he:e∈N) (hA:e ∉ A):N.countP (fun x=>decide (x ∉ A ++ [e])) < N.countP (fun x=>decide (x ∉ A)):=by
 have key:∀ L:List Nat,e∈L→L.countP (fun x=>decide (x ∉ A ++ [e])) < L.countP (fun x=>decide (x ∉ A)):=by
  intro L hL
  induction L with
  | nil=>cases hL
  | cons n L ih=>
   have hm:L.countP (fun x=>decide (x ∉ A ++ [e]))≤L.countP (fun x=>decide (x ∉ A)):=List.countP_mono_left fun x _ h=>by
    simp only [decide_eq_true_eq,List.mem_append,not_or] at h ⊢; exact h.1
   rw [List.countP_cons,List.countP_cons]
   by_cases en:n=e
   ·subst en
    rw [if_neg (by simp),if_pos (by simpa using hA)]; omega
   ·have:=ih ((List.mem_cons.1 hL).resolve_left fun h=>en h.symm)
    by_cases hn:n∈A
    ·rw [if_neg (by simp [hn]),if_neg (by simp [hn])]; omega
    ·rw [if_pos (by simp [hn,en]),if_pos (by simp [hn])]; omega
 exact key N he
theorem Ybj (ok:GOk G N lk):∀ (M:Nat) {h:Zaa} {n mA mD:Nat} {A D:List Nat},N.countP (fun x=>decide (x ∉ A))≤M→GH h G N lk Z→n∈N→Zsn h mA A→Zsn h mD D→mA≠mD→(∀ x∈A,x∈N)→(∀ x∈D,x∈N) →
  (∀ d∈D,∀ nu,∃ T,VT G lk nu d T)→(∀ val,Str G N val→Rsp N lk val→∀ x∈A,(val n).size < (val x).size) →
  Zac pg Zev [.ptr (some (n,0)),.map (some mA),.map (some mD)] h (Ynb G N lk n mA mD A h):=by
 intro M
 induction M using Nat.strongRecOn with
 | ind M ih=>
 intro h n mA mD A D hM g hn rA rD hne hAN hDN hDV hlt
 obtain ⟨k,e,hp,he0,he⟩:=ok.ends hn
 have hoA:∀ x∈A,Zco h x=true:=fun x hx=>Zgo g (hAN x hx)
 have hoD:∀ x∈D,Zco h x=true:=fun x hx=>Zgo g (hDN x hx)
 have hoe:=Zgo g he
 apply Zdw.call
 refine (Zux g ok hn hp he0).mono ?_
 rintro v h1 ⟨rfl,rfl⟩
 simp only [Zbu,Zao]
 refine rA.look hoA hoe ?_
 refine Zar (fun hin=>?_) (fun hnA=>?_)
 ·refine ⟨Zhl.refl _ _ _,.inl ⟨rfl,fun val hs hr=>?_⟩⟩
  have:=hlt val hs hr e hin
  rw [hr.path ok hn hp] at this
  omega
 refine rD.look hoD hoe ?_
 refine Zar (fun hin=>?_) (fun hnD=>?_)
 ·exact ⟨Zhl.refl _ _ _,.inr ⟨rfl,fun nu=>(hDV e hin nu).imp fun T v=>v.of_path hp,rA,D,rD,hDN,hDV⟩⟩
 obtain ⟨esA,kA,esA',kA',hA0,rA1,hput⟩:=rA.put hoA hoe
 simp only [xMp,Zao,Zba,Zbv,hA0]
 refine hput _ ?_
 rw [if_neg hnA] at rA1
 have K1:=Zhl.set1 mA mD h1 (.map esA' kA')
 have rD1:Zsn (h1.set mA (.map esA' kA')) mD D:=rD.get (Zbr hne)
 have g1:=g.keepM K1 rA.map rD.map
 generalize h1.set mA (.map esA' kA')=h2 at rA1 rD1 g1 K1 ⊢
 obtain ⟨pa,pc,pe,hei,her,hed⟩:=g1.node e he
 simp only [Zal hei,Nat.zero_add,List.getElem?_cons_succ,List.getElem?_cons_zero,Zak]
 have hAN':∀ x∈A ++ [e],x∈N:=fun x hx=>by
  rcases List.mem_append.1 hx with hx | hx
  ·exact hAN x hx
  ·rw [List.mem_singleton.1 hx]; exact he
 refine Zdw.L8ind (J:=fun (i:Nat) x24 h'=>x24=(i:Int)∧i≤(G.ps e).length∧Zhl mA mD h2 h'∧Zsn h' mA (A ++ [e])∧(∃ D',Zsn h' mD D'∧(∀ x∈D',x∈N)∧∀ d∈D',∀ nu,∃ T,VT G lk nu d T)∧∀ j p,j < i→(G.ps e)[j]?=some p→∀ nu,∃ T,VT G lk nu p T) (m:=fun i=>(G.ps e).length - i) (hr:=?_) (g:=0)
  (hj:=⟨rfl,by omega,Zhl.refl _ _ _,rA1,⟨D,rD1,hDN,hDV⟩,fun j p hj=>by omega⟩)
 rintro i x24 h3 ⟨rfl,hi,K3,rA3,⟨D3,rD3,hDN3,hDV3⟩,hdone⟩ R hR
 unfold Zdw.L8t
 have g3:=g1.keepM K3 rA1.map rD1.map
 have KK:=K1.trans K3
 refine Zar (fun hlt3=>?_) (fun hge=>?_)
 ·have hi':i < (G.ps e).length:=by omega
  have hpg:(G.ps e)[i]?=some (G.ps e)[i]:=List.getElem?_eq_getElem hi'
  have her3:Row h3.length h3 pa (G.ps e).length ((G.ps e).map fun p=>Zad.ptr (some (p,0))):=her.to K3.1 fun j o h0 ha hl=>by
   obtain ⟨t,all,ro,hj⟩:=her.cellsAt h0 ha
   obtain ⟨es1,c1,q1⟩:=rA1.map
   obtain ⟨es2,c2,q2⟩:=rD1.map
   exact K3.2 j hl (fun e'=>by subst e'; rw [q1] at hj; cases hj) (fun e'=>by subst e'; rw [q2] at hj; cases hj)
  obtain ⟨ja,oa,rfl,hca⟩:=Zqi her3 hpg
  simp only [Zao,Int.toNat_natCast,hca,Zbu]
  have hpN:=ok.par e he _ (List.getElem_mem hi')
  refine ⟨by omega,(ih _ (Nat.lt_of_lt_of_le (Ylk he hnA) hM) (Nat.le_refl _) g3 hpN rA3 rD3 hne hAN' hDN3 hDV3 (fun val hs hr x hx=>?_)).mono ?_⟩
  ·have hpe:(val (G.ps e)[i]).size < (val e).size:=Yln ok hs hr he (List.getElem_mem hi') .refl
   rcases List.mem_append.1 hx with hx | hx
   ·have:=hlt val hs hr x hx
    rw [hr.path ok hn hp] at this
    omega
   ·rw [List.mem_singleton.1 hx]; exact hpe
  ·rintro v h4 ⟨K4,⟨rfl,hno⟩ | ⟨rfl,hT,rA4,D4,rD4,hDN4,hDV4⟩⟩
   ·simp only [Zag,Zaz]
    exact ⟨KK.trans K4,.inl ⟨rfl,hno⟩⟩
   ·simp only [Zag,Zat]
    rw [Zby (by have:=ok.ps_le he; omega)]
    refine hR (i + 1) _ _ (by omega) ⟨rfl,by omega,K3.trans K4,rA4,⟨D4,rD4,hDN4,hDV4⟩,fun j p hj hp'=>?_⟩
    by_cases hji:j=i
    ·subst hji; rw [hpg] at hp'; cases hp'; exact hT
    ·exact hdone j p (by omega) hp'
 ·apply Zdw.A8x0i
  have:i=(G.ps e).length:=by omega
  subst this
  have hVe:∀ nu,∃ T,VT G lk nu e T:=fun nu=>VT.make ok he he0 fun p hp'=>by
   obtain ⟨j,hj⟩:=List.getElem?_of_mem hp'
   exact hdone j p (List.getElem?_eq_some_iff.1 hj).1 hj nu
  obtain ⟨es3,k3,es3',hA3,rA4,hdel⟩:=rA3.del (fun x hx=>Zgo g3 (hAN x hx)) (Zgo g3 he) hnA
  simp only [xMp,Zao,Zba,Zbv,hA3]
  refine hdel _ ?_
  have K4:=Zhl.set1 mA mD h3 (.map es3' k3)
  have rD4:Zsn (h3.set mA (.map es3' k3)) mD D3:=rD3.get (Zbr hne)
  have g4:=g3.keepM K4 rA3.map rD3.map
  generalize h3.set mA (.map es3' k3)=h4 at rA4 rD4 g4 K4 ⊢
  obtain ⟨es4,k4,es4',k4',hD4,rD5,hput4⟩:=rD4.put (fun x hx=>Zgo g4 (hDN3 x hx)) (Zgo g4 he)
  simp only [hD4]
  refine hput4 _ ?_
  have rA5:Zsn (h4.set mD (.map es4' k4')) mA A:=rA4.get (Zbr fun e=>hne e.symm)
  refine ⟨(KK.trans K4).trans (Zhl.set2 mA mD h4 _),.inr ⟨rfl,fun nu=>(hVe nu).imp fun T v=>v.of_path hp,rA5,_,rD5,fun x hx=>?_,fun d hd=>?_⟩⟩
  ·split at hx
   ·exact hDN3 x hx
   ·rcases List.mem_append.1 hx with hx | hx
    ·exact hDN3 x hx
    ·rw [List.mem_singleton.1 hx]; exact he
  ·split at hd
   ·exact hDV3 d hd
   ·rcases List.mem_append.1 hd with hd | hd
    ·exact hDV3 d hd
    ·rw [List.mem_singleton.1 hd]; exact hVe
theorem Yiz (ok:GOk G N lk) {h:Zaa} {n:Nat} (g:GH h G N lk Z) (hn:n∈N) :
  Zac pg Zho [.ptr (some (n,0))] h fun v h'=>Zbi h.length h h'∧((v=.bool false∧∀ val,Str G N val→¬ Rsp N lk val) ∨ (v=.bool true∧∀ nu,∃ T,VT G lk nu n T)):=by
 apply Zkq.call
 simp only [Zba]
 generalize hh0:h ++ [Zci.map [] 0]=h0
 have s0:Zbi h.length h h0:=by rw [← hh0]; exact Zav
 have m0:h0[h.length]?=some (.map [] 0):=by rw [← hh0]; simp
 have l0:h0.length=h.length + 1:=by rw [← hh0]; simp
 generalize hh1:h0 ++ [Zci.map [] 0]=h1
 have s1:Zbi h0.length h0 h1:=by rw [← hh1]; exact Zav
 have m1:=s1.get m0 (Own.lt m0)
 have d1:h1[h0.length]?=some (.map [] 0):=by rw [← hh1]; simp
 have S1:=s0.cat s1
 refine (Ybj ok _ (Nat.le_refl _) (g.same S1) hn (A:=[]) (D:=[]) ⟨[],0,m1,rfl,rfl⟩ ⟨[],0,d1,rfl,rfl⟩ (by omega) (by simp) (by simp) (by simp) (by simp)).mono ?_
 rintro v h2 ⟨K2,hr⟩
 have l1:=S1.le
 have S2:Zbi h.length h h2:=⟨by have:=K2.1; omega,fun j hj=>by rw [K2.2 j (by omega) (by omega) (by omega)]; exact S1.eq j hj⟩
 rcases hr with ⟨rfl,hno⟩ | ⟨rfl,hT,_⟩
 ·simp only [Zag]
  exact ⟨S2,.inl ⟨rfl,hno⟩⟩
 ·simp only [Zag]
  exact ⟨S2,.inr ⟨rfl,hT⟩⟩
end
end Go.Sim

set_option linter.unusedVariables false
set_option linter.unusedSimpArgs false
set_option maxRecDepth 20000
namespace Go.Sim
open Go Go.RowKit

theorem Yfx {g:FuncId} {caps:List Zad} {K:FuncId→List Zad→Prop}:Ylu (.fn g caps) K=K g caps:=rfl
section
variable {G:Gr} {N:List Nat} {lk:Nat→Option Nat} {Z:Nat→Prop}
theorem Yjv (ok:GOk G N lk) (cl:Cls G N lk):∀ (M:Nat) {h:Zaa} {n:Nat} {T:Ty},T.size≤M→GH h G N lk Z→n∈N→VT G lk G.hd n T →
  Zac pg Zgd [.ptr (some (n,0)),.fn Zox []] h fun v h'=>h'=h∧∃ s:List Nat,v=.tup [.str s,.bool (decide (T.txt.length≤60))]∧s.length≤61∧(T.txt.length≤60→s=T.txt):=by
 intro M
 induction M with
 | zero=>intro h n T hT; have:=Zlx T; omega
 | succ M ih=>
 intro h n T hT g hn v
 obtain ⟨k,e,hp,he0,he⟩:=ok.ends hn
 have ve:=v.to hp
 obtain ⟨pa,pc,pe,hei,her,hed⟩:=g.node e he
 apply Zde.call
 refine (Zux g ok hn hp he0).mono ?_
 rintro v1 h1 ⟨rfl,rfl⟩
 simp only [Zbu,Zao,Zal hei,Nat.zero_add,List.getElem?_cons_zero,Zap]
 refine (Zjv [G.hd e]).mono ?_
 rintro v2 h2 ⟨rfl,rfl⟩
 simp only [Zag,Zmm,Zao,Zal hei,List.getElem?_cons_succ,List.getElem?_cons_zero,Zap,Zak]
 refine Zfh (fun hv=>?_) (fun hv=>?_)
 ·have hTe:T=.k (G.hd e):=ve.det (.var .refl he0 hv)
  subst hTe
  simp only [Yfx,List.append_nil]
  apply Ztc.call
  simp only [Zao,Zal hei,Nat.zero_add,List.getElem?_cons_zero,Zap]
  exact ⟨by trivial,[G.hd e],by simp [Ty.txt],by simp,fun _=>rfl⟩
 ·obtain ⟨a1,a2,a3⟩:=VT.parts ok cl .refl he0 he hv ve
  have htx:=T.txt_mids
  have hln:=congrArg List.length htx
  rw [List.length_append,List.length_cons] at hln
  have hps2:=ok.ps_le he
  refine Zde.L7ind (J:=fun (i:Nat) x7 x34 h'=>x34=(i:Int)∧i≤(G.ps e).length∧h'=h2∧x7=T.hd :: Zhz 0 (T.ps.take i)∧x7.length≤60) (m:=fun i=>(G.ps e).length - i) (hr:=?_) (g:=0)
   (hj:=⟨rfl,by omega,rfl,by simp [Zhz,a1],by simp⟩)
  rintro i x7 x34 h3 ⟨rfl,hi,rfl,rfl,hx7⟩ R hR
  unfold Zde.L7t
  refine Zar (fun hlt=>?_) (fun hge=>?_)
  ·have hi':i < (G.ps e).length:=by omega
   have hiT:i < T.ps.length:=by omega
   have hpg:(G.ps e)[i]?=some (G.ps e)[i]:=List.getElem?_eq_getElem hi'
   obtain ⟨ja,oa,rfl,hca⟩:=Zqi her hpg
   have vp:=a3 i _ _ hpg (List.getElem?_eq_getElem hiT)
   have hmem:=List.getElem_mem hiT
   have hsz:=Ty.size_part hmem
   have hlp:=Ty.len_part hmem
   have hmt:=Zmi T.ps 0 i hiT
   have hml:=Zoi T.ps 0 (i + 1)
   have hmtl:=congrArg List.length hmt
   simp only [List.length_append,List.length_cons,Nat.zero_add] at hmtl
   simp only [List.length_cons] at hx7
   simp only [Zao,Int.toNat_natCast,hca,Zbu]
   refine ⟨by omega,(ih (by omega) g (ok.par e he _ (List.getElem_mem hi')) vp).mono ?_⟩
   rintro v3 h4 ⟨rfl,s,rfl,hs,hst⟩
   simp only [Zcb,Zaf,Zap,Zag,Zan]
   rw [Zys (by omega)]
   refine ⟨⟨by omega,by rw [Zby (by omega)]; omega,by rw [Zby (by omega)]; simp; omega⟩,by simp; omega,by simp; omega,?_⟩
   refine Zdf (fun hb=>?_) (fun hb=>?_)
   ·have hb:=of_decide_eq_false hb
    exact ⟨by trivial,[],by rw [decide_eq_false (by omega)],by simp,fun h=>by omega⟩
   ·have hb:=of_decide_eq_true hb
    have hs':=hst hb
    subst hs'
    have hx:(T.hd :: Zhz 0 (T.ps.take i)) ++ ([Zkz i] ++ T.ps[i].txt)=T.hd :: Zhz 0 (T.ps.take (i + 1)):=by rw [hmt]; simp
    rw [hx]
    refine Zar (fun h60=>?_) (fun h60=>?_)
    ·simp only [List.length_cons] at h60
     exact ⟨by trivial,[],by rw [decide_eq_false (by omega)],by simp,fun h=>by omega⟩
    ·apply Zde.J13i
     rw [Zby (by omega)]
     exact hR (i + 1) _ _ _ (by omega) ⟨rfl,by omega,rfl,rfl,by omega⟩
  ·apply Zde.A7x0i
   have:i=(G.ps e).length:=by omega
   subst this
   rw [← a2,List.take_length] at hx7 ⊢
   simp only [Zao,Zal hei,Nat.zero_add,List.getElem?_cons_succ,List.getElem?_cons_zero,Zak]
   refine Zar (fun hpos=>?_) (fun hneg=>?_)
   ·have hne:T.ps≠[]:=fun e=>by rw [e] at a2; simp at a2; omega
    rw [if_neg hne] at htx hln
    refine ⟨by simp at hx7 ⊢; omega,?_⟩
    apply Zde.J16i
    rw [← htx]
    refine ⟨by trivial,T.txt,?_,?_,fun _=>rfl⟩
    ·rw [show decide (((T.txt.length:Nat):Int)≤60)=decide (T.txt.length≤60) by rw [Bool.eq_iff_iff]; simp only [decide_eq_true_eq]; omega]
    ·rw [hln]; simp only [List.length_cons,List.length_nil] at hx7 ⊢; omega
   ·have hne:T.ps=[]:=List.eq_nil_of_length_eq_zero (by omega)
    rw [if_pos hne,List.append_nil] at htx
    apply Zde.J16i
    rw [← htx]
    refine ⟨by trivial,T.txt,?_,?_,fun _=>rfl⟩
    ·rw [show decide (((T.txt.length:Nat):Int)≤60)=decide (T.txt.length≤60) by rw [Bool.eq_iff_iff]; simp only [decide_eq_true_eq]; omega]
    ·rw [htx]; omega
end
end Go.Sim

set_option linter.unusedVariables false
set_option linter.unusedSimpArgs false
set_option maxRecDepth 20000
namespace Go.Sim
open Go Go.RowKit

theorem Zzb {i:Nat} {h h':Zaa} (s:Zbi h.length h h'):Zeo i h h':=⟨s.le,fun j hj _=>s.eq j hj⟩
theorem Yip {h h':Zaa} {i j:Nat} {x:Zci} (K:Zeo i h h') (hj:h[j]?=some x) (hi:j≠i):h'[j]?=some x:=by rw [K.eq j (Own.lt hj) hi]; exact hj
def Zsk:List (Nat × Nat)→Nat→Option Nat
 | [],_=>none
 | (c,x) :: r,d=>if c=d then some x else Zsk r d
theorem Zzd:∀ {l:List (Nat × Nat)} {c x d:Nat},Zsk (l ++ [(c,x)]) d=match Zsk l d with | some y=>some y | none=>if c=d then some x else none
 | [],c,x,d=>by simp [Zsk]
 | (c',x') :: l,c,x,d=>by
  simp only [List.cons_append,Zsk]
  by_cases e:c'=d
  ·simp [e]
  ·simp only [if_neg e,Zzd]
theorem Zqn:∀ {l:List (Nat × Nat)} {c x:Nat},Zsk l c=some x→(c,x)∈l
 | [],c,x,h=>by cases h
 | (c',x') :: l,c,x,h=>by
  simp only [Zsk] at h
  by_cases e:c'=c
  ·rw [if_pos e] at h; cases h; subst e; exact List.mem_cons_self
  ·rw [if_neg e] at h; exact List.mem_cons_of_mem _ (Zqn h)
theorem Zzu:∀ {l r:List (Nat × Nat)} {c x:Nat},Zsk l c=some x→Zsk (l ++ r) c=some x
 | [],r,c,x,h=>by cases h
 | (c',x') :: l,r,c,x,h=>by
  simp only [List.cons_append,Zsk] at h ⊢
  by_cases e:c'=c
  ·rw [if_pos e] at h ⊢; exact h
  ·rw [if_neg e] at h ⊢; exact Zzu h
def Ylv (h:Zaa) (i:Nat) (sc:List (Nat × Nat)):Prop:=∃ es clk,h[i]?=some (.map es clk)∧es.map (·.1)=sc.map (fun p=>Zad.str [p.1])∧es.map (·.2.1)=sc.map (fun p=>Zad.ptr (some (p.2,0)))∧(es.map (·.2.2)).Nodup∧∀ e∈es,e.2.2 < clk
theorem Ylv.eq {h h':Zaa} {i:Nat} {sc:List (Nat × Nat)} (r:Ylv h i sc) (he:h'[i]?=h[i]?):Ylv h' i sc:=by obtain ⟨es,k,h1,x⟩:=r; exact ⟨es,k,by rw [he]; exact h1,x⟩
theorem Zpe:∀ {es:List ME} {sc:List (Nat × Nat)} {v x k:Nat},es.map (·.1)=sc.map (fun p=>Zad.str [p.1])→es.map (·.2.1)=sc.map (fun p=>Zad.ptr (some (p.2,0)))→Zsk sc v=some x→∃ j,Zky es [v] k=some (some (j,.ptr (some (x,0))))
 | _,[],v,x,k,_,_,h=>by cases h
 | [],p :: sc,v,x,k,h,_,_=>by simp at h
 | (ek,ev,eb) :: es,(w,u) :: sc,v,x,k,hk,hv,h=>by
  simp only [List.map_cons,List.cons.injEq] at hk hv
  obtain ⟨rfl,hk⟩:=hk
  obtain ⟨rfl,hv⟩:=hv
  simp only [Zsk] at h
  by_cases e:w=v
  ·rw [if_pos e] at h
   cases h; subst e
   exact ⟨k,by simp [Zky]⟩
  ·rw [if_neg e] at h
   obtain ⟨j,h1⟩:=Zpe (k:=k + 1) hk hv h
   have:¬ [v]=[w]:=fun x=>e (by simpa using x.symm)
   exact ⟨j,by simp only [Zky,this,if_false,h1]⟩
theorem Ztd:∀ {es:List ME} {sc:List (Nat × Nat)} {v k:Nat},es.map (·.1)=sc.map (fun p=>Zad.str [p.1])→Zsk sc v=none→Zky es [v] k=some none
 | [],[],v,k,_,_=>rfl
 | [],p :: sc,v,k,h,_=>by simp at h
 | e :: es,[],v,k,h,_=>by simp at h
 | (ek,ev,eb) :: es,(w,u) :: sc,v,k,hk,h=>by
  simp only [List.map_cons,List.cons.injEq] at hk
  obtain ⟨rfl,hk⟩:=hk
  simp only [Zsk] at h
  by_cases e:w=v
  ·rw [if_pos e] at h; cases h
  ·rw [if_neg e] at h
   have:¬ [v]=[w]:=fun x=>e (by simpa using x.symm)
   simp only [Zky,this,if_false]
   exact Ztd hk h
def Zot (G:Gr) (o c:Nat) (qs:List Nat):Gr:=⟨fun n=>if n=o then c else G.hd n,fun n=>if n=o then qs else G.ps n⟩
theorem Zxj {G:Gr} {N:List Nat} {o c:Nat} {qs:List Nat} (ho:o ∉ N):GAg N G (Zot G o c qs):=fun n hn=>by
 have:n≠o:=fun e=>ho (e ▸ hn)
 simp [Zot,this]
structure ShS (h:Zaa) (mi:Nat) (G:Gr) (N:List Nat) (sc:List (Nat × Nat)) (Z:Nat→Prop):Prop where
 gh:GH h G N (fun _=>none) Z
 cl:GCl G N
 ar:∀ n∈N,arN (G.hd n)=((G.ps n).length:Int)
 map:Ylv h mi sc
 sin:∀ p∈sc,p.2∈N∧G.hd p.2=p.1∧Zam p.1=true∧Zsk sc p.1=some p.2
structure ShR (h:Zaa) (mi:Nat) (G:Gr) (N:List Nat) (sc:List (Nat × Nat)) (Z:Nat→Prop) (t:Ty) (q:Nat) (h':Zaa) (G':Gr) (L:List Nat) (sc':List (Nat × Nat)):Prop where
 fr:Zeo mi h h'
 st:ShS h' mi G' (N ++ L) sc' Z
 ag:GAg N G G'
 new:∀ x∈L,h.length≤x∧Sub G' q x
 var:∀ x∈L,Zam (G'.hd x)=true→(G'.hd x,x)∈sc'
 ext:∃ r,sc'=sc ++ r
 qN:q∈N ++ L
 raw:Raw G' G'.hd q t
section
variable {h h':Zaa} {mi:Nat} {G:Gr} {N:List Nat} {sc:List (Nat × Nat)} {Z Z':Nat→Prop} {lk:Nat→Option Nat}
theorem GH.re (g:GH h G N lk Z) (hl:h.length≤h'.length) (hN:∀ n∈N,h'[n]?=h[n]?) (hR:∀ j t cs ro,h[j]?=some (Zci.cells t cs ro)→¬ Z j→j ∉ N→h'[j]?=h[j]?) (hZ:∀ j,j < h.length→¬ Z j→¬ Z' j):GH h' G N lk Z':=by
 refine ⟨fun n hn=>?_⟩
 obtain ⟨a,c,e,hi,hr,hd⟩:=g.node n hn
 refine ⟨a,c,e,by rw [hN n hn]; exact hi,hr.to hl fun j o h0 ha _=>?_,fun j o h0 ha=>?_⟩
 ·obtain ⟨t,all,ro,hj⟩:=hr.cellsAt h0 ha
  exact hR _ _ _ _ hj (hd j o h0 ha).2 (hd j o h0 ha).1
 ·obtain ⟨t,all,ro,hj⟩:=hr.cellsAt h0 ha
  exact ⟨(hd j o h0 ha).1,hZ j (Own.lt hj) (hd j o h0 ha).2⟩
theorem GH.ag {G':Gr} (g:GH h G N lk Z) (ag:GAg N G G'):GH h G' N lk Z:=⟨fun n hn=>by rw [(ag n hn).1,(ag n hn).2]; exact g.node n hn⟩
theorem GH.add {o c:Nat} {qs:List Nat} (g:GH h G N (fun _=>none) Z') (hZo:Z' o) (hZ:∀ z,Z z→Z' z) (ho:o ∉ N) {a:Pt} {cp:Nat} {e:Bool} (hi:h[o]?=some (.cells Zbg [.str [c],.slice a qs.length cp e,.ptr none] false))
  (hr:Row h.length h a qs.length (qs.map fun p=>Zad.ptr (some (p,0)))) (hd:∀ j o',qs.length≠0→a=some (j,o')→j ∉ N∧j≠o∧¬ Z j):GH h (Zot G o c qs) (N ++ [o]) (fun _=>none) Z:=by
 refine ⟨fun n hn=>?_⟩
 rcases List.mem_append.1 hn with hn | hn
 ·obtain ⟨b,c',e',hb,hbr,hbd⟩:=(g.ag (Zxj (c:=c) (qs:=qs) ho)).node n hn
  refine ⟨b,c',e',hb,hbr,fun j o' h0 ha=>⟨fun hj=>?_,fun hj=>(hbd j o' h0 ha).2 (hZ _ hj)⟩⟩
  rcases List.mem_append.1 hj with hj | hj
  ·exact (hbd j o' h0 ha).1 hj
  ·rw [List.mem_singleton] at hj
   subst hj
   exact (hbd j o' h0 ha).2 hZo
 ·rw [List.mem_singleton] at hn
  subst hn
  refine ⟨a,cp,e,by simpa [Zot] using hi,by simpa [Zot] using hr,fun j o' h0 ha=>?_⟩
  have h0':qs.length≠0:=by simpa [Zot] using h0
  obtain ⟨h1,h2,h3⟩:=hd j o' h0' ha
  exact ⟨fun hj=>(List.mem_append.1 hj).elim h1 fun hj=>h2 (List.mem_singleton.1 hj),h3⟩
end
structure ShL (h0:Zaa) (mi:Nat) (G:Gr) (N:List Nat) (sc:List (Nat × Nat)) (Z:Nat→Prop) (t:Ty) (o:Nat) (h':Zaa) (G1:Gr) (L1:List Nat) (sc1:List (Nat × Nat)) (qs:List Nat) (a:Pt) (cp:Nat) (e:Bool):Prop where
 out:h'[o]?=some (.cells Zbg [.str [t.hd],.slice a qs.length cp e,.ptr none] false)
 vec:Vec Zce h' a qs.length cp (qs.map fun q=>Zad.ptr (some (q,0)))
 low:∀ j,a=some (j,0)→o < j
 raw:∀ (i q:Nat) (x:Ty),qs[i]?=some q→t.ps[i]?=some x→Raw G1 G1.hd q x
 qN:∀ q∈qs,q∈N ++ L1
 fr:Zeo mi h0 h'
 st:ShS h' mi G1 (N ++ L1) sc1 (fun z=>Z z ∨ z=o ∨ a=some (z,0))
 ag:GAg N G G1
 new:∀ x∈L1,o < x∧∃ q∈qs,Sub G1 q x
 var:∀ x∈L1,Zam (G1.hd x)=true→(G1.hd x,x)∈sc1
 ext:∃ r,sc1=sc ++ r
theorem Ych {h:Zaa} {i j:Nat} {cs cs':List Zad} {r r':Bool} (hi:h[i]?=some (.cells Zbg cs r)) (hj:h[j]?=some (.cells Zce cs' r')):i≠j:=by
 rintro rfl; rw [hi] at hj; injection hj with hj; injection hj with hj; exact absurd hj (by decide)
theorem Vec.ptr {ty:TypeId} {h:Zaa} {a:Pt} {n c:Nat} {cs:List Zad} (x:Vec ty h a n c cs) {j o:Nat} (ha:a=some (j,o)):o=0∧h[j]?=some (.cells ty cs false):=by
 rcases x with ⟨h0,_⟩ | ⟨i,hi,hj⟩
 ·rw [ha] at h0; cases h0
 ·rw [ha] at hi; cases hi; exact ⟨rfl,hj⟩
theorem Ygj:∀ (M:Nat) {t:Ty} {S:Nat→Prop} {h:Zaa} {p:Pt} {mi:Nat} {G:Gr} {N:List Nat} {sc:List (Nat × Nat)} {Z:Nat→Prop},t.size≤M→t.ok=true→Zmo S h t p→(∀ j,S j→j≠mi)→ShS h mi G N sc Z→(∀ z,Z z→z < h.length) →
  Zac pg Zfo [.ptr p,.map (some mi)] h fun v h'=>∃ q G' L sc',v=.ptr (some (q,0))∧ShR h mi G N sc Z t q h' G' L sc':=by
 intro M
 induction M with
 | zero=>intro t S h p mi G N sc Z hM; have:=Zlx t; omega
 | succ M ih=>
 intro t S h p mi G N sc Z hM hok hrep hS st hZ
 obtain ⟨i,a,c0,e0,qa,rfl,si,hi,row,hSa,hqal,hqa⟩:=hrep.parts
 obtain ⟨es,clk,hm,hk,hv,hb,hlt⟩:=id st.map
 have hml:=Own.lt hm
 apply Zdh.call
 simp only [Zao,Zal hi,Nat.zero_add,List.getElem?_cons_zero,Zap]
 refine (Zjv [t.hd]).mono ?_
 rintro v h1 ⟨rfl,rfl⟩
 simp only [Zag,Zmm,Zal hi,List.getElem?_cons_zero,Zap,Zao]
 refine Zfh (fun hvar=>?_) (fun hvar=>?_)
 ·-- a variable
  have hps:t.ps=[]:=List.eq_nil_of_length_eq_zero (by have:=Ty.ok_ar hok; rw [Zrm hvar] at this; omega)
  have htk:t=.k t.hd:=Ymc (by rw [hps]; rfl)
  simp only [Zbv,hm,Znd]
  cases hg:Zsk sc t.hd with
  | some x=>
   obtain ⟨j,hf⟩:=Zpe (k:=0) hk hv hg
   rw [hf]
   simp only [Option.getD_some,Zbu,Option.isNone_some,Zat]
   apply Zdh.J4i
   simp only [Zao,Zal hi,Nat.zero_add,List.getElem?_cons_zero,Zap,Zbv,hm,Znd,hf,Option.getD_some,Zbu]
   obtain ⟨h2,h3,h4,_⟩:=st.sin _ (Zqn hg)
   refine ⟨x,G,[],sc,rfl,Zeo.refl _ _,by rw [List.append_nil]; exact st,GAg.refl _ _,by simp,by simp,⟨[],by simp⟩,by simpa using h2,?_⟩
   have h3':G.hd x=t.hd:=h3
   rw [htk,← h3']
   exact .var (by rw [h3']; exact hvar)
  | none=>
   have hf:=Ztd (k:=0) hk hg
   rw [hf]
   simp only [Option.getD_none,Zbu,Option.isNone_none,Zaz,Zba,true_and]
   generalize hh2:h1 ++ [Zci.cells Zbg [.str [t.hd],.slice none 0 0 true,.ptr none] false]=h2
   have s2:Zbi h1.length h1 h2:=by rw [← hh2]; exact Zav
   have o2:h2[h1.length]?=some (.cells Zbg [.str [t.hd],.slice none 0 0 true,.ptr none] false):=by rw [← hh2]; simp
   have hi2:=s2.get hi (Own.lt hi)
   have hm2:=s2.get hm hml
   have l2:h2.length=h1.length + 1:=by rw [← hh2]; simp
   have him:i≠mi:=hS i si
   simp only [Zal hi2,Zal hi,List.getElem?_cons_zero,xMp,Zbv,hm2,Zzv,hf,true_and]
   generalize hh3:h2.set mi (.map (es ++ [(.str [t.hd],.ptr (some (h1.length,0)),clk)]) (clk + 1))=h3
   have hm3:h3[mi]?=some (.map (es ++ [(.str [t.hd],.ptr (some (h1.length,0)),clk)]) (clk + 1)):=by rw [← hh3]; exact Zch hm2
   have k3:∀ j,j≠mi→h3[j]?=h2[j]?:=fun j hj=>by rw [← hh3]; exact Zbr fun e=>hj e.symm
   have l3:h3.length=h2.length:=by rw [← hh3]; simp
   have hi3:h3[i]?=h2[i]?:=k3 i him
   have hk3:(es ++ [((Zad.str [t.hd],Zad.ptr (some (h1.length,0)),clk):ME)]).map (·.1)=(sc ++ [(t.hd,h1.length)]).map (fun p=>Zad.str [p.1]):=by simp [hk]
   have hv3:(es ++ [((Zad.str [t.hd],Zad.ptr (some (h1.length,0)),clk):ME)]).map (·.2.1)=(sc ++ [(t.hd,h1.length)]).map (fun p=>Zad.ptr (some (p.2,0))):=by simp [hv]
   have hg3:Zsk (sc ++ [(t.hd,h1.length)]) t.hd=some h1.length:=by rw [Zzd,hg]; simp
   obtain ⟨j3,hf3⟩:=Zpe (k:=0) hk3 hv3 hg3
   apply Zdh.J4i
   rw [hi2] at hi3
   simp only [Zao,Zal hi3,Nat.zero_add,List.getElem?_cons_zero,Zap,Zbv,hm3,Znd,hf3,Option.getD_some,Zbu]
   have hnN:h1.length ∉ N:=fun h=>by have:=st.gh.lt h; omega
   have hml2:mi≠h1.length:=by omega
   have o3:h3[h1.length]?=some (.cells Zbg [.str [t.hd],.slice none ([]:List Nat).length 0 true,.ptr none] false):=by rw [k3 _ hml2.symm]; exact o2
   have g3:GH h3 G N (fun _=>none) (fun z=>Z z ∨ z=h1.length):=st.gh.re (by omega) (fun n hn=>by rw [k3 n fun e=>by subst e; obtain ⟨_,_,_,q,_⟩:=st.gh.node n hn; rw [hm] at q; cases q]; exact s2.eq n (st.gh.lt hn))
    (fun j t cs ro hj _ _=>by rw [k3 j fun e=>by subst e; rw [hm] at hj; cases hj]; exact s2.eq j (Own.lt hj)) (fun j hj hz=>by rintro (h | h); exact hz h; omega)
   have ag:GAg N G (Zot G h1.length t.hd []):=Zxj hnN
   have ghd:(Zot G h1.length t.hd []).hd h1.length=t.hd:=by simp [Zot]
   refine ⟨h1.length,Zot G h1.length t.hd [],[h1.length],sc ++ [(t.hd,h1.length)],rfl,⟨by omega,fun j hj hne=>by rw [k3 j hne]; exact s2.eq j hj⟩,⟨?_,?_,?_,?_,?_⟩,ag,?_,?_,⟨_,rfl⟩,by simp,?_⟩
   ·exact g3.add (.inr rfl) (fun z hz=>.inl hz) hnN o3 Row.nil (fun j o' h0=>absurd rfl h0)
   ·intro n hn p hp
    rcases List.mem_append.1 hn with hn | hn
    ·rw [(ag n hn).2] at hp; exact List.mem_append_left _ (st.cl n hn p hp)
    ·rw [List.mem_singleton.1 hn] at hp; simp [Zot] at hp
   ·intro n hn
    rcases List.mem_append.1 hn with hn | hn
    ·rw [(ag n hn).1,(ag n hn).2]; exact st.ar n hn
    ·rw [List.mem_singleton.1 hn,ghd,Zrm hvar]; simp [Zot]
   ·refine ⟨_,_,hm3,hk3,hv3,?_,?_⟩
    ·rw [List.map_append,List.nodup_append]
     refine ⟨hb,by simp,?_⟩
     intro x hx y hy e
     simp at hy
     obtain ⟨z,hz,rfl⟩:=List.mem_map.1 hx
     have:=hlt z hz; omega
    ·intro e he
     rcases List.mem_append.1 he with he | he
     ·have:=hlt e he; omega
     ·simp at he; subst he; simp
   ·intro p hp
    rcases List.mem_append.1 hp with hp | hp
    ·obtain ⟨h1',h2',h3',h4'⟩:=st.sin p hp
     exact ⟨List.mem_append_left _ h1',by rw [(ag _ h1').1]; exact h2',h3',Zzu h4'⟩
    ·rw [List.mem_singleton.1 hp]
     exact ⟨by simp,ghd,hvar,hg3⟩
   ·intro x hx
    rw [List.mem_singleton.1 hx]
    exact ⟨Nat.le_refl _,.refl⟩
   ·intro x hx _
    rw [List.mem_singleton.1 hx,ghd]; simp
   ·rw [htk]
    have:Raw (Zot G h1.length t.hd []) (Zot G h1.length t.hd []).hd h1.length (.k ((Zot G h1.length t.hd []).hd h1.length)):=.var (by rw [ghd]; exact hvar)
    rw [ghd] at this; exact this
 ·-- another letter
  simp only [Zba]
  generalize hh2:h1 ++ [Zci.cells Zbg [.str [t.hd],.slice none 0 0 true,.ptr none] false]=h2
  have s2:Zbi h1.length h1 h2:=by rw [← hh2]; exact Zav
  have o2:h2[h1.length]?=some (.cells Zbg [.str [t.hd],.slice none 0 0 true,.ptr none] false):=by rw [← hh2]; simp
  have l2:h2.length=h1.length + 1:=by rw [← hh2]; simp
  have hi2:=s2.get hi (Own.lt hi)
  have hm2:=s2.get hm hml
  have hmo:mi≠h1.length:=by omega
  have hNlt:∀ n∈N,n < h1.length:=fun n hn=>st.gh.lt hn
  have har:=Ty.ok_ar hok
  simp only [Zal hi2,List.getElem?_cons_succ,List.getElem?_cons_zero,Zak]
  have st2:ShS h2 mi G (N ++ []) sc (fun z=>Z z ∨ z=h1.length ∨ (none:Pt)=some (z,0)):=by
   rw [List.append_nil]
   refine ⟨st.gh.re (by omega) (fun n hn=>s2.eq n (hNlt n hn)) (fun j t cs ro hj _ _=>s2.eq j (Own.lt hj)) (fun j hj hz=>?_),st.cl,st.ar,st.map.eq (s2.eq mi hml),st.sin⟩
   rintro (h | h | h)
   ·exact hz h
   ·omega
   ·cases h
  refine Zdh.L7ind (J:=fun (g:Nat) x48 h'=>x48=(g:Int)∧g≤t.ps.length∧∃ G1 L1 sc1 qs a1 cp e1,qs.length=g∧ShL h1 mi G N sc Z t h1.length h' G1 L1 sc1 qs a1 cp e1) (m:=fun g=>t.ps.length - g) (hr:=?_) (g:=0)
   (hj:=⟨rfl,by omega,G,[],sc,[],none,0,true,rfl,o2,Vec.mk0,(fun j hj=>by cases hj),(fun i q x hq=>by simp at hq),(fun q hq=>by cases hq),Zzb s2,st2,GAg.refl _ _,(fun x hx=>by cases hx),(fun x hx=>by cases hx),⟨[],by simp⟩⟩)
  rintro g x48 h3 ⟨rfl,hg,G1,L1,sc1,qs,a1,cp,e1,hql,W⟩ R hR
  unfold Zdh.L7t
  have hps2:t.ps.length≤2:=by cases t <;> simp [Ty.ps]
  have hol:=Own.lt W.out
  refine Zar (fun hlt'=>?_) (fun hge=>?_)
  ·have hg':g < t.ps.length:=by omega
   have hqag:g < qa.length:=by omega
   obtain ⟨ja,oa,rfl,_,hca⟩:=(row.keepAt (i:=mi) (fun j o h0 e=>hS j (hSa j o h0 e)) W.fr).at hg'
   rw [List.getElem?_map,List.getElem?_eq_getElem hqag] at hca
   simp only [Zao,Int.toNat_natCast,Nat.mul_one,hca,Option.map_some,Zbu,Zal W.out,Nat.zero_add,List.getElem?_cons_succ,List.getElem?_cons_zero,Zak]
   have hmem:=List.getElem_mem hg'
   have hsz:=Ty.size_part hmem
   refine ⟨by omega,(ih (by omega) (Ty.ok_ps hok _ hmem) ((hqa g _ _ (List.getElem?_eq_getElem hqag) (List.getElem?_eq_getElem hg')).keep fun j hj hl=>W.fr.eq j hl (hS j hj)) hS W.st (fun z hz=>?_)).mono ?_⟩
   ·rcases hz with hz | hz | hz
    ·have:=hZ z hz; omega
    ·omega
    ·exact Own.lt (W.vec.ptr hz).2
   rintro v h4 ⟨q,G2,L2,sc2,rfl,R2⟩
   have hmo':h1.length≠mi:=fun e=>hmo e.symm
   have out4:=Yip R2.fr W.out hmo'
   have a1mi:∀ j o,a1=some (j,o)→j≠mi:=fun j o hj e=>by
    subst e
    obtain ⟨es1,k1,hm1,_⟩:=W.st.map
    rw [(W.vec.ptr hj).2] at hm1; cases hm1
   have vec4:Vec Zce h4 a1 qs.length cp (qs.map fun q=>Zad.ptr (some (q,0))):=W.vec.agree fun j hj=>R2.fr.eq j (Own.lt (W.vec.ptr hj).2) (a1mi j 0 hj)
   simp only [Zbu,Zba]
   refine ⟨by rw [Zal out4]; rfl,by rw [Zal (Zav.get out4 (Own.lt out4)),Zal out4],?_⟩
   refine vec4.push Ztu Zzg Zyr Zyi (by simp) rfl (by omega) (fun h5 hl5 hi5 hk5=>?_)
   have hfl:=R2.fr.le
   have out5:h5[h1.length]?=some (.cells Zbg [.str [t.hd],.slice a1 qs.length cp e1,.ptr none] false):=by rw [hk5 _ (Own.lt out4) fun j hj=>by have:=W.low j hj; omega]; exact out4
   simp only [Zak]
   rw [Zbj out5 (by simp)]
   simp only [Zas,putRow,List.take_succ_cons,List.take_zero,List.length_cons,List.length_nil,List.drop_succ_cons,List.drop_zero,List.drop_nil,List.cons_append,List.nil_append,List.append_nil]
   rw [Zby (by omega)]
   generalize hh6:h5.set h1.length (.cells Zbg [.str [t.hd],.slice (some (h4.length + 1,0)) (qs.length + 1) (qs.length + 1) false,.ptr none] false)=h6
   have l6:h6.length=h4.length + 2:=by rw [← hh6]; simpa using hl5
   have k6:∀ j,j < h4.length→j≠h1.length→(∀ i,a1=some (i,0)→j≠i)→h6[j]?=h4[j]?:=fun j hj h1' h2'=>by rw [← hh6,Zbr (fun e=>h1' e.symm)]; exact hk5 j hj h2'
   have ob6:h6[h1.length]?=some (.cells Zbg [.str [t.hd],.slice (some (h4.length + 1,0)) (qs ++ [q]).length (qs.length + 1) false,.ptr none] false):=by rw [← hh6,Zch out5]; simp
   have nb6:h6[h4.length + 1]?=some (.cells Zce ((qs ++ [q]).map fun q=>Zad.ptr (some (q,0))) false):=by
    rw [← hh6,Zbr (by omega),hi5]; simp
   have hoN:∀ n∈(N ++ L1) ++ L2,n≠h1.length:=fun n hn=>by
    rcases List.mem_append.1 hn with hn | hn
    ·rcases List.mem_append.1 hn with hn | hn
     ·have:=hNlt n hn; omega
     ·have:=(W.new n hn).1; omega
    ·have:=(R2.new n hn).1; omega
   have haN:∀ n∈(N ++ L1) ++ L2,∀ i,a1=some (i,0)→n≠i:=fun n hn i hi'=>by
    obtain ⟨_,_,_,hnn,_⟩:=R2.st.gh.node n hn
    exact Ych hnn (vec4.ptr hi').2
   have hm4:=R2.st.map
   obtain ⟨es4,k4,hm4',_⟩:=id hm4
   have mi6:h6[mi]?=h4[mi]?:=k6 mi (Own.lt hm4') hmo (fun i hi'=>(a1mi i 0 hi').symm)
   have inc:∀ p,p∈sc1→p∈sc2:=fun p hp=>by obtain ⟨r,hr⟩:=R2.ext; rw [hr]; exact List.mem_append_left _ hp
   refine hR (g + 1) _ _ (by omega) ⟨rfl,by omega,G2,L1 ++ L2,sc2,qs ++ [q],some (h4.length + 1,0),qs.length + 1,false,by simp [hql],ob6,by rw [List.length_append]; exact Vec.mk1 nb6,fun j hj=>by cases hj; omega,fun i q' x hq' hx=>?_,fun q' hq'=>?_,⟨by have:=W.fr.le; omega,fun j hj hne=>?_⟩,⟨?_,?_,?_,hm4.eq mi6,?_⟩,W.ag.trans R2.ag (fun n hn=>List.mem_append_left _ hn),fun x hx=>?_,fun x hx hxv=>?_,?_⟩
   ·by_cases hi':i < qs.length
    ·rw [List.getElem?_append_left hi'] at hq'
     exact (W.raw i q' x hq' hx).agree R2.ag W.st.cl (fun y hy=>(R2.ag y hy).1) (W.qN _ (List.mem_of_getElem? hq'))
    ·rw [List.getElem?_append_right (by omega)] at hq'
     have hi0:i=g:=by
      have:=(List.getElem?_eq_some_iff.1 hq').1
      simp at this; omega
     subst hi0
     rw [hql,Nat.sub_self] at hq'
     simp at hq'
     subst hq'
     rw [List.getElem?_eq_getElem hg'] at hx
     cases hx
     exact R2.raw
   ·rw [← List.append_assoc]
    rcases List.mem_append.1 hq' with hq' | hq'
    ·exact List.mem_append_left _ (W.qN q' hq')
    ·rw [List.mem_singleton.1 hq']; exact R2.qN
   ·rw [k6 j (by have:=W.fr.le; omega) (by omega) fun i hi'=>by have:=W.low i hi'; omega,R2.fr.eq j (by have:=W.fr.le; omega) hne]
    exact W.fr.eq j hj hne
   ·rw [← List.append_assoc]
    refine R2.st.gh.re (by omega) (fun n hn=>k6 n (R2.st.gh.lt hn) (hoN n hn) (haN n hn)) (fun j ty cs ro hj hz hjn=>?_) (fun j hj hz=>?_)
    ·exact k6 j (Own.lt hj) (fun e=>hz (.inr (.inl e))) fun i hi' e=>hz (.inr (.inr (by rw [e]; exact hi')))
    ·rintro (h | h | h)
     ·exact hz (.inl h)
     ·exact hz (.inr (.inl h))
     ·cases h; omega
   ·rw [← List.append_assoc]; exact R2.st.cl
   ·rw [← List.append_assoc]; exact R2.st.ar
   ·rw [← List.append_assoc]; exact R2.st.sin
   ·rcases List.mem_append.1 hx with hx | hx
    ·obtain ⟨x1,q',hq',hsub⟩:=W.new x hx
     exact ⟨x1,q',List.mem_append_left _ hq',hsub.agree R2.ag W.st.cl (W.qN q' hq')⟩
    ·obtain ⟨x1,hsub⟩:=R2.new x hx
     exact ⟨by omega,q,by simp,hsub⟩
   ·rcases List.mem_append.1 hx with hx | hx
    ·have hh:=(R2.ag x (List.mem_append_right _ hx)).1
     rw [hh] at hxv ⊢
     exact inc _ (W.var x hx hxv)
    ·exact R2.var x hx hxv
   ·obtain ⟨r1,hr1⟩:=W.ext
    obtain ⟨r2,hr2⟩:=R2.ext
    exact ⟨r1 ++ r2,by rw [hr2,hr1,List.append_assoc]⟩
  ·apply Zdh.A7x0i
   have hgl:g=t.ps.length:=by omega
   have hqt:qs.length=t.ps.length:=by omega
   have hoN:h1.length ∉ N ++ L1:=fun hn=>by
    rcases List.mem_append.1 hn with hn | hn
    ·have:=hNlt _ hn; omega
    ·have:=(W.new _ hn).1; omega
   have ag1:GAg (N ++ L1) G1 (Zot G1 h1.length t.hd qs):=Zxj hoN
   have ghd:(Zot G1 h1.length t.hd qs).hd h1.length=t.hd:=by simp [Zot]
   have gps:(Zot G1 h1.length t.hd qs).ps h1.length=qs:=by simp [Zot]
   refine ⟨h1.length,Zot G1 h1.length t.hd qs,L1 ++ [h1.length],sc1,rfl,W.fr,⟨?_,?_,?_,W.st.map,fun p hp=>?_⟩,W.ag.trans ag1 (fun n hn=>List.mem_append_left _ hn),fun x hx=>?_,fun x hx hxv=>?_,W.ext,by simp,?_⟩
   ·rw [← List.append_assoc]
    refine W.st.gh.add (.inr (.inl rfl)) (fun z hz=>.inl hz) hoN W.out (W.vec.row (by simp)) (fun j o' h0 ha=>⟨fun hj=>?_,?_,fun hz=>?_⟩)
    ·obtain ⟨_,_,_,hnn,_⟩:=W.st.gh.node j hj
     exact Ych hnn (W.vec.ptr ha).2 rfl
    ·have h00:=(W.vec.ptr ha).1
     subst h00
     have:=W.low j ha; omega
    ·have h00:=(W.vec.ptr ha).1
     subst h00
     have:=W.low j ha
     have:=hZ j hz; omega
   ·intro n hn p hp
    rw [← List.append_assoc] at hn ⊢
    rcases List.mem_append.1 hn with hn | hn
    ·rw [(ag1 n hn).2] at hp; exact List.mem_append_left _ (W.st.cl n hn p hp)
    ·rw [List.mem_singleton.1 hn,gps] at hp; exact List.mem_append_left _ (W.qN p hp)
   ·intro n hn
    rw [← List.append_assoc] at hn
    rcases List.mem_append.1 hn with hn | hn
    ·rw [(ag1 n hn).1,(ag1 n hn).2]; exact W.st.ar n hn
    ·rw [List.mem_singleton.1 hn,ghd,gps,har,hqt]
   ·obtain ⟨q1,q2,q3,q4⟩:=W.st.sin p hp
    exact ⟨by rw [← List.append_assoc]; exact List.mem_append_left _ q1,by rw [(ag1 _ q1).1]; exact q2,q3,q4⟩
   ·rcases List.mem_append.1 hx with hx | hx
    ·obtain ⟨x1,q',hq',hsub⟩:=W.new x hx
     exact ⟨by omega,.part (by rw [gps]; exact hq') (hsub.agree ag1 W.st.cl (W.qN q' hq'))⟩
    ·rw [List.mem_singleton.1 hx]; exact ⟨Nat.le_refl _,.refl⟩
   ·rcases List.mem_append.1 hx with hx | hx
    ·rw [(ag1 x (List.mem_append_right _ hx)).1] at hxv ⊢
     exact W.var x hx hxv
    ·rw [List.mem_singleton.1 hx,ghd] at hxv
     rw [hvar] at hxv; cases hxv
   ·have hraw:∀ (i q:Nat) (x:Ty),qs[i]?=some q→t.ps[i]?=some x→Raw (Zot G1 h1.length t.hd qs) (Zot G1 h1.length t.hd qs).hd q x:=fun i q x hq hx=>
     (W.raw i q x hq hx).agree ag1 W.st.cl (fun y hy=>(ag1 y hy).1) (W.qN _ (List.mem_of_getElem? hq))
    have hvo:Zam ((Zot G1 h1.length t.hd qs).hd h1.length)=false:=by rw [ghd]; exact hvar
    cases t with
    | k c=>
     have hq0:qs=[]:=List.eq_nil_of_length_eq_zero hqt
     have:=Raw.cst (nu:=(Zot G1 h1.length (Ty.k c).hd qs).hd) hvo (by rw [gps]; exact hq0)
     rw [ghd] at this; exact this
    | u c x=>
     obtain ⟨q,rfl⟩:=List.length_eq_one_iff.1 (show qs.length=1 from hqt)
     ·have:=Raw.one (nu:=(Zot G1 h1.length (Ty.u c x).hd [q]).hd) hvo gps (hraw 0 q x rfl rfl)
      rw [ghd] at this; exact this
    | w c x y=>
     obtain ⟨q,q',rfl⟩:∃ q q',qs=[q,q']:=by
      match qs,hqt with
      | [q,q'],_=>exact ⟨q,q',rfl⟩
     ·have:=Raw.two (nu:=(Zot G1 h1.length (Ty.w c x y).hd [q,q']).hd) hvo gps (hraw 0 q x rfl rfl) (hraw 1 q' y rfl rfl)
      rw [ghd] at this; exact this
end Go.Sim

set_option linter.unusedVariables false
set_option linter.unusedSimpArgs false
set_option maxRecDepth 20000
namespace Go.Sim
open Go Go.RowKit

section
variable {h h':Zaa} {mi:Nat} {G G':Gr} {N L:List Nat} {sc sc':List (Nat × Nat)} {Z Z':Nat→Prop} {lk:Nat→Option Nat}
theorem ShS.same (st:ShS h mi G N sc Z) (s:Zbi h.length h h'):ShS h' mi G N sc Z:=by
 obtain ⟨es,k,hm,_⟩:=id st.map
 exact ⟨st.gh.same s,st.cl,st.ar,st.map.eq (s.eq mi (Own.lt hm)),st.sin⟩
theorem Zzk {s:List Nat} {T:Ty} (hs:Zeh s=some T) (st:ShS h mi G N sc Z) (hZ:∀ z,Z z→z < h.length) :
  Zac pg Zja [.str s,.map (some mi)] h fun v h'=>∃ q G' L sc',v=.ptr (some (q,0))∧ShR h mi G N sc Z T q h' G' L sc':=by
 obtain ⟨h1,h2,h3⟩:=Zbw.1 hs
 obtain ⟨es,k,hm,_⟩:=id st.map
 have hml:=Own.lt hm
 apply Zpu.call
 refine (Zqx s.length s (Nat.le_refl _) h).mono ?_
 rintro v g1 ⟨s1,p,r,rfl,hres⟩
 have ho:Zfl s T []:=⟨h1,by rw [h2]; simp⟩
 rcases hres with ⟨t,ho',hn⟩ | ⟨_,hno⟩
 ·obtain ⟨rfl,rfl⟩:=ho'.unique ho
  simp only [Zcb,Zaf,Zbu,Zap,Zan]
  have l1:=s1.le
  refine (Ygj _ (Nat.le_refl _) h1 hn (fun j hj=>by have:=hj.1; omega) (st.same s1) (fun z hz=>by have:=hZ z hz; omega)).mono ?_
  rintro v g2 ⟨q,G',L,sc',rfl,R⟩
  simp only [Zbu]
  exact ⟨q,G',L,sc',rfl,⟨(Zzb s1).trans R.fr,R.st,R.ag,fun x hx=>⟨by have:=(R.new x hx).1; omega,(R.new x hx).2⟩,R.var,R.ext,R.qN,R.raw⟩⟩
 ·exact absurd ho (hno T [])
theorem ShS.gok (st:ShS h mi G N sc Z):GOk G N (fun _=>none):=⟨st.cl,st.ar,fun n m _ h=>(by cases h),fun n _=>⟨0,n,.refl,rfl⟩⟩
theorem Raw.under (g:GOk G N lk) {nu:Nat→Nat} {q x:Nat} (s:Sub G q x):q∈N→∀ {t:Ty},Raw G nu q t→∃ t',Raw G nu x t':=by
 induction s with
 | refl=>exact fun _ t r=>⟨_,r⟩
 | @part n p x hp _ ih=>
  intro hn t r
  have hpN:=g.par n hn p hp
  cases r with
  | var hv=>rw [g.var_ps hn hv] at hp; cases hp
  | cst h1 h2=>rw [h2] at hp; cases hp
  | one h1 h2 h3=>rw [h2] at hp; simp at hp; subst hp; exact ih hpN h3
  | two h1 h2 h3 h4=>
   rw [h2] at hp; simp at hp
   rcases hp with rfl | rfl
   ·exact ih hpN h3
   ·exact ih hpN h4
theorem ShS.nil (hm:h[mi]?=some (.map [] 0)) (G:Gr) (Z:Nat→Prop):ShS h mi G [] [] Z:=
 ⟨⟨fun n hn=>(by cases hn)⟩,fun n hn=>(by cases hn),fun n hn=>(by cases hn),⟨[],0,hm,rfl,rfl,by simp,by simp⟩,fun p hp=>(by cases hp)⟩
end
end Go.Sim
