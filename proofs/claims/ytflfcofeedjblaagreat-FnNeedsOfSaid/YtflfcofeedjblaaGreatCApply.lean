/- A part of the proof of a statement of this seat: see the text that holds the theorem. No condition. -/
import Derived.Test.YtflfcofeedjblaaGreatPTCText
import Derived.Test.YtflfcofeedjblaaGreatPMatch
import Derived.Test.YtflfcofeedjblaaGreatPTCApply
set_option linter.unusedVariables false
set_option linter.unusedSimpArgs false
set_option linter.all false
set_option linter.unusedVariables false
set_option linter.unusedSimpArgs false
set_option maxRecDepth 20000
namespace Go.Sim
open Go Go.RowKit

def Ymj (h:Zaa) (i:Nat) (m:Bd):Prop:=∃ es clk,h[i]?=some (.map es clk)∧es.map (·.1)=m.map (fun p=>Zau.str [p.1])∧es.map (·.2.1)=m.map (fun p=>Zau.str p.2.txt)∧(es.map (·.2.2)).Nodup∧∀ e∈es,e.2.2 < clk
theorem Ymj.eq {h h':Zaa} {i:Nat} {m:Bd} (r:Ymj h i m) (he:h'[i]?=h[i]?):Ymj h' i m:=by
 obtain ⟨es,clk,h1,x⟩:=r
 exact ⟨es,clk,by rw [he]; exact h1,x⟩
theorem Ymj.lt {h:Zaa} {i:Nat} {m:Bd} (r:Ymj h i m):i < h.length:=by obtain ⟨es,clk,h1,_⟩:=r; exact Own.lt h1
theorem Zst:∀ {es:List ME} {m:Bd} {v k:Nat} {t:Ty},es.map (·.1)=m.map (fun p=>Zau.str [p.1])→es.map (·.2.1)=m.map (fun p=>Zau.str p.2.txt)→Zff m v=some t→∃ j b,Zvy es [v] k=some (some (k + j,.str t.txt))∧es[j]?=some (.str [v],.str t.txt,b)
 | _,[],v,k,t,_,_,h=>by simp [Zff] at h
 | [],p :: m,v,k,t,h,_,_=>by simp at h
 | (ek,ev,eb) :: es,(w,u) :: m,v,k,t,hk,hv,h=>by
  simp only [List.map_cons,List.cons.injEq] at hk hv
  obtain ⟨rfl,hk⟩:=hk
  obtain ⟨rfl,hv⟩:=hv
  simp only [Zff] at h
  by_cases e:w=v
  ·rw [if_pos e] at h
   cases h; subst e
   exact ⟨0,eb,by simp [Zvy],rfl⟩
  ·rw [if_neg e] at h
   obtain ⟨j,b,h1,h2⟩:=Zst (k:=k + 1) hk hv h
   have:¬ [v]=[w]:=fun x=>e (by simpa using x.symm)
   exact ⟨j + 1,b,by simp only [Zvy,this,if_false,h1]; rw [show k + 1 + j=k + (j + 1) by omega],h2⟩
theorem Zsj:∀ {es:List ME} {m:Bd} {v k:Nat},es.map (·.1)=m.map (fun p=>Zau.str [p.1])→Zff m v=none→Zvy es [v] k=some none
 | [],[],v,k,_,_=>rfl
 | [],p :: m,v,k,h,_=>by simp at h
 | e :: es,[],v,k,h,_=>by simp at h
 | (ek,ev,eb) :: es,(w,u) :: m,v,k,hk,h=>by
  simp only [List.map_cons,List.cons.injEq] at hk
  obtain ⟨rfl,hk⟩:=hk
  simp only [Zff] at h
  by_cases e:w=v
  ·rw [if_pos e] at h; cases h
  ·rw [if_neg e] at h
   have:¬ [v]=[w]:=fun x=>e (by simpa using x.symm)
   simp only [Zvy,this,if_false]
   exact Zsj hk h
theorem Zyx {α:Type} {f:α→α} {e:α}:∀ {l:List α} {j:Nat},l[j]?=some e→f e=e→l.modify j f=l
 | [],j,h,_=>by simp at h
 | a :: l,0,h,hf=>by simp at h; subst h; simp [hf]
 | a :: l,j + 1,h,hf=>by simp at h; simp [Zyx h hf]
theorem Yiy (c:Nat):Zla [c]=Zcs c:=rfl
theorem Row.keepAt {i:Nat} {h h':Zaa} {a:Pt} {n:Nat} {cs:List Zau} (r:Row h.length h a n cs) (hne:∀ j o,n≠0→a=some (j,o)→j≠i) (k:Zdu i h h'):Row h'.length h' a n cs:=by
 obtain ⟨hl,r⟩:=r
 by_cases h0:n=0
 ·exact ⟨hl,.inl h0⟩
 ·refine ⟨hl,r.imp id ?_⟩
  rintro ⟨j,o',t,all,ro,ha,hi,hg,x⟩
  have:=k.le
  exact ⟨j,o',t,all,ro,ha,by omega,by rw [k.eq j hi (hne j o' h0 ha)]; exact hg,x⟩
def Yuj (h:Zaa) (i:Nat) (r:Option Bd) (v:Zau) (h':Zaa):Prop:=Zdu i h h'∧(match r with | some m'=>v=.bool true∧Ymj h' i m' | none=>v=.bool false)
theorem Yht:∀ (N:Nat) {a t:Ty} {S:Nat→Prop} {h:Zaa} {p q:Pt} {i n:Nat} {m:Bd},a.size≤N→a.ok=true→t.ok=true→t.txt.length≤1048576→t.txt.length≤n→BOk n m→(∀ j,S j→j≠i)→Ztf S h a p→Ztf S h t q→Ymj h i m →
  Zah pg Zin [.ptr p,.ptr q,.map (some i)] h (Yuj h i (matchT m a t))
 | 0,a,t,S,h,p,q,i,n,m,hN,_,_,_,_,_,_,_,_,_=>by have:=a.size_ps; omega
 | N + 1,a,t,S,h,p,q,i,n,m,hN,ha,ht,hB,hn,bo,hSi,ra,rt,rm=>by
  have hcase:=Ydm (m:=m) ha ht
  obtain ⟨ia,aa,ca,ea,qa,rfl,sia,hia,rowa,hSa,hqal,hqa⟩:=ra.parts
  obtain ⟨it,at',ct,et,qt,rfl,sit,hit,rowt,hSt,hqtl,hqt⟩:=id rt.parts
  have hps2:a.ps.length≤2:=by cases a <;> simp [Ty.ps]
  apply Zfg.call
  simp only [Zav,Zao hia,Nat.zero_add,List.getElem?_cons_succ,List.getElem?_cons_zero,Zae,Zal]
  refine (Ybk [a.hd]).mono ?_
  rintro v h1 ⟨rfl,rfl⟩
  simp only [Zap,Yiy]
  refine Zcv (fun hv=>?_) (fun hv=>?_)
  ·rw [hv] at hcase
   simp only [if_true] at hcase
   refine (Ymg _ (Nat.le_refl _) hB rt).mono ?_
   rintro v h2 ⟨rfl,s2⟩
   have hia2:=s2.get hia (Own.lt hia)
   obtain ⟨es,clk,hm,hk,hvv,hb,hlt⟩:=id rm
   have hm2:=s2.get hm (Own.lt hm)
   have rm2:Ymj h2 i m:=rm.eq (s2.eq i (Own.lt hm))
   simp only [Zal,Zao hia2,List.getElem?_cons_succ,List.getElem?_cons_zero,Zhw,hm2,Zzo]
   have K2:Zdu i h1 h2:=⟨s2.le,fun j hj _=>s2.eq j hj⟩
   have hput:∀ r:Option Bd,(∀ (es':List ME) (k':Nat),Yoh es clk [a.hd] (.str t.txt) (fun x y=>x=es'∧y=k')→Yuj h1 i r (.bool true) (h2.set i (.map es' k')))→Zfg.J6 (Yuj h1 i r) (some i) (some (ia,0)) t.txt h2:=by
    intro r hr
    apply Zfg.J6i
    simp only [Zav,Zao hia2,Nat.zero_add,List.getElem?_cons_zero,Zal,xMp,Zhw,hm2,Zaw]
    unfold Yoh at hr ⊢
    cases hg:Zff m a.hd with
    | none=>
     rw [Zsj hk hg] at hr ⊢
     exact hr _ _ ⟨rfl,rfl⟩
    | some u=>
     obtain ⟨j,b,hf,_⟩:=Zst (k:=0) hk hvv hg
     rw [hf] at hr ⊢
     exact hr _ _ ⟨rfl,rfl⟩
   have KS:∀ x,Zdu i h1 (h2.set i x):=fun x=>K2.trans (Zdu.set i h2 x)
   have hil:=Own.lt hm2
   cases hg:Zff m a.hd with
   | none=>
    have hbn:Zpe m a.hd t=some (m ++ [(a.hd,t)]):=by unfold Zpe; rw [hg]
    rw [hbn] at hcase
    rw [hcase,Zsj hk hg]
    simp only [Option.getD_none,Zal,Option.isSome_none,Zca]
    refine hput _ fun es' k' hp=>⟨KS _,rfl,?_⟩
    unfold Yoh at hp
    rw [Zsj hk hg] at hp
    obtain ⟨rfl,rfl⟩:=hp
    refine ⟨_,_,List.getElem?_set_self hil,by simp [hk],by simp [hvv],?_,?_⟩
    ·rw [List.map_append,List.nodup_append]
     refine ⟨hb,by simp,?_⟩
     intro x hx y hy e
     simp at hy
     obtain ⟨z,hz,rfl⟩:=List.mem_map.1 hx
     have:=hlt z hz; omega
    ·intro e he
     rcases List.mem_append.1 he with he | he
     ·have:=hlt e he; omega
     ·simp at he; subst he; simp
   | some u=>
    obtain ⟨j,b,hf,hj⟩:=Zst (k:=0) hk hvv hg
    rw [hf]
    simp only [Option.getD_some,Zal,Option.isSome_some,Zcn]
    have hu:u.ok=true ∨ True:=.inr trivial
    by_cases he:u=t
    ·subst he
     have hbn:Zpe m a.hd u=some m:=by unfold Zpe; rw [hg]; simp
     rw [hbn] at hcase
     rw [hcase]
     simp only [decide_true,Bool.not_true,Zca]
     refine hput _ fun es' k' hp=>⟨KS _,rfl,?_⟩
     unfold Yoh at hp
     rw [hf] at hp
     obtain ⟨rfl,rfl⟩:=hp
     rw [Nat.zero_add,Zyx hj rfl]
     exact ⟨es,clk,List.getElem?_set_self hil,hk,hvv,hb,hlt⟩
    ·have hu:=(bo.var _ (Znc hg)).2.1
     have hne:¬ u.txt=t.txt:=fun e=>he (Ty.txt_inj' hu ht e)
     have hbn:Zpe m a.hd t=none:=by unfold Zpe; rw [hg]; simp [he]
     rw [hbn] at hcase
     rw [hcase]
     simp only [hne,decide_false,Bool.not_false,Zcn]
     exact ⟨K2,rfl⟩
  ·rw [hv] at hcase
   simp only [Bool.false_eq_true,if_false] at hcase
   simp only [Zav,Zao hia,Zao hit,Nat.zero_add,List.getElem?_cons_succ,List.getElem?_cons_zero,Zae,Zal,true_and]
   refine Zpw (fun hne=>?_) (fun he=>?_)
   ·rw [if_neg (fun e=>hne (by rw [e]))] at hcase
    rw [hcase]
    exact ⟨Zdu.refl _ _,rfl⟩
   ·have he':a.hd=t.hd:=by simpa using he
    rw [if_pos he'] at hcase
    rw [hcase]
    have hlen:=Ydu ha ht he'
    refine Zfg.L11ind _ _ _ _ _ _ _ _ (J:=fun (g:Nat) x54 h'=>x54=(g:Int)∧g≤a.ps.length∧Zdu i h1 h'∧∃ m1,matchL m (a.ps.take g) (t.ps.take g)=some m1∧Ymj h' i m1) (fun g=>a.ps.length - g) ?_ 0 _ _ ⟨rfl,by omega,Zdu.refl _ _,m,by simp [matchL],rm⟩
    rintro g x54 h' ⟨rfl,hg,hK,m1,hm1,rm1⟩ R hR
    unfold Zfg.L11t
    refine Zat (fun hlt=>?_) (fun hge=>?_)
    ·have hga:g < a.ps.length:=by omega
     have hgt:g < t.ps.length:=by omega
     have hit1:h'[it]?=some (.cells Zfi [.str [t.hd],.slice at' t.ps.length ct et,.ptr none] false):=by rw [hK.eq _ (Own.lt hit) (hSi _ sit)]; exact hit
     obtain ⟨ja,oa,rfl,_,hca⟩:=(rowa.keepAt (i:=i) (fun j o h0 e=>hSi j (hSa j o h0 e)) hK).at hga
     obtain ⟨jt,ot,rfl,_,hct⟩:=(rowt.keepAt (i:=i) (fun j o h0 e=>hSi j (hSt j o h0 e)) hK).at hgt
     have hqag:g < qa.length:=by omega
     have hqtg:g < qt.length:=by omega
     rw [List.getElem?_map,List.getElem?_eq_getElem hqag] at hca
     rw [List.getElem?_map,List.getElem?_eq_getElem hqtg] at hct
     simp only [Zav,Int.toNat_natCast,Nat.mul_one,hca,hct,Option.map_some,Zif,Zao hit1,Nat.zero_add,List.getElem?_cons_succ,List.getElem?_cons_zero,Zae]
     have hma:=List.getElem_mem hga
     have hmt:=List.getElem_mem hgt
     have h1:=Ty.size_part hma
     have h2:=Ty.len_part hmt
     have bo1:BOk n m1:=BOk.matchL (fun x hx=>Ty.ok_ps ha x (List.mem_of_mem_take hx)) (fun x hx=>⟨Ty.ok_ps ht x (List.mem_of_mem_take hx),by have:=Ty.len_part (List.mem_of_mem_take hx); omega⟩) bo hm1
     have htk:=Zts a.ps t.ps m g hga hgt
     rw [hm1] at htk
     simp only at htk
     refine ⟨by omega,by omega,(Yht N (by omega) (Ty.ok_ps ha _ hma) (Ty.ok_ps ht _ hmt) (by omega) (by omega) bo1 hSi ((hqa g _ _ (List.getElem?_eq_getElem hqag) (List.getElem?_eq_getElem hga)).keep fun j hj hl=>hK.eq j hl (hSi j hj)) ((hqt g _ _ (List.getElem?_eq_getElem hqtg) (List.getElem?_eq_getElem hgt)).keep fun j hj hl=>hK.eq j hl (hSi j hj)) rm1).mono ?_⟩
     rintro v h3 ⟨K3,hres⟩
     cases hmm:matchT m1 a.ps[g] t.ps[g] with
     | none=>
      rw [hmm] at hres htk
      subst hres
      simp only [Zap,Bool.not_false,Zcn]
      rw [Ztp a.ps t.ps m (g + 1) hlen htk]
      exact ⟨hK.trans K3,rfl⟩
     | some m2=>
      rw [hmm] at hres htk
      obtain ⟨rfl,rm2⟩:=hres
      simp only [Zap,Bool.not_true,Zca]
      rw [Zbl (by omega)]
      exact hR (g + 1) _ _ (by omega) ⟨rfl,by omega,hK.trans K3,m2,htk,rm2⟩
    ·apply Zfg.A11x0i
     have:g=a.ps.length:=by omega
     subst this
     rw [List.take_length,hlen,List.take_length] at hm1
     rw [hm1]
     exact ⟨hK,rfl,rm1⟩
end Go.Sim

set_option linter.unusedVariables false
set_option linter.unusedSimpArgs false
set_option maxRecDepth 20000
namespace Go.Sim
open Go Go.RowKit

theorem Zyj:pg.underlying Zmu=some (.slice Zbj):=by kernel_rfl
theorem Yel:pg.cellsOf Zbj=2:=by kernel_rfl
theorem Yds:pg.okElem Zbj=true:=by kernel_rfl
theorem Ycu:pg.bytesOf Zbj≤127:=Nat.le_of_ble_eq_true (by kernel_rfl)
theorem Vec.fresh {α:Type} {ty:TypeId} {enc:α→List Zau} {b:Nat} {h:Zaa} {a:Pt} {n c:Nat} {l:List α} (v:Vec ty h a n c (Zdn enc l)) (hn:n=l.length) (ha:∀ i,a=some (i,0)→b≤i):Zdh ty enc b h a n l:=by
 refine ⟨hn.symm,?_⟩
 rcases v with ⟨rfl,h0,_⟩ | ⟨i,rfl,hi⟩
 ·exact .inl h0
 ·exact .inr ⟨i,rfl,ha i rfl,hi⟩
theorem Yey (m:Bd):(bdL m).length≤6:=by
 rw [Yhu,List.length_map]; exact Nat.le_trans (List.length_filter_le _ _) (by decide)
theorem Ygc {h:Zaa} {i:Nat} {m:Bd} (rm:Ymj h i m) (bo:BOk 60 m) :
  Zah pg Zno [.map (some i)] h fun v h'=>Zbc h.length h h'∧∃ a n c e,v=.slice a n c e∧n≤c∧Zdh Zbj eP h.length h' a n (bdL m):=by
 have hml:m.length≤6:=by
  have hp:(m.map (·.1)).Perm (Zed.filter fun v=>decide (v∈m.map (·.1))):=by
   rw [List.perm_ext_iff_of_nodup bo.nd (Zob.filter _)]
   intro v
   rw [List.mem_filter]
   constructor
   ·intro hv
    obtain ⟨p,hp,rfl⟩:=List.mem_map.1 hv
    exact ⟨(Znv _).2 (bo.var p hp).1,by simpa using hv⟩
   ·exact fun h=>by simpa using h.2
  have h1:=hp.length_eq
  have h2:=List.length_filter_le (fun v=>decide (v∈m.map (·.1))) Zed
  rw [List.length_map] at h1
  have h3:Zed.length=6:=rfl
  omega
 apply Zic.call
 simp only [Zaw]
 generalize hh0:h ++ [Zcd.cells Zbj [] false]=h0
 have s0:Zbc h.length h h0:=by rw [← hh0]; exact Zam
 have l0:h0.length=h.length + 1:=by rw [← hh0]; simp
 have o0:h0[h.length]?=some (.cells Zbj [] false):=by rw [← hh0]; simp
 refine Ypu.mono ?_
 rintro v h2 ⟨rfl,hh2⟩
 simp only [Yah]
 have s2:Zbc h0.length h0 h2:=by rw [hh2]; exact Zam
 have hc2:h2[h0.length]?=some (.cells Zgz [.map (some i)] false):=by rw [hh2]; simp
 obtain ⟨es,clk,hm,hk,hvv,hb,hlt⟩:=id rm
 have S2:=s0.cat s2
 have hm2:=S2.get hm (Own.lt hm)
 have hel:es.length=m.length:=by have:=congrArg List.length hk; simpa using this
 refine (Zzq hc2 hm2 (vs:=m.map (·.1)) (by rw [hk,List.map_map]; rfl) bo.nd hb hlt (by omega)).mono ?_
 rintro v h3 ⟨us,hp,hsrt,hcase⟩
 have hus:=Yff bo hp hsrt
 have hbd:bdL m=us.map fun v=>([v],((Zff m v).getD default).txt):=by rw [Yhu,hus]
 have hul:us.length≤6:=by rw [hp.length_eq]; simpa using hml
 have hmem:∀ v∈us,∃ t,Zff m v=some t:=fun v hv=>by
  rw [hus,List.mem_filter] at hv; exact Option.isSome_iff_exists.1 hv.2
 have hgen:∃ a c e,v=.slice a us.length c e∧Row h3.length h3 a us.length (us.map fun v=>Zau.str [v])∧Zbc h2.length h2 h3:=by
  rcases hcase with ⟨rfl,rfl,rfl⟩ | ⟨c,rfl,hc,rfl⟩
  ·exact ⟨_,_,_,rfl,Row.nil,Zbc.refl _ _⟩
  ·refine ⟨_,_,_,rfl,⟨by simp,.inr ⟨h2.length,0,Zbe,_,false,rfl,by simp,by simp; rfl,by simp,by rw [List.drop_zero,List.take_of_length_le (by simp)]⟩⟩,Zam⟩
 obtain ⟨a9,c9,e9,rfl,hrow,s3⟩:=hgen
 simp only [Zae]
 have S3:=S2.cat s3
 have hS3le:=S3.le
 have o3:h3[h.length]?=some (.cells Zbj [] false):=s3.get (s2.get o0 (Own.lt o0)) (by have:=Own.lt o0; have:=s2.le; omega)
 refine Zic.L3ind _ _ _ _ _ _ _ (J:=fun (g:Nat) a3 n3 c3 e3 x11 h'=>x11=(g:Int)∧g≤us.length∧Zbc h.length h h'∧(∀ j,j < h3.length→j≠h.length→h'[j]?=h3[j]?)∧h3.length≤h'.length∧n3=g∧n3≤c3∧Vec Zbj h' a3 n3 c3 (Zdn eP ((bdL m).take g))∧(∀ i,a3=some (i,0)→i=h.length ∨ h3.length≤i)) (fun g=>us.length - g) ?_ 0 _ _ _ _ _ _
  ⟨rfl,by omega,S3,fun _ _ _=>rfl,Nat.le_refl _,rfl,Nat.le_refl _,Vec.mk1 (by simpa using o3),fun i hi=>by cases hi; exact .inl rfl⟩
 rintro g a3 n3 c3 e3 x11 h' ⟨rfl,hg,hSm,hK,hle3,rfl,hnc,hv,ha⟩ R hR
 unfold Zic.L3t
 have hbl:(bdL m).length=us.length:=by rw [hbd]; simp
 refine Zat (fun hlt=>?_) (fun hge=>?_)
 ·have hg':n3 < us.length:=by omega
  obtain ⟨j,o,rfl,hj,hc⟩:=hrow.at hg'
  rw [List.getElem?_map,List.getElem?_eq_getElem hg',Option.map_some] at hc
  -- the row of keys has not turned: it lies apart from the row of bindings
  have hjr:j≠h.length:=by
   rcases hcase with ⟨h0,_⟩ | ⟨c,hsl,_,_⟩
   ·rw [h0] at hg'; simp at hg'
   ·simp only [Zau.slice.injEq,Option.some.injEq,Prod.mk.injEq] at hsl
    have:=s2.le; omega
  have hc':Zag h' (.ptr (some (j,o + n3)))=some (.str [us[n3]]):=by
   rw [← hc]; simp only [Zag,hK j hj hjr]
  obtain ⟨t,ht⟩:=hmem _ (List.getElem_mem hg')
  have hm':=hSm.get hm (Own.lt hm)
  obtain ⟨jj,bb,hf,_⟩:=Zst (k:=0) hk hvv ht
  simp only [Zav,Int.toNat_natCast,Nat.mul_one,hc',Zal,Zhw,hm',Zzo,hf,Option.getD_some,Zaw]
  have htk:(bdL m).take (n3 + 1)=(bdL m).take n3 ++ [([us[n3]],t.txt)]:=by
   rw [List.take_succ_eq_append_getElem (by omega)]
   congr 2
   have:(bdL m)[n3]?=some ([us[n3]],t.txt):=by
    rw [hbd,List.getElem?_map,List.getElem?_eq_getElem hg',Option.map_some,ht,Option.getD_some]
   exact (List.getElem?_eq_some_iff.1 this).2
  refine ⟨by omega,?_⟩
  refine hv.pushN Zyj Yel Yds Ycu (by rw [Zay Zeb,List.length_take]; omega) rfl (by omega) rfl (by omega) (fun h6 hl6 hi6 hk6=>?_)
  simp only [Zae]
  rw [Zbl (by omega)]
  have hle:=hSm.le
  have hb9:∀ i,a3=some (i,0)→h.length≤i:=fun i hi=>by rcases ha i hi with hh | hh <;> omega
  refine hR (n3 + 1) _ _ _ _ _ _ (by omega) ⟨rfl,by omega,⟨by omega,fun j hj=>?_⟩,fun j hj hne=>?_,by omega,rfl,Nat.le_refl _,Vec.mk1 ?_,fun i hi=>by cases hi; right; omega⟩
  ·rw [hk6 j (by omega) fun i hi=>by have:=hb9 i hi; omega]; exact hSm.eq j hj
  ·rw [hk6 j (by omega) fun i hi=>by rcases ha i hi with hh | hh <;> omega]; exact hK j hj hne
  ·rw [hi6,htk,Zig]; rfl
 ·apply Zic.A3x0i
  have:n3=us.length:=by omega
  subst this
  rw [show (bdL m).take us.length=bdL m from List.take_of_length_le (by omega)] at hv
  exact ⟨hSm,_,_,_,_,rfl,hnc,hv.fresh (b:=h.length) hbl.symm fun i hi=>by rcases ha i hi with hh | hh <;> omega⟩
def Yia (p s:List Nat) (h:Zaa) (v:Zau) (h':Zaa):Prop:=Zbc h.length h h'∧∃ a n c e,v=.tup [.slice a n c e,.bool (Zlh p s)]∧n≤c∧Zdh Zbj eP h.length h' a n (Zjh p s)
theorem Zsd (p s:List Nat) (h:Zaa):Zah pg Zhd [.str p,.str s] h (Yia p s h):=by
 apply Zmp.call
 refine (Zxk p h).mono ?_
 rintro v h1 ⟨s1,q1,rfl,r1⟩
 simp only [Zif]
 refine (Zxk s h1).mono ?_
 rintro v h2 ⟨s2,q2,rfl,r2⟩
 simp only [Zif,Zaw]
 have S2:=s1.cat s2
 have s3:Zbc h2.length h2 (h2 ++ [.map [] 0]):=Zam
 have S3:=S2.cat s3
 have no:Zho p s=none→Yia p s h (.tup [.slice none 0 0 true,.bool false]) (h2 ++ [.map [] 0]):=fun hn=>
  ⟨S3,none,0,0,true,by unfold Zlh; rw [hn]; rfl,Nat.le_refl _,by unfold Zjh; rw [hn]; exact ⟨rfl,.inl rfl⟩⟩
 cases hp:Zhk p with
 | none=>
  rw [hp] at r1; simp only at r1; subst r1
  simp only [Option.isNone_none,Zcn]
  exact no (by unfold Zho; rw [hp])
 | some a=>
  rw [hp] at r1; simp only at r1
  obtain ⟨i1,rfl,b1,l1⟩:=r1.lt
  simp only [Option.isNone_some,Zca]
  cases ht:Zhk s with
  | none=>
   rw [ht] at r2; simp only at r2; subst r2
   simp only [Option.isNone_none,Zcn]
   exact no (by unfold Zho; rw [hp,ht])
  | some t=>
   rw [ht] at r2; simp only at r2
   obtain ⟨i2,rfl,b2,l2⟩:=r2.lt
   simp only [Option.isNone_some,Zca]
   obtain ⟨ha1,ha2,ha3⟩:=Zdt.1 hp
   obtain ⟨ht1,ht2,ht3⟩:=Zdt.1 ht
   have hms:Zho p s=matchT [] a t:=by unfold Zho; rw [hp,ht]
   have hl1:=s1.le; have hl2:=s2.le
   have R1:=((r1.same s2).same s3).mono (S':=fun j=>j≠h2.length) (fun j hj=>by have:=hj.2; omega)
   have R2:=(r2.same s3).mono (S':=fun j=>j≠h2.length) (fun j hj=>by have:=hj.2; omega)
   have rm:Ymj (h2 ++ [.map [] 0]) h2.length []:=⟨[],0,by simp,rfl,rfl,by simp,by simp⟩
   refine (Yht _ (Nat.le_refl _) ha1 ht1 (by rw [← ht2]; omega) (n:=60) (by rw [← ht2]; exact ht3) BOk.nil (fun j hj=>hj) R1 R2 rm).mono ?_
   rintro v h4 ⟨K4,hres⟩
   have S4:Zbc h.length h h4:=⟨by have:=K4.le; have:=S3.le; omega,fun j hj=>by rw [K4.eq j (by have:=S3.le; omega) (by have:=S2.le; omega)]; exact S3.eq j hj⟩
   cases hm:matchT [] a t with
   | none=>
    rw [hm] at hres hms
    subst hres
    simp only [Zap,Bool.not_false,Zcn]
    exact ⟨S4,none,0,0,true,by unfold Zlh; rw [hms]; rfl,Nat.le_refl _,by unfold Zjh; rw [hms]; exact ⟨rfl,.inl rfl⟩⟩
   | some m=>
    rw [hm] at hres hms
    obtain ⟨rfl,rm4⟩:=hres
    simp only [Zap,Bool.not_true,Zca]
    apply Zmp.J4i
    refine (Ygc rm4 (Zua hms)).mono ?_
    rintro v h5 ⟨s5,a5,n5,c5,e5,rfl,hc5,f5⟩
    simp only [Zae]
    refine ⟨S4.cat s5,a5,n5,c5,e5,by unfold Zlh; rw [hms]; rfl,hc5,?_⟩
    unfold Zjh; rw [hms]
    exact ⟨f5.1,f5.2.imp id fun ⟨i,ha,hb,hi⟩=>⟨i,ha,by have:=S4.le; omega,hi⟩⟩
end Go.Sim

set_option linter.unusedVariables false
set_option linter.unusedSimpArgs false
set_option maxRecDepth 20000
namespace Go.Sim
open Go Go.RowKit

def Yil:List Nat:=[88,89,90,120,121,122,49,50,51,52,53,54]
theorem Zzh {v:Nat} (hv:Zcs v=true):∃ k:Nat,k < 6∧Zed[k]?=some v∧Zvf Yil v=(k:Int):=by
 have:=(Znv v).2 hv
 simp only [Zed,List.mem_cons,List.not_mem_nil,or_false] at this
 rcases this with rfl | rfl | rfl | rfl | rfl | rfl
 ·exact ⟨0,by omega,rfl,rfl⟩
 ·exact ⟨1,by omega,rfl,rfl⟩
 ·exact ⟨2,by omega,rfl,rfl⟩
 ·exact ⟨3,by omega,rfl,rfl⟩
 ·exact ⟨4,by omega,rfl,rfl⟩
 ·exact ⟨5,by omega,rfl,rfl⟩
theorem Zuf {t:Ty} (h:t.ok=true):t.hd∈[105,98,117,108,109,112,120,121,122,88,89,90]:=by
 have:=Ty.ok_ar h
 unfold arN Zlb Zcs at this
 simp only [Bool.or_eq_true,beq_iff_eq] at this
 simp only [List.mem_cons,List.not_mem_nil,or_false]
 split at this
 ·omega
 ·split at this
  ·omega
  ·split at this
   ·omega
   ·omega
theorem Yda {t:Ty} (h:t.ok=true) (hv:Zcs t.hd=false):Zvf Yil t.hd=-1:=by
 apply Zya
 have:=Zuf h
 simp only [List.mem_cons,List.not_mem_nil,or_false] at this
 rcases this with e | e | e | e | e | e | e | e | e | e | e | e <;> rw [e] at hv ⊢ <;> first | (exact absurd hv (by decide)) | decide
theorem Zvw {h:Zaa} (c:Nat):Zah pg Zjd [.int .u8 (c:Int)] h fun v h'=>v=.int .i64 (Zvf Yil c)∧h'=h:=by
 apply Zta.call
 refine (Ycb Yil c (by decide)).mono ?_
 rintro v h1 ⟨rfl,rfl⟩
 simp only [Zar]
 exact ⟨by trivial,by trivial⟩
def eR (x:Zau × Zau):List Zau:=[x.1,x.2]
theorem Zrn (x:Zau × Zau):(eR x).length=2:=rfl
theorem Yba {α:Type} {enc:α→List Zau} {w:Nat} (hw:∀ x,(enc x).length=w):∀ {l:List α} {k:Nat} {x:α},k < l.length→putRow (Zdn enc l) (k * w) (enc x)=Zdn enc (l.set k x)
 | [],k,x,h=>by simp at h
 | y :: l,0,x,_=>by
  simp only [Nat.zero_mul,Zmc,List.set_cons_zero,putRow,List.take_zero,List.nil_append,Nat.zero_add,hw]
  rw [← hw y,List.drop_left]
 | y :: l,k + 1,x,h=>by
  have ih:=Yba hw (l:=l) (k:=k) (x:=x) (by simpa using h)
  unfold putRow at ih ⊢
  simp only [Zmc,List.set_cons_succ]
  rw [← ih,Nat.succ_mul,Nat.add_comm (k * w) w,← hw y,List.take_length_add_append,Nat.add_assoc,List.drop_length_add_append]; simp only [List.append_assoc]
def Ztt (S:Nat→Prop) (h:Zaa) (i:Nat) (m:Bd):Prop:=∃ rows:List (Zau × Zau),rows.length=12∧h[i]?=some (.cells Zdf (Zdn eR rows) false) ∧
 ∀ (k:Nat) (x:Zau × Zau),rows[k]?=some x→match (Zed[k]?).bind (Zff m) with | some t=>Zhq S h t (eR x) | none=>x=(.int .u8 0,.slice none 0 0 true)
theorem Ztt.keep {S:Nat→Prop} {h h':Zaa} {i:Nat} {m:Bd} (r:Ztt S h i m) (hi:h'[i]?=h[i]?) (hh:∀ j,S j→j < h.length→h'[j]?=h[j]?):Ztt S h' i m:=by
 obtain ⟨rows,h1,h2,h3⟩:=r
 refine ⟨rows,h1,by rw [hi]; exact h2,fun k x hx=>?_⟩
 have:=h3 k x hx
 split at this
 ·exact this.keep hh
 ·exact this
theorem Ztt.same {S:Nat→Prop} {h h':Zaa} {i:Nat} {m:Bd} (r:Ztt S h i m) (s:Zbc h.length h h'):Ztt S h' i m:=by
 have hl:i < h.length:=by obtain ⟨_,_,h2,_⟩:=r; exact Own.lt h2
 exact r.keep (s.eq i hl) fun j _ hj=>s.eq j hj
theorem Ztt.lt {S:Nat→Prop} {h:Zaa} {i:Nat} {m:Bd} (r:Ztt S h i m):i < h.length:=by obtain ⟨_,_,h2,_⟩:=r; exact Own.lt h2
theorem Ztt.nil {S:Nat→Prop} {h:Zaa} {i:Nat} (hi:h[i]?=some (.cells Zdf (Zdn eR (List.replicate 12 (.int .u8 0,.slice none 0 0 true))) false)):Ztt S h i []:=by
 refine ⟨_,by simp,hi,fun k x hx=>?_⟩
 have:(Zed[k]?).bind (Zff [])=none:=by cases Zed[k]? <;> rfl
 rw [this]
 rw [List.getElem?_replicate] at hx
 split at hx
 ·cases hx; rfl
 ·cases hx
theorem Ztt.get {S:Nat→Prop} {h:Zaa} {i:Nat} {m:Bd} (r:Ztt S h i m) {k:Nat} (hk:k < 12):∃ x:Zau × Zau,Zag h (.ptr (some (i,0 + k * 2 + 0)))=some x.1∧Zbi h (.ptr (some (i,0 + k * 2))) 2=some [x.1,x.2] ∧
  match (Zed[k]?).bind (Zff m) with | some t=>Zhq S h t [x.1,x.2] | none=>x=(.int .u8 0,.slice none 0 0 true):=by
 obtain ⟨rows,h1,h2,h3⟩:=r
 have hrow:Row h.length h (some (i,0)) (12 * 2) (Zdn eR rows):=⟨by rw [Zay Zrn,h1],.inr ⟨i,0,_,_,_,rfl,Own.lt h2,h2,by rw [Zay Zrn,h1]; simp,by rw [List.drop_zero,List.take_of_length_le (by rw [Zay Zrn,h1]; simp)]⟩⟩
 obtain ⟨i',o',hk',he,_,hr,hc⟩:=Row.el Zrn hrow h1 hk (by omega)
 cases he
 exact ⟨rows[k],by have:=hc 0 (by omega); simpa [eR] using this,hr,h3 k _ (List.getElem?_eq_getElem hk')⟩
def Yoi (S:Nat→Prop) (h:Zaa) (i:Nat) (m:Bd):Prop:=∃ rows:List (Zau × Zau),rows.length=12∧h[i]?=some (.cells Zdf (Zdn eR rows) false) ∧
 ∀ (k:Nat) (x:Zau × Zau),k < 6→rows[k]?=some x→match (Zed[k]?).bind (Zff m) with | some t=>Zhq S h t (eR x) | none=>x=(.int .u8 0,.slice none 0 0 true)
theorem Ztt.w {S:Nat→Prop} {h:Zaa} {i:Nat} {m:Bd} (r:Ztt S h i m):Yoi S h i m:=by
 obtain ⟨rows,h1,h2,h3⟩:=r
 exact ⟨rows,h1,h2,fun k x _ hx=>h3 k x hx⟩
theorem Yoi.lt {S:Nat→Prop} {h:Zaa} {i:Nat} {m:Bd} (r:Yoi S h i m):i < h.length:=by obtain ⟨_,_,h2,_⟩:=r; exact Own.lt h2
theorem Yoi.same {S:Nat→Prop} {h h':Zaa} {i:Nat} {m:Bd} (r:Yoi S h i m) (s:Zbc h.length h h'):Yoi S h' i m:=by
 obtain ⟨rows,h1,h2,h3⟩:=r
 refine ⟨rows,h1,by rw [s.eq i (Own.lt h2)]; exact h2,fun k x hk hx=>?_⟩
 have:=h3 k x hk hx
 split at this
 ·exact this.keep fun j _ hj=>s.eq j hj
 ·exact this
theorem Yoi.get {S:Nat→Prop} {h:Zaa} {i:Nat} {m:Bd} (r:Yoi S h i m) {k:Nat} (hk:k < 6):∃ x:Zau × Zau,Zag h (.ptr (some (i,0 + k * 2 + 0)))=some x.1∧Zbi h (.ptr (some (i,0 + k * 2))) 2=some [x.1,x.2] ∧
  match (Zed[k]?).bind (Zff m) with | some t=>Zhq S h t [x.1,x.2] | none=>x=(.int .u8 0,.slice none 0 0 true):=by
 obtain ⟨rows,h1,h2,h3⟩:=r
 have hrow:Row h.length h (some (i,0)) (12 * 2) (Zdn eR rows):=⟨by rw [Zay Zrn,h1],.inr ⟨i,0,_,_,_,rfl,Own.lt h2,h2,by rw [Zay Zrn,h1]; simp,by rw [List.drop_zero,List.take_of_length_le (by rw [Zay Zrn,h1]; simp)]⟩⟩
 obtain ⟨i',o',hk',he,_,hr,hc⟩:=Row.el Zrn hrow h1 (show k < 12 by omega) (by omega)
 cases he
 exact ⟨rows[k],by have:=hc 0 (by omega); simpa [eR] using this,hr,h3 k _ hk (List.getElem?_eq_getElem hk')⟩
theorem Ztt.put {S:Nat→Prop} {h:Zaa} {i:Nat} {m:Bd} (r:Ztt S h i m) (hSi:∀ j,S j→j≠i) {k v:Nat} (hk:Zed[k]?=some v) (hg:Zff m v=none) {t:Ty} {x y:Zau} (ht:Zhq S h t [x,y]) :
  ∃ h',Zbb h (.ptr (some (i,0 + k * 2))) [x,y]=some h'∧Zdu i h h'∧Ztt S h' i (m ++ [(v,t)]):=by
 obtain ⟨rows,h1,h2,h3⟩:=r
 have hk6:k < 6:=(List.getElem?_eq_some_iff.1 hk).1
 have hput:putRow (Zdn eR rows) (k * 2) (eR (x,y))=Zdn eR (rows.set k (x,y)):=Yba Zrn (by omega)
 refine ⟨h.set i (.cells Zdf (Zdn eR (rows.set k (x,y))) false),?_,Zdu.set _ _ _,?_⟩
 ·rw [Nat.zero_add,Zbd h2 (by rw [Zay Zrn,h1]; simp; omega),← hput]; rfl
 ·have hkeep:∀ j,S j→j < h.length→(h.set i (.cells Zdf (Zdn eR (rows.set k (x,y))) false))[j]?=h[j]?:=fun j hj _=>Zbs (fun e=>hSi j hj e.symm)
  refine ⟨_,by simp [h1],Zbz h2,fun k' x' hx'=>?_⟩
  by_cases e:k=k'
  ·subst e
   rw [List.getElem?_set_self (by omega)] at hx'
   cases hx'
   rw [hk]
   simp only [Option.bind_some,Zsu,hg,if_true]
   exact ht.keep hkeep
  ·rw [List.getElem?_set_ne e] at hx'
   have:=h3 k' x' hx'
   have hb:(Zed[k']?).bind (Zff (m ++ [(v,t)]))=(Zed[k']?).bind (Zff m):=by
    cases hv':Zed[k']? with
    | none=>rfl
    | some w=>
     simp only [Option.bind_some,Zsu]
     cases hb:Zff m w with
     | some u=>rfl
     | none=>
      have:¬ v=w:=fun e'=>by
       subst e'
       have h5:=List.getElem?_eq_some_iff.1 hk
       have h6:=List.getElem?_eq_some_iff.1 hv'
       exact e ((List.getElem_inj (h₀:=h5.1) (h₁:=h6.1) Zob).1 (h5.2.trans h6.2.symm))
      simp [this]
   rw [hb]
   split at this
   ·exact this.keep hkeep
   ·exact this
def Yui (S:Nat→Prop) (h:Zaa) (i:Nat) (r:Option Bd) (v:Zau) (h':Zaa):Prop:=Zdu i h h'∧(match r with | some m'=>v=.bool true∧Ztt S h' i m' | none=>v=.bool false)
theorem Zdu.of_same {i:Nat} {h h':Zaa} (s:Zbc h.length h h'):Zdu i h h':=⟨s.le,fun j hj _=>s.eq j hj⟩
theorem Yao:∀ (N:Nat) {a t:Ty} {S:Nat→Prop} {h:Zaa} {va vt:List Zau} {i n:Nat} {m:Bd},a.size≤N→a.ok=true→t.ok=true→n≤1048576→t.txt.length≤n→BOk n m→(∀ j,S j→j≠i)→Zhq S h a va→Zhq S h t vt→Ztt S h i m →
  Zah pg Zlv [.ptr (some (i,0)),.agg va,.agg vt] h (Yui S h i (matchT m a t))
 | 0,a,t,S,h,va,vt,i,n,m,hN,_,_,_,_,_,_,_,_,_=>by have:=a.size_ps; omega
 | N + 1,a,t,S,h,va,vt,i,n,m,hN,ha,ht,hB,hn,bo,hSi,ra,rt,rm=>by
  have hcase:=Ydm (m:=m) ha ht
  obtain ⟨aa,ca,ea,vas,rfl,rowa,hSa,hval,hva⟩:=id ra.parts
  obtain ⟨at',ct,et,vts,rfl,rowt,hSt,hvtl,hvt⟩:=id rt.parts
  have hps2:a.ps.length≤2:=by cases a <;> simp [Ty.ps]
  have hil:=rm.lt
  apply Zjk.call
  simp only [Zaw]
  generalize hh0:h ++ [Zcd.cells Zai [.int .u8 (a.hd:Int),.slice aa a.ps.length ca ea] false]=h0
  generalize hh1:h0 ++ [Zcd.cells Zai [.int .u8 (t.hd:Int),.slice at' t.ps.length ct et] false]=h1
  have s0:Zbc h.length h h0:=by rw [← hh0]; exact Zam
  have s1:Zbc h0.length h0 h1:=by rw [← hh1]; exact Zam
  have o0:h0[h.length]?=some (.cells Zai [.int .u8 (a.hd:Int),.slice aa a.ps.length ca ea] false):=by rw [← hh0]; simp
  have oa:=s1.get o0 (Own.lt o0)
  have ot:h1[h0.length]?=some (.cells Zai [.int .u8 (t.hd:Int),.slice at' t.ps.length ct et] false):=by rw [← hh1]; simp
  have S1:=s0.cat s1
  have l0:h0.length=h.length + 1:=by rw [← hh0]; simp
  have l1:h1.length=h.length + 2:=by rw [← hh1]; simp [l0]
  simp only [Zao oa,Nat.zero_add,List.getElem?_cons_succ,List.getElem?_cons_zero,Zar]
  refine (Zvw a.hd).mono ?_
  rintro v h2 ⟨rfl,rfl⟩
  have rm1:=rm.same S1
  have K1:Zdu i h h2:=Zdu.of_same S1
  simp only [Zar,Zav]
  cases hv:Zcs a.hd with
  | true=>
   rw [hv] at hcase
   simp only [if_true] at hcase
   obtain ⟨k,hk6,hkv,hix⟩:=Zzh hv
   rw [hix]
   obtain ⟨x,hx1,hx2,hx3⟩:=rm1.get (k:=k) (by omega)
   rw [hkv,Option.bind_some] at hx3
   have hge:decide ((k:Int) ≥ 0)=true:=by simp
   simp only [hge,Zcn,Int.toNat_natCast,hx1,hx2,Zeg ot (show 0 + 2≤_ by simp),List.drop_zero,List.take_succ_cons,List.take_zero,Zaq,Zaf,Zan,Zar,Zae]
   refine ⟨by omega,?_⟩
   cases hg:Zff m a.hd with
   | none=>
    rw [hg] at hx3
    simp only at hx3
    subst hx3
    have hbn:Zpe m a.hd t=some (m ++ [(a.hd,t)]):=by unfold Zpe; rw [hg]
    rw [hcase,hbn]
    simp only [Zar,show ((0:Int) == 0)=true from rfl,Zcn]
    obtain ⟨h',hst,hK,hr'⟩:=rm1.put hSi hkv hg (rt.same S1)
    rw [hst]
    simp only [Zas]
    exact ⟨by omega,K1.trans hK,rfl,hr'⟩
   | some u=>
    rw [hg] at hx3
    simp only at hx3
    have hu:=bo.var _ (Znc hg)
    obtain ⟨ux,uc,ue,hux⟩:=hx3.shape
    simp only [List.cons.injEq,and_true] at hux
    obtain ⟨hux1,hux2⟩:=hux
    rw [hux1,hux2] at hx2 hx3
    rw [hux1,hux2]
    simp only [Zar,Zae]
    have hu0:(((u.hd:Nat):Int) == 0)=false:=by
     have:=Zuf hu.2.1
     have hne:u.hd≠0:=fun e=>by rw [e] at this; simp at this
     simp; omega
    simp only [hu0,Zca]
    have rt1:=rt.same S1
    refine ⟨by omega,(Zpg _ (Nat.le_refl _) (by omega) hu.2.1 hx3).mono ?_⟩
    rintro v h3 ⟨rfl,s3⟩
    have ot3:=s3.get ot (Own.lt ot)
    have rt3:=rt1.same s3
    simp only [Zal,Zeg ot3 (show 0 + 2≤_ by simp),List.drop_zero,List.take_succ_cons,List.take_zero,true_and]
    refine (Zpg _ (Nat.le_refl _) (by omega) ht rt3).mono ?_
    rintro v h4 ⟨rfl,s4⟩
    simp only [Zal]
    have hri:∀ hx,Zbc h2.length h2 hx→Zbi hx (.ptr (some (i,0 + k * 2))) 2=Zbi h2 (.ptr (some (i,0 + k * 2))) 2:=fun hx sx=>by
     simp only [Zbi,sx.eq i (by omega)]
    rw [hri _ (s3.cat s4),hri _ s3]
    refine ⟨by trivial,?_⟩
    have K4:Zdu i h h4:=K1.trans (Zdu.of_same (s3.cat s4))
    by_cases he:u=t
    ·subst he
     have hbn:Zpe m a.hd u=some m:=by unfold Zpe; rw [hg]; simp
     rw [hcase,hbn]
     exact ⟨K4,by simp,(rm1.same (s3.cat s4))⟩
    ·have hne:¬ u.txt=t.txt:=fun e=>he (Ty.txt_inj' hu.2.1 ht e)
     have hbn:Zpe m a.hd t=none:=by unfold Zpe; rw [hg]; simp [he]
     rw [hcase,hbn]
     exact ⟨K4,by simp [hne]⟩
  | false=>
   rw [hv] at hcase
   simp only [Bool.false_eq_true,if_false] at hcase
   rw [Yda ha hv]
   have hge:decide ((-1:Int) ≥ 0)=false:=by decide
   simp only [hge,Zca,Zao ot,Zao oa,List.getElem?_cons_succ,List.getElem?_cons_zero,Zar,Zae]
   refine Zgo (fun hne=>?_) (fun he=>?_)
   ·rw [if_neg (fun e=>hne (by rw [e]))] at hcase
    rw [hcase]
    exact ⟨K1,rfl⟩
   ·have he':a.hd=t.hd:=by omega
    rw [if_pos he'] at hcase
    rw [hcase]
    have hlen:=Ydu ha ht he'
    refine Zjk.L10ind _ _ _ _ _ _ _ (J:=fun (g:Nat) x43 h'=>x43=(g:Int)∧g≤a.ps.length∧Zdu i h2 h'∧∃ m1,matchL m (a.ps.take g) (t.ps.take g)=some m1∧Ztt S h' i m1) (fun g=>a.ps.length - g) ?_ 0 _ _ ⟨rfl,by omega,Zdu.refl _ _,m,by simp [matchL],rm1⟩
    rintro g x43 h' ⟨rfl,hg,hK,m1,hm1,rm1⟩ R hR
    unfold Zjk.L10t
    have KK:=K1.trans hK
    refine Zat (fun hlt=>?_) (fun hge=>?_)
    ·have hga:g < a.ps.length:=by omega
     have hgt:g < t.ps.length:=by omega
     have oa1:h'[h.length]?=some (.cells Zai [.int .u8 (a.hd:Int),.slice aa a.ps.length ca ea] false):=by rw [hK.eq _ (Own.lt oa) (by omega)]; exact oa
     have ot1:h'[h0.length]?=some (.cells Zai [.int .u8 (t.hd:Int),.slice at' t.ps.length ct et] false):=by rw [hK.eq _ (Own.lt ot) (by omega)]; exact ot
     obtain ⟨ja,ofa,a3,c3,e3,rfl,hra,hka⟩:=Zhq.get (rowa.keepAt (i:=i) (fun j o h0 e=>hSi j (hSa j o (by omega) e)) KK) hval (fun k w x h1 h2=>(hva k w x h1 h2).keep fun j hj hl=>KK.eq j hl (hSi j hj)) hga
     obtain ⟨jt,oft,a4,c4,e4,rfl,hrt,hkt⟩:=Zhq.get (rowt.keepAt (i:=i) (fun j o h0 e=>hSi j (hSt j o (by omega) e)) KK) hvtl (fun k w x h1 h2=>(hvt k w x h1 h2).keep fun j hj hl=>KK.eq j hl (hSi j hj)) hgt
     simp only [Zav,Int.toNat_natCast,Zao oa1,Zao ot1,hra,hrt,Nat.zero_add,List.getElem?_cons_succ,List.getElem?_cons_zero,Zae,Zaq,Zaf,Zan,Zar,true_and]
     have hma:=List.getElem_mem hga
     have hmt:=List.getElem_mem hgt
     have h1:=Ty.size_part hma
     have h2:=Ty.len_part hmt
     have bo1:BOk n m1:=BOk.matchL (fun x hx=>Ty.ok_ps ha x (List.mem_of_mem_take hx)) (fun x hx=>⟨Ty.ok_ps ht x (List.mem_of_mem_take hx),by have:=Ty.len_part (List.mem_of_mem_take hx); omega⟩) bo hm1
     have htk:=Zts a.ps t.ps m g hga hgt
     rw [hm1] at htk
     simp only at htk
     refine ⟨by omega,by omega,(Yao N (by omega) (Ty.ok_ps ha _ hma) (Ty.ok_ps ht _ hmt) hB (by omega) bo1 hSi hka hkt rm1).mono ?_⟩
     rintro v h3 ⟨K3,hres⟩
     have oa3:h3[h.length]?=some (.cells Zai [.int .u8 (a.hd:Int),.slice (some (ja,ofa)) a.ps.length ca ea] false):=by rw [K3.eq _ (Own.lt oa1) (by omega)]; exact oa1
     cases hmm:matchT m1 a.ps[g] t.ps[g] with
     | none=>
      rw [hmm] at hres htk
      subst hres
      simp only [Zap,Bool.not_false,Zcn,Zao oa3,List.getElem?_cons_succ,List.getElem?_cons_zero,true_and]
      rw [Ztp a.ps t.ps m (g + 1) hlen htk]
      exact ⟨KK.trans K3,rfl⟩
     | some m2=>
      rw [hmm] at hres htk
      obtain ⟨rfl,rm2⟩:=hres
      simp only [Zap,Bool.not_true,Zca,Zao oa3,List.getElem?_cons_succ,List.getElem?_cons_zero,true_and]
      rw [Zbl (by omega)]
      exact hR (g + 1) _ _ (by omega) ⟨rfl,by omega,hK.trans K3,m2,htk,rm2⟩
    ·apply Zjk.A10x0i
     have:g=a.ps.length:=by omega
     subst this
     rw [List.take_length,hlen,List.take_length] at hm1
     rw [hm1]
     exact ⟨KK,rfl,rm1⟩
end Go.Sim

set_option linter.unusedVariables false
set_option linter.unusedSimpArgs false
set_option maxRecDepth 20000
namespace Go.Sim
open Go Go.RowKit

theorem Zqf:∀ (N:Nat) {S:Nat→Prop} {h:Zaa} {t:Ty} {v:List Zau},t.size≤N→t.txt.length≤1048576→Zhq S h t v→Zah pg Zgn [.agg v] h fun x h'=>x=.int .i64 (t.txt.length:Nat)∧Zbc h.length h h'
 | 0,S,h,t,v,hN,_,_=>by have:=t.size_ps; omega
 | N + 1,S,h,t,v,hN,hB,r=>by
  obtain ⟨a,c,e,vs,rfl,hrow,hS,hvl,hp⟩:=r.parts
  have hps2:t.ps.length≤2:=by cases t <;> simp [Ty.ps]
  have htx:=t.txt_mids
  have hln:=congrArg List.length htx
  rw [List.length_append,List.length_cons] at hln
  apply Zfz.call
  simp only [Zaw,Zez,Nat.zero_add,List.getElem?_cons_succ,List.getElem?_cons_zero,Zae]
  generalize hh0:h ++ [Zcd.cells Zai [.int .u8 (t.hd:Int),.slice a t.ps.length c e] false]=h0
  have s0:Zbc h.length h h0:=by rw [← hh0]; exact Zam
  have o0:h0[h.length]?=some (.cells Zai [.int .u8 (t.hd:Int),.slice a t.ps.length c e] false):=by rw [← hh0]; simp
  refine Zfz.L3ind _ _ _ _ _ _ _ _ (J:=fun (g:Nat) x3 x9 h'=>x9=(g:Int)∧g≤t.ps.length∧Zbc h.length h h'∧Zbc h0.length h0 h'∧x3=((1 + (Zpp 0 (t.ps.take g)).length:Nat):Int)) (fun g=>t.ps.length - g) ?_ 0 _ _ _ ⟨rfl,by omega,s0,Zbc.refl _ _,by simp [Zpp]⟩
  rintro g x3 x9 h' ⟨rfl,hg,hSm,hS1,rfl⟩ R hR
  unfold Zfz.L3t
  have o2:=hS1.get o0 (Own.lt o0)
  refine Zat (fun hlt=>?_) (fun hge=>?_)
  ·have hg':g < t.ps.length:=by omega
   obtain ⟨i,o,a2,c2,e2,rfl,hr,hk⟩:=Zhq.get (hrow.same' hSm) hvl (fun k w x h1 h2=>(hp k w x h1 h2).same hSm) hg'
   simp only [Zav,Int.toNat_natCast,hr,Zaq,Zaf,Zan,Zar,Zae,Zaw]
   rw [Zfk]
   simp only [Zas]
   rw [Ypr]
   simp only [Zaq,Zaf,Zan,Zar,Zae]
   have hm:=List.getElem_mem hg'
   have h1:=Ty.size_part hm
   have h2:=Ty.len_part hm
   have hmt:=Zvz t.ps 0 g hg'
   have hml:(Zpp 0 (t.ps.take (g + 1))).length≤(Zpp 0 t.ps).length:=Zyk _ _ _
   have hmtl:=congrArg List.length hmt
   simp only [List.length_append,List.length_cons,Nat.zero_add] at hmtl
   have s2:Zbc h'.length h' (h' ++ [.cells Zai [.int .u8 (t.ps[g].hd:Int),.slice a2 t.ps[g].ps.length c2 e2] false]):=Zam
   refine ⟨by omega,(Zqf N (by omega) (by omega) (hk.same s2)).mono ?_⟩
   rintro x h3 ⟨rfl,s3⟩
   simp only [Zar]
   rw [Zbl (by omega),Zbl (by omega),IntWalk.i64_in _ (by omega)]
   exact hR (g + 1) _ _ _ (by omega) ⟨rfl,by omega,(hSm.cat s2).cat s3,(hS1.cat s2).cat s3,by omega⟩
  ·apply Zfz.A3x0i
   have:g=t.ps.length:=by omega
   subst this
   simp only [Zao o2,Nat.zero_add,List.getElem?_cons_succ,List.getElem?_cons_zero,Zae]
   rw [List.take_length]
   refine Zat (fun hpos=>?_) (fun hneg=>?_)
   ·have hne:t.ps≠[]:=fun e=>by rw [e] at hpos; simp at hpos
    rw [if_neg hne] at hln
    apply Zfz.J9i
    simp only [List.length_cons,List.length_nil] at hln
    rw [Zbl (by omega)]
    exact ⟨by congr 1; omega,hSm⟩
   ·have hne:t.ps=[]:=List.eq_nil_of_length_eq_zero (by omega)
    rw [if_pos hne] at hln
    simp only [List.length_nil] at hln
    apply Zfz.J9i
    exact ⟨by congr 1; omega,hSm⟩
def Yes (m:Bd) (g:Nat):List Nd:=(Zed.take g).filterMap fun v=>(Zff m v).map fun t=>([v],t.txt)
theorem Ylt (m:Bd) (g:Nat):Yes m (g + 1)=Yes m g ++ (match Zed[g]? with | some v=>(match Zff m v with | some t=>[([v],t.txt)] | none=>[]) | none=>[]):=by
 unfold Yes
 rw [List.take_succ,List.filterMap_append]
 cases Zed[g]? with
 | none=>simp
 | some v=>cases hb:Zff m v <;> simp [hb]
theorem Ypi (m:Bd) (g:Nat):(Yes m g).length≤6:=by
 unfold Yes
 refine Nat.le_trans (List.length_filterMap_le _ _) ?_
 rw [List.length_take]; exact Nat.le_trans (Nat.min_le_right _ _) (by decide)
theorem Ypa {g v:Nat} (hv:Zed[g]?=some v):sub [88,89,90,120,121,122,49,50,51,52,53,54] (g:Int) ((g:Int) + 1)=[v]:=by
 have hg:g < 6:=(List.getElem?_eq_some_iff.1 hv).1
 match g,hg with
 | 0,_ | 1,_ | 2,_ | 3,_ | 4,_ | 5,_=>simp [Zed] at hv; subst hv; rfl
theorem Ynt {S:Nat→Prop} {h:Zaa} {i:Nat} {m:Bd} (rm:Ztt S h i m) (bo:BOk 60 m) :
  Zah pg Zqw [.ptr (some (i,0))] h fun v h'=>Zbc h.length h h'∧∃ a n c e,v=.tup [.slice a n c e,.bool true]∧n≤c∧Zdh Zbj eP h.length h' a n (bdL m):=by
 apply Zfw.call
 simp only [Zaw,Zav]
 generalize hh0:h ++ [Zcd.cells Zbj [] false]=h0
 have s0:Zbc h.length h h0:=by rw [← hh0]; exact Zam
 have l0:h0.length=h.length + 1:=by rw [← hh0]; simp
 have o0:h0[h.length]?=some (.cells Zbj [] false):=by rw [← hh0]; simp
 refine Zfw.L3ind _ _ (J:=fun (g:Nat) a4 n4 c4 e4 x10 h'=>x10=(g:Int)∧g≤12∧Zbc h.length h h'∧n4=(Yes m g).length∧n4≤c4∧Vec Zbj h' a4 n4 c4 (Zdn eP (Yes m g))∧(∀ i,a4=some (i,0)→h.length≤i)) (fun g=>12 - g) ?_ 0 _ _ _ _ _ _
  ⟨rfl,by omega,s0,by simp [Yes],Nat.le_refl _,Vec.mk1 (by simpa [Yes] using o0),fun i hi=>by cases hi; omega⟩
 rintro g a4 n4 c4 e4 x10 h' ⟨rfl,hg,hSm,rfl,hnc,hv,ha⟩ R hR
 unfold Zfw.L3t
 have hbl:=Ypi m g
 refine Zat (fun hlt=>?_) (fun hge=>?_)
 ·have hg':g < 12:=by omega
  obtain ⟨x,hx1,hx2,hx3⟩:=(rm.same hSm).get hg'
  have il:=(rm.same hSm).lt
  have hx:∃ (d:Nat) (a:Pt) (n c:Nat) (e:Bool),x=(.int .u8 (d:Int),.slice a n c e)∧(match (Zed[g]?).bind (Zff m) with | some t=>d=t.hd | none=>d=0):=by
   split at hx3
   ·rename_i t ht
    obtain ⟨ua,uc,ue,hu⟩:=hx3.shape
    simp only [List.cons.injEq,and_true] at hu
    exact ⟨t.hd,ua,t.ps.length,uc,ue,by rw [← hu.1,← hu.2],by first | rfl | rw [ht]⟩
   ·rename_i hn; exact ⟨0,none,0,0,true,hx3,by first | rfl | rw [hn]⟩
  obtain ⟨d,ua,un,uc,ue,rfl,hd⟩:=hx
  simp only [Int.toNat_natCast,hx2,Zav,Zaq,Zaf,Zan,Zar,Zae,Zaw]
  generalize hq:h' ++ [Zcd.cells Zai [.int .u8 0,.slice none 0 0 true] false]=hq'
  have sq:Zbc h'.length h' hq':=by rw [← hq]; exact Zam
  have hrq:Zbi hq' (.ptr (some (i,0 + g * 2))) 2=some [.int .u8 (d:Int),.slice ua un uc ue]:=by
   rw [← hx2]; simp only [Zbi,sq.eq i il]
  rw [hrq,← hq,Zfk]
  generalize hw:h' ++ [Zcd.cells Zai [.int .u8 (d:Int),.slice ua un uc ue] false]=hw'
  have sw:Zbc h'.length h' hw':=by rw [← hw]; exact Zam
  have ow:hw'[h'.length]?=some (.cells Zai [.int .u8 (d:Int),.slice ua un uc ue] false):=by rw [← hw]; simp
  simp only [Zas,Zao ow,Nat.zero_add,List.getElem?_cons_zero,Zar,true_and]
  have SW:=hSm.cat sw
  have hsuc:=Ylt m g
  have skip:(Zed[g]?).bind (Zff m)=none→Zfw.J9 (fun v h'=>Zbc h.length h h'∧∃ a n c e,v=.tup [.slice a n c e,.bool true]∧n≤c∧Zdh Zbj eP h.length h' a n (bdL m)) R (g:Int) (some (i,0)) a4 (Yes m g).length c4 e4 hw':=by
   intro hn
   have hsame:Yes m (g + 1)=Yes m g:=by
    rw [hsuc]
    cases hvg:Zed[g]? with
    | none=>simp
    | some v=>rw [hvg,Option.bind_some] at hn; simp [hn]
   apply Zfw.J9i
   rw [Zbl (by omega)]
   exact hR (g + 1) _ _ _ _ _ _ (by omega) ⟨rfl,by omega,SW,by rw [hsame],hnc,by rw [hsame]; exact hv.same sw,ha⟩
  refine ⟨by omega,?_⟩
  cases hb:(Zed[g]?).bind (Zff m) with
  | none=>
   rw [hb] at hd
   simp only at hd
   subst hd
   simp only [show (((0:Nat):Int) == 0)=true from rfl,Zcn]
   exact skip hb
  | some t=>
   rw [hb] at hd hx3
   simp only at hd hx3
   obtain ⟨v,hvg,hbv⟩:=Option.bind_eq_some_iff.1 hb
   have hu:=bo.var _ (Znc hbv)
   have hg6:g < 6:=(List.getElem?_eq_some_iff.1 hvg).1
   have hd0:((d:Int) == 0)=false:=by
    have:=Zuf hu.2.1
    have hne:t.hd≠0:=fun e=>by rw [e] at this; simp at this
    simp; omega
   rw [show decide ((g:Int) ≥ 6)=false by simp; omega]
   simp only [hd0,Zca]
   apply Zfw.J6i
   rw [← hw,Ypr,hw]
   simp only [Zaq,Zaf,Zan,Zar,Zae]
   have hu2:t.txt.length≤60:=hu.2.2
   refine (Zqf _ (Nat.le_refl _) (by omega) (hx3.same sw)).mono ?_
   rintro v' h3 ⟨rfl,s3⟩
   have o3:=s3.get ow (Own.lt ow)
   simp only [Zar]
   rw [show decide (((t.txt.length:Nat):Int) > 60)=false by simp; omega]
   simp only [Zca,Zeg o3 (show 0 + 2≤_ by simp),List.drop_zero,List.take_succ_cons,List.take_zero,Zaq,Zaf,Zan,Zar,Zae]
   rw [Zbl (by omega),show (((g + 1:Nat):Int))=(g:Int) + 1 by omega,Ypa hvg]
   refine ⟨⟨by omega,by omega,by simp; omega⟩,(Zpg _ (Nat.le_refl _) (by omega) hu.2.1 ((hx3.same sw).same s3)).mono ?_⟩
   rintro v' h4 ⟨rfl,s4⟩
   simp only [Zal,Zaw]
   have S4:=(SW.cat s3).cat s4
   refine (((hv.same sw).same s3).same s4).pushN Zyj Yel Yds Ycu (by rw [Zay Zeb]) rfl (by omega) rfl (by omega) (fun h6 hl6 hi6 hk6=>?_)
   simp only [Zae]
   apply Zfw.J9i
   rw [Zbl (by omega)]
   have hle:=S4.le
   have hs':Yes m (g + 1)=Yes m g ++ [([v],t.txt)]:=by rw [hsuc,hvg]; simp [hbv]
   refine hR (g + 1) _ _ _ _ _ _ (by omega) ⟨rfl,by omega,⟨by omega,fun j hj=>?_⟩,by rw [hs']; simp,Nat.le_refl _,Vec.mk1 ?_,fun i hi=>by cases hi; omega⟩
   ·rw [hk6 j (by omega) fun i hi=>by have:=ha i hi; omega]; exact S4.eq j hj
   ·rw [hi6,hs',Zig]; rfl
 ·apply Zfw.A3x0i
  have:g=12:=by omega
  subst this
  have hb12:Yes m 12=bdL m:=by unfold Yes bdL; rw [List.take_of_length_le (by decide)]
  rw [hb12] at hv hnc ⊢
  exact ⟨hSm,_,_,_,_,rfl,hnc,hv.fresh (b:=h.length) rfl fun i hi=>ha i hi⟩
theorem Ymr:Zdn eR (List.replicate 12 (Zau.int .u8 0,Zau.slice none 0 0 true))=[.int .u8 0,.slice none 0 0 true,.int .u8 0,.slice none 0 0 true,.int .u8 0,.slice none 0 0 true,.int .u8 0,.slice none 0 0 true,.int .u8 0,.slice none 0 0 true,.int .u8 0,.slice none 0 0 true,.int .u8 0,.slice none 0 0 true,.int .u8 0,.slice none 0 0 true,.int .u8 0,.slice none 0 0 true,.int .u8 0,.slice none 0 0 true,.int .u8 0,.slice none 0 0 true,.int .u8 0,.slice none 0 0 true]:=rfl
theorem Zso {h h':Zaa} {s:List Nat} {vs:List Zau} (hm:match Zhk s with | some t=>Zhq (Btw h.length h'.length) h' t vs | none=>vs=[.int .u8 0,.slice none 0 0 true]):∃ (d:Int) (a:Pt) (n c:Nat) (e:Bool),vs=[.int .u8 d,.slice a n c e]:=by
 split at hm
 ·obtain ⟨a,c,e,rfl⟩:=hm.shape; exact ⟨_,_,_,_,_,rfl⟩
 ·exact ⟨_,_,_,_,_,hm⟩
theorem Zuw (p s:List Nat) (hp0:p.length≤1048576) (hs0:s.length≤1048576) (h:Zaa):Zah pg Zjq [.str p,.str s] h (Yia p s h):=by
 apply Zmt.call
 refine (Zof p (by omega) h).mono ?_
 rintro v h1 ⟨s1,vs1,rfl,r1⟩
 obtain ⟨d1,a1,n1,c1,e1,rfl⟩:=Zso r1
 simp only [Zct,Zaf,Zdd,Zar,Zae,Zan,Zap,Zaw]
 rw [Zfk]
 generalize hh2:h1 ++ [Zcd.cells Zai [.int .u8 d1,.slice a1 n1 c1 e1] false]=h2
 have s2:Zbc h1.length h1 h2:=by rw [← hh2]; exact Zam
 have o2:h2[h1.length]?=some (.cells Zai [.int .u8 d1,.slice a1 n1 c1 e1] false):=by rw [← hh2]; simp
 simp only [Zas]
 refine (Zof s (by omega) h2).mono ?_
 rintro v h3 ⟨s3,vs3,rfl,r3⟩
 obtain ⟨d3,a3,n3,c3,e3,rfl⟩:=Zso r3
 simp only [Zct,Zaf,Zdd,Zar,Zae,Zan,Zap]
 rw [Zfk]
 generalize hh4:h3 ++ [Zcd.cells Zai [.int .u8 d3,.slice a3 n3 c3 e3] false]=h4
 have s4:Zbc h3.length h3 h4:=by rw [← hh4]; exact Zam
 have o4:h4[h3.length]?=some (.cells Zai [.int .u8 d3,.slice a3 n3 c3 e3] false):=by rw [← hh4]; simp
 simp only [Zas]
 rw [← Ymr]
 generalize hh5:h4 ++ [Zcd.cells Zdf (Zdn eR (List.replicate 12 (Zau.int .u8 0,Zau.slice none 0 0 true))) false]=h5
 have s5:Zbc h4.length h4 h5:=by rw [← hh5]; exact Zam
 have o5:h5[h4.length]?=some (.cells Zdf (Zdn eR (List.replicate 12 (Zau.int .u8 0,Zau.slice none 0 0 true))) false):=by rw [← hh5]; simp
 have x2:h5[h1.length]?=some (.cells Zai [.int .u8 d1,.slice a1 n1 c1 e1] false):=s5.get (s4.get (s3.get o2 (Own.lt o2)) (by have:=Own.lt o2; have:=s3.le; omega)) (by have:=Own.lt o2; have:=s3.le; have:=s4.le; omega)
 have x4:=s5.get o4 (Own.lt o4)
 have S2:=s1.cat s2
 have S5:=(((S2.cat s3).cat s4).cat s5)
 have no:Zho p s=none→∀ hz,Zbc h.length h hz→Yia p s h (.tup [.slice (some (hz.length,0)) 0 0 true,.bool false]) (hz ++ [Zcd.cells Zbj [] false]):=fun hn hz sz=>
  ⟨sz.cat Zam,_,0,0,true,by unfold Zlh; rw [hn]; rfl,Nat.le_refl _,by unfold Zjh; rw [hn]; exact ⟨rfl,.inl rfl⟩⟩
 cases hp:Zhk p with
 | none=>
  have:Zml p=false:=by unfold Zml; rw [hp]; rfl
  rw [this]
  simp only [Bool.not_false,Zcn]
  exact no (by unfold Zho; rw [hp]) _ S5
 | some a=>
  rw [Ybj hp]
  simp only [Bool.not_true,Zca]
  cases ht:Zhk s with
  | none=>
   have:Zml s=false:=by unfold Zml; rw [ht]; rfl
   rw [this]
   simp only [Bool.not_false,Zcn]
   exact no (by unfold Zho; rw [hp,ht]) _ S5
  | some t=>
   rw [Ybj ht]
   rw [hp] at r1
   rw [ht] at r3
   simp only at r1 r3
   simp only [Bool.not_true,Zca,Zeg x2 (show 0 + 2≤_ by simp),Zeg x4 (show 0 + 2≤_ by simp),List.drop_zero,List.take_succ_cons,List.take_zero,Zaq,Zaf,Zan,Zar,Zae]
   obtain ⟨ha1,ha2,ha3⟩:=Zdt.1 hp
   obtain ⟨ht1,ht2,ht3⟩:=Zdt.1 ht
   have hms:Zho p s=matchT [] a t:=by unfold Zho; rw [hp,ht]
   have l3:=s3.le; have l4:=s4.le; have l2:=s2.le
   have R1:=((((r1.same s2).same s3).same s4).same s5).mono (S':=fun j=>j≠h4.length) (fun j hj=>by have:=hj.2; omega)
   have R3:=((r3.same s4).same s5).mono (S':=fun j=>j≠h4.length) (fun j hj=>by have:=hj.2; omega)
   refine (Yao _ (Nat.le_refl _) ha1 ht1 (n:=60) (by omega) (by rw [← ht2]; exact ht3) BOk.nil (fun j hj=>hj) R1 R3 (Ztt.nil o5)).mono ?_
   rintro v h6 ⟨K6,hres⟩
   have l5:=S5.le
   have lh4:h.length≤h4.length:=(((S2.cat s3).cat s4)).le
   have S6:Zbc h.length h h6:=⟨by have:=K6.le; omega,fun j hj=>by rw [K6.eq j (by omega) (by omega)]; exact S5.eq j hj⟩
   cases hm:matchT [] a t with
   | none=>
    rw [hm] at hres hms
    subst hres
    simp only [Zap,Bool.not_false,Zcn]
    exact no hms _ S6
   | some m=>
    rw [hm] at hres hms
    obtain ⟨rfl,rm6⟩:=hres
    simp only [Zap,Bool.not_true,Zca]
    apply Zmt.J6i
    refine (Ynt rm6 (Zua hms)).mono ?_
    rintro v h7 ⟨s7,a7,n7,c7,e7,rfl,hc7,f7⟩
    simp only [Zct,Zaf,Zae,Zap,Zan]
    refine ⟨S6.cat s7,a7,n7,c7,e7,by unfold Zlh; rw [hms]; rfl,hc7,?_⟩
    unfold Zjh; rw [hms]
    exact ⟨f7.1,f7.2.imp id fun ⟨i,ha,hb,hi⟩=>⟨i,ha,by have:=S6.le; omega,hi⟩⟩
end Go.Sim

set_option linter.unusedSimpArgs false
set_option linter.unusedVariables false
namespace Go.Sim

noncomputable def Zry (l:List Nd) (i:Nat):Bool:=Zla (l.getD i ([],[])).1 && Zml (l.getD i ([],[])).2 && (i == 0 || Zeq (l.getD (i - 1) ([],[])).1 (l.getD i ([],[])).1)
noncomputable def Zht (l:List Nd):Bool:=(List.range l.length).all (Zry l)
def Zyf (l:List Nd) (c:Nat):List Nat:=match l.find? fun p=>decide (p.1=[c]) with | some p=>p.2 | none=>[c]
def Zkc (l:List Nd) (t:List Nat):List Nat:=t.flatMap (Zyf l)
noncomputable def Zqz (l:List Nd) (c:Nat):Option Ty:=match l.find? fun p=>decide (p.1=[c]) with | some p=>Zhk p.2 | none=>none
noncomputable def subst (f:Nat→Option Ty):Ty→Ty
 | .k c=>(f c).getD (.k c)
 | .u c a=>.u c (subst f a)
 | .w c a b=>.w c (subst f a) (subst f b)
noncomputable def Zfl (l:List Nd) (t:List Nat):Option (List Nat):=if Zht l && Zml t && decide ((Zkc l t).length≤60) then some (Zkc l t) else none
theorem Zzg {l:List Nd} (h:Zht l=true) {i:Nat} (hi:i < l.length):Zla l[i].1=true∧Zml l[i].2=true∧(i=0 ∨ Zeq (l.getD (i - 1) ([],[])).1 l[i].1=true):=by
 unfold Zht at h
 rw [List.all_eq_true] at h
 have:=h i (List.mem_range.2 hi)
 unfold Zry at this
 rw [Zfd hi] at this
 simp only [Bool.and_eq_true,Bool.or_eq_true,beq_iff_eq] at this
 exact ⟨this.1.1,this.1.2,this.2⟩
theorem Zss {l:List Nd} (h:Zht l=true) {p:Nd} (hp:p∈l):Zla p.1=true∧Zml p.2=true:=by
 obtain ⟨i,hi,rfl⟩:=List.getElem_of_mem hp
 exact ⟨(Zzg h hi).1,(Zzg h hi).2.1⟩
theorem Ztv {l:List Nd} (h:Zht l=true) {c:Nat} (hc:Zcs c=false):Zyf l c=[c]∧Zqz l c=none:=by
 have:l.find? (fun p=>decide (p.1=[c]))=none:=by
  rw [List.find?_eq_none]
  intro p hp e
  have:=(Zss h hp).1
  rw [of_decide_eq_true e] at this
  simp [Zla,hc] at this
 unfold Zyf Zqz
 rw [this]; exact ⟨rfl,rfl⟩
theorem Zvg {l:List Nd} (h:Zht l=true) (c:Nat):Zyf l c=((Zqz l c).getD (.k c)).txt∧∀ t,Zqz l c=some t→t.ok=true∧t.txt.length≤60:=by
 unfold Zyf Zqz
 cases hf:l.find? (fun p=>decide (p.1=[c])) with
 | none=>exact ⟨rfl,fun t ht=>by cases ht⟩
 | some p=>
  have hp:=List.mem_of_find?_eq_some hf
  obtain ⟨t,ht⟩:=Zku (Zss h hp).2
  obtain ⟨h1,h2,h3⟩:=Zdt.1 ht
  simp only [ht]
  refine ⟨by simpa using h2,fun u hu=>?_⟩
  cases hu
  exact ⟨h1,by rw [← h2]; exact h3⟩
theorem Zoh {l:List Nd} (h:Zht l=true) {c:Nat} (hc:Yed c=true):Zyf l c=[c]:=by
 refine (Ztv h ?_).1
 simp only [Yed,Bool.or_eq_true,beq_iff_eq] at hc
 rcases hc with (rfl | rfl) | rfl <;> rfl
theorem Ynz {c:Nat} {a:Ty} (h:(Ty.u c a).ok=true):Zcs c=false:=by
 cases hv:Zcs c with
 | false=>rfl
 | true=>have:=Zrs h hv; cases this
theorem Ylp {c:Nat} {a b:Ty} (h:(Ty.w c a b).ok=true):Zcs c=false:=by
 cases hv:Zcs c with
 | false=>rfl
 | true=>have:=Zrs h hv; cases this
theorem Znl {l:List Nd} (h:Zht l=true):∀ {t:Ty},t.ok=true→Zkc l t.txt=(subst (Zqz l) t).txt∧(subst (Zqz l) t).ok=true
 | .k c,ht=>by
  have:=Zvg h c
  simp only [Zkc,Ty.txt,List.flatMap_cons,List.flatMap_nil,List.append_nil,subst]
  refine ⟨this.1,?_⟩
  cases hb:Zqz l c with
  | none=>exact ht
  | some t=>exact (this.2 t hb).1
 | .u c a,ht=>by
  have hv:=Ynz ht
  have hh:=ht
  simp only [Ty.ok,Bool.and_eq_true] at ht
  have ih:=Znl h ht.2
  simp only [Zkc] at ih
  simp only [Zkc,Ty.txt,List.flatMap_cons,List.flatMap_append,List.flatMap_nil,List.append_nil,subst,(Ztv h hv).1,Zoh h Ty.m40,Zoh h Ty.m41,ih.1,List.cons_append,List.nil_append]
  refine ⟨by trivial,?_⟩
  simp only [Ty.ok,Bool.and_eq_true]; exact ⟨ht.1,ih.2⟩
 | .w c a b,ht=>by
  have hv:=Ylp ht
  simp only [Ty.ok,Bool.and_eq_true] at ht
  have ih:=Znl h ht.1.2
  have ih2:=Znl h ht.2
  simp only [Zkc] at ih ih2
  simp only [Zkc,Ty.txt,List.flatMap_cons,List.flatMap_append,List.flatMap_nil,List.append_nil,subst,(Ztv h hv).1,Zoh h Ty.m40,Zoh h Ty.m41,Zoh h Ty.m44,ih.1,ih2.1,List.cons_append,List.nil_append]
  refine ⟨by trivial,?_⟩
  simp only [Ty.ok,Bool.and_eq_true]; exact ⟨⟨ht.1.1,ih.2⟩,ih2.2⟩
theorem Zxn (a b:Nat):Zeq [a] [b]=decide (a < b):=by
 simp [Zeq]
theorem Yiw {m:Bd} (b:BOk 60 m):Zht (bdL m)=true:=by
 rw [Yhu]
 generalize hvs:(Zed.filter fun v=>(Zff m v).isSome)=vs
 have hs:vs.Pairwise (· < ·):=by rw [← hvs]; exact Zwl.filter _
 have hm:∀ v∈vs,Zcs v=true∧∃ t,Zff m v=some t:=by
  intro v hv
  rw [← hvs,List.mem_filter] at hv
  exact ⟨(Znv v).1 hv.1,Option.isSome_iff_exists.1 hv.2⟩
 unfold Zht
 rw [List.all_eq_true]
 intro i hi
 rw [List.mem_range,List.length_map] at hi
 unfold Zry
 rw [Zfd (by simpa using hi),List.getElem_map]
 obtain ⟨h1,t,h2⟩:=hm _ (List.getElem_mem hi)
 have h3:=b.var _ (Znc h2)
 simp only [h2,Option.getD_some,Zla,h1,Bool.true_and,Bool.and_eq_true,Bool.or_eq_true,beq_iff_eq]
 refine ⟨Zsn.2 ⟨t,h3.2.1,rfl,h3.2.2⟩,?_⟩
 cases i with
 | zero=>exact .inl rfl
 | succ j=>
  right
  rw [Nat.add_sub_cancel,Zfd (by simp; omega),List.getElem_map,Zxn]
  exact decide_eq_true (List.pairwise_iff_getElem.1 hs j (j + 1) (by omega) hi (by omega))
noncomputable def Zke (i:Ins) (t:List Nat):Option (List Nd):=
 match Zho i.1.2 t with
 | none=>none
 | some m=>if i.2.all fun n=>(Zfl (bdL m) n.2).isSome then some (i.2.map fun n=>(n.1,Zkc (bdL m) n.2)) else none
end Go.Sim

set_option linter.unusedVariables false
set_option linter.unusedSimpArgs false
set_option maxRecDepth 20000
namespace Go.Sim
open Go Go.RowKit

theorem Yaw {k:Nat} (h0:0 < k) (hn:k≤9223372036854775807):IntKind.wrap .i64 ((k:Int) - 1)=((k - 1:Nat):Int):=by rw [IntWalk.i64_in _ (by omega)]; omega
theorem Zwu {h:Zaa} {a:Pt} {n c:Nat} {e:Bool} {l:List Nd} (r:Row h.length h a (n * 2) (Zdn eP l)) (hn:n≤1048576) :
  Zah pg Ziw [.slice a n c e] h fun v h'=>v=.bool (Zht l)∧Zbc h.length h h':=by
 have hl:l.length=n:=by have:=r.1; rw [Zay Zeb] at this; omega
 apply Zeh.call
 refine Zeh.L2ind _ _ _ _ _ _ _ _ _ _ (J:=fun (g:Nat) x7 h'=>x7=(g:Int)∧g≤n∧Zbc h.length h h'∧(List.range g).all (Zry l)=true) (fun g=>n - g) ?_ 0 _ _ ⟨rfl,by omega,Zbc.refl _ _,rfl⟩
 rintro g x7 h' ⟨rfl,hg,hS,hk⟩ R hR
 unfold Zeh.L2t
 refine Zat (fun hlt=>?_) (fun hge=>?_)
 ·obtain ⟨i,o,hgl,rfl,hi,hr,_,_⟩:=(r.same hS).pr (k:=g) (by omega)
  have hat:Zry l g=(Zla l[g].1 && Zml l[g].2 && (g == 0 || Zeq (l.getD (g - 1) ([],[])).1 l[g].1)):=by unfold Zry; rw [Zfd hgl]
  have no:Zry l g=false→Zht l=false:=fun hno=>Zkp hgl hno
  simp only [Zav,Int.toNat_natCast,hr,Zaq,Zaf,Zan,Zal,Zaw]
  rw [Zfk]
  generalize hq:h' ++ [Zcd.cells Zbj [.str l[g].1,.str l[g].2] false]=hq'
  have sq:Zbc h'.length h' hq':=by rw [← hq]; exact Zam
  have oq:hq'[h'.length]?=some (.cells Zbj [.str l[g].1,.str l[g].2] false):=by rw [← hq]; simp
  simp only [Zas,Zao oq,Nat.zero_add,List.getElem?_cons_succ,List.getElem?_cons_zero,Zal]
  refine ⟨by omega,(Ybk l[g].1).mono ?_⟩
  rintro v h2 ⟨rfl,rfl⟩
  have Sq:=hS.cat sq
  simp only [Zap,true_and]
  refine Zbq (fun b1=>⟨by rw [no (by rw [hat,b1]; rfl)],Sq⟩) (fun b1=>?_)
  simp only [Zao oq,List.getElem?_cons_succ,List.getElem?_cons_zero,Zal]
  refine (Zka l[g].2 h2).mono ?_
  rintro v h3 ⟨rfl,s3⟩
  simp only [Zap]
  have S3:=Sq.cat s3
  refine Zbq (fun b2=>⟨by rw [no (by rw [hat,b1,b2]; rfl)],S3⟩) (fun b2=>?_)
  have go:(g=0 ∨ Zeq (l.getD (g - 1) ([],[])).1 l[g].1=true)→Zeh.J6 (fun v h'=>v=.bool (Zht l)∧Zbc h.length h h') R (g:Int) (((n:Nat):Int)) (some (i,o)) n c e (some (i,o)) n c e h3:=by
   intro hz
   apply Zeh.J6i
   rw [Zbl (by omega)]
   refine hR (g + 1) _ _ (by omega) ⟨rfl,by omega,S3,Zhe hk ?_⟩
   rw [hat,b1,b2]
   rcases hz with rfl | hz
   ·rfl
   ·rw [hz]; simp
  refine Zat (fun hpos=>?_) (fun hz=>go (.inl (by omega)))
  have hg0:0 < g:=by omega
  obtain ⟨i',o',hgl',he,_,_,hc',_⟩:=(r.same S3).pr (k:=g - 1) (by omega)
  cases he
  rw [Yaw hg0 (by omega)]
  simp only [Zav,Int.toNat_natCast,Nat.add_zero,hc',Zao (s3.get oq (Own.lt oq)),List.getElem?_cons_zero,Zal,true_and]
  have hgd:l.getD (g - 1) ([],[])=l[g - 1]:=Zfd hgl'
  refine ⟨by omega,Zbq (fun b3=>⟨by rw [no (by rw [hat,b1,b2,hgd,b3]; simp; omega)],S3⟩) (fun b3=>go (.inr (by rw [hgd]; exact b3)))⟩
 ·apply Zeh.A2x0i
  have:g=n:=by omega
  subst this
  exact ⟨by unfold Zht; rw [hl,hk],hS⟩
theorem Ysq {s:List Nat} {g:Nat} (hg:g < s.length):sub s (g:Int) (((g + 1:Nat):Int))=[s[g]]:=by
 unfold sub
 rw [Int.toNat_natCast,Int.toNat_natCast,List.take_succ_eq_append_getElem hg,List.drop_append_of_le_length (by simp; omega),List.drop_of_length_le (by simp; omega)]; rfl
theorem Yeq {l:List Nd} (h:Zht l=true) (c:Nat):(Zyf l c).length≤60:=by
 obtain ⟨h1,h2⟩:=Zvg h c
 rw [h1]
 cases hb:Zqz l c with
 | none=>simp [Ty.txt]
 | some t=>exact (h2 t hb).2
theorem Zvj {l:List Nd} (h:Zht l=true):∀ (t:List Nat),(Zkc l t).length≤60 * t.length
 | []=>by simp [Zkc]
 | c :: t=>by
  have h1:=Yeq h c
  have h2:=Zvj h t
  simp only [Zkc,List.flatMap_cons,List.length_append,List.length_cons] at h2 ⊢
  omega
theorem Yfy {l:List Nd} {t:List Nat} {g:Nat} (hg:g < t.length):Zkc l (t.take (g + 1))=Zkc l (t.take g) ++ Zyf l t[g]:=by
 unfold Zkc; rw [List.take_succ_eq_append_getElem hg,List.flatMap_append]; simp
noncomputable def Zmz (l:List Nd) (t:List Nat):Zau:=match Zfl l t with | some u=>.tup [.str u,.bool true] | none=>.tup [.str [],.bool false]
theorem Zrg {h:Zaa} {a:Pt} {n c:Nat} {e:Bool} {l:List Nd} {t:List Nat} (r:Row h.length h a (n * 2) (Zdn eP l)) (hn:n≤1048576) :
  Zah pg Zgj [.slice a n c e,.str t] h fun v h'=>v=Zmz l t∧Zbc h.length h h':=by
 have hl:l.length=n:=by have:=r.1; rw [Zay Zeb] at this; omega
 apply Zdg.call
 refine (Zwu r hn).mono ?_
 rintro v h1 ⟨rfl,s1⟩
 simp only [Zap]
 refine Zbq (fun b1=>⟨by unfold Zmz Zfl; rw [b1]; rfl,s1⟩) (fun b1=>?_)
 refine (Zka t h1).mono ?_
 rintro v h2 ⟨rfl,s2⟩
 simp only [Zap]
 have S2:=s1.cat s2
 refine Zbq (fun b2=>⟨by unfold Zmz Zfl; rw [b1,b2]; rfl,S2⟩) (fun b2=>?_)
 have ht60:=Ybb b2
 apply Zdg.J3i
 refine Zdg.L5ind _ _ _ _ _ _ _ (J:=fun (g:Nat) x6 x21 h'=>x21=(g:Int)∧g≤t.length∧Zbc h.length h h'∧x6=Zkc l (t.take g)) (fun g=>t.length - g) ?_ 0 _ _ _ ⟨rfl,by omega,S2,by simp [Zkc]⟩
 rintro g x6 x21 h' ⟨rfl,hg,hS,rfl⟩ R hR
 unfold Zdg.L5t
 refine Zat (fun hlt=>?_) (fun hge=>?_)
 ·have hgt:g < t.length:=by omega
  rw [Zbl (by omega),Ysq hgt]
  refine ⟨⟨by omega,by omega,by omega⟩,?_⟩
  have hal:=Zvj b1 (t.take g)
  rw [List.length_take] at hal
  have fin:∀ (h3:Zaa) (x8:List Nat),Zbc h.length h h3→x8=Zyf l t[g]→Zdg.A9x2 (fun v h'=>v=Zmz l t∧Zbc h.length h h') R (Zkc l (t.take g)) x8 (g:Int) (((t.length:Nat):Int)) t a n c e h3:=by
   intro h3 x8 s3 hx
   apply Zdg.A9x2i
   have:=Yeq b1 t[g]
   rw [hx,Zbl (by omega)]
   exact ⟨by omega,hR (g + 1) _ _ _ (by omega) ⟨rfl,by omega,s3,(Yfy hgt).symm⟩⟩
  refine Zdg.L9ind _ _ _ _ _ _ _ _ _ _ _ _ _ _ _ (J:=fun (q:Nat) x8 x31 h3=>x31=(q:Int)∧q≤n∧Zbc h.length h h3∧x8=[t[g]]∧(l.take q).find? (fun p=>decide (p.1=[t[g]]))=none) (fun q=>n - q) ?_ 0 _ _ _ ⟨rfl,by omega,hS,rfl,rfl⟩
  rintro q x8 x31 h3 ⟨rfl,hq,hS3,rfl,hf⟩ R9 hR9
  unfold Zdg.L9t
  refine Zat (fun hlt3=>?_) (fun hge3=>?_)
  ·obtain ⟨i,o,hql,rfl,hi,hr,_,_⟩:=(r.same hS3).pr (k:=q) (by omega)
   simp only [Zav,Int.toNat_natCast,hr,Zaq,Zaf,Zan,Zal,Zaw]
   rw [Zfk]
   have sq:Zbc h3.length h3 (h3 ++ [Zcd.cells Zbj [.str l[q].1,.str l[q].2] false]):=Zam
   simp only [Zas,Zez,Nat.zero_add,List.getElem?_cons_succ,List.getElem?_cons_zero,Zal]
   refine ⟨by omega,Zat (fun he=>?_) (fun he=>?_)⟩
   ·refine fin _ _ (hS3.cat sq) ?_
    unfold Zyf
    rw [Yio hql hf (by simp [he])]
   ·rw [Zbl (by omega)]
    exact hR9 (q + 1) _ _ _ (by omega) ⟨rfl,by omega,hS3.cat sq,rfl,Zyv hql hf (by simp [he])⟩
  ·have:q=n:=by omega
   subst this
   rw [List.take_of_length_le (by omega)] at hf
   exact fin _ _ hS3 (by unfold Zyf; rw [hf])
 ·apply Zdg.A5x0i
  have:g=t.length:=by omega
  subst this
  rw [List.take_length]
  refine Zat (fun hbig=>⟨?_,hS⟩) (fun hsm=>⟨?_,hS⟩)
  ·unfold Zmz Zfl
   rw [if_neg (by simp; omega)]
  ·unfold Zmz Zfl
   rw [if_pos (by rw [b1,b2]; simp; omega)]
def Ymo (i:Ins) (t:List Nat) (h:Zaa) (v:Zau) (h':Zaa):Prop:=Zbc h.length h h'∧∃ a n c e,v=.tup [.slice a n c e,.bool (Zke i t).isSome]∧Zdh Zad eP h.length h' a n ((Zke i t).getD [])
theorem Yej:pg.underlying Zfu=some (.slice Zad):=by kernel_rfl
theorem Yls:pg.cellsOf Zad=2:=by kernel_rfl
theorem Ylm:pg.okElem Zad=true:=by kernel_rfl
theorem Ykz:pg.bytesOf Zad≤127:=Nat.le_of_ble_eq_true (by kernel_rfl)
noncomputable def Yrd (l:List Nd) (n:Nd):Nd:=(n.1,(Zfl l n.2).getD [])
theorem Yhh {l:List Nd} {ns:List Nd} (h:ns.all (fun n=>(Zfl l n.2).isSome)=true):ns.map (Yrd l)=ns.map fun n=>(n.1,Zkc l n.2):=by
 apply List.map_congr_left
 intro n hn
 have:=List.all_eq_true.1 h n hn
 obtain ⟨u,hu⟩:=Option.isSome_iff_exists.1 this
 unfold Yrd
 rw [hu]
 unfold Zfl at hu
 split at hu
 ·cases hu; rfl
 ·cases hu
theorem Ypw {h:Zaa} {a:Pt} {n c:Nat} {e:Bool} {i:Ins} {t:List Nat} (r:Row h.length h a (n * 2) (Zdn eP i.2)) (hn:n≤1048576) :
  Zah pg Zhr [.agg [.str i.1.1,.str i.1.2,.slice a n c e],.str t] h (Ymo i t h):=by
 have hl:i.2.length=n:=by have:=r.1; rw [Zay Zeb] at this; omega
 apply Zds.call
 simp only [Zaw]
 generalize hh0:h ++ [Zcd.cells Zac [.str i.1.1,.str i.1.2,.slice a n c e] false]=h0
 have s0:Zbc h.length h h0:=by rw [← hh0]; exact Zam
 have o0:h0[h.length]?=some (.cells Zac [.str i.1.1,.str i.1.2,.slice a n c e] false):=by rw [← hh0]; simp
 simp only [Zao o0,Nat.zero_add,List.getElem?_cons_succ,List.getElem?_cons_zero,Zal]
 refine (Zsd i.1.2 t h0).mono ?_
 rintro v h1 ⟨s1,ma,mn,mc,me,rfl,hmc,fm⟩
 simp only [Zct,Zaf,Zae,Zap,Zan]
 generalize hh2:h1 ++ [Zcd.cells Zad [] false]=h2
 have s2:Zbc h1.length h1 h2:=by rw [← hh2]; exact Zam
 have o2:h2[h1.length]?=some (.cells Zad [] false):=by rw [← hh2]; simp
 have S2:=(s0.cat s1).cat s2
 have hml:(Zjh i.1.2 t).length≤6:=by unfold Zjh; split <;> first | exact Yey _ | simp
 have hmn:=fm.1
 have x2:=s2.get (s1.get o0 (Own.lt o0)) (by have:=Own.lt o0; have:=s1.le; omega)
 simp only [Zao x2,List.getElem?_cons_succ,List.getElem?_cons_zero,Zae]
 have hS1le:h.length≤h1.length:=(s0.cat s1).le
 generalize hml':Zjh i.1.2 t=ml at *
 refine Zds.L4ind _ _ _ _ _ _ _ _ _ _ (J:=fun (g:Nat) x7 a8 n8 c8 e8 x25 h'=>x25=(g:Int)∧g≤n∧Zbc h.length h h'∧h1.length < h'.length∧Row h'.length h' ma (mn * 2) (Zdn eP ml)∧x7=(Zlh i.1.2 t && (i.2.take g).all fun p=>(Zfl ml p.2).isSome)∧n8=g∧Vec Zad h' a8 n8 c8 (Zdn eP ((i.2.take g).map (Yrd ml)))∧(∀ j,a8=some (j,0)→h1.length≤j)) (fun g=>n - g) ?_ 0 _ _ _ _ _ _ _
  ⟨rfl,by omega,S2,Own.lt o2,(fm.row Zeb).same' s2,by simp,rfl,Vec.mk1 (by simpa using o2),fun j hj=>by cases hj; omega⟩
 rintro g x7 a8 n8 c8 e8 x25 h' ⟨rfl,hg,hS,hlt1,hrm,rfl,rfl,hv,ha⟩ R hR
 unfold Zds.L4t
 refine Zat (fun hlt=>?_) (fun hge=>?_)
 ·obtain ⟨j,o,hgl,rfl,hj,hr,_,_⟩:=(r.same hS).pr (k:=n8) (by omega)
  simp only [Zav,Int.toNat_natCast,hr,Zaq,Zaf,Zan,Zal,Zaw]
  rw [Zfk]
  generalize hq:h' ++ [Zcd.cells Zad [.str i.2[n8].1,.str i.2[n8].2] false]=hq'
  have sq:Zbc h'.length h' hq':=by rw [← hq]; exact Zam
  have oq:hq'[h'.length]?=some (.cells Zad [.str i.2[n8].1,.str i.2[n8].2] false):=by rw [← hq]; simp
  simp only [Zas,Zao oq,Nat.zero_add,List.getElem?_cons_succ,List.getElem?_cons_zero,Zal]
  refine ⟨by omega,(Zrg (hrm.same' sq) (by omega)).mono ?_⟩
  rintro v h3 ⟨rfl,s3⟩
  have hshape:Zmz ml i.2[n8].2=.tup [.str ((Zfl ml i.2[n8].2).getD []),.bool (Zfl ml i.2[n8].2).isSome]:=by
   unfold Zmz; cases Zfl ml i.2[n8].2 <;> rfl
  rw [hshape]
  simp only [Zct,Zaf,Zal,Zap,Zan]
  have S3:=(hS.cat sq).cat s3
  have o3:=s3.get oq (Own.lt oq)
  have tk:(i.2.take (n8 + 1)).all (fun p=>(Zfl ml p.2).isSome)=((i.2.take n8).all (fun p=>(Zfl ml p.2).isSome) && (Zfl ml i.2[n8].2).isSome):=by
   rw [List.take_succ_eq_append_getElem hgl,List.all_append]; simp
  have go:∀ b9,b9=(Zlh i.1.2 t && (i.2.take (n8 + 1)).all fun p=>(Zfl ml p.2).isSome)→Zds.J8 (Ymo i t h) R a8 n8 c8 e8 h'.length 0 ((Zfl ml i.2[n8].2).getD []) (n8:Int) (((n:Nat):Int)) (some (j,o)) n c e ma mn mc me b9 h3:=by
   intro b9 hb9
   apply Zds.J8i
   simp only [Zao o3,Nat.zero_add,List.getElem?_cons_zero,Zal,Zaw]
   refine ((hv.same sq).same s3).pushN Yej Yls Ylm Ykz (by rw [Zay Zeb]; simp; omega) rfl (by omega) rfl (by omega) (fun h6 hl6 hi6 hk6=>?_)
   simp only [Zae]
   apply Zds.J9i
   rw [Zbl (by omega)]
   have hle:=S3.le
   refine hR (n8 + 1) _ _ _ _ _ _ _ (by omega) ⟨rfl,by omega,⟨by omega,fun j hj=>?_⟩,by have:=sq.le; have:=s3.le; omega,?_,hb9,rfl,Vec.mk1 ?_,fun j hj=>by cases hj; have:=sq.le; have:=s3.le; omega⟩
   ·rw [hk6 j (by omega) fun q hq=>by have:=ha q hq; omega]; exact S3.eq j hj
   ·have hr3:=(hrm.same' sq).same' s3
    obtain ⟨hx1,hx2⟩:=hr3
    rcases fm.2 with h0 | ⟨q2,hq2,_,hq3⟩
    ·exact ⟨hx1,.inl (by omega)⟩
    ·refine ⟨hx1,hx2.imp id ?_⟩
     rintro ⟨q,o',ty,all,ro,hqa,hqb,hqg,hq4,hq5⟩
     refine ⟨q,o',ty,all,ro,hqa,by omega,?_,hq4,hq5⟩
     rw [hk6 q hqb fun q' hq'=>?_]
     ·exact hqg
     ·intro e
      subst e
      have h1l:=ha q hq'
      rw [hqa] at hq2; cases hq2
      have:=Own.lt hq3; omega
   ·rw [hi6,List.take_succ_eq_append_getElem hgl,List.map_append,Zig]; rfl
  refine Zcv (fun hb=>go _ (by rw [tk,← Bool.and_assoc,hb]; rfl)) (fun hb=>go _ (by rw [tk,← Bool.and_assoc,hb]; rfl))
 ·apply Zds.A4x0i
  have:n8=n:=by omega
  subst this
  rw [show i.2.take n8=i.2 from List.take_of_length_le (by omega)] at hv ⊢
  have hnw:Zke i t=if Zlh i.1.2 t && i.2.all (fun p=>(Zfl ml p.2).isSome) then some (i.2.map (Yrd ml)) else none:=by
   unfold Zke Zlh
   unfold Zjh at hml'
   cases hm:Zho i.1.2 t with
   | none=>rfl
   | some m=>
    rw [hm] at hml'
    simp only at hml'
    subst hml'
    simp only [Option.isSome_some,Bool.true_and]
    by_cases hall:i.2.all (fun p=>(Zfl (bdL m) p.2).isSome)=true
    ·rw [if_pos hall,if_pos hall,Yhh hall]
    ·rw [if_neg hall,if_neg hall]
  refine Zbq (fun hb=>?_) (fun hb=>?_)
  ·have:Zke i t=none:=by rw [hnw,hb]; rfl
   exact ⟨hS,none,0,0,true,by rw [this]; rfl,by rw [this]; exact ⟨rfl,.inl rfl⟩⟩
  ·have:Zke i t=some (i.2.map (Yrd ml)):=by rw [hnw,hb]; rfl
   refine ⟨hS,a8,n8,c8,e8,by rw [this]; rfl,?_⟩
   rw [this]
   exact hv.fresh (b:=h.length) (by simp; omega) fun j hj=>by have:=ha j hj; omega
end Go.Sim
