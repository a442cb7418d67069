/- A part of the proof of a statement of this seat: see the text that holds the theorem. No condition. -/
import Derived.Test.YtdglddliggejdaaNm
import Derived.Test.YtdglddliggejdaaCSUn3
import Derived.Test.YtdglddliggejdaaPTCGr
import Derived.Test.YtdglddliggejdaaPUnif
import Derived.Test.YtdglddliggejdaaPTCParse
import Derived.Test.YtdglddliggejdaaPTy2
set_option linter.unusedVariables false
set_option linter.unusedSimpArgs false
set_option linter.all false
set_option linter.unusedVariables false
set_option linter.unusedSimpArgs false
set_option maxRecDepth 20000
namespace Go.Sim
open Go Go.RowKit

theorem Zwk {i:Nat} {h h':Zaa} (s:Zbg h.length h h'):Zfl i h h':=⟨s.le,fun j hj _=>s.eq j hj⟩
theorem Yag {h h':Zaa} {i j:Nat} {x:Zcj} (K:Zfl i h h') (hj:h[j]?=some x) (hi:j≠i):h'[j]?=some x:=by rw [K.eq j (Own.lt hj) hi]; exact hj
section
variable {S:Nat→Prop} {i:Nat} {P:Ty→Prop}
theorem Ziz.base {σ:Nat→Option Ty} {F:Nat→Ty} {a b:Ty} {h hX h':Zaa} {v:Zac} (s:Zbg h.length h hX) (u:Ziz S i P σ F a b hX v h'):Ziz S i P σ F a b h v h':=⟨(Zwk s).trans u.1,u.2⟩
theorem Zvf (hP:∀ t,P t→okL Zma t=true) (hPs:∀ t,P t→∀ p∈t.ps,P p):∀ (U K:Nat) {σ:Nat→Option Ty} {F:Nat→Ty} {h:Zaa} {a b:Ty} {va vb:List Zac},unb Zdh σ≤U→(sb V12 F a).size≤K→Rsv V12 σ F→Inc Zit V12 σ→(∀ c t,σ c=some t→P (.k c)∧P t) →
  Zjt S h i σ→(∀ j,S j→j < h.length∧j≠i)→P a→P b→Zdd S h a va→Zdd S h b vb→Zad pg Zbh [.ptr (some (i,0)),.agg va,.agg vb] h (Ziz S i P σ F a b h):=by
 intro U
 induction U using Nat.strongRecOn with
 | ind U ihU=>
 intro K
 induction K using Nat.strongRecOn with
 | ind K ihK=>
 intro σ F h a b va vb hU hK rs hi hσ m hSi ha hb ra rb
 have hdom:∀ c u,σ c=some u→V12 c=true∧okL Zma u=true:=fun c u h=>⟨rs.dom c u h,hP u (hσ c u h).2⟩
 obtain ⟨n,a',hw,ha',heqa⟩:=rs.walked P (fun c t h=>(hσ c t h).2) ha
 obtain ⟨n',b',hw',hb',heqb⟩:=rs.walked P (fun c t h=>(hσ c t h).2) hb
 have hao:=hP a' ha'
 have hbo:=hP b' hb'
 have haend:=hw.end_
 have hbend:=hw'.end_
 have hil:=m.lt
 cases hva:V12 a'.hd with
 | true=>
  have hak:=Zhx hao hva
  obtain ⟨k,hk,hkv,hix⟩:=Zhg hva
  have hrk:Zit a'.hd=k:=by unfold Zit; rw [hix]; rfl
  cases hvb:V12 b'.hd with
  | false=>
   rw [hak] at hw
   exact Zke rs hi hP hσ m hSi ha hb (by rw [← hak]; exact ha') hb' hw hw' hva (fun h=>by rw [hvb] at h; cases h) ra rb
  | true=>
   have hbk:=Zhx hbo hvb
   obtain ⟨k',hk',hkv',hix'⟩:=Zhg hvb
   have hrk':Zit b'.hd=k':=by unfold Zit; rw [hix']; rfl
   rcases Nat.lt_trichotomy k k' with hlt | heq | hgt
   ·rw [hak] at hw
    exact Zke rs hi hP hσ m hSi ha hb (by rw [← hak]; exact ha') hb' hw hw' hva (fun _=>by omega) ra rb
   ·have hab:a'=b':=by
     rw [heq,hkv'] at hkv
     rw [hak,hbk,Option.some.inj hkv]
    refine Zad.mono (Q:=Ziz S i P σ F a' b' h) ?_ (fun v h' u=>u.walk rs hw hw')
    refine Zkp rs hdom m hSi (hP a ha) (hP b hb) hw hw' ra rb fun hX pa pb ca cb ea eb S5 oa ob ra5 rb5 mX=>?_
    unfold Zlp
    rw [hix,hix']
    refine Zan (fun _=>?_) (fun h=>absurd (by omega:(k:Int) ≥ 0) h)
    refine Zdx (fun _=>?_) (fun h=>absurd (by omega) h)
    exact ⟨Zwk S5,.inl ⟨rfl,σ,F,mX,rs,fun θ=>⟨fun h=>⟨h,by rw [hab]⟩,And.left⟩,hi,hσ,.inl ⟨rfl,rfl⟩⟩⟩
   ·refine Zad.mono (Q:=Ziz S i P σ F a' b' h) ?_ (fun v h' u=>u.walk rs hw hw')
    refine Zkp rs hdom m hSi (hP a ha) (hP b hb) hw hw' ra rb fun hX pa pb ca cb ea eb S5 oa ob ra5 rb5 mX=>?_
    unfold Zlp
    rw [hix,hix']
    refine Zan (fun _=>?_) (fun h=>absurd (by omega:(k:Int) ≥ 0) h)
    refine Zdx (fun h=>by omega) (fun _=>?_)
    refine Zan (fun _=>?_) (fun h=>absurd (by omega:(k:Int) ≥ 0) h)
    refine Zan (fun h=>by omega) (fun _=>?_)
    refine Zan (fun h=>by omega) (fun _=>?_)
    refine Zan (fun _=>?_) (fun h=>absurd (by omega) h)
    rw [Zdg oa,Zdg ob]
    simp only [Zay,Zai,Zat,Zae,Zak]
    have hb2:=hb'
    rw [hbk] at hb2
    have wb:Wlk σ 0 b' (.k b'.hd):=by rw [← hbk]; exact .stop hbend
    refine (Zke (S:=S) (va:=[.int .u8 (b'.hd:Int),.slice pb b'.ps.length cb eb]) (vb:=[.int .u8 (a'.hd:Int),.slice pa a'.ps.length ca ea]) rs hi hP hσ mX (fun j hj=>⟨by have:=(hSi j hj).1; have:=S5.le; omega,(hSi j hj).2⟩) hb' ha' hb2 ha' wb (.stop haend) hvb (fun _=>by omega) rb5 ra5).mono ?_
    rintro v h6 u
    have hu:=u.symm.base S5
    obtain ⟨_,⟨rfl,_⟩ | ⟨rfl,_⟩⟩:=id u
    ·simp only [Zaf]; exact hu
    ·simp only [Zaf]; exact hu
 | false=>
  refine Zad.mono (Q:=Ziz S i P σ F a' b' h) ?_ (fun v h' u=>u.walk rs hw hw')
  refine Zkp rs hdom m hSi (hP a ha) (hP b hb) hw hw' ra rb fun hX pa pb ca cb ea eb S5 oa ob ra5 rb5 mX=>?_
  have hSX:∀ j,S j→j < hX.length∧j≠i:=fun j hj=>⟨by have:=(hSi j hj).1; have:=S5.le; omega,(hSi j hj).2⟩
  unfold Zlp
  rw [Zmt hao hva]
  refine Zan (fun h=>by omega) (fun _=>?_)
  refine Zan (fun h=>by omega) (fun _=>?_)
  cases hvb:V12 b'.hd with
  | true=>
   have hbk:=Zhx hbo hvb
   obtain ⟨k',hk',hkv',hix'⟩:=Zhg hvb
   rw [hix']
   refine Zan (fun _=>?_) (fun h=>absurd (by omega) h)
   rw [Zdg oa,Zdg ob]
   simp only [Zay,Zai,Zat,Zae,Zak]
   have hb2:=hb'
   rw [hbk] at hb2
   have wb:Wlk σ 0 b' (.k b'.hd):=by rw [← hbk]; exact .stop hbend
   refine (Zke (S:=S) (va:=[.int .u8 (b'.hd:Int),.slice pb b'.ps.length cb eb]) (vb:=[.int .u8 (a'.hd:Int),.slice pa a'.ps.length ca ea]) rs hi hP hσ mX hSX hb' ha' hb2 ha' wb (.stop haend) hvb (fun h=>by rw [hva] at h; cases h) rb5 ra5).mono ?_
   rintro v h6 u
   have hu:=u.symm.base S5
   obtain ⟨_,⟨rfl,_⟩ | ⟨rfl,_⟩⟩:=id u
   ·simp only [Zaf]; exact hu
   ·simp only [Zaf]; exact hu
  | false=>
   rw [Zmt hbo hvb]
   refine Zan (fun h=>by omega) (fun _=>?_)
   simp only [Zag oa,Zag ob,Nat.zero_add,List.getElem?_cons_zero,Zae]
   refine Zhi (fun hne=>?_) (fun he=>?_)
   ·exact ⟨Zwk S5,.inr ⟨rfl,fun θ _=>Yaq (.inr hva) (.inr hvb) fun e=>hne (by rw [e])⟩⟩
   have hh:a'.hd=b'.hd:=by omega
   have hlen:=Ydo hao hbo hh
   have hps2:a'.ps.length≤2:=by cases a' <;> simp [Ty.ps]
   obtain ⟨_,_,_,vas,heqv,rowa,hSa,hval,hvas⟩:=id ra5.parts
   simp only [List.cons.injEq,Zac.slice.injEq,true_and,and_true] at heqv
   obtain ⟨rfl,rfl,rfl⟩:=heqv
   obtain ⟨_,_,_,vbs,heqv,rowb,hSb,hvbl,hvbs⟩:=id rb5.parts
   simp only [List.cons.injEq,Zac.slice.injEq,true_and,and_true] at heqv
   obtain ⟨rfl,rfl,rfl⟩:=heqv
   have hparts:∀ θ:Nat→Ty,sb V12 θ a'=sb V12 θ b' ↔ ∀ (j:Nat) (p q:Ty),a'.ps[j]?=some p→b'.ps[j]?=some q→sb V12 θ p=sb V12 θ q:=fun θ=>Ybf (.inr hva) (.inr hvb) hh hlen
   apply Zcd.J15i
   simp only [Zag oa,Nat.zero_add,List.getElem?_cons_succ,List.getElem?_cons_zero,Zak]
   refine Zcd.L16ind (J:=fun (g:Nat) x68 h'=>x68=(g:Int)∧g≤a'.ps.length∧Zfl i hX h'∧∃ σg Fg,Zjt S h' i σg∧Rsv V12 σg Fg∧(∀ θ,Sol V12 σg θ ↔ Sol V12 σ θ∧∀ (j:Nat) (p q:Ty),j < g→a'.ps[j]?=some p→b'.ps[j]?=some q→sb V12 θ p=sb V12 θ q)∧Inc Zit V12 σg∧(∀ c t,σg c=some t→P (.k c)∧P t)∧((σg=σ∧Fg=F) ∨ unb Zdh σg < unb Zdh σ)) (m:=fun g=>a'.ps.length - g) (hr:=?_) (g:=0)
    (hj:=⟨rfl,by omega,Zfl.refl _ _,σ,F,mX,rs,fun θ=>⟨fun h=>⟨h,fun j p q hj=>by omega⟩,And.left⟩,hi,hσ,.inl ⟨rfl,rfl⟩⟩)
   rintro g x68 h3 ⟨rfl,hg,K3,σg,Fg,mg,rg,hsol,hig,hσg,hcase⟩ R hR
   unfold Zcd.L16t
   have hX5:=S5.le
   refine Zan (fun hlt=>?_) (fun hge=>?_)
   ·have hga:g < a'.ps.length:=by omega
    have hgb:g < b'.ps.length:=by omega
    have oa3:=Yag K3 oa (by omega)
    have ob3:=Yag K3 ob (by omega)
    obtain ⟨ja,ofa,a3,c3,e3,rfl,hra,hka⟩:=Zdd.get (rowa.keepAt (i:=i) (fun j o h0 e=>(hSi j (hSa j o (by omega) e)).2) K3) hval (fun k w x h1 h2=>(hvas k w x h1 h2).keep fun j hj hl=>K3.eq j hl (hSi j hj).2) hga
    obtain ⟨jb,ofb,a4,c4,e4,rfl,hrb,hkb⟩:=Zdd.get (rowb.keepAt (i:=i) (fun j o h0 e=>(hSi j (hSb j o (by omega) e)).2) K3) hvbl (fun k w x h1 h2=>(hvbs k w x h1 h2).keep fun j hj hl=>K3.eq j hl (hSi j hj).2) hgb
    simp only [Zag oa3,Zag ob3,Nat.zero_add,List.getElem?_cons_succ,List.getElem?_cons_zero,Zak,Zaq,Int.toNat_natCast,hra,hrb,Zay,Zai,Zat,Zae,true_and]
    have hma:=List.getElem_mem hga
    have hmb:=List.getElem_mem hgb
    have hpg:a'.ps[g]?=some a'.ps[g]:=List.getElem?_eq_getElem hga
    have hqg:b'.ps[g]?=some b'.ps[g]:=List.getElem?_eq_getElem hgb
    have hS3:∀ j,S j→j < h3.length∧j≠i:=fun j hj=>⟨by have:=(hSX j hj).1; have:=K3.le; omega,(hSi j hj).2⟩
    have hrec:Zad pg Zbh [.ptr (some (i,0)),.agg [.int .u8 (a'.ps[g].hd:Int),.slice a3 a'.ps[g].ps.length c3 e3],.agg [.int .u8 (b'.ps[g].hd:Int),.slice a4 b'.ps[g].ps.length c4 e4]] h3 (Ziz S i P σg Fg a'.ps[g] b'.ps[g] h3):=by
     rcases hcase with ⟨rfl,rfl⟩ | hlt'
     ·have:=Ziv (V:=V12) hma Fg
      rw [heqa] at hK
      exact ihK _ (by omega) hU (Nat.le_refl _) rg hig hσg mg hS3 (hPs a' ha' _ hma) (hPs b' hb' _ hmb) hka hkb
     ·exact ihU (unb Zdh σg) (by omega) _ (Nat.le_refl _) (Nat.le_refl _) rg hig hσg mg hS3 (hPs a' ha' _ hma) (hPs b' hb' _ hmb) hka hkb
    refine ⟨by omega,by omega,hrec.mono ?_⟩
    rintro v h4 ⟨K4,⟨rfl,σ',F',m',r',hsol',hi',hσ',hc'⟩ | ⟨rfl,hno⟩⟩
    ·have oa4:=Yag K4 oa3 (by omega)
     simp only [Zaf,Bool.not_true,Zas,Zag oa4,List.getElem?_cons_succ,List.getElem?_cons_zero,true_and]
     rw [Zcm (by omega)]
     refine hR (g + 1) _ _ (by omega) ⟨rfl,by omega,K3.trans K4,σ',F',m',r',fun θ=>?_,hi',hσ',?_⟩
     ·rw [hsol' θ,hsol θ]
      constructor
      ·rintro ⟨⟨h1,h2⟩,h3⟩
       refine ⟨h1,fun j p q hj hp hq=>?_⟩
       by_cases e:j=g
       ·subst e; rw [hpg] at hp; rw [hqg] at hq; cases hp; cases hq; exact h3
       ·exact h2 j p q (by omega) hp hq
      ·rintro ⟨h1,h2⟩
       exact ⟨⟨h1,fun j p q hj=>h2 j p q (by omega)⟩,h2 g _ _ (by omega) hpg hqg⟩
     ·rcases hc' with ⟨rfl,rfl⟩ | hc'
      ·exact hcase
      ·rcases hcase with ⟨rfl,rfl⟩ | hcase
       ·exact .inr hc'
       ·exact .inr (by omega)
    ·have oa4:=Yag K4 oa3 (by omega)
     simp only [Zaf,Bool.not_false,Zbe,Zag oa4,List.getElem?_cons_succ,List.getElem?_cons_zero,true_and]
     refine ⟨(Zwk S5).trans (K3.trans K4),.inr ⟨rfl,fun θ hs he=>?_⟩⟩
     have hall:=(hparts θ).1 he
     exact hno θ ((hsol θ).2 ⟨hs,fun j p q _=>hall j p q⟩) (hall g _ _ hpg hqg)
   ·apply Zcd.A16x1i
    have:g=a'.ps.length:=by omega
    subst this
    refine ⟨(Zwk S5).trans K3,.inl ⟨rfl,σg,Fg,mg,rg,fun θ=>?_,hig,hσg,hcase⟩⟩
    rw [hsol θ,hparts θ]
    exact and_congr_right fun _=>⟨fun h j p q hp hq=>h j p q (List.getElem?_eq_some_iff.1 hp).1 hp hq,fun h j p q _=>h j p q⟩
end
end Go.Sim

set_option linter.unusedVariables false
set_option linter.unusedSimpArgs false
set_option maxRecDepth 20000
namespace Go.Sim
open Go Go.RowKit

end Go.Sim

set_option linter.unusedVariables false
set_option linter.unusedSimpArgs false
set_option maxRecDepth 20000
namespace Go.Sim
open Go Go.RowKit

theorem Zdd.below {S:Nat→Prop} {h:Zaa}:∀ {t:Ty} {v:List Zac},Zdd S h t v→Zdd (fun j=>S j∧j < h.length) h t v
 | .k d,_,h=>h
 | .u d x,_,⟨j,c,e,r,hv,sj,hj,hr⟩=>⟨j,c,e,r,hv,⟨sj,Own.lt hj⟩,hj,hr.below⟩
 | .w d x y,_,⟨j,c,e,r,r',hv,sj,hj,hr,hr'⟩=>⟨j,c,e,r,r',hv,⟨sj,Own.lt hj⟩,hj,hr.below,hr'.below⟩
theorem Ztk:pg.underlying Zfj=some (.slice Zab):=by kernel_rfl
theorem Zzl:pg.cellsOf Zab=2:=by kernel_rfl
theorem Zwp:pg.okElem Zab=true:=by kernel_rfl
theorem Zzc:pg.bytesOf Zab≤127:=Nat.le_of_ble_eq_true (by kernel_rfl)
theorem Zro {vs:List (List Zac)} (h:∀ v∈vs,v.length=2):vs.flatten.length=vs.length * 2:=by
 rw [List.length_flatten]
 induction vs with
 | nil=>rfl
 | cons v vs ih=>
  have h1:=h v (by simp)
  have h2:=ih (fun x hx=>h x (by simp [hx]))
  simp only [List.map_cons,List.sum_cons,List.length_cons]; omega
end Go.Sim

set_option linter.unusedVariables false
set_option linter.unusedSimpArgs false
set_option maxRecDepth 20000
namespace Go.Sim
open Go Go.RowKit

section
variable {S:Nat→Prop} {i:Nat} {σ:Nat→Option Ty} {F:Nat→Ty}
theorem Zzj (rs:Rsv V12 σ F) (hdom:∀ c u,σ c=some u→V12 c=true∧okL Zma u=true):∀ (N:Nat) {h:Zaa} {t:Ty} {vt:List Zac},(sb V12 F t).size≤N→Zjt S h i σ→(∀ j,S j→j < h.length∧j≠i)→okL Zma t=true→Zdd S h t vt →
  Zad pg Zge [.ptr (some (i,0)),.agg vt] h fun x h'=>Zbg h.length h h'∧∃ vs,x=.agg vs∧Zdd (fun j=>h.length≤j) h' (sb V12 F t) vs:=by
 intro N
 induction N with
 | zero=>intro h t vt hN; have:=Zje (sb V12 F t); omega
 | succ N ih=>
  intro h t vt hN m hSi ht r
  obtain ⟨a0,c0,e0,rfl⟩:=r.shape
  obtain ⟨n,u,hw,hu,heq⟩:=rs.walked (fun t=>okL Zma t=true) (fun c t h=>(hdom c t h).2) ht
  have hend:=hw.end_
  rw [heq] at hN ⊢
  obtain ⟨d,hd⟩:∃ d,d=u.hd:=⟨_,rfl⟩
  obtain ⟨T,hT⟩:∃ T,T=sb V12 F u:=⟨_,rfl⟩
  have hTT:T.hd=d∧T.ps=u.ps.map (sb V12 F):=by
   rw [hT,hd]
   cases hv:V12 u.hd with
   | false=>exact Ydp (.inr hv)
   | true=>
    have hk:=Zhx hu hv
    rw [hk,rs.var (hend _ hk)]
    exact ⟨rfl,rfl⟩
  obtain ⟨hTd,hTp⟩:=hTT
  rw [← hT]
  have hps2:u.ps.length≤2:=by cases u <;> simp [Ty.ps]
  have hil:=m.lt
  apply Zfi.call
  simp only [Zbi]
  generalize hh0:h ++ [Zcj.cells Zab [.int .u8 (t.hd:Int),.slice a0 t.ps.length c0 e0] false]=h0
  generalize hh1:h0 ++ [Zcj.cells Zab [.int .u8 0,.slice none 0 0 true] false]=h1
  have s0:Zbg h.length h h0:=by rw [← hh0]; exact Zax
  have s1:Zbg h0.length h0 h1:=by rw [← hh1]; exact Zax
  have o0:h0[h.length]?=some (.cells Zab [.int .u8 (t.hd:Int),.slice a0 t.ps.length c0 e0] false):=by rw [← hh0]; simp
  have oa:=s1.get o0 (Own.lt o0)
  have oz:h1[h0.length]?=some (.cells Zab [.int .u8 0,.slice none 0 0 true] false):=by rw [← hh1]; simp
  have S1:=s0.cat s1
  have l0:h0.length=h.length + 1:=by rw [← hh0]; simp
  have l1:h1.length=h.length + 2:=by rw [← hh1]; simp [l0]
  rw [Zdg oa]
  simp only [Zay,Zai,Zat,Zae,Zak]
  refine (Zky (m.same S1) (fun j hj=>⟨by have:=(hSi j hj).1; omega,(hSi j hj).2⟩) hdom ht hw (r.same S1)).mono ?_
  rintro v h2 ⟨s2,va,rfl,r2⟩
  obtain ⟨at',ct,et,vts,rfl,row2,hSt,hvtl,hvt2⟩:=r2.parts
  have oa2:=s2.get oa (Own.lt oa)
  have oz2:=s2.get oz (Own.lt oz)
  have l2:=s2.le
  simp only [Zft,Zai,Zat,Zae,Zak]
  rw [Zbd oa2 (by simp)]
  simp only [Zau,putRow,List.take_zero,List.length_cons,List.length_nil,List.drop_succ_cons,List.drop_zero,List.drop_nil,List.cons_append,List.nil_append,List.append_nil,Nat.zero_add]
  generalize hh3:h2.set h.length (.cells Zab [.int .u8 (u.hd:Int),.slice at' u.ps.length ct et] false)=h3
  have oa3:h3[h.length]?=some (.cells Zab [.int .u8 (u.hd:Int),.slice at' u.ps.length ct et] false):=by rw [← hh3]; exact Zca oa2
  have l3:h3.length=h2.length:=by rw [← hh3]; simp
  have k3:∀ j,j≠h.length→h3[j]?=h2[j]?:=fun j hj=>by rw [← hh3]; exact Zbk fun e=>hj e.symm
  have oz3:h3[h0.length]?=some (.cells Zab [.int .u8 0,.slice none 0 0 true] false):=by rw [k3 _ (by omega)]; exact oz2
  have S3:Zbg h.length h h3:=⟨by omega,fun j hj=>by rw [k3 j (by omega),s2.eq j (by omega)]; exact S1.eq j hj⟩
  simp only [Zag oa3,List.getElem?_cons_succ,List.getElem?_cons_zero,Zae]
  generalize hh4:h3 ++ [Zcj.cells Zab [] false]=h4
  have s4:Zbg h3.length h3 h4:=by rw [← hh4]; exact Zax
  have o4:h4[h3.length]?=some (.cells Zab [] false):=by rw [← hh4]; simp
  have l4:h4.length=h3.length + 1:=by rw [← hh4]; simp
  rw [Zlu]
  rw [← hd] at oa3 ⊢
  generalize hhB:h4 ++ [Zcj.cells Zab [.int .u8 (d:Int),.slice (some (h3.length,0)) 0 0 true] false]=hB
  have sB:Zbg h4.length h4 hB:=by rw [← hhB]; exact Zax
  obtain ⟨oi,hoi⟩:∃ oi,oi=h4.length:=⟨_,rfl⟩
  obtain ⟨rb,hrb⟩:∃ rb,rb=h3.length:=⟨_,rfl⟩
  have oB:hB[oi]?=some (.cells Zab [.int .u8 (d:Int),.slice (some (rb,0)) 0 0 true] false):=by rw [← hhB,hoi,hrb]; simp
  have lB:hB.length=h4.length + 1:=by rw [← hhB]; simp
  have rB:hB[rb]?=some (.cells Zab [] false):=by rw [hrb]; exact sB.get o4 (Own.lt o4)
  have zB:=sB.get (s4.get oz3 (Own.lt oz3)) (by have:=Own.lt oz3; omega)
  have oaB:=sB.get (s4.get oa3 (Own.lt oa3)) (by have:=Own.lt oa3; omega)
  have SB:=(S3.cat s4).cat sB
  rw [← hoi]
  simp only [Zau,Zag oaB,List.getElem?_cons_succ,List.getElem?_cons_zero,Zak]
  have holdS:∀ h':Zaa,Zbg h.length h h'→∀ j,S j→h'[j]?=h2[j]?:=fun h' hS j hj=>by
   have:=(hSi j hj).1
   rw [hS.eq j this,← S1.eq j this,← s2.eq j (by omega)]
  have hold:∀ h':Zaa,Zbg h.length h h'→∀ j o,u.ps.length * 2≠0→at'=some (j,o)→h'[j]?=h2[j]?:=fun h' hS j o h0 ha=>holdS h' hS j (hSt j o (by omega) ha)
  have rowB:=row2
  have hvt:=hvt2
  have hSQ:∀ h':Zaa,h.length≤h'.length→∀ j,S j→j < h'.length∧j≠i:=fun h' hl j hj=>⟨by have:=(hSi j hj).1; omega,(hSi j hj).2⟩
  refine Zfi.L4ind (J:=fun (g:Nat) x18 h'=>x18=(g:Int)∧g≤u.ps.length∧Zbg h.length h h'∧hB.length≤h'.length∧h'[h0.length]?=some (.cells Zab [.int .u8 0,.slice none 0 0 true] false) ∧
   ∃ (a:Pt) (cp:Nat) (e:Bool) (vs:List (List Zac)),h'[oi]?=some (.cells Zab [.int .u8 (d:Int),.slice a g cp e] false)∧vs.length=g∧Vec Zab h' a g cp vs.flatten∧(∀ j,a=some (j,0)→j=rb ∨ hB.length≤j) ∧
    ∀ (k:Nat) (v:List Zac) (x:Ty),vs[k]?=some v→u.ps[k]?=some x→Zdd (fun j=>hB.length≤j∧∀ j0,a=some (j0,0)→j≠j0) h' (sb V12 F x) v) (m:=fun g=>u.ps.length - g) (hr:=?_) (g:=0)
   (hj:=⟨rfl,by omega,SB,Nat.le_refl _,zB,some (rb,0),0,true,[],oB,rfl,Vec.mk1 (by simpa using rB),fun j hj=>by cases hj; exact .inl rfl,by simp⟩)
  rintro g x18 h' ⟨rfl,hg,hS,hl4,hz,a,cp,e,vs,ho,hvl,hv,ha,hp⟩ R hR
  unfold Zfi.L4t
  have hz2:∀ v∈vs,v.length=2:=fun v hv=>by
   obtain ⟨k,hk,rfl⟩:=List.mem_iff_getElem.1 hv
   exact (hp k vs[k] (u.ps[k]'(by omega)) (List.getElem?_eq_getElem hk) (List.getElem?_eq_getElem (by omega))).len
  refine Zan (fun hlt=>?_) (fun hge=>?_)
  ·have hgt:g < u.ps.length:=by omega
   obtain ⟨jt,oft,a4,c4,e4,rfl,hrt,hkt⟩:=Zdd.get (Yfw rowB (by omega) fun j o h0 ha _=>hold h' hS j o h0 ha) hvtl (fun k w x h1 h2=>(hvt k w x h1 h2).agree fun j hj=>holdS h' hS j hj) hgt
   simp only [Zaq,Int.toNat_natCast,hrt,Zay,Zai,Zat,Zae,Zak,Zbi]
   rw [Zlu]
   generalize hq:h' ++ [Zcj.cells Zab [.int .u8 (u.ps[g].hd:Int),.slice a4 u.ps[g].ps.length c4 e4] false]=hq'
   have sq:Zbg h'.length h' hq':=by rw [← hq]; exact Zax
   have oq:=sq.get ho (Own.lt ho)
   simp only [Zau,Zag oq,Nat.zero_add,List.getElem?_cons_succ,List.getElem?_cons_zero,Zak]
   rw [← hq,Zzx,hq]
   simp only [Zay,Zai,Zat,Zae,Zak,true_and]
   have hmt:=List.getElem_mem hgt
   have hlq:=sq.le
   have hSle:=hS.le
   have SQ:=hS.cat sq
   refine ⟨by omega,(ih (by have:=Ziv (V:=V12) hmt F; omega) (m.same SQ) (hSQ hq' SQ.le) (Zzr hu _ hmt) (hkt.same sq)).mono ?_⟩
   rintro v h5 ⟨s5,nv,rfl,hn5⟩
   obtain ⟨na,nc,ne,hnv⟩:=hn5.shape
   rw [hnv] at hn5
   have o5:=s5.get oq (Own.lt oq)
   simp only [hnv,Zft,Zai,Zat,Zae,Zak,Zag o5,List.getElem?_cons_succ,List.getElem?_cons_zero,true_and]
   have hc6:Zaj (h5 ++ [Zcj.cells Zab [.int .u8 ((sb V12 F u.ps[g]).hd:Int),.slice na (sb V12 F u.ps[g]).ps.length nc ne] false]) (.ptr (some (oi,1)))=some (.slice a g cp e):=by rw [Zag (Zir o5)]; rfl
   refine ⟨by rw [hc6],?_⟩
   have v5:=(hv.same sq).same s5
   have hl5:=s5.le
   refine v5.pushN Ztk Zzl Zwp Zzc (by rw [Zro hz2]; omega) rfl (by omega) rfl (by omega) (fun h7 hl7 hi7 hk7=>?_)
   simp only [Zak]
   have hz5:=s5.get (sq.get hz (Own.lt hz)) (by have:=Own.lt hz; omega)
   have o7:h7[oi]?=some (.cells Zab [.int .u8 (d:Int),.slice a g cp e] false):=by
    rw [hk7 _ (Own.lt o5) fun j hj=>by rcases ha j hj with hh | hh <;> omega]; exact o5
   rw [Zbd o7 (by simp)]
   simp only [Zau,putRow,List.take_succ_cons,List.take_zero,List.length_cons,List.length_nil,List.drop_succ_cons,List.drop_nil,List.cons_append,List.nil_append,List.append_nil]
   rw [Zcm (by omega)]
   have hS5:=SQ.cat s5
   have h7o:∀ j,j < h5.length→(∀ j0,a=some (j0,0)→j≠j0)→j≠oi→(h7.set oi (Zcj.cells Zab [.int .u8 (d:Int),.slice (some (h5.length + 1,0)) (g + 1) (g + 1) false] false))[j]?=h5[j]?:=fun j hj hne hne2=>by rw [Zbk (by omega),hk7 j hj hne]
   refine hR (g + 1) _ _ (by omega) ⟨rfl,by omega,⟨by simp; omega,fun j hj=>?_⟩,by simp; omega,?_,some (h5.length + 1,0),g + 1,false,vs ++ [[.int .u8 ((sb V12 F u.ps[g]).hd:Int),.slice na (sb V12 F u.ps[g]).ps.length nc ne]],Zca o7,by simp [hvl],Vec.mk1 ?_,fun j hj=>by cases hj; right; omega,?_⟩
   ·rw [h7o j (by omega) (fun j0 hj0=>by rcases ha j0 hj0 with hh | hh <;> omega) (by omega)]; exact hS5.eq j hj
   ·rw [h7o _ (Own.lt hz5) (fun j0 hj0=>by rcases ha j0 hj0 with hh | hh <;> omega) (by omega)]; exact hz5
   ·rw [Zbk (by omega),hi7]; simp
   ·intro k v x hv' hx
    have hkeep:∀ {t':Ty} {v':List Zac},Zdd (fun j=>hB.length≤j∧∀ j0,a=some (j0,0)→j≠j0) h5 t' v'→Zdd (fun j=>hB.length≤j∧∀ j0,(some (h5.length + 1,0):Pt)=some (j0,0)→j≠j0) (h7.set oi (Zcj.cells Zab [.int .u8 (d:Int),.slice (some (h5.length + 1,0)) (g + 1) (g + 1) false] false)) t' v':=by
     intro t' v' hr
     refine Zdd.mono (S:=fun j=>(hB.length≤j∧∀ j0,a=some (j0,0)→j≠j0)∧j < h5.length) (fun j hj=>⟨hj.1.1,fun j0 e0=>by cases e0; have:=hj.2; omega⟩) (hr.below.agree fun j hj=>?_)
     exact h7o j hj.2 hj.1.2 (by have:=hj.1.1; omega)
    by_cases hkl:k < vs.length
    ·rw [List.getElem?_append_left hkl] at hv'
     exact hkeep (((hp k v x hv' hx).same sq).same s5)
    ·rw [List.getElem?_append_right (by omega)] at hv'
     have hk0:k=vs.length:=by
      by_cases e:k - vs.length=0
      ·omega
      ·rw [List.getElem?_eq_none (by simp; omega)] at hv'; cases hv'
     subst hk0
     simp at hv'
     subst hv'
     rw [hvl,List.getElem?_eq_getElem hgt] at hx
     cases hx
     refine hkeep (Zdd.mono (S:=fun j=>hq'.length≤j) (fun j hj=>⟨by omega,fun j0 e0=>?_⟩) hn5)
     have hj0:=(hv.same sq).lt' e0
     omega
  ·apply Zfi.A4x0i
   have:g=u.ps.length:=by omega
   subst this
   rw [Zhc (o:=0) (n:=2) ho (by simp)]
   simp only [List.drop_zero,List.take_succ_cons,List.take_zero,Zay,Zai,Zat,Zae,Zak]
   rw [Zbd hz (by simp)]
   simp only [Zau]
   rw [Zhc (Zca hz) (by simp [putRow])]
   simp only [putRow,List.take_zero,List.nil_append,List.length_cons,List.length_nil,List.cons_append,List.drop_succ_cons,List.drop_zero,List.drop_nil,List.append_nil,List.take_succ_cons,Zay,Zai,Zae,Zak,Zat]
   refine ⟨⟨by simp; exact hS.le,fun j hj=>by rw [Zbk (by omega)]; exact hS.eq j hj⟩,_,rfl,?_⟩
   have hget:∀ j,j≠h0.length→(h'.set h0.length (Zcj.cells Zab [.int .u8 (d:Int),.slice a u.ps.length cp e] false))[j]?=h'[j]?:=fun j hj=>Zbk (fun e=>hj e.symm)
   rw [← hTd]
   rcases hv with ⟨rfl,h0',_,hvs⟩ | ⟨j0,rfl,hj0⟩
   ·-- no parts
    have hps:T.ps=[]:=by rw [hTp,List.eq_nil_of_length_eq_zero h0']; rfl
    have hTk:=Ygd (t:=T) (by rw [hps]; rfl)
    rw [hTk,h0']
    exact ⟨_,_,_,rfl⟩
   ·have hj0n:j0≠h0.length:=by rcases ha j0 rfl with hh | hh <;> omega
    have hS4:=ha j0 rfl
    refine Zdd.make (S:=fun j=>h.length≤j) (t:=T) (j:=j0) (n:=u.ps.length) (c:=cp) (e:=e) (vs:=vs) (by rw [hTp,List.length_map]) (by rcases hS4 with hh | hh <;> omega) (by rw [hTd,hget j0 hj0n]; exact hj0) hvl (fun k w x hw hx=>?_)
    rw [hTp,List.getElem?_map] at hx
    obtain ⟨y,hy,rfl⟩:=Option.map_eq_some_iff.1 hx
    have hr:=hp k w y hw hy
    rw [hTd]
    refine Zdd.mono (S:=fun j=>hB.length≤j∧∀ j1,(some (j0,0):Pt)=some (j1,0)→j≠j1) (fun j hj=>by have:=hj.1; omega) (hr.agree fun j hj=>hget j (by have:=hj.1; omega))
end
end Go.Sim

set_option linter.unusedVariables false
set_option linter.unusedSimpArgs false
set_option maxRecDepth 20000
namespace Go.Sim
open Go Go.RowKit

theorem Zui {c d:Nat} (hc:V12 c=true) (hd:V12 d=true) (h:Zit c=Zit d):c=d:=by
 obtain ⟨k,hk,hkv,hix⟩:=Zhg hc
 obtain ⟨k',hk',hkv',hix'⟩:=Zhg hd
 unfold Zit at h
 rw [hix,hix'] at h
 have:k=k':=by simpa using h
 subst this
 rw [hkv] at hkv'
 exact Option.some.inj hkv'
def tg (σ:Nat→Option Ty) (F:Nat→Ty) (k:Nat):Nat→Option Ty:=fun c=>if V12 c=true∧Zit c < k∧σ c≠none then some (F c) else none
theorem Zwj {P:Ty→Prop} (hP:∀ t,P t→okL Zma t=true) (hPs:∀ t,P t→∀ p∈t.ps,P p) {S:Nat→Prop} {h:Zaa} {a b:Ty} {va vb:List Zac} (hS:∀ j,S j→j < h.length) (ha:P a) (hb:P b) (ra:Zdd S h a va) (rb:Zdd S h b vb) :
  Zad pg Zhf [.agg va,.agg vb] h fun v h'=>Zbg h.length h h'∧∃ q bl,v=.tup [.ptr (some (q,0)),.bool bl]∧((bl=true∧∃ σ F,Rsv V12 σ F∧(∀ θ,Sol V12 σ θ ↔ sb V12 θ a=sb V12 θ b)∧Inc Zit V12 σ∧(∀ c t,σ c=some t→P (.k c)∧P t) ∧
   ∃ S',(∀ j,S' j→j≠q)∧Zjt S' h' q (tg σ F 12)) ∨ (bl=false∧∀ θ:Nat→Ty,sb V12 θ a≠sb V12 θ b)):=by
 obtain ⟨aa,ca,ea,rfl⟩:=ra.shape
 obtain ⟨ab,cb,eb,rfl⟩:=rb.shape
 apply Zdf.call
 rw [← Ydy]
 simp only [Zbi]
 generalize hh0:h ++ [Zcj.cells Zab [.int .u8 (a.hd:Int),.slice aa a.ps.length ca ea] false]=h0
 generalize hh1:h0 ++ [Zcj.cells Zab [.int .u8 (b.hd:Int),.slice ab b.ps.length cb eb] false]=h1
 generalize hh2:h1 ++ [Zcj.cells Zbu (Zdz eR (List.replicate 12 (Zac.int .u8 0,Zac.slice none 0 0 true))) false]=h2
 have s0:Zbg h.length h h0:=by rw [← hh0]; exact Zax
 have s1:Zbg h0.length h0 h1:=by rw [← hh1]; exact Zax
 have s2:Zbg h1.length h1 h2:=by rw [← hh2]; exact Zax
 have l0:h0.length=h.length + 1:=by rw [← hh0]; simp
 have l1:h1.length=h.length + 2:=by rw [← hh1]; simp [l0]
 have l2:h2.length=h.length + 3:=by rw [← hh2]; simp [l1]
 have oa0:h0[h.length]?=some (.cells Zab [.int .u8 (a.hd:Int),.slice aa a.ps.length ca ea] false):=by rw [← hh0]; simp
 have oa:=(s1.cat s2).get oa0 (Own.lt oa0)
 have ob1:h1[h0.length]?=some (.cells Zab [.int .u8 (b.hd:Int),.slice ab b.ps.length cb eb] false):=by rw [← hh1]; simp
 have ob:=s2.get ob1 (Own.lt ob1)
 have om:h2[h1.length]?=some (.cells Zbu (Zdz eR (List.replicate 12 (Zac.int .u8 0,Zac.slice none 0 0 true))) false):=by rw [← hh2]; simp
 have S2:=(s0.cat s1).cat s2
 rw [Zdg oa,Zdg ob]
 simp only [Zay,Zai,Zat,Zae,Zak]
 refine (Zvf (S:=S) (i:=h1.length) hP hPs _ _ (Nat.le_refl _) (Nat.le_refl _) Rsv.nil (fun c d hc=>by cases hc) (fun c t hc=>by cases hc) (Zjt.nil om) (fun j hj=>⟨by have:=hS j hj; omega,by have:=hS j hj; omega⟩) ha hb (ra.same S2) (rb.same S2)).mono ?_
 rintro v h3 ⟨K3,⟨rfl,σ,F,m3,rs,hsol,hi,hσ,_⟩ | ⟨rfl,hno⟩⟩
 ·have hdom:∀ c u,σ c=some u→V12 c=true∧okL Zma u=true:=fun c u h=>⟨rs.dom c u h,hP u (hσ c u h).2⟩
  simp only [Zaf,Bool.not_true,Zas]
  have l3:=K3.le
  have S3:Zbg h.length h h3:=⟨by omega,fun j hj=>by rw [K3.eq j (by omega) (by omega)]; exact S2.eq j hj⟩
  generalize hhB:h3 ++ [Zcj.cells Zbu (Zdz eR (List.replicate 12 (Zac.int .u8 0,Zac.slice none 0 0 true))) false]=hB
  have sB:Zbg h3.length h3 hB:=by rw [← hhB]; exact Zax
  have oB:hB[h3.length]?=some (.cells Zbu (Zdz eR (List.replicate 12 (Zac.int .u8 0,Zac.slice none 0 0 true))) false):=by rw [← hhB]; simp
  have lB:hB.length=h3.length + 1:=by rw [← hhB]; simp
  have mB:=m3.same sB
  have hSB:∀ j,S j→j < h3.length:=fun j hj=>by have:=hS j hj; omega
  have tg0:tg σ F 0=fun _=>none:=by funext c; simp [tg]
  refine Zdf.L6ind (J:=fun (k:Nat) x19 h'=>x19=(k:Int)∧k≤12∧Zfl h3.length hB h'∧Zjt (fun j=>hB.length≤j) h' h3.length (tg σ F k)) (m:=fun k=>12 - k) (hr:=?_) (g:=0) (hj:=⟨rfl,by omega,Zfl.refl _ _,by rw [tg0]; exact Zjt.nil oB⟩)
  rintro k x19 h4 ⟨rfl,hk,K4,mo⟩ R hR
  unfold Zdf.L6t
  have l4:=K4.le
  refine Zan (fun hlt=>?_) (fun hge=>?_)
  ·have hk12:k < 12:=by omega
   obtain ⟨v,hv⟩:∃ v,Zdh[k]?=some v:=⟨_,List.getElem?_eq_getElem (show k < Zdh.length from hk12)⟩
   have hvv:=Zzn hv
   have hrv:Zit v=k:=by
    obtain ⟨k',hk',hkv',hix'⟩:=Zhg hvv
    have h5:=List.getElem?_eq_some_iff.1 hv
    have h6:=List.getElem?_eq_some_iff.1 hkv'
    have:k=k':=(List.getElem_inj (h₀:=h5.1) (h₁:=h6.1) Zrq).1 (h5.2.trans h6.2.symm)
    unfold Zit; rw [hix',this]; rfl
   have m4:Zjt S h4 h1.length σ:=mB.keep (K4.eq _ (by omega) (by omega)) fun j hj _=>K4.eq j (by have:=hSB j hj; omega) (by have:=hSB j hj; omega)
   obtain ⟨x,hx1,hx2,hx3⟩:=m4.get hv
   have next:∀ h',Zfl h3.length hB h'→Zjt (fun j=>hB.length≤j) h' h3.length (tg σ F (k + 1))→Zdf.J10 (fun v h'=>Zbg h.length h h'∧∃ q bl,v=.tup [.ptr (some (q,0)),.bool bl]∧((bl=true∧∃ σ F,Rsv V12 σ F∧(∀ θ,Sol V12 σ θ ↔ sb V12 θ a=sb V12 θ b)∧Inc Zit V12 σ∧(∀ c t,σ c=some t→P (.k c)∧P t) ∧
     ∃ S',(∀ j,S' j→j≠q)∧Zjt S' h' q (tg σ F 12)) ∨ (bl=false∧∀ θ:Nat→Ty,sb V12 θ a≠sb V12 θ b))) R (k:Int) h1.length 0 h3.length 0 h':=by
    intro h' K' m'
    apply Zdf.J10i
    rw [Zcm (by omega)]
    exact hR (k + 1) _ _ (by omega) ⟨rfl,by omega,K',m'⟩
   simp only [Int.toNat_natCast,hx1]
   cases hs:σ v with
   | none=>
    rw [hs] at hx3
    simp only at hx3
    subst hx3
    simp only [Zae,show ((0:Int) == 0)=true from rfl,Bool.not_true,Zas]
    have:tg σ F (k + 1)=tg σ F k:=by
     funext c
     unfold tg
     by_cases hc:V12 c=true∧σ c≠none
     ·have hne:Zit c≠k:=fun e=>hc.2 (by rw [Zui hc.1 hvv (by rw [e,hrv])]; exact hs)
      have:(Zit c < k + 1) ↔ Zit c < k:=by omega
      simp [hc,this]
     ·have h1:¬ (V12 c=true∧Zit c < k + 1∧σ c≠none):=fun h=>hc ⟨h.1,h.2.2⟩
      have h2:¬ (V12 c=true∧Zit c < k∧σ c≠none):=fun h=>hc ⟨h.1,h.2.2⟩
      rw [if_neg h1,if_neg h2]
    refine ⟨by omega,next h4 K4 (by rw [this]; exact mo)⟩
   | some t=>
    rw [hs] at hx3
    simp only at hx3
    have htok:=(hdom _ _ hs).2
    obtain ⟨wa,wc,we,hwx⟩:=hx3.shape
    simp only [List.cons.injEq,and_true] at hwx
    obtain ⟨hw1,hw2⟩:=hwx
    have hne:((t.hd:Int) == 0)=false:=by
     have:=Zka htok
     have hne:t.hd≠0:=fun e=>by rw [e] at this; simp at this
     simp; omega
    rw [hw1,hw2] at hx2 hx3
    rw [hw1]
    simp only [Zae,hne,Bool.not_false,Zbe,hx2,Zay,Zai,Zat,Zak]
    refine ⟨by omega,by omega,(Zzj rs hdom _ (Nat.le_refl _) m4 (fun j hj=>⟨by have:=hSB j hj; omega,by have:=hS j hj; omega⟩) htok hx3).mono ?_⟩
    rintro v5 h5 ⟨s5,vs,rfl,r5⟩
    obtain ⟨fa,fc,fe,rfl⟩:=r5.shape
    simp only [Zft,Zai,Zat,Zae,Zak]
    have l5:=s5.le
    obtain ⟨h6,hst,K6,m6⟩:=(mo.same s5).put (fun j hj=>by omega) hv (t:=sb V12 F t) (x:=.int .u8 ((sb V12 F t).hd:Int)) (y:=.slice fa (sb V12 F t).ps.length fc fe) (r5.mono fun j hj=>by omega)
    rw [hst]
    simp only [Zau]
    have:tg σ F (k + 1)=upd (tg σ F k) v (sb V12 F t):=by
     funext c
     unfold upd
     by_cases e:c=v
     ·subst e
      rw [if_pos rfl,← rs.som c t hs]
      unfold tg
      rw [if_pos ⟨hvv,by omega,by rw [hs]; simp⟩]
     ·rw [if_neg e]
      unfold tg
      by_cases hc:V12 c=true
      ·have hne:Zit c≠k:=fun e'=>e (Zui hc hvv (by rw [e',hrv]))
       have:(Zit c < k + 1) ↔ Zit c < k:=by omega
       simp [this]
      ·simp [hc]
    exact ⟨by omega,next h6 ((K4.trans (Zwk s5)).trans K6) (by rw [this]; exact m6)⟩
  ·apply Zdf.A6x0i
   have:k=12:=by omega
   subst this
   refine ⟨⟨by omega,fun j hj=>by rw [K4.eq j (by omega) (by omega),sB.eq j (by omega)]; exact S3.eq j hj⟩,_,_,rfl,.inl ⟨rfl,σ,F,rs,fun θ=>?_,hi,hσ,_,fun j hj=>?_,mo⟩⟩
   ·rw [hsol θ]; exact ⟨And.right,fun h=>⟨Sol.nil,h⟩⟩
   ·have:hB.length≤j:=hj
    omega
 ·simp only [Zaf,Bool.not_false,Zbe]
  refine ⟨⟨by have:=K3.le; omega,fun j hj=>by rw [K3.eq j (by omega) (by omega)]; exact S2.eq j hj⟩,_,_,rfl,.inr ⟨rfl,fun θ=>hno θ Sol.nil⟩⟩
end Go.Sim

set_option linter.unusedVariables false
set_option linter.unusedSimpArgs false
set_option maxRecDepth 20000
namespace Go.Sim
open Go Go.RowKit

end Go.Sim

set_option linter.unusedVariables false
set_option linter.unusedSimpArgs false
set_option maxRecDepth 20000
namespace Go.Sim
open Go Go.RowKit

end Go.Sim

set_option linter.unusedVariables false
set_option linter.unusedSimpArgs false
set_option maxRecDepth 20000
namespace Go.Sim
open Go Go.RowKit

end Go.Sim

set_option linter.unusedVariables false
set_option linter.unusedSimpArgs false
set_option maxRecDepth 20000
namespace Go.Sim
open Go Go.RowKit

theorem Zdv.low {α:Type} {ty:TypeId} {enc:α→List Zac} {b b':Nat} {h:Zaa} {a:Pt} {n:Nat} {l:List α} (f:Zdv ty enc b h a n l) (hb:b'≤b):Zdv ty enc b' h a n l:=
 ⟨f.1,f.2.imp id fun ⟨i,ha,hbi,hi⟩=>⟨i,ha,by omega,hi⟩⟩
end Go.Sim

set_option linter.unusedVariables false
set_option linter.unusedSimpArgs false
set_option maxRecDepth 20000
namespace Go.Sim
open Go Go.RowKit

theorem Row.i64 {b:Nat} {h:Zaa} {a:Pt} {n:Nat} {l:List Int} (r:Row b h a n (Zdz eI l)) {k:Nat} (hk:k < n):∃ i o,∃ hk':k < l.length,a=some (i,o)∧i < b∧Zaj h (.ptr (some (i,o + k * 1)))=some (.int .i64 l[k]):=by
 obtain ⟨i,o,hk',ha,hi,hc⟩:=Row.el1 Yfv r hk
 exact ⟨i,o,hk',ha,hi,hc⟩
end Go.Sim

set_option linter.unusedVariables false
set_option linter.unusedSimpArgs false
set_option maxRecDepth 20000
namespace Go.Sim
open Go Go.RowKit

theorem Zmh.mono {S S':Nat→Prop} {h:Zaa} {i:Nat} {m:Bd} (r:Zmh S h i m) (hs:∀ j,S j→S' j):Zmh S' h i m:=by
 obtain ⟨rows,h1,h2,h3⟩:=r
 refine ⟨rows,h1,h2,fun k x hx=>?_⟩
 have:=h3 k x hx
 split at this
 ·exact this.mono hs
 ·exact this
theorem Zmh.below {S:Nat→Prop} {h:Zaa} {i:Nat} {m:Bd} (r:Zmh S h i m):Zmh (fun j=>S j∧j < h.length) h i m:=by
 obtain ⟨rows,h1,h2,h3⟩:=r
 refine ⟨rows,h1,h2,fun k x hx=>?_⟩
 have:=h3 k x hx
 split at this
 ·exact Zdd.below this
 ·exact this
end Go.Sim

set_option linter.unusedSimpArgs false
set_option linter.unusedVariables false
namespace Go.Sim
structure Zor (G:Gr) (N:List Nat) (lk:Nat→Option Nat) (a b:Nat) (lk':Nat→Option Nat):Prop where
 ext:Zqp lk lk'
 gok:GOk G N lk'
 jnd:Jnd lk' a b
 new:∀ n m,n∈N→lk' n=some m→lk n=some m ∨ Yej G lk' n m
 pres:∀ val,Str G N val→val a=val b→Rsp N lk val→Rsp N lk' val
def UNo (G:Gr) (N:List Nat) (lk:Nat→Option Nat) (a b:Nat):Prop:=∀ val,Str G N val→Rsp N lk val→val a≠val b
structure Zws (G:Gr) (N:List Nat) (lk:Nat→Option Nat) (a b:Nat) (lk':Nat→Option Nat) (i:Nat):Prop where
 ext:Zqp (lnk lk a b) lk'
 gok:GOk G N lk'
 jn:∀ j p q,j < i→(G.ps a)[j]?=some p→(G.ps b)[j]?=some q→Jnd lk' p q
 new:∀ n m,n∈N→lk' n=some m→lnk lk a b n=some m ∨ Yej G lk' n m
 pres:∀ val,Str G N val→val a=val b→Rsp N lk val→Rsp N lk' val
section
variable {G:Gr} {N:List Nat} {lk lk' lk'':Nat→Option Nat} {a b p q i:Nat}
theorem Zws.start (g:GOk G N lk) (hb:b∈N) (ha0:lk a=none) (hb0:lk b=none) (hne:a≠b):Zws G N lk a b (lnk lk a b) 0:=
 ⟨Zqp.refl _,g.link hb ha0 hb0 hne,fun j p q h=>by omega,fun n m _ h=>.inl h,fun val _ he hr=>hr.link he⟩
theorem Zws.step (u:Zws G N lk a b lk' i) (hp:(G.ps a)[i]?=some p) (hq:(G.ps b)[i]?=some q) (ha:Zao (G.hd a)=false) (haN:a∈N) (hbN:b∈N) (hh:G.hd a=G.hd b) (y:Zor G N lk' p q lk''):Zws G N lk a b lk'' (i + 1):=by
 refine ⟨u.ext.trans y.ext,y.gok,fun j p' q' hj hp' hq'=>?_,fun n m hn h=>?_,fun val hs he hr=>?_⟩
 ·by_cases e:j=i
  ·subst e; rw [hp] at hp'; rw [hq] at hq'; cases hp'; cases hq'; exact y.jnd
  ·exact (u.jn j p' q' (by omega) hp' hq').ext y.ext
 ·rcases y.new n m hn h with h | h
  ·rcases u.new n m hn h with h | h
   ·exact .inl h
   ·exact .inr (h.ext y.ext)
  ·exact .inr h
 ·refine y.pres val hs ?_ (u.pres val hs he hr)
  have h1:=(hs a haN ha).2
  have h2:=(hs b hbN (by rw [← hh]; exact ha)).2
  rw [he,h2] at h1
  have:=congrArg (·[i]?) h1
  simp only [List.getElem?_map,hp,hq,Option.map_some,Option.some.injEq] at this
  exact this.symm
theorem Zws.done (u:Zws G N lk a b lk' (G.ps a).length) (ha0:lk a=none) (hf:Zao (G.hd a)=false→G.hd b=G.hd a) (hv:Zao (G.hd a)=true→Zao (G.hd b)=true→G.hd a≤G.hd b):Zor G N lk a b lk':=by
 have hab:lk' a=some b:=u.ext a b (by simp [lnk])
 refine ⟨(Zqd ha0).trans u.ext,u.gok,.of_path (.step hab .refl),fun n m hn h=>?_,u.pres⟩
 rcases u.new n m hn h with h | h
 ·unfold lnk at h
  by_cases e:n=a
  ·rw [if_pos e] at h; cases h; subst e
   exact .inr ⟨fun hn'=>⟨hf hn',fun j p q h1 h2=>u.jn j p q (List.getElem?_eq_some_iff.1 h1).1 h1 h2⟩,hv⟩
  ·rw [if_neg e] at h; exact .inl h
 ·exact .inr h
theorem Zws.fail (u:Zws G N lk a b lk' i) (hp:(G.ps a)[i]?=some p) (hq:(G.ps b)[i]?=some q) (ha:Zao (G.hd a)=false) (haN:a∈N) (hbN:b∈N) (hh:G.hd a=G.hd b) (y:UNo G N lk' p q):UNo G N lk a b:=by
 intro val hs hr he
 refine y val hs (u.pres val hs he hr) ?_
 have h1:=(hs a haN ha).2
 have h2:=(hs b hbN (by rw [← hh]; exact ha)).2
 rw [he,h2] at h1
 have:=congrArg (·[i]?) h1
 simp only [List.getElem?_map,hp,hq,Option.map_some,Option.some.injEq] at this
 exact this.symm
theorem UNo.clash (haN:a∈N) (hbN:b∈N) (ha:Zao (G.hd a)=false) (hb:Zao (G.hd b)=false) (hh:G.hd a≠G.hd b):UNo G N lk a b:=by
 intro val hs _ he
 have h1:=(hs a haN ha).1
 have h2:=(hs b hbN hb).1
 rw [he] at h1
 exact hh (h1.symm.trans h2)
theorem UNo.symm (h:UNo G N lk a b):UNo G N lk b a:=fun val hs hr he=>h val hs hr he.symm
theorem Zor.symm (h:Zor G N lk a b lk'):Zor G N lk b a lk':=⟨h.ext,h.gok,h.jnd.symm,h.new,fun val hs he hr=>h.pres val hs he.symm hr⟩
theorem Zor.same (g:GOk G N lk):Zor G N lk a a lk:=⟨Zqp.refl _,g,.refl a,fun n m _ h=>.inl h,fun val _ _ hr=>hr⟩
theorem Zor.path (g:GOk G N lk) {a0 b0 i j:Nat} (ha:a0∈N) (hb:b0∈N) (h1:Pth lk i a0 a) (h2:Pth lk j b0 b) (h:Zor G N lk a b lk'):Zor G N lk a0 b0 lk':=
 ⟨h.ext,h.gok,((Jnd.of_path (h1.ext h.ext)).trans h.jnd).trans (Jnd.of_path (h2.ext h.ext)).symm,h.new,fun val hs he hr=>h.pres val hs (by rw [← hr.path g ha h1,← hr.path g hb h2,he]) hr⟩
theorem UNo.path (g:GOk G N lk) {a0 b0 i j:Nat} (ha:a0∈N) (hb:b0∈N) (h1:Pth lk i a0 a) (h2:Pth lk j b0 b) (h:UNo G N lk a b):UNo G N lk a0 b0:=
 fun val hs hr he=>h val hs hr (by rw [← hr.path g ha h1,← hr.path g hb h2,he])
theorem Zor.cls (y:Zor G N (fun _=>none) a b lk'):Cls G N lk':=fun n m hn h=>(y.new n m hn h).resolve_left (by simp)
theorem Rsp.none {val:Nat→Ty}:Rsp N (fun _=>Option.none) val:=fun n m _ h=>by cases h
theorem GOk.ends (g:GOk G N lk) {n:Nat} (hn:n∈N):∃ k e,Pth lk k n e∧lk e=none∧e∈N:=by
 obtain ⟨k,e,h1,h2⟩:=g.end_ n hn
 exact ⟨k,e,h1,h2,g.path hn h1⟩
end
end Go.Sim

set_option linter.unusedSimpArgs false
set_option linter.unusedVariables false
namespace Go.Sim
def GAg (N:List Nat) (G G':Gr):Prop:=∀ n∈N,G'.hd n=G.hd n∧G'.ps n=G.ps n
theorem GAg.refl (N:List Nat) (G:Gr):GAg N G G:=fun _ _=>⟨rfl,rfl⟩
theorem GAg.trans {N N':List Nat} {G G' G'':Gr} (h:GAg N G G') (k:GAg N' G' G'') (hN:∀ n∈N,n∈N'):GAg N G G'':=fun n hn=>⟨((k n (hN n hn)).1).trans (h n hn).1,((k n (hN n hn)).2).trans (h n hn).2⟩
def GCl (G:Gr) (N:List Nat):Prop:=∀ n∈N,∀ p∈G.ps n,p∈N
section
variable {G G':Gr} {N:List Nat} {nu nu':Nat→Nat}
theorem Raw.agree {n:Nat} {t:Ty} (r:Raw G nu n t) (ag:GAg N G G') (cl:GCl G N) (hnu:∀ x∈N,nu' x=nu x):n∈N→Raw G' nu' n t:=by
 induction r with
 | @var n h=>intro hn; rw [← hnu n hn]; exact .var (by rw [(ag n hn).1]; exact h)
 | @cst n h h1=>intro hn; rw [← (ag n hn).1]; exact .cst (by rw [(ag n hn).1]; exact h) (by rw [(ag n hn).2]; exact h1)
 | @one n p s h h1 _ ih=>
  intro hn
  rw [← (ag n hn).1]
  exact .one (by rw [(ag n hn).1]; exact h) (by rw [(ag n hn).2]; exact h1) (ih (cl n hn p (by rw [h1]; simp)))
 | @two n p q s t h h1 _ _ ih1 ih2=>
  intro hn
  rw [← (ag n hn).1]
  exact .two (by rw [(ag n hn).1]; exact h) (by rw [(ag n hn).2]; exact h1) (ih1 (cl n hn p (by rw [h1]; simp))) (ih2 (cl n hn q (by rw [h1]; simp)))
theorem Sub.agree {n x:Nat} (s:Sub G n x) (ag:GAg N G G') (cl:GCl G N):n∈N→Sub G' n x:=by
 induction s with
 | refl=>exact fun _=>.refl
 | @part n p x hp _ ih=>intro hn; exact .part (by rw [(ag n hn).2]; exact hp) (ih (cl n hn p hp))
theorem Sub.trans {x y z:Nat} (h:Sub G x y) (k:Sub G y z):Sub G x z:=by
 induction h with
 | refl=>exact k
 | part hp _ ih=>exact .part hp (ih k)
variable {lk:Nat→Option Nat} {V:Nat→Bool}
theorem VT.ok (g:GOk G N lk) {n:Nat} {t:Ty} (v:VT G lk nu n t) (hnu:∀ x∈N,Zao (G.hd x)=true→Zao (nu x)=true):n∈N→t.ok=true:=by
 induction v with
 | @var n e k h1 h2 h3=>
  intro hn
  have:=hnu e (g.path hn h1) h3
  simp only [Ty.ok,Zda,this,Bool.or_true]
 | @cst n e k h1 h2 h3 h4=>
  intro hn
  have:=g.ar e (g.path hn h1)
  rw [h4] at this
  simp only [Ty.ok]
  unfold arN at this
  cases hl:Zda (G.hd e) with
  | true=>rfl
  | false=>
   rw [hl] at this
   simp only [Bool.false_eq_true,if_false,List.length_nil] at this
   split at this
   ·simp at this
   ·split at this <;> simp at this
 | @one n e k p s h1 h2 h3 h4 _ ih=>
  intro hn
  have he:=g.path hn h1
  have:=g.ar e he
  rw [h4] at this
  simp only [Ty.ok,ih (g.par e he p (by rw [h4]; simp)),Bool.and_true]
  unfold arN at this
  split at this
  ·simp at this
  ·split at this
   ·assumption
   ·split at this <;> simp at this
 | @two n e k p q s t h1 h2 h3 h4 _ _ ih1 ih2=>
  intro hn
  have he:=g.path hn h1
  have:=g.ar e he
  rw [h4] at this
  simp only [Ty.ok,ih1 (g.par e he p (by rw [h4]; simp)),ih2 (g.par e he q (by rw [h4]; simp)),Bool.and_true]
  unfold arN at this
  split at this
  ·simp at this
  ·split at this
   ·simp at this
   ·split at this
    ·assumption
    ·simp at this
structure Two (G:Gr) (N:List Nat) (nu:Nat→Nat) (V:Nat→Bool) (a b:Nat) (ta tb:Ty):Prop where
 aN:a∈N
 bN:b∈N
 nv:Zxa G N nu V
 ra:Raw G nu a ta
 rb:Raw G nu b tb
 raw:∀ n∈N,∃ t,Raw G nu n t
 sub:∀ x∈N,Sub G a x ∨ Sub G b x
variable {a b:Nat} {ta tb:Ty}
theorem Two.no (w:Two G N nu V a b ta tb) (h:UNo G N (fun _=>none) a b):¬ ∃ θ:Nat→Ty,sb V θ ta=sb V θ tb:=by
 rintro ⟨θ,he⟩
 exact h _ (Zll w.nv w.raw θ) Rsp.none (by rw [Zef w.ra,Zef w.rb,he])
theorem Two.endless (w:Two G N nu V a b ta tb) (y:Zor G N (fun _=>none) a b lk) (h:∀ val,Str G N val→¬ Rsp N lk val):¬ ∃ θ:Nat→Ty,sb V θ ta=sb V θ tb:=by
 rintro ⟨θ,he⟩
 have hs:=Zll w.nv w.raw θ
 exact h _ hs (y.pres _ hs (by rw [Zef w.ra,Zef w.rb,he]) Rsp.none)
theorem Two.all (w:Two G N nu V a b ta tb) (y:Zor G N (fun _=>none) a b lk) {T:Ty} (v:VT G lk nu a T):∀ x∈N,∃ s,VT G lk nu x s:=by
 intro x hx
 rcases w.sub x hx with h | h
 ·exact VT.sub y.gok y.cls h w.aN v
 ·exact VT.sub y.gok y.cls h w.bN (v.jnd y.jnd)
theorem Two.sol (w:Two G N nu V a b ta tb) (y:Zor G N (fun _=>none) a b lk) {T:Ty} (v:VT G lk nu a T):sb V (grF G N lk nu) ta=T∧sb V (grF G N lk nu) tb=T:=
 Ydq y.gok y.cls w.nv w.aN w.bN y.jnd w.ra w.rb v
theorem Two.mgu (w:Two G N G.hd Zao a b ta tb) (y:Zor G N (fun _=>none) a b lk) {T:Ty} (v:VT G lk G.hd a T):Ycx ta tb (grF G N lk G.hd):=by
 have hs:=w.sol y v
 refine ⟨⟨hs.1.trans hs.2.symm,fun θ h c hc=>Ydg y.gok w.nv w.raw w.ra w.rb (fun val h1 h2=>y.pres val h1 h2 Rsp.none) h hc,fun c d hc hd h hne=>?_,fun c h=>Ydj w.nv h⟩,fun c hc=>?_⟩
 ·exact Ydv (rk:=fun c=>c) y.gok y.cls w.nv (fun x hx e he hxv hev hle hne=>Nat.lt_of_le_of_ne hle hne) hc hd h hne
 ·unfold grF
  split
  ·rename_i hx
   obtain ⟨x,hxN,hxv,_,hv⟩:=hx.choose_spec
   exact hv.ok y.gok (fun x _ h=>h) hxN
  ·simp only [Ty.ok,Zda,hc,Bool.or_true]
theorem Two.bound (w:Two G N G.hd Zao a b ta tb) (y:Zor G N (fun _=>none) a b lk) {x:Nat} (hx:x∈N) (hv:Zao (G.hd x)=true) {s:Ty} (v:VT G lk G.hd x s):grF G N lk G.hd (G.hd x)=s∧(s=.k (G.hd x) ↔ lk x=none):=by
 refine ⟨Zyx w.nv hx hv v,?_⟩
 constructor
 ·have key:∀ {s:Ty},VT G lk G.hd x s→s=.k (G.hd x)→lk x=none:=by
   intro s v
   cases v with
   | @var _ e k h1 h2 h3=>
    intro he
    injection he with he
    have:=w.nv.inj e (y.gok.path hx h1) x hx h3 hv he
    rw [← this]; exact h2
   | @cst _ e k h1 h2 h3 h4=>
    intro he
    injection he with he
    rw [he,hv] at h3; cases h3
   | one=>intro he; cases he
   | two=>intro he; cases he
  exact key v
 ·intro h0
  exact v.det (.var .refl h0 hv)
end
end Go.Sim

set_option linter.unusedVariables false
set_option linter.unusedSimpArgs false
set_option maxRecDepth 20000
namespace Go.Sim
open Go Go.RowKit

structure GH (h:Zaa) (G:Gr) (N:List Nat) (lk:Nat→Option Nat) (Z:Nat→Prop):Prop where
 node:∀ n∈N,∃ a c e,h[n]?=some (.cells Zav [.str [G.hd n],.slice a (G.ps n).length c e,.ptr ((lk n).map fun m=>(m,0))] false) ∧
  Row h.length h a (G.ps n).length ((G.ps n).map fun p=>Zac.ptr (some (p,0)))∧∀ j o,(G.ps n).length≠0→a=some (j,o)→j ∉ N∧¬ Z j
def Ztc (N:List Nat) (h h':Zaa):Prop:=h.length≤h'.length∧∀ j,j < h.length→j ∉ N→h'[j]?=h[j]?
theorem Ztc.refl (N:List Nat) (h:Zaa):Ztc N h h:=⟨Nat.le_refl _,fun _ _ _=>rfl⟩
theorem Ztc.trans {N:List Nat} {h h1 h2:Zaa} (a:Ztc N h h1) (b:Ztc N h1 h2):Ztc N h h2:=⟨Nat.le_trans a.1 b.1,fun j hj hn=>by rw [b.2 j (by have:=a.1; omega) hn]; exact a.2 j hj hn⟩
theorem Ztc.of_same {N:List Nat} {h h':Zaa} (s:Zbg h.length h h'):Ztc N h h':=⟨s.le,fun j hj _=>s.eq j hj⟩
theorem Row.to {h h':Zaa} {a:Pt} {m:Nat} {cs:List Zac} (r:Row h.length h a m cs) (hl:h.length≤h'.length) (hh:∀ j o,m≠0→a=some (j,o)→j < h.length→h'[j]?=h[j]?):Row h'.length h' a m cs:=by
 obtain ⟨hc,r⟩:=r
 by_cases h0:m=0
 ·exact ⟨hc,.inl h0⟩
 ·refine ⟨hc,r.imp id ?_⟩
  rintro ⟨i,o,t,all,ro,ha,hi,hg,x⟩
  exact ⟨i,o,t,all,ro,ha,by omega,by rw [hh i o h0 ha hi]; exact hg,x⟩
section
variable {h h':Zaa} {G:Gr} {N:List Nat} {lk:Nat→Option Nat} {Z:Nat→Prop}
theorem GH.lt (g:GH h G N lk Z) {n:Nat} (hn:n∈N):n < h.length:=by obtain ⟨_,_,_,hi,_⟩:=g.node n hn; exact Own.lt hi
theorem Row.cellsAt {a:Pt} {m:Nat} {cs:List Zac} (r:Row h.length h a m cs) {j o:Nat} (h0:m≠0) (ha:a=some (j,o)):∃ t all ro,h[j]?=some (.cells t all ro):=by
 rcases r.2 with hm | ⟨i,o',t,all,ro,ha',hi,hg,x⟩
 ·exact absurd hm h0
 ·rw [ha] at ha'; cases ha'; exact ⟨t,all,ro,hg⟩
theorem GH.agree (g:GH h G N lk Z) (hl:h.length≤h'.length) (hh:∀ (j:Nat) (t:TypeId) (cs:List Zac) (ro:Bool),h[j]?=some (Zcj.cells t cs ro)→h'[j]?=h[j]?):GH h' G N lk Z:=by
 refine ⟨fun n hn=>?_⟩
 obtain ⟨a,c,e,hi,hr,hd⟩:=g.node n hn
 refine ⟨a,c,e,by rw [hh _ _ _ _ hi]; exact hi,hr.to hl fun j o h0 ha _=>?_,hd⟩
 obtain ⟨t,all,ro,hj⟩:=hr.cellsAt h0 ha
 exact hh _ _ _ _ hj
theorem GH.same (g:GH h G N lk Z) (s:Zbg h.length h h'):GH h' G N lk Z:=g.agree s.le fun j t cs ro hj=>s.eq j (Own.lt hj)
theorem GH.link (g:GH h G N lk Z) {a b:Nat} {x:Zcj} (ha:a∈N) {p:Pt} {c:Nat} {e:Bool} (hx:x=.cells Zav [.str [G.hd a],.slice p (G.ps a).length c e,.ptr (some (b,0))] false)
  (hr:Row h.length h p (G.ps a).length ((G.ps a).map fun p=>Zac.ptr (some (p,0)))) (hd:∀ j o,(G.ps a).length≠0→p=some (j,o)→j ∉ N∧¬ Z j):GH (h.set a x) G N (lnk lk a b) Z:=by
 refine ⟨fun n hn=>?_⟩
 have row:∀ {q:Pt} {m:Nat} {cs:List Zac},Row h.length h q m cs→(∀ j o,m≠0→q=some (j,o)→j ∉ N∧¬ Z j)→Row (h.set a x).length (h.set a x) q m cs:=fun r hd=>
  r.to (by simp) fun j o h0 hq _=>Zbk fun e'=>(hd j o h0 hq).1 (e' ▸ ha)
 by_cases e':n=a
 ·subst e'
  refine ⟨p,c,e,?_,row hr hd,hd⟩
  rw [List.getElem?_set_self (g.lt hn),hx]
  simp [lnk]
 ·obtain ⟨q,c',e'',hi,hr',hd'⟩:=g.node n hn
  refine ⟨q,c',e'',?_,row hr' hd',hd'⟩
  rw [Zbk (fun h=>e' h.symm),hi]
  simp [lnk,e']
theorem Row.outN {a:Pt} {m:Nat} {cs:List Zac} (r:Row h.length h a m cs) (hd:∀ j o,m≠0→a=some (j,o)→j ∉ N∧¬ Z j) (o:Ztc N h h'):Row h'.length h' a m cs:=
 r.to o.1 fun j o' h0 ha hl=>o.2 j hl (hd j o' h0 ha).1
theorem Zmu {a:Pt} {l:List Nat} (r:Row h.length h a l.length (l.map fun p=>Zac.ptr (some (p,0)))) {k p:Nat} (hp:l[k]?=some p):∃ j o,a=some (j,o)∧Zaj h (.ptr (some (j,o + k * 1)))=some (.ptr (some (p,0))):=by
 have hk:=(List.getElem?_eq_some_iff.1 hp).1
 obtain ⟨j,o,ha,hj,hc⟩:=r.at hk
 rw [List.getElem?_map,hp] at hc
 exact ⟨j,o,ha,by rw [Nat.mul_one]; exact hc⟩
theorem Zrh (g:GH h G N lk Z) (ok:GOk G N lk) {k n e:Nat} (hn:n∈N) (hp:Pth lk k n e) (he:lk e=none):Zad pg Zcu [.ptr (some (n,0))] h fun v h'=>v=.ptr (some (e,0))∧h'=h:=by
 apply Zeh.call
 refine Zeh.L1ind (J:=fun (i:Nat) a0 h'=>h'=h∧∃ m,a0=some (m,0)∧m∈N∧Pth lk i m e) (m:=fun i=>i) (hr:=?_) (g:=k) (hj:=⟨rfl,n,rfl,hn,hp⟩)
 rintro i a0 h' ⟨rfl,m,rfl,hm,hp⟩ R hR
 unfold Zeh.L1t
 obtain ⟨a,c,e',hnode,_⟩:=g.node m hm
 simp only [Zaq,Zag hnode,Nat.zero_add,List.getElem?_cons_succ,List.getElem?_cons_zero,Zbt]
 cases hp with
 | refl=>
  rw [he]
  simp only [Option.map_none,Option.isNone_none,Bool.not_true,Zas]
  apply Zeh.A1x0i
  exact ⟨rfl,rfl⟩
 | step h1 h2=>
  rw [h1]
  simp only [Option.map_some,Option.isNone_some,Bool.not_false,Zbe]
  exact hR _ _ _ (Nat.lt_succ_self _) ⟨rfl,_,rfl,ok.lkN _ _ hm h1,h2⟩
def Yem (G:Gr) (N:List Nat) (lk:Nat→Option Nat) (Z:Nat→Prop) (a b:Nat) (h:Zaa) (v:Zac) (h':Zaa):Prop:=
 Ztc N h h'∧((v=.bool true∧∃ lk',Zor G N lk a b lk'∧GH h' G N lk' Z) ∨ (v=.bool false∧UNo G N lk a b))
theorem Zfa (g:GH h G N lk Z) {n:Nat} (hn:n∈N):Zby h n=true:=by
 obtain ⟨a,c,e,hi,_⟩:=g.node n hn
 simp [Zby,hi]
theorem Zwa (x y:Nat):(Zfy [x] [y] || decide ([x]=[y]))=decide (x≤y):=by
 rw [Bool.eq_iff_iff]
 simp [Zfy]
 omega
theorem Yam:∀ (U:Nat) {h:Zaa} {lk:Nat→Option Nat} {a b:Nat},ub N lk≤U→GH h G N lk Z→GOk G N lk→a∈N→b∈N→Zad pg Zhb [.ptr (some (a,0)),.ptr (some (b,0))] h (Yem G N lk Z a b h):=by
 intro U
 induction U using Nat.strongRecOn with
 | ind U ih=>
 intro h lk a b hU g ok ha hb
 obtain ⟨k1,x,hp1,hx0,hx⟩:=ok.ends ha
 obtain ⟨k2,y,hp2,hy0,hy⟩:=ok.ends hb
 -- one end is linked to the other
 have core:∀ (p q:Nat) (Q:QT),p∈N→q∈N→lk p=none→lk q=none→p≠q→(Zao (G.hd q)=true→Zao (G.hd p)=true)→(Zao (G.hd p)=true→Zao (G.hd q)=true→G.hd p≤G.hd q) →
   (∀ v h',Yem G N lk Z p q h v h'→Q v h')→Zde.J7 Q (some (p,0)) (some (q,0)) h:=by
  intro p q Q hp hq hp0 hq0 hne hvar hord hQ
  obtain ⟨pa,pc,pe,hpi,hpr,hpd⟩:=g.node p hp
  obtain ⟨qa,qc,qe,hqi,hqr,hqd⟩:=g.node q hq
  have lenEq:Zao (G.hd p)=false→G.hd p=G.hd q→(G.ps p).length=(G.ps q).length:=fun _ e=>by
   have h1:=ok.ar p hp; have h2:=ok.ar q hq; rw [e] at h1; omega
  apply Zde.J7i
  simp only [Zaq,Zag hpi,Nat.zero_add,List.getElem?_cons_succ,List.getElem?_cons_zero,Zba]
  refine (Zmx [G.hd p]).mono ?_
  rintro v h1 ⟨rfl,rfl⟩
  simp only [Zaf,Zln,Zag hpi,Zag hqi,List.getElem?_cons_zero,Zba,true_and]
  have j9:(Zao (G.hd p)=false→G.hd p=G.hd q)→Zde.J9 Q (some (p,0)) (some (q,0)) h1:=by
   intro hhd
   apply Zde.J9i
   simp only [Zaq,Zag hpi,Nat.zero_add,List.getElem?_cons_succ,List.getElem?_cons_zero,Zak]
   rw [Zbd hpi (by simp)]
   simp only [Zau,putRow,List.take_succ_cons,List.take_zero,List.length_cons,List.length_nil,List.drop_succ_cons,List.drop_zero,List.drop_nil,List.cons_append,List.nil_append,List.append_nil,hp0,Option.map_none]
   have g1:=g.link (b:=q) hp rfl hpr hpd (c:=pc) (e:=pe)
   have o1:Ztc N h1 (h1.set p (.cells Zav [.str [G.hd p],.slice pa (G.ps p).length pc pe,.ptr (some (q,0))] false)):=⟨by simp,fun j hj hn=>Zbk fun e=>hn (e ▸ hp)⟩
   generalize h1.set p (.cells Zav [.str [G.hd p],.slice pa (G.ps p).length pc pe,.ptr (some (q,0))] false)=h2 at g1 o1 ⊢
   have hlt:=Ydm (b:=q) hp hp0
   refine Zde.L12ind (J:=fun (i:Nat) x82 h'=>x82=(i:Int)∧i≤(G.ps p).length∧Ztc N h2 h'∧∃ lk',Zws G N lk p q lk' i∧GH h' G N lk' Z) (m:=fun i=>(G.ps p).length - i) (hr:=?_) (g:=0)
    (hj:=⟨rfl,by omega,Ztc.refl _ _,_,Zws.start ok hq hp0 hq0 hne,g1⟩)
   rintro i x82 h3 ⟨rfl,hi,o3,lk',u,g3⟩ R hR
   unfold Zde.L12t
   have O3:=o1.trans o3
   refine Zan (fun hlt3=>?_) (fun hge=>?_)
   ·have hi':i < (G.ps p).length:=by omega
    have hpv:Zao (G.hd p)=false:=by
     cases hv:Zao (G.hd p) with
     | false=>rfl
     | true=>rw [ok.var_ps hp hv] at hi'; simp at hi'
    have hh:=hhd hpv
    have hl:=lenEq hpv hh
    have hpg:(G.ps p)[i]?=some (G.ps p)[i]:=List.getElem?_eq_getElem hi'
    have hqg:(G.ps q)[i]?=some ((G.ps q)[i]'(by omega)):=List.getElem?_eq_getElem (by omega)
    obtain ⟨ja,oa,rfl,hca⟩:=Zmu (hpr.outN hpd O3) hpg
    obtain ⟨ra,rc,re,hri,hrr,hrd⟩:=g3.node q hq
    obtain ⟨jb,ob,rfl,hcb⟩:=Zmu hrr hqg
    simp only [Zaq,Int.toNat_natCast,hca,Zbt,Zag hri,Nat.zero_add,List.getElem?_cons_succ,List.getElem?_cons_zero,Zak,hcb]
    have hup:ub N lk' < ub N lk:=Nat.lt_of_le_of_lt (Zxy u.ext) hlt
    refine ⟨by omega,by omega,(ih (ub N lk') (by omega) (Nat.le_refl _) g3 u.gok (ok.par p hp _ (List.getElem_mem hi')) (ok.par q hq _ (List.getElem_mem _))).mono ?_⟩
    rintro v h4 ⟨o4,⟨rfl,lk'',y,g4⟩ | ⟨rfl,no⟩⟩
    ·simp only [Zaf,Bool.not_true,Zas]
     rw [Zcm (by have:=ok.ps_le hp; omega)]
     exact hR (i + 1) _ _ (by omega) ⟨rfl,by omega,o3.trans o4,lk'',u.step hpg hqg hpv hp hq hh y,g4⟩
    ·simp only [Zaf,Bool.not_false,Zbe]
     exact hQ _ _ ⟨O3.trans o4,.inr ⟨rfl,u.fail hpg hqg hpv hp hq hh no⟩⟩
   ·apply Zde.A12x1i
    have:i=(G.ps p).length:=by omega
    subst this
    exact hQ _ _ ⟨O3,.inl ⟨rfl,lk',u.done hp0 (fun hv=>(hhd hv).symm) hord,g3⟩⟩
  refine Zhl (fun hv=>?_) (fun hv=>j9 fun h=>by rw [hv] at h; cases h)
  have hqv:Zao (G.hd q)=false:=by
   cases hv':Zao (G.hd q) with
   | false=>rfl
   | true=>rw [hvar hv'] at hv; cases hv
  refine Zow (fun hne'=>?_) (fun he=>j9 fun _=>by simpa using he)
  exact hQ _ _ ⟨Ztc.refl _ _,.inr ⟨rfl,UNo.clash hp hq hv hqv fun e=>hne' (by rw [e])⟩⟩
 apply Zde.call
 refine (Zrh g ok ha hp1 hx0).mono ?_
 rintro v h1 ⟨rfl,rfl⟩
 simp only [Zbt]
 refine (Zrh g ok hb hp2 hy0).mono ?_
 rintro v h2 ⟨rfl,rfl⟩
 simp only [Zbt]
 by_cases hxy:x=y
 ·subst hxy
  refine .inl ⟨rfl,?_⟩
  simp only [Zbe]
  exact ⟨Ztc.refl _ _,.inl ⟨rfl,lk,Zor.path ok ha hb hp1 hp2 (Zor.same ok),g⟩⟩
 ·refine .inr ⟨hxy,Zfa g hx,Zfa g hy,?_⟩
  simp only [Zas]
  obtain ⟨xa,xc,xe,hxi,_⟩:=g.node x hx
  obtain ⟨ya,yc,ye,hyi,_⟩:=g.node y hy
  have fwd:∀ v h',Yem G N lk Z x y h2 v h'→Yem G N lk Z a b h2 v h':=fun v h' ⟨o,r⟩=>⟨o,r.imp (fun ⟨e,lk',u,g'⟩=>⟨e,lk',Zor.path ok ha hb hp1 hp2 u,g'⟩) fun ⟨e,u⟩=>⟨e,UNo.path ok ha hb hp1 hp2 u⟩⟩
  have bwd:∀ v h',Yem G N lk Z y x h2 v h'→Yem G N lk Z a b h2 v h':=fun v h' ⟨o,r⟩=>fwd v h' ⟨o,r.imp (fun ⟨e,lk',u,g'⟩=>⟨e,lk',u.symm,g'⟩) fun ⟨e,u⟩=>⟨e,u.symm⟩⟩
  have iv:∀ (c:Nat) (K:Zac→Zaa→Prop),K (.bool (Zao c)) h2→Zad pg Zbx [.str [c]] h2 K:=fun c K hK=>(Zmx [c]).mono fun v h' ⟨e1,e2⟩=>by rw [e1,e2]; exact hK
  simp only [Zaq,Zag hxi,Zag hyi,Nat.zero_add,List.getElem?_cons_succ,List.getElem?_cons_zero,Zba,true_and]
  refine iv _ _ ?_
  simp only [Zaf,Zag hxi,Zag hyi,List.getElem?_cons_zero,Zba]
  refine Zex (fun hvx=>?_) (fun hvx=>?_)
  ·refine iv _ _ ?_
   simp only [Zaf,Zag hxi,Zag hyi,List.getElem?_cons_zero,Zba]
   refine Zex (fun hvy=>?_) (fun hvy=>?_)
   ·simp only [Zwa]
    refine Zow (fun hgt=>?_) (fun hle=>?_)
    ·rw [decide_eq_false hgt]
     exact core y x _ hy hx hy0 hx0 (fun e=>hxy e.symm) (fun _=>hvy) (fun _ _=>by omega) bwd
    ·refine iv _ _ ?_
     rw [hvx]
     simp only [Zaf,Zag hxi,Zag hyi,List.getElem?_cons_zero,Zba,Bool.not_true,Zas]
     exact core x y _ hx hy hx0 hy0 hxy (fun _=>hvx) (fun _ _=>hle) fwd
   ·refine iv _ _ ?_
    rw [hvx]
    simp only [Zaf,Zag hxi,Zag hyi,List.getElem?_cons_zero,Zba,Bool.not_true,Zas]
    exact core x y _ hx hy hx0 hy0 hxy (fun h=>hvx) (fun _ h=>by rw [hvy] at h; cases h) fwd
  ·refine iv _ _ ?_
   rw [hvx]
   simp only [Zaf,Zag hxi,Zag hyi,List.getElem?_cons_zero,Zba,Bool.not_false,Zbe]
   refine iv _ _ ?_
   simp only [Zaf,Zag hxi,Zag hyi,List.getElem?_cons_zero,Zba]
   refine Zex (fun hvy=>?_) (fun hvy=>?_)
   ·exact core y x _ hy hx hy0 hx0 (fun e=>hxy e.symm) (fun _=>hvy) (fun _ h=>by rw [hvx] at h; cases h) bwd
   ·exact core x y _ hx hy hx0 hy0 hxy (fun h=>by rw [hvy] at h; cases h) (fun h=>by rw [hvx] at h; cases h) fwd
end
end Go.Sim

set_option linter.unusedVariables false
set_option linter.unusedSimpArgs false
set_option maxRecDepth 20000
namespace Go.Sim
open Go Go.RowKit

def Zoj (h:Zaa) (i:Nat) (A:List Nat):Prop:=∃ es clk,h[i]?=some (.map es clk)∧es.map (·.1)=A.map (fun n=>Zac.ptr (some (n,0)))∧es.map (·.2.1)=A.map (fun _=>Zac.bool true)
theorem Zmr {h:Zaa}:∀ {es:List ME} {A:List Nat} {n k:Nat},es.map (·.1)=A.map (fun n=>Zac.ptr (some (n,0)))→es.map (·.2.1)=A.map (fun _=>Zac.bool true)→(∀ x∈A,Zby h x=true)→Zby h n=true→n∈A →
  ∃ j b,Zgo h es (n,0) k=some (some (k + j,.bool true))∧A[j]?=some n∧(∀ i,i < j→A[i]?≠some n)∧es[j]?=some (.ptr (some (n,0)),.bool true,b)
 | _,[],n,k,_,_,_,_,h=>by cases h
 | [],x :: A,n,k,h,_,_,_,_=>by simp at h
 | (ek,ev,eb) :: es,x :: A,n,k,hk,hv,hA,hn,hm=>by
  simp only [List.map_cons,List.cons.injEq] at hk hv
  obtain ⟨rfl,hk⟩:=hk
  obtain ⟨rfl,hv⟩:=hv
  by_cases e:n=x
  ·subst e
   exact ⟨0,eb,by simp [Zgo],rfl,fun i hi=>by omega,rfl⟩
  ·obtain ⟨j,b,h1,h2,h3,h4⟩:=Zmr (k:=k + 1) hk hv (fun y hy=>hA y (List.mem_cons_of_mem _ hy)) hn ((List.mem_cons.1 hm).resolve_left e)
   have hne:¬ ((n,0):Nat × Nat)=(x,0):=fun h=>e (by simpa using h)
   refine ⟨j + 1,b,?_,h2,fun i hi=>?_,h4⟩
   ·unfold Zgo
    rw [if_neg hne,if_pos ⟨e,hn,hA x List.mem_cons_self⟩,h1,show k + 1 + j=k + (j + 1) by omega]
   ·match i with
    | 0=>simp; exact fun h=>e h.symm
    | i + 1=>simpa using h3 i (by omega)
theorem Znf {h:Zaa}:∀ {es:List ME} {A:List Nat} {n k:Nat},es.map (·.1)=A.map (fun n=>Zac.ptr (some (n,0)))→(∀ x∈A,Zby h x=true)→Zby h n=true→n ∉ A→Zgo h es (n,0) k=some none
 | [],[],n,k,_,_,_,_=>rfl
 | [],x :: A,n,k,h,_,_,_=>by simp at h
 | e :: es,[],n,k,h,_,_,_=>by simp at h
 | (ek,ev,eb) :: es,x :: A,n,k,hk,hA,hn,hm=>by
  simp only [List.map_cons,List.cons.injEq] at hk
  obtain ⟨rfl,hk⟩:=hk
  have e:n≠x:=fun e=>hm (by rw [e]; exact List.mem_cons_self)
  have hne:¬ ((n,0):Nat × Nat)=(x,0):=fun h=>e (by simpa using h)
  unfold Zgo
  rw [if_neg hne,if_pos ⟨e,hn,hA x List.mem_cons_self⟩]
  exact Znf hk (fun y hy=>hA y (List.mem_cons_of_mem _ hy)) hn fun h=>hm (List.mem_cons_of_mem _ h)
section
variable {h h':Zaa} {i n:Nat} {A:List Nat}
theorem Zoj.get (r:Zoj h i A) (he:h'[i]?=h[i]?):Zoj h' i A:=by obtain ⟨es,k,h1,x⟩:=r; exact ⟨es,k,by rw [he]; exact h1,x⟩
theorem Zoj.map (r:Zoj h i A):∃ es k,h[i]?=some (.map es k):=by obtain ⟨es,k,h1,_⟩:=r; exact ⟨es,k,h1⟩
theorem Zoj.look (r:Zoj h i A) (hA:∀ x∈A,Zby h x=true) (hn:Zby h n=true) {K:Bool→Prop} (hK:K (decide (n∈A))) :
  Zbl h (some i) fun es _=>Zns (Zgo h es (n,0) 0) fun r=>Zbs (some (Option.getD r (.bool false))) K:=by
 obtain ⟨es,k,h1,hk,hv⟩:=r
 simp only [Zbl,h1]
 by_cases hm:n∈A
 ·obtain ⟨j,b,hf,_⟩:=Zmr (k:=0) hk hv hA hn hm
  rw [hf]
  simp only [Zns,Option.getD_some,Zaf]
  rw [decide_eq_true hm] at hK; exact hK
 ·rw [Znf (k:=0) hk hA hn hm]
  simp only [Zns,Option.getD_none,Zaf]
  rw [decide_eq_false hm] at hK; exact hK
theorem Zoj.put (r:Zoj h i A) (hA:∀ x∈A,Zby h x=true) (hn:Zby h n=true):∃ es k es' k',h[i]?=some (.map es k)∧Zoj (h.set i (.map es' k')) i (if n∈A then A else A ++ [n]) ∧
  ∀ K:List ME→Nat→Prop,K es' k'→Yau (Zgo h es (n,0) 0) es k (n,0) (.bool true) K:=by
 obtain ⟨es,k,h1,hk,hv⟩:=r
 have hl:=Own.lt h1
 by_cases hm:n∈A
 ·obtain ⟨j,b,hf,_,_,hj⟩:=Zmr (k:=0) hk hv hA hn hm
  refine ⟨es,k,es,k,h1,?_,fun K hK=>?_⟩
  rotate_left
  ·rw [hf]
   simp only [Yau,Nat.zero_add]
   rw [Zkb hj rfl]
   exact hK
  ·rw [if_pos hm]
   exact ⟨es,k,List.getElem?_set_self hl,hk,hv⟩
 ·refine ⟨es,k,es ++ [(.ptr (some (n,0)),.bool true,k)],k + 1,h1,?_,fun K hK=>?_⟩
  rotate_left
  ·rw [Znf (k:=0) hk hA hn hm]
   exact hK
  ·rw [if_neg hm]
   exact ⟨_,_,List.getElem?_set_self hl,by simp [hk],by simp [hv]⟩
theorem Zoj.del (r:Zoj h i (A ++ [n])) (hA:∀ x∈A,Zby h x=true) (hn:Zby h n=true) (hm:n ∉ A):∃ es k es',h[i]?=some (.map es k)∧Zoj (h.set i (.map es' k)) i A ∧
  ∀ K:List ME→Prop,K es'→Yce (Zgo h es (n,0) 0) es K:=by
 obtain ⟨es,k,h1,hk,hv⟩:=r
 have hl:=Own.lt h1
 have hA':∀ x∈A ++ [n],Zby h x=true:=fun x hx=>by
  rcases List.mem_append.1 hx with hx | hx
  ·exact hA x hx
  ·rw [List.mem_singleton.1 hx]; exact hn
 obtain ⟨j,b,hf,hj,hfirst,_⟩:=Zmr (k:=0) hk hv hA' hn (by simp)
 have hjA:j=A.length:=by
  have hjl:=(List.getElem?_eq_some_iff.1 hj).1
  simp at hjl
  by_cases h:j < A.length
  ·rw [List.getElem?_append_left h] at hj
   exact absurd (List.mem_of_getElem? hj) hm
  ·omega
 refine ⟨es,k,es.eraseIdx j,h1,⟨_,_,List.getElem?_set_self hl,?_,?_⟩,fun K hK=>?_⟩
 ·rw [← Zcr,hk,hjA,List.map_append,List.eraseIdx_append_of_length_le (by simp)]; simp
 ·rw [← Zcr,hv,hjA,List.map_append,List.eraseIdx_append_of_length_le (by simp)]; simp
 ·rw [hf]
  simp only [Yce,Nat.zero_add]
  exact hK
end
def Zfv (i j:Nat) (h h':Zaa):Prop:=h.length≤h'.length∧∀ k,k < h.length→k≠i→k≠j→h'[k]?=h[k]?
theorem Zfv.refl (i j:Nat) (h:Zaa):Zfv i j h h:=⟨Nat.le_refl _,fun _ _ _ _=>rfl⟩
theorem Zfv.trans {i j:Nat} {h h1 h2:Zaa} (a:Zfv i j h h1) (b:Zfv i j h1 h2):Zfv i j h h2:=⟨Nat.le_trans a.1 b.1,fun k hk h1 h2=>by rw [b.2 k (by have:=a.1; omega) h1 h2]; exact a.2 k hk h1 h2⟩
theorem Zfv.set1 (i j:Nat) (h:Zaa) (x:Zcj):Zfv i j h (h.set i x):=⟨by simp,fun k _ h1 _=>Zbk fun e=>h1 e.symm⟩
theorem Zfv.set2 (i j:Nat) (h:Zaa) (x:Zcj):Zfv i j h (h.set j x):=⟨by simp,fun k _ _ h2=>Zbk fun e=>h2 e.symm⟩
section
variable {G:Gr} {N:List Nat} {lk:Nat→Option Nat} {Z:Nat→Prop}
theorem GH.keepM {h h':Zaa} {i j:Nat} (g:GH h G N lk Z) (k:Zfv i j h h') (hi:∃ es c,h[i]?=some (.map es c)) (hj:∃ es c,h[j]?=some (.map es c)):GH h' G N lk Z:=by
 obtain ⟨es,c,hi⟩:=hi
 obtain ⟨es',c',hj⟩:=hj
 exact g.agree k.1 fun q t cs ro hq=>k.2 q (Own.lt hq) (fun e=>by subst e; rw [hi] at hq; cases hq) (fun e=>by subst e; rw [hj] at hq; cases hq)
def Yhc (G:Gr) (N:List Nat) (lk:Nat→Option Nat) (n mA mD:Nat) (A:List Nat) (h:Zaa) (v:Zac) (h':Zaa):Prop:=
 Zfv mA mD h h'∧((v=.bool true∧∀ val,Str G N val→¬ Rsp N lk val) ∨ (v=.bool false∧(∀ nu,∃ T,VT G lk nu n T)∧Zoj h' mA A∧∃ D,Zoj h' mD D∧(∀ x∈D,x∈N)∧∀ d∈D,∀ nu,∃ T,VT G lk nu d T))
theorem Yev {N A:List Nat} {e:Nat} (he:e∈N) (hA:e ∉ A):N.countP (fun x=>decide (x ∉ A ++ [e])) < N.countP (fun x=>decide (x ∉ A)):=by
 have key:∀ L:List Nat,e∈L→L.countP (fun x=>decide (x ∉ A ++ [e])) < L.countP (fun x=>decide (x ∉ A)):=by
  intro L hL
  induction L with
  | nil=>cases hL
  | cons n L ih=>
   have hm:L.countP (fun x=>decide (x ∉ A ++ [e]))≤L.countP (fun x=>decide (x ∉ A)):=List.countP_mono_left fun x _ h=>by
    simp only [decide_eq_true_eq,List.mem_append,not_or] at h ⊢; exact h.1
   rw [List.countP_cons,List.countP_cons]
   by_cases en:n=e
   ·subst en
    rw [if_neg (by simp),if_pos (by simpa using hA)]; omega
   ·have:=ih ((List.mem_cons.1 hL).resolve_left fun h=>en h.symm)
    by_cases hn:n∈A
    ·rw [if_neg (by simp [hn]),if_neg (by simp [hn])]; omega
    ·rw [if_pos (by simp [hn,en]),if_pos (by simp [hn])]; omega
 exact key N he
theorem Zvn (ok:GOk G N lk):∀ (M:Nat) {h:Zaa} {n mA mD:Nat} {A D:List Nat},N.countP (fun x=>decide (x ∉ A))≤M→GH h G N lk Z→n∈N→Zoj h mA A→Zoj h mD D→mA≠mD→(∀ x∈A,x∈N)→(∀ x∈D,x∈N) →
  (∀ d∈D,∀ nu,∃ T,VT G lk nu d T)→(∀ val,Str G N val→Rsp N lk val→∀ x∈A,(val n).size < (val x).size) →
  Zad pg Zdp [.ptr (some (n,0)),.map (some mA),.map (some mD)] h (Yhc G N lk n mA mD A h):=by
 intro M
 induction M using Nat.strongRecOn with
 | ind M ih=>
 intro h n mA mD A D hM g hn rA rD hne hAN hDN hDV hlt
 obtain ⟨k,e,hp,he0,he⟩:=ok.ends hn
 have hoA:∀ x∈A,Zby h x=true:=fun x hx=>Zfa g (hAN x hx)
 have hoD:∀ x∈D,Zby h x=true:=fun x hx=>Zfa g (hDN x hx)
 have hoe:=Zfa g he
 apply Zcx.call
 refine (Zrh g ok hn hp he0).mono ?_
 rintro v h1 ⟨rfl,rfl⟩
 simp only [Zbt,Zaq]
 refine rA.look hoA hoe ?_
 refine Zan (fun hin=>?_) (fun hnA=>?_)
 ·refine ⟨Zfv.refl _ _ _,.inl ⟨rfl,fun val hs hr=>?_⟩⟩
  have:=hlt val hs hr e hin
  rw [hr.path ok hn hp] at this
  omega
 refine rD.look hoD hoe ?_
 refine Zan (fun hin=>?_) (fun hnD=>?_)
 ·exact ⟨Zfv.refl _ _ _,.inr ⟨rfl,fun nu=>(hDV e hin nu).imp fun T v=>v.of_path hp,rA,D,rD,hDN,hDV⟩⟩
 obtain ⟨esA,kA,esA',kA',hA0,rA1,hput⟩:=rA.put hoA hoe
 simp only [xMp,Zaq,Zbi,Zbl,hA0]
 refine hput _ ?_
 rw [if_neg hnA] at rA1
 have K1:=Zfv.set1 mA mD h1 (.map esA' kA')
 have rD1:Zoj (h1.set mA (.map esA' kA')) mD D:=rD.get (Zbk hne)
 have g1:=g.keepM K1 rA.map rD.map
 generalize h1.set mA (.map esA' kA')=h2 at rA1 rD1 g1 K1 ⊢
 obtain ⟨pa,pc,pe,hei,her,hed⟩:=g1.node e he
 simp only [Zag hei,Nat.zero_add,List.getElem?_cons_succ,List.getElem?_cons_zero,Zak]
 have hAN':∀ x∈A ++ [e],x∈N:=fun x hx=>by
  rcases List.mem_append.1 hx with hx | hx
  ·exact hAN x hx
  ·rw [List.mem_singleton.1 hx]; exact he
 refine Zcx.L8ind (J:=fun (i:Nat) x24 h'=>x24=(i:Int)∧i≤(G.ps e).length∧Zfv mA mD h2 h'∧Zoj h' mA (A ++ [e])∧(∃ D',Zoj h' mD D'∧(∀ x∈D',x∈N)∧∀ d∈D',∀ nu,∃ T,VT G lk nu d T)∧∀ j p,j < i→(G.ps e)[j]?=some p→∀ nu,∃ T,VT G lk nu p T) (m:=fun i=>(G.ps e).length - i) (hr:=?_) (g:=0)
  (hj:=⟨rfl,by omega,Zfv.refl _ _ _,rA1,⟨D,rD1,hDN,hDV⟩,fun j p hj=>by omega⟩)
 rintro i x24 h3 ⟨rfl,hi,K3,rA3,⟨D3,rD3,hDN3,hDV3⟩,hdone⟩ R hR
 unfold Zcx.L8t
 have g3:=g1.keepM K3 rA1.map rD1.map
 have KK:=K1.trans K3
 refine Zan (fun hlt3=>?_) (fun hge=>?_)
 ·have hi':i < (G.ps e).length:=by omega
  have hpg:(G.ps e)[i]?=some (G.ps e)[i]:=List.getElem?_eq_getElem hi'
  have her3:Row h3.length h3 pa (G.ps e).length ((G.ps e).map fun p=>Zac.ptr (some (p,0))):=her.to K3.1 fun j o h0 ha hl=>by
   obtain ⟨t,all,ro,hj⟩:=her.cellsAt h0 ha
   obtain ⟨es1,c1,q1⟩:=rA1.map
   obtain ⟨es2,c2,q2⟩:=rD1.map
   exact K3.2 j hl (fun e'=>by subst e'; rw [q1] at hj; cases hj) (fun e'=>by subst e'; rw [q2] at hj; cases hj)
  obtain ⟨ja,oa,rfl,hca⟩:=Zmu her3 hpg
  simp only [Zaq,Int.toNat_natCast,hca,Zbt]
  have hpN:=ok.par e he _ (List.getElem_mem hi')
  refine ⟨by omega,(ih _ (Nat.lt_of_lt_of_le (Yev he hnA) hM) (Nat.le_refl _) g3 hpN rA3 rD3 hne hAN' hDN3 hDV3 (fun val hs hr x hx=>?_)).mono ?_⟩
  ·have hpe:(val (G.ps e)[i]).size < (val e).size:=Yex ok hs hr he (List.getElem_mem hi') .refl
   rcases List.mem_append.1 hx with hx | hx
   ·have:=hlt val hs hr x hx
    rw [hr.path ok hn hp] at this
    omega
   ·rw [List.mem_singleton.1 hx]; exact hpe
  ·rintro v h4 ⟨K4,⟨rfl,hno⟩ | ⟨rfl,hT,rA4,D4,rD4,hDN4,hDV4⟩⟩
   ·simp only [Zaf,Zbe]
    exact ⟨KK.trans K4,.inl ⟨rfl,hno⟩⟩
   ·simp only [Zaf,Zas]
    rw [Zcm (by have:=ok.ps_le he; omega)]
    refine hR (i + 1) _ _ (by omega) ⟨rfl,by omega,K3.trans K4,rA4,⟨D4,rD4,hDN4,hDV4⟩,fun j p hj hp'=>?_⟩
    by_cases hji:j=i
    ·subst hji; rw [hpg] at hp'; cases hp'; exact hT
    ·exact hdone j p (by omega) hp'
 ·apply Zcx.A8x0i
  have:i=(G.ps e).length:=by omega
  subst this
  have hVe:∀ nu,∃ T,VT G lk nu e T:=fun nu=>VT.make ok he he0 fun p hp'=>by
   obtain ⟨j,hj⟩:=List.getElem?_of_mem hp'
   exact hdone j p (List.getElem?_eq_some_iff.1 hj).1 hj nu
  obtain ⟨es3,k3,es3',hA3,rA4,hdel⟩:=rA3.del (fun x hx=>Zfa g3 (hAN x hx)) (Zfa g3 he) hnA
  simp only [xMp,Zaq,Zbi,Zbl,hA3]
  refine hdel _ ?_
  have K4:=Zfv.set1 mA mD h3 (.map es3' k3)
  have rD4:Zoj (h3.set mA (.map es3' k3)) mD D3:=rD3.get (Zbk hne)
  have g4:=g3.keepM K4 rA3.map rD3.map
  generalize h3.set mA (.map es3' k3)=h4 at rA4 rD4 g4 K4 ⊢
  obtain ⟨es4,k4,es4',k4',hD4,rD5,hput4⟩:=rD4.put (fun x hx=>Zfa g4 (hDN3 x hx)) (Zfa g4 he)
  simp only [hD4]
  refine hput4 _ ?_
  have rA5:Zoj (h4.set mD (.map es4' k4')) mA A:=rA4.get (Zbk fun e=>hne e.symm)
  refine ⟨(KK.trans K4).trans (Zfv.set2 mA mD h4 _),.inr ⟨rfl,fun nu=>(hVe nu).imp fun T v=>v.of_path hp,rA5,_,rD5,fun x hx=>?_,fun d hd=>?_⟩⟩
  ·split at hx
   ·exact hDN3 x hx
   ·rcases List.mem_append.1 hx with hx | hx
    ·exact hDN3 x hx
    ·rw [List.mem_singleton.1 hx]; exact he
  ·split at hd
   ·exact hDV3 d hd
   ·rcases List.mem_append.1 hd with hd | hd
    ·exact hDV3 d hd
    ·rw [List.mem_singleton.1 hd]; exact hVe
theorem Ydz (ok:GOk G N lk) {h:Zaa} {n:Nat} (g:GH h G N lk Z) (hn:n∈N) :
  Zad pg Zfz [.ptr (some (n,0))] h fun v h'=>Zbg h.length h h'∧((v=.bool false∧∀ val,Str G N val→¬ Rsp N lk val) ∨ (v=.bool true∧∀ nu,∃ T,VT G lk nu n T)):=by
 apply Zig.call
 simp only [Zbi]
 generalize hh0:h ++ [Zcj.map [] 0]=h0
 have s0:Zbg h.length h h0:=by rw [← hh0]; exact Zax
 have m0:h0[h.length]?=some (.map [] 0):=by rw [← hh0]; simp
 have l0:h0.length=h.length + 1:=by rw [← hh0]; simp
 generalize hh1:h0 ++ [Zcj.map [] 0]=h1
 have s1:Zbg h0.length h0 h1:=by rw [← hh1]; exact Zax
 have m1:=s1.get m0 (Own.lt m0)
 have d1:h1[h0.length]?=some (.map [] 0):=by rw [← hh1]; simp
 have S1:=s0.cat s1
 refine (Zvn ok _ (Nat.le_refl _) (g.same S1) hn (A:=[]) (D:=[]) ⟨[],0,m1,rfl,rfl⟩ ⟨[],0,d1,rfl,rfl⟩ (by omega) (by simp) (by simp) (by simp) (by simp)).mono ?_
 rintro v h2 ⟨K2,hr⟩
 have l1:=S1.le
 have S2:Zbg h.length h h2:=⟨by have:=K2.1; omega,fun j hj=>by rw [K2.2 j (by omega) (by omega) (by omega)]; exact S1.eq j hj⟩
 rcases hr with ⟨rfl,hno⟩ | ⟨rfl,hT,_⟩
 ·simp only [Zaf]
  exact ⟨S2,.inl ⟨rfl,hno⟩⟩
 ·simp only [Zaf]
  exact ⟨S2,.inr ⟨rfl,hT⟩⟩
end
end Go.Sim

set_option linter.unusedVariables false
set_option linter.unusedSimpArgs false
set_option maxRecDepth 20000
namespace Go.Sim
open Go Go.RowKit

theorem Yas {g:FuncId} {caps:List Zac} {K:FuncId→List Zac→Prop}:Yfy (.fn g caps) K=K g caps:=rfl
section
variable {G:Gr} {N:List Nat} {lk:Nat→Option Nat} {Z:Nat→Prop}
theorem Ydx (ok:GOk G N lk) (cl:Cls G N lk):∀ (M:Nat) {h:Zaa} {n:Nat} {T:Ty},T.size≤M→GH h G N lk Z→n∈N→VT G lk G.hd n T →
  Zad pg Zet [.ptr (some (n,0)),.fn Zkz []] h fun v h'=>h'=h∧∃ s:List Nat,v=.tup [.str s,.bool (decide (T.txt.length≤60))]∧s.length≤61∧(T.txt.length≤60→s=T.txt):=by
 intro M
 induction M with
 | zero=>intro h n T hT; have:=Zje T; omega
 | succ M ih=>
 intro h n T hT g hn v
 obtain ⟨k,e,hp,he0,he⟩:=ok.ends hn
 have ve:=v.to hp
 obtain ⟨pa,pc,pe,hei,her,hed⟩:=g.node e he
 apply Zci.call
 refine (Zrh g ok hn hp he0).mono ?_
 rintro v1 h1 ⟨rfl,rfl⟩
 simp only [Zbt,Zaq,Zag hei,Nat.zero_add,List.getElem?_cons_zero,Zba]
 refine (Zmx [G.hd e]).mono ?_
 rintro v2 h2 ⟨rfl,rfl⟩
 simp only [Zaf,Zln,Zaq,Zag hei,List.getElem?_cons_succ,List.getElem?_cons_zero,Zba,Zak]
 refine Zex (fun hv=>?_) (fun hv=>?_)
 ·have hTe:T=.k (G.hd e):=ve.det (.var .refl he0 hv)
  subst hTe
  simp only [Yas,List.append_nil]
  apply Zpf.call
  simp only [Zaq,Zag hei,Nat.zero_add,List.getElem?_cons_zero,Zba]
  exact ⟨by trivial,[G.hd e],by simp [Ty.txt],by simp,fun _=>rfl⟩
 ·obtain ⟨a1,a2,a3⟩:=VT.parts ok cl .refl he0 he hv ve
  have htx:=T.txt_mids
  have hln:=congrArg List.length htx
  rw [List.length_append,List.length_cons] at hln
  have hps2:=ok.ps_le he
  refine Zci.L7ind (J:=fun (i:Nat) x7 x34 h'=>x34=(i:Int)∧i≤(G.ps e).length∧h'=h2∧x7=T.hd :: Zgi 0 (T.ps.take i)∧x7.length≤60) (m:=fun i=>(G.ps e).length - i) (hr:=?_) (g:=0)
   (hj:=⟨rfl,by omega,rfl,by simp [Zgi,a1],by simp⟩)
  rintro i x7 x34 h3 ⟨rfl,hi,rfl,rfl,hx7⟩ R hR
  unfold Zci.L7t
  refine Zan (fun hlt=>?_) (fun hge=>?_)
  ·have hi':i < (G.ps e).length:=by omega
   have hiT:i < T.ps.length:=by omega
   have hpg:(G.ps e)[i]?=some (G.ps e)[i]:=List.getElem?_eq_getElem hi'
   obtain ⟨ja,oa,rfl,hca⟩:=Zmu her hpg
   have vp:=a3 i _ _ hpg (List.getElem?_eq_getElem hiT)
   have hmem:=List.getElem_mem hiT
   have hsz:=Ty.size_part hmem
   have hlp:=Ty.len_part hmem
   have hmt:=Zjk T.ps 0 i hiT
   have hml:=Zkk T.ps 0 (i + 1)
   have hmtl:=congrArg List.length hmt
   simp only [List.length_append,List.length_cons,Nat.zero_add] at hmtl
   simp only [List.length_cons] at hx7
   simp only [Zaq,Int.toNat_natCast,hca,Zbt]
   refine ⟨by omega,(ih (by omega) g (ok.par e he _ (List.getElem_mem hi')) vp).mono ?_⟩
   rintro v3 h4 ⟨rfl,s,rfl,hs,hst⟩
   simp only [Zes,Zai,Zba,Zaf,Zat]
   rw [Zub (by omega)]
   refine ⟨⟨by omega,by rw [Zcm (by omega)]; omega,by rw [Zcm (by omega)]; simp; omega⟩,by simp; omega,by simp; omega,?_⟩
   refine Zhl (fun hb=>?_) (fun hb=>?_)
   ·have hb:=of_decide_eq_false hb
    exact ⟨by trivial,[],by rw [decide_eq_false (by omega)],by simp,fun h=>by omega⟩
   ·have hb:=of_decide_eq_true hb
    have hs':=hst hb
    subst hs'
    have hx:(T.hd :: Zgi 0 (T.ps.take i)) ++ ([Zim i] ++ T.ps[i].txt)=T.hd :: Zgi 0 (T.ps.take (i + 1)):=by rw [hmt]; simp
    rw [hx]
    refine Zan (fun h60=>?_) (fun h60=>?_)
    ·simp only [List.length_cons] at h60
     exact ⟨by trivial,[],by rw [decide_eq_false (by omega)],by simp,fun h=>by omega⟩
    ·apply Zci.J13i
     rw [Zcm (by omega)]
     exact hR (i + 1) _ _ _ (by omega) ⟨rfl,by omega,rfl,rfl,by omega⟩
  ·apply Zci.A7x0i
   have:i=(G.ps e).length:=by omega
   subst this
   rw [← a2,List.take_length] at hx7 ⊢
   simp only [Zaq,Zag hei,Nat.zero_add,List.getElem?_cons_succ,List.getElem?_cons_zero,Zak]
   refine Zan (fun hpos=>?_) (fun hneg=>?_)
   ·have hne:T.ps≠[]:=fun e=>by rw [e] at a2; simp at a2; omega
    rw [if_neg hne] at htx hln
    refine ⟨by simp at hx7 ⊢; omega,?_⟩
    apply Zci.J16i
    rw [← htx]
    refine ⟨by trivial,T.txt,?_,?_,fun _=>rfl⟩
    ·rw [show decide (((T.txt.length:Nat):Int)≤60)=decide (T.txt.length≤60) by rw [Bool.eq_iff_iff]; simp only [decide_eq_true_eq]; omega]
    ·rw [hln]; simp only [List.length_cons,List.length_nil] at hx7 ⊢; omega
   ·have hne:T.ps=[]:=List.eq_nil_of_length_eq_zero (by omega)
    rw [if_pos hne,List.append_nil] at htx
    apply Zci.J16i
    rw [← htx]
    refine ⟨by trivial,T.txt,?_,?_,fun _=>rfl⟩
    ·rw [show decide (((T.txt.length:Nat):Int)≤60)=decide (T.txt.length≤60) by rw [Bool.eq_iff_iff]; simp only [decide_eq_true_eq]; omega]
    ·rw [htx]; omega
end
end Go.Sim
