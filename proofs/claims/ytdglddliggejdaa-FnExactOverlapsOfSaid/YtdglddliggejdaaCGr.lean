/- A part of the proof of a statement of this seat: see the text that holds the theorem. No condition. -/
import Derived.Test.YtdglddliggejdaaPTCSUn5
import Derived.Test.YtdglddliggejdaaCSApply
import Derived.Test.YtdglddliggejdaaPUnif
import Derived.Test.YtdglddliggejdaaNm
import Derived.Test.YtdglddliggejdaaCSplit
import Derived.Test.YtdglddliggejdaaPTCGrE
import Derived.Test.YtdglddliggejdaaPTCMarkW
set_option linter.unusedVariables false
set_option linter.unusedSimpArgs false
set_option linter.all false
set_option linter.unusedVariables false
set_option linter.unusedSimpArgs false
set_option maxRecDepth 20000
namespace Go.Sim
open Go Go.RowKit

section
variable {S:Nat→Prop} {i:Nat} {σ:Nat→Option Ty} {F:Nat→Ty}
theorem Yhy (rs:Rsv V12 σ F) (hdom:∀ c u,σ c=some u→V12 c=true∧okL Zqb u=true):∀ (N:Nat) {h:Zaa} {t:Ty} {vt:List Zag},(sb V12 F t).size≤N→Zpg S h i σ→(∀ j,S j→j < h.length∧j≠i)→okL Zqb t=true→Zei S h t vt →
  Zad pg Zjw [.ptr (some (i,0)),.agg vt] h fun x h'=>Zbb h.length h h'∧∃ vs,x=.agg vs∧Zei (fun j=>h.length≤j) h' (sb V12 F t) vs:=by
 intro N
 induction N with
 | zero=>intro h t vt hN; have:=Zpr (sb V12 F t); omega
 | succ N ih=>
  intro h t vt hN m hSi ht r
  obtain ⟨a0,c0,e0,rfl⟩:=r.shape
  obtain ⟨n,u,hw,hu,heq⟩:=rs.walked (fun t=>okL Zqb t=true) (fun c t h=>(hdom c t h).2) ht
  have hend:=hw.end_
  rw [heq] at hN ⊢
  obtain ⟨d,hd⟩:∃ d,d=u.hd:=⟨_,rfl⟩
  obtain ⟨T,hT⟩:∃ T,T=sb V12 F u:=⟨_,rfl⟩
  have hTT:T.hd=d∧T.ps=u.ps.map (sb V12 F):=by
   rw [hT,hd]
   cases hv:V12 u.hd with
   | false=>exact Yls (.inr hv)
   | true=>
    have hk:=Zmx hu hv
    rw [hk,rs.var (hend _ hk)]
    exact ⟨rfl,rfl⟩
  obtain ⟨hTd,hTp⟩:=hTT
  rw [← hT]
  have hps2:u.ps.length≤2:=by cases u <;> simp [Ty.ps]
  have hil:=m.lt
  apply Zhs.call
  simp only [Zba]
  generalize hh0:h ++ [Zcp.cells Zab [.int .u8 (t.hd:Int),.slice a0 t.ps.length c0 e0] false]=h0
  generalize hh1:h0 ++ [Zcp.cells Zab [.int .u8 0,.slice none 0 0 true] false]=h1
  have s0:Zbb h.length h h0:=by rw [← hh0]; exact Zav
  have s1:Zbb h0.length h0 h1:=by rw [← hh1]; exact Zav
  have o0:h0[h.length]?=some (.cells Zab [.int .u8 (t.hd:Int),.slice a0 t.ps.length c0 e0] false):=by rw [← hh0]; simp
  have oa:=s1.get o0 (Own.lt o0)
  have oz:h1[h0.length]?=some (.cells Zab [.int .u8 0,.slice none 0 0 true] false):=by rw [← hh1]; simp
  have S1:=s0.cat s1
  have l0:h0.length=h.length + 1:=by rw [← hh0]; simp
  have l1:h1.length=h.length + 2:=by rw [← hh1]; simp [l0]
  rw [Zbr oa]
  simp only [Zas,Zak,Zar,Zal,Zai]
  refine (Zqd (m.same S1) (fun j hj=>⟨by have:=(hSi j hj).1; omega,(hSi j hj).2⟩) hdom ht hw (r.same S1)).mono ?_
  rintro v h2 ⟨s2,va,rfl,r2⟩
  obtain ⟨at',ct,et,vts,rfl,row2,hSt,hvtl,hvt2⟩:=r2.parts
  have oa2:=s2.get oa (Own.lt oa)
  have oz2:=s2.get oz (Own.lt oz)
  have l2:=s2.le
  simp only [Zcw,Zak,Zar,Zal,Zai]
  rw [Zbk oa2 (by simp)]
  simp only [Zaq,Zbm,List.take_zero,List.length_cons,List.length_nil,List.drop_succ_cons,List.drop_zero,List.drop_nil,List.cons_append,List.nil_append,List.append_nil,Nat.zero_add]
  generalize hh3:h2.set h.length (.cells Zab [.int .u8 (u.hd:Int),.slice at' u.ps.length ct et] false)=h3
  have oa3:h3[h.length]?=some (.cells Zab [.int .u8 (u.hd:Int),.slice at' u.ps.length ct et] false):=by rw [← hh3]; exact Zcc oa2
  have l3:h3.length=h2.length:=by rw [← hh3]; simp
  have k3:∀ j,j≠h.length→h3[j]?=h2[j]?:=fun j hj=>by rw [← hh3]; exact Zbv fun e=>hj e.symm
  have oz3:h3[h0.length]?=some (.cells Zab [.int .u8 0,.slice none 0 0 true] false):=by rw [k3 _ (by omega)]; exact oz2
  have S3:Zbb h.length h h3:=⟨by omega,fun j hj=>by rw [k3 j (by omega),s2.eq j (by omega)]; exact S1.eq j hj⟩
  simp only [Zan oa3,List.getElem?_cons_succ,List.getElem?_cons_zero,Zal]
  generalize hh4:h3 ++ [Zcp.cells Zab [] false]=h4
  have s4:Zbb h3.length h3 h4:=by rw [← hh4]; exact Zav
  have o4:h4[h3.length]?=some (.cells Zab [] false):=by rw [← hh4]; simp
  have l4:h4.length=h3.length + 1:=by rw [← hh4]; simp
  rw [Zlv]
  rw [← hd] at oa3 ⊢
  generalize hhB:h4 ++ [Zcp.cells Zab [.int .u8 (d:Int),.slice (some (h3.length,0)) 0 0 true] false]=hB
  have sB:Zbb h4.length h4 hB:=by rw [← hhB]; exact Zav
  obtain ⟨oi,hoi⟩:∃ oi,oi=h4.length:=⟨_,rfl⟩
  obtain ⟨rb,hrb⟩:∃ rb,rb=h3.length:=⟨_,rfl⟩
  have oB:hB[oi]?=some (.cells Zab [.int .u8 (d:Int),.slice (some (rb,0)) 0 0 true] false):=by rw [← hhB,hoi,hrb]; simp
  have lB:hB.length=h4.length + 1:=by rw [← hhB]; simp
  have rB:hB[rb]?=some (.cells Zab [] false):=by rw [hrb]; exact sB.get o4 (Own.lt o4)
  have zB:=sB.get (s4.get oz3 (Own.lt oz3)) (by have:=Own.lt oz3; omega)
  have oaB:=sB.get (s4.get oa3 (Own.lt oa3)) (by have:=Own.lt oa3; omega)
  have SB:=(S3.cat s4).cat sB
  rw [← hoi]
  simp only [Zaq,Zan oaB,List.getElem?_cons_succ,List.getElem?_cons_zero,Zai]
  have holdS:∀ h':Zaa,Zbb h.length h h'→∀ j,S j→h'[j]?=h2[j]?:=fun h' hS j hj=>by
   have:=(hSi j hj).1
   rw [hS.eq j this,← S1.eq j this,← s2.eq j (by omega)]
  have hold:∀ h':Zaa,Zbb h.length h h'→∀ j o,u.ps.length * 2≠0→at'=some (j,o)→h'[j]?=h2[j]?:=fun h' hS j o h0 ha=>holdS h' hS j (hSt j o (by omega) ha)
  have rowB:=row2
  have hvt:=hvt2
  have hSQ:∀ h':Zaa,h.length≤h'.length→∀ j,S j→j < h'.length∧j≠i:=fun h' hl j hj=>⟨by have:=(hSi j hj).1; omega,(hSi j hj).2⟩
  refine Zhs.L4ind (J:=fun (g:Nat) x18 h'=>x18=(g:Int)∧g≤u.ps.length∧Zbb h.length h h'∧hB.length≤h'.length∧h'[h0.length]?=some (.cells Zab [.int .u8 0,.slice none 0 0 true] false) ∧
   ∃ (a:Pt) (cp:Nat) (e:Bool) (vs:List (List Zag)),h'[oi]?=some (.cells Zab [.int .u8 (d:Int),.slice a g cp e] false)∧vs.length=g∧Vec Zab h' a g cp vs.flatten∧(∀ j,a=some (j,0)→j=rb ∨ hB.length≤j) ∧
    ∀ (k:Nat) (v:List Zag) (x:Ty),vs[k]?=some v→u.ps[k]?=some x→Zei (fun j=>hB.length≤j∧∀ j0,a=some (j0,0)→j≠j0) h' (sb V12 F x) v) (m:=fun g=>u.ps.length - g) (hr:=?_) (g:=0)
   (hj:=⟨rfl,by omega,SB,Nat.le_refl _,zB,some (rb,0),0,true,[],oB,rfl,Vec.mk1 (by simpa using rB),fun j hj=>by cases hj; exact .inl rfl,by simp⟩)
  rintro g x18 h' ⟨rfl,hg,hS,hl4,hz,a,cp,e,vs,ho,hvl,hv,ha,hp⟩ R hR
  unfold Zhs.L4t
  have hz2:∀ v∈vs,v.length=2:=fun v hv=>by
   obtain ⟨k,hk,rfl⟩:=List.mem_iff_getElem.1 hv
   exact (hp k vs[k] (u.ps[k]'(by omega)) (List.getElem?_eq_getElem hk) (List.getElem?_eq_getElem (by omega))).len
  refine Zaj (fun hlt=>?_) (fun hge=>?_)
  ·have hgt:g < u.ps.length:=by omega
   obtain ⟨jt,oft,a4,c4,e4,rfl,hrt,hkt⟩:=Zei.get (Ylj rowB (by omega) fun j o h0 ha _=>hold h' hS j o h0 ha) hvtl (fun k w x h1 h2=>(hvt k w x h1 h2).agree fun j hj=>holdS h' hS j hj) hgt
   simp only [Zau,Int.toNat_natCast,hrt,Zas,Zak,Zar,Zal,Zai,Zba]
   rw [Zlv]
   generalize hq:h' ++ [Zcp.cells Zab [.int .u8 (u.ps[g].hd:Int),.slice a4 u.ps[g].ps.length c4 e4] false]=hq'
   have sq:Zbb h'.length h' hq':=by rw [← hq]; exact Zav
   have oq:=sq.get ho (Own.lt ho)
   simp only [Zaq,Zan oq,Nat.zero_add,List.getElem?_cons_succ,List.getElem?_cons_zero,Zai]
   rw [← hq,Ymh,hq]
   simp only [Zas,Zak,Zar,Zal,Zai,true_and]
   have hmt:=List.getElem_mem hgt
   have hlq:=sq.le
   have hSle:=hS.le
   have SQ:=hS.cat sq
   refine ⟨by omega,(ih (by have:=Znu (V:=V12) hmt F; omega) (m.same SQ) (hSQ hq' SQ.le) (Yft hu _ hmt) (hkt.same sq)).mono ?_⟩
   rintro v h5 ⟨s5,nv,rfl,hn5⟩
   obtain ⟨na,nc,ne,hnv⟩:=hn5.shape
   rw [hnv] at hn5
   have o5:=s5.get oq (Own.lt oq)
   simp only [hnv,Zcw,Zak,Zar,Zal,Zai,Zan o5,List.getElem?_cons_succ,List.getElem?_cons_zero,true_and]
   have hc6:Zaf (h5 ++ [Zcp.cells Zab [.int .u8 ((sb V12 F u.ps[g]).hd:Int),.slice na (sb V12 F u.ps[g]).ps.length nc ne] false]) (.ptr (some (oi,1)))=some (.slice a g cp e):=by rw [Zan (Zkz o5)]; rfl
   refine ⟨by rw [hc6],?_⟩
   have v5:=(hv.same sq).same s5
   have hl5:=s5.le
   refine v5.pushN Ztg Zyc Zxf Zyk (by rw [Zrh hz2]; omega) rfl (by omega) rfl (by omega) (fun h7 hl7 hi7 hk7=>?_)
   simp only [Zai]
   have hz5:=s5.get (sq.get hz (Own.lt hz)) (by have:=Own.lt hz; omega)
   have o7:h7[oi]?=some (.cells Zab [.int .u8 (d:Int),.slice a g cp e] false):=by
    rw [hk7 _ (Own.lt o5) fun j hj=>by rcases ha j hj with hh | hh <;> omega]; exact o5
   rw [Zbk o7 (by simp)]
   simp only [Zaq,Zbm,List.take_succ_cons,List.take_zero,List.length_cons,List.length_nil,List.drop_succ_cons,List.drop_nil,List.cons_append,List.nil_append,List.append_nil]
   rw [Zbp (by omega)]
   have hS5:=SQ.cat s5
   have h7o:∀ j,j < h5.length→(∀ j0,a=some (j0,0)→j≠j0)→j≠oi→(h7.set oi (Zcp.cells Zab [.int .u8 (d:Int),.slice (some (h5.length + 1,0)) (g + 1) (g + 1) false] false))[j]?=h5[j]?:=fun j hj hne hne2=>by rw [Zbv (by omega),hk7 j hj hne]
   refine hR (g + 1) _ _ (by omega) ⟨rfl,by omega,⟨by simp; omega,fun j hj=>?_⟩,by simp; omega,?_,some (h5.length + 1,0),g + 1,false,vs ++ [[.int .u8 ((sb V12 F u.ps[g]).hd:Int),.slice na (sb V12 F u.ps[g]).ps.length nc ne]],Zcc o7,by simp [hvl],Vec.mk1 ?_,fun j hj=>by cases hj; right; omega,?_⟩
   ·rw [h7o j (by omega) (fun j0 hj0=>by rcases ha j0 hj0 with hh | hh <;> omega) (by omega)]; exact hS5.eq j hj
   ·rw [h7o _ (Own.lt hz5) (fun j0 hj0=>by rcases ha j0 hj0 with hh | hh <;> omega) (by omega)]; exact hz5
   ·rw [Zbv (by omega),hi7]; simp
   ·intro k v x hv' hx
    have hkeep:∀ {t':Ty} {v':List Zag},Zei (fun j=>hB.length≤j∧∀ j0,a=some (j0,0)→j≠j0) h5 t' v'→Zei (fun j=>hB.length≤j∧∀ j0,(some (h5.length + 1,0):Pt)=some (j0,0)→j≠j0) (h7.set oi (Zcp.cells Zab [.int .u8 (d:Int),.slice (some (h5.length + 1,0)) (g + 1) (g + 1) false] false)) t' v':=by
     intro t' v' hr
     refine Zei.mono (S:=fun j=>(hB.length≤j∧∀ j0,a=some (j0,0)→j≠j0)∧j < h5.length) (fun j hj=>⟨hj.1.1,fun j0 e0=>by cases e0; have:=hj.2; omega⟩) (hr.below.agree fun j hj=>?_)
     exact h7o j hj.2 hj.1.2 (by have:=hj.1.1; omega)
    by_cases hkl:k < vs.length
    ·rw [List.getElem?_append_left hkl] at hv'
     exact hkeep (((hp k v x hv' hx).same sq).same s5)
    ·rw [List.getElem?_append_right (by omega)] at hv'
     have hk0:k=vs.length:=by
      by_cases e:k - vs.length=0
      ·omega
      ·rw [List.getElem?_eq_none (by simp; omega)] at hv'; cases hv'
     subst hk0
     simp at hv'
     subst hv'
     rw [hvl,List.getElem?_eq_getElem hgt] at hx
     cases hx
     refine hkeep (Zei.mono (S:=fun j=>hq'.length≤j) (fun j hj=>⟨by omega,fun j0 e0=>?_⟩) hn5)
     have hj0:=(hv.same sq).lt' e0
     omega
  ·apply Zhs.A4x0i
   have:g=u.ps.length:=by omega
   subst this
   rw [Zfv (o:=0) (n:=2) ho (by simp)]
   simp only [List.drop_zero,List.take_succ_cons,List.take_zero,Zas,Zak,Zar,Zal,Zai]
   rw [Zbk hz (by simp)]
   simp only [Zaq]
   rw [Zfv (Zcc hz) (by simp [Zbm])]
   simp only [Zbm,List.take_zero,List.nil_append,List.length_cons,List.length_nil,List.cons_append,List.drop_succ_cons,List.drop_zero,List.drop_nil,List.append_nil,List.take_succ_cons,Zas,Zak,Zal,Zai,Zar]
   refine ⟨⟨by simp; exact hS.le,fun j hj=>by rw [Zbv (by omega)]; exact hS.eq j hj⟩,_,rfl,?_⟩
   have hget:∀ j,j≠h0.length→(h'.set h0.length (Zcp.cells Zab [.int .u8 (d:Int),.slice a u.ps.length cp e] false))[j]?=h'[j]?:=fun j hj=>Zbv (fun e=>hj e.symm)
   rw [← hTd]
   rcases hv with ⟨rfl,h0',_,hvs⟩ | ⟨j0,rfl,hj0⟩
   ·-- no parts
    have hps:T.ps=[]:=by rw [hTp,List.eq_nil_of_length_eq_zero h0']; rfl
    have hTk:=Yoi (t:=T) (by rw [hps]; rfl)
    rw [hTk,h0']
    exact ⟨_,_,_,rfl⟩
   ·have hj0n:j0≠h0.length:=by rcases ha j0 rfl with hh | hh <;> omega
    have hS4:=ha j0 rfl
    refine Zei.make (S:=fun j=>h.length≤j) (t:=T) (j:=j0) (n:=u.ps.length) (c:=cp) (e:=e) (vs:=vs) (by rw [hTp,List.length_map]) (by rcases hS4 with hh | hh <;> omega) (by rw [hTd,hget j0 hj0n]; exact hj0) hvl (fun k w x hw hx=>?_)
    rw [hTp,List.getElem?_map] at hx
    obtain ⟨y,hy,rfl⟩:=Option.map_eq_some_iff.1 hx
    have hr:=hp k w y hw hy
    rw [hTd]
    refine Zei.mono (S:=fun j=>hB.length≤j∧∀ j1,(some (j0,0):Pt)=some (j1,0)→j≠j1) (fun j hj=>by have:=hj.1; omega) (hr.agree fun j hj=>hget j (by have:=hj.1; omega))
end
theorem Ykw {k:Nat} (h:k < 12):IntKind.wrap .i64 ((k:Int) + 6)=((k + 6:Nat):Int):=by rw [IntWalk.i64_in _ (by omega)]; omega
theorem Yau:∀ (N:Nat) {S:Nat→Prop} {h:Zaa} {u:Ty} {vt:List Zag},u.size≤N→(∀ j,S j→j < h.length)→u.ok=true→Zei S h u vt →
  Zad pg Zhw [.agg vt] h fun x h'=>Zbb h.length h h'∧∃ vs,x=.agg vs∧Zei (fun j=>h.length≤j) h' (Zpj u) vs:=by
 intro N
 induction N with
 | zero=>intro S h t vt hN; have:=Zpr t; omega
 | succ N ih=>
  intro S h u vt hN hSi hu r
  obtain ⟨at',ct,et,vts,rfl,row2,hSt,hvtl,hvt2⟩:=r.parts
  obtain ⟨d,hd⟩:∃ d,d=(Zpj u).hd:=⟨_,rfl⟩
  obtain ⟨T,hT⟩:∃ T,T=Zpj u:=⟨_,rfl⟩
  have hTd:T.hd=d:=by rw [hT,hd]
  have hTp:T.ps=u.ps.map Zpj:=by rw [hT]; cases u <;> simp [Zpj,Ty.ps]
  have hdh:d=if Zbc u.hd then Ydj u.hd else u.hd:=by
   rw [hd]
   cases u with
   | k c=>rfl
   | u c x=>
    simp only [Ty.ok,Bool.and_eq_true,Bool.or_eq_true,beq_iff_eq] at hu
    rcases hu.1 with e | e <;> (subst e; rfl)
   | w c x y=>
    simp only [Ty.ok,Bool.and_eq_true,beq_iff_eq] at hu
    have:=hu.1.1
    subst this; rfl
  rw [← hT]
  have hps2:u.ps.length≤2:=by cases u <;> simp [Ty.ps]
  apply Zed.call
  simp only [Zba]
  generalize hh0:h ++ [Zcp.cells Zab [.int .u8 (u.hd:Int),.slice at' u.ps.length ct et] false]=h0
  generalize hh1:h0 ++ [Zcp.cells Zab [.int .u8 0,.slice none 0 0 true] false]=h1
  have s0:Zbb h.length h h0:=by rw [← hh0]; exact Zav
  have s1:Zbb h0.length h0 h1:=by rw [← hh1]; exact Zav
  have o0:h0[h.length]?=some (.cells Zab [.int .u8 (u.hd:Int),.slice at' u.ps.length ct et] false):=by rw [← hh0]; simp
  have oa:=s1.get o0 (Own.lt o0)
  have oz:h1[h0.length]?=some (.cells Zab [.int .u8 0,.slice none 0 0 true] false):=by rw [← hh1]; simp
  have S1:=s0.cat s1
  have l0:h0.length=h.length + 1:=by rw [← hh0]; simp
  have l1:h1.length=h.length + 2:=by rw [← hh1]; simp [l0]
  simp only [Zan oa,Nat.zero_add,List.getElem?_cons_zero,Zal]
  generalize hh4:h1 ++ [Zcp.cells Zab [] false]=h4
  have s4:Zbb h1.length h1 h4:=by rw [← hh4]; exact Zav
  have o4:h4[h1.length]?=some (.cells Zab [] false):=by rw [← hh4]; simp
  have l4:h4.length=h1.length + 1:=by rw [← hh4]; simp
  rw [Zlv]
  generalize hhC:h4 ++ [Zcp.cells Zab [.int .u8 (u.hd:Int),.slice (some (h1.length,0)) 0 0 true] false]=hC
  have sC:Zbb h4.length h4 hC:=by rw [← hhC]; exact Zav
  obtain ⟨oi,hoi⟩:∃ oi,oi=h4.length:=⟨_,rfl⟩
  obtain ⟨rb,hrb⟩:∃ rb,rb=h1.length:=⟨_,rfl⟩
  have oC:hC[oi]?=some (.cells Zab [.int .u8 (u.hd:Int),.slice (some (rb,0)) 0 0 true] false):=by rw [← hhC,hoi,hrb]; simp
  have lC:hC.length=h4.length + 1:=by rw [← hhC]; simp
  have rC:hC[rb]?=some (.cells Zab [] false):=by rw [hrb]; exact sC.get o4 (Own.lt o4)
  have zC:=sC.get (s4.get oz (Own.lt oz)) (by have:=Own.lt oz; omega)
  have oaC:=sC.get (s4.get oa (Own.lt oa)) (by have:=Own.lt oa; omega)
  have SC:=(S1.cat s4).cat sC
  rw [← hoi]
  simp only [Zaq,Zan oaC,List.getElem?_cons_succ,List.getElem?_cons_zero,Zal]
  refine (Zly u.hd).mono ?_
  rintro v h5 ⟨rfl,rfl⟩
  simp only [Zal]
  have holdS:∀ h':Zaa,Zbb h.length h h'→∀ j,S j→h'[j]?=h[j]?:=fun h' hS j hj=>hS.eq j (hSi j hj)
  have hold:∀ h':Zaa,Zbb h.length h h'→∀ j o,u.ps.length * 2≠0→at'=some (j,o)→h'[j]?=h[j]?:=fun h' hS j o h0 ha=>holdS h' hS j (hSt j o (by omega) ha)
  have rowB:=row2
  have hvt:=hvt2
  have main:∀ hB:Zaa,hB.length=h5.length→(∀ j,j≠oi→hB[j]?=h5[j]?)→hB[oi]?=some (.cells Zab [.int .u8 (d:Int),.slice (some (rb,0)) 0 0 true] false)→Zed.J5 (fun x h'=>Zbb h.length h h'∧∃ vs,x=.agg vs∧Zei (fun j=>h.length≤j) h' T vs) h.length 0 h0.length 0 oi 0 hB:=by
   intro hB lB kB oB
   have rB:hB[rb]?=some (.cells Zab [] false):=by rw [kB _ (by omega)]; exact rC
   have zB:hB[h0.length]?=some (.cells Zab [.int .u8 0,.slice none 0 0 true] false):=by rw [kB _ (by omega)]; exact zC
   have oaB:hB[h.length]?=some (.cells Zab [.int .u8 (u.hd:Int),.slice at' u.ps.length ct et] false):=by rw [kB _ (by omega)]; exact oaC
   have SB:Zbb h.length h hB:=⟨by omega,fun j hj=>by rw [kB j (by omega)]; exact SC.eq j hj⟩
   apply Zed.J5i
   simp only [Zan oaB,Nat.zero_add,List.getElem?_cons_succ,List.getElem?_cons_zero,Zai]
   refine Zed.L6ind (J:=fun (g:Nat) x18 h'=>x18=(g:Int)∧g≤u.ps.length∧Zbb h.length h h'∧hB.length≤h'.length∧h'[h0.length]?=some (.cells Zab [.int .u8 0,.slice none 0 0 true] false) ∧
    ∃ (a:Pt) (cp:Nat) (e:Bool) (vs:List (List Zag)),h'[oi]?=some (.cells Zab [.int .u8 (d:Int),.slice a g cp e] false)∧vs.length=g∧Vec Zab h' a g cp vs.flatten∧(∀ j,a=some (j,0)→j=rb ∨ hB.length≤j) ∧
     ∀ (k:Nat) (v:List Zag) (x:Ty),vs[k]?=some v→u.ps[k]?=some x→Zei (fun j=>hB.length≤j∧∀ j0,a=some (j0,0)→j≠j0) h' (Zpj x) v) (m:=fun g=>u.ps.length - g) (hr:=?_) (g:=0)
    (hj:=⟨rfl,by omega,SB,Nat.le_refl _,zB,some (rb,0),0,true,[],oB,rfl,Vec.mk1 (by simpa using rB),fun j hj=>by cases hj; exact .inl rfl,by simp⟩)
   rintro g x18 h' ⟨rfl,hg,hS,hl4,hz,a,cp,e,vs,ho,hvl,hv,ha,hp⟩ R hR
   unfold Zed.L6t
   have hz2:∀ v∈vs,v.length=2:=fun v hv=>by
    obtain ⟨k,hk,rfl⟩:=List.mem_iff_getElem.1 hv
    exact (hp k vs[k] (u.ps[k]'(by omega)) (List.getElem?_eq_getElem hk) (List.getElem?_eq_getElem (by omega))).len
   refine Zaj (fun hlt=>?_) (fun hge=>?_)
   ·have hgt:g < u.ps.length:=by omega
    obtain ⟨jt,oft,a4,c4,e4,rfl,hrt,hkt⟩:=Zei.get (Ylj rowB (by omega) fun j o h0 ha _=>hold h' hS j o h0 ha) hvtl (fun k w x h1 h2=>(hvt k w x h1 h2).agree fun j hj=>holdS h' hS j hj) hgt
    simp only [Zau,Int.toNat_natCast,hrt,Zas,Zak,Zar,Zal,Zai,Zba]
    rw [Zlv]
    generalize hq:h' ++ [Zcp.cells Zab [.int .u8 (u.ps[g].hd:Int),.slice a4 u.ps[g].ps.length c4 e4] false]=hq'
    have sq:Zbb h'.length h' hq':=by rw [← hq]; exact Zav
    have oq:=sq.get ho (Own.lt ho)
    simp only [Zaq,Zan oq,Nat.zero_add,List.getElem?_cons_succ,List.getElem?_cons_zero,Zai]
    rw [← hq,Ymh,hq]
    simp only [Zas,Zak,Zar,Zal,Zai,true_and]
    have hmt:=List.getElem_mem hgt
    have hlq:=sq.le
    have hSle:=hS.le
    have SQ:=hS.cat sq
    refine ⟨by omega,(ih (S:=S) (by have:=Ty.size_part hmt; omega) (fun j hj=>by have:=hSi j hj; have:=SQ.le; omega) (Ty.ok_ps hu _ hmt) (hkt.same sq)).mono ?_⟩
    rintro v h5 ⟨s5,nv,rfl,hn5⟩
    obtain ⟨na,nc,ne,hnv⟩:=hn5.shape
    rw [hnv] at hn5
    have o5:=s5.get oq (Own.lt oq)
    simp only [hnv,Zcw,Zak,Zar,Zal,Zai,Zan o5,List.getElem?_cons_succ,List.getElem?_cons_zero,true_and]
    have hc6:Zaf (h5 ++ [Zcp.cells Zab [.int .u8 ((Zpj u.ps[g]).hd:Int),.slice na (Zpj u.ps[g]).ps.length nc ne] false]) (.ptr (some (oi,1)))=some (.slice a g cp e):=by rw [Zan (Zkz o5)]; rfl
    refine ⟨by rw [hc6],?_⟩
    have v5:=(hv.same sq).same s5
    have hl5:=s5.le
    refine v5.pushN Ztg Zyc Zxf Zyk (by rw [Zrh hz2]; omega) rfl (by omega) rfl (by omega) (fun h7 hl7 hi7 hk7=>?_)
    simp only [Zai]
    have hz5:=s5.get (sq.get hz (Own.lt hz)) (by have:=Own.lt hz; omega)
    have o7:h7[oi]?=some (.cells Zab [.int .u8 (d:Int),.slice a g cp e] false):=by
     rw [hk7 _ (Own.lt o5) fun j hj=>by rcases ha j hj with hh | hh <;> omega]; exact o5
    rw [Zbk o7 (by simp)]
    simp only [Zaq,Zbm,List.take_succ_cons,List.take_zero,List.length_cons,List.length_nil,List.drop_succ_cons,List.drop_nil,List.cons_append,List.nil_append,List.append_nil]
    rw [Zbp (by omega)]
    have hS5:=SQ.cat s5
    have h7o:∀ j,j < h5.length→(∀ j0,a=some (j0,0)→j≠j0)→j≠oi→(h7.set oi (Zcp.cells Zab [.int .u8 (d:Int),.slice (some (h5.length + 1,0)) (g + 1) (g + 1) false] false))[j]?=h5[j]?:=fun j hj hne hne2=>by rw [Zbv (by omega),hk7 j hj hne]
    refine hR (g + 1) _ _ (by omega) ⟨rfl,by omega,⟨by simp; omega,fun j hj=>?_⟩,by simp; omega,?_,some (h5.length + 1,0),g + 1,false,vs ++ [[.int .u8 ((Zpj u.ps[g]).hd:Int),.slice na (Zpj u.ps[g]).ps.length nc ne]],Zcc o7,by simp [hvl],Vec.mk1 ?_,fun j hj=>by cases hj; right; omega,?_⟩
    ·rw [h7o j (by omega) (fun j0 hj0=>by rcases ha j0 hj0 with hh | hh <;> omega) (by omega)]; exact hS5.eq j hj
    ·rw [h7o _ (Own.lt hz5) (fun j0 hj0=>by rcases ha j0 hj0 with hh | hh <;> omega) (by omega)]; exact hz5
    ·rw [Zbv (by omega),hi7]; simp
    ·intro k v x hv' hx
     have hkeep:∀ {t':Ty} {v':List Zag},Zei (fun j=>hB.length≤j∧∀ j0,a=some (j0,0)→j≠j0) h5 t' v'→Zei (fun j=>hB.length≤j∧∀ j0,(some (h5.length + 1,0):Pt)=some (j0,0)→j≠j0) (h7.set oi (Zcp.cells Zab [.int .u8 (d:Int),.slice (some (h5.length + 1,0)) (g + 1) (g + 1) false] false)) t' v':=by
      intro t' v' hr
      refine Zei.mono (S:=fun j=>(hB.length≤j∧∀ j0,a=some (j0,0)→j≠j0)∧j < h5.length) (fun j hj=>⟨hj.1.1,fun j0 e0=>by cases e0; have:=hj.2; omega⟩) (hr.below.agree fun j hj=>?_)
      exact h7o j hj.2 hj.1.2 (by have:=hj.1.1; omega)
     by_cases hkl:k < vs.length
     ·rw [List.getElem?_append_left hkl] at hv'
      exact hkeep (((hp k v x hv' hx).same sq).same s5)
     ·rw [List.getElem?_append_right (by omega)] at hv'
      have hk0:k=vs.length:=by
       by_cases e:k - vs.length=0
       ·omega
       ·rw [List.getElem?_eq_none (by simp; omega)] at hv'; cases hv'
      subst hk0
      simp at hv'
      subst hv'
      rw [hvl,List.getElem?_eq_getElem hgt] at hx
      cases hx
      refine hkeep (Zei.mono (S:=fun j=>hq'.length≤j) (fun j hj=>⟨by omega,fun j0 e0=>?_⟩) hn5)
      have hj0:=(hv.same sq).lt' e0
      omega
   ·apply Zed.A6x0i
    have:g=u.ps.length:=by omega
    subst this
    rw [Zfv (o:=0) (n:=2) ho (by simp)]
    simp only [List.drop_zero,List.take_succ_cons,List.take_zero,Zas,Zak,Zar,Zal,Zai]
    rw [Zbk hz (by simp)]
    simp only [Zaq]
    rw [Zfv (Zcc hz) (by simp [Zbm])]
    simp only [Zbm,List.take_zero,List.nil_append,List.length_cons,List.length_nil,List.cons_append,List.drop_succ_cons,List.drop_zero,List.drop_nil,List.append_nil,List.take_succ_cons,Zas,Zak,Zal,Zai,Zar]
    refine ⟨⟨by simp; exact hS.le,fun j hj=>by rw [Zbv (by omega)]; exact hS.eq j hj⟩,_,rfl,?_⟩
    have hget:∀ j,j≠h0.length→(h'.set h0.length (Zcp.cells Zab [.int .u8 (d:Int),.slice a u.ps.length cp e] false))[j]?=h'[j]?:=fun j hj=>Zbv (fun e=>hj e.symm)
    rw [← hTd]
    rcases hv with ⟨rfl,h0',_,hvs⟩ | ⟨j0,rfl,hj0⟩
    ·-- no parts
     have hps:T.ps=[]:=by rw [hTp,List.eq_nil_of_length_eq_zero h0']; rfl
     have hTk:=Yoi (t:=T) (by rw [hps]; rfl)
     rw [hTk,h0']
     exact ⟨_,_,_,rfl⟩
    ·have hj0n:j0≠h0.length:=by rcases ha j0 rfl with hh | hh <;> omega
     have hS4:=ha j0 rfl
     refine Zei.make (S:=fun j=>h.length≤j) (t:=T) (j:=j0) (n:=u.ps.length) (c:=cp) (e:=e) (vs:=vs) (by rw [hTp,List.length_map]) (by rcases hS4 with hh | hh <;> omega) (by rw [hTd,hget j0 hj0n]; exact hj0) hvl (fun k w x hw hx=>?_)
     rw [hTp,List.getElem?_map] at hx
     obtain ⟨y,hy,rfl⟩:=Option.map_eq_some_iff.1 hx
     have hr:=hp k w y hw hy
     rw [hTd]
     refine Zei.mono (S:=fun j=>hB.length≤j∧∀ j1,(some (j0,0):Pt)=some (j1,0)→j≠j1) (fun j hj=>by have:=hj.1; omega) (hr.agree fun j hj=>hget j (by have:=hj.1; omega))
  cases hv:Zbc u.hd with
  | true=>
   obtain ⟨k,hk6,hkv,hix⟩:=Ygp hv
   rw [hv,if_pos rfl] at hdh
   rw [hix]
   refine Zaj (fun _=>?_) (fun h=>absurd (by omega) h)
   rw [Ykw (by omega)]
   unfold Zjo
   refine ⟨⟨by omega,by simp; omega⟩,?_⟩
   have hb:([88,89,90,120,121,122,49,50,51,52,53,54]:List Nat).getD (Int.toNat ((k + 6:Nat):Int)) 0=d:=by
    rw [Int.toNat_natCast,hdh]
    match k,hk6,hkv with
    | 0,_,e | 1,_,e | 2,_,e | 3,_,e | 4,_,e | 5,_,e=>simp [Zgw] at e; rw [← e]; rfl
   rw [hb]
   show Zcf (Zbd h5 (.ptr (some (oi,0))) [.int .u8 (d:Int)]) fun h_11=>Zed.J5 _ _ _ _ _ _ _ h_11
   rw [Zbk oC (by simp)]
   simp only [Zaq,Zbm,List.take_zero,List.length_cons,List.length_nil,List.drop_succ_cons,List.drop_zero,List.drop_nil,List.cons_append,List.nil_append,List.append_nil,Nat.zero_add]
   exact main _ (by simp) (fun j hj=>Zbv fun e=>hj e.symm) (Zcc oC)
  | false=>
   rw [hv] at hdh
   simp only [Bool.false_eq_true,if_false] at hdh
   rw [Yfd hu hv]
   refine Zaj (fun h=>absurd h (by decide)) (fun _=>?_)
   exact main _ rfl (fun _ _=>rfl) (by rw [hdh]; exact oC)
end Go.Sim

set_option linter.unusedVariables false
set_option linter.unusedSimpArgs false
set_option maxRecDepth 20000
namespace Go.Sim
open Go Go.RowKit

theorem Ycx {c d:Nat} (hc:V12 c=true) (hd:V12 d=true) (h:Zpl c=Zpl d):c=d:=by
 obtain ⟨k,hk,hkv,hix⟩:=Zmh hc
 obtain ⟨k',hk',hkv',hix'⟩:=Zmh hd
 unfold Zpl at h
 rw [hix,hix'] at h
 have:k=k':=by simpa using h
 subst this
 rw [hkv] at hkv'
 exact Option.some.inj hkv'
def tg (σ:Nat→Option Ty) (F:Nat→Ty) (k:Nat):Nat→Option Ty:=fun c=>if V12 c=true∧Zpl c < k∧σ c≠none then some (F c) else none
theorem Ydz {P:Ty→Prop} (hP:∀ t,P t→okL Zqb t=true) (hPs:∀ t,P t→∀ p∈t.ps,P p) {S:Nat→Prop} {h:Zaa} {a b:Ty} {va vb:List Zag} (hS:∀ j,S j→j < h.length) (ha:P a) (hb:P b) (ra:Zei S h a va) (rb:Zei S h b vb) :
  Zad pg Zlk [.agg va,.agg vb] h fun v h'=>Zbb h.length h h'∧∃ q bl,v=.tup [.ptr (some (q,0)),.bool bl]∧((bl=true∧∃ σ F,Rsv V12 σ F∧(∀ θ,Sol V12 σ θ ↔ sb V12 θ a=sb V12 θ b)∧Inc Zpl V12 σ∧(∀ c t,σ c=some t→P (.k c)∧P t) ∧
   ∃ S',(∀ j,S' j→j≠q)∧Zpg S' h' q (tg σ F 12)) ∨ (bl=false∧∀ θ:Nat→Ty,sb V12 θ a≠sb V12 θ b)):=by
 obtain ⟨aa,ca,ea,rfl⟩:=ra.shape
 obtain ⟨ab,cb,eb,rfl⟩:=rb.shape
 apply Zev.call
 rw [← Ymi]
 simp only [Zba]
 generalize hh0:h ++ [Zcp.cells Zab [.int .u8 (a.hd:Int),.slice aa a.ps.length ca ea] false]=h0
 generalize hh1:h0 ++ [Zcp.cells Zab [.int .u8 (b.hd:Int),.slice ab b.ps.length cb eb] false]=h1
 generalize hh2:h1 ++ [Zcp.cells Zdb (Zdo eR (List.replicate 12 (Zag.int .u8 0,Zag.slice none 0 0 true))) false]=h2
 have s0:Zbb h.length h h0:=by rw [← hh0]; exact Zav
 have s1:Zbb h0.length h0 h1:=by rw [← hh1]; exact Zav
 have s2:Zbb h1.length h1 h2:=by rw [← hh2]; exact Zav
 have l0:h0.length=h.length + 1:=by rw [← hh0]; simp
 have l1:h1.length=h.length + 2:=by rw [← hh1]; simp [l0]
 have l2:h2.length=h.length + 3:=by rw [← hh2]; simp [l1]
 have oa0:h0[h.length]?=some (.cells Zab [.int .u8 (a.hd:Int),.slice aa a.ps.length ca ea] false):=by rw [← hh0]; simp
 have oa:=(s1.cat s2).get oa0 (Own.lt oa0)
 have ob1:h1[h0.length]?=some (.cells Zab [.int .u8 (b.hd:Int),.slice ab b.ps.length cb eb] false):=by rw [← hh1]; simp
 have ob:=s2.get ob1 (Own.lt ob1)
 have om:h2[h1.length]?=some (.cells Zdb (Zdo eR (List.replicate 12 (Zag.int .u8 0,Zag.slice none 0 0 true))) false):=by rw [← hh2]; simp
 have S2:=(s0.cat s1).cat s2
 rw [Zbr oa,Zbr ob]
 simp only [Zas,Zak,Zar,Zal,Zai]
 refine (Yei (S:=S) (i:=h1.length) hP hPs _ _ (Nat.le_refl _) (Nat.le_refl _) Rsv.nil (fun c d hc=>by cases hc) (fun c t hc=>by cases hc) (Zpg.nil om) (fun j hj=>⟨by have:=hS j hj; omega,by have:=hS j hj; omega⟩) ha hb (ra.same S2) (rb.same S2)).mono ?_
 rintro v h3 ⟨K3,⟨rfl,σ,F,m3,rs,hsol,hi,hσ,_⟩ | ⟨rfl,hno⟩⟩
 ·have hdom:∀ c u,σ c=some u→V12 c=true∧okL Zqb u=true:=fun c u h=>⟨rs.dom c u h,hP u (hσ c u h).2⟩
  simp only [Zah,Bool.not_true,Zay]
  have l3:=K3.le
  have S3:Zbb h.length h h3:=⟨by omega,fun j hj=>by rw [K3.eq j (by omega) (by omega)]; exact S2.eq j hj⟩
  generalize hhB:h3 ++ [Zcp.cells Zdb (Zdo eR (List.replicate 12 (Zag.int .u8 0,Zag.slice none 0 0 true))) false]=hB
  have sB:Zbb h3.length h3 hB:=by rw [← hhB]; exact Zav
  have oB:hB[h3.length]?=some (.cells Zdb (Zdo eR (List.replicate 12 (Zag.int .u8 0,Zag.slice none 0 0 true))) false):=by rw [← hhB]; simp
  have lB:hB.length=h3.length + 1:=by rw [← hhB]; simp
  have mB:=m3.same sB
  have hSB:∀ j,S j→j < h3.length:=fun j hj=>by have:=hS j hj; omega
  have tg0:tg σ F 0=fun _=>none:=by funext c; simp [tg]
  refine Zev.L6ind (J:=fun (k:Nat) x19 h'=>x19=(k:Int)∧k≤12∧Zif h3.length hB h'∧Zpg (fun j=>hB.length≤j) h' h3.length (tg σ F k)) (m:=fun k=>12 - k) (hr:=?_) (g:=0) (hj:=⟨rfl,by omega,Zif.refl _ _,by rw [tg0]; exact Zpg.nil oB⟩)
  rintro k x19 h4 ⟨rfl,hk,K4,mo⟩ R hR
  unfold Zev.L6t
  have l4:=K4.le
  refine Zaj (fun hlt=>?_) (fun hge=>?_)
  ·have hk12:k < 12:=by omega
   obtain ⟨v,hv⟩:∃ v,Zfb[k]?=some v:=⟨_,List.getElem?_eq_getElem (show k < Zfb.length from hk12)⟩
   have hvv:=Ylq hv
   have hrv:Zpl v=k:=by
    obtain ⟨k',hk',hkv',hix'⟩:=Zmh hvv
    have h5:=List.getElem?_eq_some_iff.1 hv
    have h6:=List.getElem?_eq_some_iff.1 hkv'
    have:k=k':=(List.getElem_inj (h₀:=h5.1) (h₁:=h6.1) Zzd).1 (h5.2.trans h6.2.symm)
    unfold Zpl; rw [hix',this]; rfl
   have m4:Zpg S h4 h1.length σ:=mB.keep (K4.eq _ (by omega) (by omega)) fun j hj _=>K4.eq j (by have:=hSB j hj; omega) (by have:=hSB j hj; omega)
   obtain ⟨x,hx1,hx2,hx3⟩:=m4.get hv
   have next:∀ h',Zif h3.length hB h'→Zpg (fun j=>hB.length≤j) h' h3.length (tg σ F (k + 1))→Zev.J10 (fun v h'=>Zbb h.length h h'∧∃ q bl,v=.tup [.ptr (some (q,0)),.bool bl]∧((bl=true∧∃ σ F,Rsv V12 σ F∧(∀ θ,Sol V12 σ θ ↔ sb V12 θ a=sb V12 θ b)∧Inc Zpl V12 σ∧(∀ c t,σ c=some t→P (.k c)∧P t) ∧
     ∃ S',(∀ j,S' j→j≠q)∧Zpg S' h' q (tg σ F 12)) ∨ (bl=false∧∀ θ:Nat→Ty,sb V12 θ a≠sb V12 θ b))) R (k:Int) h1.length 0 h3.length 0 h':=by
    intro h' K' m'
    apply Zev.J10i
    rw [Zbp (by omega)]
    exact hR (k + 1) _ _ (by omega) ⟨rfl,by omega,K',m'⟩
   simp only [Int.toNat_natCast,hx1]
   cases hs:σ v with
   | none=>
    rw [hs] at hx3
    simp only at hx3
    subst hx3
    simp only [Zal,show ((0:Int) == 0)=true from rfl,Bool.not_true,Zay]
    have:tg σ F (k + 1)=tg σ F k:=by
     funext c
     unfold tg
     by_cases hc:V12 c=true∧σ c≠none
     ·have hne:Zpl c≠k:=fun e=>hc.2 (by rw [Ycx hc.1 hvv (by rw [e,hrv])]; exact hs)
      have:(Zpl c < k + 1) ↔ Zpl c < k:=by omega
      simp [hc,this]
     ·have h1:¬ (V12 c=true∧Zpl c < k + 1∧σ c≠none):=fun h=>hc ⟨h.1,h.2.2⟩
      have h2:¬ (V12 c=true∧Zpl c < k∧σ c≠none):=fun h=>hc ⟨h.1,h.2.2⟩
      rw [if_neg h1,if_neg h2]
    refine ⟨by omega,next h4 K4 (by rw [this]; exact mo)⟩
   | some t=>
    rw [hs] at hx3
    simp only at hx3
    have htok:=(hdom _ _ hs).2
    obtain ⟨wa,wc,we,hwx⟩:=hx3.shape
    simp only [List.cons.injEq,and_true] at hwx
    obtain ⟨hw1,hw2⟩:=hwx
    have hne:((t.hd:Int) == 0)=false:=by
     have:=Zpf htok
     have hne:t.hd≠0:=fun e=>by rw [e] at this; simp at this
     simp; omega
    rw [hw1,hw2] at hx2 hx3
    rw [hw1]
    simp only [Zal,hne,Bool.not_false,Zcs,hx2,Zas,Zak,Zar,Zai]
    refine ⟨by omega,by omega,(Yhy rs hdom _ (Nat.le_refl _) m4 (fun j hj=>⟨by have:=hSB j hj; omega,by have:=hS j hj; omega⟩) htok hx3).mono ?_⟩
    rintro v5 h5 ⟨s5,vs,rfl,r5⟩
    obtain ⟨fa,fc,fe,rfl⟩:=r5.shape
    simp only [Zcw,Zak,Zar,Zal,Zai]
    have l5:=s5.le
    obtain ⟨h6,hst,K6,m6⟩:=(mo.same s5).put (fun j hj=>by omega) hv (t:=sb V12 F t) (x:=.int .u8 ((sb V12 F t).hd:Int)) (y:=.slice fa (sb V12 F t).ps.length fc fe) (r5.mono fun j hj=>by omega)
    rw [hst]
    simp only [Zaq]
    have:tg σ F (k + 1)=upd (tg σ F k) v (sb V12 F t):=by
     funext c
     unfold upd
     by_cases e:c=v
     ·subst e
      rw [if_pos rfl,← rs.som c t hs]
      unfold tg
      rw [if_pos ⟨hvv,by omega,by rw [hs]; simp⟩]
     ·rw [if_neg e]
      unfold tg
      by_cases hc:V12 c=true
      ·have hne:Zpl c≠k:=fun e'=>e (Ycx hc hvv (by rw [e',hrv]))
       have:(Zpl c < k + 1) ↔ Zpl c < k:=by omega
       simp [this]
      ·simp [hc]
    exact ⟨by omega,next h6 ((K4.trans (Ydd s5)).trans K6) (by rw [this]; exact m6)⟩
  ·apply Zev.A6x0i
   have:k=12:=by omega
   subst this
   refine ⟨⟨by omega,fun j hj=>by rw [K4.eq j (by omega) (by omega),sB.eq j (by omega)]; exact S3.eq j hj⟩,_,_,rfl,.inl ⟨rfl,σ,F,rs,fun θ=>?_,hi,hσ,_,fun j hj=>?_,mo⟩⟩
   ·rw [hsol θ]; exact ⟨And.right,fun h=>⟨Sol.nil,h⟩⟩
   ·have:hB.length≤j:=hj
    omega
 ·simp only [Zah,Bool.not_false,Zcs]
  refine ⟨⟨by have:=K3.le; omega,fun j hj=>by rw [K3.eq j (by omega) (by omega)]; exact S2.eq j hj⟩,_,_,rfl,.inr ⟨rfl,fun θ=>hno θ Sol.nil⟩⟩
theorem Zxz (s t:List Nat) (hs0:s.length≤1048576) (ht0:t.length≤1048576) (h:Zaa):Zad pg Zkh [.str s,.str t] h fun v h'=>v=.bool (Zme s t)∧Zbb h.length h h':=by
 apply Zkb.call
 refine (Zsp s (by omega) h).mono ?_
 rintro v h1 ⟨s1,vs1,rfl,r1⟩
 obtain ⟨d1,a1,n1,c1,e1,rfl⟩:=Zuz r1
 simp only [Zdw,Zak,Zcw,Zal,Zai,Zar,Zah,Zba]
 rw [Zlv]
 generalize hh2:h1 ++ [Zcp.cells Zab [.int .u8 d1,.slice a1 n1 c1 e1] false]=h2
 have s2:Zbb h1.length h1 h2:=by rw [← hh2]; exact Zav
 have o2:h2[h1.length]?=some (.cells Zab [.int .u8 d1,.slice a1 n1 c1 e1] false):=by rw [← hh2]; simp
 simp only [Zaq]
 refine (Zsp t (by omega) h2).mono ?_
 rintro v h3 ⟨s3,vs3,rfl,r3⟩
 obtain ⟨d3,a3,n3,c3,e3,rfl⟩:=Zuz r3
 simp only [Zdw,Zak,Zcw,Zal,Zai,Zar,Zah]
 rw [Zlv]
 generalize hh4:h3 ++ [Zcp.cells Zab [.int .u8 d3,.slice a3 n3 c3 e3] false]=h4
 have s4:Zbb h3.length h3 h4:=by rw [← hh4]; exact Zav
 have o4:h4[h3.length]?=some (.cells Zab [.int .u8 d3,.slice a3 n3 c3 e3] false):=by rw [← hh4]; simp
 simp only [Zaq]
 have S2:=s1.cat s2
 have S4:=(S2.cat s3).cat s4
 have o24:=s4.get (s3.get o2 (Own.lt o2)) (by have:=Own.lt o2; have:=s3.le; omega)
 cases hp:Zjb s with
 | none=>
  have:Zos s=false:=by unfold Zos; rw [hp]; rfl
  rw [this]
  simp only [Bool.not_false,Zcs]
  exact ⟨by rw [Zsc (by rw [this]; rfl)],S4⟩
 | some a=>
  rw [Zwz hp]
  simp only [Bool.not_true,Zay]
  cases ht:Zjb t with
  | none=>
   have:Zos t=false:=by unfold Zos; rw [ht]; rfl
   rw [this]
   simp only [Bool.not_false,Zcs]
   exact ⟨by rw [Zsc (by rw [this]; simp)],S4⟩
  | some b=>
   rw [Zwz ht]
   rw [hp] at r1
   rw [ht] at r3
   simp only at r1 r3
   obtain ⟨ha1,ha2,ha3⟩:=Zim.1 hp
   obtain ⟨hb1,hb2,hb3⟩:=Zim.1 ht
   simp only [Bool.not_true,Zay]
   apply Zkb.J5i
   rw [Zbr o24,Zbr o4]
   simp only [Zas,Zak,Zar,Zal,Zai,true_and]
   have l1:=s1.le; have l2:=s2.le; have l3:=s3.le; have l4:=s4.le
   refine (Yau _ (Nat.le_refl _) (S:=fun j=>j < h4.length) (fun j hj=>hj) hb1 ((r3.same s4).below.mono fun j hj=>hj.2)).mono ?_
   rintro v h5 ⟨s5,vs5,rfl,r5⟩
   obtain ⟨a5,c5,e5,rfl⟩:=r5.shape
   have o25:=s5.get o24 (Own.lt o24)
   simp only [Zcw,Zak,Zar,Zal,Zai]
   refine ⟨Zbr o25,?_⟩
   refine (Ydz (P:=fun t=>okL Zqb t=true) (fun t h=>h) (fun t h p hp=>Yft h p hp) (S:=fun j=>j < h5.length) (fun j hj=>hj) (Zse (lf:=Zfi) (fun c hc=>by unfold Zqb; rw [hc]; rfl) (by rw [Ybz]; exact ha1)) (Zwg hb1) (((((r1.same s2).same s3).same s4).same s5).below.mono fun j hj=>hj.2) (r5.below.mono fun j hj=>hj.2)).mono ?_
   rintro v h6 ⟨s6,q,bl,rfl,hres⟩
   simp only [Zdw,Zak,Zdj,Zah,Zar]
   have hap:Zme s t=true ↔ ¬ ∃ θ:Nat→Ty,sb V12 θ a=sb V12 θ (Zpj b):=by
    rw [Ybq ha1 hb1]
    unfold Zme; rw [hp,ht]; simp
   refine ⟨?_,(S4.cat s5).cat s6⟩
   rcases hres with ⟨rfl,σ,F,rs,hsol,_⟩ | ⟨rfl,hno⟩
   ·have:Zme s t=false:=by
     cases hq:Zme s t with
     | false=>rfl
     | true=>exact absurd ⟨F,(hsol F).1 rs.solF⟩ (hap.1 hq)
    rw [this]; rfl
   ·rw [hap.2 fun ⟨θ,h⟩=>hno θ h]; rfl
end Go.Sim

set_option linter.unusedVariables false
set_option linter.unusedSimpArgs false
set_option maxRecDepth 20000
namespace Go.Sim
open Go Go.RowKit

def Ymr (p:Nd):Prop:=Zsg p.1.length∧Zsg p.2.length∧(∀ b∈p.1,b < 256)∧∀ b∈p.2,b < 256
theorem Yia {P:Program} {h:Zaa} {f:Nat} {e:TypeId} {f0 f1:Field} {v:List Zag} {d:Dt} (he:P.underlying e=some (.struct #[f0,f1])) (h0:P.underlying f0.type=some .string) (h1:P.underlying f1.type=some .string) (hr:rd P h (f + 2) e v d) :
  ∃ p:Nd,v=eP p∧Ymr p:=by
 unfold rd at hr
 rw [he] at hr
 obtain ⟨ds',vs',rfl,hd1,hd2,rfl,hall'⟩:=hr
 match vs',ds',hd2,hd1 with
 | [u,w],[x,y],_,_=>
  have g0:=(hall' 0 f0 u x rfl rfl rfl).2
  have g1:=(hall' 1 f1 w y rfl rfl rfl).2
  simp only [rd,h0] at g0
  simp only [rd,h1] at g1
  obtain ⟨s,rfl,_,hs1,hs2⟩:=g0
  obtain ⟨t,rfl,_,ht1,ht2⟩:=g1
  exact ⟨(s,t),rfl,hs1,ht1,hs2,ht2⟩
theorem Yfg {P:Program} {h:Zaa} {f:Nat} {e:TypeId} {α:Type} {enc:α→List Zag} {G:α→Prop} (el:∀ v d,rd P h f e v d→∃ x:α,v=enc x∧G x) :
  ∀ (vs:List (List Zag)) (ds:List Dt),ds.length=vs.length→(∀ (i:Nat) (v:List Zag) (x:Dt),vs[i]?=some v→ds[i]?=some x→v.length=P.cellsOf e∧rd P h f e v x) →
  ∃ l:List α,l.length=vs.length∧vs.flatten=Zdo enc l∧∀ x∈l,G x
 | [],_,_,_=>⟨[],rfl,rfl,by simp⟩
 | v :: vs,[],h,_=>by simp at h
 | v :: vs,d :: ds,hl,hall=>by
  obtain ⟨l,hll,hfl,hs⟩:=Yfg el vs ds (by simpa using hl) fun i v x hv hx=>hall (i + 1) v x (by simpa using hv) (by simpa using hx)
  obtain ⟨x,rfl,hx⟩:=el v d (hall 0 v d rfl rfl).2
  exact ⟨x :: l,by simp [hll],by simp [hfl],fun y hy=>(List.mem_cons.1 hy).elim (fun e=>e ▸ hx) (hs y)⟩
theorem Yfp {P:Program} {h:Zaa} {f:Nat} {t e:TypeId} {α:Type} {enc:α→List Zag} {G:α→Prop} {cs:List Zag} {d:Dt} (ht:P.underlying t=some (.slice e)) (el:∀ v d,rd P h f e v d→∃ x:α,v=enc x∧G x) (hr:rd P h (f + 1) t cs d) :
  ∃ a n c ex,∃ l:List α,cs=[.slice a n c ex]∧Row h.length h a (n * P.cellsOf e) (Zdo enc l)∧Zsg n∧l.length=n∧∀ x∈l,G x:=by
 unfold rd at hr
 rw [ht] at hr
 obtain ⟨a,n,c,ex,ds,vs,rfl,rfl,hdl,hn,hvl,hrow,hall⟩:=hr
 obtain ⟨l,hll,hfl,hs⟩:=Yfg el vs ds (by omega) hall
 rw [hfl] at hrow
 exact ⟨a,n,c,ex,l,rfl,hrow,hn,by omega,hs⟩
theorem Ybl {P:Program} {h:Zaa} {f:Nat} {t e:TypeId} {f0 f1:Field} {cs:List Zag} {d:Dt} (ht:P.underlying t=some (.slice e)) (he:P.underlying e=some (.struct #[f0,f1])) (h0:P.underlying f0.type=some .string) (h1:P.underlying f1.type=some .string) (hc:P.cellsOf e=2)
  (hr:rd P h (f + 3) t cs d):∃ a n c ex,∃ l:List Nd,cs=[.slice a n c ex]∧Row h.length h a (n * 2) (Zdo eP l)∧Zsg n∧l.length=n∧∀ p∈l,Ymr p:=by
 have:=Yfp (enc:=eP) (G:=Ymr) ht (fun v d hr=>Yia he h0 h1 hr) hr
 rwa [hc] at this
def Yow (h:Zaa) (x:EI):Prop:=∃ i:Ins,Ylh h x i∧Ymr i.1∧Zsg i.2.length∧∀ p∈i.2,Ymr p
theorem Ymj {P:Program} {h:Zaa} {f:Nat} {ti tn ts:TypeId} {g0 g1 f0 f1:Field} {v:List Zag} {d:Dt} (hi:P.underlying ti=some (.struct #[g0,g1])) (hg0:g0.type=tn) (hg1:g1.type=ts)
  (he:P.underlying tn=some (.struct #[f0,f1])) (h0:P.underlying f0.type=some .string) (h1:P.underlying f1.type=some .string) (hc:P.cellsOf tn=2) (ht:P.underlying ts=some (.slice tn)) (hr:rd P h (f + 4) ti v d) :
  ∃ x:EI,v=eN x∧Yow h x:=by
 unfold rd at hr
 rw [hi] at hr
 obtain ⟨ds',vs',rfl,hd1,hd2,rfl,hall'⟩:=hr
 match vs',ds',hd2,hd1 with
 | [u,w],[x,y],_,_=>
  have k0:=(hall' 0 g0 u x rfl rfl rfl).2
  have k1:=(hall' 1 g1 w y rfl rfl rfl).2
  rw [hg0] at k0
  rw [hg1] at k1
  obtain ⟨p,rfl,hp⟩:=Yia (f:=f + 1) he h0 h1 k0
  obtain ⟨a,n,c,ex,l,rfl,hrow,hn,hll,hl⟩:=Ybl (f:=f) ht he h0 h1 hc k1
  exact ⟨⟨p.1,p.2,a,n,c,ex⟩,rfl,(p,l),⟨rfl,rfl,hrow⟩,hp,by rw [hll]; exact hn,hl⟩
theorem Ztl {h:Zaa}:∀ {xs:List EI},(∀ x∈xs,Yow h x)→∃ is:List Ins,Yfm h xs is∧∀ i∈is,Ymr i.1∧Zsg i.2.length∧∀ p∈i.2,Ymr p
 | [],_=>⟨[],⟨rfl,by simp⟩,by simp⟩
 | x :: xs,hx=>by
  obtain ⟨is,⟨hl,hr⟩,hb⟩:=Ztl (xs:=xs) fun y hy=>hx y (by simp [hy])
  obtain ⟨i,hi,hib⟩:=hx x (by simp)
  refine ⟨i :: is,⟨by simp [hl],fun k y j hy hj=>?_⟩,fun j hj=>(List.mem_cons.1 hj).elim (fun e=>e ▸ hib) (hb j)⟩
  cases k with
  | zero=>simp at hy hj; subst hy; subst hj; exact hi
  | succ k=>simp at hy hj; exact hr k y j hy hj
theorem rd_world {P:Program} {h:Zaa} {f:Nat} {tw tc tcs ti tis tn ts:TypeId} {w0 w1 q0 q1 g0 g1 f0 f1:Field} {cs:List Zag} {d:Dt} (hw:P.underlying tw=some (.struct #[w0,w1])) (hw0:w0.type=tcs) (hw1:w1.type=tis)
  (hcs:P.underlying tcs=some (.slice tc)) (hct:P.underlying tc=some (.struct #[q0,q1])) (hq0:P.underlying q0.type=some .string) (hq1:P.underlying q1.type=some .string) (hcc:P.cellsOf tc=2)
  (his:P.underlying tis=some (.slice ti)) (hic:P.cellsOf ti=3) (hi:P.underlying ti=some (.struct #[g0,g1])) (hg0:g0.type=tn) (hg1:g1.type=ts)
  (he:P.underlying tn=some (.struct #[f0,f1])) (h0:P.underlying f0.type=some .string) (h1:P.underlying f1.type=some .string) (hc:P.cellsOf tn=2) (ht:P.underlying ts=some (.slice tn)) (hr:rd P h (f + 6) tw cs d) :
  ∃ a0 n0 c0 e0 a1 n1 c1 e1,∃ w:Wd,cs=[.slice a0 n0 c0 e0,.slice a1 n1 c1 e1]∧(n0≤c0→n1≤c1→Zqk h a0 n0 c0 a1 n1 c1 w)∧Yny w:=by
 unfold rd at hr
 rw [hw] at hr
 obtain ⟨ds',vs',rfl,hd1,hd2,rfl,hall'⟩:=hr
 match vs',ds',hd2,hd1 with
 | [u,v],[x,y],_,_=>
  have k0:=(hall' 0 w0 u x rfl rfl rfl).2
  have k1:=(hall' 1 w1 v y rfl rfl rfl).2
  rw [hw0] at k0
  rw [hw1] at k1
  obtain ⟨a0,n0,c0,e0,l0,rfl,hrow0,hn0,hl0,hb0⟩:=Ybl (f:=f + 2) hcs hct hq0 hq1 hcc k0
  obtain ⟨a1,n1,c1,e1,l1,rfl,hrow1,hn1,hl1,hb1⟩:=Yfp (f:=f + 4) (enc:=eN) (G:=Yow h) his (fun v d hr=>Ymj hi hg0 hg1 he h0 h1 hc ht hr) k1
  rw [hic] at hrow1
  obtain ⟨is,hrep,hib⟩:=Ztl hb1
  refine ⟨a0,n0,c0,e0,a1,n1,c1,e1,⟨l0,is⟩,rfl,fun k0 k1=>⟨hrow0,⟨l1,hrow1,hrep⟩,k0,k1⟩,?_⟩
  refine ⟨by rw [show (Wd.mk l0 is).cs.length=n0 from hl0]; exact hn0,?_,fun p hp=>⟨(hb0 p hp).1,(hb0 p hp).2.1,(hb0 p hp).2.2.1⟩,fun i hi=>?_⟩
  ·have:is.length=n1:=by have:=hrep.1; omega
   show Zsg is.length
   rw [this]; exact hn1
  ·obtain ⟨p1,p2,p3⟩:=hib i hi
   exact ⟨p1.1,p1.2.1,p2,fun p hp=>⟨(p3 p hp).1,(p3 p hp).2.1⟩⟩

end Go.Sim

set_option linter.unusedVariables false
set_option linter.unusedSimpArgs false
set_option maxRecDepth 20000
namespace Go.Sim
open Go Go.RowKit

theorem Zsm {h:Zaa} {a0 a1:Pt} {n0 c0 n1 c1:Nat} {w:Wd} (r:Zqk h a0 n0 c0 a1 n1 c1 w) {k:Nat} (hk:k < w.is.length) :
  ∃ i o a n cp e,a1=some (i,o)∧i < h.length∧Zbo h (.ptr (some (i,o + k * 3))) 3=some [.str w.is[k].1.1,.str w.is[k].1.2,.slice a n cp e]∧Zaf h (.ptr (some (i,o + k * 3)))=some (.str w.is[k].1.1)∧Zaf h (.ptr (some (i,o + k * 3 + 1)))=some (.str w.is[k].1.2)∧Row h.length h a (n * 2) (Zdo eP w.is[k].2)∧w.is[k].2.length=n:=by
 have hl:=r.len1
 obtain ⟨i,o,hk',a,n,cp,e,h1,h2,h3,h4,h5,h6,h7,h8⟩:=r.inst (k:=k) (by omega)
 exact ⟨i,o,a,n,cp,e,h1,h2,h3,h4,h5,h7,h8⟩
end Go.Sim

set_option linter.unusedVariables false
set_option linter.unusedSimpArgs false
set_option maxRecDepth 20000
namespace Go.Sim
open Go Go.RowKit

theorem Ymf:pg.underlying Zel=some (.slice Zjc):=by kernel_rfl
theorem Ypf:pg.cellsOf Zjc=1:=by kernel_rfl
theorem Ypd:pg.okElem Zjc=true:=by kernel_rfl
theorem Ypi:pg.bytesOf Zjc≤127:=Nat.le_of_ble_eq_true (by kernel_rfl)
def ixs {α:Type} (f:α→Bool) (l:List α):List Int:=(l.zipIdx.filter fun p=>f p.1).map fun p=>(p.2:Int)
end Go.Sim

set_option linter.unusedVariables false
set_option linter.unusedSimpArgs false
set_option maxRecDepth 20000
namespace Go.Sim
open Go Go.RowKit

noncomputable def Ypb (n:Nd) (i:Ins):Bool:=decide (i.1.1=n.1) && Yoc i.1.2 n.2
noncomputable def Yov (w:Wd) (n:Nd):List Int:=ixs (Ypb n) w.is
theorem Yla {h:Zaa} {t:TypeId} {x y z a b c:Zag}:Zbd (h ++ [.cells t [x,y,z] false]) (.ptr (some (h.length,0))) [a,b,c]=some (h ++ [.cells t [a,b,c] false]):=Zrb rfl
theorem Zdc.low {α:Type} {ty:TypeId} {enc:α→List Zag} {b b':Nat} {h:Zaa} {a:Pt} {n:Nat} {l:List α} (f:Zdc ty enc b h a n l) (hb:b'≤b):Zdc ty enc b' h a n l:=
 ⟨f.1,f.2.imp id fun ⟨i,ha,hbi,hi⟩=>⟨i,ha,by omega,hi⟩⟩
end Go.Sim

set_option linter.unusedVariables false
set_option linter.unusedSimpArgs false
set_option maxRecDepth 20000
namespace Go.Sim
open Go Go.RowKit

def Yma (w:Wd) (x:Int):Ins:=w.is.getD x.toNat (([],[]),[])
noncomputable def Yox (w:Wd) (l:List Int) (x:Int):Bool:=l.all fun k=>Ypa (Yma w x) (Yma w k)
noncomputable def Ypj (w:Wd) (l:List Int):Int:=match l.find? (Yox w l) with | some x=>x | none=>-1
theorem Row.i64 {b:Nat} {h:Zaa} {a:Pt} {n:Nat} {l:List Int} (r:Row b h a n (Zdo eI l)) {k:Nat} (hk:k < n):∃ i o,∃ hk':k < l.length,a=some (i,o)∧i < b∧Zaf h (.ptr (some (i,o + k * 1)))=some (.int .i64 l[k]):=by
 obtain ⟨i,o,hk',ha,hi,hc⟩:=Row.el1 Zrm r hk
 exact ⟨i,o,hk',ha,hi,hc⟩
end Go.Sim

set_option linter.unusedVariables false
set_option linter.unusedSimpArgs false
set_option maxRecDepth 20000
namespace Go.Sim
open Go Go.RowKit

theorem Ztz.mono {S S':Nat→Prop} {h:Zaa} {i:Nat} {m:Bd} (r:Ztz S h i m) (hs:∀ j,S j→S' j):Ztz S' h i m:=by
 obtain ⟨rows,h1,h2,h3⟩:=r
 refine ⟨rows,h1,h2,fun k x hx=>?_⟩
 have:=h3 k x hx
 split at this
 ·exact this.mono hs
 ·exact this
theorem Ztz.below {S:Nat→Prop} {h:Zaa} {i:Nat} {m:Bd} (r:Ztz S h i m):Ztz (fun j=>S j∧j < h.length) h i m:=by
 obtain ⟨rows,h1,h2,h3⟩:=r
 refine ⟨rows,h1,h2,fun k x hx=>?_⟩
 have:=h3 k x hx
 split at this
 ·exact Zei.below this
 ·exact this
end Go.Sim

set_option linter.unusedSimpArgs false
set_option linter.unusedVariables false
namespace Go.Sim
structure Zvb (G:Gr) (N:List Nat) (lk:Nat→Option Nat) (a b:Nat) (lk':Nat→Option Nat):Prop where
 ext:Zyh lk lk'
 gok:GOk G N lk'
 jnd:Jnd lk' a b
 new:∀ n m,n∈N→lk' n=some m→lk n=some m ∨ Ymw G lk' n m
 pres:∀ val,Str G N val→val a=val b→Rsp N lk val→Rsp N lk' val
def UNo (G:Gr) (N:List Nat) (lk:Nat→Option Nat) (a b:Nat):Prop:=∀ val,Str G N val→Rsp N lk val→val a≠val b
structure Yez (G:Gr) (N:List Nat) (lk:Nat→Option Nat) (a b:Nat) (lk':Nat→Option Nat) (i:Nat):Prop where
 ext:Zyh (lnk lk a b) lk'
 gok:GOk G N lk'
 jn:∀ j p q,j < i→(G.ps a)[j]?=some p→(G.ps b)[j]?=some q→Jnd lk' p q
 new:∀ n m,n∈N→lk' n=some m→lnk lk a b n=some m ∨ Ymw G lk' n m
 pres:∀ val,Str G N val→val a=val b→Rsp N lk val→Rsp N lk' val
section
variable {G:Gr} {N:List Nat} {lk lk' lk'':Nat→Option Nat} {a b p q i:Nat}
theorem Yez.start (g:GOk G N lk) (hb:b∈N) (ha0:lk a=none) (hb0:lk b=none) (hne:a≠b):Yez G N lk a b (lnk lk a b) 0:=
 ⟨Zyh.refl _,g.link hb ha0 hb0 hne,fun j p q h=>by omega,fun n m _ h=>.inl h,fun val _ he hr=>hr.link he⟩
theorem Yez.step (u:Yez G N lk a b lk' i) (hp:(G.ps a)[i]?=some p) (hq:(G.ps b)[i]?=some q) (ha:Zbc (G.hd a)=false) (haN:a∈N) (hbN:b∈N) (hh:G.hd a=G.hd b) (y:Zvb G N lk' p q lk''):Yez G N lk a b lk'' (i + 1):=by
 refine ⟨u.ext.trans y.ext,y.gok,fun j p' q' hj hp' hq'=>?_,fun n m hn h=>?_,fun val hs he hr=>?_⟩
 ·by_cases e:j=i
  ·subst e; rw [hp] at hp'; rw [hq] at hq'; cases hp'; cases hq'; exact y.jnd
  ·exact (u.jn j p' q' (by omega) hp' hq').ext y.ext
 ·rcases y.new n m hn h with h | h
  ·rcases u.new n m hn h with h | h
   ·exact .inl h
   ·exact .inr (h.ext y.ext)
  ·exact .inr h
 ·refine y.pres val hs ?_ (u.pres val hs he hr)
  have h1:=(hs a haN ha).2
  have h2:=(hs b hbN (by rw [← hh]; exact ha)).2
  rw [he,h2] at h1
  have:=congrArg (·[i]?) h1
  simp only [List.getElem?_map,hp,hq,Option.map_some,Option.some.injEq] at this
  exact this.symm
theorem Yez.done (u:Yez G N lk a b lk' (G.ps a).length) (ha0:lk a=none) (hf:Zbc (G.hd a)=false→G.hd b=G.hd a) (hv:Zbc (G.hd a)=true→Zbc (G.hd b)=true→G.hd a≤G.hd b):Zvb G N lk a b lk':=by
 have hab:lk' a=some b:=u.ext a b (by simp [lnk])
 refine ⟨(Zwu ha0).trans u.ext,u.gok,.of_path (.step hab .refl),fun n m hn h=>?_,u.pres⟩
 rcases u.new n m hn h with h | h
 ·unfold lnk at h
  by_cases e:n=a
  ·rw [if_pos e] at h; cases h; subst e
   exact .inr ⟨fun hn'=>⟨hf hn',fun j p q h1 h2=>u.jn j p q (List.getElem?_eq_some_iff.1 h1).1 h1 h2⟩,hv⟩
  ·rw [if_neg e] at h; exact .inl h
 ·exact .inr h
theorem Yez.fail (u:Yez G N lk a b lk' i) (hp:(G.ps a)[i]?=some p) (hq:(G.ps b)[i]?=some q) (ha:Zbc (G.hd a)=false) (haN:a∈N) (hbN:b∈N) (hh:G.hd a=G.hd b) (y:UNo G N lk' p q):UNo G N lk a b:=by
 intro val hs hr he
 refine y val hs (u.pres val hs he hr) ?_
 have h1:=(hs a haN ha).2
 have h2:=(hs b hbN (by rw [← hh]; exact ha)).2
 rw [he,h2] at h1
 have:=congrArg (·[i]?) h1
 simp only [List.getElem?_map,hp,hq,Option.map_some,Option.some.injEq] at this
 exact this.symm
theorem UNo.clash (haN:a∈N) (hbN:b∈N) (ha:Zbc (G.hd a)=false) (hb:Zbc (G.hd b)=false) (hh:G.hd a≠G.hd b):UNo G N lk a b:=by
 intro val hs _ he
 have h1:=(hs a haN ha).1
 have h2:=(hs b hbN hb).1
 rw [he] at h1
 exact hh (h1.symm.trans h2)
theorem UNo.symm (h:UNo G N lk a b):UNo G N lk b a:=fun val hs hr he=>h val hs hr he.symm
theorem Zvb.symm (h:Zvb G N lk a b lk'):Zvb G N lk b a lk':=⟨h.ext,h.gok,h.jnd.symm,h.new,fun val hs he hr=>h.pres val hs he.symm hr⟩
theorem Zvb.same (g:GOk G N lk):Zvb G N lk a a lk:=⟨Zyh.refl _,g,.refl a,fun n m _ h=>.inl h,fun val _ _ hr=>hr⟩
theorem Zvb.path (g:GOk G N lk) {a0 b0 i j:Nat} (ha:a0∈N) (hb:b0∈N) (h1:Pth lk i a0 a) (h2:Pth lk j b0 b) (h:Zvb G N lk a b lk'):Zvb G N lk a0 b0 lk':=
 ⟨h.ext,h.gok,((Jnd.of_path (h1.ext h.ext)).trans h.jnd).trans (Jnd.of_path (h2.ext h.ext)).symm,h.new,fun val hs he hr=>h.pres val hs (by rw [← hr.path g ha h1,← hr.path g hb h2,he]) hr⟩
theorem UNo.path (g:GOk G N lk) {a0 b0 i j:Nat} (ha:a0∈N) (hb:b0∈N) (h1:Pth lk i a0 a) (h2:Pth lk j b0 b) (h:UNo G N lk a b):UNo G N lk a0 b0:=
 fun val hs hr he=>h val hs hr (by rw [← hr.path g ha h1,← hr.path g hb h2,he])
theorem Zvb.cls (y:Zvb G N (fun _=>none) a b lk'):Cls G N lk':=fun n m hn h=>(y.new n m hn h).resolve_left (by simp)
theorem Rsp.none {val:Nat→Ty}:Rsp N (fun _=>Option.none) val:=fun n m _ h=>by cases h
theorem GOk.ends (g:GOk G N lk) {n:Nat} (hn:n∈N):∃ k e,Pth lk k n e∧lk e=none∧e∈N:=by
 obtain ⟨k,e,h1,h2⟩:=g.end_ n hn
 exact ⟨k,e,h1,h2,g.path hn h1⟩
end
end Go.Sim

set_option linter.unusedSimpArgs false
set_option linter.unusedVariables false
namespace Go.Sim
def GAg (N:List Nat) (G G':Gr):Prop:=∀ n∈N,G'.hd n=G.hd n∧G'.ps n=G.ps n
theorem GAg.refl (N:List Nat) (G:Gr):GAg N G G:=fun _ _=>⟨rfl,rfl⟩
theorem GAg.trans {N N':List Nat} {G G' G'':Gr} (h:GAg N G G') (k:GAg N' G' G'') (hN:∀ n∈N,n∈N'):GAg N G G'':=fun n hn=>⟨((k n (hN n hn)).1).trans (h n hn).1,((k n (hN n hn)).2).trans (h n hn).2⟩
def GCl (G:Gr) (N:List Nat):Prop:=∀ n∈N,∀ p∈G.ps n,p∈N
section
variable {G G':Gr} {N:List Nat} {nu nu':Nat→Nat}
theorem Raw.agree {n:Nat} {t:Ty} (r:Raw G nu n t) (ag:GAg N G G') (cl:GCl G N) (hnu:∀ x∈N,nu' x=nu x):n∈N→Raw G' nu' n t:=by
 induction r with
 | @var n h=>intro hn; rw [← hnu n hn]; exact .var (by rw [(ag n hn).1]; exact h)
 | @cst n h h1=>intro hn; rw [← (ag n hn).1]; exact .cst (by rw [(ag n hn).1]; exact h) (by rw [(ag n hn).2]; exact h1)
 | @one n p s h h1 _ ih=>
  intro hn
  rw [← (ag n hn).1]
  exact .one (by rw [(ag n hn).1]; exact h) (by rw [(ag n hn).2]; exact h1) (ih (cl n hn p (by rw [h1]; simp)))
 | @two n p q s t h h1 _ _ ih1 ih2=>
  intro hn
  rw [← (ag n hn).1]
  exact .two (by rw [(ag n hn).1]; exact h) (by rw [(ag n hn).2]; exact h1) (ih1 (cl n hn p (by rw [h1]; simp))) (ih2 (cl n hn q (by rw [h1]; simp)))
theorem Sub.agree {n x:Nat} (s:Sub G n x) (ag:GAg N G G') (cl:GCl G N):n∈N→Sub G' n x:=by
 induction s with
 | refl=>exact fun _=>.refl
 | @part n p x hp _ ih=>intro hn; exact .part (by rw [(ag n hn).2]; exact hp) (ih (cl n hn p hp))
theorem Sub.trans {x y z:Nat} (h:Sub G x y) (k:Sub G y z):Sub G x z:=by
 induction h with
 | refl=>exact k
 | part hp _ ih=>exact .part hp (ih k)
theorem Raw.oth {n:Nat} {t:Ty} (r:Raw G G.hd n t) (cl:GCl G N) (hnu:∀ x∈N,Zbc (G.hd x)=true→nu x=Ydj (G.hd x)):n∈N→Raw G nu n (Zpj t):=by
 induction r with
 | @var n h=>intro hn; rw [Zpj,if_pos h,← hnu n hn h]; exact .var h
 | @cst n h h1=>intro hn; rw [Zpj,if_neg (by rw [h]; simp)]; exact .cst h h1
 | @one n p s h h1 _ ih=>intro hn; rw [Zpj]; exact .one h h1 (ih (cl n hn p (by rw [h1]; simp)))
 | @two n p q s t h h1 _ _ ih1 ih2=>intro hn; rw [Zpj]; exact .two h h1 (ih1 (cl n hn p (by rw [h1]; simp))) (ih2 (cl n hn q (by rw [h1]; simp)))
variable {lk:Nat→Option Nat} {V:Nat→Bool}
theorem VT.ok (g:GOk G N lk) {n:Nat} {t:Ty} (v:VT G lk nu n t) (hnu:∀ x∈N,Zbc (G.hd x)=true→Zbc (nu x)=true):n∈N→t.ok=true:=by
 induction v with
 | @var n e k h1 h2 h3=>
  intro hn
  have:=hnu e (g.path hn h1) h3
  simp only [Ty.ok,Zfi,this,Bool.or_true]
 | @cst n e k h1 h2 h3 h4=>
  intro hn
  have:=g.ar e (g.path hn h1)
  rw [h4] at this
  simp only [Ty.ok]
  unfold arN at this
  cases hl:Zfi (G.hd e) with
  | true=>rfl
  | false=>
   rw [hl] at this
   simp only [Bool.false_eq_true,if_false,List.length_nil] at this
   split at this
   ·simp at this
   ·split at this <;> simp at this
 | @one n e k p s h1 h2 h3 h4 _ ih=>
  intro hn
  have he:=g.path hn h1
  have:=g.ar e he
  rw [h4] at this
  simp only [Ty.ok,ih (g.par e he p (by rw [h4]; simp)),Bool.and_true]
  unfold arN at this
  split at this
  ·simp at this
  ·split at this
   ·assumption
   ·split at this <;> simp at this
 | @two n e k p q s t h1 h2 h3 h4 _ _ ih1 ih2=>
  intro hn
  have he:=g.path hn h1
  have:=g.ar e he
  rw [h4] at this
  simp only [Ty.ok,ih1 (g.par e he p (by rw [h4]; simp)),ih2 (g.par e he q (by rw [h4]; simp)),Bool.and_true]
  unfold arN at this
  split at this
  ·simp at this
  ·split at this
   ·simp at this
   ·split at this
    ·assumption
    ·simp at this
structure Two (G:Gr) (N:List Nat) (nu:Nat→Nat) (V:Nat→Bool) (a b:Nat) (ta tb:Ty):Prop where
 aN:a∈N
 bN:b∈N
 nv:Ymp G N nu V
 ra:Raw G nu a ta
 rb:Raw G nu b tb
 raw:∀ n∈N,∃ t,Raw G nu n t
 sub:∀ x∈N,Sub G a x ∨ Sub G b x
variable {a b:Nat} {ta tb:Ty}
theorem Two.no (w:Two G N nu V a b ta tb) (h:UNo G N (fun _=>none) a b):¬ ∃ θ:Nat→Ty,sb V θ ta=sb V θ tb:=by
 rintro ⟨θ,he⟩
 exact h _ (Zvh w.nv w.raw θ) Rsp.none (by rw [Zje w.ra,Zje w.rb,he])
theorem Two.endless (w:Two G N nu V a b ta tb) (y:Zvb G N (fun _=>none) a b lk) (h:∀ val,Str G N val→¬ Rsp N lk val):¬ ∃ θ:Nat→Ty,sb V θ ta=sb V θ tb:=by
 rintro ⟨θ,he⟩
 have hs:=Zvh w.nv w.raw θ
 exact h _ hs (y.pres _ hs (by rw [Zje w.ra,Zje w.rb,he]) Rsp.none)
theorem Two.all (w:Two G N nu V a b ta tb) (y:Zvb G N (fun _=>none) a b lk) {T:Ty} (v:VT G lk nu a T):∀ x∈N,∃ s,VT G lk nu x s:=by
 intro x hx
 rcases w.sub x hx with h | h
 ·exact VT.sub y.gok y.cls h w.aN v
 ·exact VT.sub y.gok y.cls h w.bN (v.jnd y.jnd)
theorem Two.sol (w:Two G N nu V a b ta tb) (y:Zvb G N (fun _=>none) a b lk) {T:Ty} (v:VT G lk nu a T):sb V (grF G N lk nu) ta=T∧sb V (grF G N lk nu) tb=T:=
 Yku y.gok y.cls w.nv w.aN w.bN y.jnd w.ra w.rb v
theorem Two.bound (w:Two G N G.hd Zbc a b ta tb) (y:Zvb G N (fun _=>none) a b lk) {x:Nat} (hx:x∈N) (hv:Zbc (G.hd x)=true) {s:Ty} (v:VT G lk G.hd x s):grF G N lk G.hd (G.hd x)=s∧(s=.k (G.hd x) ↔ lk x=none):=by
 refine ⟨Yhj w.nv hx hv v,?_⟩
 constructor
 ·have key:∀ {s:Ty},VT G lk G.hd x s→s=.k (G.hd x)→lk x=none:=by
   intro s v
   cases v with
   | @var _ e k h1 h2 h3=>
    intro he
    injection he with he
    have:=w.nv.inj e (y.gok.path hx h1) x hx h3 hv he
    rw [← this]; exact h2
   | @cst _ e k h1 h2 h3 h4=>
    intro he
    injection he with he
    rw [he,hv] at h3; cases h3
   | one=>intro he; cases he
   | two=>intro he; cases he
  exact key v
 ·intro h0
  exact v.det (.var .refl h0 hv)
end
end Go.Sim

set_option linter.unusedVariables false
set_option linter.unusedSimpArgs false
set_option maxRecDepth 20000
namespace Go.Sim
open Go Go.RowKit

structure GH (h:Zaa) (G:Gr) (N:List Nat) (lk:Nat→Option Nat) (Z:Nat→Prop):Prop where
 node:∀ n∈N,∃ a c e,h[n]?=some (.cells Zbs [.str [G.hd n],.slice a (G.ps n).length c e,.ptr ((lk n).map fun m=>(m,0))] false) ∧
  Row h.length h a (G.ps n).length ((G.ps n).map fun p=>Zag.ptr (some (p,0)))∧∀ j o,(G.ps n).length≠0→a=some (j,o)→j ∉ N∧¬ Z j
def Yag (N:List Nat) (h h':Zaa):Prop:=h.length≤h'.length∧∀ j,j < h.length→j ∉ N→h'[j]?=h[j]?
theorem Yag.refl (N:List Nat) (h:Zaa):Yag N h h:=⟨Nat.le_refl _,fun _ _ _=>rfl⟩
theorem Yag.trans {N:List Nat} {h h1 h2:Zaa} (a:Yag N h h1) (b:Yag N h1 h2):Yag N h h2:=⟨Nat.le_trans a.1 b.1,fun j hj hn=>by rw [b.2 j (by have:=a.1; omega) hn]; exact a.2 j hj hn⟩
theorem Yag.of_same {N:List Nat} {h h':Zaa} (s:Zbb h.length h h'):Yag N h h':=⟨s.le,fun j hj _=>s.eq j hj⟩
theorem Row.to {h h':Zaa} {a:Pt} {m:Nat} {cs:List Zag} (r:Row h.length h a m cs) (hl:h.length≤h'.length) (hh:∀ j o,m≠0→a=some (j,o)→j < h.length→h'[j]?=h[j]?):Row h'.length h' a m cs:=by
 obtain ⟨hc,r⟩:=r
 by_cases h0:m=0
 ·exact ⟨hc,.inl h0⟩
 ·refine ⟨hc,r.imp id ?_⟩
  rintro ⟨i,o,t,all,ro,ha,hi,hg,x⟩
  exact ⟨i,o,t,all,ro,ha,by omega,by rw [hh i o h0 ha hi]; exact hg,x⟩
section
variable {h h':Zaa} {G:Gr} {N:List Nat} {lk:Nat→Option Nat} {Z:Nat→Prop}
theorem GH.lt (g:GH h G N lk Z) {n:Nat} (hn:n∈N):n < h.length:=by obtain ⟨_,_,_,hi,_⟩:=g.node n hn; exact Own.lt hi
theorem Row.cellsAt {a:Pt} {m:Nat} {cs:List Zag} (r:Row h.length h a m cs) {j o:Nat} (h0:m≠0) (ha:a=some (j,o)):∃ t all ro,h[j]?=some (.cells t all ro):=by
 rcases r.2 with hm | ⟨i,o',t,all,ro,ha',hi,hg,x⟩
 ·exact absurd hm h0
 ·rw [ha] at ha'; cases ha'; exact ⟨t,all,ro,hg⟩
theorem GH.agree (g:GH h G N lk Z) (hl:h.length≤h'.length) (hh:∀ (j:Nat) (t:TypeId) (cs:List Zag) (ro:Bool),h[j]?=some (Zcp.cells t cs ro)→h'[j]?=h[j]?):GH h' G N lk Z:=by
 refine ⟨fun n hn=>?_⟩
 obtain ⟨a,c,e,hi,hr,hd⟩:=g.node n hn
 refine ⟨a,c,e,by rw [hh _ _ _ _ hi]; exact hi,hr.to hl fun j o h0 ha _=>?_,hd⟩
 obtain ⟨t,all,ro,hj⟩:=hr.cellsAt h0 ha
 exact hh _ _ _ _ hj
theorem GH.same (g:GH h G N lk Z) (s:Zbb h.length h h'):GH h' G N lk Z:=g.agree s.le fun j t cs ro hj=>s.eq j (Own.lt hj)
theorem GH.link (g:GH h G N lk Z) {a b:Nat} {x:Zcp} (ha:a∈N) {p:Pt} {c:Nat} {e:Bool} (hx:x=.cells Zbs [.str [G.hd a],.slice p (G.ps a).length c e,.ptr (some (b,0))] false)
  (hr:Row h.length h p (G.ps a).length ((G.ps a).map fun p=>Zag.ptr (some (p,0)))) (hd:∀ j o,(G.ps a).length≠0→p=some (j,o)→j ∉ N∧¬ Z j):GH (h.set a x) G N (lnk lk a b) Z:=by
 refine ⟨fun n hn=>?_⟩
 have row:∀ {q:Pt} {m:Nat} {cs:List Zag},Row h.length h q m cs→(∀ j o,m≠0→q=some (j,o)→j ∉ N∧¬ Z j)→Row (h.set a x).length (h.set a x) q m cs:=fun r hd=>
  r.to (by simp) fun j o h0 hq _=>Zbv fun e'=>(hd j o h0 hq).1 (e' ▸ ha)
 by_cases e':n=a
 ·subst e'
  refine ⟨p,c,e,?_,row hr hd,hd⟩
  rw [List.getElem?_set_self (g.lt hn),hx]
  simp [lnk]
 ·obtain ⟨q,c',e'',hi,hr',hd'⟩:=g.node n hn
  refine ⟨q,c',e'',?_,row hr' hd',hd'⟩
  rw [Zbv (fun h=>e' h.symm),hi]
  simp [lnk,e']
theorem Row.outN {a:Pt} {m:Nat} {cs:List Zag} (r:Row h.length h a m cs) (hd:∀ j o,m≠0→a=some (j,o)→j ∉ N∧¬ Z j) (o:Yag N h h'):Row h'.length h' a m cs:=
 r.to o.1 fun j o' h0 ha hl=>o.2 j hl (hd j o' h0 ha).1
theorem Zvs {a:Pt} {l:List Nat} (r:Row h.length h a l.length (l.map fun p=>Zag.ptr (some (p,0)))) {k p:Nat} (hp:l[k]?=some p):∃ j o,a=some (j,o)∧Zaf h (.ptr (some (j,o + k * 1)))=some (.ptr (some (p,0))):=by
 have hk:=(List.getElem?_eq_some_iff.1 hp).1
 obtain ⟨j,o,ha,hj,hc⟩:=r.at hk
 rw [List.getElem?_map,hp] at hc
 exact ⟨j,o,ha,by rw [Nat.mul_one]; exact hc⟩
theorem Yfh (g:GH h G N lk Z) (ok:GOk G N lk) {k n e:Nat} (hn:n∈N) (hp:Pth lk k n e) (he:lk e=none):Zad pg Zgk [.ptr (some (n,0))] h fun v h'=>v=.ptr (some (e,0))∧h'=h:=by
 apply Zge.call
 refine Zge.L1ind (J:=fun (i:Nat) a0 h'=>h'=h∧∃ m,a0=some (m,0)∧m∈N∧Pth lk i m e) (m:=fun i=>i) (hr:=?_) (g:=k) (hj:=⟨rfl,n,rfl,hn,hp⟩)
 rintro i a0 h' ⟨rfl,m,rfl,hm,hp⟩ R hR
 unfold Zge.L1t
 obtain ⟨a,c,e',hnode,_⟩:=g.node m hm
 simp only [Zau,Zan hnode,Nat.zero_add,List.getElem?_cons_succ,List.getElem?_cons_zero,Zdj]
 cases hp with
 | refl=>
  rw [he]
  simp only [Option.map_none,Option.isNone_none,Bool.not_true,Zay]
  apply Zge.A1x0i
  exact ⟨rfl,rfl⟩
 | step h1 h2=>
  rw [h1]
  simp only [Option.map_some,Option.isNone_some,Bool.not_false,Zcs]
  exact hR _ _ _ (Nat.lt_succ_self _) ⟨rfl,_,rfl,ok.lkN _ _ hm h1,h2⟩
def Ynb (G:Gr) (N:List Nat) (lk:Nat→Option Nat) (Z:Nat→Prop) (a b:Nat) (h:Zaa) (v:Zag) (h':Zaa):Prop:=
 Yag N h h'∧((v=.bool true∧∃ lk',Zvb G N lk a b lk'∧GH h' G N lk' Z) ∨ (v=.bool false∧UNo G N lk a b))
theorem Zju (g:GH h G N lk Z) {n:Nat} (hn:n∈N):Zdf h n=true:=by
 obtain ⟨a,c,e,hi,_⟩:=g.node n hn
 simp [Zdf,hi]
theorem Ydg (x y:Nat):(Zdy [x] [y] || decide ([x]=[y]))=decide (x≤y):=by
 rw [Bool.eq_iff_iff]
 simp [Zdy]
 omega
theorem Yjm:∀ (U:Nat) {h:Zaa} {lk:Nat→Option Nat} {a b:Nat},ub N lk≤U→GH h G N lk Z→GOk G N lk→a∈N→b∈N→Zad pg Zkv [.ptr (some (a,0)),.ptr (some (b,0))] h (Ynb G N lk Z a b h):=by
 intro U
 induction U using Nat.strongRecOn with
 | ind U ih=>
 intro h lk a b hU g ok ha hb
 obtain ⟨k1,x,hp1,hx0,hx⟩:=ok.ends ha
 obtain ⟨k2,y,hp2,hy0,hy⟩:=ok.ends hb
 -- one end is linked to the other
 have core:∀ (p q:Nat) (Q:QT),p∈N→q∈N→lk p=none→lk q=none→p≠q→(Zbc (G.hd q)=true→Zbc (G.hd p)=true)→(Zbc (G.hd p)=true→Zbc (G.hd q)=true→G.hd p≤G.hd q) →
   (∀ v h',Ynb G N lk Z p q h v h'→Q v h')→Zeo.J7 Q (some (p,0)) (some (q,0)) h:=by
  intro p q Q hp hq hp0 hq0 hne hvar hord hQ
  obtain ⟨pa,pc,pe,hpi,hpr,hpd⟩:=g.node p hp
  obtain ⟨qa,qc,qe,hqi,hqr,hqd⟩:=g.node q hq
  have lenEq:Zbc (G.hd p)=false→G.hd p=G.hd q→(G.ps p).length=(G.ps q).length:=fun _ e=>by
   have h1:=ok.ar p hp; have h2:=ok.ar q hq; rw [e] at h1; omega
  apply Zeo.J7i
  simp only [Zau,Zan hpi,Nat.zero_add,List.getElem?_cons_succ,List.getElem?_cons_zero,Zap]
  refine (Zsb [G.hd p]).mono ?_
  rintro v h1 ⟨rfl,rfl⟩
  simp only [Zah,Zus,Zan hpi,Zan hqi,List.getElem?_cons_zero,Zap,true_and]
  have j9:(Zbc (G.hd p)=false→G.hd p=G.hd q)→Zeo.J9 Q (some (p,0)) (some (q,0)) h1:=by
   intro hhd
   apply Zeo.J9i
   simp only [Zau,Zan hpi,Nat.zero_add,List.getElem?_cons_succ,List.getElem?_cons_zero,Zai]
   rw [Zbk hpi (by simp)]
   simp only [Zaq,Zbm,List.take_succ_cons,List.take_zero,List.length_cons,List.length_nil,List.drop_succ_cons,List.drop_zero,List.drop_nil,List.cons_append,List.nil_append,List.append_nil,hp0,Option.map_none]
   have g1:=g.link (b:=q) hp rfl hpr hpd (c:=pc) (e:=pe)
   have o1:Yag N h1 (h1.set p (.cells Zbs [.str [G.hd p],.slice pa (G.ps p).length pc pe,.ptr (some (q,0))] false)):=⟨by simp,fun j hj hn=>Zbv fun e=>hn (e ▸ hp)⟩
   generalize h1.set p (.cells Zbs [.str [G.hd p],.slice pa (G.ps p).length pc pe,.ptr (some (q,0))] false)=h2 at g1 o1 ⊢
   have hlt:=Ylf (b:=q) hp hp0
   refine Zeo.L12ind (J:=fun (i:Nat) x82 h'=>x82=(i:Int)∧i≤(G.ps p).length∧Yag N h2 h'∧∃ lk',Yez G N lk p q lk' i∧GH h' G N lk' Z) (m:=fun i=>(G.ps p).length - i) (hr:=?_) (g:=0)
    (hj:=⟨rfl,by omega,Yag.refl _ _,_,Yez.start ok hq hp0 hq0 hne,g1⟩)
   rintro i x82 h3 ⟨rfl,hi,o3,lk',u,g3⟩ R hR
   unfold Zeo.L12t
   have O3:=o1.trans o3
   refine Zaj (fun hlt3=>?_) (fun hge=>?_)
   ·have hi':i < (G.ps p).length:=by omega
    have hpv:Zbc (G.hd p)=false:=by
     cases hv:Zbc (G.hd p) with
     | false=>rfl
     | true=>rw [ok.var_ps hp hv] at hi'; simp at hi'
    have hh:=hhd hpv
    have hl:=lenEq hpv hh
    have hpg:(G.ps p)[i]?=some (G.ps p)[i]:=List.getElem?_eq_getElem hi'
    have hqg:(G.ps q)[i]?=some ((G.ps q)[i]'(by omega)):=List.getElem?_eq_getElem (by omega)
    obtain ⟨ja,oa,rfl,hca⟩:=Zvs (hpr.outN hpd O3) hpg
    obtain ⟨ra,rc,re,hri,hrr,hrd⟩:=g3.node q hq
    obtain ⟨jb,ob,rfl,hcb⟩:=Zvs hrr hqg
    simp only [Zau,Int.toNat_natCast,hca,Zdj,Zan hri,Nat.zero_add,List.getElem?_cons_succ,List.getElem?_cons_zero,Zai,hcb]
    have hup:ub N lk' < ub N lk:=Nat.lt_of_le_of_lt (Ygx u.ext) hlt
    refine ⟨by omega,by omega,(ih (ub N lk') (by omega) (Nat.le_refl _) g3 u.gok (ok.par p hp _ (List.getElem_mem hi')) (ok.par q hq _ (List.getElem_mem _))).mono ?_⟩
    rintro v h4 ⟨o4,⟨rfl,lk'',y,g4⟩ | ⟨rfl,no⟩⟩
    ·simp only [Zah,Bool.not_true,Zay]
     rw [Zbp (by have:=ok.ps_le hp; omega)]
     exact hR (i + 1) _ _ (by omega) ⟨rfl,by omega,o3.trans o4,lk'',u.step hpg hqg hpv hp hq hh y,g4⟩
    ·simp only [Zah,Bool.not_false,Zcs]
     exact hQ _ _ ⟨O3.trans o4,.inr ⟨rfl,u.fail hpg hqg hpv hp hq hh no⟩⟩
   ·apply Zeo.A12x1i
    have:i=(G.ps p).length:=by omega
    subst this
    exact hQ _ _ ⟨O3,.inl ⟨rfl,lk',u.done hp0 (fun hv=>(hhd hv).symm) hord,g3⟩⟩
  refine Zck (fun hv=>?_) (fun hv=>j9 fun h=>by rw [hv] at h; cases h)
  have hqv:Zbc (G.hd q)=false:=by
   cases hv':Zbc (G.hd q) with
   | false=>rfl
   | true=>rw [hvar hv'] at hv; cases hv
  refine Zrd (fun hne'=>?_) (fun he=>j9 fun _=>by simpa using he)
  exact hQ _ _ ⟨Yag.refl _ _,.inr ⟨rfl,UNo.clash hp hq hv hqv fun e=>hne' (by rw [e])⟩⟩
 apply Zeo.call
 refine (Yfh g ok ha hp1 hx0).mono ?_
 rintro v h1 ⟨rfl,rfl⟩
 simp only [Zdj]
 refine (Yfh g ok hb hp2 hy0).mono ?_
 rintro v h2 ⟨rfl,rfl⟩
 simp only [Zdj]
 by_cases hxy:x=y
 ·subst hxy
  refine .inl ⟨rfl,?_⟩
  simp only [Zcs]
  exact ⟨Yag.refl _ _,.inl ⟨rfl,lk,Zvb.path ok ha hb hp1 hp2 (Zvb.same ok),g⟩⟩
 ·refine .inr ⟨hxy,Zju g hx,Zju g hy,?_⟩
  simp only [Zay]
  obtain ⟨xa,xc,xe,hxi,_⟩:=g.node x hx
  obtain ⟨ya,yc,ye,hyi,_⟩:=g.node y hy
  have fwd:∀ v h',Ynb G N lk Z x y h2 v h'→Ynb G N lk Z a b h2 v h':=fun v h' ⟨o,r⟩=>⟨o,r.imp (fun ⟨e,lk',u,g'⟩=>⟨e,lk',Zvb.path ok ha hb hp1 hp2 u,g'⟩) fun ⟨e,u⟩=>⟨e,UNo.path ok ha hb hp1 hp2 u⟩⟩
  have bwd:∀ v h',Ynb G N lk Z y x h2 v h'→Ynb G N lk Z a b h2 v h':=fun v h' ⟨o,r⟩=>fwd v h' ⟨o,r.imp (fun ⟨e,lk',u,g'⟩=>⟨e,lk',u.symm,g'⟩) fun ⟨e,u⟩=>⟨e,u.symm⟩⟩
  have iv:∀ (c:Nat) (K:Zag→Zaa→Prop),K (.bool (Zbc c)) h2→Zad pg Zde [.str [c]] h2 K:=fun c K hK=>(Zsb [c]).mono fun v h' ⟨e1,e2⟩=>by rw [e1,e2]; exact hK
  simp only [Zau,Zan hxi,Zan hyi,Nat.zero_add,List.getElem?_cons_succ,List.getElem?_cons_zero,Zap,true_and]
  refine iv _ _ ?_
  simp only [Zah,Zan hxi,Zan hyi,List.getElem?_cons_zero,Zap]
  refine Zds (fun hvx=>?_) (fun hvx=>?_)
  ·refine iv _ _ ?_
   simp only [Zah,Zan hxi,Zan hyi,List.getElem?_cons_zero,Zap]
   refine Zds (fun hvy=>?_) (fun hvy=>?_)
   ·simp only [Ydg]
    refine Zrd (fun hgt=>?_) (fun hle=>?_)
    ·rw [decide_eq_false hgt]
     exact core y x _ hy hx hy0 hx0 (fun e=>hxy e.symm) (fun _=>hvy) (fun _ _=>by omega) bwd
    ·refine iv _ _ ?_
     rw [hvx]
     simp only [Zah,Zan hxi,Zan hyi,List.getElem?_cons_zero,Zap,Bool.not_true,Zay]
     exact core x y _ hx hy hx0 hy0 hxy (fun _=>hvx) (fun _ _=>hle) fwd
   ·refine iv _ _ ?_
    rw [hvx]
    simp only [Zah,Zan hxi,Zan hyi,List.getElem?_cons_zero,Zap,Bool.not_true,Zay]
    exact core x y _ hx hy hx0 hy0 hxy (fun h=>hvx) (fun _ h=>by rw [hvy] at h; cases h) fwd
  ·refine iv _ _ ?_
   rw [hvx]
   simp only [Zah,Zan hxi,Zan hyi,List.getElem?_cons_zero,Zap,Bool.not_false,Zcs]
   refine iv _ _ ?_
   simp only [Zah,Zan hxi,Zan hyi,List.getElem?_cons_zero,Zap]
   refine Zds (fun hvy=>?_) (fun hvy=>?_)
   ·exact core y x _ hy hx hy0 hx0 (fun e=>hxy e.symm) (fun _=>hvy) (fun _ h=>by rw [hvx] at h; cases h) bwd
   ·exact core x y _ hx hy hx0 hy0 hxy (fun h=>by rw [hvy] at h; cases h) (fun h=>by rw [hvx] at h; cases h) fwd
end
end Go.Sim
