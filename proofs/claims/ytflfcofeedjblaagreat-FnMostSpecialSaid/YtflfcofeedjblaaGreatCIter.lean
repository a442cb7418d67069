/- A part of the proof of a statement of this seat: see the text that holds the theorem. No condition. -/
import Derived.Test.YtflfcofeedjblaaGreatPTCVars
import Derived.Test.YtflfcofeedjblaaGreatCVars
import Derived.Test.YtflfcofeedjblaaGreatCTy
import Derived.Test.YtflfcofeedjblaaGreatPTCWCls2
import Derived.Test.YtflfcofeedjblaaGreatNm
import Derived.Test.YtflfcofeedjblaaGreatSimX
import Derived.Test.YtflfcofeedjblaaGreatShelf
set_option linter.unusedVariables false
set_option linter.unusedSimpArgs false
set_option linter.all false
set_option linter.unusedVariables false
set_option linter.unusedSimpArgs false
set_option maxRecDepth 20000
namespace Go.Sim
open Go Go.RowKit

theorem Zey {h:Zaa} {t:TypeId} {cs:List Zau} {o:Nat}:Zag (h ++ [.cells t cs false]) (.ptr (some (h.length,o)))=cs[o]?:=Zao (t:=t) (cs:=cs) (ro:=false) (by simp)
theorem Yei {h:Zaa} {t:TypeId} {cs:List Zau} {n:Nat} (hn:cs.length=n):Zbj (h ++ [.cells t cs false]) (.ptr (some (h.length,0))) n=some cs:=by
 rw [Zef (show (h ++ [Zcd.cells t cs false])[h.length]?=some (.cells t cs false) by simp) (by omega)]; simp [← hn]
theorem Zam {h:Zaa} {x:Zcd}:Zbc h.length h (h ++ [x]):=Zbc.app (Nat.le_refl _) _
theorem Zsn {h:Zaa} {t:TypeId} {cs vs:List Zau} (hl:cs.length=vs.length):Zbb (h ++ [.cells t cs false]) (.ptr (some (h.length,0))) vs=some (h ++ [.cells t vs false]):=by
 rw [Zbd (show (h ++ [Zcd.cells t cs false])[h.length]?=some (.cells t cs false) by simp) (by omega)]
 simp [putRow,hl]
theorem Zfk {h:Zaa} {t:TypeId} {x y a b:Zau}:Zbb (h ++ [.cells t [x,y] false]) (.ptr (some (h.length,0))) [a,b]=some (h ++ [.cells t [a,b] false]):=Zsn rfl
theorem Ytg {h:Zaa} {t:TypeId} {x y z a b c:Zau}:Zbb (h ++ [.cells t [x,y,z] false]) (.ptr (some (h.length,0))) [a,b,c]=some (h ++ [.cells t [a,b,c] false]):=Zsn rfl
theorem Row.sl {b:Nat} {h:Zaa} {a:Pt} {n k:Nat} {l:List Nd} (r:Row b h a (n * 2) (Zdn eP l)) (hk:k≤n) (hl:l.length=n):Row b h a (k * 2) (Zdn eP (l.take k)):=by
 obtain ⟨h1,h2⟩:=r
 have e:(Zdn eP (l.take k)).length=k * 2:=by rw [Zay Zea,List.length_take,Nat.min_eq_left (by omega)]
 refine ⟨e,?_⟩
 rcases h2 with h0 | ⟨i,o,t,all,ro,ha,hb,hi,hle,hcs⟩
 ·exact .inl (by omega)
 ·refine .inr ⟨i,o,t,all,ro,ha,hb,hi,by omega,?_⟩
  rw [← Ygh Zea,hcs,List.take_take,Nat.min_eq_left (by omega)]
theorem Yij {b:Nat} {h:Zaa} {a:Pt} {n c k:Nat} {e:Bool} {l:List Nd} {K:Zau→Prop} (r:Row b h a (n * 2) (Zdn eP l)) (hl:l.length=n) (hk:k≤n) (hc:n≤c) {z:Int} (hz:z=k)
  (hK:∀ a' c' e',Row b h a' (k * 2) (Zdn eP (l.take k))→k≤c'→K (.slice a' k c' e')):Zls a n c e 2 none (some (.int .i64 z)) none K:=by
 subst hz
 simp only [Zls,Zln]
 refine ⟨by omega,?_⟩
 split
 ·have h0:n=0:=by
   obtain ⟨h1,h2⟩:=r
   rcases h2 with h2 | ⟨i,o,t,all,ro,ha,_⟩
   ·omega
   ·cases ha
  have hk0:k=0:=by omega
  subst hk0
  exact ⟨⟨by trivial,by simp,.inl (by trivial)⟩,hK _ _ _ (by simpa using Row.nil) (by omega)⟩
 ·rename_i i o
  refine ⟨fun hlt=>?_,fun hlt=>?_⟩
  ·have e2:((k:Int) - 0).toNat=k:=by omega
   have e3:o + Int.toNat 0 * 2=o:=by simp
   have e4:((c:Int) - 0).toNat=c:=by omega
   rw [e2,e3,e4]
   exact hK _ _ _ (r.sl hk hl) (by omega)
  ·have hk0:k=0:=by omega
   subst hk0
   exact hK _ _ _ (by simpa using Row.nil) (by omega)

theorem Yfu {h:Zaa} {x:Nd} {j:Nat} {c:List Nat} (hj:Zag h (.ptr (some (j,0)))=some (.str c)) (hjl:j < h.length) :
  Zah pg Zdj [.agg [.str x.1,.str x.2],.ptr (some (j,0))] h fun v h'=>v=.bool (decide (x.1=c))∧Zbc h.length h h':=by
 apply Zpy.call
 simp only [Zaw,Zey,List.getElem?_cons_zero,Zal]
 have:=(Zam (h:=h) (x:=.cells Zbf [.str x.1,.str x.2] false)).cell hjl hj
 rw [this]
 exact ⟨rfl,Zam⟩
theorem Ygr {h:Zaa} {a:Pt} {n c:Nat} {e:Bool} {cs:List Nd} {j:Nat} {s:List Nat} (r:Row h.length h a (n * 2) (Zdn eP cs)) (hn:n≤4611686018427387904) (hj:Zag h (.ptr (some (j,0)))=some (.str s)) (hjl:j < h.length) :
  Zah pg Zdw [.slice a n c e,.fn Zdj [.ptr (some (j,0))]] h fun v h'=>(∃ z:Int,v=.int .i64 z∧decide (z ≥ 0)=Zfz cs s)∧Zbc h.length h h':=by
 have hl:cs.length=n:=by have:=r.1; rw [Zay Zea] at this; omega
 apply Zbr.call
 refine Zbr.L2ind _ _ _ _ _ _ _ (J:=fun (g:Nat) x8 h'=>x8=(g:Int)∧g≤n∧Zbc h.length h h'∧Zfz (cs.take g) s=false) (fun g=>n - g) ?_ 0 _ _ ⟨rfl,by omega,Zbc.refl _ _,rfl⟩
 rintro g x8 h' ⟨rfl,hg,hS,hk⟩ R hR
 unfold Zbr.L2t
 refine Zat (fun hlt=>?_) (fun hge=>?_)
 ·obtain ⟨i,o,hgl,rfl,_,hr,_⟩:=(r.same hS).pr (k:=g) (by omega)
  simp only [Zav,Int.toNat_natCast,hr,Zaq,Zaf,Zan,Zal]
  refine ⟨by omega,(Yfu (x:=cs[g]) (hS.cell hjl hj) (by have:=hS.le; omega)).mono ?_⟩
  rintro v h2 ⟨rfl,s2⟩
  simp only [Zap]
  have hS2:=hS.trans (s2.mono hS.le)
  refine Zat (fun he=>?_) (fun he=>?_)
  ·refine ⟨⟨_,rfl,?_⟩,hS2⟩
   have:Zfz cs s=true:=by unfold Zfz; rw [List.any_eq_true]; exact ⟨_,List.getElem_mem hgl,by simpa using he⟩
   rw [this]; simp
  ·rw [Zbl (by omega)]
   exact hR (g + 1) _ _ (by omega) ⟨rfl,by omega,hS2,by rw [Zzd hgl,hk]; simp [he]⟩
 ·apply Zbr.A2x0i
  have:g=n:=by omega
  subst this
  rw [List.take_of_length_le (by omega)] at hk
  exact ⟨⟨_,rfl,by rw [hk]; rfl⟩,hS⟩
theorem Zum {h:Zaa} {a:Pt} {n c:Nat} {e:Bool} {cs:List Nd} {s:List Nat} (r:Row h.length h a (n * 2) (Zdn eP cs)) (hn:n≤4611686018427387904) :
  Zah pg Zid [.slice a n c e,.str s] h fun v h'=>v=.bool (Zfz cs s)∧Zbc h.length h h':=by
 apply Zwn.call
 simp only [Zaw]
 apply Zdm.call
 have s1:Zbc h.length h (h ++ [.cells Zbe [.str s] false]):=Zam
 refine (Ygr (r.same' s1) hn (s:=s) (by rw [Zey]; rfl) (by simp)).mono ?_
 rintro v h2 ⟨⟨z,rfl,hz⟩,s2⟩
 simp only [Zar,Zap]
 exact ⟨by rw [hz],s1.trans (s2.mono s1.le)⟩
theorem Zpx {h:Zaa} {a a1:Pt} {n c n1 c1:Nat} {e e1:Bool} {cs:List Nd} {s:List Nat} (r:Row h.length h a (n * 2) (Zdn eP cs)) (hn:n≤4611686018427387904) :
  Zah pg Zgh [.agg [.slice a n c e,.slice a1 n1 c1 e1],.str s] h fun v h'=>v=.int .i64 (Ygn cs s)∧Zbc h.length h h':=by
 have hl:cs.length=n:=by have:=r.1; rw [Zay Zea] at this; omega
 apply Zjb.call
 simp only [Zaw,Zey,Nat.add_zero,List.getElem?_cons_zero,Zae]
 have s1:Zbc h.length h (h ++ [.cells Zab [.slice a n c e,.slice a1 n1 c1 e1] false]):=Zam
 refine Zjb.L2ind _ _ _ _ _ _ _ (J:=fun (g:Nat) x10 h'=>x10=(g:Int)∧g≤n∧Zbc h.length h h'∧Zfz (cs.take g) s=false) (fun g=>n - g) ?_ 0 _ _ ⟨rfl,by omega,s1,rfl⟩
 rintro g x8 h' ⟨rfl,hg,hS,hk⟩ R hR
 unfold Zjb.L2t
 refine Zat (fun hlt=>?_) (fun hge=>?_)
 ·obtain ⟨i,o,hgl,rfl,_,hr,_⟩:=(r.same hS).pr (k:=g) (by omega)
  simp only [Zav,Int.toNat_natCast,hr,Zaq,Zaf,Zan,Zal,Zaw]
  rw [Zfk]
  simp only [Zas,Zey,Nat.add_zero,List.getElem?_cons_zero,Zal]
  refine ⟨by omega,?_⟩
  have hS2:Zbc h.length h (h' ++ [.cells Zbf [.str cs[g].1,.str cs[g].2] false]):=hS.trans (Zbc.app hS.le _)
  refine Zat (fun he=>?_) (fun he=>?_)
  ·refine ⟨?_,hS2⟩
   have hkn:Zfz cs s=true:=by unfold Zfz; rw [List.any_eq_true]; exact ⟨_,List.getElem_mem hgl,by simpa using he⟩
   unfold Ygn
   rw [hkn,if_pos rfl]
   congr 2
   symm
   rw [List.findIdx_eq hgl]
   refine ⟨by simpa using he,fun j hj=>?_⟩
   unfold Zfz at hk
   rw [List.any_eq_false] at hk
   have:=hk cs[j] (List.mem_take_iff_getElem.2 ⟨j,by omega,rfl⟩)
   simpa using this
  ·rw [Zbl (by omega)]
   exact hR (g + 1) _ _ (by omega) ⟨rfl,by omega,hS2,by rw [Zzd hgl,hk]; simp [he]⟩
 ·apply Zjb.A2x0i
  have:g=n:=by omega
  subst this
  rw [List.take_of_length_le (by omega)] at hk
  exact ⟨by unfold Ygn; rw [hk]; rfl,hS⟩

theorem Ykx {s:List Nat} {g:Nat} {z:Int} (hg:g < s.length) (hz:z=((g + 1:Nat):Int)):sub s (g:Int) z=[s[g]]:=by
 subst hz
 simp only [sub,Int.toNat_natCast]
 rw [List.take_succ_eq_append_getElem hg,List.drop_append_of_le_length (by simp; omega),List.drop_of_length_le (by rw [List.length_take]; exact Nat.min_le_left _ _),List.nil_append]
theorem Zui {g:Nat} (hg:0 < g) (hn:g≤9223372036854775807):IntKind.wrap .i64 ((g:Int) - 1)=((g - 1:Nat):Int):=by rw [IntWalk.i64_in _ (by omega)]; omega
theorem Yho {cs:List Nd} {s:List Nat} {g:Nat} (hg:g < s.length):Zzu cs s g=(Zfz cs [s[g]] && (g == 0 || decide (s.getD (g - 1) 0 < s[g]))):=by unfold Zzu; rw [Zfd hg]
theorem Yhd {cs:List Nd} {g:Nat} (hg:g < cs.length):Zzr cs g=(Ztz cs[g].1 && (g == 0 || Zeo (cs.getD (g - 1) ([],[])).1 cs[g].1) && Yds (cs.take g) cs[g].2):=by unfold Zzr; rw [Zfd hg]
theorem Zlp {cs:List Nd} {g:Nat} (hg:g < cs.length) (h:Zzr cs g=false):Zkg cs=false:=by unfold Zkg; rw [Zkt hg h]; rfl
theorem Zwc {h:Zaa} {a a1:Pt} {n c n1 c1:Nat} {e e1:Bool} {cs:List Nd} (r:Row h.length h a (n * 2) (Zdn eP cs)) (hc:n≤c) (hn:n≤1048576) (hs:∀ p∈cs,p.2.length≤1048576) :
  Zah pg Zjn [.agg [.slice a n c e,.slice a1 n1 c1 e1]] h fun v h'=>v=.bool (Zkg cs)∧Zbc h.length h h':=by
 have hl:cs.length=n:=by have:=r.1; rw [Zay Zea] at this; omega
 apply Zdk.call
 simp only [Zaw,Zey,Nat.add_zero,List.getElem?_cons_zero,Zae]
 have s1:Zbc h.length h (h ++ [.cells Zab [.slice a n c e,.slice a1 n1 c1 e1] false]):=Zam
 have hw:(h ++ [Zcd.cells Zab [.slice a n c e,.slice a1 n1 c1 e1] false])[h.length]?=some (.cells Zab [.slice a n c e,.slice a1 n1 c1 e1] false):=by simp
 refine Zdk.L2ind _ _ _ _ _ _ _ _ (J:=fun (g:Nat) x9 h'=>x9=(g:Int)∧g≤n∧Zbc h.length h h'∧h'[h.length]?=some (.cells Zab [.slice a n c e,.slice a1 n1 c1 e1] false)∧(List.range g).all (Zzr cs)=true) (fun g=>n - g) ?_ 0 _ _ ⟨rfl,by omega,s1,hw,rfl⟩
 rintro g x9 h' ⟨rfl,hg,hS,hW,hk⟩ R hR
 unfold Zdk.L2t
 refine Zat (fun hlt=>?_) (fun hge=>?_)
 ·obtain ⟨i,o,hgl,rfl,hil,hr,_⟩:=(r.same hS).pr (k:=g) (by omega)
  simp only [Zav,Int.toNat_natCast,hr,Zaq,Zaf,Zan,Zal,Zaw]
  rw [Zfk]
  simp only [Zas,Zey,Nat.add_zero,List.getElem?_cons_zero,Zal]
  have hS2:Zbc h.length h (h' ++ [.cells Zbf [.str cs[g].1,.str cs[g].2] false]):=hS.trans (Zbc.app hS.le _)
  refine ⟨by omega,(Yjp _).mono ?_⟩
  rintro v h2 ⟨rfl,rfl⟩
  simp only [Zap,true_and]
  have hcl:=Yhd hgl
  have hle:=hS2.le
  have hWl:=Own.lt hW
  have hW2:(h' ++ [.cells Zbf [.str cs[g].1,.str cs[g].2] false])[h.length]?=some (.cells Zab [.slice (some (i,o)) n c e,.slice a1 n1 c1 e1] false):=Zgr hW
  have hcell:∀ o',Zag (h' ++ [.cells Zbf [.str cs[g].1,.str cs[g].2] false]) (.ptr (some (h'.length,o')))=([.str cs[g].1,.str cs[g].2]:List Zau)[o']?:=fun o'=>Zey
  -- the classes above
  have key:(Ztz cs[g].1 && (g == 0 || Zeo (cs.getD (g - 1) ([],[])).1 cs[g].1))=true→Zdk.J6 (fun v h'=>v=.bool (Zkg cs)∧Zbc h.length h h') R h'.length 0 h.length 0 (g:Int) (some (i,o)) n c e (n:Int) (g:Int) (h' ++ [.cells Zbf [.str cs[g].1,.str cs[g].2] false]):=by
   intro hpre
   rw [hpre,Bool.true_and] at hcl
   apply Zdk.J6i
   rw [hcell]
   simp only [Nat.zero_add,List.getElem?_cons_succ,List.getElem?_cons_zero,Zal]
   have hsl:=hs cs[g] (List.getElem_mem hgl)
   refine Zdk.L7ind _ _ _ _ _ _ _ _ _ _ _ _ _ _ (J:=fun (q:Nat) x37 h3=>x37=(q:Int)∧q≤cs[g].2.length∧Zbc h.length h h3∧h3[h.length]?=some (.cells Zab [.slice (some (i,o)) n c e,.slice a1 n1 c1 e1] false)∧h3[h'.length]?=some (.cells Zbf [.str cs[g].1,.str cs[g].2] false)∧(List.range q).all (Zzu (cs.take g) cs[g].2)=true) (fun q=>cs[g].2.length - q) ?_ 0 _ _ ⟨rfl,by omega,hS2,hW2,by simp,rfl⟩
   rintro q x37 h3 ⟨rfl,hq,hS3,hW3,hI3,hk3⟩ R7 hR7
   unfold Zdk.L7t
   refine Zat (fun hlt3=>?_) (fun hge3=>?_)
   ·have hq':q < cs[g].2.length:=by omega
    simp only [Nat.add_zero,Nat.zero_add,Zao hW3,Zao hI3,List.getElem?_cons_succ,List.getElem?_cons_zero,Zae,Zal,true_and]
    refine Yij (r.same hS3) hl (k:=g) (by omega) hc rfl (fun a' c' e' hrow hc'=>?_)
    simp only [Zae]
    rw [Zbl (by omega),Ykx hq' rfl]
    refine ⟨⟨by omega,by omega,by omega⟩,(Zum (hrow.mono hS3.le) (by omega)).mono ?_⟩
    rintro v h4 ⟨rfl,s4⟩
    have hS4:=hS3.trans (s4.mono hS3.le)
    have hW4:h4[h.length]?=some (.cells Zab [.slice (some (i,o)) n c e,.slice a1 n1 c1 e1] false):=by rw [s4.eq _ (Own.lt hW3)]; exact hW3
    have hI4:h4[h'.length]?=some (.cells Zbf [.str cs[g].1,.str cs[g].2] false):=by rw [s4.eq _ (Own.lt hI3)]; exact hI3
    simp only [Zap,Zao hW3,Zao hW4,Zao hI4,Nat.add_zero,Nat.zero_add,List.getElem?_cons_succ,List.getElem?_cons_zero,Zal,true_and]
    have hsa:=Yho (cs:=cs.take g) hq'
    have fail:Zzu (cs.take g) cs[g].2 q=false→(Zau.bool false=Zau.bool (Zkg cs)∧Zbc h.length h h4):=fun hf=>⟨by rw [Zlp hgl (by rw [hcl]; unfold Yds; exact Zkt hq' hf)],hS4⟩
    have next:Zzu (cs.take g) cs[g].2 q=true→R7 h.length 0 (g:Int) h'.length 0 (some (i,o)) n c e (n:Int) (g:Int) (cs[g].2.length:Int) (IntKind.wrap .i64 ((q:Int) + 1)) h4:=fun ht=>by
     rw [Zbl (by omega)]
     exact hR7 (q + 1) _ _ (by omega) ⟨rfl,by omega,hS4,hW4,hI4,Zhe hk3 ht⟩
    refine Zbq (fun hb=>fail (by rw [hsa,hb]; rfl)) (fun hb=>?_)
    refine Zat (fun h0=>?_) (fun h0=>?_)
    ·have h0':0 < q:=by omega
     rw [Zui h0' (by omega)]
     refine ⟨⟨by omega,by omega⟩,⟨by omega,by omega⟩,?_⟩
     simp only [Int.toNat_natCast]
     have hd1:cs[g].2.getD q 0=cs[g].2[q]:=Zfd hq'
     have hq0:(q == 0)=false:=by simp; omega
     refine Zat (fun h1=>fail ?_) (fun h1=>Zdk.J11i _ _ _ _ _ _ _ _ _ _ _ _ _ _ _ _ _ (next ?_))
     ·rw [hsa,hb,hq0,← hd1]; simp only [Bool.true_and,Bool.false_or,decide_eq_false_iff_not]; omega
     ·rw [hsa,hb,hq0,← hd1]; simp only [Bool.true_and,Bool.false_or,decide_eq_true_eq]; omega
    ·have:q=0:=by omega
     subst this
     exact Zdk.J11i _ _ _ _ _ _ _ _ _ _ _ _ _ _ _ _ _ (next (by rw [hsa,hb]; rfl))
   ·apply Zdk.A7x2i
    apply Zdk.J12i
    have:q=cs[g].2.length:=by omega
    subst this
    rw [Zbl (by omega)]
    exact hR (g + 1) _ _ (by omega) ⟨rfl,by omega,hS3,hW3,Zhe hk (by rw [hcl]; exact hk3)⟩
  refine Zbq (fun hb=>⟨by rw [Zlp hgl (by rw [hcl,hb]; rfl)],hS2⟩) (fun hb=>?_)
  refine Zat (fun h0=>?_) (fun h0=>?_)
  ·have h0':0 < g:=by omega
   rw [Zao hW2]
   simp only [List.getElem?_cons_zero,Zae]
   rw [Zui h0' (by omega)]
   obtain ⟨i',o',hgl',heq,_,_,hc0,_⟩:=(r.same hS2).pr (k:=g - 1) (by omega)
   cases heq
   simp only [Zav,Int.toNat_natCast,hc0,Zal,Nat.add_zero,Nat.zero_add,hcell,List.getElem?_cons_zero,true_and]
   refine ⟨by omega,?_⟩
   have hg0:(g == 0)=false:=by simp; omega
   have hgd:cs.getD (g - 1) ([],[])=cs[g - 1]:=Zfd hgl'
   refine Zbq (fun hb2=>⟨by rw [Zlp hgl (by rw [hcl,hb,hg0,hgd,hb2]; rfl)],hS2⟩) (fun hb2=>key (by rw [hb,hg0,hgd,hb2]; rfl))
  ·have:g=0:=by omega
   subst this
   exact key (by rw [hb]; rfl)
 ·apply Zdk.A2x0i
  have:g=n:=by omega
  subst this
  have hok:Zkg cs=decide (1≤g∧g≤4):=by unfold Zkg; rw [hl,hk,Bool.true_and]
  simp only [Nat.add_zero,Zao hW,List.getElem?_cons_zero,Zae]
  refine Zat (fun h1=>?_) (fun h1=>?_)
  ·refine ⟨?_,hS⟩
   rw [hok]; congr 1; rw [Bool.eq_iff_iff]; simp; omega
  ·refine ⟨?_,hS⟩
   rw [hok]; congr 1; symm; simp; omega
end Go.Sim

set_option linter.unusedVariables false
set_option linter.unusedSimpArgs false
set_option maxRecDepth 20000
namespace Go.Sim
open Go Go.RowKit
theorem Zwi {h:Zaa} {a:Pt} {n c:Nat} {e:Bool} {cs:List Nd} (r:Row h.length h a (n * 2) (Zdn eP cs)) (hc:n≤c) (hn:n≤1048576) (hs:∀ p∈cs,p.2.length≤1048576) (hb256:∀ p∈cs,∀ b∈p.1,b < 256) :
  Zah pg Zjr [.slice a n c e] h fun v h'=>v=.bool (Zkg cs)∧Zbc h.length h h':=by
 have hl:cs.length=n:=by have:=r.1; rw [Zay Zea] at this; omega
 apply Zdi.call
 refine Zdi.L2ind _ _ _ _ _ _ _ _ _ _ (J:=fun (g:Nat) x9 h'=>x9=(g:Int)∧g≤n∧Zbc h.length h h'∧(List.range g).all (Zzr cs)=true) (fun g=>n - g) ?_ 0 _ _ ⟨rfl,by omega,Zbc.refl _ _,rfl⟩
 rintro g x9 h' ⟨rfl,hg,hS,hk⟩ R hR
 unfold Zdi.L2t
 refine Zat (fun hlt=>?_) (fun hge=>?_)
 ·obtain ⟨i,o,hgl,rfl,hil,hr,_⟩:=(r.same hS).pr (k:=g) (by omega)
  simp only [Zav,Int.toNat_natCast,hr,Zaq,Zaf,Zan,Zal,Zaw]
  rw [Zfk]
  simp only [Zas,Zey,Nat.add_zero,List.getElem?_cons_zero,Zal]
  have hS2:Zbc h.length h (h' ++ [.cells Zbf [.str cs[g].1,.str cs[g].2] false]):=hS.trans (Zbc.app hS.le _)
  refine ⟨by omega,(Zwk _ (hb256 _ (List.getElem_mem hgl))).mono ?_⟩
  rintro v h2 ⟨rfl,rfl⟩
  simp only [Zap,true_and]
  have hcl:=Yhd hgl
  have hle:=hS2.le
  have hcell:∀ o',Zag (h' ++ [.cells Zbf [.str cs[g].1,.str cs[g].2] false]) (.ptr (some (h'.length,o')))=([.str cs[g].1,.str cs[g].2]:List Zau)[o']?:=fun o'=>Zey
  -- the classes above
  have key:(Ztz cs[g].1 && (g == 0 || Zeo (cs.getD (g - 1) ([],[])).1 cs[g].1))=true→Zdi.J6 (fun v h'=>v=.bool (Zkg cs)∧Zbc h.length h h') R h'.length 0 (some (i,o)) n c e (g:Int) (some (i,o)) n c e (n:Int) (g:Int) (h' ++ [.cells Zbf [.str cs[g].1,.str cs[g].2] false]):=by
   intro hpre
   rw [hpre,Bool.true_and] at hcl
   apply Zdi.J6i
   rw [hcell]
   simp only [Nat.zero_add,List.getElem?_cons_succ,List.getElem?_cons_zero,Zal]
   have hsl:=hs cs[g] (List.getElem_mem hgl)
   refine Zdi.L7ind _ _ _ _ _ _ _ _ _ _ _ _ _ _ _ _ (J:=fun (q:Nat) x37 h3=>x37=(q:Int)∧q≤cs[g].2.length∧Zbc h.length h h3∧h3[h'.length]?=some (.cells Zbf [.str cs[g].1,.str cs[g].2] false)∧(List.range q).all (Zzu (cs.take g) cs[g].2)=true) (fun q=>cs[g].2.length - q) ?_ 0 _ _ ⟨rfl,by omega,hS2,by simp,rfl⟩
   rintro q x37 h3 ⟨rfl,hq,hS3,hI3,hk3⟩ R7 hR7
   unfold Zdi.L7t
   refine Zat (fun hlt3=>?_) (fun hge3=>?_)
   ·have hq':q < cs[g].2.length:=by omega
    simp only [Nat.add_zero,Nat.zero_add,Zao hI3,List.getElem?_cons_succ,List.getElem?_cons_zero,Zae,Zal,true_and]
    refine Yij (r.same hS3) hl (k:=g) (by omega) hc rfl (fun a' c' e' hrow hc'=>?_)
    simp only [Zae]
    rw [Zbl (by omega),Ykx hq' rfl]
    refine ⟨⟨by omega,by omega,by omega⟩,(Zpx (hrow.mono hS3.le) (by omega)).mono ?_⟩
    rintro v h4 ⟨rfl,s4⟩
    have hS4:=hS3.trans (s4.mono hS3.le)
    have hI4:h4[h'.length]?=some (.cells Zbf [.str cs[g].1,.str cs[g].2] false):=by rw [s4.eq _ (Own.lt hI3)]; exact hI3
    simp only [Zar,Zzl,Zao hI4,Nat.add_zero,Nat.zero_add,List.getElem?_cons_succ,List.getElem?_cons_zero,Zal,true_and]
    have hsa:=Yho (cs:=cs.take g) hq'
    have fail:Zzu (cs.take g) cs[g].2 q=false→(Zau.bool false=Zau.bool (Zkg cs)∧Zbc h.length h h4):=fun hf=>⟨by rw [Zlp hgl (by rw [hcl]; unfold Yds; exact Zkt hq' hf)],hS4⟩
    have next:Zzu (cs.take g) cs[g].2 q=true→R7 (some (i,o)) n c e (g:Int) h'.length 0 (some (i,o)) n c e (n:Int) (g:Int) (cs[g].2.length:Int) (IntKind.wrap .i64 ((q:Int) + 1)) h4:=fun ht=>by
     rw [Zbl (by omega)]
     exact hR7 (q + 1) _ _ (by omega) ⟨rfl,by omega,hS4,hI4,Zhe hk3 ht⟩
    refine Zbq (fun hb=>fail (by rw [hsa,hb]; rfl)) (fun hb=>?_)
    refine Zat (fun h0=>?_) (fun h0=>?_)
    ·have h0':0 < q:=by omega
     rw [Zui h0' (by omega)]
     refine ⟨⟨by omega,by omega⟩,⟨by omega,by omega⟩,?_⟩
     simp only [Int.toNat_natCast]
     have hd1:cs[g].2.getD q 0=cs[g].2[q]:=Zfd hq'
     have hq0:(q == 0)=false:=by simp; omega
     refine Zat (fun h1=>fail ?_) (fun h1=>Zdi.J11i _ _ _ _ _ _ _ _ _ _ _ _ _ _ _ _ _ _ _ (next ?_))
     ·rw [hsa,hb,hq0,← hd1]; simp only [Bool.true_and,Bool.false_or,decide_eq_false_iff_not]; omega
     ·rw [hsa,hb,hq0,← hd1]; simp only [Bool.true_and,Bool.false_or,decide_eq_true_eq]; omega
    ·have:q=0:=by omega
     subst this
     exact Zdi.J11i _ _ _ _ _ _ _ _ _ _ _ _ _ _ _ _ _ _ _ (next (by rw [hsa,hb]; rfl))
   ·apply Zdi.A7x2i
    apply Zdi.J12i
    have:q=cs[g].2.length:=by omega
    subst this
    rw [Zbl (by omega)]
    exact hR (g + 1) _ _ (by omega) ⟨rfl,by omega,hS3,Zhe hk (by rw [hcl]; exact hk3)⟩
  refine Zbq (fun hb=>⟨by rw [Zlp hgl (by rw [hcl,hb]; rfl)],hS2⟩) (fun hb=>?_)
  refine Zat (fun h0=>?_) (fun h0=>?_)
  ·have h0':0 < g:=by omega
   rw [Zui h0' (by omega)]
   obtain ⟨i',o',hgl',heq,_,_,hc0,_⟩:=(r.same hS2).pr (k:=g - 1) (by omega)
   cases heq
   simp only [Zav,Int.toNat_natCast,hc0,Zal,Nat.add_zero,Nat.zero_add,hcell,List.getElem?_cons_zero,true_and]
   refine ⟨by omega,?_⟩
   have hg0:(g == 0)=false:=by simp; omega
   have hgd:cs.getD (g - 1) ([],[])=cs[g - 1]:=Zfd hgl'
   refine Zbq (fun hb2=>⟨by rw [Zlp hgl (by rw [hcl,hb,hg0,hgd,hb2]; rfl)],hS2⟩) (fun hb2=>key (by rw [hb,hg0,hgd,hb2]; rfl))
  ·have:g=0:=by omega
   subst this
   exact key (by rw [hb]; rfl)
 ·apply Zdi.A2x0i
  have:g=n:=by omega
  subst this
  have hok:Zkg cs=decide (1≤g∧g≤4):=by unfold Zkg; rw [hl,hk,Bool.true_and]
  refine Zvr.mono ?_
  rintro v h2 ⟨rfl,rfl⟩
  simp only [Zap]
  refine ⟨?_,hS⟩
  rw [hok]; congr 1; rw [Bool.eq_iff_iff]; simp; omega
end Go.Sim

set_option linter.unusedVariables false
set_option linter.unusedSimpArgs false
set_option maxRecDepth 20000
namespace Go.Sim
open Go Go.RowKit

theorem Yrq (c:Nat):decide (c∈[120,121,122,88,89,90])=Zcr c:=by rw [Bool.eq_iff_iff]; simp [Zcr,or_assoc]
theorem Ybp {h:Zaa} (s:List Nat):Zah pg Zmk [.str s] h fun v h'=>v=.bool (Zkr s)∧h'=h:=by
 apply Zwo.call
 match s with
 | []=>exact Zcx (fun h1=>by simp at h1) (fun h1=>⟨rfl,rfl⟩)
 | [c]=>
  refine Zcx (fun h1=>?_) (fun h1=>by simp at h1)
  refine Zor.mono ?_
  rintro v h' ⟨rfl,rfl⟩
  simp only [Zap]
  exact ⟨by rw [Yrq]; rfl,by trivial⟩
 | c :: d :: r=>exact Zcx (fun h1=>by simp at h1; omega) (fun h1=>⟨rfl,rfl⟩)
theorem Zqu {h:Zaa} (c:Nat):Zah pg Zgp [.int .u8 (c:Int)] h fun v h'=>v=.bool (Zcr c)∧h'=h:=by
 apply Zpq.call
 refine (Ybz _ c (by simp)).mono ?_
 rintro v h' ⟨rfl,rfl⟩
 simp only [Zar]
 exact ⟨by rw [Yrv],by trivial⟩
noncomputable def Yrc (s v:List Nat):Int:=if Zml s && Zkr v then (s.count (v.headD 0):Nat) else -1
theorem Ycy {h:Zaa} (s v:List Nat) (hs:s.length≤1048576):Zah pg Zoa [.str s,.str v] h fun x h'=>x=.int .i64 (Yrc s v)∧Zbc h.length h h':=by
 apply Zfm.call
 refine (Zio s (by omega) h).mono ?_
 rintro x h1 ⟨rfl,s1⟩
 simp only [Zap]
 refine Zbq (fun hb=>⟨by unfold Yrc; rw [hb]; rfl,s1⟩) (fun hb=>?_)
 match v with
 | []=>exact Zgo (fun _=>⟨by unfold Yrc; rw [hb]; rfl,s1⟩) (fun h1=>by simp at h1)
 | c :: d :: r=>exact Zgo (fun _=>⟨by unfold Yrc; rw [hb]; rfl,s1⟩) (fun h1=>by simp at h1; omega)
 | [c]=>
  refine Zgo (fun h1=>by simp at h1) (fun _=>?_)
  refine ⟨⟨by omega,by simp⟩,?_⟩
  simp only [Int.toNat_zero,List.getD_cons_zero]
  refine (Zqu c).mono ?_
  rintro x h2 ⟨rfl,rfl⟩
  simp only [Zap]
  refine Zbq (fun hv=>⟨by unfold Yrc; rw [hb,show Zkr [c]=Zcr c from rfl,hv]; rfl,s1⟩) (fun hv=>?_)
  apply Zfm.J3i
  refine Zfm.L5ind _ _ _ _ (J:=fun (g:Nat) x5 x23 h'=>x23=(g:Int)∧g≤s.length∧x5=((s.take g).count c:Nat)∧h'=h2) (fun g=>s.length - g) ?_ 0 _ _ _ ⟨rfl,by omega,by simp,rfl⟩
  rintro g x5 x23 h' ⟨rfl,hg,rfl,rfl⟩ R hR
  unfold Zfm.L5t
  refine Zat (fun hlt=>?_) (fun hge=>?_)
  ·have hg':g < s.length:=by omega
   refine ⟨⟨by omega,by omega⟩,⟨by omega,by simp⟩,?_⟩
   simp only [Int.toNat_zero,List.getD_cons_zero,Int.toNat_natCast,Zfd hg']
   have hc:=List.count_le_length (a:=c) (l:=s.take g)
   rw [List.length_take] at hc
   have htk:(s.take (g + 1)).count c=(s.take g).count c + if s[g]=c then 1 else 0:=by
    rw [List.take_succ_eq_append_getElem hg',List.count_append]; simp [List.count_cons]
   refine Zcx (fun he=>?_) (fun he=>?_)
   ·apply Zfm.J9i
    rw [Zbl (by omega),Zbl (by omega)]
    exact hR (g + 1) _ _ _ (by omega) ⟨rfl,by omega,by rw [htk,if_pos (by omega)],rfl⟩
   ·apply Zfm.J9i
    rw [Zbl (by omega)]
    exact hR (g + 1) _ _ _ (by omega) ⟨rfl,by omega,by rw [htk,if_neg (by omega)]; rfl,rfl⟩
  ·apply Zfm.A5x0i
   have:g=s.length:=by omega
   subst this
   rw [List.take_length]
   refine ⟨?_,s1⟩
   unfold Yrc
   rw [hb,show Zkr [c]=Zcr c from rfl,hv]; rfl
theorem Zsq {h:Zaa} (s:List Nat) (hs:s.length≤1048576):Zah pg Zgc [.str s] h fun v h'=>v=.str (if Zml s=true then Zlc s else [])∧Zbc h.length h h':=by
 apply Zgv.call
 simp only [Zaw]
 have hlist:(h ++ [Zcd.cells Zbe [.str [88],.str [89],.str [90],.str [120],.str [121],.str [122]] false])[h.length]?=some (.cells Zbe [.str [88],.str [89],.str [90],.str [120],.str [121],.str [122]] false):=by simp
 refine Zgv.L3ind _ _ _ _ _ _ _ (J:=fun (g:Nat) x3 x8 h'=>x8=(g:Int)∧g≤6∧Zbc h.length h h'∧h'[h.length]?=some (.cells Zbe [.str [88],.str [89],.str [90],.str [120],.str [121],.str [122]] false)∧x3=if Zml s=true then (Zed.take g).filter fun v=>decide (v∈s) else []) (fun g=>6 - g) ?_ 0 _ _ _
  ⟨rfl,by omega,Zam,hlist,by simp⟩
 rintro g x3 x8 h' ⟨rfl,hg,hS,hl,rfl⟩ R hR
 unfold Zgv.L3t
 refine Zat (fun hlt=>?_) (fun hge=>?_)
 ·have hlt':g < 6:=by omega
  have hc:∃ c,Zed[g]?=some c∧Zcr c=true∧Zag h' (.ptr (some (h.length,0 + (g:Int).toNat * 1)))=some (.str [c]):=by
   rw [Zao hl,Int.toNat_natCast]
   match g,hlt' with
   | 0,_ | 1,_ | 2,_ | 3,_ | 4,_ | 5,_=>exact ⟨_,rfl,rfl,rfl⟩
  obtain ⟨c,hc1,hcv,hc2⟩:=hc
  simp only [Zav,hc2,Zal]
  refine ⟨by omega,(Ycy s [c] hs).mono ?_⟩
  rintro v h2 ⟨rfl,s2⟩
  simp only [Zar]
  have htk:Zed.take (g + 1)=Zed.take g ++ [c]:=by rw [List.take_succ,hc1]; rfl
  have hS2:=hS.trans (s2.mono hS.le)
  have hl2:h2[h.length]?=some (.cells Zbe [.str [88],.str [89],.str [90],.str [120],.str [121],.str [122]] false):=by rw [s2.eq _ (Own.lt hl)]; exact hl
  have hcn:decide (Yrc s [c] > 0)=(Zml s && decide (c∈s)):=by
   unfold Yrc
   rw [show Zkr [c]=Zcr c from rfl,hcv]
   cases hb:Zml s with
   | false=>rfl
   | true=>
    simp only [Bool.and_self,if_true,Bool.true_and,List.headD_cons]
    rw [Bool.eq_iff_iff]; simp [List.count_pos_iff]
  have hbd:(if Zml s=true then (Zed.take g).filter fun v=>decide (v∈s) else []).length≤6:=by
   split
   ·exact Nat.le_trans (List.length_filter_le _ _) (by simp; omega)
   ·simp
  rw [hcn]
  refine Zcv (fun hb=>?_) (fun hb=>?_)
  ·simp only [Bool.and_eq_true] at hb
   refine ⟨by simp only [List.length_cons,List.length_nil]; omega,?_⟩
   apply Zgv.J7i
   rw [Zbl (by omega)]
   refine hR (g + 1) _ _ _ (by omega) ⟨rfl,by omega,hS2,hl2,?_⟩
   rw [if_pos hb.1,if_pos hb.1,htk,List.filter_append]; simp [hb.2]
  ·apply Zgv.J7i
   rw [Zbl (by omega)]
   refine hR (g + 1) _ _ _ (by omega) ⟨rfl,by omega,hS2,hl2,?_⟩
   cases ht:Zml s with
   | false=>simp
   | true=>rw [ht,Bool.true_and] at hb; rw [htk,List.filter_append]; simp; simpa using hb
 ·apply Zgv.A3x0i
  have:g=6:=by omega
  subst this
  exact ⟨rfl,hS⟩
theorem Ykp {h:Zaa} (x y:List Nat) (hx:x.length≤1048576) (hy:y.length≤1048576):Zah pg Znn [.str x,.str y] h fun v h'=>v=.bool (x.all fun c=>decide (c∈y))∧h'=h:=by
 apply Zif.call
 refine Zif.L2ind _ _ _ _ (J:=fun (g:Nat) x8 h'=>x8=(g:Int)∧g≤x.length∧h'=h∧(x.take g).all (fun c=>decide (c∈y))=true) (fun g=>x.length - g) ?_ 0 _ _ ⟨rfl,by omega,rfl,by simp⟩
 rintro g x8 h' ⟨rfl,hg,rfl,hk⟩ R hR
 unfold Zif.L2t
 refine Zat (fun hlt=>?_) (fun hge=>?_)
 ·have hg':g < x.length:=by omega
  refine ⟨⟨by omega,by omega⟩,?_⟩
  simp only [Int.toNat_natCast,Zfd hg']
  refine (Ybz y x[g] (by omega)).mono ?_
  rintro v h2 ⟨rfl,rfl⟩
  simp only [Zar]
  have hix:decide (Zvf y x[g] < 0)=!decide (x[g]∈y):=by
   by_cases hm:x[g]∈y
   ·have:=(Yby y x[g]).2 hm
    simp [hm]; omega
   ·rw [Zze hm]; simp [hm]
  rw [hix]
  refine Zbq (fun hb=>⟨by rw [Zqx hg' hb],by trivial⟩) (fun hb=>?_)
  rw [Zbl (by omega)]
  exact hR (g + 1) _ _ (by omega) ⟨rfl,by omega,rfl,Zfr hg' hk hb⟩
 ·apply Zif.A2x0i
  have:g=x.length:=by omega
  subst this
  rw [List.take_length] at hk
  exact ⟨by rw [hk],by trivial⟩

theorem Yhq {cs:List Nd} {ct tt:List Nat} {ns:List Nd} (h1:Zkg cs=true) (h2:Zfz cs ct=true) (h3:Zml tt=true) (h4:tt.length≤20) (h5:Zkr tt=false) (h6:ns.length≤3):Zmv cs ((ct,tt),ns)=ns.all (Zjl cs tt):=by
 unfold Zmv; simp [h1,h2,h3,h4,h5,h6]
theorem Zwp {h:Zaa} {a a1 a2:Pt} {n c n1 c1 n2 c2:Nat} {e e1 e2:Bool} {cs ns:List Nd} {ct tt:List Nat} (r:Row h.length h a (n * 2) (Zdn eP cs)) (hc:n≤c) (hn:n≤1048576) (hs:∀ p∈cs,p.2.length≤1048576)
  (r2:Row h.length h a2 (n2 * 2) (Zdn eP ns)) (hn2:n2≤1048576) (hns:∀ p∈ns,p.2.length≤1048576) (htt:tt.length≤1048576) :
  Zah pg Zix [.agg [.slice a n c e,.slice a1 n1 c1 e1],.agg [.str ct,.str tt,.slice a2 n2 c2 e2]] h fun v h'=>v=.bool (Zmv cs ((ct,tt),ns))∧Zbc h.length h h':=by
 have hl:cs.length=n:=by have:=r.1; rw [Zay Zea] at this; omega
 have hl2:ns.length=n2:=by have:=r2.1; rw [Zay Zea] at this; omega
 apply Zcy.call
 simp only [Zaw]
 generalize hh0:h ++ [Zcd.cells Zab [.slice a n c e,.slice a1 n1 c1 e1] false]=h0
 generalize hh1:h0 ++ [Zcd.cells Zac [.str ct,.str tt,.slice a2 n2 c2 e2] false]=h1
 have s0:Zbc h.length h h0:=by rw [← hh0]; exact Zam
 have s01:Zbc h0.length h0 h1:=by rw [← hh1]; exact Zam
 have s1:Zbc h.length h h1:=s0.trans (s01.mono s0.le)
 have hl0:h0.length=h.length + 1:=by rw [← hh0]; simp
 have hl1:h1.length=h.length + 2:=by rw [← hh1]; simp [hl0]
 have w1:h1[h.length]?=some (.cells Zab [.slice a n c e,.slice a1 n1 c1 e1] false):=by rw [← hh1,Yci (by omega),← hh0]; simp
 have i1:h1[h0.length]?=some (.cells Zac [.str ct,.str tt,.slice a2 n2 c2 e2] false):=by rw [← hh1]; simp
 rw [Zef w1 (by simp)]
 simp only [List.drop_zero,List.take_succ_cons,List.take_zero,Zaq,Zaf,Zae,Zan]
 refine (Zwc (r.same' s1) hc hn hs).mono ?_
 rintro v h2 ⟨rfl,s2⟩
 have S2:Zbc h.length h h2:=s1.trans (s2.mono (by omega))
 have w2:h2[h.length]?=some (.cells Zab [.slice a n c e,.slice a1 n1 c1 e1] false):=by rw [s2.eq _ (by omega)]; exact w1
 have i2:h2[h0.length]?=some (.cells Zac [.str ct,.str tt,.slice a2 n2 c2 e2] false):=by rw [s2.eq _ (by omega)]; exact i1
 simp only [Zap]
 refine Zbq (fun hb=>⟨by unfold Zmv; rw [hb]; rfl,S2⟩) (fun b1=>?_)
 simp only [Nat.add_zero,Nat.zero_add,Zao w2,Zao i2,List.getElem?_cons_succ,List.getElem?_cons_zero,Zae,Zal]
 refine (Zum (r.same' S2) (by omega)).mono ?_
 rintro v h3 ⟨rfl,s3⟩
 have hle2:=s2.le
 have S3:Zbc h.length h h3:=S2.trans (s3.mono S2.le)
 have i3:h3[h0.length]?=some (.cells Zac [.str ct,.str tt,.slice a2 n2 c2 e2] false):=by rw [s3.eq _ (by omega)]; exact i2
 have w3:h3[h.length]?=some (.cells Zab [.slice a n c e,.slice a1 n1 c1 e1] false):=by rw [s3.eq _ (by omega)]; exact w2
 simp only [Zap]
 refine Zbq (fun hb=>⟨by unfold Zmv; rw [b1,hb]; rfl,S3⟩) (fun b2=>?_)
 simp only [Zao i3,List.getElem?_cons_succ,List.getElem?_cons_zero,Zal]
 refine (Zke tt h3).mono ?_
 rintro v h4 ⟨rfl,s4⟩
 have hle3:=s3.le
 have S4:Zbc h.length h h4:=S3.trans (s4.mono S3.le)
 have i4:h4[h0.length]?=some (.cells Zac [.str ct,.str tt,.slice a2 n2 c2 e2] false):=by rw [s4.eq _ (by omega)]; exact i3
 have w4:h4[h.length]?=some (.cells Zab [.slice a n c e,.slice a1 n1 c1 e1] false):=by rw [s4.eq _ (by omega)]; exact w3
 simp only [Zap]
 refine Zbq (fun hb=>⟨by unfold Zmv; rw [b1,b2,hb]; rfl,S4⟩) (fun b3=>?_)
 simp only [Zao i4,List.getElem?_cons_succ,List.getElem?_cons_zero,Zal]
 refine Zat (fun hb=>⟨by unfold Zmv; rw [b1,b2,b3]; simp [show ¬ tt.length≤20 by omega],S4⟩) (fun b4=>?_)
 refine (Ybp tt).mono ?_
 rintro v h5 ⟨rfl,rfl⟩
 simp only [Zap]
 refine Zcv (fun hb=>⟨by unfold Zmv; rw [hb]; simp,S4⟩) (fun b5=>?_)
 simp only [Zao i4,List.getElem?_cons_succ,List.getElem?_cons_zero,Zae]
 refine Zat (fun hb=>⟨by unfold Zmv; simp [show ¬ ns.length≤3 by omega],S4⟩) (fun b6=>?_)
 rw [Yhq b1 b2 b3 (by omega) b5 (by omega)]
 apply Zcy.J3i
 simp only [Nat.zero_add,Zao i4,List.getElem?_cons_succ,List.getElem?_cons_zero,Zae]
 have hle4:=s4.le
 refine Zcy.L4ind _ _ _ _ _ _ _ _ _ _ (J:=fun (g:Nat) x50 h'=>x50=(g:Int)∧g≤n2∧Zbc h5.length h5 h'∧(ns.take g).all (Zjl cs tt)=true) (fun g=>n2 - g) ?_ 0 _ _ ⟨rfl,by omega,Zbc.refl _ _,rfl⟩
 rintro g x50 h' ⟨rfl,hg,hS,hk⟩ R hR
 have SS:Zbc h.length h h':=S4.trans (hS.mono S4.le)
 unfold Zcy.L4t
 refine Zat (fun hlt=>?_) (fun hge=>?_)
 ·obtain ⟨i,o,hgl,rfl,hil,hr,_⟩:=(r2.same SS).pr (k:=g) (by omega)
  simp only [Zav,Int.toNat_natCast,hr,Zaq,Zaf,Zan,Zal,Zaw]
  rw [Zfk]
  have hlh:=hS.le
  generalize hq:h' ++ [Zcd.cells Zad [.str ns[g].1,.str ns[g].2] false]=hq'
  have sq:Zbc h'.length h' hq':=by rw [← hq]; exact Zam
  have hql:hq'.length=h'.length + 1:=by rw [← hq]; simp
  have nq:hq'[h'.length]?=some (.cells Zad [.str ns[g].1,.str ns[g].2] false):=by rw [← hq]; simp
  have wq:hq'[h.length]?=some (.cells Zab [.slice a n c e,.slice a1 n1 c1 e1] false):=by rw [sq.eq _ (by omega),hS.eq _ (by omega)]; exact w4
  have iq:hq'[h0.length]?=some (.cells Zac [.str ct,.str tt,.slice (some (i,o)) n2 c2 e2] false):=by rw [sq.eq _ (by omega),hS.eq _ (by omega)]; exact i4
  simp only [Zas,Nat.add_zero,Nat.zero_add,Zao wq,Zao nq,List.getElem?_cons_succ,List.getElem?_cons_zero,Zae,Zal]
  have Sq:Zbc h.length h hq':=SS.trans (sq.mono SS.le)
  refine ⟨by omega,(Zum (r.same' Sq) (by omega)).mono ?_⟩
  rintro v k3 ⟨rfl,t3⟩
  have T3:=Sq.trans (t3.mono Sq.le)
  have n3:k3[h'.length]?=some (.cells Zad [.str ns[g].1,.str ns[g].2] false):=by rw [t3.eq _ (by omega)]; exact nq
  simp only [Zap]
  have fail:∀ hx,Zbc h.length h hx→Zjl cs tt ns[g]=false→(Zau.bool false=Zau.bool (ns.all (Zjl cs tt))∧Zbc h.length h hx):=fun hx hs hf=>⟨by rw [Zqx hgl hf],hs⟩
  refine Zbq (fun hb=>fail _ T3 (by unfold Zjl; rw [hb]; rfl)) (fun m1=>?_)
  simp only [Zao n3,List.getElem?_cons_succ,List.getElem?_cons_zero,Zal]
  refine (Zke _ k3).mono ?_
  rintro v k4 ⟨rfl,t4⟩
  have ht3:=t3.le
  have T4:=T3.trans (t4.mono T3.le)
  have n4:k4[h'.length]?=some (.cells Zad [.str ns[g].1,.str ns[g].2] false):=by rw [t4.eq _ (by omega)]; exact n3
  simp only [Zap]
  refine Zbq (fun hb=>fail _ T4 (by unfold Zjl; rw [m1,hb]; rfl)) (fun m2=>?_)
  simp only [Zao n4,List.getElem?_cons_succ,List.getElem?_cons_zero,Zal]
  refine Zat (fun hb=>fail _ T4 (by unfold Zjl; simp [show ¬ ns[g].2.length≤20 by omega])) (fun m3=>?_)
  apply Zcy.J8i
  simp only [Nat.zero_add,Zao n4,List.getElem?_cons_succ,List.getElem?_cons_zero,Zal]
  refine (Yla _ k4).mono ?_
  rintro v k5 ⟨t5,av,nv,cv,ev,rfl,hrow⟩
  simp only [Zae]
  have ht4:=t4.le
  have ht5:=t5.le
  have T5:=T4.trans (t5.mono T4.le)
  have hvl:(Zlc ns[g].2).length=nv:=by have:=hrow.1; simpa using this
  have hv6:(Zlc ns[g].2).length≤6:=List.length_filter_le _ _
  have hni:Zjl cs tt ns[g]=(Zlc ns[g].2).all fun v=>decide (v∈tt):=by unfold Zjl; rw [m1,m2]; simp [show ns[g].2.length≤20 by omega]
  have i5:k5[h0.length]?=some (.cells Zac [.str ct,.str tt,.slice (some (i,o)) n2 c2 e2] false):=by rw [t5.eq _ (by omega),t4.eq _ (by omega),t3.eq _ (by omega)]; exact iq
  refine Zcy.L9ind _ _ _ _ _ _ _ _ _ _ _ _ _ _ _ _ _ (J:=fun (q:Nat) x76 h6=>x76=(q:Int)∧q≤nv∧h6=k5∧((Zlc ns[g].2).take q).all (fun v=>decide (v∈tt))=true) (fun q=>nv - q) ?_ 0 _ _ ⟨rfl,by omega,rfl,rfl⟩
  rintro q x76 h6 ⟨rfl,hq6,rfl,hk6⟩ R9 hR9
  unfold Zcy.L9t
  refine Zat (fun hlt6=>?_) (fun hge6=>?_)
  ·obtain ⟨iv,ov,rfl,_,hcv⟩:=hrow.at (k:=q) (by omega)
   rw [Yhi,List.getElem?_map,List.getElem?_eq_getElem (show q < (Zlc ns[g].2).length by omega)] at hcv
   simp only [Option.map_some] at hcv
   simp only [Zav,Int.toNat_natCast,Nat.mul_one,hcv,Zal,Nat.add_zero,Nat.zero_add,Zao i5,List.getElem?_cons_succ,List.getElem?_cons_zero,one]
   refine ⟨by omega,Zor.mono ?_⟩
   rintro v k7 ⟨rfl,rfl⟩
   simp only [Zap]
   refine Zbq (fun hb=>fail _ T5 (by rw [hni]; exact Zqx (by omega) hb)) (fun d1=>?_)
   rw [Zbl (by omega)]
   exact hR9 (q + 1) _ _ (by omega) ⟨rfl,by omega,rfl,Zfr (by omega) hk6 d1⟩
  ·apply Zcy.A9x2i
   apply Zcy.J14i
   have:q=nv:=by omega
   subst this
   rw [List.take_of_length_le (by omega)] at hk6
   rw [Zbl (by omega)]
   refine hR (g + 1) _ _ (by omega) ⟨rfl,by omega,?_,Zfr hgl hk (by rw [hni]; exact hk6)⟩
   exact hS.trans ((sq.mono hS.le).trans ((t3.mono (by omega)).trans ((t4.mono (by omega)).trans (t5.mono (by omega)))))
 ·apply Zcy.A4x0i
  have:g=n2:=by omega
  subst this
  rw [List.take_of_length_le (by omega)] at hk
  exact ⟨by rw [hk],SS⟩
end Go.Sim

set_option linter.unusedVariables false
set_option linter.unusedSimpArgs false
set_option maxRecDepth 20000
namespace Go.Sim
open Go Go.RowKit

theorem Ygv (x t:List Nat):((Zlc x).all fun c=>decide (c∈Zlc t))=(Zlc x).all fun c=>decide (c∈t):=by
 rw [Bool.eq_iff_iff,List.all_eq_true,List.all_eq_true]
 constructor
 ·intro h c hc
  have:=h c hc
  simp only [Zlc,decide_eq_true_eq,List.mem_filter] at this ⊢
  exact this.2
 ·intro h c hc
  have h1:=h c hc
  have hv:c∈Zed:=(List.mem_filter.1 hc).1
  simp only [Zlc,decide_eq_true_eq,List.mem_filter] at h1 ⊢
  exact ⟨hv,h1⟩
theorem Zvm {h:Zaa} {a a1 a2:Pt} {n c n1 c1 n2 c2:Nat} {e e1 e2:Bool} {cs ns:List Nd} {ct tt:List Nat} (r:Row h.length h a (n * 2) (Zdn eP cs)) (hc:n≤c) (hn:n≤1048576) (hs:∀ p∈cs,p.2.length≤1048576) (hb256:∀ p∈cs,∀ b∈p.1,b < 256)
  (r2:Row h.length h a2 (n2 * 2) (Zdn eP ns)) (hn2:n2≤1048576) (hns:∀ p∈ns,p.2.length≤1048576) (htt:tt.length≤1048576) :
  Zah pg Ziw [.agg [.slice a n c e,.slice a1 n1 c1 e1],.agg [.str ct,.str tt,.slice a2 n2 c2 e2]] h fun v h'=>v=.bool (Zmv cs ((ct,tt),ns))∧Zbc h.length h h':=by
 have hl:cs.length=n:=by have:=r.1; rw [Zay Zea] at this; omega
 have hl2:ns.length=n2:=by have:=r2.1; rw [Zay Zea] at this; omega
 apply Zeh.call
 simp only [Zaw]
 generalize hh0:h ++ [Zcd.cells Zab [.slice a n c e,.slice a1 n1 c1 e1] false]=h0
 generalize hh1:h0 ++ [Zcd.cells Zac [.str ct,.str tt,.slice a2 n2 c2 e2] false]=h1
 have s0:Zbc h.length h h0:=by rw [← hh0]; exact Zam
 have s01:Zbc h0.length h0 h1:=by rw [← hh1]; exact Zam
 have s1:Zbc h.length h h1:=s0.trans (s01.mono s0.le)
 have hl0:h0.length=h.length + 1:=by rw [← hh0]; simp
 have hl1:h1.length=h.length + 2:=by rw [← hh1]; simp [hl0]
 have w1:h1[h.length]?=some (.cells Zab [.slice a n c e,.slice a1 n1 c1 e1] false):=by rw [← hh1,Yci (by omega),← hh0]; simp
 have i1:h1[h0.length]?=some (.cells Zac [.str ct,.str tt,.slice a2 n2 c2 e2] false):=by rw [← hh1]; simp
 simp only [Nat.add_zero,Zao w1,List.getElem?_cons_zero,Zae]
 refine (Zwi (r.same' s1) hc hn hs hb256).mono ?_
 rintro v h2 ⟨rfl,s2⟩
 have S2:Zbc h.length h h2:=s1.trans (s2.mono (by omega))
 have w2:h2[h.length]?=some (.cells Zab [.slice a n c e,.slice a1 n1 c1 e1] false):=by rw [s2.eq _ (by omega)]; exact w1
 have i2:h2[h0.length]?=some (.cells Zac [.str ct,.str tt,.slice a2 n2 c2 e2] false):=by rw [s2.eq _ (by omega)]; exact i1
 simp only [Zap]
 refine Zbq (fun hb=>⟨by unfold Zmv; rw [hb]; rfl,S2⟩) (fun b1=>?_)
 rw [Zef w2 (by simp)]
 simp only [List.drop_zero,List.take_succ_cons,List.take_zero,Zaq,Zaf,Zan,Nat.zero_add,Zao i2,List.getElem?_cons_succ,List.getElem?_cons_zero,Zae,Zal]
 refine (Zpx (r.same' S2) (by omega)).mono ?_
 rintro v h3 ⟨rfl,s3⟩
 have hle2:=s2.le
 have S3:Zbc h.length h h3:=S2.trans (s3.mono S2.le)
 have i3:h3[h0.length]?=some (.cells Zac [.str ct,.str tt,.slice a2 n2 c2 e2] false):=by rw [s3.eq _ (by omega)]; exact i2
 have w3:h3[h.length]?=some (.cells Zab [.slice a n c e,.slice a1 n1 c1 e1] false):=by rw [s3.eq _ (by omega)]; exact w2
 simp only [Zar,Zzl]
 refine Zbq (fun hb=>⟨by unfold Zmv; rw [b1,hb]; rfl,S3⟩) (fun b2=>?_)
 simp only [Zao i3,List.getElem?_cons_succ,List.getElem?_cons_zero,Zal]
 refine (Zio tt (by omega) h3).mono ?_
 rintro v h4 ⟨rfl,s4⟩
 have hle3:=s3.le
 have S4:Zbc h.length h h4:=S3.trans (s4.mono S3.le)
 have i4:h4[h0.length]?=some (.cells Zac [.str ct,.str tt,.slice a2 n2 c2 e2] false):=by rw [s4.eq _ (by omega)]; exact i3
 have w4:h4[h.length]?=some (.cells Zab [.slice a n c e,.slice a1 n1 c1 e1] false):=by rw [s4.eq _ (by omega)]; exact w3
 simp only [Zap]
 refine Zbq (fun hb=>⟨by unfold Zmv; rw [b1,b2,hb]; rfl,S4⟩) (fun b3=>?_)
 simp only [Zao i4,List.getElem?_cons_succ,List.getElem?_cons_zero,Zal]
 refine Zat (fun hb=>⟨by unfold Zmv; rw [b1,b2,b3]; simp [show ¬ tt.length≤20 by omega],S4⟩) (fun b4=>?_)
 have hvh:=Ytv b3
 have hne:=Ynn b3
 have htl:0 < tt.length:=by cases tt with | nil=>exact absurd rfl hne | cons=>simp
 refine ⟨⟨by omega,by omega⟩,?_⟩
 have hgd:tt.getD (Int.toNat 0) 0=tt.headD 0:=by cases tt <;> rfl
 rw [hgd]
 refine (Zqu _).mono ?_
 rintro v h5 ⟨rfl,rfl⟩
 simp only [Zap,← hvh]
 refine Zcv (fun hb=>⟨by unfold Zmv; rw [hb]; simp,S4⟩) (fun b5=>?_)
 simp only [Zao i4,List.getElem?_cons_succ,List.getElem?_cons_zero,Zae]
 refine Zat (fun hb=>⟨by unfold Zmv; simp [show ¬ ns.length≤3 by omega],S4⟩) (fun b6=>?_)
 rw [Yhq b1 b2 b3 (by omega) b5 (by omega)]
 apply Zeh.J3i
 simp only [Nat.zero_add,Zao i4,List.getElem?_cons_succ,List.getElem?_cons_zero,Zae]
 have hle4:=s4.le
 refine Zeh.L4ind _ _ _ _ _ _ _ _ _ _ (J:=fun (g:Nat) x50 h'=>x50=(g:Int)∧g≤n2∧Zbc h5.length h5 h'∧(ns.take g).all (Zjl cs tt)=true) (fun g=>n2 - g) ?_ 0 _ _ ⟨rfl,by omega,Zbc.refl _ _,rfl⟩
 rintro g x50 h' ⟨rfl,hg,hS,hk⟩ R hR
 have SS:Zbc h.length h h':=S4.trans (hS.mono S4.le)
 unfold Zeh.L4t
 refine Zat (fun hlt=>?_) (fun hge=>?_)
 ·obtain ⟨i,o,hgl,rfl,hil,hr,_⟩:=(r2.same SS).pr (k:=g) (by omega)
  simp only [Zav,Int.toNat_natCast,hr,Zaq,Zaf,Zan,Zal,Zaw]
  rw [Zfk]
  have hlh:=hS.le
  generalize hq:h' ++ [Zcd.cells Zad [.str ns[g].1,.str ns[g].2] false]=hq'
  have sq:Zbc h'.length h' hq':=by rw [← hq]; exact Zam
  have hql:hq'.length=h'.length + 1:=by rw [← hq]; simp
  have nq:hq'[h'.length]?=some (.cells Zad [.str ns[g].1,.str ns[g].2] false):=by rw [← hq]; simp
  have wq:hq'[h.length]?=some (.cells Zab [.slice a n c e,.slice a1 n1 c1 e1] false):=by rw [sq.eq _ (by omega),hS.eq _ (by omega)]; exact w4
  have iq:hq'[h0.length]?=some (.cells Zac [.str ct,.str tt,.slice (some (i,o)) n2 c2 e2] false):=by rw [sq.eq _ (by omega),hS.eq _ (by omega)]; exact i4
  have row:∀ {hx:Zaa},hx[h.length]?=some (.cells Zab [.slice a n c e,.slice a1 n1 c1 e1] false)→Zbj hx (.ptr (some (h.length,0))) 2=some [.slice a n c e,.slice a1 n1 c1 e1]:=fun w=>by rw [Zef w (by simp)]; rfl
  simp only [Zas,Nat.add_zero,Nat.zero_add,row wq,Zao nq,List.getElem?_cons_succ,List.getElem?_cons_zero,Zaq,Zaf,Zan,Zae,Zal,true_and]
  have Sq:Zbc h.length h hq':=SS.trans (sq.mono SS.le)
  refine ⟨by omega,(Zpx (r.same' Sq) (by omega)).mono ?_⟩
  rintro v k3 ⟨rfl,t3⟩
  have T3:=Sq.trans (t3.mono Sq.le)
  have n3:k3[h'.length]?=some (.cells Zad [.str ns[g].1,.str ns[g].2] false):=by rw [t3.eq _ (by omega)]; exact nq
  have w3':k3[h.length]?=some (.cells Zab [.slice a n c e,.slice a1 n1 c1 e1] false):=by rw [t3.eq _ (by omega)]; exact wq
  have i3':k3[h0.length]?=some (.cells Zac [.str ct,.str tt,.slice (some (i,o)) n2 c2 e2] false):=by rw [t3.eq _ (by omega)]; exact iq
  have ht3:=t3.le
  simp only [Zar,Zzl,row w3',Zao n3,List.getElem?_cons_succ,List.getElem?_cons_zero,Zal,true_and]
  have fail:∀ hx,Zbc h.length h hx→Zjl cs tt ns[g]=false→(Zau.bool false=Zau.bool (ns.all (Zjl cs tt))∧Zbc h.length h hx):=fun hx hs hf=>⟨by rw [Zqx hgl hf],hs⟩
  refine Zbq (fun hb=>fail _ T3 (by unfold Zjl; rw [hb]; rfl)) (fun m1=>?_)
  have hnl:=hns ns[g] (List.getElem_mem hgl)
  refine (Zio _ (by omega) k3).mono ?_
  rintro v k4 ⟨rfl,t4⟩
  have T4:=T3.trans (t4.mono T3.le)
  have ht4:=t4.le
  have n4:k4[h'.length]?=some (.cells Zad [.str ns[g].1,.str ns[g].2] false):=by rw [t4.eq _ (by omega)]; exact n3
  have w4':k4[h.length]?=some (.cells Zab [.slice a n c e,.slice a1 n1 c1 e1] false):=by rw [t4.eq _ (by omega)]; exact w3'
  have i4':k4[h0.length]?=some (.cells Zac [.str ct,.str tt,.slice (some (i,o)) n2 c2 e2] false):=by rw [t4.eq _ (by omega)]; exact i3'
  simp only [Zap,row w4',Zao n4,Zao i4',List.getElem?_cons_succ,List.getElem?_cons_zero,Zal,true_and]
  refine Zbq (fun hb=>fail _ T4 (by unfold Zjl; rw [m1,hb]; rfl)) (fun m2=>?_)
  refine Zat (fun hb=>fail _ T4 (by unfold Zjl; simp [show ¬ ns[g].2.length≤20 by omega])) (fun m3=>?_)
  refine (Zsq _ hnl).mono ?_
  rintro v k5 ⟨rfl,t5⟩
  have T5:=T4.trans (t5.mono T4.le)
  have ht5:=t5.le
  have n5:k5[h'.length]?=some (.cells Zad [.str ns[g].1,.str ns[g].2] false):=by rw [t5.eq _ (by omega)]; exact n4
  have w5':k5[h.length]?=some (.cells Zab [.slice a n c e,.slice a1 n1 c1 e1] false):=by rw [t5.eq _ (by omega)]; exact w4'
  have i5':k5[h0.length]?=some (.cells Zac [.str ct,.str tt,.slice (some (i,o)) n2 c2 e2] false):=by rw [t5.eq _ (by omega)]; exact i4'
  simp only [row w5',Zao n5,Zao i5',List.getElem?_cons_succ,List.getElem?_cons_zero,Zal,true_and]
  refine (Zsq _ htt).mono ?_
  rintro v k6 ⟨rfl,t6⟩
  have T6:=T5.trans (t6.mono T5.le)
  have ht6:=t6.le
  have n6:k6[h'.length]?=some (.cells Zad [.str ns[g].1,.str ns[g].2] false):=by rw [t6.eq _ (by omega)]; exact n5
  have w6':k6[h.length]?=some (.cells Zab [.slice a n c e,.slice a1 n1 c1 e1] false):=by rw [t6.eq _ (by omega)]; exact w5'
  have i6':k6[h0.length]?=some (.cells Zac [.str ct,.str tt,.slice (some (i,o)) n2 c2 e2] false):=by rw [t6.eq _ (by omega)]; exact i5'
  simp only [row w6',Zao n6,Zao i6',List.getElem?_cons_succ,List.getElem?_cons_zero,Zal,true_and]
  rw [if_pos m2,if_pos b3]
  have hvb:∀ s,(Zlc s).length≤6:=fun s=>List.length_filter_le _ _
  have hv1:=hvb ns[g].2
  have hv2:=hvb tt
  refine (Ykp _ _ (by omega) (by omega)).mono ?_
  rintro v k7 ⟨rfl,rfl⟩
  have hni:Zjl cs tt ns[g]=(Zlc ns[g].2).all fun v=>decide (v∈tt):=by unfold Zjl; rw [m1,m2]; simp [show ns[g].2.length≤20 by omega]
  simp only [Zap,row w6',Zao n6,Zao i6',List.getElem?_cons_succ,List.getElem?_cons_zero,Zal,true_and,Ygv,← hni]
  refine Zbq (fun hb=>fail _ T6 hb) (fun m4=>?_)
  apply Zeh.J8i
  rw [Zbl (by omega)]
  refine hR (g + 1) _ _ (by omega) ⟨rfl,by omega,?_,Zfr hgl hk m4⟩
  exact hS.trans ((sq.mono hS.le).trans ((t3.mono (by omega)).trans ((t4.mono (by omega)).trans ((t5.mono (by omega)).trans (t6.mono (by omega))))))
 ·apply Zeh.A4x0i
  have:g=n2:=by omega
  subst this
  rw [List.take_of_length_le (by omega)] at hk
  exact ⟨by rw [hk],SS⟩
end Go.Sim

set_option linter.unusedVariables false
set_option linter.unusedSimpArgs false
set_option maxRecDepth 20000
namespace Go.Sim
open Go Go.RowKit

structure WB (w:Wd):Prop where
 lc:w.cs.length≤1048576
 li:w.is.length≤1048576
 cs:∀ p∈w.cs,p.1.length≤1048576∧p.2.length≤1048576∧∀ b∈p.1,b < 256
 is:∀ i∈w.is,i.1.1.length≤1048576∧i.1.2.length≤1048576∧i.2.length≤1048576∧∀ p∈i.2,p.1.length≤1048576∧p.2.length≤1048576
def Znk (a0:Pt) (n0 c0:Nat) (e0:Bool) (a1:Pt) (n1 c1:Nat) (e1:Bool):Zcd:=.cells Zab [.slice a0 n0 c0 e0,.slice a1 n1 c1 e1] false
theorem Zwe {h:Zaa} {j:Nat} {a0 a1:Pt} {n0 c0 n1 c1:Nat} {e0 e1:Bool} (hj:h[j]?=some (Znk a0 n0 c0 e0 a1 n1 c1 e1)):Zbj h (.ptr (some (j,0))) 2=some [.slice a0 n0 c0 e0,.slice a1 n1 c1 e1]:=by
 rw [Zef (show h[j]?=some (.cells Zab [.slice a0 n0 c0 e0,.slice a1 n1 c1 e1] false) from hj) (by simp)]; rfl
theorem Zoi {h:Zaa} {j o:Nat} {a0 a1:Pt} {n0 c0 n1 c1:Nat} {e0 e1:Bool} (hj:h[j]?=some (Znk a0 n0 c0 e0 a1 n1 c1 e1)):Zag h (.ptr (some (j,o)))=([.slice a0 n0 c0 e0,.slice a1 n1 c1 e1]:List Zau)[o]?:=Zao (show h[j]?=some (.cells Zab [.slice a0 n0 c0 e0,.slice a1 n1 c1 e1] false) from hj)
theorem Zbc.get {b:Nat} {h h':Zaa} {j:Nat} {x:Zcd} (s:Zbc b h h') (hj:h[j]?=some x) (hb:j < b):h'[j]?=some x:=by rw [s.eq j hb]; exact hj
theorem Zbc.cat {h h1 h2:Zaa} (a:Zbc h.length h h1) (b:Zbc h1.length h1 h2):Zbc h.length h h2:=a.trans (b.mono a.le)

theorem Yqj {h:Zaa} {t:TypeId} {x y:Zau}:Zbj (h ++ [.cells t [x,y] false]) (.ptr (some (h.length,0))) 2=some [x,y]:=Yei rfl
theorem Yqf {h:Zaa} {t:TypeId} {x y z:Zau}:Zbj (h ++ [.cells t [x,y,z] false]) (.ptr (some (h.length,0))) 3=some [x,y,z]:=Yei rfl
theorem Ygl {h:Zaa} {a0 a1 a2:Pt} {n0 c0 n1 c1 n2 c2 j:Nat} {e0 e1 e2:Bool} {w:Wd} {ns:List Nd} {ct tt:List Nat} (r:Zmc h a0 n0 c0 a1 n1 c1 w) (b:WB w) (hj:h[j]?=some (Znk a0 n0 c0 e0 a1 n1 c1 e1))
  (r2:Row h.length h a2 (n2 * 2) (Zdn eP ns)) (hn2:n2≤1048576) (hns:∀ p∈ns,p.2.length≤1048576) (htt:tt.length≤1048576) :
  Zah pg Zcl [.agg [.str ct,.str tt,.slice a2 n2 c2 e2],.ptr (some (j,0))] h fun v h'=>v=.bool (!Zmv w.cs ((ct,tt),ns))∧Zbc h.length h h':=by
 apply Zlk.call
 simp only [Zaw]
 have s1:Zbc h.length h (h ++ [.cells Zac [.str ct,.str tt,.slice a2 n2 c2 e2] false]):=Zam
 rw [Zwe (s1.get hj (Own.lt hj)),Yqf]
 simp only [Zaq,Zaf,Zan,Zae,Zal]
 have hlc:=b.lc
 have hl0:=r.len0
 refine (Zwp (r.cls.same' s1) r.le0 (by omega) (fun p hp=>(b.cs p hp).2.1) (r2.same' s1) hn2 hns htt).mono ?_
 rintro v h2 ⟨rfl,s2⟩
 simp only [Zap]
 exact ⟨by trivial,s1.cat s2⟩
theorem Ygp {h:Zaa} {a0 a1:Pt} {n0 c0 n1 c1 j:Nat} {e0 e1:Bool} {w:Wd} (r:Zmc h a0 n0 c0 a1 n1 c1 w) (b:WB w) (hj:h[j]?=some (Znk a0 n0 c0 e0 a1 n1 c1 e1)) :
  Zah pg Zdl [.slice a1 n1 c1 e1,.fn Zcl [.ptr (some (j,0))]] h fun v h'=>(∃ z:Int,v=.int .i64 z∧decide (z ≥ 0)=!w.is.all (Zmv w.cs))∧Zbc h.length h h':=by
 have hl:=r.len1
 have hli:=b.li
 apply Zbh.call
 refine Zbh.L2ind _ _ _ _ _ _ _ (J:=fun (g:Nat) x8 h'=>x8=(g:Int)∧g≤n1∧Zbc h.length h h'∧(w.is.take g).all (Zmv w.cs)=true) (fun g=>n1 - g) ?_ 0 _ _ ⟨rfl,by omega,Zbc.refl _ _,rfl⟩
 rintro g x8 h' ⟨rfl,hg,hS,hk⟩ R hR
 unfold Zbh.L2t
 refine Zat (fun hlt=>?_) (fun hge=>?_)
 ·obtain ⟨i,o,hgl,a2,n2,c2,e2,rfl,_,hr,_,_,_,hrow,hn⟩:=(r.same hS).inst (k:=g) (by omega)
  simp only [Zav,Int.toNat_natCast,hr,Zaq,Zaf,Zan,Zal,Zae]
  have hb:=b.is _ (List.getElem_mem hgl)
  refine ⟨by omega,(Ygl (r.same hS) b (hS.get hj (Own.lt hj)) hrow (by omega) (fun p hp=>(hb.2.2.2 p hp).2) hb.2.1).mono ?_⟩
  rintro v h2 ⟨rfl,s2⟩
  simp only [Zap]
  have hS2:=hS.cat s2
  refine Zbq (fun he=>?_) (fun he=>?_)
  ·exact ⟨⟨_,rfl,by rw [Zqx hgl he]; simp⟩,hS2⟩
  ·rw [Zbl (by omega)]
   exact hR (g + 1) _ _ (by omega) ⟨rfl,by omega,hS2,Zfr hgl hk he⟩
 ·apply Zbh.A2x0i
  have:g=n1:=by omega
  subst this
  rw [List.take_of_length_le (by omega)] at hk
  exact ⟨⟨_,rfl,by rw [hk]; rfl⟩,hS⟩
theorem Zki {h:Zaa} {a0 a1:Pt} {n0 c0 n1 c1:Nat} {e0 e1:Bool} {w:Wd} (r:Zmc h a0 n0 c0 a1 n1 c1 w) (b:WB w) :
  Zah pg Zfg [.agg [.slice a0 n0 c0 e0,.slice a1 n1 c1 e1]] h fun v h'=>v=.bool (Zeg w)∧Zbc h.length h h':=by
 have hl0:=r.len0
 have hl1:=r.len1
 have hlc:=b.lc
 apply Zpo.call
 simp only [Zaw]
 generalize hh0:h ++ [Zcd.cells Zab [.slice a0 n0 c0 e0,.slice a1 n1 c1 e1] false]=h0
 have s0:Zbc h.length h h0:=by rw [← hh0]; exact Zam
 have w0:h0[h.length]?=some (Znk a0 n0 c0 e0 a1 n1 c1 e1):=by rw [← hh0]; simp [Znk]
 rw [Zwe w0]
 simp only [Zaq,Zaf,Zan,Zae]
 refine (Zwc (r.cls.same' s0) r.le0 (by omega) (fun p hp=>(b.cs p hp).2.1)).mono ?_
 rintro v h2 ⟨rfl,s2⟩
 have S2:=s0.cat s2
 have w2:=s2.get w0 (Own.lt w0)
 simp only [Zap]
 refine Zcv (fun b1=>?_) (fun b1=>⟨by unfold Zeg; rw [b1]; rfl,S2⟩)
 simp only [Zoi w2,Nat.zero_add,List.getElem?_cons_succ,List.getElem?_cons_zero,Zae]
 refine Zat (fun b2=>?_) (fun b2=>⟨by unfold Zeg; rw [b1]; simp [show ¬ w.is.length≤10 by omega],S2⟩)
 apply Zcw.call
 refine (Ygp (r.same S2) b w2).mono ?_
 rintro v h3 ⟨⟨z,rfl,hz⟩,s3⟩
 simp only [Zar,Zap]
 refine ⟨?_,S2.cat s3⟩
 rw [hz,Bool.not_not]
 unfold Zeg
 rw [b1]; simp [show w.is.length≤10 by omega]
theorem Zjg {h:Zaa} {a0 a1:Pt} {n0 c0 n1 c1:Nat} {e0 e1:Bool} {w:Wd} (r:Zmc h a0 n0 c0 a1 n1 c1 w) (b:WB w) :
  Zah pg Zfi [.agg [.slice a0 n0 c0 e0,.slice a1 n1 c1 e1]] h fun v h'=>v=.bool (Zeg w)∧Zbc h.length h h':=by
 have hl0:=r.len0
 have hl1:=r.len1
 have hlc:=b.lc
 have hli:=b.li
 apply Zgn.call
 simp only [Zaw]
 generalize hh0:h ++ [Zcd.cells Zab [.slice a0 n0 c0 e0,.slice a1 n1 c1 e1] false]=h0
 have s0:Zbc h.length h h0:=by rw [← hh0]; exact Zam
 have w0:h0[h.length]?=some (Znk a0 n0 c0 e0 a1 n1 c1 e1):=by rw [← hh0]; simp [Znk]
 simp only [Zoi w0,Nat.zero_add,List.getElem?_cons_succ,List.getElem?_cons_zero,Zae]
 refine Zgn.L2ind _ _ _ _ _ _ _ _ (J:=fun (g:Nat) x8 h'=>x8=(g:Int)∧g≤n1∧Zbc h0.length h0 h'∧(w.is.take g).all (Zmv w.cs)=true) (fun g=>n1 - g) ?_ 0 _ _ ⟨rfl,by omega,Zbc.refl _ _,rfl⟩
 rintro g x8 h' ⟨rfl,hg,hS,hk⟩ R hR
 have SS:=s0.cat hS
 have w1:=hS.get w0 (Own.lt w0)
 unfold Zgn.L2t
 refine Zat (fun hlt=>?_) (fun hge=>?_)
 ·obtain ⟨i,o,hgl,a2,n2,c2,e2,rfl,_,hr,_,_,_,hrow,hn⟩:=(r.same SS).inst (k:=g) (by omega)
  simp only [Zav,Int.toNat_natCast,hr,Zaq,Zaf,Zan,Zal,Zae,Zaw]
  rw [Ytg]
  generalize hq:h' ++ [Zcd.cells Zac [.str w.is[g].1.1,.str w.is[g].1.2,.slice a2 n2 c2 e2] false]=hq'
  have sq:Zbc h'.length h' hq':=by rw [← hq]; exact Zam
  simp only [Zas]
  rw [Zwe (sq.get w1 (Own.lt w1)),← hq,Yqf,hq]
  simp only [Zaq,Zaf,Zan,Zal,Zae]
  have hb:=b.is _ (List.getElem_mem hgl)
  have Sq:=SS.cat sq
  refine ⟨by omega,(Zvm (r.cls.same' Sq) r.le0 (by omega) (fun p hp=>(b.cs p hp).2.1) (fun p hp=>(b.cs p hp).2.2) (hrow.same' sq) (by omega) (fun p hp=>(hb.2.2.2 p hp).2) hb.2.1).mono ?_⟩
  rintro v h2 ⟨rfl,s2⟩
  simp only [Zap]
  refine Zbq (fun he=>?_) (fun he=>?_)
  ·exact ⟨by unfold Zeg; rw [Zqx hgl he]; simp,Sq.cat s2⟩
  ·rw [Zbl (by omega)]
   exact hR (g + 1) _ _ (by omega) ⟨rfl,by omega,(hS.cat sq).cat s2,Zfr hgl hk he⟩
 ·apply Zgn.A2x0i
  have:g=n1:=by omega
  subst this
  rw [List.take_of_length_le (by omega)] at hk
  simp only [Zoi w1,Nat.zero_add,List.getElem?_cons_zero,Zae]
  refine (Zwi (r.cls.same' SS) r.le0 (by omega) (fun p hp=>(b.cs p hp).2.1) (fun p hp=>(b.cs p hp).2.2)).mono ?_
  rintro v h2 ⟨rfl,s2⟩
  simp only [Zap]
  have w2:=s2.get w1 (Own.lt w1)
  refine Zcv (fun b1=>?_) (fun b1=>⟨by unfold Zeg; rw [b1]; rfl,SS.cat s2⟩)
  simp only [Zoi w2,Nat.zero_add,List.getElem?_cons_succ,List.getElem?_cons_zero,Zae]
  refine ⟨?_,SS.cat s2⟩
  unfold Zeg
  rw [b1,hk]; congr 1; rw [Bool.eq_iff_iff]; simp; omega
theorem Yno {h:Zaa} {a0 a1:Pt} {n0 c0 n1 c1:Nat} {e0 e1:Bool} {w:Wd} {ct tt:List Nat} (r:Zmc h a0 n0 c0 a1 n1 c1 w) (b:WB w) :
  Zah pg Zra [.agg [.slice a0 n0 c0 e0,.slice a1 n1 c1 e1],.agg [.str ct,.str tt]] h fun v h'=>v=.bool (Zhz w (ct,tt))∧Zbc h.length h h':=by
 have hl0:=r.len0
 have hlc:=b.lc
 apply Zuy.call
 simp only [Zaw]
 generalize hh0:h ++ [Zcd.cells Zab [.slice a0 n0 c0 e0,.slice a1 n1 c1 e1] false]=h0
 generalize hh1:h0 ++ [Zcd.cells Zad [.str ct,.str tt] false]=h1
 have s0:Zbc h.length h h0:=by rw [← hh0]; exact Zam
 have s1:Zbc h0.length h0 h1:=by rw [← hh1]; exact Zam
 have w0:h0[h.length]?=some (Znk a0 n0 c0 e0 a1 n1 c1 e1):=by rw [← hh0]; simp [Znk]
 have w1:=s1.get w0 (Own.lt w0)
 have i1:h1[h0.length]?=some (.cells Zad [.str ct,.str tt] false):=by rw [← hh1]; simp
 simp only [Zoi w1,Zao i1,Nat.zero_add,List.getElem?_cons_zero,List.getElem?_cons_succ,Zae,Zal]
 refine (Zum (r.cls.same' (s0.cat s1)) (by omega)).mono ?_
 rintro v h2 ⟨rfl,s2⟩
 simp only [Zap]
 have i2:=s2.get i1 (Own.lt i1)
 refine Zcv (fun b1=>?_) (fun b1=>⟨by unfold Zhz; rw [b1]; rfl,(s0.cat s1).cat s2⟩)
 simp only [Zao i2,Nat.zero_add,List.getElem?_cons_zero,List.getElem?_cons_succ,Zae,Zal]
 refine (Zke tt h2).mono ?_
 rintro v h3 ⟨rfl,s3⟩
 simp only [Zap]
 exact ⟨by unfold Zhz; rw [b1]; rfl,((s0.cat s1).cat s2).cat s3⟩
theorem Ycx (cs:List Nd) (c:List Nat):decide (Ygn cs c ≥ 0)=Zfz cs c:=by
 unfold Ygn; cases h:Zfz cs c <;> simp
theorem Ynp {h:Zaa} {a0 a1:Pt} {n0 c0 n1 c1:Nat} {e0 e1:Bool} {w:Wd} {ct tt:List Nat} (r:Zmc h a0 n0 c0 a1 n1 c1 w) (b:WB w) (ht:tt.length≤1048576) :
  Zah pg Zql [.agg [.slice a0 n0 c0 e0,.slice a1 n1 c1 e1],.agg [.str ct,.str tt]] h fun v h'=>v=.bool (Zhz w (ct,tt))∧Zbc h.length h h':=by
 have hl0:=r.len0
 have hlc:=b.lc
 apply Zud.call
 simp only [Zaw]
 generalize hh0:h ++ [Zcd.cells Zab [.slice a0 n0 c0 e0,.slice a1 n1 c1 e1] false]=h0
 generalize hh1:h0 ++ [Zcd.cells Zad [.str ct,.str tt] false]=h1
 have s0:Zbc h.length h h0:=by rw [← hh0]; exact Zam
 have s1:Zbc h0.length h0 h1:=by rw [← hh1]; exact Zam
 have w0:h0[h.length]?=some (Znk a0 n0 c0 e0 a1 n1 c1 e1):=by rw [← hh0]; simp [Znk]
 have w1:=s1.get w0 (Own.lt w0)
 have i1:h1[h0.length]?=some (.cells Zad [.str ct,.str tt] false):=by rw [← hh1]; simp
 rw [Zwe w1]
 simp only [Zaq,Zaf,Zan,Zao i1,Nat.zero_add,List.getElem?_cons_zero,List.getElem?_cons_succ,Zae,Zal]
 refine (Zpx (r.cls.same' (s0.cat s1)) (by omega)).mono ?_
 rintro v h2 ⟨rfl,s2⟩
 simp only [Zar,Ycx]
 have i2:=s2.get i1 (Own.lt i1)
 refine Zcv (fun b1=>?_) (fun b1=>⟨by unfold Zhz; rw [b1]; rfl,(s0.cat s1).cat s2⟩)
 simp only [Zao i2,Nat.zero_add,List.getElem?_cons_zero,List.getElem?_cons_succ,Zae,Zal]
 refine (Zio tt (by omega) h2).mono ?_
 rintro v h3 ⟨rfl,s3⟩
 simp only [Zap]
 exact ⟨by unfold Zhz; rw [b1]; rfl,((s0.cat s1).cat s2).cat s3⟩
theorem Yeh {h:Zaa} {a0 a1:Pt} {n0 c0 n1 c1:Nat} {e0 e1:Bool} {w:Wd} {ct tt:List Nat} (r:Zmc h a0 n0 c0 a1 n1 c1 w) (b:WB w) (ht:tt.length≤1048576) :
  Zah pg Zmu [.agg [.slice a0 n0 c0 e0,.slice a1 n1 c1 e1],.agg [.str ct,.str tt]] h fun v h'=>v=.bool (Zeg w && Zhz w (ct,tt))∧Zbc h.length h h':=by
 apply Zrg.call
 simp only [Zaw]
 generalize hh0:h ++ [Zcd.cells Zab [.slice a0 n0 c0 e0,.slice a1 n1 c1 e1] false]=h0
 generalize hh1:h0 ++ [Zcd.cells Zad [.str ct,.str tt] false]=h1
 have s0:Zbc h.length h h0:=by rw [← hh0]; exact Zam
 have s1:Zbc h0.length h0 h1:=by rw [← hh1]; exact Zam
 have w0:h0[h.length]?=some (Znk a0 n0 c0 e0 a1 n1 c1 e1):=by rw [← hh0]; simp [Znk]
 have w1:=s1.get w0 (Own.lt w0)
 have i1:h1[h0.length]?=some (.cells Zad [.str ct,.str tt] false):=by rw [← hh1]; simp
 rw [Zwe w1]
 simp only [Zaq,Zaf,Zan,Zae]
 refine (Zjg (r.same (s0.cat s1)) b).mono ?_
 rintro v h2 ⟨rfl,s2⟩
 simp only [Zap]
 have i2:=s2.get i1 (Own.lt i1)
 have w2:=s2.get w1 (Own.lt w1)
 refine Zcv (fun b1=>?_) (fun b1=>⟨by rw [b1]; rfl,(s0.cat s1).cat s2⟩)
 rw [Zwe w2,Zef i2 (by simp)]
 simp only [List.drop_zero,List.take_succ_cons,List.take_zero,Zaq,Zaf,Zan,Zae,Zal]
 refine (Ynp (r.same ((s0.cat s1).cat s2)) b ht).mono ?_
 rintro v h3 ⟨rfl,s3⟩
 simp only [Zap]
 exact ⟨by rw [b1]; rfl,((s0.cat s1).cat s2).cat s3⟩
end Go.Sim

set_option linter.unusedVariables false
set_option linter.unusedSimpArgs false
set_option maxRecDepth 20000
namespace Go.Sim
open Go Go.RowKit

end Go.Sim

set_option linter.unusedVariables false
set_option linter.unusedSimpArgs false
set_option maxRecDepth 20000
namespace Go.Sim
open Go Go.RowKit
end Go.Sim

set_option linter.unusedVariables false
set_option linter.unusedSimpArgs false
set_option maxRecDepth 20000
namespace Go.Sim
open Go Go.RowKit

def isz (i:Ins):Nat:=i.1.1.length + i.1.2.length + (i.2.length + Ynx i.2)
def Ypb (l:List Ins):Nat:=(l.map isz).sum
def wsz (w:Wd):Nat:=w.cs.length + Ynx w.cs + (w.is.length + Ypb w.is)
theorem Yko {l:List Ins} {g:Nat} (h:g < l.length):Ypb (l.take (g + 1))=Ypb (l.take g) + isz l[g]:=by
 unfold Ypb; rw [List.take_succ_eq_append_getElem h,List.map_append,List.sum_append]; simp
theorem Ydk (l:List Ins) (g:Nat):Ypb (l.take g)≤Ypb l:=by
 conv=>rhs; rw [← List.take_append_drop g l]
 unfold Ypb; rw [List.map_append,List.sum_append]; omega
theorem Yqm {l:List Ins} {g:Nat} (h:g < l.length):isz l[g]≤Ypb l:=by
 have:=Yko h; have:=Ydk l (g + 1); omega
def Yql (n:Nat):Prop:=n≤9223372036854775807
structure Yve (w:Wd):Prop where
 lc:Yql w.cs.length
 li:Yql w.is.length
 cs:∀ p∈w.cs,Yql p.1.length∧Yql p.2.length∧∀ b∈p.1,b < 256
 is:∀ i∈w.is,Yql i.1.1.length∧Yql i.1.2.length∧Yql i.2.length∧∀ p∈i.2,Yql p.1.length∧Yql p.2.length
theorem WB.of {w:Wd} (b:Yve w) (h:wsz w≤1048576):WB w:=by
 have h1:∀ p∈w.cs,p.1.length + p.2.length≤Ynx w.cs:=fun p hp=>by
  obtain ⟨k,hk,rfl⟩:=List.mem_iff_getElem.1 hp; exact Yif hk
 have h2:∀ i∈w.is,isz i≤Ypb w.is:=fun p hp=>by
  obtain ⟨k,hk,rfl⟩:=List.mem_iff_getElem.1 hp; exact Yqm hk
 unfold wsz at h
 refine ⟨by omega,by omega,fun p hp=>⟨by have:=h1 p hp; omega,by have:=h1 p hp; omega,(b.cs p hp).2.2⟩,fun i hi=>?_⟩
 have:=h2 i hi
 unfold isz at this
 refine ⟨by omega,by omega,by omega,fun p hp=>?_⟩
 have h3:p.1.length + p.2.length≤Ynx i.2:=by obtain ⟨k,hk,rfl⟩:=List.mem_iff_getElem.1 hp; exact Yif hk
 omega
theorem Zni {h:Zaa} {i:Nat} {t:TypeId} {x y z:Zau} {ro:Bool} (hi:h[i]?=some (.cells t [x,y,z] ro)):Zbj h (.ptr (some (i,0))) 3=some [x,y,z]:=by
 rw [Zef hi (by simp)]; rfl
theorem Zbc.set' {b i:Nat} {h h1:Zaa} {x:Zcd} (s:Zbc b h h1) (hi:b≤i):Zbc b h (h1.set i x):=⟨by simp; exact s.le,fun j hj=>by rw [Zbs (by omega)]; exact s.eq j hj⟩
theorem Zdh.keep {α:Type} {ty:TypeId} {enc:α→List Zau} {b b':Nat} {h h':Zaa} {a:Pt} {n:Nat} {l:List α} (f:Zdh ty enc b h a n l) (hb:b'≤b) (hk:∀ i,b≤i→i < h.length→h'[i]?=h[i]?):Zdh ty enc b' h' a n l:=
 ⟨f.1,f.2.imp id fun ⟨i,ha,hbi,hi⟩=>⟨i,ha,by omega,by rw [hk i hbi (Own.lt hi)]; exact hi⟩⟩
end Go.Sim

set_option linter.unusedVariables false
set_option linter.unusedSimpArgs false
set_option maxRecDepth 20000
namespace Go.Sim
open Go Go.RowKit

theorem Zbk {h:Zaa} {i:Nat} {t:TypeId} {x y:Zau} {ro:Bool} (hi:h[i]?=some (.cells t [x,y] ro)):Zbj h (.ptr (some (i,0))) 2=some [x,y]:=by
 rw [Zef hi (by simp)]; rfl
end Go.Sim

set_option linter.unusedVariables false
set_option linter.unusedSimpArgs false
set_option maxRecDepth 20000
namespace Go.Sim
open Go Go.RowKit

theorem Ty.size_ps (t:Ty):t.size=1 + (t.ps.map Ty.size).sum:=by cases t <;> simp [Ty.size,Ty.ps] <;> omega
theorem Zhp.same {S:Nat→Prop} {h h':Zaa} (s:Zbc h.length h h'):∀ {t:Ty} {v:List Zau},Zhp S h t v→Zhp S h' t v
 | .k d,_,h=>h
 | .u d x,_,⟨j,c,e,r,hv,sj,hj,hr⟩=>⟨j,c,e,r,hv,sj,s.get hj (Own.lt hj),hr.same s⟩
 | .w d x y,_,⟨j,c,e,r,r',hv,sj,hj,hr,hr'⟩=>⟨j,c,e,r,r',hv,sj,s.get hj (Own.lt hj),hr.same s,hr'.same s⟩
end Go.Sim

set_option linter.unusedVariables false
set_option linter.unusedSimpArgs false
set_option maxRecDepth 20000
namespace Go.Sim
open Go Go.RowKit

theorem Vec.lt' {ty:TypeId} {h:Zaa} {a:Pt} {i n c:Nat} {cs:List Zau} (x:Vec ty h a n c cs) (e:a=some (i,0)):i < h.length:=by subst e; exact x.lt
theorem Ztc.keep {S:Nat→Prop} {h h':Zaa} (hh:∀ j,S j→j < h.length→h'[j]?=h[j]?):∀ {t:Ty} {p:Pt},Ztc S h t p→Ztc S h' t p
 | .k d,p,⟨i,a,c,e,hp,si,hi⟩=>⟨i,a,c,e,hp,si,by rw [hh i si (Own.lt hi)]; exact hi⟩
 | .u d x,p,⟨i,j,c,e,q,hp,si,hi,sj,hj,hq⟩=>⟨i,j,c,e,q,hp,si,by rw [hh i si (Own.lt hi)]; exact hi,sj,by rw [hh j sj (Own.lt hj)]; exact hj,hq.keep hh⟩
 | .w d x y,p,⟨i,j,c,e,q,r,hp,si,hi,sj,hj,hq,hr⟩=>⟨i,j,c,e,q,r,hp,si,by rw [hh i si (Own.lt hi)]; exact hi,sj,by rw [hh j sj (Own.lt hj)]; exact hj,hq.keep hh,hr.keep hh⟩
theorem Ztc.same {S:Nat→Prop} {h h':Zaa} {t:Ty} {p:Pt} (r:Ztc S h t p) (s:Zbc h.length h h'):Ztc S h' t p:=r.keep fun j _ hj=>s.eq j hj
theorem Zhp.keep {S:Nat→Prop} {h h':Zaa} (hh:∀ j,S j→j < h.length→h'[j]?=h[j]?):∀ {t:Ty} {v:List Zau},Zhp S h t v→Zhp S h' t v
 | .k d,_,h=>h
 | .u d x,_,⟨j,c,e,r,hv,sj,hj,hr⟩=>⟨j,c,e,r,hv,sj,by rw [hh j sj (Own.lt hj)]; exact hj,hr.keep hh⟩
 | .w d x y,_,⟨j,c,e,r,r',hv,sj,hj,hr,hr'⟩=>⟨j,c,e,r,r',hv,sj,by rw [hh j sj (Own.lt hj)]; exact hj,hr.keep hh,hr'.keep hh⟩
theorem Ty.txt_inter (t:Ty) (h:t.ps≠[]):t.txt=([t.hd] ++ [40]) ++ [44].intercalate (t.ps.map Ty.txt) ++ [41]:=by
 cases t with
 | k c=>simp [Ty.ps] at h
 | u c a=>simp [Ty.ps,Ty.txt,Ty.hd,List.intercalate]
 | w c a b=>simp [Ty.ps,Ty.txt,Ty.hd,List.intercalate]
theorem Ty.size_part {t x:Ty} (h:x∈t.ps):x.size < t.size:=by
 cases t with
 | k c=>simp [Ty.ps] at h
 | u c a=>simp [Ty.ps] at h; subst h; simp [Ty.size]
 | w c a b=>simp [Ty.ps] at h; rcases h with rfl | rfl <;> simp [Ty.size] <;> omega
theorem Ty.len_part {t x:Ty} (h:x∈t.ps):x.txt.length < t.txt.length:=by
 cases t with
 | k c=>simp [Ty.ps] at h
 | u c a=>simp [Ty.ps] at h; subst h; simp [Ty.txt]; omega
 | w c a b=>simp [Ty.ps] at h; rcases h with rfl | rfl <;> simp [Ty.txt] <;> omega
theorem Ynw:∀ (N:Nat) {S:Nat→Prop} {h:Zaa} {t:Ty} {p:Pt},t.size≤N→t.txt.length≤1048576→Ztc S h t p→Zah pg Zjm [.ptr p] h fun x h'=>x=.str t.txt∧Zbc h.length h h'
 | 0,S,h,t,p,hN,_,_=>by have:=t.size_ps; omega
 | N + 1,S,h,t,p,hN,hB,r=>by
  obtain ⟨i,a,c,e,qs,rfl,si,hi,hrow,hS,hql,hq⟩:=r.parts
  have hps2:t.ps.length≤2:=by cases t <;> simp [Ty.ps]
  apply Zhc.call
  simp only [Zav,Zao hi,Nat.zero_add,List.getElem?_cons_succ,List.getElem?_cons_zero,Zae,Zal]
  refine Zcx (fun hz0=>?_) (fun hz0=>?_)
  ·have:t.ps.length=0:=by omega
   refine ⟨?_,Zbc.refl _ _⟩
   cases t <;> simp [Ty.ps] at this
   rfl
  ·simp only [Zaw]
   generalize hh0:h ++ [Zcd.cells Zbe [] false]=h0
   have s0:Zbc h.length h h0:=by rw [← hh0]; exact Zam
   have i0:=s0.get hi (Own.lt hi)
   have l0:h0.length=h.length + 1:=by rw [← hh0]; simp
   have v0:h0[h.length]?=some (.cells Zbe [] false):=by rw [← hh0]; simp
   simp only [Zao i0,List.getElem?_cons_succ,List.getElem?_cons_zero,Zae]
   refine Zhc.L5ind _ _ _ _ _ _ _ (J:=fun (g:Nat) a3 n3 c3 e3 x22 h'=>x22=(g:Int)∧g≤t.ps.length∧Zbc h.length h h'∧n3=g∧Vec Zbe h' a3 n3 c3 (strs ((t.ps.take g).map Ty.txt))∧(∀ i,a3=some (i,0)→h.length≤i)) (fun g=>t.ps.length - g) ?_ 0 _ _ _ _ _ _
    ⟨rfl,by omega,s0,rfl,Vec.mk1 (by simpa using v0),fun i hi=>by cases hi; omega⟩
   rintro g a3 n3 c3 e3 x22 h' ⟨rfl,hg,hSm,rfl,hv,ha⟩ R hR
   unfold Zhc.L5t
   have i1:=hSm.get hi (Own.lt hi)
   refine Zat (fun hlt=>?_) (fun hge=>?_)
   ·have hg':n3 < t.ps.length:=by omega
    obtain ⟨j,o,rfl,hj,hc⟩:=(hrow.same hSm).at hg'
    have hqg:n3 < qs.length:=by omega
    rw [List.getElem?_map,List.getElem?_eq_getElem hqg] at hc
    simp only [Zav,Int.toNat_natCast,Nat.mul_one,hc,Option.map_some,Zhr]
    have hk:=hq n3 qs[n3] t.ps[n3] (List.getElem?_eq_getElem hqg) (List.getElem?_eq_getElem hg')
    have hm:=List.getElem_mem hg'
    have h1:=Ty.size_part hm
    have h2:=Ty.len_part hm
    refine ⟨by omega,(Ynw N (by omega) (by omega) (hk.same hSm)).mono ?_⟩
    rintro x h2 ⟨rfl,s2⟩
    simp only [Zal,Zaw]
    refine (hv.same s2).push Zxy Ydf Ydo Yea (by simp; omega) rfl (by omega) (fun h4 hl4 hi4 hk4=>?_)
    simp only [Zae]
    rw [Zbl (by omega)]
    have S2:=hSm.cat s2
    have hle:=S2.le
    refine hR (n3 + 1) _ _ _ _ _ _ (by omega) ⟨rfl,by omega,⟨by omega,fun j hj=>?_⟩,rfl,Vec.mk1 ?_,fun i hi=>by cases hi; omega⟩
    ·rw [hk4 j (by omega) fun i hi=>by have:=ha i hi; omega]; exact S2.eq j hj
    ·rw [hi4,List.take_succ_eq_append_getElem hg',List.map_append,Yey]; rfl
   ·apply Zhc.A5x0i
    have:n3=t.ps.length:=by omega
    subst this
    rw [List.take_length] at hv
    have hne:t.ps≠[]:=fun e=>hz0 (by rw [e]; rfl)
    have htx:=t.txt_inter hne
    have hln:=congrArg List.length htx
    simp at hln
    simp only [Zav,Zao i1,Nat.zero_add,List.getElem?_cons_zero,Zal]
    refine ⟨by simp,?_⟩
    refine (Yhy (hv.row (by simp)) (by omega) (by omega)).mono ?_
    rintro v h3 ⟨rfl,rfl⟩
    simp only [Zal]
    refine ⟨Zao i1,by simp; omega,by simp; omega,?_⟩
    exact ⟨by rw [htx],hSm⟩
theorem Zhp.get {S:Nat→Prop} {h:Zaa} {t:Ty} {a:Pt} {vs:List (List Zau)} (hrow:Row h.length h a (t.ps.length * 2) vs.flatten) (hvl:vs.length=t.ps.length) (hp:∀ (k:Nat) (w:List Zau) (x:Ty),vs[k]?=some w→t.ps[k]?=some x→Zhp S h x w) {g:Nat} (hg':g < t.ps.length) :
  ∃ i o a2 c2 e2,a=some (i,o)∧Zbj h (.ptr (some (i,o + g * 2))) 2=some [.int .u8 (t.ps[g].hd:Int),.slice a2 t.ps[g].ps.length c2 e2]∧Zhp S h t.ps[g] [.int .u8 (t.ps[g].hd:Int),.slice a2 t.ps[g].ps.length c2 e2]:=by
 have hgv:g < vs.length:=by omega
 have hk:=hp g vs[g] t.ps[g] (List.getElem?_eq_getElem hgv) (List.getElem?_eq_getElem hg')
 have hz:∀ v∈vs,v.length=2:=fun v hv=>by
  obtain ⟨k,hk,rfl⟩:=List.mem_iff_getElem.1 hv
  exact (hp k vs[k] (t.ps[k]'(by omega)) (List.getElem?_eq_getElem hk) (List.getElem?_eq_getElem (by omega))).len
 have hfl:vs.flatten=Zdn (fun (v:{v:List Zau // v.length=2})=>v.1) (vs.attach.map fun v=>⟨v.1,hz v.1 v.2⟩):=by
  unfold Zdn; rw [List.flatMap_map]; simp
 rw [hfl] at hrow
 obtain ⟨i,o,hk',ha,_,hr,_⟩:=Row.el (enc:=fun (v:{v:List Zau // v.length=2})=>v.1) (fun x=>x.2) hrow (by simp [hvl]) (k:=g) hg' (by omega)
 obtain ⟨a2,c2,e2,hv2⟩:=hk.shape
 rw [hv2] at hk
 exact ⟨i,o,a2,c2,e2,ha,by rw [hr]; simp [hv2],hk⟩
theorem Ykr {g:Nat} (hg:g < 2):sub [40,44] (g:Int) ((g:Int) + 1)=[Zrw g]:=by
 rcases g with _ | _ | g
 ·rfl
 ·rfl
 ·omega
theorem Ty.hd_lt (t:Ty) (h:t.ok=true):t.hd < 256:=by
 have:=Ty.ok_ar h
 unfold arN Zkl Zcr at this
 simp only [Bool.or_eq_true,beq_iff_eq] at this
 split at this
 ·omega
 ·split at this
  ·omega
  ·split at this
   ·omega
   ·omega
def Zpg:Nat→List Ty→List Nat
 | _,[]=>[]
 | g,x :: l=>Zrw g :: (x.txt ++ Zpg (g + 1) l)
theorem Zvt:∀ (l:List Ty) (g k:Nat) (h:k < l.length),Zpg g (l.take (k + 1))=Zpg g (l.take k) ++ Zrw (g + k) :: l[k].txt
 | x :: l,g,0,_=>by simp [Zpg]
 | x :: l,g,k + 1,h=>by
  have:=Zvt l (g + 1) k (by simpa using h)
  simp only [List.take_succ_cons,Zpg,this,List.getElem_cons_succ,List.cons_append,List.append_assoc]
  rw [show g + 1 + k=g + (k + 1) by omega]
theorem Zxq:∀ (l:List Ty) (g k:Nat),(Zpg g (l.take k)).length≤(Zpg g l).length
 | [],g,k=>by simp [Zpg]
 | x :: l,g,0=>by simp [Zpg]
 | x :: l,g,k + 1=>by
  have:=Zxq l (g + 1) k
  simp only [List.take_succ_cons,Zpg,List.length_cons,List.length_append]; omega
theorem Ty.txt_mids (t:Ty):t.txt=t.hd :: Zpg 0 t.ps ++ (if t.ps=[] then [] else [41]):=by
 cases t <;> simp [Ty.ps,Ty.txt,Ty.hd,Zpg,Zrw]
theorem Zpm:∀ (N:Nat) {S:Nat→Prop} {h:Zaa} {t:Ty} {v:List Zau},t.size≤N→t.txt.length≤1048576→t.ok=true→Zhp S h t v→Zah pg Zge [.agg v] h fun x h'=>x=.str t.txt∧Zbc h.length h h'
 | 0,S,h,t,v,hN,_,_,_=>by have:=t.size_ps; omega
 | N + 1,S,h,t,v,hN,hB,hok,r=>by
  obtain ⟨a,c,e,vs,rfl,hrow,hS,hvl,hp⟩:=r.parts
  have hps2:t.ps.length≤2:=by cases t <;> simp [Ty.ps]
  have htx:=t.txt_mids
  have hln:=congrArg List.length htx
  rw [List.length_append,List.length_cons] at hln
  apply Zgy.call
  simp only [Zaw,Zey,Nat.zero_add,List.getElem?_cons_succ,List.getElem?_cons_zero,Zae,Zar]
  generalize hh0:h ++ [Zcd.cells Zai [.int .u8 (t.hd:Int),.slice a t.ps.length c e] false]=h0
  have s0:Zbc h.length h h0:=by rw [← hh0]; exact Zam
  have o0:h0[h.length]?=some (.cells Zai [.int .u8 (t.hd:Int),.slice a t.ps.length c e] false):=by rw [← hh0]; simp
  generalize hh1:h0 ++ [Zcd.cells Yld [.int .u8 (t.hd:Int)] false]=h1
  have s1:Zbc h0.length h0 h1:=by rw [← hh1]; exact Zam
  have o1:=s1.get o0 (Own.lt o0)
  have hro:rowOf h1 (some (h0.length,0)) 1=some [.int .u8 (t.hd:Int)]:=by rw [← hh1]; simp [rowOf,Zbj]
  rw [hro]
  simp only [Zaq,Zsd,chk,decide_true]
  rw [show ((t.hd:Int)).toNat=t.hd from Int.toNat_natCast _]
  refine ⟨⟨by omega,by have:=t.hd_lt hok; omega⟩,?_⟩
  simp only [Zao o1,List.getElem?_cons_succ,List.getElem?_cons_zero,Zae]
  refine Zgy.L3ind _ _ _ _ _ _ _ _ (J:=fun (g:Nat) x3 x13 h'=>x13=(g:Int)∧g≤t.ps.length∧Zbc h.length h h'∧Zbc h1.length h1 h'∧x3=t.hd :: Zpg 0 (t.ps.take g)) (fun g=>t.ps.length - g) ?_ 0 _ _ _ ⟨rfl,by omega,s0.cat s1,Zbc.refl _ _,by simp [Zpg]⟩
  rintro g x3 x13 h' ⟨rfl,hg,hSm,hS1,rfl⟩ R hR
  unfold Zgy.L3t
  have o2:=hS1.get o1 (Own.lt o1)
  refine Zat (fun hlt=>?_) (fun hge=>?_)
  ·have hg':g < t.ps.length:=by omega
   obtain ⟨i,o,a2,c2,e2,rfl,hr,hk⟩:=Zhp.get (hrow.same' hSm) hvl (fun k w x h1 h2=>(hp k w x h1 h2).same hSm) hg'
   simp only [Zav,Int.toNat_natCast,hr,Zaq,Zaf,Zan,Zar,Zae,Zaw]
   rw [Zfk]
   simp only [Zas]
   rw [Yqj]
   simp only [Zaq,Zaf,Zan,Zar,Zae]
   rw [Zbl (by omega),show (((g + 1:Nat):Int))=(g:Int) + 1 by omega,Ykr (by omega)]
   have hm:=List.getElem_mem hg'
   have h1:=Ty.size_part hm
   have h2:=Ty.len_part hm
   have hmt:=Zvt t.ps 0 g hg'
   have hml:(Zpg 0 (t.ps.take (g + 1))).length≤(Zpg 0 t.ps).length:=Zxq _ _ _
   have hmtl:=congrArg List.length hmt
   simp only [List.length_append,List.length_cons,Nat.zero_add] at hmtl
   have s2:Zbc h'.length h' (h' ++ [.cells Zai [.int .u8 (t.ps[g].hd:Int),.slice a2 t.ps[g].ps.length c2 e2] false]):=Zam
   refine ⟨by omega,⟨by omega,by omega,by simp; omega⟩,by simp; omega,(Zpm N (by omega) (by omega) (Ty.ok_ps hok _ hm) (hk.same s2)).mono ?_⟩
   rintro x h3 ⟨rfl,s3⟩
   simp only [Zal]
   refine ⟨by simp; omega,?_⟩
   exact hR (g + 1) _ _ _ (by omega) ⟨by omega,by omega,(hSm.cat s2).cat s3,(hS1.cat s2).cat s3,by rw [hmt,Nat.zero_add]; simp⟩
  ·apply Zgy.A3x0i
   have:g=t.ps.length:=by omega
   subst this
   simp only [Zao o2,Nat.zero_add,List.getElem?_cons_succ,List.getElem?_cons_zero,Zae]
   rw [List.take_length]
   refine Zat (fun hpos=>?_) (fun hneg=>?_)
   ·have hne:t.ps≠[]:=fun e=>by rw [e] at hpos; simp at hpos
    rw [if_neg hne] at htx hln
    refine ⟨by simp; simp at hln; omega,?_⟩
    apply Zgy.J9i
    exact ⟨by rw [htx],hSm⟩
   ·have hne:t.ps=[]:=List.eq_nil_of_length_eq_zero (by omega)
    rw [if_pos hne,List.append_nil] at htx
    apply Zgy.J9i
    exact ⟨by rw [htx],hSm⟩
end Go.Sim

set_option linter.unusedVariables false
namespace Go.Sim
open Go Go.RowKit Go.Maps Go.Sort Go.Shelf Go.Proofs
theorem Ypo (m:Nat):AnyZ.SortsIn Tryz.prog Tryz.sorted82_ren Fence.wide m:=
 ⟨fun blk off cap ss W hH hblk hsz=>callsIn_wide.2 (Tryz.slices_Sort_string blk off cap ss W hH hblk hsz),fun p cap W=>callsIn_wide.2 (Tryz.slices_Sort_string_none p cap W)⟩
theorem Yph {h:Zaa} {m:Option Nat}:Zah pg Zev [.map m] h fun v h'=>v=.fn Zel [.ptr (some (h.length,0))]∧h'=h ++ [.cells Zgw [.map m] false]:=
 Zah.keys ⟨_,Tryz.func83,by kernel_rfl,by kernel_rfl⟩ (fun mb W=>callsIn_wide.1 (AnyZ.keys_in Tryz.keys83 Fence.wide 5 trivial rfl mb W))
set_option maxHeartbeats 1000000 in
theorem Zzy {h:Zaa} {i m:Nat} {es:List ME} {clk:Nat} (hi:h[i]?=some (.cells Zgw [.map (some m)] false)) (hm:h[m]?=some (.map es clk)) {vs:List Nat} (hks:es.map (·.1)=vs.map fun v=>.str [v]) (nd:vs.Nodup) (born:(es.map (·.2.2)).Nodup) (lt:∀ e∈es,e.2.2 < clk) (hl:es.length≤1048576) :
  Zah pg Zll [.fn Zel [.ptr (some (i,0))]] h fun v h'=>∃ us:List Nat,us.Perm vs∧us.Pairwise (·≤·)∧((us=[]∧v=.slice none 0 0 true∧h'=h) ∨ (∃ c,v=.slice (some (h.length,0)) us.length c false∧us.length≤c∧h'=h ++ [.cells Zbe (us.map fun v=>.str [v]) false])):=
 Zah.sortedKeys (M:=Zgw) (K:=Zbe) Tryz.underlying9 (by kernel_rfl) ⟨_,Tryz.func82,by kernel_rfl,by kernel_rfl⟩
  (fun Bm b nn D0 R w hown hBm hcell hmax hbytes=>callsIn_wide.1 (by
   have hseq:SeqGives Fence.wide 2 Tryz.prog 113 #[.pointer (some ⟨Bm,0,none⟩)] encStr (fun ss=>ss.Perm (strKeys D0)) (Maps.size D0) w:=
    AnyZ.keys_gives (ρ:=Tryz.keys83_ren) { Tryz.keys83 with } Fence.wide _ trivial rfl (by omega) Bm b nn D0 w hBm hcell hown
   exact AnyZ.sorted_in Tryz.sorted82 Fence.wide 5 trivial trivial trivial trivial rfl (by omega) (Ypo _) (enters_of Tryz.func112 (by kernel_rfl) rfl) 113 #[.pointer (some ⟨Bm,0,none⟩)] trivial (enters_of Tryz.func113 (by kernel_rfl) rfl) _ _ hmax hbytes _ hseq))
  hi hm hks nd born lt hl
end Go.Sim
