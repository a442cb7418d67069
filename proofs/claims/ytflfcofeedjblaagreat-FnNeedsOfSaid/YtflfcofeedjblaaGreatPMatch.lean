/- A part of the proof of a statement of this seat: see the text that holds the theorem. No condition. -/
import Derived.Test.YtflfcofeedjblaaGreatPTCVars
import Derived.Test.YtflfcofeedjblaaGreatCVars
import Derived.Test.YtflfcofeedjblaaGreatCTy
import Derived.Test.YtflfcofeedjblaaGreatPTCWCls2
import Derived.Test.YtflfcofeedjblaaGreatPTCText
import Derived.Test.YtflfcofeedjblaaGreatNm
import Derived.Test.YtflfcofeedjblaaGreatSimX
import Derived.Test.YtflfcofeedjblaaGreatShelf
set_option linter.unusedVariables false
set_option linter.unusedSimpArgs false
set_option linter.all false
set_option linter.unusedVariables false
set_option linter.unusedSimpArgs false
set_option maxRecDepth 20000
namespace Go.Sim
open Go Go.RowKit

theorem Zez {h:Zaa} {t:TypeId} {cs:List Zau} {o:Nat}:Zag (h ++ [.cells t cs false]) (.ptr (some (h.length,o)))=cs[o]?:=Zao (t:=t) (cs:=cs) (ro:=false) (by simp)
theorem Yck {h:Zaa} {t:TypeId} {cs:List Zau} {n:Nat} (hn:cs.length=n):Zbi (h ++ [.cells t cs false]) (.ptr (some (h.length,0))) n=some cs:=by
 rw [Zeg (show (h ++ [Zcd.cells t cs false])[h.length]?=some (.cells t cs false) by simp) (by omega)]; simp [← hn]
theorem Zam {h:Zaa} {x:Zcd}:Zbc h.length h (h ++ [x]):=Zbc.app (Nat.le_refl _) _
theorem Zsr {h:Zaa} {t:TypeId} {cs vs:List Zau} (hl:cs.length=vs.length):Zbb (h ++ [.cells t cs false]) (.ptr (some (h.length,0))) vs=some (h ++ [.cells t vs false]):=by
 rw [Zbd (show (h ++ [Zcd.cells t cs false])[h.length]?=some (.cells t cs false) by simp) (by omega)]
 simp [putRow,hl]
theorem Zfk {h:Zaa} {t:TypeId} {x y a b:Zau}:Zbb (h ++ [.cells t [x,y] false]) (.ptr (some (h.length,0))) [a,b]=some (h ++ [.cells t [a,b] false]):=Zsr rfl
theorem Ysv {h:Zaa} {t:TypeId} {x y z a b c:Zau}:Zbb (h ++ [.cells t [x,y,z] false]) (.ptr (some (h.length,0))) [a,b,c]=some (h ++ [.cells t [a,b,c] false]):=Zsr rfl
theorem Row.sl {b:Nat} {h:Zaa} {a:Pt} {n k:Nat} {l:List Nd} (r:Row b h a (n * 2) (Zdn eP l)) (hk:k≤n) (hl:l.length=n):Row b h a (k * 2) (Zdn eP (l.take k)):=by
 obtain ⟨h1,h2⟩:=r
 have e:(Zdn eP (l.take k)).length=k * 2:=by rw [Zay Zeb,List.length_take,Nat.min_eq_left (by omega)]
 refine ⟨e,?_⟩
 rcases h2 with h0 | ⟨i,o,t,all,ro,ha,hb,hi,hle,hcs⟩
 ·exact .inl (by omega)
 ·refine .inr ⟨i,o,t,all,ro,ha,hb,hi,by omega,?_⟩
  rw [← Yfm Zeb,hcs,List.take_take,Nat.min_eq_left (by omega)]
theorem Yhv {b:Nat} {h:Zaa} {a:Pt} {n c k:Nat} {e:Bool} {l:List Nd} {K:Zau→Prop} (r:Row b h a (n * 2) (Zdn eP l)) (hl:l.length=n) (hk:k≤n) (hc:n≤c) {z:Int} (hz:z=k)
  (hK:∀ a' c' e',Row b h a' (k * 2) (Zdn eP (l.take k))→k≤c'→K (.slice a' k c' e')):Zlr a n c e 2 none (some (.int .i64 z)) none K:=by
 subst hz
 simp only [Zlr,Zll]
 refine ⟨by omega,?_⟩
 split
 ·have h0:n=0:=by
   obtain ⟨h1,h2⟩:=r
   rcases h2 with h2 | ⟨i,o,t,all,ro,ha,_⟩
   ·omega
   ·cases ha
  have hk0:k=0:=by omega
  subst hk0
  exact ⟨⟨by trivial,by simp,.inl (by trivial)⟩,hK _ _ _ (by simpa using Row.nil) (by omega)⟩
 ·rename_i i o
  refine ⟨fun hlt=>?_,fun hlt=>?_⟩
  ·have e2:((k:Int) - 0).toNat=k:=by omega
   have e3:o + Int.toNat 0 * 2=o:=by simp
   have e4:((c:Int) - 0).toNat=c:=by omega
   rw [e2,e3,e4]
   exact hK _ _ _ (r.sl hk hl) (by omega)
  ·have hk0:k=0:=by omega
   subst hk0
   exact hK _ _ _ (by simpa using Row.nil) (by omega)

theorem Yfi {h:Zaa} {x:Nd} {j:Nat} {c:List Nat} (hj:Zag h (.ptr (some (j,0)))=some (.str c)) (hjl:j < h.length) :
  Zah pg Zdi [.agg [.str x.1,.str x.2],.ptr (some (j,0))] h fun v h'=>v=.bool (decide (x.1=c))∧Zbc h.length h h':=by
 apply Zqa.call
 simp only [Zaw,Zez,List.getElem?_cons_zero,Zal]
 have:=(Zam (h:=h) (x:=.cells Zbf [.str x.1,.str x.2] false)).cell hjl hj
 rw [this]
 exact ⟨rfl,Zam⟩
theorem Yfp {h:Zaa} {a:Pt} {n c:Nat} {e:Bool} {cs:List Nd} {j:Nat} {s:List Nat} (r:Row h.length h a (n * 2) (Zdn eP cs)) (hn:n≤4611686018427387904) (hj:Zag h (.ptr (some (j,0)))=some (.str s)) (hjl:j < h.length) :
  Zah pg Zdv [.slice a n c e,.fn Zdi [.ptr (some (j,0))]] h fun v h'=>(∃ z:Int,v=.int .i64 z∧decide (z ≥ 0)=Zga cs s)∧Zbc h.length h h':=by
 have hl:cs.length=n:=by have:=r.1; rw [Zay Zeb] at this; omega
 apply Zbr.call
 refine Zbr.L2ind _ _ _ _ _ _ _ (J:=fun (g:Nat) x8 h'=>x8=(g:Int)∧g≤n∧Zbc h.length h h'∧Zga (cs.take g) s=false) (fun g=>n - g) ?_ 0 _ _ ⟨rfl,by omega,Zbc.refl _ _,rfl⟩
 rintro g x8 h' ⟨rfl,hg,hS,hk⟩ R hR
 unfold Zbr.L2t
 refine Zat (fun hlt=>?_) (fun hge=>?_)
 ·obtain ⟨i,o,hgl,rfl,_,hr,_⟩:=(r.same hS).pr (k:=g) (by omega)
  simp only [Zav,Int.toNat_natCast,hr,Zaq,Zaf,Zan,Zal]
  refine ⟨by omega,(Yfi (x:=cs[g]) (hS.cell hjl hj) (by have:=hS.le; omega)).mono ?_⟩
  rintro v h2 ⟨rfl,s2⟩
  simp only [Zap]
  have hS2:=hS.trans (s2.mono hS.le)
  refine Zat (fun he=>?_) (fun he=>?_)
  ·refine ⟨⟨_,rfl,?_⟩,hS2⟩
   have:Zga cs s=true:=by unfold Zga; rw [List.any_eq_true]; exact ⟨_,List.getElem_mem hgl,by simpa using he⟩
   rw [this]; simp
  ·rw [Zbl (by omega)]
   exact hR (g + 1) _ _ (by omega) ⟨rfl,by omega,hS2,by rw [Zyy hgl,hk]; simp [he]⟩
 ·apply Zbr.A2x0i
  have:g=n:=by omega
  subst this
  rw [List.take_of_length_le (by omega)] at hk
  exact ⟨⟨_,rfl,by rw [hk]; rfl⟩,hS⟩
theorem Zuc {h:Zaa} {a:Pt} {n c:Nat} {e:Bool} {cs:List Nd} {s:List Nat} (r:Row h.length h a (n * 2) (Zdn eP cs)) (hn:n≤4611686018427387904) :
  Zah pg Zhu [.slice a n c e,.str s] h fun v h'=>v=.bool (Zga cs s)∧Zbc h.length h h':=by
 apply Zwf.call
 simp only [Zaw]
 apply Zdm.call
 have s1:Zbc h.length h (h ++ [.cells Zbe [.str s] false]):=Zam
 refine (Yfp (r.same' s1) hn (s:=s) (by rw [Zez]; rfl) (by simp)).mono ?_
 rintro v h2 ⟨⟨z,rfl,hz⟩,s2⟩
 simp only [Zar,Zap]
 exact ⟨by rw [hz],s1.trans (s2.mono s1.le)⟩
theorem Zpr {h:Zaa} {a a1:Pt} {n c n1 c1:Nat} {e e1:Bool} {cs:List Nd} {s:List Nat} (r:Row h.length h a (n * 2) (Zdn eP cs)) (hn:n≤4611686018427387904) :
  Zah pg Zgi [.agg [.slice a n c e,.slice a1 n1 c1 e1],.str s] h fun v h'=>v=.int .i64 (Yfk cs s)∧Zbc h.length h h':=by
 have hl:cs.length=n:=by have:=r.1; rw [Zay Zeb] at this; omega
 apply Zjb.call
 simp only [Zaw,Zez,Nat.add_zero,List.getElem?_cons_zero,Zae]
 have s1:Zbc h.length h (h ++ [.cells Zab [.slice a n c e,.slice a1 n1 c1 e1] false]):=Zam
 refine Zjb.L2ind _ _ _ _ _ _ _ (J:=fun (g:Nat) x10 h'=>x10=(g:Int)∧g≤n∧Zbc h.length h h'∧Zga (cs.take g) s=false) (fun g=>n - g) ?_ 0 _ _ ⟨rfl,by omega,s1,rfl⟩
 rintro g x8 h' ⟨rfl,hg,hS,hk⟩ R hR
 unfold Zjb.L2t
 refine Zat (fun hlt=>?_) (fun hge=>?_)
 ·obtain ⟨i,o,hgl,rfl,_,hr,_⟩:=(r.same hS).pr (k:=g) (by omega)
  simp only [Zav,Int.toNat_natCast,hr,Zaq,Zaf,Zan,Zal,Zaw]
  rw [Zfk]
  simp only [Zas,Zez,Nat.add_zero,List.getElem?_cons_zero,Zal]
  refine ⟨by omega,?_⟩
  have hS2:Zbc h.length h (h' ++ [.cells Zbf [.str cs[g].1,.str cs[g].2] false]):=hS.trans (Zbc.app hS.le _)
  refine Zat (fun he=>?_) (fun he=>?_)
  ·refine ⟨?_,hS2⟩
   have hkn:Zga cs s=true:=by unfold Zga; rw [List.any_eq_true]; exact ⟨_,List.getElem_mem hgl,by simpa using he⟩
   unfold Yfk
   rw [hkn,if_pos rfl]
   congr 2
   symm
   rw [List.findIdx_eq hgl]
   refine ⟨by simpa using he,fun j hj=>?_⟩
   unfold Zga at hk
   rw [List.any_eq_false] at hk
   have:=hk cs[j] (List.mem_take_iff_getElem.2 ⟨j,by omega,rfl⟩)
   simpa using this
  ·rw [Zbl (by omega)]
   exact hR (g + 1) _ _ (by omega) ⟨rfl,by omega,hS2,by rw [Zyy hgl,hk]; simp [he]⟩
 ·apply Zjb.A2x0i
  have:g=n:=by omega
  subst this
  rw [List.take_of_length_le (by omega)] at hk
  exact ⟨by unfold Yfk; rw [hk]; rfl,hS⟩

theorem Yni {s:List Nat} {g:Nat} {z:Int} (hg:g < s.length) (hz:z=((g + 1:Nat):Int)):sub s (g:Int) z=[s[g]]:=by
 subst hz
 simp only [sub,Int.toNat_natCast]
 rw [List.take_succ_eq_append_getElem hg,List.drop_append_of_le_length (by simp; omega),List.drop_of_length_le (by rw [List.length_take]; exact Nat.min_le_left _ _),List.nil_append]
theorem Zug {g:Nat} (hg:0 < g) (hn:g≤9223372036854775807):IntKind.wrap .i64 ((g:Int) - 1)=((g - 1:Nat):Int):=by rw [IntWalk.i64_in _ (by omega)]; omega
theorem Yhs {cs:List Nd} {s:List Nat} {g:Nat} (hg:g < s.length):Zzp cs s g=(Zga cs [s[g]] && (g == 0 || decide (s.getD (g - 1) 0 < s[g]))):=by unfold Zzp; rw [Zfd hg]
theorem Yhf {cs:List Nd} {g:Nat} (hg:g < cs.length):Zzt cs g=(Zup cs[g].1 && (g == 0 || Zeq (cs.getD (g - 1) ([],[])).1 cs[g].1) && Yef (cs.take g) cs[g].2):=by unfold Zzt; rw [Zfd hg]
theorem Zlp {cs:List Nd} {g:Nat} (hg:g < cs.length) (h:Zzt cs g=false):Zkg cs=false:=by unfold Zkg; rw [Zkp hg h]; rfl
theorem Zwg {h:Zaa} {a a1:Pt} {n c n1 c1:Nat} {e e1:Bool} {cs:List Nd} (r:Row h.length h a (n * 2) (Zdn eP cs)) (hc:n≤c) (hn:n≤1048576) (hs:∀ p∈cs,p.2.length≤1048576) :
  Zah pg Zjr [.agg [.slice a n c e,.slice a1 n1 c1 e1]] h fun v h'=>v=.bool (Zkg cs)∧Zbc h.length h h':=by
 have hl:cs.length=n:=by have:=r.1; rw [Zay Zeb] at this; omega
 apply Zdj.call
 simp only [Zaw,Zez,Nat.add_zero,List.getElem?_cons_zero,Zae]
 have s1:Zbc h.length h (h ++ [.cells Zab [.slice a n c e,.slice a1 n1 c1 e1] false]):=Zam
 have hw:(h ++ [Zcd.cells Zab [.slice a n c e,.slice a1 n1 c1 e1] false])[h.length]?=some (.cells Zab [.slice a n c e,.slice a1 n1 c1 e1] false):=by simp
 refine Zdj.L2ind _ _ _ _ _ _ _ _ (J:=fun (g:Nat) x9 h'=>x9=(g:Int)∧g≤n∧Zbc h.length h h'∧h'[h.length]?=some (.cells Zab [.slice a n c e,.slice a1 n1 c1 e1] false)∧(List.range g).all (Zzt cs)=true) (fun g=>n - g) ?_ 0 _ _ ⟨rfl,by omega,s1,hw,rfl⟩
 rintro g x9 h' ⟨rfl,hg,hS,hW,hk⟩ R hR
 unfold Zdj.L2t
 refine Zat (fun hlt=>?_) (fun hge=>?_)
 ·obtain ⟨i,o,hgl,rfl,hil,hr,_⟩:=(r.same hS).pr (k:=g) (by omega)
  simp only [Zav,Int.toNat_natCast,hr,Zaq,Zaf,Zan,Zal,Zaw]
  rw [Zfk]
  simp only [Zas,Zez,Nat.add_zero,List.getElem?_cons_zero,Zal]
  have hS2:Zbc h.length h (h' ++ [.cells Zbf [.str cs[g].1,.str cs[g].2] false]):=hS.trans (Zbc.app hS.le _)
  refine ⟨by omega,(Yjk _).mono ?_⟩
  rintro v h2 ⟨rfl,rfl⟩
  simp only [Zap,true_and]
  have hcl:=Yhf hgl
  have hle:=hS2.le
  have hWl:=Own.lt hW
  have hW2:(h' ++ [.cells Zbf [.str cs[g].1,.str cs[g].2] false])[h.length]?=some (.cells Zab [.slice (some (i,o)) n c e,.slice a1 n1 c1 e1] false):=Zgl hW
  have hcell:∀ o',Zag (h' ++ [.cells Zbf [.str cs[g].1,.str cs[g].2] false]) (.ptr (some (h'.length,o')))=([.str cs[g].1,.str cs[g].2]:List Zau)[o']?:=fun o'=>Zez
  -- the classes above
  have key:(Zup cs[g].1 && (g == 0 || Zeq (cs.getD (g - 1) ([],[])).1 cs[g].1))=true→Zdj.J6 (fun v h'=>v=.bool (Zkg cs)∧Zbc h.length h h') R h'.length 0 h.length 0 (g:Int) (some (i,o)) n c e (n:Int) (g:Int) (h' ++ [.cells Zbf [.str cs[g].1,.str cs[g].2] false]):=by
   intro hpre
   rw [hpre,Bool.true_and] at hcl
   apply Zdj.J6i
   rw [hcell]
   simp only [Nat.zero_add,List.getElem?_cons_succ,List.getElem?_cons_zero,Zal]
   have hsl:=hs cs[g] (List.getElem_mem hgl)
   refine Zdj.L7ind _ _ _ _ _ _ _ _ _ _ _ _ _ _ (J:=fun (q:Nat) x37 h3=>x37=(q:Int)∧q≤cs[g].2.length∧Zbc h.length h h3∧h3[h.length]?=some (.cells Zab [.slice (some (i,o)) n c e,.slice a1 n1 c1 e1] false)∧h3[h'.length]?=some (.cells Zbf [.str cs[g].1,.str cs[g].2] false)∧(List.range q).all (Zzp (cs.take g) cs[g].2)=true) (fun q=>cs[g].2.length - q) ?_ 0 _ _ ⟨rfl,by omega,hS2,hW2,by simp,rfl⟩
   rintro q x37 h3 ⟨rfl,hq,hS3,hW3,hI3,hk3⟩ R7 hR7
   unfold Zdj.L7t
   refine Zat (fun hlt3=>?_) (fun hge3=>?_)
   ·have hq':q < cs[g].2.length:=by omega
    simp only [Nat.add_zero,Nat.zero_add,Zao hW3,Zao hI3,List.getElem?_cons_succ,List.getElem?_cons_zero,Zae,Zal,true_and]
    refine Yhv (r.same hS3) hl (k:=g) (by omega) hc rfl (fun a' c' e' hrow hc'=>?_)
    simp only [Zae]
    rw [Zbl (by omega),Yni hq' rfl]
    refine ⟨⟨by omega,by omega,by omega⟩,(Zuc (hrow.mono hS3.le) (by omega)).mono ?_⟩
    rintro v h4 ⟨rfl,s4⟩
    have hS4:=hS3.trans (s4.mono hS3.le)
    have hW4:h4[h.length]?=some (.cells Zab [.slice (some (i,o)) n c e,.slice a1 n1 c1 e1] false):=by rw [s4.eq _ (Own.lt hW3)]; exact hW3
    have hI4:h4[h'.length]?=some (.cells Zbf [.str cs[g].1,.str cs[g].2] false):=by rw [s4.eq _ (Own.lt hI3)]; exact hI3
    simp only [Zap,Zao hW3,Zao hW4,Zao hI4,Nat.add_zero,Nat.zero_add,List.getElem?_cons_succ,List.getElem?_cons_zero,Zal,true_and]
    have hsa:=Yhs (cs:=cs.take g) hq'
    have fail:Zzp (cs.take g) cs[g].2 q=false→(Zau.bool false=Zau.bool (Zkg cs)∧Zbc h.length h h4):=fun hf=>⟨by rw [Zlp hgl (by rw [hcl]; unfold Yef; exact Zkp hq' hf)],hS4⟩
    have next:Zzp (cs.take g) cs[g].2 q=true→R7 h.length 0 (g:Int) h'.length 0 (some (i,o)) n c e (n:Int) (g:Int) (cs[g].2.length:Int) (IntKind.wrap .i64 ((q:Int) + 1)) h4:=fun ht=>by
     rw [Zbl (by omega)]
     exact hR7 (q + 1) _ _ (by omega) ⟨rfl,by omega,hS4,hW4,hI4,Zhe hk3 ht⟩
    refine Zbq (fun hb=>fail (by rw [hsa,hb]; rfl)) (fun hb=>?_)
    refine Zat (fun h0=>?_) (fun h0=>?_)
    ·have h0':0 < q:=by omega
     rw [Zug h0' (by omega)]
     refine ⟨⟨by omega,by omega⟩,⟨by omega,by omega⟩,?_⟩
     simp only [Int.toNat_natCast]
     have hd1:cs[g].2.getD q 0=cs[g].2[q]:=Zfd hq'
     have hq0:(q == 0)=false:=by simp; omega
     refine Zat (fun h1=>fail ?_) (fun h1=>Zdj.J11i _ _ _ _ _ _ _ _ _ _ _ _ _ _ _ _ _ (next ?_))
     ·rw [hsa,hb,hq0,← hd1]; simp only [Bool.true_and,Bool.false_or,decide_eq_false_iff_not]; omega
     ·rw [hsa,hb,hq0,← hd1]; simp only [Bool.true_and,Bool.false_or,decide_eq_true_eq]; omega
    ·have:q=0:=by omega
     subst this
     exact Zdj.J11i _ _ _ _ _ _ _ _ _ _ _ _ _ _ _ _ _ (next (by rw [hsa,hb]; rfl))
   ·apply Zdj.A7x2i
    apply Zdj.J12i
    have:q=cs[g].2.length:=by omega
    subst this
    rw [Zbl (by omega)]
    exact hR (g + 1) _ _ (by omega) ⟨rfl,by omega,hS3,hW3,Zhe hk (by rw [hcl]; exact hk3)⟩
  refine Zbq (fun hb=>⟨by rw [Zlp hgl (by rw [hcl,hb]; rfl)],hS2⟩) (fun hb=>?_)
  refine Zat (fun h0=>?_) (fun h0=>?_)
  ·have h0':0 < g:=by omega
   rw [Zao hW2]
   simp only [List.getElem?_cons_zero,Zae]
   rw [Zug h0' (by omega)]
   obtain ⟨i',o',hgl',heq,_,_,hc0,_⟩:=(r.same hS2).pr (k:=g - 1) (by omega)
   cases heq
   simp only [Zav,Int.toNat_natCast,hc0,Zal,Nat.add_zero,Nat.zero_add,hcell,List.getElem?_cons_zero,true_and]
   refine ⟨by omega,?_⟩
   have hg0:(g == 0)=false:=by simp; omega
   have hgd:cs.getD (g - 1) ([],[])=cs[g - 1]:=Zfd hgl'
   refine Zbq (fun hb2=>⟨by rw [Zlp hgl (by rw [hcl,hb,hg0,hgd,hb2]; rfl)],hS2⟩) (fun hb2=>key (by rw [hb,hg0,hgd,hb2]; rfl))
  ·have:g=0:=by omega
   subst this
   exact key (by rw [hb]; rfl)
 ·apply Zdj.A2x0i
  have:g=n:=by omega
  subst this
  have hok:Zkg cs=decide (1≤g∧g≤4):=by unfold Zkg; rw [hl,hk,Bool.true_and]
  simp only [Nat.add_zero,Zao hW,List.getElem?_cons_zero,Zae]
  refine Zat (fun h1=>?_) (fun h1=>?_)
  ·refine ⟨?_,hS⟩
   rw [hok]; congr 1; rw [Bool.eq_iff_iff]; simp; omega
  ·refine ⟨?_,hS⟩
   rw [hok]; congr 1; symm; simp; omega
end Go.Sim

set_option linter.unusedVariables false
set_option linter.unusedSimpArgs false
set_option maxRecDepth 20000
namespace Go.Sim
open Go Go.RowKit
theorem Zwm {h:Zaa} {a:Pt} {n c:Nat} {e:Bool} {cs:List Nd} (r:Row h.length h a (n * 2) (Zdn eP cs)) (hc:n≤c) (hn:n≤1048576) (hs:∀ p∈cs,p.2.length≤1048576) (hb256:∀ p∈cs,∀ b∈p.1,b < 256) :
  Zah pg Zjn [.slice a n c e] h fun v h'=>v=.bool (Zkg cs)∧Zbc h.length h h':=by
 have hl:cs.length=n:=by have:=r.1; rw [Zay Zeb] at this; omega
 apply Zdk.call
 refine Zdk.L2ind _ _ _ _ _ _ _ _ _ _ (J:=fun (g:Nat) x9 h'=>x9=(g:Int)∧g≤n∧Zbc h.length h h'∧(List.range g).all (Zzt cs)=true) (fun g=>n - g) ?_ 0 _ _ ⟨rfl,by omega,Zbc.refl _ _,rfl⟩
 rintro g x9 h' ⟨rfl,hg,hS,hk⟩ R hR
 unfold Zdk.L2t
 refine Zat (fun hlt=>?_) (fun hge=>?_)
 ·obtain ⟨i,o,hgl,rfl,hil,hr,_⟩:=(r.same hS).pr (k:=g) (by omega)
  simp only [Zav,Int.toNat_natCast,hr,Zaq,Zaf,Zan,Zal,Zaw]
  rw [Zfk]
  simp only [Zas,Zez,Nat.add_zero,List.getElem?_cons_zero,Zal]
  have hS2:Zbc h.length h (h' ++ [.cells Zbf [.str cs[g].1,.str cs[g].2] false]):=hS.trans (Zbc.app hS.le _)
  refine ⟨by omega,(Zwn _ (hb256 _ (List.getElem_mem hgl))).mono ?_⟩
  rintro v h2 ⟨rfl,rfl⟩
  simp only [Zap,true_and]
  have hcl:=Yhf hgl
  have hle:=hS2.le
  have hcell:∀ o',Zag (h' ++ [.cells Zbf [.str cs[g].1,.str cs[g].2] false]) (.ptr (some (h'.length,o')))=([.str cs[g].1,.str cs[g].2]:List Zau)[o']?:=fun o'=>Zez
  -- the classes above
  have key:(Zup cs[g].1 && (g == 0 || Zeq (cs.getD (g - 1) ([],[])).1 cs[g].1))=true→Zdk.J6 (fun v h'=>v=.bool (Zkg cs)∧Zbc h.length h h') R h'.length 0 (some (i,o)) n c e (g:Int) (some (i,o)) n c e (n:Int) (g:Int) (h' ++ [.cells Zbf [.str cs[g].1,.str cs[g].2] false]):=by
   intro hpre
   rw [hpre,Bool.true_and] at hcl
   apply Zdk.J6i
   rw [hcell]
   simp only [Nat.zero_add,List.getElem?_cons_succ,List.getElem?_cons_zero,Zal]
   have hsl:=hs cs[g] (List.getElem_mem hgl)
   refine Zdk.L7ind _ _ _ _ _ _ _ _ _ _ _ _ _ _ _ _ (J:=fun (q:Nat) x37 h3=>x37=(q:Int)∧q≤cs[g].2.length∧Zbc h.length h h3∧h3[h'.length]?=some (.cells Zbf [.str cs[g].1,.str cs[g].2] false)∧(List.range q).all (Zzp (cs.take g) cs[g].2)=true) (fun q=>cs[g].2.length - q) ?_ 0 _ _ ⟨rfl,by omega,hS2,by simp,rfl⟩
   rintro q x37 h3 ⟨rfl,hq,hS3,hI3,hk3⟩ R7 hR7
   unfold Zdk.L7t
   refine Zat (fun hlt3=>?_) (fun hge3=>?_)
   ·have hq':q < cs[g].2.length:=by omega
    simp only [Nat.add_zero,Nat.zero_add,Zao hI3,List.getElem?_cons_succ,List.getElem?_cons_zero,Zae,Zal,true_and]
    refine Yhv (r.same hS3) hl (k:=g) (by omega) hc rfl (fun a' c' e' hrow hc'=>?_)
    simp only [Zae]
    rw [Zbl (by omega),Yni hq' rfl]
    refine ⟨⟨by omega,by omega,by omega⟩,(Zpr (hrow.mono hS3.le) (by omega)).mono ?_⟩
    rintro v h4 ⟨rfl,s4⟩
    have hS4:=hS3.trans (s4.mono hS3.le)
    have hI4:h4[h'.length]?=some (.cells Zbf [.str cs[g].1,.str cs[g].2] false):=by rw [s4.eq _ (Own.lt hI3)]; exact hI3
    simp only [Zar,Zxj,Zao hI4,Nat.add_zero,Nat.zero_add,List.getElem?_cons_succ,List.getElem?_cons_zero,Zal,true_and]
    have hsa:=Yhs (cs:=cs.take g) hq'
    have fail:Zzp (cs.take g) cs[g].2 q=false→(Zau.bool false=Zau.bool (Zkg cs)∧Zbc h.length h h4):=fun hf=>⟨by rw [Zlp hgl (by rw [hcl]; unfold Yef; exact Zkp hq' hf)],hS4⟩
    have next:Zzp (cs.take g) cs[g].2 q=true→R7 (some (i,o)) n c e (g:Int) h'.length 0 (some (i,o)) n c e (n:Int) (g:Int) (cs[g].2.length:Int) (IntKind.wrap .i64 ((q:Int) + 1)) h4:=fun ht=>by
     rw [Zbl (by omega)]
     exact hR7 (q + 1) _ _ (by omega) ⟨rfl,by omega,hS4,hI4,Zhe hk3 ht⟩
    refine Zbq (fun hb=>fail (by rw [hsa,hb]; rfl)) (fun hb=>?_)
    refine Zat (fun h0=>?_) (fun h0=>?_)
    ·have h0':0 < q:=by omega
     rw [Zug h0' (by omega)]
     refine ⟨⟨by omega,by omega⟩,⟨by omega,by omega⟩,?_⟩
     simp only [Int.toNat_natCast]
     have hd1:cs[g].2.getD q 0=cs[g].2[q]:=Zfd hq'
     have hq0:(q == 0)=false:=by simp; omega
     refine Zat (fun h1=>fail ?_) (fun h1=>Zdk.J11i _ _ _ _ _ _ _ _ _ _ _ _ _ _ _ _ _ _ _ (next ?_))
     ·rw [hsa,hb,hq0,← hd1]; simp only [Bool.true_and,Bool.false_or,decide_eq_false_iff_not]; omega
     ·rw [hsa,hb,hq0,← hd1]; simp only [Bool.true_and,Bool.false_or,decide_eq_true_eq]; omega
    ·have:q=0:=by omega
     subst this
     exact Zdk.J11i _ _ _ _ _ _ _ _ _ _ _ _ _ _ _ _ _ _ _ (next (by rw [hsa,hb]; rfl))
   ·apply Zdk.A7x2i
    apply Zdk.J12i
    have:q=cs[g].2.length:=by omega
    subst this
    rw [Zbl (by omega)]
    exact hR (g + 1) _ _ (by omega) ⟨rfl,by omega,hS3,Zhe hk (by rw [hcl]; exact hk3)⟩
  refine Zbq (fun hb=>⟨by rw [Zlp hgl (by rw [hcl,hb]; rfl)],hS2⟩) (fun hb=>?_)
  refine Zat (fun h0=>?_) (fun h0=>?_)
  ·have h0':0 < g:=by omega
   rw [Zug h0' (by omega)]
   obtain ⟨i',o',hgl',heq,_,_,hc0,_⟩:=(r.same hS2).pr (k:=g - 1) (by omega)
   cases heq
   simp only [Zav,Int.toNat_natCast,hc0,Zal,Nat.add_zero,Nat.zero_add,hcell,List.getElem?_cons_zero,true_and]
   refine ⟨by omega,?_⟩
   have hg0:(g == 0)=false:=by simp; omega
   have hgd:cs.getD (g - 1) ([],[])=cs[g - 1]:=Zfd hgl'
   refine Zbq (fun hb2=>⟨by rw [Zlp hgl (by rw [hcl,hb,hg0,hgd,hb2]; rfl)],hS2⟩) (fun hb2=>key (by rw [hb,hg0,hgd,hb2]; rfl))
  ·have:g=0:=by omega
   subst this
   exact key (by rw [hb]; rfl)
 ·apply Zdk.A2x0i
  have:g=n:=by omega
  subst this
  have hok:Zkg cs=decide (1≤g∧g≤4):=by unfold Zkg; rw [hl,hk,Bool.true_and]
  refine Zvt.mono ?_
  rintro v h2 ⟨rfl,rfl⟩
  simp only [Zap]
  refine ⟨?_,hS⟩
  rw [hok]; congr 1; rw [Bool.eq_iff_iff]; simp; omega
end Go.Sim

set_option linter.unusedVariables false
set_option linter.unusedSimpArgs false
set_option maxRecDepth 20000
namespace Go.Sim
open Go Go.RowKit

theorem Yro (c:Nat):decide (c∈[120,121,122,88,89,90])=Zcs c:=by rw [Bool.eq_iff_iff]; simp [Zcs,or_assoc]
theorem Ybk {h:Zaa} (s:List Nat):Zah pg Zme [.str s] h fun v h'=>v=.bool (Zla s)∧h'=h:=by
 apply Zwi.call
 match s with
 | []=>exact Zcx (fun h1=>by simp at h1) (fun h1=>⟨rfl,rfl⟩)
 | [c]=>
  refine Zcx (fun h1=>?_) (fun h1=>by simp at h1)
  refine Zon.mono ?_
  rintro v h' ⟨rfl,rfl⟩
  simp only [Zap]
  exact ⟨by rw [Yro]; rfl,by trivial⟩
 | c :: d :: r=>exact Zcx (fun h1=>by simp at h1; omega) (fun h1=>⟨rfl,rfl⟩)
theorem Zrc {h:Zaa} (c:Nat):Zah pg Zgq [.int .u8 (c:Int)] h fun v h'=>v=.bool (Zcs c)∧h'=h:=by
 apply Zpv.call
 refine (Ycb _ c (by simp)).mono ?_
 rintro v h' ⟨rfl,rfl⟩
 simp only [Zar]
 exact ⟨by rw [Yrk],by trivial⟩
noncomputable def Yrc (s v:List Nat):Int:=if Zml s && Zla v then (s.count (v.headD 0):Nat) else -1
theorem Ydd {h:Zaa} (s v:List Nat) (hs:s.length≤1048576):Zah pg Zoa [.str s,.str v] h fun x h'=>x=.int .i64 (Yrc s v)∧Zbc h.length h h':=by
 apply Zfm.call
 refine (Ziq s (by omega) h).mono ?_
 rintro x h1 ⟨rfl,s1⟩
 simp only [Zap]
 refine Zbq (fun hb=>⟨by unfold Yrc; rw [hb]; rfl,s1⟩) (fun hb=>?_)
 match v with
 | []=>exact Zgo (fun _=>⟨by unfold Yrc; rw [hb]; rfl,s1⟩) (fun h1=>by simp at h1)
 | c :: d :: r=>exact Zgo (fun _=>⟨by unfold Yrc; rw [hb]; rfl,s1⟩) (fun h1=>by simp at h1; omega)
 | [c]=>
  refine Zgo (fun h1=>by simp at h1) (fun _=>?_)
  refine ⟨⟨by omega,by simp⟩,?_⟩
  simp only [Int.toNat_zero,List.getD_cons_zero]
  refine (Zrc c).mono ?_
  rintro x h2 ⟨rfl,rfl⟩
  simp only [Zap]
  refine Zbq (fun hv=>⟨by unfold Yrc; rw [hb,show Zla [c]=Zcs c from rfl,hv]; rfl,s1⟩) (fun hv=>?_)
  apply Zfm.J3i
  refine Zfm.L5ind _ _ _ _ (J:=fun (g:Nat) x5 x23 h'=>x23=(g:Int)∧g≤s.length∧x5=((s.take g).count c:Nat)∧h'=h2) (fun g=>s.length - g) ?_ 0 _ _ _ ⟨rfl,by omega,by simp,rfl⟩
  rintro g x5 x23 h' ⟨rfl,hg,rfl,rfl⟩ R hR
  unfold Zfm.L5t
  refine Zat (fun hlt=>?_) (fun hge=>?_)
  ·have hg':g < s.length:=by omega
   refine ⟨⟨by omega,by omega⟩,⟨by omega,by simp⟩,?_⟩
   simp only [Int.toNat_zero,List.getD_cons_zero,Int.toNat_natCast,Zfd hg']
   have hc:=List.count_le_length (a:=c) (l:=s.take g)
   rw [List.length_take] at hc
   have htk:(s.take (g + 1)).count c=(s.take g).count c + if s[g]=c then 1 else 0:=by
    rw [List.take_succ_eq_append_getElem hg',List.count_append]; simp [List.count_cons]
   refine Zcx (fun he=>?_) (fun he=>?_)
   ·apply Zfm.J9i
    rw [Zbl (by omega),Zbl (by omega)]
    exact hR (g + 1) _ _ _ (by omega) ⟨rfl,by omega,by rw [htk,if_pos (by omega)],rfl⟩
   ·apply Zfm.J9i
    rw [Zbl (by omega)]
    exact hR (g + 1) _ _ _ (by omega) ⟨rfl,by omega,by rw [htk,if_neg (by omega)]; rfl,rfl⟩
  ·apply Zfm.A5x0i
   have:g=s.length:=by omega
   subst this
   rw [List.take_length]
   refine ⟨?_,s1⟩
   unfold Yrc
   rw [hb,show Zla [c]=Zcs c from rfl,hv]; rfl
theorem Zsq {h:Zaa} (s:List Nat) (hs:s.length≤1048576):Zah pg Zgd [.str s] h fun v h'=>v=.str (if Zml s=true then Zkw s else [])∧Zbc h.length h h':=by
 apply Zgw.call
 simp only [Zaw]
 have hlist:(h ++ [Zcd.cells Zbe [.str [88],.str [89],.str [90],.str [120],.str [121],.str [122]] false])[h.length]?=some (.cells Zbe [.str [88],.str [89],.str [90],.str [120],.str [121],.str [122]] false):=by simp
 refine Zgw.L3ind _ _ _ _ _ _ _ (J:=fun (g:Nat) x3 x8 h'=>x8=(g:Int)∧g≤6∧Zbc h.length h h'∧h'[h.length]?=some (.cells Zbe [.str [88],.str [89],.str [90],.str [120],.str [121],.str [122]] false)∧x3=if Zml s=true then (Zed.take g).filter fun v=>decide (v∈s) else []) (fun g=>6 - g) ?_ 0 _ _ _
  ⟨rfl,by omega,Zam,hlist,by simp⟩
 rintro g x3 x8 h' ⟨rfl,hg,hS,hl,rfl⟩ R hR
 unfold Zgw.L3t
 refine Zat (fun hlt=>?_) (fun hge=>?_)
 ·have hlt':g < 6:=by omega
  have hc:∃ c,Zed[g]?=some c∧Zcs c=true∧Zag h' (.ptr (some (h.length,0 + (g:Int).toNat * 1)))=some (.str [c]):=by
   rw [Zao hl,Int.toNat_natCast]
   match g,hlt' with
   | 0,_ | 1,_ | 2,_ | 3,_ | 4,_ | 5,_=>exact ⟨_,rfl,rfl,rfl⟩
  obtain ⟨c,hc1,hcv,hc2⟩:=hc
  simp only [Zav,hc2,Zal]
  refine ⟨by omega,(Ydd s [c] hs).mono ?_⟩
  rintro v h2 ⟨rfl,s2⟩
  simp only [Zar]
  have htk:Zed.take (g + 1)=Zed.take g ++ [c]:=by rw [List.take_succ,hc1]; rfl
  have hS2:=hS.trans (s2.mono hS.le)
  have hl2:h2[h.length]?=some (.cells Zbe [.str [88],.str [89],.str [90],.str [120],.str [121],.str [122]] false):=by rw [s2.eq _ (Own.lt hl)]; exact hl
  have hcn:decide (Yrc s [c] > 0)=(Zml s && decide (c∈s)):=by
   unfold Yrc
   rw [show Zla [c]=Zcs c from rfl,hcv]
   cases hb:Zml s with
   | false=>rfl
   | true=>
    simp only [Bool.and_self,if_true,Bool.true_and,List.headD_cons]
    rw [Bool.eq_iff_iff]; simp [List.count_pos_iff]
  have hbd:(if Zml s=true then (Zed.take g).filter fun v=>decide (v∈s) else []).length≤6:=by
   split
   ·exact Nat.le_trans (List.length_filter_le _ _) (by simp; omega)
   ·simp
  rw [hcn]
  refine Zcv (fun hb=>?_) (fun hb=>?_)
  ·simp only [Bool.and_eq_true] at hb
   refine ⟨by simp only [List.length_cons,List.length_nil]; omega,?_⟩
   apply Zgw.J7i
   rw [Zbl (by omega)]
   refine hR (g + 1) _ _ _ (by omega) ⟨rfl,by omega,hS2,hl2,?_⟩
   rw [if_pos hb.1,if_pos hb.1,htk,List.filter_append]; simp [hb.2]
  ·apply Zgw.J7i
   rw [Zbl (by omega)]
   refine hR (g + 1) _ _ _ (by omega) ⟨rfl,by omega,hS2,hl2,?_⟩
   cases ht:Zml s with
   | false=>simp
   | true=>rw [ht,Bool.true_and] at hb; rw [htk,List.filter_append]; simp; simpa using hb
 ·apply Zgw.A3x0i
  have:g=6:=by omega
  subst this
  exact ⟨rfl,hS⟩
theorem Ykp {h:Zaa} (x y:List Nat) (hx:x.length≤1048576) (hy:y.length≤1048576):Zah pg Znz [.str x,.str y] h fun v h'=>v=.bool (x.all fun c=>decide (c∈y))∧h'=h:=by
 apply Zhx.call
 refine Zhx.L2ind _ _ _ _ (J:=fun (g:Nat) x8 h'=>x8=(g:Int)∧g≤x.length∧h'=h∧(x.take g).all (fun c=>decide (c∈y))=true) (fun g=>x.length - g) ?_ 0 _ _ ⟨rfl,by omega,rfl,by simp⟩
 rintro g x8 h' ⟨rfl,hg,rfl,hk⟩ R hR
 unfold Zhx.L2t
 refine Zat (fun hlt=>?_) (fun hge=>?_)
 ·have hg':g < x.length:=by omega
  refine ⟨⟨by omega,by omega⟩,?_⟩
  simp only [Int.toNat_natCast,Zfd hg']
  refine (Ycb y x[g] (by omega)).mono ?_
  rintro v h2 ⟨rfl,rfl⟩
  simp only [Zar]
  have hix:decide (Zvf y x[g] < 0)=!decide (x[g]∈y):=by
   by_cases hm:x[g]∈y
   ·have:=(Yby y x[g]).2 hm
    simp [hm]; omega
   ·rw [Zya hm]; simp [hm]
  rw [hix]
  refine Zbq (fun hb=>⟨by rw [Zqr hg' hb],by trivial⟩) (fun hb=>?_)
  rw [Zbl (by omega)]
  exact hR (g + 1) _ _ (by omega) ⟨rfl,by omega,rfl,Zfr hg' hk hb⟩
 ·apply Zhx.A2x0i
  have:g=x.length:=by omega
  subst this
  rw [List.take_length] at hk
  exact ⟨by rw [hk],by trivial⟩

theorem Yhw {cs:List Nd} {ct tt:List Nat} {ns:List Nd} (h1:Zkg cs=true) (h2:Zga cs ct=true) (h3:Zml tt=true) (h4:tt.length≤20) (h5:Zla tt=false) (h6:ns.length≤3):Zmq cs ((ct,tt),ns)=ns.all (Zjg cs tt):=by
 unfold Zmq; simp [h1,h2,h3,h4,h5,h6]
theorem Zwq {h:Zaa} {a a1 a2:Pt} {n c n1 c1 n2 c2:Nat} {e e1 e2:Bool} {cs ns:List Nd} {ct tt:List Nat} (r:Row h.length h a (n * 2) (Zdn eP cs)) (hc:n≤c) (hn:n≤1048576) (hs:∀ p∈cs,p.2.length≤1048576)
  (r2:Row h.length h a2 (n2 * 2) (Zdn eP ns)) (hn2:n2≤1048576) (hns:∀ p∈ns,p.2.length≤1048576) (htt:tt.length≤1048576) :
  Zah pg Ziy [.agg [.slice a n c e,.slice a1 n1 c1 e1],.agg [.str ct,.str tt,.slice a2 n2 c2 e2]] h fun v h'=>v=.bool (Zmq cs ((ct,tt),ns))∧Zbc h.length h h':=by
 have hl:cs.length=n:=by have:=r.1; rw [Zay Zeb] at this; omega
 have hl2:ns.length=n2:=by have:=r2.1; rw [Zay Zeb] at this; omega
 apply Zcy.call
 simp only [Zaw]
 generalize hh0:h ++ [Zcd.cells Zab [.slice a n c e,.slice a1 n1 c1 e1] false]=h0
 generalize hh1:h0 ++ [Zcd.cells Zac [.str ct,.str tt,.slice a2 n2 c2 e2] false]=h1
 have s0:Zbc h.length h h0:=by rw [← hh0]; exact Zam
 have s01:Zbc h0.length h0 h1:=by rw [← hh1]; exact Zam
 have s1:Zbc h.length h h1:=s0.trans (s01.mono s0.le)
 have hl0:h0.length=h.length + 1:=by rw [← hh0]; simp
 have hl1:h1.length=h.length + 2:=by rw [← hh1]; simp [hl0]
 have w1:h1[h.length]?=some (.cells Zab [.slice a n c e,.slice a1 n1 c1 e1] false):=by rw [← hh1,Ycg (by omega),← hh0]; simp
 have i1:h1[h0.length]?=some (.cells Zac [.str ct,.str tt,.slice a2 n2 c2 e2] false):=by rw [← hh1]; simp
 rw [Zeg w1 (by simp)]
 simp only [List.drop_zero,List.take_succ_cons,List.take_zero,Zaq,Zaf,Zae,Zan]
 refine (Zwg (r.same' s1) hc hn hs).mono ?_
 rintro v h2 ⟨rfl,s2⟩
 have S2:Zbc h.length h h2:=s1.trans (s2.mono (by omega))
 have w2:h2[h.length]?=some (.cells Zab [.slice a n c e,.slice a1 n1 c1 e1] false):=by rw [s2.eq _ (by omega)]; exact w1
 have i2:h2[h0.length]?=some (.cells Zac [.str ct,.str tt,.slice a2 n2 c2 e2] false):=by rw [s2.eq _ (by omega)]; exact i1
 simp only [Zap]
 refine Zbq (fun hb=>⟨by unfold Zmq; rw [hb]; rfl,S2⟩) (fun b1=>?_)
 simp only [Nat.add_zero,Nat.zero_add,Zao w2,Zao i2,List.getElem?_cons_succ,List.getElem?_cons_zero,Zae,Zal]
 refine (Zuc (r.same' S2) (by omega)).mono ?_
 rintro v h3 ⟨rfl,s3⟩
 have hle2:=s2.le
 have S3:Zbc h.length h h3:=S2.trans (s3.mono S2.le)
 have i3:h3[h0.length]?=some (.cells Zac [.str ct,.str tt,.slice a2 n2 c2 e2] false):=by rw [s3.eq _ (by omega)]; exact i2
 have w3:h3[h.length]?=some (.cells Zab [.slice a n c e,.slice a1 n1 c1 e1] false):=by rw [s3.eq _ (by omega)]; exact w2
 simp only [Zap]
 refine Zbq (fun hb=>⟨by unfold Zmq; rw [b1,hb]; rfl,S3⟩) (fun b2=>?_)
 simp only [Zao i3,List.getElem?_cons_succ,List.getElem?_cons_zero,Zal]
 refine (Zka tt h3).mono ?_
 rintro v h4 ⟨rfl,s4⟩
 have hle3:=s3.le
 have S4:Zbc h.length h h4:=S3.trans (s4.mono S3.le)
 have i4:h4[h0.length]?=some (.cells Zac [.str ct,.str tt,.slice a2 n2 c2 e2] false):=by rw [s4.eq _ (by omega)]; exact i3
 have w4:h4[h.length]?=some (.cells Zab [.slice a n c e,.slice a1 n1 c1 e1] false):=by rw [s4.eq _ (by omega)]; exact w3
 simp only [Zap]
 refine Zbq (fun hb=>⟨by unfold Zmq; rw [b1,b2,hb]; rfl,S4⟩) (fun b3=>?_)
 simp only [Zao i4,List.getElem?_cons_succ,List.getElem?_cons_zero,Zal]
 refine Zat (fun hb=>⟨by unfold Zmq; rw [b1,b2,b3]; simp [show ¬ tt.length≤20 by omega],S4⟩) (fun b4=>?_)
 refine (Ybk tt).mono ?_
 rintro v h5 ⟨rfl,rfl⟩
 simp only [Zap]
 refine Zcv (fun hb=>⟨by unfold Zmq; rw [hb]; simp,S4⟩) (fun b5=>?_)
 simp only [Zao i4,List.getElem?_cons_succ,List.getElem?_cons_zero,Zae]
 refine Zat (fun hb=>⟨by unfold Zmq; simp [show ¬ ns.length≤3 by omega],S4⟩) (fun b6=>?_)
 rw [Yhw b1 b2 b3 (by omega) b5 (by omega)]
 apply Zcy.J3i
 simp only [Nat.zero_add,Zao i4,List.getElem?_cons_succ,List.getElem?_cons_zero,Zae]
 have hle4:=s4.le
 refine Zcy.L4ind _ _ _ _ _ _ _ _ _ _ (J:=fun (g:Nat) x50 h'=>x50=(g:Int)∧g≤n2∧Zbc h5.length h5 h'∧(ns.take g).all (Zjg cs tt)=true) (fun g=>n2 - g) ?_ 0 _ _ ⟨rfl,by omega,Zbc.refl _ _,rfl⟩
 rintro g x50 h' ⟨rfl,hg,hS,hk⟩ R hR
 have SS:Zbc h.length h h':=S4.trans (hS.mono S4.le)
 unfold Zcy.L4t
 refine Zat (fun hlt=>?_) (fun hge=>?_)
 ·obtain ⟨i,o,hgl,rfl,hil,hr,_⟩:=(r2.same SS).pr (k:=g) (by omega)
  simp only [Zav,Int.toNat_natCast,hr,Zaq,Zaf,Zan,Zal,Zaw]
  rw [Zfk]
  have hlh:=hS.le
  generalize hq:h' ++ [Zcd.cells Zad [.str ns[g].1,.str ns[g].2] false]=hq'
  have sq:Zbc h'.length h' hq':=by rw [← hq]; exact Zam
  have hql:hq'.length=h'.length + 1:=by rw [← hq]; simp
  have nq:hq'[h'.length]?=some (.cells Zad [.str ns[g].1,.str ns[g].2] false):=by rw [← hq]; simp
  have wq:hq'[h.length]?=some (.cells Zab [.slice a n c e,.slice a1 n1 c1 e1] false):=by rw [sq.eq _ (by omega),hS.eq _ (by omega)]; exact w4
  have iq:hq'[h0.length]?=some (.cells Zac [.str ct,.str tt,.slice (some (i,o)) n2 c2 e2] false):=by rw [sq.eq _ (by omega),hS.eq _ (by omega)]; exact i4
  simp only [Zas,Nat.add_zero,Nat.zero_add,Zao wq,Zao nq,List.getElem?_cons_succ,List.getElem?_cons_zero,Zae,Zal]
  have Sq:Zbc h.length h hq':=SS.trans (sq.mono SS.le)
  refine ⟨by omega,(Zuc (r.same' Sq) (by omega)).mono ?_⟩
  rintro v k3 ⟨rfl,t3⟩
  have T3:=Sq.trans (t3.mono Sq.le)
  have n3:k3[h'.length]?=some (.cells Zad [.str ns[g].1,.str ns[g].2] false):=by rw [t3.eq _ (by omega)]; exact nq
  simp only [Zap]
  have fail:∀ hx,Zbc h.length h hx→Zjg cs tt ns[g]=false→(Zau.bool false=Zau.bool (ns.all (Zjg cs tt))∧Zbc h.length h hx):=fun hx hs hf=>⟨by rw [Zqr hgl hf],hs⟩
  refine Zbq (fun hb=>fail _ T3 (by unfold Zjg; rw [hb]; rfl)) (fun m1=>?_)
  simp only [Zao n3,List.getElem?_cons_succ,List.getElem?_cons_zero,Zal]
  refine (Zka _ k3).mono ?_
  rintro v k4 ⟨rfl,t4⟩
  have ht3:=t3.le
  have T4:=T3.trans (t4.mono T3.le)
  have n4:k4[h'.length]?=some (.cells Zad [.str ns[g].1,.str ns[g].2] false):=by rw [t4.eq _ (by omega)]; exact n3
  simp only [Zap]
  refine Zbq (fun hb=>fail _ T4 (by unfold Zjg; rw [m1,hb]; rfl)) (fun m2=>?_)
  simp only [Zao n4,List.getElem?_cons_succ,List.getElem?_cons_zero,Zal]
  refine Zat (fun hb=>fail _ T4 (by unfold Zjg; simp [show ¬ ns[g].2.length≤20 by omega])) (fun m3=>?_)
  apply Zcy.J8i
  simp only [Nat.zero_add,Zao n4,List.getElem?_cons_succ,List.getElem?_cons_zero,Zal]
  refine (Ymn _ k4).mono ?_
  rintro v k5 ⟨t5,av,nv,cv,ev,rfl,hrow⟩
  simp only [Zae]
  have ht4:=t4.le
  have ht5:=t5.le
  have T5:=T4.trans (t5.mono T4.le)
  have hvl:(Zkw ns[g].2).length=nv:=by have:=hrow.1; simpa using this
  have hv6:(Zkw ns[g].2).length≤6:=List.length_filter_le _ _
  have hni:Zjg cs tt ns[g]=(Zkw ns[g].2).all fun v=>decide (v∈tt):=by unfold Zjg; rw [m1,m2]; simp [show ns[g].2.length≤20 by omega]
  have i5:k5[h0.length]?=some (.cells Zac [.str ct,.str tt,.slice (some (i,o)) n2 c2 e2] false):=by rw [t5.eq _ (by omega),t4.eq _ (by omega),t3.eq _ (by omega)]; exact iq
  refine Zcy.L9ind _ _ _ _ _ _ _ _ _ _ _ _ _ _ _ _ _ (J:=fun (q:Nat) x76 h6=>x76=(q:Int)∧q≤nv∧h6=k5∧((Zkw ns[g].2).take q).all (fun v=>decide (v∈tt))=true) (fun q=>nv - q) ?_ 0 _ _ ⟨rfl,by omega,rfl,rfl⟩
  rintro q x76 h6 ⟨rfl,hq6,rfl,hk6⟩ R9 hR9
  unfold Zcy.L9t
  refine Zat (fun hlt6=>?_) (fun hge6=>?_)
  ·obtain ⟨iv,ov,rfl,_,hcv⟩:=hrow.at (k:=q) (by omega)
   rw [Ygy,List.getElem?_map,List.getElem?_eq_getElem (show q < (Zkw ns[g].2).length by omega)] at hcv
   simp only [Option.map_some] at hcv
   simp only [Zav,Int.toNat_natCast,Nat.mul_one,hcv,Zal,Nat.add_zero,Nat.zero_add,Zao i5,List.getElem?_cons_succ,List.getElem?_cons_zero,one]
   refine ⟨by omega,Zon.mono ?_⟩
   rintro v k7 ⟨rfl,rfl⟩
   simp only [Zap]
   refine Zbq (fun hb=>fail _ T5 (by rw [hni]; exact Zqr (by omega) hb)) (fun d1=>?_)
   rw [Zbl (by omega)]
   exact hR9 (q + 1) _ _ (by omega) ⟨rfl,by omega,rfl,Zfr (by omega) hk6 d1⟩
  ·apply Zcy.A9x2i
   apply Zcy.J14i
   have:q=nv:=by omega
   subst this
   rw [List.take_of_length_le (by omega)] at hk6
   rw [Zbl (by omega)]
   refine hR (g + 1) _ _ (by omega) ⟨rfl,by omega,?_,Zfr hgl hk (by rw [hni]; exact hk6)⟩
   exact hS.trans ((sq.mono hS.le).trans ((t3.mono (by omega)).trans ((t4.mono (by omega)).trans (t5.mono (by omega)))))
 ·apply Zcy.A4x0i
  have:g=n2:=by omega
  subst this
  rw [List.take_of_length_le (by omega)] at hk
  exact ⟨by rw [hk],SS⟩
end Go.Sim

set_option linter.unusedVariables false
set_option linter.unusedSimpArgs false
set_option maxRecDepth 20000
namespace Go.Sim
open Go Go.RowKit

theorem Yfa (x t:List Nat):((Zkw x).all fun c=>decide (c∈Zkw t))=(Zkw x).all fun c=>decide (c∈t):=by
 rw [Bool.eq_iff_iff,List.all_eq_true,List.all_eq_true]
 constructor
 ·intro h c hc
  have:=h c hc
  simp only [Zkw,decide_eq_true_eq,List.mem_filter] at this ⊢
  exact this.2
 ·intro h c hc
  have h1:=h c hc
  have hv:c∈Zed:=(List.mem_filter.1 hc).1
  simp only [Zkw,decide_eq_true_eq,List.mem_filter] at h1 ⊢
  exact ⟨hv,h1⟩
theorem Zvo {h:Zaa} {a a1 a2:Pt} {n c n1 c1 n2 c2:Nat} {e e1 e2:Bool} {cs ns:List Nd} {ct tt:List Nat} (r:Row h.length h a (n * 2) (Zdn eP cs)) (hc:n≤c) (hn:n≤1048576) (hs:∀ p∈cs,p.2.length≤1048576) (hb256:∀ p∈cs,∀ b∈p.1,b < 256)
  (r2:Row h.length h a2 (n2 * 2) (Zdn eP ns)) (hn2:n2≤1048576) (hns:∀ p∈ns,p.2.length≤1048576) (htt:tt.length≤1048576) :
  Zah pg Zit [.agg [.slice a n c e,.slice a1 n1 c1 e1],.agg [.str ct,.str tt,.slice a2 n2 c2 e2]] h fun v h'=>v=.bool (Zmq cs ((ct,tt),ns))∧Zbc h.length h h':=by
 have hl:cs.length=n:=by have:=r.1; rw [Zay Zeb] at this; omega
 have hl2:ns.length=n2:=by have:=r2.1; rw [Zay Zeb] at this; omega
 apply Zei.call
 simp only [Zaw]
 generalize hh0:h ++ [Zcd.cells Zab [.slice a n c e,.slice a1 n1 c1 e1] false]=h0
 generalize hh1:h0 ++ [Zcd.cells Zac [.str ct,.str tt,.slice a2 n2 c2 e2] false]=h1
 have s0:Zbc h.length h h0:=by rw [← hh0]; exact Zam
 have s01:Zbc h0.length h0 h1:=by rw [← hh1]; exact Zam
 have s1:Zbc h.length h h1:=s0.trans (s01.mono s0.le)
 have hl0:h0.length=h.length + 1:=by rw [← hh0]; simp
 have hl1:h1.length=h.length + 2:=by rw [← hh1]; simp [hl0]
 have w1:h1[h.length]?=some (.cells Zab [.slice a n c e,.slice a1 n1 c1 e1] false):=by rw [← hh1,Ycg (by omega),← hh0]; simp
 have i1:h1[h0.length]?=some (.cells Zac [.str ct,.str tt,.slice a2 n2 c2 e2] false):=by rw [← hh1]; simp
 simp only [Nat.add_zero,Zao w1,List.getElem?_cons_zero,Zae]
 refine (Zwm (r.same' s1) hc hn hs hb256).mono ?_
 rintro v h2 ⟨rfl,s2⟩
 have S2:Zbc h.length h h2:=s1.trans (s2.mono (by omega))
 have w2:h2[h.length]?=some (.cells Zab [.slice a n c e,.slice a1 n1 c1 e1] false):=by rw [s2.eq _ (by omega)]; exact w1
 have i2:h2[h0.length]?=some (.cells Zac [.str ct,.str tt,.slice a2 n2 c2 e2] false):=by rw [s2.eq _ (by omega)]; exact i1
 simp only [Zap]
 refine Zbq (fun hb=>⟨by unfold Zmq; rw [hb]; rfl,S2⟩) (fun b1=>?_)
 rw [Zeg w2 (by simp)]
 simp only [List.drop_zero,List.take_succ_cons,List.take_zero,Zaq,Zaf,Zan,Nat.zero_add,Zao i2,List.getElem?_cons_succ,List.getElem?_cons_zero,Zae,Zal]
 refine (Zpr (r.same' S2) (by omega)).mono ?_
 rintro v h3 ⟨rfl,s3⟩
 have hle2:=s2.le
 have S3:Zbc h.length h h3:=S2.trans (s3.mono S2.le)
 have i3:h3[h0.length]?=some (.cells Zac [.str ct,.str tt,.slice a2 n2 c2 e2] false):=by rw [s3.eq _ (by omega)]; exact i2
 have w3:h3[h.length]?=some (.cells Zab [.slice a n c e,.slice a1 n1 c1 e1] false):=by rw [s3.eq _ (by omega)]; exact w2
 simp only [Zar,Zxj]
 refine Zbq (fun hb=>⟨by unfold Zmq; rw [b1,hb]; rfl,S3⟩) (fun b2=>?_)
 simp only [Zao i3,List.getElem?_cons_succ,List.getElem?_cons_zero,Zal]
 refine (Ziq tt (by omega) h3).mono ?_
 rintro v h4 ⟨rfl,s4⟩
 have hle3:=s3.le
 have S4:Zbc h.length h h4:=S3.trans (s4.mono S3.le)
 have i4:h4[h0.length]?=some (.cells Zac [.str ct,.str tt,.slice a2 n2 c2 e2] false):=by rw [s4.eq _ (by omega)]; exact i3
 have w4:h4[h.length]?=some (.cells Zab [.slice a n c e,.slice a1 n1 c1 e1] false):=by rw [s4.eq _ (by omega)]; exact w3
 simp only [Zap]
 refine Zbq (fun hb=>⟨by unfold Zmq; rw [b1,b2,hb]; rfl,S4⟩) (fun b3=>?_)
 simp only [Zao i4,List.getElem?_cons_succ,List.getElem?_cons_zero,Zal]
 refine Zat (fun hb=>⟨by unfold Zmq; rw [b1,b2,b3]; simp [show ¬ tt.length≤20 by omega],S4⟩) (fun b4=>?_)
 have hvh:=Ysr b3
 have hne:=Ynh b3
 have htl:0 < tt.length:=by cases tt with | nil=>exact absurd rfl hne | cons=>simp
 refine ⟨⟨by omega,by omega⟩,?_⟩
 have hgd:tt.getD (Int.toNat 0) 0=tt.headD 0:=by cases tt <;> rfl
 rw [hgd]
 refine (Zrc _).mono ?_
 rintro v h5 ⟨rfl,rfl⟩
 simp only [Zap,← hvh]
 refine Zcv (fun hb=>⟨by unfold Zmq; rw [hb]; simp,S4⟩) (fun b5=>?_)
 simp only [Zao i4,List.getElem?_cons_succ,List.getElem?_cons_zero,Zae]
 refine Zat (fun hb=>⟨by unfold Zmq; simp [show ¬ ns.length≤3 by omega],S4⟩) (fun b6=>?_)
 rw [Yhw b1 b2 b3 (by omega) b5 (by omega)]
 apply Zei.J3i
 simp only [Nat.zero_add,Zao i4,List.getElem?_cons_succ,List.getElem?_cons_zero,Zae]
 have hle4:=s4.le
 refine Zei.L4ind _ _ _ _ _ _ _ _ _ _ (J:=fun (g:Nat) x50 h'=>x50=(g:Int)∧g≤n2∧Zbc h5.length h5 h'∧(ns.take g).all (Zjg cs tt)=true) (fun g=>n2 - g) ?_ 0 _ _ ⟨rfl,by omega,Zbc.refl _ _,rfl⟩
 rintro g x50 h' ⟨rfl,hg,hS,hk⟩ R hR
 have SS:Zbc h.length h h':=S4.trans (hS.mono S4.le)
 unfold Zei.L4t
 refine Zat (fun hlt=>?_) (fun hge=>?_)
 ·obtain ⟨i,o,hgl,rfl,hil,hr,_⟩:=(r2.same SS).pr (k:=g) (by omega)
  simp only [Zav,Int.toNat_natCast,hr,Zaq,Zaf,Zan,Zal,Zaw]
  rw [Zfk]
  have hlh:=hS.le
  generalize hq:h' ++ [Zcd.cells Zad [.str ns[g].1,.str ns[g].2] false]=hq'
  have sq:Zbc h'.length h' hq':=by rw [← hq]; exact Zam
  have hql:hq'.length=h'.length + 1:=by rw [← hq]; simp
  have nq:hq'[h'.length]?=some (.cells Zad [.str ns[g].1,.str ns[g].2] false):=by rw [← hq]; simp
  have wq:hq'[h.length]?=some (.cells Zab [.slice a n c e,.slice a1 n1 c1 e1] false):=by rw [sq.eq _ (by omega),hS.eq _ (by omega)]; exact w4
  have iq:hq'[h0.length]?=some (.cells Zac [.str ct,.str tt,.slice (some (i,o)) n2 c2 e2] false):=by rw [sq.eq _ (by omega),hS.eq _ (by omega)]; exact i4
  have row:∀ {hx:Zaa},hx[h.length]?=some (.cells Zab [.slice a n c e,.slice a1 n1 c1 e1] false)→Zbi hx (.ptr (some (h.length,0))) 2=some [.slice a n c e,.slice a1 n1 c1 e1]:=fun w=>by rw [Zeg w (by simp)]; rfl
  simp only [Zas,Nat.add_zero,Nat.zero_add,row wq,Zao nq,List.getElem?_cons_succ,List.getElem?_cons_zero,Zaq,Zaf,Zan,Zae,Zal,true_and]
  have Sq:Zbc h.length h hq':=SS.trans (sq.mono SS.le)
  refine ⟨by omega,(Zpr (r.same' Sq) (by omega)).mono ?_⟩
  rintro v k3 ⟨rfl,t3⟩
  have T3:=Sq.trans (t3.mono Sq.le)
  have n3:k3[h'.length]?=some (.cells Zad [.str ns[g].1,.str ns[g].2] false):=by rw [t3.eq _ (by omega)]; exact nq
  have w3':k3[h.length]?=some (.cells Zab [.slice a n c e,.slice a1 n1 c1 e1] false):=by rw [t3.eq _ (by omega)]; exact wq
  have i3':k3[h0.length]?=some (.cells Zac [.str ct,.str tt,.slice (some (i,o)) n2 c2 e2] false):=by rw [t3.eq _ (by omega)]; exact iq
  have ht3:=t3.le
  simp only [Zar,Zxj,row w3',Zao n3,List.getElem?_cons_succ,List.getElem?_cons_zero,Zal,true_and]
  have fail:∀ hx,Zbc h.length h hx→Zjg cs tt ns[g]=false→(Zau.bool false=Zau.bool (ns.all (Zjg cs tt))∧Zbc h.length h hx):=fun hx hs hf=>⟨by rw [Zqr hgl hf],hs⟩
  refine Zbq (fun hb=>fail _ T3 (by unfold Zjg; rw [hb]; rfl)) (fun m1=>?_)
  have hnl:=hns ns[g] (List.getElem_mem hgl)
  refine (Ziq _ (by omega) k3).mono ?_
  rintro v k4 ⟨rfl,t4⟩
  have T4:=T3.trans (t4.mono T3.le)
  have ht4:=t4.le
  have n4:k4[h'.length]?=some (.cells Zad [.str ns[g].1,.str ns[g].2] false):=by rw [t4.eq _ (by omega)]; exact n3
  have w4':k4[h.length]?=some (.cells Zab [.slice a n c e,.slice a1 n1 c1 e1] false):=by rw [t4.eq _ (by omega)]; exact w3'
  have i4':k4[h0.length]?=some (.cells Zac [.str ct,.str tt,.slice (some (i,o)) n2 c2 e2] false):=by rw [t4.eq _ (by omega)]; exact i3'
  simp only [Zap,row w4',Zao n4,Zao i4',List.getElem?_cons_succ,List.getElem?_cons_zero,Zal,true_and]
  refine Zbq (fun hb=>fail _ T4 (by unfold Zjg; rw [m1,hb]; rfl)) (fun m2=>?_)
  refine Zat (fun hb=>fail _ T4 (by unfold Zjg; simp [show ¬ ns[g].2.length≤20 by omega])) (fun m3=>?_)
  refine (Zsq _ hnl).mono ?_
  rintro v k5 ⟨rfl,t5⟩
  have T5:=T4.trans (t5.mono T4.le)
  have ht5:=t5.le
  have n5:k5[h'.length]?=some (.cells Zad [.str ns[g].1,.str ns[g].2] false):=by rw [t5.eq _ (by omega)]; exact n4
  have w5':k5[h.length]?=some (.cells Zab [.slice a n c e,.slice a1 n1 c1 e1] false):=by rw [t5.eq _ (by omega)]; exact w4'
  have i5':k5[h0.length]?=some (.cells Zac [.str ct,.str tt,.slice (some (i,o)) n2 c2 e2] false):=by rw [t5.eq _ (by omega)]; exact i4'
  simp only [row w5',Zao n5,Zao i5',List.getElem?_cons_succ,List.getElem?_cons_zero,Zal,true_and]
  refine (Zsq _ htt).mono ?_
  rintro v k6 ⟨rfl,t6⟩
  have T6:=T5.trans (t6.mono T5.le)
  have ht6:=t6.le
  have n6:k6[h'.length]?=some (.cells Zad [.str ns[g].1,.str ns[g].2] false):=by rw [t6.eq _ (by omega)]; exact n5
  have w6':k6[h.length]?=some (.cells Zab [.slice a n c e,.slice a1 n1 c1 e1] false):=by rw [t6.eq _ (by omega)]; exact w5'
  have i6':k6[h0.length]?=some (.cells Zac [.str ct,.str tt,.slice (some (i,o)) n2 c2 e2] false):=by rw [t6.eq _ (by omega)]; exact i5'
  simp only [row w6',Zao n6,Zao i6',List.getElem?_cons_succ,List.getElem?_cons_zero,Zal,true_and]
  rw [if_pos m2,if_pos b3]
  have hvb:∀ s,(Zkw s).length≤6:=fun s=>List.length_filter_le _ _
  have hv1:=hvb ns[g].2
  have hv2:=hvb tt
  refine (Ykp _ _ (by omega) (by omega)).mono ?_
  rintro v k7 ⟨rfl,rfl⟩
  have hni:Zjg cs tt ns[g]=(Zkw ns[g].2).all fun v=>decide (v∈tt):=by unfold Zjg; rw [m1,m2]; simp [show ns[g].2.length≤20 by omega]
  simp only [Zap,row w6',Zao n6,Zao i6',List.getElem?_cons_succ,List.getElem?_cons_zero,Zal,true_and,Yfa,← hni]
  refine Zbq (fun hb=>fail _ T6 hb) (fun m4=>?_)
  apply Zei.J8i
  rw [Zbl (by omega)]
  refine hR (g + 1) _ _ (by omega) ⟨rfl,by omega,?_,Zfr hgl hk m4⟩
  exact hS.trans ((sq.mono hS.le).trans ((t3.mono (by omega)).trans ((t4.mono (by omega)).trans ((t5.mono (by omega)).trans (t6.mono (by omega))))))
 ·apply Zei.A4x0i
  have:g=n2:=by omega
  subst this
  rw [List.take_of_length_le (by omega)] at hk
  exact ⟨by rw [hk],SS⟩
end Go.Sim

set_option linter.unusedVariables false
set_option linter.unusedSimpArgs false
set_option maxRecDepth 20000
namespace Go.Sim
open Go Go.RowKit

structure WB (w:Wd):Prop where
 lc:w.cs.length≤1048576
 li:w.is.length≤1048576
 cs:∀ p∈w.cs,p.1.length≤1048576∧p.2.length≤1048576∧∀ b∈p.1,b < 256
 is:∀ i∈w.is,i.1.1.length≤1048576∧i.1.2.length≤1048576∧i.2.length≤1048576∧∀ p∈i.2,p.1.length≤1048576∧p.2.length≤1048576
def Znk (a0:Pt) (n0 c0:Nat) (e0:Bool) (a1:Pt) (n1 c1:Nat) (e1:Bool):Zcd:=.cells Zab [.slice a0 n0 c0 e0,.slice a1 n1 c1 e1] false
theorem Zwo {h:Zaa} {j:Nat} {a0 a1:Pt} {n0 c0 n1 c1:Nat} {e0 e1:Bool} (hj:h[j]?=some (Znk a0 n0 c0 e0 a1 n1 c1 e1)):Zbi h (.ptr (some (j,0))) 2=some [.slice a0 n0 c0 e0,.slice a1 n1 c1 e1]:=by
 rw [Zeg (show h[j]?=some (.cells Zab [.slice a0 n0 c0 e0,.slice a1 n1 c1 e1] false) from hj) (by simp)]; rfl
theorem Zoj {h:Zaa} {j o:Nat} {a0 a1:Pt} {n0 c0 n1 c1:Nat} {e0 e1:Bool} (hj:h[j]?=some (Znk a0 n0 c0 e0 a1 n1 c1 e1)):Zag h (.ptr (some (j,o)))=([.slice a0 n0 c0 e0,.slice a1 n1 c1 e1]:List Zau)[o]?:=Zao (show h[j]?=some (.cells Zab [.slice a0 n0 c0 e0,.slice a1 n1 c1 e1] false) from hj)
theorem Zbc.get {b:Nat} {h h':Zaa} {j:Nat} {x:Zcd} (s:Zbc b h h') (hj:h[j]?=some x) (hb:j < b):h'[j]?=some x:=by rw [s.eq j hb]; exact hj
theorem Zbc.cat {h h1 h2:Zaa} (a:Zbc h.length h h1) (b:Zbc h1.length h1 h2):Zbc h.length h h2:=a.trans (b.mono a.le)

theorem Ypr {h:Zaa} {t:TypeId} {x y:Zau}:Zbi (h ++ [.cells t [x,y] false]) (.ptr (some (h.length,0))) 2=some [x,y]:=Yck rfl
theorem Yqq {h:Zaa} {t:TypeId} {x y z:Zau}:Zbi (h ++ [.cells t [x,y,z] false]) (.ptr (some (h.length,0))) 3=some [x,y,z]:=Yck rfl
theorem Yfj {h:Zaa} {a0 a1 a2:Pt} {n0 c0 n1 c1 n2 c2 j:Nat} {e0 e1 e2:Bool} {w:Wd} {ns:List Nd} {ct tt:List Nat} (r:Zmb h a0 n0 c0 a1 n1 c1 w) (b:WB w) (hj:h[j]?=some (Znk a0 n0 c0 e0 a1 n1 c1 e1))
  (r2:Row h.length h a2 (n2 * 2) (Zdn eP ns)) (hn2:n2≤1048576) (hns:∀ p∈ns,p.2.length≤1048576) (htt:tt.length≤1048576) :
  Zah pg Zck [.agg [.str ct,.str tt,.slice a2 n2 c2 e2],.ptr (some (j,0))] h fun v h'=>v=.bool (!Zmq w.cs ((ct,tt),ns))∧Zbc h.length h h':=by
 apply Zln.call
 simp only [Zaw]
 have s1:Zbc h.length h (h ++ [.cells Zac [.str ct,.str tt,.slice a2 n2 c2 e2] false]):=Zam
 rw [Zwo (s1.get hj (Own.lt hj)),Yqq]
 simp only [Zaq,Zaf,Zan,Zae,Zal]
 have hlc:=b.lc
 have hl0:=r.len0
 refine (Zwq (r.cls.same' s1) r.le0 (by omega) (fun p hp=>(b.cs p hp).2.1) (r2.same' s1) hn2 hns htt).mono ?_
 rintro v h2 ⟨rfl,s2⟩
 simp only [Zap]
 exact ⟨by trivial,s1.cat s2⟩
theorem Yew {h:Zaa} {a0 a1:Pt} {n0 c0 n1 c1 j:Nat} {e0 e1:Bool} {w:Wd} (r:Zmb h a0 n0 c0 a1 n1 c1 w) (b:WB w) (hj:h[j]?=some (Znk a0 n0 c0 e0 a1 n1 c1 e1)) :
  Zah pg Zdl [.slice a1 n1 c1 e1,.fn Zck [.ptr (some (j,0))]] h fun v h'=>(∃ z:Int,v=.int .i64 z∧decide (z ≥ 0)=!w.is.all (Zmq w.cs))∧Zbc h.length h h':=by
 have hl:=r.len1
 have hli:=b.li
 apply Zbh.call
 refine Zbh.L2ind _ _ _ _ _ _ _ (J:=fun (g:Nat) x8 h'=>x8=(g:Int)∧g≤n1∧Zbc h.length h h'∧(w.is.take g).all (Zmq w.cs)=true) (fun g=>n1 - g) ?_ 0 _ _ ⟨rfl,by omega,Zbc.refl _ _,rfl⟩
 rintro g x8 h' ⟨rfl,hg,hS,hk⟩ R hR
 unfold Zbh.L2t
 refine Zat (fun hlt=>?_) (fun hge=>?_)
 ·obtain ⟨i,o,hgl,a2,n2,c2,e2,rfl,_,hr,_,_,_,hrow,hn⟩:=(r.same hS).inst (k:=g) (by omega)
  simp only [Zav,Int.toNat_natCast,hr,Zaq,Zaf,Zan,Zal,Zae]
  have hb:=b.is _ (List.getElem_mem hgl)
  refine ⟨by omega,(Yfj (r.same hS) b (hS.get hj (Own.lt hj)) hrow (by omega) (fun p hp=>(hb.2.2.2 p hp).2) hb.2.1).mono ?_⟩
  rintro v h2 ⟨rfl,s2⟩
  simp only [Zap]
  have hS2:=hS.cat s2
  refine Zbq (fun he=>?_) (fun he=>?_)
  ·exact ⟨⟨_,rfl,by rw [Zqr hgl he]; simp⟩,hS2⟩
  ·rw [Zbl (by omega)]
   exact hR (g + 1) _ _ (by omega) ⟨rfl,by omega,hS2,Zfr hgl hk he⟩
 ·apply Zbh.A2x0i
  have:g=n1:=by omega
  subst this
  rw [List.take_of_length_le (by omega)] at hk
  exact ⟨⟨_,rfl,by rw [hk]; rfl⟩,hS⟩
theorem Zkl {h:Zaa} {a0 a1:Pt} {n0 c0 n1 c1:Nat} {e0 e1:Bool} {w:Wd} (r:Zmb h a0 n0 c0 a1 n1 c1 w) (b:WB w) :
  Zah pg Zfh [.agg [.slice a0 n0 c0 e0,.slice a1 n1 c1 e1]] h fun v h'=>v=.bool (Zee w)∧Zbc h.length h h':=by
 have hl0:=r.len0
 have hl1:=r.len1
 have hlc:=b.lc
 apply Zpl.call
 simp only [Zaw]
 generalize hh0:h ++ [Zcd.cells Zab [.slice a0 n0 c0 e0,.slice a1 n1 c1 e1] false]=h0
 have s0:Zbc h.length h h0:=by rw [← hh0]; exact Zam
 have w0:h0[h.length]?=some (Znk a0 n0 c0 e0 a1 n1 c1 e1):=by rw [← hh0]; simp [Znk]
 rw [Zwo w0]
 simp only [Zaq,Zaf,Zan,Zae]
 refine (Zwg (r.cls.same' s0) r.le0 (by omega) (fun p hp=>(b.cs p hp).2.1)).mono ?_
 rintro v h2 ⟨rfl,s2⟩
 have S2:=s0.cat s2
 have w2:=s2.get w0 (Own.lt w0)
 simp only [Zap]
 refine Zcv (fun b1=>?_) (fun b1=>⟨by unfold Zee; rw [b1]; rfl,S2⟩)
 simp only [Zoj w2,Nat.zero_add,List.getElem?_cons_succ,List.getElem?_cons_zero,Zae]
 refine Zat (fun b2=>?_) (fun b2=>⟨by unfold Zee; rw [b1]; simp [show ¬ w.is.length≤10 by omega],S2⟩)
 apply Zcw.call
 refine (Yew (r.same S2) b w2).mono ?_
 rintro v h3 ⟨⟨z,rfl,hz⟩,s3⟩
 simp only [Zar,Zap]
 refine ⟨?_,S2.cat s3⟩
 rw [hz,Bool.not_not]
 unfold Zee
 rw [b1]; simp [show w.is.length≤10 by omega]
theorem Ziz {h:Zaa} {a0 a1:Pt} {n0 c0 n1 c1:Nat} {e0 e1:Bool} {w:Wd} (r:Zmb h a0 n0 c0 a1 n1 c1 w) (b:WB w) :
  Zah pg Zfj [.agg [.slice a0 n0 c0 e0,.slice a1 n1 c1 e1]] h fun v h'=>v=.bool (Zee w)∧Zbc h.length h h':=by
 have hl0:=r.len0
 have hl1:=r.len1
 have hlc:=b.lc
 have hli:=b.li
 apply Zgp.call
 simp only [Zaw]
 generalize hh0:h ++ [Zcd.cells Zab [.slice a0 n0 c0 e0,.slice a1 n1 c1 e1] false]=h0
 have s0:Zbc h.length h h0:=by rw [← hh0]; exact Zam
 have w0:h0[h.length]?=some (Znk a0 n0 c0 e0 a1 n1 c1 e1):=by rw [← hh0]; simp [Znk]
 simp only [Zoj w0,Nat.zero_add,List.getElem?_cons_succ,List.getElem?_cons_zero,Zae]
 refine Zgp.L2ind _ _ _ _ _ _ _ _ (J:=fun (g:Nat) x8 h'=>x8=(g:Int)∧g≤n1∧Zbc h0.length h0 h'∧(w.is.take g).all (Zmq w.cs)=true) (fun g=>n1 - g) ?_ 0 _ _ ⟨rfl,by omega,Zbc.refl _ _,rfl⟩
 rintro g x8 h' ⟨rfl,hg,hS,hk⟩ R hR
 have SS:=s0.cat hS
 have w1:=hS.get w0 (Own.lt w0)
 unfold Zgp.L2t
 refine Zat (fun hlt=>?_) (fun hge=>?_)
 ·obtain ⟨i,o,hgl,a2,n2,c2,e2,rfl,_,hr,_,_,_,hrow,hn⟩:=(r.same SS).inst (k:=g) (by omega)
  simp only [Zav,Int.toNat_natCast,hr,Zaq,Zaf,Zan,Zal,Zae,Zaw]
  rw [Ysv]
  generalize hq:h' ++ [Zcd.cells Zac [.str w.is[g].1.1,.str w.is[g].1.2,.slice a2 n2 c2 e2] false]=hq'
  have sq:Zbc h'.length h' hq':=by rw [← hq]; exact Zam
  simp only [Zas]
  rw [Zwo (sq.get w1 (Own.lt w1)),← hq,Yqq,hq]
  simp only [Zaq,Zaf,Zan,Zal,Zae]
  have hb:=b.is _ (List.getElem_mem hgl)
  have Sq:=SS.cat sq
  refine ⟨by omega,(Zvo (r.cls.same' Sq) r.le0 (by omega) (fun p hp=>(b.cs p hp).2.1) (fun p hp=>(b.cs p hp).2.2) (hrow.same' sq) (by omega) (fun p hp=>(hb.2.2.2 p hp).2) hb.2.1).mono ?_⟩
  rintro v h2 ⟨rfl,s2⟩
  simp only [Zap]
  refine Zbq (fun he=>?_) (fun he=>?_)
  ·exact ⟨by unfold Zee; rw [Zqr hgl he]; simp,Sq.cat s2⟩
  ·rw [Zbl (by omega)]
   exact hR (g + 1) _ _ (by omega) ⟨rfl,by omega,(hS.cat sq).cat s2,Zfr hgl hk he⟩
 ·apply Zgp.A2x0i
  have:g=n1:=by omega
  subst this
  rw [List.take_of_length_le (by omega)] at hk
  simp only [Zoj w1,Nat.zero_add,List.getElem?_cons_zero,Zae]
  refine (Zwm (r.cls.same' SS) r.le0 (by omega) (fun p hp=>(b.cs p hp).2.1) (fun p hp=>(b.cs p hp).2.2)).mono ?_
  rintro v h2 ⟨rfl,s2⟩
  simp only [Zap]
  have w2:=s2.get w1 (Own.lt w1)
  refine Zcv (fun b1=>?_) (fun b1=>⟨by unfold Zee; rw [b1]; rfl,SS.cat s2⟩)
  simp only [Zoj w2,Nat.zero_add,List.getElem?_cons_succ,List.getElem?_cons_zero,Zae]
  refine ⟨?_,SS.cat s2⟩
  unfold Zee
  rw [b1,hk]; congr 1; rw [Bool.eq_iff_iff]; simp; omega
end Go.Sim

set_option linter.unusedVariables false
set_option linter.unusedSimpArgs false
set_option maxRecDepth 20000
namespace Go.Sim
open Go Go.RowKit

end Go.Sim

set_option linter.unusedVariables false
set_option linter.unusedSimpArgs false
set_option maxRecDepth 20000
namespace Go.Sim
open Go Go.RowKit
end Go.Sim

set_option linter.unusedVariables false
set_option linter.unusedSimpArgs false
set_option maxRecDepth 20000
namespace Go.Sim
open Go Go.RowKit

def isz (i:Ins):Nat:=i.1.1.length + i.1.2.length + (i.2.length + Yld i.2)
def Yom (l:List Ins):Nat:=(l.map isz).sum
def wsz (w:Wd):Nat:=w.cs.length + Yld w.cs + (w.is.length + Yom w.is)
theorem Yoa {l:List Ins} {g:Nat} (h:g < l.length):Yom (l.take (g + 1))=Yom (l.take g) + isz l[g]:=by
 unfold Yom; rw [List.take_succ_eq_append_getElem h,List.map_append,List.sum_append]; simp
theorem Ycy (l:List Ins) (g:Nat):Yom (l.take g)≤Yom l:=by
 conv=>rhs; rw [← List.take_append_drop g l]
 unfold Yom; rw [List.map_append,List.sum_append]; omega
theorem Yop {l:List Ins} {g:Nat} (h:g < l.length):isz l[g]≤Yom l:=by
 have:=Yoa h; have:=Ycy l (g + 1); omega
def Yqe (n:Nat):Prop:=n≤9223372036854775807
structure Yvg (w:Wd):Prop where
 lc:Yqe w.cs.length
 li:Yqe w.is.length
 cs:∀ p∈w.cs,Yqe p.1.length∧Yqe p.2.length∧∀ b∈p.1,b < 256
 is:∀ i∈w.is,Yqe i.1.1.length∧Yqe i.1.2.length∧Yqe i.2.length∧∀ p∈i.2,Yqe p.1.length∧Yqe p.2.length
theorem WB.of {w:Wd} (b:Yvg w) (h:wsz w≤1048576):WB w:=by
 have h1:∀ p∈w.cs,p.1.length + p.2.length≤Yld w.cs:=fun p hp=>by
  obtain ⟨k,hk,rfl⟩:=List.mem_iff_getElem.1 hp; exact Yhx hk
 have h2:∀ i∈w.is,isz i≤Yom w.is:=fun p hp=>by
  obtain ⟨k,hk,rfl⟩:=List.mem_iff_getElem.1 hp; exact Yop hk
 unfold wsz at h
 refine ⟨by omega,by omega,fun p hp=>⟨by have:=h1 p hp; omega,by have:=h1 p hp; omega,(b.cs p hp).2.2⟩,fun i hi=>?_⟩
 have:=h2 i hi
 unfold isz at this
 refine ⟨by omega,by omega,by omega,fun p hp=>?_⟩
 have h3:p.1.length + p.2.length≤Yld i.2:=by obtain ⟨k,hk,rfl⟩:=List.mem_iff_getElem.1 hp; exact Yhx hk
 omega
theorem Zne {h:Zaa} {i:Nat} {t:TypeId} {x y z:Zau} {ro:Bool} (hi:h[i]?=some (.cells t [x,y,z] ro)):Zbi h (.ptr (some (i,0))) 3=some [x,y,z]:=by
 rw [Zeg hi (by simp)]; rfl
theorem Zbc.set' {b i:Nat} {h h1:Zaa} {x:Zcd} (s:Zbc b h h1) (hi:b≤i):Zbc b h (h1.set i x):=⟨by simp; exact s.le,fun j hj=>by rw [Zbs (by omega)]; exact s.eq j hj⟩
theorem Zdh.keep {α:Type} {ty:TypeId} {enc:α→List Zau} {b b':Nat} {h h':Zaa} {a:Pt} {n:Nat} {l:List α} (f:Zdh ty enc b h a n l) (hb:b'≤b) (hk:∀ i,b≤i→i < h.length→h'[i]?=h[i]?):Zdh ty enc b' h' a n l:=
 ⟨f.1,f.2.imp id fun ⟨i,ha,hbi,hi⟩=>⟨i,ha,by omega,by rw [hk i hbi (Own.lt hi)]; exact hi⟩⟩
end Go.Sim

set_option linter.unusedVariables false
set_option linter.unusedSimpArgs false
set_option maxRecDepth 20000
namespace Go.Sim
open Go Go.RowKit

theorem Zbk {h:Zaa} {i:Nat} {t:TypeId} {x y:Zau} {ro:Bool} (hi:h[i]?=some (.cells t [x,y] ro)):Zbi h (.ptr (some (i,0))) 2=some [x,y]:=by
 rw [Zeg hi (by simp)]; rfl
end Go.Sim

set_option linter.unusedVariables false
set_option linter.unusedSimpArgs false
set_option maxRecDepth 20000
namespace Go.Sim
open Go Go.RowKit

theorem Ty.size_ps (t:Ty):t.size=1 + (t.ps.map Ty.size).sum:=by cases t <;> simp [Ty.size,Ty.ps] <;> omega
theorem Zhq.same {S:Nat→Prop} {h h':Zaa} (s:Zbc h.length h h'):∀ {t:Ty} {v:List Zau},Zhq S h t v→Zhq S h' t v
 | .k d,_,h=>h
 | .u d x,_,⟨j,c,e,r,hv,sj,hj,hr⟩=>⟨j,c,e,r,hv,sj,s.get hj (Own.lt hj),hr.same s⟩
 | .w d x y,_,⟨j,c,e,r,r',hv,sj,hj,hr,hr'⟩=>⟨j,c,e,r,r',hv,sj,s.get hj (Own.lt hj),hr.same s,hr'.same s⟩
end Go.Sim

set_option linter.unusedVariables false
set_option linter.unusedSimpArgs false
set_option maxRecDepth 20000
namespace Go.Sim
open Go Go.RowKit

theorem Vec.lt' {ty:TypeId} {h:Zaa} {a:Pt} {i n c:Nat} {cs:List Zau} (x:Vec ty h a n c cs) (e:a=some (i,0)):i < h.length:=by subst e; exact x.lt
theorem Ztf.keep {S:Nat→Prop} {h h':Zaa} (hh:∀ j,S j→j < h.length→h'[j]?=h[j]?):∀ {t:Ty} {p:Pt},Ztf S h t p→Ztf S h' t p
 | .k d,p,⟨i,a,c,e,hp,si,hi⟩=>⟨i,a,c,e,hp,si,by rw [hh i si (Own.lt hi)]; exact hi⟩
 | .u d x,p,⟨i,j,c,e,q,hp,si,hi,sj,hj,hq⟩=>⟨i,j,c,e,q,hp,si,by rw [hh i si (Own.lt hi)]; exact hi,sj,by rw [hh j sj (Own.lt hj)]; exact hj,hq.keep hh⟩
 | .w d x y,p,⟨i,j,c,e,q,r,hp,si,hi,sj,hj,hq,hr⟩=>⟨i,j,c,e,q,r,hp,si,by rw [hh i si (Own.lt hi)]; exact hi,sj,by rw [hh j sj (Own.lt hj)]; exact hj,hq.keep hh,hr.keep hh⟩
theorem Ztf.same {S:Nat→Prop} {h h':Zaa} {t:Ty} {p:Pt} (r:Ztf S h t p) (s:Zbc h.length h h'):Ztf S h' t p:=r.keep fun j _ hj=>s.eq j hj
theorem Zhq.keep {S:Nat→Prop} {h h':Zaa} (hh:∀ j,S j→j < h.length→h'[j]?=h[j]?):∀ {t:Ty} {v:List Zau},Zhq S h t v→Zhq S h' t v
 | .k d,_,h=>h
 | .u d x,_,⟨j,c,e,r,hv,sj,hj,hr⟩=>⟨j,c,e,r,hv,sj,by rw [hh j sj (Own.lt hj)]; exact hj,hr.keep hh⟩
 | .w d x y,_,⟨j,c,e,r,r',hv,sj,hj,hr,hr'⟩=>⟨j,c,e,r,r',hv,sj,by rw [hh j sj (Own.lt hj)]; exact hj,hr.keep hh,hr'.keep hh⟩
theorem Ty.txt_inter (t:Ty) (h:t.ps≠[]):t.txt=([t.hd] ++ [40]) ++ [44].intercalate (t.ps.map Ty.txt) ++ [41]:=by
 cases t with
 | k c=>simp [Ty.ps] at h
 | u c a=>simp [Ty.ps,Ty.txt,Ty.hd,List.intercalate]
 | w c a b=>simp [Ty.ps,Ty.txt,Ty.hd,List.intercalate]
theorem Ty.size_part {t x:Ty} (h:x∈t.ps):x.size < t.size:=by
 cases t with
 | k c=>simp [Ty.ps] at h
 | u c a=>simp [Ty.ps] at h; subst h; simp [Ty.size]
 | w c a b=>simp [Ty.ps] at h; rcases h with rfl | rfl <;> simp [Ty.size] <;> omega
theorem Ty.len_part {t x:Ty} (h:x∈t.ps):x.txt.length < t.txt.length:=by
 cases t with
 | k c=>simp [Ty.ps] at h
 | u c a=>simp [Ty.ps] at h; subst h; simp [Ty.txt]; omega
 | w c a b=>simp [Ty.ps] at h; rcases h with rfl | rfl <;> simp [Ty.txt] <;> omega
theorem Ymg:∀ (N:Nat) {S:Nat→Prop} {h:Zaa} {t:Ty} {p:Pt},t.size≤N→t.txt.length≤1048576→Ztf S h t p→Zah pg Zjs [.ptr p] h fun x h'=>x=.str t.txt∧Zbc h.length h h'
 | 0,S,h,t,p,hN,_,_=>by have:=t.size_ps; omega
 | N + 1,S,h,t,p,hN,hB,r=>by
  obtain ⟨i,a,c,e,qs,rfl,si,hi,hrow,hS,hql,hq⟩:=r.parts
  have hps2:t.ps.length≤2:=by cases t <;> simp [Ty.ps]
  apply Zhb.call
  simp only [Zav,Zao hi,Nat.zero_add,List.getElem?_cons_succ,List.getElem?_cons_zero,Zae,Zal]
  refine Zcx (fun hz0=>?_) (fun hz0=>?_)
  ·have:t.ps.length=0:=by omega
   refine ⟨?_,Zbc.refl _ _⟩
   cases t <;> simp [Ty.ps] at this
   rfl
  ·simp only [Zaw]
   generalize hh0:h ++ [Zcd.cells Zbe [] false]=h0
   have s0:Zbc h.length h h0:=by rw [← hh0]; exact Zam
   have i0:=s0.get hi (Own.lt hi)
   have l0:h0.length=h.length + 1:=by rw [← hh0]; simp
   have v0:h0[h.length]?=some (.cells Zbe [] false):=by rw [← hh0]; simp
   simp only [Zao i0,List.getElem?_cons_succ,List.getElem?_cons_zero,Zae]
   refine Zhb.L5ind _ _ _ _ _ _ _ (J:=fun (g:Nat) a3 n3 c3 e3 x22 h'=>x22=(g:Int)∧g≤t.ps.length∧Zbc h.length h h'∧n3=g∧Vec Zbe h' a3 n3 c3 (strs ((t.ps.take g).map Ty.txt))∧(∀ i,a3=some (i,0)→h.length≤i)) (fun g=>t.ps.length - g) ?_ 0 _ _ _ _ _ _
    ⟨rfl,by omega,s0,rfl,Vec.mk1 (by simpa using v0),fun i hi=>by cases hi; omega⟩
   rintro g a3 n3 c3 e3 x22 h' ⟨rfl,hg,hSm,rfl,hv,ha⟩ R hR
   unfold Zhb.L5t
   have i1:=hSm.get hi (Own.lt hi)
   refine Zat (fun hlt=>?_) (fun hge=>?_)
   ·have hg':n3 < t.ps.length:=by omega
    obtain ⟨j,o,rfl,hj,hc⟩:=(hrow.same hSm).at hg'
    have hqg:n3 < qs.length:=by omega
    rw [List.getElem?_map,List.getElem?_eq_getElem hqg] at hc
    simp only [Zav,Int.toNat_natCast,Nat.mul_one,hc,Option.map_some,Zif]
    have hk:=hq n3 qs[n3] t.ps[n3] (List.getElem?_eq_getElem hqg) (List.getElem?_eq_getElem hg')
    have hm:=List.getElem_mem hg'
    have h1:=Ty.size_part hm
    have h2:=Ty.len_part hm
    refine ⟨by omega,(Ymg N (by omega) (by omega) (hk.same hSm)).mono ?_⟩
    rintro x h2 ⟨rfl,s2⟩
    simp only [Zal,Zaw]
    refine (hv.same s2).push Zxt Ycm Ydt Yei (by simp; omega) rfl (by omega) (fun h4 hl4 hi4 hk4=>?_)
    simp only [Zae]
    rw [Zbl (by omega)]
    have S2:=hSm.cat s2
    have hle:=S2.le
    refine hR (n3 + 1) _ _ _ _ _ _ (by omega) ⟨rfl,by omega,⟨by omega,fun j hj=>?_⟩,rfl,Vec.mk1 ?_,fun i hi=>by cases hi; omega⟩
    ·rw [hk4 j (by omega) fun i hi=>by have:=ha i hi; omega]; exact S2.eq j hj
    ·rw [hi4,List.take_succ_eq_append_getElem hg',List.map_append,Yfl]; rfl
   ·apply Zhb.A5x0i
    have:n3=t.ps.length:=by omega
    subst this
    rw [List.take_length] at hv
    have hne:t.ps≠[]:=fun e=>hz0 (by rw [e]; rfl)
    have htx:=t.txt_inter hne
    have hln:=congrArg List.length htx
    simp at hln
    simp only [Zav,Zao i1,Nat.zero_add,List.getElem?_cons_zero,Zal]
    refine ⟨by simp,?_⟩
    refine (Yib (hv.row (by simp)) (by omega) (by omega)).mono ?_
    rintro v h3 ⟨rfl,rfl⟩
    simp only [Zal]
    refine ⟨Zao i1,by simp; omega,by simp; omega,?_⟩
    exact ⟨by rw [htx],hSm⟩
theorem Zhq.get {S:Nat→Prop} {h:Zaa} {t:Ty} {a:Pt} {vs:List (List Zau)} (hrow:Row h.length h a (t.ps.length * 2) vs.flatten) (hvl:vs.length=t.ps.length) (hp:∀ (k:Nat) (w:List Zau) (x:Ty),vs[k]?=some w→t.ps[k]?=some x→Zhq S h x w) {g:Nat} (hg':g < t.ps.length) :
  ∃ i o a2 c2 e2,a=some (i,o)∧Zbi h (.ptr (some (i,o + g * 2))) 2=some [.int .u8 (t.ps[g].hd:Int),.slice a2 t.ps[g].ps.length c2 e2]∧Zhq S h t.ps[g] [.int .u8 (t.ps[g].hd:Int),.slice a2 t.ps[g].ps.length c2 e2]:=by
 have hgv:g < vs.length:=by omega
 have hk:=hp g vs[g] t.ps[g] (List.getElem?_eq_getElem hgv) (List.getElem?_eq_getElem hg')
 have hz:∀ v∈vs,v.length=2:=fun v hv=>by
  obtain ⟨k,hk,rfl⟩:=List.mem_iff_getElem.1 hv
  exact (hp k vs[k] (t.ps[k]'(by omega)) (List.getElem?_eq_getElem hk) (List.getElem?_eq_getElem (by omega))).len
 have hfl:vs.flatten=Zdn (fun (v:{v:List Zau // v.length=2})=>v.1) (vs.attach.map fun v=>⟨v.1,hz v.1 v.2⟩):=by
  unfold Zdn; rw [List.flatMap_map]; simp
 rw [hfl] at hrow
 obtain ⟨i,o,hk',ha,_,hr,_⟩:=Row.el (enc:=fun (v:{v:List Zau // v.length=2})=>v.1) (fun x=>x.2) hrow (by simp [hvl]) (k:=g) hg' (by omega)
 obtain ⟨a2,c2,e2,hv2⟩:=hk.shape
 rw [hv2] at hk
 exact ⟨i,o,a2,c2,e2,ha,by rw [hr]; simp [hv2],hk⟩
theorem Ymz {g:Nat} (hg:g < 2):sub [40,44] (g:Int) ((g:Int) + 1)=[Zsc g]:=by
 rcases g with _ | _ | g
 ·rfl
 ·rfl
 ·omega
theorem Ty.hd_lt (t:Ty) (h:t.ok=true):t.hd < 256:=by
 have:=Ty.ok_ar h
 unfold arN Zlb Zcs at this
 simp only [Bool.or_eq_true,beq_iff_eq] at this
 split at this
 ·omega
 ·split at this
  ·omega
  ·split at this
   ·omega
   ·omega
def Zpp:Nat→List Ty→List Nat
 | _,[]=>[]
 | g,x :: l=>Zsc g :: (x.txt ++ Zpp (g + 1) l)
theorem Zvz:∀ (l:List Ty) (g k:Nat) (h:k < l.length),Zpp g (l.take (k + 1))=Zpp g (l.take k) ++ Zsc (g + k) :: l[k].txt
 | x :: l,g,0,_=>by simp [Zpp]
 | x :: l,g,k + 1,h=>by
  have:=Zvz l (g + 1) k (by simpa using h)
  simp only [List.take_succ_cons,Zpp,this,List.getElem_cons_succ,List.cons_append,List.append_assoc]
  rw [show g + 1 + k=g + (k + 1) by omega]
theorem Zyk:∀ (l:List Ty) (g k:Nat),(Zpp g (l.take k)).length≤(Zpp g l).length
 | [],g,k=>by simp [Zpp]
 | x :: l,g,0=>by simp [Zpp]
 | x :: l,g,k + 1=>by
  have:=Zyk l (g + 1) k
  simp only [List.take_succ_cons,Zpp,List.length_cons,List.length_append]; omega
theorem Ty.txt_mids (t:Ty):t.txt=t.hd :: Zpp 0 t.ps ++ (if t.ps=[] then [] else [41]):=by
 cases t <;> simp [Ty.ps,Ty.txt,Ty.hd,Zpp,Zsc]
theorem Zpg:∀ (N:Nat) {S:Nat→Prop} {h:Zaa} {t:Ty} {v:List Zau},t.size≤N→t.txt.length≤1048576→t.ok=true→Zhq S h t v→Zah pg Zge [.agg v] h fun x h'=>x=.str t.txt∧Zbc h.length h h'
 | 0,S,h,t,v,hN,_,_,_=>by have:=t.size_ps; omega
 | N + 1,S,h,t,v,hN,hB,hok,r=>by
  obtain ⟨a,c,e,vs,rfl,hrow,hS,hvl,hp⟩:=r.parts
  have hps2:t.ps.length≤2:=by cases t <;> simp [Ty.ps]
  have htx:=t.txt_mids
  have hln:=congrArg List.length htx
  rw [List.length_append,List.length_cons] at hln
  apply Zgt.call
  simp only [Zaw,Zez,Nat.zero_add,List.getElem?_cons_succ,List.getElem?_cons_zero,Zae,Zar]
  generalize hh0:h ++ [Zcd.cells Zai [.int .u8 (t.hd:Int),.slice a t.ps.length c e] false]=h0
  have s0:Zbc h.length h h0:=by rw [← hh0]; exact Zam
  have o0:h0[h.length]?=some (.cells Zai [.int .u8 (t.hd:Int),.slice a t.ps.length c e] false):=by rw [← hh0]; simp
  generalize hh1:h0 ++ [Zcd.cells Yof [.int .u8 (t.hd:Int)] false]=h1
  have s1:Zbc h0.length h0 h1:=by rw [← hh1]; exact Zam
  have o1:=s1.get o0 (Own.lt o0)
  have hro:rowOf h1 (some (h0.length,0)) 1=some [.int .u8 (t.hd:Int)]:=by rw [← hh1]; simp [rowOf,Zbi]
  rw [hro]
  simp only [Zaq,Zsh,chk,decide_true]
  rw [show ((t.hd:Int)).toNat=t.hd from Int.toNat_natCast _]
  refine ⟨⟨by omega,by have:=t.hd_lt hok; omega⟩,?_⟩
  simp only [Zao o1,List.getElem?_cons_succ,List.getElem?_cons_zero,Zae]
  refine Zgt.L3ind _ _ _ _ _ _ _ _ (J:=fun (g:Nat) x3 x13 h'=>x13=(g:Int)∧g≤t.ps.length∧Zbc h.length h h'∧Zbc h1.length h1 h'∧x3=t.hd :: Zpp 0 (t.ps.take g)) (fun g=>t.ps.length - g) ?_ 0 _ _ _ ⟨rfl,by omega,s0.cat s1,Zbc.refl _ _,by simp [Zpp]⟩
  rintro g x3 x13 h' ⟨rfl,hg,hSm,hS1,rfl⟩ R hR
  unfold Zgt.L3t
  have o2:=hS1.get o1 (Own.lt o1)
  refine Zat (fun hlt=>?_) (fun hge=>?_)
  ·have hg':g < t.ps.length:=by omega
   obtain ⟨i,o,a2,c2,e2,rfl,hr,hk⟩:=Zhq.get (hrow.same' hSm) hvl (fun k w x h1 h2=>(hp k w x h1 h2).same hSm) hg'
   simp only [Zav,Int.toNat_natCast,hr,Zaq,Zaf,Zan,Zar,Zae,Zaw]
   rw [Zfk]
   simp only [Zas]
   rw [Ypr]
   simp only [Zaq,Zaf,Zan,Zar,Zae]
   rw [Zbl (by omega),show (((g + 1:Nat):Int))=(g:Int) + 1 by omega,Ymz (by omega)]
   have hm:=List.getElem_mem hg'
   have h1:=Ty.size_part hm
   have h2:=Ty.len_part hm
   have hmt:=Zvz t.ps 0 g hg'
   have hml:(Zpp 0 (t.ps.take (g + 1))).length≤(Zpp 0 t.ps).length:=Zyk _ _ _
   have hmtl:=congrArg List.length hmt
   simp only [List.length_append,List.length_cons,Nat.zero_add] at hmtl
   have s2:Zbc h'.length h' (h' ++ [.cells Zai [.int .u8 (t.ps[g].hd:Int),.slice a2 t.ps[g].ps.length c2 e2] false]):=Zam
   refine ⟨by omega,⟨by omega,by omega,by simp; omega⟩,by simp; omega,(Zpg N (by omega) (by omega) (Ty.ok_ps hok _ hm) (hk.same s2)).mono ?_⟩
   rintro x h3 ⟨rfl,s3⟩
   simp only [Zal]
   refine ⟨by simp; omega,?_⟩
   exact hR (g + 1) _ _ _ (by omega) ⟨by omega,by omega,(hSm.cat s2).cat s3,(hS1.cat s2).cat s3,by rw [hmt,Nat.zero_add]; simp⟩
  ·apply Zgt.A3x0i
   have:g=t.ps.length:=by omega
   subst this
   simp only [Zao o2,Nat.zero_add,List.getElem?_cons_succ,List.getElem?_cons_zero,Zae]
   rw [List.take_length]
   refine Zat (fun hpos=>?_) (fun hneg=>?_)
   ·have hne:t.ps≠[]:=fun e=>by rw [e] at hpos; simp at hpos
    rw [if_neg hne] at htx hln
    refine ⟨by simp; simp at hln; omega,?_⟩
    apply Zgt.J9i
    exact ⟨by rw [htx],hSm⟩
   ·have hne:t.ps=[]:=List.eq_nil_of_length_eq_zero (by omega)
    rw [if_pos hne,List.append_nil] at htx
    apply Zgt.J9i
    exact ⟨by rw [htx],hSm⟩
end Go.Sim

set_option linter.unusedVariables false
namespace Go.Sim
open Go Go.RowKit Go.Maps Go.Sort Go.Shelf Go.Proofs
theorem Yps (m:Nat):AnyZ.SortsIn Tryz.prog Tryz.sorted82_ren Fence.wide m:=
 ⟨fun blk off cap ss W hH hblk hsz=>callsIn_wide.2 (Tryz.slices_Sort_string blk off cap ss W hH hblk hsz),fun p cap W=>callsIn_wide.2 (Tryz.slices_Sort_string_none p cap W)⟩
theorem Ypu {h:Zaa} {m:Option Nat}:Zah pg Zev [.map m] h fun v h'=>v=.fn Zel [.ptr (some (h.length,0))]∧h'=h ++ [.cells Zgz [.map m] false]:=
 Zah.keys ⟨_,Tryz.func83,by kernel_rfl,by kernel_rfl⟩ (fun mb W=>callsIn_wide.1 (AnyZ.keys_in Tryz.keys83 Fence.wide 5 trivial rfl mb W))
set_option maxHeartbeats 1000000 in
theorem Zzq {h:Zaa} {i m:Nat} {es:List ME} {clk:Nat} (hi:h[i]?=some (.cells Zgz [.map (some m)] false)) (hm:h[m]?=some (.map es clk)) {vs:List Nat} (hks:es.map (·.1)=vs.map fun v=>.str [v]) (nd:vs.Nodup) (born:(es.map (·.2.2)).Nodup) (lt:∀ e∈es,e.2.2 < clk) (hl:es.length≤1048576) :
  Zah pg Zlj [.fn Zel [.ptr (some (i,0))]] h fun v h'=>∃ us:List Nat,us.Perm vs∧us.Pairwise (·≤·)∧((us=[]∧v=.slice none 0 0 true∧h'=h) ∨ (∃ c,v=.slice (some (h.length,0)) us.length c false∧us.length≤c∧h'=h ++ [.cells Zbe (us.map fun v=>.str [v]) false])):=
 Zah.sortedKeys (M:=Zgz) (K:=Zbe) Tryz.underlying9 (by kernel_rfl) ⟨_,Tryz.func82,by kernel_rfl,by kernel_rfl⟩
  (fun Bm b nn D0 R w hown hBm hcell hmax hbytes=>callsIn_wide.1 (by
   have hseq:SeqGives Fence.wide 2 Tryz.prog 113 #[.pointer (some ⟨Bm,0,none⟩)] encStr (fun ss=>ss.Perm (strKeys D0)) (Maps.size D0) w:=
    AnyZ.keys_gives (ρ:=Tryz.keys83_ren) { Tryz.keys83 with } Fence.wide _ trivial rfl (by omega) Bm b nn D0 w hBm hcell hown
   exact AnyZ.sorted_in Tryz.sorted82 Fence.wide 5 trivial trivial trivial trivial rfl (by omega) (Yps _) (enters_of Tryz.func112 (by kernel_rfl) rfl) 113 #[.pointer (some ⟨Bm,0,none⟩)] trivial (enters_of Tryz.func113 (by kernel_rfl) rfl) _ _ hmax hbytes _ hseq))
  hi hm hks nd born lt hl
end Go.Sim

set_option linter.unusedSimpArgs false
set_option linter.unusedVariables false
namespace Go.Sim

abbrev Bd:=List (Nat × Ty)
def Zff:Bd→Nat→Option Ty
 | [],_=>none
 | (v,t) :: m,x=>if v=x then some t else Zff m x
def Zpe (m:Bd) (v:Nat) (t:Ty):Option Bd:=match Zff m v with | some t'=>if t'=t then some m else none | none=>some (m ++ [(v,t)])
def matchT:Bd→Ty→Ty→Option Bd
 | m,.k c,t=>if Zcs c then Zpe m c t else if c=t.hd then some m else none
 | m,.u c a,t=>if c=t.hd then (match t.ps with | [x]=>matchT m a x | _=>none) else none
 | m,.w c a b,t=>if c=t.hd then (match t.ps with | [x,y]=>(match matchT m a x with | some m1=>matchT m1 b y | none=>none) | _=>none) else none
def matchL:Bd→List Ty→List Ty→Option Bd
 | m,[],_=>some m
 | m,a :: xs,[]=>none
 | m,a :: xs,t :: ys=>match matchT m a t with | some m1=>matchL m1 xs ys | none=>none
theorem Zrs {a:Ty} (h:a.ok=true) (hv:Zcs a.hd=true):a=.k a.hd:=by
 cases a with
 | k c=>rfl
 | u c a=>simp only [Ty.ok,Bool.and_eq_true,Bool.or_eq_true,beq_iff_eq] at h; rcases h.1 with rfl | rfl <;> simp [Ty.hd,Zcs] at hv
 | w c a b=>simp only [Ty.ok,Bool.and_eq_true,beq_iff_eq] at h; rcases h.1.1 with rfl; simp [Ty.hd,Zcs] at hv
theorem Ydu {a t:Ty} (ha:a.ok=true) (ht:t.ok=true) (h:a.hd=t.hd):a.ps.length=t.ps.length:=by
 have h1:=Ty.ok_ar ha; have h2:=Ty.ok_ar ht
 rw [h,h2] at h1; omega
theorem Ydm {m:Bd} {a t:Ty} (ha:a.ok=true) (ht:t.ok=true) :
  matchT m a t=if Zcs a.hd then Zpe m a.hd t else if a.hd=t.hd then matchL m a.ps t.ps else none:=by
 cases a with
 | k c=>
  show matchT m (.k c) t=if Zcs c then Zpe m c t else if c=t.hd then matchL m [] t.ps else none
  rw [matchT,matchL]
 | u c a=>
  have hnv:Zcs c=false:=by
   cases h:Zcs c with
   | false=>rfl
   | true=>have:=Zrs ha h; cases this
  show matchT m (.u c a) t=if Zcs c then Zpe m c t else if c=t.hd then matchL m [a] t.ps else none
  rw [matchT,hnv,if_neg (show ¬ (false=true) by decide)]
  by_cases h:c=t.hd
  ·have hl:1=t.ps.length:=Ydu ha ht h
   rw [if_pos h,if_pos h]
   match t.ps,hl with
   | [x],_=>simp only [matchL]; cases matchT m a x <;> rfl
  ·rw [if_neg h,if_neg h]
 | w c a b=>
  have hnv:Zcs c=false:=by
   cases h:Zcs c with
   | false=>rfl
   | true=>have:=Zrs ha h; cases this
  show matchT m (.w c a b) t=if Zcs c then Zpe m c t else if c=t.hd then matchL m [a,b] t.ps else none
  rw [matchT,hnv,if_neg (show ¬ (false=true) by decide)]
  by_cases h:c=t.hd
  ·have hl:2=t.ps.length:=Ydu ha ht h
   rw [if_pos h,if_pos h]
   match t.ps,hl with
   | [x,y],_=>
    simp only [matchL]
    cases matchT m a x with
    | none=>rfl
    | some m1=>simp only []; cases matchT m1 b y <;> rfl
  ·rw [if_neg h,if_neg h]
theorem Zts:∀ (xs ys:List Ty) (m:Bd) (g:Nat) (h1:g < xs.length) (h2:g < ys.length),matchL m (xs.take (g + 1)) (ys.take (g + 1))=match matchL m (xs.take g) (ys.take g) with | some m1=>matchT m1 xs[g] ys[g] | none=>none
 | a :: xs,t :: ys,m,0,_,_=>by
  simp only [List.take_succ_cons,List.take_zero,matchL,List.getElem_cons_zero]
  cases matchT m a t <;> rfl
 | a :: xs,t :: ys,m,g + 1,h1,h2=>by
  simp only [List.length_cons,Nat.add_lt_add_iff_right] at h1 h2
  simp only [List.take_succ_cons,matchL,List.getElem_cons_succ]
  cases hm:matchT m a t with
  | none=>rfl
  | some m1=>
   have:=Zts xs ys m1 g h1 h2
   simpa only [List.take_succ_cons] using this
theorem Ztp:∀ (xs ys:List Ty) (m:Bd) (g:Nat),xs.length=ys.length→matchL m (xs.take g) (ys.take g)=none→matchL m xs ys=none
 | [],_,m,g,_,h=>by simp [matchL] at h
 | a :: xs,[],m,g,hl,h=>by simp at hl
 | a :: xs,t :: ys,m,0,_,h=>by simp [matchL] at h
 | a :: xs,t :: ys,m,g + 1,hl,h=>by
  simp only [List.take_succ_cons,matchL] at h ⊢
  cases hm:matchT m a t with
  | none=>rfl
  | some m1=>
   rw [hm] at h
   exact Ztp xs ys m1 g (by simpa using hl) h

structure BOk (n:Nat) (m:Bd):Prop where
 var:∀ p∈m,Zcs p.1=true∧p.2.ok=true∧p.2.txt.length≤n
 nd:(m.map (·.1)).Nodup
theorem Znc:∀ {m:Bd} {v:Nat} {t:Ty},Zff m v=some t→(v,t)∈m
 | (w,u) :: m,v,t,h=>by
  simp only [Zff] at h
  split at h
  ·rename_i e; cases h; subst e; simp
  ·exact List.mem_cons_of_mem _ (Znc h)
theorem Zuy:∀ {m:Bd} {v:Nat},Zff m v=none ↔ v ∉ m.map (·.1)
 | [],v=>by simp [Zff]
 | (w,u) :: m,v=>by
  simp only [Zff]
  by_cases e:w=v
  ·simp [e]
  ·simp only [e,if_false,Zuy (m:=m),List.map_cons,List.mem_cons,not_or]
   exact ⟨fun h=>⟨fun e'=>e e'.symm,h⟩,fun h=>h.2⟩
theorem Yfu {m:Bd} {v:Nat}:(Zff m v).isSome=true ↔ v∈m.map (·.1):=by
 cases h:Zff m v with
 | none=>simp [Zuy.1 h]
 | some t=>simp only [Option.isSome_some,true_iff]; exact List.mem_map.2 ⟨_,Znc h,rfl⟩
theorem Zsu {m:Bd} {v x:Nat} {t:Ty}:Zff (m ++ [(v,t)]) x=match Zff m x with | some u=>some u | none=>if v=x then some t else none:=by
 induction m with
 | nil=>simp [Zff]
 | cons p m ih=>
  obtain ⟨w,u⟩:=p
  simp only [List.cons_append,Zff,ih]
  split <;> rfl
theorem BOk.nil {n:Nat}:BOk n []:=⟨by simp,by simp⟩
theorem BOk.note {n:Nat} {m m':Bd} {v:Nat} {t:Ty} (b:BOk n m) (hv:Zcs v=true) (ht:t.ok=true) (hn:t.txt.length≤n) (h:Zpe m v t=some m'):BOk n m':=by
 unfold Zpe at h
 split at h
 ·split at h
  ·cases h; exact b
  ·cases h
 ·rename_i hg
  cases h
  refine ⟨?_,?_⟩
  ·intro p hp
   rcases List.mem_append.1 hp with hp | hp
   ·exact b.var p hp
   ·simp at hp; subst hp; exact ⟨hv,ht,hn⟩
  ·rw [List.map_append,List.nodup_append]
   refine ⟨b.nd,by simp,?_⟩
   intro x hx y hy e
   simp at hy; subst hy; subst e
   exact Zuy.1 hg hx
theorem Zor {t x:Ty} (h:x∈t.ps):x.txt.length≤t.txt.length:=by
 cases t with
 | k c=>simp [Ty.ps] at h
 | u c a=>simp [Ty.ps] at h; subst h; simp [Ty.txt]; omega
 | w c a b=>simp [Ty.ps] at h; rcases h with rfl | rfl <;> simp [Ty.txt] <;> omega
theorem BOk.matchT {n:Nat}:∀ {a t:Ty} {m m':Bd},a.ok=true→t.ok=true→t.txt.length≤n→BOk n m→Go.Sim.matchT m a t=some m'→BOk n m'
 | .k c,t,m,m',ha,ht,hn,b,h=>by
  simp only [Go.Sim.matchT] at h
  split at h
  ·rename_i hv; exact b.note hv ht hn h
  ·split at h
   ·cases h; exact b
   ·cases h
 | .u c a,t,m,m',ha,ht,hn,b,h=>by
  simp only [Ty.ok,Bool.and_eq_true] at ha
  simp only [Go.Sim.matchT] at h
  split at h
  ·split at h
   ·rename_i x hx
    have hm:x∈t.ps:=by rw [hx]; simp
    exact BOk.matchT ha.2 (Ty.ok_ps ht x hm) (Nat.le_trans (Zor hm) hn) b h
   ·cases h
  ·cases h
 | .w c a a2,t,m,m',ha,ht,hn,b,h=>by
  simp only [Ty.ok,Bool.and_eq_true] at ha
  simp only [Go.Sim.matchT] at h
  split at h
  ·split at h
   ·rename_i x y hx
    have hm:x∈t.ps:=by rw [hx]; simp
    have hm2:y∈t.ps:=by rw [hx]; simp
    split at h
    ·rename_i m1 h1
     exact BOk.matchT ha.2 (Ty.ok_ps ht y hm2) (Nat.le_trans (Zor hm2) hn) (BOk.matchT ha.1.2 (Ty.ok_ps ht x hm) (Nat.le_trans (Zor hm) hn) b h1) h
    ·cases h
   ·cases h
  ·cases h
theorem BOk.matchL {n:Nat}:∀ {xs ys:List Ty} {m m':Bd},(∀ a∈xs,a.ok=true)→(∀ t∈ys,t.ok=true∧t.txt.length≤n)→BOk n m→Go.Sim.matchL m xs ys=some m'→BOk n m'
 | [],_,m,m',_,_,b,h=>by simp [Go.Sim.matchL] at h; subst h; exact b
 | a :: xs,[],m,m',_,_,b,h=>by simp [Go.Sim.matchL] at h
 | a :: xs,t :: ys,m,m',ha,ht,b,h=>by
  simp only [Go.Sim.matchL] at h
  split at h
  ·rename_i m1 h1
   exact BOk.matchL (fun a h=>ha a (by simp [h])) (fun t h=>ht t (by simp [h])) (BOk.matchT (ha a (by simp)) (ht t (by simp)).1 (ht t (by simp)).2 b h1) h
  ·cases h
def bdL (m:Bd):List Nd:=Zed.filterMap fun v=>(Zff m v).map fun t=>([v],t.txt)
noncomputable def Zho (p s:List Nat):Option Bd:=match Zhk p,Zhk s with | some a,some b=>matchT [] a b | _,_=>none
noncomputable def Zlh (p s:List Nat):Bool:=(Zho p s).isSome
noncomputable def Zjh (p s:List Nat):List Nd:=match Zho p s with | some m=>bdL m | none=>[]
theorem Zua {p s:List Nat} {m:Bd} (h:Zho p s=some m):BOk 60 m:=by
 unfold Zho at h
 split at h
 ·rename_i a b ha hb
  obtain ⟨h1,_,_⟩:=Zdt.1 ha
  obtain ⟨h2,h3,h4⟩:=Zdt.1 hb
  exact BOk.matchT h1 h2 (by rw [← h3]; exact h4) BOk.nil h
 ·cases h
theorem Zob:Zed.Nodup:=by decide
theorem Zwl:Zed.Pairwise (· < ·):=by decide
theorem Yhu (m:Bd):bdL m=(Zed.filter fun v=>(Zff m v).isSome).map fun v=>([v],((Zff m v).getD default).txt):=by
 unfold bdL
 induction Zed with
 | nil=>rfl
 | cons v l ih=>
  simp only [List.filterMap_cons,List.filter_cons]
  cases h:Zff m v with
  | none=>simpa [h] using ih
  | some t=>simp [h,ih]
theorem Yff {n:Nat} {m:Bd} (b:BOk n m) {ks:List Nat} (hp:ks.Perm (m.map (·.1))) (hs:ks.Pairwise (·≤·)):ks=Zed.filter fun v=>(Zff m v).isSome:=by
 have hnd:ks.Nodup:=hp.nodup_iff.2 b.nd
 have h1:ks.Pairwise (· < ·):=by
  have:=List.pairwise_and_iff.2 ⟨hs,hnd⟩
  exact this.imp fun h=>by have:=h.1; have:=h.2; omega
 have h2:(Zed.filter fun v=>(Zff m v).isSome).Pairwise (· < ·):=Zwl.filter _
 have hp2:ks.Perm (Zed.filter fun v=>(Zff m v).isSome):=by
  rw [List.perm_ext_iff_of_nodup hnd (Zob.filter _)]
  intro v
  rw [hp.mem_iff,List.mem_filter,Yfu]
  constructor
  ·intro hv
   obtain ⟨p,hp,rfl⟩:=List.mem_map.1 hv
   exact ⟨(Znv _).2 (b.var p hp).1,hv⟩
  ·exact fun h=>h.2
 exact hp2.eq_of_pairwise (fun a b _ _ h1 h2=>by omega) h1 h2
theorem Yio {α:Type} {f:α→Bool} {l:List α} {g:Nat} (hg:g < l.length) (h:(l.take g).find? f=none) (k:f l[g]=true):l.find? f=some l[g]:=by
 have h1:l=l.take g ++ l[g] :: l.drop (g + 1):=by rw [← List.drop_eq_getElem_cons hg,List.take_append_drop]
 conv=>lhs; rw [h1]
 rw [List.find?_append,h,List.find?_cons,k]; rfl
theorem Zyv {α:Type} {f:α→Bool} {l:List α} {g:Nat} (hg:g < l.length) (h:(l.take g).find? f=none) (k:f l[g]=false):(l.take (g + 1)).find? f=none:=by
 rw [List.take_succ_eq_append_getElem hg,List.find?_append,h]; simp [k]
end Go.Sim
