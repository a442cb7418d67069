/- A part of the proof of a statement of this seat: see the text that holds the theorem. No condition. -/
import Derived.Test.YtflfcofeedjblaaGreatDoorPTCSplit
import Derived.Test.YtflfcofeedjblaaGreatDoorCVars
import Derived.Test.YtflfcofeedjblaaGreatDoorCTy
import Derived.Test.YtflfcofeedjblaaGreatDoorPTCWVar2
import Derived.Test.YtflfcofeedjblaaGreatDoorNm
import Derived.Test.YtflfcofeedjblaaGreatDoorSimX
import Derived.Test.YtflfcofeedjblaaGreatDoorShelf
import Derived.Test.YtflfcofeedjblaaGreatDoorPTCMatch2
import Derived.Test.YtflfcofeedjblaaGreatDoorPTCSpecial
import Derived.Test.YtflfcofeedjblaaGreatDoorPTCSApply
set_option linter.unusedVariables false
set_option linter.unusedSimpArgs false
set_option linter.all false
set_option linter.unusedVariables false
set_option linter.unusedSimpArgs false
set_option maxRecDepth 20000
namespace Go.Sim
open Go Go.RowKit

theorem Zgl {h:Zaa} {t:TypeId} {cs:List Zay} {o:Nat}:Zag (h ++ [.cells t cs false]) (.ptr (some (h.length,o)))=cs[o]?:=Zan (t:=t) (cs:=cs) (ro:=false) (by simp)
theorem Yhc {h:Zaa} {t:TypeId} {cs:List Zay} {n:Nat} (hn:cs.length=n):Zbe (h ++ [.cells t cs false]) (.ptr (some (h.length,0))) n=some cs:=by
 rw [Zex (show (h ++ [Zcb.cells t cs false])[h.length]?=some (.cells t cs false) by simp) (by omega)]; simp [← hn]
theorem Zal {h:Zaa} {x:Zcb}:Zbc h.length h (h ++ [x]):=Zbc.app (Nat.le_refl _) _
theorem Zuk {h:Zaa} {t:TypeId} {cs vs:List Zay} (hl:cs.length=vs.length):Zbb (h ++ [.cells t cs false]) (.ptr (some (h.length,0))) vs=some (h ++ [.cells t vs false]):=by
 rw [Zbg (show (h ++ [Zcb.cells t cs false])[h.length]?=some (.cells t cs false) by simp) (by omega)]
 simp [putRow,hl]
theorem Zfb {h:Zaa} {t:TypeId} {x y a b:Zay}:Zbb (h ++ [.cells t [x,y] false]) (.ptr (some (h.length,0))) [a,b]=some (h ++ [.cells t [a,b] false]):=Zuk rfl
theorem Yzf {h:Zaa} {t:TypeId} {x y z a b c:Zay}:Zbb (h ++ [.cells t [x,y,z] false]) (.ptr (some (h.length,0))) [a,b,c]=some (h ++ [.cells t [a,b,c] false]):=Zuk rfl
theorem Row.sl {b:Nat} {h:Zaa} {a:Pt} {n k:Nat} {l:List Nd} (r:Row b h a (n * 2) (Zdb eP l)) (hk:k≤n) (hl:l.length=n):Row b h a (k * 2) (Zdb eP (l.take k)):=by
 obtain ⟨h1,h2⟩:=r
 have e:(Zdb eP (l.take k)).length=k * 2:=by rw [Zat Zcr,List.length_take,Nat.min_eq_left (by omega)]
 refine ⟨e,?_⟩
 rcases h2 with h0 | ⟨i,o,t,all,ro,ha,hb,hi,hle,hcs⟩
 ·exact .inl (by omega)
 ·refine .inr ⟨i,o,t,all,ro,ha,hb,hi,by omega,?_⟩
  rw [← Yks Zcr,hcs,List.take_take,Nat.min_eq_left (by omega)]
theorem Yna {b:Nat} {h:Zaa} {a:Pt} {n c k:Nat} {e:Bool} {l:List Nd} {K:Zay→Prop} (r:Row b h a (n * 2) (Zdb eP l)) (hl:l.length=n) (hk:k≤n) (hc:n≤c) {z:Int} (hz:z=k)
  (hK:∀ a' c' e',Row b h a' (k * 2) (Zdb eP (l.take k))→k≤c'→K (.slice a' k c' e')):Zhu a n c e 2 none (some (.int .i64 z)) none K:=by
 subst hz
 simp only [Zhu,Zlx]
 refine ⟨by omega,?_⟩
 split
 ·have h0:n=0:=by
   obtain ⟨h1,h2⟩:=r
   rcases h2 with h2 | ⟨i,o,t,all,ro,ha,_⟩
   ·omega
   ·cases ha
  have hk0:k=0:=by omega
  subst hk0
  exact ⟨⟨by trivial,by simp,.inl (by trivial)⟩,hK _ _ _ (by simpa using Row.nil) (by omega)⟩
 ·rename_i i o
  refine ⟨fun hlt=>?_,fun hlt=>?_⟩
  ·have e2:((k:Int) - 0).toNat=k:=by omega
   have e3:o + Int.toNat 0 * 2=o:=by simp
   have e4:((c:Int) - 0).toNat=c:=by omega
   rw [e2,e3,e4]
   exact hK _ _ _ (r.sl hk hl) (by omega)
  ·have hk0:k=0:=by omega
   subst hk0
   exact hK _ _ _ (by simpa using Row.nil) (by omega)

theorem Yjc {h:Zaa} {x:Nd} {j:Nat} {c:List Nat} (hj:Zag h (.ptr (some (j,0)))=some (.str c)) (hjl:j < h.length) :
  Zak pg Zdv [.agg [.str x.1,.str x.2],.ptr (some (j,0))] h fun v h'=>v=.bool (decide (x.1=c))∧Zbc h.length h h':=by
 apply Zrp.call
 simp only [Zaw,Zgl,List.getElem?_cons_zero,Zah]
 have:=(Zal (h:=h) (x:=.cells Zbj [.str x.1,.str x.2] false)).cell hjl hj
 rw [this]
 exact ⟨rfl,Zal⟩
theorem Yjl {h:Zaa} {a:Pt} {n c:Nat} {e:Bool} {cs:List Nd} {j:Nat} {s:List Nat} (r:Row h.length h a (n * 2) (Zdb eP cs)) (hn:n≤4611686018427387904) (hj:Zag h (.ptr (some (j,0)))=some (.str s)) (hjl:j < h.length) :
  Zak pg Zen [.slice a n c e,.fn Zdv [.ptr (some (j,0))]] h fun v h'=>(∃ z:Int,v=.int .i64 z∧decide (z ≥ 0)=Zgg cs s)∧Zbc h.length h h':=by
 have hl:cs.length=n:=by have:=r.1; rw [Zat Zcr] at this; omega
 apply Zcc.call
 refine Zcc.L2ind _ _ _ _ _ _ _ (J:=fun (g:Nat) x8 h'=>x8=(g:Int)∧g≤n∧Zbc h.length h h'∧Zgg (cs.take g) s=false) (fun g=>n - g) ?_ 0 _ _ ⟨rfl,by omega,Zbc.refl _ _,rfl⟩
 rintro g x8 h' ⟨rfl,hg,hS,hk⟩ R hR
 unfold Zcc.L2t
 refine Zar (fun hlt=>?_) (fun hge=>?_)
 ·obtain ⟨i,o,hgl,rfl,_,hr,_⟩:=(r.same hS).pr (k:=g) (by omega)
  simp only [Zau,Int.toNat_natCast,hr,Zao,Zae,Zam,Zah]
  refine ⟨by omega,(Yjc (x:=cs[g]) (hS.cell hjl hj) (by have:=hS.le; omega)).mono ?_⟩
  rintro v h2 ⟨rfl,s2⟩
  simp only [Zaq]
  have hS2:=hS.trans (s2.mono hS.le)
  refine Zar (fun he=>?_) (fun he=>?_)
  ·refine ⟨⟨_,rfl,?_⟩,hS2⟩
   have:Zgg cs s=true:=by unfold Zgg; rw [List.any_eq_true]; exact ⟨_,List.getElem_mem hgl,by simpa using he⟩
   rw [this]; simp
  ·rw [Zbm (by omega)]
   exact hR (g + 1) _ _ (by omega) ⟨rfl,by omega,hS2,by rw [Yai hgl,hk]; simp [he]⟩
 ·apply Zcc.A2x0i
  have:g=n:=by omega
  subst this
  rw [List.take_of_length_le (by omega)] at hk
  exact ⟨⟨_,rfl,by rw [hk]; rfl⟩,hS⟩
theorem Zwm {h:Zaa} {a:Pt} {n c:Nat} {e:Bool} {cs:List Nd} {s:List Nat} (r:Row h.length h a (n * 2) (Zdb eP cs)) (hn:n≤4611686018427387904) :
  Zak pg Zjt [.slice a n c e,.str s] h fun v h'=>v=.bool (Zgg cs s)∧Zbc h.length h h':=by
 apply Zzf.call
 simp only [Zaw]
 apply Zdy.call
 have s1:Zbc h.length h (h ++ [.cells Zbi [.str s] false]):=Zal
 refine (Yjl (r.same' s1) hn (s:=s) (by rw [Zgl]; rfl) (by simp)).mono ?_
 rintro v h2 ⟨⟨z,rfl,hz⟩,s2⟩
 simp only [Zax,Zaq]
 exact ⟨by rw [hz],s1.trans (s2.mono s1.le)⟩
theorem Znm {h:Zaa} {a a1:Pt} {n c n1 c1:Nat} {e e1:Bool} {cs:List Nd} {s:List Nat} (r:Row h.length h a (n * 2) (Zdb eP cs)) (hn:n≤4611686018427387904) :
  Zak pg Zgp [.agg [.slice a n c e,.slice a1 n1 c1 e1],.str s] h fun v h'=>v=.int .i64 (Yam cs s)∧Zbc h.length h h':=by
 have hl:cs.length=n:=by have:=r.1; rw [Zat Zcr] at this; omega
 apply Zky.call
 simp only [Zaw,Zgl,Nat.add_zero,List.getElem?_cons_zero,Zaj]
 have s1:Zbc h.length h (h ++ [.cells Zac [.slice a n c e,.slice a1 n1 c1 e1] false]):=Zal
 refine Zky.L2ind _ _ _ _ _ _ _ (J:=fun (g:Nat) x10 h'=>x10=(g:Int)∧g≤n∧Zbc h.length h h'∧Zgg (cs.take g) s=false) (fun g=>n - g) ?_ 0 _ _ ⟨rfl,by omega,s1,rfl⟩
 rintro g x8 h' ⟨rfl,hg,hS,hk⟩ R hR
 unfold Zky.L2t
 refine Zar (fun hlt=>?_) (fun hge=>?_)
 ·obtain ⟨i,o,hgl,rfl,_,hr,_⟩:=(r.same hS).pr (k:=g) (by omega)
  simp only [Zau,Int.toNat_natCast,hr,Zao,Zae,Zam,Zah,Zaw]
  rw [Zfb]
  simp only [Zas,Zgl,Nat.add_zero,List.getElem?_cons_zero,Zah]
  refine ⟨by omega,?_⟩
  have hS2:Zbc h.length h (h' ++ [.cells Zbj [.str cs[g].1,.str cs[g].2] false]):=hS.trans (Zbc.app hS.le _)
  refine Zar (fun he=>?_) (fun he=>?_)
  ·refine ⟨?_,hS2⟩
   have hkn:Zgg cs s=true:=by unfold Zgg; rw [List.any_eq_true]; exact ⟨_,List.getElem_mem hgl,by simpa using he⟩
   unfold Yam
   rw [hkn,if_pos rfl]
   congr 2
   symm
   rw [List.findIdx_eq hgl]
   refine ⟨by simpa using he,fun j hj=>?_⟩
   unfold Zgg at hk
   rw [List.any_eq_false] at hk
   have:=hk cs[j] (List.mem_take_iff_getElem.2 ⟨j,by omega,rfl⟩)
   simpa using this
  ·rw [Zbm (by omega)]
   exact hR (g + 1) _ _ (by omega) ⟨rfl,by omega,hS2,by rw [Yai hgl,hk]; simp [he]⟩
 ·apply Zky.A2x0i
  have:g=n:=by omega
  subst this
  rw [List.take_of_length_le (by omega)] at hk
  exact ⟨by unfold Yam; rw [hk]; rfl,hS⟩

theorem Ycj {s:List Nat} {g:Nat} {z:Int} (hg:g < s.length) (hz:z=((g + 1:Nat):Int)):sub s (g:Int) z=[s[g]]:=by
 subst hz
 simp only [sub,Int.toNat_natCast]
 rw [List.take_succ_eq_append_getElem hg,List.drop_append_of_le_length (by simp; omega),List.drop_of_length_le (by rw [List.length_take]; exact Nat.min_le_left _ _),List.nil_append]
theorem Zwj {g:Nat} (hg:0 < g) (hn:g≤9223372036854775807):IntKind.wrap .i64 ((g:Int) - 1)=((g - 1:Nat):Int):=by rw [IntWalk.i64_in _ (by omega)]; omega
theorem Ylt {cs:List Nd} {s:List Nat} {g:Nat} (hg:g < s.length):Ycy cs s g=(Zgg cs [s[g]] && (g == 0 || decide (s.getD (g - 1) 0 < s[g]))):=by unfold Ycy; rw [Zgi hg]
theorem Ymc {cs:List Nd} {g:Nat} (hg:g < cs.length):Ydf cs g=(Zwv cs[g].1 && (g == 0 || Zfp (cs.getD (g - 1) ([],[])).1 cs[g].1) && Yhj (cs.take g) cs[g].2):=by unfold Ydf; rw [Zgi hg]
theorem Znn {cs:List Nd} {g:Nat} (hg:g < cs.length) (h:Ydf cs g=false):Zir cs=false:=by unfold Zir; rw [Zmp hg h]; rfl
theorem Zza {h:Zaa} {a a1:Pt} {n c n1 c1:Nat} {e e1:Bool} {cs:List Nd} (r:Row h.length h a (n * 2) (Zdb eP cs)) (hc:n≤c) (hn:n≤1048576) (hs:∀ p∈cs,p.2.length≤1048576) :
  Zak pg Zlo [.agg [.slice a n c e,.slice a1 n1 c1 e1]] h fun v h'=>v=.bool (Zir cs)∧Zbc h.length h h':=by
 have hl:cs.length=n:=by have:=r.1; rw [Zat Zcr] at this; omega
 apply Zdu.call
 simp only [Zaw,Zgl,Nat.add_zero,List.getElem?_cons_zero,Zaj]
 have s1:Zbc h.length h (h ++ [.cells Zac [.slice a n c e,.slice a1 n1 c1 e1] false]):=Zal
 have hw:(h ++ [Zcb.cells Zac [.slice a n c e,.slice a1 n1 c1 e1] false])[h.length]?=some (.cells Zac [.slice a n c e,.slice a1 n1 c1 e1] false):=by simp
 refine Zdu.L2ind _ _ _ _ _ _ _ _ (J:=fun (g:Nat) x9 h'=>x9=(g:Int)∧g≤n∧Zbc h.length h h'∧h'[h.length]?=some (.cells Zac [.slice a n c e,.slice a1 n1 c1 e1] false)∧(List.range g).all (Ydf cs)=true) (fun g=>n - g) ?_ 0 _ _ ⟨rfl,by omega,s1,hw,rfl⟩
 rintro g x9 h' ⟨rfl,hg,hS,hW,hk⟩ R hR
 unfold Zdu.L2t
 refine Zar (fun hlt=>?_) (fun hge=>?_)
 ·obtain ⟨i,o,hgl,rfl,hil,hr,_⟩:=(r.same hS).pr (k:=g) (by omega)
  simp only [Zau,Int.toNat_natCast,hr,Zao,Zae,Zam,Zah,Zaw]
  rw [Zfb]
  simp only [Zas,Zgl,Nat.add_zero,List.getElem?_cons_zero,Zah]
  have hS2:Zbc h.length h (h' ++ [.cells Zbj [.str cs[g].1,.str cs[g].2] false]):=hS.trans (Zbc.app hS.le _)
  refine ⟨by omega,(Yod _).mono ?_⟩
  rintro v h2 ⟨rfl,rfl⟩
  simp only [Zaq,true_and]
  have hcl:=Ymc hgl
  have hle:=hS2.le
  have hWl:=Own.lt hW
  have hW2:(h' ++ [.cells Zbj [.str cs[g].1,.str cs[g].2] false])[h.length]?=some (.cells Zac [.slice (some (i,o)) n c e,.slice a1 n1 c1 e1] false):=Zie hW
  have hcell:∀ o',Zag (h' ++ [.cells Zbj [.str cs[g].1,.str cs[g].2] false]) (.ptr (some (h'.length,o')))=([.str cs[g].1,.str cs[g].2]:List Zay)[o']?:=fun o'=>Zgl
  -- the classes above
  have key:(Zwv cs[g].1 && (g == 0 || Zfp (cs.getD (g - 1) ([],[])).1 cs[g].1))=true→Zdu.J6 (fun v h'=>v=.bool (Zir cs)∧Zbc h.length h h') R h'.length 0 h.length 0 (g:Int) (some (i,o)) n c e (n:Int) (g:Int) (h' ++ [.cells Zbj [.str cs[g].1,.str cs[g].2] false]):=by
   intro hpre
   rw [hpre,Bool.true_and] at hcl
   apply Zdu.J6i
   rw [hcell]
   simp only [Nat.zero_add,List.getElem?_cons_succ,List.getElem?_cons_zero,Zah]
   have hsl:=hs cs[g] (List.getElem_mem hgl)
   refine Zdu.L7ind _ _ _ _ _ _ _ _ _ _ _ _ _ _ (J:=fun (q:Nat) x37 h3=>x37=(q:Int)∧q≤cs[g].2.length∧Zbc h.length h h3∧h3[h.length]?=some (.cells Zac [.slice (some (i,o)) n c e,.slice a1 n1 c1 e1] false)∧h3[h'.length]?=some (.cells Zbj [.str cs[g].1,.str cs[g].2] false)∧(List.range q).all (Ycy (cs.take g) cs[g].2)=true) (fun q=>cs[g].2.length - q) ?_ 0 _ _ ⟨rfl,by omega,hS2,hW2,by simp,rfl⟩
   rintro q x37 h3 ⟨rfl,hq,hS3,hW3,hI3,hk3⟩ R7 hR7
   unfold Zdu.L7t
   refine Zar (fun hlt3=>?_) (fun hge3=>?_)
   ·have hq':q < cs[g].2.length:=by omega
    simp only [Nat.add_zero,Nat.zero_add,Zan hW3,Zan hI3,List.getElem?_cons_succ,List.getElem?_cons_zero,Zaj,Zah,true_and]
    refine Yna (r.same hS3) hl (k:=g) (by omega) hc rfl (fun a' c' e' hrow hc'=>?_)
    simp only [Zaj]
    rw [Zbm (by omega),Ycj hq' rfl]
    refine ⟨⟨by omega,by omega,by omega⟩,(Zwm (hrow.mono hS3.le) (by omega)).mono ?_⟩
    rintro v h4 ⟨rfl,s4⟩
    have hS4:=hS3.trans (s4.mono hS3.le)
    have hW4:h4[h.length]?=some (.cells Zac [.slice (some (i,o)) n c e,.slice a1 n1 c1 e1] false):=by rw [s4.eq _ (Own.lt hW3)]; exact hW3
    have hI4:h4[h'.length]?=some (.cells Zbj [.str cs[g].1,.str cs[g].2] false):=by rw [s4.eq _ (Own.lt hI3)]; exact hI3
    simp only [Zaq,Zan hW3,Zan hW4,Zan hI4,Nat.add_zero,Nat.zero_add,List.getElem?_cons_succ,List.getElem?_cons_zero,Zah,true_and]
    have hsa:=Ylt (cs:=cs.take g) hq'
    have fail:Ycy (cs.take g) cs[g].2 q=false→(Zay.bool false=Zay.bool (Zir cs)∧Zbc h.length h h4):=fun hf=>⟨by rw [Znn hgl (by rw [hcl]; unfold Yhj; exact Zmp hq' hf)],hS4⟩
    have next:Ycy (cs.take g) cs[g].2 q=true→R7 h.length 0 (g:Int) h'.length 0 (some (i,o)) n c e (n:Int) (g:Int) (cs[g].2.length:Int) (IntKind.wrap .i64 ((q:Int) + 1)) h4:=fun ht=>by
     rw [Zbm (by omega)]
     exact hR7 (q + 1) _ _ (by omega) ⟨rfl,by omega,hS4,hW4,hI4,Ziz hk3 ht⟩
    refine Zbs (fun hb=>fail (by rw [hsa,hb]; rfl)) (fun hb=>?_)
    refine Zar (fun h0=>?_) (fun h0=>?_)
    ·have h0':0 < q:=by omega
     rw [Zwj h0' (by omega)]
     refine ⟨⟨by omega,by omega⟩,⟨by omega,by omega⟩,?_⟩
     simp only [Int.toNat_natCast]
     have hd1:cs[g].2.getD q 0=cs[g].2[q]:=Zgi hq'
     have hq0:(q == 0)=false:=by simp; omega
     refine Zar (fun h1=>fail ?_) (fun h1=>Zdu.J11i _ _ _ _ _ _ _ _ _ _ _ _ _ _ _ _ _ (next ?_))
     ·rw [hsa,hb,hq0,← hd1]; simp only [Bool.true_and,Bool.false_or,decide_eq_false_iff_not]; omega
     ·rw [hsa,hb,hq0,← hd1]; simp only [Bool.true_and,Bool.false_or,decide_eq_true_eq]; omega
    ·have:q=0:=by omega
     subst this
     exact Zdu.J11i _ _ _ _ _ _ _ _ _ _ _ _ _ _ _ _ _ (next (by rw [hsa,hb]; rfl))
   ·apply Zdu.A7x2i
    apply Zdu.J12i
    have:q=cs[g].2.length:=by omega
    subst this
    rw [Zbm (by omega)]
    exact hR (g + 1) _ _ (by omega) ⟨rfl,by omega,hS3,hW3,Ziz hk (by rw [hcl]; exact hk3)⟩
  refine Zbs (fun hb=>⟨by rw [Znn hgl (by rw [hcl,hb]; rfl)],hS2⟩) (fun hb=>?_)
  refine Zar (fun h0=>?_) (fun h0=>?_)
  ·have h0':0 < g:=by omega
   rw [Zan hW2]
   simp only [List.getElem?_cons_zero,Zaj]
   rw [Zwj h0' (by omega)]
   obtain ⟨i',o',hgl',heq,_,_,hc0,_⟩:=(r.same hS2).pr (k:=g - 1) (by omega)
   cases heq
   simp only [Zau,Int.toNat_natCast,hc0,Zah,Nat.add_zero,Nat.zero_add,hcell,List.getElem?_cons_zero,true_and]
   refine ⟨by omega,?_⟩
   have hg0:(g == 0)=false:=by simp; omega
   have hgd:cs.getD (g - 1) ([],[])=cs[g - 1]:=Zgi hgl'
   refine Zbs (fun hb2=>⟨by rw [Znn hgl (by rw [hcl,hb,hg0,hgd,hb2]; rfl)],hS2⟩) (fun hb2=>key (by rw [hb,hg0,hgd,hb2]; rfl))
  ·have:g=0:=by omega
   subst this
   exact key (by rw [hb]; rfl)
 ·apply Zdu.A2x0i
  have:g=n:=by omega
  subst this
  have hok:Zir cs=decide (1≤g∧g≤4):=by unfold Zir; rw [hl,hk,Bool.true_and]
  simp only [Nat.add_zero,Zan hW,List.getElem?_cons_zero,Zaj]
  refine Zar (fun h1=>?_) (fun h1=>?_)
  ·refine ⟨?_,hS⟩
   rw [hok]; congr 1; rw [Bool.eq_iff_iff]; simp; omega
  ·refine ⟨?_,hS⟩
   rw [hok]; congr 1; symm; simp; omega
end Go.Sim

set_option linter.unusedVariables false
set_option linter.unusedSimpArgs false
set_option maxRecDepth 20000
namespace Go.Sim
open Go Go.RowKit
theorem Zyy {h:Zaa} {a:Pt} {n c:Nat} {e:Bool} {cs:List Nd} (r:Row h.length h a (n * 2) (Zdb eP cs)) (hc:n≤c) (hn:n≤1048576) (hs:∀ p∈cs,p.2.length≤1048576) (hb256:∀ p∈cs,∀ b∈p.1,b < 256) :
  Zak pg Zlg [.slice a n c e] h fun v h'=>v=.bool (Zir cs)∧Zbc h.length h h':=by
 have hl:cs.length=n:=by have:=r.1; rw [Zat Zcr] at this; omega
 apply Zdw.call
 refine Zdw.L2ind _ _ _ _ _ _ _ _ _ _ (J:=fun (g:Nat) x9 h'=>x9=(g:Int)∧g≤n∧Zbc h.length h h'∧(List.range g).all (Ydf cs)=true) (fun g=>n - g) ?_ 0 _ _ ⟨rfl,by omega,Zbc.refl _ _,rfl⟩
 rintro g x9 h' ⟨rfl,hg,hS,hk⟩ R hR
 unfold Zdw.L2t
 refine Zar (fun hlt=>?_) (fun hge=>?_)
 ·obtain ⟨i,o,hgl,rfl,hil,hr,_⟩:=(r.same hS).pr (k:=g) (by omega)
  simp only [Zau,Int.toNat_natCast,hr,Zao,Zae,Zam,Zah,Zaw]
  rw [Zfb]
  simp only [Zas,Zgl,Nat.add_zero,List.getElem?_cons_zero,Zah]
  have hS2:Zbc h.length h (h' ++ [.cells Zbj [.str cs[g].1,.str cs[g].2] false]):=hS.trans (Zbc.app hS.le _)
  refine ⟨by omega,(Zzc _ (hb256 _ (List.getElem_mem hgl))).mono ?_⟩
  rintro v h2 ⟨rfl,rfl⟩
  simp only [Zaq,true_and]
  have hcl:=Ymc hgl
  have hle:=hS2.le
  have hcell:∀ o',Zag (h' ++ [.cells Zbj [.str cs[g].1,.str cs[g].2] false]) (.ptr (some (h'.length,o')))=([.str cs[g].1,.str cs[g].2]:List Zay)[o']?:=fun o'=>Zgl
  -- the classes above
  have key:(Zwv cs[g].1 && (g == 0 || Zfp (cs.getD (g - 1) ([],[])).1 cs[g].1))=true→Zdw.J6 (fun v h'=>v=.bool (Zir cs)∧Zbc h.length h h') R h'.length 0 (some (i,o)) n c e (g:Int) (some (i,o)) n c e (n:Int) (g:Int) (h' ++ [.cells Zbj [.str cs[g].1,.str cs[g].2] false]):=by
   intro hpre
   rw [hpre,Bool.true_and] at hcl
   apply Zdw.J6i
   rw [hcell]
   simp only [Nat.zero_add,List.getElem?_cons_succ,List.getElem?_cons_zero,Zah]
   have hsl:=hs cs[g] (List.getElem_mem hgl)
   refine Zdw.L7ind _ _ _ _ _ _ _ _ _ _ _ _ _ _ _ _ (J:=fun (q:Nat) x37 h3=>x37=(q:Int)∧q≤cs[g].2.length∧Zbc h.length h h3∧h3[h'.length]?=some (.cells Zbj [.str cs[g].1,.str cs[g].2] false)∧(List.range q).all (Ycy (cs.take g) cs[g].2)=true) (fun q=>cs[g].2.length - q) ?_ 0 _ _ ⟨rfl,by omega,hS2,by simp,rfl⟩
   rintro q x37 h3 ⟨rfl,hq,hS3,hI3,hk3⟩ R7 hR7
   unfold Zdw.L7t
   refine Zar (fun hlt3=>?_) (fun hge3=>?_)
   ·have hq':q < cs[g].2.length:=by omega
    simp only [Nat.add_zero,Nat.zero_add,Zan hI3,List.getElem?_cons_succ,List.getElem?_cons_zero,Zaj,Zah,true_and]
    refine Yna (r.same hS3) hl (k:=g) (by omega) hc rfl (fun a' c' e' hrow hc'=>?_)
    simp only [Zaj]
    rw [Zbm (by omega),Ycj hq' rfl]
    refine ⟨⟨by omega,by omega,by omega⟩,(Znm (hrow.mono hS3.le) (by omega)).mono ?_⟩
    rintro v h4 ⟨rfl,s4⟩
    have hS4:=hS3.trans (s4.mono hS3.le)
    have hI4:h4[h'.length]?=some (.cells Zbj [.str cs[g].1,.str cs[g].2] false):=by rw [s4.eq _ (Own.lt hI3)]; exact hI3
    simp only [Zax,Ycm,Zan hI4,Nat.add_zero,Nat.zero_add,List.getElem?_cons_succ,List.getElem?_cons_zero,Zah,true_and]
    have hsa:=Ylt (cs:=cs.take g) hq'
    have fail:Ycy (cs.take g) cs[g].2 q=false→(Zay.bool false=Zay.bool (Zir cs)∧Zbc h.length h h4):=fun hf=>⟨by rw [Znn hgl (by rw [hcl]; unfold Yhj; exact Zmp hq' hf)],hS4⟩
    have next:Ycy (cs.take g) cs[g].2 q=true→R7 (some (i,o)) n c e (g:Int) h'.length 0 (some (i,o)) n c e (n:Int) (g:Int) (cs[g].2.length:Int) (IntKind.wrap .i64 ((q:Int) + 1)) h4:=fun ht=>by
     rw [Zbm (by omega)]
     exact hR7 (q + 1) _ _ (by omega) ⟨rfl,by omega,hS4,hI4,Ziz hk3 ht⟩
    refine Zbs (fun hb=>fail (by rw [hsa,hb]; rfl)) (fun hb=>?_)
    refine Zar (fun h0=>?_) (fun h0=>?_)
    ·have h0':0 < q:=by omega
     rw [Zwj h0' (by omega)]
     refine ⟨⟨by omega,by omega⟩,⟨by omega,by omega⟩,?_⟩
     simp only [Int.toNat_natCast]
     have hd1:cs[g].2.getD q 0=cs[g].2[q]:=Zgi hq'
     have hq0:(q == 0)=false:=by simp; omega
     refine Zar (fun h1=>fail ?_) (fun h1=>Zdw.J11i _ _ _ _ _ _ _ _ _ _ _ _ _ _ _ _ _ _ _ (next ?_))
     ·rw [hsa,hb,hq0,← hd1]; simp only [Bool.true_and,Bool.false_or,decide_eq_false_iff_not]; omega
     ·rw [hsa,hb,hq0,← hd1]; simp only [Bool.true_and,Bool.false_or,decide_eq_true_eq]; omega
    ·have:q=0:=by omega
     subst this
     exact Zdw.J11i _ _ _ _ _ _ _ _ _ _ _ _ _ _ _ _ _ _ _ (next (by rw [hsa,hb]; rfl))
   ·apply Zdw.A7x2i
    apply Zdw.J12i
    have:q=cs[g].2.length:=by omega
    subst this
    rw [Zbm (by omega)]
    exact hR (g + 1) _ _ (by omega) ⟨rfl,by omega,hS3,Ziz hk (by rw [hcl]; exact hk3)⟩
  refine Zbs (fun hb=>⟨by rw [Znn hgl (by rw [hcl,hb]; rfl)],hS2⟩) (fun hb=>?_)
  refine Zar (fun h0=>?_) (fun h0=>?_)
  ·have h0':0 < g:=by omega
   rw [Zwj h0' (by omega)]
   obtain ⟨i',o',hgl',heq,_,_,hc0,_⟩:=(r.same hS2).pr (k:=g - 1) (by omega)
   cases heq
   simp only [Zau,Int.toNat_natCast,hc0,Zah,Nat.add_zero,Nat.zero_add,hcell,List.getElem?_cons_zero,true_and]
   refine ⟨by omega,?_⟩
   have hg0:(g == 0)=false:=by simp; omega
   have hgd:cs.getD (g - 1) ([],[])=cs[g - 1]:=Zgi hgl'
   refine Zbs (fun hb2=>⟨by rw [Znn hgl (by rw [hcl,hb,hg0,hgd,hb2]; rfl)],hS2⟩) (fun hb2=>key (by rw [hb,hg0,hgd,hb2]; rfl))
  ·have:g=0:=by omega
   subst this
   exact key (by rw [hb]; rfl)
 ·apply Zdw.A2x0i
  have:g=n:=by omega
  subst this
  have hok:Zir cs=decide (1≤g∧g≤4):=by unfold Zir; rw [hl,hk,Bool.true_and]
  refine Yfw.mono ?_
  rintro v h2 ⟨rfl,rfl⟩
  simp only [Zaq]
  refine ⟨?_,hS⟩
  rw [hok]; congr 1; rw [Bool.eq_iff_iff]; simp; omega
end Go.Sim

set_option linter.unusedVariables false
set_option linter.unusedSimpArgs false
set_option maxRecDepth 20000
namespace Go.Sim
open Go Go.RowKit

theorem Yxz (c:Nat):decide (c∈[120,121,122,88,89,90])=Zee c:=by rw [Bool.eq_iff_iff]; simp [Zee,or_assoc]
theorem Yes {h:Zaa} (s:List Nat):Zak pg Znx [.str s] h fun v h'=>v=.bool (Zme s)∧h'=h:=by
 apply Zzh.call
 match s with
 | []=>exact Zcw (fun h1=>by simp at h1) (fun h1=>⟨rfl,rfl⟩)
 | [c]=>
  refine Zcw (fun h1=>?_) (fun h1=>by simp at h1)
  refine Zlw.mono ?_
  rintro v h' ⟨rfl,rfl⟩
  simp only [Zaq]
  exact ⟨by rw [Yxz]; rfl,by trivial⟩
 | c :: d :: r=>exact Zcw (fun h1=>by simp at h1; omega) (fun h1=>⟨rfl,rfl⟩)
theorem Zrz {h:Zaa} (c:Nat):Zak pg Zia [.int .u8 (c:Int)] h fun v h'=>v=.bool (Zee c)∧h'=h:=by
 apply Zrv.call
 refine (Yaj _ c (by simp)).mono ?_
 rintro v h' ⟨rfl,rfl⟩
 simp only [Zax]
 exact ⟨by rw [Yxc],by trivial⟩
noncomputable def Ywu (s v:List Nat):Int:=if Zor s && Zme v then (s.count (v.headD 0):Nat) else -1
theorem Yhl {h:Zaa} (s v:List Nat) (hs:s.length≤1048576):Zak pg Zqf [.str s,.str v] h fun x h'=>x=.int .i64 (Ywu s v)∧Zbc h.length h h':=by
 apply Zgr.call
 refine (Zjz s (by omega) h).mono ?_
 rintro x h1 ⟨rfl,s1⟩
 simp only [Zaq]
 refine Zbs (fun hb=>⟨by unfold Ywu; rw [hb]; rfl,s1⟩) (fun hb=>?_)
 match v with
 | []=>exact Ziy (fun _=>⟨by unfold Ywu; rw [hb]; rfl,s1⟩) (fun h1=>by simp at h1)
 | c :: d :: r=>exact Ziy (fun _=>⟨by unfold Ywu; rw [hb]; rfl,s1⟩) (fun h1=>by simp at h1; omega)
 | [c]=>
  refine Ziy (fun h1=>by simp at h1) (fun _=>?_)
  refine ⟨⟨by omega,by simp⟩,?_⟩
  simp only [Int.toNat_zero,List.getD_cons_zero]
  refine (Zrz c).mono ?_
  rintro x h2 ⟨rfl,rfl⟩
  simp only [Zaq]
  refine Zbs (fun hv=>⟨by unfold Ywu; rw [hb,show Zme [c]=Zee c from rfl,hv]; rfl,s1⟩) (fun hv=>?_)
  apply Zgr.J3i
  refine Zgr.L5ind _ _ _ _ (J:=fun (g:Nat) x5 x23 h'=>x23=(g:Int)∧g≤s.length∧x5=((s.take g).count c:Nat)∧h'=h2) (fun g=>s.length - g) ?_ 0 _ _ _ ⟨rfl,by omega,by simp,rfl⟩
  rintro g x5 x23 h' ⟨rfl,hg,rfl,rfl⟩ R hR
  unfold Zgr.L5t
  refine Zar (fun hlt=>?_) (fun hge=>?_)
  ·have hg':g < s.length:=by omega
   refine ⟨⟨by omega,by omega⟩,⟨by omega,by simp⟩,?_⟩
   simp only [Int.toNat_zero,List.getD_cons_zero,Int.toNat_natCast,Zgi hg']
   have hc:=List.count_le_length (a:=c) (l:=s.take g)
   rw [List.length_take] at hc
   have htk:(s.take (g + 1)).count c=(s.take g).count c + if s[g]=c then 1 else 0:=by
    rw [List.take_succ_eq_append_getElem hg',List.count_append]; simp [List.count_cons]
   refine Zcw (fun he=>?_) (fun he=>?_)
   ·apply Zgr.J9i
    rw [Zbm (by omega),Zbm (by omega)]
    exact hR (g + 1) _ _ _ (by omega) ⟨rfl,by omega,by rw [htk,if_pos (by omega)],rfl⟩
   ·apply Zgr.J9i
    rw [Zbm (by omega)]
    exact hR (g + 1) _ _ _ (by omega) ⟨rfl,by omega,by rw [htk,if_neg (by omega)]; rfl,rfl⟩
  ·apply Zgr.A5x0i
   have:g=s.length:=by omega
   subst this
   rw [List.take_length]
   refine ⟨?_,s1⟩
   unfold Ywu
   rw [hb,show Zme [c]=Zee c from rfl,hv]; rfl
theorem Zup {h:Zaa} (s:List Nat) (hs:s.length≤1048576):Zak pg Zho [.str s] h fun v h'=>v=.str (if Zor s=true then Zre s else [])∧Zbc h.length h h':=by
 apply Zit.call
 simp only [Zaw]
 have hlist:(h ++ [Zcb.cells Zbi [.str [88],.str [89],.str [90],.str [120],.str [121],.str [122]] false])[h.length]?=some (.cells Zbi [.str [88],.str [89],.str [90],.str [120],.str [121],.str [122]] false):=by simp
 refine Zit.L3ind _ _ _ _ _ _ _ (J:=fun (g:Nat) x3 x8 h'=>x8=(g:Int)∧g≤6∧Zbc h.length h h'∧h'[h.length]?=some (.cells Zbi [.str [88],.str [89],.str [90],.str [120],.str [121],.str [122]] false)∧x3=if Zor s=true then (Zfg.take g).filter fun v=>decide (v∈s) else []) (fun g=>6 - g) ?_ 0 _ _ _
  ⟨rfl,by omega,Zal,hlist,by simp⟩
 rintro g x3 x8 h' ⟨rfl,hg,hS,hl,rfl⟩ R hR
 unfold Zit.L3t
 refine Zar (fun hlt=>?_) (fun hge=>?_)
 ·have hlt':g < 6:=by omega
  have hc:∃ c,Zfg[g]?=some c∧Zee c=true∧Zag h' (.ptr (some (h.length,0 + (g:Int).toNat * 1)))=some (.str [c]):=by
   rw [Zan hl,Int.toNat_natCast]
   match g,hlt' with
   | 0,_ | 1,_ | 2,_ | 3,_ | 4,_ | 5,_=>exact ⟨_,rfl,rfl,rfl⟩
  obtain ⟨c,hc1,hcv,hc2⟩:=hc
  simp only [Zau,hc2,Zah]
  refine ⟨by omega,(Yhl s [c] hs).mono ?_⟩
  rintro v h2 ⟨rfl,s2⟩
  simp only [Zax]
  have htk:Zfg.take (g + 1)=Zfg.take g ++ [c]:=by rw [List.take_succ,hc1]; rfl
  have hS2:=hS.trans (s2.mono hS.le)
  have hl2:h2[h.length]?=some (.cells Zbi [.str [88],.str [89],.str [90],.str [120],.str [121],.str [122]] false):=by rw [s2.eq _ (Own.lt hl)]; exact hl
  have hcn:decide (Ywu s [c] > 0)=(Zor s && decide (c∈s)):=by
   unfold Ywu
   rw [show Zme [c]=Zee c from rfl,hcv]
   cases hb:Zor s with
   | false=>rfl
   | true=>
    simp only [Bool.and_self,if_true,Bool.true_and,List.headD_cons]
    rw [Bool.eq_iff_iff]; simp [List.count_pos_iff]
  have hbd:(if Zor s=true then (Zfg.take g).filter fun v=>decide (v∈s) else []).length≤6:=by
   split
   ·exact Nat.le_trans (List.length_filter_le _ _) (by simp; omega)
   ·simp
  rw [hcn]
  refine Zdi (fun hb=>?_) (fun hb=>?_)
  ·simp only [Bool.and_eq_true] at hb
   refine ⟨by simp only [List.length_cons,List.length_nil]; omega,?_⟩
   apply Zit.J7i
   rw [Zbm (by omega)]
   refine hR (g + 1) _ _ _ (by omega) ⟨rfl,by omega,hS2,hl2,?_⟩
   rw [if_pos hb.1,if_pos hb.1,htk,List.filter_append]; simp [hb.2]
  ·apply Zit.J7i
   rw [Zbm (by omega)]
   refine hR (g + 1) _ _ _ (by omega) ⟨rfl,by omega,hS2,hl2,?_⟩
   cases ht:Zor s with
   | false=>simp
   | true=>rw [ht,Bool.true_and] at hb; rw [htk,List.filter_append]; simp; simpa using hb
 ·apply Zit.A3x0i
  have:g=6:=by omega
  subst this
  exact ⟨rfl,hS⟩
theorem Yph {h:Zaa} (x y:List Nat) (hx:x.length≤1048576) (hy:y.length≤1048576):Zak pg Zpx [.str x,.str y] h fun v h'=>v=.bool (x.all fun c=>decide (c∈y))∧h'=h:=by
 apply Zjw.call
 refine Zjw.L2ind _ _ _ _ (J:=fun (g:Nat) x8 h'=>x8=(g:Int)∧g≤x.length∧h'=h∧(x.take g).all (fun c=>decide (c∈y))=true) (fun g=>x.length - g) ?_ 0 _ _ ⟨rfl,by omega,rfl,by simp⟩
 rintro g x8 h' ⟨rfl,hg,rfl,hk⟩ R hR
 unfold Zjw.L2t
 refine Zar (fun hlt=>?_) (fun hge=>?_)
 ·have hg':g < x.length:=by omega
  refine ⟨⟨by omega,by omega⟩,?_⟩
  simp only [Int.toNat_natCast,Zgi hg']
  refine (Yaj y x[g] (by omega)).mono ?_
  rintro v h2 ⟨rfl,rfl⟩
  simp only [Zax]
  have hix:decide (Zxr y x[g] < 0)=!decide (x[g]∈y):=by
   by_cases hm:x[g]∈y
   ·have:=(Zzu y x[g]).2 hm
    simp [hm]; omega
   ·rw [Yan hm]; simp [hm]
  rw [hix]
  refine Zbs (fun hb=>⟨by rw [Zrd hg' hb],by trivial⟩) (fun hb=>?_)
  rw [Zbm (by omega)]
  exact hR (g + 1) _ _ (by omega) ⟨rfl,by omega,rfl,Zgo hg' hk hb⟩
 ·apply Zjw.A2x0i
  have:g=x.length:=by omega
  subst this
  rw [List.take_length] at hk
  exact ⟨by rw [hk],by trivial⟩

theorem Ymi {cs:List Nd} {ct tt:List Nat} {ns:List Nd} (h1:Zir cs=true) (h2:Zgg cs ct=true) (h3:Zor tt=true) (h4:tt.length≤20) (h5:Zme tt=false) (h6:ns.length≤3):Zoz cs ((ct,tt),ns)=ns.all (Zks cs tt):=by
 unfold Zoz; simp [h1,h2,h3,h4,h5,h6]
theorem Zzj {h:Zaa} {a a1 a2:Pt} {n c n1 c1 n2 c2:Nat} {e e1 e2:Bool} {cs ns:List Nd} {ct tt:List Nat} (r:Row h.length h a (n * 2) (Zdb eP cs)) (hc:n≤c) (hn:n≤1048576) (hs:∀ p∈cs,p.2.length≤1048576)
  (r2:Row h.length h a2 (n2 * 2) (Zdb eP ns)) (hn2:n2≤1048576) (hns:∀ p∈ns,p.2.length≤1048576) (htt:tt.length≤1048576) :
  Zak pg Zkq [.agg [.slice a n c e,.slice a1 n1 c1 e1],.agg [.str ct,.str tt,.slice a2 n2 c2 e2]] h fun v h'=>v=.bool (Zoz cs ((ct,tt),ns))∧Zbc h.length h h':=by
 have hl:cs.length=n:=by have:=r.1; rw [Zat Zcr] at this; omega
 have hl2:ns.length=n2:=by have:=r2.1; rw [Zat Zcr] at this; omega
 apply Zdf.call
 simp only [Zaw]
 generalize hh0:h ++ [Zcb.cells Zac [.slice a n c e,.slice a1 n1 c1 e1] false]=h0
 generalize hh1:h0 ++ [Zcb.cells Zad [.str ct,.str tt,.slice a2 n2 c2 e2] false]=h1
 have s0:Zbc h.length h h0:=by rw [← hh0]; exact Zal
 have s01:Zbc h0.length h0 h1:=by rw [← hh1]; exact Zal
 have s1:Zbc h.length h h1:=s0.trans (s01.mono s0.le)
 have hl0:h0.length=h.length + 1:=by rw [← hh0]; simp
 have hl1:h1.length=h.length + 2:=by rw [← hh1]; simp [hl0]
 have w1:h1[h.length]?=some (.cells Zac [.slice a n c e,.slice a1 n1 c1 e1] false):=by rw [← hh1,Zzg (by omega),← hh0]; simp
 have i1:h1[h0.length]?=some (.cells Zad [.str ct,.str tt,.slice a2 n2 c2 e2] false):=by rw [← hh1]; simp
 rw [Zex w1 (by simp)]
 simp only [List.drop_zero,List.take_succ_cons,List.take_zero,Zao,Zae,Zaj,Zam]
 refine (Zza (r.same' s1) hc hn hs).mono ?_
 rintro v h2 ⟨rfl,s2⟩
 have S2:Zbc h.length h h2:=s1.trans (s2.mono (by omega))
 have w2:h2[h.length]?=some (.cells Zac [.slice a n c e,.slice a1 n1 c1 e1] false):=by rw [s2.eq _ (by omega)]; exact w1
 have i2:h2[h0.length]?=some (.cells Zad [.str ct,.str tt,.slice a2 n2 c2 e2] false):=by rw [s2.eq _ (by omega)]; exact i1
 simp only [Zaq]
 refine Zbs (fun hb=>⟨by unfold Zoz; rw [hb]; rfl,S2⟩) (fun b1=>?_)
 simp only [Nat.add_zero,Nat.zero_add,Zan w2,Zan i2,List.getElem?_cons_succ,List.getElem?_cons_zero,Zaj,Zah]
 refine (Zwm (r.same' S2) (by omega)).mono ?_
 rintro v h3 ⟨rfl,s3⟩
 have hle2:=s2.le
 have S3:Zbc h.length h h3:=S2.trans (s3.mono S2.le)
 have i3:h3[h0.length]?=some (.cells Zad [.str ct,.str tt,.slice a2 n2 c2 e2] false):=by rw [s3.eq _ (by omega)]; exact i2
 have w3:h3[h.length]?=some (.cells Zac [.slice a n c e,.slice a1 n1 c1 e1] false):=by rw [s3.eq _ (by omega)]; exact w2
 simp only [Zaq]
 refine Zbs (fun hb=>⟨by unfold Zoz; rw [b1,hb]; rfl,S3⟩) (fun b2=>?_)
 simp only [Zan i3,List.getElem?_cons_succ,List.getElem?_cons_zero,Zah]
 refine (Znu tt h3).mono ?_
 rintro v h4 ⟨rfl,s4⟩
 have hle3:=s3.le
 have S4:Zbc h.length h h4:=S3.trans (s4.mono S3.le)
 have i4:h4[h0.length]?=some (.cells Zad [.str ct,.str tt,.slice a2 n2 c2 e2] false):=by rw [s4.eq _ (by omega)]; exact i3
 have w4:h4[h.length]?=some (.cells Zac [.slice a n c e,.slice a1 n1 c1 e1] false):=by rw [s4.eq _ (by omega)]; exact w3
 simp only [Zaq]
 refine Zbs (fun hb=>⟨by unfold Zoz; rw [b1,b2,hb]; rfl,S4⟩) (fun b3=>?_)
 simp only [Zan i4,List.getElem?_cons_succ,List.getElem?_cons_zero,Zah]
 refine Zar (fun hb=>⟨by unfold Zoz; rw [b1,b2,b3]; simp [show ¬ tt.length≤20 by omega],S4⟩) (fun b4=>?_)
 refine (Yes tt).mono ?_
 rintro v h5 ⟨rfl,rfl⟩
 simp only [Zaq]
 refine Zdi (fun hb=>⟨by unfold Zoz; rw [hb]; simp,S4⟩) (fun b5=>?_)
 simp only [Zan i4,List.getElem?_cons_succ,List.getElem?_cons_zero,Zaj]
 refine Zar (fun hb=>⟨by unfold Zoz; simp [show ¬ ns.length≤3 by omega],S4⟩) (fun b6=>?_)
 rw [Ymi b1 b2 b3 (by omega) b5 (by omega)]
 apply Zdf.J3i
 simp only [Nat.zero_add,Zan i4,List.getElem?_cons_succ,List.getElem?_cons_zero,Zaj]
 have hle4:=s4.le
 refine Zdf.L4ind _ _ _ _ _ _ _ _ _ _ (J:=fun (g:Nat) x50 h'=>x50=(g:Int)∧g≤n2∧Zbc h5.length h5 h'∧(ns.take g).all (Zks cs tt)=true) (fun g=>n2 - g) ?_ 0 _ _ ⟨rfl,by omega,Zbc.refl _ _,rfl⟩
 rintro g x50 h' ⟨rfl,hg,hS,hk⟩ R hR
 have SS:Zbc h.length h h':=S4.trans (hS.mono S4.le)
 unfold Zdf.L4t
 refine Zar (fun hlt=>?_) (fun hge=>?_)
 ·obtain ⟨i,o,hgl,rfl,hil,hr,_⟩:=(r2.same SS).pr (k:=g) (by omega)
  simp only [Zau,Int.toNat_natCast,hr,Zao,Zae,Zam,Zah,Zaw]
  rw [Zfb]
  have hlh:=hS.le
  generalize hq:h' ++ [Zcb.cells Zab [.str ns[g].1,.str ns[g].2] false]=hq'
  have sq:Zbc h'.length h' hq':=by rw [← hq]; exact Zal
  have hql:hq'.length=h'.length + 1:=by rw [← hq]; simp
  have nq:hq'[h'.length]?=some (.cells Zab [.str ns[g].1,.str ns[g].2] false):=by rw [← hq]; simp
  have wq:hq'[h.length]?=some (.cells Zac [.slice a n c e,.slice a1 n1 c1 e1] false):=by rw [sq.eq _ (by omega),hS.eq _ (by omega)]; exact w4
  have iq:hq'[h0.length]?=some (.cells Zad [.str ct,.str tt,.slice (some (i,o)) n2 c2 e2] false):=by rw [sq.eq _ (by omega),hS.eq _ (by omega)]; exact i4
  simp only [Zas,Nat.add_zero,Nat.zero_add,Zan wq,Zan nq,List.getElem?_cons_succ,List.getElem?_cons_zero,Zaj,Zah]
  have Sq:Zbc h.length h hq':=SS.trans (sq.mono SS.le)
  refine ⟨by omega,(Zwm (r.same' Sq) (by omega)).mono ?_⟩
  rintro v k3 ⟨rfl,t3⟩
  have T3:=Sq.trans (t3.mono Sq.le)
  have n3:k3[h'.length]?=some (.cells Zab [.str ns[g].1,.str ns[g].2] false):=by rw [t3.eq _ (by omega)]; exact nq
  simp only [Zaq]
  have fail:∀ hx,Zbc h.length h hx→Zks cs tt ns[g]=false→(Zay.bool false=Zay.bool (ns.all (Zks cs tt))∧Zbc h.length h hx):=fun hx hs hf=>⟨by rw [Zrd hgl hf],hs⟩
  refine Zbs (fun hb=>fail _ T3 (by unfold Zks; rw [hb]; rfl)) (fun m1=>?_)
  simp only [Zan n3,List.getElem?_cons_succ,List.getElem?_cons_zero,Zah]
  refine (Znu _ k3).mono ?_
  rintro v k4 ⟨rfl,t4⟩
  have ht3:=t3.le
  have T4:=T3.trans (t4.mono T3.le)
  have n4:k4[h'.length]?=some (.cells Zab [.str ns[g].1,.str ns[g].2] false):=by rw [t4.eq _ (by omega)]; exact n3
  simp only [Zaq]
  refine Zbs (fun hb=>fail _ T4 (by unfold Zks; rw [m1,hb]; rfl)) (fun m2=>?_)
  simp only [Zan n4,List.getElem?_cons_succ,List.getElem?_cons_zero,Zah]
  refine Zar (fun hb=>fail _ T4 (by unfold Zks; simp [show ¬ ns[g].2.length≤20 by omega])) (fun m3=>?_)
  apply Zdf.J8i
  simp only [Nat.zero_add,Zan n4,List.getElem?_cons_succ,List.getElem?_cons_zero,Zah]
  refine (Yxj _ k4).mono ?_
  rintro v k5 ⟨t5,av,nv,cv,ev,rfl,hrow⟩
  simp only [Zaj]
  have ht4:=t4.le
  have ht5:=t5.le
  have T5:=T4.trans (t5.mono T4.le)
  have hvl:(Zre ns[g].2).length=nv:=by have:=hrow.1; simpa using this
  have hv6:(Zre ns[g].2).length≤6:=List.length_filter_le _ _
  have hni:Zks cs tt ns[g]=(Zre ns[g].2).all fun v=>decide (v∈tt):=by unfold Zks; rw [m1,m2]; simp [show ns[g].2.length≤20 by omega]
  have i5:k5[h0.length]?=some (.cells Zad [.str ct,.str tt,.slice (some (i,o)) n2 c2 e2] false):=by rw [t5.eq _ (by omega),t4.eq _ (by omega),t3.eq _ (by omega)]; exact iq
  refine Zdf.L9ind _ _ _ _ _ _ _ _ _ _ _ _ _ _ _ _ _ (J:=fun (q:Nat) x76 h6=>x76=(q:Int)∧q≤nv∧h6=k5∧((Zre ns[g].2).take q).all (fun v=>decide (v∈tt))=true) (fun q=>nv - q) ?_ 0 _ _ ⟨rfl,by omega,rfl,rfl⟩
  rintro q x76 h6 ⟨rfl,hq6,rfl,hk6⟩ R9 hR9
  unfold Zdf.L9t
  refine Zar (fun hlt6=>?_) (fun hge6=>?_)
  ·obtain ⟨iv,ov,rfl,_,hcv⟩:=hrow.at (k:=q) (by omega)
   rw [Yfi,List.getElem?_map,List.getElem?_eq_getElem (show q < (Zre ns[g].2).length by omega)] at hcv
   simp only [Option.map_some] at hcv
   simp only [Zau,Int.toNat_natCast,Nat.mul_one,hcv,Zah,Nat.add_zero,Nat.zero_add,Zan i5,List.getElem?_cons_succ,List.getElem?_cons_zero,one]
   refine ⟨by omega,Zlw.mono ?_⟩
   rintro v k7 ⟨rfl,rfl⟩
   simp only [Zaq]
   refine Zbs (fun hb=>fail _ T5 (by rw [hni]; exact Zrd (by omega) hb)) (fun d1=>?_)
   rw [Zbm (by omega)]
   exact hR9 (q + 1) _ _ (by omega) ⟨rfl,by omega,rfl,Zgo (by omega) hk6 d1⟩
  ·apply Zdf.A9x2i
   apply Zdf.J14i
   have:q=nv:=by omega
   subst this
   rw [List.take_of_length_le (by omega)] at hk6
   rw [Zbm (by omega)]
   refine hR (g + 1) _ _ (by omega) ⟨rfl,by omega,?_,Zgo hgl hk (by rw [hni]; exact hk6)⟩
   exact hS.trans ((sq.mono hS.le).trans ((t3.mono (by omega)).trans ((t4.mono (by omega)).trans (t5.mono (by omega)))))
 ·apply Zdf.A4x0i
  have:g=n2:=by omega
  subst this
  rw [List.take_of_length_le (by omega)] at hk
  exact ⟨by rw [hk],SS⟩
end Go.Sim

set_option linter.unusedVariables false
set_option linter.unusedSimpArgs false
set_option maxRecDepth 20000
namespace Go.Sim
open Go Go.RowKit

theorem Yki (x t:List Nat):((Zre x).all fun c=>decide (c∈Zre t))=(Zre x).all fun c=>decide (c∈t):=by
 rw [Bool.eq_iff_iff,List.all_eq_true,List.all_eq_true]
 constructor
 ·intro h c hc
  have:=h c hc
  simp only [Zre,decide_eq_true_eq,List.mem_filter] at this ⊢
  exact this.2
 ·intro h c hc
  have h1:=h c hc
  have hv:c∈Zfg:=(List.mem_filter.1 hc).1
  simp only [Zre,decide_eq_true_eq,List.mem_filter] at h1 ⊢
  exact ⟨hv,h1⟩
theorem Zyb {h:Zaa} {a a1 a2:Pt} {n c n1 c1 n2 c2:Nat} {e e1 e2:Bool} {cs ns:List Nd} {ct tt:List Nat} (r:Row h.length h a (n * 2) (Zdb eP cs)) (hc:n≤c) (hn:n≤1048576) (hs:∀ p∈cs,p.2.length≤1048576) (hb256:∀ p∈cs,∀ b∈p.1,b < 256)
  (r2:Row h.length h a2 (n2 * 2) (Zdb eP ns)) (hn2:n2≤1048576) (hns:∀ p∈ns,p.2.length≤1048576) (htt:tt.length≤1048576) :
  Zak pg Zko [.agg [.slice a n c e,.slice a1 n1 c1 e1],.agg [.str ct,.str tt,.slice a2 n2 c2 e2]] h fun v h'=>v=.bool (Zoz cs ((ct,tt),ns))∧Zbc h.length h h':=by
 have hl:cs.length=n:=by have:=r.1; rw [Zat Zcr] at this; omega
 have hl2:ns.length=n2:=by have:=r2.1; rw [Zat Zcr] at this; omega
 apply Zfh.call
 simp only [Zaw]
 generalize hh0:h ++ [Zcb.cells Zac [.slice a n c e,.slice a1 n1 c1 e1] false]=h0
 generalize hh1:h0 ++ [Zcb.cells Zad [.str ct,.str tt,.slice a2 n2 c2 e2] false]=h1
 have s0:Zbc h.length h h0:=by rw [← hh0]; exact Zal
 have s01:Zbc h0.length h0 h1:=by rw [← hh1]; exact Zal
 have s1:Zbc h.length h h1:=s0.trans (s01.mono s0.le)
 have hl0:h0.length=h.length + 1:=by rw [← hh0]; simp
 have hl1:h1.length=h.length + 2:=by rw [← hh1]; simp [hl0]
 have w1:h1[h.length]?=some (.cells Zac [.slice a n c e,.slice a1 n1 c1 e1] false):=by rw [← hh1,Zzg (by omega),← hh0]; simp
 have i1:h1[h0.length]?=some (.cells Zad [.str ct,.str tt,.slice a2 n2 c2 e2] false):=by rw [← hh1]; simp
 simp only [Nat.add_zero,Zan w1,List.getElem?_cons_zero,Zaj]
 refine (Zyy (r.same' s1) hc hn hs hb256).mono ?_
 rintro v h2 ⟨rfl,s2⟩
 have S2:Zbc h.length h h2:=s1.trans (s2.mono (by omega))
 have w2:h2[h.length]?=some (.cells Zac [.slice a n c e,.slice a1 n1 c1 e1] false):=by rw [s2.eq _ (by omega)]; exact w1
 have i2:h2[h0.length]?=some (.cells Zad [.str ct,.str tt,.slice a2 n2 c2 e2] false):=by rw [s2.eq _ (by omega)]; exact i1
 simp only [Zaq]
 refine Zbs (fun hb=>⟨by unfold Zoz; rw [hb]; rfl,S2⟩) (fun b1=>?_)
 rw [Zex w2 (by simp)]
 simp only [List.drop_zero,List.take_succ_cons,List.take_zero,Zao,Zae,Zam,Nat.zero_add,Zan i2,List.getElem?_cons_succ,List.getElem?_cons_zero,Zaj,Zah]
 refine (Znm (r.same' S2) (by omega)).mono ?_
 rintro v h3 ⟨rfl,s3⟩
 have hle2:=s2.le
 have S3:Zbc h.length h h3:=S2.trans (s3.mono S2.le)
 have i3:h3[h0.length]?=some (.cells Zad [.str ct,.str tt,.slice a2 n2 c2 e2] false):=by rw [s3.eq _ (by omega)]; exact i2
 have w3:h3[h.length]?=some (.cells Zac [.slice a n c e,.slice a1 n1 c1 e1] false):=by rw [s3.eq _ (by omega)]; exact w2
 simp only [Zax,Ycm]
 refine Zbs (fun hb=>⟨by unfold Zoz; rw [b1,hb]; rfl,S3⟩) (fun b2=>?_)
 simp only [Zan i3,List.getElem?_cons_succ,List.getElem?_cons_zero,Zah]
 refine (Zjz tt (by omega) h3).mono ?_
 rintro v h4 ⟨rfl,s4⟩
 have hle3:=s3.le
 have S4:Zbc h.length h h4:=S3.trans (s4.mono S3.le)
 have i4:h4[h0.length]?=some (.cells Zad [.str ct,.str tt,.slice a2 n2 c2 e2] false):=by rw [s4.eq _ (by omega)]; exact i3
 have w4:h4[h.length]?=some (.cells Zac [.slice a n c e,.slice a1 n1 c1 e1] false):=by rw [s4.eq _ (by omega)]; exact w3
 simp only [Zaq]
 refine Zbs (fun hb=>⟨by unfold Zoz; rw [b1,b2,hb]; rfl,S4⟩) (fun b3=>?_)
 simp only [Zan i4,List.getElem?_cons_succ,List.getElem?_cons_zero,Zah]
 refine Zar (fun hb=>⟨by unfold Zoz; rw [b1,b2,b3]; simp [show ¬ tt.length≤20 by omega],S4⟩) (fun b4=>?_)
 have hvh:=Yys b3
 have hne:=Yqj b3
 have htl:0 < tt.length:=by cases tt with | nil=>exact absurd rfl hne | cons=>simp
 refine ⟨⟨by omega,by omega⟩,?_⟩
 have hgd:tt.getD (Int.toNat 0) 0=tt.headD 0:=by cases tt <;> rfl
 rw [hgd]
 refine (Zrz _).mono ?_
 rintro v h5 ⟨rfl,rfl⟩
 simp only [Zaq,← hvh]
 refine Zdi (fun hb=>⟨by unfold Zoz; rw [hb]; simp,S4⟩) (fun b5=>?_)
 simp only [Zan i4,List.getElem?_cons_succ,List.getElem?_cons_zero,Zaj]
 refine Zar (fun hb=>⟨by unfold Zoz; simp [show ¬ ns.length≤3 by omega],S4⟩) (fun b6=>?_)
 rw [Ymi b1 b2 b3 (by omega) b5 (by omega)]
 apply Zfh.J3i
 simp only [Nat.zero_add,Zan i4,List.getElem?_cons_succ,List.getElem?_cons_zero,Zaj]
 have hle4:=s4.le
 refine Zfh.L4ind _ _ _ _ _ _ _ _ _ _ (J:=fun (g:Nat) x50 h'=>x50=(g:Int)∧g≤n2∧Zbc h5.length h5 h'∧(ns.take g).all (Zks cs tt)=true) (fun g=>n2 - g) ?_ 0 _ _ ⟨rfl,by omega,Zbc.refl _ _,rfl⟩
 rintro g x50 h' ⟨rfl,hg,hS,hk⟩ R hR
 have SS:Zbc h.length h h':=S4.trans (hS.mono S4.le)
 unfold Zfh.L4t
 refine Zar (fun hlt=>?_) (fun hge=>?_)
 ·obtain ⟨i,o,hgl,rfl,hil,hr,_⟩:=(r2.same SS).pr (k:=g) (by omega)
  simp only [Zau,Int.toNat_natCast,hr,Zao,Zae,Zam,Zah,Zaw]
  rw [Zfb]
  have hlh:=hS.le
  generalize hq:h' ++ [Zcb.cells Zab [.str ns[g].1,.str ns[g].2] false]=hq'
  have sq:Zbc h'.length h' hq':=by rw [← hq]; exact Zal
  have hql:hq'.length=h'.length + 1:=by rw [← hq]; simp
  have nq:hq'[h'.length]?=some (.cells Zab [.str ns[g].1,.str ns[g].2] false):=by rw [← hq]; simp
  have wq:hq'[h.length]?=some (.cells Zac [.slice a n c e,.slice a1 n1 c1 e1] false):=by rw [sq.eq _ (by omega),hS.eq _ (by omega)]; exact w4
  have iq:hq'[h0.length]?=some (.cells Zad [.str ct,.str tt,.slice (some (i,o)) n2 c2 e2] false):=by rw [sq.eq _ (by omega),hS.eq _ (by omega)]; exact i4
  have row:∀ {hx:Zaa},hx[h.length]?=some (.cells Zac [.slice a n c e,.slice a1 n1 c1 e1] false)→Zbe hx (.ptr (some (h.length,0))) 2=some [.slice a n c e,.slice a1 n1 c1 e1]:=fun w=>by rw [Zex w (by simp)]; rfl
  simp only [Zas,Nat.add_zero,Nat.zero_add,row wq,Zan nq,List.getElem?_cons_succ,List.getElem?_cons_zero,Zao,Zae,Zam,Zaj,Zah,true_and]
  have Sq:Zbc h.length h hq':=SS.trans (sq.mono SS.le)
  refine ⟨by omega,(Znm (r.same' Sq) (by omega)).mono ?_⟩
  rintro v k3 ⟨rfl,t3⟩
  have T3:=Sq.trans (t3.mono Sq.le)
  have n3:k3[h'.length]?=some (.cells Zab [.str ns[g].1,.str ns[g].2] false):=by rw [t3.eq _ (by omega)]; exact nq
  have w3':k3[h.length]?=some (.cells Zac [.slice a n c e,.slice a1 n1 c1 e1] false):=by rw [t3.eq _ (by omega)]; exact wq
  have i3':k3[h0.length]?=some (.cells Zad [.str ct,.str tt,.slice (some (i,o)) n2 c2 e2] false):=by rw [t3.eq _ (by omega)]; exact iq
  have ht3:=t3.le
  simp only [Zax,Ycm,row w3',Zan n3,List.getElem?_cons_succ,List.getElem?_cons_zero,Zah,true_and]
  have fail:∀ hx,Zbc h.length h hx→Zks cs tt ns[g]=false→(Zay.bool false=Zay.bool (ns.all (Zks cs tt))∧Zbc h.length h hx):=fun hx hs hf=>⟨by rw [Zrd hgl hf],hs⟩
  refine Zbs (fun hb=>fail _ T3 (by unfold Zks; rw [hb]; rfl)) (fun m1=>?_)
  have hnl:=hns ns[g] (List.getElem_mem hgl)
  refine (Zjz _ (by omega) k3).mono ?_
  rintro v k4 ⟨rfl,t4⟩
  have T4:=T3.trans (t4.mono T3.le)
  have ht4:=t4.le
  have n4:k4[h'.length]?=some (.cells Zab [.str ns[g].1,.str ns[g].2] false):=by rw [t4.eq _ (by omega)]; exact n3
  have w4':k4[h.length]?=some (.cells Zac [.slice a n c e,.slice a1 n1 c1 e1] false):=by rw [t4.eq _ (by omega)]; exact w3'
  have i4':k4[h0.length]?=some (.cells Zad [.str ct,.str tt,.slice (some (i,o)) n2 c2 e2] false):=by rw [t4.eq _ (by omega)]; exact i3'
  simp only [Zaq,row w4',Zan n4,Zan i4',List.getElem?_cons_succ,List.getElem?_cons_zero,Zah,true_and]
  refine Zbs (fun hb=>fail _ T4 (by unfold Zks; rw [m1,hb]; rfl)) (fun m2=>?_)
  refine Zar (fun hb=>fail _ T4 (by unfold Zks; simp [show ¬ ns[g].2.length≤20 by omega])) (fun m3=>?_)
  refine (Zup _ hnl).mono ?_
  rintro v k5 ⟨rfl,t5⟩
  have T5:=T4.trans (t5.mono T4.le)
  have ht5:=t5.le
  have n5:k5[h'.length]?=some (.cells Zab [.str ns[g].1,.str ns[g].2] false):=by rw [t5.eq _ (by omega)]; exact n4
  have w5':k5[h.length]?=some (.cells Zac [.slice a n c e,.slice a1 n1 c1 e1] false):=by rw [t5.eq _ (by omega)]; exact w4'
  have i5':k5[h0.length]?=some (.cells Zad [.str ct,.str tt,.slice (some (i,o)) n2 c2 e2] false):=by rw [t5.eq _ (by omega)]; exact i4'
  simp only [row w5',Zan n5,Zan i5',List.getElem?_cons_succ,List.getElem?_cons_zero,Zah,true_and]
  refine (Zup _ htt).mono ?_
  rintro v k6 ⟨rfl,t6⟩
  have T6:=T5.trans (t6.mono T5.le)
  have ht6:=t6.le
  have n6:k6[h'.length]?=some (.cells Zab [.str ns[g].1,.str ns[g].2] false):=by rw [t6.eq _ (by omega)]; exact n5
  have w6':k6[h.length]?=some (.cells Zac [.slice a n c e,.slice a1 n1 c1 e1] false):=by rw [t6.eq _ (by omega)]; exact w5'
  have i6':k6[h0.length]?=some (.cells Zad [.str ct,.str tt,.slice (some (i,o)) n2 c2 e2] false):=by rw [t6.eq _ (by omega)]; exact i5'
  simp only [row w6',Zan n6,Zan i6',List.getElem?_cons_succ,List.getElem?_cons_zero,Zah,true_and]
  rw [if_pos m2,if_pos b3]
  have hvb:∀ s,(Zre s).length≤6:=fun s=>List.length_filter_le _ _
  have hv1:=hvb ns[g].2
  have hv2:=hvb tt
  refine (Yph _ _ (by omega) (by omega)).mono ?_
  rintro v k7 ⟨rfl,rfl⟩
  have hni:Zks cs tt ns[g]=(Zre ns[g].2).all fun v=>decide (v∈tt):=by unfold Zks; rw [m1,m2]; simp [show ns[g].2.length≤20 by omega]
  simp only [Zaq,row w6',Zan n6,Zan i6',List.getElem?_cons_succ,List.getElem?_cons_zero,Zah,true_and,Yki,← hni]
  refine Zbs (fun hb=>fail _ T6 hb) (fun m4=>?_)
  apply Zfh.J8i
  rw [Zbm (by omega)]
  refine hR (g + 1) _ _ (by omega) ⟨rfl,by omega,?_,Zgo hgl hk m4⟩
  exact hS.trans ((sq.mono hS.le).trans ((t3.mono (by omega)).trans ((t4.mono (by omega)).trans ((t5.mono (by omega)).trans (t6.mono (by omega))))))
 ·apply Zfh.A4x0i
  have:g=n2:=by omega
  subst this
  rw [List.take_of_length_le (by omega)] at hk
  exact ⟨by rw [hk],SS⟩
end Go.Sim

set_option linter.unusedVariables false
set_option linter.unusedSimpArgs false
set_option maxRecDepth 20000
namespace Go.Sim
open Go Go.RowKit

structure WB (w:Wd):Prop where
 lc:w.cs.length≤1048576
 li:w.is.length≤1048576
 cs:∀ p∈w.cs,p.1.length≤1048576∧p.2.length≤1048576∧∀ b∈p.1,b < 256
 is:∀ i∈w.is,i.1.1.length≤1048576∧i.1.2.length≤1048576∧i.2.length≤1048576∧∀ p∈i.2,p.1.length≤1048576∧p.2.length≤1048576
def Zlu (a0:Pt) (n0 c0:Nat) (e0:Bool) (a1:Pt) (n1 c1:Nat) (e1:Bool):Zcb:=.cells Zac [.slice a0 n0 c0 e0,.slice a1 n1 c1 e1] false
theorem Zth {h:Zaa} {j:Nat} {a0 a1:Pt} {n0 c0 n1 c1:Nat} {e0 e1:Bool} (hj:h[j]?=some (Zlu a0 n0 c0 e0 a1 n1 c1 e1)):Zbe h (.ptr (some (j,0))) 2=some [.slice a0 n0 c0 e0,.slice a1 n1 c1 e1]:=by
 rw [Zex (show h[j]?=some (.cells Zac [.slice a0 n0 c0 e0,.slice a1 n1 c1 e1] false) from hj) (by simp)]; rfl
theorem Zrb {h:Zaa} {j o:Nat} {a0 a1:Pt} {n0 c0 n1 c1:Nat} {e0 e1:Bool} (hj:h[j]?=some (Zlu a0 n0 c0 e0 a1 n1 c1 e1)):Zag h (.ptr (some (j,o)))=([.slice a0 n0 c0 e0,.slice a1 n1 c1 e1]:List Zay)[o]?:=Zan (show h[j]?=some (.cells Zac [.slice a0 n0 c0 e0,.slice a1 n1 c1 e1] false) from hj)
theorem Zbc.get {b:Nat} {h h':Zaa} {j:Nat} {x:Zcb} (s:Zbc b h h') (hj:h[j]?=some x) (hb:j < b):h'[j]?=some x:=by rw [s.eq j hb]; exact hj
theorem Zbc.cat {h h1 h2:Zaa} (a:Zbc h.length h h1) (b:Zbc h1.length h1 h2):Zbc h.length h h2:=a.trans (b.mono a.le)

theorem Zzk {h:Zaa} {t:TypeId} {x y:Zay}:Zbe (h ++ [.cells t [x,y] false]) (.ptr (some (h.length,0))) 2=some [x,y]:=Yhc rfl
theorem Yxw {h:Zaa} {t:TypeId} {x y z:Zay}:Zbe (h ++ [.cells t [x,y,z] false]) (.ptr (some (h.length,0))) 3=some [x,y,z]:=Yhc rfl
theorem Yjz {h:Zaa} {a0 a1 a2:Pt} {n0 c0 n1 c1 n2 c2 j:Nat} {e0 e1 e2:Bool} {w:Wd} {ns:List Nd} {ct tt:List Nat} (r:Zkr h a0 n0 c0 a1 n1 c1 w) (b:WB w) (hj:h[j]?=some (Zlu a0 n0 c0 e0 a1 n1 c1 e1))
  (r2:Row h.length h a2 (n2 * 2) (Zdb eP ns)) (hn2:n2≤1048576) (hns:∀ p∈ns,p.2.length≤1048576) (htt:tt.length≤1048576) :
  Zak pg Zcu [.agg [.str ct,.str tt,.slice a2 n2 c2 e2],.ptr (some (j,0))] h fun v h'=>v=.bool (!Zoz w.cs ((ct,tt),ns))∧Zbc h.length h h':=by
 apply Zna.call
 simp only [Zaw]
 have s1:Zbc h.length h (h ++ [.cells Zad [.str ct,.str tt,.slice a2 n2 c2 e2] false]):=Zal
 rw [Zth (s1.get hj (Own.lt hj)),Yxw]
 simp only [Zao,Zae,Zam,Zaj,Zah]
 have hlc:=b.lc
 have hl0:=r.len0
 refine (Zzj (r.cls.same' s1) r.le0 (by omega) (fun p hp=>(b.cs p hp).2.1) (r2.same' s1) hn2 hns htt).mono ?_
 rintro v h2 ⟨rfl,s2⟩
 simp only [Zaq]
 exact ⟨by trivial,s1.cat s2⟩
theorem Ykj {h:Zaa} {a0 a1:Pt} {n0 c0 n1 c1 j:Nat} {e0 e1:Bool} {w:Wd} (r:Zkr h a0 n0 c0 a1 n1 c1 w) (b:WB w) (hj:h[j]?=some (Zlu a0 n0 c0 e0 a1 n1 c1 e1)) :
  Zak pg Zdx [.slice a1 n1 c1 e1,.fn Zcu [.ptr (some (j,0))]] h fun v h'=>(∃ z:Int,v=.int .i64 z∧decide (z ≥ 0)=!w.is.all (Zoz w.cs))∧Zbc h.length h h':=by
 have hl:=r.len1
 have hli:=b.li
 apply Zbr.call
 refine Zbr.L2ind _ _ _ _ _ _ _ (J:=fun (g:Nat) x8 h'=>x8=(g:Int)∧g≤n1∧Zbc h.length h h'∧(w.is.take g).all (Zoz w.cs)=true) (fun g=>n1 - g) ?_ 0 _ _ ⟨rfl,by omega,Zbc.refl _ _,rfl⟩
 rintro g x8 h' ⟨rfl,hg,hS,hk⟩ R hR
 unfold Zbr.L2t
 refine Zar (fun hlt=>?_) (fun hge=>?_)
 ·obtain ⟨i,o,hgl,a2,n2,c2,e2,rfl,_,hr,_,_,_,hrow,hn⟩:=(r.same hS).inst (k:=g) (by omega)
  simp only [Zau,Int.toNat_natCast,hr,Zao,Zae,Zam,Zah,Zaj]
  have hb:=b.is _ (List.getElem_mem hgl)
  refine ⟨by omega,(Yjz (r.same hS) b (hS.get hj (Own.lt hj)) hrow (by omega) (fun p hp=>(hb.2.2.2 p hp).2) hb.2.1).mono ?_⟩
  rintro v h2 ⟨rfl,s2⟩
  simp only [Zaq]
  have hS2:=hS.cat s2
  refine Zbs (fun he=>?_) (fun he=>?_)
  ·exact ⟨⟨_,rfl,by rw [Zrd hgl he]; simp⟩,hS2⟩
  ·rw [Zbm (by omega)]
   exact hR (g + 1) _ _ (by omega) ⟨rfl,by omega,hS2,Zgo hgl hk he⟩
 ·apply Zbr.A2x0i
  have:g=n1:=by omega
  subst this
  rw [List.take_of_length_le (by omega)] at hk
  exact ⟨⟨_,rfl,by rw [hk]; rfl⟩,hS⟩
theorem Zsu {h:Zaa} {a0 a1:Pt} {n0 c0 n1 c1:Nat} {e0 e1:Bool} {w:Wd} (r:Zkr h a0 n0 c0 a1 n1 c1 w) (b:WB w) :
  Zak pg Zic [.agg [.slice a0 n0 c0 e0,.slice a1 n1 c1 e1]] h fun v h'=>v=.bool (Zda w)∧Zbc h.length h h':=by
 have hl0:=r.len0
 have hl1:=r.len1
 have hlc:=b.lc
 apply Zrf.call
 simp only [Zaw]
 generalize hh0:h ++ [Zcb.cells Zac [.slice a0 n0 c0 e0,.slice a1 n1 c1 e1] false]=h0
 have s0:Zbc h.length h h0:=by rw [← hh0]; exact Zal
 have w0:h0[h.length]?=some (Zlu a0 n0 c0 e0 a1 n1 c1 e1):=by rw [← hh0]; simp [Zlu]
 rw [Zth w0]
 simp only [Zao,Zae,Zam,Zaj]
 refine (Zza (r.cls.same' s0) r.le0 (by omega) (fun p hp=>(b.cs p hp).2.1)).mono ?_
 rintro v h2 ⟨rfl,s2⟩
 have S2:=s0.cat s2
 have w2:=s2.get w0 (Own.lt w0)
 simp only [Zaq]
 refine Zdi (fun b1=>?_) (fun b1=>⟨by unfold Zda; rw [b1]; rfl,S2⟩)
 simp only [Zrb w2,Nat.zero_add,List.getElem?_cons_succ,List.getElem?_cons_zero,Zaj]
 refine Zar (fun b2=>?_) (fun b2=>⟨by unfold Zda; rw [b1]; simp [show ¬ w.is.length≤10 by omega],S2⟩)
 apply Zdc.call
 refine (Ykj (r.same S2) b w2).mono ?_
 rintro v h3 ⟨⟨z,rfl,hz⟩,s3⟩
 simp only [Zax,Zaq]
 refine ⟨?_,S2.cat s3⟩
 rw [hz,Bool.not_not]
 unfold Zda
 rw [b1]; simp [show w.is.length≤10 by omega]
theorem Zkv {h:Zaa} {a0 a1:Pt} {n0 c0 n1 c1:Nat} {e0 e1:Bool} {w:Wd} (r:Zkr h a0 n0 c0 a1 n1 c1 w) (b:WB w) :
  Zak pg Zgm [.agg [.slice a0 n0 c0 e0,.slice a1 n1 c1 e1]] h fun v h'=>v=.bool (Zda w)∧Zbc h.length h h':=by
 have hl0:=r.len0
 have hl1:=r.len1
 have hlc:=b.lc
 have hli:=b.li
 apply Zif.call
 simp only [Zaw]
 generalize hh0:h ++ [Zcb.cells Zac [.slice a0 n0 c0 e0,.slice a1 n1 c1 e1] false]=h0
 have s0:Zbc h.length h h0:=by rw [← hh0]; exact Zal
 have w0:h0[h.length]?=some (Zlu a0 n0 c0 e0 a1 n1 c1 e1):=by rw [← hh0]; simp [Zlu]
 simp only [Zrb w0,Nat.zero_add,List.getElem?_cons_succ,List.getElem?_cons_zero,Zaj]
 refine Zif.L2ind _ _ _ _ _ _ _ _ (J:=fun (g:Nat) x8 h'=>x8=(g:Int)∧g≤n1∧Zbc h0.length h0 h'∧(w.is.take g).all (Zoz w.cs)=true) (fun g=>n1 - g) ?_ 0 _ _ ⟨rfl,by omega,Zbc.refl _ _,rfl⟩
 rintro g x8 h' ⟨rfl,hg,hS,hk⟩ R hR
 have SS:=s0.cat hS
 have w1:=hS.get w0 (Own.lt w0)
 unfold Zif.L2t
 refine Zar (fun hlt=>?_) (fun hge=>?_)
 ·obtain ⟨i,o,hgl,a2,n2,c2,e2,rfl,_,hr,_,_,_,hrow,hn⟩:=(r.same SS).inst (k:=g) (by omega)
  simp only [Zau,Int.toNat_natCast,hr,Zao,Zae,Zam,Zah,Zaj,Zaw]
  rw [Yzf]
  generalize hq:h' ++ [Zcb.cells Zad [.str w.is[g].1.1,.str w.is[g].1.2,.slice a2 n2 c2 e2] false]=hq'
  have sq:Zbc h'.length h' hq':=by rw [← hq]; exact Zal
  simp only [Zas]
  rw [Zth (sq.get w1 (Own.lt w1)),← hq,Yxw,hq]
  simp only [Zao,Zae,Zam,Zah,Zaj]
  have hb:=b.is _ (List.getElem_mem hgl)
  have Sq:=SS.cat sq
  refine ⟨by omega,(Zyb (r.cls.same' Sq) r.le0 (by omega) (fun p hp=>(b.cs p hp).2.1) (fun p hp=>(b.cs p hp).2.2) (hrow.same' sq) (by omega) (fun p hp=>(hb.2.2.2 p hp).2) hb.2.1).mono ?_⟩
  rintro v h2 ⟨rfl,s2⟩
  simp only [Zaq]
  refine Zbs (fun he=>?_) (fun he=>?_)
  ·exact ⟨by unfold Zda; rw [Zrd hgl he]; simp,Sq.cat s2⟩
  ·rw [Zbm (by omega)]
   exact hR (g + 1) _ _ (by omega) ⟨rfl,by omega,(hS.cat sq).cat s2,Zgo hgl hk he⟩
 ·apply Zif.A2x0i
  have:g=n1:=by omega
  subst this
  rw [List.take_of_length_le (by omega)] at hk
  simp only [Zrb w1,Nat.zero_add,List.getElem?_cons_zero,Zaj]
  refine (Zyy (r.cls.same' SS) r.le0 (by omega) (fun p hp=>(b.cs p hp).2.1) (fun p hp=>(b.cs p hp).2.2)).mono ?_
  rintro v h2 ⟨rfl,s2⟩
  simp only [Zaq]
  have w2:=s2.get w1 (Own.lt w1)
  refine Zdi (fun b1=>?_) (fun b1=>⟨by unfold Zda; rw [b1]; rfl,SS.cat s2⟩)
  simp only [Zrb w2,Nat.zero_add,List.getElem?_cons_succ,List.getElem?_cons_zero,Zaj]
  refine ⟨?_,SS.cat s2⟩
  unfold Zda
  rw [b1,hk]; congr 1; rw [Bool.eq_iff_iff]; simp; omega
theorem Ycv {h:Zaa} {a0 a1:Pt} {n0 c0 n1 c1:Nat} {e0 e1:Bool} {w:Wd} {ct tt:List Nat} (r:Zkr h a0 n0 c0 a1 n1 c1 w) (b:WB w) :
  Zak pg Zmo [.agg [.slice a0 n0 c0 e0,.slice a1 n1 c1 e1],.agg [.str ct,.str tt]] h fun v h'=>v=.bool (Zdq w (ct,tt))∧Zbc h.length h h':=by
 have hl0:=r.len0
 have hlc:=b.lc
 apply Zxf.call
 simp only [Zaw]
 generalize hh0:h ++ [Zcb.cells Zac [.slice a0 n0 c0 e0,.slice a1 n1 c1 e1] false]=h0
 generalize hh1:h0 ++ [Zcb.cells Zab [.str ct,.str tt] false]=h1
 have s0:Zbc h.length h h0:=by rw [← hh0]; exact Zal
 have s1:Zbc h0.length h0 h1:=by rw [← hh1]; exact Zal
 have w0:h0[h.length]?=some (Zlu a0 n0 c0 e0 a1 n1 c1 e1):=by rw [← hh0]; simp [Zlu]
 have w1:=s1.get w0 (Own.lt w0)
 have i1:h1[h0.length]?=some (.cells Zab [.str ct,.str tt] false):=by rw [← hh1]; simp
 simp only [Zrb w1,Zan i1,Nat.zero_add,List.getElem?_cons_zero,List.getElem?_cons_succ,Zaj,Zah]
 refine (Zwm (r.cls.same' (s0.cat s1)) (by omega)).mono ?_
 rintro v h2 ⟨rfl,s2⟩
 simp only [Zaq]
 have i2:=s2.get i1 (Own.lt i1)
 refine Zdi (fun b1=>?_) (fun b1=>⟨by unfold Zdq; rw [b1]; rfl,(s0.cat s1).cat s2⟩)
 simp only [Zan i2,Nat.zero_add,List.getElem?_cons_zero,List.getElem?_cons_succ,Zaj,Zah]
 refine (Znu tt h2).mono ?_
 rintro v h3 ⟨rfl,s3⟩
 simp only [Zaq]
 exact ⟨by unfold Zdq; rw [b1]; rfl,((s0.cat s1).cat s2).cat s3⟩
theorem Ygo (cs:List Nd) (c:List Nat):decide (Yam cs c ≥ 0)=Zgg cs c:=by
 unfold Yam; cases h:Zgg cs c <;> simp
theorem Ypl {h:Zaa} {a0 a1:Pt} {n0 c0 n1 c1:Nat} {e0 e1:Bool} {w:Wd} {ct tt:List Nat} (r:Zkr h a0 n0 c0 a1 n1 c1 w) (b:WB w) (ht:tt.length≤1048576) :
  Zak pg Zsm [.agg [.slice a0 n0 c0 e0,.slice a1 n1 c1 e1],.agg [.str ct,.str tt]] h fun v h'=>v=.bool (Zdq w (ct,tt))∧Zbc h.length h h':=by
 have hl0:=r.len0
 have hlc:=b.lc
 apply Zxg.call
 simp only [Zaw]
 generalize hh0:h ++ [Zcb.cells Zac [.slice a0 n0 c0 e0,.slice a1 n1 c1 e1] false]=h0
 generalize hh1:h0 ++ [Zcb.cells Zab [.str ct,.str tt] false]=h1
 have s0:Zbc h.length h h0:=by rw [← hh0]; exact Zal
 have s1:Zbc h0.length h0 h1:=by rw [← hh1]; exact Zal
 have w0:h0[h.length]?=some (Zlu a0 n0 c0 e0 a1 n1 c1 e1):=by rw [← hh0]; simp [Zlu]
 have w1:=s1.get w0 (Own.lt w0)
 have i1:h1[h0.length]?=some (.cells Zab [.str ct,.str tt] false):=by rw [← hh1]; simp
 rw [Zth w1]
 simp only [Zao,Zae,Zam,Zan i1,Nat.zero_add,List.getElem?_cons_zero,List.getElem?_cons_succ,Zaj,Zah]
 refine (Znm (r.cls.same' (s0.cat s1)) (by omega)).mono ?_
 rintro v h2 ⟨rfl,s2⟩
 simp only [Zax,Ygo]
 have i2:=s2.get i1 (Own.lt i1)
 refine Zdi (fun b1=>?_) (fun b1=>⟨by unfold Zdq; rw [b1]; rfl,(s0.cat s1).cat s2⟩)
 simp only [Zan i2,Nat.zero_add,List.getElem?_cons_zero,List.getElem?_cons_succ,Zaj,Zah]
 refine (Zjz tt (by omega) h2).mono ?_
 rintro v h3 ⟨rfl,s3⟩
 simp only [Zaq]
 exact ⟨by unfold Zdq; rw [b1]; rfl,((s0.cat s1).cat s2).cat s3⟩
theorem Ztn {h:Zaa} {a0 a1:Pt} {n0 c0 n1 c1:Nat} {e0 e1:Bool} {w:Wd} {ct tt:List Nat} (r:Zkr h a0 n0 c0 a1 n1 c1 w) (b:WB w) (ht:tt.length≤1048576) :
  Zak pg Ziv [.agg [.slice a0 n0 c0 e0,.slice a1 n1 c1 e1],.agg [.str ct,.str tt]] h fun v h'=>v=.bool (Zda w && Zdq w (ct,tt))∧Zbc h.length h h':=by
 apply Zsy.call
 simp only [Zaw]
 generalize hh0:h ++ [Zcb.cells Zac [.slice a0 n0 c0 e0,.slice a1 n1 c1 e1] false]=h0
 generalize hh1:h0 ++ [Zcb.cells Zab [.str ct,.str tt] false]=h1
 have s0:Zbc h.length h h0:=by rw [← hh0]; exact Zal
 have s1:Zbc h0.length h0 h1:=by rw [← hh1]; exact Zal
 have w0:h0[h.length]?=some (Zlu a0 n0 c0 e0 a1 n1 c1 e1):=by rw [← hh0]; simp [Zlu]
 have w1:=s1.get w0 (Own.lt w0)
 have i1:h1[h0.length]?=some (.cells Zab [.str ct,.str tt] false):=by rw [← hh1]; simp
 rw [Zth w1]
 simp only [Zao,Zae,Zam,Zaj]
 refine (Zkv (r.same (s0.cat s1)) b).mono ?_
 rintro v h2 ⟨rfl,s2⟩
 simp only [Zaq]
 have i2:=s2.get i1 (Own.lt i1)
 have w2:=s2.get w1 (Own.lt w1)
 refine Zdi (fun b1=>?_) (fun b1=>⟨by rw [b1]; rfl,(s0.cat s1).cat s2⟩)
 rw [Zth w2,Zex i2 (by simp)]
 simp only [List.drop_zero,List.take_succ_cons,List.take_zero,Zao,Zae,Zam,Zaj,Zah]
 refine (Ypl (r.same ((s0.cat s1).cat s2)) b ht).mono ?_
 rintro v h3 ⟨rfl,s3⟩
 simp only [Zaq]
 exact ⟨by rw [b1]; rfl,((s0.cat s1).cat s2).cat s3⟩
end Go.Sim

set_option linter.unusedVariables false
set_option linter.unusedSimpArgs false
set_option maxRecDepth 20000
namespace Go.Sim
open Go Go.RowKit

theorem Yto {h:Zaa} {a0 a1:Pt} {n0 c0 n1 c1 j:Nat} {e0 e1:Bool} {w:Wd} {x:Nd} (r:Zkr h a0 n0 c0 a1 n1 c1 w) (b:WB w) (hj:h[j]?=some (Zlu a0 n0 c0 e0 a1 n1 c1 e1)) :
  Zak pg Zcp [.agg [.str x.1,.str x.2],.ptr (some (j,0))] h fun v h'=>v=.bool (!Zdq w x)∧Zbc h.length h h':=by
 apply Zml.call
 simp only [Zaw]
 have s1:Zbc h.length h (h ++ [.cells Zab [.str x.1,.str x.2] false]):=Zal
 rw [Zth (s1.get hj (Own.lt hj)),Zzk]
 simp only [Zao,Zae,Zam,Zaj,Zah]
 refine (Ycv (r.same s1) b).mono ?_
 rintro v h2 ⟨rfl,s2⟩
 simp only [Zaq]
 exact ⟨by trivial,s1.cat s2⟩
theorem Ygc {h:Zaa} {a0 a1 a2:Pt} {n0 c0 n1 c1 n2 c2 j:Nat} {e0 e1 e2:Bool} {w:Wd} {l:List Nd} (r:Zkr h a0 n0 c0 a1 n1 c1 w) (b:WB w) (hj:h[j]?=some (Zlu a0 n0 c0 e0 a1 n1 c1 e1)) (r2:Row h.length h a2 (n2 * 2) (Zdb eP l)) (hn2:n2≤1048576) :
  Zak pg Zet [.slice a2 n2 c2 e2,.fn Zcp [.ptr (some (j,0))]] h fun v h'=>(∃ z:Int,v=.int .i64 z∧decide (z ≥ 0)=!l.all (Zdq w))∧Zbc h.length h h':=by
 have hl:l.length=n2:=by have:=r2.1; rw [Zat Zcr] at this; omega
 apply Zbx.call
 refine Zbx.L2ind _ _ _ _ _ _ _ (J:=fun (g:Nat) x8 h'=>x8=(g:Int)∧g≤n2∧Zbc h.length h h'∧(l.take g).all (Zdq w)=true) (fun g=>n2 - g) ?_ 0 _ _ ⟨rfl,by omega,Zbc.refl _ _,rfl⟩
 rintro g x8 h' ⟨rfl,hg,hS,hk⟩ R hR
 unfold Zbx.L2t
 refine Zar (fun hlt=>?_) (fun hge=>?_)
 ·obtain ⟨i,o,hgl,rfl,_,hr,_⟩:=(r2.same hS).pr (k:=g) (by omega)
  simp only [Zau,Int.toNat_natCast,hr,Zao,Zae,Zam,Zah]
  refine ⟨by omega,(Yto (x:=l[g]) (r.same hS) b (hS.get hj (Own.lt hj))).mono ?_⟩
  rintro v h2 ⟨rfl,s2⟩
  simp only [Zaq]
  have hS2:=hS.cat s2
  refine Zbs (fun he=>?_) (fun he=>?_)
  ·exact ⟨⟨_,rfl,by rw [Zrd hgl he]; simp⟩,hS2⟩
  ·rw [Zbm (by omega)]
   exact hR (g + 1) _ _ (by omega) ⟨rfl,by omega,hS2,Zgo hgl hk he⟩
 ·apply Zbx.A2x0i
  have:g=n2:=by omega
  subst this
  rw [List.take_of_length_le (by omega)] at hk
  exact ⟨⟨_,rfl,by rw [hk]; rfl⟩,hS⟩
theorem Zix {h:Zaa} {a0 a1 a2:Pt} {n0 c0 n1 c1 n2 c2:Nat} {e0 e1 e2:Bool} {w:Wd} {l:List Nd} (r:Zkr h a0 n0 c0 a1 n1 c1 w) (b:WB w) (r2:Row h.length h a2 (n2 * 2) (Zdb eP l)) (hn2:n2≤1048576) :
  Zak pg Zcs [.agg [.slice a0 n0 c0 e0,.slice a1 n1 c1 e1],.slice a2 n2 c2 e2] h fun v h'=>v=.bool (Zgu w l)∧Zbc h.length h h':=by
 have hl:l.length=n2:=by have:=r2.1; rw [Zat Zcr] at this; omega
 apply Zqk.call
 simp only [Zaw]
 generalize hh0:h ++ [Zcb.cells Zac [.slice a0 n0 c0 e0,.slice a1 n1 c1 e1] false]=h0
 have s0:Zbc h.length h h0:=by rw [← hh0]; exact Zal
 have w0:h0[h.length]?=some (Zlu a0 n0 c0 e0 a1 n1 c1 e1):=by rw [← hh0]; simp [Zlu]
 rw [Zth w0]
 simp only [Zao,Zae,Zam,Zaj]
 refine (Zsu (r.same s0) b).mono ?_
 rintro v h2 ⟨rfl,s2⟩
 have S2:=s0.cat s2
 have w2:=s2.get w0 (Own.lt w0)
 simp only [Zaq]
 refine Zdi (fun b1=>?_) (fun b1=>⟨by unfold Zgu; rw [b1]; rfl,S2⟩)
 refine Zar (fun b2=>?_) (fun b2=>⟨by unfold Zgu; rw [b1]; simp [show ¬ l.length≤6 by omega],S2⟩)
 apply Zdo.call
 refine (Ygc (r.same S2) b w2 (r2.same' S2) hn2).mono ?_
 rintro v h3 ⟨⟨z,rfl,hz⟩,s3⟩
 simp only [Zax,Zaq]
 refine ⟨?_,S2.cat s3⟩
 rw [hz,Bool.not_not]
 unfold Zgu
 rw [b1]; simp [show l.length≤6 by omega]
theorem Zpi {h:Zaa} {a0 a1 a2:Pt} {n0 c0 n1 c1 n2 c2:Nat} {e0 e1 e2:Bool} {w:Wd} {l:List Nd} (r:Zkr h a0 n0 c0 a1 n1 c1 w) (b:WB w) (r2:Row h.length h a2 (n2 * 2) (Zdb eP l)) (hn2:n2≤1048576) (hls:∀ p∈l,p.2.length≤1048576) :
  Zak pg Zer [.agg [.slice a0 n0 c0 e0,.slice a1 n1 c1 e1],.slice a2 n2 c2 e2] h fun v h'=>v=.bool (Zgu w l)∧Zbc h.length h h':=by
 have hl:l.length=n2:=by have:=r2.1; rw [Zat Zcr] at this; omega
 apply Zhl.call
 simp only [Zaw]
 generalize hh0:h ++ [Zcb.cells Zac [.slice a0 n0 c0 e0,.slice a1 n1 c1 e1] false]=h0
 have s0:Zbc h.length h h0:=by rw [← hh0]; exact Zal
 have w0:h0[h.length]?=some (Zlu a0 n0 c0 e0 a1 n1 c1 e1):=by rw [← hh0]; simp [Zlu]
 refine Zhl.L2ind _ _ _ _ _ _ _ _ _ _ _ _ (J:=fun (g:Nat) x8 h'=>x8=(g:Int)∧g≤n2∧Zbc h0.length h0 h'∧(g≠0→Zda w=true)∧(l.take g).all (Zdq w)=true) (fun g=>n2 - g) ?_ 0 _ _ ⟨rfl,by omega,Zbc.refl _ _,by simp,rfl⟩
 rintro g x8 h' ⟨rfl,hg,hS,hw,hk⟩ R hR
 have SS:=s0.cat hS
 have w1:=hS.get w0 (Own.lt w0)
 unfold Zhl.L2t
 refine Zar (fun hlt=>?_) (fun hge=>?_)
 ·obtain ⟨i,o,hgl,rfl,_,hr,_⟩:=(r2.same SS).pr (k:=g) (by omega)
  simp only [Zau,Int.toNat_natCast,hr,Zao,Zae,Zam,Zah,Zaw]
  rw [Zfb]
  generalize hq:h' ++ [Zcb.cells Zab [.str l[g].1,.str l[g].2] false]=hq'
  have sq:Zbc h'.length h' hq':=by rw [← hq]; exact Zal
  simp only [Zas]
  rw [Zth (sq.get w1 (Own.lt w1)),← hq,Zzk,hq]
  simp only [Zao,Zae,Zam,Zah,Zaj]
  have hb:=hls _ (List.getElem_mem hgl)
  have Sq:=SS.cat sq
  refine ⟨by omega,(Ztn (r.same Sq) b hb).mono ?_⟩
  rintro v h2 ⟨rfl,s2⟩
  simp only [Zaq]
  refine Zbs (fun he=>?_) (fun he=>?_)
  ·refine ⟨?_,Sq.cat s2⟩
   unfold Zgu
   cases hw2:Zda w with
   | false=>rfl
   | true=>
    rw [hw2,Bool.true_and] at he
    rw [Zrd hgl (show Zdq w l[g]=false from he)]; simp
  ·rw [Zbm (by omega)]
   simp only [Bool.and_eq_true] at he
   exact hR (g + 1) _ _ (by omega) ⟨rfl,by omega,(hS.cat sq).cat s2,fun _=>he.1,Zgo hgl hk he.2⟩
 ·apply Zhl.A2x0i
  have:g=n2:=by omega
  subst this
  rw [List.take_of_length_le (by omega)] at hk
  rw [Zth w1]
  simp only [Zao,Zae,Zam,Zaj]
  refine (Zkv (r.same SS) b).mono ?_
  rintro v h2 ⟨rfl,s2⟩
  simp only [Zaq]
  refine Zdi (fun b1=>?_) (fun b1=>⟨by unfold Zgu; rw [b1]; rfl,SS.cat s2⟩)
  refine ⟨?_,SS.cat s2⟩
  unfold Zgu
  rw [b1,hk]; congr 1; rw [Bool.eq_iff_iff]; simp; omega
end Go.Sim

set_option linter.unusedVariables false
set_option linter.unusedSimpArgs false
set_option maxRecDepth 20000
namespace Go.Sim
open Go Go.RowKit
end Go.Sim

set_option linter.unusedVariables false
set_option linter.unusedSimpArgs false
set_option maxRecDepth 20000
namespace Go.Sim
open Go Go.RowKit

def isz (i:Ins):Nat:=i.1.1.length + i.1.2.length + (i.2.length + Yrc i.2)
def Yvh (l:List Ins):Nat:=(l.map isz).sum
def wsz (w:Wd):Nat:=w.cs.length + Yrc w.cs + (w.is.length + Yvh w.is)
theorem Ypo {l:List Ins} {g:Nat} (h:g < l.length):Yvh (l.take (g + 1))=Yvh (l.take g) + isz l[g]:=by
 unfold Yvh; rw [List.take_succ_eq_append_getElem h,List.map_append,List.sum_append]; simp
theorem Ygu (l:List Ins) (g:Nat):Yvh (l.take g)≤Yvh l:=by
 conv=>rhs; rw [← List.take_append_drop g l]
 unfold Yvh; rw [List.map_append,List.sum_append]; omega
theorem Ywe {l:List Ins} {g:Nat} (h:g < l.length):isz l[g]≤Yvh l:=by
 have:=Ypo h; have:=Ygu l (g + 1); omega
def Yun (n:Nat):Prop:=n≤9223372036854775807
structure Xbx (w:Wd):Prop where
 lc:Yun w.cs.length
 li:Yun w.is.length
 cs:∀ p∈w.cs,Yun p.1.length∧Yun p.2.length∧∀ b∈p.1,b < 256
 is:∀ i∈w.is,Yun i.1.1.length∧Yun i.1.2.length∧Yun i.2.length∧∀ p∈i.2,Yun p.1.length∧Yun p.2.length
theorem WB.of {w:Wd} (b:Xbx w) (h:wsz w≤1048576):WB w:=by
 have h1:∀ p∈w.cs,p.1.length + p.2.length≤Yrc w.cs:=fun p hp=>by
  obtain ⟨k,hk,rfl⟩:=List.mem_iff_getElem.1 hp; exact Ylw hk
 have h2:∀ i∈w.is,isz i≤Yvh w.is:=fun p hp=>by
  obtain ⟨k,hk,rfl⟩:=List.mem_iff_getElem.1 hp; exact Ywe hk
 unfold wsz at h
 refine ⟨by omega,by omega,fun p hp=>⟨by have:=h1 p hp; omega,by have:=h1 p hp; omega,(b.cs p hp).2.2⟩,fun i hi=>?_⟩
 have:=h2 i hi
 unfold isz at this
 refine ⟨by omega,by omega,by omega,fun p hp=>?_⟩
 have h3:p.1.length + p.2.length≤Yrc i.2:=by obtain ⟨k,hk,rfl⟩:=List.mem_iff_getElem.1 hp; exact Ylw hk
 omega
theorem Zox {h:Zaa} {i:Nat} {t:TypeId} {x y z:Zay} {ro:Bool} (hi:h[i]?=some (.cells t [x,y,z] ro)):Zbe h (.ptr (some (i,0))) 3=some [x,y,z]:=by
 rw [Zex hi (by simp)]; rfl
theorem Zbc.set' {b i:Nat} {h h1:Zaa} {x:Zcb} (s:Zbc b h h1) (hi:b≤i):Zbc b h (h1.set i x):=⟨by simp; exact s.le,fun j hj=>by rw [Zbw (by omega)]; exact s.eq j hj⟩
theorem Zds.keep {α:Type} {ty:TypeId} {enc:α→List Zay} {b b':Nat} {h h':Zaa} {a:Pt} {n:Nat} {l:List α} (f:Zds ty enc b h a n l) (hb:b'≤b) (hk:∀ i,b≤i→i < h.length→h'[i]?=h[i]?):Zds ty enc b' h' a n l:=
 ⟨f.1,f.2.imp id fun ⟨i,ha,hbi,hi⟩=>⟨i,ha,by omega,by rw [hk i hbi (Own.lt hi)]; exact hi⟩⟩
end Go.Sim

set_option linter.unusedVariables false
set_option linter.unusedSimpArgs false
set_option maxRecDepth 20000
namespace Go.Sim
open Go Go.RowKit

theorem Ygy {h:Zaa} {i:Nat} {t:TypeId} {x y v:Zay} (hi:h[i]?=some (.cells t [x,y] false)):Zbb h (.ptr (some (i,0))) [v]=some (h.set i (.cells t [v,y] false)):=by
 rw [Zbg hi (by simp)]; rfl
theorem Zaz {h:Zaa} {i:Nat} {t:TypeId} {x y:Zay} {ro:Bool} (hi:h[i]?=some (.cells t [x,y] ro)):Zbe h (.ptr (some (i,0))) 2=some [x,y]:=by
 rw [Zex hi (by simp)]; rfl
end Go.Sim

set_option linter.unusedVariables false
set_option linter.unusedSimpArgs false
set_option maxRecDepth 20000
namespace Go.Sim
open Go Go.RowKit

theorem Zji.same {S:Nat→Prop} {h h':Zaa} (s:Zbc h.length h h'):∀ {t:Ty} {v:List Zay},Zji S h t v→Zji S h' t v
 | .k d,_,h=>h
 | .u d x,_,⟨j,c,e,r,hv,sj,hj,hr⟩=>⟨j,c,e,r,hv,sj,s.get hj (Own.lt hj),hr.same s⟩
 | .w d x y,_,⟨j,c,e,r,r',hv,sj,hj,hr,hr'⟩=>⟨j,c,e,r,r',hv,sj,s.get hj (Own.lt hj),hr.same s,hr'.same s⟩
end Go.Sim

set_option linter.unusedVariables false
set_option linter.unusedSimpArgs false
set_option maxRecDepth 20000
namespace Go.Sim
open Go Go.RowKit

theorem Vec.lt' {ty:TypeId} {h:Zaa} {a:Pt} {i n c:Nat} {cs:List Zay} (x:Vec ty h a n c cs) (e:a=some (i,0)):i < h.length:=by subst e; exact x.lt
theorem Zvg.keep {S:Nat→Prop} {h h':Zaa} (hh:∀ j,S j→j < h.length→h'[j]?=h[j]?):∀ {t:Ty} {p:Pt},Zvg S h t p→Zvg S h' t p
 | .k d,p,⟨i,a,c,e,hp,si,hi⟩=>⟨i,a,c,e,hp,si,by rw [hh i si (Own.lt hi)]; exact hi⟩
 | .u d x,p,⟨i,j,c,e,q,hp,si,hi,sj,hj,hq⟩=>⟨i,j,c,e,q,hp,si,by rw [hh i si (Own.lt hi)]; exact hi,sj,by rw [hh j sj (Own.lt hj)]; exact hj,hq.keep hh⟩
 | .w d x y,p,⟨i,j,c,e,q,r,hp,si,hi,sj,hj,hq,hr⟩=>⟨i,j,c,e,q,r,hp,si,by rw [hh i si (Own.lt hi)]; exact hi,sj,by rw [hh j sj (Own.lt hj)]; exact hj,hq.keep hh,hr.keep hh⟩
theorem Zvg.same {S:Nat→Prop} {h h':Zaa} {t:Ty} {p:Pt} (r:Zvg S h t p) (s:Zbc h.length h h'):Zvg S h' t p:=r.keep fun j _ hj=>s.eq j hj
theorem Zji.keep {S:Nat→Prop} {h h':Zaa} (hh:∀ j,S j→j < h.length→h'[j]?=h[j]?):∀ {t:Ty} {v:List Zay},Zji S h t v→Zji S h' t v
 | .k d,_,h=>h
 | .u d x,_,⟨j,c,e,r,hv,sj,hj,hr⟩=>⟨j,c,e,r,hv,sj,by rw [hh j sj (Own.lt hj)]; exact hj,hr.keep hh⟩
 | .w d x y,_,⟨j,c,e,r,r',hv,sj,hj,hr,hr'⟩=>⟨j,c,e,r,r',hv,sj,by rw [hh j sj (Own.lt hj)]; exact hj,hr.keep hh,hr'.keep hh⟩
theorem Zji.get {S:Nat→Prop} {h:Zaa} {t:Ty} {a:Pt} {vs:List (List Zay)} (hrow:Row h.length h a (t.ps.length * 2) vs.flatten) (hvl:vs.length=t.ps.length) (hp:∀ (k:Nat) (w:List Zay) (x:Ty),vs[k]?=some w→t.ps[k]?=some x→Zji S h x w) {g:Nat} (hg':g < t.ps.length) :
  ∃ i o a2 c2 e2,a=some (i,o)∧Zbe h (.ptr (some (i,o + g * 2))) 2=some [.int .u8 (t.ps[g].hd:Int),.slice a2 t.ps[g].ps.length c2 e2]∧Zji S h t.ps[g] [.int .u8 (t.ps[g].hd:Int),.slice a2 t.ps[g].ps.length c2 e2]:=by
 have hgv:g < vs.length:=by omega
 have hk:=hp g vs[g] t.ps[g] (List.getElem?_eq_getElem hgv) (List.getElem?_eq_getElem hg')
 have hz:∀ v∈vs,v.length=2:=fun v hv=>by
  obtain ⟨k,hk,rfl⟩:=List.mem_iff_getElem.1 hv
  exact (hp k vs[k] (t.ps[k]'(by omega)) (List.getElem?_eq_getElem hk) (List.getElem?_eq_getElem (by omega))).len
 have hfl:vs.flatten=Zdb (fun (v:{v:List Zay // v.length=2})=>v.1) (vs.attach.map fun v=>⟨v.1,hz v.1 v.2⟩):=by
  unfold Zdb; rw [List.flatMap_map]; simp
 rw [hfl] at hrow
 obtain ⟨i,o,hk',ha,_,hr,_⟩:=Row.el (enc:=fun (v:{v:List Zay // v.length=2})=>v.1) (fun x=>x.2) hrow (by simp [hvl]) (k:=g) hg' (by omega)
 obtain ⟨a2,c2,e2,hv2⟩:=hk.shape
 rw [hv2] at hk
 exact ⟨i,o,a2,c2,e2,ha,by rw [hr]; simp [hv2],hk⟩
end Go.Sim

set_option linter.unusedVariables false
namespace Go.Sim
open Go Go.RowKit Go.Maps Go.Sort Go.Shelf Go.Proofs
end Go.Sim

set_option linter.unusedSimpArgs false
set_option linter.unusedVariables false
namespace Go.Sim

abbrev Bd:=List (Nat × Ty)
def Zht:Bd→Nat→Option Ty
 | [],_=>none
 | (v,t) :: m,x=>if v=x then some t else Zht m x
structure BOk (n:Nat) (m:Bd):Prop where
 var:∀ p∈m,Zee p.1=true∧p.2.ok=true∧p.2.txt.length≤n
 nd:(m.map (·.1)).Nodup
theorem Ymy {m:Bd} {v x:Nat} {t:Ty}:Zht (m ++ [(v,t)]) x=match Zht m x with | some u=>some u | none=>if v=x then some t else none:=by
 induction m with
 | nil=>simp [Zht]
 | cons p m ih=>
  obtain ⟨w,u⟩:=p
  simp only [List.cons_append,Zht,ih]
  split <;> rfl
theorem BOk.nil {n:Nat}:BOk n []:=⟨by simp,by simp⟩
theorem Zsc:Zfg.Nodup:=by decide
end Go.Sim

set_option linter.unusedVariables false
set_option linter.unusedSimpArgs false
set_option maxRecDepth 20000
namespace Go.Sim
open Go Go.RowKit

def Yss (h:Zaa) (i:Nat) (m:Bd):Prop:=∃ es clk,h[i]?=some (.map es clk)∧es.map (·.1)=m.map (fun p=>Zay.str [p.1])∧es.map (·.2.1)=m.map (fun p=>Zay.str p.2.txt)∧(es.map (·.2.2)).Nodup∧∀ e∈es,e.2.2 < clk
theorem Yss.eq {h h':Zaa} {i:Nat} {m:Bd} (r:Yss h i m) (he:h'[i]?=h[i]?):Yss h' i m:=by
 obtain ⟨es,clk,h1,x⟩:=r
 exact ⟨es,clk,by rw [he]; exact h1,x⟩
theorem Yss.lt {h:Zaa} {i:Nat} {m:Bd} (r:Yss h i m):i < h.length:=by obtain ⟨es,clk,h1,_⟩:=r; exact Own.lt h1
end Go.Sim

set_option linter.unusedVariables false
set_option linter.unusedSimpArgs false
set_option maxRecDepth 20000
namespace Go.Sim
open Go Go.RowKit

theorem Vec.fresh {α:Type} {ty:TypeId} {enc:α→List Zay} {b:Nat} {h:Zaa} {a:Pt} {n c:Nat} {l:List α} (v:Vec ty h a n c (Zdb enc l)) (hn:n=l.length) (ha:∀ i,a=some (i,0)→b≤i):Zds ty enc b h a n l:=by
 refine ⟨hn.symm,?_⟩
 rcases v with ⟨rfl,h0,_⟩ | ⟨i,rfl,hi⟩
 ·exact .inl h0
 ·exact .inr ⟨i,rfl,ha i rfl,hi⟩
end Go.Sim

set_option linter.unusedVariables false
set_option linter.unusedSimpArgs false
set_option maxRecDepth 20000
namespace Go.Sim
open Go Go.RowKit

def eR (x:Zay × Zay):List Zay:=[x.1,x.2]
theorem Zsx (x:Zay × Zay):(eR x).length=2:=rfl
theorem Yeq {α:Type} {enc:α→List Zay} {w:Nat} (hw:∀ x,(enc x).length=w):∀ {l:List α} {k:Nat} {x:α},k < l.length→putRow (Zdb enc l) (k * w) (enc x)=Zdb enc (l.set k x)
 | [],k,x,h=>by simp at h
 | y :: l,0,x,_=>by
  simp only [Nat.zero_mul,Znt,List.set_cons_zero,putRow,List.take_zero,List.nil_append,Nat.zero_add,hw]
  rw [← hw y,List.drop_left]
 | y :: l,k + 1,x,h=>by
  have ih:=Yeq hw (l:=l) (k:=k) (x:=x) (by simpa using h)
  unfold putRow at ih ⊢
  simp only [Znt,List.set_cons_succ]
  rw [← ih,Nat.succ_mul,Nat.add_comm (k * w) w,← hw y,List.take_length_add_append,Nat.add_assoc,List.drop_length_add_append]; simp only [List.append_assoc]
def Zwg (S:Nat→Prop) (h:Zaa) (i:Nat) (m:Bd):Prop:=∃ rows:List (Zay × Zay),rows.length=12∧h[i]?=some (.cells Zdp (Zdb eR rows) false) ∧
 ∀ (k:Nat) (x:Zay × Zay),rows[k]?=some x→match (Zfg[k]?).bind (Zht m) with | some t=>Zji S h t (eR x) | none=>x=(.int .u8 0,.slice none 0 0 true)
theorem Zwg.keep {S:Nat→Prop} {h h':Zaa} {i:Nat} {m:Bd} (r:Zwg S h i m) (hi:h'[i]?=h[i]?) (hh:∀ j,S j→j < h.length→h'[j]?=h[j]?):Zwg S h' i m:=by
 obtain ⟨rows,h1,h2,h3⟩:=r
 refine ⟨rows,h1,by rw [hi]; exact h2,fun k x hx=>?_⟩
 have:=h3 k x hx
 split at this
 ·exact this.keep hh
 ·exact this
theorem Zwg.same {S:Nat→Prop} {h h':Zaa} {i:Nat} {m:Bd} (r:Zwg S h i m) (s:Zbc h.length h h'):Zwg S h' i m:=by
 have hl:i < h.length:=by obtain ⟨_,_,h2,_⟩:=r; exact Own.lt h2
 exact r.keep (s.eq i hl) fun j _ hj=>s.eq j hj
theorem Zwg.lt {S:Nat→Prop} {h:Zaa} {i:Nat} {m:Bd} (r:Zwg S h i m):i < h.length:=by obtain ⟨_,_,h2,_⟩:=r; exact Own.lt h2
theorem Zwg.nil {S:Nat→Prop} {h:Zaa} {i:Nat} (hi:h[i]?=some (.cells Zdp (Zdb eR (List.replicate 12 (.int .u8 0,.slice none 0 0 true))) false)):Zwg S h i []:=by
 refine ⟨_,by simp,hi,fun k x hx=>?_⟩
 have:(Zfg[k]?).bind (Zht [])=none:=by cases Zfg[k]? <;> rfl
 rw [this]
 rw [List.getElem?_replicate] at hx
 split at hx
 ·cases hx; rfl
 ·cases hx
theorem Zwg.get {S:Nat→Prop} {h:Zaa} {i:Nat} {m:Bd} (r:Zwg S h i m) {k:Nat} (hk:k < 12):∃ x:Zay × Zay,Zag h (.ptr (some (i,0 + k * 2 + 0)))=some x.1∧Zbe h (.ptr (some (i,0 + k * 2))) 2=some [x.1,x.2] ∧
  match (Zfg[k]?).bind (Zht m) with | some t=>Zji S h t [x.1,x.2] | none=>x=(.int .u8 0,.slice none 0 0 true):=by
 obtain ⟨rows,h1,h2,h3⟩:=r
 have hrow:Row h.length h (some (i,0)) (12 * 2) (Zdb eR rows):=⟨by rw [Zat Zsx,h1],.inr ⟨i,0,_,_,_,rfl,Own.lt h2,h2,by rw [Zat Zsx,h1]; simp,by rw [List.drop_zero,List.take_of_length_le (by rw [Zat Zsx,h1]; simp)]⟩⟩
 obtain ⟨i',o',hk',he,_,hr,hc⟩:=Row.el Zsx hrow h1 hk (by omega)
 cases he
 exact ⟨rows[k],by have:=hc 0 (by omega); simpa [eR] using this,hr,h3 k _ (List.getElem?_eq_getElem hk')⟩
def Ytx (S:Nat→Prop) (h:Zaa) (i:Nat) (m:Bd):Prop:=∃ rows:List (Zay × Zay),rows.length=12∧h[i]?=some (.cells Zdp (Zdb eR rows) false) ∧
 ∀ (k:Nat) (x:Zay × Zay),k < 6→rows[k]?=some x→match (Zfg[k]?).bind (Zht m) with | some t=>Zji S h t (eR x) | none=>x=(.int .u8 0,.slice none 0 0 true)
theorem Zwg.w {S:Nat→Prop} {h:Zaa} {i:Nat} {m:Bd} (r:Zwg S h i m):Ytx S h i m:=by
 obtain ⟨rows,h1,h2,h3⟩:=r
 exact ⟨rows,h1,h2,fun k x _ hx=>h3 k x hx⟩
theorem Ytx.lt {S:Nat→Prop} {h:Zaa} {i:Nat} {m:Bd} (r:Ytx S h i m):i < h.length:=by obtain ⟨_,_,h2,_⟩:=r; exact Own.lt h2
theorem Ytx.same {S:Nat→Prop} {h h':Zaa} {i:Nat} {m:Bd} (r:Ytx S h i m) (s:Zbc h.length h h'):Ytx S h' i m:=by
 obtain ⟨rows,h1,h2,h3⟩:=r
 refine ⟨rows,h1,by rw [s.eq i (Own.lt h2)]; exact h2,fun k x hk hx=>?_⟩
 have:=h3 k x hk hx
 split at this
 ·exact this.keep fun j _ hj=>s.eq j hj
 ·exact this
theorem Ytx.get {S:Nat→Prop} {h:Zaa} {i:Nat} {m:Bd} (r:Ytx S h i m) {k:Nat} (hk:k < 6):∃ x:Zay × Zay,Zag h (.ptr (some (i,0 + k * 2 + 0)))=some x.1∧Zbe h (.ptr (some (i,0 + k * 2))) 2=some [x.1,x.2] ∧
  match (Zfg[k]?).bind (Zht m) with | some t=>Zji S h t [x.1,x.2] | none=>x=(.int .u8 0,.slice none 0 0 true):=by
 obtain ⟨rows,h1,h2,h3⟩:=r
 have hrow:Row h.length h (some (i,0)) (12 * 2) (Zdb eR rows):=⟨by rw [Zat Zsx,h1],.inr ⟨i,0,_,_,_,rfl,Own.lt h2,h2,by rw [Zat Zsx,h1]; simp,by rw [List.drop_zero,List.take_of_length_le (by rw [Zat Zsx,h1]; simp)]⟩⟩
 obtain ⟨i',o',hk',he,_,hr,hc⟩:=Row.el Zsx hrow h1 (show k < 12 by omega) (by omega)
 cases he
 exact ⟨rows[k],by have:=hc 0 (by omega); simpa [eR] using this,hr,h3 k _ hk (List.getElem?_eq_getElem hk')⟩
theorem Zwg.put {S:Nat→Prop} {h:Zaa} {i:Nat} {m:Bd} (r:Zwg S h i m) (hSi:∀ j,S j→j≠i) {k v:Nat} (hk:Zfg[k]?=some v) (hg:Zht m v=none) {t:Ty} {x y:Zay} (ht:Zji S h t [x,y]) :
  ∃ h',Zbb h (.ptr (some (i,0 + k * 2))) [x,y]=some h'∧Zem i h h'∧Zwg S h' i (m ++ [(v,t)]):=by
 obtain ⟨rows,h1,h2,h3⟩:=r
 have hk6:k < 6:=(List.getElem?_eq_some_iff.1 hk).1
 have hput:putRow (Zdb eR rows) (k * 2) (eR (x,y))=Zdb eR (rows.set k (x,y)):=Yeq Zsx (by omega)
 refine ⟨h.set i (.cells Zdp (Zdb eR (rows.set k (x,y))) false),?_,Zem.set _ _ _,?_⟩
 ·rw [Nat.zero_add,Zbg h2 (by rw [Zat Zsx,h1]; simp; omega),← hput]; rfl
 ·have hkeep:∀ j,S j→j < h.length→(h.set i (.cells Zdp (Zdb eR (rows.set k (x,y))) false))[j]?=h[j]?:=fun j hj _=>Zbw (fun e=>hSi j hj e.symm)
  refine ⟨_,by simp [h1],Zce h2,fun k' x' hx'=>?_⟩
  by_cases e:k=k'
  ·subst e
   rw [List.getElem?_set_self (by omega)] at hx'
   cases hx'
   rw [hk]
   simp only [Option.bind_some,Ymy,hg,if_true]
   exact ht.keep hkeep
  ·rw [List.getElem?_set_ne e] at hx'
   have:=h3 k' x' hx'
   have hb:(Zfg[k']?).bind (Zht (m ++ [(v,t)]))=(Zfg[k']?).bind (Zht m):=by
    cases hv':Zfg[k']? with
    | none=>rfl
    | some w=>
     simp only [Option.bind_some,Ymy]
     cases hb:Zht m w with
     | some u=>rfl
     | none=>
      have:¬ v=w:=fun e'=>by
       subst e'
       have h5:=List.getElem?_eq_some_iff.1 hk
       have h6:=List.getElem?_eq_some_iff.1 hv'
       exact e ((List.getElem_inj (h₀:=h5.1) (h₁:=h6.1) Zsc).1 (h5.2.trans h6.2.symm))
      simp [this]
   rw [hb]
   split at this
   ·exact this.keep hkeep
   ·exact this
theorem Zem.of_same {i:Nat} {h h':Zaa} (s:Zbc h.length h h'):Zem i h h':=⟨s.le,fun j hj _=>s.eq j hj⟩
end Go.Sim

set_option linter.unusedVariables false
set_option linter.unusedSimpArgs false
set_option maxRecDepth 20000
namespace Go.Sim
open Go Go.RowKit

end Go.Sim

set_option linter.unusedSimpArgs false
set_option linter.unusedVariables false
namespace Go.Sim

noncomputable def subst (f:Nat→Option Ty):Ty→Ty
 | .k c=>(f c).getD (.k c)
 | .u c a=>.u c (subst f a)
 | .w c a b=>.w c (subst f a) (subst f b)
end Go.Sim

set_option linter.unusedVariables false
set_option linter.unusedSimpArgs false
set_option maxRecDepth 20000
namespace Go.Sim
open Go Go.RowKit

end Go.Sim

set_option linter.unusedVariables false
set_option linter.unusedSimpArgs false
set_option maxRecDepth 20000
namespace Go.Sim
open Go Go.RowKit

theorem Zji.below {S:Nat→Prop} {h:Zaa}:∀ {t:Ty} {v:List Zay},Zji S h t v→Zji (fun j=>S j∧j < h.length) h t v
 | .k d,_,h=>h
 | .u d x,_,⟨j,c,e,r,hv,sj,hj,hr⟩=>⟨j,c,e,r,hv,⟨sj,Own.lt hj⟩,hj,hr.below⟩
 | .w d x y,_,⟨j,c,e,r,r',hv,sj,hj,hr,hr'⟩=>⟨j,c,e,r,r',hv,⟨sj,Own.lt hj⟩,hj,hr.below,hr'.below⟩
end Go.Sim

set_option linter.unusedVariables false
set_option linter.unusedSimpArgs false
set_option maxRecDepth 20000
namespace Go.Sim
open Go Go.RowKit

end Go.Sim

set_option linter.unusedSimpArgs false
set_option linter.unusedVariables false
namespace Go.Sim

def Yvb:Ty→List Nat
 | .k c=>if Zee c then [c] else []
 | .u c a=>Yvb a
 | .w c a b=>Yvb a ++ Yvb b
structure Xcb (m m':Bd) (a t:Ty):Prop where
 keep:∀ v u,Zht m v=some u→Zht m' v=some u
 sub:subst (Zht m') a=t
 vars:∀ v,(Zht m' v).isSome=true ↔ ((Zht m v).isSome=true ∨ v∈Yvb a)
end Go.Sim

set_option linter.unusedSimpArgs false
set_option linter.unusedVariables false
namespace Go.Sim

structure Xbo (f:Nat→Option Ty):Prop where
 nv:∀ v,Zee v=false→f v=none
 ok:∀ v t,f v=some t→t.ok=true
noncomputable def after (f g:Nat→Option Ty) (v:Nat):Option Ty:=if Zee v then some (subst g ((f v).getD (.k v))) else none
end Go.Sim

set_option linter.unusedVariables false
set_option linter.unusedSimpArgs false
set_option maxRecDepth 20000
namespace Go.Sim
open Go Go.RowKit

end Go.Sim

set_option linter.unusedVariables false
set_option linter.unusedSimpArgs false
set_option maxRecDepth 20000
namespace Go.Sim
open Go Go.RowKit

end Go.Sim
