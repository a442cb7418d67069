/- A part of the proof of a statement of this seat: see the text that holds the theorem. No condition. -/
import Derived.Test.YtflfcofeedjblaaGreatDoorPTCSFold
import Derived.Test.YtflfcofeedjblaaGreatDoorCCand
import Derived.Test.YtflfcofeedjblaaGreatDoorPTCSApply
import Derived.Test.YtflfcofeedjblaaGreatDoorCWVar2
import Derived.Test.YtflfcofeedjblaaGreatDoorCSTy
set_option linter.unusedVariables false
set_option linter.unusedSimpArgs false
set_option linter.all false
set_option linter.unusedVariables false
set_option linter.unusedSimpArgs false
set_option maxRecDepth 20000
namespace Go.Sim
open Go Go.RowKit

def Zmm (w:Wd) (x:Int):Ins:=w.is.getD x.toNat (([],[]),[])
theorem Zry {w:Wd} {k:Nat} (h:k < w.is.length):Zmm w (k:Int)=w.is[k]:=by unfold Zmm; rw [Int.toNat_natCast,Zfu h]
noncomputable def Ydu (w:Wd) (l:List Int) (x:Int):Bool:=l.all fun k=>Zsn (Zmm w x) (Zmm w k)
noncomputable def Zow (w:Wd) (l:List Int):Int:=match l.find? (Ydu w l) with | some x=>x | none=>-1
noncomputable def Yit (w:Wd) (n:Nd):Int:=Zow w (Zrm w n)
theorem Ycf {α:Type} {f:α→Bool} {l:List α} {g:Nat} (hg:g < l.length) (h:(l.take g).find? f=none) (k:f l[g]=true):l.find? f=some l[g]:=by
 have h1:l=l.take g ++ l[g] :: l.drop (g + 1):=by rw [← List.drop_eq_getElem_cons hg,List.take_append_drop]
 conv=>lhs; rw [h1]
 rw [List.find?_append,h,List.find?_cons,k]; rfl
theorem Zta {α:Type} {f:α→Bool} {l:List α} {g:Nat} (hg:g < l.length) (h:(l.take g).find? f=none) (k:f l[g]=false):(l.take (g + 1)).find? f=none:=by
 rw [List.take_succ_eq_append_getElem hg,List.find?_append,h]; simp [k]
def InW (w:Wd) (l:List Int):Prop:=∀ x∈l,∃ k:Nat,x=k∧k < w.is.length
theorem Ybg (w:Wd) (n:Nd):InW w (Zhx w n):=fun x hx=>by obtain ⟨k,hk,e,_⟩:=Yey hx; exact ⟨k,e,hk⟩
theorem Yqr (w:Wd) (n:Nd):InW w (Zrm w n):=fun x hx=>by
 unfold Zrm at hx
 split at hx
 ·exact Ybg w n x hx
 ·cases hx
theorem Ywl {j o:Nat} {K:Zat→Prop}:Zhq pg Zad (.ptr (some (j,o))) 1 K=K (.ptr (some (j,o + 1))):=by kernel_rfl
theorem Row.i64 {b:Nat} {h:Zaa} {a:Pt} {n:Nat} {l:List Int} (r:Row b h a n (Zdg eI l)) {k:Nat} (hk:k < n):∃ i o,∃ hk':k < l.length,a=some (i,o)∧i < b∧Zae h (.ptr (some (i,o + k * 1)))=some (.int .i64 l[k]):=by
 obtain ⟨i,o,hk',ha,hi,hc⟩:=Row.el1 Znv r hk
 exact ⟨i,o,hk',ha,hi,hc⟩
theorem Yjt {h:Zaa} {a0 a1:Pt} {n0 c0 n1 c1 j j2:Nat} {e0 e1:Bool} {w:Wd} {x y:Int} (r:Zlx h a0 n0 c0 a1 n1 c1 w) (hj:h[j]?=some (Zmt a0 n0 c0 e0 a1 n1 c1 e1)) (hj2:h[j2]?=some (.cells Zix [.int .i64 x] false))
  (hx:∃ k:Nat,x=k∧k < w.is.length) (hy:∃ k:Nat,y=k∧k < w.is.length) :
  Zaj pg Zcj [.int .i64 y,.ptr (some (j,0)),.ptr (some (j2,0))] h fun v h'=>v=.bool (!Zsn (Zmm w x) (Zmm w y))∧Zba h.length h h':=by
 obtain ⟨k,rfl,hk⟩:=hx
 obtain ⟨l,rfl,hl⟩:=hy
 have hl1:=r.len1
 apply Zlc.call
 obtain ⟨i,o,ka,kn,kc,ke,rfl,hi,hr1,_⟩:=Zqk r hk
 obtain ⟨i',o',la,ln,lc,le,he,hi',hr2,_⟩:=Zqk r hl
 cases he
 simp only [Ywl,Ztf hj,Zal hj2,Nat.zero_add,List.getElem?_cons_succ,List.getElem?_cons_zero,Zah,Zaw,Int.toNat_natCast,hr1,hr2,Zap,Zaf,Zao,Zag,Zas,true_and]
 refine ⟨by omega,by omega,Yiu.mono ?_⟩
 rintro v h3 ⟨rfl,s3⟩
 simp only [Zaq]
 refine ⟨by rw [Zal (s3.get hj2 (Own.lt hj2))]; rfl,by rw [Ztf (s3.get hj (Own.lt hj))]; rfl,?_,s3⟩
 rw [Zry hk,Zry hl]
theorem Yis {h:Zaa} {a0 a1:Pt} {n0 c0 n1 c1 j j2:Nat} {e0 e1:Bool} {w:Wd} {x:Int} {a:Pt} {n c:Nat} {e:Bool} {l:List Int} (r:Zlx h a0 n0 c0 a1 n1 c1 w) (hj:h[j]?=some (Zmt a0 n0 c0 e0 a1 n1 c1 e1)) (hj2:h[j2]?=some (.cells Zix [.int .i64 x] false))
  (rl:Row h.length h a n (Zdg eI l)) (hn:n≤1048576) (hx:∃ k:Nat,x=k∧k < w.is.length) (hin:InW w l) :
  Zaj pg Zfv [.slice a n c e,.fn Zcj [.ptr (some (j,0)),.ptr (some (j2,0))]] h fun v h'=>(∃ z:Int,v=.int .i64 z∧decide (z ≥ 0)=!Ydu w l x)∧Zba h.length h h':=by
 have hll:l.length=n:=by have:=rl.1; rw [Zav Znv] at this; omega
 apply Zca.call
 refine Zca.L2ind _ _ _ _ _ _ _ _ (J:=fun (g:Nat) x8 h'=>x8=(g:Int)∧g≤n∧Zba h.length h h'∧(l.take g).all (fun k=>Zsn (Zmm w x) (Zmm w k))=true) (fun g=>n - g) ?_ 0 _ _ ⟨rfl,by omega,Zba.refl _ _,rfl⟩
 rintro g x8 h' ⟨rfl,hg,hS,hk⟩ R hR
 unfold Zca.L2t
 refine Zau (fun hlt=>?_) (fun hge=>?_)
 ·obtain ⟨i,o,hgl,rfl,_,hr⟩:=(rl.same hS).i64 (k:=g) (by omega)
  simp only [Zaw,Int.toNat_natCast,hr,Zas]
  refine ⟨by omega,(Yjt (r.same hS) (hS.get hj (Own.lt hj)) (hS.get hj2 (Own.lt hj2)) hx (hin _ (List.getElem_mem hgl))).mono ?_⟩
  rintro v h2 ⟨rfl,s2⟩
  simp only [Zaq]
  have hS2:=hS.cat s2
  refine Zbs (fun he=>?_) (fun he=>?_)
  ·exact ⟨⟨_,rfl,by unfold Ydu; rw [Zrk hgl he]; simp⟩,hS2⟩
  ·rw [Zbq (by omega)]
   exact hR (g + 1) _ _ (by omega) ⟨rfl,by omega,hS2,Zge hgl hk he⟩
 ·apply Zca.A2x0i
  have:g=n:=by omega
  subst this
  rw [List.take_of_length_le (by omega)] at hk
  exact ⟨⟨_,rfl,by unfold Ydu; rw [hk]; rfl⟩,hS⟩
theorem Ytv {h:Zaa} {t:TypeId} {x a:Zat}:Zaz (h ++ [.cells t [x] false]) (.ptr (some (h.length,0))) [a]=some (h ++ [.cells t [a] false]):=Zsg rfl
theorem Ypm {h:Zaa} {a0 a1:Pt} {n0 c0 n1 c1:Nat} {e0 e1:Bool} {w:Wd} {a:Pt} {n c:Nat} {e:Bool} {l:List Int} (r:Zlx h a0 n0 c0 a1 n1 c1 w) (rl:Row h.length h a n (Zdg eI l)) (hn:n≤1048576) (hin:InW w l) :
  Zaj pg Zki [.agg [.slice a0 n0 c0 e0,.slice a1 n1 c1 e1],.slice a n c e] h fun v h'=>v=.int .i64 (Zow w l)∧Zba h.length h h':=by
 have hll:l.length=n:=by have:=rl.1; rw [Zav Znv] at this; omega
 apply Zgk.call
 simp only [Zax]
 generalize hh0:h ++ [Zby.cells Zad [.slice a0 n0 c0 e0,.slice a1 n1 c1 e1] false]=h0
 have s0:Zba h.length h h0:=by rw [← hh0]; exact Zam
 have w0:h0[h.length]?=some (Zmt a0 n0 c0 e0 a1 n1 c1 e1):=by rw [← hh0]; simp [Zmt]
 have l0:h0.length=h.length + 1:=by rw [← hh0]; simp
 refine Zgk.L2ind _ _ _ _ _ _ _ _ _ _ _ _ (J:=fun (g:Nat) x9 h'=>x9=(g:Int)∧g≤n∧Zba h0.length h0 h'∧(l.take g).find? (Ydu w l)=none) (fun g=>n - g) ?_ 0 _ _ ⟨rfl,by omega,Zba.refl _ _,rfl⟩
 rintro g x9 h' ⟨rfl,hg,hS,hk⟩ R hR
 have SS:=s0.cat hS
 unfold Zgk.L2t
 refine Zau (fun hlt=>?_) (fun hge=>?_)
 ·obtain ⟨i,o,hgl,rfl,_,hr⟩:=(rl.same SS).i64 (k:=g) (by omega)
  simp only [Zaw,Int.toNat_natCast,hr,Zas,Zax]
  rw [Ytv]
  generalize hq:h' ++ [Zby.cells Zix [.int .i64 l[g]] false]=hq'
  have sq:Zba h'.length h' hq':=by rw [← hq]; exact Zam
  have oq:hq'[h'.length]?=some (.cells Zix [.int .i64 l[g]] false):=by rw [← hq]; simp
  have Sq:=SS.cat sq
  have wq:=sq.get (hS.get w0 (Own.lt w0)) (by have:=Own.lt w0; have:=hS.le; omega)
  simp only [Zar]
  refine ⟨by omega,?_⟩
  apply Zea.call
  refine (Yis (r.same Sq) wq oq (rl.same' Sq) hn (hin _ (List.getElem_mem hgl)) hin).mono ?_
  rintro v h5 ⟨⟨z,rfl,hz⟩,s5⟩
  simp only [Zas,Zaq,hz,Bool.not_not]
  refine Zdu (fun ht=>?_) (fun ht=>?_)
  ·simp only [Zal (s5.get oq (Own.lt oq)),List.getElem?_cons_zero,Zas]
   refine ⟨?_,Sq.cat s5⟩
   unfold Zow
   rw [Ycf hgl hk ht]
  ·rw [Zbq (by omega)]
   exact hR (g + 1) _ _ (by omega) ⟨rfl,by omega,(hS.cat sq).cat s5,Zta hgl hk ht⟩
 ·apply Zgk.A2x0i
  have:g=n:=by omega
  subst this
  rw [List.take_of_length_le (by omega)] at hk
  exact ⟨by unfold Zow; rw [hk],SS⟩
theorem Ypt {w:Wd} {x y:Int} (hw:Zdv w=true) (hx:∃ k:Nat,x=k∧k < w.is.length) (hy:∃ k:Nat,y=k∧k < w.is.length):Yej w x y=Zsn (Zmm w x) (Zmm w y):=by
 obtain ⟨k,rfl,hk⟩:=hx
 obtain ⟨l,rfl,hl⟩:=hy
 unfold Yej
 rw [hw,Zxd hk,Zxd hl]; rfl
theorem Zyx {h:Zaa} {a0 a1:Pt} {n0 c0 n1 c1:Nat} {e0 e1:Bool} {w:Wd} {nd:Nd} (r:Zlx h a0 n0 c0 a1 n1 c1 w) (b:WB w) (hnt:nd.2.length≤1048576) :
  Zaj pg Zku [.agg [.slice a0 n0 c0 e0,.slice a1 n1 c1 e1],.agg [.str nd.1,.str nd.2]] h fun v h'=>v=.int .i64 (Yit w nd)∧Zba h.length h h':=by
 have hl1:=r.len1
 have hli:=b.li
 apply Zdr.call
 simp only [Zax]
 generalize hh0:h ++ [Zby.cells Zad [.slice a0 n0 c0 e0,.slice a1 n1 c1 e1] false]=h0
 generalize hh1:h0 ++ [Zby.cells Zab [.str nd.1,.str nd.2] false]=h1
 have s0:Zba h.length h h0:=by rw [← hh0]; exact Zam
 have s1:Zba h0.length h0 h1:=by rw [← hh1]; exact Zam
 have w0:h0[h.length]?=some (Zmt a0 n0 c0 e0 a1 n1 c1 e1):=by rw [← hh0]; simp [Zmt]
 have w1:=s1.get w0 (Own.lt w0)
 have i1:h1[h0.length]?=some (.cells Zab [.str nd.1,.str nd.2] false):=by rw [← hh1]; simp
 have S1:=s0.cat s1
 rw [Zwi w1,Zed i1 (by simp)]
 simp only [List.drop_zero,List.take_succ_cons,List.take_zero,Zap,Zaf,Zao,Zah,Zag]
 refine (Zwl (r.same S1) b hnt).mono ?_
 rintro v h2 ⟨s2,a,n,c,e,rfl,f⟩
 have w2:=s2.get w1 (Own.lt w1)
 have S2:=S1.cat s2
 simp only [Zci,Zaf,Zah,Zaq,Zao]
 have hcl:=Ybh (Zmx nd) w.is
 have hnl:n≤1048576:=by
  have:=f.1
  unfold Zrm at this
  split at this
  ·unfold Zhx at this; omega
  ·simp at this; omega
 have rl:Row h2.length h2 a n (Zdg eI (Zrm w nd)):=by simpa using f.row Znv
 have hll:(Zrm w nd).length=n:=f.1
 have hin:=Yqr w nd
 have hwv:∀ x∈Zrm w nd,Zdv w=true:=fun x hx=>by
  unfold Zrm at hx
  split at hx
  ·rename_i h; simp only [Bool.and_eq_true] at h; exact h.1
  ·cases hx
 generalize hlg:Zrm w nd=l at *
 refine Zdr.L3ind _ _ _ _ _ _ _ _ _ _ _ _ (J:=fun (g:Nat) x20 h'=>x20=(g:Int)∧g≤n∧Zba h2.length h2 h'∧(l.take g).find? (Ydu w l)=none) (fun g=>n - g) ?_ 0 _ _ ⟨rfl,by omega,Zba.refl _ _,rfl⟩
 rintro g x20 h' ⟨rfl,hg,hS,hk⟩ R hR
 unfold Zdr.L3t
 refine Zau (fun hlt=>?_) (fun hge=>?_)
 ·obtain ⟨i,o,hgl,rfl,_,hr⟩:=(rl.same hS).i64 (k:=g) (by omega)
  simp only [Zaw,Int.toNat_natCast,hr,Zas]
  refine ⟨by omega,?_⟩
  refine Zdr.L7ind _ _ _ _ _ _ _ _ _ _ _ _ _ _ _ _ _ _ _ _ (J:=fun (q:Nat) x9 x26 h3=>x26=(q:Int)∧q≤n∧Zba h'.length h' h3∧x9=(l.take q).all fun k=>Zsn (Zmm w l[g]) (Zmm w k)) (fun q=>n - q) ?_ 0 _ _ _ ⟨rfl,by omega,Zba.refl _ _,rfl⟩
  rintro q x9 x26 h3 ⟨rfl,hq,hS3,rfl⟩ R7 hR7
  unfold Zdr.L7t
  have SS:=hS.cat hS3
  refine Zau (fun hlt3=>?_) (fun hge3=>?_)
  ·obtain ⟨i',o',hql,he,_,hr3⟩:=(rl.same SS).i64 (k:=q) (by omega)
   cases he
   simp only [Zaw,Int.toNat_natCast,hr3,Zas]
   have htk:(l.take (q + 1)).all (fun k=>Zsn (Zmm w l[g]) (Zmm w k))=((l.take q).all (fun k=>Zsn (Zmm w l[g]) (Zmm w k)) && Zsn (Zmm w l[g]) (Zmm w l[q])):=by
    rw [List.take_succ_eq_append_getElem hql,List.all_append]; simp
   have go:∀ (h4:Zaa) (b9:Bool),Zba h3.length h3 h4→b9=(l.take (q + 1)).all (fun k=>Zsn (Zmm w l[g]) (Zmm w k))→Zdr.J10 (fun v h'=>v=Zat.int .i64 (Yit w nd)∧Zba h.length h h') R R7 (q:Int) (((n:Nat):Int)) (some (i,o)) n c e b9 h.length 0 l[g] (g:Int) (((n:Nat):Int)) (some (i,o)) n c e (some (i,o)) n c e h4:=by
    intro h4 b9 s4 hb9
    apply Zdr.J10i
    rw [Zbq (by omega)]
    exact hR7 (q + 1) _ _ _ (by omega) ⟨rfl,by omega,hS3.cat s4,hb9⟩
   refine ⟨by omega,Zdu (fun hx=>?_) (fun hx=>go _ _ (Zba.refl _ _) (by rw [htk,hx]; rfl))⟩
   have w3:=SS.get w2 (Own.lt w2)
   rw [Zwi w3]
   simp only [Zap,Zaf,Zao,Zah]
   refine (Yat (r.same (S2.cat SS)) b).mono ?_
   rintro v h4 ⟨rfl,s4⟩
   simp only [Zaq]
   refine go _ _ s4 ?_
   rw [htk,hx,Ypt (hwv _ (List.getElem_mem hgl)) (hin _ (List.getElem_mem hgl)) (hin _ (List.getElem_mem hql))]; rfl
  ·apply Zdr.A7x2i
   have:q=n:=by omega
   subst this
   rw [List.take_of_length_le (by omega)]
   refine Zdu (fun ht=>?_) (fun ht=>?_)
   ·refine ⟨?_,S2.cat SS⟩
    unfold Yit Zow
    rw [hlg,Ycf hgl hk ht]
   ·rw [Zbq (by omega)]
    exact hR (g + 1) _ _ (by omega) ⟨rfl,by omega,SS,Zta hgl hk ht⟩
 ·apply Zdr.A3x0i
  have:g=n:=by omega
  subst this
  rw [List.take_of_length_le (by omega)] at hk
  exact ⟨by unfold Yit Zow; rw [hlg,hk],S2.cat hS⟩
end Go.Sim

set_option linter.unusedSimpArgs false
set_option linter.unusedVariables false
namespace Go.Sim

theorem Yoe {l:List Nd} {t u:List Nat} (h:Zfs l t=some u):Zmr u=true:=by
 unfold Zfs at h
 split at h
 ·rename_i hc
  cases h
  simp only [Bool.and_eq_true,decide_eq_true_eq] at hc
  obtain ⟨a,ha⟩:=Zts hc.1.2
  obtain ⟨h1,h2,h3⟩:=Zfn.1 ha
  have:=Zpo hc.1.1 h1
  rw [← h2] at this
  exact Zsl.2 ⟨_,this.2,this.1,hc.2⟩
 ·cases h
theorem Yjo {i:Ins} {t:List Nat} {ms:List Nd} (h:Zhb i t=some ms):ms.length=i.2.length∧∀ m∈ms,Zmr m.2=true∧∃ n∈i.2,m.1=n.1:=by
 unfold Zhb at h
 split at h
 ·cases h
 ·rename_i b hb
  split at h
  ·rename_i hall
   cases h
   refine ⟨by simp,fun m hm=>?_⟩
   obtain ⟨n,hn,rfl⟩:=List.mem_map.1 hm
   have:=List.all_eq_true.1 hall n hn
   obtain ⟨u,hu⟩:=Option.isSome_iff_exists.1 this
   have h2:=Yoe hu
   unfold Zfs at hu
   split at hu
   ·cases hu; exact ⟨h2,n,hn,rfl⟩
   ·cases hu
  ·cases h
theorem Yll {w:Wd} (hw:Zdv w=true) {i:Ins} (hi:i∈w.is) {t:List Nat} {ms:List Nd} (h:Zhb i t=some ms):ms.length≤3∧∀ m∈ms,Zfp w m=true:=by
 obtain ⟨h1,h2⟩:=Yjo h
 unfold Zdv at hw
 simp only [Bool.and_eq_true,List.all_eq_true] at hw
 have h3:=hw.2 i hi
 unfold Zmy at h3
 simp only [Bool.and_eq_true,List.all_eq_true,decide_eq_true_eq] at h3
 refine ⟨by omega,fun m hm=>?_⟩
 obtain ⟨h4,n,hn,he⟩:=h2 m hm
 have h5:=h3.2 n hn
 unfold Zjl at h5
 simp only [Bool.and_eq_true] at h5
 unfold Zfp
 rw [h4,he,h5.1.1.1]; rfl
end Go.Sim

set_option linter.unusedVariables false
set_option linter.unusedSimpArgs false
set_option maxRecDepth 20000
namespace Go.Sim
open Go Go.RowKit

noncomputable def Yow (l:List Nd):Bd:=l.map fun p=>(p.1.headD 0,(Zjg p.2).getD default)
theorem Ybe {l:List Nd} (h:Zic l=true) {p:Nd} (hp:p∈l):∃ v t,p.1=[v]∧Zdp v=true∧Zjg p.2=some t:=by
 obtain ⟨h1,h2⟩:=Zrw h hp
 obtain ⟨t,ht⟩:=Zts h2
 match hq:p.1 with
 | []=>rw [hq] at h1; cases h1
 | [v]=>rw [hq] at h1; exact ⟨v,t,rfl,h1,ht⟩
 | _ :: _ :: _=>rw [hq] at h1; cases h1
theorem Ycw:∀ {l:List Nd},(∀ p∈l,∃ v t,p.1=[v]∧Zdp v=true∧Zjg p.2=some t)→∀ c,Zgn (Yow l) c=Zrr l c
 | [],_,c=>rfl
 | p :: l,h,c=>by
  obtain ⟨v,t,h1,h2,h3⟩:=h p (by simp)
  have ih:=Ycw (l:=l) (fun q hq=>h q (by simp [hq])) c
  unfold Yow Zrr at ih ⊢
  simp only [List.map_cons,Zgn,h1,List.headD_cons,h3,Option.getD_some,List.find?_cons]
  by_cases e:v=c
  ·subst e; simp [h3]
  ·have:¬ ([v]:List Nat)=[c]:=fun x=>e (by simpa using x)
   simp only [e,if_false,this,decide_false]
   exact ih
theorem Ynr {l:List Nd} (h:Zic l=true):∀ (g:Nat) (hg:g < l.length) (k:Nat) (hk:k < g),(l[k]'(by omega)).1.headD 0 < l[g].1.headD 0
 | 0,_,k,hk=>by omega
 | g + 1,hg,k,hk=>by
  have h1:=(Zyg h hg).2.2
  rcases h1 with h1 | h1
  ·omega
  ·rw [Nat.add_sub_cancel,Zfu (by omega)] at h1
   obtain ⟨v,t,hv,_⟩:=Ybe h (List.getElem_mem (h:=hg))
   obtain ⟨u,t',hu,_⟩:=Ybe h (List.getElem_mem (l:=l) (n:=g) (h:=by omega))
   rw [hv,hu,Zyk] at h1
   have h2:u < v:=of_decide_eq_true h1
   by_cases e:k=g
   ·subst e; rw [hv,hu]; exact h2
   ·have:=Ynr h g (by omega) k (by omega)
    rw [hu] at this; rw [hv]
    simp only [List.headD_cons] at this ⊢; omega
theorem Yje {l:List Nd} (h:Zic l=true) {g v:Nat} (hg:g < l.length) (hv:l[g].1=[v]):Zgn (Yow (l.take g)) v=none:=by
 rw [Zun]
 intro hm
 unfold Yow at hm
 rw [List.map_map] at hm
 obtain ⟨p,hp,he⟩:=List.mem_map.1 hm
 obtain ⟨k,hk,rfl⟩:=List.getElem_of_mem hp
 simp only [List.length_take] at hk
 have:=Ynr h g hg k (by omega)
 rw [hv] at this
 simp only [Function.comp_def,List.getElem_take,List.headD_cons] at he this
 omega
theorem Ztl.mono {S S':Nat→Prop} {h:Zaa} {i:Nat} {m:Bd} (r:Ztl S h i m) (hs:∀ j,S j→S' j):Ztl S' h i m:=by
 obtain ⟨rows,h1,h2,h3⟩:=r
 refine ⟨rows,h1,h2,fun k x hx=>?_⟩
 have:=h3 k x hx
 split at this
 ·exact this.mono hs
 ·exact this
theorem Ztl.below {S:Nat→Prop} {h:Zaa} {i:Nat} {m:Bd} (r:Ztl S h i m):Ztl (fun j=>S j∧j < h.length) h i m:=by
 obtain ⟨rows,h1,h2,h3⟩:=r
 refine ⟨rows,h1,h2,fun k x hx=>?_⟩
 have:=h3 k x hx
 split at this
 ·exact Zhw.below this
 ·exact this
theorem Zvm {h:Zaa} {a:Pt} {n c:Nat} {e:Bool} {l:List Nd} {t:List Nat} (r:Row h.length h a (n * 2) (Zdg eP l)) (hn:n≤1048576) (hb:∀ p∈l,p.2.length≤1048576) (hb1:∀ p∈l,∀ x∈p.1,x < 256) (ht:t.length≤1048576) :
  Zaj pg Ziw [.slice a n c e,.str t] h fun v h'=>v=Zni l t∧Zba h.length h h':=by
 have hl:l.length=n:=by have:=r.1; rw [Zav Zcz] at this; omega
 apply Zez.call
 refine (Znq t (by omega) h).mono ?_
 rintro v h1 ⟨s1,vs1,rfl,r1⟩
 obtain ⟨d1,a1,n1,c1,e1,rfl⟩:=Zsi r1
 simp only [Zci,Zaf,Zdq,Zas,Zah,Zao,Zaq,Zax]
 rw [Zgb]
 generalize hh2:h1 ++ [Zby.cells Zak [.int .u8 d1,.slice a1 n1 c1 e1] false]=h2
 have s2:Zba h1.length h1 h2:=by rw [← hh2]; exact Zam
 have o2:h2[h1.length]?=some (.cells Zak [.int .u8 d1,.slice a1 n1 c1 e1] false):=by rw [← hh2]; simp
 have S2:=s1.cat s2
 simp only [Zar]
 cases hto:Zmr t with
 | false=>
  simp only [Bool.not_false,Zcp]
  exact ⟨by unfold Zni Zfs; rw [hto]; simp,S2⟩
 | true=>
 simp only [Bool.not_true,Zbz]
 obtain ⟨u,hu⟩:=Zts hto
 obtain ⟨hu1,hu2,hu3⟩:=Zfn.1 hu
 rw [hu] at r1
 simp only at r1
 refine (Zva (r.same' S2) hn hb hb1).mono ?_
 rintro v h3 ⟨rfl,s3⟩
 simp only [Zaq]
 have S3:=S2.cat s3
 refine Zbs (fun b1=>⟨by unfold Zni Zfs; rw [b1]; rfl,S3⟩) (fun b1=>?_)
 apply Zez.J4i
 simp only [Zax]
 rw [← Yml]
 generalize hh4:h3 ++ [Zby.cells Zdi (Zdg eR (List.replicate 12 (Zat.int .u8 0,Zat.slice none 0 0 true))) false]=h4
 have s4:Zba h3.length h3 h4:=by rw [← hh4]; exact Zam
 have o4:h4[h3.length]?=some (.cells Zdi (Zdg eR (List.replicate 12 (Zat.int .u8 0,Zat.slice none 0 0 true))) false):=by rw [← hh4]; simp
 have l4:h4.length=h3.length + 1:=by rw [← hh4]; simp
 have hone:∀ p∈l,∃ v t,p.1=[v]∧Zdp v=true∧Zjg p.2=some t:=fun p hp=>Ybe b1 hp
 have o3:=s3.get o2 (Own.lt o2)
 refine Zez.L6ind _ _ _ _ _ _ _ _ _ _ (J:=fun (g:Nat) x28 h'=>x28=(g:Int)∧g≤n∧Zba h3.length h3 h'∧h4.length≤h'.length∧Ztl (fun j=>j≠h3.length) h' h3.length (Yow (l.take g))) (fun g=>n - g) ?_ 0 _ _ ⟨rfl,by omega,s4,Nat.le_refl _,Ztl.nil o4⟩
 rintro g x28 h' ⟨rfl,hg,hS,hl4,rm⟩ R hR
 have SS:=S3.cat hS
 unfold Zez.L6t
 refine Zau (fun hlt=>?_) (fun hge=>?_)
 ·obtain ⟨i,o,hgl,rfl,hi,hr,_,_⟩:=(r.same SS).pr (k:=g) (by omega)
  obtain ⟨v,tt,hv1,hv2,hv3⟩:=hone _ (List.getElem_mem hgl)
  obtain ⟨ht1,ht2,ht3⟩:=Zfn.1 hv3
  simp only [Zaw,Int.toNat_natCast,hr,Zap,Zaf,Zao,Zag,Zax]
  rw [Zgb]
  generalize hq:h' ++ [Zby.cells Zbl [.str l[g].1,.str l[g].2] false]=hq'
  have sq:Zba h'.length h' hq':=by rw [← hq]; exact Zam
  have oq:hq'[h'.length]?=some (.cells Zbl [.str l[g].1,.str l[g].2] false):=by rw [← hq]; simp
  have hlq:=sq.le
  rw [hv1] at oq
  simp only [Zar,Zal oq,Nat.zero_add,List.getElem?_cons_succ,List.getElem?_cons_zero,Zag]
  refine ⟨by omega,by simp,?_⟩
  simp only [Int.toNat_zero,List.getD_cons_zero]
  refine (Zvl v).mono ?_
  rintro v' h5 ⟨rfl,rfl⟩
  obtain ⟨k,hk6,hkv,hix⟩:=Zxj hv2
  simp only [hix,Zas,Zal oq,List.getElem?_cons_succ,List.getElem?_cons_zero,true_and]
  refine (Znq l[g].2 (by omega) h5).mono ?_
  rintro v' h6 ⟨s6,vs6,rfl,r6⟩
  obtain ⟨d6,a6,n6,c6,e6,rfl⟩:=Zsi r6
  rw [hv3] at r6
  simp only at r6
  have hl6:=s6.le
  have ho6:Zae h6 (.ptr (some (h'.length,0)))=Zae h5 (.ptr (some (h'.length,0))):=by simp only [Zae,s6.eq _ (Own.lt oq)]
  simp only [Zci,Zaf,Zdq,Zas,Zah,Zao,Zaq,ho6,true_and]
  have rm6:=(rm.same sq).same s6
  obtain ⟨h7,hst,hK,rm7⟩:=rm6.put (fun j hj=>hj) hkv (Yje b1 hgl hv1) (r6.mono fun j hj=>by have:=hj.1; omega)
  rw [Int.toNat_natCast,Nat.zero_add] at *
  rw [hst]
  simp only [Zar]
  rw [Zbq (by omega)]
  have hK7:=hK.le
  refine ⟨by rw [Zal oq]; rfl,⟨by omega,by omega⟩,hR (g + 1) _ _ (by omega) ⟨rfl,by omega,⟨by omega,fun j hj=>?_⟩,by omega,?_⟩⟩
  ·rw [hK.eq j (by omega) (by omega),s6.eq j (by omega),sq.eq j (by omega),hS.eq j hj]
  ·have:Yow (l.take (g + 1))=Yow (l.take g) ++ [(v,tt)]:=by
    unfold Yow
    rw [List.take_succ_eq_append_getElem hgl,List.map_append]
    simp [hv1,hv3]
   rw [this]; exact rm7
 ·apply Zez.A6x0i
  have:g=n:=by omega
  subst this
  rw [List.take_of_length_le (by omega)] at rm
  have hS3:=S3.le
  have h31:h1.length≤h3.length:=(s2.cat s3).le
  have o5:=hS.get o3 (Own.lt o3)
  simp only [Zed o5 (show 0 + 2≤_ by simp),List.drop_zero,List.take_succ_cons,List.take_zero,Zap,Zaf,Zao,Zas,Zah]
  have hbm:∀ c,Zgn (Yow l) c=Zrr l c:=Ycw hone
  have rt:=(((r1.same s2).same s3).same hS).mono (S':=fun j=>j≠h3.length) (fun j hj=>by have:=hj.2; omega)
  refine (Ybx _ (Nat.le_refl _) hu1 (S:=fun j=>j≠h3.length∧j < h'.length) (fun j hj=>⟨hj.2,hj.1⟩) rt.below rm.below.w (fun v w hw=>?_) (fun v hv=>?_)).mono ?_
  ·rw [hbm] at hw; exact ((Zvb b1 v).2 w hw).1
  ·rw [hbm]; exact (Zul b1 hv).2
  rintro v h6 ⟨s6,nv,rfl,hn6⟩
  rw [show Zgn (Yow l)=Zrr l from funext hbm] at hn6
  obtain ⟨na,nc,ne,rfl⟩:=hn6.shape
  have hat:=Zpo b1 hu1
  rw [← hu2] at hat
  have hal:=Zvc b1 t
  simp only [Zdq,Zaf,Zas,Zah,Zao,Zax]
  rw [Zgb]
  generalize hh7:h6 ++ [Zby.cells Zak [.int .u8 ((subst (Zrr l) u).hd:Int),.slice na (subst (Zrr l) u).ps.length nc ne] false]=h7
  have s7:Zba h6.length h6 h7:=by rw [← hh7]; exact Zam
  have o7:h7[h6.length]?=some (.cells Zak [.int .u8 ((subst (Zrr l) u).hd:Int),.slice na (subst (Zrr l) u).ps.length nc ne] false):=by rw [← hh7]; simp
  have S7:=(SS.cat s6).cat s7
  simp only [Zar,Zed o7 (show 0 + 2≤_ by simp),List.drop_zero,List.take_succ_cons,List.take_zero,Zap,Zaf,Zao,Zas,Zah]
  refine (Zqe _ (Nat.le_refl _) (by rw [← hat.1]; omega) (hn6.same s7)).mono ?_
  rintro v h8 ⟨rfl,s8⟩
  have o8:=s8.get o7 (Own.lt o7)
  simp only [Zas]
  rw [← hat.1]
  refine Zau (fun hbig=>⟨by unfold Zni Zfs; rw [if_neg (by simp; omega)],S7.cat s8⟩) (fun hsm=>?_)
  simp only [Zed o8 (show 0 + 2≤_ by simp),List.drop_zero,List.take_succ_cons,List.take_zero,Zap,Zaf,Zao,Zas,Zah]
  refine (Zpn _ (Nat.le_refl _) (by rw [← hat.1]; omega) hat.2 ((hn6.same s7).same s8)).mono ?_
  rintro v h9 ⟨rfl,s9⟩
  simp only [Zag]
  refine ⟨?_,(S7.cat s8).cat s9⟩
  unfold Zni Zfs
  rw [if_pos (by rw [b1,hto]; simp; omega),hat.1]
theorem Yau (p s:List Nat):(∀ q∈Zkg p s,q.2.length≤1048576)∧(∀ q∈Zkg p s,∀ x∈q.1,x < 256)∧(Zkg p s).length≤6:=by
 unfold Zkg
 cases hm:Zkp p s with
 | none=>simp
 | some m=>
  have b:=Zyf hm
  refine ⟨fun q hq=>?_,fun q hq x hx=>?_,Ymf m⟩
  ·have hq':=Zrw (Ykc b) hq
   have:=Zwq hq'.2; omega
  ·simp only [Yhj,List.mem_map,List.mem_filter] at hq
   obtain ⟨v,⟨hv,_⟩,rfl⟩:=hq
   simp at hx; subst hx
   have:=(Zrg x).1 hv
   simp only [Zdp,Bool.or_eq_true,beq_iff_eq] at this; omega
theorem Ymi {h:Zaa} {a:Pt} {n c:Nat} {e:Bool} {i:Ins} {t:List Nat} (r:Row h.length h a (n * 2) (Zdg eP i.2)) (hn:n≤1048576) (hi:i.1.2.length≤1048576) (ht:t.length≤1048576) (hns:∀ p∈i.2,p.2.length≤1048576) :
  Zaj pg Zhm [.agg [.str i.1.1,.str i.1.2,.slice a n c e],.str t] h (Yoo i t h):=by
 have hl:i.2.length=n:=by have:=r.1; rw [Zav Zcz] at this; omega
 apply Zji.call
 simp only [Zax]
 generalize hh0:h ++ [Zby.cells Zac [.str i.1.1,.str i.1.2,.slice a n c e] false]=h0
 generalize hh1:h0 ++ [Zby.cells Zab [] false]=h1
 have s0:Zba h.length h h0:=by rw [← hh0]; exact Zam
 have s1:Zba h0.length h0 h1:=by rw [← hh1]; exact Zam
 have o0:h0[h.length]?=some (.cells Zac [.str i.1.1,.str i.1.2,.slice a n c e] false):=by rw [← hh0]; simp
 have x1:=s1.get o0 (Own.lt o0)
 have o1:h1[h0.length]?=some (.cells Zab [] false):=by rw [← hh1]; simp
 have l0:h0.length=h.length + 1:=by rw [← hh0]; simp
 simp only [Zal x1,Nat.zero_add,List.getElem?_cons_succ,List.getElem?_cons_zero,Zag]
 refine (Ztq i.1.2 t hi ht h1).mono ?_
 rintro v h2 ⟨s2,ma,mn,mc,me,rfl,hmc,fm⟩
 simp only [Zci,Zaf,Zah,Zaq,Zao]
 have S2:=(s0.cat s1).cat s2
 have o2:=s2.get o1 (Own.lt o1)
 have x2:=s2.get x1 (Own.lt x1)
 obtain ⟨hmb1,hmb2,hml⟩:=Yau i.1.2 t
 have hmn:=fm.1
 have hS1le:h.length≤h1.length:=(s0.cat s1).le
 have hnw0:Zqz i.1.2 t=false→Zhb i t=none:=fun hno=>by
  unfold Zhb Zqz at *
  cases hm:Zkp i.1.2 t with
  | none=>rfl
  | some m=>rw [hm] at hno; cases hno
 refine Zbs (fun b1=>⟨S2,_,0,0,true,by rw [hnw0 b1]; rfl,by rw [hnw0 b1]; exact ⟨rfl,.inl rfl⟩⟩) (fun b1=>?_)
 simp only [Zal x2,List.getElem?_cons_succ,List.getElem?_cons_zero,Zah]
 have hnw:Zhb i t=if i.2.all (fun p=>(Zfs (Zkg i.1.2 t) p.2).isSome) then some (i.2.map (Yru (Zkg i.1.2 t))) else none:=by
  unfold Zhb Zqz at *
  cases hm:Zkp i.1.2 t with
  | none=>rw [hm] at b1; cases b1
  | some m=>
   have hml':Zkg i.1.2 t=bdL m:=by unfold Zkg; rw [hm]
   simp only [hml']
   by_cases hall:i.2.all (fun p=>(Zfs (bdL m) p.2).isSome)=true
   ·rw [if_pos hall,if_pos hall,Yhs hall]
   ·rw [if_neg hall,if_neg hall]
 generalize Zkg i.1.2 t=ml at *
 refine Zji.L6ind _ _ _ _ _ _ _ _ _ _ (J:=fun (g:Nat) a8 n8 c8 e8 x28 h'=>x28=(g:Int)∧g≤n∧Zba h.length h h'∧h2.length≤h'.length∧Row h'.length h' ma (mn * 2) (Zdg eP ml)∧(i.2.take g).all (fun p=>(Zfs ml p.2).isSome)=true∧n8=g∧Vec Zab h' a8 n8 c8 (Zdg eP ((i.2.take g).map (Yru ml)))∧(∀ j,a8=some (j,0)→j=h0.length ∨ h2.length≤j)) (fun g=>n - g) ?_ 0 _ _ _ _ _ _
  ⟨rfl,by omega,S2,Nat.le_refl _,fm.row Zcz,rfl,rfl,Vec.mk1 (by simpa using o2),fun j hj=>by cases hj; exact .inl rfl⟩
 rintro g a8 n8 c8 e8 x28 h' ⟨rfl,hg,hS,hl1,hrm,hall,rfl,hv,ha⟩ R hR
 unfold Zji.L6t
 have hl2:h1.length≤h2.length:=s2.le
 refine Zau (fun hlt=>?_) (fun hge=>?_)
 ·obtain ⟨j,o,hgl,rfl,hj,hr,_,_⟩:=(r.same hS).pr (k:=n8) (by omega)
  simp only [Zaw,Int.toNat_natCast,hr,Zap,Zaf,Zao,Zag,Zax]
  rw [Zgb]
  generalize hq:h' ++ [Zby.cells Zab [.str i.2[n8].1,.str i.2[n8].2] false]=hq'
  have sq:Zba h'.length h' hq':=by rw [← hq]; exact Zam
  have oq:hq'[h'.length]?=some (.cells Zab [.str i.2[n8].1,.str i.2[n8].2] false):=by rw [← hq]; simp
  simp only [Zar,Zal oq,Nat.zero_add,List.getElem?_cons_succ,List.getElem?_cons_zero,Zag]
  refine ⟨by omega,(Zvm (hrm.same' sq) (by omega) hmb1 hmb2 (hns _ (List.getElem_mem hgl))).mono ?_⟩
  rintro v h3 ⟨rfl,s3⟩
  have hshape:Zni ml i.2[n8].2=.tup [.str ((Zfs ml i.2[n8].2).getD []),.bool (Zfs ml i.2[n8].2).isSome]:=by
   unfold Zni; cases Zfs ml i.2[n8].2 <;> rfl
  rw [hshape]
  simp only [Zci,Zaf,Zag,Zaq,Zao]
  have S3:=(hS.cat sq).cat s3
  have o3:=s3.get oq (Own.lt oq)
  refine Zbs (fun b2=>?_) (fun b2=>?_)
  ·have:Zhb i t=none:=by rw [hnw,Zrk hgl b2]; rfl
   exact ⟨S3.cat Zam,_,0,0,true,by rw [this]; rfl,by rw [this]; exact ⟨rfl,.inl rfl⟩⟩
  ·simp only [Zal o3,List.getElem?_cons_zero,Zag]
   refine ((hv.same sq).same s3).pushN Ycg Ylt Ymm Ynu (by rw [Zav Zcz]; simp; omega) rfl (by omega) rfl (by omega) (fun h6 hl6 hi6 hk6=>?_)
   simp only [Zah]
   rw [Zbq (by omega)]
   have hle:=S3.le
   have hlq:=sq.le
   have hl3:=s3.le
   have hb8:∀ j,a8=some (j,0)→h.length≤j:=fun j hj=>by rcases ha j hj with hh | hh <;> omega
   have hlast:∀ j,(some (h3.length + 1,0):Pt)=some (j,0)→j=h0.length ∨ h2.length≤j:=fun j hj=>by
    cases hj
    exact .inr (by omega)
   refine hR (n8 + 1) _ _ _ _ _ _ (by omega) ⟨rfl,by omega,⟨by omega,fun j hj=>?_⟩,by omega,?_,Zge hgl hall b2,rfl,Vec.mk1 ?_,hlast⟩
   ·rw [hk6 j (by omega) fun q hq=>by have:=hb8 q hq; omega]; exact S3.eq j hj
   ·have hr3:=(hrm.same' sq).same' s3
    obtain ⟨hx1,hx2⟩:=hr3
    rcases fm.2 with h0' | ⟨q2,hq2,hqb2,hq3⟩
    ·exact ⟨hx1,.inl (by omega)⟩
    ·refine ⟨hx1,hx2.imp id ?_⟩
     rintro ⟨q,o',ty,all,ro,hqa,hqb,hqg,hq4,hq5⟩
     refine ⟨q,o',ty,all,ro,hqa,by omega,?_,hq4,hq5⟩
     rw [hk6 q hqb fun q' hq'=>?_]
     ·exact hqg
     ·intro e
      subst e
      rw [hqa] at hq2; cases hq2
      have:=Own.lt hq3
      rcases ha _ hq' with hh | hh
      ·have:=Own.lt o1; omega
      ·omega
   ·rw [hi6,List.take_succ_eq_append_getElem hgl,List.map_append,Zii]; rfl
 ·apply Zji.A6x0i
  have:n8=n:=by omega
  subst this
  rw [show i.2.take n8=i.2 from List.take_of_length_le (by omega)] at hv hall
  have:Zhb i t=some (i.2.map (Yru ml)):=by rw [hnw,hall]; rfl
  refine ⟨hS,a8,n8,c8,e8,by rw [this]; rfl,?_⟩
  rw [this]
  exact hv.fresh (b:=h.length) (by simp; omega) fun j hj=>by rcases ha j hj with hh | hh <;> omega
noncomputable def Zrs (w:Wd) (x:Int) (t:List Nat):Option (List Nd):=if Zdv w && Ygt w x then Zhb (Zmm w x) t else none
def Yhx (w:Wd) (x:Int) (t:List Nat) (h:Zaa) (v:Zat) (h':Zaa):Prop:=Zba h.length h h'∧∃ a n c e,v=.tup [.slice a n c e,.bool (Zrs w x t).isSome]∧Zdd Zab eP h.length h' a n ((Zrs w x t).getD [])
theorem Ykj {h:Zaa} {a0 a1:Pt} {n0 c0 n1 c1:Nat} {e0 e1:Bool} {w:Wd} {x:Int} {t:List Nat} (r:Zlx h a0 n0 c0 a1 n1 c1 w) (b:WB w) :
  Zaj pg Zoq [.agg [.slice a0 n0 c0 e0,.slice a1 n1 c1 e1],.int .i64 x,.str t] h (Yhx w x t h):=by
 have hl1:=r.len1
 apply Zou.call
 simp only [Zax]
 generalize hh0:h ++ [Zby.cells Zad [.slice a0 n0 c0 e0,.slice a1 n1 c1 e1] false]=h0
 have s0:Zba h.length h h0:=by rw [← hh0]; exact Zam
 have w0:h0[h.length]?=some (Zmt a0 n0 c0 e0 a1 n1 c1 e1):=by rw [← hh0]; simp [Zmt]
 rw [Zwi w0]
 simp only [Zap,Zaf,Zao,Zah]
 refine (Zty (r.same s0) b).mono ?_
 rintro v h2 ⟨rfl,s2⟩
 have S2:=s0.cat s2
 have w2:=s2.get w0 (Own.lt w0)
 simp only [Zaq]
 have no:(Zdv w && Ygt w x)=false→Yhx w x t h (.tup [.slice none 0 0 true,.bool false]) h2:=fun hno=>by
  have:Zrs w x t=none:=by unfold Zrs; rw [hno]; rfl
  exact ⟨S2,none,0,0,true,by rw [this]; rfl,by rw [this]; exact ⟨rfl,.inl rfl⟩⟩
 refine Zbs (fun b1=>no (by rw [b1]; rfl)) (fun b1=>?_)
 refine Zau (fun b2=>no (by unfold Ygt; simp [show ¬ x ≥ 0 by omega])) (fun b2=>?_)
 simp only [Ztf w2,Nat.zero_add,List.getElem?_cons_succ,List.getElem?_cons_zero,Zah]
 refine Zau (fun b3=>no (by unfold Ygt; simp [show ¬ x < (w.is.length:Int) by omega])) (fun b3=>?_)
 obtain ⟨k,rfl⟩:∃ k:Nat,x=k:=⟨x.toNat,by omega⟩
 have hk:k < w.is.length:=by omega
 have hbk:=b.is _ (List.getElem_mem hk)
 apply Zou.J3i
 obtain ⟨i,o,ka,kn,kc,ke,rfl,hi,hr1,_,_,hrow,hkn⟩:=Zqk (r.same S2) hk
 simp only [Ztf w2,Nat.zero_add,List.getElem?_cons_succ,List.getElem?_cons_zero,Zah,Zaw,Int.toNat_natCast,hr1,Zap,Zaf,Zao,Zag]
 have hval:Zrs w (k:Int) t=Zhb w.is[k] t:=by unfold Zrs; rw [b1,Zxd hk,Zry hk]; rfl
 refine ⟨by omega,(Yhf (i:=w.is[k]) hrow (by omega)).mono ?_⟩
 rintro v h3 ⟨s3,na,nn,nc,ne,rfl,f⟩
 simp only [Zci,Zaf,Zah,Zaq,Zao]
 exact ⟨S2.cat s3,na,nn,nc,ne,by rw [hval],by rw [hval]; exact f.low S2.le⟩
end Go.Sim

set_option linter.unusedVariables false
set_option linter.unusedSimpArgs false
set_option maxRecDepth 20000
namespace Go.Sim
open Go Go.RowKit

end Go.Sim

set_option linter.unusedSimpArgs false
set_option linter.unusedVariables false
namespace Go.Sim

def Up (cs:List Nd) (a b:Nat):Prop:=∃ i,∃ h:i < cs.length,cs[i].1=[a]∧b∈cs[i].2
inductive Rch (cs:List Nd) (a:Nat):Nat→Prop
 | one {b:Nat}:Up cs a b→Rch cs a b
 | more {b c:Nat}:Rch cs a b→Up cs b c→Rch cs a c
theorem Yba {cs:List Nd} (h:Zkf cs=true) {i:Nat} (hi:i < cs.length):Zzg cs i=true:=by
 unfold Zkf at h
 simp only [Bool.and_eq_true,List.all_eq_true] at h
 exact h.1 i (List.mem_range.2 hi)
theorem Ypk {cs:List Nd} (h:Zkf cs=true) {i:Nat} (hi:i < cs.length):∃ d,cs[i].1=[d]∧65≤d∧d≤84:=by
 have:=Yba h hi
 unfold Zzg at this
 rw [Zfu hi] at this
 simp only [Bool.and_eq_true] at this
 have h1:=this.1.1
 unfold Zue at h1
 split at h1
 ·rename_i d hd; exact ⟨d,hd,by simpa using h1⟩
 ·cases h1
theorem Ydo {cs:List Nd} (h:Zkf cs=true) {i:Nat} (hi:i + 1 < cs.length) {a b:Nat} (ha:cs[i].1=[a]) (hb:cs[i + 1].1=[b]):a < b:=by
 have:=Yba h hi
 unfold Zzg at this
 rw [Zfu hi,Nat.add_sub_cancel,Zfu (by omega),ha,hb] at this
 simp only [Bool.and_eq_true] at this
 have h1:=this.1.2
 simpa [Zer] using h1
theorem Yaw {cs:List Nd} (h:Zkf cs=true):∀ (k i:Nat) (hi:i + k + 1 < cs.length) {a b:Nat},cs[i].1=[a]→cs[i + k + 1].1=[b]→a < b
 | 0,i,hi,a,b,ha,hb=>Ydo h hi ha hb
 | k + 1,i,hi,a,b,ha,hb=>by
  obtain ⟨d,hd,_⟩:=Ypk h (show i + k + 1 < cs.length by omega)
  have h1:=Yaw h k i (by omega) ha hd
  have h2:=Ydo h (i:=i + k + 1) (by omega) hd hb
  omega
theorem Yge {cs:List Nd} (h:Zkf cs=true) {i j:Nat} (hi:i < cs.length) (hj:j < cs.length) {a:Nat} (ha:cs[i].1=[a]) (hb:cs[j].1=[a]):i=j:=by
 rcases Nat.lt_trichotomy i j with hl | he | hl
 ·obtain ⟨k,rfl⟩:∃ k,j=i + k + 1:=⟨j - i - 1,by omega⟩
  have:=Yaw h k i hj ha hb; omega
 ·exact he
 ·obtain ⟨k,rfl⟩:∃ k,i=j + k + 1:=⟨i - j - 1,by omega⟩
  have:=Yaw h k j hi hb ha; omega
theorem Zuq {cs:List Nd} (h:Zkf cs=true) {i:Nat} (hi:i < cs.length) {b:Nat} (hb:b∈cs[i].2):∃ j,∃ hj:j < i,cs[j].1=[b]:=by
 have:=Yba h hi
 unfold Zzg at this
 rw [Zfu hi] at this
 simp only [Bool.and_eq_true] at this
 have h1:=this.2
 unfold Ydk at h1
 rw [List.all_eq_true] at h1
 obtain ⟨k,hk,rfl⟩:=List.mem_iff_getElem.1 hb
 have h2:=h1 k (List.mem_range.2 hk)
 unfold Zzp at h2
 rw [Zfu hk] at h2
 simp only [Bool.and_eq_true] at h2
 have h3:=h2.1
 unfold Zha at h3
 rw [List.any_eq_true] at h3
 obtain ⟨x,hx,he⟩:=h3
 obtain ⟨j,hj,rfl⟩:=List.mem_iff_getElem.1 hx
 rw [List.length_take] at hj
 exact ⟨j,by omega,by simpa using he⟩
theorem Up.ix {cs:List Nd} (h:Zkf cs=true) {a b i:Nat} (u:Up cs a b) (hi:i < cs.length) (ha:cs[i].1=[a]):b∈cs[i].2:=by
 obtain ⟨j,hj,hja,hb⟩:=u
 have:=Yge h hi hj ha hja
 subst this; exact hb
theorem Rch.ix {cs:List Nd} (h:Zkf cs=true) {a b i:Nat} (r:Rch cs a b) (hi:i < cs.length) (ha:cs[i].1=[a]):∃ j,∃ hj:j < i,cs[j].1=[b]:=by
 induction r with
 | one u=>exact Zuq h hi (u.ix h hi ha)
 | more _ u ih=>
  obtain ⟨j,hj,hb⟩:=ih
  obtain ⟨k,hk,hc⟩:=Zuq h (show j < cs.length by omega) (u.ix h (by omega) hb)
  exact ⟨k,by omega,hc⟩
structure Yep (cs:List Nd) (a:Nat) (i:Nat) (ab:List Nat):Prop where
 sound:∀ d∈ab,Rch cs a d
 done:∀ j,i≤j→∀ hj:j < cs.length,(cs[j].1=[a] ∨ ∃ d,cs[j].1=[d]∧d∈ab)→∀ b∈cs[j].2,b∈ab
theorem Yep.step {cs:List Nd} (h:Zkf cs=true) {a i:Nat} {ab:List Nat} (D:Yep cs a (i + 1) ab) (hi:i < cs.length) (hc:cs[i].1=[a] ∨ ∃ d,cs[i].1=[d]∧d∈ab):Yep cs a i (ab ++ cs[i].2):=by
 refine ⟨fun d hd=>?_,fun j hj hjl hcj b hb=>?_⟩
 ·rcases List.mem_append.1 hd with hd | hd
  ·exact D.sound d hd
  ·rcases hc with hc | ⟨e,he,hm⟩
   ·exact .one ⟨i,hi,hc,hd⟩
   ·exact .more (D.sound e hm) ⟨i,hi,he,hd⟩
 ·by_cases hji:j=i
  ·subst hji; exact List.mem_append_right _ hb
  ·refine List.mem_append_left _ (D.done j (by omega) hjl ?_ b hb)
   rcases hcj with hcj | ⟨e,he,hm⟩
   ·exact .inl hcj
   ·rcases List.mem_append.1 hm with hm | hm
    ·exact .inr ⟨e,he,hm⟩
    ·exfalso
     obtain ⟨k,hk,hke⟩:=Zuq h hi hm
     have:=Yge h hjl (show k < cs.length by omega) he hke
     omega
theorem Yep.skip {cs:List Nd} {a i:Nat} {ab:List Nat} (D:Yep cs a (i + 1) ab) (hc:∀ hi:i < cs.length,¬ (cs[i].1=[a] ∨ ∃ d,cs[i].1=[d]∧d∈ab)):Yep cs a i ab:=
 ⟨D.sound,fun j hj hjl hcj b hb=>by
  by_cases hji:j=i
  ·subst hji; exact absurd hcj (hc hjl)
  ·exact D.done j (by omega) hjl hcj b hb⟩
theorem Yep.all {cs:List Nd} (h:Zkf cs=true) {a i:Nat} {ab:List Nat} (D:Yep cs a 0 ab) (hi:i < cs.length) (ha:cs[i].1=[a]) (d:Nat):d∈ab ↔ Rch cs a d:=by
 refine ⟨D.sound d,fun r=>?_⟩
 induction r with
 | one u=>exact D.done i (by omega) hi (.inl ha) _ (u.ix h hi ha)
 | more r u ih=>
  obtain ⟨j,hj,hb⟩:=r.ix h hi ha
  exact D.done j (by omega) (by omega) (.inr ⟨_,hb,ih⟩) _ (u.ix h (by omega) hb)
structure Ytz (cs:List Nd) (a i:Nat) (r:Nat) (ab:List Nat):Prop where
 sound:∀ d∈ab,Rch cs a d
 first:∀ d,Up cs a d→d∈ab
 near:∀ j,j < i→i≤j + 1 + r→∀ hj:j < cs.length,∀ d,cs[j].1=[d]→Rch cs a d→d∈ab
theorem Ytz.next {cs:List Nd} (h:Zkf cs=true) {a i r:Nat} {ab ab':List Nat} (R:Ytz cs a i r ab) (hi:i < cs.length) (ha:cs[i].1=[a])
  (hs:∀ d∈ab',d∈ab ∨ ∃ e∈ab,Up cs e d) (hc:∀ d,(d∈ab ∨ ∃ e∈ab,Up cs e d)→d∈ab'):Ytz cs a i (r + 1) ab':=by
 refine ⟨fun d hd=>?_,fun d u=>hc d (.inl (R.first d u)),fun j hj hn hjl d hd rc=>?_⟩
 ·rcases hs d hd with hd | ⟨e,he,u⟩
  ·exact R.sound d hd
  ·exact .more (R.sound e he) u
 ·cases rc with
  | one u=>exact hc d (.inl (R.first d u))
  | more rc u=>
   rename_i e
   obtain ⟨k,hk,hb⟩:=rc.ix h hi ha
   have hjk:j < k:=by
    obtain ⟨q,hq,hcq⟩:=Zuq h (show k < cs.length by omega) (u.ix h (by omega) hb)
    have:=Yge h hjl (show q < cs.length by omega) hd hcq
    omega
   exact hc d (.inr ⟨e,R.near k hk (by omega) (by omega) e hb rc,u⟩)
theorem Ytz.all {cs:List Nd} (h:Zkf cs=true) {a i r:Nat} {ab:List Nat} (R:Ytz cs a i r ab) (hi:i < cs.length) (ha:cs[i].1=[a]) (hr:i≤r + 1) (d:Nat):d∈ab ↔ Rch cs a d:=by
 refine ⟨R.sound d,fun rc=>?_⟩
 obtain ⟨j,hj,hd⟩:=rc.ix h hi ha
 exact R.near j hj (by omega) (by omega) d hd rc
end Go.Sim

set_option linter.unusedVariables false
set_option linter.unusedSimpArgs false
set_option maxRecDepth 20000
namespace Go.Sim
open Go Go.RowKit

end Go.Sim

set_option linter.unusedVariables false
set_option linter.unusedSimpArgs false
set_option maxRecDepth 20000
namespace Go.Sim
open Go Go.RowKit

end Go.Sim

set_option linter.unusedVariables false
set_option linter.unusedSimpArgs false
set_option maxRecDepth 20000
namespace Go.Sim
open Go Go.RowKit

structure Ynl (b:Nat) (h:Zaa) (a:Pt) (n c:Nat) (l:List Nd):Prop where
 vec:Vec Zab h a n c (Zdg eP l)
 len:l.length=n
 low:∀ i,a=some (i,0)→b≤i
theorem Ynl.row {b:Nat} {h:Zaa} {a:Pt} {n c:Nat} {l:List Nd} (f:Ynl b h a n c l):Row h.length h a (n * 2) (Zdg eP l):=f.vec.row (by rw [Zav Zcz,f.len])
theorem Ynl.same {b:Nat} {h h':Zaa} {a:Pt} {n c:Nat} {l:List Nd} (f:Ynl b h a n c l) (s:Zba h.length h h'):Ynl b h' a n c l:=⟨f.vec.same s,f.len,f.low⟩
def But (a:Pt) (h h':Zaa):Prop:=h.length≤h'.length∧∀ j,j < h.length→(∀ i,a=some (i,0)→j≠i)→h'[j]?=h[j]?
theorem But.of {a:Pt} {h h':Zaa} (s:Zba h.length h h'):But a h h':=⟨s.le,fun j hj _=>s.eq j hj⟩
theorem But.below {a:Pt} {b:Nat} {h h':Zaa} (s:But a h h') (hb:b≤h.length) (hl:∀ i,a=some (i,0)→b≤i):Zba b h h':=⟨s.1,fun j hj=>s.2 j (by omega) fun i hi=>by have:=hl i hi; omega⟩
end Go.Sim

set_option linter.unusedSimpArgs false
set_option linter.unusedVariables false
namespace Go.Sim

structure Wk where
 cand:Nd→List Int
 needs:Int→List Nat→Option (List Nd)
 most:List Int→Int
inductive Fnd where
 | ok (s:List Nat)
 | no (why:List Nat) (n:Nd)
def Znr (i:Nat):Nat:=if i=0 then 40 else 44
def Yli:List Nat:=[108,111,110,103]
def Ymb:List Nat:=[100,101,101,112]
def Yft:List Nat:=[110,111,110,101]
def Znx:List Nat:=[109,97,110,121]
def Ytn:List Nat:=[98,105,103]
def Zvx:List Nat:=[119,114,111,110,103]
def Zeh (k:Wk) (sp:Bool) (n:Nd):Int × List Nat:=
 match k.cand n with
 | []=>(-1,Yft)
 | [x]=>(x,[])
 | l=>if sp && decide (0≤k.most l) then (k.most l,[]) else (-1,Znx)
def Zfm (g:List Nd→Nd→Fnd × List Nd) (r:(Fnd × List Nd) × Nat) (m:Nd):(Fnd × List Nd) × Nat:=
 match r.1.1 with
 | .no y n=>r
 | .ok out=>(match g r.1.2 m with
  | (.ok d,a)=>((.ok (out ++ Znr r.2 :: d),a),r.2 + 1)
  | (.no y n,a)=>((.no y n,a),r.2))
def Zkc (k:Wk) (sp:Bool) (dec:Int→List Nat):Nat→List Nd→Nd→Fnd × List Nd
 | f,asked,n=>
  if 300≤asked.length then (.no Yli n,asked) else
  match f with
  | 0=>(.no Ymb n,asked ++ [n])
  | f + 1=>
   match Zeh k sp n with
   | (x,y)=>if x < 0 then (.no y n,asked ++ [n]) else
    match k.needs x n.2 with
    | none=>(.no Ytn n,asked ++ [n])
    | some ms=>
     (match (ms.foldl (Zfm (Zkc k sp dec f)) ((.ok (dec x),asked ++ [n]),0)).1 with
     | (.ok out,a)=>(.ok (if ms=[] then out else out ++ [41]),a)
     | r=>r)
theorem Zlt (g:List Nd→Nd→Fnd × List Nd):∀ (l:List Nd) (y:List Nat) (n:Nd) (a:List Nd) (q:Nat),l.foldl (Zfm g) ((.no y n,a),q)=((.no y n,a),q)
 | [],_,_,_,_=>rfl
 | m :: l,y,n,a,q=>by simp only [List.foldl_cons,Zfm]; exact Zlt g l y n a q
theorem Ynd (g:List Nd→Nd→Fnd × List Nd) (l:List Nd) (z:(Fnd × List Nd) × Nat) (q:Nat) (hq:q < l.length):(l.take (q + 1)).foldl (Zfm g) z=Zfm g ((l.take q).foldl (Zfm g) z) l[q]:=by
 rw [List.take_succ_eq_append_getElem hq,List.foldl_append]; rfl
theorem Yos (g:List Nd→Nd→Fnd × List Nd) (l:List Nd) (z:(Fnd × List Nd) × Nat) (q:Nat) {y:List Nat} {n:Nd} {a:List Nd} {i:Nat} (h:(l.take q).foldl (Zfm g) z=((.no y n,a),i)):l.foldl (Zfm g) z=((.no y n,a),i):=by
 conv=>lhs; rw [← List.take_append_drop q l]
 rw [List.foldl_append,h,Zlt]
end Go.Sim

set_option linter.unusedVariables false
set_option linter.unusedSimpArgs false
set_option maxRecDepth 20000
namespace Go.Sim
open Go Go.RowKit

noncomputable def wk (w:Wd):Wk:=⟨Zhx w,fun x t=>Zhb (Zmm w x) t,Zow w⟩
structure FrS (i:Nat) (qa:Pt) (h h':Zaa) (qa':Pt):Prop where
 le:h.length≤h'.length
 eq:∀ j,j < h.length→j≠i→(∀ q,qa=some (q,0)→j≠q)→h'[j]?=h[j]?
 pt:qa'=qa ∨ ∀ q,qa'=some (q,0)→h.length≤q
theorem FrS.of_same {i:Nat} {qa:Pt} {h h':Zaa} (s:Zba h.length h h'):FrS i qa h h' qa:=⟨s.le,fun j hj _ _=>s.eq j hj,.inl rfl⟩
theorem FrS.refl (i:Nat) (qa:Pt) (h:Zaa):FrS i qa h h qa:=.of_same (Zba.refl _ _)
theorem FrS.ne {i:Nat} {qa qa':Pt} {h h':Zaa} (f:FrS i qa h h' qa') {j:Nat} (hj:j < h.length) (hq:∀ q,qa=some (q,0)→j≠q):∀ q,qa'=some (q,0)→j≠q:=by
 intro q hq'
 rcases f.pt with e | e
 ·exact hq q (e ▸ hq')
 ·have:=e q hq'; omega
theorem FrS.trans {i:Nat} {qa qa1 qa2:Pt} {h h1 h2:Zaa} (f:FrS i qa h h1 qa1) (g:FrS i qa1 h1 h2 qa2):FrS i qa h h2 qa2:=by
 have:=f.le; have:=g.le
 refine ⟨by omega,fun j hj hi hq=>?_,?_⟩
 ·rw [g.eq j (by omega) hi (f.ne hj hq)]; exact f.eq j hj hi hq
 ·rcases g.pt with e | e
  ·rcases f.pt with e' | e'
   ·exact .inl (e.trans e')
   ·exact .inr fun q hq=>e' q (e ▸ hq)
  ·exact .inr fun q hq=>by have:=e q hq; omega
theorem FrS.set {i:Nat} {qa:Pt} {h:Zaa} {x:Zby}:FrS i qa h (h.set i x) qa:=⟨by simp,fun j _ hi _=>Zbo (fun e=>hi e.symm),.inl rfl⟩
theorem FrS.get {i:Nat} {qa qa':Pt} {h h':Zaa} (f:FrS i qa h h' qa') {j:Nat} {x:Zby} (hj:h[j]?=some x) (hi:j≠i) (hq:∀ q,qa=some (q,0)→j≠q):h'[j]?=some x:=by rw [f.eq j (Own.lt hj) hi hq]; exact hj
theorem FrS.row {i:Nat} {qa qa':Pt} {h h':Zaa} (f:FrS i qa h h' qa') {a:Pt} {n:Nat} {cs:List Zat} (r:Row h.length h a n cs) (hn:∀ j o,n≠0→a=some (j,o)→j≠i∧∀ q,qa=some (q,0)→j≠q):Row h'.length h' a n cs:=by
 obtain ⟨hl,r⟩:=r
 by_cases h0:n=0
 ·exact ⟨hl,.inl h0⟩
 ·refine ⟨hl,r.imp id ?_⟩
  rintro ⟨j,o',t,all,ro,ha,hi,hg,x⟩
  have:=f.le
  obtain ⟨h1,h2⟩:=hn j o' h0 ha
  exact ⟨j,o',t,all,ro,ha,by omega,by rw [f.eq j hi h1 h2]; exact hg,x⟩
theorem FrS.below {i b:Nat} {qa qa':Pt} {h h':Zaa} (f:FrS i qa h h' qa') (hb:b≤h.length) (hi:b≤i) (hq:∀ q,qa=some (q,0)→b≤q):Zba b h h':=⟨f.le,fun j hj=>f.eq j (by omega) (by omega) fun q hq'=>by have:=hq q hq'; omega⟩
theorem Zxy {w:Wd} (hw:Zdv w=true) {n:Nd} {k:Nat} (hk:k < w.is.length) {ms:List Nd} (h:Zhb w.is[k] n.2=some ms):ms.length≤3∧∀ m∈ms,Zfp w m=true:=by
 have:=Yll hw (List.getElem_mem hk) h
 exact ⟨this.1,this.2⟩
theorem Yap {w:Wd} {n:Nd} (h:Zfp w n=true):Zmr n.2=true∧n.2.length≤60:=by
 have:Zmr n.2=true:=by
  unfold Zfp at h
  simp only [Bool.and_eq_true] at h
  exact h.2
 exact ⟨this,(Zwq this)⟩
end Go.Sim

set_option linter.unusedSimpArgs false
set_option linter.unusedVariables false
namespace Go.Sim

def Yac:Fnd→List Nat | .ok s=>s | .no _ _=>[]
def Yer:Fnd→List Nat | .ok _=>[] | .no y _=>y
def Zvv (ms:List Nd) (r:Fnd × List Nd):Fnd × List Nd:=match r with | (.ok out,a)=>(.ok (if ms=[] then out else out ++ [41]),a) | r=>r
section
variable {k:Wk} {sp:Bool} {dec:Int→List Nat}
theorem Zmz {f:Nat} {asked:List Nd} {n:Nd} (h:300≤asked.length):Zkc k sp dec f asked n=(.no Yli n,asked):=by cases f <;> (unfold Zkc; rw [if_pos h])
theorem Zoc {asked:List Nd} {n:Nd} (h:¬ 300≤asked.length):Zkc k sp dec 0 asked n=(.no Ymb n,asked ++ [n]):=by unfold Zkc; rw [if_neg h]
theorem Zlb {f:Nat} {asked:List Nd} {n:Nd} (h:¬ 300≤asked.length) (hx:(Zeh k sp n).1 < 0):Zkc k sp dec (f + 1) asked n=(.no (Zeh k sp n).2 n,asked ++ [n]):=by
 unfold Zkc; rw [if_neg h]; simp only; rw [if_pos hx]
theorem Zrd {f:Nat} {asked:List Nd} {n:Nd} (h:¬ 300≤asked.length) (hx:¬ (Zeh k sp n).1 < 0) (hn:k.needs (Zeh k sp n).1 n.2=none):Zkc k sp dec (f + 1) asked n=(.no Ytn n,asked ++ [n]):=by
 unfold Zkc; rw [if_neg h]; simp only; rw [if_neg hx,hn]
theorem Ztx {f:Nat} {asked:List Nd} {n:Nd} {ms:List Nd} (h:¬ 300≤asked.length) (hx:¬ (Zeh k sp n).1 < 0) (hn:k.needs (Zeh k sp n).1 n.2=some ms) :
  Zkc k sp dec (f + 1) asked n=Zvv ms (ms.foldl (Zfm (Zkc k sp dec f)) ((.ok (dec (Zeh k sp n).1),asked ++ [n]),0)).1:=by
 conv=>lhs; unfold Zkc
 rw [if_neg h]; simp only; rw [if_neg hx,hn]; rfl
def Ywf (asked:List Nd) (r:Fnd × List Nd):Prop:=asked.length≤r.2.length∧r.2.length≤300∧∀ s,r.1=.ok s→s.length + 10 * asked.length + 2≤10 * r.2.length
theorem Zve {g:List Nd→Nd→Fnd × List Nd} (hg:∀ a m,a.length≤300→Ywf a (g a m)) (A:Nat):∀ (l:List Nd) (z:(Fnd × List Nd) × Nat),z.1.2.length≤300→A≤z.1.2.length→(∀ s,z.1.1=.ok s→s.length + 10 * A + 3≤10 * z.1.2.length) →
  let r:=l.foldl (Zfm g) z; A≤r.1.2.length∧r.1.2.length≤300∧∀ s,r.1.1=.ok s→s.length + 10 * A + 3≤10 * r.1.2.length
 | [],z,h1,h2,h3=>⟨h2,h1,h3⟩
 | m :: l,z,h1,h2,h3=>by
  simp only [List.foldl_cons]
  have key:(Zfm g z m).1.2.length≤300∧A≤(Zfm g z m).1.2.length∧∀ s,(Zfm g z m).1.1=.ok s→s.length + 10 * A + 3≤10 * (Zfm g z m).1.2.length:=by
   obtain ⟨⟨x,a⟩,q⟩:=z
   cases x with
   | no y n=>exact ⟨h1,h2,fun s hs=>by cases hs⟩
   | ok out=>
    have hb:=hg a m h1
    have h3':=h3 out rfl
    simp only at h1 h2 h3'
    unfold Zfm
    simp only
    rcases hgm:g a m with ⟨d,a'⟩
    rw [hgm] at hb
    obtain ⟨b1,b2,b3⟩:=hb
    simp only at b1 b2 b3
    cases d with
    | no y n=>exact ⟨b2,by simp only; omega,fun s hs=>by cases hs⟩
    | ok d=>
     have:=b3 d rfl
     refine ⟨b2,by simp only; omega,fun s hs=>?_⟩
     cases hs
     simp only [List.length_append,List.length_cons]
     omega
  exact Zve hg A l _ key.1 key.2.1 key.2.2
theorem Zuc (hd:∀ x,(dec x).length≤6):∀ (f:Nat) (asked:List Nd) (n:Nd),asked.length≤300→Ywf asked (Zkc k sp dec f asked n)
 | f,asked,n,h=>by
  by_cases h3:300≤asked.length
  ·rw [Zmz h3]; exact ⟨Nat.le_refl _,h,fun s hs=>by cases hs⟩
  ·match f with
   | 0=>rw [Zoc h3]; exact ⟨by simp,by simp; omega,fun s hs=>by cases hs⟩
   | f + 1=>
    by_cases hx:(Zeh k sp n).1 < 0
    ·rw [Zlb h3 hx]; exact ⟨by simp,by simp; omega,fun s hs=>by cases hs⟩
    ·cases hn:k.needs (Zeh k sp n).1 n.2 with
     | none=>rw [Zrd h3 hx hn]; exact ⟨by simp,by simp; omega,fun s hs=>by cases hs⟩
     | some ms=>
      rw [Ztx h3 hx hn]
      have:=Zve (g:=Zkc k sp dec f) (fun a m ha=>Zuc hd f a m ha) asked.length ms ((.ok (dec (Zeh k sp n).1),asked ++ [n]),0) (by simp; omega) (by simp) (fun s hs=>by
       cases hs; have:=hd (Zeh k sp n).1; simp; omega)
      simp only at this
      generalize (ms.foldl (Zfm (Zkc k sp dec f)) ((.ok (dec (Zeh k sp n).1),asked ++ [n]),0)).1=z at this ⊢
      obtain ⟨x,a⟩:=z
      obtain ⟨t1,t2,t3⟩:=this
      simp only at t1 t2 t3
      cases x with
      | no y n=>exact ⟨t1,t2,fun s hs=>by cases hs⟩
      | ok out=>
       refine ⟨t1,t2,fun s hs=>?_⟩
       have:=t3 out rfl
       simp only [Zvv,Fnd.ok.injEq] at hs
       subst hs
       split <;> simp [Zvv] <;> omega
theorem Yqd {g:List Nd→Nd→Fnd × List Nd} (l:List Nd) (z:(Fnd × List Nd) × Nat) {out:List Nat}:(l.foldl (Zfm g) z).1.1=.ok out→(l.foldl (Zfm g) z).2=z.2 + l.length:=by
 induction l generalizing z with
 | nil=>intro _; rfl
 | cons m l ih=>
  intro h
  simp only [List.foldl_cons] at h ⊢
  rw [ih _ h]
  obtain ⟨⟨x,a⟩,q⟩:=z
  have hno:∀ y n a q,(l.foldl (Zfm g) ((.no y n,a),q)).1.1≠.ok out:=fun y n a q=>by rw [Zlt]; simp
  cases x with
  | no y n=>exact absurd h (hno y n a q)
  | ok o=>
   unfold Zfm at h ⊢
   simp only at h ⊢
   rcases hgm:g a m with ⟨d,a'⟩
   rw [hgm] at h
   cases d with
   | no y n=>exact absurd h (hno y n a' q)
   | ok d=>simp only [List.length_cons]; omega
end
end Go.Sim

set_option linter.unusedVariables false
set_option linter.unusedSimpArgs false
set_option maxRecDepth 20000
namespace Go.Sim
open Go Go.RowKit

theorem Ysh {g:FuncId} {caps:List Zat} {K:FuncId→List Zat→Prop}:Yus (.fn g caps) K=K g caps:=rfl
theorem Vec.app0 {P:Program} {t ty:TypeId} {h:Zaa} {i n c sz:Nat} {e:Bool} {xa:Pt} {m c':Nat} {e':Bool} {cs new:List Zat} {K:Zat→Zaa→Prop} (hi:h[i]?=some (.cells ty cs false))
  (hu:P.underlying t=some (.slice ty)) (hc:P.cellsOf ty=sz) (hok:P.okElem ty=true) (hby:P.bytesOf ty≤127) (hn:cs.length=n * sz) (hx:rowOf h xa (m * sz)=some new) (hl:new.all Zat.leaf=true)
  (hle:n + m≤1099511627776) (hk:∀ h',h'.length=h.length + 1→h'[h.length]?=some (.cells ty (cs ++ new) false)→(∀ j,j < h.length→j≠i→h'[j]?=h[j]?) →
   K (.slice (some (h.length,0)) (n + m) (n + m) false) h'):Zcf P t h (.slice (some (i,0)) n c e) (.slice xa m c' e') K:=by
 unfold Zcf
 simp only [hu,hc,hx,Zap]
 refine ⟨⟨hok,?_,hl⟩,.inl ⟨by trivial,?_⟩⟩
 ·have:(n + m) * (P.bytesOf ty + 1)≤(n + m) * 128:=Nat.mul_le_mul_left _ (by omega)
  omega
 ·simp only [Zrb,hi,true_and]
  refine ⟨hn,hk _ (by simp) (by rw [List.getElem?_append_right (by simp)]; simp) fun j hj hne=>?_⟩
  rw [List.getElem?_append_left (by simpa using hj),List.getElem?_set_ne (fun e=>hne e.symm)]
theorem Zyc {h:Zaa} {a:Pt} {n c:Nat} {e:Bool} {l:List Nd} (r:Row h.length h a (n * 2) (Zdg eP l)) (he:a=none→e=true) (hn:n≤1048576) :
  Zaj pg Zdf [.slice a n c e] h fun v h'=>∃ a' c' e',v=.slice a' n c' e'∧Ynl h.length h' a' n c' l∧Zba h.length h h'∧(a'=none→e'=true):=by
 have hl:l.length=n:=by have:=r.1; rw [Zav Zcz] at this; omega
 apply Zfy.call
 refine ⟨he,?_⟩
 match a with
 | none=>
  have h0:n=0:=by
   rcases r.2 with h0 | ⟨i,o,t,all,ro,ha,_⟩
   ·omega
   ·cases ha
  subst h0
  have:l=[]:=List.eq_nil_of_length_eq_zero hl
  subst this
  exact ⟨none,0,true,rfl,⟨.inl ⟨rfl,rfl,rfl,rfl⟩,rfl,fun i hi=>by cases hi⟩,Zba.refl _ _,fun _=>rfl⟩
 | some (i,o)=>
  simp only [Option.isNone_some,Zax]
  generalize hh0:h ++ [Zby.cells Zab [] false]=h0
  have s0:Zba h.length h h0:=by rw [← hh0]; exact Zam
  have o0:h0[h.length]?=some (.cells Zab [] false):=by rw [← hh0]; simp
  have l0:h0.length=h.length + 1:=by rw [← hh0]; simp
  refine Zdu (fun h=>by cases h) (fun _=>?_)
  refine Vec.app0 (n:=0) o0 Zhv Zoh Zoi Zog (by simp) (r.same' s0).rowOf (Zid (enc:=eP) (fun _=>rfl) l) (by omega) (fun h1 hl1 hi1 hk1=>?_)
  simp only [Zah,Nat.zero_add]
  exact ⟨_,_,_,rfl,⟨Vec.mk1 (by simpa using hi1),hl,fun j hj=>by cases hj; omega⟩,⟨by omega,fun j hj=>by rw [hk1 j (by omega) (by omega)]; exact s0.eq j hj⟩,fun h=>by cases h⟩
structure Ybz (hb:Zaa) (i:Nat) (u v:Zat) (sp:Bool) (h:Zaa) (qa:Pt) (asked:List Nd) (fl:Nd):Prop where
 same:Zba hb.length hb h
 ge:hb.length≤i
 ob:∃ qn qc qe x7,h[i]?=some (.cells Zfi [u,v,.bool sp,.fn Zcx [],.slice qa qn qc qe,.str fl.1,.str fl.2,x7] false)∧Ynl hb.length h qa qn qc asked
 ne:∀ q,qa=some (q,0)→q≠i
section
variable {hb:Zaa} {i:Nat} {u v:Zat} {sp:Bool} {h:Zaa} {qa:Pt} {asked:List Nd} {fl:Nd}
theorem Ybz.step {h':Zaa} (r:Ybz hb i u v sp h qa asked fl) (k:Zba h.length h h'):Ybz hb i u v sp h' qa asked fl:=by
 obtain ⟨qn,qc,qe,x7,ho,hv⟩:=r.ob
 exact ⟨r.same.trans (k.mono r.same.le),r.ge,⟨qn,qc,qe,x7,k.get ho (Own.lt ho),hv.same k⟩,r.ne⟩
theorem Ybz.lt (r:Ybz hb i u v sp h qa asked fl):i < h.length:=by obtain ⟨_,_,_,_,ho,_⟩:=r.ob; exact Own.lt ho
theorem Ybz.low (r:Ybz hb i u v sp h qa asked fl):∀ q,qa=some (q,0)→hb.length≤q∧q < h.length:=by
 obtain ⟨qn,qc,qe,x7,ho,hv⟩:=r.ob
 exact fun q hq=>⟨hv.low q hq,hv.vec.lt' hq⟩
theorem Ybz.write {qa':Pt} {qn qc:Nat} {qe:Bool} {x7:Zat} {x:Zby} {l:List Nd} {fl':Nd} (sm:Zba hb.length hb h) (ge:hb.length≤i) (ho:h[i]?=some x)
  (hv:Ynl hb.length h qa' qn qc l) (ne:∀ q,qa'=some (q,0)→q≠i):Ybz hb i u v sp (h.set i (.cells Zfi [u,v,.bool sp,.fn Zcx [],.slice qa' qn qc qe,.str fl'.1,.str fl'.2,x7] false)) qa' l fl':=by
 refine ⟨⟨by simp; exact sm.le,fun j hj=>by rw [Zbo (by omega)]; exact sm.eq j hj⟩,ge,⟨qn,qc,qe,x7,Zbx ho,⟨?_,hv.len,hv.low⟩⟩,ne⟩
 exact hv.vec.agree fun j hj=>Zbo (fun e=>ne j hj e.symm)
def Ykp (hb:Zaa) (i:Nat) (u v:Zat) (sp:Bool) (h:Zaa) (qa:Pt) (r:Fnd × List Nd) (x:Zat) (h':Zaa):Prop:=
 ∃ qa' fl',x=.tup [.str (Yac r.1),.str (Yer r.1)]∧Ybz hb i u v sp h' qa' r.2 fl'∧FrS i qa h h' qa'∧∀ y n,r.1=.no y n→(y≠[]∧y≠Zvx)∧fl'=n
theorem Ykp.of {h0:Zaa} {qa0:Pt} {r:Fnd × List Nd} {x:Zat} {h':Zaa} (F:FrS i qa0 h0 h qa) (q:Ykp hb i u v sp h qa r x h'):Ykp hb i u v sp h0 qa0 r x h':=by
 obtain ⟨qa',fl',e,a,f,z⟩:=q
 exact ⟨qa',fl',e,a,F.trans f,z⟩
theorem Yez (y:List Nat) (hy:y≠[]∧y≠Zvx) (rd:Ybz hb i u v sp h qa asked fl) {n:Nd} {p0 p1 p2:Nat} {a:Pt} {m c:Nat} {e:Bool} {st:List Nd} (hp0:h[p0]?=some (.cells Zga [.ptr (some (i,0))] false))
  (hp1:h[p1]?=some (.cells Zab [.str n.1,.str n.2] false)) (hp2:h[p2]?=some (.cells Zbm [.slice a m c e] false)) (row:Row h.length h a (m * 2) (Zdg eP st)) (he:a=none→e=true) (hm:m≤1048576) (hne:p0≠i) :
  Zaj pg Zcv [.str y,.ptr (some (p1,0)),.ptr (some (p2,0)),.ptr (some (p0,0))] h (Ykp hb i u v sp h qa (.no y n,asked)):=by
 apply Zlj.call
 simp only [Zal hp0,Zbb hp1,Zal hp2,List.getElem?_cons_zero,Zeg,Zap,Zaf,Zao,Zag,Zah,true_and]
 refine (Zyc row he hm).mono ?_
 rintro x h2 ⟨a',c',e',rfl,nv,s2,_⟩
 have q0:=s2.get hp0 (Own.lt hp0)
 have q1:=s2.get hp1 (Own.lt hp1)
 have rd2:=rd.step s2
 obtain ⟨qn,qc,qe,x7,ho,hv⟩:=rd2.ob
 simp only [Zal q0,Zbb q1,List.getElem?_cons_zero,Zah,Zaw,true_and]
 rw [Zbd ho (by simp)]
 simp only [Zar,putRow,List.take_succ_cons,List.take_zero,List.length_cons,List.length_nil,List.drop_succ_cons,List.drop_zero,List.drop_nil,List.cons_append,List.nil_append,List.append_nil]
 refine ⟨by rw [Zal (by rw [Zbo hne.symm]; exact q0)]; rfl,?_⟩
 rw [Zbd (Zbx ho) (by simp)]
 simp only [Zar,putRow,List.take_succ_cons,List.take_zero,List.length_cons,List.length_nil,List.drop_succ_cons,List.drop_zero,List.drop_nil,List.cons_append,List.nil_append,List.append_nil,List.set_set]
 refine ⟨qa,n,rfl,Ybz.write rd2.same rd.ge ho hv rd.ne,(FrS.of_same s2).trans FrS.set,fun y' n' hyn=>?_⟩
 cases hyn
 exact ⟨hy,rfl⟩
end
def Znh (x:Int):List Nat:=[48 + x.toNat]
def Yvm (f:Nat) (hb:Zaa) (a0 a1:Pt) (n0 c0 n1 c1:Nat) (e0 e1:Bool) (w:Wd) (sp:Bool):Prop:=∀ {h:Zaa} {i:Nat} {qa:Pt} {asked:List Nd} {fl n:Nd} {a2:Pt} {n2 c2:Nat} {e2:Bool} {st:List Nd},Ybz hb i (.slice a0 n0 c0 e0) (.slice a1 n1 c1 e1) sp h qa asked fl→asked.length≤300→n2 + f=31 →
   Row h.length h a2 (n2 * 2) (Zdg eP st)→(a2=none→e2=true)→(∀ j o,n2≠0→a2=some (j,o)→j≠i∧∀ q,qa=some (q,0)→j≠q) →
   Zaj pg Ziq [.ptr (some (i,0)),.agg [.str n.1,.str n.2],.slice a2 n2 c2 e2] h (Ykp hb i (.slice a0 n0 c0 e0) (.slice a1 n1 c1 e1) sp h qa (Zkc (wk w) sp Znh f asked n))
theorem Ymp {k:Nat} (h:k < 10):Ydi k=Znh k:=by rw [Zyn h]; rfl
theorem Zte {w:Wd} (h:Zdv w=true):w.is.length≤10:=by
 unfold Zdv at h
 simp only [Bool.and_eq_true,decide_eq_true_eq] at h
 exact h.1.2
noncomputable def Zgc (w:Wd) (sp:Bool) (f:Nat) (k:Nat) (asked:List Nd) (n:Nd) (ms:List Nd) (g:Nat):(Fnd × List Nd) × Nat:=(ms.take g).foldl (Zfm (Zkc (wk w) sp Znh f)) ((.ok (Znh k),asked ++ [n]),0)
theorem Znz {w:Wd} {sp:Bool} {f k:Nat} {asked:List Nd} {n:Nd} {ms:List Nd} (h:¬ 300≤asked.length) (g:Nat) :
  (Zgc w sp f k asked n ms g).1.2.length≤300∧∀ s,(Zgc w sp f k asked n ms g).1.1=.ok s→s.length≤3000:=by
 have:=Zve (g:=Zkc (wk w) sp Znh f) (fun a m ha=>Zuc (fun x=>by simp [Znh]) f a m ha) asked.length (ms.take g) ((.ok (Znh k),asked ++ [n]),0) (by simp; omega) (by simp) (fun s hs=>by
  cases hs; simp [Znh]; omega)
 simp only at this
 exact ⟨this.2.1,fun s hs=>by have:=this.2.2 s hs; have:=this; omega⟩
theorem Yao {w:Wd} {sp:Bool} {f k:Nat} {asked:List Nd} {n:Nd} {ms:List Nd} {g:Nat} (hg:g≤ms.length) {out:List Nat} (h:(Zgc w sp f k asked n ms g).1.1=.ok out):(Zgc w sp f k asked n ms g).2=g:=by
 have:=Yqd (ms.take g) ((.ok (Znh k),asked ++ [n]),0) h
 unfold Zgc
 rw [this]; simp; omega
theorem Zyv {w:Wd} {sp:Bool} {f k:Nat} {asked:List Nd} {n:Nd} {ms:List Nd} {g:Nat} (hg:g < ms.length):Zgc w sp f k asked n ms (g + 1)=Zfm (Zkc (wk w) sp Znh f) (Zgc w sp f k asked n ms g) ms[g]:=Ynd _ ms _ g hg
theorem Zzb {w:Wd} {sp:Bool} {f k:Nat} {asked:List Nd} {n:Nd} {ms:List Nd} {g:Nat} {y:List Nat} {m:Nd} {a:List Nd} {q:Nat} (h:Zgc w sp f k asked n ms g=((.no y m,a),q)):Zgc w sp f k asked n ms ms.length=((.no y m,a),q):=by
 have:=Yos (Zkc (wk w) sp Znh f) ms ((.ok (Znh k),asked ++ [n]),0) g h
 unfold Zgc
 rw [List.take_length]; exact this
theorem Yvq {hb:Zaa} {a0 a1:Pt} {n0 c0 n1 c1:Nat} {e0 e1:Bool} {w:Wd} (r:Zlx hb a0 n0 c0 a1 n1 c1 w) (b:WB w) (hw:Zdv w=true) (sp:Bool) (f:Nat) (ih:Yvm f hb a0 a1 n0 c0 n1 c1 e0 e1 w sp)
  {h:Zaa} {i:Nat} {qa:Pt} {asked:List Nd} {fl n:Nd} {a2:Pt} {n2 c2:Nat} {e2:Bool} {st:List Nd} (rd:Ybz hb i (.slice a0 n0 c0 e0) (.slice a1 n1 c1 e1) sp h qa (asked ++ [n]) fl) (h300:¬ 300≤asked.length) (hf:n2 + (f + 1)=31)
  (row:Row h.length h a2 (n2 * 2) (Zdg eP st)) (he2:a2=none→e2=true) {p0 p1 p2:Nat} (hp0:h[p0]?=some (.cells Zga [.ptr (some (i,0))] false)) (hp1:h[p1]?=some (.cells Zab [.str n.1,.str n.2] false))
  (hp2:h[p2]?=some (.cells Zbm [.slice a2 n2 c2 e2] false)) (hi0:p0≠i) (hq0:∀ q,qa=some (q,0)→p0≠q) {k:Nat} (hk:k < w.is.length) (hpick:(Zeh (wk w) sp n).1=(k:Int)) (Q:QT)
  (hQ:∀ x h',Ykp hb i (.slice a0 n0 c0 e0) (.slice a1 n1 c1 e1) sp h qa (Zkc (wk w) sp Znh (f + 1) asked n) x h'→Q x h'):Zct.J18 Q p0 0 (k:Int) p1 0 p1 0 p2 0 p0 0 p2 0 h:=by
 have hstl:st.length=n2:=by have:=row.1; rw [Zav Zcz] at this; omega
 have hl10:=Zte hw
 have hl1:=r.len1
 obtain ⟨qn,qc,qe,x7,ho,hv⟩:=rd.ob
 have hlow:=rd.low
 have hil:=rd.lt
 apply Zct.J18i
 obtain ⟨ii,oi,hki,na,nn,ncp,ne,rfl,_,hri,_,_,_,hrow,hnl⟩:=(r.same rd.same).inst (k:=k) (by omega)
 have hbk:=b.is _ (List.getElem_mem hk)
 simp only [Zal hp0,Zal hp1,Zal ho,Nat.zero_add,List.getElem?_cons_succ,List.getElem?_cons_zero,Zeg,Zaw,Zah,Int.toNat_natCast,hri,Zap,Zaf,Zao,Zag,true_and]
 refine ⟨by omega,?_⟩
 refine (Yhf (i:=w.is[k]) (t:=n.2) hrow (by omega)).mono ?_
 rintro v h2 ⟨s2,ma,mn,mc,me,rfl,fm⟩
 have rd2:=rd.step s2
 have F2:FrS i qa h h2 qa:=FrS.of_same s2
 have q0:=s2.get hp0 (Own.lt hp0)
 have q1:=s2.get hp1 (Own.lt hp1)
 have q2:=s2.get hp2 (Own.lt hp2)
 have o2:=s2.get ho (Own.lt ho)
 have row2:=row.same' s2
 have l2:=s2.le
 have hneeds:(wk w).needs (k:Int) n.2=Zhb w.is[k] n.2:=by show Zhb (Zmm w (k:Int)) n.2=_; rw [Zry hk]
 simp only [Zci,Zaf,Zah,Zaq,Zao,Zal q0,Zal o2,List.getElem?_cons_succ,List.getElem?_cons_zero,true_and]
 refine Zbs (fun hok=>?_) (fun hok=>?_)
 ·have hask:=Zrd (k:=wk w) (sp:=sp) (dec:=Znh) (f:=f) (n:=n) h300 (by rw [hpick]; omega) (by rw [hpick,hneeds]; cases hh:Zhb w.is[k] n.2 with | none=>rfl | some _=>rw [hh] at hok; cases hok)
  refine (Yez Ytn (by decide) rd2 q0 q1 q2 row2 he2 (by omega) hi0).mono ?_
  rintro x h' q
  obtain ⟨qa',fl',rfl,z⟩:=Ykp.of F2 q
  simp only [Zci,Zaf,Zag,Zao]
  exact hQ _ _ (by rw [hask]; exact ⟨qa',fl',rfl,z⟩)
 obtain ⟨ms,hms⟩:=Option.isSome_iff_exists.1 hok
 have hms3:=Zxy hw hk hms
 rw [hms] at fm
 simp only [Option.getD_some] at fm
 have hmn:=fm.1
 have hask:=Ztx (k:=wk w) (sp:=sp) (dec:=Znh) (f:=f) (n:=n) (asked:=asked) h300 (by rw [hpick]; omega) (by rw [hpick,hneeds]; exact hms)
 rw [hpick] at hask
 have hask:Zkc (wk w) sp Znh (f + 1) asked n=Zvv ms (Zgc w sp f k asked n ms ms.length).1:=by rw [hask]; unfold Zgc; rw [List.take_length]
 have key:∀ (hL:Zaa) (qs cs:Nat) (es:Bool),Zba h2.length h2 hL→Row hL.length hL (some (qs,0)) ((n2 + 1) * 2) (Zdg eP (st ++ [n]))→h2.length≤qs→qs < hL.length →
   Zct.L24 Q p0 0 ma mn mc me (Znh k) (some (qs,0)) (n2 + 1) cs es ma mn mc me (((mn:Nat):Int)) 0 hL:=by
  intro hL qs cs es sL rowL hqs1 hqs2
  have rdL:=rd2.step sL
  have FL:=F2.trans (FrS.of_same sL)
  have fmL:=fm.same sL
  have z0:=sL.get q0 (Own.lt q0)
  have lL:=sL.le
  refine Zct.L24ind _ _ _ _ _ _ _ _ _ _ _ _ _ _ _ _ (J:=fun (g:Nat) x15 x8 h'=>x8=(g:Int)∧g≤mn∧(Zgc w sp f k asked n ms g).1.1=.ok x15∧∃ qa' fl',Ybz hb i (.slice a0 n0 c0 e0) (.slice (some (ii,oi)) n1 c1 e1) sp h' qa' (Zgc w sp f k asked n ms g).1.2 fl'∧FrS i qa hL h' qa') (fun g=>mn - g) ?_ 0 _ _ _ ⟨rfl,by omega,rfl,qa,fl,rdL,FrS.refl _ _ _⟩
  rintro g x15 x8 h' ⟨rfl,hg,hout,qa',fl',rdg,Fg⟩ R hR
  obtain ⟨hb1,hb2⟩:=Znz (w:=w) (sp:=sp) (f:=f) (k:=k) (n:=n) (ms:=ms) h300 g
  have hb2:=hb2 _ hout
  have hidx:=Yao (by omega) hout
  have hne0:∀ j,h.length≤j→j < hL.length→j≠i∧∀ q,qa=some (q,0)→j≠q:=fun j hj1 hj2=>⟨by omega,fun q hq=>by have:=(hlow q hq).2; omega⟩
  unfold Zct.L24t
  refine Zau (fun hlt=>?_) (fun hge=>?_)
  ·have fmg:Row h'.length h' ma (mn * 2) (Zdg eP ms):=Fg.row (fmL.row Zcz) fun j o hn ha=>by
    obtain ⟨_,h0 | ⟨j',hj',hb',hjj⟩⟩:=fmL
    ·omega
    ·rw [ha] at hj'
     cases hj'
     exact hne0 _ hb' (Own.lt hjj)
   obtain ⟨im,om,hgl,rfl,_,hrm,_⟩:=fmg.pr (k:=g) (by omega)
   simp only [Zaw,Int.toNat_natCast,hrm,Zap,Zaf,Zao,Zag,Zax]
   rw [Zgb]
   generalize hh7:h' ++ [Zby.cells Zab [.str ms[g].1,.str ms[g].2] false]=h7
   have s7:Zba h'.length h' h7:=by rw [← hh7]; exact Zam
   have o7:h7[h'.length]?=some (.cells Zab [.str ms[g].1,.str ms[g].2] false):=by rw [← hh7]; simp
   have zg:=Fg.get z0 hi0 hq0
   have z7:=s7.get zg (Own.lt zg)
   simp only [Zar,Zal z7,Zbb o7,List.getElem?_cons_zero,Zeg,Zap,Zaf,Zao,Zag]
   refine ⟨by omega,?_⟩
   have rowg:Row h'.length h' (some (qs,0)) ((n2 + 1) * 2) (Zdg eP (st ++ [n])):=Fg.row rowL fun j o hn ha=>by cases ha; exact hne0 _ (by omega) hqs2
   have hgle:=Fg.le
   refine (ih (n:=ms[g]) (rdg.step s7) hb1 (by omega) (rowg.same' s7) (fun hh=>by cases hh) (fun j o hn ha=>?_)).mono ?_
   ·cases ha
    refine ⟨by omega,fun q hq=>?_⟩
    rcases Fg.pt with e | e
    ·rw [e] at hq; have:=(hlow q hq).2; omega
    ·have:=e q hq; omega
   rintro v h8 ⟨qa8,fl8,rfl,rd8,F8,hno⟩
   have F8':=(Fg.trans (FrS.of_same s7)).trans F8
   have hsucc:=Zyv (w:=w) (sp:=sp) (f:=f) (k:=k) (asked:=asked) (n:=n) (ms:=ms) hgl
   have hPg:Zgc w sp f k asked n ms g=((.ok x15,(Zgc w sp f k asked n ms g).1.2),g):=Prod.ext (Prod.ext hout rfl) hidx
   rw [hPg] at hsucc
   unfold Zfm at hsucc
   simp only at hsucc
   simp only [Zci,Zaf,Zag,Zao]
   rcases hr:Zkc (wk w) sp Znh f (Zgc w sp f k asked n ms g).1.2 ms[g] with ⟨x,a'⟩
   rw [hr] at hsucc rd8 hno
   cases x with
   | no y m=>
    obtain ⟨hy,rfl⟩:=hno y m rfl
    simp only at hsucc
    have hall:=Zzb hsucc
    refine Zbs (fun hd=>?_) (fun hd=>absurd (of_decide_eq_true hd) hy.1)
    refine hQ _ _ ?_
    rw [hask,hall]
    refine ⟨qa8,fl8,rfl,rd8,FL.trans F8',fun y' n' hyn=>?_⟩
    cases hyn
    exact ⟨hy,rfl⟩
   | ok d=>
    refine Zbs (fun hd=>absurd rfl (of_decide_eq_false hd)) (fun hd=>?_)
    simp only at hsucc
    obtain ⟨hc1,hc2⟩:=Znz (w:=w) (sp:=sp) (f:=f) (k:=k) (n:=n) (ms:=ms) h300 (g + 1)
    have hc2:=hc2 _ (by rw [hsucc])
    simp only [List.length_append,List.length_cons] at hc2
    have fin:∀ m3,m3=Znr g→Zct.J32 Q R x15 [m3] d (g:Int) (((mn:Nat):Int)) (some (im,om)) mn mc me p0 0 (some (qs,0)) (n2 + 1) cs es (some (im,om)) mn mc me h8:=by
     rintro m3 rfl
     apply Zct.J32i
     refine ⟨by simp; omega,by simp; omega,?_⟩
     apply Zct.J33i
     rw [Zbq (by omega)]
     refine hR (g + 1) _ _ _ (by omega) ⟨rfl,by omega,by rw [hsucc]; simp,qa8,fl8,by rw [hsucc]; exact rd8,F8'⟩
    refine Zcs (fun h0=>fin _ (by unfold Znr; rw [if_pos (by omega)])) (fun h0=>fin _ (by unfold Znr; rw [if_neg (by omega)]))
  ·apply Zct.A24x0i
   have:g=mn:=by omega
   subst this
   have hend:Zgc w sp f k asked n ms ms.length=((.ok x15,(Zgc w sp f k asked n ms g).1.2),g):=by rw [hmn]; exact Prod.ext (Prod.ext hout rfl) hidx
   have he:Zkc (wk w) sp Znh (f + 1) asked n=(.ok (if ms=[] then x15 else x15 ++ [41]),(Zgc w sp f k asked n ms g).1.2):=by rw [hask,hend]; rfl
   refine Zau (fun hpos=>⟨by simp; omega,?_⟩) (fun hpos=>?_)
   ·apply Zct.J36i
    refine hQ _ _ ?_
    rw [he,if_neg (fun hm=>by rw [hm] at hmn; simp at hmn; omega)]
    exact ⟨qa',fl',rfl,rdg,FL.trans Fg,fun y n h=>by cases h⟩
   ·apply Zct.J36i
    refine hQ _ _ ?_
    rw [he,if_pos (List.eq_nil_of_length_eq_zero (by omega))]
    exact ⟨qa',fl',rfl,rdg,FL.trans Fg,fun y n h=>by cases h⟩
 refine (Ybf (i:=k) (by omega)).mono ?_
 rintro v h3 ⟨rfl,rfl⟩
 rw [Ymp (by omega)]
 simp only [Zag,Zal q2,Zbb q1,List.getElem?_cons_zero,Zah,Zap,Zaf,Zao]
 refine ⟨?_,?_⟩
 ·refine (Zyc row2 he2 (by omega)).mono ?_
  rintro v h4 ⟨a',c',e',rfl,nv,s4,_⟩
  have w1:=s4.get q1 (Own.lt q1)
  have w2:=s4.get q2 (Own.lt q2)
  have s5:Zba h4.length h4 (h4 ++ [Zby.cells Zab [.str n.1,.str n.2] false]):=Zam
  simp only [Zah,Zbb w1,Zax,true_and]
  refine ⟨by rw [Zal (s5.get w2 (Own.lt w2)),Zal w2],?_⟩
  refine nv.vec.pushN Zhv Zoh Zoi Zog (by rw [Zav Zcz,nv.len]) rfl (by omega) rfl (by omega) (fun h6 hl6 hi6 hk6=>?_)
  have hs4:=s4.le
  have S6:Zba h3.length h3 h6:=⟨by omega,fun j hj=>by rw [hk6 j (by omega) fun q hq=>by have:=nv.low q hq; omega]; exact s4.eq j hj⟩
  have x1:=S6.get q1 (Own.lt q1)
  have x2:=S6.get q2 (Own.lt q2)
  simp only [Zah]
  refine ⟨by rw [Zbb x1,Zbb (s5.get w1 (Own.lt w1))],by rw [Zal x2,Zal (s5.get w2 (Own.lt w2))],?_⟩
  refine key h6 _ _ _ S6 ?_ (by omega) (by omega)
  exact ⟨by rw [Zav Zcz]; simp [hstl],.inr ⟨_,_,_,_,_,rfl,by omega,hi6,by simp [Zav Zcz,hstl,eP]; omega,by
   rw [List.drop_zero,List.take_of_length_le (by simp [Zav Zcz,hstl,eP]; omega)]; simp [Zdg,eP]⟩⟩
 ·have s5:Zba h3.length h3 (h3 ++ [Zby.cells Zab [.str n.1,.str n.2] false]):=Zam
  have b5:(h3 ++ [Zby.cells Zab [.str n.1,.str n.2] false])[h3.length]?=some (Zby.cells Zab [.str n.1,.str n.2] false):=by simp
  simp only [Zax]
  refine ⟨by rw [Zal (s5.get q2 (Own.lt q2))]; rfl,?_⟩
  refine (Zyc (row2.same' s5) he2 (by omega)).mono ?_
  rintro v h4 ⟨a',c',e',rfl,nv,s4,_⟩
  have S4:=s5.cat s4
  have w1:=S4.get q1 (Own.lt q1)
  have w2:=S4.get q2 (Own.lt q2)
  have b4:=s4.get b5 (Own.lt b5)
  simp only [Zah]
  refine ⟨by rw [Zbb w1,Zbb (s5.get q1 (Own.lt q1))],?_⟩
  have hs4:=s4.le
  simp only [List.length_append,List.length_cons,List.length_nil] at hs4
  have hr4:Row h4.length h4 (some (h3.length,0)) (1 * 2) (Zdg eP [n]):=⟨rfl,.inr ⟨h3.length,0,_,_,_,rfl,by omega,b4,by simp,by simp [eP]⟩⟩
  refine nv.vec.app Zhv Zoh Zoi Zog (by rw [Zav Zcz,nv.len]) hr4.rowOf (Zid (enc:=eP) (fun _=>rfl) _) (by omega) (by omega) (fun h6 hl6 hi6 hk6=>?_)
  have hnl:=nv.low
  simp only [List.length_append,List.length_cons,List.length_nil] at hnl
  have S6:Zba h3.length h3 h6:=⟨by omega,fun j hj=>by rw [hk6 j (by omega) fun q hq=>by have:=hnl q hq; omega]; exact S4.eq j hj⟩
  have x1:=S6.get q1 (Own.lt q1)
  have x2:=S6.get q2 (Own.lt q2)
  simp only [Zah]
  refine ⟨by rw [Zbb x1,Zbb w1],by rw [Zal x2,Zal w2],?_⟩
  refine key h6 _ _ _ S6 ?_ (by omega) (by omega)
  exact ⟨by rw [Zav Zcz]; simp [hstl],.inr ⟨_,_,_,_,_,rfl,by omega,hi6,by simp [Zav Zcz,hstl,eP]; omega,by
   rw [List.drop_zero,List.take_of_length_le (by simp [Zav Zcz,hstl,eP]; omega)]; simp [Zdg,eP]⟩⟩
theorem Yhm {hb:Zaa} {a0 a1:Pt} {n0 c0 n1 c1:Nat} {e0 e1:Bool} {w:Wd} (r:Zlx hb a0 n0 c0 a1 n1 c1 w) (b:WB w) (hw:Zdv w=true) (sp:Bool) (f:Nat)
  (ih:∀ f',f=f' + 1→Yvm f' hb a0 a1 n0 c0 n1 c1 e0 e1 w sp):Yvm f hb a0 a1 n0 c0 n1 c1 e0 e1 w sp:=by
 intro h i qa asked fl n a2 n2 c2 e2 st rd hlen hf row he2 hst
 apply Zct.call
 simp only [Zax]
 generalize hh0:h ++ [Zby.cells Zga [.ptr (some (i,0))] false]=h0
 generalize hh1:h0 ++ [Zby.cells Zab [.str n.1,.str n.2] false]=h1
 generalize hh2:h1 ++ [Zby.cells Zbm [.slice a2 n2 c2 e2] false]=h2
 have s0:Zba h.length h h0:=by rw [← hh0]; exact Zam
 have s1:Zba h0.length h0 h1:=by rw [← hh1]; exact Zam
 have s2:Zba h1.length h1 h2:=by rw [← hh2]; exact Zam
 have l0:h0.length=h.length + 1:=by rw [← hh0]; simp
 have l1:h1.length=h0.length + 1:=by rw [← hh1]; simp
 have l2:h2.length=h1.length + 1:=by rw [← hh2]; simp
 have p0:h0[h.length]?=some (.cells Zga [.ptr (some (i,0))] false):=by rw [← hh0]; simp
 have p0:=s2.get (s1.get p0 (Own.lt p0)) (by have:=Own.lt p0; omega)
 have p1:h1[h0.length]?=some (.cells Zab [.str n.1,.str n.2] false):=by rw [← hh1]; simp
 have p1:=s2.get p1 (Own.lt p1)
 have p2:h2[h1.length]?=some (.cells Zbm [.slice a2 n2 c2 e2] false):=by rw [← hh2]; simp
 have S2:=(s0.cat s1).cat s2
 have hil:=rd.lt
 have hlow:=rd.low
 have rd2:=rd.step S2
 obtain ⟨qn,qc,qe,x7,ho,hv⟩:=rd2.ob
 simp only [Zal p0,Zbb p1,Zal ho,Nat.zero_add,List.getElem?_cons_succ,List.getElem?_cons_zero,Zeg,Zaw,Ylv,Zap,Zaf,Zao,Zag,Ysh,true_and,List.append_nil]
 apply Zmp.call
 simp only [Zax]
 generalize hh3:h2 ++ [Zby.cells Zab [.str n.1,.str n.2] false]=h3
 have s3:Zba h2.length h2 h3:=by rw [← hh3]; exact Zam
 have l3:h3.length=h2.length + 1:=by rw [← hh3]; simp
 have S3:=S2.cat s3
 have p0:=s3.get p0 (Own.lt p0)
 have p1:=s3.get p1 (Own.lt p1)
 have p2:=s3.get p2 (Own.lt p2)
 have rd3:=rd2.step s3
 have ho:=s3.get ho (Own.lt ho)
 have hv:=hv.same s3
 have F3:FrS i qa h h3 qa:=FrS.of_same S3
 have hal:=hv.len
 have row3:Row h3.length h3 a2 (n2 * 2) (Zdg eP st):=row.same' S3
 simp only [Zci,Zaf,Zag,Zaq,Zao,Zal p0,Zal ho,Nat.zero_add,List.getElem?_cons_succ,List.getElem?_cons_zero,Zeg,Zaw,Zah,true_and]
 refine Zdu (fun hx=>absurd hx (by decide)) (fun _=>?_)
 refine Zau (fun h300=>?_) (fun h300=>?_)
 ·rw [Zmz (by omega)]
  refine Zaj.mono ((Yez Yli (by decide) rd3 p0 p1 p2 row3 he2 (by omega) (by omega)).mono fun x h' q=>Ykp.of F3 q) ?_
  rintro x h' q
  obtain ⟨qa',fl',rfl,q⟩:=q
  simp only [Zci,Zaf,Zag,Zao]
  exact ⟨qa',fl',rfl,q⟩
 have h300':¬ 300≤asked.length:=by omega
 have s4:Zba h3.length h3 (h3 ++ [Zby.cells Zab [.str n.1,.str n.2] false]):=Zam
 simp only [Zbb p1,Zap,Zaf,Zao,Zag,true_and]
 refine ⟨by rw [Zal (s4.get ho (Own.lt ho))]; rfl,by rw [Zal (s4.get p0 (Own.lt p0))]; rfl,by rw [Zal (s4.get p0 (Own.lt p0))]; rfl,?_⟩
 refine hv.vec.pushN Zhv Zoh Zoi Zog (by rw [Zav Zcz,hv.len]) rfl (by omega) rfl (by omega) (fun h6 hl6 hi6 hk6=>?_)
 have hqk:∀ j,j < h3.length→h.length≤j→h6[j]?=h3[j]?:=fun j hj1 hj2=>hk6 j hj1 fun q hq=>by have:=(hlow q hq).2; omega
 have z0:h6[h.length]?=some (.cells Zga [.ptr (some (i,0))] false):=by rw [hqk _ (Own.lt p0) (by omega)]; exact p0
 have z1:h6[h0.length]?=some (.cells Zab [.str n.1,.str n.2] false):=by rw [hqk _ (Own.lt p1) (by omega)]; exact p1
 have z2:h6[h1.length]?=some (.cells Zbm [.slice a2 n2 c2 e2] false):=by rw [hqk _ (Own.lt p2) (by omega)]; exact p2
 have zo:h6[i]?=some (.cells Zfi [.slice a0 n0 c0 e0,.slice a1 n1 c1 e1,.bool sp,.fn Zcx [],.slice qa qn qc qe,.str fl.1,.str fl.2,x7] false):=by rw [hk6 i (Own.lt ho) fun q hq=>(rd.ne q hq).symm]; exact ho
 simp only [Zah,Zal z0,List.getElem?_cons_zero,Zaw]
 refine ⟨by rw [Zal (s4.get p0 (Own.lt p0))]; rfl,by rw [Zal (s4.get p0 (Own.lt p0))]; rfl,?_⟩
 rw [Zbd zo (by simp)]
 simp only [Zar,putRow,List.take_succ_cons,List.take_zero,List.length_cons,List.length_nil,List.drop_succ_cons,List.drop_zero,List.drop_nil,List.cons_append,List.nil_append,List.append_nil]
 have hle:=rd.same.le
 have hS3:=S3.le
 have rd7:Ybz hb i (.slice a0 n0 c0 e0) (.slice a1 n1 c1 e1) sp (h6.set i (.cells Zfi [.slice a0 n0 c0 e0,.slice a1 n1 c1 e1,.bool sp,.fn Zcx [],.slice (some (h3.length + 1,0)) (qn + 1) (qn + 1) false,.str fl.1,.str fl.2,x7] false)) (some (h3.length + 1,0)) (asked ++ [n]) fl:=by
  refine Ybz.write ⟨by omega,fun j hj=>?_⟩ rd.ge zo ⟨Vec.mk1 ?_,by rw [List.length_append,hal]; rfl,fun q hq=>by cases hq; omega⟩ (fun q hq=>by cases hq; omega)
  ·rw [hk6 j (by omega) fun q hq=>by have:=(hlow q hq).1; omega]; exact rd3.same.eq j hj
  ·rw [hi6,Zii]; rfl
 have F7:FrS i qa h (h6.set i (.cells Zfi [.slice a0 n0 c0 e0,.slice a1 n1 c1 e1,.bool sp,.fn Zcx [],.slice (some (h3.length + 1,0)) (qn + 1) (qn + 1) false,.str fl.1,.str fl.2,x7] false)) (some (h3.length + 1,0)):=by
  refine FrS.trans (qa1:=some (h3.length + 1,0)) ⟨by omega,fun j hj hne hq=>?_,.inr fun q hq=>by cases hq; omega⟩ FrS.set
  rw [hk6 j (by omega) hq]; exact S3.eq j hj
 generalize hh7:h6.set i (.cells Zfi [.slice a0 n0 c0 e0,.slice a1 n1 c1 e1,.bool sp,.fn Zcx [],.slice (some (h3.length + 1,0)) (qn + 1) (qn + 1) false,.str fl.1,.str fl.2,x7] false)=h7 at rd7 F7 ⊢
 have z0:h7[h.length]?=some (.cells Zga [.ptr (some (i,0))] false):=by rw [← hh7,Zbo (by omega)]; exact z0
 have z1:h7[h0.length]?=some (.cells Zab [.str n.1,.str n.2] false):=by rw [← hh7,Zbo (by omega)]; exact z1
 have z2:h7[h1.length]?=some (.cells Zbm [.slice a2 n2 c2 e2] false):=by rw [← hh7,Zbo (by omega)]; exact z2
 have hl7:h7.length=h3.length + 2:=by rw [← hh7]; simpa using hl6
 have row7:=F7.row row fun j o hn ha=>hst j o (by omega) ha
 have hstl:n2≤31:=by omega
 -- an end of the search
 have bad:∀ (y:List Nat) (h':Zaa),(y≠[]∧y≠Zvx)→Zba h7.length h7 h'→Zkc (wk w) sp Znh f asked n=(.no y n,asked ++ [n])→Zaj pg Zcv [.str y,.ptr (some (h0.length,0)),.ptr (some (h1.length,0)),.ptr (some (h.length,0))] h' fun v h''=>
   Zjx v fun cs=>Zai cs fun c r=>Zbc (some c) fun s=>Zai r fun c' r'=>Zbc (some c') fun s'=>Zbu r' (Ykp hb i (.slice a0 n0 c0 e0) (.slice a1 n1 c1 e1) sp h qa (Zkc (wk w) sp Znh f asked n) (.tup [.str s,.str s']) h''):=by
  intro y h' hy sm he
  refine (Yez y hy (rd7.step sm) (sm.get z0 (Own.lt z0)) (sm.get z1 (Own.lt z1)) (sm.get z2 (Own.lt z2)) (row7.same' sm) he2 (by omega) (by omega)).mono ?_
  rintro x h'' q
  obtain ⟨qa',fl',rfl,z⟩:=Ykp.of (F7.trans (FrS.of_same sm)) q
  simp only [Zci,Zaf,Zag,Zao]
  rw [he]
  exact ⟨qa',fl',rfl,z⟩
 simp only [Zal z2,List.getElem?_cons_zero,Zah]
 refine Zau (fun hd=>?_) (fun hd=>?_)
 ·have:f=0:=by omega
  subst this
  exact bad Ymb h7 (by decide) (Zba.refl _ _) (Zoc h300')
 obtain ⟨f',rfl⟩:∃ f',f=f' + 1:=⟨f - 1,by omega⟩
 have ih:=@ih f' rfl
 obtain ⟨qn7,qc7,qe7,x77,o7,v7⟩:=rd7.ob
 simp only [Zal z0,List.getElem?_cons_zero,Zeg,Zaw,Zed o7 (show 0 + 0 + 2≤_ by simp),Nat.zero_add,Zbb z1,List.drop_zero,List.take_succ_cons,List.take_zero,Zap,Zaf,Zao,Zah,Zag,true_and]
 refine (Zud (nd:=n) (r.same rd7.same) b).mono ?_
 rintro v h8 ⟨s8,ca,cn,cc,ce,rfl,fc⟩
 have rd8:=rd7.step s8
 have F8:=F7.trans (FrS.of_same s8)
 have w0:=s8.get z0 (Own.lt z0)
 have w1:=s8.get z1 (Own.lt z1)
 have w2:=s8.get z2 (Own.lt z2)
 have o8:=s8.get o7 (Own.lt o7)
 have l8:=s8.le
 have hcl:=fc.1
 have hcin:=Ybg w n
 have hpk:Zeh (wk w) sp n=match Zhx w n with | []=>(-1,Yft) | [x]=>(x,[]) | l=>if sp && decide (0≤Zow w l) then (Zow w l,[]) else (-1,Znx):=rfl
 simp only [Zah,Zal w0,List.getElem?_cons_zero,true_and]
 refine Zcs (fun hc0=>?_) (fun hc0=>?_)
 ·have hc:Zhx w n=[]:=List.eq_nil_of_length_eq_zero (by omega)
  rw [hc] at hpk
  exact bad Yft h8 (by decide) s8 (by rw [Zlb h300' (by rw [hpk]; simp only; omega),hpk])
 obtain ⟨ic,oc,hkc,rfl,_,hcell⟩:=Row.i64 (l:=Zhx w n) (by simpa using Zdd.row Znv fc) (k:=0) (by omega)
 have hcell0:Zae h8 (.ptr (some (ic,oc + (Int.toNat 0) * 1)))=some (.int .i64 (Zhx w n)[0]):=hcell
 obtain ⟨k0,hk0,hk0l⟩:=hcin _ (List.getElem_mem hkc)
 simp only [Zaw,hcell0,Zas]
 refine ⟨by omega,?_⟩
 have hqa7:∀ q,some (h3.length + 1,0)=some (q,0)→h.length≠q:=fun q hq=>by cases hq; omega
 have go:∀ (h':Zaa) (k:Nat),Zba h7.length h7 h'→k < w.is.length→(Zeh (wk w) sp n).1=(k:Int)→Zct.J18 (Ykp hb i (.slice a0 n0 c0 e0) (.slice a1 n1 c1 e1) sp h qa (Zkc (wk w) sp Znh (f' + 1) asked n)) h.length 0 (k:Int) h0.length 0 h0.length 0 h1.length 0 h.length 0 h1.length 0 h':=by
  intro h' k sm hk hp
  exact Yvq r b hw sp f' ih (rd7.step sm) h300' (by omega) (row7.same' sm) he2 (sm.get z0 (Own.lt z0)) (sm.get z1 (Own.lt z1)) (sm.get z2 (Own.lt z2)) (by omega) hqa7 hk hp _ fun x h'' q=>Ykp.of (F7.trans (FrS.of_same sm)) q
 refine Zau (fun h1n=>?_) (fun h1n=>?_)
 ·have hpk:Zeh (wk w) sp n=if sp && decide (0≤Zow w (Zhx w n)) then (Zow w (Zhx w n),[]) else (-1,Znx):=by
   rw [hpk]
   match hc:Zhx w n with
   | []=>rw [hc] at hcl; simp at hcl; omega
   | [x]=>rw [hc] at hcl; simp at hcl; omega
   | x :: y :: l=>rfl
  simp only [Zeg,Zaw,Zed o8 (show 0 + 2≤_ by simp),List.drop_zero,List.take_succ_cons,List.take_zero,Zap,Zaf,Zao,Zah]
  have hcn:cn≤1048576:=by have:=Ybh (Zmx n) w.is; have:=b.li; unfold Zhx at hcl; omega
  refine (Ypm (r.same rd8.same) (by simpa using Zdd.row Znv fc) hcn hcin).mono ?_
  rintro v h9 ⟨rfl,s9⟩
  have v0:=s9.get w0 (Own.lt w0)
  have o9:=s9.get o8 (Own.lt o8)
  have S9:=s8.cat s9
  simp only [Zas,Zal v0,Zal o9,List.getElem?_cons_succ,List.getElem?_cons_zero,Zeg,Zaw,Zaq]
  refine Zbs (fun hsp=>?_) (fun hsp=>?_)
  ·have hpk:Zeh (wk w) sp n=(-1,Znx):=by rw [hpk,hsp]; rfl
   exact bad Znx h9 (by decide) S9 (by rw [Zlb h300' (by rw [hpk]; simp only; omega),hpk])
  ·refine Zau (fun hneg=>?_) (fun hneg=>?_)
   ·have hpk:Zeh (wk w) sp n=(-1,Znx):=by rw [hpk,hsp,if_neg (by simp; omega)]
    exact bad Znx h9 (by decide) S9 (by rw [Zlb h300' (by rw [hpk]; simp only; omega),hpk])
   ·have hpk:Zeh (wk w) sp n=(Zow w (Zhx w n),[]):=by rw [hpk,hsp,if_pos (by simp; omega)]
    obtain ⟨k,hk,hkl⟩:∃ k:Nat,Zow w (Zhx w n)=k∧k < w.is.length:=by
     unfold Zow at hneg ⊢
     cases hfi:(Zhx w n).find? (Ydu w (Zhx w n)) with
     | none=>rw [hfi] at hneg; simp at hneg
     | some x=>exact hcin x (List.mem_of_find?_eq_some hfi)
    rw [hk]
    exact go h9 k S9 hkl (by rw [hpk]; exact hk)
 ·rw [hk0]
  refine go h8 k0 s8 hk0l ?_
  rw [hpk]
  match hc:Zhx w n,hkc with
  | [x],_=>
   simp only [hc] at hk0
   exact hk0
  | [],hx=>simp at hx
  | x :: y :: l,_=>rw [hc] at hcl; simp at hcl; omega
theorem Yrn {hb:Zaa} {a0 a1:Pt} {n0 c0 n1 c1:Nat} {e0 e1:Bool} {w:Wd} (r:Zlx hb a0 n0 c0 a1 n1 c1 w) (b:WB w) (hw:Zdv w=true) (sp:Bool):∀ f,Yvm f hb a0 a1 n0 c0 n1 c1 e0 e1 w sp
 | 0=>Yhm r b hw sp 0 fun f' h=>by omega
 | f + 1=>Yhm r b hw sp (f + 1) fun f' h=>by cases h; exact Yrn r b hw sp f
end Go.Sim
