/- A part of the proof of a statement of this seat: see the text that holds the theorem. No condition. -/
import Derived.Test.YtflfcofeedjblaaGreatDoorPTCInN
import Derived.Test.YtflfcofeedjblaaGreatDoorCAll3
import Derived.Test.YtflfcofeedjblaaGreatDoorPDrawW
import Derived.Test.YtflfcofeedjblaaGreatDoorCVars
import Derived.Test.YtflfcofeedjblaaGreatDoorPTCDrawV
import Derived.Test.YtflfcofeedjblaaGreatDoorCTy
set_option linter.unusedVariables false
set_option linter.unusedSimpArgs false
set_option linter.all false
set_option linter.unusedVariables false
set_option linter.unusedSimpArgs false
set_option maxRecDepth 20000
namespace Go.Sim
open Go Go.RowKit

theorem Yov {w:Wd} {g:Nd} {q:Nat} (h:q < (Zjf w g.1).length):(Zhr w g).take (q + 2)=(Zhr w g).take (q + 1) ++ [(([(Zjf w g.1)[q]],g.2):Nd)]:=by
 have hl:q + 1 < (Zhr w g).length:=by unfold Zhr; simp; omega
 rw [List.take_succ_eq_append_getElem hl]
 congr 2
 simp [Zhr]
theorem Yqn {l:List Nd} {x:Nd} (h:x ∉ l):Zka l x=l ++ [x]:=by unfold Zka; rw [if_neg h]
theorem Yrb {l:List Nd} {x:Nd} (h:x∈l):Zka l x=l:=by unfold Zka; rw [if_pos h]
theorem Yyu {h:Zaa} {t:TypeId} {x y v:Zay}:Zbb (h ++ [.cells t [x,y] false]) (.ptr (some (h.length,0))) [v]=some (h ++ [.cells t [v,y] false]):=by
 rw [Ygy (show (h ++ [Zcb.cells t [x,y] false])[h.length]?=some (.cells t [x,y] false) by simp)]; simp
theorem Yff {h:Zaa} {a0 a1 a2:Pt} {n0 c0 n1 c1 n2 c2:Nat} {e0 e1 e2:Bool} {w:Wd} {gs:List Nd} (r:Zkr h a0 n0 c0 a1 n1 c1 w) (b:WB w) (r2:Row h.length h a2 (n2 * 2) (Zdb eP gs)) (hn2:n2≤1048576) (hls:∀ p∈gs,p.2.length≤1048576) :
  Zak pg Zoh [.agg [.slice a0 n0 c0 e0,.slice a1 n1 c1 e1],.slice a2 n2 c2 e2] h (Xbe w gs h):=by
 have hl:gs.length=n2:=by have:=r2.1; rw [Zat Zcr] at this; omega
 apply Zeb.call
 simp only [Zaw]
 generalize hh0:h ++ [Zcb.cells Zac [.slice a0 n0 c0 e0,.slice a1 n1 c1 e1] false]=h0
 generalize hh1:h0 ++ [Zcb.cells Zab [] false]=h1
 have s0:Zbc h.length h h0:=by rw [← hh0]; exact Zal
 have s1:Zbc h0.length h0 h1:=by rw [← hh1]; exact Zal
 have w0:h0[h.length]?=some (Zlu a0 n0 c0 e0 a1 n1 c1 e1):=by rw [← hh0]; simp [Zlu]
 have l0:h0.length=h.length + 1:=by rw [← hh0]; simp
 have o1:h1[h0.length]?=some (.cells Zab [] false):=by rw [← hh1]; simp
 have w1:=s1.get w0 (Own.lt w0)
 rw [Zth w1]
 simp only [Zao,Zae,Zam,Zaj]
 have S1:=s0.cat s1
 refine (Zpi (r.same S1) b (r2.same' S1) hn2 hls).mono ?_
 rintro v h2 ⟨rfl,s2⟩
 have S2:=S1.cat s2
 have w2:=s2.get w1 (Own.lt w1)
 have o2:=s2.get o1 (Own.lt o1)
 have l1:=s1.le
 have l2:=s2.le
 simp only [Zaq]
 refine Zbs (fun b1=>⟨S2,_,_,_,_,by rw [b1],Nat.le_refl _,by unfold Yqo; rw [b1]; exact ⟨rfl,.inl rfl⟩⟩) (fun b1=>?_)
 have hg6:gs.length≤6:=by unfold Zgu at b1; simp only [Bool.and_eq_true,decide_eq_true_eq] at b1; exact b1.1.2
 refine Zeb.L5ind _ _ _ _ _ _ _ _ (J:=fun (g:Nat) a6 n6 c6 e6 x18 h'=>x18=(g:Int)∧g≤n2∧Zbc h0.length h2 h'∧Ycp h0.length h' a6 n6 c6 (Zpq w (gs.take g))) (fun g=>n2 - g) ?_ 0 _ _ _ _ _ _
  ⟨rfl,by omega,⟨by omega,fun _ _=>rfl⟩,⟨Vec.mk1 (by simpa [Zpq] using o2),rfl,fun i hi=>by cases hi; exact Nat.le_refl _,Nat.le_refl _⟩⟩
 rintro g a6 n6 c6 e6 x18 h' ⟨rfl,hg,hS,hN⟩ R hR
 have l3:=hS.le
 have SS:Zbc h.length h h':=⟨by omega,fun j hj=>by rw [hS.eq j (by omega)]; exact S2.eq j hj⟩
 have w3:=hS.get w2 (by omega)
 unfold Zeb.L5t
 refine Zar (fun hlt=>?_) (fun hge=>?_)
 ·obtain ⟨i,o,hgl,rfl,_,hr,_⟩:=(r2.same SS).pr (k:=g) (by omega)
  simp only [Zau,Int.toNat_natCast,hr,Zao,Zae,Zam,Zah,Zaw]
  rw [Zfb]
  generalize hq:h' ++ [Zcb.cells Zab [.str gs[g].1,.str gs[g].2] false]=hq'
  have sq:Zbc h'.length h' hq':=by rw [← hq]; exact Zal
  have iq:hq'[h'.length]?=some (.cells Zab [.str gs[g].1,.str gs[g].2] false):=by rw [← hq]; simp
  have lq:hq'.length=h'.length + 1:=by rw [← hq]; simp
  simp only [Zas]
  rw [Zth (sq.get w3 (by omega))]
  simp only [Zao,Zae,Zam,Zaj,Zan iq,Nat.zero_add,List.getElem?_cons_zero,Zah]
  have hal:=Zwx w gs g
  have hNl:=hN.len
  have low:=hN.low
  have vi:∀ i,a6=some (i,0)→i < h'.length:=fun i hi=>by
   rcases hN.vec with ⟨h0,_⟩ | ⟨j,hj,hjj⟩
   ·rw [hi] at h0; cases h0
   ·rw [hi] at hj; cases hj; exact Own.lt hjj
  refine ⟨by omega,(Yht (s:=gs[g].1) (r.same (SS.cat sq)) b).mono ?_⟩
  rintro v h5 ⟨rfl,s5⟩
  simp only [Zah]
  have l5:=s5.le
  have i5:=s5.get iq (by omega)
  have hs20:=Zub w gs[g].1
  have hcl:(Zhr w gs[g]).length=(Zjf w gs[g].1).length + 1:=by unfold Zhr; simp
  refine Zeb.L9ind _ _ _ _ _ _ _ _ _ _ _ _ _ (J:=fun (q:Nat) a7 n7 c7 e7 x10 h6=>x10=(q:Int) - 1∧q≤(Zjf w gs[g].1).length + 1∧Zbc h0.length h2 h6∧h6[h'.length]?=some (.cells Zab [.str gs[g].1,.str gs[g].2] false) ∧
   Ycp h0.length h6 a7 n7 c7 (((Zhr w gs[g]).take q).foldl Zka (Zpq w (gs.take g)))∧(∀ i,a7=some (i,0)→i≠h'.length)) (fun q=>(Zjf w gs[g].1).length + 1 - q) ?_ 0 _ _ _ _ _ _
   ⟨rfl,by omega,⟨by omega,fun j hj=>by rw [s5.eq j (by omega),sq.eq j (by omega)]; exact hS.eq j hj⟩,i5,(hN.same sq).same s5,fun i hi=>by have:=vi i hi; omega⟩
  rintro q a7 n7 c7 e7 x10 h6 ⟨rfl,hq0,S6,i6,N6,D6⟩ R9 hR9
  unfold Zeb.L9t
  have l6:=S6.le
  have i6l:=Own.lt i6
  refine Zar (fun hlt6=>?_) (fun hge6=>?_)
  ·rw [Zaz i6]
   simp only [Zao,Zae,Zam,Zah,Zaw]
   rw [Zfb]
   simp only [Zas]
   -- the need that is asked for
   have key:∀ (x:Nd) (hz:Zaa),hz=h6 ++ [Zcb.cells Zab [.str x.1,.str x.2] false]→(Zhr w gs[g]).take (q + 1)=(Zhr w gs[g]).take q ++ [x] →
     Zeb.J14 (Xbe w gs h) R R9 a7 n7 c7 e7 h6.length 0 ((q:Int) - 1) (Zjf w gs[g].1) h'.length 0 (g:Int) (n2:Int) (some (i,o)) n2 c2 e2 h.length 0 hz:=by
    rintro x hz rfl htk
    apply Zeb.J14i
    rw [Zzk]
    simp only [Zao,Zae,Zam,Zah]
    have hfl:=Zqv ((Zhr w gs[g]).take q) (Zpq w (gs.take g))
    rw [List.length_take] at hfl
    have hN6l:=N6.len
    have sx:Zbc h6.length h6 (h6 ++ [.cells Zab [.str x.1,.str x.2] false]):=Zal
    have Nx:=N6.same sx
    have ix:(h6 ++ [Zcb.cells Zab [.str x.1,.str x.2] false])[h6.length]?=some (.cells Zab [.str x.1,.str x.2] false):=by simp
    refine (Yye (x:=x) Nx.row (by omega)).mono ?_
    rintro v h7 ⟨rfl,s7⟩
    simp only [Zaq]
    have S7:=sx.cat s7
    have l7:=S7.le
    have N7:=Nx.same s7
    have i7:=s7.get ix (Own.lt ix)
    have e3:IntKind.wrap .i64 ((q:Int) - 1 + 1)=((q + 1:Nat):Int) - 1:=by rw [IntWalk.i64_in _ (by omega)]; omega
    have vi7:∀ i,a7=some (i,0)→i < h6.length:=fun i hi=>by
     rcases N6.vec with ⟨h0,_⟩ | ⟨j,hj,hjj⟩
     ·rw [hi] at h0; cases h0
     ·rw [hi] at hj; cases hj; exact Own.lt hjj
    refine Zbs (fun hm=>?_) (fun hm=>?_)
    ·rw [Zaz i7]
     simp only [Zao,Zae,Zam,Zah,Zaw]
     have hnm:Zka (((Zhr w gs[g]).take q).foldl Zka (Zpq w (gs.take g))) x=(((Zhr w gs[g]).take q).foldl Zka (Zpq w (gs.take g))) ++ [x]:=Yqn (by simpa using hm)
     refine N7.vec.pushN Zhi Zng Znd Znc (by rw [Zat Zcr,N7.len]) rfl (by omega) rfl (by omega) (fun h4 hl4 hi4 hk4=>?_)
     simp only [Zaj]
     apply Zeb.J10i
     rw [e3]
     refine hR9 (q + 1) _ _ _ _ _ _ (by omega) ⟨rfl,by omega,⟨by omega,fun j hj=>?_⟩,?_,⟨Vec.mk1 ?_,?_,fun i hi=>by cases hi; omega,Nat.le_refl _⟩,fun i hi=>by cases hi; omega⟩
     ·rw [hk4 j (by omega) fun i hi=>by have:=N6.low i hi; omega,S7.eq j (by omega)]; exact S6.eq j hj
     ·rw [hk4 _ (by omega) fun i hi=>(D6 i hi).symm,S7.eq _ i6l]; exact i6
     ·rw [hi4,htk,List.foldl_append,List.foldl_cons,List.foldl_nil,hnm,Zgv]; rfl
     ·rw [htk,List.foldl_append,List.foldl_cons,List.foldl_nil,hnm,List.length_append,N7.len]; rfl
    ·apply Zeb.J10i
     rw [e3]
     have hnm:Zka (((Zhr w gs[g]).take q).foldl Zka (Zpq w (gs.take g))) x=(((Zhr w gs[g]).take q).foldl Zka (Zpq w (gs.take g))):=Yrb (by simpa using hm)
     exact hR9 (q + 1) _ _ _ _ _ _ (by omega) ⟨rfl,by omega,⟨by omega,fun j hj=>by rw [S7.eq j (by omega)]; exact S6.eq j hj⟩,S7.get i6 i6l,by rw [htk,List.foldl_append,List.foldl_cons,List.foldl_nil,hnm]; exact N7,D6⟩
   refine Zar (fun hx0=>?_) (fun hx0=>?_)
   ·obtain ⟨p,rfl⟩:∃ p,q=p + 1:=⟨q - 1,by omega⟩
    have hp:p < (Zjf w gs[g].1).length:=by omega
    have e1:((p + 1:Nat):Int) - 1=(p:Int):=by omega
    rw [e1] at key ⊢
    rw [Zbm (by omega),Ycj hp rfl]
    simp only [Nat.add_zero]
    rw [Yyu]
    simp only [Zas]
    exact ⟨⟨by omega,by omega,by omega⟩,key ([(Zjf w gs[g].1)[p]],gs[g].2) _ rfl (Yov hp)⟩
   ·have hq00:q=0:=by omega
    subst hq00
    exact key gs[g] _ rfl (by simp [Zhr])
  ·apply Zeb.A9x2i
   have:q=(Zjf w gs[g].1).length + 1:=by omega
   have e9:(Zhr w gs[g]).take q=Zhr w gs[g]:=List.take_of_length_le (by omega)
   rw [e9] at N6
   rw [Zbm (by omega)]
   refine hR (g + 1) _ _ _ _ _ _ (by omega) ⟨rfl,by omega,S6,?_⟩
   rw [Yad hgl]
   exact N6
 ·apply Zeb.A5x0i
  have:g=n2:=by omega
  subst this
  have hw:Yqo w gs=Zpq w gs:=by unfold Yqo; rw [b1]; rfl
  rw [List.take_of_length_le (by omega)] at hN
  refine ⟨SS,_,_,_,_,by rw [b1],hN.cap,?_⟩
  rw [hw]
  exact hN.fresh.keep (by omega) fun _ _ _=>rfl
end Go.Sim

set_option linter.unusedSimpArgs false
set_option linter.unusedVariables false
namespace Go.Sim
def Ygr:List Nat:=[103,105,118,101,110]
def evG (sup:List Nat→List Nat) (gs:List Nd) (n:Nd) (i:Nat) (r:List Nat):List Nat × List Nat:=
 if h:i < gs.length then
  (match r with
   | d :: r'=>if 65≤d∧d≤84 then (if d∈sup gs[i].1 then (if ([d],gs[i].2)=n then (okE,r') else (Ygr,[])) else (Ygr,[])) else if gs[i]=n then (okE,r) else (Ygr,[])
   | []=>if gs[i]=n then (okE,[]) else (Ygr,[]))
 else (Ygr,[])
where okE:List Nat:=[111,107]
end Go.Sim

set_option linter.unusedVariables false
set_option linter.unusedSimpArgs false
set_option maxRecDepth 20000
namespace Go.Sim
open Go Go.RowKit

theorem Yil {h:Zaa} {a:Pt} {n c:Nat} {e:Bool} {l:List (List Nat)} {x:List Nat} (r:Row h.length h a n (strs l)) (hn:n≤1048576) :
  Zak pg Zfs [.slice a n c e,.str x] h fun v h'=>v=.bool (decide (x∈l))∧h'=h:=by
 have hl:l.length=n:=by have:=r.1; rw [← Ykr,Zat Zmy] at this; omega
 apply Zhm.call
 apply Zei.call
 refine Zei.L2ind (J:=fun (g:Nat) x8 h'=>x8=(g:Int)∧g≤n∧h'=h∧x ∉ l.take g) (m:=fun g=>n - g) (hr:=?_) (g:=0) (hj:=⟨rfl,by omega,rfl,by simp⟩) ..
 rintro g x8 h' ⟨rfl,hg,rfl,hk⟩ R hR
 unfold Zei.L2t
 refine Zar (fun hlt=>?_) (fun hge=>?_)
 ·obtain ⟨i,o,hgl,ha,_,hr⟩:=r.str (k:=g) (by omega)
  have hr':Zag h' (.ptr (some (i,o + g * 1)))=some (.str l[g]):=by rw [Nat.mul_one]; exact hr
  simp only [ha,Zau,Int.toNat_natCast,hr',Zah]
  refine ⟨by omega,Zar (fun he=>?_) (fun he=>?_)⟩
  ·have:x∈l:=by rw [he]; exact List.getElem_mem hgl
   simp only [Zax]
   exact ⟨by simp [this],by trivial⟩
  ·rw [Zbm (by omega),← ha]
   refine hR (g + 1) _ _ (by omega) ⟨rfl,by omega,rfl,?_⟩
   rw [List.take_succ_eq_append_getElem hgl,List.mem_append]
   rintro (hx | hx)
   ·exact hk hx
   ·exact he (by simpa using hx)
 ·apply Zei.A2x0i
  have:g=n:=by omega
  subst this
  rw [List.take_of_length_le (by omega)] at hk
  simp only [Zax]
  exact ⟨by simp [hk],by trivial⟩
def EvQ (r:List Nat × List Nat) (h:Zaa) (v:Zay) (h':Zaa):Prop:=Zbc h.length h h'∧∃ rest,v=.tup [.str rest,.str r.1]∧(r.1=evG.okE→rest=r.2)
theorem EvQ.bad {why:List Nat} {rest:List Nat} {h h':Zaa} (s:Zbc h.length h h') (hw:why≠evG.okE):EvQ (why,[]) h (.tup [.str rest,.str why]) h':=⟨s,rest,rfl,fun e=>absurd e hw⟩
end Go.Sim

set_option linter.unusedVariables false
set_option linter.unusedSimpArgs false
set_option maxRecDepth 20000
namespace Go.Sim
open Go Go.RowKit

theorem Yra {l:List Nd} {x y:Nd}:y∈Zka l x ↔ y∈l ∨ y=x:=by
 unfold Zka
 split
 ·rename_i h
  exact ⟨.inl,fun h'=>h'.elim id fun e=>by rw [e]; exact h⟩
 ·simp
theorem Yjy {l:List Nd} {x:Nd} (h:l.Nodup):(Zka l x).Nodup:=by
 unfold Zka
 split
 ·exact h
 ·rename_i hx
  rw [List.nodup_append]
  refine ⟨h,by simp,fun a ha b hb=>?_⟩
  rw [List.mem_singleton] at hb
  subst hb
  rintro rfl
  exact hx ha
theorem Zvp:∀ {xs l:List Nd} {y:Nd},y∈xs.foldl Zka l ↔ y∈l ∨ y∈xs
 | [],l,y=>by simp
 | x :: xs,l,y=>by rw [List.foldl_cons,Zvp,Yra,List.mem_cons,or_assoc]
theorem Zsz:∀ {xs l:List Nd},l.Nodup→(xs.foldl Zka l).Nodup
 | [],l,h=>h
 | x :: xs,l,h=>Zsz (xs:=xs) (Yjy h)
theorem Ylf {w:Wd}:∀ {gs acc:List Nd} {y:Nd},y∈gs.foldl (fun acc g=>(Zhr w g).foldl Zka acc) acc ↔ y∈acc ∨ ∃ g∈gs,y∈Zhr w g
 | [],acc,y=>by simp
 | g :: gs,acc,y=>by rw [List.foldl_cons,Ylf,Zvp,or_assoc]; simp
theorem Yds {w:Wd}:∀ {gs acc:List Nd},acc.Nodup→(gs.foldl (fun acc g=>(Zhr w g).foldl Zka acc) acc).Nodup
 | [],acc,h=>h
 | g :: gs,acc,h=>Yds (gs:=gs) (Zsz h)
theorem Yev {w:Wd} {gs:List Nd} {y:Nd}:y∈Zpq w gs ↔ ∃ g∈gs,y∈Zhr w g:=by unfold Zpq; rw [Ylf]; simp
theorem Ynw {w:Wd} {gs:List Nd}:(Zpq w gs).Nodup:=Yds List.nodup_nil
theorem Yag {w:Wd} {g y:Nd}:y∈Zhr w g ↔ y=g ∨ ∃ d∈Zjf w g.1,y=([d],g.2):=by
 unfold Zhr
 rw [List.mem_cons,List.mem_map]
 exact or_congr Iff.rfl ⟨fun ⟨d,h,e⟩=>⟨d,h,e.symm⟩,fun ⟨d,h,e⟩=>⟨d,h,e.symm⟩⟩
theorem Yyb {w:Wd} {gs:List Nd} (h:Zgu w gs=true) {y:Nd} (hy:y∈Zpq w gs):Zdq w y=true:=by
 unfold Zgu at h
 simp only [Bool.and_eq_true,List.all_eq_true] at h
 obtain ⟨g,hg,hy⟩:=Yev.1 hy
 have hgo:=h.2 g hg
 rcases Yag.1 hy with rfl | ⟨d,hd,rfl⟩
 ·exact hgo
 ·unfold Zdq at hgo ⊢
  simp only [Bool.and_eq_true] at hgo
  have hc:=Zvy h.1.1
  obtain ⟨i,hi,a,ha,hia⟩:=Yfn hc hgo.1
  have:Zgg w.cs [d]=true:=by
   unfold Zjf at hd
   rw [h.1.1,hgo.1] at hd
   simp only [Bool.and_self,if_true] at hd
   rw [ha] at hd
   exact Zwp hc hi hia ((Yfa hc hi hia d).1 hd)
  rw [this,hgo.2]; rfl
theorem Ysj {z:Int} (h0:0≤z):(sub [97,98,99,100,101,102] z (IntKind.wrap .i64 (z + 1))).length≤1 ∨ 5 < z:=by
 by_cases h:5 < z
 ·exact .inr h
 ·left
  rw [IntWalk.i64_in _ (by omega)]
  unfold sub
  simp only [List.length_drop,List.length_take]
  omega
theorem Yke {h:Zaa} {a0 a1 a2:Pt} {n0 c0 n1 c1 n2 c2:Nat} {e0 e1 e2:Bool} {w:Wd} {gs:List Nd} {nd:Nd} (r:Zkr h a0 n0 c0 a1 n1 c1 w) (b:WB w) (r2:Row h.length h a2 (n2 * 2) (Zdb eP gs)) (hg:Zgu w gs=true) (hn:nd∈Zpq w gs) :
  Zak pg Zqd [.agg [.slice a0 n0 c0 e0,.slice a1 n1 c1 e1],.slice a2 n2 c2 e2,.agg [.str nd.1,.str nd.2]] h fun v h'=>∃ s:List Nat,v=.tup [.str s,.bool true]∧s.length≤2∧Zbc h.length h h':=by
 have hl:gs.length=n2:=by have:=r2.1; rw [Zat Zcr] at this; omega
 have hg6:gs.length≤6:=by have hx:=hg; unfold Zgu at hx; simp only [Bool.and_eq_true,decide_eq_true_eq] at hx; exact hx.1.2
 have hnd1:nd∈gs ∨ ∃ g∈gs,∃ d∈Zjf w g.1,nd=([d],g.2):=by
  obtain ⟨g,hgm,hy⟩:=Yev.1 hn
  rcases Yag.1 hy with e | ⟨d,hd,e⟩
  ·exact .inl (by rw [e]; exact hgm)
  ·exact .inr ⟨g,hgm,d,hd,e⟩
 apply Zib.call
 simp only [Zaw]
 generalize hh0:h ++ [Zcb.cells Zac [.slice a0 n0 c0 e0,.slice a1 n1 c1 e1] false]=h0
 generalize hh1:h0 ++ [Zcb.cells Zab [.str nd.1,.str nd.2] false]=h1
 have s0:Zbc h.length h h0:=by rw [← hh0]; exact Zal
 have s1:Zbc h0.length h0 h1:=by rw [← hh1]; exact Zal
 have w0:h0[h.length]?=some (.cells Zac [.slice a0 n0 c0 e0,.slice a1 n1 c1 e1] false):=by rw [← hh0]; simp
 have w1:=s1.get w0 (Own.lt w0)
 have p1:h1[h0.length]?=some (.cells Zab [.str nd.1,.str nd.2] false):=by rw [← hh1]; simp
 have S1:=s0.cat s1
 rw [Zaz p1]
 simp only [Zao,Zae,Zam,Zah]
 refine (Ydp (x:=nd) (r2.same' S1) (by omega)).mono ?_
 rintro v h2 ⟨⟨z,rfl,hz,hzn⟩,s2⟩
 have S2:=S1.cat s2
 have w2:=s2.get w1 (Own.lt w1)
 have p2:=s2.get p1 (Own.lt p1)
 simp only [Zax]
 refine Zar (fun hz0=>?_) (fun hz0=>?_)
 ·have hs:=(Ysj (z:=z) (by omega)).resolve_right (by omega)
  rw [IntWalk.i64_in _ (by omega)] at hs ⊢
  exact ⟨⟨by omega,by omega,by simp; omega⟩,_,rfl,by omega,S2⟩
 ·have hno:nd ∉ gs:=by
   have:decide (z ≥ 0)=false:=by simp; omega
   rw [this] at hz; simpa using hz.symm
  obtain ⟨g9,hg9,d9,hd9,he9⟩:=hnd1.resolve_left hno
  obtain ⟨k9,hk9,rfl⟩:=List.mem_iff_getElem.1 hg9
  refine Zib.L5ind (J:=fun (g:Nat) x22 h'=>x22=(g:Int)∧g≤k9∧Zbc h2.length h2 h') (m:=fun g=>n2 - g) (hr:=?_) (g:=0) (hj:=⟨rfl,by omega,Zbc.refl _ _⟩)
  rintro g x22 h3 ⟨rfl,hg,t3⟩ R hR
  unfold Zib.L5t
  have S3:=S2.cat t3
  have w3:=t3.get w2 (Own.lt w2)
  have p3:=t3.get p2 (Own.lt p2)
  refine Zar (fun hlt=>?_) (fun hge=>absurd hge (by omega))
  obtain ⟨ij,oj,hkj,hja,hjl,hrj,_⟩:=(r2.same' S3).pr (k:=g) (by omega)
  simp only [hja,Zau,Int.toNat_natCast,hrj,Zao,Zae,Zam,Zah,Zaw]
  rw [← hja,Zfb]
  simp only [Zas]
  refine ⟨by omega,?_⟩
  generalize hh4:h3 ++ [Zcb.cells Zab [.str gs[g].1,.str gs[g].2] false]=h4
  have t4:Zbc h3.length h3 h4:=by rw [← hh4]; exact Zal
  have m4:h4[h3.length]?=some (.cells Zab [.str gs[g].1,.str gs[g].2] false):=by rw [← hh4]; simp
  have w4:=t4.get w3 (Own.lt w3)
  have p4:=t4.get p3 (Own.lt p3)
  have S4:=S3.cat t4
  have next:∀ h',Zbc h2.length h2 h'→g≠k9→Zib.J9 (fun v h'=>∃ s:List Nat,v=.tup [.str s,.bool true]∧s.length≤2∧Zbc h.length h h') R (g:Int) (n2:Int) a2 n2 c2 e2 h0.length 0 h.length 0 h':=by
   intro h' t' hne
   apply Zib.J9i
   rw [Zbm (by omega)]
   exact hR (g + 1) _ _ (by omega) ⟨rfl,by omega,t'⟩
  simp only [Zan m4,Zan p4,Nat.zero_add,List.getElem?_cons_succ,List.getElem?_cons_zero,Zah,true_and]
  refine Zar (fun het=>?_) (fun het=>?_)
  ·rw [Zaz w4]
   simp only [Zao,Zae,Zam,Zaj]
   refine (Yia (s:=gs[g].1) (r.same S4) b).mono ?_
   rintro v h5 ⟨s5,xa,xn,xc,xe,rfl,xr,_⟩
   have m5:=s5.get m4 (Own.lt m4)
   have p5:=s5.get p4 (Own.lt p4)
   have w5:=s5.get w4 (Own.lt w4)
   have hxn:(Zjf w gs[g].1).length=xn:=by have:=xr.1; simpa using this
   have hsl:=Zub w gs[g].1
   simp only [Zaj,Zan p5,Zan m5,List.getElem?_cons_succ,List.getElem?_cons_zero,true_and]
   refine (Yil (x:=nd.1) xr (by omega)).mono ?_
   rintro v h6 ⟨rfl,h65⟩
   subst h65
   simp only [Zaq,Zan m5,List.getElem?_cons_succ,List.getElem?_cons_zero,true_and]
   refine Zar (fun hin=>?_) (fun hni=>?_)
   ·obtain ⟨d,hd,hde⟩:=List.mem_map.1 hin
    have hs:=(Ysj (z:=(g:Int)) (by omega)).resolve_right (by omega)
    have hl1:nd.1.length=1:=by rw [← hde]; rfl
    simp only [Zan p5,List.getElem?_cons_zero,Zah]
    rw [Zbm (by omega)] at hs ⊢
    exact ⟨⟨by omega,by omega,by simp; omega⟩,by omega,_,rfl,by rw [List.length_append]; omega,S4.cat s5⟩
   ·refine next _ ((t3.cat t4).cat s5) ?_
    rintro rfl
    exact hni (List.mem_map.2 ⟨d9,hd9,by rw [he9]; rfl⟩)
  ·refine next _ (t3.cat t4) ?_
   rintro rfl
   exact het (by rw [he9])
theorem Yhx {h:Zaa} {a0 a1 a2:Pt} {n0 c0 n1 c1 n2 c2:Nat} {e0 e1 e2:Bool} {w:Wd} {gs:List Nd} {nd:Nd} (r:Zkr h a0 n0 c0 a1 n1 c1 w) (b:WB w) (r2:Row h.length h a2 (n2 * 2) (Zdb eP gs)) (hg:Zgu w gs=true) (hn:nd∈Zpq w gs) :
  Zak pg Zom [.agg [.slice a0 n0 c0 e0,.slice a1 n1 c1 e1],.slice a2 n2 c2 e2,.agg [.str nd.1,.str nd.2]] h fun v h'=>∃ s:List Nat,v=.tup [.str s,.str []]∧s.length≤2∧Zbc h.length h h':=by
 apply Zsv.call
 simp only [Zaw]
 generalize hh0:h ++ [Zcb.cells Zac [.slice a0 n0 c0 e0,.slice a1 n1 c1 e1] false]=h0
 generalize hh1:h0 ++ [Zcb.cells Zbo [.slice a2 n2 c2 e2] false]=h1
 generalize hh2:h1 ++ [Zcb.cells Zab [.str nd.1,.str nd.2] false]=h2
 have s0:Zbc h.length h h0:=by rw [← hh0]; exact Zal
 have s1:Zbc h0.length h0 h1:=by rw [← hh1]; exact Zal
 have s2:Zbc h1.length h1 h2:=by rw [← hh2]; exact Zal
 have w0:h0[h.length]?=some (.cells Zac [.slice a0 n0 c0 e0,.slice a1 n1 c1 e1] false):=by rw [← hh0]; simp
 have w2:=s2.get (s1.get w0 (Own.lt w0)) (by have:=Own.lt w0; have:=s1.le; omega)
 have g1:h1[h0.length]?=some (.cells Zbo [.slice a2 n2 c2 e2] false):=by rw [← hh1]; simp
 have g2:=s2.get g1 (Own.lt g1)
 have p2:h2[h1.length]?=some (.cells Zab [.str nd.1,.str nd.2] false):=by rw [← hh2]; simp
 have S2:=(s0.cat s1).cat s2
 rw [Zaz w2]
 simp only [Zao,Zae,Zam,Zaj]
 generalize hh3:h2 ++ [Zcb.cells Zfc [.slice a0 n0 c0 e0,.slice a1 n1 c1 e1,.bool false,.fn Zhn [.ptr (some (h.length,0)),.ptr (some (h0.length,0))],.slice none 0 0 true,.str [],.str [],.slice none 0 0 true] false]=h3
 have s3:Zbc h2.length h2 h3:=by rw [← hh3]; exact Zal
 have o3:h3[h2.length]?=some (.cells Zfc [.slice a0 n0 c0 e0,.slice a1 n1 c1 e1,.bool false,.fn Zhn [.ptr (some (h.length,0)),.ptr (some (h0.length,0))],.slice none 0 0 true,.str [],.str [],.slice none 0 0 true] false):=by rw [← hh3]; simp
 have w3:=s3.get w2 (Own.lt w2)
 have g3:=s3.get g2 (Own.lt g2)
 have p3:=s3.get p2 (Own.lt p2)
 have S3:=S2.cat s3
 rw [Zaz p3]
 simp only [Zao,Zae,Zam,Zah]
 apply Zcz.call
 simp only [Zaw]
 generalize hh4:h3 ++ [Zcb.cells Zfv [.ptr (some (h2.length,0))] false]=h4
 generalize hh5:h4 ++ [Zcb.cells Zab [.str nd.1,.str nd.2] false]=h5
 generalize hh6:h5 ++ [Zcb.cells Zbo [.slice none 0 0 true] false]=h6
 have s4:Zbc h3.length h3 h4:=by rw [← hh4]; exact Zal
 have s5:Zbc h4.length h4 h5:=by rw [← hh5]; exact Zal
 have s6:Zbc h5.length h5 h6:=by rw [← hh6]; exact Zal
 have S36:=(s4.cat s5).cat s6
 have q4:h4[h3.length]?=some (.cells Zfv [.ptr (some (h2.length,0))] false):=by rw [← hh4]; simp
 have q6:=s6.get (s5.get q4 (Own.lt q4)) (by have:=Own.lt q4; have:=s5.le; omega)
 have p5:h5[h4.length]?=some (.cells Zab [.str nd.1,.str nd.2] false):=by rw [← hh5]; simp
 have p6:=s6.get p5 (Own.lt p5)
 have o6:=S36.get o3 (Own.lt o3)
 have w6:=S36.get w3 (Own.lt w3)
 have g6:=S36.get g3 (Own.lt g3)
 have S6:=S3.cat S36
 simp only [Zan q6,Zaz p6,Zan o6,Nat.zero_add,List.getElem?_cons_succ,List.getElem?_cons_zero,Zes,Zau,Yhk,Zao,Zae,Zam,Zah,Ytm,true_and,List.cons_append,List.nil_append]
 apply Zns.call
 simp only [Zaw]
 generalize hh7:h6 ++ [Zcb.cells Zab [.str nd.1,.str nd.2] false]=h7
 have s7:Zbc h6.length h6 h7:=by rw [← hh7]; exact Zal
 have p7:h7[h6.length]?=some (.cells Zab [.str nd.1,.str nd.2] false):=by rw [← hh7]; simp
 have w7:=s7.get w6 (Own.lt w6)
 have g7:=s7.get g6 (Own.lt g6)
 have S7:=S6.cat s7
 rw [Zaz w7,Zaz p7]
 simp only [Zan g7,List.getElem?_cons_zero,Zao,Zae,Zam,Zaj,Zah]
 refine (Yke (r.same S7) b (r2.same' S7) hg hn).mono ?_
 rintro v h8 ⟨s,rfl,hs,s8⟩
 simp only [Zco,Zae,Zah,Zaq,Zam,Zcv,List.append_nil]
 exact ⟨by rw [Zan ((s7.cat s8).get q6 (Own.lt q6))]; rfl,s,rfl,hs,S7.cat s8⟩
theorem Zxn {h:Zaa} {a0 a1 a2:Pt} {n0 c0 n1 c1 n2 c2:Nat} {e0 e1 e2:Bool} {w:Wd} {gs:List Nd} {nd:Nd} (r:Zkr h a0 n0 c0 a1 n1 c1 w) (b:WB w) (r2:Row h.length h a2 (n2 * 2) (Zdb eP gs)) (hg:Zgu w gs=true) (hn:nd∈Zpq w gs) :
  Zak pg Zll [.agg [.slice a0 n0 c0 e0,.slice a1 n1 c1 e1],.slice a2 n2 c2 e2,.agg [.str nd.1,.str nd.2]] h fun v h'=>∃ s:List Nat,v=.tup [.str s,.str []]∧s.length≤2∧Zbc h.length h h':=by
 have hl:gs.length=n2:=by have:=r2.1; rw [Zat Zcr] at this; omega
 have hg6:gs.length≤6:=by have hx:=hg; unfold Zgu at hx; simp only [Bool.and_eq_true,decide_eq_true_eq] at hx; exact hx.1.2
 apply Zog.call
 simp only [Zaw]
 generalize hh0:h ++ [Zcb.cells Zac [.slice a0 n0 c0 e0,.slice a1 n1 c1 e1] false]=h0
 generalize hh1:h0 ++ [Zcb.cells Zab [.str nd.1,.str nd.2] false]=h1
 have s0:Zbc h.length h h0:=by rw [← hh0]; exact Zal
 have s1:Zbc h0.length h0 h1:=by rw [← hh1]; exact Zal
 have w0:h0[h.length]?=some (.cells Zac [.slice a0 n0 c0 e0,.slice a1 n1 c1 e1] false):=by rw [← hh0]; simp
 have w1:=s1.get w0 (Own.lt w0)
 have p1:h1[h0.length]?=some (.cells Zab [.str nd.1,.str nd.2] false):=by rw [← hh1]; simp
 have S1:=s0.cat s1
 rw [Zaz w1]
 simp only [Zao,Zae,Zam,Zaj]
 refine (Zix (r.same S1) b (r2.same' S1) (by omega)).mono ?_
 rintro v h2 ⟨rfl,s2⟩
 have w2:=s2.get w1 (Own.lt w1)
 have p2:=s2.get p1 (Own.lt p1)
 have S2:=S1.cat s2
 rw [hg,Zaz w2,Zaz p2]
 simp only [Zaq,Bool.not_true,Zbz,Zao,Zae,Zam,Zaj,Zah]
 refine (Ycv (ct:=nd.1) (tt:=nd.2) (r.same S2) b).mono ?_
 rintro v h3 ⟨rfl,s3⟩
 have w3:=s3.get w2 (Own.lt w2)
 have p3:=s3.get p2 (Own.lt p2)
 have S3:=S2.cat s3
 have hok:Zdq w (nd.1,nd.2)=true:=Yyb hg hn
 rw [hok]
 simp only [Zaq,Bool.not_true,Zbz]
 apply Zog.J3i
 rw [Zaz w3,Zaz p3]
 simp only [Zao,Zae,Zam,Zaj,Zah]
 refine (Yhx (r.same S3) b (r2.same' S3) hg hn).mono ?_
 rintro v h4 ⟨s,rfl,hs,s4⟩
 simp only [Zco,Zae,Zah,Zam]
 exact ⟨s,rfl,hs,S3.cat s4⟩
theorem Yob {h:Zaa} {a0 a1 a2:Pt} {n0 c0 n1 c1 n2 c2:Nat} {e0 e1 e2:Bool} {w:Wd} {gs:List Nd} {nd:Nd} (r:Zkr h a0 n0 c0 a1 n1 c1 w) (b:WB w) (r2:Row h.length h a2 (n2 * 2) (Zdb eP gs)) (hg:Zgu w gs=true) (hn:nd∈Zpq w gs) :
  Zak pg Zra [.agg [.slice a0 n0 c0 e0,.slice a1 n1 c1 e1],.slice a2 n2 c2 e2,.agg [.str nd.1,.str nd.2]] h fun v h'=>v=.bool true∧Zbc h.length h h':=by
 apply Zvs.call
 simp only [Zaw]
 generalize hh0:h ++ [Zcb.cells Zac [.slice a0 n0 c0 e0,.slice a1 n1 c1 e1] false]=h0
 generalize hh1:h0 ++ [Zcb.cells Zab [.str nd.1,.str nd.2] false]=h1
 have s0:Zbc h.length h h0:=by rw [← hh0]; exact Zal
 have s1:Zbc h0.length h0 h1:=by rw [← hh1]; exact Zal
 have w0:h0[h.length]?=some (.cells Zac [.slice a0 n0 c0 e0,.slice a1 n1 c1 e1] false):=by rw [← hh0]; simp
 have w1:=s1.get w0 (Own.lt w0)
 have p1:h1[h0.length]?=some (.cells Zab [.str nd.1,.str nd.2] false):=by rw [← hh1]; simp
 have S1:=s0.cat s1
 rw [Zaz w1,Zaz p1]
 simp only [Zao,Zae,Zam,Zaj,Zah]
 refine (Zxn (r.same S1) b (r2.same' S1) hg hn).mono ?_
 rintro v h2 ⟨s,rfl,hs,s2⟩
 simp only [Zco,Zae,Zah,Zam]
 exact ⟨by trivial,S1.cat s2⟩
end Go.Sim

set_option linter.unusedVariables false
set_option maxRecDepth 100000
namespace Go.Sim
open Go Go.RowKit
end Go.Sim

set_option linter.unusedVariables false
set_option linter.unusedSimpArgs false
set_option maxRecDepth 20000
namespace Go.Sim
open Go Go.RowKit

end Go.Sim

set_option linter.unusedVariables false
set_option linter.unusedSimpArgs false
set_option maxRecDepth 20000
namespace Go.Sim
open Go Go.RowKit

theorem Yak {b:Nat} {h:Zaa} {a:Pt} {n c k:Nat} {e:Bool} {l:List Nd} {K:Zay→Prop} (r:Row b h a (n * 2) (Zdb eP l)) (hk:k≤n) (hc:n≤c) {z:Int} (hz:z=k)
  (hK:∀ a' c' e',Row b h a' (k * 2) (Zdb eP (l.take k))→k≤c'→(a'=none ∨ ∃ i o,a=some (i,o)∧a'=some (i,o))→K (.slice a' k c' e')):Zhu a n c e 2 none (some (.int .i64 z)) none K:=by
 subst hz
 have hl:l.length=n:=by have:=r.1; rw [Zat Zcr] at this; omega
 simp only [Zhu,Zlx]
 refine ⟨by omega,?_⟩
 split
 ·have h0:n=0:=by
   obtain ⟨h1,h2⟩:=r
   rcases h2 with h2 | ⟨i,o,t,all,ro,ha,_⟩
   ·omega
   ·cases ha
  have hk0:k=0:=by omega
  subst hk0
  exact ⟨⟨by trivial,by simp,.inl (by trivial)⟩,hK _ _ _ (by simpa using Row.nil) (by omega) (.inl rfl)⟩
 ·rename_i i o
  refine ⟨fun hlt=>?_,fun hlt=>?_⟩
  ·have e2:((k:Int) - 0).toNat=k:=by omega
   have e3:o + Int.toNat 0 * 2=o:=by simp
   have e4:((c:Int) - 0).toNat=c:=by omega
   rw [e2,e3,e4]
   exact hK _ _ _ (r.sl hk hl) (by omega) (.inr ⟨_,_,rfl,rfl⟩)
  ·have hk0:k=0:=by omega
   subst hk0
   exact hK _ _ _ (by simpa using Row.nil) (by omega) (.inl rfl)
structure Zxq (hb:Zaa) (i:Nat) (u v:Zay) (sp:Bool) (h:Zaa) (qa:Pt) (asked st:List Nd) (why:List Nat):Prop where
 same:Zbc hb.length hb h
 ge:hb.length≤i
 ob:∃ qn qc qe sa sn sc se,h[i]?=some (.cells Zdg [u,v,.bool sp,.slice qa qn qc qe,.slice sa sn sc se,.str why] false)∧Ycp hb.length h qa qn qc asked∧Row h.length h sa (sn * 2) (Zdb eP st)∧sn≤sc∧∀ j o,sn * 2≠0→sa=some (j,o)→j≠i∧∀ q,qa=some (q,0)→j≠q
 ne:∀ q,qa=some (q,0)→q≠i
section
variable {hb:Zaa} {i:Nat} {u v:Zay} {sp:Bool} {h:Zaa} {qa:Pt} {asked st:List Nd} {why:List Nat}
theorem Zxq.step {h':Zaa} (r:Zxq hb i u v sp h qa asked st why) (k:Zbc h.length h h'):Zxq hb i u v sp h' qa asked st why:=by
 obtain ⟨qn,qc,qe,sa,sn,sc,se,ho,hv,hr,hsc,hd⟩:=r.ob
 exact ⟨r.same.trans (k.mono r.same.le),r.ge,⟨qn,qc,qe,sa,sn,sc,se,k.get ho (Own.lt ho),hv.same k,hr.same' k,hsc,hd⟩,r.ne⟩
theorem Zxq.lt (r:Zxq hb i u v sp h qa asked st why):i < h.length:=by obtain ⟨_,_,_,_,_,_,_,ho,_⟩:=r.ob; exact Own.lt ho
theorem Zxq.low (r:Zxq hb i u v sp h qa asked st why):∀ q,qa=some (q,0)→hb.length≤q∧q < h.length:=by
 obtain ⟨qn,qc,qe,sa,sn,sc,se,ho,hv,_⟩:=r.ob
 exact fun q hq=>⟨hv.low q hq,hv.vec.lt' hq⟩
end
end Go.Sim

set_option linter.unusedVariables false
set_option linter.unusedSimpArgs false
set_option maxRecDepth 20000
namespace Go.Sim
open Go Go.RowKit
theorem Zuo {h:Zaa} {a0 a1:Pt} {n0 n1 c0 c1:Nat} {e0 e1:Bool} {l0 l1:List Nd} (r0:Row h.length h a0 (n0 * 2) (Zdb eP l0)) (r1:Row h.length h a1 (n1 * 2) (Zdb eP l1)) (hn:n0≤4611686018427387904) :
  Zak pg Zez [.slice a0 n0 c0 e0,.slice a1 n1 c1 e1] h fun v h'=>v=.bool (decide (l0=l1))∧h'=h:=by
 have h0:l0.length=n0:=by have:=r0.1; rw [Zat Zcr] at this; omega
 have h1:l1.length=n1:=by have:=r1.1; rw [Zat Zcr] at this; omega
 apply Zld.call
 have hm:(if ((n1:Nat):Int) < ((n0:Nat):Int) then ((n1:Nat):Int) else ((n0:Nat):Int))=((min n0 n1:Nat):Int):=by split <;> omega
 rw [hm]
 refine Zld.L2ind _ _ _ _ _ _ _ _ _ _ (J:=fun (g:Nat) x11 h'=>x11=(g:Int)∧g≤min n0 n1∧h'=h∧l0.take g=l1.take g) (fun g=>min n0 n1 - g) ?_ 0 _ _ ⟨rfl,by omega,rfl,by simp⟩
 rintro g x5 h' ⟨rfl,hg,rfl,ht⟩ R hR
 unfold Zld.L2t
 refine Zar (fun hlt=>?_) (fun hge=>?_)
 ·obtain ⟨i,o,hgl,rfl,hi,hc,_⟩:=r0.pr (k:=g) (by omega)
  obtain ⟨i',o',hgl',rfl,hi',hc',_⟩:=r1.pr (k:=g) (by omega)
  simp only [Zau,Int.toNat_natCast,hc,hc',Zao,Zae,Zah,Zam]
  refine ⟨by omega,by omega,by trivial,Zbs (fun hne=>?_) (fun he=>?_)⟩
  ·have:l0≠l1:=fun e=>by subst e; simp at hne
   simp [this]
  ·rw [Zbm (by omega)]
   refine hR (g + 1) _ _ (by omega) ⟨rfl,by omega,rfl,?_⟩
   simp only [Bool.and_eq_true,decide_eq_true_eq] at he
   rw [List.take_succ_eq_append_getElem hgl,List.take_succ_eq_append_getElem hgl',ht,Prod.ext he.1 he.2]
 ·apply Zld.A2x0i
  refine ⟨?_,rfl⟩
  congr 1
  by_cases hnn:n0=n1
  ·subst hnn
   rw [List.take_of_length_le (by omega),List.take_of_length_le (by omega)] at ht
   simp [ht]
  ·have:l0≠l1:=fun e=>by subst e; omega
   simp [this]; omega
theorem Ylp {α:Type} {l:List α} {g:Nat} (hg:g < l.length) {x:α}:x∈l.take (g + 1) ↔ x∈l.take g ∨ l[g]=x:=by
 rw [List.take_succ_eq_append_getElem hg,List.mem_append,List.mem_singleton]
 constructor
 ·rintro (h | h)
  ·exact .inl h
  ·exact .inr h.symm
 ·rintro (h | h)
  ·exact .inl h
  ·exact .inr h.symm
end Go.Sim

set_option linter.unusedVariables false
set_option linter.unusedSimpArgs false
set_option maxRecDepth 20000
namespace Go.Sim
open Go Go.RowKit

theorem Yny {l:List Nd} (hn:l.Nodup) {i j:Nat} (hi:i < l.length) (hj:j < l.length) (hne:i≠j):l[i]≠l[j]:=fun e=>hne ((List.getElem_inj (h₀:=hi) (h₁:=hj) hn).1 e)
theorem lawFAll {h:Zaa} {a:Pt} {n c:Nat} {e:Bool} {l:List Nat} (r:Row h.length h a n (Zdb eB l)) (hb:∀ b∈l,b < 256) (hnc:n≤c) :
  Zak pg Zql [.slice a n c e] h fun v _=>v=.bool true:=by
 apply Zcg.call
 refine Zar (fun _=>rfl) (fun _=>?_)
 refine (Zzp r hb hnc).mono ?_
 rintro v h1 ⟨a0,n0,c0,e0,q,n1,c1,e1,ys,w,a2,n2,c2,e2,gs,rfl,s1,d,wb,hgl,hv,hlow,hn2,hgb⟩
 have rep:=d.rep
 have rg:Row h1.length h1 a2 (n2 * 2) (Zdb eP gs):=hv.row (by rw [Zat Zcr,hgl])
 simp only [Zco,Zae,Zdt,Zaj,Zam,Zaw]
 rw [Zfb]
 simp only [Zas]
 generalize hgA:h1 ++ [Zcb.cells Zac [.slice a0 n0 c0 e0,.slice (some (q,0)) n1 c1 e1] false]=g0
 have S0:Zbc h1.length h1 g0:=by rw [← hgA]; exact Zal
 have x0:g0[h1.length]?=some (.cells Zac [.slice a0 n0 c0 e0,.slice (some (q,0)) n1 c1 e1] false):=by rw [← hgA]; simp
 have R0:=rep.same S0
 have G0:=rg.same' S0
 rw [Zaz x0]
 simp only [Zao,Zae,Zam,Zaj]
 refine (Yhv R0 wb G0 (by omega)).mono ?_
 rintro v g1 ⟨t1,la,ln,lc,le,rfl,hlc,f1⟩
 simp only [Zco,Zae,Zaj,Zaq,Zam]
 have x1:=t1.get x0 (Own.lt x0)
 have R1:=R0.same t1
 have G1:=G0.same' t1
 rw [Zaz x1]
 simp only [Zao,Zae,Zam,Zaj]
 refine (Yff R1 wb G1 (by omega) (fun p hp=>by have:=(hgb p hp).2; omega)).mono ?_
 rintro v g2 ⟨t2,ma,mn,mc,me,rfl,_,f2⟩
 simp only [Zco,Zae,Zaj,Zaq,Zam]
 have x2:=t2.get x1 (Own.lt x1)
 have R2:=R1.same t2
 have G2:=G1.same' t2
 have q1:=(f1.row Zcr).same' t2
 have q2:=f2.row Zcr
 have hln:(Yqo w gs).length=ln:=f1.1
 have hlb:ln≤1000:=by
  rw [← hln]
  unfold Yqo
  split
  ·have:=Zwx w gs gs.length; rw [List.take_length] at this; omega
  ·simp
 refine (Zuo q1 q2 (by omega)).mono ?_
 rintro v g3 ⟨rfl,hg3⟩
 subst hg3
 simp only [Zaq,decide_true,Bool.not_true,Zbz,beq_self_eq_true,Zaz x2,Zao,Zae,Zam,Zaj]
 refine (Zix R2 wb G2 (by omega)).mono ?_
 rintro v g4 ⟨rfl,t4⟩
 have x4:=t4.get x2 (Own.lt x2)
 have R4:=R2.same t4
 have G4:=G2.same' t4
 simp only [Zaq,Bool.not_true,Zbz,beq_self_eq_true,Zaz x4,Zao,Zae,Zam,Zaj]
 refine (Zix R4 wb G4 (by omega)).mono ?_
 rintro v g5 ⟨rfl,t5⟩
 have x5:=t5.get x4 (Own.lt x4)
 have R5:=R4.same t5
 have G5:=G4.same' t5
 simp only [Zaq,Zaz x5,true_and]
 refine (Zpi R5 wb G5 (by omega) (fun p hp=>by have:=(hgb p hp).2; omega)).mono ?_
 rintro v g6 ⟨rfl,t6⟩
 have x6:=t6.get x5 (Own.lt x5)
 have R6:=R5.same t6
 have G6:=G5.same' t6
 have q6:=((q1.same' t4).same' t5).same' t6
 have p6:=((q2.same' t4).same' t5).same' t6
 simp only [Zaq,Zaz x6,true_and,beq_self_eq_true,Bool.not_true,Zbz]
 refine Zbs (fun hno=>?_) (fun hc=>?_)
 ·refine (Zuo q6 p6 (by omega)).mono ?_
  rintro v g7 ⟨rfl,hg7⟩
  subst hg7
  simp only [Zaq,decide_true,Zcv,beq_self_eq_true,Zaz x6,Zao,Zae,Zam,Zaj]
  refine (Zix R6 wb G6 (by omega)).mono ?_
  rintro v g7 ⟨rfl,t7⟩
  have x7:=t7.get x6 (Own.lt x6)
  have R7:=R6.same t7
  have G7:=G6.same' t7
  simp only [Zaq,beq_self_eq_true,Zcv,Zaz x7,Zao,Zae,Zam,Zaj]
  refine (Zix R7 wb G7 (by omega)).mono ?_
  rintro v g8 ⟨rfl,t8⟩
  have x8:=t8.get x7 (Own.lt x7)
  have R8:=R7.same t8
  have G8:=G7.same' t8
  simp only [Zaq,Zaz x8,true_and]
  refine (Zpi R8 wb G8 (by omega) (fun p hp=>by have:=(hgb p hp).2; omega)).mono ?_
  rintro v g9 ⟨rfl,t9⟩
  have x9:=t9.get x8 (Own.lt x8)
  simp only [Zaq,Zaz x9,true_and,beq_self_eq_true]
 have hL:Yqo w gs=Zpq w gs:=by unfold Yqo; rw [if_pos hc]
 rw [hL] at hln q6
 have hnd:=Ynw (w:=w) (gs:=gs)
 apply Zcg.J8i
 refine Zcg.L9ind (J:=fun (g:Nat) x95 h'=>x95=(g:Int)∧g≤ln∧Zbc g6.length g6 h') (m:=fun g=>ln - g) (hr:=?_) (g:=0) (hj:=⟨rfl,by omega,Zbc.refl _ _⟩)
 rintro g x95 h7 ⟨rfl,hg,t7⟩ R hR
 unfold Zcg.L9t
 refine Zar (fun hlt=>?_) (fun hge=>?_)
 ·obtain ⟨ij,oj,hkj,hja,hjl,hrj,_⟩:=(q6.same' t7).pr (k:=g) (by omega)
  have x7:=t7.get x6 (Own.lt x6)
  have R7:=R6.same t7
  have G7:=G6.same' t7
  simp only [hja,Zau,Int.toNat_natCast,hrj,Zao,Zae,Zam,Zah,Zaw]
  rw [← hja,Zfb]
  simp only [Zas]
  refine ⟨by omega,?_⟩
  generalize hh8:h7 ++ [Zcb.cells Zab [.str (Zpq w gs)[g].1,.str (Zpq w gs)[g].2] false]=h8
  have t8:Zbc h7.length h7 h8:=by rw [← hh8]; exact Zal
  have m8:h8[h7.length]?=some (.cells Zab [.str (Zpq w gs)[g].1,.str (Zpq w gs)[g].2] false):=by rw [← hh8]; simp
  have x8:=t8.get x7 (Own.lt x7)
  have R8:=R7.same t8
  have G8:=G7.same' t8
  have hin:=List.getElem_mem hkj
  rw [Zaz x8,Zaz m8]
  simp only [Zao,Zae,Zam,Zaj,Zah]
  refine (Zxn (nd:=(Zpq w gs)[g]) R8 wb G8 hc hin).mono ?_
  rintro v h9 ⟨s,rfl,hs,t9⟩
  have x9:=t9.get x8 (Own.lt x8)
  have m9:=t9.get m8 (Own.lt m8)
  simp only [Zco,Zae,Zah,Zam,Zaz x9,Zaz m9,Zao,Zaj]
  refine (Yob (nd:=(Zpq w gs)[g]) (R8.same t9) wb (G8.same' t9) hc hin).mono ?_
  rintro v h10 ⟨rfl,t10⟩
  have m10:=t10.get m9 (Own.lt m9)
  simp only [Zaq,Bool.not_true,Zbz]
  refine Zar (fun h2=>by omega) (fun _=>?_)
  apply Zcg.J14i
  have T10:=((t7.cat t8).cat t9).cat t10
  have q10:=q6.same' T10
  refine Yak q10 (k:=g) (by omega) hlc rfl fun a' c' e' hr' hc' _=>?_
  simp only [Zaj]
  refine Zcg.L15ind (J:=fun (z:Nat) x121 h'=>x121=(z:Int)∧z≤g∧Zbc h10.length h10 h') (m:=fun z=>g - z) (hr:=?_) (g:=0) (hj:=⟨rfl,by omega,Zbc.refl _ _⟩)
  rintro z x121 h11 ⟨rfl,hz,t11⟩ R15 hR15
  unfold Zcg.L15t
  refine Zar (fun hlt2=>?_) (fun hge2=>?_)
  ·obtain ⟨ik,ok,hkk,hka,hkl,hrk,_⟩:=(hr'.same' t11).pr (k:=z) (by omega)
   have m11:=t11.get m10 (Own.lt m10)
   simp only [hka,Zau,Int.toNat_natCast,hrk,Zao,Zae,Zam,Zah,Zaw]
   rw [← hka,Zfb]
   simp only [Zas]
   refine ⟨by omega,?_⟩
   rw [Zzk]
   have t12:Zbc h11.length h11 (h11 ++ [Zcb.cells Zab [.str ((Zpq w gs).take g)[z].1,.str ((Zpq w gs).take g)[z].2] false]):=Zal
   rw [Zaz (t12.get m11 (Own.lt m11))]
   simp only [Zao,Zae,Zam,Zah,Yek]
   have hzl:z < (Zpq w gs).length:=by omega
   have hne:((Zpq w gs).take g)[z]≠(Zpq w gs)[g]:=by
    rw [List.getElem_take]
    exact Yny hnd hzl hkj (by omega)
   rw [decide_eq_false hne]
   simp only [Zbz]
   rw [Zbm (by omega)]
   exact hR15 (z + 1) _ _ (by omega) ⟨rfl,by omega,t11.cat t12⟩
  ·apply Zcg.A15x2i
   apply Zcg.J20i
   rw [Zbm (by omega)]
   exact hR (g + 1) _ _ (by omega) ⟨rfl,by omega,T10.cat t11⟩
 ·apply Zcg.A9x0i
  have G7:=G6.same' t7
  have q7:=q6.same' t7
  refine Zcg.L22ind (J:=fun (g:Nat) x132 h'=>x132=(g:Int)∧g≤n2∧Zbc h7.length h7 h') (m:=fun g=>n2 - g) (hr:=?_) (g:=0) (hj:=⟨rfl,by omega,Zbc.refl _ _⟩)
  rintro g2 x132 h8 ⟨rfl,hg2,t8⟩ R22 hR22
  unfold Zcg.L22t
  refine Zar (fun hlt=>?_) (fun hge2=>?_)
  ·obtain ⟨ij,oj,hkj,hja,hjl,hrj,_⟩:=(G7.same' t8).pr (k:=g2) (by omega)
   simp only [hja,Zau,Int.toNat_natCast,hrj,Zao,Zae,Zam,Zah,Zaw]
   rw [← hja,Zfb]
   simp only [Zas]
   refine ⟨by omega,?_⟩
   generalize hh9:h8 ++ [Zcb.cells Zab [.str gs[g2].1,.str gs[g2].2] false]=h9
   have t9:Zbc h8.length h8 h9:=by rw [← hh9]; exact Zal
   have m9:h9[h8.length]?=some (.cells Zab [.str gs[g2].1,.str gs[g2].2] false):=by rw [← hh9]; simp
   have hin:gs[g2]∈Zpq w gs:=Yev.2 ⟨gs[g2],List.getElem_mem hkj,Yag.2 (.inl rfl)⟩
   refine Zcg.L26ind (J:=fun (z:Nat) x17 x138 h'=>x138=(z:Int)∧z≤ln∧Zbc h9.length h9 h'∧x17=decide (gs[g2]∈(Zpq w gs).take z)) (m:=fun z=>ln - z) (hr:=?_) (g:=0) (hj:=⟨rfl,by omega,Zbc.refl _ _,by simp⟩)
   rintro z x17 x138 h10 ⟨rfl,hz,t10,rfl⟩ R26 hR26
   unfold Zcg.L26t
   have T10:=(t8.cat t9).cat t10
   refine Zar (fun hlt2=>?_) (fun hge3=>?_)
   ·obtain ⟨ik,ok,hkk,hka,hkl,hrk,_⟩:=(q7.same' T10).pr (k:=z) (by omega)
    have m10:=t10.get m9 (Own.lt m9)
    have nxt:∀ b h',Zbc h9.length h9 h'→b=decide (gs[g2]∈(Zpq w gs).take (z + 1))→Zcg.J29 (fun v _=>v=.bool true) R22 R26 (z:Int) (ln:Int) la ln lc le b h8.length 0 (g2:Int) (n2:Int) a2 n2 c2 e2 la ln lc le h':=by
     intro b h' t' hb
     apply Zcg.J29i
     rw [Zbm (by omega)]
     exact hR26 (z + 1) _ _ _ (by omega) ⟨rfl,by omega,t',hb⟩
    simp only [hka,Zau,Int.toNat_natCast,hrk,Zao,Zae,Zam,Zah,Zaw]
    rw [← hka,Zfb]
    simp only [Zas]
    refine ⟨by omega,?_⟩
    have t12:Zbc h10.length h10 (h10 ++ [Zcb.cells Zab [.str (Zpq w gs)[z].1,.str (Zpq w gs)[z].2] false]):=Zal
    refine Zdi (fun ht=>?_) (fun hf=>?_)
    ·exact nxt true _ (t10.cat t12) (decide_eq_true ((Ylp hkk).2 (.inl (of_decide_eq_true ht)))).symm
    ·rw [Zzk,Zaz (t12.get m10 (Own.lt m10))]
     simp only [Zao,Zae,Zam,Zah,Yek]
     refine nxt _ _ (t10.cat t12) ?_
     have hno:=of_decide_eq_false hf
     rw [Bool.eq_iff_iff,decide_eq_true_eq,decide_eq_true_eq,Ylp hkk]
     exact ⟨fun e=>.inr e,fun h=>h.resolve_left hno⟩
   ·apply Zcg.A26x6i
    have:z=ln:=by omega
    subst this
    rw [List.take_of_length_le (by omega),decide_eq_true hin]
    simp only [Bool.not_true,Zbz]
    rw [Zbm (by omega)]
    exact hR22 (g2 + 1) _ _ (by omega) ⟨rfl,by omega,T10⟩
  ·apply Zcg.A22x4i
   rfl
end Go.Sim

set_option linter.unusedVariables false
set_option linter.unusedSimpArgs false
set_option maxRecDepth 20000
namespace Go.Sim
open Go Go.RowKit
theorem Yll {P:Program} {h:Zaa} {f:Nat} {e:TypeId} (he:P.underlying e=some (.int .u8)):∀ (vs:List (List Zay)) (ds:List Dt),ds.length=vs.length→(∀ (i:Nat) (v:List Zay) (x:Dt),vs[i]?=some v→ds[i]?=some x→v.length=P.cellsOf e∧rd P h (f + 1) e v x) →
  ∃ l:List Nat,vs.flatten=Zdb eB l∧∀ z∈l,z < 256
 | [],_,_,_=>⟨[],rfl,by simp⟩
 | v :: vs,[],h,_=>by simp at h
 | v :: vs,d :: ds,hl,hall=>by
  obtain ⟨l,hfl,hs⟩:=Yll he vs ds (by simpa using hl) fun i v x hv hx=>hall (i + 1) v x (by simpa using hv) (by simpa using hx)
  have h0:=(hall 0 v d rfl rfl).2
  simp only [rd,he] at h0
  obtain ⟨z,rfl,_,hw⟩:=h0
  simp [Lit.wf,IntKind.min,IntKind.max,IntKind.signed,IntKind.bits] at hw
  refine ⟨z.toNat :: l,?_,fun x hx=>?_⟩
  ·simp [hfl,eB]; omega
  ·rcases List.mem_cons.1 hx with rfl | hx
   ·omega
   ·exact hs x hx
theorem rd_bytes {P:Program} {h:Zaa} {f:Nat} {t e:TypeId} {cs:List Zay} {d:Dt} (ht:P.underlying t=some (.slice e)) (he:P.underlying e=some (.int .u8)) (hc:P.cellsOf e=1) (hr:rd P h (f + 2) t cs d) :
  ∃ a n c ex,∃ l:List Nat,cs=[.slice a n c ex]∧Row h.length h a n (Zdb eB l)∧∀ z∈l,z < 256:=by
 unfold rd at hr
 rw [ht] at hr
 obtain ⟨a,n,c,ex,ds,vs,rfl,rfl,hdl,hn,hvl,hrow,hall⟩:=hr
 obtain ⟨l,hfl,hs⟩:=Yll (f:=f) he vs ds (by omega) hall
 rw [hc,Nat.mul_one,hfl] at hrow
 exact ⟨a,n,c,ex,l,rfl,hrow,hs⟩
end Go.Sim
