/- A part of the proof of a statement of this seat: see the text that holds the theorem. No condition. -/
import Derived.Test.YtflfcofeedjblaaGreatDoorPTCSFold
import Derived.Test.YtflfcofeedjblaaGreatDoorCSFold
import Derived.Test.YtflfcofeedjblaaGreatDoorNm
import Derived.Test.YtflfcofeedjblaaGreatDoorPTCOwn
import Derived.Test.YtflfcofeedjblaaGreatDoorCSTy
import Derived.Test.YtflfcofeedjblaaGreatDoorCMost
import Derived.Test.YtflfcofeedjblaaGreatDoorCApply
set_option linter.unusedVariables false
set_option linter.unusedSimpArgs false
set_option linter.all false
set_option linter.unusedVariables false
set_option linter.unusedSimpArgs false
set_option maxRecDepth 20000
namespace Go.Sim
open Go Go.RowKit

theorem Ydw {b:Nat} {h:Zaa} {a:Pt} {n c k:Nat} {e:Bool} {l:List Nd} {K:Zat→Prop} (r:Row b h a (n * 2) (Zdg eP l)) (hk:k≤n) (hc:n≤c) {z:Int} (hz:z=k)
  (hK:∀ a' c' e',Row b h a' (k * 2) (Zdg eP (l.take k))→k≤c'→(a'=none ∨ ∃ i o,a=some (i,o)∧a'=some (i,o))→K (.slice a' k c' e')):Zhr a n c e 2 none (some (.int .i64 z)) none K:=by
 subst hz
 have hl:l.length=n:=by have:=r.1; rw [Zav Zcy] at this; omega
 simp only [Zhr,Zkp]
 refine ⟨by omega,?_⟩
 split
 ·have h0:n=0:=by
   obtain ⟨h1,h2⟩:=r
   rcases h2 with h2 | ⟨i,o,t,all,ro,ha,_⟩
   ·omega
   ·cases ha
  have hk0:k=0:=by omega
  subst hk0
  exact ⟨⟨by trivial,by simp,.inl (by trivial)⟩,hK _ _ _ (by simpa using Row.nil) (by omega) (.inl rfl)⟩
 ·rename_i i o
  refine ⟨fun hlt=>?_,fun hlt=>?_⟩
  ·have e2:((k:Int) - 0).toNat=k:=by omega
   have e3:o + Int.toNat 0 * 2=o:=by simp
   have e4:((c:Int) - 0).toNat=c:=by omega
   rw [e2,e3,e4]
   exact hK _ _ _ (r.sl hk hl) (by omega) (.inr ⟨_,_,rfl,rfl⟩)
  ·have hk0:k=0:=by omega
   subst hk0
   exact hK _ _ _ (by simpa using Row.nil) (by omega) (.inl rfl)
structure Zuv (hb:Zaa) (i:Nat) (u v:Zat) (sp:Bool) (h:Zaa) (qa:Pt) (asked st:List Nd) (why:List Nat):Prop where
 same:Zba hb.length hb h
 ge:hb.length≤i
 ob:∃ qn qc qe sa sn sc se,h[i]?=some (.cells Zcx [u,v,.bool sp,.slice qa qn qc qe,.slice sa sn sc se,.str why] false)∧Yli hb.length h qa qn qc asked∧Row h.length h sa (sn * 2) (Zdg eP st)∧sn≤sc∧∀ j o,sn * 2≠0→sa=some (j,o)→j≠i∧∀ q,qa=some (q,0)→j≠q
 ne:∀ q,qa=some (q,0)→q≠i
section
variable {hb:Zaa} {i:Nat} {u v:Zat} {sp:Bool} {h:Zaa} {qa:Pt} {asked st:List Nd} {why:List Nat}
theorem Zuv.step {h':Zaa} (r:Zuv hb i u v sp h qa asked st why) (k:Zba h.length h h'):Zuv hb i u v sp h' qa asked st why:=by
 obtain ⟨qn,qc,qe,sa,sn,sc,se,ho,hv,hr,hsc,hd⟩:=r.ob
 exact ⟨r.same.trans (k.mono r.same.le),r.ge,⟨qn,qc,qe,sa,sn,sc,se,k.get ho (Own.lt ho),hv.same k,hr.same' k,hsc,hd⟩,r.ne⟩
theorem Zuv.lt (r:Zuv hb i u v sp h qa asked st why):i < h.length:=by obtain ⟨_,_,_,_,_,_,_,ho,_⟩:=r.ob; exact Own.lt ho
theorem Zuv.low (r:Zuv hb i u v sp h qa asked st why):∀ q,qa=some (q,0)→hb.length≤q∧q < h.length:=by
 obtain ⟨qn,qc,qe,sa,sn,sc,se,ho,hv,_⟩:=r.ob
 exact fun q hq=>⟨hv.low q hq,hv.vec.lt' hq⟩
theorem Zuv.write {qa' sa:Pt} {qn qc sn sc:Nat} {qe se:Bool} {x:Zby} {l st':List Nd} {why':List Nat} (sm:Zba hb.length hb h) (ge:hb.length≤i) (ho:h[i]?=some x)
  (hv:Yli hb.length h qa' qn qc l) (ne:∀ q,qa'=some (q,0)→q≠i) (hr:Row h.length h sa (sn * 2) (Zdg eP st')) (hsc:sn≤sc) (hd:∀ j o,sn * 2≠0→sa=some (j,o)→j≠i∧∀ q,qa'=some (q,0)→j≠q) :
  Zuv hb i u v sp (h.set i (.cells Zcx [u,v,.bool sp,.slice qa' qn qc qe,.slice sa sn sc se,.str why'] false)) qa' l st' why':=by
 refine ⟨⟨by simp; exact sm.le,fun j hj=>by rw [Zbp (by omega)]; exact sm.eq j hj⟩,ge,⟨qn,qc,qe,sa,sn,sc,se,Zbx ho,⟨?_,hv.len,hv.low⟩,?_,hsc,hd⟩,ne⟩
 ·exact hv.vec.agree fun j hj=>Zbp (fun e=>ne j hj e.symm)
 ·exact (FrS.set (qa:=none)).row hr fun j o hn ha=>⟨(hd j o hn ha).1,fun q hq=>by cases hq⟩
theorem Zuv.reason (r:Zuv hb i u v sp h qa asked st why) (y:List Nat) {K:Zaa→Prop} (hK:∀ h',Zuv hb i u v sp h' qa asked st y→FrS i qa h h' qa→K h'):Zbn (Zay h (.ptr (some (i,0 + 5))) [.str y]) K:=by
 obtain ⟨qn,qc,qe,sa,sn,sc,se,ho,hv,hr,hsc,hd⟩:=r.ob
 rw [Zbd ho (by simp)]
 simp only [Zar,putRow,Nat.zero_add,List.take_succ_cons,List.take_zero,List.length_cons,List.length_nil,List.drop_succ_cons,List.drop_zero,List.drop_nil,List.cons_append,List.nil_append,List.append_nil]
 exact hK _ (Zuv.write r.same r.ge ho hv r.ne hr hsc hd) FrS.set
def Yrq (hb:Zaa) (i:Nat) (u v:Zat) (sp:Bool) (d:Nat) (h:Zaa) (qa:Pt) (r:Fnd × List Nd) (x:Zat) (h':Zaa):Prop:=
 x=.str (Zzs r.1)∧∃ qa' st',Zuv hb i u v sp h' qa' r.2 st' (Yer r.1)∧FrS i qa h h' qa'∧st'.length≤32∧(∀ s,r.1=.ok s→st'.length=d + 1)∧∀ y m,r.1=.no y m→y≠[]∧st'.getLast?=some m
end
theorem Ykd {hb:Zaa} {a0 a1:Pt} {n0 c0 n1 c1:Nat} {e0 e1:Bool} {w:Wd} (r:Zlz hb a0 n0 c0 a1 n1 c1 w) (b:WB w) {sp:Bool} {h:Zaa} {i:Nat} {qa:Pt} {asked st:List Nd} {n:Nd}
  (rd:Zuv hb i (.slice a0 n0 c0 e0) (.slice a1 n1 c1 e1) sp h qa asked st []) (hw:Zdv w=true) (hnd:Zfp w n=true) :
  Zaj pg Zfa [.ptr (some (i,0)),.agg [.str n.1,.str n.2]] h fun x h'=>x=.int .i64 (Zeg (wk w) sp n).1∧Zuv hb i (.slice a0 n0 c0 e0) (.slice a1 n1 c1 e1) sp h' qa asked st (if (Zeg (wk w) sp n).1 < 0 then (Zeg (wk w) sp n).2 else [])∧FrS i qa h h' qa∧((Zeg (wk w) sp n).1 < 0→(Zeg (wk w) sp n).2≠[])∧(¬ (Zeg (wk w) sp n).1 < 0→∃ k:Nat,(Zeg (wk w) sp n).1=k∧k < w.is.length):=by
 have hty:=Yai hnd
 apply Zgp.call
 simp only [Zax]
 generalize hh0:h ++ [Zby.cells Zab [.str n.1,.str n.2] false]=h0
 have s0:Zba h.length h h0:=by rw [← hh0]; exact Zam
 have p1:h0[h.length]?=some (.cells Zab [.str n.1,.str n.2] false):=by rw [← hh0]; simp
 have rd0:=rd.step s0
 obtain ⟨qn,qc,qe,sa,sn,sc,se,ho,hv,hr,hsc,hd⟩:=rd0.ob
 simp only [Zaw,Zed ho (show 0 + 0 + 2≤_ by simp),Zbb p1,List.drop_zero,List.take_succ_cons,List.take_zero,Zap,Zaf,Zao,Zah,Zag,true_and]
 refine (Zst (nd:=n) (r.same rd0.same) b (by omega)).mono ?_
 rintro v h4 ⟨s4,ca,cn,cc,ce,rfl,fc⟩
 have rd4:=rd0.step s4
 have F4:FrS i qa h h4 qa:=FrS.of_same (s0.cat s4)
 have o4:=s4.get ho (Own.lt ho)
 have q1:=s4.get p1 (Own.lt p1)
 have hcl:=fc.1
 have hcin:=Yau w n
 have hpk:Zeg (wk w) sp n=match Zhx w n with | []=>(-1,Ygj) | [x]=>(x,[]) | l=>if sp && decide (0≤Zop w l) then (Zop w l,[]) else (-1,Znx):=rfl
 simp only [Zah,Zaw]
 refine Zcq (fun hc0=>?_) (fun hc0=>?_)
 ·have hc:Zhx w n=[]:=List.eq_nil_of_length_eq_zero (by omega)
  have hpk:Zeg (wk w) sp n=(-1,Ygj):=by rw [hpk,hc]
  refine rd4.reason _ fun h5 rd5 F5=>?_
  rw [hpk]
  exact ⟨rfl,rd5,F4.trans F5,fun _=>by decide,fun h=>absurd (show (-1:Int) < 0 by omega) h⟩
 refine Zcq (fun hc1=>?_) (fun hc1=>?_)
 ·obtain ⟨ic,oc,hkc,rfl,_,hcell⟩:=Row.i64 (l:=Zhx w n) (by simpa using Zdd.row Znk fc) (k:=0) (by omega)
  have hcell0:Zae h4 (.ptr (some (ic,oc + (Int.toNat 0) * 1)))=some (.int .i64 (Zhx w n)[0]):=hcell
  obtain ⟨k0,hk0,hk0l⟩:=hcin _ (List.getElem_mem hkc)
  have hpk:Zeg (wk w) sp n=((k0:Int),[]):=by
   rw [hpk,← hk0]
   match hc:Zhx w n,hkc with
   | [x],_=>rfl
   | [],hx=>simp at hx
   | x :: y :: l,_=>rw [hc] at hcl; simp at hcl; omega
  simp only [Zaw,hcell0,Zas]
  rw [hpk,hk0]
  exact ⟨by omega,rfl,by simpa using rd4,F4,fun h=>absurd h (by simp),fun _=>⟨k0,rfl,hk0l⟩⟩
 have hpk:Zeg (wk w) sp n=if sp && decide (0≤Zop w (Zhx w n)) then (Zop w (Zhx w n),[]) else (-1,Znx):=by
  rw [hpk]
  match hc:Zhx w n with
  | []=>rw [hc] at hcl; simp at hcl; omega
  | [x]=>rw [hc] at hcl; simp at hcl; omega
  | x :: y :: l=>rfl
 have many:∀ h5,Zuv hb i (.slice a0 n0 c0 e0) (.slice a1 n1 c1 e1) sp h5 qa asked st []→FrS i qa h h5 qa→Zeg (wk w) sp n=(-1,Znx)→Zgp.J11 (fun x h'=>x=.int .i64 (Zeg (wk w) sp n).1∧Zuv hb i (.slice a0 n0 c0 e0) (.slice a1 n1 c1 e1) sp h' qa asked st (if (Zeg (wk w) sp n).1 < 0 then (Zeg (wk w) sp n).2 else [])∧FrS i qa h h' qa∧((Zeg (wk w) sp n).1 < 0→(Zeg (wk w) sp n).2≠[])∧(¬ (Zeg (wk w) sp n).1 < 0→∃ k:Nat,(Zeg (wk w) sp n).1=k∧k < w.is.length)) (some (i,0)) h5:=by
  intro h5 rd5 F5 hpk
  apply Zgp.J11i
  simp only [Zaw]
  refine rd5.reason _ fun h6 rd6 F6=>?_
  rw [hpk]
  exact ⟨rfl,rd6,F5.trans F6,fun _=>by decide,fun h=>absurd (show (-1:Int) < 0 by omega) h⟩
 simp only [Zal o4,Nat.zero_add,List.getElem?_cons_succ,List.getElem?_cons_zero,Zaq]
 refine Zdu (fun hsp=>?_) (fun hsp=>?_)
 ·simp only [Zed o4 (show 0 + 2≤_ by simp),Zbb q1,List.drop_zero,List.take_succ_cons,List.take_zero,Zap,Zaf,Zao,Zah,Zag,true_and]
  refine (Zyl (nd:=n) (r.same rd4.same) b (by omega)).mono ?_
  rintro v h5 ⟨rfl,s5⟩
  have hm:Yke w n=Zop w (Zhx w n):=by unfold Yke Zrh; rw [hw,hnd]; rfl
  rw [hm]
  simp only [Zas]
  refine Zau (fun hge=>?_) (fun hlt=>?_)
  ·have hpk:Zeg (wk w) sp n=(Zop w (Zhx w n),[]):=by rw [hpk,hsp,if_pos (by simp; omega)]
   rw [hpk]
   refine ⟨rfl,?_,F4.trans (FrS.of_same s5),fun h=>absurd h (by simp only; omega),fun _=>?_⟩
   ·simp only
    rw [if_neg (by omega)]; exact rd4.step s5
   ·simp only
    unfold Zop at hge ⊢
    cases hfi:(Zhx w n).find? (Yda w (Zhx w n)) with
    | none=>rw [hfi] at hge; simp at hge
    | some x=>exact hcin x (List.mem_of_find?_eq_some hfi)
  ·exact many h5 (rd4.step s5) (F4.trans (FrS.of_same s5)) (by rw [hpk,hsp,if_neg (by simp; omega)])
 ·exact many h4 rd4 F4 (by rw [hpk,hsp]; rfl)
end Go.Sim

set_option linter.unusedVariables false
set_option linter.unusedSimpArgs false
set_option maxRecDepth 20000
namespace Go.Sim
open Go Go.RowKit

def Yoz (f:Nat) (hb:Zaa) (a0 a1:Pt) (n0 c0 n1 c1:Nat) (e0 e1:Bool) (w:Wd) (sp:Bool):Prop:=∀ {h:Zaa} {i:Nat} {qa:Pt} {asked st:List Nd} {n:Nd} {d:Nat},Zuv hb i (.slice a0 n0 c0 e0) (.slice a1 n1 c1 e1) sp h qa asked st []→asked.length≤300→Zfp w n=true→d + f=31→d≤st.length →
   Zaj pg Zfs [.ptr (some (i,0)),.agg [.str n.1,.str n.2],.int .i64 (d:Int)] h (Yrq hb i (.slice a0 n0 c0 e0) (.slice a1 n1 c1 e1) sp d h qa (Zkc (wk w) sp Zns f asked n))
theorem Yrq.of {hb:Zaa} {i:Nat} {u v:Zat} {sp:Bool} {d:Nat} {h h0:Zaa} {qa qa0:Pt} {r:Fnd × List Nd} {x:Zat} {h':Zaa} (F:FrS i qa0 h0 h qa) (q:Yrq hb i u v sp d h qa r x h'):Yrq hb i u v sp d h0 qa0 r x h':=by
 obtain ⟨e,qa',st',a,f,z⟩:=q
 exact ⟨e,qa',st',a,F.trans f,z⟩
theorem Ypl {g:Nat} (h:g < 3):sub [40,44,44] (g:Int) ((g + 1:Nat):Int)=[Znv g]:=by
 match g,h with
 | 0,_=>rfl
 | 1,_=>rfl
 | 2,_=>rfl
theorem Yon {hb:Zaa} {a0 a1:Pt} {n0 c0 n1 c1:Nat} {e0 e1:Bool} {w:Wd} (r:Zlz hb a0 n0 c0 a1 n1 c1 w) (b:WB w) (hw:Zdv w=true) (sp:Bool) (f:Nat)
  (ih:∀ f',f=f' + 1→Yoz f' hb a0 a1 n0 c0 n1 c1 e0 e1 w sp) {h hX:Zaa} {i p1:Nat} {qa:Pt} {asked st st':List Nd} {n:Nd} {d qs cs:Nat} {es:Bool} (rd:Zuv hb i (.slice a0 n0 c0 e0) (.slice a1 n1 c1 e1) sp hX qa asked st []) (FX:FrS i qa h hX qa)
  (hal:asked.length≤300) (hnd:Zfp w n=true) (hf:d + f=31) (hstl:st'.length=d + 1) (hlast:st'.getLast?=some n) (hrow:Row hX.length hX (some (qs,0)) ((d + 1) * 2) (Zdg eP st')) (hqi:qs≠i) (hqq:∀ q,qa=some (q,0)→qs≠q) (hcs:d + 1≤cs)
  (hp1:hX[p1]?=some (.cells Zab [.str n.1,.str n.2] false)) (hpi:p1≠i) (hpq:∀ q,qa=some (q,0)→p1≠q) :
  Zsb (Yrq hb i (.slice a0 n0 c0 e0) (.slice a1 n1 c1 e1) sp d h qa (Zkc (wk w) sp Zns f asked n)) (some (i,0)) (d:Int) p1 hX (some (qs,0)) (d + 1) cs es:=by
 unfold Zsb
 have hty:=Yai hnd
 have hl10:=Zth hw
 have hl1:=r.len1
 obtain ⟨qn,qc,qe,sa,sn,sc,se,ho,hv,hr,hsc,hdj⟩:=rd.ob
 have hlow:=rd.low
 have hil:=rd.lt
 have hnv:=hv.len
 simp only [Zaw]
 rw [Zbd ho (by simp)]
 simp only [Zar,putRow,Nat.zero_add,List.take_succ_cons,List.take_zero,List.length_cons,List.length_nil,List.drop_succ_cons,List.drop_zero,List.drop_nil,List.cons_append,List.nil_append,List.append_nil]
 have rd1:Zuv hb i (.slice a0 n0 c0 e0) (.slice a1 n1 c1 e1) sp (hX.set i (.cells Zcx [.slice a0 n0 c0 e0,.slice a1 n1 c1 e1,.bool sp,.slice qa qn qc qe,.slice (some (qs,0)) (d + 1) cs es,.str []] false)) qa asked st' []:=
  Zuv.write rd.same rd.ge ho hv rd.ne hrow hcs fun j o hn ha=>by cases ha; exact ⟨hqi,hqq⟩
 have F1:FrS i qa h (hX.set i (.cells Zcx [.slice a0 n0 c0 e0,.slice a1 n1 c1 e1,.bool sp,.slice qa qn qc qe,.slice (some (qs,0)) (d + 1) cs es,.str []] false)) qa:=FX.trans FrS.set
 have o1:(hX.set i (.cells Zcx [.slice a0 n0 c0 e0,.slice a1 n1 c1 e1,.bool sp,.slice qa qn qc qe,.slice (some (qs,0)) (d + 1) cs es,.str []] false))[i]?=_:=Zbx ho
 have p1':(hX.set i (.cells Zcx [.slice a0 n0 c0 e0,.slice a1 n1 c1 e1,.bool sp,.slice qa qn qc qe,.slice (some (qs,0)) (d + 1) cs es,.str []] false))[p1]?=some (.cells Zab [.str n.1,.str n.2] false):=by rw [Zbp hpi.symm]; exact hp1
 generalize hX.set i (.cells Zcx [.slice a0 n0 c0 e0,.slice a1 n1 c1 e1,.bool sp,.slice qa qn qc qe,.slice (some (qs,0)) (d + 1) cs es,.str []] false)=h1 at rd1 F1 o1 p1' ⊢
 -- an end
 have bad:∀ (y:List Nat) (h':Zaa) (qa':Pt) (asked':List Nd),y≠[]→Zuv hb i (.slice a0 n0 c0 e0) (.slice a1 n1 c1 e1) sp h' qa' asked' st' []→FrS i qa h h' qa'→Zkc (wk w) sp Zns f asked n=(.no y n,asked') →
   Zbn (Zay h' (.ptr (some (i,0 + 5))) [.str y]) fun h''=>Yrq hb i (.slice a0 n0 c0 e0) (.slice a1 n1 c1 e1) sp d h qa (Zkc (wk w) sp Zns f asked n) (.str []) h'':=by
  intro y h' qa' asked' hy rd' F' he
  refine rd'.reason y fun h'' rd'' F''=>?_
  rw [he]
  exact ⟨rfl,qa',st',rd'',F'.trans F'',by omega,fun s hs=>(by cases hs),fun y' m hm=>by cases hm; exact ⟨hy,hlast⟩⟩
 simp only [Zal o1,List.getElem?_cons_succ,List.getElem?_cons_zero,Zah]
 refine Zau (fun h300=>bad Ynt h1 qa asked (by decide) rd1 F1 (Zmw (by omega))) (fun h300=>?_)
 have h300':¬ 300≤asked.length:=by omega
 have hv1:Yli hb.length h1 qa qn qc asked:=by
  obtain ⟨qn',qc',qe',sa',sn',sc',se',ho',hv',_⟩:=rd1.ob
  rw [o1] at ho'
  simp only [Option.some.injEq,Zby.cells.injEq,List.cons.injEq,Zat.slice.injEq,true_and,and_true] at ho'
  obtain ⟨⟨rfl,rfl,rfl⟩,_⟩:=ho'
  exact hv'
 have hrow1:Row h1.length h1 (some (qs,0)) ((d + 1) * 2) (Zdg eP st'):=by
  obtain ⟨qn',qc',qe',sa',sn',sc',se',ho',_,hr',_⟩:=rd1.ob
  rw [o1] at ho'
  simp only [Option.some.injEq,Zby.cells.injEq,List.cons.injEq,Zat.slice.injEq,true_and,and_true] at ho'
  obtain ⟨_,rfl,rfl,rfl,rfl⟩:=ho'
  exact hr'
 have hlow1:=rd1.low
 have hil1:=rd1.lt
 have s2:Zba h1.length h1 (h1 ++ [Zby.cells Zab [.str n.1,.str n.2] false]):=Zam
 simp only [Zbb p1',Zap,Zaf,Zao,Zag,Zax,true_and]
 refine ⟨by rw [Zal (s2.get o1 (Own.lt o1))]; rfl,?_⟩
 refine hv1.vec.pushN Zhv Zon Zom Zoj (by rw [Zav Zcy,hv1.len]) rfl (by omega) rfl (by omega) (fun h3 hl3 hi3 hk3=>?_)
 have o3:h3[i]?=some (.cells Zcx [.slice a0 n0 c0 e0,.slice a1 n1 c1 e1,.bool sp,.slice qa qn qc qe,.slice (some (qs,0)) (d + 1) cs es,.str []] false):=by rw [hk3 i (Own.lt o1) fun q hq=>(rd1.ne q hq).symm]; exact o1
 have p3:h3[p1]?=some (.cells Zab [.str n.1,.str n.2] false):=by rw [hk3 p1 (Own.lt p1') hpq]; exact p1'
 have hqsl:qs < h1.length:=by
  rcases hrow1.2 with h0 | ⟨j,o,t,all,ro,ha,hj,_⟩
  ·omega
  ·cases ha; exact hj
 simp only [Zah]
 rw [Zbd o3 (by simp)]
 simp only [Zar,putRow,List.take_succ_cons,List.take_zero,List.length_cons,List.length_nil,List.drop_succ_cons,List.drop_zero,List.drop_nil,List.cons_append,List.nil_append,List.append_nil]
 have F3:FrS i qa h1 h3 (some (h1.length + 1,0)):=⟨by omega,fun j hj hne hq=>hk3 j hj hq,.inr fun q hq=>by cases hq; omega⟩
 have rowl:Row h3.length h3 (some (qs,0)) ((d + 1) * 2) (Zdg eP st'):=F3.row hrow1 fun j o hn ha=>by cases ha; exact ⟨hqi,hqq⟩
 have rd4:Zuv hb i (.slice a0 n0 c0 e0) (.slice a1 n1 c1 e1) sp (h3.set i (.cells Zcx [.slice a0 n0 c0 e0,.slice a1 n1 c1 e1,.bool sp,.slice (some (h1.length + 1,0)) (qn + 1) (qn + 1) false,.slice (some (qs,0)) (d + 1) cs es,.str []] false)) (some (h1.length + 1,0)) (asked ++ [n]) st' []:=by
  have hle:=rd1.same.le
  refine Zuv.write ⟨by omega,fun j hj=>?_⟩ rd.ge o3 ⟨Vec.mk1 ?_,by rw [List.length_append,hnv]; rfl,fun q hq=>by cases hq; omega⟩ (fun q hq=>by cases hq; omega) rowl hcs (fun j o hn ha=>by cases ha; exact ⟨hqi,fun q hq=>by cases hq; omega⟩)
  ·rw [hk3 j (by omega) fun q hq=>by have:=(hlow1 q hq).1; omega]; exact rd1.same.eq j hj
  ·rw [hi3,Zid]; rfl
 have F4:FrS i qa h (h3.set i (.cells Zcx [.slice a0 n0 c0 e0,.slice a1 n1 c1 e1,.bool sp,.slice (some (h1.length + 1,0)) (qn + 1) (qn + 1) false,.slice (some (qs,0)) (d + 1) cs es,.str []] false)) (some (h1.length + 1,0)):=(F1.trans F3).trans FrS.set
 have p4:(h3.set i (.cells Zcx [.slice a0 n0 c0 e0,.slice a1 n1 c1 e1,.bool sp,.slice (some (h1.length + 1,0)) (qn + 1) (qn + 1) false,.slice (some (qs,0)) (d + 1) cs es,.str []] false))[p1]?=some (.cells Zab [.str n.1,.str n.2] false):=by rw [Zbp hpi.symm]; exact p3
 have hp1l:=Own.lt p1'
 generalize h3.set i (.cells Zcx [.slice a0 n0 c0 e0,.slice a1 n1 c1 e1,.bool sp,.slice (some (h1.length + 1,0)) (qn + 1) (qn + 1) false,.slice (some (qs,0)) (d + 1) cs es,.str []] false)=h4 at rd4 F4 p4 ⊢
 refine Zau (fun hd=>?_) (fun hd=>?_)
 ·have:f=0:=by omega
  subst this
  exact bad Ylf h4 _ _ (by decide) rd4 F4 (Zol h300')
 obtain ⟨f',rfl⟩:∃ f',f=f' + 1:=⟨f - 1,by omega⟩
 have ih:=@ih f' rfl
 simp only [Zbb p4,Zap,Zaf,Zao,Zag]
 refine (Ykd r b rd4 hw hnd).mono ?_
 rintro v h5 ⟨rfl,rd5,F5,hneg,hpos⟩
 have F5':=F4.trans F5
 simp only [Zas]
 refine Zau (fun hlt=>?_) (fun hge=>?_)
 ·rw [if_pos hlt] at rd5
  rw [Zko h300' hlt]
  exact ⟨rfl,_,st',rd5,F5',by omega,fun s hs=>(by cases hs),fun y m hm=>by cases hm; exact ⟨hneg hlt,hlast⟩⟩
 rw [if_neg hge] at rd5
 obtain ⟨k,hk,hkl⟩:=hpos hge
 have hqa4:∀ q,some (h1.length + 1,0)=some (q,0)→p1≠q:=fun q hq=>by cases hq; omega
 have p5:=F5.get p4 hpi hqa4
 obtain ⟨qn5,qc5,qe5,sa5,sn5,sc5,se5,o5,v5,r5,hsc5,hd5⟩:=rd5.ob
 obtain ⟨ii,oi,hki,na,nn,ncp,ne,rfl,_,hri,_,_,_,hrw,hnl⟩:=(r.same rd5.same).inst (k:=k) (by omega)
 have hbk:=b.is _ (List.getElem_mem hkl)
 rw [hk]
 simp only [Zal p5,Zal o5,Nat.zero_add,List.getElem?_cons_succ,List.getElem?_cons_zero,Zeh,Zaw,Zah,Int.toNat_natCast,hri,Zap,Zaf,Zao,Zag,true_and]
 refine ⟨by omega,?_⟩
 refine (Ymj (i:=w.is[k]) (t:=n.2) hrw (by omega) (by omega) (by omega) (fun p hp=>(hbk.2.2.2 p hp).2)).mono ?_
 rintro v h6 ⟨s6,ma,mn,mc,me,rfl,fm⟩
 have rd6:=rd5.step s6
 have F6:=F5'.trans (FrS.of_same s6)
 have p6:=s6.get p5 (Own.lt p5)
 have o6:=s6.get o5 (Own.lt o5)
 have hneeds:(wk w).needs (k:Int) n.2=Zha w.is[k] n.2:=by show Zha (Zmg w (k:Int)) n.2=_; rw [Zsd hkl]
 simp only [Zcj,Zaf,Zah,Zaq,Zao,Zal o6,List.getElem?_cons_succ,List.getElem?_cons_zero,true_and]
 refine Zbs (fun hok=>?_) (fun hok=>?_)
 ·refine bad Yuc h6 _ _ (by decide) rd6 F6 (Zre h300' hge ?_)
  rw [hk,hneeds]
  cases hh:Zha w.is[k] n.2 with
  | none=>rfl
  | some _=>rw [hh] at hok; cases hok
 obtain ⟨ms,hms⟩:=Option.isSome_iff_exists.1 hok
 have hms3:=Zxc hw hkl hms
 rw [hms] at fm
 simp only [Option.getD_some] at fm
 have hmn:=fm.1
 have hask:=Zuo (k:=wk w) (sp:=sp) (dec:=Zns) (f:=f') (n:=n) (asked:=asked) h300' hge (by rw [hk,hneeds]; exact hms)
 rw [hk] at hask
 have hask:Zkc (wk w) sp Zns (f' + 1) asked n=Zwc ms (Zgc w sp f' k asked n ms ms.length).1:=by rw [hask]; unfold Zgc; rw [List.take_length]
 refine (Yok (by omega) (by omega)).mono ?_
 rintro v h7 ⟨rfl,s7⟩
 have rd7:=rd6.step s7
 have F7:=F6.trans (FrS.of_same s7)
 have p7:=s7.get p6 (Own.lt p6)
 have fm7:=fm.same s7
 have l7:=s7.le
 have hlow7:=rd7.low
 have hil7:=rd7.lt
 rw [Ydc (by omega),Int.toNat_natCast,Ynb (by omega)]
 simp only [Zag]
 have hlow6:=rd5.low
 have hil6:=rd5.lt
 refine Zeb.L18ind _ _ _ _ _ _ _ _ _ _ _ _ (J:=fun (g:Nat) x10 x8 h'=>x8=(g:Int)∧g≤mn∧(Zgc w sp f' k asked n ms g).1.1=.ok x10∧∃ qa' st2,Zuv hb i (.slice a0 n0 c0 e0) (.slice (some (ii,oi)) n1 c1 e1) sp h' qa' (Zgc w sp f' k asked n ms g).1.2 st2 []∧d + 1≤st2.length∧st2.length≤32∧FrS i (some (h1.length + 1,0)) h7 h' qa') (fun g=>mn - g) ?_ 0 _ _ _ ⟨rfl,by omega,rfl,_,st',rd7,by omega,by omega,FrS.refl _ _ _⟩
 rintro g x15 x8 h' ⟨rfl,hg,hout,qa',st2,rdg,hst2,hst32,Fg⟩ R hR
 obtain ⟨hb1,hb2⟩:=Zoe (w:=w) (sp:=sp) (f:=f') (k:=k) (n:=n) (ms:=ms) h300' g
 have hb2:=hb2 _ hout
 have hidx:=Yac (by omega) hout
 unfold Zeb.L18t
 refine Zau (fun hlt=>?_) (fun hge=>?_)
 ·have fmg:Row h'.length h' ma (mn * 2) (Zdg eP ms):=Fg.row (fm7.row Zcy) fun j o hn ha=>by
   obtain ⟨_,h0 | ⟨j',hj',hb',hjj⟩⟩:=fm7
   ·omega
   ·rw [ha] at hj'
    cases hj'
    exact ⟨by omega,fun q hq=>by have:=(hlow6 q hq).2; omega⟩
  obtain ⟨im,om,hgl,rfl,_,hrm,_⟩:=fmg.pr (k:=g) (by omega)
  simp only [Zaw,Int.toNat_natCast,hrm,Zap,Zaf,Zao,Zag,Zax]
  rw [Zgb]
  generalize hh8:h' ++ [Zby.cells Zab [.str ms[g].1,.str ms[g].2] false]=h8
  have s8:Zba h'.length h' h8:=by rw [← hh8]; exact Zam
  have o8:h8[h'.length]?=some (.cells Zab [.str ms[g].1,.str ms[g].2] false):=by rw [← hh8]; simp
  simp only [Zar,Zbb o8,Zap,Zaf,Zao,Zag]
  refine ⟨by omega,?_⟩
  rw [Zbq (by omega)]
  refine (ih (n:=ms[g]) (rdg.step s8) hb1 (hms3.2 _ (List.getElem_mem hgl)) (by omega) hst2).mono ?_
  rintro v h9 ⟨rfl,qa9,st9,rd9,F9,h932,hok9,hno⟩
  have F9':=(Fg.trans (FrS.of_same s8)).trans F9
  have hsucc:=Zyc (w:=w) (sp:=sp) (f:=f') (k:=k) (asked:=asked) (n:=n) (ms:=ms) hgl
  have hPg:Zgc w sp f' k asked n ms g=((.ok x15,(Zgc w sp f' k asked n ms g).1.2),g):=Prod.ext (Prod.ext hout rfl) hidx
  rw [hPg] at hsucc
  unfold Zfk at hsucc
  simp only at hsucc
  obtain ⟨qn9,qc9,qe9,sa9,sn9,sc9,se9,o9,_⟩:=rd9.ob
  simp only [Zag,Zaw,Zal o9,Nat.zero_add,List.getElem?_cons_succ,List.getElem?_cons_zero]
  rcases hr:Zkc (wk w) sp Zns f' (Zgc w sp f' k asked n ms g).1.2 ms[g] with ⟨x,a'⟩
  rw [hr] at hsucc rd9 hno hok9
  cases x with
  | no y m=>
   obtain ⟨hy,hl9⟩:=hno y m rfl
   simp only at hsucc
   have hall:=Zyj hsucc
   refine Zbs (fun hd=>?_) (fun hd=>absurd (of_decide_eq_true hd) hy)
   rw [hask,hall]
   exact ⟨rfl,qa9,st9,rd9,F7.trans F9',h932,fun s hs=>(by cases hs),fun y' m' hm=>by cases hm; exact ⟨hy,hl9⟩⟩
  | ok dd=>
   refine Zbs (fun hd=>absurd rfl (of_decide_eq_false hd)) (fun hd=>?_)
   simp only at hsucc
   obtain ⟨hc1,hc2⟩:=Zoe (w:=w) (sp:=sp) (f:=f') (k:=k) (n:=n) (ms:=ms) h300' (g + 1)
   have hc2:=hc2 _ (by rw [hsucc])
   simp only [List.length_append,List.length_cons] at hc2
   have hl9:=hok9 dd rfl
   rw [Zbq (by omega),Ypl (by omega)]
   refine ⟨⟨by omega,by omega,by simp; omega⟩,by simp; omega,by simp [Zzs]; omega,?_⟩
   refine hR (g + 1) _ _ _ (by omega) ⟨rfl,by omega,by rw [hsucc]; simp [Zzs],qa9,st9,by rw [hsucc]; exact rd9,by omega,h932,F9'⟩
 ·apply Zeb.A18x0i
  have:g=mn:=by omega
  subst this
  have hend:Zgc w sp f' k asked n ms ms.length=((.ok x15,(Zgc w sp f' k asked n ms g).1.2),g):=by rw [hmn]; exact Prod.ext (Prod.ext hout rfl) hidx
  have he:Zkc (wk w) sp Zns (f' + 1) asked n=(.ok (if ms=[] then x15 else x15 ++ [41]),(Zgc w sp f' k asked n ms g).1.2):=by rw [hask,hend]; rfl
  have fin:∀ t,t=(if ms=[] then x15 else x15 ++ [41])→Zeb.J27 (Yrq hb i (.slice a0 n0 c0 e0) (.slice (some (ii,oi)) n1 c1 e1) sp d h qa (Zkc (wk w) sp Zns (f' + 1) asked n)) (some (i,0)) (d:Int) t h':=by
   rintro t rfl
   apply Zeb.J27i
   obtain ⟨qn9,qc9,qe9,sa9,sn9,sc9,se9,o9,v9,r9,hsc9,hd9⟩:=rdg.ob
   have hsl9:st2.length=sn9:=by have:=r9.1; rw [Zav Zcy] at this; omega
   simp only [Zaw,Zal o9,Nat.zero_add,List.getElem?_cons_succ,List.getElem?_cons_zero,Zah]
   rw [Zbq (by omega)]
   refine Ydw r9 (k:=d + 1) (by omega) hsc9 rfl fun a' c' e' hr' hc' hp'=>?_
   simp only [Zah]
   rw [Zbd o9 (by simp)]
   simp only [Zar,putRow,List.take_succ_cons,List.take_zero,List.length_cons,List.length_nil,List.drop_succ_cons,List.drop_zero,List.drop_nil,List.cons_append,List.nil_append,List.append_nil]
   rw [he]
   refine ⟨rfl,qa',st2.take (d + 1),Zuv.write rdg.same rdg.ge o9 v9 rdg.ne hr' hc' ?_,(F7.trans Fg).trans FrS.set,by rw [List.length_take]; omega,fun s hs=>by rw [List.length_take]; omega,fun y m hm=>by cases hm⟩
   intro j o hn ha
   rcases hp' with rfl | ⟨i',o',e1,e2⟩
   ·cases ha
   ·rw [e2] at ha; cases ha
    exact hd9 _ _ (by omega) e1
  refine Zau (fun hpos=>⟨by simp; omega,?_⟩) (fun hpos=>?_)
  ·exact fin _ (by rw [if_neg (fun hm=>by rw [hm] at hmn; simp at hmn; omega)])
  ·exact fin _ (by rw [if_pos (List.eq_nil_of_length_eq_zero (by omega))])
end Go.Sim

set_option linter.unusedVariables false
set_option linter.unusedSimpArgs false
set_option maxRecDepth 20000
namespace Go.Sim
open Go Go.RowKit

theorem Ycn {hb:Zaa} {a0 a1:Pt} {n0 c0 n1 c1:Nat} {e0 e1:Bool} {w:Wd} (r:Zlz hb a0 n0 c0 a1 n1 c1 w) (b:WB w) (hw:Zdv w=true) (sp:Bool) (f:Nat)
  (ih:∀ f',f=f' + 1→Yoz f' hb a0 a1 n0 c0 n1 c1 e0 e1 w sp):Yoz f hb a0 a1 n0 c0 n1 c1 e0 e1 w sp:=by
 intro h i qa asked st n d rd hal hnd hf hd
 apply Ybw
 simp only [Zax]
 generalize hh0:h ++ [Zby.cells Zab [.str n.1,.str n.2] false]=h0
 have s0:Zba h.length h h0:=by rw [← hh0]; exact Zam
 have p1:h0[h.length]?=some (.cells Zab [.str n.1,.str n.2] false):=by rw [← hh0]; simp
 have l0:h0.length=h.length + 1:=by rw [← hh0]; simp
 have rd0:=rd.step s0
 have hil:=rd.lt
 have hlow:=rd.low
 obtain ⟨qn,qc,qe,sa,sn,sc,se,ho,hv,hr,hsc,hdj⟩:=rd0.ob
 have hsn:st.length=sn:=by have:=hr.1; rw [Zav Zcy] at this; omega
 simp only [Zaw,Zal ho,Nat.zero_add,List.getElem?_cons_succ,List.getElem?_cons_zero,Zah]
 refine Ydw hr (k:=d) (by omega) hsc rfl fun a' c' e' hr' hc' _=>?_
 have htl:(st.take d).length=d:=by rw [List.length_take]; omega
 generalize st.take d=tk at hr' htl
 have fin:∀ (hX:Zaa) (qs cs:Nat) (es:Bool),Zba h0.length h0 hX→hX[qs]?=some (.cells Zab (Zdg eP tk ++ [.str n.1,.str n.2]) false)→h0.length≤qs→d + 1≤cs →
   Zsb (Yrq hb i (.slice a0 n0 c0 e0) (.slice a1 n1 c1 e1) sp d h qa (Zkc (wk w) sp Zns f asked n)) (some (i,0)) (d:Int) h.length hX (some (qs,0)) (d + 1) cs es:=by
  intro hX qs cs es sX hqs hle hcs
  have hrow:Row hX.length hX (some (qs,0)) ((d + 1) * 2) (Zdg eP (tk ++ [n])):=
   ⟨by rw [Zav Zcy]; simp [htl],.inr ⟨_,_,_,_,_,rfl,Own.lt hqs,hqs,by simp [Zav Zcy,htl]; omega,by
    rw [List.drop_zero,List.take_of_length_le (by simp [Zav Zcy,htl]; omega)]; simp [Zdg,eP]⟩⟩
  exact Yon r b hw sp f ih (rd0.step sX) (FrS.of_same (s0.cat sX)) hal hnd hf (by simp [htl]) (by simp) hrow (by omega) (fun q hq=>by have:=(hlow q hq).2; omega) hcs
   (sX.get p1 (Own.lt p1)) (by omega) (fun q hq=>by have:=(hlow q hq).2; omega)
 have hnn:(Zdg eP [n]).all Zat.leaf=true:=Zib (enc:=eP) (fun _=>rfl) _
 simp only [Zah,Zbb p1,Zap,Zaf,Zao,Zag]
 refine ⟨⟨?_,?_,?_,?_⟩,?_⟩
 ·rw [Zbb (Zam.get p1 (Own.lt p1))]
 ·rw [Zal (Zam.get ho (Own.lt ho))]; rfl
 ·generalize hh1:h0 ++ [Zby.cells Zab [] false]=h1
  have s1:Zba h0.length h0 h1:=by rw [← hh1]; exact Zam
  have o1:h1[h0.length]?=some (.cells Zab [] false):=by rw [← hh1]; simp
  have l1:h1.length=h0.length + 1:=by rw [← hh1]; simp
  refine Vec.app0 (n:=0) o1 Zhv Zon Zom Zoj (by simp) (hr'.same' s1).rowOf (Zib (enc:=eP) (fun _=>rfl) _) (by omega) (fun h2 hl2 hi2 hk2=>?_)
  have S2:Zba h0.length h0 h2:=⟨by omega,fun j hj=>by rw [hk2 j (by omega) (by omega)]; exact s1.eq j hj⟩
  have q2:=S2.get p1 (Own.lt p1)
  have z2:=S2.get ho (Own.lt ho)
  have s3:Zba h2.length h2 (h2 ++ [Zby.cells Zab [.str n.1,.str n.2] false]):=Zam
  have q3:=s3.get q2 (Own.lt q2)
  have z3:=s3.get z2 (Own.lt z2)
  simp only [Zah,Nat.zero_add]
  refine ⟨by rw [Zbb q2,Zbb (s1.get p1 (Own.lt p1))],by rw [Zal z2,Zal (s1.get ho (Own.lt ho))],by rw [Zal z3,Zal z2],?_⟩
  have hV:Vec Zab h2 (some (h1.length,0)) d d (Zdg eP tk):=Vec.mk1 (by simpa using hi2)
  refine hV.pushN Zhv Zon Zom Zoj (by rw [Zav Zcy,htl]) rfl (by omega) rfl (by omega) (fun h6 hl6 hi6 hk6=>?_)
  have S6:Zba h0.length h0 h6:=⟨by omega,fun j hj=>by rw [hk6 j (by omega) fun q hq=>by cases hq; omega]; exact S2.eq j hj⟩
  simp only [Zah]
  refine ⟨by rw [Zbb (S6.get p1 (Own.lt p1)),Zbb q3],by rw [Zal (S6.get ho (Own.lt ho)),Zal z3],?_⟩
  exact fin h6 _ _ _ S6 hi6 (by omega) (by omega)
 ·generalize hh1:h0 ++ [Zby.cells Zab [] false]=h1
  have s1:Zba h0.length h0 h1:=by rw [← hh1]; exact Zam
  have o1:h1[h0.length]?=some (.cells Zab [] false):=by rw [← hh1]; simp
  have l1:h1.length=h0.length + 1:=by rw [← hh1]; simp
  generalize hh2:h1 ++ [Zby.cells Zab [.str n.1,.str n.2] false]=h2
  have s2:Zba h1.length h1 h2:=by rw [← hh2]; exact Zam
  have b2:h2[h1.length]?=some (.cells Zab [.str n.1,.str n.2] false):=by rw [← hh2]; simp
  have l2:h2.length=h1.length + 1:=by rw [← hh2]; simp
  have S2:=s1.cat s2
  have o2:=s2.get o1 (Own.lt o1)
  have q2:=S2.get p1 (Own.lt p1)
  have z2:=S2.get ho (Own.lt ho)
  refine ⟨by rw [Zal z2,Zal (s1.get ho (Own.lt ho))],?_⟩
  refine Vec.app0 (n:=0) o2 Zhv Zon Zom Zoj (by simp) (hr'.same' S2).rowOf (Zib (enc:=eP) (fun _=>rfl) _) (by omega) (fun h3 hl3 hi3 hk3=>?_)
  have S3:Zba h0.length h0 h3:=⟨by omega,fun j hj=>by rw [hk3 j (by omega) (by omega)]; exact S2.eq j hj⟩
  have q3:=S3.get p1 (Own.lt p1)
  have z3:=S3.get ho (Own.lt ho)
  have b3:h3[h1.length]?=some (.cells Zab [.str n.1,.str n.2] false):=by rw [hk3 _ (Own.lt b2) (by omega)]; exact b2
  simp only [Zah,Nat.zero_add]
  refine ⟨by rw [Zbb q3,Zbb q2],by rw [Zal z3,Zal z2],?_⟩
  have hr3:Row h3.length h3 (some (h1.length,0)) (1 * 2) (Zdg eP [n]):=⟨rfl,.inr ⟨h1.length,0,_,_,_,rfl,Own.lt b3,b3,by simp,by simp [eP]⟩⟩
  have hi3:h3[h2.length]?=some (.cells Zab (Zdg eP tk) false):=by simpa using hi3
  refine Vec.app0 (n:=d) hi3 Zhv Zon Zom Zoj (by rw [Zav Zcy,htl]) hr3.rowOf hnn (by omega) (fun h6 hl6 hi6 hk6=>?_)
  have S6:Zba h0.length h0 h6:=⟨by omega,fun j hj=>by rw [hk6 j (by omega) (by omega)]; exact S3.eq j hj⟩
  simp only [Zah]
  refine ⟨by rw [Zbb (S6.get p1 (Own.lt p1)),Zbb q3],by rw [Zal (S6.get ho (Own.lt ho)),Zal z3],?_⟩
  exact fin h6 _ _ _ S6 hi6 (by omega) (by omega)
 ·generalize hh1:h0 ++ [Zby.cells Zab [.str n.1,.str n.2] false]=h1
  have s1:Zba h0.length h0 h1:=by rw [← hh1]; exact Zam
  have b1:h1[h0.length]?=some (.cells Zab [.str n.1,.str n.2] false):=by rw [← hh1]; simp
  have l1:h1.length=h0.length + 1:=by rw [← hh1]; simp
  generalize hh2:h1 ++ [Zby.cells Zab [] false]=h2
  have s2:Zba h1.length h1 h2:=by rw [← hh2]; exact Zam
  have o2:h2[h1.length]?=some (.cells Zab [] false):=by rw [← hh2]; simp
  have l2:h2.length=h1.length + 1:=by rw [← hh2]; simp
  have S2:=s1.cat s2
  have b2:=s2.get b1 (Own.lt b1)
  have q1:=s1.get p1 (Own.lt p1)
  have z1:=s1.get ho (Own.lt ho)
  have q2:=S2.get p1 (Own.lt p1)
  have z2:=S2.get ho (Own.lt ho)
  refine ⟨by rw [Zal z1]; rfl,by rw [Zbb q2,Zbb q1],by rw [Zal z2,Zal z1],?_⟩
  refine Vec.app0 (n:=0) o2 Zhv Zon Zom Zoj (by simp) (hr'.same' S2).rowOf (Zib (enc:=eP) (fun _=>rfl) _) (by omega) (fun h3 hl3 hi3 hk3=>?_)
  have S3:Zba h0.length h0 h3:=⟨by omega,fun j hj=>by rw [hk3 j (by omega) (by omega)]; exact S2.eq j hj⟩
  have q3:=S3.get p1 (Own.lt p1)
  have z3:=S3.get ho (Own.lt ho)
  have b3:h3[h0.length]?=some (.cells Zab [.str n.1,.str n.2] false):=by rw [hk3 _ (Own.lt b2) (by omega)]; exact b2
  simp only [Zah,Nat.zero_add]
  refine ⟨by rw [Zbb q3,Zbb q2],by rw [Zal z3,Zal z2],?_⟩
  have hr3:Row h3.length h3 (some (h0.length,0)) (1 * 2) (Zdg eP [n]):=⟨rfl,.inr ⟨h0.length,0,_,_,_,rfl,Own.lt b3,b3,by simp,by simp [eP]⟩⟩
  have hi3:h3[h2.length]?=some (.cells Zab (Zdg eP tk) false):=by simpa using hi3
  refine Vec.app0 (n:=d) hi3 Zhv Zon Zom Zoj (by rw [Zav Zcy,htl]) hr3.rowOf hnn (by omega) (fun h6 hl6 hi6 hk6=>?_)
  have S6:Zba h0.length h0 h6:=⟨by omega,fun j hj=>by rw [hk6 j (by omega) (by omega)]; exact S3.eq j hj⟩
  simp only [Zah]
  refine ⟨by rw [Zbb (S6.get p1 (Own.lt p1)),Zbb q3],by rw [Zal (S6.get ho (Own.lt ho)),Zal z3],?_⟩
  exact fin h6 _ _ _ S6 hi6 (by omega) (by omega)
theorem Yhk {hb:Zaa} {a0 a1:Pt} {n0 c0 n1 c1:Nat} {e0 e1:Bool} {w:Wd} (r:Zlz hb a0 n0 c0 a1 n1 c1 w) (b:WB w) (hw:Zdv w=true) (sp:Bool):∀ f,Yoz f hb a0 a1 n0 c0 n1 c1 e0 e1 w sp
 | 0=>Ycn r b hw sp 0 fun f' h=>by omega
 | f + 1=>Ycn r b hw sp (f + 1) fun f' h=>by cases h; exact Yhk r b hw sp f
theorem Yal {h:Zaa} {a0 a1:Pt} {n0 c0 n1 c1:Nat} {e0 e1:Bool} {w:Wd} {nd:Nd} {sp:Bool} (r:Zlz h a0 n0 c0 a1 n1 c1 w) (b:WB w) (hnt:nd.2.length≤1048576) :
  Zaj pg Zlo [.agg [.slice a0 n0 c0 e0,.slice a1 n1 c1 e1],.agg [.str nd.1,.str nd.2],.bool sp] h fun x h'=>∃ i x3 sa sn sc se st,x=.tup [.ptr (some (i,0)),.str (Zzs (Zhs w nd sp)),.bool (Zdv w && Zfp w nd)]∧Zba h.length h h' ∧
   h'[i]?=some (.cells Zcx [.slice a0 n0 c0 e0,.slice a1 n1 c1 e1,.bool sp,x3,.slice sa sn sc se,.str (Yer (Zhs w nd sp))] false)∧h.length≤i∧((Zdv w && Zfp w nd)=true→Row h'.length h' sa (sn * 2) (Zdg eP st)∧sn≤32∧∀ y m,Zhs w nd sp=.no y m→y≠[]∧st.getLast?=some m):=by
 apply Zsw.call
 simp only [Zax]
 generalize hh0:h ++ [Zby.cells Zad [.slice a0 n0 c0 e0,.slice a1 n1 c1 e1] false]=h0
 generalize hh1:h0 ++ [Zby.cells Zab [.str nd.1,.str nd.2] false]=h1
 have s0:Zba h.length h h0:=by rw [← hh0]; exact Zam
 have s1:Zba h0.length h0 h1:=by rw [← hh1]; exact Zam
 have w0:h0[h.length]?=some (Zmp a0 n0 c0 e0 a1 n1 c1 e1):=by rw [← hh0]; simp [Zmp]
 have w1:=s1.get w0 (Own.lt w0)
 have p1:h1[h0.length]?=some (.cells Zab [.str nd.1,.str nd.2] false):=by rw [← hh1]; simp
 have l1:h1.length=h0.length + 1:=by rw [← hh1]; simp
 have l0:h0.length=h.length + 1:=by rw [← hh0]; simp
 rw [Zwj w1]
 simp only [Zap,Zaf,Zao,Zah]
 generalize hh2:h1 ++ [Zby.cells Zab [] false]=h2
 have s2:Zba h1.length h1 h2:=by rw [← hh2]; exact Zam
 have o2:h2[h1.length]?=some (.cells Zab [] false):=by rw [← hh2]; simp
 have l2:h2.length=h1.length + 1:=by rw [← hh2]; simp
 generalize hh3:h2 ++ [Zby.cells Zab [] false]=h3
 have s3:Zba h2.length h2 h3:=by rw [← hh3]; exact Zam
 have o3:h3[h2.length]?=some (.cells Zab [] false):=by rw [← hh3]; simp
 have l3:h3.length=h2.length + 1:=by rw [← hh3]; simp
 generalize hh4:h3 ++ [Zby.cells Zcx [.slice a0 n0 c0 e0,.slice a1 n1 c1 e1,.bool sp,.slice (some (h1.length,0)) 0 0 true,.slice (some (h2.length,0)) 0 0 true,.str []] false]=h4
 have s4:Zba h3.length h3 h4:=by rw [← hh4]; exact Zam
 have z4:h4[h3.length]?=some (.cells Zcx [.slice a0 n0 c0 e0,.slice a1 n1 c1 e1,.bool sp,.slice (some (h1.length,0)) 0 0 true,.slice (some (h2.length,0)) 0 0 true,.str []] false):=by rw [← hh4]; simp
 have S14:=(s2.cat s3).cat s4
 have S4:=(s0.cat s1).cat S14
 have w4:=S14.get w1 (Own.lt w1)
 have p4:=S14.get p1 (Own.lt p1)
 have e4:=(s3.cat s4).get o2 (Own.lt o2)
 rw [Zwj w4,Zbb p4]
 simp only [Zap,Zaf,Zao,Zah,Zag]
 refine (Zvw (ct:=nd.1) (tt:=nd.2) (r.same S4) b hnt).mono ?_
 rintro v h5 ⟨rfl,s5⟩
 have S5:=S4.cat s5
 have p5:=s5.get p4 (Own.lt p4)
 have e5:=s5.get e4 (Own.lt e4)
 have z5:=s5.get z4 (Own.lt z4)
 have le5:=S5.le
 have rd:Zuv h h3.length (.slice a0 n0 c0 e0) (.slice a1 n1 c1 e1) sp h5 (some (h1.length,0)) [] [] []:=
  ⟨S5,by omega,⟨0,0,true,some (h2.length,0),0,0,true,z5,⟨Vec.mk1 e5,rfl,fun q hq=>by cases hq; omega⟩,by simpa using Row.nil,by omega,fun j o hn=>absurd rfl hn⟩,fun q hq=>by cases hq; omega⟩
 simp only [Zaq]
 refine Zbs (fun hc=>?_) (fun hc=>?_)
 ·have hf:Zhs w nd sp=.no Zwi ([],[]):=by unfold Zhs; rw [hc]; rfl
  refine rd.reason _ fun h6 rd6 F6=>?_
  obtain ⟨qn,qc,qe,sa,sn,sc,se,ho,_⟩:=rd6.ob
  rw [hc,hf]
  exact ⟨h3.length,_,sa,sn,sc,se,[],rfl,rd6.same,ho,by omega,fun hc=>by cases hc⟩
 rw [Zbb p5]
 simp only [Zap,Zaf,Zao,Zag]
 have hc':=hc
 simp only [Bool.and_eq_true] at hc'
 refine (Yhk r b hc'.1 sp 31 (n:=nd) (d:=0) rd (by simp) hc'.2 (by omega) (by simp)).mono ?_
 rintro v h6 ⟨rfl,qa,st,rd6,F6,hst,_,hno⟩
 have hf:Zhs w nd sp=(Zkc (wk w) sp Zns 31 [] nd).1:=by unfold Zhs; rw [hc]; rfl
 obtain ⟨qn,qc,qe,sa,sn,sc,se,ho,_,hr,_⟩:=rd6.ob
 have hsl:st.length=sn:=by have:=hr.1; rw [Zav Zcy] at this; omega
 simp only [Zag]
 rw [hc,hf]
 exact ⟨h3.length,_,sa,sn,sc,se,st,rfl,rd6.same,ho,by omega,fun _=>⟨hr,by omega,hno⟩⟩
theorem Zyo {h:Zaa} {a0 a1:Pt} {n0 c0 n1 c1:Nat} {e0 e1:Bool} {w:Wd} {nd:Nd} (r:Zlz h a0 n0 c0 a1 n1 c1 w) (b:WB w) (hnt:nd.2.length≤1048576) :
  Zaj pg Zkw [.agg [.slice a0 n0 c0 e0,.slice a1 n1 c1 e1],.agg [.str nd.1,.str nd.2]] h (Ygy w nd true h):=by
 apply Zok.call
 simp only [Zax]
 generalize hh0:h ++ [Zby.cells Zad [.slice a0 n0 c0 e0,.slice a1 n1 c1 e1] false]=h0
 generalize hh1:h0 ++ [Zby.cells Zab [.str nd.1,.str nd.2] false]=h1
 have s0:Zba h.length h h0:=by rw [← hh0]; exact Zam
 have s1:Zba h0.length h0 h1:=by rw [← hh1]; exact Zam
 have w0:h0[h.length]?=some (Zmp a0 n0 c0 e0 a1 n1 c1 e1):=by rw [← hh0]; simp [Zmp]
 have w1:=s1.get w0 (Own.lt w0)
 have p1:h1[h0.length]?=some (.cells Zab [.str nd.1,.str nd.2] false):=by rw [← hh1]; simp
 rw [Zwj w1,Zbb p1]
 simp only [Zap,Zaf,Zao,Zah,Zag]
 refine (Yal (r.same (s0.cat s1)) b hnt).mono ?_
 rintro v h2 ⟨i,x3,sa,sn,sc,se,st,rfl,s2,ho,_⟩
 simp only [Zcj,Zaf,Zeh,Zag,Zao,Zaq,Zaw,Zal ho,Nat.zero_add,List.getElem?_cons_succ,List.getElem?_cons_zero]
 exact ⟨rfl,(s0.cat s1).cat s2⟩
end Go.Sim

set_option linter.unusedVariables false
set_option linter.unusedSimpArgs false
set_option maxRecDepth 20000
namespace Go.Sim
open Go Go.RowKit

def eB (b:Nat):List Zat:=[.int .u8 (b:Int)]
theorem Ydu (x:Nat):(eB x).length=1:=rfl
def Rdr (h:Zaa) (i p:Nat):Prop:=∃ a n c e,∃ l:List Nat,h[i]?=some (.cells Zoi [.slice a n c e,.int .i64 (p:Int)] false)∧Row i h a n (Zdg eB l)∧(∀ b∈l,b < 256)∧n≤2000
theorem Rdr.agree {h h':Zaa} {i p:Nat} (r:Rdr h i p) (hh:∀ j,j≤i→h'[j]?=h[j]?) (hl:h.length≤h'.length):Rdr h' i p:=by
 obtain ⟨a,n,c,e,l,hi,hr,hb,hn⟩:=r
 exact ⟨a,n,c,e,l,by rw [hh i (Nat.le_refl _)]; exact hi,hr.same ⟨hl,fun j hj=>hh j (by omega)⟩,hb,hn⟩
theorem Rdr.lt {h:Zaa} {i p:Nat} (r:Rdr h i p):i < h.length:=by obtain ⟨a,n,c,e,l,hi,_⟩:=r; exact Own.lt hi
theorem Rdr.same {h h':Zaa} {i p:Nat} (r:Rdr h i p) (s:Zba h.length h h'):Rdr h' i p:=r.agree (fun j hj=>s.eq j (by have:=r.lt; omega)) s.le
theorem Rdr.app {h:Zaa} {i p:Nat} (r:Rdr h i p) (l:Zaa):Rdr (h ++ l) i p:=r.same (Zba.app (Nat.le_refl _) _)
theorem Yiw {h:Zaa} {a:Pt} {n c:Nat} {e:Bool} {l:List Nat} (r:Row h.length h a n (Zdg eB l)) (hb:∀ b∈l,b < 256) (hnc:n≤c):Zaj pg Zjh [.slice a n c e] h fun v h'=>v=.ptr (some (h.length,0))∧Zba h.length h h'∧Rdr h' h.length 0∧h'.length=h.length + 1:=by
 have hl:l.length=n:=by have:=r.1; rw [Zav Ydu] at this; omega
 apply Zls.call
 have fin:∀ (a:Pt) (n c:Nat) (e:Bool) (l:List Nat),Row h.length h a n (Zdg eB l)→(∀ b∈l,b < 256)→n≤2000→Zls.J3 (fun v h'=>v=.ptr (some (h.length,0))∧Zba h.length h h'∧Rdr h' h.length 0∧h'.length=h.length + 1) a n c e h:=by
  intro a n c e l r hb hn
  apply Zls.J3i
  simp only [Zax]
  exact ⟨by trivial,Zba.app (Nat.le_refl _) _,⟨a,n,c,e,l,by simp,r.same (Zba.app (Nat.le_refl _) _),hb,hn⟩,by simp⟩
 refine Zau (fun hgt=>?_) (fun hle=>fin a n c e l r hb (by omega))
 have hcut:Row h.length h a 2000 (Zdg eB (l.take 2000)):=by
  obtain ⟨h1,h2⟩:=r
  have hlen:(Zdg eB (l.take 2000)).length=2000:=by rw [Zav Ydu,List.length_take]; omega
  refine ⟨hlen,.inr ?_⟩
  rcases h2 with h0 | ⟨i,o,t,all,ro,ha,hi,hg,hle,hcs⟩
  ·omega
  ·refine ⟨i,o,t,all,ro,ha,hi,hg,by omega,?_⟩
   have:=Ygf (enc:=eB) Ydu l 2000
   rw [Nat.mul_one] at this
   rw [← this,hcs,List.take_take,Nat.min_eq_left (by omega)]
 obtain ⟨_,h2⟩:=r
 rcases h2 with h0 | ⟨i,o,t,all,ro,ha,hi,hg,hle,hcs⟩
 ·omega
 ·subst ha
  simp only [Zhr,Zkp]
  refine ⟨by omega,fun hlt=>?_,fun hno=>by omega⟩
  simp only [Zah]
  have e1:o + Int.toNat 0 * 1=o:=by simp
  have e2:((2000:Int) - 0).toNat=2000:=by omega
  rw [e1,e2]
  exact fin _ _ _ _ _ hcut (fun b hb'=>hb b (List.mem_of_mem_take hb')) (by omega)
theorem Ytu {x:Int} (h0:0≤x) (h1:x < 4611686018427387904):0≤IntKind.wrap .i64 ((BitVec.ofInt (IntKind.bits .i64) x ^^^ BitVec.ofInt (IntKind.bits .i64) (IntKind.wrap .i64 (Int.tdiv x 64))).toNat):=by
 obtain ⟨n,rfl⟩:∃ n:Nat,x=n:=⟨x.toNat,by omega⟩
 have hd:Int.tdiv (n:Int) 64=((n / 64:Nat):Int):=by rw [Int.tdiv_eq_ediv_of_nonneg (by omega)]; omega
 rw [hd,IntWalk.i64_in ((n / 64:Nat):Int) (by omega)]
 have hx:((BitVec.ofInt (IntKind.bits .i64) (n:Int)) ^^^ (BitVec.ofInt (IntKind.bits .i64) ((n / 64:Nat):Int))).toNat=n ^^^ (n / 64):=by
  rw [BitVec.toNat_xor,BitVec.toNat_ofInt,BitVec.toNat_ofInt]
  have e1:((n:Int) % ((2 ^ (IntKind.bits .i64):Nat):Int)).toNat=n:=by simp only [IntKind.bits]; omega
  have e2:(((n / 64:Nat):Int) % ((2 ^ (IntKind.bits .i64):Nat):Int)).toNat=n / 64:=by simp only [IntKind.bits]; omega
  rw [e1,e2]
 rw [hx]
 have hlt:n ^^^ (n / 64) < 2 ^ 62:=Nat.xor_lt_two_pow (by omega) (by omega)
 rw [IntWalk.i64_in _ (by omega)]; omega
theorem Zvk {x n:Int} (h0:0≤x) (hn:1≤n):0≤Int.tmod x n∧Int.tmod x n < n:=by
 rw [Int.tmod_eq_emod_of_nonneg h0]; exact ⟨Int.emod_nonneg _ (by omega),Int.emod_lt_of_pos _ (by omega)⟩
theorem Zdc {h:Zaa} {i p:Nat} (r:Rdr h i p) (hp:p≤1000000000000) (n:Int):Zaj pg Zbe [.ptr (some (i,0)),.int .i64 n] h fun v h'=>
  ∃ x,v=.int .i64 x∧0≤x∧(1≤n→x < n)∧(n < 1→x=0)∧Zec i h h'∧Rdr h' i (p + 1)∧h'.length=h.length:=by
 obtain ⟨a,m,c,e,l,hi,hr,hb,hm⟩:=r
 have hl:l.length=m:=by have:=hr.1; rw [Zav Ydu] at this; omega
 apply Zlm.call
 simp only [Zaw,Zal hi,Nat.zero_add,List.getElem?_cons_zero,List.getElem?_cons_succ,Zas]
 rw [IntWalk.i64_in _ (by omega),Zbd hi (by simp)]
 simp only [Zar]
 generalize hge:h.set i (Zby.cells Zoi (putRow [.slice a m c e,.int .i64 (p:Int)] 1 [.int .i64 ((p:Int) + 1)]) false)=h2
 have h2i:h2[i]?=some (.cells Zoi [.slice a m c e,.int .i64 ((p:Int) + 1)] false):=by rw [← hge,Zbx hi]; simp [putRow]
 have hK:Zec i h h2:=by rw [← hge]; exact Zec.set _ _ _
 have h2l:h2.length=h.length:=by rw [← hge]; simp
 have hr2:Row i h2 a m (Zdg eB l):=hr.same ⟨by omega,fun j hj=>by rw [← hge,Zbp (by omega)]⟩
 have hR2:Rdr h2 i (p + 1):=⟨a,m,c,e,l,by rw [h2i]; simp,hr2,hb,hm⟩
 refine Zau (fun hlt=>⟨0,rfl,by omega,by omega,fun _=>rfl,hK,hR2,h2l⟩) (fun hge1=>?_)
 simp only [Zal h2i,Nat.zero_add,List.getElem?_cons_zero,Zah]
 refine Zcq (fun h0=>⟨0,rfl,by omega,by omega,fun _=>rfl,hK,hR2,h2l⟩) (fun hne=>?_)
 have hm0:0 < m:=by omega
 have cell:∀ k,k < m→∃ ii o,∃ hk:k < l.length,a=some (ii,o)∧Zae h2 (.ptr (some (ii,o + k * 1)))=some (.int .u8 (l[k]:Int)):=by
  intro k hk
  obtain ⟨ii,o,hk',ha,_,hc⟩:=Row.el1 Ydu hr2 hk
  exact ⟨ii,o,hk',ha,hc⟩
 apply Zlm.J4i
 simp only [Zaw,Zal h2i,Nat.zero_add,List.getElem?_cons_zero,List.getElem?_cons_succ,Zas,Zah]
 rw [show (p:Int) + 1 - 1=p by omega,IntWalk.i64_in (p:Int) (by omega)]
 refine Zau (fun hlt=>?_) (fun hge2=>?_)
 ·obtain ⟨ii,o,hk,rfl,hc⟩:=cell p (by omega)
  simp only [Zaw,Int.toNat_natCast,hc,Zas]
  have hbb:=hb _ (List.getElem_mem hk)
  rw [IntWalk.i64_in _ (by omega)]
  have:=Zvk (x:=(l[p]:Int)) (n:=n) (by omega) (by omega)
  exact ⟨by omega,by omega,_,rfl,this.1,fun _=>this.2,by omega,hK,hR2,h2l⟩
 ·have t1:=Zvk (x:=(p:Int)) (n:=(m:Int)) (by omega) (by omega)
  have e1:Int.tmod (p:Int) (m:Int)=((p % m:Nat):Int):=by rw [Int.tmod_eq_emod_of_nonneg (by omega)]; omega
  have e2:IntKind.wrap .i64 ((p:Int) * 7)=((p * 7:Nat):Int):=by rw [IntWalk.i64_in _ (by omega)]; omega
  have e3:IntKind.wrap .i64 (((p * 7:Nat):Int) + 3)=((p * 7 + 3:Nat):Int):=by rw [IntWalk.i64_in _ (by omega)]; omega
  have e4:Int.tmod ((p * 7 + 3:Nat):Int) (m:Int)=(((p * 7 + 3) % m:Nat):Int):=by rw [Int.tmod_eq_emod_of_nonneg (by omega)]; omega
  rw [e1,e2,e3,e4]
  obtain ⟨ii,o,hk,rfl,hc⟩:=cell (p % m) (Nat.mod_lt _ hm0)
  obtain ⟨ii',o',hk',ha',hc'⟩:=cell ((p * 7 + 3) % m) (Nat.mod_lt _ hm0)
  obtain ⟨rfl,rfl⟩:ii=ii'∧o=o':=by simpa using ha'
  have b1:=hb _ (List.getElem_mem hk)
  have b2:=hb _ (List.getElem_mem hk')
  have m1:=Nat.mod_lt p hm0
  have m2:=Nat.mod_lt (p * 7 + 3) hm0
  simp only [Zaw,Int.toNat_natCast,hc,hc',Zas]
  refine ⟨by omega,by omega,by omega,by omega,by trivial,by trivial,by trivial,by trivial,by trivial,by trivial,by omega,by omega,by omega,?_⟩
  have e5:Int.tdiv (p:Int) (m:Int)=((p / m:Nat):Int):=by rw [Int.tdiv_eq_ediv_of_nonneg (by omega)]; omega
  have m3:p / m≤p:=Nat.div_le_self _ _
  generalize hA:((l[p % m]:Nat):Int)=A
  generalize hB:((l[(p * 7 + 3) % m]:Nat):Int)=B
  have hD1:0≤((p / m:Nat):Int)∧((p / m:Nat):Int)≤(p:Int):=⟨Int.natCast_nonneg _,Int.ofNat_le.2 m3⟩
  generalize ((p / m:Nat):Int)=D at e5 hD1
  have hA1:0≤A∧A < 256:=by omega
  have hB1:0≤B∧B < 256:=by omega
  rw [e5,IntWalk.i64_in A (by omega),IntWalk.i64_in B (by omega),IntWalk.i64_in (A * 131) (by omega),IntWalk.i64_in (B * 1117) (by omega),IntWalk.i64_in (A * 131 + B * 1117) (by omega),IntWalk.i64_in ((p:Int) * 29) (by omega),
   IntWalk.i64_in (A * 131 + B * 1117 + (p:Int) * 29) (by omega),IntWalk.i64_in D (by omega),IntWalk.i64_in (D * 53) (by omega),IntWalk.i64_in (A * 131 + B * 1117 + (p:Int) * 29 + D * 53) (by omega)]
  have hx:=Ytu (x:=A * 131 + B * 1117 + (p:Int) * 29 + D * 53) (by omega) (by omega)
  have:=Zvk hx (by omega:1≤n)
  exact ⟨_,rfl,this.1,fun _=>this.2,by omega,hK,hR2,h2l⟩
theorem Yqs {h:Zaa} {i p j n c:Nat} {e:Bool} {t:TypeId} {l:List Int} (r:Rdr h i p) (hp:p≤1000000000000) (hj:h[j]?=some (.cells t (Zdg eI l) false)) (hji:j≠i) (hn:l.length=n) (h0:1≤n) :
  Zaj pg Zep [.ptr (some (i,0)),.slice (some (j,0)) n c e] h fun v h'=>∃ x∈l,v=.int .i64 x∧Zec i h h'∧Rdr h' i (p + 1)∧h'.length=h.length:=by
 apply Zqs.call
 refine (Zdc r hp n).mono ?_
 rintro v h2 ⟨x,rfl,h0x,hlt,_,hK,hR,hl⟩
 simp only [Zas,Zaw]
 have hlt:=hlt (by omega)
 obtain ⟨k,rfl⟩:∃ k:Nat,x=k:=⟨x.toNat,by omega⟩
 have hj2:h2[j]?=some (.cells t (Zdg eI l) false):=by rw [hK.eq j (Own.lt hj) hji]; exact hj
 have hrow:Row h2.length h2 (some (j,0)) n (Zdg eI l):=⟨by rw [Zav Znk]; omega,.inr ⟨j,0,t,_,false,rfl,Own.lt hj2,hj2,by rw [Zav Znk]; omega,by rw [List.drop_zero,List.take_of_length_le (by rw [Zav Znk]; omega)]⟩⟩
 obtain ⟨ii,o,hk,ha,_,hc⟩:=Row.el1 Znk hrow (k:=k) (by omega)
 cases ha
 rw [Int.toNat_natCast,hc]
 simp only [eI,List.getElem?_cons_zero,Zas]
 exact ⟨by omega,l[k],List.getElem_mem hk,rfl,hK,hR,hl⟩
theorem Zmn {h:Zaa} {i p j n c:Nat} {e:Bool} {t:TypeId} {l:List (List Nat)} (r:Rdr h i p) (hp:p≤1000000000000) (hj:h[j]?=some (.cells t (Zdg eS l) false)) (hji:j≠i) (hn:l.length=n) (h0:1≤n) :
  Zaj pg Zcd [.ptr (some (i,0)),.slice (some (j,0)) n c e] h fun v h'=>∃ x∈l,v=.str x∧Zec i h h'∧Rdr h' i (p + 1)∧h'.length=h.length:=by
 apply Zrg.call
 refine (Zdc r hp n).mono ?_
 rintro v h2 ⟨x,rfl,h0x,hlt,_,hK,hR,hl⟩
 simp only [Zas,Zaw]
 have hlt:=hlt (by omega)
 obtain ⟨k,rfl⟩:∃ k:Nat,x=k:=⟨x.toNat,by omega⟩
 have hj2:h2[j]?=some (.cells t (Zdg eS l) false):=by rw [hK.eq j (Own.lt hj) hji]; exact hj
 have hrow:Row h2.length h2 (some (j,0)) n (Zdg eS l):=⟨by rw [Zav Zma]; omega,.inr ⟨j,0,t,_,false,rfl,Own.lt hj2,hj2,by rw [Zav Zma]; omega,by rw [List.drop_zero,List.take_of_length_le (by rw [Zav Zma]; omega)]⟩⟩
 obtain ⟨ii,o,hk,ha,_,hc⟩:=Row.el1 Zma hrow (k:=k) (by omega)
 cases ha
 rw [Int.toNat_natCast,hc]
 simp only [eS,List.getElem?_cons_zero,Zag]
 exact ⟨by omega,l[k],List.getElem_mem hk,rfl,hK,hR,hl⟩
theorem Rdr.keep {h h':Zaa} {i p:Nat} (r:Rdr h i p) (hh:∀ j,j≤i→h'[j]?=h[j]?) (hl:h.length≤h'.length):Rdr h' i p:=r.agree hh hl
end Go.Sim

set_option linter.unusedVariables false
set_option linter.unusedSimpArgs false
set_option maxRecDepth 20000
namespace Go.Sim
open Go Go.RowKit

theorem Yic {h:Zaa} {i p:Nat} (r:Rdr h i p) (hp:p≤1000000000000) (g:Bool) (Q:QT) (hQ:∀ c h',Zmm c=true→Zec i h h'→Rdr h' i (p + 1)→Q (.str [c]) h') :
  bcase g (Zch (h ++ [.cells Zbh [.str [105],.str [98],.str [105],.str [117]] false]) fun h_0=>Zaj pg Zcd [.ptr (some (i,0)),.slice (some (List.length h,0)) 4 4 true] h_0 fun v_1 h_2=>
 Zbc (some v_1) fun s_3=>Q (.str s_3) h_2) (Zch (h ++ [.cells Zbh [.str [120],.str [105],.str [121],.str [98],.str [120],.str [122],.str [117]] false]) fun h_4=>Zaj pg Zcd [.ptr (some (i,0)),.slice (some (List.length h,0)) 7 7 true] h_4 fun v_5 h_6=>
 Zbc (some v_5) fun s_7=>Q (.str s_7) h_6):=by
 have hil:=r.lt
 have go:∀ (l:List (List Nat)) (n:Nat),l.length=n→1≤n→(∀ x∈l,∃ c,x=[c]∧Zmm c=true)→Zch (h ++ [.cells Zbh (Zdg eS l) false]) fun h_0=>Zaj pg Zcd [.ptr (some (i,0)),.slice (some (List.length h,0)) n n true] h_0 fun v_1 h_2=>Zbc (some v_1) fun s_3=>Q (.str s_3) h_2:=by
  intro l n hn h1 hl
  simp only [Zax]
  refine (Zmn (r.app _) hp (j:=h.length) (t:=Zbh) (l:=l) (by simp) (by omega) hn h1).mono ?_
  rintro v h2 ⟨x,hx,rfl,hK,hR,_⟩
  obtain ⟨c,rfl,hc⟩:=hl x hx
  simp only [Zag]
  exact hQ c h2 hc ((Zec.app i h _).trans hK) hR
 cases g with
 | true=>exact go [[105],[98],[105],[117]] 4 rfl (by omega) (by intro x hx; simp at hx; rcases hx with rfl | rfl | rfl | rfl <;> exact ⟨_,rfl,rfl⟩)
 | false=>exact go [[120],[105],[121],[98],[120],[122],[117]] 7 rfl (by omega) (by intro x hx; simp at hx; rcases hx with rfl | rfl | rfl | rfl | rfl | rfl | rfl <;> exact ⟨_,rfl,rfl⟩)
def DrQ (i p d:Nat) (h:Zaa) (v:Zat) (h':Zaa):Prop:=∃ t:Ty,v=.str t.txt∧t.ok=true∧t.txt.length≤4 ^ (d + 1)∧Zec i h h'∧∃ p',p≤p'∧p'≤p + 4 ^ (d + 1)∧Rdr h' i p'
theorem Zur:∀ (d:Nat),d≤8→∀ {h:Zaa} {i p:Nat},Rdr h i p→p + 4 ^ (d + 1)≤1000000000000→∀ (g:Bool),Zaj pg Zeu [.ptr (some (i,0)),.int .i64 (d:Int),.bool g] h (DrQ i p d h):=by
 intro d
 induction d with
 | zero=>
  intro _ h i p r hp g
  apply Zmv.call
  refine Zcq (fun _=>?_) (fun hne=>absurd rfl hne)
  exact Yic r (by omega) g (DrQ i p 0 h) fun c h' hc hK hR=>⟨.k c,rfl,by simpa [Ty.ok] using hc,by simp [Ty.txt],hK,p + 1,by omega,by omega,hR⟩
 | succ d ih=>
  intro hd h i p r hp g
  have hB:4 ^ (d + 1 + 1)=4 * 4 ^ (d + 1):=by rw [Nat.pow_succ]; omega
  have hB1:4≤4 ^ (d + 1):=by rw [Nat.pow_succ]; have:=Nat.one_le_two_pow (n:=0); have:1≤4 ^ d:=Nat.one_le_pow _ _ (by omega); omega
  have hB2:4 ^ (d + 1)≤1000000000000:=by omega
  generalize hBB:4 ^ (d + 1)=B at *
  apply Zmv.call
  refine Zcq (fun he=>by omega) (fun _=>?_)
  refine (Zdc r (by omega) 3).mono ?_
  rintro v h1 ⟨x,rfl,hx0,hx1,_,K1,R1,_⟩
  simp only [Zas]
  refine Zcq (fun _=>?_) (fun _=>?_)
  ·exact Yic R1 (by omega) g (DrQ i p (d + 1) h) fun c h' hc hK hR=>⟨.k c,rfl,by simpa [Ty.ok] using hc,by rw [hB]; simp [Ty.txt]; omega,K1.trans hK,p + 1 + 1,by omega,by omega,hR⟩
  ·apply Zmv.J5i
   refine (Zdc R1 (by omega) 4).mono ?_
   rintro v h2 ⟨x,rfl,hx0,hx1,_,K2,R2,_⟩
   have hw:IntKind.wrap .i64 (((d + 1:Nat):Int) - 1)=(d:Int):=by rw [IntWalk.i64_in _ (by omega)]; omega
   have K12:=K1.trans K2
   simp only [Zas]
   rw [hw]
   have one:∀ (c:Nat),(c=109 ∨ c=108)→Zaj pg Zeu [.ptr (some (i,0)),.int .i64 (d:Int),.bool g] h2 fun v_28 h_29=>
     Zbc (some v_28) fun s_30=>List.length ([c,40]) + List.length s_30≤9223372036854775807∧(List.length (([c,40]) ++ s_30) + List.length [41]≤9223372036854775807∧(DrQ i p (d + 1) h (.str ((([c,40]) ++ s_30) ++ [41])) h_29)):=by
    intro c hc
    refine (ih (by omega) R2 (by omega) g).mono ?_
    rintro v h3 ⟨t,rfl,hok,hlen,K3,p3,hp1,hp2,R3⟩
    rw [hBB] at hlen hp2
    simp only [Zag]
    refine ⟨by simp; omega,by simp; omega,.u c t,by simp [Ty.txt],?_,?_,K12.trans K3,p3,by omega,by omega,R3⟩
    ·simp only [Ty.ok,hok,Bool.and_true]; rcases hc with rfl | rfl <;> rfl
    ·rw [hB]; simp [Ty.txt]; omega
   refine Zcq (fun _=>?_) (fun _=>Zcq (fun _=>one 109 (.inl rfl)) (fun _=>one 108 (.inr rfl)))
   refine (ih (by omega) R2 (by omega) g).mono ?_
   rintro v h3 ⟨t,rfl,hok,hlen,K3,p3,hp1,hp2,R3⟩
   rw [hBB] at hlen hp2
   simp only [Zag]
   refine ⟨by simp; omega,by simp; omega,?_⟩
   refine (ih (by omega) R3 (by omega) g).mono ?_
   rintro v h4 ⟨t2,rfl,hok2,hlen2,K4,p4,hp3,hp4,R4⟩
   rw [hBB] at hlen2 hp4
   simp only [Zag]
   refine ⟨by simp; omega,by simp; omega,.w 112 t t2,by simp [Ty.txt],by simp [Ty.ok,hok,hok2],?_,(K12.trans K3).trans K4,p4,by omega,by omega,R4⟩
   rw [hB]; simp [Ty.txt]; omega
def TxQ (i p:Nat) (h:Zaa) (v:Zat) (h':Zaa):Prop:=∃ s:List Nat,v=.str s∧s.length≤1000∧Zec i h h'∧∃ p',p≤p'∧p'≤p + 1000∧Rdr h' i p'
theorem Ygq (s:List Nat) (a b:Int):(sub s a b).length≤s.length:=by unfold sub; simp; omega
theorem Ypy {h:Zaa} {i p:Nat} (r:Rdr h i p) (hp:p≤900000000000):Zaj pg Zra [.ptr (some (i,0))] h (TxQ i p h):=by
 apply Zvv.call
 refine (Zdc r (by omega) 4).mono ?_
 rintro v h1 ⟨x,rfl,hx0,hx1,_,K1,R1,_⟩
 have hx1:=hx1 (by omega)
 simp only [Zas]
 refine (Zdc R1 (by omega) 2).mono ?_
 rintro v h2 ⟨y,rfl,hy0,hy1,_,K2,R2,_⟩
 simp only [Zas]
 obtain ⟨d,rfl⟩:∃ d:Nat,x=d:=⟨x.toNat,by omega⟩
 have hd:d≤3:=by omega
 have hB:4 ^ (d + 1)≤256:=by
  have:d=0 ∨ d=1 ∨ d=2 ∨ d=3:=by omega
  rcases this with rfl | rfl | rfl | rfl <;> decide
 refine (Zur d (by omega) R2 (by omega) _).mono ?_
 rintro v h3 ⟨t,rfl,hok,hlen,K3,p3,hp1,hp2,R3⟩
 generalize ht:t.txt=s at hlen
 have K13:=(K1.trans K2).trans K3
 simp only [Zag]
 refine (Zdc R3 (by omega) 16).mono ?_
 rintro v h4 ⟨z,rfl,hz0,hz1,_,K4,R4,_⟩
 have K14:=K13.trans K4
 simp only [Zas]
 refine Zau (fun _=>⟨s,rfl,by omega,K14,p3 + 1,by omega,by omega,R4⟩) (fun _=>?_)
 have hs1:1≤s.length:=by rw [← ht]; obtain ⟨y,hy⟩:=t.txt_cons; rw [hy]; simp
 refine (Zdc R4 (by omega) (s.length:Nat)).mono ?_
 rintro v h5 ⟨k,rfl,hk0,hk1,_,K5,R5,_⟩
 have hk1:=hk1 (by omega)
 simp only [Zas]
 refine ⟨by omega,?_⟩
 simp only [Zax]
 have hil:=R5.lt
 refine (Zmn (R5.app _) (by omega) (j:=h5.length) (t:=Zbh) (n:=7) (l:=[[],[40],[41],[44],[105],[113],[88]]) (by simp [Zdg,eS]) (by omega) rfl (by omega)).mono ?_
 rintro v h6 ⟨w,hw,rfl,K6,R6,_⟩
 have K16:=((K14.trans K5).trans (Zec.app i h5 _)).trans K6
 have hwl:w.length≤1:=by simp at hw; rcases hw with rfl | rfl | rfl | rfl | rfl | rfl | rfl <;> simp
 simp only [Zag]
 have hs1:=Ygq s 0 k
 refine ⟨by omega,?_⟩
 refine (Zdc R6 (by omega) 2).mono ?_
 rintro v h7 ⟨u,rfl,hu0,hu1,_,K7,R7,_⟩
 have hu1:=hu1 (by omega)
 simp only [Zas]
 rw [IntWalk.i64_in (k + u) (by omega)]
 have hs2:=Ygq s (k + u) s.length
 refine ⟨by omega,by simp; omega,_,rfl,by simp; omega,K16.trans K7,_,?_,?_,R7⟩ <;> omega
theorem Yhl:∀ (vs:List Nat) (ts:List Ty),vs.Nodup→∀ k (hk:k < vs.length),k < ts.length→Zgm (vs.zip ts) vs[k]=ts[k]?
 | [],_,_,k,hk,_=>by simp at hk
 | v :: vs,[],_,k,_,h=>by simp at h
 | v :: vs,t :: ts,hn,0,_,_=>by simp [Zgm]
 | v :: vs,t :: ts,hn,k + 1,hk,h=>by
  have h1:=List.nodup_cons.1 hn
  have hk':k < vs.length:=by simpa using hk
  have hne:v≠vs[k]:=fun e=>h1.1 (e ▸ List.getElem_mem hk')
  simp only [List.zip_cons_cons,Zgm,List.getElem_cons_succ,if_neg hne,List.getElem?_cons_succ]
  exact Yhl vs ts h1.2 k hk' (by simpa using h)
theorem Ykw:∀ {m:Bd} {v:Nat} {u:Ty},Zgm m v=some u→(v,u)∈m
 | [],_,_,h=>by cases h
 | (a,b) :: m,v,u,h=>by
  simp only [Zgm] at h
  split at h
  ·rename_i e; cases h; subst e; exact List.mem_cons_self ..
  ·exact List.mem_cons_of_mem _ (Ykw h)
theorem Ztt {f:Nat→Option Ty} (hf:∀ c u,f c=some u→u.txt.length≤16):∀ t:Ty,(subst f t).txt.length≤16 * t.txt.length
 | .k c=>by
  simp only [subst]
  cases h:f c with
  | none=>simp [Ty.txt]
  | some u=>have:=hf c u h; simp [Ty.txt]; omega
 | .u c a=>by have:=Ztt hf a; simp [subst,Ty.txt]; omega
 | .w c a b=>by have:=Ztt hf a; have:=Ztt hf b; simp [subst,Ty.txt]; omega
theorem Ymx {h:Zaa} {i p:Nat} {s:List Nat} (r:Rdr h i p) (hp:p≤900000000000) (hs:s.length≤1048576):Zaj pg Zky [.ptr (some (i,0)),.str s] h (TxQ i p h):=by
 apply Zkg.call
 refine (Zno s (by omega) h).mono ?_
 rintro v h1 ⟨s1,vs,rfl,hm⟩
 have hil:=r.lt
 have leaf:∀ h',Zec i h h'→∀ p',p≤p'→p'≤p + 1000→Rdr h' i p'→TxQ i p h (.str [105]) h':=fun h' K p' h1 h2 R=>⟨[105],rfl,by simp,K,p',h1,h2,R⟩
 have hvs:∃ (d:Nat) (a:Pt) (n c:Nat) (e:Bool),vs=[.int .u8 (d:Int),.slice a n c e]:=by
  split at hm
  ·obtain ⟨a,c,e,rfl⟩:=hm.shape; exact ⟨_,_,_,_,_,rfl⟩
  ·exact ⟨0,_,_,_,_,hm⟩
 obtain ⟨d,a,n,c,e,rfl⟩:=hvs
 simp only [Zcj,Zaf,Zdq,Zas,Zah,Zao,Zaq,Zax]
 rw [Zgb]
 simp only [Zar]
 generalize hh2:h1 ++ [Zby.cells Zak [.int .u8 (d:Int),.slice a n c e] false]=h2
 have s2:Zba h1.length h1 h2:=by rw [← hh2]; exact Zam
 have l2:h2.length=h1.length + 1:=by rw [← hh2]; simp
 have n2:h2[h1.length]?=some (.cells Zak [.int .u8 (d:Int),.slice a n c e] false):=by rw [← hh2]; simp
 have S2:=s1.cat s2
 refine Zbs (fun hno=>leaf _ (Zec.of_same S2) p (by omega) (by omega) (r.same S2)) (fun hyes=>?_)
 have hof:∃ t,Zjj s=some t:=by
  unfold Zmt at hyes
  cases hx:Zjj s with
  | none=>rw [hx] at hyes; cases hyes
  | some t=>exact ⟨t,rfl⟩
 obtain ⟨t,ht⟩:=hof
 obtain ⟨hok,hst,hsl⟩:=Zfn.1 ht
 rw [ht] at hm
 simp only at hm
 generalize hh3:h2 ++ [Zby.cells Zdi [.int .u8 0,.slice none 0 0 true,.int .u8 0,.slice none 0 0 true,.int .u8 0,.slice none 0 0 true,.int .u8 0,.slice none 0 0 true,.int .u8 0,.slice none 0 0 true,.int .u8 0,.slice none 0 0 true,.int .u8 0,.slice none 0 0 true,.int .u8 0,.slice none 0 0 true,.int .u8 0,.slice none 0 0 true,.int .u8 0,.slice none 0 0 true,.int .u8 0,.slice none 0 0 true,.int .u8 0,.slice none 0 0 true] false]=h3
 have s3:Zba h2.length h2 h3:=by rw [← hh3]; exact Zam
 have l3:h3.length=h2.length + 1:=by rw [← hh3]; simp
 have m3:h3[h2.length]?=some (.cells Zdi (Zdg eR (List.replicate 12 (.int .u8 0,.slice none 0 0 true))) false):=by rw [← hh3]; simp; rfl
 have S3:=S2.cat s3
 have n3:=s3.get n2 (Own.lt n2)
 have r3:=r.same S3
 refine Zkg.L6ind (J:=fun (g:Nat) x19 h'=>x19=(g:Int)∧g≤12∧Zec i h h'∧(∃ p',p≤p'∧p'≤p + g * 80∧Rdr h' i p')∧h3.length≤h'.length∧h'[h1.length]?=some (.cells Zak [.int .u8 (d:Int),.slice a n c e] false) ∧
   Zhw (fun j=>j≠h2.length∧j≠i∧j < h'.length) h' t [.int .u8 (d:Int),.slice a n c e] ∧
   ∃ (rows:List (Zat × Zat)) (ts:List Ty),rows.length=12∧ts.length=g∧(∀ u∈ts,u.ok=true∧u.txt.length≤16)∧h'[h2.length]?=some (.cells Zdi (Zdg eR rows) false) ∧
    ∀ (k:Nat) (x:Zat × Zat) (u:Ty),rows[k]?=some x→ts[k]?=some u→Zhw (fun j=>j≠h2.length∧j≠i∧j < h'.length) h' u (eR x))
  (m:=fun g=>12 - g) (hr:=?_) (g:=0) (hj:=⟨rfl,by omega,Zec.of_same S3,⟨p,by omega,by omega,r3⟩,Nat.le_refl _,n3,?_,_,[],by simp,rfl,by simp,m3,by simp⟩) ..
 ·rintro g x19 h4 ⟨rfl,hg,K4,⟨p4,hp1,hp2,R4⟩,l4,n4,rt,rows,ts,hrl,htl,hts,m4,hrep⟩ R hR
  unfold Zkg.L6t
  refine Zau (fun hlt=>?_) (fun hge=>?_)
  ·refine (Zdc R4 (by omega) 2).mono ?_
   rintro v h5 ⟨x,rfl,hx0,hx1,_,K5,R5,_⟩
   have hx1:=hx1 (by omega)
   simp only [Zas]
   refine (Zdc R5 (by omega) 2).mono ?_
   rintro v h6 ⟨y,rfl,hy0,hy1,_,K6,R6,_⟩
   simp only [Zas]
   obtain ⟨q,rfl⟩:∃ q:Nat,x=q:=⟨x.toNat,by omega⟩
   have hB:4 ^ (q + 1)≤16:=by
    have:q=0 ∨ q=1:=by omega
    rcases this with rfl | rfl <;> decide
   refine (Zur q (by omega) R6 (by omega) _).mono ?_
   rintro v h7 ⟨u,rfl,huok,hulen,K7,p7,hp3,hp4,R7⟩
   have K47:=(K5.trans K6).trans K7
   simp only [Zag]
   refine (Zno u.txt (by omega) h7).mono ?_
   rintro v h8 ⟨s8,vu,rfl,hmu⟩
   rw [Zfn.2 ⟨huok,rfl,by omega⟩] at hmu
   simp only at hmu
   obtain ⟨au,cu,eu,hsh⟩:=hmu.shape
   subst hsh
   have K48:=K47.trans (Zec.of_same s8)
   simp only [Zcj,Zaf,Zdq,Zas,Zah,Zao,Zaq]
   have l8:=K48.le
   have hm2i:h2.length≠i:=by have:=S2.le; omega
   have m8:h8[h2.length]?=some (.cells Zdi (Zdg eR rows) false):=by rw [K48.eq _ (Own.lt m4) hm2i]; exact m4
   have hfl:(Zdg eR rows).length=24:=by rw [Zav Zqp,hrl]
   rw [Nat.zero_add,Int.toNat_natCast,Zbd m8 (by rw [hfl]; simp; omega)]
   simp only [Zar]
   rw [show ([Zat.int .u8 (u.hd:Int),Zat.slice au u.ps.length cu eu]:List Zat)=eR (Zat.int .u8 (u.hd:Int),Zat.slice au u.ps.length cu eu) from rfl,Ybv Zqp (by omega),Zbq (by omega)]
   have hset:∀ j,j≠h2.length→(h8.set h2.length (Zby.cells Zdi (Zdg eR (rows.set g (Zat.int .u8 (u.hd:Int),Zat.slice au u.ps.length cu eu))) false))[j]?=h8[j]?:=fun j hj=>Zbp (fun e=>hj e.symm)
   have old:∀ j,(j≠h2.length∧j≠i∧j < h4.length)→(h8.set h2.length (Zby.cells Zdi (Zdg eR (rows.set g (Zat.int .u8 (u.hd:Int),Zat.slice au u.ps.length cu eu))) false))[j]?=h4[j]?:=fun j hj=>by rw [hset j hj.1,K48.eq j hj.2.2 hj.2.1]
   have hup:∀ j,(j≠h2.length∧j≠i∧j < h4.length)→(j≠h2.length∧j≠i∧j < (h8.set h2.length (Zby.cells Zdi (Zdg eR (rows.set g (Zat.int .u8 (u.hd:Int),Zat.slice au u.ps.length cu eu))) false)).length):=fun j hj=>⟨hj.1,hj.2.1,by simp; omega⟩
   have i8:Rdr h8 i p7:=R7.same s8
   refine ⟨⟨by omega,by omega⟩,hR (g + 1) _ _ (by omega) ⟨by omega,by omega,(K4.trans K48).trans' (fun j hj=>Zbp (by have:=S2.le; omega)),⟨p7,by omega,by omega,?_⟩,by simp; omega,?_,(rt.agree old).mono hup,_,ts ++ [u],by simp [hrl],by simp [htl],?_,Zbx m8,?_⟩⟩
   ·refine i8.agree (fun j hj=>hset j (by have:=S2.le; omega)) (by simp)
   ·rw [hset _ (by omega),K48.eq _ (Own.lt n4) (by have:=s1.le; omega)]; exact n4
   ·intro w hw
    rcases List.mem_append.1 hw with hw | hw
    ·exact hts w hw
    ·simp at hw; subst hw; exact ⟨huok,by omega⟩
   ·intro k x w hx hw
    by_cases hk:k=g
    ·subst hk
     rw [List.getElem?_set_self (by omega)] at hx
     rw [List.getElem?_append_right (by omega)] at hw
     simp [htl] at hw
     cases hx; subst hw
     refine (hmu.agree (h':=h8.set h2.length (Zby.cells Zdi (Zdg eR (rows.set k (Zat.int .u8 (u.hd:Int),Zat.slice au u.ps.length cu eu))) false)) fun j hj=>hset j (by have:=hj.1; have:=K47.le; omega)).mono fun j hj=>⟨by have:=hj.1; have:=K47.le; omega,by have:=hj.1; have:=K47.le; have:=S2.le; omega,by simp; exact hj.2⟩
    ·rw [List.getElem?_set_ne (fun e=>hk e.symm)] at hx
     have hkg:k < g:=by
      have:=(List.getElem?_eq_some_iff.1 hw).1
      simp [htl] at this; omega
     rw [List.getElem?_append_left (by omega)] at hw
     exact ((hrep k x w hx hw).agree old).mono hup
  ·have hg12:g=12:=by omega
   subst hg12
   apply Zkg.A6x0i
   rw [Zbb n4]
   simp only [Zap,Zaf,Zao,Zas,Zah]
   have hget:∀ k,k < 6→(Zel[k]?).bind (Zgm (Zel.zip ts))=ts[k]?:=fun k hk=>by
    have hk6:k < Zel.length:=hk
    rw [List.getElem?_eq_getElem hk6,Option.bind_some]
    exact Yhl Zel ts Zpy k hk6 (by omega)
   have hin:∀ v u,Zgm (Zel.zip ts) v=some u→v∈Zel∧u∈ts:=fun v u hu=>by
    have:=Ykw hu
    exact ⟨(List.of_mem_zip this).1,(List.of_mem_zip this).2⟩
   have hW:Yow (fun j=>j≠h2.length∧j≠i∧j < h4.length) h4 h2.length (Zel.zip ts):=by
    refine ⟨rows,hrl,m4,fun k x hk hx=>?_⟩
    rw [hget k hk]
    have hkt:k < ts.length:=by omega
    rw [List.getElem?_eq_getElem hkt]
    exact hrep k x _ hx (List.getElem?_eq_getElem hkt)
   have hnv:∀ v,Zdp v=false→Zgm (Zel.zip ts) v=none:=fun v hv=>by
    cases hb:Zgm (Zel.zip ts) v with
    | none=>rfl
    | some u=>
     have h1:=(hin v u hb).1
     have:∀ x∈Zel,Zdp x=true:=by decide
     rw [this v h1] at hv; cases hv
   refine (Ybn _ (Nat.le_refl _) hok (fun j hj=>⟨hj.2.2,hj.1⟩) rt hW (fun v u hu=>(hts u (hin v u hu).2).1) hnv).mono ?_
   rintro x h5 ⟨s5,vs5,rfl,rt5⟩
   have hl5:(subst (Zgm (Zel.zip ts)) t).txt.length≤1048576:=by
    have:=Ztt (f:=Zgm (Zel.zip ts)) (fun c u hu=>(hts u (hin c u hu).2).2) t
    rw [← hst] at this; omega
   have hok5:(subst (Zgm (Zel.zip ts)) t).ok=true:=Zwx ⟨hnv,fun v u hu=>(hts u (hin v u hu).2).1⟩ hok
   obtain ⟨a5,c5,e5,hsh5⟩:=rt5.shape
   subst hsh5
   simp only [Zdq,Zaf,Zas,Zah,Zao,Zax]
   rw [Zgb]
   simp only [Zar]
   generalize hh6:h5 ++ [Zby.cells Zak [.int .u8 ((subst (Zgm (Zel.zip ts)) t).hd:Int),.slice a5 (subst (Zgm (Zel.zip ts)) t).ps.length c5 e5] false]=h6
   have s6:Zba h5.length h5 h6:=by rw [← hh6]; exact Zam
   have n6:h6[h5.length]?=some (.cells Zak [.int .u8 ((subst (Zgm (Zel.zip ts)) t).hd:Int),.slice a5 (subst (Zgm (Zel.zip ts)) t).ps.length c5 e5] false):=by rw [← hh6]; simp
   rw [Zbb n6]
   simp only [Zap,Zaf,Zao,Zas,Zah]
   have rt6:=rt5.same s6
   refine (Zqh _ (Nat.le_refl _) hl5 rt6).mono ?_
   rintro v h7 ⟨rfl,s7⟩
   simp only [Zas]
   have K7:=((K4.trans (Zec.of_same s5)).trans (Zec.of_same s6)).trans (Zec.of_same s7)
   have R7:=((R4.same s5).same s6).same s7
   refine Zau (fun _=>leaf _ K7 p4 hp1 (by omega) R7) (fun hsm=>?_)
   rw [Zbb (s7.get n6 (Own.lt n6))]
   simp only [Zap,Zaf,Zao,Zas,Zah]
   refine (Zpe _ (Nat.le_refl _) hl5 hok5 (rt6.same s7)).mono ?_
   rintro v h8 ⟨rfl,s8⟩
   simp only [Zag]
   exact ⟨_,rfl,by omega,K7.trans (Zec.of_same s8),p4,hp1,by omega,R7.same s8⟩
 ·exact (hm.agree (h':=h3) fun j hj=>by rw [s3.eq j (by have:=hj.2; omega),s2.eq j hj.2]).mono fun j hj=>⟨by have:=hj.2; omega,by have:=hj.1; omega,by have:=hj.2; omega⟩
end Go.Sim

set_option linter.unusedVariables false
set_option linter.unusedSimpArgs false
set_option maxRecDepth 20000
namespace Go.Sim
open Go Go.RowKit

theorem Zqa:pg.underlying Zet=some (.slice Zac):=by kernel_rfl
theorem Zye:pg.cellsOf Zac=3:=by kernel_rfl
theorem Zyd:pg.okElem Zac=true:=by kernel_rfl
theorem Zxn:pg.bytesOf Zac≤127:=Nat.le_of_ble_eq_true (by kernel_rfl)
theorem Zwy:pg.underlying Zji=some (.slice Zbi):=by kernel_rfl
theorem Yin:pg.cellsOf Zbi=2:=by kernel_rfl
theorem Yhc:pg.okElem Zbi=true:=by kernel_rfl
theorem Yig:pg.bytesOf Zbi≤127:=Nat.le_of_ble_eq_true (by kernel_rfl)
theorem Zfl {h:Zaa} {i j:Nat} {t t':TypeId} {cs cs':List Zat} {ro ro':Bool} (hi:h[i]?=some (.cells t cs ro)) (hj:h[j]?=some (.cells t' cs' ro')) (hne:t≠t'):i≠j:=by
 rintro rfl; rw [hi] at hj; injection hj with hj; injection hj with hj _ _; exact hne hj
theorem Ynp {h:Zaa} {a:Pt} {n cp:Nat} {e:Bool} {i:Ins} (r:Row h.length h a (n * 2) (Zdg eP i.2)) (hn:n≤1048576) :
  Zaj pg Zif [.agg [.str i.1.1,.str i.1.2,.slice a n cp e]] h fun v h'=>∃ a' c' e',v=.agg [.str i.1.1,.str i.1.2,.slice a' n c' e']∧Zba h.length h h'∧Zdd Zab eP h.length h' a' n i.2∧a'≠none∧n≤c':=by
 have hl:i.2.length=n:=by have:=r.1; rw [Zav Zcy] at this; omega
 apply Zmf.call
 simp only [Zax]
 generalize hh0:h ++ [Zby.cells Zac [.str i.1.1,.str i.1.2,.slice a n cp e] false]=h0
 generalize hh1:h0 ++ [Zby.cells Zac [.str [],.str [],.slice none 0 0 true] false]=h1
 generalize hh2:h1 ++ [Zby.cells Zab [] false]=h2
 have s0:Zba h.length h h0:=by rw [← hh0]; exact Zam
 have s1:Zba h0.length h0 h1:=by rw [← hh1]; exact Zam
 have s2:Zba h1.length h1 h2:=by rw [← hh2]; exact Zam
 have l0:h0.length=h.length + 1:=by rw [← hh0]; simp
 have l1:h1.length=h0.length + 1:=by rw [← hh1]; simp
 have l2:h2.length=h1.length + 1:=by rw [← hh2]; simp
 have x0:h0[h.length]?=some (.cells Zac [.str i.1.1,.str i.1.2,.slice a n cp e] false):=by rw [← hh0]; simp
 have y1:h1[h0.length]?=some (.cells Zac [.str [],.str [],.slice none 0 0 true] false):=by rw [← hh1]; simp
 have z2:h2[h1.length]?=some (.cells Zab [] false):=by rw [← hh2]; simp
 have x2:=s2.get (s1.get x0 (by omega)) (by omega)
 have y2:=s2.get y1 (by omega)
 have S2:=(s0.cat s1).cat s2
 simp only [Zal x2,Nat.zero_add,List.getElem?_cons_succ,List.getElem?_cons_zero,Zah]
 refine Vec.app0 (n:=0) z2 Zhv Zon Zom Zoj (by simp) (r.same' S2).rowOf (Zib (enc:=eP) (fun _=>rfl) i.2) (by omega) (fun h3 hl3 hi3 hk3=>?_)
 have x3:h3[h.length]?=some (.cells Zac [.str i.1.1,.str i.1.2,.slice a n cp e] false):=by rw [hk3 _ (by omega) (by omega)]; exact x2
 have y3:h3[h0.length]?=some (.cells Zac [.str [],.str [],.slice none 0 0 true] false):=by rw [hk3 _ (by omega) (by omega)]; exact y2
 simp only [Zah,Nat.zero_add]
 rw [Zbd x3 (by simp)]
 simp only [Zar,putRow,List.take_succ_cons,List.take_zero,List.length_cons,List.length_nil,List.drop_succ_cons,List.drop_zero,List.drop_nil,List.cons_append,List.nil_append,List.append_nil]
 rw [Zmx (Zbx x3)]
 simp only [Zap,Zaf,Zao,Zag,Zah]
 have y4:(h3.set h.length (Zby.cells Zac [.str i.1.1,.str i.1.2,.slice (some (h2.length,0)) n n false] false))[h0.length]?=some (.cells Zac [.str [],.str [],.slice none 0 0 true] false):=by rw [Zbp (by omega)]; exact y3
 rw [Zbd y4 (by simp)]
 simp only [Zar,putRow,List.take_zero,List.length_cons,List.length_nil,List.drop_succ_cons,List.drop_zero,List.drop_nil,List.cons_append,List.nil_append,List.append_nil]
 rw [Zmx (Zbx y4)]
 simp only [Zap,Zaf,Zao,Zag,Zah]
 refine ⟨_,_,_,rfl,⟨by simp; omega,fun j hj=>?_⟩,⟨hl,.inr ⟨h2.length,rfl,by omega,?_⟩⟩,by simp,Nat.le_refl _⟩
 ·rw [Zbp (by omega),Zbp (by omega),hk3 j (by omega) (by omega)]; exact S2.eq j hj
 ·rw [Zbp (by omega),Zbp (by omega),hi3]; simp
theorem Yfj {h:Zaa} {a0 a:Pt} {n0 c0 n cp:Nat} {e:Bool} {w:Wd} (r:Zlz h a0 n0 c0 a n cp w) (b:WB w) :
  Zaj pg Zgo [.slice a n cp e] h fun v h'=>∃ a' c' e' ys,v=.slice a' n c' e'∧n≤c'∧Zba h.length h h'∧Zdd Zac eN h.length h' a' n ys∧ys.length=w.is.length∧a'≠none ∧
   (∀ (k:Nat) (x:EI) (i:Ins),ys[k]?=some x→w.is[k]?=some i→x.c=i.1.1∧x.t=i.1.2∧Zdd Zab eP h.length h' x.a x.n i.2) ∧
   (∀ (j k:Nat) (x y:EI),j≠k→ys[j]?=some x→ys[k]?=some y→x.n≠0→y.n≠0→x.a≠y.a)∧(∀ x∈ys,x.a≠none)∧∃ q,a'=some (q,0)∧h.length≤q∧h'[q]?=some (.cells Zac (Zdg eN ys) false):=by
 have hl:=r.len1
 have hli:=b.li
 apply Zeo.call
 simp only [Zax]
 refine Zeo.L3ind (J:=fun (g:Nat) a3 n3 c3 e3 x9 h'=>x9=(g:Int)∧g≤n∧Zba h.length h h'∧∃ (q:Nat) (ys:List EI),a3=some (q,0)∧n3=g∧g≤c3∧h.length≤q∧ys.length=g∧h'[q]?=some (.cells Zac (Zdg eN ys) false) ∧
   (∀ (k:Nat) (x:EI) (i:Ins),ys[k]?=some x→w.is[k]?=some i→x.c=i.1.1∧x.t=i.1.2∧Zdd Zab eP h.length h' x.a x.n i.2) ∧
   (∀ (j k:Nat) (x y:EI),j≠k→ys[j]?=some x→ys[k]?=some y→x.n≠0→y.n≠0→x.a≠y.a)∧∀ x∈ys,x.a≠none) (m:=fun g=>n - g) (hr:=?_) (g:=0)
  (hj:=⟨rfl,by omega,Zba.app (Nat.le_refl _) _,h.length,[],rfl,rfl,by omega,Nat.le_refl _,rfl,by simp,by simp,by simp,by simp⟩) ..
 rintro g a3 n3 c3 e3 x9 h' ⟨rfl,hg,hs,q,ys,rfl,rfl,hgc,hql,hy,ho,hrep,hsep,hnn⟩ R hR
 unfold Zeo.L3t
 refine Zau (fun hlt=>?_) (fun hge=>?_)
 ·obtain ⟨i0,o0,hgl,a2,n2,c2,e2,rfl,hb0,hr,_,_,_,hrow,hn2⟩:=(r.same hs).inst (k:=n3) (by omega)
  have hb:=b.is _ (List.getElem_mem hgl)
  simp only [Zaw,Int.toNat_natCast,hr,Zap,Zaf,Zao,Zag,Zah,Zax]
  refine ⟨by omega,?_⟩
  generalize hh1:h' ++ [Zby.cells Zac [.str [],.str [],.slice none 0 0 true] false]=h1
  have s1:Zba h'.length h' h1:=by rw [← hh1]; exact Zam
  have o1:h1[h'.length]?=some (.cells Zac [.str [],.str [],.slice none 0 0 true] false):=by rw [← hh1]; simp
  rw [Zbd o1 (by simp)]
  simp only [Zar,putRow,List.take_zero,List.length_cons,List.length_nil,List.drop_succ_cons,List.drop_zero,List.drop_nil,List.cons_append,List.nil_append,List.append_nil,Nat.zero_add]
  generalize hh2:h1.set h'.length (Zby.cells Zac [.str w.is[n3].1.1,.str w.is[n3].1.2,.slice a2 n2 c2 e2] false)=h2
  have o2:h2[h'.length]?=some (.cells Zac [.str w.is[n3].1.1,.str w.is[n3].1.2,.slice a2 n2 c2 e2] false):=by rw [← hh2]; exact Zbx o1
  have s2:Zba h'.length h' h2:=by rw [← hh2]; exact s1.set' (Nat.le_refl _)
  rw [Zmx o2]
  simp only [Zap,Zaf,Zao,Zag,Zah]
  refine (Ynp (i:=w.is[n3]) (hrow.same' s2) (by omega)).mono ?_
  rintro v h3 ⟨a',c',e',rfl,s3,f3,hnn3,hc3⟩
  simp only [Zdq,Zaf,Zao,Zag,Zah,Zax]
  have S3:=s2.cat s3
  have hol:=Own.lt ho
  have ho3:=S3.get ho hol
  have hle2:=s2.le
  have hle3:=s3.le
  have hlh:=hs.le
  refine (Vec.mk1 ho3).pushN Zqa Zye Zyd Zxn (by rw [Zav Zpb,hy]) rfl (by omega) rfl (by omega) (fun h4 hl4 hi4 hk4=>?_)
  simp only [Zah]
  rw [Zbq (by omega)]
  have keep:∀ {a:Pt} {m:Nat} {l:List Nd} {b:Nat},Zdd Zab eP b h3 a m l→Zdd Zab eP b h4 a m l:=fun f=>⟨f.1,f.2.imp id fun ⟨j,ha,hbj,hc⟩=>⟨j,ha,hbj,by rw [hk4 j (Own.lt hc) (fun j' hj'=>by cases hj'; exact Zfl hc ho3 (by decide))]; exact hc⟩⟩
  refine hR (n3 + 1) _ _ _ _ _ _ (by omega) ⟨rfl,by omega,⟨by omega,fun j hj=>?_⟩,h3.length + 1,ys ++ [⟨w.is[n3].1.1,w.is[n3].1.2,a',n2,c',e'⟩],rfl,rfl,Nat.le_refl _,by omega,by simp [hy],by rw [hi4]; simp [eN],?_,?_,fun x hx=>?_⟩
  ·rw [hk4 j (by omega) (fun j' hj'=>by cases hj'; omega),S3.eq j (by omega)]; exact hs.eq j hj
  ·intro k x j hx hj
   by_cases hk:k < n3
   ·rw [List.getElem?_append_left (by omega)] at hx
    obtain ⟨p1,p2,p3⟩:=hrep k x j hx hj
    exact ⟨p1,p2,keep (p3.same S3)⟩
   ·have hkg:k=n3:=by have:=(List.getElem?_eq_some_iff.1 hx).1; simp at this; omega
    subst hkg
    rw [List.getElem?_append_right (by omega)] at hx
    simp [hy] at hx
    subst hx
    rw [List.getElem?_eq_getElem hgl] at hj
    cases hj
    exact ⟨rfl,rfl,keep ⟨f3.1,f3.2.imp id fun ⟨j,ha,hbj,hc⟩=>⟨j,ha,by omega,hc⟩⟩⟩
  ·have old:∀ (k:Nat) (x:EI),k < n3→ys[k]?=some x→x.n≠0→n2≠0→x.a≠a':=by
    intro k x hk hx h0 h2' he
    obtain ⟨_,_,p3⟩:=hrep k x w.is[k] hx (List.getElem?_eq_getElem (by omega))
    obtain ⟨_,p3⟩:=p3
    obtain ⟨_,f3'⟩:=f3
    rcases p3 with p3 | ⟨j,ha,_,hc⟩
    ·exact h0 p3
    ·rcases f3' with f3' | ⟨j',ha',hb',_⟩
     ·exact h2' f3'
     ·rw [ha,ha'] at he; cases he; have:=Own.lt hc; omega
   intro j k x y hjk hx hy' h0 h0'
   by_cases hj:j < n3 <;> by_cases hk:k < n3
   ·rw [List.getElem?_append_left (by omega)] at hx hy'
    exact hsep j k x y hjk hx hy' h0 h0'
   ·have hkg:k=n3:=by have:=(List.getElem?_eq_some_iff.1 hy').1; simp at this; omega
    subst hkg
    rw [List.getElem?_append_left (by omega)] at hx
    rw [List.getElem?_append_right (by omega)] at hy'
    simp [hy] at hy'
    subst hy'
    exact old j x hj hx h0 h0'
   ·have hjg:j=n3:=by have:=(List.getElem?_eq_some_iff.1 hx).1; simp at this; omega
    subst hjg
    rw [List.getElem?_append_left (by omega)] at hy'
    rw [List.getElem?_append_right (by omega)] at hx
    simp [hy] at hx
    subst hx
    exact fun he=>old k y hk hy' h0' h0 he.symm
   ·have:=(List.getElem?_eq_some_iff.1 hx).1
    have:=(List.getElem?_eq_some_iff.1 hy').1
    simp at *
    omega
  ·rcases List.mem_append.1 hx with hx | hx
   ·exact hnn x hx
   ·rw [List.mem_singleton] at hx; subst hx; exact hnn3
 ·apply Zeo.A3x0i
  have:n3=n:=by omega
  subst this
  exact ⟨_,_,_,ys,rfl,hgc,hs,⟨hy,.inr ⟨q,rfl,hql,ho⟩⟩,by omega,by simp,hrep,hsep,hnn,q,rfl,hql,ho⟩
theorem Yem {h:Zaa} {a0 a1:Pt} {n0 c0 n1 c1:Nat} {e0 e1:Bool} {w:Wd} (r:Zlz h a0 n0 c0 a1 n1 c1 w) (b:WB w) :
  Zaj pg Zkv [.agg [.slice a0 n0 c0 e0,.slice a1 n1 c1 e1]] h fun v h'=>∃ b0 d0 f0 b1 d1 f1 ys,v=.agg [.slice b0 n0 d0 f0,.slice b1 n1 d1 f1]∧Zba h.length h h'∧Zqt h.length h' b0 n0 b1 n1 ys w∧n0≤d0∧n1≤d1∧b0≠none∧b1≠none∧∃ q,b1=some (q,0)∧h.length≤q∧h'[q]?=some (.cells Zac (Zdg eN ys) false):=by
 have hl0:=r.len0
 have hlc:=b.lc
 apply Zoh.call
 simp only [Zax]
 generalize hh0:h ++ [Zby.cells Zad [.slice a0 n0 c0 e0,.slice a1 n1 c1 e1] false]=h0
 generalize hh1:h0 ++ [Zby.cells Zad [.slice none 0 0 true,.slice none 0 0 true] false]=h1
 generalize hh2:h1 ++ [Zby.cells Zbi [] false]=h2
 have s0:Zba h.length h h0:=by rw [← hh0]; exact Zam
 have s1:Zba h0.length h0 h1:=by rw [← hh1]; exact Zam
 have s2:Zba h1.length h1 h2:=by rw [← hh2]; exact Zam
 have l0:h0.length=h.length + 1:=by rw [← hh0]; simp
 have l1:h1.length=h0.length + 1:=by rw [← hh1]; simp
 have l2:h2.length=h1.length + 1:=by rw [← hh2]; simp
 have x0:h0[h.length]?=some (.cells Zad [.slice a0 n0 c0 e0,.slice a1 n1 c1 e1] false):=by rw [← hh0]; simp
 have y1:h1[h0.length]?=some (.cells Zad [.slice none 0 0 true,.slice none 0 0 true] false):=by rw [← hh1]; simp
 have z2:h2[h1.length]?=some (.cells Zbi [] false):=by rw [← hh2]; simp
 have x2:=s2.get (s1.get x0 (by omega)) (by omega)
 have y2:=s2.get y1 (by omega)
 have S2:=(s0.cat s1).cat s2
 simp only [Zal x2,Nat.zero_add,List.getElem?_cons_succ,List.getElem?_cons_zero,Zah]
 refine Vec.app0 (n:=0) z2 Zwy Yin Yhc Yig (by simp) ((r.same S2).cls.rowOf) (Zib (enc:=eP) (fun _=>rfl) w.cs) (by omega) (fun h3 hl3 hi3 hk3=>?_)
 have x3:h3[h.length]?=some (.cells Zad [.slice a0 n0 c0 e0,.slice a1 n1 c1 e1] false):=by rw [hk3 _ (by omega) (by omega)]; exact x2
 have y3:h3[h0.length]?=some (.cells Zad [.slice none 0 0 true,.slice none 0 0 true] false):=by rw [hk3 _ (by omega) (by omega)]; exact y2
 have S3:Zba h.length h h3:=⟨by omega,fun j hj=>by rw [hk3 j (by omega) (by omega)]; exact S2.eq j hj⟩
 simp only [Zah,Nat.zero_add]
 rw [Zbd x3 (by simp)]
 simp only [Zar,putRow,List.take_zero,List.length_cons,List.length_nil,List.drop_succ_cons,List.drop_zero,List.drop_nil,List.cons_append,List.nil_append,List.append_nil]
 generalize hh4:h3.set h.length (Zby.cells Zad [.slice (some (h2.length,0)) n0 n0 false,.slice a1 n1 c1 e1] false)=h4
 have x4:h4[h.length]?=some (.cells Zad [.slice (some (h2.length,0)) n0 n0 false,.slice a1 n1 c1 e1] false):=by rw [← hh4]; exact Zbx x3
 have y4:h4[h0.length]?=some (.cells Zad [.slice none 0 0 true,.slice none 0 0 true] false):=by rw [← hh4,Zbp (by omega)]; exact y3
 have z4:h4[h2.length]?=some (.cells Zbi (Zdg eP w.cs) false):=by rw [← hh4,Zbp (by omega),hi3]; simp
 have S4:Zba h.length h h4:=by rw [← hh4]; exact S3.set' (Nat.le_refl _)
 have l4:h4.length=h3.length:=by rw [← hh4]; simp
 simp only [Zal x4,List.getElem?_cons_succ,List.getElem?_cons_zero,Zah]
 refine (Yfj (r.same S4) b).mono ?_
 rintro v h5 ⟨b1,d1,f1,ys,rfl,hd1,s5,g5,hyl,hbn,hrep,hsep,hnn,qq,hqq1,hqq2,hqq3⟩
 simp only [Zah]
 have l5:=s5.le
 have x5:=s5.get x4 (by omega)
 have y5:=s5.get y4 (by omega)
 have z5:=s5.get z4 (by omega)
 rw [Zbd x5 (by simp)]
 simp only [Zar,putRow,List.take_succ_cons,List.take_zero,List.length_cons,List.length_nil,List.drop_succ_cons,List.drop_zero,List.drop_nil,List.cons_append,List.nil_append,List.append_nil]
 rw [Zbb (Zbx x5)]
 simp only [Zap,Zaf,Zao,Zah]
 have y6:(h5.set h.length (Zby.cells Zad [.slice (some (h2.length,0)) n0 n0 false,.slice b1 n1 d1 f1] false))[h0.length]?=some (.cells Zad [.slice none 0 0 true,.slice none 0 0 true] false):=by rw [Zbp (by omega)]; exact y5
 rw [Zbd y6 (by simp)]
 simp only [Zar,putRow,List.take_zero,List.length_cons,List.length_nil,List.drop_succ_cons,List.drop_zero,List.drop_nil,List.cons_append,List.nil_append,List.append_nil]
 rw [Zbb (Zbx y6)]
 simp only [Zap,Zaf,Zao,Zah]
 have kp:∀ j,h2.length≤j→((h5.set h.length (Zby.cells Zad [.slice (some (h2.length,0)) n0 n0 false,.slice b1 n1 d1 f1] false)).set h0.length (Zby.cells Zad [.slice (some (h2.length,0)) n0 n0 false,.slice b1 n1 d1 f1] false))[j]?=h5[j]?:=fun j hj=>by rw [Zbp (by omega),Zbp (by omega)]
 refine ⟨_,_,_,_,_,_,ys,rfl,⟨by simp; omega,fun j hj=>?_⟩,⟨⟨hl0,.inr ⟨h2.length,rfl,by omega,by rw [kp _ (Nat.le_refl _)]; exact z5⟩⟩,g5.keep (by omega) fun j hj _=>kp j (by omega),hyl,fun k x i hx hi=>?_,hsep,hnn,by simp⟩,Nat.le_refl _,hd1,by simp,hbn,qq,hqq1,by omega,by rw [kp qq (by omega)]; exact hqq3⟩
 ·rw [Zbp (by omega),Zbp (by omega),s5.eq j (by omega)]; exact S4.eq j hj
 ·obtain ⟨p1,p2,p3⟩:=hrep k x i hx hi
  exact ⟨p1,p2,p3.keep (by omega) fun j hj _=>kp j (by omega)⟩
end Go.Sim
