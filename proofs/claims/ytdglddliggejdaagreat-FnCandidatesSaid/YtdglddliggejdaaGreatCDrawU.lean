/- A part of the proof of a statement of this seat: see the text that holds the theorem. No condition. -/
import Derived.Test.YtdglddliggejdaaGreatPTCIn
import Derived.Test.YtdglddliggejdaaGreatCDrawX
import Derived.Test.YtdglddliggejdaaGreatPTCDrawV
set_option linter.unusedVariables false
set_option linter.unusedSimpArgs false
set_option linter.all false
set_option linter.unusedVariables false
set_option linter.unusedSimpArgs false
set_option maxRecDepth 20000
namespace Go.Sim
open Go Go.RowKit

def Yva (h h':Zaa) (u:List Zas) (w:Wd):Prop:=∃ a0 n0 c0 e0 q n1 c1 e1 ys,u=[.slice a0 n0 c0 e0,.slice (some (q,0)) n1 c1 e1]∧WDr h.length h' a0 n0 c0 q n1 c1 ys w
theorem Zdp.cell {h h':Zaa} {i j o:Nat} (K:Zdp i h h') (hj:j < h.length) (hi:j≠i):Zai h' (.ptr (some (j,o)))=Zai h (.ptr (some (j,o))):=by simp only [Zai,K.eq j hj hi]
theorem Zdp.get {h h':Zaa} {i j:Nat} {x:Zcc} (K:Zdp i h h') (hj:h[j]?=some x) (hi:j≠i):h'[j]?=some x:=by rw [K.eq j (Own.lt hj) hi]; exact hj
theorem Zsd {h:Zaa} (s:List Nat) (hs:s.length≤900) (hb:∀ b∈s,b < 256):Zah pg Zid [.str s] h fun v h'=>Zbe h.length h h'∧∃ u b,v=.tup [.agg u,.bool b]∧Yva h h' u (wdP s):=by
 apply Zob.call
 simp only [Zax]
 generalize hh0:h ++ [Zcc.cells Zad [.slice none 0 0 true,.slice none 0 0 true] false]=h0
 have s0:Zbe h.length h h0:=by rw [← hh0]; exact Zao
 have z0:h0[h.length]?=some (.cells Zad [.slice none 0 0 true,.slice none 0 0 true] false):=by rw [← hh0]; simp
 refine (Ypn s hs hb).mono ?_
 rintro v h2 ⟨s2,a0,n0,c0,e0,a1,n1,c1,e1,b,rfl,rep⟩
 have S2:=s0.cat s2
 have z2:=s2.get z0 (Own.lt z0)
 have l2:=S2.le
 simp only [Zdx,Zaj,Zde,Zaf,Zar,Zap]
 rw [Zgk]
 simp only [Zat]
 generalize hh3:h2 ++ [Zcc.cells Zad [.slice a0 n0 c0 e0,.slice a1 n1 c1 e1] false]=h3
 have s3:Zbe h2.length h2 h3:=by rw [← hh3]; exact Zao
 have y3:h3[h2.length]?=some (.cells Zad [.slice a0 n0 c0 e0,.slice a1 n1 c1 e1] false):=by rw [← hh3]; simp
 have S3:=S2.cat s3
 have z3:=s3.get z2 (Own.lt z2)
 rw [Zbk y3]
 simp only [Zau,Zaj,Zar,Zaf]
 refine (Ycl (rep.same s3) ((Zxp hs hb).wb (by omega))).mono ?_
 rintro v h4 ⟨b0,d0,f0,b1,d1,f1,ys,rfl,s4,W4,hd0,hd1,_,_,q,rfl,hq,hqo⟩
 have z4:=s4.get z3 (Own.lt z3)
 simp only [Zde,Zaj,Zaf,Zar]
 rw [Zba z4 (by simp)]
 simp only [Zat,putRow,List.take_zero,List.length_cons,List.length_nil,List.drop_succ_cons,List.drop_zero,List.drop_nil,List.cons_append,List.nil_append,List.append_nil,Nat.zero_add]
 rw [Zbk (Zbv z4)]
 simp only [Zau,Zaj,Zar,Zaf]
 have l3:=S3.le
 refine ⟨(S3.cat s4).set' (Nat.le_refl _),_,_,rfl,b0,n0,d0,f0,q,n1,d1,f1,ys,rfl,?_⟩
 have hz:=Own.lt z0
 have l03:=(s2.cat s3).le
 exact ((WDr.of (c0:=d0) (c1:=d1) W4 hd0 hd1 hq hqo).keep (fun j hj hjl=>by rw [Zbl (by omega)])).low (by omega)
theorem Yic {h:Zaa} {x:Int} (hx0:0≤x) (hx9:x < 9):Zah pg Znt [.int .i64 x] h fun v h'=>Zbe h.length h h'∧∃ u w,v=.agg u∧Yva h h' u w∧WS 1000 w:=by
 apply Zsf.call
 simp only [Zax]
 generalize hh0:h ++ [Zcc.cells Zad [.slice none 0 0 true,.slice none 0 0 true] false]=h0
 have s0:Zbe h.length h h0:=by rw [← hh0]; exact Zao
 have z0:h0[h.length]?=some (.cells Zad [.slice none 0 0 true,.slice none 0 0 true] false):=by rw [← hh0]; simp
 have hl0:h0.length=h.length + 1:=by rw [← hh0]; simp
 have htm:Int.tmod x ((9:Nat):Int)=x:=by rw [Int.tmod_eq_emod_of_nonneg hx0]; exact Int.emod_eq_of_lt hx0 (by omega)
 rw [htm]
 refine ⟨by omega,⟨by omega,by omega⟩,?_⟩
 obtain ⟨k,rfl⟩:∃ k:Nat,x=k:=⟨x.toNat,by omega⟩
 have hk:k < 9:=by omega
 rw [Zeu,Int.toNat_natCast,Nat.zero_add,Nat.mul_one]
 generalize hL:([.str ([69,32,79,60,69,59,69,32,105,59,69,32,98,59,69,32,108,40,120,41,58,69,32,120,59,69,32,112,40,120,44,121,41,58,69,32,120,38,69,32,121,59,79,32,105,59,79,32,108,40,120,41,58,79,32,120]),.str ([69,32,83,59,69,32,105,59,69,32,108,40,120,41,58,69,32,120,59,69,32,108,40,105,41,59,83,32,112,40,120,44,120,41,58,83,32,120,59,83,32,112,40,105,44,98,41,59,83,32,105,59,83,32,98]),.str ([65,32,66,59,65,32,105,59,65,32,108,40,120,41,58,65,32,120,38,66,32,120,59,66,32,105,59,66,32,108,40,120,41,58,65,32,108,40,120,41]),.str ([65,59,65,32,108,40,120,41,58,65,32,108,40,120,41,59,65,32,109,40,120,41,58,65,32,108,40,109,40,120,41,41,59,65,32,105]),.str ([69,32,79,60,69,32,83,60,69,79,59,69,32,117,59,69,32,105,59,79,32,105,59,83,32,105,59,69,32,109,40,120,41,58,69,32,120,59,79,32,109,40,120,41,58,79,32,120,59,83,32,109,40,120,41,58,83,32,120,38,69,32,109,40,120,41]),.str ([69,32,70,59,69,32,105,59,69,32,98,59,70,32,108,40,120,41,58,69,32,120,59,70,32,109,40,120,41,58,70,32,120,38,69,32,120,59,70,32,112,40,108,40,120,41,44,121,41,58,69,32,120,38,70,32,121,59,70,32,105]),.str ([69,32,79,60,69,59,79,32,105,59,69,32,98,59,69,32,108,40,120,41,58,69,32,120]),.str ([65,32,66,60,65,32,67,60,65,66,59,65,32,105,59,66,32,105,59,67,32,105,59,65,32,108,40,120,41,58,67,32,120,59,66,32,108,40,120,41,58,67,32,120,59,67,32,108,40,120,41,58,67,32,120,59,65,32,117]),.str ([69,59,69,32,112,40,120,44,105,41,58,69,32,120,59,69,32,112,40,105,44,120,41,58,69,32,120,59,69,32,105,59,69,32,98])]:List Zas)=L
 have hx:∃ s:List Nat,L[k]?=some (.str s)∧s.length≤900∧∀ b∈s,b < 256:=by
  rw [← hL]
  match k,hk with
  | 0,_=>exact ⟨_,rfl,by decide,by decide⟩
  | 1,_=>exact ⟨_,rfl,by decide,by decide⟩
  | 2,_=>exact ⟨_,rfl,by decide,by decide⟩
  | 3,_=>exact ⟨_,rfl,by decide,by decide⟩
  | 4,_=>exact ⟨_,rfl,by decide,by decide⟩
  | 5,_=>exact ⟨_,rfl,by decide,by decide⟩
  | 6,_=>exact ⟨_,rfl,by decide,by decide⟩
  | 7,_=>exact ⟨_,rfl,by decide,by decide⟩
  | 8,_=>exact ⟨_,rfl,by decide,by decide⟩
 obtain ⟨s,hs1,hs2,hs3⟩:=hx
 rw [hs1]
 simp only [Zam]
 generalize hh1:h0 ++ [Zcc.cells Zbg L false]=h1
 have s1:Zbe h0.length h0 h1:=by rw [← hh1]; exact Zao
 have z1:=s1.get z0 (Own.lt z0)
 have S1:=s0.cat s1
 refine (Zsd s hs2 hs3).mono ?_
 rintro v h2 ⟨s2,u,b,rfl,a0,n0,c0,e0,q,n1,c1,e1,ys,rfl,d⟩
 have S2:=S1.cat s2
 have z2:=s2.get z1 (Own.lt z1)
 simp only [Zdx,Zaj,Zde,Zaf,Zar,Zap]
 rw [Zgk]
 simp only [Zat]
 generalize hh3:h2 ++ [Zcc.cells Zad [.slice a0 n0 c0 e0,.slice (some (q,0)) n1 c1 e1] false]=h3
 have s3:Zbe h2.length h2 h3:=by rw [← hh3]; exact Zao
 have y3:h3[h2.length]?=some (.cells Zad [.slice a0 n0 c0 e0,.slice (some (q,0)) n1 c1 e1] false):=by rw [← hh3]; simp
 have S3:=S2.cat s3
 have z3:=s3.get z2 (Own.lt z2)
 rw [Zbk y3]
 simp only [Zau,Zaj,Zar,Zaf]
 rw [Zba z3 (by simp)]
 simp only [Zat,putRow,List.take_zero,List.length_cons,List.length_nil,List.drop_succ_cons,List.drop_zero,List.drop_nil,List.cons_append,List.nil_append,List.append_nil,Nat.zero_add]
 rw [Zbk (Zbv z3)]
 simp only [Zau,Zaj,Zar,Zaf]
 have hz1:=Own.lt z1
 exact ⟨S3.set' (Nat.le_refl _),_,_,rfl,⟨a0,n0,c0,e0,q,n1,c1,e1,ys,rfl,((d.same s3).keep (fun j hj hjl=>by rw [Zbl (by omega)])).low S1.le⟩,Zxp hs2 hs3⟩
def RdK (i p k:Nat) (h h':Zaa):Prop:=Zdp i h h'∧∃ p',p≤p'∧p'≤p + k∧Rdr h' i p'
theorem RdK.app {i p k:Nat} {h h1 h2:Zaa} (s:Zbe h.length h h1) (K:RdK i p k h1 h2):RdK i p k h h2:=⟨(Zdp.of_same s).trans K.1,K.2⟩
theorem Yaf {h:Zaa} {i p b m:Nat} {a0:Pt} {n0 c0 q n1 c1:Nat} {e0 e1:Bool} {ys:List EI} {w:Wd} {s:List Nat} (r:Rdr h i p) (hp:p≤900000000000) (d:WDr b h a0 n0 c0 q n1 c1 ys w) (hib:i < b) (hn0:1≤n0) (ws:WS m w) (hs:s.length≤100) :
  Zah pg Zgg [.ptr (some (i,0)),.agg [.slice a0 n0 c0 e0,.slice (some (q,0)) n1 c1 e1],.str s] h fun v h'=>∃ c t,v=.agg [.str c,.str t]∧c.length≤1000∧t.length≤1000∧RdK i p 1000 h h':=by
 have hil:=r.lt
 apply Zoj.call
 simp only [Zax]
 generalize hg0:h ++ [Zcc.cells Zad [.slice a0 n0 c0 e0,.slice (some (q,0)) n1 c1 e1] false]=g0
 generalize hg1:g0 ++ [Zcc.cells Zae [.str [],.str []] false]=g1
 have s0:Zbe h.length h g0:=by rw [← hg0]; exact Zao
 have s1:Zbe g0.length g0 g1:=by rw [← hg1]; exact Zao
 have x0:g0[h.length]?=some (.cells Zad [.slice a0 n0 c0 e0,.slice (some (q,0)) n1 c1 e1] false):=by rw [← hg0]; simp
 have x1:=s1.get x0 (Own.lt x0)
 have y1:g1[g0.length]?=some (.cells Zae [.str [],.str []] false):=by rw [← hg1]; simp
 have l0:g0.length=h.length + 1:=by rw [← hg0]; simp
 have S1:=s0.cat s1
 simp only [Zak x1,Nat.zero_add,List.getElem?_cons_zero,Zaf,true_and]
 refine (Zdd (r.same S1) (by omega) (n0:Int)).mono ?_
 rintro v k1 ⟨x,rfl,hx0,hx1,_,K1,R1,l1⟩
 have hx1:=hx1 (by omega)
 have x2:=K1.get x1 (by omega)
 have y2:=K1.get y1 (by omega)
 have KK1:=(Zdp.of_same (i:=i) S1).trans K1
 obtain ⟨k,rfl⟩:∃ k:Nat,x=k:=⟨x.toNat,by omega⟩
 have d1:=(d.same S1).kp K1 hib
 obtain ⟨ic,oc,hkc,ha,_,_,hc,_⟩:=d1.rep.class (k:=k) (by omega)
 subst ha
 have hcl:=(ws.cs _ (List.getElem_mem hkc)).1
 simp only [Zaq,Zak x2,List.getElem?_cons_zero,Zaw,Int.toNat_natCast,Nat.add_zero,hc,Zam,true_and]
 refine ⟨⟨by omega,by omega⟩,?_⟩
 -- the end
 have fin:∀ (G:Zaa) (t:List Nat) (p':Nat),Zdp i k1 G→t.length≤1000→p≤p'→p'≤p + 1000→Rdr G i p'→Zbx (Zbb G (.ptr (some (g0.length,0))) [.str w.cs[k].1,.str t]) fun h_22=>Zcb (Zan h_22 (.ptr (some (g0.length,0))) 2) fun cs_23=>Zag cs_23 fun c_24 r_25=>Zbn (some c_24) fun s_26=>Zag r_25 fun c_27 r_28=>Zbn (some c_27) fun s_29=>Zbu r_28 (∃ c t,Zas.agg [.str s_26,.str s_29]=.agg [.str c,.str t]∧c.length≤1000∧t.length≤1000∧RdK i p 1000 h h_22):=by
  intro G t p' KG ht h1 h2 RG
  have yG:=KG.get y2 (by omega)
  rw [Zba yG (by simp)]
  simp only [Zat,putRow,List.take_zero,List.length_cons,List.length_nil,List.drop_succ_cons,List.drop_zero,List.drop_nil,List.cons_append,List.nil_append,List.append_nil,Nat.zero_add]
  rw [Zbk (Zbv yG)]
  simp only [Zau,Zaj,Zar,Zam]
  have KG':=KK1.trans KG
  refine ⟨_,_,rfl,hcl,ht,⟨by have:=KG'.le; simp; omega,fun j hj hji=>by rw [Zbl (by omega)]; exact KG'.eq j hj hji⟩,p',h1,h2,RG.agree (fun j hj=>by rw [Zbl (by omega)]) (by simp)⟩
 refine Zav (fun hs0=>?_) (fun hs0=>?_)
 ·refine (Zdd R1 (by omega) 2).mono ?_
  rintro v k2 ⟨x,rfl,hx0,hx1',_,K2,R2,l2⟩
  have hx1':=hx1' (by omega)
  simp only [Zaq]
  obtain ⟨z,rfl⟩:∃ z:Nat,x=z:=⟨x.toNat,by omega⟩
  have hB:4 ^ (z + 1)≤16:=by
   have:z=0 ∨ z=1:=by omega
   rcases this with rfl | rfl <;> decide
  refine (Zts z (by omega) R2 (by omega) _).mono ?_
  rintro v k3 ⟨t,rfl,hok,hlen,K3,p3,hp1,hp2,R3⟩
  simp only [Zam]
  exact fin k3 t.txt p3 (K2.trans K3) (by omega) (by omega) (by omega) R3
 ·have hs1:1≤s.length:=by cases s with | nil=>exact absurd rfl hs0 | cons a r=>simp
  refine (Zdd R1 (by omega) (s.length:Nat)).mono ?_
  rintro v k2 ⟨x,rfl,hx0,hx1',_,K2,R2,l2⟩
  have hx1':=hx1' (by omega)
  simp only [Zaq]
  have hsl:(sub s x (IntKind.wrap .i64 (x + 1))).length≤100:=Nat.le_trans (Yeh _ _ _) hs
  have hw1:IntKind.wrap .i64 (x + 1)=x + 1:=IntWalk.i64_in _ (by omega)
  refine ⟨⟨by omega,by omega,by omega⟩,by simp; omega,by simp; omega,?_⟩
  generalize sub s x (IntKind.wrap .i64 (x + 1))=y at hsl ⊢
  have hk2l:=R2.lt
  refine (Zlm (R2.app _) (by omega) (j:=k2.length) (t:=Zbg) (n:=5) (l:=[y,y,y,[108,40] ++ y ++ [41],y]) (by simp [Zdq,eS]) (by omega) rfl (by omega)).mono ?_
  rintro v k3 ⟨t,ht,rfl,K3,R3,l3⟩
  simp only [Zam]
  have htl:t.length≤1000:=by
   simp only [List.mem_cons,List.not_mem_nil,or_false] at ht
   rcases ht with rfl | rfl | rfl | rfl | rfl <;> first | omega | (simp; omega)
  exact fin k3 t _ (K2.trans ((Zdp.app i k2 _).trans K3)) htl (by omega) (by omega) R3
end Go.Sim

set_option linter.unusedVariables false
set_option linter.unusedSimpArgs false
set_option maxRecDepth 20000
namespace Go.Sim
open Go Go.RowKit

theorem Zrh {h l:Zaa} {j o:Nat} (hj:j < h.length):Zai (h ++ l) (.ptr (some (j,o)))=Zai h (.ptr (some (j,o))):=by simp only [Zai,List.getElem?_append_left hj]
def Yvg (I:Ins):Prop:=I.1.1.length≤1000∧I.1.2.length≤1000∧I.2.length≤1000∧∀ q∈I.2,q.1.length≤1000∧q.2.length≤1000
def Yqg (i p:Nat) (h:Zaa) (v:Zas) (h':Zaa):Prop:=∃ (I:Ins) (a:Pt) (c:Nat) (e:Bool),v=.agg [.str I.1.1,.str I.1.2,.slice a I.2.length c e]∧I.2.length≤c∧Zdl Zae eP h.length h' a I.2.length I.2∧Yvg I∧RdK i p 10000 h h'
theorem Ylu (s:List Nat):(Zjy s).length≤6:=by unfold Zjy; exact Nat.le_trans (List.length_filter_le _ _) (by decide)
theorem Zuo {h:Zaa} {i p b m:Nat} {a0:Pt} {n0 c0 q n1 c1:Nat} {e0 e1:Bool} {ys:List EI} {w:Wd} (r:Rdr h i p) (hp:p≤800000000000) (d:WDr b h a0 n0 c0 q n1 c1 ys w) (hib:i < b) (hn0:1≤n0) (ws:WS m w) :
  Zah pg Zht [.ptr (some (i,0)),.agg [.slice a0 n0 c0 e0,.slice (some (q,0)) n1 c1 e1]] h (Yqg i p h):=by
 have hil:=r.lt
 apply Zdc.call
 simp only [Zax]
 generalize hg0:h ++ [Zcc.cells Zad [.slice a0 n0 c0 e0,.slice (some (q,0)) n1 c1 e1] false]=g0
 have s0:Zbe h.length h g0:=by rw [← hg0]; exact Zao
 have x0:g0[h.length]?=some (.cells Zad [.slice a0 n0 c0 e0,.slice (some (q,0)) n1 c1 e1] false):=by rw [← hg0]; simp
 have l0:g0.length=h.length + 1:=by rw [← hg0]; simp
 generalize hga:g0 ++ [Zcc.cells Zac [.str [],.str [],.slice none 0 0 true] false]=ga
 have sa:Zbe g0.length g0 ga:=by rw [← hga]; exact Zao
 have xa:=sa.get x0 (Own.lt x0)
 have za:ga[g0.length]?=some (.cells Zac [.str [],.str [],.slice none 0 0 true] false):=by rw [← hga]; simp
 have la:ga.length=g0.length + 1:=by rw [← hga]; simp
 have Sa:=s0.cat sa
 have Ra:=r.same Sa
 refine (Zlm (Ra.app _) (by omega) (j:=ga.length) (t:=Zbg) (n:=11) (l:=[[105],[98],[108,40,120,41],[112,40,120,44,121,41],[109,40,120,41],[108,40,105,41],[112,40,120,44,120,41],[112,40,105,44,120,41],[108,40,108,40,120,41,41],[117],[108,40,120,41]]) (by simp [Zdq,eS]) (by omega) rfl (by omega)).mono ?_
 rintro v g1 ⟨hd,hhd,rfl,pg1,Rg1,lg1⟩
 have hhl:hd.length≤10:=by
  simp only [List.mem_cons,List.not_mem_nil,or_false] at hhd
  rcases hhd with rfl | rfl | rfl | rfl | rfl | rfl | rfl | rfl | rfl | rfl | rfl <;> decide
 have Kg1:=(Zdp.of_same (i:=i) (Sa.trans (Zbe.app Sa.le [Zcc.cells Zbg [.str [105],.str [98],.str [108,40,120,41],.str [112,40,120,44,121,41],.str [109,40,120,41],.str [108,40,105,41],.str [112,40,120,44,120,41],.str [112,40,105,44,120,41],.str [108,40,108,40,120,41,41],.str [117],.str [108,40,120,41]] false]))).trans pg1
 have xg1:=pg1.get (Zft xa) (by omega)
 have zg1:=pg1.get (Zft za) (by omega)
 simp only [Zam,Zak xg1,Nat.zero_add,List.getElem?_cons_zero,Zaf]
 have Rg1:Rdr g1 i (p + 1):=Rg1
 -- behind the orders
 have fin:∀ (G:Zaa) (zI eX p':Nat) (cl:List Nat),Zdp i h G→Rdr G i p'→p≤p'→p'≤p + 2→G[h.length]?=some (.cells Zad [.slice a0 n0 c0 e0,.slice (some (q,0)) n1 c1 e1] false)→G[g0.length]?=some (.cells Zac [.str [],.str [],.slice none 0 0 true] false) →
   G[eX]?=some (.cells Zae [] false)→G[zI]?=some (.cells Zac [.str [],.str [],.slice none 0 0 true] false)→h.length≤eX→g0.length < zI→cl.length≤1000 →
   Zbx (Zbb G (.ptr (some (zI,0))) [.str cl,.str hd,.slice (some (eX,0)) 0 0 true]) fun h_22=>Zah pg Zel [.ptr (some (i,0)),.slice (some (List.length h_22,0)) 4 4 true] (h_22 ++ [.cells Zgj [.int .i64 1,.int .i64 0,.int .i64 1,.int .i64 2] false]) fun v_24 h_25=>Zck .i64 (some v_24) fun x_26=>Zdc.L4 (Yqg i p h) (some (i,0)) h.length 0 g0.length 0 hd zI 0 x_26 0 h_25:=by
  intro G zI eX p' cl KG RG h1 h2 xG zG eG iG hel hzl hcl
  have hzi:=Own.lt iG
  rw [Zba iG (by simp)]
  simp only [Zat,putRow,List.take_zero,List.length_cons,List.length_nil,List.drop_succ_cons,List.drop_zero,List.drop_nil,List.cons_append,List.nil_append,List.append_nil,Nat.zero_add]
  have i2:=Zbv iG (x:=.cells Zac [.str cl,.str hd,.slice (some (eX,0)) 0 0 true] false)
  have n2:∀ j,j≠zI→(G.set zI (.cells Zac [.str cl,.str hd,.slice (some (eX,0)) 0 0 true] false))[j]?=G[j]?:=fun j hj=>Zbl (fun e=>hj e.symm)
  have l2:(G.set zI (.cells Zac [.str cl,.str hd,.slice (some (eX,0)) 0 0 true] false)).length=G.length:=by simp
  generalize G.set zI (.cells Zac [.str cl,.str hd,.slice (some (eX,0)) 0 0 true] false)=G2 at i2 n2 l2 ⊢
  have hez:eX≠zI:=Zfe eG iG (by decide)
  have K2:Zdp i h G2:=⟨by have:=KG.le; omega,fun j hj hji=>by rw [n2 j (by omega)]; exact KG.eq j hj hji⟩
  have R2:Rdr G2 i p':=RG.agree (fun j hj=>n2 j (by omega)) (by omega)
  have x2:G2[h.length]?=some (.cells Zad [.slice a0 n0 c0 e0,.slice (some (q,0)) n1 c1 e1] false):=by rw [n2 _ (by omega)]; exact xG
  have z2:G2[g0.length]?=some (.cells Zac [.str [],.str [],.slice none 0 0 true] false):=by rw [n2 _ (by omega)]; exact zG
  have e2:G2[eX]?=some (.cells Zae [] false):=by rw [n2 _ hez]; exact eG
  refine (Ynz (R2.app _) (by omega) (j:=G2.length) (t:=Zgj) (n:=4) (l:=[1,0,1,2]) (by simp [Zdq,eI]) (by have:=R2.lt; omega) rfl (by omega)).mono ?_
  rintro v G3 ⟨x,hx,rfl,K3,R3,l3⟩
  have hR2l:=R2.lt
  simp only [List.mem_cons,List.not_mem_nil,or_false] at hx
  have hxb:0≤x∧x≤2:=by rcases hx with rfl | rfl | rfl | rfl <;> omega
  simp only [Zaq]
  have hgl:g0.length≠i:=by omega
  refine Zdc.L4ind (J:=fun (g:Nat) x27 h'=>x27=(g:Int)∧(g:Int)≤x∧Zdp i h h'∧(∃ p',p≤p'∧p'≤p + 10 + g * 2000∧Rdr h' i p')∧h'[h.length]?=some (.cells Zad [.slice a0 n0 c0 e0,.slice (some (q,0)) n1 c1 e1] false)∧h'[g0.length]?=some (.cells Zac [.str [],.str [],.slice none 0 0 true] false) ∧
    ∃ (l:List Nd) (y c:Nat) (e:Bool),h'[zI]?=some (.cells Zac [.str cl,.str hd,.slice (some (y,0)) l.length c e] false)∧h'[y]?=some (.cells Zae (Zdq eP l) false)∧h.length≤y∧l.length≤g∧l.length≤c∧∀ q∈l,q.1.length≤1000∧q.2.length≤1000) (m:=fun g=>x.toNat - g) (hr:=?_) (g:=0)
   (hj:=⟨rfl,by omega,(K2.trans (Zdp.app i G2 _)).trans K3,⟨_,by omega,by omega,R3⟩,K3.get (Zft x2) (by omega),K3.get (Zft z2) (by omega),[],eX,0,true,K3.get (Zft i2) (by omega),K3.get (Zft e2) (by omega),hel,Nat.le_refl _,Nat.le_refl _,by simp⟩) ..
  rintro g x27 k ⟨rfl,hg,Kk,⟨p4,hp1,hp2,Rk⟩,xk,zk,l,y,c,e,ik,yk,hyl,hlg,hlc,hls⟩ R hR
  unfold Zdc.L4t
  have hkl:=Rk.lt
  refine Zav (fun hlt=>?_) (fun hge=>?_)
  ·refine (Zrp hd (by omega)).mono ?_
   rintro v k1 ⟨rfl,t1⟩
   have hvl:(if Zkg hd=true then Zjy hd else []).length≤6:=by split; exact Ylu _; simp
   have next:∀ (G:Zaa) (p':Nat),Zdp i k G→p≤p'→p'≤p4 + 1→Rdr G i p'→Zdc.J7 (Yqg i p h) R (g:Int) x hd (some (i,0)) zI 0 h.length 0 g0.length 0 G:=by
    intro G p' KG h1 h2 RG
    apply Zdc.J7i
    rw [Zbt (by omega)]
    exact hR (g + 1) _ _ (by omega) ⟨rfl,by omega,Kk.trans KG,⟨p',h1,by omega,RG⟩,KG.get xk (by omega),KG.get zk (by omega),l,y,c,e,KG.get ik (by omega),KG.get yk (by omega),hyl,by omega,hlc,hls⟩
   have add:∀ (G:Zaa) (p':Nat),Zdp i k G→p≤p'→p'≤p4 + 1→Rdr G i p' →
     xSl (Zai G (.ptr (some (zI,0 + 2)))) fun a_87 n_88 c_89 e_90=>Zcb (Zan G (.ptr (some (h.length,0))) 2) fun cs_91=>Zag cs_91 fun c_92 r_93=>xSl (some c_92) fun a_94 n_95 c_96 e_97=>Zag r_93 fun c_98 r_99=>xSl (some c_98) fun a_100 n_101 c_102 e_103=>Zbu r_99 (Zah pg Zfw [.str hd] G fun v_104 h_105=>
      Zbn (some v_104) fun s_106=>(Zan h_105 (.ptr (some (h.length,0))) 2=Zan G (.ptr (some (h.length,0))) 2)∧(Zai h_105 (.ptr (some (zI,0 + 2)))=Zai G (.ptr (some (zI,0 + 2))))∧Zah pg Zgg [.ptr (some (i,0)),.agg [.slice a_94 n_95 c_96 e_97,.slice a_100 n_101 c_102 e_103],.str s_106] h_105 fun v_107 h_108=>
      Zmv v_107 fun cs_109=>Zag cs_109 fun c_110 r_111=>Zbn (some c_110) fun s_112=>Zag r_111 fun c_113 r_114=>Zbn (some c_113) fun s_115=>Zbu r_114 ((Zai h_108 (.ptr (some (zI,0 + 2)))=Zai h_105 (.ptr (some (zI,0 + 2))))∧((Zan (h_108 ++ [.cells Zae [.str s_112,.str s_115] false]) (.ptr (some (h.length,0))) 2=Zan h_108 (.ptr (some (h.length,0))) 2)∧(Zai (h_108 ++ [.cells Zae [.str s_112,.str s_115] false]) (.ptr (some (zI,0 + 2)))=Zai h_108 (.ptr (some (zI,0 + 2))))∧Zcz pg Zhw (h_108 ++ [.cells Zae [.str s_112,.str s_115] false]) (.slice a_87 n_88 c_89 e_90) (.slice (some (List.length h_108,0)) 1 1 true) fun v_117 h_118=>xSl (some v_117) fun a_119 n_120 c_121 e_122=>(Zan h_118 (.ptr (some (h.length,0))) 2=Zan (h_108 ++ [.cells Zae [.str s_112,.str s_115] false]) (.ptr (some (h.length,0))) 2)∧Zbx (Zbb h_118 (.ptr (some (zI,0 + 2))) [.slice a_119 n_120 c_121 e_122]) fun h_123=>Zdc.J7 (Yqg i p h) R (g:Int) x hd (some (i,0)) zI 0 h.length 0 g0.length 0 h_123))):=by
    intro G p' KG h1 h2 RG
    have xG:=KG.get xk (by omega)
    have zG:=KG.get zk (by omega)
    have iG:=KG.get ik (by omega)
    have yG:=KG.get yk (by omega)
    simp only [Zak iG,Nat.zero_add,List.getElem?_cons_succ,List.getElem?_cons_zero,Zaf]
    rw [Zbk xG]
    simp only [Zau,Zaj,Zar,Zaf]
    refine (Zrp hd (by omega)).mono ?_
    rintro v G1 ⟨rfl,t1⟩
    have xG1:=t1.get xG (Own.lt xG)
    have iG1:=t1.get iG (Own.lt iG)
    have yG1:=t1.get yG (Own.lt yG)
    have zG1:=t1.get zG (Own.lt zG)
    simp only [Zam]
    refine ⟨by rw [Zbk xG1],by rw [Zak iG1]; rfl,?_⟩
    have KK:=Kk.trans KG
    have dG:=((d.kp KK hib).same t1)
    refine (Yaf (RG.same t1) (by omega) dG hib hn0 ws (by omega)).mono ?_
    rintro v G2 ⟨c',t',rfl,hc',ht',K2,p5,hp5,hp6,R5⟩
    have il2:=t1.le
    have xG2:=K2.get xG1 (by omega)
    have iG2:=K2.get iG1 (by omega)
    have yG2:=K2.get yG1 (by omega)
    have zG2:=K2.get zG1 (by omega)
    simp only [Zde,Zaj,Zar,Zam]
    refine ⟨by rw [Zak iG2,Zak iG1],by rw [Zbk (Zft xG2),Zbk xG2],by rw [Zak (Zft iG2),Zak iG2],?_⟩
    have R5l:=R5.lt
    refine (Vec.mk1 (n:=l.length) (c:=c) yG2).pushN (sz:=2) Yaj Ylj Ynr Ykz (by rw [Zay Zfp]) rfl (by omega) rfl (by omega) (fun G4 hl4 hi4 hk4=>?_)
    have keep:∀ {x:Nat} {o:Zcc},G2[x]?=some o→x≠y→G4[x]?=some o:=fun {x o} hx hne=>by rw [hk4 x (Own.lt hx) (fun i hi=>by cases hi; exact hne)]; exact hx
    have xG4:=keep xG2 (Zfe xG2 yG2 (by decide))
    have iG4:=keep iG2 (Zfe iG2 yG2 (by decide))
    have zG4:=keep zG2 (Zfe zG2 yG2 (by decide))
    simp only [Zaf]
    refine ⟨by rw [Zbk xG4,Zbk (Zft xG2)],?_⟩
    rw [Zba iG4 (by simp)]
    simp only [Zat,putRow,List.take_succ_cons,List.take_zero,List.length_cons,List.length_nil,List.drop_succ_cons,List.drop_zero,List.drop_nil,List.cons_append,List.nil_append,List.append_nil]
    apply Zdc.J7i
    rw [Zbt (by omega)]
    have hiy:i≠y:=by omega
    have R6:Rdr (G4.set zI (.cells Zac [.str cl,.str hd,.slice (some (G2.length + 1,0)) (l.length + 1) (l.length + 1) false] false)) i p5:=R5.agree (fun j hj=>by rw [Zbl (by omega),hk4 j (by omega) (fun i' hi'=>by cases hi'; omega)]) (by simp; omega)
    have K26:Zdp i h (G4.set zI (.cells Zac [.str cl,.str hd,.slice (some (G2.length + 1,0)) (l.length + 1) (l.length + 1) false] false)):=by
     have K02:=(KK.trans (Zdp.of_same t1)).trans K2
     have:=K02.le
     exact ⟨by simp; omega,fun j hj hji=>by rw [Zbl (by omega),hk4 j (by omega) (fun i' hi'=>by cases hi'; omega)]; exact K02.eq j hj hji⟩
    have KKl:=((KK.trans (Zdp.of_same t1)).trans K2).le
    refine hR (g + 1) _ _ (by omega) ⟨rfl,by omega,K26,⟨p5,by omega,by omega,R6⟩,by rw [Zbl (by omega)]; exact xG4,by rw [Zbl (by omega)]; exact zG4,l ++ [(c',t')],G2.length + 1,l.length + 1,false,by simpa using Zbv iG4,?_,by omega,by simp; omega,by simp,fun q hq=>?_⟩
    ·rw [Zbl (Zfe iG4 hi4 (by decide))]; simpa [eP] using hi4
    ·rcases List.mem_append.1 hq with hq | hq
     ·exact hls q hq
     ·rw [List.mem_singleton] at hq; subst hq; exact ⟨hc',ht'⟩
   simp only [Zam,Zax]
   generalize hvv:(if Zkg hd=true then Zjy hd else [])=vs at hvl
   refine Zcq (fun hv=>?_) (fun hv=>?_)
   ·exact add k1 p4 (Zdp.of_same t1) hp1 (by omega) (Rk.same t1)
   ·refine (Zdd (Rk.same t1) (by omega) 4).mono ?_
    rintro v k2 ⟨z,rfl,_,_,_,K2,R2',_⟩
    simp only [Zaq]
    refine Zcs (fun _=>?_) (fun _=>?_)
    ·exact add k2 _ ((Zdp.of_same t1).trans K2) (by omega) (by omega) R2'
    ·exact next k2 _ ((Zdp.of_same t1).trans K2) (by omega) (by omega) R2'
  ·apply Zdc.A4x0i
   rw [Zlu ik]
   simp only [Zau,Zaj,Zar,Zam,Zaf]
   rw [Zba zk (by simp)]
   simp only [Zat,putRow,List.take_zero,List.length_cons,List.length_nil,List.drop_succ_cons,List.drop_zero,List.drop_nil,List.cons_append,List.nil_append,List.append_nil,Nat.zero_add]
   rw [Zlu (Zbv zk)]
   simp only [Zau,Zaj,Zar,Zam,Zaf]
   refine ⟨((cl,hd),l),some (y,0),c,e,rfl,hlc,⟨rfl,.inr ⟨y,rfl,hyl,by rw [Zbl (Zfe zk yk (by decide))]; exact yk⟩⟩,⟨hcl,by simp only; omega,by simp only; omega,hls⟩,⟨by have:=Kk.le; simp; omega,fun j hj hji=>by rw [Zbl (by omega)]; exact Kk.eq j hj hji⟩,p4,hp1,by omega,Rk.agree (fun j hj=>by rw [Zbl (by omega)]) (by simp)⟩
 have Rg1':=Rg1.lt
 have hxl:=Own.lt xg1
 have hzl1:=Own.lt zg1
 refine ⟨?_,?_,?_⟩
 ·
  refine (Zdd Rg1 (by omega) (n0:Int)).mono ?_
  rintro v g2 ⟨x,rfl,hx0,hx1,_,pg2,Rg2,lg2⟩
  have hx1:=hx1 (by omega)
  have qg2:=Own.lt xg1
  have q2g2:=Own.lt zg1
  have Kg2:=Kg1.trans pg2
  have xg2:=pg2.get xg1 (by first | omega | (have:=Own.lt xg1; omega))
  have zg2:=pg2.get zg1 (by first | omega | (have:=Own.lt zg1; omega))
  obtain ⟨k,rfl⟩:∃ k:Nat,x=k:=⟨x.toNat,by omega⟩
  obtain ⟨ic,oc,hkc,ha,hicl,_,cg2,_⟩:=(d.kp Kg2 hib).rep.class (k:=k) (by omega)
  subst ha
  have hcl:=(ws.cs _ (List.getElem_mem hkc)).1
  simp only [Zaq,Zak xg2,Zak xg1,Zaw,Int.toNat_natCast,Nat.add_zero,cg2,Zam,true_and,eq_self,List.getElem?_cons_zero]
  refine ⟨⟨by omega,by omega⟩,?_⟩
  refine ⟨?_,?_⟩
  ·
   generalize hg3:g2 ++ [Zcc.cells Zae [] false]=g3
   have sg3:Zbe g2.length g2 g3:=by rw [← hg3]; exact Zao
   have lg3:g3.length=g2.length + 1:=by rw [← hg3]; simp
   have Kg3:=Kg2.trans (Zdp.of_same (i:=i) sg3)
   have Rg3:=Rg2.same sg3
   have xg3:=sg3.get xg2 (Own.lt xg2)
   have zg3:=sg3.get zg2 (Own.lt zg2)
   have eg3:g3[g2.length]?=some (.cells Zae [] false):=by rw [← hg3]; simp
   have qg3:=Own.lt xg2
   have cg3:Zai g3 (.ptr (some (ic,oc + k * 2)))=some (.str w.cs[k].1):=by rw [← hg3,Zrh (by omega)]; exact cg2
   try simp only [Zak xg3,Zak xg2,cg3,cg2,true_and,eq_self,List.getElem?_cons_zero]
   generalize hg4:g3 ++ [Zcc.cells Zac [.str [],.str [],.slice none 0 0 true] false]=g4
   have sg4:Zbe g3.length g3 g4:=by rw [← hg4]; exact Zao
   have lg4:g4.length=g3.length + 1:=by rw [← hg4]; simp
   have Kg4:=Kg3.trans (Zdp.of_same (i:=i) sg4)
   have Rg4:=Rg3.same sg4
   have xg4:=sg4.get xg3 (Own.lt xg3)
   have zg4:=sg4.get zg3 (Own.lt zg3)
   have ig4:g4[g3.length]?=some (.cells Zac [.str [],.str [],.slice none 0 0 true] false):=by rw [← hg4]; simp
   have eg4:=sg4.get eg3 (Own.lt eg3)
   have qg4:=Own.lt xg3
   have cg4:Zai g4 (.ptr (some (ic,oc + k * 2)))=some (.str w.cs[k].1):=by rw [← hg4,Zrh (by omega)]; exact cg3
   try simp only [Zak xg4,Zak xg3,cg4,cg3,true_and,eq_self,List.getElem?_cons_zero]
   exact fin g4 g3.length g2.length _ _ Kg4 Rg4 (by omega) (by omega) xg4 zg4 eg4 ig4 (by omega) (by omega) hcl
  ·
   generalize hg5:g2 ++ [Zcc.cells Zac [.str [],.str [],.slice none 0 0 true] false]=g5
   have sg5:Zbe g2.length g2 g5:=by rw [← hg5]; exact Zao
   have lg5:g5.length=g2.length + 1:=by rw [← hg5]; simp
   have Kg5:=Kg2.trans (Zdp.of_same (i:=i) sg5)
   have Rg5:=Rg2.same sg5
   have xg5:=sg5.get xg2 (Own.lt xg2)
   have zg5:=sg5.get zg2 (Own.lt zg2)
   have ig5:g5[g2.length]?=some (.cells Zac [.str [],.str [],.slice none 0 0 true] false):=by rw [← hg5]; simp
   have qg5:=Own.lt xg2
   have cg5:Zai g5 (.ptr (some (ic,oc + k * 2)))=some (.str w.cs[k].1):=by rw [← hg5,Zrh (by omega)]; exact cg2
   try simp only [Zak xg5,Zak xg2,cg5,cg2,true_and,eq_self,List.getElem?_cons_zero]
   generalize hg6:g5 ++ [Zcc.cells Zae [] false]=g6
   have sg6:Zbe g5.length g5 g6:=by rw [← hg6]; exact Zao
   have lg6:g6.length=g5.length + 1:=by rw [← hg6]; simp
   have Kg6:=Kg5.trans (Zdp.of_same (i:=i) sg6)
   have Rg6:=Rg5.same sg6
   have xg6:=sg6.get xg5 (Own.lt xg5)
   have zg6:=sg6.get zg5 (Own.lt zg5)
   have eg6:g6[g5.length]?=some (.cells Zae [] false):=by rw [← hg6]; simp
   have ig6:=sg6.get ig5 (Own.lt ig5)
   have qg6:=Own.lt xg5
   have cg6:Zai g6 (.ptr (some (ic,oc + k * 2)))=some (.str w.cs[k].1):=by rw [← hg6,Zrh (by omega)]; exact cg5
   try simp only [Zak xg6,Zak xg5,cg6,cg5,true_and,eq_self,List.getElem?_cons_zero]
   exact fin g6 g2.length g5.length _ _ Kg6 Rg6 (by omega) (by omega) xg6 zg6 eg6 ig6 (by omega) (by omega) hcl
 ·
  generalize hg7:g1 ++ [Zcc.cells Zae [] false]=g7
  have sg7:Zbe g1.length g1 g7:=by rw [← hg7]; exact Zao
  have lg7:g7.length=g1.length + 1:=by rw [← hg7]; simp
  have Kg7:=Kg1.trans (Zdp.of_same (i:=i) sg7)
  have Rg7:=Rg1.same sg7
  have xg7:=sg7.get xg1 (Own.lt xg1)
  have zg7:=sg7.get zg1 (Own.lt zg1)
  have eg7:g7[g1.length]?=some (.cells Zae [] false):=by rw [← hg7]; simp
  have qg7:=Own.lt xg1
  try simp only [Zak xg7,Zak xg1,true_and,eq_self,List.getElem?_cons_zero]
  refine ⟨?_,?_⟩
  ·
   refine (Zdd Rg7 (by omega) (n0:Int)).mono ?_
   rintro v g8 ⟨x,rfl,hx0,hx1,_,pg8,Rg8,lg8⟩
   have hx1:=hx1 (by omega)
   have qg8:=Own.lt xg7
   have q2g8:=Own.lt zg7
   have Kg8:=Kg7.trans pg8
   have xg8:=pg8.get xg7 (by first | omega | (have:=Own.lt xg7; omega))
   have zg8:=pg8.get zg7 (by first | omega | (have:=Own.lt zg7; omega))
   have eg8:=pg8.get eg7 (by first | omega | (have:=Own.lt eg7; omega))
   obtain ⟨k,rfl⟩:∃ k:Nat,x=k:=⟨x.toNat,by omega⟩
   obtain ⟨ic,oc,hkc,ha,hicl,_,cg8,_⟩:=(d.kp Kg8 hib).rep.class (k:=k) (by omega)
   subst ha
   have hcl:=(ws.cs _ (List.getElem_mem hkc)).1
   simp only [Zaq,Zak xg8,Zak xg7,Zaw,Int.toNat_natCast,Nat.add_zero,cg8,Zam,true_and,eq_self,List.getElem?_cons_zero]
   refine ⟨⟨by omega,by omega⟩,?_⟩
   generalize hg9:g8 ++ [Zcc.cells Zac [.str [],.str [],.slice none 0 0 true] false]=g9
   have sg9:Zbe g8.length g8 g9:=by rw [← hg9]; exact Zao
   have lg9:g9.length=g8.length + 1:=by rw [← hg9]; simp
   have Kg9:=Kg8.trans (Zdp.of_same (i:=i) sg9)
   have Rg9:=Rg8.same sg9
   have xg9:=sg9.get xg8 (Own.lt xg8)
   have zg9:=sg9.get zg8 (Own.lt zg8)
   have ig9:g9[g8.length]?=some (.cells Zac [.str [],.str [],.slice none 0 0 true] false):=by rw [← hg9]; simp
   have eg9:=sg9.get eg8 (Own.lt eg8)
   have qg9:=Own.lt xg8
   have cg9:Zai g9 (.ptr (some (ic,oc + k * 2)))=some (.str w.cs[k].1):=by rw [← hg9,Zrh (by omega)]; exact cg8
   try simp only [Zak xg9,Zak xg8,cg9,cg8,true_and,eq_self,List.getElem?_cons_zero]
   exact fin g9 g8.length g1.length _ _ Kg9 Rg9 (by omega) (by omega) xg9 zg9 eg9 ig9 (by omega) (by omega) hcl
  ·
   generalize hg10:g7 ++ [Zcc.cells Zac [.str [],.str [],.slice none 0 0 true] false]=g10
   have sg10:Zbe g7.length g7 g10:=by rw [← hg10]; exact Zao
   have lg10:g10.length=g7.length + 1:=by rw [← hg10]; simp
   have Kg10:=Kg7.trans (Zdp.of_same (i:=i) sg10)
   have Rg10:=Rg7.same sg10
   have xg10:=sg10.get xg7 (Own.lt xg7)
   have zg10:=sg10.get zg7 (Own.lt zg7)
   have ig10:g10[g7.length]?=some (.cells Zac [.str [],.str [],.slice none 0 0 true] false):=by rw [← hg10]; simp
   have eg10:=sg10.get eg7 (Own.lt eg7)
   have qg10:=Own.lt xg7
   try simp only [Zak xg10,Zak xg7,true_and,eq_self,List.getElem?_cons_zero]
   refine (Zdd Rg10 (by omega) (n0:Int)).mono ?_
   rintro v g11 ⟨x,rfl,hx0,hx1,_,pg11,Rg11,lg11⟩
   have hx1:=hx1 (by omega)
   have qg11:=Own.lt xg10
   have q2g11:=Own.lt zg10
   have Kg11:=Kg10.trans pg11
   have xg11:=pg11.get xg10 (by first | omega | (have:=Own.lt xg10; omega))
   have zg11:=pg11.get zg10 (by first | omega | (have:=Own.lt zg10; omega))
   have eg11:=pg11.get eg10 (by first | omega | (have:=Own.lt eg10; omega))
   have ig11:=pg11.get ig10 (by first | omega | (have:=Own.lt ig10; omega))
   obtain ⟨k,rfl⟩:∃ k:Nat,x=k:=⟨x.toNat,by omega⟩
   obtain ⟨ic,oc,hkc,ha,hicl,_,cg11,_⟩:=(d.kp Kg11 hib).rep.class (k:=k) (by omega)
   subst ha
   have hcl:=(ws.cs _ (List.getElem_mem hkc)).1
   simp only [Zaq,Zak xg11,Zak xg10,Zaw,Int.toNat_natCast,Nat.add_zero,cg11,Zam,true_and,eq_self,List.getElem?_cons_zero]
   refine ⟨⟨by omega,by omega⟩,?_⟩
   exact fin g11 g7.length g1.length _ _ Kg11 Rg11 (by omega) (by omega) xg11 zg11 eg11 ig11 (by omega) (by omega) hcl
 ·
  generalize hg12:g1 ++ [Zcc.cells Zac [.str [],.str [],.slice none 0 0 true] false]=g12
  have sg12:Zbe g1.length g1 g12:=by rw [← hg12]; exact Zao
  have lg12:g12.length=g1.length + 1:=by rw [← hg12]; simp
  have Kg12:=Kg1.trans (Zdp.of_same (i:=i) sg12)
  have Rg12:=Rg1.same sg12
  have xg12:=sg12.get xg1 (Own.lt xg1)
  have zg12:=sg12.get zg1 (Own.lt zg1)
  have ig12:g12[g1.length]?=some (.cells Zac [.str [],.str [],.slice none 0 0 true] false):=by rw [← hg12]; simp
  have qg12:=Own.lt xg1
  try simp only [Zak xg12,Zak xg1,true_and,eq_self,List.getElem?_cons_zero]
  refine ⟨?_,?_⟩
  ·
   refine (Zdd Rg12 (by omega) (n0:Int)).mono ?_
   rintro v g13 ⟨x,rfl,hx0,hx1,_,pg13,Rg13,lg13⟩
   have hx1:=hx1 (by omega)
   have qg13:=Own.lt xg12
   have q2g13:=Own.lt zg12
   have Kg13:=Kg12.trans pg13
   have xg13:=pg13.get xg12 (by first | omega | (have:=Own.lt xg12; omega))
   have zg13:=pg13.get zg12 (by first | omega | (have:=Own.lt zg12; omega))
   have ig13:=pg13.get ig12 (by first | omega | (have:=Own.lt ig12; omega))
   obtain ⟨k,rfl⟩:∃ k:Nat,x=k:=⟨x.toNat,by omega⟩
   obtain ⟨ic,oc,hkc,ha,hicl,_,cg13,_⟩:=(d.kp Kg13 hib).rep.class (k:=k) (by omega)
   subst ha
   have hcl:=(ws.cs _ (List.getElem_mem hkc)).1
   simp only [Zaq,Zak xg13,Zak xg12,Zaw,Int.toNat_natCast,Nat.add_zero,cg13,Zam,true_and,eq_self,List.getElem?_cons_zero]
   refine ⟨⟨by omega,by omega⟩,?_⟩
   generalize hg14:g13 ++ [Zcc.cells Zae [] false]=g14
   have sg14:Zbe g13.length g13 g14:=by rw [← hg14]; exact Zao
   have lg14:g14.length=g13.length + 1:=by rw [← hg14]; simp
   have Kg14:=Kg13.trans (Zdp.of_same (i:=i) sg14)
   have Rg14:=Rg13.same sg14
   have xg14:=sg14.get xg13 (Own.lt xg13)
   have zg14:=sg14.get zg13 (Own.lt zg13)
   have eg14:g14[g13.length]?=some (.cells Zae [] false):=by rw [← hg14]; simp
   have ig14:=sg14.get ig13 (Own.lt ig13)
   have qg14:=Own.lt xg13
   have cg14:Zai g14 (.ptr (some (ic,oc + k * 2)))=some (.str w.cs[k].1):=by rw [← hg14,Zrh (by omega)]; exact cg13
   try simp only [Zak xg14,Zak xg13,cg14,cg13,true_and,eq_self,List.getElem?_cons_zero]
   exact fin g14 g1.length g13.length _ _ Kg14 Rg14 (by omega) (by omega) xg14 zg14 eg14 ig14 (by omega) (by omega) hcl
  ·
   generalize hg15:g12 ++ [Zcc.cells Zae [] false]=g15
   have sg15:Zbe g12.length g12 g15:=by rw [← hg15]; exact Zao
   have lg15:g15.length=g12.length + 1:=by rw [← hg15]; simp
   have Kg15:=Kg12.trans (Zdp.of_same (i:=i) sg15)
   have Rg15:=Rg12.same sg15
   have xg15:=sg15.get xg12 (Own.lt xg12)
   have zg15:=sg15.get zg12 (Own.lt zg12)
   have eg15:g15[g12.length]?=some (.cells Zae [] false):=by rw [← hg15]; simp
   have ig15:=sg15.get ig12 (Own.lt ig12)
   have qg15:=Own.lt xg12
   try simp only [Zak xg15,Zak xg12,true_and,eq_self,List.getElem?_cons_zero]
   refine (Zdd Rg15 (by omega) (n0:Int)).mono ?_
   rintro v g16 ⟨x,rfl,hx0,hx1,_,pg16,Rg16,lg16⟩
   have hx1:=hx1 (by omega)
   have qg16:=Own.lt xg15
   have q2g16:=Own.lt zg15
   have Kg16:=Kg15.trans pg16
   have xg16:=pg16.get xg15 (by first | omega | (have:=Own.lt xg15; omega))
   have zg16:=pg16.get zg15 (by first | omega | (have:=Own.lt zg15; omega))
   have eg16:=pg16.get eg15 (by first | omega | (have:=Own.lt eg15; omega))
   have ig16:=pg16.get ig15 (by first | omega | (have:=Own.lt ig15; omega))
   obtain ⟨k,rfl⟩:∃ k:Nat,x=k:=⟨x.toNat,by omega⟩
   obtain ⟨ic,oc,hkc,ha,hicl,_,cg16,_⟩:=(d.kp Kg16 hib).rep.class (k:=k) (by omega)
   subst ha
   have hcl:=(ws.cs _ (List.getElem_mem hkc)).1
   simp only [Zaq,Zak xg16,Zak xg15,Zaw,Int.toNat_natCast,Nat.add_zero,cg16,Zam,true_and,eq_self,List.getElem?_cons_zero]
   refine ⟨⟨by omega,by omega⟩,?_⟩
   exact fin g16 g1.length g12.length _ _ Kg16 Rg16 (by omega) (by omega) xg16 zg16 eg16 ig16 (by omega) (by omega) hcl
--END ORDERS
end Go.Sim

set_option linter.unusedVariables false
set_option linter.unusedSimpArgs false
set_option maxRecDepth 20000
namespace Go.Sim
open Go Go.RowKit

theorem WDr.setW {b:Nat} {h:Zaa} {a0:Pt} {n0 c0 q n1 c1:Nat} {ys:List EI} {w:Wd} {z:Nat} {cs:List Zas} {x:Zcc} (d:WDr b h a0 n0 c0 q n1 c1 ys w) (hz:h[z]?=some (.cells Zad cs false)):WDr b (h.set z x) a0 n0 c0 q n1 c1 ys w:=by
 have off:∀ {j:Nat} {t:TypeId} {c:List Zas},h[j]?=some (.cells t c false)→t≠Zad→(h.set z x)[j]?=some (.cells t c false):=fun {j t c} hj hne=>by rw [Zbl (Zfe hz hj (Ne.symm hne))]; exact hj
 exact ⟨⟨d.cls.1,d.cls.2.imp id fun ⟨i,ha,hb,hi⟩=>⟨i,ha,hb,off hi (by decide)⟩⟩,d.le0,d.bq,off d.ob (by decide),d.len,d.wl,d.le1,fun k x' i hx hi=>⟨(d.need k x' i hx hi).1,(d.need k x' i hx hi).2.1,⟨(d.need k x' i hx hi).2.2.1,(d.need k x' i hx hi).2.2.2.imp id fun ⟨i,ha,hb,hi⟩=>⟨i,ha,hb,off hi (by decide)⟩⟩⟩⟩
theorem RdK.setW {i p k z:Nat} {h h':Zaa} {x:Zcc} (r:RdK i p k h h') (hz:h.length≤z) (hi:i < h.length):RdK i p k h (h'.set z x):=
 ⟨⟨by have:=r.1.le; simp; omega,fun j hj hji=>by rw [Zbl (by omega)]; exact r.1.eq j hj hji⟩,r.2.imp fun p' ⟨h1,h2,h3⟩=>⟨h1,h2,h3.agree (fun j hj=>Zbl (by omega)) (by simp)⟩⟩
def DWQ (i p k m:Nat) (h:Zaa) (v:Zas) (h':Zaa):Prop:=∃ u w,v=.agg u∧Yva h h' u w∧WS m w∧RdK i p k h h'
theorem Ymu {h:Zaa} {i p:Nat} (r:Rdr h i p) (hp:p≤700000000000):Zah pg Zow [.ptr (some (i,0))] h (DWQ i p 100000 1010 h):=by
 have hil:=r.lt
 apply Zjv.call
 simp only [Zax]
 generalize hg0:h ++ [Zcc.cells Zad [.slice none 0 0 true,.slice none 0 0 true] false]=g0
 have s0:Zbe h.length h g0:=by rw [← hg0]; exact Zao
 have z0:g0[h.length]?=some (.cells Zad [.slice none 0 0 true,.slice none 0 0 true] false):=by rw [← hg0]; simp
 have l0:g0.length=h.length + 1:=by rw [← hg0]; simp
 refine (Zdd (r.same s0) (by omega) 2).mono ?_
 rintro v g1 ⟨x,rfl,_,_,_,K1,R1,l1⟩
 have z1:=K1.get z0 (by omega)
 have KK1:=(Zdp.of_same (i:=i) s0).trans K1
 simp only [Zaq]
 refine Zcs (fun _=>?_) (fun _=>?_)
 ·refine (Zdd R1 (by omega) 9).mono ?_
  rintro v g2 ⟨y,rfl,hy0,hy1,_,K2,R2,l2⟩
  simp only [Zaq]
  refine (Yic hy0 (hy1 (by omega))).mono ?_
  rintro v g3 ⟨s3,u,w,rfl,⟨a0,n0,c0,e0,q,n1,c1,e1,ys,rfl,d⟩,ws⟩
  have z3:=s3.get (K2.get z1 (by omega)) (by have:=Own.lt z1; omega)
  have K3:=(KK1.trans K2).trans (Zdp.of_same s3)
  simp only [Zde,Zaj,Zaf,Zar]
  rw [Zba z3 (by simp)]
  simp only [Zat,putRow,List.take_zero,List.length_cons,List.length_nil,List.drop_succ_cons,List.drop_zero,List.drop_nil,List.cons_append,List.nil_append,List.append_nil,Nat.zero_add]
  rw [Zbk (Zbv z3)]
  simp only [Zau,Zaj,Zar,Zaf]
  have rk:RdK i p 100000 h g3:=⟨K3,_,by omega,by omega,R2.same s3⟩
  exact ⟨_,w,rfl,⟨a0,n0,c0,e0,q,n1,c1,e1,ys,rfl,(d.low (by omega)).setW z3⟩,ws.mono (by omega),rk.setW (Nat.le_refl _) hil⟩
 ·have h1l:=R1.lt
  refine (Zlm (R1.app _) (by omega) (j:=g1.length) (t:=Zbg) (n:=5) (l:=Zue) (by simp [Zdq,eS,Zue]) (by omega) rfl (by omega)).mono ?_
  rintro v g2 ⟨s,hs,rfl,K2,R2,l2⟩
  simp only [Zam]
  have hsz:s.length≤900∧∀ b∈s,b < 256:=by
   simp only [Zue,List.mem_cons,List.not_mem_nil,or_false] at hs
   rcases hs with rfl | rfl | rfl | rfl | rfl <;> exact ⟨by decide,by decide⟩
  obtain ⟨hcs,his⟩:=Yrz s hs
  have K02:=(KK1.trans (Zdp.app i g1 [Zcc.cells Zbg [.str [69],.str [69,32,79,60,69],.str [65,32,66],.str [65,32,66,60,65,32,67,60,65,66],.str [69,32,79,60,69,32,83]] false])).trans K2
  have z2:=K2.get (Zft z1) (by omega)
  refine (Zsd s hsz.1 hsz.2).mono ?_
  rintro v g3 ⟨s3,u,bb,rfl,a0,n0,c0,e0,q,n1,c1,e1,ys,rfl,d⟩
  have z3:=s3.get z2 (Own.lt z2)
  have K03:=K02.trans (Zdp.of_same s3)
  simp only [Zdx,Zde,Zaj,Zaf,Zar,Zap]
  rw [Zgk]
  simp only [Zat]
  generalize hg4:g3 ++ [Zcc.cells Zad [.slice a0 n0 c0 e0,.slice (some (q,0)) n1 c1 e1] false]=g4
  have s4:Zbe g3.length g3 g4:=by rw [← hg4]; exact Zao
  have y4:g4[g3.length]?=some (.cells Zad [.slice a0 n0 c0 e0,.slice (some (q,0)) n1 c1 e1] false):=by rw [← hg4]; simp
  have z4:=s4.get z3 (Own.lt z3)
  have K04:=K03.trans (Zdp.of_same s4)
  have hz2:=Own.lt z2
  have l3:=s3.le
  have hiz:i≠g3.length:=by omega
  refine (Zdd ((R2.same s3).same s4) (by omega) 6).mono ?_
  rintro v g5 ⟨x5,rfl,hx50,hx51,_,K5,R5,l5⟩
  have hx51:=hx51 (by omega)
  simp only [Zaq]
  rw [IntWalk.i64_in (1 + x5) (by omega)]
  have y5:=K5.get y4 (by omega)
  have z5:=K5.get z4 (by omega)
  have K05:=K04.trans K5
  have ws0:=Zxp hsz.1 hsz.2
  have hn0:1≤n0:=by
   have:=d.cls.1
   have h2:(wdP s).cs.length≠0:=fun e=>hcs (List.eq_nil_of_length_eq_zero e)
   omega
  have d5:WDr h.length g5 a0 n0 c0 q n1 c1 ys (wdP s):=(((d.low (by omega)).same s4)).kp K5 (by omega)
  refine Zjv.L5ind (J:=fun (g:Nat) x21 k=>x21=(g:Int)∧(g:Int)≤1 + x5∧Zdp i h k∧(∃ p',p≤p'∧p'≤p + 10 + g * 10000∧Rdr k i p')∧k[h.length]?=some (.cells Zad [.slice none 0 0 true,.slice none 0 0 true] false) ∧
    ∃ q n1 c1 e1 ys w,k[g3.length]?=some (.cells Zad [.slice a0 n0 c0 e0,.slice (some (q,0)) n1 c1 e1] false)∧WDr h.length k a0 n0 c0 q n1 c1 ys w∧WS (1000 + g) w) (m:=fun g=>(1 + x5).toNat - g) (hr:=?_) (g:=0)
   (hj:=⟨rfl,by omega,K05,⟨_,by omega,by omega,R5⟩,z5,q,n1,c1,e1,ys,_,y5,d5,ws0⟩) ..
  rintro g x21 k ⟨rfl,hg,Kk,⟨p4,hp1,hp2,Rk⟩,zk,q,n1,c1,e1,ys,w,yk,dk,wsk⟩ R hR
  have hkl:=Rk.lt
  have hyl:=Own.lt yk
  have hn1:n1≤2000:=by have:=wsk.li; have:=dk.wl; omega
  unfold Zjv.L5t
  refine Zav (fun hlt=>?_) (fun hge=>?_)
  ·simp only [Zak yk,Nat.zero_add,List.getElem?_cons_succ,List.getElem?_cons_zero,Zaf]
   rw [Zbk yk]
   simp only [Zau,Zaj,Zar,Zaf,true_and]
   refine (Zuo Rk (by omega) dk (by omega) hn0 wsk).mono ?_
   rintro v k1 ⟨I,na,nc,ne,rfl,hnc,nf,isz,K1',p5,hp3,hp4,R5'⟩
   have yk1:=K1'.get yk (by omega)
   have zk1:=K1'.get zk (by omega)
   have dk1:=dk.kp K1' (by omega)
   have hk1l:=K1'.le
   simp only [Zde,Zaj,Zar,Zam,Zaf,Zax]
   refine ⟨by rw [Zak yk1]; rfl,by rw [Zak (Zft yk1),Zak yk1],?_⟩
   refine (Vec.mk1 (n:=n1) (c:=c1) dk1.ob).pushN (sz:=3) Zox Zym Zyi Zyq (by rw [Zay Znw,dk1.len]) rfl (by omega) rfl (by omega) (fun k2 hl2 hi2 hk2=>?_)
   have hqb:=dk1.bq
   have yk2:k2[g3.length]?=some (.cells Zad [.slice a0 n0 c0 e0,.slice (some (q,0)) n1 c1 e1] false):=by rw [hk2 _ (Own.lt yk1) (fun i hi=>by cases hi; exact Zfe yk1 dk1.ob (by decide))]; exact yk1
   have zk2:k2[h.length]?=some (.cells Zad [.slice none 0 0 true,.slice none 0 0 true] false):=by rw [hk2 _ (Own.lt zk1) (fun i hi=>by cases hi; exact Zfe zk1 dk1.ob (by decide))]; exact zk1
   simp only [Zaf]
   rw [Zba yk2 (by simp)]
   simp only [Zat,putRow,List.take_succ_cons,List.take_zero,List.length_cons,List.length_nil,List.drop_succ_cons,List.drop_zero,List.drop_nil,List.cons_append,List.nil_append,List.append_nil]
   rw [Zbt (by omega)]
   have dk2:WDr h.length k2 a0 n0 c0 (k1.length + 1) (n1 + 1) (n1 + 1) (ys ++ [⟨I.1.1,I.1.2,na,I.2.length,nc,ne⟩]) ⟨w.cs,w.is ++ [I]⟩:=
    dk1.push (z:=q) (x:=⟨I.1.1,I.1.2,na,I.2.length,nc,ne⟩) ⟨rfl,rfl,nf.low (by omega)⟩ (by omega) (by simpa [eN] using hi2) (fun o ho=>by rw [dk1.ob] at ho; cases ho; exact ⟨_,rfl⟩) (fun j hj hne=>hk2 j hj (fun i hi=>by cases hi; exact hne)) (Nat.le_refl _)
   have K2':Zdp i h k2:=by
    have K01:=Kk.trans K1'
    have:=K01.le
    exact ⟨by omega,fun j hj hji=>by rw [hk2 j (by omega) (fun i' hi'=>by cases hi'; omega)]; exact K01.eq j hj hji⟩
   have rk:RdK i p (10 + (g + 1) * 10000) h k2:=⟨K2',p5,by omega,by omega,R5'.agree (fun j hj=>hk2 j (by omega) (fun i' hi'=>by cases hi'; omega)) (by omega)⟩
   obtain ⟨K3',p6,hp5,hp6,R6⟩:=rk.setW (z:=g3.length) (x:=.cells Zad [.slice a0 n0 c0 e0,.slice (some (k1.length + 1,0)) (n1 + 1) (n1 + 1) false] false) (by omega) hil
   exact hR (g + 1) _ _ (by omega) ⟨rfl,by omega,K3',⟨p6,hp5,by omega,R6⟩,by rw [Zbl (by omega)]; exact zk2,k1.length + 1,n1 + 1,n1 + 1,false,_,_,Zbv yk2,dk2.setW yk2,wsk.addI isz⟩
  ·apply Zjv.A5x0i
   rw [Zbk yk]
   simp only [Zau,Zaj,Zar,Zaf]
   rw [Zba zk (by simp)]
   simp only [Zat,putRow,List.take_zero,List.length_cons,List.length_nil,List.drop_succ_cons,List.drop_zero,List.drop_nil,List.cons_append,List.nil_append,List.append_nil,Nat.zero_add]
   rw [Zbk (Zbv zk)]
   simp only [Zau,Zaj,Zar,Zaf]
   have rk:RdK i p 100000 h k:=⟨Kk,p4,hp1,by omega,Rk⟩
   exact ⟨_,w,rfl,⟨a0,n0,c0,e0,q,n1,c1,e1,ys,rfl,dk.setW zk⟩,wsk.mono (by omega),rk.setW (Nat.le_refl _) hil⟩
end Go.Sim

set_option linter.unusedVariables false
set_option linter.unusedSimpArgs false
set_option maxRecDepth 20000
namespace Go.Sim
open Go Go.RowKit

def WAt (b:Nat) (h:Zaa) (u:List Zas) (w:Wd):Prop:=∃ a0 n0 c0 e0 q n1 c1 e1 ys,u=[.slice a0 n0 c0 e0,.slice (some (q,0)) n1 c1 e1]∧WDr b h a0 n0 c0 q n1 c1 ys w
theorem RdK.trans {i p k k' p':Nat} {h h1 h2:Zaa} (a:Zdp i h h1) (hp:p≤p') (hk:p' + k'≤p + k) (r:RdK i p' k' h1 h2):RdK i p k h h2:=⟨a.trans r.1,r.2.imp fun q ⟨h1,h2,h3⟩=>⟨by omega,by omega,h3⟩⟩
theorem WDr.newCls {b:Nat} {h h':Zaa} {a0:Pt} {n0 c0 q n1 c1:Nat} {ys:List EI} {w:Wd} (d:WDr b h a0 n0 c0 q n1 c1 ys w) (off:∀ {j:Nat} {t:TypeId} {cs:List Zas},t≠Zbh→t≠Zad→h[j]?=some (.cells t cs false)→h'[j]?=some (.cells t cs false))
  {y n c:Nat} {cs':List Nd} (hy:h'[y]?=some (.cells Zbh (Zdq eP cs') false)) (hb:b≤y) (hn:cs'.length=n) (hc:n≤c):WDr b h' (some (y,0)) n c q n1 c1 ys ⟨cs',w.is⟩:=
 ⟨⟨hn,.inr ⟨y,rfl,hb,hy⟩⟩,hc,d.bq,off (by decide) (by decide) d.ob,d.len,d.wl,d.le1,fun k x i hx hi=>⟨(d.need k x i hx hi).1,(d.need k x i hx hi).2.1,⟨(d.need k x i hx hi).2.2.1,(d.need k x i hx hi).2.2.2.imp id fun ⟨j,ha,hb,hj⟩=>⟨j,ha,hb,off (by decide) (by decide) hj⟩⟩⟩⟩
theorem Ypd {h:Zaa} {i p b m:Nat} {a0:Pt} {n0 c0 q n1 c1:Nat} {e0 e1:Bool} {ys:List EI} {w:Wd} (r:Rdr h i p) (hp:p≤800000000000) (d:WDr b h a0 n0 c0 q n1 c1 ys w) (hib:i < b) (hbh:b≤h.length) (ws:WS m w) (hm:m≤100000) :
  Zah pg Zqk [.ptr (some (i,0)),.agg [.slice a0 n0 c0 e0,.slice (some (q,0)) n1 c1 e1]] h fun v h'=>∃ u w',v=.agg u∧WAt b h' u w'∧WS (m + 11) w'∧RdK i p 100 h h':=by
 have hil:=r.lt
 have hn0:n0≤100000:=by have:=ws.lc; have:=d.cls.1; omega
 have hn1:n1≤100000:=by have:=ws.li; have:=d.wl; omega
 apply Zhq.call
 simp only [Zax]
 generalize hg0:h ++ [Zcc.cells Zad [.slice a0 n0 c0 e0,.slice (some (q,0)) n1 c1 e1] false]=g0
 have s0:Zbe h.length h g0:=by rw [← hg0]; exact Zao
 have x0:g0[h.length]?=some (.cells Zad [.slice a0 n0 c0 e0,.slice (some (q,0)) n1 c1 e1] false):=by rw [← hg0]; simp
 have l0:g0.length=h.length + 1:=by rw [← hg0]; simp
 generalize hg1:g0 ++ [Zcc.cells Zad [.slice none 0 0 true,.slice none 0 0 true] false]=g1
 have s1:Zbe g0.length g0 g1:=by rw [← hg1]; exact Zao
 have x1:=s1.get x0 (Own.lt x0)
 have z1:g1[g0.length]?=some (.cells Zad [.slice none 0 0 true,.slice none 0 0 true] false):=by rw [← hg1]; simp
 have l1:g1.length=g0.length + 1:=by rw [← hg1]; simp
 have S1:=s0.cat s1
 refine (Zdd (r.same S1) (by omega) 36).mono ?_
 rintro v g3 ⟨x,rfl,_,_,_,K3,R3,l3⟩
 have x3:=K3.get x1 (by omega)
 have z3:=K3.get z1 (by omega)
 have KK3:=(Zdp.of_same (i:=i) S1).trans K3
 have d3:WDr b g3 a0 n0 c0 q n1 c1 ys w:=(d.same S1).kp K3 hib
 simp only [Zaq]
 have fin:∀ (G:Zaa) (a0:Pt) (n0 c0:Nat) (e0:Bool) (q n1 c1:Nat) (e1:Bool) (ys:List EI) (w':Wd) (p':Nat),Zdp i h G→Rdr G i p'→p≤p'→p'≤p + 100→G[h.length]?=some (.cells Zad [.slice a0 n0 c0 e0,.slice (some (q,0)) n1 c1 e1] false)→G[g0.length]?=some (.cells Zad [.slice none 0 0 true,.slice none 0 0 true] false) →
   WDr b G a0 n0 c0 q n1 c1 ys w'→WS (m + 11) w'→Zhq.J11 (fun v h'=>∃ u w',v=.agg u∧WAt b h' u w'∧WS (m + 11) w'∧RdK i p 100 h h') h.length 0 g0.length 0 G:=by
  intro G a0 n0 c0 e0 q n1 c1 e1 ys w' p' KG RG h1 h2 xG zG dG wG
  apply Zhq.J11i
  rw [Zbk xG]
  simp only [Zau,Zaj,Zar,Zaf]
  rw [Zba zG (by simp)]
  simp only [Zat,putRow,List.take_zero,List.length_cons,List.length_nil,List.drop_succ_cons,List.drop_zero,List.drop_nil,List.cons_append,List.nil_append,List.append_nil,Nat.zero_add]
  rw [Zbk (Zbv zG)]
  simp only [Zau,Zaj,Zar,Zaf]
  have rk:RdK i p 100 h G:=⟨KG,p',h1,h2,RG⟩
  exact ⟨_,w',rfl,⟨a0,n0,c0,e0,q,n1,c1,e1,ys,rfl,dG.setW zG⟩,wG,rk.setW (by omega) hil⟩
 have h3l:=R3.lt
 have hx3l:=Own.lt x3
 have hz3l:=Own.lt z3
 refine Zcs (fun _=>?_) (fun _=>Zcs (fun _=>?_) (fun _=>Zcs (fun _=>?_) (fun _=>?_)))
 ·-- one class more
  generalize hg5:g3 ++ [Zcc.cells Zbh [] false]=g5
  have s5:Zbe g3.length g3 g5:=by rw [← hg5]; exact Zao
  have c5:g5[g3.length]?=some (.cells Zbh [] false):=by rw [← hg5]; simp
  have l5:g5.length=g3.length + 1:=by rw [← hg5]; simp
  have x5:=s5.get x3 hx3l
  have z5:=s5.get z3 hz3l
  have d5:=d3.same s5
  have R5:=R3.same s5
  simp only [Zak x5,Nat.zero_add,List.getElem?_cons_zero,Zaf]
  refine Vec.app0 (n:=0) (e:=true) c5 Zwg Yho Yhc Yhs (by simp) ((d5.cls.row Zfp).rowOf) (Zqy (enc:=eP) (fun _=>rfl) w.cs) (by omega) (fun g6 hl6 hi6 hk6=>?_)
  have keep6:∀ {j:Nat} {o:Zcc},g5[j]?=some o→j≠g3.length→g6[j]?=some o:=fun {j o} hj hne=>by rw [hk6 j (Own.lt hj) hne]; exact hj
  have x6:=keep6 x5 (by omega)
  have z6:=keep6 z5 (by omega)
  have d6:WDr b g6 a0 n0 c0 q n1 c1 ys w:=d3.keep fun j hj hjl=>by rw [hk6 j (by omega) (by omega),s5.eq j hjl]
  have K6:Zdp i h g6:=by
   have:=(KK3.trans (Zdp.of_same s5)).le
   exact ⟨by omega,fun j hj hji=>by rw [hk6 j (by omega) (by have:=KK3.le; omega)]; exact (KK3.trans (Zdp.of_same s5)).eq j hj hji⟩
  have R6:Rdr g6 i (p + 1):=R5.agree (fun j hj=>hk6 j (by omega) (by omega)) (by omega)
  have i6:g6[g5.length]?=some (.cells Zbh (Zdq eP w.cs) false):=by simpa using hi6
  simp only [Zaf]
  have h6l:=R6.lt
  refine (Zlm (R6.app _) (by omega) (j:=g6.length) (t:=Zbg) (n:=4) (l:=[[69],[73],[],[72]]) (by simp [Zdq,eS]) (by omega) rfl (by omega)).mono ?_
  rintro v g7 ⟨s,hs,rfl,K7,R7,l7⟩
  simp only [Zam]
  have hsz:s.length≤1000∧∀ b∈s,b < 256:=by
   simp only [List.mem_cons,List.not_mem_nil,or_false] at hs
   rcases hs with rfl | rfl | rfl | rfl <;> exact ⟨by decide,by decide⟩
  have h7l:=R7.lt
  refine (Zlm (R7.app _) (by omega) (j:=g7.length) (t:=Zbg) (n:=4) (l:=[[],[69],[72],[90]]) (by simp [Zdq,eS]) (by omega) rfl (by omega)).mono ?_
  rintro v g8 ⟨s',hs',rfl,K8,R8,l8⟩
  simp only [Zam]
  have hsz':s'.length≤1000:=by
   simp only [List.mem_cons,List.not_mem_nil,or_false] at hs'
   rcases hs' with rfl | rfl | rfl | rfl <;> decide
  have K68:Zdp i g6 g8:=(((Zdp.app i g6 _).trans K7).trans (Zdp.app i g7 _)).trans K8
  have x8:=K68.get x6 (by omega)
  have z8:=K68.get z6 (by omega)
  have i8:=K68.get i6 (by omega)
  have d8:=d6.kp K68 hib
  have hlcs:w.cs.length=n0:=d.cls.1
  refine (Vec.mk1 (n:=0 + n0) (c:=0 + n0) i8).pushN (sz:=2) Zwg Yho Yhc Yhs (by rw [Zay Zfp]; omega) rfl (by omega) rfl (by omega) (fun g9 hl9 hi9 hk9=>?_)
  have keep9:∀ {j:Nat} {o:Zcc},g8[j]?=some o→j≠g5.length→g9[j]?=some o:=fun {j o} hj hne=>by rw [hk9 j (Own.lt hj) (fun i hi=>by cases hi; exact hne)]; exact hj
  have x9:=keep9 x8 (by omega)
  have z9:=keep9 z8 (by omega)
  have KK8:=K6.trans K68
  have hKl:=KK8.le
  simp only [Zaf]
  rw [Zba x9 (by simp)]
  simp only [Zat,putRow,List.take_zero,List.length_cons,List.length_nil,List.drop_succ_cons,List.drop_zero,List.drop_nil,List.cons_append,List.nil_append,List.append_nil]
  have hi9':(g9.set h.length (.cells Zad [.slice (some (g8.length + 1,0)) (0 + n0 + 1) (0 + n0 + 1) false,.slice (some (q,0)) n1 c1 e1] false))[g8.length + 1]?=some (.cells Zbh (Zdq eP (w.cs ++ [(s,s')])) false):=by rw [Zbl (by omega)]; simpa [eP] using hi9
  have rk:RdK i p 100 h g9:=⟨⟨by omega,fun j hj hji=>by rw [hk9 j (by omega) (fun i' hi'=>by cases hi'; have:=KK3.le; omega)]; exact KK8.eq j hj hji⟩,p + 1 + 1 + 1,by omega,by omega,R8.agree (fun j hj=>hk9 j (by omega) (fun i' hi'=>by cases hi'; omega)) (by omega)⟩
  obtain ⟨KW,pW,hW1,hW2,RW⟩:=rk.setW (z:=h.length) (x:=.cells Zad [.slice (some (g8.length + 1,0)) (0 + n0 + 1) (0 + n0 + 1) false,.slice (some (q,0)) n1 c1 e1] false) (Nat.le_refl _) hil
  exact fin _ _ _ _ _ _ _ _ _ ys ⟨w.cs ++ [(s,s')],w.is⟩ pW KW RW hW1 hW2 (Zbv x9) (by rw [Zbl (by omega)]; exact z9)
   (d8.newCls (fun {j t cs} h1 h2 hj=>by rw [Zbl (Zfe x9 (keep9 hj (Zfe hj i8 h1)) (Ne.symm h2))]; exact keep9 hj (Zfe hj i8 h1)) hi9' (by omega) (by simp; omega) (Nat.le_refl _)) ((ws.addC (p:=(s,s')) ⟨hsz.1,hsz',hsz.2⟩).mono (by omega))
 ·-- one instance more
  generalize hg5:g3 ++ [Zcc.cells Zac [] false]=g5
  have s5:Zbe g3.length g3 g5:=by rw [← hg5]; exact Zao
  have c5:g5[g3.length]?=some (.cells Zac [] false):=by rw [← hg5]; simp
  have l5:g5.length=g3.length + 1:=by rw [← hg5]; simp
  have x5:=s5.get x3 hx3l
  have z5:=s5.get z3 hz3l
  have d5:=d3.same s5
  have R5:=R3.same s5
  simp only [Zak x5,Nat.zero_add,List.getElem?_cons_succ,List.getElem?_cons_zero,Zaf]
  have row5:rowOf g5 (some (q,0)) (n1 * 3)=some (Zdq eN ys):=((Vec.mk1 (n:=0) (c:=0) d5.ob).row (m:=n1 * 3) (by rw [Zay Znw,d5.len])).rowOf
  refine Vec.app0 (n:=0) (e:=true) c5 Zox Zym Zyi Zyq (by simp) row5 (Zqy (enc:=eN) (fun _=>rfl) ys) (by omega) (fun g6 hl6 hi6 hk6=>?_)
  have keep6:∀ {j:Nat} {o:Zcc},g5[j]?=some o→j≠g3.length→g6[j]?=some o:=fun {j o} hj hne=>by rw [hk6 j (Own.lt hj) hne]; exact hj
  have x6:=keep6 x5 (by omega)
  have z6:=keep6 z5 (by omega)
  have d6:WDr b g6 a0 n0 c0 q n1 c1 ys w:=d3.keep fun j hj hjl=>by rw [hk6 j (by omega) (by omega),s5.eq j hjl]
  have K6:Zdp i h g6:=by
   have:=(KK3.trans (Zdp.of_same s5)).le
   exact ⟨by omega,fun j hj hji=>by rw [hk6 j (by omega) (by have:=KK3.le; omega)]; exact (KK3.trans (Zdp.of_same s5)).eq j hj hji⟩
  have R6:Rdr g6 i (p + 1):=R5.agree (fun j hj=>hk6 j (by omega) (by omega)) (by omega)
  have i6:g6[g5.length]?=some (.cells Zac (Zdq eN ys) false):=by simpa using hi6
  simp only [Zaf]
  have h6l:=R6.lt
  refine (Zlm (R6.app _) (by omega) (j:=g6.length) (t:=Zbg) (n:=3) (l:=[[69],[72],[65]]) (by simp [Zdq,eS]) (by omega) rfl (by omega)).mono ?_
  rintro v g7 ⟨s,hs,rfl,K7,R7,l7⟩
  simp only [Zam]
  have hsz1:s.length≤1000:=by
   simp only [List.mem_cons,List.not_mem_nil,or_false] at hs
   rcases hs with rfl | rfl | rfl <;> decide
  have h7l:=R7.lt
  refine (Zlm (R7.app _) (by omega) (j:=g7.length) (t:=Zbg) (n:=4) (l:=[[120],[113],[105],[108,40,120,41]]) (by simp [Zdq,eS]) (by omega) rfl (by omega)).mono ?_
  rintro v g8 ⟨s',hs',rfl,K8,R8,l8⟩
  simp only [Zam]
  have hsz2:s'.length≤1000:=by
   simp only [List.mem_cons,List.not_mem_nil,or_false] at hs'
   rcases hs' with rfl | rfl | rfl | rfl <;> decide
  have h8l:=R8.lt
  refine (Zlm (R8.app _) (by omega) (j:=g8.length) (t:=Zbg) (n:=3) (l:=[[69],[65],[72]]) (by simp [Zdq,eS]) (by omega) rfl (by omega)).mono ?_
  rintro v g9 ⟨s2,hs2,rfl,K9,R9,l9⟩
  simp only [Zam]
  have hsz3:s2.length≤1000:=by
   simp only [List.mem_cons,List.not_mem_nil,or_false] at hs2
   rcases hs2 with rfl | rfl | rfl <;> decide
  have h9l:=R9.lt
  refine (Zlm (R9.app _) (by omega) (j:=g9.length) (t:=Zbg) (n:=3) (l:=[[121],[105],[113]]) (by simp [Zdq,eS]) (by omega) rfl (by omega)).mono ?_
  rintro v ga ⟨s3,hs3,rfl,Ka,Ra,la⟩
  simp only [Zam]
  have hsz4:s3.length≤1000:=by
   simp only [List.mem_cons,List.not_mem_nil,or_false] at hs3
   rcases hs3 with rfl | rfl | rfl <;> decide
  have K6a:Zdp i g6 ga:=(((((((Zdp.app i g6 _).trans K7).trans (Zdp.app i g7 _)).trans K8).trans (Zdp.app i g8 _)).trans K9).trans (Zdp.app i g9 _)).trans Ka
  have hK6a:=K6a.le
  generalize hgb:ga ++ [Zcc.cells Zae [.str s2,.str s3] false]=gb
  have sb:Zbe ga.length ga gb:=by rw [← hgb]; exact Zao
  have nb:gb[ga.length]?=some (.cells Zae (Zdq eP [(s2,s3)]) false):=by rw [← hgb]; simp [eP]
  have lb:gb.length=ga.length + 1:=by rw [← hgb]; simp
  have K6b:=K6a.trans (Zdp.of_same sb)
  have xb:=K6b.get x6 (by omega)
  have zb:=K6b.get z6 (by omega)
  have ib:=K6b.get i6 (by omega)
  have db:=d6.kp K6b hib
  have Rb:=Ra.same sb
  have Kb:=K6.trans K6b
  have hKl:=Kb.le
  have hlI:ys.length=n1:=d.len
  have hKl3:=KK3.le
  refine (Vec.mk1 (n:=0 + n1) (c:=0 + n1) ib).pushN (sz:=3) Zox Zym Zyi Zyq (by rw [Zay Znw]; omega) rfl (by omega) rfl (by omega) (fun gc hlc hic hkc=>?_)
  have keepc:∀ {j:Nat} {o:Zcc},gb[j]?=some o→j≠g5.length→gc[j]?=some o:=fun {j o} hj hne=>by rw [hkc j (Own.lt hj) (fun i hi=>by cases hi; exact hne)]; exact hj
  have xc:=keepc xb (by omega)
  have zc:=keepc zb (by omega)
  have dc:WDr b gc a0 n0 c0 (gb.length + 1) (n1 + 1) (0 + n1 + 1) (ys ++ [⟨s,s',some (ga.length,0),1,1,true⟩]) ⟨w.cs,w.is ++ [((s,s'),[(s2,s3)])]⟩:=
   db.push (z:=g5.length) (x:=⟨s,s',some (ga.length,0),1,1,true⟩) (i:=((s,s'),[(s2,s3)])) ⟨rfl,rfl,rfl,.inr ⟨ga.length,rfl,by omega,nb⟩⟩ (by omega) (by simpa [eN] using hic) (fun o ho=>by rw [ib] at ho; cases ho; exact ⟨_,rfl⟩) (fun j hj hne=>hkc j hj (fun i hi=>by cases hi; exact hne)) (by omega)
  simp only [Zaf]
  rw [Zba xc (by simp)]
  simp only [Zat,putRow,List.take_succ_cons,List.take_zero,List.length_cons,List.length_nil,List.drop_succ_cons,List.drop_zero,List.drop_nil,List.cons_append,List.nil_append,List.append_nil]
  have rk:RdK i p 100 h gc:=⟨⟨by omega,fun j hj hji=>by rw [hkc j (by omega) (fun i' hi'=>by cases hi'; omega)]; exact Kb.eq j hj hji⟩,_,by omega,by omega,Rb.agree (fun j hj=>hkc j (by omega) (fun i' hi'=>by cases hi'; omega)) (by omega)⟩
  obtain ⟨KW,pW,hW1,hW2,RW⟩:=rk.setW (z:=h.length) (x:=.cells Zad [.slice a0 n0 c0 e0,.slice (some (gb.length + 1,0)) (0 + n1 + 1) (0 + n1 + 1) false] false) (Nat.le_refl _) hil
  have e01:0 + n1 + 1=n1 + 1:=by omega
  rw [e01] at KW RW dc ⊢
  exact fin _ _ _ _ _ _ _ _ _ _ _ pW KW RW hW1 hW2 (Zbv xc) (by rw [Zbl (by omega)]; exact zc) (dc.setW xc) ((ws.addI (i:=((s,s'),[(s2,s3)])) ⟨hsz1,hsz2,by simp,fun q hq=>by simp at hq; subst hq; exact ⟨hsz3,hsz4⟩⟩).mono (by omega))
 ·-- ten instances more
  refine Zhq.L8ind (J:=fun (g:Nat) x50 k=>x50=(g:Int)∧g≤10∧Zdp i h k∧Rdr k i (p + 1)∧k[g0.length]?=some (.cells Zad [.slice none 0 0 true,.slice none 0 0 true] false) ∧
    ∃ q n1 c1 e1 ys w',k[h.length]?=some (.cells Zad [.slice a0 n0 c0 e0,.slice (some (q,0)) n1 c1 e1] false)∧WDr b k a0 n0 c0 q n1 c1 ys w'∧WS (m + g) w') (m:=fun g=>10 - g) (hr:=?_) (g:=0)
   (hj:=⟨rfl,by omega,KK3,R3,z3,q,n1,c1,e1,ys,w,x3,d3,ws⟩) ..
  rintro g x50 k ⟨rfl,hg,Kk,Rk,zk,q,n1,c1,e1,ys,w',xk,dk,wk'⟩ R hR
  have hkl:=Rk.lt
  have hxl:=Own.lt xk
  have hzl:=Own.lt zk
  have hn1':n1≤200000:=by have:=wk'.li; have:=dk.wl; omega
  unfold Zhq.L8t
  refine Zav (fun hlt=>?_) (fun hge=>?_)
  ·simp only [Zax]
   generalize hg5:k ++ [Zcc.cells Zac [] false]=g5
   have s5:Zbe k.length k g5:=by rw [← hg5]; exact Zao
   have c5:g5[k.length]?=some (.cells Zac [] false):=by rw [← hg5]; simp
   have l5:g5.length=k.length + 1:=by rw [← hg5]; simp
   have x5:=s5.get xk hxl
   have z5:=s5.get zk hzl
   have d5:=dk.same s5
   have R5:=Rk.same s5
   simp only [Zak x5,Nat.zero_add,List.getElem?_cons_succ,List.getElem?_cons_zero,Zaf]
   have row5:rowOf g5 (some (q,0)) (n1 * 3)=some (Zdq eN ys):=((Vec.mk1 (n:=0) (c:=0) d5.ob).row (m:=n1 * 3) (by rw [Zay Znw,d5.len])).rowOf
   refine Vec.app0 (n:=0) (e:=true) c5 Zox Zym Zyi Zyq (by simp) row5 (Zqy (enc:=eN) (fun _=>rfl) ys) (by omega) (fun g6 hl6 hi6 hk6=>?_)
   have keep6:∀ {j:Nat} {o:Zcc},g5[j]?=some o→j≠k.length→g6[j]?=some o:=fun {j o} hj hne=>by rw [hk6 j (Own.lt hj) hne]; exact hj
   have x6:=keep6 x5 (by omega)
   have z6:=keep6 z5 (by omega)
   have d6:WDr b g6 a0 n0 c0 q n1 c1 ys w':=dk.keep fun j hj hjl=>by rw [hk6 j (by omega) (by omega),s5.eq j hjl]
   have i6:g6[g5.length]?=some (.cells Zac (Zdq eN ys) false):=by simpa using hi6
   simp only [Zaf]
   generalize hga:g6 ++ [Zcc.cells Zae [] false]=ga
   have sa:Zbe g6.length g6 ga:=by rw [← hga]; exact Zao
   have na:ga[g6.length]?=some (.cells Zae [] false):=by rw [← hga]; simp
   have la:ga.length=g6.length + 1:=by rw [← hga]; simp
   have xa:=sa.get x6 (Own.lt x6)
   have za:=sa.get z6 (Own.lt z6)
   have ia:=sa.get i6 (Own.lt i6)
   have da:=d6.same sa
   have hkb:=Kk.le
   have hlI:ys.length=n1:=dk.len
   refine (Vec.mk1 (n:=0 + n1) (c:=0 + n1) ia).pushN (sz:=3) Zox Zym Zyi Zyq (by rw [Zay Znw]; omega) rfl (by omega) rfl (by omega) (fun gc hlc hic hkc=>?_)
   have keepc:∀ {j:Nat} {o:Zcc},ga[j]?=some o→j≠g5.length→gc[j]?=some o:=fun {j o} hj hne=>by rw [hkc j (Own.lt hj) (fun i hi=>by cases hi; exact hne)]; exact hj
   have xc:=keepc xa (by omega)
   have zc:=keepc za (by omega)
   have dc:WDr b gc a0 n0 c0 (ga.length + 1) (n1 + 1) (0 + n1 + 1) (ys ++ [⟨[69],[105],some (g6.length,0),0,0,true⟩]) ⟨w'.cs,w'.is ++ [(([69],[105]),[])]⟩:=
    da.push (z:=g5.length) (x:=⟨[69],[105],some (g6.length,0),0,0,true⟩) (i:=(([69],[105]),[])) ⟨rfl,rfl,rfl,.inl rfl⟩ (by omega) (by simpa [eN] using hic) (fun o ho=>by rw [ia] at ho; cases ho; exact ⟨_,rfl⟩) (fun j hj hne=>hkc j hj (fun i hi=>by cases hi; exact hne)) (by omega)
   simp only [Zaf]
   rw [Zba xc (by simp)]
   simp only [Zat,putRow,List.take_succ_cons,List.take_zero,List.length_cons,List.length_nil,List.drop_succ_cons,List.drop_zero,List.drop_nil,List.cons_append,List.nil_append,List.append_nil]
   rw [Zbt (by omega)]
   have low:∀ j,j < k.length→gc[j]?=k[j]?:=fun j hj=>by rw [hkc j (by omega) (fun i' hi'=>by cases hi'; omega),sa.eq j (by omega),hk6 j (by omega) (by omega),s5.eq j hj]
   have rk:RdK i (p + 1) 0 h gc:=⟨⟨by omega,fun j hj hji=>by rw [low j (by omega)]; exact Kk.eq j hj hji⟩,_,Nat.le_refl _,Nat.le_refl _,Rk.agree (fun j hj=>low j (by omega)) (by omega)⟩
   obtain ⟨KW,pW,hW1,hW2,RW⟩:=rk.setW (z:=h.length) (x:=.cells Zad [.slice a0 n0 c0 e0,.slice (some (ga.length + 1,0)) (0 + n1 + 1) (0 + n1 + 1) false] false) (Nat.le_refl _) hil
   have e01:0 + n1 + 1=n1 + 1:=by omega
   have ep:pW=p + 1:=by omega
   subst ep
   rw [e01] at KW RW dc ⊢
   exact hR (g + 1) _ _ (by omega) ⟨rfl,by omega,KW,RW,by rw [Zbl (by omega)]; exact zc,_,_,_,_,_,_,Zbv xc,dc.setW xc,wk'.addI (i:=(([69],[105]),[])) ⟨by simp,by simp,by simp,by simp⟩⟩
  ·apply Zhq.A8x1i
   exact fin k a0 n0 c0 e0 q n1 c1 e1 ys w' (p + 1) Kk Rk (by omega) (by omega) xk zk dk (wk'.mono (by omega))
 ·exact fin g3 a0 n0 c0 e0 q n1 c1 e1 ys w (p + 1) KK3 R3 (by omega) (by omega) x3 z3 d3 (ws.mono (by omega))
theorem Yni {h:Zaa} {i p:Nat} (r:Rdr h i p) (hp:p≤600000000000):Zah pg Zom [.ptr (some (i,0))] h (DWQ i p 200000 1021 h):=by
 have hil:=r.lt
 apply Zud.call
 simp only [Zax]
 generalize hg0:h ++ [Zcc.cells Zad [.slice none 0 0 true,.slice none 0 0 true] false]=g0
 have s0:Zbe h.length h g0:=by rw [← hg0]; exact Zao
 have z0:g0[h.length]?=some (.cells Zad [.slice none 0 0 true,.slice none 0 0 true] false):=by rw [← hg0]; simp
 have l0:g0.length=h.length + 1:=by rw [← hg0]; simp
 refine (Ymu (r.same s0) (by omega)).mono ?_
 rintro v g1 ⟨u,w,rfl,⟨a0,n0,c0,e0,q,n1,c1,e1,ys,rfl,d⟩,ws,K1,p1,hp1,hp2,R1⟩
 have z1:=K1.get z0 (by omega)
 have l1:=K1.le
 simp only [Zde,Zaj,Zaf,Zar]
 refine (Ypd R1 (by omega) (d.low (show h.length≤g0.length by omega)) hil (by omega) ws (by omega)).mono ?_
 rintro v g2 ⟨u,w',rfl,⟨a0,n0,c0,e0,q,n1,c1,e1,ys,rfl,d2⟩,ws2,K2,p2,hp3,hp4,R2⟩
 have z2:=K2.get z1 (by omega)
 simp only [Zde,Zaj,Zaf,Zar]
 rw [Zba z2 (by simp)]
 simp only [Zat,putRow,List.take_zero,List.length_cons,List.length_nil,List.drop_succ_cons,List.drop_zero,List.drop_nil,List.cons_append,List.nil_append,List.append_nil,Nat.zero_add]
 rw [Zbk (Zbv z2)]
 simp only [Zau,Zaj,Zar,Zaf]
 have rk:RdK i p 200000 h g2:=⟨((Zdp.of_same s0).trans K1).trans K2,p2,by omega,by omega,R2⟩
 exact ⟨_,w',rfl,⟨a0,n0,c0,e0,q,n1,c1,e1,ys,rfl,d2.setW z2⟩,ws2,rk.setW (Nat.le_refl _) hil⟩
theorem Yfd {h:Zaa} {i p b m:Nat} {a0:Pt} {n0 c0 q n1 c1:Nat} {e0 e1:Bool} {ys:List EI} {w:Wd} (r:Rdr h i p) (hp:p≤900000000000) (d:WDr b h a0 n0 c0 q n1 c1 ys w) (hib:i < b) (ws:WS m w) :
  Zah pg Zmk [.ptr (some (i,0)),.agg [.slice a0 n0 c0 e0,.slice (some (q,0)) n1 c1 e1]] h fun v h'=>∃ s:List Nat,v=.str s∧s.length≤1000∧RdK i p 10 h h':=by
 have hil:=r.lt
 apply Zmn.call
 simp only [Zax]
 generalize hg0:h ++ [Zcc.cells Zad [.slice a0 n0 c0 e0,.slice (some (q,0)) n1 c1 e1] false]=g0
 have s0:Zbe h.length h g0:=by rw [← hg0]; exact Zao
 have x0:g0[h.length]?=some (.cells Zad [.slice a0 n0 c0 e0,.slice (some (q,0)) n1 c1 e1] false):=by rw [← hg0]; simp
 have R0:=r.same s0
 have oth:∀ (G:Zaa) (p':Nat),Zdp i h G→Rdr G i p'→p≤p'→p'≤p + 5→Zah pg Zce [.ptr (some (i,0)),.slice (some (List.length G,0)) 4 4 true] (G ++ [.cells Zbg [.str [69],.str [90],.str [],.str [69,79]] false]) fun v_6 h_7=>Zbn (some v_6) fun s_8=>∃ s:List Nat,Zas.str s_8=.str s∧s.length≤1000∧RdK i p 10 h h_7:=by
  intro G p' KG RG h1 h2
  have hGl:=RG.lt
  refine (Zlm (RG.app _) (by omega) (j:=G.length) (t:=Zbg) (n:=4) (l:=[[69],[90],[],[69,79]]) (by simp [Zdq,eS]) (by omega) rfl (by omega)).mono ?_
  rintro v g7 ⟨s,hs,rfl,K7,R7,l7⟩
  simp only [Zam]
  refine ⟨s,rfl,?_,⟨(KG.trans (Zdp.app i G _)).trans K7,_,by omega,by omega,R7⟩⟩
  simp only [List.mem_cons,List.not_mem_nil,or_false] at hs
  rcases hs with rfl | rfl | rfl | rfl <;> decide
 simp only [Zak x0,Nat.zero_add,List.getElem?_cons_zero,Zaf]
 refine Zcs (fun _=>oth g0 p (Zdp.of_same s0) R0 (by omega) (by omega)) (fun hne=>?_)
 refine (Zdd R0 (by omega) 16).mono ?_
 rintro v g1 ⟨x,rfl,_,_,_,K1,R1,l1⟩
 have x1:=K1.get x0 (by omega)
 have KK1:=(Zdp.of_same (i:=i) s0).trans K1
 simp only [Zaq]
 refine Zcs (fun _=>oth g1 _ KK1 R1 (by omega) (by omega)) (fun _=>?_)
 apply Zmn.J3i
 simp only [Zak x1,Nat.zero_add,List.getElem?_cons_zero,Zaf,true_and]
 refine (Zdd R1 (by omega) (n0:Int)).mono ?_
 rintro v g2 ⟨y,rfl,hy0,hy1,_,K2,R2,l2⟩
 have hy1:=hy1 (by omega)
 have x2:=K2.get x1 (by omega)
 obtain ⟨k,rfl⟩:∃ k:Nat,y=k:=⟨y.toNat,by omega⟩
 have KK2:=KK1.trans K2
 obtain ⟨ic,oc,hkc,ha,_,_,hc,_⟩:=(d.kp KK2 hib).rep.class (k:=k) (by omega)
 subst ha
 have hcl:=(ws.cs _ (List.getElem_mem hkc)).1
 simp only [Zaq,Zak x2,List.getElem?_cons_zero,Zaw,Int.toNat_natCast,Nat.add_zero,hc,Zam,true_and]
 exact ⟨⟨by omega,by omega⟩,_,rfl,hcl,KK2,_,by omega,by omega,R2⟩
end Go.Sim
