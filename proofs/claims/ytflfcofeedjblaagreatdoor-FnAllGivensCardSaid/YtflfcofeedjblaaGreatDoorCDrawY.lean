/- A part of the proof of a statement of this seat: see the text that holds the theorem. No condition. -/
import Derived.Test.YtflfcofeedjblaaGreatDoorPTCMatch2
import Derived.Test.YtflfcofeedjblaaGreatDoorPDrawW
import Derived.Test.YtflfcofeedjblaaGreatDoorCVars
import Derived.Test.YtflfcofeedjblaaGreatDoorNm
set_option linter.unusedVariables false
set_option linter.unusedSimpArgs false
set_option linter.all false
set_option linter.unusedVariables false
set_option linter.unusedSimpArgs false
set_option maxRecDepth 20000
namespace Go.Sim
open Go Go.RowKit

structure WDr (b:Nat) (h:Zaa) (a0:Pt) (n0 c0:Nat) (q n1 c1:Nat) (ys:List EI) (w:Wd):Prop where
 cls:Zds Zbj eP b h a0 n0 w.cs
 le0:n0≤c0
 bq:b≤q
 ob:h[q]?=some (.cells Zad (Zdb eN ys) false)
 len:ys.length=n1
 wl:w.is.length=n1
 le1:n1≤c1
 need:∀ (k:Nat) (x:EI) (i:Ins),ys[k]?=some x→w.is[k]?=some i→x.c=i.1.1∧x.t=i.1.2∧Zds Zab eP b h x.a x.n i.2
theorem Zds.at {α:Type} {ty:TypeId} {enc:α→List Zay} {b:Nat} {h h':Zaa} {a:Pt} {n:Nat} {l:List α} (f:Zds ty enc b h a n l) (hh:∀ j,b≤j→j < h.length→h'[j]?=h[j]?):Zds ty enc b h' a n l:=
 ⟨f.1,f.2.imp id fun ⟨i,ha,hb,hi⟩=>⟨i,ha,hb,by rw [hh i hb (Own.lt hi)]; exact hi⟩⟩
section
variable {b:Nat} {h h':Zaa} {a0:Pt} {n0 c0 q n1 c1:Nat} {ys:List EI} {w:Wd}
theorem WDr.keep (d:WDr b h a0 n0 c0 q n1 c1 ys w) (hh:∀ j,b≤j→j < h.length→h'[j]?=h[j]?):WDr b h' a0 n0 c0 q n1 c1 ys w:=
 ⟨d.cls.at hh,d.le0,d.bq,by rw [hh q d.bq (Own.lt d.ob)]; exact d.ob,d.len,d.wl,d.le1,fun k x i hx hi=>⟨(d.need k x i hx hi).1,(d.need k x i hx hi).2.1,(d.need k x i hx hi).2.2.at hh⟩⟩
theorem WDr.same (d:WDr b h a0 n0 c0 q n1 c1 ys w) (s:Zbc h.length h h'):WDr b h' a0 n0 c0 q n1 c1 ys w:=d.keep fun j _ hj=>s.eq j hj
theorem WDr.kp {i:Nat} (d:WDr b h a0 n0 c0 q n1 c1 ys w) (s:Zem i h h') (hi:i < b):WDr b h' a0 n0 c0 q n1 c1 ys w:=d.keep fun j hj hl=>s.eq j hl (by omega)
theorem WDr.low {b':Nat} (d:WDr b h a0 n0 c0 q n1 c1 ys w) (hb:b'≤b):WDr b' h a0 n0 c0 q n1 c1 ys w:=
 ⟨d.cls.low hb,d.le0,by have:=d.bq; omega,d.ob,d.len,d.wl,d.le1,fun k x i hx hi=>⟨(d.need k x i hx hi).1,(d.need k x i hx hi).2.1,(d.need k x i hx hi).2.2.low hb⟩⟩
theorem WDr.rep (d:WDr b h a0 n0 c0 q n1 c1 ys w):Zkr h a0 n0 c0 (some (q,0)) n1 c1 w:=by
 refine ⟨d.cls.row Zcr,⟨ys,?_,d.len.trans d.wl.symm,fun k x i hx hi=>⟨(d.need k x i hx hi).1,(d.need k x i hx hi).2.1,(d.need k x i hx hi).2.2.row Zcr⟩⟩,d.le0,d.le1⟩
 have:=(Vec.mk1 (n:=0) (c:=0) d.ob).row (m:=n1 * 3) (by rw [Zat Zrn,d.len])
 exact this
theorem WDr.of {a1:Pt} (f:Zvi b h a0 n0 a1 n1 ys w) (h0:n0≤c0) (h1:n1≤c1) (hb:b≤q) (hq:h[q]?=some (.cells Zad (Zdb eN ys) false)):WDr b h a0 n0 c0 q n1 c1 ys w:=
 ⟨f.cls,h0,hb,hq,by have:=f.ins.1; exact this,by have:=f.ins.1; rw [← f.len]; exact this,h1,f.need⟩
theorem WDr.push (d:WDr b h a0 n0 c0 q n1 c1 ys w) {x:EI} {i:Ins} {q':Nat} (hx:x.c=i.1.1∧x.t=i.1.2∧Zds Zab eP b h x.a x.n i.2) (hq':b≤q') (ho:h'[q']?=some (.cells Zad (Zdb eN (ys ++ [x])) false)) {z:Nat} (hz:∀ o,h[z]?=some o→∃ cs,o=.cells Zad cs false)
  (hh:∀ j,j < h.length→j≠z→h'[j]?=h[j]?) {c1':Nat} (hc:n1 + 1≤c1'):WDr b h' a0 n0 c0 q' (n1 + 1) c1' (ys ++ [x]) ⟨w.cs,w.is ++ [i]⟩:=by
 have off:∀ {j:Nat} {ty:TypeId} {cs:List Zay},ty≠Zad→h[j]?=some (.cells ty cs false)→h'[j]?=some (.cells ty cs false):=fun {j ty cs} hne hj=>by
  rw [hh j (Own.lt hj) (fun e=>by
   subst e
   obtain ⟨cs',hcs⟩:=hz _ hj
   injection hcs with h1 h2 h3
   exact hne h1)]
  exact hj
 have fr:∀ {a:Pt} {n:Nat} {l:List Nd},Zds Zab eP b h a n l→Zds Zab eP b h' a n l:=fun f=>⟨f.1,f.2.imp id fun ⟨j,ha,hb,hj⟩=>⟨j,ha,hb,off (by decide) hj⟩⟩
 refine ⟨⟨d.cls.1,d.cls.2.imp id fun ⟨j,ha,hb,hj⟩=>⟨j,ha,hb,off (by decide) hj⟩⟩,d.le0,hq',ho,by simp [d.len],by simp [d.wl],hc,fun k y j hy hj=>?_⟩
 by_cases hk:k < n1
 ·rw [List.getElem?_append_left (by rw [d.len]; exact hk)] at hy
  rw [List.getElem?_append_left (by rw [d.wl]; exact hk)] at hj
  obtain ⟨p1,p2,p3⟩:=d.need k y j hy hj
  exact ⟨p1,p2,fr p3⟩
 ·have hkn:k=n1:=by have:=(List.getElem?_eq_some_iff.1 hy).1; simp [d.len] at this; omega
  subst hkn
  rw [List.getElem?_append_right (by rw [d.len]; exact Nat.le_refl _)] at hy
  rw [List.getElem?_append_right (by rw [d.wl]; exact Nat.le_refl _)] at hj
  simp [d.len] at hy
  simp [d.wl] at hj
  subst hy; subst hj
  exact ⟨hx.1,hx.2.1,fr hx.2.2⟩
end
theorem WS.wb {m:Nat} {w:Wd} (s:WS m w) (h:m≤1048576):WB w:=
 ⟨Nat.le_trans s.lc h,Nat.le_trans s.li h,fun p hp=>⟨by have:=(s.cs p hp).1; omega,by have:=(s.cs p hp).2.1; omega,(s.cs p hp).2.2⟩,fun i hi=>by
  obtain ⟨h1,h2,h3,h4⟩:=s.is i hi
  exact ⟨by omega,by omega,by omega,fun p hp=>by have:=h4 p hp; omega⟩⟩

theorem Yru {s a:List Nat} {r:List (List Nat)} (h:Zcx 58 s=a :: r) (hn:Zoa a=none):Yed s=none:=by
 unfold Yed
 rw [h]
 match r with
 | []=>simp only [hn]; rfl
 | [b]=>simp only [hn]; rfl
 | _ :: _ :: _=>rfl
theorem Yqt {s a b c:List Nat} {r:List (List Nat)} (h:Zcx 58 s=a :: b :: c :: r):Yed s=none:=by
 unfold Yed; rw [h]
theorem Yvj {s a:List Nat} {p:Nd} (h:Zcx 58 s=[a]) (hn:Zoa a=some p):Yed s=some (p,[]):=by
 unfold Yed; rw [h]; simp only [hn]; rfl
theorem Yuw {s a b:List Nat} {p:Nd} (h:Zcx 58 s=[a,b]) (hn:Zoa a=some p):Yed s=((Zcx 38 b).mapM Zoa).map fun l=>(p,l):=by
 unfold Yed; rw [h]; simp only [hn]; rfl
def Yxx (s:List Nat) (h:Zaa) (v:Zay) (h':Zaa):Prop:=Zbc h.length h h'∧((∃ i a c e,Yed s=some i∧v=.tup [.agg [.str i.1.1,.str i.1.2,.slice a i.2.length c e],.bool true]∧i.2.length≤c∧Zds Zab eP h.length h' a i.2.length i.2) ∨ (Yed s=none∧v=.tup [.agg [.str [],.str [],.slice none 0 0 true],.bool false]))
theorem Yel {s:List Nat} {h h':Zaa} {z:Nat} {cs:List Zay} (S:Zbc h.length h h') (hz:h.length≤z) (hi:h'[z]?=some (.cells Zad cs false)) (hl:cs.length=3) (hn:Yed s=none) :
  Zbt (Zbb h' (.ptr (some (z,0))) [.str [],.str [],.slice none 0 0 true]) fun h_30=>Zcd (Zbe h_30 (.ptr (some (z,0))) 3) fun cs_31=>Zai cs_31 fun c_32 r_33=>Zbd (some c_32) fun s_34=>Zai r_33 fun c_35 r_36=>Zbd (some c_35) fun s_37=>Zai r_36 fun c_38 r_39=>xSl (some c_38) fun a_40 n_41 c_42 e_43=>Zbq r_39 (Yxx s h (.tup [.agg [.str s_34,.str s_37,.slice a_40 n_41 c_42 e_43],.bool false]) h_30):=by
 match cs,hl with
 | [x,y,w],_=>
  rw [Zbg hi (by simp)]
  simp only [Zas,putRow,List.take_zero,List.length_cons,List.length_nil,List.drop_succ_cons,List.drop_zero,List.drop_nil,List.cons_append,List.nil_append,List.append_nil,Nat.zero_add]
  rw [Zox (Zce hi)]
  simp only [Zao,Zae,Zam,Zah,Zaj]
  exact ⟨S.set' hz,.inr ⟨hn,rfl⟩⟩
theorem Yio {s:List Nat} {h h':Zaa} {z y:Nat} {cs:List Zay} {i:Ins} {a:Pt} {n c:Nat} {e:Bool} (S:Zbc h.length h h') (hz:h.length≤z) (hi:h'[z]?=some (.cells Zad cs false)) (hl:cs.length=3)
  (hy:h'[y]?=some (.cells Zad [.str i.1.1,.str i.1.2,.slice a n c e] false)) (hzy:z≠y) (hc:n≤c) (fr:Zds Zab eP h.length h' a n i.2) (hn:Yed s=some i) :
  Zeo.J16 (Yxx s h) y 0 z 0 h':=by
 have hil:=fr.1
 subst hil
 match cs,hl with
 | [x,w,u],_=>
  apply Zeo.J16i
  rw [Zox hy]
  simp only [Zao,Zae,Zam,Zah,Zaj]
  rw [Zbg hi (by simp)]
  simp only [Zas,putRow,List.take_zero,List.length_cons,List.length_nil,List.drop_succ_cons,List.drop_zero,List.drop_nil,List.cons_append,List.nil_append,List.append_nil,Nat.zero_add]
  rw [Zox (Zce hi)]
  simp only [Zao,Zae,Zam,Zah,Zaj]
  refine ⟨S.set' hz,.inl ⟨i,a,c,e,hn,rfl,hc,fr.1,fr.2.imp id ?_⟩⟩
  rintro ⟨j,ha,hb,hj⟩
  exact ⟨j,ha,hb,by rw [Zbw (Zgq hi hj (by decide))]; exact hj⟩
theorem Zyp {h:Zaa} (s:List Nat) (hs:s.length≤1048576) (hb:∀ b∈s,b < 256):Zak pg Zkl [.str s] h (Yxx s h):=by
 apply Zeo.call
 simp only [Zaw]
 generalize hh0:h ++ [Zcb.cells Zad [.str [],.str [],.slice none 0 0 true] false]=h0
 have s0:Zbc h.length h h0:=by rw [← hh0]; exact Zal
 have z0:h0[h.length]?=some (.cells Zad [.str [],.str [],.slice none 0 0 true] false):=by rw [← hh0]; simp
 have l0:h0.length=h.length + 1:=by rw [← hh0]; simp
 refine (Yik hs).mono ?_
 rintro v h2 ⟨s2,j,cpj,e,rfl,hj,hrow⟩
 have hLl:(Zcx 58 s).length≤1048577:=by have:=Zjp (c:=58) s; omega
 have hmem:∀ p∈Zcx 58 s,p.length≤1048576:=fun p hp=>by have:=Zig hp; omega
 have hby:=Zjo (c:=58) hb
 generalize hL:Zcx 58 s=L at hrow hLl hmem hby
 have S2:=s0.cat s2
 have z2:=s2.get z0 (Own.lt z0)
 have l2:=s2.le
 simp only [Zaj]
 generalize hh7:h2 ++ [Zcb.cells Zab [] false]=h7
 have s7:Zbc h2.length h2 h7:=by rw [← hh7]; exact Zal
 have e7:h7[h2.length]?=some (.cells Zab [] false):=by rw [← hh7]; simp
 have l7:h7.length=h2.length + 1:=by rw [← hh7]; simp
 generalize hh8:h7 ++ [Zcb.cells Zad [.str [],.str [],.slice none 0 0 true] false]=h8
 have s8:Zbc h7.length h7 h8:=by rw [← hh8]; exact Zal
 have o8:h8[h7.length]?=some (.cells Zad [.str [],.str [],.slice none 0 0 true] false):=by rw [← hh8]; simp
 have l8:h8.length=h7.length + 1:=by rw [← hh8]; simp
 rw [Zbg o8 (by simp)]
 simp only [Zas,putRow,List.take_zero,List.length_cons,List.length_nil,List.drop_succ_cons,List.drop_zero,List.drop_nil,List.cons_append,List.nil_append,List.append_nil,Nat.zero_add]
 have o9:=Zce o8 (x:=.cells Zad [.str [],.str [],.slice (some (h2.length,0)) 0 0 true] false)
 have s9:Zbc h7.length h7 (h8.set h7.length (.cells Zad [.str [],.str [],.slice (some (h2.length,0)) 0 0 true] false)):=s8.set' (Nat.le_refl _)
 have l9:(h8.set h7.length (.cells Zad [.str [],.str [],.slice (some (h2.length,0)) 0 0 true] false)).length=h8.length:=by simp
 generalize h8.set h7.length (.cells Zad [.str [],.str [],.slice (some (h2.length,0)) 0 0 true] false)=h9 at o9 s9 l9 ⊢
 have S29:=s7.cat s9
 have S9:=S2.cat S29
 have z9:=S29.get z2 (Own.lt z2)
 have e9:=s9.get e7 (Own.lt e7)
 have r9:=S29.get hrow (Own.lt hrow)
 have piece:∀ (G:Zaa),G[j]?=some (.cells Zbi (Zdb eS L) false)→∀ k (hk:k < L.length),Zag G (.ptr (some (j,k * 1)))=some (.str L[k]):=by
  intro G hG k hk
  obtain ⟨ii,o,hgl,hai,hii,hc⟩:=Row.el1 Zmy ((Vec.mk1 (n:=0) (c:=0) hG).row (m:=L.length) (by rw [Zat Zmy]; omega)) hk
  cases hai
  simpa [eS] using hc
 have hL0:0 < L.length:=by rw [← hL,Zmv]; omega
 refine ⟨⟨by omega,by omega⟩,?_⟩
 simp only [Zau,Nat.zero_add,show Int.toNat 0=0 from rfl,piece h9 r9 0 hL0,Zah]
 refine (Zxp L[0] (hmem _ (List.getElem_mem hL0)) (hby _ (List.getElem_mem hL0))).mono ?_
 rintro v h14 ⟨s14,hres⟩
 have S14:=S9.cat s14
 have z14:=s14.get z9 (Own.lt z9)
 have o14:=s14.get o9 (Own.lt o9)
 have r14:=s14.get r9 (Own.lt r9)
 have e14:=s14.get e9 (Own.lt e9)
 have l14:=s14.le
 obtain ⟨a0,rest,hLe⟩:∃ a r,L=a :: r:=by
  cases L with
  | nil=>simp at hL0
  | cons a r=>exact ⟨a,r,rfl⟩
 have h0e:L[0]=a0:=by simp [hLe]
 rcases hres with ⟨p,hp,rfl⟩ | ⟨hp,rfl⟩
 ·simp only [Zco,Zae,Zdt,Zah,Zam,Zaq]
  generalize hh28:h14 ++ [Zcb.cells Zab [.str [],.str []] false]=h28
  have s28:Zbc h14.length h14 h28:=by rw [← hh28]; exact Zal
  have n28:h28[h14.length]?=some (.cells Zab [.str [],.str []] false):=by rw [← hh28]; simp
  have l28:h28.length=h14.length + 1:=by rw [← hh28]; simp
  rw [Zbg n28 (by simp)]
  simp only [Zas,putRow,List.take_zero,List.length_cons,List.length_nil,List.drop_succ_cons,List.drop_zero,List.drop_nil,List.cons_append,List.nil_append,List.append_nil,Nat.zero_add,Bool.not_true,Zbz]
  have n29:=Zce n28 (x:=.cells Zab [.str p.1,.str p.2] false)
  have s29:Zbc h14.length h14 (h28.set h14.length (.cells Zab [.str p.1,.str p.2] false)):=s28.set' (Nat.le_refl _)
  have l29:(h28.set h14.length (.cells Zab [.str p.1,.str p.2] false)).length=h28.length:=by simp
  generalize h28.set h14.length (.cells Zab [.str p.1,.str p.2] false)=h29 at n29 s29 l29 ⊢
  have S29':=S14.cat s29
  have z29:=s29.get z14 (Own.lt z14)
  have o29:=s29.get o14 (Own.lt o14)
  have r29:=s29.get r14 (Own.lt r14)
  have e29:=s29.get e14 (Own.lt e14)
  refine Zar (fun hgt=>?_) (fun hle=>?_)
  ·refine Yel S29' (Nat.le_refl _) z29 rfl ?_
   match rest,hLe with
   | [],hLe=>rw [hLe] at hgt; simp at hgt
   | [_],hLe=>rw [hLe] at hgt; simp at hgt
   | b :: c :: r,hLe=>exact Yqt (hL.trans hLe)
  apply Zeo.J6i
  rw [Zaz n29]
  simp only [Zao,Zae,Zam,Zah]
  rw [Zbg o29 (by simp)]
  simp only [Zas,putRow,List.take_zero,List.length_cons,List.length_nil,List.drop_succ_cons,List.drop_zero,List.drop_nil,List.cons_append,List.nil_append,List.append_nil,Nat.zero_add,Nat.add_zero]
  have hz7:h.length≠h7.length:=by omega
  have o30:=Zce o29 (x:=.cells Zad [.str p.1,.str p.2,.slice (some (h2.length,0)) 0 0 true] false)
  have k30:∀ j,j≠h7.length→(h29.set h7.length (.cells Zad [.str p.1,.str p.2,.slice (some (h2.length,0)) 0 0 true] false))[j]?=h29[j]?:=fun j hj=>Zbw (fun e=>hj e.symm)
  have l30:(h29.set h7.length (.cells Zad [.str p.1,.str p.2,.slice (some (h2.length,0)) 0 0 true] false)).length=h29.length:=by simp
  have S30:Zbc h.length h (h29.set h7.length (.cells Zad [.str p.1,.str p.2,.slice (some (h2.length,0)) 0 0 true] false)):=S29'.set' (by omega)
  generalize h29.set h7.length (.cells Zad [.str p.1,.str p.2,.slice (some (h2.length,0)) 0 0 true] false)=h30 at o30 k30 l30 S30 ⊢
  have hjl:=Own.lt hrow
  have z30:h30[h.length]?=some (.cells Zad [.str [],.str [],.slice none 0 0 true] false):=by rw [k30 _ hz7]; exact z29
  have r30:h30[j]?=some (.cells Zbi (Zdb eS L) false):=by rw [k30 _ (by omega)]; exact r29
  have e30:h30[h2.length]?=some (.cells Zab [] false):=by rw [k30 _ (by omega)]; exact e29
  refine Zcw (fun h2e=>?_) (fun hne=>?_)
  ·obtain ⟨b,rfl⟩:∃ b,rest=[b]:=by
    have:L.length=2:=by omega
    rw [hLe] at this
    match rest,this with
    | [b],_=>exact ⟨b,rfl⟩
   have hL1:1 < L.length:=by omega
   have h1e:L[1]=b:=by simp [hLe]
   have hbm:b∈L:=by rw [← h1e]; exact List.getElem_mem hL1
   refine ⟨⟨by omega,by omega⟩,?_⟩
   simp only [Zau,Nat.zero_add,show Int.toNat 1=1 from rfl,piece h30 r30 1 hL1,Zah,h1e]
   refine (Yik (hmem b hbm)).mono ?_
   rintro v h31 ⟨s31,j2,cpj2,e2,rfl,hj2,hrow2⟩
   have hPl:(Zcx 38 b).length≤1048577:=by have:=Zjp (c:=38) b; have:=hmem b hbm; omega
   have hmem2:∀ p∈Zcx 38 b,p.length≤1048576:=fun p hp=>by have:=Zig hp; have:=hmem b hbm; omega
   have hby2:=Zjo (c:=38) (hby b hbm)
   have hins:=Yuw (hL.trans hLe) (by rw [← h0e]; exact hp)
   generalize hP:Zcx 38 b=P at hrow2 hPl hmem2 hby2 hins
   simp only [Zaj]
   have S31:=S30.cat s31
   have z31:=s31.get z30 (Own.lt z30)
   have o31:=s31.get o30 (Own.lt o30)
   have e31:=s31.get e30 (Own.lt e30)
   have hj2l:=Own.lt hrow2
   refine Zeo.L9ind (J:=fun (g:Nat) x41 h'=>x41=(g:Int)∧g≤P.length∧Zbc h.length h h'∧h'[h.length]?=some (.cells Zad [.str [],.str [],.slice none 0 0 true] false)∧h'[j2]?=some (.cells Zbi (Zdb eS P) false) ∧
     ∃ (l:List Nd) (q c:Nat) (e:Bool),(P.take g).mapM Zoa=some l∧l.length=g∧h'[h7.length]?=some (.cells Zad [.str p.1,.str p.2,.slice (some (q,0)) g c e] false)∧h'[q]?=some (.cells Zab (Zdb eP l) false)∧h.length≤q∧g≤c) (m:=fun g=>P.length - g) (hr:=?_) (g:=0)
    (hj:=⟨rfl,by omega,S31,z31,hrow2,[],h2.length,0,true,by simp,rfl,o31,e31,by omega,Nat.le_refl _⟩) ..
   rintro g x41 h' ⟨rfl,hg,hS,hz,hr,l,q,c,e,hl,hll,ho,hq,hqb,hgc⟩ R hR
   unfold Zeo.L9t
   refine Zar (fun hlt=>?_) (fun hge=>?_)
   ·have hlt':g < P.length:=by omega
    obtain ⟨ii,oo,hgl,hai,hii,hc⟩:=Row.el1 Zmy ((Vec.mk1 (n:=0) (c:=0) hr).row (m:=P.length) (by rw [Zat Zmy]; omega)) hlt'
    cases hai
    simp only [Zau,Int.toNat_natCast,hc,eS,List.getElem?_cons_zero,Zah]
    refine ⟨by omega,(Zxp P[g] (hmem2 _ (List.getElem_mem hgl)) (hby2 _ (List.getElem_mem hgl))).mono ?_⟩
    rintro v k2 ⟨t2,hres⟩
    have hstep:(P.take (g + 1)).mapM Zoa=(Zoa P[g]).map fun y=>l ++ [y]:=by rw [List.take_succ_eq_append_getElem hgl,Yid,hl]; rfl
    have T2:=hS.cat t2
    have zk:=t2.get hz (Own.lt hz)
    have ok:=t2.get ho (Own.lt ho)
    have qk:=t2.get hq (Own.lt hq)
    have rk:=t2.get hr (Own.lt hr)
    have tl:=t2.le
    have tl0:=hS.le
    have hol:=Own.lt ho
    have hzl:=Own.lt hz
    have hrl:=Own.lt hr
    have hql:=Own.lt hq
    rcases hres with ⟨p',hp',rfl⟩ | ⟨hp',rfl⟩
    ·simp only [Zco,Zae,Zdt,Zah,Zam,Zaq,Zaw]
     generalize hk3:k2 ++ [Zcb.cells Zab [.str [],.str []] false]=k3
     have t3:Zbc k2.length k2 k3:=by rw [← hk3]; exact Zal
     have n3:k3[k2.length]?=some (.cells Zab [.str [],.str []] false):=by rw [← hk3]; simp
     have tl3:k3.length=k2.length + 1:=by rw [← hk3]; simp
     rw [Zbg n3 (by simp)]
     simp only [Zas,putRow,List.take_zero,List.length_cons,List.length_nil,List.drop_succ_cons,List.drop_zero,List.drop_nil,List.cons_append,List.nil_append,List.append_nil,Nat.zero_add,Bool.not_true,Zbz]
     have n4:=Zce n3 (x:=.cells Zab [.str p'.1,.str p'.2] false)
     have t4:Zbc k2.length k2 (k3.set k2.length (.cells Zab [.str p'.1,.str p'.2] false)):=t3.set' (Nat.le_refl _)
     have tl4:(k3.set k2.length (.cells Zab [.str p'.1,.str p'.2] false)).length=k3.length:=by simp
     generalize k3.set k2.length (.cells Zab [.str p'.1,.str p'.2] false)=k4 at n4 t4 tl4 ⊢
     have T4:=T2.cat t4
     have z4:=t4.get zk (Own.lt zk)
     have o4:=t4.get ok (Own.lt ok)
     have q4:=t4.get qk (Own.lt qk)
     have r4:=t4.get rk (Own.lt rk)
     simp only [Zan o4,List.getElem?_cons_succ,List.getElem?_cons_zero,Zaj]
     rw [Zaz n4]
     simp only [Zao,Zae,Zam,Zah]
     refine (Vec.mk1 (n:=g) (c:=c) q4).pushN (sz:=2) Zhi Zng Znd Znc (by rw [Zat Zcr,hll]) rfl (by omega) rfl (by omega) (fun k5 hl5 hi5 hk5=>?_)
     have keep:∀ {x:Nat} {y:Zcb},k4[x]?=some y→x≠q→k5[x]?=some y:=fun {x y} hx hne=>by rw [hk5 x (Own.lt hx) (fun i hi=>by cases hi; exact hne)]; exact hx
     have hqo:h7.length≠q:=Zgq o4 q4 (by decide)
     have hqz:h.length≠q:=Zgq z4 q4 (by decide)
     have hqr:j2≠q:=Zgq r4 q4 (by decide)
     have o5:=keep o4 hqo
     simp only [Zaj]
     rw [Zbg o5 (by simp)]
     simp only [Zas,putRow,List.take_succ_cons,List.take_zero,List.length_cons,List.length_nil,List.drop_succ_cons,List.drop_zero,List.drop_nil,List.cons_append,List.nil_append,List.append_nil]
     rw [Zbm (by omega)]
     have z5:=keep z4 hqz
     have r5:=keep r4 hqr
     refine hR (g + 1) _ _ (by omega) ⟨rfl,by omega,?_,by rw [Zbw (Ne.symm hz7)]; exact z5,by rw [Zbw (Zgq o5 r5 (by decide))]; exact r5,l ++ [p'],k4.length + 1,g + 1,false,by rw [hstep,hp']; rfl,by simp [hll],Zce o5,?_,by omega,Nat.le_refl _⟩
     ·exact Zbc.set' ⟨by omega,fun x hx=>by rw [hk5 x (by omega) (fun i hi=>by cases hi; omega)]; exact T4.eq x hx⟩ (by omega)
     ·rw [Zbw (by omega)]; simpa [eP] using hi5
    ·simp only [Zco,Zae,Zdt,Zah,Zam,Zaq,Zaw]
     generalize hk3:k2 ++ [Zcb.cells Zab [.str [],.str []] false]=k3
     have t3:Zbc k2.length k2 k3:=by rw [← hk3]; exact Zal
     have n3:k3[k2.length]?=some (.cells Zab [.str [],.str []] false):=by rw [← hk3]; simp
     rw [Zbg n3 (by simp)]
     simp only [Zas,Bool.not_false,Zcv]
     have t4:Zbc k2.length k2 (k3.set k2.length (.cells Zab (putRow [.str [],.str []] 0 [.str [],.str []]) false)):=t3.set' (Nat.le_refl _)
     refine Yel (T2.cat t4) (Nat.le_refl _) (t4.get zk (Own.lt zk)) rfl ?_
     rw [hins,Zze (k:=g + 1) Zoa (by rw [hstep,hp']; rfl)]; rfl
   ·apply Zeo.A9x0i
    have:g=P.length:=by omega
    subst this
    rw [List.take_length] at hl
    exact Yio (i:=(p,l)) hS (Nat.le_refl _) hz rfl ho hz7 hgc ⟨hll,.inr ⟨q,rfl,hqb,hq⟩⟩ (by rw [hins,hl]; rfl)
  ·obtain rfl:rest=[]:=by
    match rest,hLe with
    | [],_=>rfl
    | [_],hLe=>exact absurd (by rw [hLe]; rfl) hne
    | _ :: _ :: _,hLe=>rw [hLe] at hle; simp at hle; omega
   exact Yio (i:=(p,[])) S30 (Nat.le_refl _) z30 rfl o30 hz7 (Nat.le_refl _) ⟨rfl,.inl rfl⟩ (Yvj (hL.trans hLe) (by rw [← h0e]; exact hp))
 ·simp only [Zco,Zae,Zdt,Zah,Zam,Zaq]
  generalize hh28:h14 ++ [Zcb.cells Zab [.str [],.str []] false]=h28
  have s28:Zbc h14.length h14 h28:=by rw [← hh28]; exact Zal
  have n28:h28[h14.length]?=some (.cells Zab [.str [],.str []] false):=by rw [← hh28]; simp
  rw [Zbg n28 (by simp)]
  simp only [Zas,Bool.not_false,Zcv]
  have s29:Zbc h14.length h14 (h28.set h14.length (.cells Zab (putRow [.str [],.str []] 0 [.str [],.str []]) false)):=s28.set' (Nat.le_refl _)
  exact Yel (S14.cat s29) (Nat.le_refl _) (s29.get z14 (Own.lt z14)) rfl (Yru (hL.trans hLe) (by rw [← h0e]; exact hp))
end Go.Sim

set_option linter.unusedVariables false
set_option linter.unusedSimpArgs false
set_option maxRecDepth 20000
namespace Go.Sim
open Go Go.RowKit

theorem Yea {h:Zaa} {s:List Nat} {c:Nat} (hs:s.length≤1048576):Zak pg Zis [.str s,.int .u8 (c:Int)] h fun v h'=>Zbc h.length h h' ∧
  ∃ j cp e,v=.slice (some (j,0)) (Zcx c s).length cp e∧h.length≤j∧(h'[j]?=some (.cells Zbi (Zdb eS (Zcx c s)) false)∧(Zcx c s).length≤cp):=by
 apply Zdj.call
 simp only [Zaw]
 refine Zdj.L4ind _ _ _ (J:=fun (g:Nat) a5 n5 c5 e5 x6 x7 h'=>x7=(g:Int)∧g≤s.length + 1∧Zbc h.length h h'∧∃ (done:List (List Nat)) (from_:Nat),n5=done.length∧x6=(from_:Int)∧done.length≤g∧Vec Zbi h' a5 n5 c5 (strs done)∧(∀ i,a5=some (i,0)→h.length≤i) ∧
   (g≤s.length→from_≤g∧c ∉ (s.take g).drop from_∧Zcx c s=done ++ Zcx c (s.drop from_))∧(g=s.length + 1→Zcx c s=done)∧n5≤c5) (fun g=>s.length + 1 - g) ?_ 0 _ _ _ _ _ _ _
  ⟨rfl,by omega,Zbc.app (Nat.le_refl _) _,[],0,rfl,rfl,by simp,Vec.mk1 (by simp),by simp,fun _=>⟨by omega,by simp,by simp⟩,by omega,Nat.le_refl _⟩
 rintro g a5 n5 c5 e5 x6 x7 h' ⟨rfl,hg,hS,done,from_,rfl,rfl,hdl,hv,ha,hin,hout,hc5⟩ R hR
 unfold Zdj.L4t
 refine Zar (fun hle=>?_) (fun hgt=>?_)
 ·obtain ⟨hf,hnc,hsp⟩:=hin (by omega)
  have push:∀ p,(∀ a n e h4,Zbc h.length h h4→n=done.length + 1→Vec Zbi h4 a n n (strs (done ++ [p]))→(∀ i,a=some (i,0)→h.length≤i)→Zdj.J5 (fun v h'=>Zbc h.length h h'∧∃ j cp e,v=.slice (some (j,0)) (Zcx c s).length cp e∧h.length≤j∧(h'[j]?=some (.cells Zbi (Zdb eS (Zcx c s)) false)∧(Zcx c s).length≤cp)) R (g:Int) s (c:Int) a n n e (IntKind.wrap .i64 ((g:Int) + 1)) h4) →
    Zci pg Zke (h' ++ [.cells Zbi [.str p] false]) (.slice a5 done.length c5 e5) (.slice (some (List.length h',0)) 1 1 true) fun v_2 h_3=>xSl (some v_2) fun a_4 n_5 c_6 e_7=>Zdj.J5 (fun v h'=>Zbc h.length h h'∧∃ j cp e,v=.slice (some (j,0)) (Zcx c s).length cp e∧h.length≤j∧(h'[j]?=some (.cells Zbi (Zdb eS (Zcx c s)) false)∧(Zcx c s).length≤cp)) R (g:Int) s (c:Int) a_4 n_5 c_6 e_7 (IntKind.wrap .i64 ((g:Int) + 1)) h_3:=by
   intro p K
   refine hv.push Yee Ylx Ylj Ymt (by simp) rfl (by omega) (fun h4 hl4 hi4 hk4=>?_)
   simp only [Zaj]
   have hle:=hS.le
   refine K _ _ _ _ ⟨by omega,fun j hj=>?_⟩ rfl (Vec.mk1 (by simpa [strs] using hi4)) (fun i hi=>by cases hi; omega)
   rw [hk4 j (by omega) fun i hi=>by have:=ha i hi; omega]; exact hS.eq j hj
  refine Zcw (fun he=>?_) (fun hne=>?_)
  ·have hgs:g=s.length:=by omega
   subst hgs
   rw [Yeu (j:=from_) (k:=s.length) rfl rfl,List.take_length]
   rw [List.take_length] at hnc
   refine ⟨⟨by omega,by omega,by omega⟩,push _ fun a n e h4 hS4 hn4 hv4 ha4=>Zdj.J5i _ _ _ _ _ _ _ _ _ _ _ ?_⟩
   rw [Zbm (by omega)]
   subst hn4
   exact hR (s.length + 1) _ _ _ _ _ _ _ (by omega) ⟨rfl,by omega,hS4,done ++ [s.drop from_],s.length + 1,by simp,rfl,by simp; omega,by simpa using hv4,ha4,by omega,fun _=>by rw [hsp,Zwa hnc],Nat.le_refl _⟩
  ·have hlt:g < s.length:=by omega
   refine ⟨⟨by omega,by omega⟩,?_⟩
   rw [Int.toNat_natCast,Zzy hlt]
   have htk:(s.take (g + 1)).drop from_=(s.take g).drop from_ ++ [s[g]]:=by
    rw [List.take_succ_eq_append_getElem hlt,List.drop_append_of_le_length (by simp; omega)]
   have hdr:s.drop from_=(s.take g).drop from_ ++ s[g] :: s.drop (g + 1):=by
    conv=>lhs; rw [← List.take_append_drop g s]
    rw [List.drop_append_of_le_length (by simp; omega),List.drop_eq_getElem_cons hlt]
   refine Zcw (fun he=>?_) (fun hne2=>?_)
   ·have hec:s[g]=c:=by omega
    rw [Yeu (j:=from_) (k:=g) rfl rfl]
    refine ⟨⟨by omega,by omega,by omega⟩,push _ fun a n e h4 hS4 hn4 hv4 ha4=>Zdj.J5i _ _ _ _ _ _ _ _ _ _ _ ?_⟩
    rw [Zbm (by omega)]
    subst hn4
    refine hR (g + 1) _ _ _ _ _ _ _ (by omega) ⟨rfl,by omega,hS4,done ++ [(s.take g).drop from_],g + 1,by simp,rfl,by simp; omega,by simpa using hv4,ha4,fun _=>⟨by omega,by simp,?_⟩,by omega,Nat.le_refl _⟩
    rw [hsp,hdr,hec,Zxt hnc]; simp
   ·apply Zdj.J5i
    rw [Zbm (by omega)]
    refine hR (g + 1) _ _ _ _ _ _ _ (by omega) ⟨rfl,by omega,hS,done,from_,rfl,rfl,by omega,hv,ha,fun _=>⟨by omega,?_,hsp⟩,by omega,hc5⟩
    rw [htk]
    simp only [List.mem_append,List.mem_singleton,not_or]
    exact ⟨hnc,fun e=>hne2 (by rw [e])⟩
 ·have:g=s.length + 1:=by omega
  have hd:=hout this
  apply Zdj.A4x0i
  rw [hd]
  rcases hv with ⟨_,_,_,h0⟩ | ⟨i,rfl,hi⟩
  ·exact absurd (by rw [hd]; exact List.map_eq_nil_iff.1 h0) (Zrh c s)
  ·exact ⟨hS,_,_,_,rfl,ha i rfl,by rw [Ykr]; exact hi,hc5⟩
end Go.Sim

set_option linter.unusedVariables false
set_option linter.unusedSimpArgs false
set_option maxRecDepth 20000
namespace Go.Sim
open Go Go.RowKit

def Xaw (s:List Nat) (h:Zaa) (v:Zay) (h':Zaa):Prop:=Zbc h.length h h'∧∃ a0 n0 c0 e0 a1 n1 c1 e1 b,v=.tup [.agg [.slice a0 n0 c0 e0,.slice a1 n1 c1 e1],.bool b]∧Zkr h' a0 n0 c0 a1 n1 c1 (wdP s)
theorem Ywk {h:Zaa}:Zkr h none 0 0 none 0 0 Ytv:=⟨Row.nil,⟨[],Row.nil,rfl,by simp⟩,Nat.le_refl _,Nat.le_refl _⟩
theorem Yqw {s:List Nat} {h h':Zaa} {z:Nat} {x y:Zay} {b:Bool} (S:Zbc h.length h h') (hz:h.length≤z) (hi:h'[z]?=some (.cells Zac [x,y] false)) (hn:wdP s=Ytv) :
  Zbt (Zbb h' (.ptr (some (z,0))) [.slice none 0 0 true,.slice none 0 0 true]) fun h_77=>Zcd (Zbe h_77 (.ptr (some (z,0))) 2) fun cs_78=>Zai cs_78 fun c_79 r_80=>xSl (some c_79) fun a_81 n_82 c_83 e_84=>Zai r_80 fun c_85 r_86=>xSl (some c_85) fun a_87 n_88 c_89 e_90=>Zbq r_86 (Xaw s h (.tup [.agg [.slice a_81 n_82 c_83 e_84,.slice a_87 n_88 c_89 e_90],.bool b]) h_77):=by
 rw [Zbg hi (by simp)]
 simp only [Zas,putRow,List.take_zero,List.length_cons,List.length_nil,List.drop_succ_cons,List.drop_zero,List.drop_nil,List.cons_append,List.nil_append,List.append_nil,Nat.zero_add]
 rw [Zaz (Zce hi)]
 simp only [Zao,Zae,Zam,Zaj]
 exact ⟨S.set' hz,none,0,0,true,none,0,0,true,b,rfl,by rw [hn]; exact Ywk⟩
theorem Yvm {h:Zaa} (s:List Nat) (hs:s.length≤900) (hb:∀ b∈s,b < 256):Zak pg Zje [.str s] h (Xaw s h):=by
 apply Zct.call
 simp only [Zaw]
 generalize hh0:h ++ [Zcb.cells Zac [.slice none 0 0 true,.slice none 0 0 true] false]=h0
 have s0:Zbc h.length h h0:=by rw [← hh0]; exact Zal
 have z0:h0[h.length]?=some (.cells Zac [.slice none 0 0 true,.slice none 0 0 true] false):=by rw [← hh0]; simp
 have l0:h0.length=h.length + 1:=by rw [← hh0]; simp
 refine (Yea (by omega)).mono ?_
 rintro v h2 ⟨s2,j,cpj,eL,rfl,hj,hrow,hcap⟩
 have hLl:=Zjp (c:=59) s
 have hmem:∀ p∈Zcx 59 s,p.length≤900:=fun p hp=>by have:=Zig hp; omega
 have hby:=Zjo (c:=59) hb
 have hW:wdP s=match ((Zcx 59 s).drop 1).mapM Yed with | some l=>wdQ ⟨(Zcx 32 ((Zcx 59 s).headD [])).map Yfx,l⟩ | none=>Ytv:=rfl
 have hL0:0 < (Zcx 59 s).length:=by rw [Zmv]; omega
 generalize hL:Zcx 59 s=L at hrow hLl hmem hby hW hL0 hcap
 have S2:=s0.cat s2
 have z2:=s2.get z0 (Own.lt z0)
 have l2:=s2.le
 simp only [Zaj]
 generalize hh7:h2 ++ [Zcb.cells Zbj [] false]=h7
 have s7:Zbc h2.length h2 h7:=by rw [← hh7]; exact Zal
 have e7:h7[h2.length]?=some (.cells Zbj [] false):=by rw [← hh7]; simp
 have l7:h7.length=h2.length + 1:=by rw [← hh7]; simp
 generalize hh8:h7 ++ [Zcb.cells Zad [] false]=h8
 have s8:Zbc h7.length h7 h8:=by rw [← hh8]; exact Zal
 have i8:h8[h7.length]?=some (.cells Zad [] false):=by rw [← hh8]; simp
 have l8:h8.length=h7.length + 1:=by rw [← hh8]; simp
 generalize hh9:h8 ++ [Zcb.cells Zac [.slice none 0 0 true,.slice none 0 0 true] false]=h9
 have s9:Zbc h8.length h8 h9:=by rw [← hh9]; exact Zal
 have o9:h9[h8.length]?=some (.cells Zac [.slice none 0 0 true,.slice none 0 0 true] false):=by rw [← hh9]; simp
 have l9:h9.length=h8.length + 1:=by rw [← hh9]; simp
 rw [Zbg o9 (by simp)]
 simp only [Zas,putRow,List.take_zero,List.length_cons,List.length_nil,List.drop_succ_cons,List.drop_zero,List.drop_nil,List.cons_append,List.nil_append,List.append_nil,Nat.zero_add]
 have o10:=Zce o9 (x:=.cells Zac [.slice (some (h2.length,0)) 0 0 true,.slice (some (h7.length,0)) 0 0 true] false)
 have s10:Zbc h8.length h8 (h9.set h8.length (.cells Zac [.slice (some (h2.length,0)) 0 0 true,.slice (some (h7.length,0)) 0 0 true] false)):=s9.set' (Nat.le_refl _)
 generalize h9.set h8.length (.cells Zac [.slice (some (h2.length,0)) 0 0 true,.slice (some (h7.length,0)) 0 0 true] false)=h10 at o10 s10 ⊢
 have S210:=(s7.cat s8).cat s10
 have S10:=S2.cat S210
 have z10:=S210.get z2 (Own.lt z2)
 have e10:=(s8.cat s10).get e7 (Own.lt e7)
 have i10:=s10.get i8 (Own.lt i8)
 have r10:=S210.get hrow (Own.lt hrow)
 have hjl:=Own.lt hrow
 obtain ⟨ii,oo,hgl,hai,hii,hc0⟩:=Row.el1 Zmy ((Vec.mk1 (n:=0) (c:=0) r10).row (m:=L.length) (by rw [Zat Zmy]; omega)) hL0
 cases hai
 refine ⟨⟨by omega,by omega⟩,?_⟩
 have hc0':Zag h10 (.ptr (some (j,0)))=some (.str L[0]):=by simpa [eS] using hc0
 simp only [Zau,show Int.toNat 0=0 from rfl,Nat.zero_mul,Nat.add_zero,hc0',Zah]
 have hhd:L.headD []=L[0]:=by cases L with | nil=>simp at hL0 | cons a r=>rfl
 have hm0:=hmem _ (List.getElem_mem hL0)
 have hb0:=hby _ (List.getElem_mem hL0)
 rw [hhd] at hW
 generalize L[0]=p0 at hm0 hb0 hW ⊢
 refine (Yea (by omega)).mono ?_
 rintro v h15 ⟨s15,j2,cpj2,e2,rfl,hj2,hrow2,_⟩
 have hPl:=Zjp (c:=32) p0
 have hmem2:∀ p∈Zcx 32 p0,p.length≤900:=fun p hp=>by have:=Zig hp; omega
 have hby2:=Zjo (c:=32) hb0
 generalize hP:Zcx 32 p0=P at hrow2 hPl hmem2 hby2 hW
 simp only [Zaj]
 have S15:=S10.cat s15
 have z15:=s15.get z10 (Own.lt z10)
 have o15:=s15.get o10 (Own.lt o10)
 have e15:=s15.get e10 (Own.lt e10)
 have i15:=s15.get i10 (Own.lt i10)
 have r15:=s15.get r10 (Own.lt r10)
 have hz8:h.length≠h8.length:=by omega
 have l10:=s10.le
 have hj2l:=Own.lt hrow2
 refine Zct.L4ind (J:=fun (g:Nat) x23 h'=>x23=(g:Int)∧g≤P.length∧Zbc h.length h h'∧h'[h.length]?=some (.cells Zac [.slice none 0 0 true,.slice none 0 0 true] false)∧h'[j]?=some (.cells Zbi (Zdb eS L) false)∧h'[j2]?=some (.cells Zbi (Zdb eS P) false) ∧
   h'[h7.length]?=some (.cells Zad [] false)∧∃ (q c:Nat) (e:Bool),h'[h8.length]?=some (.cells Zac [.slice (some (q,0)) g c e,.slice (some (h7.length,0)) 0 0 true] false)∧h'[q]?=some (.cells Zbj (Zdb eP ((P.take g).map Yfx)) false)∧h.length≤q∧g≤c)
  (m:=fun g=>P.length - g) (hr:=?_) (g:=0) (hj:=⟨rfl,by omega,S15,z15,r15,hrow2,i15,h2.length,0,true,o15,by simpa using e15,by omega,Nat.le_refl _⟩) ..
 rintro g x23 h' ⟨rfl,hg,hS,hz,hr1,hr2,hi,q,c,e,ho,hq,hqb,hgc⟩ R hR
 have hlS:=hS.le
 unfold Zct.L4t
 refine Zar (fun hlt=>?_) (fun hge=>?_)
 ·have hlt':g < P.length:=by omega
  obtain ⟨ii,oo,hgl,hai,hii,hc⟩:=Row.el1 Zmy ((Vec.mk1 (n:=0) (c:=0) hr2).row (m:=P.length) (by rw [Zat Zmy]; omega)) hlt'
  cases hai
  simp only [Zau,Int.toNat_natCast,hc,eS,List.getElem?_cons_zero,Zah,Zaw]
  have hpm:=hmem2 _ (List.getElem_mem hgl)
  have hset:∀ x,Yfx P[g]=x→(P.take (g + 1)).map Yfx=(P.take g).map Yfx ++ [x]:=fun x hx=>by rw [List.take_succ_eq_append_getElem hgl,List.map_append]; simp [hx]
  generalize P[g]=p at hpm hset ⊢
  refine ⟨by omega,?_⟩
  generalize hk1:h' ++ [Zcb.cells Zbj [.str [],.str []] false]=k1
  have t1:Zbc h'.length h' k1:=by rw [← hk1]; exact Zal
  have b1:k1[h'.length]?=some (.cells Zbj [.str [],.str []] false):=by rw [← hk1]; simp
  have tl1:k1.length=h'.length + 1:=by rw [← hk1]; simp
  rw [Zbg b1 (by simp)]
  simp only [Zas,putRow,List.take_zero,List.length_cons,List.length_nil,List.drop_succ_cons,List.drop_zero,List.drop_nil,List.cons_append,List.nil_append,List.append_nil,Nat.zero_add]
  have b2:=Zce b1 (x:=.cells Zbj [.str p,.str []] false)
  have t2:Zbc h'.length h' (k1.set h'.length (.cells Zbj [.str p,.str []] false)):=t1.set' (Nat.le_refl _)
  have tl2:(k1.set h'.length (.cells Zbj [.str p,.str []] false)).length=k1.length:=by simp
  generalize k1.set h'.length (.cells Zbj [.str p,.str []] false)=k2 at b2 t2 tl2 ⊢
  have hol:=Own.lt ho
  have hql:=Own.lt hq
  -- a class of its own, appended
  have fin:∀ (G:Zaa) (x:Nd),G.length=k2.length→Zbc h'.length h' G→G[h'.length]?=some (.cells Zbj [.str x.1,.str x.2] false)→Yfx p=x→Zct.J9 (Xaw s h) R h8.length 0 h'.length 0 (g:Int) ((P.length:Nat):Int) (some (j2,0)) P.length cpj2 e2 (some (j,0)) L.length cpj eL h.length 0 G:=by
   intro G x hGl tG bG hx
   apply Zct.J9i
   have oG:=tG.get ho hol
   have qG:=tG.get hq hql
   have zG:=tG.get hz (Own.lt hz)
   have r1G:=tG.get hr1 (Own.lt hr1)
   have r2G:=tG.get hr2 (Own.lt hr2)
   have iG:=tG.get hi (Own.lt hi)
   simp only [Zan oG,Nat.zero_add,List.getElem?_cons_zero,Zaj,Zaw]
   rw [Zaz bG]
   simp only [Zao,Zae,Zam,Zah]
   refine (Vec.mk1 (n:=g) (c:=c) qG).pushN (sz:=2) Yaa Yli Yln Yly (by rw [Zat Zcr,List.length_map,List.length_take]; omega) rfl (by omega) rfl (by omega) (fun k5 hl5 hi5 hk5=>?_)
   have keep:∀ {x:Nat} {y:Zcb},G[x]?=some y→x≠q→k5[x]?=some y:=fun {x y} hx hne=>by rw [hk5 x (Own.lt hx) (fun i hi=>by cases hi; exact hne)]; exact hx
   have o5:=keep oG (Zgq oG qG (by decide))
   have z5:=keep zG (Zgq zG qG (by decide))
   have r15:=keep r1G (Zgq r1G qG (by decide))
   have r25:=keep r2G (Zgq r2G qG (by decide))
   have i5:=keep iG (Zgq iG qG (by decide))
   simp only [Zaj]
   rw [Zbg o5 (by simp)]
   simp only [Zas,putRow,List.take_zero,List.length_cons,List.length_nil,List.drop_succ_cons,List.drop_zero,List.drop_nil,List.cons_append,List.nil_append,List.append_nil]
   apply Zct.J10i
   rw [Zbm (by omega)]
   have:=tG.le
   refine hR (g + 1) _ _ (by omega) ⟨rfl,by omega,?_,by rw [Zbw (Ne.symm hz8)]; exact z5,by rw [Zbw (Zgq o5 r15 (by decide))]; exact r15,by rw [Zbw (Zgq o5 r25 (by decide))]; exact r25,by rw [Zbw (Zgq o5 i5 (by decide))]; exact i5,G.length + 1,g + 1,false,Zce o5,?_,by omega,Nat.le_refl _⟩
   ·exact Zbc.set' ⟨by omega,fun x hx=>by rw [hk5 x (by omega) (fun i hi=>by cases hi; omega),tG.eq x (by omega)]; exact hS.eq x hx⟩ (by omega)
   ·rw [Zbw (by omega),hset _ hx]; simpa [eP] using hi5
  refine Zar (fun h2=>?_) (fun h2=>?_)
  ·match p,h2,hpm,fin,b2 with
   | x0 :: x1 :: x2 :: r,h2,hpm,fin,b2=>
    refine ⟨⟨by omega,by simp; omega⟩,?_⟩
    simp only [show Int.toNat 1=1 from rfl,List.getD_cons_succ,List.getD_cons_zero]
    refine Zcw (fun he=>?_) (fun hne=>?_)
    ·have hx1:x1=60:=by omega
     subst hx1
     refine ⟨⟨by omega,by omega,by simp; omega⟩,⟨by omega,by simp; omega,by omega⟩,?_⟩
     rw [Yig,Yem (s:=x0 :: 60 :: x2 :: r) (z:=2) (k:=2) rfl (by simp)]
     simp only [List.drop_succ_cons,List.drop_zero]
     rw [Zbg b2 (by simp)]
     simp only [Zas,putRow,List.take_zero,List.length_cons,List.length_nil,List.drop_succ_cons,List.drop_zero,List.drop_nil,List.cons_append,List.nil_append,List.append_nil,Nat.zero_add]
     exact fin _ ([x0],x2 :: r) (by simp) (t2.set' (Nat.le_refl _)) (Zce b2) (by simp [Yfx])
    ·have hx1:¬ x1=60:=by omega
     exact fin _ (x0 :: x1 :: x2 :: r,[]) rfl t2 b2 (by simp [Yfx,hx1])
   | [],h2,_,_,_=>simp at h2
   | [_],h2,_,_,_=>simp at h2
   | [_,_],h2,_,_,_=>simp at h2
  ·refine fin _ (p,[]) rfl t2 b2 ?_
   match p,h2 with
   | [],_=>rfl
   | [_],_=>rfl
   | [_,_],_=>rfl
   | x0 :: x1 :: x2 :: r,h2=>simp at h2; omega
 ·apply Zct.A4x0i
  have hgP:g=P.length:=by omega
  subst hgP
  rw [List.take_length] at hq
  simp only [Zhu,Zlx]
  refine ⟨by omega,?_⟩
  -- the pieces behind the first one
  have next:∀ (a:Pt) (n c':Nat) (e':Bool),n=L.length - 1→Row h'.length h' a n (Zdb eS (L.drop 1))→(∀ i o,a=some (i,o)→i=j)→Zct.L12 (Xaw s h) h.length 0 h8.length 0 a n c' e' ((n:Nat):Int) 0 h':=by
   intro a n c' e' hn hrw haj
   have hdl:(L.drop 1).length=n:=by rw [List.length_drop]; omega
   have hmem3:∀ p∈L.drop 1,p.length≤900:=fun p hp=>hmem p (List.mem_of_mem_drop hp)
   have hby3:∀ p∈L.drop 1,∀ b∈p,b < 256:=fun p hp=>hby p (List.mem_of_mem_drop hp)
   generalize L.drop 1=D at hW hrw hdl hmem3 hby3
   refine Zct.L12ind (J:=fun (g:Nat) x52 k=>x52=(g:Int)∧g≤n∧Zbc h.length h k∧k[h.length]?=some (.cells Zac [.slice none 0 0 true,.slice none 0 0 true] false)∧k[j]?=some (.cells Zbi (Zdb eS L) false)∧Row k.length k a n (Zdb eS D)∧k[q]?=some (.cells Zbj (Zdb eP (P.map Yfx)) false) ∧
     ∃ (l:List Ins) (ys:List EI) (q1 c1:Nat) (e1:Bool),(D.take g).mapM Yed=some l∧l.length=g∧ys.length=g∧k[h8.length]?=some (.cells Zac [.slice (some (q,0)) P.length c e,.slice (some (q1,0)) g c1 e1] false)∧k[q1]?=some (.cells Zad (Zdb eN ys) false)∧h.length≤q1∧g≤c1 ∧
      ∀ (m:Nat) (x:EI) (i:Ins),ys[m]?=some x→l[m]?=some i→x.c=i.1.1∧x.t=i.1.2∧Zds Zab eP h.length k x.a x.n i.2)
    (m:=fun g=>n - g) (hr:=?_) (g:=0) (hj:=⟨rfl,by omega,hS,hz,hr1,hrw,hq,[],[],h7.length,0,true,by simp,rfl,rfl,ho,hi,by omega,Nat.le_refl _,by simp⟩) ..
   rintro g x52 k ⟨rfl,hg,kS,kz,kj,krw,kq,l,ys,q1,c1,e1,hl,hll,hyl,ko,kq1,hq1b,hgc1,hrep⟩ R2 hR2
   have kle:=kS.le
   have hkol:=Own.lt ko
   unfold Zct.L12t
   refine Zar (fun hlt=>?_) (fun hge=>?_)
   ·obtain ⟨ii,oo,hgl,hai,hii,hc⟩:=Row.el1 Zmy krw (k:=g) (by omega)
    obtain rfl:=haj _ _ hai
    subst hai
    simp only [Zau,Int.toNat_natCast,hc,eS,List.getElem?_cons_zero,Zah]
    refine ⟨by omega,(Zyp D[g] (by have:=hmem3 _ (List.getElem_mem hgl); omega) (hby3 _ (List.getElem_mem hgl))).mono ?_⟩
    rintro v k2 ⟨t2,hres⟩
    have hstep:(D.take (g + 1)).mapM Yed=(Yed D[g]).map fun y=>l ++ [y]:=by rw [List.take_succ_eq_append_getElem hgl,Yid,hl]; rfl
    have tl2:=t2.le
    have T2:=kS.cat t2
    have kz2:=t2.get kz (Own.lt kz)
    rcases hres with ⟨i,na,nc,ne,hi',rfl,hnc,nf⟩ | ⟨hi',rfl⟩
    ·simp only [Zco,Zae,Zdt,Zah,Zaj,Zam,Zaq,Zaw]
     generalize hk3:k2 ++ [Zcb.cells Zad [.str [],.str [],.slice none 0 0 true] false]=k3
     have t3:Zbc k2.length k2 k3:=by rw [← hk3]; exact Zal
     have n3:k3[k2.length]?=some (.cells Zad [.str [],.str [],.slice none 0 0 true] false):=by rw [← hk3]; simp
     have tl3:k3.length=k2.length + 1:=by rw [← hk3]; simp
     rw [Zbg n3 (by simp)]
     simp only [Zas,putRow,List.take_zero,List.length_cons,List.length_nil,List.drop_succ_cons,List.drop_zero,List.drop_nil,List.cons_append,List.nil_append,List.append_nil,Nat.zero_add,Bool.not_true,Zbz]
     have n4:=Zce n3 (x:=.cells Zad [.str i.1.1,.str i.1.2,.slice na i.2.length nc ne] false)
     have t4:Zbc k2.length k2 (k3.set k2.length (.cells Zad [.str i.1.1,.str i.1.2,.slice na i.2.length nc ne] false)):=t3.set' (Nat.le_refl _)
     have tl4:(k3.set k2.length (.cells Zad [.str i.1.1,.str i.1.2,.slice na i.2.length nc ne] false)).length=k3.length:=by simp
     generalize k3.set k2.length (.cells Zad [.str i.1.1,.str i.1.2,.slice na i.2.length nc ne] false)=k4 at n4 t4 tl4 ⊢
     have t24:=t2.cat t4
     have T4:=kS.cat t24
     have z4:=t24.get kz (Own.lt kz)
     have o4:=t24.get ko (Own.lt ko)
     have q14:=t24.get kq1 (Own.lt kq1)
     have j4:=t24.get kj (Own.lt kj)
     have q4:=t24.get kq (Own.lt kq)
     have nf4:Zds Zab eP h.length k4 na i.2.length i.2:=(nf.same t4).low kS.le
     simp only [Zan o4,Nat.zero_add,List.getElem?_cons_succ,List.getElem?_cons_zero,Zaj]
     rw [Zox n4]
     simp only [Zao,Zae,Zam,Zah,Zaj]
     refine (Vec.mk1 (n:=g) (c:=c1) q14).pushN (sz:=3) Zsd Yce Yaq Ybd (by rw [Zat Zrn,hyl]) rfl (by omega) rfl (by omega) (fun k5 hl5 hi5 hk5=>?_)
     have keep:∀ {x:Nat} {y:Zcb},k4[x]?=some y→x≠q1→k5[x]?=some y:=fun {x y} hx hne=>by rw [hk5 x (Own.lt hx) (fun i hi=>by cases hi; exact hne)]; exact hx
     have o5:=keep o4 (Zgq o4 q14 (by decide))
     have z5:=keep z4 (Zgq z4 q14 (by decide))
     have j5:=keep j4 (Zgq j4 q14 (by decide))
     have q5:=keep q4 (Zgq q4 q14 (by decide))
     have fr5:∀ {a:Pt} {n:Nat} {l:List Nd},Zds Zab eP h.length k4 a n l→Zds Zab eP h.length k5 a n l:=fun f=>⟨f.1,f.2.imp id fun ⟨y,ha,hb,hy⟩=>⟨y,ha,hb,keep hy (Zgq hy q14 (by decide))⟩⟩
     simp only [Zaj]
     rw [Zbg o5 (by simp)]
     simp only [Zas,putRow,List.take_succ_cons,List.take_zero,List.length_cons,List.length_nil,List.drop_succ_cons,List.drop_zero,List.drop_nil,List.cons_append,List.nil_append,List.append_nil]
     rw [Zbm (by omega)]
     have fr6:∀ {a:Pt} {n:Nat} {l:List Nd},Zds Zab eP h.length k5 a n l→Zds Zab eP h.length (k5.set h8.length (.cells Zac [.slice (some (q,0)) P.length c e,.slice (some (k4.length + 1,0)) (g + 1) (g + 1) false] false)) a n l:=fun f=>⟨f.1,f.2.imp id fun ⟨y,ha,hb,hy⟩=>⟨y,ha,hb,by rw [Zbw (Zgq o5 hy (by decide))]; exact hy⟩⟩
     have j6:(k5.set h8.length (.cells Zac [.slice (some (q,0)) P.length c e,.slice (some (k4.length + 1,0)) (g + 1) (g + 1) false] false))[ii]?=some (.cells Zbi (Zdb eS L) false):=by rw [Zbw (Zgq o5 j5 (by decide))]; exact j5
     refine hR2 (g + 1) _ _ (by omega) ⟨rfl,by omega,?_,by rw [Zbw (Ne.symm hz8)]; exact z5,j6,?_,by rw [Zbw (Zgq o5 q5 (by decide))]; exact q5,l ++ [i],ys ++ [⟨i.1.1,i.1.2,na,i.2.length,nc,ne⟩],k4.length + 1,g + 1,false,by rw [hstep,hi']; rfl,by simp [hll],by simp [hyl],Zce o5,?_,by omega,Nat.le_refl _,fun m x i' hx hi''=>?_⟩
     ·exact Zbc.set' ⟨by omega,fun x hx=>by rw [hk5 x (by omega) (fun i hi=>by cases hi; omega)]; exact T4.eq x hx⟩ (by omega)
     ·obtain ⟨hl',hr'⟩:=krw
      refine ⟨hl',hr'.imp id ?_⟩
      rintro ⟨i',o',t,all,ro,ha,hi',hg',x⟩
      cases ha
      rw [kj] at hg'; injection hg' with hg'; injection hg' with g1 g2 g3
      exact ⟨_,_,t,all,ro,rfl,by simp; have:=Own.lt j5; omega,by rw [j6,g1,g2,g3],x⟩
     ·rw [Zbw (by omega)]; simpa [eN] using hi5
     ·by_cases hm:m < g
      ·rw [List.getElem?_append_left (by omega)] at hx hi''
       obtain ⟨p1,p2,p3⟩:=hrep m x i' hx hi''
       exact ⟨p1,p2,fr6 (fr5 (p3.same t24))⟩
      ·have hmg:m=g:=by have:=(List.getElem?_eq_some_iff.1 hx).1; simp [hyl] at this; omega
       subst hmg
       rw [List.getElem?_append_right (by omega)] at hx hi''
       simp [hyl] at hx
       simp [hll] at hi''
       subst hx; subst hi''
       exact ⟨rfl,rfl,fr6 (fr5 nf4)⟩
    ·simp only [Zco,Zae,Zdt,Zah,Zaj,Zam,Zaq,Zaw]
     generalize hk3:k2 ++ [Zcb.cells Zad [.str [],.str [],.slice none 0 0 true] false]=k3
     have t3:Zbc k2.length k2 k3:=by rw [← hk3]; exact Zal
     have n3:k3[k2.length]?=some (.cells Zad [.str [],.str [],.slice none 0 0 true] false):=by rw [← hk3]; simp
     rw [Zbg n3 (by simp)]
     simp only [Zas,Bool.not_false,Zcv]
     have t4:Zbc k2.length k2 (k3.set k2.length (.cells Zad (putRow [.str [],.str [],.slice none 0 0 true] 0 [.str [],.str [],.slice none 0 0 true]) false)):=t3.set' (Nat.le_refl _)
     refine Yqw (T2.cat t4) (Nat.le_refl _) (t4.get kz2 (Own.lt kz2)) ?_
     rw [hW,Zze (k:=g + 1) Yed (by rw [hstep,hi']; rfl)]
   ·apply Zct.A12x2i
    have hgn:g=n:=by omega
    subst hgn
    rw [List.take_of_length_le (by omega)] at hl
    rw [Zaz ko]
    simp only [Zao,Zae,Zam,Zaj]
    have rep:Zkr k (some (q,0)) P.length c (some (q1,0)) g c1 ⟨P.map Yfx,l⟩:=by
     refine ⟨?_,⟨ys,?_,by rw [hyl,hll],fun m x i hx hi=>⟨(hrep m x i hx hi).1,(hrep m x i hx hi).2.1,(hrep m x i hx hi).2.2.row Zcr⟩⟩,hgc,hgc1⟩
     ·exact (Vec.mk1 (n:=0) (c:=0) kq).row (by rw [Zat Zcr,List.length_map])
     ·exact (Vec.mk1 (n:=0) (c:=0) kq1).row (by rw [Zat Zrn,hyl])
    have ws:WB ⟨P.map Yfx,l⟩:=by
     obtain ⟨h1,h2⟩:=Yab hl
     refine ⟨by simp; omega,by simp only; omega,fun p hp=>?_,fun i hi=>?_⟩
     ·simp only [List.mem_map] at hp
      obtain ⟨x,hx,rfl⟩:=hp
      have:=hmem2 x hx
      have h3:=Ylm (s:=x)
      exact ⟨by omega,by omega,Yhs (hby2 x hx)⟩
     ·obtain ⟨x,hx,he⟩:=h2 i hi
      have:=Yec (hmem3 x hx) he
      exact ⟨by omega,by omega,by omega,fun p hp=>by have:=this.2.2.2 p hp; omega⟩
    refine (Zkv rep ws).mono ?_
    rintro v m1 ⟨rfl,t1⟩
    simp only [Zaq]
    have M1:=kS.cat t1
    have mz:=t1.get kz (Own.lt kz)
    have mo:=t1.get ko (Own.lt ko)
    rw [hl] at hW
    simp only at hW
    refine Zbs (fun hv=>?_) (fun hv=>?_)
    ·refine Yqw M1 (Nat.le_refl _) mz ?_
     rw [hW]; unfold wdQ; rw [if_neg (by rw [hv]; simp)]
    ·rw [Zaz mo]
     simp only [Zao,Zae,Zam,Zaj]
     rw [Zbg mz (by simp)]
     simp only [Zas,putRow,List.take_zero,List.length_cons,List.length_nil,List.drop_succ_cons,List.drop_zero,List.drop_nil,List.cons_append,List.nil_append,List.append_nil,Nat.zero_add]
     rw [Zaz (Zce mz)]
     simp only [Zao,Zae,Zam,Zaj]
     refine ⟨M1.set' (Nat.le_refl _),_,_,_,_,_,_,_,_,_,rfl,?_⟩
     rw [hW]; unfold wdQ; rw [if_pos hv]
     have nz:∀ {x:Nat} {t:TypeId} {cs:List Zay},m1[x]?=some (.cells t cs false)→t≠Zac→(m1.set h.length (.cells Zac [.slice (some (q,0)) P.length c e,.slice (some (q1,0)) g c1 e1] false))[x]?=some (.cells t cs false):=fun {x t cs} hx hne=>by rw [Zbw (Zgq mz hx (Ne.symm hne))]; exact hx
     refine ⟨?_,⟨ys,?_,by rw [hyl,hll],fun m x i hx hi=>⟨(hrep m x i hx hi).1,(hrep m x i hx hi).2.1,?_⟩⟩,hgc,hgc1⟩
     ·exact (Vec.mk1 (n:=0) (c:=0) (nz (t1.get kq (Own.lt kq)) (by decide))).row (by rw [Zat Zcr,List.length_map])
     ·exact (Vec.mk1 (n:=0) (c:=0) (nz (t1.get kq1 (Own.lt kq1)) (by decide))).row (by rw [Zat Zrn,hyl])
     ·have f:=((hrep m x i hx hi).2.2).same t1
      exact (show Zds Zab eP h.length _ x.a x.n i.2 from ⟨f.1,f.2.imp id fun ⟨y,ha,hb,hy⟩=>⟨y,ha,hb,nz hy (by decide)⟩⟩).row Zcr
  refine ⟨fun hlt=>?_,fun hno=>?_⟩
  ·simp only [Zaj]
   have e1:((L.length:Int) - 1).toNat=L.length - 1:=by omega
   refine next _ _ _ _ e1 ?_ (fun i o h=>by cases h; rfl)
   rw [e1]
   refine ⟨by rw [Zat Zmy,List.length_drop]; omega,?_⟩
   by_cases h1:L.length=1
   ·left; omega
   ·right
    refine ⟨j,0 + 1 * 1,_,_,_,rfl,Own.lt hr1,hr1,by rw [Zat Zmy]; omega,?_⟩
    have:=Yju (enc:=eS) Zmy L 1
    rw [Nat.one_mul] at this
    rw [show 0 + 1 * 1=1 from rfl,this,List.take_of_length_le (by rw [Zat Zmy,List.length_drop]; omega)]
  ·simp only [Zaj]
   have e1:((L.length:Int) - 1).toNat=L.length - 1:=by omega
   have e0:L.length=1:=by omega
   refine next _ _ _ _ (by omega) ?_ (fun i o h=>by cases h)
   have:L.drop 1=[]:=List.drop_of_length_le (by omega)
   rw [this]; simp; exact Row.nil
end Go.Sim

set_option linter.unusedVariables false
set_option linter.unusedSimpArgs false
set_option maxRecDepth 20000
namespace Go.Sim
open Go Go.RowKit

def Xat (h h':Zaa) (u:List Zay) (w:Wd):Prop:=∃ a0 n0 c0 e0 q n1 c1 e1 ys,u=[.slice a0 n0 c0 e0,.slice (some (q,0)) n1 c1 e1]∧WDr h.length h' a0 n0 c0 q n1 c1 ys w
theorem Zem.cell {h h':Zaa} {i j o:Nat} (K:Zem i h h') (hj:j < h.length) (hi:j≠i):Zag h' (.ptr (some (j,o)))=Zag h (.ptr (some (j,o))):=by simp only [Zag,K.eq j hj hi]
theorem Zem.get {h h':Zaa} {i j:Nat} {x:Zcb} (K:Zem i h h') (hj:h[j]?=some x) (hi:j≠i):h'[j]?=some x:=by rw [K.eq j (Own.lt hj) hi]; exact hj
theorem Zvr {h:Zaa} (s:List Nat) (hs:s.length≤900) (hb:∀ b∈s,b < 256):Zak pg Zkb [.str s] h fun v h'=>Zbc h.length h h'∧∃ u b,v=.tup [.agg u,.bool b]∧Xat h h' u (wdP s):=by
 apply Zro.call
 simp only [Zaw]
 generalize hh0:h ++ [Zcb.cells Zac [.slice none 0 0 true,.slice none 0 0 true] false]=h0
 have s0:Zbc h.length h h0:=by rw [← hh0]; exact Zal
 have z0:h0[h.length]?=some (.cells Zac [.slice none 0 0 true,.slice none 0 0 true] false):=by rw [← hh0]; simp
 refine (Yvm s hs hb).mono ?_
 rintro v h2 ⟨s2,a0,n0,c0,e0,a1,n1,c1,e1,b,rfl,rep⟩
 have S2:=s0.cat s2
 have z2:=s2.get z0 (Own.lt z0)
 have l2:=S2.le
 simp only [Zco,Zae,Zdt,Zaj,Zam,Zaq]
 rw [Zfb]
 simp only [Zas]
 generalize hh3:h2 ++ [Zcb.cells Zac [.slice a0 n0 c0 e0,.slice a1 n1 c1 e1] false]=h3
 have s3:Zbc h2.length h2 h3:=by rw [← hh3]; exact Zal
 have y3:h3[h2.length]?=some (.cells Zac [.slice a0 n0 c0 e0,.slice a1 n1 c1 e1] false):=by rw [← hh3]; simp
 have S3:=S2.cat s3
 have z3:=s3.get z2 (Own.lt z2)
 rw [Zaz y3]
 simp only [Zao,Zae,Zam,Zaj]
 refine (Zyx (rep.same s3) ((Yaz hs hb).wb (by omega))).mono ?_
 rintro v h4 ⟨b0,d0,f0,b1,d1,f1,ys,rfl,s4,W4,hd0,hd1,_,_,q,rfl,hq,hqo⟩
 have z4:=s4.get z3 (Own.lt z3)
 simp only [Zdt,Zae,Zaj,Zam]
 rw [Zbg z4 (by simp)]
 simp only [Zas,putRow,List.take_zero,List.length_cons,List.length_nil,List.drop_succ_cons,List.drop_zero,List.drop_nil,List.cons_append,List.nil_append,List.append_nil,Nat.zero_add]
 rw [Zaz (Zce z4)]
 simp only [Zao,Zae,Zam,Zaj]
 have l3:=S3.le
 refine ⟨(S3.cat s4).set' (Nat.le_refl _),_,_,rfl,b0,n0,d0,f0,q,n1,d1,f1,ys,rfl,?_⟩
 have hz:=Own.lt z0
 have l03:=(s2.cat s3).le
 exact ((WDr.of (c0:=d0) (c1:=d1) W4 hd0 hd1 hq hqo).keep (fun j hj hjl=>by rw [Zbw (by omega)])).low (by omega)
theorem Yoy {h:Zaa} {x:Int} (hx0:0≤x) (hx9:x < 9):Zak pg Zqw [.int .i64 x] h fun v h'=>Zbc h.length h h'∧∃ u w,v=.agg u∧Xat h h' u w∧WS 1000 w:=by
 apply Zvn.call
 simp only [Zaw]
 generalize hh0:h ++ [Zcb.cells Zac [.slice none 0 0 true,.slice none 0 0 true] false]=h0
 have s0:Zbc h.length h h0:=by rw [← hh0]; exact Zal
 have z0:h0[h.length]?=some (.cells Zac [.slice none 0 0 true,.slice none 0 0 true] false):=by rw [← hh0]; simp
 have hl0:h0.length=h.length + 1:=by rw [← hh0]; simp
 have htm:Int.tmod x ((9:Nat):Int)=x:=by rw [Int.tmod_eq_emod_of_nonneg hx0]; exact Int.emod_eq_of_lt hx0 (by omega)
 rw [htm]
 refine ⟨by omega,⟨by omega,by omega⟩,?_⟩
 obtain ⟨k,rfl⟩:∃ k:Nat,x=k:=⟨x.toNat,by omega⟩
 have hk:k < 9:=by omega
 rw [Zgl,Int.toNat_natCast,Nat.zero_add,Nat.mul_one]
 generalize hL:([.str ([69,32,79,60,69,59,69,32,105,59,69,32,98,59,69,32,108,40,120,41,58,69,32,120,59,69,32,112,40,120,44,121,41,58,69,32,120,38,69,32,121,59,79,32,105,59,79,32,108,40,120,41,58,79,32,120]),.str ([69,32,83,59,69,32,105,59,69,32,108,40,120,41,58,69,32,120,59,69,32,108,40,105,41,59,83,32,112,40,120,44,120,41,58,83,32,120,59,83,32,112,40,105,44,98,41,59,83,32,105,59,83,32,98]),.str ([65,32,66,59,65,32,105,59,65,32,108,40,120,41,58,65,32,120,38,66,32,120,59,66,32,105,59,66,32,108,40,120,41,58,65,32,108,40,120,41]),.str ([65,59,65,32,108,40,120,41,58,65,32,108,40,120,41,59,65,32,109,40,120,41,58,65,32,108,40,109,40,120,41,41,59,65,32,105]),.str ([69,32,79,60,69,32,83,60,69,79,59,69,32,117,59,69,32,105,59,79,32,105,59,83,32,105,59,69,32,109,40,120,41,58,69,32,120,59,79,32,109,40,120,41,58,79,32,120,59,83,32,109,40,120,41,58,83,32,120,38,69,32,109,40,120,41]),.str ([69,32,70,59,69,32,105,59,69,32,98,59,70,32,108,40,120,41,58,69,32,120,59,70,32,109,40,120,41,58,70,32,120,38,69,32,120,59,70,32,112,40,108,40,120,41,44,121,41,58,69,32,120,38,70,32,121,59,70,32,105]),.str ([69,32,79,60,69,59,79,32,105,59,69,32,98,59,69,32,108,40,120,41,58,69,32,120]),.str ([65,32,66,60,65,32,67,60,65,66,59,65,32,105,59,66,32,105,59,67,32,105,59,65,32,108,40,120,41,58,67,32,120,59,66,32,108,40,120,41,58,67,32,120,59,67,32,108,40,120,41,58,67,32,120,59,65,32,117]),.str ([69,59,69,32,112,40,120,44,105,41,58,69,32,120,59,69,32,112,40,105,44,120,41,58,69,32,120,59,69,32,105,59,69,32,98])]:List Zay)=L
 have hx:∃ s:List Nat,L[k]?=some (.str s)∧s.length≤900∧∀ b∈s,b < 256:=by
  rw [← hL]
  match k,hk with
  | 0,_=>exact ⟨_,rfl,by decide,by decide⟩
  | 1,_=>exact ⟨_,rfl,by decide,by decide⟩
  | 2,_=>exact ⟨_,rfl,by decide,by decide⟩
  | 3,_=>exact ⟨_,rfl,by decide,by decide⟩
  | 4,_=>exact ⟨_,rfl,by decide,by decide⟩
  | 5,_=>exact ⟨_,rfl,by decide,by decide⟩
  | 6,_=>exact ⟨_,rfl,by decide,by decide⟩
  | 7,_=>exact ⟨_,rfl,by decide,by decide⟩
  | 8,_=>exact ⟨_,rfl,by decide,by decide⟩
 obtain ⟨s,hs1,hs2,hs3⟩:=hx
 rw [hs1]
 simp only [Zah]
 generalize hh1:h0 ++ [Zcb.cells Zbi L false]=h1
 have s1:Zbc h0.length h0 h1:=by rw [← hh1]; exact Zal
 have z1:=s1.get z0 (Own.lt z0)
 have S1:=s0.cat s1
 refine (Zvr s hs2 hs3).mono ?_
 rintro v h2 ⟨s2,u,b,rfl,a0,n0,c0,e0,q,n1,c1,e1,ys,rfl,d⟩
 have S2:=S1.cat s2
 have z2:=s2.get z1 (Own.lt z1)
 simp only [Zco,Zae,Zdt,Zaj,Zam,Zaq]
 rw [Zfb]
 simp only [Zas]
 generalize hh3:h2 ++ [Zcb.cells Zac [.slice a0 n0 c0 e0,.slice (some (q,0)) n1 c1 e1] false]=h3
 have s3:Zbc h2.length h2 h3:=by rw [← hh3]; exact Zal
 have y3:h3[h2.length]?=some (.cells Zac [.slice a0 n0 c0 e0,.slice (some (q,0)) n1 c1 e1] false):=by rw [← hh3]; simp
 have S3:=S2.cat s3
 have z3:=s3.get z2 (Own.lt z2)
 rw [Zaz y3]
 simp only [Zao,Zae,Zam,Zaj]
 rw [Zbg z3 (by simp)]
 simp only [Zas,putRow,List.take_zero,List.length_cons,List.length_nil,List.drop_succ_cons,List.drop_zero,List.drop_nil,List.cons_append,List.nil_append,List.append_nil,Nat.zero_add]
 rw [Zaz (Zce z3)]
 simp only [Zao,Zae,Zam,Zaj]
 have hz1:=Own.lt z1
 exact ⟨S3.set' (Nat.le_refl _),_,_,rfl,⟨a0,n0,c0,e0,q,n1,c1,e1,ys,rfl,((d.same s3).keep (fun j hj hjl=>by rw [Zbw (by omega)])).low S1.le⟩,Yaz hs2 hs3⟩
def RdK (i p k:Nat) (h h':Zaa):Prop:=Zem i h h'∧∃ p',p≤p'∧p'≤p + k∧Rdr h' i p'
theorem RdK.app {i p k:Nat} {h h1 h2:Zaa} (s:Zbc h.length h h1) (K:RdK i p k h1 h2):RdK i p k h h2:=⟨(Zem.of_same s).trans K.1,K.2⟩
theorem Yfp {h:Zaa} {i p b m:Nat} {a0:Pt} {n0 c0 q n1 c1:Nat} {e0 e1:Bool} {ys:List EI} {w:Wd} {s:List Nat} (r:Rdr h i p) (hp:p≤900000000000) (d:WDr b h a0 n0 c0 q n1 c1 ys w) (hib:i < b) (hn0:1≤n0) (ws:WS m w) (hs:s.length≤100) :
  Zak pg Zii [.ptr (some (i,0)),.agg [.slice a0 n0 c0 e0,.slice (some (q,0)) n1 c1 e1],.str s] h fun v h'=>∃ c t,v=.agg [.str c,.str t]∧c.length≤1000∧t.length≤1000∧RdK i p 1000 h h':=by
 have hil:=r.lt
 apply Zri.call
 simp only [Zaw]
 generalize hg0:h ++ [Zcb.cells Zac [.slice a0 n0 c0 e0,.slice (some (q,0)) n1 c1 e1] false]=g0
 generalize hg1:g0 ++ [Zcb.cells Zab [.str [],.str []] false]=g1
 have s0:Zbc h.length h g0:=by rw [← hg0]; exact Zal
 have s1:Zbc g0.length g0 g1:=by rw [← hg1]; exact Zal
 have x0:g0[h.length]?=some (.cells Zac [.slice a0 n0 c0 e0,.slice (some (q,0)) n1 c1 e1] false):=by rw [← hg0]; simp
 have x1:=s1.get x0 (Own.lt x0)
 have y1:g1[g0.length]?=some (.cells Zab [.str [],.str []] false):=by rw [← hg1]; simp
 have l0:g0.length=h.length + 1:=by rw [← hg0]; simp
 have S1:=s0.cat s1
 simp only [Zan x1,Nat.zero_add,List.getElem?_cons_zero,Zaj,true_and]
 refine (Zdd (r.same S1) (by omega) (n0:Int)).mono ?_
 rintro v k1 ⟨x,rfl,hx0,hx1,_,K1,R1,l1⟩
 have hx1:=hx1 (by omega)
 have x2:=K1.get x1 (by omega)
 have y2:=K1.get y1 (by omega)
 have KK1:=(Zem.of_same (i:=i) S1).trans K1
 obtain ⟨k,rfl⟩:∃ k:Nat,x=k:=⟨x.toNat,by omega⟩
 have d1:=(d.same S1).kp K1 hib
 obtain ⟨ic,oc,hkc,ha,_,_,hc,_⟩:=d1.rep.class (k:=k) (by omega)
 subst ha
 have hcl:=(ws.cs _ (List.getElem_mem hkc)).1
 simp only [Zax,Zan x2,List.getElem?_cons_zero,Zau,Int.toNat_natCast,Nat.add_zero,hc,Zah,true_and]
 refine ⟨⟨by omega,by omega⟩,?_⟩
 -- the end
 have fin:∀ (G:Zaa) (t:List Nat) (p':Nat),Zem i k1 G→t.length≤1000→p≤p'→p'≤p + 1000→Rdr G i p'→Zbt (Zbb G (.ptr (some (g0.length,0))) [.str w.cs[k].1,.str t]) fun h_22=>Zcd (Zbe h_22 (.ptr (some (g0.length,0))) 2) fun cs_23=>Zai cs_23 fun c_24 r_25=>Zbd (some c_24) fun s_26=>Zai r_25 fun c_27 r_28=>Zbd (some c_27) fun s_29=>Zbq r_28 (∃ c t,Zay.agg [.str s_26,.str s_29]=.agg [.str c,.str t]∧c.length≤1000∧t.length≤1000∧RdK i p 1000 h h_22):=by
  intro G t p' KG ht h1 h2 RG
  have yG:=KG.get y2 (by omega)
  rw [Zbg yG (by simp)]
  simp only [Zas,putRow,List.take_zero,List.length_cons,List.length_nil,List.drop_succ_cons,List.drop_zero,List.drop_nil,List.cons_append,List.nil_append,List.append_nil,Nat.zero_add]
  rw [Zaz (Zce yG)]
  simp only [Zao,Zae,Zam,Zah]
  have KG':=KK1.trans KG
  refine ⟨_,_,rfl,hcl,ht,⟨by have:=KG'.le; simp; omega,fun j hj hji=>by rw [Zbw (by omega)]; exact KG'.eq j hj hji⟩,p',h1,h2,RG.agree (fun j hj=>by rw [Zbw (by omega)]) (by simp)⟩
 refine Zar (fun hs0=>?_) (fun hs0=>?_)
 ·refine (Zdd R1 (by omega) 2).mono ?_
  rintro v k2 ⟨x,rfl,hx0,hx1',_,K2,R2,l2⟩
  have hx1':=hx1' (by omega)
  simp only [Zax]
  obtain ⟨z,rfl⟩:∃ z:Nat,x=z:=⟨x.toNat,by omega⟩
  have hB:4 ^ (z + 1)≤16:=by
   have:z=0 ∨ z=1:=by omega
   rcases this with rfl | rfl <;> decide
  refine (Zxl z (by omega) R2 (by omega) _).mono ?_
  rintro v k3 ⟨t,rfl,hok,hlen,K3,p3,hp1,hp2,R3⟩
  simp only [Zah]
  exact fin k3 t.txt p3 (K2.trans K3) (by omega) (by omega) (by omega) R3
 ·have hs1:1≤s.length:=by cases s with | nil=>exact absurd rfl hs0 | cons a r=>simp
  refine (Zdd R1 (by omega) (s.length:Nat)).mono ?_
  rintro v k2 ⟨x,rfl,hx0,hx1',_,K2,R2,l2⟩
  have hx1':=hx1' (by omega)
  simp only [Zax]
  have hsl:(sub s x (IntKind.wrap .i64 (x + 1))).length≤100:=Nat.le_trans (Yjj _ _ _) hs
  have hw1:IntKind.wrap .i64 (x + 1)=x + 1:=IntWalk.i64_in _ (by omega)
  refine ⟨⟨by omega,by omega,by omega⟩,by simp; omega,by simp; omega,?_⟩
  generalize sub s x (IntKind.wrap .i64 (x + 1))=y at hsl ⊢
  have hk2l:=R2.lt
  refine (Zno (R2.app _) (by omega) (j:=k2.length) (t:=Zbi) (n:=5) (l:=[y,y,y,[108,40] ++ y ++ [41],y]) (by simp [Zdb,eS]) (by omega) rfl (by omega)).mono ?_
  rintro v k3 ⟨t,ht,rfl,K3,R3,l3⟩
  simp only [Zah]
  have htl:t.length≤1000:=by
   simp only [List.mem_cons,List.not_mem_nil,or_false] at ht
   rcases ht with rfl | rfl | rfl | rfl | rfl <;> first | omega | (simp; omega)
  exact fin k3 t _ (K2.trans ((Zem.app i k2 _).trans K3)) htl (by omega) (by omega) R3
end Go.Sim
