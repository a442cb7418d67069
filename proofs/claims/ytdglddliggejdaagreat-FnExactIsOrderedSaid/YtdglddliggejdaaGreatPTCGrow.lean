/- A part of the proof of a statement of this seat: see the text that holds the theorem. No condition. -/
import Derived.Test.YtdglddliggejdaaGreatNm
set_option linter.unusedVariables false
set_option linter.unusedSimpArgs false
set_option linter.all false
set_option maxRecDepth 100000
set_option maxHeartbeats 0
set_option linter.unusedVariables false
namespace Go.Sim
open Go Go.RowKit
namespace Zdq
noncomputable abbrev fn:Func:=Go.Proofs.Tryz.f79
def kp:Zce:=[(2000003,[7,8,0,4,5]),(2000009,[]),(4000015,[4,0,5]),(3000016,[6]),(1000016,[0,4,5,67,68]),(2000018,[83,68,67,0,4,5])]
noncomputable def C (p:List Nat):Code:=(cod fn).sub p
def KR (Q:QT):KT:=Zev pg fn.results.toList Q
abbrev T16:=Pt→Nat→Nat→Nat→Nat→Int→Int→Zaa→Prop
def E16 (R16:T16) (env:Env) (h:Zaa):Prop:=Zby 0 env fun v env=>Zfd v fun a0=>Zby 4 env fun v env=>Zfd v fun a=>Zba a fun i4 o4=>Zby 5 env fun v env=>Zfd v fun a=>Zba a fun i5 o5=>Zby 67 env fun v env=>Zea .i64 v fun x67=>Zby 68 env fun v env=>Zea .i64 v fun x68=>Zjh env (R16 a0 i4 o4 i5 o5 x67 x68 h)
theorem Yjg {R16:T16} {env:Env} {h:Zaa} (hi:E16 R16 env h):∃ a0,∃ i4,∃ o4,∃ i5,∃ o5,∃ x67,∃ x68,env=[(0,.ptr a0),(4,.ptr (i4,o4)),(5,.ptr (i5,o5)),(67,.int .i64 x67),(68,.int .i64 x68)]∧R16 a0 i4 o4 i5 o5 x67 x68 h:=by
 unfold E16 at hi
 have hi0:=hi
 clear hi
 obtain ⟨_,_,rfl,hi1⟩:=Zaf hi0
 obtain ⟨a0,rfl,hi2⟩:=Zbk hi1
 obtain ⟨_,_,rfl,hi3⟩:=Zaf hi2
 obtain ⟨a,rfl,hi4⟩:=Zbk hi3
 obtain ⟨i4,o4,rfl,hi5⟩:=Zbj hi4
 obtain ⟨_,_,rfl,hi6⟩:=Zaf hi5
 obtain ⟨a,rfl,hi7⟩:=Zbk hi6
 obtain ⟨i5,o5,rfl,hi8⟩:=Zbj hi7
 obtain ⟨_,_,rfl,hi9⟩:=Zaf hi8
 obtain ⟨x67,rfl,hi10⟩:=Zav hi9
 obtain ⟨_,_,rfl,hi11⟩:=Zaf hi10
 obtain ⟨x68,rfl,hi12⟩:=Zav hi11
 obtain ⟨rfl,hi13⟩:=Zbi hi12
 have hi:=hi13
 exact ⟨a0,i4,o4,i5,o5,x67,x68,rfl,hi⟩
def K0 (Q:QT):KT:=andThen (fun env' h'=>(match kp.find 4000021 with | some ks=>Den pg fn.ntmps (C [1,1,1,1,1,1]) (env'.keep ks) h' (KR Q) | none=>den pg fn.ntmps kp (C [1,1,1,1,1,1]) env' h' (KR Q))) (KR Q)
def K1 (Q:QT):KT:=Zcl 1 (K0 Q)
def K2 (Q:QT):KT:=left kp 16 (K1 Q)
def K3 (Q:QT) (R16:T16):KT:=rnd ((kp.find 1000016).getD []) (E16 R16) (K2 Q)
def J15 (Q:QT) (i4 o4:Nat) (a0:Pt) (i5 o5:Nat) (h:Zaa):Prop:=Den pg fn.ntmps (C [1,1,1,1,1]) [(4,.ptr (i4,o4)),(0,.ptr a0),(5,.ptr (i5,o5))] h (KR Q)
def L16 (Q:QT) (a0:Pt) (i4 o4 i5 o5:Nat) (x67 x68:Int) (h:Zaa):Prop:=Zdz (Den pg fn.ntmps (C [1,1,1,1,1,0,1,0,0])) ((kp.find 1000016).getD []) (K2 Q) [(0,.ptr a0),(4,.ptr (i4,o4)),(5,.ptr (i5,o5)),(67,.int .i64 x67),(68,.int .i64 x68)] h
def Ypg (Q:QT) (h:Zaa):Prop:=At (K1 Q) (.exit 1) [(6,.undef)] h
theorem J15i (Q:QT) (i4 o4:Nat) (a0:Pt) (i5 o5:Nat) (h:Zaa) (ht :
 xSl (Zad h (.ptr (i4,o4 + 1))) fun A A B B=>L16 Q a0 i4 o4 i5 o5 (((A:Nat):Int)) 0 h):J15 Q i4 o4 a0 i5 o5 h:=
 Zbb (kp:=kp) (cast (by kernel_rfl) ht)
def L16t (Q:QT) (R16:T16) (a0:Pt) (i4 o4 i5 o5:Nat) (x67 x68:Int) (h:Zaa):Prop:=
 bcase (decide ((x68:Int) < x67)) (xSl (Zad h (.ptr (i4,o4 + 1))) fun A B C C=>(0≤(x68:Int)∧(x68:Int) < (B:Nat))∧(Zba A fun A B=>Zcs (Zbf h (.ptr (A,B + (Int.toNat x68) * 2)) 2) fun C=>Zaj C fun C D=>Zci .u8 C fun C=>Zaj D fun D E=>xSl D fun D F G H=>Zcf E (xSl (Zad h (.ptr (i5,o5 + 1))) fun E I J J=>(Zbf h (.ptr (A,B + (Int.toNat x68) * 2)) 2=Zbf h (.ptr (A,B + (Int.toNat x68) * 2)) 2)∧(Zad h (.ptr (i4,o4 + 1))=Zad h (.ptr (i4,o4 + 1)))∧(0≤(x68:Int)∧(x68:Int) < (I:Nat))∧(Zba E fun E I=>Zcs (Zbf h (.ptr (E,I + (Int.toNat x68) * 2)) 2) fun E=>Zaj E fun E I=>Zci .u8 E fun E=>Zaj I fun I J=>xSl I fun I K L M=>Zcf J ((Zbf h (.ptr (A,B + (Int.toNat x68) * 2)) 2=Zbf h (.ptr (A,B + (Int.toNat x68) * 2)) 2)∧(Zad h (.ptr (i4,o4 + 1))=Zad h (.ptr (i4,o4 + 1)))∧Zae pg Zcr [.ptr a0,.agg [.int .u8 C,.slice D F G H],.agg [.int .u8 E,.slice I K L M]] h fun A B=>
 Zbp A fun A=>(Zad B (.ptr (i4,o4 + 1))=Zad h (.ptr (i4,o4 + 1)))∧bcase (!A) (Q (.bool false) B) (R16 a0 i4 o4 i5 o5 x67 (IntKind.wrap .i64 (x68 + 1)) B)))))) (Ypg Q h)
theorem Yqg (Q:QT) (R16:T16) (a0:Pt) (i4 o4 i5 o5:Nat) (x67 x68:Int) (h:Zaa) (ht:L16t Q R16 a0 i4 o4 i5 o5 x67 x68 h):Den pg fn.ntmps (C [1,1,1,1,1,0,1,0,0]) [(0,.ptr a0),(4,.ptr (i4,o4)),(5,.ptr (i5,o5)),(67,.int .i64 x67),(68,.int .i64 x68)] h (K3 Q R16):=
 Zbb (kp:=kp) (cast (by kernel_rfl) ht)
theorem L16ind (Q:QT) (a0:Pt) (i4 o4 i5 o5:Nat) (x67:Int) {G:Type} (J:G→Int→Zaa→Prop) (m:G→Nat)
 (hr:∀ (g:G) (x68:Int) (h:Zaa),J g x68 h→∀ (R16:T16),(∀ g' (x68:Int) (h:Zaa),m g' < m g→J g' x68 h→R16 a0 i4 o4 i5 o5 x67 x68 h)→L16t Q R16 a0 i4 o4 i5 o5 x67 x68 h)
 (g:G) (x68:Int) (h:Zaa) (hj:J g x68 h):L16 Q a0 i4 o4 i5 o5 x67 x68 h:=by
 let P:=fun (K:Int→Zaa→Prop) a0' i4' o4' i5' o5' x67' x68 h=>a0=a0'∧i4=i4'∧o4=o4'∧i5=i5'∧o5=o5'∧x67=x67'∧K x68 h
 refine Zdz.inv2 (fun g=>E16 (P (J g))) (fun g=>E16 (P fun x68 h=>∃ g',m g' < m g∧J g' x68 h)) m ?_ ?_ g ⟨rfl,rfl,rfl,rfl,rfl,rfl,hj⟩
 ·intro g env h hi
  obtain ⟨a0',i4',o4',i5',o5',x67',x68,rfl,rfl,rfl,rfl,rfl,rfl,rfl,hj⟩:=Yjg hi
  exact Yqg Q _ a0 i4 o4 i5 o5 x67 x68 h (hr g x68 h hj (P fun x68 h=>∃ g',m g' < m g∧J g' x68 h) fun g' x68 h hlt hj=>⟨rfl,rfl,rfl,rfl,rfl,rfl,g',hlt,hj⟩)
 ·intro g env h hi
  obtain ⟨a0',i4',o4',i5',o5',x67',x68,rfl,rfl,rfl,rfl,rfl,rfl,rfl,g',hlt,hj⟩:=Yjg hi
  exact ⟨g',hlt,rfl,rfl,rfl,rfl,rfl,rfl,hj⟩
theorem A16x1i (Q:QT) (h:Zaa) (ht :
 Q (.bool true) h):Ypg Q h:=
 At.mk (cast (by kernel_rfl) ht)
theorem call (a0:Pt) (x1x0:Int) (a1x1:Pt) (n1x1 c1x1:Nat) (e1x1:Bool) (x2x0:Int) (a2x1:Pt) (n2x1 c2x1:Nat) (e2x1:Bool) (h:Zaa) (Q:QT) (ht :
 Zcy (h ++ [.cells Zab [.int .u8 x1x0,.slice a1x1 n1x1 c1x1 e1x1] false]) fun A=>Zcy (A ++ [.cells Zab [.int .u8 x2x0,.slice a2x1 n2x1 c2x1 e2x1] false]) fun B=>Zcs (Zbf B (.ptr (h.length,0)) 2) fun C=>Zaj C fun C D=>Zci .u8 C fun C=>Zaj D fun D E=>xSl D fun D F G H=>Zcf E (Zae pg Zgs [.ptr a0,.agg [.int .u8 C,.slice D F G H]] B fun B C=>
 Zrs B fun B=>Zaj B fun B D=>Zci .u8 B fun B=>Zaj D fun D E=>xSl D fun D F G H=>Zcf E (Zch (Zbe C (.ptr (h.length,0)) [.int .u8 B,.slice D F G H]) fun B=>Zcs (Zbf B (.ptr (A.length,0)) 2) fun C=>Zaj C fun C D=>Zci .u8 C fun C=>Zaj D fun D E=>xSl D fun D F G H=>Zcf E (Zae pg Zgs [.ptr a0,.agg [.int .u8 C,.slice D F G H]] B fun B C=>
 Zrs B fun B=>Zaj B fun B D=>Zci .u8 B fun B=>Zaj D fun D E=>xSl D fun D F G H=>Zcf E (Zch (Zbe C (.ptr (A.length,0)) [.int .u8 B,.slice D F G H]) fun B=>Zci .u8 (Zad B (.ptr (h.length,0 + 0))) fun C=>Zci .u8 (Zad B (.ptr (A.length,0 + 0))) fun D=>Zae pg Zeo [.int .u8 C] B fun C E=>
 Zci .i64 C fun C=>(Zad E (.ptr (A.length,0 + 0))=Zad B (.ptr (A.length,0 + 0)))∧Zae pg Zeo [.int .u8 D] E fun B D=>
 Zci .i64 B fun B=>(Zad D (.ptr (h.length,0 + 0))=Zad E (.ptr (h.length,0 + 0)))∧bcase (decide ((C:Int) ≥ 0)) (bcase ((C:Int) == B) (Q (.bool true) D) (bcase (decide ((C:Int) ≥ 0)) (bcase (decide ((B:Int) < 0)) (Zci .u8 (Zad D (.ptr (h.length,0 + 0))) fun E=>Zcs (Zbf D (.ptr (A.length,0)) 2) fun F=>Zaj F fun F G=>Zci .u8 F fun F=>Zaj G fun G H=>xSl G fun G I J K=>Zcf H (Zae pg Zcx [.ptr a0,.int .u8 E,.agg [.int .u8 F,.slice G I J K]] D fun E F=>
 Zbp E fun E=>bcase E (Q (.bool false) F) (Zba a0 fun E G=>Zcs (Zbf F (.ptr (A.length,0)) 2) fun H=>Zaj H fun H I=>Zci .u8 H fun H=>Zaj I fun I J=>xSl I fun I K L M=>Zcf J ((0≤(C:Int)∧(C:Int) < (12:Nat))∧(Zch (Zbe F (.ptr (E,G + (Int.toNat C) * 2)) [.int .u8 H,.slice I K L M]) fun E=>Q (.bool true) E))))) (bcase (decide ((C:Int) < B)) (Zci .u8 (Zad D (.ptr (h.length,0 + 0))) fun E=>Zcs (Zbf D (.ptr (A.length,0)) 2) fun F=>Zaj F fun F G=>Zci .u8 F fun F=>Zaj G fun G H=>xSl G fun G I J K=>Zcf H (Zae pg Zcx [.ptr a0,.int .u8 E,.agg [.int .u8 F,.slice G I J K]] D fun E F=>
 Zbp E fun E=>bcase E (Q (.bool false) F) (Zba a0 fun E G=>Zcs (Zbf F (.ptr (A.length,0)) 2) fun H=>Zaj H fun H I=>Zci .u8 H fun H=>Zaj I fun I J=>xSl I fun I K L M=>Zcf J ((0≤(C:Int)∧(C:Int) < (12:Nat))∧(Zch (Zbe F (.ptr (E,G + (Int.toNat C) * 2)) [.int .u8 H,.slice I K L M]) fun E=>Q (.bool true) E))))) (bcase (decide ((B:Int) ≥ 0)) (Zcs (Zbf D (.ptr (A.length,0)) 2) fun E=>Zaj E fun E F=>Zci .u8 E fun E=>Zaj F fun F G=>xSl F fun F H I J=>Zcf G (Zcs (Zbf D (.ptr (h.length,0)) 2) fun G=>Zaj G fun G K=>Zci .u8 G fun G=>Zaj K fun K L=>xSl K fun K M N O=>Zcf L (Zae pg Zcr [.ptr a0,.agg [.int .u8 E,.slice F H I J],.agg [.int .u8 G,.slice K M N O]] D fun E F=>
 Zbp E fun E=>Q (.bool E) F))) (Zci .u8 (Zad D (.ptr (h.length,0 + 0))) fun E=>Zci .u8 (Zad D (.ptr (A.length,0 + 0))) fun F=>bcase (!((E:Int) == F)) (Q (.bool false) D) (J15 Q h.length 0 a0 A.length 0 D))))) (bcase (decide ((B:Int) ≥ 0)) (Zcs (Zbf D (.ptr (A.length,0)) 2) fun E=>Zaj E fun E F=>Zci .u8 E fun E=>Zaj F fun F G=>xSl F fun F H I J=>Zcf G (Zcs (Zbf D (.ptr (h.length,0)) 2) fun G=>Zaj G fun G K=>Zci .u8 G fun G=>Zaj K fun K L=>xSl K fun K M N O=>Zcf L (Zae pg Zcr [.ptr a0,.agg [.int .u8 E,.slice F H I J],.agg [.int .u8 G,.slice K M N O]] D fun E F=>
 Zbp E fun E=>Q (.bool E) F))) (Zci .u8 (Zad D (.ptr (h.length,0 + 0))) fun E=>Zci .u8 (Zad D (.ptr (A.length,0 + 0))) fun F=>bcase (!((E:Int) == F)) (Q (.bool false) D) (J15 Q h.length 0 a0 A.length 0 D))))) (bcase (decide ((C:Int) ≥ 0)) (bcase (decide ((B:Int) < 0)) (Zci .u8 (Zad D (.ptr (h.length,0 + 0))) fun E=>Zcs (Zbf D (.ptr (A.length,0)) 2) fun F=>Zaj F fun F G=>Zci .u8 F fun F=>Zaj G fun G H=>xSl G fun G I J K=>Zcf H (Zae pg Zcx [.ptr a0,.int .u8 E,.agg [.int .u8 F,.slice G I J K]] D fun E F=>
 Zbp E fun E=>bcase E (Q (.bool false) F) (Zba a0 fun E G=>Zcs (Zbf F (.ptr (A.length,0)) 2) fun H=>Zaj H fun H I=>Zci .u8 H fun H=>Zaj I fun I J=>xSl I fun I K L M=>Zcf J ((0≤(C:Int)∧(C:Int) < (12:Nat))∧(Zch (Zbe F (.ptr (E,G + (Int.toNat C) * 2)) [.int .u8 H,.slice I K L M]) fun E=>Q (.bool true) E))))) (bcase (decide ((C:Int) < B)) (Zci .u8 (Zad D (.ptr (h.length,0 + 0))) fun E=>Zcs (Zbf D (.ptr (A.length,0)) 2) fun F=>Zaj F fun F G=>Zci .u8 F fun F=>Zaj G fun G H=>xSl G fun G I J K=>Zcf H (Zae pg Zcx [.ptr a0,.int .u8 E,.agg [.int .u8 F,.slice G I J K]] D fun E F=>
 Zbp E fun E=>bcase E (Q (.bool false) F) (Zba a0 fun E G=>Zcs (Zbf F (.ptr (A.length,0)) 2) fun H=>Zaj H fun H I=>Zci .u8 H fun H=>Zaj I fun I J=>xSl I fun I K L M=>Zcf J ((0≤(C:Int)∧(C:Int) < (12:Nat))∧(Zch (Zbe F (.ptr (E,G + (Int.toNat C) * 2)) [.int .u8 H,.slice I K L M]) fun C=>Q (.bool true) C))))) (bcase (decide ((B:Int) ≥ 0)) (Zcs (Zbf D (.ptr (A.length,0)) 2) fun C=>Zaj C fun C E=>Zci .u8 C fun C=>Zaj E fun E F=>xSl E fun E G H I=>Zcf F (Zcs (Zbf D (.ptr (h.length,0)) 2) fun F=>Zaj F fun F J=>Zci .u8 F fun F=>Zaj J fun J K=>xSl J fun J L M N=>Zcf K (Zae pg Zcr [.ptr a0,.agg [.int .u8 C,.slice E G H I],.agg [.int .u8 F,.slice J L M N]] D fun C E=>
 Zbp C fun C=>Q (.bool C) E))) (Zci .u8 (Zad D (.ptr (h.length,0 + 0))) fun C=>Zci .u8 (Zad D (.ptr (A.length,0 + 0))) fun E=>bcase (!((C:Int) == E)) (Q (.bool false) D) (J15 Q h.length 0 a0 A.length 0 D))))) (bcase (decide ((B:Int) ≥ 0)) (Zcs (Zbf D (.ptr (A.length,0)) 2) fun B=>Zaj B fun B C=>Zci .u8 B fun B=>Zaj C fun C E=>xSl C fun C F G H=>Zcf E (Zcs (Zbf D (.ptr (h.length,0)) 2) fun E=>Zaj E fun E I=>Zci .u8 E fun E=>Zaj I fun I J=>xSl I fun I K L M=>Zcf J (Zae pg Zcr [.ptr a0,.agg [.int .u8 B,.slice C F G H],.agg [.int .u8 E,.slice I K L M]] D fun B C=>
 Zbp B fun B=>Q (.bool B) C))) (Zci .u8 (Zad D (.ptr (h.length,0 + 0))) fun B=>Zci .u8 (Zad D (.ptr (A.length,0 + 0))) fun C=>bcase (!((B:Int) == C)) (Q (.bool false) D) (J15 Q h.length 0 a0 A.length 0 D))))))))):Zae pg Zcr [.ptr a0,.agg [.int .u8 x1x0,.slice a1x1 n1x1 c1x1 e1x1],.agg [.int .u8 x2x0,.slice a2x1 n2x1 c2x1 e2x1]] h Q:=
 Zae.of_body kp (c:=cod fn) (fn:=fn) Go.Proofs.Tryz.func79 (by kernel_rfl) (by kernel_rfl) (Nat.le_of_ble_eq_true (by kernel_rfl))
  (cast (by kernel_rfl) ht)
end Zdq
end Go.Sim

set_option maxRecDepth 100000
set_option maxHeartbeats 0
set_option linter.unusedVariables false
namespace Go.Sim
open Go Go.RowKit
namespace Zgq
noncomputable abbrev fn:Func:=Go.Proofs.Tryz.f126
def kp:Zce:=[(3000005,[6]),(1000005,[0,1,17,18,19])]
noncomputable def C (p:List Nat):Code:=(cod fn).sub p
def KR (Q:QT):KT:=Zev pg fn.results.toList Q
abbrev T5:=Pt→Int→Pt→Nat→Nat→Bool→Int→Int→Zaa→Prop
def E5 (R5:T5) (env:Env) (h:Zaa):Prop:=Zby 0 env fun v env=>Zfd v fun a0=>Zby 1 env fun v env=>Zea .u8 v fun x1=>Zby 17 env fun v env=>xSl v fun a17 n17 c17 e17=>Zby 18 env fun v env=>Zea .i64 v fun x18=>Zby 19 env fun v env=>Zea .i64 v fun x19=>Zjh env (R5 a0 x1 a17 n17 c17 e17 x18 x19 h)
theorem Zgd {R5:T5} {env:Env} {h:Zaa} (hi:E5 R5 env h):∃ a0,∃ x1,∃ a17,∃ n17,∃ c17,∃ e17,∃ x18,∃ x19,env=[(0,.ptr a0),(1,.int .u8 x1),(17,.slice a17 n17 c17 e17),(18,.int .i64 x18),(19,.int .i64 x19)]∧R5 a0 x1 a17 n17 c17 e17 x18 x19 h:=by
 unfold E5 at hi
 repeat ((first | (have k:=Zaf hi; clear hi; obtain ⟨_,_,e,hi⟩:=k) | (have k:=Zbk hi; clear hi; obtain ⟨_,e,hi⟩:=k) | (have k:=Zav hi; clear hi; obtain ⟨_,e,hi⟩:=k) | (have k:=Zbz hi; clear hi; obtain ⟨_,_,_,_,e,hi⟩:=k)); subst e)
 obtain ⟨rfl,hi⟩:=Zbi hi
 exact ⟨_,_,_,_,_,_,_,_,rfl,hi⟩
def K0 (Q:QT):KT:=andThen (fun env' h'=>(match kp.find 4000010 with | some ks=>Den pg fn.ntmps (C [1,1,1,1]) (env'.keep ks) h' (KR Q) | none=>den pg fn.ntmps kp (C [1,1,1,1]) env' h' (KR Q))) (KR Q)
def K1 (Q:QT):KT:=Zcl 0 (K0 Q)
def K2 (Q:QT):KT:=left kp 5 (K1 Q)
def K3 (Q:QT) (R5:T5):KT:=rnd ((kp.find 1000005).getD []) (E5 R5) (K2 Q)
def L5 (Q:QT) (a0:Pt) (x1:Int) (a17:Pt) (n17 c17:Nat) (e17:Bool) (x18 x19:Int) (h:Zaa):Prop:=Zdz (Den pg fn.ntmps (C [1,1,1,0,1,0,0])) ((kp.find 1000005).getD []) (K2 Q) [(0,.ptr a0),(1,.int .u8 x1),(17,.slice a17 n17 c17 e17),(18,.int .i64 x18),(19,.int .i64 x19)] h
def A5x0 (Q:QT) (h:Zaa):Prop:=At (K1 Q) (.exit 0) [(6,.undef)] h
def L5t (Q:QT) (R5:T5) (a0:Pt) (x1:Int) (a17:Pt) (n17 c17:Nat) (e17:Bool) (x18 x19:Int) (h:Zaa):Prop:=
 bcase (decide ((x19:Int) < x18)) ((0≤(x19:Int)∧(x19:Int) < (n17:Nat))∧(Zba a17 fun A B=>Zcs (Zbf h (.ptr (A,B + (Int.toNat x19) * 2)) 2) fun A=>Zaj A fun A B=>Zci .u8 A fun A=>Zaj B fun B C=>xSl B fun B D E F=>Zcf C (Zcy (h ++ [.cells Zab [.int .u8 0,.slice none 0 0 true] false]) fun C=>Zch (Zbe C (.ptr (h.length,0)) [.int .u8 A,.slice B D E F]) fun A=>Zcs (Zbf A (.ptr (h.length,0)) 2) fun B=>Zaj B fun B C=>Zci .u8 B fun B=>Zaj C fun C D=>xSl C fun C E F G=>Zcf D (Zae pg Zcx [.ptr a0,.int .u8 x1,.agg [.int .u8 B,.slice C E F G]] A fun A B=>
 Zbp A fun A=>bcase A (Q (.bool true) B) (R5 a0 x1 a17 n17 c17 e17 x18 (IntKind.wrap .i64 (x19 + 1)) B))))) (A5x0 Q h)
theorem Zqk (Q:QT) (R5:T5) (a0:Pt) (x1:Int) (a17:Pt) (n17 c17:Nat) (e17:Bool) (x18 x19:Int) (h:Zaa) (ht:L5t Q R5 a0 x1 a17 n17 c17 e17 x18 x19 h):Den pg fn.ntmps (C [1,1,1,0,1,0,0]) [(0,.ptr a0),(1,.int .u8 x1),(17,.slice a17 n17 c17 e17),(18,.int .i64 x18),(19,.int .i64 x19)] h (K3 Q R5):=
 Zbb (kp:=kp) (cast (by kernel_rfl) ht)
theorem L5ind (Q:QT) (a0:Pt) (x1:Int) (a17:Pt) (n17 c17:Nat) (e17:Bool) (x18:Int) {G:Type} (J:G→Int→Zaa→Prop) (m:G→Nat)
 (hr:∀ (g:G) (x19:Int) (h:Zaa),J g x19 h→∀ (R5:T5),(∀ g' (x19:Int) (h:Zaa),m g' < m g→J g' x19 h→R5 a0 x1 a17 n17 c17 e17 x18 x19 h)→L5t Q R5 a0 x1 a17 n17 c17 e17 x18 x19 h)
 (g:G) (x19:Int) (h:Zaa) (hj:J g x19 h):L5 Q a0 x1 a17 n17 c17 e17 x18 x19 h:=by
 let P:=fun (K:Int→Zaa→Prop) a0' x1' a17' n17' c17' e17' x18' x19 h=>a0=a0'∧x1=x1'∧a17=a17'∧n17=n17'∧c17=c17'∧e17=e17'∧x18=x18'∧K x19 h
 refine Zdz.inv2 (fun g=>E5 (P (J g))) (fun g=>E5 (P fun x19 h=>∃ g',m g' < m g∧J g' x19 h)) m ?_ ?_ g ⟨rfl,rfl,rfl,rfl,rfl,rfl,rfl,hj⟩
 ·intro g env h hi
  obtain ⟨a0',x1',a17',n17',c17',e17',x18',x19,rfl,rfl,rfl,rfl,rfl,rfl,rfl,rfl,hj⟩:=Zgd hi
  exact Zqk Q _ a0 x1 a17 n17 c17 e17 x18 x19 h (hr g x19 h hj (P fun x19 h=>∃ g',m g' < m g∧J g' x19 h) fun g' x19 h hlt hj=>⟨rfl,rfl,rfl,rfl,rfl,rfl,rfl,g',hlt,hj⟩)
 ·intro g env h hi
  obtain ⟨a0',x1',a17',n17',c17',e17',x18',x19,rfl,rfl,rfl,rfl,rfl,rfl,rfl,rfl,g',hlt,hj⟩:=Zgd hi
  exact ⟨g',hlt,rfl,rfl,rfl,rfl,rfl,rfl,rfl,hj⟩
theorem A5x0i (Q:QT) (h:Zaa) (ht :
 Q (.bool false) h):A5x0 Q h:=
 At.mk (cast (by kernel_rfl) ht)
theorem call (a0:Pt) (x1 x2x0:Int) (a2x1:Pt) (n2x1 c2x1:Nat) (e2x1:Bool) (h:Zaa) (Q:QT) (ht :
 Zcy (h ++ [.cells Zab [.int .u8 x2x0,.slice a2x1 n2x1 c2x1 e2x1] false]) fun A=>Zcs (Zbf A (.ptr (h.length,0)) 2) fun B=>Zaj B fun B C=>Zci .u8 B fun B=>Zaj C fun C D=>xSl C fun C E F G=>Zcf D (Zae pg Zgs [.ptr a0,.agg [.int .u8 B,.slice C E F G]] A fun A B=>
 Zrs A fun A=>Zaj A fun A C=>Zci .u8 A fun A=>Zaj C fun C D=>xSl C fun C E F G=>Zcf D (Zch (Zbe B (.ptr (h.length,0)) [.int .u8 A,.slice C E F G]) fun A=>Zci .u8 (Zad A (.ptr (h.length,0 + 0))) fun B=>bcase ((B:Int) == x1) (Q (.bool true) A) (xSl (Zad A (.ptr (h.length,0 + 1))) fun B C D E=>L5 Q a0 x1 B C D E (((C:Nat):Int)) 0 A)))):Zae pg Zcx [.ptr a0,.int .u8 x1,.agg [.int .u8 x2x0,.slice a2x1 n2x1 c2x1 e2x1]] h Q:=
 Zae.of_body kp (c:=cod fn) (fn:=fn) Go.Proofs.Tryz.func126 (by kernel_rfl) (by kernel_rfl) (Nat.le_of_ble_eq_true (by kernel_rfl))
  (cast (by kernel_rfl) ht)
end Zgq
end Go.Sim

set_option maxRecDepth 100000
set_option maxHeartbeats 0
set_option linter.unusedVariables false
namespace Go.Sim
open Go Go.RowKit
namespace Zfu
noncomputable abbrev fn:Func:=Go.Proofs.Tryz.f125
def kp:Zce:=[(3000002,[3,4]),(1000002,[0,3,4,5]),(4000004,[0,5,3,4])]
noncomputable def C (p:List Nat):Code:=(cod fn).sub p
def KR (Q:QT):KT:=Zev pg fn.results.toList Q
abbrev T2:=Pt→Nat→Nat→Nat→Nat→Int→Zaa→Prop
def E2 (R2:T2) (env:Env) (h:Zaa):Prop:=Zby 0 env fun v env=>Zfd v fun a0=>Zby 3 env fun v env=>Zfd v fun a=>Zba a fun i3 o3=>Zby 4 env fun v env=>Zfd v fun a=>Zba a fun i4 o4=>Zby 5 env fun v env=>Zea .i64 v fun x5=>Zjh env (R2 a0 i3 o3 i4 o4 x5 h)
theorem Zfm {R2:T2} {env:Env} {h:Zaa} (hi:E2 R2 env h):∃ a0,∃ i3,∃ o3,∃ i4,∃ o4,∃ x5,env=[(0,.ptr a0),(3,.ptr (i3,o3)),(4,.ptr (i4,o4)),(5,.int .i64 x5)]∧R2 a0 i3 o3 i4 o4 x5 h:=by
 unfold E2 at hi
 have hi0:=hi
 clear hi
 obtain ⟨_,_,rfl,hi1⟩:=Zaf hi0
 obtain ⟨a0,rfl,hi2⟩:=Zbk hi1
 obtain ⟨_,_,rfl,hi3⟩:=Zaf hi2
 obtain ⟨a,rfl,hi4⟩:=Zbk hi3
 obtain ⟨i3,o3,rfl,hi5⟩:=Zbj hi4
 obtain ⟨_,_,rfl,hi6⟩:=Zaf hi5
 obtain ⟨a,rfl,hi7⟩:=Zbk hi6
 obtain ⟨i4,o4,rfl,hi8⟩:=Zbj hi7
 obtain ⟨_,_,rfl,hi9⟩:=Zaf hi8
 obtain ⟨x5,rfl,hi10⟩:=Zav hi9
 obtain ⟨rfl,hi11⟩:=Zbi hi10
 have hi:=hi11
 exact ⟨a0,i3,o3,i4,o4,x5,rfl,hi⟩
def K0 (Q:QT):KT:=andThen (fun env' h'=>(match kp.find 4000005 with | some ks=>Den pg fn.ntmps (C [1,1]) (env'.keep ks) h' (KR Q) | none=>den pg fn.ntmps kp (C [1,1]) env' h' (KR Q))) (KR Q)
def K1 (Q:QT):KT:=Zcl 0 (K0 Q)
def K2 (Q:QT):KT:=left kp 2 (K1 Q)
def K3 (Q:QT) (R2:T2):KT:=rnd ((kp.find 1000002).getD []) (E2 R2) (K2 Q)
def L2 (Q:QT) (a0:Pt) (i3 o3 i4 o4:Nat) (x5:Int) (h:Zaa):Prop:=Zdz (Den pg fn.ntmps (C [1,0,1,0,0])) ((kp.find 1000002).getD []) (K2 Q) [(0,.ptr a0),(3,.ptr (i3,o3)),(4,.ptr (i4,o4)),(5,.int .i64 x5)] h
def J4 (Q:QT) (R2:T2) (a0:Pt) (x5:Int) (i3 o3 i4 o4:Nat) (h:Zaa):Prop:=Den pg fn.ntmps (C [1,0,1,0,0,1]) [(0,.ptr a0),(5,.int .i64 x5),(3,.ptr (i3,o3)),(4,.ptr (i4,o4))] h (K3 Q R2)
def A2x0 (Q:QT) (i3 o3 i4 o4:Nat) (h:Zaa):Prop:=At (K1 Q) (.exit 0) [(3,.ptr (i3,o3)),(4,.ptr (i4,o4))] h
def L2t (Q:QT) (R2:T2) (a0:Pt) (i3 o3 i4 o4:Nat) (x5:Int) (h:Zaa):Prop:=
 bcase (decide ((x5:Int) ≥ 0)) (Zba a0 fun A B=>(0≤(x5:Int)∧(x5:Int) < (12:Nat))∧(Zci .u8 (Zad h (.ptr (A,B + (Int.toNat x5) * 2 + 0))) fun A=>bcase (!((A:Int) == 0)) (J4 Q R2 a0 x5 i3 o3 i4 o4 h) (A2x0 Q i3 o3 i4 o4 h))) (A2x0 Q i3 o3 i4 o4 h)
theorem Zoh (Q:QT) (R2:T2) (a0:Pt) (i3 o3 i4 o4:Nat) (x5:Int) (h:Zaa) (ht:L2t Q R2 a0 i3 o3 i4 o4 x5 h):Den pg fn.ntmps (C [1,0,1,0,0]) [(0,.ptr a0),(3,.ptr (i3,o3)),(4,.ptr (i4,o4)),(5,.int .i64 x5)] h (K3 Q R2):=
 Zbb (kp:=kp) (cast (by kernel_rfl) ht)
theorem L2ind (Q:QT) (a0:Pt) (i3 o3 i4 o4:Nat) {G:Type} (J:G→Int→Zaa→Prop) (m:G→Nat)
 (hr:∀ (g:G) (x5:Int) (h:Zaa),J g x5 h→∀ (R2:T2),(∀ g' (x5:Int) (h:Zaa),m g' < m g→J g' x5 h→R2 a0 i3 o3 i4 o4 x5 h)→L2t Q R2 a0 i3 o3 i4 o4 x5 h)
 (g:G) (x5:Int) (h:Zaa) (hj:J g x5 h):L2 Q a0 i3 o3 i4 o4 x5 h:=by
 let P:=fun (K:Int→Zaa→Prop) a0' i3' o3' i4' o4' x5 h=>a0=a0'∧i3=i3'∧o3=o3'∧i4=i4'∧o4=o4'∧K x5 h
 refine Zdz.inv2 (fun g=>E2 (P (J g))) (fun g=>E2 (P fun x5 h=>∃ g',m g' < m g∧J g' x5 h)) m ?_ ?_ g ⟨rfl,rfl,rfl,rfl,rfl,hj⟩
 ·intro g env h hi
  obtain ⟨a0',i3',o3',i4',o4',x5,rfl,rfl,rfl,rfl,rfl,rfl,hj⟩:=Zfm hi
  exact Zoh Q _ a0 i3 o3 i4 o4 x5 h (hr g x5 h hj (P fun x5 h=>∃ g',m g' < m g∧J g' x5 h) fun g' x5 h hlt hj=>⟨rfl,rfl,rfl,rfl,rfl,g',hlt,hj⟩)
 ·intro g env h hi
  obtain ⟨a0',i3',o3',i4',o4',x5,rfl,rfl,rfl,rfl,rfl,rfl,g',hlt,hj⟩:=Zfm hi
  exact ⟨g',hlt,rfl,rfl,rfl,rfl,rfl,hj⟩
theorem J4i (Q:QT) (R2:T2) (a0:Pt) (x5:Int) (i3 o3 i4 o4:Nat) (h:Zaa) (ht :
 Zba a0 fun A B=>(0≤(x5:Int)∧(x5:Int) < (12:Nat))∧(Zcs (Zbf h (.ptr (A,B + (Int.toNat x5) * 2)) 2) fun A=>Zaj A fun A B=>Zci .u8 A fun A=>Zaj B fun B C=>xSl B fun B D E F=>Zcf C (Zch (Zbe h (.ptr (i3,o3)) [.int .u8 A,.slice B D E F]) fun A=>Zci .u8 (Zad A (.ptr (i3,o3 + 0))) fun B=>Zae pg Zeo [.int .u8 B] A fun A B=>
 Zci .i64 A fun A=>R2 a0 i3 o3 i4 o4 A B))):J4 Q R2 a0 x5 i3 o3 i4 o4 h:=
 Zbb (kp:=kp) (cast (by kernel_rfl) ht)
theorem A2x0i (Q:QT) (i3 o3 i4 o4:Nat) (h:Zaa) (ht :
 Zcs (Zbf h (.ptr (i3,o3)) 2) fun A=>Zaj A fun A B=>Zci .u8 A fun A=>Zaj B fun B C=>xSl B fun B D E F=>Zcf C (Zch (Zbe h (.ptr (i4,o4)) [.int .u8 A,.slice B D E F]) fun A=>Zcs (Zbf A (.ptr (i4,o4)) 2) fun B=>Zaj B fun B C=>Zci .u8 B fun B=>Zaj C fun C D=>xSl C fun C E F G=>Zcf D (Q (.agg [.int .u8 B,.slice C E F G]) A))):A2x0 Q i3 o3 i4 o4 h:=
 At.mk (cast (by kernel_rfl) ht)
theorem call (a0:Pt) (x1x0:Int) (a1x1:Pt) (n1x1 c1x1:Nat) (e1x1:Bool) (h:Zaa) (Q:QT) (ht :
 Zcy (h ++ [.cells Zab [.int .u8 x1x0,.slice a1x1 n1x1 c1x1 e1x1] false]) fun A=>Zcy (A ++ [.cells Zab [.int .u8 0,.slice none 0 0 true] false]) fun B=>Zci .u8 (Zad B (.ptr (h.length,0 + 0))) fun C=>Zae pg Zeo [.int .u8 C] B fun B C=>
 Zci .i64 B fun B=>L2 Q a0 h.length 0 A.length 0 B C):Zae pg Zgs [.ptr a0,.agg [.int .u8 x1x0,.slice a1x1 n1x1 c1x1 e1x1]] h Q:=
 Zae.of_body kp (c:=cod fn) (fn:=fn) Go.Proofs.Tryz.func125 (by kernel_rfl) (by kernel_rfl) (Nat.le_of_ble_eq_true (by kernel_rfl))
  (cast (by kernel_rfl) ht)
end Zfu
end Go.Sim

set_option maxRecDepth 100000
set_option maxHeartbeats 0
set_option linter.unusedVariables false
namespace Go.Sim
open Go Go.RowKit
namespace Zes
noncomputable abbrev fn:Func:=Go.Proofs.Tryz.f81
def kp:Zce:=[(3000003,[1,3]),(1000003,[1,3,7,8,9]),(4000009,[3])]
noncomputable def C (p:List Nat):Code:=(cod fn).sub p
def KR (Q:QT):KT:=Zev pg fn.results.toList Q
abbrev T3:=Nat→Nat→Int→Pt→Nat→Nat→Bool→Int→Int→Zaa→Prop
def E3 (R3:T3) (env:Env) (h:Zaa):Prop:=Zby 1 env fun v env=>Zfd v fun a=>Zba a fun i1 o1=>Zby 3 env fun v env=>Zea .i64 v fun x3=>Zby 7 env fun v env=>xSl v fun a7 n7 c7 e7=>Zby 8 env fun v env=>Zea .i64 v fun x8=>Zby 9 env fun v env=>Zea .i64 v fun x9=>Zjh env (R3 i1 o1 x3 a7 n7 c7 e7 x8 x9 h)
theorem Zdv {R3:T3} {env:Env} {h:Zaa} (hi:E3 R3 env h):∃ i1,∃ o1,∃ x3,∃ a7,∃ n7,∃ c7,∃ e7,∃ x8,∃ x9,env=[(1,.ptr (i1,o1)),(3,.int .i64 x3),(7,.slice a7 n7 c7 e7),(8,.int .i64 x8),(9,.int .i64 x9)]∧R3 i1 o1 x3 a7 n7 c7 e7 x8 x9 h:=by
 unfold E3 at hi
 have hi0:=hi
 clear hi
 obtain ⟨_,_,rfl,hi1⟩:=Zaf hi0
 obtain ⟨a,rfl,hi2⟩:=Zbk hi1
 obtain ⟨i1,o1,rfl,hi3⟩:=Zbj hi2
 obtain ⟨_,_,rfl,hi4⟩:=Zaf hi3
 obtain ⟨x3,rfl,hi5⟩:=Zav hi4
 obtain ⟨_,_,rfl,hi6⟩:=Zaf hi5
 obtain ⟨a7,n7,c7,e7,rfl,hi7⟩:=Zbz hi6
 obtain ⟨_,_,rfl,hi8⟩:=Zaf hi7
 obtain ⟨x8,rfl,hi9⟩:=Zav hi8
 obtain ⟨_,_,rfl,hi10⟩:=Zaf hi9
 obtain ⟨x9,rfl,hi11⟩:=Zav hi10
 obtain ⟨rfl,hi12⟩:=Zbi hi11
 have hi:=hi12
 exact ⟨i1,o1,x3,a7,n7,c7,e7,x8,x9,rfl,hi⟩
def K0 (Q:QT):KT:=andThen (fun env' h'=>(match kp.find 4000007 with | some ks=>Den pg fn.ntmps (C [1,1,1]) (env'.keep ks) h' (KR Q) | none=>den pg fn.ntmps kp (C [1,1,1]) env' h' (KR Q))) (KR Q)
def K1 (Q:QT):KT:=Zcl 0 (K0 Q)
def K2 (Q:QT):KT:=left kp 3 (K1 Q)
def K3 (Q:QT) (R3:T3):KT:=rnd ((kp.find 1000003).getD []) (E3 R3) (K2 Q)
def L3 (Q:QT) (i1 o1:Nat) (x3:Int) (a7:Pt) (n7 c7:Nat) (e7:Bool) (x8 x9:Int) (h:Zaa):Prop:=Zdz (Den pg fn.ntmps (C [1,1,0,1,0,0])) ((kp.find 1000003).getD []) (K2 Q) [(1,.ptr (i1,o1)),(3,.int .i64 x3),(7,.slice a7 n7 c7 e7),(8,.int .i64 x8),(9,.int .i64 x9)] h
def Znv (Q:QT) (i1 o1:Nat) (x3:Int) (h:Zaa):Prop:=At (K1 Q) (.exit 0) [(1,.ptr (i1,o1)),(3,.int .i64 x3)] h
def J9 (Q:QT) (x3:Int) (h:Zaa):Prop:=Den pg fn.ntmps (C [1,1,1,1]) [(3,.int .i64 x3)] h (KR Q)
def L3t (Q:QT) (R3:T3) (i1 o1:Nat) (x3:Int) (a7:Pt) (n7 c7:Nat) (e7:Bool) (x8 x9:Int) (h:Zaa):Prop:=
 bcase (decide ((x9:Int) < x8)) ((0≤(x9:Int)∧(x9:Int) < (n7:Nat))∧(Zba a7 fun A B=>Zcs (Zbf h (.ptr (A,B + (Int.toNat x9) * 2)) 2) fun A=>Zaj A fun A B=>Zci .u8 A fun A=>Zaj B fun B C=>xSl B fun B D E F=>Zcf C (Zcy (h ++ [.cells Zab [.int .u8 0,.slice none 0 0 true] false]) fun C=>Zch (Zbe C (.ptr (h.length,0)) [.int .u8 A,.slice B D E F]) fun A=>Zcs (Zbf A (.ptr (h.length,0)) 2) fun B=>Zaj B fun B C=>Zci .u8 B fun B=>Zaj C fun C D=>xSl C fun C E F G=>Zcf D (Zae pg Zhw [.agg [.int .u8 B,.slice C E F G]] A fun A B=>
 Zci .i64 A fun A=>R3 i1 o1 (IntKind.wrap .i64 ((IntKind.wrap .i64 (x3 + 1)) + A)) a7 n7 c7 e7 x8 (IntKind.wrap .i64 (x9 + 1)) B)))) (Znv Q i1 o1 x3 h)
theorem Zjr (Q:QT) (R3:T3) (i1 o1:Nat) (x3:Int) (a7:Pt) (n7 c7:Nat) (e7:Bool) (x8 x9:Int) (h:Zaa) (ht:L3t Q R3 i1 o1 x3 a7 n7 c7 e7 x8 x9 h):Den pg fn.ntmps (C [1,1,0,1,0,0]) [(1,.ptr (i1,o1)),(3,.int .i64 x3),(7,.slice a7 n7 c7 e7),(8,.int .i64 x8),(9,.int .i64 x9)] h (K3 Q R3):=
 Zbb (kp:=kp) (cast (by kernel_rfl) ht)
theorem L3ind (Q:QT) (i1 o1:Nat) (a7:Pt) (n7 c7:Nat) (e7:Bool) (x8:Int) {G:Type} (J:G→Int→Int→Zaa→Prop) (m:G→Nat)
 (hr:∀ (g:G) (x3 x9:Int) (h:Zaa),J g x3 x9 h→∀ (R3:T3),(∀ g' (x3 x9:Int) (h:Zaa),m g' < m g→J g' x3 x9 h→R3 i1 o1 x3 a7 n7 c7 e7 x8 x9 h)→L3t Q R3 i1 o1 x3 a7 n7 c7 e7 x8 x9 h)
 (g:G) (x3 x9:Int) (h:Zaa) (hj:J g x3 x9 h):L3 Q i1 o1 x3 a7 n7 c7 e7 x8 x9 h:=by
 let P:=fun (K:Int→Int→Zaa→Prop) i1' o1' x3 a7' n7' c7' e7' x8' x9 h=>i1=i1'∧o1=o1'∧a7=a7'∧n7=n7'∧c7=c7'∧e7=e7'∧x8=x8'∧K x3 x9 h
 refine Zdz.inv2 (fun g=>E3 (P (J g))) (fun g=>E3 (P fun x3 x9 h=>∃ g',m g' < m g∧J g' x3 x9 h)) m ?_ ?_ g ⟨rfl,rfl,rfl,rfl,rfl,rfl,rfl,hj⟩
 ·intro g env h hi
  obtain ⟨i1',o1',x3,a7',n7',c7',e7',x8',x9,rfl,rfl,rfl,rfl,rfl,rfl,rfl,rfl,hj⟩:=Zdv hi
  exact Zjr Q _ i1 o1 x3 a7 n7 c7 e7 x8 x9 h (hr g x3 x9 h hj (P fun x3 x9 h=>∃ g',m g' < m g∧J g' x3 x9 h) fun g' x3 x9 h hlt hj=>⟨rfl,rfl,rfl,rfl,rfl,rfl,rfl,g',hlt,hj⟩)
 ·intro g env h hi
  obtain ⟨i1',o1',x3,a7',n7',c7',e7',x8',x9,rfl,rfl,rfl,rfl,rfl,rfl,rfl,rfl,g',hlt,hj⟩:=Zdv hi
  exact ⟨g',hlt,rfl,rfl,rfl,rfl,rfl,rfl,rfl,hj⟩
theorem A3x0i (Q:QT) (i1 o1:Nat) (x3:Int) (h:Zaa) (ht :
 xSl (Zad h (.ptr (i1,o1 + 1))) fun A A B B=>bcase (decide (((((A:Nat):Int)):Int) > 0)) (J9 Q (IntKind.wrap .i64 (x3 + 1)) h) (J9 Q x3 h)):Znv Q i1 o1 x3 h:=
 At.mk (cast (by kernel_rfl) ht)
theorem J9i (Q:QT) (x3:Int) (h:Zaa) (ht :
 Q (.int .i64 x3) h):J9 Q x3 h:=
 Zbb (kp:=kp) (cast (by kernel_rfl) ht)
theorem call (x0x0:Int) (a0x1:Pt) (n0x1 c0x1:Nat) (e0x1:Bool) (h:Zaa) (Q:QT) (ht :
 Zcy (h ++ [.cells Zab [.int .u8 x0x0,.slice a0x1 n0x1 c0x1 e0x1] false]) fun A=>xSl (Zad A (.ptr (h.length,0 + 1))) fun B C D E=>L3 Q h.length 0 1 B C D E (((C:Nat):Int)) 0 A):Zae pg Zhw [.agg [.int .u8 x0x0,.slice a0x1 n0x1 c0x1 e0x1]] h Q:=
 Zae.of_body kp (c:=cod fn) (fn:=fn) Go.Proofs.Tryz.func81 (by kernel_rfl) (by kernel_rfl) (Nat.le_of_ble_eq_true (by kernel_rfl))
  (cast (by kernel_rfl) ht)
end Zes
namespace Zem
noncomputable abbrev fn:Func:=Go.Proofs.Tryz.f43
def kp:Zce:=[(3000003,[4,2,3]),(1000003,[4,8,10]),(2000004,[6,5,10,8,4]),(4000006,[6,4,5,10,8]),(2000008,[10,8,4]),(4000009,[10,8,4])]
noncomputable def C (p:List Nat):Code:=(cod fn).sub p
def KR (Q:QT):KT:=Zev pg fn.results.toList Q
abbrev T3:=Pt→Nat→Nat→Bool→Pt→Int→Zaa→Prop
def E3 (R3:T3) (env:Env) (h:Zaa):Prop:=Zby 4 env fun v env=>xSl v fun a4 n4 c4 e4=>Zby 8 env fun v env=>Zfd v fun a8=>Zby 10 env fun v env=>Zea .i64 v fun x10=>Zjh env (R3 a4 n4 c4 e4 a8 x10 h)
theorem Zdv {R3:T3} {env:Env} {h:Zaa} (hi:E3 R3 env h):∃ a4,∃ n4,∃ c4,∃ e4,∃ a8,∃ x10,env=[(4,.slice a4 n4 c4 e4),(8,.ptr a8),(10,.int .i64 x10)]∧R3 a4 n4 c4 e4 a8 x10 h:=by
 unfold E3 at hi
 repeat ((first | (have k:=Zaf hi; clear hi; obtain ⟨_,_,e,hi⟩:=k) | (have k:=Zbk hi; clear hi; obtain ⟨_,e,hi⟩:=k) | (have k:=Zav hi; clear hi; obtain ⟨_,e,hi⟩:=k) | (have k:=Zbz hi; clear hi; obtain ⟨_,_,_,_,e,hi⟩:=k)); subst e)
 obtain ⟨rfl,hi⟩:=Zbi hi
 exact ⟨_,_,_,_,_,_,rfl,hi⟩
def K0 (Q:QT):KT:=andThen (fun env' h'=>(match kp.find 4000010 with | some ks=>Den pg fn.ntmps (C [1,1,1]) (env'.keep ks) h' (KR Q) | none=>den pg fn.ntmps kp (C [1,1,1]) env' h' (KR Q))) (KR Q)
def K1 (Q:QT):KT:=Zcl 0 (K0 Q)
def K2 (Q:QT):KT:=left kp 3 (K1 Q)
def K3 (Q:QT) (R3:T3):KT:=rnd ((kp.find 1000003).getD []) (E3 R3) (K2 Q)
def K4 (Q:QT) (R3:T3):KT:=andThen (fun env' h'=>(match kp.find 4000009 with | some ks=>Den pg fn.ntmps (C [1,1,0,1,0,0,1,1,1]) (env'.keep ks) h' (K3 Q R3) | none=>den pg fn.ntmps kp (C [1,1,0,1,0,0,1,1,1]) env' h' (K3 Q R3))) (K3 Q R3)
def K5 (Q:QT) (R3:T3):KT:=Zcl 1 (K4 Q R3)
def L3 (Q:QT) (a4:Pt) (n4 c4:Nat) (e4:Bool) (a8:Pt) (x10:Int) (h:Zaa):Prop:=Zdz (Den pg fn.ntmps (C [1,1,0,1,0,0])) ((kp.find 1000003).getD []) (K2 Q) [(4,.slice a4 n4 c4 e4),(8,.ptr a8),(10,.int .i64 x10)] h
def J9 (Q:QT) (R3:T3) (x10:Int) (a8 a4:Pt) (n4 c4:Nat) (e4:Bool) (h:Zaa):Prop:=Den pg fn.ntmps (C [1,1,0,1,0,0,1,1,1]) [(10,.int .i64 x10),(8,.ptr a8),(4,.slice a4 n4 c4 e4)] h (K3 Q R3)
def J6 (Q:QT) (R3:T3) (i6 o6:Nat) (a4:Pt) (n4 c4:Nat) (e4:Bool) (x5 x10:Int) (a8:Pt) (h:Zaa):Prop:=Den pg fn.ntmps (C [1,1,0,1,0,0,1,1,0,0,1,1]) [(6,.ptr (i6,o6)),(4,.slice a4 n4 c4 e4),(5,.int .i64 x5),(10,.int .i64 x10),(8,.ptr a8)] h (K5 Q R3)
def Znv (Q:QT) (a4:Pt) (n4 c4:Nat) (e4:Bool) (h:Zaa):Prop:=At (K1 Q) (.exit 0) [(4,.slice a4 n4 c4 e4),(2,.undef),(3,.undef)] h
def L3t (Q:QT) (R3:T3) (a4:Pt) (n4 c4:Nat) (e4:Bool) (a8:Pt) (x10:Int) (h:Zaa):Prop:=
 bcase (decide ((x10:Int) < 12)) (Zba a8 fun A B=>(0≤(x10:Int)∧(x10:Int) < (12:Nat))∧(Zcs (Zbf h (.ptr (A,B + (Int.toNat x10) * 2)) 2) fun C=>Zaj C fun C D=>Zci .u8 C fun C=>Zaj D fun D E=>xSl D fun D F G H=>Zcf E (Zcy (h ++ [.cells Zab [.int .u8 0,.slice none 0 0 true] false]) fun E=>(Zbf E (.ptr (A,B + (Int.toNat x10) * 2)) 2=Zbf h (.ptr (A,B + (Int.toNat x10) * 2)) 2)∧Zch (Zbe E (.ptr (h.length,0)) [.int .u8 C,.slice D F G H]) fun A=>Zci .u8 (Zad A (.ptr (h.length,0 + 0))) fun B=>bcase ((B:Int) == 0) (J9 Q R3 x10 a8 a4 n4 c4 e4 A) (bcase (decide ((x10:Int) ≥ 6)) (J9 Q R3 x10 a8 a4 n4 c4 e4 A) (J6 Q R3 h.length 0 a4 n4 c4 e4 x10 x10 a8 A))))) (Znv Q a4 n4 c4 e4 h)
theorem Zjr (Q:QT) (R3:T3) (a4:Pt) (n4 c4:Nat) (e4:Bool) (a8:Pt) (x10:Int) (h:Zaa) (ht:L3t Q R3 a4 n4 c4 e4 a8 x10 h):Den pg fn.ntmps (C [1,1,0,1,0,0]) [(4,.slice a4 n4 c4 e4),(8,.ptr a8),(10,.int .i64 x10)] h (K3 Q R3):=
 Zbb (kp:=kp) (cast (by kernel_rfl) ht)
theorem L3ind (Q:QT) (a8:Pt) {G:Type} (J:G→Pt→Nat→Nat→Bool→Int→Zaa→Prop) (m:G→Nat)
 (hr:∀ (g:G) (a4:Pt) (n4 c4:Nat) (e4:Bool) (x10:Int) (h:Zaa),J g a4 n4 c4 e4 x10 h→∀ (R3:T3),(∀ g' (a4:Pt) (n4 c4:Nat) (e4:Bool) (x10:Int) (h:Zaa),m g' < m g→J g' a4 n4 c4 e4 x10 h→R3 a4 n4 c4 e4 a8 x10 h)→L3t Q R3 a4 n4 c4 e4 a8 x10 h)
 (g:G) (a4:Pt) (n4 c4:Nat) (e4:Bool) (x10:Int) (h:Zaa) (hj:J g a4 n4 c4 e4 x10 h):L3 Q a4 n4 c4 e4 a8 x10 h:=by
 let P:=fun (K:Pt→Nat→Nat→Bool→Int→Zaa→Prop) a4 n4 c4 e4 a8' x10 h=>a8=a8'∧K a4 n4 c4 e4 x10 h
 refine Zdz.inv2 (fun g=>E3 (P (J g))) (fun g=>E3 (P fun a4 n4 c4 e4 x10 h=>∃ g',m g' < m g∧J g' a4 n4 c4 e4 x10 h)) m ?_ ?_ g ⟨rfl,hj⟩
 ·intro g env h hi
  obtain ⟨a4,n4,c4,e4,a8',x10,rfl,rfl,hj⟩:=Zdv hi
  exact Zjr Q _ a4 n4 c4 e4 a8 x10 h (hr g a4 n4 c4 e4 x10 h hj (P fun a4 n4 c4 e4 x10 h=>∃ g',m g' < m g∧J g' a4 n4 c4 e4 x10 h) fun g' a4 n4 c4 e4 x10 h hlt hj=>⟨rfl,g',hlt,hj⟩)
 ·intro g env h hi
  obtain ⟨a4,n4,c4,e4,a8',x10,rfl,rfl,g',hlt,hj⟩:=Zdv hi
  exact ⟨g',hlt,rfl,hj⟩
theorem J9i (Q:QT) (R3:T3) (x10:Int) (a8 a4:Pt) (n4 c4:Nat) (e4:Bool) (h:Zaa) (ht :
 R3 a4 n4 c4 e4 a8 (IntKind.wrap .i64 (x10 + 1)) h):J9 Q R3 x10 a8 a4 n4 c4 e4 h:=
 Zbb (kp:=kp) (cast (by kernel_rfl) ht)
theorem J6i (Q:QT) (R3:T3) (i6 o6:Nat) (a4:Pt) (n4 c4:Nat) (e4:Bool) (x5 x10:Int) (a8:Pt) (h:Zaa) (ht :
 Zcs (Zbf h (.ptr (i6,o6)) 2) fun A=>Zaj A fun A B=>Zci .u8 A fun A=>Zaj B fun B C=>xSl B fun B D E F=>Zcf C (Zae pg Zhw [.agg [.int .u8 A,.slice B D E F]] h fun A B=>
 Zci .i64 A fun A=>bcase (decide ((A:Int) > 60)) (Zcy (B ++ [.cells Zbo [] false]) fun A=>Q (.tup [.slice (B.length,0) 0 0 true,.bool false]) A) ((0≤(x5:Int)∧(x5:Int)≤IntKind.wrap .i64 (x5 + 1)∧(IntKind.wrap .i64 (x5 + 1):Int)≤(List.length ([88,89,90,120,121,122,49,50,51,52,53,54]):Nat))∧(Zcs (Zbf B (.ptr (i6,o6)) 2) fun A=>Zaj A fun A C=>Zci .u8 A fun A=>Zaj C fun C D=>xSl C fun C E F G=>Zcf D (Zae pg Zgr [.agg [.int .u8 A,.slice C E F G]] B fun A B=>
 Zbs A fun A=>Zcy (B ++ [.cells Zbo [.str (sub ([88,89,90,120,121,122,49,50,51,52,53,54]) x5 (IntKind.wrap .i64 (x5 + 1))),.str A] false]) fun A=>Zdp pg Zju A (.slice a4 n4 c4 e4) (.slice (B.length,0) 1 1 true) fun A B=>xSl A fun A C D E=>J9 Q R3 x10 a8 A C D E B))))):J6 Q R3 i6 o6 a4 n4 c4 e4 x5 x10 a8 h:=
 Zbb (kp:=kp) (cast (by kernel_rfl) ht)
theorem A3x0i (Q:QT) (a4:Pt) (n4 c4:Nat) (e4:Bool) (h:Zaa) (ht :
 Q (.tup [.slice a4 n4 c4 e4,.bool true]) h):Znv Q a4 n4 c4 e4 h:=
 At.mk (cast (by kernel_rfl) ht)
theorem call (a0:Pt) (h:Zaa) (Q:QT) (ht :
 Zcy (h ++ [.cells Zbo [] false]) fun A=>Zba a0 fun B B=>L3 Q (h.length,0) 0 0 true a0 0 A):Zae pg Znh [.ptr a0] h Q:=
 Zae.of_body kp (c:=cod fn) (fn:=fn) Go.Proofs.Tryz.func43 (by kernel_rfl) (by kernel_rfl) (Nat.le_of_ble_eq_true (by kernel_rfl))
  (cast (by kernel_rfl) ht)
end Zem
namespace Zjn
noncomputable abbrev fn:Func:=Go.Proofs.Tryz.f134
def kp:Zce:=[(4000006,[10])]
noncomputable def C (p:List Nat):Code:=(cod fn).sub p
def KR (Q:QT):KT:=Zev pg fn.results.toList Q
def J6 (Q:QT) (i10 o10:Nat) (h:Zaa):Prop:=Den pg fn.ntmps (C [1,1,1,1,1]) [(10,.ptr (i10,o10))] h (KR Q)
theorem J6i (Q:QT) (i10 o10:Nat) (h:Zaa) (ht :
 Zae pg Znh [.ptr (i10,o10)] h fun A B=>
 Zvv A fun A=>Zaj A fun A C=>xSl A fun A D E F=>Zaj C fun C G=>Zbp C fun C=>Zcf G (Q (.tup [.slice A D E F,.bool C]) B)):J6 Q i10 o10 h:=
 Zbb (kp:=kp) (cast (by kernel_rfl) ht)
theorem call (x0 x1:List Nat) (h:Zaa) (Q:QT) (ht :
 Zae pg Zfq [.str x0] h fun A B=>
 Zvv A fun A=>Zaj A fun A C=>Zrs A fun A=>Zaj A fun A D=>Zci .u8 A fun A=>Zaj D fun D E=>xSl D fun D F G H=>Zcf E (Zaj C fun C E=>Zbp C fun C=>Zcf E (Zcy (B ++ [.cells Zab [.int .u8 0,.slice none 0 0 true] false]) fun E=>Zch (Zbe E (.ptr (B.length,0)) [.int .u8 A,.slice D F G H]) fun A=>Zae pg Zfq [.str x1] A fun A D=>
 Zvv A fun A=>Zaj A fun A E=>Zrs A fun A=>Zaj A fun A F=>Zci .u8 A fun A=>Zaj F fun F G=>xSl F fun F H I J=>Zcf G (Zaj E fun E G=>Zbp E fun E=>Zcf G (Zcy (D ++ [.cells Zab [.int .u8 0,.slice none 0 0 true] false]) fun G=>Zch (Zbe G (.ptr (D.length,0)) [.int .u8 A,.slice F H I J]) fun A=>Zcy (A ++ [.cells Zct [.int .u8 0,.slice none 0 0 true,.int .u8 0,.slice none 0 0 true,.int .u8 0,.slice none 0 0 true,.int .u8 0,.slice none 0 0 true,.int .u8 0,.slice none 0 0 true,.int .u8 0,.slice none 0 0 true,.int .u8 0,.slice none 0 0 true,.int .u8 0,.slice none 0 0 true,.int .u8 0,.slice none 0 0 true,.int .u8 0,.slice none 0 0 true,.int .u8 0,.slice none 0 0 true,.int .u8 0,.slice none 0 0 true] false]) fun F=>bcase (!C) (Zcy (F ++ [.cells Zbo [] false]) fun C=>Q (.tup [.slice (F.length,0) 0 0 true,.bool false]) C) (bcase (!E) (Zcy (F ++ [.cells Zbo [] false]) fun C=>Q (.tup [.slice (F.length,0) 0 0 true,.bool false]) C) (Zcs (Zbf F (.ptr (B.length,0)) 2) fun B=>Zaj B fun B C=>Zci .u8 B fun B=>Zaj C fun C E=>xSl C fun C G H I=>Zcf E (Zcs (Zbf F (.ptr (D.length,0)) 2) fun D=>Zaj D fun D E=>Zci .u8 D fun D=>Zaj E fun E J=>xSl E fun E K L M=>Zcf J (Zae pg Zje [.ptr (A.length,0),.agg [.int .u8 B,.slice C G H I],.agg [.int .u8 D,.slice E K L M]] F fun B C=>
 Zbp B fun B=>bcase (!B) (Zcy (C ++ [.cells Zbo [] false]) fun B=>Q (.tup [.slice (C.length,0) 0 0 true,.bool false]) B) (J6 Q A.length 0 C)))))))))):Zae pg Zjs [.str x0,.str x1] h Q:=
 Zae.of_body kp (c:=cod fn) (fn:=fn) Go.Proofs.Tryz.func134 (by kernel_rfl) (by kernel_rfl) (Nat.le_of_ble_eq_true (by kernel_rfl))
  (cast (by kernel_rfl) ht)
end Zjn
namespace Zmc
noncomputable abbrev fn:Func:=Go.Proofs.Tryz.f96
def kp:Zce:=[]
noncomputable def C (p:List Nat):Code:=(cod fn).sub p
def KR (Q:QT):KT:=Zev pg fn.results.toList Q
theorem call (x0 x1:List Nat) (h:Zaa) (Q:QT) (ht :
 Zae pg Zjs [.str x0,.str x1] h fun A B=>
 Zvv A fun A=>Zaj A fun A C=>xSl A fun A A A A=>Zaj C fun A C=>Zbp A fun A=>Zcf C (Q (.bool A) B)):Zae pg Zit [.str x0,.str x1] h Q:=
 Zae.of_body kp (c:=cod fn) (fn:=fn) Go.Proofs.Tryz.func96 (by kernel_rfl) (by kernel_rfl) (Nat.le_of_ble_eq_true (by kernel_rfl))
  (cast (by kernel_rfl) ht)
end Zmc
end Go.Sim

set_option maxRecDepth 100000
set_option maxHeartbeats 0
set_option linter.unusedVariables false
namespace Go.Sim
open Go Go.RowKit
namespace Zpf
noncomputable abbrev fn:Func:=Go.Proofs.Tryz.f84
def kp:Zce:=[]
noncomputable def C (p:List Nat):Code:=(cod fn).sub p
def KR (Q:QT):KT:=Zev pg fn.results.toList Q
theorem call (x0:Int) (h:Zaa) (Q:QT) (ht :
 Zae pg Zga [.str ([88,89,90,120,121,122,49,50,51,52,53,54]),.int .u8 x0] h fun A B=>
 Zci .i64 A fun A=>Q (.int .i64 A) B):Zae pg Zeo [.int .u8 x0] h Q:=
 Zae.of_body kp (c:=cod fn) (fn:=fn) Go.Proofs.Tryz.func84 (by kernel_rfl) (by kernel_rfl) (Nat.le_of_ble_eq_true (by kernel_rfl))
  (cast (by kernel_rfl) ht)
end Zpf
namespace Zhf
noncomputable abbrev fn:Func:=Go.Proofs.Tryz.f160
def kp:Zce:=[(2000004,[]),(2000006,[6]),(3000010,[6]),(1000010,[0,4,5,42,43]),(2000012,[58,43,42,0,4,5])]
noncomputable def C (p:List Nat):Code:=(cod fn).sub p
def KR (Q:QT):KT:=Zev pg fn.results.toList Q
abbrev T10:=Pt→Nat→Nat→Nat→Nat→Int→Int→Zaa→Prop
def E10 (R10:T10) (env:Env) (h:Zaa):Prop:=Zby 0 env fun v env=>Zfd v fun a0=>Zby 4 env fun v env=>Zfd v fun a=>Zba a fun i4 o4=>Zby 5 env fun v env=>Zfd v fun a=>Zba a fun i5 o5=>Zby 42 env fun v env=>Zea .i64 v fun x42=>Zby 43 env fun v env=>Zea .i64 v fun x43=>Zjh env (R10 a0 i4 o4 i5 o5 x42 x43 h)
theorem Yhl {R10:T10} {env:Env} {h:Zaa} (hi:E10 R10 env h):∃ a0,∃ i4,∃ o4,∃ i5,∃ o5,∃ x42,∃ x43,env=[(0,.ptr a0),(4,.ptr (i4,o4)),(5,.ptr (i5,o5)),(42,.int .i64 x42),(43,.int .i64 x43)]∧R10 a0 i4 o4 i5 o5 x42 x43 h:=by
 unfold E10 at hi
 have hi0:=hi
 clear hi
 obtain ⟨_,_,rfl,hi1⟩:=Zaf hi0
 obtain ⟨a0,rfl,hi2⟩:=Zbk hi1
 obtain ⟨_,_,rfl,hi3⟩:=Zaf hi2
 obtain ⟨a,rfl,hi4⟩:=Zbk hi3
 obtain ⟨i4,o4,rfl,hi5⟩:=Zbj hi4
 obtain ⟨_,_,rfl,hi6⟩:=Zaf hi5
 obtain ⟨a,rfl,hi7⟩:=Zbk hi6
 obtain ⟨i5,o5,rfl,hi8⟩:=Zbj hi7
 obtain ⟨_,_,rfl,hi9⟩:=Zaf hi8
 obtain ⟨x42,rfl,hi10⟩:=Zav hi9
 obtain ⟨_,_,rfl,hi11⟩:=Zaf hi10
 obtain ⟨x43,rfl,hi12⟩:=Zav hi11
 obtain ⟨rfl,hi13⟩:=Zbi hi12
 have hi:=hi13
 exact ⟨a0,i4,o4,i5,o5,x42,x43,rfl,hi⟩
def K0 (Q:QT):KT:=andThen (fun env' h'=>(match kp.find 4000015 with | some ks=>Den pg fn.ntmps (C [1,1,1,1]) (env'.keep ks) h' (KR Q) | none=>den pg fn.ntmps kp (C [1,1,1,1]) env' h' (KR Q))) (KR Q)
def K1 (Q:QT):KT:=Zcl 0 (K0 Q)
def K2 (Q:QT):KT:=left kp 10 (K1 Q)
def K3 (Q:QT) (R10:T10):KT:=rnd ((kp.find 1000010).getD []) (E10 R10) (K2 Q)
def L10 (Q:QT) (a0:Pt) (i4 o4 i5 o5:Nat) (x42 x43:Int) (h:Zaa):Prop:=Zdz (Den pg fn.ntmps (C [1,1,1,0,1,0,0])) ((kp.find 1000010).getD []) (K2 Q) [(0,.ptr a0),(4,.ptr (i4,o4)),(5,.ptr (i5,o5)),(42,.int .i64 x42),(43,.int .i64 x43)] h
def Ypy (Q:QT) (h:Zaa):Prop:=At (K1 Q) (.exit 0) [(6,.undef)] h
def L10t (Q:QT) (R10:T10) (a0:Pt) (i4 o4 i5 o5:Nat) (x42 x43:Int) (h:Zaa):Prop:=
 bcase (decide ((x43:Int) < x42)) (xSl (Zad h (.ptr (i4,o4 + 1))) fun A B C C=>(0≤(x43:Int)∧(x43:Int) < (B:Nat))∧(Zba A fun A B=>Zcs (Zbf h (.ptr (A,B + (Int.toNat x43) * 2)) 2) fun C=>Zaj C fun C D=>Zci .u8 C fun C=>Zaj D fun D E=>xSl D fun D F G H=>Zcf E (xSl (Zad h (.ptr (i5,o5 + 1))) fun E I J J=>(Zbf h (.ptr (A,B + (Int.toNat x43) * 2)) 2=Zbf h (.ptr (A,B + (Int.toNat x43) * 2)) 2)∧(Zad h (.ptr (i4,o4 + 1))=Zad h (.ptr (i4,o4 + 1)))∧(0≤(x43:Int)∧(x43:Int) < (I:Nat))∧(Zba E fun E I=>Zcs (Zbf h (.ptr (E,I + (Int.toNat x43) * 2)) 2) fun E=>Zaj E fun E I=>Zci .u8 E fun E=>Zaj I fun I J=>xSl I fun I K L M=>Zcf J ((Zbf h (.ptr (A,B + (Int.toNat x43) * 2)) 2=Zbf h (.ptr (A,B + (Int.toNat x43) * 2)) 2)∧(Zad h (.ptr (i4,o4 + 1))=Zad h (.ptr (i4,o4 + 1)))∧Zae pg Zje [.ptr a0,.agg [.int .u8 C,.slice D F G H],.agg [.int .u8 E,.slice I K L M]] h fun A B=>
 Zbp A fun A=>(Zad B (.ptr (i4,o4 + 1))=Zad h (.ptr (i4,o4 + 1)))∧bcase (!A) (Q (.bool false) B) (R10 a0 i4 o4 i5 o5 x42 (IntKind.wrap .i64 (x43 + 1)) B)))))) (Ypy Q h)
theorem Yqi (Q:QT) (R10:T10) (a0:Pt) (i4 o4 i5 o5:Nat) (x42 x43:Int) (h:Zaa) (ht:L10t Q R10 a0 i4 o4 i5 o5 x42 x43 h):Den pg fn.ntmps (C [1,1,1,0,1,0,0]) [(0,.ptr a0),(4,.ptr (i4,o4)),(5,.ptr (i5,o5)),(42,.int .i64 x42),(43,.int .i64 x43)] h (K3 Q R10):=
 Zbb (kp:=kp) (cast (by kernel_rfl) ht)
theorem L10ind (Q:QT) (a0:Pt) (i4 o4 i5 o5:Nat) (x42:Int) {G:Type} (J:G→Int→Zaa→Prop) (m:G→Nat)
 (hr:∀ (g:G) (x43:Int) (h:Zaa),J g x43 h→∀ (R10:T10),(∀ g' (x43:Int) (h:Zaa),m g' < m g→J g' x43 h→R10 a0 i4 o4 i5 o5 x42 x43 h)→L10t Q R10 a0 i4 o4 i5 o5 x42 x43 h)
 (g:G) (x43:Int) (h:Zaa) (hj:J g x43 h):L10 Q a0 i4 o4 i5 o5 x42 x43 h:=by
 let P:=fun (K:Int→Zaa→Prop) a0' i4' o4' i5' o5' x42' x43 h=>a0=a0'∧i4=i4'∧o4=o4'∧i5=i5'∧o5=o5'∧x42=x42'∧K x43 h
 refine Zdz.inv2 (fun g=>E10 (P (J g))) (fun g=>E10 (P fun x43 h=>∃ g',m g' < m g∧J g' x43 h)) m ?_ ?_ g ⟨rfl,rfl,rfl,rfl,rfl,rfl,hj⟩
 ·intro g env h hi
  obtain ⟨a0',i4',o4',i5',o5',x42',x43,rfl,rfl,rfl,rfl,rfl,rfl,rfl,hj⟩:=Yhl hi
  exact Yqi Q _ a0 i4 o4 i5 o5 x42 x43 h (hr g x43 h hj (P fun x43 h=>∃ g',m g' < m g∧J g' x43 h) fun g' x43 h hlt hj=>⟨rfl,rfl,rfl,rfl,rfl,rfl,g',hlt,hj⟩)
 ·intro g env h hi
  obtain ⟨a0',i4',o4',i5',o5',x42',x43,rfl,rfl,rfl,rfl,rfl,rfl,rfl,g',hlt,hj⟩:=Yhl hi
  exact ⟨g',hlt,rfl,rfl,rfl,rfl,rfl,rfl,hj⟩
theorem A10x0i (Q:QT) (h:Zaa) (ht :
 Q (.bool true) h):Ypy Q h:=
 At.mk (cast (by kernel_rfl) ht)
theorem call (a0:Pt) (x1x0:Int) (a1x1:Pt) (n1x1 c1x1:Nat) (e1x1:Bool) (x2x0:Int) (a2x1:Pt) (n2x1 c2x1:Nat) (e2x1:Bool) (h:Zaa) (Q:QT) (ht :
 Zcy (h ++ [.cells Zab [.int .u8 x1x0,.slice a1x1 n1x1 c1x1 e1x1] false]) fun A=>Zcy (A ++ [.cells Zab [.int .u8 x2x0,.slice a2x1 n2x1 c2x1 e2x1] false]) fun B=>Zci .u8 (Zad B (.ptr (h.length,0 + 0))) fun C=>Zae pg Zeo [.int .u8 C] B fun B C=>
 Zci .i64 B fun B=>bcase (decide ((B:Int) ≥ 0)) (Zba a0 fun D E=>(0≤(B:Int)∧(B:Int) < (12:Nat))∧(Zci .u8 (Zad C (.ptr (D,E + (Int.toNat B) * 2 + 0))) fun D=>bcase ((D:Int) == 0) (Zba a0 fun D E=>Zcs (Zbf C (.ptr (A.length,0)) 2) fun F=>Zaj F fun F G=>Zci .u8 F fun F=>Zaj G fun G H=>xSl G fun G I J K=>Zcf H ((0≤(B:Int)∧(B:Int) < (12:Nat))∧(Zch (Zbe C (.ptr (D,E + (Int.toNat B) * 2)) [.int .u8 F,.slice G I J K]) fun D=>Q (.bool true) D))) (Zba a0 fun D E=>(0≤(B:Int)∧(B:Int) < (12:Nat))∧(Zcs (Zbf C (.ptr (D,E + (Int.toNat B) * 2)) 2) fun F=>Zaj F fun F G=>Zci .u8 F fun F=>Zaj G fun G H=>xSl G fun G I J K=>Zcf H (Zcs (Zbf C (.ptr (A.length,0)) 2) fun H=>Zaj H fun H L=>Zci .u8 H fun H=>Zaj L fun L M=>xSl L fun L N O P=>Zcf M (Zae pg Zgr [.agg [.int .u8 F,.slice G I J K]] C fun F G=>
 Zbs F fun F=>(Zbf G (.ptr (A.length,0)) 2=Zbf C (.ptr (A.length,0)) 2)∧Zae pg Zgr [.agg [.int .u8 H,.slice L N O P]] G fun H I=>
 Zbs H fun H=>(Zbf I (.ptr (D,E + (Int.toNat B) * 2)) 2=Zbf G (.ptr (D,E + (Int.toNat B) * 2)) 2)∧Q (.bool (decide (F=H))) I)))))) (Zci .u8 (Zad C (.ptr (h.length,0 + 0))) fun B=>Zci .u8 (Zad C (.ptr (A.length,0 + 0))) fun D=>bcase (!((B:Int) == D)) (Q (.bool false) C) (xSl (Zad C (.ptr (h.length,0 + 1))) fun B B D D=>L10 Q a0 h.length 0 A.length 0 (((B:Nat):Int)) 0 C))):Zae pg Zje [.ptr a0,.agg [.int .u8 x1x0,.slice a1x1 n1x1 c1x1 e1x1],.agg [.int .u8 x2x0,.slice a2x1 n2x1 c2x1 e2x1]] h Q:=
 Zae.of_body kp (c:=cod fn) (fn:=fn) Go.Proofs.Tryz.func160 (by kernel_rfl) (by kernel_rfl) (Nat.le_of_ble_eq_true (by kernel_rfl))
  (cast (by kernel_rfl) ht)
end Zhf
end Go.Sim

set_option maxRecDepth 100000
set_option maxHeartbeats 0
set_option linter.unusedVariables false
namespace Go.Sim
open Go Go.RowKit
namespace Zgj
noncomputable abbrev fn:Func:=Go.Proofs.Tryz.f40
def kp:Zce:=[(3000003,[3]),(1000003,[0,3,9,10,11])]
noncomputable def C (p:List Nat):Code:=(cod fn).sub p
def KR (Q:QT):KT:=Zev pg fn.results.toList Q
abbrev T3:=Option Nat→Pt→Nat→Nat→Bool→Pt→Nat→Nat→Bool→Int→Int→Zaa→Prop
def E3 (R3:T3) (env:Env) (h:Zaa):Prop:=Zby 0 env fun v env=>Yei v fun m0=>Zby 3 env fun v env=>xSl v fun a3 n3 c3 e3=>Zby 9 env fun v env=>xSl v fun a9 n9 c9 e9=>Zby 10 env fun v env=>Zea .i64 v fun x10=>Zby 11 env fun v env=>Zea .i64 v fun x11=>Zjh env (R3 m0 a3 n3 c3 e3 a9 n9 c9 e9 x10 x11 h)
theorem Zdv {R3:T3} {env:Env} {h:Zaa} (hi:E3 R3 env h):∃ m0,∃ a3,∃ n3,∃ c3,∃ e3,∃ a9,∃ n9,∃ c9,∃ e9,∃ x10,∃ x11,env=[(0,.map m0),(3,.slice a3 n3 c3 e3),(9,.slice a9 n9 c9 e9),(10,.int .i64 x10),(11,.int .i64 x11)]∧R3 m0 a3 n3 c3 e3 a9 n9 c9 e9 x10 x11 h:=by
 unfold E3 at hi
 repeat ((first | (have k:=Zaf hi; clear hi; obtain ⟨_,_,e,hi⟩:=k) | (have k:=Zqu hi; clear hi; obtain ⟨_,e,hi⟩:=k) | (have k:=Zav hi; clear hi; obtain ⟨_,e,hi⟩:=k) | (have k:=Zbz hi; clear hi; obtain ⟨_,_,_,_,e,hi⟩:=k)); subst e)
 obtain ⟨rfl,hi⟩:=Zbi hi
 exact ⟨_,_,_,_,_,_,_,_,_,_,_,rfl,hi⟩
def K0 (Q:QT):KT:=andThen (fun env' h'=>(match kp.find 4000007 with | some ks=>Den pg fn.ntmps (C [1,1,1]) (env'.keep ks) h' (KR Q) | none=>den pg fn.ntmps kp (C [1,1,1]) env' h' (KR Q))) (KR Q)
def K1 (Q:QT):KT:=Zcl 0 (K0 Q)
def K2 (Q:QT):KT:=left kp 3 (K1 Q)
def K3 (Q:QT) (R3:T3):KT:=rnd ((kp.find 1000003).getD []) (E3 R3) (K2 Q)
def L3 (Q:QT) (m0:Option Nat) (a3:Pt) (n3 c3:Nat) (e3:Bool) (a9:Pt) (n9 c9:Nat) (e9:Bool) (x10 x11:Int) (h:Zaa):Prop:=Zdz (Den pg fn.ntmps (C [1,1,0,1,0,0])) ((kp.find 1000003).getD []) (K2 Q) [(0,.map m0),(3,.slice a3 n3 c3 e3),(9,.slice a9 n9 c9 e9),(10,.int .i64 x10),(11,.int .i64 x11)] h
def Znv (Q:QT) (a3:Pt) (n3 c3:Nat) (e3:Bool) (h:Zaa):Prop:=At (K1 Q) (.exit 0) [(3,.slice a3 n3 c3 e3)] h
def L3t (Q:QT) (R3:T3) (m0:Option Nat) (a3:Pt) (n3 c3:Nat) (e3:Bool) (a9:Pt) (n9 c9:Nat) (e9:Bool) (x10 x11:Int) (h:Zaa):Prop:=
 bcase (decide ((x11:Int) < x10)) ((0≤(x11:Int)∧(x11:Int) < (n9:Nat))∧(Zba a9 fun A B=>Zbs (Zad h (.ptr (A,B + (Int.toNat x11) * 1))) fun A=>Zdc h m0 fun es_13 k_14=>Zqg es_13 A fun B=>Zbs (some (Option.getD B (.str []))) fun B=>Zcy (h ++ [.cells Zbo [.str A,.str B] false]) fun A=>Zdp pg Zju A (.slice a3 n3 c3 e3) (.slice (h.length,0) 1 1 true) fun A B=>xSl A fun A C D E=>R3 m0 A C D E a9 n9 c9 e9 x10 (IntKind.wrap .i64 (x11 + 1)) B)) (Znv Q a3 n3 c3 e3 h)
theorem Zjr (Q:QT) (R3:T3) (m0:Option Nat) (a3:Pt) (n3 c3:Nat) (e3:Bool) (a9:Pt) (n9 c9:Nat) (e9:Bool) (x10 x11:Int) (h:Zaa) (ht:L3t Q R3 m0 a3 n3 c3 e3 a9 n9 c9 e9 x10 x11 h):Den pg fn.ntmps (C [1,1,0,1,0,0]) [(0,.map m0),(3,.slice a3 n3 c3 e3),(9,.slice a9 n9 c9 e9),(10,.int .i64 x10),(11,.int .i64 x11)] h (K3 Q R3):=
 Zbb (kp:=kp) (cast (by kernel_rfl) ht)
theorem L3ind (Q:QT) (m0:Option Nat) (a9:Pt) (n9 c9:Nat) (e9:Bool) (x10:Int) {G:Type} (J:G→Pt→Nat→Nat→Bool→Int→Zaa→Prop) (m:G→Nat)
 (hr:∀ (g:G) (a3:Pt) (n3 c3:Nat) (e3:Bool) (x11:Int) (h:Zaa),J g a3 n3 c3 e3 x11 h→∀ (R3:T3),(∀ g' (a3:Pt) (n3 c3:Nat) (e3:Bool) (x11:Int) (h:Zaa),m g' < m g→J g' a3 n3 c3 e3 x11 h→R3 m0 a3 n3 c3 e3 a9 n9 c9 e9 x10 x11 h)→L3t Q R3 m0 a3 n3 c3 e3 a9 n9 c9 e9 x10 x11 h)
 (g:G) (a3:Pt) (n3 c3:Nat) (e3:Bool) (x11:Int) (h:Zaa) (hj:J g a3 n3 c3 e3 x11 h):L3 Q m0 a3 n3 c3 e3 a9 n9 c9 e9 x10 x11 h:=by
 let P:=fun (K:Pt→Nat→Nat→Bool→Int→Zaa→Prop) m0' a3 n3 c3 e3 a9' n9' c9' e9' x10' x11 h=>m0=m0'∧a9=a9'∧n9=n9'∧c9=c9'∧e9=e9'∧x10=x10'∧K a3 n3 c3 e3 x11 h
 refine Zdz.inv2 (fun g=>E3 (P (J g))) (fun g=>E3 (P fun a3 n3 c3 e3 x11 h=>∃ g',m g' < m g∧J g' a3 n3 c3 e3 x11 h)) m ?_ ?_ g ⟨rfl,rfl,rfl,rfl,rfl,rfl,hj⟩
 ·intro g env h hi
  obtain ⟨m0',a3,n3,c3,e3,a9',n9',c9',e9',x10',x11,rfl,rfl,rfl,rfl,rfl,rfl,rfl,hj⟩:=Zdv hi
  exact Zjr Q _ m0 a3 n3 c3 e3 a9 n9 c9 e9 x10 x11 h (hr g a3 n3 c3 e3 x11 h hj (P fun a3 n3 c3 e3 x11 h=>∃ g',m g' < m g∧J g' a3 n3 c3 e3 x11 h) fun g' a3 n3 c3 e3 x11 h hlt hj=>⟨rfl,rfl,rfl,rfl,rfl,rfl,g',hlt,hj⟩)
 ·intro g env h hi
  obtain ⟨m0',a3,n3,c3,e3,a9',n9',c9',e9',x10',x11,rfl,rfl,rfl,rfl,rfl,rfl,rfl,g',hlt,hj⟩:=Zdv hi
  exact ⟨g',hlt,rfl,rfl,rfl,rfl,rfl,rfl,hj⟩
theorem A3x0i (Q:QT) (a3:Pt) (n3 c3:Nat) (e3:Bool) (h:Zaa) (ht :
 Q (.slice a3 n3 c3 e3) h):Znv Q a3 n3 c3 e3 h:=
 At.mk (cast (by kernel_rfl) ht)
theorem call (m0:Option Nat) (h:Zaa) (Q:QT) (ht :
 Zcy (h ++ [.cells Zbo [] false]) fun A=>Zae pg Zdt [.map m0] A fun A B=>
 Zyj A fun A=>Zae pg Zil [A] B fun A B=>
 xSl A fun A C D E=>L3 Q m0 (h.length,0) 0 0 true A C D E (((C:Nat):Int)) 0 B):Zae pg Zkt [.map m0] h Q:=
 Zae.of_body kp (c:=cod fn) (fn:=fn) Go.Proofs.Tryz.func40 (by kernel_rfl) (by kernel_rfl) (Nat.le_of_ble_eq_true (by kernel_rfl))
  (cast (by kernel_rfl) ht)
end Zgj
namespace Zjv
noncomputable abbrev fn:Func:=Go.Proofs.Tryz.f47
def kp:Zce:=[(4000004,[8])]
noncomputable def C (p:List Nat):Code:=(cod fn).sub p
def KR (Q:QT):KT:=Zev pg fn.results.toList Q
def J4 (Q:QT) (m8:Option Nat) (h:Zaa):Prop:=Den pg fn.ntmps (C [1,1,1]) [(8,.map m8)] h (KR Q)
theorem J4i (Q:QT) (m8:Option Nat) (h:Zaa) (ht :
 Zae pg Zkt [.map m8] h fun A B=>
 xSl A fun A C D E=>Q (.tup [.slice A C D E,.bool true]) B):J4 Q m8 h:=
 Zbb (kp:=kp) (cast (by kernel_rfl) ht)
theorem call (x0 x1:List Nat) (h:Zaa) (Q:QT) (ht :
 Zae pg Zhx [.str x0] h fun A B=>
 Zfd A fun A=>Zae pg Zhx [.str x1] B fun B C=>
 Zfd B fun B=>Zcy (C ++ [.map [] 0]) fun D=>bcase (Option.isNone A) (Q (.tup [.slice none 0 0 true,.bool false]) D) (bcase (Option.isNone B) (Q (.tup [.slice none 0 0 true,.bool false]) D) (Zae pg Zgt [.ptr A,.ptr B,.map ((some C.length))] D fun A B=>
 Zbp A fun A=>bcase (!A) (Q (.tup [.slice none 0 0 true,.bool false]) B) (J4 Q ((some C.length)) B)))):Zae pg Zjx [.str x0,.str x1] h Q:=
 Zae.of_body kp (c:=cod fn) (fn:=fn) Go.Proofs.Tryz.func47 (by kernel_rfl) (by kernel_rfl) (Nat.le_of_ble_eq_true (by kernel_rfl))
  (cast (by kernel_rfl) ht)
end Zjv
namespace Zmr
noncomputable abbrev fn:Func:=Go.Proofs.Tryz.f15
def kp:Zce:=[]
noncomputable def C (p:List Nat):Code:=(cod fn).sub p
def KR (Q:QT):KT:=Zev pg fn.results.toList Q
theorem call (x0 x1:List Nat) (h:Zaa) (Q:QT) (ht :
 Zae pg Zjx [.str x0,.str x1] h fun A B=>
 Zvv A fun A=>Zaj A fun A C=>xSl A fun A A A A=>Zaj C fun A C=>Zbp A fun A=>Zcf C (Q (.bool A) B)):Zae pg Ziv [.str x0,.str x1] h Q:=
 Zae.of_body kp (c:=cod fn) (fn:=fn) Go.Proofs.Tryz.func15 (by kernel_rfl) (by kernel_rfl) (Nat.le_of_ble_eq_true (by kernel_rfl))
  (cast (by kernel_rfl) ht)
end Zmr
end Go.Sim

set_option maxRecDepth 100000
set_option maxHeartbeats 0
set_option linter.unusedVariables false
namespace Go.Sim
open Go Go.RowKit
namespace Zdy
noncomputable abbrev fn:Func:=Go.Proofs.Tryz.f90
def kp:Zce:=[(4000006,[2,0,7]),(2000008,[48,0,1,2]),(3000011,[6]),(1000011,[1,2,52,53,54])]
noncomputable def C (p:List Nat):Code:=(cod fn).sub p
def KR (Q:QT):KT:=Zev pg fn.results.toList Q
abbrev T11:=Pt→Option Nat→Pt→Nat→Nat→Bool→Int→Int→Zaa→Prop
def E11 (R11:T11) (env:Env) (h:Zaa):Prop:=Zby 1 env fun v env=>Zfd v fun a1=>Zby 2 env fun v env=>Yei v fun m2=>Zby 52 env fun v env=>xSl v fun a52 n52 c52 e52=>Zby 53 env fun v env=>Zea .i64 v fun x53=>Zby 54 env fun v env=>Zea .i64 v fun x54=>Zjh env (R11 a1 m2 a52 n52 c52 e52 x53 x54 h)
theorem Yhs {R11:T11} {env:Env} {h:Zaa} (hi:E11 R11 env h):∃ a1,∃ m2,∃ a52,∃ n52,∃ c52,∃ e52,∃ x53,∃ x54,env=[(1,.ptr a1),(2,.map m2),(52,.slice a52 n52 c52 e52),(53,.int .i64 x53),(54,.int .i64 x54)]∧R11 a1 m2 a52 n52 c52 e52 x53 x54 h:=by
 unfold E11 at hi
 repeat ((first | (have k:=Zaf hi; clear hi; obtain ⟨_,_,e,hi⟩:=k) | (have k:=Zbk hi; clear hi; obtain ⟨_,e,hi⟩:=k) | (have k:=Zav hi; clear hi; obtain ⟨_,e,hi⟩:=k) | (have k:=Zqu hi; clear hi; obtain ⟨_,e,hi⟩:=k) | (have k:=Zbz hi; clear hi; obtain ⟨_,_,_,_,e,hi⟩:=k)); subst e)
 obtain ⟨rfl,hi⟩:=Zbi hi
 exact ⟨_,_,_,_,_,_,_,_,rfl,hi⟩
def K0 (Q:QT):KT:=andThen (fun env' h'=>(match kp.find 4000008 with | some ks=>Den pg fn.ntmps (C [1,1]) (env'.keep ks) h' (KR Q) | none=>den pg fn.ntmps kp (C [1,1]) env' h' (KR Q))) (KR Q)
def K1 (Q:QT):KT:=andThen (fun env' h'=>(match kp.find 4000016 with | some ks=>Den pg fn.ntmps (C [1,1,1,1]) (env'.keep ks) h' (KR Q) | none=>den pg fn.ntmps kp (C [1,1,1,1]) env' h' (KR Q))) (KR Q)
def K2 (Q:QT):KT:=Zcl 0 (K1 Q)
def K3 (Q:QT):KT:=left kp 11 (K2 Q)
def K4 (Q:QT) (R11:T11):KT:=rnd ((kp.find 1000011).getD []) (E11 R11) (K3 Q)
def J6 (Q:QT) (m2:Option Nat) (a0:Pt) (x7:List Nat) (h:Zaa):Prop:=Den pg fn.ntmps (C [1,0,1,0,1,1]) [(2,.map m2),(0,.ptr a0),(7,.str x7)] h (K0 Q)
def L11 (Q:QT) (a1:Pt) (m2:Option Nat) (a52:Pt) (n52 c52:Nat) (e52:Bool) (x53 x54:Int) (h:Zaa):Prop:=Zdz (Den pg fn.ntmps (C [1,1,1,0,1,0,0])) ((kp.find 1000011).getD []) (K3 Q) [(1,.ptr a1),(2,.map m2),(52,.slice a52 n52 c52 e52),(53,.int .i64 x53),(54,.int .i64 x54)] h
def Yqp (Q:QT) (h:Zaa):Prop:=At (K2 Q) (.exit 0) [(6,.undef)] h
theorem J6i (Q:QT) (m2:Option Nat) (a0:Pt) (x7:List Nat) (h:Zaa) (ht :
 Zba a0 fun A B=>Zbs (Zad h (.ptr (A,B + 0))) fun A=>xMp m2 fun B=>Zdc h (some B) fun es_32 k_33=>Ygv es_32 k_33 A (.str x7) fun es_34 k_35=>Zcy (List.set h B (.map es_34 k_35)) fun A=>Q (.bool true) A):J6 Q m2 a0 x7 h:=
 Zbb (kp:=kp) (cast (by kernel_rfl) ht)
def L11t (Q:QT) (R11:T11) (a1:Pt) (m2:Option Nat) (a52:Pt) (n52 c52:Nat) (e52:Bool) (x53 x54:Int) (h:Zaa):Prop:=
 bcase (decide ((x54:Int) < x53)) ((0≤(x54:Int)∧(x54:Int) < (n52:Nat))∧(Zba a52 fun A B=>Zfd (Zad h (.ptr (A,B + (Int.toNat x54) * 1))) fun A=>Zba a1 fun B C=>xSl (Zad h (.ptr (B,C + 1))) fun B C D D=>(0≤(x54:Int)∧(x54:Int) < (C:Nat))∧(Zba B fun B C=>Zfd (Zad h (.ptr (B,C + (Int.toNat x54) * 1))) fun B=>Zae pg Zgt [.ptr A,.ptr B,.map m2] h fun A B=>
 Zbp A fun A=>bcase (!A) (Q (.bool false) B) (R11 a1 m2 a52 n52 c52 e52 x53 (IntKind.wrap .i64 (x54 + 1)) B)))) (Yqp Q h)
theorem Yox (Q:QT) (R11:T11) (a1:Pt) (m2:Option Nat) (a52:Pt) (n52 c52:Nat) (e52:Bool) (x53 x54:Int) (h:Zaa) (ht:L11t Q R11 a1 m2 a52 n52 c52 e52 x53 x54 h):Den pg fn.ntmps (C [1,1,1,0,1,0,0]) [(1,.ptr a1),(2,.map m2),(52,.slice a52 n52 c52 e52),(53,.int .i64 x53),(54,.int .i64 x54)] h (K4 Q R11):=
 Zbb (kp:=kp) (cast (by kernel_rfl) ht)
theorem L11ind (Q:QT) (a1:Pt) (m2:Option Nat) (a52:Pt) (n52 c52:Nat) (e52:Bool) (x53:Int) {G:Type} (J:G→Int→Zaa→Prop) (m:G→Nat)
 (hr:∀ (g:G) (x54:Int) (h:Zaa),J g x54 h→∀ (R11:T11),(∀ g' (x54:Int) (h:Zaa),m g' < m g→J g' x54 h→R11 a1 m2 a52 n52 c52 e52 x53 x54 h)→L11t Q R11 a1 m2 a52 n52 c52 e52 x53 x54 h)
 (g:G) (x54:Int) (h:Zaa) (hj:J g x54 h):L11 Q a1 m2 a52 n52 c52 e52 x53 x54 h:=by
 let P:=fun (K:Int→Zaa→Prop) a1' m2' a52' n52' c52' e52' x53' x54 h=>a1=a1'∧m2=m2'∧a52=a52'∧n52=n52'∧c52=c52'∧e52=e52'∧x53=x53'∧K x54 h
 refine Zdz.inv2 (fun g=>E11 (P (J g))) (fun g=>E11 (P fun x54 h=>∃ g',m g' < m g∧J g' x54 h)) m ?_ ?_ g ⟨rfl,rfl,rfl,rfl,rfl,rfl,rfl,hj⟩
 ·intro g env h hi
  obtain ⟨a1',m2',a52',n52',c52',e52',x53',x54,rfl,rfl,rfl,rfl,rfl,rfl,rfl,rfl,hj⟩:=Yhs hi
  exact Yox Q _ a1 m2 a52 n52 c52 e52 x53 x54 h (hr g x54 h hj (P fun x54 h=>∃ g',m g' < m g∧J g' x54 h) fun g' x54 h hlt hj=>⟨rfl,rfl,rfl,rfl,rfl,rfl,rfl,g',hlt,hj⟩)
 ·intro g env h hi
  obtain ⟨a1',m2',a52',n52',c52',e52',x53',x54,rfl,rfl,rfl,rfl,rfl,rfl,rfl,rfl,g',hlt,hj⟩:=Yhs hi
  exact ⟨g',hlt,rfl,rfl,rfl,rfl,rfl,rfl,rfl,hj⟩
theorem A11x0i (Q:QT) (h:Zaa) (ht :
 Q (.bool true) h):Yqp Q h:=
 At.mk (cast (by kernel_rfl) ht)
theorem call (a0 a1:Pt) (m2:Option Nat) (h:Zaa) (Q:QT) (ht :
 Zba a0 fun A B=>Zbs (Zad h (.ptr (A,B + 0))) fun A=>Zae pg Zdd [.str A] h fun A B=>
 Zbp A fun A=>bcase A (Zae pg Zhp [.ptr a1] B fun A C=>
 Zbs A fun A=>Zba a0 fun D E=>Zbs (Zad C (.ptr (D,E + 0))) fun D=>Zdc C m2 fun es_12 k_13=>Zqg es_12 D fun D=>Zbs (some (Option.getD D (.str []))) fun E=>bcase (Option.isSome D) (bcase (!(decide (E=A))) (Q (.bool false) C) (J6 Q m2 a0 A C)) (J6 Q m2 a0 A C)) (Zba a0 fun A C=>Zba a1 fun D E=>Zbs (Zad B (.ptr (A,C + 0))) fun F=>Zbs (Zad B (.ptr (D,E + 0))) fun D=>(Zad B (.ptr (A,C + 0))=Zad B (.ptr (A,C + 0)))∧bcase (!(decide (F=D))) (Q (.bool false) B) (Zba a0 fun A C=>xSl (Zad B (.ptr (A,C + 1))) fun A C D E=>L11 Q a1 m2 A C D E (((C:Nat):Int)) 0 B))):Zae pg Zgt [.ptr a0,.ptr a1,.map m2] h Q:=
 Zae.of_body kp (c:=cod fn) (fn:=fn) Go.Proofs.Tryz.func90 (by kernel_rfl) (by kernel_rfl) (Nat.le_of_ble_eq_true (by kernel_rfl))
  (cast (by kernel_rfl) ht)
end Zdy
end Go.Sim

set_option maxRecDepth 100000
set_option maxHeartbeats 0
set_option linter.unusedVariables false
namespace Go.Sim
open Go Go.RowKit
namespace Zfy
noncomputable abbrev fn:Func:=Go.Proofs.Tryz.f130
def kp:Zce:=[(3000005,[0,3]),(1000005,[0,3,20,21,22]),(2000009,[2])]
noncomputable def C (p:List Nat):Code:=(cod fn).sub p
def KR (Q:QT):KT:=Zev pg fn.results.toList Q
abbrev T5:=Pt→Pt→Nat→Nat→Bool→Pt→Nat→Nat→Bool→Int→Int→Zaa→Prop
def E5 (R5:T5) (env:Env) (h:Zaa):Prop:=Zby 0 env fun v env=>Zfd v fun a0=>Zby 3 env fun v env=>xSl v fun a3 n3 c3 e3=>Zby 20 env fun v env=>xSl v fun a20 n20 c20 e20=>Zby 21 env fun v env=>Zea .i64 v fun x21=>Zby 22 env fun v env=>Zea .i64 v fun x22=>Zjh env (R5 a0 a3 n3 c3 e3 a20 n20 c20 e20 x21 x22 h)
theorem Zgd {R5:T5} {env:Env} {h:Zaa} (hi:E5 R5 env h):∃ a0,∃ a3,∃ n3,∃ c3,∃ e3,∃ a20,∃ n20,∃ c20,∃ e20,∃ x21,∃ x22,env=[(0,.ptr a0),(3,.slice a3 n3 c3 e3),(20,.slice a20 n20 c20 e20),(21,.int .i64 x21),(22,.int .i64 x22)]∧R5 a0 a3 n3 c3 e3 a20 n20 c20 e20 x21 x22 h:=by
 unfold E5 at hi
 repeat ((first | (have k:=Zaf hi; clear hi; obtain ⟨_,_,e,hi⟩:=k) | (have k:=Zbk hi; clear hi; obtain ⟨_,e,hi⟩:=k) | (have k:=Zav hi; clear hi; obtain ⟨_,e,hi⟩:=k) | (have k:=Zbz hi; clear hi; obtain ⟨_,_,_,_,e,hi⟩:=k)); subst e)
 obtain ⟨rfl,hi⟩:=Zbi hi
 exact ⟨_,_,_,_,_,_,_,_,_,_,_,rfl,hi⟩
def K0 (Q:QT):KT:=andThen (fun env' h'=>(match kp.find 4000009 with | some ks=>Den pg fn.ntmps (C [1,1,1,1]) (env'.keep ks) h' (KR Q) | none=>den pg fn.ntmps kp (C [1,1,1,1]) env' h' (KR Q))) (KR Q)
def K1 (Q:QT):KT:=Zcl 0 (K0 Q)
def K2 (Q:QT):KT:=left kp 5 (K1 Q)
def K3 (Q:QT) (R5:T5):KT:=rnd ((kp.find 1000005).getD []) (E5 R5) (K2 Q)
def L5 (Q:QT) (a0 a3:Pt) (n3 c3:Nat) (e3:Bool) (a20:Pt) (n20 c20:Nat) (e20:Bool) (x21 x22:Int) (h:Zaa):Prop:=Zdz (Den pg fn.ntmps (C [1,1,1,0,1,0,0])) ((kp.find 1000005).getD []) (K2 Q) [(0,.ptr a0),(3,.slice a3 n3 c3 e3),(20,.slice a20 n20 c20 e20),(21,.int .i64 x21),(22,.int .i64 x22)] h
def A5x0 (Q:QT) (a0 a3:Pt) (n3 c3:Nat) (e3:Bool) (h:Zaa):Prop:=At (K1 Q) (.exit 0) [(0,.ptr a0),(3,.slice a3 n3 c3 e3)] h
def L5t (Q:QT) (R5:T5) (a0 a3:Pt) (n3 c3:Nat) (e3:Bool) (a20:Pt) (n20 c20:Nat) (e20:Bool) (x21 x22:Int) (h:Zaa):Prop:=
 bcase (decide ((x22:Int) < x21)) ((0≤(x22:Int)∧(x22:Int) < (n20:Nat))∧(Zba a20 fun A B=>Zfd (Zad h (.ptr (A,B + (Int.toNat x22) * 1))) fun A=>Zae pg Zhp [.ptr A] h fun A B=>
 Zbs A fun A=>Zcy (B ++ [.cells Zdb [.str A] false]) fun A=>Zdp pg Zsl A (.slice a3 n3 c3 e3) (.slice (B.length,0) 1 1 true) fun A B=>xSl A fun A C D E=>R5 a0 A C D E a20 n20 c20 e20 x21 (IntKind.wrap .i64 (x22 + 1)) B)) (A5x0 Q a0 a3 n3 c3 e3 h)
theorem Zqk (Q:QT) (R5:T5) (a0 a3:Pt) (n3 c3:Nat) (e3:Bool) (a20:Pt) (n20 c20:Nat) (e20:Bool) (x21 x22:Int) (h:Zaa) (ht:L5t Q R5 a0 a3 n3 c3 e3 a20 n20 c20 e20 x21 x22 h):Den pg fn.ntmps (C [1,1,1,0,1,0,0]) [(0,.ptr a0),(3,.slice a3 n3 c3 e3),(20,.slice a20 n20 c20 e20),(21,.int .i64 x21),(22,.int .i64 x22)] h (K3 Q R5):=
 Zbb (kp:=kp) (cast (by kernel_rfl) ht)
theorem L5ind (Q:QT) (a0 a20:Pt) (n20 c20:Nat) (e20:Bool) (x21:Int) {G:Type} (J:G→Pt→Nat→Nat→Bool→Int→Zaa→Prop) (m:G→Nat)
 (hr:∀ (g:G) (a3:Pt) (n3 c3:Nat) (e3:Bool) (x22:Int) (h:Zaa),J g a3 n3 c3 e3 x22 h→∀ (R5:T5),(∀ g' (a3:Pt) (n3 c3:Nat) (e3:Bool) (x22:Int) (h:Zaa),m g' < m g→J g' a3 n3 c3 e3 x22 h→R5 a0 a3 n3 c3 e3 a20 n20 c20 e20 x21 x22 h)→L5t Q R5 a0 a3 n3 c3 e3 a20 n20 c20 e20 x21 x22 h)
 (g:G) (a3:Pt) (n3 c3:Nat) (e3:Bool) (x22:Int) (h:Zaa) (hj:J g a3 n3 c3 e3 x22 h):L5 Q a0 a3 n3 c3 e3 a20 n20 c20 e20 x21 x22 h:=by
 let P:=fun (K:Pt→Nat→Nat→Bool→Int→Zaa→Prop) a0' a3 n3 c3 e3 a20' n20' c20' e20' x21' x22 h=>a0=a0'∧a20=a20'∧n20=n20'∧c20=c20'∧e20=e20'∧x21=x21'∧K a3 n3 c3 e3 x22 h
 refine Zdz.inv2 (fun g=>E5 (P (J g))) (fun g=>E5 (P fun a3 n3 c3 e3 x22 h=>∃ g',m g' < m g∧J g' a3 n3 c3 e3 x22 h)) m ?_ ?_ g ⟨rfl,rfl,rfl,rfl,rfl,rfl,hj⟩
 ·intro g env h hi
  obtain ⟨a0',a3,n3,c3,e3,a20',n20',c20',e20',x21',x22,rfl,rfl,rfl,rfl,rfl,rfl,rfl,hj⟩:=Zgd hi
  exact Zqk Q _ a0 a3 n3 c3 e3 a20 n20 c20 e20 x21 x22 h (hr g a3 n3 c3 e3 x22 h hj (P fun a3 n3 c3 e3 x22 h=>∃ g',m g' < m g∧J g' a3 n3 c3 e3 x22 h) fun g' a3 n3 c3 e3 x22 h hlt hj=>⟨rfl,rfl,rfl,rfl,rfl,rfl,g',hlt,hj⟩)
 ·intro g env h hi
  obtain ⟨a0',a3,n3,c3,e3,a20',n20',c20',e20',x21',x22,rfl,rfl,rfl,rfl,rfl,rfl,rfl,g',hlt,hj⟩:=Zgd hi
  exact ⟨g',hlt,rfl,rfl,rfl,rfl,rfl,rfl,hj⟩
theorem A5x0i (Q:QT) (a0 a3:Pt) (n3 c3:Nat) (e3:Bool) (h:Zaa) (ht :
 Zba a0 fun A B=>Zbs (Zad h (.ptr (A,B + 0))) fun C=>List.length C + List.length [40]≤9223372036854775807∧(Zae pg Zpm [.slice a3 n3 c3 e3,.str [44]] h fun D E=>
 Zbs D fun D=>(Zad E (.ptr (A,B + 0))=Zad h (.ptr (A,B + 0)))∧List.length (C ++ [40]) + List.length D≤9223372036854775807∧(List.length ((C ++ [40]) ++ D) + List.length [41]≤9223372036854775807∧(Q (.str (((C ++ [40]) ++ D) ++ [41])) E)))):A5x0 Q a0 a3 n3 c3 e3 h:=
 At.mk (cast (by kernel_rfl) ht)
theorem call (a0:Pt) (h:Zaa) (Q:QT) (ht :
 Zba a0 fun A B=>xSl (Zad h (.ptr (A,B + 1))) fun A A B B=>bcase ((((A:Nat):Int):Int) == 0) (Zba a0 fun A B=>Zbs (Zad h (.ptr (A,B + 0))) fun A=>Q (.str A) h) (Zcy (h ++ [.cells Zdb [] false]) fun A=>Zba a0 fun B C=>xSl (Zad A (.ptr (B,C + 1))) fun B C D E=>L5 Q a0 (h.length,0) 0 0 true B C D E (((C:Nat):Int)) 0 A)):Zae pg Zhp [.ptr a0] h Q:=
 Zae.of_body kp (c:=cod fn) (fn:=fn) Go.Proofs.Tryz.func130 (by kernel_rfl) (by kernel_rfl) (Nat.le_of_ble_eq_true (by kernel_rfl))
  (cast (by kernel_rfl) ht)
end Zfy
namespace Zfp
noncomputable abbrev fn:Func:=Go.Proofs.Tryz.f82
def kp:Zce:=[(3000003,[1,3]),(1000003,[1,3,11,12,13]),(2000005,[13,12,11,3,1]),(4000009,[3])]
noncomputable def C (p:List Nat):Code:=(cod fn).sub p
def KR (Q:QT):KT:=Zev pg fn.results.toList Q
abbrev T3:=Nat→Nat→List Nat→Pt→Nat→Nat→Bool→Int→Int→Zaa→Prop
def E3 (R3:T3) (env:Env) (h:Zaa):Prop:=Zby 1 env fun v env=>Zfd v fun a=>Zba a fun i1 o1=>Zby 3 env fun v env=>Zbs v fun x3=>Zby 11 env fun v env=>xSl v fun a11 n11 c11 e11=>Zby 12 env fun v env=>Zea .i64 v fun x12=>Zby 13 env fun v env=>Zea .i64 v fun x13=>Zjh env (R3 i1 o1 x3 a11 n11 c11 e11 x12 x13 h)
theorem Zdv {R3:T3} {env:Env} {h:Zaa} (hi:E3 R3 env h):∃ i1,∃ o1,∃ x3,∃ a11,∃ n11,∃ c11,∃ e11,∃ x12,∃ x13,env=[(1,.ptr (i1,o1)),(3,.str x3),(11,.slice a11 n11 c11 e11),(12,.int .i64 x12),(13,.int .i64 x13)]∧R3 i1 o1 x3 a11 n11 c11 e11 x12 x13 h:=by
 unfold E3 at hi
 have hi0:=hi
 clear hi
 obtain ⟨_,_,rfl,hi1⟩:=Zaf hi0
 obtain ⟨a,rfl,hi2⟩:=Zbk hi1
 obtain ⟨i1,o1,rfl,hi3⟩:=Zbj hi2
 obtain ⟨_,_,rfl,hi4⟩:=Zaf hi3
 obtain ⟨x3,rfl,hi5⟩:=Zjj hi4
 obtain ⟨_,_,rfl,hi6⟩:=Zaf hi5
 obtain ⟨a11,n11,c11,e11,rfl,hi7⟩:=Zbz hi6
 obtain ⟨_,_,rfl,hi8⟩:=Zaf hi7
 obtain ⟨x12,rfl,hi9⟩:=Zav hi8
 obtain ⟨_,_,rfl,hi10⟩:=Zaf hi9
 obtain ⟨x13,rfl,hi11⟩:=Zav hi10
 obtain ⟨rfl,hi12⟩:=Zbi hi11
 have hi:=hi12
 exact ⟨i1,o1,x3,a11,n11,c11,e11,x12,x13,rfl,hi⟩
def K0 (Q:QT):KT:=andThen (fun env' h'=>(match kp.find 4000007 with | some ks=>Den pg fn.ntmps (C [1,1,1]) (env'.keep ks) h' (KR Q) | none=>den pg fn.ntmps kp (C [1,1,1]) env' h' (KR Q))) (KR Q)
def K1 (Q:QT):KT:=Zcl 0 (K0 Q)
def K2 (Q:QT):KT:=left kp 3 (K1 Q)
def K3 (Q:QT) (R3:T3):KT:=rnd ((kp.find 1000003).getD []) (E3 R3) (K2 Q)
def L3 (Q:QT) (i1 o1:Nat) (x3:List Nat) (a11:Pt) (n11 c11:Nat) (e11:Bool) (x12 x13:Int) (h:Zaa):Prop:=Zdz (Den pg fn.ntmps (C [1,1,0,1,0,0])) ((kp.find 1000003).getD []) (K2 Q) [(1,.ptr (i1,o1)),(3,.str x3),(11,.slice a11 n11 c11 e11),(12,.int .i64 x12),(13,.int .i64 x13)] h
def Znv (Q:QT) (i1 o1:Nat) (x3:List Nat) (h:Zaa):Prop:=At (K1 Q) (.exit 0) [(1,.ptr (i1,o1)),(3,.str x3)] h
def J9 (Q:QT) (x3:List Nat) (h:Zaa):Prop:=Den pg fn.ntmps (C [1,1,1,1]) [(3,.str x3)] h (KR Q)
def L3t (Q:QT) (R3:T3) (i1 o1:Nat) (x3:List Nat) (a11:Pt) (n11 c11:Nat) (e11:Bool) (x12 x13:Int) (h:Zaa):Prop:=
 bcase (decide ((x13:Int) < x12)) ((0≤(x13:Int)∧(x13:Int) < (n11:Nat))∧(Zba a11 fun A B=>Zcs (Zbf h (.ptr (A,B + (Int.toNat x13) * 2)) 2) fun A=>Zaj A fun A B=>Zci .u8 A fun A=>Zaj B fun B C=>xSl B fun B D E F=>Zcf C (Zcy (h ++ [.cells Zab [.int .u8 0,.slice none 0 0 true] false]) fun C=>Zch (Zbe C (.ptr (h.length,0)) [.int .u8 A,.slice B D E F]) fun A=>(0≤(x13:Int)∧(x13:Int)≤IntKind.wrap .i64 (x13 + 1)∧(IntKind.wrap .i64 (x13 + 1):Int)≤(List.length ([40,44]):Nat))∧(List.length x3 + List.length (sub ([40,44]) x13 (IntKind.wrap .i64 (x13 + 1)))≤9223372036854775807∧(Zcs (Zbf A (.ptr (h.length,0)) 2) fun B=>Zaj B fun B C=>Zci .u8 B fun B=>Zaj C fun C D=>xSl C fun C E F G=>Zcf D (Zae pg Zgr [.agg [.int .u8 B,.slice C E F G]] A fun A B=>
 Zbs A fun A=>List.length (x3 ++ (sub ([40,44]) x13 (IntKind.wrap .i64 (x13 + 1)))) + List.length A≤9223372036854775807∧(R3 i1 o1 ((x3 ++ (sub ([40,44]) x13 (IntKind.wrap .i64 (x13 + 1)))) ++ A) a11 n11 c11 e11 x12 (IntKind.wrap .i64 (x13 + 1)) B))))))) (Znv Q i1 o1 x3 h)
theorem Zjr (Q:QT) (R3:T3) (i1 o1:Nat) (x3:List Nat) (a11:Pt) (n11 c11:Nat) (e11:Bool) (x12 x13:Int) (h:Zaa) (ht:L3t Q R3 i1 o1 x3 a11 n11 c11 e11 x12 x13 h):Den pg fn.ntmps (C [1,1,0,1,0,0]) [(1,.ptr (i1,o1)),(3,.str x3),(11,.slice a11 n11 c11 e11),(12,.int .i64 x12),(13,.int .i64 x13)] h (K3 Q R3):=
 Zbb (kp:=kp) (cast (by kernel_rfl) ht)
theorem L3ind (Q:QT) (i1 o1:Nat) (a11:Pt) (n11 c11:Nat) (e11:Bool) (x12:Int) {G:Type} (J:G→List Nat→Int→Zaa→Prop) (m:G→Nat)
 (hr:∀ (g:G) (x3:List Nat) (x13:Int) (h:Zaa),J g x3 x13 h→∀ (R3:T3),(∀ g' (x3:List Nat) (x13:Int) (h:Zaa),m g' < m g→J g' x3 x13 h→R3 i1 o1 x3 a11 n11 c11 e11 x12 x13 h)→L3t Q R3 i1 o1 x3 a11 n11 c11 e11 x12 x13 h)
 (g:G) (x3:List Nat) (x13:Int) (h:Zaa) (hj:J g x3 x13 h):L3 Q i1 o1 x3 a11 n11 c11 e11 x12 x13 h:=by
 let P:=fun (K:List Nat→Int→Zaa→Prop) i1' o1' x3 a11' n11' c11' e11' x12' x13 h=>i1=i1'∧o1=o1'∧a11=a11'∧n11=n11'∧c11=c11'∧e11=e11'∧x12=x12'∧K x3 x13 h
 refine Zdz.inv2 (fun g=>E3 (P (J g))) (fun g=>E3 (P fun x3 x13 h=>∃ g',m g' < m g∧J g' x3 x13 h)) m ?_ ?_ g ⟨rfl,rfl,rfl,rfl,rfl,rfl,rfl,hj⟩
 ·intro g env h hi
  obtain ⟨i1',o1',x3,a11',n11',c11',e11',x12',x13,rfl,rfl,rfl,rfl,rfl,rfl,rfl,rfl,hj⟩:=Zdv hi
  exact Zjr Q _ i1 o1 x3 a11 n11 c11 e11 x12 x13 h (hr g x3 x13 h hj (P fun x3 x13 h=>∃ g',m g' < m g∧J g' x3 x13 h) fun g' x3 x13 h hlt hj=>⟨rfl,rfl,rfl,rfl,rfl,rfl,rfl,g',hlt,hj⟩)
 ·intro g env h hi
  obtain ⟨i1',o1',x3,a11',n11',c11',e11',x12',x13,rfl,rfl,rfl,rfl,rfl,rfl,rfl,rfl,g',hlt,hj⟩:=Zdv hi
  exact ⟨g',hlt,rfl,rfl,rfl,rfl,rfl,rfl,rfl,hj⟩
theorem A3x0i (Q:QT) (i1 o1:Nat) (x3:List Nat) (h:Zaa) (ht :
 xSl (Zad h (.ptr (i1,o1 + 1))) fun A A B B=>bcase (decide (((((A:Nat):Int)):Int) > 0)) (List.length x3 + List.length [41]≤9223372036854775807∧(J9 Q (x3 ++ [41]) h)) (J9 Q x3 h)):Znv Q i1 o1 x3 h:=
 At.mk (cast (by kernel_rfl) ht)
theorem J9i (Q:QT) (x3:List Nat) (h:Zaa) (ht :
 Q (.str x3) h):J9 Q x3 h:=
 Zbb (kp:=kp) (cast (by kernel_rfl) ht)
theorem call (x0x0:Int) (a0x1:Pt) (n0x1 c0x1:Nat) (e0x1:Bool) (h:Zaa) (Q:QT) (ht :
 Zcy (h ++ [.cells Zab [.int .u8 x0x0,.slice a0x1 n0x1 c0x1 e0x1] false]) fun A=>Zci .u8 (Zad A (.ptr (h.length,0 + 0))) fun B=>Zcy (A ++ [.cells Yjt [.int .u8 B] false]) fun B=>Zcs (rowOf B (A.length,0) 1) fun A=>Zob A fun A=>xSl (Zad B (.ptr (h.length,0 + 1))) fun C D E F=>L3 Q h.length 0 A C D E F (((D:Nat):Int)) 0 B):Zae pg Zgr [.agg [.int .u8 x0x0,.slice a0x1 n0x1 c0x1 e0x1]] h Q:=
 Zae.of_body kp (c:=cod fn) (fn:=fn) Go.Proofs.Tryz.func82 (by kernel_rfl) (by kernel_rfl) (Nat.le_of_ble_eq_true (by kernel_rfl))
  (cast (by kernel_rfl) ht)
end Zfp
end Go.Sim

set_option maxRecDepth 100000
set_option maxHeartbeats 0
set_option linter.unusedVariables false
namespace Go.Sim
open Go Go.RowKit
end Go.Sim
