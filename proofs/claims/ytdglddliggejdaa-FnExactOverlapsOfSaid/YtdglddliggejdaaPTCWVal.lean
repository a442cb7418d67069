/- A part of the proof of a statement of this seat: see the text that holds the theorem. No condition. -/
import Derived.Test.YtdglddliggejdaaNm
set_option linter.unusedVariables false
set_option linter.unusedSimpArgs false
set_option linter.all false
set_option maxRecDepth 100000
set_option maxHeartbeats 0
set_option linter.unusedVariables false
namespace Go.Sim
open Go Go.RowKit
namespace Zdp
noncomputable abbrev fn:Func:=Go.Proofs.Try.f97
def kp:Zce:=[(2000003,[7,8,0,4,5]),(2000009,[]),(4000015,[4,0,5]),(3000016,[6]),(1000016,[0,4,5,67,68]),(2000018,[83,68,67,0,4,5])]
noncomputable def C (p:List Nat):Code:=(cod fn).sub p
def KR (Q:QT):KT:=Zet pg fn.results.toList Q
abbrev T16:=Pt→Nat→Nat→Nat→Nat→Int→Int→Zaa→Prop
def E16 (R16:T16) (env:Env) (h:Zaa):Prop:=Zbx 0 env fun v env=>Zfw v fun a0=>Zbx 4 env fun v env=>Zfw v fun a=>Zbf a fun i4 o4=>Zbx 5 env fun v env=>Zfw v fun a=>Zbf a fun i5 o5=>Zbx 67 env fun v env=>Zdz .i64 v fun x67=>Zbx 68 env fun v env=>Zdz .i64 v fun x68=>Ziy env (R16 a0 i4 o4 i5 o5 x67 x68 h)
theorem Yew {R16:T16} {env:Env} {h:Zaa} (hi:E16 R16 env h):∃ a0,∃ i4,∃ o4,∃ i5,∃ o5,∃ x67,∃ x68,env=[(0,.ptr a0),(4,.ptr (i4,o4)),(5,.ptr (i5,o5)),(67,.int .i64 x67),(68,.int .i64 x68)]∧R16 a0 i4 o4 i5 o5 x67 x68 h:=by
 unfold E16 at hi
 have hi0:=hi
 clear hi
 obtain ⟨_,_,rfl,hi1⟩:=Zae hi0
 obtain ⟨a0,rfl,hi2⟩:=Zbu hi1
 obtain ⟨_,_,rfl,hi3⟩:=Zae hi2
 obtain ⟨a,rfl,hi4⟩:=Zbu hi3
 obtain ⟨i4,o4,rfl,hi5⟩:=Zbn hi4
 obtain ⟨_,_,rfl,hi6⟩:=Zae hi5
 obtain ⟨a,rfl,hi7⟩:=Zbu hi6
 obtain ⟨i5,o5,rfl,hi8⟩:=Zbn hi7
 obtain ⟨_,_,rfl,hi9⟩:=Zae hi8
 obtain ⟨x67,rfl,hi10⟩:=Zat hi9
 obtain ⟨_,_,rfl,hi11⟩:=Zae hi10
 obtain ⟨x68,rfl,hi12⟩:=Zat hi11
 obtain ⟨rfl,hi13⟩:=Zbj hi12
 have hi:=hi13
 exact ⟨a0,i4,o4,i5,o5,x67,x68,rfl,hi⟩
def K0 (Q:QT):KT:=andThen (fun env' h'=>(match kp.find 4000021 with | some ks=>Den pg fn.ntmps (C [1,1,1,1,1,1]) (env'.keep ks) h' (KR Q) | none=>den pg fn.ntmps kp (C [1,1,1,1,1,1]) env' h' (KR Q))) (KR Q)
def K1 (Q:QT):KT:=Zcg 1 (K0 Q)
def K2 (Q:QT):KT:=left kp 16 (K1 Q)
def K3 (Q:QT) (R16:T16):KT:=rnd ((kp.find 1000016).getD []) (E16 R16) (K2 Q)
def J15 (Q:QT) (i4 o4:Nat) (a0:Pt) (i5 o5:Nat) (h:Zaa):Prop:=Den pg fn.ntmps (C [1,1,1,1,1]) [(4,.ptr (i4,o4)),(0,.ptr a0),(5,.ptr (i5,o5))] h (KR Q)
def L16 (Q:QT) (a0:Pt) (i4 o4 i5 o5:Nat) (x67 x68:Int) (h:Zaa):Prop:=Zdt (Den pg fn.ntmps (C [1,1,1,1,1,0,1,0,0])) ((kp.find 1000016).getD []) (K2 Q) [(0,.ptr a0),(4,.ptr (i4,o4)),(5,.ptr (i5,o5)),(67,.int .i64 x67),(68,.int .i64 x68)] h
def Ynt (Q:QT) (h:Zaa):Prop:=At (K1 Q) (.exit 1) [(6,.undef)] h
theorem J15i (Q:QT) (i4 o4:Nat) (a0:Pt) (i5 o5:Nat) (h:Zaa) (ht :
 xSl (Zaf h (.ptr (i4,o4 + 1))) fun A A B B=>L16 Q a0 i4 o4 i5 o5 (((A:Nat):Int)) 0 h):J15 Q i4 o4 a0 i5 o5 h:=
 Zax (kp:=kp) (cast (by kernel_rfl) ht)
def L16t (Q:QT) (R16:T16) (a0:Pt) (i4 o4 i5 o5:Nat) (x67 x68:Int) (h:Zaa):Prop:=
 bcase (decide ((x68:Int) < x67)) (xSl (Zaf h (.ptr (i4,o4 + 1))) fun A B C C=>(0≤(x68:Int)∧(x68:Int) < (B:Nat))∧(Zbf A fun A B=>Zcy (Zbo h (.ptr (A,B + (Int.toNat x68) * 2)) 2) fun C=>Zam C fun C D=>Zco .u8 C fun C=>Zam D fun D E=>xSl D fun D F G H=>Zcq E (xSl (Zaf h (.ptr (i5,o5 + 1))) fun E I J J=>(Zbo h (.ptr (A,B + (Int.toNat x68) * 2)) 2=Zbo h (.ptr (A,B + (Int.toNat x68) * 2)) 2)∧(Zaf h (.ptr (i4,o4 + 1))=Zaf h (.ptr (i4,o4 + 1)))∧(0≤(x68:Int)∧(x68:Int) < (I:Nat))∧(Zbf E fun E I=>Zcy (Zbo h (.ptr (E,I + (Int.toNat x68) * 2)) 2) fun E=>Zam E fun E I=>Zco .u8 E fun E=>Zam I fun I J=>xSl I fun I K L M=>Zcq J ((Zbo h (.ptr (A,B + (Int.toNat x68) * 2)) 2=Zbo h (.ptr (A,B + (Int.toNat x68) * 2)) 2)∧(Zaf h (.ptr (i4,o4 + 1))=Zaf h (.ptr (i4,o4 + 1)))∧Zad pg Zcn [.ptr a0,.agg [.int .u8 C,.slice D F G H],.agg [.int .u8 E,.slice I K L M]] h fun A B=>
 Zbw A fun A=>(Zaf B (.ptr (i4,o4 + 1))=Zaf h (.ptr (i4,o4 + 1)))∧bcase (!A) (Q (.bool false) B) (R16 a0 i4 o4 i5 o5 x67 (IntKind.wrap .i64 (x68 + 1)) B)))))) (Ynt Q h)
theorem Yob (Q:QT) (R16:T16) (a0:Pt) (i4 o4 i5 o5:Nat) (x67 x68:Int) (h:Zaa) (ht:L16t Q R16 a0 i4 o4 i5 o5 x67 x68 h):Den pg fn.ntmps (C [1,1,1,1,1,0,1,0,0]) [(0,.ptr a0),(4,.ptr (i4,o4)),(5,.ptr (i5,o5)),(67,.int .i64 x67),(68,.int .i64 x68)] h (K3 Q R16):=
 Zax (kp:=kp) (cast (by kernel_rfl) ht)
theorem L16ind (Q:QT) (a0:Pt) (i4 o4 i5 o5:Nat) (x67:Int) {G:Type} (J:G→Int→Zaa→Prop) (m:G→Nat)
 (hr:∀ (g:G) (x68:Int) (h:Zaa),J g x68 h→∀ (R16:T16),(∀ g' (x68:Int) (h:Zaa),m g' < m g→J g' x68 h→R16 a0 i4 o4 i5 o5 x67 x68 h)→L16t Q R16 a0 i4 o4 i5 o5 x67 x68 h)
 (g:G) (x68:Int) (h:Zaa) (hj:J g x68 h):L16 Q a0 i4 o4 i5 o5 x67 x68 h:=by
 let P:=fun (K:Int→Zaa→Prop) a0' i4' o4' i5' o5' x67' x68 h=>a0=a0'∧i4=i4'∧o4=o4'∧i5=i5'∧o5=o5'∧x67=x67'∧K x68 h
 refine Zdt.inv2 (fun g=>E16 (P (J g))) (fun g=>E16 (P fun x68 h=>∃ g',m g' < m g∧J g' x68 h)) m ?_ ?_ g ⟨rfl,rfl,rfl,rfl,rfl,rfl,hj⟩
 ·intro g env h hi
  obtain ⟨a0',i4',o4',i5',o5',x67',x68,rfl,rfl,rfl,rfl,rfl,rfl,rfl,hj⟩:=Yew hi
  exact Yob Q _ a0 i4 o4 i5 o5 x67 x68 h (hr g x68 h hj (P fun x68 h=>∃ g',m g' < m g∧J g' x68 h) fun g' x68 h hlt hj=>⟨rfl,rfl,rfl,rfl,rfl,rfl,g',hlt,hj⟩)
 ·intro g env h hi
  obtain ⟨a0',i4',o4',i5',o5',x67',x68,rfl,rfl,rfl,rfl,rfl,rfl,rfl,g',hlt,hj⟩:=Yew hi
  exact ⟨g',hlt,rfl,rfl,rfl,rfl,rfl,rfl,hj⟩
theorem A16x1i (Q:QT) (h:Zaa) (ht :
 Q (.bool true) h):Ynt Q h:=
 At.mk (cast (by kernel_rfl) ht)
theorem call (a0:Pt) (x1x0:Int) (a1x1:Pt) (n1x1 c1x1:Nat) (e1x1:Bool) (x2x0:Int) (a2x1:Pt) (n2x1 c2x1:Nat) (e2x1:Bool) (h:Zaa) (Q:QT) (ht :
 Zdn (h ++ [.cells Zab [.int .u8 x1x0,.slice a1x1 n1x1 c1x1 e1x1] false]) fun A=>Zdn (A ++ [.cells Zab [.int .u8 x2x0,.slice a2x1 n2x1 c2x1 e2x1] false]) fun B=>Zcy (Zbo B (.ptr (h.length,0)) 2) fun C=>Zam C fun C D=>Zco .u8 C fun C=>Zam D fun D E=>xSl D fun D F G H=>Zcq E (Zad pg Zgn [.ptr a0,.agg [.int .u8 C,.slice D F G H]] B fun B C=>
 Zqp B fun B=>Zam B fun B D=>Zco .u8 B fun B=>Zam D fun D E=>xSl D fun D F G H=>Zcq E (Zcf (Zbd C (.ptr (h.length,0)) [.int .u8 B,.slice D F G H]) fun B=>Zcy (Zbo B (.ptr (A.length,0)) 2) fun C=>Zam C fun C D=>Zco .u8 C fun C=>Zam D fun D E=>xSl D fun D F G H=>Zcq E (Zad pg Zgn [.ptr a0,.agg [.int .u8 C,.slice D F G H]] B fun B C=>
 Zqp B fun B=>Zam B fun B D=>Zco .u8 B fun B=>Zam D fun D E=>xSl D fun D F G H=>Zcq E (Zcf (Zbd C (.ptr (A.length,0)) [.int .u8 B,.slice D F G H]) fun B=>Zco .u8 (Zaf B (.ptr (h.length,0 + 0))) fun C=>Zco .u8 (Zaf B (.ptr (A.length,0 + 0))) fun D=>Zad pg Zeu [.int .u8 C] B fun C E=>
 Zco .i64 C fun C=>(Zaf E (.ptr (A.length,0 + 0))=Zaf B (.ptr (A.length,0 + 0)))∧Zad pg Zeu [.int .u8 D] E fun B D=>
 Zco .i64 B fun B=>(Zaf D (.ptr (h.length,0 + 0))=Zaf E (.ptr (h.length,0 + 0)))∧bcase (decide ((C:Int) ≥ 0)) (bcase ((C:Int) == B) (Q (.bool true) D) (bcase (decide ((C:Int) ≥ 0)) (bcase (decide ((B:Int) < 0)) (Zco .u8 (Zaf D (.ptr (h.length,0 + 0))) fun E=>Zcy (Zbo D (.ptr (A.length,0)) 2) fun F=>Zam F fun F G=>Zco .u8 F fun F=>Zam G fun G H=>xSl G fun G I J K=>Zcq H (Zad pg Zcv [.ptr a0,.int .u8 E,.agg [.int .u8 F,.slice G I J K]] D fun E F=>
 Zbw E fun E=>bcase E (Q (.bool false) F) (Zbf a0 fun E G=>Zcy (Zbo F (.ptr (A.length,0)) 2) fun H=>Zam H fun H I=>Zco .u8 H fun H=>Zam I fun I J=>xSl I fun I K L M=>Zcq J ((0≤(C:Int)∧(C:Int) < (12:Nat))∧(Zcf (Zbd F (.ptr (E,G + (Int.toNat C) * 2)) [.int .u8 H,.slice I K L M]) fun E=>Q (.bool true) E))))) (bcase (decide ((C:Int) < B)) (Zco .u8 (Zaf D (.ptr (h.length,0 + 0))) fun E=>Zcy (Zbo D (.ptr (A.length,0)) 2) fun F=>Zam F fun F G=>Zco .u8 F fun F=>Zam G fun G H=>xSl G fun G I J K=>Zcq H (Zad pg Zcv [.ptr a0,.int .u8 E,.agg [.int .u8 F,.slice G I J K]] D fun E F=>
 Zbw E fun E=>bcase E (Q (.bool false) F) (Zbf a0 fun E G=>Zcy (Zbo F (.ptr (A.length,0)) 2) fun H=>Zam H fun H I=>Zco .u8 H fun H=>Zam I fun I J=>xSl I fun I K L M=>Zcq J ((0≤(C:Int)∧(C:Int) < (12:Nat))∧(Zcf (Zbd F (.ptr (E,G + (Int.toNat C) * 2)) [.int .u8 H,.slice I K L M]) fun E=>Q (.bool true) E))))) (bcase (decide ((B:Int) ≥ 0)) (Zcy (Zbo D (.ptr (A.length,0)) 2) fun E=>Zam E fun E F=>Zco .u8 E fun E=>Zam F fun F G=>xSl F fun F H I J=>Zcq G (Zcy (Zbo D (.ptr (h.length,0)) 2) fun G=>Zam G fun G K=>Zco .u8 G fun G=>Zam K fun K L=>xSl K fun K M N O=>Zcq L (Zad pg Zcn [.ptr a0,.agg [.int .u8 E,.slice F H I J],.agg [.int .u8 G,.slice K M N O]] D fun E F=>
 Zbw E fun E=>Q (.bool E) F))) (Zco .u8 (Zaf D (.ptr (h.length,0 + 0))) fun E=>Zco .u8 (Zaf D (.ptr (A.length,0 + 0))) fun F=>bcase (!((E:Int) == F)) (Q (.bool false) D) (J15 Q h.length 0 a0 A.length 0 D))))) (bcase (decide ((B:Int) ≥ 0)) (Zcy (Zbo D (.ptr (A.length,0)) 2) fun E=>Zam E fun E F=>Zco .u8 E fun E=>Zam F fun F G=>xSl F fun F H I J=>Zcq G (Zcy (Zbo D (.ptr (h.length,0)) 2) fun G=>Zam G fun G K=>Zco .u8 G fun G=>Zam K fun K L=>xSl K fun K M N O=>Zcq L (Zad pg Zcn [.ptr a0,.agg [.int .u8 E,.slice F H I J],.agg [.int .u8 G,.slice K M N O]] D fun E F=>
 Zbw E fun E=>Q (.bool E) F))) (Zco .u8 (Zaf D (.ptr (h.length,0 + 0))) fun E=>Zco .u8 (Zaf D (.ptr (A.length,0 + 0))) fun F=>bcase (!((E:Int) == F)) (Q (.bool false) D) (J15 Q h.length 0 a0 A.length 0 D))))) (bcase (decide ((C:Int) ≥ 0)) (bcase (decide ((B:Int) < 0)) (Zco .u8 (Zaf D (.ptr (h.length,0 + 0))) fun E=>Zcy (Zbo D (.ptr (A.length,0)) 2) fun F=>Zam F fun F G=>Zco .u8 F fun F=>Zam G fun G H=>xSl G fun G I J K=>Zcq H (Zad pg Zcv [.ptr a0,.int .u8 E,.agg [.int .u8 F,.slice G I J K]] D fun E F=>
 Zbw E fun E=>bcase E (Q (.bool false) F) (Zbf a0 fun E G=>Zcy (Zbo F (.ptr (A.length,0)) 2) fun H=>Zam H fun H I=>Zco .u8 H fun H=>Zam I fun I J=>xSl I fun I K L M=>Zcq J ((0≤(C:Int)∧(C:Int) < (12:Nat))∧(Zcf (Zbd F (.ptr (E,G + (Int.toNat C) * 2)) [.int .u8 H,.slice I K L M]) fun E=>Q (.bool true) E))))) (bcase (decide ((C:Int) < B)) (Zco .u8 (Zaf D (.ptr (h.length,0 + 0))) fun E=>Zcy (Zbo D (.ptr (A.length,0)) 2) fun F=>Zam F fun F G=>Zco .u8 F fun F=>Zam G fun G H=>xSl G fun G I J K=>Zcq H (Zad pg Zcv [.ptr a0,.int .u8 E,.agg [.int .u8 F,.slice G I J K]] D fun E F=>
 Zbw E fun E=>bcase E (Q (.bool false) F) (Zbf a0 fun E G=>Zcy (Zbo F (.ptr (A.length,0)) 2) fun H=>Zam H fun H I=>Zco .u8 H fun H=>Zam I fun I J=>xSl I fun I K L M=>Zcq J ((0≤(C:Int)∧(C:Int) < (12:Nat))∧(Zcf (Zbd F (.ptr (E,G + (Int.toNat C) * 2)) [.int .u8 H,.slice I K L M]) fun C=>Q (.bool true) C))))) (bcase (decide ((B:Int) ≥ 0)) (Zcy (Zbo D (.ptr (A.length,0)) 2) fun C=>Zam C fun C E=>Zco .u8 C fun C=>Zam E fun E F=>xSl E fun E G H I=>Zcq F (Zcy (Zbo D (.ptr (h.length,0)) 2) fun F=>Zam F fun F J=>Zco .u8 F fun F=>Zam J fun J K=>xSl J fun J L M N=>Zcq K (Zad pg Zcn [.ptr a0,.agg [.int .u8 C,.slice E G H I],.agg [.int .u8 F,.slice J L M N]] D fun C E=>
 Zbw C fun C=>Q (.bool C) E))) (Zco .u8 (Zaf D (.ptr (h.length,0 + 0))) fun C=>Zco .u8 (Zaf D (.ptr (A.length,0 + 0))) fun E=>bcase (!((C:Int) == E)) (Q (.bool false) D) (J15 Q h.length 0 a0 A.length 0 D))))) (bcase (decide ((B:Int) ≥ 0)) (Zcy (Zbo D (.ptr (A.length,0)) 2) fun B=>Zam B fun B C=>Zco .u8 B fun B=>Zam C fun C E=>xSl C fun C F G H=>Zcq E (Zcy (Zbo D (.ptr (h.length,0)) 2) fun E=>Zam E fun E I=>Zco .u8 E fun E=>Zam I fun I J=>xSl I fun I K L M=>Zcq J (Zad pg Zcn [.ptr a0,.agg [.int .u8 B,.slice C F G H],.agg [.int .u8 E,.slice I K L M]] D fun B C=>
 Zbw B fun B=>Q (.bool B) C))) (Zco .u8 (Zaf D (.ptr (h.length,0 + 0))) fun B=>Zco .u8 (Zaf D (.ptr (A.length,0 + 0))) fun C=>bcase (!((B:Int) == C)) (Q (.bool false) D) (J15 Q h.length 0 a0 A.length 0 D))))))))):Zad pg Zcn [.ptr a0,.agg [.int .u8 x1x0,.slice a1x1 n1x1 c1x1 e1x1],.agg [.int .u8 x2x0,.slice a2x1 n2x1 c2x1 e2x1]] h Q:=
 Zad.of_body kp (c:=cod fn) (fn:=fn) Go.Proofs.Try.func97 (by kernel_rfl) (by kernel_rfl) (Nat.le_of_ble_eq_true (by kernel_rfl))
  (cast (by kernel_rfl) ht)
end Zdp
end Go.Sim

set_option maxRecDepth 100000
set_option maxHeartbeats 0
set_option linter.unusedVariables false
namespace Go.Sim
open Go Go.RowKit
namespace Zgc
noncomputable abbrev fn:Func:=Go.Proofs.Try.f142
def kp:Zce:=[(3000005,[6]),(1000005,[0,1,17,18,19])]
noncomputable def C (p:List Nat):Code:=(cod fn).sub p
def KR (Q:QT):KT:=Zet pg fn.results.toList Q
abbrev T5:=Pt→Int→Pt→Nat→Nat→Bool→Int→Int→Zaa→Prop
def E5 (R5:T5) (env:Env) (h:Zaa):Prop:=Zbx 0 env fun v env=>Zfw v fun a0=>Zbx 1 env fun v env=>Zdz .u8 v fun x1=>Zbx 17 env fun v env=>xSl v fun a17 n17 c17 e17=>Zbx 18 env fun v env=>Zdz .i64 v fun x18=>Zbx 19 env fun v env=>Zdz .i64 v fun x19=>Ziy env (R5 a0 x1 a17 n17 c17 e17 x18 x19 h)
theorem Zhq {R5:T5} {env:Env} {h:Zaa} (hi:E5 R5 env h):∃ a0,∃ x1,∃ a17,∃ n17,∃ c17,∃ e17,∃ x18,∃ x19,env=[(0,.ptr a0),(1,.int .u8 x1),(17,.slice a17 n17 c17 e17),(18,.int .i64 x18),(19,.int .i64 x19)]∧R5 a0 x1 a17 n17 c17 e17 x18 x19 h:=by
 unfold E5 at hi
 repeat ((first | (have k:=Zae hi; clear hi; obtain ⟨_,_,e,hi⟩:=k) | (have k:=Zat hi; clear hi; obtain ⟨_,e,hi⟩:=k) | (have k:=Zbu hi; clear hi; obtain ⟨_,e,hi⟩:=k) | (have k:=Zbt hi; clear hi; obtain ⟨_,_,_,_,e,hi⟩:=k)); subst e)
 obtain ⟨rfl,hi⟩:=Zbj hi
 exact ⟨_,_,_,_,_,_,_,_,rfl,hi⟩
def K0 (Q:QT):KT:=andThen (fun env' h'=>(match kp.find 4000010 with | some ks=>Den pg fn.ntmps (C [1,1,1,1]) (env'.keep ks) h' (KR Q) | none=>den pg fn.ntmps kp (C [1,1,1,1]) env' h' (KR Q))) (KR Q)
def K1 (Q:QT):KT:=Zcg 0 (K0 Q)
def K2 (Q:QT):KT:=left kp 5 (K1 Q)
def K3 (Q:QT) (R5:T5):KT:=rnd ((kp.find 1000005).getD []) (E5 R5) (K2 Q)
def L5 (Q:QT) (a0:Pt) (x1:Int) (a17:Pt) (n17 c17:Nat) (e17:Bool) (x18 x19:Int) (h:Zaa):Prop:=Zdt (Den pg fn.ntmps (C [1,1,1,0,1,0,0])) ((kp.find 1000005).getD []) (K2 Q) [(0,.ptr a0),(1,.int .u8 x1),(17,.slice a17 n17 c17 e17),(18,.int .i64 x18),(19,.int .i64 x19)] h
def A5x0 (Q:QT) (h:Zaa):Prop:=At (K1 Q) (.exit 0) [(6,.undef)] h
def L5t (Q:QT) (R5:T5) (a0:Pt) (x1:Int) (a17:Pt) (n17 c17:Nat) (e17:Bool) (x18 x19:Int) (h:Zaa):Prop:=
 bcase (decide ((x19:Int) < x18)) ((0≤(x19:Int)∧(x19:Int) < (n17:Nat))∧(Zbf a17 fun A B=>Zcy (Zbo h (.ptr (A,B + (Int.toNat x19) * 2)) 2) fun A=>Zam A fun A B=>Zco .u8 A fun A=>Zam B fun B C=>xSl B fun B D E F=>Zcq C (Zdn (h ++ [.cells Zab [.int .u8 0,.slice none 0 0 true] false]) fun C=>Zcf (Zbd C (.ptr (h.length,0)) [.int .u8 A,.slice B D E F]) fun A=>Zcy (Zbo A (.ptr (h.length,0)) 2) fun B=>Zam B fun B C=>Zco .u8 B fun B=>Zam C fun C D=>xSl C fun C E F G=>Zcq D (Zad pg Zcv [.ptr a0,.int .u8 x1,.agg [.int .u8 B,.slice C E F G]] A fun A B=>
 Zbw A fun A=>bcase A (Q (.bool true) B) (R5 a0 x1 a17 n17 c17 e17 x18 (IntKind.wrap .i64 (x19 + 1)) B))))) (A5x0 Q h)
theorem Zqx (Q:QT) (R5:T5) (a0:Pt) (x1:Int) (a17:Pt) (n17 c17:Nat) (e17:Bool) (x18 x19:Int) (h:Zaa) (ht:L5t Q R5 a0 x1 a17 n17 c17 e17 x18 x19 h):Den pg fn.ntmps (C [1,1,1,0,1,0,0]) [(0,.ptr a0),(1,.int .u8 x1),(17,.slice a17 n17 c17 e17),(18,.int .i64 x18),(19,.int .i64 x19)] h (K3 Q R5):=
 Zax (kp:=kp) (cast (by kernel_rfl) ht)
theorem L5ind (Q:QT) (a0:Pt) (x1:Int) (a17:Pt) (n17 c17:Nat) (e17:Bool) (x18:Int) {G:Type} (J:G→Int→Zaa→Prop) (m:G→Nat)
 (hr:∀ (g:G) (x19:Int) (h:Zaa),J g x19 h→∀ (R5:T5),(∀ g' (x19:Int) (h:Zaa),m g' < m g→J g' x19 h→R5 a0 x1 a17 n17 c17 e17 x18 x19 h)→L5t Q R5 a0 x1 a17 n17 c17 e17 x18 x19 h)
 (g:G) (x19:Int) (h:Zaa) (hj:J g x19 h):L5 Q a0 x1 a17 n17 c17 e17 x18 x19 h:=by
 let P:=fun (K:Int→Zaa→Prop) a0' x1' a17' n17' c17' e17' x18' x19 h=>a0=a0'∧x1=x1'∧a17=a17'∧n17=n17'∧c17=c17'∧e17=e17'∧x18=x18'∧K x19 h
 refine Zdt.inv2 (fun g=>E5 (P (J g))) (fun g=>E5 (P fun x19 h=>∃ g',m g' < m g∧J g' x19 h)) m ?_ ?_ g ⟨rfl,rfl,rfl,rfl,rfl,rfl,rfl,hj⟩
 ·intro g env h hi
  obtain ⟨a0',x1',a17',n17',c17',e17',x18',x19,rfl,rfl,rfl,rfl,rfl,rfl,rfl,rfl,hj⟩:=Zhq hi
  exact Zqx Q _ a0 x1 a17 n17 c17 e17 x18 x19 h (hr g x19 h hj (P fun x19 h=>∃ g',m g' < m g∧J g' x19 h) fun g' x19 h hlt hj=>⟨rfl,rfl,rfl,rfl,rfl,rfl,rfl,g',hlt,hj⟩)
 ·intro g env h hi
  obtain ⟨a0',x1',a17',n17',c17',e17',x18',x19,rfl,rfl,rfl,rfl,rfl,rfl,rfl,rfl,g',hlt,hj⟩:=Zhq hi
  exact ⟨g',hlt,rfl,rfl,rfl,rfl,rfl,rfl,rfl,hj⟩
theorem A5x0i (Q:QT) (h:Zaa) (ht :
 Q (.bool false) h):A5x0 Q h:=
 At.mk (cast (by kernel_rfl) ht)
theorem call (a0:Pt) (x1 x2x0:Int) (a2x1:Pt) (n2x1 c2x1:Nat) (e2x1:Bool) (h:Zaa) (Q:QT) (ht :
 Zdn (h ++ [.cells Zab [.int .u8 x2x0,.slice a2x1 n2x1 c2x1 e2x1] false]) fun A=>Zcy (Zbo A (.ptr (h.length,0)) 2) fun B=>Zam B fun B C=>Zco .u8 B fun B=>Zam C fun C D=>xSl C fun C E F G=>Zcq D (Zad pg Zgn [.ptr a0,.agg [.int .u8 B,.slice C E F G]] A fun A B=>
 Zqp A fun A=>Zam A fun A C=>Zco .u8 A fun A=>Zam C fun C D=>xSl C fun C E F G=>Zcq D (Zcf (Zbd B (.ptr (h.length,0)) [.int .u8 A,.slice C E F G]) fun A=>Zco .u8 (Zaf A (.ptr (h.length,0 + 0))) fun B=>bcase ((B:Int) == x1) (Q (.bool true) A) (xSl (Zaf A (.ptr (h.length,0 + 1))) fun B C D E=>L5 Q a0 x1 B C D E (((C:Nat):Int)) 0 A)))):Zad pg Zcv [.ptr a0,.int .u8 x1,.agg [.int .u8 x2x0,.slice a2x1 n2x1 c2x1 e2x1]] h Q:=
 Zad.of_body kp (c:=cod fn) (fn:=fn) Go.Proofs.Try.func142 (by kernel_rfl) (by kernel_rfl) (Nat.le_of_ble_eq_true (by kernel_rfl))
  (cast (by kernel_rfl) ht)
end Zgc
end Go.Sim

set_option maxRecDepth 100000
set_option maxHeartbeats 0
set_option linter.unusedVariables false
namespace Go.Sim
open Go Go.RowKit
namespace Zff
noncomputable abbrev fn:Func:=Go.Proofs.Try.f141
def kp:Zce:=[(3000002,[3,4]),(1000002,[0,3,4,5]),(4000004,[0,5,3,4])]
noncomputable def C (p:List Nat):Code:=(cod fn).sub p
def KR (Q:QT):KT:=Zet pg fn.results.toList Q
abbrev T2:=Pt→Nat→Nat→Nat→Nat→Int→Zaa→Prop
def E2 (R2:T2) (env:Env) (h:Zaa):Prop:=Zbx 0 env fun v env=>Zfw v fun a0=>Zbx 3 env fun v env=>Zfw v fun a=>Zbf a fun i3 o3=>Zbx 4 env fun v env=>Zfw v fun a=>Zbf a fun i4 o4=>Zbx 5 env fun v env=>Zdz .i64 v fun x5=>Ziy env (R2 a0 i3 o3 i4 o4 x5 h)
theorem Zda {R2:T2} {env:Env} {h:Zaa} (hi:E2 R2 env h):∃ a0,∃ i3,∃ o3,∃ i4,∃ o4,∃ x5,env=[(0,.ptr a0),(3,.ptr (i3,o3)),(4,.ptr (i4,o4)),(5,.int .i64 x5)]∧R2 a0 i3 o3 i4 o4 x5 h:=by
 unfold E2 at hi
 have hi0:=hi
 clear hi
 obtain ⟨_,_,rfl,hi1⟩:=Zae hi0
 obtain ⟨a0,rfl,hi2⟩:=Zbu hi1
 obtain ⟨_,_,rfl,hi3⟩:=Zae hi2
 obtain ⟨a,rfl,hi4⟩:=Zbu hi3
 obtain ⟨i3,o3,rfl,hi5⟩:=Zbn hi4
 obtain ⟨_,_,rfl,hi6⟩:=Zae hi5
 obtain ⟨a,rfl,hi7⟩:=Zbu hi6
 obtain ⟨i4,o4,rfl,hi8⟩:=Zbn hi7
 obtain ⟨_,_,rfl,hi9⟩:=Zae hi8
 obtain ⟨x5,rfl,hi10⟩:=Zat hi9
 obtain ⟨rfl,hi11⟩:=Zbj hi10
 have hi:=hi11
 exact ⟨a0,i3,o3,i4,o4,x5,rfl,hi⟩
def K0 (Q:QT):KT:=andThen (fun env' h'=>(match kp.find 4000005 with | some ks=>Den pg fn.ntmps (C [1,1]) (env'.keep ks) h' (KR Q) | none=>den pg fn.ntmps kp (C [1,1]) env' h' (KR Q))) (KR Q)
def K1 (Q:QT):KT:=Zcg 0 (K0 Q)
def K2 (Q:QT):KT:=left kp 2 (K1 Q)
def K3 (Q:QT) (R2:T2):KT:=rnd ((kp.find 1000002).getD []) (E2 R2) (K2 Q)
def L2 (Q:QT) (a0:Pt) (i3 o3 i4 o4:Nat) (x5:Int) (h:Zaa):Prop:=Zdt (Den pg fn.ntmps (C [1,0,1,0,0])) ((kp.find 1000002).getD []) (K2 Q) [(0,.ptr a0),(3,.ptr (i3,o3)),(4,.ptr (i4,o4)),(5,.int .i64 x5)] h
def J4 (Q:QT) (R2:T2) (a0:Pt) (x5:Int) (i3 o3 i4 o4:Nat) (h:Zaa):Prop:=Den pg fn.ntmps (C [1,0,1,0,0,1]) [(0,.ptr a0),(5,.int .i64 x5),(3,.ptr (i3,o3)),(4,.ptr (i4,o4))] h (K3 Q R2)
def A2x0 (Q:QT) (i3 o3 i4 o4:Nat) (h:Zaa):Prop:=At (K1 Q) (.exit 0) [(3,.ptr (i3,o3)),(4,.ptr (i4,o4))] h
def L2t (Q:QT) (R2:T2) (a0:Pt) (i3 o3 i4 o4:Nat) (x5:Int) (h:Zaa):Prop:=
 bcase (decide ((x5:Int) ≥ 0)) (Zbf a0 fun A B=>(0≤(x5:Int)∧(x5:Int) < (12:Nat))∧(Zco .u8 (Zaf h (.ptr (A,B + (Int.toNat x5) * 2 + 0))) fun A=>bcase (!((A:Int) == 0)) (J4 Q R2 a0 x5 i3 o3 i4 o4 h) (A2x0 Q i3 o3 i4 o4 h))) (A2x0 Q i3 o3 i4 o4 h)
theorem Zhm (Q:QT) (R2:T2) (a0:Pt) (i3 o3 i4 o4:Nat) (x5:Int) (h:Zaa) (ht:L2t Q R2 a0 i3 o3 i4 o4 x5 h):Den pg fn.ntmps (C [1,0,1,0,0]) [(0,.ptr a0),(3,.ptr (i3,o3)),(4,.ptr (i4,o4)),(5,.int .i64 x5)] h (K3 Q R2):=
 Zax (kp:=kp) (cast (by kernel_rfl) ht)
theorem L2ind (Q:QT) (a0:Pt) (i3 o3 i4 o4:Nat) {G:Type} (J:G→Int→Zaa→Prop) (m:G→Nat)
 (hr:∀ (g:G) (x5:Int) (h:Zaa),J g x5 h→∀ (R2:T2),(∀ g' (x5:Int) (h:Zaa),m g' < m g→J g' x5 h→R2 a0 i3 o3 i4 o4 x5 h)→L2t Q R2 a0 i3 o3 i4 o4 x5 h)
 (g:G) (x5:Int) (h:Zaa) (hj:J g x5 h):L2 Q a0 i3 o3 i4 o4 x5 h:=by
 let P:=fun (K:Int→Zaa→Prop) a0' i3' o3' i4' o4' x5 h=>a0=a0'∧i3=i3'∧o3=o3'∧i4=i4'∧o4=o4'∧K x5 h
 refine Zdt.inv2 (fun g=>E2 (P (J g))) (fun g=>E2 (P fun x5 h=>∃ g',m g' < m g∧J g' x5 h)) m ?_ ?_ g ⟨rfl,rfl,rfl,rfl,rfl,hj⟩
 ·intro g env h hi
  obtain ⟨a0',i3',o3',i4',o4',x5,rfl,rfl,rfl,rfl,rfl,rfl,hj⟩:=Zda hi
  exact Zhm Q _ a0 i3 o3 i4 o4 x5 h (hr g x5 h hj (P fun x5 h=>∃ g',m g' < m g∧J g' x5 h) fun g' x5 h hlt hj=>⟨rfl,rfl,rfl,rfl,rfl,g',hlt,hj⟩)
 ·intro g env h hi
  obtain ⟨a0',i3',o3',i4',o4',x5,rfl,rfl,rfl,rfl,rfl,rfl,g',hlt,hj⟩:=Zda hi
  exact ⟨g',hlt,rfl,rfl,rfl,rfl,rfl,hj⟩
theorem J4i (Q:QT) (R2:T2) (a0:Pt) (x5:Int) (i3 o3 i4 o4:Nat) (h:Zaa) (ht :
 Zbf a0 fun A B=>(0≤(x5:Int)∧(x5:Int) < (12:Nat))∧(Zcy (Zbo h (.ptr (A,B + (Int.toNat x5) * 2)) 2) fun A=>Zam A fun A B=>Zco .u8 A fun A=>Zam B fun B C=>xSl B fun B D E F=>Zcq C (Zcf (Zbd h (.ptr (i3,o3)) [.int .u8 A,.slice B D E F]) fun A=>Zco .u8 (Zaf A (.ptr (i3,o3 + 0))) fun B=>Zad pg Zeu [.int .u8 B] A fun A B=>
 Zco .i64 A fun A=>R2 a0 i3 o3 i4 o4 A B))):J4 Q R2 a0 x5 i3 o3 i4 o4 h:=
 Zax (kp:=kp) (cast (by kernel_rfl) ht)
theorem A2x0i (Q:QT) (i3 o3 i4 o4:Nat) (h:Zaa) (ht :
 Zcy (Zbo h (.ptr (i3,o3)) 2) fun A=>Zam A fun A B=>Zco .u8 A fun A=>Zam B fun B C=>xSl B fun B D E F=>Zcq C (Zcf (Zbd h (.ptr (i4,o4)) [.int .u8 A,.slice B D E F]) fun A=>Zcy (Zbo A (.ptr (i4,o4)) 2) fun B=>Zam B fun B C=>Zco .u8 B fun B=>Zam C fun C D=>xSl C fun C E F G=>Zcq D (Q (.agg [.int .u8 B,.slice C E F G]) A))):A2x0 Q i3 o3 i4 o4 h:=
 At.mk (cast (by kernel_rfl) ht)
theorem call (a0:Pt) (x1x0:Int) (a1x1:Pt) (n1x1 c1x1:Nat) (e1x1:Bool) (h:Zaa) (Q:QT) (ht :
 Zdn (h ++ [.cells Zab [.int .u8 x1x0,.slice a1x1 n1x1 c1x1 e1x1] false]) fun A=>Zdn (A ++ [.cells Zab [.int .u8 0,.slice none 0 0 true] false]) fun B=>Zco .u8 (Zaf B (.ptr (h.length,0 + 0))) fun C=>Zad pg Zeu [.int .u8 C] B fun B C=>
 Zco .i64 B fun B=>L2 Q a0 h.length 0 A.length 0 B C):Zad pg Zgn [.ptr a0,.agg [.int .u8 x1x0,.slice a1x1 n1x1 c1x1 e1x1]] h Q:=
 Zad.of_body kp (c:=cod fn) (fn:=fn) Go.Proofs.Try.func141 (by kernel_rfl) (by kernel_rfl) (Nat.le_of_ble_eq_true (by kernel_rfl))
  (cast (by kernel_rfl) ht)
end Zff
end Go.Sim

set_option maxRecDepth 100000
set_option maxHeartbeats 0
set_option linter.unusedVariables false
namespace Go.Sim
open Go Go.RowKit
end Go.Sim

set_option maxRecDepth 100000
set_option maxHeartbeats 0
set_option linter.unusedVariables false
namespace Go.Sim
open Go Go.RowKit
namespace Zol
noncomputable abbrev fn:Func:=Go.Proofs.Try.f113
def kp:Zce:=[]
noncomputable def C (p:List Nat):Code:=(cod fn).sub p
def KR (Q:QT):KT:=Zet pg fn.results.toList Q
theorem call (x0:Int) (h:Zaa) (Q:QT) (ht :
 Zad pg Zfq [.str ([88,89,90,120,121,122,49,50,51,52,53,54]),.int .u8 x0] h fun A B=>
 Zco .i64 A fun A=>Q (.int .i64 A) B):Zad pg Zeu [.int .u8 x0] h Q:=
 Zad.of_body kp (c:=cod fn) (fn:=fn) Go.Proofs.Try.func113 (by kernel_rfl) (by kernel_rfl) (Nat.le_of_ble_eq_true (by kernel_rfl))
  (cast (by kernel_rfl) ht)
end Zol
end Go.Sim

set_option maxRecDepth 100000
set_option maxHeartbeats 0
set_option linter.unusedVariables false
namespace Go.Sim
open Go Go.RowKit
end Go.Sim

set_option maxRecDepth 100000
set_option maxHeartbeats 0
set_option linter.unusedVariables false
namespace Go.Sim
open Go Go.RowKit
end Go.Sim

set_option maxRecDepth 100000
set_option maxHeartbeats 0
set_option linter.unusedVariables false
namespace Go.Sim
open Go Go.RowKit
end Go.Sim

set_option maxRecDepth 100000
set_option maxHeartbeats 0
set_option linter.unusedVariables false
namespace Go.Sim
open Go Go.RowKit
namespace Zep
noncomputable abbrev fn:Func:=Go.Proofs.Try.f41
def kp:Zce:=[(3000003,[3]),(1000003,[0,3,4])]
noncomputable def C (p:List Nat):Code:=(cod fn).sub p
def KR (Q:QT):KT:=Zet pg fn.results.toList Q
abbrev T3:=Pt→Nat→Nat→Bool→Pt→Nat→Nat→Bool→Int→Zaa→Prop
def E3 (R3:T3) (env:Env) (h:Zaa):Prop:=Zbx 0 env fun v env=>xSl v fun a0 n0 c0 e0=>Zbx 3 env fun v env=>xSl v fun a3 n3 c3 e3=>Zbx 4 env fun v env=>Zdz .i64 v fun x4=>Ziy env (R3 a0 n0 c0 e0 a3 n3 c3 e3 x4 h)
theorem Zhp {R3:T3} {env:Env} {h:Zaa} (hi:E3 R3 env h):∃ a0,∃ n0,∃ c0,∃ e0,∃ a3,∃ n3,∃ c3,∃ e3,∃ x4,env=[(0,.slice a0 n0 c0 e0),(3,.slice a3 n3 c3 e3),(4,.int .i64 x4)]∧R3 a0 n0 c0 e0 a3 n3 c3 e3 x4 h:=by
 unfold E3 at hi
 repeat ((first | (have k:=Zae hi; clear hi; obtain ⟨_,_,e,hi⟩:=k) | (have k:=Zbt hi; clear hi; obtain ⟨_,_,_,_,e,hi⟩:=k) | (have k:=Zat hi; clear hi; obtain ⟨_,e,hi⟩:=k)); subst e)
 obtain ⟨rfl,hi⟩:=Zbj hi
 exact ⟨_,_,_,_,_,_,_,_,_,rfl,hi⟩
def K0 (Q:QT):KT:=andThen (fun env' h'=>(match kp.find 4000006 with | some ks=>Den pg fn.ntmps (C [1,1,1]) (env'.keep ks) h' (KR Q) | none=>den pg fn.ntmps kp (C [1,1,1]) env' h' (KR Q))) (KR Q)
def K1 (Q:QT):KT:=Zcg 0 (K0 Q)
def K2 (Q:QT):KT:=left kp 3 (K1 Q)
def K3 (Q:QT) (R3:T3):KT:=rnd ((kp.find 1000003).getD []) (E3 R3) (K2 Q)
def L3 (Q:QT) (a0:Pt) (n0 c0:Nat) (e0:Bool) (a3:Pt) (n3 c3:Nat) (e3:Bool) (x4:Int) (h:Zaa):Prop:=Zdt (Den pg fn.ntmps (C [1,1,0,1,0,0])) ((kp.find 1000003).getD []) (K2 Q) [(0,.slice a0 n0 c0 e0),(3,.slice a3 n3 c3 e3),(4,.int .i64 x4)] h
def Zux (Q:QT) (a3:Pt) (n3 c3:Nat) (e3:Bool) (h:Zaa):Prop:=At (K1 Q) (.exit 0) [(3,.slice a3 n3 c3 e3)] h
def L3t (Q:QT) (R3:T3) (a0:Pt) (n0 c0:Nat) (e0:Bool) (a3:Pt) (n3 c3:Nat) (e3:Bool) (x4:Int) (h:Zaa):Prop:=
 bcase (decide ((x4:Int) < (((n0:Nat):Int)))) ((0≤(x4:Int)∧(x4:Int) < (n0:Nat))∧(Zbf a0 fun A B=>Zcy (Zbo h (.ptr (A,B + (Int.toNat x4) * 3)) 3) fun A=>Zam A fun A B=>Zcb A fun A=>Zam B fun B C=>Zcb B fun B=>Zam C fun C D=>xSl C fun C E F G=>Zcq D (Zad pg Ziu [.agg [.str A,.str B,.slice C E F G]] h fun A B=>
 Zqp A fun A=>Zam A fun A C=>Zcb A fun A=>Zam C fun C D=>Zcb C fun C=>Zam D fun D E=>xSl D fun D F G H=>Zcq E ((0≤(x4:Int)∧(x4:Int) < (n3:Nat))∧(Zbf a3 fun E I=>Zcf (Zbd B (.ptr (E,I + (Int.toNat x4) * 3)) [.str A,.str C,.slice D F G H]) fun A=>R3 a0 n0 c0 e0 a3 n3 c3 e3 (IntKind.wrap .i64 (x4 + 1)) A))))) (Zux Q a3 n3 c3 e3 h)
theorem Zqo (Q:QT) (R3:T3) (a0:Pt) (n0 c0:Nat) (e0:Bool) (a3:Pt) (n3 c3:Nat) (e3:Bool) (x4:Int) (h:Zaa) (ht:L3t Q R3 a0 n0 c0 e0 a3 n3 c3 e3 x4 h):Den pg fn.ntmps (C [1,1,0,1,0,0]) [(0,.slice a0 n0 c0 e0),(3,.slice a3 n3 c3 e3),(4,.int .i64 x4)] h (K3 Q R3):=
 Zax (kp:=kp) (cast (by kernel_rfl) ht)
theorem L3ind (Q:QT) (a0:Pt) (n0 c0:Nat) (e0:Bool) (a3:Pt) (n3 c3:Nat) (e3:Bool) {G:Type} (J:G→Int→Zaa→Prop) (m:G→Nat)
 (hr:∀ (g:G) (x4:Int) (h:Zaa),J g x4 h→∀ (R3:T3),(∀ g' (x4:Int) (h:Zaa),m g' < m g→J g' x4 h→R3 a0 n0 c0 e0 a3 n3 c3 e3 x4 h)→L3t Q R3 a0 n0 c0 e0 a3 n3 c3 e3 x4 h)
 (g:G) (x4:Int) (h:Zaa) (hj:J g x4 h):L3 Q a0 n0 c0 e0 a3 n3 c3 e3 x4 h:=by
 let P:=fun (K:Int→Zaa→Prop) a0' n0' c0' e0' a3' n3' c3' e3' x4 h=>a0=a0'∧n0=n0'∧c0=c0'∧e0=e0'∧a3=a3'∧n3=n3'∧c3=c3'∧e3=e3'∧K x4 h
 refine Zdt.inv2 (fun g=>E3 (P (J g))) (fun g=>E3 (P fun x4 h=>∃ g',m g' < m g∧J g' x4 h)) m ?_ ?_ g ⟨rfl,rfl,rfl,rfl,rfl,rfl,rfl,rfl,hj⟩
 ·intro g env h hi
  obtain ⟨a0',n0',c0',e0',a3',n3',c3',e3',x4,rfl,rfl,rfl,rfl,rfl,rfl,rfl,rfl,rfl,hj⟩:=Zhp hi
  exact Zqo Q _ a0 n0 c0 e0 a3 n3 c3 e3 x4 h (hr g x4 h hj (P fun x4 h=>∃ g',m g' < m g∧J g' x4 h) fun g' x4 h hlt hj=>⟨rfl,rfl,rfl,rfl,rfl,rfl,rfl,rfl,g',hlt,hj⟩)
 ·intro g env h hi
  obtain ⟨a0',n0',c0',e0',a3',n3',c3',e3',x4,rfl,rfl,rfl,rfl,rfl,rfl,rfl,rfl,rfl,g',hlt,hj⟩:=Zhp hi
  exact ⟨g',hlt,rfl,rfl,rfl,rfl,rfl,rfl,rfl,rfl,hj⟩
theorem A3x0i (Q:QT) (a3:Pt) (n3 c3:Nat) (e3:Bool) (h:Zaa) (ht :
 Q (.slice a3 n3 c3 e3) h):Zux Q a3 n3 c3 e3 h:=
 At.mk (cast (by kernel_rfl) ht)
theorem call (a0:Pt) (n0 c0:Nat) (e0:Bool) (h:Zaa) (Q:QT) (ht :
 IntKind.i64=IntKind.i64∧(IntKind.i64=IntKind.i64∧((0≤((((n0:Nat):Int)):Int)∧((((n0:Nat):Int)):Int)≤(((n0:Nat):Int))∧((((n0:Nat):Int)):Int) * (((56:Nat):Int) + 1)≤140737488355328)∧(Zdn (h ++ [.cells Zac (reps (Int.toNat ((((n0:Nat):Int)))) [.str [],.str [],.slice none 0 0 true]) false]) fun A=>L3 Q a0 n0 c0 e0 (h.length,0) (Int.toNat ((((n0:Nat):Int)))) (Int.toNat ((((n0:Nat):Int)))) true 0 A)))):Zad pg Zht [.slice a0 n0 c0 e0] h Q:=
 Zad.of_body kp (c:=cod fn) (fn:=fn) Go.Proofs.Try.func41 (by kernel_rfl) (by kernel_rfl) (Nat.le_of_ble_eq_true (by kernel_rfl))
  (cast (by kernel_rfl) ht)
end Zep
namespace Zou
noncomputable abbrev fn:Func:=Go.Proofs.Try.f11
def kp:Zce:=[]
noncomputable def C (p:List Nat):Code:=(cod fn).sub p
def KR (Q:QT):KT:=Zet pg fn.results.toList Q
theorem call (a0x0:Pt) (n0x0 c0x0:Nat) (e0x0:Bool) (a0x1:Pt) (n0x1 c0x1:Nat) (e0x1:Bool) (h:Zaa) (Q:QT) (ht :
 Zdn (h ++ [.cells Zec [.slice a0x0 n0x0 c0x0 e0x0,.slice a0x1 n0x1 c0x1 e0x1] false]) fun A=>Zdn (A ++ [.cells Zao [.slice none 0 0 true,.slice none 0 0 true] false]) fun B=>Zdn (B ++ [.cells Zao [.slice none 0 0 true,.slice none 0 0 true] false]) fun C=>xSl (Zaf C (.ptr (h.length,0 + 0))) fun D E F G=>Zad pg Zka [.slice D E F G] C fun C D=>
 xSl C fun C E F G=>Zcf (Zbd D (.ptr (B.length,0 + 0)) [.slice C E F G]) fun C=>xSl (Zaf C (.ptr (h.length,0 + 1))) fun D E F G=>Zad pg Zht [.slice D E F G] C fun C D=>
 xSl C fun C E F G=>Zcf (Zbd D (.ptr (B.length,0 + 1)) [.slice C E F G]) fun C=>Zcy (Zbo C (.ptr (B.length,0)) 2) fun B=>Zam B fun B D=>xSl B fun B E F G=>Zam D fun D H=>xSl D fun D I J K=>Zcq H (Zcf (Zbd C (.ptr (A.length,0)) [.slice B E F G,.slice D I J K]) fun B=>Zcy (Zbo B (.ptr (A.length,0)) 2) fun A=>Zam A fun A C=>xSl A fun A D E F=>Zam C fun C G=>xSl C fun C H I J=>Zcq G (Q (.agg [.slice A D E F,.slice C H I J]) B))):Zad pg Zft [.agg [.slice a0x0 n0x0 c0x0 e0x0,.slice a0x1 n0x1 c0x1 e0x1]] h Q:=
 Zad.of_body kp (c:=cod fn) (fn:=fn) Go.Proofs.Try.func11 (by kernel_rfl) (by kernel_rfl) (Nat.le_of_ble_eq_true (by kernel_rfl))
  (cast (by kernel_rfl) ht)
end Zou
namespace Zlz
noncomputable abbrev fn:Func:=Go.Proofs.Try.f90
def kp:Zce:=[]
noncomputable def C (p:List Nat):Code:=(cod fn).sub p
def KR (Q:QT):KT:=Zet pg fn.results.toList Q
theorem call (x0x0 x0x1:List Nat) (a0x2:Pt) (n0x2 c0x2:Nat) (e0x2:Bool) (x1x0 x1x1:List Nat) (a1x2:Pt) (n1x2 c1x2:Nat) (e1x2:Bool) (h:Zaa) (Q:QT) (ht :
 Zdn (h ++ [.cells Zac [.str x0x0,.str x0x1,.slice a0x2 n0x2 c0x2 e0x2] false]) fun A=>Zdn (A ++ [.cells Zac [.str x1x0,.str x1x1,.slice a1x2 n1x2 c1x2 e1x2] false]) fun B=>Zcy (Zbo B (.ptr (h.length,0 + 0)) 2) fun C=>Zam C fun C D=>Zcb C fun C=>Zam D fun D E=>Zcb D fun D=>Zcq E (Zcy (Zbo B (.ptr (A.length,0 + 0)) 2) fun E=>Zam E fun E F=>Zcb E fun E=>Zam F fun F G=>Zcb F fun F=>Zcq G (Zad pg Zjs [.agg [.str C,.str D],.agg [.str E,.str F]] B fun B C=>
 Zbw B fun B=>bcase (!B) (Q (.bool false) C) (xSl (Zaf C (.ptr (h.length,0 + 2))) fun B D E F=>xSl (Zaf C (.ptr (A.length,0 + 2))) fun A G H I=>Zad pg Zld [.slice B D E F,.slice A G H I] C fun A B=>
 Zbw A fun A=>bcase (!A) (Q (.bool false) B) (Q (.bool true) B))))):Zad pg Zik [.agg [.str x0x0,.str x0x1,.slice a0x2 n0x2 c0x2 e0x2],.agg [.str x1x0,.str x1x1,.slice a1x2 n1x2 c1x2 e1x2]] h Q:=
 Zad.of_body kp (c:=cod fn) (fn:=fn) Go.Proofs.Try.func90 (by kernel_rfl) (by kernel_rfl) (Nat.le_of_ble_eq_true (by kernel_rfl))
  (cast (by kernel_rfl) ht)
end Zlz
namespace Zes
noncomputable abbrev fn:Func:=Go.Proofs.Try.f43
def kp:Zce:=[(3000004,[4]),(1000004,[0,1,5]),(2000006,[26,5,0,1])]
noncomputable def C (p:List Nat):Code:=(cod fn).sub p
def KR (Q:QT):KT:=Zet pg fn.results.toList Q
abbrev T4:=Pt→Nat→Nat→Bool→Pt→Nat→Nat→Bool→Int→Zaa→Prop
def E4 (R4:T4) (env:Env) (h:Zaa):Prop:=Zbx 0 env fun v env=>xSl v fun a0 n0 c0 e0=>Zbx 1 env fun v env=>xSl v fun a1 n1 c1 e1=>Zbx 5 env fun v env=>Zdz .i64 v fun x5=>Ziy env (R4 a0 n0 c0 e0 a1 n1 c1 e1 x5 h)
theorem Zfc {R4:T4} {env:Env} {h:Zaa} (hi:E4 R4 env h):∃ a0,∃ n0,∃ c0,∃ e0,∃ a1,∃ n1,∃ c1,∃ e1,∃ x5,env=[(0,.slice a0 n0 c0 e0),(1,.slice a1 n1 c1 e1),(5,.int .i64 x5)]∧R4 a0 n0 c0 e0 a1 n1 c1 e1 x5 h:=by
 unfold E4 at hi
 repeat ((first | (have k:=Zae hi; clear hi; obtain ⟨_,_,e,hi⟩:=k) | (have k:=Zbt hi; clear hi; obtain ⟨_,_,_,_,e,hi⟩:=k) | (have k:=Zat hi; clear hi; obtain ⟨_,e,hi⟩:=k)); subst e)
 obtain ⟨rfl,hi⟩:=Zbj hi
 exact ⟨_,_,_,_,_,_,_,_,_,rfl,hi⟩
def K0 (Q:QT):KT:=andThen (fun env' h'=>(match kp.find 4000008 with | some ks=>Den pg fn.ntmps (C [1,1,1]) (env'.keep ks) h' (KR Q) | none=>den pg fn.ntmps kp (C [1,1,1]) env' h' (KR Q))) (KR Q)
def K1 (Q:QT):KT:=Zcg 0 (K0 Q)
def K2 (Q:QT):KT:=left kp 4 (K1 Q)
def K3 (Q:QT) (R4:T4):KT:=rnd ((kp.find 1000004).getD []) (E4 R4) (K2 Q)
def L4 (Q:QT) (a0:Pt) (n0 c0:Nat) (e0:Bool) (a1:Pt) (n1 c1:Nat) (e1:Bool) (x5:Int) (h:Zaa):Prop:=Zdt (Den pg fn.ntmps (C [1,1,0,1,0,0])) ((kp.find 1000004).getD []) (K2 Q) [(0,.slice a0 n0 c0 e0),(1,.slice a1 n1 c1 e1),(5,.int .i64 x5)] h
def Zrs (Q:QT) (h:Zaa):Prop:=At (K1 Q) (.exit 0) [(4,.undef)] h
def L4t (Q:QT) (R4:T4) (a0:Pt) (n0 c0:Nat) (e0:Bool) (a1:Pt) (n1 c1:Nat) (e1:Bool) (x5:Int) (h:Zaa):Prop:=
 bcase (decide ((x5:Int) < (((n0:Nat):Int)))) ((0≤(x5:Int)∧(x5:Int) < (n0:Nat))∧(Zbf a0 fun A B=>(0≤(x5:Int)∧(x5:Int) < (n1:Nat))∧(Zbf a1 fun C D=>Zcy (Zbo h (.ptr (A,B + (Int.toNat x5) * 3)) 3) fun E=>Zam E fun E F=>Zcb E fun E=>Zam F fun F G=>Zcb F fun F=>Zam G fun G H=>xSl G fun G I J K=>Zcq H (Zcy (Zbo h (.ptr (C,D + (Int.toNat x5) * 3)) 3) fun C=>Zam C fun C D=>Zcb C fun C=>Zam D fun D H=>Zcb D fun D=>Zam H fun H L=>xSl H fun H M N O=>Zcq L ((Zbo h (.ptr (A,B + (Int.toNat x5) * 3)) 3=Zbo h (.ptr (A,B + (Int.toNat x5) * 3)) 3)∧Zad pg Zik [.agg [.str E,.str F,.slice G I J K],.agg [.str C,.str D,.slice H M N O]] h fun A B=>
 Zbw A fun A=>bcase (!A) (Q (.bool false) B) (R4 a0 n0 c0 e0 a1 n1 c1 e1 (IntKind.wrap .i64 (x5 + 1)) B)))))) (Zrs Q h)
theorem Zny (Q:QT) (R4:T4) (a0:Pt) (n0 c0:Nat) (e0:Bool) (a1:Pt) (n1 c1:Nat) (e1:Bool) (x5:Int) (h:Zaa) (ht:L4t Q R4 a0 n0 c0 e0 a1 n1 c1 e1 x5 h):Den pg fn.ntmps (C [1,1,0,1,0,0]) [(0,.slice a0 n0 c0 e0),(1,.slice a1 n1 c1 e1),(5,.int .i64 x5)] h (K3 Q R4):=
 Zax (kp:=kp) (cast (by kernel_rfl) ht)
theorem L4ind (Q:QT) (a0:Pt) (n0 c0:Nat) (e0:Bool) (a1:Pt) (n1 c1:Nat) (e1:Bool) {G:Type} (J:G→Int→Zaa→Prop) (m:G→Nat)
 (hr:∀ (g:G) (x5:Int) (h:Zaa),J g x5 h→∀ (R4:T4),(∀ g' (x5:Int) (h:Zaa),m g' < m g→J g' x5 h→R4 a0 n0 c0 e0 a1 n1 c1 e1 x5 h)→L4t Q R4 a0 n0 c0 e0 a1 n1 c1 e1 x5 h)
 (g:G) (x5:Int) (h:Zaa) (hj:J g x5 h):L4 Q a0 n0 c0 e0 a1 n1 c1 e1 x5 h:=by
 let P:=fun (K:Int→Zaa→Prop) a0' n0' c0' e0' a1' n1' c1' e1' x5 h=>a0=a0'∧n0=n0'∧c0=c0'∧e0=e0'∧a1=a1'∧n1=n1'∧c1=c1'∧e1=e1'∧K x5 h
 refine Zdt.inv2 (fun g=>E4 (P (J g))) (fun g=>E4 (P fun x5 h=>∃ g',m g' < m g∧J g' x5 h)) m ?_ ?_ g ⟨rfl,rfl,rfl,rfl,rfl,rfl,rfl,rfl,hj⟩
 ·intro g env h hi
  obtain ⟨a0',n0',c0',e0',a1',n1',c1',e1',x5,rfl,rfl,rfl,rfl,rfl,rfl,rfl,rfl,rfl,hj⟩:=Zfc hi
  exact Zny Q _ a0 n0 c0 e0 a1 n1 c1 e1 x5 h (hr g x5 h hj (P fun x5 h=>∃ g',m g' < m g∧J g' x5 h) fun g' x5 h hlt hj=>⟨rfl,rfl,rfl,rfl,rfl,rfl,rfl,rfl,g',hlt,hj⟩)
 ·intro g env h hi
  obtain ⟨a0',n0',c0',e0',a1',n1',c1',e1',x5,rfl,rfl,rfl,rfl,rfl,rfl,rfl,rfl,rfl,g',hlt,hj⟩:=Zfc hi
  exact ⟨g',hlt,rfl,rfl,rfl,rfl,rfl,rfl,rfl,rfl,hj⟩
theorem A4x0i (Q:QT) (h:Zaa) (ht :
 Q (.bool true) h):Zrs Q h:=
 At.mk (cast (by kernel_rfl) ht)
theorem call (a0:Pt) (n0 c0:Nat) (e0:Bool) (a1:Pt) (n1 c1:Nat) (e1:Bool) (h:Zaa) (Q:QT) (ht :
 bcase (!((((n0:Nat):Int):Int) == (((n1:Nat):Int)))) (Q (.bool false) h) (L4 Q a0 n0 c0 e0 a1 n1 c1 e1 0 h)):Zad pg Zib [.slice a0 n0 c0 e0,.slice a1 n1 c1 e1] h Q:=
 Zad.of_body kp (c:=cod fn) (fn:=fn) Go.Proofs.Try.func43 (by kernel_rfl) (by kernel_rfl) (Nat.le_of_ble_eq_true (by kernel_rfl))
  (cast (by kernel_rfl) ht)
end Zes
namespace Zom
noncomputable abbrev fn:Func:=Go.Proofs.Try.f13
def kp:Zce:=[]
noncomputable def C (p:List Nat):Code:=(cod fn).sub p
def KR (Q:QT):KT:=Zet pg fn.results.toList Q
theorem call (a0x0:Pt) (n0x0 c0x0:Nat) (e0x0:Bool) (a0x1:Pt) (n0x1 c0x1:Nat) (e0x1:Bool) (a1x0:Pt) (n1x0 c1x0:Nat) (e1x0:Bool) (a1x1:Pt) (n1x1 c1x1:Nat) (e1x1:Bool) (h:Zaa) (Q:QT) (ht :
 Zdn (h ++ [.cells Zao [.slice a0x0 n0x0 c0x0 e0x0,.slice a0x1 n0x1 c0x1 e0x1] false]) fun A=>Zdn (A ++ [.cells Zao [.slice a1x0 n1x0 c1x0 e1x0,.slice a1x1 n1x1 c1x1 e1x1] false]) fun B=>xSl (Zaf B (.ptr (h.length,0 + 0))) fun C D E F=>xSl (Zaf B (.ptr (A.length,0 + 0))) fun G H I J=>Zad pg Zkn [.slice C D E F,.slice G H I J] B fun B C=>
 Zbw B fun B=>bcase (!B) (Q (.bool false) C) (xSl (Zaf C (.ptr (h.length,0 + 1))) fun B D E F=>xSl (Zaf C (.ptr (A.length,0 + 1))) fun A G H I=>Zad pg Zib [.slice B D E F,.slice A G H I] C fun A B=>
 Zbw A fun A=>bcase (!A) (Q (.bool false) B) (Q (.bool true) B))):Zad pg Zll [.agg [.slice a0x0 n0x0 c0x0 e0x0,.slice a0x1 n0x1 c0x1 e0x1],.agg [.slice a1x0 n1x0 c1x0 e1x0,.slice a1x1 n1x1 c1x1 e1x1]] h Q:=
 Zad.of_body kp (c:=cod fn) (fn:=fn) Go.Proofs.Try.func13 (by kernel_rfl) (by kernel_rfl) (Nat.le_of_ble_eq_true (by kernel_rfl))
  (cast (by kernel_rfl) ht)
end Zom
end Go.Sim

set_option maxRecDepth 100000
set_option maxHeartbeats 0
set_option linter.unusedVariables false
namespace Go.Sim
open Go Go.RowKit
namespace Zmg
noncomputable abbrev fn:Func:=Go.Proofs.Try.f83
def kp:Zce:=[]
noncomputable def C (p:List Nat):Code:=(cod fn).sub p
def KR (Q:QT):KT:=Zet pg fn.results.toList Q
theorem call (x0x0 x0x1:List Nat) (a0x2:Pt) (n0x2 c0x2:Nat) (e0x2:Bool) (x1:Int) (h:Zaa) (Q:QT) (ht :
 Zdn (h ++ [.cells Zea [.str x0x0,.str x0x1,.slice a0x2 n0x2 c0x2 e0x2] false]) fun A=>Zcy (Zbo A (.ptr (h.length,0 + 0)) 2) fun B=>Zam B fun B C=>Zcb B fun B=>Zam C fun C D=>Zcb C fun C=>Zcq D (Zad pg Zjv [.agg [.str B,.str C],.int .i64 x1] A fun A B=>
 Zco .i64 A fun A=>bcase (decide ((A:Int) < 0)) (Q (.int .i64 (-1)) B) (xSl (Zaf B (.ptr (h.length,0 + 2))) fun C D E F=>Zad pg Zlh [.slice C D E F,.int .i64 A] B fun A B=>
 Zco .i64 A fun A=>bcase (decide ((A:Int) < 0)) (Q (.int .i64 (-1)) B) (Q (.int .i64 A) B)))):Zad pg Ziv [.agg [.str x0x0,.str x0x1,.slice a0x2 n0x2 c0x2 e0x2],.int .i64 x1] h Q:=
 Zad.of_body kp (c:=cod fn) (fn:=fn) Go.Proofs.Try.func83 (by kernel_rfl) (by kernel_rfl) (Nat.le_of_ble_eq_true (by kernel_rfl))
  (cast (by kernel_rfl) ht)
end Zmg
namespace Zer
noncomputable abbrev fn:Func:=Go.Proofs.Try.f37
def kp:Zce:=[(3000005,[1,4]),(1000005,[0,1,5])]
noncomputable def C (p:List Nat):Code:=(cod fn).sub p
def KR (Q:QT):KT:=Zet pg fn.results.toList Q
abbrev T5:=Pt→Nat→Nat→Bool→Int→Int→Zaa→Prop
def E5 (R5:T5) (env:Env) (h:Zaa):Prop:=Zbx 0 env fun v env=>xSl v fun a0 n0 c0 e0=>Zbx 1 env fun v env=>Zdz .i64 v fun x1=>Zbx 5 env fun v env=>Zdz .i64 v fun x5=>Ziy env (R5 a0 n0 c0 e0 x1 x5 h)
theorem Zhq {R5:T5} {env:Env} {h:Zaa} (hi:E5 R5 env h):∃ a0,∃ n0,∃ c0,∃ e0,∃ x1,∃ x5,env=[(0,.slice a0 n0 c0 e0),(1,.int .i64 x1),(5,.int .i64 x5)]∧R5 a0 n0 c0 e0 x1 x5 h:=by
 unfold E5 at hi
 repeat ((first | (have k:=Zae hi; clear hi; obtain ⟨_,_,e,hi⟩:=k) | (have k:=Zbt hi; clear hi; obtain ⟨_,_,_,_,e,hi⟩:=k) | (have k:=Zat hi; clear hi; obtain ⟨_,e,hi⟩:=k)); subst e)
 obtain ⟨rfl,hi⟩:=Zbj hi
 exact ⟨_,_,_,_,_,_,rfl,hi⟩
def K0 (Q:QT):KT:=andThen (fun env' h'=>(match kp.find 4000010 with | some ks=>Den pg fn.ntmps (C [1,1,1,1]) (env'.keep ks) h' (KR Q) | none=>den pg fn.ntmps kp (C [1,1,1,1]) env' h' (KR Q))) (KR Q)
def K1 (Q:QT):KT:=Zcg 0 (K0 Q)
def K2 (Q:QT):KT:=left kp 5 (K1 Q)
def K3 (Q:QT) (R5:T5):KT:=rnd ((kp.find 1000005).getD []) (E5 R5) (K2 Q)
def L5 (Q:QT) (a0:Pt) (n0 c0:Nat) (e0:Bool) (x1 x5:Int) (h:Zaa):Prop:=Zdt (Den pg fn.ntmps (C [1,1,1,0,1,0,0])) ((kp.find 1000005).getD []) (K2 Q) [(0,.slice a0 n0 c0 e0),(1,.int .i64 x1),(5,.int .i64 x5)] h
def A5x0 (Q:QT) (x1:Int) (h:Zaa):Prop:=At (K1 Q) (.exit 0) [(1,.int .i64 x1),(4,.undef)] h
def L5t (Q:QT) (R5:T5) (a0:Pt) (n0 c0:Nat) (e0:Bool) (x1 x5:Int) (h:Zaa):Prop:=
 bcase (decide ((x5:Int) < (((n0:Nat):Int)))) ((0≤(x5:Int)∧(x5:Int) < (n0:Nat))∧(Zbf a0 fun A B=>Zcy (Zbo h (.ptr (A,B + (Int.toNat x5) * 3)) 3) fun A=>Zam A fun A B=>Zcb A fun A=>Zam B fun B C=>Zcb B fun B=>Zam C fun C D=>xSl C fun C E F G=>Zcq D (Zad pg Ziv [.agg [.str A,.str B,.slice C E F G],.int .i64 x1] h fun A B=>
 Zco .i64 A fun A=>bcase (decide ((A:Int) < 0)) (Q (.int .i64 (-1)) B) (R5 a0 n0 c0 e0 A (IntKind.wrap .i64 (x5 + 1)) B)))) (A5x0 Q x1 h)
theorem Zqx (Q:QT) (R5:T5) (a0:Pt) (n0 c0:Nat) (e0:Bool) (x1 x5:Int) (h:Zaa) (ht:L5t Q R5 a0 n0 c0 e0 x1 x5 h):Den pg fn.ntmps (C [1,1,1,0,1,0,0]) [(0,.slice a0 n0 c0 e0),(1,.int .i64 x1),(5,.int .i64 x5)] h (K3 Q R5):=
 Zax (kp:=kp) (cast (by kernel_rfl) ht)
theorem L5ind (Q:QT) (a0:Pt) (n0 c0:Nat) (e0:Bool) {G:Type} (J:G→Int→Int→Zaa→Prop) (m:G→Nat)
 (hr:∀ (g:G) (x1 x5:Int) (h:Zaa),J g x1 x5 h→∀ (R5:T5),(∀ g' (x1 x5:Int) (h:Zaa),m g' < m g→J g' x1 x5 h→R5 a0 n0 c0 e0 x1 x5 h)→L5t Q R5 a0 n0 c0 e0 x1 x5 h)
 (g:G) (x1 x5:Int) (h:Zaa) (hj:J g x1 x5 h):L5 Q a0 n0 c0 e0 x1 x5 h:=by
 let P:=fun (K:Int→Int→Zaa→Prop) a0' n0' c0' e0' x1 x5 h=>a0=a0'∧n0=n0'∧c0=c0'∧e0=e0'∧K x1 x5 h
 refine Zdt.inv2 (fun g=>E5 (P (J g))) (fun g=>E5 (P fun x1 x5 h=>∃ g',m g' < m g∧J g' x1 x5 h)) m ?_ ?_ g ⟨rfl,rfl,rfl,rfl,hj⟩
 ·intro g env h hi
  obtain ⟨a0',n0',c0',e0',x1,x5,rfl,rfl,rfl,rfl,rfl,hj⟩:=Zhq hi
  exact Zqx Q _ a0 n0 c0 e0 x1 x5 h (hr g x1 x5 h hj (P fun x1 x5 h=>∃ g',m g' < m g∧J g' x1 x5 h) fun g' x1 x5 h hlt hj=>⟨rfl,rfl,rfl,rfl,g',hlt,hj⟩)
 ·intro g env h hi
  obtain ⟨a0',n0',c0',e0',x1,x5,rfl,rfl,rfl,rfl,rfl,g',hlt,hj⟩:=Zhq hi
  exact ⟨g',hlt,rfl,rfl,rfl,rfl,hj⟩
theorem A5x0i (Q:QT) (x1:Int) (h:Zaa) (ht :
 Q (.int .i64 x1) h):A5x0 Q x1 h:=
 At.mk (cast (by kernel_rfl) ht)
theorem call (a0:Pt) (n0 c0:Nat) (e0:Bool) (x1:Int) (h:Zaa) (Q:QT) (ht :
 bcase (decide (((IntKind.wrap .i64 (x1 - (((n0:Nat):Int)))):Int) < 0)) (Q (.int .i64 (-1)) h) (L5 Q a0 n0 c0 e0 (IntKind.wrap .i64 (x1 - (((n0:Nat):Int)))) 0 h)):Zad pg Zhz [.slice a0 n0 c0 e0,.int .i64 x1] h Q:=
 Zad.of_body kp (c:=cod fn) (fn:=fn) Go.Proofs.Try.func37 (by kernel_rfl) (by kernel_rfl) (Nat.le_of_ble_eq_true (by kernel_rfl))
  (cast (by kernel_rfl) ht)
end Zer
namespace Zov
noncomputable abbrev fn:Func:=Go.Proofs.Try.f9
def kp:Zce:=[]
noncomputable def C (p:List Nat):Code:=(cod fn).sub p
def KR (Q:QT):KT:=Zet pg fn.results.toList Q
theorem call (a0x0:Pt) (n0x0 c0x0:Nat) (e0x0:Bool) (a0x1:Pt) (n0x1 c0x1:Nat) (e0x1:Bool) (x1:Int) (h:Zaa) (Q:QT) (ht :
 Zdn (h ++ [.cells Zec [.slice a0x0 n0x0 c0x0 e0x0,.slice a0x1 n0x1 c0x1 e0x1] false]) fun A=>xSl (Zaf A (.ptr (h.length,0 + 0))) fun B C D E=>Zad pg Zkd [.slice B C D E,.int .i64 x1] A fun A B=>
 Zco .i64 A fun A=>bcase (decide ((A:Int) < 0)) (Q (.int .i64 (-1)) B) (xSl (Zaf B (.ptr (h.length,0 + 1))) fun C D E F=>Zad pg Zhz [.slice C D E F,.int .i64 A] B fun A B=>
 Zco .i64 A fun A=>bcase (decide ((A:Int) < 0)) (Q (.int .i64 (-1)) B) (Q (.int .i64 A) B))):Zad pg Zla [.agg [.slice a0x0 n0x0 c0x0 e0x0,.slice a0x1 n0x1 c0x1 e0x1],.int .i64 x1] h Q:=
 Zad.of_body kp (c:=cod fn) (fn:=fn) Go.Proofs.Try.func9 (by kernel_rfl) (by kernel_rfl) (Nat.le_of_ble_eq_true (by kernel_rfl))
  (cast (by kernel_rfl) ht)
end Zov
namespace Zmb
noncomputable abbrev fn:Func:=Go.Proofs.Try.f88
def kp:Zce:=[]
noncomputable def C (p:List Nat):Code:=(cod fn).sub p
def KR (Q:QT):KT:=Zet pg fn.results.toList Q
theorem call (x0x0 x0x1:List Nat) (a0x2:Pt) (n0x2 c0x2:Nat) (e0x2:Bool) (h:Zaa) (Q:QT) (ht :
 Zdn (h ++ [.cells Zea [.str x0x0,.str x0x1,.slice a0x2 n0x2 c0x2 e0x2] false]) fun A=>Zdn (A ++ [.cells Zac [.str [],.str [],.slice none 0 0 true] false]) fun B=>Zdn (B ++ [.cells Zac [.str [],.str [],.slice none 0 0 true] false]) fun C=>Zcy (Zbo C (.ptr (h.length,0 + 0)) 2) fun D=>Zam D fun D E=>Zcb D fun D=>Zam E fun E F=>Zcb E fun E=>Zcq F (Zad pg Zjr [.agg [.str D,.str E]] C fun C D=>
 Zqp C fun C=>Zam C fun C E=>Zcb C fun C=>Zam E fun E F=>Zcb E fun E=>Zcq F (Zcf (Zbd D (.ptr (B.length,0 + 0)) [.str C,.str E]) fun C=>xSl (Zaf C (.ptr (h.length,0 + 2))) fun D E F G=>Zad pg Zlm [.slice D E F G] C fun C D=>
 xSl C fun C E F G=>Zcf (Zbd D (.ptr (B.length,0 + 2)) [.slice C E F G]) fun C=>Zcy (Zbo C (.ptr (B.length,0)) 3) fun B=>Zam B fun B D=>Zcb B fun B=>Zam D fun D E=>Zcb D fun D=>Zam E fun E F=>xSl E fun E G H I=>Zcq F (Zcf (Zbd C (.ptr (A.length,0)) [.str B,.str D,.slice E G H I]) fun B=>Zcy (Zbo B (.ptr (A.length,0)) 3) fun A=>Zam A fun A C=>Zcb A fun A=>Zam C fun C D=>Zcb C fun C=>Zam D fun D E=>xSl D fun D F G H=>Zcq E (Q (.agg [.str A,.str C,.slice D F G H]) B))))):Zad pg Ziu [.agg [.str x0x0,.str x0x1,.slice a0x2 n0x2 c0x2 e0x2]] h Q:=
 Zad.of_body kp (c:=cod fn) (fn:=fn) Go.Proofs.Try.func88 (by kernel_rfl) (by kernel_rfl) (Nat.le_of_ble_eq_true (by kernel_rfl))
  (cast (by kernel_rfl) ht)
end Zmb
end Go.Sim

set_option maxRecDepth 100000
set_option maxHeartbeats 0
set_option linter.unusedVariables false
namespace Go.Sim
open Go Go.RowKit
namespace Zoz
noncomputable abbrev fn:Func:=Go.Proofs.Try.f82
def kp:Zce:=[]
noncomputable def C (p:List Nat):Code:=(cod fn).sub p
def KR (Q:QT):KT:=Zet pg fn.results.toList Q
theorem call (x0x0 x0x1:List Nat) (x1:Int) (h:Zaa) (Q:QT) (ht :
 Zdn (h ++ [.cells Znr [.str x0x0,.str x0x1] false]) fun A=>Zcb (Zaf A (.ptr (h.length,0 + 0))) fun B=>bcase (decide (((IntKind.wrap .i64 (x1 - (((List.length B:Nat):Int)))):Int) < 0)) (Q (.int .i64 (-1)) A) (Zcb (Zaf A (.ptr (h.length,0 + 1))) fun C=>bcase (decide (((IntKind.wrap .i64 ((IntKind.wrap .i64 (x1 - (((List.length B:Nat):Int)))) - (((List.length C:Nat):Int)))):Int) < 0)) (Q (.int .i64 (-1)) A) (Q (.int .i64 (IntKind.wrap .i64 ((IntKind.wrap .i64 (x1 - (((List.length B:Nat):Int)))) - (((List.length C:Nat):Int))))) A))):Zad pg Zlf [.agg [.str x0x0,.str x0x1],.int .i64 x1] h Q:=
 Zad.of_body kp (c:=cod fn) (fn:=fn) Go.Proofs.Try.func82 (by kernel_rfl) (by kernel_rfl) (Nat.le_of_ble_eq_true (by kernel_rfl))
  (cast (by kernel_rfl) ht)
end Zoz
namespace Zow
noncomputable abbrev fn:Func:=Go.Proofs.Try.f89
def kp:Zce:=[]
noncomputable def C (p:List Nat):Code:=(cod fn).sub p
def KR (Q:QT):KT:=Zet pg fn.results.toList Q
theorem call (x0x0 x0x1 x1x0 x1x1:List Nat) (h:Zaa) (Q:QT) (ht :
 Zdn (h ++ [.cells Zbh [.str x0x0,.str x0x1] false]) fun A=>Zdn (A ++ [.cells Zbh [.str x1x0,.str x1x1] false]) fun B=>Zcb (Zaf B (.ptr (h.length,0 + 0))) fun C=>Zcb (Zaf B (.ptr (A.length,0 + 0))) fun D=>bcase (!(decide (C=D))) (Q (.bool false) B) (Zcb (Zaf B (.ptr (h.length,0 + 1))) fun C=>Zcb (Zaf B (.ptr (A.length,0 + 1))) fun A=>bcase (!(decide (C=A))) (Q (.bool false) B) (Q (.bool true) B))):Zad pg Zlg [.agg [.str x0x0,.str x0x1],.agg [.str x1x0,.str x1x1]] h Q:=
 Zad.of_body kp (c:=cod fn) (fn:=fn) Go.Proofs.Try.func89 (by kernel_rfl) (by kernel_rfl) (Nat.le_of_ble_eq_true (by kernel_rfl))
  (cast (by kernel_rfl) ht)
end Zow
namespace Zpa
noncomputable abbrev fn:Func:=Go.Proofs.Try.f87
def kp:Zce:=[]
noncomputable def C (p:List Nat):Code:=(cod fn).sub p
def KR (Q:QT):KT:=Zet pg fn.results.toList Q
theorem call (x0x0 x0x1:List Nat) (h:Zaa) (Q:QT) (ht :
 Zdn (h ++ [.cells Znr [.str x0x0,.str x0x1] false]) fun A=>Zdn (A ++ [.cells Zbh [.str [],.str []] false]) fun B=>Zdn (B ++ [.cells Zbh [.str [],.str []] false]) fun C=>Zcb (Zaf C (.ptr (h.length,0 + 0))) fun D=>Zcf (Zbd C (.ptr (B.length,0 + 0)) [.str D]) fun C=>Zcb (Zaf C (.ptr (h.length,0 + 1))) fun D=>Zcf (Zbd C (.ptr (B.length,0 + 1)) [.str D]) fun C=>Zcy (Zbo C (.ptr (B.length,0)) 2) fun B=>Zam B fun B D=>Zcb B fun B=>Zam D fun D E=>Zcb D fun D=>Zcq E (Zcf (Zbd C (.ptr (A.length,0)) [.str B,.str D]) fun B=>Zcy (Zbo B (.ptr (A.length,0)) 2) fun A=>Zam A fun A C=>Zcb A fun A=>Zam C fun C D=>Zcb C fun C=>Zcq D (Q (.agg [.str A,.str C]) B))):Zad pg Zle [.agg [.str x0x0,.str x0x1]] h Q:=
 Zad.of_body kp (c:=cod fn) (fn:=fn) Go.Proofs.Try.func87 (by kernel_rfl) (by kernel_rfl) (Nat.le_of_ble_eq_true (by kernel_rfl))
  (cast (by kernel_rfl) ht)
end Zpa
namespace Zfz
noncomputable abbrev fn:Func:=Go.Proofs.Try.f36
def kp:Zce:=[(3000005,[1,4]),(1000005,[0,1,5])]
noncomputable def C (p:List Nat):Code:=(cod fn).sub p
def KR (Q:QT):KT:=Zet pg fn.results.toList Q
abbrev T5:=Pt→Nat→Nat→Bool→Int→Int→Zaa→Prop
def E5 (R5:T5) (env:Env) (h:Zaa):Prop:=Zbx 0 env fun v env=>xSl v fun a0 n0 c0 e0=>Zbx 1 env fun v env=>Zdz .i64 v fun x1=>Zbx 5 env fun v env=>Zdz .i64 v fun x5=>Ziy env (R5 a0 n0 c0 e0 x1 x5 h)
theorem Zhq {R5:T5} {env:Env} {h:Zaa} (hi:E5 R5 env h):∃ a0,∃ n0,∃ c0,∃ e0,∃ x1,∃ x5,env=[(0,.slice a0 n0 c0 e0),(1,.int .i64 x1),(5,.int .i64 x5)]∧R5 a0 n0 c0 e0 x1 x5 h:=by
 unfold E5 at hi
 repeat ((first | (have k:=Zae hi; clear hi; obtain ⟨_,_,e,hi⟩:=k) | (have k:=Zbt hi; clear hi; obtain ⟨_,_,_,_,e,hi⟩:=k) | (have k:=Zat hi; clear hi; obtain ⟨_,e,hi⟩:=k)); subst e)
 obtain ⟨rfl,hi⟩:=Zbj hi
 exact ⟨_,_,_,_,_,_,rfl,hi⟩
def K0 (Q:QT):KT:=andThen (fun env' h'=>(match kp.find 4000010 with | some ks=>Den pg fn.ntmps (C [1,1,1,1]) (env'.keep ks) h' (KR Q) | none=>den pg fn.ntmps kp (C [1,1,1,1]) env' h' (KR Q))) (KR Q)
def K1 (Q:QT):KT:=Zcg 0 (K0 Q)
def K2 (Q:QT):KT:=left kp 5 (K1 Q)
def K3 (Q:QT) (R5:T5):KT:=rnd ((kp.find 1000005).getD []) (E5 R5) (K2 Q)
def L5 (Q:QT) (a0:Pt) (n0 c0:Nat) (e0:Bool) (x1 x5:Int) (h:Zaa):Prop:=Zdt (Den pg fn.ntmps (C [1,1,1,0,1,0,0])) ((kp.find 1000005).getD []) (K2 Q) [(0,.slice a0 n0 c0 e0),(1,.int .i64 x1),(5,.int .i64 x5)] h
def A5x0 (Q:QT) (x1:Int) (h:Zaa):Prop:=At (K1 Q) (.exit 0) [(1,.int .i64 x1),(4,.undef)] h
def L5t (Q:QT) (R5:T5) (a0:Pt) (n0 c0:Nat) (e0:Bool) (x1 x5:Int) (h:Zaa):Prop:=
 bcase (decide ((x5:Int) < (((n0:Nat):Int)))) ((0≤(x5:Int)∧(x5:Int) < (n0:Nat))∧(Zbf a0 fun A B=>Zcy (Zbo h (.ptr (A,B + (Int.toNat x5) * 2)) 2) fun A=>Zam A fun A B=>Zcb A fun A=>Zam B fun B C=>Zcb B fun B=>Zcq C (Zad pg Zlf [.agg [.str A,.str B],.int .i64 x1] h fun A B=>
 Zco .i64 A fun A=>bcase (decide ((A:Int) < 0)) (Q (.int .i64 (-1)) B) (R5 a0 n0 c0 e0 A (IntKind.wrap .i64 (x5 + 1)) B)))) (A5x0 Q x1 h)
theorem Zqx (Q:QT) (R5:T5) (a0:Pt) (n0 c0:Nat) (e0:Bool) (x1 x5:Int) (h:Zaa) (ht:L5t Q R5 a0 n0 c0 e0 x1 x5 h):Den pg fn.ntmps (C [1,1,1,0,1,0,0]) [(0,.slice a0 n0 c0 e0),(1,.int .i64 x1),(5,.int .i64 x5)] h (K3 Q R5):=
 Zax (kp:=kp) (cast (by kernel_rfl) ht)
theorem L5ind (Q:QT) (a0:Pt) (n0 c0:Nat) (e0:Bool) {G:Type} (J:G→Int→Int→Zaa→Prop) (m:G→Nat)
 (hr:∀ (g:G) (x1 x5:Int) (h:Zaa),J g x1 x5 h→∀ (R5:T5),(∀ g' (x1 x5:Int) (h:Zaa),m g' < m g→J g' x1 x5 h→R5 a0 n0 c0 e0 x1 x5 h)→L5t Q R5 a0 n0 c0 e0 x1 x5 h)
 (g:G) (x1 x5:Int) (h:Zaa) (hj:J g x1 x5 h):L5 Q a0 n0 c0 e0 x1 x5 h:=by
 let P:=fun (K:Int→Int→Zaa→Prop) a0' n0' c0' e0' x1 x5 h=>a0=a0'∧n0=n0'∧c0=c0'∧e0=e0'∧K x1 x5 h
 refine Zdt.inv2 (fun g=>E5 (P (J g))) (fun g=>E5 (P fun x1 x5 h=>∃ g',m g' < m g∧J g' x1 x5 h)) m ?_ ?_ g ⟨rfl,rfl,rfl,rfl,hj⟩
 ·intro g env h hi
  obtain ⟨a0',n0',c0',e0',x1,x5,rfl,rfl,rfl,rfl,rfl,hj⟩:=Zhq hi
  exact Zqx Q _ a0 n0 c0 e0 x1 x5 h (hr g x1 x5 h hj (P fun x1 x5 h=>∃ g',m g' < m g∧J g' x1 x5 h) fun g' x1 x5 h hlt hj=>⟨rfl,rfl,rfl,rfl,g',hlt,hj⟩)
 ·intro g env h hi
  obtain ⟨a0',n0',c0',e0',x1,x5,rfl,rfl,rfl,rfl,rfl,g',hlt,hj⟩:=Zhq hi
  exact ⟨g',hlt,rfl,rfl,rfl,rfl,hj⟩
theorem A5x0i (Q:QT) (x1:Int) (h:Zaa) (ht :
 Q (.int .i64 x1) h):A5x0 Q x1 h:=
 At.mk (cast (by kernel_rfl) ht)
theorem call (a0:Pt) (n0 c0:Nat) (e0:Bool) (x1:Int) (h:Zaa) (Q:QT) (ht :
 bcase (decide (((IntKind.wrap .i64 (x1 - (((n0:Nat):Int)))):Int) < 0)) (Q (.int .i64 (-1)) h) (L5 Q a0 n0 c0 e0 (IntKind.wrap .i64 (x1 - (((n0:Nat):Int)))) 0 h)):Zad pg Zkd [.slice a0 n0 c0 e0,.int .i64 x1] h Q:=
 Zad.of_body kp (c:=cod fn) (fn:=fn) Go.Proofs.Try.func36 (by kernel_rfl) (by kernel_rfl) (Nat.le_of_ble_eq_true (by kernel_rfl))
  (cast (by kernel_rfl) ht)
end Zfz
namespace Zgf
noncomputable abbrev fn:Func:=Go.Proofs.Try.f40
def kp:Zce:=[(3000003,[3]),(1000003,[0,3,4])]
noncomputable def C (p:List Nat):Code:=(cod fn).sub p
def KR (Q:QT):KT:=Zet pg fn.results.toList Q
abbrev T3:=Pt→Nat→Nat→Bool→Pt→Nat→Nat→Bool→Int→Zaa→Prop
def E3 (R3:T3) (env:Env) (h:Zaa):Prop:=Zbx 0 env fun v env=>xSl v fun a0 n0 c0 e0=>Zbx 3 env fun v env=>xSl v fun a3 n3 c3 e3=>Zbx 4 env fun v env=>Zdz .i64 v fun x4=>Ziy env (R3 a0 n0 c0 e0 a3 n3 c3 e3 x4 h)
theorem Zhp {R3:T3} {env:Env} {h:Zaa} (hi:E3 R3 env h):∃ a0,∃ n0,∃ c0,∃ e0,∃ a3,∃ n3,∃ c3,∃ e3,∃ x4,env=[(0,.slice a0 n0 c0 e0),(3,.slice a3 n3 c3 e3),(4,.int .i64 x4)]∧R3 a0 n0 c0 e0 a3 n3 c3 e3 x4 h:=by
 unfold E3 at hi
 repeat ((first | (have k:=Zae hi; clear hi; obtain ⟨_,_,e,hi⟩:=k) | (have k:=Zbt hi; clear hi; obtain ⟨_,_,_,_,e,hi⟩:=k) | (have k:=Zat hi; clear hi; obtain ⟨_,e,hi⟩:=k)); subst e)
 obtain ⟨rfl,hi⟩:=Zbj hi
 exact ⟨_,_,_,_,_,_,_,_,_,rfl,hi⟩
def K0 (Q:QT):KT:=andThen (fun env' h'=>(match kp.find 4000006 with | some ks=>Den pg fn.ntmps (C [1,1,1]) (env'.keep ks) h' (KR Q) | none=>den pg fn.ntmps kp (C [1,1,1]) env' h' (KR Q))) (KR Q)
def K1 (Q:QT):KT:=Zcg 0 (K0 Q)
def K2 (Q:QT):KT:=left kp 3 (K1 Q)
def K3 (Q:QT) (R3:T3):KT:=rnd ((kp.find 1000003).getD []) (E3 R3) (K2 Q)
def L3 (Q:QT) (a0:Pt) (n0 c0:Nat) (e0:Bool) (a3:Pt) (n3 c3:Nat) (e3:Bool) (x4:Int) (h:Zaa):Prop:=Zdt (Den pg fn.ntmps (C [1,1,0,1,0,0])) ((kp.find 1000003).getD []) (K2 Q) [(0,.slice a0 n0 c0 e0),(3,.slice a3 n3 c3 e3),(4,.int .i64 x4)] h
def Zux (Q:QT) (a3:Pt) (n3 c3:Nat) (e3:Bool) (h:Zaa):Prop:=At (K1 Q) (.exit 0) [(3,.slice a3 n3 c3 e3)] h
def L3t (Q:QT) (R3:T3) (a0:Pt) (n0 c0:Nat) (e0:Bool) (a3:Pt) (n3 c3:Nat) (e3:Bool) (x4:Int) (h:Zaa):Prop:=
 bcase (decide ((x4:Int) < (((n0:Nat):Int)))) ((0≤(x4:Int)∧(x4:Int) < (n0:Nat))∧(Zbf a0 fun A B=>Zcy (Zbo h (.ptr (A,B + (Int.toNat x4) * 2)) 2) fun A=>Zam A fun A B=>Zcb A fun A=>Zam B fun B C=>Zcb B fun B=>Zcq C (Zad pg Zle [.agg [.str A,.str B]] h fun A B=>
 Zqp A fun A=>Zam A fun A C=>Zcb A fun A=>Zam C fun C D=>Zcb C fun C=>Zcq D ((0≤(x4:Int)∧(x4:Int) < (n3:Nat))∧(Zbf a3 fun D E=>Zcf (Zbd B (.ptr (D,E + (Int.toNat x4) * 2)) [.str A,.str C]) fun A=>R3 a0 n0 c0 e0 a3 n3 c3 e3 (IntKind.wrap .i64 (x4 + 1)) A))))) (Zux Q a3 n3 c3 e3 h)
theorem Zqo (Q:QT) (R3:T3) (a0:Pt) (n0 c0:Nat) (e0:Bool) (a3:Pt) (n3 c3:Nat) (e3:Bool) (x4:Int) (h:Zaa) (ht:L3t Q R3 a0 n0 c0 e0 a3 n3 c3 e3 x4 h):Den pg fn.ntmps (C [1,1,0,1,0,0]) [(0,.slice a0 n0 c0 e0),(3,.slice a3 n3 c3 e3),(4,.int .i64 x4)] h (K3 Q R3):=
 Zax (kp:=kp) (cast (by kernel_rfl) ht)
theorem L3ind (Q:QT) (a0:Pt) (n0 c0:Nat) (e0:Bool) (a3:Pt) (n3 c3:Nat) (e3:Bool) {G:Type} (J:G→Int→Zaa→Prop) (m:G→Nat)
 (hr:∀ (g:G) (x4:Int) (h:Zaa),J g x4 h→∀ (R3:T3),(∀ g' (x4:Int) (h:Zaa),m g' < m g→J g' x4 h→R3 a0 n0 c0 e0 a3 n3 c3 e3 x4 h)→L3t Q R3 a0 n0 c0 e0 a3 n3 c3 e3 x4 h)
 (g:G) (x4:Int) (h:Zaa) (hj:J g x4 h):L3 Q a0 n0 c0 e0 a3 n3 c3 e3 x4 h:=by
 let P:=fun (K:Int→Zaa→Prop) a0' n0' c0' e0' a3' n3' c3' e3' x4 h=>a0=a0'∧n0=n0'∧c0=c0'∧e0=e0'∧a3=a3'∧n3=n3'∧c3=c3'∧e3=e3'∧K x4 h
 refine Zdt.inv2 (fun g=>E3 (P (J g))) (fun g=>E3 (P fun x4 h=>∃ g',m g' < m g∧J g' x4 h)) m ?_ ?_ g ⟨rfl,rfl,rfl,rfl,rfl,rfl,rfl,rfl,hj⟩
 ·intro g env h hi
  obtain ⟨a0',n0',c0',e0',a3',n3',c3',e3',x4,rfl,rfl,rfl,rfl,rfl,rfl,rfl,rfl,rfl,hj⟩:=Zhp hi
  exact Zqo Q _ a0 n0 c0 e0 a3 n3 c3 e3 x4 h (hr g x4 h hj (P fun x4 h=>∃ g',m g' < m g∧J g' x4 h) fun g' x4 h hlt hj=>⟨rfl,rfl,rfl,rfl,rfl,rfl,rfl,rfl,g',hlt,hj⟩)
 ·intro g env h hi
  obtain ⟨a0',n0',c0',e0',a3',n3',c3',e3',x4,rfl,rfl,rfl,rfl,rfl,rfl,rfl,rfl,rfl,g',hlt,hj⟩:=Zhp hi
  exact ⟨g',hlt,rfl,rfl,rfl,rfl,rfl,rfl,rfl,rfl,hj⟩
theorem A3x0i (Q:QT) (a3:Pt) (n3 c3:Nat) (e3:Bool) (h:Zaa) (ht :
 Q (.slice a3 n3 c3 e3) h):Zux Q a3 n3 c3 e3 h:=
 At.mk (cast (by kernel_rfl) ht)
theorem call (a0:Pt) (n0 c0:Nat) (e0:Bool) (h:Zaa) (Q:QT) (ht :
 IntKind.i64=IntKind.i64∧(IntKind.i64=IntKind.i64∧((0≤((((n0:Nat):Int)):Int)∧((((n0:Nat):Int)):Int)≤(((n0:Nat):Int))∧((((n0:Nat):Int)):Int) * (((32:Nat):Int) + 1)≤140737488355328)∧(Zdn (h ++ [.cells Zbh (reps (Int.toNat ((((n0:Nat):Int)))) [.str [],.str []]) false]) fun A=>L3 Q a0 n0 c0 e0 (h.length,0) (Int.toNat ((((n0:Nat):Int)))) (Int.toNat ((((n0:Nat):Int)))) true 0 A)))):Zad pg Zka [.slice a0 n0 c0 e0] h Q:=
 Zad.of_body kp (c:=cod fn) (fn:=fn) Go.Proofs.Try.func40 (by kernel_rfl) (by kernel_rfl) (Nat.le_of_ble_eq_true (by kernel_rfl))
  (cast (by kernel_rfl) ht)
end Zgf
namespace Zgb
noncomputable abbrev fn:Func:=Go.Proofs.Try.f42
def kp:Zce:=[(3000004,[4]),(1000004,[0,1,5]),(2000006,[26,5,0,1])]
noncomputable def C (p:List Nat):Code:=(cod fn).sub p
def KR (Q:QT):KT:=Zet pg fn.results.toList Q
abbrev T4:=Pt→Nat→Nat→Bool→Pt→Nat→Nat→Bool→Int→Zaa→Prop
def E4 (R4:T4) (env:Env) (h:Zaa):Prop:=Zbx 0 env fun v env=>xSl v fun a0 n0 c0 e0=>Zbx 1 env fun v env=>xSl v fun a1 n1 c1 e1=>Zbx 5 env fun v env=>Zdz .i64 v fun x5=>Ziy env (R4 a0 n0 c0 e0 a1 n1 c1 e1 x5 h)
theorem Zfc {R4:T4} {env:Env} {h:Zaa} (hi:E4 R4 env h):∃ a0,∃ n0,∃ c0,∃ e0,∃ a1,∃ n1,∃ c1,∃ e1,∃ x5,env=[(0,.slice a0 n0 c0 e0),(1,.slice a1 n1 c1 e1),(5,.int .i64 x5)]∧R4 a0 n0 c0 e0 a1 n1 c1 e1 x5 h:=by
 unfold E4 at hi
 repeat ((first | (have k:=Zae hi; clear hi; obtain ⟨_,_,e,hi⟩:=k) | (have k:=Zbt hi; clear hi; obtain ⟨_,_,_,_,e,hi⟩:=k) | (have k:=Zat hi; clear hi; obtain ⟨_,e,hi⟩:=k)); subst e)
 obtain ⟨rfl,hi⟩:=Zbj hi
 exact ⟨_,_,_,_,_,_,_,_,_,rfl,hi⟩
def K0 (Q:QT):KT:=andThen (fun env' h'=>(match kp.find 4000008 with | some ks=>Den pg fn.ntmps (C [1,1,1]) (env'.keep ks) h' (KR Q) | none=>den pg fn.ntmps kp (C [1,1,1]) env' h' (KR Q))) (KR Q)
def K1 (Q:QT):KT:=Zcg 0 (K0 Q)
def K2 (Q:QT):KT:=left kp 4 (K1 Q)
def K3 (Q:QT) (R4:T4):KT:=rnd ((kp.find 1000004).getD []) (E4 R4) (K2 Q)
def L4 (Q:QT) (a0:Pt) (n0 c0:Nat) (e0:Bool) (a1:Pt) (n1 c1:Nat) (e1:Bool) (x5:Int) (h:Zaa):Prop:=Zdt (Den pg fn.ntmps (C [1,1,0,1,0,0])) ((kp.find 1000004).getD []) (K2 Q) [(0,.slice a0 n0 c0 e0),(1,.slice a1 n1 c1 e1),(5,.int .i64 x5)] h
def Zrs (Q:QT) (h:Zaa):Prop:=At (K1 Q) (.exit 0) [(4,.undef)] h
def L4t (Q:QT) (R4:T4) (a0:Pt) (n0 c0:Nat) (e0:Bool) (a1:Pt) (n1 c1:Nat) (e1:Bool) (x5:Int) (h:Zaa):Prop:=
 bcase (decide ((x5:Int) < (((n0:Nat):Int)))) ((0≤(x5:Int)∧(x5:Int) < (n0:Nat))∧(Zbf a0 fun A B=>(0≤(x5:Int)∧(x5:Int) < (n1:Nat))∧(Zbf a1 fun C D=>Zcy (Zbo h (.ptr (A,B + (Int.toNat x5) * 2)) 2) fun E=>Zam E fun E F=>Zcb E fun E=>Zam F fun F G=>Zcb F fun F=>Zcq G (Zcy (Zbo h (.ptr (C,D + (Int.toNat x5) * 2)) 2) fun C=>Zam C fun C D=>Zcb C fun C=>Zam D fun D G=>Zcb D fun D=>Zcq G ((Zbo h (.ptr (A,B + (Int.toNat x5) * 2)) 2=Zbo h (.ptr (A,B + (Int.toNat x5) * 2)) 2)∧Zad pg Zlg [.agg [.str E,.str F],.agg [.str C,.str D]] h fun A B=>
 Zbw A fun A=>bcase (!A) (Q (.bool false) B) (R4 a0 n0 c0 e0 a1 n1 c1 e1 (IntKind.wrap .i64 (x5 + 1)) B)))))) (Zrs Q h)
theorem Zny (Q:QT) (R4:T4) (a0:Pt) (n0 c0:Nat) (e0:Bool) (a1:Pt) (n1 c1:Nat) (e1:Bool) (x5:Int) (h:Zaa) (ht:L4t Q R4 a0 n0 c0 e0 a1 n1 c1 e1 x5 h):Den pg fn.ntmps (C [1,1,0,1,0,0]) [(0,.slice a0 n0 c0 e0),(1,.slice a1 n1 c1 e1),(5,.int .i64 x5)] h (K3 Q R4):=
 Zax (kp:=kp) (cast (by kernel_rfl) ht)
theorem L4ind (Q:QT) (a0:Pt) (n0 c0:Nat) (e0:Bool) (a1:Pt) (n1 c1:Nat) (e1:Bool) {G:Type} (J:G→Int→Zaa→Prop) (m:G→Nat)
 (hr:∀ (g:G) (x5:Int) (h:Zaa),J g x5 h→∀ (R4:T4),(∀ g' (x5:Int) (h:Zaa),m g' < m g→J g' x5 h→R4 a0 n0 c0 e0 a1 n1 c1 e1 x5 h)→L4t Q R4 a0 n0 c0 e0 a1 n1 c1 e1 x5 h)
 (g:G) (x5:Int) (h:Zaa) (hj:J g x5 h):L4 Q a0 n0 c0 e0 a1 n1 c1 e1 x5 h:=by
 let P:=fun (K:Int→Zaa→Prop) a0' n0' c0' e0' a1' n1' c1' e1' x5 h=>a0=a0'∧n0=n0'∧c0=c0'∧e0=e0'∧a1=a1'∧n1=n1'∧c1=c1'∧e1=e1'∧K x5 h
 refine Zdt.inv2 (fun g=>E4 (P (J g))) (fun g=>E4 (P fun x5 h=>∃ g',m g' < m g∧J g' x5 h)) m ?_ ?_ g ⟨rfl,rfl,rfl,rfl,rfl,rfl,rfl,rfl,hj⟩
 ·intro g env h hi
  obtain ⟨a0',n0',c0',e0',a1',n1',c1',e1',x5,rfl,rfl,rfl,rfl,rfl,rfl,rfl,rfl,rfl,hj⟩:=Zfc hi
  exact Zny Q _ a0 n0 c0 e0 a1 n1 c1 e1 x5 h (hr g x5 h hj (P fun x5 h=>∃ g',m g' < m g∧J g' x5 h) fun g' x5 h hlt hj=>⟨rfl,rfl,rfl,rfl,rfl,rfl,rfl,rfl,g',hlt,hj⟩)
 ·intro g env h hi
  obtain ⟨a0',n0',c0',e0',a1',n1',c1',e1',x5,rfl,rfl,rfl,rfl,rfl,rfl,rfl,rfl,rfl,g',hlt,hj⟩:=Zfc hi
  exact ⟨g',hlt,rfl,rfl,rfl,rfl,rfl,rfl,rfl,rfl,hj⟩
theorem A4x0i (Q:QT) (h:Zaa) (ht :
 Q (.bool true) h):Zrs Q h:=
 At.mk (cast (by kernel_rfl) ht)
theorem call (a0:Pt) (n0 c0:Nat) (e0:Bool) (a1:Pt) (n1 c1:Nat) (e1:Bool) (h:Zaa) (Q:QT) (ht :
 bcase (!((((n0:Nat):Int):Int) == (((n1:Nat):Int)))) (Q (.bool false) h) (L4 Q a0 n0 c0 e0 a1 n1 c1 e1 0 h)):Zad pg Zkn [.slice a0 n0 c0 e0,.slice a1 n1 c1 e1] h Q:=
 Zad.of_body kp (c:=cod fn) (fn:=fn) Go.Proofs.Try.func42 (by kernel_rfl) (by kernel_rfl) (Nat.le_of_ble_eq_true (by kernel_rfl))
  (cast (by kernel_rfl) ht)
end Zgb
end Go.Sim

set_option maxRecDepth 100000
set_option maxHeartbeats 0
set_option linter.unusedVariables false
namespace Go.Sim
open Go Go.RowKit
namespace Zig
noncomputable abbrev fn:Func:=Go.Proofs.Try.f93
def kp:Zce:=[]
noncomputable def C (p:List Nat):Code:=(cod fn).sub p
def KR (Q:QT):KT:=Zet pg fn.results.toList Q
theorem call (x0x0 x0x1:List Nat) (a0x2:Pt) (n0x2 c0x2:Nat) (e0x2:Bool) (v1:Zag) (h:Zaa) (Q:QT) (ht :
 Zdn (h ++ [.cells Zac [.str x0x0,.str x0x1,.slice a0x2 n0x2 c0x2 e0x2] false]) fun A=>Zcy (Zbo A (v1) 2) fun B=>Zam B fun B C=>xSl B fun B D E F=>Zam C fun C G=>xSl C fun C H I J=>Zcq G (Zcy (Zbo A (.ptr (h.length,0)) 3) fun G=>Zam G fun G K=>Zcb G fun G=>Zam K fun K L=>Zcb K fun K=>Zam L fun L M=>xSl L fun L N O P=>Zcq M (Zad pg Zgu [.agg [.slice B D E F,.slice C H I J],.agg [.str G,.str K,.slice L N O P]] A fun A B=>
 Zbw A fun A=>Q (.bool (!A)) B))):Zad pg Zbq [.agg [.str x0x0,.str x0x1,.slice a0x2 n0x2 c0x2 e0x2],v1] h Q:=
 Zad.of_body kp (c:=cod fn) (fn:=fn) Go.Proofs.Try.func93 (by kernel_rfl) (by kernel_rfl) (Nat.le_of_ble_eq_true (by kernel_rfl))
  (cast (by kernel_rfl) ht)
end Zig
namespace Zaw
noncomputable abbrev fn:Func:=Go.Proofs.Try.f137
def kp:Zce:=[(3000002,[4]),(1000002,[0,1,7,8])]
noncomputable def C (p:List Nat):Code:=(cod fn).sub p
def KR (Q:QT):KT:=Zet pg fn.results.toList Q
abbrev T2:=Pt→Nat→Nat→Bool→Zag→Int→Int→Zaa→Prop
def E2 (R2:T2) (env:Env) (h:Zaa):Prop:=Zbx 0 env fun v env=>xSl v fun a0 n0 c0 e0=>Zbx 1 env fun v env=>eFn Zbq v fun cs=>Zam cs fun c cs'=>Zzn c fun v1x0=>Zcq cs' (Zbx 7 env fun v env=>Zdz .i64 v fun x7=>Zbx 8 env fun v env=>Zdz .i64 v fun x8=>Ziy env (R2 a0 n0 c0 e0 v1x0 x7 x8 h))
theorem Zda {R2:T2} {env:Env} {h:Zaa} (hi:E2 R2 env h):∃ a0,∃ n0,∃ c0,∃ e0,∃ v1x0,∃ x7,∃ x8,env=[(0,.slice a0 n0 c0 e0),(1,.fn Zbq [v1x0]),(7,.int .i64 x7),(8,.int .i64 x8)]∧R2 a0 n0 c0 e0 v1x0 x7 x8 h:=by
 unfold E2 at hi
 have hi0:=hi
 clear hi
 obtain ⟨_,_,rfl,hi1⟩:=Zae hi0
 obtain ⟨a0,n0,c0,e0,rfl,hi2⟩:=Zbt hi1
 obtain ⟨_,_,rfl,hi3⟩:=Zae hi2
 obtain ⟨cs,rfl,hi4⟩:=Ybx hi3
 obtain ⟨c,cs',rfl,hi5⟩:=Zvp hi4
 obtain ⟨v1x0,hx,hi6⟩:=Zlx hi5
 replace hx:=(Option.some.inj hx).symm
 subst hx
 obtain ⟨rfl,hi7⟩:=Zxm hi6
 obtain ⟨_,_,rfl,hi8⟩:=Zae hi7
 obtain ⟨x7,rfl,hi9⟩:=Zat hi8
 obtain ⟨_,_,rfl,hi10⟩:=Zae hi9
 obtain ⟨x8,rfl,hi11⟩:=Zat hi10
 obtain ⟨rfl,hi12⟩:=Zbj hi11
 have hi:=hi12
 exact ⟨a0,n0,c0,e0,v1x0,x7,x8,rfl,hi⟩
def K0 (Q:QT):KT:=andThen (fun env' h'=>(match kp.find 4000007 with | some ks=>Den pg fn.ntmps (C [1,1]) (env'.keep ks) h' (KR Q) | none=>den pg fn.ntmps kp (C [1,1]) env' h' (KR Q))) (KR Q)
def K1 (Q:QT):KT:=Zcg 0 (K0 Q)
def K2 (Q:QT):KT:=left kp 2 (K1 Q)
def K3 (Q:QT) (R2:T2):KT:=rnd ((kp.find 1000002).getD []) (E2 R2) (K2 Q)
def L2 (Q:QT) (a0:Pt) (n0 c0:Nat) (e0:Bool) (v1x0:Zag) (x7 x8:Int) (h:Zaa):Prop:=Zdt (Den pg fn.ntmps (C [1,0,1,0,0])) ((kp.find 1000002).getD []) (K2 Q) [(0,.slice a0 n0 c0 e0),(1,.fn Zbq [v1x0]),(7,.int .i64 x7),(8,.int .i64 x8)] h
def A2x0 (Q:QT) (h:Zaa):Prop:=At (K1 Q) (.exit 0) [(4,.undef)] h
def L2t (Q:QT) (R2:T2) (a0:Pt) (n0 c0:Nat) (e0:Bool) (v1x0:Zag) (x7 x8:Int) (h:Zaa):Prop:=
 bcase (decide ((x8:Int) < x7)) ((0≤(x8:Int)∧(x8:Int) < (n0:Nat))∧(Zbf a0 fun A B=>Zcy (Zbo h (.ptr (A,B + (Int.toNat x8) * 3)) 3) fun A=>Zam A fun A B=>Zcb A fun A=>Zam B fun B C=>Zcb B fun B=>Zam C fun C D=>xSl C fun C E F G=>Zcq D (Zad pg Zbq [.agg [.str A,.str B,.slice C E F G],v1x0] h fun A B=>
 Zbw A fun A=>bcase A (Q (.int .i64 x8) B) (R2 a0 n0 c0 e0 v1x0 x7 (IntKind.wrap .i64 (x8 + 1)) B)))) (A2x0 Q h)
theorem Zhm (Q:QT) (R2:T2) (a0:Pt) (n0 c0:Nat) (e0:Bool) (v1x0:Zag) (x7 x8:Int) (h:Zaa) (ht:L2t Q R2 a0 n0 c0 e0 v1x0 x7 x8 h):Den pg fn.ntmps (C [1,0,1,0,0]) [(0,.slice a0 n0 c0 e0),(1,.fn Zbq [v1x0]),(7,.int .i64 x7),(8,.int .i64 x8)] h (K3 Q R2):=
 Zax (kp:=kp) (cast (by kernel_rfl) ht)
theorem L2ind (Q:QT) (a0:Pt) (n0 c0:Nat) (e0:Bool) (v1x0:Zag) (x7:Int) {G:Type} (J:G→Int→Zaa→Prop) (m:G→Nat)
 (hr:∀ (g:G) (x8:Int) (h:Zaa),J g x8 h→∀ (R2:T2),(∀ g' (x8:Int) (h:Zaa),m g' < m g→J g' x8 h→R2 a0 n0 c0 e0 v1x0 x7 x8 h)→L2t Q R2 a0 n0 c0 e0 v1x0 x7 x8 h)
 (g:G) (x8:Int) (h:Zaa) (hj:J g x8 h):L2 Q a0 n0 c0 e0 v1x0 x7 x8 h:=by
 let P:=fun (K:Int→Zaa→Prop) a0' n0' c0' e0' v1x0' x7' x8 h=>a0=a0'∧n0=n0'∧c0=c0'∧e0=e0'∧v1x0=v1x0'∧x7=x7'∧K x8 h
 refine Zdt.inv2 (fun g=>E2 (P (J g))) (fun g=>E2 (P fun x8 h=>∃ g',m g' < m g∧J g' x8 h)) m ?_ ?_ g ⟨rfl,rfl,rfl,rfl,rfl,rfl,hj⟩
 ·intro g env h hi
  obtain ⟨a0',n0',c0',e0',v1x0',x7',x8,rfl,rfl,rfl,rfl,rfl,rfl,rfl,hj⟩:=Zda hi
  exact Zhm Q _ a0 n0 c0 e0 v1x0 x7 x8 h (hr g x8 h hj (P fun x8 h=>∃ g',m g' < m g∧J g' x8 h) fun g' x8 h hlt hj=>⟨rfl,rfl,rfl,rfl,rfl,rfl,g',hlt,hj⟩)
 ·intro g env h hi
  obtain ⟨a0',n0',c0',e0',v1x0',x7',x8,rfl,rfl,rfl,rfl,rfl,rfl,rfl,g',hlt,hj⟩:=Zda hi
  exact ⟨g',hlt,rfl,rfl,rfl,rfl,rfl,rfl,hj⟩
theorem A2x0i (Q:QT) (h:Zaa) (ht :
 Q (.int .i64 (-1)) h):A2x0 Q h:=
 At.mk (cast (by kernel_rfl) ht)
theorem call (a0:Pt) (n0 c0:Nat) (e0:Bool) (v1x0:Zag) (h:Zaa) (Q:QT) (ht :
 L2 Q a0 n0 c0 e0 v1x0 (((n0:Nat):Int)) 0 h):Zad pg Zcl [.slice a0 n0 c0 e0,.fn Zbq [v1x0]] h Q:=
 Zad.of_body kp (c:=cod fn) (fn:=fn) Go.Proofs.Try.func137 (by kernel_rfl) (by kernel_rfl) (Nat.le_of_ble_eq_true (by kernel_rfl))
  (cast (by kernel_rfl) ht)
end Zaw
namespace Zlq
noncomputable abbrev fn:Func:=Go.Proofs.Try.f46
def kp:Zce:=[]
noncomputable def C (p:List Nat):Code:=(cod fn).sub p
def KR (Q:QT):KT:=Zet pg fn.results.toList Q
theorem call (a0x0:Pt) (n0x0 c0x0:Nat) (e0x0:Bool) (a0x1:Pt) (n0x1 c0x1:Nat) (e0x1:Bool) (h:Zaa) (Q:QT) (ht :
 Zdn (h ++ [.cells Zao [.slice a0x0 n0x0 c0x0 e0x0,.slice a0x1 n0x1 c0x1 e0x1] false]) fun A=>Zcy (Zbo A (.ptr (h.length,0)) 2) fun B=>Zam B fun B C=>xSl B fun B D E F=>Zam C fun C G=>xSl C fun C H I J=>Zcq G (Zad pg Zhj [.agg [.slice B D E F,.slice C H I J]] A fun A B=>
 Zbw A fun A=>bcase A (xSl (Zaf B (.ptr (h.length,0 + 1))) fun A A C C=>bcase (decide (((((A:Nat):Int)):Int)≤10)) (xSl (Zaf B (.ptr (h.length,0 + 1))) fun A C D E=>Zad pg Zcz [.slice A C D E,.fn Zbq [.ptr (h.length,0)]] B fun A C=>
 Zbw A fun A=>Q (.bool (!A)) C) (Q (.bool false) B)) (Q (.bool false) B))):Zad pg Zil [.agg [.slice a0x0 n0x0 c0x0 e0x0,.slice a0x1 n0x1 c0x1 e0x1]] h Q:=
 Zad.of_body kp (c:=cod fn) (fn:=fn) Go.Proofs.Try.func46 (by kernel_rfl) (by kernel_rfl) (Nat.le_of_ble_eq_true (by kernel_rfl))
  (cast (by kernel_rfl) ht)
end Zlq
namespace Zca
noncomputable abbrev fn:Func:=Go.Proofs.Try.f92
def kp:Zce:=[]
noncomputable def C (p:List Nat):Code:=(cod fn).sub p
def KR (Q:QT):KT:=Zet pg fn.results.toList Q
theorem call (a0:Pt) (n0 c0:Nat) (e0:Bool) (v1x0:Zag) (h:Zaa) (Q:QT) (ht :
 Zad pg Zcl [.slice a0 n0 c0 e0,.fn Zbq [v1x0]] h fun A B=>
 Zco .i64 A fun A=>Q (.bool (decide ((A:Int) ≥ 0))) B):Zad pg Zcz [.slice a0 n0 c0 e0,.fn Zbq [v1x0]] h Q:=
 Zad.of_body kp (c:=cod fn) (fn:=fn) Go.Proofs.Try.func92 (by kernel_rfl) (by kernel_rfl) (Nat.le_of_ble_eq_true (by kernel_rfl))
  (cast (by kernel_rfl) ht)
end Zca
namespace Zey
noncomputable abbrev fn:Func:=Go.Proofs.Try.f38
def kp:Zce:=[(3000002,[1,2]),(1000002,[1,6,7,8])]
noncomputable def C (p:List Nat):Code:=(cod fn).sub p
def KR (Q:QT):KT:=Zet pg fn.results.toList Q
abbrev T2:=Nat→Nat→Pt→Nat→Nat→Bool→Int→Int→Zaa→Prop
def E2 (R2:T2) (env:Env) (h:Zaa):Prop:=Zbx 1 env fun v env=>Zfw v fun a=>Zbf a fun i1 o1=>Zbx 6 env fun v env=>xSl v fun a6 n6 c6 e6=>Zbx 7 env fun v env=>Zdz .i64 v fun x7=>Zbx 8 env fun v env=>Zdz .i64 v fun x8=>Ziy env (R2 i1 o1 a6 n6 c6 e6 x7 x8 h)
theorem Zda {R2:T2} {env:Env} {h:Zaa} (hi:E2 R2 env h):∃ i1,∃ o1,∃ a6,∃ n6,∃ c6,∃ e6,∃ x7,∃ x8,env=[(1,.ptr (i1,o1)),(6,.slice a6 n6 c6 e6),(7,.int .i64 x7),(8,.int .i64 x8)]∧R2 i1 o1 a6 n6 c6 e6 x7 x8 h:=by
 unfold E2 at hi
 have hi0:=hi
 clear hi
 obtain ⟨_,_,rfl,hi1⟩:=Zae hi0
 obtain ⟨a,rfl,hi2⟩:=Zbu hi1
 obtain ⟨i1,o1,rfl,hi3⟩:=Zbn hi2
 obtain ⟨_,_,rfl,hi4⟩:=Zae hi3
 obtain ⟨a6,n6,c6,e6,rfl,hi5⟩:=Zbt hi4
 obtain ⟨_,_,rfl,hi6⟩:=Zae hi5
 obtain ⟨x7,rfl,hi7⟩:=Zat hi6
 obtain ⟨_,_,rfl,hi8⟩:=Zae hi7
 obtain ⟨x8,rfl,hi9⟩:=Zat hi8
 obtain ⟨rfl,hi10⟩:=Zbj hi9
 have hi:=hi10
 exact ⟨i1,o1,a6,n6,c6,e6,x7,x8,rfl,hi⟩
def K0 (Q:QT):KT:=andThen (fun env' h'=>(match kp.find 4000007 with | some ks=>Den pg fn.ntmps (C [1,1]) (env'.keep ks) h' (KR Q) | none=>den pg fn.ntmps kp (C [1,1]) env' h' (KR Q))) (KR Q)
def K1 (Q:QT):KT:=Zcg 0 (K0 Q)
def K2 (Q:QT):KT:=left kp 2 (K1 Q)
def K3 (Q:QT) (R2:T2):KT:=rnd ((kp.find 1000002).getD []) (E2 R2) (K2 Q)
def L2 (Q:QT) (i1 o1:Nat) (a6:Pt) (n6 c6:Nat) (e6:Bool) (x7 x8:Int) (h:Zaa):Prop:=Zdt (Den pg fn.ntmps (C [1,0,1,0,0])) ((kp.find 1000002).getD []) (K2 Q) [(1,.ptr (i1,o1)),(6,.slice a6 n6 c6 e6),(7,.int .i64 x7),(8,.int .i64 x8)] h
def A2x0 (Q:QT) (i1 o1:Nat) (h:Zaa):Prop:=At (K1 Q) (.exit 0) [(1,.ptr (i1,o1)),(2,.undef)] h
def L2t (Q:QT) (R2:T2) (i1 o1:Nat) (a6:Pt) (n6 c6:Nat) (e6:Bool) (x7 x8:Int) (h:Zaa):Prop:=
 bcase (decide ((x8:Int) < x7)) ((0≤(x8:Int)∧(x8:Int) < (n6:Nat))∧(Zbf a6 fun A B=>Zcy (Zbo h (.ptr (A,B + (Int.toNat x8) * 3)) 3) fun A=>Zam A fun A B=>Zcb A fun A=>Zam B fun B C=>Zcb B fun B=>Zam C fun C D=>xSl C fun C E F G=>Zcq D (Zdn (h ++ [.cells Zac [.str [],.str [],.slice none 0 0 true] false]) fun D=>Zcf (Zbd D (.ptr (h.length,0)) [.str A,.str B,.slice C E F G]) fun A=>Zcy (Zbo A (.ptr (i1,o1)) 2) fun B=>Zam B fun B C=>xSl B fun B D E F=>Zam C fun C G=>xSl C fun C H I J=>Zcq G (Zcy (Zbo A (.ptr (h.length,0)) 3) fun G=>Zam G fun G K=>Zcb G fun G=>Zam K fun K L=>Zcb K fun K=>Zam L fun L M=>xSl L fun L N O P=>Zcq M (Zad pg Zgs [.agg [.slice B D E F,.slice C H I J],.agg [.str G,.str K,.slice L N O P]] A fun A B=>
 Zbw A fun A=>bcase (!A) (Q (.bool false) B) (R2 i1 o1 a6 n6 c6 e6 x7 (IntKind.wrap .i64 (x8 + 1)) B)))))) (A2x0 Q i1 o1 h)
theorem Zhm (Q:QT) (R2:T2) (i1 o1:Nat) (a6:Pt) (n6 c6:Nat) (e6:Bool) (x7 x8:Int) (h:Zaa) (ht:L2t Q R2 i1 o1 a6 n6 c6 e6 x7 x8 h):Den pg fn.ntmps (C [1,0,1,0,0]) [(1,.ptr (i1,o1)),(6,.slice a6 n6 c6 e6),(7,.int .i64 x7),(8,.int .i64 x8)] h (K3 Q R2):=
 Zax (kp:=kp) (cast (by kernel_rfl) ht)
theorem L2ind (Q:QT) (i1 o1:Nat) (a6:Pt) (n6 c6:Nat) (e6:Bool) (x7:Int) {G:Type} (J:G→Int→Zaa→Prop) (m:G→Nat)
 (hr:∀ (g:G) (x8:Int) (h:Zaa),J g x8 h→∀ (R2:T2),(∀ g' (x8:Int) (h:Zaa),m g' < m g→J g' x8 h→R2 i1 o1 a6 n6 c6 e6 x7 x8 h)→L2t Q R2 i1 o1 a6 n6 c6 e6 x7 x8 h)
 (g:G) (x8:Int) (h:Zaa) (hj:J g x8 h):L2 Q i1 o1 a6 n6 c6 e6 x7 x8 h:=by
 let P:=fun (K:Int→Zaa→Prop) i1' o1' a6' n6' c6' e6' x7' x8 h=>i1=i1'∧o1=o1'∧a6=a6'∧n6=n6'∧c6=c6'∧e6=e6'∧x7=x7'∧K x8 h
 refine Zdt.inv2 (fun g=>E2 (P (J g))) (fun g=>E2 (P fun x8 h=>∃ g',m g' < m g∧J g' x8 h)) m ?_ ?_ g ⟨rfl,rfl,rfl,rfl,rfl,rfl,rfl,hj⟩
 ·intro g env h hi
  obtain ⟨i1',o1',a6',n6',c6',e6',x7',x8,rfl,rfl,rfl,rfl,rfl,rfl,rfl,rfl,hj⟩:=Zda hi
  exact Zhm Q _ i1 o1 a6 n6 c6 e6 x7 x8 h (hr g x8 h hj (P fun x8 h=>∃ g',m g' < m g∧J g' x8 h) fun g' x8 h hlt hj=>⟨rfl,rfl,rfl,rfl,rfl,rfl,rfl,g',hlt,hj⟩)
 ·intro g env h hi
  obtain ⟨i1',o1',a6',n6',c6',e6',x7',x8,rfl,rfl,rfl,rfl,rfl,rfl,rfl,rfl,g',hlt,hj⟩:=Zda hi
  exact ⟨g',hlt,rfl,rfl,rfl,rfl,rfl,rfl,rfl,hj⟩
theorem A2x0i (Q:QT) (i1 o1:Nat) (h:Zaa) (ht :
 xSl (Zaf h (.ptr (i1,o1 + 0))) fun A B C D=>Zad pg Zhi [.slice A B C D] h fun A B=>
 Zbw A fun A=>bcase A (xSl (Zaf B (.ptr (i1,o1 + 1))) fun A A C C=>Q (.bool (decide (((((A:Nat):Int)):Int)≤10))) B) (Q (.bool false) B)):A2x0 Q i1 o1 h:=
 At.mk (cast (by kernel_rfl) ht)
theorem call (a0x0:Pt) (n0x0 c0x0:Nat) (e0x0:Bool) (a0x1:Pt) (n0x1 c0x1:Nat) (e0x1:Bool) (h:Zaa) (Q:QT) (ht :
 Zdn (h ++ [.cells Zao [.slice a0x0 n0x0 c0x0 e0x0,.slice a0x1 n0x1 c0x1 e0x1] false]) fun A=>xSl (Zaf A (.ptr (h.length,0 + 1))) fun B C D E=>L2 Q h.length 0 B C D E (((C:Nat):Int)) 0 A):Zad pg Zii [.agg [.slice a0x0 n0x0 c0x0 e0x0,.slice a0x1 n0x1 c0x1 e0x1]] h Q:=
 Zad.of_body kp (c:=cod fn) (fn:=fn) Go.Proofs.Try.func38 (by kernel_rfl) (by kernel_rfl) (Nat.le_of_ble_eq_true (by kernel_rfl))
  (cast (by kernel_rfl) ht)
end Zey
end Go.Sim
