/- A part of the proof of a statement of this seat: see the text that holds the theorem. No condition. -/
import Derived.Test.YtdglddliggejdaaNm
set_option linter.unusedVariables false
set_option linter.unusedSimpArgs false
set_option linter.all false
set_option maxRecDepth 100000
set_option maxHeartbeats 0
set_option linter.unusedVariables false
namespace Go.Sim
open Go Go.RowKit
namespace Zgq
noncomputable abbrev fn:Func:=Go.Proofs.Try.f3
def kp:Zcn:=[(2000010,[26])]
noncomputable def C (p:List Nat):Code:=(cod fn).sub p
def KR (Q:QT):KT:=Zfe pg fn.results.toList Q
theorem call (a0x0:Pt) (n0x0 c0x0:Nat) (e0x0:Bool) (a0x1:Pt) (n0x1 c0x1:Nat) (e0x1:Bool) (h:Zaa) (Q:QT) (ht :
 Zdn (h ++ [.cells Zdt [.slice a0x0 n0x0 c0x0 e0x0,.slice a0x1 n0x1 c0x1 e0x1] false]) fun A=>Zcx (Zbk A (.ptr (h.length,0)) 2) fun B=>Zal B fun B C=>xSl B fun B D E F=>Zal C fun C G=>xSl C fun C H I J=>Zcq G (Zad pg Zjz [.agg [.slice B D E F,.slice C H I J],.int .i64 1048576] A fun A B=>
 Zcr .i64 A fun A=>bcase (decide ((A:Int) < 0)) (Q (.bool true) B) (Zcx (Zbk B (.ptr (h.length,0)) 2) fun A=>Zal A fun A C=>xSl A fun A D E F=>Zal C fun C G=>xSl C fun C H I J=>Zcq G (Zad pg Zge [.agg [.slice A D E F,.slice C H I J]] B fun A B=>
 Zpz A fun A=>Zal A fun A C=>xSl A fun A D E F=>Zal C fun C G=>xSl C fun C H I J=>Zcq G (Zad pg Zho [.agg [.slice A D E F,.slice C H I J]] B fun A B=>
 Zbr A fun A=>Zcx (Zbk B (.ptr (h.length,0)) 2) fun C=>Zal C fun C D=>xSl C fun C E F G=>Zal D fun D H=>xSl D fun D I J K=>Zcq H (Zad pg Zge [.agg [.slice C E F G,.slice D I J K]] B fun B C=>
 Zpz B fun B=>Zal B fun B D=>xSl B fun B E F G=>Zal D fun D H=>xSl D fun D I J K=>Zcq H (Zdn (C ++ [.cells Zan [.slice none 0 0 true,.slice none 0 0 true] false]) fun H=>Zch (Zbc H (.ptr (C.length,0)) [.slice B E F G,.slice D I J K]) fun B=>Zcx (Zbk B (.ptr (C.length,0)) 2) fun D=>Zal D fun D E=>xSl D fun D F G H=>Zal E fun E I=>xSl E fun E J K L=>Zcq I (Zad pg Zht [.agg [.slice D F G H,.slice E J K L]] B fun B D=>
 Zbr B fun B=>bcase (!(B == A)) (Q (.bool false) D) (Zcx (Zbk D (.ptr (C.length,0)) 2) fun A=>Zal A fun A B=>xSl A fun A E F G=>Zal B fun B H=>xSl B fun B I J K=>Zcq H (Zcx (Zbk D (.ptr (h.length,0)) 2) fun H=>Zal H fun H L=>xSl H fun H M N O=>Zal L fun L P=>xSl L fun L R S T=>Zcq P ((Zbk D (.ptr (C.length,0)) 2=Zbk D (.ptr (C.length,0)) 2)∧Zad pg Zge [.agg [.slice H M N O,.slice L R S T]] D fun H L=>
 Zpz H fun H=>Zal H fun H M=>xSl H fun H N O P=>Zal M fun M R=>xSl M fun M S T U=>Zcq R ((Zbk L (.ptr (C.length,0)) 2=Zbk D (.ptr (C.length,0)) 2)∧Zad pg Zjv [.agg [.slice A E F G,.slice B I J K],.agg [.slice H N O P,.slice M S T U]] L fun A B=>
 Zbr A fun A=>bcase (!A) (Q (.bool false) B) (Q (.bool true) B))))))))))))):Zad pg Zgs [.agg [.slice a0x0 n0x0 c0x0 e0x0,.slice a0x1 n0x1 c0x1 e0x1]] h Q:=
 Zad.of_body kp (c:=cod fn) (fn:=fn) Go.Proofs.Try.func3 (by kernel_rfl) (by kernel_rfl) (Nat.le_of_ble_eq_true (by kernel_rfl))
  (cast (by kernel_rfl) ht)
end Zgq
end Go.Sim

set_option maxRecDepth 100000
set_option maxHeartbeats 0
set_option linter.unusedVariables false
namespace Go.Sim
open Go Go.RowKit
namespace Zbu
noncomputable abbrev fn:Func:=Go.Proofs.Try.f15
def kp:Zcn:=[(3000005,[4]),(1000005,[1,4,15,16]),(3000008,[16,15,1,4]),(1000008,[1,4,5,6,15,16]),(2000010,[7,8,4,5,6,1,16,15]),(4000009,[6,1,5,4,16,15])]
noncomputable def C (p:List Nat):Code:=(cod fn).sub p
def KR (Q:QT):KT:=Zfe pg fn.results.toList Q
abbrev T5:=Nat→Nat→Pt→Nat→Nat→Bool→Int→Int→Zaa→Prop
def E5 (R5:T5) (env:Env) (h:Zaa):Prop:=Zcb 1 env fun v env=>Zfg v fun a=>Zbf a fun i1 o1=>Zcb 4 env fun v env=>xSl v fun a4 n4 c4 e4=>Zcb 15 env fun v env=>Zek .i64 v fun x15=>Zcb 16 env fun v env=>Zek .i64 v fun x16=>Zkg env (R5 i1 o1 a4 n4 c4 e4 x15 x16 h)
theorem Zgt {R5:T5} {env:Env} {h:Zaa} (hi:E5 R5 env h):∃ i1,∃ o1,∃ a4,∃ n4,∃ c4,∃ e4,∃ x15,∃ x16,env=[(1,.ptr (i1,o1)),(4,.slice a4 n4 c4 e4),(15,.int .i64 x15),(16,.int .i64 x16)]∧R5 i1 o1 a4 n4 c4 e4 x15 x16 h:=by
 unfold E5 at hi
 have hi0:=hi
 clear hi
 obtain ⟨_,_,rfl,hi1⟩:=Zaf hi0
 obtain ⟨a,rfl,hi2⟩:=Zbp hi1
 obtain ⟨i1,o1,rfl,hi3⟩:=Zbi hi2
 obtain ⟨_,_,rfl,hi4⟩:=Zaf hi3
 obtain ⟨a4,n4,c4,e4,rfl,hi5⟩:=Zcc hi4
 obtain ⟨_,_,rfl,hi6⟩:=Zaf hi5
 obtain ⟨x15,rfl,hi7⟩:=Zau hi6
 obtain ⟨_,_,rfl,hi8⟩:=Zaf hi7
 obtain ⟨x16,rfl,hi9⟩:=Zau hi8
 obtain ⟨rfl,hi10⟩:=Zbm hi9
 have hi:=hi10
 exact ⟨i1,o1,a4,n4,c4,e4,x15,x16,rfl,hi⟩
abbrev T8:=Nat→Nat→Pt→Nat→Nat→Bool→Int→Int→Int→Int→Zaa→Prop
def E8 (R8:T8) (env:Env) (h:Zaa):Prop:=Zcb 1 env fun v env=>Zfg v fun a=>Zbf a fun i1 o1=>Zcb 4 env fun v env=>xSl v fun a4 n4 c4 e4=>Zcb 5 env fun v env=>Zek .i64 v fun x5=>Zcb 6 env fun v env=>Zek .i64 v fun x6=>Zcb 15 env fun v env=>Zek .i64 v fun x15=>Zcb 16 env fun v env=>Zek .i64 v fun x16=>Zkg env (R8 i1 o1 a4 n4 c4 e4 x5 x6 x15 x16 h)
theorem Zwi {R8:T8} {env:Env} {h:Zaa} (hi:E8 R8 env h):∃ i1,∃ o1,∃ a4,∃ n4,∃ c4,∃ e4,∃ x5,∃ x6,∃ x15,∃ x16,env=[(1,.ptr (i1,o1)),(4,.slice a4 n4 c4 e4),(5,.int .i64 x5),(6,.int .i64 x6),(15,.int .i64 x15),(16,.int .i64 x16)]∧R8 i1 o1 a4 n4 c4 e4 x5 x6 x15 x16 h:=by
 unfold E8 at hi
 have hi0:=hi
 clear hi
 obtain ⟨_,_,rfl,hi1⟩:=Zaf hi0
 obtain ⟨a,rfl,hi2⟩:=Zbp hi1
 obtain ⟨i1,o1,rfl,hi3⟩:=Zbi hi2
 obtain ⟨_,_,rfl,hi4⟩:=Zaf hi3
 obtain ⟨a4,n4,c4,e4,rfl,hi5⟩:=Zcc hi4
 obtain ⟨_,_,rfl,hi6⟩:=Zaf hi5
 obtain ⟨x5,rfl,hi7⟩:=Zau hi6
 obtain ⟨_,_,rfl,hi8⟩:=Zaf hi7
 obtain ⟨x6,rfl,hi9⟩:=Zau hi8
 obtain ⟨_,_,rfl,hi10⟩:=Zaf hi9
 obtain ⟨x15,rfl,hi11⟩:=Zau hi10
 obtain ⟨_,_,rfl,hi12⟩:=Zaf hi11
 obtain ⟨x16,rfl,hi13⟩:=Zau hi12
 obtain ⟨rfl,hi14⟩:=Zbm hi13
 have hi:=hi14
 exact ⟨i1,o1,a4,n4,c4,e4,x5,x6,x15,x16,rfl,hi⟩
def K0 (Q:QT):KT:=andThen (fun env' h'=>(match kp.find 4000014 with | some ks=>Den pg fn.ntmps (C [1,1,1,1]) (env'.keep ks) h' (KR Q) | none=>den pg fn.ntmps kp (C [1,1,1,1]) env' h' (KR Q))) (KR Q)
def K1 (Q:QT):KT:=Zcv 0 (K0 Q)
def K2 (Q:QT):KT:=left kp 5 (K1 Q)
def K3 (Q:QT) (R5:T5):KT:=rnd ((kp.find 1000005).getD []) (E5 R5) (K2 Q)
def K4 (Q:QT) (R5:T5):KT:=andThen (fun env' h'=>(match kp.find 4000013 with | some ks=>Den pg fn.ntmps (C [1,1,1,0,1,0,0,1,1,1]) (env'.keep ks) h' (K3 Q R5) | none=>den pg fn.ntmps kp (C [1,1,1,0,1,0,0,1,1,1]) env' h' (K3 Q R5))) (K3 Q R5)
def K5 (Q:QT) (R5:T5):KT:=Zcv 1 (K4 Q R5)
def K6 (Q:QT) (R5:T5):KT:=Zcv 2 (K5 Q R5)
def K7 (Q:QT) (R5:T5):KT:=left kp 8 (K6 Q R5)
def K8 (Q:QT) (R5:T5) (R8:T8):KT:=rnd ((kp.find 1000008).getD []) (E8 R8) (K7 Q R5)
def L5 (Q:QT) (i1 o1:Nat) (a4:Pt) (n4 c4:Nat) (e4:Bool) (x15 x16:Int) (h:Zaa):Prop:=Zeh (Den pg fn.ntmps (C [1,1,1,0,1,0,0])) ((kp.find 1000005).getD []) (K2 Q) [(1,.ptr (i1,o1)),(4,.slice a4 n4 c4 e4),(15,.int .i64 x15),(16,.int .i64 x16)] h
def L8 (Q:QT) (R5:T5) (i1 o1:Nat) (a4:Pt) (n4 c4:Nat) (e4:Bool) (x5 x6 x15 x16:Int) (h:Zaa):Prop:=Zeh (Den pg fn.ntmps (C [1,1,1,0,1,0,0,1,1,0,0,1,1,0,0])) ((kp.find 1000008).getD []) (K7 Q R5) [(1,.ptr (i1,o1)),(4,.slice a4 n4 c4 e4),(5,.int .i64 x5),(6,.int .i64 x6),(15,.int .i64 x15),(16,.int .i64 x16)] h
def A5x0 (Q:QT) (a4:Pt) (n4 c4:Nat) (e4:Bool) (h:Zaa):Prop:=At (K1 Q) (.exit 0) [(4,.slice a4 n4 c4 e4)] h
def J9 (Q:QT) (R5:T5) (R8:T8) (x6:Int) (i1 o1:Nat) (x5:Int) (a4:Pt) (n4 c4:Nat) (e4:Bool) (x16 x15:Int) (h:Zaa):Prop:=Den pg fn.ntmps (C [1,1,1,0,1,0,0,1,1,0,0,1,1,0,0,1,1]) [(6,.int .i64 x6),(1,.ptr (i1,o1)),(5,.int .i64 x5),(4,.slice a4 n4 c4 e4),(16,.int .i64 x16),(15,.int .i64 x15)] h (K8 Q R5 R8)
def Yng (Q:QT) (R5:T5) (x16 x15:Int) (i1 o1:Nat) (a4:Pt) (n4 c4:Nat) (e4:Bool) (h:Zaa):Prop:=At (K6 Q R5) (.exit 2) [(16,.int .i64 x16),(15,.int .i64 x15),(1,.ptr (i1,o1)),(4,.slice a4 n4 c4 e4)] h
def L5t (Q:QT) (R5:T5) (i1 o1:Nat) (a4:Pt) (n4 c4:Nat) (e4:Bool) (x15 x16:Int) (h:Zaa):Prop:=
 bcase (decide ((x16:Int) < x15)) (L8 Q R5 i1 o1 a4 n4 c4 e4 x16 (IntKind.wrap .i64 (x16 + 1)) x15 x16 h) (A5x0 Q a4 n4 c4 e4 h)
theorem Zpj (Q:QT) (R5:T5) (i1 o1:Nat) (a4:Pt) (n4 c4:Nat) (e4:Bool) (x15 x16:Int) (h:Zaa) (ht:L5t Q R5 i1 o1 a4 n4 c4 e4 x15 x16 h):Den pg fn.ntmps (C [1,1,1,0,1,0,0]) [(1,.ptr (i1,o1)),(4,.slice a4 n4 c4 e4),(15,.int .i64 x15),(16,.int .i64 x16)] h (K3 Q R5):=
 Zbe (kp:=kp) (cast (by kernel_rfl) ht)
theorem L5ind (Q:QT) (i1 o1:Nat) (x15:Int) {G:Type} (J:G→Pt→Nat→Nat→Bool→Int→Zaa→Prop) (m:G→Nat)
 (hr:∀ (g:G) (a4:Pt) (n4 c4:Nat) (e4:Bool) (x16:Int) (h:Zaa),J g a4 n4 c4 e4 x16 h→∀ (R5:T5),(∀ g' (a4:Pt) (n4 c4:Nat) (e4:Bool) (x16:Int) (h:Zaa),m g' < m g→J g' a4 n4 c4 e4 x16 h→R5 i1 o1 a4 n4 c4 e4 x15 x16 h)→L5t Q R5 i1 o1 a4 n4 c4 e4 x15 x16 h)
 (g:G) (a4:Pt) (n4 c4:Nat) (e4:Bool) (x16:Int) (h:Zaa) (hj:J g a4 n4 c4 e4 x16 h):L5 Q i1 o1 a4 n4 c4 e4 x15 x16 h:=by
 let P:=fun (K:Pt→Nat→Nat→Bool→Int→Zaa→Prop) i1' o1' a4 n4 c4 e4 x15' x16 h=>i1=i1'∧o1=o1'∧x15=x15'∧K a4 n4 c4 e4 x16 h
 refine Zeh.inv2 (fun g=>E5 (P (J g))) (fun g=>E5 (P fun a4 n4 c4 e4 x16 h=>∃ g',m g' < m g∧J g' a4 n4 c4 e4 x16 h)) m ?_ ?_ g ⟨rfl,rfl,rfl,hj⟩
 ·intro g env h hi
  obtain ⟨i1',o1',a4,n4,c4,e4,x15',x16,rfl,rfl,rfl,rfl,hj⟩:=Zgt hi
  exact Zpj Q _ i1 o1 a4 n4 c4 e4 x15 x16 h (hr g a4 n4 c4 e4 x16 h hj (P fun a4 n4 c4 e4 x16 h=>∃ g',m g' < m g∧J g' a4 n4 c4 e4 x16 h) fun g' a4 n4 c4 e4 x16 h hlt hj=>⟨rfl,rfl,rfl,g',hlt,hj⟩)
 ·intro g env h hi
  obtain ⟨i1',o1',a4,n4,c4,e4,x15',x16,rfl,rfl,rfl,rfl,g',hlt,hj⟩:=Zgt hi
  exact ⟨g',hlt,rfl,rfl,rfl,hj⟩
def L8t (Q:QT) (R5:T5) (R8:T8) (i1 o1:Nat) (a4:Pt) (n4 c4:Nat) (e4:Bool) (x5 x6 x15 x16:Int) (h:Zaa):Prop:=
 xSl (Zae h (.ptr (i1,o1 + 1))) fun A A B B=>bcase (decide ((x6:Int) < (((A:Nat):Int)))) (xSl (Zae h (.ptr (i1,o1 + 1))) fun A B C C=>(0≤(x5:Int)∧(x5:Int) < (B:Nat))∧(Zbf A fun A B=>Zcx (Zbk h (.ptr (A,B + (Int.toNat x5) * 3)) 3) fun C=>Zal C fun C D=>Zbz C fun C=>Zal D fun D E=>Zbz D fun D=>Zal E fun E F=>xSl E fun E G H I=>Zcq F (xSl (Zae h (.ptr (i1,o1 + 1))) fun F J K K=>(0≤(x6:Int)∧(x6:Int) < (J:Nat))∧(Zbf F fun F J=>Zcx (Zbk h (.ptr (F,J + (Int.toNat x6) * 3)) 3) fun K=>Zal K fun K L=>Zbz K fun K=>Zal L fun L M=>Zbz L fun L=>Zal M fun M N=>xSl M fun M O P R=>Zcq N ((Zdn (h ++ [.cells Zac [.str [],.str [],.slice none 0 0 true] false]) fun N=>(Zbk N (.ptr (F,J + (Int.toNat x6) * 3)) 3=Zbk h (.ptr (F,J + (Int.toNat x6) * 3)) 3)∧(Zae N (.ptr (i1,o1 + 1))=Zae h (.ptr (i1,o1 + 1)))∧(Zbk N (.ptr (A,B + (Int.toNat x5) * 3)) 3=Zbk h (.ptr (A,B + (Int.toNat x5) * 3)) 3)∧(Zae N (.ptr (i1,o1 + 1))=Zae h (.ptr (i1,o1 + 1)))∧Zdn (N ++ [.cells Zac [.str [],.str [],.slice none 0 0 true] false]) fun S=>(Zbk S (.ptr (F,J + (Int.toNat x6) * 3)) 3=Zbk N (.ptr (F,J + (Int.toNat x6) * 3)) 3)∧(Zae S (.ptr (i1,o1 + 1))=Zae N (.ptr (i1,o1 + 1)))∧(Zbk S (.ptr (A,B + (Int.toNat x5) * 3)) 3=Zbk N (.ptr (A,B + (Int.toNat x5) * 3)) 3)∧(Zae S (.ptr (i1,o1 + 1))=Zae N (.ptr (i1,o1 + 1)))∧Zch (Zbc S (.ptr (h.length,0)) [.str C,.str D,.slice E G H I]) fun T=>(Zbk T (.ptr (F,J + (Int.toNat x6) * 3)) 3=Zbk S (.ptr (F,J + (Int.toNat x6) * 3)) 3)∧(Zae T (.ptr (i1,o1 + 1))=Zae S (.ptr (i1,o1 + 1)))∧Zch (Zbc T (.ptr (N.length,0)) [.str K,.str L,.slice M O P R]) fun S=>Zbz (Zae S (.ptr (h.length,0 + 0 + 0))) fun T=>Zbz (Zae S (.ptr (N.length,0 + 0 + 0))) fun U=>bcase (decide (T=U)) (Zbz (Zae S (.ptr (h.length,0 + 0 + 1))) fun T=>Zbz (Zae S (.ptr (N.length,0 + 0 + 1))) fun N=>Zad pg Zfl [.str T,.str N] S fun N T=>
 Zbr N fun N=>bcase (!N) (Zdn (T ++ [.cells Zrl [.int .i64 x5,.int .i64 x6] false]) fun N=>Zdn (N ++ [.cells Zfz [.slice (T.length,0) 2 2 true] false]) fun U=>Zdv pg Zko U (.slice a4 n4 c4 e4) (.slice (N.length,0) 1 1 true) fun N U=>xSl N fun N V W X=>J9 Q R5 R8 x6 i1 o1 x5 N V W X x16 x15 U) (J9 Q R5 R8 x6 i1 o1 x5 a4 n4 c4 e4 x16 x15 T)) (J9 Q R5 R8 x6 i1 o1 x5 a4 n4 c4 e4 x16 x15 S))∧(Zdn (h ++ [.cells Zac [.str [],.str [],.slice none 0 0 true] false]) fun N=>(Zbk N (.ptr (F,J + (Int.toNat x6) * 3)) 3=Zbk h (.ptr (F,J + (Int.toNat x6) * 3)) 3)∧(Zae N (.ptr (i1,o1 + 1))=Zae h (.ptr (i1,o1 + 1)))∧(Zbk N (.ptr (A,B + (Int.toNat x5) * 3)) 3=Zbk h (.ptr (A,B + (Int.toNat x5) * 3)) 3)∧(Zae N (.ptr (i1,o1 + 1))=Zae h (.ptr (i1,o1 + 1)))∧Zdn (N ++ [.cells Zac [.str [],.str [],.slice none 0 0 true] false]) fun S=>(Zbk S (.ptr (F,J + (Int.toNat x6) * 3)) 3=Zbk N (.ptr (F,J + (Int.toNat x6) * 3)) 3)∧(Zae S (.ptr (i1,o1 + 1))=Zae N (.ptr (i1,o1 + 1)))∧(Zbk S (.ptr (A,B + (Int.toNat x5) * 3)) 3=Zbk N (.ptr (A,B + (Int.toNat x5) * 3)) 3)∧(Zae S (.ptr (i1,o1 + 1))=Zae N (.ptr (i1,o1 + 1)))∧Zch (Zbc S (.ptr (N.length,0)) [.str C,.str D,.slice E G H I]) fun A=>(Zbk A (.ptr (F,J + (Int.toNat x6) * 3)) 3=Zbk S (.ptr (F,J + (Int.toNat x6) * 3)) 3)∧(Zae A (.ptr (i1,o1 + 1))=Zae S (.ptr (i1,o1 + 1)))∧Zch (Zbc A (.ptr (h.length,0)) [.str K,.str L,.slice M O P R]) fun A=>Zbz (Zae A (.ptr (N.length,0 + 0 + 0))) fun B=>Zbz (Zae A (.ptr (h.length,0 + 0 + 0))) fun C=>bcase (decide (B=C)) (Zbz (Zae A (.ptr (N.length,0 + 0 + 1))) fun B=>Zbz (Zae A (.ptr (h.length,0 + 0 + 1))) fun C=>Zad pg Zfl [.str B,.str C] A fun B C=>
 Zbr B fun B=>bcase (!B) (Zdn (C ++ [.cells Zrl [.int .i64 x5,.int .i64 x6] false]) fun B=>Zdn (B ++ [.cells Zfz [.slice (C.length,0) 2 2 true] false]) fun D=>Zdv pg Zko D (.slice a4 n4 c4 e4) (.slice (B.length,0) 1 1 true) fun B D=>xSl B fun B E F G=>J9 Q R5 R8 x6 i1 o1 x5 B E F G x16 x15 D) (J9 Q R5 R8 x6 i1 o1 x5 a4 n4 c4 e4 x16 x15 C)) (J9 Q R5 R8 x6 i1 o1 x5 a4 n4 c4 e4 x16 x15 A))))))) (Yng Q R5 x16 x15 i1 o1 a4 n4 c4 e4 h)
theorem Yjf (Q:QT) (R5:T5) (R8:T8) (i1 o1:Nat) (a4:Pt) (n4 c4:Nat) (e4:Bool) (x5 x6 x15 x16:Int) (h:Zaa) (ht:L8t Q R5 R8 i1 o1 a4 n4 c4 e4 x5 x6 x15 x16 h):Den pg fn.ntmps (C [1,1,1,0,1,0,0,1,1,0,0,1,1,0,0]) [(1,.ptr (i1,o1)),(4,.slice a4 n4 c4 e4),(5,.int .i64 x5),(6,.int .i64 x6),(15,.int .i64 x15),(16,.int .i64 x16)] h (K8 Q R5 R8):=
 Zbe (kp:=kp) (cast (by kernel_rfl) ht)
theorem L8ind (Q:QT) (R5:T5) (i1 o1:Nat) (x5 x15 x16:Int) {G:Type} (J:G→Pt→Nat→Nat→Bool→Int→Zaa→Prop) (m:G→Nat)
 (hr:∀ (g:G) (a4:Pt) (n4 c4:Nat) (e4:Bool) (x6:Int) (h:Zaa),J g a4 n4 c4 e4 x6 h→∀ (R8:T8),(∀ g' (a4:Pt) (n4 c4:Nat) (e4:Bool) (x6:Int) (h:Zaa),m g' < m g→J g' a4 n4 c4 e4 x6 h→R8 i1 o1 a4 n4 c4 e4 x5 x6 x15 x16 h)→L8t Q R5 R8 i1 o1 a4 n4 c4 e4 x5 x6 x15 x16 h)
 (g:G) (a4:Pt) (n4 c4:Nat) (e4:Bool) (x6:Int) (h:Zaa) (hj:J g a4 n4 c4 e4 x6 h):L8 Q R5 i1 o1 a4 n4 c4 e4 x5 x6 x15 x16 h:=by
 let P:=fun (K:Pt→Nat→Nat→Bool→Int→Zaa→Prop) i1' o1' a4 n4 c4 e4 x5' x6 x15' x16' h=>i1=i1'∧o1=o1'∧x5=x5'∧x15=x15'∧x16=x16'∧K a4 n4 c4 e4 x6 h
 refine Zeh.inv2 (fun g=>E8 (P (J g))) (fun g=>E8 (P fun a4 n4 c4 e4 x6 h=>∃ g',m g' < m g∧J g' a4 n4 c4 e4 x6 h)) m ?_ ?_ g ⟨rfl,rfl,rfl,rfl,rfl,hj⟩
 ·intro g env h hi
  obtain ⟨i1',o1',a4,n4,c4,e4,x5',x6,x15',x16',rfl,rfl,rfl,rfl,rfl,rfl,hj⟩:=Zwi hi
  exact Yjf Q R5 (P fun a4 n4 c4 e4 x6 h=>∃ g',m g' < m g∧J g' a4 n4 c4 e4 x6 h) i1 o1 a4 n4 c4 e4 x5 x6 x15 x16 h (hr g a4 n4 c4 e4 x6 h hj (P fun a4 n4 c4 e4 x6 h=>∃ g',m g' < m g∧J g' a4 n4 c4 e4 x6 h) fun g' a4 n4 c4 e4 x6 h hlt hj=>⟨rfl,rfl,rfl,rfl,rfl,g',hlt,hj⟩)
 ·intro g env h hi
  obtain ⟨i1',o1',a4,n4,c4,e4,x5',x6,x15',x16',rfl,rfl,rfl,rfl,rfl,rfl,g',hlt,hj⟩:=Zwi hi
  exact ⟨g',hlt,rfl,rfl,rfl,rfl,rfl,hj⟩
theorem A5x0i (Q:QT) (a4:Pt) (n4 c4:Nat) (e4:Bool) (h:Zaa) (ht :
 Q (.tup [.slice a4 n4 c4 e4,.bool true]) h):A5x0 Q a4 n4 c4 e4 h:=
 At.mk (cast (by kernel_rfl) ht)
theorem J9i (Q:QT) (R5:T5) (R8:T8) (x6:Int) (i1 o1:Nat) (x5:Int) (a4:Pt) (n4 c4:Nat) (e4:Bool) (x16 x15:Int) (h:Zaa) (ht :
 R8 i1 o1 a4 n4 c4 e4 x5 (IntKind.wrap .i64 (x6 + 1)) x15 x16 h):J9 Q R5 R8 x6 i1 o1 x5 a4 n4 c4 e4 x16 x15 h:=
 Zbe (kp:=kp) (cast (by kernel_rfl) ht)
theorem A8x2i (Q:QT) (R5:T5) (x16 x15:Int) (i1 o1:Nat) (a4:Pt) (n4 c4:Nat) (e4:Bool) (h:Zaa) (ht :
 R5 i1 o1 a4 n4 c4 e4 x15 (IntKind.wrap .i64 (x16 + 1)) h):Yng Q R5 x16 x15 i1 o1 a4 n4 c4 e4 h:=
 At.mk (cast (by kernel_rfl) ht)
theorem call (a0x0:Pt) (n0x0 c0x0:Nat) (e0x0:Bool) (a0x1:Pt) (n0x1 c0x1:Nat) (e0x1:Bool) (h:Zaa) (Q:QT) (ht :
 Zdn (h ++ [.cells Zan [.slice a0x0 n0x0 c0x0 e0x0,.slice a0x1 n0x1 c0x1 e0x1] false]) fun A=>Zcx (Zbk A (.ptr (h.length,0)) 2) fun B=>Zal B fun B C=>xSl B fun B D E F=>Zal C fun C G=>xSl C fun C H I J=>Zcq G (Zad pg Zhr [.agg [.slice B D E F,.slice C H I J]] A fun A B=>
 Zbr A fun A=>bcase (!A) (Q (.tup [.slice none 0 0 true,.bool false]) B) (Zdn (B ++ [.cells Zfz [] false]) fun A=>xSl (Zae A (.ptr (h.length,0 + 1))) fun C C D D=>L5 Q h.length 0 (B.length,0) 0 0 true (((C:Nat):Int)) 0 A))):Zad pg Zhw [.agg [.slice a0x0 n0x0 c0x0 e0x0,.slice a0x1 n0x1 c0x1 e0x1]] h Q:=
 Zad.of_body kp (c:=cod fn) (fn:=fn) Go.Proofs.Try.func15 (by kernel_rfl) (by kernel_rfl) (Nat.le_of_ble_eq_true (by kernel_rfl))
  (cast (by kernel_rfl) ht)
end Zbu
namespace Zna
noncomputable abbrev fn:Func:=Go.Proofs.Try.f86
def kp:Zcn:=[]
noncomputable def C (p:List Nat):Code:=(cod fn).sub p
def KR (Q:QT):KT:=Zfe pg fn.results.toList Q
theorem call (x0x0 x0x1:List Nat) (a0x2:Pt) (n0x2 c0x2:Nat) (e0x2:Bool) (x1x0 x1x1:List Nat) (a1x2:Pt) (n1x2 c1x2:Nat) (e1x2:Bool) (h:Zaa) (Q:QT) (ht :
 Zdn (h ++ [.cells Zac [.str x0x0,.str x0x1,.slice a0x2 n0x2 c0x2 e0x2] false]) fun A=>Zdn (A ++ [.cells Zac [.str x1x0,.str x1x1,.slice a1x2 n1x2 c1x2 e1x2] false]) fun B=>Zbz (Zae B (.ptr (h.length,0 + 0 + 0))) fun C=>Zbz (Zae B (.ptr (A.length,0 + 0 + 0))) fun D=>bcase (decide (C=D)) (Zbz (Zae B (.ptr (h.length,0 + 0 + 1))) fun C=>Zbz (Zae B (.ptr (A.length,0 + 0 + 1))) fun A=>Zad pg Zix [.str C,.str A] B fun A C=>
 Zbr A fun A=>Q (.bool (!A)) C) (Q (.bool false) B)):Zad pg Zjy [.agg [.str x0x0,.str x0x1,.slice a0x2 n0x2 c0x2 e0x2],.agg [.str x1x0,.str x1x1,.slice a1x2 n1x2 c1x2 e1x2]] h Q:=
 Zad.of_body kp (c:=cod fn) (fn:=fn) Go.Proofs.Try.func86 (by kernel_rfl) (by kernel_rfl) (Nat.le_of_ble_eq_true (by kernel_rfl))
  (cast (by kernel_rfl) ht)
end Zna
namespace Zco
noncomputable abbrev fn:Func:=Go.Proofs.Try.f39
def kp:Zcn:=[(3000003,[3]),(1000003,[1,3,9,10,11]),(3000006,[11,10,9,1,3]),(1000006,[1,3,4,5,6,9,10,11]),(2000008,[31,3,4,6,1,5,11,10,9]),(4000007,[6,1,5,3,4,11,10,9])]
noncomputable def C (p:List Nat):Code:=(cod fn).sub p
def KR (Q:QT):KT:=Zfe pg fn.results.toList Q
abbrev T3:=Nat→Nat→Pt→Nat→Nat→Bool→Pt→Nat→Nat→Bool→Int→Int→Zaa→Prop
def E3 (R3:T3) (env:Env) (h:Zaa):Prop:=Zcb 1 env fun v env=>Zfg v fun a=>Zbf a fun i1 o1=>Zcb 3 env fun v env=>xSl v fun a3 n3 c3 e3=>Zcb 9 env fun v env=>xSl v fun a9 n9 c9 e9=>Zcb 10 env fun v env=>Zek .i64 v fun x10=>Zcb 11 env fun v env=>Zek .i64 v fun x11=>Zkg env (R3 i1 o1 a3 n3 c3 e3 a9 n9 c9 e9 x10 x11 h)
theorem Zia {R3:T3} {env:Env} {h:Zaa} (hi:E3 R3 env h):∃ i1,∃ o1,∃ a3,∃ n3,∃ c3,∃ e3,∃ a9,∃ n9,∃ c9,∃ e9,∃ x10,∃ x11,env=[(1,.ptr (i1,o1)),(3,.slice a3 n3 c3 e3),(9,.slice a9 n9 c9 e9),(10,.int .i64 x10),(11,.int .i64 x11)]∧R3 i1 o1 a3 n3 c3 e3 a9 n9 c9 e9 x10 x11 h:=by
 unfold E3 at hi
 have hi0:=hi
 clear hi
 obtain ⟨_,_,rfl,hi1⟩:=Zaf hi0
 obtain ⟨a,rfl,hi2⟩:=Zbp hi1
 obtain ⟨i1,o1,rfl,hi3⟩:=Zbi hi2
 obtain ⟨_,_,rfl,hi4⟩:=Zaf hi3
 obtain ⟨a3,n3,c3,e3,rfl,hi5⟩:=Zcc hi4
 obtain ⟨_,_,rfl,hi6⟩:=Zaf hi5
 obtain ⟨a9,n9,c9,e9,rfl,hi7⟩:=Zcc hi6
 obtain ⟨_,_,rfl,hi8⟩:=Zaf hi7
 obtain ⟨x10,rfl,hi9⟩:=Zau hi8
 obtain ⟨_,_,rfl,hi10⟩:=Zaf hi9
 obtain ⟨x11,rfl,hi11⟩:=Zau hi10
 obtain ⟨rfl,hi12⟩:=Zbm hi11
 have hi:=hi12
 exact ⟨i1,o1,a3,n3,c3,e3,a9,n9,c9,e9,x10,x11,rfl,hi⟩
abbrev T6:=Nat→Nat→Pt→Nat→Nat→Bool→Int→Nat→Nat→Int→Pt→Nat→Nat→Bool→Int→Int→Zaa→Prop
def E6 (R6:T6) (env:Env) (h:Zaa):Prop:=Zcb 1 env fun v env=>Zfg v fun a=>Zbf a fun i1 o1=>Zcb 3 env fun v env=>xSl v fun a3 n3 c3 e3=>Zcb 4 env fun v env=>Zek .i64 v fun x4=>Zcb 5 env fun v env=>Zfg v fun a=>Zbf a fun i5 o5=>Zcb 6 env fun v env=>Zek .i64 v fun x6=>Zcb 9 env fun v env=>xSl v fun a9 n9 c9 e9=>Zcb 10 env fun v env=>Zek .i64 v fun x10=>Zcb 11 env fun v env=>Zek .i64 v fun x11=>Zkg env (R6 i1 o1 a3 n3 c3 e3 x4 i5 o5 x6 a9 n9 c9 e9 x10 x11 h)
theorem Zmk {R6:T6} {env:Env} {h:Zaa} (hi:E6 R6 env h):∃ i1,∃ o1,∃ a3,∃ n3,∃ c3,∃ e3,∃ x4,∃ i5,∃ o5,∃ x6,∃ a9,∃ n9,∃ c9,∃ e9,∃ x10,∃ x11,env=[(1,.ptr (i1,o1)),(3,.slice a3 n3 c3 e3),(4,.int .i64 x4),(5,.ptr (i5,o5)),(6,.int .i64 x6),(9,.slice a9 n9 c9 e9),(10,.int .i64 x10),(11,.int .i64 x11)]∧R6 i1 o1 a3 n3 c3 e3 x4 i5 o5 x6 a9 n9 c9 e9 x10 x11 h:=by
 unfold E6 at hi
 have hi0:=hi
 clear hi
 obtain ⟨_,_,rfl,hi1⟩:=Zaf hi0
 obtain ⟨a,rfl,hi2⟩:=Zbp hi1
 obtain ⟨i1,o1,rfl,hi3⟩:=Zbi hi2
 obtain ⟨_,_,rfl,hi4⟩:=Zaf hi3
 obtain ⟨a3,n3,c3,e3,rfl,hi5⟩:=Zcc hi4
 obtain ⟨_,_,rfl,hi6⟩:=Zaf hi5
 obtain ⟨x4,rfl,hi7⟩:=Zau hi6
 obtain ⟨_,_,rfl,hi8⟩:=Zaf hi7
 obtain ⟨a,rfl,hi9⟩:=Zbp hi8
 obtain ⟨i5,o5,rfl,hi10⟩:=Zbi hi9
 obtain ⟨_,_,rfl,hi11⟩:=Zaf hi10
 obtain ⟨x6,rfl,hi12⟩:=Zau hi11
 obtain ⟨_,_,rfl,hi13⟩:=Zaf hi12
 obtain ⟨a9,n9,c9,e9,rfl,hi14⟩:=Zcc hi13
 obtain ⟨_,_,rfl,hi15⟩:=Zaf hi14
 obtain ⟨x10,rfl,hi16⟩:=Zau hi15
 obtain ⟨_,_,rfl,hi17⟩:=Zaf hi16
 obtain ⟨x11,rfl,hi18⟩:=Zau hi17
 obtain ⟨rfl,hi19⟩:=Zbm hi18
 have hi:=hi19
 exact ⟨i1,o1,a3,n3,c3,e3,x4,i5,o5,x6,a9,n9,c9,e9,x10,x11,rfl,hi⟩
def K0 (Q:QT):KT:=andThen (fun env' h'=>(match kp.find 4000011 with | some ks=>Den pg fn.ntmps (C [1,1,1]) (env'.keep ks) h' (KR Q) | none=>den pg fn.ntmps kp (C [1,1,1]) env' h' (KR Q))) (KR Q)
def K1 (Q:QT):KT:=Zcv 0 (K0 Q)
def K2 (Q:QT):KT:=left kp 3 (K1 Q)
def K3 (Q:QT) (R3:T3):KT:=rnd ((kp.find 1000003).getD []) (E3 R3) (K2 Q)
def K4 (Q:QT) (R3:T3):KT:=andThen (fun env' h'=>(match kp.find 4000010 with | some ks=>Den pg fn.ntmps (C [1,1,0,1,0,0,1,1,1]) (env'.keep ks) h' (K3 Q R3) | none=>den pg fn.ntmps kp (C [1,1,0,1,0,0,1,1,1]) env' h' (K3 Q R3))) (K3 Q R3)
def K5 (Q:QT) (R3:T3):KT:=Zcv 1 (K4 Q R3)
def K6 (Q:QT) (R3:T3):KT:=Zcv 2 (K5 Q R3)
def K7 (Q:QT) (R3:T3):KT:=left kp 6 (K6 Q R3)
def K8 (Q:QT) (R3:T3) (R6:T6):KT:=rnd ((kp.find 1000006).getD []) (E6 R6) (K7 Q R3)
def L3 (Q:QT) (i1 o1:Nat) (a3:Pt) (n3 c3:Nat) (e3:Bool) (a9:Pt) (n9 c9:Nat) (e9:Bool) (x10 x11:Int) (h:Zaa):Prop:=Zeh (Den pg fn.ntmps (C [1,1,0,1,0,0])) ((kp.find 1000003).getD []) (K2 Q) [(1,.ptr (i1,o1)),(3,.slice a3 n3 c3 e3),(9,.slice a9 n9 c9 e9),(10,.int .i64 x10),(11,.int .i64 x11)] h
def L6 (Q:QT) (R3:T3) (i1 o1:Nat) (a3:Pt) (n3 c3:Nat) (e3:Bool) (x4:Int) (i5 o5:Nat) (x6:Int) (a9:Pt) (n9 c9:Nat) (e9:Bool) (x10 x11:Int) (h:Zaa):Prop:=Zeh (Den pg fn.ntmps (C [1,1,0,1,0,0,1,1,0,0,1,1,0,0])) ((kp.find 1000006).getD []) (K7 Q R3) [(1,.ptr (i1,o1)),(3,.slice a3 n3 c3 e3),(4,.int .i64 x4),(5,.ptr (i5,o5)),(6,.int .i64 x6),(9,.slice a9 n9 c9 e9),(10,.int .i64 x10),(11,.int .i64 x11)] h
def Zwn (Q:QT) (a3:Pt) (n3 c3:Nat) (e3:Bool) (h:Zaa):Prop:=At (K1 Q) (.exit 0) [(3,.slice a3 n3 c3 e3)] h
def J7 (Q:QT) (R3:T3) (R6:T6) (x6:Int) (i1 o1 i5 o5:Nat) (a3:Pt) (n3 c3:Nat) (e3:Bool) (x4 x11 x10:Int) (a9:Pt) (n9 c9:Nat) (e9:Bool) (h:Zaa):Prop:=Den pg fn.ntmps (C [1,1,0,1,0,0,1,1,0,0,1,1,0,0,1,1]) [(6,.int .i64 x6),(1,.ptr (i1,o1)),(5,.ptr (i5,o5)),(3,.slice a3 n3 c3 e3),(4,.int .i64 x4),(11,.int .i64 x11),(10,.int .i64 x10),(9,.slice a9 n9 c9 e9)] h (K8 Q R3 R6)
def Ynk (Q:QT) (R3:T3) (x11 x10:Int) (a9:Pt) (n9 c9:Nat) (e9:Bool) (i1 o1:Nat) (a3:Pt) (n3 c3:Nat) (e3:Bool) (h:Zaa):Prop:=At (K6 Q R3) (.exit 2) [(11,.int .i64 x11),(10,.int .i64 x10),(9,.slice a9 n9 c9 e9),(1,.ptr (i1,o1)),(3,.slice a3 n3 c3 e3)] h
def L3t (Q:QT) (R3:T3) (i1 o1:Nat) (a3:Pt) (n3 c3:Nat) (e3:Bool) (a9:Pt) (n9 c9:Nat) (e9:Bool) (x10 x11:Int) (h:Zaa):Prop:=
 bcase (decide ((x11:Int) < x10)) ((0≤(x11:Int)∧(x11:Int) < (n9:Nat))∧(Zbf a9 fun A B=>Zcx (Zbk h (.ptr (A,B + (Int.toNat x11) * 3)) 3) fun A=>Zal A fun A B=>Zbz A fun A=>Zal B fun B C=>Zbz B fun B=>Zal C fun C D=>xSl C fun C E F G=>Zcq D (Zdn (h ++ [.cells Zac [.str [],.str [],.slice none 0 0 true] false]) fun D=>Zch (Zbc D (.ptr (h.length,0)) [.str A,.str B,.slice C E F G]) fun A=>L6 Q R3 i1 o1 a3 n3 c3 e3 x11 h.length 0 (IntKind.wrap .i64 (x11 + 1)) a9 n9 c9 e9 x10 x11 A))) (Zwn Q a3 n3 c3 e3 h)
theorem Zrc (Q:QT) (R3:T3) (i1 o1:Nat) (a3:Pt) (n3 c3:Nat) (e3:Bool) (a9:Pt) (n9 c9:Nat) (e9:Bool) (x10 x11:Int) (h:Zaa) (ht:L3t Q R3 i1 o1 a3 n3 c3 e3 a9 n9 c9 e9 x10 x11 h):Den pg fn.ntmps (C [1,1,0,1,0,0]) [(1,.ptr (i1,o1)),(3,.slice a3 n3 c3 e3),(9,.slice a9 n9 c9 e9),(10,.int .i64 x10),(11,.int .i64 x11)] h (K3 Q R3):=
 Zbe (kp:=kp) (cast (by kernel_rfl) ht)
theorem L3ind (Q:QT) (i1 o1:Nat) (a9:Pt) (n9 c9:Nat) (e9:Bool) (x10:Int) {G:Type} (J:G→Pt→Nat→Nat→Bool→Int→Zaa→Prop) (m:G→Nat)
 (hr:∀ (g:G) (a3:Pt) (n3 c3:Nat) (e3:Bool) (x11:Int) (h:Zaa),J g a3 n3 c3 e3 x11 h→∀ (R3:T3),(∀ g' (a3:Pt) (n3 c3:Nat) (e3:Bool) (x11:Int) (h:Zaa),m g' < m g→J g' a3 n3 c3 e3 x11 h→R3 i1 o1 a3 n3 c3 e3 a9 n9 c9 e9 x10 x11 h)→L3t Q R3 i1 o1 a3 n3 c3 e3 a9 n9 c9 e9 x10 x11 h)
 (g:G) (a3:Pt) (n3 c3:Nat) (e3:Bool) (x11:Int) (h:Zaa) (hj:J g a3 n3 c3 e3 x11 h):L3 Q i1 o1 a3 n3 c3 e3 a9 n9 c9 e9 x10 x11 h:=by
 let P:=fun (K:Pt→Nat→Nat→Bool→Int→Zaa→Prop) i1' o1' a3 n3 c3 e3 a9' n9' c9' e9' x10' x11 h=>i1=i1'∧o1=o1'∧a9=a9'∧n9=n9'∧c9=c9'∧e9=e9'∧x10=x10'∧K a3 n3 c3 e3 x11 h
 refine Zeh.inv2 (fun g=>E3 (P (J g))) (fun g=>E3 (P fun a3 n3 c3 e3 x11 h=>∃ g',m g' < m g∧J g' a3 n3 c3 e3 x11 h)) m ?_ ?_ g ⟨rfl,rfl,rfl,rfl,rfl,rfl,rfl,hj⟩
 ·intro g env h hi
  obtain ⟨i1',o1',a3,n3,c3,e3,a9',n9',c9',e9',x10',x11,rfl,rfl,rfl,rfl,rfl,rfl,rfl,rfl,hj⟩:=Zia hi
  exact Zrc Q _ i1 o1 a3 n3 c3 e3 a9 n9 c9 e9 x10 x11 h (hr g a3 n3 c3 e3 x11 h hj (P fun a3 n3 c3 e3 x11 h=>∃ g',m g' < m g∧J g' a3 n3 c3 e3 x11 h) fun g' a3 n3 c3 e3 x11 h hlt hj=>⟨rfl,rfl,rfl,rfl,rfl,rfl,rfl,g',hlt,hj⟩)
 ·intro g env h hi
  obtain ⟨i1',o1',a3,n3,c3,e3,a9',n9',c9',e9',x10',x11,rfl,rfl,rfl,rfl,rfl,rfl,rfl,rfl,g',hlt,hj⟩:=Zia hi
  exact ⟨g',hlt,rfl,rfl,rfl,rfl,rfl,rfl,rfl,hj⟩
def L6t (Q:QT) (R3:T3) (R6:T6) (i1 o1:Nat) (a3:Pt) (n3 c3:Nat) (e3:Bool) (x4:Int) (i5 o5:Nat) (x6:Int) (a9:Pt) (n9 c9:Nat) (e9:Bool) (x10 x11:Int) (h:Zaa):Prop:=
 xSl (Zae h (.ptr (i1,o1 + 1))) fun A A B B=>bcase (decide ((x6:Int) < (((A:Nat):Int)))) (Zcx (Zbk h (.ptr (i5,o5)) 3) fun A=>Zal A fun A B=>Zbz A fun A=>Zal B fun B C=>Zbz B fun B=>Zal C fun C D=>xSl C fun C E F G=>Zcq D (xSl (Zae h (.ptr (i1,o1 + 1))) fun D H I I=>(Zbk h (.ptr (i5,o5)) 3=Zbk h (.ptr (i5,o5)) 3)∧(0≤(x6:Int)∧(x6:Int) < (H:Nat))∧(Zbf D fun D H=>Zcx (Zbk h (.ptr (D,H + (Int.toNat x6) * 3)) 3) fun D=>Zal D fun D H=>Zbz D fun D=>Zal H fun H I=>Zbz H fun H=>Zal I fun I J=>xSl I fun I K L M=>Zcq J ((Zbk h (.ptr (i5,o5)) 3=Zbk h (.ptr (i5,o5)) 3)∧Zad pg Zjy [.agg [.str A,.str B,.slice C E F G],.agg [.str D,.str H,.slice I K L M]] h fun A B=>
 Zbr A fun A=>bcase A (Zdn (B ++ [.cells Zrl [.int .i64 x4,.int .i64 x6] false]) fun A=>Zdn (A ++ [.cells Zfz [.slice (B.length,0) 2 2 true] false]) fun C=>Zdv pg Zko C (.slice a3 n3 c3 e3) (.slice (A.length,0) 1 1 true) fun A C=>xSl A fun A D E F=>J7 Q R3 R6 x6 i1 o1 i5 o5 A D E F x4 x11 x10 a9 n9 c9 e9 C) (J7 Q R3 R6 x6 i1 o1 i5 o5 a3 n3 c3 e3 x4 x11 x10 a9 n9 c9 e9 B))))) (Ynk Q R3 x11 x10 a9 n9 c9 e9 i1 o1 a3 n3 c3 e3 h)
theorem Zzd (Q:QT) (R3:T3) (R6:T6) (i1 o1:Nat) (a3:Pt) (n3 c3:Nat) (e3:Bool) (x4:Int) (i5 o5:Nat) (x6:Int) (a9:Pt) (n9 c9:Nat) (e9:Bool) (x10 x11:Int) (h:Zaa) (ht:L6t Q R3 R6 i1 o1 a3 n3 c3 e3 x4 i5 o5 x6 a9 n9 c9 e9 x10 x11 h):Den pg fn.ntmps (C [1,1,0,1,0,0,1,1,0,0,1,1,0,0]) [(1,.ptr (i1,o1)),(3,.slice a3 n3 c3 e3),(4,.int .i64 x4),(5,.ptr (i5,o5)),(6,.int .i64 x6),(9,.slice a9 n9 c9 e9),(10,.int .i64 x10),(11,.int .i64 x11)] h (K8 Q R3 R6):=
 Zbe (kp:=kp) (cast (by kernel_rfl) ht)
theorem L6ind (Q:QT) (R3:T3) (i1 o1:Nat) (x4:Int) (i5 o5:Nat) (a9:Pt) (n9 c9:Nat) (e9:Bool) (x10 x11:Int) {G:Type} (J:G→Pt→Nat→Nat→Bool→Int→Zaa→Prop) (m:G→Nat)
 (hr:∀ (g:G) (a3:Pt) (n3 c3:Nat) (e3:Bool) (x6:Int) (h:Zaa),J g a3 n3 c3 e3 x6 h→∀ (R6:T6),(∀ g' (a3:Pt) (n3 c3:Nat) (e3:Bool) (x6:Int) (h:Zaa),m g' < m g→J g' a3 n3 c3 e3 x6 h→R6 i1 o1 a3 n3 c3 e3 x4 i5 o5 x6 a9 n9 c9 e9 x10 x11 h)→L6t Q R3 R6 i1 o1 a3 n3 c3 e3 x4 i5 o5 x6 a9 n9 c9 e9 x10 x11 h)
 (g:G) (a3:Pt) (n3 c3:Nat) (e3:Bool) (x6:Int) (h:Zaa) (hj:J g a3 n3 c3 e3 x6 h):L6 Q R3 i1 o1 a3 n3 c3 e3 x4 i5 o5 x6 a9 n9 c9 e9 x10 x11 h:=by
 let P:=fun (K:Pt→Nat→Nat→Bool→Int→Zaa→Prop) i1' o1' a3 n3 c3 e3 x4' i5' o5' x6 a9' n9' c9' e9' x10' x11' h=>i1=i1'∧o1=o1'∧x4=x4'∧i5=i5'∧o5=o5'∧a9=a9'∧n9=n9'∧c9=c9'∧e9=e9'∧x10=x10'∧x11=x11'∧K a3 n3 c3 e3 x6 h
 refine Zeh.inv2 (fun g=>E6 (P (J g))) (fun g=>E6 (P fun a3 n3 c3 e3 x6 h=>∃ g',m g' < m g∧J g' a3 n3 c3 e3 x6 h)) m ?_ ?_ g ⟨rfl,rfl,rfl,rfl,rfl,rfl,rfl,rfl,rfl,rfl,rfl,hj⟩
 ·intro g env h hi
  obtain ⟨i1',o1',a3,n3,c3,e3,x4',i5',o5',x6,a9',n9',c9',e9',x10',x11',rfl,rfl,rfl,rfl,rfl,rfl,rfl,rfl,rfl,rfl,rfl,rfl,hj⟩:=Zmk hi
  exact Zzd Q R3 (P fun a3 n3 c3 e3 x6 h=>∃ g',m g' < m g∧J g' a3 n3 c3 e3 x6 h) i1 o1 a3 n3 c3 e3 x4 i5 o5 x6 a9 n9 c9 e9 x10 x11 h (hr g a3 n3 c3 e3 x6 h hj (P fun a3 n3 c3 e3 x6 h=>∃ g',m g' < m g∧J g' a3 n3 c3 e3 x6 h) fun g' a3 n3 c3 e3 x6 h hlt hj=>⟨rfl,rfl,rfl,rfl,rfl,rfl,rfl,rfl,rfl,rfl,rfl,g',hlt,hj⟩)
 ·intro g env h hi
  obtain ⟨i1',o1',a3,n3,c3,e3,x4',i5',o5',x6,a9',n9',c9',e9',x10',x11',rfl,rfl,rfl,rfl,rfl,rfl,rfl,rfl,rfl,rfl,rfl,rfl,g',hlt,hj⟩:=Zmk hi
  exact ⟨g',hlt,rfl,rfl,rfl,rfl,rfl,rfl,rfl,rfl,rfl,rfl,rfl,hj⟩
theorem A3x0i (Q:QT) (a3:Pt) (n3 c3:Nat) (e3:Bool) (h:Zaa) (ht :
 Q (.slice a3 n3 c3 e3) h):Zwn Q a3 n3 c3 e3 h:=
 At.mk (cast (by kernel_rfl) ht)
theorem J7i (Q:QT) (R3:T3) (R6:T6) (x6:Int) (i1 o1 i5 o5:Nat) (a3:Pt) (n3 c3:Nat) (e3:Bool) (x4 x11 x10:Int) (a9:Pt) (n9 c9:Nat) (e9:Bool) (h:Zaa) (ht :
 R6 i1 o1 a3 n3 c3 e3 x4 i5 o5 (IntKind.wrap .i64 (x6 + 1)) a9 n9 c9 e9 x10 x11 h):J7 Q R3 R6 x6 i1 o1 i5 o5 a3 n3 c3 e3 x4 x11 x10 a9 n9 c9 e9 h:=
 Zbe (kp:=kp) (cast (by kernel_rfl) ht)
theorem A6x2i (Q:QT) (R3:T3) (x11 x10:Int) (a9:Pt) (n9 c9:Nat) (e9:Bool) (i1 o1:Nat) (a3:Pt) (n3 c3:Nat) (e3:Bool) (h:Zaa) (ht :
 R3 i1 o1 a3 n3 c3 e3 a9 n9 c9 e9 x10 (IntKind.wrap .i64 (x11 + 1)) h):Ynk Q R3 x11 x10 a9 n9 c9 e9 i1 o1 a3 n3 c3 e3 h:=
 At.mk (cast (by kernel_rfl) ht)
theorem call (a0x0:Pt) (n0x0 c0x0:Nat) (e0x0:Bool) (a0x1:Pt) (n0x1 c0x1:Nat) (e0x1:Bool) (h:Zaa) (Q:QT) (ht :
 Zdn (h ++ [.cells Zan [.slice a0x0 n0x0 c0x0 e0x0,.slice a0x1 n0x1 c0x1 e0x1] false]) fun A=>Zdn (A ++ [.cells Zfz [] false]) fun B=>xSl (Zae B (.ptr (h.length,0 + 1))) fun C D E F=>L3 Q h.length 0 (A.length,0) 0 0 true C D E F (((D:Nat):Int)) 0 B):Zad pg Zhq [.agg [.slice a0x0 n0x0 c0x0 e0x0,.slice a0x1 n0x1 c0x1 e0x1]] h Q:=
 Zad.of_body kp (c:=cod fn) (fn:=fn) Go.Proofs.Try.func39 (by kernel_rfl) (by kernel_rfl) (Nat.le_of_ble_eq_true (by kernel_rfl))
  (cast (by kernel_rfl) ht)
end Zco
namespace Zkk
noncomputable abbrev fn:Func:=Go.Proofs.Try.f12
def kp:Zcn:=[]
noncomputable def C (p:List Nat):Code:=(cod fn).sub p
def KR (Q:QT):KT:=Zfe pg fn.results.toList Q
theorem call (a0x0:Pt) (n0x0 c0x0:Nat) (e0x0:Bool) (a0x1:Pt) (n0x1 c0x1:Nat) (e0x1:Bool) (h:Zaa) (Q:QT) (ht :
 Zdn (h ++ [.cells Zan [.slice a0x0 n0x0 c0x0 e0x0,.slice a0x1 n0x1 c0x1 e0x1] false]) fun A=>Zcx (Zbk A (.ptr (h.length,0)) 2) fun B=>Zal B fun B C=>xSl B fun B D E F=>Zal C fun C G=>xSl C fun C H I J=>Zcq G (Zad pg Zhw [.agg [.slice B D E F,.slice C H I J]] A fun A B=>
 Yac A fun A=>Zal A fun A C=>xSl A fun A A D D=>Zal C fun C D=>Zbr C fun C=>Zcq D (bcase C (Q (.bool ((((A:Nat):Int):Int) == 0)) B) (Q (.bool false) B)))):Zad pg Zht [.agg [.slice a0x0 n0x0 c0x0 e0x0,.slice a0x1 n0x1 c0x1 e0x1]] h Q:=
 Zad.of_body kp (c:=cod fn) (fn:=fn) Go.Proofs.Try.func12 (by kernel_rfl) (by kernel_rfl) (Nat.le_of_ble_eq_true (by kernel_rfl))
  (cast (by kernel_rfl) ht)
end Zkk
namespace Zkx
noncomputable abbrev fn:Func:=Go.Proofs.Try.f10
def kp:Zcn:=[]
noncomputable def C (p:List Nat):Code:=(cod fn).sub p
def KR (Q:QT):KT:=Zfe pg fn.results.toList Q
theorem call (a0x0:Pt) (n0x0 c0x0:Nat) (e0x0:Bool) (a0x1:Pt) (n0x1 c0x1:Nat) (e0x1:Bool) (h:Zaa) (Q:QT) (ht :
 Zdn (h ++ [.cells Zan [.slice a0x0 n0x0 c0x0 e0x0,.slice a0x1 n0x1 c0x1 e0x1] false]) fun A=>Zcx (Zbk A (.ptr (h.length,0)) 2) fun B=>Zal B fun B C=>xSl B fun B D E F=>Zal C fun C G=>xSl C fun C H I J=>Zcq G (Zad pg Zhk [.agg [.slice B D E F,.slice C H I J]] A fun A B=>
 Zbr A fun A=>bcase A (Zcx (Zbk B (.ptr (h.length,0)) 2) fun A=>Zal A fun A C=>xSl A fun A D E F=>Zal C fun C G=>xSl C fun C H I J=>Zcq G (Zad pg Zhq [.agg [.slice A D E F,.slice C H I J]] B fun A C=>
 xSl A fun A A D D=>Q (.bool ((((A:Nat):Int):Int) == 0)) C)) (Q (.bool false) B))):Zad pg Zho [.agg [.slice a0x0 n0x0 c0x0 e0x0,.slice a0x1 n0x1 c0x1 e0x1]] h Q:=
 Zad.of_body kp (c:=cod fn) (fn:=fn) Go.Proofs.Try.func10 (by kernel_rfl) (by kernel_rfl) (Nat.le_of_ble_eq_true (by kernel_rfl))
  (cast (by kernel_rfl) ht)
end Zkx
end Go.Sim

set_option maxRecDepth 100000
set_option maxHeartbeats 0
set_option linter.unusedVariables false
namespace Go.Sim
open Go Go.RowKit
end Go.Sim

set_option maxRecDepth 100000
set_option maxHeartbeats 0
set_option linter.unusedVariables false
namespace Go.Sim
open Go Go.RowKit
namespace Zel
noncomputable abbrev fn:Func:=Go.Proofs.Try.f53
def kp:Zcn:=[(3000006,[7]),(1000006,[6,7,19]),(2000009,[19,6,7]),(4000010,[19,6,7])]
noncomputable def C (p:List Nat):Code:=(cod fn).sub p
def KR (Q:QT):KT:=Zfe pg fn.results.toList Q
abbrev T6:=Nat→Nat→Nat→Nat→Int→Zaa→Prop
def E6 (R6:T6) (env:Env) (h:Zaa):Prop:=Zcb 6 env fun v env=>Zfg v fun a=>Zbf a fun i6 o6=>Zcb 7 env fun v env=>Zfg v fun a=>Zbf a fun i7 o7=>Zcb 19 env fun v env=>Zek .i64 v fun x19=>Zkg env (R6 i6 o6 i7 o7 x19 h)
theorem Zmk {R6:T6} {env:Env} {h:Zaa} (hi:E6 R6 env h):∃ i6,∃ o6,∃ i7,∃ o7,∃ x19,env=[(6,.ptr (i6,o6)),(7,.ptr (i7,o7)),(19,.int .i64 x19)]∧R6 i6 o6 i7 o7 x19 h:=by
 unfold E6 at hi
 have hi0:=hi
 clear hi
 obtain ⟨_,_,rfl,hi1⟩:=Zaf hi0
 obtain ⟨a,rfl,hi2⟩:=Zbp hi1
 obtain ⟨i6,o6,rfl,hi3⟩:=Zbi hi2
 obtain ⟨_,_,rfl,hi4⟩:=Zaf hi3
 obtain ⟨a,rfl,hi5⟩:=Zbp hi4
 obtain ⟨i7,o7,rfl,hi6⟩:=Zbi hi5
 obtain ⟨_,_,rfl,hi7⟩:=Zaf hi6
 obtain ⟨x19,rfl,hi8⟩:=Zau hi7
 obtain ⟨rfl,hi9⟩:=Zbm hi8
 have hi:=hi9
 exact ⟨i6,o6,i7,o7,x19,rfl,hi⟩
def K0 (Q:QT):KT:=andThen (fun env' h'=>(match kp.find 4000011 with | some ks=>Den pg fn.ntmps (C [1,1,1,1,1]) (env'.keep ks) h' (KR Q) | none=>den pg fn.ntmps kp (C [1,1,1,1,1]) env' h' (KR Q))) (KR Q)
def K1 (Q:QT):KT:=Zcv 0 (K0 Q)
def K2 (Q:QT):KT:=left kp 6 (K1 Q)
def K3 (Q:QT) (R6:T6):KT:=rnd ((kp.find 1000006).getD []) (E6 R6) (K2 Q)
def L6 (Q:QT) (i6 o6 i7 o7:Nat) (x19:Int) (h:Zaa):Prop:=Zeh (Den pg fn.ntmps (C [1,1,1,1,0,1,0,0])) ((kp.find 1000006).getD []) (K2 Q) [(6,.ptr (i6,o6)),(7,.ptr (i7,o7)),(19,.int .i64 x19)] h
def J10 (Q:QT) (R6:T6) (x19:Int) (i6 o6 i7 o7:Nat) (h:Zaa):Prop:=Den pg fn.ntmps (C [1,1,1,1,0,1,0,0,1,1,1]) [(19,.int .i64 x19),(6,.ptr (i6,o6)),(7,.ptr (i7,o7))] h (K3 Q R6)
def Yih (Q:QT) (i7 o7:Nat) (h:Zaa):Prop:=At (K1 Q) (.exit 0) [(7,.ptr (i7,o7))] h
def L6t (Q:QT) (R6:T6) (i6 o6 i7 o7:Nat) (x19:Int) (h:Zaa):Prop:=
 bcase (decide ((x19:Int) < 12)) ((0≤(x19:Int)∧(x19:Int) < (12:Nat))∧(Zcr .u8 (Zae h (.ptr (i6,o6 + (Int.toNat x19) * 2 + 0))) fun A=>bcase (!((A:Int) == 0)) ((0≤(x19:Int)∧(x19:Int) < (12:Nat))∧(Zcx (Zbk h (.ptr (i6,o6 + (Int.toNat x19) * 2)) 2) fun A=>Zal A fun A B=>Zcr .u8 A fun A=>Zal B fun B C=>xSl B fun B D E F=>Zcq C (Zad pg Zip [.ptr (i6,o6),.agg [.int .u8 A,.slice B D E F]] h fun A B=>
 Zpz A fun A=>Zal A fun A C=>Zcr .u8 A fun A=>Zal C fun C D=>xSl C fun C E F G=>Zcq D ((0≤(x19:Int)∧(x19:Int) < (12:Nat))∧(Zch (Zbc B (.ptr (i7,o7 + (Int.toNat x19) * 2)) [.int .u8 A,.slice C E F G]) fun A=>J10 Q R6 x19 i6 o6 i7 o7 A))))) (J10 Q R6 x19 i6 o6 i7 o7 h))) (Yih Q i7 o7 h)
theorem Zzd (Q:QT) (R6:T6) (i6 o6 i7 o7:Nat) (x19:Int) (h:Zaa) (ht:L6t Q R6 i6 o6 i7 o7 x19 h):Den pg fn.ntmps (C [1,1,1,1,0,1,0,0]) [(6,.ptr (i6,o6)),(7,.ptr (i7,o7)),(19,.int .i64 x19)] h (K3 Q R6):=
 Zbe (kp:=kp) (cast (by kernel_rfl) ht)
theorem L6ind (Q:QT) (i6 o6 i7 o7:Nat) {G:Type} (J:G→Int→Zaa→Prop) (m:G→Nat)
 (hr:∀ (g:G) (x19:Int) (h:Zaa),J g x19 h→∀ (R6:T6),(∀ g' (x19:Int) (h:Zaa),m g' < m g→J g' x19 h→R6 i6 o6 i7 o7 x19 h)→L6t Q R6 i6 o6 i7 o7 x19 h)
 (g:G) (x19:Int) (h:Zaa) (hj:J g x19 h):L6 Q i6 o6 i7 o7 x19 h:=by
 let P:=fun (K:Int→Zaa→Prop) i6' o6' i7' o7' x19 h=>i6=i6'∧o6=o6'∧i7=i7'∧o7=o7'∧K x19 h
 refine Zeh.inv2 (fun g=>E6 (P (J g))) (fun g=>E6 (P fun x19 h=>∃ g',m g' < m g∧J g' x19 h)) m ?_ ?_ g ⟨rfl,rfl,rfl,rfl,hj⟩
 ·intro g env h hi
  obtain ⟨i6',o6',i7',o7',x19,rfl,rfl,rfl,rfl,rfl,hj⟩:=Zmk hi
  exact Zzd Q _ i6 o6 i7 o7 x19 h (hr g x19 h hj (P fun x19 h=>∃ g',m g' < m g∧J g' x19 h) fun g' x19 h hlt hj=>⟨rfl,rfl,rfl,rfl,g',hlt,hj⟩)
 ·intro g env h hi
  obtain ⟨i6',o6',i7',o7',x19,rfl,rfl,rfl,rfl,rfl,g',hlt,hj⟩:=Zmk hi
  exact ⟨g',hlt,rfl,rfl,rfl,rfl,hj⟩
theorem J10i (Q:QT) (R6:T6) (x19:Int) (i6 o6 i7 o7:Nat) (h:Zaa) (ht :
 R6 i6 o6 i7 o7 (IntKind.wrap .i64 (x19 + 1)) h):J10 Q R6 x19 i6 o6 i7 o7 h:=
 Zbe (kp:=kp) (cast (by kernel_rfl) ht)
theorem A6x0i (Q:QT) (i7 o7:Nat) (h:Zaa) (ht :
 Q (.tup [.ptr (i7,o7),.bool true]) h):Yih Q i7 o7 h:=
 At.mk (cast (by kernel_rfl) ht)
theorem call (x0x0:Int) (a0x1:Pt) (n0x1 c0x1:Nat) (e0x1:Bool) (x1x0:Int) (a1x1:Pt) (n1x1 c1x1:Nat) (e1x1:Bool) (h:Zaa) (Q:QT) (ht :
 Zdn (h ++ [.cells Zab [.int .u8 x0x0,.slice a0x1 n0x1 c0x1 e0x1] false]) fun A=>Zdn (A ++ [.cells Zab [.int .u8 x1x0,.slice a1x1 n1x1 c1x1 e1x1] false]) fun B=>Zdn (B ++ [.cells Zcy [.int .u8 0,.slice none 0 0 true,.int .u8 0,.slice none 0 0 true,.int .u8 0,.slice none 0 0 true,.int .u8 0,.slice none 0 0 true,.int .u8 0,.slice none 0 0 true,.int .u8 0,.slice none 0 0 true,.int .u8 0,.slice none 0 0 true,.int .u8 0,.slice none 0 0 true,.int .u8 0,.slice none 0 0 true,.int .u8 0,.slice none 0 0 true,.int .u8 0,.slice none 0 0 true,.int .u8 0,.slice none 0 0 true] false]) fun C=>Zcx (Zbk C (.ptr (h.length,0)) 2) fun D=>Zal D fun D E=>Zcr .u8 D fun D=>Zal E fun E F=>xSl E fun E G H I=>Zcq F (Zcx (Zbk C (.ptr (A.length,0)) 2) fun A=>Zal A fun A F=>Zcr .u8 A fun A=>Zal F fun F J=>xSl F fun F K L M=>Zcq J (Zad pg Zck [.ptr (B.length,0),.agg [.int .u8 D,.slice E G H I],.agg [.int .u8 A,.slice F K L M]] C fun A C=>
 Zbr A fun A=>bcase (!A) (Q (.tup [.ptr (B.length,0),.bool false]) C) (Zdn (C ++ [.cells Zcy [.int .u8 0,.slice none 0 0 true,.int .u8 0,.slice none 0 0 true,.int .u8 0,.slice none 0 0 true,.int .u8 0,.slice none 0 0 true,.int .u8 0,.slice none 0 0 true,.int .u8 0,.slice none 0 0 true,.int .u8 0,.slice none 0 0 true,.int .u8 0,.slice none 0 0 true,.int .u8 0,.slice none 0 0 true,.int .u8 0,.slice none 0 0 true,.int .u8 0,.slice none 0 0 true,.int .u8 0,.slice none 0 0 true] false]) fun A=>L6 Q B.length 0 C.length 0 0 A)))):Zad pg Zke [.agg [.int .u8 x0x0,.slice a0x1 n0x1 c0x1 e0x1],.agg [.int .u8 x1x0,.slice a1x1 n1x1 c1x1 e1x1]] h Q:=
 Zad.of_body kp (c:=cod fn) (fn:=fn) Go.Proofs.Try.func53 (by kernel_rfl) (by kernel_rfl) (Nat.le_of_ble_eq_true (by kernel_rfl))
  (cast (by kernel_rfl) ht)
end Zel
namespace Zjf
noncomputable abbrev fn:Func:=Go.Proofs.Try.f31
def kp:Zcn:=[(4000005,[5,7]),(2000005,[10])]
noncomputable def C (p:List Nat):Code:=(cod fn).sub p
def KR (Q:QT):KT:=Zfe pg fn.results.toList Q
def J5 (Q:QT) (i5 o5 i7 o7:Nat) (h:Zaa):Prop:=Den pg fn.ntmps (C [1,1,1,1]) [(5,.ptr (i5,o5)),(7,.ptr (i7,o7))] h (KR Q)
theorem J5i (Q:QT) (i5 o5 i7 o7:Nat) (h:Zaa) (ht :
 Zcx (Zbk h (.ptr (i5,o5)) 2) fun A=>Zal A fun A B=>Zcr .u8 A fun A=>Zal B fun B C=>xSl B fun B D E F=>Zcq C (Zcx (Zbk h (.ptr (i7,o7)) 2) fun C=>Zal C fun C G=>Zcr .u8 C fun C=>Zal G fun G H=>xSl G fun G I J K=>Zcq H ((Zbk h (.ptr (i5,o5)) 2=Zbk h (.ptr (i5,o5)) 2)∧Zad pg Zhb [.agg [.int .u8 C,.slice G I J K]] h fun C G=>
 Zpz C fun C=>Zal C fun C H=>Zcr .u8 C fun C=>Zal H fun H I=>xSl H fun H J K L=>Zcq I ((Zbk G (.ptr (i5,o5)) 2=Zbk h (.ptr (i5,o5)) 2)∧Zad pg Zke [.agg [.int .u8 A,.slice B D E F],.agg [.int .u8 C,.slice H J K L]] G fun A B=>
 Yac A fun A=>Zal A fun A C=>Zfg A fun A=>Zal C fun A C=>Zbr A fun A=>Zcq C (Q (.bool (!A)) B))))):J5 Q i5 o5 i7 o7 h:=
 Zbe (kp:=kp) (cast (by kernel_rfl) ht)
theorem call (x0 x1:List Nat) (h:Zaa) (Q:QT) (ht :
 Zad pg Zgx [.str x0] h fun A B=>
 Yac A fun A=>Zal A fun A C=>Zpz A fun A=>Zal A fun A D=>Zcr .u8 A fun A=>Zal D fun D E=>xSl D fun D F G H=>Zcq E (Zal C fun C E=>Zbr C fun C=>Zcq E (Zdn (B ++ [.cells Zab [.int .u8 0,.slice none 0 0 true] false]) fun E=>Zch (Zbc E (.ptr (B.length,0)) [.int .u8 A,.slice D F G H]) fun A=>Zad pg Zgx [.str x1] A fun A D=>
 Yac A fun A=>Zal A fun A E=>Zpz A fun A=>Zal A fun A F=>Zcr .u8 A fun A=>Zal F fun F G=>xSl F fun F H I J=>Zcq G (Zal E fun E G=>Zbr E fun E=>Zcq G (Zdn (D ++ [.cells Zab [.int .u8 0,.slice none 0 0 true] false]) fun G=>Zch (Zbc G (.ptr (D.length,0)) [.int .u8 A,.slice F H I J]) fun A=>bcase (!C) (Q (.bool false) A) (bcase (!E) (Q (.bool false) A) (J5 Q B.length 0 D.length 0 A))))))):Zad pg Zix [.str x0,.str x1] h Q:=
 Zad.of_body kp (c:=cod fn) (fn:=fn) Go.Proofs.Try.func31 (by kernel_rfl) (by kernel_rfl) (Nat.le_of_ble_eq_true (by kernel_rfl))
  (cast (by kernel_rfl) ht)
end Zjf
end Go.Sim

set_option maxRecDepth 100000
set_option maxHeartbeats 0
set_option linter.unusedVariables false
namespace Go.Sim
open Go Go.RowKit
namespace Zhc
noncomputable abbrev fn:Func:=Go.Proofs.Try.f98
def kp:Zcn:=[(3000004,[5,4]),(1000004,[0,4,5,16,17,18]),(2000006,[18,17,16,5,0,4])]
noncomputable def C (p:List Nat):Code:=(cod fn).sub p
def KR (Q:QT):KT:=Zfe pg fn.results.toList Q
abbrev T4:=Pt→Nat→Nat→Nat→Nat→Pt→Nat→Nat→Bool→Int→Int→Zaa→Prop
def E4 (R4:T4) (env:Env) (h:Zaa):Prop:=Zcb 0 env fun v env=>Zfg v fun a0=>Zcb 4 env fun v env=>Zfg v fun a=>Zbf a fun i4 o4=>Zcb 5 env fun v env=>Zfg v fun a=>Zbf a fun i5 o5=>Zcb 16 env fun v env=>xSl v fun a16 n16 c16 e16=>Zcb 17 env fun v env=>Zek .i64 v fun x17=>Zcb 18 env fun v env=>Zek .i64 v fun x18=>Zkg env (R4 a0 i4 o4 i5 o5 a16 n16 c16 e16 x17 x18 h)
theorem Zib {R4:T4} {env:Env} {h:Zaa} (hi:E4 R4 env h):∃ a0,∃ i4,∃ o4,∃ i5,∃ o5,∃ a16,∃ n16,∃ c16,∃ e16,∃ x17,∃ x18,env=[(0,.ptr a0),(4,.ptr (i4,o4)),(5,.ptr (i5,o5)),(16,.slice a16 n16 c16 e16),(17,.int .i64 x17),(18,.int .i64 x18)]∧R4 a0 i4 o4 i5 o5 a16 n16 c16 e16 x17 x18 h:=by
 unfold E4 at hi
 have hi0:=hi
 clear hi
 obtain ⟨_,_,rfl,hi1⟩:=Zaf hi0
 obtain ⟨a0,rfl,hi2⟩:=Zbp hi1
 obtain ⟨_,_,rfl,hi3⟩:=Zaf hi2
 obtain ⟨a,rfl,hi4⟩:=Zbp hi3
 obtain ⟨i4,o4,rfl,hi5⟩:=Zbi hi4
 obtain ⟨_,_,rfl,hi6⟩:=Zaf hi5
 obtain ⟨a,rfl,hi7⟩:=Zbp hi6
 obtain ⟨i5,o5,rfl,hi8⟩:=Zbi hi7
 obtain ⟨_,_,rfl,hi9⟩:=Zaf hi8
 obtain ⟨a16,n16,c16,e16,rfl,hi10⟩:=Zcc hi9
 obtain ⟨_,_,rfl,hi11⟩:=Zaf hi10
 obtain ⟨x17,rfl,hi12⟩:=Zau hi11
 obtain ⟨_,_,rfl,hi13⟩:=Zaf hi12
 obtain ⟨x18,rfl,hi14⟩:=Zau hi13
 obtain ⟨rfl,hi15⟩:=Zbm hi14
 have hi:=hi15
 exact ⟨a0,i4,o4,i5,o5,a16,n16,c16,e16,x17,x18,rfl,hi⟩
def K0 (Q:QT):KT:=andThen (fun env' h'=>(match kp.find 4000008 with | some ks=>Den pg fn.ntmps (C [1,1,1,1]) (env'.keep ks) h' (KR Q) | none=>den pg fn.ntmps kp (C [1,1,1,1]) env' h' (KR Q))) (KR Q)
def K1 (Q:QT):KT:=Zcv 0 (K0 Q)
def K2 (Q:QT):KT:=left kp 4 (K1 Q)
def K3 (Q:QT) (R4:T4):KT:=rnd ((kp.find 1000004).getD []) (E4 R4) (K2 Q)
def L4 (Q:QT) (a0:Pt) (i4 o4 i5 o5:Nat) (a16:Pt) (n16 c16:Nat) (e16:Bool) (x17 x18:Int) (h:Zaa):Prop:=Zeh (Den pg fn.ntmps (C [1,1,1,0,1,0,0])) ((kp.find 1000004).getD []) (K2 Q) [(0,.ptr a0),(4,.ptr (i4,o4)),(5,.ptr (i5,o5)),(16,.slice a16 n16 c16 e16),(17,.int .i64 x17),(18,.int .i64 x18)] h
def Zxe (Q:QT) (i5 o5 i4 o4:Nat) (h:Zaa):Prop:=At (K1 Q) (.exit 0) [(5,.ptr (i5,o5)),(4,.ptr (i4,o4))] h
def L4t (Q:QT) (R4:T4) (a0:Pt) (i4 o4 i5 o5:Nat) (a16:Pt) (n16 c16:Nat) (e16:Bool) (x17 x18:Int) (h:Zaa):Prop:=
 bcase (decide ((x18:Int) < x17)) ((0≤(x18:Int)∧(x18:Int) < (n16:Nat))∧(Zbf a16 fun A B=>Zcx (Zbk h (.ptr (A,B + (Int.toNat x18) * 2)) 2) fun A=>Zal A fun A B=>Zcr .u8 A fun A=>Zal B fun B C=>xSl B fun B D E F=>Zcq C (Zdn (h ++ [.cells Zab [.int .u8 0,.slice none 0 0 true] false]) fun C=>Zch (Zbc C (.ptr (h.length,0)) [.int .u8 A,.slice B D E F]) fun A=>xSl (Zae A (.ptr (i5,o5 + 1))) fun B C D E=>Zcx (Zbk A (.ptr (h.length,0)) 2) fun F=>Zal F fun F G=>Zcr .u8 F fun F=>Zal G fun G H=>xSl G fun G I J K=>Zcq H ((Zae A (.ptr (i5,o5 + 1))=Zae A (.ptr (i5,o5 + 1)))∧Zad pg Zip [.ptr a0,.agg [.int .u8 F,.slice G I J K]] A fun F G=>
 Zpz F fun F=>Zal F fun F H=>Zcr .u8 F fun F=>Zal H fun H I=>xSl H fun H J K L=>Zcq I ((Zae G (.ptr (i5,o5 + 1))=Zae A (.ptr (i5,o5 + 1)))∧Zdn (G ++ [.cells Zab [.int .u8 F,.slice H J K L] false]) fun A=>(Zae A (.ptr (i5,o5 + 1))=Zae G (.ptr (i5,o5 + 1)))∧Zdv pg Zfq A (.slice B C D E) (.slice (G.length,0) 1 1 true) fun A B=>xSl A fun A C D E=>Zch (Zbc B (.ptr (i5,o5 + 1)) [.slice A C D E]) fun A=>R4 a0 i4 o4 i5 o5 a16 n16 c16 e16 x17 (IntKind.wrap .i64 (x18 + 1)) A))))) (Zxe Q i5 o5 i4 o4 h)
theorem Zrb (Q:QT) (R4:T4) (a0:Pt) (i4 o4 i5 o5:Nat) (a16:Pt) (n16 c16:Nat) (e16:Bool) (x17 x18:Int) (h:Zaa) (ht:L4t Q R4 a0 i4 o4 i5 o5 a16 n16 c16 e16 x17 x18 h):Den pg fn.ntmps (C [1,1,1,0,1,0,0]) [(0,.ptr a0),(4,.ptr (i4,o4)),(5,.ptr (i5,o5)),(16,.slice a16 n16 c16 e16),(17,.int .i64 x17),(18,.int .i64 x18)] h (K3 Q R4):=
 Zbe (kp:=kp) (cast (by kernel_rfl) ht)
theorem L4ind (Q:QT) (a0:Pt) (i4 o4 i5 o5:Nat) (a16:Pt) (n16 c16:Nat) (e16:Bool) (x17:Int) {G:Type} (J:G→Int→Zaa→Prop) (m:G→Nat)
 (hr:∀ (g:G) (x18:Int) (h:Zaa),J g x18 h→∀ (R4:T4),(∀ g' (x18:Int) (h:Zaa),m g' < m g→J g' x18 h→R4 a0 i4 o4 i5 o5 a16 n16 c16 e16 x17 x18 h)→L4t Q R4 a0 i4 o4 i5 o5 a16 n16 c16 e16 x17 x18 h)
 (g:G) (x18:Int) (h:Zaa) (hj:J g x18 h):L4 Q a0 i4 o4 i5 o5 a16 n16 c16 e16 x17 x18 h:=by
 let P:=fun (K:Int→Zaa→Prop) a0' i4' o4' i5' o5' a16' n16' c16' e16' x17' x18 h=>a0=a0'∧i4=i4'∧o4=o4'∧i5=i5'∧o5=o5'∧a16=a16'∧n16=n16'∧c16=c16'∧e16=e16'∧x17=x17'∧K x18 h
 refine Zeh.inv2 (fun g=>E4 (P (J g))) (fun g=>E4 (P fun x18 h=>∃ g',m g' < m g∧J g' x18 h)) m ?_ ?_ g ⟨rfl,rfl,rfl,rfl,rfl,rfl,rfl,rfl,rfl,rfl,hj⟩
 ·intro g env h hi
  obtain ⟨a0',i4',o4',i5',o5',a16',n16',c16',e16',x17',x18,rfl,rfl,rfl,rfl,rfl,rfl,rfl,rfl,rfl,rfl,rfl,hj⟩:=Zib hi
  exact Zrb Q _ a0 i4 o4 i5 o5 a16 n16 c16 e16 x17 x18 h (hr g x18 h hj (P fun x18 h=>∃ g',m g' < m g∧J g' x18 h) fun g' x18 h hlt hj=>⟨rfl,rfl,rfl,rfl,rfl,rfl,rfl,rfl,rfl,rfl,g',hlt,hj⟩)
 ·intro g env h hi
  obtain ⟨a0',i4',o4',i5',o5',a16',n16',c16',e16',x17',x18,rfl,rfl,rfl,rfl,rfl,rfl,rfl,rfl,rfl,rfl,rfl,g',hlt,hj⟩:=Zib hi
  exact ⟨g',hlt,rfl,rfl,rfl,rfl,rfl,rfl,rfl,rfl,rfl,rfl,hj⟩
theorem A4x0i (Q:QT) (i5 o5 i4 o4:Nat) (h:Zaa) (ht :
 Zcx (Zbk h (.ptr (i5,o5)) 2) fun A=>Zal A fun A B=>Zcr .u8 A fun A=>Zal B fun B C=>xSl B fun B D E F=>Zcq C (Zch (Zbc h (.ptr (i4,o4)) [.int .u8 A,.slice B D E F]) fun A=>Zcx (Zbk A (.ptr (i4,o4)) 2) fun B=>Zal B fun B C=>Zcr .u8 B fun B=>Zal C fun C D=>xSl C fun C E F G=>Zcq D (Q (.agg [.int .u8 B,.slice C E F G]) A))):Zxe Q i5 o5 i4 o4 h:=
 At.mk (cast (by kernel_rfl) ht)
theorem call (a0:Pt) (x1x0:Int) (a1x1:Pt) (n1x1 c1x1:Nat) (e1x1:Bool) (h:Zaa) (Q:QT) (ht :
 Zdn (h ++ [.cells Zab [.int .u8 x1x0,.slice a1x1 n1x1 c1x1 e1x1] false]) fun A=>Zdn (A ++ [.cells Zab [.int .u8 0,.slice none 0 0 true] false]) fun B=>Zcx (Zbk B (.ptr (h.length,0)) 2) fun C=>Zal C fun C D=>Zcr .u8 C fun C=>Zal D fun D E=>xSl D fun D F G H=>Zcq E (Zad pg Zfu [.ptr a0,.agg [.int .u8 C,.slice D F G H]] B fun B C=>
 Zpz B fun B=>Zal B fun B D=>Zcr .u8 B fun B=>Zal D fun D E=>xSl D fun D F G H=>Zcq E (Zch (Zbc C (.ptr (h.length,0)) [.int .u8 B,.slice D F G H]) fun B=>Zcr .u8 (Zae B (.ptr (h.length,0 + 0))) fun C=>Zdn (B ++ [.cells Zab [] false]) fun D=>Zdn (D ++ [.cells Zab [.int .u8 0,.slice none 0 0 true] false]) fun E=>Zch (Zbc E (.ptr (D.length,0)) [.int .u8 C,.slice (B.length,0) 0 0 true]) fun B=>xSl (Zae B (.ptr (h.length,0 + 1))) fun C E F G=>L4 Q a0 A.length 0 D.length 0 C E F G (((E:Nat):Int)) 0 B))):Zad pg Zip [.ptr a0,.agg [.int .u8 x1x0,.slice a1x1 n1x1 c1x1 e1x1]] h Q:=
 Zad.of_body kp (c:=cod fn) (fn:=fn) Go.Proofs.Try.func98 (by kernel_rfl) (by kernel_rfl) (Nat.le_of_ble_eq_true (by kernel_rfl))
  (cast (by kernel_rfl) ht)
end Zhc
namespace Zdu
noncomputable abbrev fn:Func:=Go.Proofs.Try.f77
def kp:Zcn:=[(4000005,[1,2,3]),(3000006,[3,2]),(1000006,[2,3,21,22,23]),(2000008,[23,22,21,3,2])]
noncomputable def C (p:List Nat):Code:=(cod fn).sub p
def KR (Q:QT):KT:=Zfe pg fn.results.toList Q
abbrev T6:=Nat→Nat→Nat→Nat→Pt→Nat→Nat→Bool→Int→Int→Zaa→Prop
def E6 (R6:T6) (env:Env) (h:Zaa):Prop:=Zcb 2 env fun v env=>Zfg v fun a=>Zbf a fun i2 o2=>Zcb 3 env fun v env=>Zfg v fun a=>Zbf a fun i3 o3=>Zcb 21 env fun v env=>xSl v fun a21 n21 c21 e21=>Zcb 22 env fun v env=>Zek .i64 v fun x22=>Zcb 23 env fun v env=>Zek .i64 v fun x23=>Zkg env (R6 i2 o2 i3 o3 a21 n21 c21 e21 x22 x23 h)
theorem Zmk {R6:T6} {env:Env} {h:Zaa} (hi:E6 R6 env h):∃ i2,∃ o2,∃ i3,∃ o3,∃ a21,∃ n21,∃ c21,∃ e21,∃ x22,∃ x23,env=[(2,.ptr (i2,o2)),(3,.ptr (i3,o3)),(21,.slice a21 n21 c21 e21),(22,.int .i64 x22),(23,.int .i64 x23)]∧R6 i2 o2 i3 o3 a21 n21 c21 e21 x22 x23 h:=by
 unfold E6 at hi
 have hi0:=hi
 clear hi
 obtain ⟨_,_,rfl,hi1⟩:=Zaf hi0
 obtain ⟨a,rfl,hi2⟩:=Zbp hi1
 obtain ⟨i2,o2,rfl,hi3⟩:=Zbi hi2
 obtain ⟨_,_,rfl,hi4⟩:=Zaf hi3
 obtain ⟨a,rfl,hi5⟩:=Zbp hi4
 obtain ⟨i3,o3,rfl,hi6⟩:=Zbi hi5
 obtain ⟨_,_,rfl,hi7⟩:=Zaf hi6
 obtain ⟨a21,n21,c21,e21,rfl,hi8⟩:=Zcc hi7
 obtain ⟨_,_,rfl,hi9⟩:=Zaf hi8
 obtain ⟨x22,rfl,hi10⟩:=Zau hi9
 obtain ⟨_,_,rfl,hi11⟩:=Zaf hi10
 obtain ⟨x23,rfl,hi12⟩:=Zau hi11
 obtain ⟨rfl,hi13⟩:=Zbm hi12
 have hi:=hi13
 exact ⟨i2,o2,i3,o3,a21,n21,c21,e21,x22,x23,rfl,hi⟩
def K0 (Q:QT):KT:=andThen (fun env' h'=>(match kp.find 4000010 with | some ks=>Den pg fn.ntmps (C [1,1,1,1]) (env'.keep ks) h' (KR Q) | none=>den pg fn.ntmps kp (C [1,1,1,1]) env' h' (KR Q))) (KR Q)
def K1 (Q:QT):KT:=Zcv 0 (K0 Q)
def K2 (Q:QT):KT:=left kp 6 (K1 Q)
def K3 (Q:QT) (R6:T6):KT:=rnd ((kp.find 1000006).getD []) (E6 R6) (K2 Q)
def J5 (Q:QT) (i1 o1 i2 o2 i3 o3:Nat) (h:Zaa):Prop:=Den pg fn.ntmps (C [1,1,1]) [(1,.ptr (i1,o1)),(2,.ptr (i2,o2)),(3,.ptr (i3,o3))] h (KR Q)
def L6 (Q:QT) (i2 o2 i3 o3:Nat) (a21:Pt) (n21 c21:Nat) (e21:Bool) (x22 x23:Int) (h:Zaa):Prop:=Zeh (Den pg fn.ntmps (C [1,1,1,0,1,0,0])) ((kp.find 1000006).getD []) (K2 Q) [(2,.ptr (i2,o2)),(3,.ptr (i3,o3)),(21,.slice a21 n21 c21 e21),(22,.int .i64 x22),(23,.int .i64 x23)] h
def Yih (Q:QT) (i3 o3 i2 o2:Nat) (h:Zaa):Prop:=At (K1 Q) (.exit 0) [(3,.ptr (i3,o3)),(2,.ptr (i2,o2))] h
theorem J5i (Q:QT) (i1 o1 i2 o2 i3 o3:Nat) (h:Zaa) (ht :
 xSl (Zae h (.ptr (i1,o1 + 1))) fun A B C D=>L6 Q i2 o2 i3 o3 A B C D (((B:Nat):Int)) 0 h):J5 Q i1 o1 i2 o2 i3 o3 h:=
 Zbe (kp:=kp) (cast (by kernel_rfl) ht)
def L6t (Q:QT) (R6:T6) (i2 o2 i3 o3:Nat) (a21:Pt) (n21 c21:Nat) (e21:Bool) (x22 x23:Int) (h:Zaa):Prop:=
 bcase (decide ((x23:Int) < x22)) ((0≤(x23:Int)∧(x23:Int) < (n21:Nat))∧(Zbf a21 fun A B=>Zcx (Zbk h (.ptr (A,B + (Int.toNat x23) * 2)) 2) fun A=>Zal A fun A B=>Zcr .u8 A fun A=>Zal B fun B C=>xSl B fun B D E F=>Zcq C (Zdn (h ++ [.cells Zab [.int .u8 0,.slice none 0 0 true] false]) fun C=>Zch (Zbc C (.ptr (h.length,0)) [.int .u8 A,.slice B D E F]) fun A=>xSl (Zae A (.ptr (i3,o3 + 1))) fun B C D E=>Zcx (Zbk A (.ptr (h.length,0)) 2) fun F=>Zal F fun F G=>Zcr .u8 F fun F=>Zal G fun G H=>xSl G fun G I J K=>Zcq H ((Zae A (.ptr (i3,o3 + 1))=Zae A (.ptr (i3,o3 + 1)))∧Zad pg Zhb [.agg [.int .u8 F,.slice G I J K]] A fun F G=>
 Zpz F fun F=>Zal F fun F H=>Zcr .u8 F fun F=>Zal H fun H I=>xSl H fun H J K L=>Zcq I ((Zae G (.ptr (i3,o3 + 1))=Zae A (.ptr (i3,o3 + 1)))∧Zdn (G ++ [.cells Zab [.int .u8 F,.slice H J K L] false]) fun A=>(Zae A (.ptr (i3,o3 + 1))=Zae G (.ptr (i3,o3 + 1)))∧Zdv pg Zfq A (.slice B C D E) (.slice (G.length,0) 1 1 true) fun A B=>xSl A fun A C D E=>Zch (Zbc B (.ptr (i3,o3 + 1)) [.slice A C D E]) fun A=>R6 i2 o2 i3 o3 a21 n21 c21 e21 x22 (IntKind.wrap .i64 (x23 + 1)) A))))) (Yih Q i3 o3 i2 o2 h)
theorem Zzd (Q:QT) (R6:T6) (i2 o2 i3 o3:Nat) (a21:Pt) (n21 c21:Nat) (e21:Bool) (x22 x23:Int) (h:Zaa) (ht:L6t Q R6 i2 o2 i3 o3 a21 n21 c21 e21 x22 x23 h):Den pg fn.ntmps (C [1,1,1,0,1,0,0]) [(2,.ptr (i2,o2)),(3,.ptr (i3,o3)),(21,.slice a21 n21 c21 e21),(22,.int .i64 x22),(23,.int .i64 x23)] h (K3 Q R6):=
 Zbe (kp:=kp) (cast (by kernel_rfl) ht)
theorem L6ind (Q:QT) (i2 o2 i3 o3:Nat) (a21:Pt) (n21 c21:Nat) (e21:Bool) (x22:Int) {G:Type} (J:G→Int→Zaa→Prop) (m:G→Nat)
 (hr:∀ (g:G) (x23:Int) (h:Zaa),J g x23 h→∀ (R6:T6),(∀ g' (x23:Int) (h:Zaa),m g' < m g→J g' x23 h→R6 i2 o2 i3 o3 a21 n21 c21 e21 x22 x23 h)→L6t Q R6 i2 o2 i3 o3 a21 n21 c21 e21 x22 x23 h)
 (g:G) (x23:Int) (h:Zaa) (hj:J g x23 h):L6 Q i2 o2 i3 o3 a21 n21 c21 e21 x22 x23 h:=by
 let P:=fun (K:Int→Zaa→Prop) i2' o2' i3' o3' a21' n21' c21' e21' x22' x23 h=>i2=i2'∧o2=o2'∧i3=i3'∧o3=o3'∧a21=a21'∧n21=n21'∧c21=c21'∧e21=e21'∧x22=x22'∧K x23 h
 refine Zeh.inv2 (fun g=>E6 (P (J g))) (fun g=>E6 (P fun x23 h=>∃ g',m g' < m g∧J g' x23 h)) m ?_ ?_ g ⟨rfl,rfl,rfl,rfl,rfl,rfl,rfl,rfl,rfl,hj⟩
 ·intro g env h hi
  obtain ⟨i2',o2',i3',o3',a21',n21',c21',e21',x22',x23,rfl,rfl,rfl,rfl,rfl,rfl,rfl,rfl,rfl,rfl,hj⟩:=Zmk hi
  exact Zzd Q _ i2 o2 i3 o3 a21 n21 c21 e21 x22 x23 h (hr g x23 h hj (P fun x23 h=>∃ g',m g' < m g∧J g' x23 h) fun g' x23 h hlt hj=>⟨rfl,rfl,rfl,rfl,rfl,rfl,rfl,rfl,rfl,g',hlt,hj⟩)
 ·intro g env h hi
  obtain ⟨i2',o2',i3',o3',a21',n21',c21',e21',x22',x23,rfl,rfl,rfl,rfl,rfl,rfl,rfl,rfl,rfl,rfl,g',hlt,hj⟩:=Zmk hi
  exact ⟨g',hlt,rfl,rfl,rfl,rfl,rfl,rfl,rfl,rfl,rfl,hj⟩
theorem A6x0i (Q:QT) (i3 o3 i2 o2:Nat) (h:Zaa) (ht :
 Zcx (Zbk h (.ptr (i3,o3)) 2) fun A=>Zal A fun A B=>Zcr .u8 A fun A=>Zal B fun B C=>xSl B fun B D E F=>Zcq C (Zch (Zbc h (.ptr (i2,o2)) [.int .u8 A,.slice B D E F]) fun A=>Zcx (Zbk A (.ptr (i2,o2)) 2) fun B=>Zal B fun B C=>Zcr .u8 B fun B=>Zal C fun C D=>xSl C fun C E F G=>Zcq D (Q (.agg [.int .u8 B,.slice C E F G]) A))):Yih Q i3 o3 i2 o2 h:=
 At.mk (cast (by kernel_rfl) ht)
theorem call (x0x0:Int) (a0x1:Pt) (n0x1 c0x1:Nat) (e0x1:Bool) (h:Zaa) (Q:QT) (ht :
 Zdn (h ++ [.cells Zab [.int .u8 x0x0,.slice a0x1 n0x1 c0x1 e0x1] false]) fun A=>Zdn (A ++ [.cells Zab [.int .u8 0,.slice none 0 0 true] false]) fun B=>Zcr .u8 (Zae B (.ptr (h.length,0 + 0))) fun C=>Zdn (B ++ [.cells Zab [] false]) fun D=>Zdn (D ++ [.cells Zab [.int .u8 0,.slice none 0 0 true] false]) fun E=>Zch (Zbc E (.ptr (D.length,0)) [.int .u8 C,.slice (B.length,0) 0 0 true]) fun B=>Zcr .u8 (Zae B (.ptr (h.length,0 + 0))) fun C=>Zad pg Zem [.int .u8 C] B fun B C=>
 Zcr .i64 B fun B=>bcase (decide ((B:Int) ≥ 0)) (Zij ([88,89,90,120,121,122,49,50,51,52,53,54]) (IntKind.wrap .i64 (B + 6)) fun B=>Zch (Zbc C (.ptr (D.length,0 + 0)) [.int .u8 (((B:Nat):Int))]) fun B=>J5 Q h.length 0 A.length 0 D.length 0 B) (J5 Q h.length 0 A.length 0 D.length 0 C)):Zad pg Zhb [.agg [.int .u8 x0x0,.slice a0x1 n0x1 c0x1 e0x1]] h Q:=
 Zad.of_body kp (c:=cod fn) (fn:=fn) Go.Proofs.Try.func77 (by kernel_rfl) (by kernel_rfl) (Nat.le_of_ble_eq_true (by kernel_rfl))
  (cast (by kernel_rfl) ht)
end Zdu
end Go.Sim

set_option maxRecDepth 100000
set_option maxHeartbeats 0
set_option linter.unusedVariables false
namespace Go.Sim
open Go Go.RowKit
namespace Zdj
noncomputable abbrev fn:Func:=Go.Proofs.Try.f97
def kp:Zcn:=[(2000003,[7,8,0,4,5]),(2000009,[]),(4000015,[4,0,5]),(3000016,[6]),(1000016,[0,4,5,67,68]),(2000018,[83,68,67,0,4,5])]
noncomputable def C (p:List Nat):Code:=(cod fn).sub p
def KR (Q:QT):KT:=Zfe pg fn.results.toList Q
abbrev T16:=Pt→Nat→Nat→Nat→Nat→Int→Int→Zaa→Prop
def E16 (R16:T16) (env:Env) (h:Zaa):Prop:=Zcb 0 env fun v env=>Zfg v fun a0=>Zcb 4 env fun v env=>Zfg v fun a=>Zbf a fun i4 o4=>Zcb 5 env fun v env=>Zfg v fun a=>Zbf a fun i5 o5=>Zcb 67 env fun v env=>Zek .i64 v fun x67=>Zcb 68 env fun v env=>Zek .i64 v fun x68=>Zkg env (R16 a0 i4 o4 i5 o5 x67 x68 h)
theorem Yev {R16:T16} {env:Env} {h:Zaa} (hi:E16 R16 env h):∃ a0,∃ i4,∃ o4,∃ i5,∃ o5,∃ x67,∃ x68,env=[(0,.ptr a0),(4,.ptr (i4,o4)),(5,.ptr (i5,o5)),(67,.int .i64 x67),(68,.int .i64 x68)]∧R16 a0 i4 o4 i5 o5 x67 x68 h:=by
 unfold E16 at hi
 have hi0:=hi
 clear hi
 obtain ⟨_,_,rfl,hi1⟩:=Zaf hi0
 obtain ⟨a0,rfl,hi2⟩:=Zbp hi1
 obtain ⟨_,_,rfl,hi3⟩:=Zaf hi2
 obtain ⟨a,rfl,hi4⟩:=Zbp hi3
 obtain ⟨i4,o4,rfl,hi5⟩:=Zbi hi4
 obtain ⟨_,_,rfl,hi6⟩:=Zaf hi5
 obtain ⟨a,rfl,hi7⟩:=Zbp hi6
 obtain ⟨i5,o5,rfl,hi8⟩:=Zbi hi7
 obtain ⟨_,_,rfl,hi9⟩:=Zaf hi8
 obtain ⟨x67,rfl,hi10⟩:=Zau hi9
 obtain ⟨_,_,rfl,hi11⟩:=Zaf hi10
 obtain ⟨x68,rfl,hi12⟩:=Zau hi11
 obtain ⟨rfl,hi13⟩:=Zbm hi12
 have hi:=hi13
 exact ⟨a0,i4,o4,i5,o5,x67,x68,rfl,hi⟩
def K0 (Q:QT):KT:=andThen (fun env' h'=>(match kp.find 4000021 with | some ks=>Den pg fn.ntmps (C [1,1,1,1,1,1]) (env'.keep ks) h' (KR Q) | none=>den pg fn.ntmps kp (C [1,1,1,1,1,1]) env' h' (KR Q))) (KR Q)
def K1 (Q:QT):KT:=Zcv 1 (K0 Q)
def K2 (Q:QT):KT:=left kp 16 (K1 Q)
def K3 (Q:QT) (R16:T16):KT:=rnd ((kp.find 1000016).getD []) (E16 R16) (K2 Q)
def J15 (Q:QT) (i4 o4:Nat) (a0:Pt) (i5 o5:Nat) (h:Zaa):Prop:=Den pg fn.ntmps (C [1,1,1,1,1]) [(4,.ptr (i4,o4)),(0,.ptr a0),(5,.ptr (i5,o5))] h (KR Q)
def L16 (Q:QT) (a0:Pt) (i4 o4 i5 o5:Nat) (x67 x68:Int) (h:Zaa):Prop:=Zeh (Den pg fn.ntmps (C [1,1,1,1,1,0,1,0,0])) ((kp.find 1000016).getD []) (K2 Q) [(0,.ptr a0),(4,.ptr (i4,o4)),(5,.ptr (i5,o5)),(67,.int .i64 x67),(68,.int .i64 x68)] h
def Yli (Q:QT) (h:Zaa):Prop:=At (K1 Q) (.exit 1) [(6,.undef)] h
theorem J15i (Q:QT) (i4 o4:Nat) (a0:Pt) (i5 o5:Nat) (h:Zaa) (ht :
 xSl (Zae h (.ptr (i4,o4 + 1))) fun A A B B=>L16 Q a0 i4 o4 i5 o5 (((A:Nat):Int)) 0 h):J15 Q i4 o4 a0 i5 o5 h:=
 Zbe (kp:=kp) (cast (by kernel_rfl) ht)
def L16t (Q:QT) (R16:T16) (a0:Pt) (i4 o4 i5 o5:Nat) (x67 x68:Int) (h:Zaa):Prop:=
 bcase (decide ((x68:Int) < x67)) (xSl (Zae h (.ptr (i4,o4 + 1))) fun A B C C=>(0≤(x68:Int)∧(x68:Int) < (B:Nat))∧(Zbf A fun A B=>Zcx (Zbk h (.ptr (A,B + (Int.toNat x68) * 2)) 2) fun C=>Zal C fun C D=>Zcr .u8 C fun C=>Zal D fun D E=>xSl D fun D F G H=>Zcq E (xSl (Zae h (.ptr (i5,o5 + 1))) fun E I J J=>(Zbk h (.ptr (A,B + (Int.toNat x68) * 2)) 2=Zbk h (.ptr (A,B + (Int.toNat x68) * 2)) 2)∧(Zae h (.ptr (i4,o4 + 1))=Zae h (.ptr (i4,o4 + 1)))∧(0≤(x68:Int)∧(x68:Int) < (I:Nat))∧(Zbf E fun E I=>Zcx (Zbk h (.ptr (E,I + (Int.toNat x68) * 2)) 2) fun E=>Zal E fun E I=>Zcr .u8 E fun E=>Zal I fun I J=>xSl I fun I K L M=>Zcq J ((Zbk h (.ptr (A,B + (Int.toNat x68) * 2)) 2=Zbk h (.ptr (A,B + (Int.toNat x68) * 2)) 2)∧(Zae h (.ptr (i4,o4 + 1))=Zae h (.ptr (i4,o4 + 1)))∧Zad pg Zck [.ptr a0,.agg [.int .u8 C,.slice D F G H],.agg [.int .u8 E,.slice I K L M]] h fun A B=>
 Zbr A fun A=>(Zae B (.ptr (i4,o4 + 1))=Zae h (.ptr (i4,o4 + 1)))∧bcase (!A) (Q (.bool false) B) (R16 a0 i4 o4 i5 o5 x67 (IntKind.wrap .i64 (x68 + 1)) B)))))) (Yli Q h)
theorem Ylv (Q:QT) (R16:T16) (a0:Pt) (i4 o4 i5 o5:Nat) (x67 x68:Int) (h:Zaa) (ht:L16t Q R16 a0 i4 o4 i5 o5 x67 x68 h):Den pg fn.ntmps (C [1,1,1,1,1,0,1,0,0]) [(0,.ptr a0),(4,.ptr (i4,o4)),(5,.ptr (i5,o5)),(67,.int .i64 x67),(68,.int .i64 x68)] h (K3 Q R16):=
 Zbe (kp:=kp) (cast (by kernel_rfl) ht)
theorem L16ind (Q:QT) (a0:Pt) (i4 o4 i5 o5:Nat) (x67:Int) {G:Type} (J:G→Int→Zaa→Prop) (m:G→Nat)
 (hr:∀ (g:G) (x68:Int) (h:Zaa),J g x68 h→∀ (R16:T16),(∀ g' (x68:Int) (h:Zaa),m g' < m g→J g' x68 h→R16 a0 i4 o4 i5 o5 x67 x68 h)→L16t Q R16 a0 i4 o4 i5 o5 x67 x68 h)
 (g:G) (x68:Int) (h:Zaa) (hj:J g x68 h):L16 Q a0 i4 o4 i5 o5 x67 x68 h:=by
 let P:=fun (K:Int→Zaa→Prop) a0' i4' o4' i5' o5' x67' x68 h=>a0=a0'∧i4=i4'∧o4=o4'∧i5=i5'∧o5=o5'∧x67=x67'∧K x68 h
 refine Zeh.inv2 (fun g=>E16 (P (J g))) (fun g=>E16 (P fun x68 h=>∃ g',m g' < m g∧J g' x68 h)) m ?_ ?_ g ⟨rfl,rfl,rfl,rfl,rfl,rfl,hj⟩
 ·intro g env h hi
  obtain ⟨a0',i4',o4',i5',o5',x67',x68,rfl,rfl,rfl,rfl,rfl,rfl,rfl,hj⟩:=Yev hi
  exact Ylv Q _ a0 i4 o4 i5 o5 x67 x68 h (hr g x68 h hj (P fun x68 h=>∃ g',m g' < m g∧J g' x68 h) fun g' x68 h hlt hj=>⟨rfl,rfl,rfl,rfl,rfl,rfl,g',hlt,hj⟩)
 ·intro g env h hi
  obtain ⟨a0',i4',o4',i5',o5',x67',x68,rfl,rfl,rfl,rfl,rfl,rfl,rfl,g',hlt,hj⟩:=Yev hi
  exact ⟨g',hlt,rfl,rfl,rfl,rfl,rfl,rfl,hj⟩
theorem A16x1i (Q:QT) (h:Zaa) (ht :
 Q (.bool true) h):Yli Q h:=
 At.mk (cast (by kernel_rfl) ht)
theorem call (a0:Pt) (x1x0:Int) (a1x1:Pt) (n1x1 c1x1:Nat) (e1x1:Bool) (x2x0:Int) (a2x1:Pt) (n2x1 c2x1:Nat) (e2x1:Bool) (h:Zaa) (Q:QT) (ht :
 Zdn (h ++ [.cells Zab [.int .u8 x1x0,.slice a1x1 n1x1 c1x1 e1x1] false]) fun A=>Zdn (A ++ [.cells Zab [.int .u8 x2x0,.slice a2x1 n2x1 c2x1 e2x1] false]) fun B=>Zcx (Zbk B (.ptr (h.length,0)) 2) fun C=>Zal C fun C D=>Zcr .u8 C fun C=>Zal D fun D E=>xSl D fun D F G H=>Zcq E (Zad pg Zfu [.ptr a0,.agg [.int .u8 C,.slice D F G H]] B fun B C=>
 Zpz B fun B=>Zal B fun B D=>Zcr .u8 B fun B=>Zal D fun D E=>xSl D fun D F G H=>Zcq E (Zch (Zbc C (.ptr (h.length,0)) [.int .u8 B,.slice D F G H]) fun B=>Zcx (Zbk B (.ptr (A.length,0)) 2) fun C=>Zal C fun C D=>Zcr .u8 C fun C=>Zal D fun D E=>xSl D fun D F G H=>Zcq E (Zad pg Zfu [.ptr a0,.agg [.int .u8 C,.slice D F G H]] B fun B C=>
 Zpz B fun B=>Zal B fun B D=>Zcr .u8 B fun B=>Zal D fun D E=>xSl D fun D F G H=>Zcq E (Zch (Zbc C (.ptr (A.length,0)) [.int .u8 B,.slice D F G H]) fun B=>Zcr .u8 (Zae B (.ptr (h.length,0 + 0))) fun C=>Zcr .u8 (Zae B (.ptr (A.length,0 + 0))) fun D=>Zad pg Zem [.int .u8 C] B fun C E=>
 Zcr .i64 C fun C=>(Zae E (.ptr (A.length,0 + 0))=Zae B (.ptr (A.length,0 + 0)))∧Zad pg Zem [.int .u8 D] E fun B D=>
 Zcr .i64 B fun B=>(Zae D (.ptr (h.length,0 + 0))=Zae E (.ptr (h.length,0 + 0)))∧bcase (decide ((C:Int) ≥ 0)) (bcase ((C:Int) == B) (Q (.bool true) D) (bcase (decide ((C:Int) ≥ 0)) (bcase (decide ((B:Int) < 0)) (Zcr .u8 (Zae D (.ptr (h.length,0 + 0))) fun E=>Zcx (Zbk D (.ptr (A.length,0)) 2) fun F=>Zal F fun F G=>Zcr .u8 F fun F=>Zal G fun G H=>xSl G fun G I J K=>Zcq H (Zad pg Zcu [.ptr a0,.int .u8 E,.agg [.int .u8 F,.slice G I J K]] D fun E F=>
 Zbr E fun E=>bcase E (Q (.bool false) F) (Zbf a0 fun E G=>Zcx (Zbk F (.ptr (A.length,0)) 2) fun H=>Zal H fun H I=>Zcr .u8 H fun H=>Zal I fun I J=>xSl I fun I K L M=>Zcq J ((0≤(C:Int)∧(C:Int) < (12:Nat))∧(Zch (Zbc F (.ptr (E,G + (Int.toNat C) * 2)) [.int .u8 H,.slice I K L M]) fun E=>Q (.bool true) E))))) (bcase (decide ((C:Int) < B)) (Zcr .u8 (Zae D (.ptr (h.length,0 + 0))) fun E=>Zcx (Zbk D (.ptr (A.length,0)) 2) fun F=>Zal F fun F G=>Zcr .u8 F fun F=>Zal G fun G H=>xSl G fun G I J K=>Zcq H (Zad pg Zcu [.ptr a0,.int .u8 E,.agg [.int .u8 F,.slice G I J K]] D fun E F=>
 Zbr E fun E=>bcase E (Q (.bool false) F) (Zbf a0 fun E G=>Zcx (Zbk F (.ptr (A.length,0)) 2) fun H=>Zal H fun H I=>Zcr .u8 H fun H=>Zal I fun I J=>xSl I fun I K L M=>Zcq J ((0≤(C:Int)∧(C:Int) < (12:Nat))∧(Zch (Zbc F (.ptr (E,G + (Int.toNat C) * 2)) [.int .u8 H,.slice I K L M]) fun E=>Q (.bool true) E))))) (bcase (decide ((B:Int) ≥ 0)) (Zcx (Zbk D (.ptr (A.length,0)) 2) fun E=>Zal E fun E F=>Zcr .u8 E fun E=>Zal F fun F G=>xSl F fun F H I J=>Zcq G (Zcx (Zbk D (.ptr (h.length,0)) 2) fun G=>Zal G fun G K=>Zcr .u8 G fun G=>Zal K fun K L=>xSl K fun K M N O=>Zcq L (Zad pg Zck [.ptr a0,.agg [.int .u8 E,.slice F H I J],.agg [.int .u8 G,.slice K M N O]] D fun E F=>
 Zbr E fun E=>Q (.bool E) F))) (Zcr .u8 (Zae D (.ptr (h.length,0 + 0))) fun E=>Zcr .u8 (Zae D (.ptr (A.length,0 + 0))) fun F=>bcase (!((E:Int) == F)) (Q (.bool false) D) (J15 Q h.length 0 a0 A.length 0 D))))) (bcase (decide ((B:Int) ≥ 0)) (Zcx (Zbk D (.ptr (A.length,0)) 2) fun E=>Zal E fun E F=>Zcr .u8 E fun E=>Zal F fun F G=>xSl F fun F H I J=>Zcq G (Zcx (Zbk D (.ptr (h.length,0)) 2) fun G=>Zal G fun G K=>Zcr .u8 G fun G=>Zal K fun K L=>xSl K fun K M N O=>Zcq L (Zad pg Zck [.ptr a0,.agg [.int .u8 E,.slice F H I J],.agg [.int .u8 G,.slice K M N O]] D fun E F=>
 Zbr E fun E=>Q (.bool E) F))) (Zcr .u8 (Zae D (.ptr (h.length,0 + 0))) fun E=>Zcr .u8 (Zae D (.ptr (A.length,0 + 0))) fun F=>bcase (!((E:Int) == F)) (Q (.bool false) D) (J15 Q h.length 0 a0 A.length 0 D))))) (bcase (decide ((C:Int) ≥ 0)) (bcase (decide ((B:Int) < 0)) (Zcr .u8 (Zae D (.ptr (h.length,0 + 0))) fun E=>Zcx (Zbk D (.ptr (A.length,0)) 2) fun F=>Zal F fun F G=>Zcr .u8 F fun F=>Zal G fun G H=>xSl G fun G I J K=>Zcq H (Zad pg Zcu [.ptr a0,.int .u8 E,.agg [.int .u8 F,.slice G I J K]] D fun E F=>
 Zbr E fun E=>bcase E (Q (.bool false) F) (Zbf a0 fun E G=>Zcx (Zbk F (.ptr (A.length,0)) 2) fun H=>Zal H fun H I=>Zcr .u8 H fun H=>Zal I fun I J=>xSl I fun I K L M=>Zcq J ((0≤(C:Int)∧(C:Int) < (12:Nat))∧(Zch (Zbc F (.ptr (E,G + (Int.toNat C) * 2)) [.int .u8 H,.slice I K L M]) fun E=>Q (.bool true) E))))) (bcase (decide ((C:Int) < B)) (Zcr .u8 (Zae D (.ptr (h.length,0 + 0))) fun E=>Zcx (Zbk D (.ptr (A.length,0)) 2) fun F=>Zal F fun F G=>Zcr .u8 F fun F=>Zal G fun G H=>xSl G fun G I J K=>Zcq H (Zad pg Zcu [.ptr a0,.int .u8 E,.agg [.int .u8 F,.slice G I J K]] D fun E F=>
 Zbr E fun E=>bcase E (Q (.bool false) F) (Zbf a0 fun E G=>Zcx (Zbk F (.ptr (A.length,0)) 2) fun H=>Zal H fun H I=>Zcr .u8 H fun H=>Zal I fun I J=>xSl I fun I K L M=>Zcq J ((0≤(C:Int)∧(C:Int) < (12:Nat))∧(Zch (Zbc F (.ptr (E,G + (Int.toNat C) * 2)) [.int .u8 H,.slice I K L M]) fun C=>Q (.bool true) C))))) (bcase (decide ((B:Int) ≥ 0)) (Zcx (Zbk D (.ptr (A.length,0)) 2) fun C=>Zal C fun C E=>Zcr .u8 C fun C=>Zal E fun E F=>xSl E fun E G H I=>Zcq F (Zcx (Zbk D (.ptr (h.length,0)) 2) fun F=>Zal F fun F J=>Zcr .u8 F fun F=>Zal J fun J K=>xSl J fun J L M N=>Zcq K (Zad pg Zck [.ptr a0,.agg [.int .u8 C,.slice E G H I],.agg [.int .u8 F,.slice J L M N]] D fun C E=>
 Zbr C fun C=>Q (.bool C) E))) (Zcr .u8 (Zae D (.ptr (h.length,0 + 0))) fun C=>Zcr .u8 (Zae D (.ptr (A.length,0 + 0))) fun E=>bcase (!((C:Int) == E)) (Q (.bool false) D) (J15 Q h.length 0 a0 A.length 0 D))))) (bcase (decide ((B:Int) ≥ 0)) (Zcx (Zbk D (.ptr (A.length,0)) 2) fun B=>Zal B fun B C=>Zcr .u8 B fun B=>Zal C fun C E=>xSl C fun C F G H=>Zcq E (Zcx (Zbk D (.ptr (h.length,0)) 2) fun E=>Zal E fun E I=>Zcr .u8 E fun E=>Zal I fun I J=>xSl I fun I K L M=>Zcq J (Zad pg Zck [.ptr a0,.agg [.int .u8 B,.slice C F G H],.agg [.int .u8 E,.slice I K L M]] D fun B C=>
 Zbr B fun B=>Q (.bool B) C))) (Zcr .u8 (Zae D (.ptr (h.length,0 + 0))) fun B=>Zcr .u8 (Zae D (.ptr (A.length,0 + 0))) fun C=>bcase (!((B:Int) == C)) (Q (.bool false) D) (J15 Q h.length 0 a0 A.length 0 D))))))))):Zad pg Zck [.ptr a0,.agg [.int .u8 x1x0,.slice a1x1 n1x1 c1x1 e1x1],.agg [.int .u8 x2x0,.slice a2x1 n2x1 c2x1 e2x1]] h Q:=
 Zad.of_body kp (c:=cod fn) (fn:=fn) Go.Proofs.Try.func97 (by kernel_rfl) (by kernel_rfl) (Nat.le_of_ble_eq_true (by kernel_rfl))
  (cast (by kernel_rfl) ht)
end Zdj
end Go.Sim

set_option maxRecDepth 100000
set_option maxHeartbeats 0
set_option linter.unusedVariables false
namespace Go.Sim
open Go Go.RowKit
namespace Zfn
noncomputable abbrev fn:Func:=Go.Proofs.Try.f142
def kp:Zcn:=[(3000005,[6]),(1000005,[0,1,17,18,19])]
noncomputable def C (p:List Nat):Code:=(cod fn).sub p
def KR (Q:QT):KT:=Zfe pg fn.results.toList Q
abbrev T5:=Pt→Int→Pt→Nat→Nat→Bool→Int→Int→Zaa→Prop
def E5 (R5:T5) (env:Env) (h:Zaa):Prop:=Zcb 0 env fun v env=>Zfg v fun a0=>Zcb 1 env fun v env=>Zek .u8 v fun x1=>Zcb 17 env fun v env=>xSl v fun a17 n17 c17 e17=>Zcb 18 env fun v env=>Zek .i64 v fun x18=>Zcb 19 env fun v env=>Zek .i64 v fun x19=>Zkg env (R5 a0 x1 a17 n17 c17 e17 x18 x19 h)
theorem Zgt {R5:T5} {env:Env} {h:Zaa} (hi:E5 R5 env h):∃ a0,∃ x1,∃ a17,∃ n17,∃ c17,∃ e17,∃ x18,∃ x19,env=[(0,.ptr a0),(1,.int .u8 x1),(17,.slice a17 n17 c17 e17),(18,.int .i64 x18),(19,.int .i64 x19)]∧R5 a0 x1 a17 n17 c17 e17 x18 x19 h:=by
 unfold E5 at hi
 repeat ((first | (have k:=Zaf hi; clear hi; obtain ⟨_,_,e,hi⟩:=k) | (have k:=Zau hi; clear hi; obtain ⟨_,e,hi⟩:=k) | (have k:=Zbp hi; clear hi; obtain ⟨_,e,hi⟩:=k) | (have k:=Zcc hi; clear hi; obtain ⟨_,_,_,_,e,hi⟩:=k)); subst e)
 obtain ⟨rfl,hi⟩:=Zbm hi
 exact ⟨_,_,_,_,_,_,_,_,rfl,hi⟩
def K0 (Q:QT):KT:=andThen (fun env' h'=>(match kp.find 4000010 with | some ks=>Den pg fn.ntmps (C [1,1,1,1]) (env'.keep ks) h' (KR Q) | none=>den pg fn.ntmps kp (C [1,1,1,1]) env' h' (KR Q))) (KR Q)
def K1 (Q:QT):KT:=Zcv 0 (K0 Q)
def K2 (Q:QT):KT:=left kp 5 (K1 Q)
def K3 (Q:QT) (R5:T5):KT:=rnd ((kp.find 1000005).getD []) (E5 R5) (K2 Q)
def L5 (Q:QT) (a0:Pt) (x1:Int) (a17:Pt) (n17 c17:Nat) (e17:Bool) (x18 x19:Int) (h:Zaa):Prop:=Zeh (Den pg fn.ntmps (C [1,1,1,0,1,0,0])) ((kp.find 1000005).getD []) (K2 Q) [(0,.ptr a0),(1,.int .u8 x1),(17,.slice a17 n17 c17 e17),(18,.int .i64 x18),(19,.int .i64 x19)] h
def A5x0 (Q:QT) (h:Zaa):Prop:=At (K1 Q) (.exit 0) [(6,.undef)] h
def L5t (Q:QT) (R5:T5) (a0:Pt) (x1:Int) (a17:Pt) (n17 c17:Nat) (e17:Bool) (x18 x19:Int) (h:Zaa):Prop:=
 bcase (decide ((x19:Int) < x18)) ((0≤(x19:Int)∧(x19:Int) < (n17:Nat))∧(Zbf a17 fun A B=>Zcx (Zbk h (.ptr (A,B + (Int.toNat x19) * 2)) 2) fun A=>Zal A fun A B=>Zcr .u8 A fun A=>Zal B fun B C=>xSl B fun B D E F=>Zcq C (Zdn (h ++ [.cells Zab [.int .u8 0,.slice none 0 0 true] false]) fun C=>Zch (Zbc C (.ptr (h.length,0)) [.int .u8 A,.slice B D E F]) fun A=>Zcx (Zbk A (.ptr (h.length,0)) 2) fun B=>Zal B fun B C=>Zcr .u8 B fun B=>Zal C fun C D=>xSl C fun C E F G=>Zcq D (Zad pg Zcu [.ptr a0,.int .u8 x1,.agg [.int .u8 B,.slice C E F G]] A fun A B=>
 Zbr A fun A=>bcase A (Q (.bool true) B) (R5 a0 x1 a17 n17 c17 e17 x18 (IntKind.wrap .i64 (x19 + 1)) B))))) (A5x0 Q h)
theorem Zpj (Q:QT) (R5:T5) (a0:Pt) (x1:Int) (a17:Pt) (n17 c17:Nat) (e17:Bool) (x18 x19:Int) (h:Zaa) (ht:L5t Q R5 a0 x1 a17 n17 c17 e17 x18 x19 h):Den pg fn.ntmps (C [1,1,1,0,1,0,0]) [(0,.ptr a0),(1,.int .u8 x1),(17,.slice a17 n17 c17 e17),(18,.int .i64 x18),(19,.int .i64 x19)] h (K3 Q R5):=
 Zbe (kp:=kp) (cast (by kernel_rfl) ht)
theorem L5ind (Q:QT) (a0:Pt) (x1:Int) (a17:Pt) (n17 c17:Nat) (e17:Bool) (x18:Int) {G:Type} (J:G→Int→Zaa→Prop) (m:G→Nat)
 (hr:∀ (g:G) (x19:Int) (h:Zaa),J g x19 h→∀ (R5:T5),(∀ g' (x19:Int) (h:Zaa),m g' < m g→J g' x19 h→R5 a0 x1 a17 n17 c17 e17 x18 x19 h)→L5t Q R5 a0 x1 a17 n17 c17 e17 x18 x19 h)
 (g:G) (x19:Int) (h:Zaa) (hj:J g x19 h):L5 Q a0 x1 a17 n17 c17 e17 x18 x19 h:=by
 let P:=fun (K:Int→Zaa→Prop) a0' x1' a17' n17' c17' e17' x18' x19 h=>a0=a0'∧x1=x1'∧a17=a17'∧n17=n17'∧c17=c17'∧e17=e17'∧x18=x18'∧K x19 h
 refine Zeh.inv2 (fun g=>E5 (P (J g))) (fun g=>E5 (P fun x19 h=>∃ g',m g' < m g∧J g' x19 h)) m ?_ ?_ g ⟨rfl,rfl,rfl,rfl,rfl,rfl,rfl,hj⟩
 ·intro g env h hi
  obtain ⟨a0',x1',a17',n17',c17',e17',x18',x19,rfl,rfl,rfl,rfl,rfl,rfl,rfl,rfl,hj⟩:=Zgt hi
  exact Zpj Q _ a0 x1 a17 n17 c17 e17 x18 x19 h (hr g x19 h hj (P fun x19 h=>∃ g',m g' < m g∧J g' x19 h) fun g' x19 h hlt hj=>⟨rfl,rfl,rfl,rfl,rfl,rfl,rfl,g',hlt,hj⟩)
 ·intro g env h hi
  obtain ⟨a0',x1',a17',n17',c17',e17',x18',x19,rfl,rfl,rfl,rfl,rfl,rfl,rfl,rfl,g',hlt,hj⟩:=Zgt hi
  exact ⟨g',hlt,rfl,rfl,rfl,rfl,rfl,rfl,rfl,hj⟩
theorem A5x0i (Q:QT) (h:Zaa) (ht :
 Q (.bool false) h):A5x0 Q h:=
 At.mk (cast (by kernel_rfl) ht)
theorem call (a0:Pt) (x1 x2x0:Int) (a2x1:Pt) (n2x1 c2x1:Nat) (e2x1:Bool) (h:Zaa) (Q:QT) (ht :
 Zdn (h ++ [.cells Zab [.int .u8 x2x0,.slice a2x1 n2x1 c2x1 e2x1] false]) fun A=>Zcx (Zbk A (.ptr (h.length,0)) 2) fun B=>Zal B fun B C=>Zcr .u8 B fun B=>Zal C fun C D=>xSl C fun C E F G=>Zcq D (Zad pg Zfu [.ptr a0,.agg [.int .u8 B,.slice C E F G]] A fun A B=>
 Zpz A fun A=>Zal A fun A C=>Zcr .u8 A fun A=>Zal C fun C D=>xSl C fun C E F G=>Zcq D (Zch (Zbc B (.ptr (h.length,0)) [.int .u8 A,.slice C E F G]) fun A=>Zcr .u8 (Zae A (.ptr (h.length,0 + 0))) fun B=>bcase ((B:Int) == x1) (Q (.bool true) A) (xSl (Zae A (.ptr (h.length,0 + 1))) fun B C D E=>L5 Q a0 x1 B C D E (((C:Nat):Int)) 0 A)))):Zad pg Zcu [.ptr a0,.int .u8 x1,.agg [.int .u8 x2x0,.slice a2x1 n2x1 c2x1 e2x1]] h Q:=
 Zad.of_body kp (c:=cod fn) (fn:=fn) Go.Proofs.Try.func142 (by kernel_rfl) (by kernel_rfl) (Nat.le_of_ble_eq_true (by kernel_rfl))
  (cast (by kernel_rfl) ht)
end Zfn
end Go.Sim

set_option maxRecDepth 100000
set_option maxHeartbeats 0
set_option linter.unusedVariables false
namespace Go.Sim
open Go Go.RowKit
namespace Zez
noncomputable abbrev fn:Func:=Go.Proofs.Try.f141
def kp:Zcn:=[(3000002,[3,4]),(1000002,[0,3,4,5]),(4000004,[0,5,3,4])]
noncomputable def C (p:List Nat):Code:=(cod fn).sub p
def KR (Q:QT):KT:=Zfe pg fn.results.toList Q
abbrev T2:=Pt→Nat→Nat→Nat→Nat→Int→Zaa→Prop
def E2 (R2:T2) (env:Env) (h:Zaa):Prop:=Zcb 0 env fun v env=>Zfg v fun a0=>Zcb 3 env fun v env=>Zfg v fun a=>Zbf a fun i3 o3=>Zcb 4 env fun v env=>Zfg v fun a=>Zbf a fun i4 o4=>Zcb 5 env fun v env=>Zek .i64 v fun x5=>Zkg env (R2 a0 i3 o3 i4 o4 x5 h)
theorem Zeq {R2:T2} {env:Env} {h:Zaa} (hi:E2 R2 env h):∃ a0,∃ i3,∃ o3,∃ i4,∃ o4,∃ x5,env=[(0,.ptr a0),(3,.ptr (i3,o3)),(4,.ptr (i4,o4)),(5,.int .i64 x5)]∧R2 a0 i3 o3 i4 o4 x5 h:=by
 unfold E2 at hi
 have hi0:=hi
 clear hi
 obtain ⟨_,_,rfl,hi1⟩:=Zaf hi0
 obtain ⟨a0,rfl,hi2⟩:=Zbp hi1
 obtain ⟨_,_,rfl,hi3⟩:=Zaf hi2
 obtain ⟨a,rfl,hi4⟩:=Zbp hi3
 obtain ⟨i3,o3,rfl,hi5⟩:=Zbi hi4
 obtain ⟨_,_,rfl,hi6⟩:=Zaf hi5
 obtain ⟨a,rfl,hi7⟩:=Zbp hi6
 obtain ⟨i4,o4,rfl,hi8⟩:=Zbi hi7
 obtain ⟨_,_,rfl,hi9⟩:=Zaf hi8
 obtain ⟨x5,rfl,hi10⟩:=Zau hi9
 obtain ⟨rfl,hi11⟩:=Zbm hi10
 have hi:=hi11
 exact ⟨a0,i3,o3,i4,o4,x5,rfl,hi⟩
def K0 (Q:QT):KT:=andThen (fun env' h'=>(match kp.find 4000005 with | some ks=>Den pg fn.ntmps (C [1,1]) (env'.keep ks) h' (KR Q) | none=>den pg fn.ntmps kp (C [1,1]) env' h' (KR Q))) (KR Q)
def K1 (Q:QT):KT:=Zcv 0 (K0 Q)
def K2 (Q:QT):KT:=left kp 2 (K1 Q)
def K3 (Q:QT) (R2:T2):KT:=rnd ((kp.find 1000002).getD []) (E2 R2) (K2 Q)
def L2 (Q:QT) (a0:Pt) (i3 o3 i4 o4:Nat) (x5:Int) (h:Zaa):Prop:=Zeh (Den pg fn.ntmps (C [1,0,1,0,0])) ((kp.find 1000002).getD []) (K2 Q) [(0,.ptr a0),(3,.ptr (i3,o3)),(4,.ptr (i4,o4)),(5,.int .i64 x5)] h
def J4 (Q:QT) (R2:T2) (a0:Pt) (x5:Int) (i3 o3 i4 o4:Nat) (h:Zaa):Prop:=Den pg fn.ntmps (C [1,0,1,0,0,1]) [(0,.ptr a0),(5,.int .i64 x5),(3,.ptr (i3,o3)),(4,.ptr (i4,o4))] h (K3 Q R2)
def A2x0 (Q:QT) (i3 o3 i4 o4:Nat) (h:Zaa):Prop:=At (K1 Q) (.exit 0) [(3,.ptr (i3,o3)),(4,.ptr (i4,o4))] h
def L2t (Q:QT) (R2:T2) (a0:Pt) (i3 o3 i4 o4:Nat) (x5:Int) (h:Zaa):Prop:=
 bcase (decide ((x5:Int) ≥ 0)) (Zbf a0 fun A B=>(0≤(x5:Int)∧(x5:Int) < (12:Nat))∧(Zcr .u8 (Zae h (.ptr (A,B + (Int.toNat x5) * 2 + 0))) fun A=>bcase (!((A:Int) == 0)) (J4 Q R2 a0 x5 i3 o3 i4 o4 h) (A2x0 Q i3 o3 i4 o4 h))) (A2x0 Q i3 o3 i4 o4 h)
theorem Zmj (Q:QT) (R2:T2) (a0:Pt) (i3 o3 i4 o4:Nat) (x5:Int) (h:Zaa) (ht:L2t Q R2 a0 i3 o3 i4 o4 x5 h):Den pg fn.ntmps (C [1,0,1,0,0]) [(0,.ptr a0),(3,.ptr (i3,o3)),(4,.ptr (i4,o4)),(5,.int .i64 x5)] h (K3 Q R2):=
 Zbe (kp:=kp) (cast (by kernel_rfl) ht)
theorem L2ind (Q:QT) (a0:Pt) (i3 o3 i4 o4:Nat) {G:Type} (J:G→Int→Zaa→Prop) (m:G→Nat)
 (hr:∀ (g:G) (x5:Int) (h:Zaa),J g x5 h→∀ (R2:T2),(∀ g' (x5:Int) (h:Zaa),m g' < m g→J g' x5 h→R2 a0 i3 o3 i4 o4 x5 h)→L2t Q R2 a0 i3 o3 i4 o4 x5 h)
 (g:G) (x5:Int) (h:Zaa) (hj:J g x5 h):L2 Q a0 i3 o3 i4 o4 x5 h:=by
 let P:=fun (K:Int→Zaa→Prop) a0' i3' o3' i4' o4' x5 h=>a0=a0'∧i3=i3'∧o3=o3'∧i4=i4'∧o4=o4'∧K x5 h
 refine Zeh.inv2 (fun g=>E2 (P (J g))) (fun g=>E2 (P fun x5 h=>∃ g',m g' < m g∧J g' x5 h)) m ?_ ?_ g ⟨rfl,rfl,rfl,rfl,rfl,hj⟩
 ·intro g env h hi
  obtain ⟨a0',i3',o3',i4',o4',x5,rfl,rfl,rfl,rfl,rfl,rfl,hj⟩:=Zeq hi
  exact Zmj Q _ a0 i3 o3 i4 o4 x5 h (hr g x5 h hj (P fun x5 h=>∃ g',m g' < m g∧J g' x5 h) fun g' x5 h hlt hj=>⟨rfl,rfl,rfl,rfl,rfl,g',hlt,hj⟩)
 ·intro g env h hi
  obtain ⟨a0',i3',o3',i4',o4',x5,rfl,rfl,rfl,rfl,rfl,rfl,g',hlt,hj⟩:=Zeq hi
  exact ⟨g',hlt,rfl,rfl,rfl,rfl,rfl,hj⟩
theorem J4i (Q:QT) (R2:T2) (a0:Pt) (x5:Int) (i3 o3 i4 o4:Nat) (h:Zaa) (ht :
 Zbf a0 fun A B=>(0≤(x5:Int)∧(x5:Int) < (12:Nat))∧(Zcx (Zbk h (.ptr (A,B + (Int.toNat x5) * 2)) 2) fun A=>Zal A fun A B=>Zcr .u8 A fun A=>Zal B fun B C=>xSl B fun B D E F=>Zcq C (Zch (Zbc h (.ptr (i3,o3)) [.int .u8 A,.slice B D E F]) fun A=>Zcr .u8 (Zae A (.ptr (i3,o3 + 0))) fun B=>Zad pg Zem [.int .u8 B] A fun A B=>
 Zcr .i64 A fun A=>R2 a0 i3 o3 i4 o4 A B))):J4 Q R2 a0 x5 i3 o3 i4 o4 h:=
 Zbe (kp:=kp) (cast (by kernel_rfl) ht)
theorem A2x0i (Q:QT) (i3 o3 i4 o4:Nat) (h:Zaa) (ht :
 Zcx (Zbk h (.ptr (i3,o3)) 2) fun A=>Zal A fun A B=>Zcr .u8 A fun A=>Zal B fun B C=>xSl B fun B D E F=>Zcq C (Zch (Zbc h (.ptr (i4,o4)) [.int .u8 A,.slice B D E F]) fun A=>Zcx (Zbk A (.ptr (i4,o4)) 2) fun B=>Zal B fun B C=>Zcr .u8 B fun B=>Zal C fun C D=>xSl C fun C E F G=>Zcq D (Q (.agg [.int .u8 B,.slice C E F G]) A))):A2x0 Q i3 o3 i4 o4 h:=
 At.mk (cast (by kernel_rfl) ht)
theorem call (a0:Pt) (x1x0:Int) (a1x1:Pt) (n1x1 c1x1:Nat) (e1x1:Bool) (h:Zaa) (Q:QT) (ht :
 Zdn (h ++ [.cells Zab [.int .u8 x1x0,.slice a1x1 n1x1 c1x1 e1x1] false]) fun A=>Zdn (A ++ [.cells Zab [.int .u8 0,.slice none 0 0 true] false]) fun B=>Zcr .u8 (Zae B (.ptr (h.length,0 + 0))) fun C=>Zad pg Zem [.int .u8 C] B fun B C=>
 Zcr .i64 B fun B=>L2 Q a0 h.length 0 A.length 0 B C):Zad pg Zfu [.ptr a0,.agg [.int .u8 x1x0,.slice a1x1 n1x1 c1x1 e1x1]] h Q:=
 Zad.of_body kp (c:=cod fn) (fn:=fn) Go.Proofs.Try.func141 (by kernel_rfl) (by kernel_rfl) (Nat.le_of_ble_eq_true (by kernel_rfl))
  (cast (by kernel_rfl) ht)
end Zez
end Go.Sim

set_option maxRecDepth 100000
set_option maxHeartbeats 0
set_option linter.unusedVariables false
namespace Go.Sim
open Go Go.RowKit
end Go.Sim

set_option maxRecDepth 100000
set_option maxHeartbeats 0
set_option linter.unusedVariables false
namespace Go.Sim
open Go Go.RowKit
namespace Znh
noncomputable abbrev fn:Func:=Go.Proofs.Try.f113
def kp:Zcn:=[]
noncomputable def C (p:List Nat):Code:=(cod fn).sub p
def KR (Q:QT):KT:=Zfe pg fn.results.toList Q
theorem call (x0:Int) (h:Zaa) (Q:QT) (ht :
 Zad pg Zfc [.str ([88,89,90,120,121,122,49,50,51,52,53,54]),.int .u8 x0] h fun A B=>
 Zcr .i64 A fun A=>Q (.int .i64 A) B):Zad pg Zem [.int .u8 x0] h Q:=
 Zad.of_body kp (c:=cod fn) (fn:=fn) Go.Proofs.Try.func113 (by kernel_rfl) (by kernel_rfl) (Nat.le_of_ble_eq_true (by kernel_rfl))
  (cast (by kernel_rfl) ht)
end Znh
end Go.Sim

set_option maxRecDepth 100000
set_option maxHeartbeats 0
set_option linter.unusedVariables false
namespace Go.Sim
open Go Go.RowKit
end Go.Sim

set_option maxRecDepth 100000
set_option maxHeartbeats 0
set_option linter.unusedVariables false
namespace Go.Sim
open Go Go.RowKit
end Go.Sim

set_option maxRecDepth 100000
set_option maxHeartbeats 0
set_option linter.unusedVariables false
namespace Go.Sim
open Go Go.RowKit
end Go.Sim
