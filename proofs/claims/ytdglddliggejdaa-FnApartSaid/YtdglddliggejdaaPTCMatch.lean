/- A part of the proof of a statement of this seat: see the text that holds the theorem. No condition. -/
import Derived.Test.YtdglddliggejdaaNm
set_option linter.unusedVariables false
set_option linter.unusedSimpArgs false
set_option linter.all false
set_option maxRecDepth 100000
set_option maxHeartbeats 0
set_option linter.unusedVariables false
namespace Go.Sim
open Go Go.RowKit
namespace Zig
noncomputable abbrev fn:Func:=Go.Proofs.Try.f29
def kp:Zcr:=[]
noncomputable def C (p:List Nat):Code:=(cod fn).sub p
def KR (Q:QT):KT:=Zhe pg fn.results.toList Q
theorem call (a0:Pt) (n0 c0:Nat) (e0:Bool) (h:Zaa) (Q:QT) (ht :
 Zac pg Zgy [.slice a0 n0 c0 e0] h fun A B=>
 Zei A fun A=>Zac pg Zlg [.ptr A] B fun A B=>
 Zrs A fun A=>Zal A fun A C=>Zde A fun A=>Zal C fun C D=>Zde C fun C=>Zcs D (Q (.tup [.str A,.str C]) B)):Zac pg Zfv [.slice a0 n0 c0 e0] h Q:=
 Zac.of_body kp (c:=cod fn) (fn:=fn) Go.Proofs.Try.func29 (by kernel_rfl) (by kernel_rfl) (Nat.le_of_ble_eq_true (by kernel_rfl))
  (cast (by kernel_rfl) ht)
end Zig
namespace Zhy
noncomputable abbrev fn:Func:=Go.Proofs.Try.f33
def kp:Zcr:=[]
noncomputable def C (p:List Nat):Code:=(cod fn).sub p
def KR (Q:QT):KT:=Zhe pg fn.results.toList Q
theorem call (a0:Pt) (n0 c0:Nat) (e0:Bool) (h:Zaa) (Q:QT) (ht :
 Zac pg Zgy [.slice a0 n0 c0 e0] h fun A B=>
 Zei A fun A=>Zac pg Zhd [.ptr A] B fun A B=>
 Zde A fun A=>Q (.str A) B):Zac pg Zfs [.slice a0 n0 c0 e0] h Q:=
 Zac.of_body kp (c:=cod fn) (fn:=fn) Go.Proofs.Try.func33 (by kernel_rfl) (by kernel_rfl) (Nat.le_of_ble_eq_true (by kernel_rfl))
  (cast (by kernel_rfl) ht)
end Zhy
namespace Zev
noncomputable abbrev fn:Func:=Go.Proofs.Try.f8
def kp:Zcr:=[(4000003,[0,1]),(4000007,[5,6,1,7]),(4000011,[5,6,7])]
noncomputable def C (p:List Nat):Code:=(cod fn).sub p
def KR (Q:QT):KT:=Zhe pg fn.results.toList Q
def J3 (Q:QT) (a0:Pt) (n0 c0:Nat) (e0:Bool) (a1:Pt) (n1 c1:Nat) (e1:Bool) (h:Zaa):Prop:=Den pg fn.ntmps (C [1,1]) [(0,.slice a0 n0 c0 e0),(1,.slice a1 n1 c1 e1)] h (KR Q)
def J7 (Q:QT) (x5 x6:List Nat) (a1:Pt) (n1 c1:Nat) (e1 x7:Bool) (h:Zaa):Prop:=Den pg fn.ntmps (C [1,1,1,1,1]) [(5,.str x5),(6,.str x6),(1,.slice a1 n1 c1 e1),(7,.bool x7)] h (KR Q)
def J11 (Q:QT) (x5 x6:List Nat) (x7:Bool) (h:Zaa):Prop:=Den pg fn.ntmps (C [1,1,1,1,1,1,1,1]) [(5,.str x5),(6,.str x6),(7,.bool x7)] h (KR Q)
theorem J3i (Q:QT) (a0:Pt) (n0 c0:Nat) (e0:Bool) (a1:Pt) (n1 c1:Nat) (e1:Bool) (h:Zaa) (ht :
 Zac pg Zfv [.slice a0 n0 c0 e0] h fun A B=>
 Zrs A fun A=>Zal A fun A C=>Zde A fun A=>Zal C fun C D=>Zde C fun C=>Zcs D (Zac pg Zcy [.str A,.str C] B fun B D=>
 Zbg B fun B=>Zac pg Zdg [.str A,.str C] D fun D E=>
 Zbg D fun D=>bcase (!(B == D)) (Zac pg Zdg [.str A,.str C] E fun D F=>
 Zbg D fun D=>bcase (B == D) (Zac pg Zcy [.str C,.str A] F fun D G=>
 Zbg D fun D=>bcase (B == D) (Q (.bool (!B)) G) (Q (.bool false) G)) (Q (.bool false) F)) (Zac pg Zcy [.str C,.str A] E fun D E=>
 Zbg D fun D=>bcase (!(B == D)) (Zac pg Zdg [.str A,.str C] E fun D F=>
 Zbg D fun D=>bcase (B == D) (Zac pg Zcy [.str C,.str A] F fun D G=>
 Zbg D fun D=>bcase (B == D) (Q (.bool (!B)) G) (Q (.bool false) G)) (Q (.bool false) F)) (Zac pg Zbu [.str A] E fun D E=>
 Zbg D fun D=>bcase (!D) (Zac pg Zdg [.str A,.str C] E fun D F=>
 Zbg D fun D=>bcase (B == D) (Zac pg Zcy [.str C,.str A] F fun D G=>
 Zbg D fun D=>bcase (B == D) (Q (.bool (!B)) G) (Q (.bool false) G)) (Q (.bool false) F)) (Zac pg Zbu [.str C] E fun D E=>
 Zbg D fun D=>bcase (!D) (Zac pg Zdg [.str A,.str C] E fun D F=>
 Zbg D fun D=>bcase (B == D) (Zac pg Zcy [.str C,.str A] F fun D G=>
 Zbg D fun D=>bcase (B == D) (Q (.bool (!B)) G) (Q (.bool false) G)) (Q (.bool false) F)) (J7 Q A C a1 n1 c1 e1 B E)))))):J3 Q a0 n0 c0 e0 a1 n1 c1 e1 h:=
 Zaz (kp:=kp) (cast (by kernel_rfl) ht)
theorem J7i (Q:QT) (x5 x6:List Nat) (a1:Pt) (n1 c1:Nat) (e1 x7:Bool) (h:Zaa) (ht :
 Zac pg Zjt [.str x5,.str x6] h fun A B=>
 Zrs A fun A=>Zal A fun A C=>Zde A fun A=>Zal C fun C D=>Zbg C fun C=>Zcs D (Zac pg Zfs [.slice a1 n1 c1 e1] B fun B D=>
 Zde B fun B=>bcase x7 (bcase C (Q (.bool false) D) (Zac pg Zhz [.str B] D fun E F=>
 Zbg E fun E=>bcase E (Zac pg Zcb [.str x5,.str B] F fun E G=>
 Zbg E fun E=>bcase E (Zac pg Zcb [.str x6,.str B] G fun B E=>
 Zbg B fun B=>bcase B (Q (.bool false) E) (bcase C (Zac pg Zcb [.str x5,.str A] E fun B H=>
 Zbg B fun B=>bcase (!B) (Q (.bool false) H) (J11 Q x5 x6 x7 H)) (J11 Q x5 x6 x7 E))) (bcase C (Zac pg Zcb [.str x5,.str A] G fun B E=>
 Zbg B fun B=>bcase (!B) (Q (.bool false) E) (J11 Q x5 x6 x7 E)) (J11 Q x5 x6 x7 G))) (bcase C (Zac pg Zcb [.str x5,.str A] F fun B E=>
 Zbg B fun B=>bcase (!B) (Q (.bool false) E) (J11 Q x5 x6 x7 E)) (J11 Q x5 x6 x7 F)))) (bcase C (Zac pg Zcb [.str x5,.str A] D fun A B=>
 Zbg A fun A=>bcase (!A) (Q (.bool false) B) (J11 Q x5 x6 x7 B)) (J11 Q x5 x6 x7 D)))):J7 Q x5 x6 a1 n1 c1 e1 x7 h:=
 Zaz (kp:=kp) (cast (by kernel_rfl) ht)
theorem J11i (Q:QT) (x5 x6:List Nat) (x7:Bool) (h:Zaa) (ht :
 Zac pg Zcb [.str x5,.str x6] h fun A B=>
 Zbg A fun A=>bcase (!A) (Zac pg Zcb [.str x6,.str x5] B fun A C=>
 Zbg A fun A=>bcase (!A) (Q (.bool true) C) (Q (.bool (!x7)) C)) (Q (.bool (!x7)) B)):J11 Q x5 x6 x7 h:=
 Zaz (kp:=kp) (cast (by kernel_rfl) ht)
theorem call (a0:Pt) (n0 c0:Nat) (e0:Bool) (a1:Pt) (n1 c1:Nat) (e1:Bool) (h:Zaa) (Q:QT) (ht :
 bcase (decide (((((n0:Nat):Int)):Int) > 1048576)) (Q (.bool true) h) (bcase (decide (((((n1:Nat):Int)):Int) > 1048576)) (Q (.bool true) h) (J3 Q a0 n0 c0 e0 a1 n1 c1 e1 h))):Zac pg Zmc [.slice a0 n0 c0 e0,.slice a1 n1 c1 e1] h Q:=
 Zac.of_body kp (c:=cod fn) (fn:=fn) Go.Proofs.Try.func8 (by kernel_rfl) (by kernel_rfl) (Nat.le_of_ble_eq_true (by kernel_rfl))
  (cast (by kernel_rfl) ht)
end Zev
end Go.Sim

set_option maxRecDepth 100000
set_option maxHeartbeats 0
set_option linter.unusedVariables false
namespace Go.Sim
open Go Go.RowKit
end Go.Sim

set_option maxRecDepth 100000
set_option maxHeartbeats 0
set_option linter.unusedVariables false
namespace Go.Sim
open Go Go.RowKit
namespace Zeb
noncomputable abbrev fn:Func:=Go.Proofs.Try.f53
def kp:Zcr:=[(3000006,[7]),(1000006,[6,7,19]),(2000009,[19,6,7]),(4000010,[19,6,7])]
noncomputable def C (p:List Nat):Code:=(cod fn).sub p
def KR (Q:QT):KT:=Zhe pg fn.results.toList Q
abbrev T6:=Nat→Nat→Nat→Nat→Int→Zaa→Prop
def E6 (R6:T6) (env:Env) (h:Zaa):Prop:=Zcq 6 env fun v env=>Zei v fun a=>Zaw a fun i6 o6=>Zcq 7 env fun v env=>Zei v fun a=>Zaw a fun i7 o7=>Zcq 19 env fun v env=>Zhh .i64 v fun x19=>Znu env (R6 i6 o6 i7 o7 x19 h)
theorem Zik {R6:T6} {env:Env} {h:Zaa} (hi:E6 R6 env h):∃ i6,∃ o6,∃ i7,∃ o7,∃ x19,env=[(6,.ptr (i6,o6)),(7,.ptr (i7,o7)),(19,.int .i64 x19)]∧R6 i6 o6 i7 o7 x19 h:=by
 unfold E6 at hi
 have hi0:=hi
 clear hi
 obtain ⟨_,_,rfl,hi1⟩:=Zam hi0
 obtain ⟨a,rfl,hi2⟩:=Zbl hi1
 obtain ⟨i6,o6,rfl,hi3⟩:=Zbp hi2
 obtain ⟨_,_,rfl,hi4⟩:=Zam hi3
 obtain ⟨a,rfl,hi5⟩:=Zbl hi4
 obtain ⟨i7,o7,rfl,hi6⟩:=Zbp hi5
 obtain ⟨_,_,rfl,hi7⟩:=Zam hi6
 obtain ⟨x19,rfl,hi8⟩:=Zbi hi7
 obtain ⟨rfl,hi9⟩:=Zbx hi8
 have hi:=hi9
 exact ⟨i6,o6,i7,o7,x19,rfl,hi⟩
def K0 (Q:QT):KT:=andThen (fun env' h'=>(match kp.find 4000011 with | some ks=>Den pg fn.ntmps (C [1,1,1,1,1]) (env'.keep ks) h' (KR Q) | none=>den pg fn.ntmps kp (C [1,1,1,1,1]) env' h' (KR Q))) (KR Q)
def K1 (Q:QT):KT:=Zdv 0 (K0 Q)
def K2 (Q:QT):KT:=left kp 6 (K1 Q)
def K3 (Q:QT) (R6:T6):KT:=rnd ((kp.find 1000006).getD []) (E6 R6) (K2 Q)
def L6 (Q:QT) (i6 o6 i7 o7:Nat) (x19:Int) (h:Zaa):Prop:=Zgo (Den pg fn.ntmps (C [1,1,1,1,0,1,0,0])) ((kp.find 1000006).getD []) (K2 Q) [(6,.ptr (i6,o6)),(7,.ptr (i7,o7)),(19,.int .i64 x19)] h
def J10 (Q:QT) (R6:T6) (x19:Int) (i6 o6 i7 o7:Nat) (h:Zaa):Prop:=Den pg fn.ntmps (C [1,1,1,1,0,1,0,0,1,1,1]) [(19,.int .i64 x19),(6,.ptr (i6,o6)),(7,.ptr (i7,o7))] h (K3 Q R6)
def Zyb (Q:QT) (i7 o7:Nat) (h:Zaa):Prop:=At (K1 Q) (.exit 0) [(7,.ptr (i7,o7))] h
def L6t (Q:QT) (R6:T6) (i6 o6 i7 o7:Nat) (x19:Int) (h:Zaa):Prop:=
 bcase (decide ((x19:Int) < 12)) ((0≤(x19:Int)∧(x19:Int) < (12:Nat))∧(Zbr .u8 (Zaj h (.ptr (i6,o6 + (Int.toNat x19) * 2 + 0))) fun A=>bcase (!((A:Int) == 0)) ((0≤(x19:Int)∧(x19:Int) < (12:Nat))∧(Zdi (Zda h (.ptr (i6,o6 + (Int.toNat x19) * 2)) 2) fun A=>Zal A fun A B=>Zbr .u8 A fun A=>Zal B fun B C=>xSl B fun B D E F=>Zcs C (Zac pg Zhq [.ptr (i6,o6),.agg [.int .u8 A,.slice B D E F]] h fun A B=>
 Zru A fun A=>Zal A fun A C=>Zbr .u8 A fun A=>Zal C fun C D=>xSl C fun C E F G=>Zcs D ((0≤(x19:Int)∧(x19:Int) < (12:Nat))∧(Zce (Zbc B (.ptr (i7,o7 + (Int.toNat x19) * 2)) [.int .u8 A,.slice C E F G]) fun A=>J10 Q R6 x19 i6 o6 i7 o7 A))))) (J10 Q R6 x19 i6 o6 i7 o7 h))) (Zyb Q i7 o7 h)
theorem Ztu (Q:QT) (R6:T6) (i6 o6 i7 o7:Nat) (x19:Int) (h:Zaa) (ht:L6t Q R6 i6 o6 i7 o7 x19 h):Den pg fn.ntmps (C [1,1,1,1,0,1,0,0]) [(6,.ptr (i6,o6)),(7,.ptr (i7,o7)),(19,.int .i64 x19)] h (K3 Q R6):=
 Zaz (kp:=kp) (cast (by kernel_rfl) ht)
theorem L6ind (Q:QT) (i6 o6 i7 o7:Nat) {G:Type} (J:G→Int→Zaa→Prop) (m:G→Nat)
 (hr:∀ (g:G) (x19:Int) (h:Zaa),J g x19 h→∀ (R6:T6),(∀ g' (x19:Int) (h:Zaa),m g' < m g→J g' x19 h→R6 i6 o6 i7 o7 x19 h)→L6t Q R6 i6 o6 i7 o7 x19 h)
 (g:G) (x19:Int) (h:Zaa) (hj:J g x19 h):L6 Q i6 o6 i7 o7 x19 h:=by
 let P:=fun (K:Int→Zaa→Prop) i6' o6' i7' o7' x19 h=>i6=i6'∧o6=o6'∧i7=i7'∧o7=o7'∧K x19 h
 refine Zgo.inv2 (fun g=>E6 (P (J g))) (fun g=>E6 (P fun x19 h=>∃ g',m g' < m g∧J g' x19 h)) m ?_ ?_ g ⟨rfl,rfl,rfl,rfl,hj⟩
 ·intro g env h hi
  obtain ⟨i6',o6',i7',o7',x19,rfl,rfl,rfl,rfl,rfl,hj⟩:=Zik hi
  exact Ztu Q _ i6 o6 i7 o7 x19 h (hr g x19 h hj (P fun x19 h=>∃ g',m g' < m g∧J g' x19 h) fun g' x19 h hlt hj=>⟨rfl,rfl,rfl,rfl,g',hlt,hj⟩)
 ·intro g env h hi
  obtain ⟨i6',o6',i7',o7',x19,rfl,rfl,rfl,rfl,rfl,g',hlt,hj⟩:=Zik hi
  exact ⟨g',hlt,rfl,rfl,rfl,rfl,hj⟩
theorem J10i (Q:QT) (R6:T6) (x19:Int) (i6 o6 i7 o7:Nat) (h:Zaa) (ht :
 R6 i6 o6 i7 o7 (IntKind.wrap .i64 (x19 + 1)) h):J10 Q R6 x19 i6 o6 i7 o7 h:=
 Zaz (kp:=kp) (cast (by kernel_rfl) ht)
theorem A6x0i (Q:QT) (i7 o7:Nat) (h:Zaa) (ht :
 Q (.tup [.ptr (i7,o7),.bool true]) h):Zyb Q i7 o7 h:=
 At.mk (cast (by kernel_rfl) ht)
theorem call (x0x0:Int) (a0x1:Pt) (n0x1 c0x1:Nat) (e0x1:Bool) (x1x0:Int) (a1x1:Pt) (n1x1 c1x1:Nat) (e1x1:Bool) (h:Zaa) (Q:QT) (ht :
 Zec (h ++ [.cells Zab [.int .u8 x0x0,.slice a0x1 n0x1 c0x1 e0x1] false]) fun A=>Zec (A ++ [.cells Zab [.int .u8 x1x0,.slice a1x1 n1x1 c1x1 e1x1] false]) fun B=>Zec (B ++ [.cells Zbf [.int .u8 0,.slice none 0 0 true,.int .u8 0,.slice none 0 0 true,.int .u8 0,.slice none 0 0 true,.int .u8 0,.slice none 0 0 true,.int .u8 0,.slice none 0 0 true,.int .u8 0,.slice none 0 0 true,.int .u8 0,.slice none 0 0 true,.int .u8 0,.slice none 0 0 true,.int .u8 0,.slice none 0 0 true,.int .u8 0,.slice none 0 0 true,.int .u8 0,.slice none 0 0 true,.int .u8 0,.slice none 0 0 true] false]) fun C=>Zdi (Zda C (.ptr (h.length,0)) 2) fun D=>Zal D fun D E=>Zbr .u8 D fun D=>Zal E fun E F=>xSl E fun E G H I=>Zcs F (Zdi (Zda C (.ptr (A.length,0)) 2) fun A=>Zal A fun A F=>Zbr .u8 A fun A=>Zal F fun F J=>xSl F fun F K L M=>Zcs J (Zac pg Zbs [.ptr (B.length,0),.agg [.int .u8 D,.slice E G H I],.agg [.int .u8 A,.slice F K L M]] C fun A C=>
 Zbg A fun A=>bcase (!A) (Q (.tup [.ptr (B.length,0),.bool false]) C) (Zec (C ++ [.cells Zbf [.int .u8 0,.slice none 0 0 true,.int .u8 0,.slice none 0 0 true,.int .u8 0,.slice none 0 0 true,.int .u8 0,.slice none 0 0 true,.int .u8 0,.slice none 0 0 true,.int .u8 0,.slice none 0 0 true,.int .u8 0,.slice none 0 0 true,.int .u8 0,.slice none 0 0 true,.int .u8 0,.slice none 0 0 true,.int .u8 0,.slice none 0 0 true,.int .u8 0,.slice none 0 0 true,.int .u8 0,.slice none 0 0 true] false]) fun A=>L6 Q B.length 0 C.length 0 0 A)))):Zac pg Ziz [.agg [.int .u8 x0x0,.slice a0x1 n0x1 c0x1 e0x1],.agg [.int .u8 x1x0,.slice a1x1 n1x1 c1x1 e1x1]] h Q:=
 Zac.of_body kp (c:=cod fn) (fn:=fn) Go.Proofs.Try.func53 (by kernel_rfl) (by kernel_rfl) (Nat.le_of_ble_eq_true (by kernel_rfl))
  (cast (by kernel_rfl) ht)
end Zeb
namespace Zhw
noncomputable abbrev fn:Func:=Go.Proofs.Try.f31
def kp:Zcr:=[(4000005,[5,7]),(2000005,[10])]
noncomputable def C (p:List Nat):Code:=(cod fn).sub p
def KR (Q:QT):KT:=Zhe pg fn.results.toList Q
def J5 (Q:QT) (i5 o5 i7 o7:Nat) (h:Zaa):Prop:=Den pg fn.ntmps (C [1,1,1,1]) [(5,.ptr (i5,o5)),(7,.ptr (i7,o7))] h (KR Q)
theorem J5i (Q:QT) (i5 o5 i7 o7:Nat) (h:Zaa) (ht :
 Zdi (Zda h (.ptr (i5,o5)) 2) fun A=>Zal A fun A B=>Zbr .u8 A fun A=>Zal B fun B C=>xSl B fun B D E F=>Zcs C (Zdi (Zda h (.ptr (i7,o7)) 2) fun C=>Zal C fun C G=>Zbr .u8 C fun C=>Zal G fun G H=>xSl G fun G I J K=>Zcs H ((Zda h (.ptr (i5,o5)) 2=Zda h (.ptr (i5,o5)) 2)∧Zac pg Zge [.agg [.int .u8 C,.slice G I J K]] h fun C G=>
 Zru C fun C=>Zal C fun C H=>Zbr .u8 C fun C=>Zal H fun H I=>xSl H fun H J K L=>Zcs I ((Zda G (.ptr (i5,o5)) 2=Zda h (.ptr (i5,o5)) 2)∧Zac pg Ziz [.agg [.int .u8 A,.slice B D E F],.agg [.int .u8 C,.slice H J K L]] G fun A B=>
 Zrs A fun A=>Zal A fun A C=>Zei A fun A=>Zal C fun A C=>Zbg A fun A=>Zcs C (Q (.bool (!A)) B))))):J5 Q i5 o5 i7 o7 h:=
 Zaz (kp:=kp) (cast (by kernel_rfl) ht)
theorem call (x0 x1:List Nat) (h:Zaa) (Q:QT) (ht :
 Zac pg Zfk [.str x0] h fun A B=>
 Zrs A fun A=>Zal A fun A C=>Zru A fun A=>Zal A fun A D=>Zbr .u8 A fun A=>Zal D fun D E=>xSl D fun D F G H=>Zcs E (Zal C fun C E=>Zbg C fun C=>Zcs E (Zec (B ++ [.cells Zab [.int .u8 0,.slice none 0 0 true] false]) fun E=>Zce (Zbc E (.ptr (B.length,0)) [.int .u8 A,.slice D F G H]) fun A=>Zac pg Zfk [.str x1] A fun A D=>
 Zrs A fun A=>Zal A fun A E=>Zru A fun A=>Zal A fun A F=>Zbr .u8 A fun A=>Zal F fun F G=>xSl F fun F H I J=>Zcs G (Zal E fun E G=>Zbg E fun E=>Zcs G (Zec (D ++ [.cells Zab [.int .u8 0,.slice none 0 0 true] false]) fun G=>Zce (Zbc G (.ptr (D.length,0)) [.int .u8 A,.slice F H I J]) fun A=>bcase (!C) (Q (.bool false) A) (bcase (!E) (Q (.bool false) A) (J5 Q B.length 0 D.length 0 A))))))):Zac pg Zdg [.str x0,.str x1] h Q:=
 Zac.of_body kp (c:=cod fn) (fn:=fn) Go.Proofs.Try.func31 (by kernel_rfl) (by kernel_rfl) (Nat.le_of_ble_eq_true (by kernel_rfl))
  (cast (by kernel_rfl) ht)
end Zhw
end Go.Sim

set_option maxRecDepth 100000
set_option maxHeartbeats 0
set_option linter.unusedVariables false
namespace Go.Sim
open Go Go.RowKit
namespace Zga
noncomputable abbrev fn:Func:=Go.Proofs.Try.f98
def kp:Zcr:=[(3000004,[5,4]),(1000004,[0,4,5,16,17,18]),(2000006,[18,17,16,5,0,4])]
noncomputable def C (p:List Nat):Code:=(cod fn).sub p
def KR (Q:QT):KT:=Zhe pg fn.results.toList Q
abbrev T4:=Pt→Nat→Nat→Nat→Nat→Pt→Nat→Nat→Bool→Int→Int→Zaa→Prop
def E4 (R4:T4) (env:Env) (h:Zaa):Prop:=Zcq 0 env fun v env=>Zei v fun a0=>Zcq 4 env fun v env=>Zei v fun a=>Zaw a fun i4 o4=>Zcq 5 env fun v env=>Zei v fun a=>Zaw a fun i5 o5=>Zcq 16 env fun v env=>xSl v fun a16 n16 c16 e16=>Zcq 17 env fun v env=>Zhh .i64 v fun x17=>Zcq 18 env fun v env=>Zhh .i64 v fun x18=>Znu env (R4 a0 i4 o4 i5 o5 a16 n16 c16 e16 x17 x18 h)
theorem Yhh {R4:T4} {env:Env} {h:Zaa} (hi:E4 R4 env h):∃ a0,∃ i4,∃ o4,∃ i5,∃ o5,∃ a16,∃ n16,∃ c16,∃ e16,∃ x17,∃ x18,env=[(0,.ptr a0),(4,.ptr (i4,o4)),(5,.ptr (i5,o5)),(16,.slice a16 n16 c16 e16),(17,.int .i64 x17),(18,.int .i64 x18)]∧R4 a0 i4 o4 i5 o5 a16 n16 c16 e16 x17 x18 h:=by
 unfold E4 at hi
 have hi0:=hi
 clear hi
 obtain ⟨_,_,rfl,hi1⟩:=Zam hi0
 obtain ⟨a0,rfl,hi2⟩:=Zbl hi1
 obtain ⟨_,_,rfl,hi3⟩:=Zam hi2
 obtain ⟨a,rfl,hi4⟩:=Zbl hi3
 obtain ⟨i4,o4,rfl,hi5⟩:=Zbp hi4
 obtain ⟨_,_,rfl,hi6⟩:=Zam hi5
 obtain ⟨a,rfl,hi7⟩:=Zbl hi6
 obtain ⟨i5,o5,rfl,hi8⟩:=Zbp hi7
 obtain ⟨_,_,rfl,hi9⟩:=Zam hi8
 obtain ⟨a16,n16,c16,e16,rfl,hi10⟩:=Zdz hi9
 obtain ⟨_,_,rfl,hi11⟩:=Zam hi10
 obtain ⟨x17,rfl,hi12⟩:=Zbi hi11
 obtain ⟨_,_,rfl,hi13⟩:=Zam hi12
 obtain ⟨x18,rfl,hi14⟩:=Zbi hi13
 obtain ⟨rfl,hi15⟩:=Zbx hi14
 have hi:=hi15
 exact ⟨a0,i4,o4,i5,o5,a16,n16,c16,e16,x17,x18,rfl,hi⟩
def K0 (Q:QT):KT:=andThen (fun env' h'=>(match kp.find 4000008 with | some ks=>Den pg fn.ntmps (C [1,1,1,1]) (env'.keep ks) h' (KR Q) | none=>den pg fn.ntmps kp (C [1,1,1,1]) env' h' (KR Q))) (KR Q)
def K1 (Q:QT):KT:=Zdv 0 (K0 Q)
def K2 (Q:QT):KT:=left kp 4 (K1 Q)
def K3 (Q:QT) (R4:T4):KT:=rnd ((kp.find 1000004).getD []) (E4 R4) (K2 Q)
def L4 (Q:QT) (a0:Pt) (i4 o4 i5 o5:Nat) (a16:Pt) (n16 c16:Nat) (e16:Bool) (x17 x18:Int) (h:Zaa):Prop:=Zgo (Den pg fn.ntmps (C [1,1,1,0,1,0,0])) ((kp.find 1000004).getD []) (K2 Q) [(0,.ptr a0),(4,.ptr (i4,o4)),(5,.ptr (i5,o5)),(16,.slice a16 n16 c16 e16),(17,.int .i64 x17),(18,.int .i64 x18)] h
def Yma (Q:QT) (i5 o5 i4 o4:Nat) (h:Zaa):Prop:=At (K1 Q) (.exit 0) [(5,.ptr (i5,o5)),(4,.ptr (i4,o4))] h
def L4t (Q:QT) (R4:T4) (a0:Pt) (i4 o4 i5 o5:Nat) (a16:Pt) (n16 c16:Nat) (e16:Bool) (x17 x18:Int) (h:Zaa):Prop:=
 bcase (decide ((x18:Int) < x17)) ((0≤(x18:Int)∧(x18:Int) < (n16:Nat))∧(Zaw a16 fun A B=>Zdi (Zda h (.ptr (A,B + (Int.toNat x18) * 2)) 2) fun A=>Zal A fun A B=>Zbr .u8 A fun A=>Zal B fun B C=>xSl B fun B D E F=>Zcs C (Zec (h ++ [.cells Zab [.int .u8 0,.slice none 0 0 true] false]) fun C=>Zce (Zbc C (.ptr (h.length,0)) [.int .u8 A,.slice B D E F]) fun A=>xSl (Zaj A (.ptr (i5,o5 + 1))) fun B C D E=>Zdi (Zda A (.ptr (h.length,0)) 2) fun F=>Zal F fun F G=>Zbr .u8 F fun F=>Zal G fun G H=>xSl G fun G I J K=>Zcs H ((Zaj A (.ptr (i5,o5 + 1))=Zaj A (.ptr (i5,o5 + 1)))∧Zac pg Zhq [.ptr a0,.agg [.int .u8 F,.slice G I J K]] A fun F G=>
 Zru F fun F=>Zal F fun F H=>Zbr .u8 F fun F=>Zal H fun H I=>xSl H fun H J K L=>Zcs I ((Zaj G (.ptr (i5,o5 + 1))=Zaj A (.ptr (i5,o5 + 1)))∧Zec (G ++ [.cells Zab [.int .u8 F,.slice H J K L] false]) fun A=>(Zaj A (.ptr (i5,o5 + 1))=Zaj G (.ptr (i5,o5 + 1)))∧Zdt pg Zeg A (.slice B C D E) (.slice (G.length,0) 1 1 true) fun A B=>xSl A fun A C D E=>Zce (Zbc B (.ptr (i5,o5 + 1)) [.slice A C D E]) fun A=>R4 a0 i4 o4 i5 o5 a16 n16 c16 e16 x17 (IntKind.wrap .i64 (x18 + 1)) A))))) (Yma Q i5 o5 i4 o4 h)
theorem Ylp (Q:QT) (R4:T4) (a0:Pt) (i4 o4 i5 o5:Nat) (a16:Pt) (n16 c16:Nat) (e16:Bool) (x17 x18:Int) (h:Zaa) (ht:L4t Q R4 a0 i4 o4 i5 o5 a16 n16 c16 e16 x17 x18 h):Den pg fn.ntmps (C [1,1,1,0,1,0,0]) [(0,.ptr a0),(4,.ptr (i4,o4)),(5,.ptr (i5,o5)),(16,.slice a16 n16 c16 e16),(17,.int .i64 x17),(18,.int .i64 x18)] h (K3 Q R4):=
 Zaz (kp:=kp) (cast (by kernel_rfl) ht)
theorem L4ind (Q:QT) (a0:Pt) (i4 o4 i5 o5:Nat) (a16:Pt) (n16 c16:Nat) (e16:Bool) (x17:Int) {G:Type} (J:G→Int→Zaa→Prop) (m:G→Nat)
 (hr:∀ (g:G) (x18:Int) (h:Zaa),J g x18 h→∀ (R4:T4),(∀ g' (x18:Int) (h:Zaa),m g' < m g→J g' x18 h→R4 a0 i4 o4 i5 o5 a16 n16 c16 e16 x17 x18 h)→L4t Q R4 a0 i4 o4 i5 o5 a16 n16 c16 e16 x17 x18 h)
 (g:G) (x18:Int) (h:Zaa) (hj:J g x18 h):L4 Q a0 i4 o4 i5 o5 a16 n16 c16 e16 x17 x18 h:=by
 let P:=fun (K:Int→Zaa→Prop) a0' i4' o4' i5' o5' a16' n16' c16' e16' x17' x18 h=>a0=a0'∧i4=i4'∧o4=o4'∧i5=i5'∧o5=o5'∧a16=a16'∧n16=n16'∧c16=c16'∧e16=e16'∧x17=x17'∧K x18 h
 refine Zgo.inv2 (fun g=>E4 (P (J g))) (fun g=>E4 (P fun x18 h=>∃ g',m g' < m g∧J g' x18 h)) m ?_ ?_ g ⟨rfl,rfl,rfl,rfl,rfl,rfl,rfl,rfl,rfl,rfl,hj⟩
 ·intro g env h hi
  obtain ⟨a0',i4',o4',i5',o5',a16',n16',c16',e16',x17',x18,rfl,rfl,rfl,rfl,rfl,rfl,rfl,rfl,rfl,rfl,rfl,hj⟩:=Yhh hi
  exact Ylp Q _ a0 i4 o4 i5 o5 a16 n16 c16 e16 x17 x18 h (hr g x18 h hj (P fun x18 h=>∃ g',m g' < m g∧J g' x18 h) fun g' x18 h hlt hj=>⟨rfl,rfl,rfl,rfl,rfl,rfl,rfl,rfl,rfl,rfl,g',hlt,hj⟩)
 ·intro g env h hi
  obtain ⟨a0',i4',o4',i5',o5',a16',n16',c16',e16',x17',x18,rfl,rfl,rfl,rfl,rfl,rfl,rfl,rfl,rfl,rfl,rfl,g',hlt,hj⟩:=Yhh hi
  exact ⟨g',hlt,rfl,rfl,rfl,rfl,rfl,rfl,rfl,rfl,rfl,rfl,hj⟩
theorem A4x0i (Q:QT) (i5 o5 i4 o4:Nat) (h:Zaa) (ht :
 Zdi (Zda h (.ptr (i5,o5)) 2) fun A=>Zal A fun A B=>Zbr .u8 A fun A=>Zal B fun B C=>xSl B fun B D E F=>Zcs C (Zce (Zbc h (.ptr (i4,o4)) [.int .u8 A,.slice B D E F]) fun A=>Zdi (Zda A (.ptr (i4,o4)) 2) fun B=>Zal B fun B C=>Zbr .u8 B fun B=>Zal C fun C D=>xSl C fun C E F G=>Zcs D (Q (.agg [.int .u8 B,.slice C E F G]) A))):Yma Q i5 o5 i4 o4 h:=
 At.mk (cast (by kernel_rfl) ht)
theorem call (a0:Pt) (x1x0:Int) (a1x1:Pt) (n1x1 c1x1:Nat) (e1x1:Bool) (h:Zaa) (Q:QT) (ht :
 Zec (h ++ [.cells Zab [.int .u8 x1x0,.slice a1x1 n1x1 c1x1 e1x1] false]) fun A=>Zec (A ++ [.cells Zab [.int .u8 0,.slice none 0 0 true] false]) fun B=>Zdi (Zda B (.ptr (h.length,0)) 2) fun C=>Zal C fun C D=>Zbr .u8 C fun C=>Zal D fun D E=>xSl D fun D F G H=>Zcs E (Zac pg Zfj [.ptr a0,.agg [.int .u8 C,.slice D F G H]] B fun B C=>
 Zru B fun B=>Zal B fun B D=>Zbr .u8 B fun B=>Zal D fun D E=>xSl D fun D F G H=>Zcs E (Zce (Zbc C (.ptr (h.length,0)) [.int .u8 B,.slice D F G H]) fun B=>Zbr .u8 (Zaj B (.ptr (h.length,0 + 0))) fun C=>Zec (B ++ [.cells Zab [] false]) fun D=>Zec (D ++ [.cells Zab [.int .u8 0,.slice none 0 0 true] false]) fun E=>Zce (Zbc E (.ptr (D.length,0)) [.int .u8 C,.slice (B.length,0) 0 0 true]) fun B=>xSl (Zaj B (.ptr (h.length,0 + 1))) fun C E F G=>L4 Q a0 A.length 0 D.length 0 C E F G (((E:Nat):Int)) 0 B))):Zac pg Zhq [.ptr a0,.agg [.int .u8 x1x0,.slice a1x1 n1x1 c1x1 e1x1]] h Q:=
 Zac.of_body kp (c:=cod fn) (fn:=fn) Go.Proofs.Try.func98 (by kernel_rfl) (by kernel_rfl) (Nat.le_of_ble_eq_true (by kernel_rfl))
  (cast (by kernel_rfl) ht)
end Zga
namespace Zdh
noncomputable abbrev fn:Func:=Go.Proofs.Try.f77
def kp:Zcr:=[(4000005,[1,2,3]),(3000006,[3,2]),(1000006,[2,3,21,22,23]),(2000008,[23,22,21,3,2])]
noncomputable def C (p:List Nat):Code:=(cod fn).sub p
def KR (Q:QT):KT:=Zhe pg fn.results.toList Q
abbrev T6:=Nat→Nat→Nat→Nat→Pt→Nat→Nat→Bool→Int→Int→Zaa→Prop
def E6 (R6:T6) (env:Env) (h:Zaa):Prop:=Zcq 2 env fun v env=>Zei v fun a=>Zaw a fun i2 o2=>Zcq 3 env fun v env=>Zei v fun a=>Zaw a fun i3 o3=>Zcq 21 env fun v env=>xSl v fun a21 n21 c21 e21=>Zcq 22 env fun v env=>Zhh .i64 v fun x22=>Zcq 23 env fun v env=>Zhh .i64 v fun x23=>Znu env (R6 i2 o2 i3 o3 a21 n21 c21 e21 x22 x23 h)
theorem Zik {R6:T6} {env:Env} {h:Zaa} (hi:E6 R6 env h):∃ i2,∃ o2,∃ i3,∃ o3,∃ a21,∃ n21,∃ c21,∃ e21,∃ x22,∃ x23,env=[(2,.ptr (i2,o2)),(3,.ptr (i3,o3)),(21,.slice a21 n21 c21 e21),(22,.int .i64 x22),(23,.int .i64 x23)]∧R6 i2 o2 i3 o3 a21 n21 c21 e21 x22 x23 h:=by
 unfold E6 at hi
 have hi0:=hi
 clear hi
 obtain ⟨_,_,rfl,hi1⟩:=Zam hi0
 obtain ⟨a,rfl,hi2⟩:=Zbl hi1
 obtain ⟨i2,o2,rfl,hi3⟩:=Zbp hi2
 obtain ⟨_,_,rfl,hi4⟩:=Zam hi3
 obtain ⟨a,rfl,hi5⟩:=Zbl hi4
 obtain ⟨i3,o3,rfl,hi6⟩:=Zbp hi5
 obtain ⟨_,_,rfl,hi7⟩:=Zam hi6
 obtain ⟨a21,n21,c21,e21,rfl,hi8⟩:=Zdz hi7
 obtain ⟨_,_,rfl,hi9⟩:=Zam hi8
 obtain ⟨x22,rfl,hi10⟩:=Zbi hi9
 obtain ⟨_,_,rfl,hi11⟩:=Zam hi10
 obtain ⟨x23,rfl,hi12⟩:=Zbi hi11
 obtain ⟨rfl,hi13⟩:=Zbx hi12
 have hi:=hi13
 exact ⟨i2,o2,i3,o3,a21,n21,c21,e21,x22,x23,rfl,hi⟩
def K0 (Q:QT):KT:=andThen (fun env' h'=>(match kp.find 4000010 with | some ks=>Den pg fn.ntmps (C [1,1,1,1]) (env'.keep ks) h' (KR Q) | none=>den pg fn.ntmps kp (C [1,1,1,1]) env' h' (KR Q))) (KR Q)
def K1 (Q:QT):KT:=Zdv 0 (K0 Q)
def K2 (Q:QT):KT:=left kp 6 (K1 Q)
def K3 (Q:QT) (R6:T6):KT:=rnd ((kp.find 1000006).getD []) (E6 R6) (K2 Q)
def J5 (Q:QT) (i1 o1 i2 o2 i3 o3:Nat) (h:Zaa):Prop:=Den pg fn.ntmps (C [1,1,1]) [(1,.ptr (i1,o1)),(2,.ptr (i2,o2)),(3,.ptr (i3,o3))] h (KR Q)
def L6 (Q:QT) (i2 o2 i3 o3:Nat) (a21:Pt) (n21 c21:Nat) (e21:Bool) (x22 x23:Int) (h:Zaa):Prop:=Zgo (Den pg fn.ntmps (C [1,1,1,0,1,0,0])) ((kp.find 1000006).getD []) (K2 Q) [(2,.ptr (i2,o2)),(3,.ptr (i3,o3)),(21,.slice a21 n21 c21 e21),(22,.int .i64 x22),(23,.int .i64 x23)] h
def Zyb (Q:QT) (i3 o3 i2 o2:Nat) (h:Zaa):Prop:=At (K1 Q) (.exit 0) [(3,.ptr (i3,o3)),(2,.ptr (i2,o2))] h
theorem J5i (Q:QT) (i1 o1 i2 o2 i3 o3:Nat) (h:Zaa) (ht :
 xSl (Zaj h (.ptr (i1,o1 + 1))) fun A B C D=>L6 Q i2 o2 i3 o3 A B C D (((B:Nat):Int)) 0 h):J5 Q i1 o1 i2 o2 i3 o3 h:=
 Zaz (kp:=kp) (cast (by kernel_rfl) ht)
def L6t (Q:QT) (R6:T6) (i2 o2 i3 o3:Nat) (a21:Pt) (n21 c21:Nat) (e21:Bool) (x22 x23:Int) (h:Zaa):Prop:=
 bcase (decide ((x23:Int) < x22)) ((0≤(x23:Int)∧(x23:Int) < (n21:Nat))∧(Zaw a21 fun A B=>Zdi (Zda h (.ptr (A,B + (Int.toNat x23) * 2)) 2) fun A=>Zal A fun A B=>Zbr .u8 A fun A=>Zal B fun B C=>xSl B fun B D E F=>Zcs C (Zec (h ++ [.cells Zab [.int .u8 0,.slice none 0 0 true] false]) fun C=>Zce (Zbc C (.ptr (h.length,0)) [.int .u8 A,.slice B D E F]) fun A=>xSl (Zaj A (.ptr (i3,o3 + 1))) fun B C D E=>Zdi (Zda A (.ptr (h.length,0)) 2) fun F=>Zal F fun F G=>Zbr .u8 F fun F=>Zal G fun G H=>xSl G fun G I J K=>Zcs H ((Zaj A (.ptr (i3,o3 + 1))=Zaj A (.ptr (i3,o3 + 1)))∧Zac pg Zge [.agg [.int .u8 F,.slice G I J K]] A fun F G=>
 Zru F fun F=>Zal F fun F H=>Zbr .u8 F fun F=>Zal H fun H I=>xSl H fun H J K L=>Zcs I ((Zaj G (.ptr (i3,o3 + 1))=Zaj A (.ptr (i3,o3 + 1)))∧Zec (G ++ [.cells Zab [.int .u8 F,.slice H J K L] false]) fun A=>(Zaj A (.ptr (i3,o3 + 1))=Zaj G (.ptr (i3,o3 + 1)))∧Zdt pg Zeg A (.slice B C D E) (.slice (G.length,0) 1 1 true) fun A B=>xSl A fun A C D E=>Zce (Zbc B (.ptr (i3,o3 + 1)) [.slice A C D E]) fun A=>R6 i2 o2 i3 o3 a21 n21 c21 e21 x22 (IntKind.wrap .i64 (x23 + 1)) A))))) (Zyb Q i3 o3 i2 o2 h)
theorem Ztu (Q:QT) (R6:T6) (i2 o2 i3 o3:Nat) (a21:Pt) (n21 c21:Nat) (e21:Bool) (x22 x23:Int) (h:Zaa) (ht:L6t Q R6 i2 o2 i3 o3 a21 n21 c21 e21 x22 x23 h):Den pg fn.ntmps (C [1,1,1,0,1,0,0]) [(2,.ptr (i2,o2)),(3,.ptr (i3,o3)),(21,.slice a21 n21 c21 e21),(22,.int .i64 x22),(23,.int .i64 x23)] h (K3 Q R6):=
 Zaz (kp:=kp) (cast (by kernel_rfl) ht)
theorem L6ind (Q:QT) (i2 o2 i3 o3:Nat) (a21:Pt) (n21 c21:Nat) (e21:Bool) (x22:Int) {G:Type} (J:G→Int→Zaa→Prop) (m:G→Nat)
 (hr:∀ (g:G) (x23:Int) (h:Zaa),J g x23 h→∀ (R6:T6),(∀ g' (x23:Int) (h:Zaa),m g' < m g→J g' x23 h→R6 i2 o2 i3 o3 a21 n21 c21 e21 x22 x23 h)→L6t Q R6 i2 o2 i3 o3 a21 n21 c21 e21 x22 x23 h)
 (g:G) (x23:Int) (h:Zaa) (hj:J g x23 h):L6 Q i2 o2 i3 o3 a21 n21 c21 e21 x22 x23 h:=by
 let P:=fun (K:Int→Zaa→Prop) i2' o2' i3' o3' a21' n21' c21' e21' x22' x23 h=>i2=i2'∧o2=o2'∧i3=i3'∧o3=o3'∧a21=a21'∧n21=n21'∧c21=c21'∧e21=e21'∧x22=x22'∧K x23 h
 refine Zgo.inv2 (fun g=>E6 (P (J g))) (fun g=>E6 (P fun x23 h=>∃ g',m g' < m g∧J g' x23 h)) m ?_ ?_ g ⟨rfl,rfl,rfl,rfl,rfl,rfl,rfl,rfl,rfl,hj⟩
 ·intro g env h hi
  obtain ⟨i2',o2',i3',o3',a21',n21',c21',e21',x22',x23,rfl,rfl,rfl,rfl,rfl,rfl,rfl,rfl,rfl,rfl,hj⟩:=Zik hi
  exact Ztu Q _ i2 o2 i3 o3 a21 n21 c21 e21 x22 x23 h (hr g x23 h hj (P fun x23 h=>∃ g',m g' < m g∧J g' x23 h) fun g' x23 h hlt hj=>⟨rfl,rfl,rfl,rfl,rfl,rfl,rfl,rfl,rfl,g',hlt,hj⟩)
 ·intro g env h hi
  obtain ⟨i2',o2',i3',o3',a21',n21',c21',e21',x22',x23,rfl,rfl,rfl,rfl,rfl,rfl,rfl,rfl,rfl,rfl,g',hlt,hj⟩:=Zik hi
  exact ⟨g',hlt,rfl,rfl,rfl,rfl,rfl,rfl,rfl,rfl,rfl,hj⟩
theorem A6x0i (Q:QT) (i3 o3 i2 o2:Nat) (h:Zaa) (ht :
 Zdi (Zda h (.ptr (i3,o3)) 2) fun A=>Zal A fun A B=>Zbr .u8 A fun A=>Zal B fun B C=>xSl B fun B D E F=>Zcs C (Zce (Zbc h (.ptr (i2,o2)) [.int .u8 A,.slice B D E F]) fun A=>Zdi (Zda A (.ptr (i2,o2)) 2) fun B=>Zal B fun B C=>Zbr .u8 B fun B=>Zal C fun C D=>xSl C fun C E F G=>Zcs D (Q (.agg [.int .u8 B,.slice C E F G]) A))):Zyb Q i3 o3 i2 o2 h:=
 At.mk (cast (by kernel_rfl) ht)
theorem call (x0x0:Int) (a0x1:Pt) (n0x1 c0x1:Nat) (e0x1:Bool) (h:Zaa) (Q:QT) (ht :
 Zec (h ++ [.cells Zab [.int .u8 x0x0,.slice a0x1 n0x1 c0x1 e0x1] false]) fun A=>Zec (A ++ [.cells Zab [.int .u8 0,.slice none 0 0 true] false]) fun B=>Zbr .u8 (Zaj B (.ptr (h.length,0 + 0))) fun C=>Zec (B ++ [.cells Zab [] false]) fun D=>Zec (D ++ [.cells Zab [.int .u8 0,.slice none 0 0 true] false]) fun E=>Zce (Zbc E (.ptr (D.length,0)) [.int .u8 C,.slice (B.length,0) 0 0 true]) fun B=>Zbr .u8 (Zaj B (.ptr (h.length,0 + 0))) fun C=>Zac pg Zdq [.int .u8 C] B fun B C=>
 Zbr .i64 B fun B=>bcase (decide ((B:Int) ≥ 0)) (Zsn ([88,89,90,120,121,122,49,50,51,52,53,54]) (IntKind.wrap .i64 (B + 6)) fun B=>Zce (Zbc C (.ptr (D.length,0 + 0)) [.int .u8 (((B:Nat):Int))]) fun B=>J5 Q h.length 0 A.length 0 D.length 0 B) (J5 Q h.length 0 A.length 0 D.length 0 C)):Zac pg Zge [.agg [.int .u8 x0x0,.slice a0x1 n0x1 c0x1 e0x1]] h Q:=
 Zac.of_body kp (c:=cod fn) (fn:=fn) Go.Proofs.Try.func77 (by kernel_rfl) (by kernel_rfl) (Nat.le_of_ble_eq_true (by kernel_rfl))
  (cast (by kernel_rfl) ht)
end Zdh
end Go.Sim

set_option maxRecDepth 100000
set_option maxHeartbeats 0
set_option linter.unusedVariables false
namespace Go.Sim
open Go Go.RowKit
namespace Zcu
noncomputable abbrev fn:Func:=Go.Proofs.Try.f97
def kp:Zcr:=[(2000003,[7,8,0,4,5]),(2000009,[]),(4000015,[4,0,5]),(3000016,[6]),(1000016,[0,4,5,67,68]),(2000018,[83,68,67,0,4,5])]
noncomputable def C (p:List Nat):Code:=(cod fn).sub p
def KR (Q:QT):KT:=Zhe pg fn.results.toList Q
abbrev T16:=Pt→Nat→Nat→Nat→Nat→Int→Int→Zaa→Prop
def E16 (R16:T16) (env:Env) (h:Zaa):Prop:=Zcq 0 env fun v env=>Zei v fun a0=>Zcq 4 env fun v env=>Zei v fun a=>Zaw a fun i4 o4=>Zcq 5 env fun v env=>Zei v fun a=>Zaw a fun i5 o5=>Zcq 67 env fun v env=>Zhh .i64 v fun x67=>Zcq 68 env fun v env=>Zhh .i64 v fun x68=>Znu env (R16 a0 i4 o4 i5 o5 x67 x68 h)
theorem Ydf {R16:T16} {env:Env} {h:Zaa} (hi:E16 R16 env h):∃ a0,∃ i4,∃ o4,∃ i5,∃ o5,∃ x67,∃ x68,env=[(0,.ptr a0),(4,.ptr (i4,o4)),(5,.ptr (i5,o5)),(67,.int .i64 x67),(68,.int .i64 x68)]∧R16 a0 i4 o4 i5 o5 x67 x68 h:=by
 unfold E16 at hi
 have hi0:=hi
 clear hi
 obtain ⟨_,_,rfl,hi1⟩:=Zam hi0
 obtain ⟨a0,rfl,hi2⟩:=Zbl hi1
 obtain ⟨_,_,rfl,hi3⟩:=Zam hi2
 obtain ⟨a,rfl,hi4⟩:=Zbl hi3
 obtain ⟨i4,o4,rfl,hi5⟩:=Zbp hi4
 obtain ⟨_,_,rfl,hi6⟩:=Zam hi5
 obtain ⟨a,rfl,hi7⟩:=Zbl hi6
 obtain ⟨i5,o5,rfl,hi8⟩:=Zbp hi7
 obtain ⟨_,_,rfl,hi9⟩:=Zam hi8
 obtain ⟨x67,rfl,hi10⟩:=Zbi hi9
 obtain ⟨_,_,rfl,hi11⟩:=Zam hi10
 obtain ⟨x68,rfl,hi12⟩:=Zbi hi11
 obtain ⟨rfl,hi13⟩:=Zbx hi12
 have hi:=hi13
 exact ⟨a0,i4,o4,i5,o5,x67,x68,rfl,hi⟩
def K0 (Q:QT):KT:=andThen (fun env' h'=>(match kp.find 4000021 with | some ks=>Den pg fn.ntmps (C [1,1,1,1,1,1]) (env'.keep ks) h' (KR Q) | none=>den pg fn.ntmps kp (C [1,1,1,1,1,1]) env' h' (KR Q))) (KR Q)
def K1 (Q:QT):KT:=Zdv 1 (K0 Q)
def K2 (Q:QT):KT:=left kp 16 (K1 Q)
def K3 (Q:QT) (R16:T16):KT:=rnd ((kp.find 1000016).getD []) (E16 R16) (K2 Q)
def J15 (Q:QT) (i4 o4:Nat) (a0:Pt) (i5 o5:Nat) (h:Zaa):Prop:=Den pg fn.ntmps (C [1,1,1,1,1]) [(4,.ptr (i4,o4)),(0,.ptr a0),(5,.ptr (i5,o5))] h (KR Q)
def L16 (Q:QT) (a0:Pt) (i4 o4 i5 o5:Nat) (x67 x68:Int) (h:Zaa):Prop:=Zgo (Den pg fn.ntmps (C [1,1,1,1,1,0,1,0,0])) ((kp.find 1000016).getD []) (K2 Q) [(0,.ptr a0),(4,.ptr (i4,o4)),(5,.ptr (i5,o5)),(67,.int .i64 x67),(68,.int .i64 x68)] h
def Ykg (Q:QT) (h:Zaa):Prop:=At (K1 Q) (.exit 1) [(6,.undef)] h
theorem J15i (Q:QT) (i4 o4:Nat) (a0:Pt) (i5 o5:Nat) (h:Zaa) (ht :
 xSl (Zaj h (.ptr (i4,o4 + 1))) fun A A B B=>L16 Q a0 i4 o4 i5 o5 (((A:Nat):Int)) 0 h):J15 Q i4 o4 a0 i5 o5 h:=
 Zaz (kp:=kp) (cast (by kernel_rfl) ht)
def L16t (Q:QT) (R16:T16) (a0:Pt) (i4 o4 i5 o5:Nat) (x67 x68:Int) (h:Zaa):Prop:=
 bcase (decide ((x68:Int) < x67)) (xSl (Zaj h (.ptr (i4,o4 + 1))) fun A B C C=>(0≤(x68:Int)∧(x68:Int) < (B:Nat))∧(Zaw A fun A B=>Zdi (Zda h (.ptr (A,B + (Int.toNat x68) * 2)) 2) fun C=>Zal C fun C D=>Zbr .u8 C fun C=>Zal D fun D E=>xSl D fun D F G H=>Zcs E (xSl (Zaj h (.ptr (i5,o5 + 1))) fun E I J J=>(Zda h (.ptr (A,B + (Int.toNat x68) * 2)) 2=Zda h (.ptr (A,B + (Int.toNat x68) * 2)) 2)∧(Zaj h (.ptr (i4,o4 + 1))=Zaj h (.ptr (i4,o4 + 1)))∧(0≤(x68:Int)∧(x68:Int) < (I:Nat))∧(Zaw E fun E I=>Zdi (Zda h (.ptr (E,I + (Int.toNat x68) * 2)) 2) fun E=>Zal E fun E I=>Zbr .u8 E fun E=>Zal I fun I J=>xSl I fun I K L M=>Zcs J ((Zda h (.ptr (A,B + (Int.toNat x68) * 2)) 2=Zda h (.ptr (A,B + (Int.toNat x68) * 2)) 2)∧(Zaj h (.ptr (i4,o4 + 1))=Zaj h (.ptr (i4,o4 + 1)))∧Zac pg Zbs [.ptr a0,.agg [.int .u8 C,.slice D F G H],.agg [.int .u8 E,.slice I K L M]] h fun A B=>
 Zbg A fun A=>(Zaj B (.ptr (i4,o4 + 1))=Zaj h (.ptr (i4,o4 + 1)))∧bcase (!A) (Q (.bool false) B) (R16 a0 i4 o4 i5 o5 x67 (IntKind.wrap .i64 (x68 + 1)) B)))))) (Ykg Q h)
theorem Yjt (Q:QT) (R16:T16) (a0:Pt) (i4 o4 i5 o5:Nat) (x67 x68:Int) (h:Zaa) (ht:L16t Q R16 a0 i4 o4 i5 o5 x67 x68 h):Den pg fn.ntmps (C [1,1,1,1,1,0,1,0,0]) [(0,.ptr a0),(4,.ptr (i4,o4)),(5,.ptr (i5,o5)),(67,.int .i64 x67),(68,.int .i64 x68)] h (K3 Q R16):=
 Zaz (kp:=kp) (cast (by kernel_rfl) ht)
theorem L16ind (Q:QT) (a0:Pt) (i4 o4 i5 o5:Nat) (x67:Int) {G:Type} (J:G→Int→Zaa→Prop) (m:G→Nat)
 (hr:∀ (g:G) (x68:Int) (h:Zaa),J g x68 h→∀ (R16:T16),(∀ g' (x68:Int) (h:Zaa),m g' < m g→J g' x68 h→R16 a0 i4 o4 i5 o5 x67 x68 h)→L16t Q R16 a0 i4 o4 i5 o5 x67 x68 h)
 (g:G) (x68:Int) (h:Zaa) (hj:J g x68 h):L16 Q a0 i4 o4 i5 o5 x67 x68 h:=by
 let P:=fun (K:Int→Zaa→Prop) a0' i4' o4' i5' o5' x67' x68 h=>a0=a0'∧i4=i4'∧o4=o4'∧i5=i5'∧o5=o5'∧x67=x67'∧K x68 h
 refine Zgo.inv2 (fun g=>E16 (P (J g))) (fun g=>E16 (P fun x68 h=>∃ g',m g' < m g∧J g' x68 h)) m ?_ ?_ g ⟨rfl,rfl,rfl,rfl,rfl,rfl,hj⟩
 ·intro g env h hi
  obtain ⟨a0',i4',o4',i5',o5',x67',x68,rfl,rfl,rfl,rfl,rfl,rfl,rfl,hj⟩:=Ydf hi
  exact Yjt Q _ a0 i4 o4 i5 o5 x67 x68 h (hr g x68 h hj (P fun x68 h=>∃ g',m g' < m g∧J g' x68 h) fun g' x68 h hlt hj=>⟨rfl,rfl,rfl,rfl,rfl,rfl,g',hlt,hj⟩)
 ·intro g env h hi
  obtain ⟨a0',i4',o4',i5',o5',x67',x68,rfl,rfl,rfl,rfl,rfl,rfl,rfl,g',hlt,hj⟩:=Ydf hi
  exact ⟨g',hlt,rfl,rfl,rfl,rfl,rfl,rfl,hj⟩
theorem A16x1i (Q:QT) (h:Zaa) (ht :
 Q (.bool true) h):Ykg Q h:=
 At.mk (cast (by kernel_rfl) ht)
theorem call (a0:Pt) (x1x0:Int) (a1x1:Pt) (n1x1 c1x1:Nat) (e1x1:Bool) (x2x0:Int) (a2x1:Pt) (n2x1 c2x1:Nat) (e2x1:Bool) (h:Zaa) (Q:QT) (ht :
 Zec (h ++ [.cells Zab [.int .u8 x1x0,.slice a1x1 n1x1 c1x1 e1x1] false]) fun A=>Zec (A ++ [.cells Zab [.int .u8 x2x0,.slice a2x1 n2x1 c2x1 e2x1] false]) fun B=>Zdi (Zda B (.ptr (h.length,0)) 2) fun C=>Zal C fun C D=>Zbr .u8 C fun C=>Zal D fun D E=>xSl D fun D F G H=>Zcs E (Zac pg Zfj [.ptr a0,.agg [.int .u8 C,.slice D F G H]] B fun B C=>
 Zru B fun B=>Zal B fun B D=>Zbr .u8 B fun B=>Zal D fun D E=>xSl D fun D F G H=>Zcs E (Zce (Zbc C (.ptr (h.length,0)) [.int .u8 B,.slice D F G H]) fun B=>Zdi (Zda B (.ptr (A.length,0)) 2) fun C=>Zal C fun C D=>Zbr .u8 C fun C=>Zal D fun D E=>xSl D fun D F G H=>Zcs E (Zac pg Zfj [.ptr a0,.agg [.int .u8 C,.slice D F G H]] B fun B C=>
 Zru B fun B=>Zal B fun B D=>Zbr .u8 B fun B=>Zal D fun D E=>xSl D fun D F G H=>Zcs E (Zce (Zbc C (.ptr (A.length,0)) [.int .u8 B,.slice D F G H]) fun B=>Zbr .u8 (Zaj B (.ptr (h.length,0 + 0))) fun C=>Zbr .u8 (Zaj B (.ptr (A.length,0 + 0))) fun D=>Zac pg Zdq [.int .u8 C] B fun C E=>
 Zbr .i64 C fun C=>(Zaj E (.ptr (A.length,0 + 0))=Zaj B (.ptr (A.length,0 + 0)))∧Zac pg Zdq [.int .u8 D] E fun B D=>
 Zbr .i64 B fun B=>(Zaj D (.ptr (h.length,0 + 0))=Zaj E (.ptr (h.length,0 + 0)))∧bcase (decide ((C:Int) ≥ 0)) (bcase ((C:Int) == B) (Q (.bool true) D) (bcase (decide ((C:Int) ≥ 0)) (bcase (decide ((B:Int) < 0)) (Zbr .u8 (Zaj D (.ptr (h.length,0 + 0))) fun E=>Zdi (Zda D (.ptr (A.length,0)) 2) fun F=>Zal F fun F G=>Zbr .u8 F fun F=>Zal G fun G H=>xSl G fun G I J K=>Zcs H (Zac pg Zca [.ptr a0,.int .u8 E,.agg [.int .u8 F,.slice G I J K]] D fun E F=>
 Zbg E fun E=>bcase E (Q (.bool false) F) (Zaw a0 fun E G=>Zdi (Zda F (.ptr (A.length,0)) 2) fun H=>Zal H fun H I=>Zbr .u8 H fun H=>Zal I fun I J=>xSl I fun I K L M=>Zcs J ((0≤(C:Int)∧(C:Int) < (12:Nat))∧(Zce (Zbc F (.ptr (E,G + (Int.toNat C) * 2)) [.int .u8 H,.slice I K L M]) fun E=>Q (.bool true) E))))) (bcase (decide ((C:Int) < B)) (Zbr .u8 (Zaj D (.ptr (h.length,0 + 0))) fun E=>Zdi (Zda D (.ptr (A.length,0)) 2) fun F=>Zal F fun F G=>Zbr .u8 F fun F=>Zal G fun G H=>xSl G fun G I J K=>Zcs H (Zac pg Zca [.ptr a0,.int .u8 E,.agg [.int .u8 F,.slice G I J K]] D fun E F=>
 Zbg E fun E=>bcase E (Q (.bool false) F) (Zaw a0 fun E G=>Zdi (Zda F (.ptr (A.length,0)) 2) fun H=>Zal H fun H I=>Zbr .u8 H fun H=>Zal I fun I J=>xSl I fun I K L M=>Zcs J ((0≤(C:Int)∧(C:Int) < (12:Nat))∧(Zce (Zbc F (.ptr (E,G + (Int.toNat C) * 2)) [.int .u8 H,.slice I K L M]) fun E=>Q (.bool true) E))))) (bcase (decide ((B:Int) ≥ 0)) (Zdi (Zda D (.ptr (A.length,0)) 2) fun E=>Zal E fun E F=>Zbr .u8 E fun E=>Zal F fun F G=>xSl F fun F H I J=>Zcs G (Zdi (Zda D (.ptr (h.length,0)) 2) fun G=>Zal G fun G K=>Zbr .u8 G fun G=>Zal K fun K L=>xSl K fun K M N O=>Zcs L (Zac pg Zbs [.ptr a0,.agg [.int .u8 E,.slice F H I J],.agg [.int .u8 G,.slice K M N O]] D fun E F=>
 Zbg E fun E=>Q (.bool E) F))) (Zbr .u8 (Zaj D (.ptr (h.length,0 + 0))) fun E=>Zbr .u8 (Zaj D (.ptr (A.length,0 + 0))) fun F=>bcase (!((E:Int) == F)) (Q (.bool false) D) (J15 Q h.length 0 a0 A.length 0 D))))) (bcase (decide ((B:Int) ≥ 0)) (Zdi (Zda D (.ptr (A.length,0)) 2) fun E=>Zal E fun E F=>Zbr .u8 E fun E=>Zal F fun F G=>xSl F fun F H I J=>Zcs G (Zdi (Zda D (.ptr (h.length,0)) 2) fun G=>Zal G fun G K=>Zbr .u8 G fun G=>Zal K fun K L=>xSl K fun K M N O=>Zcs L (Zac pg Zbs [.ptr a0,.agg [.int .u8 E,.slice F H I J],.agg [.int .u8 G,.slice K M N O]] D fun E F=>
 Zbg E fun E=>Q (.bool E) F))) (Zbr .u8 (Zaj D (.ptr (h.length,0 + 0))) fun E=>Zbr .u8 (Zaj D (.ptr (A.length,0 + 0))) fun F=>bcase (!((E:Int) == F)) (Q (.bool false) D) (J15 Q h.length 0 a0 A.length 0 D))))) (bcase (decide ((C:Int) ≥ 0)) (bcase (decide ((B:Int) < 0)) (Zbr .u8 (Zaj D (.ptr (h.length,0 + 0))) fun E=>Zdi (Zda D (.ptr (A.length,0)) 2) fun F=>Zal F fun F G=>Zbr .u8 F fun F=>Zal G fun G H=>xSl G fun G I J K=>Zcs H (Zac pg Zca [.ptr a0,.int .u8 E,.agg [.int .u8 F,.slice G I J K]] D fun E F=>
 Zbg E fun E=>bcase E (Q (.bool false) F) (Zaw a0 fun E G=>Zdi (Zda F (.ptr (A.length,0)) 2) fun H=>Zal H fun H I=>Zbr .u8 H fun H=>Zal I fun I J=>xSl I fun I K L M=>Zcs J ((0≤(C:Int)∧(C:Int) < (12:Nat))∧(Zce (Zbc F (.ptr (E,G + (Int.toNat C) * 2)) [.int .u8 H,.slice I K L M]) fun E=>Q (.bool true) E))))) (bcase (decide ((C:Int) < B)) (Zbr .u8 (Zaj D (.ptr (h.length,0 + 0))) fun E=>Zdi (Zda D (.ptr (A.length,0)) 2) fun F=>Zal F fun F G=>Zbr .u8 F fun F=>Zal G fun G H=>xSl G fun G I J K=>Zcs H (Zac pg Zca [.ptr a0,.int .u8 E,.agg [.int .u8 F,.slice G I J K]] D fun E F=>
 Zbg E fun E=>bcase E (Q (.bool false) F) (Zaw a0 fun E G=>Zdi (Zda F (.ptr (A.length,0)) 2) fun H=>Zal H fun H I=>Zbr .u8 H fun H=>Zal I fun I J=>xSl I fun I K L M=>Zcs J ((0≤(C:Int)∧(C:Int) < (12:Nat))∧(Zce (Zbc F (.ptr (E,G + (Int.toNat C) * 2)) [.int .u8 H,.slice I K L M]) fun C=>Q (.bool true) C))))) (bcase (decide ((B:Int) ≥ 0)) (Zdi (Zda D (.ptr (A.length,0)) 2) fun C=>Zal C fun C E=>Zbr .u8 C fun C=>Zal E fun E F=>xSl E fun E G H I=>Zcs F (Zdi (Zda D (.ptr (h.length,0)) 2) fun F=>Zal F fun F J=>Zbr .u8 F fun F=>Zal J fun J K=>xSl J fun J L M N=>Zcs K (Zac pg Zbs [.ptr a0,.agg [.int .u8 C,.slice E G H I],.agg [.int .u8 F,.slice J L M N]] D fun C E=>
 Zbg C fun C=>Q (.bool C) E))) (Zbr .u8 (Zaj D (.ptr (h.length,0 + 0))) fun C=>Zbr .u8 (Zaj D (.ptr (A.length,0 + 0))) fun E=>bcase (!((C:Int) == E)) (Q (.bool false) D) (J15 Q h.length 0 a0 A.length 0 D))))) (bcase (decide ((B:Int) ≥ 0)) (Zdi (Zda D (.ptr (A.length,0)) 2) fun B=>Zal B fun B C=>Zbr .u8 B fun B=>Zal C fun C E=>xSl C fun C F G H=>Zcs E (Zdi (Zda D (.ptr (h.length,0)) 2) fun E=>Zal E fun E I=>Zbr .u8 E fun E=>Zal I fun I J=>xSl I fun I K L M=>Zcs J (Zac pg Zbs [.ptr a0,.agg [.int .u8 B,.slice C F G H],.agg [.int .u8 E,.slice I K L M]] D fun B C=>
 Zbg B fun B=>Q (.bool B) C))) (Zbr .u8 (Zaj D (.ptr (h.length,0 + 0))) fun B=>Zbr .u8 (Zaj D (.ptr (A.length,0 + 0))) fun C=>bcase (!((B:Int) == C)) (Q (.bool false) D) (J15 Q h.length 0 a0 A.length 0 D))))))))):Zac pg Zbs [.ptr a0,.agg [.int .u8 x1x0,.slice a1x1 n1x1 c1x1 e1x1],.agg [.int .u8 x2x0,.slice a2x1 n2x1 c2x1 e2x1]] h Q:=
 Zac.of_body kp (c:=cod fn) (fn:=fn) Go.Proofs.Try.func97 (by kernel_rfl) (by kernel_rfl) (Nat.le_of_ble_eq_true (by kernel_rfl))
  (cast (by kernel_rfl) ht)
end Zcu
end Go.Sim

set_option maxRecDepth 100000
set_option maxHeartbeats 0
set_option linter.unusedVariables false
namespace Go.Sim
open Go Go.RowKit
namespace Zey
noncomputable abbrev fn:Func:=Go.Proofs.Try.f142
def kp:Zcr:=[(3000005,[6]),(1000005,[0,1,17,18,19])]
noncomputable def C (p:List Nat):Code:=(cod fn).sub p
def KR (Q:QT):KT:=Zhe pg fn.results.toList Q
abbrev T5:=Pt→Int→Pt→Nat→Nat→Bool→Int→Int→Zaa→Prop
def E5 (R5:T5) (env:Env) (h:Zaa):Prop:=Zcq 0 env fun v env=>Zei v fun a0=>Zcq 1 env fun v env=>Zhh .u8 v fun x1=>Zcq 17 env fun v env=>xSl v fun a17 n17 c17 e17=>Zcq 18 env fun v env=>Zhh .i64 v fun x18=>Zcq 19 env fun v env=>Zhh .i64 v fun x19=>Znu env (R5 a0 x1 a17 n17 c17 e17 x18 x19 h)
theorem Zks {R5:T5} {env:Env} {h:Zaa} (hi:E5 R5 env h):∃ a0,∃ x1,∃ a17,∃ n17,∃ c17,∃ e17,∃ x18,∃ x19,env=[(0,.ptr a0),(1,.int .u8 x1),(17,.slice a17 n17 c17 e17),(18,.int .i64 x18),(19,.int .i64 x19)]∧R5 a0 x1 a17 n17 c17 e17 x18 x19 h:=by
 unfold E5 at hi
 repeat ((first | (have k:=Zam hi; clear hi; obtain ⟨_,_,e,hi⟩:=k) | (have k:=Zbi hi; clear hi; obtain ⟨_,e,hi⟩:=k) | (have k:=Zdz hi; clear hi; obtain ⟨_,_,_,_,e,hi⟩:=k) | (have k:=Zbl hi; clear hi; obtain ⟨_,e,hi⟩:=k)); subst e)
 obtain ⟨rfl,hi⟩:=Zbx hi
 exact ⟨_,_,_,_,_,_,_,_,rfl,hi⟩
def K0 (Q:QT):KT:=andThen (fun env' h'=>(match kp.find 4000010 with | some ks=>Den pg fn.ntmps (C [1,1,1,1]) (env'.keep ks) h' (KR Q) | none=>den pg fn.ntmps kp (C [1,1,1,1]) env' h' (KR Q))) (KR Q)
def K1 (Q:QT):KT:=Zdv 0 (K0 Q)
def K2 (Q:QT):KT:=left kp 5 (K1 Q)
def K3 (Q:QT) (R5:T5):KT:=rnd ((kp.find 1000005).getD []) (E5 R5) (K2 Q)
def L5 (Q:QT) (a0:Pt) (x1:Int) (a17:Pt) (n17 c17:Nat) (e17:Bool) (x18 x19:Int) (h:Zaa):Prop:=Zgo (Den pg fn.ntmps (C [1,1,1,0,1,0,0])) ((kp.find 1000005).getD []) (K2 Q) [(0,.ptr a0),(1,.int .u8 x1),(17,.slice a17 n17 c17 e17),(18,.int .i64 x18),(19,.int .i64 x19)] h
def A5x0 (Q:QT) (h:Zaa):Prop:=At (K1 Q) (.exit 0) [(6,.undef)] h
def L5t (Q:QT) (R5:T5) (a0:Pt) (x1:Int) (a17:Pt) (n17 c17:Nat) (e17:Bool) (x18 x19:Int) (h:Zaa):Prop:=
 bcase (decide ((x19:Int) < x18)) ((0≤(x19:Int)∧(x19:Int) < (n17:Nat))∧(Zaw a17 fun A B=>Zdi (Zda h (.ptr (A,B + (Int.toNat x19) * 2)) 2) fun A=>Zal A fun A B=>Zbr .u8 A fun A=>Zal B fun B C=>xSl B fun B D E F=>Zcs C (Zec (h ++ [.cells Zab [.int .u8 0,.slice none 0 0 true] false]) fun C=>Zce (Zbc C (.ptr (h.length,0)) [.int .u8 A,.slice B D E F]) fun A=>Zdi (Zda A (.ptr (h.length,0)) 2) fun B=>Zal B fun B C=>Zbr .u8 B fun B=>Zal C fun C D=>xSl C fun C E F G=>Zcs D (Zac pg Zca [.ptr a0,.int .u8 x1,.agg [.int .u8 B,.slice C E F G]] A fun A B=>
 Zbg A fun A=>bcase A (Q (.bool true) B) (R5 a0 x1 a17 n17 c17 e17 x18 (IntKind.wrap .i64 (x19 + 1)) B))))) (A5x0 Q h)
theorem Zxn (Q:QT) (R5:T5) (a0:Pt) (x1:Int) (a17:Pt) (n17 c17:Nat) (e17:Bool) (x18 x19:Int) (h:Zaa) (ht:L5t Q R5 a0 x1 a17 n17 c17 e17 x18 x19 h):Den pg fn.ntmps (C [1,1,1,0,1,0,0]) [(0,.ptr a0),(1,.int .u8 x1),(17,.slice a17 n17 c17 e17),(18,.int .i64 x18),(19,.int .i64 x19)] h (K3 Q R5):=
 Zaz (kp:=kp) (cast (by kernel_rfl) ht)
theorem L5ind (Q:QT) (a0:Pt) (x1:Int) (a17:Pt) (n17 c17:Nat) (e17:Bool) (x18:Int) {G:Type} (J:G→Int→Zaa→Prop) (m:G→Nat)
 (hr:∀ (g:G) (x19:Int) (h:Zaa),J g x19 h→∀ (R5:T5),(∀ g' (x19:Int) (h:Zaa),m g' < m g→J g' x19 h→R5 a0 x1 a17 n17 c17 e17 x18 x19 h)→L5t Q R5 a0 x1 a17 n17 c17 e17 x18 x19 h)
 (g:G) (x19:Int) (h:Zaa) (hj:J g x19 h):L5 Q a0 x1 a17 n17 c17 e17 x18 x19 h:=by
 let P:=fun (K:Int→Zaa→Prop) a0' x1' a17' n17' c17' e17' x18' x19 h=>a0=a0'∧x1=x1'∧a17=a17'∧n17=n17'∧c17=c17'∧e17=e17'∧x18=x18'∧K x19 h
 refine Zgo.inv2 (fun g=>E5 (P (J g))) (fun g=>E5 (P fun x19 h=>∃ g',m g' < m g∧J g' x19 h)) m ?_ ?_ g ⟨rfl,rfl,rfl,rfl,rfl,rfl,rfl,hj⟩
 ·intro g env h hi
  obtain ⟨a0',x1',a17',n17',c17',e17',x18',x19,rfl,rfl,rfl,rfl,rfl,rfl,rfl,rfl,hj⟩:=Zks hi
  exact Zxn Q _ a0 x1 a17 n17 c17 e17 x18 x19 h (hr g x19 h hj (P fun x19 h=>∃ g',m g' < m g∧J g' x19 h) fun g' x19 h hlt hj=>⟨rfl,rfl,rfl,rfl,rfl,rfl,rfl,g',hlt,hj⟩)
 ·intro g env h hi
  obtain ⟨a0',x1',a17',n17',c17',e17',x18',x19,rfl,rfl,rfl,rfl,rfl,rfl,rfl,rfl,g',hlt,hj⟩:=Zks hi
  exact ⟨g',hlt,rfl,rfl,rfl,rfl,rfl,rfl,rfl,hj⟩
theorem A5x0i (Q:QT) (h:Zaa) (ht :
 Q (.bool false) h):A5x0 Q h:=
 At.mk (cast (by kernel_rfl) ht)
theorem call (a0:Pt) (x1 x2x0:Int) (a2x1:Pt) (n2x1 c2x1:Nat) (e2x1:Bool) (h:Zaa) (Q:QT) (ht :
 Zec (h ++ [.cells Zab [.int .u8 x2x0,.slice a2x1 n2x1 c2x1 e2x1] false]) fun A=>Zdi (Zda A (.ptr (h.length,0)) 2) fun B=>Zal B fun B C=>Zbr .u8 B fun B=>Zal C fun C D=>xSl C fun C E F G=>Zcs D (Zac pg Zfj [.ptr a0,.agg [.int .u8 B,.slice C E F G]] A fun A B=>
 Zru A fun A=>Zal A fun A C=>Zbr .u8 A fun A=>Zal C fun C D=>xSl C fun C E F G=>Zcs D (Zce (Zbc B (.ptr (h.length,0)) [.int .u8 A,.slice C E F G]) fun A=>Zbr .u8 (Zaj A (.ptr (h.length,0 + 0))) fun B=>bcase ((B:Int) == x1) (Q (.bool true) A) (xSl (Zaj A (.ptr (h.length,0 + 1))) fun B C D E=>L5 Q a0 x1 B C D E (((C:Nat):Int)) 0 A)))):Zac pg Zca [.ptr a0,.int .u8 x1,.agg [.int .u8 x2x0,.slice a2x1 n2x1 c2x1 e2x1]] h Q:=
 Zac.of_body kp (c:=cod fn) (fn:=fn) Go.Proofs.Try.func142 (by kernel_rfl) (by kernel_rfl) (Nat.le_of_ble_eq_true (by kernel_rfl))
  (cast (by kernel_rfl) ht)
end Zey
end Go.Sim

set_option maxRecDepth 100000
set_option maxHeartbeats 0
set_option linter.unusedVariables false
namespace Go.Sim
open Go Go.RowKit
namespace Zep
noncomputable abbrev fn:Func:=Go.Proofs.Try.f141
def kp:Zcr:=[(3000002,[3,4]),(1000002,[0,3,4,5]),(4000004,[0,5,3,4])]
noncomputable def C (p:List Nat):Code:=(cod fn).sub p
def KR (Q:QT):KT:=Zhe pg fn.results.toList Q
abbrev T2:=Pt→Nat→Nat→Nat→Nat→Int→Zaa→Prop
def E2 (R2:T2) (env:Env) (h:Zaa):Prop:=Zcq 0 env fun v env=>Zei v fun a0=>Zcq 3 env fun v env=>Zei v fun a=>Zaw a fun i3 o3=>Zcq 4 env fun v env=>Zei v fun a=>Zaw a fun i4 o4=>Zcq 5 env fun v env=>Zhh .i64 v fun x5=>Znu env (R2 a0 i3 o3 i4 o4 x5 h)
theorem Zot {R2:T2} {env:Env} {h:Zaa} (hi:E2 R2 env h):∃ a0,∃ i3,∃ o3,∃ i4,∃ o4,∃ x5,env=[(0,.ptr a0),(3,.ptr (i3,o3)),(4,.ptr (i4,o4)),(5,.int .i64 x5)]∧R2 a0 i3 o3 i4 o4 x5 h:=by
 unfold E2 at hi
 have hi0:=hi
 clear hi
 obtain ⟨_,_,rfl,hi1⟩:=Zam hi0
 obtain ⟨a0,rfl,hi2⟩:=Zbl hi1
 obtain ⟨_,_,rfl,hi3⟩:=Zam hi2
 obtain ⟨a,rfl,hi4⟩:=Zbl hi3
 obtain ⟨i3,o3,rfl,hi5⟩:=Zbp hi4
 obtain ⟨_,_,rfl,hi6⟩:=Zam hi5
 obtain ⟨a,rfl,hi7⟩:=Zbl hi6
 obtain ⟨i4,o4,rfl,hi8⟩:=Zbp hi7
 obtain ⟨_,_,rfl,hi9⟩:=Zam hi8
 obtain ⟨x5,rfl,hi10⟩:=Zbi hi9
 obtain ⟨rfl,hi11⟩:=Zbx hi10
 have hi:=hi11
 exact ⟨a0,i3,o3,i4,o4,x5,rfl,hi⟩
def K0 (Q:QT):KT:=andThen (fun env' h'=>(match kp.find 4000005 with | some ks=>Den pg fn.ntmps (C [1,1]) (env'.keep ks) h' (KR Q) | none=>den pg fn.ntmps kp (C [1,1]) env' h' (KR Q))) (KR Q)
def K1 (Q:QT):KT:=Zdv 0 (K0 Q)
def K2 (Q:QT):KT:=left kp 2 (K1 Q)
def K3 (Q:QT) (R2:T2):KT:=rnd ((kp.find 1000002).getD []) (E2 R2) (K2 Q)
def L2 (Q:QT) (a0:Pt) (i3 o3 i4 o4:Nat) (x5:Int) (h:Zaa):Prop:=Zgo (Den pg fn.ntmps (C [1,0,1,0,0])) ((kp.find 1000002).getD []) (K2 Q) [(0,.ptr a0),(3,.ptr (i3,o3)),(4,.ptr (i4,o4)),(5,.int .i64 x5)] h
def J4 (Q:QT) (R2:T2) (a0:Pt) (x5:Int) (i3 o3 i4 o4:Nat) (h:Zaa):Prop:=Den pg fn.ntmps (C [1,0,1,0,0,1]) [(0,.ptr a0),(5,.int .i64 x5),(3,.ptr (i3,o3)),(4,.ptr (i4,o4))] h (K3 Q R2)
def A2x0 (Q:QT) (i3 o3 i4 o4:Nat) (h:Zaa):Prop:=At (K1 Q) (.exit 0) [(3,.ptr (i3,o3)),(4,.ptr (i4,o4))] h
def L2t (Q:QT) (R2:T2) (a0:Pt) (i3 o3 i4 o4:Nat) (x5:Int) (h:Zaa):Prop:=
 bcase (decide ((x5:Int) ≥ 0)) (Zaw a0 fun A B=>(0≤(x5:Int)∧(x5:Int) < (12:Nat))∧(Zbr .u8 (Zaj h (.ptr (A,B + (Int.toNat x5) * 2 + 0))) fun A=>bcase (!((A:Int) == 0)) (J4 Q R2 a0 x5 i3 o3 i4 o4 h) (A2x0 Q i3 o3 i4 o4 h))) (A2x0 Q i3 o3 i4 o4 h)
theorem Yet (Q:QT) (R2:T2) (a0:Pt) (i3 o3 i4 o4:Nat) (x5:Int) (h:Zaa) (ht:L2t Q R2 a0 i3 o3 i4 o4 x5 h):Den pg fn.ntmps (C [1,0,1,0,0]) [(0,.ptr a0),(3,.ptr (i3,o3)),(4,.ptr (i4,o4)),(5,.int .i64 x5)] h (K3 Q R2):=
 Zaz (kp:=kp) (cast (by kernel_rfl) ht)
theorem L2ind (Q:QT) (a0:Pt) (i3 o3 i4 o4:Nat) {G:Type} (J:G→Int→Zaa→Prop) (m:G→Nat)
 (hr:∀ (g:G) (x5:Int) (h:Zaa),J g x5 h→∀ (R2:T2),(∀ g' (x5:Int) (h:Zaa),m g' < m g→J g' x5 h→R2 a0 i3 o3 i4 o4 x5 h)→L2t Q R2 a0 i3 o3 i4 o4 x5 h)
 (g:G) (x5:Int) (h:Zaa) (hj:J g x5 h):L2 Q a0 i3 o3 i4 o4 x5 h:=by
 let P:=fun (K:Int→Zaa→Prop) a0' i3' o3' i4' o4' x5 h=>a0=a0'∧i3=i3'∧o3=o3'∧i4=i4'∧o4=o4'∧K x5 h
 refine Zgo.inv2 (fun g=>E2 (P (J g))) (fun g=>E2 (P fun x5 h=>∃ g',m g' < m g∧J g' x5 h)) m ?_ ?_ g ⟨rfl,rfl,rfl,rfl,rfl,hj⟩
 ·intro g env h hi
  obtain ⟨a0',i3',o3',i4',o4',x5,rfl,rfl,rfl,rfl,rfl,rfl,hj⟩:=Zot hi
  exact Yet Q _ a0 i3 o3 i4 o4 x5 h (hr g x5 h hj (P fun x5 h=>∃ g',m g' < m g∧J g' x5 h) fun g' x5 h hlt hj=>⟨rfl,rfl,rfl,rfl,rfl,g',hlt,hj⟩)
 ·intro g env h hi
  obtain ⟨a0',i3',o3',i4',o4',x5,rfl,rfl,rfl,rfl,rfl,rfl,g',hlt,hj⟩:=Zot hi
  exact ⟨g',hlt,rfl,rfl,rfl,rfl,rfl,hj⟩
theorem J4i (Q:QT) (R2:T2) (a0:Pt) (x5:Int) (i3 o3 i4 o4:Nat) (h:Zaa) (ht :
 Zaw a0 fun A B=>(0≤(x5:Int)∧(x5:Int) < (12:Nat))∧(Zdi (Zda h (.ptr (A,B + (Int.toNat x5) * 2)) 2) fun A=>Zal A fun A B=>Zbr .u8 A fun A=>Zal B fun B C=>xSl B fun B D E F=>Zcs C (Zce (Zbc h (.ptr (i3,o3)) [.int .u8 A,.slice B D E F]) fun A=>Zbr .u8 (Zaj A (.ptr (i3,o3 + 0))) fun B=>Zac pg Zdq [.int .u8 B] A fun A B=>
 Zbr .i64 A fun A=>R2 a0 i3 o3 i4 o4 A B))):J4 Q R2 a0 x5 i3 o3 i4 o4 h:=
 Zaz (kp:=kp) (cast (by kernel_rfl) ht)
theorem A2x0i (Q:QT) (i3 o3 i4 o4:Nat) (h:Zaa) (ht :
 Zdi (Zda h (.ptr (i3,o3)) 2) fun A=>Zal A fun A B=>Zbr .u8 A fun A=>Zal B fun B C=>xSl B fun B D E F=>Zcs C (Zce (Zbc h (.ptr (i4,o4)) [.int .u8 A,.slice B D E F]) fun A=>Zdi (Zda A (.ptr (i4,o4)) 2) fun B=>Zal B fun B C=>Zbr .u8 B fun B=>Zal C fun C D=>xSl C fun C E F G=>Zcs D (Q (.agg [.int .u8 B,.slice C E F G]) A))):A2x0 Q i3 o3 i4 o4 h:=
 At.mk (cast (by kernel_rfl) ht)
theorem call (a0:Pt) (x1x0:Int) (a1x1:Pt) (n1x1 c1x1:Nat) (e1x1:Bool) (h:Zaa) (Q:QT) (ht :
 Zec (h ++ [.cells Zab [.int .u8 x1x0,.slice a1x1 n1x1 c1x1 e1x1] false]) fun A=>Zec (A ++ [.cells Zab [.int .u8 0,.slice none 0 0 true] false]) fun B=>Zbr .u8 (Zaj B (.ptr (h.length,0 + 0))) fun C=>Zac pg Zdq [.int .u8 C] B fun B C=>
 Zbr .i64 B fun B=>L2 Q a0 h.length 0 A.length 0 B C):Zac pg Zfj [.ptr a0,.agg [.int .u8 x1x0,.slice a1x1 n1x1 c1x1 e1x1]] h Q:=
 Zac.of_body kp (c:=cod fn) (fn:=fn) Go.Proofs.Try.func141 (by kernel_rfl) (by kernel_rfl) (Nat.le_of_ble_eq_true (by kernel_rfl))
  (cast (by kernel_rfl) ht)
end Zep
end Go.Sim

set_option maxRecDepth 100000
set_option maxHeartbeats 0
set_option linter.unusedVariables false
namespace Go.Sim
open Go Go.RowKit
namespace Zdr
noncomputable abbrev fn:Func:=Go.Proofs.Try.f99
def kp:Zcr:=[(3000003,[1,3]),(1000003,[1,3,7,8,9]),(4000009,[3])]
noncomputable def C (p:List Nat):Code:=(cod fn).sub p
def KR (Q:QT):KT:=Zhe pg fn.results.toList Q
abbrev T3:=Nat→Nat→Int→Pt→Nat→Nat→Bool→Int→Int→Zaa→Prop
def E3 (R3:T3) (env:Env) (h:Zaa):Prop:=Zcq 1 env fun v env=>Zei v fun a=>Zaw a fun i1 o1=>Zcq 3 env fun v env=>Zhh .i64 v fun x3=>Zcq 7 env fun v env=>xSl v fun a7 n7 c7 e7=>Zcq 8 env fun v env=>Zhh .i64 v fun x8=>Zcq 9 env fun v env=>Zhh .i64 v fun x9=>Znu env (R3 i1 o1 x3 a7 n7 c7 e7 x8 x9 h)
theorem Zko {R3:T3} {env:Env} {h:Zaa} (hi:E3 R3 env h):∃ i1,∃ o1,∃ x3,∃ a7,∃ n7,∃ c7,∃ e7,∃ x8,∃ x9,env=[(1,.ptr (i1,o1)),(3,.int .i64 x3),(7,.slice a7 n7 c7 e7),(8,.int .i64 x8),(9,.int .i64 x9)]∧R3 i1 o1 x3 a7 n7 c7 e7 x8 x9 h:=by
 unfold E3 at hi
 have hi0:=hi
 clear hi
 obtain ⟨_,_,rfl,hi1⟩:=Zam hi0
 obtain ⟨a,rfl,hi2⟩:=Zbl hi1
 obtain ⟨i1,o1,rfl,hi3⟩:=Zbp hi2
 obtain ⟨_,_,rfl,hi4⟩:=Zam hi3
 obtain ⟨x3,rfl,hi5⟩:=Zbi hi4
 obtain ⟨_,_,rfl,hi6⟩:=Zam hi5
 obtain ⟨a7,n7,c7,e7,rfl,hi7⟩:=Zdz hi6
 obtain ⟨_,_,rfl,hi8⟩:=Zam hi7
 obtain ⟨x8,rfl,hi9⟩:=Zbi hi8
 obtain ⟨_,_,rfl,hi10⟩:=Zam hi9
 obtain ⟨x9,rfl,hi11⟩:=Zbi hi10
 obtain ⟨rfl,hi12⟩:=Zbx hi11
 have hi:=hi12
 exact ⟨i1,o1,x3,a7,n7,c7,e7,x8,x9,rfl,hi⟩
def K0 (Q:QT):KT:=andThen (fun env' h'=>(match kp.find 4000007 with | some ks=>Den pg fn.ntmps (C [1,1,1]) (env'.keep ks) h' (KR Q) | none=>den pg fn.ntmps kp (C [1,1,1]) env' h' (KR Q))) (KR Q)
def K1 (Q:QT):KT:=Zdv 0 (K0 Q)
def K2 (Q:QT):KT:=left kp 3 (K1 Q)
def K3 (Q:QT) (R3:T3):KT:=rnd ((kp.find 1000003).getD []) (E3 R3) (K2 Q)
def L3 (Q:QT) (i1 o1:Nat) (x3:Int) (a7:Pt) (n7 c7:Nat) (e7:Bool) (x8 x9:Int) (h:Zaa):Prop:=Zgo (Den pg fn.ntmps (C [1,1,0,1,0,0])) ((kp.find 1000003).getD []) (K2 Q) [(1,.ptr (i1,o1)),(3,.int .i64 x3),(7,.slice a7 n7 c7 e7),(8,.int .i64 x8),(9,.int .i64 x9)] h
def Yek (Q:QT) (i1 o1:Nat) (x3:Int) (h:Zaa):Prop:=At (K1 Q) (.exit 0) [(1,.ptr (i1,o1)),(3,.int .i64 x3)] h
def J9 (Q:QT) (x3:Int) (h:Zaa):Prop:=Den pg fn.ntmps (C [1,1,1,1]) [(3,.int .i64 x3)] h (KR Q)
def L3t (Q:QT) (R3:T3) (i1 o1:Nat) (x3:Int) (a7:Pt) (n7 c7:Nat) (e7:Bool) (x8 x9:Int) (h:Zaa):Prop:=
 bcase (decide ((x9:Int) < x8)) ((0≤(x9:Int)∧(x9:Int) < (n7:Nat))∧(Zaw a7 fun A B=>Zdi (Zda h (.ptr (A,B + (Int.toNat x9) * 2)) 2) fun A=>Zal A fun A B=>Zbr .u8 A fun A=>Zal B fun B C=>xSl B fun B D E F=>Zcs C (Zec (h ++ [.cells Zab [.int .u8 0,.slice none 0 0 true] false]) fun C=>Zce (Zbc C (.ptr (h.length,0)) [.int .u8 A,.slice B D E F]) fun A=>Zdi (Zda A (.ptr (h.length,0)) 2) fun B=>Zal B fun B C=>Zbr .u8 B fun B=>Zal C fun C D=>xSl C fun C E F G=>Zcs D (Zac pg Zgk [.agg [.int .u8 B,.slice C E F G]] A fun A B=>
 Zbr .i64 A fun A=>R3 i1 o1 (IntKind.wrap .i64 ((IntKind.wrap .i64 (x3 + 1)) + A)) a7 n7 c7 e7 x8 (IntKind.wrap .i64 (x9 + 1)) B)))) (Yek Q i1 o1 x3 h)
theorem Zxa (Q:QT) (R3:T3) (i1 o1:Nat) (x3:Int) (a7:Pt) (n7 c7:Nat) (e7:Bool) (x8 x9:Int) (h:Zaa) (ht:L3t Q R3 i1 o1 x3 a7 n7 c7 e7 x8 x9 h):Den pg fn.ntmps (C [1,1,0,1,0,0]) [(1,.ptr (i1,o1)),(3,.int .i64 x3),(7,.slice a7 n7 c7 e7),(8,.int .i64 x8),(9,.int .i64 x9)] h (K3 Q R3):=
 Zaz (kp:=kp) (cast (by kernel_rfl) ht)
theorem L3ind (Q:QT) (i1 o1:Nat) (a7:Pt) (n7 c7:Nat) (e7:Bool) (x8:Int) {G:Type} (J:G→Int→Int→Zaa→Prop) (m:G→Nat)
 (hr:∀ (g:G) (x3 x9:Int) (h:Zaa),J g x3 x9 h→∀ (R3:T3),(∀ g' (x3 x9:Int) (h:Zaa),m g' < m g→J g' x3 x9 h→R3 i1 o1 x3 a7 n7 c7 e7 x8 x9 h)→L3t Q R3 i1 o1 x3 a7 n7 c7 e7 x8 x9 h)
 (g:G) (x3 x9:Int) (h:Zaa) (hj:J g x3 x9 h):L3 Q i1 o1 x3 a7 n7 c7 e7 x8 x9 h:=by
 let P:=fun (K:Int→Int→Zaa→Prop) i1' o1' x3 a7' n7' c7' e7' x8' x9 h=>i1=i1'∧o1=o1'∧a7=a7'∧n7=n7'∧c7=c7'∧e7=e7'∧x8=x8'∧K x3 x9 h
 refine Zgo.inv2 (fun g=>E3 (P (J g))) (fun g=>E3 (P fun x3 x9 h=>∃ g',m g' < m g∧J g' x3 x9 h)) m ?_ ?_ g ⟨rfl,rfl,rfl,rfl,rfl,rfl,rfl,hj⟩
 ·intro g env h hi
  obtain ⟨i1',o1',x3,a7',n7',c7',e7',x8',x9,rfl,rfl,rfl,rfl,rfl,rfl,rfl,rfl,hj⟩:=Zko hi
  exact Zxa Q _ i1 o1 x3 a7 n7 c7 e7 x8 x9 h (hr g x3 x9 h hj (P fun x3 x9 h=>∃ g',m g' < m g∧J g' x3 x9 h) fun g' x3 x9 h hlt hj=>⟨rfl,rfl,rfl,rfl,rfl,rfl,rfl,g',hlt,hj⟩)
 ·intro g env h hi
  obtain ⟨i1',o1',x3,a7',n7',c7',e7',x8',x9,rfl,rfl,rfl,rfl,rfl,rfl,rfl,rfl,g',hlt,hj⟩:=Zko hi
  exact ⟨g',hlt,rfl,rfl,rfl,rfl,rfl,rfl,rfl,hj⟩
theorem A3x0i (Q:QT) (i1 o1:Nat) (x3:Int) (h:Zaa) (ht :
 xSl (Zaj h (.ptr (i1,o1 + 1))) fun A A B B=>bcase (decide (((((A:Nat):Int)):Int) > 0)) (J9 Q (IntKind.wrap .i64 (x3 + 1)) h) (J9 Q x3 h)):Yek Q i1 o1 x3 h:=
 At.mk (cast (by kernel_rfl) ht)
theorem J9i (Q:QT) (x3:Int) (h:Zaa) (ht :
 Q (.int .i64 x3) h):J9 Q x3 h:=
 Zaz (kp:=kp) (cast (by kernel_rfl) ht)
theorem call (x0x0:Int) (a0x1:Pt) (n0x1 c0x1:Nat) (e0x1:Bool) (h:Zaa) (Q:QT) (ht :
 Zec (h ++ [.cells Zab [.int .u8 x0x0,.slice a0x1 n0x1 c0x1 e0x1] false]) fun A=>xSl (Zaj A (.ptr (h.length,0 + 1))) fun B C D E=>L3 Q h.length 0 1 B C D E (((C:Nat):Int)) 0 A):Zac pg Zgk [.agg [.int .u8 x0x0,.slice a0x1 n0x1 c0x1 e0x1]] h Q:=
 Zac.of_body kp (c:=cod fn) (fn:=fn) Go.Proofs.Try.func99 (by kernel_rfl) (by kernel_rfl) (Nat.le_of_ble_eq_true (by kernel_rfl))
  (cast (by kernel_rfl) ht)
end Zdr
end Go.Sim

set_option maxRecDepth 100000
set_option maxHeartbeats 0
set_option linter.unusedVariables false
namespace Go.Sim
open Go Go.RowKit
namespace Zme
noncomputable abbrev fn:Func:=Go.Proofs.Try.f113
def kp:Zcr:=[]
noncomputable def C (p:List Nat):Code:=(cod fn).sub p
def KR (Q:QT):KT:=Zhe pg fn.results.toList Q
theorem call (x0:Int) (h:Zaa) (Q:QT) (ht :
 Zac pg Zgx [.str ([88,89,90,120,121,122,49,50,51,52,53,54]),.int .u8 x0] h fun A B=>
 Zbr .i64 A fun A=>Q (.int .i64 A) B):Zac pg Zdq [.int .u8 x0] h Q:=
 Zac.of_body kp (c:=cod fn) (fn:=fn) Go.Proofs.Try.func113 (by kernel_rfl) (by kernel_rfl) (Nat.le_of_ble_eq_true (by kernel_rfl))
  (cast (by kernel_rfl) ht)
end Zme
end Go.Sim

set_option maxRecDepth 100000
set_option maxHeartbeats 0
set_option linter.unusedVariables false
namespace Go.Sim
open Go Go.RowKit
namespace Zfa
noncomputable abbrev fn:Func:=Go.Proofs.Try.f61
def kp:Zcr:=[(3000003,[3]),(1000003,[0,3,9,10,11])]
noncomputable def C (p:List Nat):Code:=(cod fn).sub p
def KR (Q:QT):KT:=Zhe pg fn.results.toList Q
abbrev T3:=Option Nat→Pt→Nat→Nat→Bool→Pt→Nat→Nat→Bool→Int→Int→Zaa→Prop
def E3 (R3:T3) (env:Env) (h:Zaa):Prop:=Zcq 0 env fun v env=>Zxx v fun m0=>Zcq 3 env fun v env=>xSl v fun a3 n3 c3 e3=>Zcq 9 env fun v env=>xSl v fun a9 n9 c9 e9=>Zcq 10 env fun v env=>Zhh .i64 v fun x10=>Zcq 11 env fun v env=>Zhh .i64 v fun x11=>Znu env (R3 m0 a3 n3 c3 e3 a9 n9 c9 e9 x10 x11 h)
theorem Zko {R3:T3} {env:Env} {h:Zaa} (hi:E3 R3 env h):∃ m0,∃ a3,∃ n3,∃ c3,∃ e3,∃ a9,∃ n9,∃ c9,∃ e9,∃ x10,∃ x11,env=[(0,.map m0),(3,.slice a3 n3 c3 e3),(9,.slice a9 n9 c9 e9),(10,.int .i64 x10),(11,.int .i64 x11)]∧R3 m0 a3 n3 c3 e3 a9 n9 c9 e9 x10 x11 h:=by
 unfold E3 at hi
 repeat ((first | (have k:=Zam hi; clear hi; obtain ⟨_,_,e,hi⟩:=k) | (have k:=Zkn hi; clear hi; obtain ⟨_,e,hi⟩:=k) | (have k:=Zdz hi; clear hi; obtain ⟨_,_,_,_,e,hi⟩:=k) | (have k:=Zbi hi; clear hi; obtain ⟨_,e,hi⟩:=k)); subst e)
 obtain ⟨rfl,hi⟩:=Zbx hi
 exact ⟨_,_,_,_,_,_,_,_,_,_,_,rfl,hi⟩
def K0 (Q:QT):KT:=andThen (fun env' h'=>(match kp.find 4000007 with | some ks=>Den pg fn.ntmps (C [1,1,1]) (env'.keep ks) h' (KR Q) | none=>den pg fn.ntmps kp (C [1,1,1]) env' h' (KR Q))) (KR Q)
def K1 (Q:QT):KT:=Zdv 0 (K0 Q)
def K2 (Q:QT):KT:=left kp 3 (K1 Q)
def K3 (Q:QT) (R3:T3):KT:=rnd ((kp.find 1000003).getD []) (E3 R3) (K2 Q)
def L3 (Q:QT) (m0:Option Nat) (a3:Pt) (n3 c3:Nat) (e3:Bool) (a9:Pt) (n9 c9:Nat) (e9:Bool) (x10 x11:Int) (h:Zaa):Prop:=Zgo (Den pg fn.ntmps (C [1,1,0,1,0,0])) ((kp.find 1000003).getD []) (K2 Q) [(0,.map m0),(3,.slice a3 n3 c3 e3),(9,.slice a9 n9 c9 e9),(10,.int .i64 x10),(11,.int .i64 x11)] h
def Yek (Q:QT) (a3:Pt) (n3 c3:Nat) (e3:Bool) (h:Zaa):Prop:=At (K1 Q) (.exit 0) [(3,.slice a3 n3 c3 e3)] h
def L3t (Q:QT) (R3:T3) (m0:Option Nat) (a3:Pt) (n3 c3:Nat) (e3:Bool) (a9:Pt) (n9 c9:Nat) (e9:Bool) (x10 x11:Int) (h:Zaa):Prop:=
 bcase (decide ((x11:Int) < x10)) ((0≤(x11:Int)∧(x11:Int) < (n9:Nat))∧(Zaw a9 fun A B=>Zde (Zaj h (.ptr (A,B + (Int.toNat x11) * 1))) fun A=>Zbt h m0 fun es_13 k_14=>Zmj es_13 A fun B=>Zde (some (Option.getD B (.str []))) fun B=>Zec (h ++ [.cells Zbk [.str A,.str B] false]) fun A=>Zdt pg Zkd A (.slice a3 n3 c3 e3) (.slice (h.length,0) 1 1 true) fun A B=>xSl A fun A C D E=>R3 m0 A C D E a9 n9 c9 e9 x10 (IntKind.wrap .i64 (x11 + 1)) B)) (Yek Q a3 n3 c3 e3 h)
theorem Zxa (Q:QT) (R3:T3) (m0:Option Nat) (a3:Pt) (n3 c3:Nat) (e3:Bool) (a9:Pt) (n9 c9:Nat) (e9:Bool) (x10 x11:Int) (h:Zaa) (ht:L3t Q R3 m0 a3 n3 c3 e3 a9 n9 c9 e9 x10 x11 h):Den pg fn.ntmps (C [1,1,0,1,0,0]) [(0,.map m0),(3,.slice a3 n3 c3 e3),(9,.slice a9 n9 c9 e9),(10,.int .i64 x10),(11,.int .i64 x11)] h (K3 Q R3):=
 Zaz (kp:=kp) (cast (by kernel_rfl) ht)
theorem L3ind (Q:QT) (m0:Option Nat) (a9:Pt) (n9 c9:Nat) (e9:Bool) (x10:Int) {G:Type} (J:G→Pt→Nat→Nat→Bool→Int→Zaa→Prop) (m:G→Nat)
 (hr:∀ (g:G) (a3:Pt) (n3 c3:Nat) (e3:Bool) (x11:Int) (h:Zaa),J g a3 n3 c3 e3 x11 h→∀ (R3:T3),(∀ g' (a3:Pt) (n3 c3:Nat) (e3:Bool) (x11:Int) (h:Zaa),m g' < m g→J g' a3 n3 c3 e3 x11 h→R3 m0 a3 n3 c3 e3 a9 n9 c9 e9 x10 x11 h)→L3t Q R3 m0 a3 n3 c3 e3 a9 n9 c9 e9 x10 x11 h)
 (g:G) (a3:Pt) (n3 c3:Nat) (e3:Bool) (x11:Int) (h:Zaa) (hj:J g a3 n3 c3 e3 x11 h):L3 Q m0 a3 n3 c3 e3 a9 n9 c9 e9 x10 x11 h:=by
 let P:=fun (K:Pt→Nat→Nat→Bool→Int→Zaa→Prop) m0' a3 n3 c3 e3 a9' n9' c9' e9' x10' x11 h=>m0=m0'∧a9=a9'∧n9=n9'∧c9=c9'∧e9=e9'∧x10=x10'∧K a3 n3 c3 e3 x11 h
 refine Zgo.inv2 (fun g=>E3 (P (J g))) (fun g=>E3 (P fun a3 n3 c3 e3 x11 h=>∃ g',m g' < m g∧J g' a3 n3 c3 e3 x11 h)) m ?_ ?_ g ⟨rfl,rfl,rfl,rfl,rfl,rfl,hj⟩
 ·intro g env h hi
  obtain ⟨m0',a3,n3,c3,e3,a9',n9',c9',e9',x10',x11,rfl,rfl,rfl,rfl,rfl,rfl,rfl,hj⟩:=Zko hi
  exact Zxa Q _ m0 a3 n3 c3 e3 a9 n9 c9 e9 x10 x11 h (hr g a3 n3 c3 e3 x11 h hj (P fun a3 n3 c3 e3 x11 h=>∃ g',m g' < m g∧J g' a3 n3 c3 e3 x11 h) fun g' a3 n3 c3 e3 x11 h hlt hj=>⟨rfl,rfl,rfl,rfl,rfl,rfl,g',hlt,hj⟩)
 ·intro g env h hi
  obtain ⟨m0',a3,n3,c3,e3,a9',n9',c9',e9',x10',x11,rfl,rfl,rfl,rfl,rfl,rfl,rfl,g',hlt,hj⟩:=Zko hi
  exact ⟨g',hlt,rfl,rfl,rfl,rfl,rfl,rfl,hj⟩
theorem A3x0i (Q:QT) (a3:Pt) (n3 c3:Nat) (e3:Bool) (h:Zaa) (ht :
 Q (.slice a3 n3 c3 e3) h):Yek Q a3 n3 c3 e3 h:=
 At.mk (cast (by kernel_rfl) ht)
theorem call (m0:Option Nat) (h:Zaa) (Q:QT) (ht :
 Zec (h ++ [.cells Zbk [] false]) fun A=>Zac pg Zcw [.map m0] A fun A B=>
 Zsa A fun A=>Zac pg Zgr [A] B fun A B=>
 xSl A fun A C D E=>L3 Q m0 (h.length,0) 0 0 true A C D E (((C:Nat):Int)) 0 B):Zac pg Zgj [.map m0] h Q:=
 Zac.of_body kp (c:=cod fn) (fn:=fn) Go.Proofs.Try.func61 (by kernel_rfl) (by kernel_rfl) (Nat.le_of_ble_eq_true (by kernel_rfl))
  (cast (by kernel_rfl) ht)
end Zfa
namespace Zhi
noncomputable abbrev fn:Func:=Go.Proofs.Try.f81
def kp:Zcr:=[(4000004,[8])]
noncomputable def C (p:List Nat):Code:=(cod fn).sub p
def KR (Q:QT):KT:=Zhe pg fn.results.toList Q
def J4 (Q:QT) (m8:Option Nat) (h:Zaa):Prop:=Den pg fn.ntmps (C [1,1,1]) [(8,.map m8)] h (KR Q)
theorem J4i (Q:QT) (m8:Option Nat) (h:Zaa) (ht :
 Zac pg Zgj [.map m8] h fun A B=>
 xSl A fun A C D E=>Q (.tup [.slice A C D E,.bool true]) B):J4 Q m8 h:=
 Zaz (kp:=kp) (cast (by kernel_rfl) ht)
theorem call (x0 x1:List Nat) (h:Zaa) (Q:QT) (ht :
 Zac pg Zgg [.str x0] h fun A B=>
 Zei A fun A=>Zac pg Zgg [.str x1] B fun B C=>
 Zei B fun B=>Zec (C ++ [.map [] 0]) fun D=>bcase (Option.isNone A) (Q (.tup [.slice none 0 0 true,.bool false]) D) (bcase (Option.isNone B) (Q (.tup [.slice none 0 0 true,.bool false]) D) (Zac pg Zfi [.ptr A,.ptr B,.map ((some C.length))] D fun A B=>
 Zbg A fun A=>bcase (!A) (Q (.tup [.slice none 0 0 true,.bool false]) B) (J4 Q ((some C.length)) B)))):Zac pg Zhg [.str x0,.str x1] h Q:=
 Zac.of_body kp (c:=cod fn) (fn:=fn) Go.Proofs.Try.func81 (by kernel_rfl) (by kernel_rfl) (Nat.le_of_ble_eq_true (by kernel_rfl))
  (cast (by kernel_rfl) ht)
end Zhi
namespace Zje
noncomputable abbrev fn:Func:=Go.Proofs.Try.f35
def kp:Zcr:=[]
noncomputable def C (p:List Nat):Code:=(cod fn).sub p
def KR (Q:QT):KT:=Zhe pg fn.results.toList Q
theorem call (x0 x1:List Nat) (h:Zaa) (Q:QT) (ht :
 Zac pg Zhg [.str x0,.str x1] h fun A B=>
 Zrs A fun A=>Zal A fun A C=>xSl A fun A A A A=>Zal C fun A C=>Zbg A fun A=>Zcs C (Q (.bool A) B)):Zac pg Zcb [.str x0,.str x1] h Q:=
 Zac.of_body kp (c:=cod fn) (fn:=fn) Go.Proofs.Try.func35 (by kernel_rfl) (by kernel_rfl) (Nat.le_of_ble_eq_true (by kernel_rfl))
  (cast (by kernel_rfl) ht)
end Zje
end Go.Sim

set_option maxRecDepth 100000
set_option maxHeartbeats 0
set_option linter.unusedVariables false
namespace Go.Sim
open Go Go.RowKit
namespace Zdf
noncomputable abbrev fn:Func:=Go.Proofs.Try.f122
def kp:Zcr:=[(4000006,[2,0,7]),(2000008,[48,0,1,2]),(3000011,[6]),(1000011,[1,2,52,53,54])]
noncomputable def C (p:List Nat):Code:=(cod fn).sub p
def KR (Q:QT):KT:=Zhe pg fn.results.toList Q
abbrev T11:=Pt→Option Nat→Pt→Nat→Nat→Bool→Int→Int→Zaa→Prop
def E11 (R11:T11) (env:Env) (h:Zaa):Prop:=Zcq 1 env fun v env=>Zei v fun a1=>Zcq 2 env fun v env=>Zxx v fun m2=>Zcq 52 env fun v env=>xSl v fun a52 n52 c52 e52=>Zcq 53 env fun v env=>Zhh .i64 v fun x53=>Zcq 54 env fun v env=>Zhh .i64 v fun x54=>Znu env (R11 a1 m2 a52 n52 c52 e52 x53 x54 h)
theorem Yev {R11:T11} {env:Env} {h:Zaa} (hi:E11 R11 env h):∃ a1,∃ m2,∃ a52,∃ n52,∃ c52,∃ e52,∃ x53,∃ x54,env=[(1,.ptr a1),(2,.map m2),(52,.slice a52 n52 c52 e52),(53,.int .i64 x53),(54,.int .i64 x54)]∧R11 a1 m2 a52 n52 c52 e52 x53 x54 h:=by
 unfold E11 at hi
 repeat ((first | (have k:=Zam hi; clear hi; obtain ⟨_,_,e,hi⟩:=k) | (have k:=Zkn hi; clear hi; obtain ⟨_,e,hi⟩:=k) | (have k:=Zdz hi; clear hi; obtain ⟨_,_,_,_,e,hi⟩:=k) | (have k:=Zbl hi; clear hi; obtain ⟨_,e,hi⟩:=k) | (have k:=Zbi hi; clear hi; obtain ⟨_,e,hi⟩:=k)); subst e)
 obtain ⟨rfl,hi⟩:=Zbx hi
 exact ⟨_,_,_,_,_,_,_,_,rfl,hi⟩
def K0 (Q:QT):KT:=andThen (fun env' h'=>(match kp.find 4000008 with | some ks=>Den pg fn.ntmps (C [1,1]) (env'.keep ks) h' (KR Q) | none=>den pg fn.ntmps kp (C [1,1]) env' h' (KR Q))) (KR Q)
def K1 (Q:QT):KT:=andThen (fun env' h'=>(match kp.find 4000016 with | some ks=>Den pg fn.ntmps (C [1,1,1,1]) (env'.keep ks) h' (KR Q) | none=>den pg fn.ntmps kp (C [1,1,1,1]) env' h' (KR Q))) (KR Q)
def K2 (Q:QT):KT:=Zdv 0 (K1 Q)
def K3 (Q:QT):KT:=left kp 11 (K2 Q)
def K4 (Q:QT) (R11:T11):KT:=rnd ((kp.find 1000011).getD []) (E11 R11) (K3 Q)
def J6 (Q:QT) (m2:Option Nat) (a0:Pt) (x7:List Nat) (h:Zaa):Prop:=Den pg fn.ntmps (C [1,0,1,0,1,1]) [(2,.map m2),(0,.ptr a0),(7,.str x7)] h (K0 Q)
def L11 (Q:QT) (a1:Pt) (m2:Option Nat) (a52:Pt) (n52 c52:Nat) (e52:Bool) (x53 x54:Int) (h:Zaa):Prop:=Zgo (Den pg fn.ntmps (C [1,1,1,0,1,0,0])) ((kp.find 1000011).getD []) (K3 Q) [(1,.ptr a1),(2,.map m2),(52,.slice a52 n52 c52 e52),(53,.int .i64 x53),(54,.int .i64 x54)] h
def Ykt (Q:QT) (h:Zaa):Prop:=At (K2 Q) (.exit 0) [(6,.undef)] h
theorem J6i (Q:QT) (m2:Option Nat) (a0:Pt) (x7:List Nat) (h:Zaa) (ht :
 Zaw a0 fun A B=>Zde (Zaj h (.ptr (A,B + 0))) fun A=>xMp m2 fun B=>Zbt h (some B) fun es_32 k_33=>Zzc es_32 k_33 A (.str x7) fun es_34 k_35=>Zec (List.set h B (.map es_34 k_35)) fun A=>Q (.bool true) A):J6 Q m2 a0 x7 h:=
 Zaz (kp:=kp) (cast (by kernel_rfl) ht)
def L11t (Q:QT) (R11:T11) (a1:Pt) (m2:Option Nat) (a52:Pt) (n52 c52:Nat) (e52:Bool) (x53 x54:Int) (h:Zaa):Prop:=
 bcase (decide ((x54:Int) < x53)) ((0≤(x54:Int)∧(x54:Int) < (n52:Nat))∧(Zaw a52 fun A B=>Zei (Zaj h (.ptr (A,B + (Int.toNat x54) * 1))) fun A=>Zaw a1 fun B C=>xSl (Zaj h (.ptr (B,C + 1))) fun B C D D=>(0≤(x54:Int)∧(x54:Int) < (C:Nat))∧(Zaw B fun B C=>Zei (Zaj h (.ptr (B,C + (Int.toNat x54) * 1))) fun B=>Zac pg Zfi [.ptr A,.ptr B,.map m2] h fun A B=>
 Zbg A fun A=>bcase (!A) (Q (.bool false) B) (R11 a1 m2 a52 n52 c52 e52 x53 (IntKind.wrap .i64 (x54 + 1)) B)))) (Ykt Q h)
theorem Ykw (Q:QT) (R11:T11) (a1:Pt) (m2:Option Nat) (a52:Pt) (n52 c52:Nat) (e52:Bool) (x53 x54:Int) (h:Zaa) (ht:L11t Q R11 a1 m2 a52 n52 c52 e52 x53 x54 h):Den pg fn.ntmps (C [1,1,1,0,1,0,0]) [(1,.ptr a1),(2,.map m2),(52,.slice a52 n52 c52 e52),(53,.int .i64 x53),(54,.int .i64 x54)] h (K4 Q R11):=
 Zaz (kp:=kp) (cast (by kernel_rfl) ht)
theorem L11ind (Q:QT) (a1:Pt) (m2:Option Nat) (a52:Pt) (n52 c52:Nat) (e52:Bool) (x53:Int) {G:Type} (J:G→Int→Zaa→Prop) (m:G→Nat)
 (hr:∀ (g:G) (x54:Int) (h:Zaa),J g x54 h→∀ (R11:T11),(∀ g' (x54:Int) (h:Zaa),m g' < m g→J g' x54 h→R11 a1 m2 a52 n52 c52 e52 x53 x54 h)→L11t Q R11 a1 m2 a52 n52 c52 e52 x53 x54 h)
 (g:G) (x54:Int) (h:Zaa) (hj:J g x54 h):L11 Q a1 m2 a52 n52 c52 e52 x53 x54 h:=by
 let P:=fun (K:Int→Zaa→Prop) a1' m2' a52' n52' c52' e52' x53' x54 h=>a1=a1'∧m2=m2'∧a52=a52'∧n52=n52'∧c52=c52'∧e52=e52'∧x53=x53'∧K x54 h
 refine Zgo.inv2 (fun g=>E11 (P (J g))) (fun g=>E11 (P fun x54 h=>∃ g',m g' < m g∧J g' x54 h)) m ?_ ?_ g ⟨rfl,rfl,rfl,rfl,rfl,rfl,rfl,hj⟩
 ·intro g env h hi
  obtain ⟨a1',m2',a52',n52',c52',e52',x53',x54,rfl,rfl,rfl,rfl,rfl,rfl,rfl,rfl,hj⟩:=Yev hi
  exact Ykw Q _ a1 m2 a52 n52 c52 e52 x53 x54 h (hr g x54 h hj (P fun x54 h=>∃ g',m g' < m g∧J g' x54 h) fun g' x54 h hlt hj=>⟨rfl,rfl,rfl,rfl,rfl,rfl,rfl,g',hlt,hj⟩)
 ·intro g env h hi
  obtain ⟨a1',m2',a52',n52',c52',e52',x53',x54,rfl,rfl,rfl,rfl,rfl,rfl,rfl,rfl,g',hlt,hj⟩:=Yev hi
  exact ⟨g',hlt,rfl,rfl,rfl,rfl,rfl,rfl,rfl,hj⟩
theorem A11x0i (Q:QT) (h:Zaa) (ht :
 Q (.bool true) h):Ykt Q h:=
 At.mk (cast (by kernel_rfl) ht)
theorem call (a0 a1:Pt) (m2:Option Nat) (h:Zaa) (Q:QT) (ht :
 Zaw a0 fun A B=>Zde (Zaj h (.ptr (A,B + 0))) fun A=>Zac pg Zcc [.str A] h fun A B=>
 Zbg A fun A=>bcase A (Zac pg Zfr [.ptr a1] B fun A C=>
 Zde A fun A=>Zaw a0 fun D E=>Zde (Zaj C (.ptr (D,E + 0))) fun D=>Zbt C m2 fun es_12 k_13=>Zmj es_12 D fun D=>Zde (some (Option.getD D (.str []))) fun E=>bcase (Option.isSome D) (bcase (!(decide (E=A))) (Q (.bool false) C) (J6 Q m2 a0 A C)) (J6 Q m2 a0 A C)) (Zaw a0 fun A C=>Zaw a1 fun D E=>Zde (Zaj B (.ptr (A,C + 0))) fun F=>Zde (Zaj B (.ptr (D,E + 0))) fun D=>(Zaj B (.ptr (A,C + 0))=Zaj B (.ptr (A,C + 0)))∧bcase (!(decide (F=D))) (Q (.bool false) B) (Zaw a0 fun A C=>xSl (Zaj B (.ptr (A,C + 1))) fun A C D E=>L11 Q a1 m2 A C D E (((C:Nat):Int)) 0 B))):Zac pg Zfi [.ptr a0,.ptr a1,.map m2] h Q:=
 Zac.of_body kp (c:=cod fn) (fn:=fn) Go.Proofs.Try.func122 (by kernel_rfl) (by kernel_rfl) (Nat.le_of_ble_eq_true (by kernel_rfl))
  (cast (by kernel_rfl) ht)
end Zdf
end Go.Sim
