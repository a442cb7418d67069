/- A part of the proof of a statement of this seat: see the text that holds the theorem. No condition. -/
import Derived.Test.YtdglddliggejdaaGreatNm
set_option linter.unusedVariables false
set_option linter.unusedSimpArgs false
set_option linter.all false
set_option maxRecDepth 100000
set_option maxHeartbeats 0
set_option linter.unusedVariables false
namespace Go.Sim
open Go Go.RowKit
namespace Zgz
noncomputable abbrev fn:Func:=Go.Proofs.Tryz.f130
def kp:Zcu:=[(3000005,[0,3]),(1000005,[0,3,20,21,22]),(2000009,[2])]
noncomputable def C (p:List Nat):Code:=(cod fn).sub p
def KR (Q:QT):KT:=Zfi pg fn.results.toList Q
abbrev T5:=Pt→Pt→Nat→Nat→Bool→Pt→Nat→Nat→Bool→Int→Int→Zaa→Prop
def E5 (R5:T5) (env:Env) (h:Zaa):Prop:=Zci 0 env fun v env=>Zfc v fun a0=>Zci 3 env fun v env=>xSl v fun a3 n3 c3 e3=>Zci 20 env fun v env=>xSl v fun a20 n20 c20 e20=>Zci 21 env fun v env=>Zez .i64 v fun x21=>Zci 22 env fun v env=>Zez .i64 v fun x22=>Zky env (R5 a0 a3 n3 c3 e3 a20 n20 c20 e20 x21 x22 h)
theorem Zli {R5:T5} {env:Env} {h:Zaa} (hi:E5 R5 env h):∃ a0,∃ a3,∃ n3,∃ c3,∃ e3,∃ a20,∃ n20,∃ c20,∃ e20,∃ x21,∃ x22,env=[(0,.ptr a0),(3,.slice a3 n3 c3 e3),(20,.slice a20 n20 c20 e20),(21,.int .i64 x21),(22,.int .i64 x22)]∧R5 a0 a3 n3 c3 e3 a20 n20 c20 e20 x21 x22 h:=by
 unfold E5 at hi
 repeat ((first | (have k:=Zal hi; clear hi; obtain ⟨_,_,e,hi⟩:=k) | (have k:=Zaz hi; clear hi; obtain ⟨_,e,hi⟩:=k) | (have k:=Zcp hi; clear hi; obtain ⟨_,_,_,_,e,hi⟩:=k) | (have k:=Zbo hi; clear hi; obtain ⟨_,e,hi⟩:=k)); subst e)
 obtain ⟨rfl,hi⟩:=Zca hi
 exact ⟨_,_,_,_,_,_,_,_,_,_,_,rfl,hi⟩
def K0 (Q:QT):KT:=andThen (fun env' h'=>(match kp.find 4000009 with | some ks=>Den pg fn.ntmps (C [1,1,1,1]) (env'.keep ks) h' (KR Q) | none=>den pg fn.ntmps kp (C [1,1,1,1]) env' h' (KR Q))) (KR Q)
def K1 (Q:QT):KT:=Zdg 0 (K0 Q)
def K2 (Q:QT):KT:=left kp 5 (K1 Q)
def K3 (Q:QT) (R5:T5):KT:=rnd ((kp.find 1000005).getD []) (E5 R5) (K2 Q)
def L5 (Q:QT) (a0 a3:Pt) (n3 c3:Nat) (e3:Bool) (a20:Pt) (n20 c20:Nat) (e20:Bool) (x21 x22:Int) (h:Zaa):Prop:=Zfb (Den pg fn.ntmps (C [1,1,1,0,1,0,0])) ((kp.find 1000005).getD []) (K2 Q) [(0,.ptr a0),(3,.slice a3 n3 c3 e3),(20,.slice a20 n20 c20 e20),(21,.int .i64 x21),(22,.int .i64 x22)] h
def A5x0 (Q:QT) (a0 a3:Pt) (n3 c3:Nat) (e3:Bool) (h:Zaa):Prop:=At (K1 Q) (.exit 0) [(0,.ptr a0),(3,.slice a3 n3 c3 e3)] h
def L5t (Q:QT) (R5:T5) (a0 a3:Pt) (n3 c3:Nat) (e3:Bool) (a20:Pt) (n20 c20:Nat) (e20:Bool) (x21 x22:Int) (h:Zaa):Prop:=
 bcase (decide ((x22:Int) < x21)) ((0≤(x22:Int)∧(x22:Int) < (n20:Nat))∧(Zbi a20 fun A B=>Zfc (Zai h (.ptr (A,B + (Int.toNat x22) * 1))) fun A=>Zah pg Zit [.ptr A] h fun A B=>
 Zbn A fun A=>Zco (B ++ [.cells Zbg [.str A] false]) fun A=>Zcz pg Zjh A (.slice a3 n3 c3 e3) (.slice (B.length,0) 1 1 true) fun A B=>xSl A fun A C D E=>R5 a0 A C D E a20 n20 c20 e20 x21 (IntKind.wrap .i64 (x22 + 1)) B)) (A5x0 Q a0 a3 n3 c3 e3 h)
theorem Zxf (Q:QT) (R5:T5) (a0 a3:Pt) (n3 c3:Nat) (e3:Bool) (a20:Pt) (n20 c20:Nat) (e20:Bool) (x21 x22:Int) (h:Zaa) (ht:L5t Q R5 a0 a3 n3 c3 e3 a20 n20 c20 e20 x21 x22 h):Den pg fn.ntmps (C [1,1,1,0,1,0,0]) [(0,.ptr a0),(3,.slice a3 n3 c3 e3),(20,.slice a20 n20 c20 e20),(21,.int .i64 x21),(22,.int .i64 x22)] h (K3 Q R5):=
 Zbf (kp:=kp) (cast (by kernel_rfl) ht)
theorem L5ind (Q:QT) (a0 a20:Pt) (n20 c20:Nat) (e20:Bool) (x21:Int) {G:Type} (J:G→Pt→Nat→Nat→Bool→Int→Zaa→Prop) (m:G→Nat)
 (hr:∀ (g:G) (a3:Pt) (n3 c3:Nat) (e3:Bool) (x22:Int) (h:Zaa),J g a3 n3 c3 e3 x22 h→∀ (R5:T5),(∀ g' (a3:Pt) (n3 c3:Nat) (e3:Bool) (x22:Int) (h:Zaa),m g' < m g→J g' a3 n3 c3 e3 x22 h→R5 a0 a3 n3 c3 e3 a20 n20 c20 e20 x21 x22 h)→L5t Q R5 a0 a3 n3 c3 e3 a20 n20 c20 e20 x21 x22 h)
 (g:G) (a3:Pt) (n3 c3:Nat) (e3:Bool) (x22:Int) (h:Zaa) (hj:J g a3 n3 c3 e3 x22 h):L5 Q a0 a3 n3 c3 e3 a20 n20 c20 e20 x21 x22 h:=by
 let P:=fun (K:Pt→Nat→Nat→Bool→Int→Zaa→Prop) a0' a3 n3 c3 e3 a20' n20' c20' e20' x21' x22 h=>a0=a0'∧a20=a20'∧n20=n20'∧c20=c20'∧e20=e20'∧x21=x21'∧K a3 n3 c3 e3 x22 h
 refine Zfb.inv2 (fun g=>E5 (P (J g))) (fun g=>E5 (P fun a3 n3 c3 e3 x22 h=>∃ g',m g' < m g∧J g' a3 n3 c3 e3 x22 h)) m ?_ ?_ g ⟨rfl,rfl,rfl,rfl,rfl,rfl,hj⟩
 ·intro g env h hi
  obtain ⟨a0',a3,n3,c3,e3,a20',n20',c20',e20',x21',x22,rfl,rfl,rfl,rfl,rfl,rfl,rfl,hj⟩:=Zli hi
  exact Zxf Q _ a0 a3 n3 c3 e3 a20 n20 c20 e20 x21 x22 h (hr g a3 n3 c3 e3 x22 h hj (P fun a3 n3 c3 e3 x22 h=>∃ g',m g' < m g∧J g' a3 n3 c3 e3 x22 h) fun g' a3 n3 c3 e3 x22 h hlt hj=>⟨rfl,rfl,rfl,rfl,rfl,rfl,g',hlt,hj⟩)
 ·intro g env h hi
  obtain ⟨a0',a3,n3,c3,e3,a20',n20',c20',e20',x21',x22,rfl,rfl,rfl,rfl,rfl,rfl,rfl,g',hlt,hj⟩:=Zli hi
  exact ⟨g',hlt,rfl,rfl,rfl,rfl,rfl,rfl,hj⟩
theorem A5x0i (Q:QT) (a0 a3:Pt) (n3 c3:Nat) (e3:Bool) (h:Zaa) (ht :
 Zbi a0 fun A B=>Zbn (Zai h (.ptr (A,B + 0))) fun C=>List.length C + List.length [40]≤9223372036854775807∧(Zah pg Znq [.slice a3 n3 c3 e3,.str [44]] h fun D E=>
 Zbn D fun D=>(Zai E (.ptr (A,B + 0))=Zai h (.ptr (A,B + 0)))∧List.length (C ++ [40]) + List.length D≤9223372036854775807∧(List.length ((C ++ [40]) ++ D) + List.length [41]≤9223372036854775807∧(Q (.str (((C ++ [40]) ++ D) ++ [41])) E)))):A5x0 Q a0 a3 n3 c3 e3 h:=
 At.mk (cast (by kernel_rfl) ht)
theorem call (a0:Pt) (h:Zaa) (Q:QT) (ht :
 Zbi a0 fun A B=>xSl (Zai h (.ptr (A,B + 1))) fun A A B B=>bcase ((((A:Nat):Int):Int) == 0) (Zbi a0 fun A B=>Zbn (Zai h (.ptr (A,B + 0))) fun A=>Q (.str A) h) (Zco (h ++ [.cells Zbg [] false]) fun A=>Zbi a0 fun B C=>xSl (Zai A (.ptr (B,C + 1))) fun B C D E=>L5 Q a0 (h.length,0) 0 0 true B C D E (((C:Nat):Int)) 0 A)):Zah pg Zit [.ptr a0] h Q:=
 Zah.of_body kp (c:=cod fn) (fn:=fn) Go.Proofs.Tryz.func130 (by kernel_rfl) (by kernel_rfl) (Nat.le_of_ble_eq_true (by kernel_rfl))
  (cast (by kernel_rfl) ht)
end Zgz
namespace Zgw
noncomputable abbrev fn:Func:=Go.Proofs.Tryz.f82
def kp:Zcu:=[(3000003,[1,3]),(1000003,[1,3,11,12,13]),(2000005,[13,12,11,3,1]),(4000009,[3])]
noncomputable def C (p:List Nat):Code:=(cod fn).sub p
def KR (Q:QT):KT:=Zfi pg fn.results.toList Q
abbrev T3:=Nat→Nat→List Nat→Pt→Nat→Nat→Bool→Int→Int→Zaa→Prop
def E3 (R3:T3) (env:Env) (h:Zaa):Prop:=Zci 1 env fun v env=>Zfc v fun a=>Zbi a fun i1 o1=>Zci 3 env fun v env=>Zbn v fun x3=>Zci 11 env fun v env=>xSl v fun a11 n11 c11 e11=>Zci 12 env fun v env=>Zez .i64 v fun x12=>Zci 13 env fun v env=>Zez .i64 v fun x13=>Zky env (R3 i1 o1 x3 a11 n11 c11 e11 x12 x13 h)
theorem Zfy {R3:T3} {env:Env} {h:Zaa} (hi:E3 R3 env h):∃ i1,∃ o1,∃ x3,∃ a11,∃ n11,∃ c11,∃ e11,∃ x12,∃ x13,env=[(1,.ptr (i1,o1)),(3,.str x3),(11,.slice a11 n11 c11 e11),(12,.int .i64 x12),(13,.int .i64 x13)]∧R3 i1 o1 x3 a11 n11 c11 e11 x12 x13 h:=by
 unfold E3 at hi
 have hi0:=hi
 clear hi
 obtain ⟨_,_,rfl,hi1⟩:=Zal hi0
 obtain ⟨a,rfl,hi2⟩:=Zbo hi1
 obtain ⟨i1,o1,rfl,hi3⟩:=Zbp hi2
 obtain ⟨_,_,rfl,hi4⟩:=Zal hi3
 obtain ⟨x3,rfl,hi5⟩:=Zhb hi4
 obtain ⟨_,_,rfl,hi6⟩:=Zal hi5
 obtain ⟨a11,n11,c11,e11,rfl,hi7⟩:=Zcp hi6
 obtain ⟨_,_,rfl,hi8⟩:=Zal hi7
 obtain ⟨x12,rfl,hi9⟩:=Zaz hi8
 obtain ⟨_,_,rfl,hi10⟩:=Zal hi9
 obtain ⟨x13,rfl,hi11⟩:=Zaz hi10
 obtain ⟨rfl,hi12⟩:=Zca hi11
 have hi:=hi12
 exact ⟨i1,o1,x3,a11,n11,c11,e11,x12,x13,rfl,hi⟩
def K0 (Q:QT):KT:=andThen (fun env' h'=>(match kp.find 4000007 with | some ks=>Den pg fn.ntmps (C [1,1,1]) (env'.keep ks) h' (KR Q) | none=>den pg fn.ntmps kp (C [1,1,1]) env' h' (KR Q))) (KR Q)
def K1 (Q:QT):KT:=Zdg 0 (K0 Q)
def K2 (Q:QT):KT:=left kp 3 (K1 Q)
def K3 (Q:QT) (R3:T3):KT:=rnd ((kp.find 1000003).getD []) (E3 R3) (K2 Q)
def L3 (Q:QT) (i1 o1:Nat) (x3:List Nat) (a11:Pt) (n11 c11:Nat) (e11:Bool) (x12 x13:Int) (h:Zaa):Prop:=Zfb (Den pg fn.ntmps (C [1,1,0,1,0,0])) ((kp.find 1000003).getD []) (K2 Q) [(1,.ptr (i1,o1)),(3,.str x3),(11,.slice a11 n11 c11 e11),(12,.int .i64 x12),(13,.int .i64 x13)] h
def Zsz (Q:QT) (i1 o1:Nat) (x3:List Nat) (h:Zaa):Prop:=At (K1 Q) (.exit 0) [(1,.ptr (i1,o1)),(3,.str x3)] h
def J9 (Q:QT) (x3:List Nat) (h:Zaa):Prop:=Den pg fn.ntmps (C [1,1,1,1]) [(3,.str x3)] h (KR Q)
def L3t (Q:QT) (R3:T3) (i1 o1:Nat) (x3:List Nat) (a11:Pt) (n11 c11:Nat) (e11:Bool) (x12 x13:Int) (h:Zaa):Prop:=
 bcase (decide ((x13:Int) < x12)) ((0≤(x13:Int)∧(x13:Int) < (n11:Nat))∧(Zbi a11 fun A B=>Zcb (Zan h (.ptr (A,B + (Int.toNat x13) * 2)) 2) fun A=>Zag A fun A B=>Zck .u8 A fun A=>Zag B fun B C=>xSl B fun B D E F=>Zbu C (Zco (h ++ [.cells Zab [.int .u8 0,.slice none 0 0 true] false]) fun C=>Zbx (Zbb C (.ptr (h.length,0)) [.int .u8 A,.slice B D E F]) fun A=>(0≤(x13:Int)∧(x13:Int)≤IntKind.wrap .i64 (x13 + 1)∧(IntKind.wrap .i64 (x13 + 1):Int)≤(List.length ([40,44]):Nat))∧(List.length x3 + List.length (sub ([40,44]) x13 (IntKind.wrap .i64 (x13 + 1)))≤9223372036854775807∧(Zcb (Zan A (.ptr (h.length,0)) 2) fun B=>Zag B fun B C=>Zck .u8 B fun B=>Zag C fun C D=>xSl C fun C E F G=>Zbu D (Zah pg Zgx [.agg [.int .u8 B,.slice C E F G]] A fun A B=>
 Zbn A fun A=>List.length (x3 ++ (sub ([40,44]) x13 (IntKind.wrap .i64 (x13 + 1)))) + List.length A≤9223372036854775807∧(R3 i1 o1 ((x3 ++ (sub ([40,44]) x13 (IntKind.wrap .i64 (x13 + 1)))) ++ A) a11 n11 c11 e11 x12 (IntKind.wrap .i64 (x13 + 1)) B))))))) (Zsz Q i1 o1 x3 h)
theorem Zoo (Q:QT) (R3:T3) (i1 o1:Nat) (x3:List Nat) (a11:Pt) (n11 c11:Nat) (e11:Bool) (x12 x13:Int) (h:Zaa) (ht:L3t Q R3 i1 o1 x3 a11 n11 c11 e11 x12 x13 h):Den pg fn.ntmps (C [1,1,0,1,0,0]) [(1,.ptr (i1,o1)),(3,.str x3),(11,.slice a11 n11 c11 e11),(12,.int .i64 x12),(13,.int .i64 x13)] h (K3 Q R3):=
 Zbf (kp:=kp) (cast (by kernel_rfl) ht)
theorem L3ind (Q:QT) (i1 o1:Nat) (a11:Pt) (n11 c11:Nat) (e11:Bool) (x12:Int) {G:Type} (J:G→List Nat→Int→Zaa→Prop) (m:G→Nat)
 (hr:∀ (g:G) (x3:List Nat) (x13:Int) (h:Zaa),J g x3 x13 h→∀ (R3:T3),(∀ g' (x3:List Nat) (x13:Int) (h:Zaa),m g' < m g→J g' x3 x13 h→R3 i1 o1 x3 a11 n11 c11 e11 x12 x13 h)→L3t Q R3 i1 o1 x3 a11 n11 c11 e11 x12 x13 h)
 (g:G) (x3:List Nat) (x13:Int) (h:Zaa) (hj:J g x3 x13 h):L3 Q i1 o1 x3 a11 n11 c11 e11 x12 x13 h:=by
 let P:=fun (K:List Nat→Int→Zaa→Prop) i1' o1' x3 a11' n11' c11' e11' x12' x13 h=>i1=i1'∧o1=o1'∧a11=a11'∧n11=n11'∧c11=c11'∧e11=e11'∧x12=x12'∧K x3 x13 h
 refine Zfb.inv2 (fun g=>E3 (P (J g))) (fun g=>E3 (P fun x3 x13 h=>∃ g',m g' < m g∧J g' x3 x13 h)) m ?_ ?_ g ⟨rfl,rfl,rfl,rfl,rfl,rfl,rfl,hj⟩
 ·intro g env h hi
  obtain ⟨i1',o1',x3,a11',n11',c11',e11',x12',x13,rfl,rfl,rfl,rfl,rfl,rfl,rfl,rfl,hj⟩:=Zfy hi
  exact Zoo Q _ i1 o1 x3 a11 n11 c11 e11 x12 x13 h (hr g x3 x13 h hj (P fun x3 x13 h=>∃ g',m g' < m g∧J g' x3 x13 h) fun g' x3 x13 h hlt hj=>⟨rfl,rfl,rfl,rfl,rfl,rfl,rfl,g',hlt,hj⟩)
 ·intro g env h hi
  obtain ⟨i1',o1',x3,a11',n11',c11',e11',x12',x13,rfl,rfl,rfl,rfl,rfl,rfl,rfl,rfl,g',hlt,hj⟩:=Zfy hi
  exact ⟨g',hlt,rfl,rfl,rfl,rfl,rfl,rfl,rfl,hj⟩
theorem A3x0i (Q:QT) (i1 o1:Nat) (x3:List Nat) (h:Zaa) (ht :
 xSl (Zai h (.ptr (i1,o1 + 1))) fun A A B B=>bcase (decide (((((A:Nat):Int)):Int) > 0)) (List.length x3 + List.length [41]≤9223372036854775807∧(J9 Q (x3 ++ [41]) h)) (J9 Q x3 h)):Zsz Q i1 o1 x3 h:=
 At.mk (cast (by kernel_rfl) ht)
theorem J9i (Q:QT) (x3:List Nat) (h:Zaa) (ht :
 Q (.str x3) h):J9 Q x3 h:=
 Zbf (kp:=kp) (cast (by kernel_rfl) ht)
theorem call (x0x0:Int) (a0x1:Pt) (n0x1 c0x1:Nat) (e0x1:Bool) (h:Zaa) (Q:QT) (ht :
 Zco (h ++ [.cells Zab [.int .u8 x0x0,.slice a0x1 n0x1 c0x1 e0x1] false]) fun A=>Zck .u8 (Zai A (.ptr (h.length,0 + 0))) fun B=>Zco (A ++ [.cells Ymg [.int .u8 B] false]) fun B=>Zcb (rowOf B (A.length,0) 1) fun A=>Zqw A fun A=>xSl (Zai B (.ptr (h.length,0 + 1))) fun C D E F=>L3 Q h.length 0 A C D E F (((D:Nat):Int)) 0 B):Zah pg Zgx [.agg [.int .u8 x0x0,.slice a0x1 n0x1 c0x1 e0x1]] h Q:=
 Zah.of_body kp (c:=cod fn) (fn:=fn) Go.Proofs.Tryz.func82 (by kernel_rfl) (by kernel_rfl) (Nat.le_of_ble_eq_true (by kernel_rfl))
  (cast (by kernel_rfl) ht)
end Zgw
end Go.Sim

set_option maxRecDepth 100000
set_option maxHeartbeats 0
set_option linter.unusedVariables false
namespace Go.Sim
open Go Go.RowKit
end Go.Sim

set_option maxRecDepth 100000
set_option maxHeartbeats 0
set_option linter.unusedVariables false
namespace Go.Sim
open Go Go.RowKit
end Go.Sim

set_option maxRecDepth 100000
set_option maxHeartbeats 0
set_option linter.unusedVariables false
namespace Go.Sim
open Go Go.RowKit
end Go.Sim

set_option maxRecDepth 100000
set_option maxHeartbeats 0
set_option linter.unusedVariables false
namespace Go.Sim
open Go Go.RowKit
end Go.Sim

set_option maxRecDepth 100000
set_option maxHeartbeats 0
set_option linter.unusedVariables false
namespace Go.Sim
open Go Go.RowKit
namespace Zke
noncomputable abbrev fn:Func:=Go.Proofs.Tryz.f108
def kp:Zcu:=[]
noncomputable def C (p:List Nat):Code:=(cod fn).sub p
def KR (Q:QT):KT:=Zfi pg fn.results.toList Q
theorem call (x0x0 x0x1:List Nat) (a0x2:Pt) (n0x2 c0x2:Nat) (e0x2:Bool) (v1:Zas) (h:Zaa) (Q:QT) (ht :
 Zco (h ++ [.cells Zac [.str x0x0,.str x0x1,.slice a0x2 n0x2 c0x2 e0x2] false]) fun A=>Zcb (Zan A (v1) 2) fun B=>Zag B fun B C=>xSl B fun B D E F=>Zag C fun C G=>xSl C fun C H I J=>Zbu G (Zcb (Zan A (.ptr (h.length,0)) 3) fun G=>Zag G fun G K=>Zbn G fun G=>Zag K fun K L=>Zbn K fun K=>Zag L fun L M=>xSl L fun L N O P=>Zbu M (Zah pg Zij [.agg [.slice B D E F,.slice C H I J],.agg [.str G,.str K,.slice L N O P]] A fun A B=>
 Zbr A fun A=>Q (.bool (!A)) B))):Zah pg Zcm [.agg [.str x0x0,.str x0x1,.slice a0x2 n0x2 c0x2 e0x2],v1] h Q:=
 Zah.of_body kp (c:=cod fn) (fn:=fn) Go.Proofs.Tryz.func108 (by kernel_rfl) (by kernel_rfl) (Nat.le_of_ble_eq_true (by kernel_rfl))
  (cast (by kernel_rfl) ht)
end Zke
namespace Zbm
noncomputable abbrev fn:Func:=Go.Proofs.Tryz.f142
def kp:Zcu:=[(3000002,[4]),(1000002,[0,1,7,8])]
noncomputable def C (p:List Nat):Code:=(cod fn).sub p
def KR (Q:QT):KT:=Zfi pg fn.results.toList Q
abbrev T2:=Pt→Nat→Nat→Bool→Zas→Int→Int→Zaa→Prop
def E2 (R2:T2) (env:Env) (h:Zaa):Prop:=Zci 0 env fun v env=>xSl v fun a0 n0 c0 e0=>Zci 1 env fun v env=>eFn Zcm v fun cs=>Zag cs fun c cs'=>Zzf c fun v1x0=>Zbu cs' (Zci 7 env fun v env=>Zez .i64 v fun x7=>Zci 8 env fun v env=>Zez .i64 v fun x8=>Zky env (R2 a0 n0 c0 e0 v1x0 x7 x8 h))
theorem Zfx {R2:T2} {env:Env} {h:Zaa} (hi:E2 R2 env h):∃ a0,∃ n0,∃ c0,∃ e0,∃ v1x0,∃ x7,∃ x8,env=[(0,.slice a0 n0 c0 e0),(1,.fn Zcm [v1x0]),(7,.int .i64 x7),(8,.int .i64 x8)]∧R2 a0 n0 c0 e0 v1x0 x7 x8 h:=by
 unfold E2 at hi
 have hi0:=hi
 clear hi
 obtain ⟨_,_,rfl,hi1⟩:=Zal hi0
 obtain ⟨a0,n0,c0,e0,rfl,hi2⟩:=Zcp hi1
 obtain ⟨_,_,rfl,hi3⟩:=Zal hi2
 obtain ⟨cs,rfl,hi4⟩:=Zwn hi3
 obtain ⟨c,cs',rfl,hi5⟩:=Zrf hi4
 obtain ⟨v1x0,hx,hi6⟩:=Zla hi5
 replace hx:=(Option.some.inj hx).symm
 subst hx
 obtain ⟨rfl,hi7⟩:=Zsy hi6
 obtain ⟨_,_,rfl,hi8⟩:=Zal hi7
 obtain ⟨x7,rfl,hi9⟩:=Zaz hi8
 obtain ⟨_,_,rfl,hi10⟩:=Zal hi9
 obtain ⟨x8,rfl,hi11⟩:=Zaz hi10
 obtain ⟨rfl,hi12⟩:=Zca hi11
 have hi:=hi12
 exact ⟨a0,n0,c0,e0,v1x0,x7,x8,rfl,hi⟩
def K0 (Q:QT):KT:=andThen (fun env' h'=>(match kp.find 4000007 with | some ks=>Den pg fn.ntmps (C [1,1]) (env'.keep ks) h' (KR Q) | none=>den pg fn.ntmps kp (C [1,1]) env' h' (KR Q))) (KR Q)
def K1 (Q:QT):KT:=Zdg 0 (K0 Q)
def K2 (Q:QT):KT:=left kp 2 (K1 Q)
def K3 (Q:QT) (R2:T2):KT:=rnd ((kp.find 1000002).getD []) (E2 R2) (K2 Q)
def L2 (Q:QT) (a0:Pt) (n0 c0:Nat) (e0:Bool) (v1x0:Zas) (x7 x8:Int) (h:Zaa):Prop:=Zfb (Den pg fn.ntmps (C [1,0,1,0,0])) ((kp.find 1000002).getD []) (K2 Q) [(0,.slice a0 n0 c0 e0),(1,.fn Zcm [v1x0]),(7,.int .i64 x7),(8,.int .i64 x8)] h
def A2x0 (Q:QT) (h:Zaa):Prop:=At (K1 Q) (.exit 0) [(4,.undef)] h
def L2t (Q:QT) (R2:T2) (a0:Pt) (n0 c0:Nat) (e0:Bool) (v1x0:Zas) (x7 x8:Int) (h:Zaa):Prop:=
 bcase (decide ((x8:Int) < x7)) ((0≤(x8:Int)∧(x8:Int) < (n0:Nat))∧(Zbi a0 fun A B=>Zcb (Zan h (.ptr (A,B + (Int.toNat x8) * 3)) 3) fun A=>Zag A fun A B=>Zbn A fun A=>Zag B fun B C=>Zbn B fun B=>Zag C fun C D=>xSl C fun C E F G=>Zbu D (Zah pg Zcm [.agg [.str A,.str B,.slice C E F G],v1x0] h fun A B=>
 Zbr A fun A=>bcase A (Q (.int .i64 x8) B) (R2 a0 n0 c0 e0 v1x0 x7 (IntKind.wrap .i64 (x8 + 1)) B)))) (A2x0 Q h)
theorem Zok (Q:QT) (R2:T2) (a0:Pt) (n0 c0:Nat) (e0:Bool) (v1x0:Zas) (x7 x8:Int) (h:Zaa) (ht:L2t Q R2 a0 n0 c0 e0 v1x0 x7 x8 h):Den pg fn.ntmps (C [1,0,1,0,0]) [(0,.slice a0 n0 c0 e0),(1,.fn Zcm [v1x0]),(7,.int .i64 x7),(8,.int .i64 x8)] h (K3 Q R2):=
 Zbf (kp:=kp) (cast (by kernel_rfl) ht)
theorem L2ind (Q:QT) (a0:Pt) (n0 c0:Nat) (e0:Bool) (v1x0:Zas) (x7:Int) {G:Type} (J:G→Int→Zaa→Prop) (m:G→Nat)
 (hr:∀ (g:G) (x8:Int) (h:Zaa),J g x8 h→∀ (R2:T2),(∀ g' (x8:Int) (h:Zaa),m g' < m g→J g' x8 h→R2 a0 n0 c0 e0 v1x0 x7 x8 h)→L2t Q R2 a0 n0 c0 e0 v1x0 x7 x8 h)
 (g:G) (x8:Int) (h:Zaa) (hj:J g x8 h):L2 Q a0 n0 c0 e0 v1x0 x7 x8 h:=by
 let P:=fun (K:Int→Zaa→Prop) a0' n0' c0' e0' v1x0' x7' x8 h=>a0=a0'∧n0=n0'∧c0=c0'∧e0=e0'∧v1x0=v1x0'∧x7=x7'∧K x8 h
 refine Zfb.inv2 (fun g=>E2 (P (J g))) (fun g=>E2 (P fun x8 h=>∃ g',m g' < m g∧J g' x8 h)) m ?_ ?_ g ⟨rfl,rfl,rfl,rfl,rfl,rfl,hj⟩
 ·intro g env h hi
  obtain ⟨a0',n0',c0',e0',v1x0',x7',x8,rfl,rfl,rfl,rfl,rfl,rfl,rfl,hj⟩:=Zfx hi
  exact Zok Q _ a0 n0 c0 e0 v1x0 x7 x8 h (hr g x8 h hj (P fun x8 h=>∃ g',m g' < m g∧J g' x8 h) fun g' x8 h hlt hj=>⟨rfl,rfl,rfl,rfl,rfl,rfl,g',hlt,hj⟩)
 ·intro g env h hi
  obtain ⟨a0',n0',c0',e0',v1x0',x7',x8,rfl,rfl,rfl,rfl,rfl,rfl,rfl,g',hlt,hj⟩:=Zfx hi
  exact ⟨g',hlt,rfl,rfl,rfl,rfl,rfl,rfl,hj⟩
theorem A2x0i (Q:QT) (h:Zaa) (ht :
 Q (.int .i64 (-1)) h):A2x0 Q h:=
 At.mk (cast (by kernel_rfl) ht)
theorem call (a0:Pt) (n0 c0:Nat) (e0:Bool) (v1x0:Zas) (h:Zaa) (Q:QT) (ht :
 L2 Q a0 n0 c0 e0 v1x0 (((n0:Nat):Int)) 0 h):Zah pg Zdk [.slice a0 n0 c0 e0,.fn Zcm [v1x0]] h Q:=
 Zah.of_body kp (c:=cod fn) (fn:=fn) Go.Proofs.Tryz.func142 (by kernel_rfl) (by kernel_rfl) (Nat.le_of_ble_eq_true (by kernel_rfl))
  (cast (by kernel_rfl) ht)
end Zbm
namespace Znz
noncomputable abbrev fn:Func:=Go.Proofs.Tryz.f64
def kp:Zcu:=[]
noncomputable def C (p:List Nat):Code:=(cod fn).sub p
def KR (Q:QT):KT:=Zfi pg fn.results.toList Q
theorem call (a0x0:Pt) (n0x0 c0x0:Nat) (e0x0:Bool) (a0x1:Pt) (n0x1 c0x1:Nat) (e0x1:Bool) (h:Zaa) (Q:QT) (ht :
 Zco (h ++ [.cells Zad [.slice a0x0 n0x0 c0x0 e0x0,.slice a0x1 n0x1 c0x1 e0x1] false]) fun A=>Zcb (Zan A (.ptr (h.length,0)) 2) fun B=>Zag B fun B C=>xSl B fun B D E F=>Zag C fun C G=>xSl C fun C H I J=>Zbu G (Zah pg Ziw [.agg [.slice B D E F,.slice C H I J]] A fun A B=>
 Zbr A fun A=>bcase A (xSl (Zai B (.ptr (h.length,0 + 1))) fun A A C C=>bcase (decide (((((A:Nat):Int)):Int)≤10)) (xSl (Zai B (.ptr (h.length,0 + 1))) fun A C D E=>Zah pg Zeb [.slice A C D E,.fn Zcm [.ptr (h.length,0)]] B fun A C=>
 Zbr A fun A=>Q (.bool (!A)) C) (Q (.bool false) B)) (Q (.bool false) B))):Zah pg Zkj [.agg [.slice a0x0 n0x0 c0x0 e0x0,.slice a0x1 n0x1 c0x1 e0x1]] h Q:=
 Zah.of_body kp (c:=cod fn) (fn:=fn) Go.Proofs.Tryz.func64 (by kernel_rfl) (by kernel_rfl) (Nat.le_of_ble_eq_true (by kernel_rfl))
  (cast (by kernel_rfl) ht)
end Znz
namespace Zcw
noncomputable abbrev fn:Func:=Go.Proofs.Tryz.f107
def kp:Zcu:=[]
noncomputable def C (p:List Nat):Code:=(cod fn).sub p
def KR (Q:QT):KT:=Zfi pg fn.results.toList Q
theorem call (a0:Pt) (n0 c0:Nat) (e0:Bool) (v1x0:Zas) (h:Zaa) (Q:QT) (ht :
 Zah pg Zdk [.slice a0 n0 c0 e0,.fn Zcm [v1x0]] h fun A B=>
 Zck .i64 A fun A=>Q (.bool (decide ((A:Int) ≥ 0))) B):Zah pg Zeb [.slice a0 n0 c0 e0,.fn Zcm [v1x0]] h Q:=
 Zah.of_body kp (c:=cod fn) (fn:=fn) Go.Proofs.Tryz.func107 (by kernel_rfl) (by kernel_rfl) (Nat.le_of_ble_eq_true (by kernel_rfl))
  (cast (by kernel_rfl) ht)
end Zcw
namespace Zgd
noncomputable abbrev fn:Func:=Go.Proofs.Tryz.f66
def kp:Zcu:=[(3000002,[1,2]),(1000002,[1,6,7,8])]
noncomputable def C (p:List Nat):Code:=(cod fn).sub p
def KR (Q:QT):KT:=Zfi pg fn.results.toList Q
abbrev T2:=Nat→Nat→Pt→Nat→Nat→Bool→Int→Int→Zaa→Prop
def E2 (R2:T2) (env:Env) (h:Zaa):Prop:=Zci 1 env fun v env=>Zfc v fun a=>Zbi a fun i1 o1=>Zci 6 env fun v env=>xSl v fun a6 n6 c6 e6=>Zci 7 env fun v env=>Zez .i64 v fun x7=>Zci 8 env fun v env=>Zez .i64 v fun x8=>Zky env (R2 i1 o1 a6 n6 c6 e6 x7 x8 h)
theorem Zfx {R2:T2} {env:Env} {h:Zaa} (hi:E2 R2 env h):∃ i1,∃ o1,∃ a6,∃ n6,∃ c6,∃ e6,∃ x7,∃ x8,env=[(1,.ptr (i1,o1)),(6,.slice a6 n6 c6 e6),(7,.int .i64 x7),(8,.int .i64 x8)]∧R2 i1 o1 a6 n6 c6 e6 x7 x8 h:=by
 unfold E2 at hi
 have hi0:=hi
 clear hi
 obtain ⟨_,_,rfl,hi1⟩:=Zal hi0
 obtain ⟨a,rfl,hi2⟩:=Zbo hi1
 obtain ⟨i1,o1,rfl,hi3⟩:=Zbp hi2
 obtain ⟨_,_,rfl,hi4⟩:=Zal hi3
 obtain ⟨a6,n6,c6,e6,rfl,hi5⟩:=Zcp hi4
 obtain ⟨_,_,rfl,hi6⟩:=Zal hi5
 obtain ⟨x7,rfl,hi7⟩:=Zaz hi6
 obtain ⟨_,_,rfl,hi8⟩:=Zal hi7
 obtain ⟨x8,rfl,hi9⟩:=Zaz hi8
 obtain ⟨rfl,hi10⟩:=Zca hi9
 have hi:=hi10
 exact ⟨i1,o1,a6,n6,c6,e6,x7,x8,rfl,hi⟩
def K0 (Q:QT):KT:=andThen (fun env' h'=>(match kp.find 4000007 with | some ks=>Den pg fn.ntmps (C [1,1]) (env'.keep ks) h' (KR Q) | none=>den pg fn.ntmps kp (C [1,1]) env' h' (KR Q))) (KR Q)
def K1 (Q:QT):KT:=Zdg 0 (K0 Q)
def K2 (Q:QT):KT:=left kp 2 (K1 Q)
def K3 (Q:QT) (R2:T2):KT:=rnd ((kp.find 1000002).getD []) (E2 R2) (K2 Q)
def L2 (Q:QT) (i1 o1:Nat) (a6:Pt) (n6 c6:Nat) (e6:Bool) (x7 x8:Int) (h:Zaa):Prop:=Zfb (Den pg fn.ntmps (C [1,0,1,0,0])) ((kp.find 1000002).getD []) (K2 Q) [(1,.ptr (i1,o1)),(6,.slice a6 n6 c6 e6),(7,.int .i64 x7),(8,.int .i64 x8)] h
def A2x0 (Q:QT) (i1 o1:Nat) (h:Zaa):Prop:=At (K1 Q) (.exit 0) [(1,.ptr (i1,o1)),(2,.undef)] h
def L2t (Q:QT) (R2:T2) (i1 o1:Nat) (a6:Pt) (n6 c6:Nat) (e6:Bool) (x7 x8:Int) (h:Zaa):Prop:=
 bcase (decide ((x8:Int) < x7)) ((0≤(x8:Int)∧(x8:Int) < (n6:Nat))∧(Zbi a6 fun A B=>Zcb (Zan h (.ptr (A,B + (Int.toNat x8) * 3)) 3) fun A=>Zag A fun A B=>Zbn A fun A=>Zag B fun B C=>Zbn B fun B=>Zag C fun C D=>xSl C fun C E F G=>Zbu D (Zco (h ++ [.cells Zac [.str [],.str [],.slice none 0 0 true] false]) fun D=>Zbx (Zbb D (.ptr (h.length,0)) [.str A,.str B,.slice C E F G]) fun A=>Zcb (Zan A (.ptr (i1,o1)) 2) fun B=>Zag B fun B C=>xSl B fun B D E F=>Zag C fun C G=>xSl C fun C H I J=>Zbu G (Zcb (Zan A (.ptr (h.length,0)) 3) fun G=>Zag G fun G K=>Zbn G fun G=>Zag K fun K L=>Zbn K fun K=>Zag L fun L M=>xSl L fun L N O P=>Zbu M (Zah pg Zii [.agg [.slice B D E F,.slice C H I J],.agg [.str G,.str K,.slice L N O P]] A fun A B=>
 Zbr A fun A=>bcase (!A) (Q (.bool false) B) (R2 i1 o1 a6 n6 c6 e6 x7 (IntKind.wrap .i64 (x8 + 1)) B)))))) (A2x0 Q i1 o1 h)
theorem Zok (Q:QT) (R2:T2) (i1 o1:Nat) (a6:Pt) (n6 c6:Nat) (e6:Bool) (x7 x8:Int) (h:Zaa) (ht:L2t Q R2 i1 o1 a6 n6 c6 e6 x7 x8 h):Den pg fn.ntmps (C [1,0,1,0,0]) [(1,.ptr (i1,o1)),(6,.slice a6 n6 c6 e6),(7,.int .i64 x7),(8,.int .i64 x8)] h (K3 Q R2):=
 Zbf (kp:=kp) (cast (by kernel_rfl) ht)
theorem L2ind (Q:QT) (i1 o1:Nat) (a6:Pt) (n6 c6:Nat) (e6:Bool) (x7:Int) {G:Type} (J:G→Int→Zaa→Prop) (m:G→Nat)
 (hr:∀ (g:G) (x8:Int) (h:Zaa),J g x8 h→∀ (R2:T2),(∀ g' (x8:Int) (h:Zaa),m g' < m g→J g' x8 h→R2 i1 o1 a6 n6 c6 e6 x7 x8 h)→L2t Q R2 i1 o1 a6 n6 c6 e6 x7 x8 h)
 (g:G) (x8:Int) (h:Zaa) (hj:J g x8 h):L2 Q i1 o1 a6 n6 c6 e6 x7 x8 h:=by
 let P:=fun (K:Int→Zaa→Prop) i1' o1' a6' n6' c6' e6' x7' x8 h=>i1=i1'∧o1=o1'∧a6=a6'∧n6=n6'∧c6=c6'∧e6=e6'∧x7=x7'∧K x8 h
 refine Zfb.inv2 (fun g=>E2 (P (J g))) (fun g=>E2 (P fun x8 h=>∃ g',m g' < m g∧J g' x8 h)) m ?_ ?_ g ⟨rfl,rfl,rfl,rfl,rfl,rfl,rfl,hj⟩
 ·intro g env h hi
  obtain ⟨i1',o1',a6',n6',c6',e6',x7',x8,rfl,rfl,rfl,rfl,rfl,rfl,rfl,rfl,hj⟩:=Zfx hi
  exact Zok Q _ i1 o1 a6 n6 c6 e6 x7 x8 h (hr g x8 h hj (P fun x8 h=>∃ g',m g' < m g∧J g' x8 h) fun g' x8 h hlt hj=>⟨rfl,rfl,rfl,rfl,rfl,rfl,rfl,g',hlt,hj⟩)
 ·intro g env h hi
  obtain ⟨i1',o1',a6',n6',c6',e6',x7',x8,rfl,rfl,rfl,rfl,rfl,rfl,rfl,rfl,g',hlt,hj⟩:=Zfx hi
  exact ⟨g',hlt,rfl,rfl,rfl,rfl,rfl,rfl,rfl,hj⟩
theorem A2x0i (Q:QT) (i1 o1:Nat) (h:Zaa) (ht :
 xSl (Zai h (.ptr (i1,o1 + 0))) fun A B C D=>Zah pg Ziv [.slice A B C D] h fun A B=>
 Zbr A fun A=>bcase A (xSl (Zai B (.ptr (i1,o1 + 1))) fun A A C C=>Q (.bool (decide (((((A:Nat):Int)):Int)≤10))) B) (Q (.bool false) B)):A2x0 Q i1 o1 h:=
 At.mk (cast (by kernel_rfl) ht)
theorem call (a0x0:Pt) (n0x0 c0x0:Nat) (e0x0:Bool) (a0x1:Pt) (n0x1 c0x1:Nat) (e0x1:Bool) (h:Zaa) (Q:QT) (ht :
 Zco (h ++ [.cells Zad [.slice a0x0 n0x0 c0x0 e0x0,.slice a0x1 n0x1 c0x1 e0x1] false]) fun A=>xSl (Zai A (.ptr (h.length,0 + 1))) fun B C D E=>L2 Q h.length 0 B C D E (((C:Nat):Int)) 0 A):Zah pg Zie [.agg [.slice a0x0 n0x0 c0x0 e0x0,.slice a0x1 n0x1 c0x1 e0x1]] h Q:=
 Zah.of_body kp (c:=cod fn) (fn:=fn) Go.Proofs.Tryz.func66 (by kernel_rfl) (by kernel_rfl) (Nat.le_of_ble_eq_true (by kernel_rfl))
  (cast (by kernel_rfl) ht)
end Zgd
namespace Zsx
noncomputable abbrev fn:Func:=Go.Proofs.Tryz.f65
def kp:Zcu:=[]
noncomputable def C (p:List Nat):Code:=(cod fn).sub p
def KR (Q:QT):KT:=Zfi pg fn.results.toList Q
theorem call (a0x0:Pt) (n0x0 c0x0:Nat) (e0x0:Bool) (a0x1:Pt) (n0x1 c0x1:Nat) (e0x1:Bool) (x1x0 x1x1:List Nat) (h:Zaa) (Q:QT) (ht :
 Zco (h ++ [.cells Zad [.slice a0x0 n0x0 c0x0 e0x0,.slice a0x1 n0x1 c0x1 e0x1] false]) fun A=>Zco (A ++ [.cells Zae [.str x1x0,.str x1x1] false]) fun B=>xSl (Zai B (.ptr (h.length,0 + 0))) fun C D E F=>Zbn (Zai B (.ptr (A.length,0 + 0))) fun G=>Zah pg Zjg [.slice C D E F,.str G] B fun B C=>
 Zbr B fun B=>bcase B (Zbn (Zai C (.ptr (A.length,0 + 1))) fun A=>Zah pg Zek [.str A] C fun A B=>
 Zbr A fun A=>Q (.bool A) B) (Q (.bool false) C)):Zah pg Zpf [.agg [.slice a0x0 n0x0 c0x0 e0x0,.slice a0x1 n0x1 c0x1 e0x1],.agg [.str x1x0,.str x1x1]] h Q:=
 Zah.of_body kp (c:=cod fn) (fn:=fn) Go.Proofs.Tryz.func65 (by kernel_rfl) (by kernel_rfl) (Nat.le_of_ble_eq_true (by kernel_rfl))
  (cast (by kernel_rfl) ht)
end Zsx
namespace Ztx
noncomputable abbrev fn:Func:=Go.Proofs.Tryz.f67
def kp:Zcu:=[]
noncomputable def C (p:List Nat):Code:=(cod fn).sub p
def KR (Q:QT):KT:=Zfi pg fn.results.toList Q
theorem call (a0x0:Pt) (n0x0 c0x0:Nat) (e0x0:Bool) (a0x1:Pt) (n0x1 c0x1:Nat) (e0x1:Bool) (x1x0 x1x1:List Nat) (h:Zaa) (Q:QT) (ht :
 Zco (h ++ [.cells Zad [.slice a0x0 n0x0 c0x0 e0x0,.slice a0x1 n0x1 c0x1 e0x1] false]) fun A=>Zco (A ++ [.cells Zae [.str x1x0,.str x1x1] false]) fun B=>Zcb (Zan B (.ptr (h.length,0)) 2) fun C=>Zag C fun C D=>xSl C fun C E F G=>Zag D fun D H=>xSl D fun D I J K=>Zbu H (Zbn (Zai B (.ptr (A.length,0 + 0))) fun H=>Zah pg Zhc [.agg [.slice C E F G,.slice D I J K],.str H] B fun B C=>
 Zck .i64 B fun B=>bcase (decide ((B:Int) ≥ 0)) (Zbn (Zai C (.ptr (A.length,0 + 1))) fun A=>Zah pg Zfh [.str A] C fun A B=>
 Zbr A fun A=>Q (.bool A) B) (Q (.bool false) C))):Zah pg Zon [.agg [.slice a0x0 n0x0 c0x0 e0x0,.slice a0x1 n0x1 c0x1 e0x1],.agg [.str x1x0,.str x1x1]] h Q:=
 Zah.of_body kp (c:=cod fn) (fn:=fn) Go.Proofs.Tryz.func67 (by kernel_rfl) (by kernel_rfl) (Nat.le_of_ble_eq_true (by kernel_rfl))
  (cast (by kernel_rfl) ht)
end Ztx
namespace Zpx
noncomputable abbrev fn:Func:=Go.Proofs.Tryz.f28
def kp:Zcu:=[]
noncomputable def C (p:List Nat):Code:=(cod fn).sub p
def KR (Q:QT):KT:=Zfi pg fn.results.toList Q
theorem call (a0x0:Pt) (n0x0 c0x0:Nat) (e0x0:Bool) (a0x1:Pt) (n0x1 c0x1:Nat) (e0x1:Bool) (x1x0 x1x1:List Nat) (h:Zaa) (Q:QT) (ht :
 Zco (h ++ [.cells Zad [.slice a0x0 n0x0 c0x0 e0x0,.slice a0x1 n0x1 c0x1 e0x1] false]) fun A=>Zco (A ++ [.cells Zae [.str x1x0,.str x1x1] false]) fun B=>Zcb (Zan B (.ptr (h.length,0)) 2) fun C=>Zag C fun C D=>xSl C fun C E F G=>Zag D fun D H=>xSl D fun D I J K=>Zbu H (Zah pg Zie [.agg [.slice C E F G,.slice D I J K]] B fun B C=>
 Zbr B fun B=>bcase B (Zcb (Zan C (.ptr (h.length,0)) 2) fun B=>Zag B fun B D=>xSl B fun B E F G=>Zag D fun D H=>xSl D fun D I J K=>Zbu H (Zcb (Zan C (.ptr (A.length,0)) 2) fun A=>Zag A fun A H=>Zbn A fun A=>Zag H fun H L=>Zbn H fun H=>Zbu L (Zah pg Zon [.agg [.slice B E F G,.slice D I J K],.agg [.str A,.str H]] C fun A B=>
 Zbr A fun A=>Q (.bool A) B))) (Q (.bool false) C))):Zah pg Zdo [.agg [.slice a0x0 n0x0 c0x0 e0x0,.slice a0x1 n0x1 c0x1 e0x1],.agg [.str x1x0,.str x1x1]] h Q:=
 Zah.of_body kp (c:=cod fn) (fn:=fn) Go.Proofs.Tryz.func28 (by kernel_rfl) (by kernel_rfl) (Nat.le_of_ble_eq_true (by kernel_rfl))
  (cast (by kernel_rfl) ht)
end Zpx
end Go.Sim

set_option maxRecDepth 100000
set_option maxHeartbeats 0
set_option linter.unusedVariables false
namespace Go.Sim
open Go Go.RowKit
namespace Zee
noncomputable abbrev fn:Func:=Go.Proofs.Tryz.f111
def kp:Zcu:=[(4000003,[3,2]),(3000004,[4]),(1000004,[2,3,47,48,49]),(2000006,[80,49,48,47,2,3]),(4000008,[49,48,47,2,3])]
noncomputable def C (p:List Nat):Code:=(cod fn).sub p
def KR (Q:QT):KT:=Zfi pg fn.results.toList Q
abbrev T4:=Nat→Nat→Nat→Nat→Pt→Nat→Nat→Bool→Int→Int→Zaa→Prop
def E4 (R4:T4) (env:Env) (h:Zaa):Prop:=Zci 2 env fun v env=>Zfc v fun a=>Zbi a fun i2 o2=>Zci 3 env fun v env=>Zfc v fun a=>Zbi a fun i3 o3=>Zci 47 env fun v env=>xSl v fun a47 n47 c47 e47=>Zci 48 env fun v env=>Zez .i64 v fun x48=>Zci 49 env fun v env=>Zez .i64 v fun x49=>Zky env (R4 i2 o2 i3 o3 a47 n47 c47 e47 x48 x49 h)
theorem Zlb {R4:T4} {env:Env} {h:Zaa} (hi:E4 R4 env h):∃ i2,∃ o2,∃ i3,∃ o3,∃ a47,∃ n47,∃ c47,∃ e47,∃ x48,∃ x49,env=[(2,.ptr (i2,o2)),(3,.ptr (i3,o3)),(47,.slice a47 n47 c47 e47),(48,.int .i64 x48),(49,.int .i64 x49)]∧R4 i2 o2 i3 o3 a47 n47 c47 e47 x48 x49 h:=by
 unfold E4 at hi
 have hi0:=hi
 clear hi
 obtain ⟨_,_,rfl,hi1⟩:=Zal hi0
 obtain ⟨a,rfl,hi2⟩:=Zbo hi1
 obtain ⟨i2,o2,rfl,hi3⟩:=Zbp hi2
 obtain ⟨_,_,rfl,hi4⟩:=Zal hi3
 obtain ⟨a,rfl,hi5⟩:=Zbo hi4
 obtain ⟨i3,o3,rfl,hi6⟩:=Zbp hi5
 obtain ⟨_,_,rfl,hi7⟩:=Zal hi6
 obtain ⟨a47,n47,c47,e47,rfl,hi8⟩:=Zcp hi7
 obtain ⟨_,_,rfl,hi9⟩:=Zal hi8
 obtain ⟨x48,rfl,hi10⟩:=Zaz hi9
 obtain ⟨_,_,rfl,hi11⟩:=Zal hi10
 obtain ⟨x49,rfl,hi12⟩:=Zaz hi11
 obtain ⟨rfl,hi13⟩:=Zca hi12
 have hi:=hi13
 exact ⟨i2,o2,i3,o3,a47,n47,c47,e47,x48,x49,rfl,hi⟩
def K0 (Q:QT):KT:=andThen (fun env' h'=>(match kp.find 4000009 with | some ks=>Den pg fn.ntmps (C [1,1,1]) (env'.keep ks) h' (KR Q) | none=>den pg fn.ntmps kp (C [1,1,1]) env' h' (KR Q))) (KR Q)
def K1 (Q:QT):KT:=Zdg 0 (K0 Q)
def K2 (Q:QT):KT:=left kp 4 (K1 Q)
def K3 (Q:QT) (R4:T4):KT:=rnd ((kp.find 1000004).getD []) (E4 R4) (K2 Q)
def J3 (Q:QT) (i3 o3 i2 o2:Nat) (h:Zaa):Prop:=Den pg fn.ntmps (C [1,1]) [(3,.ptr (i3,o3)),(2,.ptr (i2,o2))] h (KR Q)
def L4 (Q:QT) (i2 o2 i3 o3:Nat) (a47:Pt) (n47 c47:Nat) (e47:Bool) (x48 x49:Int) (h:Zaa):Prop:=Zfb (Den pg fn.ntmps (C [1,1,0,1,0,0])) ((kp.find 1000004).getD []) (K2 Q) [(2,.ptr (i2,o2)),(3,.ptr (i3,o3)),(47,.slice a47 n47 c47 e47),(48,.int .i64 x48),(49,.int .i64 x49)] h
def J8 (Q:QT) (R4:T4) (x49 x48:Int) (a47:Pt) (n47 c47:Nat) (e47:Bool) (i2 o2 i3 o3:Nat) (h:Zaa):Prop:=Den pg fn.ntmps (C [1,1,0,1,0,0,1,1,1]) [(49,.int .i64 x49),(48,.int .i64 x48),(47,.slice a47 n47 c47 e47),(2,.ptr (i2,o2)),(3,.ptr (i3,o3))] h (K3 Q R4)
def Ycw (Q:QT) (h:Zaa):Prop:=At (K1 Q) (.exit 0) [(4,.undef)] h
theorem J3i (Q:QT) (i3 o3 i2 o2:Nat) (h:Zaa) (ht :
 xSl (Zai h (.ptr (i3,o3 + 2))) fun A B C D=>L4 Q i2 o2 i3 o3 A B C D (((B:Nat):Int)) 0 h):J3 Q i3 o3 i2 o2 h:=
 Zbf (kp:=kp) (cast (by kernel_rfl) ht)
def L4t (Q:QT) (R4:T4) (i2 o2 i3 o3:Nat) (a47:Pt) (n47 c47:Nat) (e47:Bool) (x48 x49:Int) (h:Zaa):Prop:=
 bcase (decide ((x49:Int) < x48)) ((0≤(x49:Int)∧(x49:Int) < (n47:Nat))∧(Zbi a47 fun A B=>Zcb (Zan h (.ptr (A,B + (Int.toNat x49) * 2)) 2) fun A=>Zag A fun A B=>Zbn A fun A=>Zag B fun B C=>Zbn B fun B=>Zbu C (Zco (h ++ [.cells Zae [.str [],.str []] false]) fun C=>Zbx (Zbb C (.ptr (h.length,0)) [.str A,.str B]) fun A=>Zcb (Zan A (.ptr (i2,o2)) 2) fun B=>Zag B fun B C=>xSl B fun B D E F=>Zag C fun C G=>xSl C fun C H I J=>Zbu G (Zbn (Zai A (.ptr (h.length,0 + 0))) fun G=>(Zan A (.ptr (i2,o2)) 2=Zan A (.ptr (i2,o2)) 2)∧Zah pg Zhc [.agg [.slice B D E F,.slice C H I J],.str G] A fun A B=>
 Zck .i64 A fun A=>bcase (decide ((A:Int) < 0)) ((Zan B (.ptr (i2,o2)) 2=Zan B (.ptr (i2,o2)) 2)∧(Zan B (.ptr (i2,o2)) 2=Zan B (.ptr (i2,o2)) 2)∧(Zan B (.ptr (i2,o2)) 2=Zan B (.ptr (i2,o2)) 2)∧(Zai B (.tup [])=Zai B (.tup []))∧(Zan B (.ptr (i2,o2)) 2=Zan B (.ptr (i2,o2)) 2)∧(Zai B (.tup [])=Zai B (.tup []))∧(Zan B (.ptr (i2,o2)) 2=Zan B (.ptr (i2,o2)) 2)∧(Zai B (.tup [])=Zai B (.tup []))∧(Zai B (.tup [])=Zai B (.tup []))∧(Zan B (.ptr (i2,o2)) 2=Zan B (.ptr (i2,o2)) 2)∧Q (.bool false) B) (Zbn (Zai B (.ptr (h.length,0 + 1))) fun A=>(Zan B (.ptr (i2,o2)) 2=Zan B (.ptr (i2,o2)) 2)∧Zah pg Zfh [.str A] B fun A C=>
 Zbr A fun A=>(Zan C (.ptr (i2,o2)) 2=Zan B (.ptr (i2,o2)) 2)∧bcase (!A) ((Zan C (.ptr (i2,o2)) 2=Zan C (.ptr (i2,o2)) 2)∧(Zai C (.tup [])=Zai C (.tup []))∧(Zan C (.ptr (i2,o2)) 2=Zan C (.ptr (i2,o2)) 2)∧(Zai C (.tup [])=Zai C (.tup []))∧(Zan C (.ptr (i2,o2)) 2=Zan C (.ptr (i2,o2)) 2)∧(Zai C (.tup [])=Zai C (.tup []))∧(Zai C (.tup [])=Zai C (.tup []))∧(Zan C (.ptr (i2,o2)) 2=Zan C (.ptr (i2,o2)) 2)∧Q (.bool false) C) (Zbn (Zai C (.ptr (h.length,0 + 1))) fun A=>(Zan C (.ptr (i2,o2)) 2=Zan C (.ptr (i2,o2)) 2)∧bcase (decide (((((List.length A:Nat):Int)):Int) > 20)) ((Zai C (.tup [])=Zai C (.tup []))∧(Zan C (.ptr (i2,o2)) 2=Zan C (.ptr (i2,o2)) 2)∧(Zai C (.tup [])=Zai C (.tup []))∧(Zan C (.ptr (i2,o2)) 2=Zan C (.ptr (i2,o2)) 2)∧(Zai C (.tup [])=Zai C (.tup []))∧(Zai C (.tup [])=Zai C (.tup []))∧(Zan C (.ptr (i2,o2)) 2=Zan C (.ptr (i2,o2)) 2)∧Q (.bool false) C) (Zbn (Zai C (.ptr (h.length,0 + 1))) fun A=>Zbn (Zai C (.ptr (i3,o3 + 0 + 1))) fun B=>Zah pg Zfw [.str A] C fun A D=>
 Zbn A fun A=>(Zai D (.ptr (i3,o3 + 0 + 1))=Zai C (.ptr (i3,o3 + 0 + 1)))∧(Zan D (.ptr (i2,o2)) 2=Zan C (.ptr (i2,o2)) 2)∧Zah pg Zfw [.str B] D fun B C=>
 Zbn B fun B=>(Zai C (.ptr (h.length,0 + 1))=Zai D (.ptr (h.length,0 + 1)))∧(Zan C (.ptr (i2,o2)) 2=Zan D (.ptr (i2,o2)) 2)∧Zah pg Zmh [.str A,.str B] C fun A B=>
 Zbr A fun A=>(Zai B (.ptr (i3,o3 + 0 + 1))=Zai C (.ptr (i3,o3 + 0 + 1)))∧(Zai B (.ptr (h.length,0 + 1))=Zai C (.ptr (h.length,0 + 1)))∧(Zan B (.ptr (i2,o2)) 2=Zan C (.ptr (i2,o2)) 2)∧bcase (!A) (Q (.bool false) B) (J8 Q R4 x49 x48 a47 n47 c47 e47 i2 o2 i3 o3 B)))))))) (Ycw Q h)
theorem Zxe (Q:QT) (R4:T4) (i2 o2 i3 o3:Nat) (a47:Pt) (n47 c47:Nat) (e47:Bool) (x48 x49:Int) (h:Zaa) (ht:L4t Q R4 i2 o2 i3 o3 a47 n47 c47 e47 x48 x49 h):Den pg fn.ntmps (C [1,1,0,1,0,0]) [(2,.ptr (i2,o2)),(3,.ptr (i3,o3)),(47,.slice a47 n47 c47 e47),(48,.int .i64 x48),(49,.int .i64 x49)] h (K3 Q R4):=
 Zbf (kp:=kp) (cast (by kernel_rfl) ht)
theorem L4ind (Q:QT) (i2 o2 i3 o3:Nat) (a47:Pt) (n47 c47:Nat) (e47:Bool) (x48:Int) {G:Type} (J:G→Int→Zaa→Prop) (m:G→Nat)
 (hr:∀ (g:G) (x49:Int) (h:Zaa),J g x49 h→∀ (R4:T4),(∀ g' (x49:Int) (h:Zaa),m g' < m g→J g' x49 h→R4 i2 o2 i3 o3 a47 n47 c47 e47 x48 x49 h)→L4t Q R4 i2 o2 i3 o3 a47 n47 c47 e47 x48 x49 h)
 (g:G) (x49:Int) (h:Zaa) (hj:J g x49 h):L4 Q i2 o2 i3 o3 a47 n47 c47 e47 x48 x49 h:=by
 let P:=fun (K:Int→Zaa→Prop) i2' o2' i3' o3' a47' n47' c47' e47' x48' x49 h=>i2=i2'∧o2=o2'∧i3=i3'∧o3=o3'∧a47=a47'∧n47=n47'∧c47=c47'∧e47=e47'∧x48=x48'∧K x49 h
 refine Zfb.inv2 (fun g=>E4 (P (J g))) (fun g=>E4 (P fun x49 h=>∃ g',m g' < m g∧J g' x49 h)) m ?_ ?_ g ⟨rfl,rfl,rfl,rfl,rfl,rfl,rfl,rfl,rfl,hj⟩
 ·intro g env h hi
  obtain ⟨i2',o2',i3',o3',a47',n47',c47',e47',x48',x49,rfl,rfl,rfl,rfl,rfl,rfl,rfl,rfl,rfl,rfl,hj⟩:=Zlb hi
  exact Zxe Q _ i2 o2 i3 o3 a47 n47 c47 e47 x48 x49 h (hr g x49 h hj (P fun x49 h=>∃ g',m g' < m g∧J g' x49 h) fun g' x49 h hlt hj=>⟨rfl,rfl,rfl,rfl,rfl,rfl,rfl,rfl,rfl,g',hlt,hj⟩)
 ·intro g env h hi
  obtain ⟨i2',o2',i3',o3',a47',n47',c47',e47',x48',x49,rfl,rfl,rfl,rfl,rfl,rfl,rfl,rfl,rfl,rfl,g',hlt,hj⟩:=Zlb hi
  exact ⟨g',hlt,rfl,rfl,rfl,rfl,rfl,rfl,rfl,rfl,rfl,hj⟩
theorem J8i (Q:QT) (R4:T4) (x49 x48:Int) (a47:Pt) (n47 c47:Nat) (e47:Bool) (i2 o2 i3 o3:Nat) (h:Zaa) (ht :
 R4 i2 o2 i3 o3 a47 n47 c47 e47 x48 (IntKind.wrap .i64 (x49 + 1)) h):J8 Q R4 x49 x48 a47 n47 c47 e47 i2 o2 i3 o3 h:=
 Zbf (kp:=kp) (cast (by kernel_rfl) ht)
theorem A4x0i (Q:QT) (h:Zaa) (ht :
 Q (.bool true) h):Ycw Q h:=
 At.mk (cast (by kernel_rfl) ht)
theorem call (a0x0:Pt) (n0x0 c0x0:Nat) (e0x0:Bool) (a0x1:Pt) (n0x1 c0x1:Nat) (e0x1:Bool) (x1x0 x1x1:List Nat) (a1x2:Pt) (n1x2 c1x2:Nat) (e1x2:Bool) (h:Zaa) (Q:QT) (ht :
 Zco (h ++ [.cells Zad [.slice a0x0 n0x0 c0x0 e0x0,.slice a0x1 n0x1 c0x1 e0x1] false]) fun A=>Zco (A ++ [.cells Zac [.str x1x0,.str x1x1,.slice a1x2 n1x2 c1x2 e1x2] false]) fun B=>xSl (Zai B (.ptr (h.length,0 + 0))) fun C D E F=>Zah pg Ziv [.slice C D E F] B fun B C=>
 Zbr B fun B=>bcase (!B) (Q (.bool false) C) (Zcb (Zan C (.ptr (h.length,0)) 2) fun B=>Zag B fun B D=>xSl B fun B E F G=>Zag D fun D H=>xSl D fun D I J K=>Zbu H (Zbn (Zai C (.ptr (A.length,0 + 0 + 0))) fun H=>Zah pg Zhc [.agg [.slice B E F G,.slice D I J K],.str H] C fun B C=>
 Zck .i64 B fun B=>bcase (decide ((B:Int) < 0)) (Q (.bool false) C) (Zbn (Zai C (.ptr (A.length,0 + 0 + 1))) fun B=>Zah pg Zfh [.str B] C fun B C=>
 Zbr B fun B=>bcase (!B) (Q (.bool false) C) (Zbn (Zai C (.ptr (A.length,0 + 0 + 1))) fun B=>bcase (decide (((((List.length B:Nat):Int)):Int) > 20)) (Q (.bool false) C) (Zbn (Zai C (.ptr (A.length,0 + 0 + 1))) fun B=>Zjs B 0 fun B=>Zah pg Zih [.int .u8 (((B:Nat):Int))] C fun B C=>
 Zbr B fun B=>bcase B (Q (.bool false) C) (xSl (Zai C (.ptr (A.length,0 + 2))) fun B B D D=>bcase (decide (((((B:Nat):Int)):Int) > 3)) (Q (.bool false) C) (J3 Q A.length 0 h.length 0 C)))))))):Zah pg Zii [.agg [.slice a0x0 n0x0 c0x0 e0x0,.slice a0x1 n0x1 c0x1 e0x1],.agg [.str x1x0,.str x1x1,.slice a1x2 n1x2 c1x2 e1x2]] h Q:=
 Zah.of_body kp (c:=cod fn) (fn:=fn) Go.Proofs.Tryz.func111 (by kernel_rfl) (by kernel_rfl) (Nat.le_of_ble_eq_true (by kernel_rfl))
  (cast (by kernel_rfl) ht)
end Zee
end Go.Sim

set_option maxRecDepth 100000
set_option maxHeartbeats 0
set_option linter.unusedVariables false
namespace Go.Sim
open Go Go.RowKit
namespace Zvk
noncomputable abbrev fn:Func:=Go.Proofs.Tryz.f45
def kp:Zcu:=[]
noncomputable def C (p:List Nat):Code:=(cod fn).sub p
def KR (Q:QT):KT:=Zfi pg fn.results.toList Q
theorem call (x0:List Nat) (h:Zaa) (Q:QT) (ht :
 bcase ((((List.length x0:Nat):Int):Int) == 1) (Zah pg Zfv [.str ([120,121,122,88,89,90]),.str x0] h fun A B=>
 Zbr A fun A=>Q (.bool A) B) (Q (.bool false) h)):Zah pg Zea [.str x0] h Q:=
 Zah.of_body kp (c:=cod fn) (fn:=fn) Go.Proofs.Tryz.func45 (by kernel_rfl) (by kernel_rfl) (Nat.le_of_ble_eq_true (by kernel_rfl))
  (cast (by kernel_rfl) ht)
end Zvk
namespace Znx
noncomputable abbrev fn:Func:=Go.Proofs.Tryz.f127
def kp:Zcu:=[]
noncomputable def C (p:List Nat):Code:=(cod fn).sub p
def KR (Q:QT):KT:=Zfi pg fn.results.toList Q
theorem call (x0:Int) (h:Zaa) (Q:QT) (ht :
 Zah pg Zhd [.str ([105,98,117,108,109,112,120,121,122,88,89,90]),.int .u8 x0] h fun A B=>
 Zck .i64 A fun A=>Q (.bool (decide ((A:Int) ≥ 6))) B):Zah pg Zih [.int .u8 x0] h Q:=
 Zah.of_body kp (c:=cod fn) (fn:=fn) Go.Proofs.Tryz.func127 (by kernel_rfl) (by kernel_rfl) (Nat.le_of_ble_eq_true (by kernel_rfl))
  (cast (by kernel_rfl) ht)
end Znx
namespace Zff
noncomputable abbrev fn:Func:=Go.Proofs.Tryz.f165
def kp:Zcu:=[(4000003,[0,1]),(3000005,[5]),(1000005,[0,1,5,22,23]),(2000007,[31,5,23,22,0,1]),(4000009,[23,22,0,1,5])]
noncomputable def C (p:List Nat):Code:=(cod fn).sub p
def KR (Q:QT):KT:=Zfi pg fn.results.toList Q
abbrev T5:=List Nat→List Nat→Int→Int→Int→Zaa→Prop
def E5 (R5:T5) (env:Env) (h:Zaa):Prop:=Zci 0 env fun v env=>Zbn v fun x0=>Zci 1 env fun v env=>Zbn v fun x1=>Zci 5 env fun v env=>Zez .i64 v fun x5=>Zci 22 env fun v env=>Zez .i64 v fun x22=>Zci 23 env fun v env=>Zez .i64 v fun x23=>Zky env (R5 x0 x1 x5 x22 x23 h)
theorem Zli {R5:T5} {env:Env} {h:Zaa} (hi:E5 R5 env h):∃ x0,∃ x1,∃ x5,∃ x22,∃ x23,env=[(0,.str x0),(1,.str x1),(5,.int .i64 x5),(22,.int .i64 x22),(23,.int .i64 x23)]∧R5 x0 x1 x5 x22 x23 h:=by
 unfold E5 at hi
 repeat ((first | (have k:=Zal hi; clear hi; obtain ⟨_,_,e,hi⟩:=k) | (have k:=Zaz hi; clear hi; obtain ⟨_,e,hi⟩:=k) | (have k:=Zhb hi; clear hi; obtain ⟨_,e,hi⟩:=k)); subst e)
 obtain ⟨rfl,hi⟩:=Zca hi
 exact ⟨_,_,_,_,_,rfl,hi⟩
def K0 (Q:QT):KT:=andThen (fun env' h'=>(match kp.find 4000010 with | some ks=>Den pg fn.ntmps (C [1,1,1,1]) (env'.keep ks) h' (KR Q) | none=>den pg fn.ntmps kp (C [1,1,1,1]) env' h' (KR Q))) (KR Q)
def K1 (Q:QT):KT:=Zdg 0 (K0 Q)
def K2 (Q:QT):KT:=left kp 5 (K1 Q)
def K3 (Q:QT) (R5:T5):KT:=rnd ((kp.find 1000005).getD []) (E5 R5) (K2 Q)
def J3 (Q:QT) (x0 x1:List Nat) (h:Zaa):Prop:=Den pg fn.ntmps (C [1,1]) [(0,.str x0),(1,.str x1)] h (KR Q)
def L5 (Q:QT) (x0 x1:List Nat) (x5 x22 x23:Int) (h:Zaa):Prop:=Zfb (Den pg fn.ntmps (C [1,1,1,0,1,0,0])) ((kp.find 1000005).getD []) (K2 Q) [(0,.str x0),(1,.str x1),(5,.int .i64 x5),(22,.int .i64 x22),(23,.int .i64 x23)] h
def J9 (Q:QT) (R5:T5) (x23 x22:Int) (x0 x1:List Nat) (x5:Int) (h:Zaa):Prop:=Den pg fn.ntmps (C [1,1,1,0,1,0,0,1,1,1]) [(23,.int .i64 x23),(22,.int .i64 x22),(0,.str x0),(1,.str x1),(5,.int .i64 x5)] h (K3 Q R5)
def A5x0 (Q:QT) (x5:Int) (h:Zaa):Prop:=At (K1 Q) (.exit 0) [(5,.int .i64 x5)] h
theorem J3i (Q:QT) (x0 x1:List Nat) (h:Zaa) (ht :
 L5 Q x0 x1 0 (((List.length x0:Nat):Int)) 0 h):J3 Q x0 x1 h:=
 Zbf (kp:=kp) (cast (by kernel_rfl) ht)
def L5t (Q:QT) (R5:T5) (x0 x1:List Nat) (x5 x22 x23:Int) (h:Zaa):Prop:=
 bcase (decide ((x23:Int) < x22)) (Zjs x0 x23 fun A=>Zjs x1 0 fun B=>bcase ((((A:Nat):Int):Int) == (((B:Nat):Int))) (J9 Q R5 x23 x22 x0 x1 (IntKind.wrap .i64 (x5 + 1)) h) (J9 Q R5 x23 x22 x0 x1 x5 h)) (A5x0 Q x5 h)
theorem Zxf (Q:QT) (R5:T5) (x0 x1:List Nat) (x5 x22 x23:Int) (h:Zaa) (ht:L5t Q R5 x0 x1 x5 x22 x23 h):Den pg fn.ntmps (C [1,1,1,0,1,0,0]) [(0,.str x0),(1,.str x1),(5,.int .i64 x5),(22,.int .i64 x22),(23,.int .i64 x23)] h (K3 Q R5):=
 Zbf (kp:=kp) (cast (by kernel_rfl) ht)
theorem L5ind (Q:QT) (x0 x1:List Nat) (x22:Int) {G:Type} (J:G→Int→Int→Zaa→Prop) (m:G→Nat)
 (hr:∀ (g:G) (x5 x23:Int) (h:Zaa),J g x5 x23 h→∀ (R5:T5),(∀ g' (x5 x23:Int) (h:Zaa),m g' < m g→J g' x5 x23 h→R5 x0 x1 x5 x22 x23 h)→L5t Q R5 x0 x1 x5 x22 x23 h)
 (g:G) (x5 x23:Int) (h:Zaa) (hj:J g x5 x23 h):L5 Q x0 x1 x5 x22 x23 h:=by
 let P:=fun (K:Int→Int→Zaa→Prop) x0' x1' x5 x22' x23 h=>x0=x0'∧x1=x1'∧x22=x22'∧K x5 x23 h
 refine Zfb.inv2 (fun g=>E5 (P (J g))) (fun g=>E5 (P fun x5 x23 h=>∃ g',m g' < m g∧J g' x5 x23 h)) m ?_ ?_ g ⟨rfl,rfl,rfl,hj⟩
 ·intro g env h hi
  obtain ⟨x0',x1',x5,x22',x23,rfl,rfl,rfl,rfl,hj⟩:=Zli hi
  exact Zxf Q _ x0 x1 x5 x22 x23 h (hr g x5 x23 h hj (P fun x5 x23 h=>∃ g',m g' < m g∧J g' x5 x23 h) fun g' x5 x23 h hlt hj=>⟨rfl,rfl,rfl,g',hlt,hj⟩)
 ·intro g env h hi
  obtain ⟨x0',x1',x5,x22',x23,rfl,rfl,rfl,rfl,g',hlt,hj⟩:=Zli hi
  exact ⟨g',hlt,rfl,rfl,rfl,hj⟩
theorem J9i (Q:QT) (R5:T5) (x23 x22:Int) (x0 x1:List Nat) (x5:Int) (h:Zaa) (ht :
 R5 x0 x1 x5 x22 (IntKind.wrap .i64 (x23 + 1)) h):J9 Q R5 x23 x22 x0 x1 x5 h:=
 Zbf (kp:=kp) (cast (by kernel_rfl) ht)
theorem A5x0i (Q:QT) (x5:Int) (h:Zaa) (ht :
 Q (.int .i64 x5) h):A5x0 Q x5 h:=
 At.mk (cast (by kernel_rfl) ht)
theorem call (x0 x1:List Nat) (h:Zaa) (Q:QT) (ht :
 Zah pg Zfh [.str x0] h fun A B=>
 Zbr A fun A=>bcase (!A) (Q (.int .i64 (-1)) B) (bcase (!((((List.length x1:Nat):Int):Int) == 1)) (Q (.int .i64 (-1)) B) (Zjs x1 0 fun A=>Zah pg Zih [.int .u8 (((A:Nat):Int))] B fun A B=>
 Zbr A fun A=>bcase (!A) (Q (.int .i64 (-1)) B) (J3 Q x0 x1 B)))):Zah pg Zme [.str x0,.str x1] h Q:=
 Zah.of_body kp (c:=cod fn) (fn:=fn) Go.Proofs.Tryz.func165 (by kernel_rfl) (by kernel_rfl) (Nat.le_of_ble_eq_true (by kernel_rfl))
  (cast (by kernel_rfl) ht)
end Zff
namespace Zgt
noncomputable abbrev fn:Func:=Go.Proofs.Tryz.f146
def kp:Zcu:=[(3000003,[3]),(1000003,[0,3,6,7,8]),(4000007,[8,7,6,0,3])]
noncomputable def C (p:List Nat):Code:=(cod fn).sub p
def KR (Q:QT):KT:=Zfi pg fn.results.toList Q
abbrev T3:=List Nat→List Nat→Pt→Nat→Nat→Bool→Int→Int→Zaa→Prop
def E3 (R3:T3) (env:Env) (h:Zaa):Prop:=Zci 0 env fun v env=>Zbn v fun x0=>Zci 3 env fun v env=>Zbn v fun x3=>Zci 6 env fun v env=>xSl v fun a6 n6 c6 e6=>Zci 7 env fun v env=>Zez .i64 v fun x7=>Zci 8 env fun v env=>Zez .i64 v fun x8=>Zky env (R3 x0 x3 a6 n6 c6 e6 x7 x8 h)
theorem Zfy {R3:T3} {env:Env} {h:Zaa} (hi:E3 R3 env h):∃ x0,∃ x3,∃ a6,∃ n6,∃ c6,∃ e6,∃ x7,∃ x8,env=[(0,.str x0),(3,.str x3),(6,.slice a6 n6 c6 e6),(7,.int .i64 x7),(8,.int .i64 x8)]∧R3 x0 x3 a6 n6 c6 e6 x7 x8 h:=by
 unfold E3 at hi
 repeat ((first | (have k:=Zal hi; clear hi; obtain ⟨_,_,e,hi⟩:=k) | (have k:=Zaz hi; clear hi; obtain ⟨_,e,hi⟩:=k) | (have k:=Zcp hi; clear hi; obtain ⟨_,_,_,_,e,hi⟩:=k) | (have k:=Zhb hi; clear hi; obtain ⟨_,e,hi⟩:=k)); subst e)
 obtain ⟨rfl,hi⟩:=Zca hi
 exact ⟨_,_,_,_,_,_,_,_,rfl,hi⟩
def K0 (Q:QT):KT:=andThen (fun env' h'=>(match kp.find 4000008 with | some ks=>Den pg fn.ntmps (C [1,1,1]) (env'.keep ks) h' (KR Q) | none=>den pg fn.ntmps kp (C [1,1,1]) env' h' (KR Q))) (KR Q)
def K1 (Q:QT):KT:=Zdg 0 (K0 Q)
def K2 (Q:QT):KT:=left kp 3 (K1 Q)
def K3 (Q:QT) (R3:T3):KT:=rnd ((kp.find 1000003).getD []) (E3 R3) (K2 Q)
def L3 (Q:QT) (x0 x3:List Nat) (a6:Pt) (n6 c6:Nat) (e6:Bool) (x7 x8:Int) (h:Zaa):Prop:=Zfb (Den pg fn.ntmps (C [1,1,0,1,0,0])) ((kp.find 1000003).getD []) (K2 Q) [(0,.str x0),(3,.str x3),(6,.slice a6 n6 c6 e6),(7,.int .i64 x7),(8,.int .i64 x8)] h
def J7 (Q:QT) (R3:T3) (x8 x7:Int) (a6:Pt) (n6 c6:Nat) (e6:Bool) (x0 x3:List Nat) (h:Zaa):Prop:=Den pg fn.ntmps (C [1,1,0,1,0,0,1,1,1]) [(8,.int .i64 x8),(7,.int .i64 x7),(6,.slice a6 n6 c6 e6),(0,.str x0),(3,.str x3)] h (K3 Q R3)
def Zsz (Q:QT) (x3:List Nat) (h:Zaa):Prop:=At (K1 Q) (.exit 0) [(3,.str x3)] h
def L3t (Q:QT) (R3:T3) (x0 x3:List Nat) (a6:Pt) (n6 c6:Nat) (e6:Bool) (x7 x8:Int) (h:Zaa):Prop:=
 bcase (decide ((x8:Int) < x7)) ((0≤(x8:Int)∧(x8:Int) < (n6:Nat))∧(Zbi a6 fun A B=>Zbn (Zai h (.ptr (A,B + (Int.toNat x8) * 1))) fun A=>Zah pg Zme [.str x0,.str A] h fun B C=>
 Zck .i64 B fun B=>bcase (decide ((B:Int) > 0)) (List.length x3 + List.length A≤9223372036854775807∧(J7 Q R3 x8 x7 a6 n6 c6 e6 x0 (x3 ++ A) C)) (J7 Q R3 x8 x7 a6 n6 c6 e6 x0 x3 C))) (Zsz Q x3 h)
theorem Zoo (Q:QT) (R3:T3) (x0 x3:List Nat) (a6:Pt) (n6 c6:Nat) (e6:Bool) (x7 x8:Int) (h:Zaa) (ht:L3t Q R3 x0 x3 a6 n6 c6 e6 x7 x8 h):Den pg fn.ntmps (C [1,1,0,1,0,0]) [(0,.str x0),(3,.str x3),(6,.slice a6 n6 c6 e6),(7,.int .i64 x7),(8,.int .i64 x8)] h (K3 Q R3):=
 Zbf (kp:=kp) (cast (by kernel_rfl) ht)
theorem L3ind (Q:QT) (x0:List Nat) (a6:Pt) (n6 c6:Nat) (e6:Bool) (x7:Int) {G:Type} (J:G→List Nat→Int→Zaa→Prop) (m:G→Nat)
 (hr:∀ (g:G) (x3:List Nat) (x8:Int) (h:Zaa),J g x3 x8 h→∀ (R3:T3),(∀ g' (x3:List Nat) (x8:Int) (h:Zaa),m g' < m g→J g' x3 x8 h→R3 x0 x3 a6 n6 c6 e6 x7 x8 h)→L3t Q R3 x0 x3 a6 n6 c6 e6 x7 x8 h)
 (g:G) (x3:List Nat) (x8:Int) (h:Zaa) (hj:J g x3 x8 h):L3 Q x0 x3 a6 n6 c6 e6 x7 x8 h:=by
 let P:=fun (K:List Nat→Int→Zaa→Prop) x0' x3 a6' n6' c6' e6' x7' x8 h=>x0=x0'∧a6=a6'∧n6=n6'∧c6=c6'∧e6=e6'∧x7=x7'∧K x3 x8 h
 refine Zfb.inv2 (fun g=>E3 (P (J g))) (fun g=>E3 (P fun x3 x8 h=>∃ g',m g' < m g∧J g' x3 x8 h)) m ?_ ?_ g ⟨rfl,rfl,rfl,rfl,rfl,rfl,hj⟩
 ·intro g env h hi
  obtain ⟨x0',x3,a6',n6',c6',e6',x7',x8,rfl,rfl,rfl,rfl,rfl,rfl,rfl,hj⟩:=Zfy hi
  exact Zoo Q _ x0 x3 a6 n6 c6 e6 x7 x8 h (hr g x3 x8 h hj (P fun x3 x8 h=>∃ g',m g' < m g∧J g' x3 x8 h) fun g' x3 x8 h hlt hj=>⟨rfl,rfl,rfl,rfl,rfl,rfl,g',hlt,hj⟩)
 ·intro g env h hi
  obtain ⟨x0',x3,a6',n6',c6',e6',x7',x8,rfl,rfl,rfl,rfl,rfl,rfl,rfl,g',hlt,hj⟩:=Zfy hi
  exact ⟨g',hlt,rfl,rfl,rfl,rfl,rfl,rfl,hj⟩
theorem J7i (Q:QT) (R3:T3) (x8 x7:Int) (a6:Pt) (n6 c6:Nat) (e6:Bool) (x0 x3:List Nat) (h:Zaa) (ht :
 R3 x0 x3 a6 n6 c6 e6 x7 (IntKind.wrap .i64 (x8 + 1)) h):J7 Q R3 x8 x7 a6 n6 c6 e6 x0 x3 h:=
 Zbf (kp:=kp) (cast (by kernel_rfl) ht)
theorem A3x0i (Q:QT) (x3:List Nat) (h:Zaa) (ht :
 Q (.str x3) h):Zsz Q x3 h:=
 At.mk (cast (by kernel_rfl) ht)
theorem call (x0:List Nat) (h:Zaa) (Q:QT) (ht :
 Zco (h ++ [.cells Zbg [.str [88],.str [89],.str [90],.str [120],.str [121],.str [122]] false]) fun A=>L3 Q x0 [] (h.length,0) 6 6 true (((6:Nat):Int)) 0 A):Zah pg Zfw [.str x0] h Q:=
 Zah.of_body kp (c:=cod fn) (fn:=fn) Go.Proofs.Tryz.func146 (by kernel_rfl) (by kernel_rfl) (Nat.le_of_ble_eq_true (by kernel_rfl))
  (cast (by kernel_rfl) ht)
end Zgt
namespace Zhg
noncomputable abbrev fn:Func:=Go.Proofs.Tryz.f145
def kp:Zcu:=[(3000002,[4]),(1000002,[0,1,7,8])]
noncomputable def C (p:List Nat):Code:=(cod fn).sub p
def KR (Q:QT):KT:=Zfi pg fn.results.toList Q
abbrev T2:=List Nat→List Nat→Int→Int→Zaa→Prop
def E2 (R2:T2) (env:Env) (h:Zaa):Prop:=Zci 0 env fun v env=>Zbn v fun x0=>Zci 1 env fun v env=>Zbn v fun x1=>Zci 7 env fun v env=>Zez .i64 v fun x7=>Zci 8 env fun v env=>Zez .i64 v fun x8=>Zky env (R2 x0 x1 x7 x8 h)
theorem Zfx {R2:T2} {env:Env} {h:Zaa} (hi:E2 R2 env h):∃ x0,∃ x1,∃ x7,∃ x8,env=[(0,.str x0),(1,.str x1),(7,.int .i64 x7),(8,.int .i64 x8)]∧R2 x0 x1 x7 x8 h:=by
 unfold E2 at hi
 repeat ((first | (have k:=Zal hi; clear hi; obtain ⟨_,_,e,hi⟩:=k) | (have k:=Zaz hi; clear hi; obtain ⟨_,e,hi⟩:=k) | (have k:=Zhb hi; clear hi; obtain ⟨_,e,hi⟩:=k)); subst e)
 obtain ⟨rfl,hi⟩:=Zca hi
 exact ⟨_,_,_,_,rfl,hi⟩
def K0 (Q:QT):KT:=andThen (fun env' h'=>(match kp.find 4000007 with | some ks=>Den pg fn.ntmps (C [1,1]) (env'.keep ks) h' (KR Q) | none=>den pg fn.ntmps kp (C [1,1]) env' h' (KR Q))) (KR Q)
def K1 (Q:QT):KT:=Zdg 0 (K0 Q)
def K2 (Q:QT):KT:=left kp 2 (K1 Q)
def K3 (Q:QT) (R2:T2):KT:=rnd ((kp.find 1000002).getD []) (E2 R2) (K2 Q)
def L2 (Q:QT) (x0 x1:List Nat) (x7 x8:Int) (h:Zaa):Prop:=Zfb (Den pg fn.ntmps (C [1,0,1,0,0])) ((kp.find 1000002).getD []) (K2 Q) [(0,.str x0),(1,.str x1),(7,.int .i64 x7),(8,.int .i64 x8)] h
def A2x0 (Q:QT) (h:Zaa):Prop:=At (K1 Q) (.exit 0) [(4,.undef)] h
def L2t (Q:QT) (R2:T2) (x0 x1:List Nat) (x7 x8:Int) (h:Zaa):Prop:=
 bcase (decide ((x8:Int) < x7)) (Zjs x0 x8 fun A=>Zah pg Zhd [.str x1,.int .u8 (((A:Nat):Int))] h fun A B=>
 Zck .i64 A fun A=>bcase (decide ((A:Int) < 0)) (Q (.bool false) B) (R2 x0 x1 x7 (IntKind.wrap .i64 (x8 + 1)) B)) (A2x0 Q h)
theorem Zok (Q:QT) (R2:T2) (x0 x1:List Nat) (x7 x8:Int) (h:Zaa) (ht:L2t Q R2 x0 x1 x7 x8 h):Den pg fn.ntmps (C [1,0,1,0,0]) [(0,.str x0),(1,.str x1),(7,.int .i64 x7),(8,.int .i64 x8)] h (K3 Q R2):=
 Zbf (kp:=kp) (cast (by kernel_rfl) ht)
theorem L2ind (Q:QT) (x0 x1:List Nat) (x7:Int) {G:Type} (J:G→Int→Zaa→Prop) (m:G→Nat)
 (hr:∀ (g:G) (x8:Int) (h:Zaa),J g x8 h→∀ (R2:T2),(∀ g' (x8:Int) (h:Zaa),m g' < m g→J g' x8 h→R2 x0 x1 x7 x8 h)→L2t Q R2 x0 x1 x7 x8 h)
 (g:G) (x8:Int) (h:Zaa) (hj:J g x8 h):L2 Q x0 x1 x7 x8 h:=by
 let P:=fun (K:Int→Zaa→Prop) x0' x1' x7' x8 h=>x0=x0'∧x1=x1'∧x7=x7'∧K x8 h
 refine Zfb.inv2 (fun g=>E2 (P (J g))) (fun g=>E2 (P fun x8 h=>∃ g',m g' < m g∧J g' x8 h)) m ?_ ?_ g ⟨rfl,rfl,rfl,hj⟩
 ·intro g env h hi
  obtain ⟨x0',x1',x7',x8,rfl,rfl,rfl,rfl,hj⟩:=Zfx hi
  exact Zok Q _ x0 x1 x7 x8 h (hr g x8 h hj (P fun x8 h=>∃ g',m g' < m g∧J g' x8 h) fun g' x8 h hlt hj=>⟨rfl,rfl,rfl,g',hlt,hj⟩)
 ·intro g env h hi
  obtain ⟨x0',x1',x7',x8,rfl,rfl,rfl,rfl,g',hlt,hj⟩:=Zfx hi
  exact ⟨g',hlt,rfl,rfl,rfl,hj⟩
theorem A2x0i (Q:QT) (h:Zaa) (ht :
 Q (.bool true) h):A2x0 Q h:=
 At.mk (cast (by kernel_rfl) ht)
theorem call (x0 x1:List Nat) (h:Zaa) (Q:QT) (ht :
 L2 Q x0 x1 (((List.length x0:Nat):Int)) 0 h):Zah pg Zmh [.str x0,.str x1] h Q:=
 Zah.of_body kp (c:=cod fn) (fn:=fn) Go.Proofs.Tryz.func145 (by kernel_rfl) (by kernel_rfl) (Nat.le_of_ble_eq_true (by kernel_rfl))
  (cast (by kernel_rfl) ht)
end Zhg
namespace Zcx
noncomputable abbrev fn:Func:=Go.Proofs.Tryz.f109
def kp:Zcu:=[(4000003,[3,2]),(3000004,[4]),(1000004,[2,3,48,49,50]),(4000008,[6,2,3,48,49,50]),(3000009,[50,49,48,2,3,4]),(1000009,[2,3,48,49,50,74,75,76]),(4000014,[50,49,48,2,3])]
noncomputable def C (p:List Nat):Code:=(cod fn).sub p
def KR (Q:QT):KT:=Zfi pg fn.results.toList Q
abbrev T4:=Nat→Nat→Nat→Nat→Pt→Nat→Nat→Bool→Int→Int→Zaa→Prop
def E4 (R4:T4) (env:Env) (h:Zaa):Prop:=Zci 2 env fun v env=>Zfc v fun a=>Zbi a fun i2 o2=>Zci 3 env fun v env=>Zfc v fun a=>Zbi a fun i3 o3=>Zci 48 env fun v env=>xSl v fun a48 n48 c48 e48=>Zci 49 env fun v env=>Zez .i64 v fun x49=>Zci 50 env fun v env=>Zez .i64 v fun x50=>Zky env (R4 i2 o2 i3 o3 a48 n48 c48 e48 x49 x50 h)
theorem Zlb {R4:T4} {env:Env} {h:Zaa} (hi:E4 R4 env h):∃ i2,∃ o2,∃ i3,∃ o3,∃ a48,∃ n48,∃ c48,∃ e48,∃ x49,∃ x50,env=[(2,.ptr (i2,o2)),(3,.ptr (i3,o3)),(48,.slice a48 n48 c48 e48),(49,.int .i64 x49),(50,.int .i64 x50)]∧R4 i2 o2 i3 o3 a48 n48 c48 e48 x49 x50 h:=by
 unfold E4 at hi
 have hi0:=hi
 clear hi
 obtain ⟨_,_,rfl,hi1⟩:=Zal hi0
 obtain ⟨a,rfl,hi2⟩:=Zbo hi1
 obtain ⟨i2,o2,rfl,hi3⟩:=Zbp hi2
 obtain ⟨_,_,rfl,hi4⟩:=Zal hi3
 obtain ⟨a,rfl,hi5⟩:=Zbo hi4
 obtain ⟨i3,o3,rfl,hi6⟩:=Zbp hi5
 obtain ⟨_,_,rfl,hi7⟩:=Zal hi6
 obtain ⟨a48,n48,c48,e48,rfl,hi8⟩:=Zcp hi7
 obtain ⟨_,_,rfl,hi9⟩:=Zal hi8
 obtain ⟨x49,rfl,hi10⟩:=Zaz hi9
 obtain ⟨_,_,rfl,hi11⟩:=Zal hi10
 obtain ⟨x50,rfl,hi12⟩:=Zaz hi11
 obtain ⟨rfl,hi13⟩:=Zca hi12
 have hi:=hi13
 exact ⟨i2,o2,i3,o3,a48,n48,c48,e48,x49,x50,rfl,hi⟩
abbrev T9:=Nat→Nat→Nat→Nat→Pt→Nat→Nat→Bool→Int→Int→Pt→Nat→Nat→Bool→Int→Int→Zaa→Prop
def E9 (R9:T9) (env:Env) (h:Zaa):Prop:=Zci 2 env fun v env=>Zfc v fun a=>Zbi a fun i2 o2=>Zci 3 env fun v env=>Zfc v fun a=>Zbi a fun i3 o3=>Zci 48 env fun v env=>xSl v fun a48 n48 c48 e48=>Zci 49 env fun v env=>Zez .i64 v fun x49=>Zci 50 env fun v env=>Zez .i64 v fun x50=>Zci 74 env fun v env=>xSl v fun a74 n74 c74 e74=>Zci 75 env fun v env=>Zez .i64 v fun x75=>Zci 76 env fun v env=>Zez .i64 v fun x76=>Zky env (R9 i2 o2 i3 o3 a48 n48 c48 e48 x49 x50 a74 n74 c74 e74 x75 x76 h)
theorem Ycj {R9:T9} {env:Env} {h:Zaa} (hi:E9 R9 env h):∃ i2,∃ o2,∃ i3,∃ o3,∃ a48,∃ n48,∃ c48,∃ e48,∃ x49,∃ x50,∃ a74,∃ n74,∃ c74,∃ e74,∃ x75,∃ x76,env=[(2,.ptr (i2,o2)),(3,.ptr (i3,o3)),(48,.slice a48 n48 c48 e48),(49,.int .i64 x49),(50,.int .i64 x50),(74,.slice a74 n74 c74 e74),(75,.int .i64 x75),(76,.int .i64 x76)]∧R9 i2 o2 i3 o3 a48 n48 c48 e48 x49 x50 a74 n74 c74 e74 x75 x76 h:=by
 unfold E9 at hi
 have hi0:=hi
 clear hi
 obtain ⟨_,_,rfl,hi1⟩:=Zal hi0
 obtain ⟨a,rfl,hi2⟩:=Zbo hi1
 obtain ⟨i2,o2,rfl,hi3⟩:=Zbp hi2
 obtain ⟨_,_,rfl,hi4⟩:=Zal hi3
 obtain ⟨a,rfl,hi5⟩:=Zbo hi4
 obtain ⟨i3,o3,rfl,hi6⟩:=Zbp hi5
 obtain ⟨_,_,rfl,hi7⟩:=Zal hi6
 obtain ⟨a48,n48,c48,e48,rfl,hi8⟩:=Zcp hi7
 obtain ⟨_,_,rfl,hi9⟩:=Zal hi8
 obtain ⟨x49,rfl,hi10⟩:=Zaz hi9
 obtain ⟨_,_,rfl,hi11⟩:=Zal hi10
 obtain ⟨x50,rfl,hi12⟩:=Zaz hi11
 obtain ⟨_,_,rfl,hi13⟩:=Zal hi12
 obtain ⟨a74,n74,c74,e74,rfl,hi14⟩:=Zcp hi13
 obtain ⟨_,_,rfl,hi15⟩:=Zal hi14
 obtain ⟨x75,rfl,hi16⟩:=Zaz hi15
 obtain ⟨_,_,rfl,hi17⟩:=Zal hi16
 obtain ⟨x76,rfl,hi18⟩:=Zaz hi17
 obtain ⟨rfl,hi19⟩:=Zca hi18
 have hi:=hi19
 exact ⟨i2,o2,i3,o3,a48,n48,c48,e48,x49,x50,a74,n74,c74,e74,x75,x76,rfl,hi⟩
def K0 (Q:QT):KT:=andThen (fun env' h'=>(match kp.find 4000015 with | some ks=>Den pg fn.ntmps (C [1,1,1]) (env'.keep ks) h' (KR Q) | none=>den pg fn.ntmps kp (C [1,1,1]) env' h' (KR Q))) (KR Q)
def K1 (Q:QT):KT:=Zdg 0 (K0 Q)
def K2 (Q:QT):KT:=left kp 4 (K1 Q)
def K3 (Q:QT) (R4:T4):KT:=rnd ((kp.find 1000004).getD []) (E4 R4) (K2 Q)
def K4 (Q:QT) (R4:T4):KT:=andThen (fun env' h'=>(match kp.find 4000014 with | some ks=>Den pg fn.ntmps (C [1,1,0,1,0,0,1,1,1]) (env'.keep ks) h' (K3 Q R4) | none=>den pg fn.ntmps kp (C [1,1,0,1,0,0,1,1,1]) env' h' (K3 Q R4))) (K3 Q R4)
def K5 (Q:QT) (R4:T4):KT:=Zdg 1 (K4 Q R4)
def K6 (Q:QT) (R4:T4):KT:=Zdg 2 (K5 Q R4)
def K7 (Q:QT) (R4:T4):KT:=left kp 9 (K6 Q R4)
def K8 (Q:QT) (R4:T4) (R9:T9):KT:=rnd ((kp.find 1000009).getD []) (E9 R9) (K7 Q R4)
def J3 (Q:QT) (i3 o3 i2 o2:Nat) (h:Zaa):Prop:=Den pg fn.ntmps (C [1,1]) [(3,.ptr (i3,o3)),(2,.ptr (i2,o2))] h (KR Q)
def L4 (Q:QT) (i2 o2 i3 o3:Nat) (a48:Pt) (n48 c48:Nat) (e48:Bool) (x49 x50:Int) (h:Zaa):Prop:=Zfb (Den pg fn.ntmps (C [1,1,0,1,0,0])) ((kp.find 1000004).getD []) (K2 Q) [(2,.ptr (i2,o2)),(3,.ptr (i3,o3)),(48,.slice a48 n48 c48 e48),(49,.int .i64 x49),(50,.int .i64 x50)] h
def J8 (Q:QT) (R4:T4) (i6 o6 i2 o2 i3 o3:Nat) (a48:Pt) (n48 c48:Nat) (e48:Bool) (x49 x50:Int) (h:Zaa):Prop:=Den pg fn.ntmps (C [1,1,0,1,0,0,1,1,0,0,1,1]) [(6,.ptr (i6,o6)),(2,.ptr (i2,o2)),(3,.ptr (i3,o3)),(48,.slice a48 n48 c48 e48),(49,.int .i64 x49),(50,.int .i64 x50)] h (K5 Q R4)
def Ycw (Q:QT) (h:Zaa):Prop:=At (K1 Q) (.exit 0) [(4,.undef)] h
def L9 (Q:QT) (R4:T4) (i2 o2 i3 o3:Nat) (a48:Pt) (n48 c48:Nat) (e48:Bool) (x49 x50:Int) (a74:Pt) (n74 c74:Nat) (e74:Bool) (x75 x76:Int) (h:Zaa):Prop:=Zfb (Den pg fn.ntmps (C [1,1,0,1,0,0,1,1,0,0,1,1,1,0,0])) ((kp.find 1000009).getD []) (K7 Q R4) [(2,.ptr (i2,o2)),(3,.ptr (i3,o3)),(48,.slice a48 n48 c48 e48),(49,.int .i64 x49),(50,.int .i64 x50),(74,.slice a74 n74 c74 e74),(75,.int .i64 x75),(76,.int .i64 x76)] h
def Yvv (Q:QT) (R4:T4) (x50 x49:Int) (a48:Pt) (n48 c48:Nat) (e48:Bool) (i2 o2 i3 o3:Nat) (h:Zaa):Prop:=At (K6 Q R4) (.exit 2) [(50,.int .i64 x50),(49,.int .i64 x49),(48,.slice a48 n48 c48 e48),(2,.ptr (i2,o2)),(3,.ptr (i3,o3)),(4,.undef)] h
def J14 (Q:QT) (R4:T4) (x50 x49:Int) (a48:Pt) (n48 c48:Nat) (e48:Bool) (i2 o2 i3 o3:Nat) (h:Zaa):Prop:=Den pg fn.ntmps (C [1,1,0,1,0,0,1,1,1]) [(50,.int .i64 x50),(49,.int .i64 x49),(48,.slice a48 n48 c48 e48),(2,.ptr (i2,o2)),(3,.ptr (i3,o3))] h (K3 Q R4)
theorem J3i (Q:QT) (i3 o3 i2 o2:Nat) (h:Zaa) (ht :
 xSl (Zai h (.ptr (i3,o3 + 2))) fun A B C D=>L4 Q i2 o2 i3 o3 A B C D (((B:Nat):Int)) 0 h):J3 Q i3 o3 i2 o2 h:=
 Zbf (kp:=kp) (cast (by kernel_rfl) ht)
def L4t (Q:QT) (R4:T4) (i2 o2 i3 o3:Nat) (a48:Pt) (n48 c48:Nat) (e48:Bool) (x49 x50:Int) (h:Zaa):Prop:=
 bcase (decide ((x50:Int) < x49)) ((0≤(x50:Int)∧(x50:Int) < (n48:Nat))∧(Zbi a48 fun A B=>Zcb (Zan h (.ptr (A,B + (Int.toNat x50) * 2)) 2) fun A=>Zag A fun A B=>Zbn A fun A=>Zag B fun B C=>Zbn B fun B=>Zbu C (Zco (h ++ [.cells Zae [.str [],.str []] false]) fun C=>Zbx (Zbb C (.ptr (h.length,0)) [.str A,.str B]) fun A=>xSl (Zai A (.ptr (i2,o2 + 0))) fun B C D E=>Zbn (Zai A (.ptr (h.length,0 + 0))) fun F=>Zah pg Zjg [.slice B C D E,.str F] A fun A B=>
 Zbr A fun A=>bcase (!A) (Q (.bool false) B) (Zbn (Zai B (.ptr (h.length,0 + 1))) fun A=>Zah pg Zek [.str A] B fun A B=>
 Zbr A fun A=>bcase (!A) (Q (.bool false) B) (Zbn (Zai B (.ptr (h.length,0 + 1))) fun A=>bcase (decide (((((List.length A:Nat):Int)):Int) > 20)) (Q (.bool false) B) (J8 Q R4 h.length 0 i2 o2 i3 o3 a48 n48 c48 e48 x49 x50 B)))))) (Ycw Q h)
theorem Zxe (Q:QT) (R4:T4) (i2 o2 i3 o3:Nat) (a48:Pt) (n48 c48:Nat) (e48:Bool) (x49 x50:Int) (h:Zaa) (ht:L4t Q R4 i2 o2 i3 o3 a48 n48 c48 e48 x49 x50 h):Den pg fn.ntmps (C [1,1,0,1,0,0]) [(2,.ptr (i2,o2)),(3,.ptr (i3,o3)),(48,.slice a48 n48 c48 e48),(49,.int .i64 x49),(50,.int .i64 x50)] h (K3 Q R4):=
 Zbf (kp:=kp) (cast (by kernel_rfl) ht)
theorem L4ind (Q:QT) (i2 o2 i3 o3:Nat) (a48:Pt) (n48 c48:Nat) (e48:Bool) (x49:Int) {G:Type} (J:G→Int→Zaa→Prop) (m:G→Nat)
 (hr:∀ (g:G) (x50:Int) (h:Zaa),J g x50 h→∀ (R4:T4),(∀ g' (x50:Int) (h:Zaa),m g' < m g→J g' x50 h→R4 i2 o2 i3 o3 a48 n48 c48 e48 x49 x50 h)→L4t Q R4 i2 o2 i3 o3 a48 n48 c48 e48 x49 x50 h)
 (g:G) (x50:Int) (h:Zaa) (hj:J g x50 h):L4 Q i2 o2 i3 o3 a48 n48 c48 e48 x49 x50 h:=by
 let P:=fun (K:Int→Zaa→Prop) i2' o2' i3' o3' a48' n48' c48' e48' x49' x50 h=>i2=i2'∧o2=o2'∧i3=i3'∧o3=o3'∧a48=a48'∧n48=n48'∧c48=c48'∧e48=e48'∧x49=x49'∧K x50 h
 refine Zfb.inv2 (fun g=>E4 (P (J g))) (fun g=>E4 (P fun x50 h=>∃ g',m g' < m g∧J g' x50 h)) m ?_ ?_ g ⟨rfl,rfl,rfl,rfl,rfl,rfl,rfl,rfl,rfl,hj⟩
 ·intro g env h hi
  obtain ⟨i2',o2',i3',o3',a48',n48',c48',e48',x49',x50,rfl,rfl,rfl,rfl,rfl,rfl,rfl,rfl,rfl,rfl,hj⟩:=Zlb hi
  exact Zxe Q _ i2 o2 i3 o3 a48 n48 c48 e48 x49 x50 h (hr g x50 h hj (P fun x50 h=>∃ g',m g' < m g∧J g' x50 h) fun g' x50 h hlt hj=>⟨rfl,rfl,rfl,rfl,rfl,rfl,rfl,rfl,rfl,g',hlt,hj⟩)
 ·intro g env h hi
  obtain ⟨i2',o2',i3',o3',a48',n48',c48',e48',x49',x50,rfl,rfl,rfl,rfl,rfl,rfl,rfl,rfl,rfl,rfl,g',hlt,hj⟩:=Zlb hi
  exact ⟨g',hlt,rfl,rfl,rfl,rfl,rfl,rfl,rfl,rfl,rfl,hj⟩
theorem J8i (Q:QT) (R4:T4) (i6 o6 i2 o2 i3 o3:Nat) (a48:Pt) (n48 c48:Nat) (e48:Bool) (x49 x50:Int) (h:Zaa) (ht :
 Zbn (Zai h (.ptr (i6,o6 + 1))) fun A=>Zah pg Zph [.str A] h fun A B=>
 xSl A fun A C D E=>L9 Q R4 i2 o2 i3 o3 a48 n48 c48 e48 x49 x50 A C D E (((C:Nat):Int)) 0 B):J8 Q R4 i6 o6 i2 o2 i3 o3 a48 n48 c48 e48 x49 x50 h:=
 Zbf (kp:=kp) (cast (by kernel_rfl) ht)
theorem A4x0i (Q:QT) (h:Zaa) (ht :
 Q (.bool true) h):Ycw Q h:=
 At.mk (cast (by kernel_rfl) ht)
def L9t (Q:QT) (R4:T4) (R9:T9) (i2 o2 i3 o3:Nat) (a48:Pt) (n48 c48:Nat) (e48:Bool) (x49 x50:Int) (a74:Pt) (n74 c74:Nat) (e74:Bool) (x75 x76:Int) (h:Zaa):Prop:=
 bcase (decide ((x76:Int) < x75)) ((0≤(x76:Int)∧(x76:Int) < (n74:Nat))∧(Zbi a74 fun A B=>Zbn (Zai h (.ptr (A,B + (Int.toNat x76) * 1))) fun A=>Zbn (Zai h (.ptr (i3,o3 + 0 + 1))) fun B=>Zah pg Zfv [.str B,.str A] h fun A B=>
 Zbr A fun A=>bcase (!A) (Q (.bool false) B) (R9 i2 o2 i3 o3 a48 n48 c48 e48 x49 x50 a74 n74 c74 e74 x75 (IntKind.wrap .i64 (x76 + 1)) B))) (Yvv Q R4 x50 x49 a48 n48 c48 e48 i2 o2 i3 o3 h)
theorem Ysh (Q:QT) (R4:T4) (R9:T9) (i2 o2 i3 o3:Nat) (a48:Pt) (n48 c48:Nat) (e48:Bool) (x49 x50:Int) (a74:Pt) (n74 c74:Nat) (e74:Bool) (x75 x76:Int) (h:Zaa) (ht:L9t Q R4 R9 i2 o2 i3 o3 a48 n48 c48 e48 x49 x50 a74 n74 c74 e74 x75 x76 h):Den pg fn.ntmps (C [1,1,0,1,0,0,1,1,0,0,1,1,1,0,0]) [(2,.ptr (i2,o2)),(3,.ptr (i3,o3)),(48,.slice a48 n48 c48 e48),(49,.int .i64 x49),(50,.int .i64 x50),(74,.slice a74 n74 c74 e74),(75,.int .i64 x75),(76,.int .i64 x76)] h (K8 Q R4 R9):=
 Zbf (kp:=kp) (cast (by kernel_rfl) ht)
theorem L9ind (Q:QT) (R4:T4) (i2 o2 i3 o3:Nat) (a48:Pt) (n48 c48:Nat) (e48:Bool) (x49 x50:Int) (a74:Pt) (n74 c74:Nat) (e74:Bool) (x75:Int) {G:Type} (J:G→Int→Zaa→Prop) (m:G→Nat)
 (hr:∀ (g:G) (x76:Int) (h:Zaa),J g x76 h→∀ (R9:T9),(∀ g' (x76:Int) (h:Zaa),m g' < m g→J g' x76 h→R9 i2 o2 i3 o3 a48 n48 c48 e48 x49 x50 a74 n74 c74 e74 x75 x76 h)→L9t Q R4 R9 i2 o2 i3 o3 a48 n48 c48 e48 x49 x50 a74 n74 c74 e74 x75 x76 h)
 (g:G) (x76:Int) (h:Zaa) (hj:J g x76 h):L9 Q R4 i2 o2 i3 o3 a48 n48 c48 e48 x49 x50 a74 n74 c74 e74 x75 x76 h:=by
 let P:=fun (K:Int→Zaa→Prop) i2' o2' i3' o3' a48' n48' c48' e48' x49' x50' a74' n74' c74' e74' x75' x76 h=>i2=i2'∧o2=o2'∧i3=i3'∧o3=o3'∧a48=a48'∧n48=n48'∧c48=c48'∧e48=e48'∧x49=x49'∧x50=x50'∧a74=a74'∧n74=n74'∧c74=c74'∧e74=e74'∧x75=x75'∧K x76 h
 refine Zfb.inv2 (fun g=>E9 (P (J g))) (fun g=>E9 (P fun x76 h=>∃ g',m g' < m g∧J g' x76 h)) m ?_ ?_ g ⟨rfl,rfl,rfl,rfl,rfl,rfl,rfl,rfl,rfl,rfl,rfl,rfl,rfl,rfl,rfl,hj⟩
 ·intro g env h hi
  obtain ⟨i2',o2',i3',o3',a48',n48',c48',e48',x49',x50',a74',n74',c74',e74',x75',x76,rfl,rfl,rfl,rfl,rfl,rfl,rfl,rfl,rfl,rfl,rfl,rfl,rfl,rfl,rfl,rfl,hj⟩:=Ycj hi
  exact Ysh Q R4 (P fun x76 h=>∃ g',m g' < m g∧J g' x76 h) i2 o2 i3 o3 a48 n48 c48 e48 x49 x50 a74 n74 c74 e74 x75 x76 h (hr g x76 h hj (P fun x76 h=>∃ g',m g' < m g∧J g' x76 h) fun g' x76 h hlt hj=>⟨rfl,rfl,rfl,rfl,rfl,rfl,rfl,rfl,rfl,rfl,rfl,rfl,rfl,rfl,rfl,g',hlt,hj⟩)
 ·intro g env h hi
  obtain ⟨i2',o2',i3',o3',a48',n48',c48',e48',x49',x50',a74',n74',c74',e74',x75',x76,rfl,rfl,rfl,rfl,rfl,rfl,rfl,rfl,rfl,rfl,rfl,rfl,rfl,rfl,rfl,rfl,g',hlt,hj⟩:=Ycj hi
  exact ⟨g',hlt,rfl,rfl,rfl,rfl,rfl,rfl,rfl,rfl,rfl,rfl,rfl,rfl,rfl,rfl,rfl,hj⟩
theorem A9x2i (Q:QT) (R4:T4) (x50 x49:Int) (a48:Pt) (n48 c48:Nat) (e48:Bool) (i2 o2 i3 o3:Nat) (h:Zaa) (ht :
 J14 Q R4 x50 x49 a48 n48 c48 e48 i2 o2 i3 o3 h):Yvv Q R4 x50 x49 a48 n48 c48 e48 i2 o2 i3 o3 h:=
 At.mk (cast (by kernel_rfl) ht)
theorem J14i (Q:QT) (R4:T4) (x50 x49:Int) (a48:Pt) (n48 c48:Nat) (e48:Bool) (i2 o2 i3 o3:Nat) (h:Zaa) (ht :
 R4 i2 o2 i3 o3 a48 n48 c48 e48 x49 (IntKind.wrap .i64 (x50 + 1)) h):J14 Q R4 x50 x49 a48 n48 c48 e48 i2 o2 i3 o3 h:=
 Zbf (kp:=kp) (cast (by kernel_rfl) ht)
theorem call (a0x0:Pt) (n0x0 c0x0:Nat) (e0x0:Bool) (a0x1:Pt) (n0x1 c0x1:Nat) (e0x1:Bool) (x1x0 x1x1:List Nat) (a1x2:Pt) (n1x2 c1x2:Nat) (e1x2:Bool) (h:Zaa) (Q:QT) (ht :
 Zco (h ++ [.cells Zad [.slice a0x0 n0x0 c0x0 e0x0,.slice a0x1 n0x1 c0x1 e0x1] false]) fun A=>Zco (A ++ [.cells Zac [.str x1x0,.str x1x1,.slice a1x2 n1x2 c1x2 e1x2] false]) fun B=>Zcb (Zan B (.ptr (h.length,0)) 2) fun C=>Zag C fun C D=>xSl C fun C E F G=>Zag D fun D H=>xSl D fun D I J K=>Zbu H (Zah pg Ziw [.agg [.slice C E F G,.slice D I J K]] B fun B C=>
 Zbr B fun B=>bcase (!B) (Q (.bool false) C) (xSl (Zai C (.ptr (h.length,0 + 0))) fun B D E F=>Zbn (Zai C (.ptr (A.length,0 + 0 + 0))) fun G=>Zah pg Zjg [.slice B D E F,.str G] C fun B C=>
 Zbr B fun B=>bcase (!B) (Q (.bool false) C) (Zbn (Zai C (.ptr (A.length,0 + 0 + 1))) fun B=>Zah pg Zek [.str B] C fun B C=>
 Zbr B fun B=>bcase (!B) (Q (.bool false) C) (Zbn (Zai C (.ptr (A.length,0 + 0 + 1))) fun B=>bcase (decide (((((List.length B:Nat):Int)):Int) > 20)) (Q (.bool false) C) (Zbn (Zai C (.ptr (A.length,0 + 0 + 1))) fun B=>Zah pg Zea [.str B] C fun B C=>
 Zbr B fun B=>bcase B (Q (.bool false) C) (xSl (Zai C (.ptr (A.length,0 + 2))) fun B B D D=>bcase (decide (((((B:Nat):Int)):Int) > 3)) (Q (.bool false) C) (J3 Q A.length 0 h.length 0 C)))))))):Zah pg Zij [.agg [.slice a0x0 n0x0 c0x0 e0x0,.slice a0x1 n0x1 c0x1 e0x1],.agg [.str x1x0,.str x1x1,.slice a1x2 n1x2 c1x2 e1x2]] h Q:=
 Zah.of_body kp (c:=cod fn) (fn:=fn) Go.Proofs.Tryz.func109 (by kernel_rfl) (by kernel_rfl) (Nat.le_of_ble_eq_true (by kernel_rfl))
  (cast (by kernel_rfl) ht)
end Zcx
end Go.Sim

set_option maxRecDepth 100000
set_option maxHeartbeats 0
set_option linter.unusedVariables false
namespace Go.Sim
open Go Go.RowKit
namespace Zdh
noncomputable abbrev fn:Func:=Go.Proofs.Tryz.f112
def kp:Zcu:=[(3000002,[0,2]),(1000002,[0,6,7,8]),(2000004,[31,4,0,3,6,7,8]),(4000006,[4,0,3,6,7,8]),(3000007,[8,7,6,0,2]),(1000007,[0,3,4,6,7,8,34,35]),(2000009,[65,35,34,0,3,4,8,7,6]),(4000011,[35,34,0,3,4,8,7,6]),(4000012,[8,7,6,0])]
noncomputable def C (p:List Nat):Code:=(cod fn).sub p
def KR (Q:QT):KT:=Zfi pg fn.results.toList Q
abbrev T2:=Pt→Nat→Nat→Bool→Pt→Nat→Nat→Bool→Int→Int→Zaa→Prop
def E2 (R2:T2) (env:Env) (h:Zaa):Prop:=Zci 0 env fun v env=>xSl v fun a0 n0 c0 e0=>Zci 6 env fun v env=>xSl v fun a6 n6 c6 e6=>Zci 7 env fun v env=>Zez .i64 v fun x7=>Zci 8 env fun v env=>Zez .i64 v fun x8=>Zky env (R2 a0 n0 c0 e0 a6 n6 c6 e6 x7 x8 h)
theorem Zfx {R2:T2} {env:Env} {h:Zaa} (hi:E2 R2 env h):∃ a0,∃ n0,∃ c0,∃ e0,∃ a6,∃ n6,∃ c6,∃ e6,∃ x7,∃ x8,env=[(0,.slice a0 n0 c0 e0),(6,.slice a6 n6 c6 e6),(7,.int .i64 x7),(8,.int .i64 x8)]∧R2 a0 n0 c0 e0 a6 n6 c6 e6 x7 x8 h:=by
 unfold E2 at hi
 repeat ((first | (have k:=Zal hi; clear hi; obtain ⟨_,_,e,hi⟩:=k) | (have k:=Zaz hi; clear hi; obtain ⟨_,e,hi⟩:=k) | (have k:=Zcp hi; clear hi; obtain ⟨_,_,_,_,e,hi⟩:=k)); subst e)
 obtain ⟨rfl,hi⟩:=Zca hi
 exact ⟨_,_,_,_,_,_,_,_,_,_,rfl,hi⟩
abbrev T7:=Pt→Nat→Nat→Bool→Int→Nat→Nat→Pt→Nat→Nat→Bool→Int→Int→Int→Int→Zaa→Prop
def E7 (R7:T7) (env:Env) (h:Zaa):Prop:=Zci 0 env fun v env=>xSl v fun a0 n0 c0 e0=>Zci 3 env fun v env=>Zez .i64 v fun x3=>Zci 4 env fun v env=>Zfc v fun a=>Zbi a fun i4 o4=>Zci 6 env fun v env=>xSl v fun a6 n6 c6 e6=>Zci 7 env fun v env=>Zez .i64 v fun x7=>Zci 8 env fun v env=>Zez .i64 v fun x8=>Zci 34 env fun v env=>Zez .i64 v fun x34=>Zci 35 env fun v env=>Zez .i64 v fun x35=>Zky env (R7 a0 n0 c0 e0 x3 i4 o4 a6 n6 c6 e6 x7 x8 x34 x35 h)
theorem Zvi {R7:T7} {env:Env} {h:Zaa} (hi:E7 R7 env h):∃ a0,∃ n0,∃ c0,∃ e0,∃ x3,∃ i4,∃ o4,∃ a6,∃ n6,∃ c6,∃ e6,∃ x7,∃ x8,∃ x34,∃ x35,env=[(0,.slice a0 n0 c0 e0),(3,.int .i64 x3),(4,.ptr (i4,o4)),(6,.slice a6 n6 c6 e6),(7,.int .i64 x7),(8,.int .i64 x8),(34,.int .i64 x34),(35,.int .i64 x35)]∧R7 a0 n0 c0 e0 x3 i4 o4 a6 n6 c6 e6 x7 x8 x34 x35 h:=by
 unfold E7 at hi
 have hi0:=hi
 clear hi
 obtain ⟨_,_,rfl,hi1⟩:=Zal hi0
 obtain ⟨a0,n0,c0,e0,rfl,hi2⟩:=Zcp hi1
 obtain ⟨_,_,rfl,hi3⟩:=Zal hi2
 obtain ⟨x3,rfl,hi4⟩:=Zaz hi3
 obtain ⟨_,_,rfl,hi5⟩:=Zal hi4
 obtain ⟨a,rfl,hi6⟩:=Zbo hi5
 obtain ⟨i4,o4,rfl,hi7⟩:=Zbp hi6
 obtain ⟨_,_,rfl,hi8⟩:=Zal hi7
 obtain ⟨a6,n6,c6,e6,rfl,hi9⟩:=Zcp hi8
 obtain ⟨_,_,rfl,hi10⟩:=Zal hi9
 obtain ⟨x7,rfl,hi11⟩:=Zaz hi10
 obtain ⟨_,_,rfl,hi12⟩:=Zal hi11
 obtain ⟨x8,rfl,hi13⟩:=Zaz hi12
 obtain ⟨_,_,rfl,hi14⟩:=Zal hi13
 obtain ⟨x34,rfl,hi15⟩:=Zaz hi14
 obtain ⟨_,_,rfl,hi16⟩:=Zal hi15
 obtain ⟨x35,rfl,hi17⟩:=Zaz hi16
 obtain ⟨rfl,hi18⟩:=Zca hi17
 have hi:=hi18
 exact ⟨a0,n0,c0,e0,x3,i4,o4,a6,n6,c6,e6,x7,x8,x34,x35,rfl,hi⟩
def K0 (Q:QT):KT:=andThen (fun env' h'=>(match kp.find 4000013 with | some ks=>Den pg fn.ntmps (C [1,1]) (env'.keep ks) h' (KR Q) | none=>den pg fn.ntmps kp (C [1,1]) env' h' (KR Q))) (KR Q)
def K1 (Q:QT):KT:=Zdg 0 (K0 Q)
def K2 (Q:QT):KT:=left kp 2 (K1 Q)
def K3 (Q:QT) (R2:T2):KT:=rnd ((kp.find 1000002).getD []) (E2 R2) (K2 Q)
def K4 (Q:QT) (R2:T2):KT:=andThen (fun env' h'=>(match kp.find 4000012 with | some ks=>Den pg fn.ntmps (C [1,0,1,0,0,1,1,1]) (env'.keep ks) h' (K3 Q R2) | none=>den pg fn.ntmps kp (C [1,0,1,0,0,1,1,1]) env' h' (K3 Q R2))) (K3 Q R2)
def K5 (Q:QT) (R2:T2):KT:=Zdg 1 (K4 Q R2)
def K6 (Q:QT) (R2:T2):KT:=Zdg 2 (K5 Q R2)
def K7 (Q:QT) (R2:T2):KT:=left kp 7 (K6 Q R2)
def K8 (Q:QT) (R2:T2) (R7:T7):KT:=rnd ((kp.find 1000007).getD []) (E7 R7) (K7 Q R2)
def L2 (Q:QT) (a0:Pt) (n0 c0:Nat) (e0:Bool) (a6:Pt) (n6 c6:Nat) (e6:Bool) (x7 x8:Int) (h:Zaa):Prop:=Zfb (Den pg fn.ntmps (C [1,0,1,0,0])) ((kp.find 1000002).getD []) (K2 Q) [(0,.slice a0 n0 c0 e0),(6,.slice a6 n6 c6 e6),(7,.int .i64 x7),(8,.int .i64 x8)] h
def J6 (Q:QT) (R2:T2) (i4 o4:Nat) (a0:Pt) (n0 c0:Nat) (e0:Bool) (x3:Int) (a6:Pt) (n6 c6:Nat) (e6:Bool) (x7 x8:Int) (h:Zaa):Prop:=Den pg fn.ntmps (C [1,0,1,0,0,1,1,0,0,1,1]) [(4,.ptr (i4,o4)),(0,.slice a0 n0 c0 e0),(3,.int .i64 x3),(6,.slice a6 n6 c6 e6),(7,.int .i64 x7),(8,.int .i64 x8)] h (K5 Q R2)
def A2x0 (Q:QT) (a0:Pt) (n0 c0:Nat) (e0:Bool) (h:Zaa):Prop:=At (K1 Q) (.exit 0) [(0,.slice a0 n0 c0 e0),(2,.undef)] h
def L7 (Q:QT) (R2:T2) (a0:Pt) (n0 c0:Nat) (e0:Bool) (x3:Int) (i4 o4:Nat) (a6:Pt) (n6 c6:Nat) (e6:Bool) (x7 x8 x34 x35:Int) (h:Zaa):Prop:=Zfb (Den pg fn.ntmps (C [1,0,1,0,0,1,1,0,0,1,1,1,0,0])) ((kp.find 1000007).getD []) (K7 Q R2) [(0,.slice a0 n0 c0 e0),(3,.int .i64 x3),(4,.ptr (i4,o4)),(6,.slice a6 n6 c6 e6),(7,.int .i64 x7),(8,.int .i64 x8),(34,.int .i64 x34),(35,.int .i64 x35)] h
def J11 (Q:QT) (R2:T2) (R7:T7) (x35 x34:Int) (a0:Pt) (n0 c0:Nat) (e0:Bool) (x3:Int) (i4 o4:Nat) (x8 x7:Int) (a6:Pt) (n6 c6:Nat) (e6:Bool) (h:Zaa):Prop:=Den pg fn.ntmps (C [1,0,1,0,0,1,1,0,0,1,1,1,0,0,1,1,1]) [(35,.int .i64 x35),(34,.int .i64 x34),(0,.slice a0 n0 c0 e0),(3,.int .i64 x3),(4,.ptr (i4,o4)),(8,.int .i64 x8),(7,.int .i64 x7),(6,.slice a6 n6 c6 e6)] h (K8 Q R2 R7)
def Ytu (Q:QT) (R2:T2) (x8 x7:Int) (a6:Pt) (n6 c6:Nat) (e6:Bool) (a0:Pt) (n0 c0:Nat) (e0:Bool) (h:Zaa):Prop:=At (K6 Q R2) (.exit 2) [(8,.int .i64 x8),(7,.int .i64 x7),(6,.slice a6 n6 c6 e6),(0,.slice a0 n0 c0 e0),(2,.undef)] h
def J12 (Q:QT) (R2:T2) (x8 x7:Int) (a6:Pt) (n6 c6:Nat) (e6:Bool) (a0:Pt) (n0 c0:Nat) (e0:Bool) (h:Zaa):Prop:=Den pg fn.ntmps (C [1,0,1,0,0,1,1,1]) [(8,.int .i64 x8),(7,.int .i64 x7),(6,.slice a6 n6 c6 e6),(0,.slice a0 n0 c0 e0)] h (K3 Q R2)
def L2t (Q:QT) (R2:T2) (a0:Pt) (n0 c0:Nat) (e0:Bool) (a6:Pt) (n6 c6:Nat) (e6:Bool) (x7 x8:Int) (h:Zaa):Prop:=
 bcase (decide ((x8:Int) < x7)) ((0≤(x8:Int)∧(x8:Int) < (n6:Nat))∧(Zbi a6 fun A B=>Zcb (Zan h (.ptr (A,B + (Int.toNat x8) * 2)) 2) fun A=>Zag A fun A B=>Zbn A fun A=>Zag B fun B C=>Zbn B fun B=>Zbu C (Zco (h ++ [.cells Zbh [.str [],.str []] false]) fun C=>Zbx (Zbb C (.ptr (h.length,0)) [.str A,.str B]) fun A=>Zbn (Zai A (.ptr (h.length,0 + 0))) fun B=>Zah pg Zis [.str B] A fun A B=>
 Zbr A fun A=>bcase (!A) ((Zai B (.tup [])=Zai B (.tup []))∧Q (.bool false) B) (bcase (decide ((x8:Int) > 0)) ((0≤(IntKind.wrap .i64 (x8 - 1):Int)∧(IntKind.wrap .i64 (x8 - 1):Int) < (n0:Nat))∧(Zbi a0 fun A C=>Zbn (Zai B (.ptr (A,C + (Int.toNat (IntKind.wrap .i64 (x8 - 1))) * 2 + 0))) fun D=>Zbn (Zai B (.ptr (h.length,0 + 0))) fun E=>(Zai B (.ptr (A,C + (Int.toNat (IntKind.wrap .i64 (x8 - 1))) * 2 + 0))=Zai B (.ptr (A,C + (Int.toNat (IntKind.wrap .i64 (x8 - 1))) * 2 + 0)))∧bcase (!Zfj D E) (Q (.bool false) B) (J6 Q R2 h.length 0 a0 n0 c0 e0 x8 a6 n6 c6 e6 x7 x8 B))) ((Zai B (.tup [])=Zai B (.tup []))∧J6 Q R2 h.length 0 a0 n0 c0 e0 x8 a6 n6 c6 e6 x7 x8 B))))) (A2x0 Q a0 n0 c0 e0 h)
theorem Zok (Q:QT) (R2:T2) (a0:Pt) (n0 c0:Nat) (e0:Bool) (a6:Pt) (n6 c6:Nat) (e6:Bool) (x7 x8:Int) (h:Zaa) (ht:L2t Q R2 a0 n0 c0 e0 a6 n6 c6 e6 x7 x8 h):Den pg fn.ntmps (C [1,0,1,0,0]) [(0,.slice a0 n0 c0 e0),(6,.slice a6 n6 c6 e6),(7,.int .i64 x7),(8,.int .i64 x8)] h (K3 Q R2):=
 Zbf (kp:=kp) (cast (by kernel_rfl) ht)
theorem L2ind (Q:QT) (a0:Pt) (n0 c0:Nat) (e0:Bool) (a6:Pt) (n6 c6:Nat) (e6:Bool) (x7:Int) {G:Type} (J:G→Int→Zaa→Prop) (m:G→Nat)
 (hr:∀ (g:G) (x8:Int) (h:Zaa),J g x8 h→∀ (R2:T2),(∀ g' (x8:Int) (h:Zaa),m g' < m g→J g' x8 h→R2 a0 n0 c0 e0 a6 n6 c6 e6 x7 x8 h)→L2t Q R2 a0 n0 c0 e0 a6 n6 c6 e6 x7 x8 h)
 (g:G) (x8:Int) (h:Zaa) (hj:J g x8 h):L2 Q a0 n0 c0 e0 a6 n6 c6 e6 x7 x8 h:=by
 let P:=fun (K:Int→Zaa→Prop) a0' n0' c0' e0' a6' n6' c6' e6' x7' x8 h=>a0=a0'∧n0=n0'∧c0=c0'∧e0=e0'∧a6=a6'∧n6=n6'∧c6=c6'∧e6=e6'∧x7=x7'∧K x8 h
 refine Zfb.inv2 (fun g=>E2 (P (J g))) (fun g=>E2 (P fun x8 h=>∃ g',m g' < m g∧J g' x8 h)) m ?_ ?_ g ⟨rfl,rfl,rfl,rfl,rfl,rfl,rfl,rfl,rfl,hj⟩
 ·intro g env h hi
  obtain ⟨a0',n0',c0',e0',a6',n6',c6',e6',x7',x8,rfl,rfl,rfl,rfl,rfl,rfl,rfl,rfl,rfl,rfl,hj⟩:=Zfx hi
  exact Zok Q _ a0 n0 c0 e0 a6 n6 c6 e6 x7 x8 h (hr g x8 h hj (P fun x8 h=>∃ g',m g' < m g∧J g' x8 h) fun g' x8 h hlt hj=>⟨rfl,rfl,rfl,rfl,rfl,rfl,rfl,rfl,rfl,g',hlt,hj⟩)
 ·intro g env h hi
  obtain ⟨a0',n0',c0',e0',a6',n6',c6',e6',x7',x8,rfl,rfl,rfl,rfl,rfl,rfl,rfl,rfl,rfl,rfl,g',hlt,hj⟩:=Zfx hi
  exact ⟨g',hlt,rfl,rfl,rfl,rfl,rfl,rfl,rfl,rfl,rfl,hj⟩
theorem J6i (Q:QT) (R2:T2) (i4 o4:Nat) (a0:Pt) (n0 c0:Nat) (e0:Bool) (x3:Int) (a6:Pt) (n6 c6:Nat) (e6:Bool) (x7 x8:Int) (h:Zaa) (ht :
 Zbn (Zai h (.ptr (i4,o4 + 1))) fun A=>L7 Q R2 a0 n0 c0 e0 x3 i4 o4 a6 n6 c6 e6 x7 x8 (((List.length A:Nat):Int)) 0 h):J6 Q R2 i4 o4 a0 n0 c0 e0 x3 a6 n6 c6 e6 x7 x8 h:=
 Zbf (kp:=kp) (cast (by kernel_rfl) ht)
theorem A2x0i (Q:QT) (a0:Pt) (n0 c0:Nat) (e0:Bool) (h:Zaa) (ht :
 Zah pg Zoq [.int .i64 (((n0:Nat):Int)),.int .i64 1,.int .i64 4] h fun A B=>
 Zbr A fun A=>Q (.bool A) B):A2x0 Q a0 n0 c0 e0 h:=
 At.mk (cast (by kernel_rfl) ht)
def L7t (Q:QT) (R2:T2) (R7:T7) (a0:Pt) (n0 c0:Nat) (e0:Bool) (x3:Int) (i4 o4:Nat) (a6:Pt) (n6 c6:Nat) (e6:Bool) (x7 x8 x34 x35:Int) (h:Zaa):Prop:=
 bcase (decide ((x35:Int) < x34)) (Zkm a0 n0 c0 e0 2 none (some (.int .i64 x3)) none fun A=>xSl A fun A B C D=>Zbn (Zai h (.ptr (i4,o4 + 1))) fun E=>(0≤(x35:Int)∧(x35:Int)≤IntKind.wrap .i64 (x35 + 1)∧(IntKind.wrap .i64 (x35 + 1):Int)≤(List.length E:Nat))∧(Zah pg Zhc [.agg [.slice A B C D,.slice none 0 0 true],.str (sub E x35 (IntKind.wrap .i64 (x35 + 1)))] h fun A B=>
 Zck .i64 A fun A=>bcase (decide ((A:Int) < 0)) ((Zai B (.tup [])=Zai B (.tup []))∧Q (.bool false) B) (bcase (decide ((x35:Int) > 0)) (Zbn (Zai B (.ptr (i4,o4 + 1))) fun A=>Zjs A (IntKind.wrap .i64 (x35 - 1)) fun A=>Zbn (Zai B (.ptr (i4,o4 + 1))) fun C=>(Zai B (.ptr (i4,o4 + 1))=Zai B (.ptr (i4,o4 + 1)))∧Zjs C x35 fun C=>bcase (decide (((((A:Nat):Int)):Int) ≥ (((C:Nat):Int)))) (Q (.bool false) B) (J11 Q R2 R7 x35 x34 a0 n0 c0 e0 x3 i4 o4 x8 x7 a6 n6 c6 e6 B)) ((Zai B (.tup [])=Zai B (.tup []))∧J11 Q R2 R7 x35 x34 a0 n0 c0 e0 x3 i4 o4 x8 x7 a6 n6 c6 e6 B)))) (Ytu Q R2 x8 x7 a6 n6 c6 e6 a0 n0 c0 e0 h)
theorem Ykm (Q:QT) (R2:T2) (R7:T7) (a0:Pt) (n0 c0:Nat) (e0:Bool) (x3:Int) (i4 o4:Nat) (a6:Pt) (n6 c6:Nat) (e6:Bool) (x7 x8 x34 x35:Int) (h:Zaa) (ht:L7t Q R2 R7 a0 n0 c0 e0 x3 i4 o4 a6 n6 c6 e6 x7 x8 x34 x35 h):Den pg fn.ntmps (C [1,0,1,0,0,1,1,0,0,1,1,1,0,0]) [(0,.slice a0 n0 c0 e0),(3,.int .i64 x3),(4,.ptr (i4,o4)),(6,.slice a6 n6 c6 e6),(7,.int .i64 x7),(8,.int .i64 x8),(34,.int .i64 x34),(35,.int .i64 x35)] h (K8 Q R2 R7):=
 Zbf (kp:=kp) (cast (by kernel_rfl) ht)
theorem L7ind (Q:QT) (R2:T2) (a0:Pt) (n0 c0:Nat) (e0:Bool) (x3:Int) (i4 o4:Nat) (a6:Pt) (n6 c6:Nat) (e6:Bool) (x7 x8 x34:Int) {G:Type} (J:G→Int→Zaa→Prop) (m:G→Nat)
 (hr:∀ (g:G) (x35:Int) (h:Zaa),J g x35 h→∀ (R7:T7),(∀ g' (x35:Int) (h:Zaa),m g' < m g→J g' x35 h→R7 a0 n0 c0 e0 x3 i4 o4 a6 n6 c6 e6 x7 x8 x34 x35 h)→L7t Q R2 R7 a0 n0 c0 e0 x3 i4 o4 a6 n6 c6 e6 x7 x8 x34 x35 h)
 (g:G) (x35:Int) (h:Zaa) (hj:J g x35 h):L7 Q R2 a0 n0 c0 e0 x3 i4 o4 a6 n6 c6 e6 x7 x8 x34 x35 h:=by
 let P:=fun (K:Int→Zaa→Prop) a0' n0' c0' e0' x3' i4' o4' a6' n6' c6' e6' x7' x8' x34' x35 h=>a0=a0'∧n0=n0'∧c0=c0'∧e0=e0'∧x3=x3'∧i4=i4'∧o4=o4'∧a6=a6'∧n6=n6'∧c6=c6'∧e6=e6'∧x7=x7'∧x8=x8'∧x34=x34'∧K x35 h
 refine Zfb.inv2 (fun g=>E7 (P (J g))) (fun g=>E7 (P fun x35 h=>∃ g',m g' < m g∧J g' x35 h)) m ?_ ?_ g ⟨rfl,rfl,rfl,rfl,rfl,rfl,rfl,rfl,rfl,rfl,rfl,rfl,rfl,rfl,hj⟩
 ·intro g env h hi
  obtain ⟨a0',n0',c0',e0',x3',i4',o4',a6',n6',c6',e6',x7',x8',x34',x35,rfl,rfl,rfl,rfl,rfl,rfl,rfl,rfl,rfl,rfl,rfl,rfl,rfl,rfl,rfl,hj⟩:=Zvi hi
  exact Ykm Q R2 (P fun x35 h=>∃ g',m g' < m g∧J g' x35 h) a0 n0 c0 e0 x3 i4 o4 a6 n6 c6 e6 x7 x8 x34 x35 h (hr g x35 h hj (P fun x35 h=>∃ g',m g' < m g∧J g' x35 h) fun g' x35 h hlt hj=>⟨rfl,rfl,rfl,rfl,rfl,rfl,rfl,rfl,rfl,rfl,rfl,rfl,rfl,rfl,g',hlt,hj⟩)
 ·intro g env h hi
  obtain ⟨a0',n0',c0',e0',x3',i4',o4',a6',n6',c6',e6',x7',x8',x34',x35,rfl,rfl,rfl,rfl,rfl,rfl,rfl,rfl,rfl,rfl,rfl,rfl,rfl,rfl,rfl,g',hlt,hj⟩:=Zvi hi
  exact ⟨g',hlt,rfl,rfl,rfl,rfl,rfl,rfl,rfl,rfl,rfl,rfl,rfl,rfl,rfl,rfl,hj⟩
theorem J11i (Q:QT) (R2:T2) (R7:T7) (x35 x34:Int) (a0:Pt) (n0 c0:Nat) (e0:Bool) (x3:Int) (i4 o4:Nat) (x8 x7:Int) (a6:Pt) (n6 c6:Nat) (e6:Bool) (h:Zaa) (ht :
 R7 a0 n0 c0 e0 x3 i4 o4 a6 n6 c6 e6 x7 x8 x34 (IntKind.wrap .i64 (x35 + 1)) h):J11 Q R2 R7 x35 x34 a0 n0 c0 e0 x3 i4 o4 x8 x7 a6 n6 c6 e6 h:=
 Zbf (kp:=kp) (cast (by kernel_rfl) ht)
theorem A7x2i (Q:QT) (R2:T2) (x8 x7:Int) (a6:Pt) (n6 c6:Nat) (e6:Bool) (a0:Pt) (n0 c0:Nat) (e0:Bool) (h:Zaa) (ht :
 J12 Q R2 x8 x7 a6 n6 c6 e6 a0 n0 c0 e0 h):Ytu Q R2 x8 x7 a6 n6 c6 e6 a0 n0 c0 e0 h:=
 At.mk (cast (by kernel_rfl) ht)
theorem J12i (Q:QT) (R2:T2) (x8 x7:Int) (a6:Pt) (n6 c6:Nat) (e6:Bool) (a0:Pt) (n0 c0:Nat) (e0:Bool) (h:Zaa) (ht :
 R2 a0 n0 c0 e0 a6 n6 c6 e6 x7 (IntKind.wrap .i64 (x8 + 1)) h):J12 Q R2 x8 x7 a6 n6 c6 e6 a0 n0 c0 e0 h:=
 Zbf (kp:=kp) (cast (by kernel_rfl) ht)
theorem call (a0:Pt) (n0 c0:Nat) (e0:Bool) (h:Zaa) (Q:QT) (ht :
 L2 Q a0 n0 c0 e0 a0 n0 c0 e0 (((n0:Nat):Int)) 0 h):Zah pg Ziv [.slice a0 n0 c0 e0] h Q:=
 Zah.of_body kp (c:=cod fn) (fn:=fn) Go.Proofs.Tryz.func112 (by kernel_rfl) (by kernel_rfl) (Nat.le_of_ble_eq_true (by kernel_rfl))
  (cast (by kernel_rfl) ht)
end Zdh
end Go.Sim
