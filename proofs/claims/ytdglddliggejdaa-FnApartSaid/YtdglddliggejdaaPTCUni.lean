/- A part of the proof of a statement of this seat: see the text that holds the theorem. No condition. -/
import Derived.Test.YtdglddliggejdaaNm
set_option linter.unusedVariables false
set_option linter.unusedSimpArgs false
set_option linter.all false
set_option maxRecDepth 100000
set_option maxHeartbeats 0
set_option linter.unusedVariables false
namespace Go.Sim
open Go Go.RowKit
namespace Zet
noncomputable abbrev fn:Func:=Go.Proofs.Try.f154
def kp:Zcr:=[(3000005,[0,3]),(1000005,[0,3,20,21,22]),(2000009,[2])]
noncomputable def C (p:List Nat):Code:=(cod fn).sub p
def KR (Q:QT):KT:=Zhe pg fn.results.toList Q
abbrev T5:=Pt→Pt→Nat→Nat→Bool→Pt→Nat→Nat→Bool→Int→Int→Zaa→Prop
def E5 (R5:T5) (env:Env) (h:Zaa):Prop:=Zcq 0 env fun v env=>Zei v fun a0=>Zcq 3 env fun v env=>xSl v fun a3 n3 c3 e3=>Zcq 20 env fun v env=>xSl v fun a20 n20 c20 e20=>Zcq 21 env fun v env=>Zhh .i64 v fun x21=>Zcq 22 env fun v env=>Zhh .i64 v fun x22=>Znu env (R5 a0 a3 n3 c3 e3 a20 n20 c20 e20 x21 x22 h)
theorem Zks {R5:T5} {env:Env} {h:Zaa} (hi:E5 R5 env h):∃ a0,∃ a3,∃ n3,∃ c3,∃ e3,∃ a20,∃ n20,∃ c20,∃ e20,∃ x21,∃ x22,env=[(0,.ptr a0),(3,.slice a3 n3 c3 e3),(20,.slice a20 n20 c20 e20),(21,.int .i64 x21),(22,.int .i64 x22)]∧R5 a0 a3 n3 c3 e3 a20 n20 c20 e20 x21 x22 h:=by
 unfold E5 at hi
 repeat ((first | (have k:=Zam hi; clear hi; obtain ⟨_,_,e,hi⟩:=k) | (have k:=Zbi hi; clear hi; obtain ⟨_,e,hi⟩:=k) | (have k:=Zdz hi; clear hi; obtain ⟨_,_,_,_,e,hi⟩:=k) | (have k:=Zbl hi; clear hi; obtain ⟨_,e,hi⟩:=k)); subst e)
 obtain ⟨rfl,hi⟩:=Zbx hi
 exact ⟨_,_,_,_,_,_,_,_,_,_,_,rfl,hi⟩
def K0 (Q:QT):KT:=andThen (fun env' h'=>(match kp.find 4000009 with | some ks=>Den pg fn.ntmps (C [1,1,1,1]) (env'.keep ks) h' (KR Q) | none=>den pg fn.ntmps kp (C [1,1,1,1]) env' h' (KR Q))) (KR Q)
def K1 (Q:QT):KT:=Zdv 0 (K0 Q)
def K2 (Q:QT):KT:=left kp 5 (K1 Q)
def K3 (Q:QT) (R5:T5):KT:=rnd ((kp.find 1000005).getD []) (E5 R5) (K2 Q)
def L5 (Q:QT) (a0 a3:Pt) (n3 c3:Nat) (e3:Bool) (a20:Pt) (n20 c20:Nat) (e20:Bool) (x21 x22:Int) (h:Zaa):Prop:=Zgo (Den pg fn.ntmps (C [1,1,1,0,1,0,0])) ((kp.find 1000005).getD []) (K2 Q) [(0,.ptr a0),(3,.slice a3 n3 c3 e3),(20,.slice a20 n20 c20 e20),(21,.int .i64 x21),(22,.int .i64 x22)] h
def A5x0 (Q:QT) (a0 a3:Pt) (n3 c3:Nat) (e3:Bool) (h:Zaa):Prop:=At (K1 Q) (.exit 0) [(0,.ptr a0),(3,.slice a3 n3 c3 e3)] h
def L5t (Q:QT) (R5:T5) (a0 a3:Pt) (n3 c3:Nat) (e3:Bool) (a20:Pt) (n20 c20:Nat) (e20:Bool) (x21 x22:Int) (h:Zaa):Prop:=
 bcase (decide ((x22:Int) < x21)) ((0≤(x22:Int)∧(x22:Int) < (n20:Nat))∧(Zaw a20 fun A B=>Zei (Zaj h (.ptr (A,B + (Int.toNat x22) * 1))) fun A=>Zac pg Zfr [.ptr A] h fun A B=>
 Zde A fun A=>Zec (B ++ [.cells Zbw [.str A] false]) fun A=>Zdt pg Zoe A (.slice a3 n3 c3 e3) (.slice (B.length,0) 1 1 true) fun A B=>xSl A fun A C D E=>R5 a0 A C D E a20 n20 c20 e20 x21 (IntKind.wrap .i64 (x22 + 1)) B)) (A5x0 Q a0 a3 n3 c3 e3 h)
theorem Zxn (Q:QT) (R5:T5) (a0 a3:Pt) (n3 c3:Nat) (e3:Bool) (a20:Pt) (n20 c20:Nat) (e20:Bool) (x21 x22:Int) (h:Zaa) (ht:L5t Q R5 a0 a3 n3 c3 e3 a20 n20 c20 e20 x21 x22 h):Den pg fn.ntmps (C [1,1,1,0,1,0,0]) [(0,.ptr a0),(3,.slice a3 n3 c3 e3),(20,.slice a20 n20 c20 e20),(21,.int .i64 x21),(22,.int .i64 x22)] h (K3 Q R5):=
 Zaz (kp:=kp) (cast (by kernel_rfl) ht)
theorem L5ind (Q:QT) (a0 a20:Pt) (n20 c20:Nat) (e20:Bool) (x21:Int) {G:Type} (J:G→Pt→Nat→Nat→Bool→Int→Zaa→Prop) (m:G→Nat)
 (hr:∀ (g:G) (a3:Pt) (n3 c3:Nat) (e3:Bool) (x22:Int) (h:Zaa),J g a3 n3 c3 e3 x22 h→∀ (R5:T5),(∀ g' (a3:Pt) (n3 c3:Nat) (e3:Bool) (x22:Int) (h:Zaa),m g' < m g→J g' a3 n3 c3 e3 x22 h→R5 a0 a3 n3 c3 e3 a20 n20 c20 e20 x21 x22 h)→L5t Q R5 a0 a3 n3 c3 e3 a20 n20 c20 e20 x21 x22 h)
 (g:G) (a3:Pt) (n3 c3:Nat) (e3:Bool) (x22:Int) (h:Zaa) (hj:J g a3 n3 c3 e3 x22 h):L5 Q a0 a3 n3 c3 e3 a20 n20 c20 e20 x21 x22 h:=by
 let P:=fun (K:Pt→Nat→Nat→Bool→Int→Zaa→Prop) a0' a3 n3 c3 e3 a20' n20' c20' e20' x21' x22 h=>a0=a0'∧a20=a20'∧n20=n20'∧c20=c20'∧e20=e20'∧x21=x21'∧K a3 n3 c3 e3 x22 h
 refine Zgo.inv2 (fun g=>E5 (P (J g))) (fun g=>E5 (P fun a3 n3 c3 e3 x22 h=>∃ g',m g' < m g∧J g' a3 n3 c3 e3 x22 h)) m ?_ ?_ g ⟨rfl,rfl,rfl,rfl,rfl,rfl,hj⟩
 ·intro g env h hi
  obtain ⟨a0',a3,n3,c3,e3,a20',n20',c20',e20',x21',x22,rfl,rfl,rfl,rfl,rfl,rfl,rfl,hj⟩:=Zks hi
  exact Zxn Q _ a0 a3 n3 c3 e3 a20 n20 c20 e20 x21 x22 h (hr g a3 n3 c3 e3 x22 h hj (P fun a3 n3 c3 e3 x22 h=>∃ g',m g' < m g∧J g' a3 n3 c3 e3 x22 h) fun g' a3 n3 c3 e3 x22 h hlt hj=>⟨rfl,rfl,rfl,rfl,rfl,rfl,g',hlt,hj⟩)
 ·intro g env h hi
  obtain ⟨a0',a3,n3,c3,e3,a20',n20',c20',e20',x21',x22,rfl,rfl,rfl,rfl,rfl,rfl,rfl,g',hlt,hj⟩:=Zks hi
  exact ⟨g',hlt,rfl,rfl,rfl,rfl,rfl,rfl,hj⟩
theorem A5x0i (Q:QT) (a0 a3:Pt) (n3 c3:Nat) (e3:Bool) (h:Zaa) (ht :
 Zaw a0 fun A B=>Zde (Zaj h (.ptr (A,B + 0))) fun C=>List.length C + List.length [40]≤9223372036854775807∧(Zac pg Ziy [.slice a3 n3 c3 e3,.str [44]] h fun D E=>
 Zde D fun D=>(Zaj E (.ptr (A,B + 0))=Zaj h (.ptr (A,B + 0)))∧List.length (C ++ [40]) + List.length D≤9223372036854775807∧(List.length ((C ++ [40]) ++ D) + List.length [41]≤9223372036854775807∧(Q (.str (((C ++ [40]) ++ D) ++ [41])) E)))):A5x0 Q a0 a3 n3 c3 e3 h:=
 At.mk (cast (by kernel_rfl) ht)
theorem call (a0:Pt) (h:Zaa) (Q:QT) (ht :
 Zaw a0 fun A B=>xSl (Zaj h (.ptr (A,B + 1))) fun A A B B=>bcase ((((A:Nat):Int):Int) == 0) (Zaw a0 fun A B=>Zde (Zaj h (.ptr (A,B + 0))) fun A=>Q (.str A) h) (Zec (h ++ [.cells Zbw [] false]) fun A=>Zaw a0 fun B C=>xSl (Zaj A (.ptr (B,C + 1))) fun B C D E=>L5 Q a0 (h.length,0) 0 0 true B C D E (((C:Nat):Int)) 0 A)):Zac pg Zfr [.ptr a0] h Q:=
 Zac.of_body kp (c:=cod fn) (fn:=fn) Go.Proofs.Try.func154 (by kernel_rfl) (by kernel_rfl) (Nat.le_of_ble_eq_true (by kernel_rfl))
  (cast (by kernel_rfl) ht)
end Zet
namespace Zeq
noncomputable abbrev fn:Func:=Go.Proofs.Try.f100
def kp:Zcr:=[(3000003,[1,3]),(1000003,[1,3,11,12,13]),(2000005,[13,12,11,3,1]),(4000009,[3])]
noncomputable def C (p:List Nat):Code:=(cod fn).sub p
def KR (Q:QT):KT:=Zhe pg fn.results.toList Q
abbrev T3:=Nat→Nat→List Nat→Pt→Nat→Nat→Bool→Int→Int→Zaa→Prop
def E3 (R3:T3) (env:Env) (h:Zaa):Prop:=Zcq 1 env fun v env=>Zei v fun a=>Zaw a fun i1 o1=>Zcq 3 env fun v env=>Zde v fun x3=>Zcq 11 env fun v env=>xSl v fun a11 n11 c11 e11=>Zcq 12 env fun v env=>Zhh .i64 v fun x12=>Zcq 13 env fun v env=>Zhh .i64 v fun x13=>Znu env (R3 i1 o1 x3 a11 n11 c11 e11 x12 x13 h)
theorem Zko {R3:T3} {env:Env} {h:Zaa} (hi:E3 R3 env h):∃ i1,∃ o1,∃ x3,∃ a11,∃ n11,∃ c11,∃ e11,∃ x12,∃ x13,env=[(1,.ptr (i1,o1)),(3,.str x3),(11,.slice a11 n11 c11 e11),(12,.int .i64 x12),(13,.int .i64 x13)]∧R3 i1 o1 x3 a11 n11 c11 e11 x12 x13 h:=by
 unfold E3 at hi
 have hi0:=hi
 clear hi
 obtain ⟨_,_,rfl,hi1⟩:=Zam hi0
 obtain ⟨a,rfl,hi2⟩:=Zbl hi1
 obtain ⟨i1,o1,rfl,hi3⟩:=Zbp hi2
 obtain ⟨_,_,rfl,hi4⟩:=Zam hi3
 obtain ⟨x3,rfl,hi5⟩:=Zia hi4
 obtain ⟨_,_,rfl,hi6⟩:=Zam hi5
 obtain ⟨a11,n11,c11,e11,rfl,hi7⟩:=Zdz hi6
 obtain ⟨_,_,rfl,hi8⟩:=Zam hi7
 obtain ⟨x12,rfl,hi9⟩:=Zbi hi8
 obtain ⟨_,_,rfl,hi10⟩:=Zam hi9
 obtain ⟨x13,rfl,hi11⟩:=Zbi hi10
 obtain ⟨rfl,hi12⟩:=Zbx hi11
 have hi:=hi12
 exact ⟨i1,o1,x3,a11,n11,c11,e11,x12,x13,rfl,hi⟩
def K0 (Q:QT):KT:=andThen (fun env' h'=>(match kp.find 4000007 with | some ks=>Den pg fn.ntmps (C [1,1,1]) (env'.keep ks) h' (KR Q) | none=>den pg fn.ntmps kp (C [1,1,1]) env' h' (KR Q))) (KR Q)
def K1 (Q:QT):KT:=Zdv 0 (K0 Q)
def K2 (Q:QT):KT:=left kp 3 (K1 Q)
def K3 (Q:QT) (R3:T3):KT:=rnd ((kp.find 1000003).getD []) (E3 R3) (K2 Q)
def L3 (Q:QT) (i1 o1:Nat) (x3:List Nat) (a11:Pt) (n11 c11:Nat) (e11:Bool) (x12 x13:Int) (h:Zaa):Prop:=Zgo (Den pg fn.ntmps (C [1,1,0,1,0,0])) ((kp.find 1000003).getD []) (K2 Q) [(1,.ptr (i1,o1)),(3,.str x3),(11,.slice a11 n11 c11 e11),(12,.int .i64 x12),(13,.int .i64 x13)] h
def Yek (Q:QT) (i1 o1:Nat) (x3:List Nat) (h:Zaa):Prop:=At (K1 Q) (.exit 0) [(1,.ptr (i1,o1)),(3,.str x3)] h
def J9 (Q:QT) (x3:List Nat) (h:Zaa):Prop:=Den pg fn.ntmps (C [1,1,1,1]) [(3,.str x3)] h (KR Q)
def L3t (Q:QT) (R3:T3) (i1 o1:Nat) (x3:List Nat) (a11:Pt) (n11 c11:Nat) (e11:Bool) (x12 x13:Int) (h:Zaa):Prop:=
 bcase (decide ((x13:Int) < x12)) ((0≤(x13:Int)∧(x13:Int) < (n11:Nat))∧(Zaw a11 fun A B=>Zdi (Zda h (.ptr (A,B + (Int.toNat x13) * 2)) 2) fun A=>Zal A fun A B=>Zbr .u8 A fun A=>Zal B fun B C=>xSl B fun B D E F=>Zcs C (Zec (h ++ [.cells Zab [.int .u8 0,.slice none 0 0 true] false]) fun C=>Zce (Zbc C (.ptr (h.length,0)) [.int .u8 A,.slice B D E F]) fun A=>(0≤(x13:Int)∧(x13:Int)≤IntKind.wrap .i64 (x13 + 1)∧(IntKind.wrap .i64 (x13 + 1):Int)≤(List.length ([40,44]):Nat))∧(List.length x3 + List.length (sub ([40,44]) x13 (IntKind.wrap .i64 (x13 + 1)))≤9223372036854775807∧(Zdi (Zda A (.ptr (h.length,0)) 2) fun B=>Zal B fun B C=>Zbr .u8 B fun B=>Zal C fun C D=>xSl C fun C E F G=>Zcs D (Zac pg Zhn [.agg [.int .u8 B,.slice C E F G]] A fun A B=>
 Zde A fun A=>List.length (x3 ++ (sub ([40,44]) x13 (IntKind.wrap .i64 (x13 + 1)))) + List.length A≤9223372036854775807∧(R3 i1 o1 ((x3 ++ (sub ([40,44]) x13 (IntKind.wrap .i64 (x13 + 1)))) ++ A) a11 n11 c11 e11 x12 (IntKind.wrap .i64 (x13 + 1)) B))))))) (Yek Q i1 o1 x3 h)
theorem Zxa (Q:QT) (R3:T3) (i1 o1:Nat) (x3:List Nat) (a11:Pt) (n11 c11:Nat) (e11:Bool) (x12 x13:Int) (h:Zaa) (ht:L3t Q R3 i1 o1 x3 a11 n11 c11 e11 x12 x13 h):Den pg fn.ntmps (C [1,1,0,1,0,0]) [(1,.ptr (i1,o1)),(3,.str x3),(11,.slice a11 n11 c11 e11),(12,.int .i64 x12),(13,.int .i64 x13)] h (K3 Q R3):=
 Zaz (kp:=kp) (cast (by kernel_rfl) ht)
theorem L3ind (Q:QT) (i1 o1:Nat) (a11:Pt) (n11 c11:Nat) (e11:Bool) (x12:Int) {G:Type} (J:G→List Nat→Int→Zaa→Prop) (m:G→Nat)
 (hr:∀ (g:G) (x3:List Nat) (x13:Int) (h:Zaa),J g x3 x13 h→∀ (R3:T3),(∀ g' (x3:List Nat) (x13:Int) (h:Zaa),m g' < m g→J g' x3 x13 h→R3 i1 o1 x3 a11 n11 c11 e11 x12 x13 h)→L3t Q R3 i1 o1 x3 a11 n11 c11 e11 x12 x13 h)
 (g:G) (x3:List Nat) (x13:Int) (h:Zaa) (hj:J g x3 x13 h):L3 Q i1 o1 x3 a11 n11 c11 e11 x12 x13 h:=by
 let P:=fun (K:List Nat→Int→Zaa→Prop) i1' o1' x3 a11' n11' c11' e11' x12' x13 h=>i1=i1'∧o1=o1'∧a11=a11'∧n11=n11'∧c11=c11'∧e11=e11'∧x12=x12'∧K x3 x13 h
 refine Zgo.inv2 (fun g=>E3 (P (J g))) (fun g=>E3 (P fun x3 x13 h=>∃ g',m g' < m g∧J g' x3 x13 h)) m ?_ ?_ g ⟨rfl,rfl,rfl,rfl,rfl,rfl,rfl,hj⟩
 ·intro g env h hi
  obtain ⟨i1',o1',x3,a11',n11',c11',e11',x12',x13,rfl,rfl,rfl,rfl,rfl,rfl,rfl,rfl,hj⟩:=Zko hi
  exact Zxa Q _ i1 o1 x3 a11 n11 c11 e11 x12 x13 h (hr g x3 x13 h hj (P fun x3 x13 h=>∃ g',m g' < m g∧J g' x3 x13 h) fun g' x3 x13 h hlt hj=>⟨rfl,rfl,rfl,rfl,rfl,rfl,rfl,g',hlt,hj⟩)
 ·intro g env h hi
  obtain ⟨i1',o1',x3,a11',n11',c11',e11',x12',x13,rfl,rfl,rfl,rfl,rfl,rfl,rfl,rfl,g',hlt,hj⟩:=Zko hi
  exact ⟨g',hlt,rfl,rfl,rfl,rfl,rfl,rfl,rfl,hj⟩
theorem A3x0i (Q:QT) (i1 o1:Nat) (x3:List Nat) (h:Zaa) (ht :
 xSl (Zaj h (.ptr (i1,o1 + 1))) fun A A B B=>bcase (decide (((((A:Nat):Int)):Int) > 0)) (List.length x3 + List.length [41]≤9223372036854775807∧(J9 Q (x3 ++ [41]) h)) (J9 Q x3 h)):Yek Q i1 o1 x3 h:=
 At.mk (cast (by kernel_rfl) ht)
theorem J9i (Q:QT) (x3:List Nat) (h:Zaa) (ht :
 Q (.str x3) h):J9 Q x3 h:=
 Zaz (kp:=kp) (cast (by kernel_rfl) ht)
theorem call (x0x0:Int) (a0x1:Pt) (n0x1 c0x1:Nat) (e0x1:Bool) (h:Zaa) (Q:QT) (ht :
 Zec (h ++ [.cells Zab [.int .u8 x0x0,.slice a0x1 n0x1 c0x1 e0x1] false]) fun A=>Zbr .u8 (Zaj A (.ptr (h.length,0 + 0))) fun B=>Zec (A ++ [.cells Ydl [.int .u8 B] false]) fun B=>Zdi (rowOf B (A.length,0) 1) fun A=>Zla A fun A=>xSl (Zaj B (.ptr (h.length,0 + 1))) fun C D E F=>L3 Q h.length 0 A C D E F (((D:Nat):Int)) 0 B):Zac pg Zhn [.agg [.int .u8 x0x0,.slice a0x1 n0x1 c0x1 e0x1]] h Q:=
 Zac.of_body kp (c:=cod fn) (fn:=fn) Go.Proofs.Try.func100 (by kernel_rfl) (by kernel_rfl) (Nat.le_of_ble_eq_true (by kernel_rfl))
  (cast (by kernel_rfl) ht)
end Zeq
end Go.Sim

set_option maxRecDepth 100000
set_option maxHeartbeats 0
set_option linter.unusedVariables false
namespace Go.Sim
open Go Go.RowKit
end Go.Sim

set_option maxRecDepth 100000
set_option maxHeartbeats 0
set_option linter.unusedVariables false
namespace Go.Sim
open Go Go.RowKit
end Go.Sim

set_option maxRecDepth 100000
set_option maxHeartbeats 0
set_option linter.unusedVariables false
namespace Go.Sim
open Go Go.RowKit
end Go.Sim

set_option maxRecDepth 100000
set_option maxHeartbeats 0
set_option linter.unusedVariables false
namespace Go.Sim
open Go Go.RowKit
end Go.Sim

set_option maxRecDepth 100000
set_option maxHeartbeats 0
set_option linter.unusedVariables false
namespace Go.Sim
open Go Go.RowKit
end Go.Sim

set_option maxRecDepth 100000
set_option maxHeartbeats 0
set_option linter.unusedVariables false
namespace Go.Sim
open Go Go.RowKit
namespace Zop
noncomputable abbrev fn:Func:=Go.Proofs.Try.f103
def kp:Zcr:=[]
noncomputable def C (p:List Nat):Code:=(cod fn).sub p
def KR (Q:QT):KT:=Zhe pg fn.results.toList Q
theorem call (x0:List Nat) (h:Zaa) (Q:QT) (ht :
 bcase ((((List.length x0:Nat):Int):Int) == 1) (Zac pg Zew [.str ([120,121,122,88,89,90]),.str x0] h fun A B=>
 Zbg A fun A=>Q (.bool A) B) (Q (.bool false) h)):Zac pg Zcc [.str x0] h Q:=
 Zac.of_body kp (c:=cod fn) (fn:=fn) Go.Proofs.Try.func103 (by kernel_rfl) (by kernel_rfl) (Nat.le_of_ble_eq_true (by kernel_rfl))
  (cast (by kernel_rfl) ht)
end Zop
end Go.Sim

set_option maxRecDepth 100000
set_option maxHeartbeats 0
set_option linter.unusedVariables false
namespace Go.Sim
open Go Go.RowKit
end Go.Sim

set_option maxRecDepth 100000
set_option maxHeartbeats 0
set_option linter.unusedVariables false
namespace Go.Sim
open Go Go.RowKit
end Go.Sim

set_option maxRecDepth 100000
set_option maxHeartbeats 0
set_option linter.unusedVariables false
namespace Go.Sim
open Go Go.RowKit
end Go.Sim

set_option maxRecDepth 100000
set_option maxHeartbeats 0
set_option linter.unusedVariables false
namespace Go.Sim
open Go Go.RowKit
end Go.Sim

set_option maxRecDepth 100000
set_option maxHeartbeats 0
set_option linter.unusedVariables false
namespace Go.Sim
open Go Go.RowKit
namespace Zfo
noncomputable abbrev fn:Func:=Go.Proofs.Try.f150
def kp:Zcr:=[(3000002,[4]),(1000002,[0,1,5])]
noncomputable def C (p:List Nat):Code:=(cod fn).sub p
def KR (Q:QT):KT:=Zhe pg fn.results.toList Q
abbrev T2:=List Nat→Int→Int→Zaa→Prop
def E2 (R2:T2) (env:Env) (h:Zaa):Prop:=Zcq 0 env fun v env=>Zde v fun x0=>Zcq 1 env fun v env=>Zhh .u8 v fun x1=>Zcq 5 env fun v env=>Zhh .i64 v fun x5=>Znu env (R2 x0 x1 x5 h)
theorem Zot {R2:T2} {env:Env} {h:Zaa} (hi:E2 R2 env h):∃ x0,∃ x1,∃ x5,env=[(0,.str x0),(1,.int .u8 x1),(5,.int .i64 x5)]∧R2 x0 x1 x5 h:=by
 unfold E2 at hi
 repeat ((first | (have k:=Zam hi; clear hi; obtain ⟨_,_,e,hi⟩:=k) | (have k:=Zia hi; clear hi; obtain ⟨_,e,hi⟩:=k) | (have k:=Zbi hi; clear hi; obtain ⟨_,e,hi⟩:=k)); subst e)
 obtain ⟨rfl,hi⟩:=Zbx hi
 exact ⟨_,_,_,rfl,hi⟩
def K0 (Q:QT):KT:=andThen (fun env' h'=>(match kp.find 4000006 with | some ks=>Den pg fn.ntmps (C [1,1]) (env'.keep ks) h' (KR Q) | none=>den pg fn.ntmps kp (C [1,1]) env' h' (KR Q))) (KR Q)
def K1 (Q:QT):KT:=Zdv 0 (K0 Q)
def K2 (Q:QT):KT:=left kp 2 (K1 Q)
def K3 (Q:QT) (R2:T2):KT:=rnd ((kp.find 1000002).getD []) (E2 R2) (K2 Q)
def L2 (Q:QT) (x0:List Nat) (x1 x5:Int) (h:Zaa):Prop:=Zgo (Den pg fn.ntmps (C [1,0,1,0,0])) ((kp.find 1000002).getD []) (K2 Q) [(0,.str x0),(1,.int .u8 x1),(5,.int .i64 x5)] h
def A2x0 (Q:QT) (h:Zaa):Prop:=At (K1 Q) (.exit 0) [(4,.undef)] h
def L2t (Q:QT) (R2:T2) (x0:List Nat) (x1 x5:Int) (h:Zaa):Prop:=
 bcase (decide ((x5:Int) < (((List.length x0:Nat):Int)))) (Zsn x0 x5 fun A=>bcase ((((A:Nat):Int):Int) == x1) (Q (.int .i64 x5) h) (R2 x0 x1 (IntKind.wrap .i64 (x5 + 1)) h)) (A2x0 Q h)
theorem Yet (Q:QT) (R2:T2) (x0:List Nat) (x1 x5:Int) (h:Zaa) (ht:L2t Q R2 x0 x1 x5 h):Den pg fn.ntmps (C [1,0,1,0,0]) [(0,.str x0),(1,.int .u8 x1),(5,.int .i64 x5)] h (K3 Q R2):=
 Zaz (kp:=kp) (cast (by kernel_rfl) ht)
theorem L2ind (Q:QT) (x0:List Nat) (x1:Int) {G:Type} (J:G→Int→Zaa→Prop) (m:G→Nat)
 (hr:∀ (g:G) (x5:Int) (h:Zaa),J g x5 h→∀ (R2:T2),(∀ g' (x5:Int) (h:Zaa),m g' < m g→J g' x5 h→R2 x0 x1 x5 h)→L2t Q R2 x0 x1 x5 h)
 (g:G) (x5:Int) (h:Zaa) (hj:J g x5 h):L2 Q x0 x1 x5 h:=by
 let P:=fun (K:Int→Zaa→Prop) x0' x1' x5 h=>x0=x0'∧x1=x1'∧K x5 h
 refine Zgo.inv2 (fun g=>E2 (P (J g))) (fun g=>E2 (P fun x5 h=>∃ g',m g' < m g∧J g' x5 h)) m ?_ ?_ g ⟨rfl,rfl,hj⟩
 ·intro g env h hi
  obtain ⟨x0',x1',x5,rfl,rfl,rfl,hj⟩:=Zot hi
  exact Yet Q _ x0 x1 x5 h (hr g x5 h hj (P fun x5 h=>∃ g',m g' < m g∧J g' x5 h) fun g' x5 h hlt hj=>⟨rfl,rfl,g',hlt,hj⟩)
 ·intro g env h hi
  obtain ⟨x0',x1',x5,rfl,rfl,rfl,g',hlt,hj⟩:=Zot hi
  exact ⟨g',hlt,rfl,rfl,hj⟩
theorem A2x0i (Q:QT) (h:Zaa) (ht :
 Q (.int .i64 (-1)) h):A2x0 Q h:=
 At.mk (cast (by kernel_rfl) ht)
theorem call (x0:List Nat) (x1:Int) (h:Zaa) (Q:QT) (ht :
 L2 Q x0 x1 0 h):Zac pg Zgx [.str x0,.int .u8 x1] h Q:=
 Zac.of_body kp (c:=cod fn) (fn:=fn) Go.Proofs.Try.func150 (by kernel_rfl) (by kernel_rfl) (Nat.le_of_ble_eq_true (by kernel_rfl))
  (cast (by kernel_rfl) ht)
end Zfo
namespace Ziv
noncomputable abbrev fn:Func:=Go.Proofs.Try.f140
def kp:Zcr:=[(4000008,[])]
noncomputable def C (p:List Nat):Code:=(cod fn).sub p
def KR (Q:QT):KT:=Zhe pg fn.results.toList Q
def J8 (Q:QT) (h:Zaa):Prop:=Den pg fn.ntmps (C [1,1]) [] h (KR Q)
theorem J8i (Q:QT) (h:Zaa) (ht :
 Q (.int .i64 0) h):J8 Q h:=
 Zaz (kp:=kp) (cast (by kernel_rfl) ht)
theorem call (x0:Int) (h:Zaa) (Q:QT) (ht :
 Zac pg Zgx [.str ([105,98,117,108,109,112,120,121,122,88,89,90]),.int .u8 x0] h fun A B=>
 Zbr .i64 A fun A=>bcase (decide ((A:Int) < 0)) (Q (.int .i64 (-1)) B) (bcase ((A:Int) == 3) (Q (.int .i64 1) B) (bcase ((A:Int) == 4) (Q (.int .i64 1) B) (bcase ((A:Int) == 5) (Q (.int .i64 2) B) (J8 Q B))))):Zac pg Zgz [.int .u8 x0] h Q:=
 Zac.of_body kp (c:=cod fn) (fn:=fn) Go.Proofs.Try.func140 (by kernel_rfl) (by kernel_rfl) (Nat.le_of_ble_eq_true (by kernel_rfl))
  (cast (by kernel_rfl) ht)
end Ziv
namespace Zhk
noncomputable abbrev fn:Func:=Go.Proofs.Try.f139
def kp:Zcr:=[(2000001,[12,0]),(2000005,[2])]
noncomputable def C (p:List Nat):Code:=(cod fn).sub p
def KR (Q:QT):KT:=Zhe pg fn.results.toList Q
theorem call (a0:Pt) (h:Zaa) (Q:QT) (ht :
 Zaw a0 fun A B=>Zaw a0 fun C D=>Zbr .i64 (Zaj h (.ptr (A,B + 1))) fun E=>Zde (Zaj h (.ptr (C,D + 0))) fun C=>(Zaj h (.ptr (A,B + 1))=Zaj h (.ptr (A,B + 1)))∧bcase (decide ((E:Int) ≥ (((List.length C:Nat):Int)))) (Zaw a0 fun A B=>Zce (Zbc h (.ptr (A,B + 2)) [.bool true]) fun A=>Q (.int .u8 0) A) (Zaw a0 fun A B=>Zbr .i64 (Zaj h (.ptr (A,B + 1))) fun A=>Zaw a0 fun B C=>Zce (Zbc h (.ptr (B,C + 1)) [.int .i64 (IntKind.wrap .i64 (A + 1))]) fun A=>Zaw a0 fun B C=>Zaw a0 fun D E=>Zde (Zaj A (.ptr (B,C + 0))) fun F=>Zbr .i64 (Zaj A (.ptr (D,E + 1))) fun D=>(Zaj A (.ptr (B,C + 0))=Zaj A (.ptr (B,C + 0)))∧Zsn F (IntKind.wrap .i64 (D - 1)) fun B=>Q (.int .u8 (((B:Nat):Int))) A)):Zac pg Zdl [.ptr a0] h Q:=
 Zac.of_body kp (c:=cod fn) (fn:=fn) Go.Proofs.Try.func139 (by kernel_rfl) (by kernel_rfl) (Nat.le_of_ble_eq_true (by kernel_rfl))
  (cast (by kernel_rfl) ht)
end Zhk
namespace Zas
noncomputable abbrev fn:Func:=Go.Proofs.Try.f96
def kp:Zcr:=[(4000004,[0,2,3,4]),(3000005,[4,0,3,2]),(1000005,[0,2,3,4,5]),(4000007,[0,5,3,4,2]),(2000007,[0,3,5,4,2]),(4000008,[0,3,5,4,2]),(2000009,[5,4,0,3,2]),(4000006,[5,4,0,3,2]),(4000012,[3,2])]
noncomputable def C (p:List Nat):Code:=(cod fn).sub p
def KR (Q:QT):KT:=Zhe pg fn.results.toList Q
abbrev T5:=Pt→Nat→Nat→Nat→Nat→Int→Int→Zaa→Prop
def E5 (R5:T5) (env:Env) (h:Zaa):Prop:=Zcq 0 env fun v env=>Zei v fun a0=>Zcq 2 env fun v env=>Zei v fun a=>Zaw a fun i2 o2=>Zcq 3 env fun v env=>Zei v fun a=>Zaw a fun i3 o3=>Zcq 4 env fun v env=>Zhh .i64 v fun x4=>Zcq 5 env fun v env=>Zhh .i64 v fun x5=>Znu env (R5 a0 i2 o2 i3 o3 x4 x5 h)
theorem Zks {R5:T5} {env:Env} {h:Zaa} (hi:E5 R5 env h):∃ a0,∃ i2,∃ o2,∃ i3,∃ o3,∃ x4,∃ x5,env=[(0,.ptr a0),(2,.ptr (i2,o2)),(3,.ptr (i3,o3)),(4,.int .i64 x4),(5,.int .i64 x5)]∧R5 a0 i2 o2 i3 o3 x4 x5 h:=by
 unfold E5 at hi
 have hi0:=hi
 clear hi
 obtain ⟨_,_,rfl,hi1⟩:=Zam hi0
 obtain ⟨a0,rfl,hi2⟩:=Zbl hi1
 obtain ⟨_,_,rfl,hi3⟩:=Zam hi2
 obtain ⟨a,rfl,hi4⟩:=Zbl hi3
 obtain ⟨i2,o2,rfl,hi5⟩:=Zbp hi4
 obtain ⟨_,_,rfl,hi6⟩:=Zam hi5
 obtain ⟨a,rfl,hi7⟩:=Zbl hi6
 obtain ⟨i3,o3,rfl,hi8⟩:=Zbp hi7
 obtain ⟨_,_,rfl,hi9⟩:=Zam hi8
 obtain ⟨x4,rfl,hi10⟩:=Zbi hi9
 obtain ⟨_,_,rfl,hi11⟩:=Zam hi10
 obtain ⟨x5,rfl,hi12⟩:=Zbi hi11
 obtain ⟨rfl,hi13⟩:=Zbx hi12
 have hi:=hi13
 exact ⟨a0,i2,o2,i3,o3,x4,x5,rfl,hi⟩
def K0 (Q:QT):KT:=andThen (fun env' h'=>(match kp.find 4000010 with | some ks=>Den pg fn.ntmps (C [1,1,1,1,1]) (env'.keep ks) h' (KR Q) | none=>den pg fn.ntmps kp (C [1,1,1,1,1]) env' h' (KR Q))) (KR Q)
def K1 (Q:QT):KT:=Zdv 0 (K0 Q)
def K2 (Q:QT):KT:=left kp 5 (K1 Q)
def K3 (Q:QT) (R5:T5):KT:=rnd ((kp.find 1000005).getD []) (E5 R5) (K2 Q)
def K4 (Q:QT) (R5:T5):KT:=andThen (fun env' h'=>(match kp.find 4000006 with | some ks=>Den pg fn.ntmps (C [1,1,1,1,0,1,0,0,1,1]) (env'.keep ks) h' (K3 Q R5) | none=>den pg fn.ntmps kp (C [1,1,1,1,0,1,0,0,1,1]) env' h' (K3 Q R5))) (K3 Q R5)
def K5 (Q:QT) (R5:T5):KT:=Zdv 1 (K4 Q R5)
def J4 (Q:QT) (a0:Pt) (i2 o2 i3 o3:Nat) (x4:Int) (h:Zaa):Prop:=Den pg fn.ntmps (C [1,1,1,1]) [(0,.ptr a0),(2,.ptr (i2,o2)),(3,.ptr (i3,o3)),(4,.int .i64 x4)] h (KR Q)
def L5 (Q:QT) (a0:Pt) (i2 o2 i3 o3:Nat) (x4 x5:Int) (h:Zaa):Prop:=Zgo (Den pg fn.ntmps (C [1,1,1,1,0,1,0,0])) ((kp.find 1000005).getD []) (K2 Q) [(0,.ptr a0),(2,.ptr (i2,o2)),(3,.ptr (i3,o3)),(4,.int .i64 x4),(5,.int .i64 x5)] h
def J7 (Q:QT) (R5:T5) (a0:Pt) (x5:Int) (i3 o3:Nat) (x4:Int) (i2 o2:Nat) (h:Zaa):Prop:=Den pg fn.ntmps (C [1,1,1,1,0,1,0,0,1]) [(0,.ptr a0),(5,.int .i64 x5),(3,.ptr (i3,o3)),(4,.int .i64 x4),(2,.ptr (i2,o2))] h (K3 Q R5)
def A5x0 (Q:QT) (x4:Int) (a0:Pt) (i3 o3 i2 o2:Nat) (h:Zaa):Prop:=At (K1 Q) (.exit 0) [(4,.int .i64 x4),(0,.ptr a0),(3,.ptr (i3,o3)),(2,.ptr (i2,o2))] h
def J8 (Q:QT) (R5:T5) (a0:Pt) (i3 o3:Nat) (x5 x4:Int) (i2 o2:Nat) (h:Zaa):Prop:=Den pg fn.ntmps (C [1,1,1,1,0,1,0,0,1,0,0,1]) [(0,.ptr a0),(3,.ptr (i3,o3)),(5,.int .i64 x5),(4,.int .i64 x4),(2,.ptr (i2,o2))] h (K5 Q R5)
def J12 (Q:QT) (i3 o3 i2 o2:Nat) (h:Zaa):Prop:=Den pg fn.ntmps (C [1,1,1,1,1,1]) [(3,.ptr (i3,o3)),(2,.ptr (i2,o2))] h (KR Q)
def J6 (Q:QT) (R5:T5) (x5 x4:Int) (a0:Pt) (i3 o3 i2 o2:Nat) (h:Zaa):Prop:=Den pg fn.ntmps (C [1,1,1,1,0,1,0,0,1,1]) [(5,.int .i64 x5),(4,.int .i64 x4),(0,.ptr a0),(3,.ptr (i3,o3)),(2,.ptr (i2,o2))] h (K3 Q R5)
theorem J4i (Q:QT) (a0:Pt) (i2 o2 i3 o3:Nat) (x4:Int) (h:Zaa) (ht :
 L5 Q a0 i2 o2 i3 o3 x4 0 h):J4 Q a0 i2 o2 i3 o3 x4 h:=
 Zaz (kp:=kp) (cast (by kernel_rfl) ht)
def L5t (Q:QT) (R5:T5) (a0:Pt) (i2 o2 i3 o3:Nat) (x4 x5:Int) (h:Zaa):Prop:=
 bcase (decide ((x5:Int) < x4)) (Zaw a0 fun A B=>Zbg (Zaj h (.ptr (A,B + 2))) fun A=>bcase (!A) (J7 Q R5 a0 x5 i3 o3 x4 i2 o2 h) (A5x0 Q x4 a0 i3 o3 i2 o2 h)) (A5x0 Q x4 a0 i3 o3 i2 o2 h)
theorem Zxn (Q:QT) (R5:T5) (a0:Pt) (i2 o2 i3 o3:Nat) (x4 x5:Int) (h:Zaa) (ht:L5t Q R5 a0 i2 o2 i3 o3 x4 x5 h):Den pg fn.ntmps (C [1,1,1,1,0,1,0,0]) [(0,.ptr a0),(2,.ptr (i2,o2)),(3,.ptr (i3,o3)),(4,.int .i64 x4),(5,.int .i64 x5)] h (K3 Q R5):=
 Zaz (kp:=kp) (cast (by kernel_rfl) ht)
theorem L5ind (Q:QT) (a0:Pt) (i2 o2 i3 o3:Nat) (x4:Int) {G:Type} (J:G→Int→Zaa→Prop) (m:G→Nat)
 (hr:∀ (g:G) (x5:Int) (h:Zaa),J g x5 h→∀ (R5:T5),(∀ g' (x5:Int) (h:Zaa),m g' < m g→J g' x5 h→R5 a0 i2 o2 i3 o3 x4 x5 h)→L5t Q R5 a0 i2 o2 i3 o3 x4 x5 h)
 (g:G) (x5:Int) (h:Zaa) (hj:J g x5 h):L5 Q a0 i2 o2 i3 o3 x4 x5 h:=by
 let P:=fun (K:Int→Zaa→Prop) a0' i2' o2' i3' o3' x4' x5 h=>a0=a0'∧i2=i2'∧o2=o2'∧i3=i3'∧o3=o3'∧x4=x4'∧K x5 h
 refine Zgo.inv2 (fun g=>E5 (P (J g))) (fun g=>E5 (P fun x5 h=>∃ g',m g' < m g∧J g' x5 h)) m ?_ ?_ g ⟨rfl,rfl,rfl,rfl,rfl,rfl,hj⟩
 ·intro g env h hi
  obtain ⟨a0',i2',o2',i3',o3',x4',x5,rfl,rfl,rfl,rfl,rfl,rfl,rfl,hj⟩:=Zks hi
  exact Zxn Q _ a0 i2 o2 i3 o3 x4 x5 h (hr g x5 h hj (P fun x5 h=>∃ g',m g' < m g∧J g' x5 h) fun g' x5 h hlt hj=>⟨rfl,rfl,rfl,rfl,rfl,rfl,g',hlt,hj⟩)
 ·intro g env h hi
  obtain ⟨a0',i2',o2',i3',o3',x4',x5,rfl,rfl,rfl,rfl,rfl,rfl,rfl,g',hlt,hj⟩:=Zks hi
  exact ⟨g',hlt,rfl,rfl,rfl,rfl,rfl,rfl,hj⟩
theorem J7i (Q:QT) (R5:T5) (a0:Pt) (x5:Int) (i3 o3:Nat) (x4:Int) (i2 o2:Nat) (h:Zaa) (ht :
 Zsn ([40,44]) x5 fun A=>Zac pg Zdl [.ptr a0] h fun B C=>
 Zbr .u8 B fun B=>bcase (!((B:Int) == (((A:Nat):Int)))) (Zaw a0 fun A B=>Zce (Zbc C (.ptr (A,B + 2)) [.bool true]) fun A=>J8 Q R5 a0 i3 o3 x5 x4 i2 o2 A) (Zaw a0 fun A B=>Zbg (Zaj C (.ptr (A,B + 2))) fun A=>Zaw a0 fun B D=>Zce (Zbc C (.ptr (B,D + 2)) [.bool A]) fun A=>J8 Q R5 a0 i3 o3 x5 x4 i2 o2 A)):J7 Q R5 a0 x5 i3 o3 x4 i2 o2 h:=
 Zaz (kp:=kp) (cast (by kernel_rfl) ht)
theorem A5x0i (Q:QT) (x4:Int) (a0:Pt) (i3 o3 i2 o2:Nat) (h:Zaa) (ht :
 bcase (decide ((x4:Int) > 0)) (Zaw a0 fun A B=>Zbg (Zaj h (.ptr (A,B + 2))) fun A=>bcase (!A) (Zac pg Zdl [.ptr a0] h fun A B=>
 Zbr .u8 A fun A=>bcase (!((A:Int) == 41)) (Zaw a0 fun A C=>Zce (Zbc B (.ptr (A,C + 2)) [.bool true]) fun A=>J12 Q i3 o3 i2 o2 A) (Zaw a0 fun A C=>Zbg (Zaj B (.ptr (A,C + 2))) fun A=>Zaw a0 fun C D=>Zce (Zbc B (.ptr (C,D + 2)) [.bool A]) fun A=>J12 Q i3 o3 i2 o2 A)) (J12 Q i3 o3 i2 o2 h)) (J12 Q i3 o3 i2 o2 h)):A5x0 Q x4 a0 i3 o3 i2 o2 h:=
 At.mk (cast (by kernel_rfl) ht)
theorem J8i (Q:QT) (R5:T5) (a0:Pt) (i3 o3:Nat) (x5 x4:Int) (i2 o2:Nat) (h:Zaa) (ht :
 Zaw a0 fun A B=>Zbg (Zaj h (.ptr (A,B + 2))) fun A=>bcase (!A) (xSl (Zaj h (.ptr (i3,o3 + 1))) fun A B C D=>Zac pg Zcz [.ptr a0] h fun E F=>
 Zru E fun E=>Zal E fun E G=>Zbr .u8 E fun E=>Zal G fun G H=>xSl G fun G I J K=>Zcs H ((Zaj F (.ptr (i3,o3 + 1))=Zaj h (.ptr (i3,o3 + 1)))∧Zec (F ++ [.cells Zab [.int .u8 E,.slice G I J K] false]) fun E=>(Zaj E (.ptr (i3,o3 + 1))=Zaj F (.ptr (i3,o3 + 1)))∧Zdt pg Zeg E (.slice A B C D) (.slice (F.length,0) 1 1 true) fun A B=>xSl A fun A C D E=>Zce (Zbc B (.ptr (i3,o3 + 1)) [.slice A C D E]) fun A=>J6 Q R5 x5 x4 a0 i3 o3 i2 o2 A)) (J6 Q R5 x5 x4 a0 i3 o3 i2 o2 h)):J8 Q R5 a0 i3 o3 x5 x4 i2 o2 h:=
 Zaz (kp:=kp) (cast (by kernel_rfl) ht)
theorem J12i (Q:QT) (i3 o3 i2 o2:Nat) (h:Zaa) (ht :
 Zdi (Zda h (.ptr (i3,o3)) 2) fun A=>Zal A fun A B=>Zbr .u8 A fun A=>Zal B fun B C=>xSl B fun B D E F=>Zcs C (Zce (Zbc h (.ptr (i2,o2)) [.int .u8 A,.slice B D E F]) fun A=>Zdi (Zda A (.ptr (i2,o2)) 2) fun B=>Zal B fun B C=>Zbr .u8 B fun B=>Zal C fun C D=>xSl C fun C E F G=>Zcs D (Q (.agg [.int .u8 B,.slice C E F G]) A))):J12 Q i3 o3 i2 o2 h:=
 Zaz (kp:=kp) (cast (by kernel_rfl) ht)
theorem J6i (Q:QT) (R5:T5) (x5 x4:Int) (a0:Pt) (i3 o3 i2 o2:Nat) (h:Zaa) (ht :
 R5 a0 i2 o2 i3 o3 x4 (IntKind.wrap .i64 (x5 + 1)) h):J6 Q R5 x5 x4 a0 i3 o3 i2 o2 h:=
 Zaz (kp:=kp) (cast (by kernel_rfl) ht)
theorem call (a0:Pt) (h:Zaa) (Q:QT) (ht :
 Zec (h ++ [.cells Zab [.int .u8 0,.slice none 0 0 true] false]) fun A=>Zac pg Zdl [.ptr a0] A fun A B=>
 Zbr .u8 A fun A=>Zec (B ++ [.cells Zab [] false]) fun C=>Zec (C ++ [.cells Zab [.int .u8 0,.slice none 0 0 true] false]) fun D=>Zce (Zbc D (.ptr (C.length,0)) [.int .u8 A,.slice (B.length,0) 0 0 true]) fun A=>Zbr .u8 (Zaj A (.ptr (C.length,0 + 0))) fun B=>Zac pg Zgz [.int .u8 B] A fun A B=>
 Zbr .i64 A fun A=>Zaw a0 fun D E=>Zbg (Zaj B (.ptr (D,E + 2))) fun D=>bcase D (Zaw a0 fun D E=>Zce (Zbc B (.ptr (D,E + 2)) [.bool true]) fun D=>J4 Q a0 h.length 0 C.length 0 A D) (Zaw a0 fun D E=>Zce (Zbc B (.ptr (D,E + 2)) [.bool (decide ((A:Int) < 0))]) fun B=>J4 Q a0 h.length 0 C.length 0 A B)):Zac pg Zcz [.ptr a0] h Q:=
 Zac.of_body kp (c:=cod fn) (fn:=fn) Go.Proofs.Try.func96 (by kernel_rfl) (by kernel_rfl) (Nat.le_of_ble_eq_true (by kernel_rfl))
  (cast (by kernel_rfl) ht)
end Zas
namespace Zka
noncomputable abbrev fn:Func:=Go.Proofs.Try.f52
def kp:Zcr:=[(4000005,[5,2])]
noncomputable def C (p:List Nat):Code:=(cod fn).sub p
def KR (Q:QT):KT:=Zhe pg fn.results.toList Q
def J5 (Q:QT) (i5 o5 i2 o2:Nat) (h:Zaa):Prop:=Den pg fn.ntmps (C [1,1,1,1]) [(5,.ptr (i5,o5)),(2,.ptr (i2,o2))] h (KR Q)
theorem J5i (Q:QT) (i5 o5 i2 o2:Nat) (h:Zaa) (ht :
 Zdi (Zda h (.ptr (i5,o5)) 2) fun A=>Zal A fun A B=>Zbr .u8 A fun A=>Zal B fun B C=>xSl B fun B D E F=>Zcs C (Zce (Zbc h (.ptr (i2,o2)) [.int .u8 A,.slice B D E F]) fun A=>Zdi (Zda A (.ptr (i2,o2)) 2) fun B=>Zal B fun B C=>Zbr .u8 B fun B=>Zal C fun C D=>xSl C fun C E F G=>Zcs D (Q (.tup [.agg [.int .u8 B,.slice C E F G],.bool true]) A))):J5 Q i5 o5 i2 o2 h:=
 Zaz (kp:=kp) (cast (by kernel_rfl) ht)
theorem call (x0:List Nat) (h:Zaa) (Q:QT) (ht :
 Zec (h ++ [.cells Zab [.int .u8 0,.slice none 0 0 true] false]) fun A=>Zec (A ++ [.cells Zbz [.str x0,.int .i64 0,.bool false] false]) fun B=>Zac pg Zcz [.ptr (A.length,0)] B fun B C=>
 Zru B fun B=>Zal B fun B D=>Zbr .u8 B fun B=>Zal D fun D E=>xSl D fun D F G H=>Zcs E (Zec (C ++ [.cells Zab [.int .u8 0,.slice none 0 0 true] false]) fun E=>Zce (Zbc E (.ptr (C.length,0)) [.int .u8 B,.slice D F G H]) fun B=>Zbg (Zaj B (.ptr (A.length,0 + 2))) fun D=>bcase D (Zce (Zbc B (.ptr (h.length,0)) [.int .u8 0,.slice none 0 0 true]) fun D=>Zdi (Zda D (.ptr (h.length,0)) 2) fun E=>Zal E fun E F=>Zbr .u8 E fun E=>Zal F fun F G=>xSl F fun F H I J=>Zcs G (Q (.tup [.agg [.int .u8 E,.slice F H I J],.bool false]) D)) (Zbr .i64 (Zaj B (.ptr (A.length,0 + 1))) fun A=>bcase (!((A:Int) == (((List.length x0:Nat):Int)))) (Zce (Zbc B (.ptr (h.length,0)) [.int .u8 0,.slice none 0 0 true]) fun A=>Zdi (Zda A (.ptr (h.length,0)) 2) fun D=>Zal D fun D E=>Zbr .u8 D fun D=>Zal E fun E F=>xSl E fun E G H I=>Zcs F (Q (.tup [.agg [.int .u8 D,.slice E G H I],.bool false]) A)) (bcase (decide (((((List.length x0:Nat):Int)):Int) > 60)) (Zce (Zbc B (.ptr (h.length,0)) [.int .u8 0,.slice none 0 0 true]) fun A=>Zdi (Zda A (.ptr (h.length,0)) 2) fun D=>Zal D fun D E=>Zbr .u8 D fun D=>Zal E fun E F=>xSl E fun E G H I=>Zcs F (Q (.tup [.agg [.int .u8 D,.slice E G H I],.bool false]) A)) (J5 Q C.length 0 h.length 0 B))))):Zac pg Zfk [.str x0] h Q:=
 Zac.of_body kp (c:=cod fn) (fn:=fn) Go.Proofs.Try.func52 (by kernel_rfl) (by kernel_rfl) (Nat.le_of_ble_eq_true (by kernel_rfl))
  (cast (by kernel_rfl) ht)
end Zka
end Go.Sim

set_option maxRecDepth 100000
set_option maxHeartbeats 0
set_option linter.unusedVariables false
namespace Go.Sim
open Go Go.RowKit
namespace Zkp
noncomputable abbrev fn:Func:=Go.Proofs.Try.f143
def kp:Zcr:=[(4000009,[])]
noncomputable def C (p:List Nat):Code:=(cod fn).sub p
def KR (Q:QT):KT:=Zhe pg fn.results.toList Q
def J9 (Q:QT) (h:Zaa):Prop:=Den pg fn.ntmps (C [1,1]) [] h (KR Q)
theorem J9i (Q:QT) (h:Zaa) (ht :
 Q (.int .i64 (-1)) h):J9 Q h:=
 Zaz (kp:=kp) (cast (by kernel_rfl) ht)
theorem call (x0:List Nat) (h:Zaa) (Q:QT) (ht :
 bcase (!((((List.length x0:Nat):Int):Int) == 1)) (Q (.int .i64 (-1)) h) (Zac pg Zew [.str ([105,98,117,120,121,122,88,89,90]),.str x0] h fun A B=>
 Zbg A fun A=>bcase A (Q (.int .i64 0) B) (bcase (decide (x0=[108])) (Q (.int .i64 1) B) (bcase (decide (x0=[109])) (Q (.int .i64 1) B) (bcase (decide (x0=[112])) (Q (.int .i64 2) B) (J9 Q B)))))):Zac pg Zim [.str x0] h Q:=
 Zac.of_body kp (c:=cod fn) (fn:=fn) Go.Proofs.Try.func143 (by kernel_rfl) (by kernel_rfl) (Nat.le_of_ble_eq_true (by kernel_rfl))
  (cast (by kernel_rfl) ht)
end Zkp
namespace Zcv
noncomputable abbrev fn:Func:=Go.Proofs.Try.f101
def kp:Zcr:=[(4000003,[0]),(3000006,[4,0,2,3]),(1000006,[0,4,27,28]),(4000020,[4,0])]
noncomputable def C (p:List Nat):Code:=(cod fn).sub p
def KR (Q:QT):KT:=Zhe pg fn.results.toList Q
abbrev T6:=List Nat→Nat→Nat→Int→Int→Zaa→Prop
def E6 (R6:T6) (env:Env) (h:Zaa):Prop:=Zcq 0 env fun v env=>Zde v fun x0=>Zcq 4 env fun v env=>Zei v fun a=>Zaw a fun i4 o4=>Zcq 27 env fun v env=>Zhh .i64 v fun x27=>Zcq 28 env fun v env=>Zhh .i64 v fun x28=>Znu env (R6 x0 i4 o4 x27 x28 h)
theorem Zik {R6:T6} {env:Env} {h:Zaa} (hi:E6 R6 env h):∃ x0,∃ i4,∃ o4,∃ x27,∃ x28,env=[(0,.str x0),(4,.ptr (i4,o4)),(27,.int .i64 x27),(28,.int .i64 x28)]∧R6 x0 i4 o4 x27 x28 h:=by
 unfold E6 at hi
 have hi0:=hi
 clear hi
 obtain ⟨_,_,rfl,hi1⟩:=Zam hi0
 obtain ⟨x0,rfl,hi2⟩:=Zia hi1
 obtain ⟨_,_,rfl,hi3⟩:=Zam hi2
 obtain ⟨a,rfl,hi4⟩:=Zbl hi3
 obtain ⟨i4,o4,rfl,hi5⟩:=Zbp hi4
 obtain ⟨_,_,rfl,hi6⟩:=Zam hi5
 obtain ⟨x27,rfl,hi7⟩:=Zbi hi6
 obtain ⟨_,_,rfl,hi8⟩:=Zam hi7
 obtain ⟨x28,rfl,hi9⟩:=Zbi hi8
 obtain ⟨rfl,hi10⟩:=Zbx hi9
 have hi:=hi10
 exact ⟨x0,i4,o4,x27,x28,rfl,hi⟩
def K0 (Q:QT):KT:=andThen (fun env' h'=>(match kp.find 4000016 with | some ks=>Den pg fn.ntmps (C [1,1,1,1,1]) (env'.keep ks) h' (KR Q) | none=>den pg fn.ntmps kp (C [1,1,1,1,1]) env' h' (KR Q))) (KR Q)
def K1 (Q:QT):KT:=Zdv 0 (K0 Q)
def K2 (Q:QT):KT:=left kp 6 (K1 Q)
def K3 (Q:QT) (R6:T6):KT:=rnd ((kp.find 1000006).getD []) (E6 R6) (K2 Q)
def J3 (Q:QT) (x0:List Nat) (h:Zaa):Prop:=Den pg fn.ntmps (C [1,1]) [(0,.str x0)] h (KR Q)
def L6 (Q:QT) (x0:List Nat) (i4 o4:Nat) (x27 x28:Int) (h:Zaa):Prop:=Zgo (Den pg fn.ntmps (C [1,1,1,1,0,1,0,0])) ((kp.find 1000006).getD []) (K2 Q) [(0,.str x0),(4,.ptr (i4,o4)),(27,.int .i64 x27),(28,.int .i64 x28)] h
def Zyb (Q:QT) (i4 o4:Nat) (x0:List Nat) (h:Zaa):Prop:=At (K1 Q) (.exit 0) [(4,.ptr (i4,o4)),(0,.str x0),(2,.undef),(3,.undef)] h
def J20 (Q:QT) (i4 o4:Nat) (x0:List Nat) (h:Zaa):Prop:=Den pg fn.ntmps (C [1,1,1,1,1,1]) [(4,.ptr (i4,o4)),(0,.str x0)] h (KR Q)
theorem J3i (Q:QT) (x0:List Nat) (h:Zaa) (ht :
 (0≤(0:Int)∧(0:Int)≤1∧(1:Int)≤(List.length x0:Nat))∧(Zec (h ++ [.cells Zba [.str (sub x0 0 1),.slice none 0 0 true,.ptr none] false]) fun A=>(0≤(1:Int)∧(1:Int)≤(List.length x0:Int)∧((List.length x0:Int):Int)≤(List.length x0:Nat))∧(Zde (Zaj A (.ptr (h.length,0 + 0))) fun B=>Zac pg Zim [.str B] A fun A B=>
 Zbr .i64 A fun A=>L6 Q (sub x0 1 ((List.length x0:Int))) h.length 0 A 0 B))):J3 Q x0 h:=
 Zaz (kp:=kp) (cast (by kernel_rfl) ht)
def L6t (Q:QT) (R6:T6) (x0:List Nat) (i4 o4:Nat) (x27 x28:Int) (h:Zaa):Prop:=
 bcase (decide ((x28:Int) < x27)) ((0≤(x28:Int)∧(x28:Int)≤IntKind.wrap .i64 (x28 + 1)∧(IntKind.wrap .i64 (x28 + 1):Int)≤(List.length ([40,44]):Nat))∧(Zac pg Zft [.str x0,.str (sub ([40,44]) x28 (IntKind.wrap .i64 (x28 + 1)))] h fun A B=>
 Zbg A fun A=>bcase (!A) (Q (.tup [.ptr none,.str x0]) B) ((0≤(1:Int)∧(1:Int)≤(List.length x0:Int)∧((List.length x0:Int):Int)≤(List.length x0:Nat))∧(Zac pg Zfb [.str (sub x0 1 ((List.length x0:Int)))] B fun A B=>
 Zrs A fun A=>Zal A fun A C=>Zei A fun A=>Zal C fun C D=>Zde C fun C=>Zcs D (bcase (Option.isNone A) (Q (.tup [.ptr none,.str x0]) B) (xSl (Zaj B (.ptr (i4,o4 + 1))) fun D E F G=>Zec (B ++ [.cells Zcd [.ptr A] false]) fun A=>Zdt pg Zid A (.slice D E F G) (.slice (B.length,0) 1 1 true) fun A B=>xSl A fun A D E F=>Zce (Zbc B (.ptr (i4,o4 + 1)) [.slice A D E F]) fun A=>R6 C i4 o4 x27 (IntKind.wrap .i64 (x28 + 1)) A)))))) (Zyb Q i4 o4 x0 h)
theorem Ztu (Q:QT) (R6:T6) (x0:List Nat) (i4 o4:Nat) (x27 x28:Int) (h:Zaa) (ht:L6t Q R6 x0 i4 o4 x27 x28 h):Den pg fn.ntmps (C [1,1,1,1,0,1,0,0]) [(0,.str x0),(4,.ptr (i4,o4)),(27,.int .i64 x27),(28,.int .i64 x28)] h (K3 Q R6):=
 Zaz (kp:=kp) (cast (by kernel_rfl) ht)
theorem L6ind (Q:QT) (i4 o4:Nat) (x27:Int) {G:Type} (J:G→List Nat→Int→Zaa→Prop) (m:G→Nat)
 (hr:∀ (g:G) (x0:List Nat) (x28:Int) (h:Zaa),J g x0 x28 h→∀ (R6:T6),(∀ g' (x0:List Nat) (x28:Int) (h:Zaa),m g' < m g→J g' x0 x28 h→R6 x0 i4 o4 x27 x28 h)→L6t Q R6 x0 i4 o4 x27 x28 h)
 (g:G) (x0:List Nat) (x28:Int) (h:Zaa) (hj:J g x0 x28 h):L6 Q x0 i4 o4 x27 x28 h:=by
 let P:=fun (K:List Nat→Int→Zaa→Prop) x0 i4' o4' x27' x28 h=>i4=i4'∧o4=o4'∧x27=x27'∧K x0 x28 h
 refine Zgo.inv2 (fun g=>E6 (P (J g))) (fun g=>E6 (P fun x0 x28 h=>∃ g',m g' < m g∧J g' x0 x28 h)) m ?_ ?_ g ⟨rfl,rfl,rfl,hj⟩
 ·intro g env h hi
  obtain ⟨x0,i4',o4',x27',x28,rfl,rfl,rfl,rfl,hj⟩:=Zik hi
  exact Ztu Q _ x0 i4 o4 x27 x28 h (hr g x0 x28 h hj (P fun x0 x28 h=>∃ g',m g' < m g∧J g' x0 x28 h) fun g' x0 x28 h hlt hj=>⟨rfl,rfl,rfl,g',hlt,hj⟩)
 ·intro g env h hi
  obtain ⟨x0,i4',o4',x27',x28,rfl,rfl,rfl,rfl,g',hlt,hj⟩:=Zik hi
  exact ⟨g',hlt,rfl,rfl,rfl,hj⟩
theorem A6x0i (Q:QT) (i4 o4:Nat) (x0:List Nat) (h:Zaa) (ht :
 xSl (Zaj h (.ptr (i4,o4 + 1))) fun A A B B=>bcase (decide (((((A:Nat):Int)):Int) > 0)) (Zac pg Zft [.str x0,.str [41]] h fun A B=>
 Zbg A fun A=>bcase (!A) (Q (.tup [.ptr none,.str x0]) B) ((0≤(1:Int)∧(1:Int)≤(List.length x0:Int)∧((List.length x0:Int):Int)≤(List.length x0:Nat))∧(J20 Q i4 o4 (sub x0 1 ((List.length x0:Int))) B))) (J20 Q i4 o4 x0 h)):Zyb Q i4 o4 x0 h:=
 At.mk (cast (by kernel_rfl) ht)
theorem J20i (Q:QT) (i4 o4:Nat) (x0:List Nat) (h:Zaa) (ht :
 Q (.tup [.ptr (i4,o4),.str x0]) h):J20 Q i4 o4 x0 h:=
 Zaz (kp:=kp) (cast (by kernel_rfl) ht)
theorem call (x0:List Nat) (h:Zaa) (Q:QT) (ht :
 bcase (decide (x0=[])) (Q (.tup [.ptr none,.str x0]) h) ((0≤(0:Int)∧(0:Int)≤1∧(1:Int)≤(List.length x0:Nat))∧(Zac pg Zim [.str (sub x0 0 1)] h fun A B=>
 Zbr .i64 A fun A=>bcase (decide ((A:Int) < 0)) (Q (.tup [.ptr none,.str x0]) B) (J3 Q x0 B)))):Zac pg Zfb [.str x0] h Q:=
 Zac.of_body kp (c:=cod fn) (fn:=fn) Go.Proofs.Try.func101 (by kernel_rfl) (by kernel_rfl) (Nat.le_of_ble_eq_true (by kernel_rfl))
  (cast (by kernel_rfl) ht)
end Zcv
namespace Znm
noncomputable abbrev fn:Func:=Go.Proofs.Try.f78
def kp:Zcr:=[]
noncomputable def C (p:List Nat):Code:=(cod fn).sub p
def KR (Q:QT):KT:=Zhe pg fn.results.toList Q
theorem call (x0:List Nat) (h:Zaa) (Q:QT) (ht :
 bcase (decide (((((List.length x0:Nat):Int)):Int) > 60)) (Q (.ptr none) h) (Zac pg Zfb [.str x0] h fun A B=>
 Zrs A fun A=>Zal A fun A C=>Zei A fun A=>Zal C fun C D=>Zde C fun C=>Zcs D (bcase (!(decide (C=[]))) (Q (.ptr none) B) (Q (.ptr A) B)))):Zac pg Zgg [.str x0] h Q:=
 Zac.of_body kp (c:=cod fn) (fn:=fn) Go.Proofs.Try.func78 (by kernel_rfl) (by kernel_rfl) (Nat.le_of_ble_eq_true (by kernel_rfl))
  (cast (by kernel_rfl) ht)
end Znm
namespace Zkj
noncomputable abbrev fn:Func:=Go.Proofs.Try.f32
def kp:Zcr:=[]
noncomputable def C (p:List Nat):Code:=(cod fn).sub p
def KR (Q:QT):KT:=Zhe pg fn.results.toList Q
theorem call (x0:List Nat) (h:Zaa) (Q:QT) (ht :
 Zac pg Zgg [.str x0] h fun A B=>
 Zei A fun A=>Q (.bool (!(Option.isNone A))) B):Zac pg Zbu [.str x0] h Q:=
 Zac.of_body kp (c:=cod fn) (fn:=fn) Go.Proofs.Try.func32 (by kernel_rfl) (by kernel_rfl) (Nat.le_of_ble_eq_true (by kernel_rfl))
  (cast (by kernel_rfl) ht)
end Zkj
end Go.Sim

set_option maxRecDepth 100000
set_option maxHeartbeats 0
set_option linter.unusedVariables false
namespace Go.Sim
open Go Go.RowKit
end Go.Sim

set_option maxRecDepth 100000
set_option maxHeartbeats 0
set_option linter.unusedVariables false
namespace Go.Sim
open Go Go.RowKit
end Go.Sim

set_option maxRecDepth 100000
set_option maxHeartbeats 0
set_option linter.unusedVariables false
namespace Go.Sim
open Go Go.RowKit
end Go.Sim

set_option maxRecDepth 100000
set_option maxHeartbeats 0
set_option linter.unusedVariables false
namespace Go.Sim
open Go Go.RowKit
end Go.Sim

set_option maxRecDepth 100000
set_option maxHeartbeats 0
set_option linter.unusedVariables false
namespace Go.Sim
open Go Go.RowKit
namespace Zfu
noncomputable abbrev fn:Func:=Go.Proofs.Try.f121
def kp:Zcr:=[(3000003,[3]),(1000003,[0,3,7,8,9]),(4000007,[9,8,7,0,3])]
noncomputable def C (p:List Nat):Code:=(cod fn).sub p
def KR (Q:QT):KT:=Zhe pg fn.results.toList Q
abbrev T3:=List Nat→Pt→Nat→Nat→Bool→Pt→Nat→Nat→Bool→Int→Int→Zaa→Prop
def E3 (R3:T3) (env:Env) (h:Zaa):Prop:=Zcq 0 env fun v env=>Zde v fun x0=>Zcq 3 env fun v env=>xSl v fun a3 n3 c3 e3=>Zcq 7 env fun v env=>xSl v fun a7 n7 c7 e7=>Zcq 8 env fun v env=>Zhh .i64 v fun x8=>Zcq 9 env fun v env=>Zhh .i64 v fun x9=>Znu env (R3 x0 a3 n3 c3 e3 a7 n7 c7 e7 x8 x9 h)
theorem Zko {R3:T3} {env:Env} {h:Zaa} (hi:E3 R3 env h):∃ x0,∃ a3,∃ n3,∃ c3,∃ e3,∃ a7,∃ n7,∃ c7,∃ e7,∃ x8,∃ x9,env=[(0,.str x0),(3,.slice a3 n3 c3 e3),(7,.slice a7 n7 c7 e7),(8,.int .i64 x8),(9,.int .i64 x9)]∧R3 x0 a3 n3 c3 e3 a7 n7 c7 e7 x8 x9 h:=by
 unfold E3 at hi
 repeat ((first | (have k:=Zam hi; clear hi; obtain ⟨_,_,e,hi⟩:=k) | (have k:=Zia hi; clear hi; obtain ⟨_,e,hi⟩:=k) | (have k:=Zdz hi; clear hi; obtain ⟨_,_,_,_,e,hi⟩:=k) | (have k:=Zbi hi; clear hi; obtain ⟨_,e,hi⟩:=k)); subst e)
 obtain ⟨rfl,hi⟩:=Zbx hi
 exact ⟨_,_,_,_,_,_,_,_,_,_,_,rfl,hi⟩
def K0 (Q:QT):KT:=andThen (fun env' h'=>(match kp.find 4000008 with | some ks=>Den pg fn.ntmps (C [1,1,1]) (env'.keep ks) h' (KR Q) | none=>den pg fn.ntmps kp (C [1,1,1]) env' h' (KR Q))) (KR Q)
def K1 (Q:QT):KT:=Zdv 0 (K0 Q)
def K2 (Q:QT):KT:=left kp 3 (K1 Q)
def K3 (Q:QT) (R3:T3):KT:=rnd ((kp.find 1000003).getD []) (E3 R3) (K2 Q)
def L3 (Q:QT) (x0:List Nat) (a3:Pt) (n3 c3:Nat) (e3:Bool) (a7:Pt) (n7 c7:Nat) (e7:Bool) (x8 x9:Int) (h:Zaa):Prop:=Zgo (Den pg fn.ntmps (C [1,1,0,1,0,0])) ((kp.find 1000003).getD []) (K2 Q) [(0,.str x0),(3,.slice a3 n3 c3 e3),(7,.slice a7 n7 c7 e7),(8,.int .i64 x8),(9,.int .i64 x9)] h
def J7 (Q:QT) (R3:T3) (x9 x8:Int) (a7:Pt) (n7 c7:Nat) (e7:Bool) (x0:List Nat) (a3:Pt) (n3 c3:Nat) (e3:Bool) (h:Zaa):Prop:=Den pg fn.ntmps (C [1,1,0,1,0,0,1,1,1]) [(9,.int .i64 x9),(8,.int .i64 x8),(7,.slice a7 n7 c7 e7),(0,.str x0),(3,.slice a3 n3 c3 e3)] h (K3 Q R3)
def Yek (Q:QT) (a3:Pt) (n3 c3:Nat) (e3:Bool) (h:Zaa):Prop:=At (K1 Q) (.exit 0) [(3,.slice a3 n3 c3 e3)] h
def L3t (Q:QT) (R3:T3) (x0:List Nat) (a3:Pt) (n3 c3:Nat) (e3:Bool) (a7:Pt) (n7 c7:Nat) (e7:Bool) (x8 x9:Int) (h:Zaa):Prop:=
 bcase (decide ((x9:Int) < x8)) ((0≤(x9:Int)∧(x9:Int) < (n7:Nat))∧(Zaw a7 fun A B=>Zde (Zaj h (.ptr (A,B + (Int.toNat x9) * 1))) fun A=>Zac pg Zew [.str x0,.str A] h fun B C=>
 Zbg B fun B=>bcase B (Zec (C ++ [.cells Zbw [.str A] false]) fun A=>Zdt pg Zoe A (.slice a3 n3 c3 e3) (.slice (C.length,0) 1 1 true) fun A B=>xSl A fun A D E F=>J7 Q R3 x9 x8 a7 n7 c7 e7 x0 A D E F B) (J7 Q R3 x9 x8 a7 n7 c7 e7 x0 a3 n3 c3 e3 C))) (Yek Q a3 n3 c3 e3 h)
theorem Zxa (Q:QT) (R3:T3) (x0:List Nat) (a3:Pt) (n3 c3:Nat) (e3:Bool) (a7:Pt) (n7 c7:Nat) (e7:Bool) (x8 x9:Int) (h:Zaa) (ht:L3t Q R3 x0 a3 n3 c3 e3 a7 n7 c7 e7 x8 x9 h):Den pg fn.ntmps (C [1,1,0,1,0,0]) [(0,.str x0),(3,.slice a3 n3 c3 e3),(7,.slice a7 n7 c7 e7),(8,.int .i64 x8),(9,.int .i64 x9)] h (K3 Q R3):=
 Zaz (kp:=kp) (cast (by kernel_rfl) ht)
theorem L3ind (Q:QT) (x0:List Nat) (a7:Pt) (n7 c7:Nat) (e7:Bool) (x8:Int) {G:Type} (J:G→Pt→Nat→Nat→Bool→Int→Zaa→Prop) (m:G→Nat)
 (hr:∀ (g:G) (a3:Pt) (n3 c3:Nat) (e3:Bool) (x9:Int) (h:Zaa),J g a3 n3 c3 e3 x9 h→∀ (R3:T3),(∀ g' (a3:Pt) (n3 c3:Nat) (e3:Bool) (x9:Int) (h:Zaa),m g' < m g→J g' a3 n3 c3 e3 x9 h→R3 x0 a3 n3 c3 e3 a7 n7 c7 e7 x8 x9 h)→L3t Q R3 x0 a3 n3 c3 e3 a7 n7 c7 e7 x8 x9 h)
 (g:G) (a3:Pt) (n3 c3:Nat) (e3:Bool) (x9:Int) (h:Zaa) (hj:J g a3 n3 c3 e3 x9 h):L3 Q x0 a3 n3 c3 e3 a7 n7 c7 e7 x8 x9 h:=by
 let P:=fun (K:Pt→Nat→Nat→Bool→Int→Zaa→Prop) x0' a3 n3 c3 e3 a7' n7' c7' e7' x8' x9 h=>x0=x0'∧a7=a7'∧n7=n7'∧c7=c7'∧e7=e7'∧x8=x8'∧K a3 n3 c3 e3 x9 h
 refine Zgo.inv2 (fun g=>E3 (P (J g))) (fun g=>E3 (P fun a3 n3 c3 e3 x9 h=>∃ g',m g' < m g∧J g' a3 n3 c3 e3 x9 h)) m ?_ ?_ g ⟨rfl,rfl,rfl,rfl,rfl,rfl,hj⟩
 ·intro g env h hi
  obtain ⟨x0',a3,n3,c3,e3,a7',n7',c7',e7',x8',x9,rfl,rfl,rfl,rfl,rfl,rfl,rfl,hj⟩:=Zko hi
  exact Zxa Q _ x0 a3 n3 c3 e3 a7 n7 c7 e7 x8 x9 h (hr g a3 n3 c3 e3 x9 h hj (P fun a3 n3 c3 e3 x9 h=>∃ g',m g' < m g∧J g' a3 n3 c3 e3 x9 h) fun g' a3 n3 c3 e3 x9 h hlt hj=>⟨rfl,rfl,rfl,rfl,rfl,rfl,g',hlt,hj⟩)
 ·intro g env h hi
  obtain ⟨x0',a3,n3,c3,e3,a7',n7',c7',e7',x8',x9,rfl,rfl,rfl,rfl,rfl,rfl,rfl,g',hlt,hj⟩:=Zko hi
  exact ⟨g',hlt,rfl,rfl,rfl,rfl,rfl,rfl,hj⟩
theorem J7i (Q:QT) (R3:T3) (x9 x8:Int) (a7:Pt) (n7 c7:Nat) (e7:Bool) (x0:List Nat) (a3:Pt) (n3 c3:Nat) (e3:Bool) (h:Zaa) (ht :
 R3 x0 a3 n3 c3 e3 a7 n7 c7 e7 x8 (IntKind.wrap .i64 (x9 + 1)) h):J7 Q R3 x9 x8 a7 n7 c7 e7 x0 a3 n3 c3 e3 h:=
 Zaz (kp:=kp) (cast (by kernel_rfl) ht)
theorem A3x0i (Q:QT) (a3:Pt) (n3 c3:Nat) (e3:Bool) (h:Zaa) (ht :
 Q (.slice a3 n3 c3 e3) h):Yek Q a3 n3 c3 e3 h:=
 At.mk (cast (by kernel_rfl) ht)
theorem call (x0:List Nat) (h:Zaa) (Q:QT) (ht :
 Zec (h ++ [.cells Zbw [] false]) fun A=>Zec (A ++ [.cells Zbw [.str [88],.str [89],.str [90],.str [120],.str [121],.str [122]] false]) fun B=>L3 Q x0 (h.length,0) 0 0 true (A.length,0) 6 6 true (((6:Nat):Int)) 0 B):Zac pg Zmr [.str x0] h Q:=
 Zac.of_body kp (c:=cod fn) (fn:=fn) Go.Proofs.Try.func121 (by kernel_rfl) (by kernel_rfl) (Nat.le_of_ble_eq_true (by kernel_rfl))
  (cast (by kernel_rfl) ht)
end Zfu
namespace Zmx
noncomputable abbrev fn:Func:=Go.Proofs.Try.f80
def kp:Zcr:=[]
noncomputable def C (p:List Nat):Code:=(cod fn).sub p
def KR (Q:QT):KT:=Zhe pg fn.results.toList Q
theorem call (x0:List Nat) (h:Zaa) (Q:QT) (ht :
 Zac pg Zbu [.str x0] h fun A B=>
 Zbg A fun A=>bcase (!A) (Q (.str []) B) (Zac pg Zmr [.str x0] B fun A B=>
 xSl A fun A C D E=>Zac pg Ziy [.slice A C D E,.str []] B fun A B=>
 Zde A fun A=>Q (.str A) B)):Zac pg Zjl [.str x0] h Q:=
 Zac.of_body kp (c:=cod fn) (fn:=fn) Go.Proofs.Try.func80 (by kernel_rfl) (by kernel_rfl) (Nat.le_of_ble_eq_true (by kernel_rfl))
  (cast (by kernel_rfl) ht)
end Zmx
namespace Zlf
noncomputable abbrev fn:Func:=Go.Proofs.Try.f34
def kp:Zcr:=[]
noncomputable def C (p:List Nat):Code:=(cod fn).sub p
def KR (Q:QT):KT:=Zhe pg fn.results.toList Q
theorem call (x0:List Nat) (h:Zaa) (Q:QT) (ht :
 Zac pg Zbu [.str x0] h fun A B=>
 Zbg A fun A=>bcase A (Zac pg Zjl [.str x0] B fun A C=>
 Zde A fun A=>Q (.bool (decide (A=[]))) C) (Q (.bool false) B)):Zac pg Zhz [.str x0] h Q:=
 Zac.of_body kp (c:=cod fn) (fn:=fn) Go.Proofs.Try.func34 (by kernel_rfl) (by kernel_rfl) (Nat.le_of_ble_eq_true (by kernel_rfl))
  (cast (by kernel_rfl) ht)
end Zlf
end Go.Sim

set_option maxRecDepth 100000
set_option maxHeartbeats 0
set_option linter.unusedVariables false
namespace Go.Sim
open Go Go.RowKit
namespace Zfg
noncomputable abbrev fn:Func:=Go.Proofs.Try.f114
def kp:Zcr:=[(4000004,[3,0,4]),(3000006,[6,4]),(1000006,[0,4,6,33,34,35]),(2000008,[35,34,33,6,0,4])]
noncomputable def C (p:List Nat):Code:=(cod fn).sub p
def KR (Q:QT):KT:=Zhe pg fn.results.toList Q
abbrev T6:=Pt→Nat→Nat→Nat→Nat→Pt→Nat→Nat→Bool→Int→Int→Zaa→Prop
def E6 (R6:T6) (env:Env) (h:Zaa):Prop:=Zcq 0 env fun v env=>Zei v fun a0=>Zcq 4 env fun v env=>Zei v fun a=>Zaw a fun i4 o4=>Zcq 6 env fun v env=>Zei v fun a=>Zaw a fun i6 o6=>Zcq 33 env fun v env=>xSl v fun a33 n33 c33 e33=>Zcq 34 env fun v env=>Zhh .i64 v fun x34=>Zcq 35 env fun v env=>Zhh .i64 v fun x35=>Znu env (R6 a0 i4 o4 i6 o6 a33 n33 c33 e33 x34 x35 h)
theorem Zik {R6:T6} {env:Env} {h:Zaa} (hi:E6 R6 env h):∃ a0,∃ i4,∃ o4,∃ i6,∃ o6,∃ a33,∃ n33,∃ c33,∃ e33,∃ x34,∃ x35,env=[(0,.ptr a0),(4,.ptr (i4,o4)),(6,.ptr (i6,o6)),(33,.slice a33 n33 c33 e33),(34,.int .i64 x34),(35,.int .i64 x35)]∧R6 a0 i4 o4 i6 o6 a33 n33 c33 e33 x34 x35 h:=by
 unfold E6 at hi
 have hi0:=hi
 clear hi
 obtain ⟨_,_,rfl,hi1⟩:=Zam hi0
 obtain ⟨a0,rfl,hi2⟩:=Zbl hi1
 obtain ⟨_,_,rfl,hi3⟩:=Zam hi2
 obtain ⟨a,rfl,hi4⟩:=Zbl hi3
 obtain ⟨i4,o4,rfl,hi5⟩:=Zbp hi4
 obtain ⟨_,_,rfl,hi6⟩:=Zam hi5
 obtain ⟨a,rfl,hi7⟩:=Zbl hi6
 obtain ⟨i6,o6,rfl,hi8⟩:=Zbp hi7
 obtain ⟨_,_,rfl,hi9⟩:=Zam hi8
 obtain ⟨a33,n33,c33,e33,rfl,hi10⟩:=Zdz hi9
 obtain ⟨_,_,rfl,hi11⟩:=Zam hi10
 obtain ⟨x34,rfl,hi12⟩:=Zbi hi11
 obtain ⟨_,_,rfl,hi13⟩:=Zam hi12
 obtain ⟨x35,rfl,hi14⟩:=Zbi hi13
 obtain ⟨rfl,hi15⟩:=Zbx hi14
 have hi:=hi15
 exact ⟨a0,i4,o4,i6,o6,a33,n33,c33,e33,x34,x35,rfl,hi⟩
def K0 (Q:QT):KT:=andThen (fun env' h'=>(match kp.find 4000010 with | some ks=>Den pg fn.ntmps (C [1,1,1,1]) (env'.keep ks) h' (KR Q) | none=>den pg fn.ntmps kp (C [1,1,1,1]) env' h' (KR Q))) (KR Q)
def K1 (Q:QT):KT:=Zdv 0 (K0 Q)
def K2 (Q:QT):KT:=left kp 6 (K1 Q)
def K3 (Q:QT) (R6:T6):KT:=rnd ((kp.find 1000006).getD []) (E6 R6) (K2 Q)
def J4 (Q:QT) (i3 o3:Nat) (a0:Pt) (i4 o4:Nat) (h:Zaa):Prop:=Den pg fn.ntmps (C [1,1]) [(3,.ptr (i3,o3)),(0,.ptr a0),(4,.ptr (i4,o4))] h (KR Q)
def L6 (Q:QT) (a0:Pt) (i4 o4 i6 o6:Nat) (a33:Pt) (n33 c33:Nat) (e33:Bool) (x34 x35:Int) (h:Zaa):Prop:=Zgo (Den pg fn.ntmps (C [1,1,1,0,1,0,0])) ((kp.find 1000006).getD []) (K2 Q) [(0,.ptr a0),(4,.ptr (i4,o4)),(6,.ptr (i6,o6)),(33,.slice a33 n33 c33 e33),(34,.int .i64 x34),(35,.int .i64 x35)] h
def Zyb (Q:QT) (i6 o6 i4 o4:Nat) (h:Zaa):Prop:=At (K1 Q) (.exit 0) [(6,.ptr (i6,o6)),(4,.ptr (i4,o4))] h
theorem J4i (Q:QT) (i3 o3:Nat) (a0:Pt) (i4 o4:Nat) (h:Zaa) (ht :
 Zbr .u8 (Zaj h (.ptr (i3,o3 + 0))) fun A=>Zec (h ++ [.cells Zab [] false]) fun B=>Zec (B ++ [.cells Zab [.int .u8 0,.slice none 0 0 true] false]) fun C=>Zce (Zbc C (.ptr (B.length,0)) [.int .u8 A,.slice (h.length,0) 0 0 true]) fun A=>xSl (Zaj A (.ptr (i3,o3 + 1))) fun C D E F=>L6 Q a0 i4 o4 B.length 0 C D E F (((D:Nat):Int)) 0 A):J4 Q i3 o3 a0 i4 o4 h:=
 Zaz (kp:=kp) (cast (by kernel_rfl) ht)
def L6t (Q:QT) (R6:T6) (a0:Pt) (i4 o4 i6 o6:Nat) (a33:Pt) (n33 c33:Nat) (e33:Bool) (x34 x35:Int) (h:Zaa):Prop:=
 bcase (decide ((x35:Int) < x34)) ((0≤(x35:Int)∧(x35:Int) < (n33:Nat))∧(Zaw a33 fun A B=>Zdi (Zda h (.ptr (A,B + (Int.toNat x35) * 2)) 2) fun A=>Zal A fun A B=>Zbr .u8 A fun A=>Zal B fun B C=>xSl B fun B D E F=>Zcs C (Zec (h ++ [.cells Zab [.int .u8 0,.slice none 0 0 true] false]) fun C=>Zce (Zbc C (.ptr (h.length,0)) [.int .u8 A,.slice B D E F]) fun A=>xSl (Zaj A (.ptr (i6,o6 + 1))) fun B C D E=>Zdi (Zda A (.ptr (h.length,0)) 2) fun F=>Zal F fun F G=>Zbr .u8 F fun F=>Zal G fun G H=>xSl G fun G I J K=>Zcs H ((Zaj A (.ptr (i6,o6 + 1))=Zaj A (.ptr (i6,o6 + 1)))∧Zac pg Zip [.ptr a0,.agg [.int .u8 F,.slice G I J K]] A fun F G=>
 Zru F fun F=>Zal F fun F H=>Zbr .u8 F fun F=>Zal H fun H I=>xSl H fun H J K L=>Zcs I ((Zaj G (.ptr (i6,o6 + 1))=Zaj A (.ptr (i6,o6 + 1)))∧Zec (G ++ [.cells Zab [.int .u8 F,.slice H J K L] false]) fun A=>(Zaj A (.ptr (i6,o6 + 1))=Zaj G (.ptr (i6,o6 + 1)))∧Zdt pg Zeg A (.slice B C D E) (.slice (G.length,0) 1 1 true) fun A B=>xSl A fun A C D E=>Zce (Zbc B (.ptr (i6,o6 + 1)) [.slice A C D E]) fun A=>R6 a0 i4 o4 i6 o6 a33 n33 c33 e33 x34 (IntKind.wrap .i64 (x35 + 1)) A))))) (Zyb Q i6 o6 i4 o4 h)
theorem Ztu (Q:QT) (R6:T6) (a0:Pt) (i4 o4 i6 o6:Nat) (a33:Pt) (n33 c33:Nat) (e33:Bool) (x34 x35:Int) (h:Zaa) (ht:L6t Q R6 a0 i4 o4 i6 o6 a33 n33 c33 e33 x34 x35 h):Den pg fn.ntmps (C [1,1,1,0,1,0,0]) [(0,.ptr a0),(4,.ptr (i4,o4)),(6,.ptr (i6,o6)),(33,.slice a33 n33 c33 e33),(34,.int .i64 x34),(35,.int .i64 x35)] h (K3 Q R6):=
 Zaz (kp:=kp) (cast (by kernel_rfl) ht)
theorem L6ind (Q:QT) (a0:Pt) (i4 o4 i6 o6:Nat) (a33:Pt) (n33 c33:Nat) (e33:Bool) (x34:Int) {G:Type} (J:G→Int→Zaa→Prop) (m:G→Nat)
 (hr:∀ (g:G) (x35:Int) (h:Zaa),J g x35 h→∀ (R6:T6),(∀ g' (x35:Int) (h:Zaa),m g' < m g→J g' x35 h→R6 a0 i4 o4 i6 o6 a33 n33 c33 e33 x34 x35 h)→L6t Q R6 a0 i4 o4 i6 o6 a33 n33 c33 e33 x34 x35 h)
 (g:G) (x35:Int) (h:Zaa) (hj:J g x35 h):L6 Q a0 i4 o4 i6 o6 a33 n33 c33 e33 x34 x35 h:=by
 let P:=fun (K:Int→Zaa→Prop) a0' i4' o4' i6' o6' a33' n33' c33' e33' x34' x35 h=>a0=a0'∧i4=i4'∧o4=o4'∧i6=i6'∧o6=o6'∧a33=a33'∧n33=n33'∧c33=c33'∧e33=e33'∧x34=x34'∧K x35 h
 refine Zgo.inv2 (fun g=>E6 (P (J g))) (fun g=>E6 (P fun x35 h=>∃ g',m g' < m g∧J g' x35 h)) m ?_ ?_ g ⟨rfl,rfl,rfl,rfl,rfl,rfl,rfl,rfl,rfl,rfl,hj⟩
 ·intro g env h hi
  obtain ⟨a0',i4',o4',i6',o6',a33',n33',c33',e33',x34',x35,rfl,rfl,rfl,rfl,rfl,rfl,rfl,rfl,rfl,rfl,rfl,hj⟩:=Zik hi
  exact Ztu Q _ a0 i4 o4 i6 o6 a33 n33 c33 e33 x34 x35 h (hr g x35 h hj (P fun x35 h=>∃ g',m g' < m g∧J g' x35 h) fun g' x35 h hlt hj=>⟨rfl,rfl,rfl,rfl,rfl,rfl,rfl,rfl,rfl,rfl,g',hlt,hj⟩)
 ·intro g env h hi
  obtain ⟨a0',i4',o4',i6',o6',a33',n33',c33',e33',x34',x35,rfl,rfl,rfl,rfl,rfl,rfl,rfl,rfl,rfl,rfl,rfl,g',hlt,hj⟩:=Zik hi
  exact ⟨g',hlt,rfl,rfl,rfl,rfl,rfl,rfl,rfl,rfl,rfl,rfl,hj⟩
theorem A6x0i (Q:QT) (i6 o6 i4 o4:Nat) (h:Zaa) (ht :
 Zdi (Zda h (.ptr (i6,o6)) 2) fun A=>Zal A fun A B=>Zbr .u8 A fun A=>Zal B fun B C=>xSl B fun B D E F=>Zcs C (Zce (Zbc h (.ptr (i4,o4)) [.int .u8 A,.slice B D E F]) fun A=>Zdi (Zda A (.ptr (i4,o4)) 2) fun B=>Zal B fun B C=>Zbr .u8 B fun B=>Zal C fun C D=>xSl C fun C E F G=>Zcs D (Q (.agg [.int .u8 B,.slice C E F G]) A))):Zyb Q i6 o6 i4 o4 h:=
 At.mk (cast (by kernel_rfl) ht)
theorem call (a0:Pt) (x1x0:Int) (a1x1:Pt) (n1x1 c1x1:Nat) (e1x1:Bool) (h:Zaa) (Q:QT) (ht :
 Zec (h ++ [.cells Zab [.int .u8 x1x0,.slice a1x1 n1x1 c1x1 e1x1] false]) fun A=>Zec (A ++ [.cells Zab [.int .u8 0,.slice none 0 0 true] false]) fun B=>Zbr .u8 (Zaj B (.ptr (h.length,0 + 0))) fun C=>Zac pg Zdq [.int .u8 C] B fun B C=>
 Zbr .i64 B fun B=>bcase (decide ((B:Int) ≥ 0)) (Zaw a0 fun D E=>(0≤(B:Int)∧(B:Int) < (12:Nat))∧(Zbr .u8 (Zaj C (.ptr (D,E + (Int.toNat B) * 2 + 0))) fun D=>bcase (!((D:Int) == 0)) (Zaw a0 fun D E=>(0≤(B:Int)∧(B:Int) < (12:Nat))∧(Zdi (Zda C (.ptr (D,E + (Int.toNat B) * 2)) 2) fun B=>Zal B fun B D=>Zbr .u8 B fun B=>Zal D fun D E=>xSl D fun D F G H=>Zcs E (Zce (Zbc C (.ptr (A.length,0)) [.int .u8 B,.slice D F G H]) fun B=>Zdi (Zda B (.ptr (A.length,0)) 2) fun D=>Zal D fun D E=>Zbr .u8 D fun D=>Zal E fun E F=>xSl E fun E G H I=>Zcs F (Q (.agg [.int .u8 D,.slice E G H I]) B)))) (J4 Q h.length 0 a0 A.length 0 C))) (J4 Q h.length 0 a0 A.length 0 C)):Zac pg Zip [.ptr a0,.agg [.int .u8 x1x0,.slice a1x1 n1x1 c1x1 e1x1]] h Q:=
 Zac.of_body kp (c:=cod fn) (fn:=fn) Go.Proofs.Try.func114 (by kernel_rfl) (by kernel_rfl) (Nat.le_of_ble_eq_true (by kernel_rfl))
  (cast (by kernel_rfl) ht)
end Zfg
end Go.Sim

set_option maxRecDepth 100000
set_option maxHeartbeats 0
set_option linter.unusedVariables false
namespace Go.Sim
open Go Go.RowKit
namespace Zch
noncomputable abbrev fn:Func:=Go.Proofs.Try.f115
def kp:Zcr:=[(3000002,[2]),(1000002,[0,5,6,7]),(2000004,[36,7,6,5,0]),(4000006,[7,6,5,0])]
noncomputable def C (p:List Nat):Code:=(cod fn).sub p
def KR (Q:QT):KT:=Zhe pg fn.results.toList Q
abbrev T2:=Pt→Nat→Nat→Bool→Pt→Nat→Nat→Bool→Int→Int→Zaa→Prop
def E2 (R2:T2) (env:Env) (h:Zaa):Prop:=Zcq 0 env fun v env=>xSl v fun a0 n0 c0 e0=>Zcq 5 env fun v env=>xSl v fun a5 n5 c5 e5=>Zcq 6 env fun v env=>Zhh .i64 v fun x6=>Zcq 7 env fun v env=>Zhh .i64 v fun x7=>Znu env (R2 a0 n0 c0 e0 a5 n5 c5 e5 x6 x7 h)
theorem Zot {R2:T2} {env:Env} {h:Zaa} (hi:E2 R2 env h):∃ a0,∃ n0,∃ c0,∃ e0,∃ a5,∃ n5,∃ c5,∃ e5,∃ x6,∃ x7,env=[(0,.slice a0 n0 c0 e0),(5,.slice a5 n5 c5 e5),(6,.int .i64 x6),(7,.int .i64 x7)]∧R2 a0 n0 c0 e0 a5 n5 c5 e5 x6 x7 h:=by
 unfold E2 at hi
 repeat ((first | (have k:=Zam hi; clear hi; obtain ⟨_,_,e,hi⟩:=k) | (have k:=Zdz hi; clear hi; obtain ⟨_,_,_,_,e,hi⟩:=k) | (have k:=Zbi hi; clear hi; obtain ⟨_,e,hi⟩:=k)); subst e)
 obtain ⟨rfl,hi⟩:=Zbx hi
 exact ⟨_,_,_,_,_,_,_,_,_,_,rfl,hi⟩
def K0 (Q:QT):KT:=andThen (fun env' h'=>(match kp.find 4000007 with | some ks=>Den pg fn.ntmps (C [1,1]) (env'.keep ks) h' (KR Q) | none=>den pg fn.ntmps kp (C [1,1]) env' h' (KR Q))) (KR Q)
def K1 (Q:QT):KT:=Zdv 0 (K0 Q)
def K2 (Q:QT):KT:=left kp 2 (K1 Q)
def K3 (Q:QT) (R2:T2):KT:=rnd ((kp.find 1000002).getD []) (E2 R2) (K2 Q)
def L2 (Q:QT) (a0:Pt) (n0 c0:Nat) (e0:Bool) (a5:Pt) (n5 c5:Nat) (e5:Bool) (x6 x7:Int) (h:Zaa):Prop:=Zgo (Den pg fn.ntmps (C [1,0,1,0,0])) ((kp.find 1000002).getD []) (K2 Q) [(0,.slice a0 n0 c0 e0),(5,.slice a5 n5 c5 e5),(6,.int .i64 x6),(7,.int .i64 x7)] h
def J6 (Q:QT) (R2:T2) (x7 x6:Int) (a5:Pt) (n5 c5:Nat) (e5:Bool) (a0:Pt) (n0 c0:Nat) (e0:Bool) (h:Zaa):Prop:=Den pg fn.ntmps (C [1,0,1,0,0,1,1,1]) [(7,.int .i64 x7),(6,.int .i64 x6),(5,.slice a5 n5 c5 e5),(0,.slice a0 n0 c0 e0)] h (K3 Q R2)
def A2x0 (Q:QT) (h:Zaa):Prop:=At (K1 Q) (.exit 0) [(2,.undef)] h
def L2t (Q:QT) (R2:T2) (a0:Pt) (n0 c0:Nat) (e0:Bool) (a5:Pt) (n5 c5:Nat) (e5:Bool) (x6 x7:Int) (h:Zaa):Prop:=
 bcase (decide ((x7:Int) < x6)) ((0≤(x7:Int)∧(x7:Int) < (n5:Nat))∧(Zaw a5 fun A B=>Zdi (Zda h (.ptr (A,B + (Int.toNat x7) * 2)) 2) fun A=>Zal A fun A B=>Zde A fun A=>Zal B fun B C=>Zde B fun B=>Zcs C (Zec (h ++ [.cells Zbk [.str [],.str []] false]) fun C=>Zce (Zbc C (.ptr (h.length,0)) [.str A,.str B]) fun A=>Zde (Zaj A (.ptr (h.length,0 + 0))) fun B=>Zac pg Zcc [.str B] A fun A B=>
 Zbg A fun A=>bcase (!A) ((Zaj B (.tup [])=Zaj B (.tup []))∧Q (.bool false) B) (Zde (Zaj B (.ptr (h.length,0 + 1))) fun A=>Zac pg Zbu [.str A] B fun A B=>
 Zbg A fun A=>bcase (!A) ((Zaj B (.tup [])=Zaj B (.tup []))∧Q (.bool false) B) (bcase (decide ((x7:Int) > 0)) ((0≤(IntKind.wrap .i64 (x7 - 1):Int)∧(IntKind.wrap .i64 (x7 - 1):Int) < (n0:Nat))∧(Zaw a0 fun A C=>Zde (Zaj B (.ptr (A,C + (Int.toNat (IntKind.wrap .i64 (x7 - 1))) * 2 + 0))) fun D=>Zde (Zaj B (.ptr (h.length,0 + 0))) fun E=>(Zaj B (.ptr (A,C + (Int.toNat (IntKind.wrap .i64 (x7 - 1))) * 2 + 0))=Zaj B (.ptr (A,C + (Int.toNat (IntKind.wrap .i64 (x7 - 1))) * 2 + 0)))∧bcase (!Zen D E) (Q (.bool false) B) (J6 Q R2 x7 x6 a5 n5 c5 e5 a0 n0 c0 e0 B))) ((Zaj B (.tup [])=Zaj B (.tup []))∧J6 Q R2 x7 x6 a5 n5 c5 e5 a0 n0 c0 e0 B)))))) (A2x0 Q h)
theorem Yet (Q:QT) (R2:T2) (a0:Pt) (n0 c0:Nat) (e0:Bool) (a5:Pt) (n5 c5:Nat) (e5:Bool) (x6 x7:Int) (h:Zaa) (ht:L2t Q R2 a0 n0 c0 e0 a5 n5 c5 e5 x6 x7 h):Den pg fn.ntmps (C [1,0,1,0,0]) [(0,.slice a0 n0 c0 e0),(5,.slice a5 n5 c5 e5),(6,.int .i64 x6),(7,.int .i64 x7)] h (K3 Q R2):=
 Zaz (kp:=kp) (cast (by kernel_rfl) ht)
theorem L2ind (Q:QT) (a0:Pt) (n0 c0:Nat) (e0:Bool) (a5:Pt) (n5 c5:Nat) (e5:Bool) (x6:Int) {G:Type} (J:G→Int→Zaa→Prop) (m:G→Nat)
 (hr:∀ (g:G) (x7:Int) (h:Zaa),J g x7 h→∀ (R2:T2),(∀ g' (x7:Int) (h:Zaa),m g' < m g→J g' x7 h→R2 a0 n0 c0 e0 a5 n5 c5 e5 x6 x7 h)→L2t Q R2 a0 n0 c0 e0 a5 n5 c5 e5 x6 x7 h)
 (g:G) (x7:Int) (h:Zaa) (hj:J g x7 h):L2 Q a0 n0 c0 e0 a5 n5 c5 e5 x6 x7 h:=by
 let P:=fun (K:Int→Zaa→Prop) a0' n0' c0' e0' a5' n5' c5' e5' x6' x7 h=>a0=a0'∧n0=n0'∧c0=c0'∧e0=e0'∧a5=a5'∧n5=n5'∧c5=c5'∧e5=e5'∧x6=x6'∧K x7 h
 refine Zgo.inv2 (fun g=>E2 (P (J g))) (fun g=>E2 (P fun x7 h=>∃ g',m g' < m g∧J g' x7 h)) m ?_ ?_ g ⟨rfl,rfl,rfl,rfl,rfl,rfl,rfl,rfl,rfl,hj⟩
 ·intro g env h hi
  obtain ⟨a0',n0',c0',e0',a5',n5',c5',e5',x6',x7,rfl,rfl,rfl,rfl,rfl,rfl,rfl,rfl,rfl,rfl,hj⟩:=Zot hi
  exact Yet Q _ a0 n0 c0 e0 a5 n5 c5 e5 x6 x7 h (hr g x7 h hj (P fun x7 h=>∃ g',m g' < m g∧J g' x7 h) fun g' x7 h hlt hj=>⟨rfl,rfl,rfl,rfl,rfl,rfl,rfl,rfl,rfl,g',hlt,hj⟩)
 ·intro g env h hi
  obtain ⟨a0',n0',c0',e0',a5',n5',c5',e5',x6',x7,rfl,rfl,rfl,rfl,rfl,rfl,rfl,rfl,rfl,rfl,g',hlt,hj⟩:=Zot hi
  exact ⟨g',hlt,rfl,rfl,rfl,rfl,rfl,rfl,rfl,rfl,rfl,hj⟩
theorem J6i (Q:QT) (R2:T2) (x7 x6:Int) (a5:Pt) (n5 c5:Nat) (e5:Bool) (a0:Pt) (n0 c0:Nat) (e0:Bool) (h:Zaa) (ht :
 R2 a0 n0 c0 e0 a5 n5 c5 e5 x6 (IntKind.wrap .i64 (x7 + 1)) h):J6 Q R2 x7 x6 a5 n5 c5 e5 a0 n0 c0 e0 h:=
 Zaz (kp:=kp) (cast (by kernel_rfl) ht)
theorem A2x0i (Q:QT) (h:Zaa) (ht :
 Q (.bool true) h):A2x0 Q h:=
 At.mk (cast (by kernel_rfl) ht)
theorem call (a0:Pt) (n0 c0:Nat) (e0:Bool) (h:Zaa) (Q:QT) (ht :
 L2 Q a0 n0 c0 e0 a0 n0 c0 e0 (((n0:Nat):Int)) 0 h):Zac pg Zfm [.slice a0 n0 c0 e0] h Q:=
 Zac.of_body kp (c:=cod fn) (fn:=fn) Go.Proofs.Try.func115 (by kernel_rfl) (by kernel_rfl) (Nat.le_of_ble_eq_true (by kernel_rfl))
  (cast (by kernel_rfl) ht)
end Zch
namespace Zbq
noncomputable abbrev fn:Func:=Go.Proofs.Try.f74
def kp:Zcr:=[(4000003,[1,0]),(3000005,[6]),(1000005,[0,1,6,20,21]),(3000009,[6,8,21,20,1,0]),(1000009,[0,1,6,8,20,21,29,30,31])]
noncomputable def C (p:List Nat):Code:=(cod fn).sub p
def KR (Q:QT):KT:=Zhe pg fn.results.toList Q
abbrev T5:=Pt→Nat→Nat→Bool→List Nat→List Nat→Int→Int→Zaa→Prop
def E5 (R5:T5) (env:Env) (h:Zaa):Prop:=Zcq 0 env fun v env=>xSl v fun a0 n0 c0 e0=>Zcq 1 env fun v env=>Zde v fun x1=>Zcq 6 env fun v env=>Zde v fun x6=>Zcq 20 env fun v env=>Zhh .i64 v fun x20=>Zcq 21 env fun v env=>Zhh .i64 v fun x21=>Znu env (R5 a0 n0 c0 e0 x1 x6 x20 x21 h)
theorem Zks {R5:T5} {env:Env} {h:Zaa} (hi:E5 R5 env h):∃ a0,∃ n0,∃ c0,∃ e0,∃ x1,∃ x6,∃ x20,∃ x21,env=[(0,.slice a0 n0 c0 e0),(1,.str x1),(6,.str x6),(20,.int .i64 x20),(21,.int .i64 x21)]∧R5 a0 n0 c0 e0 x1 x6 x20 x21 h:=by
 unfold E5 at hi
 repeat ((first | (have k:=Zam hi; clear hi; obtain ⟨_,_,e,hi⟩:=k) | (have k:=Zia hi; clear hi; obtain ⟨_,e,hi⟩:=k) | (have k:=Zdz hi; clear hi; obtain ⟨_,_,_,_,e,hi⟩:=k) | (have k:=Zbi hi; clear hi; obtain ⟨_,e,hi⟩:=k)); subst e)
 obtain ⟨rfl,hi⟩:=Zbx hi
 exact ⟨_,_,_,_,_,_,_,_,rfl,hi⟩
abbrev T9:=Pt→Nat→Nat→Bool→List Nat→List Nat→List Nat→Int→Int→Pt→Nat→Nat→Bool→Int→Int→Zaa→Prop
def E9 (R9:T9) (env:Env) (h:Zaa):Prop:=Zcq 0 env fun v env=>xSl v fun a0 n0 c0 e0=>Zcq 1 env fun v env=>Zde v fun x1=>Zcq 6 env fun v env=>Zde v fun x6=>Zcq 8 env fun v env=>Zde v fun x8=>Zcq 20 env fun v env=>Zhh .i64 v fun x20=>Zcq 21 env fun v env=>Zhh .i64 v fun x21=>Zcq 29 env fun v env=>xSl v fun a29 n29 c29 e29=>Zcq 30 env fun v env=>Zhh .i64 v fun x30=>Zcq 31 env fun v env=>Zhh .i64 v fun x31=>Znu env (R9 a0 n0 c0 e0 x1 x6 x8 x20 x21 a29 n29 c29 e29 x30 x31 h)
theorem Zuc {R9:T9} {env:Env} {h:Zaa} (hi:E9 R9 env h):∃ a0,∃ n0,∃ c0,∃ e0,∃ x1,∃ x6,∃ x8,∃ x20,∃ x21,∃ a29,∃ n29,∃ c29,∃ e29,∃ x30,∃ x31,env=[(0,.slice a0 n0 c0 e0),(1,.str x1),(6,.str x6),(8,.str x8),(20,.int .i64 x20),(21,.int .i64 x21),(29,.slice a29 n29 c29 e29),(30,.int .i64 x30),(31,.int .i64 x31)]∧R9 a0 n0 c0 e0 x1 x6 x8 x20 x21 a29 n29 c29 e29 x30 x31 h:=by
 unfold E9 at hi
 repeat ((first | (have k:=Zam hi; clear hi; obtain ⟨_,_,e,hi⟩:=k) | (have k:=Zia hi; clear hi; obtain ⟨_,e,hi⟩:=k) | (have k:=Zdz hi; clear hi; obtain ⟨_,_,_,_,e,hi⟩:=k) | (have k:=Zbi hi; clear hi; obtain ⟨_,e,hi⟩:=k)); subst e)
 obtain ⟨rfl,hi⟩:=Zbx hi
 exact ⟨_,_,_,_,_,_,_,_,_,_,_,_,_,_,_,rfl,hi⟩
def K0 (Q:QT):KT:=andThen (fun env' h'=>(match kp.find 4000016 with | some ks=>Den pg fn.ntmps (C [1,1,1,1]) (env'.keep ks) h' (KR Q) | none=>den pg fn.ntmps kp (C [1,1,1,1]) env' h' (KR Q))) (KR Q)
def K1 (Q:QT):KT:=Zdv 0 (K0 Q)
def K2 (Q:QT):KT:=left kp 5 (K1 Q)
def K3 (Q:QT) (R5:T5):KT:=rnd ((kp.find 1000005).getD []) (E5 R5) (K2 Q)
def K4 (Q:QT) (R5:T5):KT:=andThen (fun env' h'=>(match kp.find 4000015 with | some ks=>Den pg fn.ntmps (C [1,1,1,0,1,0,0,1,1,1]) (env'.keep ks) h' (K3 Q R5) | none=>den pg fn.ntmps kp (C [1,1,1,0,1,0,0,1,1,1]) env' h' (K3 Q R5))) (K3 Q R5)
def K5 (Q:QT) (R5:T5):KT:=Zdv 1 (K4 Q R5)
def K6 (Q:QT) (R5:T5):KT:=andThen (fun env' h'=>(match kp.find 4000014 with | some ks=>Den pg fn.ntmps (C [1,1,1,0,1,0,0,1,1,0,0,1,1,1]) (env'.keep ks) h' (K5 Q R5) | none=>den pg fn.ntmps kp (C [1,1,1,0,1,0,0,1,1,0,0,1,1,1]) env' h' (K5 Q R5))) (K5 Q R5)
def K7 (Q:QT) (R5:T5):KT:=Zdv 2 (K6 Q R5)
def K8 (Q:QT) (R5:T5):KT:=left kp 9 (K7 Q R5)
def K9 (Q:QT) (R5:T5) (R9:T9):KT:=rnd ((kp.find 1000009).getD []) (E9 R9) (K8 Q R5)
def J3 (Q:QT) (x1:List Nat) (a0:Pt) (n0 c0:Nat) (e0:Bool) (h:Zaa):Prop:=Den pg fn.ntmps (C [1,1]) [(1,.str x1),(0,.slice a0 n0 c0 e0)] h (KR Q)
def L5 (Q:QT) (a0:Pt) (n0 c0:Nat) (e0:Bool) (x1 x6:List Nat) (x20 x21:Int) (h:Zaa):Prop:=Zgo (Den pg fn.ntmps (C [1,1,1,0,1,0,0])) ((kp.find 1000005).getD []) (K2 Q) [(0,.slice a0 n0 c0 e0),(1,.str x1),(6,.str x6),(20,.int .i64 x20),(21,.int .i64 x21)] h
def L9 (Q:QT) (R5:T5) (a0:Pt) (n0 c0:Nat) (e0:Bool) (x1 x6 x8:List Nat) (x20 x21:Int) (a29:Pt) (n29 c29:Nat) (e29:Bool) (x30 x31:Int) (h:Zaa):Prop:=Zgo (Den pg fn.ntmps (C [1,1,1,0,1,0,0,1,1,0,0,1,1,0,1,0,0])) ((kp.find 1000009).getD []) (K8 Q R5) [(0,.slice a0 n0 c0 e0),(1,.str x1),(6,.str x6),(8,.str x8),(20,.int .i64 x20),(21,.int .i64 x21),(29,.slice a29 n29 c29 e29),(30,.int .i64 x30),(31,.int .i64 x31)] h
def A5x0 (Q:QT) (x6:List Nat) (h:Zaa):Prop:=At (K1 Q) (.exit 0) [(6,.str x6)] h
def A9x2 (Q:QT) (R5:T5) (x6 x8:List Nat) (x21 x20:Int) (x1:List Nat) (a0:Pt) (n0 c0:Nat) (e0:Bool) (h:Zaa):Prop:=At (K7 Q R5) (.exit 2) [(6,.str x6),(8,.str x8),(21,.int .i64 x21),(20,.int .i64 x20),(1,.str x1),(0,.slice a0 n0 c0 e0)] h
theorem J3i (Q:QT) (x1:List Nat) (a0:Pt) (n0 c0:Nat) (e0:Bool) (h:Zaa) (ht :
 L5 Q a0 n0 c0 e0 x1 [] (((List.length x1:Nat):Int)) 0 h):J3 Q x1 a0 n0 c0 e0 h:=
 Zaz (kp:=kp) (cast (by kernel_rfl) ht)
def L5t (Q:QT) (R5:T5) (a0:Pt) (n0 c0:Nat) (e0:Bool) (x1 x6:List Nat) (x20 x21:Int) (h:Zaa):Prop:=
 bcase (decide ((x21:Int) < x20)) ((0≤(x21:Int)∧(x21:Int)≤IntKind.wrap .i64 (x21 + 1)∧(IntKind.wrap .i64 (x21 + 1):Int)≤(List.length x1:Nat))∧(L9 Q R5 a0 n0 c0 e0 x1 x6 (sub x1 x21 (IntKind.wrap .i64 (x21 + 1))) x20 x21 a0 n0 c0 e0 (((n0:Nat):Int)) 0 h)) (A5x0 Q x6 h)
theorem Zxn (Q:QT) (R5:T5) (a0:Pt) (n0 c0:Nat) (e0:Bool) (x1 x6:List Nat) (x20 x21:Int) (h:Zaa) (ht:L5t Q R5 a0 n0 c0 e0 x1 x6 x20 x21 h):Den pg fn.ntmps (C [1,1,1,0,1,0,0]) [(0,.slice a0 n0 c0 e0),(1,.str x1),(6,.str x6),(20,.int .i64 x20),(21,.int .i64 x21)] h (K3 Q R5):=
 Zaz (kp:=kp) (cast (by kernel_rfl) ht)
theorem L5ind (Q:QT) (a0:Pt) (n0 c0:Nat) (e0:Bool) (x1:List Nat) (x20:Int) {G:Type} (J:G→List Nat→Int→Zaa→Prop) (m:G→Nat)
 (hr:∀ (g:G) (x6:List Nat) (x21:Int) (h:Zaa),J g x6 x21 h→∀ (R5:T5),(∀ g' (x6:List Nat) (x21:Int) (h:Zaa),m g' < m g→J g' x6 x21 h→R5 a0 n0 c0 e0 x1 x6 x20 x21 h)→L5t Q R5 a0 n0 c0 e0 x1 x6 x20 x21 h)
 (g:G) (x6:List Nat) (x21:Int) (h:Zaa) (hj:J g x6 x21 h):L5 Q a0 n0 c0 e0 x1 x6 x20 x21 h:=by
 let P:=fun (K:List Nat→Int→Zaa→Prop) a0' n0' c0' e0' x1' x6 x20' x21 h=>a0=a0'∧n0=n0'∧c0=c0'∧e0=e0'∧x1=x1'∧x20=x20'∧K x6 x21 h
 refine Zgo.inv2 (fun g=>E5 (P (J g))) (fun g=>E5 (P fun x6 x21 h=>∃ g',m g' < m g∧J g' x6 x21 h)) m ?_ ?_ g ⟨rfl,rfl,rfl,rfl,rfl,rfl,hj⟩
 ·intro g env h hi
  obtain ⟨a0',n0',c0',e0',x1',x6,x20',x21,rfl,rfl,rfl,rfl,rfl,rfl,rfl,hj⟩:=Zks hi
  exact Zxn Q _ a0 n0 c0 e0 x1 x6 x20 x21 h (hr g x6 x21 h hj (P fun x6 x21 h=>∃ g',m g' < m g∧J g' x6 x21 h) fun g' x6 x21 h hlt hj=>⟨rfl,rfl,rfl,rfl,rfl,rfl,g',hlt,hj⟩)
 ·intro g env h hi
  obtain ⟨a0',n0',c0',e0',x1',x6,x20',x21,rfl,rfl,rfl,rfl,rfl,rfl,rfl,g',hlt,hj⟩:=Zks hi
  exact ⟨g',hlt,rfl,rfl,rfl,rfl,rfl,rfl,hj⟩
def L9t (Q:QT) (R5:T5) (R9:T9) (a0:Pt) (n0 c0:Nat) (e0:Bool) (x1 x6 x8:List Nat) (x20 x21:Int) (a29:Pt) (n29 c29:Nat) (e29:Bool) (x30 x31:Int) (h:Zaa):Prop:=
 bcase (decide ((x31:Int) < x30)) ((0≤(x31:Int)∧(x31:Int) < (n29:Nat))∧(Zaw a29 fun A B=>Zdi (Zda h (.ptr (A,B + (Int.toNat x31) * 2)) 2) fun A=>Zal A fun A B=>Zde A fun A=>Zal B fun B C=>Zde B fun B=>Zcs C (Zec (h ++ [.cells Zbk [.str [],.str []] false]) fun C=>Zce (Zbc C (.ptr (h.length,0)) [.str A,.str B]) fun A=>Zde (Zaj A (.ptr (h.length,0 + 0))) fun B=>bcase (decide (B=x8)) (Zde (Zaj A (.ptr (h.length,0 + 1))) fun B=>A9x2 Q R5 x6 B x21 x20 x1 a0 n0 c0 e0 A) (R9 a0 n0 c0 e0 x1 x6 x8 x20 x21 a29 n29 c29 e29 x30 (IntKind.wrap .i64 (x31 + 1)) A)))) (A9x2 Q R5 x6 x8 x21 x20 x1 a0 n0 c0 e0 h)
theorem Yih (Q:QT) (R5:T5) (R9:T9) (a0:Pt) (n0 c0:Nat) (e0:Bool) (x1 x6 x8:List Nat) (x20 x21:Int) (a29:Pt) (n29 c29:Nat) (e29:Bool) (x30 x31:Int) (h:Zaa) (ht:L9t Q R5 R9 a0 n0 c0 e0 x1 x6 x8 x20 x21 a29 n29 c29 e29 x30 x31 h):Den pg fn.ntmps (C [1,1,1,0,1,0,0,1,1,0,0,1,1,0,1,0,0]) [(0,.slice a0 n0 c0 e0),(1,.str x1),(6,.str x6),(8,.str x8),(20,.int .i64 x20),(21,.int .i64 x21),(29,.slice a29 n29 c29 e29),(30,.int .i64 x30),(31,.int .i64 x31)] h (K9 Q R5 R9):=
 Zaz (kp:=kp) (cast (by kernel_rfl) ht)
theorem L9ind (Q:QT) (R5:T5) (a0:Pt) (n0 c0:Nat) (e0:Bool) (x1 x6:List Nat) (x20 x21:Int) (a29:Pt) (n29 c29:Nat) (e29:Bool) (x30:Int) {G:Type} (J:G→List Nat→Int→Zaa→Prop) (m:G→Nat)
 (hr:∀ (g:G) (x8:List Nat) (x31:Int) (h:Zaa),J g x8 x31 h→∀ (R9:T9),(∀ g' (x8:List Nat) (x31:Int) (h:Zaa),m g' < m g→J g' x8 x31 h→R9 a0 n0 c0 e0 x1 x6 x8 x20 x21 a29 n29 c29 e29 x30 x31 h)→L9t Q R5 R9 a0 n0 c0 e0 x1 x6 x8 x20 x21 a29 n29 c29 e29 x30 x31 h)
 (g:G) (x8:List Nat) (x31:Int) (h:Zaa) (hj:J g x8 x31 h):L9 Q R5 a0 n0 c0 e0 x1 x6 x8 x20 x21 a29 n29 c29 e29 x30 x31 h:=by
 let P:=fun (K:List Nat→Int→Zaa→Prop) a0' n0' c0' e0' x1' x6' x8 x20' x21' a29' n29' c29' e29' x30' x31 h=>a0=a0'∧n0=n0'∧c0=c0'∧e0=e0'∧x1=x1'∧x6=x6'∧x20=x20'∧x21=x21'∧a29=a29'∧n29=n29'∧c29=c29'∧e29=e29'∧x30=x30'∧K x8 x31 h
 refine Zgo.inv2 (fun g=>E9 (P (J g))) (fun g=>E9 (P fun x8 x31 h=>∃ g',m g' < m g∧J g' x8 x31 h)) m ?_ ?_ g ⟨rfl,rfl,rfl,rfl,rfl,rfl,rfl,rfl,rfl,rfl,rfl,rfl,rfl,hj⟩
 ·intro g env h hi
  obtain ⟨a0',n0',c0',e0',x1',x6',x8,x20',x21',a29',n29',c29',e29',x30',x31,rfl,rfl,rfl,rfl,rfl,rfl,rfl,rfl,rfl,rfl,rfl,rfl,rfl,rfl,hj⟩:=Zuc hi
  exact Yih Q R5 (P fun x8 x31 h=>∃ g',m g' < m g∧J g' x8 x31 h) a0 n0 c0 e0 x1 x6 x8 x20 x21 a29 n29 c29 e29 x30 x31 h (hr g x8 x31 h hj (P fun x8 x31 h=>∃ g',m g' < m g∧J g' x8 x31 h) fun g' x8 x31 h hlt hj=>⟨rfl,rfl,rfl,rfl,rfl,rfl,rfl,rfl,rfl,rfl,rfl,rfl,rfl,g',hlt,hj⟩)
 ·intro g env h hi
  obtain ⟨a0',n0',c0',e0',x1',x6',x8,x20',x21',a29',n29',c29',e29',x30',x31,rfl,rfl,rfl,rfl,rfl,rfl,rfl,rfl,rfl,rfl,rfl,rfl,rfl,rfl,g',hlt,hj⟩:=Zuc hi
  exact ⟨g',hlt,rfl,rfl,rfl,rfl,rfl,rfl,rfl,rfl,rfl,rfl,rfl,rfl,rfl,hj⟩
theorem A5x0i (Q:QT) (x6:List Nat) (h:Zaa) (ht :
 bcase (decide (((((List.length x6:Nat):Int)):Int) > 60)) (Q (.tup [.str [],.bool false]) h) (Q (.tup [.str x6,.bool true]) h)):A5x0 Q x6 h:=
 At.mk (cast (by kernel_rfl) ht)
theorem A9x2i (Q:QT) (R5:T5) (x6 x8:List Nat) (x21 x20:Int) (x1:List Nat) (a0:Pt) (n0 c0:Nat) (e0:Bool) (h:Zaa) (ht :
 List.length x6 + List.length x8≤9223372036854775807∧(R5 a0 n0 c0 e0 x1 (x6 ++ x8) x20 (IntKind.wrap .i64 (x21 + 1)) h)):A9x2 Q R5 x6 x8 x21 x20 x1 a0 n0 c0 e0 h:=
 At.mk (cast (by kernel_rfl) ht)
theorem call (a0:Pt) (n0 c0:Nat) (e0:Bool) (x1:List Nat) (h:Zaa) (Q:QT) (ht :
 Zac pg Zfm [.slice a0 n0 c0 e0] h fun A B=>
 Zbg A fun A=>bcase (!A) (Q (.tup [.str [],.bool false]) B) (Zac pg Zbu [.str x1] B fun A B=>
 Zbg A fun A=>bcase (!A) (Q (.tup [.str [],.bool false]) B) (J3 Q x1 a0 n0 c0 e0 B))):Zac pg Zfl [.slice a0 n0 c0 e0,.str x1] h Q:=
 Zac.of_body kp (c:=cod fn) (fn:=fn) Go.Proofs.Try.func74 (by kernel_rfl) (by kernel_rfl) (Nat.le_of_ble_eq_true (by kernel_rfl))
  (cast (by kernel_rfl) ht)
end Zbq
end Go.Sim

set_option maxRecDepth 100000
set_option maxHeartbeats 0
set_option linter.unusedVariables false
namespace Go.Sim
open Go Go.RowKit
end Go.Sim

set_option maxRecDepth 100000
set_option maxHeartbeats 0
set_option linter.unusedVariables false
namespace Go.Sim
open Go Go.RowKit
namespace Zcg
noncomputable abbrev fn:Func:=Go.Proofs.Try.f21
def kp:Zcr:=[(4000003,[0,1]),(4000007,[6]),(3000009,[9,4,5]),(1000009,[9,40])]
noncomputable def C (p:List Nat):Code:=(cod fn).sub p
def KR (Q:QT):KT:=Zhe pg fn.results.toList Q
abbrev T9:=Option Nat→Nat→Zaa→Prop
def E9 (R9:T9) (env:Env) (h:Zaa):Prop:=Zcq 9 env fun v env=>Zxx v fun m9=>Zcq 40 env fun v env=>Yhy v fun r40=>Znu env (R9 m9 r40 h)
theorem Zuc {R9:T9} {env:Env} {h:Zaa} (hi:E9 R9 env h):∃ m9,∃ r40,env=[(9,.map m9),(40,.iter r40)]∧R9 m9 r40 h:=by
 unfold E9 at hi
 have hi0:=hi
 clear hi
 obtain ⟨_,_,rfl,hi1⟩:=Zam hi0
 obtain ⟨m9,rfl,hi2⟩:=Zkn hi1
 obtain ⟨_,_,rfl,hi3⟩:=Zam hi2
 obtain ⟨r40,rfl,hi4⟩:=Ybi hi3
 obtain ⟨rfl,hi5⟩:=Zbx hi4
 have hi:=hi5
 exact ⟨m9,r40,rfl,hi⟩
def K0 (Q:QT):KT:=andThen (fun env' h'=>(match kp.find 4000016 with | some ks=>Den pg fn.ntmps (C [1,1,1,1,1,1,1]) (env'.keep ks) h' (KR Q) | none=>den pg fn.ntmps kp (C [1,1,1,1,1,1,1]) env' h' (KR Q))) (KR Q)
def K1 (Q:QT):KT:=Zdv 0 (K0 Q)
def K2 (Q:QT):KT:=left kp 9 (K1 Q)
def K3 (Q:QT) (R9:T9):KT:=rnd ((kp.find 1000009).getD []) (E9 R9) (K2 Q)
def J3 (Q:QT) (x0 x1:List Nat) (h:Zaa):Prop:=Den pg fn.ntmps (C [1,1]) [(0,.str x0),(1,.str x1)] h (KR Q)
def J7 (Q:QT) (m6:Option Nat) (h:Zaa):Prop:=Den pg fn.ntmps (C [1,1,1,1,1]) [(6,.map m6)] h (KR Q)
def L9 (Q:QT) (m9:Option Nat) (r40:Nat) (h:Zaa):Prop:=Zgo (Den pg fn.ntmps (C [1,1,1,1,1,1,0,1,0,0])) ((kp.find 1000009).getD []) (K2 Q) [(9,.map m9),(40,.iter r40)] h
def A9x0 (Q:QT) (m9:Option Nat) (h:Zaa):Prop:=At (K1 Q) (.exit 0) [(9,.map m9),(4,.undef),(5,.undef)] h
theorem J3i (Q:QT) (x0 x1:List Nat) (h:Zaa) (ht :
 Zec (h ++ [.map [] 0]) fun A=>Zac pg Zfy [.str x0,.map ((some h.length))] A fun A B=>
 Zei A fun A=>Zac pg Zfy [.str x1,.map ((some h.length))] B fun B C=>
 Zei B fun B=>Zac pg Zhc [.ptr A,.ptr B] C fun B C=>
 Zbg B fun B=>bcase (!B) (Q (.tup [.slice none 0 0 true,.bool false]) C) (Zac pg Zfp [.ptr A] C fun A B=>
 Zbg A fun A=>bcase (!A) (Q (.tup [.slice none 0 0 true,.bool false]) B) (J7 Q ((some h.length)) B))):J3 Q x0 x1 h:=
 Zaz (kp:=kp) (cast (by kernel_rfl) ht)
theorem J7i (Q:QT) (m6:Option Nat) (h:Zaa) (ht :
 Zec (h ++ [.map [] 0]) fun A=>Zbt A m6 fun es_20 k_21=>Zec (A ++ [.miter m6 (Yjv m6 k_21) [] (Yjv m6 k_21)]) fun B=>L9 Q ((some h.length)) A.length B):J7 Q m6 h:=
 Zaz (kp:=kp) (cast (by kernel_rfl) ht)
def L9t (Q:QT) (R9:T9) (m9:Option Nat) (r40:Nat) (h:Zaa):Prop:=
 Zly h r40 fun m_23 A z_25 B=>Yjm m_23 (A9x0 Q m9 h) (Zbt h m_23 fun es_27 k_28=>((∀ e∈es_27,e.2.2 < A)∧A≤B)∧((∀ e∈es_27,e.2.2∈z_25)→A9x0 Q m9 h)∧∀ B∈es_27,B.2.2 ∉ z_25→Zsa (some B.1) fun C=>Zsa (some B.2.1) fun C=>Zec (List.set h r40 (.miter m_23 A (z_25 ++ [B.2.2]) k_28)) fun A=>Zly A r40 fun m_33 B z_36 B=>xMp m_33 fun C=>Zbt A (some C) fun es_38 k_39=>((List.map (fun (e:ME)=>e.2.2) es_38).Nodup∧k_39=B)∧∃ B∈es_38,∃ z_41,z_36=z_41 ++ [B.2.2]∧Zsa (some B.1) fun C=>Zsa (some B.2.1) fun B=>Zac pg Zdu [B] A fun A D=>
 Zei A fun A=>Zei B fun E=>Zmy D A E fun A=>bcase A (R9 m9 r40 D) (Zac pg Zfq [B,.fn Znw []] D fun A B=>
 Zrs A fun A=>Zal A fun A D=>Zde A fun A=>Zal D fun D E=>Zbg D fun D=>Zcs E (bcase (!D) (Q (.tup [.slice none 0 0 true,.bool false]) B) (xMp m9 fun D=>Zde C fun C=>Zbt B (some D) fun es_60 k_61=>Zzc es_60 k_61 C (.str A) fun es_62 k_63=>Zec (List.set B D (.map es_62 k_63)) fun A=>R9 m9 r40 A))))
theorem Yih (Q:QT) (R9:T9) (m9:Option Nat) (r40:Nat) (h:Zaa) (ht:L9t Q R9 m9 r40 h):Den pg fn.ntmps (C [1,1,1,1,1,1,0,1,0,0]) [(9,.map m9),(40,.iter r40)] h (K3 Q R9):=
 Zaz (kp:=kp) (cast (by kernel_rfl) ht)
theorem L9ind (Q:QT) (m9:Option Nat) (r40:Nat) {G:Type} (J:G→Zaa→Prop) (m:G→Nat)
 (hr:∀ (g:G) (h:Zaa),J g  h→∀ (R9:T9),(∀ g' (h:Zaa),m g' < m g→J g'  h→R9 m9 r40 h)→L9t Q R9 m9 r40 h)
 (g:G) (h:Zaa) (hj:J g  h):L9 Q m9 r40 h:=by
 let P:=fun (K:Zaa→Prop) m9' r40' h=>m9=m9'∧r40=r40'∧K  h
 refine Zgo.inv2 (fun g=>E9 (P (J g))) (fun g=>E9 (P fun  h=>∃ g',m g' < m g∧J g'  h)) m ?_ ?_ g ⟨rfl,rfl,hj⟩
 ·intro g env h hi
  obtain ⟨m9',r40',rfl,rfl,rfl,hj⟩:=Zuc hi
  exact Yih Q _ m9 r40 h (hr g  h hj (P fun  h=>∃ g',m g' < m g∧J g'  h) fun g'  h hlt hj=>⟨rfl,rfl,g',hlt,hj⟩)
 ·intro g env h hi
  obtain ⟨m9',r40',rfl,rfl,rfl,g',hlt,hj⟩:=Zuc hi
  exact ⟨g',hlt,rfl,rfl,hj⟩
theorem A9x0i (Q:QT) (m9:Option Nat) (h:Zaa) (ht :
 Zac pg Zgj [.map m9] h fun A B=>
 xSl A fun A C D E=>Q (.tup [.slice A C D E,.bool true]) B):A9x0 Q m9 h:=
 At.mk (cast (by kernel_rfl) ht)
theorem call (x0 x1:List Nat) (h:Zaa) (Q:QT) (ht :
 Zac pg Zbu [.str x0] h fun A B=>
 Zbg A fun A=>bcase (!A) (Q (.tup [.slice none 0 0 true,.bool false]) B) (Zac pg Zbu [.str x1] B fun A B=>
 Zbg A fun A=>bcase (!A) (Q (.tup [.slice none 0 0 true,.bool false]) B) (J3 Q x0 x1 B))):Zac pg Zgv [.str x0,.str x1] h Q:=
 Zac.of_body kp (c:=cod fn) (fn:=fn) Go.Proofs.Try.func21 (by kernel_rfl) (by kernel_rfl) (Nat.le_of_ble_eq_true (by kernel_rfl))
  (cast (by kernel_rfl) ht)
end Zcg
namespace Znq
noncomputable abbrev fn:Func:=Go.Proofs.Try.f28
def kp:Zcr:=[]
noncomputable def C (p:List Nat):Code:=(cod fn).sub p
def KR (Q:QT):KT:=Zhe pg fn.results.toList Q
theorem call (x0 x1:List Nat) (h:Zaa) (Q:QT) (ht :
 Zac pg Zgv [.str x0,.str x1] h fun A B=>
 Zrs A fun A=>Zal A fun A C=>xSl A fun A D E F=>Zal C fun C G=>Zbg C fun C=>Zcs G (bcase (!C) (Q (.tup [.str [],.bool false]) B) (Zac pg Zfl [.slice A D E F,.str x0] B fun A B=>
 Zrs A fun A=>Zal A fun A C=>Zde A fun A=>Zal C fun C D=>Zbg C fun C=>Zcs D (Q (.tup [.str A,.bool C]) B)))):Zac pg Zjt [.str x0,.str x1] h Q:=
 Zac.of_body kp (c:=cod fn) (fn:=fn) Go.Proofs.Try.func28 (by kernel_rfl) (by kernel_rfl) (Nat.le_of_ble_eq_true (by kernel_rfl))
  (cast (by kernel_rfl) ht)
end Znq
end Go.Sim

set_option maxRecDepth 100000
set_option maxHeartbeats 0
set_option linter.unusedVariables false
namespace Go.Sim
open Go Go.RowKit
namespace Zos
noncomputable abbrev fn:Func:=Go.Proofs.Try.f55
def kp:Zcr:=[]
noncomputable def C (p:List Nat):Code:=(cod fn).sub p
def KR (Q:QT):KT:=Zhe pg fn.results.toList Q
theorem call (x0:List Nat) (m1:Option Nat) (h:Zaa) (Q:QT) (ht :
 Zac pg Zfb [.str x0] h fun A B=>
 Zrs A fun A=>Zal A fun A C=>Zei A fun A=>Zal C fun C D=>Zde C fun C=>Zcs D (Zac pg Zfh [.ptr A,.map m1] B fun A B=>
 Zei A fun A=>Q (.ptr A) B)):Zac pg Zfy [.str x0,.map m1] h Q:=
 Zac.of_body kp (c:=cod fn) (fn:=fn) Go.Proofs.Try.func55 (by kernel_rfl) (by kernel_rfl) (Nat.le_of_ble_eq_true (by kernel_rfl))
  (cast (by kernel_rfl) ht)
end Zos
namespace Zii
noncomputable abbrev fn:Func:=Go.Proofs.Try.f30
def kp:Zcr:=[(4000003,[0,1])]
noncomputable def C (p:List Nat):Code:=(cod fn).sub p
def KR (Q:QT):KT:=Zhe pg fn.results.toList Q
def J3 (Q:QT) (x0 x1:List Nat) (h:Zaa):Prop:=Den pg fn.ntmps (C [1,1]) [(0,.str x0),(1,.str x1)] h (KR Q)
theorem J3i (Q:QT) (x0 x1:List Nat) (h:Zaa) (ht :
 Zec (h ++ [.map [] 0]) fun A=>Zac pg Zfy [.str x0,.map ((some h.length))] A fun A B=>
 Zei A fun A=>Zec (B ++ [.map [] 0]) fun C=>Zac pg Zfy [.str x1,.map ((some B.length))] C fun B C=>
 Zei B fun B=>Zac pg Zhc [.ptr A,.ptr B] C fun B C=>
 Zbg B fun B=>bcase (!B) (Q (.bool true) C) (Zac pg Zfp [.ptr A] C fun A B=>
 Zbg A fun A=>Q (.bool (!A)) B)):J3 Q x0 x1 h:=
 Zaz (kp:=kp) (cast (by kernel_rfl) ht)
theorem call (x0 x1:List Nat) (h:Zaa) (Q:QT) (ht :
 Zac pg Zbu [.str x0] h fun A B=>
 Zbg A fun A=>bcase (!A) (Q (.bool false) B) (Zac pg Zbu [.str x1] B fun A B=>
 Zbg A fun A=>bcase (!A) (Q (.bool false) B) (J3 Q x0 x1 B))):Zac pg Zcy [.str x0,.str x1] h Q:=
 Zac.of_body kp (c:=cod fn) (fn:=fn) Go.Proofs.Try.func30 (by kernel_rfl) (by kernel_rfl) (Nat.le_of_ble_eq_true (by kernel_rfl))
  (cast (by kernel_rfl) ht)
end Zii
end Go.Sim
