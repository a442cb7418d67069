/- A part of the proof of a statement of this seat: see the text that holds the theorem. No condition. -/
import Derived.Test.YtdglddliggejdaaGreatNm
set_option linter.unusedVariables false
set_option linter.unusedSimpArgs false
set_option linter.all false
set_option maxRecDepth 100000
set_option maxHeartbeats 0
set_option linter.unusedVariables false
namespace Go.Sim
open Go Go.RowKit
namespace Zhh
noncomputable abbrev fn:Func:=Go.Proofs.Tryz.f128
def kp:Zce:=[(3000002,[4]),(1000002,[0,1,5])]
noncomputable def C (p:List Nat):Code:=(cod fn).sub p
def KR (Q:QT):KT:=Zev pg fn.results.toList Q
abbrev T2:=List Nat→Int→Int→Zaa→Prop
def E2 (R2:T2) (env:Env) (h:Zaa):Prop:=Zby 0 env fun v env=>Zbs v fun x0=>Zby 1 env fun v env=>Zea .u8 v fun x1=>Zby 5 env fun v env=>Zea .i64 v fun x5=>Zjh env (R2 x0 x1 x5 h)
theorem Zfm {R2:T2} {env:Env} {h:Zaa} (hi:E2 R2 env h):∃ x0,∃ x1,∃ x5,env=[(0,.str x0),(1,.int .u8 x1),(5,.int .i64 x5)]∧R2 x0 x1 x5 h:=by
 unfold E2 at hi
 repeat ((first | (have k:=Zaf hi; clear hi; obtain ⟨_,_,e,hi⟩:=k) | (have k:=Zjj hi; clear hi; obtain ⟨_,e,hi⟩:=k) | (have k:=Zav hi; clear hi; obtain ⟨_,e,hi⟩:=k)); subst e)
 obtain ⟨rfl,hi⟩:=Zbi hi
 exact ⟨_,_,_,rfl,hi⟩
def K0 (Q:QT):KT:=andThen (fun env' h'=>(match kp.find 4000006 with | some ks=>Den pg fn.ntmps (C [1,1]) (env'.keep ks) h' (KR Q) | none=>den pg fn.ntmps kp (C [1,1]) env' h' (KR Q))) (KR Q)
def K1 (Q:QT):KT:=Zcl 0 (K0 Q)
def K2 (Q:QT):KT:=left kp 2 (K1 Q)
def K3 (Q:QT) (R2:T2):KT:=rnd ((kp.find 1000002).getD []) (E2 R2) (K2 Q)
def L2 (Q:QT) (x0:List Nat) (x1 x5:Int) (h:Zaa):Prop:=Zdz (Den pg fn.ntmps (C [1,0,1,0,0])) ((kp.find 1000002).getD []) (K2 Q) [(0,.str x0),(1,.int .u8 x1),(5,.int .i64 x5)] h
def A2x0 (Q:QT) (h:Zaa):Prop:=At (K1 Q) (.exit 0) [(4,.undef)] h
def L2t (Q:QT) (R2:T2) (x0:List Nat) (x1 x5:Int) (h:Zaa):Prop:=
 bcase (decide ((x5:Int) < (((List.length x0:Nat):Int)))) (Zjy x0 x5 fun A=>bcase ((((A:Nat):Int):Int) == x1) (Q (.int .i64 x5) h) (R2 x0 x1 (IntKind.wrap .i64 (x5 + 1)) h)) (A2x0 Q h)
theorem Zoh (Q:QT) (R2:T2) (x0:List Nat) (x1 x5:Int) (h:Zaa) (ht:L2t Q R2 x0 x1 x5 h):Den pg fn.ntmps (C [1,0,1,0,0]) [(0,.str x0),(1,.int .u8 x1),(5,.int .i64 x5)] h (K3 Q R2):=
 Zbb (kp:=kp) (cast (by kernel_rfl) ht)
theorem L2ind (Q:QT) (x0:List Nat) (x1:Int) {G:Type} (J:G→Int→Zaa→Prop) (m:G→Nat)
 (hr:∀ (g:G) (x5:Int) (h:Zaa),J g x5 h→∀ (R2:T2),(∀ g' (x5:Int) (h:Zaa),m g' < m g→J g' x5 h→R2 x0 x1 x5 h)→L2t Q R2 x0 x1 x5 h)
 (g:G) (x5:Int) (h:Zaa) (hj:J g x5 h):L2 Q x0 x1 x5 h:=by
 let P:=fun (K:Int→Zaa→Prop) x0' x1' x5 h=>x0=x0'∧x1=x1'∧K x5 h
 refine Zdz.inv2 (fun g=>E2 (P (J g))) (fun g=>E2 (P fun x5 h=>∃ g',m g' < m g∧J g' x5 h)) m ?_ ?_ g ⟨rfl,rfl,hj⟩
 ·intro g env h hi
  obtain ⟨x0',x1',x5,rfl,rfl,rfl,hj⟩:=Zfm hi
  exact Zoh Q _ x0 x1 x5 h (hr g x5 h hj (P fun x5 h=>∃ g',m g' < m g∧J g' x5 h) fun g' x5 h hlt hj=>⟨rfl,rfl,g',hlt,hj⟩)
 ·intro g env h hi
  obtain ⟨x0',x1',x5,rfl,rfl,rfl,g',hlt,hj⟩:=Zfm hi
  exact ⟨g',hlt,rfl,rfl,hj⟩
theorem A2x0i (Q:QT) (h:Zaa) (ht :
 Q (.int .i64 (-1)) h):A2x0 Q h:=
 At.mk (cast (by kernel_rfl) ht)
theorem call (x0:List Nat) (x1:Int) (h:Zaa) (Q:QT) (ht :
 L2 Q x0 x1 0 h):Zae pg Zga [.str x0,.int .u8 x1] h Q:=
 Zae.of_body kp (c:=cod fn) (fn:=fn) Go.Proofs.Tryz.func128 (by kernel_rfl) (by kernel_rfl) (Nat.le_of_ble_eq_true (by kernel_rfl))
  (cast (by kernel_rfl) ht)
end Zhh
namespace Zmb
noncomputable abbrev fn:Func:=Go.Proofs.Tryz.f124
def kp:Zce:=[(4000008,[])]
noncomputable def C (p:List Nat):Code:=(cod fn).sub p
def KR (Q:QT):KT:=Zev pg fn.results.toList Q
def J8 (Q:QT) (h:Zaa):Prop:=Den pg fn.ntmps (C [1,1]) [] h (KR Q)
theorem J8i (Q:QT) (h:Zaa) (ht :
 Q (.int .i64 0) h):J8 Q h:=
 Zbb (kp:=kp) (cast (by kernel_rfl) ht)
theorem call (x0:Int) (h:Zaa) (Q:QT) (ht :
 Zae pg Zga [.str ([105,98,117,108,109,112,120,121,122,88,89,90]),.int .u8 x0] h fun A B=>
 Zci .i64 A fun A=>bcase (decide ((A:Int) < 0)) (Q (.int .i64 (-1)) B) (bcase ((A:Int) == 3) (Q (.int .i64 1) B) (bcase ((A:Int) == 4) (Q (.int .i64 1) B) (bcase ((A:Int) == 5) (Q (.int .i64 2) B) (J8 Q B))))):Zae pg Zjf [.int .u8 x0] h Q:=
 Zae.of_body kp (c:=cod fn) (fn:=fn) Go.Proofs.Tryz.func124 (by kernel_rfl) (by kernel_rfl) (Nat.le_of_ble_eq_true (by kernel_rfl))
  (cast (by kernel_rfl) ht)
end Zmb
namespace Zka
noncomputable abbrev fn:Func:=Go.Proofs.Tryz.f123
def kp:Zce:=[(2000001,[12,0]),(2000005,[2])]
noncomputable def C (p:List Nat):Code:=(cod fn).sub p
def KR (Q:QT):KT:=Zev pg fn.results.toList Q
theorem call (a0:Pt) (h:Zaa) (Q:QT) (ht :
 Zba a0 fun A B=>Zba a0 fun C D=>Zci .i64 (Zad h (.ptr (A,B + 1))) fun E=>Zbs (Zad h (.ptr (C,D + 0))) fun C=>(Zad h (.ptr (A,B + 1))=Zad h (.ptr (A,B + 1)))∧bcase (decide ((E:Int) ≥ (((List.length C:Nat):Int)))) (Zba a0 fun A B=>Zch (Zbe h (.ptr (A,B + 2)) [.bool true]) fun A=>Q (.int .u8 0) A) (Zba a0 fun A B=>Zci .i64 (Zad h (.ptr (A,B + 1))) fun A=>Zba a0 fun B C=>Zch (Zbe h (.ptr (B,C + 1)) [.int .i64 (IntKind.wrap .i64 (A + 1))]) fun A=>Zba a0 fun B C=>Zba a0 fun D E=>Zbs (Zad A (.ptr (B,C + 0))) fun F=>Zci .i64 (Zad A (.ptr (D,E + 1))) fun D=>(Zad A (.ptr (B,C + 0))=Zad A (.ptr (B,C + 0)))∧Zjy F (IntKind.wrap .i64 (D - 1)) fun B=>Q (.int .u8 (((B:Nat):Int))) A)):Zae pg Zek [.ptr a0] h Q:=
 Zae.of_body kp (c:=cod fn) (fn:=fn) Go.Proofs.Tryz.func123 (by kernel_rfl) (by kernel_rfl) (Nat.le_of_ble_eq_true (by kernel_rfl))
  (cast (by kernel_rfl) ht)
end Zka
namespace Zbd
noncomputable abbrev fn:Func:=Go.Proofs.Tryz.f78
def kp:Zce:=[(4000004,[0,2,3,4]),(3000005,[4,0,3,2]),(1000005,[0,2,3,4,5]),(4000007,[0,5,3,4,2]),(2000007,[0,3,5,4,2]),(4000008,[0,3,5,4,2]),(2000009,[5,4,0,3,2]),(4000006,[5,4,0,3,2]),(4000012,[3,2])]
noncomputable def C (p:List Nat):Code:=(cod fn).sub p
def KR (Q:QT):KT:=Zev pg fn.results.toList Q
abbrev T5:=Pt→Nat→Nat→Nat→Nat→Int→Int→Zaa→Prop
def E5 (R5:T5) (env:Env) (h:Zaa):Prop:=Zby 0 env fun v env=>Zfd v fun a0=>Zby 2 env fun v env=>Zfd v fun a=>Zba a fun i2 o2=>Zby 3 env fun v env=>Zfd v fun a=>Zba a fun i3 o3=>Zby 4 env fun v env=>Zea .i64 v fun x4=>Zby 5 env fun v env=>Zea .i64 v fun x5=>Zjh env (R5 a0 i2 o2 i3 o3 x4 x5 h)
theorem Zgd {R5:T5} {env:Env} {h:Zaa} (hi:E5 R5 env h):∃ a0,∃ i2,∃ o2,∃ i3,∃ o3,∃ x4,∃ x5,env=[(0,.ptr a0),(2,.ptr (i2,o2)),(3,.ptr (i3,o3)),(4,.int .i64 x4),(5,.int .i64 x5)]∧R5 a0 i2 o2 i3 o3 x4 x5 h:=by
 unfold E5 at hi
 have hi0:=hi
 clear hi
 obtain ⟨_,_,rfl,hi1⟩:=Zaf hi0
 obtain ⟨a0,rfl,hi2⟩:=Zbk hi1
 obtain ⟨_,_,rfl,hi3⟩:=Zaf hi2
 obtain ⟨a,rfl,hi4⟩:=Zbk hi3
 obtain ⟨i2,o2,rfl,hi5⟩:=Zbj hi4
 obtain ⟨_,_,rfl,hi6⟩:=Zaf hi5
 obtain ⟨a,rfl,hi7⟩:=Zbk hi6
 obtain ⟨i3,o3,rfl,hi8⟩:=Zbj hi7
 obtain ⟨_,_,rfl,hi9⟩:=Zaf hi8
 obtain ⟨x4,rfl,hi10⟩:=Zav hi9
 obtain ⟨_,_,rfl,hi11⟩:=Zaf hi10
 obtain ⟨x5,rfl,hi12⟩:=Zav hi11
 obtain ⟨rfl,hi13⟩:=Zbi hi12
 have hi:=hi13
 exact ⟨a0,i2,o2,i3,o3,x4,x5,rfl,hi⟩
def K0 (Q:QT):KT:=andThen (fun env' h'=>(match kp.find 4000010 with | some ks=>Den pg fn.ntmps (C [1,1,1,1,1]) (env'.keep ks) h' (KR Q) | none=>den pg fn.ntmps kp (C [1,1,1,1,1]) env' h' (KR Q))) (KR Q)
def K1 (Q:QT):KT:=Zcl 0 (K0 Q)
def K2 (Q:QT):KT:=left kp 5 (K1 Q)
def K3 (Q:QT) (R5:T5):KT:=rnd ((kp.find 1000005).getD []) (E5 R5) (K2 Q)
def K4 (Q:QT) (R5:T5):KT:=andThen (fun env' h'=>(match kp.find 4000006 with | some ks=>Den pg fn.ntmps (C [1,1,1,1,0,1,0,0,1,1]) (env'.keep ks) h' (K3 Q R5) | none=>den pg fn.ntmps kp (C [1,1,1,1,0,1,0,0,1,1]) env' h' (K3 Q R5))) (K3 Q R5)
def K5 (Q:QT) (R5:T5):KT:=Zcl 1 (K4 Q R5)
def J4 (Q:QT) (a0:Pt) (i2 o2 i3 o3:Nat) (x4:Int) (h:Zaa):Prop:=Den pg fn.ntmps (C [1,1,1,1]) [(0,.ptr a0),(2,.ptr (i2,o2)),(3,.ptr (i3,o3)),(4,.int .i64 x4)] h (KR Q)
def L5 (Q:QT) (a0:Pt) (i2 o2 i3 o3:Nat) (x4 x5:Int) (h:Zaa):Prop:=Zdz (Den pg fn.ntmps (C [1,1,1,1,0,1,0,0])) ((kp.find 1000005).getD []) (K2 Q) [(0,.ptr a0),(2,.ptr (i2,o2)),(3,.ptr (i3,o3)),(4,.int .i64 x4),(5,.int .i64 x5)] h
def J7 (Q:QT) (R5:T5) (a0:Pt) (x5:Int) (i3 o3:Nat) (x4:Int) (i2 o2:Nat) (h:Zaa):Prop:=Den pg fn.ntmps (C [1,1,1,1,0,1,0,0,1]) [(0,.ptr a0),(5,.int .i64 x5),(3,.ptr (i3,o3)),(4,.int .i64 x4),(2,.ptr (i2,o2))] h (K3 Q R5)
def A5x0 (Q:QT) (x4:Int) (a0:Pt) (i3 o3 i2 o2:Nat) (h:Zaa):Prop:=At (K1 Q) (.exit 0) [(4,.int .i64 x4),(0,.ptr a0),(3,.ptr (i3,o3)),(2,.ptr (i2,o2))] h
def J8 (Q:QT) (R5:T5) (a0:Pt) (i3 o3:Nat) (x5 x4:Int) (i2 o2:Nat) (h:Zaa):Prop:=Den pg fn.ntmps (C [1,1,1,1,0,1,0,0,1,0,0,1]) [(0,.ptr a0),(3,.ptr (i3,o3)),(5,.int .i64 x5),(4,.int .i64 x4),(2,.ptr (i2,o2))] h (K5 Q R5)
def J12 (Q:QT) (i3 o3 i2 o2:Nat) (h:Zaa):Prop:=Den pg fn.ntmps (C [1,1,1,1,1,1]) [(3,.ptr (i3,o3)),(2,.ptr (i2,o2))] h (KR Q)
def J6 (Q:QT) (R5:T5) (x5 x4:Int) (a0:Pt) (i3 o3 i2 o2:Nat) (h:Zaa):Prop:=Den pg fn.ntmps (C [1,1,1,1,0,1,0,0,1,1]) [(5,.int .i64 x5),(4,.int .i64 x4),(0,.ptr a0),(3,.ptr (i3,o3)),(2,.ptr (i2,o2))] h (K3 Q R5)
theorem J4i (Q:QT) (a0:Pt) (i2 o2 i3 o3:Nat) (x4:Int) (h:Zaa) (ht :
 L5 Q a0 i2 o2 i3 o3 x4 0 h):J4 Q a0 i2 o2 i3 o3 x4 h:=
 Zbb (kp:=kp) (cast (by kernel_rfl) ht)
def L5t (Q:QT) (R5:T5) (a0:Pt) (i2 o2 i3 o3:Nat) (x4 x5:Int) (h:Zaa):Prop:=
 bcase (decide ((x5:Int) < x4)) (Zba a0 fun A B=>Zbp (Zad h (.ptr (A,B + 2))) fun A=>bcase (!A) (J7 Q R5 a0 x5 i3 o3 x4 i2 o2 h) (A5x0 Q x4 a0 i3 o3 i2 o2 h)) (A5x0 Q x4 a0 i3 o3 i2 o2 h)
theorem Zqk (Q:QT) (R5:T5) (a0:Pt) (i2 o2 i3 o3:Nat) (x4 x5:Int) (h:Zaa) (ht:L5t Q R5 a0 i2 o2 i3 o3 x4 x5 h):Den pg fn.ntmps (C [1,1,1,1,0,1,0,0]) [(0,.ptr a0),(2,.ptr (i2,o2)),(3,.ptr (i3,o3)),(4,.int .i64 x4),(5,.int .i64 x5)] h (K3 Q R5):=
 Zbb (kp:=kp) (cast (by kernel_rfl) ht)
theorem L5ind (Q:QT) (a0:Pt) (i2 o2 i3 o3:Nat) (x4:Int) {G:Type} (J:G→Int→Zaa→Prop) (m:G→Nat)
 (hr:∀ (g:G) (x5:Int) (h:Zaa),J g x5 h→∀ (R5:T5),(∀ g' (x5:Int) (h:Zaa),m g' < m g→J g' x5 h→R5 a0 i2 o2 i3 o3 x4 x5 h)→L5t Q R5 a0 i2 o2 i3 o3 x4 x5 h)
 (g:G) (x5:Int) (h:Zaa) (hj:J g x5 h):L5 Q a0 i2 o2 i3 o3 x4 x5 h:=by
 let P:=fun (K:Int→Zaa→Prop) a0' i2' o2' i3' o3' x4' x5 h=>a0=a0'∧i2=i2'∧o2=o2'∧i3=i3'∧o3=o3'∧x4=x4'∧K x5 h
 refine Zdz.inv2 (fun g=>E5 (P (J g))) (fun g=>E5 (P fun x5 h=>∃ g',m g' < m g∧J g' x5 h)) m ?_ ?_ g ⟨rfl,rfl,rfl,rfl,rfl,rfl,hj⟩
 ·intro g env h hi
  obtain ⟨a0',i2',o2',i3',o3',x4',x5,rfl,rfl,rfl,rfl,rfl,rfl,rfl,hj⟩:=Zgd hi
  exact Zqk Q _ a0 i2 o2 i3 o3 x4 x5 h (hr g x5 h hj (P fun x5 h=>∃ g',m g' < m g∧J g' x5 h) fun g' x5 h hlt hj=>⟨rfl,rfl,rfl,rfl,rfl,rfl,g',hlt,hj⟩)
 ·intro g env h hi
  obtain ⟨a0',i2',o2',i3',o3',x4',x5,rfl,rfl,rfl,rfl,rfl,rfl,rfl,g',hlt,hj⟩:=Zgd hi
  exact ⟨g',hlt,rfl,rfl,rfl,rfl,rfl,rfl,hj⟩
theorem J7i (Q:QT) (R5:T5) (a0:Pt) (x5:Int) (i3 o3:Nat) (x4:Int) (i2 o2:Nat) (h:Zaa) (ht :
 Zjy ([40,44]) x5 fun A=>Zae pg Zek [.ptr a0] h fun B C=>
 Zci .u8 B fun B=>bcase (!((B:Int) == (((A:Nat):Int)))) (Zba a0 fun A B=>Zch (Zbe C (.ptr (A,B + 2)) [.bool true]) fun A=>J8 Q R5 a0 i3 o3 x5 x4 i2 o2 A) (Zba a0 fun A B=>Zbp (Zad C (.ptr (A,B + 2))) fun A=>Zba a0 fun B D=>Zch (Zbe C (.ptr (B,D + 2)) [.bool A]) fun A=>J8 Q R5 a0 i3 o3 x5 x4 i2 o2 A)):J7 Q R5 a0 x5 i3 o3 x4 i2 o2 h:=
 Zbb (kp:=kp) (cast (by kernel_rfl) ht)
theorem A5x0i (Q:QT) (x4:Int) (a0:Pt) (i3 o3 i2 o2:Nat) (h:Zaa) (ht :
 bcase (decide ((x4:Int) > 0)) (Zba a0 fun A B=>Zbp (Zad h (.ptr (A,B + 2))) fun A=>bcase (!A) (Zae pg Zek [.ptr a0] h fun A B=>
 Zci .u8 A fun A=>bcase (!((A:Int) == 41)) (Zba a0 fun A C=>Zch (Zbe B (.ptr (A,C + 2)) [.bool true]) fun A=>J12 Q i3 o3 i2 o2 A) (Zba a0 fun A C=>Zbp (Zad B (.ptr (A,C + 2))) fun A=>Zba a0 fun C D=>Zch (Zbe B (.ptr (C,D + 2)) [.bool A]) fun A=>J12 Q i3 o3 i2 o2 A)) (J12 Q i3 o3 i2 o2 h)) (J12 Q i3 o3 i2 o2 h)):A5x0 Q x4 a0 i3 o3 i2 o2 h:=
 At.mk (cast (by kernel_rfl) ht)
theorem J8i (Q:QT) (R5:T5) (a0:Pt) (i3 o3:Nat) (x5 x4:Int) (i2 o2:Nat) (h:Zaa) (ht :
 Zba a0 fun A B=>Zbp (Zad h (.ptr (A,B + 2))) fun A=>bcase (!A) (xSl (Zad h (.ptr (i3,o3 + 1))) fun A B C D=>Zae pg Zdu [.ptr a0] h fun E F=>
 Zrs E fun E=>Zaj E fun E G=>Zci .u8 E fun E=>Zaj G fun G H=>xSl G fun G I J K=>Zcf H ((Zad F (.ptr (i3,o3 + 1))=Zad h (.ptr (i3,o3 + 1)))∧Zcy (F ++ [.cells Zab [.int .u8 E,.slice G I J K] false]) fun E=>(Zad E (.ptr (i3,o3 + 1))=Zad F (.ptr (i3,o3 + 1)))∧Zdp pg Zgi E (.slice A B C D) (.slice (F.length,0) 1 1 true) fun A B=>xSl A fun A C D E=>Zch (Zbe B (.ptr (i3,o3 + 1)) [.slice A C D E]) fun A=>J6 Q R5 x5 x4 a0 i3 o3 i2 o2 A)) (J6 Q R5 x5 x4 a0 i3 o3 i2 o2 h)):J8 Q R5 a0 i3 o3 x5 x4 i2 o2 h:=
 Zbb (kp:=kp) (cast (by kernel_rfl) ht)
theorem J12i (Q:QT) (i3 o3 i2 o2:Nat) (h:Zaa) (ht :
 Zcs (Zbf h (.ptr (i3,o3)) 2) fun A=>Zaj A fun A B=>Zci .u8 A fun A=>Zaj B fun B C=>xSl B fun B D E F=>Zcf C (Zch (Zbe h (.ptr (i2,o2)) [.int .u8 A,.slice B D E F]) fun A=>Zcs (Zbf A (.ptr (i2,o2)) 2) fun B=>Zaj B fun B C=>Zci .u8 B fun B=>Zaj C fun C D=>xSl C fun C E F G=>Zcf D (Q (.agg [.int .u8 B,.slice C E F G]) A))):J12 Q i3 o3 i2 o2 h:=
 Zbb (kp:=kp) (cast (by kernel_rfl) ht)
theorem J6i (Q:QT) (R5:T5) (x5 x4:Int) (a0:Pt) (i3 o3 i2 o2:Nat) (h:Zaa) (ht :
 R5 a0 i2 o2 i3 o3 x4 (IntKind.wrap .i64 (x5 + 1)) h):J6 Q R5 x5 x4 a0 i3 o3 i2 o2 h:=
 Zbb (kp:=kp) (cast (by kernel_rfl) ht)
theorem call (a0:Pt) (h:Zaa) (Q:QT) (ht :
 Zcy (h ++ [.cells Zab [.int .u8 0,.slice none 0 0 true] false]) fun A=>Zae pg Zek [.ptr a0] A fun A B=>
 Zci .u8 A fun A=>Zcy (B ++ [.cells Zab [] false]) fun C=>Zcy (C ++ [.cells Zab [.int .u8 0,.slice none 0 0 true] false]) fun D=>Zch (Zbe D (.ptr (C.length,0)) [.int .u8 A,.slice (B.length,0) 0 0 true]) fun A=>Zci .u8 (Zad A (.ptr (C.length,0 + 0))) fun B=>Zae pg Zjf [.int .u8 B] A fun A B=>
 Zci .i64 A fun A=>Zba a0 fun D E=>Zbp (Zad B (.ptr (D,E + 2))) fun D=>bcase D (Zba a0 fun D E=>Zch (Zbe B (.ptr (D,E + 2)) [.bool true]) fun D=>J4 Q a0 h.length 0 C.length 0 A D) (Zba a0 fun D E=>Zch (Zbe B (.ptr (D,E + 2)) [.bool (decide ((A:Int) < 0))]) fun B=>J4 Q a0 h.length 0 C.length 0 A B)):Zae pg Zdu [.ptr a0] h Q:=
 Zae.of_body kp (c:=cod fn) (fn:=fn) Go.Proofs.Tryz.func78 (by kernel_rfl) (by kernel_rfl) (Nat.le_of_ble_eq_true (by kernel_rfl))
  (cast (by kernel_rfl) ht)
end Zbd
namespace Zne
noncomputable abbrev fn:Func:=Go.Proofs.Tryz.f41
def kp:Zce:=[(4000005,[5,2])]
noncomputable def C (p:List Nat):Code:=(cod fn).sub p
def KR (Q:QT):KT:=Zev pg fn.results.toList Q
def J5 (Q:QT) (i5 o5 i2 o2:Nat) (h:Zaa):Prop:=Den pg fn.ntmps (C [1,1,1,1]) [(5,.ptr (i5,o5)),(2,.ptr (i2,o2))] h (KR Q)
theorem J5i (Q:QT) (i5 o5 i2 o2:Nat) (h:Zaa) (ht :
 Zcs (Zbf h (.ptr (i5,o5)) 2) fun A=>Zaj A fun A B=>Zci .u8 A fun A=>Zaj B fun B C=>xSl B fun B D E F=>Zcf C (Zch (Zbe h (.ptr (i2,o2)) [.int .u8 A,.slice B D E F]) fun A=>Zcs (Zbf A (.ptr (i2,o2)) 2) fun B=>Zaj B fun B C=>Zci .u8 B fun B=>Zaj C fun C D=>xSl C fun C E F G=>Zcf D (Q (.tup [.agg [.int .u8 B,.slice C E F G],.bool true]) A))):J5 Q i5 o5 i2 o2 h:=
 Zbb (kp:=kp) (cast (by kernel_rfl) ht)
theorem call (x0:List Nat) (h:Zaa) (Q:QT) (ht :
 Zcy (h ++ [.cells Zab [.int .u8 0,.slice none 0 0 true] false]) fun A=>Zcy (A ++ [.cells Zcw [.str x0,.int .i64 0,.bool false] false]) fun B=>Zae pg Zdu [.ptr (A.length,0)] B fun B C=>
 Zrs B fun B=>Zaj B fun B D=>Zci .u8 B fun B=>Zaj D fun D E=>xSl D fun D F G H=>Zcf E (Zcy (C ++ [.cells Zab [.int .u8 0,.slice none 0 0 true] false]) fun E=>Zch (Zbe E (.ptr (C.length,0)) [.int .u8 B,.slice D F G H]) fun B=>Zbp (Zad B (.ptr (A.length,0 + 2))) fun D=>bcase D (Zch (Zbe B (.ptr (h.length,0)) [.int .u8 0,.slice none 0 0 true]) fun D=>Zcs (Zbf D (.ptr (h.length,0)) 2) fun E=>Zaj E fun E F=>Zci .u8 E fun E=>Zaj F fun F G=>xSl F fun F H I J=>Zcf G (Q (.tup [.agg [.int .u8 E,.slice F H I J],.bool false]) D)) (Zci .i64 (Zad B (.ptr (A.length,0 + 1))) fun A=>bcase (!((A:Int) == (((List.length x0:Nat):Int)))) (Zch (Zbe B (.ptr (h.length,0)) [.int .u8 0,.slice none 0 0 true]) fun A=>Zcs (Zbf A (.ptr (h.length,0)) 2) fun D=>Zaj D fun D E=>Zci .u8 D fun D=>Zaj E fun E F=>xSl E fun E G H I=>Zcf F (Q (.tup [.agg [.int .u8 D,.slice E G H I],.bool false]) A)) (bcase (decide (((((List.length x0:Nat):Int)):Int) > 60)) (Zch (Zbe B (.ptr (h.length,0)) [.int .u8 0,.slice none 0 0 true]) fun A=>Zcs (Zbf A (.ptr (h.length,0)) 2) fun D=>Zaj D fun D E=>Zci .u8 D fun D=>Zaj E fun E F=>xSl E fun E G H I=>Zcf F (Q (.tup [.agg [.int .u8 D,.slice E G H I],.bool false]) A)) (J5 Q C.length 0 h.length 0 B))))):Zae pg Zfq [.str x0] h Q:=
 Zae.of_body kp (c:=cod fn) (fn:=fn) Go.Proofs.Tryz.func41 (by kernel_rfl) (by kernel_rfl) (Nat.le_of_ble_eq_true (by kernel_rfl))
  (cast (by kernel_rfl) ht)
end Zne
namespace Zns
noncomputable abbrev fn:Func:=Go.Proofs.Tryz.f114
def kp:Zce:=[]
noncomputable def C (p:List Nat):Code:=(cod fn).sub p
def KR (Q:QT):KT:=Zev pg fn.results.toList Q
theorem call (x0:List Nat) (h:Zaa) (Q:QT) (ht :
 Zae pg Zfq [.str x0] h fun A B=>
 Zvv A fun A=>Zaj A fun A C=>Zrs A fun A=>Zaj A fun A D=>Zci .u8 A fun A=>Zaj D fun D E=>xSl D fun D F G H=>Zcf E (Zaj C fun C E=>Zbp C fun C=>Zcf E (Zcy (B ++ [.cells Zab [.int .u8 0,.slice none 0 0 true] false]) fun E=>Zch (Zbe E (.ptr (B.length,0)) [.int .u8 A,.slice D F G H]) fun A=>Q (.bool C) A))):Zae pg Zfx [.str x0] h Q:=
 Zae.of_body kp (c:=cod fn) (fn:=fn) Go.Proofs.Tryz.func114 (by kernel_rfl) (by kernel_rfl) (Nat.le_of_ble_eq_true (by kernel_rfl))
  (cast (by kernel_rfl) ht)
end Zns
end Go.Sim

set_option maxRecDepth 100000
set_option maxHeartbeats 0
set_option linter.unusedVariables false
namespace Go.Sim
open Go Go.RowKit
namespace Zoi
noncomputable abbrev fn:Func:=Go.Proofs.Tryz.f118
def kp:Zce:=[(4000009,[])]
noncomputable def C (p:List Nat):Code:=(cod fn).sub p
def KR (Q:QT):KT:=Zev pg fn.results.toList Q
def J9 (Q:QT) (h:Zaa):Prop:=Den pg fn.ntmps (C [1,1]) [] h (KR Q)
theorem J9i (Q:QT) (h:Zaa) (ht :
 Q (.int .i64 (-1)) h):J9 Q h:=
 Zbb (kp:=kp) (cast (by kernel_rfl) ht)
theorem call (x0:List Nat) (h:Zaa) (Q:QT) (ht :
 bcase (!((((List.length x0:Nat):Int):Int) == 1)) (Q (.int .i64 (-1)) h) (Zae pg Zey [.str ([105,98,117,120,121,122,88,89,90]),.str x0] h fun A B=>
 Zbp A fun A=>bcase A (Q (.int .i64 0) B) (bcase (decide (x0=[108])) (Q (.int .i64 1) B) (bcase (decide (x0=[109])) (Q (.int .i64 1) B) (bcase (decide (x0=[112])) (Q (.int .i64 2) B) (J9 Q B)))))):Zae pg Zlj [.str x0] h Q:=
 Zae.of_body kp (c:=cod fn) (fn:=fn) Go.Proofs.Tryz.func118 (by kernel_rfl) (by kernel_rfl) (Nat.le_of_ble_eq_true (by kernel_rfl))
  (cast (by kernel_rfl) ht)
end Zoi
namespace Zdr
noncomputable abbrev fn:Func:=Go.Proofs.Tryz.f73
def kp:Zce:=[(4000003,[0]),(3000006,[4,0,2,3]),(1000006,[0,4,27,28]),(4000020,[4,0])]
noncomputable def C (p:List Nat):Code:=(cod fn).sub p
def KR (Q:QT):KT:=Zev pg fn.results.toList Q
abbrev T6:=List Nat→Nat→Nat→Int→Int→Zaa→Prop
def E6 (R6:T6) (env:Env) (h:Zaa):Prop:=Zby 0 env fun v env=>Zbs v fun x0=>Zby 4 env fun v env=>Zfd v fun a=>Zba a fun i4 o4=>Zby 27 env fun v env=>Zea .i64 v fun x27=>Zby 28 env fun v env=>Zea .i64 v fun x28=>Zjh env (R6 x0 i4 o4 x27 x28 h)
theorem Zol {R6:T6} {env:Env} {h:Zaa} (hi:E6 R6 env h):∃ x0,∃ i4,∃ o4,∃ x27,∃ x28,env=[(0,.str x0),(4,.ptr (i4,o4)),(27,.int .i64 x27),(28,.int .i64 x28)]∧R6 x0 i4 o4 x27 x28 h:=by
 unfold E6 at hi
 have hi0:=hi
 clear hi
 obtain ⟨_,_,rfl,hi1⟩:=Zaf hi0
 obtain ⟨x0,rfl,hi2⟩:=Zjj hi1
 obtain ⟨_,_,rfl,hi3⟩:=Zaf hi2
 obtain ⟨a,rfl,hi4⟩:=Zbk hi3
 obtain ⟨i4,o4,rfl,hi5⟩:=Zbj hi4
 obtain ⟨_,_,rfl,hi6⟩:=Zaf hi5
 obtain ⟨x27,rfl,hi7⟩:=Zav hi6
 obtain ⟨_,_,rfl,hi8⟩:=Zaf hi7
 obtain ⟨x28,rfl,hi9⟩:=Zav hi8
 obtain ⟨rfl,hi10⟩:=Zbi hi9
 have hi:=hi10
 exact ⟨x0,i4,o4,x27,x28,rfl,hi⟩
def K0 (Q:QT):KT:=andThen (fun env' h'=>(match kp.find 4000016 with | some ks=>Den pg fn.ntmps (C [1,1,1,1,1]) (env'.keep ks) h' (KR Q) | none=>den pg fn.ntmps kp (C [1,1,1,1,1]) env' h' (KR Q))) (KR Q)
def K1 (Q:QT):KT:=Zcl 0 (K0 Q)
def K2 (Q:QT):KT:=left kp 6 (K1 Q)
def K3 (Q:QT) (R6:T6):KT:=rnd ((kp.find 1000006).getD []) (E6 R6) (K2 Q)
def J3 (Q:QT) (x0:List Nat) (h:Zaa):Prop:=Den pg fn.ntmps (C [1,1]) [(0,.str x0)] h (KR Q)
def L6 (Q:QT) (x0:List Nat) (i4 o4:Nat) (x27 x28:Int) (h:Zaa):Prop:=Zdz (Den pg fn.ntmps (C [1,1,1,1,0,1,0,0])) ((kp.find 1000006).getD []) (K2 Q) [(0,.str x0),(4,.ptr (i4,o4)),(27,.int .i64 x27),(28,.int .i64 x28)] h
def Ymp (Q:QT) (i4 o4:Nat) (x0:List Nat) (h:Zaa):Prop:=At (K1 Q) (.exit 0) [(4,.ptr (i4,o4)),(0,.str x0),(2,.undef),(3,.undef)] h
def J20 (Q:QT) (i4 o4:Nat) (x0:List Nat) (h:Zaa):Prop:=Den pg fn.ntmps (C [1,1,1,1,1,1]) [(4,.ptr (i4,o4)),(0,.str x0)] h (KR Q)
theorem J3i (Q:QT) (x0:List Nat) (h:Zaa) (ht :
 (0≤(0:Int)∧(0:Int)≤1∧(1:Int)≤(List.length x0:Nat))∧(Zcy (h ++ [.cells Zbt [.str (sub x0 0 1),.slice none 0 0 true,.ptr none] false]) fun A=>(0≤(1:Int)∧(1:Int)≤(List.length x0:Int)∧((List.length x0:Int):Int)≤(List.length x0:Nat))∧(Zbs (Zad A (.ptr (h.length,0 + 0))) fun B=>Zae pg Zlj [.str B] A fun A B=>
 Zci .i64 A fun A=>L6 Q (sub x0 1 ((List.length x0:Int))) h.length 0 A 0 B))):J3 Q x0 h:=
 Zbb (kp:=kp) (cast (by kernel_rfl) ht)
def L6t (Q:QT) (R6:T6) (x0:List Nat) (i4 o4:Nat) (x27 x28:Int) (h:Zaa):Prop:=
 bcase (decide ((x28:Int) < x27)) ((0≤(x28:Int)∧(x28:Int)≤IntKind.wrap .i64 (x28 + 1)∧(IntKind.wrap .i64 (x28 + 1):Int)≤(List.length ([40,44]):Nat))∧(Zae pg Zhu [.str x0,.str (sub ([40,44]) x28 (IntKind.wrap .i64 (x28 + 1)))] h fun A B=>
 Zbp A fun A=>bcase (!A) (Q (.tup [.ptr none,.str x0]) B) ((0≤(1:Int)∧(1:Int)≤(List.length x0:Int)∧((List.length x0:Int):Int)≤(List.length x0:Nat))∧(Zae pg Zgl [.str (sub x0 1 ((List.length x0:Int)))] B fun A B=>
 Zvv A fun A=>Zaj A fun A C=>Zfd A fun A=>Zaj C fun C D=>Zbs C fun C=>Zcf D (bcase (Option.isNone A) (Q (.tup [.ptr none,.str x0]) B) (xSl (Zad B (.ptr (i4,o4 + 1))) fun D E F G=>Zcy (B ++ [.cells Zcz [.ptr A] false]) fun A=>Zdp pg Zkw A (.slice D E F G) (.slice (B.length,0) 1 1 true) fun A B=>xSl A fun A D E F=>Zch (Zbe B (.ptr (i4,o4 + 1)) [.slice A D E F]) fun A=>R6 C i4 o4 x27 (IntKind.wrap .i64 (x28 + 1)) A)))))) (Ymp Q i4 o4 x0 h)
theorem Ycu (Q:QT) (R6:T6) (x0:List Nat) (i4 o4:Nat) (x27 x28:Int) (h:Zaa) (ht:L6t Q R6 x0 i4 o4 x27 x28 h):Den pg fn.ntmps (C [1,1,1,1,0,1,0,0]) [(0,.str x0),(4,.ptr (i4,o4)),(27,.int .i64 x27),(28,.int .i64 x28)] h (K3 Q R6):=
 Zbb (kp:=kp) (cast (by kernel_rfl) ht)
theorem L6ind (Q:QT) (i4 o4:Nat) (x27:Int) {G:Type} (J:G→List Nat→Int→Zaa→Prop) (m:G→Nat)
 (hr:∀ (g:G) (x0:List Nat) (x28:Int) (h:Zaa),J g x0 x28 h→∀ (R6:T6),(∀ g' (x0:List Nat) (x28:Int) (h:Zaa),m g' < m g→J g' x0 x28 h→R6 x0 i4 o4 x27 x28 h)→L6t Q R6 x0 i4 o4 x27 x28 h)
 (g:G) (x0:List Nat) (x28:Int) (h:Zaa) (hj:J g x0 x28 h):L6 Q x0 i4 o4 x27 x28 h:=by
 let P:=fun (K:List Nat→Int→Zaa→Prop) x0 i4' o4' x27' x28 h=>i4=i4'∧o4=o4'∧x27=x27'∧K x0 x28 h
 refine Zdz.inv2 (fun g=>E6 (P (J g))) (fun g=>E6 (P fun x0 x28 h=>∃ g',m g' < m g∧J g' x0 x28 h)) m ?_ ?_ g ⟨rfl,rfl,rfl,hj⟩
 ·intro g env h hi
  obtain ⟨x0,i4',o4',x27',x28,rfl,rfl,rfl,rfl,hj⟩:=Zol hi
  exact Ycu Q _ x0 i4 o4 x27 x28 h (hr g x0 x28 h hj (P fun x0 x28 h=>∃ g',m g' < m g∧J g' x0 x28 h) fun g' x0 x28 h hlt hj=>⟨rfl,rfl,rfl,g',hlt,hj⟩)
 ·intro g env h hi
  obtain ⟨x0,i4',o4',x27',x28,rfl,rfl,rfl,rfl,g',hlt,hj⟩:=Zol hi
  exact ⟨g',hlt,rfl,rfl,rfl,hj⟩
theorem A6x0i (Q:QT) (i4 o4:Nat) (x0:List Nat) (h:Zaa) (ht :
 xSl (Zad h (.ptr (i4,o4 + 1))) fun A A B B=>bcase (decide (((((A:Nat):Int)):Int) > 0)) (Zae pg Zhu [.str x0,.str [41]] h fun A B=>
 Zbp A fun A=>bcase (!A) (Q (.tup [.ptr none,.str x0]) B) ((0≤(1:Int)∧(1:Int)≤(List.length x0:Int)∧((List.length x0:Int):Int)≤(List.length x0:Nat))∧(J20 Q i4 o4 (sub x0 1 ((List.length x0:Int))) B))) (J20 Q i4 o4 x0 h)):Ymp Q i4 o4 x0 h:=
 At.mk (cast (by kernel_rfl) ht)
theorem J20i (Q:QT) (i4 o4:Nat) (x0:List Nat) (h:Zaa) (ht :
 Q (.tup [.ptr (i4,o4),.str x0]) h):J20 Q i4 o4 x0 h:=
 Zbb (kp:=kp) (cast (by kernel_rfl) ht)
theorem call (x0:List Nat) (h:Zaa) (Q:QT) (ht :
 bcase (decide (x0=[])) (Q (.tup [.ptr none,.str x0]) h) ((0≤(0:Int)∧(0:Int)≤1∧(1:Int)≤(List.length x0:Nat))∧(Zae pg Zlj [.str (sub x0 0 1)] h fun A B=>
 Zci .i64 A fun A=>bcase (decide ((A:Int) < 0)) (Q (.tup [.ptr none,.str x0]) B) (J3 Q x0 B)))):Zae pg Zgl [.str x0] h Q:=
 Zae.of_body kp (c:=cod fn) (fn:=fn) Go.Proofs.Tryz.func73 (by kernel_rfl) (by kernel_rfl) (Nat.le_of_ble_eq_true (by kernel_rfl))
  (cast (by kernel_rfl) ht)
end Zdr
namespace Zrb
noncomputable abbrev fn:Func:=Go.Proofs.Tryz.f72
def kp:Zce:=[]
noncomputable def C (p:List Nat):Code:=(cod fn).sub p
def KR (Q:QT):KT:=Zev pg fn.results.toList Q
theorem call (x0:List Nat) (h:Zaa) (Q:QT) (ht :
 bcase (decide (((((List.length x0:Nat):Int)):Int) > 60)) (Q (.ptr none) h) (Zae pg Zgl [.str x0] h fun A B=>
 Zvv A fun A=>Zaj A fun A C=>Zfd A fun A=>Zaj C fun C D=>Zbs C fun C=>Zcf D (bcase (!(decide (C=[]))) (Q (.ptr none) B) (Q (.ptr A) B)))):Zae pg Zhx [.str x0] h Q:=
 Zae.of_body kp (c:=cod fn) (fn:=fn) Go.Proofs.Tryz.func72 (by kernel_rfl) (by kernel_rfl) (Nat.le_of_ble_eq_true (by kernel_rfl))
  (cast (by kernel_rfl) ht)
end Zrb
namespace Znt
noncomputable abbrev fn:Func:=Go.Proofs.Tryz.f33
def kp:Zce:=[]
noncomputable def C (p:List Nat):Code:=(cod fn).sub p
def KR (Q:QT):KT:=Zev pg fn.results.toList Q
theorem call (x0:List Nat) (h:Zaa) (Q:QT) (ht :
 Zae pg Zhx [.str x0] h fun A B=>
 Zfd A fun A=>Q (.bool (!(Option.isNone A))) B):Zae pg Zew [.str x0] h Q:=
 Zae.of_body kp (c:=cod fn) (fn:=fn) Go.Proofs.Tryz.func33 (by kernel_rfl) (by kernel_rfl) (Nat.le_of_ble_eq_true (by kernel_rfl))
  (cast (by kernel_rfl) ht)
end Znt
end Go.Sim

set_option maxRecDepth 100000
set_option maxHeartbeats 0
set_option linter.unusedVariables false
namespace Go.Sim
open Go Go.RowKit
namespace Zhl
noncomputable abbrev fn:Func:=Go.Proofs.Tryz.f136
def kp:Zce:=[(3000003,[3]),(1000003,[0,3,4])]
noncomputable def C (p:List Nat):Code:=(cod fn).sub p
def KR (Q:QT):KT:=Zev pg fn.results.toList Q
abbrev T3:=Pt→Nat→Nat→Bool→Pt→Nat→Nat→Bool→Int→Zaa→Prop
def E3 (R3:T3) (env:Env) (h:Zaa):Prop:=Zby 0 env fun v env=>xSl v fun a0 n0 c0 e0=>Zby 3 env fun v env=>xSl v fun a3 n3 c3 e3=>Zby 4 env fun v env=>Zea .i64 v fun x4=>Zjh env (R3 a0 n0 c0 e0 a3 n3 c3 e3 x4 h)
theorem Zdv {R3:T3} {env:Env} {h:Zaa} (hi:E3 R3 env h):∃ a0,∃ n0,∃ c0,∃ e0,∃ a3,∃ n3,∃ c3,∃ e3,∃ x4,env=[(0,.slice a0 n0 c0 e0),(3,.slice a3 n3 c3 e3),(4,.int .i64 x4)]∧R3 a0 n0 c0 e0 a3 n3 c3 e3 x4 h:=by
 unfold E3 at hi
 repeat ((first | (have k:=Zaf hi; clear hi; obtain ⟨_,_,e,hi⟩:=k) | (have k:=Zav hi; clear hi; obtain ⟨_,e,hi⟩:=k) | (have k:=Zbz hi; clear hi; obtain ⟨_,_,_,_,e,hi⟩:=k)); subst e)
 obtain ⟨rfl,hi⟩:=Zbi hi
 exact ⟨_,_,_,_,_,_,_,_,_,rfl,hi⟩
def K0 (Q:QT):KT:=andThen (fun env' h'=>(match kp.find 4000006 with | some ks=>Den pg fn.ntmps (C [1,1,1]) (env'.keep ks) h' (KR Q) | none=>den pg fn.ntmps kp (C [1,1,1]) env' h' (KR Q))) (KR Q)
def K1 (Q:QT):KT:=Zcl 0 (K0 Q)
def K2 (Q:QT):KT:=left kp 3 (K1 Q)
def K3 (Q:QT) (R3:T3):KT:=rnd ((kp.find 1000003).getD []) (E3 R3) (K2 Q)
def L3 (Q:QT) (a0:Pt) (n0 c0:Nat) (e0:Bool) (a3:Pt) (n3 c3:Nat) (e3:Bool) (x4:Int) (h:Zaa):Prop:=Zdz (Den pg fn.ntmps (C [1,1,0,1,0,0])) ((kp.find 1000003).getD []) (K2 Q) [(0,.slice a0 n0 c0 e0),(3,.slice a3 n3 c3 e3),(4,.int .i64 x4)] h
def Znv (Q:QT) (a3:Pt) (n3 c3:Nat) (e3:Bool) (h:Zaa):Prop:=At (K1 Q) (.exit 0) [(3,.slice a3 n3 c3 e3)] h
def L3t (Q:QT) (R3:T3) (a0:Pt) (n0 c0:Nat) (e0:Bool) (a3:Pt) (n3 c3:Nat) (e3:Bool) (x4:Int) (h:Zaa):Prop:=
 bcase (decide ((x4:Int) < (((n0:Nat):Int)))) ((0≤(x4:Int)∧(x4:Int) < (n0:Nat))∧(Zba a0 fun A B=>Zcs (Zbf h (.ptr (A,B + (Int.toNat x4) * 2)) 2) fun A=>Zaj A fun A B=>Zbs A fun A=>Zaj B fun B C=>Zbs B fun B=>Zcf C (Zae pg Zkf [.agg [.str A,.str B]] h fun A B=>
 Zrs A fun A=>Zaj A fun A C=>Zbs A fun A=>Zaj C fun C D=>Zbs C fun C=>Zcf D ((0≤(x4:Int)∧(x4:Int) < (n3:Nat))∧(Zba a3 fun D E=>Zch (Zbe B (.ptr (D,E + (Int.toNat x4) * 2)) [.str A,.str C]) fun A=>R3 a0 n0 c0 e0 a3 n3 c3 e3 (IntKind.wrap .i64 (x4 + 1)) A))))) (Znv Q a3 n3 c3 e3 h)
theorem Zjr (Q:QT) (R3:T3) (a0:Pt) (n0 c0:Nat) (e0:Bool) (a3:Pt) (n3 c3:Nat) (e3:Bool) (x4:Int) (h:Zaa) (ht:L3t Q R3 a0 n0 c0 e0 a3 n3 c3 e3 x4 h):Den pg fn.ntmps (C [1,1,0,1,0,0]) [(0,.slice a0 n0 c0 e0),(3,.slice a3 n3 c3 e3),(4,.int .i64 x4)] h (K3 Q R3):=
 Zbb (kp:=kp) (cast (by kernel_rfl) ht)
theorem L3ind (Q:QT) (a0:Pt) (n0 c0:Nat) (e0:Bool) (a3:Pt) (n3 c3:Nat) (e3:Bool) {G:Type} (J:G→Int→Zaa→Prop) (m:G→Nat)
 (hr:∀ (g:G) (x4:Int) (h:Zaa),J g x4 h→∀ (R3:T3),(∀ g' (x4:Int) (h:Zaa),m g' < m g→J g' x4 h→R3 a0 n0 c0 e0 a3 n3 c3 e3 x4 h)→L3t Q R3 a0 n0 c0 e0 a3 n3 c3 e3 x4 h)
 (g:G) (x4:Int) (h:Zaa) (hj:J g x4 h):L3 Q a0 n0 c0 e0 a3 n3 c3 e3 x4 h:=by
 let P:=fun (K:Int→Zaa→Prop) a0' n0' c0' e0' a3' n3' c3' e3' x4 h=>a0=a0'∧n0=n0'∧c0=c0'∧e0=e0'∧a3=a3'∧n3=n3'∧c3=c3'∧e3=e3'∧K x4 h
 refine Zdz.inv2 (fun g=>E3 (P (J g))) (fun g=>E3 (P fun x4 h=>∃ g',m g' < m g∧J g' x4 h)) m ?_ ?_ g ⟨rfl,rfl,rfl,rfl,rfl,rfl,rfl,rfl,hj⟩
 ·intro g env h hi
  obtain ⟨a0',n0',c0',e0',a3',n3',c3',e3',x4,rfl,rfl,rfl,rfl,rfl,rfl,rfl,rfl,rfl,hj⟩:=Zdv hi
  exact Zjr Q _ a0 n0 c0 e0 a3 n3 c3 e3 x4 h (hr g x4 h hj (P fun x4 h=>∃ g',m g' < m g∧J g' x4 h) fun g' x4 h hlt hj=>⟨rfl,rfl,rfl,rfl,rfl,rfl,rfl,rfl,g',hlt,hj⟩)
 ·intro g env h hi
  obtain ⟨a0',n0',c0',e0',a3',n3',c3',e3',x4,rfl,rfl,rfl,rfl,rfl,rfl,rfl,rfl,rfl,g',hlt,hj⟩:=Zdv hi
  exact ⟨g',hlt,rfl,rfl,rfl,rfl,rfl,rfl,rfl,rfl,hj⟩
theorem A3x0i (Q:QT) (a3:Pt) (n3 c3:Nat) (e3:Bool) (h:Zaa) (ht :
 Q (.slice a3 n3 c3 e3) h):Znv Q a3 n3 c3 e3 h:=
 At.mk (cast (by kernel_rfl) ht)
theorem call (a0:Pt) (n0 c0:Nat) (e0:Bool) (h:Zaa) (Q:QT) (ht :
 IntKind.i64=IntKind.i64∧(IntKind.i64=IntKind.i64∧((0≤((((n0:Nat):Int)):Int)∧((((n0:Nat):Int)):Int)≤(((n0:Nat):Int))∧((((n0:Nat):Int)):Int) * (((32:Nat):Int) + 1)≤140737488355328)∧(Zcy (h ++ [.cells Zbv (reps (Int.toNat ((((n0:Nat):Int)))) [.str [],.str []]) false]) fun A=>L3 Q a0 n0 c0 e0 (h.length,0) (Int.toNat ((((n0:Nat):Int)))) (Int.toNat ((((n0:Nat):Int)))) true 0 A)))):Zae pg Zls [.slice a0 n0 c0 e0] h Q:=
 Zae.of_body kp (c:=cod fn) (fn:=fn) Go.Proofs.Tryz.func136 (by kernel_rfl) (by kernel_rfl) (Nat.le_of_ble_eq_true (by kernel_rfl))
  (cast (by kernel_rfl) ht)
end Zhl
namespace Zhm
noncomputable abbrev fn:Func:=Go.Proofs.Tryz.f138
def kp:Zce:=[(3000004,[4]),(1000004,[0,1,5]),(2000006,[26,5,0,1])]
noncomputable def C (p:List Nat):Code:=(cod fn).sub p
def KR (Q:QT):KT:=Zev pg fn.results.toList Q
abbrev T4:=Pt→Nat→Nat→Bool→Pt→Nat→Nat→Bool→Int→Zaa→Prop
def E4 (R4:T4) (env:Env) (h:Zaa):Prop:=Zby 0 env fun v env=>xSl v fun a0 n0 c0 e0=>Zby 1 env fun v env=>xSl v fun a1 n1 c1 e1=>Zby 5 env fun v env=>Zea .i64 v fun x5=>Zjh env (R4 a0 n0 c0 e0 a1 n1 c1 e1 x5 h)
theorem Zji {R4:T4} {env:Env} {h:Zaa} (hi:E4 R4 env h):∃ a0,∃ n0,∃ c0,∃ e0,∃ a1,∃ n1,∃ c1,∃ e1,∃ x5,env=[(0,.slice a0 n0 c0 e0),(1,.slice a1 n1 c1 e1),(5,.int .i64 x5)]∧R4 a0 n0 c0 e0 a1 n1 c1 e1 x5 h:=by
 unfold E4 at hi
 repeat ((first | (have k:=Zaf hi; clear hi; obtain ⟨_,_,e,hi⟩:=k) | (have k:=Zav hi; clear hi; obtain ⟨_,e,hi⟩:=k) | (have k:=Zbz hi; clear hi; obtain ⟨_,_,_,_,e,hi⟩:=k)); subst e)
 obtain ⟨rfl,hi⟩:=Zbi hi
 exact ⟨_,_,_,_,_,_,_,_,_,rfl,hi⟩
def K0 (Q:QT):KT:=andThen (fun env' h'=>(match kp.find 4000008 with | some ks=>Den pg fn.ntmps (C [1,1,1]) (env'.keep ks) h' (KR Q) | none=>den pg fn.ntmps kp (C [1,1,1]) env' h' (KR Q))) (KR Q)
def K1 (Q:QT):KT:=Zcl 0 (K0 Q)
def K2 (Q:QT):KT:=left kp 4 (K1 Q)
def K3 (Q:QT) (R4:T4):KT:=rnd ((kp.find 1000004).getD []) (E4 R4) (K2 Q)
def L4 (Q:QT) (a0:Pt) (n0 c0:Nat) (e0:Bool) (a1:Pt) (n1 c1:Nat) (e1:Bool) (x5:Int) (h:Zaa):Prop:=Zdz (Den pg fn.ntmps (C [1,1,0,1,0,0])) ((kp.find 1000004).getD []) (K2 Q) [(0,.slice a0 n0 c0 e0),(1,.slice a1 n1 c1 e1),(5,.int .i64 x5)] h
def Yba (Q:QT) (h:Zaa):Prop:=At (K1 Q) (.exit 0) [(4,.undef)] h
def L4t (Q:QT) (R4:T4) (a0:Pt) (n0 c0:Nat) (e0:Bool) (a1:Pt) (n1 c1:Nat) (e1:Bool) (x5:Int) (h:Zaa):Prop:=
 bcase (decide ((x5:Int) < (((n0:Nat):Int)))) ((0≤(x5:Int)∧(x5:Int) < (n0:Nat))∧(Zba a0 fun A B=>(0≤(x5:Int)∧(x5:Int) < (n1:Nat))∧(Zba a1 fun C D=>Zcs (Zbf h (.ptr (A,B + (Int.toNat x5) * 2)) 2) fun E=>Zaj E fun E F=>Zbs E fun E=>Zaj F fun F G=>Zbs F fun F=>Zcf G (Zcs (Zbf h (.ptr (C,D + (Int.toNat x5) * 2)) 2) fun C=>Zaj C fun C D=>Zbs C fun C=>Zaj D fun D G=>Zbs D fun D=>Zcf G ((Zbf h (.ptr (A,B + (Int.toNat x5) * 2)) 2=Zbf h (.ptr (A,B + (Int.toNat x5) * 2)) 2)∧Zae pg Zkj [.agg [.str E,.str F],.agg [.str C,.str D]] h fun A B=>
 Zbp A fun A=>bcase (!A) (Q (.bool false) B) (R4 a0 n0 c0 e0 a1 n1 c1 e1 (IntKind.wrap .i64 (x5 + 1)) B)))))) (Yba Q h)
theorem Zvd (Q:QT) (R4:T4) (a0:Pt) (n0 c0:Nat) (e0:Bool) (a1:Pt) (n1 c1:Nat) (e1:Bool) (x5:Int) (h:Zaa) (ht:L4t Q R4 a0 n0 c0 e0 a1 n1 c1 e1 x5 h):Den pg fn.ntmps (C [1,1,0,1,0,0]) [(0,.slice a0 n0 c0 e0),(1,.slice a1 n1 c1 e1),(5,.int .i64 x5)] h (K3 Q R4):=
 Zbb (kp:=kp) (cast (by kernel_rfl) ht)
theorem L4ind (Q:QT) (a0:Pt) (n0 c0:Nat) (e0:Bool) (a1:Pt) (n1 c1:Nat) (e1:Bool) {G:Type} (J:G→Int→Zaa→Prop) (m:G→Nat)
 (hr:∀ (g:G) (x5:Int) (h:Zaa),J g x5 h→∀ (R4:T4),(∀ g' (x5:Int) (h:Zaa),m g' < m g→J g' x5 h→R4 a0 n0 c0 e0 a1 n1 c1 e1 x5 h)→L4t Q R4 a0 n0 c0 e0 a1 n1 c1 e1 x5 h)
 (g:G) (x5:Int) (h:Zaa) (hj:J g x5 h):L4 Q a0 n0 c0 e0 a1 n1 c1 e1 x5 h:=by
 let P:=fun (K:Int→Zaa→Prop) a0' n0' c0' e0' a1' n1' c1' e1' x5 h=>a0=a0'∧n0=n0'∧c0=c0'∧e0=e0'∧a1=a1'∧n1=n1'∧c1=c1'∧e1=e1'∧K x5 h
 refine Zdz.inv2 (fun g=>E4 (P (J g))) (fun g=>E4 (P fun x5 h=>∃ g',m g' < m g∧J g' x5 h)) m ?_ ?_ g ⟨rfl,rfl,rfl,rfl,rfl,rfl,rfl,rfl,hj⟩
 ·intro g env h hi
  obtain ⟨a0',n0',c0',e0',a1',n1',c1',e1',x5,rfl,rfl,rfl,rfl,rfl,rfl,rfl,rfl,rfl,hj⟩:=Zji hi
  exact Zvd Q _ a0 n0 c0 e0 a1 n1 c1 e1 x5 h (hr g x5 h hj (P fun x5 h=>∃ g',m g' < m g∧J g' x5 h) fun g' x5 h hlt hj=>⟨rfl,rfl,rfl,rfl,rfl,rfl,rfl,rfl,g',hlt,hj⟩)
 ·intro g env h hi
  obtain ⟨a0',n0',c0',e0',a1',n1',c1',e1',x5,rfl,rfl,rfl,rfl,rfl,rfl,rfl,rfl,rfl,g',hlt,hj⟩:=Zji hi
  exact ⟨g',hlt,rfl,rfl,rfl,rfl,rfl,rfl,rfl,rfl,hj⟩
theorem A4x0i (Q:QT) (h:Zaa) (ht :
 Q (.bool true) h):Yba Q h:=
 At.mk (cast (by kernel_rfl) ht)
theorem call (a0:Pt) (n0 c0:Nat) (e0:Bool) (a1:Pt) (n1 c1:Nat) (e1:Bool) (h:Zaa) (Q:QT) (ht :
 bcase (!((((n0:Nat):Int):Int) == (((n1:Nat):Int)))) (Q (.bool false) h) (L4 Q a0 n0 c0 e0 a1 n1 c1 e1 0 h)):Zae pg Zma [.slice a0 n0 c0 e0,.slice a1 n1 c1 e1] h Q:=
 Zae.of_body kp (c:=cod fn) (fn:=fn) Go.Proofs.Tryz.func138 (by kernel_rfl) (by kernel_rfl) (Nat.le_of_ble_eq_true (by kernel_rfl))
  (cast (by kernel_rfl) ht)
end Zhm
end Go.Sim

set_option maxRecDepth 100000
set_option maxHeartbeats 0
set_option linter.unusedVariables false
namespace Go.Sim
open Go Go.RowKit
namespace Zrg
noncomputable abbrev fn:Func:=Go.Proofs.Tryz.f131
def kp:Zce:=[]
noncomputable def C (p:List Nat):Code:=(cod fn).sub p
def KR (Q:QT):KT:=Zev pg fn.results.toList Q
theorem call (x0x0 x0x1:List Nat) (x1:Int) (h:Zaa) (Q:QT) (ht :
 Zcy (h ++ [.cells Zqc [.str x0x0,.str x0x1] false]) fun A=>Zbs (Zad A (.ptr (h.length,0 + 0))) fun B=>bcase (decide (((IntKind.wrap .i64 (x1 - (((List.length B:Nat):Int)))):Int) < 0)) (Q (.int .i64 (-1)) A) (Zbs (Zad A (.ptr (h.length,0 + 1))) fun C=>bcase (decide (((IntKind.wrap .i64 ((IntKind.wrap .i64 (x1 - (((List.length B:Nat):Int)))) - (((List.length C:Nat):Int)))):Int) < 0)) (Q (.int .i64 (-1)) A) (Q (.int .i64 (IntKind.wrap .i64 ((IntKind.wrap .i64 (x1 - (((List.length B:Nat):Int)))) - (((List.length C:Nat):Int))))) A))):Zae pg Zkg [.agg [.str x0x0,.str x0x1],.int .i64 x1] h Q:=
 Zae.of_body kp (c:=cod fn) (fn:=fn) Go.Proofs.Tryz.func131 (by kernel_rfl) (by kernel_rfl) (Nat.le_of_ble_eq_true (by kernel_rfl))
  (cast (by kernel_rfl) ht)
end Zrg
namespace Zqy
noncomputable abbrev fn:Func:=Go.Proofs.Tryz.f137
def kp:Zce:=[]
noncomputable def C (p:List Nat):Code:=(cod fn).sub p
def KR (Q:QT):KT:=Zev pg fn.results.toList Q
theorem call (x0x0 x0x1 x1x0 x1x1:List Nat) (h:Zaa) (Q:QT) (ht :
 Zcy (h ++ [.cells Zbv [.str x0x0,.str x0x1] false]) fun A=>Zcy (A ++ [.cells Zbv [.str x1x0,.str x1x1] false]) fun B=>Zbs (Zad B (.ptr (h.length,0 + 0))) fun C=>Zbs (Zad B (.ptr (A.length,0 + 0))) fun D=>bcase (!(decide (C=D))) (Q (.bool false) B) (Zbs (Zad B (.ptr (h.length,0 + 1))) fun C=>Zbs (Zad B (.ptr (A.length,0 + 1))) fun A=>bcase (!(decide (C=A))) (Q (.bool false) B) (Q (.bool true) B))):Zae pg Zkj [.agg [.str x0x0,.str x0x1],.agg [.str x1x0,.str x1x1]] h Q:=
 Zae.of_body kp (c:=cod fn) (fn:=fn) Go.Proofs.Tryz.func137 (by kernel_rfl) (by kernel_rfl) (Nat.le_of_ble_eq_true (by kernel_rfl))
  (cast (by kernel_rfl) ht)
end Zqy
namespace Zrc
noncomputable abbrev fn:Func:=Go.Proofs.Tryz.f135
def kp:Zce:=[]
noncomputable def C (p:List Nat):Code:=(cod fn).sub p
def KR (Q:QT):KT:=Zev pg fn.results.toList Q
theorem call (x0x0 x0x1:List Nat) (h:Zaa) (Q:QT) (ht :
 Zcy (h ++ [.cells Zqc [.str x0x0,.str x0x1] false]) fun A=>Zcy (A ++ [.cells Zbv [.str [],.str []] false]) fun B=>Zcy (B ++ [.cells Zbv [.str [],.str []] false]) fun C=>Zbs (Zad C (.ptr (h.length,0 + 0))) fun D=>Zch (Zbe C (.ptr (B.length,0 + 0)) [.str D]) fun C=>Zbs (Zad C (.ptr (h.length,0 + 1))) fun D=>Zch (Zbe C (.ptr (B.length,0 + 1)) [.str D]) fun C=>Zcs (Zbf C (.ptr (B.length,0)) 2) fun B=>Zaj B fun B D=>Zbs B fun B=>Zaj D fun D E=>Zbs D fun D=>Zcf E (Zch (Zbe C (.ptr (A.length,0)) [.str B,.str D]) fun B=>Zcs (Zbf B (.ptr (A.length,0)) 2) fun A=>Zaj A fun A C=>Zbs A fun A=>Zaj C fun C D=>Zbs C fun C=>Zcf D (Q (.agg [.str A,.str C]) B))):Zae pg Zkf [.agg [.str x0x0,.str x0x1]] h Q:=
 Zae.of_body kp (c:=cod fn) (fn:=fn) Go.Proofs.Tryz.func135 (by kernel_rfl) (by kernel_rfl) (Nat.le_of_ble_eq_true (by kernel_rfl))
  (cast (by kernel_rfl) ht)
end Zrc
namespace Zhj
noncomputable abbrev fn:Func:=Go.Proofs.Tryz.f132
def kp:Zce:=[(3000005,[1,4]),(1000005,[0,1,5])]
noncomputable def C (p:List Nat):Code:=(cod fn).sub p
def KR (Q:QT):KT:=Zev pg fn.results.toList Q
abbrev T5:=Pt→Nat→Nat→Bool→Int→Int→Zaa→Prop
def E5 (R5:T5) (env:Env) (h:Zaa):Prop:=Zby 0 env fun v env=>xSl v fun a0 n0 c0 e0=>Zby 1 env fun v env=>Zea .i64 v fun x1=>Zby 5 env fun v env=>Zea .i64 v fun x5=>Zjh env (R5 a0 n0 c0 e0 x1 x5 h)
theorem Zgd {R5:T5} {env:Env} {h:Zaa} (hi:E5 R5 env h):∃ a0,∃ n0,∃ c0,∃ e0,∃ x1,∃ x5,env=[(0,.slice a0 n0 c0 e0),(1,.int .i64 x1),(5,.int .i64 x5)]∧R5 a0 n0 c0 e0 x1 x5 h:=by
 unfold E5 at hi
 repeat ((first | (have k:=Zaf hi; clear hi; obtain ⟨_,_,e,hi⟩:=k) | (have k:=Zav hi; clear hi; obtain ⟨_,e,hi⟩:=k) | (have k:=Zbz hi; clear hi; obtain ⟨_,_,_,_,e,hi⟩:=k)); subst e)
 obtain ⟨rfl,hi⟩:=Zbi hi
 exact ⟨_,_,_,_,_,_,rfl,hi⟩
def K0 (Q:QT):KT:=andThen (fun env' h'=>(match kp.find 4000010 with | some ks=>Den pg fn.ntmps (C [1,1,1,1]) (env'.keep ks) h' (KR Q) | none=>den pg fn.ntmps kp (C [1,1,1,1]) env' h' (KR Q))) (KR Q)
def K1 (Q:QT):KT:=Zcl 0 (K0 Q)
def K2 (Q:QT):KT:=left kp 5 (K1 Q)
def K3 (Q:QT) (R5:T5):KT:=rnd ((kp.find 1000005).getD []) (E5 R5) (K2 Q)
def L5 (Q:QT) (a0:Pt) (n0 c0:Nat) (e0:Bool) (x1 x5:Int) (h:Zaa):Prop:=Zdz (Den pg fn.ntmps (C [1,1,1,0,1,0,0])) ((kp.find 1000005).getD []) (K2 Q) [(0,.slice a0 n0 c0 e0),(1,.int .i64 x1),(5,.int .i64 x5)] h
def A5x0 (Q:QT) (x1:Int) (h:Zaa):Prop:=At (K1 Q) (.exit 0) [(1,.int .i64 x1),(4,.undef)] h
def L5t (Q:QT) (R5:T5) (a0:Pt) (n0 c0:Nat) (e0:Bool) (x1 x5:Int) (h:Zaa):Prop:=
 bcase (decide ((x5:Int) < (((n0:Nat):Int)))) ((0≤(x5:Int)∧(x5:Int) < (n0:Nat))∧(Zba a0 fun A B=>Zcs (Zbf h (.ptr (A,B + (Int.toNat x5) * 2)) 2) fun A=>Zaj A fun A B=>Zbs A fun A=>Zaj B fun B C=>Zbs B fun B=>Zcf C (Zae pg Zkg [.agg [.str A,.str B],.int .i64 x1] h fun A B=>
 Zci .i64 A fun A=>bcase (decide ((A:Int) < 0)) (Q (.int .i64 (-1)) B) (R5 a0 n0 c0 e0 A (IntKind.wrap .i64 (x5 + 1)) B)))) (A5x0 Q x1 h)
theorem Zqk (Q:QT) (R5:T5) (a0:Pt) (n0 c0:Nat) (e0:Bool) (x1 x5:Int) (h:Zaa) (ht:L5t Q R5 a0 n0 c0 e0 x1 x5 h):Den pg fn.ntmps (C [1,1,1,0,1,0,0]) [(0,.slice a0 n0 c0 e0),(1,.int .i64 x1),(5,.int .i64 x5)] h (K3 Q R5):=
 Zbb (kp:=kp) (cast (by kernel_rfl) ht)
theorem L5ind (Q:QT) (a0:Pt) (n0 c0:Nat) (e0:Bool) {G:Type} (J:G→Int→Int→Zaa→Prop) (m:G→Nat)
 (hr:∀ (g:G) (x1 x5:Int) (h:Zaa),J g x1 x5 h→∀ (R5:T5),(∀ g' (x1 x5:Int) (h:Zaa),m g' < m g→J g' x1 x5 h→R5 a0 n0 c0 e0 x1 x5 h)→L5t Q R5 a0 n0 c0 e0 x1 x5 h)
 (g:G) (x1 x5:Int) (h:Zaa) (hj:J g x1 x5 h):L5 Q a0 n0 c0 e0 x1 x5 h:=by
 let P:=fun (K:Int→Int→Zaa→Prop) a0' n0' c0' e0' x1 x5 h=>a0=a0'∧n0=n0'∧c0=c0'∧e0=e0'∧K x1 x5 h
 refine Zdz.inv2 (fun g=>E5 (P (J g))) (fun g=>E5 (P fun x1 x5 h=>∃ g',m g' < m g∧J g' x1 x5 h)) m ?_ ?_ g ⟨rfl,rfl,rfl,rfl,hj⟩
 ·intro g env h hi
  obtain ⟨a0',n0',c0',e0',x1,x5,rfl,rfl,rfl,rfl,rfl,hj⟩:=Zgd hi
  exact Zqk Q _ a0 n0 c0 e0 x1 x5 h (hr g x1 x5 h hj (P fun x1 x5 h=>∃ g',m g' < m g∧J g' x1 x5 h) fun g' x1 x5 h hlt hj=>⟨rfl,rfl,rfl,rfl,g',hlt,hj⟩)
 ·intro g env h hi
  obtain ⟨a0',n0',c0',e0',x1,x5,rfl,rfl,rfl,rfl,rfl,g',hlt,hj⟩:=Zgd hi
  exact ⟨g',hlt,rfl,rfl,rfl,rfl,hj⟩
theorem A5x0i (Q:QT) (x1:Int) (h:Zaa) (ht :
 Q (.int .i64 x1) h):A5x0 Q x1 h:=
 At.mk (cast (by kernel_rfl) ht)
theorem call (a0:Pt) (n0 c0:Nat) (e0:Bool) (x1:Int) (h:Zaa) (Q:QT) (ht :
 bcase (decide (((IntKind.wrap .i64 (x1 - (((n0:Nat):Int)))):Int) < 0)) (Q (.int .i64 (-1)) h) (L5 Q a0 n0 c0 e0 (IntKind.wrap .i64 (x1 - (((n0:Nat):Int)))) 0 h)):Zae pg Zlo [.slice a0 n0 c0 e0,.int .i64 x1] h Q:=
 Zae.of_body kp (c:=cod fn) (fn:=fn) Go.Proofs.Tryz.func132 (by kernel_rfl) (by kernel_rfl) (Nat.le_of_ble_eq_true (by kernel_rfl))
  (cast (by kernel_rfl) ht)
end Zhj
end Go.Sim

set_option maxRecDepth 100000
set_option maxHeartbeats 0
set_option linter.unusedVariables false
namespace Go.Sim
open Go Go.RowKit
namespace Zhs
noncomputable abbrev fn:Func:=Go.Proofs.Tryz.f116
def kp:Zce:=[(3000003,[3]),(1000003,[0,3,7,8,9]),(4000007,[9,8,7,0,3])]
noncomputable def C (p:List Nat):Code:=(cod fn).sub p
def KR (Q:QT):KT:=Zev pg fn.results.toList Q
abbrev T3:=List Nat→Pt→Nat→Nat→Bool→Pt→Nat→Nat→Bool→Int→Int→Zaa→Prop
def E3 (R3:T3) (env:Env) (h:Zaa):Prop:=Zby 0 env fun v env=>Zbs v fun x0=>Zby 3 env fun v env=>xSl v fun a3 n3 c3 e3=>Zby 7 env fun v env=>xSl v fun a7 n7 c7 e7=>Zby 8 env fun v env=>Zea .i64 v fun x8=>Zby 9 env fun v env=>Zea .i64 v fun x9=>Zjh env (R3 x0 a3 n3 c3 e3 a7 n7 c7 e7 x8 x9 h)
theorem Zdv {R3:T3} {env:Env} {h:Zaa} (hi:E3 R3 env h):∃ x0,∃ a3,∃ n3,∃ c3,∃ e3,∃ a7,∃ n7,∃ c7,∃ e7,∃ x8,∃ x9,env=[(0,.str x0),(3,.slice a3 n3 c3 e3),(7,.slice a7 n7 c7 e7),(8,.int .i64 x8),(9,.int .i64 x9)]∧R3 x0 a3 n3 c3 e3 a7 n7 c7 e7 x8 x9 h:=by
 unfold E3 at hi
 repeat ((first | (have k:=Zaf hi; clear hi; obtain ⟨_,_,e,hi⟩:=k) | (have k:=Zjj hi; clear hi; obtain ⟨_,e,hi⟩:=k) | (have k:=Zav hi; clear hi; obtain ⟨_,e,hi⟩:=k) | (have k:=Zbz hi; clear hi; obtain ⟨_,_,_,_,e,hi⟩:=k)); subst e)
 obtain ⟨rfl,hi⟩:=Zbi hi
 exact ⟨_,_,_,_,_,_,_,_,_,_,_,rfl,hi⟩
def K0 (Q:QT):KT:=andThen (fun env' h'=>(match kp.find 4000008 with | some ks=>Den pg fn.ntmps (C [1,1,1]) (env'.keep ks) h' (KR Q) | none=>den pg fn.ntmps kp (C [1,1,1]) env' h' (KR Q))) (KR Q)
def K1 (Q:QT):KT:=Zcl 0 (K0 Q)
def K2 (Q:QT):KT:=left kp 3 (K1 Q)
def K3 (Q:QT) (R3:T3):KT:=rnd ((kp.find 1000003).getD []) (E3 R3) (K2 Q)
def L3 (Q:QT) (x0:List Nat) (a3:Pt) (n3 c3:Nat) (e3:Bool) (a7:Pt) (n7 c7:Nat) (e7:Bool) (x8 x9:Int) (h:Zaa):Prop:=Zdz (Den pg fn.ntmps (C [1,1,0,1,0,0])) ((kp.find 1000003).getD []) (K2 Q) [(0,.str x0),(3,.slice a3 n3 c3 e3),(7,.slice a7 n7 c7 e7),(8,.int .i64 x8),(9,.int .i64 x9)] h
def J7 (Q:QT) (R3:T3) (x9 x8:Int) (a7:Pt) (n7 c7:Nat) (e7:Bool) (x0:List Nat) (a3:Pt) (n3 c3:Nat) (e3:Bool) (h:Zaa):Prop:=Den pg fn.ntmps (C [1,1,0,1,0,0,1,1,1]) [(9,.int .i64 x9),(8,.int .i64 x8),(7,.slice a7 n7 c7 e7),(0,.str x0),(3,.slice a3 n3 c3 e3)] h (K3 Q R3)
def Znv (Q:QT) (a3:Pt) (n3 c3:Nat) (e3:Bool) (h:Zaa):Prop:=At (K1 Q) (.exit 0) [(3,.slice a3 n3 c3 e3)] h
def L3t (Q:QT) (R3:T3) (x0:List Nat) (a3:Pt) (n3 c3:Nat) (e3:Bool) (a7:Pt) (n7 c7:Nat) (e7:Bool) (x8 x9:Int) (h:Zaa):Prop:=
 bcase (decide ((x9:Int) < x8)) ((0≤(x9:Int)∧(x9:Int) < (n7:Nat))∧(Zba a7 fun A B=>Zbs (Zad h (.ptr (A,B + (Int.toNat x9) * 1))) fun A=>Zae pg Zey [.str x0,.str A] h fun B C=>
 Zbp B fun B=>bcase B (Zcy (C ++ [.cells Zdb [.str A] false]) fun A=>Zdp pg Zsl A (.slice a3 n3 c3 e3) (.slice (C.length,0) 1 1 true) fun A B=>xSl A fun A D E F=>J7 Q R3 x9 x8 a7 n7 c7 e7 x0 A D E F B) (J7 Q R3 x9 x8 a7 n7 c7 e7 x0 a3 n3 c3 e3 C))) (Znv Q a3 n3 c3 e3 h)
theorem Zjr (Q:QT) (R3:T3) (x0:List Nat) (a3:Pt) (n3 c3:Nat) (e3:Bool) (a7:Pt) (n7 c7:Nat) (e7:Bool) (x8 x9:Int) (h:Zaa) (ht:L3t Q R3 x0 a3 n3 c3 e3 a7 n7 c7 e7 x8 x9 h):Den pg fn.ntmps (C [1,1,0,1,0,0]) [(0,.str x0),(3,.slice a3 n3 c3 e3),(7,.slice a7 n7 c7 e7),(8,.int .i64 x8),(9,.int .i64 x9)] h (K3 Q R3):=
 Zbb (kp:=kp) (cast (by kernel_rfl) ht)
theorem L3ind (Q:QT) (x0:List Nat) (a7:Pt) (n7 c7:Nat) (e7:Bool) (x8:Int) {G:Type} (J:G→Pt→Nat→Nat→Bool→Int→Zaa→Prop) (m:G→Nat)
 (hr:∀ (g:G) (a3:Pt) (n3 c3:Nat) (e3:Bool) (x9:Int) (h:Zaa),J g a3 n3 c3 e3 x9 h→∀ (R3:T3),(∀ g' (a3:Pt) (n3 c3:Nat) (e3:Bool) (x9:Int) (h:Zaa),m g' < m g→J g' a3 n3 c3 e3 x9 h→R3 x0 a3 n3 c3 e3 a7 n7 c7 e7 x8 x9 h)→L3t Q R3 x0 a3 n3 c3 e3 a7 n7 c7 e7 x8 x9 h)
 (g:G) (a3:Pt) (n3 c3:Nat) (e3:Bool) (x9:Int) (h:Zaa) (hj:J g a3 n3 c3 e3 x9 h):L3 Q x0 a3 n3 c3 e3 a7 n7 c7 e7 x8 x9 h:=by
 let P:=fun (K:Pt→Nat→Nat→Bool→Int→Zaa→Prop) x0' a3 n3 c3 e3 a7' n7' c7' e7' x8' x9 h=>x0=x0'∧a7=a7'∧n7=n7'∧c7=c7'∧e7=e7'∧x8=x8'∧K a3 n3 c3 e3 x9 h
 refine Zdz.inv2 (fun g=>E3 (P (J g))) (fun g=>E3 (P fun a3 n3 c3 e3 x9 h=>∃ g',m g' < m g∧J g' a3 n3 c3 e3 x9 h)) m ?_ ?_ g ⟨rfl,rfl,rfl,rfl,rfl,rfl,hj⟩
 ·intro g env h hi
  obtain ⟨x0',a3,n3,c3,e3,a7',n7',c7',e7',x8',x9,rfl,rfl,rfl,rfl,rfl,rfl,rfl,hj⟩:=Zdv hi
  exact Zjr Q _ x0 a3 n3 c3 e3 a7 n7 c7 e7 x8 x9 h (hr g a3 n3 c3 e3 x9 h hj (P fun a3 n3 c3 e3 x9 h=>∃ g',m g' < m g∧J g' a3 n3 c3 e3 x9 h) fun g' a3 n3 c3 e3 x9 h hlt hj=>⟨rfl,rfl,rfl,rfl,rfl,rfl,g',hlt,hj⟩)
 ·intro g env h hi
  obtain ⟨x0',a3,n3,c3,e3,a7',n7',c7',e7',x8',x9,rfl,rfl,rfl,rfl,rfl,rfl,rfl,g',hlt,hj⟩:=Zdv hi
  exact ⟨g',hlt,rfl,rfl,rfl,rfl,rfl,rfl,hj⟩
theorem J7i (Q:QT) (R3:T3) (x9 x8:Int) (a7:Pt) (n7 c7:Nat) (e7:Bool) (x0:List Nat) (a3:Pt) (n3 c3:Nat) (e3:Bool) (h:Zaa) (ht :
 R3 x0 a3 n3 c3 e3 a7 n7 c7 e7 x8 (IntKind.wrap .i64 (x9 + 1)) h):J7 Q R3 x9 x8 a7 n7 c7 e7 x0 a3 n3 c3 e3 h:=
 Zbb (kp:=kp) (cast (by kernel_rfl) ht)
theorem A3x0i (Q:QT) (a3:Pt) (n3 c3:Nat) (e3:Bool) (h:Zaa) (ht :
 Q (.slice a3 n3 c3 e3) h):Znv Q a3 n3 c3 e3 h:=
 At.mk (cast (by kernel_rfl) ht)
theorem call (x0:List Nat) (h:Zaa) (Q:QT) (ht :
 Zcy (h ++ [.cells Zdb [] false]) fun A=>Zcy (A ++ [.cells Zdb [.str [88],.str [89],.str [90],.str [120],.str [121],.str [122]] false]) fun B=>L3 Q x0 (h.length,0) 0 0 true (A.length,0) 6 6 true (((6:Nat):Int)) 0 B):Zae pg Zqj [.str x0] h Q:=
 Zae.of_body kp (c:=cod fn) (fn:=fn) Go.Proofs.Tryz.func116 (by kernel_rfl) (by kernel_rfl) (Nat.le_of_ble_eq_true (by kernel_rfl))
  (cast (by kernel_rfl) ht)
end Zhs
end Go.Sim

set_option maxRecDepth 100000
set_option maxHeartbeats 0
set_option linter.unusedVariables false
namespace Go.Sim
open Go Go.RowKit
end Go.Sim

set_option maxRecDepth 100000
set_option maxHeartbeats 0
set_option linter.unusedVariables false
namespace Go.Sim
open Go Go.RowKit
end Go.Sim

set_option maxRecDepth 100000
set_option maxHeartbeats 0
set_option linter.unusedVariables false
namespace Go.Sim
open Go Go.RowKit
end Go.Sim

set_option maxRecDepth 100000
set_option maxHeartbeats 0
set_option linter.unusedVariables false
namespace Go.Sim
open Go Go.RowKit
end Go.Sim

set_option maxRecDepth 100000
set_option maxHeartbeats 0
set_option linter.unusedVariables false
namespace Go.Sim
open Go Go.RowKit
namespace Zps
noncomputable abbrev fn:Func:=Go.Proofs.Tryz.f55
def kp:Zce:=[]
noncomputable def C (p:List Nat):Code:=(cod fn).sub p
def KR (Q:QT):KT:=Zev pg fn.results.toList Q
theorem call (x0x0 x0x1:List Nat) (a0x2:Pt) (n0x2 c0x2:Nat) (e0x2:Bool) (x1x0 x1x1:List Nat) (a1x2:Pt) (n1x2 c1x2:Nat) (e1x2:Bool) (h:Zaa) (Q:QT) (ht :
 Zcy (h ++ [.cells Zac [.str x0x0,.str x0x1,.slice a0x2 n0x2 c0x2 e0x2] false]) fun A=>Zcy (A ++ [.cells Zac [.str x1x0,.str x1x1,.slice a1x2 n1x2 c1x2 e1x2] false]) fun B=>Zbs (Zad B (.ptr (h.length,0 + 0 + 0))) fun C=>Zbs (Zad B (.ptr (A.length,0 + 0 + 0))) fun D=>bcase (decide (C=D)) (Zbs (Zad B (.ptr (A.length,0 + 0 + 1))) fun A=>Zbs (Zad B (.ptr (h.length,0 + 0 + 1))) fun C=>Zae pg Ziv [.str A,.str C] B fun A C=>
 Zbp A fun A=>Q (.bool A) C) (Q (.bool false) B)):Zae pg Zgb [.agg [.str x0x0,.str x0x1,.slice a0x2 n0x2 c0x2 e0x2],.agg [.str x1x0,.str x1x1,.slice a1x2 n1x2 c1x2 e1x2]] h Q:=
 Zae.of_body kp (c:=cod fn) (fn:=fn) Go.Proofs.Tryz.func55 (by kernel_rfl) (by kernel_rfl) (Nat.le_of_ble_eq_true (by kernel_rfl))
  (cast (by kernel_rfl) ht)
end Zps
namespace Zjw
noncomputable abbrev fn:Func:=Go.Proofs.Tryz.f51
def kp:Zce:=[(4000003,[3,1,2]),(2000003,[6])]
noncomputable def C (p:List Nat):Code:=(cod fn).sub p
def KR (Q:QT):KT:=Zev pg fn.results.toList Q
def J3 (Q:QT) (i3 o3:Nat) (x1 x2:Int) (h:Zaa):Prop:=Den pg fn.ntmps (C [1,1]) [(3,.ptr (i3,o3)),(1,.int .i64 x1),(2,.int .i64 x2)] h (KR Q)
theorem J3i (Q:QT) (i3 o3:Nat) (x1 x2:Int) (h:Zaa) (ht :
 xSl (Zad h (.ptr (i3,o3 + 1))) fun A B C C=>(0≤(x1:Int)∧(x1:Int) < (B:Nat))∧(Zba A fun A B=>Zbs (Zad h (.ptr (A,B + (Int.toNat x1) * 3 + 0 + 0))) fun C=>xSl (Zad h (.ptr (i3,o3 + 1))) fun D E F F=>(Zad h (.ptr (A,B + (Int.toNat x1) * 3 + 0 + 0))=Zad h (.ptr (A,B + (Int.toNat x1) * 3 + 0 + 0)))∧(Zad h (.ptr (i3,o3 + 1))=Zad h (.ptr (i3,o3 + 1)))∧(0≤(x2:Int)∧(x2:Int) < (E:Nat))∧(Zba D fun D E=>Zbs (Zad h (.ptr (D,E + (Int.toNat x2) * 3 + 0 + 0))) fun D=>(Zad h (.ptr (A,B + (Int.toNat x1) * 3 + 0 + 0))=Zad h (.ptr (A,B + (Int.toNat x1) * 3 + 0 + 0)))∧(Zad h (.ptr (i3,o3 + 1))=Zad h (.ptr (i3,o3 + 1)))∧bcase (decide (C=D)) (xSl (Zad h (.ptr (i3,o3 + 1))) fun C D E E=>(0≤(x2:Int)∧(x2:Int) < (D:Nat))∧(Zba C fun C D=>Zbs (Zad h (.ptr (C,D + (Int.toNat x2) * 3 + 0 + 1))) fun E=>xSl (Zad h (.ptr (i3,o3 + 1))) fun F G H H=>(Zad h (.ptr (C,D + (Int.toNat x2) * 3 + 0 + 1))=Zad h (.ptr (C,D + (Int.toNat x2) * 3 + 0 + 1)))∧(Zad h (.ptr (i3,o3 + 1))=Zad h (.ptr (i3,o3 + 1)))∧(Zad h (.ptr (A,B + (Int.toNat x1) * 3 + 0 + 0))=Zad h (.ptr (A,B + (Int.toNat x1) * 3 + 0 + 0)))∧(Zad h (.ptr (i3,o3 + 1))=Zad h (.ptr (i3,o3 + 1)))∧(0≤(x1:Int)∧(x1:Int) < (G:Nat))∧(Zba F fun F G=>Zbs (Zad h (.ptr (F,G + (Int.toNat x1) * 3 + 0 + 1))) fun F=>(Zad h (.ptr (C,D + (Int.toNat x2) * 3 + 0 + 1))=Zad h (.ptr (C,D + (Int.toNat x2) * 3 + 0 + 1)))∧(Zad h (.ptr (i3,o3 + 1))=Zad h (.ptr (i3,o3 + 1)))∧(Zad h (.ptr (A,B + (Int.toNat x1) * 3 + 0 + 0))=Zad h (.ptr (A,B + (Int.toNat x1) * 3 + 0 + 0)))∧(Zad h (.ptr (i3,o3 + 1))=Zad h (.ptr (i3,o3 + 1)))∧Zae pg Zit [.str E,.str F] h fun C D=>
 Zbp C fun C=>(Zad D (.ptr (i3,o3 + 1))=Zad h (.ptr (i3,o3 + 1)))∧(Zad D (.ptr (A,B + (Int.toNat x1) * 3 + 0 + 0))=Zad h (.ptr (A,B + (Int.toNat x1) * 3 + 0 + 0)))∧(Zad D (.ptr (i3,o3 + 1))=Zad h (.ptr (i3,o3 + 1)))∧Q (.bool C) D))) ((Zad h (.tup [])=Zad h (.tup []))∧(Zad h (.tup [])=Zad h (.tup []))∧(Zad h (.ptr (A,B + (Int.toNat x1) * 3 + 0 + 0))=Zad h (.ptr (A,B + (Int.toNat x1) * 3 + 0 + 0)))∧(Zad h (.ptr (i3,o3 + 1))=Zad h (.ptr (i3,o3 + 1)))∧(Zad h (.tup [])=Zad h (.tup []))∧(Zad h (.tup [])=Zad h (.tup []))∧(Zad h (.ptr (A,B + (Int.toNat x1) * 3 + 0 + 0))=Zad h (.ptr (A,B + (Int.toNat x1) * 3 + 0 + 0)))∧(Zad h (.ptr (i3,o3 + 1))=Zad h (.ptr (i3,o3 + 1)))∧(Zad h (.tup [])=Zad h (.tup []))∧(Zad h (.ptr (A,B + (Int.toNat x1) * 3 + 0 + 0))=Zad h (.ptr (A,B + (Int.toNat x1) * 3 + 0 + 0)))∧(Zad h (.ptr (i3,o3 + 1))=Zad h (.ptr (i3,o3 + 1)))∧Q (.bool false) h)))):J3 Q i3 o3 x1 x2 h:=
 Zbb (kp:=kp) (cast (by kernel_rfl) ht)
theorem call (a0x0:Pt) (n0x0 c0x0:Nat) (e0x0:Bool) (a0x1:Pt) (n0x1 c0x1:Nat) (e0x1:Bool) (x1 x2:Int) (h:Zaa) (Q:QT) (ht :
 Zcy (h ++ [.cells Zao [.slice a0x0 n0x0 c0x0 e0x0,.slice a0x1 n0x1 c0x1 e0x1] false]) fun A=>Zcs (Zbf A (.ptr (h.length,0)) 2) fun B=>Zaj B fun B C=>xSl B fun B D E F=>Zaj C fun C G=>xSl C fun C H I J=>Zcf G (Zae pg Zgv [.agg [.slice B D E F,.slice C H I J]] A fun A B=>
 Zbp A fun A=>bcase (!A) (Q (.bool false) B) (xSl (Zad B (.ptr (h.length,0 + 1))) fun A A C C=>Zae pg Ziz [.int .i64 x1,.int .i64 0,.int .i64 (IntKind.wrap .i64 ((((A:Nat):Int)) - 1))] B fun A B=>
 Zbp A fun A=>bcase (!A) (Q (.bool false) B) (xSl (Zad B (.ptr (h.length,0 + 1))) fun A A C C=>Zae pg Ziz [.int .i64 x2,.int .i64 0,.int .i64 (IntKind.wrap .i64 ((((A:Nat):Int)) - 1))] B fun A B=>
 Zbp A fun A=>bcase (!A) (Q (.bool false) B) (J3 Q h.length 0 x1 x2 B))))):Zae pg Zhq [.agg [.slice a0x0 n0x0 c0x0 e0x0,.slice a0x1 n0x1 c0x1 e0x1],.int .i64 x1,.int .i64 x2] h Q:=
 Zae.of_body kp (c:=cod fn) (fn:=fn) Go.Proofs.Tryz.func51 (by kernel_rfl) (by kernel_rfl) (Nat.le_of_ble_eq_true (by kernel_rfl))
  (cast (by kernel_rfl) ht)
end Zjw
end Go.Sim

set_option maxRecDepth 100000
set_option maxHeartbeats 0
set_option linter.unusedVariables false
namespace Go.Sim
open Go Go.RowKit
end Go.Sim

set_option maxRecDepth 100000
set_option maxHeartbeats 0
set_option linter.unusedVariables false
namespace Go.Sim
open Go Go.RowKit
namespace Zsw
noncomputable abbrev fn:Func:=Go.Proofs.Tryz.f34
def kp:Zce:=[]
noncomputable def C (p:List Nat):Code:=(cod fn).sub p
def KR (Q:QT):KT:=Zev pg fn.results.toList Q
theorem call (x0:List Nat) (m1:Option Nat) (h:Zaa) (Q:QT) (ht :
 Zae pg Zgl [.str x0] h fun A B=>
 Zvv A fun A=>Zaj A fun A C=>Zfd A fun A=>Zaj C fun C D=>Zbs C fun C=>Zcf D (Zae pg Zgy [.ptr A,.map m1] B fun A B=>
 Zfd A fun A=>Q (.ptr A) B)):Zae pg Zlk [.str x0,.map m1] h Q:=
 Zae.of_body kp (c:=cod fn) (fn:=fn) Go.Proofs.Tryz.func34 (by kernel_rfl) (by kernel_rfl) (Nat.le_of_ble_eq_true (by kernel_rfl))
  (cast (by kernel_rfl) ht)
end Zsw
namespace Zkz
noncomputable abbrev fn:Func:=Go.Proofs.Tryz.f29
def kp:Zce:=[(4000003,[0,1])]
noncomputable def C (p:List Nat):Code:=(cod fn).sub p
def KR (Q:QT):KT:=Zev pg fn.results.toList Q
def J3 (Q:QT) (x0 x1:List Nat) (h:Zaa):Prop:=Den pg fn.ntmps (C [1,1]) [(0,.str x0),(1,.str x1)] h (KR Q)
theorem J3i (Q:QT) (x0 x1:List Nat) (h:Zaa) (ht :
 Zcy (h ++ [.map [] 0]) fun A=>Zae pg Zlk [.str x0,.map ((some h.length))] A fun A B=>
 Zfd A fun A=>Zcy (B ++ [.map [] 0]) fun C=>Zae pg Zlk [.str x1,.map ((some B.length))] C fun B C=>
 Zfd B fun B=>Zae pg Zlg [.ptr A,.ptr B] C fun B C=>
 Zbp B fun B=>bcase (!B) (Q (.bool true) C) (Zae pg Zjt [.ptr A] C fun A B=>
 Zbp A fun A=>Q (.bool (!A)) B)):J3 Q x0 x1 h:=
 Zbb (kp:=kp) (cast (by kernel_rfl) ht)
theorem call (x0 x1:List Nat) (h:Zaa) (Q:QT) (ht :
 Zae pg Zew [.str x0] h fun A B=>
 Zbp A fun A=>bcase (!A) (Q (.bool false) B) (Zae pg Zew [.str x1] B fun A B=>
 Zbp A fun A=>bcase (!A) (Q (.bool false) B) (J3 Q x0 x1 B))):Zae pg Zgg [.str x0,.str x1] h Q:=
 Zae.of_body kp (c:=cod fn) (fn:=fn) Go.Proofs.Tryz.func29 (by kernel_rfl) (by kernel_rfl) (Nat.le_of_ble_eq_true (by kernel_rfl))
  (cast (by kernel_rfl) ht)
end Zkz
end Go.Sim

set_option maxRecDepth 100000
set_option maxHeartbeats 0
set_option linter.unusedVariables false
namespace Go.Sim
open Go Go.RowKit
namespace Zdx
noncomputable abbrev fn:Func:=Go.Proofs.Tryz.f74
def kp:Zce:=[(2000003,[1,0]),(4000004,[1,0]),(3000007,[5]),(1000007,[1,5,46,47,48]),(2000009,[48,47,46,5,1])]
noncomputable def C (p:List Nat):Code:=(cod fn).sub p
def KR (Q:QT):KT:=Zev pg fn.results.toList Q
abbrev T7:=Option Nat→Nat→Nat→Pt→Nat→Nat→Bool→Int→Int→Zaa→Prop
def E7 (R7:T7) (env:Env) (h:Zaa):Prop:=Zby 1 env fun v env=>Yei v fun m1=>Zby 5 env fun v env=>Zfd v fun a=>Zba a fun i5 o5=>Zby 46 env fun v env=>xSl v fun a46 n46 c46 e46=>Zby 47 env fun v env=>Zea .i64 v fun x47=>Zby 48 env fun v env=>Zea .i64 v fun x48=>Zjh env (R7 m1 i5 o5 a46 n46 c46 e46 x47 x48 h)
theorem Zsr {R7:T7} {env:Env} {h:Zaa} (hi:E7 R7 env h):∃ m1,∃ i5,∃ o5,∃ a46,∃ n46,∃ c46,∃ e46,∃ x47,∃ x48,env=[(1,.map m1),(5,.ptr (i5,o5)),(46,.slice a46 n46 c46 e46),(47,.int .i64 x47),(48,.int .i64 x48)]∧R7 m1 i5 o5 a46 n46 c46 e46 x47 x48 h:=by
 unfold E7 at hi
 have hi0:=hi
 clear hi
 obtain ⟨_,_,rfl,hi1⟩:=Zaf hi0
 obtain ⟨m1,rfl,hi2⟩:=Zqu hi1
 obtain ⟨_,_,rfl,hi3⟩:=Zaf hi2
 obtain ⟨a,rfl,hi4⟩:=Zbk hi3
 obtain ⟨i5,o5,rfl,hi5⟩:=Zbj hi4
 obtain ⟨_,_,rfl,hi6⟩:=Zaf hi5
 obtain ⟨a46,n46,c46,e46,rfl,hi7⟩:=Zbz hi6
 obtain ⟨_,_,rfl,hi8⟩:=Zaf hi7
 obtain ⟨x47,rfl,hi9⟩:=Zav hi8
 obtain ⟨_,_,rfl,hi10⟩:=Zaf hi9
 obtain ⟨x48,rfl,hi11⟩:=Zav hi10
 obtain ⟨rfl,hi12⟩:=Zbi hi11
 have hi:=hi12
 exact ⟨m1,i5,o5,a46,n46,c46,e46,x47,x48,rfl,hi⟩
def K0 (Q:QT):KT:=andThen (fun env' h'=>(match kp.find 4000005 with | some ks=>Den pg fn.ntmps (C [1,1]) (env'.keep ks) h' (KR Q) | none=>den pg fn.ntmps kp (C [1,1]) env' h' (KR Q))) (KR Q)
def K1 (Q:QT):KT:=andThen (fun env' h'=>(match kp.find 4000011 with | some ks=>Den pg fn.ntmps (C [1,1,1,1]) (env'.keep ks) h' (KR Q) | none=>den pg fn.ntmps kp (C [1,1,1,1]) env' h' (KR Q))) (KR Q)
def K2 (Q:QT):KT:=Zcl 0 (K1 Q)
def K3 (Q:QT):KT:=left kp 7 (K2 Q)
def K4 (Q:QT) (R7:T7):KT:=rnd ((kp.find 1000007).getD []) (E7 R7) (K3 Q)
def J4 (Q:QT) (m1:Option Nat) (a0:Pt) (h:Zaa):Prop:=Den pg fn.ntmps (C [1,0,1,0,1]) [(1,.map m1),(0,.ptr a0)] h (K0 Q)
def L7 (Q:QT) (m1:Option Nat) (i5 o5:Nat) (a46:Pt) (n46 c46:Nat) (e46:Bool) (x47 x48:Int) (h:Zaa):Prop:=Zdz (Den pg fn.ntmps (C [1,1,1,0,1,0,0])) ((kp.find 1000007).getD []) (K3 Q) [(1,.map m1),(5,.ptr (i5,o5)),(46,.slice a46 n46 c46 e46),(47,.int .i64 x47),(48,.int .i64 x48)] h
def Yrt (Q:QT) (i5 o5:Nat) (h:Zaa):Prop:=At (K2 Q) (.exit 0) [(5,.ptr (i5,o5))] h
theorem J4i (Q:QT) (m1:Option Nat) (a0:Pt) (h:Zaa) (ht :
 Zba a0 fun A B=>Zbs (Zad h (.ptr (A,B + 0))) fun A=>Zdc h m1 fun es_39 k_40=>Zqg es_39 A fun A=>Zfd (some (Option.getD A (.ptr none))) fun A=>Q (.ptr A) h):J4 Q m1 a0 h:=
 Zbb (kp:=kp) (cast (by kernel_rfl) ht)
def L7t (Q:QT) (R7:T7) (m1:Option Nat) (i5 o5:Nat) (a46:Pt) (n46 c46:Nat) (e46:Bool) (x47 x48:Int) (h:Zaa):Prop:=
 bcase (decide ((x48:Int) < x47)) ((0≤(x48:Int)∧(x48:Int) < (n46:Nat))∧(Zba a46 fun A B=>Zfd (Zad h (.ptr (A,B + (Int.toNat x48) * 1))) fun A=>xSl (Zad h (.ptr (i5,o5 + 1))) fun B C D E=>Zae pg Zgy [.ptr A,.map m1] h fun A F=>
 Zfd A fun A=>(Zad F (.ptr (i5,o5 + 1))=Zad h (.ptr (i5,o5 + 1)))∧Zcy (F ++ [.cells Zcz [.ptr A] false]) fun A=>(Zad A (.ptr (i5,o5 + 1))=Zad F (.ptr (i5,o5 + 1)))∧Zdp pg Zkw A (.slice B C D E) (.slice (F.length,0) 1 1 true) fun A B=>xSl A fun A C D E=>Zch (Zbe B (.ptr (i5,o5 + 1)) [.slice A C D E]) fun A=>R7 m1 i5 o5 a46 n46 c46 e46 x47 (IntKind.wrap .i64 (x48 + 1)) A)) (Yrt Q i5 o5 h)
theorem Yia (Q:QT) (R7:T7) (m1:Option Nat) (i5 o5:Nat) (a46:Pt) (n46 c46:Nat) (e46:Bool) (x47 x48:Int) (h:Zaa) (ht:L7t Q R7 m1 i5 o5 a46 n46 c46 e46 x47 x48 h):Den pg fn.ntmps (C [1,1,1,0,1,0,0]) [(1,.map m1),(5,.ptr (i5,o5)),(46,.slice a46 n46 c46 e46),(47,.int .i64 x47),(48,.int .i64 x48)] h (K4 Q R7):=
 Zbb (kp:=kp) (cast (by kernel_rfl) ht)
theorem L7ind (Q:QT) (m1:Option Nat) (i5 o5:Nat) (a46:Pt) (n46 c46:Nat) (e46:Bool) (x47:Int) {G:Type} (J:G→Int→Zaa→Prop) (m:G→Nat)
 (hr:∀ (g:G) (x48:Int) (h:Zaa),J g x48 h→∀ (R7:T7),(∀ g' (x48:Int) (h:Zaa),m g' < m g→J g' x48 h→R7 m1 i5 o5 a46 n46 c46 e46 x47 x48 h)→L7t Q R7 m1 i5 o5 a46 n46 c46 e46 x47 x48 h)
 (g:G) (x48:Int) (h:Zaa) (hj:J g x48 h):L7 Q m1 i5 o5 a46 n46 c46 e46 x47 x48 h:=by
 let P:=fun (K:Int→Zaa→Prop) m1' i5' o5' a46' n46' c46' e46' x47' x48 h=>m1=m1'∧i5=i5'∧o5=o5'∧a46=a46'∧n46=n46'∧c46=c46'∧e46=e46'∧x47=x47'∧K x48 h
 refine Zdz.inv2 (fun g=>E7 (P (J g))) (fun g=>E7 (P fun x48 h=>∃ g',m g' < m g∧J g' x48 h)) m ?_ ?_ g ⟨rfl,rfl,rfl,rfl,rfl,rfl,rfl,rfl,hj⟩
 ·intro g env h hi
  obtain ⟨m1',i5',o5',a46',n46',c46',e46',x47',x48,rfl,rfl,rfl,rfl,rfl,rfl,rfl,rfl,rfl,hj⟩:=Zsr hi
  exact Yia Q _ m1 i5 o5 a46 n46 c46 e46 x47 x48 h (hr g x48 h hj (P fun x48 h=>∃ g',m g' < m g∧J g' x48 h) fun g' x48 h hlt hj=>⟨rfl,rfl,rfl,rfl,rfl,rfl,rfl,rfl,g',hlt,hj⟩)
 ·intro g env h hi
  obtain ⟨m1',i5',o5',a46',n46',c46',e46',x47',x48,rfl,rfl,rfl,rfl,rfl,rfl,rfl,rfl,rfl,g',hlt,hj⟩:=Zsr hi
  exact ⟨g',hlt,rfl,rfl,rfl,rfl,rfl,rfl,rfl,rfl,hj⟩
theorem A7x0i (Q:QT) (i5 o5:Nat) (h:Zaa) (ht :
 Q (.ptr (i5,o5)) h):Yrt Q i5 o5 h:=
 At.mk (cast (by kernel_rfl) ht)
theorem call (a0:Pt) (m1:Option Nat) (h:Zaa) (Q:QT) (ht :
 Zba a0 fun A B=>Zbs (Zad h (.ptr (A,B + 0))) fun A=>Zae pg Zdd [.str A] h fun A B=>
 Zbp A fun A=>bcase A (Zba a0 fun A C=>Zbs (Zad B (.ptr (A,C + 0))) fun A=>Zdc B m1 fun es_9 k_10=>Zqg es_9 A fun A=>Zfd (some (Option.getD A (.ptr none))) fun A=>bcase (Option.isNone A) (Zba a0 fun A C=>Zba a0 fun D E=>Zbs (Zad B (.ptr (A,C + 0))) fun F=>Zbs (Zad B (.ptr (D,E + 0))) fun D=>(Zad B (.ptr (A,C + 0))=Zad B (.ptr (A,C + 0)))∧Zcy (B ++ [.cells Zbt [.str D,.slice none 0 0 true,.ptr none] false]) fun D=>(Zad D (.ptr (A,C + 0))=Zad B (.ptr (A,C + 0)))∧xMp m1 fun A=>Zdc D (some A) fun es_21 k_22=>Ygv es_21 k_22 F (.ptr (B.length,0)) fun es_23 k_24=>Zcy (List.set D A (.map es_23 k_24)) fun A=>J4 Q m1 a0 A) (J4 Q m1 a0 B)) (Zba a0 fun A C=>Zbs (Zad B (.ptr (A,C + 0))) fun A=>Zcy (B ++ [.cells Zbt [.str A,.slice none 0 0 true,.ptr none] false]) fun A=>Zba a0 fun C D=>xSl (Zad A (.ptr (C,D + 1))) fun C D E F=>L7 Q m1 B.length 0 C D E F (((D:Nat):Int)) 0 A)):Zae pg Zgy [.ptr a0,.map m1] h Q:=
 Zae.of_body kp (c:=cod fn) (fn:=fn) Go.Proofs.Tryz.func74 (by kernel_rfl) (by kernel_rfl) (Nat.le_of_ble_eq_true (by kernel_rfl))
  (cast (by kernel_rfl) ht)
end Zdx
end Go.Sim

set_option maxRecDepth 100000
set_option maxHeartbeats 0
set_option linter.unusedVariables false
namespace Go.Sim
open Go Go.RowKit
end Go.Sim

set_option maxRecDepth 100000
set_option maxHeartbeats 0
set_option linter.unusedVariables false
namespace Go.Sim
open Go Go.RowKit
namespace Zeq
noncomputable abbrev fn:Func:=Go.Proofs.Tryz.f75
def kp:Zce:=[(3000008,[1,0,2,6]),(1000008,[0,1,2,22,23,24])]
noncomputable def C (p:List Nat):Code:=(cod fn).sub p
def KR (Q:QT):KT:=Zev pg fn.results.toList Q
abbrev T8:=Pt→Option Nat→Option Nat→Pt→Nat→Nat→Bool→Int→Int→Zaa→Prop
def E8 (R8:T8) (env:Env) (h:Zaa):Prop:=Zby 0 env fun v env=>Zfd v fun a0=>Zby 1 env fun v env=>Yei v fun m1=>Zby 2 env fun v env=>Yei v fun m2=>Zby 22 env fun v env=>xSl v fun a22 n22 c22 e22=>Zby 23 env fun v env=>Zea .i64 v fun x23=>Zby 24 env fun v env=>Zea .i64 v fun x24=>Zjh env (R8 a0 m1 m2 a22 n22 c22 e22 x23 x24 h)
theorem Yam {R8:T8} {env:Env} {h:Zaa} (hi:E8 R8 env h):∃ a0,∃ m1,∃ m2,∃ a22,∃ n22,∃ c22,∃ e22,∃ x23,∃ x24,env=[(0,.ptr a0),(1,.map m1),(2,.map m2),(22,.slice a22 n22 c22 e22),(23,.int .i64 x23),(24,.int .i64 x24)]∧R8 a0 m1 m2 a22 n22 c22 e22 x23 x24 h:=by
 unfold E8 at hi
 repeat ((first | (have k:=Zaf hi; clear hi; obtain ⟨_,_,e,hi⟩:=k) | (have k:=Zbk hi; clear hi; obtain ⟨_,e,hi⟩:=k) | (have k:=Zav hi; clear hi; obtain ⟨_,e,hi⟩:=k) | (have k:=Zqu hi; clear hi; obtain ⟨_,e,hi⟩:=k) | (have k:=Zbz hi; clear hi; obtain ⟨_,_,_,_,e,hi⟩:=k)); subst e)
 obtain ⟨rfl,hi⟩:=Zbi hi
 exact ⟨_,_,_,_,_,_,_,_,_,rfl,hi⟩
def K0 (Q:QT):KT:=andThen (fun env' h'=>(match kp.find 4000013 with | some ks=>Den pg fn.ntmps (C [1,1,1,1,1,1]) (env'.keep ks) h' (KR Q) | none=>den pg fn.ntmps kp (C [1,1,1,1,1,1]) env' h' (KR Q))) (KR Q)
def K1 (Q:QT):KT:=Zcl 0 (K0 Q)
def K2 (Q:QT):KT:=left kp 8 (K1 Q)
def K3 (Q:QT) (R8:T8):KT:=rnd ((kp.find 1000008).getD []) (E8 R8) (K2 Q)
def L8 (Q:QT) (a0:Pt) (m1 m2:Option Nat) (a22:Pt) (n22 c22:Nat) (e22:Bool) (x23 x24:Int) (h:Zaa):Prop:=Zdz (Den pg fn.ntmps (C [1,1,1,1,1,0,1,0,0])) ((kp.find 1000008).getD []) (K2 Q) [(0,.ptr a0),(1,.map m1),(2,.map m2),(22,.slice a22 n22 c22 e22),(23,.int .i64 x23),(24,.int .i64 x24)] h
def Yry (Q:QT) (m1:Option Nat) (a0:Pt) (m2:Option Nat) (h:Zaa):Prop:=At (K1 Q) (.exit 0) [(1,.map m1),(0,.ptr a0),(2,.map m2),(6,.undef)] h
def L8t (Q:QT) (R8:T8) (a0:Pt) (m1 m2:Option Nat) (a22:Pt) (n22 c22:Nat) (e22:Bool) (x23 x24:Int) (h:Zaa):Prop:=
 bcase (decide ((x24:Int) < x23)) ((0≤(x24:Int)∧(x24:Int) < (n22:Nat))∧(Zba a22 fun A B=>Zfd (Zad h (.ptr (A,B + (Int.toNat x24) * 1))) fun A=>Zae pg Zfo [.ptr A,.map m1,.map m2] h fun A B=>
 Zbp A fun A=>bcase A (Q (.bool true) B) (R8 a0 m1 m2 a22 n22 c22 e22 x23 (IntKind.wrap .i64 (x24 + 1)) B))) (Yry Q m1 a0 m2 h)
theorem Yok (Q:QT) (R8:T8) (a0:Pt) (m1 m2:Option Nat) (a22:Pt) (n22 c22:Nat) (e22:Bool) (x23 x24:Int) (h:Zaa) (ht:L8t Q R8 a0 m1 m2 a22 n22 c22 e22 x23 x24 h):Den pg fn.ntmps (C [1,1,1,1,1,0,1,0,0]) [(0,.ptr a0),(1,.map m1),(2,.map m2),(22,.slice a22 n22 c22 e22),(23,.int .i64 x23),(24,.int .i64 x24)] h (K3 Q R8):=
 Zbb (kp:=kp) (cast (by kernel_rfl) ht)
theorem L8ind (Q:QT) (a0:Pt) (m1 m2:Option Nat) (a22:Pt) (n22 c22:Nat) (e22:Bool) (x23:Int) {G:Type} (J:G→Int→Zaa→Prop) (m:G→Nat)
 (hr:∀ (g:G) (x24:Int) (h:Zaa),J g x24 h→∀ (R8:T8),(∀ g' (x24:Int) (h:Zaa),m g' < m g→J g' x24 h→R8 a0 m1 m2 a22 n22 c22 e22 x23 x24 h)→L8t Q R8 a0 m1 m2 a22 n22 c22 e22 x23 x24 h)
 (g:G) (x24:Int) (h:Zaa) (hj:J g x24 h):L8 Q a0 m1 m2 a22 n22 c22 e22 x23 x24 h:=by
 let P:=fun (K:Int→Zaa→Prop) a0' m1' m2' a22' n22' c22' e22' x23' x24 h=>a0=a0'∧m1=m1'∧m2=m2'∧a22=a22'∧n22=n22'∧c22=c22'∧e22=e22'∧x23=x23'∧K x24 h
 refine Zdz.inv2 (fun g=>E8 (P (J g))) (fun g=>E8 (P fun x24 h=>∃ g',m g' < m g∧J g' x24 h)) m ?_ ?_ g ⟨rfl,rfl,rfl,rfl,rfl,rfl,rfl,rfl,hj⟩
 ·intro g env h hi
  obtain ⟨a0',m1',m2',a22',n22',c22',e22',x23',x24,rfl,rfl,rfl,rfl,rfl,rfl,rfl,rfl,rfl,hj⟩:=Yam hi
  exact Yok Q _ a0 m1 m2 a22 n22 c22 e22 x23 x24 h (hr g x24 h hj (P fun x24 h=>∃ g',m g' < m g∧J g' x24 h) fun g' x24 h hlt hj=>⟨rfl,rfl,rfl,rfl,rfl,rfl,rfl,rfl,g',hlt,hj⟩)
 ·intro g env h hi
  obtain ⟨a0',m1',m2',a22',n22',c22',e22',x23',x24,rfl,rfl,rfl,rfl,rfl,rfl,rfl,rfl,rfl,g',hlt,hj⟩:=Yam hi
  exact ⟨g',hlt,rfl,rfl,rfl,rfl,rfl,rfl,rfl,rfl,hj⟩
theorem A8x0i (Q:QT) (m1:Option Nat) (a0:Pt) (m2:Option Nat) (h:Zaa) (ht :
 xMp m1 fun A=>Zba a0 fun B C=>Zdc h (some A) fun es_36 k_37=>Ymi (Zku h es_36 (B,C) 0) es_36 fun es_38=>Zcy (List.set h A (.map es_38 k_37)) fun A=>xMp m2 fun B=>Zba a0 fun C D=>Zdc A (some B) fun es_43 k_44=>Yma (Zku A es_43 (C,D) 0) es_43 k_44 (C,D) (.bool true) fun es_45 k_46=>Zcy (List.set A B (.map es_45 k_46)) fun A=>Q (.bool false) A):Yry Q m1 a0 m2 h:=
 At.mk (cast (by kernel_rfl) ht)
theorem call (a0:Pt) (m1 m2:Option Nat) (h:Zaa) (Q:QT) (ht :
 Zae pg Zge [.ptr a0] h fun A B=>
 Zfd A fun A=>Zba A fun C D=>Zdc B m1 fun es_3 k_4=>Ztw (Zku B es_3 (C,D) 0) fun C=>Zbp (some (Option.getD C (.bool false))) fun C=>bcase C (Q (.bool true) B) (Zba A fun C D=>Zdc B m2 fun es_9 k_10=>Ztw (Zku B es_9 (C,D) 0) fun C=>Zbp (some (Option.getD C (.bool false))) fun C=>bcase C (Q (.bool false) B) (xMp m1 fun C=>Zba A fun D E=>Zdc B (some C) fun es_16 k_17=>Yma (Zku B es_16 (D,E) 0) es_16 k_17 (D,E) (.bool true) fun es_18 k_19=>Zcy (List.set B C (.map es_18 k_19)) fun B=>Zba A fun C D=>xSl (Zad B (.ptr (C,D + 1))) fun C D E F=>L8 Q A m1 m2 C D E F (((D:Nat):Int)) 0 B))):Zae pg Zfo [.ptr a0,.map m1,.map m2] h Q:=
 Zae.of_body kp (c:=cod fn) (fn:=fn) Go.Proofs.Tryz.func75 (by kernel_rfl) (by kernel_rfl) (Nat.le_of_ble_eq_true (by kernel_rfl))
  (cast (by kernel_rfl) ht)
end Zeq
namespace Znu
noncomputable abbrev fn:Func:=Go.Proofs.Tryz.f36
def kp:Zce:=[]
noncomputable def C (p:List Nat):Code:=(cod fn).sub p
def KR (Q:QT):KT:=Zev pg fn.results.toList Q
theorem call (a0:Pt) (h:Zaa) (Q:QT) (ht :
 Zcy (h ++ [.map [] 0]) fun A=>Zcy (A ++ [.map [] 0]) fun B=>Zae pg Zfo [.ptr a0,.map ((some h.length)),.map ((some A.length))] B fun A B=>
 Zbp A fun A=>Q (.bool (!A)) B):Zae pg Zjt [.ptr a0] h Q:=
 Zae.of_body kp (c:=cod fn) (fn:=fn) Go.Proofs.Tryz.func36 (by kernel_rfl) (by kernel_rfl) (Nat.le_of_ble_eq_true (by kernel_rfl))
  (cast (by kernel_rfl) ht)
end Znu
end Go.Sim

set_option maxRecDepth 100000
set_option maxHeartbeats 0
set_option linter.unusedVariables false
namespace Go.Sim
open Go Go.RowKit
namespace Zgk
noncomputable abbrev fn:Func:=Go.Proofs.Tryz.f37
def kp:Zce:=[(3000001,[0]),(1000001,[0])]
noncomputable def C (p:List Nat):Code:=(cod fn).sub p
def KR (Q:QT):KT:=Zev pg fn.results.toList Q
abbrev T1:=Pt→Zaa→Prop
def E1 (R1:T1) (env:Env) (h:Zaa):Prop:=Zby 0 env fun v env=>Zfd v fun a0=>Zjh env (R1 a0 h)
theorem Ymc {R1:T1} {env:Env} {h:Zaa} (hi:E1 R1 env h):∃ a0,env=[(0,.ptr a0)]∧R1 a0 h:=by
 unfold E1 at hi
 repeat ((first | (have k:=Zaf hi; clear hi; obtain ⟨_,_,e,hi⟩:=k) | (have k:=Zbk hi; clear hi; obtain ⟨_,e,hi⟩:=k)); subst e)
 obtain ⟨rfl,hi⟩:=Zbi hi
 exact ⟨_,rfl,hi⟩
def K0 (Q:QT):KT:=andThen (fun env' h'=>(match kp.find 4000003 with | some ks=>Den pg fn.ntmps (C [1,1]) (env'.keep ks) h' (KR Q) | none=>den pg fn.ntmps kp (C [1,1]) env' h' (KR Q))) (KR Q)
def K1 (Q:QT):KT:=Zcl 0 (K0 Q)
def K2 (Q:QT):KT:=left kp 1 (K1 Q)
def K3 (Q:QT) (R1:T1):KT:=rnd ((kp.find 1000001).getD []) (E1 R1) (K2 Q)
def L1 (Q:QT) (a0:Pt) (h:Zaa):Prop:=Zdz (Den pg fn.ntmps (C [1,0,0,0])) ((kp.find 1000001).getD []) (K2 Q) [(0,.ptr a0)] h
def Ysa (Q:QT) (a0:Pt) (h:Zaa):Prop:=At (K1 Q) (.exit 0) [(0,.ptr a0)] h
def L1t (Q:QT) (R1:T1) (a0:Pt) (h:Zaa):Prop:=
 Zba a0 fun A B=>Zfd (Zad h (.ptr (A,B + 2))) fun A=>bcase (!(Option.isNone A)) (Zba a0 fun A B=>Zfd (Zad h (.ptr (A,B + 2))) fun A=>R1 A h) (Ysa Q a0 h)
theorem Yrd (Q:QT) (R1:T1) (a0:Pt) (h:Zaa) (ht:L1t Q R1 a0 h):Den pg fn.ntmps (C [1,0,0,0]) [(0,.ptr a0)] h (K3 Q R1):=
 Zbb (kp:=kp) (cast (by kernel_rfl) ht)
theorem L1ind (Q:QT) {G:Type} (J:G→Pt→Zaa→Prop) (m:G→Nat)
 (hr:∀ (g:G) (a0:Pt) (h:Zaa),J g a0 h→∀ (R1:T1),(∀ g' (a0:Pt) (h:Zaa),m g' < m g→J g' a0 h→R1 a0 h)→L1t Q R1 a0 h)
 (g:G) (a0:Pt) (h:Zaa) (hj:J g a0 h):L1 Q a0 h:=by
 let P:=fun (K:Pt→Zaa→Prop) a0 h=>K a0 h
 refine Zdz.inv2 (fun g=>E1 (P (J g))) (fun g=>E1 (P fun a0 h=>∃ g',m g' < m g∧J g' a0 h)) m ?_ ?_ g hj
 ·intro g env h hi
  obtain ⟨a0,rfl,hj⟩:=Ymc hi
  exact Yrd Q _ a0 h (hr g a0 h hj (P fun a0 h=>∃ g',m g' < m g∧J g' a0 h) fun g' a0 h hlt hj=>⟨g',hlt,hj⟩)
 ·intro g env h hi
  obtain ⟨a0,rfl,g',hlt,hj⟩:=Ymc hi
  exact ⟨g',hlt,hj⟩
theorem A1x0i (Q:QT) (a0:Pt) (h:Zaa) (ht :
 Q (.ptr a0) h):Ysa Q a0 h:=
 At.mk (cast (by kernel_rfl) ht)
theorem call (a0:Pt) (h:Zaa) (Q:QT) (ht :
 L1 Q a0 h):Zae pg Zge [.ptr a0] h Q:=
 Zae.of_body kp (c:=cod fn) (fn:=fn) Go.Proofs.Tryz.func37 (by kernel_rfl) (by kernel_rfl) (Nat.le_of_ble_eq_true (by kernel_rfl))
  (cast (by kernel_rfl) ht)
end Zgk
namespace Zfb
noncomputable abbrev fn:Func:=Go.Proofs.Tryz.f35
def kp:Zce:=[(2000004,[16,1,0]),(4000007,[0,1]),(2000007,[71,0,1]),(4000009,[0,1]),(3000012,[4]),(1000012,[1,80,81,82])]
noncomputable def C (p:List Nat):Code:=(cod fn).sub p
def KR (Q:QT):KT:=Zev pg fn.results.toList Q
abbrev T12:=Pt→Pt→Nat→Nat→Bool→Int→Int→Zaa→Prop
def E12 (R12:T12) (env:Env) (h:Zaa):Prop:=Zby 1 env fun v env=>Zfd v fun a1=>Zby 80 env fun v env=>xSl v fun a80 n80 c80 e80=>Zby 81 env fun v env=>Zea .i64 v fun x81=>Zby 82 env fun v env=>Zea .i64 v fun x82=>Zjh env (R12 a1 a80 n80 c80 e80 x81 x82 h)
theorem Yjj {R12:T12} {env:Env} {h:Zaa} (hi:E12 R12 env h):∃ a1,∃ a80,∃ n80,∃ c80,∃ e80,∃ x81,∃ x82,env=[(1,.ptr a1),(80,.slice a80 n80 c80 e80),(81,.int .i64 x81),(82,.int .i64 x82)]∧R12 a1 a80 n80 c80 e80 x81 x82 h:=by
 unfold E12 at hi
 repeat ((first | (have k:=Zaf hi; clear hi; obtain ⟨_,_,e,hi⟩:=k) | (have k:=Zbk hi; clear hi; obtain ⟨_,e,hi⟩:=k) | (have k:=Zav hi; clear hi; obtain ⟨_,e,hi⟩:=k) | (have k:=Zbz hi; clear hi; obtain ⟨_,_,_,_,e,hi⟩:=k)); subst e)
 obtain ⟨rfl,hi⟩:=Zbi hi
 exact ⟨_,_,_,_,_,_,_,rfl,hi⟩
def K0 (Q:QT):KT:=andThen (fun env' h'=>(match kp.find 4000017 with | some ks=>Den pg fn.ntmps (C [1,1,1,1,1,1,1]) (env'.keep ks) h' (KR Q) | none=>den pg fn.ntmps kp (C [1,1,1,1,1,1,1]) env' h' (KR Q))) (KR Q)
def K1 (Q:QT):KT:=Zcl 1 (K0 Q)
def K2 (Q:QT):KT:=left kp 12 (K1 Q)
def K3 (Q:QT) (R12:T12):KT:=rnd ((kp.find 1000012).getD []) (E12 R12) (K2 Q)
def J7 (Q:QT) (a0 a1:Pt) (h:Zaa):Prop:=Den pg fn.ntmps (C [1,1,1]) [(0,.ptr a0),(1,.ptr a1)] h (KR Q)
def J9 (Q:QT) (a0 a1:Pt) (h:Zaa):Prop:=Den pg fn.ntmps (C [1,1,1,1]) [(0,.ptr a0),(1,.ptr a1)] h (KR Q)
def L12 (Q:QT) (a1 a80:Pt) (n80 c80:Nat) (e80:Bool) (x81 x82:Int) (h:Zaa):Prop:=Zdz (Den pg fn.ntmps (C [1,1,1,1,1,1,0,1,0,0])) ((kp.find 1000012).getD []) (K2 Q) [(1,.ptr a1),(80,.slice a80 n80 c80 e80),(81,.int .i64 x81),(82,.int .i64 x82)] h
def Ypv (Q:QT) (h:Zaa):Prop:=At (K1 Q) (.exit 1) [(4,.undef)] h
theorem J7i (Q:QT) (a0 a1:Pt) (h:Zaa) (ht :
 Zba a0 fun A B=>Zbs (Zad h (.ptr (A,B + 0))) fun A=>Zae pg Zdd [.str A] h fun A B=>
 Zbp A fun A=>bcase (!A) (Zba a0 fun A C=>Zba a1 fun D E=>Zbs (Zad B (.ptr (A,C + 0))) fun F=>Zbs (Zad B (.ptr (D,E + 0))) fun D=>(Zad B (.ptr (A,C + 0))=Zad B (.ptr (A,C + 0)))∧bcase (!(decide (F=D))) (Q (.bool false) B) (J9 Q a0 a1 B)) ((Zad B (.tup [])=Zad B (.tup []))∧J9 Q a0 a1 B)):J7 Q a0 a1 h:=
 Zbb (kp:=kp) (cast (by kernel_rfl) ht)
theorem J9i (Q:QT) (a0 a1:Pt) (h:Zaa) (ht :
 Zba a0 fun A B=>xSl (Zad h (.ptr (A,B + 1))) fun A B C D=>Zba a0 fun E F=>Zch (Zbe h (.ptr (E,F + 2)) [.ptr a1]) fun E=>L12 Q a1 A B C D (((B:Nat):Int)) 0 E):J9 Q a0 a1 h:=
 Zbb (kp:=kp) (cast (by kernel_rfl) ht)
def L12t (Q:QT) (R12:T12) (a1 a80:Pt) (n80 c80:Nat) (e80:Bool) (x81 x82:Int) (h:Zaa):Prop:=
 bcase (decide ((x82:Int) < x81)) ((0≤(x82:Int)∧(x82:Int) < (n80:Nat))∧(Zba a80 fun A B=>Zfd (Zad h (.ptr (A,B + (Int.toNat x82) * 1))) fun A=>Zba a1 fun B C=>xSl (Zad h (.ptr (B,C + 1))) fun B C D D=>(0≤(x82:Int)∧(x82:Int) < (C:Nat))∧(Zba B fun B C=>Zfd (Zad h (.ptr (B,C + (Int.toNat x82) * 1))) fun B=>Zae pg Zlg [.ptr A,.ptr B] h fun A B=>
 Zbp A fun A=>bcase (!A) (Q (.bool false) B) (R12 a1 a80 n80 c80 e80 x81 (IntKind.wrap .i64 (x82 + 1)) B)))) (Ypv Q h)
theorem Ypl (Q:QT) (R12:T12) (a1 a80:Pt) (n80 c80:Nat) (e80:Bool) (x81 x82:Int) (h:Zaa) (ht:L12t Q R12 a1 a80 n80 c80 e80 x81 x82 h):Den pg fn.ntmps (C [1,1,1,1,1,1,0,1,0,0]) [(1,.ptr a1),(80,.slice a80 n80 c80 e80),(81,.int .i64 x81),(82,.int .i64 x82)] h (K3 Q R12):=
 Zbb (kp:=kp) (cast (by kernel_rfl) ht)
theorem L12ind (Q:QT) (a1 a80:Pt) (n80 c80:Nat) (e80:Bool) (x81:Int) {G:Type} (J:G→Int→Zaa→Prop) (m:G→Nat)
 (hr:∀ (g:G) (x82:Int) (h:Zaa),J g x82 h→∀ (R12:T12),(∀ g' (x82:Int) (h:Zaa),m g' < m g→J g' x82 h→R12 a1 a80 n80 c80 e80 x81 x82 h)→L12t Q R12 a1 a80 n80 c80 e80 x81 x82 h)
 (g:G) (x82:Int) (h:Zaa) (hj:J g x82 h):L12 Q a1 a80 n80 c80 e80 x81 x82 h:=by
 let P:=fun (K:Int→Zaa→Prop) a1' a80' n80' c80' e80' x81' x82 h=>a1=a1'∧a80=a80'∧n80=n80'∧c80=c80'∧e80=e80'∧x81=x81'∧K x82 h
 refine Zdz.inv2 (fun g=>E12 (P (J g))) (fun g=>E12 (P fun x82 h=>∃ g',m g' < m g∧J g' x82 h)) m ?_ ?_ g ⟨rfl,rfl,rfl,rfl,rfl,rfl,hj⟩
 ·intro g env h hi
  obtain ⟨a1',a80',n80',c80',e80',x81',x82,rfl,rfl,rfl,rfl,rfl,rfl,rfl,hj⟩:=Yjj hi
  exact Ypl Q _ a1 a80 n80 c80 e80 x81 x82 h (hr g x82 h hj (P fun x82 h=>∃ g',m g' < m g∧J g' x82 h) fun g' x82 h hlt hj=>⟨rfl,rfl,rfl,rfl,rfl,rfl,g',hlt,hj⟩)
 ·intro g env h hi
  obtain ⟨a1',a80',n80',c80',e80',x81',x82,rfl,rfl,rfl,rfl,rfl,rfl,rfl,g',hlt,hj⟩:=Yjj hi
  exact ⟨g',hlt,rfl,rfl,rfl,rfl,rfl,rfl,hj⟩
theorem A12x1i (Q:QT) (h:Zaa) (ht :
 Q (.bool true) h):Ypv Q h:=
 At.mk (cast (by kernel_rfl) ht)
theorem call (a0 a1:Pt) (h:Zaa) (Q:QT) (ht :
 Zae pg Zge [.ptr a0] h fun A B=>
 Zfd A fun A=>Zae pg Zge [.ptr a1] B fun B C=>
 Zfd B fun B=>Zsx C A B fun D=>bcase D (Q (.bool true) C) (Zba A fun D E=>Zbs (Zad C (.ptr (D,E + 0))) fun D=>Zae pg Zdd [.str D] C fun C D=>
 Zbp C fun C=>bcase C (Zba B fun C E=>Zbs (Zad D (.ptr (C,E + 0))) fun C=>Zae pg Zdd [.str C] D fun C E=>
 Zbp C fun C=>bcase C (Zba A fun C F=>Zba B fun G H=>Zbs (Zad E (.ptr (C,F + 0))) fun I=>Zbs (Zad E (.ptr (G,H + 0))) fun G=>(Zad E (.ptr (C,F + 0))=Zad E (.ptr (C,F + 0)))∧bcase (!(Zed I G || decide (I=G))) (bcase (!(Zed I G || decide (I=G))) (J7 Q B A E) (J7 Q A B E)) (Zba A fun C F=>Zbs (Zad E (.ptr (C,F + 0))) fun C=>Zae pg Zdd [.str C] E fun C F=>
 Zbp C fun C=>bcase (!C) (Zba B fun C G=>Zbs (Zad F (.ptr (C,G + 0))) fun C=>Zae pg Zdd [.str C] F fun C G=>
 Zbp C fun C=>bcase C (J7 Q B A G) (J7 Q A B G)) (J7 Q A B F))) ((Zad E (.tup [])=Zad E (.tup []))∧Zba A fun C F=>Zbs (Zad E (.ptr (C,F + 0))) fun C=>Zae pg Zdd [.str C] E fun C E=>
 Zbp C fun C=>bcase (!C) (Zba B fun C F=>Zbs (Zad E (.ptr (C,F + 0))) fun C=>Zae pg Zdd [.str C] E fun C F=>
 Zbp C fun C=>bcase C (J7 Q B A F) (J7 Q A B F)) (J7 Q A B E))) ((Zad D (.tup [])=Zad D (.tup []))∧Zba A fun C E=>Zbs (Zad D (.ptr (C,E + 0))) fun C=>Zae pg Zdd [.str C] D fun C D=>
 Zbp C fun C=>bcase (!C) (Zba B fun C E=>Zbs (Zad D (.ptr (C,E + 0))) fun C=>Zae pg Zdd [.str C] D fun C E=>
 Zbp C fun C=>bcase C (J7 Q B A E) (J7 Q A B E)) (J7 Q A B D)))):Zae pg Zlg [.ptr a0,.ptr a1] h Q:=
 Zae.of_body kp (c:=cod fn) (fn:=fn) Go.Proofs.Tryz.func35 (by kernel_rfl) (by kernel_rfl) (Nat.le_of_ble_eq_true (by kernel_rfl))
  (cast (by kernel_rfl) ht)
end Zfb
end Go.Sim

set_option maxRecDepth 100000
set_option maxHeartbeats 0
set_option linter.unusedVariables false
namespace Go.Sim
open Go Go.RowKit
end Go.Sim

set_option maxRecDepth 100000
set_option maxHeartbeats 0
set_option linter.unusedVariables false
namespace Go.Sim
open Go Go.RowKit
end Go.Sim

set_option maxRecDepth 100000
set_option maxHeartbeats 0
set_option linter.unusedVariables false
namespace Go.Sim
open Go Go.RowKit
end Go.Sim

set_option maxRecDepth 100000
set_option maxHeartbeats 0
set_option linter.unusedVariables false
namespace Go.Sim
open Go Go.RowKit
end Go.Sim

set_option maxRecDepth 100000
set_option maxHeartbeats 0
set_option linter.unusedVariables false
namespace Go.Sim
open Go Go.RowKit
end Go.Sim

set_option maxRecDepth 100000
set_option maxHeartbeats 0
set_option linter.unusedVariables false
namespace Go.Sim
open Go Go.RowKit
end Go.Sim

set_option maxRecDepth 100000
set_option maxHeartbeats 0
set_option linter.unusedVariables false
namespace Go.Sim
open Go Go.RowKit
end Go.Sim

set_option maxRecDepth 100000
set_option maxHeartbeats 0
set_option linter.unusedVariables false
namespace Go.Sim
open Go Go.RowKit
end Go.Sim

set_option maxRecDepth 100000
set_option maxHeartbeats 0
set_option linter.unusedVariables false
namespace Go.Sim
open Go Go.RowKit
end Go.Sim

set_option maxRecDepth 100000
set_option maxHeartbeats 0
set_option linter.unusedVariables false
namespace Go.Sim
open Go Go.RowKit
end Go.Sim
