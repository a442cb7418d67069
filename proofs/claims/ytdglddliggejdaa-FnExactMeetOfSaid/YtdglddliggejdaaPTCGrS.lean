/- A part of the proof of a statement of this seat: see the text that holds the theorem. No condition. -/
import Derived.Test.YtdglddliggejdaaNm
set_option linter.unusedVariables false
set_option linter.unusedSimpArgs false
set_option linter.all false
set_option maxRecDepth 100000
set_option maxHeartbeats 0
set_option linter.unusedVariables false
namespace Go.Sim
open Go Go.RowKit
namespace Zfe
noncomputable abbrev fn:Func:=Go.Proofs.Try.f150
def kp:Zdb:=[(3000002,[4]),(1000002,[0,1,5])]
noncomputable def C (p:List Nat):Code:=(cod fn).sub p
def KR (Q:QT):KT:=Zii pg fn.results.toList Q
abbrev T2:=List Nat→Int→Int→Zaa→Prop
def E2 (R2:T2) (env:Env) (h:Zaa):Prop:=Zcu 0 env fun v env=>Zdt v fun x0=>Zcu 1 env fun v env=>Zhe .u8 v fun x1=>Zcu 5 env fun v env=>Zhe .i64 v fun x5=>Znt env (R2 x0 x1 x5 h)
theorem Zjn {R2:T2} {env:Env} {h:Zaa} (hi:E2 R2 env h):∃ x0,∃ x1,∃ x5,env=[(0,.str x0),(1,.int .u8 x1),(5,.int .i64 x5)]∧R2 x0 x1 x5 h:=by
 unfold E2 at hi
 repeat ((first | (have k:=Zam hi; clear hi; obtain ⟨_,_,e,hi⟩:=k) | (have k:=Zbf hi; clear hi; obtain ⟨_,e,hi⟩:=k) | (have k:=Zib hi; clear hi; obtain ⟨_,e,hi⟩:=k)); subst e)
 obtain ⟨rfl,hi⟩:=Zbv hi
 exact ⟨_,_,_,rfl,hi⟩
def K0 (Q:QT):KT:=andThen (fun env' h'=>(match kp.find 4000006 with | some ks=>Den pg fn.ntmps (C [1,1]) (env'.keep ks) h' (KR Q) | none=>den pg fn.ntmps kp (C [1,1]) env' h' (KR Q))) (KR Q)
def K1 (Q:QT):KT:=Zdn 0 (K0 Q)
def K2 (Q:QT):KT:=left kp 2 (K1 Q)
def K3 (Q:QT) (R2:T2):KT:=rnd ((kp.find 1000002).getD []) (E2 R2) (K2 Q)
def L2 (Q:QT) (x0:List Nat) (x1 x5:Int) (h:Zaa):Prop:=Zgb (Den pg fn.ntmps (C [1,0,1,0,0])) ((kp.find 1000002).getD []) (K2 Q) [(0,.str x0),(1,.int .u8 x1),(5,.int .i64 x5)] h
def A2x0 (Q:QT) (h:Zaa):Prop:=At (K1 Q) (.exit 0) [(4,.undef)] h
def L2t (Q:QT) (R2:T2) (x0:List Nat) (x1 x5:Int) (h:Zaa):Prop:=
 bcase (decide ((x5:Int) < (((List.length x0:Nat):Int)))) (Zrh x0 x5 fun A=>bcase ((((A:Nat):Int):Int) == x1) (Q (.int .i64 x5) h) (R2 x0 x1 (IntKind.wrap .i64 (x5 + 1)) h)) (A2x0 Q h)
theorem Zui (Q:QT) (R2:T2) (x0:List Nat) (x1 x5:Int) (h:Zaa) (ht:L2t Q R2 x0 x1 x5 h):Den pg fn.ntmps (C [1,0,1,0,0]) [(0,.str x0),(1,.int .u8 x1),(5,.int .i64 x5)] h (K3 Q R2):=
 Zbb (kp:=kp) (cast (by kernel_rfl) ht)
theorem L2ind (Q:QT) (x0:List Nat) (x1:Int) {G:Type} (J:G→Int→Zaa→Prop) (m:G→Nat)
 (hr:∀ (g:G) (x5:Int) (h:Zaa),J g x5 h→∀ (R2:T2),(∀ g' (x5:Int) (h:Zaa),m g' < m g→J g' x5 h→R2 x0 x1 x5 h)→L2t Q R2 x0 x1 x5 h)
 (g:G) (x5:Int) (h:Zaa) (hj:J g x5 h):L2 Q x0 x1 x5 h:=by
 let P:=fun (K:Int→Zaa→Prop) x0' x1' x5 h=>x0=x0'∧x1=x1'∧K x5 h
 refine Zgb.inv2 (fun g=>E2 (P (J g))) (fun g=>E2 (P fun x5 h=>∃ g',m g' < m g∧J g' x5 h)) m ?_ ?_ g ⟨rfl,rfl,hj⟩
 ·intro g env h hi
  obtain ⟨x0',x1',x5,rfl,rfl,rfl,hj⟩:=Zjn hi
  exact Zui Q _ x0 x1 x5 h (hr g x5 h hj (P fun x5 h=>∃ g',m g' < m g∧J g' x5 h) fun g' x5 h hlt hj=>⟨rfl,rfl,g',hlt,hj⟩)
 ·intro g env h hi
  obtain ⟨x0',x1',x5,rfl,rfl,rfl,g',hlt,hj⟩:=Zjn hi
  exact ⟨g',hlt,rfl,rfl,hj⟩
theorem A2x0i (Q:QT) (h:Zaa) (ht :
 Q (.int .i64 (-1)) h):A2x0 Q h:=
 At.mk (cast (by kernel_rfl) ht)
theorem call (x0:List Nat) (x1:Int) (h:Zaa) (Q:QT) (ht :
 L2 Q x0 x1 0 h):Zae pg Zff [.str x0,.int .u8 x1] h Q:=
 Zae.of_body kp (c:=cod fn) (fn:=fn) Go.Proofs.Try.func150 (by kernel_rfl) (by kernel_rfl) (Nat.le_of_ble_eq_true (by kernel_rfl))
  (cast (by kernel_rfl) ht)
end Zfe
namespace Zhw
noncomputable abbrev fn:Func:=Go.Proofs.Try.f140
def kp:Zdb:=[(4000008,[])]
noncomputable def C (p:List Nat):Code:=(cod fn).sub p
def KR (Q:QT):KT:=Zii pg fn.results.toList Q
def J8 (Q:QT) (h:Zaa):Prop:=Den pg fn.ntmps (C [1,1]) [] h (KR Q)
theorem J8i (Q:QT) (h:Zaa) (ht :
 Q (.int .i64 0) h):J8 Q h:=
 Zbb (kp:=kp) (cast (by kernel_rfl) ht)
theorem call (x0:Int) (h:Zaa) (Q:QT) (ht :
 Zae pg Zff [.str ([105,98,117,108,109,112,120,121,122,88,89,90]),.int .u8 x0] h fun A B=>
 Zbp .i64 A fun A=>bcase (decide ((A:Int) < 0)) (Q (.int .i64 (-1)) B) (bcase ((A:Int) == 3) (Q (.int .i64 1) B) (bcase ((A:Int) == 4) (Q (.int .i64 1) B) (bcase ((A:Int) == 5) (Q (.int .i64 2) B) (J8 Q B))))):Zae pg Zgg [.int .u8 x0] h Q:=
 Zae.of_body kp (c:=cod fn) (fn:=fn) Go.Proofs.Try.func140 (by kernel_rfl) (by kernel_rfl) (Nat.le_of_ble_eq_true (by kernel_rfl))
  (cast (by kernel_rfl) ht)
end Zhw
namespace Zgq
noncomputable abbrev fn:Func:=Go.Proofs.Try.f139
def kp:Zdb:=[(2000001,[12,0]),(2000005,[2])]
noncomputable def C (p:List Nat):Code:=(cod fn).sub p
def KR (Q:QT):KT:=Zii pg fn.results.toList Q
theorem call (a0:Pt) (h:Zaa) (Q:QT) (ht :
 Zay a0 fun A B=>Zay a0 fun C D=>Zbp .i64 (Zak h (.ptr (A,B + 1))) fun E=>Zdt (Zak h (.ptr (C,D + 0))) fun C=>(Zak h (.ptr (A,B + 1))=Zak h (.ptr (A,B + 1)))∧bcase (decide ((E:Int) ≥ (((List.length C:Nat):Int)))) (Zay a0 fun A B=>Zby (Zba h (.ptr (A,B + 2)) [.bool true]) fun A=>Q (.int .u8 0) A) (Zay a0 fun A B=>Zbp .i64 (Zak h (.ptr (A,B + 1))) fun A=>Zay a0 fun B C=>Zby (Zba h (.ptr (B,C + 1)) [.int .i64 (IntKind.wrap .i64 (A + 1))]) fun A=>Zay a0 fun B C=>Zay a0 fun D E=>Zdt (Zak A (.ptr (B,C + 0))) fun F=>Zbp .i64 (Zak A (.ptr (D,E + 1))) fun D=>(Zak A (.ptr (B,C + 0))=Zak A (.ptr (B,C + 0)))∧Zrh F (IntKind.wrap .i64 (D - 1)) fun B=>Q (.int .u8 (((B:Nat):Int))) A)):Zae pg Zcz [.ptr a0] h Q:=
 Zae.of_body kp (c:=cod fn) (fn:=fn) Go.Proofs.Try.func139 (by kernel_rfl) (by kernel_rfl) (Nat.le_of_ble_eq_true (by kernel_rfl))
  (cast (by kernel_rfl) ht)
end Zgq
namespace Zar
noncomputable abbrev fn:Func:=Go.Proofs.Try.f96
def kp:Zdb:=[(4000004,[0,2,3,4]),(3000005,[4,0,3,2]),(1000005,[0,2,3,4,5]),(4000007,[0,5,3,4,2]),(2000007,[0,3,5,4,2]),(4000008,[0,3,5,4,2]),(2000009,[5,4,0,3,2]),(4000006,[5,4,0,3,2]),(4000012,[3,2])]
noncomputable def C (p:List Nat):Code:=(cod fn).sub p
def KR (Q:QT):KT:=Zii pg fn.results.toList Q
abbrev T5:=Pt→Nat→Nat→Nat→Nat→Int→Int→Zaa→Prop
def E5 (R5:T5) (env:Env) (h:Zaa):Prop:=Zcu 0 env fun v env=>Zew v fun a0=>Zcu 2 env fun v env=>Zew v fun a=>Zay a fun i2 o2=>Zcu 3 env fun v env=>Zew v fun a=>Zay a fun i3 o3=>Zcu 4 env fun v env=>Zhe .i64 v fun x4=>Zcu 5 env fun v env=>Zhe .i64 v fun x5=>Znt env (R5 a0 i2 o2 i3 o3 x4 x5 h)
theorem Zno {R5:T5} {env:Env} {h:Zaa} (hi:E5 R5 env h):∃ a0,∃ i2,∃ o2,∃ i3,∃ o3,∃ x4,∃ x5,env=[(0,.ptr a0),(2,.ptr (i2,o2)),(3,.ptr (i3,o3)),(4,.int .i64 x4),(5,.int .i64 x5)]∧R5 a0 i2 o2 i3 o3 x4 x5 h:=by
 unfold E5 at hi
 have hi0:=hi
 clear hi
 obtain ⟨_,_,rfl,hi1⟩:=Zam hi0
 obtain ⟨a0,rfl,hi2⟩:=Zbk hi1
 obtain ⟨_,_,rfl,hi3⟩:=Zam hi2
 obtain ⟨a,rfl,hi4⟩:=Zbk hi3
 obtain ⟨i2,o2,rfl,hi5⟩:=Zbn hi4
 obtain ⟨_,_,rfl,hi6⟩:=Zam hi5
 obtain ⟨a,rfl,hi7⟩:=Zbk hi6
 obtain ⟨i3,o3,rfl,hi8⟩:=Zbn hi7
 obtain ⟨_,_,rfl,hi9⟩:=Zam hi8
 obtain ⟨x4,rfl,hi10⟩:=Zbf hi9
 obtain ⟨_,_,rfl,hi11⟩:=Zam hi10
 obtain ⟨x5,rfl,hi12⟩:=Zbf hi11
 obtain ⟨rfl,hi13⟩:=Zbv hi12
 have hi:=hi13
 exact ⟨a0,i2,o2,i3,o3,x4,x5,rfl,hi⟩
def K0 (Q:QT):KT:=andThen (fun env' h'=>(match kp.find 4000010 with | some ks=>Den pg fn.ntmps (C [1,1,1,1,1]) (env'.keep ks) h' (KR Q) | none=>den pg fn.ntmps kp (C [1,1,1,1,1]) env' h' (KR Q))) (KR Q)
def K1 (Q:QT):KT:=Zdn 0 (K0 Q)
def K2 (Q:QT):KT:=left kp 5 (K1 Q)
def K3 (Q:QT) (R5:T5):KT:=rnd ((kp.find 1000005).getD []) (E5 R5) (K2 Q)
def K4 (Q:QT) (R5:T5):KT:=andThen (fun env' h'=>(match kp.find 4000006 with | some ks=>Den pg fn.ntmps (C [1,1,1,1,0,1,0,0,1,1]) (env'.keep ks) h' (K3 Q R5) | none=>den pg fn.ntmps kp (C [1,1,1,1,0,1,0,0,1,1]) env' h' (K3 Q R5))) (K3 Q R5)
def K5 (Q:QT) (R5:T5):KT:=Zdn 1 (K4 Q R5)
def J4 (Q:QT) (a0:Pt) (i2 o2 i3 o3:Nat) (x4:Int) (h:Zaa):Prop:=Den pg fn.ntmps (C [1,1,1,1]) [(0,.ptr a0),(2,.ptr (i2,o2)),(3,.ptr (i3,o3)),(4,.int .i64 x4)] h (KR Q)
def L5 (Q:QT) (a0:Pt) (i2 o2 i3 o3:Nat) (x4 x5:Int) (h:Zaa):Prop:=Zgb (Den pg fn.ntmps (C [1,1,1,1,0,1,0,0])) ((kp.find 1000005).getD []) (K2 Q) [(0,.ptr a0),(2,.ptr (i2,o2)),(3,.ptr (i3,o3)),(4,.int .i64 x4),(5,.int .i64 x5)] h
def J7 (Q:QT) (R5:T5) (a0:Pt) (x5:Int) (i3 o3:Nat) (x4:Int) (i2 o2:Nat) (h:Zaa):Prop:=Den pg fn.ntmps (C [1,1,1,1,0,1,0,0,1]) [(0,.ptr a0),(5,.int .i64 x5),(3,.ptr (i3,o3)),(4,.int .i64 x4),(2,.ptr (i2,o2))] h (K3 Q R5)
def A5x0 (Q:QT) (x4:Int) (a0:Pt) (i3 o3 i2 o2:Nat) (h:Zaa):Prop:=At (K1 Q) (.exit 0) [(4,.int .i64 x4),(0,.ptr a0),(3,.ptr (i3,o3)),(2,.ptr (i2,o2))] h
def J8 (Q:QT) (R5:T5) (a0:Pt) (i3 o3:Nat) (x5 x4:Int) (i2 o2:Nat) (h:Zaa):Prop:=Den pg fn.ntmps (C [1,1,1,1,0,1,0,0,1,0,0,1]) [(0,.ptr a0),(3,.ptr (i3,o3)),(5,.int .i64 x5),(4,.int .i64 x4),(2,.ptr (i2,o2))] h (K5 Q R5)
def J12 (Q:QT) (i3 o3 i2 o2:Nat) (h:Zaa):Prop:=Den pg fn.ntmps (C [1,1,1,1,1,1]) [(3,.ptr (i3,o3)),(2,.ptr (i2,o2))] h (KR Q)
def J6 (Q:QT) (R5:T5) (x5 x4:Int) (a0:Pt) (i3 o3 i2 o2:Nat) (h:Zaa):Prop:=Den pg fn.ntmps (C [1,1,1,1,0,1,0,0,1,1]) [(5,.int .i64 x5),(4,.int .i64 x4),(0,.ptr a0),(3,.ptr (i3,o3)),(2,.ptr (i2,o2))] h (K3 Q R5)
theorem J4i (Q:QT) (a0:Pt) (i2 o2 i3 o3:Nat) (x4:Int) (h:Zaa) (ht :
 L5 Q a0 i2 o2 i3 o3 x4 0 h):J4 Q a0 i2 o2 i3 o3 x4 h:=
 Zbb (kp:=kp) (cast (by kernel_rfl) ht)
def L5t (Q:QT) (R5:T5) (a0:Pt) (i2 o2 i3 o3:Nat) (x4 x5:Int) (h:Zaa):Prop:=
 bcase (decide ((x5:Int) < x4)) (Zay a0 fun A B=>Zbq (Zak h (.ptr (A,B + 2))) fun A=>bcase (!A) (J7 Q R5 a0 x5 i3 o3 x4 i2 o2 h) (A5x0 Q x4 a0 i3 o3 i2 o2 h)) (A5x0 Q x4 a0 i3 o3 i2 o2 h)
theorem Ybc (Q:QT) (R5:T5) (a0:Pt) (i2 o2 i3 o3:Nat) (x4 x5:Int) (h:Zaa) (ht:L5t Q R5 a0 i2 o2 i3 o3 x4 x5 h):Den pg fn.ntmps (C [1,1,1,1,0,1,0,0]) [(0,.ptr a0),(2,.ptr (i2,o2)),(3,.ptr (i3,o3)),(4,.int .i64 x4),(5,.int .i64 x5)] h (K3 Q R5):=
 Zbb (kp:=kp) (cast (by kernel_rfl) ht)
theorem L5ind (Q:QT) (a0:Pt) (i2 o2 i3 o3:Nat) (x4:Int) {G:Type} (J:G→Int→Zaa→Prop) (m:G→Nat)
 (hr:∀ (g:G) (x5:Int) (h:Zaa),J g x5 h→∀ (R5:T5),(∀ g' (x5:Int) (h:Zaa),m g' < m g→J g' x5 h→R5 a0 i2 o2 i3 o3 x4 x5 h)→L5t Q R5 a0 i2 o2 i3 o3 x4 x5 h)
 (g:G) (x5:Int) (h:Zaa) (hj:J g x5 h):L5 Q a0 i2 o2 i3 o3 x4 x5 h:=by
 let P:=fun (K:Int→Zaa→Prop) a0' i2' o2' i3' o3' x4' x5 h=>a0=a0'∧i2=i2'∧o2=o2'∧i3=i3'∧o3=o3'∧x4=x4'∧K x5 h
 refine Zgb.inv2 (fun g=>E5 (P (J g))) (fun g=>E5 (P fun x5 h=>∃ g',m g' < m g∧J g' x5 h)) m ?_ ?_ g ⟨rfl,rfl,rfl,rfl,rfl,rfl,hj⟩
 ·intro g env h hi
  obtain ⟨a0',i2',o2',i3',o3',x4',x5,rfl,rfl,rfl,rfl,rfl,rfl,rfl,hj⟩:=Zno hi
  exact Ybc Q _ a0 i2 o2 i3 o3 x4 x5 h (hr g x5 h hj (P fun x5 h=>∃ g',m g' < m g∧J g' x5 h) fun g' x5 h hlt hj=>⟨rfl,rfl,rfl,rfl,rfl,rfl,g',hlt,hj⟩)
 ·intro g env h hi
  obtain ⟨a0',i2',o2',i3',o3',x4',x5,rfl,rfl,rfl,rfl,rfl,rfl,rfl,g',hlt,hj⟩:=Zno hi
  exact ⟨g',hlt,rfl,rfl,rfl,rfl,rfl,rfl,hj⟩
theorem J7i (Q:QT) (R5:T5) (a0:Pt) (x5:Int) (i3 o3:Nat) (x4:Int) (i2 o2:Nat) (h:Zaa) (ht :
 Zrh ([40,44]) x5 fun A=>Zae pg Zcz [.ptr a0] h fun B C=>
 Zbp .u8 B fun B=>bcase (!((B:Int) == (((A:Nat):Int)))) (Zay a0 fun A B=>Zby (Zba C (.ptr (A,B + 2)) [.bool true]) fun A=>J8 Q R5 a0 i3 o3 x5 x4 i2 o2 A) (Zay a0 fun A B=>Zbq (Zak C (.ptr (A,B + 2))) fun A=>Zay a0 fun B D=>Zby (Zba C (.ptr (B,D + 2)) [.bool A]) fun A=>J8 Q R5 a0 i3 o3 x5 x4 i2 o2 A)):J7 Q R5 a0 x5 i3 o3 x4 i2 o2 h:=
 Zbb (kp:=kp) (cast (by kernel_rfl) ht)
theorem A5x0i (Q:QT) (x4:Int) (a0:Pt) (i3 o3 i2 o2:Nat) (h:Zaa) (ht :
 bcase (decide ((x4:Int) > 0)) (Zay a0 fun A B=>Zbq (Zak h (.ptr (A,B + 2))) fun A=>bcase (!A) (Zae pg Zcz [.ptr a0] h fun A B=>
 Zbp .u8 A fun A=>bcase (!((A:Int) == 41)) (Zay a0 fun A C=>Zby (Zba B (.ptr (A,C + 2)) [.bool true]) fun A=>J12 Q i3 o3 i2 o2 A) (Zay a0 fun A C=>Zbq (Zak B (.ptr (A,C + 2))) fun A=>Zay a0 fun C D=>Zby (Zba B (.ptr (C,D + 2)) [.bool A]) fun A=>J12 Q i3 o3 i2 o2 A)) (J12 Q i3 o3 i2 o2 h)) (J12 Q i3 o3 i2 o2 h)):A5x0 Q x4 a0 i3 o3 i2 o2 h:=
 At.mk (cast (by kernel_rfl) ht)
theorem J8i (Q:QT) (R5:T5) (a0:Pt) (i3 o3:Nat) (x5 x4:Int) (i2 o2:Nat) (h:Zaa) (ht :
 Zay a0 fun A B=>Zbq (Zak h (.ptr (A,B + 2))) fun A=>bcase (!A) (xSl (Zak h (.ptr (i3,o3 + 1))) fun A B C D=>Zae pg Zcq [.ptr a0] h fun E F=>
 Zqn E fun E=>Zai E fun E G=>Zbp .u8 E fun E=>Zai G fun G H=>xSl G fun G I J K=>Zck H ((Zak F (.ptr (i3,o3 + 1))=Zak h (.ptr (i3,o3 + 1)))∧Zeu (F ++ [.cells Zab [.int .u8 E,.slice G I J K] false]) fun E=>(Zak E (.ptr (i3,o3 + 1))=Zak F (.ptr (i3,o3 + 1)))∧Zdr pg Zeq E (.slice A B C D) (.slice (F.length,0) 1 1 true) fun A B=>xSl A fun A C D E=>Zby (Zba B (.ptr (i3,o3 + 1)) [.slice A C D E]) fun A=>J6 Q R5 x5 x4 a0 i3 o3 i2 o2 A)) (J6 Q R5 x5 x4 a0 i3 o3 i2 o2 h)):J8 Q R5 a0 i3 o3 x5 x4 i2 o2 h:=
 Zbb (kp:=kp) (cast (by kernel_rfl) ht)
theorem J12i (Q:QT) (i3 o3 i2 o2:Nat) (h:Zaa) (ht :
 Zcw (Zcr h (.ptr (i3,o3)) 2) fun A=>Zai A fun A B=>Zbp .u8 A fun A=>Zai B fun B C=>xSl B fun B D E F=>Zck C (Zby (Zba h (.ptr (i2,o2)) [.int .u8 A,.slice B D E F]) fun A=>Zcw (Zcr A (.ptr (i2,o2)) 2) fun B=>Zai B fun B C=>Zbp .u8 B fun B=>Zai C fun C D=>xSl C fun C E F G=>Zck D (Q (.agg [.int .u8 B,.slice C E F G]) A))):J12 Q i3 o3 i2 o2 h:=
 Zbb (kp:=kp) (cast (by kernel_rfl) ht)
theorem J6i (Q:QT) (R5:T5) (x5 x4:Int) (a0:Pt) (i3 o3 i2 o2:Nat) (h:Zaa) (ht :
 R5 a0 i2 o2 i3 o3 x4 (IntKind.wrap .i64 (x5 + 1)) h):J6 Q R5 x5 x4 a0 i3 o3 i2 o2 h:=
 Zbb (kp:=kp) (cast (by kernel_rfl) ht)
theorem call (a0:Pt) (h:Zaa) (Q:QT) (ht :
 Zeu (h ++ [.cells Zab [.int .u8 0,.slice none 0 0 true] false]) fun A=>Zae pg Zcz [.ptr a0] A fun A B=>
 Zbp .u8 A fun A=>Zeu (B ++ [.cells Zab [] false]) fun C=>Zeu (C ++ [.cells Zab [.int .u8 0,.slice none 0 0 true] false]) fun D=>Zby (Zba D (.ptr (C.length,0)) [.int .u8 A,.slice (B.length,0) 0 0 true]) fun A=>Zbp .u8 (Zak A (.ptr (C.length,0 + 0))) fun B=>Zae pg Zgg [.int .u8 B] A fun A B=>
 Zbp .i64 A fun A=>Zay a0 fun D E=>Zbq (Zak B (.ptr (D,E + 2))) fun D=>bcase D (Zay a0 fun D E=>Zby (Zba B (.ptr (D,E + 2)) [.bool true]) fun D=>J4 Q a0 h.length 0 C.length 0 A D) (Zay a0 fun D E=>Zby (Zba B (.ptr (D,E + 2)) [.bool (decide ((A:Int) < 0))]) fun B=>J4 Q a0 h.length 0 C.length 0 A B)):Zae pg Zcq [.ptr a0] h Q:=
 Zae.of_body kp (c:=cod fn) (fn:=fn) Go.Proofs.Try.func96 (by kernel_rfl) (by kernel_rfl) (Nat.le_of_ble_eq_true (by kernel_rfl))
  (cast (by kernel_rfl) ht)
end Zar
namespace Ziu
noncomputable abbrev fn:Func:=Go.Proofs.Try.f52
def kp:Zdb:=[(4000005,[5,2])]
noncomputable def C (p:List Nat):Code:=(cod fn).sub p
def KR (Q:QT):KT:=Zii pg fn.results.toList Q
def J5 (Q:QT) (i5 o5 i2 o2:Nat) (h:Zaa):Prop:=Den pg fn.ntmps (C [1,1,1,1]) [(5,.ptr (i5,o5)),(2,.ptr (i2,o2))] h (KR Q)
theorem J5i (Q:QT) (i5 o5 i2 o2:Nat) (h:Zaa) (ht :
 Zcw (Zcr h (.ptr (i5,o5)) 2) fun A=>Zai A fun A B=>Zbp .u8 A fun A=>Zai B fun B C=>xSl B fun B D E F=>Zck C (Zby (Zba h (.ptr (i2,o2)) [.int .u8 A,.slice B D E F]) fun A=>Zcw (Zcr A (.ptr (i2,o2)) 2) fun B=>Zai B fun B C=>Zbp .u8 B fun B=>Zai C fun C D=>xSl C fun C E F G=>Zck D (Q (.tup [.agg [.int .u8 B,.slice C E F G],.bool true]) A))):J5 Q i5 o5 i2 o2 h:=
 Zbb (kp:=kp) (cast (by kernel_rfl) ht)
theorem call (x0:List Nat) (h:Zaa) (Q:QT) (ht :
 Zeu (h ++ [.cells Zab [.int .u8 0,.slice none 0 0 true] false]) fun A=>Zeu (A ++ [.cells Zbr [.str x0,.int .i64 0,.bool false] false]) fun B=>Zae pg Zcq [.ptr (A.length,0)] B fun B C=>
 Zqn B fun B=>Zai B fun B D=>Zbp .u8 B fun B=>Zai D fun D E=>xSl D fun D F G H=>Zck E (Zeu (C ++ [.cells Zab [.int .u8 0,.slice none 0 0 true] false]) fun E=>Zby (Zba E (.ptr (C.length,0)) [.int .u8 B,.slice D F G H]) fun B=>Zbq (Zak B (.ptr (A.length,0 + 2))) fun D=>bcase D (Zby (Zba B (.ptr (h.length,0)) [.int .u8 0,.slice none 0 0 true]) fun D=>Zcw (Zcr D (.ptr (h.length,0)) 2) fun E=>Zai E fun E F=>Zbp .u8 E fun E=>Zai F fun F G=>xSl F fun F H I J=>Zck G (Q (.tup [.agg [.int .u8 E,.slice F H I J],.bool false]) D)) (Zbp .i64 (Zak B (.ptr (A.length,0 + 1))) fun A=>bcase (!((A:Int) == (((List.length x0:Nat):Int)))) (Zby (Zba B (.ptr (h.length,0)) [.int .u8 0,.slice none 0 0 true]) fun A=>Zcw (Zcr A (.ptr (h.length,0)) 2) fun D=>Zai D fun D E=>Zbp .u8 D fun D=>Zai E fun E F=>xSl E fun E G H I=>Zck F (Q (.tup [.agg [.int .u8 D,.slice E G H I],.bool false]) A)) (bcase (decide (((((List.length x0:Nat):Int)):Int) > 60)) (Zby (Zba B (.ptr (h.length,0)) [.int .u8 0,.slice none 0 0 true]) fun A=>Zcw (Zcr A (.ptr (h.length,0)) 2) fun D=>Zai D fun D E=>Zbp .u8 D fun D=>Zai E fun E F=>xSl E fun E G H I=>Zck F (Q (.tup [.agg [.int .u8 D,.slice E G H I],.bool false]) A)) (J5 Q C.length 0 h.length 0 B))))):Zae pg Zed [.str x0] h Q:=
 Zae.of_body kp (c:=cod fn) (fn:=fn) Go.Proofs.Try.func52 (by kernel_rfl) (by kernel_rfl) (Nat.le_of_ble_eq_true (by kernel_rfl))
  (cast (by kernel_rfl) ht)
end Ziu
namespace Zjg
noncomputable abbrev fn:Func:=Go.Proofs.Try.f68
def kp:Zdb:=[]
noncomputable def C (p:List Nat):Code:=(cod fn).sub p
def KR (Q:QT):KT:=Zii pg fn.results.toList Q
theorem call (x0:List Nat) (h:Zaa) (Q:QT) (ht :
 Zae pg Zed [.str x0] h fun A B=>
 Zoj A fun A=>Zai A fun A C=>Zqn A fun A=>Zai A fun A D=>Zbp .u8 A fun A=>Zai D fun D E=>xSl D fun D F G H=>Zck E (Zai C fun C E=>Zbq C fun C=>Zck E (Zeu (B ++ [.cells Zab [.int .u8 0,.slice none 0 0 true] false]) fun E=>Zby (Zba E (.ptr (B.length,0)) [.int .u8 A,.slice D F G H]) fun A=>Q (.bool C) A))):Zae pg Zgk [.str x0] h Q:=
 Zae.of_body kp (c:=cod fn) (fn:=fn) Go.Proofs.Try.func68 (by kernel_rfl) (by kernel_rfl) (Nat.le_of_ble_eq_true (by kernel_rfl))
  (cast (by kernel_rfl) ht)
end Zjg
end Go.Sim

set_option maxRecDepth 100000
set_option maxHeartbeats 0
set_option linter.unusedVariables false
namespace Go.Sim
open Go Go.RowKit
namespace Zjz
noncomputable abbrev fn:Func:=Go.Proofs.Try.f143
def kp:Zdb:=[(4000009,[])]
noncomputable def C (p:List Nat):Code:=(cod fn).sub p
def KR (Q:QT):KT:=Zii pg fn.results.toList Q
def J9 (Q:QT) (h:Zaa):Prop:=Den pg fn.ntmps (C [1,1]) [] h (KR Q)
theorem J9i (Q:QT) (h:Zaa) (ht :
 Q (.int .i64 (-1)) h):J9 Q h:=
 Zbb (kp:=kp) (cast (by kernel_rfl) ht)
theorem call (x0:List Nat) (h:Zaa) (Q:QT) (ht :
 bcase (!((((List.length x0:Nat):Int):Int) == 1)) (Q (.int .i64 (-1)) h) (Zae pg Zft [.str ([105,98,117,120,121,122,88,89,90]),.str x0] h fun A B=>
 Zbq A fun A=>bcase A (Q (.int .i64 0) B) (bcase (decide (x0=[108])) (Q (.int .i64 1) B) (bcase (decide (x0=[109])) (Q (.int .i64 1) B) (bcase (decide (x0=[112])) (Q (.int .i64 2) B) (J9 Q B)))))):Zae pg Zhq [.str x0] h Q:=
 Zae.of_body kp (c:=cod fn) (fn:=fn) Go.Proofs.Try.func143 (by kernel_rfl) (by kernel_rfl) (Nat.le_of_ble_eq_true (by kernel_rfl))
  (cast (by kernel_rfl) ht)
end Zjz
namespace Zcm
noncomputable abbrev fn:Func:=Go.Proofs.Try.f101
def kp:Zdb:=[(4000003,[0]),(3000006,[4,0,2,3]),(1000006,[0,4,27,28]),(4000020,[4,0])]
noncomputable def C (p:List Nat):Code:=(cod fn).sub p
def KR (Q:QT):KT:=Zii pg fn.results.toList Q
abbrev T6:=List Nat→Nat→Nat→Int→Int→Zaa→Prop
def E6 (R6:T6) (env:Env) (h:Zaa):Prop:=Zcu 0 env fun v env=>Zdt v fun x0=>Zcu 4 env fun v env=>Zew v fun a=>Zay a fun i4 o4=>Zcu 27 env fun v env=>Zhe .i64 v fun x27=>Zcu 28 env fun v env=>Zhe .i64 v fun x28=>Znt env (R6 x0 i4 o4 x27 x28 h)
theorem Zjp {R6:T6} {env:Env} {h:Zaa} (hi:E6 R6 env h):∃ x0,∃ i4,∃ o4,∃ x27,∃ x28,env=[(0,.str x0),(4,.ptr (i4,o4)),(27,.int .i64 x27),(28,.int .i64 x28)]∧R6 x0 i4 o4 x27 x28 h:=by
 unfold E6 at hi
 have hi0:=hi
 clear hi
 obtain ⟨_,_,rfl,hi1⟩:=Zam hi0
 obtain ⟨x0,rfl,hi2⟩:=Zib hi1
 obtain ⟨_,_,rfl,hi3⟩:=Zam hi2
 obtain ⟨a,rfl,hi4⟩:=Zbk hi3
 obtain ⟨i4,o4,rfl,hi5⟩:=Zbn hi4
 obtain ⟨_,_,rfl,hi6⟩:=Zam hi5
 obtain ⟨x27,rfl,hi7⟩:=Zbf hi6
 obtain ⟨_,_,rfl,hi8⟩:=Zam hi7
 obtain ⟨x28,rfl,hi9⟩:=Zbf hi8
 obtain ⟨rfl,hi10⟩:=Zbv hi9
 have hi:=hi10
 exact ⟨x0,i4,o4,x27,x28,rfl,hi⟩
def K0 (Q:QT):KT:=andThen (fun env' h'=>(match kp.find 4000016 with | some ks=>Den pg fn.ntmps (C [1,1,1,1,1]) (env'.keep ks) h' (KR Q) | none=>den pg fn.ntmps kp (C [1,1,1,1,1]) env' h' (KR Q))) (KR Q)
def K1 (Q:QT):KT:=Zdn 0 (K0 Q)
def K2 (Q:QT):KT:=left kp 6 (K1 Q)
def K3 (Q:QT) (R6:T6):KT:=rnd ((kp.find 1000006).getD []) (E6 R6) (K2 Q)
def J3 (Q:QT) (x0:List Nat) (h:Zaa):Prop:=Den pg fn.ntmps (C [1,1]) [(0,.str x0)] h (KR Q)
def L6 (Q:QT) (x0:List Nat) (i4 o4:Nat) (x27 x28:Int) (h:Zaa):Prop:=Zgb (Den pg fn.ntmps (C [1,1,1,1,0,1,0,0])) ((kp.find 1000006).getD []) (K2 Q) [(0,.str x0),(4,.ptr (i4,o4)),(27,.int .i64 x27),(28,.int .i64 x28)] h
def Ybp (Q:QT) (i4 o4:Nat) (x0:List Nat) (h:Zaa):Prop:=At (K1 Q) (.exit 0) [(4,.ptr (i4,o4)),(0,.str x0),(2,.undef),(3,.undef)] h
def J20 (Q:QT) (i4 o4:Nat) (x0:List Nat) (h:Zaa):Prop:=Den pg fn.ntmps (C [1,1,1,1,1,1]) [(4,.ptr (i4,o4)),(0,.str x0)] h (KR Q)
theorem J3i (Q:QT) (x0:List Nat) (h:Zaa) (ht :
 (0≤(0:Int)∧(0:Int)≤1∧(1:Int)≤(List.length x0:Nat))∧(Zeu (h ++ [.cells Zaz [.str (sub x0 0 1),.slice none 0 0 true,.ptr none] false]) fun A=>(0≤(1:Int)∧(1:Int)≤(List.length x0:Int)∧((List.length x0:Int):Int)≤(List.length x0:Nat))∧(Zdt (Zak A (.ptr (h.length,0 + 0))) fun B=>Zae pg Zhq [.str B] A fun A B=>
 Zbp .i64 A fun A=>L6 Q (sub x0 1 ((List.length x0:Int))) h.length 0 A 0 B))):J3 Q x0 h:=
 Zbb (kp:=kp) (cast (by kernel_rfl) ht)
def L6t (Q:QT) (R6:T6) (x0:List Nat) (i4 o4:Nat) (x27 x28:Int) (h:Zaa):Prop:=
 bcase (decide ((x28:Int) < x27)) ((0≤(x28:Int)∧(x28:Int)≤IntKind.wrap .i64 (x28 + 1)∧(IntKind.wrap .i64 (x28 + 1):Int)≤(List.length ([40,44]):Nat))∧(Zae pg Zfl [.str x0,.str (sub ([40,44]) x28 (IntKind.wrap .i64 (x28 + 1)))] h fun A B=>
 Zbq A fun A=>bcase (!A) (Q (.tup [.ptr none,.str x0]) B) ((0≤(1:Int)∧(1:Int)≤(List.length x0:Int)∧((List.length x0:Int):Int)≤(List.length x0:Nat))∧(Zae pg Zep [.str (sub x0 1 ((List.length x0:Int)))] B fun A B=>
 Zoj A fun A=>Zai A fun A C=>Zew A fun A=>Zai C fun C D=>Zdt C fun C=>Zck D (bcase (Option.isNone A) (Q (.tup [.ptr none,.str x0]) B) (xSl (Zak B (.ptr (i4,o4 + 1))) fun D E F G=>Zeu (B ++ [.cells Zbu [.ptr A] false]) fun A=>Zdr pg Zhf A (.slice D E F G) (.slice (B.length,0) 1 1 true) fun A B=>xSl A fun A D E F=>Zby (Zba B (.ptr (i4,o4 + 1)) [.slice A D E F]) fun A=>R6 C i4 o4 x27 (IntKind.wrap .i64 (x28 + 1)) A)))))) (Ybp Q i4 o4 x0 h)
theorem Zvm (Q:QT) (R6:T6) (x0:List Nat) (i4 o4:Nat) (x27 x28:Int) (h:Zaa) (ht:L6t Q R6 x0 i4 o4 x27 x28 h):Den pg fn.ntmps (C [1,1,1,1,0,1,0,0]) [(0,.str x0),(4,.ptr (i4,o4)),(27,.int .i64 x27),(28,.int .i64 x28)] h (K3 Q R6):=
 Zbb (kp:=kp) (cast (by kernel_rfl) ht)
theorem L6ind (Q:QT) (i4 o4:Nat) (x27:Int) {G:Type} (J:G→List Nat→Int→Zaa→Prop) (m:G→Nat)
 (hr:∀ (g:G) (x0:List Nat) (x28:Int) (h:Zaa),J g x0 x28 h→∀ (R6:T6),(∀ g' (x0:List Nat) (x28:Int) (h:Zaa),m g' < m g→J g' x0 x28 h→R6 x0 i4 o4 x27 x28 h)→L6t Q R6 x0 i4 o4 x27 x28 h)
 (g:G) (x0:List Nat) (x28:Int) (h:Zaa) (hj:J g x0 x28 h):L6 Q x0 i4 o4 x27 x28 h:=by
 let P:=fun (K:List Nat→Int→Zaa→Prop) x0 i4' o4' x27' x28 h=>i4=i4'∧o4=o4'∧x27=x27'∧K x0 x28 h
 refine Zgb.inv2 (fun g=>E6 (P (J g))) (fun g=>E6 (P fun x0 x28 h=>∃ g',m g' < m g∧J g' x0 x28 h)) m ?_ ?_ g ⟨rfl,rfl,rfl,hj⟩
 ·intro g env h hi
  obtain ⟨x0,i4',o4',x27',x28,rfl,rfl,rfl,rfl,hj⟩:=Zjp hi
  exact Zvm Q _ x0 i4 o4 x27 x28 h (hr g x0 x28 h hj (P fun x0 x28 h=>∃ g',m g' < m g∧J g' x0 x28 h) fun g' x0 x28 h hlt hj=>⟨rfl,rfl,rfl,g',hlt,hj⟩)
 ·intro g env h hi
  obtain ⟨x0,i4',o4',x27',x28,rfl,rfl,rfl,rfl,g',hlt,hj⟩:=Zjp hi
  exact ⟨g',hlt,rfl,rfl,rfl,hj⟩
theorem A6x0i (Q:QT) (i4 o4:Nat) (x0:List Nat) (h:Zaa) (ht :
 xSl (Zak h (.ptr (i4,o4 + 1))) fun A A B B=>bcase (decide (((((A:Nat):Int)):Int) > 0)) (Zae pg Zfl [.str x0,.str [41]] h fun A B=>
 Zbq A fun A=>bcase (!A) (Q (.tup [.ptr none,.str x0]) B) ((0≤(1:Int)∧(1:Int)≤(List.length x0:Int)∧((List.length x0:Int):Int)≤(List.length x0:Nat))∧(J20 Q i4 o4 (sub x0 1 ((List.length x0:Int))) B))) (J20 Q i4 o4 x0 h)):Ybp Q i4 o4 x0 h:=
 At.mk (cast (by kernel_rfl) ht)
theorem J20i (Q:QT) (i4 o4:Nat) (x0:List Nat) (h:Zaa) (ht :
 Q (.tup [.ptr (i4,o4),.str x0]) h):J20 Q i4 o4 x0 h:=
 Zbb (kp:=kp) (cast (by kernel_rfl) ht)
theorem call (x0:List Nat) (h:Zaa) (Q:QT) (ht :
 bcase (decide (x0=[])) (Q (.tup [.ptr none,.str x0]) h) ((0≤(0:Int)∧(0:Int)≤1∧(1:Int)≤(List.length x0:Nat))∧(Zae pg Zhq [.str (sub x0 0 1)] h fun A B=>
 Zbp .i64 A fun A=>bcase (decide ((A:Int) < 0)) (Q (.tup [.ptr none,.str x0]) B) (J3 Q x0 B)))):Zae pg Zep [.str x0] h Q:=
 Zae.of_body kp (c:=cod fn) (fn:=fn) Go.Proofs.Try.func101 (by kernel_rfl) (by kernel_rfl) (Nat.le_of_ble_eq_true (by kernel_rfl))
  (cast (by kernel_rfl) ht)
end Zcm
namespace Zlv
noncomputable abbrev fn:Func:=Go.Proofs.Try.f78
def kp:Zdb:=[]
noncomputable def C (p:List Nat):Code:=(cod fn).sub p
def KR (Q:QT):KT:=Zii pg fn.results.toList Q
theorem call (x0:List Nat) (h:Zaa) (Q:QT) (ht :
 bcase (decide (((((List.length x0:Nat):Int)):Int) > 60)) (Q (.ptr none) h) (Zae pg Zep [.str x0] h fun A B=>
 Zoj A fun A=>Zai A fun A C=>Zew A fun A=>Zai C fun C D=>Zdt C fun C=>Zck D (bcase (!(decide (C=[]))) (Q (.ptr none) B) (Q (.ptr A) B)))):Zae pg Zjb [.str x0] h Q:=
 Zae.of_body kp (c:=cod fn) (fn:=fn) Go.Proofs.Try.func78 (by kernel_rfl) (by kernel_rfl) (Nat.le_of_ble_eq_true (by kernel_rfl))
  (cast (by kernel_rfl) ht)
end Zlv
namespace Zjh
noncomputable abbrev fn:Func:=Go.Proofs.Try.f32
def kp:Zdb:=[]
noncomputable def C (p:List Nat):Code:=(cod fn).sub p
def KR (Q:QT):KT:=Zii pg fn.results.toList Q
theorem call (x0:List Nat) (h:Zaa) (Q:QT) (ht :
 Zae pg Zjb [.str x0] h fun A B=>
 Zew A fun A=>Q (.bool (!(Option.isNone A))) B):Zae pg Zdm [.str x0] h Q:=
 Zae.of_body kp (c:=cod fn) (fn:=fn) Go.Proofs.Try.func32 (by kernel_rfl) (by kernel_rfl) (Nat.le_of_ble_eq_true (by kernel_rfl))
  (cast (by kernel_rfl) ht)
end Zjh
end Go.Sim

set_option maxRecDepth 100000
set_option maxHeartbeats 0
set_option linter.unusedVariables false
namespace Go.Sim
open Go Go.RowKit
end Go.Sim

set_option maxRecDepth 100000
set_option maxHeartbeats 0
set_option linter.unusedVariables false
namespace Go.Sim
open Go Go.RowKit
end Go.Sim

set_option maxRecDepth 100000
set_option maxHeartbeats 0
set_option linter.unusedVariables false
namespace Go.Sim
open Go Go.RowKit
end Go.Sim

set_option maxRecDepth 100000
set_option maxHeartbeats 0
set_option linter.unusedVariables false
namespace Go.Sim
open Go Go.RowKit
end Go.Sim

set_option maxRecDepth 100000
set_option maxHeartbeats 0
set_option linter.unusedVariables false
namespace Go.Sim
open Go Go.RowKit
end Go.Sim

set_option maxRecDepth 100000
set_option maxHeartbeats 0
set_option linter.unusedVariables false
namespace Go.Sim
open Go Go.RowKit
namespace Zcc
noncomputable abbrev fn:Func:=Go.Proofs.Try.f112
def kp:Zdb:=[(3000002,[2]),(1000002,[0,5,6,7]),(2000004,[43,7,6,5,0]),(4000006,[7,6,5,0])]
noncomputable def C (p:List Nat):Code:=(cod fn).sub p
def KR (Q:QT):KT:=Zii pg fn.results.toList Q
abbrev T2:=Pt→Nat→Nat→Bool→Pt→Nat→Nat→Bool→Int→Int→Zaa→Prop
def E2 (R2:T2) (env:Env) (h:Zaa):Prop:=Zcu 0 env fun v env=>xSl v fun a0 n0 c0 e0=>Zcu 5 env fun v env=>xSl v fun a5 n5 c5 e5=>Zcu 6 env fun v env=>Zhe .i64 v fun x6=>Zcu 7 env fun v env=>Zhe .i64 v fun x7=>Znt env (R2 a0 n0 c0 e0 a5 n5 c5 e5 x6 x7 h)
theorem Zjn {R2:T2} {env:Env} {h:Zaa} (hi:E2 R2 env h):∃ a0,∃ n0,∃ c0,∃ e0,∃ a5,∃ n5,∃ c5,∃ e5,∃ x6,∃ x7,env=[(0,.slice a0 n0 c0 e0),(5,.slice a5 n5 c5 e5),(6,.int .i64 x6),(7,.int .i64 x7)]∧R2 a0 n0 c0 e0 a5 n5 c5 e5 x6 x7 h:=by
 unfold E2 at hi
 repeat ((first | (have k:=Zam hi; clear hi; obtain ⟨_,_,e,hi⟩:=k) | (have k:=Zbf hi; clear hi; obtain ⟨_,e,hi⟩:=k) | (have k:=Zdu hi; clear hi; obtain ⟨_,_,_,_,e,hi⟩:=k)); subst e)
 obtain ⟨rfl,hi⟩:=Zbv hi
 exact ⟨_,_,_,_,_,_,_,_,_,_,rfl,hi⟩
def K0 (Q:QT):KT:=andThen (fun env' h'=>(match kp.find 4000007 with | some ks=>Den pg fn.ntmps (C [1,1]) (env'.keep ks) h' (KR Q) | none=>den pg fn.ntmps kp (C [1,1]) env' h' (KR Q))) (KR Q)
def K1 (Q:QT):KT:=Zdn 0 (K0 Q)
def K2 (Q:QT):KT:=left kp 2 (K1 Q)
def K3 (Q:QT) (R2:T2):KT:=rnd ((kp.find 1000002).getD []) (E2 R2) (K2 Q)
def L2 (Q:QT) (a0:Pt) (n0 c0:Nat) (e0:Bool) (a5:Pt) (n5 c5:Nat) (e5:Bool) (x6 x7:Int) (h:Zaa):Prop:=Zgb (Den pg fn.ntmps (C [1,0,1,0,0])) ((kp.find 1000002).getD []) (K2 Q) [(0,.slice a0 n0 c0 e0),(5,.slice a5 n5 c5 e5),(6,.int .i64 x6),(7,.int .i64 x7)] h
def J6 (Q:QT) (R2:T2) (x7 x6:Int) (a5:Pt) (n5 c5:Nat) (e5:Bool) (a0:Pt) (n0 c0:Nat) (e0:Bool) (h:Zaa):Prop:=Den pg fn.ntmps (C [1,0,1,0,0,1,1,1]) [(7,.int .i64 x7),(6,.int .i64 x6),(5,.slice a5 n5 c5 e5),(0,.slice a0 n0 c0 e0)] h (K3 Q R2)
def A2x0 (Q:QT) (h:Zaa):Prop:=At (K1 Q) (.exit 0) [(2,.undef)] h
def L2t (Q:QT) (R2:T2) (a0:Pt) (n0 c0:Nat) (e0:Bool) (a5:Pt) (n5 c5:Nat) (e5:Bool) (x6 x7:Int) (h:Zaa):Prop:=
 bcase (decide ((x7:Int) < x6)) ((0≤(x7:Int)∧(x7:Int) < (n5:Nat))∧(Zay a5 fun A B=>Zcw (Zcr h (.ptr (A,B + (Int.toNat x7) * 2)) 2) fun A=>Zai A fun A B=>Zdt A fun A=>Zai B fun B C=>Zdt B fun B=>Zck C (Zeu (h ++ [.cells Zap [.str [],.str []] false]) fun C=>Zby (Zba C (.ptr (h.length,0)) [.str A,.str B]) fun A=>Zdt (Zak A (.ptr (h.length,0 + 0))) fun B=>bcase (!((((List.length B:Nat):Int):Int) == 1)) ((Zak A (.tup [])=Zak A (.tup []))∧Q (.bool false) A) (Zdt (Zak A (.ptr (h.length,0 + 0))) fun B=>Zrh B 0 fun B=>Zae pg Zfz [.int .u8 (((B:Nat):Int))] A fun A B=>
 Zbq A fun A=>bcase (!A) ((Zak B (.tup [])=Zak B (.tup []))∧Q (.bool false) B) (Zdt (Zak B (.ptr (h.length,0 + 1))) fun A=>Zae pg Zgk [.str A] B fun A B=>
 Zbq A fun A=>bcase (!A) ((Zak B (.tup [])=Zak B (.tup []))∧Q (.bool false) B) (bcase (decide ((x7:Int) > 0)) ((0≤(IntKind.wrap .i64 (x7 - 1):Int)∧(IntKind.wrap .i64 (x7 - 1):Int) < (n0:Nat))∧(Zay a0 fun A C=>Zdt (Zak B (.ptr (A,C + (Int.toNat (IntKind.wrap .i64 (x7 - 1))) * 2 + 0))) fun D=>Zdt (Zak B (.ptr (h.length,0 + 0))) fun E=>(Zak B (.ptr (A,C + (Int.toNat (IntKind.wrap .i64 (x7 - 1))) * 2 + 0))=Zak B (.ptr (A,C + (Int.toNat (IntKind.wrap .i64 (x7 - 1))) * 2 + 0)))∧bcase (!Zdk D E) (Q (.bool false) B) (J6 Q R2 x7 x6 a5 n5 c5 e5 a0 n0 c0 e0 B))) ((Zak B (.tup [])=Zak B (.tup []))∧J6 Q R2 x7 x6 a5 n5 c5 e5 a0 n0 c0 e0 B))))))) (A2x0 Q h)
theorem Zui (Q:QT) (R2:T2) (a0:Pt) (n0 c0:Nat) (e0:Bool) (a5:Pt) (n5 c5:Nat) (e5:Bool) (x6 x7:Int) (h:Zaa) (ht:L2t Q R2 a0 n0 c0 e0 a5 n5 c5 e5 x6 x7 h):Den pg fn.ntmps (C [1,0,1,0,0]) [(0,.slice a0 n0 c0 e0),(5,.slice a5 n5 c5 e5),(6,.int .i64 x6),(7,.int .i64 x7)] h (K3 Q R2):=
 Zbb (kp:=kp) (cast (by kernel_rfl) ht)
theorem L2ind (Q:QT) (a0:Pt) (n0 c0:Nat) (e0:Bool) (a5:Pt) (n5 c5:Nat) (e5:Bool) (x6:Int) {G:Type} (J:G→Int→Zaa→Prop) (m:G→Nat)
 (hr:∀ (g:G) (x7:Int) (h:Zaa),J g x7 h→∀ (R2:T2),(∀ g' (x7:Int) (h:Zaa),m g' < m g→J g' x7 h→R2 a0 n0 c0 e0 a5 n5 c5 e5 x6 x7 h)→L2t Q R2 a0 n0 c0 e0 a5 n5 c5 e5 x6 x7 h)
 (g:G) (x7:Int) (h:Zaa) (hj:J g x7 h):L2 Q a0 n0 c0 e0 a5 n5 c5 e5 x6 x7 h:=by
 let P:=fun (K:Int→Zaa→Prop) a0' n0' c0' e0' a5' n5' c5' e5' x6' x7 h=>a0=a0'∧n0=n0'∧c0=c0'∧e0=e0'∧a5=a5'∧n5=n5'∧c5=c5'∧e5=e5'∧x6=x6'∧K x7 h
 refine Zgb.inv2 (fun g=>E2 (P (J g))) (fun g=>E2 (P fun x7 h=>∃ g',m g' < m g∧J g' x7 h)) m ?_ ?_ g ⟨rfl,rfl,rfl,rfl,rfl,rfl,rfl,rfl,rfl,hj⟩
 ·intro g env h hi
  obtain ⟨a0',n0',c0',e0',a5',n5',c5',e5',x6',x7,rfl,rfl,rfl,rfl,rfl,rfl,rfl,rfl,rfl,rfl,hj⟩:=Zjn hi
  exact Zui Q _ a0 n0 c0 e0 a5 n5 c5 e5 x6 x7 h (hr g x7 h hj (P fun x7 h=>∃ g',m g' < m g∧J g' x7 h) fun g' x7 h hlt hj=>⟨rfl,rfl,rfl,rfl,rfl,rfl,rfl,rfl,rfl,g',hlt,hj⟩)
 ·intro g env h hi
  obtain ⟨a0',n0',c0',e0',a5',n5',c5',e5',x6',x7,rfl,rfl,rfl,rfl,rfl,rfl,rfl,rfl,rfl,rfl,g',hlt,hj⟩:=Zjn hi
  exact ⟨g',hlt,rfl,rfl,rfl,rfl,rfl,rfl,rfl,rfl,rfl,hj⟩
theorem J6i (Q:QT) (R2:T2) (x7 x6:Int) (a5:Pt) (n5 c5:Nat) (e5:Bool) (a0:Pt) (n0 c0:Nat) (e0:Bool) (h:Zaa) (ht :
 R2 a0 n0 c0 e0 a5 n5 c5 e5 x6 (IntKind.wrap .i64 (x7 + 1)) h):J6 Q R2 x7 x6 a5 n5 c5 e5 a0 n0 c0 e0 h:=
 Zbb (kp:=kp) (cast (by kernel_rfl) ht)
theorem A2x0i (Q:QT) (h:Zaa) (ht :
 Q (.bool true) h):A2x0 Q h:=
 At.mk (cast (by kernel_rfl) ht)
theorem call (a0:Pt) (n0 c0:Nat) (e0:Bool) (h:Zaa) (Q:QT) (ht :
 L2 Q a0 n0 c0 e0 a0 n0 c0 e0 (((n0:Nat):Int)) 0 h):Zae pg Zez [.slice a0 n0 c0 e0] h Q:=
 Zae.of_body kp (c:=cod fn) (fn:=fn) Go.Proofs.Try.func112 (by kernel_rfl) (by kernel_rfl) (Nat.le_of_ble_eq_true (by kernel_rfl))
  (cast (by kernel_rfl) ht)
end Zcc
namespace Zek
noncomputable abbrev fn:Func:=Go.Proofs.Try.f114
def kp:Zdb:=[(4000004,[3,0,4]),(3000006,[6,4]),(1000006,[0,4,6,33,34,35]),(2000008,[35,34,33,6,0,4])]
noncomputable def C (p:List Nat):Code:=(cod fn).sub p
def KR (Q:QT):KT:=Zii pg fn.results.toList Q
abbrev T6:=Pt→Nat→Nat→Nat→Nat→Pt→Nat→Nat→Bool→Int→Int→Zaa→Prop
def E6 (R6:T6) (env:Env) (h:Zaa):Prop:=Zcu 0 env fun v env=>Zew v fun a0=>Zcu 4 env fun v env=>Zew v fun a=>Zay a fun i4 o4=>Zcu 6 env fun v env=>Zew v fun a=>Zay a fun i6 o6=>Zcu 33 env fun v env=>xSl v fun a33 n33 c33 e33=>Zcu 34 env fun v env=>Zhe .i64 v fun x34=>Zcu 35 env fun v env=>Zhe .i64 v fun x35=>Znt env (R6 a0 i4 o4 i6 o6 a33 n33 c33 e33 x34 x35 h)
theorem Zjp {R6:T6} {env:Env} {h:Zaa} (hi:E6 R6 env h):∃ a0,∃ i4,∃ o4,∃ i6,∃ o6,∃ a33,∃ n33,∃ c33,∃ e33,∃ x34,∃ x35,env=[(0,.ptr a0),(4,.ptr (i4,o4)),(6,.ptr (i6,o6)),(33,.slice a33 n33 c33 e33),(34,.int .i64 x34),(35,.int .i64 x35)]∧R6 a0 i4 o4 i6 o6 a33 n33 c33 e33 x34 x35 h:=by
 unfold E6 at hi
 have hi0:=hi
 clear hi
 obtain ⟨_,_,rfl,hi1⟩:=Zam hi0
 obtain ⟨a0,rfl,hi2⟩:=Zbk hi1
 obtain ⟨_,_,rfl,hi3⟩:=Zam hi2
 obtain ⟨a,rfl,hi4⟩:=Zbk hi3
 obtain ⟨i4,o4,rfl,hi5⟩:=Zbn hi4
 obtain ⟨_,_,rfl,hi6⟩:=Zam hi5
 obtain ⟨a,rfl,hi7⟩:=Zbk hi6
 obtain ⟨i6,o6,rfl,hi8⟩:=Zbn hi7
 obtain ⟨_,_,rfl,hi9⟩:=Zam hi8
 obtain ⟨a33,n33,c33,e33,rfl,hi10⟩:=Zdu hi9
 obtain ⟨_,_,rfl,hi11⟩:=Zam hi10
 obtain ⟨x34,rfl,hi12⟩:=Zbf hi11
 obtain ⟨_,_,rfl,hi13⟩:=Zam hi12
 obtain ⟨x35,rfl,hi14⟩:=Zbf hi13
 obtain ⟨rfl,hi15⟩:=Zbv hi14
 have hi:=hi15
 exact ⟨a0,i4,o4,i6,o6,a33,n33,c33,e33,x34,x35,rfl,hi⟩
def K0 (Q:QT):KT:=andThen (fun env' h'=>(match kp.find 4000010 with | some ks=>Den pg fn.ntmps (C [1,1,1,1]) (env'.keep ks) h' (KR Q) | none=>den pg fn.ntmps kp (C [1,1,1,1]) env' h' (KR Q))) (KR Q)
def K1 (Q:QT):KT:=Zdn 0 (K0 Q)
def K2 (Q:QT):KT:=left kp 6 (K1 Q)
def K3 (Q:QT) (R6:T6):KT:=rnd ((kp.find 1000006).getD []) (E6 R6) (K2 Q)
def J4 (Q:QT) (i3 o3:Nat) (a0:Pt) (i4 o4:Nat) (h:Zaa):Prop:=Den pg fn.ntmps (C [1,1]) [(3,.ptr (i3,o3)),(0,.ptr a0),(4,.ptr (i4,o4))] h (KR Q)
def L6 (Q:QT) (a0:Pt) (i4 o4 i6 o6:Nat) (a33:Pt) (n33 c33:Nat) (e33:Bool) (x34 x35:Int) (h:Zaa):Prop:=Zgb (Den pg fn.ntmps (C [1,1,1,0,1,0,0])) ((kp.find 1000006).getD []) (K2 Q) [(0,.ptr a0),(4,.ptr (i4,o4)),(6,.ptr (i6,o6)),(33,.slice a33 n33 c33 e33),(34,.int .i64 x34),(35,.int .i64 x35)] h
def Ybp (Q:QT) (i6 o6 i4 o4:Nat) (h:Zaa):Prop:=At (K1 Q) (.exit 0) [(6,.ptr (i6,o6)),(4,.ptr (i4,o4))] h
theorem J4i (Q:QT) (i3 o3:Nat) (a0:Pt) (i4 o4:Nat) (h:Zaa) (ht :
 Zbp .u8 (Zak h (.ptr (i3,o3 + 0))) fun A=>Zeu (h ++ [.cells Zab [] false]) fun B=>Zeu (B ++ [.cells Zab [.int .u8 0,.slice none 0 0 true] false]) fun C=>Zby (Zba C (.ptr (B.length,0)) [.int .u8 A,.slice (h.length,0) 0 0 true]) fun A=>xSl (Zak A (.ptr (i3,o3 + 1))) fun C D E F=>L6 Q a0 i4 o4 B.length 0 C D E F (((D:Nat):Int)) 0 A):J4 Q i3 o3 a0 i4 o4 h:=
 Zbb (kp:=kp) (cast (by kernel_rfl) ht)
def L6t (Q:QT) (R6:T6) (a0:Pt) (i4 o4 i6 o6:Nat) (a33:Pt) (n33 c33:Nat) (e33:Bool) (x34 x35:Int) (h:Zaa):Prop:=
 bcase (decide ((x35:Int) < x34)) ((0≤(x35:Int)∧(x35:Int) < (n33:Nat))∧(Zay a33 fun A B=>Zcw (Zcr h (.ptr (A,B + (Int.toNat x35) * 2)) 2) fun A=>Zai A fun A B=>Zbp .u8 A fun A=>Zai B fun B C=>xSl B fun B D E F=>Zck C (Zeu (h ++ [.cells Zab [.int .u8 0,.slice none 0 0 true] false]) fun C=>Zby (Zba C (.ptr (h.length,0)) [.int .u8 A,.slice B D E F]) fun A=>xSl (Zak A (.ptr (i6,o6 + 1))) fun B C D E=>Zcw (Zcr A (.ptr (h.length,0)) 2) fun F=>Zai F fun F G=>Zbp .u8 F fun F=>Zai G fun G H=>xSl G fun G I J K=>Zck H ((Zak A (.ptr (i6,o6 + 1))=Zak A (.ptr (i6,o6 + 1)))∧Zae pg Zhm [.ptr a0,.agg [.int .u8 F,.slice G I J K]] A fun F G=>
 Zqn F fun F=>Zai F fun F H=>Zbp .u8 F fun F=>Zai H fun H I=>xSl H fun H J K L=>Zck I ((Zak G (.ptr (i6,o6 + 1))=Zak A (.ptr (i6,o6 + 1)))∧Zeu (G ++ [.cells Zab [.int .u8 F,.slice H J K L] false]) fun A=>(Zak A (.ptr (i6,o6 + 1))=Zak G (.ptr (i6,o6 + 1)))∧Zdr pg Zeq A (.slice B C D E) (.slice (G.length,0) 1 1 true) fun A B=>xSl A fun A C D E=>Zby (Zba B (.ptr (i6,o6 + 1)) [.slice A C D E]) fun A=>R6 a0 i4 o4 i6 o6 a33 n33 c33 e33 x34 (IntKind.wrap .i64 (x35 + 1)) A))))) (Ybp Q i6 o6 i4 o4 h)
theorem Zvm (Q:QT) (R6:T6) (a0:Pt) (i4 o4 i6 o6:Nat) (a33:Pt) (n33 c33:Nat) (e33:Bool) (x34 x35:Int) (h:Zaa) (ht:L6t Q R6 a0 i4 o4 i6 o6 a33 n33 c33 e33 x34 x35 h):Den pg fn.ntmps (C [1,1,1,0,1,0,0]) [(0,.ptr a0),(4,.ptr (i4,o4)),(6,.ptr (i6,o6)),(33,.slice a33 n33 c33 e33),(34,.int .i64 x34),(35,.int .i64 x35)] h (K3 Q R6):=
 Zbb (kp:=kp) (cast (by kernel_rfl) ht)
theorem L6ind (Q:QT) (a0:Pt) (i4 o4 i6 o6:Nat) (a33:Pt) (n33 c33:Nat) (e33:Bool) (x34:Int) {G:Type} (J:G→Int→Zaa→Prop) (m:G→Nat)
 (hr:∀ (g:G) (x35:Int) (h:Zaa),J g x35 h→∀ (R6:T6),(∀ g' (x35:Int) (h:Zaa),m g' < m g→J g' x35 h→R6 a0 i4 o4 i6 o6 a33 n33 c33 e33 x34 x35 h)→L6t Q R6 a0 i4 o4 i6 o6 a33 n33 c33 e33 x34 x35 h)
 (g:G) (x35:Int) (h:Zaa) (hj:J g x35 h):L6 Q a0 i4 o4 i6 o6 a33 n33 c33 e33 x34 x35 h:=by
 let P:=fun (K:Int→Zaa→Prop) a0' i4' o4' i6' o6' a33' n33' c33' e33' x34' x35 h=>a0=a0'∧i4=i4'∧o4=o4'∧i6=i6'∧o6=o6'∧a33=a33'∧n33=n33'∧c33=c33'∧e33=e33'∧x34=x34'∧K x35 h
 refine Zgb.inv2 (fun g=>E6 (P (J g))) (fun g=>E6 (P fun x35 h=>∃ g',m g' < m g∧J g' x35 h)) m ?_ ?_ g ⟨rfl,rfl,rfl,rfl,rfl,rfl,rfl,rfl,rfl,rfl,hj⟩
 ·intro g env h hi
  obtain ⟨a0',i4',o4',i6',o6',a33',n33',c33',e33',x34',x35,rfl,rfl,rfl,rfl,rfl,rfl,rfl,rfl,rfl,rfl,rfl,hj⟩:=Zjp hi
  exact Zvm Q _ a0 i4 o4 i6 o6 a33 n33 c33 e33 x34 x35 h (hr g x35 h hj (P fun x35 h=>∃ g',m g' < m g∧J g' x35 h) fun g' x35 h hlt hj=>⟨rfl,rfl,rfl,rfl,rfl,rfl,rfl,rfl,rfl,rfl,g',hlt,hj⟩)
 ·intro g env h hi
  obtain ⟨a0',i4',o4',i6',o6',a33',n33',c33',e33',x34',x35,rfl,rfl,rfl,rfl,rfl,rfl,rfl,rfl,rfl,rfl,rfl,g',hlt,hj⟩:=Zjp hi
  exact ⟨g',hlt,rfl,rfl,rfl,rfl,rfl,rfl,rfl,rfl,rfl,rfl,hj⟩
theorem A6x0i (Q:QT) (i6 o6 i4 o4:Nat) (h:Zaa) (ht :
 Zcw (Zcr h (.ptr (i6,o6)) 2) fun A=>Zai A fun A B=>Zbp .u8 A fun A=>Zai B fun B C=>xSl B fun B D E F=>Zck C (Zby (Zba h (.ptr (i4,o4)) [.int .u8 A,.slice B D E F]) fun A=>Zcw (Zcr A (.ptr (i4,o4)) 2) fun B=>Zai B fun B C=>Zbp .u8 B fun B=>Zai C fun C D=>xSl C fun C E F G=>Zck D (Q (.agg [.int .u8 B,.slice C E F G]) A))):Ybp Q i6 o6 i4 o4 h:=
 At.mk (cast (by kernel_rfl) ht)
theorem call (a0:Pt) (x1x0:Int) (a1x1:Pt) (n1x1 c1x1:Nat) (e1x1:Bool) (h:Zaa) (Q:QT) (ht :
 Zeu (h ++ [.cells Zab [.int .u8 x1x0,.slice a1x1 n1x1 c1x1 e1x1] false]) fun A=>Zeu (A ++ [.cells Zab [.int .u8 0,.slice none 0 0 true] false]) fun B=>Zbp .u8 (Zak B (.ptr (h.length,0 + 0))) fun C=>Zae pg Zdd [.int .u8 C] B fun B C=>
 Zbp .i64 B fun B=>bcase (decide ((B:Int) ≥ 0)) (Zay a0 fun D E=>(0≤(B:Int)∧(B:Int) < (12:Nat))∧(Zbp .u8 (Zak C (.ptr (D,E + (Int.toNat B) * 2 + 0))) fun D=>bcase (!((D:Int) == 0)) (Zay a0 fun D E=>(0≤(B:Int)∧(B:Int) < (12:Nat))∧(Zcw (Zcr C (.ptr (D,E + (Int.toNat B) * 2)) 2) fun B=>Zai B fun B D=>Zbp .u8 B fun B=>Zai D fun D E=>xSl D fun D F G H=>Zck E (Zby (Zba C (.ptr (A.length,0)) [.int .u8 B,.slice D F G H]) fun B=>Zcw (Zcr B (.ptr (A.length,0)) 2) fun D=>Zai D fun D E=>Zbp .u8 D fun D=>Zai E fun E F=>xSl E fun E G H I=>Zck F (Q (.agg [.int .u8 D,.slice E G H I]) B)))) (J4 Q h.length 0 a0 A.length 0 C))) (J4 Q h.length 0 a0 A.length 0 C)):Zae pg Zhm [.ptr a0,.agg [.int .u8 x1x0,.slice a1x1 n1x1 c1x1 e1x1]] h Q:=
 Zae.of_body kp (c:=cod fn) (fn:=fn) Go.Proofs.Try.func114 (by kernel_rfl) (by kernel_rfl) (Nat.le_of_ble_eq_true (by kernel_rfl))
  (cast (by kernel_rfl) ht)
end Zek
end Go.Sim

set_option maxRecDepth 100000
set_option maxHeartbeats 0
set_option linter.unusedVariables false
namespace Go.Sim
open Go Go.RowKit
namespace Zcb
noncomputable abbrev fn:Func:=Go.Proofs.Try.f115
def kp:Zdb:=[(3000002,[2]),(1000002,[0,5,6,7]),(2000004,[36,7,6,5,0]),(4000006,[7,6,5,0])]
noncomputable def C (p:List Nat):Code:=(cod fn).sub p
def KR (Q:QT):KT:=Zii pg fn.results.toList Q
abbrev T2:=Pt→Nat→Nat→Bool→Pt→Nat→Nat→Bool→Int→Int→Zaa→Prop
def E2 (R2:T2) (env:Env) (h:Zaa):Prop:=Zcu 0 env fun v env=>xSl v fun a0 n0 c0 e0=>Zcu 5 env fun v env=>xSl v fun a5 n5 c5 e5=>Zcu 6 env fun v env=>Zhe .i64 v fun x6=>Zcu 7 env fun v env=>Zhe .i64 v fun x7=>Znt env (R2 a0 n0 c0 e0 a5 n5 c5 e5 x6 x7 h)
theorem Zjn {R2:T2} {env:Env} {h:Zaa} (hi:E2 R2 env h):∃ a0,∃ n0,∃ c0,∃ e0,∃ a5,∃ n5,∃ c5,∃ e5,∃ x6,∃ x7,env=[(0,.slice a0 n0 c0 e0),(5,.slice a5 n5 c5 e5),(6,.int .i64 x6),(7,.int .i64 x7)]∧R2 a0 n0 c0 e0 a5 n5 c5 e5 x6 x7 h:=by
 unfold E2 at hi
 repeat ((first | (have k:=Zam hi; clear hi; obtain ⟨_,_,e,hi⟩:=k) | (have k:=Zbf hi; clear hi; obtain ⟨_,e,hi⟩:=k) | (have k:=Zdu hi; clear hi; obtain ⟨_,_,_,_,e,hi⟩:=k)); subst e)
 obtain ⟨rfl,hi⟩:=Zbv hi
 exact ⟨_,_,_,_,_,_,_,_,_,_,rfl,hi⟩
def K0 (Q:QT):KT:=andThen (fun env' h'=>(match kp.find 4000007 with | some ks=>Den pg fn.ntmps (C [1,1]) (env'.keep ks) h' (KR Q) | none=>den pg fn.ntmps kp (C [1,1]) env' h' (KR Q))) (KR Q)
def K1 (Q:QT):KT:=Zdn 0 (K0 Q)
def K2 (Q:QT):KT:=left kp 2 (K1 Q)
def K3 (Q:QT) (R2:T2):KT:=rnd ((kp.find 1000002).getD []) (E2 R2) (K2 Q)
def L2 (Q:QT) (a0:Pt) (n0 c0:Nat) (e0:Bool) (a5:Pt) (n5 c5:Nat) (e5:Bool) (x6 x7:Int) (h:Zaa):Prop:=Zgb (Den pg fn.ntmps (C [1,0,1,0,0])) ((kp.find 1000002).getD []) (K2 Q) [(0,.slice a0 n0 c0 e0),(5,.slice a5 n5 c5 e5),(6,.int .i64 x6),(7,.int .i64 x7)] h
def J6 (Q:QT) (R2:T2) (x7 x6:Int) (a5:Pt) (n5 c5:Nat) (e5:Bool) (a0:Pt) (n0 c0:Nat) (e0:Bool) (h:Zaa):Prop:=Den pg fn.ntmps (C [1,0,1,0,0,1,1,1]) [(7,.int .i64 x7),(6,.int .i64 x6),(5,.slice a5 n5 c5 e5),(0,.slice a0 n0 c0 e0)] h (K3 Q R2)
def A2x0 (Q:QT) (h:Zaa):Prop:=At (K1 Q) (.exit 0) [(2,.undef)] h
def L2t (Q:QT) (R2:T2) (a0:Pt) (n0 c0:Nat) (e0:Bool) (a5:Pt) (n5 c5:Nat) (e5:Bool) (x6 x7:Int) (h:Zaa):Prop:=
 bcase (decide ((x7:Int) < x6)) ((0≤(x7:Int)∧(x7:Int) < (n5:Nat))∧(Zay a5 fun A B=>Zcw (Zcr h (.ptr (A,B + (Int.toNat x7) * 2)) 2) fun A=>Zai A fun A B=>Zdt A fun A=>Zai B fun B C=>Zdt B fun B=>Zck C (Zeu (h ++ [.cells Zap [.str [],.str []] false]) fun C=>Zby (Zba C (.ptr (h.length,0)) [.str A,.str B]) fun A=>Zdt (Zak A (.ptr (h.length,0 + 0))) fun B=>Zae pg Zbw [.str B] A fun A B=>
 Zbq A fun A=>bcase (!A) ((Zak B (.tup [])=Zak B (.tup []))∧Q (.bool false) B) (Zdt (Zak B (.ptr (h.length,0 + 1))) fun A=>Zae pg Zdm [.str A] B fun A B=>
 Zbq A fun A=>bcase (!A) ((Zak B (.tup [])=Zak B (.tup []))∧Q (.bool false) B) (bcase (decide ((x7:Int) > 0)) ((0≤(IntKind.wrap .i64 (x7 - 1):Int)∧(IntKind.wrap .i64 (x7 - 1):Int) < (n0:Nat))∧(Zay a0 fun A C=>Zdt (Zak B (.ptr (A,C + (Int.toNat (IntKind.wrap .i64 (x7 - 1))) * 2 + 0))) fun D=>Zdt (Zak B (.ptr (h.length,0 + 0))) fun E=>(Zak B (.ptr (A,C + (Int.toNat (IntKind.wrap .i64 (x7 - 1))) * 2 + 0))=Zak B (.ptr (A,C + (Int.toNat (IntKind.wrap .i64 (x7 - 1))) * 2 + 0)))∧bcase (!Zdk D E) (Q (.bool false) B) (J6 Q R2 x7 x6 a5 n5 c5 e5 a0 n0 c0 e0 B))) ((Zak B (.tup [])=Zak B (.tup []))∧J6 Q R2 x7 x6 a5 n5 c5 e5 a0 n0 c0 e0 B)))))) (A2x0 Q h)
theorem Zui (Q:QT) (R2:T2) (a0:Pt) (n0 c0:Nat) (e0:Bool) (a5:Pt) (n5 c5:Nat) (e5:Bool) (x6 x7:Int) (h:Zaa) (ht:L2t Q R2 a0 n0 c0 e0 a5 n5 c5 e5 x6 x7 h):Den pg fn.ntmps (C [1,0,1,0,0]) [(0,.slice a0 n0 c0 e0),(5,.slice a5 n5 c5 e5),(6,.int .i64 x6),(7,.int .i64 x7)] h (K3 Q R2):=
 Zbb (kp:=kp) (cast (by kernel_rfl) ht)
theorem L2ind (Q:QT) (a0:Pt) (n0 c0:Nat) (e0:Bool) (a5:Pt) (n5 c5:Nat) (e5:Bool) (x6:Int) {G:Type} (J:G→Int→Zaa→Prop) (m:G→Nat)
 (hr:∀ (g:G) (x7:Int) (h:Zaa),J g x7 h→∀ (R2:T2),(∀ g' (x7:Int) (h:Zaa),m g' < m g→J g' x7 h→R2 a0 n0 c0 e0 a5 n5 c5 e5 x6 x7 h)→L2t Q R2 a0 n0 c0 e0 a5 n5 c5 e5 x6 x7 h)
 (g:G) (x7:Int) (h:Zaa) (hj:J g x7 h):L2 Q a0 n0 c0 e0 a5 n5 c5 e5 x6 x7 h:=by
 let P:=fun (K:Int→Zaa→Prop) a0' n0' c0' e0' a5' n5' c5' e5' x6' x7 h=>a0=a0'∧n0=n0'∧c0=c0'∧e0=e0'∧a5=a5'∧n5=n5'∧c5=c5'∧e5=e5'∧x6=x6'∧K x7 h
 refine Zgb.inv2 (fun g=>E2 (P (J g))) (fun g=>E2 (P fun x7 h=>∃ g',m g' < m g∧J g' x7 h)) m ?_ ?_ g ⟨rfl,rfl,rfl,rfl,rfl,rfl,rfl,rfl,rfl,hj⟩
 ·intro g env h hi
  obtain ⟨a0',n0',c0',e0',a5',n5',c5',e5',x6',x7,rfl,rfl,rfl,rfl,rfl,rfl,rfl,rfl,rfl,rfl,hj⟩:=Zjn hi
  exact Zui Q _ a0 n0 c0 e0 a5 n5 c5 e5 x6 x7 h (hr g x7 h hj (P fun x7 h=>∃ g',m g' < m g∧J g' x7 h) fun g' x7 h hlt hj=>⟨rfl,rfl,rfl,rfl,rfl,rfl,rfl,rfl,rfl,g',hlt,hj⟩)
 ·intro g env h hi
  obtain ⟨a0',n0',c0',e0',a5',n5',c5',e5',x6',x7,rfl,rfl,rfl,rfl,rfl,rfl,rfl,rfl,rfl,rfl,g',hlt,hj⟩:=Zjn hi
  exact ⟨g',hlt,rfl,rfl,rfl,rfl,rfl,rfl,rfl,rfl,rfl,hj⟩
theorem J6i (Q:QT) (R2:T2) (x7 x6:Int) (a5:Pt) (n5 c5:Nat) (e5:Bool) (a0:Pt) (n0 c0:Nat) (e0:Bool) (h:Zaa) (ht :
 R2 a0 n0 c0 e0 a5 n5 c5 e5 x6 (IntKind.wrap .i64 (x7 + 1)) h):J6 Q R2 x7 x6 a5 n5 c5 e5 a0 n0 c0 e0 h:=
 Zbb (kp:=kp) (cast (by kernel_rfl) ht)
theorem A2x0i (Q:QT) (h:Zaa) (ht :
 Q (.bool true) h):A2x0 Q h:=
 At.mk (cast (by kernel_rfl) ht)
theorem call (a0:Pt) (n0 c0:Nat) (e0:Bool) (h:Zaa) (Q:QT) (ht :
 L2 Q a0 n0 c0 e0 a0 n0 c0 e0 (((n0:Nat):Int)) 0 h):Zae pg Zfa [.slice a0 n0 c0 e0] h Q:=
 Zae.of_body kp (c:=cod fn) (fn:=fn) Go.Proofs.Try.func115 (by kernel_rfl) (by kernel_rfl) (Nat.le_of_ble_eq_true (by kernel_rfl))
  (cast (by kernel_rfl) ht)
end Zcb
namespace Zbi
noncomputable abbrev fn:Func:=Go.Proofs.Try.f74
def kp:Zdb:=[(4000003,[1,0]),(3000005,[6]),(1000005,[0,1,6,20,21]),(3000009,[6,8,21,20,1,0]),(1000009,[0,1,6,8,20,21,29,30,31])]
noncomputable def C (p:List Nat):Code:=(cod fn).sub p
def KR (Q:QT):KT:=Zii pg fn.results.toList Q
abbrev T5:=Pt→Nat→Nat→Bool→List Nat→List Nat→Int→Int→Zaa→Prop
def E5 (R5:T5) (env:Env) (h:Zaa):Prop:=Zcu 0 env fun v env=>xSl v fun a0 n0 c0 e0=>Zcu 1 env fun v env=>Zdt v fun x1=>Zcu 6 env fun v env=>Zdt v fun x6=>Zcu 20 env fun v env=>Zhe .i64 v fun x20=>Zcu 21 env fun v env=>Zhe .i64 v fun x21=>Znt env (R5 a0 n0 c0 e0 x1 x6 x20 x21 h)
theorem Zno {R5:T5} {env:Env} {h:Zaa} (hi:E5 R5 env h):∃ a0,∃ n0,∃ c0,∃ e0,∃ x1,∃ x6,∃ x20,∃ x21,env=[(0,.slice a0 n0 c0 e0),(1,.str x1),(6,.str x6),(20,.int .i64 x20),(21,.int .i64 x21)]∧R5 a0 n0 c0 e0 x1 x6 x20 x21 h:=by
 unfold E5 at hi
 repeat ((first | (have k:=Zam hi; clear hi; obtain ⟨_,_,e,hi⟩:=k) | (have k:=Zbf hi; clear hi; obtain ⟨_,e,hi⟩:=k) | (have k:=Zdu hi; clear hi; obtain ⟨_,_,_,_,e,hi⟩:=k) | (have k:=Zib hi; clear hi; obtain ⟨_,e,hi⟩:=k)); subst e)
 obtain ⟨rfl,hi⟩:=Zbv hi
 exact ⟨_,_,_,_,_,_,_,_,rfl,hi⟩
abbrev T9:=Pt→Nat→Nat→Bool→List Nat→List Nat→List Nat→Int→Int→Pt→Nat→Nat→Bool→Int→Int→Zaa→Prop
def E9 (R9:T9) (env:Env) (h:Zaa):Prop:=Zcu 0 env fun v env=>xSl v fun a0 n0 c0 e0=>Zcu 1 env fun v env=>Zdt v fun x1=>Zcu 6 env fun v env=>Zdt v fun x6=>Zcu 8 env fun v env=>Zdt v fun x8=>Zcu 20 env fun v env=>Zhe .i64 v fun x20=>Zcu 21 env fun v env=>Zhe .i64 v fun x21=>Zcu 29 env fun v env=>xSl v fun a29 n29 c29 e29=>Zcu 30 env fun v env=>Zhe .i64 v fun x30=>Zcu 31 env fun v env=>Zhe .i64 v fun x31=>Znt env (R9 a0 n0 c0 e0 x1 x6 x8 x20 x21 a29 n29 c29 e29 x30 x31 h)
theorem Ztz {R9:T9} {env:Env} {h:Zaa} (hi:E9 R9 env h):∃ a0,∃ n0,∃ c0,∃ e0,∃ x1,∃ x6,∃ x8,∃ x20,∃ x21,∃ a29,∃ n29,∃ c29,∃ e29,∃ x30,∃ x31,env=[(0,.slice a0 n0 c0 e0),(1,.str x1),(6,.str x6),(8,.str x8),(20,.int .i64 x20),(21,.int .i64 x21),(29,.slice a29 n29 c29 e29),(30,.int .i64 x30),(31,.int .i64 x31)]∧R9 a0 n0 c0 e0 x1 x6 x8 x20 x21 a29 n29 c29 e29 x30 x31 h:=by
 unfold E9 at hi
 repeat ((first | (have k:=Zam hi; clear hi; obtain ⟨_,_,e,hi⟩:=k) | (have k:=Zbf hi; clear hi; obtain ⟨_,e,hi⟩:=k) | (have k:=Zdu hi; clear hi; obtain ⟨_,_,_,_,e,hi⟩:=k) | (have k:=Zib hi; clear hi; obtain ⟨_,e,hi⟩:=k)); subst e)
 obtain ⟨rfl,hi⟩:=Zbv hi
 exact ⟨_,_,_,_,_,_,_,_,_,_,_,_,_,_,_,rfl,hi⟩
def K0 (Q:QT):KT:=andThen (fun env' h'=>(match kp.find 4000016 with | some ks=>Den pg fn.ntmps (C [1,1,1,1]) (env'.keep ks) h' (KR Q) | none=>den pg fn.ntmps kp (C [1,1,1,1]) env' h' (KR Q))) (KR Q)
def K1 (Q:QT):KT:=Zdn 0 (K0 Q)
def K2 (Q:QT):KT:=left kp 5 (K1 Q)
def K3 (Q:QT) (R5:T5):KT:=rnd ((kp.find 1000005).getD []) (E5 R5) (K2 Q)
def K4 (Q:QT) (R5:T5):KT:=andThen (fun env' h'=>(match kp.find 4000015 with | some ks=>Den pg fn.ntmps (C [1,1,1,0,1,0,0,1,1,1]) (env'.keep ks) h' (K3 Q R5) | none=>den pg fn.ntmps kp (C [1,1,1,0,1,0,0,1,1,1]) env' h' (K3 Q R5))) (K3 Q R5)
def K5 (Q:QT) (R5:T5):KT:=Zdn 1 (K4 Q R5)
def K6 (Q:QT) (R5:T5):KT:=andThen (fun env' h'=>(match kp.find 4000014 with | some ks=>Den pg fn.ntmps (C [1,1,1,0,1,0,0,1,1,0,0,1,1,1]) (env'.keep ks) h' (K5 Q R5) | none=>den pg fn.ntmps kp (C [1,1,1,0,1,0,0,1,1,0,0,1,1,1]) env' h' (K5 Q R5))) (K5 Q R5)
def K7 (Q:QT) (R5:T5):KT:=Zdn 2 (K6 Q R5)
def K8 (Q:QT) (R5:T5):KT:=left kp 9 (K7 Q R5)
def K9 (Q:QT) (R5:T5) (R9:T9):KT:=rnd ((kp.find 1000009).getD []) (E9 R9) (K8 Q R5)
def J3 (Q:QT) (x1:List Nat) (a0:Pt) (n0 c0:Nat) (e0:Bool) (h:Zaa):Prop:=Den pg fn.ntmps (C [1,1]) [(1,.str x1),(0,.slice a0 n0 c0 e0)] h (KR Q)
def L5 (Q:QT) (a0:Pt) (n0 c0:Nat) (e0:Bool) (x1 x6:List Nat) (x20 x21:Int) (h:Zaa):Prop:=Zgb (Den pg fn.ntmps (C [1,1,1,0,1,0,0])) ((kp.find 1000005).getD []) (K2 Q) [(0,.slice a0 n0 c0 e0),(1,.str x1),(6,.str x6),(20,.int .i64 x20),(21,.int .i64 x21)] h
def L9 (Q:QT) (R5:T5) (a0:Pt) (n0 c0:Nat) (e0:Bool) (x1 x6 x8:List Nat) (x20 x21:Int) (a29:Pt) (n29 c29:Nat) (e29:Bool) (x30 x31:Int) (h:Zaa):Prop:=Zgb (Den pg fn.ntmps (C [1,1,1,0,1,0,0,1,1,0,0,1,1,0,1,0,0])) ((kp.find 1000009).getD []) (K8 Q R5) [(0,.slice a0 n0 c0 e0),(1,.str x1),(6,.str x6),(8,.str x8),(20,.int .i64 x20),(21,.int .i64 x21),(29,.slice a29 n29 c29 e29),(30,.int .i64 x30),(31,.int .i64 x31)] h
def A5x0 (Q:QT) (x6:List Nat) (h:Zaa):Prop:=At (K1 Q) (.exit 0) [(6,.str x6)] h
def A9x2 (Q:QT) (R5:T5) (x6 x8:List Nat) (x21 x20:Int) (x1:List Nat) (a0:Pt) (n0 c0:Nat) (e0:Bool) (h:Zaa):Prop:=At (K7 Q R5) (.exit 2) [(6,.str x6),(8,.str x8),(21,.int .i64 x21),(20,.int .i64 x20),(1,.str x1),(0,.slice a0 n0 c0 e0)] h
theorem J3i (Q:QT) (x1:List Nat) (a0:Pt) (n0 c0:Nat) (e0:Bool) (h:Zaa) (ht :
 L5 Q a0 n0 c0 e0 x1 [] (((List.length x1:Nat):Int)) 0 h):J3 Q x1 a0 n0 c0 e0 h:=
 Zbb (kp:=kp) (cast (by kernel_rfl) ht)
def L5t (Q:QT) (R5:T5) (a0:Pt) (n0 c0:Nat) (e0:Bool) (x1 x6:List Nat) (x20 x21:Int) (h:Zaa):Prop:=
 bcase (decide ((x21:Int) < x20)) ((0≤(x21:Int)∧(x21:Int)≤IntKind.wrap .i64 (x21 + 1)∧(IntKind.wrap .i64 (x21 + 1):Int)≤(List.length x1:Nat))∧(L9 Q R5 a0 n0 c0 e0 x1 x6 (sub x1 x21 (IntKind.wrap .i64 (x21 + 1))) x20 x21 a0 n0 c0 e0 (((n0:Nat):Int)) 0 h)) (A5x0 Q x6 h)
theorem Ybc (Q:QT) (R5:T5) (a0:Pt) (n0 c0:Nat) (e0:Bool) (x1 x6:List Nat) (x20 x21:Int) (h:Zaa) (ht:L5t Q R5 a0 n0 c0 e0 x1 x6 x20 x21 h):Den pg fn.ntmps (C [1,1,1,0,1,0,0]) [(0,.slice a0 n0 c0 e0),(1,.str x1),(6,.str x6),(20,.int .i64 x20),(21,.int .i64 x21)] h (K3 Q R5):=
 Zbb (kp:=kp) (cast (by kernel_rfl) ht)
theorem L5ind (Q:QT) (a0:Pt) (n0 c0:Nat) (e0:Bool) (x1:List Nat) (x20:Int) {G:Type} (J:G→List Nat→Int→Zaa→Prop) (m:G→Nat)
 (hr:∀ (g:G) (x6:List Nat) (x21:Int) (h:Zaa),J g x6 x21 h→∀ (R5:T5),(∀ g' (x6:List Nat) (x21:Int) (h:Zaa),m g' < m g→J g' x6 x21 h→R5 a0 n0 c0 e0 x1 x6 x20 x21 h)→L5t Q R5 a0 n0 c0 e0 x1 x6 x20 x21 h)
 (g:G) (x6:List Nat) (x21:Int) (h:Zaa) (hj:J g x6 x21 h):L5 Q a0 n0 c0 e0 x1 x6 x20 x21 h:=by
 let P:=fun (K:List Nat→Int→Zaa→Prop) a0' n0' c0' e0' x1' x6 x20' x21 h=>a0=a0'∧n0=n0'∧c0=c0'∧e0=e0'∧x1=x1'∧x20=x20'∧K x6 x21 h
 refine Zgb.inv2 (fun g=>E5 (P (J g))) (fun g=>E5 (P fun x6 x21 h=>∃ g',m g' < m g∧J g' x6 x21 h)) m ?_ ?_ g ⟨rfl,rfl,rfl,rfl,rfl,rfl,hj⟩
 ·intro g env h hi
  obtain ⟨a0',n0',c0',e0',x1',x6,x20',x21,rfl,rfl,rfl,rfl,rfl,rfl,rfl,hj⟩:=Zno hi
  exact Ybc Q _ a0 n0 c0 e0 x1 x6 x20 x21 h (hr g x6 x21 h hj (P fun x6 x21 h=>∃ g',m g' < m g∧J g' x6 x21 h) fun g' x6 x21 h hlt hj=>⟨rfl,rfl,rfl,rfl,rfl,rfl,g',hlt,hj⟩)
 ·intro g env h hi
  obtain ⟨a0',n0',c0',e0',x1',x6,x20',x21,rfl,rfl,rfl,rfl,rfl,rfl,rfl,g',hlt,hj⟩:=Zno hi
  exact ⟨g',hlt,rfl,rfl,rfl,rfl,rfl,rfl,hj⟩
def L9t (Q:QT) (R5:T5) (R9:T9) (a0:Pt) (n0 c0:Nat) (e0:Bool) (x1 x6 x8:List Nat) (x20 x21:Int) (a29:Pt) (n29 c29:Nat) (e29:Bool) (x30 x31:Int) (h:Zaa):Prop:=
 bcase (decide ((x31:Int) < x30)) ((0≤(x31:Int)∧(x31:Int) < (n29:Nat))∧(Zay a29 fun A B=>Zcw (Zcr h (.ptr (A,B + (Int.toNat x31) * 2)) 2) fun A=>Zai A fun A B=>Zdt A fun A=>Zai B fun B C=>Zdt B fun B=>Zck C (Zeu (h ++ [.cells Zap [.str [],.str []] false]) fun C=>Zby (Zba C (.ptr (h.length,0)) [.str A,.str B]) fun A=>Zdt (Zak A (.ptr (h.length,0 + 0))) fun B=>bcase (decide (B=x8)) (Zdt (Zak A (.ptr (h.length,0 + 1))) fun B=>A9x2 Q R5 x6 B x21 x20 x1 a0 n0 c0 e0 A) (R9 a0 n0 c0 e0 x1 x6 x8 x20 x21 a29 n29 c29 e29 x30 (IntKind.wrap .i64 (x31 + 1)) A)))) (A9x2 Q R5 x6 x8 x21 x20 x1 a0 n0 c0 e0 h)
theorem Yfj (Q:QT) (R5:T5) (R9:T9) (a0:Pt) (n0 c0:Nat) (e0:Bool) (x1 x6 x8:List Nat) (x20 x21:Int) (a29:Pt) (n29 c29:Nat) (e29:Bool) (x30 x31:Int) (h:Zaa) (ht:L9t Q R5 R9 a0 n0 c0 e0 x1 x6 x8 x20 x21 a29 n29 c29 e29 x30 x31 h):Den pg fn.ntmps (C [1,1,1,0,1,0,0,1,1,0,0,1,1,0,1,0,0]) [(0,.slice a0 n0 c0 e0),(1,.str x1),(6,.str x6),(8,.str x8),(20,.int .i64 x20),(21,.int .i64 x21),(29,.slice a29 n29 c29 e29),(30,.int .i64 x30),(31,.int .i64 x31)] h (K9 Q R5 R9):=
 Zbb (kp:=kp) (cast (by kernel_rfl) ht)
theorem L9ind (Q:QT) (R5:T5) (a0:Pt) (n0 c0:Nat) (e0:Bool) (x1 x6:List Nat) (x20 x21:Int) (a29:Pt) (n29 c29:Nat) (e29:Bool) (x30:Int) {G:Type} (J:G→List Nat→Int→Zaa→Prop) (m:G→Nat)
 (hr:∀ (g:G) (x8:List Nat) (x31:Int) (h:Zaa),J g x8 x31 h→∀ (R9:T9),(∀ g' (x8:List Nat) (x31:Int) (h:Zaa),m g' < m g→J g' x8 x31 h→R9 a0 n0 c0 e0 x1 x6 x8 x20 x21 a29 n29 c29 e29 x30 x31 h)→L9t Q R5 R9 a0 n0 c0 e0 x1 x6 x8 x20 x21 a29 n29 c29 e29 x30 x31 h)
 (g:G) (x8:List Nat) (x31:Int) (h:Zaa) (hj:J g x8 x31 h):L9 Q R5 a0 n0 c0 e0 x1 x6 x8 x20 x21 a29 n29 c29 e29 x30 x31 h:=by
 let P:=fun (K:List Nat→Int→Zaa→Prop) a0' n0' c0' e0' x1' x6' x8 x20' x21' a29' n29' c29' e29' x30' x31 h=>a0=a0'∧n0=n0'∧c0=c0'∧e0=e0'∧x1=x1'∧x6=x6'∧x20=x20'∧x21=x21'∧a29=a29'∧n29=n29'∧c29=c29'∧e29=e29'∧x30=x30'∧K x8 x31 h
 refine Zgb.inv2 (fun g=>E9 (P (J g))) (fun g=>E9 (P fun x8 x31 h=>∃ g',m g' < m g∧J g' x8 x31 h)) m ?_ ?_ g ⟨rfl,rfl,rfl,rfl,rfl,rfl,rfl,rfl,rfl,rfl,rfl,rfl,rfl,hj⟩
 ·intro g env h hi
  obtain ⟨a0',n0',c0',e0',x1',x6',x8,x20',x21',a29',n29',c29',e29',x30',x31,rfl,rfl,rfl,rfl,rfl,rfl,rfl,rfl,rfl,rfl,rfl,rfl,rfl,rfl,hj⟩:=Ztz hi
  exact Yfj Q R5 (P fun x8 x31 h=>∃ g',m g' < m g∧J g' x8 x31 h) a0 n0 c0 e0 x1 x6 x8 x20 x21 a29 n29 c29 e29 x30 x31 h (hr g x8 x31 h hj (P fun x8 x31 h=>∃ g',m g' < m g∧J g' x8 x31 h) fun g' x8 x31 h hlt hj=>⟨rfl,rfl,rfl,rfl,rfl,rfl,rfl,rfl,rfl,rfl,rfl,rfl,rfl,g',hlt,hj⟩)
 ·intro g env h hi
  obtain ⟨a0',n0',c0',e0',x1',x6',x8,x20',x21',a29',n29',c29',e29',x30',x31,rfl,rfl,rfl,rfl,rfl,rfl,rfl,rfl,rfl,rfl,rfl,rfl,rfl,rfl,g',hlt,hj⟩:=Ztz hi
  exact ⟨g',hlt,rfl,rfl,rfl,rfl,rfl,rfl,rfl,rfl,rfl,rfl,rfl,rfl,rfl,hj⟩
theorem A5x0i (Q:QT) (x6:List Nat) (h:Zaa) (ht :
 bcase (decide (((((List.length x6:Nat):Int)):Int) > 60)) (Q (.tup [.str [],.bool false]) h) (Q (.tup [.str x6,.bool true]) h)):A5x0 Q x6 h:=
 At.mk (cast (by kernel_rfl) ht)
theorem A9x2i (Q:QT) (R5:T5) (x6 x8:List Nat) (x21 x20:Int) (x1:List Nat) (a0:Pt) (n0 c0:Nat) (e0:Bool) (h:Zaa) (ht :
 List.length x6 + List.length x8≤9223372036854775807∧(R5 a0 n0 c0 e0 x1 (x6 ++ x8) x20 (IntKind.wrap .i64 (x21 + 1)) h)):A9x2 Q R5 x6 x8 x21 x20 x1 a0 n0 c0 e0 h:=
 At.mk (cast (by kernel_rfl) ht)
theorem call (a0:Pt) (n0 c0:Nat) (e0:Bool) (x1:List Nat) (h:Zaa) (Q:QT) (ht :
 Zae pg Zfa [.slice a0 n0 c0 e0] h fun A B=>
 Zbq A fun A=>bcase (!A) (Q (.tup [.str [],.bool false]) B) (Zae pg Zdm [.str x1] B fun A B=>
 Zbq A fun A=>bcase (!A) (Q (.tup [.str [],.bool false]) B) (J3 Q x1 a0 n0 c0 e0 B))):Zae pg Zfb [.slice a0 n0 c0 e0,.str x1] h Q:=
 Zae.of_body kp (c:=cod fn) (fn:=fn) Go.Proofs.Try.func74 (by kernel_rfl) (by kernel_rfl) (Nat.le_of_ble_eq_true (by kernel_rfl))
  (cast (by kernel_rfl) ht)
end Zbi
end Go.Sim

set_option maxRecDepth 100000
set_option maxHeartbeats 0
set_option linter.unusedVariables false
namespace Go.Sim
open Go Go.RowKit
namespace Zcp
noncomputable abbrev fn:Func:=Go.Proofs.Try.f73
def kp:Zdb:=[(4000004,[0,6]),(3000006,[8,6]),(1000006,[6,8,26,27,28]),(2000008,[28,27,26,8,6])]
noncomputable def C (p:List Nat):Code:=(cod fn).sub p
def KR (Q:QT):KT:=Zii pg fn.results.toList Q
abbrev T6:=Nat→Nat→Nat→Nat→Pt→Nat→Nat→Bool→Int→Int→Zaa→Prop
def E6 (R6:T6) (env:Env) (h:Zaa):Prop:=Zcu 6 env fun v env=>Zew v fun a=>Zay a fun i6 o6=>Zcu 8 env fun v env=>Zew v fun a=>Zay a fun i8 o8=>Zcu 26 env fun v env=>xSl v fun a26 n26 c26 e26=>Zcu 27 env fun v env=>Zhe .i64 v fun x27=>Zcu 28 env fun v env=>Zhe .i64 v fun x28=>Znt env (R6 i6 o6 i8 o8 a26 n26 c26 e26 x27 x28 h)
theorem Zjp {R6:T6} {env:Env} {h:Zaa} (hi:E6 R6 env h):∃ i6,∃ o6,∃ i8,∃ o8,∃ a26,∃ n26,∃ c26,∃ e26,∃ x27,∃ x28,env=[(6,.ptr (i6,o6)),(8,.ptr (i8,o8)),(26,.slice a26 n26 c26 e26),(27,.int .i64 x27),(28,.int .i64 x28)]∧R6 i6 o6 i8 o8 a26 n26 c26 e26 x27 x28 h:=by
 unfold E6 at hi
 have hi0:=hi
 clear hi
 obtain ⟨_,_,rfl,hi1⟩:=Zam hi0
 obtain ⟨a,rfl,hi2⟩:=Zbk hi1
 obtain ⟨i6,o6,rfl,hi3⟩:=Zbn hi2
 obtain ⟨_,_,rfl,hi4⟩:=Zam hi3
 obtain ⟨a,rfl,hi5⟩:=Zbk hi4
 obtain ⟨i8,o8,rfl,hi6⟩:=Zbn hi5
 obtain ⟨_,_,rfl,hi7⟩:=Zam hi6
 obtain ⟨a26,n26,c26,e26,rfl,hi8⟩:=Zdu hi7
 obtain ⟨_,_,rfl,hi9⟩:=Zam hi8
 obtain ⟨x27,rfl,hi10⟩:=Zbf hi9
 obtain ⟨_,_,rfl,hi11⟩:=Zam hi10
 obtain ⟨x28,rfl,hi12⟩:=Zbf hi11
 obtain ⟨rfl,hi13⟩:=Zbv hi12
 have hi:=hi13
 exact ⟨i6,o6,i8,o8,a26,n26,c26,e26,x27,x28,rfl,hi⟩
def K0 (Q:QT):KT:=andThen (fun env' h'=>(match kp.find 4000010 with | some ks=>Den pg fn.ntmps (C [1,1,1,1,1]) (env'.keep ks) h' (KR Q) | none=>den pg fn.ntmps kp (C [1,1,1,1,1]) env' h' (KR Q))) (KR Q)
def K1 (Q:QT):KT:=Zdn 0 (K0 Q)
def K2 (Q:QT):KT:=left kp 6 (K1 Q)
def K3 (Q:QT) (R6:T6):KT:=rnd ((kp.find 1000006).getD []) (E6 R6) (K2 Q)
def J4 (Q:QT) (a0:Pt) (n0 c0:Nat) (e0:Bool) (i6 o6:Nat) (h:Zaa):Prop:=Den pg fn.ntmps (C [1,1,1]) [(0,.slice a0 n0 c0 e0),(6,.ptr (i6,o6))] h (KR Q)
def L6 (Q:QT) (i6 o6 i8 o8:Nat) (a26:Pt) (n26 c26:Nat) (e26:Bool) (x27 x28:Int) (h:Zaa):Prop:=Zgb (Den pg fn.ntmps (C [1,1,1,1,0,1,0,0])) ((kp.find 1000006).getD []) (K2 Q) [(6,.ptr (i6,o6)),(8,.ptr (i8,o8)),(26,.slice a26 n26 c26 e26),(27,.int .i64 x27),(28,.int .i64 x28)] h
def Ybp (Q:QT) (i8 o8 i6 o6:Nat) (h:Zaa):Prop:=At (K1 Q) (.exit 0) [(8,.ptr (i8,o8)),(6,.ptr (i6,o6))] h
theorem J4i (Q:QT) (a0:Pt) (n0 c0:Nat) (e0:Bool) (i6 o6:Nat) (h:Zaa) (ht :
 Zeu (h ++ [.cells Zbo [.int .u8 0,.slice none 0 0 true,.int .u8 0,.slice none 0 0 true,.int .u8 0,.slice none 0 0 true,.int .u8 0,.slice none 0 0 true,.int .u8 0,.slice none 0 0 true,.int .u8 0,.slice none 0 0 true,.int .u8 0,.slice none 0 0 true,.int .u8 0,.slice none 0 0 true,.int .u8 0,.slice none 0 0 true,.int .u8 0,.slice none 0 0 true,.int .u8 0,.slice none 0 0 true,.int .u8 0,.slice none 0 0 true] false]) fun A=>L6 Q i6 o6 h.length 0 a0 n0 c0 e0 (((n0:Nat):Int)) 0 A):J4 Q a0 n0 c0 e0 i6 o6 h:=
 Zbb (kp:=kp) (cast (by kernel_rfl) ht)
def L6t (Q:QT) (R6:T6) (i6 o6 i8 o8:Nat) (a26:Pt) (n26 c26:Nat) (e26:Bool) (x27 x28:Int) (h:Zaa):Prop:=
 bcase (decide ((x28:Int) < x27)) ((0≤(x28:Int)∧(x28:Int) < (n26:Nat))∧(Zay a26 fun A B=>Zcw (Zcr h (.ptr (A,B + (Int.toNat x28) * 2)) 2) fun A=>Zai A fun A B=>Zdt A fun A=>Zai B fun B C=>Zdt B fun B=>Zck C (Zeu (h ++ [.cells Zap [.str [],.str []] false]) fun C=>Zby (Zba C (.ptr (h.length,0)) [.str A,.str B]) fun A=>Zdt (Zak A (.ptr (h.length,0 + 0))) fun B=>Zrh B 0 fun B=>Zdt (Zak A (.ptr (h.length,0 + 1))) fun C=>Zae pg Zdd [.int .u8 (((B:Nat):Int))] A fun B D=>
 Zbp .i64 B fun B=>(Zak D (.ptr (h.length,0 + 1))=Zak A (.ptr (h.length,0 + 1)))∧(Zak D (.ptr (h.length,0 + 0))=Zak A (.ptr (h.length,0 + 0)))∧Zae pg Zed [.str C] D fun A C=>
 Zoj A fun A=>Zai A fun A E=>Zqn A fun A=>Zai A fun A F=>Zbp .u8 A fun A=>Zai F fun F G=>xSl F fun F H I J=>Zck G (Zai E fun E G=>Zbq E fun E=>Zck G ((Zak C (.ptr (h.length,0 + 0))=Zak D (.ptr (h.length,0 + 0)))∧(0≤(B:Int)∧(B:Int) < (12:Nat))∧(Zby (Zba C (.ptr (i8,o8 + (Int.toNat B) * 2)) [.int .u8 A,.slice F H I J]) fun A=>R6 i6 o6 i8 o8 a26 n26 c26 e26 x27 (IntKind.wrap .i64 (x28 + 1)) A)))))) (Ybp Q i8 o8 i6 o6 h)
theorem Zvm (Q:QT) (R6:T6) (i6 o6 i8 o8:Nat) (a26:Pt) (n26 c26:Nat) (e26:Bool) (x27 x28:Int) (h:Zaa) (ht:L6t Q R6 i6 o6 i8 o8 a26 n26 c26 e26 x27 x28 h):Den pg fn.ntmps (C [1,1,1,1,0,1,0,0]) [(6,.ptr (i6,o6)),(8,.ptr (i8,o8)),(26,.slice a26 n26 c26 e26),(27,.int .i64 x27),(28,.int .i64 x28)] h (K3 Q R6):=
 Zbb (kp:=kp) (cast (by kernel_rfl) ht)
theorem L6ind (Q:QT) (i6 o6 i8 o8:Nat) (a26:Pt) (n26 c26:Nat) (e26:Bool) (x27:Int) {G:Type} (J:G→Int→Zaa→Prop) (m:G→Nat)
 (hr:∀ (g:G) (x28:Int) (h:Zaa),J g x28 h→∀ (R6:T6),(∀ g' (x28:Int) (h:Zaa),m g' < m g→J g' x28 h→R6 i6 o6 i8 o8 a26 n26 c26 e26 x27 x28 h)→L6t Q R6 i6 o6 i8 o8 a26 n26 c26 e26 x27 x28 h)
 (g:G) (x28:Int) (h:Zaa) (hj:J g x28 h):L6 Q i6 o6 i8 o8 a26 n26 c26 e26 x27 x28 h:=by
 let P:=fun (K:Int→Zaa→Prop) i6' o6' i8' o8' a26' n26' c26' e26' x27' x28 h=>i6=i6'∧o6=o6'∧i8=i8'∧o8=o8'∧a26=a26'∧n26=n26'∧c26=c26'∧e26=e26'∧x27=x27'∧K x28 h
 refine Zgb.inv2 (fun g=>E6 (P (J g))) (fun g=>E6 (P fun x28 h=>∃ g',m g' < m g∧J g' x28 h)) m ?_ ?_ g ⟨rfl,rfl,rfl,rfl,rfl,rfl,rfl,rfl,rfl,hj⟩
 ·intro g env h hi
  obtain ⟨i6',o6',i8',o8',a26',n26',c26',e26',x27',x28,rfl,rfl,rfl,rfl,rfl,rfl,rfl,rfl,rfl,rfl,hj⟩:=Zjp hi
  exact Zvm Q _ i6 o6 i8 o8 a26 n26 c26 e26 x27 x28 h (hr g x28 h hj (P fun x28 h=>∃ g',m g' < m g∧J g' x28 h) fun g' x28 h hlt hj=>⟨rfl,rfl,rfl,rfl,rfl,rfl,rfl,rfl,rfl,g',hlt,hj⟩)
 ·intro g env h hi
  obtain ⟨i6',o6',i8',o8',a26',n26',c26',e26',x27',x28,rfl,rfl,rfl,rfl,rfl,rfl,rfl,rfl,rfl,rfl,g',hlt,hj⟩:=Zjp hi
  exact ⟨g',hlt,rfl,rfl,rfl,rfl,rfl,rfl,rfl,rfl,rfl,hj⟩
theorem A6x0i (Q:QT) (i8 o8 i6 o6:Nat) (h:Zaa) (ht :
 Zcw (Zcr h (.ptr (i6,o6)) 2) fun A=>Zai A fun A B=>Zbp .u8 A fun A=>Zai B fun B C=>xSl B fun B D E F=>Zck C (Zae pg Zhm [.ptr (i8,o8),.agg [.int .u8 A,.slice B D E F]] h fun A B=>
 Zqn A fun A=>Zai A fun A C=>Zbp .u8 A fun A=>Zai C fun C D=>xSl C fun C E F G=>Zck D (Zeu (B ++ [.cells Zab [.int .u8 0,.slice none 0 0 true] false]) fun D=>Zby (Zba D (.ptr (B.length,0)) [.int .u8 A,.slice C E F G]) fun A=>Zcw (Zcr A (.ptr (B.length,0)) 2) fun C=>Zai C fun C D=>Zbp .u8 C fun C=>Zai D fun D E=>xSl D fun D F G H=>Zck E (Zae pg Zem [.agg [.int .u8 C,.slice D F G H]] A fun A C=>
 Zbp .i64 A fun A=>bcase (decide ((A:Int) > 60)) (Q (.tup [.str [],.bool false]) C) (Zcw (Zcr C (.ptr (B.length,0)) 2) fun A=>Zai A fun A B=>Zbp .u8 A fun A=>Zai B fun B D=>xSl B fun B E F G=>Zck D (Zae pg Zfp [.agg [.int .u8 A,.slice B E F G]] C fun A B=>
 Zdt A fun A=>Q (.tup [.str A,.bool true]) B)))))):Ybp Q i8 o8 i6 o6 h:=
 At.mk (cast (by kernel_rfl) ht)
theorem call (a0:Pt) (n0 c0:Nat) (e0:Bool) (x1:List Nat) (h:Zaa) (Q:QT) (ht :
 Zae pg Zed [.str x1] h fun A B=>
 Zoj A fun A=>Zai A fun A C=>Zqn A fun A=>Zai A fun A D=>Zbp .u8 A fun A=>Zai D fun D E=>xSl D fun D F G H=>Zck E (Zai C fun C E=>Zbq C fun C=>Zck E (Zeu (B ++ [.cells Zab [.int .u8 0,.slice none 0 0 true] false]) fun E=>Zby (Zba E (.ptr (B.length,0)) [.int .u8 A,.slice D F G H]) fun A=>bcase (!C) (Q (.tup [.str [],.bool false]) A) (Zae pg Zez [.slice a0 n0 c0 e0] A fun A C=>
 Zbq A fun A=>bcase (!A) (Q (.tup [.str [],.bool false]) C) (J4 Q a0 n0 c0 e0 B.length 0 C))))):Zae pg Zey [.slice a0 n0 c0 e0,.str x1] h Q:=
 Zae.of_body kp (c:=cod fn) (fn:=fn) Go.Proofs.Try.func73 (by kernel_rfl) (by kernel_rfl) (Nat.le_of_ble_eq_true (by kernel_rfl))
  (cast (by kernel_rfl) ht)
end Zcp
end Go.Sim

set_option maxRecDepth 100000
set_option maxHeartbeats 0
set_option linter.unusedVariables false
namespace Go.Sim
open Go Go.RowKit
namespace Zbz
noncomputable abbrev fn:Func:=Go.Proofs.Try.f21
def kp:Zdb:=[(4000003,[0,1]),(4000007,[6]),(3000009,[9,4,5]),(1000009,[9,40])]
noncomputable def C (p:List Nat):Code:=(cod fn).sub p
def KR (Q:QT):KT:=Zii pg fn.results.toList Q
abbrev T9:=Option Nat→Nat→Zaa→Prop
def E9 (R9:T9) (env:Env) (h:Zaa):Prop:=Zcu 9 env fun v env=>Zwr v fun m9=>Zcu 40 env fun v env=>Yfr v fun r40=>Znt env (R9 m9 r40 h)
theorem Ztz {R9:T9} {env:Env} {h:Zaa} (hi:E9 R9 env h):∃ m9,∃ r40,env=[(9,.map m9),(40,.iter r40)]∧R9 m9 r40 h:=by
 unfold E9 at hi
 have hi0:=hi
 clear hi
 obtain ⟨_,_,rfl,hi1⟩:=Zam hi0
 obtain ⟨m9,rfl,hi2⟩:=Zmd hi1
 obtain ⟨_,_,rfl,hi3⟩:=Zam hi2
 obtain ⟨r40,rfl,hi4⟩:=Zyg hi3
 obtain ⟨rfl,hi5⟩:=Zbv hi4
 have hi:=hi5
 exact ⟨m9,r40,rfl,hi⟩
def K0 (Q:QT):KT:=andThen (fun env' h'=>(match kp.find 4000016 with | some ks=>Den pg fn.ntmps (C [1,1,1,1,1,1,1]) (env'.keep ks) h' (KR Q) | none=>den pg fn.ntmps kp (C [1,1,1,1,1,1,1]) env' h' (KR Q))) (KR Q)
def K1 (Q:QT):KT:=Zdn 0 (K0 Q)
def K2 (Q:QT):KT:=left kp 9 (K1 Q)
def K3 (Q:QT) (R9:T9):KT:=rnd ((kp.find 1000009).getD []) (E9 R9) (K2 Q)
def J3 (Q:QT) (x0 x1:List Nat) (h:Zaa):Prop:=Den pg fn.ntmps (C [1,1]) [(0,.str x0),(1,.str x1)] h (KR Q)
def J7 (Q:QT) (m6:Option Nat) (h:Zaa):Prop:=Den pg fn.ntmps (C [1,1,1,1,1]) [(6,.map m6)] h (KR Q)
def L9 (Q:QT) (m9:Option Nat) (r40:Nat) (h:Zaa):Prop:=Zgb (Den pg fn.ntmps (C [1,1,1,1,1,1,0,1,0,0])) ((kp.find 1000009).getD []) (K2 Q) [(9,.map m9),(40,.iter r40)] h
def A9x0 (Q:QT) (m9:Option Nat) (h:Zaa):Prop:=At (K1 Q) (.exit 0) [(9,.map m9),(4,.undef),(5,.undef)] h
theorem J3i (Q:QT) (x0 x1:List Nat) (h:Zaa) (ht :
 Zeu (h ++ [.map [] 0]) fun A=>Zae pg Zhk [.str x0,.map ((some h.length))] A fun A B=>
 Zew A fun A=>Zae pg Zhk [.str x1,.map ((some h.length))] B fun B C=>
 Zew B fun B=>Zae pg Zhs [.ptr A,.ptr B] C fun B C=>
 Zbq B fun B=>bcase (!B) (Q (.tup [.slice none 0 0 true,.bool false]) C) (Zae pg Zgj [.ptr A] C fun A B=>
 Zbq A fun A=>bcase (!A) (Q (.tup [.slice none 0 0 true,.bool false]) B) (J7 Q ((some h.length)) B))):J3 Q x0 x1 h:=
 Zbb (kp:=kp) (cast (by kernel_rfl) ht)
theorem J7i (Q:QT) (m6:Option Nat) (h:Zaa) (ht :
 Zeu (h ++ [.map [] 0]) fun A=>Zbs A m6 fun es_20 k_21=>Zeu (A ++ [.miter m6 (Yhe m6 k_21) [] (Yhe m6 k_21)]) fun B=>L9 Q ((some h.length)) A.length B):J7 Q m6 h:=
 Zbb (kp:=kp) (cast (by kernel_rfl) ht)
def L9t (Q:QT) (R9:T9) (m9:Option Nat) (r40:Nat) (h:Zaa):Prop:=
 Zkx h r40 fun m_23 A z_25 B=>Yha m_23 (A9x0 Q m9 h) (Zbs h m_23 fun es_27 k_28=>((∀ e∈es_27,e.2.2 < A)∧A≤B)∧((∀ e∈es_27,e.2.2∈z_25)→A9x0 Q m9 h)∧∀ B∈es_27,B.2.2 ∉ z_25→Zqp (some B.1) fun C=>Zqp (some B.2.1) fun C=>Zeu (List.set h r40 (.miter m_23 A (z_25 ++ [B.2.2]) k_28)) fun A=>Zkx A r40 fun m_33 B z_36 B=>xMp m_33 fun C=>Zbs A (some C) fun es_38 k_39=>((List.map (fun (e:ME)=>e.2.2) es_38).Nodup∧k_39=B)∧∃ B∈es_38,∃ z_41,z_36=z_41 ++ [B.2.2]∧Zqp (some B.1) fun C=>Zqp (some B.2.1) fun B=>Zae pg Zdh [B] A fun A D=>
 Zew A fun A=>Zew B fun E=>Zml D A E fun A=>bcase A (R9 m9 r40 D) (Zae pg Zfh [B,.fn Zmr []] D fun A B=>
 Zoj A fun A=>Zai A fun A D=>Zdt A fun A=>Zai D fun D E=>Zbq D fun D=>Zck E (bcase (!D) (Q (.tup [.slice none 0 0 true,.bool false]) B) (xMp m9 fun D=>Zdt C fun C=>Zbs B (some D) fun es_60 k_61=>Yeh es_60 k_61 C (.str A) fun es_62 k_63=>Zeu (List.set B D (.map es_62 k_63)) fun A=>R9 m9 r40 A))))
theorem Yfj (Q:QT) (R9:T9) (m9:Option Nat) (r40:Nat) (h:Zaa) (ht:L9t Q R9 m9 r40 h):Den pg fn.ntmps (C [1,1,1,1,1,1,0,1,0,0]) [(9,.map m9),(40,.iter r40)] h (K3 Q R9):=
 Zbb (kp:=kp) (cast (by kernel_rfl) ht)
theorem L9ind (Q:QT) (m9:Option Nat) (r40:Nat) {G:Type} (J:G→Zaa→Prop) (m:G→Nat)
 (hr:∀ (g:G) (h:Zaa),J g  h→∀ (R9:T9),(∀ g' (h:Zaa),m g' < m g→J g'  h→R9 m9 r40 h)→L9t Q R9 m9 r40 h)
 (g:G) (h:Zaa) (hj:J g  h):L9 Q m9 r40 h:=by
 let P:=fun (K:Zaa→Prop) m9' r40' h=>m9=m9'∧r40=r40'∧K  h
 refine Zgb.inv2 (fun g=>E9 (P (J g))) (fun g=>E9 (P fun  h=>∃ g',m g' < m g∧J g'  h)) m ?_ ?_ g ⟨rfl,rfl,hj⟩
 ·intro g env h hi
  obtain ⟨m9',r40',rfl,rfl,rfl,hj⟩:=Ztz hi
  exact Yfj Q _ m9 r40 h (hr g  h hj (P fun  h=>∃ g',m g' < m g∧J g'  h) fun g'  h hlt hj=>⟨rfl,rfl,g',hlt,hj⟩)
 ·intro g env h hi
  obtain ⟨m9',r40',rfl,rfl,rfl,g',hlt,hj⟩:=Ztz hi
  exact ⟨g',hlt,rfl,rfl,hj⟩
theorem A9x0i (Q:QT) (m9:Option Nat) (h:Zaa) (ht :
 Zae pg Zha [.map m9] h fun A B=>
 xSl A fun A C D E=>Q (.tup [.slice A C D E,.bool true]) B):A9x0 Q m9 h:=
 At.mk (cast (by kernel_rfl) ht)
theorem call (x0 x1:List Nat) (h:Zaa) (Q:QT) (ht :
 Zae pg Zdm [.str x0] h fun A B=>
 Zbq A fun A=>bcase (!A) (Q (.tup [.slice none 0 0 true,.bool false]) B) (Zae pg Zdm [.str x1] B fun A B=>
 Zbq A fun A=>bcase (!A) (Q (.tup [.slice none 0 0 true,.bool false]) B) (J3 Q x0 x1 B))):Zae pg Zgd [.str x0,.str x1] h Q:=
 Zae.of_body kp (c:=cod fn) (fn:=fn) Go.Proofs.Try.func21 (by kernel_rfl) (by kernel_rfl) (Nat.le_of_ble_eq_true (by kernel_rfl))
  (cast (by kernel_rfl) ht)
end Zbz
namespace Zmf
noncomputable abbrev fn:Func:=Go.Proofs.Try.f28
def kp:Zdb:=[]
noncomputable def C (p:List Nat):Code:=(cod fn).sub p
def KR (Q:QT):KT:=Zii pg fn.results.toList Q
theorem call (x0 x1:List Nat) (h:Zaa) (Q:QT) (ht :
 Zae pg Zgd [.str x0,.str x1] h fun A B=>
 Zoj A fun A=>Zai A fun A C=>xSl A fun A D E F=>Zai C fun C G=>Zbq C fun C=>Zck G (bcase (!C) (Q (.tup [.str [],.bool false]) B) (Zae pg Zfb [.slice A D E F,.str x0] B fun A B=>
 Zoj A fun A=>Zai A fun A C=>Zdt A fun A=>Zai C fun C D=>Zbq C fun C=>Zck D (Q (.tup [.str A,.bool C]) B)))):Zae pg Ziy [.str x0,.str x1] h Q:=
 Zae.of_body kp (c:=cod fn) (fn:=fn) Go.Proofs.Try.func28 (by kernel_rfl) (by kernel_rfl) (Nat.le_of_ble_eq_true (by kernel_rfl))
  (cast (by kernel_rfl) ht)
end Zmf
end Go.Sim

set_option maxRecDepth 100000
set_option maxHeartbeats 0
set_option linter.unusedVariables false
namespace Go.Sim
open Go Go.RowKit
namespace Zns
noncomputable abbrev fn:Func:=Go.Proofs.Try.f55
def kp:Zdb:=[]
noncomputable def C (p:List Nat):Code:=(cod fn).sub p
def KR (Q:QT):KT:=Zii pg fn.results.toList Q
theorem call (x0:List Nat) (m1:Option Nat) (h:Zaa) (Q:QT) (ht :
 Zae pg Zep [.str x0] h fun A B=>
 Zoj A fun A=>Zai A fun A C=>Zew A fun A=>Zai C fun C D=>Zdt C fun C=>Zck D (Zae pg Zev [.ptr A,.map m1] B fun A B=>
 Zew A fun A=>Q (.ptr A) B)):Zae pg Zhk [.str x0,.map m1] h Q:=
 Zae.of_body kp (c:=cod fn) (fn:=fn) Go.Proofs.Try.func55 (by kernel_rfl) (by kernel_rfl) (Nat.le_of_ble_eq_true (by kernel_rfl))
  (cast (by kernel_rfl) ht)
end Zns
end Go.Sim

set_option maxRecDepth 100000
set_option maxHeartbeats 0
set_option linter.unusedVariables false
namespace Go.Sim
open Go Go.RowKit
namespace Zcv
noncomputable abbrev fn:Func:=Go.Proofs.Try.f102
def kp:Zdb:=[(2000003,[1,0]),(4000004,[1,0]),(3000007,[5]),(1000007,[1,5,46,47,48]),(2000009,[48,47,46,5,1])]
noncomputable def C (p:List Nat):Code:=(cod fn).sub p
def KR (Q:QT):KT:=Zii pg fn.results.toList Q
abbrev T7:=Option Nat→Nat→Nat→Pt→Nat→Nat→Bool→Int→Int→Zaa→Prop
def E7 (R7:T7) (env:Env) (h:Zaa):Prop:=Zcu 1 env fun v env=>Zwr v fun m1=>Zcu 5 env fun v env=>Zew v fun a=>Zay a fun i5 o5=>Zcu 46 env fun v env=>xSl v fun a46 n46 c46 e46=>Zcu 47 env fun v env=>Zhe .i64 v fun x47=>Zcu 48 env fun v env=>Zhe .i64 v fun x48=>Znt env (R7 m1 i5 o5 a46 n46 c46 e46 x47 x48 h)
theorem Zsl {R7:T7} {env:Env} {h:Zaa} (hi:E7 R7 env h):∃ m1,∃ i5,∃ o5,∃ a46,∃ n46,∃ c46,∃ e46,∃ x47,∃ x48,env=[(1,.map m1),(5,.ptr (i5,o5)),(46,.slice a46 n46 c46 e46),(47,.int .i64 x47),(48,.int .i64 x48)]∧R7 m1 i5 o5 a46 n46 c46 e46 x47 x48 h:=by
 unfold E7 at hi
 have hi0:=hi
 clear hi
 obtain ⟨_,_,rfl,hi1⟩:=Zam hi0
 obtain ⟨m1,rfl,hi2⟩:=Zmd hi1
 obtain ⟨_,_,rfl,hi3⟩:=Zam hi2
 obtain ⟨a,rfl,hi4⟩:=Zbk hi3
 obtain ⟨i5,o5,rfl,hi5⟩:=Zbn hi4
 obtain ⟨_,_,rfl,hi6⟩:=Zam hi5
 obtain ⟨a46,n46,c46,e46,rfl,hi7⟩:=Zdu hi6
 obtain ⟨_,_,rfl,hi8⟩:=Zam hi7
 obtain ⟨x47,rfl,hi9⟩:=Zbf hi8
 obtain ⟨_,_,rfl,hi10⟩:=Zam hi9
 obtain ⟨x48,rfl,hi11⟩:=Zbf hi10
 obtain ⟨rfl,hi12⟩:=Zbv hi11
 have hi:=hi12
 exact ⟨m1,i5,o5,a46,n46,c46,e46,x47,x48,rfl,hi⟩
def K0 (Q:QT):KT:=andThen (fun env' h'=>(match kp.find 4000005 with | some ks=>Den pg fn.ntmps (C [1,1]) (env'.keep ks) h' (KR Q) | none=>den pg fn.ntmps kp (C [1,1]) env' h' (KR Q))) (KR Q)
def K1 (Q:QT):KT:=andThen (fun env' h'=>(match kp.find 4000011 with | some ks=>Den pg fn.ntmps (C [1,1,1,1]) (env'.keep ks) h' (KR Q) | none=>den pg fn.ntmps kp (C [1,1,1,1]) env' h' (KR Q))) (KR Q)
def K2 (Q:QT):KT:=Zdn 0 (K1 Q)
def K3 (Q:QT):KT:=left kp 7 (K2 Q)
def K4 (Q:QT) (R7:T7):KT:=rnd ((kp.find 1000007).getD []) (E7 R7) (K3 Q)
def J4 (Q:QT) (m1:Option Nat) (a0:Pt) (h:Zaa):Prop:=Den pg fn.ntmps (C [1,0,1,0,1]) [(1,.map m1),(0,.ptr a0)] h (K0 Q)
def L7 (Q:QT) (m1:Option Nat) (i5 o5:Nat) (a46:Pt) (n46 c46:Nat) (e46:Bool) (x47 x48:Int) (h:Zaa):Prop:=Zgb (Den pg fn.ntmps (C [1,1,1,0,1,0,0])) ((kp.find 1000007).getD []) (K3 Q) [(1,.map m1),(5,.ptr (i5,o5)),(46,.slice a46 n46 c46 e46),(47,.int .i64 x47),(48,.int .i64 x48)] h
def Yhj (Q:QT) (i5 o5:Nat) (h:Zaa):Prop:=At (K2 Q) (.exit 0) [(5,.ptr (i5,o5))] h
theorem J4i (Q:QT) (m1:Option Nat) (a0:Pt) (h:Zaa) (ht :
 Zay a0 fun A B=>Zdt (Zak h (.ptr (A,B + 0))) fun A=>Zbs h m1 fun es_39 k_40=>Zmt es_39 A fun A=>Zew (some (Option.getD A (.ptr none))) fun A=>Q (.ptr A) h):J4 Q m1 a0 h:=
 Zbb (kp:=kp) (cast (by kernel_rfl) ht)
def L7t (Q:QT) (R7:T7) (m1:Option Nat) (i5 o5:Nat) (a46:Pt) (n46 c46:Nat) (e46:Bool) (x47 x48:Int) (h:Zaa):Prop:=
 bcase (decide ((x48:Int) < x47)) ((0≤(x48:Int)∧(x48:Int) < (n46:Nat))∧(Zay a46 fun A B=>Zew (Zak h (.ptr (A,B + (Int.toNat x48) * 1))) fun A=>xSl (Zak h (.ptr (i5,o5 + 1))) fun B C D E=>Zae pg Zev [.ptr A,.map m1] h fun A F=>
 Zew A fun A=>(Zak F (.ptr (i5,o5 + 1))=Zak h (.ptr (i5,o5 + 1)))∧Zeu (F ++ [.cells Zbu [.ptr A] false]) fun A=>(Zak A (.ptr (i5,o5 + 1))=Zak F (.ptr (i5,o5 + 1)))∧Zdr pg Zhf A (.slice B C D E) (.slice (F.length,0) 1 1 true) fun A B=>xSl A fun A C D E=>Zby (Zba B (.ptr (i5,o5 + 1)) [.slice A C D E]) fun A=>R7 m1 i5 o5 a46 n46 c46 e46 x47 (IntKind.wrap .i64 (x48 + 1)) A)) (Yhj Q i5 o5 h)
theorem Yfh (Q:QT) (R7:T7) (m1:Option Nat) (i5 o5:Nat) (a46:Pt) (n46 c46:Nat) (e46:Bool) (x47 x48:Int) (h:Zaa) (ht:L7t Q R7 m1 i5 o5 a46 n46 c46 e46 x47 x48 h):Den pg fn.ntmps (C [1,1,1,0,1,0,0]) [(1,.map m1),(5,.ptr (i5,o5)),(46,.slice a46 n46 c46 e46),(47,.int .i64 x47),(48,.int .i64 x48)] h (K4 Q R7):=
 Zbb (kp:=kp) (cast (by kernel_rfl) ht)
theorem L7ind (Q:QT) (m1:Option Nat) (i5 o5:Nat) (a46:Pt) (n46 c46:Nat) (e46:Bool) (x47:Int) {G:Type} (J:G→Int→Zaa→Prop) (m:G→Nat)
 (hr:∀ (g:G) (x48:Int) (h:Zaa),J g x48 h→∀ (R7:T7),(∀ g' (x48:Int) (h:Zaa),m g' < m g→J g' x48 h→R7 m1 i5 o5 a46 n46 c46 e46 x47 x48 h)→L7t Q R7 m1 i5 o5 a46 n46 c46 e46 x47 x48 h)
 (g:G) (x48:Int) (h:Zaa) (hj:J g x48 h):L7 Q m1 i5 o5 a46 n46 c46 e46 x47 x48 h:=by
 let P:=fun (K:Int→Zaa→Prop) m1' i5' o5' a46' n46' c46' e46' x47' x48 h=>m1=m1'∧i5=i5'∧o5=o5'∧a46=a46'∧n46=n46'∧c46=c46'∧e46=e46'∧x47=x47'∧K x48 h
 refine Zgb.inv2 (fun g=>E7 (P (J g))) (fun g=>E7 (P fun x48 h=>∃ g',m g' < m g∧J g' x48 h)) m ?_ ?_ g ⟨rfl,rfl,rfl,rfl,rfl,rfl,rfl,rfl,hj⟩
 ·intro g env h hi
  obtain ⟨m1',i5',o5',a46',n46',c46',e46',x47',x48,rfl,rfl,rfl,rfl,rfl,rfl,rfl,rfl,rfl,hj⟩:=Zsl hi
  exact Yfh Q _ m1 i5 o5 a46 n46 c46 e46 x47 x48 h (hr g x48 h hj (P fun x48 h=>∃ g',m g' < m g∧J g' x48 h) fun g' x48 h hlt hj=>⟨rfl,rfl,rfl,rfl,rfl,rfl,rfl,rfl,g',hlt,hj⟩)
 ·intro g env h hi
  obtain ⟨m1',i5',o5',a46',n46',c46',e46',x47',x48,rfl,rfl,rfl,rfl,rfl,rfl,rfl,rfl,rfl,g',hlt,hj⟩:=Zsl hi
  exact ⟨g',hlt,rfl,rfl,rfl,rfl,rfl,rfl,rfl,rfl,hj⟩
theorem A7x0i (Q:QT) (i5 o5:Nat) (h:Zaa) (ht :
 Q (.ptr (i5,o5)) h):Yhj Q i5 o5 h:=
 At.mk (cast (by kernel_rfl) ht)
theorem call (a0:Pt) (m1:Option Nat) (h:Zaa) (Q:QT) (ht :
 Zay a0 fun A B=>Zdt (Zak h (.ptr (A,B + 0))) fun A=>Zae pg Zbw [.str A] h fun A B=>
 Zbq A fun A=>bcase A (Zay a0 fun A C=>Zdt (Zak B (.ptr (A,C + 0))) fun A=>Zbs B m1 fun es_9 k_10=>Zmt es_9 A fun A=>Zew (some (Option.getD A (.ptr none))) fun A=>bcase (Option.isNone A) (Zay a0 fun A C=>Zay a0 fun D E=>Zdt (Zak B (.ptr (A,C + 0))) fun F=>Zdt (Zak B (.ptr (D,E + 0))) fun D=>(Zak B (.ptr (A,C + 0))=Zak B (.ptr (A,C + 0)))∧Zeu (B ++ [.cells Zaz [.str D,.slice none 0 0 true,.ptr none] false]) fun D=>(Zak D (.ptr (A,C + 0))=Zak B (.ptr (A,C + 0)))∧xMp m1 fun A=>Zbs D (some A) fun es_21 k_22=>Yeh es_21 k_22 F (.ptr (B.length,0)) fun es_23 k_24=>Zeu (List.set D A (.map es_23 k_24)) fun A=>J4 Q m1 a0 A) (J4 Q m1 a0 B)) (Zay a0 fun A C=>Zdt (Zak B (.ptr (A,C + 0))) fun A=>Zeu (B ++ [.cells Zaz [.str A,.slice none 0 0 true,.ptr none] false]) fun A=>Zay a0 fun C D=>xSl (Zak A (.ptr (C,D + 1))) fun C D E F=>L7 Q m1 B.length 0 C D E F (((D:Nat):Int)) 0 A)):Zae pg Zev [.ptr a0,.map m1] h Q:=
 Zae.of_body kp (c:=cod fn) (fn:=fn) Go.Proofs.Try.func102 (by kernel_rfl) (by kernel_rfl) (Nat.le_of_ble_eq_true (by kernel_rfl))
  (cast (by kernel_rfl) ht)
end Zcv
end Go.Sim
