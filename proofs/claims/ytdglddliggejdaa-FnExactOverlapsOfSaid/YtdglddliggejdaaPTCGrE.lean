/- A part of the proof of a statement of this seat: see the text that holds the theorem. No condition. -/
import Derived.Test.YtdglddliggejdaaNm
set_option linter.unusedVariables false
set_option linter.unusedSimpArgs false
set_option linter.all false
set_option maxRecDepth 100000
set_option maxHeartbeats 0
set_option linter.unusedVariables false
namespace Go.Sim
open Go Go.RowKit
namespace Zst
noncomputable abbrev fn:Func:=Go.Proofs.Try.f130
def kp:Zce:=[]
noncomputable def C (p:List Nat):Code:=(cod fn).sub p
def KR (Q:QT):KT:=Zet pg fn.results.toList Q
theorem call (x0 x1 x2:Int) (h:Zaa) (Q:QT) (ht :
 bcase (decide ((x0:Int) ≥ x1)) (Q (.bool (decide ((x0:Int)≤x2))) h) (Q (.bool false) h)):Zad pg Zmu [.int .i64 x0,.int .i64 x1,.int .i64 x2] h Q:=
 Zad.of_body kp (c:=cod fn) (fn:=fn) Go.Proofs.Try.func130 (by kernel_rfl) (by kernel_rfl) (Nat.le_of_ble_eq_true (by kernel_rfl))
  (cast (by kernel_rfl) ht)
end Zst
namespace Zot
noncomputable abbrev fn:Func:=Go.Proofs.Try.f135
def kp:Zce:=[]
noncomputable def C (p:List Nat):Code:=(cod fn).sub p
def KR (Q:QT):KT:=Zet pg fn.results.toList Q
theorem call (x0:List Nat) (h:Zaa) (Q:QT) (ht :
 bcase ((((List.length x0:Nat):Int):Int) == 1) (bcase (!Zdy x0 [65]) (Q (.bool (Zdy x0 [84] || decide (x0=[84]))) h) (Q (.bool false) h)) (Q (.bool false) h)):Zad pg Zlj [.str x0] h Q:=
 Zad.of_body kp (c:=cod fn) (fn:=fn) Go.Proofs.Try.func135 (by kernel_rfl) (by kernel_rfl) (Nat.le_of_ble_eq_true (by kernel_rfl))
  (cast (by kernel_rfl) ht)
end Zot
namespace Znj
noncomputable abbrev fn:Func:=Go.Proofs.Try.f129
def kp:Zce:=[]
noncomputable def C (p:List Nat):Code:=(cod fn).sub p
def KR (Q:QT):KT:=Zet pg fn.results.toList Q
theorem call (x0:List Nat) (h:Zaa) (Q:QT) (ht :
 bcase ((((List.length x0:Nat):Int):Int) == 1) (Zjo x0 0 fun A=>Zad pg Zmu [.int .i64 (IntKind.wrap .i64 (((A:Nat):Int))),.int .i64 65,.int .i64 84] h fun A B=>
 Zbw A fun A=>Q (.bool A) B) (Q (.bool false) h)):Zad pg Zjg [.str x0] h Q:=
 Zad.of_body kp (c:=cod fn) (fn:=fn) Go.Proofs.Try.func129 (by kernel_rfl) (by kernel_rfl) (Nat.le_of_ble_eq_true (by kernel_rfl))
  (cast (by kernel_rfl) ht)
end Znj
end Go.Sim

set_option maxRecDepth 100000
set_option maxHeartbeats 0
set_option linter.unusedVariables false
namespace Go.Sim
open Go Go.RowKit
namespace Zhh
noncomputable abbrev fn:Func:=Go.Proofs.Try.f150
def kp:Zce:=[(3000002,[4]),(1000002,[0,1,5])]
noncomputable def C (p:List Nat):Code:=(cod fn).sub p
def KR (Q:QT):KT:=Zet pg fn.results.toList Q
abbrev T2:=List Nat→Int→Int→Zaa→Prop
def E2 (R2:T2) (env:Env) (h:Zaa):Prop:=Zbx 0 env fun v env=>Zcb v fun x0=>Zbx 1 env fun v env=>Zdz .u8 v fun x1=>Zbx 5 env fun v env=>Zdz .i64 v fun x5=>Ziy env (R2 x0 x1 x5 h)
theorem Zda {R2:T2} {env:Env} {h:Zaa} (hi:E2 R2 env h):∃ x0,∃ x1,∃ x5,env=[(0,.str x0),(1,.int .u8 x1),(5,.int .i64 x5)]∧R2 x0 x1 x5 h:=by
 unfold E2 at hi
 repeat ((first | (have k:=Zae hi; clear hi; obtain ⟨_,_,e,hi⟩:=k) | (have k:=Zat hi; clear hi; obtain ⟨_,e,hi⟩:=k) | (have k:=Zjd hi; clear hi; obtain ⟨_,e,hi⟩:=k)); subst e)
 obtain ⟨rfl,hi⟩:=Zbj hi
 exact ⟨_,_,_,rfl,hi⟩
def K0 (Q:QT):KT:=andThen (fun env' h'=>(match kp.find 4000006 with | some ks=>Den pg fn.ntmps (C [1,1]) (env'.keep ks) h' (KR Q) | none=>den pg fn.ntmps kp (C [1,1]) env' h' (KR Q))) (KR Q)
def K1 (Q:QT):KT:=Zcg 0 (K0 Q)
def K2 (Q:QT):KT:=left kp 2 (K1 Q)
def K3 (Q:QT) (R2:T2):KT:=rnd ((kp.find 1000002).getD []) (E2 R2) (K2 Q)
def L2 (Q:QT) (x0:List Nat) (x1 x5:Int) (h:Zaa):Prop:=Zdt (Den pg fn.ntmps (C [1,0,1,0,0])) ((kp.find 1000002).getD []) (K2 Q) [(0,.str x0),(1,.int .u8 x1),(5,.int .i64 x5)] h
def A2x0 (Q:QT) (h:Zaa):Prop:=At (K1 Q) (.exit 0) [(4,.undef)] h
def L2t (Q:QT) (R2:T2) (x0:List Nat) (x1 x5:Int) (h:Zaa):Prop:=
 bcase (decide ((x5:Int) < (((List.length x0:Nat):Int)))) (Zjo x0 x5 fun A=>bcase ((((A:Nat):Int):Int) == x1) (Q (.int .i64 x5) h) (R2 x0 x1 (IntKind.wrap .i64 (x5 + 1)) h)) (A2x0 Q h)
theorem Zhm (Q:QT) (R2:T2) (x0:List Nat) (x1 x5:Int) (h:Zaa) (ht:L2t Q R2 x0 x1 x5 h):Den pg fn.ntmps (C [1,0,1,0,0]) [(0,.str x0),(1,.int .u8 x1),(5,.int .i64 x5)] h (K3 Q R2):=
 Zax (kp:=kp) (cast (by kernel_rfl) ht)
theorem L2ind (Q:QT) (x0:List Nat) (x1:Int) {G:Type} (J:G→Int→Zaa→Prop) (m:G→Nat)
 (hr:∀ (g:G) (x5:Int) (h:Zaa),J g x5 h→∀ (R2:T2),(∀ g' (x5:Int) (h:Zaa),m g' < m g→J g' x5 h→R2 x0 x1 x5 h)→L2t Q R2 x0 x1 x5 h)
 (g:G) (x5:Int) (h:Zaa) (hj:J g x5 h):L2 Q x0 x1 x5 h:=by
 let P:=fun (K:Int→Zaa→Prop) x0' x1' x5 h=>x0=x0'∧x1=x1'∧K x5 h
 refine Zdt.inv2 (fun g=>E2 (P (J g))) (fun g=>E2 (P fun x5 h=>∃ g',m g' < m g∧J g' x5 h)) m ?_ ?_ g ⟨rfl,rfl,hj⟩
 ·intro g env h hi
  obtain ⟨x0',x1',x5,rfl,rfl,rfl,hj⟩:=Zda hi
  exact Zhm Q _ x0 x1 x5 h (hr g x5 h hj (P fun x5 h=>∃ g',m g' < m g∧J g' x5 h) fun g' x5 h hlt hj=>⟨rfl,rfl,g',hlt,hj⟩)
 ·intro g env h hi
  obtain ⟨x0',x1',x5,rfl,rfl,rfl,g',hlt,hj⟩:=Zda hi
  exact ⟨g',hlt,rfl,rfl,hj⟩
theorem A2x0i (Q:QT) (h:Zaa) (ht :
 Q (.int .i64 (-1)) h):A2x0 Q h:=
 At.mk (cast (by kernel_rfl) ht)
theorem call (x0:List Nat) (x1:Int) (h:Zaa) (Q:QT) (ht :
 L2 Q x0 x1 0 h):Zad pg Zfq [.str x0,.int .u8 x1] h Q:=
 Zad.of_body kp (c:=cod fn) (fn:=fn) Go.Proofs.Try.func150 (by kernel_rfl) (by kernel_rfl) (Nat.le_of_ble_eq_true (by kernel_rfl))
  (cast (by kernel_rfl) ht)
end Zhh
namespace Zln
noncomputable abbrev fn:Func:=Go.Proofs.Try.f140
def kp:Zce:=[(4000008,[])]
noncomputable def C (p:List Nat):Code:=(cod fn).sub p
def KR (Q:QT):KT:=Zet pg fn.results.toList Q
def J8 (Q:QT) (h:Zaa):Prop:=Den pg fn.ntmps (C [1,1]) [] h (KR Q)
theorem J8i (Q:QT) (h:Zaa) (ht :
 Q (.int .i64 0) h):J8 Q h:=
 Zax (kp:=kp) (cast (by kernel_rfl) ht)
theorem call (x0:Int) (h:Zaa) (Q:QT) (ht :
 Zad pg Zfq [.str ([105,98,117,108,109,112,120,121,122,88,89,90]),.int .u8 x0] h fun A B=>
 Zco .i64 A fun A=>bcase (decide ((A:Int) < 0)) (Q (.int .i64 (-1)) B) (bcase ((A:Int) == 3) (Q (.int .i64 1) B) (bcase ((A:Int) == 4) (Q (.int .i64 1) B) (bcase ((A:Int) == 5) (Q (.int .i64 2) B) (J8 Q B))))):Zad pg Ziz [.int .u8 x0] h Q:=
 Zad.of_body kp (c:=cod fn) (fn:=fn) Go.Proofs.Try.func140 (by kernel_rfl) (by kernel_rfl) (Nat.le_of_ble_eq_true (by kernel_rfl))
  (cast (by kernel_rfl) ht)
end Zln
namespace Zjl
noncomputable abbrev fn:Func:=Go.Proofs.Try.f139
def kp:Zce:=[(2000001,[12,0]),(2000005,[2])]
noncomputable def C (p:List Nat):Code:=(cod fn).sub p
def KR (Q:QT):KT:=Zet pg fn.results.toList Q
theorem call (a0:Pt) (h:Zaa) (Q:QT) (ht :
 Zbf a0 fun A B=>Zbf a0 fun C D=>Zco .i64 (Zaf h (.ptr (A,B + 1))) fun E=>Zcb (Zaf h (.ptr (C,D + 0))) fun C=>(Zaf h (.ptr (A,B + 1))=Zaf h (.ptr (A,B + 1)))∧bcase (decide ((E:Int) ≥ (((List.length C:Nat):Int)))) (Zbf a0 fun A B=>Zcf (Zbd h (.ptr (A,B + 2)) [.bool true]) fun A=>Q (.int .u8 0) A) (Zbf a0 fun A B=>Zco .i64 (Zaf h (.ptr (A,B + 1))) fun A=>Zbf a0 fun B C=>Zcf (Zbd h (.ptr (B,C + 1)) [.int .i64 (IntKind.wrap .i64 (A + 1))]) fun A=>Zbf a0 fun B C=>Zbf a0 fun D E=>Zcb (Zaf A (.ptr (B,C + 0))) fun F=>Zco .i64 (Zaf A (.ptr (D,E + 1))) fun D=>(Zaf A (.ptr (B,C + 0))=Zaf A (.ptr (B,C + 0)))∧Zjo F (IntKind.wrap .i64 (D - 1)) fun B=>Q (.int .u8 (((B:Nat):Int))) A)):Zad pg Zeg [.ptr a0] h Q:=
 Zad.of_body kp (c:=cod fn) (fn:=fn) Go.Proofs.Try.func139 (by kernel_rfl) (by kernel_rfl) (Nat.le_of_ble_eq_true (by kernel_rfl))
  (cast (by kernel_rfl) ht)
end Zjl
namespace Zaz
noncomputable abbrev fn:Func:=Go.Proofs.Try.f96
def kp:Zce:=[(4000004,[0,2,3,4]),(3000005,[4,0,3,2]),(1000005,[0,2,3,4,5]),(4000007,[0,5,3,4,2]),(2000007,[0,3,5,4,2]),(4000008,[0,3,5,4,2]),(2000009,[5,4,0,3,2]),(4000006,[5,4,0,3,2]),(4000012,[3,2])]
noncomputable def C (p:List Nat):Code:=(cod fn).sub p
def KR (Q:QT):KT:=Zet pg fn.results.toList Q
abbrev T5:=Pt→Nat→Nat→Nat→Nat→Int→Int→Zaa→Prop
def E5 (R5:T5) (env:Env) (h:Zaa):Prop:=Zbx 0 env fun v env=>Zfw v fun a0=>Zbx 2 env fun v env=>Zfw v fun a=>Zbf a fun i2 o2=>Zbx 3 env fun v env=>Zfw v fun a=>Zbf a fun i3 o3=>Zbx 4 env fun v env=>Zdz .i64 v fun x4=>Zbx 5 env fun v env=>Zdz .i64 v fun x5=>Ziy env (R5 a0 i2 o2 i3 o3 x4 x5 h)
theorem Zhq {R5:T5} {env:Env} {h:Zaa} (hi:E5 R5 env h):∃ a0,∃ i2,∃ o2,∃ i3,∃ o3,∃ x4,∃ x5,env=[(0,.ptr a0),(2,.ptr (i2,o2)),(3,.ptr (i3,o3)),(4,.int .i64 x4),(5,.int .i64 x5)]∧R5 a0 i2 o2 i3 o3 x4 x5 h:=by
 unfold E5 at hi
 have hi0:=hi
 clear hi
 obtain ⟨_,_,rfl,hi1⟩:=Zae hi0
 obtain ⟨a0,rfl,hi2⟩:=Zbu hi1
 obtain ⟨_,_,rfl,hi3⟩:=Zae hi2
 obtain ⟨a,rfl,hi4⟩:=Zbu hi3
 obtain ⟨i2,o2,rfl,hi5⟩:=Zbn hi4
 obtain ⟨_,_,rfl,hi6⟩:=Zae hi5
 obtain ⟨a,rfl,hi7⟩:=Zbu hi6
 obtain ⟨i3,o3,rfl,hi8⟩:=Zbn hi7
 obtain ⟨_,_,rfl,hi9⟩:=Zae hi8
 obtain ⟨x4,rfl,hi10⟩:=Zat hi9
 obtain ⟨_,_,rfl,hi11⟩:=Zae hi10
 obtain ⟨x5,rfl,hi12⟩:=Zat hi11
 obtain ⟨rfl,hi13⟩:=Zbj hi12
 have hi:=hi13
 exact ⟨a0,i2,o2,i3,o3,x4,x5,rfl,hi⟩
def K0 (Q:QT):KT:=andThen (fun env' h'=>(match kp.find 4000010 with | some ks=>Den pg fn.ntmps (C [1,1,1,1,1]) (env'.keep ks) h' (KR Q) | none=>den pg fn.ntmps kp (C [1,1,1,1,1]) env' h' (KR Q))) (KR Q)
def K1 (Q:QT):KT:=Zcg 0 (K0 Q)
def K2 (Q:QT):KT:=left kp 5 (K1 Q)
def K3 (Q:QT) (R5:T5):KT:=rnd ((kp.find 1000005).getD []) (E5 R5) (K2 Q)
def K4 (Q:QT) (R5:T5):KT:=andThen (fun env' h'=>(match kp.find 4000006 with | some ks=>Den pg fn.ntmps (C [1,1,1,1,0,1,0,0,1,1]) (env'.keep ks) h' (K3 Q R5) | none=>den pg fn.ntmps kp (C [1,1,1,1,0,1,0,0,1,1]) env' h' (K3 Q R5))) (K3 Q R5)
def K5 (Q:QT) (R5:T5):KT:=Zcg 1 (K4 Q R5)
def J4 (Q:QT) (a0:Pt) (i2 o2 i3 o3:Nat) (x4:Int) (h:Zaa):Prop:=Den pg fn.ntmps (C [1,1,1,1]) [(0,.ptr a0),(2,.ptr (i2,o2)),(3,.ptr (i3,o3)),(4,.int .i64 x4)] h (KR Q)
def L5 (Q:QT) (a0:Pt) (i2 o2 i3 o3:Nat) (x4 x5:Int) (h:Zaa):Prop:=Zdt (Den pg fn.ntmps (C [1,1,1,1,0,1,0,0])) ((kp.find 1000005).getD []) (K2 Q) [(0,.ptr a0),(2,.ptr (i2,o2)),(3,.ptr (i3,o3)),(4,.int .i64 x4),(5,.int .i64 x5)] h
def J7 (Q:QT) (R5:T5) (a0:Pt) (x5:Int) (i3 o3:Nat) (x4:Int) (i2 o2:Nat) (h:Zaa):Prop:=Den pg fn.ntmps (C [1,1,1,1,0,1,0,0,1]) [(0,.ptr a0),(5,.int .i64 x5),(3,.ptr (i3,o3)),(4,.int .i64 x4),(2,.ptr (i2,o2))] h (K3 Q R5)
def A5x0 (Q:QT) (x4:Int) (a0:Pt) (i3 o3 i2 o2:Nat) (h:Zaa):Prop:=At (K1 Q) (.exit 0) [(4,.int .i64 x4),(0,.ptr a0),(3,.ptr (i3,o3)),(2,.ptr (i2,o2))] h
def J8 (Q:QT) (R5:T5) (a0:Pt) (i3 o3:Nat) (x5 x4:Int) (i2 o2:Nat) (h:Zaa):Prop:=Den pg fn.ntmps (C [1,1,1,1,0,1,0,0,1,0,0,1]) [(0,.ptr a0),(3,.ptr (i3,o3)),(5,.int .i64 x5),(4,.int .i64 x4),(2,.ptr (i2,o2))] h (K5 Q R5)
def J12 (Q:QT) (i3 o3 i2 o2:Nat) (h:Zaa):Prop:=Den pg fn.ntmps (C [1,1,1,1,1,1]) [(3,.ptr (i3,o3)),(2,.ptr (i2,o2))] h (KR Q)
def J6 (Q:QT) (R5:T5) (x5 x4:Int) (a0:Pt) (i3 o3 i2 o2:Nat) (h:Zaa):Prop:=Den pg fn.ntmps (C [1,1,1,1,0,1,0,0,1,1]) [(5,.int .i64 x5),(4,.int .i64 x4),(0,.ptr a0),(3,.ptr (i3,o3)),(2,.ptr (i2,o2))] h (K3 Q R5)
theorem J4i (Q:QT) (a0:Pt) (i2 o2 i3 o3:Nat) (x4:Int) (h:Zaa) (ht :
 L5 Q a0 i2 o2 i3 o3 x4 0 h):J4 Q a0 i2 o2 i3 o3 x4 h:=
 Zax (kp:=kp) (cast (by kernel_rfl) ht)
def L5t (Q:QT) (R5:T5) (a0:Pt) (i2 o2 i3 o3:Nat) (x4 x5:Int) (h:Zaa):Prop:=
 bcase (decide ((x5:Int) < x4)) (Zbf a0 fun A B=>Zbw (Zaf h (.ptr (A,B + 2))) fun A=>bcase (!A) (J7 Q R5 a0 x5 i3 o3 x4 i2 o2 h) (A5x0 Q x4 a0 i3 o3 i2 o2 h)) (A5x0 Q x4 a0 i3 o3 i2 o2 h)
theorem Zqx (Q:QT) (R5:T5) (a0:Pt) (i2 o2 i3 o3:Nat) (x4 x5:Int) (h:Zaa) (ht:L5t Q R5 a0 i2 o2 i3 o3 x4 x5 h):Den pg fn.ntmps (C [1,1,1,1,0,1,0,0]) [(0,.ptr a0),(2,.ptr (i2,o2)),(3,.ptr (i3,o3)),(4,.int .i64 x4),(5,.int .i64 x5)] h (K3 Q R5):=
 Zax (kp:=kp) (cast (by kernel_rfl) ht)
theorem L5ind (Q:QT) (a0:Pt) (i2 o2 i3 o3:Nat) (x4:Int) {G:Type} (J:G→Int→Zaa→Prop) (m:G→Nat)
 (hr:∀ (g:G) (x5:Int) (h:Zaa),J g x5 h→∀ (R5:T5),(∀ g' (x5:Int) (h:Zaa),m g' < m g→J g' x5 h→R5 a0 i2 o2 i3 o3 x4 x5 h)→L5t Q R5 a0 i2 o2 i3 o3 x4 x5 h)
 (g:G) (x5:Int) (h:Zaa) (hj:J g x5 h):L5 Q a0 i2 o2 i3 o3 x4 x5 h:=by
 let P:=fun (K:Int→Zaa→Prop) a0' i2' o2' i3' o3' x4' x5 h=>a0=a0'∧i2=i2'∧o2=o2'∧i3=i3'∧o3=o3'∧x4=x4'∧K x5 h
 refine Zdt.inv2 (fun g=>E5 (P (J g))) (fun g=>E5 (P fun x5 h=>∃ g',m g' < m g∧J g' x5 h)) m ?_ ?_ g ⟨rfl,rfl,rfl,rfl,rfl,rfl,hj⟩
 ·intro g env h hi
  obtain ⟨a0',i2',o2',i3',o3',x4',x5,rfl,rfl,rfl,rfl,rfl,rfl,rfl,hj⟩:=Zhq hi
  exact Zqx Q _ a0 i2 o2 i3 o3 x4 x5 h (hr g x5 h hj (P fun x5 h=>∃ g',m g' < m g∧J g' x5 h) fun g' x5 h hlt hj=>⟨rfl,rfl,rfl,rfl,rfl,rfl,g',hlt,hj⟩)
 ·intro g env h hi
  obtain ⟨a0',i2',o2',i3',o3',x4',x5,rfl,rfl,rfl,rfl,rfl,rfl,rfl,g',hlt,hj⟩:=Zhq hi
  exact ⟨g',hlt,rfl,rfl,rfl,rfl,rfl,rfl,hj⟩
theorem J7i (Q:QT) (R5:T5) (a0:Pt) (x5:Int) (i3 o3:Nat) (x4:Int) (i2 o2:Nat) (h:Zaa) (ht :
 Zjo ([40,44]) x5 fun A=>Zad pg Zeg [.ptr a0] h fun B C=>
 Zco .u8 B fun B=>bcase (!((B:Int) == (((A:Nat):Int)))) (Zbf a0 fun A B=>Zcf (Zbd C (.ptr (A,B + 2)) [.bool true]) fun A=>J8 Q R5 a0 i3 o3 x5 x4 i2 o2 A) (Zbf a0 fun A B=>Zbw (Zaf C (.ptr (A,B + 2))) fun A=>Zbf a0 fun B D=>Zcf (Zbd C (.ptr (B,D + 2)) [.bool A]) fun A=>J8 Q R5 a0 i3 o3 x5 x4 i2 o2 A)):J7 Q R5 a0 x5 i3 o3 x4 i2 o2 h:=
 Zax (kp:=kp) (cast (by kernel_rfl) ht)
theorem A5x0i (Q:QT) (x4:Int) (a0:Pt) (i3 o3 i2 o2:Nat) (h:Zaa) (ht :
 bcase (decide ((x4:Int) > 0)) (Zbf a0 fun A B=>Zbw (Zaf h (.ptr (A,B + 2))) fun A=>bcase (!A) (Zad pg Zeg [.ptr a0] h fun A B=>
 Zco .u8 A fun A=>bcase (!((A:Int) == 41)) (Zbf a0 fun A C=>Zcf (Zbd B (.ptr (A,C + 2)) [.bool true]) fun A=>J12 Q i3 o3 i2 o2 A) (Zbf a0 fun A C=>Zbw (Zaf B (.ptr (A,C + 2))) fun A=>Zbf a0 fun C D=>Zcf (Zbd B (.ptr (C,D + 2)) [.bool A]) fun A=>J12 Q i3 o3 i2 o2 A)) (J12 Q i3 o3 i2 o2 h)) (J12 Q i3 o3 i2 o2 h)):A5x0 Q x4 a0 i3 o3 i2 o2 h:=
 At.mk (cast (by kernel_rfl) ht)
theorem J8i (Q:QT) (R5:T5) (a0:Pt) (i3 o3:Nat) (x5 x4:Int) (i2 o2:Nat) (h:Zaa) (ht :
 Zbf a0 fun A B=>Zbw (Zaf h (.ptr (A,B + 2))) fun A=>bcase (!A) (xSl (Zaf h (.ptr (i3,o3 + 1))) fun A B C D=>Zad pg Zdr [.ptr a0] h fun E F=>
 Zqp E fun E=>Zam E fun E G=>Zco .u8 E fun E=>Zam G fun G H=>xSl G fun G I J K=>Zcq H ((Zaf F (.ptr (i3,o3 + 1))=Zaf h (.ptr (i3,o3 + 1)))∧Zdn (F ++ [.cells Zab [.int .u8 E,.slice G I J K] false]) fun E=>(Zaf E (.ptr (i3,o3 + 1))=Zaf F (.ptr (i3,o3 + 1)))∧Zdv pg Zgg E (.slice A B C D) (.slice (F.length,0) 1 1 true) fun A B=>xSl A fun A C D E=>Zcf (Zbd B (.ptr (i3,o3 + 1)) [.slice A C D E]) fun A=>J6 Q R5 x5 x4 a0 i3 o3 i2 o2 A)) (J6 Q R5 x5 x4 a0 i3 o3 i2 o2 h)):J8 Q R5 a0 i3 o3 x5 x4 i2 o2 h:=
 Zax (kp:=kp) (cast (by kernel_rfl) ht)
theorem J12i (Q:QT) (i3 o3 i2 o2:Nat) (h:Zaa) (ht :
 Zcy (Zbo h (.ptr (i3,o3)) 2) fun A=>Zam A fun A B=>Zco .u8 A fun A=>Zam B fun B C=>xSl B fun B D E F=>Zcq C (Zcf (Zbd h (.ptr (i2,o2)) [.int .u8 A,.slice B D E F]) fun A=>Zcy (Zbo A (.ptr (i2,o2)) 2) fun B=>Zam B fun B C=>Zco .u8 B fun B=>Zam C fun C D=>xSl C fun C E F G=>Zcq D (Q (.agg [.int .u8 B,.slice C E F G]) A))):J12 Q i3 o3 i2 o2 h:=
 Zax (kp:=kp) (cast (by kernel_rfl) ht)
theorem J6i (Q:QT) (R5:T5) (x5 x4:Int) (a0:Pt) (i3 o3 i2 o2:Nat) (h:Zaa) (ht :
 R5 a0 i2 o2 i3 o3 x4 (IntKind.wrap .i64 (x5 + 1)) h):J6 Q R5 x5 x4 a0 i3 o3 i2 o2 h:=
 Zax (kp:=kp) (cast (by kernel_rfl) ht)
theorem call (a0:Pt) (h:Zaa) (Q:QT) (ht :
 Zdn (h ++ [.cells Zab [.int .u8 0,.slice none 0 0 true] false]) fun A=>Zad pg Zeg [.ptr a0] A fun A B=>
 Zco .u8 A fun A=>Zdn (B ++ [.cells Zab [] false]) fun C=>Zdn (C ++ [.cells Zab [.int .u8 0,.slice none 0 0 true] false]) fun D=>Zcf (Zbd D (.ptr (C.length,0)) [.int .u8 A,.slice (B.length,0) 0 0 true]) fun A=>Zco .u8 (Zaf A (.ptr (C.length,0 + 0))) fun B=>Zad pg Ziz [.int .u8 B] A fun A B=>
 Zco .i64 A fun A=>Zbf a0 fun D E=>Zbw (Zaf B (.ptr (D,E + 2))) fun D=>bcase D (Zbf a0 fun D E=>Zcf (Zbd B (.ptr (D,E + 2)) [.bool true]) fun D=>J4 Q a0 h.length 0 C.length 0 A D) (Zbf a0 fun D E=>Zcf (Zbd B (.ptr (D,E + 2)) [.bool (decide ((A:Int) < 0))]) fun B=>J4 Q a0 h.length 0 C.length 0 A B)):Zad pg Zdr [.ptr a0] h Q:=
 Zad.of_body kp (c:=cod fn) (fn:=fn) Go.Proofs.Try.func96 (by kernel_rfl) (by kernel_rfl) (Nat.le_of_ble_eq_true (by kernel_rfl))
  (cast (by kernel_rfl) ht)
end Zaz
namespace Zmz
noncomputable abbrev fn:Func:=Go.Proofs.Try.f52
def kp:Zce:=[(4000005,[5,2])]
noncomputable def C (p:List Nat):Code:=(cod fn).sub p
def KR (Q:QT):KT:=Zet pg fn.results.toList Q
def J5 (Q:QT) (i5 o5 i2 o2:Nat) (h:Zaa):Prop:=Den pg fn.ntmps (C [1,1,1,1]) [(5,.ptr (i5,o5)),(2,.ptr (i2,o2))] h (KR Q)
theorem J5i (Q:QT) (i5 o5 i2 o2:Nat) (h:Zaa) (ht :
 Zcy (Zbo h (.ptr (i5,o5)) 2) fun A=>Zam A fun A B=>Zco .u8 A fun A=>Zam B fun B C=>xSl B fun B D E F=>Zcq C (Zcf (Zbd h (.ptr (i2,o2)) [.int .u8 A,.slice B D E F]) fun A=>Zcy (Zbo A (.ptr (i2,o2)) 2) fun B=>Zam B fun B C=>Zco .u8 B fun B=>Zam C fun C D=>xSl C fun C E F G=>Zcq D (Q (.tup [.agg [.int .u8 B,.slice C E F G],.bool true]) A))):J5 Q i5 o5 i2 o2 h:=
 Zax (kp:=kp) (cast (by kernel_rfl) ht)
theorem call (x0:List Nat) (h:Zaa) (Q:QT) (ht :
 Zdn (h ++ [.cells Zab [.int .u8 0,.slice none 0 0 true] false]) fun A=>Zdn (A ++ [.cells Zct [.str x0,.int .i64 0,.bool false] false]) fun B=>Zad pg Zdr [.ptr (A.length,0)] B fun B C=>
 Zqp B fun B=>Zam B fun B D=>Zco .u8 B fun B=>Zam D fun D E=>xSl D fun D F G H=>Zcq E (Zdn (C ++ [.cells Zab [.int .u8 0,.slice none 0 0 true] false]) fun E=>Zcf (Zbd E (.ptr (C.length,0)) [.int .u8 B,.slice D F G H]) fun B=>Zbw (Zaf B (.ptr (A.length,0 + 2))) fun D=>bcase D (Zcf (Zbd B (.ptr (h.length,0)) [.int .u8 0,.slice none 0 0 true]) fun D=>Zcy (Zbo D (.ptr (h.length,0)) 2) fun E=>Zam E fun E F=>Zco .u8 E fun E=>Zam F fun F G=>xSl F fun F H I J=>Zcq G (Q (.tup [.agg [.int .u8 E,.slice F H I J],.bool false]) D)) (Zco .i64 (Zaf B (.ptr (A.length,0 + 1))) fun A=>bcase (!((A:Int) == (((List.length x0:Nat):Int)))) (Zcf (Zbd B (.ptr (h.length,0)) [.int .u8 0,.slice none 0 0 true]) fun A=>Zcy (Zbo A (.ptr (h.length,0)) 2) fun D=>Zam D fun D E=>Zco .u8 D fun D=>Zam E fun E F=>xSl E fun E G H I=>Zcq F (Q (.tup [.agg [.int .u8 D,.slice E G H I],.bool false]) A)) (bcase (decide (((((List.length x0:Nat):Int)):Int) > 60)) (Zcf (Zbd B (.ptr (h.length,0)) [.int .u8 0,.slice none 0 0 true]) fun A=>Zcy (Zbo A (.ptr (h.length,0)) 2) fun D=>Zam D fun D E=>Zco .u8 D fun D=>Zam E fun E F=>xSl E fun E G H I=>Zcq F (Q (.tup [.agg [.int .u8 D,.slice E G H I],.bool false]) A)) (J5 Q C.length 0 h.length 0 B))))):Zad pg Zhu [.str x0] h Q:=
 Zad.of_body kp (c:=cod fn) (fn:=fn) Go.Proofs.Try.func52 (by kernel_rfl) (by kernel_rfl) (Nat.le_of_ble_eq_true (by kernel_rfl))
  (cast (by kernel_rfl) ht)
end Zmz
namespace Zne
noncomputable abbrev fn:Func:=Go.Proofs.Try.f68
def kp:Zce:=[]
noncomputable def C (p:List Nat):Code:=(cod fn).sub p
def KR (Q:QT):KT:=Zet pg fn.results.toList Q
theorem call (x0:List Nat) (h:Zaa) (Q:QT) (ht :
 Zad pg Zhu [.str x0] h fun A B=>
 Zzi A fun A=>Zam A fun A C=>Zqp A fun A=>Zam A fun A D=>Zco .u8 A fun A=>Zam D fun D E=>xSl D fun D F G H=>Zcq E (Zam C fun C E=>Zbw C fun C=>Zcq E (Zdn (B ++ [.cells Zab [.int .u8 0,.slice none 0 0 true] false]) fun E=>Zcf (Zbd E (.ptr (B.length,0)) [.int .u8 A,.slice D F G H]) fun A=>Q (.bool C) A))):Zad pg Zfk [.str x0] h Q:=
 Zad.of_body kp (c:=cod fn) (fn:=fn) Go.Proofs.Try.func68 (by kernel_rfl) (by kernel_rfl) (Nat.le_of_ble_eq_true (by kernel_rfl))
  (cast (by kernel_rfl) ht)
end Zne
end Go.Sim

set_option maxRecDepth 100000
set_option maxHeartbeats 0
set_option linter.unusedVariables false
namespace Go.Sim
open Go Go.RowKit
namespace Znt
noncomputable abbrev fn:Func:=Go.Proofs.Try.f143
def kp:Zce:=[(4000009,[])]
noncomputable def C (p:List Nat):Code:=(cod fn).sub p
def KR (Q:QT):KT:=Zet pg fn.results.toList Q
def J9 (Q:QT) (h:Zaa):Prop:=Den pg fn.ntmps (C [1,1]) [] h (KR Q)
theorem J9i (Q:QT) (h:Zaa) (ht :
 Q (.int .i64 (-1)) h):J9 Q h:=
 Zax (kp:=kp) (cast (by kernel_rfl) ht)
theorem call (x0:List Nat) (h:Zaa) (Q:QT) (ht :
 bcase (!((((List.length x0:Nat):Int):Int) == 1)) (Q (.int .i64 (-1)) h) (Zad pg Zeq [.str ([105,98,117,120,121,122,88,89,90]),.str x0] h fun A B=>
 Zbw A fun A=>bcase A (Q (.int .i64 0) B) (bcase (decide (x0=[108])) (Q (.int .i64 1) B) (bcase (decide (x0=[109])) (Q (.int .i64 1) B) (bcase (decide (x0=[112])) (Q (.int .i64 2) B) (J9 Q B)))))):Zad pg Zkt [.str x0] h Q:=
 Zad.of_body kp (c:=cod fn) (fn:=fn) Go.Proofs.Try.func143 (by kernel_rfl) (by kernel_rfl) (Nat.le_of_ble_eq_true (by kernel_rfl))
  (cast (by kernel_rfl) ht)
end Znt
namespace Zdq
noncomputable abbrev fn:Func:=Go.Proofs.Try.f101
def kp:Zce:=[(4000003,[0]),(3000006,[4,0,2,3]),(1000006,[0,4,27,28]),(4000020,[4,0])]
noncomputable def C (p:List Nat):Code:=(cod fn).sub p
def KR (Q:QT):KT:=Zet pg fn.results.toList Q
abbrev T6:=List Nat→Nat→Nat→Int→Int→Zaa→Prop
def E6 (R6:T6) (env:Env) (h:Zaa):Prop:=Zbx 0 env fun v env=>Zcb v fun x0=>Zbx 4 env fun v env=>Zfw v fun a=>Zbf a fun i4 o4=>Zbx 27 env fun v env=>Zdz .i64 v fun x27=>Zbx 28 env fun v env=>Zdz .i64 v fun x28=>Ziy env (R6 x0 i4 o4 x27 x28 h)
theorem Znp {R6:T6} {env:Env} {h:Zaa} (hi:E6 R6 env h):∃ x0,∃ i4,∃ o4,∃ x27,∃ x28,env=[(0,.str x0),(4,.ptr (i4,o4)),(27,.int .i64 x27),(28,.int .i64 x28)]∧R6 x0 i4 o4 x27 x28 h:=by
 unfold E6 at hi
 have hi0:=hi
 clear hi
 obtain ⟨_,_,rfl,hi1⟩:=Zae hi0
 obtain ⟨x0,rfl,hi2⟩:=Zjd hi1
 obtain ⟨_,_,rfl,hi3⟩:=Zae hi2
 obtain ⟨a,rfl,hi4⟩:=Zbu hi3
 obtain ⟨i4,o4,rfl,hi5⟩:=Zbn hi4
 obtain ⟨_,_,rfl,hi6⟩:=Zae hi5
 obtain ⟨x27,rfl,hi7⟩:=Zat hi6
 obtain ⟨_,_,rfl,hi8⟩:=Zae hi7
 obtain ⟨x28,rfl,hi9⟩:=Zat hi8
 obtain ⟨rfl,hi10⟩:=Zbj hi9
 have hi:=hi10
 exact ⟨x0,i4,o4,x27,x28,rfl,hi⟩
def K0 (Q:QT):KT:=andThen (fun env' h'=>(match kp.find 4000016 with | some ks=>Den pg fn.ntmps (C [1,1,1,1,1]) (env'.keep ks) h' (KR Q) | none=>den pg fn.ntmps kp (C [1,1,1,1,1]) env' h' (KR Q))) (KR Q)
def K1 (Q:QT):KT:=Zcg 0 (K0 Q)
def K2 (Q:QT):KT:=left kp 6 (K1 Q)
def K3 (Q:QT) (R6:T6):KT:=rnd ((kp.find 1000006).getD []) (E6 R6) (K2 Q)
def J3 (Q:QT) (x0:List Nat) (h:Zaa):Prop:=Den pg fn.ntmps (C [1,1]) [(0,.str x0)] h (KR Q)
def L6 (Q:QT) (x0:List Nat) (i4 o4:Nat) (x27 x28:Int) (h:Zaa):Prop:=Zdt (Den pg fn.ntmps (C [1,1,1,1,0,1,0,0])) ((kp.find 1000006).getD []) (K2 Q) [(0,.str x0),(4,.ptr (i4,o4)),(27,.int .i64 x27),(28,.int .i64 x28)] h
def Ykc (Q:QT) (i4 o4:Nat) (x0:List Nat) (h:Zaa):Prop:=At (K1 Q) (.exit 0) [(4,.ptr (i4,o4)),(0,.str x0),(2,.undef),(3,.undef)] h
def J20 (Q:QT) (i4 o4:Nat) (x0:List Nat) (h:Zaa):Prop:=Den pg fn.ntmps (C [1,1,1,1,1,1]) [(4,.ptr (i4,o4)),(0,.str x0)] h (KR Q)
theorem J3i (Q:QT) (x0:List Nat) (h:Zaa) (ht :
 (0≤(0:Int)∧(0:Int)≤1∧(1:Int)≤(List.length x0:Nat))∧(Zdn (h ++ [.cells Zbs [.str (sub x0 0 1),.slice none 0 0 true,.ptr none] false]) fun A=>(0≤(1:Int)∧(1:Int)≤(List.length x0:Int)∧((List.length x0:Int):Int)≤(List.length x0:Nat))∧(Zcb (Zaf A (.ptr (h.length,0 + 0))) fun B=>Zad pg Zkt [.str B] A fun A B=>
 Zco .i64 A fun A=>L6 Q (sub x0 1 ((List.length x0:Int))) h.length 0 A 0 B))):J3 Q x0 h:=
 Zax (kp:=kp) (cast (by kernel_rfl) ht)
def L6t (Q:QT) (R6:T6) (x0:List Nat) (i4 o4:Nat) (x27 x28:Int) (h:Zaa):Prop:=
 bcase (decide ((x28:Int) < x27)) ((0≤(x28:Int)∧(x28:Int)≤IntKind.wrap .i64 (x28 + 1)∧(IntKind.wrap .i64 (x28 + 1):Int)≤(List.length ([40,44]):Nat))∧(Zad pg Zhn [.str x0,.str (sub ([40,44]) x28 (IntKind.wrap .i64 (x28 + 1)))] h fun A B=>
 Zbw A fun A=>bcase (!A) (Q (.tup [.ptr none,.str x0]) B) ((0≤(1:Int)∧(1:Int)≤(List.length x0:Int)∧((List.length x0:Int):Int)≤(List.length x0:Nat))∧(Zad pg Zgj [.str (sub x0 1 ((List.length x0:Int)))] B fun A B=>
 Zzi A fun A=>Zam A fun A C=>Zfw A fun A=>Zam C fun C D=>Zcb C fun C=>Zcq D (bcase (Option.isNone A) (Q (.tup [.ptr none,.str x0]) B) (xSl (Zaf B (.ptr (i4,o4 + 1))) fun D E F G=>Zdn (B ++ [.cells Zcx [.ptr A] false]) fun A=>Zdv pg Zkj A (.slice D E F G) (.slice (B.length,0) 1 1 true) fun A B=>xSl A fun A D E F=>Zcf (Zbd B (.ptr (i4,o4 + 1)) [.slice A D E F]) fun A=>R6 C i4 o4 x27 (IntKind.wrap .i64 (x28 + 1)) A)))))) (Ykc Q i4 o4 x0 h)
theorem Ybg (Q:QT) (R6:T6) (x0:List Nat) (i4 o4:Nat) (x27 x28:Int) (h:Zaa) (ht:L6t Q R6 x0 i4 o4 x27 x28 h):Den pg fn.ntmps (C [1,1,1,1,0,1,0,0]) [(0,.str x0),(4,.ptr (i4,o4)),(27,.int .i64 x27),(28,.int .i64 x28)] h (K3 Q R6):=
 Zax (kp:=kp) (cast (by kernel_rfl) ht)
theorem L6ind (Q:QT) (i4 o4:Nat) (x27:Int) {G:Type} (J:G→List Nat→Int→Zaa→Prop) (m:G→Nat)
 (hr:∀ (g:G) (x0:List Nat) (x28:Int) (h:Zaa),J g x0 x28 h→∀ (R6:T6),(∀ g' (x0:List Nat) (x28:Int) (h:Zaa),m g' < m g→J g' x0 x28 h→R6 x0 i4 o4 x27 x28 h)→L6t Q R6 x0 i4 o4 x27 x28 h)
 (g:G) (x0:List Nat) (x28:Int) (h:Zaa) (hj:J g x0 x28 h):L6 Q x0 i4 o4 x27 x28 h:=by
 let P:=fun (K:List Nat→Int→Zaa→Prop) x0 i4' o4' x27' x28 h=>i4=i4'∧o4=o4'∧x27=x27'∧K x0 x28 h
 refine Zdt.inv2 (fun g=>E6 (P (J g))) (fun g=>E6 (P fun x0 x28 h=>∃ g',m g' < m g∧J g' x0 x28 h)) m ?_ ?_ g ⟨rfl,rfl,rfl,hj⟩
 ·intro g env h hi
  obtain ⟨x0,i4',o4',x27',x28,rfl,rfl,rfl,rfl,hj⟩:=Znp hi
  exact Ybg Q _ x0 i4 o4 x27 x28 h (hr g x0 x28 h hj (P fun x0 x28 h=>∃ g',m g' < m g∧J g' x0 x28 h) fun g' x0 x28 h hlt hj=>⟨rfl,rfl,rfl,g',hlt,hj⟩)
 ·intro g env h hi
  obtain ⟨x0,i4',o4',x27',x28,rfl,rfl,rfl,rfl,g',hlt,hj⟩:=Znp hi
  exact ⟨g',hlt,rfl,rfl,rfl,hj⟩
theorem A6x0i (Q:QT) (i4 o4:Nat) (x0:List Nat) (h:Zaa) (ht :
 xSl (Zaf h (.ptr (i4,o4 + 1))) fun A A B B=>bcase (decide (((((A:Nat):Int)):Int) > 0)) (Zad pg Zhn [.str x0,.str [41]] h fun A B=>
 Zbw A fun A=>bcase (!A) (Q (.tup [.ptr none,.str x0]) B) ((0≤(1:Int)∧(1:Int)≤(List.length x0:Int)∧((List.length x0:Int):Int)≤(List.length x0:Nat))∧(J20 Q i4 o4 (sub x0 1 ((List.length x0:Int))) B))) (J20 Q i4 o4 x0 h)):Ykc Q i4 o4 x0 h:=
 At.mk (cast (by kernel_rfl) ht)
theorem J20i (Q:QT) (i4 o4:Nat) (x0:List Nat) (h:Zaa) (ht :
 Q (.tup [.ptr (i4,o4),.str x0]) h):J20 Q i4 o4 x0 h:=
 Zax (kp:=kp) (cast (by kernel_rfl) ht)
theorem call (x0:List Nat) (h:Zaa) (Q:QT) (ht :
 bcase (decide (x0=[])) (Q (.tup [.ptr none,.str x0]) h) ((0≤(0:Int)∧(0:Int)≤1∧(1:Int)≤(List.length x0:Nat))∧(Zad pg Zkt [.str (sub x0 0 1)] h fun A B=>
 Zco .i64 A fun A=>bcase (decide ((A:Int) < 0)) (Q (.tup [.ptr none,.str x0]) B) (J3 Q x0 B)))):Zad pg Zgj [.str x0] h Q:=
 Zad.of_body kp (c:=cod fn) (fn:=fn) Go.Proofs.Try.func101 (by kernel_rfl) (by kernel_rfl) (Nat.le_of_ble_eq_true (by kernel_rfl))
  (cast (by kernel_rfl) ht)
end Zdq
namespace Zpt
noncomputable abbrev fn:Func:=Go.Proofs.Try.f78
def kp:Zce:=[]
noncomputable def C (p:List Nat):Code:=(cod fn).sub p
def KR (Q:QT):KT:=Zet pg fn.results.toList Q
theorem call (x0:List Nat) (h:Zaa) (Q:QT) (ht :
 bcase (decide (((((List.length x0:Nat):Int)):Int) > 60)) (Q (.ptr none) h) (Zad pg Zgj [.str x0] h fun A B=>
 Zzi A fun A=>Zam A fun A C=>Zfw A fun A=>Zam C fun C D=>Zcb C fun C=>Zcq D (bcase (!(decide (C=[]))) (Q (.ptr none) B) (Q (.ptr A) B)))):Zad pg Zmk [.str x0] h Q:=
 Zad.of_body kp (c:=cod fn) (fn:=fn) Go.Proofs.Try.func78 (by kernel_rfl) (by kernel_rfl) (Nat.le_of_ble_eq_true (by kernel_rfl))
  (cast (by kernel_rfl) ht)
end Zpt
namespace Znc
noncomputable abbrev fn:Func:=Go.Proofs.Try.f32
def kp:Zce:=[]
noncomputable def C (p:List Nat):Code:=(cod fn).sub p
def KR (Q:QT):KT:=Zet pg fn.results.toList Q
theorem call (x0:List Nat) (h:Zaa) (Q:QT) (ht :
 Zad pg Zmk [.str x0] h fun A B=>
 Zfw A fun A=>Q (.bool (!(Option.isNone A))) B):Zad pg Zem [.str x0] h Q:=
 Zad.of_body kp (c:=cod fn) (fn:=fn) Go.Proofs.Try.func32 (by kernel_rfl) (by kernel_rfl) (Nat.le_of_ble_eq_true (by kernel_rfl))
  (cast (by kernel_rfl) ht)
end Znc
end Go.Sim

set_option maxRecDepth 100000
set_option maxHeartbeats 0
set_option linter.unusedVariables false
namespace Go.Sim
open Go Go.RowKit
namespace Zia
noncomputable abbrev fn:Func:=Go.Proofs.Try.f47
def kp:Zce:=[(3000004,[4]),(1000004,[0,1,5]),(2000006,[25,5,0,1])]
noncomputable def C (p:List Nat):Code:=(cod fn).sub p
def KR (Q:QT):KT:=Zet pg fn.results.toList Q
abbrev T4:=Pt→Nat→Nat→Bool→Pt→Nat→Nat→Bool→Int→Zaa→Prop
def E4 (R4:T4) (env:Env) (h:Zaa):Prop:=Zbx 0 env fun v env=>xSl v fun a0 n0 c0 e0=>Zbx 1 env fun v env=>xSl v fun a1 n1 c1 e1=>Zbx 5 env fun v env=>Zdz .i64 v fun x5=>Ziy env (R4 a0 n0 c0 e0 a1 n1 c1 e1 x5 h)
theorem Zfc {R4:T4} {env:Env} {h:Zaa} (hi:E4 R4 env h):∃ a0,∃ n0,∃ c0,∃ e0,∃ a1,∃ n1,∃ c1,∃ e1,∃ x5,env=[(0,.slice a0 n0 c0 e0),(1,.slice a1 n1 c1 e1),(5,.int .i64 x5)]∧R4 a0 n0 c0 e0 a1 n1 c1 e1 x5 h:=by
 unfold E4 at hi
 repeat ((first | (have k:=Zae hi; clear hi; obtain ⟨_,_,e,hi⟩:=k) | (have k:=Zbt hi; clear hi; obtain ⟨_,_,_,_,e,hi⟩:=k) | (have k:=Zat hi; clear hi; obtain ⟨_,e,hi⟩:=k)); subst e)
 obtain ⟨rfl,hi⟩:=Zbj hi
 exact ⟨_,_,_,_,_,_,_,_,_,rfl,hi⟩
def K0 (Q:QT):KT:=andThen (fun env' h'=>(match kp.find 4000008 with | some ks=>Den pg fn.ntmps (C [1,1,1]) (env'.keep ks) h' (KR Q) | none=>den pg fn.ntmps kp (C [1,1,1]) env' h' (KR Q))) (KR Q)
def K1 (Q:QT):KT:=Zcg 0 (K0 Q)
def K2 (Q:QT):KT:=left kp 4 (K1 Q)
def K3 (Q:QT) (R4:T4):KT:=rnd ((kp.find 1000004).getD []) (E4 R4) (K2 Q)
def L4 (Q:QT) (a0:Pt) (n0 c0:Nat) (e0:Bool) (a1:Pt) (n1 c1:Nat) (e1:Bool) (x5:Int) (h:Zaa):Prop:=Zdt (Den pg fn.ntmps (C [1,1,0,1,0,0])) ((kp.find 1000004).getD []) (K2 Q) [(0,.slice a0 n0 c0 e0),(1,.slice a1 n1 c1 e1),(5,.int .i64 x5)] h
def Zrs (Q:QT) (h:Zaa):Prop:=At (K1 Q) (.exit 0) [(4,.undef)] h
def L4t (Q:QT) (R4:T4) (a0:Pt) (n0 c0:Nat) (e0:Bool) (a1:Pt) (n1 c1:Nat) (e1:Bool) (x5:Int) (h:Zaa):Prop:=
 bcase (decide ((x5:Int) < (((n0:Nat):Int)))) ((0≤(x5:Int)∧(x5:Int) < (n0:Nat))∧(Zbf a0 fun A B=>(0≤(x5:Int)∧(x5:Int) < (n1:Nat))∧(Zbf a1 fun C D=>Zco .i64 (Zaf h (.ptr (A,B + (Int.toNat x5) * 1))) fun E=>Zco .i64 (Zaf h (.ptr (C,D + (Int.toNat x5) * 1))) fun C=>(Zaf h (.ptr (A,B + (Int.toNat x5) * 1))=Zaf h (.ptr (A,B + (Int.toNat x5) * 1)))∧bcase (!((E:Int) == C)) (Q (.bool false) h) (R4 a0 n0 c0 e0 a1 n1 c1 e1 (IntKind.wrap .i64 (x5 + 1)) h)))) (Zrs Q h)
theorem Zny (Q:QT) (R4:T4) (a0:Pt) (n0 c0:Nat) (e0:Bool) (a1:Pt) (n1 c1:Nat) (e1:Bool) (x5:Int) (h:Zaa) (ht:L4t Q R4 a0 n0 c0 e0 a1 n1 c1 e1 x5 h):Den pg fn.ntmps (C [1,1,0,1,0,0]) [(0,.slice a0 n0 c0 e0),(1,.slice a1 n1 c1 e1),(5,.int .i64 x5)] h (K3 Q R4):=
 Zax (kp:=kp) (cast (by kernel_rfl) ht)
theorem L4ind (Q:QT) (a0:Pt) (n0 c0:Nat) (e0:Bool) (a1:Pt) (n1 c1:Nat) (e1:Bool) {G:Type} (J:G→Int→Zaa→Prop) (m:G→Nat)
 (hr:∀ (g:G) (x5:Int) (h:Zaa),J g x5 h→∀ (R4:T4),(∀ g' (x5:Int) (h:Zaa),m g' < m g→J g' x5 h→R4 a0 n0 c0 e0 a1 n1 c1 e1 x5 h)→L4t Q R4 a0 n0 c0 e0 a1 n1 c1 e1 x5 h)
 (g:G) (x5:Int) (h:Zaa) (hj:J g x5 h):L4 Q a0 n0 c0 e0 a1 n1 c1 e1 x5 h:=by
 let P:=fun (K:Int→Zaa→Prop) a0' n0' c0' e0' a1' n1' c1' e1' x5 h=>a0=a0'∧n0=n0'∧c0=c0'∧e0=e0'∧a1=a1'∧n1=n1'∧c1=c1'∧e1=e1'∧K x5 h
 refine Zdt.inv2 (fun g=>E4 (P (J g))) (fun g=>E4 (P fun x5 h=>∃ g',m g' < m g∧J g' x5 h)) m ?_ ?_ g ⟨rfl,rfl,rfl,rfl,rfl,rfl,rfl,rfl,hj⟩
 ·intro g env h hi
  obtain ⟨a0',n0',c0',e0',a1',n1',c1',e1',x5,rfl,rfl,rfl,rfl,rfl,rfl,rfl,rfl,rfl,hj⟩:=Zfc hi
  exact Zny Q _ a0 n0 c0 e0 a1 n1 c1 e1 x5 h (hr g x5 h hj (P fun x5 h=>∃ g',m g' < m g∧J g' x5 h) fun g' x5 h hlt hj=>⟨rfl,rfl,rfl,rfl,rfl,rfl,rfl,rfl,g',hlt,hj⟩)
 ·intro g env h hi
  obtain ⟨a0',n0',c0',e0',a1',n1',c1',e1',x5,rfl,rfl,rfl,rfl,rfl,rfl,rfl,rfl,rfl,g',hlt,hj⟩:=Zfc hi
  exact ⟨g',hlt,rfl,rfl,rfl,rfl,rfl,rfl,rfl,rfl,hj⟩
theorem A4x0i (Q:QT) (h:Zaa) (ht :
 Q (.bool true) h):Zrs Q h:=
 At.mk (cast (by kernel_rfl) ht)
theorem call (a0:Pt) (n0 c0:Nat) (e0:Bool) (a1:Pt) (n1 c1:Nat) (e1:Bool) (h:Zaa) (Q:QT) (ht :
 bcase (!((((n0:Nat):Int):Int) == (((n1:Nat):Int)))) (Q (.bool false) h) (L4 Q a0 n0 c0 e0 a1 n1 c1 e1 0 h)):Zad pg Zmy [.slice a0 n0 c0 e0,.slice a1 n1 c1 e1] h Q:=
 Zad.of_body kp (c:=cod fn) (fn:=fn) Go.Proofs.Try.func47 (by kernel_rfl) (by kernel_rfl) (Nat.le_of_ble_eq_true (by kernel_rfl))
  (cast (by kernel_rfl) ht)
end Zia
end Go.Sim

set_option maxRecDepth 100000
set_option maxHeartbeats 0
set_option linter.unusedVariables false
namespace Go.Sim
open Go Go.RowKit
namespace Zfy
noncomputable abbrev fn:Func:=Go.Proofs.Try.f63
def kp:Zce:=[(3000004,[3]),(1000004,[0,3])]
noncomputable def C (p:List Nat):Code:=(cod fn).sub p
def KR (Q:QT):KT:=Zet pg fn.results.toList Q
abbrev T4:=Int→List Nat→Zaa→Prop
def E4 (R4:T4) (env:Env) (h:Zaa):Prop:=Zbx 0 env fun v env=>Zdz .i64 v fun x0=>Zbx 3 env fun v env=>Zcb v fun x3=>Ziy env (R4 x0 x3 h)
theorem Zfc {R4:T4} {env:Env} {h:Zaa} (hi:E4 R4 env h):∃ x0,∃ x3,env=[(0,.int .i64 x0),(3,.str x3)]∧R4 x0 x3 h:=by
 unfold E4 at hi
 repeat ((first | (have k:=Zae hi; clear hi; obtain ⟨_,_,e,hi⟩:=k) | (have k:=Zat hi; clear hi; obtain ⟨_,e,hi⟩:=k) | (have k:=Zjd hi; clear hi; obtain ⟨_,e,hi⟩:=k)); subst e)
 obtain ⟨rfl,hi⟩:=Zbj hi
 exact ⟨_,_,rfl,hi⟩
def K0 (Q:QT):KT:=andThen (fun env' h'=>(match kp.find 4000007 with | some ks=>Den pg fn.ntmps (C [1,1,1,1]) (env'.keep ks) h' (KR Q) | none=>den pg fn.ntmps kp (C [1,1,1,1]) env' h' (KR Q))) (KR Q)
def K1 (Q:QT):KT:=Zcg 0 (K0 Q)
def K2 (Q:QT):KT:=left kp 4 (K1 Q)
def K3 (Q:QT) (R4:T4):KT:=rnd ((kp.find 1000004).getD []) (E4 R4) (K2 Q)
def L4 (Q:QT) (x0:Int) (x3:List Nat) (h:Zaa):Prop:=Zdt (Den pg fn.ntmps (C [1,1,1,0,0,0])) ((kp.find 1000004).getD []) (K2 Q) [(0,.int .i64 x0),(3,.str x3)] h
def Zrs (Q:QT) (x3:List Nat) (h:Zaa):Prop:=At (K1 Q) (.exit 0) [(3,.str x3)] h
def L4t (Q:QT) (R4:T4) (x0:Int) (x3:List Nat) (h:Zaa):Prop:=
 bcase (decide ((x0:Int) > 0)) ((10:Int)≠0∧(Zdn (h ++ [.cells Ylk [.int .u8 (IntKind.wrap .u8 (IntKind.wrap .i64 (48 + (Int.tmod x0 10))))] false]) fun A=>Zcy (rowOf A (h.length,0) 1) fun B=>Znw B fun B=>List.length B + List.length x3≤9223372036854775807∧((10:Int)≠0∧(R4 (IntKind.wrap .i64 (Int.tdiv x0 10)) (B ++ x3) A)))) (Zrs Q x3 h)
theorem Zny (Q:QT) (R4:T4) (x0:Int) (x3:List Nat) (h:Zaa) (ht:L4t Q R4 x0 x3 h):Den pg fn.ntmps (C [1,1,1,0,0,0]) [(0,.int .i64 x0),(3,.str x3)] h (K3 Q R4):=
 Zax (kp:=kp) (cast (by kernel_rfl) ht)
theorem L4ind (Q:QT) {G:Type} (J:G→Int→List Nat→Zaa→Prop) (m:G→Nat)
 (hr:∀ (g:G) (x0:Int) (x3:List Nat) (h:Zaa),J g x0 x3 h→∀ (R4:T4),(∀ g' (x0:Int) (x3:List Nat) (h:Zaa),m g' < m g→J g' x0 x3 h→R4 x0 x3 h)→L4t Q R4 x0 x3 h)
 (g:G) (x0:Int) (x3:List Nat) (h:Zaa) (hj:J g x0 x3 h):L4 Q x0 x3 h:=by
 let P:=fun (K:Int→List Nat→Zaa→Prop) x0 x3 h=>K x0 x3 h
 refine Zdt.inv2 (fun g=>E4 (P (J g))) (fun g=>E4 (P fun x0 x3 h=>∃ g',m g' < m g∧J g' x0 x3 h)) m ?_ ?_ g hj
 ·intro g env h hi
  obtain ⟨x0,x3,rfl,hj⟩:=Zfc hi
  exact Zny Q _ x0 x3 h (hr g x0 x3 h hj (P fun x0 x3 h=>∃ g',m g' < m g∧J g' x0 x3 h) fun g' x0 x3 h hlt hj=>⟨g',hlt,hj⟩)
 ·intro g env h hi
  obtain ⟨x0,x3,rfl,g',hlt,hj⟩:=Zfc hi
  exact ⟨g',hlt,hj⟩
theorem A4x0i (Q:QT) (x3:List Nat) (h:Zaa) (ht :
 List.length [109] + List.length x3≤9223372036854775807∧(Q (.str ([109] ++ x3)) h)):Zrs Q x3 h:=
 At.mk (cast (by kernel_rfl) ht)
theorem call (x0:Int) (h:Zaa) (Q:QT) (ht :
 bcase (decide ((x0:Int)≤0)) (Q (.str ([109,48])) h) (L4 Q x0 [] h)):Zad pg Zee [.int .i64 x0] h Q:=
 Zad.of_body kp (c:=cod fn) (fn:=fn) Go.Proofs.Try.func63 (by kernel_rfl) (by kernel_rfl) (Nat.le_of_ble_eq_true (by kernel_rfl))
  (cast (by kernel_rfl) ht)
end Zfy
end Go.Sim

set_option maxRecDepth 100000
set_option maxHeartbeats 0
set_option linter.unusedVariables false
namespace Go.Sim
open Go Go.RowKit
namespace Zgv
noncomputable abbrev fn:Func:=Go.Proofs.Try.f132
def kp:Zce:=[(3000003,[3]),(1000003,[0,3,4])]
noncomputable def C (p:List Nat):Code:=(cod fn).sub p
def KR (Q:QT):KT:=Zet pg fn.results.toList Q
abbrev T3:=Pt→Nat→Nat→Bool→Pt→Nat→Nat→Bool→Int→Zaa→Prop
def E3 (R3:T3) (env:Env) (h:Zaa):Prop:=Zbx 0 env fun v env=>xSl v fun a0 n0 c0 e0=>Zbx 3 env fun v env=>xSl v fun a3 n3 c3 e3=>Zbx 4 env fun v env=>Zdz .i64 v fun x4=>Ziy env (R3 a0 n0 c0 e0 a3 n3 c3 e3 x4 h)
theorem Zhp {R3:T3} {env:Env} {h:Zaa} (hi:E3 R3 env h):∃ a0,∃ n0,∃ c0,∃ e0,∃ a3,∃ n3,∃ c3,∃ e3,∃ x4,env=[(0,.slice a0 n0 c0 e0),(3,.slice a3 n3 c3 e3),(4,.int .i64 x4)]∧R3 a0 n0 c0 e0 a3 n3 c3 e3 x4 h:=by
 unfold E3 at hi
 repeat ((first | (have k:=Zae hi; clear hi; obtain ⟨_,_,e,hi⟩:=k) | (have k:=Zbt hi; clear hi; obtain ⟨_,_,_,_,e,hi⟩:=k) | (have k:=Zat hi; clear hi; obtain ⟨_,e,hi⟩:=k)); subst e)
 obtain ⟨rfl,hi⟩:=Zbj hi
 exact ⟨_,_,_,_,_,_,_,_,_,rfl,hi⟩
def K0 (Q:QT):KT:=andThen (fun env' h'=>(match kp.find 4000006 with | some ks=>Den pg fn.ntmps (C [1,1,1]) (env'.keep ks) h' (KR Q) | none=>den pg fn.ntmps kp (C [1,1,1]) env' h' (KR Q))) (KR Q)
def K1 (Q:QT):KT:=Zcg 0 (K0 Q)
def K2 (Q:QT):KT:=left kp 3 (K1 Q)
def K3 (Q:QT) (R3:T3):KT:=rnd ((kp.find 1000003).getD []) (E3 R3) (K2 Q)
def L3 (Q:QT) (a0:Pt) (n0 c0:Nat) (e0:Bool) (a3:Pt) (n3 c3:Nat) (e3:Bool) (x4:Int) (h:Zaa):Prop:=Zdt (Den pg fn.ntmps (C [1,1,0,1,0,0])) ((kp.find 1000003).getD []) (K2 Q) [(0,.slice a0 n0 c0 e0),(3,.slice a3 n3 c3 e3),(4,.int .i64 x4)] h
def Zux (Q:QT) (a3:Pt) (n3 c3:Nat) (e3:Bool) (h:Zaa):Prop:=At (K1 Q) (.exit 0) [(3,.slice a3 n3 c3 e3)] h
def L3t (Q:QT) (R3:T3) (a0:Pt) (n0 c0:Nat) (e0:Bool) (a3:Pt) (n3 c3:Nat) (e3:Bool) (x4:Int) (h:Zaa):Prop:=
 bcase (decide ((x4:Int) < (((n0:Nat):Int)))) ((0≤(x4:Int)∧(x4:Int) < (n0:Nat))∧(Zbf a0 fun A B=>Zcy (Zbo h (.ptr (A,B + (Int.toNat x4) * 2)) 2) fun A=>Zam A fun A B=>Zcb A fun A=>Zam B fun B C=>Zcb B fun B=>Zcq C (Zad pg Zjr [.agg [.str A,.str B]] h fun A B=>
 Zqp A fun A=>Zam A fun A C=>Zcb A fun A=>Zam C fun C D=>Zcb C fun C=>Zcq D ((0≤(x4:Int)∧(x4:Int) < (n3:Nat))∧(Zbf a3 fun D E=>Zcf (Zbd B (.ptr (D,E + (Int.toNat x4) * 2)) [.str A,.str C]) fun A=>R3 a0 n0 c0 e0 a3 n3 c3 e3 (IntKind.wrap .i64 (x4 + 1)) A))))) (Zux Q a3 n3 c3 e3 h)
theorem Zqo (Q:QT) (R3:T3) (a0:Pt) (n0 c0:Nat) (e0:Bool) (a3:Pt) (n3 c3:Nat) (e3:Bool) (x4:Int) (h:Zaa) (ht:L3t Q R3 a0 n0 c0 e0 a3 n3 c3 e3 x4 h):Den pg fn.ntmps (C [1,1,0,1,0,0]) [(0,.slice a0 n0 c0 e0),(3,.slice a3 n3 c3 e3),(4,.int .i64 x4)] h (K3 Q R3):=
 Zax (kp:=kp) (cast (by kernel_rfl) ht)
theorem L3ind (Q:QT) (a0:Pt) (n0 c0:Nat) (e0:Bool) (a3:Pt) (n3 c3:Nat) (e3:Bool) {G:Type} (J:G→Int→Zaa→Prop) (m:G→Nat)
 (hr:∀ (g:G) (x4:Int) (h:Zaa),J g x4 h→∀ (R3:T3),(∀ g' (x4:Int) (h:Zaa),m g' < m g→J g' x4 h→R3 a0 n0 c0 e0 a3 n3 c3 e3 x4 h)→L3t Q R3 a0 n0 c0 e0 a3 n3 c3 e3 x4 h)
 (g:G) (x4:Int) (h:Zaa) (hj:J g x4 h):L3 Q a0 n0 c0 e0 a3 n3 c3 e3 x4 h:=by
 let P:=fun (K:Int→Zaa→Prop) a0' n0' c0' e0' a3' n3' c3' e3' x4 h=>a0=a0'∧n0=n0'∧c0=c0'∧e0=e0'∧a3=a3'∧n3=n3'∧c3=c3'∧e3=e3'∧K x4 h
 refine Zdt.inv2 (fun g=>E3 (P (J g))) (fun g=>E3 (P fun x4 h=>∃ g',m g' < m g∧J g' x4 h)) m ?_ ?_ g ⟨rfl,rfl,rfl,rfl,rfl,rfl,rfl,rfl,hj⟩
 ·intro g env h hi
  obtain ⟨a0',n0',c0',e0',a3',n3',c3',e3',x4,rfl,rfl,rfl,rfl,rfl,rfl,rfl,rfl,rfl,hj⟩:=Zhp hi
  exact Zqo Q _ a0 n0 c0 e0 a3 n3 c3 e3 x4 h (hr g x4 h hj (P fun x4 h=>∃ g',m g' < m g∧J g' x4 h) fun g' x4 h hlt hj=>⟨rfl,rfl,rfl,rfl,rfl,rfl,rfl,rfl,g',hlt,hj⟩)
 ·intro g env h hi
  obtain ⟨a0',n0',c0',e0',a3',n3',c3',e3',x4,rfl,rfl,rfl,rfl,rfl,rfl,rfl,rfl,rfl,g',hlt,hj⟩:=Zhp hi
  exact ⟨g',hlt,rfl,rfl,rfl,rfl,rfl,rfl,rfl,rfl,hj⟩
theorem A3x0i (Q:QT) (a3:Pt) (n3 c3:Nat) (e3:Bool) (h:Zaa) (ht :
 Q (.slice a3 n3 c3 e3) h):Zux Q a3 n3 c3 e3 h:=
 At.mk (cast (by kernel_rfl) ht)
theorem call (a0:Pt) (n0 c0:Nat) (e0:Bool) (h:Zaa) (Q:QT) (ht :
 IntKind.i64=IntKind.i64∧(IntKind.i64=IntKind.i64∧((0≤((((n0:Nat):Int)):Int)∧((((n0:Nat):Int)):Int)≤(((n0:Nat):Int))∧((((n0:Nat):Int)):Int) * (((32:Nat):Int) + 1)≤140737488355328)∧(Zdn (h ++ [.cells Zbl (reps (Int.toNat ((((n0:Nat):Int)))) [.str [],.str []]) false]) fun A=>L3 Q a0 n0 c0 e0 (h.length,0) (Int.toNat ((((n0:Nat):Int)))) (Int.toNat ((((n0:Nat):Int)))) true 0 A)))):Zad pg Zlm [.slice a0 n0 c0 e0] h Q:=
 Zad.of_body kp (c:=cod fn) (fn:=fn) Go.Proofs.Try.func132 (by kernel_rfl) (by kernel_rfl) (Nat.le_of_ble_eq_true (by kernel_rfl))
  (cast (by kernel_rfl) ht)
end Zgv
namespace Zgy
noncomputable abbrev fn:Func:=Go.Proofs.Try.f134
def kp:Zce:=[(3000004,[4]),(1000004,[0,1,5]),(2000006,[26,5,0,1])]
noncomputable def C (p:List Nat):Code:=(cod fn).sub p
def KR (Q:QT):KT:=Zet pg fn.results.toList Q
abbrev T4:=Pt→Nat→Nat→Bool→Pt→Nat→Nat→Bool→Int→Zaa→Prop
def E4 (R4:T4) (env:Env) (h:Zaa):Prop:=Zbx 0 env fun v env=>xSl v fun a0 n0 c0 e0=>Zbx 1 env fun v env=>xSl v fun a1 n1 c1 e1=>Zbx 5 env fun v env=>Zdz .i64 v fun x5=>Ziy env (R4 a0 n0 c0 e0 a1 n1 c1 e1 x5 h)
theorem Zfc {R4:T4} {env:Env} {h:Zaa} (hi:E4 R4 env h):∃ a0,∃ n0,∃ c0,∃ e0,∃ a1,∃ n1,∃ c1,∃ e1,∃ x5,env=[(0,.slice a0 n0 c0 e0),(1,.slice a1 n1 c1 e1),(5,.int .i64 x5)]∧R4 a0 n0 c0 e0 a1 n1 c1 e1 x5 h:=by
 unfold E4 at hi
 repeat ((first | (have k:=Zae hi; clear hi; obtain ⟨_,_,e,hi⟩:=k) | (have k:=Zbt hi; clear hi; obtain ⟨_,_,_,_,e,hi⟩:=k) | (have k:=Zat hi; clear hi; obtain ⟨_,e,hi⟩:=k)); subst e)
 obtain ⟨rfl,hi⟩:=Zbj hi
 exact ⟨_,_,_,_,_,_,_,_,_,rfl,hi⟩
def K0 (Q:QT):KT:=andThen (fun env' h'=>(match kp.find 4000008 with | some ks=>Den pg fn.ntmps (C [1,1,1]) (env'.keep ks) h' (KR Q) | none=>den pg fn.ntmps kp (C [1,1,1]) env' h' (KR Q))) (KR Q)
def K1 (Q:QT):KT:=Zcg 0 (K0 Q)
def K2 (Q:QT):KT:=left kp 4 (K1 Q)
def K3 (Q:QT) (R4:T4):KT:=rnd ((kp.find 1000004).getD []) (E4 R4) (K2 Q)
def L4 (Q:QT) (a0:Pt) (n0 c0:Nat) (e0:Bool) (a1:Pt) (n1 c1:Nat) (e1:Bool) (x5:Int) (h:Zaa):Prop:=Zdt (Den pg fn.ntmps (C [1,1,0,1,0,0])) ((kp.find 1000004).getD []) (K2 Q) [(0,.slice a0 n0 c0 e0),(1,.slice a1 n1 c1 e1),(5,.int .i64 x5)] h
def Zrs (Q:QT) (h:Zaa):Prop:=At (K1 Q) (.exit 0) [(4,.undef)] h
def L4t (Q:QT) (R4:T4) (a0:Pt) (n0 c0:Nat) (e0:Bool) (a1:Pt) (n1 c1:Nat) (e1:Bool) (x5:Int) (h:Zaa):Prop:=
 bcase (decide ((x5:Int) < (((n0:Nat):Int)))) ((0≤(x5:Int)∧(x5:Int) < (n0:Nat))∧(Zbf a0 fun A B=>(0≤(x5:Int)∧(x5:Int) < (n1:Nat))∧(Zbf a1 fun C D=>Zcy (Zbo h (.ptr (A,B + (Int.toNat x5) * 2)) 2) fun E=>Zam E fun E F=>Zcb E fun E=>Zam F fun F G=>Zcb F fun F=>Zcq G (Zcy (Zbo h (.ptr (C,D + (Int.toNat x5) * 2)) 2) fun C=>Zam C fun C D=>Zcb C fun C=>Zam D fun D G=>Zcb D fun D=>Zcq G ((Zbo h (.ptr (A,B + (Int.toNat x5) * 2)) 2=Zbo h (.ptr (A,B + (Int.toNat x5) * 2)) 2)∧Zad pg Zjs [.agg [.str E,.str F],.agg [.str C,.str D]] h fun A B=>
 Zbw A fun A=>bcase (!A) (Q (.bool false) B) (R4 a0 n0 c0 e0 a1 n1 c1 e1 (IntKind.wrap .i64 (x5 + 1)) B)))))) (Zrs Q h)
theorem Zny (Q:QT) (R4:T4) (a0:Pt) (n0 c0:Nat) (e0:Bool) (a1:Pt) (n1 c1:Nat) (e1:Bool) (x5:Int) (h:Zaa) (ht:L4t Q R4 a0 n0 c0 e0 a1 n1 c1 e1 x5 h):Den pg fn.ntmps (C [1,1,0,1,0,0]) [(0,.slice a0 n0 c0 e0),(1,.slice a1 n1 c1 e1),(5,.int .i64 x5)] h (K3 Q R4):=
 Zax (kp:=kp) (cast (by kernel_rfl) ht)
theorem L4ind (Q:QT) (a0:Pt) (n0 c0:Nat) (e0:Bool) (a1:Pt) (n1 c1:Nat) (e1:Bool) {G:Type} (J:G→Int→Zaa→Prop) (m:G→Nat)
 (hr:∀ (g:G) (x5:Int) (h:Zaa),J g x5 h→∀ (R4:T4),(∀ g' (x5:Int) (h:Zaa),m g' < m g→J g' x5 h→R4 a0 n0 c0 e0 a1 n1 c1 e1 x5 h)→L4t Q R4 a0 n0 c0 e0 a1 n1 c1 e1 x5 h)
 (g:G) (x5:Int) (h:Zaa) (hj:J g x5 h):L4 Q a0 n0 c0 e0 a1 n1 c1 e1 x5 h:=by
 let P:=fun (K:Int→Zaa→Prop) a0' n0' c0' e0' a1' n1' c1' e1' x5 h=>a0=a0'∧n0=n0'∧c0=c0'∧e0=e0'∧a1=a1'∧n1=n1'∧c1=c1'∧e1=e1'∧K x5 h
 refine Zdt.inv2 (fun g=>E4 (P (J g))) (fun g=>E4 (P fun x5 h=>∃ g',m g' < m g∧J g' x5 h)) m ?_ ?_ g ⟨rfl,rfl,rfl,rfl,rfl,rfl,rfl,rfl,hj⟩
 ·intro g env h hi
  obtain ⟨a0',n0',c0',e0',a1',n1',c1',e1',x5,rfl,rfl,rfl,rfl,rfl,rfl,rfl,rfl,rfl,hj⟩:=Zfc hi
  exact Zny Q _ a0 n0 c0 e0 a1 n1 c1 e1 x5 h (hr g x5 h hj (P fun x5 h=>∃ g',m g' < m g∧J g' x5 h) fun g' x5 h hlt hj=>⟨rfl,rfl,rfl,rfl,rfl,rfl,rfl,rfl,g',hlt,hj⟩)
 ·intro g env h hi
  obtain ⟨a0',n0',c0',e0',a1',n1',c1',e1',x5,rfl,rfl,rfl,rfl,rfl,rfl,rfl,rfl,rfl,g',hlt,hj⟩:=Zfc hi
  exact ⟨g',hlt,rfl,rfl,rfl,rfl,rfl,rfl,rfl,rfl,hj⟩
theorem A4x0i (Q:QT) (h:Zaa) (ht :
 Q (.bool true) h):Zrs Q h:=
 At.mk (cast (by kernel_rfl) ht)
theorem call (a0:Pt) (n0 c0:Nat) (e0:Bool) (a1:Pt) (n1 c1:Nat) (e1:Bool) (h:Zaa) (Q:QT) (ht :
 bcase (!((((n0:Nat):Int):Int) == (((n1:Nat):Int)))) (Q (.bool false) h) (L4 Q a0 n0 c0 e0 a1 n1 c1 e1 0 h)):Zad pg Zld [.slice a0 n0 c0 e0,.slice a1 n1 c1 e1] h Q:=
 Zad.of_body kp (c:=cod fn) (fn:=fn) Go.Proofs.Try.func134 (by kernel_rfl) (by kernel_rfl) (Nat.le_of_ble_eq_true (by kernel_rfl))
  (cast (by kernel_rfl) ht)
end Zgy
end Go.Sim

set_option maxRecDepth 100000
set_option maxHeartbeats 0
set_option linter.unusedVariables false
namespace Go.Sim
open Go Go.RowKit
namespace Zpy
noncomputable abbrev fn:Func:=Go.Proofs.Try.f123
def kp:Zce:=[]
noncomputable def C (p:List Nat):Code:=(cod fn).sub p
def KR (Q:QT):KT:=Zet pg fn.results.toList Q
theorem call (x0x0 x0x1:List Nat) (x1:Int) (h:Zaa) (Q:QT) (ht :
 Zdn (h ++ [.cells Zpe [.str x0x0,.str x0x1] false]) fun A=>Zcb (Zaf A (.ptr (h.length,0 + 0))) fun B=>bcase (decide (((IntKind.wrap .i64 (x1 - (((List.length B:Nat):Int)))):Int) < 0)) (Q (.int .i64 (-1)) A) (Zcb (Zaf A (.ptr (h.length,0 + 1))) fun C=>bcase (decide (((IntKind.wrap .i64 ((IntKind.wrap .i64 (x1 - (((List.length B:Nat):Int)))) - (((List.length C:Nat):Int)))):Int) < 0)) (Q (.int .i64 (-1)) A) (Q (.int .i64 (IntKind.wrap .i64 ((IntKind.wrap .i64 (x1 - (((List.length B:Nat):Int)))) - (((List.length C:Nat):Int))))) A))):Zad pg Zjv [.agg [.str x0x0,.str x0x1],.int .i64 x1] h Q:=
 Zad.of_body kp (c:=cod fn) (fn:=fn) Go.Proofs.Try.func123 (by kernel_rfl) (by kernel_rfl) (Nat.le_of_ble_eq_true (by kernel_rfl))
  (cast (by kernel_rfl) ht)
end Zpy
namespace Zqh
noncomputable abbrev fn:Func:=Go.Proofs.Try.f133
def kp:Zce:=[]
noncomputable def C (p:List Nat):Code:=(cod fn).sub p
def KR (Q:QT):KT:=Zet pg fn.results.toList Q
theorem call (x0x0 x0x1 x1x0 x1x1:List Nat) (h:Zaa) (Q:QT) (ht :
 Zdn (h ++ [.cells Zbl [.str x0x0,.str x0x1] false]) fun A=>Zdn (A ++ [.cells Zbl [.str x1x0,.str x1x1] false]) fun B=>Zcb (Zaf B (.ptr (h.length,0 + 0))) fun C=>Zcb (Zaf B (.ptr (A.length,0 + 0))) fun D=>bcase (!(decide (C=D))) (Q (.bool false) B) (Zcb (Zaf B (.ptr (h.length,0 + 1))) fun C=>Zcb (Zaf B (.ptr (A.length,0 + 1))) fun A=>bcase (!(decide (C=A))) (Q (.bool false) B) (Q (.bool true) B))):Zad pg Zjs [.agg [.str x0x0,.str x0x1],.agg [.str x1x0,.str x1x1]] h Q:=
 Zad.of_body kp (c:=cod fn) (fn:=fn) Go.Proofs.Try.func133 (by kernel_rfl) (by kernel_rfl) (Nat.le_of_ble_eq_true (by kernel_rfl))
  (cast (by kernel_rfl) ht)
end Zqh
namespace Zqi
noncomputable abbrev fn:Func:=Go.Proofs.Try.f131
def kp:Zce:=[]
noncomputable def C (p:List Nat):Code:=(cod fn).sub p
def KR (Q:QT):KT:=Zet pg fn.results.toList Q
theorem call (x0x0 x0x1:List Nat) (h:Zaa) (Q:QT) (ht :
 Zdn (h ++ [.cells Zpe [.str x0x0,.str x0x1] false]) fun A=>Zdn (A ++ [.cells Zbl [.str [],.str []] false]) fun B=>Zdn (B ++ [.cells Zbl [.str [],.str []] false]) fun C=>Zcb (Zaf C (.ptr (h.length,0 + 0))) fun D=>Zcf (Zbd C (.ptr (B.length,0 + 0)) [.str D]) fun C=>Zcb (Zaf C (.ptr (h.length,0 + 1))) fun D=>Zcf (Zbd C (.ptr (B.length,0 + 1)) [.str D]) fun C=>Zcy (Zbo C (.ptr (B.length,0)) 2) fun B=>Zam B fun B D=>Zcb B fun B=>Zam D fun D E=>Zcb D fun D=>Zcq E (Zcf (Zbd C (.ptr (A.length,0)) [.str B,.str D]) fun B=>Zcy (Zbo B (.ptr (A.length,0)) 2) fun A=>Zam A fun A C=>Zcb A fun A=>Zam C fun C D=>Zcb C fun C=>Zcq D (Q (.agg [.str A,.str C]) B))):Zad pg Zjr [.agg [.str x0x0,.str x0x1]] h Q:=
 Zad.of_body kp (c:=cod fn) (fn:=fn) Go.Proofs.Try.func131 (by kernel_rfl) (by kernel_rfl) (Nat.le_of_ble_eq_true (by kernel_rfl))
  (cast (by kernel_rfl) ht)
end Zqi
namespace Zhb
noncomputable abbrev fn:Func:=Go.Proofs.Try.f124
def kp:Zce:=[(3000005,[1,4]),(1000005,[0,1,5])]
noncomputable def C (p:List Nat):Code:=(cod fn).sub p
def KR (Q:QT):KT:=Zet pg fn.results.toList Q
abbrev T5:=Pt→Nat→Nat→Bool→Int→Int→Zaa→Prop
def E5 (R5:T5) (env:Env) (h:Zaa):Prop:=Zbx 0 env fun v env=>xSl v fun a0 n0 c0 e0=>Zbx 1 env fun v env=>Zdz .i64 v fun x1=>Zbx 5 env fun v env=>Zdz .i64 v fun x5=>Ziy env (R5 a0 n0 c0 e0 x1 x5 h)
theorem Zhq {R5:T5} {env:Env} {h:Zaa} (hi:E5 R5 env h):∃ a0,∃ n0,∃ c0,∃ e0,∃ x1,∃ x5,env=[(0,.slice a0 n0 c0 e0),(1,.int .i64 x1),(5,.int .i64 x5)]∧R5 a0 n0 c0 e0 x1 x5 h:=by
 unfold E5 at hi
 repeat ((first | (have k:=Zae hi; clear hi; obtain ⟨_,_,e,hi⟩:=k) | (have k:=Zbt hi; clear hi; obtain ⟨_,_,_,_,e,hi⟩:=k) | (have k:=Zat hi; clear hi; obtain ⟨_,e,hi⟩:=k)); subst e)
 obtain ⟨rfl,hi⟩:=Zbj hi
 exact ⟨_,_,_,_,_,_,rfl,hi⟩
def K0 (Q:QT):KT:=andThen (fun env' h'=>(match kp.find 4000010 with | some ks=>Den pg fn.ntmps (C [1,1,1,1]) (env'.keep ks) h' (KR Q) | none=>den pg fn.ntmps kp (C [1,1,1,1]) env' h' (KR Q))) (KR Q)
def K1 (Q:QT):KT:=Zcg 0 (K0 Q)
def K2 (Q:QT):KT:=left kp 5 (K1 Q)
def K3 (Q:QT) (R5:T5):KT:=rnd ((kp.find 1000005).getD []) (E5 R5) (K2 Q)
def L5 (Q:QT) (a0:Pt) (n0 c0:Nat) (e0:Bool) (x1 x5:Int) (h:Zaa):Prop:=Zdt (Den pg fn.ntmps (C [1,1,1,0,1,0,0])) ((kp.find 1000005).getD []) (K2 Q) [(0,.slice a0 n0 c0 e0),(1,.int .i64 x1),(5,.int .i64 x5)] h
def A5x0 (Q:QT) (x1:Int) (h:Zaa):Prop:=At (K1 Q) (.exit 0) [(1,.int .i64 x1),(4,.undef)] h
def L5t (Q:QT) (R5:T5) (a0:Pt) (n0 c0:Nat) (e0:Bool) (x1 x5:Int) (h:Zaa):Prop:=
 bcase (decide ((x5:Int) < (((n0:Nat):Int)))) ((0≤(x5:Int)∧(x5:Int) < (n0:Nat))∧(Zbf a0 fun A B=>Zcy (Zbo h (.ptr (A,B + (Int.toNat x5) * 2)) 2) fun A=>Zam A fun A B=>Zcb A fun A=>Zam B fun B C=>Zcb B fun B=>Zcq C (Zad pg Zjv [.agg [.str A,.str B],.int .i64 x1] h fun A B=>
 Zco .i64 A fun A=>bcase (decide ((A:Int) < 0)) (Q (.int .i64 (-1)) B) (R5 a0 n0 c0 e0 A (IntKind.wrap .i64 (x5 + 1)) B)))) (A5x0 Q x1 h)
theorem Zqx (Q:QT) (R5:T5) (a0:Pt) (n0 c0:Nat) (e0:Bool) (x1 x5:Int) (h:Zaa) (ht:L5t Q R5 a0 n0 c0 e0 x1 x5 h):Den pg fn.ntmps (C [1,1,1,0,1,0,0]) [(0,.slice a0 n0 c0 e0),(1,.int .i64 x1),(5,.int .i64 x5)] h (K3 Q R5):=
 Zax (kp:=kp) (cast (by kernel_rfl) ht)
theorem L5ind (Q:QT) (a0:Pt) (n0 c0:Nat) (e0:Bool) {G:Type} (J:G→Int→Int→Zaa→Prop) (m:G→Nat)
 (hr:∀ (g:G) (x1 x5:Int) (h:Zaa),J g x1 x5 h→∀ (R5:T5),(∀ g' (x1 x5:Int) (h:Zaa),m g' < m g→J g' x1 x5 h→R5 a0 n0 c0 e0 x1 x5 h)→L5t Q R5 a0 n0 c0 e0 x1 x5 h)
 (g:G) (x1 x5:Int) (h:Zaa) (hj:J g x1 x5 h):L5 Q a0 n0 c0 e0 x1 x5 h:=by
 let P:=fun (K:Int→Int→Zaa→Prop) a0' n0' c0' e0' x1 x5 h=>a0=a0'∧n0=n0'∧c0=c0'∧e0=e0'∧K x1 x5 h
 refine Zdt.inv2 (fun g=>E5 (P (J g))) (fun g=>E5 (P fun x1 x5 h=>∃ g',m g' < m g∧J g' x1 x5 h)) m ?_ ?_ g ⟨rfl,rfl,rfl,rfl,hj⟩
 ·intro g env h hi
  obtain ⟨a0',n0',c0',e0',x1,x5,rfl,rfl,rfl,rfl,rfl,hj⟩:=Zhq hi
  exact Zqx Q _ a0 n0 c0 e0 x1 x5 h (hr g x1 x5 h hj (P fun x1 x5 h=>∃ g',m g' < m g∧J g' x1 x5 h) fun g' x1 x5 h hlt hj=>⟨rfl,rfl,rfl,rfl,g',hlt,hj⟩)
 ·intro g env h hi
  obtain ⟨a0',n0',c0',e0',x1,x5,rfl,rfl,rfl,rfl,rfl,g',hlt,hj⟩:=Zhq hi
  exact ⟨g',hlt,rfl,rfl,rfl,rfl,hj⟩
theorem A5x0i (Q:QT) (x1:Int) (h:Zaa) (ht :
 Q (.int .i64 x1) h):A5x0 Q x1 h:=
 At.mk (cast (by kernel_rfl) ht)
theorem call (a0:Pt) (n0 c0:Nat) (e0:Bool) (x1:Int) (h:Zaa) (Q:QT) (ht :
 bcase (decide (((IntKind.wrap .i64 (x1 - (((n0:Nat):Int)))):Int) < 0)) (Q (.int .i64 (-1)) h) (L5 Q a0 n0 c0 e0 (IntKind.wrap .i64 (x1 - (((n0:Nat):Int)))) 0 h)):Zad pg Zlh [.slice a0 n0 c0 e0,.int .i64 x1] h Q:=
 Zad.of_body kp (c:=cod fn) (fn:=fn) Go.Proofs.Try.func124 (by kernel_rfl) (by kernel_rfl) (Nat.le_of_ble_eq_true (by kernel_rfl))
  (cast (by kernel_rfl) ht)
end Zhb
end Go.Sim

set_option maxRecDepth 100000
set_option maxHeartbeats 0
set_option linter.unusedVariables false
namespace Go.Sim
open Go Go.RowKit
namespace Zho
noncomputable abbrev fn:Func:=Go.Proofs.Try.f121
def kp:Zce:=[(3000003,[3]),(1000003,[0,3,7,8,9]),(4000007,[9,8,7,0,3])]
noncomputable def C (p:List Nat):Code:=(cod fn).sub p
def KR (Q:QT):KT:=Zet pg fn.results.toList Q
abbrev T3:=List Nat→Pt→Nat→Nat→Bool→Pt→Nat→Nat→Bool→Int→Int→Zaa→Prop
def E3 (R3:T3) (env:Env) (h:Zaa):Prop:=Zbx 0 env fun v env=>Zcb v fun x0=>Zbx 3 env fun v env=>xSl v fun a3 n3 c3 e3=>Zbx 7 env fun v env=>xSl v fun a7 n7 c7 e7=>Zbx 8 env fun v env=>Zdz .i64 v fun x8=>Zbx 9 env fun v env=>Zdz .i64 v fun x9=>Ziy env (R3 x0 a3 n3 c3 e3 a7 n7 c7 e7 x8 x9 h)
theorem Zhp {R3:T3} {env:Env} {h:Zaa} (hi:E3 R3 env h):∃ x0,∃ a3,∃ n3,∃ c3,∃ e3,∃ a7,∃ n7,∃ c7,∃ e7,∃ x8,∃ x9,env=[(0,.str x0),(3,.slice a3 n3 c3 e3),(7,.slice a7 n7 c7 e7),(8,.int .i64 x8),(9,.int .i64 x9)]∧R3 x0 a3 n3 c3 e3 a7 n7 c7 e7 x8 x9 h:=by
 unfold E3 at hi
 repeat ((first | (have k:=Zae hi; clear hi; obtain ⟨_,_,e,hi⟩:=k) | (have k:=Zat hi; clear hi; obtain ⟨_,e,hi⟩:=k) | (have k:=Zjd hi; clear hi; obtain ⟨_,e,hi⟩:=k) | (have k:=Zbt hi; clear hi; obtain ⟨_,_,_,_,e,hi⟩:=k)); subst e)
 obtain ⟨rfl,hi⟩:=Zbj hi
 exact ⟨_,_,_,_,_,_,_,_,_,_,_,rfl,hi⟩
def K0 (Q:QT):KT:=andThen (fun env' h'=>(match kp.find 4000008 with | some ks=>Den pg fn.ntmps (C [1,1,1]) (env'.keep ks) h' (KR Q) | none=>den pg fn.ntmps kp (C [1,1,1]) env' h' (KR Q))) (KR Q)
def K1 (Q:QT):KT:=Zcg 0 (K0 Q)
def K2 (Q:QT):KT:=left kp 3 (K1 Q)
def K3 (Q:QT) (R3:T3):KT:=rnd ((kp.find 1000003).getD []) (E3 R3) (K2 Q)
def L3 (Q:QT) (x0:List Nat) (a3:Pt) (n3 c3:Nat) (e3:Bool) (a7:Pt) (n7 c7:Nat) (e7:Bool) (x8 x9:Int) (h:Zaa):Prop:=Zdt (Den pg fn.ntmps (C [1,1,0,1,0,0])) ((kp.find 1000003).getD []) (K2 Q) [(0,.str x0),(3,.slice a3 n3 c3 e3),(7,.slice a7 n7 c7 e7),(8,.int .i64 x8),(9,.int .i64 x9)] h
def J7 (Q:QT) (R3:T3) (x9 x8:Int) (a7:Pt) (n7 c7:Nat) (e7:Bool) (x0:List Nat) (a3:Pt) (n3 c3:Nat) (e3:Bool) (h:Zaa):Prop:=Den pg fn.ntmps (C [1,1,0,1,0,0,1,1,1]) [(9,.int .i64 x9),(8,.int .i64 x8),(7,.slice a7 n7 c7 e7),(0,.str x0),(3,.slice a3 n3 c3 e3)] h (K3 Q R3)
def Zux (Q:QT) (a3:Pt) (n3 c3:Nat) (e3:Bool) (h:Zaa):Prop:=At (K1 Q) (.exit 0) [(3,.slice a3 n3 c3 e3)] h
def L3t (Q:QT) (R3:T3) (x0:List Nat) (a3:Pt) (n3 c3:Nat) (e3:Bool) (a7:Pt) (n7 c7:Nat) (e7:Bool) (x8 x9:Int) (h:Zaa):Prop:=
 bcase (decide ((x9:Int) < x8)) ((0≤(x9:Int)∧(x9:Int) < (n7:Nat))∧(Zbf a7 fun A B=>Zcb (Zaf h (.ptr (A,B + (Int.toNat x9) * 1))) fun A=>Zad pg Zeq [.str x0,.str A] h fun B C=>
 Zbw B fun B=>bcase B (Zdn (C ++ [.cells Zdx [.str A] false]) fun A=>Zdv pg Zva A (.slice a3 n3 c3 e3) (.slice (C.length,0) 1 1 true) fun A B=>xSl A fun A D E F=>J7 Q R3 x9 x8 a7 n7 c7 e7 x0 A D E F B) (J7 Q R3 x9 x8 a7 n7 c7 e7 x0 a3 n3 c3 e3 C))) (Zux Q a3 n3 c3 e3 h)
theorem Zqo (Q:QT) (R3:T3) (x0:List Nat) (a3:Pt) (n3 c3:Nat) (e3:Bool) (a7:Pt) (n7 c7:Nat) (e7:Bool) (x8 x9:Int) (h:Zaa) (ht:L3t Q R3 x0 a3 n3 c3 e3 a7 n7 c7 e7 x8 x9 h):Den pg fn.ntmps (C [1,1,0,1,0,0]) [(0,.str x0),(3,.slice a3 n3 c3 e3),(7,.slice a7 n7 c7 e7),(8,.int .i64 x8),(9,.int .i64 x9)] h (K3 Q R3):=
 Zax (kp:=kp) (cast (by kernel_rfl) ht)
theorem L3ind (Q:QT) (x0:List Nat) (a7:Pt) (n7 c7:Nat) (e7:Bool) (x8:Int) {G:Type} (J:G→Pt→Nat→Nat→Bool→Int→Zaa→Prop) (m:G→Nat)
 (hr:∀ (g:G) (a3:Pt) (n3 c3:Nat) (e3:Bool) (x9:Int) (h:Zaa),J g a3 n3 c3 e3 x9 h→∀ (R3:T3),(∀ g' (a3:Pt) (n3 c3:Nat) (e3:Bool) (x9:Int) (h:Zaa),m g' < m g→J g' a3 n3 c3 e3 x9 h→R3 x0 a3 n3 c3 e3 a7 n7 c7 e7 x8 x9 h)→L3t Q R3 x0 a3 n3 c3 e3 a7 n7 c7 e7 x8 x9 h)
 (g:G) (a3:Pt) (n3 c3:Nat) (e3:Bool) (x9:Int) (h:Zaa) (hj:J g a3 n3 c3 e3 x9 h):L3 Q x0 a3 n3 c3 e3 a7 n7 c7 e7 x8 x9 h:=by
 let P:=fun (K:Pt→Nat→Nat→Bool→Int→Zaa→Prop) x0' a3 n3 c3 e3 a7' n7' c7' e7' x8' x9 h=>x0=x0'∧a7=a7'∧n7=n7'∧c7=c7'∧e7=e7'∧x8=x8'∧K a3 n3 c3 e3 x9 h
 refine Zdt.inv2 (fun g=>E3 (P (J g))) (fun g=>E3 (P fun a3 n3 c3 e3 x9 h=>∃ g',m g' < m g∧J g' a3 n3 c3 e3 x9 h)) m ?_ ?_ g ⟨rfl,rfl,rfl,rfl,rfl,rfl,hj⟩
 ·intro g env h hi
  obtain ⟨x0',a3,n3,c3,e3,a7',n7',c7',e7',x8',x9,rfl,rfl,rfl,rfl,rfl,rfl,rfl,hj⟩:=Zhp hi
  exact Zqo Q _ x0 a3 n3 c3 e3 a7 n7 c7 e7 x8 x9 h (hr g a3 n3 c3 e3 x9 h hj (P fun a3 n3 c3 e3 x9 h=>∃ g',m g' < m g∧J g' a3 n3 c3 e3 x9 h) fun g' a3 n3 c3 e3 x9 h hlt hj=>⟨rfl,rfl,rfl,rfl,rfl,rfl,g',hlt,hj⟩)
 ·intro g env h hi
  obtain ⟨x0',a3,n3,c3,e3,a7',n7',c7',e7',x8',x9,rfl,rfl,rfl,rfl,rfl,rfl,rfl,g',hlt,hj⟩:=Zhp hi
  exact ⟨g',hlt,rfl,rfl,rfl,rfl,rfl,rfl,hj⟩
theorem J7i (Q:QT) (R3:T3) (x9 x8:Int) (a7:Pt) (n7 c7:Nat) (e7:Bool) (x0:List Nat) (a3:Pt) (n3 c3:Nat) (e3:Bool) (h:Zaa) (ht :
 R3 x0 a3 n3 c3 e3 a7 n7 c7 e7 x8 (IntKind.wrap .i64 (x9 + 1)) h):J7 Q R3 x9 x8 a7 n7 c7 e7 x0 a3 n3 c3 e3 h:=
 Zax (kp:=kp) (cast (by kernel_rfl) ht)
theorem A3x0i (Q:QT) (a3:Pt) (n3 c3:Nat) (e3:Bool) (h:Zaa) (ht :
 Q (.slice a3 n3 c3 e3) h):Zux Q a3 n3 c3 e3 h:=
 At.mk (cast (by kernel_rfl) ht)
theorem call (x0:List Nat) (h:Zaa) (Q:QT) (ht :
 Zdn (h ++ [.cells Zdx [] false]) fun A=>Zdn (A ++ [.cells Zdx [.str [88],.str [89],.str [90],.str [120],.str [121],.str [122]] false]) fun B=>L3 Q x0 (h.length,0) 0 0 true (A.length,0) 6 6 true (((6:Nat):Int)) 0 B):Zad pg Zpi [.str x0] h Q:=
 Zad.of_body kp (c:=cod fn) (fn:=fn) Go.Proofs.Try.func121 (by kernel_rfl) (by kernel_rfl) (Nat.le_of_ble_eq_true (by kernel_rfl))
  (cast (by kernel_rfl) ht)
end Zho
end Go.Sim

set_option maxRecDepth 100000
set_option maxHeartbeats 0
set_option linter.unusedVariables false
namespace Go.Sim
open Go Go.RowKit
end Go.Sim

set_option maxRecDepth 100000
set_option maxHeartbeats 0
set_option linter.unusedVariables false
namespace Go.Sim
open Go Go.RowKit
end Go.Sim

set_option maxRecDepth 100000
set_option maxHeartbeats 0
set_option linter.unusedVariables false
namespace Go.Sim
open Go Go.RowKit
end Go.Sim

set_option maxRecDepth 100000
set_option maxHeartbeats 0
set_option linter.unusedVariables false
namespace Go.Sim
open Go Go.RowKit
end Go.Sim

set_option maxRecDepth 100000
set_option maxHeartbeats 0
set_option linter.unusedVariables false
namespace Go.Sim
open Go Go.RowKit
namespace Zrl
noncomputable abbrev fn:Func:=Go.Proofs.Try.f55
def kp:Zce:=[]
noncomputable def C (p:List Nat):Code:=(cod fn).sub p
def KR (Q:QT):KT:=Zet pg fn.results.toList Q
theorem call (x0:List Nat) (m1:Option Nat) (h:Zaa) (Q:QT) (ht :
 Zad pg Zgj [.str x0] h fun A B=>
 Zzi A fun A=>Zam A fun A C=>Zfw A fun A=>Zam C fun C D=>Zcb C fun C=>Zcq D (Zad pg Zgr [.ptr A,.map m1] B fun A B=>
 Zfw A fun A=>Q (.ptr A) B)):Zad pg Zkr [.str x0,.map m1] h Q:=
 Zad.of_body kp (c:=cod fn) (fn:=fn) Go.Proofs.Try.func55 (by kernel_rfl) (by kernel_rfl) (Nat.le_of_ble_eq_true (by kernel_rfl))
  (cast (by kernel_rfl) ht)
end Zrl
namespace Zki
noncomputable abbrev fn:Func:=Go.Proofs.Try.f30
def kp:Zce:=[(4000003,[0,1])]
noncomputable def C (p:List Nat):Code:=(cod fn).sub p
def KR (Q:QT):KT:=Zet pg fn.results.toList Q
def J3 (Q:QT) (x0 x1:List Nat) (h:Zaa):Prop:=Den pg fn.ntmps (C [1,1]) [(0,.str x0),(1,.str x1)] h (KR Q)
theorem J3i (Q:QT) (x0 x1:List Nat) (h:Zaa) (ht :
 Zdn (h ++ [.map [] 0]) fun A=>Zad pg Zkr [.str x0,.map ((some h.length))] A fun A B=>
 Zfw A fun A=>Zdn (B ++ [.map [] 0]) fun C=>Zad pg Zkr [.str x1,.map ((some B.length))] C fun B C=>
 Zfw B fun B=>Zad pg Zkv [.ptr A,.ptr B] C fun B C=>
 Zbw B fun B=>bcase (!B) (Q (.bool true) C) (Zad pg Zjj [.ptr A] C fun A B=>
 Zbw A fun A=>Q (.bool (!A)) B)):J3 Q x0 x1 h:=
 Zax (kp:=kp) (cast (by kernel_rfl) ht)
theorem call (x0 x1:List Nat) (h:Zaa) (Q:QT) (ht :
 Zad pg Zem [.str x0] h fun A B=>
 Zbw A fun A=>bcase (!A) (Q (.bool false) B) (Zad pg Zem [.str x1] B fun A B=>
 Zbw A fun A=>bcase (!A) (Q (.bool false) B) (J3 Q x0 x1 B))):Zad pg Zgh [.str x0,.str x1] h Q:=
 Zad.of_body kp (c:=cod fn) (fn:=fn) Go.Proofs.Try.func30 (by kernel_rfl) (by kernel_rfl) (Nat.le_of_ble_eq_true (by kernel_rfl))
  (cast (by kernel_rfl) ht)
end Zki
end Go.Sim

set_option maxRecDepth 100000
set_option maxHeartbeats 0
set_option linter.unusedVariables false
namespace Go.Sim
open Go Go.RowKit
namespace Zdu
noncomputable abbrev fn:Func:=Go.Proofs.Try.f102
def kp:Zce:=[(2000003,[1,0]),(4000004,[1,0]),(3000007,[5]),(1000007,[1,5,46,47,48]),(2000009,[48,47,46,5,1])]
noncomputable def C (p:List Nat):Code:=(cod fn).sub p
def KR (Q:QT):KT:=Zet pg fn.results.toList Q
abbrev T7:=Option Nat→Nat→Nat→Pt→Nat→Nat→Bool→Int→Int→Zaa→Prop
def E7 (R7:T7) (env:Env) (h:Zaa):Prop:=Zbx 1 env fun v env=>Yeu v fun m1=>Zbx 5 env fun v env=>Zfw v fun a=>Zbf a fun i5 o5=>Zbx 46 env fun v env=>xSl v fun a46 n46 c46 e46=>Zbx 47 env fun v env=>Zdz .i64 v fun x47=>Zbx 48 env fun v env=>Zdz .i64 v fun x48=>Ziy env (R7 m1 i5 o5 a46 n46 c46 e46 x47 x48 h)
theorem Zrj {R7:T7} {env:Env} {h:Zaa} (hi:E7 R7 env h):∃ m1,∃ i5,∃ o5,∃ a46,∃ n46,∃ c46,∃ e46,∃ x47,∃ x48,env=[(1,.map m1),(5,.ptr (i5,o5)),(46,.slice a46 n46 c46 e46),(47,.int .i64 x47),(48,.int .i64 x48)]∧R7 m1 i5 o5 a46 n46 c46 e46 x47 x48 h:=by
 unfold E7 at hi
 have hi0:=hi
 clear hi
 obtain ⟨_,_,rfl,hi1⟩:=Zae hi0
 obtain ⟨m1,rfl,hi2⟩:=Zyy hi1
 obtain ⟨_,_,rfl,hi3⟩:=Zae hi2
 obtain ⟨a,rfl,hi4⟩:=Zbu hi3
 obtain ⟨i5,o5,rfl,hi5⟩:=Zbn hi4
 obtain ⟨_,_,rfl,hi6⟩:=Zae hi5
 obtain ⟨a46,n46,c46,e46,rfl,hi7⟩:=Zbt hi6
 obtain ⟨_,_,rfl,hi8⟩:=Zae hi7
 obtain ⟨x47,rfl,hi9⟩:=Zat hi8
 obtain ⟨_,_,rfl,hi10⟩:=Zae hi9
 obtain ⟨x48,rfl,hi11⟩:=Zat hi10
 obtain ⟨rfl,hi12⟩:=Zbj hi11
 have hi:=hi12
 exact ⟨m1,i5,o5,a46,n46,c46,e46,x47,x48,rfl,hi⟩
def K0 (Q:QT):KT:=andThen (fun env' h'=>(match kp.find 4000005 with | some ks=>Den pg fn.ntmps (C [1,1]) (env'.keep ks) h' (KR Q) | none=>den pg fn.ntmps kp (C [1,1]) env' h' (KR Q))) (KR Q)
def K1 (Q:QT):KT:=andThen (fun env' h'=>(match kp.find 4000011 with | some ks=>Den pg fn.ntmps (C [1,1,1,1]) (env'.keep ks) h' (KR Q) | none=>den pg fn.ntmps kp (C [1,1,1,1]) env' h' (KR Q))) (KR Q)
def K2 (Q:QT):KT:=Zcg 0 (K1 Q)
def K3 (Q:QT):KT:=left kp 7 (K2 Q)
def K4 (Q:QT) (R7:T7):KT:=rnd ((kp.find 1000007).getD []) (E7 R7) (K3 Q)
def J4 (Q:QT) (m1:Option Nat) (a0:Pt) (h:Zaa):Prop:=Den pg fn.ntmps (C [1,0,1,0,1]) [(1,.map m1),(0,.ptr a0)] h (K0 Q)
def L7 (Q:QT) (m1:Option Nat) (i5 o5:Nat) (a46:Pt) (n46 c46:Nat) (e46:Bool) (x47 x48:Int) (h:Zaa):Prop:=Zdt (Den pg fn.ntmps (C [1,1,1,0,1,0,0])) ((kp.find 1000007).getD []) (K3 Q) [(1,.map m1),(5,.ptr (i5,o5)),(46,.slice a46 n46 c46 e46),(47,.int .i64 x47),(48,.int .i64 x48)] h
def Yps (Q:QT) (i5 o5:Nat) (h:Zaa):Prop:=At (K2 Q) (.exit 0) [(5,.ptr (i5,o5))] h
theorem J4i (Q:QT) (m1:Option Nat) (a0:Pt) (h:Zaa) (ht :
 Zbf a0 fun A B=>Zcb (Zaf h (.ptr (A,B + 0))) fun A=>Zdm h m1 fun es_39 k_40=>Ztr es_39 A fun A=>Zfw (some (Option.getD A (.ptr none))) fun A=>Q (.ptr A) h):J4 Q m1 a0 h:=
 Zax (kp:=kp) (cast (by kernel_rfl) ht)
def L7t (Q:QT) (R7:T7) (m1:Option Nat) (i5 o5:Nat) (a46:Pt) (n46 c46:Nat) (e46:Bool) (x47 x48:Int) (h:Zaa):Prop:=
 bcase (decide ((x48:Int) < x47)) ((0≤(x48:Int)∧(x48:Int) < (n46:Nat))∧(Zbf a46 fun A B=>Zfw (Zaf h (.ptr (A,B + (Int.toNat x48) * 1))) fun A=>xSl (Zaf h (.ptr (i5,o5 + 1))) fun B C D E=>Zad pg Zgr [.ptr A,.map m1] h fun A F=>
 Zfw A fun A=>(Zaf F (.ptr (i5,o5 + 1))=Zaf h (.ptr (i5,o5 + 1)))∧Zdn (F ++ [.cells Zcx [.ptr A] false]) fun A=>(Zaf A (.ptr (i5,o5 + 1))=Zaf F (.ptr (i5,o5 + 1)))∧Zdv pg Zkj A (.slice B C D E) (.slice (F.length,0) 1 1 true) fun A B=>xSl A fun A C D E=>Zcf (Zbd B (.ptr (i5,o5 + 1)) [.slice A C D E]) fun A=>R7 m1 i5 o5 a46 n46 c46 e46 x47 (IntKind.wrap .i64 (x48 + 1)) A)) (Yps Q i5 o5 h)
theorem Yhe (Q:QT) (R7:T7) (m1:Option Nat) (i5 o5:Nat) (a46:Pt) (n46 c46:Nat) (e46:Bool) (x47 x48:Int) (h:Zaa) (ht:L7t Q R7 m1 i5 o5 a46 n46 c46 e46 x47 x48 h):Den pg fn.ntmps (C [1,1,1,0,1,0,0]) [(1,.map m1),(5,.ptr (i5,o5)),(46,.slice a46 n46 c46 e46),(47,.int .i64 x47),(48,.int .i64 x48)] h (K4 Q R7):=
 Zax (kp:=kp) (cast (by kernel_rfl) ht)
theorem L7ind (Q:QT) (m1:Option Nat) (i5 o5:Nat) (a46:Pt) (n46 c46:Nat) (e46:Bool) (x47:Int) {G:Type} (J:G→Int→Zaa→Prop) (m:G→Nat)
 (hr:∀ (g:G) (x48:Int) (h:Zaa),J g x48 h→∀ (R7:T7),(∀ g' (x48:Int) (h:Zaa),m g' < m g→J g' x48 h→R7 m1 i5 o5 a46 n46 c46 e46 x47 x48 h)→L7t Q R7 m1 i5 o5 a46 n46 c46 e46 x47 x48 h)
 (g:G) (x48:Int) (h:Zaa) (hj:J g x48 h):L7 Q m1 i5 o5 a46 n46 c46 e46 x47 x48 h:=by
 let P:=fun (K:Int→Zaa→Prop) m1' i5' o5' a46' n46' c46' e46' x47' x48 h=>m1=m1'∧i5=i5'∧o5=o5'∧a46=a46'∧n46=n46'∧c46=c46'∧e46=e46'∧x47=x47'∧K x48 h
 refine Zdt.inv2 (fun g=>E7 (P (J g))) (fun g=>E7 (P fun x48 h=>∃ g',m g' < m g∧J g' x48 h)) m ?_ ?_ g ⟨rfl,rfl,rfl,rfl,rfl,rfl,rfl,rfl,hj⟩
 ·intro g env h hi
  obtain ⟨m1',i5',o5',a46',n46',c46',e46',x47',x48,rfl,rfl,rfl,rfl,rfl,rfl,rfl,rfl,rfl,hj⟩:=Zrj hi
  exact Yhe Q _ m1 i5 o5 a46 n46 c46 e46 x47 x48 h (hr g x48 h hj (P fun x48 h=>∃ g',m g' < m g∧J g' x48 h) fun g' x48 h hlt hj=>⟨rfl,rfl,rfl,rfl,rfl,rfl,rfl,rfl,g',hlt,hj⟩)
 ·intro g env h hi
  obtain ⟨m1',i5',o5',a46',n46',c46',e46',x47',x48,rfl,rfl,rfl,rfl,rfl,rfl,rfl,rfl,rfl,g',hlt,hj⟩:=Zrj hi
  exact ⟨g',hlt,rfl,rfl,rfl,rfl,rfl,rfl,rfl,rfl,hj⟩
theorem A7x0i (Q:QT) (i5 o5:Nat) (h:Zaa) (ht :
 Q (.ptr (i5,o5)) h):Yps Q i5 o5 h:=
 At.mk (cast (by kernel_rfl) ht)
theorem call (a0:Pt) (m1:Option Nat) (h:Zaa) (Q:QT) (ht :
 Zbf a0 fun A B=>Zcb (Zaf h (.ptr (A,B + 0))) fun A=>Zad pg Zde [.str A] h fun A B=>
 Zbw A fun A=>bcase A (Zbf a0 fun A C=>Zcb (Zaf B (.ptr (A,C + 0))) fun A=>Zdm B m1 fun es_9 k_10=>Ztr es_9 A fun A=>Zfw (some (Option.getD A (.ptr none))) fun A=>bcase (Option.isNone A) (Zbf a0 fun A C=>Zbf a0 fun D E=>Zcb (Zaf B (.ptr (A,C + 0))) fun F=>Zcb (Zaf B (.ptr (D,E + 0))) fun D=>(Zaf B (.ptr (A,C + 0))=Zaf B (.ptr (A,C + 0)))∧Zdn (B ++ [.cells Zbs [.str D,.slice none 0 0 true,.ptr none] false]) fun D=>(Zaf D (.ptr (A,C + 0))=Zaf B (.ptr (A,C + 0)))∧xMp m1 fun A=>Zdm D (some A) fun es_21 k_22=>Ylc es_21 k_22 F (.ptr (B.length,0)) fun es_23 k_24=>Zdn (List.set D A (.map es_23 k_24)) fun A=>J4 Q m1 a0 A) (J4 Q m1 a0 B)) (Zbf a0 fun A C=>Zcb (Zaf B (.ptr (A,C + 0))) fun A=>Zdn (B ++ [.cells Zbs [.str A,.slice none 0 0 true,.ptr none] false]) fun A=>Zbf a0 fun C D=>xSl (Zaf A (.ptr (C,D + 1))) fun C D E F=>L7 Q m1 B.length 0 C D E F (((D:Nat):Int)) 0 A)):Zad pg Zgr [.ptr a0,.map m1] h Q:=
 Zad.of_body kp (c:=cod fn) (fn:=fn) Go.Proofs.Try.func102 (by kernel_rfl) (by kernel_rfl) (Nat.le_of_ble_eq_true (by kernel_rfl))
  (cast (by kernel_rfl) ht)
end Zdu
end Go.Sim

set_option maxRecDepth 100000
set_option maxHeartbeats 0
set_option linter.unusedVariables false
namespace Go.Sim
open Go Go.RowKit
end Go.Sim

set_option maxRecDepth 100000
set_option maxHeartbeats 0
set_option linter.unusedVariables false
namespace Go.Sim
open Go Go.RowKit
namespace Zej
noncomputable abbrev fn:Func:=Go.Proofs.Try.f104
def kp:Zce:=[(3000008,[1,0,2,6]),(1000008,[0,1,2,22,23,24])]
noncomputable def C (p:List Nat):Code:=(cod fn).sub p
def KR (Q:QT):KT:=Zet pg fn.results.toList Q
abbrev T8:=Pt→Option Nat→Option Nat→Pt→Nat→Nat→Bool→Int→Int→Zaa→Prop
def E8 (R8:T8) (env:Env) (h:Zaa):Prop:=Zbx 0 env fun v env=>Zfw v fun a0=>Zbx 1 env fun v env=>Yeu v fun m1=>Zbx 2 env fun v env=>Yeu v fun m2=>Zbx 22 env fun v env=>xSl v fun a22 n22 c22 e22=>Zbx 23 env fun v env=>Zdz .i64 v fun x23=>Zbx 24 env fun v env=>Zdz .i64 v fun x24=>Ziy env (R8 a0 m1 m2 a22 n22 c22 e22 x23 x24 h)
theorem Zxk {R8:T8} {env:Env} {h:Zaa} (hi:E8 R8 env h):∃ a0,∃ m1,∃ m2,∃ a22,∃ n22,∃ c22,∃ e22,∃ x23,∃ x24,env=[(0,.ptr a0),(1,.map m1),(2,.map m2),(22,.slice a22 n22 c22 e22),(23,.int .i64 x23),(24,.int .i64 x24)]∧R8 a0 m1 m2 a22 n22 c22 e22 x23 x24 h:=by
 unfold E8 at hi
 repeat ((first | (have k:=Zae hi; clear hi; obtain ⟨_,_,e,hi⟩:=k) | (have k:=Zbu hi; clear hi; obtain ⟨_,e,hi⟩:=k) | (have k:=Zat hi; clear hi; obtain ⟨_,e,hi⟩:=k) | (have k:=Zbt hi; clear hi; obtain ⟨_,_,_,_,e,hi⟩:=k) | (have k:=Zyy hi; clear hi; obtain ⟨_,e,hi⟩:=k)); subst e)
 obtain ⟨rfl,hi⟩:=Zbj hi
 exact ⟨_,_,_,_,_,_,_,_,_,rfl,hi⟩
def K0 (Q:QT):KT:=andThen (fun env' h'=>(match kp.find 4000013 with | some ks=>Den pg fn.ntmps (C [1,1,1,1,1,1]) (env'.keep ks) h' (KR Q) | none=>den pg fn.ntmps kp (C [1,1,1,1,1,1]) env' h' (KR Q))) (KR Q)
def K1 (Q:QT):KT:=Zcg 0 (K0 Q)
def K2 (Q:QT):KT:=left kp 8 (K1 Q)
def K3 (Q:QT) (R8:T8):KT:=rnd ((kp.find 1000008).getD []) (E8 R8) (K2 Q)
def L8 (Q:QT) (a0:Pt) (m1 m2:Option Nat) (a22:Pt) (n22 c22:Nat) (e22:Bool) (x23 x24:Int) (h:Zaa):Prop:=Zdt (Den pg fn.ntmps (C [1,1,1,1,1,0,1,0,0])) ((kp.find 1000008).getD []) (K2 Q) [(0,.ptr a0),(1,.map m1),(2,.map m2),(22,.slice a22 n22 c22 e22),(23,.int .i64 x23),(24,.int .i64 x24)] h
def Ypz (Q:QT) (m1:Option Nat) (a0:Pt) (m2:Option Nat) (h:Zaa):Prop:=At (K1 Q) (.exit 0) [(1,.map m1),(0,.ptr a0),(2,.map m2),(6,.undef)] h
def L8t (Q:QT) (R8:T8) (a0:Pt) (m1 m2:Option Nat) (a22:Pt) (n22 c22:Nat) (e22:Bool) (x23 x24:Int) (h:Zaa):Prop:=
 bcase (decide ((x24:Int) < x23)) ((0≤(x24:Int)∧(x24:Int) < (n22:Nat))∧(Zbf a22 fun A B=>Zfw (Zaf h (.ptr (A,B + (Int.toNat x24) * 1))) fun A=>Zad pg Zfh [.ptr A,.map m1,.map m2] h fun A B=>
 Zbw A fun A=>bcase A (Q (.bool true) B) (R8 a0 m1 m2 a22 n22 c22 e22 x23 (IntKind.wrap .i64 (x24 + 1)) B))) (Ypz Q m1 a0 m2 h)
theorem Ymq (Q:QT) (R8:T8) (a0:Pt) (m1 m2:Option Nat) (a22:Pt) (n22 c22:Nat) (e22:Bool) (x23 x24:Int) (h:Zaa) (ht:L8t Q R8 a0 m1 m2 a22 n22 c22 e22 x23 x24 h):Den pg fn.ntmps (C [1,1,1,1,1,0,1,0,0]) [(0,.ptr a0),(1,.map m1),(2,.map m2),(22,.slice a22 n22 c22 e22),(23,.int .i64 x23),(24,.int .i64 x24)] h (K3 Q R8):=
 Zax (kp:=kp) (cast (by kernel_rfl) ht)
theorem L8ind (Q:QT) (a0:Pt) (m1 m2:Option Nat) (a22:Pt) (n22 c22:Nat) (e22:Bool) (x23:Int) {G:Type} (J:G→Int→Zaa→Prop) (m:G→Nat)
 (hr:∀ (g:G) (x24:Int) (h:Zaa),J g x24 h→∀ (R8:T8),(∀ g' (x24:Int) (h:Zaa),m g' < m g→J g' x24 h→R8 a0 m1 m2 a22 n22 c22 e22 x23 x24 h)→L8t Q R8 a0 m1 m2 a22 n22 c22 e22 x23 x24 h)
 (g:G) (x24:Int) (h:Zaa) (hj:J g x24 h):L8 Q a0 m1 m2 a22 n22 c22 e22 x23 x24 h:=by
 let P:=fun (K:Int→Zaa→Prop) a0' m1' m2' a22' n22' c22' e22' x23' x24 h=>a0=a0'∧m1=m1'∧m2=m2'∧a22=a22'∧n22=n22'∧c22=c22'∧e22=e22'∧x23=x23'∧K x24 h
 refine Zdt.inv2 (fun g=>E8 (P (J g))) (fun g=>E8 (P fun x24 h=>∃ g',m g' < m g∧J g' x24 h)) m ?_ ?_ g ⟨rfl,rfl,rfl,rfl,rfl,rfl,rfl,rfl,hj⟩
 ·intro g env h hi
  obtain ⟨a0',m1',m2',a22',n22',c22',e22',x23',x24,rfl,rfl,rfl,rfl,rfl,rfl,rfl,rfl,rfl,hj⟩:=Zxk hi
  exact Ymq Q _ a0 m1 m2 a22 n22 c22 e22 x23 x24 h (hr g x24 h hj (P fun x24 h=>∃ g',m g' < m g∧J g' x24 h) fun g' x24 h hlt hj=>⟨rfl,rfl,rfl,rfl,rfl,rfl,rfl,rfl,g',hlt,hj⟩)
 ·intro g env h hi
  obtain ⟨a0',m1',m2',a22',n22',c22',e22',x23',x24,rfl,rfl,rfl,rfl,rfl,rfl,rfl,rfl,rfl,g',hlt,hj⟩:=Zxk hi
  exact ⟨g',hlt,rfl,rfl,rfl,rfl,rfl,rfl,rfl,rfl,hj⟩
theorem A8x0i (Q:QT) (m1:Option Nat) (a0:Pt) (m2:Option Nat) (h:Zaa) (ht :
 xMp m1 fun A=>Zbf a0 fun B C=>Zdm h (some A) fun es_36 k_37=>Yki (Zkg h es_36 (B,C) 0) es_36 fun es_38=>Zdn (List.set h A (.map es_38 k_37)) fun A=>xMp m2 fun B=>Zbf a0 fun C D=>Zdm A (some B) fun es_43 k_44=>Yir (Zkg A es_43 (C,D) 0) es_43 k_44 (C,D) (.bool true) fun es_45 k_46=>Zdn (List.set A B (.map es_45 k_46)) fun A=>Q (.bool false) A):Ypz Q m1 a0 m2 h:=
 At.mk (cast (by kernel_rfl) ht)
theorem call (a0:Pt) (m1 m2:Option Nat) (h:Zaa) (Q:QT) (ht :
 Zad pg Zgk [.ptr a0] h fun A B=>
 Zfw A fun A=>Zbf A fun C D=>Zdm B m1 fun es_3 k_4=>Zsv (Zkg B es_3 (C,D) 0) fun C=>Zbw (some (Option.getD C (.bool false))) fun C=>bcase C (Q (.bool true) B) (Zbf A fun C D=>Zdm B m2 fun es_9 k_10=>Zsv (Zkg B es_9 (C,D) 0) fun C=>Zbw (some (Option.getD C (.bool false))) fun C=>bcase C (Q (.bool false) B) (xMp m1 fun C=>Zbf A fun D E=>Zdm B (some C) fun es_16 k_17=>Yir (Zkg B es_16 (D,E) 0) es_16 k_17 (D,E) (.bool true) fun es_18 k_19=>Zdn (List.set B C (.map es_18 k_19)) fun B=>Zbf A fun C D=>xSl (Zaf B (.ptr (C,D + 1))) fun C D E F=>L8 Q A m1 m2 C D E F (((D:Nat):Int)) 0 B))):Zad pg Zfh [.ptr a0,.map m1,.map m2] h Q:=
 Zad.of_body kp (c:=cod fn) (fn:=fn) Go.Proofs.Try.func104 (by kernel_rfl) (by kernel_rfl) (Nat.le_of_ble_eq_true (by kernel_rfl))
  (cast (by kernel_rfl) ht)
end Zej
namespace Znd
noncomputable abbrev fn:Func:=Go.Proofs.Try.f57
def kp:Zce:=[]
noncomputable def C (p:List Nat):Code:=(cod fn).sub p
def KR (Q:QT):KT:=Zet pg fn.results.toList Q
theorem call (a0:Pt) (h:Zaa) (Q:QT) (ht :
 Zdn (h ++ [.map [] 0]) fun A=>Zdn (A ++ [.map [] 0]) fun B=>Zad pg Zfh [.ptr a0,.map ((some h.length)),.map ((some A.length))] B fun A B=>
 Zbw A fun A=>Q (.bool (!A)) B):Zad pg Zjj [.ptr a0] h Q:=
 Zad.of_body kp (c:=cod fn) (fn:=fn) Go.Proofs.Try.func57 (by kernel_rfl) (by kernel_rfl) (Nat.le_of_ble_eq_true (by kernel_rfl))
  (cast (by kernel_rfl) ht)
end Znd
end Go.Sim
