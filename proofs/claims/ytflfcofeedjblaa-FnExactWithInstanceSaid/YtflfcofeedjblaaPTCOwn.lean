/- A part of the proof of a statement of this seat: see the text that holds the theorem. No condition. -/
import Derived.Test.YtflfcofeedjblaaNm
set_option linter.unusedVariables false
set_option linter.unusedSimpArgs false
set_option linter.all false
set_option maxRecDepth 100000
set_option maxHeartbeats 0
set_option linter.unusedVariables false
namespace Go.Sim
open Go Go.RowKit
namespace Zgo
noncomputable abbrev fn:Func:=Go.Proofs.Try.f71
def kp:Zcs:=[(3000002,[4]),(1000002,[0,1,5])]
noncomputable def C (p:List Nat):Code:=(cod fn).sub p
def KR (Q:QT):KT:=Zfq pg fn.results.toList Q
abbrev T2:=List Nat→Int→Int→Zab→Prop
def E2 (R2:T2) (env:Env) (h:Zab):Prop:=Zda 0 env fun v env=>Zbt v fun x0=>Zda 1 env fun v env=>Zfn .u8 v fun x1=>Zda 5 env fun v env=>Zfn .i64 v fun x5=>Zmb env (R2 x0 x1 x5 h)
theorem Zdp {R2:T2} {env:Env} {h:Zab} (hi:E2 R2 env h):∃ x0,∃ x1,∃ x5,env=[(0,.str x0),(1,.int .u8 x1),(5,.int .i64 x5)]∧R2 x0 x1 x5 h:=by
 unfold E2 at hi
 repeat ((first | (have k:=Zas hi; clear hi; obtain ⟨_,_,e,hi⟩:=k) | (have k:=Zir hi; clear hi; obtain ⟨_,e,hi⟩:=k) | (have k:=Zbe hi; clear hi; obtain ⟨_,e,hi⟩:=k)); subst e)
 obtain ⟨rfl,hi⟩:=Zbz hi
 exact ⟨_,_,_,rfl,hi⟩
def K0 (Q:QT):KT:=andThen (fun env' h'=>(match kp.find 4000006 with | some ks=>Den pg fn.ntmps (C [1,1]) (env'.keep ks) h' (KR Q) | none=>den pg fn.ntmps kp (C [1,1]) env' h' (KR Q))) (KR Q)
def K1 (Q:QT):KT:=Zdm 0 (K0 Q)
def K2 (Q:QT):KT:=left kp 2 (K1 Q)
def K3 (Q:QT) (R2:T2):KT:=rnd ((kp.find 1000002).getD []) (E2 R2) (K2 Q)
def L2 (Q:QT) (x0:List Nat) (x1 x5:Int) (h:Zab):Prop:=Zfd (Den pg fn.ntmps (C [1,0,1,0,0])) ((kp.find 1000002).getD []) (K2 Q) [(0,.str x0),(1,.int .u8 x1),(5,.int .i64 x5)] h
def Zkr (Q:QT) (h:Zab):Prop:=At (K1 Q) (.exit 0) [(4,.undef)] h
def L2t (Q:QT) (R2:T2) (x0:List Nat) (x1 x5:Int) (h:Zab):Prop:=
 bcase (decide ((x5:Int) < (((List.length x0:Nat):Int)))) (Zjv x0 x5 fun A=>bcase ((((A:Nat):Int):Int) == x1) (Q (.int .i64 x5) h) (R2 x0 x1 (IntKind.wrap .i64 (x5 + 1)) h)) (Zkr Q h)
theorem Zih (Q:QT) (R2:T2) (x0:List Nat) (x1 x5:Int) (h:Zab) (ht:L2t Q R2 x0 x1 x5 h):Den pg fn.ntmps (C [1,0,1,0,0]) [(0,.str x0),(1,.int .u8 x1),(5,.int .i64 x5)] h (K3 Q R2):=
 Zbs (kp:=kp) (cast (by kernel_rfl) ht)
theorem L2ind (Q:QT) (x0:List Nat) (x1:Int) {G:Type} (J:G→Int→Zab→Prop) (m:G→Nat)
 (hr:∀ (g:G) (x5:Int) (h:Zab),J g x5 h→∀ (R2:T2),(∀ g' (x5:Int) (h:Zab),m g' < m g→J g' x5 h→R2 x0 x1 x5 h)→L2t Q R2 x0 x1 x5 h)
 (g:G) (x5:Int) (h:Zab) (hj:J g x5 h):L2 Q x0 x1 x5 h:=by
 let P:=fun (K:Int→Zab→Prop) x0' x1' x5 h=>x0=x0'∧x1=x1'∧K x5 h
 refine Zfd.inv2 (fun g=>E2 (P (J g))) (fun g=>E2 (P fun x5 h=>∃ g',m g' < m g∧J g' x5 h)) m ?_ ?_ g ⟨rfl,rfl,hj⟩
 ·intro g env h hi
  obtain ⟨x0',x1',x5,rfl,rfl,rfl,hj⟩:=Zdp hi
  exact Zih Q _ x0 x1 x5 h (hr g x5 h hj (P fun x5 h=>∃ g',m g' < m g∧J g' x5 h) fun g' x5 h hlt hj=>⟨rfl,rfl,g',hlt,hj⟩)
 ·intro g env h hi
  obtain ⟨x0',x1',x5,rfl,rfl,rfl,g',hlt,hj⟩:=Zdp hi
  exact ⟨g',hlt,rfl,rfl,hj⟩
theorem A2x0i (Q:QT) (h:Zab) (ht :
 Q (.int .i64 (-1)) h):Zkr Q h:=
 At.mk (cast (by kernel_rfl) ht)
theorem call (x0:List Nat) (x1:Int) (h:Zab) (Q:QT) (ht :
 L2 Q x0 x1 0 h):Zag pg Zgs [.str x0,.int .u8 x1] h Q:=
 Zag.of_body kp (c:=cod fn) (fn:=fn) Go.Proofs.Try.func71 (by kernel_rfl) (by kernel_rfl) (Nat.le_of_ble_eq_true (by kernel_rfl))
  (cast (by kernel_rfl) ht)
end Zgo
namespace Zkj
noncomputable abbrev fn:Func:=Go.Proofs.Try.f84
def kp:Zcs:=[(4000008,[])]
noncomputable def C (p:List Nat):Code:=(cod fn).sub p
def KR (Q:QT):KT:=Zfq pg fn.results.toList Q
def J8 (Q:QT) (h:Zab):Prop:=Den pg fn.ntmps (C [1,1]) [] h (KR Q)
theorem J8i (Q:QT) (h:Zab) (ht :
 Q (.int .i64 0) h):J8 Q h:=
 Zbs (kp:=kp) (cast (by kernel_rfl) ht)
theorem call (x0:Int) (h:Zab) (Q:QT) (ht :
 Zag pg Zgs [.str ([105,98,117,108,109,112,120,121,122,88,89,90]),.int .u8 x0] h fun A B=>
 Zgn .i64 A fun A=>bcase (decide ((A:Int) < 0)) (Q (.int .i64 (-1)) B) (bcase ((A:Int) == 3) (Q (.int .i64 1) B) (bcase ((A:Int) == 4) (Q (.int .i64 1) B) (bcase ((A:Int) == 5) (Q (.int .i64 2) B) (J8 Q B))))):Zag pg Zin [.int .u8 x0] h Q:=
 Zag.of_body kp (c:=cod fn) (fn:=fn) Go.Proofs.Try.func84 (by kernel_rfl) (by kernel_rfl) (Nat.le_of_ble_eq_true (by kernel_rfl))
  (cast (by kernel_rfl) ht)
end Zkj
namespace Ziy
noncomputable abbrev fn:Func:=Go.Proofs.Try.f83
def kp:Zcs:=[(2000001,[12,0]),(2000005,[2])]
noncomputable def C (p:List Nat):Code:=(cod fn).sub p
def KR (Q:QT):KT:=Zfq pg fn.results.toList Q
theorem call (a0:Pt) (h:Zab) (Q:QT) (ht :
 Zcg a0 fun A B=>Zcg a0 fun C D=>Zgn .i64 (Zaf h (.ptr (A,B + 1))) fun E=>Zbt (Zaf h (.ptr (C,D + 0))) fun C=>(Zaf h (.ptr (A,B + 1))=Zaf h (.ptr (A,B + 1)))∧bcase (decide ((E:Int) ≥ (((List.length C:Nat):Int)))) (Zcg a0 fun A B=>Zbk (Zaw h (.ptr (A,B + 2)) [.bool true]) fun A=>Q (.int .u8 0) A) (Zcg a0 fun A B=>Zgn .i64 (Zaf h (.ptr (A,B + 1))) fun A=>Zcg a0 fun B C=>Zbk (Zaw h (.ptr (B,C + 1)) [.int .i64 (IntKind.wrap .i64 (A + 1))]) fun A=>Zcg a0 fun B C=>Zcg a0 fun D E=>Zbt (Zaf A (.ptr (B,C + 0))) fun F=>Zgn .i64 (Zaf A (.ptr (D,E + 1))) fun D=>(Zaf A (.ptr (B,C + 0))=Zaf A (.ptr (B,C + 0)))∧Zjv F (IntKind.wrap .i64 (D - 1)) fun B=>Q (.int .u8 (((B:Nat):Int))) A)):Zag pg Zec [.ptr a0] h Q:=
 Zag.of_body kp (c:=cod fn) (fn:=fn) Go.Proofs.Try.func83 (by kernel_rfl) (by kernel_rfl) (Nat.le_of_ble_eq_true (by kernel_rfl))
  (cast (by kernel_rfl) ht)
end Ziy
namespace Zbc
noncomputable abbrev fn:Func:=Go.Proofs.Try.f76
def kp:Zcs:=[(4000004,[0,2,3,4]),(3000005,[4,0,3,2]),(1000005,[0,2,3,4,5]),(4000007,[0,5,3,4,2]),(2000007,[0,3,5,4,2]),(4000008,[0,3,5,4,2]),(2000009,[5,4,0,3,2]),(4000006,[5,4,0,3,2]),(4000012,[3,2])]
noncomputable def C (p:List Nat):Code:=(cod fn).sub p
def KR (Q:QT):KT:=Zfq pg fn.results.toList Q
abbrev T5:=Pt→Nat→Nat→Nat→Nat→Int→Int→Zab→Prop
def E5 (R5:T5) (env:Env) (h:Zab):Prop:=Zda 0 env fun v env=>Znb v fun a0=>Zda 2 env fun v env=>Znb v fun a=>Zcg a fun i2 o2=>Zda 3 env fun v env=>Znb v fun a=>Zcg a fun i3 o3=>Zda 4 env fun v env=>Zfn .i64 v fun x4=>Zda 5 env fun v env=>Zfn .i64 v fun x5=>Zmb env (R5 a0 i2 o2 i3 o3 x4 x5 h)
theorem Zjy {R5:T5} {env:Env} {h:Zab} (hi:E5 R5 env h):∃ a0,∃ i2,∃ o2,∃ i3,∃ o3,∃ x4,∃ x5,env=[(0,.ptr a0),(2,.ptr (i2,o2)),(3,.ptr (i3,o3)),(4,.int .i64 x4),(5,.int .i64 x5)]∧R5 a0 i2 o2 i3 o3 x4 x5 h:=by
 unfold E5 at hi
 have hi0:=hi
 clear hi
 obtain ⟨_,_,rfl,hi1⟩:=Zas hi0
 obtain ⟨a0,rfl,hi2⟩:=Zdw hi1
 obtain ⟨_,_,rfl,hi3⟩:=Zas hi2
 obtain ⟨a,rfl,hi4⟩:=Zdw hi3
 obtain ⟨i2,o2,rfl,hi5⟩:=Zcw hi4
 obtain ⟨_,_,rfl,hi6⟩:=Zas hi5
 obtain ⟨a,rfl,hi7⟩:=Zdw hi6
 obtain ⟨i3,o3,rfl,hi8⟩:=Zcw hi7
 obtain ⟨_,_,rfl,hi9⟩:=Zas hi8
 obtain ⟨x4,rfl,hi10⟩:=Zbe hi9
 obtain ⟨_,_,rfl,hi11⟩:=Zas hi10
 obtain ⟨x5,rfl,hi12⟩:=Zbe hi11
 obtain ⟨rfl,hi13⟩:=Zbz hi12
 have hi:=hi13
 exact ⟨a0,i2,o2,i3,o3,x4,x5,rfl,hi⟩
def K0 (Q:QT):KT:=andThen (fun env' h'=>(match kp.find 4000010 with | some ks=>Den pg fn.ntmps (C [1,1,1,1,1]) (env'.keep ks) h' (KR Q) | none=>den pg fn.ntmps kp (C [1,1,1,1,1]) env' h' (KR Q))) (KR Q)
def K1 (Q:QT):KT:=Zdm 0 (K0 Q)
def K2 (Q:QT):KT:=left kp 5 (K1 Q)
def K3 (Q:QT) (R5:T5):KT:=rnd ((kp.find 1000005).getD []) (E5 R5) (K2 Q)
def K4 (Q:QT) (R5:T5):KT:=andThen (fun env' h'=>(match kp.find 4000006 with | some ks=>Den pg fn.ntmps (C [1,1,1,1,0,1,0,0,1,1]) (env'.keep ks) h' (K3 Q R5) | none=>den pg fn.ntmps kp (C [1,1,1,1,0,1,0,0,1,1]) env' h' (K3 Q R5))) (K3 Q R5)
def K5 (Q:QT) (R5:T5):KT:=Zdm 1 (K4 Q R5)
def J4 (Q:QT) (a0:Pt) (i2 o2 i3 o3:Nat) (x4:Int) (h:Zab):Prop:=Den pg fn.ntmps (C [1,1,1,1]) [(0,.ptr a0),(2,.ptr (i2,o2)),(3,.ptr (i3,o3)),(4,.int .i64 x4)] h (KR Q)
def L5 (Q:QT) (a0:Pt) (i2 o2 i3 o3:Nat) (x4 x5:Int) (h:Zab):Prop:=Zfd (Den pg fn.ntmps (C [1,1,1,1,0,1,0,0])) ((kp.find 1000005).getD []) (K2 Q) [(0,.ptr a0),(2,.ptr (i2,o2)),(3,.ptr (i3,o3)),(4,.int .i64 x4),(5,.int .i64 x5)] h
def J7 (Q:QT) (R5:T5) (a0:Pt) (x5:Int) (i3 o3:Nat) (x4:Int) (i2 o2:Nat) (h:Zab):Prop:=Den pg fn.ntmps (C [1,1,1,1,0,1,0,0,1]) [(0,.ptr a0),(5,.int .i64 x5),(3,.ptr (i3,o3)),(4,.int .i64 x4),(2,.ptr (i2,o2))] h (K3 Q R5)
def A5x0 (Q:QT) (x4:Int) (a0:Pt) (i3 o3 i2 o2:Nat) (h:Zab):Prop:=At (K1 Q) (.exit 0) [(4,.int .i64 x4),(0,.ptr a0),(3,.ptr (i3,o3)),(2,.ptr (i2,o2))] h
def J8 (Q:QT) (R5:T5) (a0:Pt) (i3 o3:Nat) (x5 x4:Int) (i2 o2:Nat) (h:Zab):Prop:=Den pg fn.ntmps (C [1,1,1,1,0,1,0,0,1,0,0,1]) [(0,.ptr a0),(3,.ptr (i3,o3)),(5,.int .i64 x5),(4,.int .i64 x4),(2,.ptr (i2,o2))] h (K5 Q R5)
def J12 (Q:QT) (i3 o3 i2 o2:Nat) (h:Zab):Prop:=Den pg fn.ntmps (C [1,1,1,1,1,1]) [(3,.ptr (i3,o3)),(2,.ptr (i2,o2))] h (KR Q)
def J6 (Q:QT) (R5:T5) (x5 x4:Int) (a0:Pt) (i3 o3 i2 o2:Nat) (h:Zab):Prop:=Den pg fn.ntmps (C [1,1,1,1,0,1,0,0,1,1]) [(5,.int .i64 x5),(4,.int .i64 x4),(0,.ptr a0),(3,.ptr (i3,o3)),(2,.ptr (i2,o2))] h (K3 Q R5)
theorem J4i (Q:QT) (a0:Pt) (i2 o2 i3 o3:Nat) (x4:Int) (h:Zab) (ht :
 L5 Q a0 i2 o2 i3 o3 x4 0 h):J4 Q a0 i2 o2 i3 o3 x4 h:=
 Zbs (kp:=kp) (cast (by kernel_rfl) ht)
def L5t (Q:QT) (R5:T5) (a0:Pt) (i2 o2 i3 o3:Nat) (x4 x5:Int) (h:Zab):Prop:=
 bcase (decide ((x5:Int) < x4)) (Zcg a0 fun A B=>Zbw (Zaf h (.ptr (A,B + 2))) fun A=>bcase (!A) (J7 Q R5 a0 x5 i3 o3 x4 i2 o2 h) (A5x0 Q x4 a0 i3 o3 i2 o2 h)) (A5x0 Q x4 a0 i3 o3 i2 o2 h)
theorem Ztg (Q:QT) (R5:T5) (a0:Pt) (i2 o2 i3 o3:Nat) (x4 x5:Int) (h:Zab) (ht:L5t Q R5 a0 i2 o2 i3 o3 x4 x5 h):Den pg fn.ntmps (C [1,1,1,1,0,1,0,0]) [(0,.ptr a0),(2,.ptr (i2,o2)),(3,.ptr (i3,o3)),(4,.int .i64 x4),(5,.int .i64 x5)] h (K3 Q R5):=
 Zbs (kp:=kp) (cast (by kernel_rfl) ht)
theorem L5ind (Q:QT) (a0:Pt) (i2 o2 i3 o3:Nat) (x4:Int) {G:Type} (J:G→Int→Zab→Prop) (m:G→Nat)
 (hr:∀ (g:G) (x5:Int) (h:Zab),J g x5 h→∀ (R5:T5),(∀ g' (x5:Int) (h:Zab),m g' < m g→J g' x5 h→R5 a0 i2 o2 i3 o3 x4 x5 h)→L5t Q R5 a0 i2 o2 i3 o3 x4 x5 h)
 (g:G) (x5:Int) (h:Zab) (hj:J g x5 h):L5 Q a0 i2 o2 i3 o3 x4 x5 h:=by
 let P:=fun (K:Int→Zab→Prop) a0' i2' o2' i3' o3' x4' x5 h=>a0=a0'∧i2=i2'∧o2=o2'∧i3=i3'∧o3=o3'∧x4=x4'∧K x5 h
 refine Zfd.inv2 (fun g=>E5 (P (J g))) (fun g=>E5 (P fun x5 h=>∃ g',m g' < m g∧J g' x5 h)) m ?_ ?_ g ⟨rfl,rfl,rfl,rfl,rfl,rfl,hj⟩
 ·intro g env h hi
  obtain ⟨a0',i2',o2',i3',o3',x4',x5,rfl,rfl,rfl,rfl,rfl,rfl,rfl,hj⟩:=Zjy hi
  exact Ztg Q _ a0 i2 o2 i3 o3 x4 x5 h (hr g x5 h hj (P fun x5 h=>∃ g',m g' < m g∧J g' x5 h) fun g' x5 h hlt hj=>⟨rfl,rfl,rfl,rfl,rfl,rfl,g',hlt,hj⟩)
 ·intro g env h hi
  obtain ⟨a0',i2',o2',i3',o3',x4',x5,rfl,rfl,rfl,rfl,rfl,rfl,rfl,g',hlt,hj⟩:=Zjy hi
  exact ⟨g',hlt,rfl,rfl,rfl,rfl,rfl,rfl,hj⟩
theorem J7i (Q:QT) (R5:T5) (a0:Pt) (x5:Int) (i3 o3:Nat) (x4:Int) (i2 o2:Nat) (h:Zab) (ht :
 Zjv ([40,44]) x5 fun A=>Zag pg Zec [.ptr a0] h fun B C=>
 Zgn .u8 B fun B=>bcase (!((B:Int) == (((A:Nat):Int)))) (Zcg a0 fun A B=>Zbk (Zaw C (.ptr (A,B + 2)) [.bool true]) fun A=>J8 Q R5 a0 i3 o3 x5 x4 i2 o2 A) (Zcg a0 fun A B=>Zbw (Zaf C (.ptr (A,B + 2))) fun A=>Zcg a0 fun B D=>Zbk (Zaw C (.ptr (B,D + 2)) [.bool A]) fun A=>J8 Q R5 a0 i3 o3 x5 x4 i2 o2 A)):J7 Q R5 a0 x5 i3 o3 x4 i2 o2 h:=
 Zbs (kp:=kp) (cast (by kernel_rfl) ht)
theorem A5x0i (Q:QT) (x4:Int) (a0:Pt) (i3 o3 i2 o2:Nat) (h:Zab) (ht :
 bcase (decide ((x4:Int) > 0)) (Zcg a0 fun A B=>Zbw (Zaf h (.ptr (A,B + 2))) fun A=>bcase (!A) (Zag pg Zec [.ptr a0] h fun A B=>
 Zgn .u8 A fun A=>bcase (!((A:Int) == 41)) (Zcg a0 fun A C=>Zbk (Zaw B (.ptr (A,C + 2)) [.bool true]) fun A=>J12 Q i3 o3 i2 o2 A) (Zcg a0 fun A C=>Zbw (Zaf B (.ptr (A,C + 2))) fun A=>Zcg a0 fun C D=>Zbk (Zaw B (.ptr (C,D + 2)) [.bool A]) fun A=>J12 Q i3 o3 i2 o2 A)) (J12 Q i3 o3 i2 o2 h)) (J12 Q i3 o3 i2 o2 h)):A5x0 Q x4 a0 i3 o3 i2 o2 h:=
 At.mk (cast (by kernel_rfl) ht)
theorem J8i (Q:QT) (R5:T5) (a0:Pt) (i3 o3:Nat) (x5 x4:Int) (i2 o2:Nat) (h:Zab) (ht :
 Zcg a0 fun A B=>Zbw (Zaf h (.ptr (A,B + 2))) fun A=>bcase (!A) (xSl (Zaf h (.ptr (i3,o3 + 1))) fun A B C D=>Zag pg Zds [.ptr a0] h fun E F=>
 Zim E fun E=>Zad E fun E G=>Zgn .u8 E fun E=>Zad G fun G H=>xSl G fun G I J K=>Zbq H ((Zaf F (.ptr (i3,o3 + 1))=Zaf h (.ptr (i3,o3 + 1)))∧Zdd (F ++ [.cells Zao [.int .u8 E,.slice G I J K] false]) fun E=>(Zaf E (.ptr (i3,o3 + 1))=Zaf F (.ptr (i3,o3 + 1)))∧Zcc pg Zme E (.slice A B C D) (.slice (F.length,0) 1 1 true) fun A B=>xSl A fun A C D E=>Zbk (Zaw B (.ptr (i3,o3 + 1)) [.slice A C D E]) fun A=>J6 Q R5 x5 x4 a0 i3 o3 i2 o2 A)) (J6 Q R5 x5 x4 a0 i3 o3 i2 o2 h)):J8 Q R5 a0 i3 o3 x5 x4 i2 o2 h:=
 Zbs (kp:=kp) (cast (by kernel_rfl) ht)
theorem J12i (Q:QT) (i3 o3 i2 o2:Nat) (h:Zab) (ht :
 Zca (Zax h (.ptr (i3,o3)) 2) fun A=>Zad A fun A B=>Zgn .u8 A fun A=>Zad B fun B C=>xSl B fun B D E F=>Zbq C (Zbk (Zaw h (.ptr (i2,o2)) [.int .u8 A,.slice B D E F]) fun A=>Zca (Zax A (.ptr (i2,o2)) 2) fun B=>Zad B fun B C=>Zgn .u8 B fun B=>Zad C fun C D=>xSl C fun C E F G=>Zbq D (Q (.agg [.int .u8 B,.slice C E F G]) A))):J12 Q i3 o3 i2 o2 h:=
 Zbs (kp:=kp) (cast (by kernel_rfl) ht)
theorem J6i (Q:QT) (R5:T5) (x5 x4:Int) (a0:Pt) (i3 o3 i2 o2:Nat) (h:Zab) (ht :
 R5 a0 i2 o2 i3 o3 x4 (IntKind.wrap .i64 (x5 + 1)) h):J6 Q R5 x5 x4 a0 i3 o3 i2 o2 h:=
 Zbs (kp:=kp) (cast (by kernel_rfl) ht)
theorem call (a0:Pt) (h:Zab) (Q:QT) (ht :
 Zdd (h ++ [.cells Zao [.int .u8 0,.slice none 0 0 true] false]) fun A=>Zag pg Zec [.ptr a0] A fun A B=>
 Zgn .u8 A fun A=>Zdd (B ++ [.cells Zao [] false]) fun C=>Zdd (C ++ [.cells Zao [.int .u8 0,.slice none 0 0 true] false]) fun D=>Zbk (Zaw D (.ptr (C.length,0)) [.int .u8 A,.slice (B.length,0) 0 0 true]) fun A=>Zgn .u8 (Zaf A (.ptr (C.length,0 + 0))) fun B=>Zag pg Zin [.int .u8 B] A fun A B=>
 Zgn .i64 A fun A=>Zcg a0 fun D E=>Zbw (Zaf B (.ptr (D,E + 2))) fun D=>bcase D (Zcg a0 fun D E=>Zbk (Zaw B (.ptr (D,E + 2)) [.bool true]) fun D=>J4 Q a0 h.length 0 C.length 0 A D) (Zcg a0 fun D E=>Zbk (Zaw B (.ptr (D,E + 2)) [.bool (decide ((A:Int) < 0))]) fun B=>J4 Q a0 h.length 0 C.length 0 A B)):Zag pg Zds [.ptr a0] h Q:=
 Zag.of_body kp (c:=cod fn) (fn:=fn) Go.Proofs.Try.func76 (by kernel_rfl) (by kernel_rfl) (Nat.le_of_ble_eq_true (by kernel_rfl))
  (cast (by kernel_rfl) ht)
end Zbc
namespace Zli
noncomputable abbrev fn:Func:=Go.Proofs.Try.f70
def kp:Zcs:=[(4000005,[5,2])]
noncomputable def C (p:List Nat):Code:=(cod fn).sub p
def KR (Q:QT):KT:=Zfq pg fn.results.toList Q
def J5 (Q:QT) (i5 o5 i2 o2:Nat) (h:Zab):Prop:=Den pg fn.ntmps (C [1,1,1,1]) [(5,.ptr (i5,o5)),(2,.ptr (i2,o2))] h (KR Q)
theorem J5i (Q:QT) (i5 o5 i2 o2:Nat) (h:Zab) (ht :
 Zca (Zax h (.ptr (i5,o5)) 2) fun A=>Zad A fun A B=>Zgn .u8 A fun A=>Zad B fun B C=>xSl B fun B D E F=>Zbq C (Zbk (Zaw h (.ptr (i2,o2)) [.int .u8 A,.slice B D E F]) fun A=>Zca (Zax A (.ptr (i2,o2)) 2) fun B=>Zad B fun B C=>Zgn .u8 B fun B=>Zad C fun C D=>xSl C fun C E F G=>Zbq D (Q (.tup [.agg [.int .u8 B,.slice C E F G],.bool true]) A))):J5 Q i5 o5 i2 o2 h:=
 Zbs (kp:=kp) (cast (by kernel_rfl) ht)
theorem call (x0:List Nat) (h:Zab) (Q:QT) (ht :
 Zdd (h ++ [.cells Zao [.int .u8 0,.slice none 0 0 true] false]) fun A=>Zdd (A ++ [.cells Zcx [.str x0,.int .i64 0,.bool false] false]) fun B=>Zag pg Zds [.ptr (A.length,0)] B fun B C=>
 Zim B fun B=>Zad B fun B D=>Zgn .u8 B fun B=>Zad D fun D E=>xSl D fun D F G H=>Zbq E (Zdd (C ++ [.cells Zao [.int .u8 0,.slice none 0 0 true] false]) fun E=>Zbk (Zaw E (.ptr (C.length,0)) [.int .u8 B,.slice D F G H]) fun B=>Zbw (Zaf B (.ptr (A.length,0 + 2))) fun D=>bcase D (Zbk (Zaw B (.ptr (h.length,0)) [.int .u8 0,.slice none 0 0 true]) fun D=>Zca (Zax D (.ptr (h.length,0)) 2) fun E=>Zad E fun E F=>Zgn .u8 E fun E=>Zad F fun F G=>xSl F fun F H I J=>Zbq G (Q (.tup [.agg [.int .u8 E,.slice F H I J],.bool false]) D)) (Zgn .i64 (Zaf B (.ptr (A.length,0 + 1))) fun A=>bcase (!((A:Int) == (((List.length x0:Nat):Int)))) (Zbk (Zaw B (.ptr (h.length,0)) [.int .u8 0,.slice none 0 0 true]) fun A=>Zca (Zax A (.ptr (h.length,0)) 2) fun D=>Zad D fun D E=>Zgn .u8 D fun D=>Zad E fun E F=>xSl E fun E G H I=>Zbq F (Q (.tup [.agg [.int .u8 D,.slice E G H I],.bool false]) A)) (bcase (decide (((((List.length x0:Nat):Int)):Int) > 60)) (Zbk (Zaw B (.ptr (h.length,0)) [.int .u8 0,.slice none 0 0 true]) fun A=>Zca (Zax A (.ptr (h.length,0)) 2) fun D=>Zad D fun D E=>Zgn .u8 D fun D=>Zad E fun E F=>xSl E fun E G H I=>Zbq F (Q (.tup [.agg [.int .u8 D,.slice E G H I],.bool false]) A)) (J5 Q C.length 0 h.length 0 B))))):Zag pg Zlf [.str x0] h Q:=
 Zag.of_body kp (c:=cod fn) (fn:=fn) Go.Proofs.Try.func70 (by kernel_rfl) (by kernel_rfl) (Nat.le_of_ble_eq_true (by kernel_rfl))
  (cast (by kernel_rfl) ht)
end Zli
namespace Zlv
noncomputable abbrev fn:Func:=Go.Proofs.Try.f60
def kp:Zcs:=[]
noncomputable def C (p:List Nat):Code:=(cod fn).sub p
def KR (Q:QT):KT:=Zfq pg fn.results.toList Q
theorem call (x0:List Nat) (h:Zab) (Q:QT) (ht :
 Zag pg Zlf [.str x0] h fun A B=>
 Zqb A fun A=>Zad A fun A C=>Zim A fun A=>Zad A fun A D=>Zgn .u8 A fun A=>Zad D fun D E=>xSl D fun D F G H=>Zbq E (Zad C fun C E=>Zbw C fun C=>Zbq E (Zdd (B ++ [.cells Zao [.int .u8 0,.slice none 0 0 true] false]) fun E=>Zbk (Zaw E (.ptr (B.length,0)) [.int .u8 A,.slice D F G H]) fun A=>Q (.bool C) A))):Zag pg Zfm [.str x0] h Q:=
 Zag.of_body kp (c:=cod fn) (fn:=fn) Go.Proofs.Try.func60 (by kernel_rfl) (by kernel_rfl) (Nat.le_of_ble_eq_true (by kernel_rfl))
  (cast (by kernel_rfl) ht)
end Zlv
end Go.Sim

set_option maxRecDepth 100000
set_option maxHeartbeats 0
set_option linter.unusedVariables false
namespace Go.Sim
open Go Go.RowKit
namespace Zmq
noncomputable abbrev fn:Func:=Go.Proofs.Try.f77
def kp:Zcs:=[(4000009,[])]
noncomputable def C (p:List Nat):Code:=(cod fn).sub p
def KR (Q:QT):KT:=Zfq pg fn.results.toList Q
def J9 (Q:QT) (h:Zab):Prop:=Den pg fn.ntmps (C [1,1]) [] h (KR Q)
theorem J9i (Q:QT) (h:Zab) (ht :
 Q (.int .i64 (-1)) h):J9 Q h:=
 Zbs (kp:=kp) (cast (by kernel_rfl) ht)
theorem call (x0:List Nat) (h:Zab) (Q:QT) (ht :
 bcase (!((((List.length x0:Nat):Int):Int) == 1)) (Q (.int .i64 (-1)) h) (Zag pg Zem [.str ([105,98,117,120,121,122,88,89,90]),.str x0] h fun A B=>
 Zbw A fun A=>bcase A (Q (.int .i64 0) B) (bcase (decide (x0=[108])) (Q (.int .i64 1) B) (bcase (decide (x0=[109])) (Q (.int .i64 1) B) (bcase (decide (x0=[112])) (Q (.int .i64 2) B) (J9 Q B)))))):Zag pg Zjr [.str x0] h Q:=
 Zag.of_body kp (c:=cod fn) (fn:=fn) Go.Proofs.Try.func77 (by kernel_rfl) (by kernel_rfl) (Nat.le_of_ble_eq_true (by kernel_rfl))
  (cast (by kernel_rfl) ht)
end Zmq
namespace Zdr
noncomputable abbrev fn:Func:=Go.Proofs.Try.f74
def kp:Zcs:=[(4000003,[0]),(3000006,[4,0,2,3]),(1000006,[0,4,27,28]),(4000020,[4,0])]
noncomputable def C (p:List Nat):Code:=(cod fn).sub p
def KR (Q:QT):KT:=Zfq pg fn.results.toList Q
abbrev T6:=List Nat→Nat→Nat→Int→Int→Zab→Prop
def E6 (R6:T6) (env:Env) (h:Zab):Prop:=Zda 0 env fun v env=>Zbt v fun x0=>Zda 4 env fun v env=>Znb v fun a=>Zcg a fun i4 o4=>Zda 27 env fun v env=>Zfn .i64 v fun x27=>Zda 28 env fun v env=>Zfn .i64 v fun x28=>Zmb env (R6 x0 i4 o4 x27 x28 h)
theorem Yga {R6:T6} {env:Env} {h:Zab} (hi:E6 R6 env h):∃ x0,∃ i4,∃ o4,∃ x27,∃ x28,env=[(0,.str x0),(4,.ptr (i4,o4)),(27,.int .i64 x27),(28,.int .i64 x28)]∧R6 x0 i4 o4 x27 x28 h:=by
 unfold E6 at hi
 have hi0:=hi
 clear hi
 obtain ⟨_,_,rfl,hi1⟩:=Zas hi0
 obtain ⟨x0,rfl,hi2⟩:=Zir hi1
 obtain ⟨_,_,rfl,hi3⟩:=Zas hi2
 obtain ⟨a,rfl,hi4⟩:=Zdw hi3
 obtain ⟨i4,o4,rfl,hi5⟩:=Zcw hi4
 obtain ⟨_,_,rfl,hi6⟩:=Zas hi5
 obtain ⟨x27,rfl,hi7⟩:=Zbe hi6
 obtain ⟨_,_,rfl,hi8⟩:=Zas hi7
 obtain ⟨x28,rfl,hi9⟩:=Zbe hi8
 obtain ⟨rfl,hi10⟩:=Zbz hi9
 have hi:=hi10
 exact ⟨x0,i4,o4,x27,x28,rfl,hi⟩
def K0 (Q:QT):KT:=andThen (fun env' h'=>(match kp.find 4000016 with | some ks=>Den pg fn.ntmps (C [1,1,1,1,1]) (env'.keep ks) h' (KR Q) | none=>den pg fn.ntmps kp (C [1,1,1,1,1]) env' h' (KR Q))) (KR Q)
def K1 (Q:QT):KT:=Zdm 0 (K0 Q)
def K2 (Q:QT):KT:=left kp 6 (K1 Q)
def K3 (Q:QT) (R6:T6):KT:=rnd ((kp.find 1000006).getD []) (E6 R6) (K2 Q)
def J3 (Q:QT) (x0:List Nat) (h:Zab):Prop:=Den pg fn.ntmps (C [1,1]) [(0,.str x0)] h (KR Q)
def L6 (Q:QT) (x0:List Nat) (i4 o4:Nat) (x27 x28:Int) (h:Zab):Prop:=Zfd (Den pg fn.ntmps (C [1,1,1,1,0,1,0,0])) ((kp.find 1000006).getD []) (K2 Q) [(0,.str x0),(4,.ptr (i4,o4)),(27,.int .i64 x27),(28,.int .i64 x28)] h
def Ykk (Q:QT) (i4 o4:Nat) (x0:List Nat) (h:Zab):Prop:=At (K1 Q) (.exit 0) [(4,.ptr (i4,o4)),(0,.str x0),(2,.undef),(3,.undef)] h
def J20 (Q:QT) (i4 o4:Nat) (x0:List Nat) (h:Zab):Prop:=Den pg fn.ntmps (C [1,1,1,1,1,1]) [(4,.ptr (i4,o4)),(0,.str x0)] h (KR Q)
theorem J3i (Q:QT) (x0:List Nat) (h:Zab) (ht :
 (0≤(0:Int)∧(0:Int)≤1∧(1:Int)≤(List.length x0:Nat))∧(Zdd (h ++ [.cells Zea [.str (sub x0 0 1),.slice none 0 0 true,.ptr none] false]) fun A=>(0≤(1:Int)∧(1:Int)≤(List.length x0:Int)∧((List.length x0:Int):Int)≤(List.length x0:Nat))∧(Zbt (Zaf A (.ptr (h.length,0 + 0))) fun B=>Zag pg Zjr [.str B] A fun A B=>
 Zgn .i64 A fun A=>L6 Q (sub x0 1 ((List.length x0:Int))) h.length 0 A 0 B))):J3 Q x0 h:=
 Zbs (kp:=kp) (cast (by kernel_rfl) ht)
def L6t (Q:QT) (R6:T6) (x0:List Nat) (i4 o4:Nat) (x27 x28:Int) (h:Zab):Prop:=
 bcase (decide ((x28:Int) < x27)) ((0≤(x28:Int)∧(x28:Int)≤IntKind.wrap .i64 (x28 + 1)∧(IntKind.wrap .i64 (x28 + 1):Int)≤(List.length ([40,44]):Nat))∧(Zag pg Zhh [.str x0,.str (sub ([40,44]) x28 (IntKind.wrap .i64 (x28 + 1)))] h fun A B=>
 Zbw A fun A=>bcase (!A) (Q (.tup [.ptr none,.str x0]) B) ((0≤(1:Int)∧(1:Int)≤(List.length x0:Int)∧((List.length x0:Int):Int)≤(List.length x0:Nat))∧(Zag pg Zhm [.str (sub x0 1 ((List.length x0:Int)))] B fun A B=>
 Zqb A fun A=>Zad A fun A C=>Znb A fun A=>Zad C fun C D=>Zbt C fun C=>Zbq D (bcase (Option.isNone A) (Q (.tup [.ptr none,.str x0]) B) (xSl (Zaf B (.ptr (i4,o4 + 1))) fun D E F G=>Zdd (B ++ [.cells Zed [.ptr A] false]) fun A=>Zcc pg Zmn A (.slice D E F G) (.slice (B.length,0) 1 1 true) fun A B=>xSl A fun A D E F=>Zbk (Zaw B (.ptr (i4,o4 + 1)) [.slice A D E F]) fun A=>R6 C i4 o4 x27 (IntKind.wrap .i64 (x28 + 1)) A)))))) (Ykk Q i4 o4 x0 h)
theorem Yjq (Q:QT) (R6:T6) (x0:List Nat) (i4 o4:Nat) (x27 x28:Int) (h:Zab) (ht:L6t Q R6 x0 i4 o4 x27 x28 h):Den pg fn.ntmps (C [1,1,1,1,0,1,0,0]) [(0,.str x0),(4,.ptr (i4,o4)),(27,.int .i64 x27),(28,.int .i64 x28)] h (K3 Q R6):=
 Zbs (kp:=kp) (cast (by kernel_rfl) ht)
theorem L6ind (Q:QT) (i4 o4:Nat) (x27:Int) {G:Type} (J:G→List Nat→Int→Zab→Prop) (m:G→Nat)
 (hr:∀ (g:G) (x0:List Nat) (x28:Int) (h:Zab),J g x0 x28 h→∀ (R6:T6),(∀ g' (x0:List Nat) (x28:Int) (h:Zab),m g' < m g→J g' x0 x28 h→R6 x0 i4 o4 x27 x28 h)→L6t Q R6 x0 i4 o4 x27 x28 h)
 (g:G) (x0:List Nat) (x28:Int) (h:Zab) (hj:J g x0 x28 h):L6 Q x0 i4 o4 x27 x28 h:=by
 let P:=fun (K:List Nat→Int→Zab→Prop) x0 i4' o4' x27' x28 h=>i4=i4'∧o4=o4'∧x27=x27'∧K x0 x28 h
 refine Zfd.inv2 (fun g=>E6 (P (J g))) (fun g=>E6 (P fun x0 x28 h=>∃ g',m g' < m g∧J g' x0 x28 h)) m ?_ ?_ g ⟨rfl,rfl,rfl,hj⟩
 ·intro g env h hi
  obtain ⟨x0,i4',o4',x27',x28,rfl,rfl,rfl,rfl,hj⟩:=Yga hi
  exact Yjq Q _ x0 i4 o4 x27 x28 h (hr g x0 x28 h hj (P fun x0 x28 h=>∃ g',m g' < m g∧J g' x0 x28 h) fun g' x0 x28 h hlt hj=>⟨rfl,rfl,rfl,g',hlt,hj⟩)
 ·intro g env h hi
  obtain ⟨x0,i4',o4',x27',x28,rfl,rfl,rfl,rfl,g',hlt,hj⟩:=Yga hi
  exact ⟨g',hlt,rfl,rfl,rfl,hj⟩
theorem A6x0i (Q:QT) (i4 o4:Nat) (x0:List Nat) (h:Zab) (ht :
 xSl (Zaf h (.ptr (i4,o4 + 1))) fun A A B B=>bcase (decide (((((A:Nat):Int)):Int) > 0)) (Zag pg Zhh [.str x0,.str [41]] h fun A B=>
 Zbw A fun A=>bcase (!A) (Q (.tup [.ptr none,.str x0]) B) ((0≤(1:Int)∧(1:Int)≤(List.length x0:Int)∧((List.length x0:Int):Int)≤(List.length x0:Nat))∧(J20 Q i4 o4 (sub x0 1 ((List.length x0:Int))) B))) (J20 Q i4 o4 x0 h)):Ykk Q i4 o4 x0 h:=
 At.mk (cast (by kernel_rfl) ht)
theorem J20i (Q:QT) (i4 o4:Nat) (x0:List Nat) (h:Zab) (ht :
 Q (.tup [.ptr (i4,o4),.str x0]) h):J20 Q i4 o4 x0 h:=
 Zbs (kp:=kp) (cast (by kernel_rfl) ht)
theorem call (x0:List Nat) (h:Zab) (Q:QT) (ht :
 bcase (decide (x0=[])) (Q (.tup [.ptr none,.str x0]) h) ((0≤(0:Int)∧(0:Int)≤1∧(1:Int)≤(List.length x0:Nat))∧(Zag pg Zjr [.str (sub x0 0 1)] h fun A B=>
 Zgn .i64 A fun A=>bcase (decide ((A:Int) < 0)) (Q (.tup [.ptr none,.str x0]) B) (J3 Q x0 B)))):Zag pg Zhm [.str x0] h Q:=
 Zag.of_body kp (c:=cod fn) (fn:=fn) Go.Proofs.Try.func74 (by kernel_rfl) (by kernel_rfl) (Nat.le_of_ble_eq_true (by kernel_rfl))
  (cast (by kernel_rfl) ht)
end Zdr
namespace Zor
noncomputable abbrev fn:Func:=Go.Proofs.Try.f68
def kp:Zcs:=[]
noncomputable def C (p:List Nat):Code:=(cod fn).sub p
def KR (Q:QT):KT:=Zfq pg fn.results.toList Q
theorem call (x0:List Nat) (h:Zab) (Q:QT) (ht :
 bcase (decide (((((List.length x0:Nat):Int)):Int) > 60)) (Q (.ptr none) h) (Zag pg Zhm [.str x0] h fun A B=>
 Zqb A fun A=>Zad A fun A C=>Znb A fun A=>Zad C fun C D=>Zbt C fun C=>Zbq D (bcase (!(decide (C=[]))) (Q (.ptr none) B) (Q (.ptr A) B)))):Zag pg Zld [.str x0] h Q:=
 Zag.of_body kp (c:=cod fn) (fn:=fn) Go.Proofs.Try.func68 (by kernel_rfl) (by kernel_rfl) (Nat.le_of_ble_eq_true (by kernel_rfl))
  (cast (by kernel_rfl) ht)
end Zor
namespace Zlu
noncomputable abbrev fn:Func:=Go.Proofs.Try.f55
def kp:Zcs:=[]
noncomputable def C (p:List Nat):Code:=(cod fn).sub p
def KR (Q:QT):KT:=Zfq pg fn.results.toList Q
theorem call (x0:List Nat) (h:Zab) (Q:QT) (ht :
 Zag pg Zld [.str x0] h fun A B=>
 Znb A fun A=>Q (.bool (!(Option.isNone A))) B):Zag pg Zhb [.str x0] h Q:=
 Zag.of_body kp (c:=cod fn) (fn:=fn) Go.Proofs.Try.func55 (by kernel_rfl) (by kernel_rfl) (Nat.le_of_ble_eq_true (by kernel_rfl))
  (cast (by kernel_rfl) ht)
end Zlu
end Go.Sim

set_option maxRecDepth 100000
set_option maxHeartbeats 0
set_option linter.unusedVariables false
namespace Go.Sim
open Go Go.RowKit
namespace Zgb
noncomputable abbrev fn:Func:=Go.Proofs.Try.f48
def kp:Zcs:=[(3000004,[3]),(1000004,[0,3])]
noncomputable def C (p:List Nat):Code:=(cod fn).sub p
def KR (Q:QT):KT:=Zfq pg fn.results.toList Q
abbrev T4:=Int→List Nat→Zab→Prop
def E4 (R4:T4) (env:Env) (h:Zab):Prop:=Zda 0 env fun v env=>Zfn .i64 v fun x0=>Zda 3 env fun v env=>Zbt v fun x3=>Zmb env (R4 x0 x3 h)
theorem Zis {R4:T4} {env:Env} {h:Zab} (hi:E4 R4 env h):∃ x0,∃ x3,env=[(0,.int .i64 x0),(3,.str x3)]∧R4 x0 x3 h:=by
 unfold E4 at hi
 repeat ((first | (have k:=Zas hi; clear hi; obtain ⟨_,_,e,hi⟩:=k) | (have k:=Zir hi; clear hi; obtain ⟨_,e,hi⟩:=k) | (have k:=Zbe hi; clear hi; obtain ⟨_,e,hi⟩:=k)); subst e)
 obtain ⟨rfl,hi⟩:=Zbz hi
 exact ⟨_,_,rfl,hi⟩
def K0 (Q:QT):KT:=andThen (fun env' h'=>(match kp.find 4000007 with | some ks=>Den pg fn.ntmps (C [1,1,1,1]) (env'.keep ks) h' (KR Q) | none=>den pg fn.ntmps kp (C [1,1,1,1]) env' h' (KR Q))) (KR Q)
def K1 (Q:QT):KT:=Zdm 0 (K0 Q)
def K2 (Q:QT):KT:=left kp 4 (K1 Q)
def K3 (Q:QT) (R4:T4):KT:=rnd ((kp.find 1000004).getD []) (E4 R4) (K2 Q)
def L4 (Q:QT) (x0:Int) (x3:List Nat) (h:Zab):Prop:=Zfd (Den pg fn.ntmps (C [1,1,1,0,0,0])) ((kp.find 1000004).getD []) (K2 Q) [(0,.int .i64 x0),(3,.str x3)] h
def Zva (Q:QT) (x3:List Nat) (h:Zab):Prop:=At (K1 Q) (.exit 0) [(3,.str x3)] h
def L4t (Q:QT) (R4:T4) (x0:Int) (x3:List Nat) (h:Zab):Prop:=
 bcase (decide ((x0:Int) > 0)) ((10:Int)≠0∧(Zdd (h ++ [.cells Yhg [.int .u8 (IntKind.wrap .u8 (IntKind.wrap .i64 (48 + (Int.tmod x0 10))))] false]) fun A=>Zca (rowOf A (h.length,0) 1) fun B=>Zmm B fun B=>List.length B + List.length x3≤9223372036854775807∧((10:Int)≠0∧(R4 (IntKind.wrap .i64 (Int.tdiv x0 10)) (B ++ x3) A)))) (Zva Q x3 h)
theorem Zqe (Q:QT) (R4:T4) (x0:Int) (x3:List Nat) (h:Zab) (ht:L4t Q R4 x0 x3 h):Den pg fn.ntmps (C [1,1,1,0,0,0]) [(0,.int .i64 x0),(3,.str x3)] h (K3 Q R4):=
 Zbs (kp:=kp) (cast (by kernel_rfl) ht)
theorem L4ind (Q:QT) {G:Type} (J:G→Int→List Nat→Zab→Prop) (m:G→Nat)
 (hr:∀ (g:G) (x0:Int) (x3:List Nat) (h:Zab),J g x0 x3 h→∀ (R4:T4),(∀ g' (x0:Int) (x3:List Nat) (h:Zab),m g' < m g→J g' x0 x3 h→R4 x0 x3 h)→L4t Q R4 x0 x3 h)
 (g:G) (x0:Int) (x3:List Nat) (h:Zab) (hj:J g x0 x3 h):L4 Q x0 x3 h:=by
 let P:=fun (K:Int→List Nat→Zab→Prop) x0 x3 h=>K x0 x3 h
 refine Zfd.inv2 (fun g=>E4 (P (J g))) (fun g=>E4 (P fun x0 x3 h=>∃ g',m g' < m g∧J g' x0 x3 h)) m ?_ ?_ g hj
 ·intro g env h hi
  obtain ⟨x0,x3,rfl,hj⟩:=Zis hi
  exact Zqe Q _ x0 x3 h (hr g x0 x3 h hj (P fun x0 x3 h=>∃ g',m g' < m g∧J g' x0 x3 h) fun g' x0 x3 h hlt hj=>⟨g',hlt,hj⟩)
 ·intro g env h hi
  obtain ⟨x0,x3,rfl,g',hlt,hj⟩:=Zis hi
  exact ⟨g',hlt,hj⟩
theorem A4x0i (Q:QT) (x3:List Nat) (h:Zab) (ht :
 List.length [109] + List.length x3≤9223372036854775807∧(Q (.str ([109] ++ x3)) h)):Zva Q x3 h:=
 At.mk (cast (by kernel_rfl) ht)
theorem call (x0:Int) (h:Zab) (Q:QT) (ht :
 bcase (decide ((x0:Int)≤0)) (Q (.str ([109,48])) h) (L4 Q x0 [] h)):Zag pg Zco [.int .i64 x0] h Q:=
 Zag.of_body kp (c:=cod fn) (fn:=fn) Go.Proofs.Try.func48 (by kernel_rfl) (by kernel_rfl) (Nat.le_of_ble_eq_true (by kernel_rfl))
  (cast (by kernel_rfl) ht)
end Zgb
end Go.Sim

set_option maxRecDepth 100000
set_option maxHeartbeats 0
set_option linter.unusedVariables false
namespace Go.Sim
open Go Go.RowKit
namespace Zgt
noncomputable abbrev fn:Func:=Go.Proofs.Try.f24
def kp:Zcs:=[(3000003,[3]),(1000003,[0,3,4])]
noncomputable def C (p:List Nat):Code:=(cod fn).sub p
def KR (Q:QT):KT:=Zfq pg fn.results.toList Q
abbrev T3:=Pt→Nat→Nat→Bool→Pt→Nat→Nat→Bool→Int→Zab→Prop
def E3 (R3:T3) (env:Env) (h:Zab):Prop:=Zda 0 env fun v env=>xSl v fun a0 n0 c0 e0=>Zda 3 env fun v env=>xSl v fun a3 n3 c3 e3=>Zda 4 env fun v env=>Zfn .i64 v fun x4=>Zmb env (R3 a0 n0 c0 e0 a3 n3 c3 e3 x4 h)
theorem Zhi {R3:T3} {env:Env} {h:Zab} (hi:E3 R3 env h):∃ a0,∃ n0,∃ c0,∃ e0,∃ a3,∃ n3,∃ c3,∃ e3,∃ x4,env=[(0,.slice a0 n0 c0 e0),(3,.slice a3 n3 c3 e3),(4,.int .i64 x4)]∧R3 a0 n0 c0 e0 a3 n3 c3 e3 x4 h:=by
 unfold E3 at hi
 repeat ((first | (have k:=Zas hi; clear hi; obtain ⟨_,_,e,hi⟩:=k) | (have k:=Zct hi; clear hi; obtain ⟨_,_,_,_,e,hi⟩:=k) | (have k:=Zbe hi; clear hi; obtain ⟨_,e,hi⟩:=k)); subst e)
 obtain ⟨rfl,hi⟩:=Zbz hi
 exact ⟨_,_,_,_,_,_,_,_,_,rfl,hi⟩
def K0 (Q:QT):KT:=andThen (fun env' h'=>(match kp.find 4000006 with | some ks=>Den pg fn.ntmps (C [1,1,1]) (env'.keep ks) h' (KR Q) | none=>den pg fn.ntmps kp (C [1,1,1]) env' h' (KR Q))) (KR Q)
def K1 (Q:QT):KT:=Zdm 0 (K0 Q)
def K2 (Q:QT):KT:=left kp 3 (K1 Q)
def K3 (Q:QT) (R3:T3):KT:=rnd ((kp.find 1000003).getD []) (E3 R3) (K2 Q)
def L3 (Q:QT) (a0:Pt) (n0 c0:Nat) (e0:Bool) (a3:Pt) (n3 c3:Nat) (e3:Bool) (x4:Int) (h:Zab):Prop:=Zfd (Den pg fn.ntmps (C [1,1,0,1,0,0])) ((kp.find 1000003).getD []) (K2 Q) [(0,.slice a0 n0 c0 e0),(3,.slice a3 n3 c3 e3),(4,.int .i64 x4)] h
def Zsm (Q:QT) (a3:Pt) (n3 c3:Nat) (e3:Bool) (h:Zab):Prop:=At (K1 Q) (.exit 0) [(3,.slice a3 n3 c3 e3)] h
def L3t (Q:QT) (R3:T3) (a0:Pt) (n0 c0:Nat) (e0:Bool) (a3:Pt) (n3 c3:Nat) (e3:Bool) (x4:Int) (h:Zab):Prop:=
 bcase (decide ((x4:Int) < (((n0:Nat):Int)))) ((0≤(x4:Int)∧(x4:Int) < (n0:Nat))∧(Zcg a0 fun A B=>Zca (Zax h (.ptr (A,B + (Int.toNat x4) * 2)) 2) fun A=>Zad A fun A B=>Zbt A fun A=>Zad B fun B C=>Zbt B fun B=>Zbq C (Zag pg Zjd [.agg [.str A,.str B]] h fun A B=>
 Zim A fun A=>Zad A fun A C=>Zbt A fun A=>Zad C fun C D=>Zbt C fun C=>Zbq D ((0≤(x4:Int)∧(x4:Int) < (n3:Nat))∧(Zcg a3 fun D E=>Zbk (Zaw B (.ptr (D,E + (Int.toNat x4) * 2)) [.str A,.str C]) fun A=>R3 a0 n0 c0 e0 a3 n3 c3 e3 (IntKind.wrap .i64 (x4 + 1)) A))))) (Zsm Q a3 n3 c3 e3 h)
theorem Zpg (Q:QT) (R3:T3) (a0:Pt) (n0 c0:Nat) (e0:Bool) (a3:Pt) (n3 c3:Nat) (e3:Bool) (x4:Int) (h:Zab) (ht:L3t Q R3 a0 n0 c0 e0 a3 n3 c3 e3 x4 h):Den pg fn.ntmps (C [1,1,0,1,0,0]) [(0,.slice a0 n0 c0 e0),(3,.slice a3 n3 c3 e3),(4,.int .i64 x4)] h (K3 Q R3):=
 Zbs (kp:=kp) (cast (by kernel_rfl) ht)
theorem L3ind (Q:QT) (a0:Pt) (n0 c0:Nat) (e0:Bool) (a3:Pt) (n3 c3:Nat) (e3:Bool) {G:Type} (J:G→Int→Zab→Prop) (m:G→Nat)
 (hr:∀ (g:G) (x4:Int) (h:Zab),J g x4 h→∀ (R3:T3),(∀ g' (x4:Int) (h:Zab),m g' < m g→J g' x4 h→R3 a0 n0 c0 e0 a3 n3 c3 e3 x4 h)→L3t Q R3 a0 n0 c0 e0 a3 n3 c3 e3 x4 h)
 (g:G) (x4:Int) (h:Zab) (hj:J g x4 h):L3 Q a0 n0 c0 e0 a3 n3 c3 e3 x4 h:=by
 let P:=fun (K:Int→Zab→Prop) a0' n0' c0' e0' a3' n3' c3' e3' x4 h=>a0=a0'∧n0=n0'∧c0=c0'∧e0=e0'∧a3=a3'∧n3=n3'∧c3=c3'∧e3=e3'∧K x4 h
 refine Zfd.inv2 (fun g=>E3 (P (J g))) (fun g=>E3 (P fun x4 h=>∃ g',m g' < m g∧J g' x4 h)) m ?_ ?_ g ⟨rfl,rfl,rfl,rfl,rfl,rfl,rfl,rfl,hj⟩
 ·intro g env h hi
  obtain ⟨a0',n0',c0',e0',a3',n3',c3',e3',x4,rfl,rfl,rfl,rfl,rfl,rfl,rfl,rfl,rfl,hj⟩:=Zhi hi
  exact Zpg Q _ a0 n0 c0 e0 a3 n3 c3 e3 x4 h (hr g x4 h hj (P fun x4 h=>∃ g',m g' < m g∧J g' x4 h) fun g' x4 h hlt hj=>⟨rfl,rfl,rfl,rfl,rfl,rfl,rfl,rfl,g',hlt,hj⟩)
 ·intro g env h hi
  obtain ⟨a0',n0',c0',e0',a3',n3',c3',e3',x4,rfl,rfl,rfl,rfl,rfl,rfl,rfl,rfl,rfl,g',hlt,hj⟩:=Zhi hi
  exact ⟨g',hlt,rfl,rfl,rfl,rfl,rfl,rfl,rfl,rfl,hj⟩
theorem A3x0i (Q:QT) (a3:Pt) (n3 c3:Nat) (e3:Bool) (h:Zab) (ht :
 Q (.slice a3 n3 c3 e3) h):Zsm Q a3 n3 c3 e3 h:=
 At.mk (cast (by kernel_rfl) ht)
theorem call (a0:Pt) (n0 c0:Nat) (e0:Bool) (h:Zab) (Q:QT) (ht :
 IntKind.i64=IntKind.i64∧(IntKind.i64=IntKind.i64∧((0≤((((n0:Nat):Int)):Int)∧((((n0:Nat):Int)):Int)≤(((n0:Nat):Int))∧((((n0:Nat):Int)):Int) * (((32:Nat):Int) + 1)≤140737488355328)∧(Zdd (h ++ [.cells Zap (reps (Int.toNat ((((n0:Nat):Int)))) [.str [],.str []]) false]) fun A=>L3 Q a0 n0 c0 e0 (h.length,0) (Int.toNat ((((n0:Nat):Int)))) (Int.toNat ((((n0:Nat):Int)))) true 0 A)))):Zag pg Zkb [.slice a0 n0 c0 e0] h Q:=
 Zag.of_body kp (c:=cod fn) (fn:=fn) Go.Proofs.Try.func24 (by kernel_rfl) (by kernel_rfl) (Nat.le_of_ble_eq_true (by kernel_rfl))
  (cast (by kernel_rfl) ht)
end Zgt
namespace Zgw
noncomputable abbrev fn:Func:=Go.Proofs.Try.f31
def kp:Zcs:=[(3000004,[4]),(1000004,[0,1,5]),(2000006,[26,5,0,1])]
noncomputable def C (p:List Nat):Code:=(cod fn).sub p
def KR (Q:QT):KT:=Zfq pg fn.results.toList Q
abbrev T4:=Pt→Nat→Nat→Bool→Pt→Nat→Nat→Bool→Int→Zab→Prop
def E4 (R4:T4) (env:Env) (h:Zab):Prop:=Zda 0 env fun v env=>xSl v fun a0 n0 c0 e0=>Zda 1 env fun v env=>xSl v fun a1 n1 c1 e1=>Zda 5 env fun v env=>Zfn .i64 v fun x5=>Zmb env (R4 a0 n0 c0 e0 a1 n1 c1 e1 x5 h)
theorem Zis {R4:T4} {env:Env} {h:Zab} (hi:E4 R4 env h):∃ a0,∃ n0,∃ c0,∃ e0,∃ a1,∃ n1,∃ c1,∃ e1,∃ x5,env=[(0,.slice a0 n0 c0 e0),(1,.slice a1 n1 c1 e1),(5,.int .i64 x5)]∧R4 a0 n0 c0 e0 a1 n1 c1 e1 x5 h:=by
 unfold E4 at hi
 repeat ((first | (have k:=Zas hi; clear hi; obtain ⟨_,_,e,hi⟩:=k) | (have k:=Zct hi; clear hi; obtain ⟨_,_,_,_,e,hi⟩:=k) | (have k:=Zbe hi; clear hi; obtain ⟨_,e,hi⟩:=k)); subst e)
 obtain ⟨rfl,hi⟩:=Zbz hi
 exact ⟨_,_,_,_,_,_,_,_,_,rfl,hi⟩
def K0 (Q:QT):KT:=andThen (fun env' h'=>(match kp.find 4000008 with | some ks=>Den pg fn.ntmps (C [1,1,1]) (env'.keep ks) h' (KR Q) | none=>den pg fn.ntmps kp (C [1,1,1]) env' h' (KR Q))) (KR Q)
def K1 (Q:QT):KT:=Zdm 0 (K0 Q)
def K2 (Q:QT):KT:=left kp 4 (K1 Q)
def K3 (Q:QT) (R4:T4):KT:=rnd ((kp.find 1000004).getD []) (E4 R4) (K2 Q)
def L4 (Q:QT) (a0:Pt) (n0 c0:Nat) (e0:Bool) (a1:Pt) (n1 c1:Nat) (e1:Bool) (x5:Int) (h:Zab):Prop:=Zfd (Den pg fn.ntmps (C [1,1,0,1,0,0])) ((kp.find 1000004).getD []) (K2 Q) [(0,.slice a0 n0 c0 e0),(1,.slice a1 n1 c1 e1),(5,.int .i64 x5)] h
def Zva (Q:QT) (h:Zab):Prop:=At (K1 Q) (.exit 0) [(4,.undef)] h
def L4t (Q:QT) (R4:T4) (a0:Pt) (n0 c0:Nat) (e0:Bool) (a1:Pt) (n1 c1:Nat) (e1:Bool) (x5:Int) (h:Zab):Prop:=
 bcase (decide ((x5:Int) < (((n0:Nat):Int)))) ((0≤(x5:Int)∧(x5:Int) < (n0:Nat))∧(Zcg a0 fun A B=>(0≤(x5:Int)∧(x5:Int) < (n1:Nat))∧(Zcg a1 fun C D=>Zca (Zax h (.ptr (A,B + (Int.toNat x5) * 2)) 2) fun E=>Zad E fun E F=>Zbt E fun E=>Zad F fun F G=>Zbt F fun F=>Zbq G (Zca (Zax h (.ptr (C,D + (Int.toNat x5) * 2)) 2) fun C=>Zad C fun C D=>Zbt C fun C=>Zad D fun D G=>Zbt D fun D=>Zbq G ((Zax h (.ptr (A,B + (Int.toNat x5) * 2)) 2=Zax h (.ptr (A,B + (Int.toNat x5) * 2)) 2)∧Zag pg Zjb [.agg [.str E,.str F],.agg [.str C,.str D]] h fun A B=>
 Zbw A fun A=>bcase (!A) (Q (.bool false) B) (R4 a0 n0 c0 e0 a1 n1 c1 e1 (IntKind.wrap .i64 (x5 + 1)) B)))))) (Zva Q h)
theorem Zqe (Q:QT) (R4:T4) (a0:Pt) (n0 c0:Nat) (e0:Bool) (a1:Pt) (n1 c1:Nat) (e1:Bool) (x5:Int) (h:Zab) (ht:L4t Q R4 a0 n0 c0 e0 a1 n1 c1 e1 x5 h):Den pg fn.ntmps (C [1,1,0,1,0,0]) [(0,.slice a0 n0 c0 e0),(1,.slice a1 n1 c1 e1),(5,.int .i64 x5)] h (K3 Q R4):=
 Zbs (kp:=kp) (cast (by kernel_rfl) ht)
theorem L4ind (Q:QT) (a0:Pt) (n0 c0:Nat) (e0:Bool) (a1:Pt) (n1 c1:Nat) (e1:Bool) {G:Type} (J:G→Int→Zab→Prop) (m:G→Nat)
 (hr:∀ (g:G) (x5:Int) (h:Zab),J g x5 h→∀ (R4:T4),(∀ g' (x5:Int) (h:Zab),m g' < m g→J g' x5 h→R4 a0 n0 c0 e0 a1 n1 c1 e1 x5 h)→L4t Q R4 a0 n0 c0 e0 a1 n1 c1 e1 x5 h)
 (g:G) (x5:Int) (h:Zab) (hj:J g x5 h):L4 Q a0 n0 c0 e0 a1 n1 c1 e1 x5 h:=by
 let P:=fun (K:Int→Zab→Prop) a0' n0' c0' e0' a1' n1' c1' e1' x5 h=>a0=a0'∧n0=n0'∧c0=c0'∧e0=e0'∧a1=a1'∧n1=n1'∧c1=c1'∧e1=e1'∧K x5 h
 refine Zfd.inv2 (fun g=>E4 (P (J g))) (fun g=>E4 (P fun x5 h=>∃ g',m g' < m g∧J g' x5 h)) m ?_ ?_ g ⟨rfl,rfl,rfl,rfl,rfl,rfl,rfl,rfl,hj⟩
 ·intro g env h hi
  obtain ⟨a0',n0',c0',e0',a1',n1',c1',e1',x5,rfl,rfl,rfl,rfl,rfl,rfl,rfl,rfl,rfl,hj⟩:=Zis hi
  exact Zqe Q _ a0 n0 c0 e0 a1 n1 c1 e1 x5 h (hr g x5 h hj (P fun x5 h=>∃ g',m g' < m g∧J g' x5 h) fun g' x5 h hlt hj=>⟨rfl,rfl,rfl,rfl,rfl,rfl,rfl,rfl,g',hlt,hj⟩)
 ·intro g env h hi
  obtain ⟨a0',n0',c0',e0',a1',n1',c1',e1',x5,rfl,rfl,rfl,rfl,rfl,rfl,rfl,rfl,rfl,g',hlt,hj⟩:=Zis hi
  exact ⟨g',hlt,rfl,rfl,rfl,rfl,rfl,rfl,rfl,rfl,hj⟩
theorem A4x0i (Q:QT) (h:Zab) (ht :
 Q (.bool true) h):Zva Q h:=
 At.mk (cast (by kernel_rfl) ht)
theorem call (a0:Pt) (n0 c0:Nat) (e0:Bool) (a1:Pt) (n1 c1:Nat) (e1:Bool) (h:Zab) (Q:QT) (ht :
 bcase (!((((n0:Nat):Int):Int) == (((n1:Nat):Int)))) (Q (.bool false) h) (L4 Q a0 n0 c0 e0 a1 n1 c1 e1 0 h)):Zag pg Zkc [.slice a0 n0 c0 e0,.slice a1 n1 c1 e1] h Q:=
 Zag.of_body kp (c:=cod fn) (fn:=fn) Go.Proofs.Try.func31 (by kernel_rfl) (by kernel_rfl) (Nat.le_of_ble_eq_true (by kernel_rfl))
  (cast (by kernel_rfl) ht)
end Zgw
end Go.Sim

set_option maxRecDepth 100000
set_option maxHeartbeats 0
set_option linter.unusedVariables false
namespace Go.Sim
open Go Go.RowKit
namespace Zot
noncomputable abbrev fn:Func:=Go.Proofs.Try.f17
def kp:Zcs:=[]
noncomputable def C (p:List Nat):Code:=(cod fn).sub p
def KR (Q:QT):KT:=Zfq pg fn.results.toList Q
theorem call (x0x0 x0x1:List Nat) (x1:Int) (h:Zab) (Q:QT) (ht :
 Zdd (h ++ [.cells Znx [.str x0x0,.str x0x1] false]) fun A=>Zbt (Zaf A (.ptr (h.length,0 + 0))) fun B=>bcase (decide (((IntKind.wrap .i64 (x1 - (((List.length B:Nat):Int)))):Int) < 0)) (Q (.int .i64 (-1)) A) (Zbt (Zaf A (.ptr (h.length,0 + 1))) fun C=>bcase (decide (((IntKind.wrap .i64 ((IntKind.wrap .i64 (x1 - (((List.length B:Nat):Int)))) - (((List.length C:Nat):Int)))):Int) < 0)) (Q (.int .i64 (-1)) A) (Q (.int .i64 (IntKind.wrap .i64 ((IntKind.wrap .i64 (x1 - (((List.length B:Nat):Int)))) - (((List.length C:Nat):Int))))) A))):Zag pg Zjc [.agg [.str x0x0,.str x0x1],.int .i64 x1] h Q:=
 Zag.of_body kp (c:=cod fn) (fn:=fn) Go.Proofs.Try.func17 (by kernel_rfl) (by kernel_rfl) (Nat.le_of_ble_eq_true (by kernel_rfl))
  (cast (by kernel_rfl) ht)
end Zot
namespace Zoa
noncomputable abbrev fn:Func:=Go.Proofs.Try.f30
def kp:Zcs:=[]
noncomputable def C (p:List Nat):Code:=(cod fn).sub p
def KR (Q:QT):KT:=Zfq pg fn.results.toList Q
theorem call (x0x0 x0x1 x1x0 x1x1:List Nat) (h:Zab) (Q:QT) (ht :
 Zdd (h ++ [.cells Zap [.str x0x0,.str x0x1] false]) fun A=>Zdd (A ++ [.cells Zap [.str x1x0,.str x1x1] false]) fun B=>Zbt (Zaf B (.ptr (h.length,0 + 0))) fun C=>Zbt (Zaf B (.ptr (A.length,0 + 0))) fun D=>bcase (!(decide (C=D))) (Q (.bool false) B) (Zbt (Zaf B (.ptr (h.length,0 + 1))) fun C=>Zbt (Zaf B (.ptr (A.length,0 + 1))) fun A=>bcase (!(decide (C=A))) (Q (.bool false) B) (Q (.bool true) B))):Zag pg Zjb [.agg [.str x0x0,.str x0x1],.agg [.str x1x0,.str x1x1]] h Q:=
 Zag.of_body kp (c:=cod fn) (fn:=fn) Go.Proofs.Try.func30 (by kernel_rfl) (by kernel_rfl) (Nat.le_of_ble_eq_true (by kernel_rfl))
  (cast (by kernel_rfl) ht)
end Zoa
namespace Zox
noncomputable abbrev fn:Func:=Go.Proofs.Try.f23
def kp:Zcs:=[]
noncomputable def C (p:List Nat):Code:=(cod fn).sub p
def KR (Q:QT):KT:=Zfq pg fn.results.toList Q
theorem call (x0x0 x0x1:List Nat) (h:Zab) (Q:QT) (ht :
 Zdd (h ++ [.cells Znx [.str x0x0,.str x0x1] false]) fun A=>Zdd (A ++ [.cells Zap [.str [],.str []] false]) fun B=>Zdd (B ++ [.cells Zap [.str [],.str []] false]) fun C=>Zbt (Zaf C (.ptr (h.length,0 + 0))) fun D=>Zbk (Zaw C (.ptr (B.length,0 + 0)) [.str D]) fun C=>Zbt (Zaf C (.ptr (h.length,0 + 1))) fun D=>Zbk (Zaw C (.ptr (B.length,0 + 1)) [.str D]) fun C=>Zca (Zax C (.ptr (B.length,0)) 2) fun B=>Zad B fun B D=>Zbt B fun B=>Zad D fun D E=>Zbt D fun D=>Zbq E (Zbk (Zaw C (.ptr (A.length,0)) [.str B,.str D]) fun B=>Zca (Zax B (.ptr (A.length,0)) 2) fun A=>Zad A fun A C=>Zbt A fun A=>Zad C fun C D=>Zbt C fun C=>Zbq D (Q (.agg [.str A,.str C]) B))):Zag pg Zjd [.agg [.str x0x0,.str x0x1]] h Q:=
 Zag.of_body kp (c:=cod fn) (fn:=fn) Go.Proofs.Try.func23 (by kernel_rfl) (by kernel_rfl) (Nat.le_of_ble_eq_true (by kernel_rfl))
  (cast (by kernel_rfl) ht)
end Zox
namespace Zgx
noncomputable abbrev fn:Func:=Go.Proofs.Try.f18
def kp:Zcs:=[(3000005,[1,4]),(1000005,[0,1,5])]
noncomputable def C (p:List Nat):Code:=(cod fn).sub p
def KR (Q:QT):KT:=Zfq pg fn.results.toList Q
abbrev T5:=Pt→Nat→Nat→Bool→Int→Int→Zab→Prop
def E5 (R5:T5) (env:Env) (h:Zab):Prop:=Zda 0 env fun v env=>xSl v fun a0 n0 c0 e0=>Zda 1 env fun v env=>Zfn .i64 v fun x1=>Zda 5 env fun v env=>Zfn .i64 v fun x5=>Zmb env (R5 a0 n0 c0 e0 x1 x5 h)
theorem Zjy {R5:T5} {env:Env} {h:Zab} (hi:E5 R5 env h):∃ a0,∃ n0,∃ c0,∃ e0,∃ x1,∃ x5,env=[(0,.slice a0 n0 c0 e0),(1,.int .i64 x1),(5,.int .i64 x5)]∧R5 a0 n0 c0 e0 x1 x5 h:=by
 unfold E5 at hi
 repeat ((first | (have k:=Zas hi; clear hi; obtain ⟨_,_,e,hi⟩:=k) | (have k:=Zct hi; clear hi; obtain ⟨_,_,_,_,e,hi⟩:=k) | (have k:=Zbe hi; clear hi; obtain ⟨_,e,hi⟩:=k)); subst e)
 obtain ⟨rfl,hi⟩:=Zbz hi
 exact ⟨_,_,_,_,_,_,rfl,hi⟩
def K0 (Q:QT):KT:=andThen (fun env' h'=>(match kp.find 4000010 with | some ks=>Den pg fn.ntmps (C [1,1,1,1]) (env'.keep ks) h' (KR Q) | none=>den pg fn.ntmps kp (C [1,1,1,1]) env' h' (KR Q))) (KR Q)
def K1 (Q:QT):KT:=Zdm 0 (K0 Q)
def K2 (Q:QT):KT:=left kp 5 (K1 Q)
def K3 (Q:QT) (R5:T5):KT:=rnd ((kp.find 1000005).getD []) (E5 R5) (K2 Q)
def L5 (Q:QT) (a0:Pt) (n0 c0:Nat) (e0:Bool) (x1 x5:Int) (h:Zab):Prop:=Zfd (Den pg fn.ntmps (C [1,1,1,0,1,0,0])) ((kp.find 1000005).getD []) (K2 Q) [(0,.slice a0 n0 c0 e0),(1,.int .i64 x1),(5,.int .i64 x5)] h
def A5x0 (Q:QT) (x1:Int) (h:Zab):Prop:=At (K1 Q) (.exit 0) [(1,.int .i64 x1),(4,.undef)] h
def L5t (Q:QT) (R5:T5) (a0:Pt) (n0 c0:Nat) (e0:Bool) (x1 x5:Int) (h:Zab):Prop:=
 bcase (decide ((x5:Int) < (((n0:Nat):Int)))) ((0≤(x5:Int)∧(x5:Int) < (n0:Nat))∧(Zcg a0 fun A B=>Zca (Zax h (.ptr (A,B + (Int.toNat x5) * 2)) 2) fun A=>Zad A fun A B=>Zbt A fun A=>Zad B fun B C=>Zbt B fun B=>Zbq C (Zag pg Zjc [.agg [.str A,.str B],.int .i64 x1] h fun A B=>
 Zgn .i64 A fun A=>bcase (decide ((A:Int) < 0)) (Q (.int .i64 (-1)) B) (R5 a0 n0 c0 e0 A (IntKind.wrap .i64 (x5 + 1)) B)))) (A5x0 Q x1 h)
theorem Ztg (Q:QT) (R5:T5) (a0:Pt) (n0 c0:Nat) (e0:Bool) (x1 x5:Int) (h:Zab) (ht:L5t Q R5 a0 n0 c0 e0 x1 x5 h):Den pg fn.ntmps (C [1,1,1,0,1,0,0]) [(0,.slice a0 n0 c0 e0),(1,.int .i64 x1),(5,.int .i64 x5)] h (K3 Q R5):=
 Zbs (kp:=kp) (cast (by kernel_rfl) ht)
theorem L5ind (Q:QT) (a0:Pt) (n0 c0:Nat) (e0:Bool) {G:Type} (J:G→Int→Int→Zab→Prop) (m:G→Nat)
 (hr:∀ (g:G) (x1 x5:Int) (h:Zab),J g x1 x5 h→∀ (R5:T5),(∀ g' (x1 x5:Int) (h:Zab),m g' < m g→J g' x1 x5 h→R5 a0 n0 c0 e0 x1 x5 h)→L5t Q R5 a0 n0 c0 e0 x1 x5 h)
 (g:G) (x1 x5:Int) (h:Zab) (hj:J g x1 x5 h):L5 Q a0 n0 c0 e0 x1 x5 h:=by
 let P:=fun (K:Int→Int→Zab→Prop) a0' n0' c0' e0' x1 x5 h=>a0=a0'∧n0=n0'∧c0=c0'∧e0=e0'∧K x1 x5 h
 refine Zfd.inv2 (fun g=>E5 (P (J g))) (fun g=>E5 (P fun x1 x5 h=>∃ g',m g' < m g∧J g' x1 x5 h)) m ?_ ?_ g ⟨rfl,rfl,rfl,rfl,hj⟩
 ·intro g env h hi
  obtain ⟨a0',n0',c0',e0',x1,x5,rfl,rfl,rfl,rfl,rfl,hj⟩:=Zjy hi
  exact Ztg Q _ a0 n0 c0 e0 x1 x5 h (hr g x1 x5 h hj (P fun x1 x5 h=>∃ g',m g' < m g∧J g' x1 x5 h) fun g' x1 x5 h hlt hj=>⟨rfl,rfl,rfl,rfl,g',hlt,hj⟩)
 ·intro g env h hi
  obtain ⟨a0',n0',c0',e0',x1,x5,rfl,rfl,rfl,rfl,rfl,g',hlt,hj⟩:=Zjy hi
  exact ⟨g',hlt,rfl,rfl,rfl,rfl,hj⟩
theorem A5x0i (Q:QT) (x1:Int) (h:Zab) (ht :
 Q (.int .i64 x1) h):A5x0 Q x1 h:=
 At.mk (cast (by kernel_rfl) ht)
theorem call (a0:Pt) (n0 c0:Nat) (e0:Bool) (x1:Int) (h:Zab) (Q:QT) (ht :
 bcase (decide (((IntKind.wrap .i64 (x1 - (((n0:Nat):Int)))):Int) < 0)) (Q (.int .i64 (-1)) h) (L5 Q a0 n0 c0 e0 (IntKind.wrap .i64 (x1 - (((n0:Nat):Int)))) 0 h)):Zag pg Zkk [.slice a0 n0 c0 e0,.int .i64 x1] h Q:=
 Zag.of_body kp (c:=cod fn) (fn:=fn) Go.Proofs.Try.func18 (by kernel_rfl) (by kernel_rfl) (Nat.le_of_ble_eq_true (by kernel_rfl))
  (cast (by kernel_rfl) ht)
end Zgx
end Go.Sim

set_option maxRecDepth 100000
set_option maxHeartbeats 0
set_option linter.unusedVariables false
namespace Go.Sim
open Go Go.RowKit
namespace Zhg
noncomputable abbrev fn:Func:=Go.Proofs.Try.f57
def kp:Zcs:=[(3000003,[3]),(1000003,[0,3,7,8,9]),(4000007,[9,8,7,0,3])]
noncomputable def C (p:List Nat):Code:=(cod fn).sub p
def KR (Q:QT):KT:=Zfq pg fn.results.toList Q
abbrev T3:=List Nat→Pt→Nat→Nat→Bool→Pt→Nat→Nat→Bool→Int→Int→Zab→Prop
def E3 (R3:T3) (env:Env) (h:Zab):Prop:=Zda 0 env fun v env=>Zbt v fun x0=>Zda 3 env fun v env=>xSl v fun a3 n3 c3 e3=>Zda 7 env fun v env=>xSl v fun a7 n7 c7 e7=>Zda 8 env fun v env=>Zfn .i64 v fun x8=>Zda 9 env fun v env=>Zfn .i64 v fun x9=>Zmb env (R3 x0 a3 n3 c3 e3 a7 n7 c7 e7 x8 x9 h)
theorem Zhi {R3:T3} {env:Env} {h:Zab} (hi:E3 R3 env h):∃ x0,∃ a3,∃ n3,∃ c3,∃ e3,∃ a7,∃ n7,∃ c7,∃ e7,∃ x8,∃ x9,env=[(0,.str x0),(3,.slice a3 n3 c3 e3),(7,.slice a7 n7 c7 e7),(8,.int .i64 x8),(9,.int .i64 x9)]∧R3 x0 a3 n3 c3 e3 a7 n7 c7 e7 x8 x9 h:=by
 unfold E3 at hi
 repeat ((first | (have k:=Zas hi; clear hi; obtain ⟨_,_,e,hi⟩:=k) | (have k:=Zct hi; clear hi; obtain ⟨_,_,_,_,e,hi⟩:=k) | (have k:=Zir hi; clear hi; obtain ⟨_,e,hi⟩:=k) | (have k:=Zbe hi; clear hi; obtain ⟨_,e,hi⟩:=k)); subst e)
 obtain ⟨rfl,hi⟩:=Zbz hi
 exact ⟨_,_,_,_,_,_,_,_,_,_,_,rfl,hi⟩
def K0 (Q:QT):KT:=andThen (fun env' h'=>(match kp.find 4000008 with | some ks=>Den pg fn.ntmps (C [1,1,1]) (env'.keep ks) h' (KR Q) | none=>den pg fn.ntmps kp (C [1,1,1]) env' h' (KR Q))) (KR Q)
def K1 (Q:QT):KT:=Zdm 0 (K0 Q)
def K2 (Q:QT):KT:=left kp 3 (K1 Q)
def K3 (Q:QT) (R3:T3):KT:=rnd ((kp.find 1000003).getD []) (E3 R3) (K2 Q)
def L3 (Q:QT) (x0:List Nat) (a3:Pt) (n3 c3:Nat) (e3:Bool) (a7:Pt) (n7 c7:Nat) (e7:Bool) (x8 x9:Int) (h:Zab):Prop:=Zfd (Den pg fn.ntmps (C [1,1,0,1,0,0])) ((kp.find 1000003).getD []) (K2 Q) [(0,.str x0),(3,.slice a3 n3 c3 e3),(7,.slice a7 n7 c7 e7),(8,.int .i64 x8),(9,.int .i64 x9)] h
def J7 (Q:QT) (R3:T3) (x9 x8:Int) (a7:Pt) (n7 c7:Nat) (e7:Bool) (x0:List Nat) (a3:Pt) (n3 c3:Nat) (e3:Bool) (h:Zab):Prop:=Den pg fn.ntmps (C [1,1,0,1,0,0,1,1,1]) [(9,.int .i64 x9),(8,.int .i64 x8),(7,.slice a7 n7 c7 e7),(0,.str x0),(3,.slice a3 n3 c3 e3)] h (K3 Q R3)
def Zsm (Q:QT) (a3:Pt) (n3 c3:Nat) (e3:Bool) (h:Zab):Prop:=At (K1 Q) (.exit 0) [(3,.slice a3 n3 c3 e3)] h
def L3t (Q:QT) (R3:T3) (x0:List Nat) (a3:Pt) (n3 c3:Nat) (e3:Bool) (a7:Pt) (n7 c7:Nat) (e7:Bool) (x8 x9:Int) (h:Zab):Prop:=
 bcase (decide ((x9:Int) < x8)) ((0≤(x9:Int)∧(x9:Int) < (n7:Nat))∧(Zcg a7 fun A B=>Zbt (Zaf h (.ptr (A,B + (Int.toNat x9) * 1))) fun A=>Zag pg Zem [.str x0,.str A] h fun B C=>
 Zbw B fun B=>bcase B (Zdd (C ++ [.cells Zdv [.str A] false]) fun A=>Zcc pg Zsp A (.slice a3 n3 c3 e3) (.slice (C.length,0) 1 1 true) fun A B=>xSl A fun A D E F=>J7 Q R3 x9 x8 a7 n7 c7 e7 x0 A D E F B) (J7 Q R3 x9 x8 a7 n7 c7 e7 x0 a3 n3 c3 e3 C))) (Zsm Q a3 n3 c3 e3 h)
theorem Zpg (Q:QT) (R3:T3) (x0:List Nat) (a3:Pt) (n3 c3:Nat) (e3:Bool) (a7:Pt) (n7 c7:Nat) (e7:Bool) (x8 x9:Int) (h:Zab) (ht:L3t Q R3 x0 a3 n3 c3 e3 a7 n7 c7 e7 x8 x9 h):Den pg fn.ntmps (C [1,1,0,1,0,0]) [(0,.str x0),(3,.slice a3 n3 c3 e3),(7,.slice a7 n7 c7 e7),(8,.int .i64 x8),(9,.int .i64 x9)] h (K3 Q R3):=
 Zbs (kp:=kp) (cast (by kernel_rfl) ht)
theorem L3ind (Q:QT) (x0:List Nat) (a7:Pt) (n7 c7:Nat) (e7:Bool) (x8:Int) {G:Type} (J:G→Pt→Nat→Nat→Bool→Int→Zab→Prop) (m:G→Nat)
 (hr:∀ (g:G) (a3:Pt) (n3 c3:Nat) (e3:Bool) (x9:Int) (h:Zab),J g a3 n3 c3 e3 x9 h→∀ (R3:T3),(∀ g' (a3:Pt) (n3 c3:Nat) (e3:Bool) (x9:Int) (h:Zab),m g' < m g→J g' a3 n3 c3 e3 x9 h→R3 x0 a3 n3 c3 e3 a7 n7 c7 e7 x8 x9 h)→L3t Q R3 x0 a3 n3 c3 e3 a7 n7 c7 e7 x8 x9 h)
 (g:G) (a3:Pt) (n3 c3:Nat) (e3:Bool) (x9:Int) (h:Zab) (hj:J g a3 n3 c3 e3 x9 h):L3 Q x0 a3 n3 c3 e3 a7 n7 c7 e7 x8 x9 h:=by
 let P:=fun (K:Pt→Nat→Nat→Bool→Int→Zab→Prop) x0' a3 n3 c3 e3 a7' n7' c7' e7' x8' x9 h=>x0=x0'∧a7=a7'∧n7=n7'∧c7=c7'∧e7=e7'∧x8=x8'∧K a3 n3 c3 e3 x9 h
 refine Zfd.inv2 (fun g=>E3 (P (J g))) (fun g=>E3 (P fun a3 n3 c3 e3 x9 h=>∃ g',m g' < m g∧J g' a3 n3 c3 e3 x9 h)) m ?_ ?_ g ⟨rfl,rfl,rfl,rfl,rfl,rfl,hj⟩
 ·intro g env h hi
  obtain ⟨x0',a3,n3,c3,e3,a7',n7',c7',e7',x8',x9,rfl,rfl,rfl,rfl,rfl,rfl,rfl,hj⟩:=Zhi hi
  exact Zpg Q _ x0 a3 n3 c3 e3 a7 n7 c7 e7 x8 x9 h (hr g a3 n3 c3 e3 x9 h hj (P fun a3 n3 c3 e3 x9 h=>∃ g',m g' < m g∧J g' a3 n3 c3 e3 x9 h) fun g' a3 n3 c3 e3 x9 h hlt hj=>⟨rfl,rfl,rfl,rfl,rfl,rfl,g',hlt,hj⟩)
 ·intro g env h hi
  obtain ⟨x0',a3,n3,c3,e3,a7',n7',c7',e7',x8',x9,rfl,rfl,rfl,rfl,rfl,rfl,rfl,g',hlt,hj⟩:=Zhi hi
  exact ⟨g',hlt,rfl,rfl,rfl,rfl,rfl,rfl,hj⟩
theorem J7i (Q:QT) (R3:T3) (x9 x8:Int) (a7:Pt) (n7 c7:Nat) (e7:Bool) (x0:List Nat) (a3:Pt) (n3 c3:Nat) (e3:Bool) (h:Zab) (ht :
 R3 x0 a3 n3 c3 e3 a7 n7 c7 e7 x8 (IntKind.wrap .i64 (x9 + 1)) h):J7 Q R3 x9 x8 a7 n7 c7 e7 x0 a3 n3 c3 e3 h:=
 Zbs (kp:=kp) (cast (by kernel_rfl) ht)
theorem A3x0i (Q:QT) (a3:Pt) (n3 c3:Nat) (e3:Bool) (h:Zab) (ht :
 Q (.slice a3 n3 c3 e3) h):Zsm Q a3 n3 c3 e3 h:=
 At.mk (cast (by kernel_rfl) ht)
theorem call (x0:List Nat) (h:Zab) (Q:QT) (ht :
 Zdd (h ++ [.cells Zdv [] false]) fun A=>Zdd (A ++ [.cells Zdv [.str [88],.str [89],.str [90],.str [120],.str [121],.str [122]] false]) fun B=>L3 Q x0 (h.length,0) 0 0 true (A.length,0) 6 6 true (((6:Nat):Int)) 0 B):Zag pg Znu [.str x0] h Q:=
 Zag.of_body kp (c:=cod fn) (fn:=fn) Go.Proofs.Try.func57 (by kernel_rfl) (by kernel_rfl) (Nat.le_of_ble_eq_true (by kernel_rfl))
  (cast (by kernel_rfl) ht)
end Zhg
end Go.Sim

set_option maxRecDepth 100000
set_option maxHeartbeats 0
set_option linter.unusedVariables false
namespace Go.Sim
open Go Go.RowKit
namespace Zey
noncomputable abbrev fn:Func:=Go.Proofs.Try.f32
def kp:Zcs:=[(3000002,[1]),(1000002,[0,1,5])]
noncomputable def C (p:List Nat):Code:=(cod fn).sub p
def KR (Q:QT):KT:=Zfq pg fn.results.toList Q
abbrev T2:=Pt→Nat→Nat→Bool→Int→Int→Zab→Prop
def E2 (R2:T2) (env:Env) (h:Zab):Prop:=Zda 0 env fun v env=>xSl v fun a0 n0 c0 e0=>Zda 1 env fun v env=>Zfn .i64 v fun x1=>Zda 5 env fun v env=>Zfn .i64 v fun x5=>Zmb env (R2 a0 n0 c0 e0 x1 x5 h)
theorem Zdp {R2:T2} {env:Env} {h:Zab} (hi:E2 R2 env h):∃ a0,∃ n0,∃ c0,∃ e0,∃ x1,∃ x5,env=[(0,.slice a0 n0 c0 e0),(1,.int .i64 x1),(5,.int .i64 x5)]∧R2 a0 n0 c0 e0 x1 x5 h:=by
 unfold E2 at hi
 repeat ((first | (have k:=Zas hi; clear hi; obtain ⟨_,_,e,hi⟩:=k) | (have k:=Zct hi; clear hi; obtain ⟨_,_,_,_,e,hi⟩:=k) | (have k:=Zbe hi; clear hi; obtain ⟨_,e,hi⟩:=k)); subst e)
 obtain ⟨rfl,hi⟩:=Zbz hi
 exact ⟨_,_,_,_,_,_,rfl,hi⟩
def K0 (Q:QT):KT:=andThen (fun env' h'=>(match kp.find 4000008 with | some ks=>Den pg fn.ntmps (C [1,1]) (env'.keep ks) h' (KR Q) | none=>den pg fn.ntmps kp (C [1,1]) env' h' (KR Q))) (KR Q)
def K1 (Q:QT):KT:=Zdm 0 (K0 Q)
def K2 (Q:QT):KT:=left kp 2 (K1 Q)
def K3 (Q:QT) (R2:T2):KT:=rnd ((kp.find 1000002).getD []) (E2 R2) (K2 Q)
def L2 (Q:QT) (a0:Pt) (n0 c0:Nat) (e0:Bool) (x1 x5:Int) (h:Zab):Prop:=Zfd (Den pg fn.ntmps (C [1,0,1,0,0])) ((kp.find 1000002).getD []) (K2 Q) [(0,.slice a0 n0 c0 e0),(1,.int .i64 x1),(5,.int .i64 x5)] h
def Zkr (Q:QT) (x1:Int) (h:Zab):Prop:=At (K1 Q) (.exit 0) [(1,.int .i64 x1)] h
def L2t (Q:QT) (R2:T2) (a0:Pt) (n0 c0:Nat) (e0:Bool) (x1 x5:Int) (h:Zab):Prop:=
 bcase (decide ((x5:Int) < (((n0:Nat):Int)))) (Zag pg Zco [.int .i64 x1] h fun A B=>
 Zbt A fun A=>(0≤(x5:Int)∧(x5:Int) < (n0:Nat))∧(Zcg a0 fun C D=>Zbk (Zaw B (.ptr (C,D + (Int.toNat x5) * 2 + 0)) [.str A]) fun A=>Zag pg Zco [.int .i64 (IntKind.wrap .i64 (x1 + 1))] A fun A B=>
 Zbt A fun A=>(0≤(x5:Int)∧(x5:Int) < (n0:Nat))∧(Zcg a0 fun C D=>Zbk (Zaw B (.ptr (C,D + (Int.toNat x5) * 2 + 1)) [.str A]) fun A=>R2 a0 n0 c0 e0 (IntKind.wrap .i64 ((IntKind.wrap .i64 (x1 + 1)) + 1)) (IntKind.wrap .i64 (x5 + 1)) A))) (Zkr Q x1 h)
theorem Zih (Q:QT) (R2:T2) (a0:Pt) (n0 c0:Nat) (e0:Bool) (x1 x5:Int) (h:Zab) (ht:L2t Q R2 a0 n0 c0 e0 x1 x5 h):Den pg fn.ntmps (C [1,0,1,0,0]) [(0,.slice a0 n0 c0 e0),(1,.int .i64 x1),(5,.int .i64 x5)] h (K3 Q R2):=
 Zbs (kp:=kp) (cast (by kernel_rfl) ht)
theorem L2ind (Q:QT) (a0:Pt) (n0 c0:Nat) (e0:Bool) {G:Type} (J:G→Int→Int→Zab→Prop) (m:G→Nat)
 (hr:∀ (g:G) (x1 x5:Int) (h:Zab),J g x1 x5 h→∀ (R2:T2),(∀ g' (x1 x5:Int) (h:Zab),m g' < m g→J g' x1 x5 h→R2 a0 n0 c0 e0 x1 x5 h)→L2t Q R2 a0 n0 c0 e0 x1 x5 h)
 (g:G) (x1 x5:Int) (h:Zab) (hj:J g x1 x5 h):L2 Q a0 n0 c0 e0 x1 x5 h:=by
 let P:=fun (K:Int→Int→Zab→Prop) a0' n0' c0' e0' x1 x5 h=>a0=a0'∧n0=n0'∧c0=c0'∧e0=e0'∧K x1 x5 h
 refine Zfd.inv2 (fun g=>E2 (P (J g))) (fun g=>E2 (P fun x1 x5 h=>∃ g',m g' < m g∧J g' x1 x5 h)) m ?_ ?_ g ⟨rfl,rfl,rfl,rfl,hj⟩
 ·intro g env h hi
  obtain ⟨a0',n0',c0',e0',x1,x5,rfl,rfl,rfl,rfl,rfl,hj⟩:=Zdp hi
  exact Zih Q _ a0 n0 c0 e0 x1 x5 h (hr g x1 x5 h hj (P fun x1 x5 h=>∃ g',m g' < m g∧J g' x1 x5 h) fun g' x1 x5 h hlt hj=>⟨rfl,rfl,rfl,rfl,g',hlt,hj⟩)
 ·intro g env h hi
  obtain ⟨a0',n0',c0',e0',x1,x5,rfl,rfl,rfl,rfl,rfl,g',hlt,hj⟩:=Zdp hi
  exact ⟨g',hlt,rfl,rfl,rfl,rfl,hj⟩
theorem A2x0i (Q:QT) (x1:Int) (h:Zab) (ht :
 Q (.int .i64 x1) h):Zkr Q x1 h:=
 At.mk (cast (by kernel_rfl) ht)
theorem call (a0:Pt) (n0 c0:Nat) (e0:Bool) (x1:Int) (h:Zab) (Q:QT) (ht :
 L2 Q a0 n0 c0 e0 x1 0 h):Zag pg Zie [.slice a0 n0 c0 e0,.int .i64 x1] h Q:=
 Zag.of_body kp (c:=cod fn) (fn:=fn) Go.Proofs.Try.func32 (by kernel_rfl) (by kernel_rfl) (Nat.le_of_ble_eq_true (by kernel_rfl))
  (cast (by kernel_rfl) ht)
end Zey
namespace Zfa
noncomputable abbrev fn:Func:=Go.Proofs.Try.f35
def kp:Zcs:=[(3000002,[1,4]),(1000002,[0,1,5]),(2000004,[19,1,0,5]),(2000007,[29,1,5,0])]
noncomputable def C (p:List Nat):Code:=(cod fn).sub p
def KR (Q:QT):KT:=Zfq pg fn.results.toList Q
abbrev T2:=Pt→Nat→Nat→Bool→Int→Int→Zab→Prop
def E2 (R2:T2) (env:Env) (h:Zab):Prop:=Zda 0 env fun v env=>xSl v fun a0 n0 c0 e0=>Zda 1 env fun v env=>Zfn .i64 v fun x1=>Zda 5 env fun v env=>Zfn .i64 v fun x5=>Zmb env (R2 a0 n0 c0 e0 x1 x5 h)
theorem Zdp {R2:T2} {env:Env} {h:Zab} (hi:E2 R2 env h):∃ a0,∃ n0,∃ c0,∃ e0,∃ x1,∃ x5,env=[(0,.slice a0 n0 c0 e0),(1,.int .i64 x1),(5,.int .i64 x5)]∧R2 a0 n0 c0 e0 x1 x5 h:=by
 unfold E2 at hi
 repeat ((first | (have k:=Zas hi; clear hi; obtain ⟨_,_,e,hi⟩:=k) | (have k:=Zct hi; clear hi; obtain ⟨_,_,_,_,e,hi⟩:=k) | (have k:=Zbe hi; clear hi; obtain ⟨_,e,hi⟩:=k)); subst e)
 obtain ⟨rfl,hi⟩:=Zbz hi
 exact ⟨_,_,_,_,_,_,rfl,hi⟩
def K0 (Q:QT):KT:=andThen (fun env' h'=>(match kp.find 4000010 with | some ks=>Den pg fn.ntmps (C [1,1]) (env'.keep ks) h' (KR Q) | none=>den pg fn.ntmps kp (C [1,1]) env' h' (KR Q))) (KR Q)
def K1 (Q:QT):KT:=Zdm 0 (K0 Q)
def K2 (Q:QT):KT:=left kp 2 (K1 Q)
def K3 (Q:QT) (R2:T2):KT:=rnd ((kp.find 1000002).getD []) (E2 R2) (K2 Q)
def L2 (Q:QT) (a0:Pt) (n0 c0:Nat) (e0:Bool) (x1 x5:Int) (h:Zab):Prop:=Zfd (Den pg fn.ntmps (C [1,0,1,0,0])) ((kp.find 1000002).getD []) (K2 Q) [(0,.slice a0 n0 c0 e0),(1,.int .i64 x1),(5,.int .i64 x5)] h
def Zkr (Q:QT) (x1:Int) (h:Zab):Prop:=At (K1 Q) (.exit 0) [(1,.int .i64 x1),(4,.undef)] h
def L2t (Q:QT) (R2:T2) (a0:Pt) (n0 c0:Nat) (e0:Bool) (x1 x5:Int) (h:Zab):Prop:=
 bcase (decide ((x5:Int) < (((n0:Nat):Int)))) ((0≤(x5:Int)∧(x5:Int) < (n0:Nat))∧(Zcg a0 fun A B=>Zbt (Zaf h (.ptr (A,B + (Int.toNat x5) * 2 + 0))) fun C=>Zag pg Zco [.int .i64 x1] h fun D E=>
 Zbt D fun D=>(Zaf E (.ptr (A,B + (Int.toNat x5) * 2 + 0))=Zaf h (.ptr (A,B + (Int.toNat x5) * 2 + 0)))∧bcase (!(decide (C=D))) (Q (.int .i64 (-1)) E) ((0≤(x5:Int)∧(x5:Int) < (n0:Nat))∧(Zcg a0 fun A B=>Zbt (Zaf E (.ptr (A,B + (Int.toNat x5) * 2 + 1))) fun C=>Zag pg Zco [.int .i64 (IntKind.wrap .i64 (x1 + 1))] E fun D F=>
 Zbt D fun D=>(Zaf F (.ptr (A,B + (Int.toNat x5) * 2 + 1))=Zaf E (.ptr (A,B + (Int.toNat x5) * 2 + 1)))∧bcase (!(decide (C=D))) (Q (.int .i64 (-1)) F) (R2 a0 n0 c0 e0 (IntKind.wrap .i64 ((IntKind.wrap .i64 (x1 + 1)) + 1)) (IntKind.wrap .i64 (x5 + 1)) F))))) (Zkr Q x1 h)
theorem Zih (Q:QT) (R2:T2) (a0:Pt) (n0 c0:Nat) (e0:Bool) (x1 x5:Int) (h:Zab) (ht:L2t Q R2 a0 n0 c0 e0 x1 x5 h):Den pg fn.ntmps (C [1,0,1,0,0]) [(0,.slice a0 n0 c0 e0),(1,.int .i64 x1),(5,.int .i64 x5)] h (K3 Q R2):=
 Zbs (kp:=kp) (cast (by kernel_rfl) ht)
theorem L2ind (Q:QT) (a0:Pt) (n0 c0:Nat) (e0:Bool) {G:Type} (J:G→Int→Int→Zab→Prop) (m:G→Nat)
 (hr:∀ (g:G) (x1 x5:Int) (h:Zab),J g x1 x5 h→∀ (R2:T2),(∀ g' (x1 x5:Int) (h:Zab),m g' < m g→J g' x1 x5 h→R2 a0 n0 c0 e0 x1 x5 h)→L2t Q R2 a0 n0 c0 e0 x1 x5 h)
 (g:G) (x1 x5:Int) (h:Zab) (hj:J g x1 x5 h):L2 Q a0 n0 c0 e0 x1 x5 h:=by
 let P:=fun (K:Int→Int→Zab→Prop) a0' n0' c0' e0' x1 x5 h=>a0=a0'∧n0=n0'∧c0=c0'∧e0=e0'∧K x1 x5 h
 refine Zfd.inv2 (fun g=>E2 (P (J g))) (fun g=>E2 (P fun x1 x5 h=>∃ g',m g' < m g∧J g' x1 x5 h)) m ?_ ?_ g ⟨rfl,rfl,rfl,rfl,hj⟩
 ·intro g env h hi
  obtain ⟨a0',n0',c0',e0',x1,x5,rfl,rfl,rfl,rfl,rfl,hj⟩:=Zdp hi
  exact Zih Q _ a0 n0 c0 e0 x1 x5 h (hr g x1 x5 h hj (P fun x1 x5 h=>∃ g',m g' < m g∧J g' x1 x5 h) fun g' x1 x5 h hlt hj=>⟨rfl,rfl,rfl,rfl,g',hlt,hj⟩)
 ·intro g env h hi
  obtain ⟨a0',n0',c0',e0',x1,x5,rfl,rfl,rfl,rfl,rfl,g',hlt,hj⟩:=Zdp hi
  exact ⟨g',hlt,rfl,rfl,rfl,rfl,hj⟩
theorem A2x0i (Q:QT) (x1:Int) (h:Zab) (ht :
 Q (.int .i64 x1) h):Zkr Q x1 h:=
 At.mk (cast (by kernel_rfl) ht)
theorem call (a0:Pt) (n0 c0:Nat) (e0:Bool) (x1:Int) (h:Zab) (Q:QT) (ht :
 L2 Q a0 n0 c0 e0 x1 0 h):Zag pg Zib [.slice a0 n0 c0 e0,.int .i64 x1] h Q:=
 Zag.of_body kp (c:=cod fn) (fn:=fn) Go.Proofs.Try.func35 (by kernel_rfl) (by kernel_rfl) (Nat.le_of_ble_eq_true (by kernel_rfl))
  (cast (by kernel_rfl) ht)
end Zfa
namespace Zcr
noncomputable abbrev fn:Func:=Go.Proofs.Try.f33
def kp:Zcs:=[(3000002,[1]),(1000002,[0,1,5])]
noncomputable def C (p:List Nat):Code:=(cod fn).sub p
def KR (Q:QT):KT:=Zfq pg fn.results.toList Q
abbrev T2:=Pt→Nat→Nat→Bool→Int→Int→Zab→Prop
def E2 (R2:T2) (env:Env) (h:Zab):Prop:=Zda 0 env fun v env=>xSl v fun a0 n0 c0 e0=>Zda 1 env fun v env=>Zfn .i64 v fun x1=>Zda 5 env fun v env=>Zfn .i64 v fun x5=>Zmb env (R2 a0 n0 c0 e0 x1 x5 h)
theorem Zdp {R2:T2} {env:Env} {h:Zab} (hi:E2 R2 env h):∃ a0,∃ n0,∃ c0,∃ e0,∃ x1,∃ x5,env=[(0,.slice a0 n0 c0 e0),(1,.int .i64 x1),(5,.int .i64 x5)]∧R2 a0 n0 c0 e0 x1 x5 h:=by
 unfold E2 at hi
 repeat ((first | (have k:=Zas hi; clear hi; obtain ⟨_,_,e,hi⟩:=k) | (have k:=Zct hi; clear hi; obtain ⟨_,_,_,_,e,hi⟩:=k) | (have k:=Zbe hi; clear hi; obtain ⟨_,e,hi⟩:=k)); subst e)
 obtain ⟨rfl,hi⟩:=Zbz hi
 exact ⟨_,_,_,_,_,_,rfl,hi⟩
def K0 (Q:QT):KT:=andThen (fun env' h'=>(match kp.find 4000009 with | some ks=>Den pg fn.ntmps (C [1,1]) (env'.keep ks) h' (KR Q) | none=>den pg fn.ntmps kp (C [1,1]) env' h' (KR Q))) (KR Q)
def K1 (Q:QT):KT:=Zdm 0 (K0 Q)
def K2 (Q:QT):KT:=left kp 2 (K1 Q)
def K3 (Q:QT) (R2:T2):KT:=rnd ((kp.find 1000002).getD []) (E2 R2) (K2 Q)
def L2 (Q:QT) (a0:Pt) (n0 c0:Nat) (e0:Bool) (x1 x5:Int) (h:Zab):Prop:=Zfd (Den pg fn.ntmps (C [1,0,1,0,0])) ((kp.find 1000002).getD []) (K2 Q) [(0,.slice a0 n0 c0 e0),(1,.int .i64 x1),(5,.int .i64 x5)] h
def Zkr (Q:QT) (x1:Int) (h:Zab):Prop:=At (K1 Q) (.exit 0) [(1,.int .i64 x1)] h
def L2t (Q:QT) (R2:T2) (a0:Pt) (n0 c0:Nat) (e0:Bool) (x1 x5:Int) (h:Zab):Prop:=
 bcase (decide ((x5:Int) < (((n0:Nat):Int)))) (Zag pg Zco [.int .i64 x1] h fun A B=>
 Zbt A fun A=>(0≤(x5:Int)∧(x5:Int) < (n0:Nat))∧(Zcg a0 fun C D=>Zbk (Zaw B (.ptr (C,D + (Int.toNat x5) * 3 + 0 + 0)) [.str A]) fun A=>Zag pg Zco [.int .i64 (IntKind.wrap .i64 (x1 + 1))] A fun A B=>
 Zbt A fun A=>(0≤(x5:Int)∧(x5:Int) < (n0:Nat))∧(Zcg a0 fun C D=>Zbk (Zaw B (.ptr (C,D + (Int.toNat x5) * 3 + 0 + 1)) [.str A]) fun A=>(0≤(x5:Int)∧(x5:Int) < (n0:Nat))∧(Zcg a0 fun B C=>xSl (Zaf A (.ptr (B,C + (Int.toNat x5) * 3 + 2))) fun B C D E=>Zag pg Zhd [.slice B C D E,.int .i64 (IntKind.wrap .i64 ((IntKind.wrap .i64 (x1 + 1)) + 1))] A fun A B=>
 Zgn .i64 A fun A=>R2 a0 n0 c0 e0 A (IntKind.wrap .i64 (x5 + 1)) B)))) (Zkr Q x1 h)
theorem Zih (Q:QT) (R2:T2) (a0:Pt) (n0 c0:Nat) (e0:Bool) (x1 x5:Int) (h:Zab) (ht:L2t Q R2 a0 n0 c0 e0 x1 x5 h):Den pg fn.ntmps (C [1,0,1,0,0]) [(0,.slice a0 n0 c0 e0),(1,.int .i64 x1),(5,.int .i64 x5)] h (K3 Q R2):=
 Zbs (kp:=kp) (cast (by kernel_rfl) ht)
theorem L2ind (Q:QT) (a0:Pt) (n0 c0:Nat) (e0:Bool) {G:Type} (J:G→Int→Int→Zab→Prop) (m:G→Nat)
 (hr:∀ (g:G) (x1 x5:Int) (h:Zab),J g x1 x5 h→∀ (R2:T2),(∀ g' (x1 x5:Int) (h:Zab),m g' < m g→J g' x1 x5 h→R2 a0 n0 c0 e0 x1 x5 h)→L2t Q R2 a0 n0 c0 e0 x1 x5 h)
 (g:G) (x1 x5:Int) (h:Zab) (hj:J g x1 x5 h):L2 Q a0 n0 c0 e0 x1 x5 h:=by
 let P:=fun (K:Int→Int→Zab→Prop) a0' n0' c0' e0' x1 x5 h=>a0=a0'∧n0=n0'∧c0=c0'∧e0=e0'∧K x1 x5 h
 refine Zfd.inv2 (fun g=>E2 (P (J g))) (fun g=>E2 (P fun x1 x5 h=>∃ g',m g' < m g∧J g' x1 x5 h)) m ?_ ?_ g ⟨rfl,rfl,rfl,rfl,hj⟩
 ·intro g env h hi
  obtain ⟨a0',n0',c0',e0',x1,x5,rfl,rfl,rfl,rfl,rfl,hj⟩:=Zdp hi
  exact Zih Q _ a0 n0 c0 e0 x1 x5 h (hr g x1 x5 h hj (P fun x1 x5 h=>∃ g',m g' < m g∧J g' x1 x5 h) fun g' x1 x5 h hlt hj=>⟨rfl,rfl,rfl,rfl,g',hlt,hj⟩)
 ·intro g env h hi
  obtain ⟨a0',n0',c0',e0',x1,x5,rfl,rfl,rfl,rfl,rfl,g',hlt,hj⟩:=Zdp hi
  exact ⟨g',hlt,rfl,rfl,rfl,rfl,hj⟩
theorem A2x0i (Q:QT) (x1:Int) (h:Zab) (ht :
 Q (.int .i64 x1) h):Zkr Q x1 h:=
 At.mk (cast (by kernel_rfl) ht)
theorem call (a0:Pt) (n0 c0:Nat) (e0:Bool) (x1:Int) (h:Zab) (Q:QT) (ht :
 L2 Q a0 n0 c0 e0 x1 0 h):Zag pg Zeu [.slice a0 n0 c0 e0,.int .i64 x1] h Q:=
 Zag.of_body kp (c:=cod fn) (fn:=fn) Go.Proofs.Try.func33 (by kernel_rfl) (by kernel_rfl) (Nat.le_of_ble_eq_true (by kernel_rfl))
  (cast (by kernel_rfl) ht)
end Zcr
namespace Ziu
noncomputable abbrev fn:Func:=Go.Proofs.Try.f12
def kp:Zcs:=[]
noncomputable def C (p:List Nat):Code:=(cod fn).sub p
def KR (Q:QT):KT:=Zfq pg fn.results.toList Q
theorem call (a0x0:Pt) (n0x0 c0x0:Nat) (e0x0:Bool) (a0x1:Pt) (n0x1 c0x1:Nat) (e0x1:Bool) (x1:Int) (h:Zab) (Q:QT) (ht :
 Zdd (h ++ [.cells Zac [.slice a0x0 n0x0 c0x0 e0x0,.slice a0x1 n0x1 c0x1 e0x1] false]) fun A=>xSl (Zaf A (.ptr (h.length,0 + 0))) fun B C D E=>Zag pg Zie [.slice B C D E,.int .i64 x1] A fun A B=>
 Zgn .i64 A fun A=>xSl (Zaf B (.ptr (h.length,0 + 1))) fun C D E F=>Zag pg Zeu [.slice C D E F,.int .i64 A] B fun A B=>
 Zgn .i64 A fun A=>Q (.int .i64 A) B):Zag pg Zfj [.agg [.slice a0x0 n0x0 c0x0 e0x0,.slice a0x1 n0x1 c0x1 e0x1],.int .i64 x1] h Q:=
 Zag.of_body kp (c:=cod fn) (fn:=fn) Go.Proofs.Try.func12 (by kernel_rfl) (by kernel_rfl) (Nat.le_of_ble_eq_true (by kernel_rfl))
  (cast (by kernel_rfl) ht)
end Ziu
end Go.Sim

set_option maxRecDepth 100000
set_option maxHeartbeats 0
set_option linter.unusedVariables false
namespace Go.Sim
open Go Go.RowKit
namespace Ziq
noncomputable abbrev fn:Func:=Go.Proofs.Try.f38
def kp:Zcs:=[]
noncomputable def C (p:List Nat):Code:=(cod fn).sub p
def KR (Q:QT):KT:=Zfq pg fn.results.toList Q
theorem call (x0x0 x0x1:List Nat) (a0x2:Pt) (n0x2 c0x2:Nat) (e0x2:Bool) (h:Zab) (Q:QT) (ht :
 Zdd (h ++ [.cells Zaa [.str x0x0,.str x0x1,.slice a0x2 n0x2 c0x2 e0x2] false]) fun A=>Zdd (A ++ [.cells Zaa [.str [],.str [],.slice none 0 0 true] false]) fun B=>Zdd (B ++ [.cells Zap [] false]) fun C=>xSl (Zaf C (.ptr (h.length,0 + 2))) fun D E F G=>Zcc pg Zlc C (.slice (B.length,0) 0 0 true) (.slice D E F G) fun B C=>xSl B fun B D E F=>Zbk (Zaw C (.ptr (h.length,0 + 2)) [.slice B D E F]) fun B=>Zca (Zax B (.ptr (h.length,0)) 3) fun C=>Zad C fun C D=>Zbt C fun C=>Zad D fun D E=>Zbt D fun D=>Zad E fun E F=>xSl E fun E G H I=>Zbq F (Zbk (Zaw B (.ptr (A.length,0)) [.str C,.str D,.slice E G H I]) fun B=>Zca (Zax B (.ptr (A.length,0)) 3) fun A=>Zad A fun A C=>Zbt A fun A=>Zad C fun C D=>Zbt C fun C=>Zad D fun D E=>xSl D fun D F G H=>Zbq E (Q (.agg [.str A,.str C,.slice D F G H]) B))):Zag pg Zej [.agg [.str x0x0,.str x0x1,.slice a0x2 n0x2 c0x2 e0x2]] h Q:=
 Zag.of_body kp (c:=cod fn) (fn:=fn) Go.Proofs.Try.func38 (by kernel_rfl) (by kernel_rfl) (Nat.le_of_ble_eq_true (by kernel_rfl))
  (cast (by kernel_rfl) ht)
end Ziq
namespace Zdk
noncomputable abbrev fn:Func:=Go.Proofs.Try.f40
def kp:Zcs:=[(3000003,[3]),(1000003,[3,7,8,9])]
noncomputable def C (p:List Nat):Code:=(cod fn).sub p
def KR (Q:QT):KT:=Zfq pg fn.results.toList Q
abbrev T3:=Pt→Nat→Nat→Bool→Pt→Nat→Nat→Bool→Int→Int→Zab→Prop
def E3 (R3:T3) (env:Env) (h:Zab):Prop:=Zda 3 env fun v env=>xSl v fun a3 n3 c3 e3=>Zda 7 env fun v env=>xSl v fun a7 n7 c7 e7=>Zda 8 env fun v env=>Zfn .i64 v fun x8=>Zda 9 env fun v env=>Zfn .i64 v fun x9=>Zmb env (R3 a3 n3 c3 e3 a7 n7 c7 e7 x8 x9 h)
theorem Zhi {R3:T3} {env:Env} {h:Zab} (hi:E3 R3 env h):∃ a3,∃ n3,∃ c3,∃ e3,∃ a7,∃ n7,∃ c7,∃ e7,∃ x8,∃ x9,env=[(3,.slice a3 n3 c3 e3),(7,.slice a7 n7 c7 e7),(8,.int .i64 x8),(9,.int .i64 x9)]∧R3 a3 n3 c3 e3 a7 n7 c7 e7 x8 x9 h:=by
 unfold E3 at hi
 repeat ((first | (have k:=Zas hi; clear hi; obtain ⟨_,_,e,hi⟩:=k) | (have k:=Zct hi; clear hi; obtain ⟨_,_,_,_,e,hi⟩:=k) | (have k:=Zbe hi; clear hi; obtain ⟨_,e,hi⟩:=k)); subst e)
 obtain ⟨rfl,hi⟩:=Zbz hi
 exact ⟨_,_,_,_,_,_,_,_,_,_,rfl,hi⟩
def K0 (Q:QT):KT:=andThen (fun env' h'=>(match kp.find 4000007 with | some ks=>Den pg fn.ntmps (C [1,1,1]) (env'.keep ks) h' (KR Q) | none=>den pg fn.ntmps kp (C [1,1,1]) env' h' (KR Q))) (KR Q)
def K1 (Q:QT):KT:=Zdm 0 (K0 Q)
def K2 (Q:QT):KT:=left kp 3 (K1 Q)
def K3 (Q:QT) (R3:T3):KT:=rnd ((kp.find 1000003).getD []) (E3 R3) (K2 Q)
def L3 (Q:QT) (a3:Pt) (n3 c3:Nat) (e3:Bool) (a7:Pt) (n7 c7:Nat) (e7:Bool) (x8 x9:Int) (h:Zab):Prop:=Zfd (Den pg fn.ntmps (C [1,1,0,1,0,0])) ((kp.find 1000003).getD []) (K2 Q) [(3,.slice a3 n3 c3 e3),(7,.slice a7 n7 c7 e7),(8,.int .i64 x8),(9,.int .i64 x9)] h
def Zsm (Q:QT) (a3:Pt) (n3 c3:Nat) (e3:Bool) (h:Zab):Prop:=At (K1 Q) (.exit 0) [(3,.slice a3 n3 c3 e3)] h
def L3t (Q:QT) (R3:T3) (a3:Pt) (n3 c3:Nat) (e3:Bool) (a7:Pt) (n7 c7:Nat) (e7:Bool) (x8 x9:Int) (h:Zab):Prop:=
 bcase (decide ((x9:Int) < x8)) ((0≤(x9:Int)∧(x9:Int) < (n7:Nat))∧(Zcg a7 fun A B=>Zca (Zax h (.ptr (A,B + (Int.toNat x9) * 3)) 3) fun A=>Zad A fun A B=>Zbt A fun A=>Zad B fun B C=>Zbt B fun B=>Zad C fun C D=>xSl C fun C E F G=>Zbq D (Zdd (h ++ [.cells Zaa [.str [],.str [],.slice none 0 0 true] false]) fun D=>Zbk (Zaw D (.ptr (h.length,0)) [.str A,.str B,.slice C E F G]) fun A=>Zca (Zax A (.ptr (h.length,0)) 3) fun B=>Zad B fun B C=>Zbt B fun B=>Zad C fun C D=>Zbt C fun C=>Zad D fun D E=>xSl D fun D F G H=>Zbq E (Zag pg Zej [.agg [.str B,.str C,.slice D F G H]] A fun A B=>
 Zim A fun A=>Zad A fun A C=>Zbt A fun A=>Zad C fun C D=>Zbt C fun C=>Zad D fun D E=>xSl D fun D F G H=>Zbq E (Zdd (B ++ [.cells Zaa [.str A,.str C,.slice D F G H] false]) fun A=>Zcc pg Zaz A (.slice a3 n3 c3 e3) (.slice (B.length,0) 1 1 true) fun A B=>xSl A fun A C D E=>R3 A C D E a7 n7 c7 e7 x8 (IntKind.wrap .i64 (x9 + 1)) B))))) (Zsm Q a3 n3 c3 e3 h)
theorem Zpg (Q:QT) (R3:T3) (a3:Pt) (n3 c3:Nat) (e3:Bool) (a7:Pt) (n7 c7:Nat) (e7:Bool) (x8 x9:Int) (h:Zab) (ht:L3t Q R3 a3 n3 c3 e3 a7 n7 c7 e7 x8 x9 h):Den pg fn.ntmps (C [1,1,0,1,0,0]) [(3,.slice a3 n3 c3 e3),(7,.slice a7 n7 c7 e7),(8,.int .i64 x8),(9,.int .i64 x9)] h (K3 Q R3):=
 Zbs (kp:=kp) (cast (by kernel_rfl) ht)
theorem L3ind (Q:QT) (a7:Pt) (n7 c7:Nat) (e7:Bool) (x8:Int) {G:Type} (J:G→Pt→Nat→Nat→Bool→Int→Zab→Prop) (m:G→Nat)
 (hr:∀ (g:G) (a3:Pt) (n3 c3:Nat) (e3:Bool) (x9:Int) (h:Zab),J g a3 n3 c3 e3 x9 h→∀ (R3:T3),(∀ g' (a3:Pt) (n3 c3:Nat) (e3:Bool) (x9:Int) (h:Zab),m g' < m g→J g' a3 n3 c3 e3 x9 h→R3 a3 n3 c3 e3 a7 n7 c7 e7 x8 x9 h)→L3t Q R3 a3 n3 c3 e3 a7 n7 c7 e7 x8 x9 h)
 (g:G) (a3:Pt) (n3 c3:Nat) (e3:Bool) (x9:Int) (h:Zab) (hj:J g a3 n3 c3 e3 x9 h):L3 Q a3 n3 c3 e3 a7 n7 c7 e7 x8 x9 h:=by
 let P:=fun (K:Pt→Nat→Nat→Bool→Int→Zab→Prop) a3 n3 c3 e3 a7' n7' c7' e7' x8' x9 h=>a7=a7'∧n7=n7'∧c7=c7'∧e7=e7'∧x8=x8'∧K a3 n3 c3 e3 x9 h
 refine Zfd.inv2 (fun g=>E3 (P (J g))) (fun g=>E3 (P fun a3 n3 c3 e3 x9 h=>∃ g',m g' < m g∧J g' a3 n3 c3 e3 x9 h)) m ?_ ?_ g ⟨rfl,rfl,rfl,rfl,rfl,hj⟩
 ·intro g env h hi
  obtain ⟨a3,n3,c3,e3,a7',n7',c7',e7',x8',x9,rfl,rfl,rfl,rfl,rfl,rfl,hj⟩:=Zhi hi
  exact Zpg Q _ a3 n3 c3 e3 a7 n7 c7 e7 x8 x9 h (hr g a3 n3 c3 e3 x9 h hj (P fun a3 n3 c3 e3 x9 h=>∃ g',m g' < m g∧J g' a3 n3 c3 e3 x9 h) fun g' a3 n3 c3 e3 x9 h hlt hj=>⟨rfl,rfl,rfl,rfl,rfl,g',hlt,hj⟩)
 ·intro g env h hi
  obtain ⟨a3,n3,c3,e3,a7',n7',c7',e7',x8',x9,rfl,rfl,rfl,rfl,rfl,rfl,g',hlt,hj⟩:=Zhi hi
  exact ⟨g',hlt,rfl,rfl,rfl,rfl,rfl,hj⟩
theorem A3x0i (Q:QT) (a3:Pt) (n3 c3:Nat) (e3:Bool) (h:Zab) (ht :
 Q (.slice a3 n3 c3 e3) h):Zsm Q a3 n3 c3 e3 h:=
 At.mk (cast (by kernel_rfl) ht)
theorem call (a0:Pt) (n0 c0:Nat) (e0:Bool) (h:Zab) (Q:QT) (ht :
 Zdd (h ++ [.cells Zaa [] false]) fun A=>L3 Q (h.length,0) 0 0 true a0 n0 c0 e0 (((n0:Nat):Int)) 0 A):Zag pg Zeq [.slice a0 n0 c0 e0] h Q:=
 Zag.of_body kp (c:=cod fn) (fn:=fn) Go.Proofs.Try.func40 (by kernel_rfl) (by kernel_rfl) (Nat.le_of_ble_eq_true (by kernel_rfl))
  (cast (by kernel_rfl) ht)
end Zdk
namespace Zjs
noncomputable abbrev fn:Func:=Go.Proofs.Try.f20
def kp:Zcs:=[]
noncomputable def C (p:List Nat):Code:=(cod fn).sub p
def KR (Q:QT):KT:=Zfq pg fn.results.toList Q
theorem call (a0x0:Pt) (n0x0 c0x0:Nat) (e0x0:Bool) (a0x1:Pt) (n0x1 c0x1:Nat) (e0x1:Bool) (h:Zab) (Q:QT) (ht :
 Zdd (h ++ [.cells Zac [.slice a0x0 n0x0 c0x0 e0x0,.slice a0x1 n0x1 c0x1 e0x1] false]) fun A=>Zdd (A ++ [.cells Zac [.slice none 0 0 true,.slice none 0 0 true] false]) fun B=>Zdd (B ++ [.cells Zat [] false]) fun C=>xSl (Zaf C (.ptr (h.length,0 + 0))) fun D E F G=>Zcc pg Zik C (.slice (B.length,0) 0 0 true) (.slice D E F G) fun B C=>xSl B fun B D E F=>Zbk (Zaw C (.ptr (h.length,0 + 0)) [.slice B D E F]) fun B=>xSl (Zaf B (.ptr (h.length,0 + 1))) fun C D E F=>Zag pg Zeq [.slice C D E F] B fun B C=>
 xSl B fun B D E F=>Zbk (Zaw C (.ptr (h.length,0 + 1)) [.slice B D E F]) fun B=>Zca (Zax B (.ptr (h.length,0)) 2) fun C=>Zad C fun C D=>xSl C fun C E F G=>Zad D fun D H=>xSl D fun D I J K=>Zbq H (Zbk (Zaw B (.ptr (A.length,0)) [.slice C E F G,.slice D I J K]) fun B=>Zca (Zax B (.ptr (A.length,0)) 2) fun A=>Zad A fun A C=>xSl A fun A D E F=>Zad C fun C G=>xSl C fun C H I J=>Zbq G (Q (.agg [.slice A D E F,.slice C H I J]) B))):Zag pg Zep [.agg [.slice a0x0 n0x0 c0x0 e0x0,.slice a0x1 n0x1 c0x1 e0x1]] h Q:=
 Zag.of_body kp (c:=cod fn) (fn:=fn) Go.Proofs.Try.func20 (by kernel_rfl) (by kernel_rfl) (Nat.le_of_ble_eq_true (by kernel_rfl))
  (cast (by kernel_rfl) ht)
end Zjs
end Go.Sim
