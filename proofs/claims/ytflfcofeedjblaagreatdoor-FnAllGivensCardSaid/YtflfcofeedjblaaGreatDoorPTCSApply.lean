/- A part of the proof of a statement of this seat: see the text that holds the theorem. No condition. -/
import Derived.Test.YtflfcofeedjblaaGreatDoorNm
set_option linter.unusedVariables false
set_option linter.unusedSimpArgs false
set_option linter.all false
set_option maxRecDepth 100000
set_option maxHeartbeats 0
set_option linter.unusedVariables false
namespace Go.Sim
open Go Go.RowKit
namespace Zkw
noncomputable abbrev fn:Func:=Go.Proofs.Tryz.f88
def kp:Zch:=[(3000002,[4]),(1000002,[0,1,5])]
noncomputable def C (p:List Nat):Code:=(cod fn).sub p
def KR (Q:QT):KT:=Zfd pg fn.results.toList Q
abbrev T2:=List Nat→Int→Int→Zaa→Prop
def E2 (R2:T2) (env:Env) (h:Zaa):Prop:=Zbu 0 env fun v env=>Zbd v fun x0=>Zbu 1 env fun v env=>Zdz .u8 v fun x1=>Zbu 5 env fun v env=>Zdz .i64 v fun x5=>Zil env (R2 x0 x1 x5 h)
theorem Zea {R2:T2} {env:Env} {h:Zaa} (hi:E2 R2 env h):∃ x0,∃ x1,∃ x5,env=[(0,.str x0),(1,.int .u8 x1),(5,.int .i64 x5)]∧R2 x0 x1 x5 h:=by
 unfold E2 at hi
 repeat ((first | (have k:=Zaf hi; clear hi; obtain ⟨_,_,e,hi⟩:=k) | (have k:=Zav hi; clear hi; obtain ⟨_,e,hi⟩:=k) | (have k:=Zed hi; clear hi; obtain ⟨_,e,hi⟩:=k)); subst e)
 obtain ⟨rfl,hi⟩:=Zbl hi
 exact ⟨_,_,_,rfl,hi⟩
def K0 (Q:QT):KT:=andThen (fun env' h'=>(match kp.find 4000006 with | some ks=>Den pg fn.ntmps (C [1,1]) (env'.keep ks) h' (KR Q) | none=>den pg fn.ntmps kp (C [1,1]) env' h' (KR Q))) (KR Q)
def K1 (Q:QT):KT:=Zcj 0 (K0 Q)
def K2 (Q:QT):KT:=left kp 2 (K1 Q)
def K3 (Q:QT) (R2:T2):KT:=rnd ((kp.find 1000002).getD []) (E2 R2) (K2 Q)
def L2 (Q:QT) (x0:List Nat) (x1 x5:Int) (h:Zaa):Prop:=Zej (Den pg fn.ntmps (C [1,0,1,0,0])) ((kp.find 1000002).getD []) (K2 Q) [(0,.str x0),(1,.int .u8 x1),(5,.int .i64 x5)] h
def Zmz (Q:QT) (h:Zaa):Prop:=At (K1 Q) (.exit 0) [(4,.undef)] h
def L2t (Q:QT) (R2:T2) (x0:List Nat) (x1 x5:Int) (h:Zaa):Prop:=
 bcase (decide ((x5:Int) < (((List.length x0:Nat):Int)))) (Zlz x0 x5 fun A=>bcase ((((A:Nat):Int):Int) == x1) (Q (.int .i64 x5) h) (R2 x0 x1 (IntKind.wrap .i64 (x5 + 1)) h)) (Zmz Q h)
theorem Zjc (Q:QT) (R2:T2) (x0:List Nat) (x1 x5:Int) (h:Zaa) (ht:L2t Q R2 x0 x1 x5 h):Den pg fn.ntmps (C [1,0,1,0,0]) [(0,.str x0),(1,.int .u8 x1),(5,.int .i64 x5)] h (K3 Q R2):=
 Zba (kp:=kp) (cast (by kernel_rfl) ht)
theorem L2ind (Q:QT) (x0:List Nat) (x1:Int) {G:Type} (J:G→Int→Zaa→Prop) (m:G→Nat)
 (hr:∀ (g:G) (x5:Int) (h:Zaa),J g x5 h→∀ (R2:T2),(∀ g' (x5:Int) (h:Zaa),m g' < m g→J g' x5 h→R2 x0 x1 x5 h)→L2t Q R2 x0 x1 x5 h)
 (g:G) (x5:Int) (h:Zaa) (hj:J g x5 h):L2 Q x0 x1 x5 h:=by
 let P:=fun (K:Int→Zaa→Prop) x0' x1' x5 h=>x0=x0'∧x1=x1'∧K x5 h
 refine Zej.inv2 (fun g=>E2 (P (J g))) (fun g=>E2 (P fun x5 h=>∃ g',m g' < m g∧J g' x5 h)) m ?_ ?_ g ⟨rfl,rfl,hj⟩
 ·intro g env h hi
  obtain ⟨x0',x1',x5,rfl,rfl,rfl,hj⟩:=Zea hi
  exact Zjc Q _ x0 x1 x5 h (hr g x5 h hj (P fun x5 h=>∃ g',m g' < m g∧J g' x5 h) fun g' x5 h hlt hj=>⟨rfl,rfl,g',hlt,hj⟩)
 ·intro g env h hi
  obtain ⟨x0',x1',x5,rfl,rfl,rfl,g',hlt,hj⟩:=Zea hi
  exact ⟨g',hlt,rfl,rfl,hj⟩
theorem A2x0i (Q:QT) (h:Zaa) (ht :
 Q (.int .i64 (-1)) h):Zmz Q h:=
 At.mk (cast (by kernel_rfl) ht)
theorem call (x0:List Nat) (x1:Int) (h:Zaa) (Q:QT) (ht :
 L2 Q x0 x1 0 h):Zak pg Zhv [.str x0,.int .u8 x1] h Q:=
 Zak.of_body kp (c:=cod fn) (fn:=fn) Go.Proofs.Tryz.func88 (by kernel_rfl) (by kernel_rfl) (Nat.le_of_ble_eq_true (by kernel_rfl))
  (cast (by kernel_rfl) ht)
end Zkw
namespace Zqt
noncomputable abbrev fn:Func:=Go.Proofs.Tryz.f148
def kp:Zch:=[(4000008,[])]
noncomputable def C (p:List Nat):Code:=(cod fn).sub p
def KR (Q:QT):KT:=Zfd pg fn.results.toList Q
def J8 (Q:QT) (h:Zaa):Prop:=Den pg fn.ntmps (C [1,1]) [] h (KR Q)
theorem J8i (Q:QT) (h:Zaa) (ht :
 Q (.int .i64 0) h):J8 Q h:=
 Zba (kp:=kp) (cast (by kernel_rfl) ht)
theorem call (x0:Int) (h:Zaa) (Q:QT) (ht :
 Zak pg Zhv [.str ([105,98,117,108,109,112,120,121,122,88,89,90]),.int .u8 x0] h fun A B=>
 Zec .i64 A fun A=>bcase (decide ((A:Int) < 0)) (Q (.int .i64 (-1)) B) (bcase ((A:Int) == 3) (Q (.int .i64 1) B) (bcase ((A:Int) == 4) (Q (.int .i64 1) B) (bcase ((A:Int) == 5) (Q (.int .i64 2) B) (J8 Q B))))):Zak pg Znr [.int .u8 x0] h Q:=
 Zak.of_body kp (c:=cod fn) (fn:=fn) Go.Proofs.Tryz.func148 (by kernel_rfl) (by kernel_rfl) (Nat.le_of_ble_eq_true (by kernel_rfl))
  (cast (by kernel_rfl) ht)
end Zqt
namespace Zot
noncomputable abbrev fn:Func:=Go.Proofs.Tryz.f147
def kp:Zch:=[(2000001,[12,0]),(2000005,[2])]
noncomputable def C (p:List Nat):Code:=(cod fn).sub p
def KR (Q:QT):KT:=Zfd pg fn.results.toList Q
theorem call (a0:Pt) (h:Zaa) (Q:QT) (ht :
 Zbf a0 fun A B=>Zbf a0 fun C D=>Zec .i64 (Zag h (.ptr (A,B + 1))) fun E=>Zbd (Zag h (.ptr (C,D + 0))) fun C=>(Zag h (.ptr (A,B + 1))=Zag h (.ptr (A,B + 1)))∧bcase (decide ((E:Int) ≥ (((List.length C:Nat):Int)))) (Zbf a0 fun A B=>Zbt (Zbb h (.ptr (A,B + 2)) [.bool true]) fun A=>Q (.int .u8 0) A) (Zbf a0 fun A B=>Zec .i64 (Zag h (.ptr (A,B + 1))) fun A=>Zbf a0 fun B C=>Zbt (Zbb h (.ptr (B,C + 1)) [.int .i64 (IntKind.wrap .i64 (A + 1))]) fun A=>Zbf a0 fun B C=>Zbf a0 fun D E=>Zbd (Zag A (.ptr (B,C + 0))) fun F=>Zec .i64 (Zag A (.ptr (D,E + 1))) fun D=>(Zag A (.ptr (B,C + 0))=Zag A (.ptr (B,C + 0)))∧Zlz F (IntKind.wrap .i64 (D - 1)) fun B=>Q (.int .u8 (((B:Nat):Int))) A)):Zak pg Zgz [.ptr a0] h Q:=
 Zak.of_body kp (c:=cod fn) (fn:=fn) Go.Proofs.Tryz.func147 (by kernel_rfl) (by kernel_rfl) (Nat.le_of_ble_eq_true (by kernel_rfl))
  (cast (by kernel_rfl) ht)
end Zot
namespace Zby
noncomputable abbrev fn:Func:=Go.Proofs.Tryz.f130
def kp:Zch:=[(4000004,[0,2,3,4]),(3000005,[4,0,3,2]),(1000005,[0,2,3,4,5]),(4000007,[0,5,3,4,2]),(2000007,[0,3,5,4,2]),(4000008,[0,3,5,4,2]),(2000009,[5,4,0,3,2]),(4000006,[5,4,0,3,2]),(4000012,[3,2])]
noncomputable def C (p:List Nat):Code:=(cod fn).sub p
def KR (Q:QT):KT:=Zfd pg fn.results.toList Q
abbrev T5:=Pt→Nat→Nat→Nat→Nat→Int→Int→Zaa→Prop
def E5 (R5:T5) (env:Env) (h:Zaa):Prop:=Zbu 0 env fun v env=>Zgn v fun a0=>Zbu 2 env fun v env=>Zgn v fun a=>Zbf a fun i2 o2=>Zbu 3 env fun v env=>Zgn v fun a=>Zbf a fun i3 o3=>Zbu 4 env fun v env=>Zdz .i64 v fun x4=>Zbu 5 env fun v env=>Zdz .i64 v fun x5=>Zil env (R5 a0 i2 o2 i3 o3 x4 x5 h)
theorem Zik {R5:T5} {env:Env} {h:Zaa} (hi:E5 R5 env h):∃ a0,∃ i2,∃ o2,∃ i3,∃ o3,∃ x4,∃ x5,env=[(0,.ptr a0),(2,.ptr (i2,o2)),(3,.ptr (i3,o3)),(4,.int .i64 x4),(5,.int .i64 x5)]∧R5 a0 i2 o2 i3 o3 x4 x5 h:=by
 unfold E5 at hi
 have hi0:=hi
 clear hi
 obtain ⟨_,_,rfl,hi1⟩:=Zaf hi0
 obtain ⟨a0,rfl,hi2⟩:=Zbn hi1
 obtain ⟨_,_,rfl,hi3⟩:=Zaf hi2
 obtain ⟨a,rfl,hi4⟩:=Zbn hi3
 obtain ⟨i2,o2,rfl,hi5⟩:=Zbk hi4
 obtain ⟨_,_,rfl,hi6⟩:=Zaf hi5
 obtain ⟨a,rfl,hi7⟩:=Zbn hi6
 obtain ⟨i3,o3,rfl,hi8⟩:=Zbk hi7
 obtain ⟨_,_,rfl,hi9⟩:=Zaf hi8
 obtain ⟨x4,rfl,hi10⟩:=Zav hi9
 obtain ⟨_,_,rfl,hi11⟩:=Zaf hi10
 obtain ⟨x5,rfl,hi12⟩:=Zav hi11
 obtain ⟨rfl,hi13⟩:=Zbl hi12
 have hi:=hi13
 exact ⟨a0,i2,o2,i3,o3,x4,x5,rfl,hi⟩
def K0 (Q:QT):KT:=andThen (fun env' h'=>(match kp.find 4000010 with | some ks=>Den pg fn.ntmps (C [1,1,1,1,1]) (env'.keep ks) h' (KR Q) | none=>den pg fn.ntmps kp (C [1,1,1,1,1]) env' h' (KR Q))) (KR Q)
def K1 (Q:QT):KT:=Zcj 0 (K0 Q)
def K2 (Q:QT):KT:=left kp 5 (K1 Q)
def K3 (Q:QT) (R5:T5):KT:=rnd ((kp.find 1000005).getD []) (E5 R5) (K2 Q)
def K4 (Q:QT) (R5:T5):KT:=andThen (fun env' h'=>(match kp.find 4000006 with | some ks=>Den pg fn.ntmps (C [1,1,1,1,0,1,0,0,1,1]) (env'.keep ks) h' (K3 Q R5) | none=>den pg fn.ntmps kp (C [1,1,1,1,0,1,0,0,1,1]) env' h' (K3 Q R5))) (K3 Q R5)
def K5 (Q:QT) (R5:T5):KT:=Zcj 1 (K4 Q R5)
def J4 (Q:QT) (a0:Pt) (i2 o2 i3 o3:Nat) (x4:Int) (h:Zaa):Prop:=Den pg fn.ntmps (C [1,1,1,1]) [(0,.ptr a0),(2,.ptr (i2,o2)),(3,.ptr (i3,o3)),(4,.int .i64 x4)] h (KR Q)
def L5 (Q:QT) (a0:Pt) (i2 o2 i3 o3:Nat) (x4 x5:Int) (h:Zaa):Prop:=Zej (Den pg fn.ntmps (C [1,1,1,1,0,1,0,0])) ((kp.find 1000005).getD []) (K2 Q) [(0,.ptr a0),(2,.ptr (i2,o2)),(3,.ptr (i3,o3)),(4,.int .i64 x4),(5,.int .i64 x5)] h
def J7 (Q:QT) (R5:T5) (a0:Pt) (x5:Int) (i3 o3:Nat) (x4:Int) (i2 o2:Nat) (h:Zaa):Prop:=Den pg fn.ntmps (C [1,1,1,1,0,1,0,0,1]) [(0,.ptr a0),(5,.int .i64 x5),(3,.ptr (i3,o3)),(4,.int .i64 x4),(2,.ptr (i2,o2))] h (K3 Q R5)
def A5x0 (Q:QT) (x4:Int) (a0:Pt) (i3 o3 i2 o2:Nat) (h:Zaa):Prop:=At (K1 Q) (.exit 0) [(4,.int .i64 x4),(0,.ptr a0),(3,.ptr (i3,o3)),(2,.ptr (i2,o2))] h
def J8 (Q:QT) (R5:T5) (a0:Pt) (i3 o3:Nat) (x5 x4:Int) (i2 o2:Nat) (h:Zaa):Prop:=Den pg fn.ntmps (C [1,1,1,1,0,1,0,0,1,0,0,1]) [(0,.ptr a0),(3,.ptr (i3,o3)),(5,.int .i64 x5),(4,.int .i64 x4),(2,.ptr (i2,o2))] h (K5 Q R5)
def J12 (Q:QT) (i3 o3 i2 o2:Nat) (h:Zaa):Prop:=Den pg fn.ntmps (C [1,1,1,1,1,1]) [(3,.ptr (i3,o3)),(2,.ptr (i2,o2))] h (KR Q)
def J6 (Q:QT) (R5:T5) (x5 x4:Int) (a0:Pt) (i3 o3 i2 o2:Nat) (h:Zaa):Prop:=Den pg fn.ntmps (C [1,1,1,1,0,1,0,0,1,1]) [(5,.int .i64 x5),(4,.int .i64 x4),(0,.ptr a0),(3,.ptr (i3,o3)),(2,.ptr (i2,o2))] h (K3 Q R5)
theorem J4i (Q:QT) (a0:Pt) (i2 o2 i3 o3:Nat) (x4:Int) (h:Zaa) (ht :
 L5 Q a0 i2 o2 i3 o3 x4 0 h):J4 Q a0 i2 o2 i3 o3 x4 h:=
 Zba (kp:=kp) (cast (by kernel_rfl) ht)
def L5t (Q:QT) (R5:T5) (a0:Pt) (i2 o2 i3 o3:Nat) (x4 x5:Int) (h:Zaa):Prop:=
 bcase (decide ((x5:Int) < x4)) (Zbf a0 fun A B=>Zca (Zag h (.ptr (A,B + 2))) fun A=>bcase (!A) (J7 Q R5 a0 x5 i3 o3 x4 i2 o2 h) (A5x0 Q x4 a0 i3 o3 i2 o2 h)) (A5x0 Q x4 a0 i3 o3 i2 o2 h)
theorem Ztv (Q:QT) (R5:T5) (a0:Pt) (i2 o2 i3 o3:Nat) (x4 x5:Int) (h:Zaa) (ht:L5t Q R5 a0 i2 o2 i3 o3 x4 x5 h):Den pg fn.ntmps (C [1,1,1,1,0,1,0,0]) [(0,.ptr a0),(2,.ptr (i2,o2)),(3,.ptr (i3,o3)),(4,.int .i64 x4),(5,.int .i64 x5)] h (K3 Q R5):=
 Zba (kp:=kp) (cast (by kernel_rfl) ht)
theorem L5ind (Q:QT) (a0:Pt) (i2 o2 i3 o3:Nat) (x4:Int) {G:Type} (J:G→Int→Zaa→Prop) (m:G→Nat)
 (hr:∀ (g:G) (x5:Int) (h:Zaa),J g x5 h→∀ (R5:T5),(∀ g' (x5:Int) (h:Zaa),m g' < m g→J g' x5 h→R5 a0 i2 o2 i3 o3 x4 x5 h)→L5t Q R5 a0 i2 o2 i3 o3 x4 x5 h)
 (g:G) (x5:Int) (h:Zaa) (hj:J g x5 h):L5 Q a0 i2 o2 i3 o3 x4 x5 h:=by
 let P:=fun (K:Int→Zaa→Prop) a0' i2' o2' i3' o3' x4' x5 h=>a0=a0'∧i2=i2'∧o2=o2'∧i3=i3'∧o3=o3'∧x4=x4'∧K x5 h
 refine Zej.inv2 (fun g=>E5 (P (J g))) (fun g=>E5 (P fun x5 h=>∃ g',m g' < m g∧J g' x5 h)) m ?_ ?_ g ⟨rfl,rfl,rfl,rfl,rfl,rfl,hj⟩
 ·intro g env h hi
  obtain ⟨a0',i2',o2',i3',o3',x4',x5,rfl,rfl,rfl,rfl,rfl,rfl,rfl,hj⟩:=Zik hi
  exact Ztv Q _ a0 i2 o2 i3 o3 x4 x5 h (hr g x5 h hj (P fun x5 h=>∃ g',m g' < m g∧J g' x5 h) fun g' x5 h hlt hj=>⟨rfl,rfl,rfl,rfl,rfl,rfl,g',hlt,hj⟩)
 ·intro g env h hi
  obtain ⟨a0',i2',o2',i3',o3',x4',x5,rfl,rfl,rfl,rfl,rfl,rfl,rfl,g',hlt,hj⟩:=Zik hi
  exact ⟨g',hlt,rfl,rfl,rfl,rfl,rfl,rfl,hj⟩
theorem J7i (Q:QT) (R5:T5) (a0:Pt) (x5:Int) (i3 o3:Nat) (x4:Int) (i2 o2:Nat) (h:Zaa) (ht :
 Zlz ([40,44]) x5 fun A=>Zak pg Zgz [.ptr a0] h fun B C=>
 Zec .u8 B fun B=>bcase (!((B:Int) == (((A:Nat):Int)))) (Zbf a0 fun A B=>Zbt (Zbb C (.ptr (A,B + 2)) [.bool true]) fun A=>J8 Q R5 a0 i3 o3 x5 x4 i2 o2 A) (Zbf a0 fun A B=>Zca (Zag C (.ptr (A,B + 2))) fun A=>Zbf a0 fun B D=>Zbt (Zbb C (.ptr (B,D + 2)) [.bool A]) fun A=>J8 Q R5 a0 i3 o3 x5 x4 i2 o2 A)):J7 Q R5 a0 x5 i3 o3 x4 i2 o2 h:=
 Zba (kp:=kp) (cast (by kernel_rfl) ht)
theorem A5x0i (Q:QT) (x4:Int) (a0:Pt) (i3 o3 i2 o2:Nat) (h:Zaa) (ht :
 bcase (decide ((x4:Int) > 0)) (Zbf a0 fun A B=>Zca (Zag h (.ptr (A,B + 2))) fun A=>bcase (!A) (Zak pg Zgz [.ptr a0] h fun A B=>
 Zec .u8 A fun A=>bcase (!((A:Int) == 41)) (Zbf a0 fun A C=>Zbt (Zbb B (.ptr (A,C + 2)) [.bool true]) fun A=>J12 Q i3 o3 i2 o2 A) (Zbf a0 fun A C=>Zca (Zag B (.ptr (A,C + 2))) fun A=>Zbf a0 fun C D=>Zbt (Zbb B (.ptr (C,D + 2)) [.bool A]) fun A=>J12 Q i3 o3 i2 o2 A)) (J12 Q i3 o3 i2 o2 h)) (J12 Q i3 o3 i2 o2 h)):A5x0 Q x4 a0 i3 o3 i2 o2 h:=
 At.mk (cast (by kernel_rfl) ht)
theorem J8i (Q:QT) (R5:T5) (a0:Pt) (i3 o3:Nat) (x5 x4:Int) (i2 o2:Nat) (h:Zaa) (ht :
 Zbf a0 fun A B=>Zca (Zag h (.ptr (A,B + 2))) fun A=>bcase (!A) (xSl (Zag h (.ptr (i3,o3 + 1))) fun A B C D=>Zak pg Zgb [.ptr a0] h fun E F=>
 Zqi E fun E=>Zai E fun E G=>Zec .u8 E fun E=>Zai G fun G H=>xSl G fun G I J K=>Zbq H ((Zag F (.ptr (i3,o3 + 1))=Zag h (.ptr (i3,o3 + 1)))∧Zcf (F ++ [.cells Zap [.int .u8 E,.slice G I J K] false]) fun E=>(Zag E (.ptr (i3,o3 + 1))=Zag F (.ptr (i3,o3 + 1)))∧Zci pg Zma E (.slice A B C D) (.slice (F.length,0) 1 1 true) fun A B=>xSl A fun A C D E=>Zbt (Zbb B (.ptr (i3,o3 + 1)) [.slice A C D E]) fun A=>J6 Q R5 x5 x4 a0 i3 o3 i2 o2 A)) (J6 Q R5 x5 x4 a0 i3 o3 i2 o2 h)):J8 Q R5 a0 i3 o3 x5 x4 i2 o2 h:=
 Zba (kp:=kp) (cast (by kernel_rfl) ht)
theorem J12i (Q:QT) (i3 o3 i2 o2:Nat) (h:Zaa) (ht :
 Zcd (Zbe h (.ptr (i3,o3)) 2) fun A=>Zai A fun A B=>Zec .u8 A fun A=>Zai B fun B C=>xSl B fun B D E F=>Zbq C (Zbt (Zbb h (.ptr (i2,o2)) [.int .u8 A,.slice B D E F]) fun A=>Zcd (Zbe A (.ptr (i2,o2)) 2) fun B=>Zai B fun B C=>Zec .u8 B fun B=>Zai C fun C D=>xSl C fun C E F G=>Zbq D (Q (.agg [.int .u8 B,.slice C E F G]) A))):J12 Q i3 o3 i2 o2 h:=
 Zba (kp:=kp) (cast (by kernel_rfl) ht)
theorem J6i (Q:QT) (R5:T5) (x5 x4:Int) (a0:Pt) (i3 o3 i2 o2:Nat) (h:Zaa) (ht :
 R5 a0 i2 o2 i3 o3 x4 (IntKind.wrap .i64 (x5 + 1)) h):J6 Q R5 x5 x4 a0 i3 o3 i2 o2 h:=
 Zba (kp:=kp) (cast (by kernel_rfl) ht)
theorem call (a0:Pt) (h:Zaa) (Q:QT) (ht :
 Zcf (h ++ [.cells Zap [.int .u8 0,.slice none 0 0 true] false]) fun A=>Zak pg Zgz [.ptr a0] A fun A B=>
 Zec .u8 A fun A=>Zcf (B ++ [.cells Zap [] false]) fun C=>Zcf (C ++ [.cells Zap [.int .u8 0,.slice none 0 0 true] false]) fun D=>Zbt (Zbb D (.ptr (C.length,0)) [.int .u8 A,.slice (B.length,0) 0 0 true]) fun A=>Zec .u8 (Zag A (.ptr (C.length,0 + 0))) fun B=>Zak pg Znr [.int .u8 B] A fun A B=>
 Zec .i64 A fun A=>Zbf a0 fun D E=>Zca (Zag B (.ptr (D,E + 2))) fun D=>bcase D (Zbf a0 fun D E=>Zbt (Zbb B (.ptr (D,E + 2)) [.bool true]) fun D=>J4 Q a0 h.length 0 C.length 0 A D) (Zbf a0 fun D E=>Zbt (Zbb B (.ptr (D,E + 2)) [.bool (decide ((A:Int) < 0))]) fun B=>J4 Q a0 h.length 0 C.length 0 A B)):Zak pg Zgb [.ptr a0] h Q:=
 Zak.of_body kp (c:=cod fn) (fn:=fn) Go.Proofs.Tryz.func130 (by kernel_rfl) (by kernel_rfl) (Nat.le_of_ble_eq_true (by kernel_rfl))
  (cast (by kernel_rfl) ht)
end Zby
namespace Zsk
noncomputable abbrev fn:Func:=Go.Proofs.Tryz.f107
def kp:Zch:=[(4000005,[5,2])]
noncomputable def C (p:List Nat):Code:=(cod fn).sub p
def KR (Q:QT):KT:=Zfd pg fn.results.toList Q
def J5 (Q:QT) (i5 o5 i2 o2:Nat) (h:Zaa):Prop:=Den pg fn.ntmps (C [1,1,1,1]) [(5,.ptr (i5,o5)),(2,.ptr (i2,o2))] h (KR Q)
theorem J5i (Q:QT) (i5 o5 i2 o2:Nat) (h:Zaa) (ht :
 Zcd (Zbe h (.ptr (i5,o5)) 2) fun A=>Zai A fun A B=>Zec .u8 A fun A=>Zai B fun B C=>xSl B fun B D E F=>Zbq C (Zbt (Zbb h (.ptr (i2,o2)) [.int .u8 A,.slice B D E F]) fun A=>Zcd (Zbe A (.ptr (i2,o2)) 2) fun B=>Zai B fun B C=>Zec .u8 B fun B=>Zai C fun C D=>xSl C fun C E F G=>Zbq D (Q (.tup [.agg [.int .u8 B,.slice C E F G],.bool true]) A))):J5 Q i5 o5 i2 o2 h:=
 Zba (kp:=kp) (cast (by kernel_rfl) ht)
theorem call (x0:List Nat) (h:Zaa) (Q:QT) (ht :
 Zcf (h ++ [.cells Zap [.int .u8 0,.slice none 0 0 true] false]) fun A=>Zcf (A ++ [.cells Zek [.str x0,.int .i64 0,.bool false] false]) fun B=>Zak pg Zgb [.ptr (A.length,0)] B fun B C=>
 Zqi B fun B=>Zai B fun B D=>Zec .u8 B fun B=>Zai D fun D E=>xSl D fun D F G H=>Zbq E (Zcf (C ++ [.cells Zap [.int .u8 0,.slice none 0 0 true] false]) fun E=>Zbt (Zbb E (.ptr (C.length,0)) [.int .u8 B,.slice D F G H]) fun B=>Zca (Zag B (.ptr (A.length,0 + 2))) fun D=>bcase D (Zbt (Zbb B (.ptr (h.length,0)) [.int .u8 0,.slice none 0 0 true]) fun D=>Zcd (Zbe D (.ptr (h.length,0)) 2) fun E=>Zai E fun E F=>Zec .u8 E fun E=>Zai F fun F G=>xSl F fun F H I J=>Zbq G (Q (.tup [.agg [.int .u8 E,.slice F H I J],.bool false]) D)) (Zec .i64 (Zag B (.ptr (A.length,0 + 1))) fun A=>bcase (!((A:Int) == (((List.length x0:Nat):Int)))) (Zbt (Zbb B (.ptr (h.length,0)) [.int .u8 0,.slice none 0 0 true]) fun A=>Zcd (Zbe A (.ptr (h.length,0)) 2) fun D=>Zai D fun D E=>Zec .u8 D fun D=>Zai E fun E F=>xSl E fun E G H I=>Zbq F (Q (.tup [.agg [.int .u8 D,.slice E G H I],.bool false]) A)) (bcase (decide (((((List.length x0:Nat):Int)):Int) > 60)) (Zbt (Zbb B (.ptr (h.length,0)) [.int .u8 0,.slice none 0 0 true]) fun A=>Zcd (Zbe A (.ptr (h.length,0)) 2) fun D=>Zai D fun D E=>Zec .u8 D fun D=>Zai E fun E F=>xSl E fun E G H I=>Zbq F (Q (.tup [.agg [.int .u8 D,.slice E G H I],.bool false]) A)) (J5 Q C.length 0 h.length 0 B))))):Zak pg Zhd [.str x0] h Q:=
 Zak.of_body kp (c:=cod fn) (fn:=fn) Go.Proofs.Tryz.func107 (by kernel_rfl) (by kernel_rfl) (Nat.le_of_ble_eq_true (by kernel_rfl))
  (cast (by kernel_rfl) ht)
end Zsk
namespace Ztd
noncomputable abbrev fn:Func:=Go.Proofs.Tryz.f96
def kp:Zch:=[]
noncomputable def C (p:List Nat):Code:=(cod fn).sub p
def KR (Q:QT):KT:=Zfd pg fn.results.toList Q
theorem call (x0:List Nat) (h:Zaa) (Q:QT) (ht :
 Zak pg Zhd [.str x0] h fun A B=>
 Zlf A fun A=>Zai A fun A C=>Zqi A fun A=>Zai A fun A D=>Zec .u8 A fun A=>Zai D fun D E=>xSl D fun D F G H=>Zbq E (Zai C fun C E=>Zca C fun C=>Zbq E (Zcf (B ++ [.cells Zap [.int .u8 0,.slice none 0 0 true] false]) fun E=>Zbt (Zbb E (.ptr (B.length,0)) [.int .u8 A,.slice D F G H]) fun A=>Q (.bool C) A))):Zak pg Zge [.str x0] h Q:=
 Zak.of_body kp (c:=cod fn) (fn:=fn) Go.Proofs.Tryz.func96 (by kernel_rfl) (by kernel_rfl) (Nat.le_of_ble_eq_true (by kernel_rfl))
  (cast (by kernel_rfl) ht)
end Ztd
end Go.Sim

set_option maxRecDepth 100000
set_option maxHeartbeats 0
set_option linter.unusedVariables false
namespace Go.Sim
open Go Go.RowKit
namespace Zts
noncomputable abbrev fn:Func:=Go.Proofs.Tryz.f143
def kp:Zch:=[(4000009,[])]
noncomputable def C (p:List Nat):Code:=(cod fn).sub p
def KR (Q:QT):KT:=Zfd pg fn.results.toList Q
def J9 (Q:QT) (h:Zaa):Prop:=Den pg fn.ntmps (C [1,1]) [] h (KR Q)
theorem J9i (Q:QT) (h:Zaa) (ht :
 Q (.int .i64 (-1)) h):J9 Q h:=
 Zba (kp:=kp) (cast (by kernel_rfl) ht)
theorem call (x0:List Nat) (h:Zaa) (Q:QT) (ht :
 bcase (!((((List.length x0:Nat):Int):Int) == 1)) (Q (.int .i64 (-1)) h) (Zak pg Zfu [.str ([105,98,117,120,121,122,88,89,90]),.str x0] h fun A B=>
 Zca A fun A=>bcase A (Q (.int .i64 0) B) (bcase (decide (x0=[108])) (Q (.int .i64 1) B) (bcase (decide (x0=[109])) (Q (.int .i64 1) B) (bcase (decide (x0=[112])) (Q (.int .i64 2) B) (J9 Q B)))))):Zak pg Zqm [.str x0] h Q:=
 Zak.of_body kp (c:=cod fn) (fn:=fn) Go.Proofs.Tryz.func143 (by kernel_rfl) (by kernel_rfl) (Nat.le_of_ble_eq_true (by kernel_rfl))
  (cast (by kernel_rfl) ht)
end Zts
namespace Zft
noncomputable abbrev fn:Func:=Go.Proofs.Tryz.f123
def kp:Zch:=[(4000003,[0]),(3000006,[4,0,2,3]),(1000006,[0,4,27,28]),(4000020,[4,0])]
noncomputable def C (p:List Nat):Code:=(cod fn).sub p
def KR (Q:QT):KT:=Zfd pg fn.results.toList Q
abbrev T6:=List Nat→Nat→Nat→Int→Int→Zaa→Prop
def E6 (R6:T6) (env:Env) (h:Zaa):Prop:=Zbu 0 env fun v env=>Zbd v fun x0=>Zbu 4 env fun v env=>Zgn v fun a=>Zbf a fun i4 o4=>Zbu 27 env fun v env=>Zdz .i64 v fun x27=>Zbu 28 env fun v env=>Zdz .i64 v fun x28=>Zil env (R6 x0 i4 o4 x27 x28 h)
theorem Zlv {R6:T6} {env:Env} {h:Zaa} (hi:E6 R6 env h):∃ x0,∃ i4,∃ o4,∃ x27,∃ x28,env=[(0,.str x0),(4,.ptr (i4,o4)),(27,.int .i64 x27),(28,.int .i64 x28)]∧R6 x0 i4 o4 x27 x28 h:=by
 unfold E6 at hi
 have hi0:=hi
 clear hi
 obtain ⟨_,_,rfl,hi1⟩:=Zaf hi0
 obtain ⟨x0,rfl,hi2⟩:=Zed hi1
 obtain ⟨_,_,rfl,hi3⟩:=Zaf hi2
 obtain ⟨a,rfl,hi4⟩:=Zbn hi3
 obtain ⟨i4,o4,rfl,hi5⟩:=Zbk hi4
 obtain ⟨_,_,rfl,hi6⟩:=Zaf hi5
 obtain ⟨x27,rfl,hi7⟩:=Zav hi6
 obtain ⟨_,_,rfl,hi8⟩:=Zaf hi7
 obtain ⟨x28,rfl,hi9⟩:=Zav hi8
 obtain ⟨rfl,hi10⟩:=Zbl hi9
 have hi:=hi10
 exact ⟨x0,i4,o4,x27,x28,rfl,hi⟩
def K0 (Q:QT):KT:=andThen (fun env' h'=>(match kp.find 4000016 with | some ks=>Den pg fn.ntmps (C [1,1,1,1,1]) (env'.keep ks) h' (KR Q) | none=>den pg fn.ntmps kp (C [1,1,1,1,1]) env' h' (KR Q))) (KR Q)
def K1 (Q:QT):KT:=Zcj 0 (K0 Q)
def K2 (Q:QT):KT:=left kp 6 (K1 Q)
def K3 (Q:QT) (R6:T6):KT:=rnd ((kp.find 1000006).getD []) (E6 R6) (K2 Q)
def J3 (Q:QT) (x0:List Nat) (h:Zaa):Prop:=Den pg fn.ntmps (C [1,1]) [(0,.str x0)] h (KR Q)
def L6 (Q:QT) (x0:List Nat) (i4 o4:Nat) (x27 x28:Int) (h:Zaa):Prop:=Zej (Den pg fn.ntmps (C [1,1,1,1,0,1,0,0])) ((kp.find 1000006).getD []) (K2 Q) [(0,.str x0),(4,.ptr (i4,o4)),(27,.int .i64 x27),(28,.int .i64 x28)] h
def Ydq (Q:QT) (i4 o4:Nat) (x0:List Nat) (h:Zaa):Prop:=At (K1 Q) (.exit 0) [(4,.ptr (i4,o4)),(0,.str x0),(2,.undef),(3,.undef)] h
def J20 (Q:QT) (i4 o4:Nat) (x0:List Nat) (h:Zaa):Prop:=Den pg fn.ntmps (C [1,1,1,1,1,1]) [(4,.ptr (i4,o4)),(0,.str x0)] h (KR Q)
theorem J3i (Q:QT) (x0:List Nat) (h:Zaa) (ht :
 (0≤(0:Int)∧(0:Int)≤1∧(1:Int)≤(List.length x0:Nat))∧(Zcf (h ++ [.cells Zgk [.str (sub x0 0 1),.slice none 0 0 true,.ptr none] false]) fun A=>(0≤(1:Int)∧(1:Int)≤(List.length x0:Int)∧((List.length x0:Int):Int)≤(List.length x0:Nat))∧(Zbd (Zag A (.ptr (h.length,0 + 0))) fun B=>Zak pg Zqm [.str B] A fun A B=>
 Zec .i64 A fun A=>L6 Q (sub x0 1 ((List.length x0:Int))) h.length 0 A 0 B))):J3 Q x0 h:=
 Zba (kp:=kp) (cast (by kernel_rfl) ht)
def L6t (Q:QT) (R6:T6) (x0:List Nat) (i4 o4:Nat) (x27 x28:Int) (h:Zaa):Prop:=
 bcase (decide ((x28:Int) < x27)) ((0≤(x28:Int)∧(x28:Int)≤IntKind.wrap .i64 (x28 + 1)∧(IntKind.wrap .i64 (x28 + 1):Int)≤(List.length ([40,44]):Nat))∧(Zak pg Zlr [.str x0,.str (sub ([40,44]) x28 (IntKind.wrap .i64 (x28 + 1)))] h fun A B=>
 Zca A fun A=>bcase (!A) (Q (.tup [.ptr none,.str x0]) B) ((0≤(1:Int)∧(1:Int)≤(List.length x0:Int)∧((List.length x0:Int):Int)≤(List.length x0:Nat))∧(Zak pg Zmh [.str (sub x0 1 ((List.length x0:Int)))] B fun A B=>
 Zlf A fun A=>Zai A fun A C=>Zgn A fun A=>Zai C fun C D=>Zbd C fun C=>Zbq D (bcase (Option.isNone A) (Q (.tup [.ptr none,.str x0]) B) (xSl (Zag B (.ptr (i4,o4 + 1))) fun D E F G=>Zcf (B ++ [.cells Zhb [.ptr A] false]) fun A=>Zci pg Ztq A (.slice D E F G) (.slice (B.length,0) 1 1 true) fun A B=>xSl A fun A D E F=>Zbt (Zbb B (.ptr (i4,o4 + 1)) [.slice A D E F]) fun A=>R6 C i4 o4 x27 (IntKind.wrap .i64 (x28 + 1)) A)))))) (Ydq Q i4 o4 x0 h)
theorem Zya (Q:QT) (R6:T6) (x0:List Nat) (i4 o4:Nat) (x27 x28:Int) (h:Zaa) (ht:L6t Q R6 x0 i4 o4 x27 x28 h):Den pg fn.ntmps (C [1,1,1,1,0,1,0,0]) [(0,.str x0),(4,.ptr (i4,o4)),(27,.int .i64 x27),(28,.int .i64 x28)] h (K3 Q R6):=
 Zba (kp:=kp) (cast (by kernel_rfl) ht)
theorem L6ind (Q:QT) (i4 o4:Nat) (x27:Int) {G:Type} (J:G→List Nat→Int→Zaa→Prop) (m:G→Nat)
 (hr:∀ (g:G) (x0:List Nat) (x28:Int) (h:Zaa),J g x0 x28 h→∀ (R6:T6),(∀ g' (x0:List Nat) (x28:Int) (h:Zaa),m g' < m g→J g' x0 x28 h→R6 x0 i4 o4 x27 x28 h)→L6t Q R6 x0 i4 o4 x27 x28 h)
 (g:G) (x0:List Nat) (x28:Int) (h:Zaa) (hj:J g x0 x28 h):L6 Q x0 i4 o4 x27 x28 h:=by
 let P:=fun (K:List Nat→Int→Zaa→Prop) x0 i4' o4' x27' x28 h=>i4=i4'∧o4=o4'∧x27=x27'∧K x0 x28 h
 refine Zej.inv2 (fun g=>E6 (P (J g))) (fun g=>E6 (P fun x0 x28 h=>∃ g',m g' < m g∧J g' x0 x28 h)) m ?_ ?_ g ⟨rfl,rfl,rfl,hj⟩
 ·intro g env h hi
  obtain ⟨x0,i4',o4',x27',x28,rfl,rfl,rfl,rfl,hj⟩:=Zlv hi
  exact Zya Q _ x0 i4 o4 x27 x28 h (hr g x0 x28 h hj (P fun x0 x28 h=>∃ g',m g' < m g∧J g' x0 x28 h) fun g' x0 x28 h hlt hj=>⟨rfl,rfl,rfl,g',hlt,hj⟩)
 ·intro g env h hi
  obtain ⟨x0,i4',o4',x27',x28,rfl,rfl,rfl,rfl,g',hlt,hj⟩:=Zlv hi
  exact ⟨g',hlt,rfl,rfl,rfl,hj⟩
theorem A6x0i (Q:QT) (i4 o4:Nat) (x0:List Nat) (h:Zaa) (ht :
 xSl (Zag h (.ptr (i4,o4 + 1))) fun A A B B=>bcase (decide (((((A:Nat):Int)):Int) > 0)) (Zak pg Zlr [.str x0,.str [41]] h fun A B=>
 Zca A fun A=>bcase (!A) (Q (.tup [.ptr none,.str x0]) B) ((0≤(1:Int)∧(1:Int)≤(List.length x0:Int)∧((List.length x0:Int):Int)≤(List.length x0:Nat))∧(J20 Q i4 o4 (sub x0 1 ((List.length x0:Int))) B))) (J20 Q i4 o4 x0 h)):Ydq Q i4 o4 x0 h:=
 At.mk (cast (by kernel_rfl) ht)
theorem J20i (Q:QT) (i4 o4:Nat) (x0:List Nat) (h:Zaa) (ht :
 Q (.tup [.ptr (i4,o4),.str x0]) h):J20 Q i4 o4 x0 h:=
 Zba (kp:=kp) (cast (by kernel_rfl) ht)
theorem call (x0:List Nat) (h:Zaa) (Q:QT) (ht :
 bcase (decide (x0=[])) (Q (.tup [.ptr none,.str x0]) h) ((0≤(0:Int)∧(0:Int)≤1∧(1:Int)≤(List.length x0:Nat))∧(Zak pg Zqm [.str (sub x0 0 1)] h fun A B=>
 Zec .i64 A fun A=>bcase (decide ((A:Int) < 0)) (Q (.tup [.ptr none,.str x0]) B) (J3 Q x0 B)))):Zak pg Zmh [.str x0] h Q:=
 Zak.of_body kp (c:=cod fn) (fn:=fn) Go.Proofs.Tryz.func123 (by kernel_rfl) (by kernel_rfl) (Nat.le_of_ble_eq_true (by kernel_rfl))
  (cast (by kernel_rfl) ht)
end Zft
namespace Zxi
noncomputable abbrev fn:Func:=Go.Proofs.Tryz.f95
def kp:Zch:=[]
noncomputable def C (p:List Nat):Code:=(cod fn).sub p
def KR (Q:QT):KT:=Zfd pg fn.results.toList Q
theorem call (x0:List Nat) (h:Zaa) (Q:QT) (ht :
 bcase (decide (((((List.length x0:Nat):Int)):Int) > 60)) (Q (.ptr none) h) (Zak pg Zmh [.str x0] h fun A B=>
 Zlf A fun A=>Zai A fun A C=>Zgn A fun A=>Zai C fun C D=>Zbd C fun C=>Zbq D (bcase (!(decide (C=[]))) (Q (.ptr none) B) (Q (.ptr A) B)))):Zak pg Zmu [.str x0] h Q:=
 Zak.of_body kp (c:=cod fn) (fn:=fn) Go.Proofs.Tryz.func95 (by kernel_rfl) (by kernel_rfl) (Nat.le_of_ble_eq_true (by kernel_rfl))
  (cast (by kernel_rfl) ht)
end Zxi
namespace Zta
noncomputable abbrev fn:Func:=Go.Proofs.Tryz.f62
def kp:Zch:=[]
noncomputable def C (p:List Nat):Code:=(cod fn).sub p
def KR (Q:QT):KT:=Zfd pg fn.results.toList Q
theorem call (x0:List Nat) (h:Zaa) (Q:QT) (ht :
 Zak pg Zmu [.str x0] h fun A B=>
 Zgn A fun A=>Q (.bool (!(Option.isNone A))) B):Zak pg Zgw [.str x0] h Q:=
 Zak.of_body kp (c:=cod fn) (fn:=fn) Go.Proofs.Tryz.func62 (by kernel_rfl) (by kernel_rfl) (Nat.le_of_ble_eq_true (by kernel_rfl))
  (cast (by kernel_rfl) ht)
end Zta
end Go.Sim

set_option maxRecDepth 100000
set_option maxHeartbeats 0
set_option linter.unusedVariables false
namespace Go.Sim
open Go Go.RowKit
namespace Ziq
noncomputable abbrev fn:Func:=Go.Proofs.Tryz.f113
def kp:Zch:=[(3000006,[0,3]),(1000006,[0,3])]
noncomputable def C (p:List Nat):Code:=(cod fn).sub p
def KR (Q:QT):KT:=Zfd pg fn.results.toList Q
abbrev T6:=Int→List Nat→Zaa→Prop
def E6 (R6:T6) (env:Env) (h:Zaa):Prop:=Zbu 0 env fun v env=>Zdz .i64 v fun x0=>Zbu 3 env fun v env=>Zbd v fun x3=>Zil env (R6 x0 x3 h)
theorem Zlv {R6:T6} {env:Env} {h:Zaa} (hi:E6 R6 env h):∃ x0,∃ x3,env=[(0,.int .i64 x0),(3,.str x3)]∧R6 x0 x3 h:=by
 unfold E6 at hi
 repeat ((first | (have k:=Zaf hi; clear hi; obtain ⟨_,_,e,hi⟩:=k) | (have k:=Zav hi; clear hi; obtain ⟨_,e,hi⟩:=k) | (have k:=Zed hi; clear hi; obtain ⟨_,e,hi⟩:=k)); subst e)
 obtain ⟨rfl,hi⟩:=Zbl hi
 exact ⟨_,_,rfl,hi⟩
def K0 (Q:QT):KT:=andThen (fun env' h'=>(match kp.find 4000009 with | some ks=>Den pg fn.ntmps (C [1,1,1,1,1]) (env'.keep ks) h' (KR Q) | none=>den pg fn.ntmps kp (C [1,1,1,1,1]) env' h' (KR Q))) (KR Q)
def K1 (Q:QT):KT:=Zcj 0 (K0 Q)
def K2 (Q:QT):KT:=left kp 6 (K1 Q)
def K3 (Q:QT) (R6:T6):KT:=rnd ((kp.find 1000006).getD []) (E6 R6) (K2 Q)
def L6 (Q:QT) (x0:Int) (x3:List Nat) (h:Zaa):Prop:=Zej (Den pg fn.ntmps (C [1,1,1,1,0,0,0])) ((kp.find 1000006).getD []) (K2 Q) [(0,.int .i64 x0),(3,.str x3)] h
def Ydq (Q:QT) (x0:Int) (x3:List Nat) (h:Zaa):Prop:=At (K1 Q) (.exit 0) [(0,.int .i64 x0),(3,.str x3)] h
def L6t (Q:QT) (R6:T6) (x0:Int) (x3:List Nat) (h:Zaa):Prop:=
 bcase (decide ((x0:Int) > 9)) ((10:Int)≠0∧(Zcf (h ++ [.cells Ycl [.int .u8 (IntKind.wrap .u8 (IntKind.wrap .i64 (48 + (Int.tmod x0 10))))] false]) fun A=>Zcd (rowOf A (h.length,0) 1) fun B=>Znz B fun B=>List.length B + List.length x3≤9223372036854775807∧((10:Int)≠0∧(R6 (IntKind.wrap .i64 (Int.tdiv x0 10)) (B ++ x3) A)))) (Ydq Q x0 x3 h)
theorem Zya (Q:QT) (R6:T6) (x0:Int) (x3:List Nat) (h:Zaa) (ht:L6t Q R6 x0 x3 h):Den pg fn.ntmps (C [1,1,1,1,0,0,0]) [(0,.int .i64 x0),(3,.str x3)] h (K3 Q R6):=
 Zba (kp:=kp) (cast (by kernel_rfl) ht)
theorem L6ind (Q:QT) {G:Type} (J:G→Int→List Nat→Zaa→Prop) (m:G→Nat)
 (hr:∀ (g:G) (x0:Int) (x3:List Nat) (h:Zaa),J g x0 x3 h→∀ (R6:T6),(∀ g' (x0:Int) (x3:List Nat) (h:Zaa),m g' < m g→J g' x0 x3 h→R6 x0 x3 h)→L6t Q R6 x0 x3 h)
 (g:G) (x0:Int) (x3:List Nat) (h:Zaa) (hj:J g x0 x3 h):L6 Q x0 x3 h:=by
 let P:=fun (K:Int→List Nat→Zaa→Prop) x0 x3 h=>K x0 x3 h
 refine Zej.inv2 (fun g=>E6 (P (J g))) (fun g=>E6 (P fun x0 x3 h=>∃ g',m g' < m g∧J g' x0 x3 h)) m ?_ ?_ g hj
 ·intro g env h hi
  obtain ⟨x0,x3,rfl,hj⟩:=Zlv hi
  exact Zya Q _ x0 x3 h (hr g x0 x3 h hj (P fun x0 x3 h=>∃ g',m g' < m g∧J g' x0 x3 h) fun g' x0 x3 h hlt hj=>⟨g',hlt,hj⟩)
 ·intro g env h hi
  obtain ⟨x0,x3,rfl,g',hlt,hj⟩:=Zlv hi
  exact ⟨g',hlt,hj⟩
theorem A6x0i (Q:QT) (x0:Int) (x3:List Nat) (h:Zaa) (ht :
 Zcf (h ++ [.cells Ycl [.int .u8 (IntKind.wrap .u8 (IntKind.wrap .i64 (48 + x0)))] false]) fun A=>Zcd (rowOf A (h.length,0) 1) fun B=>Znz B fun B=>List.length B + List.length x3≤9223372036854775807∧(Q (.str (B ++ x3)) A)):Ydq Q x0 x3 h:=
 At.mk (cast (by kernel_rfl) ht)
theorem call (x0:Int) (h:Zaa) (Q:QT) (ht :
 bcase (decide ((x0:Int) < (-9223372036854775807))) (Q (.str ([45,57,50,50,51,51,55,50,48,51,54,56,53,52,55,55,53,56,48,56])) h) (bcase (decide ((x0:Int) < 0)) (Zak pg Zhq [.int .i64 (IntKind.wrap .i64 (0 - x0))] h fun A B=>
 Zbd A fun A=>List.length [45] + List.length A≤9223372036854775807∧(Q (.str ([45] ++ A)) B)) (L6 Q x0 [] h))):Zak pg Zhq [.int .i64 x0] h Q:=
 Zak.of_body kp (c:=cod fn) (fn:=fn) Go.Proofs.Tryz.func113 (by kernel_rfl) (by kernel_rfl) (Nat.le_of_ble_eq_true (by kernel_rfl))
  (cast (by kernel_rfl) ht)
end Ziq
end Go.Sim

set_option maxRecDepth 100000
set_option maxHeartbeats 0
set_option linter.unusedVariables false
namespace Go.Sim
open Go Go.RowKit
namespace Zlq
noncomputable abbrev fn:Func:=Go.Proofs.Tryz.f92
def kp:Zch:=[(3000003,[3]),(1000003,[0,3,7,8,9]),(4000007,[9,8,7,0,3])]
noncomputable def C (p:List Nat):Code:=(cod fn).sub p
def KR (Q:QT):KT:=Zfd pg fn.results.toList Q
abbrev T3:=List Nat→Pt→Nat→Nat→Bool→Pt→Nat→Nat→Bool→Int→Int→Zaa→Prop
def E3 (R3:T3) (env:Env) (h:Zaa):Prop:=Zbu 0 env fun v env=>Zbd v fun x0=>Zbu 3 env fun v env=>xSl v fun a3 n3 c3 e3=>Zbu 7 env fun v env=>xSl v fun a7 n7 c7 e7=>Zbu 8 env fun v env=>Zdz .i64 v fun x8=>Zbu 9 env fun v env=>Zdz .i64 v fun x9=>Zil env (R3 x0 a3 n3 c3 e3 a7 n7 c7 e7 x8 x9 h)
theorem Zgd {R3:T3} {env:Env} {h:Zaa} (hi:E3 R3 env h):∃ x0,∃ a3,∃ n3,∃ c3,∃ e3,∃ a7,∃ n7,∃ c7,∃ e7,∃ x8,∃ x9,env=[(0,.str x0),(3,.slice a3 n3 c3 e3),(7,.slice a7 n7 c7 e7),(8,.int .i64 x8),(9,.int .i64 x9)]∧R3 x0 a3 n3 c3 e3 a7 n7 c7 e7 x8 x9 h:=by
 unfold E3 at hi
 repeat ((first | (have k:=Zaf hi; clear hi; obtain ⟨_,_,e,hi⟩:=k) | (have k:=Zbp hi; clear hi; obtain ⟨_,_,_,_,e,hi⟩:=k) | (have k:=Zav hi; clear hi; obtain ⟨_,e,hi⟩:=k) | (have k:=Zed hi; clear hi; obtain ⟨_,e,hi⟩:=k)); subst e)
 obtain ⟨rfl,hi⟩:=Zbl hi
 exact ⟨_,_,_,_,_,_,_,_,_,_,_,rfl,hi⟩
def K0 (Q:QT):KT:=andThen (fun env' h'=>(match kp.find 4000008 with | some ks=>Den pg fn.ntmps (C [1,1,1]) (env'.keep ks) h' (KR Q) | none=>den pg fn.ntmps kp (C [1,1,1]) env' h' (KR Q))) (KR Q)
def K1 (Q:QT):KT:=Zcj 0 (K0 Q)
def K2 (Q:QT):KT:=left kp 3 (K1 Q)
def K3 (Q:QT) (R3:T3):KT:=rnd ((kp.find 1000003).getD []) (E3 R3) (K2 Q)
def L3 (Q:QT) (x0:List Nat) (a3:Pt) (n3 c3:Nat) (e3:Bool) (a7:Pt) (n7 c7:Nat) (e7:Bool) (x8 x9:Int) (h:Zaa):Prop:=Zej (Den pg fn.ntmps (C [1,1,0,1,0,0])) ((kp.find 1000003).getD []) (K2 Q) [(0,.str x0),(3,.slice a3 n3 c3 e3),(7,.slice a7 n7 c7 e7),(8,.int .i64 x8),(9,.int .i64 x9)] h
def J7 (Q:QT) (R3:T3) (x9 x8:Int) (a7:Pt) (n7 c7:Nat) (e7:Bool) (x0:List Nat) (a3:Pt) (n3 c3:Nat) (e3:Bool) (h:Zaa):Prop:=Den pg fn.ntmps (C [1,1,0,1,0,0,1,1,1]) [(9,.int .i64 x9),(8,.int .i64 x8),(7,.slice a7 n7 c7 e7),(0,.str x0),(3,.slice a3 n3 c3 e3)] h (K3 Q R3)
def Ztf (Q:QT) (a3:Pt) (n3 c3:Nat) (e3:Bool) (h:Zaa):Prop:=At (K1 Q) (.exit 0) [(3,.slice a3 n3 c3 e3)] h
def L3t (Q:QT) (R3:T3) (x0:List Nat) (a3:Pt) (n3 c3:Nat) (e3:Bool) (a7:Pt) (n7 c7:Nat) (e7:Bool) (x8 x9:Int) (h:Zaa):Prop:=
 bcase (decide ((x9:Int) < x8)) ((0≤(x9:Int)∧(x9:Int) < (n7:Nat))∧(Zbf a7 fun A B=>Zbd (Zag h (.ptr (A,B + (Int.toNat x9) * 1))) fun A=>Zak pg Zfu [.str x0,.str A] h fun B C=>
 Zca B fun B=>bcase B (Zcf (C ++ [.cells Zbi [.str A] false]) fun A=>Zci pg Zke A (.slice a3 n3 c3 e3) (.slice (C.length,0) 1 1 true) fun A B=>xSl A fun A D E F=>J7 Q R3 x9 x8 a7 n7 c7 e7 x0 A D E F B) (J7 Q R3 x9 x8 a7 n7 c7 e7 x0 a3 n3 c3 e3 C))) (Ztf Q a3 n3 c3 e3 h)
theorem Zoe (Q:QT) (R3:T3) (x0:List Nat) (a3:Pt) (n3 c3:Nat) (e3:Bool) (a7:Pt) (n7 c7:Nat) (e7:Bool) (x8 x9:Int) (h:Zaa) (ht:L3t Q R3 x0 a3 n3 c3 e3 a7 n7 c7 e7 x8 x9 h):Den pg fn.ntmps (C [1,1,0,1,0,0]) [(0,.str x0),(3,.slice a3 n3 c3 e3),(7,.slice a7 n7 c7 e7),(8,.int .i64 x8),(9,.int .i64 x9)] h (K3 Q R3):=
 Zba (kp:=kp) (cast (by kernel_rfl) ht)
theorem L3ind (Q:QT) (x0:List Nat) (a7:Pt) (n7 c7:Nat) (e7:Bool) (x8:Int) {G:Type} (J:G→Pt→Nat→Nat→Bool→Int→Zaa→Prop) (m:G→Nat)
 (hr:∀ (g:G) (a3:Pt) (n3 c3:Nat) (e3:Bool) (x9:Int) (h:Zaa),J g a3 n3 c3 e3 x9 h→∀ (R3:T3),(∀ g' (a3:Pt) (n3 c3:Nat) (e3:Bool) (x9:Int) (h:Zaa),m g' < m g→J g' a3 n3 c3 e3 x9 h→R3 x0 a3 n3 c3 e3 a7 n7 c7 e7 x8 x9 h)→L3t Q R3 x0 a3 n3 c3 e3 a7 n7 c7 e7 x8 x9 h)
 (g:G) (a3:Pt) (n3 c3:Nat) (e3:Bool) (x9:Int) (h:Zaa) (hj:J g a3 n3 c3 e3 x9 h):L3 Q x0 a3 n3 c3 e3 a7 n7 c7 e7 x8 x9 h:=by
 let P:=fun (K:Pt→Nat→Nat→Bool→Int→Zaa→Prop) x0' a3 n3 c3 e3 a7' n7' c7' e7' x8' x9 h=>x0=x0'∧a7=a7'∧n7=n7'∧c7=c7'∧e7=e7'∧x8=x8'∧K a3 n3 c3 e3 x9 h
 refine Zej.inv2 (fun g=>E3 (P (J g))) (fun g=>E3 (P fun a3 n3 c3 e3 x9 h=>∃ g',m g' < m g∧J g' a3 n3 c3 e3 x9 h)) m ?_ ?_ g ⟨rfl,rfl,rfl,rfl,rfl,rfl,hj⟩
 ·intro g env h hi
  obtain ⟨x0',a3,n3,c3,e3,a7',n7',c7',e7',x8',x9,rfl,rfl,rfl,rfl,rfl,rfl,rfl,hj⟩:=Zgd hi
  exact Zoe Q _ x0 a3 n3 c3 e3 a7 n7 c7 e7 x8 x9 h (hr g a3 n3 c3 e3 x9 h hj (P fun a3 n3 c3 e3 x9 h=>∃ g',m g' < m g∧J g' a3 n3 c3 e3 x9 h) fun g' a3 n3 c3 e3 x9 h hlt hj=>⟨rfl,rfl,rfl,rfl,rfl,rfl,g',hlt,hj⟩)
 ·intro g env h hi
  obtain ⟨x0',a3,n3,c3,e3,a7',n7',c7',e7',x8',x9,rfl,rfl,rfl,rfl,rfl,rfl,rfl,g',hlt,hj⟩:=Zgd hi
  exact ⟨g',hlt,rfl,rfl,rfl,rfl,rfl,rfl,hj⟩
theorem J7i (Q:QT) (R3:T3) (x9 x8:Int) (a7:Pt) (n7 c7:Nat) (e7:Bool) (x0:List Nat) (a3:Pt) (n3 c3:Nat) (e3:Bool) (h:Zaa) (ht :
 R3 x0 a3 n3 c3 e3 a7 n7 c7 e7 x8 (IntKind.wrap .i64 (x9 + 1)) h):J7 Q R3 x9 x8 a7 n7 c7 e7 x0 a3 n3 c3 e3 h:=
 Zba (kp:=kp) (cast (by kernel_rfl) ht)
theorem A3x0i (Q:QT) (a3:Pt) (n3 c3:Nat) (e3:Bool) (h:Zaa) (ht :
 Q (.slice a3 n3 c3 e3) h):Ztf Q a3 n3 c3 e3 h:=
 At.mk (cast (by kernel_rfl) ht)
theorem call (x0:List Nat) (h:Zaa) (Q:QT) (ht :
 Zcf (h ++ [.cells Zbi [] false]) fun A=>Zcf (A ++ [.cells Zbi [.str [88],.str [89],.str [90],.str [120],.str [121],.str [122]] false]) fun B=>L3 Q x0 (h.length,0) 0 0 true (A.length,0) 6 6 true (((6:Nat):Int)) 0 B):Zak pg Zvz [.str x0] h Q:=
 Zak.of_body kp (c:=cod fn) (fn:=fn) Go.Proofs.Tryz.func92 (by kernel_rfl) (by kernel_rfl) (Nat.le_of_ble_eq_true (by kernel_rfl))
  (cast (by kernel_rfl) ht)
end Zlq
end Go.Sim

set_option maxRecDepth 100000
set_option maxHeartbeats 0
set_option linter.unusedVariables false
namespace Go.Sim
open Go Go.RowKit
namespace Zfz
noncomputable abbrev fn:Func:=Go.Proofs.Tryz.f135
def kp:Zch:=[(4000004,[0,6]),(3000006,[8,6]),(1000006,[6,8,26,27,28]),(2000008,[28,27,26,8,6])]
noncomputable def C (p:List Nat):Code:=(cod fn).sub p
def KR (Q:QT):KT:=Zfd pg fn.results.toList Q
abbrev T6:=Nat→Nat→Nat→Nat→Pt→Nat→Nat→Bool→Int→Int→Zaa→Prop
def E6 (R6:T6) (env:Env) (h:Zaa):Prop:=Zbu 6 env fun v env=>Zgn v fun a=>Zbf a fun i6 o6=>Zbu 8 env fun v env=>Zgn v fun a=>Zbf a fun i8 o8=>Zbu 26 env fun v env=>xSl v fun a26 n26 c26 e26=>Zbu 27 env fun v env=>Zdz .i64 v fun x27=>Zbu 28 env fun v env=>Zdz .i64 v fun x28=>Zil env (R6 i6 o6 i8 o8 a26 n26 c26 e26 x27 x28 h)
theorem Zlv {R6:T6} {env:Env} {h:Zaa} (hi:E6 R6 env h):∃ i6,∃ o6,∃ i8,∃ o8,∃ a26,∃ n26,∃ c26,∃ e26,∃ x27,∃ x28,env=[(6,.ptr (i6,o6)),(8,.ptr (i8,o8)),(26,.slice a26 n26 c26 e26),(27,.int .i64 x27),(28,.int .i64 x28)]∧R6 i6 o6 i8 o8 a26 n26 c26 e26 x27 x28 h:=by
 unfold E6 at hi
 have hi0:=hi
 clear hi
 obtain ⟨_,_,rfl,hi1⟩:=Zaf hi0
 obtain ⟨a,rfl,hi2⟩:=Zbn hi1
 obtain ⟨i6,o6,rfl,hi3⟩:=Zbk hi2
 obtain ⟨_,_,rfl,hi4⟩:=Zaf hi3
 obtain ⟨a,rfl,hi5⟩:=Zbn hi4
 obtain ⟨i8,o8,rfl,hi6⟩:=Zbk hi5
 obtain ⟨_,_,rfl,hi7⟩:=Zaf hi6
 obtain ⟨a26,n26,c26,e26,rfl,hi8⟩:=Zbp hi7
 obtain ⟨_,_,rfl,hi9⟩:=Zaf hi8
 obtain ⟨x27,rfl,hi10⟩:=Zav hi9
 obtain ⟨_,_,rfl,hi11⟩:=Zaf hi10
 obtain ⟨x28,rfl,hi12⟩:=Zav hi11
 obtain ⟨rfl,hi13⟩:=Zbl hi12
 have hi:=hi13
 exact ⟨i6,o6,i8,o8,a26,n26,c26,e26,x27,x28,rfl,hi⟩
def K0 (Q:QT):KT:=andThen (fun env' h'=>(match kp.find 4000010 with | some ks=>Den pg fn.ntmps (C [1,1,1,1,1]) (env'.keep ks) h' (KR Q) | none=>den pg fn.ntmps kp (C [1,1,1,1,1]) env' h' (KR Q))) (KR Q)
def K1 (Q:QT):KT:=Zcj 0 (K0 Q)
def K2 (Q:QT):KT:=left kp 6 (K1 Q)
def K3 (Q:QT) (R6:T6):KT:=rnd ((kp.find 1000006).getD []) (E6 R6) (K2 Q)
def J4 (Q:QT) (a0:Pt) (n0 c0:Nat) (e0:Bool) (i6 o6:Nat) (h:Zaa):Prop:=Den pg fn.ntmps (C [1,1,1]) [(0,.slice a0 n0 c0 e0),(6,.ptr (i6,o6))] h (KR Q)
def L6 (Q:QT) (i6 o6 i8 o8:Nat) (a26:Pt) (n26 c26:Nat) (e26:Bool) (x27 x28:Int) (h:Zaa):Prop:=Zej (Den pg fn.ntmps (C [1,1,1,1,0,1,0,0])) ((kp.find 1000006).getD []) (K2 Q) [(6,.ptr (i6,o6)),(8,.ptr (i8,o8)),(26,.slice a26 n26 c26 e26),(27,.int .i64 x27),(28,.int .i64 x28)] h
def Ydq (Q:QT) (i8 o8 i6 o6:Nat) (h:Zaa):Prop:=At (K1 Q) (.exit 0) [(8,.ptr (i8,o8)),(6,.ptr (i6,o6))] h
theorem J4i (Q:QT) (a0:Pt) (n0 c0:Nat) (e0:Bool) (i6 o6:Nat) (h:Zaa) (ht :
 Zcf (h ++ [.cells Zdp [.int .u8 0,.slice none 0 0 true,.int .u8 0,.slice none 0 0 true,.int .u8 0,.slice none 0 0 true,.int .u8 0,.slice none 0 0 true,.int .u8 0,.slice none 0 0 true,.int .u8 0,.slice none 0 0 true,.int .u8 0,.slice none 0 0 true,.int .u8 0,.slice none 0 0 true,.int .u8 0,.slice none 0 0 true,.int .u8 0,.slice none 0 0 true,.int .u8 0,.slice none 0 0 true,.int .u8 0,.slice none 0 0 true] false]) fun A=>L6 Q i6 o6 h.length 0 a0 n0 c0 e0 (((n0:Nat):Int)) 0 A):J4 Q a0 n0 c0 e0 i6 o6 h:=
 Zba (kp:=kp) (cast (by kernel_rfl) ht)
def L6t (Q:QT) (R6:T6) (i6 o6 i8 o8:Nat) (a26:Pt) (n26 c26:Nat) (e26:Bool) (x27 x28:Int) (h:Zaa):Prop:=
 bcase (decide ((x28:Int) < x27)) ((0≤(x28:Int)∧(x28:Int) < (n26:Nat))∧(Zbf a26 fun A B=>Zcd (Zbe h (.ptr (A,B + (Int.toNat x28) * 2)) 2) fun A=>Zai A fun A B=>Zbd A fun A=>Zai B fun B C=>Zbd B fun B=>Zbq C (Zcf (h ++ [.cells Zbv [.str [],.str []] false]) fun C=>Zbt (Zbb C (.ptr (h.length,0)) [.str A,.str B]) fun A=>Zbd (Zag A (.ptr (h.length,0 + 0))) fun B=>Zlz B 0 fun B=>Zbd (Zag A (.ptr (h.length,0 + 1))) fun C=>Zak pg Zla [.int .u8 (((B:Nat):Int))] A fun B D=>
 Zec .i64 B fun B=>(Zag D (.ptr (h.length,0 + 1))=Zag A (.ptr (h.length,0 + 1)))∧(Zag D (.ptr (h.length,0 + 0))=Zag A (.ptr (h.length,0 + 0)))∧Zak pg Zhd [.str C] D fun A C=>
 Zlf A fun A=>Zai A fun A E=>Zqi A fun A=>Zai A fun A F=>Zec .u8 A fun A=>Zai F fun F G=>xSl F fun F H I J=>Zbq G (Zai E fun E G=>Zca E fun E=>Zbq G ((Zag C (.ptr (h.length,0 + 0))=Zag D (.ptr (h.length,0 + 0)))∧(0≤(B:Int)∧(B:Int) < (12:Nat))∧(Zbt (Zbb C (.ptr (i8,o8 + (Int.toNat B) * 2)) [.int .u8 A,.slice F H I J]) fun A=>R6 i6 o6 i8 o8 a26 n26 c26 e26 x27 (IntKind.wrap .i64 (x28 + 1)) A)))))) (Ydq Q i8 o8 i6 o6 h)
theorem Zya (Q:QT) (R6:T6) (i6 o6 i8 o8:Nat) (a26:Pt) (n26 c26:Nat) (e26:Bool) (x27 x28:Int) (h:Zaa) (ht:L6t Q R6 i6 o6 i8 o8 a26 n26 c26 e26 x27 x28 h):Den pg fn.ntmps (C [1,1,1,1,0,1,0,0]) [(6,.ptr (i6,o6)),(8,.ptr (i8,o8)),(26,.slice a26 n26 c26 e26),(27,.int .i64 x27),(28,.int .i64 x28)] h (K3 Q R6):=
 Zba (kp:=kp) (cast (by kernel_rfl) ht)
theorem L6ind (Q:QT) (i6 o6 i8 o8:Nat) (a26:Pt) (n26 c26:Nat) (e26:Bool) (x27:Int) {G:Type} (J:G→Int→Zaa→Prop) (m:G→Nat)
 (hr:∀ (g:G) (x28:Int) (h:Zaa),J g x28 h→∀ (R6:T6),(∀ g' (x28:Int) (h:Zaa),m g' < m g→J g' x28 h→R6 i6 o6 i8 o8 a26 n26 c26 e26 x27 x28 h)→L6t Q R6 i6 o6 i8 o8 a26 n26 c26 e26 x27 x28 h)
 (g:G) (x28:Int) (h:Zaa) (hj:J g x28 h):L6 Q i6 o6 i8 o8 a26 n26 c26 e26 x27 x28 h:=by
 let P:=fun (K:Int→Zaa→Prop) i6' o6' i8' o8' a26' n26' c26' e26' x27' x28 h=>i6=i6'∧o6=o6'∧i8=i8'∧o8=o8'∧a26=a26'∧n26=n26'∧c26=c26'∧e26=e26'∧x27=x27'∧K x28 h
 refine Zej.inv2 (fun g=>E6 (P (J g))) (fun g=>E6 (P fun x28 h=>∃ g',m g' < m g∧J g' x28 h)) m ?_ ?_ g ⟨rfl,rfl,rfl,rfl,rfl,rfl,rfl,rfl,rfl,hj⟩
 ·intro g env h hi
  obtain ⟨i6',o6',i8',o8',a26',n26',c26',e26',x27',x28,rfl,rfl,rfl,rfl,rfl,rfl,rfl,rfl,rfl,rfl,hj⟩:=Zlv hi
  exact Zya Q _ i6 o6 i8 o8 a26 n26 c26 e26 x27 x28 h (hr g x28 h hj (P fun x28 h=>∃ g',m g' < m g∧J g' x28 h) fun g' x28 h hlt hj=>⟨rfl,rfl,rfl,rfl,rfl,rfl,rfl,rfl,rfl,g',hlt,hj⟩)
 ·intro g env h hi
  obtain ⟨i6',o6',i8',o8',a26',n26',c26',e26',x27',x28,rfl,rfl,rfl,rfl,rfl,rfl,rfl,rfl,rfl,rfl,g',hlt,hj⟩:=Zlv hi
  exact ⟨g',hlt,rfl,rfl,rfl,rfl,rfl,rfl,rfl,rfl,rfl,hj⟩
theorem A6x0i (Q:QT) (i8 o8 i6 o6:Nat) (h:Zaa) (ht :
 Zcd (Zbe h (.ptr (i6,o6)) 2) fun A=>Zai A fun A B=>Zec .u8 A fun A=>Zai B fun B C=>xSl B fun B D E F=>Zbq C (Zak pg Znv [.ptr (i8,o8),.agg [.int .u8 A,.slice B D E F]] h fun A B=>
 Zqi A fun A=>Zai A fun A C=>Zec .u8 A fun A=>Zai C fun C D=>xSl C fun C E F G=>Zbq D (Zcf (B ++ [.cells Zap [.int .u8 0,.slice none 0 0 true] false]) fun D=>Zbt (Zbb D (.ptr (B.length,0)) [.int .u8 A,.slice C E F G]) fun A=>Zcd (Zbe A (.ptr (B.length,0)) 2) fun C=>Zai C fun C D=>Zec .u8 C fun C=>Zai D fun D E=>xSl D fun D F G H=>Zbq E (Zak pg Zhy [.agg [.int .u8 C,.slice D F G H]] A fun A C=>
 Zec .i64 A fun A=>bcase (decide ((A:Int) > 60)) (Q (.tup [.str [],.bool false]) C) (Zcd (Zbe C (.ptr (B.length,0)) 2) fun A=>Zai A fun A B=>Zec .u8 A fun A=>Zai B fun B D=>xSl B fun B E F G=>Zbq D (Zak pg Zhs [.agg [.int .u8 A,.slice B E F G]] C fun A B=>
 Zbd A fun A=>Q (.tup [.str A,.bool true]) B)))))):Ydq Q i8 o8 i6 o6 h:=
 At.mk (cast (by kernel_rfl) ht)
theorem call (a0:Pt) (n0 c0:Nat) (e0:Bool) (x1:List Nat) (h:Zaa) (Q:QT) (ht :
 Zak pg Zhd [.str x1] h fun A B=>
 Zlf A fun A=>Zai A fun A C=>Zqi A fun A=>Zai A fun A D=>Zec .u8 A fun A=>Zai D fun D E=>xSl D fun D F G H=>Zbq E (Zai C fun C E=>Zca C fun C=>Zbq E (Zcf (B ++ [.cells Zap [.int .u8 0,.slice none 0 0 true] false]) fun E=>Zbt (Zbb E (.ptr (B.length,0)) [.int .u8 A,.slice D F G H]) fun A=>bcase (!C) (Q (.tup [.str [],.bool false]) A) (Zak pg Zkj [.slice a0 n0 c0 e0] A fun A C=>
 Zca A fun A=>bcase (!A) (Q (.tup [.str [],.bool false]) C) (J4 Q a0 n0 c0 e0 B.length 0 C))))):Zak pg Zkn [.slice a0 n0 c0 e0,.str x1] h Q:=
 Zak.of_body kp (c:=cod fn) (fn:=fn) Go.Proofs.Tryz.func135 (by kernel_rfl) (by kernel_rfl) (Nat.le_of_ble_eq_true (by kernel_rfl))
  (cast (by kernel_rfl) ht)
end Zfz
namespace Zle
noncomputable abbrev fn:Func:=Go.Proofs.Tryz.f112
def kp:Zch:=[(3000006,[6,4,5]),(1000006,[6,7,26,27,28])]
noncomputable def C (p:List Nat):Code:=(cod fn).sub p
def KR (Q:QT):KT:=Zfd pg fn.results.toList Q
abbrev T6:=Pt→Nat→Nat→Bool→Pt→Nat→Nat→Bool→Pt→Nat→Nat→Bool→Int→Int→Zaa→Prop
def E6 (R6:T6) (env:Env) (h:Zaa):Prop:=Zbu 6 env fun v env=>xSl v fun a6 n6 c6 e6=>Zbu 7 env fun v env=>xSl v fun a7 n7 c7 e7=>Zbu 26 env fun v env=>xSl v fun a26 n26 c26 e26=>Zbu 27 env fun v env=>Zdz .i64 v fun x27=>Zbu 28 env fun v env=>Zdz .i64 v fun x28=>Zil env (R6 a6 n6 c6 e6 a7 n7 c7 e7 a26 n26 c26 e26 x27 x28 h)
theorem Zlv {R6:T6} {env:Env} {h:Zaa} (hi:E6 R6 env h):∃ a6,∃ n6,∃ c6,∃ e6,∃ a7,∃ n7,∃ c7,∃ e7,∃ a26,∃ n26,∃ c26,∃ e26,∃ x27,∃ x28,env=[(6,.slice a6 n6 c6 e6),(7,.slice a7 n7 c7 e7),(26,.slice a26 n26 c26 e26),(27,.int .i64 x27),(28,.int .i64 x28)]∧R6 a6 n6 c6 e6 a7 n7 c7 e7 a26 n26 c26 e26 x27 x28 h:=by
 unfold E6 at hi
 repeat ((first | (have k:=Zaf hi; clear hi; obtain ⟨_,_,e,hi⟩:=k) | (have k:=Zav hi; clear hi; obtain ⟨_,e,hi⟩:=k) | (have k:=Zbp hi; clear hi; obtain ⟨_,_,_,_,e,hi⟩:=k)); subst e)
 obtain ⟨rfl,hi⟩:=Zbl hi
 exact ⟨_,_,_,_,_,_,_,_,_,_,_,_,_,_,rfl,hi⟩
def K0 (Q:QT):KT:=andThen (fun env' h'=>(match kp.find 4000013 with | some ks=>Den pg fn.ntmps (C [1,1,1,1,1]) (env'.keep ks) h' (KR Q) | none=>den pg fn.ntmps kp (C [1,1,1,1,1]) env' h' (KR Q))) (KR Q)
def K1 (Q:QT):KT:=Zcj 0 (K0 Q)
def K2 (Q:QT):KT:=left kp 6 (K1 Q)
def K3 (Q:QT) (R6:T6):KT:=rnd ((kp.find 1000006).getD []) (E6 R6) (K2 Q)
def L6 (Q:QT) (a6:Pt) (n6 c6:Nat) (e6:Bool) (a7:Pt) (n7 c7:Nat) (e7:Bool) (a26:Pt) (n26 c26:Nat) (e26:Bool) (x27 x28:Int) (h:Zaa):Prop:=Zej (Den pg fn.ntmps (C [1,1,1,1,0,1,0,0])) ((kp.find 1000006).getD []) (K2 Q) [(6,.slice a6 n6 c6 e6),(7,.slice a7 n7 c7 e7),(26,.slice a26 n26 c26 e26),(27,.int .i64 x27),(28,.int .i64 x28)] h
def Ydq (Q:QT) (a6:Pt) (n6 c6:Nat) (e6:Bool) (h:Zaa):Prop:=At (K1 Q) (.exit 0) [(6,.slice a6 n6 c6 e6),(4,.undef),(5,.undef)] h
def L6t (Q:QT) (R6:T6) (a6:Pt) (n6 c6:Nat) (e6:Bool) (a7:Pt) (n7 c7:Nat) (e7:Bool) (a26:Pt) (n26 c26:Nat) (e26:Bool) (x27 x28:Int) (h:Zaa):Prop:=
 bcase (decide ((x28:Int) < x27)) ((0≤(x28:Int)∧(x28:Int) < (n26:Nat))∧(Zbf a26 fun A B=>Zcd (Zbe h (.ptr (A,B + (Int.toNat x28) * 2)) 2) fun A=>Zai A fun A B=>Zbd A fun A=>Zai B fun B C=>Zbd B fun B=>Zbq C (Zcf (h ++ [.cells Zab [.str [],.str []] false]) fun C=>Zbt (Zbb C (.ptr (h.length,0)) [.str A,.str B]) fun A=>Zbd (Zag A (.ptr (h.length,0 + 1))) fun B=>Zak pg Zkn [.slice a7 n7 c7 e7,.str B] A fun A B=>
 Zlf A fun A=>Zai A fun A C=>Zbd A fun A=>Zai C fun C D=>Zca C fun C=>Zbq D (bcase (!C) (Zcf (B ++ [.cells Zab [] false]) fun C=>Q (.tup [.slice (B.length,0) 0 0 true,.bool false]) C) (Zbd (Zag B (.ptr (h.length,0 + 0))) fun C=>Zcf (B ++ [.cells Zab [.str C,.str A] false]) fun A=>Zci pg Zbo A (.slice a6 n6 c6 e6) (.slice (B.length,0) 1 1 true) fun A B=>xSl A fun A C D E=>R6 A C D E a7 n7 c7 e7 a26 n26 c26 e26 x27 (IntKind.wrap .i64 (x28 + 1)) B))))) (Ydq Q a6 n6 c6 e6 h)
theorem Zya (Q:QT) (R6:T6) (a6:Pt) (n6 c6:Nat) (e6:Bool) (a7:Pt) (n7 c7:Nat) (e7:Bool) (a26:Pt) (n26 c26:Nat) (e26:Bool) (x27 x28:Int) (h:Zaa) (ht:L6t Q R6 a6 n6 c6 e6 a7 n7 c7 e7 a26 n26 c26 e26 x27 x28 h):Den pg fn.ntmps (C [1,1,1,1,0,1,0,0]) [(6,.slice a6 n6 c6 e6),(7,.slice a7 n7 c7 e7),(26,.slice a26 n26 c26 e26),(27,.int .i64 x27),(28,.int .i64 x28)] h (K3 Q R6):=
 Zba (kp:=kp) (cast (by kernel_rfl) ht)
theorem L6ind (Q:QT) (a7:Pt) (n7 c7:Nat) (e7:Bool) (a26:Pt) (n26 c26:Nat) (e26:Bool) (x27:Int) {G:Type} (J:G→Pt→Nat→Nat→Bool→Int→Zaa→Prop) (m:G→Nat)
 (hr:∀ (g:G) (a6:Pt) (n6 c6:Nat) (e6:Bool) (x28:Int) (h:Zaa),J g a6 n6 c6 e6 x28 h→∀ (R6:T6),(∀ g' (a6:Pt) (n6 c6:Nat) (e6:Bool) (x28:Int) (h:Zaa),m g' < m g→J g' a6 n6 c6 e6 x28 h→R6 a6 n6 c6 e6 a7 n7 c7 e7 a26 n26 c26 e26 x27 x28 h)→L6t Q R6 a6 n6 c6 e6 a7 n7 c7 e7 a26 n26 c26 e26 x27 x28 h)
 (g:G) (a6:Pt) (n6 c6:Nat) (e6:Bool) (x28:Int) (h:Zaa) (hj:J g a6 n6 c6 e6 x28 h):L6 Q a6 n6 c6 e6 a7 n7 c7 e7 a26 n26 c26 e26 x27 x28 h:=by
 let P:=fun (K:Pt→Nat→Nat→Bool→Int→Zaa→Prop) a6 n6 c6 e6 a7' n7' c7' e7' a26' n26' c26' e26' x27' x28 h=>a7=a7'∧n7=n7'∧c7=c7'∧e7=e7'∧a26=a26'∧n26=n26'∧c26=c26'∧e26=e26'∧x27=x27'∧K a6 n6 c6 e6 x28 h
 refine Zej.inv2 (fun g=>E6 (P (J g))) (fun g=>E6 (P fun a6 n6 c6 e6 x28 h=>∃ g',m g' < m g∧J g' a6 n6 c6 e6 x28 h)) m ?_ ?_ g ⟨rfl,rfl,rfl,rfl,rfl,rfl,rfl,rfl,rfl,hj⟩
 ·intro g env h hi
  obtain ⟨a6,n6,c6,e6,a7',n7',c7',e7',a26',n26',c26',e26',x27',x28,rfl,rfl,rfl,rfl,rfl,rfl,rfl,rfl,rfl,rfl,hj⟩:=Zlv hi
  exact Zya Q _ a6 n6 c6 e6 a7 n7 c7 e7 a26 n26 c26 e26 x27 x28 h (hr g a6 n6 c6 e6 x28 h hj (P fun a6 n6 c6 e6 x28 h=>∃ g',m g' < m g∧J g' a6 n6 c6 e6 x28 h) fun g' a6 n6 c6 e6 x28 h hlt hj=>⟨rfl,rfl,rfl,rfl,rfl,rfl,rfl,rfl,rfl,g',hlt,hj⟩)
 ·intro g env h hi
  obtain ⟨a6,n6,c6,e6,a7',n7',c7',e7',a26',n26',c26',e26',x27',x28,rfl,rfl,rfl,rfl,rfl,rfl,rfl,rfl,rfl,rfl,g',hlt,hj⟩:=Zlv hi
  exact ⟨g',hlt,rfl,rfl,rfl,rfl,rfl,rfl,rfl,rfl,rfl,hj⟩
theorem A6x0i (Q:QT) (a6:Pt) (n6 c6:Nat) (e6:Bool) (h:Zaa) (ht :
 Q (.tup [.slice a6 n6 c6 e6,.bool true]) h):Ydq Q a6 n6 c6 e6 h:=
 At.mk (cast (by kernel_rfl) ht)
theorem call (x0x0 x0x1:List Nat) (a0x2:Pt) (n0x2 c0x2:Nat) (e0x2:Bool) (x1:List Nat) (h:Zaa) (Q:QT) (ht :
 Zcf (h ++ [.cells Zad [.str x0x0,.str x0x1,.slice a0x2 n0x2 c0x2 e0x2] false]) fun A=>Zcf (A ++ [.cells Zab [] false]) fun B=>Zbd (Zag B (.ptr (h.length,0 + 0 + 1))) fun C=>Zak pg Zlh [.str C,.str x1] B fun B C=>
 Zlf B fun B=>Zai B fun B D=>xSl B fun B E F G=>Zai D fun D H=>Zca D fun D=>Zbq H (bcase (!D) (Q (.tup [.slice (A.length,0) 0 0 true,.bool false]) C) (xSl (Zag C (.ptr (h.length,0 + 2))) fun D H I J=>L6 Q (A.length,0) 0 0 true B E F G D H I J (((H:Nat):Int)) 0 C))):Zak pg Zja [.agg [.str x0x0,.str x0x1,.slice a0x2 n0x2 c0x2 e0x2],.str x1] h Q:=
 Zak.of_body kp (c:=cod fn) (fn:=fn) Go.Proofs.Tryz.func112 (by kernel_rfl) (by kernel_rfl) (Nat.le_of_ble_eq_true (by kernel_rfl))
  (cast (by kernel_rfl) ht)
end Zle
end Go.Sim

set_option maxRecDepth 100000
set_option maxHeartbeats 0
set_option linter.unusedVariables false
namespace Go.Sim
open Go Go.RowKit
namespace Zff
noncomputable abbrev fn:Func:=Go.Proofs.Tryz.f154
def kp:Zch:=[(3000002,[2]),(1000002,[0,5,6,7]),(2000004,[43,7,6,5,0]),(4000006,[7,6,5,0])]
noncomputable def C (p:List Nat):Code:=(cod fn).sub p
def KR (Q:QT):KT:=Zfd pg fn.results.toList Q
abbrev T2:=Pt→Nat→Nat→Bool→Pt→Nat→Nat→Bool→Int→Int→Zaa→Prop
def E2 (R2:T2) (env:Env) (h:Zaa):Prop:=Zbu 0 env fun v env=>xSl v fun a0 n0 c0 e0=>Zbu 5 env fun v env=>xSl v fun a5 n5 c5 e5=>Zbu 6 env fun v env=>Zdz .i64 v fun x6=>Zbu 7 env fun v env=>Zdz .i64 v fun x7=>Zil env (R2 a0 n0 c0 e0 a5 n5 c5 e5 x6 x7 h)
theorem Zea {R2:T2} {env:Env} {h:Zaa} (hi:E2 R2 env h):∃ a0,∃ n0,∃ c0,∃ e0,∃ a5,∃ n5,∃ c5,∃ e5,∃ x6,∃ x7,env=[(0,.slice a0 n0 c0 e0),(5,.slice a5 n5 c5 e5),(6,.int .i64 x6),(7,.int .i64 x7)]∧R2 a0 n0 c0 e0 a5 n5 c5 e5 x6 x7 h:=by
 unfold E2 at hi
 repeat ((first | (have k:=Zaf hi; clear hi; obtain ⟨_,_,e,hi⟩:=k) | (have k:=Zav hi; clear hi; obtain ⟨_,e,hi⟩:=k) | (have k:=Zbp hi; clear hi; obtain ⟨_,_,_,_,e,hi⟩:=k)); subst e)
 obtain ⟨rfl,hi⟩:=Zbl hi
 exact ⟨_,_,_,_,_,_,_,_,_,_,rfl,hi⟩
def K0 (Q:QT):KT:=andThen (fun env' h'=>(match kp.find 4000007 with | some ks=>Den pg fn.ntmps (C [1,1]) (env'.keep ks) h' (KR Q) | none=>den pg fn.ntmps kp (C [1,1]) env' h' (KR Q))) (KR Q)
def K1 (Q:QT):KT:=Zcj 0 (K0 Q)
def K2 (Q:QT):KT:=left kp 2 (K1 Q)
def K3 (Q:QT) (R2:T2):KT:=rnd ((kp.find 1000002).getD []) (E2 R2) (K2 Q)
def L2 (Q:QT) (a0:Pt) (n0 c0:Nat) (e0:Bool) (a5:Pt) (n5 c5:Nat) (e5:Bool) (x6 x7:Int) (h:Zaa):Prop:=Zej (Den pg fn.ntmps (C [1,0,1,0,0])) ((kp.find 1000002).getD []) (K2 Q) [(0,.slice a0 n0 c0 e0),(5,.slice a5 n5 c5 e5),(6,.int .i64 x6),(7,.int .i64 x7)] h
def J6 (Q:QT) (R2:T2) (x7 x6:Int) (a5:Pt) (n5 c5:Nat) (e5:Bool) (a0:Pt) (n0 c0:Nat) (e0:Bool) (h:Zaa):Prop:=Den pg fn.ntmps (C [1,0,1,0,0,1,1,1]) [(7,.int .i64 x7),(6,.int .i64 x6),(5,.slice a5 n5 c5 e5),(0,.slice a0 n0 c0 e0)] h (K3 Q R2)
def Zmz (Q:QT) (h:Zaa):Prop:=At (K1 Q) (.exit 0) [(2,.undef)] h
def L2t (Q:QT) (R2:T2) (a0:Pt) (n0 c0:Nat) (e0:Bool) (a5:Pt) (n5 c5:Nat) (e5:Bool) (x6 x7:Int) (h:Zaa):Prop:=
 bcase (decide ((x7:Int) < x6)) ((0≤(x7:Int)∧(x7:Int) < (n5:Nat))∧(Zbf a5 fun A B=>Zcd (Zbe h (.ptr (A,B + (Int.toNat x7) * 2)) 2) fun A=>Zai A fun A B=>Zbd A fun A=>Zai B fun B C=>Zbd B fun B=>Zbq C (Zcf (h ++ [.cells Zbv [.str [],.str []] false]) fun C=>Zbt (Zbb C (.ptr (h.length,0)) [.str A,.str B]) fun A=>Zbd (Zag A (.ptr (h.length,0 + 0))) fun B=>bcase (!((((List.length B:Nat):Int):Int) == 1)) ((Zag A (.tup [])=Zag A (.tup []))∧Q (.bool false) A) (Zbd (Zag A (.ptr (h.length,0 + 0))) fun B=>Zlz B 0 fun B=>Zak pg Zia [.int .u8 (((B:Nat):Int))] A fun A B=>
 Zca A fun A=>bcase (!A) ((Zag B (.tup [])=Zag B (.tup []))∧Q (.bool false) B) (Zbd (Zag B (.ptr (h.length,0 + 1))) fun A=>Zak pg Zge [.str A] B fun A B=>
 Zca A fun A=>bcase (!A) ((Zag B (.tup [])=Zag B (.tup []))∧Q (.bool false) B) (bcase (decide ((x7:Int) > 0)) ((0≤(IntKind.wrap .i64 (x7 - 1):Int)∧(IntKind.wrap .i64 (x7 - 1):Int) < (n0:Nat))∧(Zbf a0 fun A C=>Zbd (Zag B (.ptr (A,C + (Int.toNat (IntKind.wrap .i64 (x7 - 1))) * 2 + 0))) fun D=>Zbd (Zag B (.ptr (h.length,0 + 0))) fun E=>(Zag B (.ptr (A,C + (Int.toNat (IntKind.wrap .i64 (x7 - 1))) * 2 + 0))=Zag B (.ptr (A,C + (Int.toNat (IntKind.wrap .i64 (x7 - 1))) * 2 + 0)))∧bcase (!Zfp D E) (Q (.bool false) B) (J6 Q R2 x7 x6 a5 n5 c5 e5 a0 n0 c0 e0 B))) ((Zag B (.tup [])=Zag B (.tup []))∧J6 Q R2 x7 x6 a5 n5 c5 e5 a0 n0 c0 e0 B))))))) (Zmz Q h)
theorem Zjc (Q:QT) (R2:T2) (a0:Pt) (n0 c0:Nat) (e0:Bool) (a5:Pt) (n5 c5:Nat) (e5:Bool) (x6 x7:Int) (h:Zaa) (ht:L2t Q R2 a0 n0 c0 e0 a5 n5 c5 e5 x6 x7 h):Den pg fn.ntmps (C [1,0,1,0,0]) [(0,.slice a0 n0 c0 e0),(5,.slice a5 n5 c5 e5),(6,.int .i64 x6),(7,.int .i64 x7)] h (K3 Q R2):=
 Zba (kp:=kp) (cast (by kernel_rfl) ht)
theorem L2ind (Q:QT) (a0:Pt) (n0 c0:Nat) (e0:Bool) (a5:Pt) (n5 c5:Nat) (e5:Bool) (x6:Int) {G:Type} (J:G→Int→Zaa→Prop) (m:G→Nat)
 (hr:∀ (g:G) (x7:Int) (h:Zaa),J g x7 h→∀ (R2:T2),(∀ g' (x7:Int) (h:Zaa),m g' < m g→J g' x7 h→R2 a0 n0 c0 e0 a5 n5 c5 e5 x6 x7 h)→L2t Q R2 a0 n0 c0 e0 a5 n5 c5 e5 x6 x7 h)
 (g:G) (x7:Int) (h:Zaa) (hj:J g x7 h):L2 Q a0 n0 c0 e0 a5 n5 c5 e5 x6 x7 h:=by
 let P:=fun (K:Int→Zaa→Prop) a0' n0' c0' e0' a5' n5' c5' e5' x6' x7 h=>a0=a0'∧n0=n0'∧c0=c0'∧e0=e0'∧a5=a5'∧n5=n5'∧c5=c5'∧e5=e5'∧x6=x6'∧K x7 h
 refine Zej.inv2 (fun g=>E2 (P (J g))) (fun g=>E2 (P fun x7 h=>∃ g',m g' < m g∧J g' x7 h)) m ?_ ?_ g ⟨rfl,rfl,rfl,rfl,rfl,rfl,rfl,rfl,rfl,hj⟩
 ·intro g env h hi
  obtain ⟨a0',n0',c0',e0',a5',n5',c5',e5',x6',x7,rfl,rfl,rfl,rfl,rfl,rfl,rfl,rfl,rfl,rfl,hj⟩:=Zea hi
  exact Zjc Q _ a0 n0 c0 e0 a5 n5 c5 e5 x6 x7 h (hr g x7 h hj (P fun x7 h=>∃ g',m g' < m g∧J g' x7 h) fun g' x7 h hlt hj=>⟨rfl,rfl,rfl,rfl,rfl,rfl,rfl,rfl,rfl,g',hlt,hj⟩)
 ·intro g env h hi
  obtain ⟨a0',n0',c0',e0',a5',n5',c5',e5',x6',x7,rfl,rfl,rfl,rfl,rfl,rfl,rfl,rfl,rfl,rfl,g',hlt,hj⟩:=Zea hi
  exact ⟨g',hlt,rfl,rfl,rfl,rfl,rfl,rfl,rfl,rfl,rfl,hj⟩
theorem J6i (Q:QT) (R2:T2) (x7 x6:Int) (a5:Pt) (n5 c5:Nat) (e5:Bool) (a0:Pt) (n0 c0:Nat) (e0:Bool) (h:Zaa) (ht :
 R2 a0 n0 c0 e0 a5 n5 c5 e5 x6 (IntKind.wrap .i64 (x7 + 1)) h):J6 Q R2 x7 x6 a5 n5 c5 e5 a0 n0 c0 e0 h:=
 Zba (kp:=kp) (cast (by kernel_rfl) ht)
theorem A2x0i (Q:QT) (h:Zaa) (ht :
 Q (.bool true) h):Zmz Q h:=
 At.mk (cast (by kernel_rfl) ht)
theorem call (a0:Pt) (n0 c0:Nat) (e0:Bool) (h:Zaa) (Q:QT) (ht :
 L2 Q a0 n0 c0 e0 a0 n0 c0 e0 (((n0:Nat):Int)) 0 h):Zak pg Zkj [.slice a0 n0 c0 e0] h Q:=
 Zak.of_body kp (c:=cod fn) (fn:=fn) Go.Proofs.Tryz.func154 (by kernel_rfl) (by kernel_rfl) (Nat.le_of_ble_eq_true (by kernel_rfl))
  (cast (by kernel_rfl) ht)
end Zff
namespace Zjs
noncomputable abbrev fn:Func:=Go.Proofs.Tryz.f108
def kp:Zch:=[(4000004,[3,0,4]),(3000006,[6,4]),(1000006,[0,4,6,33,34,35]),(2000008,[35,34,33,6,0,4])]
noncomputable def C (p:List Nat):Code:=(cod fn).sub p
def KR (Q:QT):KT:=Zfd pg fn.results.toList Q
abbrev T6:=Pt→Nat→Nat→Nat→Nat→Pt→Nat→Nat→Bool→Int→Int→Zaa→Prop
def E6 (R6:T6) (env:Env) (h:Zaa):Prop:=Zbu 0 env fun v env=>Zgn v fun a0=>Zbu 4 env fun v env=>Zgn v fun a=>Zbf a fun i4 o4=>Zbu 6 env fun v env=>Zgn v fun a=>Zbf a fun i6 o6=>Zbu 33 env fun v env=>xSl v fun a33 n33 c33 e33=>Zbu 34 env fun v env=>Zdz .i64 v fun x34=>Zbu 35 env fun v env=>Zdz .i64 v fun x35=>Zil env (R6 a0 i4 o4 i6 o6 a33 n33 c33 e33 x34 x35 h)
theorem Zlv {R6:T6} {env:Env} {h:Zaa} (hi:E6 R6 env h):∃ a0,∃ i4,∃ o4,∃ i6,∃ o6,∃ a33,∃ n33,∃ c33,∃ e33,∃ x34,∃ x35,env=[(0,.ptr a0),(4,.ptr (i4,o4)),(6,.ptr (i6,o6)),(33,.slice a33 n33 c33 e33),(34,.int .i64 x34),(35,.int .i64 x35)]∧R6 a0 i4 o4 i6 o6 a33 n33 c33 e33 x34 x35 h:=by
 unfold E6 at hi
 have hi0:=hi
 clear hi
 obtain ⟨_,_,rfl,hi1⟩:=Zaf hi0
 obtain ⟨a0,rfl,hi2⟩:=Zbn hi1
 obtain ⟨_,_,rfl,hi3⟩:=Zaf hi2
 obtain ⟨a,rfl,hi4⟩:=Zbn hi3
 obtain ⟨i4,o4,rfl,hi5⟩:=Zbk hi4
 obtain ⟨_,_,rfl,hi6⟩:=Zaf hi5
 obtain ⟨a,rfl,hi7⟩:=Zbn hi6
 obtain ⟨i6,o6,rfl,hi8⟩:=Zbk hi7
 obtain ⟨_,_,rfl,hi9⟩:=Zaf hi8
 obtain ⟨a33,n33,c33,e33,rfl,hi10⟩:=Zbp hi9
 obtain ⟨_,_,rfl,hi11⟩:=Zaf hi10
 obtain ⟨x34,rfl,hi12⟩:=Zav hi11
 obtain ⟨_,_,rfl,hi13⟩:=Zaf hi12
 obtain ⟨x35,rfl,hi14⟩:=Zav hi13
 obtain ⟨rfl,hi15⟩:=Zbl hi14
 have hi:=hi15
 exact ⟨a0,i4,o4,i6,o6,a33,n33,c33,e33,x34,x35,rfl,hi⟩
def K0 (Q:QT):KT:=andThen (fun env' h'=>(match kp.find 4000010 with | some ks=>Den pg fn.ntmps (C [1,1,1,1]) (env'.keep ks) h' (KR Q) | none=>den pg fn.ntmps kp (C [1,1,1,1]) env' h' (KR Q))) (KR Q)
def K1 (Q:QT):KT:=Zcj 0 (K0 Q)
def K2 (Q:QT):KT:=left kp 6 (K1 Q)
def K3 (Q:QT) (R6:T6):KT:=rnd ((kp.find 1000006).getD []) (E6 R6) (K2 Q)
def J4 (Q:QT) (i3 o3:Nat) (a0:Pt) (i4 o4:Nat) (h:Zaa):Prop:=Den pg fn.ntmps (C [1,1]) [(3,.ptr (i3,o3)),(0,.ptr a0),(4,.ptr (i4,o4))] h (KR Q)
def L6 (Q:QT) (a0:Pt) (i4 o4 i6 o6:Nat) (a33:Pt) (n33 c33:Nat) (e33:Bool) (x34 x35:Int) (h:Zaa):Prop:=Zej (Den pg fn.ntmps (C [1,1,1,0,1,0,0])) ((kp.find 1000006).getD []) (K2 Q) [(0,.ptr a0),(4,.ptr (i4,o4)),(6,.ptr (i6,o6)),(33,.slice a33 n33 c33 e33),(34,.int .i64 x34),(35,.int .i64 x35)] h
def Ydq (Q:QT) (i6 o6 i4 o4:Nat) (h:Zaa):Prop:=At (K1 Q) (.exit 0) [(6,.ptr (i6,o6)),(4,.ptr (i4,o4))] h
theorem J4i (Q:QT) (i3 o3:Nat) (a0:Pt) (i4 o4:Nat) (h:Zaa) (ht :
 Zec .u8 (Zag h (.ptr (i3,o3 + 0))) fun A=>Zcf (h ++ [.cells Zap [] false]) fun B=>Zcf (B ++ [.cells Zap [.int .u8 0,.slice none 0 0 true] false]) fun C=>Zbt (Zbb C (.ptr (B.length,0)) [.int .u8 A,.slice (h.length,0) 0 0 true]) fun A=>xSl (Zag A (.ptr (i3,o3 + 1))) fun C D E F=>L6 Q a0 i4 o4 B.length 0 C D E F (((D:Nat):Int)) 0 A):J4 Q i3 o3 a0 i4 o4 h:=
 Zba (kp:=kp) (cast (by kernel_rfl) ht)
def L6t (Q:QT) (R6:T6) (a0:Pt) (i4 o4 i6 o6:Nat) (a33:Pt) (n33 c33:Nat) (e33:Bool) (x34 x35:Int) (h:Zaa):Prop:=
 bcase (decide ((x35:Int) < x34)) ((0≤(x35:Int)∧(x35:Int) < (n33:Nat))∧(Zbf a33 fun A B=>Zcd (Zbe h (.ptr (A,B + (Int.toNat x35) * 2)) 2) fun A=>Zai A fun A B=>Zec .u8 A fun A=>Zai B fun B C=>xSl B fun B D E F=>Zbq C (Zcf (h ++ [.cells Zap [.int .u8 0,.slice none 0 0 true] false]) fun C=>Zbt (Zbb C (.ptr (h.length,0)) [.int .u8 A,.slice B D E F]) fun A=>xSl (Zag A (.ptr (i6,o6 + 1))) fun B C D E=>Zcd (Zbe A (.ptr (h.length,0)) 2) fun F=>Zai F fun F G=>Zec .u8 F fun F=>Zai G fun G H=>xSl G fun G I J K=>Zbq H ((Zag A (.ptr (i6,o6 + 1))=Zag A (.ptr (i6,o6 + 1)))∧Zak pg Znv [.ptr a0,.agg [.int .u8 F,.slice G I J K]] A fun F G=>
 Zqi F fun F=>Zai F fun F H=>Zec .u8 F fun F=>Zai H fun H I=>xSl H fun H J K L=>Zbq I ((Zag G (.ptr (i6,o6 + 1))=Zag A (.ptr (i6,o6 + 1)))∧Zcf (G ++ [.cells Zap [.int .u8 F,.slice H J K L] false]) fun A=>(Zag A (.ptr (i6,o6 + 1))=Zag G (.ptr (i6,o6 + 1)))∧Zci pg Zma A (.slice B C D E) (.slice (G.length,0) 1 1 true) fun A B=>xSl A fun A C D E=>Zbt (Zbb B (.ptr (i6,o6 + 1)) [.slice A C D E]) fun A=>R6 a0 i4 o4 i6 o6 a33 n33 c33 e33 x34 (IntKind.wrap .i64 (x35 + 1)) A))))) (Ydq Q i6 o6 i4 o4 h)
theorem Zya (Q:QT) (R6:T6) (a0:Pt) (i4 o4 i6 o6:Nat) (a33:Pt) (n33 c33:Nat) (e33:Bool) (x34 x35:Int) (h:Zaa) (ht:L6t Q R6 a0 i4 o4 i6 o6 a33 n33 c33 e33 x34 x35 h):Den pg fn.ntmps (C [1,1,1,0,1,0,0]) [(0,.ptr a0),(4,.ptr (i4,o4)),(6,.ptr (i6,o6)),(33,.slice a33 n33 c33 e33),(34,.int .i64 x34),(35,.int .i64 x35)] h (K3 Q R6):=
 Zba (kp:=kp) (cast (by kernel_rfl) ht)
theorem L6ind (Q:QT) (a0:Pt) (i4 o4 i6 o6:Nat) (a33:Pt) (n33 c33:Nat) (e33:Bool) (x34:Int) {G:Type} (J:G→Int→Zaa→Prop) (m:G→Nat)
 (hr:∀ (g:G) (x35:Int) (h:Zaa),J g x35 h→∀ (R6:T6),(∀ g' (x35:Int) (h:Zaa),m g' < m g→J g' x35 h→R6 a0 i4 o4 i6 o6 a33 n33 c33 e33 x34 x35 h)→L6t Q R6 a0 i4 o4 i6 o6 a33 n33 c33 e33 x34 x35 h)
 (g:G) (x35:Int) (h:Zaa) (hj:J g x35 h):L6 Q a0 i4 o4 i6 o6 a33 n33 c33 e33 x34 x35 h:=by
 let P:=fun (K:Int→Zaa→Prop) a0' i4' o4' i6' o6' a33' n33' c33' e33' x34' x35 h=>a0=a0'∧i4=i4'∧o4=o4'∧i6=i6'∧o6=o6'∧a33=a33'∧n33=n33'∧c33=c33'∧e33=e33'∧x34=x34'∧K x35 h
 refine Zej.inv2 (fun g=>E6 (P (J g))) (fun g=>E6 (P fun x35 h=>∃ g',m g' < m g∧J g' x35 h)) m ?_ ?_ g ⟨rfl,rfl,rfl,rfl,rfl,rfl,rfl,rfl,rfl,rfl,hj⟩
 ·intro g env h hi
  obtain ⟨a0',i4',o4',i6',o6',a33',n33',c33',e33',x34',x35,rfl,rfl,rfl,rfl,rfl,rfl,rfl,rfl,rfl,rfl,rfl,hj⟩:=Zlv hi
  exact Zya Q _ a0 i4 o4 i6 o6 a33 n33 c33 e33 x34 x35 h (hr g x35 h hj (P fun x35 h=>∃ g',m g' < m g∧J g' x35 h) fun g' x35 h hlt hj=>⟨rfl,rfl,rfl,rfl,rfl,rfl,rfl,rfl,rfl,rfl,g',hlt,hj⟩)
 ·intro g env h hi
  obtain ⟨a0',i4',o4',i6',o6',a33',n33',c33',e33',x34',x35,rfl,rfl,rfl,rfl,rfl,rfl,rfl,rfl,rfl,rfl,rfl,g',hlt,hj⟩:=Zlv hi
  exact ⟨g',hlt,rfl,rfl,rfl,rfl,rfl,rfl,rfl,rfl,rfl,rfl,hj⟩
theorem A6x0i (Q:QT) (i6 o6 i4 o4:Nat) (h:Zaa) (ht :
 Zcd (Zbe h (.ptr (i6,o6)) 2) fun A=>Zai A fun A B=>Zec .u8 A fun A=>Zai B fun B C=>xSl B fun B D E F=>Zbq C (Zbt (Zbb h (.ptr (i4,o4)) [.int .u8 A,.slice B D E F]) fun A=>Zcd (Zbe A (.ptr (i4,o4)) 2) fun B=>Zai B fun B C=>Zec .u8 B fun B=>Zai C fun C D=>xSl C fun C E F G=>Zbq D (Q (.agg [.int .u8 B,.slice C E F G]) A))):Ydq Q i6 o6 i4 o4 h:=
 At.mk (cast (by kernel_rfl) ht)
theorem call (a0:Pt) (x1x0:Int) (a1x1:Pt) (n1x1 c1x1:Nat) (e1x1:Bool) (h:Zaa) (Q:QT) (ht :
 Zcf (h ++ [.cells Zap [.int .u8 x1x0,.slice a1x1 n1x1 c1x1 e1x1] false]) fun A=>Zcf (A ++ [.cells Zap [.int .u8 0,.slice none 0 0 true] false]) fun B=>Zec .u8 (Zag B (.ptr (h.length,0 + 0))) fun C=>Zak pg Zla [.int .u8 C] B fun B C=>
 Zec .i64 B fun B=>bcase (decide ((B:Int) ≥ 0)) (Zbf a0 fun D E=>(0≤(B:Int)∧(B:Int) < (12:Nat))∧(Zec .u8 (Zag C (.ptr (D,E + (Int.toNat B) * 2 + 0))) fun D=>bcase (!((D:Int) == 0)) (Zbf a0 fun D E=>(0≤(B:Int)∧(B:Int) < (12:Nat))∧(Zcd (Zbe C (.ptr (D,E + (Int.toNat B) * 2)) 2) fun B=>Zai B fun B D=>Zec .u8 B fun B=>Zai D fun D E=>xSl D fun D F G H=>Zbq E (Zbt (Zbb C (.ptr (A.length,0)) [.int .u8 B,.slice D F G H]) fun B=>Zcd (Zbe B (.ptr (A.length,0)) 2) fun D=>Zai D fun D E=>Zec .u8 D fun D=>Zai E fun E F=>xSl E fun E G H I=>Zbq F (Q (.agg [.int .u8 D,.slice E G H I]) B)))) (J4 Q h.length 0 a0 A.length 0 C))) (J4 Q h.length 0 a0 A.length 0 C)):Zak pg Znv [.ptr a0,.agg [.int .u8 x1x0,.slice a1x1 n1x1 c1x1 e1x1]] h Q:=
 Zak.of_body kp (c:=cod fn) (fn:=fn) Go.Proofs.Tryz.func108 (by kernel_rfl) (by kernel_rfl) (Nat.le_of_ble_eq_true (by kernel_rfl))
  (cast (by kernel_rfl) ht)
end Zjs
end Go.Sim
