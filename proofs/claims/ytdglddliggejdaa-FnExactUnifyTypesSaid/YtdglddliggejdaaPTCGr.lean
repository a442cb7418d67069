/- A part of the proof of a statement of this seat: see the text that holds the theorem. No condition. -/
import Derived.Test.YtdglddliggejdaaNm
set_option linter.unusedVariables false
set_option linter.unusedSimpArgs false
set_option linter.all false
set_option maxRecDepth 100000
set_option maxHeartbeats 0
set_option linter.unusedVariables false
namespace Go.Sim
open Go Go.RowKit
namespace Zeq
noncomputable abbrev fn:Func:=Go.Proofs.Try.f150
def kp:Zcz:=[(3000002,[4]),(1000002,[0,1,5])]
noncomputable def C (p:List Nat):Code:=(cod fn).sub p
def KR (Q:QT):KT:=Zik pg fn.results.toList Q
abbrev T2:=List Nat→Int→Int→Zaa→Prop
def E2 (R2:T2) (env:Env) (h:Zaa):Prop:=Zdc 0 env fun v env=>Zep v fun x0=>Zdc 1 env fun v env=>Zhy .u8 v fun x1=>Zdc 5 env fun v env=>Zhy .i64 v fun x5=>Zmq env (R2 x0 x1 x5 h)
theorem Zip {R2:T2} {env:Env} {h:Zaa} (hi:E2 R2 env h):∃ x0,∃ x1,∃ x5,env=[(0,.str x0),(1,.int .u8 x1),(5,.int .i64 x5)]∧R2 x0 x1 x5 h:=by
 unfold E2 at hi
 repeat ((first | (have k:=Zal hi; clear hi; obtain ⟨_,_,e,hi⟩:=k) | (have k:=Ziu hi; clear hi; obtain ⟨_,e,hi⟩:=k) | (have k:=Zbf hi; clear hi; obtain ⟨_,e,hi⟩:=k)); subst e)
 obtain ⟨rfl,hi⟩:=Zbw hi
 exact ⟨_,_,_,rfl,hi⟩
def K0 (Q:QT):KT:=andThen (fun env' h'=>(match kp.find 4000006 with | some ks=>Den pg fn.ntmps (C [1,1]) (env'.keep ks) h' (KR Q) | none=>den pg fn.ntmps kp (C [1,1]) env' h' (KR Q))) (KR Q)
def K1 (Q:QT):KT:=Zdm 0 (K0 Q)
def K2 (Q:QT):KT:=left kp 2 (K1 Q)
def K3 (Q:QT) (R2:T2):KT:=rnd ((kp.find 1000002).getD []) (E2 R2) (K2 Q)
def L2 (Q:QT) (x0:List Nat) (x1 x5:Int) (h:Zaa):Prop:=Zga (Den pg fn.ntmps (C [1,0,1,0,0])) ((kp.find 1000002).getD []) (K2 Q) [(0,.str x0),(1,.int .u8 x1),(5,.int .i64 x5)] h
def A2x0 (Q:QT) (h:Zaa):Prop:=At (K1 Q) (.exit 0) [(4,.undef)] h
def L2t (Q:QT) (R2:T2) (x0:List Nat) (x1 x5:Int) (h:Zaa):Prop:=
 bcase (decide ((x5:Int) < (((List.length x0:Nat):Int)))) (Ztt x0 x5 fun A=>bcase ((((A:Nat):Int):Int) == x1) (Q (.int .i64 x5) h) (R2 x0 x1 (IntKind.wrap .i64 (x5 + 1)) h)) (A2x0 Q h)
theorem Zsm (Q:QT) (R2:T2) (x0:List Nat) (x1 x5:Int) (h:Zaa) (ht:L2t Q R2 x0 x1 x5 h):Den pg fn.ntmps (C [1,0,1,0,0]) [(0,.str x0),(1,.int .u8 x1),(5,.int .i64 x5)] h (K3 Q R2):=
 Zbb (kp:=kp) (cast (by kernel_rfl) ht)
theorem L2ind (Q:QT) (x0:List Nat) (x1:Int) {G:Type} (J:G→Int→Zaa→Prop) (m:G→Nat)
 (hr:∀ (g:G) (x5:Int) (h:Zaa),J g x5 h→∀ (R2:T2),(∀ g' (x5:Int) (h:Zaa),m g' < m g→J g' x5 h→R2 x0 x1 x5 h)→L2t Q R2 x0 x1 x5 h)
 (g:G) (x5:Int) (h:Zaa) (hj:J g x5 h):L2 Q x0 x1 x5 h:=by
 let P:=fun (K:Int→Zaa→Prop) x0' x1' x5 h=>x0=x0'∧x1=x1'∧K x5 h
 refine Zga.inv2 (fun g=>E2 (P (J g))) (fun g=>E2 (P fun x5 h=>∃ g',m g' < m g∧J g' x5 h)) m ?_ ?_ g ⟨rfl,rfl,hj⟩
 ·intro g env h hi
  obtain ⟨x0',x1',x5,rfl,rfl,rfl,hj⟩:=Zip hi
  exact Zsm Q _ x0 x1 x5 h (hr g x5 h hj (P fun x5 h=>∃ g',m g' < m g∧J g' x5 h) fun g' x5 h hlt hj=>⟨rfl,rfl,g',hlt,hj⟩)
 ·intro g env h hi
  obtain ⟨x0',x1',x5,rfl,rfl,rfl,g',hlt,hj⟩:=Zip hi
  exact ⟨g',hlt,rfl,rfl,hj⟩
theorem A2x0i (Q:QT) (h:Zaa) (ht :
 Q (.int .i64 (-1)) h):A2x0 Q h:=
 At.mk (cast (by kernel_rfl) ht)
theorem call (x0:List Nat) (x1:Int) (h:Zaa) (Q:QT) (ht :
 L2 Q x0 x1 0 h):Zad pg Zfs [.str x0,.int .u8 x1] h Q:=
 Zad.of_body kp (c:=cod fn) (fn:=fn) Go.Proofs.Try.func150 (by kernel_rfl) (by kernel_rfl) (Nat.le_of_ble_eq_true (by kernel_rfl))
  (cast (by kernel_rfl) ht)
end Zeq
namespace Zhd
noncomputable abbrev fn:Func:=Go.Proofs.Try.f140
def kp:Zcz:=[(4000008,[])]
noncomputable def C (p:List Nat):Code:=(cod fn).sub p
def KR (Q:QT):KT:=Zik pg fn.results.toList Q
def J8 (Q:QT) (h:Zaa):Prop:=Den pg fn.ntmps (C [1,1]) [] h (KR Q)
theorem J8i (Q:QT) (h:Zaa) (ht :
 Q (.int .i64 0) h):J8 Q h:=
 Zbb (kp:=kp) (cast (by kernel_rfl) ht)
theorem call (x0:Int) (h:Zaa) (Q:QT) (ht :
 Zad pg Zfs [.str ([105,98,117,108,109,112,120,121,122,88,89,90]),.int .u8 x0] h fun A B=>
 Zbo .i64 A fun A=>bcase (decide ((A:Int) < 0)) (Q (.int .i64 (-1)) B) (bcase ((A:Int) == 3) (Q (.int .i64 1) B) (bcase ((A:Int) == 4) (Q (.int .i64 1) B) (bcase ((A:Int) == 5) (Q (.int .i64 2) B) (J8 Q B))))):Zad pg Zfu [.int .u8 x0] h Q:=
 Zad.of_body kp (c:=cod fn) (fn:=fn) Go.Proofs.Try.func140 (by kernel_rfl) (by kernel_rfl) (Nat.le_of_ble_eq_true (by kernel_rfl))
  (cast (by kernel_rfl) ht)
end Zhd
namespace Zgc
noncomputable abbrev fn:Func:=Go.Proofs.Try.f139
def kp:Zcz:=[(2000001,[12,0]),(2000005,[2])]
noncomputable def C (p:List Nat):Code:=(cod fn).sub p
def KR (Q:QT):KT:=Zik pg fn.results.toList Q
theorem call (a0:Pt) (h:Zaa) (Q:QT) (ht :
 Zaw a0 fun A B=>Zaw a0 fun C D=>Zbo .i64 (Zaj h (.ptr (A,B + 1))) fun E=>Zep (Zaj h (.ptr (C,D + 0))) fun C=>(Zaj h (.ptr (A,B + 1))=Zaj h (.ptr (A,B + 1)))∧bcase (decide ((E:Int) ≥ (((List.length C:Nat):Int)))) (Zaw a0 fun A B=>Zcf (Zbc h (.ptr (A,B + 2)) [.bool true]) fun A=>Q (.int .u8 0) A) (Zaw a0 fun A B=>Zbo .i64 (Zaj h (.ptr (A,B + 1))) fun A=>Zaw a0 fun B C=>Zcf (Zbc h (.ptr (B,C + 1)) [.int .i64 (IntKind.wrap .i64 (A + 1))]) fun A=>Zaw a0 fun B C=>Zaw a0 fun D E=>Zep (Zaj A (.ptr (B,C + 0))) fun F=>Zbo .i64 (Zaj A (.ptr (D,E + 1))) fun D=>(Zaj A (.ptr (B,C + 0))=Zaj A (.ptr (B,C + 0)))∧Ztt F (IntKind.wrap .i64 (D - 1)) fun B=>Q (.int .u8 (((B:Nat):Int))) A)):Zad pg Zcp [.ptr a0] h Q:=
 Zad.of_body kp (c:=cod fn) (fn:=fn) Go.Proofs.Try.func139 (by kernel_rfl) (by kernel_rfl) (Nat.le_of_ble_eq_true (by kernel_rfl))
  (cast (by kernel_rfl) ht)
end Zgc
namespace Zam
noncomputable abbrev fn:Func:=Go.Proofs.Try.f96
def kp:Zcz:=[(4000004,[0,2,3,4]),(3000005,[4,0,3,2]),(1000005,[0,2,3,4,5]),(4000007,[0,5,3,4,2]),(2000007,[0,3,5,4,2]),(4000008,[0,3,5,4,2]),(2000009,[5,4,0,3,2]),(4000006,[5,4,0,3,2]),(4000012,[3,2])]
noncomputable def C (p:List Nat):Code:=(cod fn).sub p
def KR (Q:QT):KT:=Zik pg fn.results.toList Q
abbrev T5:=Pt→Nat→Nat→Nat→Nat→Int→Int→Zaa→Prop
def E5 (R5:T5) (env:Env) (h:Zaa):Prop:=Zdc 0 env fun v env=>Zeu v fun a0=>Zdc 2 env fun v env=>Zeu v fun a=>Zaw a fun i2 o2=>Zdc 3 env fun v env=>Zeu v fun a=>Zaw a fun i3 o3=>Zdc 4 env fun v env=>Zhy .i64 v fun x4=>Zdc 5 env fun v env=>Zhy .i64 v fun x5=>Zmq env (R5 a0 i2 o2 i3 o3 x4 x5 h)
theorem Zrj {R5:T5} {env:Env} {h:Zaa} (hi:E5 R5 env h):∃ a0,∃ i2,∃ o2,∃ i3,∃ o3,∃ x4,∃ x5,env=[(0,.ptr a0),(2,.ptr (i2,o2)),(3,.ptr (i3,o3)),(4,.int .i64 x4),(5,.int .i64 x5)]∧R5 a0 i2 o2 i3 o3 x4 x5 h:=by
 unfold E5 at hi
 have hi0:=hi
 clear hi
 obtain ⟨_,_,rfl,hi1⟩:=Zal hi0
 obtain ⟨a0,rfl,hi2⟩:=Zbq hi1
 obtain ⟨_,_,rfl,hi3⟩:=Zal hi2
 obtain ⟨a,rfl,hi4⟩:=Zbq hi3
 obtain ⟨i2,o2,rfl,hi5⟩:=Zbr hi4
 obtain ⟨_,_,rfl,hi6⟩:=Zal hi5
 obtain ⟨a,rfl,hi7⟩:=Zbq hi6
 obtain ⟨i3,o3,rfl,hi8⟩:=Zbr hi7
 obtain ⟨_,_,rfl,hi9⟩:=Zal hi8
 obtain ⟨x4,rfl,hi10⟩:=Zbf hi9
 obtain ⟨_,_,rfl,hi11⟩:=Zal hi10
 obtain ⟨x5,rfl,hi12⟩:=Zbf hi11
 obtain ⟨rfl,hi13⟩:=Zbw hi12
 have hi:=hi13
 exact ⟨a0,i2,o2,i3,o3,x4,x5,rfl,hi⟩
def K0 (Q:QT):KT:=andThen (fun env' h'=>(match kp.find 4000010 with | some ks=>Den pg fn.ntmps (C [1,1,1,1,1]) (env'.keep ks) h' (KR Q) | none=>den pg fn.ntmps kp (C [1,1,1,1,1]) env' h' (KR Q))) (KR Q)
def K1 (Q:QT):KT:=Zdm 0 (K0 Q)
def K2 (Q:QT):KT:=left kp 5 (K1 Q)
def K3 (Q:QT) (R5:T5):KT:=rnd ((kp.find 1000005).getD []) (E5 R5) (K2 Q)
def K4 (Q:QT) (R5:T5):KT:=andThen (fun env' h'=>(match kp.find 4000006 with | some ks=>Den pg fn.ntmps (C [1,1,1,1,0,1,0,0,1,1]) (env'.keep ks) h' (K3 Q R5) | none=>den pg fn.ntmps kp (C [1,1,1,1,0,1,0,0,1,1]) env' h' (K3 Q R5))) (K3 Q R5)
def K5 (Q:QT) (R5:T5):KT:=Zdm 1 (K4 Q R5)
def J4 (Q:QT) (a0:Pt) (i2 o2 i3 o3:Nat) (x4:Int) (h:Zaa):Prop:=Den pg fn.ntmps (C [1,1,1,1]) [(0,.ptr a0),(2,.ptr (i2,o2)),(3,.ptr (i3,o3)),(4,.int .i64 x4)] h (KR Q)
def L5 (Q:QT) (a0:Pt) (i2 o2 i3 o3:Nat) (x4 x5:Int) (h:Zaa):Prop:=Zga (Den pg fn.ntmps (C [1,1,1,1,0,1,0,0])) ((kp.find 1000005).getD []) (K2 Q) [(0,.ptr a0),(2,.ptr (i2,o2)),(3,.ptr (i3,o3)),(4,.int .i64 x4),(5,.int .i64 x5)] h
def J7 (Q:QT) (R5:T5) (a0:Pt) (x5:Int) (i3 o3:Nat) (x4:Int) (i2 o2:Nat) (h:Zaa):Prop:=Den pg fn.ntmps (C [1,1,1,1,0,1,0,0,1]) [(0,.ptr a0),(5,.int .i64 x5),(3,.ptr (i3,o3)),(4,.int .i64 x4),(2,.ptr (i2,o2))] h (K3 Q R5)
def A5x0 (Q:QT) (x4:Int) (a0:Pt) (i3 o3 i2 o2:Nat) (h:Zaa):Prop:=At (K1 Q) (.exit 0) [(4,.int .i64 x4),(0,.ptr a0),(3,.ptr (i3,o3)),(2,.ptr (i2,o2))] h
def J8 (Q:QT) (R5:T5) (a0:Pt) (i3 o3:Nat) (x5 x4:Int) (i2 o2:Nat) (h:Zaa):Prop:=Den pg fn.ntmps (C [1,1,1,1,0,1,0,0,1,0,0,1]) [(0,.ptr a0),(3,.ptr (i3,o3)),(5,.int .i64 x5),(4,.int .i64 x4),(2,.ptr (i2,o2))] h (K5 Q R5)
def J12 (Q:QT) (i3 o3 i2 o2:Nat) (h:Zaa):Prop:=Den pg fn.ntmps (C [1,1,1,1,1,1]) [(3,.ptr (i3,o3)),(2,.ptr (i2,o2))] h (KR Q)
def J6 (Q:QT) (R5:T5) (x5 x4:Int) (a0:Pt) (i3 o3 i2 o2:Nat) (h:Zaa):Prop:=Den pg fn.ntmps (C [1,1,1,1,0,1,0,0,1,1]) [(5,.int .i64 x5),(4,.int .i64 x4),(0,.ptr a0),(3,.ptr (i3,o3)),(2,.ptr (i2,o2))] h (K3 Q R5)
theorem J4i (Q:QT) (a0:Pt) (i2 o2 i3 o3:Nat) (x4:Int) (h:Zaa) (ht :
 L5 Q a0 i2 o2 i3 o3 x4 0 h):J4 Q a0 i2 o2 i3 o3 x4 h:=
 Zbb (kp:=kp) (cast (by kernel_rfl) ht)
def L5t (Q:QT) (R5:T5) (a0:Pt) (i2 o2 i3 o3:Nat) (x4 x5:Int) (h:Zaa):Prop:=
 bcase (decide ((x5:Int) < x4)) (Zaw a0 fun A B=>Zbs (Zaj h (.ptr (A,B + 2))) fun A=>bcase (!A) (J7 Q R5 a0 x5 i3 o3 x4 i2 o2 h) (A5x0 Q x4 a0 i3 o3 i2 o2 h)) (A5x0 Q x4 a0 i3 o3 i2 o2 h)
theorem Ydf (Q:QT) (R5:T5) (a0:Pt) (i2 o2 i3 o3:Nat) (x4 x5:Int) (h:Zaa) (ht:L5t Q R5 a0 i2 o2 i3 o3 x4 x5 h):Den pg fn.ntmps (C [1,1,1,1,0,1,0,0]) [(0,.ptr a0),(2,.ptr (i2,o2)),(3,.ptr (i3,o3)),(4,.int .i64 x4),(5,.int .i64 x5)] h (K3 Q R5):=
 Zbb (kp:=kp) (cast (by kernel_rfl) ht)
theorem L5ind (Q:QT) (a0:Pt) (i2 o2 i3 o3:Nat) (x4:Int) {G:Type} (J:G→Int→Zaa→Prop) (m:G→Nat)
 (hr:∀ (g:G) (x5:Int) (h:Zaa),J g x5 h→∀ (R5:T5),(∀ g' (x5:Int) (h:Zaa),m g' < m g→J g' x5 h→R5 a0 i2 o2 i3 o3 x4 x5 h)→L5t Q R5 a0 i2 o2 i3 o3 x4 x5 h)
 (g:G) (x5:Int) (h:Zaa) (hj:J g x5 h):L5 Q a0 i2 o2 i3 o3 x4 x5 h:=by
 let P:=fun (K:Int→Zaa→Prop) a0' i2' o2' i3' o3' x4' x5 h=>a0=a0'∧i2=i2'∧o2=o2'∧i3=i3'∧o3=o3'∧x4=x4'∧K x5 h
 refine Zga.inv2 (fun g=>E5 (P (J g))) (fun g=>E5 (P fun x5 h=>∃ g',m g' < m g∧J g' x5 h)) m ?_ ?_ g ⟨rfl,rfl,rfl,rfl,rfl,rfl,hj⟩
 ·intro g env h hi
  obtain ⟨a0',i2',o2',i3',o3',x4',x5,rfl,rfl,rfl,rfl,rfl,rfl,rfl,hj⟩:=Zrj hi
  exact Ydf Q _ a0 i2 o2 i3 o3 x4 x5 h (hr g x5 h hj (P fun x5 h=>∃ g',m g' < m g∧J g' x5 h) fun g' x5 h hlt hj=>⟨rfl,rfl,rfl,rfl,rfl,rfl,g',hlt,hj⟩)
 ·intro g env h hi
  obtain ⟨a0',i2',o2',i3',o3',x4',x5,rfl,rfl,rfl,rfl,rfl,rfl,rfl,g',hlt,hj⟩:=Zrj hi
  exact ⟨g',hlt,rfl,rfl,rfl,rfl,rfl,rfl,hj⟩
theorem J7i (Q:QT) (R5:T5) (a0:Pt) (x5:Int) (i3 o3:Nat) (x4:Int) (i2 o2:Nat) (h:Zaa) (ht :
 Ztt ([40,44]) x5 fun A=>Zad pg Zcp [.ptr a0] h fun B C=>
 Zbo .u8 B fun B=>bcase (!((B:Int) == (((A:Nat):Int)))) (Zaw a0 fun A B=>Zcf (Zbc C (.ptr (A,B + 2)) [.bool true]) fun A=>J8 Q R5 a0 i3 o3 x5 x4 i2 o2 A) (Zaw a0 fun A B=>Zbs (Zaj C (.ptr (A,B + 2))) fun A=>Zaw a0 fun B D=>Zcf (Zbc C (.ptr (B,D + 2)) [.bool A]) fun A=>J8 Q R5 a0 i3 o3 x5 x4 i2 o2 A)):J7 Q R5 a0 x5 i3 o3 x4 i2 o2 h:=
 Zbb (kp:=kp) (cast (by kernel_rfl) ht)
theorem A5x0i (Q:QT) (x4:Int) (a0:Pt) (i3 o3 i2 o2:Nat) (h:Zaa) (ht :
 bcase (decide ((x4:Int) > 0)) (Zaw a0 fun A B=>Zbs (Zaj h (.ptr (A,B + 2))) fun A=>bcase (!A) (Zad pg Zcp [.ptr a0] h fun A B=>
 Zbo .u8 A fun A=>bcase (!((A:Int) == 41)) (Zaw a0 fun A C=>Zcf (Zbc B (.ptr (A,C + 2)) [.bool true]) fun A=>J12 Q i3 o3 i2 o2 A) (Zaw a0 fun A C=>Zbs (Zaj B (.ptr (A,C + 2))) fun A=>Zaw a0 fun C D=>Zcf (Zbc B (.ptr (C,D + 2)) [.bool A]) fun A=>J12 Q i3 o3 i2 o2 A)) (J12 Q i3 o3 i2 o2 h)) (J12 Q i3 o3 i2 o2 h)):A5x0 Q x4 a0 i3 o3 i2 o2 h:=
 At.mk (cast (by kernel_rfl) ht)
theorem J8i (Q:QT) (R5:T5) (a0:Pt) (i3 o3:Nat) (x5 x4:Int) (i2 o2:Nat) (h:Zaa) (ht :
 Zaw a0 fun A B=>Zbs (Zaj h (.ptr (A,B + 2))) fun A=>bcase (!A) (xSl (Zaj h (.ptr (i3,o3 + 1))) fun A B C D=>Zad pg Zch [.ptr a0] h fun E F=>
 Zse E fun E=>Zah E fun E G=>Zbo .u8 E fun E=>Zah G fun G H=>xSl G fun G I J K=>Zco H ((Zaj F (.ptr (i3,o3 + 1))=Zaj h (.ptr (i3,o3 + 1)))∧Zfh (F ++ [.cells Zab [.int .u8 E,.slice G I J K] false]) fun E=>(Zaj E (.ptr (i3,o3 + 1))=Zaj F (.ptr (i3,o3 + 1)))∧Zdk pg Zfj E (.slice A B C D) (.slice (F.length,0) 1 1 true) fun A B=>xSl A fun A C D E=>Zcf (Zbc B (.ptr (i3,o3 + 1)) [.slice A C D E]) fun A=>J6 Q R5 x5 x4 a0 i3 o3 i2 o2 A)) (J6 Q R5 x5 x4 a0 i3 o3 i2 o2 h)):J8 Q R5 a0 i3 o3 x5 x4 i2 o2 h:=
 Zbb (kp:=kp) (cast (by kernel_rfl) ht)
theorem J12i (Q:QT) (i3 o3 i2 o2:Nat) (h:Zaa) (ht :
 Zcv (Zcl h (.ptr (i3,o3)) 2) fun A=>Zah A fun A B=>Zbo .u8 A fun A=>Zah B fun B C=>xSl B fun B D E F=>Zco C (Zcf (Zbc h (.ptr (i2,o2)) [.int .u8 A,.slice B D E F]) fun A=>Zcv (Zcl A (.ptr (i2,o2)) 2) fun B=>Zah B fun B C=>Zbo .u8 B fun B=>Zah C fun C D=>xSl C fun C E F G=>Zco D (Q (.agg [.int .u8 B,.slice C E F G]) A))):J12 Q i3 o3 i2 o2 h:=
 Zbb (kp:=kp) (cast (by kernel_rfl) ht)
theorem J6i (Q:QT) (R5:T5) (x5 x4:Int) (a0:Pt) (i3 o3 i2 o2:Nat) (h:Zaa) (ht :
 R5 a0 i2 o2 i3 o3 x4 (IntKind.wrap .i64 (x5 + 1)) h):J6 Q R5 x5 x4 a0 i3 o3 i2 o2 h:=
 Zbb (kp:=kp) (cast (by kernel_rfl) ht)
theorem call (a0:Pt) (h:Zaa) (Q:QT) (ht :
 Zfh (h ++ [.cells Zab [.int .u8 0,.slice none 0 0 true] false]) fun A=>Zad pg Zcp [.ptr a0] A fun A B=>
 Zbo .u8 A fun A=>Zfh (B ++ [.cells Zab [] false]) fun C=>Zfh (C ++ [.cells Zab [.int .u8 0,.slice none 0 0 true] false]) fun D=>Zcf (Zbc D (.ptr (C.length,0)) [.int .u8 A,.slice (B.length,0) 0 0 true]) fun A=>Zbo .u8 (Zaj A (.ptr (C.length,0 + 0))) fun B=>Zad pg Zfu [.int .u8 B] A fun A B=>
 Zbo .i64 A fun A=>Zaw a0 fun D E=>Zbs (Zaj B (.ptr (D,E + 2))) fun D=>bcase D (Zaw a0 fun D E=>Zcf (Zbc B (.ptr (D,E + 2)) [.bool true]) fun D=>J4 Q a0 h.length 0 C.length 0 A D) (Zaw a0 fun D E=>Zcf (Zbc B (.ptr (D,E + 2)) [.bool (decide ((A:Int) < 0))]) fun B=>J4 Q a0 h.length 0 C.length 0 A B)):Zad pg Zch [.ptr a0] h Q:=
 Zad.of_body kp (c:=cod fn) (fn:=fn) Go.Proofs.Try.func96 (by kernel_rfl) (by kernel_rfl) (Nat.le_of_ble_eq_true (by kernel_rfl))
  (cast (by kernel_rfl) ht)
end Zam
namespace Zia
noncomputable abbrev fn:Func:=Go.Proofs.Try.f52
def kp:Zcz:=[(4000005,[5,2])]
noncomputable def C (p:List Nat):Code:=(cod fn).sub p
def KR (Q:QT):KT:=Zik pg fn.results.toList Q
def J5 (Q:QT) (i5 o5 i2 o2:Nat) (h:Zaa):Prop:=Den pg fn.ntmps (C [1,1,1,1]) [(5,.ptr (i5,o5)),(2,.ptr (i2,o2))] h (KR Q)
theorem J5i (Q:QT) (i5 o5 i2 o2:Nat) (h:Zaa) (ht :
 Zcv (Zcl h (.ptr (i5,o5)) 2) fun A=>Zah A fun A B=>Zbo .u8 A fun A=>Zah B fun B C=>xSl B fun B D E F=>Zco C (Zcf (Zbc h (.ptr (i2,o2)) [.int .u8 A,.slice B D E F]) fun A=>Zcv (Zcl A (.ptr (i2,o2)) 2) fun B=>Zah B fun B C=>Zbo .u8 B fun B=>Zah C fun C D=>xSl C fun C E F G=>Zco D (Q (.tup [.agg [.int .u8 B,.slice C E F G],.bool true]) A))):J5 Q i5 o5 i2 o2 h:=
 Zbb (kp:=kp) (cast (by kernel_rfl) ht)
theorem call (x0:List Nat) (h:Zaa) (Q:QT) (ht :
 Zfh (h ++ [.cells Zab [.int .u8 0,.slice none 0 0 true] false]) fun A=>Zfh (A ++ [.cells Zbm [.str x0,.int .i64 0,.bool false] false]) fun B=>Zad pg Zch [.ptr (A.length,0)] B fun B C=>
 Zse B fun B=>Zah B fun B D=>Zbo .u8 B fun B=>Zah D fun D E=>xSl D fun D F G H=>Zco E (Zfh (C ++ [.cells Zab [.int .u8 0,.slice none 0 0 true] false]) fun E=>Zcf (Zbc E (.ptr (C.length,0)) [.int .u8 B,.slice D F G H]) fun B=>Zbs (Zaj B (.ptr (A.length,0 + 2))) fun D=>bcase D (Zcf (Zbc B (.ptr (h.length,0)) [.int .u8 0,.slice none 0 0 true]) fun D=>Zcv (Zcl D (.ptr (h.length,0)) 2) fun E=>Zah E fun E F=>Zbo .u8 E fun E=>Zah F fun F G=>xSl F fun F H I J=>Zco G (Q (.tup [.agg [.int .u8 E,.slice F H I J],.bool false]) D)) (Zbo .i64 (Zaj B (.ptr (A.length,0 + 1))) fun A=>bcase (!((A:Int) == (((List.length x0:Nat):Int)))) (Zcf (Zbc B (.ptr (h.length,0)) [.int .u8 0,.slice none 0 0 true]) fun A=>Zcv (Zcl A (.ptr (h.length,0)) 2) fun D=>Zah D fun D E=>Zbo .u8 D fun D=>Zah E fun E F=>xSl E fun E G H I=>Zco F (Q (.tup [.agg [.int .u8 D,.slice E G H I],.bool false]) A)) (bcase (decide (((((List.length x0:Nat):Int)):Int) > 60)) (Zcf (Zbc B (.ptr (h.length,0)) [.int .u8 0,.slice none 0 0 true]) fun A=>Zcv (Zcl A (.ptr (h.length,0)) 2) fun D=>Zah D fun D E=>Zbo .u8 D fun D=>Zah E fun E F=>xSl E fun E G H I=>Zco F (Q (.tup [.agg [.int .u8 D,.slice E G H I],.bool false]) A)) (J5 Q C.length 0 h.length 0 B))))):Zad pg Zgf [.str x0] h Q:=
 Zad.of_body kp (c:=cod fn) (fn:=fn) Go.Proofs.Try.func52 (by kernel_rfl) (by kernel_rfl) (Nat.le_of_ble_eq_true (by kernel_rfl))
  (cast (by kernel_rfl) ht)
end Zia
end Go.Sim

set_option maxRecDepth 100000
set_option maxHeartbeats 0
set_option linter.unusedVariables false
namespace Go.Sim
open Go Go.RowKit
namespace Zjc
noncomputable abbrev fn:Func:=Go.Proofs.Try.f143
def kp:Zcz:=[(4000009,[])]
noncomputable def C (p:List Nat):Code:=(cod fn).sub p
def KR (Q:QT):KT:=Zik pg fn.results.toList Q
def J9 (Q:QT) (h:Zaa):Prop:=Den pg fn.ntmps (C [1,1]) [] h (KR Q)
theorem J9i (Q:QT) (h:Zaa) (ht :
 Q (.int .i64 (-1)) h):J9 Q h:=
 Zbb (kp:=kp) (cast (by kernel_rfl) ht)
theorem call (x0:List Nat) (h:Zaa) (Q:QT) (ht :
 bcase (!((((List.length x0:Nat):Int):Int) == 1)) (Q (.int .i64 (-1)) h) (Zad pg Zfc [.str ([105,98,117,120,121,122,88,89,90]),.str x0] h fun A B=>
 Zbs A fun A=>bcase A (Q (.int .i64 0) B) (bcase (decide (x0=[108])) (Q (.int .i64 1) B) (bcase (decide (x0=[109])) (Q (.int .i64 1) B) (bcase (decide (x0=[112])) (Q (.int .i64 2) B) (J9 Q B)))))):Zad pg Zgw [.str x0] h Q:=
 Zad.of_body kp (c:=cod fn) (fn:=fn) Go.Proofs.Try.func143 (by kernel_rfl) (by kernel_rfl) (Nat.le_of_ble_eq_true (by kernel_rfl))
  (cast (by kernel_rfl) ht)
end Zjc
namespace Zcg
noncomputable abbrev fn:Func:=Go.Proofs.Try.f101
def kp:Zcz:=[(4000003,[0]),(3000006,[4,0,2,3]),(1000006,[0,4,27,28]),(4000020,[4,0])]
noncomputable def C (p:List Nat):Code:=(cod fn).sub p
def KR (Q:QT):KT:=Zik pg fn.results.toList Q
abbrev T6:=List Nat→Nat→Nat→Int→Int→Zaa→Prop
def E6 (R6:T6) (env:Env) (h:Zaa):Prop:=Zdc 0 env fun v env=>Zep v fun x0=>Zdc 4 env fun v env=>Zeu v fun a=>Zaw a fun i4 o4=>Zdc 27 env fun v env=>Zhy .i64 v fun x27=>Zdc 28 env fun v env=>Zhy .i64 v fun x28=>Zmq env (R6 x0 i4 o4 x27 x28 h)
theorem Zqv {R6:T6} {env:Env} {h:Zaa} (hi:E6 R6 env h):∃ x0,∃ i4,∃ o4,∃ x27,∃ x28,env=[(0,.str x0),(4,.ptr (i4,o4)),(27,.int .i64 x27),(28,.int .i64 x28)]∧R6 x0 i4 o4 x27 x28 h:=by
 unfold E6 at hi
 have hi0:=hi
 clear hi
 obtain ⟨_,_,rfl,hi1⟩:=Zal hi0
 obtain ⟨x0,rfl,hi2⟩:=Ziu hi1
 obtain ⟨_,_,rfl,hi3⟩:=Zal hi2
 obtain ⟨a,rfl,hi4⟩:=Zbq hi3
 obtain ⟨i4,o4,rfl,hi5⟩:=Zbr hi4
 obtain ⟨_,_,rfl,hi6⟩:=Zal hi5
 obtain ⟨x27,rfl,hi7⟩:=Zbf hi6
 obtain ⟨_,_,rfl,hi8⟩:=Zal hi7
 obtain ⟨x28,rfl,hi9⟩:=Zbf hi8
 obtain ⟨rfl,hi10⟩:=Zbw hi9
 have hi:=hi10
 exact ⟨x0,i4,o4,x27,x28,rfl,hi⟩
def K0 (Q:QT):KT:=andThen (fun env' h'=>(match kp.find 4000016 with | some ks=>Den pg fn.ntmps (C [1,1,1,1,1]) (env'.keep ks) h' (KR Q) | none=>den pg fn.ntmps kp (C [1,1,1,1,1]) env' h' (KR Q))) (KR Q)
def K1 (Q:QT):KT:=Zdm 0 (K0 Q)
def K2 (Q:QT):KT:=left kp 6 (K1 Q)
def K3 (Q:QT) (R6:T6):KT:=rnd ((kp.find 1000006).getD []) (E6 R6) (K2 Q)
def J3 (Q:QT) (x0:List Nat) (h:Zaa):Prop:=Den pg fn.ntmps (C [1,1]) [(0,.str x0)] h (KR Q)
def L6 (Q:QT) (x0:List Nat) (i4 o4:Nat) (x27 x28:Int) (h:Zaa):Prop:=Zga (Den pg fn.ntmps (C [1,1,1,1,0,1,0,0])) ((kp.find 1000006).getD []) (K2 Q) [(0,.str x0),(4,.ptr (i4,o4)),(27,.int .i64 x27),(28,.int .i64 x28)] h
def Yfx (Q:QT) (i4 o4:Nat) (x0:List Nat) (h:Zaa):Prop:=At (K1 Q) (.exit 0) [(4,.ptr (i4,o4)),(0,.str x0),(2,.undef),(3,.undef)] h
def J20 (Q:QT) (i4 o4:Nat) (x0:List Nat) (h:Zaa):Prop:=Den pg fn.ntmps (C [1,1,1,1,1,1]) [(4,.ptr (i4,o4)),(0,.str x0)] h (KR Q)
theorem J3i (Q:QT) (x0:List Nat) (h:Zaa) (ht :
 (0≤(0:Int)∧(0:Int)≤1∧(1:Int)≤(List.length x0:Nat))∧(Zfh (h ++ [.cells Zav [.str (sub x0 0 1),.slice none 0 0 true,.ptr none] false]) fun A=>(0≤(1:Int)∧(1:Int)≤(List.length x0:Int)∧((List.length x0:Int):Int)≤(List.length x0:Nat))∧(Zep (Zaj A (.ptr (h.length,0 + 0))) fun B=>Zad pg Zgw [.str B] A fun A B=>
 Zbo .i64 A fun A=>L6 Q (sub x0 1 ((List.length x0:Int))) h.length 0 A 0 B))):J3 Q x0 h:=
 Zbb (kp:=kp) (cast (by kernel_rfl) ht)
def L6t (Q:QT) (R6:T6) (x0:List Nat) (i4 o4:Nat) (x27 x28:Int) (h:Zaa):Prop:=
 bcase (decide ((x28:Int) < x27)) ((0≤(x28:Int)∧(x28:Int)≤IntKind.wrap .i64 (x28 + 1)∧(IntKind.wrap .i64 (x28 + 1):Int)≤(List.length ([40,44]):Nat))∧(Zad pg Zey [.str x0,.str (sub ([40,44]) x28 (IntKind.wrap .i64 (x28 + 1)))] h fun A B=>
 Zbs A fun A=>bcase (!A) (Q (.tup [.ptr none,.str x0]) B) ((0≤(1:Int)∧(1:Int)≤(List.length x0:Int)∧((List.length x0:Int):Int)≤(List.length x0:Nat))∧(Zad pg Zee [.str (sub x0 1 ((List.length x0:Int)))] B fun A B=>
 Zqj A fun A=>Zah A fun A C=>Zeu A fun A=>Zah C fun C D=>Zep C fun C=>Zco D (bcase (Option.isNone A) (Q (.tup [.ptr none,.str x0]) B) (xSl (Zaj B (.ptr (i4,o4 + 1))) fun D E F G=>Zfh (B ++ [.cells Zbp [.ptr A] false]) fun A=>Zdk pg Zgs A (.slice D E F G) (.slice (B.length,0) 1 1 true) fun A B=>xSl A fun A D E F=>Zcf (Zbc B (.ptr (i4,o4 + 1)) [.slice A D E F]) fun A=>R6 C i4 o4 x27 (IntKind.wrap .i64 (x28 + 1)) A)))))) (Yfx Q i4 o4 x0 h)
theorem Yea (Q:QT) (R6:T6) (x0:List Nat) (i4 o4:Nat) (x27 x28:Int) (h:Zaa) (ht:L6t Q R6 x0 i4 o4 x27 x28 h):Den pg fn.ntmps (C [1,1,1,1,0,1,0,0]) [(0,.str x0),(4,.ptr (i4,o4)),(27,.int .i64 x27),(28,.int .i64 x28)] h (K3 Q R6):=
 Zbb (kp:=kp) (cast (by kernel_rfl) ht)
theorem L6ind (Q:QT) (i4 o4:Nat) (x27:Int) {G:Type} (J:G→List Nat→Int→Zaa→Prop) (m:G→Nat)
 (hr:∀ (g:G) (x0:List Nat) (x28:Int) (h:Zaa),J g x0 x28 h→∀ (R6:T6),(∀ g' (x0:List Nat) (x28:Int) (h:Zaa),m g' < m g→J g' x0 x28 h→R6 x0 i4 o4 x27 x28 h)→L6t Q R6 x0 i4 o4 x27 x28 h)
 (g:G) (x0:List Nat) (x28:Int) (h:Zaa) (hj:J g x0 x28 h):L6 Q x0 i4 o4 x27 x28 h:=by
 let P:=fun (K:List Nat→Int→Zaa→Prop) x0 i4' o4' x27' x28 h=>i4=i4'∧o4=o4'∧x27=x27'∧K x0 x28 h
 refine Zga.inv2 (fun g=>E6 (P (J g))) (fun g=>E6 (P fun x0 x28 h=>∃ g',m g' < m g∧J g' x0 x28 h)) m ?_ ?_ g ⟨rfl,rfl,rfl,hj⟩
 ·intro g env h hi
  obtain ⟨x0,i4',o4',x27',x28,rfl,rfl,rfl,rfl,hj⟩:=Zqv hi
  exact Yea Q _ x0 i4 o4 x27 x28 h (hr g x0 x28 h hj (P fun x0 x28 h=>∃ g',m g' < m g∧J g' x0 x28 h) fun g' x0 x28 h hlt hj=>⟨rfl,rfl,rfl,g',hlt,hj⟩)
 ·intro g env h hi
  obtain ⟨x0,i4',o4',x27',x28,rfl,rfl,rfl,rfl,g',hlt,hj⟩:=Zqv hi
  exact ⟨g',hlt,rfl,rfl,rfl,hj⟩
theorem A6x0i (Q:QT) (i4 o4:Nat) (x0:List Nat) (h:Zaa) (ht :
 xSl (Zaj h (.ptr (i4,o4 + 1))) fun A A B B=>bcase (decide (((((A:Nat):Int)):Int) > 0)) (Zad pg Zey [.str x0,.str [41]] h fun A B=>
 Zbs A fun A=>bcase (!A) (Q (.tup [.ptr none,.str x0]) B) ((0≤(1:Int)∧(1:Int)≤(List.length x0:Int)∧((List.length x0:Int):Int)≤(List.length x0:Nat))∧(J20 Q i4 o4 (sub x0 1 ((List.length x0:Int))) B))) (J20 Q i4 o4 x0 h)):Yfx Q i4 o4 x0 h:=
 At.mk (cast (by kernel_rfl) ht)
theorem J20i (Q:QT) (i4 o4:Nat) (x0:List Nat) (h:Zaa) (ht :
 Q (.tup [.ptr (i4,o4),.str x0]) h):J20 Q i4 o4 x0 h:=
 Zbb (kp:=kp) (cast (by kernel_rfl) ht)
theorem call (x0:List Nat) (h:Zaa) (Q:QT) (ht :
 bcase (decide (x0=[])) (Q (.tup [.ptr none,.str x0]) h) ((0≤(0:Int)∧(0:Int)≤1∧(1:Int)≤(List.length x0:Nat))∧(Zad pg Zgw [.str (sub x0 0 1)] h fun A B=>
 Zbo .i64 A fun A=>bcase (decide ((A:Int) < 0)) (Q (.tup [.ptr none,.str x0]) B) (J3 Q x0 B)))):Zad pg Zee [.str x0] h Q:=
 Zad.of_body kp (c:=cod fn) (fn:=fn) Go.Proofs.Try.func101 (by kernel_rfl) (by kernel_rfl) (Nat.le_of_ble_eq_true (by kernel_rfl))
  (cast (by kernel_rfl) ht)
end Zcg
namespace Zkq
noncomputable abbrev fn:Func:=Go.Proofs.Try.f78
def kp:Zcz:=[]
noncomputable def C (p:List Nat):Code:=(cod fn).sub p
def KR (Q:QT):KT:=Zik pg fn.results.toList Q
theorem call (x0:List Nat) (h:Zaa) (Q:QT) (ht :
 bcase (decide (((((List.length x0:Nat):Int)):Int) > 60)) (Q (.ptr none) h) (Zad pg Zee [.str x0] h fun A B=>
 Zqj A fun A=>Zah A fun A C=>Zeu A fun A=>Zah C fun C D=>Zep C fun C=>Zco D (bcase (!(decide (C=[]))) (Q (.ptr none) B) (Q (.ptr A) B)))):Zad pg Zhp [.str x0] h Q:=
 Zad.of_body kp (c:=cod fn) (fn:=fn) Go.Proofs.Try.func78 (by kernel_rfl) (by kernel_rfl) (Nat.le_of_ble_eq_true (by kernel_rfl))
  (cast (by kernel_rfl) ht)
end Zkq
namespace Zif
noncomputable abbrev fn:Func:=Go.Proofs.Try.f32
def kp:Zcz:=[]
noncomputable def C (p:List Nat):Code:=(cod fn).sub p
def KR (Q:QT):KT:=Zik pg fn.results.toList Q
theorem call (x0:List Nat) (h:Zaa) (Q:QT) (ht :
 Zad pg Zhp [.str x0] h fun A B=>
 Zeu A fun A=>Q (.bool (!(Option.isNone A))) B):Zad pg Zev [.str x0] h Q:=
 Zad.of_body kp (c:=cod fn) (fn:=fn) Go.Proofs.Try.func32 (by kernel_rfl) (by kernel_rfl) (Nat.le_of_ble_eq_true (by kernel_rfl))
  (cast (by kernel_rfl) ht)
end Zif
end Go.Sim

set_option maxRecDepth 100000
set_option maxHeartbeats 0
set_option linter.unusedVariables false
namespace Go.Sim
open Go Go.RowKit
end Go.Sim

set_option maxRecDepth 100000
set_option maxHeartbeats 0
set_option linter.unusedVariables false
namespace Go.Sim
open Go Go.RowKit
namespace Zed
noncomputable abbrev fn:Func:=Go.Proofs.Try.f63
def kp:Zcz:=[(3000004,[3]),(1000004,[0,3])]
noncomputable def C (p:List Nat):Code:=(cod fn).sub p
def KR (Q:QT):KT:=Zik pg fn.results.toList Q
abbrev T4:=Int→List Nat→Zaa→Prop
def E4 (R4:T4) (env:Env) (h:Zaa):Prop:=Zdc 0 env fun v env=>Zhy .i64 v fun x0=>Zdc 3 env fun v env=>Zep v fun x3=>Zmq env (R4 x0 x3 h)
theorem Zlx {R4:T4} {env:Env} {h:Zaa} (hi:E4 R4 env h):∃ x0,∃ x3,env=[(0,.int .i64 x0),(3,.str x3)]∧R4 x0 x3 h:=by
 unfold E4 at hi
 repeat ((first | (have k:=Zal hi; clear hi; obtain ⟨_,_,e,hi⟩:=k) | (have k:=Zbf hi; clear hi; obtain ⟨_,e,hi⟩:=k) | (have k:=Ziu hi; clear hi; obtain ⟨_,e,hi⟩:=k)); subst e)
 obtain ⟨rfl,hi⟩:=Zbw hi
 exact ⟨_,_,rfl,hi⟩
def K0 (Q:QT):KT:=andThen (fun env' h'=>(match kp.find 4000007 with | some ks=>Den pg fn.ntmps (C [1,1,1,1]) (env'.keep ks) h' (KR Q) | none=>den pg fn.ntmps kp (C [1,1,1,1]) env' h' (KR Q))) (KR Q)
def K1 (Q:QT):KT:=Zdm 0 (K0 Q)
def K2 (Q:QT):KT:=left kp 4 (K1 Q)
def K3 (Q:QT) (R4:T4):KT:=rnd ((kp.find 1000004).getD []) (E4 R4) (K2 Q)
def L4 (Q:QT) (x0:Int) (x3:List Nat) (h:Zaa):Prop:=Zga (Den pg fn.ntmps (C [1,1,1,0,0,0])) ((kp.find 1000004).getD []) (K2 Q) [(0,.int .i64 x0),(3,.str x3)] h
def Ycd (Q:QT) (x3:List Nat) (h:Zaa):Prop:=At (K1 Q) (.exit 0) [(3,.str x3)] h
def L4t (Q:QT) (R4:T4) (x0:Int) (x3:List Nat) (h:Zaa):Prop:=
 bcase (decide ((x0:Int) > 0)) ((10:Int)≠0∧(Zfh (h ++ [.cells Zsp [.int .u8 (IntKind.wrap .u8 (IntKind.wrap .i64 (48 + (Int.tmod x0 10))))] false]) fun A=>Zcv (rowOf A (h.length,0) 1) fun B=>Zhm B fun B=>List.length B + List.length x3≤9223372036854775807∧((10:Int)≠0∧(R4 (IntKind.wrap .i64 (Int.tdiv x0 10)) (B ++ x3) A)))) (Ycd Q x3 h)
theorem Zxe (Q:QT) (R4:T4) (x0:Int) (x3:List Nat) (h:Zaa) (ht:L4t Q R4 x0 x3 h):Den pg fn.ntmps (C [1,1,1,0,0,0]) [(0,.int .i64 x0),(3,.str x3)] h (K3 Q R4):=
 Zbb (kp:=kp) (cast (by kernel_rfl) ht)
theorem L4ind (Q:QT) {G:Type} (J:G→Int→List Nat→Zaa→Prop) (m:G→Nat)
 (hr:∀ (g:G) (x0:Int) (x3:List Nat) (h:Zaa),J g x0 x3 h→∀ (R4:T4),(∀ g' (x0:Int) (x3:List Nat) (h:Zaa),m g' < m g→J g' x0 x3 h→R4 x0 x3 h)→L4t Q R4 x0 x3 h)
 (g:G) (x0:Int) (x3:List Nat) (h:Zaa) (hj:J g x0 x3 h):L4 Q x0 x3 h:=by
 let P:=fun (K:Int→List Nat→Zaa→Prop) x0 x3 h=>K x0 x3 h
 refine Zga.inv2 (fun g=>E4 (P (J g))) (fun g=>E4 (P fun x0 x3 h=>∃ g',m g' < m g∧J g' x0 x3 h)) m ?_ ?_ g hj
 ·intro g env h hi
  obtain ⟨x0,x3,rfl,hj⟩:=Zlx hi
  exact Zxe Q _ x0 x3 h (hr g x0 x3 h hj (P fun x0 x3 h=>∃ g',m g' < m g∧J g' x0 x3 h) fun g' x0 x3 h hlt hj=>⟨g',hlt,hj⟩)
 ·intro g env h hi
  obtain ⟨x0,x3,rfl,g',hlt,hj⟩:=Zlx hi
  exact ⟨g',hlt,hj⟩
theorem A4x0i (Q:QT) (x3:List Nat) (h:Zaa) (ht :
 List.length [109] + List.length x3≤9223372036854775807∧(Q (.str ([109] ++ x3)) h)):Ycd Q x3 h:=
 At.mk (cast (by kernel_rfl) ht)
theorem call (x0:Int) (h:Zaa) (Q:QT) (ht :
 bcase (decide ((x0:Int)≤0)) (Q (.str ([109,48])) h) (L4 Q x0 [] h)):Zad pg Zdi [.int .i64 x0] h Q:=
 Zad.of_body kp (c:=cod fn) (fn:=fn) Go.Proofs.Try.func63 (by kernel_rfl) (by kernel_rfl) (Nat.le_of_ble_eq_true (by kernel_rfl))
  (cast (by kernel_rfl) ht)
end Zed
end Go.Sim

set_option maxRecDepth 100000
set_option maxHeartbeats 0
set_option linter.unusedVariables false
namespace Go.Sim
open Go Go.RowKit
end Go.Sim

set_option maxRecDepth 100000
set_option maxHeartbeats 0
set_option linter.unusedVariables false
namespace Go.Sim
open Go Go.RowKit
end Go.Sim

set_option maxRecDepth 100000
set_option maxHeartbeats 0
set_option linter.unusedVariables false
namespace Go.Sim
open Go Go.RowKit
end Go.Sim

set_option maxRecDepth 100000
set_option maxHeartbeats 0
set_option linter.unusedVariables false
namespace Go.Sim
open Go Go.RowKit
end Go.Sim

set_option maxRecDepth 100000
set_option maxHeartbeats 0
set_option linter.unusedVariables false
namespace Go.Sim
open Go Go.RowKit
end Go.Sim

set_option maxRecDepth 100000
set_option maxHeartbeats 0
set_option linter.unusedVariables false
namespace Go.Sim
open Go Go.RowKit
end Go.Sim

set_option maxRecDepth 100000
set_option maxHeartbeats 0
set_option linter.unusedVariables false
namespace Go.Sim
open Go Go.RowKit
namespace Zbv
noncomputable abbrev fn:Func:=Go.Proofs.Try.f21
def kp:Zcz:=[(4000003,[0,1]),(4000007,[6]),(3000009,[9,4,5]),(1000009,[9,40])]
noncomputable def C (p:List Nat):Code:=(cod fn).sub p
def KR (Q:QT):KT:=Zik pg fn.results.toList Q
abbrev T9:=Option Nat→Nat→Zaa→Prop
def E9 (R9:T9) (env:Env) (h:Zaa):Prop:=Zdc 9 env fun v env=>Ztx v fun m9=>Zdc 40 env fun v env=>Ydd v fun r40=>Zmq env (R9 m9 r40 h)
theorem Ych {R9:T9} {env:Env} {h:Zaa} (hi:E9 R9 env h):∃ m9,∃ r40,env=[(9,.map m9),(40,.iter r40)]∧R9 m9 r40 h:=by
 unfold E9 at hi
 have hi0:=hi
 clear hi
 obtain ⟨_,_,rfl,hi1⟩:=Zal hi0
 obtain ⟨m9,rfl,hi2⟩:=Zkr hi1
 obtain ⟨_,_,rfl,hi3⟩:=Zal hi2
 obtain ⟨r40,rfl,hi4⟩:=Zwh hi3
 obtain ⟨rfl,hi5⟩:=Zbw hi4
 have hi:=hi5
 exact ⟨m9,r40,rfl,hi⟩
def K0 (Q:QT):KT:=andThen (fun env' h'=>(match kp.find 4000016 with | some ks=>Den pg fn.ntmps (C [1,1,1,1,1,1,1]) (env'.keep ks) h' (KR Q) | none=>den pg fn.ntmps kp (C [1,1,1,1,1,1,1]) env' h' (KR Q))) (KR Q)
def K1 (Q:QT):KT:=Zdm 0 (K0 Q)
def K2 (Q:QT):KT:=left kp 9 (K1 Q)
def K3 (Q:QT) (R9:T9):KT:=rnd ((kp.find 1000009).getD []) (E9 R9) (K2 Q)
def J3 (Q:QT) (x0 x1:List Nat) (h:Zaa):Prop:=Den pg fn.ntmps (C [1,1]) [(0,.str x0),(1,.str x1)] h (KR Q)
def J7 (Q:QT) (m6:Option Nat) (h:Zaa):Prop:=Den pg fn.ntmps (C [1,1,1,1,1]) [(6,.map m6)] h (KR Q)
def L9 (Q:QT) (m9:Option Nat) (r40:Nat) (h:Zaa):Prop:=Zga (Den pg fn.ntmps (C [1,1,1,1,1,1,0,1,0,0])) ((kp.find 1000009).getD []) (K2 Q) [(9,.map m9),(40,.iter r40)] h
def A9x0 (Q:QT) (m9:Option Nat) (h:Zaa):Prop:=At (K1 Q) (.exit 0) [(9,.map m9),(4,.undef),(5,.undef)] h
theorem J3i (Q:QT) (x0 x1:List Nat) (h:Zaa) (ht :
 Zfh (h ++ [.map [] 0]) fun A=>Zad pg Zgv [.str x0,.map ((some h.length))] A fun A B=>
 Zeu A fun A=>Zad pg Zgv [.str x1,.map ((some h.length))] B fun B C=>
 Zeu B fun B=>Zad pg Zhb [.ptr A,.ptr B] C fun B C=>
 Zbs B fun B=>bcase (!B) (Q (.tup [.slice none 0 0 true,.bool false]) C) (Zad pg Zfz [.ptr A] C fun A B=>
 Zbs A fun A=>bcase (!A) (Q (.tup [.slice none 0 0 true,.bool false]) B) (J7 Q ((some h.length)) B))):J3 Q x0 x1 h:=
 Zbb (kp:=kp) (cast (by kernel_rfl) ht)
theorem J7i (Q:QT) (m6:Option Nat) (h:Zaa) (ht :
 Zfh (h ++ [.map [] 0]) fun A=>Zbl A m6 fun es_20 k_21=>Zfh (A ++ [.miter m6 (Yfq m6 k_21) [] (Yfq m6 k_21)]) fun B=>L9 Q ((some h.length)) A.length B):J7 Q m6 h:=
 Zbb (kp:=kp) (cast (by kernel_rfl) ht)
def L9t (Q:QT) (R9:T9) (m9:Option Nat) (r40:Nat) (h:Zaa):Prop:=
 Zjv h r40 fun m_23 A z_25 B=>Yep m_23 (A9x0 Q m9 h) (Zbl h m_23 fun es_27 k_28=>((∀ e∈es_27,e.2.2 < A)∧A≤B)∧((∀ e∈es_27,e.2.2∈z_25)→A9x0 Q m9 h)∧∀ B∈es_27,B.2.2 ∉ z_25→Zol (some B.1) fun C=>Zol (some B.2.1) fun C=>Zfh (List.set h r40 (.miter m_23 A (z_25 ++ [B.2.2]) k_28)) fun A=>Zjv A r40 fun m_33 B z_36 B=>xMp m_33 fun C=>Zbl A (some C) fun es_38 k_39=>((List.map (fun (e:ME)=>e.2.2) es_38).Nodup∧k_39=B)∧∃ B∈es_38,∃ z_41,z_36=z_41 ++ [B.2.2]∧Zol (some B.1) fun C=>Zol (some B.2.1) fun B=>Zad pg Zcu [B] A fun A D=>
 Zeu A fun A=>Zeu B fun E=>Zkl D A E fun A=>bcase A (R9 m9 r40 D) (Zad pg Zet [B,.fn Zkz []] D fun A B=>
 Zqj A fun A=>Zah A fun A D=>Zep A fun A=>Zah D fun D E=>Zbs D fun D=>Zco E (bcase (!D) (Q (.tup [.slice none 0 0 true,.bool false]) B) (xMp m9 fun D=>Zep C fun C=>Zbl B (some D) fun es_60 k_61=>Yar es_60 k_61 C (.str A) fun es_62 k_63=>Zfh (List.set B D (.map es_62 k_63)) fun A=>R9 m9 r40 A))))
theorem Ygl (Q:QT) (R9:T9) (m9:Option Nat) (r40:Nat) (h:Zaa) (ht:L9t Q R9 m9 r40 h):Den pg fn.ntmps (C [1,1,1,1,1,1,0,1,0,0]) [(9,.map m9),(40,.iter r40)] h (K3 Q R9):=
 Zbb (kp:=kp) (cast (by kernel_rfl) ht)
theorem L9ind (Q:QT) (m9:Option Nat) (r40:Nat) {G:Type} (J:G→Zaa→Prop) (m:G→Nat)
 (hr:∀ (g:G) (h:Zaa),J g  h→∀ (R9:T9),(∀ g' (h:Zaa),m g' < m g→J g'  h→R9 m9 r40 h)→L9t Q R9 m9 r40 h)
 (g:G) (h:Zaa) (hj:J g  h):L9 Q m9 r40 h:=by
 let P:=fun (K:Zaa→Prop) m9' r40' h=>m9=m9'∧r40=r40'∧K  h
 refine Zga.inv2 (fun g=>E9 (P (J g))) (fun g=>E9 (P fun  h=>∃ g',m g' < m g∧J g'  h)) m ?_ ?_ g ⟨rfl,rfl,hj⟩
 ·intro g env h hi
  obtain ⟨m9',r40',rfl,rfl,rfl,hj⟩:=Ych hi
  exact Ygl Q _ m9 r40 h (hr g  h hj (P fun  h=>∃ g',m g' < m g∧J g'  h) fun g'  h hlt hj=>⟨rfl,rfl,g',hlt,hj⟩)
 ·intro g env h hi
  obtain ⟨m9',r40',rfl,rfl,rfl,g',hlt,hj⟩:=Ych hi
  exact ⟨g',hlt,rfl,rfl,hj⟩
theorem A9x0i (Q:QT) (m9:Option Nat) (h:Zaa) (ht :
 Zad pg Zgr [.map m9] h fun A B=>
 xSl A fun A C D E=>Q (.tup [.slice A C D E,.bool true]) B):A9x0 Q m9 h:=
 At.mk (cast (by kernel_rfl) ht)
theorem call (x0 x1:List Nat) (h:Zaa) (Q:QT) (ht :
 Zad pg Zev [.str x0] h fun A B=>
 Zbs A fun A=>bcase (!A) (Q (.tup [.slice none 0 0 true,.bool false]) B) (Zad pg Zev [.str x1] B fun A B=>
 Zbs A fun A=>bcase (!A) (Q (.tup [.slice none 0 0 true,.bool false]) B) (J3 Q x0 x1 B))):Zad pg Zen [.str x0,.str x1] h Q:=
 Zad.of_body kp (c:=cod fn) (fn:=fn) Go.Proofs.Try.func21 (by kernel_rfl) (by kernel_rfl) (Nat.le_of_ble_eq_true (by kernel_rfl))
  (cast (by kernel_rfl) ht)
end Zbv
end Go.Sim

set_option maxRecDepth 100000
set_option maxHeartbeats 0
set_option linter.unusedVariables false
namespace Go.Sim
open Go Go.RowKit
namespace Zlr
noncomputable abbrev fn:Func:=Go.Proofs.Try.f55
def kp:Zcz:=[]
noncomputable def C (p:List Nat):Code:=(cod fn).sub p
def KR (Q:QT):KT:=Zik pg fn.results.toList Q
theorem call (x0:List Nat) (m1:Option Nat) (h:Zaa) (Q:QT) (ht :
 Zad pg Zee [.str x0] h fun A B=>
 Zqj A fun A=>Zah A fun A C=>Zeu A fun A=>Zah C fun C D=>Zep C fun C=>Zco D (Zad pg Zek [.ptr A,.map m1] B fun A B=>
 Zeu A fun A=>Q (.ptr A) B)):Zad pg Zgv [.str x0,.map m1] h Q:=
 Zad.of_body kp (c:=cod fn) (fn:=fn) Go.Proofs.Try.func55 (by kernel_rfl) (by kernel_rfl) (Nat.le_of_ble_eq_true (by kernel_rfl))
  (cast (by kernel_rfl) ht)
end Zlr
end Go.Sim

set_option maxRecDepth 100000
set_option maxHeartbeats 0
set_option linter.unusedVariables false
namespace Go.Sim
open Go Go.RowKit
namespace Zck
noncomputable abbrev fn:Func:=Go.Proofs.Try.f102
def kp:Zcz:=[(2000003,[1,0]),(4000004,[1,0]),(3000007,[5]),(1000007,[1,5,46,47,48]),(2000009,[48,47,46,5,1])]
noncomputable def C (p:List Nat):Code:=(cod fn).sub p
def KR (Q:QT):KT:=Zik pg fn.results.toList Q
abbrev T7:=Option Nat→Nat→Nat→Pt→Nat→Nat→Bool→Int→Int→Zaa→Prop
def E7 (R7:T7) (env:Env) (h:Zaa):Prop:=Zdc 1 env fun v env=>Ztx v fun m1=>Zdc 5 env fun v env=>Zeu v fun a=>Zaw a fun i5 o5=>Zdc 46 env fun v env=>xSl v fun a46 n46 c46 e46=>Zdc 47 env fun v env=>Zhy .i64 v fun x47=>Zdc 48 env fun v env=>Zhy .i64 v fun x48=>Zmq env (R7 m1 i5 o5 a46 n46 c46 e46 x47 x48 h)
theorem Zrl {R7:T7} {env:Env} {h:Zaa} (hi:E7 R7 env h):∃ m1,∃ i5,∃ o5,∃ a46,∃ n46,∃ c46,∃ e46,∃ x47,∃ x48,env=[(1,.map m1),(5,.ptr (i5,o5)),(46,.slice a46 n46 c46 e46),(47,.int .i64 x47),(48,.int .i64 x48)]∧R7 m1 i5 o5 a46 n46 c46 e46 x47 x48 h:=by
 unfold E7 at hi
 have hi0:=hi
 clear hi
 obtain ⟨_,_,rfl,hi1⟩:=Zal hi0
 obtain ⟨m1,rfl,hi2⟩:=Zkr hi1
 obtain ⟨_,_,rfl,hi3⟩:=Zal hi2
 obtain ⟨a,rfl,hi4⟩:=Zbq hi3
 obtain ⟨i5,o5,rfl,hi5⟩:=Zbr hi4
 obtain ⟨_,_,rfl,hi6⟩:=Zal hi5
 obtain ⟨a46,n46,c46,e46,rfl,hi7⟩:=Zem hi6
 obtain ⟨_,_,rfl,hi8⟩:=Zal hi7
 obtain ⟨x47,rfl,hi9⟩:=Zbf hi8
 obtain ⟨_,_,rfl,hi10⟩:=Zal hi9
 obtain ⟨x48,rfl,hi11⟩:=Zbf hi10
 obtain ⟨rfl,hi12⟩:=Zbw hi11
 have hi:=hi12
 exact ⟨m1,i5,o5,a46,n46,c46,e46,x47,x48,rfl,hi⟩
def K0 (Q:QT):KT:=andThen (fun env' h'=>(match kp.find 4000005 with | some ks=>Den pg fn.ntmps (C [1,1]) (env'.keep ks) h' (KR Q) | none=>den pg fn.ntmps kp (C [1,1]) env' h' (KR Q))) (KR Q)
def K1 (Q:QT):KT:=andThen (fun env' h'=>(match kp.find 4000011 with | some ks=>Den pg fn.ntmps (C [1,1,1,1]) (env'.keep ks) h' (KR Q) | none=>den pg fn.ntmps kp (C [1,1,1,1]) env' h' (KR Q))) (KR Q)
def K2 (Q:QT):KT:=Zdm 0 (K1 Q)
def K3 (Q:QT):KT:=left kp 7 (K2 Q)
def K4 (Q:QT) (R7:T7):KT:=rnd ((kp.find 1000007).getD []) (E7 R7) (K3 Q)
def J4 (Q:QT) (m1:Option Nat) (a0:Pt) (h:Zaa):Prop:=Den pg fn.ntmps (C [1,0,1,0,1]) [(1,.map m1),(0,.ptr a0)] h (K0 Q)
def L7 (Q:QT) (m1:Option Nat) (i5 o5:Nat) (a46:Pt) (n46 c46:Nat) (e46:Bool) (x47 x48:Int) (h:Zaa):Prop:=Zga (Den pg fn.ntmps (C [1,1,1,0,1,0,0])) ((kp.find 1000007).getD []) (K3 Q) [(1,.map m1),(5,.ptr (i5,o5)),(46,.slice a46 n46 c46 e46),(47,.int .i64 x47),(48,.int .i64 x48)] h
def Yet (Q:QT) (i5 o5:Nat) (h:Zaa):Prop:=At (K2 Q) (.exit 0) [(5,.ptr (i5,o5))] h
theorem J4i (Q:QT) (m1:Option Nat) (a0:Pt) (h:Zaa) (ht :
 Zaw a0 fun A B=>Zep (Zaj h (.ptr (A,B + 0))) fun A=>Zbl h m1 fun es_39 k_40=>Zlm es_39 A fun A=>Zeu (some (Option.getD A (.ptr none))) fun A=>Q (.ptr A) h):J4 Q m1 a0 h:=
 Zbb (kp:=kp) (cast (by kernel_rfl) ht)
def L7t (Q:QT) (R7:T7) (m1:Option Nat) (i5 o5:Nat) (a46:Pt) (n46 c46:Nat) (e46:Bool) (x47 x48:Int) (h:Zaa):Prop:=
 bcase (decide ((x48:Int) < x47)) ((0≤(x48:Int)∧(x48:Int) < (n46:Nat))∧(Zaw a46 fun A B=>Zeu (Zaj h (.ptr (A,B + (Int.toNat x48) * 1))) fun A=>xSl (Zaj h (.ptr (i5,o5 + 1))) fun B C D E=>Zad pg Zek [.ptr A,.map m1] h fun A F=>
 Zeu A fun A=>(Zaj F (.ptr (i5,o5 + 1))=Zaj h (.ptr (i5,o5 + 1)))∧Zfh (F ++ [.cells Zbp [.ptr A] false]) fun A=>(Zaj A (.ptr (i5,o5 + 1))=Zaj F (.ptr (i5,o5 + 1)))∧Zdk pg Zgs A (.slice B C D E) (.slice (F.length,0) 1 1 true) fun A B=>xSl A fun A C D E=>Zcf (Zbc B (.ptr (i5,o5 + 1)) [.slice A C D E]) fun A=>R7 m1 i5 o5 a46 n46 c46 e46 x47 (IntKind.wrap .i64 (x48 + 1)) A)) (Yet Q i5 o5 h)
theorem Yeg (Q:QT) (R7:T7) (m1:Option Nat) (i5 o5:Nat) (a46:Pt) (n46 c46:Nat) (e46:Bool) (x47 x48:Int) (h:Zaa) (ht:L7t Q R7 m1 i5 o5 a46 n46 c46 e46 x47 x48 h):Den pg fn.ntmps (C [1,1,1,0,1,0,0]) [(1,.map m1),(5,.ptr (i5,o5)),(46,.slice a46 n46 c46 e46),(47,.int .i64 x47),(48,.int .i64 x48)] h (K4 Q R7):=
 Zbb (kp:=kp) (cast (by kernel_rfl) ht)
theorem L7ind (Q:QT) (m1:Option Nat) (i5 o5:Nat) (a46:Pt) (n46 c46:Nat) (e46:Bool) (x47:Int) {G:Type} (J:G→Int→Zaa→Prop) (m:G→Nat)
 (hr:∀ (g:G) (x48:Int) (h:Zaa),J g x48 h→∀ (R7:T7),(∀ g' (x48:Int) (h:Zaa),m g' < m g→J g' x48 h→R7 m1 i5 o5 a46 n46 c46 e46 x47 x48 h)→L7t Q R7 m1 i5 o5 a46 n46 c46 e46 x47 x48 h)
 (g:G) (x48:Int) (h:Zaa) (hj:J g x48 h):L7 Q m1 i5 o5 a46 n46 c46 e46 x47 x48 h:=by
 let P:=fun (K:Int→Zaa→Prop) m1' i5' o5' a46' n46' c46' e46' x47' x48 h=>m1=m1'∧i5=i5'∧o5=o5'∧a46=a46'∧n46=n46'∧c46=c46'∧e46=e46'∧x47=x47'∧K x48 h
 refine Zga.inv2 (fun g=>E7 (P (J g))) (fun g=>E7 (P fun x48 h=>∃ g',m g' < m g∧J g' x48 h)) m ?_ ?_ g ⟨rfl,rfl,rfl,rfl,rfl,rfl,rfl,rfl,hj⟩
 ·intro g env h hi
  obtain ⟨m1',i5',o5',a46',n46',c46',e46',x47',x48,rfl,rfl,rfl,rfl,rfl,rfl,rfl,rfl,rfl,hj⟩:=Zrl hi
  exact Yeg Q _ m1 i5 o5 a46 n46 c46 e46 x47 x48 h (hr g x48 h hj (P fun x48 h=>∃ g',m g' < m g∧J g' x48 h) fun g' x48 h hlt hj=>⟨rfl,rfl,rfl,rfl,rfl,rfl,rfl,rfl,g',hlt,hj⟩)
 ·intro g env h hi
  obtain ⟨m1',i5',o5',a46',n46',c46',e46',x47',x48,rfl,rfl,rfl,rfl,rfl,rfl,rfl,rfl,rfl,g',hlt,hj⟩:=Zrl hi
  exact ⟨g',hlt,rfl,rfl,rfl,rfl,rfl,rfl,rfl,rfl,hj⟩
theorem A7x0i (Q:QT) (i5 o5:Nat) (h:Zaa) (ht :
 Q (.ptr (i5,o5)) h):Yet Q i5 o5 h:=
 At.mk (cast (by kernel_rfl) ht)
theorem call (a0:Pt) (m1:Option Nat) (h:Zaa) (Q:QT) (ht :
 Zaw a0 fun A B=>Zep (Zaj h (.ptr (A,B + 0))) fun A=>Zad pg Zbx [.str A] h fun A B=>
 Zbs A fun A=>bcase A (Zaw a0 fun A C=>Zep (Zaj B (.ptr (A,C + 0))) fun A=>Zbl B m1 fun es_9 k_10=>Zlm es_9 A fun A=>Zeu (some (Option.getD A (.ptr none))) fun A=>bcase (Option.isNone A) (Zaw a0 fun A C=>Zaw a0 fun D E=>Zep (Zaj B (.ptr (A,C + 0))) fun F=>Zep (Zaj B (.ptr (D,E + 0))) fun D=>(Zaj B (.ptr (A,C + 0))=Zaj B (.ptr (A,C + 0)))∧Zfh (B ++ [.cells Zav [.str D,.slice none 0 0 true,.ptr none] false]) fun D=>(Zaj D (.ptr (A,C + 0))=Zaj B (.ptr (A,C + 0)))∧xMp m1 fun A=>Zbl D (some A) fun es_21 k_22=>Yar es_21 k_22 F (.ptr (B.length,0)) fun es_23 k_24=>Zfh (List.set D A (.map es_23 k_24)) fun A=>J4 Q m1 a0 A) (J4 Q m1 a0 B)) (Zaw a0 fun A C=>Zep (Zaj B (.ptr (A,C + 0))) fun A=>Zfh (B ++ [.cells Zav [.str A,.slice none 0 0 true,.ptr none] false]) fun A=>Zaw a0 fun C D=>xSl (Zaj A (.ptr (C,D + 1))) fun C D E F=>L7 Q m1 B.length 0 C D E F (((D:Nat):Int)) 0 A)):Zad pg Zek [.ptr a0,.map m1] h Q:=
 Zad.of_body kp (c:=cod fn) (fn:=fn) Go.Proofs.Try.func102 (by kernel_rfl) (by kernel_rfl) (Nat.le_of_ble_eq_true (by kernel_rfl))
  (cast (by kernel_rfl) ht)
end Zck
end Go.Sim

set_option maxRecDepth 100000
set_option maxHeartbeats 0
set_option linter.unusedVariables false
namespace Go.Sim
open Go Go.RowKit
namespace Zci
noncomputable abbrev fn:Func:=Go.Proofs.Try.f59
def kp:Zcz:=[(3000007,[0,7,4,5]),(1000007,[0,1,7,32,33,34]),(4000013,[34,33,32,1,7,0]),(4000016,[7])]
noncomputable def C (p:List Nat):Code:=(cod fn).sub p
def KR (Q:QT):KT:=Zik pg fn.results.toList Q
abbrev T7:=Pt→Zac→List Nat→Pt→Nat→Nat→Bool→Int→Int→Zaa→Prop
def E7 (R7:T7) (env:Env) (h:Zaa):Prop:=Zdc 0 env fun v env=>Zeu v fun a0=>Zdc 1 env fun v env=>Zol v fun v1=>Zdc 7 env fun v env=>Zep v fun x7=>Zdc 32 env fun v env=>xSl v fun a32 n32 c32 e32=>Zdc 33 env fun v env=>Zhy .i64 v fun x33=>Zdc 34 env fun v env=>Zhy .i64 v fun x34=>Zmq env (R7 a0 v1 x7 a32 n32 c32 e32 x33 x34 h)
theorem Zrl {R7:T7} {env:Env} {h:Zaa} (hi:E7 R7 env h):∃ a0,∃ v1,∃ x7,∃ a32,∃ n32,∃ c32,∃ e32,∃ x33,∃ x34,env=[(0,.ptr a0),(1,v1),(7,.str x7),(32,.slice a32 n32 c32 e32),(33,.int .i64 x33),(34,.int .i64 x34)]∧R7 a0 v1 x7 a32 n32 c32 e32 x33 x34 h:=by
 unfold E7 at hi
 have hi0:=hi
 clear hi
 obtain ⟨_,_,rfl,hi1⟩:=Zal hi0
 obtain ⟨a0,rfl,hi2⟩:=Zbq hi1
 obtain ⟨_,_,rfl,hi3⟩:=Zal hi2
 obtain ⟨v1,hx,hi4⟩:=Ziw hi3
 replace hx:=(Option.some.inj hx).symm
 subst hx
 obtain ⟨_,_,rfl,hi5⟩:=Zal hi4
 obtain ⟨x7,rfl,hi6⟩:=Ziu hi5
 obtain ⟨_,_,rfl,hi7⟩:=Zal hi6
 obtain ⟨a32,n32,c32,e32,rfl,hi8⟩:=Zem hi7
 obtain ⟨_,_,rfl,hi9⟩:=Zal hi8
 obtain ⟨x33,rfl,hi10⟩:=Zbf hi9
 obtain ⟨_,_,rfl,hi11⟩:=Zal hi10
 obtain ⟨x34,rfl,hi12⟩:=Zbf hi11
 obtain ⟨rfl,hi13⟩:=Zbw hi12
 have hi:=hi13
 exact ⟨a0,v1,x7,a32,n32,c32,e32,x33,x34,rfl,hi⟩
def K0 (Q:QT):KT:=andThen (fun env' h'=>(match kp.find 4000014 with | some ks=>Den pg fn.ntmps (C [1,1,1,1,1]) (env'.keep ks) h' (KR Q) | none=>den pg fn.ntmps kp (C [1,1,1,1,1]) env' h' (KR Q))) (KR Q)
def K1 (Q:QT):KT:=Zdm 0 (K0 Q)
def K2 (Q:QT):KT:=left kp 7 (K1 Q)
def K3 (Q:QT) (R7:T7):KT:=rnd ((kp.find 1000007).getD []) (E7 R7) (K2 Q)
def L7 (Q:QT) (a0:Pt) (v1:Zac) (x7:List Nat) (a32:Pt) (n32 c32:Nat) (e32:Bool) (x33 x34:Int) (h:Zaa):Prop:=Zga (Den pg fn.ntmps (C [1,1,1,1,0,1,0,0])) ((kp.find 1000007).getD []) (K2 Q) [(0,.ptr a0),(1,v1),(7,.str x7),(32,.slice a32 n32 c32 e32),(33,.int .i64 x33),(34,.int .i64 x34)] h
def J13 (Q:QT) (R7:T7) (x34 x33:Int) (a32:Pt) (n32 c32:Nat) (e32:Bool) (v1:Zac) (x7:List Nat) (a0:Pt) (h:Zaa):Prop:=Den pg fn.ntmps (C [1,1,1,1,0,1,0,0,1,1,1]) [(34,.int .i64 x34),(33,.int .i64 x33),(32,.slice a32 n32 c32 e32),(1,v1),(7,.str x7),(0,.ptr a0)] h (K3 Q R7)
def Yet (Q:QT) (a0:Pt) (x7:List Nat) (h:Zaa):Prop:=At (K1 Q) (.exit 0) [(0,.ptr a0),(7,.str x7),(4,.undef),(5,.undef)] h
def J16 (Q:QT) (x7:List Nat) (h:Zaa):Prop:=Den pg fn.ntmps (C [1,1,1,1,1,1]) [(7,.str x7)] h (KR Q)
def L7t (Q:QT) (R7:T7) (a0:Pt) (v1:Zac) (x7:List Nat) (a32:Pt) (n32 c32:Nat) (e32:Bool) (x33 x34:Int) (h:Zaa):Prop:=
 bcase (decide ((x34:Int) < x33)) ((0≤(x34:Int)∧(x34:Int) < (n32:Nat))∧(Zaw a32 fun A B=>Zeu (Zaj h (.ptr (A,B + (Int.toNat x34) * 1))) fun A=>Zad pg Zet [.ptr A,v1] h fun A B=>
 Zqj A fun A=>Zah A fun A C=>Zep A fun A=>Zah C fun C D=>Zbs C fun C=>Zco D ((0≤(x34:Int)∧(x34:Int)≤IntKind.wrap .i64 (x34 + 1)∧(IntKind.wrap .i64 (x34 + 1):Int)≤(List.length ([40,44]):Nat))∧(List.length (sub ([40,44]) x34 (IntKind.wrap .i64 (x34 + 1))) + List.length A≤9223372036854775807∧(List.length x7 + List.length ((sub ([40,44]) x34 (IntKind.wrap .i64 (x34 + 1))) ++ A)≤9223372036854775807∧(bcase (!C) (Q (.tup [.str [],.bool false]) B) (bcase (decide (((((List.length (x7 ++ ((sub ([40,44]) x34 (IntKind.wrap .i64 (x34 + 1))) ++ A)):Nat):Int)):Int) > 60)) (Q (.tup [.str [],.bool false]) B) (J13 Q R7 x34 x33 a32 n32 c32 e32 v1 (x7 ++ ((sub ([40,44]) x34 (IntKind.wrap .i64 (x34 + 1))) ++ A)) a0 B)))))))) (Yet Q a0 x7 h)
theorem Yeg (Q:QT) (R7:T7) (a0:Pt) (v1:Zac) (x7:List Nat) (a32:Pt) (n32 c32:Nat) (e32:Bool) (x33 x34:Int) (h:Zaa) (ht:L7t Q R7 a0 v1 x7 a32 n32 c32 e32 x33 x34 h):Den pg fn.ntmps (C [1,1,1,1,0,1,0,0]) [(0,.ptr a0),(1,v1),(7,.str x7),(32,.slice a32 n32 c32 e32),(33,.int .i64 x33),(34,.int .i64 x34)] h (K3 Q R7):=
 Zbb (kp:=kp) (cast (by kernel_rfl) ht)
theorem L7ind (Q:QT) (a0:Pt) (v1:Zac) (a32:Pt) (n32 c32:Nat) (e32:Bool) (x33:Int) {G:Type} (J:G→List Nat→Int→Zaa→Prop) (m:G→Nat)
 (hr:∀ (g:G) (x7:List Nat) (x34:Int) (h:Zaa),J g x7 x34 h→∀ (R7:T7),(∀ g' (x7:List Nat) (x34:Int) (h:Zaa),m g' < m g→J g' x7 x34 h→R7 a0 v1 x7 a32 n32 c32 e32 x33 x34 h)→L7t Q R7 a0 v1 x7 a32 n32 c32 e32 x33 x34 h)
 (g:G) (x7:List Nat) (x34:Int) (h:Zaa) (hj:J g x7 x34 h):L7 Q a0 v1 x7 a32 n32 c32 e32 x33 x34 h:=by
 let P:=fun (K:List Nat→Int→Zaa→Prop) a0' v1' x7 a32' n32' c32' e32' x33' x34 h=>a0=a0'∧v1=v1'∧a32=a32'∧n32=n32'∧c32=c32'∧e32=e32'∧x33=x33'∧K x7 x34 h
 refine Zga.inv2 (fun g=>E7 (P (J g))) (fun g=>E7 (P fun x7 x34 h=>∃ g',m g' < m g∧J g' x7 x34 h)) m ?_ ?_ g ⟨rfl,rfl,rfl,rfl,rfl,rfl,rfl,hj⟩
 ·intro g env h hi
  obtain ⟨a0',v1',x7,a32',n32',c32',e32',x33',x34,rfl,rfl,rfl,rfl,rfl,rfl,rfl,rfl,hj⟩:=Zrl hi
  exact Yeg Q _ a0 v1 x7 a32 n32 c32 e32 x33 x34 h (hr g x7 x34 h hj (P fun x7 x34 h=>∃ g',m g' < m g∧J g' x7 x34 h) fun g' x7 x34 h hlt hj=>⟨rfl,rfl,rfl,rfl,rfl,rfl,rfl,g',hlt,hj⟩)
 ·intro g env h hi
  obtain ⟨a0',v1',x7,a32',n32',c32',e32',x33',x34,rfl,rfl,rfl,rfl,rfl,rfl,rfl,rfl,g',hlt,hj⟩:=Zrl hi
  exact ⟨g',hlt,rfl,rfl,rfl,rfl,rfl,rfl,rfl,hj⟩
theorem J13i (Q:QT) (R7:T7) (x34 x33:Int) (a32:Pt) (n32 c32:Nat) (e32:Bool) (v1:Zac) (x7:List Nat) (a0:Pt) (h:Zaa) (ht :
 R7 a0 v1 x7 a32 n32 c32 e32 x33 (IntKind.wrap .i64 (x34 + 1)) h):J13 Q R7 x34 x33 a32 n32 c32 e32 v1 x7 a0 h:=
 Zbb (kp:=kp) (cast (by kernel_rfl) ht)
theorem A7x0i (Q:QT) (a0:Pt) (x7:List Nat) (h:Zaa) (ht :
 Zaw a0 fun A B=>xSl (Zaj h (.ptr (A,B + 1))) fun A A B B=>bcase (decide (((((A:Nat):Int)):Int) > 0)) (List.length x7 + List.length [41]≤9223372036854775807∧(J16 Q (x7 ++ [41]) h)) (J16 Q x7 h)):Yet Q a0 x7 h:=
 At.mk (cast (by kernel_rfl) ht)
theorem J16i (Q:QT) (x7:List Nat) (h:Zaa) (ht :
 Q (.tup [.str x7,.bool (decide (((((List.length x7:Nat):Int)):Int)≤60))]) h):J16 Q x7 h:=
 Zbb (kp:=kp) (cast (by kernel_rfl) ht)
theorem call (a0:Pt) (v1:Zac) (h:Zaa) (Q:QT) (ht :
 Zad pg Zcu [.ptr a0] h fun A B=>
 Zeu A fun A=>Zaw A fun C D=>Zep (Zaj B (.ptr (C,D + 0))) fun C=>Zad pg Zbx [.str C] B fun B C=>
 Zbs B fun B=>bcase B (Yfy v1 fun B D=>Zad pg B ([.ptr A] ++ D) C fun B D=>
 Zep B fun B=>Q (.tup [.str B,.bool (!(decide (B=[])))]) D) (Zaw A fun B D=>Zep (Zaj C (.ptr (B,D + 0))) fun B=>Zaw A fun D E=>xSl (Zaj C (.ptr (D,E + 1))) fun D E F G=>L7 Q A v1 B D E F G (((E:Nat):Int)) 0 C)):Zad pg Zet [.ptr a0,v1] h Q:=
 Zad.of_body kp (c:=cod fn) (fn:=fn) Go.Proofs.Try.func59 (by kernel_rfl) (by kernel_rfl) (Nat.le_of_ble_eq_true (by kernel_rfl))
  (cast (by kernel_rfl) ht)
end Zci
namespace Zpf
noncomputable abbrev fn:Func:=Go.Proofs.Try.f60
def kp:Zcz:=[]
noncomputable def C (p:List Nat):Code:=(cod fn).sub p
def KR (Q:QT):KT:=Zik pg fn.results.toList Q
theorem call (a0:Pt) (h:Zaa) (Q:QT) (ht :
 Zaw a0 fun A B=>Zep (Zaj h (.ptr (A,B + 0))) fun A=>Q (.str A) h):Zad pg Zkz [.ptr a0] h Q:=
 Zad.of_body kp (c:=cod fn) (fn:=fn) Go.Proofs.Try.func60 (by kernel_rfl) (by kernel_rfl) (Nat.le_of_ble_eq_true (by kernel_rfl))
  (cast (by kernel_rfl) ht)
end Zpf
end Go.Sim

set_option maxRecDepth 100000
set_option maxHeartbeats 0
set_option linter.unusedVariables false
namespace Go.Sim
open Go Go.RowKit
namespace Zcx
noncomputable abbrev fn:Func:=Go.Proofs.Try.f104
def kp:Zcz:=[(3000008,[1,0,2,6]),(1000008,[0,1,2,22,23,24])]
noncomputable def C (p:List Nat):Code:=(cod fn).sub p
def KR (Q:QT):KT:=Zik pg fn.results.toList Q
abbrev T8:=Pt→Option Nat→Option Nat→Pt→Nat→Nat→Bool→Int→Int→Zaa→Prop
def E8 (R8:T8) (env:Env) (h:Zaa):Prop:=Zdc 0 env fun v env=>Zeu v fun a0=>Zdc 1 env fun v env=>Ztx v fun m1=>Zdc 2 env fun v env=>Ztx v fun m2=>Zdc 22 env fun v env=>xSl v fun a22 n22 c22 e22=>Zdc 23 env fun v env=>Zhy .i64 v fun x23=>Zdc 24 env fun v env=>Zhy .i64 v fun x24=>Zmq env (R8 a0 m1 m2 a22 n22 c22 e22 x23 x24 h)
theorem Ycc {R8:T8} {env:Env} {h:Zaa} (hi:E8 R8 env h):∃ a0,∃ m1,∃ m2,∃ a22,∃ n22,∃ c22,∃ e22,∃ x23,∃ x24,env=[(0,.ptr a0),(1,.map m1),(2,.map m2),(22,.slice a22 n22 c22 e22),(23,.int .i64 x23),(24,.int .i64 x24)]∧R8 a0 m1 m2 a22 n22 c22 e22 x23 x24 h:=by
 unfold E8 at hi
 repeat ((first | (have k:=Zal hi; clear hi; obtain ⟨_,_,e,hi⟩:=k) | (have k:=Zbf hi; clear hi; obtain ⟨_,e,hi⟩:=k) | (have k:=Zem hi; clear hi; obtain ⟨_,_,_,_,e,hi⟩:=k) | (have k:=Zkr hi; clear hi; obtain ⟨_,e,hi⟩:=k) | (have k:=Zbq hi; clear hi; obtain ⟨_,e,hi⟩:=k)); subst e)
 obtain ⟨rfl,hi⟩:=Zbw hi
 exact ⟨_,_,_,_,_,_,_,_,_,rfl,hi⟩
def K0 (Q:QT):KT:=andThen (fun env' h'=>(match kp.find 4000013 with | some ks=>Den pg fn.ntmps (C [1,1,1,1,1,1]) (env'.keep ks) h' (KR Q) | none=>den pg fn.ntmps kp (C [1,1,1,1,1,1]) env' h' (KR Q))) (KR Q)
def K1 (Q:QT):KT:=Zdm 0 (K0 Q)
def K2 (Q:QT):KT:=left kp 8 (K1 Q)
def K3 (Q:QT) (R8:T8):KT:=rnd ((kp.find 1000008).getD []) (E8 R8) (K2 Q)
def L8 (Q:QT) (a0:Pt) (m1 m2:Option Nat) (a22:Pt) (n22 c22:Nat) (e22:Bool) (x23 x24:Int) (h:Zaa):Prop:=Zga (Den pg fn.ntmps (C [1,1,1,1,1,0,1,0,0])) ((kp.find 1000008).getD []) (K2 Q) [(0,.ptr a0),(1,.map m1),(2,.map m2),(22,.slice a22 n22 c22 e22),(23,.int .i64 x23),(24,.int .i64 x24)] h
def Ygy (Q:QT) (m1:Option Nat) (a0:Pt) (m2:Option Nat) (h:Zaa):Prop:=At (K1 Q) (.exit 0) [(1,.map m1),(0,.ptr a0),(2,.map m2),(6,.undef)] h
def L8t (Q:QT) (R8:T8) (a0:Pt) (m1 m2:Option Nat) (a22:Pt) (n22 c22:Nat) (e22:Bool) (x23 x24:Int) (h:Zaa):Prop:=
 bcase (decide ((x24:Int) < x23)) ((0≤(x24:Int)∧(x24:Int) < (n22:Nat))∧(Zaw a22 fun A B=>Zeu (Zaj h (.ptr (A,B + (Int.toNat x24) * 1))) fun A=>Zad pg Zdp [.ptr A,.map m1,.map m2] h fun A B=>
 Zbs A fun A=>bcase A (Q (.bool true) B) (R8 a0 m1 m2 a22 n22 c22 e22 x23 (IntKind.wrap .i64 (x24 + 1)) B))) (Ygy Q m1 a0 m2 h)
theorem Ygk (Q:QT) (R8:T8) (a0:Pt) (m1 m2:Option Nat) (a22:Pt) (n22 c22:Nat) (e22:Bool) (x23 x24:Int) (h:Zaa) (ht:L8t Q R8 a0 m1 m2 a22 n22 c22 e22 x23 x24 h):Den pg fn.ntmps (C [1,1,1,1,1,0,1,0,0]) [(0,.ptr a0),(1,.map m1),(2,.map m2),(22,.slice a22 n22 c22 e22),(23,.int .i64 x23),(24,.int .i64 x24)] h (K3 Q R8):=
 Zbb (kp:=kp) (cast (by kernel_rfl) ht)
theorem L8ind (Q:QT) (a0:Pt) (m1 m2:Option Nat) (a22:Pt) (n22 c22:Nat) (e22:Bool) (x23:Int) {G:Type} (J:G→Int→Zaa→Prop) (m:G→Nat)
 (hr:∀ (g:G) (x24:Int) (h:Zaa),J g x24 h→∀ (R8:T8),(∀ g' (x24:Int) (h:Zaa),m g' < m g→J g' x24 h→R8 a0 m1 m2 a22 n22 c22 e22 x23 x24 h)→L8t Q R8 a0 m1 m2 a22 n22 c22 e22 x23 x24 h)
 (g:G) (x24:Int) (h:Zaa) (hj:J g x24 h):L8 Q a0 m1 m2 a22 n22 c22 e22 x23 x24 h:=by
 let P:=fun (K:Int→Zaa→Prop) a0' m1' m2' a22' n22' c22' e22' x23' x24 h=>a0=a0'∧m1=m1'∧m2=m2'∧a22=a22'∧n22=n22'∧c22=c22'∧e22=e22'∧x23=x23'∧K x24 h
 refine Zga.inv2 (fun g=>E8 (P (J g))) (fun g=>E8 (P fun x24 h=>∃ g',m g' < m g∧J g' x24 h)) m ?_ ?_ g ⟨rfl,rfl,rfl,rfl,rfl,rfl,rfl,rfl,hj⟩
 ·intro g env h hi
  obtain ⟨a0',m1',m2',a22',n22',c22',e22',x23',x24,rfl,rfl,rfl,rfl,rfl,rfl,rfl,rfl,rfl,hj⟩:=Ycc hi
  exact Ygk Q _ a0 m1 m2 a22 n22 c22 e22 x23 x24 h (hr g x24 h hj (P fun x24 h=>∃ g',m g' < m g∧J g' x24 h) fun g' x24 h hlt hj=>⟨rfl,rfl,rfl,rfl,rfl,rfl,rfl,rfl,g',hlt,hj⟩)
 ·intro g env h hi
  obtain ⟨a0',m1',m2',a22',n22',c22',e22',x23',x24,rfl,rfl,rfl,rfl,rfl,rfl,rfl,rfl,rfl,g',hlt,hj⟩:=Ycc hi
  exact ⟨g',hlt,rfl,rfl,rfl,rfl,rfl,rfl,rfl,rfl,hj⟩
theorem A8x0i (Q:QT) (m1:Option Nat) (a0:Pt) (m2:Option Nat) (h:Zaa) (ht :
 xMp m1 fun A=>Zaw a0 fun B C=>Zbl h (some A) fun es_36 k_37=>Yce (Zgo h es_36 (B,C) 0) es_36 fun es_38=>Zfh (List.set h A (.map es_38 k_37)) fun A=>xMp m2 fun B=>Zaw a0 fun C D=>Zbl A (some B) fun es_43 k_44=>Yau (Zgo A es_43 (C,D) 0) es_43 k_44 (C,D) (.bool true) fun es_45 k_46=>Zfh (List.set A B (.map es_45 k_46)) fun A=>Q (.bool false) A):Ygy Q m1 a0 m2 h:=
 At.mk (cast (by kernel_rfl) ht)
theorem call (a0:Pt) (m1 m2:Option Nat) (h:Zaa) (Q:QT) (ht :
 Zad pg Zcu [.ptr a0] h fun A B=>
 Zeu A fun A=>Zaw A fun C D=>Zbl B m1 fun es_3 k_4=>Zns (Zgo B es_3 (C,D) 0) fun C=>Zbs (some (Option.getD C (.bool false))) fun C=>bcase C (Q (.bool true) B) (Zaw A fun C D=>Zbl B m2 fun es_9 k_10=>Zns (Zgo B es_9 (C,D) 0) fun C=>Zbs (some (Option.getD C (.bool false))) fun C=>bcase C (Q (.bool false) B) (xMp m1 fun C=>Zaw A fun D E=>Zbl B (some C) fun es_16 k_17=>Yau (Zgo B es_16 (D,E) 0) es_16 k_17 (D,E) (.bool true) fun es_18 k_19=>Zfh (List.set B C (.map es_18 k_19)) fun B=>Zaw A fun C D=>xSl (Zaj B (.ptr (C,D + 1))) fun C D E F=>L8 Q A m1 m2 C D E F (((D:Nat):Int)) 0 B))):Zad pg Zdp [.ptr a0,.map m1,.map m2] h Q:=
 Zad.of_body kp (c:=cod fn) (fn:=fn) Go.Proofs.Try.func104 (by kernel_rfl) (by kernel_rfl) (Nat.le_of_ble_eq_true (by kernel_rfl))
  (cast (by kernel_rfl) ht)
end Zcx
namespace Zig
noncomputable abbrev fn:Func:=Go.Proofs.Try.f57
def kp:Zcz:=[]
noncomputable def C (p:List Nat):Code:=(cod fn).sub p
def KR (Q:QT):KT:=Zik pg fn.results.toList Q
theorem call (a0:Pt) (h:Zaa) (Q:QT) (ht :
 Zfh (h ++ [.map [] 0]) fun A=>Zfh (A ++ [.map [] 0]) fun B=>Zad pg Zdp [.ptr a0,.map ((some h.length)),.map ((some A.length))] B fun A B=>
 Zbs A fun A=>Q (.bool (!A)) B):Zad pg Zfz [.ptr a0] h Q:=
 Zad.of_body kp (c:=cod fn) (fn:=fn) Go.Proofs.Try.func57 (by kernel_rfl) (by kernel_rfl) (Nat.le_of_ble_eq_true (by kernel_rfl))
  (cast (by kernel_rfl) ht)
end Zig
end Go.Sim

set_option maxRecDepth 100000
set_option maxHeartbeats 0
set_option linter.unusedVariables false
namespace Go.Sim
open Go Go.RowKit
namespace Zeh
noncomputable abbrev fn:Func:=Go.Proofs.Try.f58
def kp:Zcz:=[(3000001,[0]),(1000001,[0])]
noncomputable def C (p:List Nat):Code:=(cod fn).sub p
def KR (Q:QT):KT:=Zik pg fn.results.toList Q
abbrev T1:=Pt→Zaa→Prop
def E1 (R1:T1) (env:Env) (h:Zaa):Prop:=Zdc 0 env fun v env=>Zeu v fun a0=>Zmq env (R1 a0 h)
theorem Ybz {R1:T1} {env:Env} {h:Zaa} (hi:E1 R1 env h):∃ a0,env=[(0,.ptr a0)]∧R1 a0 h:=by
 unfold E1 at hi
 repeat ((first | (have k:=Zal hi; clear hi; obtain ⟨_,_,e,hi⟩:=k) | (have k:=Zbq hi; clear hi; obtain ⟨_,e,hi⟩:=k)); subst e)
 obtain ⟨rfl,hi⟩:=Zbw hi
 exact ⟨_,rfl,hi⟩
def K0 (Q:QT):KT:=andThen (fun env' h'=>(match kp.find 4000003 with | some ks=>Den pg fn.ntmps (C [1,1]) (env'.keep ks) h' (KR Q) | none=>den pg fn.ntmps kp (C [1,1]) env' h' (KR Q))) (KR Q)
def K1 (Q:QT):KT:=Zdm 0 (K0 Q)
def K2 (Q:QT):KT:=left kp 1 (K1 Q)
def K3 (Q:QT) (R1:T1):KT:=rnd ((kp.find 1000001).getD []) (E1 R1) (K2 Q)
def L1 (Q:QT) (a0:Pt) (h:Zaa):Prop:=Zga (Den pg fn.ntmps (C [1,0,0,0])) ((kp.find 1000001).getD []) (K2 Q) [(0,.ptr a0)] h
def Ygt (Q:QT) (a0:Pt) (h:Zaa):Prop:=At (K1 Q) (.exit 0) [(0,.ptr a0)] h
def L1t (Q:QT) (R1:T1) (a0:Pt) (h:Zaa):Prop:=
 Zaw a0 fun A B=>Zeu (Zaj h (.ptr (A,B + 2))) fun A=>bcase (!(Option.isNone A)) (Zaw a0 fun A B=>Zeu (Zaj h (.ptr (A,B + 2))) fun A=>R1 A h) (Ygt Q a0 h)
theorem Ygn (Q:QT) (R1:T1) (a0:Pt) (h:Zaa) (ht:L1t Q R1 a0 h):Den pg fn.ntmps (C [1,0,0,0]) [(0,.ptr a0)] h (K3 Q R1):=
 Zbb (kp:=kp) (cast (by kernel_rfl) ht)
theorem L1ind (Q:QT) {G:Type} (J:G→Pt→Zaa→Prop) (m:G→Nat)
 (hr:∀ (g:G) (a0:Pt) (h:Zaa),J g a0 h→∀ (R1:T1),(∀ g' (a0:Pt) (h:Zaa),m g' < m g→J g' a0 h→R1 a0 h)→L1t Q R1 a0 h)
 (g:G) (a0:Pt) (h:Zaa) (hj:J g a0 h):L1 Q a0 h:=by
 let P:=fun (K:Pt→Zaa→Prop) a0 h=>K a0 h
 refine Zga.inv2 (fun g=>E1 (P (J g))) (fun g=>E1 (P fun a0 h=>∃ g',m g' < m g∧J g' a0 h)) m ?_ ?_ g hj
 ·intro g env h hi
  obtain ⟨a0,rfl,hj⟩:=Ybz hi
  exact Ygn Q _ a0 h (hr g a0 h hj (P fun a0 h=>∃ g',m g' < m g∧J g' a0 h) fun g' a0 h hlt hj=>⟨g',hlt,hj⟩)
 ·intro g env h hi
  obtain ⟨a0,rfl,g',hlt,hj⟩:=Ybz hi
  exact ⟨g',hlt,hj⟩
theorem A1x0i (Q:QT) (a0:Pt) (h:Zaa) (ht :
 Q (.ptr a0) h):Ygt Q a0 h:=
 At.mk (cast (by kernel_rfl) ht)
theorem call (a0:Pt) (h:Zaa) (Q:QT) (ht :
 L1 Q a0 h):Zad pg Zcu [.ptr a0] h Q:=
 Zad.of_body kp (c:=cod fn) (fn:=fn) Go.Proofs.Try.func58 (by kernel_rfl) (by kernel_rfl) (Nat.le_of_ble_eq_true (by kernel_rfl))
  (cast (by kernel_rfl) ht)
end Zeh
namespace Zde
noncomputable abbrev fn:Func:=Go.Proofs.Try.f56
def kp:Zcz:=[(2000004,[16,1,0]),(4000007,[0,1]),(2000007,[71,0,1]),(4000009,[0,1]),(3000012,[4]),(1000012,[1,80,81,82])]
noncomputable def C (p:List Nat):Code:=(cod fn).sub p
def KR (Q:QT):KT:=Zik pg fn.results.toList Q
abbrev T12:=Pt→Pt→Nat→Nat→Bool→Int→Int→Zaa→Prop
def E12 (R12:T12) (env:Env) (h:Zaa):Prop:=Zdc 1 env fun v env=>Zeu v fun a1=>Zdc 80 env fun v env=>xSl v fun a80 n80 c80 e80=>Zdc 81 env fun v env=>Zhy .i64 v fun x81=>Zdc 82 env fun v env=>Zhy .i64 v fun x82=>Zmq env (R12 a1 a80 n80 c80 e80 x81 x82 h)
theorem Zxb {R12:T12} {env:Env} {h:Zaa} (hi:E12 R12 env h):∃ a1,∃ a80,∃ n80,∃ c80,∃ e80,∃ x81,∃ x82,env=[(1,.ptr a1),(80,.slice a80 n80 c80 e80),(81,.int .i64 x81),(82,.int .i64 x82)]∧R12 a1 a80 n80 c80 e80 x81 x82 h:=by
 unfold E12 at hi
 repeat ((first | (have k:=Zal hi; clear hi; obtain ⟨_,_,e,hi⟩:=k) | (have k:=Zem hi; clear hi; obtain ⟨_,_,_,_,e,hi⟩:=k) | (have k:=Zbf hi; clear hi; obtain ⟨_,e,hi⟩:=k) | (have k:=Zbq hi; clear hi; obtain ⟨_,e,hi⟩:=k)); subst e)
 obtain ⟨rfl,hi⟩:=Zbw hi
 exact ⟨_,_,_,_,_,_,_,rfl,hi⟩
def K0 (Q:QT):KT:=andThen (fun env' h'=>(match kp.find 4000017 with | some ks=>Den pg fn.ntmps (C [1,1,1,1,1,1,1]) (env'.keep ks) h' (KR Q) | none=>den pg fn.ntmps kp (C [1,1,1,1,1,1,1]) env' h' (KR Q))) (KR Q)
def K1 (Q:QT):KT:=Zdm 1 (K0 Q)
def K2 (Q:QT):KT:=left kp 12 (K1 Q)
def K3 (Q:QT) (R12:T12):KT:=rnd ((kp.find 1000012).getD []) (E12 R12) (K2 Q)
def J7 (Q:QT) (a0 a1:Pt) (h:Zaa):Prop:=Den pg fn.ntmps (C [1,1,1]) [(0,.ptr a0),(1,.ptr a1)] h (KR Q)
def J9 (Q:QT) (a0 a1:Pt) (h:Zaa):Prop:=Den pg fn.ntmps (C [1,1,1,1]) [(0,.ptr a0),(1,.ptr a1)] h (KR Q)
def L12 (Q:QT) (a1 a80:Pt) (n80 c80:Nat) (e80:Bool) (x81 x82:Int) (h:Zaa):Prop:=Zga (Den pg fn.ntmps (C [1,1,1,1,1,1,0,1,0,0])) ((kp.find 1000012).getD []) (K2 Q) [(1,.ptr a1),(80,.slice a80 n80 c80 e80),(81,.int .i64 x81),(82,.int .i64 x82)] h
def Yfg (Q:QT) (h:Zaa):Prop:=At (K1 Q) (.exit 1) [(4,.undef)] h
theorem J7i (Q:QT) (a0 a1:Pt) (h:Zaa) (ht :
 Zaw a0 fun A B=>Zep (Zaj h (.ptr (A,B + 0))) fun A=>Zad pg Zbx [.str A] h fun A B=>
 Zbs A fun A=>bcase (!A) (Zaw a0 fun A C=>Zaw a1 fun D E=>Zep (Zaj B (.ptr (A,C + 0))) fun F=>Zep (Zaj B (.ptr (D,E + 0))) fun D=>(Zaj B (.ptr (A,C + 0))=Zaj B (.ptr (A,C + 0)))∧bcase (!(decide (F=D))) (Q (.bool false) B) (J9 Q a0 a1 B)) ((Zaj B (.tup [])=Zaj B (.tup []))∧J9 Q a0 a1 B)):J7 Q a0 a1 h:=
 Zbb (kp:=kp) (cast (by kernel_rfl) ht)
theorem J9i (Q:QT) (a0 a1:Pt) (h:Zaa) (ht :
 Zaw a0 fun A B=>xSl (Zaj h (.ptr (A,B + 1))) fun A B C D=>Zaw a0 fun E F=>Zcf (Zbc h (.ptr (E,F + 2)) [.ptr a1]) fun E=>L12 Q a1 A B C D (((B:Nat):Int)) 0 E):J9 Q a0 a1 h:=
 Zbb (kp:=kp) (cast (by kernel_rfl) ht)
def L12t (Q:QT) (R12:T12) (a1 a80:Pt) (n80 c80:Nat) (e80:Bool) (x81 x82:Int) (h:Zaa):Prop:=
 bcase (decide ((x82:Int) < x81)) ((0≤(x82:Int)∧(x82:Int) < (n80:Nat))∧(Zaw a80 fun A B=>Zeu (Zaj h (.ptr (A,B + (Int.toNat x82) * 1))) fun A=>Zaw a1 fun B C=>xSl (Zaj h (.ptr (B,C + 1))) fun B C D D=>(0≤(x82:Int)∧(x82:Int) < (C:Nat))∧(Zaw B fun B C=>Zeu (Zaj h (.ptr (B,C + (Int.toNat x82) * 1))) fun B=>Zad pg Zhb [.ptr A,.ptr B] h fun A B=>
 Zbs A fun A=>bcase (!A) (Q (.bool false) B) (R12 a1 a80 n80 c80 e80 x81 (IntKind.wrap .i64 (x82 + 1)) B)))) (Yfg Q h)
theorem Yeu (Q:QT) (R12:T12) (a1 a80:Pt) (n80 c80:Nat) (e80:Bool) (x81 x82:Int) (h:Zaa) (ht:L12t Q R12 a1 a80 n80 c80 e80 x81 x82 h):Den pg fn.ntmps (C [1,1,1,1,1,1,0,1,0,0]) [(1,.ptr a1),(80,.slice a80 n80 c80 e80),(81,.int .i64 x81),(82,.int .i64 x82)] h (K3 Q R12):=
 Zbb (kp:=kp) (cast (by kernel_rfl) ht)
theorem L12ind (Q:QT) (a1 a80:Pt) (n80 c80:Nat) (e80:Bool) (x81:Int) {G:Type} (J:G→Int→Zaa→Prop) (m:G→Nat)
 (hr:∀ (g:G) (x82:Int) (h:Zaa),J g x82 h→∀ (R12:T12),(∀ g' (x82:Int) (h:Zaa),m g' < m g→J g' x82 h→R12 a1 a80 n80 c80 e80 x81 x82 h)→L12t Q R12 a1 a80 n80 c80 e80 x81 x82 h)
 (g:G) (x82:Int) (h:Zaa) (hj:J g x82 h):L12 Q a1 a80 n80 c80 e80 x81 x82 h:=by
 let P:=fun (K:Int→Zaa→Prop) a1' a80' n80' c80' e80' x81' x82 h=>a1=a1'∧a80=a80'∧n80=n80'∧c80=c80'∧e80=e80'∧x81=x81'∧K x82 h
 refine Zga.inv2 (fun g=>E12 (P (J g))) (fun g=>E12 (P fun x82 h=>∃ g',m g' < m g∧J g' x82 h)) m ?_ ?_ g ⟨rfl,rfl,rfl,rfl,rfl,rfl,hj⟩
 ·intro g env h hi
  obtain ⟨a1',a80',n80',c80',e80',x81',x82,rfl,rfl,rfl,rfl,rfl,rfl,rfl,hj⟩:=Zxb hi
  exact Yeu Q _ a1 a80 n80 c80 e80 x81 x82 h (hr g x82 h hj (P fun x82 h=>∃ g',m g' < m g∧J g' x82 h) fun g' x82 h hlt hj=>⟨rfl,rfl,rfl,rfl,rfl,rfl,g',hlt,hj⟩)
 ·intro g env h hi
  obtain ⟨a1',a80',n80',c80',e80',x81',x82,rfl,rfl,rfl,rfl,rfl,rfl,rfl,g',hlt,hj⟩:=Zxb hi
  exact ⟨g',hlt,rfl,rfl,rfl,rfl,rfl,rfl,hj⟩
theorem A12x1i (Q:QT) (h:Zaa) (ht :
 Q (.bool true) h):Yfg Q h:=
 At.mk (cast (by kernel_rfl) ht)
theorem call (a0 a1:Pt) (h:Zaa) (Q:QT) (ht :
 Zad pg Zcu [.ptr a0] h fun A B=>
 Zeu A fun A=>Zad pg Zcu [.ptr a1] B fun B C=>
 Zeu B fun B=>Zkl C A B fun D=>bcase D (Q (.bool true) C) (Zaw A fun D E=>Zep (Zaj C (.ptr (D,E + 0))) fun D=>Zad pg Zbx [.str D] C fun C D=>
 Zbs C fun C=>bcase C (Zaw B fun C E=>Zep (Zaj D (.ptr (C,E + 0))) fun C=>Zad pg Zbx [.str C] D fun C E=>
 Zbs C fun C=>bcase C (Zaw A fun C F=>Zaw B fun G H=>Zep (Zaj E (.ptr (C,F + 0))) fun I=>Zep (Zaj E (.ptr (G,H + 0))) fun G=>(Zaj E (.ptr (C,F + 0))=Zaj E (.ptr (C,F + 0)))∧bcase (!(Zfy I G || decide (I=G))) (bcase (!(Zfy I G || decide (I=G))) (J7 Q B A E) (J7 Q A B E)) (Zaw A fun C F=>Zep (Zaj E (.ptr (C,F + 0))) fun C=>Zad pg Zbx [.str C] E fun C F=>
 Zbs C fun C=>bcase (!C) (Zaw B fun C G=>Zep (Zaj F (.ptr (C,G + 0))) fun C=>Zad pg Zbx [.str C] F fun C G=>
 Zbs C fun C=>bcase C (J7 Q B A G) (J7 Q A B G)) (J7 Q A B F))) ((Zaj E (.tup [])=Zaj E (.tup []))∧Zaw A fun C F=>Zep (Zaj E (.ptr (C,F + 0))) fun C=>Zad pg Zbx [.str C] E fun C E=>
 Zbs C fun C=>bcase (!C) (Zaw B fun C F=>Zep (Zaj E (.ptr (C,F + 0))) fun C=>Zad pg Zbx [.str C] E fun C F=>
 Zbs C fun C=>bcase C (J7 Q B A F) (J7 Q A B F)) (J7 Q A B E))) ((Zaj D (.tup [])=Zaj D (.tup []))∧Zaw A fun C E=>Zep (Zaj D (.ptr (C,E + 0))) fun C=>Zad pg Zbx [.str C] D fun C D=>
 Zbs C fun C=>bcase (!C) (Zaw B fun C E=>Zep (Zaj D (.ptr (C,E + 0))) fun C=>Zad pg Zbx [.str C] D fun C E=>
 Zbs C fun C=>bcase C (J7 Q B A E) (J7 Q A B E)) (J7 Q A B D)))):Zad pg Zhb [.ptr a0,.ptr a1] h Q:=
 Zad.of_body kp (c:=cod fn) (fn:=fn) Go.Proofs.Try.func56 (by kernel_rfl) (by kernel_rfl) (Nat.le_of_ble_eq_true (by kernel_rfl))
  (cast (by kernel_rfl) ht)
end Zde
end Go.Sim
