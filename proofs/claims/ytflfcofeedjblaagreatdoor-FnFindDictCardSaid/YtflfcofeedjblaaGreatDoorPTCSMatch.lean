/- A part of the proof of a statement of this seat: see the text that holds the theorem. No condition. -/
import Derived.Test.YtflfcofeedjblaaGreatDoorNm
set_option linter.unusedVariables false
set_option linter.unusedSimpArgs false
set_option linter.all false
set_option maxRecDepth 100000
set_option linter.unusedVariables false
namespace Go.Sim
open Go Go.RowKit
namespace Zje
noncomputable abbrev fn:Func:=Go.Proofs.Tryz.f88
def kp:Zco:=[(3000002,[4]),(1000002,[0,1,5])]
noncomputable def C (p:List Nat):Code:=(cod fn).sub p
def KR (Q:QT):KT:=Zfd pg fn.results.toList Q
abbrev T2:=List Nat→Int→Int→Zaa→Prop
def E2 (R2:T2) (env:Env) (h:Zaa):Prop:=Zce 0 env fun v env=>Zbc v fun x0=>Zce 1 env fun v env=>Zew .u8 v fun x1=>Zce 5 env fun v env=>Zew .i64 v fun x5=>Zls env (R2 x0 x1 x5 h)
theorem Zfj {R2:T2} {env:Env} {h:Zaa} (hi:E2 R2 env h):∃ x0,∃ x1,∃ x5,env=[(0,.str x0),(1,.int .u8 x1),(5,.int .i64 x5)]∧R2 x0 x1 x5 h:=by
 unfold E2 at hi
 repeat ((first | (have k:=Zan hi; clear hi; obtain ⟨_,_,e,hi⟩:=k) | (have k:=Zfc hi; clear hi; obtain ⟨_,e,hi⟩:=k) | (have k:=Zay hi; clear hi; obtain ⟨_,e,hi⟩:=k)); subst e)
 obtain ⟨rfl,hi⟩:=Zbw hi
 exact ⟨_,_,_,rfl,hi⟩
def K0 (Q:QT):KT:=andThen (fun env' h'=>(match kp.find 4000006 with | some ks=>Den pg fn.ntmps (C [1,1]) (env'.keep ks) h' (KR Q) | none=>den pg fn.ntmps kp (C [1,1]) env' h' (KR Q))) (KR Q)
def K1 (Q:QT):KT:=Zde 0 (K0 Q)
def K2 (Q:QT):KT:=left kp 2 (K1 Q)
def K3 (Q:QT) (R2:T2):KT:=rnd ((kp.find 1000002).getD []) (E2 R2) (K2 Q)
def L2 (Q:QT) (x0:List Nat) (x1 x5:Int) (h:Zaa):Prop:=Zff (Den pg fn.ntmps (C [1,0,1,0,0])) ((kp.find 1000002).getD []) (K2 Q) [(0,.str x0),(1,.int .u8 x1),(5,.int .i64 x5)] h
def Zrj (Q:QT) (h:Zaa):Prop:=At (K1 Q) (.exit 0) [(4,.undef)] h
def L2t (Q:QT) (R2:T2) (x0:List Nat) (x1 x5:Int) (h:Zaa):Prop:=
 bcase (decide ((x5:Int) < (((List.length x0:Nat):Int)))) (Zkq x0 x5 fun A=>bcase ((((A:Nat):Int):Int) == x1) (Q (.int .i64 x5) h) (R2 x0 x1 (IntKind.wrap .i64 (x5 + 1)) h)) (Zrj Q h)
theorem Zno (Q:QT) (R2:T2) (x0:List Nat) (x1 x5:Int) (h:Zaa) (ht:L2t Q R2 x0 x1 x5 h):Den pg fn.ntmps (C [1,0,1,0,0]) [(0,.str x0),(1,.int .u8 x1),(5,.int .i64 x5)] h (K3 Q R2):=
 Zbf (kp:=kp) (cast (by kernel_rfl) ht)
theorem L2ind (Q:QT) (x0:List Nat) (x1:Int) {G:Type} (J:G→Int→Zaa→Prop) (m:G→Nat)
 (hr:∀ (g:G) (x5:Int) (h:Zaa),J g x5 h→∀ (R2:T2),(∀ g' (x5:Int) (h:Zaa),m g' < m g→J g' x5 h→R2 x0 x1 x5 h)→L2t Q R2 x0 x1 x5 h)
 (g:G) (x5:Int) (h:Zaa) (hj:J g x5 h):L2 Q x0 x1 x5 h:=by
 let P:=fun (K:Int→Zaa→Prop) x0' x1' x5 h=>x0=x0'∧x1=x1'∧K x5 h
 refine Zff.inv2 (fun g=>E2 (P (J g))) (fun g=>E2 (P fun x5 h=>∃ g',m g' < m g∧J g' x5 h)) m ?_ ?_ g ⟨rfl,rfl,hj⟩
 ·intro g env h hi
  obtain ⟨x0',x1',x5,rfl,rfl,rfl,hj⟩:=Zfj hi
  exact Zno Q _ x0 x1 x5 h (hr g x5 h hj (P fun x5 h=>∃ g',m g' < m g∧J g' x5 h) fun g' x5 h hlt hj=>⟨rfl,rfl,g',hlt,hj⟩)
 ·intro g env h hi
  obtain ⟨x0',x1',x5,rfl,rfl,rfl,g',hlt,hj⟩:=Zfj hi
  exact ⟨g',hlt,rfl,rfl,hj⟩
theorem A2x0i (Q:QT) (h:Zaa) (ht :
 Q (.int .i64 (-1)) h):Zrj Q h:=
 At.mk (cast (by kernel_rfl) ht)
theorem call (x0:List Nat) (x1:Int) (h:Zaa) (Q:QT) (ht :
 L2 Q x0 x1 0 h):Zaj pg Zho [.str x0,.int .u8 x1] h Q:=
 Zaj.of_body kp (c:=cod fn) (fn:=fn) Go.Proofs.Tryz.func88 (by kernel_rfl) (by kernel_rfl) (Nat.le_of_ble_eq_true (by kernel_rfl))
  (cast (by kernel_rfl) ht)
end Zje
namespace Zot
noncomputable abbrev fn:Func:=Go.Proofs.Tryz.f148
def kp:Zco:=[(4000008,[])]
noncomputable def C (p:List Nat):Code:=(cod fn).sub p
def KR (Q:QT):KT:=Zfd pg fn.results.toList Q
def J8 (Q:QT) (h:Zaa):Prop:=Den pg fn.ntmps (C [1,1]) [] h (KR Q)
theorem J8i (Q:QT) (h:Zaa) (ht :
 Q (.int .i64 0) h):J8 Q h:=
 Zbf (kp:=kp) (cast (by kernel_rfl) ht)
theorem call (x0:Int) (h:Zaa) (Q:QT) (ht :
 Zaj pg Zho [.str ([105,98,117,108,109,112,120,121,122,88,89,90]),.int .u8 x0] h fun A B=>
 Zdt .i64 A fun A=>bcase (decide ((A:Int) < 0)) (Q (.int .i64 (-1)) B) (bcase ((A:Int) == 3) (Q (.int .i64 1) B) (bcase ((A:Int) == 4) (Q (.int .i64 1) B) (bcase ((A:Int) == 5) (Q (.int .i64 2) B) (J8 Q B))))):Zaj pg Zlo [.int .u8 x0] h Q:=
 Zaj.of_body kp (c:=cod fn) (fn:=fn) Go.Proofs.Tryz.func148 (by kernel_rfl) (by kernel_rfl) (Nat.le_of_ble_eq_true (by kernel_rfl))
  (cast (by kernel_rfl) ht)
end Zot
namespace Zms
noncomputable abbrev fn:Func:=Go.Proofs.Tryz.f147
def kp:Zco:=[(2000001,[12,0]),(2000005,[2])]
noncomputable def C (p:List Nat):Code:=(cod fn).sub p
def KR (Q:QT):KT:=Zfd pg fn.results.toList Q
theorem call (a0:Pt) (h:Zaa) (Q:QT) (ht :
 Zbg a0 fun A B=>Zbg a0 fun C D=>Zdt .i64 (Zae h (.ptr (A,B + 1))) fun E=>Zbc (Zae h (.ptr (C,D + 0))) fun C=>(Zae h (.ptr (A,B + 1))=Zae h (.ptr (A,B + 1)))∧bcase (decide ((E:Int) ≥ (((List.length C:Nat):Int)))) (Zbg a0 fun A B=>Zbn (Zaz h (.ptr (A,B + 2)) [.bool true]) fun A=>Q (.int .u8 0) A) (Zbg a0 fun A B=>Zdt .i64 (Zae h (.ptr (A,B + 1))) fun A=>Zbg a0 fun B C=>Zbn (Zaz h (.ptr (B,C + 1)) [.int .i64 (IntKind.wrap .i64 (A + 1))]) fun A=>Zbg a0 fun B C=>Zbg a0 fun D E=>Zbc (Zae A (.ptr (B,C + 0))) fun F=>Zdt .i64 (Zae A (.ptr (D,E + 1))) fun D=>(Zae A (.ptr (B,C + 0))=Zae A (.ptr (B,C + 0)))∧Zkq F (IntKind.wrap .i64 (D - 1)) fun B=>Q (.int .u8 (((B:Nat):Int))) A)):Zaj pg Zfr [.ptr a0] h Q:=
 Zaj.of_body kp (c:=cod fn) (fn:=fn) Go.Proofs.Tryz.func147 (by kernel_rfl) (by kernel_rfl) (Nat.le_of_ble_eq_true (by kernel_rfl))
  (cast (by kernel_rfl) ht)
end Zms
namespace Zbp
noncomputable abbrev fn:Func:=Go.Proofs.Tryz.f130
def kp:Zco:=[(4000004,[0,2,3,4]),(3000005,[4,0,3,2]),(1000005,[0,2,3,4,5]),(4000007,[0,5,3,4,2]),(2000007,[0,3,5,4,2]),(4000008,[0,3,5,4,2]),(2000009,[5,4,0,3,2]),(4000006,[5,4,0,3,2]),(4000012,[3,2])]
noncomputable def C (p:List Nat):Code:=(cod fn).sub p
def KR (Q:QT):KT:=Zfd pg fn.results.toList Q
abbrev T5:=Pt→Nat→Nat→Nat→Nat→Int→Int→Zaa→Prop
def E5 (R5:T5) (env:Env) (h:Zaa):Prop:=Zce 0 env fun v env=>Zgm v fun a0=>Zce 2 env fun v env=>Zgm v fun a=>Zbg a fun i2 o2=>Zce 3 env fun v env=>Zgm v fun a=>Zbg a fun i3 o3=>Zce 4 env fun v env=>Zew .i64 v fun x4=>Zce 5 env fun v env=>Zew .i64 v fun x5=>Zls env (R5 a0 i2 o2 i3 o3 x4 x5 h)
theorem Zom {R5:T5} {env:Env} {h:Zaa} (hi:E5 R5 env h):∃ a0,∃ i2,∃ o2,∃ i3,∃ o3,∃ x4,∃ x5,env=[(0,.ptr a0),(2,.ptr (i2,o2)),(3,.ptr (i3,o3)),(4,.int .i64 x4),(5,.int .i64 x5)]∧R5 a0 i2 o2 i3 o3 x4 x5 h:=by
 unfold E5 at hi
 have hi0:=hi
 clear hi
 obtain ⟨_,_,rfl,hi1⟩:=Zan hi0
 obtain ⟨a0,rfl,hi2⟩:=Zbv hi1
 obtain ⟨_,_,rfl,hi3⟩:=Zan hi2
 obtain ⟨a,rfl,hi4⟩:=Zbv hi3
 obtain ⟨i2,o2,rfl,hi5⟩:=Zbr hi4
 obtain ⟨_,_,rfl,hi6⟩:=Zan hi5
 obtain ⟨a,rfl,hi7⟩:=Zbv hi6
 obtain ⟨i3,o3,rfl,hi8⟩:=Zbr hi7
 obtain ⟨_,_,rfl,hi9⟩:=Zan hi8
 obtain ⟨x4,rfl,hi10⟩:=Zay hi9
 obtain ⟨_,_,rfl,hi11⟩:=Zan hi10
 obtain ⟨x5,rfl,hi12⟩:=Zay hi11
 obtain ⟨rfl,hi13⟩:=Zbw hi12
 have hi:=hi13
 exact ⟨a0,i2,o2,i3,o3,x4,x5,rfl,hi⟩
def K0 (Q:QT):KT:=andThen (fun env' h'=>(match kp.find 4000010 with | some ks=>Den pg fn.ntmps (C [1,1,1,1,1]) (env'.keep ks) h' (KR Q) | none=>den pg fn.ntmps kp (C [1,1,1,1,1]) env' h' (KR Q))) (KR Q)
def K1 (Q:QT):KT:=Zde 0 (K0 Q)
def K2 (Q:QT):KT:=left kp 5 (K1 Q)
def K3 (Q:QT) (R5:T5):KT:=rnd ((kp.find 1000005).getD []) (E5 R5) (K2 Q)
def K4 (Q:QT) (R5:T5):KT:=andThen (fun env' h'=>(match kp.find 4000006 with | some ks=>Den pg fn.ntmps (C [1,1,1,1,0,1,0,0,1,1]) (env'.keep ks) h' (K3 Q R5) | none=>den pg fn.ntmps kp (C [1,1,1,1,0,1,0,0,1,1]) env' h' (K3 Q R5))) (K3 Q R5)
def K5 (Q:QT) (R5:T5):KT:=Zde 1 (K4 Q R5)
def J4 (Q:QT) (a0:Pt) (i2 o2 i3 o3:Nat) (x4:Int) (h:Zaa):Prop:=Den pg fn.ntmps (C [1,1,1,1]) [(0,.ptr a0),(2,.ptr (i2,o2)),(3,.ptr (i3,o3)),(4,.int .i64 x4)] h (KR Q)
def L5 (Q:QT) (a0:Pt) (i2 o2 i3 o3:Nat) (x4 x5:Int) (h:Zaa):Prop:=Zff (Den pg fn.ntmps (C [1,1,1,1,0,1,0,0])) ((kp.find 1000005).getD []) (K2 Q) [(0,.ptr a0),(2,.ptr (i2,o2)),(3,.ptr (i3,o3)),(4,.int .i64 x4),(5,.int .i64 x5)] h
def J7 (Q:QT) (R5:T5) (a0:Pt) (x5:Int) (i3 o3:Nat) (x4:Int) (i2 o2:Nat) (h:Zaa):Prop:=Den pg fn.ntmps (C [1,1,1,1,0,1,0,0,1]) [(0,.ptr a0),(5,.int .i64 x5),(3,.ptr (i3,o3)),(4,.int .i64 x4),(2,.ptr (i2,o2))] h (K3 Q R5)
def A5x0 (Q:QT) (x4:Int) (a0:Pt) (i3 o3 i2 o2:Nat) (h:Zaa):Prop:=At (K1 Q) (.exit 0) [(4,.int .i64 x4),(0,.ptr a0),(3,.ptr (i3,o3)),(2,.ptr (i2,o2))] h
def J8 (Q:QT) (R5:T5) (a0:Pt) (i3 o3:Nat) (x5 x4:Int) (i2 o2:Nat) (h:Zaa):Prop:=Den pg fn.ntmps (C [1,1,1,1,0,1,0,0,1,0,0,1]) [(0,.ptr a0),(3,.ptr (i3,o3)),(5,.int .i64 x5),(4,.int .i64 x4),(2,.ptr (i2,o2))] h (K5 Q R5)
def J12 (Q:QT) (i3 o3 i2 o2:Nat) (h:Zaa):Prop:=Den pg fn.ntmps (C [1,1,1,1,1,1]) [(3,.ptr (i3,o3)),(2,.ptr (i2,o2))] h (KR Q)
def J6 (Q:QT) (R5:T5) (x5 x4:Int) (a0:Pt) (i3 o3 i2 o2:Nat) (h:Zaa):Prop:=Den pg fn.ntmps (C [1,1,1,1,0,1,0,0,1,1]) [(5,.int .i64 x5),(4,.int .i64 x4),(0,.ptr a0),(3,.ptr (i3,o3)),(2,.ptr (i2,o2))] h (K3 Q R5)
theorem J4i (Q:QT) (a0:Pt) (i2 o2 i3 o3:Nat) (x4:Int) (h:Zaa) (ht :
 L5 Q a0 i2 o2 i3 o3 x4 0 h):J4 Q a0 i2 o2 i3 o3 x4 h:=
 Zbf (kp:=kp) (cast (by kernel_rfl) ht)
def L5t (Q:QT) (R5:T5) (a0:Pt) (i2 o2 i3 o3:Nat) (x4 x5:Int) (h:Zaa):Prop:=
 bcase (decide ((x5:Int) < x4)) (Zbg a0 fun A B=>Zck (Zae h (.ptr (A,B + 2))) fun A=>bcase (!A) (J7 Q R5 a0 x5 i3 o3 x4 i2 o2 h) (A5x0 Q x4 a0 i3 o3 i2 o2 h)) (A5x0 Q x4 a0 i3 o3 i2 o2 h)
theorem Ybi (Q:QT) (R5:T5) (a0:Pt) (i2 o2 i3 o3:Nat) (x4 x5:Int) (h:Zaa) (ht:L5t Q R5 a0 i2 o2 i3 o3 x4 x5 h):Den pg fn.ntmps (C [1,1,1,1,0,1,0,0]) [(0,.ptr a0),(2,.ptr (i2,o2)),(3,.ptr (i3,o3)),(4,.int .i64 x4),(5,.int .i64 x5)] h (K3 Q R5):=
 Zbf (kp:=kp) (cast (by kernel_rfl) ht)
theorem L5ind (Q:QT) (a0:Pt) (i2 o2 i3 o3:Nat) (x4:Int) {G:Type} (J:G→Int→Zaa→Prop) (m:G→Nat)
 (hr:∀ (g:G) (x5:Int) (h:Zaa),J g x5 h→∀ (R5:T5),(∀ g' (x5:Int) (h:Zaa),m g' < m g→J g' x5 h→R5 a0 i2 o2 i3 o3 x4 x5 h)→L5t Q R5 a0 i2 o2 i3 o3 x4 x5 h)
 (g:G) (x5:Int) (h:Zaa) (hj:J g x5 h):L5 Q a0 i2 o2 i3 o3 x4 x5 h:=by
 let P:=fun (K:Int→Zaa→Prop) a0' i2' o2' i3' o3' x4' x5 h=>a0=a0'∧i2=i2'∧o2=o2'∧i3=i3'∧o3=o3'∧x4=x4'∧K x5 h
 refine Zff.inv2 (fun g=>E5 (P (J g))) (fun g=>E5 (P fun x5 h=>∃ g',m g' < m g∧J g' x5 h)) m ?_ ?_ g ⟨rfl,rfl,rfl,rfl,rfl,rfl,hj⟩
 ·intro g env h hi
  obtain ⟨a0',i2',o2',i3',o3',x4',x5,rfl,rfl,rfl,rfl,rfl,rfl,rfl,hj⟩:=Zom hi
  exact Ybi Q _ a0 i2 o2 i3 o3 x4 x5 h (hr g x5 h hj (P fun x5 h=>∃ g',m g' < m g∧J g' x5 h) fun g' x5 h hlt hj=>⟨rfl,rfl,rfl,rfl,rfl,rfl,g',hlt,hj⟩)
 ·intro g env h hi
  obtain ⟨a0',i2',o2',i3',o3',x4',x5,rfl,rfl,rfl,rfl,rfl,rfl,rfl,g',hlt,hj⟩:=Zom hi
  exact ⟨g',hlt,rfl,rfl,rfl,rfl,rfl,rfl,hj⟩
theorem J7i (Q:QT) (R5:T5) (a0:Pt) (x5:Int) (i3 o3:Nat) (x4:Int) (i2 o2:Nat) (h:Zaa) (ht :
 Zkq ([40,44]) x5 fun A=>Zaj pg Zfr [.ptr a0] h fun B C=>
 Zdt .u8 B fun B=>bcase (!((B:Int) == (((A:Nat):Int)))) (Zbg a0 fun A B=>Zbn (Zaz C (.ptr (A,B + 2)) [.bool true]) fun A=>J8 Q R5 a0 i3 o3 x5 x4 i2 o2 A) (Zbg a0 fun A B=>Zck (Zae C (.ptr (A,B + 2))) fun A=>Zbg a0 fun B D=>Zbn (Zaz C (.ptr (B,D + 2)) [.bool A]) fun A=>J8 Q R5 a0 i3 o3 x5 x4 i2 o2 A)):J7 Q R5 a0 x5 i3 o3 x4 i2 o2 h:=
 Zbf (kp:=kp) (cast (by kernel_rfl) ht)
theorem A5x0i (Q:QT) (x4:Int) (a0:Pt) (i3 o3 i2 o2:Nat) (h:Zaa) (ht :
 bcase (decide ((x4:Int) > 0)) (Zbg a0 fun A B=>Zck (Zae h (.ptr (A,B + 2))) fun A=>bcase (!A) (Zaj pg Zfr [.ptr a0] h fun A B=>
 Zdt .u8 A fun A=>bcase (!((A:Int) == 41)) (Zbg a0 fun A C=>Zbn (Zaz B (.ptr (A,C + 2)) [.bool true]) fun A=>J12 Q i3 o3 i2 o2 A) (Zbg a0 fun A C=>Zck (Zae B (.ptr (A,C + 2))) fun A=>Zbg a0 fun C D=>Zbn (Zaz B (.ptr (C,D + 2)) [.bool A]) fun A=>J12 Q i3 o3 i2 o2 A)) (J12 Q i3 o3 i2 o2 h)) (J12 Q i3 o3 i2 o2 h)):A5x0 Q x4 a0 i3 o3 i2 o2 h:=
 At.mk (cast (by kernel_rfl) ht)
theorem J8i (Q:QT) (R5:T5) (a0:Pt) (i3 o3:Nat) (x5 x4:Int) (i2 o2:Nat) (h:Zaa) (ht :
 Zbg a0 fun A B=>Zck (Zae h (.ptr (A,B + 2))) fun A=>bcase (!A) (xSl (Zae h (.ptr (i3,o3 + 1))) fun A B C D=>Zaj pg Zfa [.ptr a0] h fun E F=>
 Zob E fun E=>Zai E fun E G=>Zdt .u8 E fun E=>Zai G fun G H=>xSl G fun G I J K=>Zbu H ((Zae F (.ptr (i3,o3 + 1))=Zae h (.ptr (i3,o3 + 1)))∧Zch (F ++ [.cells Zak [.int .u8 E,.slice G I J K] false]) fun E=>(Zae E (.ptr (i3,o3 + 1))=Zae F (.ptr (i3,o3 + 1)))∧Zcf pg Zkl E (.slice A B C D) (.slice (F.length,0) 1 1 true) fun A B=>xSl A fun A C D E=>Zbn (Zaz B (.ptr (i3,o3 + 1)) [.slice A C D E]) fun A=>J6 Q R5 x5 x4 a0 i3 o3 i2 o2 A)) (J6 Q R5 x5 x4 a0 i3 o3 i2 o2 h)):J8 Q R5 a0 i3 o3 x5 x4 i2 o2 h:=
 Zbf (kp:=kp) (cast (by kernel_rfl) ht)
theorem J12i (Q:QT) (i3 o3 i2 o2:Nat) (h:Zaa) (ht :
 Zcn (Zbj h (.ptr (i3,o3)) 2) fun A=>Zai A fun A B=>Zdt .u8 A fun A=>Zai B fun B C=>xSl B fun B D E F=>Zbu C (Zbn (Zaz h (.ptr (i2,o2)) [.int .u8 A,.slice B D E F]) fun A=>Zcn (Zbj A (.ptr (i2,o2)) 2) fun B=>Zai B fun B C=>Zdt .u8 B fun B=>Zai C fun C D=>xSl C fun C E F G=>Zbu D (Q (.agg [.int .u8 B,.slice C E F G]) A))):J12 Q i3 o3 i2 o2 h:=
 Zbf (kp:=kp) (cast (by kernel_rfl) ht)
theorem J6i (Q:QT) (R5:T5) (x5 x4:Int) (a0:Pt) (i3 o3 i2 o2:Nat) (h:Zaa) (ht :
 R5 a0 i2 o2 i3 o3 x4 (IntKind.wrap .i64 (x5 + 1)) h):J6 Q R5 x5 x4 a0 i3 o3 i2 o2 h:=
 Zbf (kp:=kp) (cast (by kernel_rfl) ht)
theorem call (a0:Pt) (h:Zaa) (Q:QT) (ht :
 Zch (h ++ [.cells Zak [.int .u8 0,.slice none 0 0 true] false]) fun A=>Zaj pg Zfr [.ptr a0] A fun A B=>
 Zdt .u8 A fun A=>Zch (B ++ [.cells Zak [] false]) fun C=>Zch (C ++ [.cells Zak [.int .u8 0,.slice none 0 0 true] false]) fun D=>Zbn (Zaz D (.ptr (C.length,0)) [.int .u8 A,.slice (B.length,0) 0 0 true]) fun A=>Zdt .u8 (Zae A (.ptr (C.length,0 + 0))) fun B=>Zaj pg Zlo [.int .u8 B] A fun A B=>
 Zdt .i64 A fun A=>Zbg a0 fun D E=>Zck (Zae B (.ptr (D,E + 2))) fun D=>bcase D (Zbg a0 fun D E=>Zbn (Zaz B (.ptr (D,E + 2)) [.bool true]) fun D=>J4 Q a0 h.length 0 C.length 0 A D) (Zbg a0 fun D E=>Zbn (Zaz B (.ptr (D,E + 2)) [.bool (decide ((A:Int) < 0))]) fun B=>J4 Q a0 h.length 0 C.length 0 A B)):Zaj pg Zfa [.ptr a0] h Q:=
 Zaj.of_body kp (c:=cod fn) (fn:=fn) Go.Proofs.Tryz.func130 (by kernel_rfl) (by kernel_rfl) (Nat.le_of_ble_eq_true (by kernel_rfl))
  (cast (by kernel_rfl) ht)
end Zbp
namespace Zps
noncomputable abbrev fn:Func:=Go.Proofs.Tryz.f107
def kp:Zco:=[(4000005,[5,2])]
noncomputable def C (p:List Nat):Code:=(cod fn).sub p
def KR (Q:QT):KT:=Zfd pg fn.results.toList Q
def J5 (Q:QT) (i5 o5 i2 o2:Nat) (h:Zaa):Prop:=Den pg fn.ntmps (C [1,1,1,1]) [(5,.ptr (i5,o5)),(2,.ptr (i2,o2))] h (KR Q)
theorem J5i (Q:QT) (i5 o5 i2 o2:Nat) (h:Zaa) (ht :
 Zcn (Zbj h (.ptr (i5,o5)) 2) fun A=>Zai A fun A B=>Zdt .u8 A fun A=>Zai B fun B C=>xSl B fun B D E F=>Zbu C (Zbn (Zaz h (.ptr (i2,o2)) [.int .u8 A,.slice B D E F]) fun A=>Zcn (Zbj A (.ptr (i2,o2)) 2) fun B=>Zai B fun B C=>Zdt .u8 B fun B=>Zai C fun C D=>xSl C fun C E F G=>Zbu D (Q (.tup [.agg [.int .u8 B,.slice C E F G],.bool true]) A))):J5 Q i5 o5 i2 o2 h:=
 Zbf (kp:=kp) (cast (by kernel_rfl) ht)
theorem call (x0:List Nat) (h:Zaa) (Q:QT) (ht :
 Zch (h ++ [.cells Zak [.int .u8 0,.slice none 0 0 true] false]) fun A=>Zch (A ++ [.cells Zdx [.str x0,.int .i64 0,.bool false] false]) fun B=>Zaj pg Zfa [.ptr (A.length,0)] B fun B C=>
 Zob B fun B=>Zai B fun B D=>Zdt .u8 B fun B=>Zai D fun D E=>xSl D fun D F G H=>Zbu E (Zch (C ++ [.cells Zak [.int .u8 0,.slice none 0 0 true] false]) fun E=>Zbn (Zaz E (.ptr (C.length,0)) [.int .u8 B,.slice D F G H]) fun B=>Zck (Zae B (.ptr (A.length,0 + 2))) fun D=>bcase D (Zbn (Zaz B (.ptr (h.length,0)) [.int .u8 0,.slice none 0 0 true]) fun D=>Zcn (Zbj D (.ptr (h.length,0)) 2) fun E=>Zai E fun E F=>Zdt .u8 E fun E=>Zai F fun F G=>xSl F fun F H I J=>Zbu G (Q (.tup [.agg [.int .u8 E,.slice F H I J],.bool false]) D)) (Zdt .i64 (Zae B (.ptr (A.length,0 + 1))) fun A=>bcase (!((A:Int) == (((List.length x0:Nat):Int)))) (Zbn (Zaz B (.ptr (h.length,0)) [.int .u8 0,.slice none 0 0 true]) fun A=>Zcn (Zbj A (.ptr (h.length,0)) 2) fun D=>Zai D fun D E=>Zdt .u8 D fun D=>Zai E fun E F=>xSl E fun E G H I=>Zbu F (Q (.tup [.agg [.int .u8 D,.slice E G H I],.bool false]) A)) (bcase (decide (((((List.length x0:Nat):Int)):Int) > 60)) (Zbn (Zaz B (.ptr (h.length,0)) [.int .u8 0,.slice none 0 0 true]) fun A=>Zcn (Zbj A (.ptr (h.length,0)) 2) fun D=>Zai D fun D E=>Zdt .u8 D fun D=>Zai E fun E F=>xSl E fun E G H I=>Zbu F (Q (.tup [.agg [.int .u8 D,.slice E G H I],.bool false]) A)) (J5 Q C.length 0 h.length 0 B))))):Zaj pg Zfw [.str x0] h Q:=
 Zaj.of_body kp (c:=cod fn) (fn:=fn) Go.Proofs.Tryz.func107 (by kernel_rfl) (by kernel_rfl) (Nat.le_of_ble_eq_true (by kernel_rfl))
  (cast (by kernel_rfl) ht)
end Zps
namespace Zqy
noncomputable abbrev fn:Func:=Go.Proofs.Tryz.f96
def kp:Zco:=[]
noncomputable def C (p:List Nat):Code:=(cod fn).sub p
def KR (Q:QT):KT:=Zfd pg fn.results.toList Q
theorem call (x0:List Nat) (h:Zaa) (Q:QT) (ht :
 Zaj pg Zfw [.str x0] h fun A B=>
 Zjx A fun A=>Zai A fun A C=>Zob A fun A=>Zai A fun A D=>Zdt .u8 A fun A=>Zai D fun D E=>xSl D fun D F G H=>Zbu E (Zai C fun C E=>Zck C fun C=>Zbu E (Zch (B ++ [.cells Zak [.int .u8 0,.slice none 0 0 true] false]) fun E=>Zbn (Zaz E (.ptr (B.length,0)) [.int .u8 A,.slice D F G H]) fun A=>Q (.bool C) A))):Zaj pg Zfb [.str x0] h Q:=
 Zaj.of_body kp (c:=cod fn) (fn:=fn) Go.Proofs.Tryz.func96 (by kernel_rfl) (by kernel_rfl) (Nat.le_of_ble_eq_true (by kernel_rfl))
  (cast (by kernel_rfl) ht)
end Zqy
end Go.Sim

set_option maxRecDepth 100000
set_option linter.unusedVariables false
namespace Go.Sim
open Go Go.RowKit
namespace Zra
noncomputable abbrev fn:Func:=Go.Proofs.Tryz.f143
def kp:Zco:=[(4000009,[])]
noncomputable def C (p:List Nat):Code:=(cod fn).sub p
def KR (Q:QT):KT:=Zfd pg fn.results.toList Q
def J9 (Q:QT) (h:Zaa):Prop:=Den pg fn.ntmps (C [1,1]) [] h (KR Q)
theorem J9i (Q:QT) (h:Zaa) (ht :
 Q (.int .i64 (-1)) h):J9 Q h:=
 Zbf (kp:=kp) (cast (by kernel_rfl) ht)
theorem call (x0:List Nat) (h:Zaa) (Q:QT) (ht :
 bcase (!((((List.length x0:Nat):Int):Int) == 1)) (Q (.int .i64 (-1)) h) (Zaj pg Zgi [.str ([105,98,117,120,121,122,88,89,90]),.str x0] h fun A B=>
 Zck A fun A=>bcase A (Q (.int .i64 0) B) (bcase (decide (x0=[108])) (Q (.int .i64 1) B) (bcase (decide (x0=[109])) (Q (.int .i64 1) B) (bcase (decide (x0=[112])) (Q (.int .i64 2) B) (J9 Q B)))))):Zaj pg Zon [.str x0] h Q:=
 Zaj.of_body kp (c:=cod fn) (fn:=fn) Go.Proofs.Tryz.func143 (by kernel_rfl) (by kernel_rfl) (Nat.le_of_ble_eq_true (by kernel_rfl))
  (cast (by kernel_rfl) ht)
end Zra
namespace Zex
noncomputable abbrev fn:Func:=Go.Proofs.Tryz.f123
def kp:Zco:=[(4000003,[0]),(3000006,[4,0,2,3]),(1000006,[0,4,27,28]),(4000020,[4,0])]
noncomputable def C (p:List Nat):Code:=(cod fn).sub p
def KR (Q:QT):KT:=Zfd pg fn.results.toList Q
abbrev T6:=List Nat→Nat→Nat→Int→Int→Zaa→Prop
def E6 (R6:T6) (env:Env) (h:Zaa):Prop:=Zce 0 env fun v env=>Zbc v fun x0=>Zce 4 env fun v env=>Zgm v fun a=>Zbg a fun i4 o4=>Zce 27 env fun v env=>Zew .i64 v fun x27=>Zce 28 env fun v env=>Zew .i64 v fun x28=>Zls env (R6 x0 i4 o4 x27 x28 h)
theorem Zma {R6:T6} {env:Env} {h:Zaa} (hi:E6 R6 env h):∃ x0,∃ i4,∃ o4,∃ x27,∃ x28,env=[(0,.str x0),(4,.ptr (i4,o4)),(27,.int .i64 x27),(28,.int .i64 x28)]∧R6 x0 i4 o4 x27 x28 h:=by
 unfold E6 at hi
 have hi0:=hi
 clear hi
 obtain ⟨_,_,rfl,hi1⟩:=Zan hi0
 obtain ⟨x0,rfl,hi2⟩:=Zfc hi1
 obtain ⟨_,_,rfl,hi3⟩:=Zan hi2
 obtain ⟨a,rfl,hi4⟩:=Zbv hi3
 obtain ⟨i4,o4,rfl,hi5⟩:=Zbr hi4
 obtain ⟨_,_,rfl,hi6⟩:=Zan hi5
 obtain ⟨x27,rfl,hi7⟩:=Zay hi6
 obtain ⟨_,_,rfl,hi8⟩:=Zan hi7
 obtain ⟨x28,rfl,hi9⟩:=Zay hi8
 obtain ⟨rfl,hi10⟩:=Zbw hi9
 have hi:=hi10
 exact ⟨x0,i4,o4,x27,x28,rfl,hi⟩
def K0 (Q:QT):KT:=andThen (fun env' h'=>(match kp.find 4000016 with | some ks=>Den pg fn.ntmps (C [1,1,1,1,1]) (env'.keep ks) h' (KR Q) | none=>den pg fn.ntmps kp (C [1,1,1,1,1]) env' h' (KR Q))) (KR Q)
def K1 (Q:QT):KT:=Zde 0 (K0 Q)
def K2 (Q:QT):KT:=left kp 6 (K1 Q)
def K3 (Q:QT) (R6:T6):KT:=rnd ((kp.find 1000006).getD []) (E6 R6) (K2 Q)
def J3 (Q:QT) (x0:List Nat) (h:Zaa):Prop:=Den pg fn.ntmps (C [1,1]) [(0,.str x0)] h (KR Q)
def L6 (Q:QT) (x0:List Nat) (i4 o4:Nat) (x27 x28:Int) (h:Zaa):Prop:=Zff (Den pg fn.ntmps (C [1,1,1,1,0,1,0,0])) ((kp.find 1000006).getD []) (K2 Q) [(0,.str x0),(4,.ptr (i4,o4)),(27,.int .i64 x27),(28,.int .i64 x28)] h
def Yck (Q:QT) (i4 o4:Nat) (x0:List Nat) (h:Zaa):Prop:=At (K1 Q) (.exit 0) [(4,.ptr (i4,o4)),(0,.str x0),(2,.undef),(3,.undef)] h
def J20 (Q:QT) (i4 o4:Nat) (x0:List Nat) (h:Zaa):Prop:=Den pg fn.ntmps (C [1,1,1,1,1,1]) [(4,.ptr (i4,o4)),(0,.str x0)] h (KR Q)
theorem J3i (Q:QT) (x0:List Nat) (h:Zaa) (ht :
 (0≤(0:Int)∧(0:Int)≤1∧(1:Int)≤(List.length x0:Nat))∧(Zch (h ++ [.cells Zfh [.str (sub x0 0 1),.slice none 0 0 true,.ptr none] false]) fun A=>(0≤(1:Int)∧(1:Int)≤(List.length x0:Int)∧((List.length x0:Int):Int)≤(List.length x0:Nat))∧(Zbc (Zae A (.ptr (h.length,0 + 0))) fun B=>Zaj pg Zon [.str B] A fun A B=>
 Zdt .i64 A fun A=>L6 Q (sub x0 1 ((List.length x0:Int))) h.length 0 A 0 B))):J3 Q x0 h:=
 Zbf (kp:=kp) (cast (by kernel_rfl) ht)
def L6t (Q:QT) (R6:T6) (x0:List Nat) (i4 o4:Nat) (x27 x28:Int) (h:Zaa):Prop:=
 bcase (decide ((x28:Int) < x27)) ((0≤(x28:Int)∧(x28:Int)≤IntKind.wrap .i64 (x28 + 1)∧(IntKind.wrap .i64 (x28 + 1):Int)≤(List.length ([40,44]):Nat))∧(Zaj pg Zkb [.str x0,.str (sub ([40,44]) x28 (IntKind.wrap .i64 (x28 + 1)))] h fun A B=>
 Zck A fun A=>bcase (!A) (Q (.tup [.ptr none,.str x0]) B) ((0≤(1:Int)∧(1:Int)≤(List.length x0:Int)∧((List.length x0:Int):Int)≤(List.length x0:Nat))∧(Zaj pg Zkk [.str (sub x0 1 ((List.length x0:Int)))] B fun A B=>
 Zjx A fun A=>Zai A fun A C=>Zgm A fun A=>Zai C fun C D=>Zbc C fun C=>Zbu D (bcase (Option.isNone A) (Q (.tup [.ptr none,.str x0]) B) (xSl (Zae B (.ptr (i4,o4 + 1))) fun D E F G=>Zch (B ++ [.cells Zfx [.ptr A] false]) fun A=>Zcf pg Zro A (.slice D E F G) (.slice (B.length,0) 1 1 true) fun A B=>xSl A fun A D E F=>Zbn (Zaz B (.ptr (i4,o4 + 1)) [.slice A D E F]) fun A=>R6 C i4 o4 x27 (IntKind.wrap .i64 (x28 + 1)) A)))))) (Yck Q i4 o4 x0 h)
theorem Zyu (Q:QT) (R6:T6) (x0:List Nat) (i4 o4:Nat) (x27 x28:Int) (h:Zaa) (ht:L6t Q R6 x0 i4 o4 x27 x28 h):Den pg fn.ntmps (C [1,1,1,1,0,1,0,0]) [(0,.str x0),(4,.ptr (i4,o4)),(27,.int .i64 x27),(28,.int .i64 x28)] h (K3 Q R6):=
 Zbf (kp:=kp) (cast (by kernel_rfl) ht)
theorem L6ind (Q:QT) (i4 o4:Nat) (x27:Int) {G:Type} (J:G→List Nat→Int→Zaa→Prop) (m:G→Nat)
 (hr:∀ (g:G) (x0:List Nat) (x28:Int) (h:Zaa),J g x0 x28 h→∀ (R6:T6),(∀ g' (x0:List Nat) (x28:Int) (h:Zaa),m g' < m g→J g' x0 x28 h→R6 x0 i4 o4 x27 x28 h)→L6t Q R6 x0 i4 o4 x27 x28 h)
 (g:G) (x0:List Nat) (x28:Int) (h:Zaa) (hj:J g x0 x28 h):L6 Q x0 i4 o4 x27 x28 h:=by
 let P:=fun (K:List Nat→Int→Zaa→Prop) x0 i4' o4' x27' x28 h=>i4=i4'∧o4=o4'∧x27=x27'∧K x0 x28 h
 refine Zff.inv2 (fun g=>E6 (P (J g))) (fun g=>E6 (P fun x0 x28 h=>∃ g',m g' < m g∧J g' x0 x28 h)) m ?_ ?_ g ⟨rfl,rfl,rfl,hj⟩
 ·intro g env h hi
  obtain ⟨x0,i4',o4',x27',x28,rfl,rfl,rfl,rfl,hj⟩:=Zma hi
  exact Zyu Q _ x0 i4 o4 x27 x28 h (hr g x0 x28 h hj (P fun x0 x28 h=>∃ g',m g' < m g∧J g' x0 x28 h) fun g' x0 x28 h hlt hj=>⟨rfl,rfl,rfl,g',hlt,hj⟩)
 ·intro g env h hi
  obtain ⟨x0,i4',o4',x27',x28,rfl,rfl,rfl,rfl,g',hlt,hj⟩:=Zma hi
  exact ⟨g',hlt,rfl,rfl,rfl,hj⟩
theorem A6x0i (Q:QT) (i4 o4:Nat) (x0:List Nat) (h:Zaa) (ht :
 xSl (Zae h (.ptr (i4,o4 + 1))) fun A A B B=>bcase (decide (((((A:Nat):Int)):Int) > 0)) (Zaj pg Zkb [.str x0,.str [41]] h fun A B=>
 Zck A fun A=>bcase (!A) (Q (.tup [.ptr none,.str x0]) B) ((0≤(1:Int)∧(1:Int)≤(List.length x0:Int)∧((List.length x0:Int):Int)≤(List.length x0:Nat))∧(J20 Q i4 o4 (sub x0 1 ((List.length x0:Int))) B))) (J20 Q i4 o4 x0 h)):Yck Q i4 o4 x0 h:=
 At.mk (cast (by kernel_rfl) ht)
theorem J20i (Q:QT) (i4 o4:Nat) (x0:List Nat) (h:Zaa) (ht :
 Q (.tup [.ptr (i4,o4),.str x0]) h):J20 Q i4 o4 x0 h:=
 Zbf (kp:=kp) (cast (by kernel_rfl) ht)
theorem call (x0:List Nat) (h:Zaa) (Q:QT) (ht :
 bcase (decide (x0=[])) (Q (.tup [.ptr none,.str x0]) h) ((0≤(0:Int)∧(0:Int)≤1∧(1:Int)≤(List.length x0:Nat))∧(Zaj pg Zon [.str (sub x0 0 1)] h fun A B=>
 Zdt .i64 A fun A=>bcase (decide ((A:Int) < 0)) (Q (.tup [.ptr none,.str x0]) B) (J3 Q x0 B)))):Zaj pg Zkk [.str x0] h Q:=
 Zaj.of_body kp (c:=cod fn) (fn:=fn) Go.Proofs.Tryz.func123 (by kernel_rfl) (by kernel_rfl) (Nat.le_of_ble_eq_true (by kernel_rfl))
  (cast (by kernel_rfl) ht)
end Zex
namespace Zto
noncomputable abbrev fn:Func:=Go.Proofs.Tryz.f95
def kp:Zco:=[]
noncomputable def C (p:List Nat):Code:=(cod fn).sub p
def KR (Q:QT):KT:=Zfd pg fn.results.toList Q
theorem call (x0:List Nat) (h:Zaa) (Q:QT) (ht :
 bcase (decide (((((List.length x0:Nat):Int)):Int) > 60)) (Q (.ptr none) h) (Zaj pg Zkk [.str x0] h fun A B=>
 Zjx A fun A=>Zai A fun A C=>Zgm A fun A=>Zai C fun C D=>Zbc C fun C=>Zbu D (bcase (!(decide (C=[]))) (Q (.ptr none) B) (Q (.ptr A) B)))):Zaj pg Zky [.str x0] h Q:=
 Zaj.of_body kp (c:=cod fn) (fn:=fn) Go.Proofs.Tryz.func95 (by kernel_rfl) (by kernel_rfl) (Nat.le_of_ble_eq_true (by kernel_rfl))
  (cast (by kernel_rfl) ht)
end Zto
namespace Zqw
noncomputable abbrev fn:Func:=Go.Proofs.Tryz.f62
def kp:Zco:=[]
noncomputable def C (p:List Nat):Code:=(cod fn).sub p
def KR (Q:QT):KT:=Zfd pg fn.results.toList Q
theorem call (x0:List Nat) (h:Zaa) (Q:QT) (ht :
 Zaj pg Zky [.str x0] h fun A B=>
 Zgm A fun A=>Q (.bool (!(Option.isNone A))) B):Zaj pg Zfo [.str x0] h Q:=
 Zaj.of_body kp (c:=cod fn) (fn:=fn) Go.Proofs.Tryz.func62 (by kernel_rfl) (by kernel_rfl) (Nat.le_of_ble_eq_true (by kernel_rfl))
  (cast (by kernel_rfl) ht)
end Zqw
end Go.Sim

set_option maxRecDepth 100000
set_option linter.unusedVariables false
namespace Go.Sim
open Go Go.RowKit
namespace Zhe
noncomputable abbrev fn:Func:=Go.Proofs.Tryz.f113
def kp:Zco:=[(3000006,[0,3]),(1000006,[0,3])]
noncomputable def C (p:List Nat):Code:=(cod fn).sub p
def KR (Q:QT):KT:=Zfd pg fn.results.toList Q
abbrev T6:=Int→List Nat→Zaa→Prop
def E6 (R6:T6) (env:Env) (h:Zaa):Prop:=Zce 0 env fun v env=>Zew .i64 v fun x0=>Zce 3 env fun v env=>Zbc v fun x3=>Zls env (R6 x0 x3 h)
theorem Zma {R6:T6} {env:Env} {h:Zaa} (hi:E6 R6 env h):∃ x0,∃ x3,env=[(0,.int .i64 x0),(3,.str x3)]∧R6 x0 x3 h:=by
 unfold E6 at hi
 repeat ((first | (have k:=Zan hi; clear hi; obtain ⟨_,_,e,hi⟩:=k) | (have k:=Zfc hi; clear hi; obtain ⟨_,e,hi⟩:=k) | (have k:=Zay hi; clear hi; obtain ⟨_,e,hi⟩:=k)); subst e)
 obtain ⟨rfl,hi⟩:=Zbw hi
 exact ⟨_,_,rfl,hi⟩
def K0 (Q:QT):KT:=andThen (fun env' h'=>(match kp.find 4000009 with | some ks=>Den pg fn.ntmps (C [1,1,1,1,1]) (env'.keep ks) h' (KR Q) | none=>den pg fn.ntmps kp (C [1,1,1,1,1]) env' h' (KR Q))) (KR Q)
def K1 (Q:QT):KT:=Zde 0 (K0 Q)
def K2 (Q:QT):KT:=left kp 6 (K1 Q)
def K3 (Q:QT) (R6:T6):KT:=rnd ((kp.find 1000006).getD []) (E6 R6) (K2 Q)
def L6 (Q:QT) (x0:Int) (x3:List Nat) (h:Zaa):Prop:=Zff (Den pg fn.ntmps (C [1,1,1,1,0,0,0])) ((kp.find 1000006).getD []) (K2 Q) [(0,.int .i64 x0),(3,.str x3)] h
def Yck (Q:QT) (x0:Int) (x3:List Nat) (h:Zaa):Prop:=At (K1 Q) (.exit 0) [(0,.int .i64 x0),(3,.str x3)] h
def L6t (Q:QT) (R6:T6) (x0:Int) (x3:List Nat) (h:Zaa):Prop:=
 bcase (decide ((x0:Int) > 9)) ((10:Int)≠0∧(Zch (h ++ [.cells Ybc [.int .u8 (IntKind.wrap .u8 (IntKind.wrap .i64 (48 + (Int.tmod x0 10))))] false]) fun A=>Zcn (rowOf A (h.length,0) 1) fun B=>Znt B fun B=>List.length B + List.length x3≤9223372036854775807∧((10:Int)≠0∧(R6 (IntKind.wrap .i64 (Int.tdiv x0 10)) (B ++ x3) A)))) (Yck Q x0 x3 h)
theorem Zyu (Q:QT) (R6:T6) (x0:Int) (x3:List Nat) (h:Zaa) (ht:L6t Q R6 x0 x3 h):Den pg fn.ntmps (C [1,1,1,1,0,0,0]) [(0,.int .i64 x0),(3,.str x3)] h (K3 Q R6):=
 Zbf (kp:=kp) (cast (by kernel_rfl) ht)
theorem L6ind (Q:QT) {G:Type} (J:G→Int→List Nat→Zaa→Prop) (m:G→Nat)
 (hr:∀ (g:G) (x0:Int) (x3:List Nat) (h:Zaa),J g x0 x3 h→∀ (R6:T6),(∀ g' (x0:Int) (x3:List Nat) (h:Zaa),m g' < m g→J g' x0 x3 h→R6 x0 x3 h)→L6t Q R6 x0 x3 h)
 (g:G) (x0:Int) (x3:List Nat) (h:Zaa) (hj:J g x0 x3 h):L6 Q x0 x3 h:=by
 let P:=fun (K:Int→List Nat→Zaa→Prop) x0 x3 h=>K x0 x3 h
 refine Zff.inv2 (fun g=>E6 (P (J g))) (fun g=>E6 (P fun x0 x3 h=>∃ g',m g' < m g∧J g' x0 x3 h)) m ?_ ?_ g hj
 ·intro g env h hi
  obtain ⟨x0,x3,rfl,hj⟩:=Zma hi
  exact Zyu Q _ x0 x3 h (hr g x0 x3 h hj (P fun x0 x3 h=>∃ g',m g' < m g∧J g' x0 x3 h) fun g' x0 x3 h hlt hj=>⟨g',hlt,hj⟩)
 ·intro g env h hi
  obtain ⟨x0,x3,rfl,g',hlt,hj⟩:=Zma hi
  exact ⟨g',hlt,hj⟩
theorem A6x0i (Q:QT) (x0:Int) (x3:List Nat) (h:Zaa) (ht :
 Zch (h ++ [.cells Ybc [.int .u8 (IntKind.wrap .u8 (IntKind.wrap .i64 (48 + x0)))] false]) fun A=>Zcn (rowOf A (h.length,0) 1) fun B=>Znt B fun B=>List.length B + List.length x3≤9223372036854775807∧(Q (.str (B ++ x3)) A)):Yck Q x0 x3 h:=
 At.mk (cast (by kernel_rfl) ht)
theorem call (x0:Int) (h:Zaa) (Q:QT) (ht :
 bcase (decide ((x0:Int) < (-9223372036854775807))) (Q (.str ([45,57,50,50,51,51,55,50,48,51,54,56,53,52,55,55,53,56,48,56])) h) (bcase (decide ((x0:Int) < 0)) (Zaj pg Zgg [.int .i64 (IntKind.wrap .i64 (0 - x0))] h fun A B=>
 Zbc A fun A=>List.length [45] + List.length A≤9223372036854775807∧(Q (.str ([45] ++ A)) B)) (L6 Q x0 [] h))):Zaj pg Zgg [.int .i64 x0] h Q:=
 Zaj.of_body kp (c:=cod fn) (fn:=fn) Go.Proofs.Tryz.func113 (by kernel_rfl) (by kernel_rfl) (Nat.le_of_ble_eq_true (by kernel_rfl))
  (cast (by kernel_rfl) ht)
end Zhe
end Go.Sim

set_option maxRecDepth 100000
set_option linter.unusedVariables false
namespace Go.Sim
open Go Go.RowKit
namespace Zka
noncomputable abbrev fn:Func:=Go.Proofs.Tryz.f92
def kp:Zco:=[(3000003,[3]),(1000003,[0,3,7,8,9]),(4000007,[9,8,7,0,3])]
noncomputable def C (p:List Nat):Code:=(cod fn).sub p
def KR (Q:QT):KT:=Zfd pg fn.results.toList Q
abbrev T3:=List Nat→Pt→Nat→Nat→Bool→Pt→Nat→Nat→Bool→Int→Int→Zaa→Prop
def E3 (R3:T3) (env:Env) (h:Zaa):Prop:=Zce 0 env fun v env=>Zbc v fun x0=>Zce 3 env fun v env=>xSl v fun a3 n3 c3 e3=>Zce 7 env fun v env=>xSl v fun a7 n7 c7 e7=>Zce 8 env fun v env=>Zew .i64 v fun x8=>Zce 9 env fun v env=>Zew .i64 v fun x9=>Zls env (R3 x0 a3 n3 c3 e3 a7 n7 c7 e7 x8 x9 h)
theorem Zgj {R3:T3} {env:Env} {h:Zaa} (hi:E3 R3 env h):∃ x0,∃ a3,∃ n3,∃ c3,∃ e3,∃ a7,∃ n7,∃ c7,∃ e7,∃ x8,∃ x9,env=[(0,.str x0),(3,.slice a3 n3 c3 e3),(7,.slice a7 n7 c7 e7),(8,.int .i64 x8),(9,.int .i64 x9)]∧R3 x0 a3 n3 c3 e3 a7 n7 c7 e7 x8 x9 h:=by
 unfold E3 at hi
 repeat ((first | (have k:=Zan hi; clear hi; obtain ⟨_,_,e,hi⟩:=k) | (have k:=Zfc hi; clear hi; obtain ⟨_,e,hi⟩:=k) | (have k:=Zay hi; clear hi; obtain ⟨_,e,hi⟩:=k) | (have k:=Zcg hi; clear hi; obtain ⟨_,_,_,_,e,hi⟩:=k)); subst e)
 obtain ⟨rfl,hi⟩:=Zbw hi
 exact ⟨_,_,_,_,_,_,_,_,_,_,_,rfl,hi⟩
def K0 (Q:QT):KT:=andThen (fun env' h'=>(match kp.find 4000008 with | some ks=>Den pg fn.ntmps (C [1,1,1]) (env'.keep ks) h' (KR Q) | none=>den pg fn.ntmps kp (C [1,1,1]) env' h' (KR Q))) (KR Q)
def K1 (Q:QT):KT:=Zde 0 (K0 Q)
def K2 (Q:QT):KT:=left kp 3 (K1 Q)
def K3 (Q:QT) (R3:T3):KT:=rnd ((kp.find 1000003).getD []) (E3 R3) (K2 Q)
def L3 (Q:QT) (x0:List Nat) (a3:Pt) (n3 c3:Nat) (e3:Bool) (a7:Pt) (n7 c7:Nat) (e7:Bool) (x8 x9:Int) (h:Zaa):Prop:=Zff (Den pg fn.ntmps (C [1,1,0,1,0,0])) ((kp.find 1000003).getD []) (K2 Q) [(0,.str x0),(3,.slice a3 n3 c3 e3),(7,.slice a7 n7 c7 e7),(8,.int .i64 x8),(9,.int .i64 x9)] h
def J7 (Q:QT) (R3:T3) (x9 x8:Int) (a7:Pt) (n7 c7:Nat) (e7:Bool) (x0:List Nat) (a3:Pt) (n3 c3:Nat) (e3:Bool) (h:Zaa):Prop:=Den pg fn.ntmps (C [1,1,0,1,0,0,1,1,1]) [(9,.int .i64 x9),(8,.int .i64 x8),(7,.slice a7 n7 c7 e7),(0,.str x0),(3,.slice a3 n3 c3 e3)] h (K3 Q R3)
def Zua (Q:QT) (a3:Pt) (n3 c3:Nat) (e3:Bool) (h:Zaa):Prop:=At (K1 Q) (.exit 0) [(3,.slice a3 n3 c3 e3)] h
def L3t (Q:QT) (R3:T3) (x0:List Nat) (a3:Pt) (n3 c3:Nat) (e3:Bool) (a7:Pt) (n7 c7:Nat) (e7:Bool) (x8 x9:Int) (h:Zaa):Prop:=
 bcase (decide ((x9:Int) < x8)) ((0≤(x9:Int)∧(x9:Int) < (n7:Nat))∧(Zbg a7 fun A B=>Zbc (Zae h (.ptr (A,B + (Int.toNat x9) * 1))) fun A=>Zaj pg Zgi [.str x0,.str A] h fun B C=>
 Zck B fun B=>bcase B (Zch (C ++ [.cells Zbh [.str A] false]) fun A=>Zcf pg Zke A (.slice a3 n3 c3 e3) (.slice (C.length,0) 1 1 true) fun A B=>xSl A fun A D E F=>J7 Q R3 x9 x8 a7 n7 c7 e7 x0 A D E F B) (J7 Q R3 x9 x8 a7 n7 c7 e7 x0 a3 n3 c3 e3 C))) (Zua Q a3 n3 c3 e3 h)
theorem Zqi (Q:QT) (R3:T3) (x0:List Nat) (a3:Pt) (n3 c3:Nat) (e3:Bool) (a7:Pt) (n7 c7:Nat) (e7:Bool) (x8 x9:Int) (h:Zaa) (ht:L3t Q R3 x0 a3 n3 c3 e3 a7 n7 c7 e7 x8 x9 h):Den pg fn.ntmps (C [1,1,0,1,0,0]) [(0,.str x0),(3,.slice a3 n3 c3 e3),(7,.slice a7 n7 c7 e7),(8,.int .i64 x8),(9,.int .i64 x9)] h (K3 Q R3):=
 Zbf (kp:=kp) (cast (by kernel_rfl) ht)
theorem L3ind (Q:QT) (x0:List Nat) (a7:Pt) (n7 c7:Nat) (e7:Bool) (x8:Int) {G:Type} (J:G→Pt→Nat→Nat→Bool→Int→Zaa→Prop) (m:G→Nat)
 (hr:∀ (g:G) (a3:Pt) (n3 c3:Nat) (e3:Bool) (x9:Int) (h:Zaa),J g a3 n3 c3 e3 x9 h→∀ (R3:T3),(∀ g' (a3:Pt) (n3 c3:Nat) (e3:Bool) (x9:Int) (h:Zaa),m g' < m g→J g' a3 n3 c3 e3 x9 h→R3 x0 a3 n3 c3 e3 a7 n7 c7 e7 x8 x9 h)→L3t Q R3 x0 a3 n3 c3 e3 a7 n7 c7 e7 x8 x9 h)
 (g:G) (a3:Pt) (n3 c3:Nat) (e3:Bool) (x9:Int) (h:Zaa) (hj:J g a3 n3 c3 e3 x9 h):L3 Q x0 a3 n3 c3 e3 a7 n7 c7 e7 x8 x9 h:=by
 let P:=fun (K:Pt→Nat→Nat→Bool→Int→Zaa→Prop) x0' a3 n3 c3 e3 a7' n7' c7' e7' x8' x9 h=>x0=x0'∧a7=a7'∧n7=n7'∧c7=c7'∧e7=e7'∧x8=x8'∧K a3 n3 c3 e3 x9 h
 refine Zff.inv2 (fun g=>E3 (P (J g))) (fun g=>E3 (P fun a3 n3 c3 e3 x9 h=>∃ g',m g' < m g∧J g' a3 n3 c3 e3 x9 h)) m ?_ ?_ g ⟨rfl,rfl,rfl,rfl,rfl,rfl,hj⟩
 ·intro g env h hi
  obtain ⟨x0',a3,n3,c3,e3,a7',n7',c7',e7',x8',x9,rfl,rfl,rfl,rfl,rfl,rfl,rfl,hj⟩:=Zgj hi
  exact Zqi Q _ x0 a3 n3 c3 e3 a7 n7 c7 e7 x8 x9 h (hr g a3 n3 c3 e3 x9 h hj (P fun a3 n3 c3 e3 x9 h=>∃ g',m g' < m g∧J g' a3 n3 c3 e3 x9 h) fun g' a3 n3 c3 e3 x9 h hlt hj=>⟨rfl,rfl,rfl,rfl,rfl,rfl,g',hlt,hj⟩)
 ·intro g env h hi
  obtain ⟨x0',a3,n3,c3,e3,a7',n7',c7',e7',x8',x9,rfl,rfl,rfl,rfl,rfl,rfl,rfl,g',hlt,hj⟩:=Zgj hi
  exact ⟨g',hlt,rfl,rfl,rfl,rfl,rfl,rfl,hj⟩
theorem J7i (Q:QT) (R3:T3) (x9 x8:Int) (a7:Pt) (n7 c7:Nat) (e7:Bool) (x0:List Nat) (a3:Pt) (n3 c3:Nat) (e3:Bool) (h:Zaa) (ht :
 R3 x0 a3 n3 c3 e3 a7 n7 c7 e7 x8 (IntKind.wrap .i64 (x9 + 1)) h):J7 Q R3 x9 x8 a7 n7 c7 e7 x0 a3 n3 c3 e3 h:=
 Zbf (kp:=kp) (cast (by kernel_rfl) ht)
theorem A3x0i (Q:QT) (a3:Pt) (n3 c3:Nat) (e3:Bool) (h:Zaa) (ht :
 Q (.slice a3 n3 c3 e3) h):Zua Q a3 n3 c3 e3 h:=
 At.mk (cast (by kernel_rfl) ht)
theorem call (x0:List Nat) (h:Zaa) (Q:QT) (ht :
 Zch (h ++ [.cells Zbh [] false]) fun A=>Zch (A ++ [.cells Zbh [.str [88],.str [89],.str [90],.str [120],.str [121],.str [122]] false]) fun B=>L3 Q x0 (h.length,0) 0 0 true (A.length,0) 6 6 true (((6:Nat):Int)) 0 B):Zaj pg Zth [.str x0] h Q:=
 Zaj.of_body kp (c:=cod fn) (fn:=fn) Go.Proofs.Tryz.func92 (by kernel_rfl) (by kernel_rfl) (Nat.le_of_ble_eq_true (by kernel_rfl))
  (cast (by kernel_rfl) ht)
end Zka
end Go.Sim

set_option maxRecDepth 100000
set_option linter.unusedVariables false
namespace Go.Sim
open Go Go.RowKit
namespace Zfz
noncomputable abbrev fn:Func:=Go.Proofs.Tryz.f109
def kp:Zco:=[(3000003,[1,3]),(1000003,[1,3,7,8,9]),(4000009,[3])]
noncomputable def C (p:List Nat):Code:=(cod fn).sub p
def KR (Q:QT):KT:=Zfd pg fn.results.toList Q
abbrev T3:=Nat→Nat→Int→Pt→Nat→Nat→Bool→Int→Int→Zaa→Prop
def E3 (R3:T3) (env:Env) (h:Zaa):Prop:=Zce 1 env fun v env=>Zgm v fun a=>Zbg a fun i1 o1=>Zce 3 env fun v env=>Zew .i64 v fun x3=>Zce 7 env fun v env=>xSl v fun a7 n7 c7 e7=>Zce 8 env fun v env=>Zew .i64 v fun x8=>Zce 9 env fun v env=>Zew .i64 v fun x9=>Zls env (R3 i1 o1 x3 a7 n7 c7 e7 x8 x9 h)
theorem Zgj {R3:T3} {env:Env} {h:Zaa} (hi:E3 R3 env h):∃ i1,∃ o1,∃ x3,∃ a7,∃ n7,∃ c7,∃ e7,∃ x8,∃ x9,env=[(1,.ptr (i1,o1)),(3,.int .i64 x3),(7,.slice a7 n7 c7 e7),(8,.int .i64 x8),(9,.int .i64 x9)]∧R3 i1 o1 x3 a7 n7 c7 e7 x8 x9 h:=by
 unfold E3 at hi
 have hi0:=hi
 clear hi
 obtain ⟨_,_,rfl,hi1⟩:=Zan hi0
 obtain ⟨a,rfl,hi2⟩:=Zbv hi1
 obtain ⟨i1,o1,rfl,hi3⟩:=Zbr hi2
 obtain ⟨_,_,rfl,hi4⟩:=Zan hi3
 obtain ⟨x3,rfl,hi5⟩:=Zay hi4
 obtain ⟨_,_,rfl,hi6⟩:=Zan hi5
 obtain ⟨a7,n7,c7,e7,rfl,hi7⟩:=Zcg hi6
 obtain ⟨_,_,rfl,hi8⟩:=Zan hi7
 obtain ⟨x8,rfl,hi9⟩:=Zay hi8
 obtain ⟨_,_,rfl,hi10⟩:=Zan hi9
 obtain ⟨x9,rfl,hi11⟩:=Zay hi10
 obtain ⟨rfl,hi12⟩:=Zbw hi11
 have hi:=hi12
 exact ⟨i1,o1,x3,a7,n7,c7,e7,x8,x9,rfl,hi⟩
def K0 (Q:QT):KT:=andThen (fun env' h'=>(match kp.find 4000007 with | some ks=>Den pg fn.ntmps (C [1,1,1]) (env'.keep ks) h' (KR Q) | none=>den pg fn.ntmps kp (C [1,1,1]) env' h' (KR Q))) (KR Q)
def K1 (Q:QT):KT:=Zde 0 (K0 Q)
def K2 (Q:QT):KT:=left kp 3 (K1 Q)
def K3 (Q:QT) (R3:T3):KT:=rnd ((kp.find 1000003).getD []) (E3 R3) (K2 Q)
def L3 (Q:QT) (i1 o1:Nat) (x3:Int) (a7:Pt) (n7 c7:Nat) (e7:Bool) (x8 x9:Int) (h:Zaa):Prop:=Zff (Den pg fn.ntmps (C [1,1,0,1,0,0])) ((kp.find 1000003).getD []) (K2 Q) [(1,.ptr (i1,o1)),(3,.int .i64 x3),(7,.slice a7 n7 c7 e7),(8,.int .i64 x8),(9,.int .i64 x9)] h
def Zua (Q:QT) (i1 o1:Nat) (x3:Int) (h:Zaa):Prop:=At (K1 Q) (.exit 0) [(1,.ptr (i1,o1)),(3,.int .i64 x3)] h
def J9 (Q:QT) (x3:Int) (h:Zaa):Prop:=Den pg fn.ntmps (C [1,1,1,1]) [(3,.int .i64 x3)] h (KR Q)
def L3t (Q:QT) (R3:T3) (i1 o1:Nat) (x3:Int) (a7:Pt) (n7 c7:Nat) (e7:Bool) (x8 x9:Int) (h:Zaa):Prop:=
 bcase (decide ((x9:Int) < x8)) ((0≤(x9:Int)∧(x9:Int) < (n7:Nat))∧(Zbg a7 fun A B=>Zcn (Zbj h (.ptr (A,B + (Int.toNat x9) * 2)) 2) fun A=>Zai A fun A B=>Zdt .u8 A fun A=>Zai B fun B C=>xSl B fun B D E F=>Zbu C (Zch (h ++ [.cells Zak [.int .u8 0,.slice none 0 0 true] false]) fun C=>Zbn (Zaz C (.ptr (h.length,0)) [.int .u8 A,.slice B D E F]) fun A=>Zcn (Zbj A (.ptr (h.length,0)) 2) fun B=>Zai B fun B C=>Zdt .u8 B fun B=>Zai C fun C D=>xSl C fun C E F G=>Zbu D (Zaj pg Zgt [.agg [.int .u8 B,.slice C E F G]] A fun A B=>
 Zdt .i64 A fun A=>R3 i1 o1 (IntKind.wrap .i64 ((IntKind.wrap .i64 (x3 + 1)) + A)) a7 n7 c7 e7 x8 (IntKind.wrap .i64 (x9 + 1)) B)))) (Zua Q i1 o1 x3 h)
theorem Zqi (Q:QT) (R3:T3) (i1 o1:Nat) (x3:Int) (a7:Pt) (n7 c7:Nat) (e7:Bool) (x8 x9:Int) (h:Zaa) (ht:L3t Q R3 i1 o1 x3 a7 n7 c7 e7 x8 x9 h):Den pg fn.ntmps (C [1,1,0,1,0,0]) [(1,.ptr (i1,o1)),(3,.int .i64 x3),(7,.slice a7 n7 c7 e7),(8,.int .i64 x8),(9,.int .i64 x9)] h (K3 Q R3):=
 Zbf (kp:=kp) (cast (by kernel_rfl) ht)
theorem L3ind (Q:QT) (i1 o1:Nat) (a7:Pt) (n7 c7:Nat) (e7:Bool) (x8:Int) {G:Type} (J:G→Int→Int→Zaa→Prop) (m:G→Nat)
 (hr:∀ (g:G) (x3 x9:Int) (h:Zaa),J g x3 x9 h→∀ (R3:T3),(∀ g' (x3 x9:Int) (h:Zaa),m g' < m g→J g' x3 x9 h→R3 i1 o1 x3 a7 n7 c7 e7 x8 x9 h)→L3t Q R3 i1 o1 x3 a7 n7 c7 e7 x8 x9 h)
 (g:G) (x3 x9:Int) (h:Zaa) (hj:J g x3 x9 h):L3 Q i1 o1 x3 a7 n7 c7 e7 x8 x9 h:=by
 let P:=fun (K:Int→Int→Zaa→Prop) i1' o1' x3 a7' n7' c7' e7' x8' x9 h=>i1=i1'∧o1=o1'∧a7=a7'∧n7=n7'∧c7=c7'∧e7=e7'∧x8=x8'∧K x3 x9 h
 refine Zff.inv2 (fun g=>E3 (P (J g))) (fun g=>E3 (P fun x3 x9 h=>∃ g',m g' < m g∧J g' x3 x9 h)) m ?_ ?_ g ⟨rfl,rfl,rfl,rfl,rfl,rfl,rfl,hj⟩
 ·intro g env h hi
  obtain ⟨i1',o1',x3,a7',n7',c7',e7',x8',x9,rfl,rfl,rfl,rfl,rfl,rfl,rfl,rfl,hj⟩:=Zgj hi
  exact Zqi Q _ i1 o1 x3 a7 n7 c7 e7 x8 x9 h (hr g x3 x9 h hj (P fun x3 x9 h=>∃ g',m g' < m g∧J g' x3 x9 h) fun g' x3 x9 h hlt hj=>⟨rfl,rfl,rfl,rfl,rfl,rfl,rfl,g',hlt,hj⟩)
 ·intro g env h hi
  obtain ⟨i1',o1',x3,a7',n7',c7',e7',x8',x9,rfl,rfl,rfl,rfl,rfl,rfl,rfl,rfl,g',hlt,hj⟩:=Zgj hi
  exact ⟨g',hlt,rfl,rfl,rfl,rfl,rfl,rfl,rfl,hj⟩
theorem A3x0i (Q:QT) (i1 o1:Nat) (x3:Int) (h:Zaa) (ht :
 xSl (Zae h (.ptr (i1,o1 + 1))) fun A A B B=>bcase (decide (((((A:Nat):Int)):Int) > 0)) (J9 Q (IntKind.wrap .i64 (x3 + 1)) h) (J9 Q x3 h)):Zua Q i1 o1 x3 h:=
 At.mk (cast (by kernel_rfl) ht)
theorem J9i (Q:QT) (x3:Int) (h:Zaa) (ht :
 Q (.int .i64 x3) h):J9 Q x3 h:=
 Zbf (kp:=kp) (cast (by kernel_rfl) ht)
theorem call (x0x0:Int) (a0x1:Pt) (n0x1 c0x1:Nat) (e0x1:Bool) (h:Zaa) (Q:QT) (ht :
 Zch (h ++ [.cells Zak [.int .u8 x0x0,.slice a0x1 n0x1 c0x1 e0x1] false]) fun A=>xSl (Zae A (.ptr (h.length,0 + 1))) fun B C D E=>L3 Q h.length 0 1 B C D E (((C:Nat):Int)) 0 A):Zaj pg Zgt [.agg [.int .u8 x0x0,.slice a0x1 n0x1 c0x1 e0x1]] h Q:=
 Zaj.of_body kp (c:=cod fn) (fn:=fn) Go.Proofs.Tryz.func109 (by kernel_rfl) (by kernel_rfl) (Nat.le_of_ble_eq_true (by kernel_rfl))
  (cast (by kernel_rfl) ht)
end Zfz
namespace Zft
noncomputable abbrev fn:Func:=Go.Proofs.Tryz.f153
def kp:Zco:=[(3000003,[4,2,3]),(1000003,[4,8,10]),(2000004,[6,5,10,8,4]),(4000006,[6,4,5,10,8]),(2000008,[10,8,4]),(4000009,[10,8,4])]
noncomputable def C (p:List Nat):Code:=(cod fn).sub p
def KR (Q:QT):KT:=Zfd pg fn.results.toList Q
abbrev T3:=Pt→Nat→Nat→Bool→Pt→Int→Zaa→Prop
def E3 (R3:T3) (env:Env) (h:Zaa):Prop:=Zce 4 env fun v env=>xSl v fun a4 n4 c4 e4=>Zce 8 env fun v env=>Zgm v fun a8=>Zce 10 env fun v env=>Zew .i64 v fun x10=>Zls env (R3 a4 n4 c4 e4 a8 x10 h)
theorem Zgj {R3:T3} {env:Env} {h:Zaa} (hi:E3 R3 env h):∃ a4,∃ n4,∃ c4,∃ e4,∃ a8,∃ x10,env=[(4,.slice a4 n4 c4 e4),(8,.ptr a8),(10,.int .i64 x10)]∧R3 a4 n4 c4 e4 a8 x10 h:=by
 unfold E3 at hi
 repeat ((first | (have k:=Zan hi; clear hi; obtain ⟨_,_,e,hi⟩:=k) | (have k:=Zay hi; clear hi; obtain ⟨_,e,hi⟩:=k) | (have k:=Zbv hi; clear hi; obtain ⟨_,e,hi⟩:=k) | (have k:=Zcg hi; clear hi; obtain ⟨_,_,_,_,e,hi⟩:=k)); subst e)
 obtain ⟨rfl,hi⟩:=Zbw hi
 exact ⟨_,_,_,_,_,_,rfl,hi⟩
def K0 (Q:QT):KT:=andThen (fun env' h'=>(match kp.find 4000010 with | some ks=>Den pg fn.ntmps (C [1,1,1]) (env'.keep ks) h' (KR Q) | none=>den pg fn.ntmps kp (C [1,1,1]) env' h' (KR Q))) (KR Q)
def K1 (Q:QT):KT:=Zde 0 (K0 Q)
def K2 (Q:QT):KT:=left kp 3 (K1 Q)
def K3 (Q:QT) (R3:T3):KT:=rnd ((kp.find 1000003).getD []) (E3 R3) (K2 Q)
def K4 (Q:QT) (R3:T3):KT:=andThen (fun env' h'=>(match kp.find 4000009 with | some ks=>Den pg fn.ntmps (C [1,1,0,1,0,0,1,1,1]) (env'.keep ks) h' (K3 Q R3) | none=>den pg fn.ntmps kp (C [1,1,0,1,0,0,1,1,1]) env' h' (K3 Q R3))) (K3 Q R3)
def K5 (Q:QT) (R3:T3):KT:=Zde 1 (K4 Q R3)
def L3 (Q:QT) (a4:Pt) (n4 c4:Nat) (e4:Bool) (a8:Pt) (x10:Int) (h:Zaa):Prop:=Zff (Den pg fn.ntmps (C [1,1,0,1,0,0])) ((kp.find 1000003).getD []) (K2 Q) [(4,.slice a4 n4 c4 e4),(8,.ptr a8),(10,.int .i64 x10)] h
def J9 (Q:QT) (R3:T3) (x10:Int) (a8 a4:Pt) (n4 c4:Nat) (e4:Bool) (h:Zaa):Prop:=Den pg fn.ntmps (C [1,1,0,1,0,0,1,1,1]) [(10,.int .i64 x10),(8,.ptr a8),(4,.slice a4 n4 c4 e4)] h (K3 Q R3)
def J6 (Q:QT) (R3:T3) (i6 o6:Nat) (a4:Pt) (n4 c4:Nat) (e4:Bool) (x5 x10:Int) (a8:Pt) (h:Zaa):Prop:=Den pg fn.ntmps (C [1,1,0,1,0,0,1,1,0,0,1,1]) [(6,.ptr (i6,o6)),(4,.slice a4 n4 c4 e4),(5,.int .i64 x5),(10,.int .i64 x10),(8,.ptr a8)] h (K5 Q R3)
def Zua (Q:QT) (a4:Pt) (n4 c4:Nat) (e4:Bool) (h:Zaa):Prop:=At (K1 Q) (.exit 0) [(4,.slice a4 n4 c4 e4),(2,.undef),(3,.undef)] h
def L3t (Q:QT) (R3:T3) (a4:Pt) (n4 c4:Nat) (e4:Bool) (a8:Pt) (x10:Int) (h:Zaa):Prop:=
 bcase (decide ((x10:Int) < 12)) (Zbg a8 fun A B=>(0≤(x10:Int)∧(x10:Int) < (12:Nat))∧(Zcn (Zbj h (.ptr (A,B + (Int.toNat x10) * 2)) 2) fun C=>Zai C fun C D=>Zdt .u8 C fun C=>Zai D fun D E=>xSl D fun D F G H=>Zbu E (Zch (h ++ [.cells Zak [.int .u8 0,.slice none 0 0 true] false]) fun E=>(Zbj E (.ptr (A,B + (Int.toNat x10) * 2)) 2=Zbj h (.ptr (A,B + (Int.toNat x10) * 2)) 2)∧Zbn (Zaz E (.ptr (h.length,0)) [.int .u8 C,.slice D F G H]) fun A=>Zdt .u8 (Zae A (.ptr (h.length,0 + 0))) fun B=>bcase ((B:Int) == 0) (J9 Q R3 x10 a8 a4 n4 c4 e4 A) (bcase (decide ((x10:Int) ≥ 6)) (J9 Q R3 x10 a8 a4 n4 c4 e4 A) (J6 Q R3 h.length 0 a4 n4 c4 e4 x10 x10 a8 A))))) (Zua Q a4 n4 c4 e4 h)
theorem Zqi (Q:QT) (R3:T3) (a4:Pt) (n4 c4:Nat) (e4:Bool) (a8:Pt) (x10:Int) (h:Zaa) (ht:L3t Q R3 a4 n4 c4 e4 a8 x10 h):Den pg fn.ntmps (C [1,1,0,1,0,0]) [(4,.slice a4 n4 c4 e4),(8,.ptr a8),(10,.int .i64 x10)] h (K3 Q R3):=
 Zbf (kp:=kp) (cast (by kernel_rfl) ht)
theorem L3ind (Q:QT) (a8:Pt) {G:Type} (J:G→Pt→Nat→Nat→Bool→Int→Zaa→Prop) (m:G→Nat)
 (hr:∀ (g:G) (a4:Pt) (n4 c4:Nat) (e4:Bool) (x10:Int) (h:Zaa),J g a4 n4 c4 e4 x10 h→∀ (R3:T3),(∀ g' (a4:Pt) (n4 c4:Nat) (e4:Bool) (x10:Int) (h:Zaa),m g' < m g→J g' a4 n4 c4 e4 x10 h→R3 a4 n4 c4 e4 a8 x10 h)→L3t Q R3 a4 n4 c4 e4 a8 x10 h)
 (g:G) (a4:Pt) (n4 c4:Nat) (e4:Bool) (x10:Int) (h:Zaa) (hj:J g a4 n4 c4 e4 x10 h):L3 Q a4 n4 c4 e4 a8 x10 h:=by
 let P:=fun (K:Pt→Nat→Nat→Bool→Int→Zaa→Prop) a4 n4 c4 e4 a8' x10 h=>a8=a8'∧K a4 n4 c4 e4 x10 h
 refine Zff.inv2 (fun g=>E3 (P (J g))) (fun g=>E3 (P fun a4 n4 c4 e4 x10 h=>∃ g',m g' < m g∧J g' a4 n4 c4 e4 x10 h)) m ?_ ?_ g ⟨rfl,hj⟩
 ·intro g env h hi
  obtain ⟨a4,n4,c4,e4,a8',x10,rfl,rfl,hj⟩:=Zgj hi
  exact Zqi Q _ a4 n4 c4 e4 a8 x10 h (hr g a4 n4 c4 e4 x10 h hj (P fun a4 n4 c4 e4 x10 h=>∃ g',m g' < m g∧J g' a4 n4 c4 e4 x10 h) fun g' a4 n4 c4 e4 x10 h hlt hj=>⟨rfl,g',hlt,hj⟩)
 ·intro g env h hi
  obtain ⟨a4,n4,c4,e4,a8',x10,rfl,rfl,g',hlt,hj⟩:=Zgj hi
  exact ⟨g',hlt,rfl,hj⟩
theorem J9i (Q:QT) (R3:T3) (x10:Int) (a8 a4:Pt) (n4 c4:Nat) (e4:Bool) (h:Zaa) (ht :
 R3 a4 n4 c4 e4 a8 (IntKind.wrap .i64 (x10 + 1)) h):J9 Q R3 x10 a8 a4 n4 c4 e4 h:=
 Zbf (kp:=kp) (cast (by kernel_rfl) ht)
theorem J6i (Q:QT) (R3:T3) (i6 o6:Nat) (a4:Pt) (n4 c4:Nat) (e4:Bool) (x5 x10:Int) (a8:Pt) (h:Zaa) (ht :
 Zcn (Zbj h (.ptr (i6,o6)) 2) fun A=>Zai A fun A B=>Zdt .u8 A fun A=>Zai B fun B C=>xSl B fun B D E F=>Zbu C (Zaj pg Zgt [.agg [.int .u8 A,.slice B D E F]] h fun A B=>
 Zdt .i64 A fun A=>bcase (decide ((A:Int) > 60)) (Zch (B ++ [.cells Zbl [] false]) fun A=>Q (.tup [.slice (B.length,0) 0 0 true,.bool false]) A) ((0≤(x5:Int)∧(x5:Int)≤IntKind.wrap .i64 (x5 + 1)∧(IntKind.wrap .i64 (x5 + 1):Int)≤(List.length ([88,89,90,120,121,122,49,50,51,52,53,54]):Nat))∧(Zcn (Zbj B (.ptr (i6,o6)) 2) fun A=>Zai A fun A C=>Zdt .u8 A fun A=>Zai C fun C D=>xSl C fun C E F G=>Zbu D (Zaj pg Zgf [.agg [.int .u8 A,.slice C E F G]] B fun A B=>
 Zbc A fun A=>Zch (B ++ [.cells Zbl [.str (sub ([88,89,90,120,121,122,49,50,51,52,53,54]) x5 (IntKind.wrap .i64 (x5 + 1))),.str A] false]) fun A=>Zcf pg Zmi A (.slice a4 n4 c4 e4) (.slice (B.length,0) 1 1 true) fun A B=>xSl A fun A C D E=>J9 Q R3 x10 a8 A C D E B))))):J6 Q R3 i6 o6 a4 n4 c4 e4 x5 x10 a8 h:=
 Zbf (kp:=kp) (cast (by kernel_rfl) ht)
theorem A3x0i (Q:QT) (a4:Pt) (n4 c4:Nat) (e4:Bool) (h:Zaa) (ht :
 Q (.tup [.slice a4 n4 c4 e4,.bool true]) h):Zua Q a4 n4 c4 e4 h:=
 At.mk (cast (by kernel_rfl) ht)
theorem call (a0:Pt) (h:Zaa) (Q:QT) (ht :
 Zch (h ++ [.cells Zbl [] false]) fun A=>Zbg a0 fun B B=>L3 Q (h.length,0) 0 0 true a0 0 A):Zaj pg Zql [.ptr a0] h Q:=
 Zaj.of_body kp (c:=cod fn) (fn:=fn) Go.Proofs.Tryz.func153 (by kernel_rfl) (by kernel_rfl) (Nat.le_of_ble_eq_true (by kernel_rfl))
  (cast (by kernel_rfl) ht)
end Zft
namespace Zmh
noncomputable abbrev fn:Func:=Go.Proofs.Tryz.f134
def kp:Zco:=[(4000006,[10])]
noncomputable def C (p:List Nat):Code:=(cod fn).sub p
def KR (Q:QT):KT:=Zfd pg fn.results.toList Q
def J6 (Q:QT) (i10 o10:Nat) (h:Zaa):Prop:=Den pg fn.ntmps (C [1,1,1,1,1]) [(10,.ptr (i10,o10))] h (KR Q)
theorem J6i (Q:QT) (i10 o10:Nat) (h:Zaa) (ht :
 Zaj pg Zql [.ptr (i10,o10)] h fun A B=>
 Zjx A fun A=>Zai A fun A C=>xSl A fun A D E F=>Zai C fun C G=>Zck C fun C=>Zbu G (Q (.tup [.slice A D E F,.bool C]) B)):J6 Q i10 o10 h:=
 Zbf (kp:=kp) (cast (by kernel_rfl) ht)
theorem call (x0 x1:List Nat) (h:Zaa) (Q:QT) (ht :
 Zaj pg Zfw [.str x0] h fun A B=>
 Zjx A fun A=>Zai A fun A C=>Zob A fun A=>Zai A fun A D=>Zdt .u8 A fun A=>Zai D fun D E=>xSl D fun D F G H=>Zbu E (Zai C fun C E=>Zck C fun C=>Zbu E (Zch (B ++ [.cells Zak [.int .u8 0,.slice none 0 0 true] false]) fun E=>Zbn (Zaz E (.ptr (B.length,0)) [.int .u8 A,.slice D F G H]) fun A=>Zaj pg Zfw [.str x1] A fun A D=>
 Zjx A fun A=>Zai A fun A E=>Zob A fun A=>Zai A fun A F=>Zdt .u8 A fun A=>Zai F fun F G=>xSl F fun F H I J=>Zbu G (Zai E fun E G=>Zck E fun E=>Zbu G (Zch (D ++ [.cells Zak [.int .u8 0,.slice none 0 0 true] false]) fun G=>Zbn (Zaz G (.ptr (D.length,0)) [.int .u8 A,.slice F H I J]) fun A=>Zch (A ++ [.cells Zdi [.int .u8 0,.slice none 0 0 true,.int .u8 0,.slice none 0 0 true,.int .u8 0,.slice none 0 0 true,.int .u8 0,.slice none 0 0 true,.int .u8 0,.slice none 0 0 true,.int .u8 0,.slice none 0 0 true,.int .u8 0,.slice none 0 0 true,.int .u8 0,.slice none 0 0 true,.int .u8 0,.slice none 0 0 true,.int .u8 0,.slice none 0 0 true,.int .u8 0,.slice none 0 0 true,.int .u8 0,.slice none 0 0 true] false]) fun F=>bcase (!C) (Zch (F ++ [.cells Zbl [] false]) fun C=>Q (.tup [.slice (F.length,0) 0 0 true,.bool false]) C) (bcase (!E) (Zch (F ++ [.cells Zbl [] false]) fun C=>Q (.tup [.slice (F.length,0) 0 0 true,.bool false]) C) (Zcn (Zbj F (.ptr (B.length,0)) 2) fun B=>Zai B fun B C=>Zdt .u8 B fun B=>Zai C fun C E=>xSl C fun C G H I=>Zbu E (Zcn (Zbj F (.ptr (D.length,0)) 2) fun D=>Zai D fun D E=>Zdt .u8 D fun D=>Zai E fun E J=>xSl E fun E K L M=>Zbu J (Zaj pg Zlp [.ptr (A.length,0),.agg [.int .u8 B,.slice C G H I],.agg [.int .u8 D,.slice E K L M]] F fun B C=>
 Zck B fun B=>bcase (!B) (Zch (C ++ [.cells Zbl [] false]) fun B=>Q (.tup [.slice (C.length,0) 0 0 true,.bool false]) B) (J6 Q A.length 0 C)))))))))):Zaj pg Zjr [.str x0,.str x1] h Q:=
 Zaj.of_body kp (c:=cod fn) (fn:=fn) Go.Proofs.Tryz.func134 (by kernel_rfl) (by kernel_rfl) (Nat.le_of_ble_eq_true (by kernel_rfl))
  (cast (by kernel_rfl) ht)
end Zmh
namespace Zpf
noncomputable abbrev fn:Func:=Go.Proofs.Tryz.f149
def kp:Zco:=[]
noncomputable def C (p:List Nat):Code:=(cod fn).sub p
def KR (Q:QT):KT:=Zfd pg fn.results.toList Q
theorem call (x0 x1:List Nat) (h:Zaa) (Q:QT) (ht :
 Zaj pg Zjr [.str x0,.str x1] h fun A B=>
 Zjx A fun A=>Zai A fun A C=>xSl A fun A A A A=>Zai C fun A C=>Zck A fun A=>Zbu C (Q (.bool A) B)):Zaj pg Zik [.str x0,.str x1] h Q:=
 Zaj.of_body kp (c:=cod fn) (fn:=fn) Go.Proofs.Tryz.func149 (by kernel_rfl) (by kernel_rfl) (Nat.le_of_ble_eq_true (by kernel_rfl))
  (cast (by kernel_rfl) ht)
end Zpf
end Go.Sim

set_option maxRecDepth 100000
set_option linter.unusedVariables false
namespace Go.Sim
open Go Go.RowKit
namespace Ztd
noncomputable abbrev fn:Func:=Go.Proofs.Tryz.f131
def kp:Zco:=[]
noncomputable def C (p:List Nat):Code:=(cod fn).sub p
def KR (Q:QT):KT:=Zfd pg fn.results.toList Q
theorem call (x0:Int) (h:Zaa) (Q:QT) (ht :
 Zaj pg Zho [.str ([88,89,90,120,121,122,49,50,51,52,53,54]),.int .u8 x0] h fun A B=>
 Zdt .i64 A fun A=>Q (.int .i64 A) B):Zaj pg Zjf [.int .u8 x0] h Q:=
 Zaj.of_body kp (c:=cod fn) (fn:=fn) Go.Proofs.Tryz.func131 (by kernel_rfl) (by kernel_rfl) (Nat.le_of_ble_eq_true (by kernel_rfl))
  (cast (by kernel_rfl) ht)
end Ztd
namespace Zjh
noncomputable abbrev fn:Func:=Go.Proofs.Tryz.f152
def kp:Zco:=[(2000004,[]),(2000006,[6]),(3000010,[6]),(1000010,[0,4,5,42,43]),(2000012,[58,43,42,0,4,5])]
noncomputable def C (p:List Nat):Code:=(cod fn).sub p
def KR (Q:QT):KT:=Zfd pg fn.results.toList Q
abbrev T10:=Pt→Nat→Nat→Nat→Nat→Int→Int→Zaa→Prop
def E10 (R10:T10) (env:Env) (h:Zaa):Prop:=Zce 0 env fun v env=>Zgm v fun a0=>Zce 4 env fun v env=>Zgm v fun a=>Zbg a fun i4 o4=>Zce 5 env fun v env=>Zgm v fun a=>Zbg a fun i5 o5=>Zce 42 env fun v env=>Zew .i64 v fun x42=>Zce 43 env fun v env=>Zew .i64 v fun x43=>Zls env (R10 a0 i4 o4 i5 o5 x42 x43 h)
theorem Ynx {R10:T10} {env:Env} {h:Zaa} (hi:E10 R10 env h):∃ a0,∃ i4,∃ o4,∃ i5,∃ o5,∃ x42,∃ x43,env=[(0,.ptr a0),(4,.ptr (i4,o4)),(5,.ptr (i5,o5)),(42,.int .i64 x42),(43,.int .i64 x43)]∧R10 a0 i4 o4 i5 o5 x42 x43 h:=by
 unfold E10 at hi
 have hi0:=hi
 clear hi
 obtain ⟨_,_,rfl,hi1⟩:=Zan hi0
 obtain ⟨a0,rfl,hi2⟩:=Zbv hi1
 obtain ⟨_,_,rfl,hi3⟩:=Zan hi2
 obtain ⟨a,rfl,hi4⟩:=Zbv hi3
 obtain ⟨i4,o4,rfl,hi5⟩:=Zbr hi4
 obtain ⟨_,_,rfl,hi6⟩:=Zan hi5
 obtain ⟨a,rfl,hi7⟩:=Zbv hi6
 obtain ⟨i5,o5,rfl,hi8⟩:=Zbr hi7
 obtain ⟨_,_,rfl,hi9⟩:=Zan hi8
 obtain ⟨x42,rfl,hi10⟩:=Zay hi9
 obtain ⟨_,_,rfl,hi11⟩:=Zan hi10
 obtain ⟨x43,rfl,hi12⟩:=Zay hi11
 obtain ⟨rfl,hi13⟩:=Zbw hi12
 have hi:=hi13
 exact ⟨a0,i4,o4,i5,o5,x42,x43,rfl,hi⟩
def K0 (Q:QT):KT:=andThen (fun env' h'=>(match kp.find 4000015 with | some ks=>Den pg fn.ntmps (C [1,1,1,1]) (env'.keep ks) h' (KR Q) | none=>den pg fn.ntmps kp (C [1,1,1,1]) env' h' (KR Q))) (KR Q)
def K1 (Q:QT):KT:=Zde 0 (K0 Q)
def K2 (Q:QT):KT:=left kp 10 (K1 Q)
def K3 (Q:QT) (R10:T10):KT:=rnd ((kp.find 1000010).getD []) (E10 R10) (K2 Q)
def L10 (Q:QT) (a0:Pt) (i4 o4 i5 o5:Nat) (x42 x43:Int) (h:Zaa):Prop:=Zff (Den pg fn.ntmps (C [1,1,1,0,1,0,0])) ((kp.find 1000010).getD []) (K2 Q) [(0,.ptr a0),(4,.ptr (i4,o4)),(5,.ptr (i5,o5)),(42,.int .i64 x42),(43,.int .i64 x43)] h
def Ytu (Q:QT) (h:Zaa):Prop:=At (K1 Q) (.exit 0) [(6,.undef)] h
def L10t (Q:QT) (R10:T10) (a0:Pt) (i4 o4 i5 o5:Nat) (x42 x43:Int) (h:Zaa):Prop:=
 bcase (decide ((x43:Int) < x42)) (xSl (Zae h (.ptr (i4,o4 + 1))) fun A B C C=>(0≤(x43:Int)∧(x43:Int) < (B:Nat))∧(Zbg A fun A B=>Zcn (Zbj h (.ptr (A,B + (Int.toNat x43) * 2)) 2) fun C=>Zai C fun C D=>Zdt .u8 C fun C=>Zai D fun D E=>xSl D fun D F G H=>Zbu E (xSl (Zae h (.ptr (i5,o5 + 1))) fun E I J J=>(Zbj h (.ptr (A,B + (Int.toNat x43) * 2)) 2=Zbj h (.ptr (A,B + (Int.toNat x43) * 2)) 2)∧(Zae h (.ptr (i4,o4 + 1))=Zae h (.ptr (i4,o4 + 1)))∧(0≤(x43:Int)∧(x43:Int) < (I:Nat))∧(Zbg E fun E I=>Zcn (Zbj h (.ptr (E,I + (Int.toNat x43) * 2)) 2) fun E=>Zai E fun E I=>Zdt .u8 E fun E=>Zai I fun I J=>xSl I fun I K L M=>Zbu J ((Zbj h (.ptr (A,B + (Int.toNat x43) * 2)) 2=Zbj h (.ptr (A,B + (Int.toNat x43) * 2)) 2)∧(Zae h (.ptr (i4,o4 + 1))=Zae h (.ptr (i4,o4 + 1)))∧Zaj pg Zlp [.ptr a0,.agg [.int .u8 C,.slice D F G H],.agg [.int .u8 E,.slice I K L M]] h fun A B=>
 Zck A fun A=>(Zae B (.ptr (i4,o4 + 1))=Zae h (.ptr (i4,o4 + 1)))∧bcase (!A) (Q (.bool false) B) (R10 a0 i4 o4 i5 o5 x42 (IntKind.wrap .i64 (x43 + 1)) B)))))) (Ytu Q h)
theorem Yvd (Q:QT) (R10:T10) (a0:Pt) (i4 o4 i5 o5:Nat) (x42 x43:Int) (h:Zaa) (ht:L10t Q R10 a0 i4 o4 i5 o5 x42 x43 h):Den pg fn.ntmps (C [1,1,1,0,1,0,0]) [(0,.ptr a0),(4,.ptr (i4,o4)),(5,.ptr (i5,o5)),(42,.int .i64 x42),(43,.int .i64 x43)] h (K3 Q R10):=
 Zbf (kp:=kp) (cast (by kernel_rfl) ht)
theorem L10ind (Q:QT) (a0:Pt) (i4 o4 i5 o5:Nat) (x42:Int) {G:Type} (J:G→Int→Zaa→Prop) (m:G→Nat)
 (hr:∀ (g:G) (x43:Int) (h:Zaa),J g x43 h→∀ (R10:T10),(∀ g' (x43:Int) (h:Zaa),m g' < m g→J g' x43 h→R10 a0 i4 o4 i5 o5 x42 x43 h)→L10t Q R10 a0 i4 o4 i5 o5 x42 x43 h)
 (g:G) (x43:Int) (h:Zaa) (hj:J g x43 h):L10 Q a0 i4 o4 i5 o5 x42 x43 h:=by
 let P:=fun (K:Int→Zaa→Prop) a0' i4' o4' i5' o5' x42' x43 h=>a0=a0'∧i4=i4'∧o4=o4'∧i5=i5'∧o5=o5'∧x42=x42'∧K x43 h
 refine Zff.inv2 (fun g=>E10 (P (J g))) (fun g=>E10 (P fun x43 h=>∃ g',m g' < m g∧J g' x43 h)) m ?_ ?_ g ⟨rfl,rfl,rfl,rfl,rfl,rfl,hj⟩
 ·intro g env h hi
  obtain ⟨a0',i4',o4',i5',o5',x42',x43,rfl,rfl,rfl,rfl,rfl,rfl,rfl,hj⟩:=Ynx hi
  exact Yvd Q _ a0 i4 o4 i5 o5 x42 x43 h (hr g x43 h hj (P fun x43 h=>∃ g',m g' < m g∧J g' x43 h) fun g' x43 h hlt hj=>⟨rfl,rfl,rfl,rfl,rfl,rfl,g',hlt,hj⟩)
 ·intro g env h hi
  obtain ⟨a0',i4',o4',i5',o5',x42',x43,rfl,rfl,rfl,rfl,rfl,rfl,rfl,g',hlt,hj⟩:=Ynx hi
  exact ⟨g',hlt,rfl,rfl,rfl,rfl,rfl,rfl,hj⟩
theorem A10x0i (Q:QT) (h:Zaa) (ht :
 Q (.bool true) h):Ytu Q h:=
 At.mk (cast (by kernel_rfl) ht)
theorem call (a0:Pt) (x1x0:Int) (a1x1:Pt) (n1x1 c1x1:Nat) (e1x1:Bool) (x2x0:Int) (a2x1:Pt) (n2x1 c2x1:Nat) (e2x1:Bool) (h:Zaa) (Q:QT) (ht :
 Zch (h ++ [.cells Zak [.int .u8 x1x0,.slice a1x1 n1x1 c1x1 e1x1] false]) fun A=>Zch (A ++ [.cells Zak [.int .u8 x2x0,.slice a2x1 n2x1 c2x1 e2x1] false]) fun B=>Zdt .u8 (Zae B (.ptr (h.length,0 + 0))) fun C=>Zaj pg Zjf [.int .u8 C] B fun B C=>
 Zdt .i64 B fun B=>bcase (decide ((B:Int) ≥ 0)) (Zbg a0 fun D E=>(0≤(B:Int)∧(B:Int) < (12:Nat))∧(Zdt .u8 (Zae C (.ptr (D,E + (Int.toNat B) * 2 + 0))) fun D=>bcase ((D:Int) == 0) (Zbg a0 fun D E=>Zcn (Zbj C (.ptr (A.length,0)) 2) fun F=>Zai F fun F G=>Zdt .u8 F fun F=>Zai G fun G H=>xSl G fun G I J K=>Zbu H ((0≤(B:Int)∧(B:Int) < (12:Nat))∧(Zbn (Zaz C (.ptr (D,E + (Int.toNat B) * 2)) [.int .u8 F,.slice G I J K]) fun D=>Q (.bool true) D))) (Zbg a0 fun D E=>(0≤(B:Int)∧(B:Int) < (12:Nat))∧(Zcn (Zbj C (.ptr (D,E + (Int.toNat B) * 2)) 2) fun F=>Zai F fun F G=>Zdt .u8 F fun F=>Zai G fun G H=>xSl G fun G I J K=>Zbu H (Zcn (Zbj C (.ptr (A.length,0)) 2) fun H=>Zai H fun H L=>Zdt .u8 H fun H=>Zai L fun L M=>xSl L fun L N O P=>Zbu M (Zaj pg Zgf [.agg [.int .u8 F,.slice G I J K]] C fun F G=>
 Zbc F fun F=>(Zbj G (.ptr (A.length,0)) 2=Zbj C (.ptr (A.length,0)) 2)∧Zaj pg Zgf [.agg [.int .u8 H,.slice L N O P]] G fun H I=>
 Zbc H fun H=>(Zbj I (.ptr (D,E + (Int.toNat B) * 2)) 2=Zbj G (.ptr (D,E + (Int.toNat B) * 2)) 2)∧Q (.bool (decide (F=H))) I)))))) (Zdt .u8 (Zae C (.ptr (h.length,0 + 0))) fun B=>Zdt .u8 (Zae C (.ptr (A.length,0 + 0))) fun D=>bcase (!((B:Int) == D)) (Q (.bool false) C) (xSl (Zae C (.ptr (h.length,0 + 1))) fun B B D D=>L10 Q a0 h.length 0 A.length 0 (((B:Nat):Int)) 0 C))):Zaj pg Zlp [.ptr a0,.agg [.int .u8 x1x0,.slice a1x1 n1x1 c1x1 e1x1],.agg [.int .u8 x2x0,.slice a2x1 n2x1 c2x1 e2x1]] h Q:=
 Zaj.of_body kp (c:=cod fn) (fn:=fn) Go.Proofs.Tryz.func152 (by kernel_rfl) (by kernel_rfl) (Nat.le_of_ble_eq_true (by kernel_rfl))
  (cast (by kernel_rfl) ht)
end Zjh
end Go.Sim
