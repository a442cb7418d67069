/- A part of the proof of a statement of this seat: see the text that holds the theorem. No condition. -/
import Derived.Test.YtflfcofeedjblaaGreatDoorNm
set_option linter.unusedVariables false
set_option linter.unusedSimpArgs false
set_option linter.all false
set_option maxRecDepth 100000
set_option maxHeartbeats 0
set_option linter.unusedVariables false
namespace Go.Sim
open Go Go.RowKit
namespace Zdi
noncomputable abbrev fn:Func:=Go.Proofs.Tryz.f159
def kp:Zch:=[(3000004,[5]),(1000004,[0,1,5,6,7]),(4000005,[7,0,1,5,6])]
noncomputable def C (p:List Nat):Code:=(cod fn).sub p
def KR (Q:QT):KT:=Zfd pg fn.results.toList Q
abbrev T4:=List Nat→Int→Pt→Nat→Nat→Bool→Int→Int→Zaa→Prop
def E4 (R4:T4) (env:Env) (h:Zaa):Prop:=Zbu 0 env fun v env=>Zbd v fun x0=>Zbu 1 env fun v env=>Zdz .u8 v fun x1=>Zbu 5 env fun v env=>xSl v fun a5 n5 c5 e5=>Zbu 6 env fun v env=>Zdz .i64 v fun x6=>Zbu 7 env fun v env=>Zdz .i64 v fun x7=>Zin env (R4 x0 x1 a5 n5 c5 e5 x6 x7 h)
theorem Zns {R4:T4} {env:Env} {h:Zaa} (hi:E4 R4 env h):∃ x0,∃ x1,∃ a5,∃ n5,∃ c5,∃ e5,∃ x6,∃ x7,env=[(0,.str x0),(1,.int .u8 x1),(5,.slice a5 n5 c5 e5),(6,.int .i64 x6),(7,.int .i64 x7)]∧R4 x0 x1 a5 n5 c5 e5 x6 x7 h:=by
 unfold E4 at hi
 repeat ((first | (have k:=Zaf hi; clear hi; obtain ⟨_,_,e,hi⟩:=k) | (have k:=Zed hi; clear hi; obtain ⟨_,e,hi⟩:=k) | (have k:=Zbp hi; clear hi; obtain ⟨_,_,_,_,e,hi⟩:=k) | (have k:=Zav hi; clear hi; obtain ⟨_,e,hi⟩:=k)); subst e)
 obtain ⟨rfl,hi⟩:=Zbl hi
 exact ⟨_,_,_,_,_,_,_,_,rfl,hi⟩
def K0 (Q:QT):KT:=andThen (fun env' h'=>(match kp.find 4000009 with | some ks=>Den pg fn.ntmps (C [1,1,1,1]) (env'.keep ks) h' (KR Q) | none=>den pg fn.ntmps kp (C [1,1,1,1]) env' h' (KR Q))) (KR Q)
def K1 (Q:QT):KT:=Zcj 0 (K0 Q)
def K2 (Q:QT):KT:=left kp 4 (K1 Q)
def K3 (Q:QT) (R4:T4):KT:=rnd ((kp.find 1000004).getD []) (E4 R4) (K2 Q)
def L4 (Q:QT) (x0:List Nat) (x1:Int) (a5:Pt) (n5 c5:Nat) (e5:Bool) (x6 x7:Int) (h:Zaa):Prop:=Zej (Den pg fn.ntmps (C [1,1,1,0,1,0,0])) ((kp.find 1000004).getD []) (K2 Q) [(0,.str x0),(1,.int .u8 x1),(5,.slice a5 n5 c5 e5),(6,.int .i64 x6),(7,.int .i64 x7)] h
def J5 (Q:QT) (R4:T4) (x7:Int) (x0:List Nat) (x1:Int) (a5:Pt) (n5 c5:Nat) (e5:Bool) (x6:Int) (h:Zaa):Prop:=Den pg fn.ntmps (C [1,1,1,0,1,0,0,1,1]) [(7,.int .i64 x7),(0,.str x0),(1,.int .u8 x1),(5,.slice a5 n5 c5 e5),(6,.int .i64 x6)] h (K3 Q R4)
def Ygg (Q:QT) (a5:Pt) (n5 c5:Nat) (e5:Bool) (h:Zaa):Prop:=At (K1 Q) (.exit 0) [(5,.slice a5 n5 c5 e5)] h
def L4t (Q:QT) (R4:T4) (x0:List Nat) (x1:Int) (a5:Pt) (n5 c5:Nat) (e5:Bool) (x6 x7:Int) (h:Zaa):Prop:=
 bcase (decide ((x7:Int)≤(((List.length x0:Nat):Int)))) (bcase ((x7:Int) == (((List.length x0:Nat):Int))) ((0≤(x6:Int)∧(x6:Int)≤x7∧(x7:Int)≤(List.length x0:Nat))∧(Zcf (h ++ [.cells Zbi [.str (sub x0 x6 x7)] false]) fun A=>Zci pg Zka A (.slice a5 n5 c5 e5) (.slice (h.length,0) 1 1 true) fun A B=>xSl A fun A C D E=>J5 Q R4 x7 x0 x1 A C D E (IntKind.wrap .i64 (x7 + 1)) B)) (Zmo x0 x7 fun A=>bcase ((((A:Nat):Int):Int) == x1) ((0≤(x6:Int)∧(x6:Int)≤x7∧(x7:Int)≤(List.length x0:Nat))∧(Zcf (h ++ [.cells Zbi [.str (sub x0 x6 x7)] false]) fun A=>Zci pg Zka A (.slice a5 n5 c5 e5) (.slice (h.length,0) 1 1 true) fun A B=>xSl A fun A C D E=>J5 Q R4 x7 x0 x1 A C D E (IntKind.wrap .i64 (x7 + 1)) B)) (J5 Q R4 x7 x0 x1 a5 n5 c5 e5 x6 h))) (Ygg Q a5 n5 c5 e5 h)
theorem Yaz (Q:QT) (R4:T4) (x0:List Nat) (x1:Int) (a5:Pt) (n5 c5:Nat) (e5:Bool) (x6 x7:Int) (h:Zaa) (ht:L4t Q R4 x0 x1 a5 n5 c5 e5 x6 x7 h):Den pg fn.ntmps (C [1,1,1,0,1,0,0]) [(0,.str x0),(1,.int .u8 x1),(5,.slice a5 n5 c5 e5),(6,.int .i64 x6),(7,.int .i64 x7)] h (K3 Q R4):=
 Zba (kp:=kp) (cast (by kernel_rfl) ht)
theorem L4ind (Q:QT) (x0:List Nat) (x1:Int) {G:Type} (J:G→Pt→Nat→Nat→Bool→Int→Int→Zaa→Prop) (m:G→Nat)
 (hr:∀ (g:G) (a5:Pt) (n5 c5:Nat) (e5:Bool) (x6 x7:Int) (h:Zaa),J g a5 n5 c5 e5 x6 x7 h→∀ (R4:T4),(∀ g' (a5:Pt) (n5 c5:Nat) (e5:Bool) (x6 x7:Int) (h:Zaa),m g' < m g→J g' a5 n5 c5 e5 x6 x7 h→R4 x0 x1 a5 n5 c5 e5 x6 x7 h)→L4t Q R4 x0 x1 a5 n5 c5 e5 x6 x7 h)
 (g:G) (a5:Pt) (n5 c5:Nat) (e5:Bool) (x6 x7:Int) (h:Zaa) (hj:J g a5 n5 c5 e5 x6 x7 h):L4 Q x0 x1 a5 n5 c5 e5 x6 x7 h:=by
 let P:=fun (K:Pt→Nat→Nat→Bool→Int→Int→Zaa→Prop) x0' x1' a5 n5 c5 e5 x6 x7 h=>x0=x0'∧x1=x1'∧K a5 n5 c5 e5 x6 x7 h
 refine Zej.inv2 (fun g=>E4 (P (J g))) (fun g=>E4 (P fun a5 n5 c5 e5 x6 x7 h=>∃ g',m g' < m g∧J g' a5 n5 c5 e5 x6 x7 h)) m ?_ ?_ g ⟨rfl,rfl,hj⟩
 ·intro g env h hi
  obtain ⟨x0',x1',a5,n5,c5,e5,x6,x7,rfl,rfl,rfl,hj⟩:=Zns hi
  exact Yaz Q _ x0 x1 a5 n5 c5 e5 x6 x7 h (hr g a5 n5 c5 e5 x6 x7 h hj (P fun a5 n5 c5 e5 x6 x7 h=>∃ g',m g' < m g∧J g' a5 n5 c5 e5 x6 x7 h) fun g' a5 n5 c5 e5 x6 x7 h hlt hj=>⟨rfl,rfl,g',hlt,hj⟩)
 ·intro g env h hi
  obtain ⟨x0',x1',a5,n5,c5,e5,x6,x7,rfl,rfl,rfl,g',hlt,hj⟩:=Zns hi
  exact ⟨g',hlt,rfl,rfl,hj⟩
theorem J5i (Q:QT) (R4:T4) (x7:Int) (x0:List Nat) (x1:Int) (a5:Pt) (n5 c5:Nat) (e5:Bool) (x6:Int) (h:Zaa) (ht :
 R4 x0 x1 a5 n5 c5 e5 x6 (IntKind.wrap .i64 (x7 + 1)) h):J5 Q R4 x7 x0 x1 a5 n5 c5 e5 x6 h:=
 Zba (kp:=kp) (cast (by kernel_rfl) ht)
theorem A4x0i (Q:QT) (a5:Pt) (n5 c5:Nat) (e5:Bool) (h:Zaa) (ht :
 Q (.slice a5 n5 c5 e5) h):Ygg Q a5 n5 c5 e5 h:=
 At.mk (cast (by kernel_rfl) ht)
theorem call (x0:List Nat) (x1:Int) (h:Zaa) (Q:QT) (ht :
 Zcf (h ++ [.cells Zbi [] false]) fun A=>L4 Q x0 x1 (h.length,0) 0 0 true 0 0 A):Zak pg Zis [.str x0,.int .u8 x1] h Q:=
 Zak.of_body kp (c:=cod fn) (fn:=fn) Go.Proofs.Tryz.func159 (by kernel_rfl) (by kernel_rfl) (Nat.le_of_ble_eq_true (by kernel_rfl))
  (cast (by kernel_rfl) ht)
end Zdi
end Go.Sim

set_option maxRecDepth 100000
set_option maxHeartbeats 0
set_option linter.unusedVariables false
namespace Go.Sim
open Go Go.RowKit
namespace Zld
noncomputable abbrev fn:Func:=Go.Proofs.Tryz.f88
def kp:Zch:=[(3000002,[4]),(1000002,[0,1,5])]
noncomputable def C (p:List Nat):Code:=(cod fn).sub p
def KR (Q:QT):KT:=Zfd pg fn.results.toList Q
abbrev T2:=List Nat→Int→Int→Zaa→Prop
def E2 (R2:T2) (env:Env) (h:Zaa):Prop:=Zbu 0 env fun v env=>Zbd v fun x0=>Zbu 1 env fun v env=>Zdz .u8 v fun x1=>Zbu 5 env fun v env=>Zdz .i64 v fun x5=>Zin env (R2 x0 x1 x5 h)
theorem Zea {R2:T2} {env:Env} {h:Zaa} (hi:E2 R2 env h):∃ x0,∃ x1,∃ x5,env=[(0,.str x0),(1,.int .u8 x1),(5,.int .i64 x5)]∧R2 x0 x1 x5 h:=by
 unfold E2 at hi
 repeat ((first | (have k:=Zaf hi; clear hi; obtain ⟨_,_,e,hi⟩:=k) | (have k:=Zed hi; clear hi; obtain ⟨_,e,hi⟩:=k) | (have k:=Zav hi; clear hi; obtain ⟨_,e,hi⟩:=k)); subst e)
 obtain ⟨rfl,hi⟩:=Zbl hi
 exact ⟨_,_,_,rfl,hi⟩
def K0 (Q:QT):KT:=andThen (fun env' h'=>(match kp.find 4000006 with | some ks=>Den pg fn.ntmps (C [1,1]) (env'.keep ks) h' (KR Q) | none=>den pg fn.ntmps kp (C [1,1]) env' h' (KR Q))) (KR Q)
def K1 (Q:QT):KT:=Zcj 0 (K0 Q)
def K2 (Q:QT):KT:=left kp 2 (K1 Q)
def K3 (Q:QT) (R2:T2):KT:=rnd ((kp.find 1000002).getD []) (E2 R2) (K2 Q)
def L2 (Q:QT) (x0:List Nat) (x1 x5:Int) (h:Zaa):Prop:=Zej (Den pg fn.ntmps (C [1,0,1,0,0])) ((kp.find 1000002).getD []) (K2 Q) [(0,.str x0),(1,.int .u8 x1),(5,.int .i64 x5)] h
def Zmy (Q:QT) (h:Zaa):Prop:=At (K1 Q) (.exit 0) [(4,.undef)] h
def L2t (Q:QT) (R2:T2) (x0:List Nat) (x1 x5:Int) (h:Zaa):Prop:=
 bcase (decide ((x5:Int) < (((List.length x0:Nat):Int)))) (Zmo x0 x5 fun A=>bcase ((((A:Nat):Int):Int) == x1) (Q (.int .i64 x5) h) (R2 x0 x1 (IntKind.wrap .i64 (x5 + 1)) h)) (Zmy Q h)
theorem Zje (Q:QT) (R2:T2) (x0:List Nat) (x1 x5:Int) (h:Zaa) (ht:L2t Q R2 x0 x1 x5 h):Den pg fn.ntmps (C [1,0,1,0,0]) [(0,.str x0),(1,.int .u8 x1),(5,.int .i64 x5)] h (K3 Q R2):=
 Zba (kp:=kp) (cast (by kernel_rfl) ht)
theorem L2ind (Q:QT) (x0:List Nat) (x1:Int) {G:Type} (J:G→Int→Zaa→Prop) (m:G→Nat)
 (hr:∀ (g:G) (x5:Int) (h:Zaa),J g x5 h→∀ (R2:T2),(∀ g' (x5:Int) (h:Zaa),m g' < m g→J g' x5 h→R2 x0 x1 x5 h)→L2t Q R2 x0 x1 x5 h)
 (g:G) (x5:Int) (h:Zaa) (hj:J g x5 h):L2 Q x0 x1 x5 h:=by
 let P:=fun (K:Int→Zaa→Prop) x0' x1' x5 h=>x0=x0'∧x1=x1'∧K x5 h
 refine Zej.inv2 (fun g=>E2 (P (J g))) (fun g=>E2 (P fun x5 h=>∃ g',m g' < m g∧J g' x5 h)) m ?_ ?_ g ⟨rfl,rfl,hj⟩
 ·intro g env h hi
  obtain ⟨x0',x1',x5,rfl,rfl,rfl,hj⟩:=Zea hi
  exact Zje Q _ x0 x1 x5 h (hr g x5 h hj (P fun x5 h=>∃ g',m g' < m g∧J g' x5 h) fun g' x5 h hlt hj=>⟨rfl,rfl,g',hlt,hj⟩)
 ·intro g env h hi
  obtain ⟨x0',x1',x5,rfl,rfl,rfl,g',hlt,hj⟩:=Zea hi
  exact ⟨g',hlt,rfl,rfl,hj⟩
theorem A2x0i (Q:QT) (h:Zaa) (ht :
 Q (.int .i64 (-1)) h):Zmy Q h:=
 At.mk (cast (by kernel_rfl) ht)
theorem call (x0:List Nat) (x1:Int) (h:Zaa) (Q:QT) (ht :
 L2 Q x0 x1 0 h):Zak pg Zhv [.str x0,.int .u8 x1] h Q:=
 Zak.of_body kp (c:=cod fn) (fn:=fn) Go.Proofs.Tryz.func88 (by kernel_rfl) (by kernel_rfl) (Nat.le_of_ble_eq_true (by kernel_rfl))
  (cast (by kernel_rfl) ht)
end Zld
namespace Zqy
noncomputable abbrev fn:Func:=Go.Proofs.Tryz.f148
def kp:Zch:=[(4000008,[])]
noncomputable def C (p:List Nat):Code:=(cod fn).sub p
def KR (Q:QT):KT:=Zfd pg fn.results.toList Q
def J8 (Q:QT) (h:Zaa):Prop:=Den pg fn.ntmps (C [1,1]) [] h (KR Q)
theorem J8i (Q:QT) (h:Zaa) (ht :
 Q (.int .i64 0) h):J8 Q h:=
 Zba (kp:=kp) (cast (by kernel_rfl) ht)
theorem call (x0:Int) (h:Zaa) (Q:QT) (ht :
 Zak pg Zhv [.str ([105,98,117,108,109,112,120,121,122,88,89,90]),.int .u8 x0] h fun A B=>
 Zeb .i64 A fun A=>bcase (decide ((A:Int) < 0)) (Q (.int .i64 (-1)) B) (bcase ((A:Int) == 3) (Q (.int .i64 1) B) (bcase ((A:Int) == 4) (Q (.int .i64 1) B) (bcase ((A:Int) == 5) (Q (.int .i64 2) B) (J8 Q B))))):Zak pg Znq [.int .u8 x0] h Q:=
 Zak.of_body kp (c:=cod fn) (fn:=fn) Go.Proofs.Tryz.func148 (by kernel_rfl) (by kernel_rfl) (Nat.le_of_ble_eq_true (by kernel_rfl))
  (cast (by kernel_rfl) ht)
end Zqy
namespace Zos
noncomputable abbrev fn:Func:=Go.Proofs.Tryz.f147
def kp:Zch:=[(2000001,[12,0]),(2000005,[2])]
noncomputable def C (p:List Nat):Code:=(cod fn).sub p
def KR (Q:QT):KT:=Zfd pg fn.results.toList Q
theorem call (a0:Pt) (h:Zaa) (Q:QT) (ht :
 Zbf a0 fun A B=>Zbf a0 fun C D=>Zeb .i64 (Zag h (.ptr (A,B + 1))) fun E=>Zbd (Zag h (.ptr (C,D + 0))) fun C=>(Zag h (.ptr (A,B + 1))=Zag h (.ptr (A,B + 1)))∧bcase (decide ((E:Int) ≥ (((List.length C:Nat):Int)))) (Zbf a0 fun A B=>Zbt (Zbb h (.ptr (A,B + 2)) [.bool true]) fun A=>Q (.int .u8 0) A) (Zbf a0 fun A B=>Zeb .i64 (Zag h (.ptr (A,B + 1))) fun A=>Zbf a0 fun B C=>Zbt (Zbb h (.ptr (B,C + 1)) [.int .i64 (IntKind.wrap .i64 (A + 1))]) fun A=>Zbf a0 fun B C=>Zbf a0 fun D E=>Zbd (Zag A (.ptr (B,C + 0))) fun F=>Zeb .i64 (Zag A (.ptr (D,E + 1))) fun D=>(Zag A (.ptr (B,C + 0))=Zag A (.ptr (B,C + 0)))∧Zmo F (IntKind.wrap .i64 (D - 1)) fun B=>Q (.int .u8 (((B:Nat):Int))) A)):Zak pg Zgx [.ptr a0] h Q:=
 Zak.of_body kp (c:=cod fn) (fn:=fn) Go.Proofs.Tryz.func147 (by kernel_rfl) (by kernel_rfl) (Nat.le_of_ble_eq_true (by kernel_rfl))
  (cast (by kernel_rfl) ht)
end Zos
namespace Zby
noncomputable abbrev fn:Func:=Go.Proofs.Tryz.f130
def kp:Zch:=[(4000004,[0,2,3,4]),(3000005,[4,0,3,2]),(1000005,[0,2,3,4,5]),(4000007,[0,5,3,4,2]),(2000007,[0,3,5,4,2]),(4000008,[0,3,5,4,2]),(2000009,[5,4,0,3,2]),(4000006,[5,4,0,3,2]),(4000012,[3,2])]
noncomputable def C (p:List Nat):Code:=(cod fn).sub p
def KR (Q:QT):KT:=Zfd pg fn.results.toList Q
abbrev T5:=Pt→Nat→Nat→Nat→Nat→Int→Int→Zaa→Prop
def E5 (R5:T5) (env:Env) (h:Zaa):Prop:=Zbu 0 env fun v env=>Zgn v fun a0=>Zbu 2 env fun v env=>Zgn v fun a=>Zbf a fun i2 o2=>Zbu 3 env fun v env=>Zgn v fun a=>Zbf a fun i3 o3=>Zbu 4 env fun v env=>Zdz .i64 v fun x4=>Zbu 5 env fun v env=>Zdz .i64 v fun x5=>Zin env (R5 a0 i2 o2 i3 o3 x4 x5 h)
theorem Zik {R5:T5} {env:Env} {h:Zaa} (hi:E5 R5 env h):∃ a0,∃ i2,∃ o2,∃ i3,∃ o3,∃ x4,∃ x5,env=[(0,.ptr a0),(2,.ptr (i2,o2)),(3,.ptr (i3,o3)),(4,.int .i64 x4),(5,.int .i64 x5)]∧R5 a0 i2 o2 i3 o3 x4 x5 h:=by
 unfold E5 at hi
 have hi0:=hi
 clear hi
 obtain ⟨_,_,rfl,hi1⟩:=Zaf hi0
 obtain ⟨a0,rfl,hi2⟩:=Zbn hi1
 obtain ⟨_,_,rfl,hi3⟩:=Zaf hi2
 obtain ⟨a,rfl,hi4⟩:=Zbn hi3
 obtain ⟨i2,o2,rfl,hi5⟩:=Zbk hi4
 obtain ⟨_,_,rfl,hi6⟩:=Zaf hi5
 obtain ⟨a,rfl,hi7⟩:=Zbn hi6
 obtain ⟨i3,o3,rfl,hi8⟩:=Zbk hi7
 obtain ⟨_,_,rfl,hi9⟩:=Zaf hi8
 obtain ⟨x4,rfl,hi10⟩:=Zav hi9
 obtain ⟨_,_,rfl,hi11⟩:=Zaf hi10
 obtain ⟨x5,rfl,hi12⟩:=Zav hi11
 obtain ⟨rfl,hi13⟩:=Zbl hi12
 have hi:=hi13
 exact ⟨a0,i2,o2,i3,o3,x4,x5,rfl,hi⟩
def K0 (Q:QT):KT:=andThen (fun env' h'=>(match kp.find 4000010 with | some ks=>Den pg fn.ntmps (C [1,1,1,1,1]) (env'.keep ks) h' (KR Q) | none=>den pg fn.ntmps kp (C [1,1,1,1,1]) env' h' (KR Q))) (KR Q)
def K1 (Q:QT):KT:=Zcj 0 (K0 Q)
def K2 (Q:QT):KT:=left kp 5 (K1 Q)
def K3 (Q:QT) (R5:T5):KT:=rnd ((kp.find 1000005).getD []) (E5 R5) (K2 Q)
def K4 (Q:QT) (R5:T5):KT:=andThen (fun env' h'=>(match kp.find 4000006 with | some ks=>Den pg fn.ntmps (C [1,1,1,1,0,1,0,0,1,1]) (env'.keep ks) h' (K3 Q R5) | none=>den pg fn.ntmps kp (C [1,1,1,1,0,1,0,0,1,1]) env' h' (K3 Q R5))) (K3 Q R5)
def K5 (Q:QT) (R5:T5):KT:=Zcj 1 (K4 Q R5)
def J4 (Q:QT) (a0:Pt) (i2 o2 i3 o3:Nat) (x4:Int) (h:Zaa):Prop:=Den pg fn.ntmps (C [1,1,1,1]) [(0,.ptr a0),(2,.ptr (i2,o2)),(3,.ptr (i3,o3)),(4,.int .i64 x4)] h (KR Q)
def L5 (Q:QT) (a0:Pt) (i2 o2 i3 o3:Nat) (x4 x5:Int) (h:Zaa):Prop:=Zej (Den pg fn.ntmps (C [1,1,1,1,0,1,0,0])) ((kp.find 1000005).getD []) (K2 Q) [(0,.ptr a0),(2,.ptr (i2,o2)),(3,.ptr (i3,o3)),(4,.int .i64 x4),(5,.int .i64 x5)] h
def J7 (Q:QT) (R5:T5) (a0:Pt) (x5:Int) (i3 o3:Nat) (x4:Int) (i2 o2:Nat) (h:Zaa):Prop:=Den pg fn.ntmps (C [1,1,1,1,0,1,0,0,1]) [(0,.ptr a0),(5,.int .i64 x5),(3,.ptr (i3,o3)),(4,.int .i64 x4),(2,.ptr (i2,o2))] h (K3 Q R5)
def A5x0 (Q:QT) (x4:Int) (a0:Pt) (i3 o3 i2 o2:Nat) (h:Zaa):Prop:=At (K1 Q) (.exit 0) [(4,.int .i64 x4),(0,.ptr a0),(3,.ptr (i3,o3)),(2,.ptr (i2,o2))] h
def J8 (Q:QT) (R5:T5) (a0:Pt) (i3 o3:Nat) (x5 x4:Int) (i2 o2:Nat) (h:Zaa):Prop:=Den pg fn.ntmps (C [1,1,1,1,0,1,0,0,1,0,0,1]) [(0,.ptr a0),(3,.ptr (i3,o3)),(5,.int .i64 x5),(4,.int .i64 x4),(2,.ptr (i2,o2))] h (K5 Q R5)
def J12 (Q:QT) (i3 o3 i2 o2:Nat) (h:Zaa):Prop:=Den pg fn.ntmps (C [1,1,1,1,1,1]) [(3,.ptr (i3,o3)),(2,.ptr (i2,o2))] h (KR Q)
def J6 (Q:QT) (R5:T5) (x5 x4:Int) (a0:Pt) (i3 o3 i2 o2:Nat) (h:Zaa):Prop:=Den pg fn.ntmps (C [1,1,1,1,0,1,0,0,1,1]) [(5,.int .i64 x5),(4,.int .i64 x4),(0,.ptr a0),(3,.ptr (i3,o3)),(2,.ptr (i2,o2))] h (K3 Q R5)
theorem J4i (Q:QT) (a0:Pt) (i2 o2 i3 o3:Nat) (x4:Int) (h:Zaa) (ht :
 L5 Q a0 i2 o2 i3 o3 x4 0 h):J4 Q a0 i2 o2 i3 o3 x4 h:=
 Zba (kp:=kp) (cast (by kernel_rfl) ht)
def L5t (Q:QT) (R5:T5) (a0:Pt) (i2 o2 i3 o3:Nat) (x4 x5:Int) (h:Zaa):Prop:=
 bcase (decide ((x5:Int) < x4)) (Zbf a0 fun A B=>Zbz (Zag h (.ptr (A,B + 2))) fun A=>bcase (!A) (J7 Q R5 a0 x5 i3 o3 x4 i2 o2 h) (A5x0 Q x4 a0 i3 o3 i2 o2 h)) (A5x0 Q x4 a0 i3 o3 i2 o2 h)
theorem Zua (Q:QT) (R5:T5) (a0:Pt) (i2 o2 i3 o3:Nat) (x4 x5:Int) (h:Zaa) (ht:L5t Q R5 a0 i2 o2 i3 o3 x4 x5 h):Den pg fn.ntmps (C [1,1,1,1,0,1,0,0]) [(0,.ptr a0),(2,.ptr (i2,o2)),(3,.ptr (i3,o3)),(4,.int .i64 x4),(5,.int .i64 x5)] h (K3 Q R5):=
 Zba (kp:=kp) (cast (by kernel_rfl) ht)
theorem L5ind (Q:QT) (a0:Pt) (i2 o2 i3 o3:Nat) (x4:Int) {G:Type} (J:G→Int→Zaa→Prop) (m:G→Nat)
 (hr:∀ (g:G) (x5:Int) (h:Zaa),J g x5 h→∀ (R5:T5),(∀ g' (x5:Int) (h:Zaa),m g' < m g→J g' x5 h→R5 a0 i2 o2 i3 o3 x4 x5 h)→L5t Q R5 a0 i2 o2 i3 o3 x4 x5 h)
 (g:G) (x5:Int) (h:Zaa) (hj:J g x5 h):L5 Q a0 i2 o2 i3 o3 x4 x5 h:=by
 let P:=fun (K:Int→Zaa→Prop) a0' i2' o2' i3' o3' x4' x5 h=>a0=a0'∧i2=i2'∧o2=o2'∧i3=i3'∧o3=o3'∧x4=x4'∧K x5 h
 refine Zej.inv2 (fun g=>E5 (P (J g))) (fun g=>E5 (P fun x5 h=>∃ g',m g' < m g∧J g' x5 h)) m ?_ ?_ g ⟨rfl,rfl,rfl,rfl,rfl,rfl,hj⟩
 ·intro g env h hi
  obtain ⟨a0',i2',o2',i3',o3',x4',x5,rfl,rfl,rfl,rfl,rfl,rfl,rfl,hj⟩:=Zik hi
  exact Zua Q _ a0 i2 o2 i3 o3 x4 x5 h (hr g x5 h hj (P fun x5 h=>∃ g',m g' < m g∧J g' x5 h) fun g' x5 h hlt hj=>⟨rfl,rfl,rfl,rfl,rfl,rfl,g',hlt,hj⟩)
 ·intro g env h hi
  obtain ⟨a0',i2',o2',i3',o3',x4',x5,rfl,rfl,rfl,rfl,rfl,rfl,rfl,g',hlt,hj⟩:=Zik hi
  exact ⟨g',hlt,rfl,rfl,rfl,rfl,rfl,rfl,hj⟩
theorem J7i (Q:QT) (R5:T5) (a0:Pt) (x5:Int) (i3 o3:Nat) (x4:Int) (i2 o2:Nat) (h:Zaa) (ht :
 Zmo ([40,44]) x5 fun A=>Zak pg Zgx [.ptr a0] h fun B C=>
 Zeb .u8 B fun B=>bcase (!((B:Int) == (((A:Nat):Int)))) (Zbf a0 fun A B=>Zbt (Zbb C (.ptr (A,B + 2)) [.bool true]) fun A=>J8 Q R5 a0 i3 o3 x5 x4 i2 o2 A) (Zbf a0 fun A B=>Zbz (Zag C (.ptr (A,B + 2))) fun A=>Zbf a0 fun B D=>Zbt (Zbb C (.ptr (B,D + 2)) [.bool A]) fun A=>J8 Q R5 a0 i3 o3 x5 x4 i2 o2 A)):J7 Q R5 a0 x5 i3 o3 x4 i2 o2 h:=
 Zba (kp:=kp) (cast (by kernel_rfl) ht)
theorem A5x0i (Q:QT) (x4:Int) (a0:Pt) (i3 o3 i2 o2:Nat) (h:Zaa) (ht :
 bcase (decide ((x4:Int) > 0)) (Zbf a0 fun A B=>Zbz (Zag h (.ptr (A,B + 2))) fun A=>bcase (!A) (Zak pg Zgx [.ptr a0] h fun A B=>
 Zeb .u8 A fun A=>bcase (!((A:Int) == 41)) (Zbf a0 fun A C=>Zbt (Zbb B (.ptr (A,C + 2)) [.bool true]) fun A=>J12 Q i3 o3 i2 o2 A) (Zbf a0 fun A C=>Zbz (Zag B (.ptr (A,C + 2))) fun A=>Zbf a0 fun C D=>Zbt (Zbb B (.ptr (C,D + 2)) [.bool A]) fun A=>J12 Q i3 o3 i2 o2 A)) (J12 Q i3 o3 i2 o2 h)) (J12 Q i3 o3 i2 o2 h)):A5x0 Q x4 a0 i3 o3 i2 o2 h:=
 At.mk (cast (by kernel_rfl) ht)
theorem J8i (Q:QT) (R5:T5) (a0:Pt) (i3 o3:Nat) (x5 x4:Int) (i2 o2:Nat) (h:Zaa) (ht :
 Zbf a0 fun A B=>Zbz (Zag h (.ptr (A,B + 2))) fun A=>bcase (!A) (xSl (Zag h (.ptr (i3,o3 + 1))) fun A B C D=>Zak pg Zgb [.ptr a0] h fun E F=>
 Zqh E fun E=>Zai E fun E G=>Zeb .u8 E fun E=>Zai G fun G H=>xSl G fun G I J K=>Zbq H ((Zag F (.ptr (i3,o3 + 1))=Zag h (.ptr (i3,o3 + 1)))∧Zcf (F ++ [.cells Zap [.int .u8 E,.slice G I J K] false]) fun E=>(Zag E (.ptr (i3,o3 + 1))=Zag F (.ptr (i3,o3 + 1)))∧Zci pg Zmg E (.slice A B C D) (.slice (F.length,0) 1 1 true) fun A B=>xSl A fun A C D E=>Zbt (Zbb B (.ptr (i3,o3 + 1)) [.slice A C D E]) fun A=>J6 Q R5 x5 x4 a0 i3 o3 i2 o2 A)) (J6 Q R5 x5 x4 a0 i3 o3 i2 o2 h)):J8 Q R5 a0 i3 o3 x5 x4 i2 o2 h:=
 Zba (kp:=kp) (cast (by kernel_rfl) ht)
theorem J12i (Q:QT) (i3 o3 i2 o2:Nat) (h:Zaa) (ht :
 Zcd (Zbe h (.ptr (i3,o3)) 2) fun A=>Zai A fun A B=>Zeb .u8 A fun A=>Zai B fun B C=>xSl B fun B D E F=>Zbq C (Zbt (Zbb h (.ptr (i2,o2)) [.int .u8 A,.slice B D E F]) fun A=>Zcd (Zbe A (.ptr (i2,o2)) 2) fun B=>Zai B fun B C=>Zeb .u8 B fun B=>Zai C fun C D=>xSl C fun C E F G=>Zbq D (Q (.agg [.int .u8 B,.slice C E F G]) A))):J12 Q i3 o3 i2 o2 h:=
 Zba (kp:=kp) (cast (by kernel_rfl) ht)
theorem J6i (Q:QT) (R5:T5) (x5 x4:Int) (a0:Pt) (i3 o3 i2 o2:Nat) (h:Zaa) (ht :
 R5 a0 i2 o2 i3 o3 x4 (IntKind.wrap .i64 (x5 + 1)) h):J6 Q R5 x5 x4 a0 i3 o3 i2 o2 h:=
 Zba (kp:=kp) (cast (by kernel_rfl) ht)
theorem call (a0:Pt) (h:Zaa) (Q:QT) (ht :
 Zcf (h ++ [.cells Zap [.int .u8 0,.slice none 0 0 true] false]) fun A=>Zak pg Zgx [.ptr a0] A fun A B=>
 Zeb .u8 A fun A=>Zcf (B ++ [.cells Zap [] false]) fun C=>Zcf (C ++ [.cells Zap [.int .u8 0,.slice none 0 0 true] false]) fun D=>Zbt (Zbb D (.ptr (C.length,0)) [.int .u8 A,.slice (B.length,0) 0 0 true]) fun A=>Zeb .u8 (Zag A (.ptr (C.length,0 + 0))) fun B=>Zak pg Znq [.int .u8 B] A fun A B=>
 Zeb .i64 A fun A=>Zbf a0 fun D E=>Zbz (Zag B (.ptr (D,E + 2))) fun D=>bcase D (Zbf a0 fun D E=>Zbt (Zbb B (.ptr (D,E + 2)) [.bool true]) fun D=>J4 Q a0 h.length 0 C.length 0 A D) (Zbf a0 fun D E=>Zbt (Zbb B (.ptr (D,E + 2)) [.bool (decide ((A:Int) < 0))]) fun B=>J4 Q a0 h.length 0 C.length 0 A B)):Zak pg Zgb [.ptr a0] h Q:=
 Zak.of_body kp (c:=cod fn) (fn:=fn) Go.Proofs.Tryz.func130 (by kernel_rfl) (by kernel_rfl) (Nat.le_of_ble_eq_true (by kernel_rfl))
  (cast (by kernel_rfl) ht)
end Zby
namespace Zsq
noncomputable abbrev fn:Func:=Go.Proofs.Tryz.f107
def kp:Zch:=[(4000005,[5,2])]
noncomputable def C (p:List Nat):Code:=(cod fn).sub p
def KR (Q:QT):KT:=Zfd pg fn.results.toList Q
def J5 (Q:QT) (i5 o5 i2 o2:Nat) (h:Zaa):Prop:=Den pg fn.ntmps (C [1,1,1,1]) [(5,.ptr (i5,o5)),(2,.ptr (i2,o2))] h (KR Q)
theorem J5i (Q:QT) (i5 o5 i2 o2:Nat) (h:Zaa) (ht :
 Zcd (Zbe h (.ptr (i5,o5)) 2) fun A=>Zai A fun A B=>Zeb .u8 A fun A=>Zai B fun B C=>xSl B fun B D E F=>Zbq C (Zbt (Zbb h (.ptr (i2,o2)) [.int .u8 A,.slice B D E F]) fun A=>Zcd (Zbe A (.ptr (i2,o2)) 2) fun B=>Zai B fun B C=>Zeb .u8 B fun B=>Zai C fun C D=>xSl C fun C E F G=>Zbq D (Q (.tup [.agg [.int .u8 B,.slice C E F G],.bool true]) A))):J5 Q i5 o5 i2 o2 h:=
 Zba (kp:=kp) (cast (by kernel_rfl) ht)
theorem call (x0:List Nat) (h:Zaa) (Q:QT) (ht :
 Zcf (h ++ [.cells Zap [.int .u8 0,.slice none 0 0 true] false]) fun A=>Zcf (A ++ [.cells Zen [.str x0,.int .i64 0,.bool false] false]) fun B=>Zak pg Zgb [.ptr (A.length,0)] B fun B C=>
 Zqh B fun B=>Zai B fun B D=>Zeb .u8 B fun B=>Zai D fun D E=>xSl D fun D F G H=>Zbq E (Zcf (C ++ [.cells Zap [.int .u8 0,.slice none 0 0 true] false]) fun E=>Zbt (Zbb E (.ptr (C.length,0)) [.int .u8 B,.slice D F G H]) fun B=>Zbz (Zag B (.ptr (A.length,0 + 2))) fun D=>bcase D (Zbt (Zbb B (.ptr (h.length,0)) [.int .u8 0,.slice none 0 0 true]) fun D=>Zcd (Zbe D (.ptr (h.length,0)) 2) fun E=>Zai E fun E F=>Zeb .u8 E fun E=>Zai F fun F G=>xSl F fun F H I J=>Zbq G (Q (.tup [.agg [.int .u8 E,.slice F H I J],.bool false]) D)) (Zeb .i64 (Zag B (.ptr (A.length,0 + 1))) fun A=>bcase (!((A:Int) == (((List.length x0:Nat):Int)))) (Zbt (Zbb B (.ptr (h.length,0)) [.int .u8 0,.slice none 0 0 true]) fun A=>Zcd (Zbe A (.ptr (h.length,0)) 2) fun D=>Zai D fun D E=>Zeb .u8 D fun D=>Zai E fun E F=>xSl E fun E G H I=>Zbq F (Q (.tup [.agg [.int .u8 D,.slice E G H I],.bool false]) A)) (bcase (decide (((((List.length x0:Nat):Int)):Int) > 60)) (Zbt (Zbb B (.ptr (h.length,0)) [.int .u8 0,.slice none 0 0 true]) fun A=>Zcd (Zbe A (.ptr (h.length,0)) 2) fun D=>Zai D fun D E=>Zeb .u8 D fun D=>Zai E fun E F=>xSl E fun E G H I=>Zbq F (Q (.tup [.agg [.int .u8 D,.slice E G H I],.bool false]) A)) (J5 Q C.length 0 h.length 0 B))))):Zak pg Zhd [.str x0] h Q:=
 Zak.of_body kp (c:=cod fn) (fn:=fn) Go.Proofs.Tryz.func107 (by kernel_rfl) (by kernel_rfl) (Nat.le_of_ble_eq_true (by kernel_rfl))
  (cast (by kernel_rfl) ht)
end Zsq
namespace Zsz
noncomputable abbrev fn:Func:=Go.Proofs.Tryz.f96
def kp:Zch:=[]
noncomputable def C (p:List Nat):Code:=(cod fn).sub p
def KR (Q:QT):KT:=Zfd pg fn.results.toList Q
theorem call (x0:List Nat) (h:Zaa) (Q:QT) (ht :
 Zak pg Zhd [.str x0] h fun A B=>
 Zle A fun A=>Zai A fun A C=>Zqh A fun A=>Zai A fun A D=>Zeb .u8 A fun A=>Zai D fun D E=>xSl D fun D F G H=>Zbq E (Zai C fun C E=>Zbz C fun C=>Zbq E (Zcf (B ++ [.cells Zap [.int .u8 0,.slice none 0 0 true] false]) fun E=>Zbt (Zbb E (.ptr (B.length,0)) [.int .u8 A,.slice D F G H]) fun A=>Q (.bool C) A))):Zak pg Zge [.str x0] h Q:=
 Zak.of_body kp (c:=cod fn) (fn:=fn) Go.Proofs.Tryz.func96 (by kernel_rfl) (by kernel_rfl) (Nat.le_of_ble_eq_true (by kernel_rfl))
  (cast (by kernel_rfl) ht)
end Zsz
end Go.Sim

set_option maxRecDepth 100000
set_option maxHeartbeats 0
set_option linter.unusedVariables false
namespace Go.Sim
open Go Go.RowKit
namespace Zuf
noncomputable abbrev fn:Func:=Go.Proofs.Tryz.f143
def kp:Zch:=[(4000009,[])]
noncomputable def C (p:List Nat):Code:=(cod fn).sub p
def KR (Q:QT):KT:=Zfd pg fn.results.toList Q
def J9 (Q:QT) (h:Zaa):Prop:=Den pg fn.ntmps (C [1,1]) [] h (KR Q)
theorem J9i (Q:QT) (h:Zaa) (ht :
 Q (.int .i64 (-1)) h):J9 Q h:=
 Zba (kp:=kp) (cast (by kernel_rfl) ht)
theorem call (x0:List Nat) (h:Zaa) (Q:QT) (ht :
 bcase (!((((List.length x0:Nat):Int):Int) == 1)) (Q (.int .i64 (-1)) h) (Zak pg Zfv [.str ([105,98,117,120,121,122,88,89,90]),.str x0] h fun A B=>
 Zbz A fun A=>bcase A (Q (.int .i64 0) B) (bcase (decide (x0=[108])) (Q (.int .i64 1) B) (bcase (decide (x0=[109])) (Q (.int .i64 1) B) (bcase (decide (x0=[112])) (Q (.int .i64 2) B) (J9 Q B)))))):Zak pg Zqq [.str x0] h Q:=
 Zak.of_body kp (c:=cod fn) (fn:=fn) Go.Proofs.Tryz.func143 (by kernel_rfl) (by kernel_rfl) (Nat.le_of_ble_eq_true (by kernel_rfl))
  (cast (by kernel_rfl) ht)
end Zuf
namespace Zfy
noncomputable abbrev fn:Func:=Go.Proofs.Tryz.f123
def kp:Zch:=[(4000003,[0]),(3000006,[4,0,2,3]),(1000006,[0,4,27,28]),(4000020,[4,0])]
noncomputable def C (p:List Nat):Code:=(cod fn).sub p
def KR (Q:QT):KT:=Zfd pg fn.results.toList Q
abbrev T6:=List Nat→Nat→Nat→Int→Int→Zaa→Prop
def E6 (R6:T6) (env:Env) (h:Zaa):Prop:=Zbu 0 env fun v env=>Zbd v fun x0=>Zbu 4 env fun v env=>Zgn v fun a=>Zbf a fun i4 o4=>Zbu 27 env fun v env=>Zdz .i64 v fun x27=>Zbu 28 env fun v env=>Zdz .i64 v fun x28=>Zin env (R6 x0 i4 o4 x27 x28 h)
theorem Zlw {R6:T6} {env:Env} {h:Zaa} (hi:E6 R6 env h):∃ x0,∃ i4,∃ o4,∃ x27,∃ x28,env=[(0,.str x0),(4,.ptr (i4,o4)),(27,.int .i64 x27),(28,.int .i64 x28)]∧R6 x0 i4 o4 x27 x28 h:=by
 unfold E6 at hi
 have hi0:=hi
 clear hi
 obtain ⟨_,_,rfl,hi1⟩:=Zaf hi0
 obtain ⟨x0,rfl,hi2⟩:=Zed hi1
 obtain ⟨_,_,rfl,hi3⟩:=Zaf hi2
 obtain ⟨a,rfl,hi4⟩:=Zbn hi3
 obtain ⟨i4,o4,rfl,hi5⟩:=Zbk hi4
 obtain ⟨_,_,rfl,hi6⟩:=Zaf hi5
 obtain ⟨x27,rfl,hi7⟩:=Zav hi6
 obtain ⟨_,_,rfl,hi8⟩:=Zaf hi7
 obtain ⟨x28,rfl,hi9⟩:=Zav hi8
 obtain ⟨rfl,hi10⟩:=Zbl hi9
 have hi:=hi10
 exact ⟨x0,i4,o4,x27,x28,rfl,hi⟩
def K0 (Q:QT):KT:=andThen (fun env' h'=>(match kp.find 4000016 with | some ks=>Den pg fn.ntmps (C [1,1,1,1,1]) (env'.keep ks) h' (KR Q) | none=>den pg fn.ntmps kp (C [1,1,1,1,1]) env' h' (KR Q))) (KR Q)
def K1 (Q:QT):KT:=Zcj 0 (K0 Q)
def K2 (Q:QT):KT:=left kp 6 (K1 Q)
def K3 (Q:QT) (R6:T6):KT:=rnd ((kp.find 1000006).getD []) (E6 R6) (K2 Q)
def J3 (Q:QT) (x0:List Nat) (h:Zaa):Prop:=Den pg fn.ntmps (C [1,1]) [(0,.str x0)] h (KR Q)
def L6 (Q:QT) (x0:List Nat) (i4 o4:Nat) (x27 x28:Int) (h:Zaa):Prop:=Zej (Den pg fn.ntmps (C [1,1,1,1,0,1,0,0])) ((kp.find 1000006).getD []) (K2 Q) [(0,.str x0),(4,.ptr (i4,o4)),(27,.int .i64 x27),(28,.int .i64 x28)] h
def Ydm (Q:QT) (i4 o4:Nat) (x0:List Nat) (h:Zaa):Prop:=At (K1 Q) (.exit 0) [(4,.ptr (i4,o4)),(0,.str x0),(2,.undef),(3,.undef)] h
def J20 (Q:QT) (i4 o4:Nat) (x0:List Nat) (h:Zaa):Prop:=Den pg fn.ntmps (C [1,1,1,1,1,1]) [(4,.ptr (i4,o4)),(0,.str x0)] h (KR Q)
theorem J3i (Q:QT) (x0:List Nat) (h:Zaa) (ht :
 (0≤(0:Int)∧(0:Int)≤1∧(1:Int)≤(List.length x0:Nat))∧(Zcf (h ++ [.cells Zgi [.str (sub x0 0 1),.slice none 0 0 true,.ptr none] false]) fun A=>(0≤(1:Int)∧(1:Int)≤(List.length x0:Int)∧((List.length x0:Int):Int)≤(List.length x0:Nat))∧(Zbd (Zag A (.ptr (h.length,0 + 0))) fun B=>Zak pg Zqq [.str B] A fun A B=>
 Zeb .i64 A fun A=>L6 Q (sub x0 1 ((List.length x0:Int))) h.length 0 A 0 B))):J3 Q x0 h:=
 Zba (kp:=kp) (cast (by kernel_rfl) ht)
def L6t (Q:QT) (R6:T6) (x0:List Nat) (i4 o4:Nat) (x27 x28:Int) (h:Zaa):Prop:=
 bcase (decide ((x28:Int) < x27)) ((0≤(x28:Int)∧(x28:Int)≤IntKind.wrap .i64 (x28 + 1)∧(IntKind.wrap .i64 (x28 + 1):Int)≤(List.length ([40,44]):Nat))∧(Zak pg Zls [.str x0,.str (sub ([40,44]) x28 (IntKind.wrap .i64 (x28 + 1)))] h fun A B=>
 Zbz A fun A=>bcase (!A) (Q (.tup [.ptr none,.str x0]) B) ((0≤(1:Int)∧(1:Int)≤(List.length x0:Int)∧((List.length x0:Int):Int)≤(List.length x0:Nat))∧(Zak pg Zms [.str (sub x0 1 ((List.length x0:Int)))] B fun A B=>
 Zle A fun A=>Zai A fun A C=>Zgn A fun A=>Zai C fun C D=>Zbd C fun C=>Zbq D (bcase (Option.isNone A) (Q (.tup [.ptr none,.str x0]) B) (xSl (Zag B (.ptr (i4,o4 + 1))) fun D E F G=>Zcf (B ++ [.cells Zha [.ptr A] false]) fun A=>Zci pg Zuj A (.slice D E F G) (.slice (B.length,0) 1 1 true) fun A B=>xSl A fun A D E F=>Zbt (Zbb B (.ptr (i4,o4 + 1)) [.slice A D E F]) fun A=>R6 C i4 o4 x27 (IntKind.wrap .i64 (x28 + 1)) A)))))) (Ydm Q i4 o4 x0 h)
theorem Zxy (Q:QT) (R6:T6) (x0:List Nat) (i4 o4:Nat) (x27 x28:Int) (h:Zaa) (ht:L6t Q R6 x0 i4 o4 x27 x28 h):Den pg fn.ntmps (C [1,1,1,1,0,1,0,0]) [(0,.str x0),(4,.ptr (i4,o4)),(27,.int .i64 x27),(28,.int .i64 x28)] h (K3 Q R6):=
 Zba (kp:=kp) (cast (by kernel_rfl) ht)
theorem L6ind (Q:QT) (i4 o4:Nat) (x27:Int) {G:Type} (J:G→List Nat→Int→Zaa→Prop) (m:G→Nat)
 (hr:∀ (g:G) (x0:List Nat) (x28:Int) (h:Zaa),J g x0 x28 h→∀ (R6:T6),(∀ g' (x0:List Nat) (x28:Int) (h:Zaa),m g' < m g→J g' x0 x28 h→R6 x0 i4 o4 x27 x28 h)→L6t Q R6 x0 i4 o4 x27 x28 h)
 (g:G) (x0:List Nat) (x28:Int) (h:Zaa) (hj:J g x0 x28 h):L6 Q x0 i4 o4 x27 x28 h:=by
 let P:=fun (K:List Nat→Int→Zaa→Prop) x0 i4' o4' x27' x28 h=>i4=i4'∧o4=o4'∧x27=x27'∧K x0 x28 h
 refine Zej.inv2 (fun g=>E6 (P (J g))) (fun g=>E6 (P fun x0 x28 h=>∃ g',m g' < m g∧J g' x0 x28 h)) m ?_ ?_ g ⟨rfl,rfl,rfl,hj⟩
 ·intro g env h hi
  obtain ⟨x0,i4',o4',x27',x28,rfl,rfl,rfl,rfl,hj⟩:=Zlw hi
  exact Zxy Q _ x0 i4 o4 x27 x28 h (hr g x0 x28 h hj (P fun x0 x28 h=>∃ g',m g' < m g∧J g' x0 x28 h) fun g' x0 x28 h hlt hj=>⟨rfl,rfl,rfl,g',hlt,hj⟩)
 ·intro g env h hi
  obtain ⟨x0,i4',o4',x27',x28,rfl,rfl,rfl,rfl,g',hlt,hj⟩:=Zlw hi
  exact ⟨g',hlt,rfl,rfl,rfl,hj⟩
theorem A6x0i (Q:QT) (i4 o4:Nat) (x0:List Nat) (h:Zaa) (ht :
 xSl (Zag h (.ptr (i4,o4 + 1))) fun A A B B=>bcase (decide (((((A:Nat):Int)):Int) > 0)) (Zak pg Zls [.str x0,.str [41]] h fun A B=>
 Zbz A fun A=>bcase (!A) (Q (.tup [.ptr none,.str x0]) B) ((0≤(1:Int)∧(1:Int)≤(List.length x0:Int)∧((List.length x0:Int):Int)≤(List.length x0:Nat))∧(J20 Q i4 o4 (sub x0 1 ((List.length x0:Int))) B))) (J20 Q i4 o4 x0 h)):Ydm Q i4 o4 x0 h:=
 At.mk (cast (by kernel_rfl) ht)
theorem J20i (Q:QT) (i4 o4:Nat) (x0:List Nat) (h:Zaa) (ht :
 Q (.tup [.ptr (i4,o4),.str x0]) h):J20 Q i4 o4 x0 h:=
 Zba (kp:=kp) (cast (by kernel_rfl) ht)
theorem call (x0:List Nat) (h:Zaa) (Q:QT) (ht :
 bcase (decide (x0=[])) (Q (.tup [.ptr none,.str x0]) h) ((0≤(0:Int)∧(0:Int)≤1∧(1:Int)≤(List.length x0:Nat))∧(Zak pg Zqq [.str (sub x0 0 1)] h fun A B=>
 Zeb .i64 A fun A=>bcase (decide ((A:Int) < 0)) (Q (.tup [.ptr none,.str x0]) B) (J3 Q x0 B)))):Zak pg Zms [.str x0] h Q:=
 Zak.of_body kp (c:=cod fn) (fn:=fn) Go.Proofs.Tryz.func123 (by kernel_rfl) (by kernel_rfl) (Nat.le_of_ble_eq_true (by kernel_rfl))
  (cast (by kernel_rfl) ht)
end Zfy
namespace Zwi
noncomputable abbrev fn:Func:=Go.Proofs.Tryz.f95
def kp:Zch:=[]
noncomputable def C (p:List Nat):Code:=(cod fn).sub p
def KR (Q:QT):KT:=Zfd pg fn.results.toList Q
theorem call (x0:List Nat) (h:Zaa) (Q:QT) (ht :
 bcase (decide (((((List.length x0:Nat):Int)):Int) > 60)) (Q (.ptr none) h) (Zak pg Zms [.str x0] h fun A B=>
 Zle A fun A=>Zai A fun A C=>Zgn A fun A=>Zai C fun C D=>Zbd C fun C=>Zbq D (bcase (!(decide (C=[]))) (Q (.ptr none) B) (Q (.ptr A) B)))):Zak pg Zly [.str x0] h Q:=
 Zak.of_body kp (c:=cod fn) (fn:=fn) Go.Proofs.Tryz.func95 (by kernel_rfl) (by kernel_rfl) (Nat.le_of_ble_eq_true (by kernel_rfl))
  (cast (by kernel_rfl) ht)
end Zwi
namespace Zsy
noncomputable abbrev fn:Func:=Go.Proofs.Tryz.f62
def kp:Zch:=[]
noncomputable def C (p:List Nat):Code:=(cod fn).sub p
def KR (Q:QT):KT:=Zfd pg fn.results.toList Q
theorem call (x0:List Nat) (h:Zaa) (Q:QT) (ht :
 Zak pg Zly [.str x0] h fun A B=>
 Zgn A fun A=>Q (.bool (!(Option.isNone A))) B):Zak pg Zgv [.str x0] h Q:=
 Zak.of_body kp (c:=cod fn) (fn:=fn) Go.Proofs.Tryz.func62 (by kernel_rfl) (by kernel_rfl) (Nat.le_of_ble_eq_true (by kernel_rfl))
  (cast (by kernel_rfl) ht)
end Zsy
end Go.Sim

set_option maxRecDepth 100000
set_option maxHeartbeats 0
set_option linter.unusedVariables false
namespace Go.Sim
open Go Go.RowKit
namespace Zio
noncomputable abbrev fn:Func:=Go.Proofs.Tryz.f113
def kp:Zch:=[(3000006,[0,3]),(1000006,[0,3])]
noncomputable def C (p:List Nat):Code:=(cod fn).sub p
def KR (Q:QT):KT:=Zfd pg fn.results.toList Q
abbrev T6:=Int→List Nat→Zaa→Prop
def E6 (R6:T6) (env:Env) (h:Zaa):Prop:=Zbu 0 env fun v env=>Zdz .i64 v fun x0=>Zbu 3 env fun v env=>Zbd v fun x3=>Zin env (R6 x0 x3 h)
theorem Zlw {R6:T6} {env:Env} {h:Zaa} (hi:E6 R6 env h):∃ x0,∃ x3,env=[(0,.int .i64 x0),(3,.str x3)]∧R6 x0 x3 h:=by
 unfold E6 at hi
 repeat ((first | (have k:=Zaf hi; clear hi; obtain ⟨_,_,e,hi⟩:=k) | (have k:=Zed hi; clear hi; obtain ⟨_,e,hi⟩:=k) | (have k:=Zav hi; clear hi; obtain ⟨_,e,hi⟩:=k)); subst e)
 obtain ⟨rfl,hi⟩:=Zbl hi
 exact ⟨_,_,rfl,hi⟩
def K0 (Q:QT):KT:=andThen (fun env' h'=>(match kp.find 4000009 with | some ks=>Den pg fn.ntmps (C [1,1,1,1,1]) (env'.keep ks) h' (KR Q) | none=>den pg fn.ntmps kp (C [1,1,1,1,1]) env' h' (KR Q))) (KR Q)
def K1 (Q:QT):KT:=Zcj 0 (K0 Q)
def K2 (Q:QT):KT:=left kp 6 (K1 Q)
def K3 (Q:QT) (R6:T6):KT:=rnd ((kp.find 1000006).getD []) (E6 R6) (K2 Q)
def L6 (Q:QT) (x0:Int) (x3:List Nat) (h:Zaa):Prop:=Zej (Den pg fn.ntmps (C [1,1,1,1,0,0,0])) ((kp.find 1000006).getD []) (K2 Q) [(0,.int .i64 x0),(3,.str x3)] h
def Ydm (Q:QT) (x0:Int) (x3:List Nat) (h:Zaa):Prop:=At (K1 Q) (.exit 0) [(0,.int .i64 x0),(3,.str x3)] h
def L6t (Q:QT) (R6:T6) (x0:Int) (x3:List Nat) (h:Zaa):Prop:=
 bcase (decide ((x0:Int) > 9)) ((10:Int)≠0∧(Zcf (h ++ [.cells Yas [.int .u8 (IntKind.wrap .u8 (IntKind.wrap .i64 (48 + (Int.tmod x0 10))))] false]) fun A=>Zcd (rowOf A (h.length,0) 1) fun B=>Zoc B fun B=>List.length B + List.length x3≤9223372036854775807∧((10:Int)≠0∧(R6 (IntKind.wrap .i64 (Int.tdiv x0 10)) (B ++ x3) A)))) (Ydm Q x0 x3 h)
theorem Zxy (Q:QT) (R6:T6) (x0:Int) (x3:List Nat) (h:Zaa) (ht:L6t Q R6 x0 x3 h):Den pg fn.ntmps (C [1,1,1,1,0,0,0]) [(0,.int .i64 x0),(3,.str x3)] h (K3 Q R6):=
 Zba (kp:=kp) (cast (by kernel_rfl) ht)
theorem L6ind (Q:QT) {G:Type} (J:G→Int→List Nat→Zaa→Prop) (m:G→Nat)
 (hr:∀ (g:G) (x0:Int) (x3:List Nat) (h:Zaa),J g x0 x3 h→∀ (R6:T6),(∀ g' (x0:Int) (x3:List Nat) (h:Zaa),m g' < m g→J g' x0 x3 h→R6 x0 x3 h)→L6t Q R6 x0 x3 h)
 (g:G) (x0:Int) (x3:List Nat) (h:Zaa) (hj:J g x0 x3 h):L6 Q x0 x3 h:=by
 let P:=fun (K:Int→List Nat→Zaa→Prop) x0 x3 h=>K x0 x3 h
 refine Zej.inv2 (fun g=>E6 (P (J g))) (fun g=>E6 (P fun x0 x3 h=>∃ g',m g' < m g∧J g' x0 x3 h)) m ?_ ?_ g hj
 ·intro g env h hi
  obtain ⟨x0,x3,rfl,hj⟩:=Zlw hi
  exact Zxy Q _ x0 x3 h (hr g x0 x3 h hj (P fun x0 x3 h=>∃ g',m g' < m g∧J g' x0 x3 h) fun g' x0 x3 h hlt hj=>⟨g',hlt,hj⟩)
 ·intro g env h hi
  obtain ⟨x0,x3,rfl,g',hlt,hj⟩:=Zlw hi
  exact ⟨g',hlt,hj⟩
theorem A6x0i (Q:QT) (x0:Int) (x3:List Nat) (h:Zaa) (ht :
 Zcf (h ++ [.cells Yas [.int .u8 (IntKind.wrap .u8 (IntKind.wrap .i64 (48 + x0)))] false]) fun A=>Zcd (rowOf A (h.length,0) 1) fun B=>Zoc B fun B=>List.length B + List.length x3≤9223372036854775807∧(Q (.str (B ++ x3)) A)):Ydm Q x0 x3 h:=
 At.mk (cast (by kernel_rfl) ht)
theorem call (x0:Int) (h:Zaa) (Q:QT) (ht :
 bcase (decide ((x0:Int) < (-9223372036854775807))) (Q (.str ([45,57,50,50,51,51,55,50,48,51,54,56,53,52,55,55,53,56,48,56])) h) (bcase (decide ((x0:Int) < 0)) (Zak pg Zhm [.int .i64 (IntKind.wrap .i64 (0 - x0))] h fun A B=>
 Zbd A fun A=>List.length [45] + List.length A≤9223372036854775807∧(Q (.str ([45] ++ A)) B)) (L6 Q x0 [] h))):Zak pg Zhm [.int .i64 x0] h Q:=
 Zak.of_body kp (c:=cod fn) (fn:=fn) Go.Proofs.Tryz.func113 (by kernel_rfl) (by kernel_rfl) (Nat.le_of_ble_eq_true (by kernel_rfl))
  (cast (by kernel_rfl) ht)
end Zio
end Go.Sim

set_option maxRecDepth 100000
set_option maxHeartbeats 0
set_option linter.unusedVariables false
namespace Go.Sim
open Go Go.RowKit
namespace Zlq
noncomputable abbrev fn:Func:=Go.Proofs.Tryz.f92
def kp:Zch:=[(3000003,[3]),(1000003,[0,3,7,8,9]),(4000007,[9,8,7,0,3])]
noncomputable def C (p:List Nat):Code:=(cod fn).sub p
def KR (Q:QT):KT:=Zfd pg fn.results.toList Q
abbrev T3:=List Nat→Pt→Nat→Nat→Bool→Pt→Nat→Nat→Bool→Int→Int→Zaa→Prop
def E3 (R3:T3) (env:Env) (h:Zaa):Prop:=Zbu 0 env fun v env=>Zbd v fun x0=>Zbu 3 env fun v env=>xSl v fun a3 n3 c3 e3=>Zbu 7 env fun v env=>xSl v fun a7 n7 c7 e7=>Zbu 8 env fun v env=>Zdz .i64 v fun x8=>Zbu 9 env fun v env=>Zdz .i64 v fun x9=>Zin env (R3 x0 a3 n3 c3 e3 a7 n7 c7 e7 x8 x9 h)
theorem Zgc {R3:T3} {env:Env} {h:Zaa} (hi:E3 R3 env h):∃ x0,∃ a3,∃ n3,∃ c3,∃ e3,∃ a7,∃ n7,∃ c7,∃ e7,∃ x8,∃ x9,env=[(0,.str x0),(3,.slice a3 n3 c3 e3),(7,.slice a7 n7 c7 e7),(8,.int .i64 x8),(9,.int .i64 x9)]∧R3 x0 a3 n3 c3 e3 a7 n7 c7 e7 x8 x9 h:=by
 unfold E3 at hi
 repeat ((first | (have k:=Zaf hi; clear hi; obtain ⟨_,_,e,hi⟩:=k) | (have k:=Zed hi; clear hi; obtain ⟨_,e,hi⟩:=k) | (have k:=Zbp hi; clear hi; obtain ⟨_,_,_,_,e,hi⟩:=k) | (have k:=Zav hi; clear hi; obtain ⟨_,e,hi⟩:=k)); subst e)
 obtain ⟨rfl,hi⟩:=Zbl hi
 exact ⟨_,_,_,_,_,_,_,_,_,_,_,rfl,hi⟩
def K0 (Q:QT):KT:=andThen (fun env' h'=>(match kp.find 4000008 with | some ks=>Den pg fn.ntmps (C [1,1,1]) (env'.keep ks) h' (KR Q) | none=>den pg fn.ntmps kp (C [1,1,1]) env' h' (KR Q))) (KR Q)
def K1 (Q:QT):KT:=Zcj 0 (K0 Q)
def K2 (Q:QT):KT:=left kp 3 (K1 Q)
def K3 (Q:QT) (R3:T3):KT:=rnd ((kp.find 1000003).getD []) (E3 R3) (K2 Q)
def L3 (Q:QT) (x0:List Nat) (a3:Pt) (n3 c3:Nat) (e3:Bool) (a7:Pt) (n7 c7:Nat) (e7:Bool) (x8 x9:Int) (h:Zaa):Prop:=Zej (Den pg fn.ntmps (C [1,1,0,1,0,0])) ((kp.find 1000003).getD []) (K2 Q) [(0,.str x0),(3,.slice a3 n3 c3 e3),(7,.slice a7 n7 c7 e7),(8,.int .i64 x8),(9,.int .i64 x9)] h
def J7 (Q:QT) (R3:T3) (x9 x8:Int) (a7:Pt) (n7 c7:Nat) (e7:Bool) (x0:List Nat) (a3:Pt) (n3 c3:Nat) (e3:Bool) (h:Zaa):Prop:=Den pg fn.ntmps (C [1,1,0,1,0,0,1,1,1]) [(9,.int .i64 x9),(8,.int .i64 x8),(7,.slice a7 n7 c7 e7),(0,.str x0),(3,.slice a3 n3 c3 e3)] h (K3 Q R3)
def Ztc (Q:QT) (a3:Pt) (n3 c3:Nat) (e3:Bool) (h:Zaa):Prop:=At (K1 Q) (.exit 0) [(3,.slice a3 n3 c3 e3)] h
def L3t (Q:QT) (R3:T3) (x0:List Nat) (a3:Pt) (n3 c3:Nat) (e3:Bool) (a7:Pt) (n7 c7:Nat) (e7:Bool) (x8 x9:Int) (h:Zaa):Prop:=
 bcase (decide ((x9:Int) < x8)) ((0≤(x9:Int)∧(x9:Int) < (n7:Nat))∧(Zbf a7 fun A B=>Zbd (Zag h (.ptr (A,B + (Int.toNat x9) * 1))) fun A=>Zak pg Zfv [.str x0,.str A] h fun B C=>
 Zbz B fun B=>bcase B (Zcf (C ++ [.cells Zbi [.str A] false]) fun A=>Zci pg Zka A (.slice a3 n3 c3 e3) (.slice (C.length,0) 1 1 true) fun A B=>xSl A fun A D E F=>J7 Q R3 x9 x8 a7 n7 c7 e7 x0 A D E F B) (J7 Q R3 x9 x8 a7 n7 c7 e7 x0 a3 n3 c3 e3 C))) (Ztc Q a3 n3 c3 e3 h)
theorem Zok (Q:QT) (R3:T3) (x0:List Nat) (a3:Pt) (n3 c3:Nat) (e3:Bool) (a7:Pt) (n7 c7:Nat) (e7:Bool) (x8 x9:Int) (h:Zaa) (ht:L3t Q R3 x0 a3 n3 c3 e3 a7 n7 c7 e7 x8 x9 h):Den pg fn.ntmps (C [1,1,0,1,0,0]) [(0,.str x0),(3,.slice a3 n3 c3 e3),(7,.slice a7 n7 c7 e7),(8,.int .i64 x8),(9,.int .i64 x9)] h (K3 Q R3):=
 Zba (kp:=kp) (cast (by kernel_rfl) ht)
theorem L3ind (Q:QT) (x0:List Nat) (a7:Pt) (n7 c7:Nat) (e7:Bool) (x8:Int) {G:Type} (J:G→Pt→Nat→Nat→Bool→Int→Zaa→Prop) (m:G→Nat)
 (hr:∀ (g:G) (a3:Pt) (n3 c3:Nat) (e3:Bool) (x9:Int) (h:Zaa),J g a3 n3 c3 e3 x9 h→∀ (R3:T3),(∀ g' (a3:Pt) (n3 c3:Nat) (e3:Bool) (x9:Int) (h:Zaa),m g' < m g→J g' a3 n3 c3 e3 x9 h→R3 x0 a3 n3 c3 e3 a7 n7 c7 e7 x8 x9 h)→L3t Q R3 x0 a3 n3 c3 e3 a7 n7 c7 e7 x8 x9 h)
 (g:G) (a3:Pt) (n3 c3:Nat) (e3:Bool) (x9:Int) (h:Zaa) (hj:J g a3 n3 c3 e3 x9 h):L3 Q x0 a3 n3 c3 e3 a7 n7 c7 e7 x8 x9 h:=by
 let P:=fun (K:Pt→Nat→Nat→Bool→Int→Zaa→Prop) x0' a3 n3 c3 e3 a7' n7' c7' e7' x8' x9 h=>x0=x0'∧a7=a7'∧n7=n7'∧c7=c7'∧e7=e7'∧x8=x8'∧K a3 n3 c3 e3 x9 h
 refine Zej.inv2 (fun g=>E3 (P (J g))) (fun g=>E3 (P fun a3 n3 c3 e3 x9 h=>∃ g',m g' < m g∧J g' a3 n3 c3 e3 x9 h)) m ?_ ?_ g ⟨rfl,rfl,rfl,rfl,rfl,rfl,hj⟩
 ·intro g env h hi
  obtain ⟨x0',a3,n3,c3,e3,a7',n7',c7',e7',x8',x9,rfl,rfl,rfl,rfl,rfl,rfl,rfl,hj⟩:=Zgc hi
  exact Zok Q _ x0 a3 n3 c3 e3 a7 n7 c7 e7 x8 x9 h (hr g a3 n3 c3 e3 x9 h hj (P fun a3 n3 c3 e3 x9 h=>∃ g',m g' < m g∧J g' a3 n3 c3 e3 x9 h) fun g' a3 n3 c3 e3 x9 h hlt hj=>⟨rfl,rfl,rfl,rfl,rfl,rfl,g',hlt,hj⟩)
 ·intro g env h hi
  obtain ⟨x0',a3,n3,c3,e3,a7',n7',c7',e7',x8',x9,rfl,rfl,rfl,rfl,rfl,rfl,rfl,g',hlt,hj⟩:=Zgc hi
  exact ⟨g',hlt,rfl,rfl,rfl,rfl,rfl,rfl,hj⟩
theorem J7i (Q:QT) (R3:T3) (x9 x8:Int) (a7:Pt) (n7 c7:Nat) (e7:Bool) (x0:List Nat) (a3:Pt) (n3 c3:Nat) (e3:Bool) (h:Zaa) (ht :
 R3 x0 a3 n3 c3 e3 a7 n7 c7 e7 x8 (IntKind.wrap .i64 (x9 + 1)) h):J7 Q R3 x9 x8 a7 n7 c7 e7 x0 a3 n3 c3 e3 h:=
 Zba (kp:=kp) (cast (by kernel_rfl) ht)
theorem A3x0i (Q:QT) (a3:Pt) (n3 c3:Nat) (e3:Bool) (h:Zaa) (ht :
 Q (.slice a3 n3 c3 e3) h):Ztc Q a3 n3 c3 e3 h:=
 At.mk (cast (by kernel_rfl) ht)
theorem call (x0:List Nat) (h:Zaa) (Q:QT) (ht :
 Zcf (h ++ [.cells Zbi [] false]) fun A=>Zcf (A ++ [.cells Zbi [.str [88],.str [89],.str [90],.str [120],.str [121],.str [122]] false]) fun B=>L3 Q x0 (h.length,0) 0 0 true (A.length,0) 6 6 true (((6:Nat):Int)) 0 B):Zak pg Zwa [.str x0] h Q:=
 Zak.of_body kp (c:=cod fn) (fn:=fn) Go.Proofs.Tryz.func92 (by kernel_rfl) (by kernel_rfl) (Nat.le_of_ble_eq_true (by kernel_rfl))
  (cast (by kernel_rfl) ht)
end Zlq
end Go.Sim

set_option maxRecDepth 100000
set_option maxHeartbeats 0
set_option linter.unusedVariables false
namespace Go.Sim
open Go Go.RowKit
namespace Zhh
noncomputable abbrev fn:Func:=Go.Proofs.Tryz.f109
def kp:Zch:=[(3000003,[1,3]),(1000003,[1,3,7,8,9]),(4000009,[3])]
noncomputable def C (p:List Nat):Code:=(cod fn).sub p
def KR (Q:QT):KT:=Zfd pg fn.results.toList Q
abbrev T3:=Nat→Nat→Int→Pt→Nat→Nat→Bool→Int→Int→Zaa→Prop
def E3 (R3:T3) (env:Env) (h:Zaa):Prop:=Zbu 1 env fun v env=>Zgn v fun a=>Zbf a fun i1 o1=>Zbu 3 env fun v env=>Zdz .i64 v fun x3=>Zbu 7 env fun v env=>xSl v fun a7 n7 c7 e7=>Zbu 8 env fun v env=>Zdz .i64 v fun x8=>Zbu 9 env fun v env=>Zdz .i64 v fun x9=>Zin env (R3 i1 o1 x3 a7 n7 c7 e7 x8 x9 h)
theorem Zgc {R3:T3} {env:Env} {h:Zaa} (hi:E3 R3 env h):∃ i1,∃ o1,∃ x3,∃ a7,∃ n7,∃ c7,∃ e7,∃ x8,∃ x9,env=[(1,.ptr (i1,o1)),(3,.int .i64 x3),(7,.slice a7 n7 c7 e7),(8,.int .i64 x8),(9,.int .i64 x9)]∧R3 i1 o1 x3 a7 n7 c7 e7 x8 x9 h:=by
 unfold E3 at hi
 have hi0:=hi
 clear hi
 obtain ⟨_,_,rfl,hi1⟩:=Zaf hi0
 obtain ⟨a,rfl,hi2⟩:=Zbn hi1
 obtain ⟨i1,o1,rfl,hi3⟩:=Zbk hi2
 obtain ⟨_,_,rfl,hi4⟩:=Zaf hi3
 obtain ⟨x3,rfl,hi5⟩:=Zav hi4
 obtain ⟨_,_,rfl,hi6⟩:=Zaf hi5
 obtain ⟨a7,n7,c7,e7,rfl,hi7⟩:=Zbp hi6
 obtain ⟨_,_,rfl,hi8⟩:=Zaf hi7
 obtain ⟨x8,rfl,hi9⟩:=Zav hi8
 obtain ⟨_,_,rfl,hi10⟩:=Zaf hi9
 obtain ⟨x9,rfl,hi11⟩:=Zav hi10
 obtain ⟨rfl,hi12⟩:=Zbl hi11
 have hi:=hi12
 exact ⟨i1,o1,x3,a7,n7,c7,e7,x8,x9,rfl,hi⟩
def K0 (Q:QT):KT:=andThen (fun env' h'=>(match kp.find 4000007 with | some ks=>Den pg fn.ntmps (C [1,1,1]) (env'.keep ks) h' (KR Q) | none=>den pg fn.ntmps kp (C [1,1,1]) env' h' (KR Q))) (KR Q)
def K1 (Q:QT):KT:=Zcj 0 (K0 Q)
def K2 (Q:QT):KT:=left kp 3 (K1 Q)
def K3 (Q:QT) (R3:T3):KT:=rnd ((kp.find 1000003).getD []) (E3 R3) (K2 Q)
def L3 (Q:QT) (i1 o1:Nat) (x3:Int) (a7:Pt) (n7 c7:Nat) (e7:Bool) (x8 x9:Int) (h:Zaa):Prop:=Zej (Den pg fn.ntmps (C [1,1,0,1,0,0])) ((kp.find 1000003).getD []) (K2 Q) [(1,.ptr (i1,o1)),(3,.int .i64 x3),(7,.slice a7 n7 c7 e7),(8,.int .i64 x8),(9,.int .i64 x9)] h
def Ztc (Q:QT) (i1 o1:Nat) (x3:Int) (h:Zaa):Prop:=At (K1 Q) (.exit 0) [(1,.ptr (i1,o1)),(3,.int .i64 x3)] h
def J9 (Q:QT) (x3:Int) (h:Zaa):Prop:=Den pg fn.ntmps (C [1,1,1,1]) [(3,.int .i64 x3)] h (KR Q)
def L3t (Q:QT) (R3:T3) (i1 o1:Nat) (x3:Int) (a7:Pt) (n7 c7:Nat) (e7:Bool) (x8 x9:Int) (h:Zaa):Prop:=
 bcase (decide ((x9:Int) < x8)) ((0≤(x9:Int)∧(x9:Int) < (n7:Nat))∧(Zbf a7 fun A B=>Zcd (Zbe h (.ptr (A,B + (Int.toNat x9) * 2)) 2) fun A=>Zai A fun A B=>Zeb .u8 A fun A=>Zai B fun B C=>xSl B fun B D E F=>Zbq C (Zcf (h ++ [.cells Zap [.int .u8 0,.slice none 0 0 true] false]) fun C=>Zbt (Zbb C (.ptr (h.length,0)) [.int .u8 A,.slice B D E F]) fun A=>Zcd (Zbe A (.ptr (h.length,0)) 2) fun B=>Zai B fun B C=>Zeb .u8 B fun B=>Zai C fun C D=>xSl C fun C E F G=>Zbq D (Zak pg Zih [.agg [.int .u8 B,.slice C E F G]] A fun A B=>
 Zeb .i64 A fun A=>R3 i1 o1 (IntKind.wrap .i64 ((IntKind.wrap .i64 (x3 + 1)) + A)) a7 n7 c7 e7 x8 (IntKind.wrap .i64 (x9 + 1)) B)))) (Ztc Q i1 o1 x3 h)
theorem Zok (Q:QT) (R3:T3) (i1 o1:Nat) (x3:Int) (a7:Pt) (n7 c7:Nat) (e7:Bool) (x8 x9:Int) (h:Zaa) (ht:L3t Q R3 i1 o1 x3 a7 n7 c7 e7 x8 x9 h):Den pg fn.ntmps (C [1,1,0,1,0,0]) [(1,.ptr (i1,o1)),(3,.int .i64 x3),(7,.slice a7 n7 c7 e7),(8,.int .i64 x8),(9,.int .i64 x9)] h (K3 Q R3):=
 Zba (kp:=kp) (cast (by kernel_rfl) ht)
theorem L3ind (Q:QT) (i1 o1:Nat) (a7:Pt) (n7 c7:Nat) (e7:Bool) (x8:Int) {G:Type} (J:G→Int→Int→Zaa→Prop) (m:G→Nat)
 (hr:∀ (g:G) (x3 x9:Int) (h:Zaa),J g x3 x9 h→∀ (R3:T3),(∀ g' (x3 x9:Int) (h:Zaa),m g' < m g→J g' x3 x9 h→R3 i1 o1 x3 a7 n7 c7 e7 x8 x9 h)→L3t Q R3 i1 o1 x3 a7 n7 c7 e7 x8 x9 h)
 (g:G) (x3 x9:Int) (h:Zaa) (hj:J g x3 x9 h):L3 Q i1 o1 x3 a7 n7 c7 e7 x8 x9 h:=by
 let P:=fun (K:Int→Int→Zaa→Prop) i1' o1' x3 a7' n7' c7' e7' x8' x9 h=>i1=i1'∧o1=o1'∧a7=a7'∧n7=n7'∧c7=c7'∧e7=e7'∧x8=x8'∧K x3 x9 h
 refine Zej.inv2 (fun g=>E3 (P (J g))) (fun g=>E3 (P fun x3 x9 h=>∃ g',m g' < m g∧J g' x3 x9 h)) m ?_ ?_ g ⟨rfl,rfl,rfl,rfl,rfl,rfl,rfl,hj⟩
 ·intro g env h hi
  obtain ⟨i1',o1',x3,a7',n7',c7',e7',x8',x9,rfl,rfl,rfl,rfl,rfl,rfl,rfl,rfl,hj⟩:=Zgc hi
  exact Zok Q _ i1 o1 x3 a7 n7 c7 e7 x8 x9 h (hr g x3 x9 h hj (P fun x3 x9 h=>∃ g',m g' < m g∧J g' x3 x9 h) fun g' x3 x9 h hlt hj=>⟨rfl,rfl,rfl,rfl,rfl,rfl,rfl,g',hlt,hj⟩)
 ·intro g env h hi
  obtain ⟨i1',o1',x3,a7',n7',c7',e7',x8',x9,rfl,rfl,rfl,rfl,rfl,rfl,rfl,rfl,g',hlt,hj⟩:=Zgc hi
  exact ⟨g',hlt,rfl,rfl,rfl,rfl,rfl,rfl,rfl,hj⟩
theorem A3x0i (Q:QT) (i1 o1:Nat) (x3:Int) (h:Zaa) (ht :
 xSl (Zag h (.ptr (i1,o1 + 1))) fun A A B B=>bcase (decide (((((A:Nat):Int)):Int) > 0)) (J9 Q (IntKind.wrap .i64 (x3 + 1)) h) (J9 Q x3 h)):Ztc Q i1 o1 x3 h:=
 At.mk (cast (by kernel_rfl) ht)
theorem J9i (Q:QT) (x3:Int) (h:Zaa) (ht :
 Q (.int .i64 x3) h):J9 Q x3 h:=
 Zba (kp:=kp) (cast (by kernel_rfl) ht)
theorem call (x0x0:Int) (a0x1:Pt) (n0x1 c0x1:Nat) (e0x1:Bool) (h:Zaa) (Q:QT) (ht :
 Zcf (h ++ [.cells Zap [.int .u8 x0x0,.slice a0x1 n0x1 c0x1 e0x1] false]) fun A=>xSl (Zag A (.ptr (h.length,0 + 1))) fun B C D E=>L3 Q h.length 0 1 B C D E (((C:Nat):Int)) 0 A):Zak pg Zih [.agg [.int .u8 x0x0,.slice a0x1 n0x1 c0x1 e0x1]] h Q:=
 Zak.of_body kp (c:=cod fn) (fn:=fn) Go.Proofs.Tryz.func109 (by kernel_rfl) (by kernel_rfl) (Nat.le_of_ble_eq_true (by kernel_rfl))
  (cast (by kernel_rfl) ht)
end Zhh
namespace Zhc
noncomputable abbrev fn:Func:=Go.Proofs.Tryz.f153
def kp:Zch:=[(3000003,[4,2,3]),(1000003,[4,8,10]),(2000004,[6,5,10,8,4]),(4000006,[6,4,5,10,8]),(2000008,[10,8,4]),(4000009,[10,8,4])]
noncomputable def C (p:List Nat):Code:=(cod fn).sub p
def KR (Q:QT):KT:=Zfd pg fn.results.toList Q
abbrev T3:=Pt→Nat→Nat→Bool→Pt→Int→Zaa→Prop
def E3 (R3:T3) (env:Env) (h:Zaa):Prop:=Zbu 4 env fun v env=>xSl v fun a4 n4 c4 e4=>Zbu 8 env fun v env=>Zgn v fun a8=>Zbu 10 env fun v env=>Zdz .i64 v fun x10=>Zin env (R3 a4 n4 c4 e4 a8 x10 h)
theorem Zgc {R3:T3} {env:Env} {h:Zaa} (hi:E3 R3 env h):∃ a4,∃ n4,∃ c4,∃ e4,∃ a8,∃ x10,env=[(4,.slice a4 n4 c4 e4),(8,.ptr a8),(10,.int .i64 x10)]∧R3 a4 n4 c4 e4 a8 x10 h:=by
 unfold E3 at hi
 repeat ((first | (have k:=Zaf hi; clear hi; obtain ⟨_,_,e,hi⟩:=k) | (have k:=Zbp hi; clear hi; obtain ⟨_,_,_,_,e,hi⟩:=k) | (have k:=Zbn hi; clear hi; obtain ⟨_,e,hi⟩:=k) | (have k:=Zav hi; clear hi; obtain ⟨_,e,hi⟩:=k)); subst e)
 obtain ⟨rfl,hi⟩:=Zbl hi
 exact ⟨_,_,_,_,_,_,rfl,hi⟩
def K0 (Q:QT):KT:=andThen (fun env' h'=>(match kp.find 4000010 with | some ks=>Den pg fn.ntmps (C [1,1,1]) (env'.keep ks) h' (KR Q) | none=>den pg fn.ntmps kp (C [1,1,1]) env' h' (KR Q))) (KR Q)
def K1 (Q:QT):KT:=Zcj 0 (K0 Q)
def K2 (Q:QT):KT:=left kp 3 (K1 Q)
def K3 (Q:QT) (R3:T3):KT:=rnd ((kp.find 1000003).getD []) (E3 R3) (K2 Q)
def K4 (Q:QT) (R3:T3):KT:=andThen (fun env' h'=>(match kp.find 4000009 with | some ks=>Den pg fn.ntmps (C [1,1,0,1,0,0,1,1,1]) (env'.keep ks) h' (K3 Q R3) | none=>den pg fn.ntmps kp (C [1,1,0,1,0,0,1,1,1]) env' h' (K3 Q R3))) (K3 Q R3)
def K5 (Q:QT) (R3:T3):KT:=Zcj 1 (K4 Q R3)
def L3 (Q:QT) (a4:Pt) (n4 c4:Nat) (e4:Bool) (a8:Pt) (x10:Int) (h:Zaa):Prop:=Zej (Den pg fn.ntmps (C [1,1,0,1,0,0])) ((kp.find 1000003).getD []) (K2 Q) [(4,.slice a4 n4 c4 e4),(8,.ptr a8),(10,.int .i64 x10)] h
def J9 (Q:QT) (R3:T3) (x10:Int) (a8 a4:Pt) (n4 c4:Nat) (e4:Bool) (h:Zaa):Prop:=Den pg fn.ntmps (C [1,1,0,1,0,0,1,1,1]) [(10,.int .i64 x10),(8,.ptr a8),(4,.slice a4 n4 c4 e4)] h (K3 Q R3)
def J6 (Q:QT) (R3:T3) (i6 o6:Nat) (a4:Pt) (n4 c4:Nat) (e4:Bool) (x5 x10:Int) (a8:Pt) (h:Zaa):Prop:=Den pg fn.ntmps (C [1,1,0,1,0,0,1,1,0,0,1,1]) [(6,.ptr (i6,o6)),(4,.slice a4 n4 c4 e4),(5,.int .i64 x5),(10,.int .i64 x10),(8,.ptr a8)] h (K5 Q R3)
def Ztc (Q:QT) (a4:Pt) (n4 c4:Nat) (e4:Bool) (h:Zaa):Prop:=At (K1 Q) (.exit 0) [(4,.slice a4 n4 c4 e4),(2,.undef),(3,.undef)] h
def L3t (Q:QT) (R3:T3) (a4:Pt) (n4 c4:Nat) (e4:Bool) (a8:Pt) (x10:Int) (h:Zaa):Prop:=
 bcase (decide ((x10:Int) < 12)) (Zbf a8 fun A B=>(0≤(x10:Int)∧(x10:Int) < (12:Nat))∧(Zcd (Zbe h (.ptr (A,B + (Int.toNat x10) * 2)) 2) fun C=>Zai C fun C D=>Zeb .u8 C fun C=>Zai D fun D E=>xSl D fun D F G H=>Zbq E (Zcf (h ++ [.cells Zap [.int .u8 0,.slice none 0 0 true] false]) fun E=>(Zbe E (.ptr (A,B + (Int.toNat x10) * 2)) 2=Zbe h (.ptr (A,B + (Int.toNat x10) * 2)) 2)∧Zbt (Zbb E (.ptr (h.length,0)) [.int .u8 C,.slice D F G H]) fun A=>Zeb .u8 (Zag A (.ptr (h.length,0 + 0))) fun B=>bcase ((B:Int) == 0) (J9 Q R3 x10 a8 a4 n4 c4 e4 A) (bcase (decide ((x10:Int) ≥ 6)) (J9 Q R3 x10 a8 a4 n4 c4 e4 A) (J6 Q R3 h.length 0 a4 n4 c4 e4 x10 x10 a8 A))))) (Ztc Q a4 n4 c4 e4 h)
theorem Zok (Q:QT) (R3:T3) (a4:Pt) (n4 c4:Nat) (e4:Bool) (a8:Pt) (x10:Int) (h:Zaa) (ht:L3t Q R3 a4 n4 c4 e4 a8 x10 h):Den pg fn.ntmps (C [1,1,0,1,0,0]) [(4,.slice a4 n4 c4 e4),(8,.ptr a8),(10,.int .i64 x10)] h (K3 Q R3):=
 Zba (kp:=kp) (cast (by kernel_rfl) ht)
theorem L3ind (Q:QT) (a8:Pt) {G:Type} (J:G→Pt→Nat→Nat→Bool→Int→Zaa→Prop) (m:G→Nat)
 (hr:∀ (g:G) (a4:Pt) (n4 c4:Nat) (e4:Bool) (x10:Int) (h:Zaa),J g a4 n4 c4 e4 x10 h→∀ (R3:T3),(∀ g' (a4:Pt) (n4 c4:Nat) (e4:Bool) (x10:Int) (h:Zaa),m g' < m g→J g' a4 n4 c4 e4 x10 h→R3 a4 n4 c4 e4 a8 x10 h)→L3t Q R3 a4 n4 c4 e4 a8 x10 h)
 (g:G) (a4:Pt) (n4 c4:Nat) (e4:Bool) (x10:Int) (h:Zaa) (hj:J g a4 n4 c4 e4 x10 h):L3 Q a4 n4 c4 e4 a8 x10 h:=by
 let P:=fun (K:Pt→Nat→Nat→Bool→Int→Zaa→Prop) a4 n4 c4 e4 a8' x10 h=>a8=a8'∧K a4 n4 c4 e4 x10 h
 refine Zej.inv2 (fun g=>E3 (P (J g))) (fun g=>E3 (P fun a4 n4 c4 e4 x10 h=>∃ g',m g' < m g∧J g' a4 n4 c4 e4 x10 h)) m ?_ ?_ g ⟨rfl,hj⟩
 ·intro g env h hi
  obtain ⟨a4,n4,c4,e4,a8',x10,rfl,rfl,hj⟩:=Zgc hi
  exact Zok Q _ a4 n4 c4 e4 a8 x10 h (hr g a4 n4 c4 e4 x10 h hj (P fun a4 n4 c4 e4 x10 h=>∃ g',m g' < m g∧J g' a4 n4 c4 e4 x10 h) fun g' a4 n4 c4 e4 x10 h hlt hj=>⟨rfl,g',hlt,hj⟩)
 ·intro g env h hi
  obtain ⟨a4,n4,c4,e4,a8',x10,rfl,rfl,g',hlt,hj⟩:=Zgc hi
  exact ⟨g',hlt,rfl,hj⟩
theorem J9i (Q:QT) (R3:T3) (x10:Int) (a8 a4:Pt) (n4 c4:Nat) (e4:Bool) (h:Zaa) (ht :
 R3 a4 n4 c4 e4 a8 (IntKind.wrap .i64 (x10 + 1)) h):J9 Q R3 x10 a8 a4 n4 c4 e4 h:=
 Zba (kp:=kp) (cast (by kernel_rfl) ht)
theorem J6i (Q:QT) (R3:T3) (i6 o6:Nat) (a4:Pt) (n4 c4:Nat) (e4:Bool) (x5 x10:Int) (a8:Pt) (h:Zaa) (ht :
 Zcd (Zbe h (.ptr (i6,o6)) 2) fun A=>Zai A fun A B=>Zeb .u8 A fun A=>Zai B fun B C=>xSl B fun B D E F=>Zbq C (Zak pg Zih [.agg [.int .u8 A,.slice B D E F]] h fun A B=>
 Zeb .i64 A fun A=>bcase (decide ((A:Int) > 60)) (Zcf (B ++ [.cells Zbv [] false]) fun A=>Q (.tup [.slice (B.length,0) 0 0 true,.bool false]) A) ((0≤(x5:Int)∧(x5:Int)≤IntKind.wrap .i64 (x5 + 1)∧(IntKind.wrap .i64 (x5 + 1):Int)≤(List.length ([88,89,90,120,121,122,49,50,51,52,53,54]):Nat))∧(Zcd (Zbe B (.ptr (i6,o6)) 2) fun A=>Zai A fun A C=>Zeb .u8 A fun A=>Zai C fun C D=>xSl C fun C E F G=>Zbq D (Zak pg Zhp [.agg [.int .u8 A,.slice C E F G]] B fun A B=>
 Zbd A fun A=>Zcf (B ++ [.cells Zbv [.str (sub ([88,89,90,120,121,122,49,50,51,52,53,54]) x5 (IntKind.wrap .i64 (x5 + 1))),.str A] false]) fun A=>Zci pg Zof A (.slice a4 n4 c4 e4) (.slice (B.length,0) 1 1 true) fun A B=>xSl A fun A C D E=>J9 Q R3 x10 a8 A C D E B))))):J6 Q R3 i6 o6 a4 n4 c4 e4 x5 x10 a8 h:=
 Zba (kp:=kp) (cast (by kernel_rfl) ht)
theorem A3x0i (Q:QT) (a4:Pt) (n4 c4:Nat) (e4:Bool) (h:Zaa) (ht :
 Q (.tup [.slice a4 n4 c4 e4,.bool true]) h):Ztc Q a4 n4 c4 e4 h:=
 At.mk (cast (by kernel_rfl) ht)
theorem call (a0:Pt) (h:Zaa) (Q:QT) (ht :
 Zcf (h ++ [.cells Zbv [] false]) fun A=>Zbf a0 fun B B=>L3 Q (h.length,0) 0 0 true a0 0 A):Zak pg Zsn [.ptr a0] h Q:=
 Zak.of_body kp (c:=cod fn) (fn:=fn) Go.Proofs.Tryz.func153 (by kernel_rfl) (by kernel_rfl) (Nat.le_of_ble_eq_true (by kernel_rfl))
  (cast (by kernel_rfl) ht)
end Zhc
namespace Zoh
noncomputable abbrev fn:Func:=Go.Proofs.Tryz.f134
def kp:Zch:=[(4000006,[10])]
noncomputable def C (p:List Nat):Code:=(cod fn).sub p
def KR (Q:QT):KT:=Zfd pg fn.results.toList Q
def J6 (Q:QT) (i10 o10:Nat) (h:Zaa):Prop:=Den pg fn.ntmps (C [1,1,1,1,1]) [(10,.ptr (i10,o10))] h (KR Q)
theorem J6i (Q:QT) (i10 o10:Nat) (h:Zaa) (ht :
 Zak pg Zsn [.ptr (i10,o10)] h fun A B=>
 Zle A fun A=>Zai A fun A C=>xSl A fun A D E F=>Zai C fun C G=>Zbz C fun C=>Zbq G (Q (.tup [.slice A D E F,.bool C]) B)):J6 Q i10 o10 h:=
 Zba (kp:=kp) (cast (by kernel_rfl) ht)
theorem call (x0 x1:List Nat) (h:Zaa) (Q:QT) (ht :
 Zak pg Zhd [.str x0] h fun A B=>
 Zle A fun A=>Zai A fun A C=>Zqh A fun A=>Zai A fun A D=>Zeb .u8 A fun A=>Zai D fun D E=>xSl D fun D F G H=>Zbq E (Zai C fun C E=>Zbz C fun C=>Zbq E (Zcf (B ++ [.cells Zap [.int .u8 0,.slice none 0 0 true] false]) fun E=>Zbt (Zbb E (.ptr (B.length,0)) [.int .u8 A,.slice D F G H]) fun A=>Zak pg Zhd [.str x1] A fun A D=>
 Zle A fun A=>Zai A fun A E=>Zqh A fun A=>Zai A fun A F=>Zeb .u8 A fun A=>Zai F fun F G=>xSl F fun F H I J=>Zbq G (Zai E fun E G=>Zbz E fun E=>Zbq G (Zcf (D ++ [.cells Zap [.int .u8 0,.slice none 0 0 true] false]) fun G=>Zbt (Zbb G (.ptr (D.length,0)) [.int .u8 A,.slice F H I J]) fun A=>Zcf (A ++ [.cells Zdo [.int .u8 0,.slice none 0 0 true,.int .u8 0,.slice none 0 0 true,.int .u8 0,.slice none 0 0 true,.int .u8 0,.slice none 0 0 true,.int .u8 0,.slice none 0 0 true,.int .u8 0,.slice none 0 0 true,.int .u8 0,.slice none 0 0 true,.int .u8 0,.slice none 0 0 true,.int .u8 0,.slice none 0 0 true,.int .u8 0,.slice none 0 0 true,.int .u8 0,.slice none 0 0 true,.int .u8 0,.slice none 0 0 true] false]) fun F=>bcase (!C) (Zcf (F ++ [.cells Zbv [] false]) fun C=>Q (.tup [.slice (F.length,0) 0 0 true,.bool false]) C) (bcase (!E) (Zcf (F ++ [.cells Zbv [] false]) fun C=>Q (.tup [.slice (F.length,0) 0 0 true,.bool false]) C) (Zcd (Zbe F (.ptr (B.length,0)) 2) fun B=>Zai B fun B C=>Zeb .u8 B fun B=>Zai C fun C E=>xSl C fun C G H I=>Zbq E (Zcd (Zbe F (.ptr (D.length,0)) 2) fun D=>Zai D fun D E=>Zeb .u8 D fun D=>Zai E fun E J=>xSl E fun E K L M=>Zbq J (Zak pg Znp [.ptr (A.length,0),.agg [.int .u8 B,.slice C G H I],.agg [.int .u8 D,.slice E K L M]] F fun B C=>
 Zbz B fun B=>bcase (!B) (Zcf (C ++ [.cells Zbv [] false]) fun B=>Q (.tup [.slice (C.length,0) 0 0 true,.bool false]) B) (J6 Q A.length 0 C)))))))))):Zak pg Zlm [.str x0,.str x1] h Q:=
 Zak.of_body kp (c:=cod fn) (fn:=fn) Go.Proofs.Tryz.func134 (by kernel_rfl) (by kernel_rfl) (Nat.le_of_ble_eq_true (by kernel_rfl))
  (cast (by kernel_rfl) ht)
end Zoh
namespace Zrq
noncomputable abbrev fn:Func:=Go.Proofs.Tryz.f149
def kp:Zch:=[]
noncomputable def C (p:List Nat):Code:=(cod fn).sub p
def KR (Q:QT):KT:=Zfd pg fn.results.toList Q
theorem call (x0 x1:List Nat) (h:Zaa) (Q:QT) (ht :
 Zak pg Zlm [.str x0,.str x1] h fun A B=>
 Zle A fun A=>Zai A fun A C=>xSl A fun A A A A=>Zai C fun A C=>Zbz A fun A=>Zbq C (Q (.bool A) B)):Zak pg Zke [.str x0,.str x1] h Q:=
 Zak.of_body kp (c:=cod fn) (fn:=fn) Go.Proofs.Tryz.func149 (by kernel_rfl) (by kernel_rfl) (Nat.le_of_ble_eq_true (by kernel_rfl))
  (cast (by kernel_rfl) ht)
end Zrq
end Go.Sim

set_option maxRecDepth 100000
set_option maxHeartbeats 0
set_option linter.unusedVariables false
namespace Go.Sim
open Go Go.RowKit
namespace Zvh
noncomputable abbrev fn:Func:=Go.Proofs.Tryz.f131
def kp:Zch:=[]
noncomputable def C (p:List Nat):Code:=(cod fn).sub p
def KR (Q:QT):KT:=Zfd pg fn.results.toList Q
theorem call (x0:Int) (h:Zaa) (Q:QT) (ht :
 Zak pg Zhv [.str ([88,89,90,120,121,122,49,50,51,52,53,54]),.int .u8 x0] h fun A B=>
 Zeb .i64 A fun A=>Q (.int .i64 A) B):Zak pg Zlc [.int .u8 x0] h Q:=
 Zak.of_body kp (c:=cod fn) (fn:=fn) Go.Proofs.Tryz.func131 (by kernel_rfl) (by kernel_rfl) (Nat.le_of_ble_eq_true (by kernel_rfl))
  (cast (by kernel_rfl) ht)
end Zvh
namespace Zla
noncomputable abbrev fn:Func:=Go.Proofs.Tryz.f152
def kp:Zch:=[(2000004,[]),(2000006,[6]),(3000010,[6]),(1000010,[0,4,5,42,43]),(2000012,[58,43,42,0,4,5])]
noncomputable def C (p:List Nat):Code:=(cod fn).sub p
def KR (Q:QT):KT:=Zfd pg fn.results.toList Q
abbrev T10:=Pt→Nat→Nat→Nat→Nat→Int→Int→Zaa→Prop
def E10 (R10:T10) (env:Env) (h:Zaa):Prop:=Zbu 0 env fun v env=>Zgn v fun a0=>Zbu 4 env fun v env=>Zgn v fun a=>Zbf a fun i4 o4=>Zbu 5 env fun v env=>Zgn v fun a=>Zbf a fun i5 o5=>Zbu 42 env fun v env=>Zdz .i64 v fun x42=>Zbu 43 env fun v env=>Zdz .i64 v fun x43=>Zin env (R10 a0 i4 o4 i5 o5 x42 x43 h)
theorem Ysb {R10:T10} {env:Env} {h:Zaa} (hi:E10 R10 env h):∃ a0,∃ i4,∃ o4,∃ i5,∃ o5,∃ x42,∃ x43,env=[(0,.ptr a0),(4,.ptr (i4,o4)),(5,.ptr (i5,o5)),(42,.int .i64 x42),(43,.int .i64 x43)]∧R10 a0 i4 o4 i5 o5 x42 x43 h:=by
 unfold E10 at hi
 have hi0:=hi
 clear hi
 obtain ⟨_,_,rfl,hi1⟩:=Zaf hi0
 obtain ⟨a0,rfl,hi2⟩:=Zbn hi1
 obtain ⟨_,_,rfl,hi3⟩:=Zaf hi2
 obtain ⟨a,rfl,hi4⟩:=Zbn hi3
 obtain ⟨i4,o4,rfl,hi5⟩:=Zbk hi4
 obtain ⟨_,_,rfl,hi6⟩:=Zaf hi5
 obtain ⟨a,rfl,hi7⟩:=Zbn hi6
 obtain ⟨i5,o5,rfl,hi8⟩:=Zbk hi7
 obtain ⟨_,_,rfl,hi9⟩:=Zaf hi8
 obtain ⟨x42,rfl,hi10⟩:=Zav hi9
 obtain ⟨_,_,rfl,hi11⟩:=Zaf hi10
 obtain ⟨x43,rfl,hi12⟩:=Zav hi11
 obtain ⟨rfl,hi13⟩:=Zbl hi12
 have hi:=hi13
 exact ⟨a0,i4,o4,i5,o5,x42,x43,rfl,hi⟩
def K0 (Q:QT):KT:=andThen (fun env' h'=>(match kp.find 4000015 with | some ks=>Den pg fn.ntmps (C [1,1,1,1]) (env'.keep ks) h' (KR Q) | none=>den pg fn.ntmps kp (C [1,1,1,1]) env' h' (KR Q))) (KR Q)
def K1 (Q:QT):KT:=Zcj 0 (K0 Q)
def K2 (Q:QT):KT:=left kp 10 (K1 Q)
def K3 (Q:QT) (R10:T10):KT:=rnd ((kp.find 1000010).getD []) (E10 R10) (K2 Q)
def L10 (Q:QT) (a0:Pt) (i4 o4 i5 o5:Nat) (x42 x43:Int) (h:Zaa):Prop:=Zej (Den pg fn.ntmps (C [1,1,1,0,1,0,0])) ((kp.find 1000010).getD []) (K2 Q) [(0,.ptr a0),(4,.ptr (i4,o4)),(5,.ptr (i5,o5)),(42,.int .i64 x42),(43,.int .i64 x43)] h
def Yze (Q:QT) (h:Zaa):Prop:=At (K1 Q) (.exit 0) [(6,.undef)] h
def L10t (Q:QT) (R10:T10) (a0:Pt) (i4 o4 i5 o5:Nat) (x42 x43:Int) (h:Zaa):Prop:=
 bcase (decide ((x43:Int) < x42)) (xSl (Zag h (.ptr (i4,o4 + 1))) fun A B C C=>(0≤(x43:Int)∧(x43:Int) < (B:Nat))∧(Zbf A fun A B=>Zcd (Zbe h (.ptr (A,B + (Int.toNat x43) * 2)) 2) fun C=>Zai C fun C D=>Zeb .u8 C fun C=>Zai D fun D E=>xSl D fun D F G H=>Zbq E (xSl (Zag h (.ptr (i5,o5 + 1))) fun E I J J=>(Zbe h (.ptr (A,B + (Int.toNat x43) * 2)) 2=Zbe h (.ptr (A,B + (Int.toNat x43) * 2)) 2)∧(Zag h (.ptr (i4,o4 + 1))=Zag h (.ptr (i4,o4 + 1)))∧(0≤(x43:Int)∧(x43:Int) < (I:Nat))∧(Zbf E fun E I=>Zcd (Zbe h (.ptr (E,I + (Int.toNat x43) * 2)) 2) fun E=>Zai E fun E I=>Zeb .u8 E fun E=>Zai I fun I J=>xSl I fun I K L M=>Zbq J ((Zbe h (.ptr (A,B + (Int.toNat x43) * 2)) 2=Zbe h (.ptr (A,B + (Int.toNat x43) * 2)) 2)∧(Zag h (.ptr (i4,o4 + 1))=Zag h (.ptr (i4,o4 + 1)))∧Zak pg Znp [.ptr a0,.agg [.int .u8 C,.slice D F G H],.agg [.int .u8 E,.slice I K L M]] h fun A B=>
 Zbz A fun A=>(Zag B (.ptr (i4,o4 + 1))=Zag h (.ptr (i4,o4 + 1)))∧bcase (!A) (Q (.bool false) B) (R10 a0 i4 o4 i5 o5 x42 (IntKind.wrap .i64 (x43 + 1)) B)))))) (Yze Q h)
theorem Yzj (Q:QT) (R10:T10) (a0:Pt) (i4 o4 i5 o5:Nat) (x42 x43:Int) (h:Zaa) (ht:L10t Q R10 a0 i4 o4 i5 o5 x42 x43 h):Den pg fn.ntmps (C [1,1,1,0,1,0,0]) [(0,.ptr a0),(4,.ptr (i4,o4)),(5,.ptr (i5,o5)),(42,.int .i64 x42),(43,.int .i64 x43)] h (K3 Q R10):=
 Zba (kp:=kp) (cast (by kernel_rfl) ht)
theorem L10ind (Q:QT) (a0:Pt) (i4 o4 i5 o5:Nat) (x42:Int) {G:Type} (J:G→Int→Zaa→Prop) (m:G→Nat)
 (hr:∀ (g:G) (x43:Int) (h:Zaa),J g x43 h→∀ (R10:T10),(∀ g' (x43:Int) (h:Zaa),m g' < m g→J g' x43 h→R10 a0 i4 o4 i5 o5 x42 x43 h)→L10t Q R10 a0 i4 o4 i5 o5 x42 x43 h)
 (g:G) (x43:Int) (h:Zaa) (hj:J g x43 h):L10 Q a0 i4 o4 i5 o5 x42 x43 h:=by
 let P:=fun (K:Int→Zaa→Prop) a0' i4' o4' i5' o5' x42' x43 h=>a0=a0'∧i4=i4'∧o4=o4'∧i5=i5'∧o5=o5'∧x42=x42'∧K x43 h
 refine Zej.inv2 (fun g=>E10 (P (J g))) (fun g=>E10 (P fun x43 h=>∃ g',m g' < m g∧J g' x43 h)) m ?_ ?_ g ⟨rfl,rfl,rfl,rfl,rfl,rfl,hj⟩
 ·intro g env h hi
  obtain ⟨a0',i4',o4',i5',o5',x42',x43,rfl,rfl,rfl,rfl,rfl,rfl,rfl,hj⟩:=Ysb hi
  exact Yzj Q _ a0 i4 o4 i5 o5 x42 x43 h (hr g x43 h hj (P fun x43 h=>∃ g',m g' < m g∧J g' x43 h) fun g' x43 h hlt hj=>⟨rfl,rfl,rfl,rfl,rfl,rfl,g',hlt,hj⟩)
 ·intro g env h hi
  obtain ⟨a0',i4',o4',i5',o5',x42',x43,rfl,rfl,rfl,rfl,rfl,rfl,rfl,g',hlt,hj⟩:=Ysb hi
  exact ⟨g',hlt,rfl,rfl,rfl,rfl,rfl,rfl,hj⟩
theorem A10x0i (Q:QT) (h:Zaa) (ht :
 Q (.bool true) h):Yze Q h:=
 At.mk (cast (by kernel_rfl) ht)
theorem call (a0:Pt) (x1x0:Int) (a1x1:Pt) (n1x1 c1x1:Nat) (e1x1:Bool) (x2x0:Int) (a2x1:Pt) (n2x1 c2x1:Nat) (e2x1:Bool) (h:Zaa) (Q:QT) (ht :
 Zcf (h ++ [.cells Zap [.int .u8 x1x0,.slice a1x1 n1x1 c1x1 e1x1] false]) fun A=>Zcf (A ++ [.cells Zap [.int .u8 x2x0,.slice a2x1 n2x1 c2x1 e2x1] false]) fun B=>Zeb .u8 (Zag B (.ptr (h.length,0 + 0))) fun C=>Zak pg Zlc [.int .u8 C] B fun B C=>
 Zeb .i64 B fun B=>bcase (decide ((B:Int) ≥ 0)) (Zbf a0 fun D E=>(0≤(B:Int)∧(B:Int) < (12:Nat))∧(Zeb .u8 (Zag C (.ptr (D,E + (Int.toNat B) * 2 + 0))) fun D=>bcase ((D:Int) == 0) (Zbf a0 fun D E=>Zcd (Zbe C (.ptr (A.length,0)) 2) fun F=>Zai F fun F G=>Zeb .u8 F fun F=>Zai G fun G H=>xSl G fun G I J K=>Zbq H ((0≤(B:Int)∧(B:Int) < (12:Nat))∧(Zbt (Zbb C (.ptr (D,E + (Int.toNat B) * 2)) [.int .u8 F,.slice G I J K]) fun D=>Q (.bool true) D))) (Zbf a0 fun D E=>(0≤(B:Int)∧(B:Int) < (12:Nat))∧(Zcd (Zbe C (.ptr (D,E + (Int.toNat B) * 2)) 2) fun F=>Zai F fun F G=>Zeb .u8 F fun F=>Zai G fun G H=>xSl G fun G I J K=>Zbq H (Zcd (Zbe C (.ptr (A.length,0)) 2) fun H=>Zai H fun H L=>Zeb .u8 H fun H=>Zai L fun L M=>xSl L fun L N O P=>Zbq M (Zak pg Zhp [.agg [.int .u8 F,.slice G I J K]] C fun F G=>
 Zbd F fun F=>(Zbe G (.ptr (A.length,0)) 2=Zbe C (.ptr (A.length,0)) 2)∧Zak pg Zhp [.agg [.int .u8 H,.slice L N O P]] G fun H I=>
 Zbd H fun H=>(Zbe I (.ptr (D,E + (Int.toNat B) * 2)) 2=Zbe G (.ptr (D,E + (Int.toNat B) * 2)) 2)∧Q (.bool (decide (F=H))) I)))))) (Zeb .u8 (Zag C (.ptr (h.length,0 + 0))) fun B=>Zeb .u8 (Zag C (.ptr (A.length,0 + 0))) fun D=>bcase (!((B:Int) == D)) (Q (.bool false) C) (xSl (Zag C (.ptr (h.length,0 + 1))) fun B B D D=>L10 Q a0 h.length 0 A.length 0 (((B:Nat):Int)) 0 C))):Zak pg Znp [.ptr a0,.agg [.int .u8 x1x0,.slice a1x1 n1x1 c1x1 e1x1],.agg [.int .u8 x2x0,.slice a2x1 n2x1 c2x1 e2x1]] h Q:=
 Zak.of_body kp (c:=cod fn) (fn:=fn) Go.Proofs.Tryz.func152 (by kernel_rfl) (by kernel_rfl) (Nat.le_of_ble_eq_true (by kernel_rfl))
  (cast (by kernel_rfl) ht)
end Zla
end Go.Sim
