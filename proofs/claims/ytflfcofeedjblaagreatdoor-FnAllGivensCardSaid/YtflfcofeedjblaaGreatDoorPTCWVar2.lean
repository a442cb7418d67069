/- A part of the proof of a statement of this seat: see the text that holds the theorem. No condition. -/
import Derived.Test.YtflfcofeedjblaaGreatDoorNm
set_option linter.unusedVariables false
set_option linter.unusedSimpArgs false
set_option linter.all false
set_option maxRecDepth 100000
set_option maxHeartbeats 0
set_option linter.unusedVariables false
namespace Go.Sim
open Go Go.RowKit
namespace Zgj
noncomputable abbrev fn:Func:=Go.Proofs.Tryz.f114
def kp:Zch:=[(4000006,[2,0,7]),(2000008,[48,0,1,2]),(3000011,[6]),(1000011,[1,2,52,53,54])]
noncomputable def C (p:List Nat):Code:=(cod fn).sub p
def KR (Q:QT):KT:=Zfd pg fn.results.toList Q
abbrev T11:=Pt→Option Nat→Pt→Nat→Nat→Bool→Int→Int→Zaa→Prop
def E11 (R11:T11) (env:Env) (h:Zaa):Prop:=Zbu 1 env fun v env=>Zgn v fun a1=>Zbu 2 env fun v env=>Yqa v fun m2=>Zbu 52 env fun v env=>xSl v fun a52 n52 c52 e52=>Zbu 53 env fun v env=>Zdz .i64 v fun x53=>Zbu 54 env fun v env=>Zdz .i64 v fun x54=>Zil env (R11 a1 m2 a52 n52 c52 e52 x53 x54 h)
theorem Ypr {R11:T11} {env:Env} {h:Zaa} (hi:E11 R11 env h):∃ a1,∃ m2,∃ a52,∃ n52,∃ c52,∃ e52,∃ x53,∃ x54,env=[(1,.ptr a1),(2,.map m2),(52,.slice a52 n52 c52 e52),(53,.int .i64 x53),(54,.int .i64 x54)]∧R11 a1 m2 a52 n52 c52 e52 x53 x54 h:=by
 unfold E11 at hi
 repeat ((first | (have k:=Zaf hi; clear hi; obtain ⟨_,_,e,hi⟩:=k) | (have k:=Zbp hi; clear hi; obtain ⟨_,_,_,_,e,hi⟩:=k) | (have k:=Zav hi; clear hi; obtain ⟨_,e,hi⟩:=k) | (have k:=Yin hi; clear hi; obtain ⟨_,e,hi⟩:=k) | (have k:=Zbn hi; clear hi; obtain ⟨_,e,hi⟩:=k)); subst e)
 obtain ⟨rfl,hi⟩:=Zbl hi
 exact ⟨_,_,_,_,_,_,_,_,rfl,hi⟩
def K0 (Q:QT):KT:=andThen (fun env' h'=>(match kp.find 4000008 with | some ks=>Den pg fn.ntmps (C [1,1]) (env'.keep ks) h' (KR Q) | none=>den pg fn.ntmps kp (C [1,1]) env' h' (KR Q))) (KR Q)
def K1 (Q:QT):KT:=andThen (fun env' h'=>(match kp.find 4000016 with | some ks=>Den pg fn.ntmps (C [1,1,1,1]) (env'.keep ks) h' (KR Q) | none=>den pg fn.ntmps kp (C [1,1,1,1]) env' h' (KR Q))) (KR Q)
def K2 (Q:QT):KT:=Zcj 0 (K1 Q)
def K3 (Q:QT):KT:=left kp 11 (K2 Q)
def K4 (Q:QT) (R11:T11):KT:=rnd ((kp.find 1000011).getD []) (E11 R11) (K3 Q)
def J6 (Q:QT) (m2:Option Nat) (a0:Pt) (x7:List Nat) (h:Zaa):Prop:=Den pg fn.ntmps (C [1,0,1,0,1,1]) [(2,.map m2),(0,.ptr a0),(7,.str x7)] h (K0 Q)
def L11 (Q:QT) (a1:Pt) (m2:Option Nat) (a52:Pt) (n52 c52:Nat) (e52:Bool) (x53 x54:Int) (h:Zaa):Prop:=Zej (Den pg fn.ntmps (C [1,1,1,0,1,0,0])) ((kp.find 1000011).getD []) (K3 Q) [(1,.ptr a1),(2,.map m2),(52,.slice a52 n52 c52 e52),(53,.int .i64 x53),(54,.int .i64 x54)] h
def Xah (Q:QT) (h:Zaa):Prop:=At (K2 Q) (.exit 0) [(6,.undef)] h
theorem J6i (Q:QT) (m2:Option Nat) (a0:Pt) (x7:List Nat) (h:Zaa) (ht :
 Zbf a0 fun A B=>Zbd (Zag h (.ptr (A,B + 0))) fun A=>xMp m2 fun B=>Zjl h (some B) fun es_32 k_33=>Yty es_32 k_33 A (.str x7) fun es_34 k_35=>Zcf (List.set h B (.map es_34 k_35)) fun A=>Q (.bool true) A):J6 Q m2 a0 x7 h:=
 Zba (kp:=kp) (cast (by kernel_rfl) ht)
def L11t (Q:QT) (R11:T11) (a1:Pt) (m2:Option Nat) (a52:Pt) (n52 c52:Nat) (e52:Bool) (x53 x54:Int) (h:Zaa):Prop:=
 bcase (decide ((x54:Int) < x53)) ((0≤(x54:Int)∧(x54:Int) < (n52:Nat))∧(Zbf a52 fun A B=>Zgn (Zag h (.ptr (A,B + (Int.toNat x54) * 1))) fun A=>Zbf a1 fun B C=>xSl (Zag h (.ptr (B,C + 1))) fun B C D D=>(0≤(x54:Int)∧(x54:Int) < (C:Nat))∧(Zbf B fun B C=>Zgn (Zag h (.ptr (B,C + (Int.toNat x54) * 1))) fun B=>Zak pg Zkh [.ptr A,.ptr B,.map m2] h fun A B=>
 Zca A fun A=>bcase (!A) (Q (.bool false) B) (R11 a1 m2 a52 n52 c52 e52 x53 (IntKind.wrap .i64 (x54 + 1)) B)))) (Xah Q h)
theorem Xad (Q:QT) (R11:T11) (a1:Pt) (m2:Option Nat) (a52:Pt) (n52 c52:Nat) (e52:Bool) (x53 x54:Int) (h:Zaa) (ht:L11t Q R11 a1 m2 a52 n52 c52 e52 x53 x54 h):Den pg fn.ntmps (C [1,1,1,0,1,0,0]) [(1,.ptr a1),(2,.map m2),(52,.slice a52 n52 c52 e52),(53,.int .i64 x53),(54,.int .i64 x54)] h (K4 Q R11):=
 Zba (kp:=kp) (cast (by kernel_rfl) ht)
theorem L11ind (Q:QT) (a1:Pt) (m2:Option Nat) (a52:Pt) (n52 c52:Nat) (e52:Bool) (x53:Int) {G:Type} (J:G→Int→Zaa→Prop) (m:G→Nat)
 (hr:∀ (g:G) (x54:Int) (h:Zaa),J g x54 h→∀ (R11:T11),(∀ g' (x54:Int) (h:Zaa),m g' < m g→J g' x54 h→R11 a1 m2 a52 n52 c52 e52 x53 x54 h)→L11t Q R11 a1 m2 a52 n52 c52 e52 x53 x54 h)
 (g:G) (x54:Int) (h:Zaa) (hj:J g x54 h):L11 Q a1 m2 a52 n52 c52 e52 x53 x54 h:=by
 let P:=fun (K:Int→Zaa→Prop) a1' m2' a52' n52' c52' e52' x53' x54 h=>a1=a1'∧m2=m2'∧a52=a52'∧n52=n52'∧c52=c52'∧e52=e52'∧x53=x53'∧K x54 h
 refine Zej.inv2 (fun g=>E11 (P (J g))) (fun g=>E11 (P fun x54 h=>∃ g',m g' < m g∧J g' x54 h)) m ?_ ?_ g ⟨rfl,rfl,rfl,rfl,rfl,rfl,rfl,hj⟩
 ·intro g env h hi
  obtain ⟨a1',m2',a52',n52',c52',e52',x53',x54,rfl,rfl,rfl,rfl,rfl,rfl,rfl,rfl,hj⟩:=Ypr hi
  exact Xad Q _ a1 m2 a52 n52 c52 e52 x53 x54 h (hr g x54 h hj (P fun x54 h=>∃ g',m g' < m g∧J g' x54 h) fun g' x54 h hlt hj=>⟨rfl,rfl,rfl,rfl,rfl,rfl,rfl,g',hlt,hj⟩)
 ·intro g env h hi
  obtain ⟨a1',m2',a52',n52',c52',e52',x53',x54,rfl,rfl,rfl,rfl,rfl,rfl,rfl,rfl,g',hlt,hj⟩:=Ypr hi
  exact ⟨g',hlt,rfl,rfl,rfl,rfl,rfl,rfl,rfl,hj⟩
theorem A11x0i (Q:QT) (h:Zaa) (ht :
 Q (.bool true) h):Xah Q h:=
 At.mk (cast (by kernel_rfl) ht)
theorem call (a0 a1:Pt) (m2:Option Nat) (h:Zaa) (Q:QT) (ht :
 Zbf a0 fun A B=>Zbd (Zag h (.ptr (A,B + 0))) fun A=>Zak pg Znx [.str A] h fun A B=>
 Zca A fun A=>bcase A (Zak pg Zli [.ptr a1] B fun A C=>
 Zbd A fun A=>Zbf a0 fun D E=>Zbd (Zag C (.ptr (D,E + 0))) fun D=>Zjl C m2 fun es_12 k_13=>Ydg es_12 D fun D=>Zbd (some (Option.getD D (.str []))) fun E=>bcase (Option.isSome D) (bcase (!(decide (E=A))) (Q (.bool false) C) (J6 Q m2 a0 A C)) (J6 Q m2 a0 A C)) (Zbf a0 fun A C=>Zbf a1 fun D E=>Zbd (Zag B (.ptr (A,C + 0))) fun F=>Zbd (Zag B (.ptr (D,E + 0))) fun D=>(Zag B (.ptr (A,C + 0))=Zag B (.ptr (A,C + 0)))∧bcase (!(decide (F=D))) (Q (.bool false) B) (Zbf a0 fun A C=>xSl (Zag B (.ptr (A,C + 1))) fun A C D E=>L11 Q a1 m2 A C D E (((C:Nat):Int)) 0 B))):Zak pg Zkh [.ptr a0,.ptr a1,.map m2] h Q:=
 Zak.of_body kp (c:=cod fn) (fn:=fn) Go.Proofs.Tryz.func114 (by kernel_rfl) (by kernel_rfl) (Nat.le_of_ble_eq_true (by kernel_rfl))
  (cast (by kernel_rfl) ht)
end Zgj
end Go.Sim

set_option maxRecDepth 100000
set_option maxHeartbeats 0
set_option linter.unusedVariables false
namespace Go.Sim
open Go Go.RowKit
namespace Ziu
noncomputable abbrev fn:Func:=Go.Proofs.Tryz.f136
def kp:Zch:=[(3000005,[0,3]),(1000005,[0,3,20,21,22]),(2000009,[2])]
noncomputable def C (p:List Nat):Code:=(cod fn).sub p
def KR (Q:QT):KT:=Zfd pg fn.results.toList Q
abbrev T5:=Pt→Pt→Nat→Nat→Bool→Pt→Nat→Nat→Bool→Int→Int→Zaa→Prop
def E5 (R5:T5) (env:Env) (h:Zaa):Prop:=Zbu 0 env fun v env=>Zgn v fun a0=>Zbu 3 env fun v env=>xSl v fun a3 n3 c3 e3=>Zbu 20 env fun v env=>xSl v fun a20 n20 c20 e20=>Zbu 21 env fun v env=>Zdz .i64 v fun x21=>Zbu 22 env fun v env=>Zdz .i64 v fun x22=>Zil env (R5 a0 a3 n3 c3 e3 a20 n20 c20 e20 x21 x22 h)
theorem Zik {R5:T5} {env:Env} {h:Zaa} (hi:E5 R5 env h):∃ a0,∃ a3,∃ n3,∃ c3,∃ e3,∃ a20,∃ n20,∃ c20,∃ e20,∃ x21,∃ x22,env=[(0,.ptr a0),(3,.slice a3 n3 c3 e3),(20,.slice a20 n20 c20 e20),(21,.int .i64 x21),(22,.int .i64 x22)]∧R5 a0 a3 n3 c3 e3 a20 n20 c20 e20 x21 x22 h:=by
 unfold E5 at hi
 repeat ((first | (have k:=Zaf hi; clear hi; obtain ⟨_,_,e,hi⟩:=k) | (have k:=Zbp hi; clear hi; obtain ⟨_,_,_,_,e,hi⟩:=k) | (have k:=Zav hi; clear hi; obtain ⟨_,e,hi⟩:=k) | (have k:=Zbn hi; clear hi; obtain ⟨_,e,hi⟩:=k)); subst e)
 obtain ⟨rfl,hi⟩:=Zbl hi
 exact ⟨_,_,_,_,_,_,_,_,_,_,_,rfl,hi⟩
def K0 (Q:QT):KT:=andThen (fun env' h'=>(match kp.find 4000009 with | some ks=>Den pg fn.ntmps (C [1,1,1,1]) (env'.keep ks) h' (KR Q) | none=>den pg fn.ntmps kp (C [1,1,1,1]) env' h' (KR Q))) (KR Q)
def K1 (Q:QT):KT:=Zcj 0 (K0 Q)
def K2 (Q:QT):KT:=left kp 5 (K1 Q)
def K3 (Q:QT) (R5:T5):KT:=rnd ((kp.find 1000005).getD []) (E5 R5) (K2 Q)
def L5 (Q:QT) (a0 a3:Pt) (n3 c3:Nat) (e3:Bool) (a20:Pt) (n20 c20:Nat) (e20:Bool) (x21 x22:Int) (h:Zaa):Prop:=Zej (Den pg fn.ntmps (C [1,1,1,0,1,0,0])) ((kp.find 1000005).getD []) (K2 Q) [(0,.ptr a0),(3,.slice a3 n3 c3 e3),(20,.slice a20 n20 c20 e20),(21,.int .i64 x21),(22,.int .i64 x22)] h
def A5x0 (Q:QT) (a0 a3:Pt) (n3 c3:Nat) (e3:Bool) (h:Zaa):Prop:=At (K1 Q) (.exit 0) [(0,.ptr a0),(3,.slice a3 n3 c3 e3)] h
def L5t (Q:QT) (R5:T5) (a0 a3:Pt) (n3 c3:Nat) (e3:Bool) (a20:Pt) (n20 c20:Nat) (e20:Bool) (x21 x22:Int) (h:Zaa):Prop:=
 bcase (decide ((x22:Int) < x21)) ((0≤(x22:Int)∧(x22:Int) < (n20:Nat))∧(Zbf a20 fun A B=>Zgn (Zag h (.ptr (A,B + (Int.toNat x22) * 1))) fun A=>Zak pg Zli [.ptr A] h fun A B=>
 Zbd A fun A=>Zcf (B ++ [.cells Zbi [.str A] false]) fun A=>Zci pg Zke A (.slice a3 n3 c3 e3) (.slice (B.length,0) 1 1 true) fun A B=>xSl A fun A C D E=>R5 a0 A C D E a20 n20 c20 e20 x21 (IntKind.wrap .i64 (x22 + 1)) B)) (A5x0 Q a0 a3 n3 c3 e3 h)
theorem Ztv (Q:QT) (R5:T5) (a0 a3:Pt) (n3 c3:Nat) (e3:Bool) (a20:Pt) (n20 c20:Nat) (e20:Bool) (x21 x22:Int) (h:Zaa) (ht:L5t Q R5 a0 a3 n3 c3 e3 a20 n20 c20 e20 x21 x22 h):Den pg fn.ntmps (C [1,1,1,0,1,0,0]) [(0,.ptr a0),(3,.slice a3 n3 c3 e3),(20,.slice a20 n20 c20 e20),(21,.int .i64 x21),(22,.int .i64 x22)] h (K3 Q R5):=
 Zba (kp:=kp) (cast (by kernel_rfl) ht)
theorem L5ind (Q:QT) (a0 a20:Pt) (n20 c20:Nat) (e20:Bool) (x21:Int) {G:Type} (J:G→Pt→Nat→Nat→Bool→Int→Zaa→Prop) (m:G→Nat)
 (hr:∀ (g:G) (a3:Pt) (n3 c3:Nat) (e3:Bool) (x22:Int) (h:Zaa),J g a3 n3 c3 e3 x22 h→∀ (R5:T5),(∀ g' (a3:Pt) (n3 c3:Nat) (e3:Bool) (x22:Int) (h:Zaa),m g' < m g→J g' a3 n3 c3 e3 x22 h→R5 a0 a3 n3 c3 e3 a20 n20 c20 e20 x21 x22 h)→L5t Q R5 a0 a3 n3 c3 e3 a20 n20 c20 e20 x21 x22 h)
 (g:G) (a3:Pt) (n3 c3:Nat) (e3:Bool) (x22:Int) (h:Zaa) (hj:J g a3 n3 c3 e3 x22 h):L5 Q a0 a3 n3 c3 e3 a20 n20 c20 e20 x21 x22 h:=by
 let P:=fun (K:Pt→Nat→Nat→Bool→Int→Zaa→Prop) a0' a3 n3 c3 e3 a20' n20' c20' e20' x21' x22 h=>a0=a0'∧a20=a20'∧n20=n20'∧c20=c20'∧e20=e20'∧x21=x21'∧K a3 n3 c3 e3 x22 h
 refine Zej.inv2 (fun g=>E5 (P (J g))) (fun g=>E5 (P fun a3 n3 c3 e3 x22 h=>∃ g',m g' < m g∧J g' a3 n3 c3 e3 x22 h)) m ?_ ?_ g ⟨rfl,rfl,rfl,rfl,rfl,rfl,hj⟩
 ·intro g env h hi
  obtain ⟨a0',a3,n3,c3,e3,a20',n20',c20',e20',x21',x22,rfl,rfl,rfl,rfl,rfl,rfl,rfl,hj⟩:=Zik hi
  exact Ztv Q _ a0 a3 n3 c3 e3 a20 n20 c20 e20 x21 x22 h (hr g a3 n3 c3 e3 x22 h hj (P fun a3 n3 c3 e3 x22 h=>∃ g',m g' < m g∧J g' a3 n3 c3 e3 x22 h) fun g' a3 n3 c3 e3 x22 h hlt hj=>⟨rfl,rfl,rfl,rfl,rfl,rfl,g',hlt,hj⟩)
 ·intro g env h hi
  obtain ⟨a0',a3,n3,c3,e3,a20',n20',c20',e20',x21',x22,rfl,rfl,rfl,rfl,rfl,rfl,rfl,g',hlt,hj⟩:=Zik hi
  exact ⟨g',hlt,rfl,rfl,rfl,rfl,rfl,rfl,hj⟩
theorem A5x0i (Q:QT) (a0 a3:Pt) (n3 c3:Nat) (e3:Bool) (h:Zaa) (ht :
 Zbf a0 fun A B=>Zbd (Zag h (.ptr (A,B + 0))) fun C=>List.length C + List.length [40]≤9223372036854775807∧(Zak pg Zvo [.slice a3 n3 c3 e3,.str [44]] h fun D E=>
 Zbd D fun D=>(Zag E (.ptr (A,B + 0))=Zag h (.ptr (A,B + 0)))∧List.length (C ++ [40]) + List.length D≤9223372036854775807∧(List.length ((C ++ [40]) ++ D) + List.length [41]≤9223372036854775807∧(Q (.str (((C ++ [40]) ++ D) ++ [41])) E)))):A5x0 Q a0 a3 n3 c3 e3 h:=
 At.mk (cast (by kernel_rfl) ht)
theorem call (a0:Pt) (h:Zaa) (Q:QT) (ht :
 Zbf a0 fun A B=>xSl (Zag h (.ptr (A,B + 1))) fun A A B B=>bcase ((((A:Nat):Int):Int) == 0) (Zbf a0 fun A B=>Zbd (Zag h (.ptr (A,B + 0))) fun A=>Q (.str A) h) (Zcf (h ++ [.cells Zbi [] false]) fun A=>Zbf a0 fun B C=>xSl (Zag A (.ptr (B,C + 1))) fun B C D E=>L5 Q a0 (h.length,0) 0 0 true B C D E (((C:Nat):Int)) 0 A)):Zak pg Zli [.ptr a0] h Q:=
 Zak.of_body kp (c:=cod fn) (fn:=fn) Go.Proofs.Tryz.func136 (by kernel_rfl) (by kernel_rfl) (Nat.le_of_ble_eq_true (by kernel_rfl))
  (cast (by kernel_rfl) ht)
end Ziu
namespace Zio
noncomputable abbrev fn:Func:=Go.Proofs.Tryz.f110
def kp:Zch:=[(3000003,[1,3]),(1000003,[1,3,11,12,13]),(2000005,[13,12,11,3,1]),(4000009,[3])]
noncomputable def C (p:List Nat):Code:=(cod fn).sub p
def KR (Q:QT):KT:=Zfd pg fn.results.toList Q
abbrev T3:=Nat→Nat→List Nat→Pt→Nat→Nat→Bool→Int→Int→Zaa→Prop
def E3 (R3:T3) (env:Env) (h:Zaa):Prop:=Zbu 1 env fun v env=>Zgn v fun a=>Zbf a fun i1 o1=>Zbu 3 env fun v env=>Zbd v fun x3=>Zbu 11 env fun v env=>xSl v fun a11 n11 c11 e11=>Zbu 12 env fun v env=>Zdz .i64 v fun x12=>Zbu 13 env fun v env=>Zdz .i64 v fun x13=>Zil env (R3 i1 o1 x3 a11 n11 c11 e11 x12 x13 h)
theorem Zgd {R3:T3} {env:Env} {h:Zaa} (hi:E3 R3 env h):∃ i1,∃ o1,∃ x3,∃ a11,∃ n11,∃ c11,∃ e11,∃ x12,∃ x13,env=[(1,.ptr (i1,o1)),(3,.str x3),(11,.slice a11 n11 c11 e11),(12,.int .i64 x12),(13,.int .i64 x13)]∧R3 i1 o1 x3 a11 n11 c11 e11 x12 x13 h:=by
 unfold E3 at hi
 have hi0:=hi
 clear hi
 obtain ⟨_,_,rfl,hi1⟩:=Zaf hi0
 obtain ⟨a,rfl,hi2⟩:=Zbn hi1
 obtain ⟨i1,o1,rfl,hi3⟩:=Zbk hi2
 obtain ⟨_,_,rfl,hi4⟩:=Zaf hi3
 obtain ⟨x3,rfl,hi5⟩:=Zed hi4
 obtain ⟨_,_,rfl,hi6⟩:=Zaf hi5
 obtain ⟨a11,n11,c11,e11,rfl,hi7⟩:=Zbp hi6
 obtain ⟨_,_,rfl,hi8⟩:=Zaf hi7
 obtain ⟨x12,rfl,hi9⟩:=Zav hi8
 obtain ⟨_,_,rfl,hi10⟩:=Zaf hi9
 obtain ⟨x13,rfl,hi11⟩:=Zav hi10
 obtain ⟨rfl,hi12⟩:=Zbl hi11
 have hi:=hi12
 exact ⟨i1,o1,x3,a11,n11,c11,e11,x12,x13,rfl,hi⟩
def K0 (Q:QT):KT:=andThen (fun env' h'=>(match kp.find 4000007 with | some ks=>Den pg fn.ntmps (C [1,1,1]) (env'.keep ks) h' (KR Q) | none=>den pg fn.ntmps kp (C [1,1,1]) env' h' (KR Q))) (KR Q)
def K1 (Q:QT):KT:=Zcj 0 (K0 Q)
def K2 (Q:QT):KT:=left kp 3 (K1 Q)
def K3 (Q:QT) (R3:T3):KT:=rnd ((kp.find 1000003).getD []) (E3 R3) (K2 Q)
def L3 (Q:QT) (i1 o1:Nat) (x3:List Nat) (a11:Pt) (n11 c11:Nat) (e11:Bool) (x12 x13:Int) (h:Zaa):Prop:=Zej (Den pg fn.ntmps (C [1,1,0,1,0,0])) ((kp.find 1000003).getD []) (K2 Q) [(1,.ptr (i1,o1)),(3,.str x3),(11,.slice a11 n11 c11 e11),(12,.int .i64 x12),(13,.int .i64 x13)] h
def Ztf (Q:QT) (i1 o1:Nat) (x3:List Nat) (h:Zaa):Prop:=At (K1 Q) (.exit 0) [(1,.ptr (i1,o1)),(3,.str x3)] h
def J9 (Q:QT) (x3:List Nat) (h:Zaa):Prop:=Den pg fn.ntmps (C [1,1,1,1]) [(3,.str x3)] h (KR Q)
def L3t (Q:QT) (R3:T3) (i1 o1:Nat) (x3:List Nat) (a11:Pt) (n11 c11:Nat) (e11:Bool) (x12 x13:Int) (h:Zaa):Prop:=
 bcase (decide ((x13:Int) < x12)) ((0≤(x13:Int)∧(x13:Int) < (n11:Nat))∧(Zbf a11 fun A B=>Zcd (Zbe h (.ptr (A,B + (Int.toNat x13) * 2)) 2) fun A=>Zai A fun A B=>Zec .u8 A fun A=>Zai B fun B C=>xSl B fun B D E F=>Zbq C (Zcf (h ++ [.cells Zap [.int .u8 0,.slice none 0 0 true] false]) fun C=>Zbt (Zbb C (.ptr (h.length,0)) [.int .u8 A,.slice B D E F]) fun A=>(0≤(x13:Int)∧(x13:Int)≤IntKind.wrap .i64 (x13 + 1)∧(IntKind.wrap .i64 (x13 + 1):Int)≤(List.length ([40,44]):Nat))∧(List.length x3 + List.length (sub ([40,44]) x13 (IntKind.wrap .i64 (x13 + 1)))≤9223372036854775807∧(Zcd (Zbe A (.ptr (h.length,0)) 2) fun B=>Zai B fun B C=>Zec .u8 B fun B=>Zai C fun C D=>xSl C fun C E F G=>Zbq D (Zak pg Zhs [.agg [.int .u8 B,.slice C E F G]] A fun A B=>
 Zbd A fun A=>List.length (x3 ++ (sub ([40,44]) x13 (IntKind.wrap .i64 (x13 + 1)))) + List.length A≤9223372036854775807∧(R3 i1 o1 ((x3 ++ (sub ([40,44]) x13 (IntKind.wrap .i64 (x13 + 1)))) ++ A) a11 n11 c11 e11 x12 (IntKind.wrap .i64 (x13 + 1)) B))))))) (Ztf Q i1 o1 x3 h)
theorem Zoe (Q:QT) (R3:T3) (i1 o1:Nat) (x3:List Nat) (a11:Pt) (n11 c11:Nat) (e11:Bool) (x12 x13:Int) (h:Zaa) (ht:L3t Q R3 i1 o1 x3 a11 n11 c11 e11 x12 x13 h):Den pg fn.ntmps (C [1,1,0,1,0,0]) [(1,.ptr (i1,o1)),(3,.str x3),(11,.slice a11 n11 c11 e11),(12,.int .i64 x12),(13,.int .i64 x13)] h (K3 Q R3):=
 Zba (kp:=kp) (cast (by kernel_rfl) ht)
theorem L3ind (Q:QT) (i1 o1:Nat) (a11:Pt) (n11 c11:Nat) (e11:Bool) (x12:Int) {G:Type} (J:G→List Nat→Int→Zaa→Prop) (m:G→Nat)
 (hr:∀ (g:G) (x3:List Nat) (x13:Int) (h:Zaa),J g x3 x13 h→∀ (R3:T3),(∀ g' (x3:List Nat) (x13:Int) (h:Zaa),m g' < m g→J g' x3 x13 h→R3 i1 o1 x3 a11 n11 c11 e11 x12 x13 h)→L3t Q R3 i1 o1 x3 a11 n11 c11 e11 x12 x13 h)
 (g:G) (x3:List Nat) (x13:Int) (h:Zaa) (hj:J g x3 x13 h):L3 Q i1 o1 x3 a11 n11 c11 e11 x12 x13 h:=by
 let P:=fun (K:List Nat→Int→Zaa→Prop) i1' o1' x3 a11' n11' c11' e11' x12' x13 h=>i1=i1'∧o1=o1'∧a11=a11'∧n11=n11'∧c11=c11'∧e11=e11'∧x12=x12'∧K x3 x13 h
 refine Zej.inv2 (fun g=>E3 (P (J g))) (fun g=>E3 (P fun x3 x13 h=>∃ g',m g' < m g∧J g' x3 x13 h)) m ?_ ?_ g ⟨rfl,rfl,rfl,rfl,rfl,rfl,rfl,hj⟩
 ·intro g env h hi
  obtain ⟨i1',o1',x3,a11',n11',c11',e11',x12',x13,rfl,rfl,rfl,rfl,rfl,rfl,rfl,rfl,hj⟩:=Zgd hi
  exact Zoe Q _ i1 o1 x3 a11 n11 c11 e11 x12 x13 h (hr g x3 x13 h hj (P fun x3 x13 h=>∃ g',m g' < m g∧J g' x3 x13 h) fun g' x3 x13 h hlt hj=>⟨rfl,rfl,rfl,rfl,rfl,rfl,rfl,g',hlt,hj⟩)
 ·intro g env h hi
  obtain ⟨i1',o1',x3,a11',n11',c11',e11',x12',x13,rfl,rfl,rfl,rfl,rfl,rfl,rfl,rfl,g',hlt,hj⟩:=Zgd hi
  exact ⟨g',hlt,rfl,rfl,rfl,rfl,rfl,rfl,rfl,hj⟩
theorem A3x0i (Q:QT) (i1 o1:Nat) (x3:List Nat) (h:Zaa) (ht :
 xSl (Zag h (.ptr (i1,o1 + 1))) fun A A B B=>bcase (decide (((((A:Nat):Int)):Int) > 0)) (List.length x3 + List.length [41]≤9223372036854775807∧(J9 Q (x3 ++ [41]) h)) (J9 Q x3 h)):Ztf Q i1 o1 x3 h:=
 At.mk (cast (by kernel_rfl) ht)
theorem J9i (Q:QT) (x3:List Nat) (h:Zaa) (ht :
 Q (.str x3) h):J9 Q x3 h:=
 Zba (kp:=kp) (cast (by kernel_rfl) ht)
theorem call (x0x0:Int) (a0x1:Pt) (n0x1 c0x1:Nat) (e0x1:Bool) (h:Zaa) (Q:QT) (ht :
 Zcf (h ++ [.cells Zap [.int .u8 x0x0,.slice a0x1 n0x1 c0x1 e0x1] false]) fun A=>Zec .u8 (Zag A (.ptr (h.length,0 + 0))) fun B=>Zcf (A ++ [.cells Ycl [.int .u8 B] false]) fun B=>Zcd (rowOf B (A.length,0) 1) fun A=>Znz A fun A=>xSl (Zag B (.ptr (h.length,0 + 1))) fun C D E F=>L3 Q h.length 0 A C D E F (((D:Nat):Int)) 0 B):Zak pg Zhs [.agg [.int .u8 x0x0,.slice a0x1 n0x1 c0x1 e0x1]] h Q:=
 Zak.of_body kp (c:=cod fn) (fn:=fn) Go.Proofs.Tryz.func110 (by kernel_rfl) (by kernel_rfl) (Nat.le_of_ble_eq_true (by kernel_rfl))
  (cast (by kernel_rfl) ht)
end Zio
end Go.Sim

set_option maxRecDepth 100000
set_option maxHeartbeats 0
set_option linter.unusedVariables false
namespace Go.Sim
open Go Go.RowKit
namespace Zml
noncomputable abbrev fn:Func:=Go.Proofs.Tryz.f35
def kp:Zch:=[]
noncomputable def C (p:List Nat):Code:=(cod fn).sub p
def KR (Q:QT):KT:=Zfd pg fn.results.toList Q
theorem call (x0x0 x0x1:List Nat) (v1:Zay) (h:Zaa) (Q:QT) (ht :
 Zcf (h ++ [.cells Zab [.str x0x0,.str x0x1] false]) fun A=>Zcd (Zbe A (v1) 2) fun B=>Zai B fun B C=>xSl B fun B D E F=>Zai C fun C G=>xSl C fun C H I J=>Zbq G (Zcd (Zbe A (.ptr (h.length,0)) 2) fun G=>Zai G fun G K=>Zbd G fun G=>Zai K fun K L=>Zbd K fun K=>Zbq L (Zak pg Zmo [.agg [.slice B D E F,.slice C H I J],.agg [.str G,.str K]] A fun A B=>
 Zca A fun A=>Q (.bool (!A)) B))):Zak pg Zcp [.agg [.str x0x0,.str x0x1],v1] h Q:=
 Zak.of_body kp (c:=cod fn) (fn:=fn) Go.Proofs.Tryz.func35 (by kernel_rfl) (by kernel_rfl) (Nat.le_of_ble_eq_true (by kernel_rfl))
  (cast (by kernel_rfl) ht)
end Zml
namespace Zbx
noncomputable abbrev fn:Func:=Go.Proofs.Tryz.f60
def kp:Zch:=[(3000002,[4]),(1000002,[0,1,7,8])]
noncomputable def C (p:List Nat):Code:=(cod fn).sub p
def KR (Q:QT):KT:=Zfd pg fn.results.toList Q
abbrev T2:=Pt→Nat→Nat→Bool→Zay→Int→Int→Zaa→Prop
def E2 (R2:T2) (env:Env) (h:Zaa):Prop:=Zbu 0 env fun v env=>xSl v fun a0 n0 c0 e0=>Zbu 1 env fun v env=>eFn Zcp v fun cs=>Zai cs fun c cs'=>Ycx c fun v1x0=>Zbq cs' (Zbu 7 env fun v env=>Zdz .i64 v fun x7=>Zbu 8 env fun v env=>Zdz .i64 v fun x8=>Zil env (R2 a0 n0 c0 e0 v1x0 x7 x8 h))
theorem Zea {R2:T2} {env:Env} {h:Zaa} (hi:E2 R2 env h):∃ a0,∃ n0,∃ c0,∃ e0,∃ v1x0,∃ x7,∃ x8,env=[(0,.slice a0 n0 c0 e0),(1,.fn Zcp [v1x0]),(7,.int .i64 x7),(8,.int .i64 x8)]∧R2 a0 n0 c0 e0 v1x0 x7 x8 h:=by
 unfold E2 at hi
 have hi0:=hi
 clear hi
 obtain ⟨_,_,rfl,hi1⟩:=Zaf hi0
 obtain ⟨a0,n0,c0,e0,rfl,hi2⟩:=Zbp hi1
 obtain ⟨_,_,rfl,hi3⟩:=Zaf hi2
 obtain ⟨cs,rfl,hi4⟩:=Zwt hi3
 obtain ⟨c,cs',rfl,hi5⟩:=Zpg hi4
 obtain ⟨v1x0,hx,hi6⟩:=Zmx hi5
 replace hx:=(Option.some.inj hx).symm
 subst hx
 obtain ⟨rfl,hi7⟩:=Ztl hi6
 obtain ⟨_,_,rfl,hi8⟩:=Zaf hi7
 obtain ⟨x7,rfl,hi9⟩:=Zav hi8
 obtain ⟨_,_,rfl,hi10⟩:=Zaf hi9
 obtain ⟨x8,rfl,hi11⟩:=Zav hi10
 obtain ⟨rfl,hi12⟩:=Zbl hi11
 have hi:=hi12
 exact ⟨a0,n0,c0,e0,v1x0,x7,x8,rfl,hi⟩
def K0 (Q:QT):KT:=andThen (fun env' h'=>(match kp.find 4000007 with | some ks=>Den pg fn.ntmps (C [1,1]) (env'.keep ks) h' (KR Q) | none=>den pg fn.ntmps kp (C [1,1]) env' h' (KR Q))) (KR Q)
def K1 (Q:QT):KT:=Zcj 0 (K0 Q)
def K2 (Q:QT):KT:=left kp 2 (K1 Q)
def K3 (Q:QT) (R2:T2):KT:=rnd ((kp.find 1000002).getD []) (E2 R2) (K2 Q)
def L2 (Q:QT) (a0:Pt) (n0 c0:Nat) (e0:Bool) (v1x0:Zay) (x7 x8:Int) (h:Zaa):Prop:=Zej (Den pg fn.ntmps (C [1,0,1,0,0])) ((kp.find 1000002).getD []) (K2 Q) [(0,.slice a0 n0 c0 e0),(1,.fn Zcp [v1x0]),(7,.int .i64 x7),(8,.int .i64 x8)] h
def Zmz (Q:QT) (h:Zaa):Prop:=At (K1 Q) (.exit 0) [(4,.undef)] h
def L2t (Q:QT) (R2:T2) (a0:Pt) (n0 c0:Nat) (e0:Bool) (v1x0:Zay) (x7 x8:Int) (h:Zaa):Prop:=
 bcase (decide ((x8:Int) < x7)) ((0≤(x8:Int)∧(x8:Int) < (n0:Nat))∧(Zbf a0 fun A B=>Zcd (Zbe h (.ptr (A,B + (Int.toNat x8) * 2)) 2) fun A=>Zai A fun A B=>Zbd A fun A=>Zai B fun B C=>Zbd B fun B=>Zbq C (Zak pg Zcp [.agg [.str A,.str B],v1x0] h fun A B=>
 Zca A fun A=>bcase A (Q (.int .i64 x8) B) (R2 a0 n0 c0 e0 v1x0 x7 (IntKind.wrap .i64 (x8 + 1)) B)))) (Zmz Q h)
theorem Zjc (Q:QT) (R2:T2) (a0:Pt) (n0 c0:Nat) (e0:Bool) (v1x0:Zay) (x7 x8:Int) (h:Zaa) (ht:L2t Q R2 a0 n0 c0 e0 v1x0 x7 x8 h):Den pg fn.ntmps (C [1,0,1,0,0]) [(0,.slice a0 n0 c0 e0),(1,.fn Zcp [v1x0]),(7,.int .i64 x7),(8,.int .i64 x8)] h (K3 Q R2):=
 Zba (kp:=kp) (cast (by kernel_rfl) ht)
theorem L2ind (Q:QT) (a0:Pt) (n0 c0:Nat) (e0:Bool) (v1x0:Zay) (x7:Int) {G:Type} (J:G→Int→Zaa→Prop) (m:G→Nat)
 (hr:∀ (g:G) (x8:Int) (h:Zaa),J g x8 h→∀ (R2:T2),(∀ g' (x8:Int) (h:Zaa),m g' < m g→J g' x8 h→R2 a0 n0 c0 e0 v1x0 x7 x8 h)→L2t Q R2 a0 n0 c0 e0 v1x0 x7 x8 h)
 (g:G) (x8:Int) (h:Zaa) (hj:J g x8 h):L2 Q a0 n0 c0 e0 v1x0 x7 x8 h:=by
 let P:=fun (K:Int→Zaa→Prop) a0' n0' c0' e0' v1x0' x7' x8 h=>a0=a0'∧n0=n0'∧c0=c0'∧e0=e0'∧v1x0=v1x0'∧x7=x7'∧K x8 h
 refine Zej.inv2 (fun g=>E2 (P (J g))) (fun g=>E2 (P fun x8 h=>∃ g',m g' < m g∧J g' x8 h)) m ?_ ?_ g ⟨rfl,rfl,rfl,rfl,rfl,rfl,hj⟩
 ·intro g env h hi
  obtain ⟨a0',n0',c0',e0',v1x0',x7',x8,rfl,rfl,rfl,rfl,rfl,rfl,rfl,hj⟩:=Zea hi
  exact Zjc Q _ a0 n0 c0 e0 v1x0 x7 x8 h (hr g x8 h hj (P fun x8 h=>∃ g',m g' < m g∧J g' x8 h) fun g' x8 h hlt hj=>⟨rfl,rfl,rfl,rfl,rfl,rfl,g',hlt,hj⟩)
 ·intro g env h hi
  obtain ⟨a0',n0',c0',e0',v1x0',x7',x8,rfl,rfl,rfl,rfl,rfl,rfl,rfl,g',hlt,hj⟩:=Zea hi
  exact ⟨g',hlt,rfl,rfl,rfl,rfl,rfl,rfl,hj⟩
theorem A2x0i (Q:QT) (h:Zaa) (ht :
 Q (.int .i64 (-1)) h):Zmz Q h:=
 At.mk (cast (by kernel_rfl) ht)
theorem call (a0:Pt) (n0 c0:Nat) (e0:Bool) (v1x0:Zay) (h:Zaa) (Q:QT) (ht :
 L2 Q a0 n0 c0 e0 v1x0 (((n0:Nat):Int)) 0 h):Zak pg Zet [.slice a0 n0 c0 e0,.fn Zcp [v1x0]] h Q:=
 Zak.of_body kp (c:=cod fn) (fn:=fn) Go.Proofs.Tryz.func60 (by kernel_rfl) (by kernel_rfl) (Nat.le_of_ble_eq_true (by kernel_rfl))
  (cast (by kernel_rfl) ht)
end Zbx
namespace Zqk
noncomputable abbrev fn:Func:=Go.Proofs.Tryz.f11
def kp:Zch:=[]
noncomputable def C (p:List Nat):Code:=(cod fn).sub p
def KR (Q:QT):KT:=Zfd pg fn.results.toList Q
theorem call (a0x0:Pt) (n0x0 c0x0:Nat) (e0x0:Bool) (a0x1:Pt) (n0x1 c0x1:Nat) (e0x1:Bool) (a1:Pt) (n1 c1:Nat) (e1:Bool) (h:Zaa) (Q:QT) (ht :
 Zcf (h ++ [.cells Zac [.slice a0x0 n0x0 c0x0 e0x0,.slice a0x1 n0x1 c0x1 e0x1] false]) fun A=>Zcd (Zbe A (.ptr (h.length,0)) 2) fun B=>Zai B fun B C=>xSl B fun B D E F=>Zai C fun C G=>xSl C fun C H I J=>Zbq G (Zak pg Zic [.agg [.slice B D E F,.slice C H I J]] A fun A B=>
 Zca A fun A=>bcase A (bcase (decide (((((n1:Nat):Int)):Int)≤6)) (Zak pg Zfw [.slice a1 n1 c1 e1,.fn Zcp [.ptr (h.length,0)]] B fun A C=>
 Zca A fun A=>Q (.bool (!A)) C) (Q (.bool false) B)) (Q (.bool false) B))):Zak pg Zcs [.agg [.slice a0x0 n0x0 c0x0 e0x0,.slice a0x1 n0x1 c0x1 e0x1],.slice a1 n1 c1 e1] h Q:=
 Zak.of_body kp (c:=cod fn) (fn:=fn) Go.Proofs.Tryz.func11 (by kernel_rfl) (by kernel_rfl) (Nat.le_of_ble_eq_true (by kernel_rfl))
  (cast (by kernel_rfl) ht)
end Zqk
namespace Zdo
noncomputable abbrev fn:Func:=Go.Proofs.Tryz.f34
def kp:Zch:=[]
noncomputable def C (p:List Nat):Code:=(cod fn).sub p
def KR (Q:QT):KT:=Zfd pg fn.results.toList Q
theorem call (a0:Pt) (n0 c0:Nat) (e0:Bool) (v1x0:Zay) (h:Zaa) (Q:QT) (ht :
 Zak pg Zet [.slice a0 n0 c0 e0,.fn Zcp [v1x0]] h fun A B=>
 Zec .i64 A fun A=>Q (.bool (decide ((A:Int) ≥ 0))) B):Zak pg Zfw [.slice a0 n0 c0 e0,.fn Zcp [v1x0]] h Q:=
 Zak.of_body kp (c:=cod fn) (fn:=fn) Go.Proofs.Tryz.func34 (by kernel_rfl) (by kernel_rfl) (Nat.le_of_ble_eq_true (by kernel_rfl))
  (cast (by kernel_rfl) ht)
end Zdo
namespace Zhl
noncomputable abbrev fn:Func:=Go.Proofs.Tryz.f12
def kp:Zch:=[(3000002,[2,1,4]),(1000002,[1,2,7,8,9])]
noncomputable def C (p:List Nat):Code:=(cod fn).sub p
def KR (Q:QT):KT:=Zfd pg fn.results.toList Q
abbrev T2:=Pt→Nat→Nat→Bool→Nat→Nat→Pt→Nat→Nat→Bool→Int→Int→Zaa→Prop
def E2 (R2:T2) (env:Env) (h:Zaa):Prop:=Zbu 1 env fun v env=>xSl v fun a1 n1 c1 e1=>Zbu 2 env fun v env=>Zgn v fun a=>Zbf a fun i2 o2=>Zbu 7 env fun v env=>xSl v fun a7 n7 c7 e7=>Zbu 8 env fun v env=>Zdz .i64 v fun x8=>Zbu 9 env fun v env=>Zdz .i64 v fun x9=>Zil env (R2 a1 n1 c1 e1 i2 o2 a7 n7 c7 e7 x8 x9 h)
theorem Zea {R2:T2} {env:Env} {h:Zaa} (hi:E2 R2 env h):∃ a1,∃ n1,∃ c1,∃ e1,∃ i2,∃ o2,∃ a7,∃ n7,∃ c7,∃ e7,∃ x8,∃ x9,env=[(1,.slice a1 n1 c1 e1),(2,.ptr (i2,o2)),(7,.slice a7 n7 c7 e7),(8,.int .i64 x8),(9,.int .i64 x9)]∧R2 a1 n1 c1 e1 i2 o2 a7 n7 c7 e7 x8 x9 h:=by
 unfold E2 at hi
 have hi0:=hi
 clear hi
 obtain ⟨_,_,rfl,hi1⟩:=Zaf hi0
 obtain ⟨a1,n1,c1,e1,rfl,hi2⟩:=Zbp hi1
 obtain ⟨_,_,rfl,hi3⟩:=Zaf hi2
 obtain ⟨a,rfl,hi4⟩:=Zbn hi3
 obtain ⟨i2,o2,rfl,hi5⟩:=Zbk hi4
 obtain ⟨_,_,rfl,hi6⟩:=Zaf hi5
 obtain ⟨a7,n7,c7,e7,rfl,hi7⟩:=Zbp hi6
 obtain ⟨_,_,rfl,hi8⟩:=Zaf hi7
 obtain ⟨x8,rfl,hi9⟩:=Zav hi8
 obtain ⟨_,_,rfl,hi10⟩:=Zaf hi9
 obtain ⟨x9,rfl,hi11⟩:=Zav hi10
 obtain ⟨rfl,hi12⟩:=Zbl hi11
 have hi:=hi12
 exact ⟨a1,n1,c1,e1,i2,o2,a7,n7,c7,e7,x8,x9,rfl,hi⟩
def K0 (Q:QT):KT:=andThen (fun env' h'=>(match kp.find 4000007 with | some ks=>Den pg fn.ntmps (C [1,1]) (env'.keep ks) h' (KR Q) | none=>den pg fn.ntmps kp (C [1,1]) env' h' (KR Q))) (KR Q)
def K1 (Q:QT):KT:=Zcj 0 (K0 Q)
def K2 (Q:QT):KT:=left kp 2 (K1 Q)
def K3 (Q:QT) (R2:T2):KT:=rnd ((kp.find 1000002).getD []) (E2 R2) (K2 Q)
def L2 (Q:QT) (a1:Pt) (n1 c1:Nat) (e1:Bool) (i2 o2:Nat) (a7:Pt) (n7 c7:Nat) (e7:Bool) (x8 x9:Int) (h:Zaa):Prop:=Zej (Den pg fn.ntmps (C [1,0,1,0,0])) ((kp.find 1000002).getD []) (K2 Q) [(1,.slice a1 n1 c1 e1),(2,.ptr (i2,o2)),(7,.slice a7 n7 c7 e7),(8,.int .i64 x8),(9,.int .i64 x9)] h
def Zmz (Q:QT) (i2 o2:Nat) (a1:Pt) (n1 c1:Nat) (e1:Bool) (h:Zaa):Prop:=At (K1 Q) (.exit 0) [(2,.ptr (i2,o2)),(1,.slice a1 n1 c1 e1),(4,.undef)] h
def L2t (Q:QT) (R2:T2) (a1:Pt) (n1 c1:Nat) (e1:Bool) (i2 o2:Nat) (a7:Pt) (n7 c7:Nat) (e7:Bool) (x8 x9:Int) (h:Zaa):Prop:=
 bcase (decide ((x9:Int) < x8)) ((0≤(x9:Int)∧(x9:Int) < (n7:Nat))∧(Zbf a7 fun A B=>Zcd (Zbe h (.ptr (A,B + (Int.toNat x9) * 2)) 2) fun A=>Zai A fun A B=>Zbd A fun A=>Zai B fun B C=>Zbd B fun B=>Zbq C (Zcf (h ++ [.cells Zab [.str [],.str []] false]) fun C=>Zbt (Zbb C (.ptr (h.length,0)) [.str A,.str B]) fun A=>Zcd (Zbe A (.ptr (i2,o2)) 2) fun B=>Zai B fun B C=>xSl B fun B D E F=>Zai C fun C G=>xSl C fun C H I J=>Zbq G (Zcd (Zbe A (.ptr (h.length,0)) 2) fun G=>Zai G fun G K=>Zbd G fun G=>Zai K fun K L=>Zbd K fun K=>Zbq L (Zak pg Ziv [.agg [.slice B D E F,.slice C H I J],.agg [.str G,.str K]] A fun A B=>
 Zca A fun A=>bcase (!A) (Q (.bool false) B) (R2 a1 n1 c1 e1 i2 o2 a7 n7 c7 e7 x8 (IntKind.wrap .i64 (x9 + 1)) B)))))) (Zmz Q i2 o2 a1 n1 c1 e1 h)
theorem Zjc (Q:QT) (R2:T2) (a1:Pt) (n1 c1:Nat) (e1:Bool) (i2 o2:Nat) (a7:Pt) (n7 c7:Nat) (e7:Bool) (x8 x9:Int) (h:Zaa) (ht:L2t Q R2 a1 n1 c1 e1 i2 o2 a7 n7 c7 e7 x8 x9 h):Den pg fn.ntmps (C [1,0,1,0,0]) [(1,.slice a1 n1 c1 e1),(2,.ptr (i2,o2)),(7,.slice a7 n7 c7 e7),(8,.int .i64 x8),(9,.int .i64 x9)] h (K3 Q R2):=
 Zba (kp:=kp) (cast (by kernel_rfl) ht)
theorem L2ind (Q:QT) (a1:Pt) (n1 c1:Nat) (e1:Bool) (i2 o2:Nat) (a7:Pt) (n7 c7:Nat) (e7:Bool) (x8:Int) {G:Type} (J:G→Int→Zaa→Prop) (m:G→Nat)
 (hr:∀ (g:G) (x9:Int) (h:Zaa),J g x9 h→∀ (R2:T2),(∀ g' (x9:Int) (h:Zaa),m g' < m g→J g' x9 h→R2 a1 n1 c1 e1 i2 o2 a7 n7 c7 e7 x8 x9 h)→L2t Q R2 a1 n1 c1 e1 i2 o2 a7 n7 c7 e7 x8 x9 h)
 (g:G) (x9:Int) (h:Zaa) (hj:J g x9 h):L2 Q a1 n1 c1 e1 i2 o2 a7 n7 c7 e7 x8 x9 h:=by
 let P:=fun (K:Int→Zaa→Prop) a1' n1' c1' e1' i2' o2' a7' n7' c7' e7' x8' x9 h=>a1=a1'∧n1=n1'∧c1=c1'∧e1=e1'∧i2=i2'∧o2=o2'∧a7=a7'∧n7=n7'∧c7=c7'∧e7=e7'∧x8=x8'∧K x9 h
 refine Zej.inv2 (fun g=>E2 (P (J g))) (fun g=>E2 (P fun x9 h=>∃ g',m g' < m g∧J g' x9 h)) m ?_ ?_ g ⟨rfl,rfl,rfl,rfl,rfl,rfl,rfl,rfl,rfl,rfl,rfl,hj⟩
 ·intro g env h hi
  obtain ⟨a1',n1',c1',e1',i2',o2',a7',n7',c7',e7',x8',x9,rfl,rfl,rfl,rfl,rfl,rfl,rfl,rfl,rfl,rfl,rfl,rfl,hj⟩:=Zea hi
  exact Zjc Q _ a1 n1 c1 e1 i2 o2 a7 n7 c7 e7 x8 x9 h (hr g x9 h hj (P fun x9 h=>∃ g',m g' < m g∧J g' x9 h) fun g' x9 h hlt hj=>⟨rfl,rfl,rfl,rfl,rfl,rfl,rfl,rfl,rfl,rfl,rfl,g',hlt,hj⟩)
 ·intro g env h hi
  obtain ⟨a1',n1',c1',e1',i2',o2',a7',n7',c7',e7',x8',x9,rfl,rfl,rfl,rfl,rfl,rfl,rfl,rfl,rfl,rfl,rfl,rfl,g',hlt,hj⟩:=Zea hi
  exact ⟨g',hlt,rfl,rfl,rfl,rfl,rfl,rfl,rfl,rfl,rfl,rfl,rfl,hj⟩
theorem A2x0i (Q:QT) (i2 o2:Nat) (a1:Pt) (n1 c1:Nat) (e1:Bool) (h:Zaa) (ht :
 Zcd (Zbe h (.ptr (i2,o2)) 2) fun A=>Zai A fun A B=>xSl A fun A C D E=>Zai B fun B F=>xSl B fun B G H I=>Zbq F (Zak pg Zgm [.agg [.slice A C D E,.slice B G H I]] h fun A B=>
 Zca A fun A=>bcase A (Q (.bool (decide (((((n1:Nat):Int)):Int)≤6))) B) (Q (.bool false) B))):Zmz Q i2 o2 a1 n1 c1 e1 h:=
 At.mk (cast (by kernel_rfl) ht)
theorem call (a0x0:Pt) (n0x0 c0x0:Nat) (e0x0:Bool) (a0x1:Pt) (n0x1 c0x1:Nat) (e0x1:Bool) (a1:Pt) (n1 c1:Nat) (e1:Bool) (h:Zaa) (Q:QT) (ht :
 Zcf (h ++ [.cells Zac [.slice a0x0 n0x0 c0x0 e0x0,.slice a0x1 n0x1 c0x1 e0x1] false]) fun A=>L2 Q a1 n1 c1 e1 h.length 0 a1 n1 c1 e1 (((n1:Nat):Int)) 0 A):Zak pg Zer [.agg [.slice a0x0 n0x0 c0x0 e0x0,.slice a0x1 n0x1 c0x1 e0x1],.slice a1 n1 c1 e1] h Q:=
 Zak.of_body kp (c:=cod fn) (fn:=fn) Go.Proofs.Tryz.func12 (by kernel_rfl) (by kernel_rfl) (Nat.le_of_ble_eq_true (by kernel_rfl))
  (cast (by kernel_rfl) ht)
end Zhl
end Go.Sim

set_option maxRecDepth 100000
set_option maxHeartbeats 0
set_option linter.unusedVariables false
namespace Go.Sim
open Go Go.RowKit
namespace Zna
noncomputable abbrev fn:Func:=Go.Proofs.Tryz.f58
def kp:Zch:=[]
noncomputable def C (p:List Nat):Code:=(cod fn).sub p
def KR (Q:QT):KT:=Zfd pg fn.results.toList Q
theorem call (x0x0 x0x1:List Nat) (a0x2:Pt) (n0x2 c0x2:Nat) (e0x2:Bool) (v1:Zay) (h:Zaa) (Q:QT) (ht :
 Zcf (h ++ [.cells Zad [.str x0x0,.str x0x1,.slice a0x2 n0x2 c0x2 e0x2] false]) fun A=>Zcd (Zbe A (v1) 2) fun B=>Zai B fun B C=>xSl B fun B D E F=>Zai C fun C G=>xSl C fun C H I J=>Zbq G (Zcd (Zbe A (.ptr (h.length,0)) 3) fun G=>Zai G fun G K=>Zbd G fun G=>Zai K fun K L=>Zbd K fun K=>Zai L fun L M=>xSl L fun L N O P=>Zbq M (Zak pg Zkq [.agg [.slice B D E F,.slice C H I J],.agg [.str G,.str K,.slice L N O P]] A fun A B=>
 Zca A fun A=>Q (.bool (!A)) B))):Zak pg Zcu [.agg [.str x0x0,.str x0x1,.slice a0x2 n0x2 c0x2 e0x2],v1] h Q:=
 Zak.of_body kp (c:=cod fn) (fn:=fn) Go.Proofs.Tryz.func58 (by kernel_rfl) (by kernel_rfl) (Nat.le_of_ble_eq_true (by kernel_rfl))
  (cast (by kernel_rfl) ht)
end Zna
namespace Zbr
noncomputable abbrev fn:Func:=Go.Proofs.Tryz.f90
def kp:Zch:=[(3000002,[4]),(1000002,[0,1,7,8])]
noncomputable def C (p:List Nat):Code:=(cod fn).sub p
def KR (Q:QT):KT:=Zfd pg fn.results.toList Q
abbrev T2:=Pt→Nat→Nat→Bool→Zay→Int→Int→Zaa→Prop
def E2 (R2:T2) (env:Env) (h:Zaa):Prop:=Zbu 0 env fun v env=>xSl v fun a0 n0 c0 e0=>Zbu 1 env fun v env=>eFn Zcu v fun cs=>Zai cs fun c cs'=>Ycx c fun v1x0=>Zbq cs' (Zbu 7 env fun v env=>Zdz .i64 v fun x7=>Zbu 8 env fun v env=>Zdz .i64 v fun x8=>Zil env (R2 a0 n0 c0 e0 v1x0 x7 x8 h))
theorem Zea {R2:T2} {env:Env} {h:Zaa} (hi:E2 R2 env h):∃ a0,∃ n0,∃ c0,∃ e0,∃ v1x0,∃ x7,∃ x8,env=[(0,.slice a0 n0 c0 e0),(1,.fn Zcu [v1x0]),(7,.int .i64 x7),(8,.int .i64 x8)]∧R2 a0 n0 c0 e0 v1x0 x7 x8 h:=by
 unfold E2 at hi
 have hi0:=hi
 clear hi
 obtain ⟨_,_,rfl,hi1⟩:=Zaf hi0
 obtain ⟨a0,n0,c0,e0,rfl,hi2⟩:=Zbp hi1
 obtain ⟨_,_,rfl,hi3⟩:=Zaf hi2
 obtain ⟨cs,rfl,hi4⟩:=Zwt hi3
 obtain ⟨c,cs',rfl,hi5⟩:=Zpg hi4
 obtain ⟨v1x0,hx,hi6⟩:=Zmx hi5
 replace hx:=(Option.some.inj hx).symm
 subst hx
 obtain ⟨rfl,hi7⟩:=Ztl hi6
 obtain ⟨_,_,rfl,hi8⟩:=Zaf hi7
 obtain ⟨x7,rfl,hi9⟩:=Zav hi8
 obtain ⟨_,_,rfl,hi10⟩:=Zaf hi9
 obtain ⟨x8,rfl,hi11⟩:=Zav hi10
 obtain ⟨rfl,hi12⟩:=Zbl hi11
 have hi:=hi12
 exact ⟨a0,n0,c0,e0,v1x0,x7,x8,rfl,hi⟩
def K0 (Q:QT):KT:=andThen (fun env' h'=>(match kp.find 4000007 with | some ks=>Den pg fn.ntmps (C [1,1]) (env'.keep ks) h' (KR Q) | none=>den pg fn.ntmps kp (C [1,1]) env' h' (KR Q))) (KR Q)
def K1 (Q:QT):KT:=Zcj 0 (K0 Q)
def K2 (Q:QT):KT:=left kp 2 (K1 Q)
def K3 (Q:QT) (R2:T2):KT:=rnd ((kp.find 1000002).getD []) (E2 R2) (K2 Q)
def L2 (Q:QT) (a0:Pt) (n0 c0:Nat) (e0:Bool) (v1x0:Zay) (x7 x8:Int) (h:Zaa):Prop:=Zej (Den pg fn.ntmps (C [1,0,1,0,0])) ((kp.find 1000002).getD []) (K2 Q) [(0,.slice a0 n0 c0 e0),(1,.fn Zcu [v1x0]),(7,.int .i64 x7),(8,.int .i64 x8)] h
def Zmz (Q:QT) (h:Zaa):Prop:=At (K1 Q) (.exit 0) [(4,.undef)] h
def L2t (Q:QT) (R2:T2) (a0:Pt) (n0 c0:Nat) (e0:Bool) (v1x0:Zay) (x7 x8:Int) (h:Zaa):Prop:=
 bcase (decide ((x8:Int) < x7)) ((0≤(x8:Int)∧(x8:Int) < (n0:Nat))∧(Zbf a0 fun A B=>Zcd (Zbe h (.ptr (A,B + (Int.toNat x8) * 3)) 3) fun A=>Zai A fun A B=>Zbd A fun A=>Zai B fun B C=>Zbd B fun B=>Zai C fun C D=>xSl C fun C E F G=>Zbq D (Zak pg Zcu [.agg [.str A,.str B,.slice C E F G],v1x0] h fun A B=>
 Zca A fun A=>bcase A (Q (.int .i64 x8) B) (R2 a0 n0 c0 e0 v1x0 x7 (IntKind.wrap .i64 (x8 + 1)) B)))) (Zmz Q h)
theorem Zjc (Q:QT) (R2:T2) (a0:Pt) (n0 c0:Nat) (e0:Bool) (v1x0:Zay) (x7 x8:Int) (h:Zaa) (ht:L2t Q R2 a0 n0 c0 e0 v1x0 x7 x8 h):Den pg fn.ntmps (C [1,0,1,0,0]) [(0,.slice a0 n0 c0 e0),(1,.fn Zcu [v1x0]),(7,.int .i64 x7),(8,.int .i64 x8)] h (K3 Q R2):=
 Zba (kp:=kp) (cast (by kernel_rfl) ht)
theorem L2ind (Q:QT) (a0:Pt) (n0 c0:Nat) (e0:Bool) (v1x0:Zay) (x7:Int) {G:Type} (J:G→Int→Zaa→Prop) (m:G→Nat)
 (hr:∀ (g:G) (x8:Int) (h:Zaa),J g x8 h→∀ (R2:T2),(∀ g' (x8:Int) (h:Zaa),m g' < m g→J g' x8 h→R2 a0 n0 c0 e0 v1x0 x7 x8 h)→L2t Q R2 a0 n0 c0 e0 v1x0 x7 x8 h)
 (g:G) (x8:Int) (h:Zaa) (hj:J g x8 h):L2 Q a0 n0 c0 e0 v1x0 x7 x8 h:=by
 let P:=fun (K:Int→Zaa→Prop) a0' n0' c0' e0' v1x0' x7' x8 h=>a0=a0'∧n0=n0'∧c0=c0'∧e0=e0'∧v1x0=v1x0'∧x7=x7'∧K x8 h
 refine Zej.inv2 (fun g=>E2 (P (J g))) (fun g=>E2 (P fun x8 h=>∃ g',m g' < m g∧J g' x8 h)) m ?_ ?_ g ⟨rfl,rfl,rfl,rfl,rfl,rfl,hj⟩
 ·intro g env h hi
  obtain ⟨a0',n0',c0',e0',v1x0',x7',x8,rfl,rfl,rfl,rfl,rfl,rfl,rfl,hj⟩:=Zea hi
  exact Zjc Q _ a0 n0 c0 e0 v1x0 x7 x8 h (hr g x8 h hj (P fun x8 h=>∃ g',m g' < m g∧J g' x8 h) fun g' x8 h hlt hj=>⟨rfl,rfl,rfl,rfl,rfl,rfl,g',hlt,hj⟩)
 ·intro g env h hi
  obtain ⟨a0',n0',c0',e0',v1x0',x7',x8,rfl,rfl,rfl,rfl,rfl,rfl,rfl,g',hlt,hj⟩:=Zea hi
  exact ⟨g',hlt,rfl,rfl,rfl,rfl,rfl,rfl,hj⟩
theorem A2x0i (Q:QT) (h:Zaa) (ht :
 Q (.int .i64 (-1)) h):Zmz Q h:=
 At.mk (cast (by kernel_rfl) ht)
theorem call (a0:Pt) (n0 c0:Nat) (e0:Bool) (v1x0:Zay) (h:Zaa) (Q:QT) (ht :
 L2 Q a0 n0 c0 e0 v1x0 (((n0:Nat):Int)) 0 h):Zak pg Zdx [.slice a0 n0 c0 e0,.fn Zcu [v1x0]] h Q:=
 Zak.of_body kp (c:=cod fn) (fn:=fn) Go.Proofs.Tryz.func90 (by kernel_rfl) (by kernel_rfl) (Nat.le_of_ble_eq_true (by kernel_rfl))
  (cast (by kernel_rfl) ht)
end Zbr
namespace Zrf
noncomputable abbrev fn:Func:=Go.Proofs.Tryz.f33
def kp:Zch:=[]
noncomputable def C (p:List Nat):Code:=(cod fn).sub p
def KR (Q:QT):KT:=Zfd pg fn.results.toList Q
theorem call (a0x0:Pt) (n0x0 c0x0:Nat) (e0x0:Bool) (a0x1:Pt) (n0x1 c0x1:Nat) (e0x1:Bool) (h:Zaa) (Q:QT) (ht :
 Zcf (h ++ [.cells Zac [.slice a0x0 n0x0 c0x0 e0x0,.slice a0x1 n0x1 c0x1 e0x1] false]) fun A=>Zcd (Zbe A (.ptr (h.length,0)) 2) fun B=>Zai B fun B C=>xSl B fun B D E F=>Zai C fun C G=>xSl C fun C H I J=>Zbq G (Zak pg Zlo [.agg [.slice B D E F,.slice C H I J]] A fun A B=>
 Zca A fun A=>bcase A (xSl (Zag B (.ptr (h.length,0 + 1))) fun A A C C=>bcase (decide (((((A:Nat):Int)):Int)≤10)) (xSl (Zag B (.ptr (h.length,0 + 1))) fun A C D E=>Zak pg Zey [.slice A C D E,.fn Zcu [.ptr (h.length,0)]] B fun A C=>
 Zca A fun A=>Q (.bool (!A)) C) (Q (.bool false) B)) (Q (.bool false) B))):Zak pg Zic [.agg [.slice a0x0 n0x0 c0x0 e0x0,.slice a0x1 n0x1 c0x1 e0x1]] h Q:=
 Zak.of_body kp (c:=cod fn) (fn:=fn) Go.Proofs.Tryz.func33 (by kernel_rfl) (by kernel_rfl) (Nat.le_of_ble_eq_true (by kernel_rfl))
  (cast (by kernel_rfl) ht)
end Zrf
namespace Zdc
noncomputable abbrev fn:Func:=Go.Proofs.Tryz.f57
def kp:Zch:=[]
noncomputable def C (p:List Nat):Code:=(cod fn).sub p
def KR (Q:QT):KT:=Zfd pg fn.results.toList Q
theorem call (a0:Pt) (n0 c0:Nat) (e0:Bool) (v1x0:Zay) (h:Zaa) (Q:QT) (ht :
 Zak pg Zdx [.slice a0 n0 c0 e0,.fn Zcu [v1x0]] h fun A B=>
 Zec .i64 A fun A=>Q (.bool (decide ((A:Int) ≥ 0))) B):Zak pg Zey [.slice a0 n0 c0 e0,.fn Zcu [v1x0]] h Q:=
 Zak.of_body kp (c:=cod fn) (fn:=fn) Go.Proofs.Tryz.func57 (by kernel_rfl) (by kernel_rfl) (Nat.le_of_ble_eq_true (by kernel_rfl))
  (cast (by kernel_rfl) ht)
end Zdc
namespace Zif
noncomputable abbrev fn:Func:=Go.Proofs.Tryz.f38
def kp:Zch:=[(3000002,[1,2]),(1000002,[1,6,7,8])]
noncomputable def C (p:List Nat):Code:=(cod fn).sub p
def KR (Q:QT):KT:=Zfd pg fn.results.toList Q
abbrev T2:=Nat→Nat→Pt→Nat→Nat→Bool→Int→Int→Zaa→Prop
def E2 (R2:T2) (env:Env) (h:Zaa):Prop:=Zbu 1 env fun v env=>Zgn v fun a=>Zbf a fun i1 o1=>Zbu 6 env fun v env=>xSl v fun a6 n6 c6 e6=>Zbu 7 env fun v env=>Zdz .i64 v fun x7=>Zbu 8 env fun v env=>Zdz .i64 v fun x8=>Zil env (R2 i1 o1 a6 n6 c6 e6 x7 x8 h)
theorem Zea {R2:T2} {env:Env} {h:Zaa} (hi:E2 R2 env h):∃ i1,∃ o1,∃ a6,∃ n6,∃ c6,∃ e6,∃ x7,∃ x8,env=[(1,.ptr (i1,o1)),(6,.slice a6 n6 c6 e6),(7,.int .i64 x7),(8,.int .i64 x8)]∧R2 i1 o1 a6 n6 c6 e6 x7 x8 h:=by
 unfold E2 at hi
 have hi0:=hi
 clear hi
 obtain ⟨_,_,rfl,hi1⟩:=Zaf hi0
 obtain ⟨a,rfl,hi2⟩:=Zbn hi1
 obtain ⟨i1,o1,rfl,hi3⟩:=Zbk hi2
 obtain ⟨_,_,rfl,hi4⟩:=Zaf hi3
 obtain ⟨a6,n6,c6,e6,rfl,hi5⟩:=Zbp hi4
 obtain ⟨_,_,rfl,hi6⟩:=Zaf hi5
 obtain ⟨x7,rfl,hi7⟩:=Zav hi6
 obtain ⟨_,_,rfl,hi8⟩:=Zaf hi7
 obtain ⟨x8,rfl,hi9⟩:=Zav hi8
 obtain ⟨rfl,hi10⟩:=Zbl hi9
 have hi:=hi10
 exact ⟨i1,o1,a6,n6,c6,e6,x7,x8,rfl,hi⟩
def K0 (Q:QT):KT:=andThen (fun env' h'=>(match kp.find 4000007 with | some ks=>Den pg fn.ntmps (C [1,1]) (env'.keep ks) h' (KR Q) | none=>den pg fn.ntmps kp (C [1,1]) env' h' (KR Q))) (KR Q)
def K1 (Q:QT):KT:=Zcj 0 (K0 Q)
def K2 (Q:QT):KT:=left kp 2 (K1 Q)
def K3 (Q:QT) (R2:T2):KT:=rnd ((kp.find 1000002).getD []) (E2 R2) (K2 Q)
def L2 (Q:QT) (i1 o1:Nat) (a6:Pt) (n6 c6:Nat) (e6:Bool) (x7 x8:Int) (h:Zaa):Prop:=Zej (Den pg fn.ntmps (C [1,0,1,0,0])) ((kp.find 1000002).getD []) (K2 Q) [(1,.ptr (i1,o1)),(6,.slice a6 n6 c6 e6),(7,.int .i64 x7),(8,.int .i64 x8)] h
def Zmz (Q:QT) (i1 o1:Nat) (h:Zaa):Prop:=At (K1 Q) (.exit 0) [(1,.ptr (i1,o1)),(2,.undef)] h
def L2t (Q:QT) (R2:T2) (i1 o1:Nat) (a6:Pt) (n6 c6:Nat) (e6:Bool) (x7 x8:Int) (h:Zaa):Prop:=
 bcase (decide ((x8:Int) < x7)) ((0≤(x8:Int)∧(x8:Int) < (n6:Nat))∧(Zbf a6 fun A B=>Zcd (Zbe h (.ptr (A,B + (Int.toNat x8) * 3)) 3) fun A=>Zai A fun A B=>Zbd A fun A=>Zai B fun B C=>Zbd B fun B=>Zai C fun C D=>xSl C fun C E F G=>Zbq D (Zcf (h ++ [.cells Zad [.str [],.str [],.slice none 0 0 true] false]) fun D=>Zbt (Zbb D (.ptr (h.length,0)) [.str A,.str B,.slice C E F G]) fun A=>Zcd (Zbe A (.ptr (i1,o1)) 2) fun B=>Zai B fun B C=>xSl B fun B D E F=>Zai C fun C G=>xSl C fun C H I J=>Zbq G (Zcd (Zbe A (.ptr (h.length,0)) 3) fun G=>Zai G fun G K=>Zbd G fun G=>Zai K fun K L=>Zbd K fun K=>Zai L fun L M=>xSl L fun L N O P=>Zbq M (Zak pg Zko [.agg [.slice B D E F,.slice C H I J],.agg [.str G,.str K,.slice L N O P]] A fun A B=>
 Zca A fun A=>bcase (!A) (Q (.bool false) B) (R2 i1 o1 a6 n6 c6 e6 x7 (IntKind.wrap .i64 (x8 + 1)) B)))))) (Zmz Q i1 o1 h)
theorem Zjc (Q:QT) (R2:T2) (i1 o1:Nat) (a6:Pt) (n6 c6:Nat) (e6:Bool) (x7 x8:Int) (h:Zaa) (ht:L2t Q R2 i1 o1 a6 n6 c6 e6 x7 x8 h):Den pg fn.ntmps (C [1,0,1,0,0]) [(1,.ptr (i1,o1)),(6,.slice a6 n6 c6 e6),(7,.int .i64 x7),(8,.int .i64 x8)] h (K3 Q R2):=
 Zba (kp:=kp) (cast (by kernel_rfl) ht)
theorem L2ind (Q:QT) (i1 o1:Nat) (a6:Pt) (n6 c6:Nat) (e6:Bool) (x7:Int) {G:Type} (J:G→Int→Zaa→Prop) (m:G→Nat)
 (hr:∀ (g:G) (x8:Int) (h:Zaa),J g x8 h→∀ (R2:T2),(∀ g' (x8:Int) (h:Zaa),m g' < m g→J g' x8 h→R2 i1 o1 a6 n6 c6 e6 x7 x8 h)→L2t Q R2 i1 o1 a6 n6 c6 e6 x7 x8 h)
 (g:G) (x8:Int) (h:Zaa) (hj:J g x8 h):L2 Q i1 o1 a6 n6 c6 e6 x7 x8 h:=by
 let P:=fun (K:Int→Zaa→Prop) i1' o1' a6' n6' c6' e6' x7' x8 h=>i1=i1'∧o1=o1'∧a6=a6'∧n6=n6'∧c6=c6'∧e6=e6'∧x7=x7'∧K x8 h
 refine Zej.inv2 (fun g=>E2 (P (J g))) (fun g=>E2 (P fun x8 h=>∃ g',m g' < m g∧J g' x8 h)) m ?_ ?_ g ⟨rfl,rfl,rfl,rfl,rfl,rfl,rfl,hj⟩
 ·intro g env h hi
  obtain ⟨i1',o1',a6',n6',c6',e6',x7',x8,rfl,rfl,rfl,rfl,rfl,rfl,rfl,rfl,hj⟩:=Zea hi
  exact Zjc Q _ i1 o1 a6 n6 c6 e6 x7 x8 h (hr g x8 h hj (P fun x8 h=>∃ g',m g' < m g∧J g' x8 h) fun g' x8 h hlt hj=>⟨rfl,rfl,rfl,rfl,rfl,rfl,rfl,g',hlt,hj⟩)
 ·intro g env h hi
  obtain ⟨i1',o1',a6',n6',c6',e6',x7',x8,rfl,rfl,rfl,rfl,rfl,rfl,rfl,rfl,g',hlt,hj⟩:=Zea hi
  exact ⟨g',hlt,rfl,rfl,rfl,rfl,rfl,rfl,rfl,hj⟩
theorem A2x0i (Q:QT) (i1 o1:Nat) (h:Zaa) (ht :
 xSl (Zag h (.ptr (i1,o1 + 0))) fun A B C D=>Zak pg Zlg [.slice A B C D] h fun A B=>
 Zca A fun A=>bcase A (xSl (Zag B (.ptr (i1,o1 + 1))) fun A A C C=>Q (.bool (decide (((((A:Nat):Int)):Int)≤10))) B) (Q (.bool false) B)):Zmz Q i1 o1 h:=
 At.mk (cast (by kernel_rfl) ht)
theorem call (a0x0:Pt) (n0x0 c0x0:Nat) (e0x0:Bool) (a0x1:Pt) (n0x1 c0x1:Nat) (e0x1:Bool) (h:Zaa) (Q:QT) (ht :
 Zcf (h ++ [.cells Zac [.slice a0x0 n0x0 c0x0 e0x0,.slice a0x1 n0x1 c0x1 e0x1] false]) fun A=>xSl (Zag A (.ptr (h.length,0 + 1))) fun B C D E=>L2 Q h.length 0 B C D E (((C:Nat):Int)) 0 A):Zak pg Zgm [.agg [.slice a0x0 n0x0 c0x0 e0x0,.slice a0x1 n0x1 c0x1 e0x1]] h Q:=
 Zak.of_body kp (c:=cod fn) (fn:=fn) Go.Proofs.Tryz.func38 (by kernel_rfl) (by kernel_rfl) (Nat.le_of_ble_eq_true (by kernel_rfl))
  (cast (by kernel_rfl) ht)
end Zif
namespace Zxf
noncomputable abbrev fn:Func:=Go.Proofs.Tryz.f36
def kp:Zch:=[]
noncomputable def C (p:List Nat):Code:=(cod fn).sub p
def KR (Q:QT):KT:=Zfd pg fn.results.toList Q
theorem call (a0x0:Pt) (n0x0 c0x0:Nat) (e0x0:Bool) (a0x1:Pt) (n0x1 c0x1:Nat) (e0x1:Bool) (x1x0 x1x1:List Nat) (h:Zaa) (Q:QT) (ht :
 Zcf (h ++ [.cells Zac [.slice a0x0 n0x0 c0x0 e0x0,.slice a0x1 n0x1 c0x1 e0x1] false]) fun A=>Zcf (A ++ [.cells Zab [.str x1x0,.str x1x1] false]) fun B=>xSl (Zag B (.ptr (h.length,0 + 0))) fun C D E F=>Zbd (Zag B (.ptr (A.length,0 + 0))) fun G=>Zak pg Zjt [.slice C D E F,.str G] B fun B C=>
 Zca B fun B=>bcase B (Zbd (Zag C (.ptr (A.length,0 + 1))) fun A=>Zak pg Zgw [.str A] C fun A B=>
 Zca A fun A=>Q (.bool A) B) (Q (.bool false) C)):Zak pg Zmo [.agg [.slice a0x0 n0x0 c0x0 e0x0,.slice a0x1 n0x1 c0x1 e0x1],.agg [.str x1x0,.str x1x1]] h Q:=
 Zak.of_body kp (c:=cod fn) (fn:=fn) Go.Proofs.Tryz.func36 (by kernel_rfl) (by kernel_rfl) (Nat.le_of_ble_eq_true (by kernel_rfl))
  (cast (by kernel_rfl) ht)
end Zxf
namespace Zxg
noncomputable abbrev fn:Func:=Go.Proofs.Tryz.f63
def kp:Zch:=[]
noncomputable def C (p:List Nat):Code:=(cod fn).sub p
def KR (Q:QT):KT:=Zfd pg fn.results.toList Q
theorem call (a0x0:Pt) (n0x0 c0x0:Nat) (e0x0:Bool) (a0x1:Pt) (n0x1 c0x1:Nat) (e0x1:Bool) (x1x0 x1x1:List Nat) (h:Zaa) (Q:QT) (ht :
 Zcf (h ++ [.cells Zac [.slice a0x0 n0x0 c0x0 e0x0,.slice a0x1 n0x1 c0x1 e0x1] false]) fun A=>Zcf (A ++ [.cells Zab [.str x1x0,.str x1x1] false]) fun B=>Zcd (Zbe B (.ptr (h.length,0)) 2) fun C=>Zai C fun C D=>xSl C fun C E F G=>Zai D fun D H=>xSl D fun D I J K=>Zbq H (Zbd (Zag B (.ptr (A.length,0 + 0))) fun H=>Zak pg Zgp [.agg [.slice C E F G,.slice D I J K],.str H] B fun B C=>
 Zec .i64 B fun B=>bcase (decide ((B:Int) ≥ 0)) (Zbd (Zag C (.ptr (A.length,0 + 1))) fun A=>Zak pg Zge [.str A] C fun A B=>
 Zca A fun A=>Q (.bool A) B) (Q (.bool false) C))):Zak pg Zsm [.agg [.slice a0x0 n0x0 c0x0 e0x0,.slice a0x1 n0x1 c0x1 e0x1],.agg [.str x1x0,.str x1x1]] h Q:=
 Zak.of_body kp (c:=cod fn) (fn:=fn) Go.Proofs.Tryz.func63 (by kernel_rfl) (by kernel_rfl) (Nat.le_of_ble_eq_true (by kernel_rfl))
  (cast (by kernel_rfl) ht)
end Zxg
namespace Zsy
noncomputable abbrev fn:Func:=Go.Proofs.Tryz.f37
def kp:Zch:=[]
noncomputable def C (p:List Nat):Code:=(cod fn).sub p
def KR (Q:QT):KT:=Zfd pg fn.results.toList Q
theorem call (a0x0:Pt) (n0x0 c0x0:Nat) (e0x0:Bool) (a0x1:Pt) (n0x1 c0x1:Nat) (e0x1:Bool) (x1x0 x1x1:List Nat) (h:Zaa) (Q:QT) (ht :
 Zcf (h ++ [.cells Zac [.slice a0x0 n0x0 c0x0 e0x0,.slice a0x1 n0x1 c0x1 e0x1] false]) fun A=>Zcf (A ++ [.cells Zab [.str x1x0,.str x1x1] false]) fun B=>Zcd (Zbe B (.ptr (h.length,0)) 2) fun C=>Zai C fun C D=>xSl C fun C E F G=>Zai D fun D H=>xSl D fun D I J K=>Zbq H (Zak pg Zgm [.agg [.slice C E F G,.slice D I J K]] B fun B C=>
 Zca B fun B=>bcase B (Zcd (Zbe C (.ptr (h.length,0)) 2) fun B=>Zai B fun B D=>xSl B fun B E F G=>Zai D fun D H=>xSl D fun D I J K=>Zbq H (Zcd (Zbe C (.ptr (A.length,0)) 2) fun A=>Zai A fun A H=>Zbd A fun A=>Zai H fun H L=>Zbd H fun H=>Zbq L (Zak pg Zsm [.agg [.slice B E F G,.slice D I J K],.agg [.str A,.str H]] C fun A B=>
 Zca A fun A=>Q (.bool A) B))) (Q (.bool false) C))):Zak pg Ziv [.agg [.slice a0x0 n0x0 c0x0 e0x0,.slice a0x1 n0x1 c0x1 e0x1],.agg [.str x1x0,.str x1x1]] h Q:=
 Zak.of_body kp (c:=cod fn) (fn:=fn) Go.Proofs.Tryz.func37 (by kernel_rfl) (by kernel_rfl) (Nat.le_of_ble_eq_true (by kernel_rfl))
  (cast (by kernel_rfl) ht)
end Zsy
end Go.Sim

set_option maxRecDepth 100000
set_option maxHeartbeats 0
set_option linter.unusedVariables false
namespace Go.Sim
open Go Go.RowKit
namespace Zfh
noncomputable abbrev fn:Func:=Go.Proofs.Tryz.f64
def kp:Zch:=[(4000003,[3,2]),(3000004,[4]),(1000004,[2,3,47,48,49]),(2000006,[80,49,48,47,2,3]),(4000008,[49,48,47,2,3])]
noncomputable def C (p:List Nat):Code:=(cod fn).sub p
def KR (Q:QT):KT:=Zfd pg fn.results.toList Q
abbrev T4:=Nat→Nat→Nat→Nat→Pt→Nat→Nat→Bool→Int→Int→Zaa→Prop
def E4 (R4:T4) (env:Env) (h:Zaa):Prop:=Zbu 2 env fun v env=>Zgn v fun a=>Zbf a fun i2 o2=>Zbu 3 env fun v env=>Zgn v fun a=>Zbf a fun i3 o3=>Zbu 47 env fun v env=>xSl v fun a47 n47 c47 e47=>Zbu 48 env fun v env=>Zdz .i64 v fun x48=>Zbu 49 env fun v env=>Zdz .i64 v fun x49=>Zil env (R4 i2 o2 i3 o3 a47 n47 c47 e47 x48 x49 h)
theorem Zob {R4:T4} {env:Env} {h:Zaa} (hi:E4 R4 env h):∃ i2,∃ o2,∃ i3,∃ o3,∃ a47,∃ n47,∃ c47,∃ e47,∃ x48,∃ x49,env=[(2,.ptr (i2,o2)),(3,.ptr (i3,o3)),(47,.slice a47 n47 c47 e47),(48,.int .i64 x48),(49,.int .i64 x49)]∧R4 i2 o2 i3 o3 a47 n47 c47 e47 x48 x49 h:=by
 unfold E4 at hi
 have hi0:=hi
 clear hi
 obtain ⟨_,_,rfl,hi1⟩:=Zaf hi0
 obtain ⟨a,rfl,hi2⟩:=Zbn hi1
 obtain ⟨i2,o2,rfl,hi3⟩:=Zbk hi2
 obtain ⟨_,_,rfl,hi4⟩:=Zaf hi3
 obtain ⟨a,rfl,hi5⟩:=Zbn hi4
 obtain ⟨i3,o3,rfl,hi6⟩:=Zbk hi5
 obtain ⟨_,_,rfl,hi7⟩:=Zaf hi6
 obtain ⟨a47,n47,c47,e47,rfl,hi8⟩:=Zbp hi7
 obtain ⟨_,_,rfl,hi9⟩:=Zaf hi8
 obtain ⟨x48,rfl,hi10⟩:=Zav hi9
 obtain ⟨_,_,rfl,hi11⟩:=Zaf hi10
 obtain ⟨x49,rfl,hi12⟩:=Zav hi11
 obtain ⟨rfl,hi13⟩:=Zbl hi12
 have hi:=hi13
 exact ⟨i2,o2,i3,o3,a47,n47,c47,e47,x48,x49,rfl,hi⟩
def K0 (Q:QT):KT:=andThen (fun env' h'=>(match kp.find 4000009 with | some ks=>Den pg fn.ntmps (C [1,1,1]) (env'.keep ks) h' (KR Q) | none=>den pg fn.ntmps kp (C [1,1,1]) env' h' (KR Q))) (KR Q)
def K1 (Q:QT):KT:=Zcj 0 (K0 Q)
def K2 (Q:QT):KT:=left kp 4 (K1 Q)
def K3 (Q:QT) (R4:T4):KT:=rnd ((kp.find 1000004).getD []) (E4 R4) (K2 Q)
def J3 (Q:QT) (i3 o3 i2 o2:Nat) (h:Zaa):Prop:=Den pg fn.ntmps (C [1,1]) [(3,.ptr (i3,o3)),(2,.ptr (i2,o2))] h (KR Q)
def L4 (Q:QT) (i2 o2 i3 o3:Nat) (a47:Pt) (n47 c47:Nat) (e47:Bool) (x48 x49:Int) (h:Zaa):Prop:=Zej (Den pg fn.ntmps (C [1,1,0,1,0,0])) ((kp.find 1000004).getD []) (K2 Q) [(2,.ptr (i2,o2)),(3,.ptr (i3,o3)),(47,.slice a47 n47 c47 e47),(48,.int .i64 x48),(49,.int .i64 x49)] h
def J8 (Q:QT) (R4:T4) (x49 x48:Int) (a47:Pt) (n47 c47:Nat) (e47:Bool) (i2 o2 i3 o3:Nat) (h:Zaa):Prop:=Den pg fn.ntmps (C [1,1,0,1,0,0,1,1,1]) [(49,.int .i64 x49),(48,.int .i64 x48),(47,.slice a47 n47 c47 e47),(2,.ptr (i2,o2)),(3,.ptr (i3,o3))] h (K3 Q R4)
def Yiq (Q:QT) (h:Zaa):Prop:=At (K1 Q) (.exit 0) [(4,.undef)] h
theorem J3i (Q:QT) (i3 o3 i2 o2:Nat) (h:Zaa) (ht :
 xSl (Zag h (.ptr (i3,o3 + 2))) fun A B C D=>L4 Q i2 o2 i3 o3 A B C D (((B:Nat):Int)) 0 h):J3 Q i3 o3 i2 o2 h:=
 Zba (kp:=kp) (cast (by kernel_rfl) ht)
def L4t (Q:QT) (R4:T4) (i2 o2 i3 o3:Nat) (a47:Pt) (n47 c47:Nat) (e47:Bool) (x48 x49:Int) (h:Zaa):Prop:=
 bcase (decide ((x49:Int) < x48)) ((0≤(x49:Int)∧(x49:Int) < (n47:Nat))∧(Zbf a47 fun A B=>Zcd (Zbe h (.ptr (A,B + (Int.toNat x49) * 2)) 2) fun A=>Zai A fun A B=>Zbd A fun A=>Zai B fun B C=>Zbd B fun B=>Zbq C (Zcf (h ++ [.cells Zab [.str [],.str []] false]) fun C=>Zbt (Zbb C (.ptr (h.length,0)) [.str A,.str B]) fun A=>Zcd (Zbe A (.ptr (i2,o2)) 2) fun B=>Zai B fun B C=>xSl B fun B D E F=>Zai C fun C G=>xSl C fun C H I J=>Zbq G (Zbd (Zag A (.ptr (h.length,0 + 0))) fun G=>(Zbe A (.ptr (i2,o2)) 2=Zbe A (.ptr (i2,o2)) 2)∧Zak pg Zgp [.agg [.slice B D E F,.slice C H I J],.str G] A fun A B=>
 Zec .i64 A fun A=>bcase (decide ((A:Int) < 0)) ((Zbe B (.ptr (i2,o2)) 2=Zbe B (.ptr (i2,o2)) 2)∧(Zbe B (.ptr (i2,o2)) 2=Zbe B (.ptr (i2,o2)) 2)∧(Zbe B (.ptr (i2,o2)) 2=Zbe B (.ptr (i2,o2)) 2)∧(Zag B (.tup [])=Zag B (.tup []))∧(Zbe B (.ptr (i2,o2)) 2=Zbe B (.ptr (i2,o2)) 2)∧(Zag B (.tup [])=Zag B (.tup []))∧(Zbe B (.ptr (i2,o2)) 2=Zbe B (.ptr (i2,o2)) 2)∧(Zag B (.tup [])=Zag B (.tup []))∧(Zag B (.tup [])=Zag B (.tup []))∧(Zbe B (.ptr (i2,o2)) 2=Zbe B (.ptr (i2,o2)) 2)∧Q (.bool false) B) (Zbd (Zag B (.ptr (h.length,0 + 1))) fun A=>(Zbe B (.ptr (i2,o2)) 2=Zbe B (.ptr (i2,o2)) 2)∧Zak pg Zge [.str A] B fun A C=>
 Zca A fun A=>(Zbe C (.ptr (i2,o2)) 2=Zbe B (.ptr (i2,o2)) 2)∧bcase (!A) ((Zbe C (.ptr (i2,o2)) 2=Zbe C (.ptr (i2,o2)) 2)∧(Zag C (.tup [])=Zag C (.tup []))∧(Zbe C (.ptr (i2,o2)) 2=Zbe C (.ptr (i2,o2)) 2)∧(Zag C (.tup [])=Zag C (.tup []))∧(Zbe C (.ptr (i2,o2)) 2=Zbe C (.ptr (i2,o2)) 2)∧(Zag C (.tup [])=Zag C (.tup []))∧(Zag C (.tup [])=Zag C (.tup []))∧(Zbe C (.ptr (i2,o2)) 2=Zbe C (.ptr (i2,o2)) 2)∧Q (.bool false) C) (Zbd (Zag C (.ptr (h.length,0 + 1))) fun A=>(Zbe C (.ptr (i2,o2)) 2=Zbe C (.ptr (i2,o2)) 2)∧bcase (decide (((((List.length A:Nat):Int)):Int) > 20)) ((Zag C (.tup [])=Zag C (.tup []))∧(Zbe C (.ptr (i2,o2)) 2=Zbe C (.ptr (i2,o2)) 2)∧(Zag C (.tup [])=Zag C (.tup []))∧(Zbe C (.ptr (i2,o2)) 2=Zbe C (.ptr (i2,o2)) 2)∧(Zag C (.tup [])=Zag C (.tup []))∧(Zag C (.tup [])=Zag C (.tup []))∧(Zbe C (.ptr (i2,o2)) 2=Zbe C (.ptr (i2,o2)) 2)∧Q (.bool false) C) (Zbd (Zag C (.ptr (h.length,0 + 1))) fun A=>Zbd (Zag C (.ptr (i3,o3 + 0 + 1))) fun B=>Zak pg Zho [.str A] C fun A D=>
 Zbd A fun A=>(Zag D (.ptr (i3,o3 + 0 + 1))=Zag C (.ptr (i3,o3 + 0 + 1)))∧(Zbe D (.ptr (i2,o2)) 2=Zbe C (.ptr (i2,o2)) 2)∧Zak pg Zho [.str B] D fun B C=>
 Zbd B fun B=>(Zag C (.ptr (h.length,0 + 1))=Zag D (.ptr (h.length,0 + 1)))∧(Zbe C (.ptr (i2,o2)) 2=Zbe D (.ptr (i2,o2)) 2)∧Zak pg Zpx [.str A,.str B] C fun A B=>
 Zca A fun A=>(Zag B (.ptr (i3,o3 + 0 + 1))=Zag C (.ptr (i3,o3 + 0 + 1)))∧(Zag B (.ptr (h.length,0 + 1))=Zag C (.ptr (h.length,0 + 1)))∧(Zbe B (.ptr (i2,o2)) 2=Zbe C (.ptr (i2,o2)) 2)∧bcase (!A) (Q (.bool false) B) (J8 Q R4 x49 x48 a47 n47 c47 e47 i2 o2 i3 o3 B)))))))) (Yiq Q h)
theorem Ybp (Q:QT) (R4:T4) (i2 o2 i3 o3:Nat) (a47:Pt) (n47 c47:Nat) (e47:Bool) (x48 x49:Int) (h:Zaa) (ht:L4t Q R4 i2 o2 i3 o3 a47 n47 c47 e47 x48 x49 h):Den pg fn.ntmps (C [1,1,0,1,0,0]) [(2,.ptr (i2,o2)),(3,.ptr (i3,o3)),(47,.slice a47 n47 c47 e47),(48,.int .i64 x48),(49,.int .i64 x49)] h (K3 Q R4):=
 Zba (kp:=kp) (cast (by kernel_rfl) ht)
theorem L4ind (Q:QT) (i2 o2 i3 o3:Nat) (a47:Pt) (n47 c47:Nat) (e47:Bool) (x48:Int) {G:Type} (J:G→Int→Zaa→Prop) (m:G→Nat)
 (hr:∀ (g:G) (x49:Int) (h:Zaa),J g x49 h→∀ (R4:T4),(∀ g' (x49:Int) (h:Zaa),m g' < m g→J g' x49 h→R4 i2 o2 i3 o3 a47 n47 c47 e47 x48 x49 h)→L4t Q R4 i2 o2 i3 o3 a47 n47 c47 e47 x48 x49 h)
 (g:G) (x49:Int) (h:Zaa) (hj:J g x49 h):L4 Q i2 o2 i3 o3 a47 n47 c47 e47 x48 x49 h:=by
 let P:=fun (K:Int→Zaa→Prop) i2' o2' i3' o3' a47' n47' c47' e47' x48' x49 h=>i2=i2'∧o2=o2'∧i3=i3'∧o3=o3'∧a47=a47'∧n47=n47'∧c47=c47'∧e47=e47'∧x48=x48'∧K x49 h
 refine Zej.inv2 (fun g=>E4 (P (J g))) (fun g=>E4 (P fun x49 h=>∃ g',m g' < m g∧J g' x49 h)) m ?_ ?_ g ⟨rfl,rfl,rfl,rfl,rfl,rfl,rfl,rfl,rfl,hj⟩
 ·intro g env h hi
  obtain ⟨i2',o2',i3',o3',a47',n47',c47',e47',x48',x49,rfl,rfl,rfl,rfl,rfl,rfl,rfl,rfl,rfl,rfl,hj⟩:=Zob hi
  exact Ybp Q _ i2 o2 i3 o3 a47 n47 c47 e47 x48 x49 h (hr g x49 h hj (P fun x49 h=>∃ g',m g' < m g∧J g' x49 h) fun g' x49 h hlt hj=>⟨rfl,rfl,rfl,rfl,rfl,rfl,rfl,rfl,rfl,g',hlt,hj⟩)
 ·intro g env h hi
  obtain ⟨i2',o2',i3',o3',a47',n47',c47',e47',x48',x49,rfl,rfl,rfl,rfl,rfl,rfl,rfl,rfl,rfl,rfl,g',hlt,hj⟩:=Zob hi
  exact ⟨g',hlt,rfl,rfl,rfl,rfl,rfl,rfl,rfl,rfl,rfl,hj⟩
theorem J8i (Q:QT) (R4:T4) (x49 x48:Int) (a47:Pt) (n47 c47:Nat) (e47:Bool) (i2 o2 i3 o3:Nat) (h:Zaa) (ht :
 R4 i2 o2 i3 o3 a47 n47 c47 e47 x48 (IntKind.wrap .i64 (x49 + 1)) h):J8 Q R4 x49 x48 a47 n47 c47 e47 i2 o2 i3 o3 h:=
 Zba (kp:=kp) (cast (by kernel_rfl) ht)
theorem A4x0i (Q:QT) (h:Zaa) (ht :
 Q (.bool true) h):Yiq Q h:=
 At.mk (cast (by kernel_rfl) ht)
theorem call (a0x0:Pt) (n0x0 c0x0:Nat) (e0x0:Bool) (a0x1:Pt) (n0x1 c0x1:Nat) (e0x1:Bool) (x1x0 x1x1:List Nat) (a1x2:Pt) (n1x2 c1x2:Nat) (e1x2:Bool) (h:Zaa) (Q:QT) (ht :
 Zcf (h ++ [.cells Zac [.slice a0x0 n0x0 c0x0 e0x0,.slice a0x1 n0x1 c0x1 e0x1] false]) fun A=>Zcf (A ++ [.cells Zad [.str x1x0,.str x1x1,.slice a1x2 n1x2 c1x2 e1x2] false]) fun B=>xSl (Zag B (.ptr (h.length,0 + 0))) fun C D E F=>Zak pg Zlg [.slice C D E F] B fun B C=>
 Zca B fun B=>bcase (!B) (Q (.bool false) C) (Zcd (Zbe C (.ptr (h.length,0)) 2) fun B=>Zai B fun B D=>xSl B fun B E F G=>Zai D fun D H=>xSl D fun D I J K=>Zbq H (Zbd (Zag C (.ptr (A.length,0 + 0 + 0))) fun H=>Zak pg Zgp [.agg [.slice B E F G,.slice D I J K],.str H] C fun B C=>
 Zec .i64 B fun B=>bcase (decide ((B:Int) < 0)) (Q (.bool false) C) (Zbd (Zag C (.ptr (A.length,0 + 0 + 1))) fun B=>Zak pg Zge [.str B] C fun B C=>
 Zca B fun B=>bcase (!B) (Q (.bool false) C) (Zbd (Zag C (.ptr (A.length,0 + 0 + 1))) fun B=>bcase (decide (((((List.length B:Nat):Int)):Int) > 20)) (Q (.bool false) C) (Zbd (Zag C (.ptr (A.length,0 + 0 + 1))) fun B=>Zlz B 0 fun B=>Zak pg Zia [.int .u8 (((B:Nat):Int))] C fun B C=>
 Zca B fun B=>bcase B (Q (.bool false) C) (xSl (Zag C (.ptr (A.length,0 + 2))) fun B B D D=>bcase (decide (((((B:Nat):Int)):Int) > 3)) (Q (.bool false) C) (J3 Q A.length 0 h.length 0 C)))))))):Zak pg Zko [.agg [.slice a0x0 n0x0 c0x0 e0x0,.slice a0x1 n0x1 c0x1 e0x1],.agg [.str x1x0,.str x1x1,.slice a1x2 n1x2 c1x2 e1x2]] h Q:=
 Zak.of_body kp (c:=cod fn) (fn:=fn) Go.Proofs.Tryz.func64 (by kernel_rfl) (by kernel_rfl) (Nat.le_of_ble_eq_true (by kernel_rfl))
  (cast (by kernel_rfl) ht)
end Zfh
end Go.Sim
