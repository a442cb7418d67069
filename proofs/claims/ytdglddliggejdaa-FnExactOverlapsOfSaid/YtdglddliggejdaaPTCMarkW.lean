/- A part of the proof of a statement of this seat: see the text that holds the theorem. No condition. -/
import Derived.Test.YtdglddliggejdaaNm
set_option linter.unusedVariables false
set_option linter.unusedSimpArgs false
set_option linter.all false
set_option maxRecDepth 100000
set_option maxHeartbeats 0
set_option linter.unusedVariables false
namespace Go.Sim
open Go Go.RowKit
namespace Zge
noncomputable abbrev fn:Func:=Go.Proofs.Try.f58
def kp:Zce:=[(3000001,[0]),(1000001,[0])]
noncomputable def C (p:List Nat):Code:=(cod fn).sub p
def KR (Q:QT):KT:=Zet pg fn.results.toList Q
abbrev T1:=Pt→Zaa→Prop
def E1 (R1:T1) (env:Env) (h:Zaa):Prop:=Zbx 0 env fun v env=>Zfw v fun a0=>Ziy env (R1 a0 h)
theorem Ykn {R1:T1} {env:Env} {h:Zaa} (hi:E1 R1 env h):∃ a0,env=[(0,.ptr a0)]∧R1 a0 h:=by
 unfold E1 at hi
 repeat ((first | (have k:=Zae hi; clear hi; obtain ⟨_,_,e,hi⟩:=k) | (have k:=Zbu hi; clear hi; obtain ⟨_,e,hi⟩:=k)); subst e)
 obtain ⟨rfl,hi⟩:=Zbj hi
 exact ⟨_,rfl,hi⟩
def K0 (Q:QT):KT:=andThen (fun env' h'=>(match kp.find 4000003 with | some ks=>Den pg fn.ntmps (C [1,1]) (env'.keep ks) h' (KR Q) | none=>den pg fn.ntmps kp (C [1,1]) env' h' (KR Q))) (KR Q)
def K1 (Q:QT):KT:=Zcg 0 (K0 Q)
def K2 (Q:QT):KT:=left kp 1 (K1 Q)
def K3 (Q:QT) (R1:T1):KT:=rnd ((kp.find 1000001).getD []) (E1 R1) (K2 Q)
def L1 (Q:QT) (a0:Pt) (h:Zaa):Prop:=Zdt (Den pg fn.ntmps (C [1,0,0,0])) ((kp.find 1000001).getD []) (K2 Q) [(0,.ptr a0)] h
def Ypy (Q:QT) (a0:Pt) (h:Zaa):Prop:=At (K1 Q) (.exit 0) [(0,.ptr a0)] h
def L1t (Q:QT) (R1:T1) (a0:Pt) (h:Zaa):Prop:=
 Zbf a0 fun A B=>Zfw (Zaf h (.ptr (A,B + 2))) fun A=>bcase (!(Option.isNone A)) (Zbf a0 fun A B=>Zfw (Zaf h (.ptr (A,B + 2))) fun A=>R1 A h) (Ypy Q a0 h)
theorem Ypq (Q:QT) (R1:T1) (a0:Pt) (h:Zaa) (ht:L1t Q R1 a0 h):Den pg fn.ntmps (C [1,0,0,0]) [(0,.ptr a0)] h (K3 Q R1):=
 Zax (kp:=kp) (cast (by kernel_rfl) ht)
theorem L1ind (Q:QT) {G:Type} (J:G→Pt→Zaa→Prop) (m:G→Nat)
 (hr:∀ (g:G) (a0:Pt) (h:Zaa),J g a0 h→∀ (R1:T1),(∀ g' (a0:Pt) (h:Zaa),m g' < m g→J g' a0 h→R1 a0 h)→L1t Q R1 a0 h)
 (g:G) (a0:Pt) (h:Zaa) (hj:J g a0 h):L1 Q a0 h:=by
 let P:=fun (K:Pt→Zaa→Prop) a0 h=>K a0 h
 refine Zdt.inv2 (fun g=>E1 (P (J g))) (fun g=>E1 (P fun a0 h=>∃ g',m g' < m g∧J g' a0 h)) m ?_ ?_ g hj
 ·intro g env h hi
  obtain ⟨a0,rfl,hj⟩:=Ykn hi
  exact Ypq Q _ a0 h (hr g a0 h hj (P fun a0 h=>∃ g',m g' < m g∧J g' a0 h) fun g' a0 h hlt hj=>⟨g',hlt,hj⟩)
 ·intro g env h hi
  obtain ⟨a0,rfl,g',hlt,hj⟩:=Ykn hi
  exact ⟨g',hlt,hj⟩
theorem A1x0i (Q:QT) (a0:Pt) (h:Zaa) (ht :
 Q (.ptr a0) h):Ypy Q a0 h:=
 At.mk (cast (by kernel_rfl) ht)
theorem call (a0:Pt) (h:Zaa) (Q:QT) (ht :
 L1 Q a0 h):Zad pg Zgk [.ptr a0] h Q:=
 Zad.of_body kp (c:=cod fn) (fn:=fn) Go.Proofs.Try.func58 (by kernel_rfl) (by kernel_rfl) (Nat.le_of_ble_eq_true (by kernel_rfl))
  (cast (by kernel_rfl) ht)
end Zge
namespace Zeo
noncomputable abbrev fn:Func:=Go.Proofs.Try.f56
def kp:Zce:=[(2000004,[16,1,0]),(4000007,[0,1]),(2000007,[71,0,1]),(4000009,[0,1]),(3000012,[4]),(1000012,[1,80,81,82])]
noncomputable def C (p:List Nat):Code:=(cod fn).sub p
def KR (Q:QT):KT:=Zet pg fn.results.toList Q
abbrev T12:=Pt→Pt→Nat→Nat→Bool→Int→Int→Zaa→Prop
def E12 (R12:T12) (env:Env) (h:Zaa):Prop:=Zbx 1 env fun v env=>Zfw v fun a1=>Zbx 80 env fun v env=>xSl v fun a80 n80 c80 e80=>Zbx 81 env fun v env=>Zdz .i64 v fun x81=>Zbx 82 env fun v env=>Zdz .i64 v fun x82=>Ziy env (R12 a1 a80 n80 c80 e80 x81 x82 h)
theorem Yhd {R12:T12} {env:Env} {h:Zaa} (hi:E12 R12 env h):∃ a1,∃ a80,∃ n80,∃ c80,∃ e80,∃ x81,∃ x82,env=[(1,.ptr a1),(80,.slice a80 n80 c80 e80),(81,.int .i64 x81),(82,.int .i64 x82)]∧R12 a1 a80 n80 c80 e80 x81 x82 h:=by
 unfold E12 at hi
 repeat ((first | (have k:=Zae hi; clear hi; obtain ⟨_,_,e,hi⟩:=k) | (have k:=Zat hi; clear hi; obtain ⟨_,e,hi⟩:=k) | (have k:=Zbu hi; clear hi; obtain ⟨_,e,hi⟩:=k) | (have k:=Zbt hi; clear hi; obtain ⟨_,_,_,_,e,hi⟩:=k)); subst e)
 obtain ⟨rfl,hi⟩:=Zbj hi
 exact ⟨_,_,_,_,_,_,_,rfl,hi⟩
def K0 (Q:QT):KT:=andThen (fun env' h'=>(match kp.find 4000017 with | some ks=>Den pg fn.ntmps (C [1,1,1,1,1,1,1]) (env'.keep ks) h' (KR Q) | none=>den pg fn.ntmps kp (C [1,1,1,1,1,1,1]) env' h' (KR Q))) (KR Q)
def K1 (Q:QT):KT:=Zcg 1 (K0 Q)
def K2 (Q:QT):KT:=left kp 12 (K1 Q)
def K3 (Q:QT) (R12:T12):KT:=rnd ((kp.find 1000012).getD []) (E12 R12) (K2 Q)
def J7 (Q:QT) (a0 a1:Pt) (h:Zaa):Prop:=Den pg fn.ntmps (C [1,1,1]) [(0,.ptr a0),(1,.ptr a1)] h (KR Q)
def J9 (Q:QT) (a0 a1:Pt) (h:Zaa):Prop:=Den pg fn.ntmps (C [1,1,1,1]) [(0,.ptr a0),(1,.ptr a1)] h (KR Q)
def L12 (Q:QT) (a1 a80:Pt) (n80 c80:Nat) (e80:Bool) (x81 x82:Int) (h:Zaa):Prop:=Zdt (Den pg fn.ntmps (C [1,1,1,1,1,1,0,1,0,0])) ((kp.find 1000012).getD []) (K2 Q) [(1,.ptr a1),(80,.slice a80 n80 c80 e80),(81,.int .i64 x81),(82,.int .i64 x82)] h
def Yog (Q:QT) (h:Zaa):Prop:=At (K1 Q) (.exit 1) [(4,.undef)] h
theorem J7i (Q:QT) (a0 a1:Pt) (h:Zaa) (ht :
 Zbf a0 fun A B=>Zcb (Zaf h (.ptr (A,B + 0))) fun A=>Zad pg Zde [.str A] h fun A B=>
 Zbw A fun A=>bcase (!A) (Zbf a0 fun A C=>Zbf a1 fun D E=>Zcb (Zaf B (.ptr (A,C + 0))) fun F=>Zcb (Zaf B (.ptr (D,E + 0))) fun D=>(Zaf B (.ptr (A,C + 0))=Zaf B (.ptr (A,C + 0)))∧bcase (!(decide (F=D))) (Q (.bool false) B) (J9 Q a0 a1 B)) ((Zaf B (.tup [])=Zaf B (.tup []))∧J9 Q a0 a1 B)):J7 Q a0 a1 h:=
 Zax (kp:=kp) (cast (by kernel_rfl) ht)
theorem J9i (Q:QT) (a0 a1:Pt) (h:Zaa) (ht :
 Zbf a0 fun A B=>xSl (Zaf h (.ptr (A,B + 1))) fun A B C D=>Zbf a0 fun E F=>Zcf (Zbd h (.ptr (E,F + 2)) [.ptr a1]) fun E=>L12 Q a1 A B C D (((B:Nat):Int)) 0 E):J9 Q a0 a1 h:=
 Zax (kp:=kp) (cast (by kernel_rfl) ht)
def L12t (Q:QT) (R12:T12) (a1 a80:Pt) (n80 c80:Nat) (e80:Bool) (x81 x82:Int) (h:Zaa):Prop:=
 bcase (decide ((x82:Int) < x81)) ((0≤(x82:Int)∧(x82:Int) < (n80:Nat))∧(Zbf a80 fun A B=>Zfw (Zaf h (.ptr (A,B + (Int.toNat x82) * 1))) fun A=>Zbf a1 fun B C=>xSl (Zaf h (.ptr (B,C + 1))) fun B C D D=>(0≤(x82:Int)∧(x82:Int) < (C:Nat))∧(Zbf B fun B C=>Zfw (Zaf h (.ptr (B,C + (Int.toNat x82) * 1))) fun B=>Zad pg Zkv [.ptr A,.ptr B] h fun A B=>
 Zbw A fun A=>bcase (!A) (Q (.bool false) B) (R12 a1 a80 n80 c80 e80 x81 (IntKind.wrap .i64 (x82 + 1)) B)))) (Yog Q h)
theorem Ynh (Q:QT) (R12:T12) (a1 a80:Pt) (n80 c80:Nat) (e80:Bool) (x81 x82:Int) (h:Zaa) (ht:L12t Q R12 a1 a80 n80 c80 e80 x81 x82 h):Den pg fn.ntmps (C [1,1,1,1,1,1,0,1,0,0]) [(1,.ptr a1),(80,.slice a80 n80 c80 e80),(81,.int .i64 x81),(82,.int .i64 x82)] h (K3 Q R12):=
 Zax (kp:=kp) (cast (by kernel_rfl) ht)
theorem L12ind (Q:QT) (a1 a80:Pt) (n80 c80:Nat) (e80:Bool) (x81:Int) {G:Type} (J:G→Int→Zaa→Prop) (m:G→Nat)
 (hr:∀ (g:G) (x82:Int) (h:Zaa),J g x82 h→∀ (R12:T12),(∀ g' (x82:Int) (h:Zaa),m g' < m g→J g' x82 h→R12 a1 a80 n80 c80 e80 x81 x82 h)→L12t Q R12 a1 a80 n80 c80 e80 x81 x82 h)
 (g:G) (x82:Int) (h:Zaa) (hj:J g x82 h):L12 Q a1 a80 n80 c80 e80 x81 x82 h:=by
 let P:=fun (K:Int→Zaa→Prop) a1' a80' n80' c80' e80' x81' x82 h=>a1=a1'∧a80=a80'∧n80=n80'∧c80=c80'∧e80=e80'∧x81=x81'∧K x82 h
 refine Zdt.inv2 (fun g=>E12 (P (J g))) (fun g=>E12 (P fun x82 h=>∃ g',m g' < m g∧J g' x82 h)) m ?_ ?_ g ⟨rfl,rfl,rfl,rfl,rfl,rfl,hj⟩
 ·intro g env h hi
  obtain ⟨a1',a80',n80',c80',e80',x81',x82,rfl,rfl,rfl,rfl,rfl,rfl,rfl,hj⟩:=Yhd hi
  exact Ynh Q _ a1 a80 n80 c80 e80 x81 x82 h (hr g x82 h hj (P fun x82 h=>∃ g',m g' < m g∧J g' x82 h) fun g' x82 h hlt hj=>⟨rfl,rfl,rfl,rfl,rfl,rfl,g',hlt,hj⟩)
 ·intro g env h hi
  obtain ⟨a1',a80',n80',c80',e80',x81',x82,rfl,rfl,rfl,rfl,rfl,rfl,rfl,g',hlt,hj⟩:=Yhd hi
  exact ⟨g',hlt,rfl,rfl,rfl,rfl,rfl,rfl,hj⟩
theorem A12x1i (Q:QT) (h:Zaa) (ht :
 Q (.bool true) h):Yog Q h:=
 At.mk (cast (by kernel_rfl) ht)
theorem call (a0 a1:Pt) (h:Zaa) (Q:QT) (ht :
 Zad pg Zgk [.ptr a0] h fun A B=>
 Zfw A fun A=>Zad pg Zgk [.ptr a1] B fun B C=>
 Zfw B fun B=>Zrq C A B fun D=>bcase D (Q (.bool true) C) (Zbf A fun D E=>Zcb (Zaf C (.ptr (D,E + 0))) fun D=>Zad pg Zde [.str D] C fun C D=>
 Zbw C fun C=>bcase C (Zbf B fun C E=>Zcb (Zaf D (.ptr (C,E + 0))) fun C=>Zad pg Zde [.str C] D fun C E=>
 Zbw C fun C=>bcase C (Zbf A fun C F=>Zbf B fun G H=>Zcb (Zaf E (.ptr (C,F + 0))) fun I=>Zcb (Zaf E (.ptr (G,H + 0))) fun G=>(Zaf E (.ptr (C,F + 0))=Zaf E (.ptr (C,F + 0)))∧bcase (!(Zdy I G || decide (I=G))) (bcase (!(Zdy I G || decide (I=G))) (J7 Q B A E) (J7 Q A B E)) (Zbf A fun C F=>Zcb (Zaf E (.ptr (C,F + 0))) fun C=>Zad pg Zde [.str C] E fun C F=>
 Zbw C fun C=>bcase (!C) (Zbf B fun C G=>Zcb (Zaf F (.ptr (C,G + 0))) fun C=>Zad pg Zde [.str C] F fun C G=>
 Zbw C fun C=>bcase C (J7 Q B A G) (J7 Q A B G)) (J7 Q A B F))) ((Zaf E (.tup [])=Zaf E (.tup []))∧Zbf A fun C F=>Zcb (Zaf E (.ptr (C,F + 0))) fun C=>Zad pg Zde [.str C] E fun C E=>
 Zbw C fun C=>bcase (!C) (Zbf B fun C F=>Zcb (Zaf E (.ptr (C,F + 0))) fun C=>Zad pg Zde [.str C] E fun C F=>
 Zbw C fun C=>bcase C (J7 Q B A F) (J7 Q A B F)) (J7 Q A B E))) ((Zaf D (.tup [])=Zaf D (.tup []))∧Zbf A fun C E=>Zcb (Zaf D (.ptr (C,E + 0))) fun C=>Zad pg Zde [.str C] D fun C D=>
 Zbw C fun C=>bcase (!C) (Zbf B fun C E=>Zcb (Zaf D (.ptr (C,E + 0))) fun C=>Zad pg Zde [.str C] D fun C E=>
 Zbw C fun C=>bcase C (J7 Q B A E) (J7 Q A B E)) (J7 Q A B D)))):Zad pg Zkv [.ptr a0,.ptr a1] h Q:=
 Zad.of_body kp (c:=cod fn) (fn:=fn) Go.Proofs.Try.func56 (by kernel_rfl) (by kernel_rfl) (Nat.le_of_ble_eq_true (by kernel_rfl))
  (cast (by kernel_rfl) ht)
end Zeo
end Go.Sim

set_option maxRecDepth 100000
set_option maxHeartbeats 0
set_option linter.unusedVariables false
namespace Go.Sim
open Go Go.RowKit
namespace Zgi
noncomputable abbrev fn:Func:=Go.Proofs.Try.f50
def kp:Zce:=[(3000002,[1]),(1000002,[0,1,5])]
noncomputable def C (p:List Nat):Code:=(cod fn).sub p
def KR (Q:QT):KT:=Zet pg fn.results.toList Q
abbrev T2:=Pt→Nat→Nat→Bool→Int→Int→Zaa→Prop
def E2 (R2:T2) (env:Env) (h:Zaa):Prop:=Zbx 0 env fun v env=>xSl v fun a0 n0 c0 e0=>Zbx 1 env fun v env=>Zdz .i64 v fun x1=>Zbx 5 env fun v env=>Zdz .i64 v fun x5=>Ziy env (R2 a0 n0 c0 e0 x1 x5 h)
theorem Zda {R2:T2} {env:Env} {h:Zaa} (hi:E2 R2 env h):∃ a0,∃ n0,∃ c0,∃ e0,∃ x1,∃ x5,env=[(0,.slice a0 n0 c0 e0),(1,.int .i64 x1),(5,.int .i64 x5)]∧R2 a0 n0 c0 e0 x1 x5 h:=by
 unfold E2 at hi
 repeat ((first | (have k:=Zae hi; clear hi; obtain ⟨_,_,e,hi⟩:=k) | (have k:=Zbt hi; clear hi; obtain ⟨_,_,_,_,e,hi⟩:=k) | (have k:=Zat hi; clear hi; obtain ⟨_,e,hi⟩:=k)); subst e)
 obtain ⟨rfl,hi⟩:=Zbj hi
 exact ⟨_,_,_,_,_,_,rfl,hi⟩
def K0 (Q:QT):KT:=andThen (fun env' h'=>(match kp.find 4000006 with | some ks=>Den pg fn.ntmps (C [1,1]) (env'.keep ks) h' (KR Q) | none=>den pg fn.ntmps kp (C [1,1]) env' h' (KR Q))) (KR Q)
def K1 (Q:QT):KT:=Zcg 0 (K0 Q)
def K2 (Q:QT):KT:=left kp 2 (K1 Q)
def K3 (Q:QT) (R2:T2):KT:=rnd ((kp.find 1000002).getD []) (E2 R2) (K2 Q)
def L2 (Q:QT) (a0:Pt) (n0 c0:Nat) (e0:Bool) (x1 x5:Int) (h:Zaa):Prop:=Zdt (Den pg fn.ntmps (C [1,0,1,0,0])) ((kp.find 1000002).getD []) (K2 Q) [(0,.slice a0 n0 c0 e0),(1,.int .i64 x1),(5,.int .i64 x5)] h
def A2x0 (Q:QT) (x1:Int) (h:Zaa):Prop:=At (K1 Q) (.exit 0) [(1,.int .i64 x1)] h
def L2t (Q:QT) (R2:T2) (a0:Pt) (n0 c0:Nat) (e0:Bool) (x1 x5:Int) (h:Zaa):Prop:=
 bcase (decide ((x5:Int) < (((n0:Nat):Int)))) ((0≤(x5:Int)∧(x5:Int) < (n0:Nat))∧(Zbf a0 fun A B=>Zcf (Zbd h (.ptr (A,B + (Int.toNat x5) * 1)) [.int .i64 x1]) fun A=>R2 a0 n0 c0 e0 (IntKind.wrap .i64 (x1 + 1)) (IntKind.wrap .i64 (x5 + 1)) A)) (A2x0 Q x1 h)
theorem Zhm (Q:QT) (R2:T2) (a0:Pt) (n0 c0:Nat) (e0:Bool) (x1 x5:Int) (h:Zaa) (ht:L2t Q R2 a0 n0 c0 e0 x1 x5 h):Den pg fn.ntmps (C [1,0,1,0,0]) [(0,.slice a0 n0 c0 e0),(1,.int .i64 x1),(5,.int .i64 x5)] h (K3 Q R2):=
 Zax (kp:=kp) (cast (by kernel_rfl) ht)
theorem L2ind (Q:QT) (a0:Pt) (n0 c0:Nat) (e0:Bool) {G:Type} (J:G→Int→Int→Zaa→Prop) (m:G→Nat)
 (hr:∀ (g:G) (x1 x5:Int) (h:Zaa),J g x1 x5 h→∀ (R2:T2),(∀ g' (x1 x5:Int) (h:Zaa),m g' < m g→J g' x1 x5 h→R2 a0 n0 c0 e0 x1 x5 h)→L2t Q R2 a0 n0 c0 e0 x1 x5 h)
 (g:G) (x1 x5:Int) (h:Zaa) (hj:J g x1 x5 h):L2 Q a0 n0 c0 e0 x1 x5 h:=by
 let P:=fun (K:Int→Int→Zaa→Prop) a0' n0' c0' e0' x1 x5 h=>a0=a0'∧n0=n0'∧c0=c0'∧e0=e0'∧K x1 x5 h
 refine Zdt.inv2 (fun g=>E2 (P (J g))) (fun g=>E2 (P fun x1 x5 h=>∃ g',m g' < m g∧J g' x1 x5 h)) m ?_ ?_ g ⟨rfl,rfl,rfl,rfl,hj⟩
 ·intro g env h hi
  obtain ⟨a0',n0',c0',e0',x1,x5,rfl,rfl,rfl,rfl,rfl,hj⟩:=Zda hi
  exact Zhm Q _ a0 n0 c0 e0 x1 x5 h (hr g x1 x5 h hj (P fun x1 x5 h=>∃ g',m g' < m g∧J g' x1 x5 h) fun g' x1 x5 h hlt hj=>⟨rfl,rfl,rfl,rfl,g',hlt,hj⟩)
 ·intro g env h hi
  obtain ⟨a0',n0',c0',e0',x1,x5,rfl,rfl,rfl,rfl,rfl,g',hlt,hj⟩:=Zda hi
  exact ⟨g',hlt,rfl,rfl,rfl,rfl,hj⟩
theorem A2x0i (Q:QT) (x1:Int) (h:Zaa) (ht :
 Q (.int .i64 x1) h):A2x0 Q x1 h:=
 At.mk (cast (by kernel_rfl) ht)
theorem call (a0:Pt) (n0 c0:Nat) (e0:Bool) (x1:Int) (h:Zaa) (Q:QT) (ht :
 L2 Q a0 n0 c0 e0 x1 0 h):Zad pg Zkk [.slice a0 n0 c0 e0,.int .i64 x1] h Q:=
 Zad.of_body kp (c:=cod fn) (fn:=fn) Go.Proofs.Try.func50 (by kernel_rfl) (by kernel_rfl) (Nat.le_of_ble_eq_true (by kernel_rfl))
  (cast (by kernel_rfl) ht)
end Zgi
namespace Zgl
noncomputable abbrev fn:Func:=Go.Proofs.Try.f51
def kp:Zce:=[(3000002,[1,4]),(1000002,[0,1,5])]
noncomputable def C (p:List Nat):Code:=(cod fn).sub p
def KR (Q:QT):KT:=Zet pg fn.results.toList Q
abbrev T2:=Pt→Nat→Nat→Bool→Int→Int→Zaa→Prop
def E2 (R2:T2) (env:Env) (h:Zaa):Prop:=Zbx 0 env fun v env=>xSl v fun a0 n0 c0 e0=>Zbx 1 env fun v env=>Zdz .i64 v fun x1=>Zbx 5 env fun v env=>Zdz .i64 v fun x5=>Ziy env (R2 a0 n0 c0 e0 x1 x5 h)
theorem Zda {R2:T2} {env:Env} {h:Zaa} (hi:E2 R2 env h):∃ a0,∃ n0,∃ c0,∃ e0,∃ x1,∃ x5,env=[(0,.slice a0 n0 c0 e0),(1,.int .i64 x1),(5,.int .i64 x5)]∧R2 a0 n0 c0 e0 x1 x5 h:=by
 unfold E2 at hi
 repeat ((first | (have k:=Zae hi; clear hi; obtain ⟨_,_,e,hi⟩:=k) | (have k:=Zbt hi; clear hi; obtain ⟨_,_,_,_,e,hi⟩:=k) | (have k:=Zat hi; clear hi; obtain ⟨_,e,hi⟩:=k)); subst e)
 obtain ⟨rfl,hi⟩:=Zbj hi
 exact ⟨_,_,_,_,_,_,rfl,hi⟩
def K0 (Q:QT):KT:=andThen (fun env' h'=>(match kp.find 4000007 with | some ks=>Den pg fn.ntmps (C [1,1]) (env'.keep ks) h' (KR Q) | none=>den pg fn.ntmps kp (C [1,1]) env' h' (KR Q))) (KR Q)
def K1 (Q:QT):KT:=Zcg 0 (K0 Q)
def K2 (Q:QT):KT:=left kp 2 (K1 Q)
def K3 (Q:QT) (R2:T2):KT:=rnd ((kp.find 1000002).getD []) (E2 R2) (K2 Q)
def L2 (Q:QT) (a0:Pt) (n0 c0:Nat) (e0:Bool) (x1 x5:Int) (h:Zaa):Prop:=Zdt (Den pg fn.ntmps (C [1,0,1,0,0])) ((kp.find 1000002).getD []) (K2 Q) [(0,.slice a0 n0 c0 e0),(1,.int .i64 x1),(5,.int .i64 x5)] h
def A2x0 (Q:QT) (x1:Int) (h:Zaa):Prop:=At (K1 Q) (.exit 0) [(1,.int .i64 x1),(4,.undef)] h
def L2t (Q:QT) (R2:T2) (a0:Pt) (n0 c0:Nat) (e0:Bool) (x1 x5:Int) (h:Zaa):Prop:=
 bcase (decide ((x5:Int) < (((n0:Nat):Int)))) ((0≤(x5:Int)∧(x5:Int) < (n0:Nat))∧(Zbf a0 fun A B=>Zco .i64 (Zaf h (.ptr (A,B + (Int.toNat x5) * 1))) fun A=>bcase (!((A:Int) == x1)) (Q (.int .i64 (-1)) h) (R2 a0 n0 c0 e0 (IntKind.wrap .i64 (x1 + 1)) (IntKind.wrap .i64 (x5 + 1)) h))) (A2x0 Q x1 h)
theorem Zhm (Q:QT) (R2:T2) (a0:Pt) (n0 c0:Nat) (e0:Bool) (x1 x5:Int) (h:Zaa) (ht:L2t Q R2 a0 n0 c0 e0 x1 x5 h):Den pg fn.ntmps (C [1,0,1,0,0]) [(0,.slice a0 n0 c0 e0),(1,.int .i64 x1),(5,.int .i64 x5)] h (K3 Q R2):=
 Zax (kp:=kp) (cast (by kernel_rfl) ht)
theorem L2ind (Q:QT) (a0:Pt) (n0 c0:Nat) (e0:Bool) {G:Type} (J:G→Int→Int→Zaa→Prop) (m:G→Nat)
 (hr:∀ (g:G) (x1 x5:Int) (h:Zaa),J g x1 x5 h→∀ (R2:T2),(∀ g' (x1 x5:Int) (h:Zaa),m g' < m g→J g' x1 x5 h→R2 a0 n0 c0 e0 x1 x5 h)→L2t Q R2 a0 n0 c0 e0 x1 x5 h)
 (g:G) (x1 x5:Int) (h:Zaa) (hj:J g x1 x5 h):L2 Q a0 n0 c0 e0 x1 x5 h:=by
 let P:=fun (K:Int→Int→Zaa→Prop) a0' n0' c0' e0' x1 x5 h=>a0=a0'∧n0=n0'∧c0=c0'∧e0=e0'∧K x1 x5 h
 refine Zdt.inv2 (fun g=>E2 (P (J g))) (fun g=>E2 (P fun x1 x5 h=>∃ g',m g' < m g∧J g' x1 x5 h)) m ?_ ?_ g ⟨rfl,rfl,rfl,rfl,hj⟩
 ·intro g env h hi
  obtain ⟨a0',n0',c0',e0',x1,x5,rfl,rfl,rfl,rfl,rfl,hj⟩:=Zda hi
  exact Zhm Q _ a0 n0 c0 e0 x1 x5 h (hr g x1 x5 h hj (P fun x1 x5 h=>∃ g',m g' < m g∧J g' x1 x5 h) fun g' x1 x5 h hlt hj=>⟨rfl,rfl,rfl,rfl,g',hlt,hj⟩)
 ·intro g env h hi
  obtain ⟨a0',n0',c0',e0',x1,x5,rfl,rfl,rfl,rfl,rfl,g',hlt,hj⟩:=Zda hi
  exact ⟨g',hlt,rfl,rfl,rfl,rfl,hj⟩
theorem A2x0i (Q:QT) (x1:Int) (h:Zaa) (ht :
 Q (.int .i64 x1) h):A2x0 Q x1 h:=
 At.mk (cast (by kernel_rfl) ht)
theorem call (a0:Pt) (n0 c0:Nat) (e0:Bool) (x1:Int) (h:Zaa) (Q:QT) (ht :
 L2 Q a0 n0 c0 e0 x1 0 h):Zad pg Zke [.slice a0 n0 c0 e0,.int .i64 x1] h Q:=
 Zad.of_body kp (c:=cod fn) (fn:=fn) Go.Proofs.Try.func51 (by kernel_rfl) (by kernel_rfl) (Nat.le_of_ble_eq_true (by kernel_rfl))
  (cast (by kernel_rfl) ht)
end Zgl
end Go.Sim

set_option maxRecDepth 100000
set_option maxHeartbeats 0
set_option linter.unusedVariables false
namespace Go.Sim
open Go Go.RowKit
namespace Zex
noncomputable abbrev fn:Func:=Go.Proofs.Try.f48
def kp:Zce:=[(3000002,[1]),(1000002,[0,1,5])]
noncomputable def C (p:List Nat):Code:=(cod fn).sub p
def KR (Q:QT):KT:=Zet pg fn.results.toList Q
abbrev T2:=Pt→Nat→Nat→Bool→Int→Int→Zaa→Prop
def E2 (R2:T2) (env:Env) (h:Zaa):Prop:=Zbx 0 env fun v env=>xSl v fun a0 n0 c0 e0=>Zbx 1 env fun v env=>Zdz .i64 v fun x1=>Zbx 5 env fun v env=>Zdz .i64 v fun x5=>Ziy env (R2 a0 n0 c0 e0 x1 x5 h)
theorem Zda {R2:T2} {env:Env} {h:Zaa} (hi:E2 R2 env h):∃ a0,∃ n0,∃ c0,∃ e0,∃ x1,∃ x5,env=[(0,.slice a0 n0 c0 e0),(1,.int .i64 x1),(5,.int .i64 x5)]∧R2 a0 n0 c0 e0 x1 x5 h:=by
 unfold E2 at hi
 repeat ((first | (have k:=Zae hi; clear hi; obtain ⟨_,_,e,hi⟩:=k) | (have k:=Zbt hi; clear hi; obtain ⟨_,_,_,_,e,hi⟩:=k) | (have k:=Zat hi; clear hi; obtain ⟨_,e,hi⟩:=k)); subst e)
 obtain ⟨rfl,hi⟩:=Zbj hi
 exact ⟨_,_,_,_,_,_,rfl,hi⟩
def K0 (Q:QT):KT:=andThen (fun env' h'=>(match kp.find 4000008 with | some ks=>Den pg fn.ntmps (C [1,1]) (env'.keep ks) h' (KR Q) | none=>den pg fn.ntmps kp (C [1,1]) env' h' (KR Q))) (KR Q)
def K1 (Q:QT):KT:=Zcg 0 (K0 Q)
def K2 (Q:QT):KT:=left kp 2 (K1 Q)
def K3 (Q:QT) (R2:T2):KT:=rnd ((kp.find 1000002).getD []) (E2 R2) (K2 Q)
def L2 (Q:QT) (a0:Pt) (n0 c0:Nat) (e0:Bool) (x1 x5:Int) (h:Zaa):Prop:=Zdt (Den pg fn.ntmps (C [1,0,1,0,0])) ((kp.find 1000002).getD []) (K2 Q) [(0,.slice a0 n0 c0 e0),(1,.int .i64 x1),(5,.int .i64 x5)] h
def A2x0 (Q:QT) (x1:Int) (h:Zaa):Prop:=At (K1 Q) (.exit 0) [(1,.int .i64 x1)] h
def L2t (Q:QT) (R2:T2) (a0:Pt) (n0 c0:Nat) (e0:Bool) (x1 x5:Int) (h:Zaa):Prop:=
 bcase (decide ((x5:Int) < (((n0:Nat):Int)))) (Zad pg Zee [.int .i64 x1] h fun A B=>
 Zcb A fun A=>(0≤(x5:Int)∧(x5:Int) < (n0:Nat))∧(Zbf a0 fun C D=>Zcf (Zbd B (.ptr (C,D + (Int.toNat x5) * 2 + 0)) [.str A]) fun A=>Zad pg Zee [.int .i64 (IntKind.wrap .i64 (x1 + 1))] A fun A B=>
 Zcb A fun A=>(0≤(x5:Int)∧(x5:Int) < (n0:Nat))∧(Zbf a0 fun C D=>Zcf (Zbd B (.ptr (C,D + (Int.toNat x5) * 2 + 1)) [.str A]) fun A=>R2 a0 n0 c0 e0 (IntKind.wrap .i64 ((IntKind.wrap .i64 (x1 + 1)) + 1)) (IntKind.wrap .i64 (x5 + 1)) A))) (A2x0 Q x1 h)
theorem Zhm (Q:QT) (R2:T2) (a0:Pt) (n0 c0:Nat) (e0:Bool) (x1 x5:Int) (h:Zaa) (ht:L2t Q R2 a0 n0 c0 e0 x1 x5 h):Den pg fn.ntmps (C [1,0,1,0,0]) [(0,.slice a0 n0 c0 e0),(1,.int .i64 x1),(5,.int .i64 x5)] h (K3 Q R2):=
 Zax (kp:=kp) (cast (by kernel_rfl) ht)
theorem L2ind (Q:QT) (a0:Pt) (n0 c0:Nat) (e0:Bool) {G:Type} (J:G→Int→Int→Zaa→Prop) (m:G→Nat)
 (hr:∀ (g:G) (x1 x5:Int) (h:Zaa),J g x1 x5 h→∀ (R2:T2),(∀ g' (x1 x5:Int) (h:Zaa),m g' < m g→J g' x1 x5 h→R2 a0 n0 c0 e0 x1 x5 h)→L2t Q R2 a0 n0 c0 e0 x1 x5 h)
 (g:G) (x1 x5:Int) (h:Zaa) (hj:J g x1 x5 h):L2 Q a0 n0 c0 e0 x1 x5 h:=by
 let P:=fun (K:Int→Int→Zaa→Prop) a0' n0' c0' e0' x1 x5 h=>a0=a0'∧n0=n0'∧c0=c0'∧e0=e0'∧K x1 x5 h
 refine Zdt.inv2 (fun g=>E2 (P (J g))) (fun g=>E2 (P fun x1 x5 h=>∃ g',m g' < m g∧J g' x1 x5 h)) m ?_ ?_ g ⟨rfl,rfl,rfl,rfl,hj⟩
 ·intro g env h hi
  obtain ⟨a0',n0',c0',e0',x1,x5,rfl,rfl,rfl,rfl,rfl,hj⟩:=Zda hi
  exact Zhm Q _ a0 n0 c0 e0 x1 x5 h (hr g x1 x5 h hj (P fun x1 x5 h=>∃ g',m g' < m g∧J g' x1 x5 h) fun g' x1 x5 h hlt hj=>⟨rfl,rfl,rfl,rfl,g',hlt,hj⟩)
 ·intro g env h hi
  obtain ⟨a0',n0',c0',e0',x1,x5,rfl,rfl,rfl,rfl,rfl,g',hlt,hj⟩:=Zda hi
  exact ⟨g',hlt,rfl,rfl,rfl,rfl,hj⟩
theorem A2x0i (Q:QT) (x1:Int) (h:Zaa) (ht :
 Q (.int .i64 x1) h):A2x0 Q x1 h:=
 At.mk (cast (by kernel_rfl) ht)
theorem call (a0:Pt) (n0 c0:Nat) (e0:Bool) (x1:Int) (h:Zaa) (Q:QT) (ht :
 L2 Q a0 n0 c0 e0 x1 0 h):Zad pg Ziq [.slice a0 n0 c0 e0,.int .i64 x1] h Q:=
 Zad.of_body kp (c:=cod fn) (fn:=fn) Go.Proofs.Try.func48 (by kernel_rfl) (by kernel_rfl) (Nat.le_of_ble_eq_true (by kernel_rfl))
  (cast (by kernel_rfl) ht)
end Zex
namespace Zef
noncomputable abbrev fn:Func:=Go.Proofs.Try.f49
def kp:Zce:=[(3000002,[1]),(1000002,[0,1,5])]
noncomputable def C (p:List Nat):Code:=(cod fn).sub p
def KR (Q:QT):KT:=Zet pg fn.results.toList Q
abbrev T2:=Pt→Nat→Nat→Bool→Int→Int→Zaa→Prop
def E2 (R2:T2) (env:Env) (h:Zaa):Prop:=Zbx 0 env fun v env=>xSl v fun a0 n0 c0 e0=>Zbx 1 env fun v env=>Zdz .i64 v fun x1=>Zbx 5 env fun v env=>Zdz .i64 v fun x5=>Ziy env (R2 a0 n0 c0 e0 x1 x5 h)
theorem Zda {R2:T2} {env:Env} {h:Zaa} (hi:E2 R2 env h):∃ a0,∃ n0,∃ c0,∃ e0,∃ x1,∃ x5,env=[(0,.slice a0 n0 c0 e0),(1,.int .i64 x1),(5,.int .i64 x5)]∧R2 a0 n0 c0 e0 x1 x5 h:=by
 unfold E2 at hi
 repeat ((first | (have k:=Zae hi; clear hi; obtain ⟨_,_,e,hi⟩:=k) | (have k:=Zbt hi; clear hi; obtain ⟨_,_,_,_,e,hi⟩:=k) | (have k:=Zat hi; clear hi; obtain ⟨_,e,hi⟩:=k)); subst e)
 obtain ⟨rfl,hi⟩:=Zbj hi
 exact ⟨_,_,_,_,_,_,rfl,hi⟩
def K0 (Q:QT):KT:=andThen (fun env' h'=>(match kp.find 4000009 with | some ks=>Den pg fn.ntmps (C [1,1]) (env'.keep ks) h' (KR Q) | none=>den pg fn.ntmps kp (C [1,1]) env' h' (KR Q))) (KR Q)
def K1 (Q:QT):KT:=Zcg 0 (K0 Q)
def K2 (Q:QT):KT:=left kp 2 (K1 Q)
def K3 (Q:QT) (R2:T2):KT:=rnd ((kp.find 1000002).getD []) (E2 R2) (K2 Q)
def L2 (Q:QT) (a0:Pt) (n0 c0:Nat) (e0:Bool) (x1 x5:Int) (h:Zaa):Prop:=Zdt (Den pg fn.ntmps (C [1,0,1,0,0])) ((kp.find 1000002).getD []) (K2 Q) [(0,.slice a0 n0 c0 e0),(1,.int .i64 x1),(5,.int .i64 x5)] h
def A2x0 (Q:QT) (x1:Int) (h:Zaa):Prop:=At (K1 Q) (.exit 0) [(1,.int .i64 x1)] h
def L2t (Q:QT) (R2:T2) (a0:Pt) (n0 c0:Nat) (e0:Bool) (x1 x5:Int) (h:Zaa):Prop:=
 bcase (decide ((x5:Int) < (((n0:Nat):Int)))) (Zad pg Zee [.int .i64 x1] h fun A B=>
 Zcb A fun A=>(0≤(x5:Int)∧(x5:Int) < (n0:Nat))∧(Zbf a0 fun C D=>Zcf (Zbd B (.ptr (C,D + (Int.toNat x5) * 3 + 0 + 0)) [.str A]) fun A=>Zad pg Zee [.int .i64 (IntKind.wrap .i64 (x1 + 1))] A fun A B=>
 Zcb A fun A=>(0≤(x5:Int)∧(x5:Int) < (n0:Nat))∧(Zbf a0 fun C D=>Zcf (Zbd B (.ptr (C,D + (Int.toNat x5) * 3 + 0 + 1)) [.str A]) fun A=>(0≤(x5:Int)∧(x5:Int) < (n0:Nat))∧(Zbf a0 fun B C=>xSl (Zaf A (.ptr (B,C + (Int.toNat x5) * 3 + 2))) fun B C D E=>Zad pg Zji [.slice B C D E,.int .i64 (IntKind.wrap .i64 ((IntKind.wrap .i64 (x1 + 1)) + 1))] A fun A B=>
 Zco .i64 A fun A=>R2 a0 n0 c0 e0 A (IntKind.wrap .i64 (x5 + 1)) B)))) (A2x0 Q x1 h)
theorem Zhm (Q:QT) (R2:T2) (a0:Pt) (n0 c0:Nat) (e0:Bool) (x1 x5:Int) (h:Zaa) (ht:L2t Q R2 a0 n0 c0 e0 x1 x5 h):Den pg fn.ntmps (C [1,0,1,0,0]) [(0,.slice a0 n0 c0 e0),(1,.int .i64 x1),(5,.int .i64 x5)] h (K3 Q R2):=
 Zax (kp:=kp) (cast (by kernel_rfl) ht)
theorem L2ind (Q:QT) (a0:Pt) (n0 c0:Nat) (e0:Bool) {G:Type} (J:G→Int→Int→Zaa→Prop) (m:G→Nat)
 (hr:∀ (g:G) (x1 x5:Int) (h:Zaa),J g x1 x5 h→∀ (R2:T2),(∀ g' (x1 x5:Int) (h:Zaa),m g' < m g→J g' x1 x5 h→R2 a0 n0 c0 e0 x1 x5 h)→L2t Q R2 a0 n0 c0 e0 x1 x5 h)
 (g:G) (x1 x5:Int) (h:Zaa) (hj:J g x1 x5 h):L2 Q a0 n0 c0 e0 x1 x5 h:=by
 let P:=fun (K:Int→Int→Zaa→Prop) a0' n0' c0' e0' x1 x5 h=>a0=a0'∧n0=n0'∧c0=c0'∧e0=e0'∧K x1 x5 h
 refine Zdt.inv2 (fun g=>E2 (P (J g))) (fun g=>E2 (P fun x1 x5 h=>∃ g',m g' < m g∧J g' x1 x5 h)) m ?_ ?_ g ⟨rfl,rfl,rfl,rfl,hj⟩
 ·intro g env h hi
  obtain ⟨a0',n0',c0',e0',x1,x5,rfl,rfl,rfl,rfl,rfl,hj⟩:=Zda hi
  exact Zhm Q _ a0 n0 c0 e0 x1 x5 h (hr g x1 x5 h hj (P fun x1 x5 h=>∃ g',m g' < m g∧J g' x1 x5 h) fun g' x1 x5 h hlt hj=>⟨rfl,rfl,rfl,rfl,g',hlt,hj⟩)
 ·intro g env h hi
  obtain ⟨a0',n0',c0',e0',x1,x5,rfl,rfl,rfl,rfl,rfl,g',hlt,hj⟩:=Zda hi
  exact ⟨g',hlt,rfl,rfl,rfl,rfl,hj⟩
theorem A2x0i (Q:QT) (x1:Int) (h:Zaa) (ht :
 Q (.int .i64 x1) h):A2x0 Q x1 h:=
 At.mk (cast (by kernel_rfl) ht)
theorem call (a0:Pt) (n0 c0:Nat) (e0:Bool) (x1:Int) (h:Zaa) (Q:QT) (ht :
 L2 Q a0 n0 c0 e0 x1 0 h):Zad pg Zgt [.slice a0 n0 c0 e0,.int .i64 x1] h Q:=
 Zad.of_body kp (c:=cod fn) (fn:=fn) Go.Proofs.Try.func49 (by kernel_rfl) (by kernel_rfl) (Nat.le_of_ble_eq_true (by kernel_rfl))
  (cast (by kernel_rfl) ht)
end Zef
namespace Zng
noncomputable abbrev fn:Func:=Go.Proofs.Try.f17
def kp:Zce:=[]
noncomputable def C (p:List Nat):Code:=(cod fn).sub p
def KR (Q:QT):KT:=Zet pg fn.results.toList Q
theorem call (a0x0:Pt) (n0x0 c0x0:Nat) (e0x0:Bool) (a0x1:Pt) (n0x1 c0x1:Nat) (e0x1:Bool) (x1:Int) (h:Zaa) (Q:QT) (ht :
 Zdn (h ++ [.cells Zao [.slice a0x0 n0x0 c0x0 e0x0,.slice a0x1 n0x1 c0x1 e0x1] false]) fun A=>xSl (Zaf A (.ptr (h.length,0 + 0))) fun B C D E=>Zad pg Ziq [.slice B C D E,.int .i64 x1] A fun A B=>
 Zco .i64 A fun A=>xSl (Zaf B (.ptr (h.length,0 + 1))) fun C D E F=>Zad pg Zgt [.slice C D E F,.int .i64 A] B fun A B=>
 Zco .i64 A fun A=>Q (.int .i64 A) B):Zad pg Zjh [.agg [.slice a0x0 n0x0 c0x0 e0x0,.slice a0x1 n0x1 c0x1 e0x1],.int .i64 x1] h Q:=
 Zad.of_body kp (c:=cod fn) (fn:=fn) Go.Proofs.Try.func17 (by kernel_rfl) (by kernel_rfl) (Nat.le_of_ble_eq_true (by kernel_rfl))
  (cast (by kernel_rfl) ht)
end Zng
end Go.Sim
