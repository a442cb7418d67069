/- A part of the proof of a statement of this seat: see the text that holds the theorem. No condition. -/
import Derived.Test.YtdglddliggejdaaNm
set_option linter.unusedVariables false
set_option linter.unusedSimpArgs false
set_option linter.all false
set_option maxRecDepth 100000
set_option maxHeartbeats 0
set_option linter.unusedVariables false
namespace Go.Sim
open Go Go.RowKit
namespace Zie
noncomputable abbrev fn:Func:=Go.Proofs.Try.f62
def kp:Zcz:=[]
noncomputable def C (p:List Nat):Code:=(cod fn).sub p
def KR (Q:QT):KT:=Zik pg fn.results.toList Q
theorem call (x0x0 x0x1 x1x0 x1x1:List Nat) (h:Zaa) (Q:QT) (ht :
 Zfh (h ++ [.cells Zap [.str x0x0,.str x0x1] false]) fun A=>Zfh (A ++ [.cells Zap [.str x1x0,.str x1x1] false]) fun B=>Zep (Zaj B (.ptr (h.length,0 + 0))) fun C=>Zep (Zaj B (.ptr (A.length,0 + 0))) fun D=>bcase (!(decide (C=D))) (Q (.bool false) B) (Zep (Zaj B (.ptr (h.length,0 + 1))) fun C=>Zep (Zaj B (.ptr (A.length,0 + 1))) fun A=>bcase (!(decide (C=A))) (Q (.bool false) B) (Q (.bool true) B))):Zad pg Zfx [.agg [.str x0x0,.str x0x1],.agg [.str x1x0,.str x1x1]] h Q:=
 Zad.of_body kp (c:=cod fn) (fn:=fn) Go.Proofs.Try.func62 (by kernel_rfl) (by kernel_rfl) (Nat.le_of_ble_eq_true (by kernel_rfl))
  (cast (by kernel_rfl) ht)
end Zie
namespace Zdl
noncomputable abbrev fn:Func:=Go.Proofs.Try.f22
def kp:Zcz:=[(3000004,[4]),(1000004,[0,1,5]),(2000006,[26,5,0,1])]
noncomputable def C (p:List Nat):Code:=(cod fn).sub p
def KR (Q:QT):KT:=Zik pg fn.results.toList Q
abbrev T4:=Pt→Nat→Nat→Bool→Pt→Nat→Nat→Bool→Int→Zaa→Prop
def E4 (R4:T4) (env:Env) (h:Zaa):Prop:=Zdc 0 env fun v env=>xSl v fun a0 n0 c0 e0=>Zdc 1 env fun v env=>xSl v fun a1 n1 c1 e1=>Zdc 5 env fun v env=>Zhy .i64 v fun x5=>Zmq env (R4 a0 n0 c0 e0 a1 n1 c1 e1 x5 h)
theorem Zlx {R4:T4} {env:Env} {h:Zaa} (hi:E4 R4 env h):∃ a0,∃ n0,∃ c0,∃ e0,∃ a1,∃ n1,∃ c1,∃ e1,∃ x5,env=[(0,.slice a0 n0 c0 e0),(1,.slice a1 n1 c1 e1),(5,.int .i64 x5)]∧R4 a0 n0 c0 e0 a1 n1 c1 e1 x5 h:=by
 unfold E4 at hi
 repeat ((first | (have k:=Zal hi; clear hi; obtain ⟨_,_,e,hi⟩:=k) | (have k:=Zem hi; clear hi; obtain ⟨_,_,_,_,e,hi⟩:=k) | (have k:=Zbf hi; clear hi; obtain ⟨_,e,hi⟩:=k)); subst e)
 obtain ⟨rfl,hi⟩:=Zbw hi
 exact ⟨_,_,_,_,_,_,_,_,_,rfl,hi⟩
def K0 (Q:QT):KT:=andThen (fun env' h'=>(match kp.find 4000008 with | some ks=>Den pg fn.ntmps (C [1,1,1]) (env'.keep ks) h' (KR Q) | none=>den pg fn.ntmps kp (C [1,1,1]) env' h' (KR Q))) (KR Q)
def K1 (Q:QT):KT:=Zdm 0 (K0 Q)
def K2 (Q:QT):KT:=left kp 4 (K1 Q)
def K3 (Q:QT) (R4:T4):KT:=rnd ((kp.find 1000004).getD []) (E4 R4) (K2 Q)
def L4 (Q:QT) (a0:Pt) (n0 c0:Nat) (e0:Bool) (a1:Pt) (n1 c1:Nat) (e1:Bool) (x5:Int) (h:Zaa):Prop:=Zga (Den pg fn.ntmps (C [1,1,0,1,0,0])) ((kp.find 1000004).getD []) (K2 Q) [(0,.slice a0 n0 c0 e0),(1,.slice a1 n1 c1 e1),(5,.int .i64 x5)] h
def Ycd (Q:QT) (h:Zaa):Prop:=At (K1 Q) (.exit 0) [(4,.undef)] h
def L4t (Q:QT) (R4:T4) (a0:Pt) (n0 c0:Nat) (e0:Bool) (a1:Pt) (n1 c1:Nat) (e1:Bool) (x5:Int) (h:Zaa):Prop:=
 bcase (decide ((x5:Int) < (((n0:Nat):Int)))) ((0≤(x5:Int)∧(x5:Int) < (n0:Nat))∧(Zaw a0 fun A B=>(0≤(x5:Int)∧(x5:Int) < (n1:Nat))∧(Zaw a1 fun C D=>Zcv (Zcl h (.ptr (A,B + (Int.toNat x5) * 2)) 2) fun E=>Zah E fun E F=>Zep E fun E=>Zah F fun F G=>Zep F fun F=>Zco G (Zcv (Zcl h (.ptr (C,D + (Int.toNat x5) * 2)) 2) fun C=>Zah C fun C D=>Zep C fun C=>Zah D fun D G=>Zep D fun D=>Zco G ((Zcl h (.ptr (A,B + (Int.toNat x5) * 2)) 2=Zcl h (.ptr (A,B + (Int.toNat x5) * 2)) 2)∧Zad pg Zfx [.agg [.str E,.str F],.agg [.str C,.str D]] h fun A B=>
 Zbs A fun A=>bcase (!A) (Q (.bool false) B) (R4 a0 n0 c0 e0 a1 n1 c1 e1 (IntKind.wrap .i64 (x5 + 1)) B)))))) (Ycd Q h)
theorem Zxe (Q:QT) (R4:T4) (a0:Pt) (n0 c0:Nat) (e0:Bool) (a1:Pt) (n1 c1:Nat) (e1:Bool) (x5:Int) (h:Zaa) (ht:L4t Q R4 a0 n0 c0 e0 a1 n1 c1 e1 x5 h):Den pg fn.ntmps (C [1,1,0,1,0,0]) [(0,.slice a0 n0 c0 e0),(1,.slice a1 n1 c1 e1),(5,.int .i64 x5)] h (K3 Q R4):=
 Zbb (kp:=kp) (cast (by kernel_rfl) ht)
theorem L4ind (Q:QT) (a0:Pt) (n0 c0:Nat) (e0:Bool) (a1:Pt) (n1 c1:Nat) (e1:Bool) {G:Type} (J:G→Int→Zaa→Prop) (m:G→Nat)
 (hr:∀ (g:G) (x5:Int) (h:Zaa),J g x5 h→∀ (R4:T4),(∀ g' (x5:Int) (h:Zaa),m g' < m g→J g' x5 h→R4 a0 n0 c0 e0 a1 n1 c1 e1 x5 h)→L4t Q R4 a0 n0 c0 e0 a1 n1 c1 e1 x5 h)
 (g:G) (x5:Int) (h:Zaa) (hj:J g x5 h):L4 Q a0 n0 c0 e0 a1 n1 c1 e1 x5 h:=by
 let P:=fun (K:Int→Zaa→Prop) a0' n0' c0' e0' a1' n1' c1' e1' x5 h=>a0=a0'∧n0=n0'∧c0=c0'∧e0=e0'∧a1=a1'∧n1=n1'∧c1=c1'∧e1=e1'∧K x5 h
 refine Zga.inv2 (fun g=>E4 (P (J g))) (fun g=>E4 (P fun x5 h=>∃ g',m g' < m g∧J g' x5 h)) m ?_ ?_ g ⟨rfl,rfl,rfl,rfl,rfl,rfl,rfl,rfl,hj⟩
 ·intro g env h hi
  obtain ⟨a0',n0',c0',e0',a1',n1',c1',e1',x5,rfl,rfl,rfl,rfl,rfl,rfl,rfl,rfl,rfl,hj⟩:=Zlx hi
  exact Zxe Q _ a0 n0 c0 e0 a1 n1 c1 e1 x5 h (hr g x5 h hj (P fun x5 h=>∃ g',m g' < m g∧J g' x5 h) fun g' x5 h hlt hj=>⟨rfl,rfl,rfl,rfl,rfl,rfl,rfl,rfl,g',hlt,hj⟩)
 ·intro g env h hi
  obtain ⟨a0',n0',c0',e0',a1',n1',c1',e1',x5,rfl,rfl,rfl,rfl,rfl,rfl,rfl,rfl,rfl,g',hlt,hj⟩:=Zlx hi
  exact ⟨g',hlt,rfl,rfl,rfl,rfl,rfl,rfl,rfl,rfl,hj⟩
theorem A4x0i (Q:QT) (h:Zaa) (ht :
 Q (.bool true) h):Ycd Q h:=
 At.mk (cast (by kernel_rfl) ht)
theorem call (a0:Pt) (n0 c0:Nat) (e0:Bool) (a1:Pt) (n1 c1:Nat) (e1:Bool) (h:Zaa) (Q:QT) (ht :
 bcase (!((((n0:Nat):Int):Int) == (((n1:Nat):Int)))) (Q (.bool false) h) (L4 Q a0 n0 c0 e0 a1 n1 c1 e1 0 h)):Zad pg Zeo [.slice a0 n0 c0 e0,.slice a1 n1 c1 e1] h Q:=
 Zad.of_body kp (c:=cod fn) (fn:=fn) Go.Proofs.Try.func22 (by kernel_rfl) (by kernel_rfl) (Nat.le_of_ble_eq_true (by kernel_rfl))
  (cast (by kernel_rfl) ht)
end Zdl
namespace Zcw
noncomputable abbrev fn:Func:=Go.Proofs.Try.f23
def kp:Zcz:=[(3000002,[1]),(1000002,[0,1,5])]
noncomputable def C (p:List Nat):Code:=(cod fn).sub p
def KR (Q:QT):KT:=Zik pg fn.results.toList Q
abbrev T2:=Pt→Nat→Nat→Bool→Int→Int→Zaa→Prop
def E2 (R2:T2) (env:Env) (h:Zaa):Prop:=Zdc 0 env fun v env=>xSl v fun a0 n0 c0 e0=>Zdc 1 env fun v env=>Zhy .i64 v fun x1=>Zdc 5 env fun v env=>Zhy .i64 v fun x5=>Zmq env (R2 a0 n0 c0 e0 x1 x5 h)
theorem Zip {R2:T2} {env:Env} {h:Zaa} (hi:E2 R2 env h):∃ a0,∃ n0,∃ c0,∃ e0,∃ x1,∃ x5,env=[(0,.slice a0 n0 c0 e0),(1,.int .i64 x1),(5,.int .i64 x5)]∧R2 a0 n0 c0 e0 x1 x5 h:=by
 unfold E2 at hi
 repeat ((first | (have k:=Zal hi; clear hi; obtain ⟨_,_,e,hi⟩:=k) | (have k:=Zem hi; clear hi; obtain ⟨_,_,_,_,e,hi⟩:=k) | (have k:=Zbf hi; clear hi; obtain ⟨_,e,hi⟩:=k)); subst e)
 obtain ⟨rfl,hi⟩:=Zbw hi
 exact ⟨_,_,_,_,_,_,rfl,hi⟩
def K0 (Q:QT):KT:=andThen (fun env' h'=>(match kp.find 4000008 with | some ks=>Den pg fn.ntmps (C [1,1]) (env'.keep ks) h' (KR Q) | none=>den pg fn.ntmps kp (C [1,1]) env' h' (KR Q))) (KR Q)
def K1 (Q:QT):KT:=Zdm 0 (K0 Q)
def K2 (Q:QT):KT:=left kp 2 (K1 Q)
def K3 (Q:QT) (R2:T2):KT:=rnd ((kp.find 1000002).getD []) (E2 R2) (K2 Q)
def L2 (Q:QT) (a0:Pt) (n0 c0:Nat) (e0:Bool) (x1 x5:Int) (h:Zaa):Prop:=Zga (Den pg fn.ntmps (C [1,0,1,0,0])) ((kp.find 1000002).getD []) (K2 Q) [(0,.slice a0 n0 c0 e0),(1,.int .i64 x1),(5,.int .i64 x5)] h
def A2x0 (Q:QT) (x1:Int) (h:Zaa):Prop:=At (K1 Q) (.exit 0) [(1,.int .i64 x1)] h
def L2t (Q:QT) (R2:T2) (a0:Pt) (n0 c0:Nat) (e0:Bool) (x1 x5:Int) (h:Zaa):Prop:=
 bcase (decide ((x5:Int) < (((n0:Nat):Int)))) (Zad pg Zdi [.int .i64 x1] h fun A B=>
 Zep A fun A=>(0≤(x5:Int)∧(x5:Int) < (n0:Nat))∧(Zaw a0 fun C D=>Zcf (Zbc B (.ptr (C,D + (Int.toNat x5) * 2 + 0)) [.str A]) fun A=>Zad pg Zdi [.int .i64 (IntKind.wrap .i64 (x1 + 1))] A fun A B=>
 Zep A fun A=>(0≤(x5:Int)∧(x5:Int) < (n0:Nat))∧(Zaw a0 fun C D=>Zcf (Zbc B (.ptr (C,D + (Int.toNat x5) * 2 + 1)) [.str A]) fun A=>R2 a0 n0 c0 e0 (IntKind.wrap .i64 ((IntKind.wrap .i64 (x1 + 1)) + 1)) (IntKind.wrap .i64 (x5 + 1)) A))) (A2x0 Q x1 h)
theorem Zsm (Q:QT) (R2:T2) (a0:Pt) (n0 c0:Nat) (e0:Bool) (x1 x5:Int) (h:Zaa) (ht:L2t Q R2 a0 n0 c0 e0 x1 x5 h):Den pg fn.ntmps (C [1,0,1,0,0]) [(0,.slice a0 n0 c0 e0),(1,.int .i64 x1),(5,.int .i64 x5)] h (K3 Q R2):=
 Zbb (kp:=kp) (cast (by kernel_rfl) ht)
theorem L2ind (Q:QT) (a0:Pt) (n0 c0:Nat) (e0:Bool) {G:Type} (J:G→Int→Int→Zaa→Prop) (m:G→Nat)
 (hr:∀ (g:G) (x1 x5:Int) (h:Zaa),J g x1 x5 h→∀ (R2:T2),(∀ g' (x1 x5:Int) (h:Zaa),m g' < m g→J g' x1 x5 h→R2 a0 n0 c0 e0 x1 x5 h)→L2t Q R2 a0 n0 c0 e0 x1 x5 h)
 (g:G) (x1 x5:Int) (h:Zaa) (hj:J g x1 x5 h):L2 Q a0 n0 c0 e0 x1 x5 h:=by
 let P:=fun (K:Int→Int→Zaa→Prop) a0' n0' c0' e0' x1 x5 h=>a0=a0'∧n0=n0'∧c0=c0'∧e0=e0'∧K x1 x5 h
 refine Zga.inv2 (fun g=>E2 (P (J g))) (fun g=>E2 (P fun x1 x5 h=>∃ g',m g' < m g∧J g' x1 x5 h)) m ?_ ?_ g ⟨rfl,rfl,rfl,rfl,hj⟩
 ·intro g env h hi
  obtain ⟨a0',n0',c0',e0',x1,x5,rfl,rfl,rfl,rfl,rfl,hj⟩:=Zip hi
  exact Zsm Q _ a0 n0 c0 e0 x1 x5 h (hr g x1 x5 h hj (P fun x1 x5 h=>∃ g',m g' < m g∧J g' x1 x5 h) fun g' x1 x5 h hlt hj=>⟨rfl,rfl,rfl,rfl,g',hlt,hj⟩)
 ·intro g env h hi
  obtain ⟨a0',n0',c0',e0',x1,x5,rfl,rfl,rfl,rfl,rfl,g',hlt,hj⟩:=Zip hi
  exact ⟨g',hlt,rfl,rfl,rfl,rfl,hj⟩
theorem A2x0i (Q:QT) (x1:Int) (h:Zaa) (ht :
 Q (.int .i64 x1) h):A2x0 Q x1 h:=
 At.mk (cast (by kernel_rfl) ht)
theorem call (a0:Pt) (n0 c0:Nat) (e0:Bool) (x1:Int) (h:Zaa) (Q:QT) (ht :
 L2 Q a0 n0 c0 e0 x1 0 h):Zad pg Zew [.slice a0 n0 c0 e0,.int .i64 x1] h Q:=
 Zad.of_body kp (c:=cod fn) (fn:=fn) Go.Proofs.Try.func23 (by kernel_rfl) (by kernel_rfl) (Nat.le_of_ble_eq_true (by kernel_rfl))
  (cast (by kernel_rfl) ht)
end Zcw
namespace Zcy
noncomputable abbrev fn:Func:=Go.Proofs.Try.f24
def kp:Zcz:=[(3000002,[1,4]),(1000002,[0,1,5]),(2000004,[19,1,0,5]),(2000007,[29,1,5,0])]
noncomputable def C (p:List Nat):Code:=(cod fn).sub p
def KR (Q:QT):KT:=Zik pg fn.results.toList Q
abbrev T2:=Pt→Nat→Nat→Bool→Int→Int→Zaa→Prop
def E2 (R2:T2) (env:Env) (h:Zaa):Prop:=Zdc 0 env fun v env=>xSl v fun a0 n0 c0 e0=>Zdc 1 env fun v env=>Zhy .i64 v fun x1=>Zdc 5 env fun v env=>Zhy .i64 v fun x5=>Zmq env (R2 a0 n0 c0 e0 x1 x5 h)
theorem Zip {R2:T2} {env:Env} {h:Zaa} (hi:E2 R2 env h):∃ a0,∃ n0,∃ c0,∃ e0,∃ x1,∃ x5,env=[(0,.slice a0 n0 c0 e0),(1,.int .i64 x1),(5,.int .i64 x5)]∧R2 a0 n0 c0 e0 x1 x5 h:=by
 unfold E2 at hi
 repeat ((first | (have k:=Zal hi; clear hi; obtain ⟨_,_,e,hi⟩:=k) | (have k:=Zem hi; clear hi; obtain ⟨_,_,_,_,e,hi⟩:=k) | (have k:=Zbf hi; clear hi; obtain ⟨_,e,hi⟩:=k)); subst e)
 obtain ⟨rfl,hi⟩:=Zbw hi
 exact ⟨_,_,_,_,_,_,rfl,hi⟩
def K0 (Q:QT):KT:=andThen (fun env' h'=>(match kp.find 4000010 with | some ks=>Den pg fn.ntmps (C [1,1]) (env'.keep ks) h' (KR Q) | none=>den pg fn.ntmps kp (C [1,1]) env' h' (KR Q))) (KR Q)
def K1 (Q:QT):KT:=Zdm 0 (K0 Q)
def K2 (Q:QT):KT:=left kp 2 (K1 Q)
def K3 (Q:QT) (R2:T2):KT:=rnd ((kp.find 1000002).getD []) (E2 R2) (K2 Q)
def L2 (Q:QT) (a0:Pt) (n0 c0:Nat) (e0:Bool) (x1 x5:Int) (h:Zaa):Prop:=Zga (Den pg fn.ntmps (C [1,0,1,0,0])) ((kp.find 1000002).getD []) (K2 Q) [(0,.slice a0 n0 c0 e0),(1,.int .i64 x1),(5,.int .i64 x5)] h
def A2x0 (Q:QT) (x1:Int) (h:Zaa):Prop:=At (K1 Q) (.exit 0) [(1,.int .i64 x1),(4,.undef)] h
def L2t (Q:QT) (R2:T2) (a0:Pt) (n0 c0:Nat) (e0:Bool) (x1 x5:Int) (h:Zaa):Prop:=
 bcase (decide ((x5:Int) < (((n0:Nat):Int)))) ((0≤(x5:Int)∧(x5:Int) < (n0:Nat))∧(Zaw a0 fun A B=>Zep (Zaj h (.ptr (A,B + (Int.toNat x5) * 2 + 0))) fun C=>Zad pg Zdi [.int .i64 x1] h fun D E=>
 Zep D fun D=>(Zaj E (.ptr (A,B + (Int.toNat x5) * 2 + 0))=Zaj h (.ptr (A,B + (Int.toNat x5) * 2 + 0)))∧bcase (!(decide (C=D))) (Q (.int .i64 (-1)) E) ((0≤(x5:Int)∧(x5:Int) < (n0:Nat))∧(Zaw a0 fun A B=>Zep (Zaj E (.ptr (A,B + (Int.toNat x5) * 2 + 1))) fun C=>Zad pg Zdi [.int .i64 (IntKind.wrap .i64 (x1 + 1))] E fun D F=>
 Zep D fun D=>(Zaj F (.ptr (A,B + (Int.toNat x5) * 2 + 1))=Zaj E (.ptr (A,B + (Int.toNat x5) * 2 + 1)))∧bcase (!(decide (C=D))) (Q (.int .i64 (-1)) F) (R2 a0 n0 c0 e0 (IntKind.wrap .i64 ((IntKind.wrap .i64 (x1 + 1)) + 1)) (IntKind.wrap .i64 (x5 + 1)) F))))) (A2x0 Q x1 h)
theorem Zsm (Q:QT) (R2:T2) (a0:Pt) (n0 c0:Nat) (e0:Bool) (x1 x5:Int) (h:Zaa) (ht:L2t Q R2 a0 n0 c0 e0 x1 x5 h):Den pg fn.ntmps (C [1,0,1,0,0]) [(0,.slice a0 n0 c0 e0),(1,.int .i64 x1),(5,.int .i64 x5)] h (K3 Q R2):=
 Zbb (kp:=kp) (cast (by kernel_rfl) ht)
theorem L2ind (Q:QT) (a0:Pt) (n0 c0:Nat) (e0:Bool) {G:Type} (J:G→Int→Int→Zaa→Prop) (m:G→Nat)
 (hr:∀ (g:G) (x1 x5:Int) (h:Zaa),J g x1 x5 h→∀ (R2:T2),(∀ g' (x1 x5:Int) (h:Zaa),m g' < m g→J g' x1 x5 h→R2 a0 n0 c0 e0 x1 x5 h)→L2t Q R2 a0 n0 c0 e0 x1 x5 h)
 (g:G) (x1 x5:Int) (h:Zaa) (hj:J g x1 x5 h):L2 Q a0 n0 c0 e0 x1 x5 h:=by
 let P:=fun (K:Int→Int→Zaa→Prop) a0' n0' c0' e0' x1 x5 h=>a0=a0'∧n0=n0'∧c0=c0'∧e0=e0'∧K x1 x5 h
 refine Zga.inv2 (fun g=>E2 (P (J g))) (fun g=>E2 (P fun x1 x5 h=>∃ g',m g' < m g∧J g' x1 x5 h)) m ?_ ?_ g ⟨rfl,rfl,rfl,rfl,hj⟩
 ·intro g env h hi
  obtain ⟨a0',n0',c0',e0',x1,x5,rfl,rfl,rfl,rfl,rfl,hj⟩:=Zip hi
  exact Zsm Q _ a0 n0 c0 e0 x1 x5 h (hr g x1 x5 h hj (P fun x1 x5 h=>∃ g',m g' < m g∧J g' x1 x5 h) fun g' x1 x5 h hlt hj=>⟨rfl,rfl,rfl,rfl,g',hlt,hj⟩)
 ·intro g env h hi
  obtain ⟨a0',n0',c0',e0',x1,x5,rfl,rfl,rfl,rfl,rfl,g',hlt,hj⟩:=Zip hi
  exact ⟨g',hlt,rfl,rfl,rfl,rfl,hj⟩
theorem A2x0i (Q:QT) (x1:Int) (h:Zaa) (ht :
 Q (.int .i64 x1) h):A2x0 Q x1 h:=
 At.mk (cast (by kernel_rfl) ht)
theorem call (a0:Pt) (n0 c0:Nat) (e0:Bool) (x1:Int) (h:Zaa) (Q:QT) (ht :
 L2 Q a0 n0 c0 e0 x1 0 h):Zad pg Zdo [.slice a0 n0 c0 e0,.int .i64 x1] h Q:=
 Zad.of_body kp (c:=cod fn) (fn:=fn) Go.Proofs.Try.func24 (by kernel_rfl) (by kernel_rfl) (Nat.le_of_ble_eq_true (by kernel_rfl))
  (cast (by kernel_rfl) ht)
end Zcy
namespace Zcn
noncomputable abbrev fn:Func:=Go.Proofs.Try.f5
def kp:Zcz:=[(4000009,[7,0,1,5,6]),(4000020,[7,9])]
noncomputable def C (p:List Nat):Code:=(cod fn).sub p
def KR (Q:QT):KT:=Zik pg fn.results.toList Q
def J9 (Q:QT) (a7:Pt) (n7 c7:Nat) (e7:Bool) (x0 x1:List Nat) (a5:Pt) (n5 c5:Nat) (e5 x6:Bool) (h:Zaa):Prop:=Den pg fn.ntmps (C [1,1,1,1,1,1]) [(7,.slice a7 n7 c7 e7),(0,.str x0),(1,.str x1),(5,.slice a5 n5 c5 e5),(6,.bool x6)] h (KR Q)
def J20 (Q:QT) (a7:Pt) (n7 c7:Nat) (e7:Bool) (x9:Int) (h:Zaa):Prop:=Den pg fn.ntmps (C [1,1,1,1,1,1,1,1,1,1,1,1,1,1]) [(7,.slice a7 n7 c7 e7),(9,.int .i64 x9)] h (KR Q)
theorem J9i (Q:QT) (a7:Pt) (n7 c7:Nat) (e7:Bool) (x0 x1:List Nat) (a5:Pt) (n5 c5:Nat) (e5 x6:Bool) (h:Zaa) (ht :
 Zad pg Zew [.slice a7 n7 c7 e7,.int .i64 1] h fun A B=>
 Zbo .i64 A fun A=>Zad pg Zdo [.slice a7 n7 c7 e7,.int .i64 1] B fun B C=>
 Zbo .i64 B fun B=>bcase (decide ((B:Int) < 0)) (Q (.bool false) C) (bcase (!((B:Int) == A)) (Q (.bool false) C) (Zad pg Zen [.str x0,.str x1] C fun B C=>
 Zqj B fun B=>Zah B fun B D=>xSl B fun B E F G=>Zah D fun D H=>Zbs D fun D=>Zco H (Zad pg Zeo [.slice B E F G,.slice a5 n5 c5 e5] C fun B C=>
 Zbs B fun B=>bcase (!B) (Q (.bool false) C) (bcase (!(D == x6)) (Q (.bool false) C) (J20 Q a7 n7 c7 e7 A C)))))):J9 Q a7 n7 c7 e7 x0 x1 a5 n5 c5 e5 x6 h:=
 Zbb (kp:=kp) (cast (by kernel_rfl) ht)
theorem J20i (Q:QT) (a7:Pt) (n7 c7:Nat) (e7:Bool) (x9:Int) (h:Zaa) (ht :
 Zad pg Zdo [.slice a7 n7 c7 e7,.int .i64 1] h fun A B=>
 Zbo .i64 A fun A=>bcase (decide ((A:Int) < 0)) (Q (.bool false) B) (bcase (!((A:Int) == x9)) (Q (.bool false) B) (Q (.bool true) B))):J20 Q a7 n7 c7 e7 x9 h:=
 Zbb (kp:=kp) (cast (by kernel_rfl) ht)
theorem call (x0 x1:List Nat) (h:Zaa) (Q:QT) (ht :
 bcase (decide (((((List.length x0:Nat):Int)):Int) > 1048576)) (Q (.bool true) h) (bcase (decide (((((List.length x1:Nat):Int)):Int) > 1048576)) (Q (.bool true) h) (Zad pg Zfn [.str x0,.str x1] h fun A B=>
 Zqj A fun A=>Zah A fun A C=>xSl A fun A D E F=>Zah C fun C G=>Zbs C fun C=>Zco G (Zad pg Zen [.str x0,.str x1] B fun B G=>
 Zqj B fun B=>Zah B fun B H=>xSl B fun B I J K=>Zah H fun H L=>Zbs H fun H=>Zco L (Zad pg Zeo [.slice B I J K,.slice A D E F] G fun G L=>
 Zbs G fun G=>bcase (!G) (Q (.bool false) L) (bcase (!(H == C)) (Q (.bool false) L) (J9 Q B I J K x0 x1 A D E F C L))))))):Zad pg Zez [.str x0,.str x1] h Q:=
 Zad.of_body kp (c:=cod fn) (fn:=fn) Go.Proofs.Try.func5 (by kernel_rfl) (by kernel_rfl) (Nat.le_of_ble_eq_true (by kernel_rfl))
  (cast (by kernel_rfl) ht)
end Zcn
end Go.Sim

set_option maxRecDepth 100000
set_option maxHeartbeats 0
set_option linter.unusedVariables false
namespace Go.Sim
open Go Go.RowKit
namespace Zfp
noncomputable abbrev fn:Func:=Go.Proofs.Try.f20
def kp:Zcz:=[(4000005,[6,8])]
noncomputable def C (p:List Nat):Code:=(cod fn).sub p
def KR (Q:QT):KT:=Zik pg fn.results.toList Q
def J5 (Q:QT) (i6 o6 i8 o8:Nat) (h:Zaa):Prop:=Den pg fn.ntmps (C [1,1,1,1]) [(6,.ptr (i6,o6)),(8,.ptr (i8,o8))] h (KR Q)
theorem J5i (Q:QT) (i6 o6 i8 o8:Nat) (h:Zaa) (ht :
 Zcv (Zcl h (.ptr (i6,o6)) 2) fun A=>Zah A fun A B=>Zbo .u8 A fun A=>Zah B fun B C=>xSl B fun B D E F=>Zco C (Zcv (Zcl h (.ptr (i8,o8)) 2) fun C=>Zah C fun C G=>Zbo .u8 C fun C=>Zah G fun G H=>xSl G fun G I J K=>Zco H (Zad pg Zhf [.agg [.int .u8 A,.slice B D E F],.agg [.int .u8 C,.slice G I J K]] h fun A B=>
 Zqj A fun A=>Zah A fun A C=>Zeu A fun A=>Zah C fun C D=>Zbs C fun C=>Zco D (bcase (!C) (Zfh (B ++ [.cells Zap [] false]) fun C=>Q (.tup [.slice (B.length,0) 0 0 true,.bool false]) C) (Zad pg Zhz [.ptr A] B fun A B=>
 Zqj A fun A=>Zah A fun A C=>xSl A fun A D E F=>Zah C fun C G=>Zbs C fun C=>Zco G (Q (.tup [.slice A D E F,.bool C]) B)))))):J5 Q i6 o6 i8 o8 h:=
 Zbb (kp:=kp) (cast (by kernel_rfl) ht)
theorem call (x0 x1:List Nat) (h:Zaa) (Q:QT) (ht :
 Zad pg Zgf [.str x0] h fun A B=>
 Zqj A fun A=>Zah A fun A C=>Zse A fun A=>Zah A fun A D=>Zbo .u8 A fun A=>Zah D fun D E=>xSl D fun D F G H=>Zco E (Zah C fun C E=>Zbs C fun C=>Zco E (Zfh (B ++ [.cells Zab [.int .u8 0,.slice none 0 0 true] false]) fun E=>Zcf (Zbc E (.ptr (B.length,0)) [.int .u8 A,.slice D F G H]) fun A=>Zad pg Zgf [.str x1] A fun A D=>
 Zqj A fun A=>Zah A fun A E=>Zse A fun A=>Zah A fun A F=>Zbo .u8 A fun A=>Zah F fun F G=>xSl F fun F H I J=>Zco G (Zah E fun E G=>Zbs E fun E=>Zco G (Zfh (D ++ [.cells Zab [.int .u8 0,.slice none 0 0 true] false]) fun G=>Zcf (Zbc G (.ptr (D.length,0)) [.int .u8 A,.slice F H I J]) fun A=>bcase (!C) (Zfh (A ++ [.cells Zap [] false]) fun C=>Q (.tup [.slice (A.length,0) 0 0 true,.bool false]) C) (bcase (!E) (Zfh (A ++ [.cells Zap [] false]) fun C=>Q (.tup [.slice (A.length,0) 0 0 true,.bool false]) C) (J5 Q B.length 0 D.length 0 A))))))):Zad pg Zfn [.str x0,.str x1] h Q:=
 Zad.of_body kp (c:=cod fn) (fn:=fn) Go.Proofs.Try.func20 (by kernel_rfl) (by kernel_rfl) (Nat.le_of_ble_eq_true (by kernel_rfl))
  (cast (by kernel_rfl) ht)
end Zfp
end Go.Sim

set_option maxRecDepth 100000
set_option maxHeartbeats 0
set_option linter.unusedVariables false
namespace Go.Sim
open Go Go.RowKit
namespace Zdf
noncomputable abbrev fn:Func:=Go.Proofs.Try.f53
def kp:Zcz:=[(3000006,[7]),(1000006,[6,7,19]),(2000009,[19,6,7]),(4000010,[19,6,7])]
noncomputable def C (p:List Nat):Code:=(cod fn).sub p
def KR (Q:QT):KT:=Zik pg fn.results.toList Q
abbrev T6:=Nat→Nat→Nat→Nat→Int→Zaa→Prop
def E6 (R6:T6) (env:Env) (h:Zaa):Prop:=Zdc 6 env fun v env=>Zeu v fun a=>Zaw a fun i6 o6=>Zdc 7 env fun v env=>Zeu v fun a=>Zaw a fun i7 o7=>Zdc 19 env fun v env=>Zhy .i64 v fun x19=>Zmq env (R6 i6 o6 i7 o7 x19 h)
theorem Zqv {R6:T6} {env:Env} {h:Zaa} (hi:E6 R6 env h):∃ i6,∃ o6,∃ i7,∃ o7,∃ x19,env=[(6,.ptr (i6,o6)),(7,.ptr (i7,o7)),(19,.int .i64 x19)]∧R6 i6 o6 i7 o7 x19 h:=by
 unfold E6 at hi
 have hi0:=hi
 clear hi
 obtain ⟨_,_,rfl,hi1⟩:=Zal hi0
 obtain ⟨a,rfl,hi2⟩:=Zbq hi1
 obtain ⟨i6,o6,rfl,hi3⟩:=Zbr hi2
 obtain ⟨_,_,rfl,hi4⟩:=Zal hi3
 obtain ⟨a,rfl,hi5⟩:=Zbq hi4
 obtain ⟨i7,o7,rfl,hi6⟩:=Zbr hi5
 obtain ⟨_,_,rfl,hi7⟩:=Zal hi6
 obtain ⟨x19,rfl,hi8⟩:=Zbf hi7
 obtain ⟨rfl,hi9⟩:=Zbw hi8
 have hi:=hi9
 exact ⟨i6,o6,i7,o7,x19,rfl,hi⟩
def K0 (Q:QT):KT:=andThen (fun env' h'=>(match kp.find 4000011 with | some ks=>Den pg fn.ntmps (C [1,1,1,1,1]) (env'.keep ks) h' (KR Q) | none=>den pg fn.ntmps kp (C [1,1,1,1,1]) env' h' (KR Q))) (KR Q)
def K1 (Q:QT):KT:=Zdm 0 (K0 Q)
def K2 (Q:QT):KT:=left kp 6 (K1 Q)
def K3 (Q:QT) (R6:T6):KT:=rnd ((kp.find 1000006).getD []) (E6 R6) (K2 Q)
def L6 (Q:QT) (i6 o6 i7 o7:Nat) (x19:Int) (h:Zaa):Prop:=Zga (Den pg fn.ntmps (C [1,1,1,1,0,1,0,0])) ((kp.find 1000006).getD []) (K2 Q) [(6,.ptr (i6,o6)),(7,.ptr (i7,o7)),(19,.int .i64 x19)] h
def J10 (Q:QT) (R6:T6) (x19:Int) (i6 o6 i7 o7:Nat) (h:Zaa):Prop:=Den pg fn.ntmps (C [1,1,1,1,0,1,0,0,1,1,1]) [(19,.int .i64 x19),(6,.ptr (i6,o6)),(7,.ptr (i7,o7))] h (K3 Q R6)
def Yfx (Q:QT) (i7 o7:Nat) (h:Zaa):Prop:=At (K1 Q) (.exit 0) [(7,.ptr (i7,o7))] h
def L6t (Q:QT) (R6:T6) (i6 o6 i7 o7:Nat) (x19:Int) (h:Zaa):Prop:=
 bcase (decide ((x19:Int) < 12)) ((0≤(x19:Int)∧(x19:Int) < (12:Nat))∧(Zbo .u8 (Zaj h (.ptr (i6,o6 + (Int.toNat x19) * 2 + 0))) fun A=>bcase (!((A:Int) == 0)) ((0≤(x19:Int)∧(x19:Int) < (12:Nat))∧(Zcv (Zcl h (.ptr (i6,o6 + (Int.toNat x19) * 2)) 2) fun A=>Zah A fun A B=>Zbo .u8 A fun A=>Zah B fun B C=>xSl B fun B D E F=>Zco C (Zad pg Zge [.ptr (i6,o6),.agg [.int .u8 A,.slice B D E F]] h fun A B=>
 Zse A fun A=>Zah A fun A C=>Zbo .u8 A fun A=>Zah C fun C D=>xSl C fun C E F G=>Zco D ((0≤(x19:Int)∧(x19:Int) < (12:Nat))∧(Zcf (Zbc B (.ptr (i7,o7 + (Int.toNat x19) * 2)) [.int .u8 A,.slice C E F G]) fun A=>J10 Q R6 x19 i6 o6 i7 o7 A))))) (J10 Q R6 x19 i6 o6 i7 o7 h))) (Yfx Q i7 o7 h)
theorem Yea (Q:QT) (R6:T6) (i6 o6 i7 o7:Nat) (x19:Int) (h:Zaa) (ht:L6t Q R6 i6 o6 i7 o7 x19 h):Den pg fn.ntmps (C [1,1,1,1,0,1,0,0]) [(6,.ptr (i6,o6)),(7,.ptr (i7,o7)),(19,.int .i64 x19)] h (K3 Q R6):=
 Zbb (kp:=kp) (cast (by kernel_rfl) ht)
theorem L6ind (Q:QT) (i6 o6 i7 o7:Nat) {G:Type} (J:G→Int→Zaa→Prop) (m:G→Nat)
 (hr:∀ (g:G) (x19:Int) (h:Zaa),J g x19 h→∀ (R6:T6),(∀ g' (x19:Int) (h:Zaa),m g' < m g→J g' x19 h→R6 i6 o6 i7 o7 x19 h)→L6t Q R6 i6 o6 i7 o7 x19 h)
 (g:G) (x19:Int) (h:Zaa) (hj:J g x19 h):L6 Q i6 o6 i7 o7 x19 h:=by
 let P:=fun (K:Int→Zaa→Prop) i6' o6' i7' o7' x19 h=>i6=i6'∧o6=o6'∧i7=i7'∧o7=o7'∧K x19 h
 refine Zga.inv2 (fun g=>E6 (P (J g))) (fun g=>E6 (P fun x19 h=>∃ g',m g' < m g∧J g' x19 h)) m ?_ ?_ g ⟨rfl,rfl,rfl,rfl,hj⟩
 ·intro g env h hi
  obtain ⟨i6',o6',i7',o7',x19,rfl,rfl,rfl,rfl,rfl,hj⟩:=Zqv hi
  exact Yea Q _ i6 o6 i7 o7 x19 h (hr g x19 h hj (P fun x19 h=>∃ g',m g' < m g∧J g' x19 h) fun g' x19 h hlt hj=>⟨rfl,rfl,rfl,rfl,g',hlt,hj⟩)
 ·intro g env h hi
  obtain ⟨i6',o6',i7',o7',x19,rfl,rfl,rfl,rfl,rfl,g',hlt,hj⟩:=Zqv hi
  exact ⟨g',hlt,rfl,rfl,rfl,rfl,hj⟩
theorem J10i (Q:QT) (R6:T6) (x19:Int) (i6 o6 i7 o7:Nat) (h:Zaa) (ht :
 R6 i6 o6 i7 o7 (IntKind.wrap .i64 (x19 + 1)) h):J10 Q R6 x19 i6 o6 i7 o7 h:=
 Zbb (kp:=kp) (cast (by kernel_rfl) ht)
theorem A6x0i (Q:QT) (i7 o7:Nat) (h:Zaa) (ht :
 Q (.tup [.ptr (i7,o7),.bool true]) h):Yfx Q i7 o7 h:=
 At.mk (cast (by kernel_rfl) ht)
theorem call (x0x0:Int) (a0x1:Pt) (n0x1 c0x1:Nat) (e0x1:Bool) (x1x0:Int) (a1x1:Pt) (n1x1 c1x1:Nat) (e1x1:Bool) (h:Zaa) (Q:QT) (ht :
 Zfh (h ++ [.cells Zab [.int .u8 x0x0,.slice a0x1 n0x1 c0x1 e0x1] false]) fun A=>Zfh (A ++ [.cells Zab [.int .u8 x1x0,.slice a1x1 n1x1 c1x1 e1x1] false]) fun B=>Zfh (B ++ [.cells Zbu [.int .u8 0,.slice none 0 0 true,.int .u8 0,.slice none 0 0 true,.int .u8 0,.slice none 0 0 true,.int .u8 0,.slice none 0 0 true,.int .u8 0,.slice none 0 0 true,.int .u8 0,.slice none 0 0 true,.int .u8 0,.slice none 0 0 true,.int .u8 0,.slice none 0 0 true,.int .u8 0,.slice none 0 0 true,.int .u8 0,.slice none 0 0 true,.int .u8 0,.slice none 0 0 true,.int .u8 0,.slice none 0 0 true] false]) fun C=>Zcv (Zcl C (.ptr (h.length,0)) 2) fun D=>Zah D fun D E=>Zbo .u8 D fun D=>Zah E fun E F=>xSl E fun E G H I=>Zco F (Zcv (Zcl C (.ptr (A.length,0)) 2) fun A=>Zah A fun A F=>Zbo .u8 A fun A=>Zah F fun F J=>xSl F fun F K L M=>Zco J (Zad pg Zbh [.ptr (B.length,0),.agg [.int .u8 D,.slice E G H I],.agg [.int .u8 A,.slice F K L M]] C fun A C=>
 Zbs A fun A=>bcase (!A) (Q (.tup [.ptr (B.length,0),.bool false]) C) (Zfh (C ++ [.cells Zbu [.int .u8 0,.slice none 0 0 true,.int .u8 0,.slice none 0 0 true,.int .u8 0,.slice none 0 0 true,.int .u8 0,.slice none 0 0 true,.int .u8 0,.slice none 0 0 true,.int .u8 0,.slice none 0 0 true,.int .u8 0,.slice none 0 0 true,.int .u8 0,.slice none 0 0 true,.int .u8 0,.slice none 0 0 true,.int .u8 0,.slice none 0 0 true,.int .u8 0,.slice none 0 0 true,.int .u8 0,.slice none 0 0 true] false]) fun A=>L6 Q B.length 0 C.length 0 0 A)))):Zad pg Zhf [.agg [.int .u8 x0x0,.slice a0x1 n0x1 c0x1 e0x1],.agg [.int .u8 x1x0,.slice a1x1 n1x1 c1x1 e1x1]] h Q:=
 Zad.of_body kp (c:=cod fn) (fn:=fn) Go.Proofs.Try.func53 (by kernel_rfl) (by kernel_rfl) (Nat.le_of_ble_eq_true (by kernel_rfl))
  (cast (by kernel_rfl) ht)
end Zdf
end Go.Sim

set_option maxRecDepth 100000
set_option maxHeartbeats 0
set_option linter.unusedVariables false
namespace Go.Sim
open Go Go.RowKit
namespace Zfi
noncomputable abbrev fn:Func:=Go.Proofs.Try.f98
def kp:Zcz:=[(3000004,[5,4]),(1000004,[0,4,5,16,17,18]),(2000006,[18,17,16,5,0,4])]
noncomputable def C (p:List Nat):Code:=(cod fn).sub p
def KR (Q:QT):KT:=Zik pg fn.results.toList Q
abbrev T4:=Pt→Nat→Nat→Nat→Nat→Pt→Nat→Nat→Bool→Int→Int→Zaa→Prop
def E4 (R4:T4) (env:Env) (h:Zaa):Prop:=Zdc 0 env fun v env=>Zeu v fun a0=>Zdc 4 env fun v env=>Zeu v fun a=>Zaw a fun i4 o4=>Zdc 5 env fun v env=>Zeu v fun a=>Zaw a fun i5 o5=>Zdc 16 env fun v env=>xSl v fun a16 n16 c16 e16=>Zdc 17 env fun v env=>Zhy .i64 v fun x17=>Zdc 18 env fun v env=>Zhy .i64 v fun x18=>Zmq env (R4 a0 i4 o4 i5 o5 a16 n16 c16 e16 x17 x18 h)
theorem Zlx {R4:T4} {env:Env} {h:Zaa} (hi:E4 R4 env h):∃ a0,∃ i4,∃ o4,∃ i5,∃ o5,∃ a16,∃ n16,∃ c16,∃ e16,∃ x17,∃ x18,env=[(0,.ptr a0),(4,.ptr (i4,o4)),(5,.ptr (i5,o5)),(16,.slice a16 n16 c16 e16),(17,.int .i64 x17),(18,.int .i64 x18)]∧R4 a0 i4 o4 i5 o5 a16 n16 c16 e16 x17 x18 h:=by
 unfold E4 at hi
 have hi0:=hi
 clear hi
 obtain ⟨_,_,rfl,hi1⟩:=Zal hi0
 obtain ⟨a0,rfl,hi2⟩:=Zbq hi1
 obtain ⟨_,_,rfl,hi3⟩:=Zal hi2
 obtain ⟨a,rfl,hi4⟩:=Zbq hi3
 obtain ⟨i4,o4,rfl,hi5⟩:=Zbr hi4
 obtain ⟨_,_,rfl,hi6⟩:=Zal hi5
 obtain ⟨a,rfl,hi7⟩:=Zbq hi6
 obtain ⟨i5,o5,rfl,hi8⟩:=Zbr hi7
 obtain ⟨_,_,rfl,hi9⟩:=Zal hi8
 obtain ⟨a16,n16,c16,e16,rfl,hi10⟩:=Zem hi9
 obtain ⟨_,_,rfl,hi11⟩:=Zal hi10
 obtain ⟨x17,rfl,hi12⟩:=Zbf hi11
 obtain ⟨_,_,rfl,hi13⟩:=Zal hi12
 obtain ⟨x18,rfl,hi14⟩:=Zbf hi13
 obtain ⟨rfl,hi15⟩:=Zbw hi14
 have hi:=hi15
 exact ⟨a0,i4,o4,i5,o5,a16,n16,c16,e16,x17,x18,rfl,hi⟩
def K0 (Q:QT):KT:=andThen (fun env' h'=>(match kp.find 4000008 with | some ks=>Den pg fn.ntmps (C [1,1,1,1]) (env'.keep ks) h' (KR Q) | none=>den pg fn.ntmps kp (C [1,1,1,1]) env' h' (KR Q))) (KR Q)
def K1 (Q:QT):KT:=Zdm 0 (K0 Q)
def K2 (Q:QT):KT:=left kp 4 (K1 Q)
def K3 (Q:QT) (R4:T4):KT:=rnd ((kp.find 1000004).getD []) (E4 R4) (K2 Q)
def L4 (Q:QT) (a0:Pt) (i4 o4 i5 o5:Nat) (a16:Pt) (n16 c16:Nat) (e16:Bool) (x17 x18:Int) (h:Zaa):Prop:=Zga (Den pg fn.ntmps (C [1,1,1,0,1,0,0])) ((kp.find 1000004).getD []) (K2 Q) [(0,.ptr a0),(4,.ptr (i4,o4)),(5,.ptr (i5,o5)),(16,.slice a16 n16 c16 e16),(17,.int .i64 x17),(18,.int .i64 x18)] h
def Ycd (Q:QT) (i5 o5 i4 o4:Nat) (h:Zaa):Prop:=At (K1 Q) (.exit 0) [(5,.ptr (i5,o5)),(4,.ptr (i4,o4))] h
def L4t (Q:QT) (R4:T4) (a0:Pt) (i4 o4 i5 o5:Nat) (a16:Pt) (n16 c16:Nat) (e16:Bool) (x17 x18:Int) (h:Zaa):Prop:=
 bcase (decide ((x18:Int) < x17)) ((0≤(x18:Int)∧(x18:Int) < (n16:Nat))∧(Zaw a16 fun A B=>Zcv (Zcl h (.ptr (A,B + (Int.toNat x18) * 2)) 2) fun A=>Zah A fun A B=>Zbo .u8 A fun A=>Zah B fun B C=>xSl B fun B D E F=>Zco C (Zfh (h ++ [.cells Zab [.int .u8 0,.slice none 0 0 true] false]) fun C=>Zcf (Zbc C (.ptr (h.length,0)) [.int .u8 A,.slice B D E F]) fun A=>xSl (Zaj A (.ptr (i5,o5 + 1))) fun B C D E=>Zcv (Zcl A (.ptr (h.length,0)) 2) fun F=>Zah F fun F G=>Zbo .u8 F fun F=>Zah G fun G H=>xSl G fun G I J K=>Zco H ((Zaj A (.ptr (i5,o5 + 1))=Zaj A (.ptr (i5,o5 + 1)))∧Zad pg Zge [.ptr a0,.agg [.int .u8 F,.slice G I J K]] A fun F G=>
 Zse F fun F=>Zah F fun F H=>Zbo .u8 F fun F=>Zah H fun H I=>xSl H fun H J K L=>Zco I ((Zaj G (.ptr (i5,o5 + 1))=Zaj A (.ptr (i5,o5 + 1)))∧Zfh (G ++ [.cells Zab [.int .u8 F,.slice H J K L] false]) fun A=>(Zaj A (.ptr (i5,o5 + 1))=Zaj G (.ptr (i5,o5 + 1)))∧Zdk pg Zfj A (.slice B C D E) (.slice (G.length,0) 1 1 true) fun A B=>xSl A fun A C D E=>Zcf (Zbc B (.ptr (i5,o5 + 1)) [.slice A C D E]) fun A=>R4 a0 i4 o4 i5 o5 a16 n16 c16 e16 x17 (IntKind.wrap .i64 (x18 + 1)) A))))) (Ycd Q i5 o5 i4 o4 h)
theorem Zxe (Q:QT) (R4:T4) (a0:Pt) (i4 o4 i5 o5:Nat) (a16:Pt) (n16 c16:Nat) (e16:Bool) (x17 x18:Int) (h:Zaa) (ht:L4t Q R4 a0 i4 o4 i5 o5 a16 n16 c16 e16 x17 x18 h):Den pg fn.ntmps (C [1,1,1,0,1,0,0]) [(0,.ptr a0),(4,.ptr (i4,o4)),(5,.ptr (i5,o5)),(16,.slice a16 n16 c16 e16),(17,.int .i64 x17),(18,.int .i64 x18)] h (K3 Q R4):=
 Zbb (kp:=kp) (cast (by kernel_rfl) ht)
theorem L4ind (Q:QT) (a0:Pt) (i4 o4 i5 o5:Nat) (a16:Pt) (n16 c16:Nat) (e16:Bool) (x17:Int) {G:Type} (J:G→Int→Zaa→Prop) (m:G→Nat)
 (hr:∀ (g:G) (x18:Int) (h:Zaa),J g x18 h→∀ (R4:T4),(∀ g' (x18:Int) (h:Zaa),m g' < m g→J g' x18 h→R4 a0 i4 o4 i5 o5 a16 n16 c16 e16 x17 x18 h)→L4t Q R4 a0 i4 o4 i5 o5 a16 n16 c16 e16 x17 x18 h)
 (g:G) (x18:Int) (h:Zaa) (hj:J g x18 h):L4 Q a0 i4 o4 i5 o5 a16 n16 c16 e16 x17 x18 h:=by
 let P:=fun (K:Int→Zaa→Prop) a0' i4' o4' i5' o5' a16' n16' c16' e16' x17' x18 h=>a0=a0'∧i4=i4'∧o4=o4'∧i5=i5'∧o5=o5'∧a16=a16'∧n16=n16'∧c16=c16'∧e16=e16'∧x17=x17'∧K x18 h
 refine Zga.inv2 (fun g=>E4 (P (J g))) (fun g=>E4 (P fun x18 h=>∃ g',m g' < m g∧J g' x18 h)) m ?_ ?_ g ⟨rfl,rfl,rfl,rfl,rfl,rfl,rfl,rfl,rfl,rfl,hj⟩
 ·intro g env h hi
  obtain ⟨a0',i4',o4',i5',o5',a16',n16',c16',e16',x17',x18,rfl,rfl,rfl,rfl,rfl,rfl,rfl,rfl,rfl,rfl,rfl,hj⟩:=Zlx hi
  exact Zxe Q _ a0 i4 o4 i5 o5 a16 n16 c16 e16 x17 x18 h (hr g x18 h hj (P fun x18 h=>∃ g',m g' < m g∧J g' x18 h) fun g' x18 h hlt hj=>⟨rfl,rfl,rfl,rfl,rfl,rfl,rfl,rfl,rfl,rfl,g',hlt,hj⟩)
 ·intro g env h hi
  obtain ⟨a0',i4',o4',i5',o5',a16',n16',c16',e16',x17',x18,rfl,rfl,rfl,rfl,rfl,rfl,rfl,rfl,rfl,rfl,rfl,g',hlt,hj⟩:=Zlx hi
  exact ⟨g',hlt,rfl,rfl,rfl,rfl,rfl,rfl,rfl,rfl,rfl,rfl,hj⟩
theorem A4x0i (Q:QT) (i5 o5 i4 o4:Nat) (h:Zaa) (ht :
 Zcv (Zcl h (.ptr (i5,o5)) 2) fun A=>Zah A fun A B=>Zbo .u8 A fun A=>Zah B fun B C=>xSl B fun B D E F=>Zco C (Zcf (Zbc h (.ptr (i4,o4)) [.int .u8 A,.slice B D E F]) fun A=>Zcv (Zcl A (.ptr (i4,o4)) 2) fun B=>Zah B fun B C=>Zbo .u8 B fun B=>Zah C fun C D=>xSl C fun C E F G=>Zco D (Q (.agg [.int .u8 B,.slice C E F G]) A))):Ycd Q i5 o5 i4 o4 h:=
 At.mk (cast (by kernel_rfl) ht)
theorem call (a0:Pt) (x1x0:Int) (a1x1:Pt) (n1x1 c1x1:Nat) (e1x1:Bool) (h:Zaa) (Q:QT) (ht :
 Zfh (h ++ [.cells Zab [.int .u8 x1x0,.slice a1x1 n1x1 c1x1 e1x1] false]) fun A=>Zfh (A ++ [.cells Zab [.int .u8 0,.slice none 0 0 true] false]) fun B=>Zcv (Zcl B (.ptr (h.length,0)) 2) fun C=>Zah C fun C D=>Zbo .u8 C fun C=>Zah D fun D E=>xSl D fun D F G H=>Zco E (Zad pg Zel [.ptr a0,.agg [.int .u8 C,.slice D F G H]] B fun B C=>
 Zse B fun B=>Zah B fun B D=>Zbo .u8 B fun B=>Zah D fun D E=>xSl D fun D F G H=>Zco E (Zcf (Zbc C (.ptr (h.length,0)) [.int .u8 B,.slice D F G H]) fun B=>Zbo .u8 (Zaj B (.ptr (h.length,0 + 0))) fun C=>Zfh (B ++ [.cells Zab [] false]) fun D=>Zfh (D ++ [.cells Zab [.int .u8 0,.slice none 0 0 true] false]) fun E=>Zcf (Zbc E (.ptr (D.length,0)) [.int .u8 C,.slice (B.length,0) 0 0 true]) fun B=>xSl (Zaj B (.ptr (h.length,0 + 1))) fun C E F G=>L4 Q a0 A.length 0 D.length 0 C E F G (((E:Nat):Int)) 0 B))):Zad pg Zge [.ptr a0,.agg [.int .u8 x1x0,.slice a1x1 n1x1 c1x1 e1x1]] h Q:=
 Zad.of_body kp (c:=cod fn) (fn:=fn) Go.Proofs.Try.func98 (by kernel_rfl) (by kernel_rfl) (Nat.le_of_ble_eq_true (by kernel_rfl))
  (cast (by kernel_rfl) ht)
end Zfi
end Go.Sim

set_option maxRecDepth 100000
set_option maxHeartbeats 0
set_option linter.unusedVariables false
namespace Go.Sim
open Go Go.RowKit
namespace Zcd
noncomputable abbrev fn:Func:=Go.Proofs.Try.f97
def kp:Zcz:=[(2000003,[7,8,0,4,5]),(2000009,[]),(4000015,[4,0,5]),(3000016,[6]),(1000016,[0,4,5,67,68]),(2000018,[83,68,67,0,4,5])]
noncomputable def C (p:List Nat):Code:=(cod fn).sub p
def KR (Q:QT):KT:=Zik pg fn.results.toList Q
abbrev T16:=Pt→Nat→Nat→Nat→Nat→Int→Int→Zaa→Prop
def E16 (R16:T16) (env:Env) (h:Zaa):Prop:=Zdc 0 env fun v env=>Zeu v fun a0=>Zdc 4 env fun v env=>Zeu v fun a=>Zaw a fun i4 o4=>Zdc 5 env fun v env=>Zeu v fun a=>Zaw a fun i5 o5=>Zdc 67 env fun v env=>Zhy .i64 v fun x67=>Zdc 68 env fun v env=>Zhy .i64 v fun x68=>Zmq env (R16 a0 i4 o4 i5 o5 x67 x68 h)
theorem Zyt {R16:T16} {env:Env} {h:Zaa} (hi:E16 R16 env h):∃ a0,∃ i4,∃ o4,∃ i5,∃ o5,∃ x67,∃ x68,env=[(0,.ptr a0),(4,.ptr (i4,o4)),(5,.ptr (i5,o5)),(67,.int .i64 x67),(68,.int .i64 x68)]∧R16 a0 i4 o4 i5 o5 x67 x68 h:=by
 unfold E16 at hi
 have hi0:=hi
 clear hi
 obtain ⟨_,_,rfl,hi1⟩:=Zal hi0
 obtain ⟨a0,rfl,hi2⟩:=Zbq hi1
 obtain ⟨_,_,rfl,hi3⟩:=Zal hi2
 obtain ⟨a,rfl,hi4⟩:=Zbq hi3
 obtain ⟨i4,o4,rfl,hi5⟩:=Zbr hi4
 obtain ⟨_,_,rfl,hi6⟩:=Zal hi5
 obtain ⟨a,rfl,hi7⟩:=Zbq hi6
 obtain ⟨i5,o5,rfl,hi8⟩:=Zbr hi7
 obtain ⟨_,_,rfl,hi9⟩:=Zal hi8
 obtain ⟨x67,rfl,hi10⟩:=Zbf hi9
 obtain ⟨_,_,rfl,hi11⟩:=Zal hi10
 obtain ⟨x68,rfl,hi12⟩:=Zbf hi11
 obtain ⟨rfl,hi13⟩:=Zbw hi12
 have hi:=hi13
 exact ⟨a0,i4,o4,i5,o5,x67,x68,rfl,hi⟩
def K0 (Q:QT):KT:=andThen (fun env' h'=>(match kp.find 4000021 with | some ks=>Den pg fn.ntmps (C [1,1,1,1,1,1]) (env'.keep ks) h' (KR Q) | none=>den pg fn.ntmps kp (C [1,1,1,1,1,1]) env' h' (KR Q))) (KR Q)
def K1 (Q:QT):KT:=Zdm 1 (K0 Q)
def K2 (Q:QT):KT:=left kp 16 (K1 Q)
def K3 (Q:QT) (R16:T16):KT:=rnd ((kp.find 1000016).getD []) (E16 R16) (K2 Q)
def J15 (Q:QT) (i4 o4:Nat) (a0:Pt) (i5 o5:Nat) (h:Zaa):Prop:=Den pg fn.ntmps (C [1,1,1,1,1]) [(4,.ptr (i4,o4)),(0,.ptr a0),(5,.ptr (i5,o5))] h (KR Q)
def L16 (Q:QT) (a0:Pt) (i4 o4 i5 o5:Nat) (x67 x68:Int) (h:Zaa):Prop:=Zga (Den pg fn.ntmps (C [1,1,1,1,1,0,1,0,0])) ((kp.find 1000016).getD []) (K2 Q) [(0,.ptr a0),(4,.ptr (i4,o4)),(5,.ptr (i5,o5)),(67,.int .i64 x67),(68,.int .i64 x68)] h
def Yfr (Q:QT) (h:Zaa):Prop:=At (K1 Q) (.exit 1) [(6,.undef)] h
theorem J15i (Q:QT) (i4 o4:Nat) (a0:Pt) (i5 o5:Nat) (h:Zaa) (ht :
 xSl (Zaj h (.ptr (i4,o4 + 1))) fun A A B B=>L16 Q a0 i4 o4 i5 o5 (((A:Nat):Int)) 0 h):J15 Q i4 o4 a0 i5 o5 h:=
 Zbb (kp:=kp) (cast (by kernel_rfl) ht)
def L16t (Q:QT) (R16:T16) (a0:Pt) (i4 o4 i5 o5:Nat) (x67 x68:Int) (h:Zaa):Prop:=
 bcase (decide ((x68:Int) < x67)) (xSl (Zaj h (.ptr (i4,o4 + 1))) fun A B C C=>(0≤(x68:Int)∧(x68:Int) < (B:Nat))∧(Zaw A fun A B=>Zcv (Zcl h (.ptr (A,B + (Int.toNat x68) * 2)) 2) fun C=>Zah C fun C D=>Zbo .u8 C fun C=>Zah D fun D E=>xSl D fun D F G H=>Zco E (xSl (Zaj h (.ptr (i5,o5 + 1))) fun E I J J=>(Zcl h (.ptr (A,B + (Int.toNat x68) * 2)) 2=Zcl h (.ptr (A,B + (Int.toNat x68) * 2)) 2)∧(Zaj h (.ptr (i4,o4 + 1))=Zaj h (.ptr (i4,o4 + 1)))∧(0≤(x68:Int)∧(x68:Int) < (I:Nat))∧(Zaw E fun E I=>Zcv (Zcl h (.ptr (E,I + (Int.toNat x68) * 2)) 2) fun E=>Zah E fun E I=>Zbo .u8 E fun E=>Zah I fun I J=>xSl I fun I K L M=>Zco J ((Zcl h (.ptr (A,B + (Int.toNat x68) * 2)) 2=Zcl h (.ptr (A,B + (Int.toNat x68) * 2)) 2)∧(Zaj h (.ptr (i4,o4 + 1))=Zaj h (.ptr (i4,o4 + 1)))∧Zad pg Zbh [.ptr a0,.agg [.int .u8 C,.slice D F G H],.agg [.int .u8 E,.slice I K L M]] h fun A B=>
 Zbs A fun A=>(Zaj B (.ptr (i4,o4 + 1))=Zaj h (.ptr (i4,o4 + 1)))∧bcase (!A) (Q (.bool false) B) (R16 a0 i4 o4 i5 o5 x67 (IntKind.wrap .i64 (x68 + 1)) B)))))) (Yfr Q h)
theorem Yfu (Q:QT) (R16:T16) (a0:Pt) (i4 o4 i5 o5:Nat) (x67 x68:Int) (h:Zaa) (ht:L16t Q R16 a0 i4 o4 i5 o5 x67 x68 h):Den pg fn.ntmps (C [1,1,1,1,1,0,1,0,0]) [(0,.ptr a0),(4,.ptr (i4,o4)),(5,.ptr (i5,o5)),(67,.int .i64 x67),(68,.int .i64 x68)] h (K3 Q R16):=
 Zbb (kp:=kp) (cast (by kernel_rfl) ht)
theorem L16ind (Q:QT) (a0:Pt) (i4 o4 i5 o5:Nat) (x67:Int) {G:Type} (J:G→Int→Zaa→Prop) (m:G→Nat)
 (hr:∀ (g:G) (x68:Int) (h:Zaa),J g x68 h→∀ (R16:T16),(∀ g' (x68:Int) (h:Zaa),m g' < m g→J g' x68 h→R16 a0 i4 o4 i5 o5 x67 x68 h)→L16t Q R16 a0 i4 o4 i5 o5 x67 x68 h)
 (g:G) (x68:Int) (h:Zaa) (hj:J g x68 h):L16 Q a0 i4 o4 i5 o5 x67 x68 h:=by
 let P:=fun (K:Int→Zaa→Prop) a0' i4' o4' i5' o5' x67' x68 h=>a0=a0'∧i4=i4'∧o4=o4'∧i5=i5'∧o5=o5'∧x67=x67'∧K x68 h
 refine Zga.inv2 (fun g=>E16 (P (J g))) (fun g=>E16 (P fun x68 h=>∃ g',m g' < m g∧J g' x68 h)) m ?_ ?_ g ⟨rfl,rfl,rfl,rfl,rfl,rfl,hj⟩
 ·intro g env h hi
  obtain ⟨a0',i4',o4',i5',o5',x67',x68,rfl,rfl,rfl,rfl,rfl,rfl,rfl,hj⟩:=Zyt hi
  exact Yfu Q _ a0 i4 o4 i5 o5 x67 x68 h (hr g x68 h hj (P fun x68 h=>∃ g',m g' < m g∧J g' x68 h) fun g' x68 h hlt hj=>⟨rfl,rfl,rfl,rfl,rfl,rfl,g',hlt,hj⟩)
 ·intro g env h hi
  obtain ⟨a0',i4',o4',i5',o5',x67',x68,rfl,rfl,rfl,rfl,rfl,rfl,rfl,g',hlt,hj⟩:=Zyt hi
  exact ⟨g',hlt,rfl,rfl,rfl,rfl,rfl,rfl,hj⟩
theorem A16x1i (Q:QT) (h:Zaa) (ht :
 Q (.bool true) h):Yfr Q h:=
 At.mk (cast (by kernel_rfl) ht)
theorem call (a0:Pt) (x1x0:Int) (a1x1:Pt) (n1x1 c1x1:Nat) (e1x1:Bool) (x2x0:Int) (a2x1:Pt) (n2x1 c2x1:Nat) (e2x1:Bool) (h:Zaa) (Q:QT) (ht :
 Zfh (h ++ [.cells Zab [.int .u8 x1x0,.slice a1x1 n1x1 c1x1 e1x1] false]) fun A=>Zfh (A ++ [.cells Zab [.int .u8 x2x0,.slice a2x1 n2x1 c2x1 e2x1] false]) fun B=>Zcv (Zcl B (.ptr (h.length,0)) 2) fun C=>Zah C fun C D=>Zbo .u8 C fun C=>Zah D fun D E=>xSl D fun D F G H=>Zco E (Zad pg Zel [.ptr a0,.agg [.int .u8 C,.slice D F G H]] B fun B C=>
 Zse B fun B=>Zah B fun B D=>Zbo .u8 B fun B=>Zah D fun D E=>xSl D fun D F G H=>Zco E (Zcf (Zbc C (.ptr (h.length,0)) [.int .u8 B,.slice D F G H]) fun B=>Zcv (Zcl B (.ptr (A.length,0)) 2) fun C=>Zah C fun C D=>Zbo .u8 C fun C=>Zah D fun D E=>xSl D fun D F G H=>Zco E (Zad pg Zel [.ptr a0,.agg [.int .u8 C,.slice D F G H]] B fun B C=>
 Zse B fun B=>Zah B fun B D=>Zbo .u8 B fun B=>Zah D fun D E=>xSl D fun D F G H=>Zco E (Zcf (Zbc C (.ptr (A.length,0)) [.int .u8 B,.slice D F G H]) fun B=>Zbo .u8 (Zaj B (.ptr (h.length,0 + 0))) fun C=>Zbo .u8 (Zaj B (.ptr (A.length,0 + 0))) fun D=>Zad pg Zdy [.int .u8 C] B fun C E=>
 Zbo .i64 C fun C=>(Zaj E (.ptr (A.length,0 + 0))=Zaj B (.ptr (A.length,0 + 0)))∧Zad pg Zdy [.int .u8 D] E fun B D=>
 Zbo .i64 B fun B=>(Zaj D (.ptr (h.length,0 + 0))=Zaj E (.ptr (h.length,0 + 0)))∧bcase (decide ((C:Int) ≥ 0)) (bcase ((C:Int) == B) (Q (.bool true) D) (bcase (decide ((C:Int) ≥ 0)) (bcase (decide ((B:Int) < 0)) (Zbo .u8 (Zaj D (.ptr (h.length,0 + 0))) fun E=>Zcv (Zcl D (.ptr (A.length,0)) 2) fun F=>Zah F fun F G=>Zbo .u8 F fun F=>Zah G fun G H=>xSl G fun G I J K=>Zco H (Zad pg Zbn [.ptr a0,.int .u8 E,.agg [.int .u8 F,.slice G I J K]] D fun E F=>
 Zbs E fun E=>bcase E (Q (.bool false) F) (Zaw a0 fun E G=>Zcv (Zcl F (.ptr (A.length,0)) 2) fun H=>Zah H fun H I=>Zbo .u8 H fun H=>Zah I fun I J=>xSl I fun I K L M=>Zco J ((0≤(C:Int)∧(C:Int) < (12:Nat))∧(Zcf (Zbc F (.ptr (E,G + (Int.toNat C) * 2)) [.int .u8 H,.slice I K L M]) fun E=>Q (.bool true) E))))) (bcase (decide ((C:Int) < B)) (Zbo .u8 (Zaj D (.ptr (h.length,0 + 0))) fun E=>Zcv (Zcl D (.ptr (A.length,0)) 2) fun F=>Zah F fun F G=>Zbo .u8 F fun F=>Zah G fun G H=>xSl G fun G I J K=>Zco H (Zad pg Zbn [.ptr a0,.int .u8 E,.agg [.int .u8 F,.slice G I J K]] D fun E F=>
 Zbs E fun E=>bcase E (Q (.bool false) F) (Zaw a0 fun E G=>Zcv (Zcl F (.ptr (A.length,0)) 2) fun H=>Zah H fun H I=>Zbo .u8 H fun H=>Zah I fun I J=>xSl I fun I K L M=>Zco J ((0≤(C:Int)∧(C:Int) < (12:Nat))∧(Zcf (Zbc F (.ptr (E,G + (Int.toNat C) * 2)) [.int .u8 H,.slice I K L M]) fun E=>Q (.bool true) E))))) (bcase (decide ((B:Int) ≥ 0)) (Zcv (Zcl D (.ptr (A.length,0)) 2) fun E=>Zah E fun E F=>Zbo .u8 E fun E=>Zah F fun F G=>xSl F fun F H I J=>Zco G (Zcv (Zcl D (.ptr (h.length,0)) 2) fun G=>Zah G fun G K=>Zbo .u8 G fun G=>Zah K fun K L=>xSl K fun K M N O=>Zco L (Zad pg Zbh [.ptr a0,.agg [.int .u8 E,.slice F H I J],.agg [.int .u8 G,.slice K M N O]] D fun E F=>
 Zbs E fun E=>Q (.bool E) F))) (Zbo .u8 (Zaj D (.ptr (h.length,0 + 0))) fun E=>Zbo .u8 (Zaj D (.ptr (A.length,0 + 0))) fun F=>bcase (!((E:Int) == F)) (Q (.bool false) D) (J15 Q h.length 0 a0 A.length 0 D))))) (bcase (decide ((B:Int) ≥ 0)) (Zcv (Zcl D (.ptr (A.length,0)) 2) fun E=>Zah E fun E F=>Zbo .u8 E fun E=>Zah F fun F G=>xSl F fun F H I J=>Zco G (Zcv (Zcl D (.ptr (h.length,0)) 2) fun G=>Zah G fun G K=>Zbo .u8 G fun G=>Zah K fun K L=>xSl K fun K M N O=>Zco L (Zad pg Zbh [.ptr a0,.agg [.int .u8 E,.slice F H I J],.agg [.int .u8 G,.slice K M N O]] D fun E F=>
 Zbs E fun E=>Q (.bool E) F))) (Zbo .u8 (Zaj D (.ptr (h.length,0 + 0))) fun E=>Zbo .u8 (Zaj D (.ptr (A.length,0 + 0))) fun F=>bcase (!((E:Int) == F)) (Q (.bool false) D) (J15 Q h.length 0 a0 A.length 0 D))))) (bcase (decide ((C:Int) ≥ 0)) (bcase (decide ((B:Int) < 0)) (Zbo .u8 (Zaj D (.ptr (h.length,0 + 0))) fun E=>Zcv (Zcl D (.ptr (A.length,0)) 2) fun F=>Zah F fun F G=>Zbo .u8 F fun F=>Zah G fun G H=>xSl G fun G I J K=>Zco H (Zad pg Zbn [.ptr a0,.int .u8 E,.agg [.int .u8 F,.slice G I J K]] D fun E F=>
 Zbs E fun E=>bcase E (Q (.bool false) F) (Zaw a0 fun E G=>Zcv (Zcl F (.ptr (A.length,0)) 2) fun H=>Zah H fun H I=>Zbo .u8 H fun H=>Zah I fun I J=>xSl I fun I K L M=>Zco J ((0≤(C:Int)∧(C:Int) < (12:Nat))∧(Zcf (Zbc F (.ptr (E,G + (Int.toNat C) * 2)) [.int .u8 H,.slice I K L M]) fun E=>Q (.bool true) E))))) (bcase (decide ((C:Int) < B)) (Zbo .u8 (Zaj D (.ptr (h.length,0 + 0))) fun E=>Zcv (Zcl D (.ptr (A.length,0)) 2) fun F=>Zah F fun F G=>Zbo .u8 F fun F=>Zah G fun G H=>xSl G fun G I J K=>Zco H (Zad pg Zbn [.ptr a0,.int .u8 E,.agg [.int .u8 F,.slice G I J K]] D fun E F=>
 Zbs E fun E=>bcase E (Q (.bool false) F) (Zaw a0 fun E G=>Zcv (Zcl F (.ptr (A.length,0)) 2) fun H=>Zah H fun H I=>Zbo .u8 H fun H=>Zah I fun I J=>xSl I fun I K L M=>Zco J ((0≤(C:Int)∧(C:Int) < (12:Nat))∧(Zcf (Zbc F (.ptr (E,G + (Int.toNat C) * 2)) [.int .u8 H,.slice I K L M]) fun C=>Q (.bool true) C))))) (bcase (decide ((B:Int) ≥ 0)) (Zcv (Zcl D (.ptr (A.length,0)) 2) fun C=>Zah C fun C E=>Zbo .u8 C fun C=>Zah E fun E F=>xSl E fun E G H I=>Zco F (Zcv (Zcl D (.ptr (h.length,0)) 2) fun F=>Zah F fun F J=>Zbo .u8 F fun F=>Zah J fun J K=>xSl J fun J L M N=>Zco K (Zad pg Zbh [.ptr a0,.agg [.int .u8 C,.slice E G H I],.agg [.int .u8 F,.slice J L M N]] D fun C E=>
 Zbs C fun C=>Q (.bool C) E))) (Zbo .u8 (Zaj D (.ptr (h.length,0 + 0))) fun C=>Zbo .u8 (Zaj D (.ptr (A.length,0 + 0))) fun E=>bcase (!((C:Int) == E)) (Q (.bool false) D) (J15 Q h.length 0 a0 A.length 0 D))))) (bcase (decide ((B:Int) ≥ 0)) (Zcv (Zcl D (.ptr (A.length,0)) 2) fun B=>Zah B fun B C=>Zbo .u8 B fun B=>Zah C fun C E=>xSl C fun C F G H=>Zco E (Zcv (Zcl D (.ptr (h.length,0)) 2) fun E=>Zah E fun E I=>Zbo .u8 E fun E=>Zah I fun I J=>xSl I fun I K L M=>Zco J (Zad pg Zbh [.ptr a0,.agg [.int .u8 B,.slice C F G H],.agg [.int .u8 E,.slice I K L M]] D fun B C=>
 Zbs B fun B=>Q (.bool B) C))) (Zbo .u8 (Zaj D (.ptr (h.length,0 + 0))) fun B=>Zbo .u8 (Zaj D (.ptr (A.length,0 + 0))) fun C=>bcase (!((B:Int) == C)) (Q (.bool false) D) (J15 Q h.length 0 a0 A.length 0 D))))))))):Zad pg Zbh [.ptr a0,.agg [.int .u8 x1x0,.slice a1x1 n1x1 c1x1 e1x1],.agg [.int .u8 x2x0,.slice a2x1 n2x1 c2x1 e2x1]] h Q:=
 Zad.of_body kp (c:=cod fn) (fn:=fn) Go.Proofs.Try.func97 (by kernel_rfl) (by kernel_rfl) (Nat.le_of_ble_eq_true (by kernel_rfl))
  (cast (by kernel_rfl) ht)
end Zcd
end Go.Sim

set_option maxRecDepth 100000
set_option maxHeartbeats 0
set_option linter.unusedVariables false
namespace Go.Sim
open Go Go.RowKit
namespace Zej
noncomputable abbrev fn:Func:=Go.Proofs.Try.f142
def kp:Zcz:=[(3000005,[6]),(1000005,[0,1,17,18,19])]
noncomputable def C (p:List Nat):Code:=(cod fn).sub p
def KR (Q:QT):KT:=Zik pg fn.results.toList Q
abbrev T5:=Pt→Int→Pt→Nat→Nat→Bool→Int→Int→Zaa→Prop
def E5 (R5:T5) (env:Env) (h:Zaa):Prop:=Zdc 0 env fun v env=>Zeu v fun a0=>Zdc 1 env fun v env=>Zhy .u8 v fun x1=>Zdc 17 env fun v env=>xSl v fun a17 n17 c17 e17=>Zdc 18 env fun v env=>Zhy .i64 v fun x18=>Zdc 19 env fun v env=>Zhy .i64 v fun x19=>Zmq env (R5 a0 x1 a17 n17 c17 e17 x18 x19 h)
theorem Zrj {R5:T5} {env:Env} {h:Zaa} (hi:E5 R5 env h):∃ a0,∃ x1,∃ a17,∃ n17,∃ c17,∃ e17,∃ x18,∃ x19,env=[(0,.ptr a0),(1,.int .u8 x1),(17,.slice a17 n17 c17 e17),(18,.int .i64 x18),(19,.int .i64 x19)]∧R5 a0 x1 a17 n17 c17 e17 x18 x19 h:=by
 unfold E5 at hi
 repeat ((first | (have k:=Zal hi; clear hi; obtain ⟨_,_,e,hi⟩:=k) | (have k:=Zem hi; clear hi; obtain ⟨_,_,_,_,e,hi⟩:=k) | (have k:=Zbf hi; clear hi; obtain ⟨_,e,hi⟩:=k) | (have k:=Zbq hi; clear hi; obtain ⟨_,e,hi⟩:=k)); subst e)
 obtain ⟨rfl,hi⟩:=Zbw hi
 exact ⟨_,_,_,_,_,_,_,_,rfl,hi⟩
def K0 (Q:QT):KT:=andThen (fun env' h'=>(match kp.find 4000010 with | some ks=>Den pg fn.ntmps (C [1,1,1,1]) (env'.keep ks) h' (KR Q) | none=>den pg fn.ntmps kp (C [1,1,1,1]) env' h' (KR Q))) (KR Q)
def K1 (Q:QT):KT:=Zdm 0 (K0 Q)
def K2 (Q:QT):KT:=left kp 5 (K1 Q)
def K3 (Q:QT) (R5:T5):KT:=rnd ((kp.find 1000005).getD []) (E5 R5) (K2 Q)
def L5 (Q:QT) (a0:Pt) (x1:Int) (a17:Pt) (n17 c17:Nat) (e17:Bool) (x18 x19:Int) (h:Zaa):Prop:=Zga (Den pg fn.ntmps (C [1,1,1,0,1,0,0])) ((kp.find 1000005).getD []) (K2 Q) [(0,.ptr a0),(1,.int .u8 x1),(17,.slice a17 n17 c17 e17),(18,.int .i64 x18),(19,.int .i64 x19)] h
def A5x0 (Q:QT) (h:Zaa):Prop:=At (K1 Q) (.exit 0) [(6,.undef)] h
def L5t (Q:QT) (R5:T5) (a0:Pt) (x1:Int) (a17:Pt) (n17 c17:Nat) (e17:Bool) (x18 x19:Int) (h:Zaa):Prop:=
 bcase (decide ((x19:Int) < x18)) ((0≤(x19:Int)∧(x19:Int) < (n17:Nat))∧(Zaw a17 fun A B=>Zcv (Zcl h (.ptr (A,B + (Int.toNat x19) * 2)) 2) fun A=>Zah A fun A B=>Zbo .u8 A fun A=>Zah B fun B C=>xSl B fun B D E F=>Zco C (Zfh (h ++ [.cells Zab [.int .u8 0,.slice none 0 0 true] false]) fun C=>Zcf (Zbc C (.ptr (h.length,0)) [.int .u8 A,.slice B D E F]) fun A=>Zcv (Zcl A (.ptr (h.length,0)) 2) fun B=>Zah B fun B C=>Zbo .u8 B fun B=>Zah C fun C D=>xSl C fun C E F G=>Zco D (Zad pg Zbn [.ptr a0,.int .u8 x1,.agg [.int .u8 B,.slice C E F G]] A fun A B=>
 Zbs A fun A=>bcase A (Q (.bool true) B) (R5 a0 x1 a17 n17 c17 e17 x18 (IntKind.wrap .i64 (x19 + 1)) B))))) (A5x0 Q h)
theorem Ydf (Q:QT) (R5:T5) (a0:Pt) (x1:Int) (a17:Pt) (n17 c17:Nat) (e17:Bool) (x18 x19:Int) (h:Zaa) (ht:L5t Q R5 a0 x1 a17 n17 c17 e17 x18 x19 h):Den pg fn.ntmps (C [1,1,1,0,1,0,0]) [(0,.ptr a0),(1,.int .u8 x1),(17,.slice a17 n17 c17 e17),(18,.int .i64 x18),(19,.int .i64 x19)] h (K3 Q R5):=
 Zbb (kp:=kp) (cast (by kernel_rfl) ht)
theorem L5ind (Q:QT) (a0:Pt) (x1:Int) (a17:Pt) (n17 c17:Nat) (e17:Bool) (x18:Int) {G:Type} (J:G→Int→Zaa→Prop) (m:G→Nat)
 (hr:∀ (g:G) (x19:Int) (h:Zaa),J g x19 h→∀ (R5:T5),(∀ g' (x19:Int) (h:Zaa),m g' < m g→J g' x19 h→R5 a0 x1 a17 n17 c17 e17 x18 x19 h)→L5t Q R5 a0 x1 a17 n17 c17 e17 x18 x19 h)
 (g:G) (x19:Int) (h:Zaa) (hj:J g x19 h):L5 Q a0 x1 a17 n17 c17 e17 x18 x19 h:=by
 let P:=fun (K:Int→Zaa→Prop) a0' x1' a17' n17' c17' e17' x18' x19 h=>a0=a0'∧x1=x1'∧a17=a17'∧n17=n17'∧c17=c17'∧e17=e17'∧x18=x18'∧K x19 h
 refine Zga.inv2 (fun g=>E5 (P (J g))) (fun g=>E5 (P fun x19 h=>∃ g',m g' < m g∧J g' x19 h)) m ?_ ?_ g ⟨rfl,rfl,rfl,rfl,rfl,rfl,rfl,hj⟩
 ·intro g env h hi
  obtain ⟨a0',x1',a17',n17',c17',e17',x18',x19,rfl,rfl,rfl,rfl,rfl,rfl,rfl,rfl,hj⟩:=Zrj hi
  exact Ydf Q _ a0 x1 a17 n17 c17 e17 x18 x19 h (hr g x19 h hj (P fun x19 h=>∃ g',m g' < m g∧J g' x19 h) fun g' x19 h hlt hj=>⟨rfl,rfl,rfl,rfl,rfl,rfl,rfl,g',hlt,hj⟩)
 ·intro g env h hi
  obtain ⟨a0',x1',a17',n17',c17',e17',x18',x19,rfl,rfl,rfl,rfl,rfl,rfl,rfl,rfl,g',hlt,hj⟩:=Zrj hi
  exact ⟨g',hlt,rfl,rfl,rfl,rfl,rfl,rfl,rfl,hj⟩
theorem A5x0i (Q:QT) (h:Zaa) (ht :
 Q (.bool false) h):A5x0 Q h:=
 At.mk (cast (by kernel_rfl) ht)
theorem call (a0:Pt) (x1 x2x0:Int) (a2x1:Pt) (n2x1 c2x1:Nat) (e2x1:Bool) (h:Zaa) (Q:QT) (ht :
 Zfh (h ++ [.cells Zab [.int .u8 x2x0,.slice a2x1 n2x1 c2x1 e2x1] false]) fun A=>Zcv (Zcl A (.ptr (h.length,0)) 2) fun B=>Zah B fun B C=>Zbo .u8 B fun B=>Zah C fun C D=>xSl C fun C E F G=>Zco D (Zad pg Zel [.ptr a0,.agg [.int .u8 B,.slice C E F G]] A fun A B=>
 Zse A fun A=>Zah A fun A C=>Zbo .u8 A fun A=>Zah C fun C D=>xSl C fun C E F G=>Zco D (Zcf (Zbc B (.ptr (h.length,0)) [.int .u8 A,.slice C E F G]) fun A=>Zbo .u8 (Zaj A (.ptr (h.length,0 + 0))) fun B=>bcase ((B:Int) == x1) (Q (.bool true) A) (xSl (Zaj A (.ptr (h.length,0 + 1))) fun B C D E=>L5 Q a0 x1 B C D E (((C:Nat):Int)) 0 A)))):Zad pg Zbn [.ptr a0,.int .u8 x1,.agg [.int .u8 x2x0,.slice a2x1 n2x1 c2x1 e2x1]] h Q:=
 Zad.of_body kp (c:=cod fn) (fn:=fn) Go.Proofs.Try.func142 (by kernel_rfl) (by kernel_rfl) (Nat.le_of_ble_eq_true (by kernel_rfl))
  (cast (by kernel_rfl) ht)
end Zej
end Go.Sim

set_option maxRecDepth 100000
set_option maxHeartbeats 0
set_option linter.unusedVariables false
namespace Go.Sim
open Go Go.RowKit
namespace Zds
noncomputable abbrev fn:Func:=Go.Proofs.Try.f141
def kp:Zcz:=[(3000002,[3,4]),(1000002,[0,3,4,5]),(4000004,[0,5,3,4])]
noncomputable def C (p:List Nat):Code:=(cod fn).sub p
def KR (Q:QT):KT:=Zik pg fn.results.toList Q
abbrev T2:=Pt→Nat→Nat→Nat→Nat→Int→Zaa→Prop
def E2 (R2:T2) (env:Env) (h:Zaa):Prop:=Zdc 0 env fun v env=>Zeu v fun a0=>Zdc 3 env fun v env=>Zeu v fun a=>Zaw a fun i3 o3=>Zdc 4 env fun v env=>Zeu v fun a=>Zaw a fun i4 o4=>Zdc 5 env fun v env=>Zhy .i64 v fun x5=>Zmq env (R2 a0 i3 o3 i4 o4 x5 h)
theorem Zip {R2:T2} {env:Env} {h:Zaa} (hi:E2 R2 env h):∃ a0,∃ i3,∃ o3,∃ i4,∃ o4,∃ x5,env=[(0,.ptr a0),(3,.ptr (i3,o3)),(4,.ptr (i4,o4)),(5,.int .i64 x5)]∧R2 a0 i3 o3 i4 o4 x5 h:=by
 unfold E2 at hi
 have hi0:=hi
 clear hi
 obtain ⟨_,_,rfl,hi1⟩:=Zal hi0
 obtain ⟨a0,rfl,hi2⟩:=Zbq hi1
 obtain ⟨_,_,rfl,hi3⟩:=Zal hi2
 obtain ⟨a,rfl,hi4⟩:=Zbq hi3
 obtain ⟨i3,o3,rfl,hi5⟩:=Zbr hi4
 obtain ⟨_,_,rfl,hi6⟩:=Zal hi5
 obtain ⟨a,rfl,hi7⟩:=Zbq hi6
 obtain ⟨i4,o4,rfl,hi8⟩:=Zbr hi7
 obtain ⟨_,_,rfl,hi9⟩:=Zal hi8
 obtain ⟨x5,rfl,hi10⟩:=Zbf hi9
 obtain ⟨rfl,hi11⟩:=Zbw hi10
 have hi:=hi11
 exact ⟨a0,i3,o3,i4,o4,x5,rfl,hi⟩
def K0 (Q:QT):KT:=andThen (fun env' h'=>(match kp.find 4000005 with | some ks=>Den pg fn.ntmps (C [1,1]) (env'.keep ks) h' (KR Q) | none=>den pg fn.ntmps kp (C [1,1]) env' h' (KR Q))) (KR Q)
def K1 (Q:QT):KT:=Zdm 0 (K0 Q)
def K2 (Q:QT):KT:=left kp 2 (K1 Q)
def K3 (Q:QT) (R2:T2):KT:=rnd ((kp.find 1000002).getD []) (E2 R2) (K2 Q)
def L2 (Q:QT) (a0:Pt) (i3 o3 i4 o4:Nat) (x5:Int) (h:Zaa):Prop:=Zga (Den pg fn.ntmps (C [1,0,1,0,0])) ((kp.find 1000002).getD []) (K2 Q) [(0,.ptr a0),(3,.ptr (i3,o3)),(4,.ptr (i4,o4)),(5,.int .i64 x5)] h
def J4 (Q:QT) (R2:T2) (a0:Pt) (x5:Int) (i3 o3 i4 o4:Nat) (h:Zaa):Prop:=Den pg fn.ntmps (C [1,0,1,0,0,1]) [(0,.ptr a0),(5,.int .i64 x5),(3,.ptr (i3,o3)),(4,.ptr (i4,o4))] h (K3 Q R2)
def A2x0 (Q:QT) (i3 o3 i4 o4:Nat) (h:Zaa):Prop:=At (K1 Q) (.exit 0) [(3,.ptr (i3,o3)),(4,.ptr (i4,o4))] h
def L2t (Q:QT) (R2:T2) (a0:Pt) (i3 o3 i4 o4:Nat) (x5:Int) (h:Zaa):Prop:=
 bcase (decide ((x5:Int) ≥ 0)) (Zaw a0 fun A B=>(0≤(x5:Int)∧(x5:Int) < (12:Nat))∧(Zbo .u8 (Zaj h (.ptr (A,B + (Int.toNat x5) * 2 + 0))) fun A=>bcase (!((A:Int) == 0)) (J4 Q R2 a0 x5 i3 o3 i4 o4 h) (A2x0 Q i3 o3 i4 o4 h))) (A2x0 Q i3 o3 i4 o4 h)
theorem Zsm (Q:QT) (R2:T2) (a0:Pt) (i3 o3 i4 o4:Nat) (x5:Int) (h:Zaa) (ht:L2t Q R2 a0 i3 o3 i4 o4 x5 h):Den pg fn.ntmps (C [1,0,1,0,0]) [(0,.ptr a0),(3,.ptr (i3,o3)),(4,.ptr (i4,o4)),(5,.int .i64 x5)] h (K3 Q R2):=
 Zbb (kp:=kp) (cast (by kernel_rfl) ht)
theorem L2ind (Q:QT) (a0:Pt) (i3 o3 i4 o4:Nat) {G:Type} (J:G→Int→Zaa→Prop) (m:G→Nat)
 (hr:∀ (g:G) (x5:Int) (h:Zaa),J g x5 h→∀ (R2:T2),(∀ g' (x5:Int) (h:Zaa),m g' < m g→J g' x5 h→R2 a0 i3 o3 i4 o4 x5 h)→L2t Q R2 a0 i3 o3 i4 o4 x5 h)
 (g:G) (x5:Int) (h:Zaa) (hj:J g x5 h):L2 Q a0 i3 o3 i4 o4 x5 h:=by
 let P:=fun (K:Int→Zaa→Prop) a0' i3' o3' i4' o4' x5 h=>a0=a0'∧i3=i3'∧o3=o3'∧i4=i4'∧o4=o4'∧K x5 h
 refine Zga.inv2 (fun g=>E2 (P (J g))) (fun g=>E2 (P fun x5 h=>∃ g',m g' < m g∧J g' x5 h)) m ?_ ?_ g ⟨rfl,rfl,rfl,rfl,rfl,hj⟩
 ·intro g env h hi
  obtain ⟨a0',i3',o3',i4',o4',x5,rfl,rfl,rfl,rfl,rfl,rfl,hj⟩:=Zip hi
  exact Zsm Q _ a0 i3 o3 i4 o4 x5 h (hr g x5 h hj (P fun x5 h=>∃ g',m g' < m g∧J g' x5 h) fun g' x5 h hlt hj=>⟨rfl,rfl,rfl,rfl,rfl,g',hlt,hj⟩)
 ·intro g env h hi
  obtain ⟨a0',i3',o3',i4',o4',x5,rfl,rfl,rfl,rfl,rfl,rfl,g',hlt,hj⟩:=Zip hi
  exact ⟨g',hlt,rfl,rfl,rfl,rfl,rfl,hj⟩
theorem J4i (Q:QT) (R2:T2) (a0:Pt) (x5:Int) (i3 o3 i4 o4:Nat) (h:Zaa) (ht :
 Zaw a0 fun A B=>(0≤(x5:Int)∧(x5:Int) < (12:Nat))∧(Zcv (Zcl h (.ptr (A,B + (Int.toNat x5) * 2)) 2) fun A=>Zah A fun A B=>Zbo .u8 A fun A=>Zah B fun B C=>xSl B fun B D E F=>Zco C (Zcf (Zbc h (.ptr (i3,o3)) [.int .u8 A,.slice B D E F]) fun A=>Zbo .u8 (Zaj A (.ptr (i3,o3 + 0))) fun B=>Zad pg Zdy [.int .u8 B] A fun A B=>
 Zbo .i64 A fun A=>R2 a0 i3 o3 i4 o4 A B))):J4 Q R2 a0 x5 i3 o3 i4 o4 h:=
 Zbb (kp:=kp) (cast (by kernel_rfl) ht)
theorem A2x0i (Q:QT) (i3 o3 i4 o4:Nat) (h:Zaa) (ht :
 Zcv (Zcl h (.ptr (i3,o3)) 2) fun A=>Zah A fun A B=>Zbo .u8 A fun A=>Zah B fun B C=>xSl B fun B D E F=>Zco C (Zcf (Zbc h (.ptr (i4,o4)) [.int .u8 A,.slice B D E F]) fun A=>Zcv (Zcl A (.ptr (i4,o4)) 2) fun B=>Zah B fun B C=>Zbo .u8 B fun B=>Zah C fun C D=>xSl C fun C E F G=>Zco D (Q (.agg [.int .u8 B,.slice C E F G]) A))):A2x0 Q i3 o3 i4 o4 h:=
 At.mk (cast (by kernel_rfl) ht)
theorem call (a0:Pt) (x1x0:Int) (a1x1:Pt) (n1x1 c1x1:Nat) (e1x1:Bool) (h:Zaa) (Q:QT) (ht :
 Zfh (h ++ [.cells Zab [.int .u8 x1x0,.slice a1x1 n1x1 c1x1 e1x1] false]) fun A=>Zfh (A ++ [.cells Zab [.int .u8 0,.slice none 0 0 true] false]) fun B=>Zbo .u8 (Zaj B (.ptr (h.length,0 + 0))) fun C=>Zad pg Zdy [.int .u8 C] B fun B C=>
 Zbo .i64 B fun B=>L2 Q a0 h.length 0 A.length 0 B C):Zad pg Zel [.ptr a0,.agg [.int .u8 x1x0,.slice a1x1 n1x1 c1x1 e1x1]] h Q:=
 Zad.of_body kp (c:=cod fn) (fn:=fn) Go.Proofs.Try.func141 (by kernel_rfl) (by kernel_rfl) (Nat.le_of_ble_eq_true (by kernel_rfl))
  (cast (by kernel_rfl) ht)
end Zds
end Go.Sim

set_option maxRecDepth 100000
set_option maxHeartbeats 0
set_option linter.unusedVariables false
namespace Go.Sim
open Go Go.RowKit
namespace Zct
noncomputable abbrev fn:Func:=Go.Proofs.Try.f99
def kp:Zcz:=[(3000003,[1,3]),(1000003,[1,3,7,8,9]),(4000009,[3])]
noncomputable def C (p:List Nat):Code:=(cod fn).sub p
def KR (Q:QT):KT:=Zik pg fn.results.toList Q
abbrev T3:=Nat→Nat→Int→Pt→Nat→Nat→Bool→Int→Int→Zaa→Prop
def E3 (R3:T3) (env:Env) (h:Zaa):Prop:=Zdc 1 env fun v env=>Zeu v fun a=>Zaw a fun i1 o1=>Zdc 3 env fun v env=>Zhy .i64 v fun x3=>Zdc 7 env fun v env=>xSl v fun a7 n7 c7 e7=>Zdc 8 env fun v env=>Zhy .i64 v fun x8=>Zdc 9 env fun v env=>Zhy .i64 v fun x9=>Zmq env (R3 i1 o1 x3 a7 n7 c7 e7 x8 x9 h)
theorem Zio {R3:T3} {env:Env} {h:Zaa} (hi:E3 R3 env h):∃ i1,∃ o1,∃ x3,∃ a7,∃ n7,∃ c7,∃ e7,∃ x8,∃ x9,env=[(1,.ptr (i1,o1)),(3,.int .i64 x3),(7,.slice a7 n7 c7 e7),(8,.int .i64 x8),(9,.int .i64 x9)]∧R3 i1 o1 x3 a7 n7 c7 e7 x8 x9 h:=by
 unfold E3 at hi
 have hi0:=hi
 clear hi
 obtain ⟨_,_,rfl,hi1⟩:=Zal hi0
 obtain ⟨a,rfl,hi2⟩:=Zbq hi1
 obtain ⟨i1,o1,rfl,hi3⟩:=Zbr hi2
 obtain ⟨_,_,rfl,hi4⟩:=Zal hi3
 obtain ⟨x3,rfl,hi5⟩:=Zbf hi4
 obtain ⟨_,_,rfl,hi6⟩:=Zal hi5
 obtain ⟨a7,n7,c7,e7,rfl,hi7⟩:=Zem hi6
 obtain ⟨_,_,rfl,hi8⟩:=Zal hi7
 obtain ⟨x8,rfl,hi9⟩:=Zbf hi8
 obtain ⟨_,_,rfl,hi10⟩:=Zal hi9
 obtain ⟨x9,rfl,hi11⟩:=Zbf hi10
 obtain ⟨rfl,hi12⟩:=Zbw hi11
 have hi:=hi12
 exact ⟨i1,o1,x3,a7,n7,c7,e7,x8,x9,rfl,hi⟩
def K0 (Q:QT):KT:=andThen (fun env' h'=>(match kp.find 4000007 with | some ks=>Den pg fn.ntmps (C [1,1,1]) (env'.keep ks) h' (KR Q) | none=>den pg fn.ntmps kp (C [1,1,1]) env' h' (KR Q))) (KR Q)
def K1 (Q:QT):KT:=Zdm 0 (K0 Q)
def K2 (Q:QT):KT:=left kp 3 (K1 Q)
def K3 (Q:QT) (R3:T3):KT:=rnd ((kp.find 1000003).getD []) (E3 R3) (K2 Q)
def L3 (Q:QT) (i1 o1:Nat) (x3:Int) (a7:Pt) (n7 c7:Nat) (e7:Bool) (x8 x9:Int) (h:Zaa):Prop:=Zga (Den pg fn.ntmps (C [1,1,0,1,0,0])) ((kp.find 1000003).getD []) (K2 Q) [(1,.ptr (i1,o1)),(3,.int .i64 x3),(7,.slice a7 n7 c7 e7),(8,.int .i64 x8),(9,.int .i64 x9)] h
def Zyg (Q:QT) (i1 o1:Nat) (x3:Int) (h:Zaa):Prop:=At (K1 Q) (.exit 0) [(1,.ptr (i1,o1)),(3,.int .i64 x3)] h
def J9 (Q:QT) (x3:Int) (h:Zaa):Prop:=Den pg fn.ntmps (C [1,1,1,1]) [(3,.int .i64 x3)] h (KR Q)
def L3t (Q:QT) (R3:T3) (i1 o1:Nat) (x3:Int) (a7:Pt) (n7 c7:Nat) (e7:Bool) (x8 x9:Int) (h:Zaa):Prop:=
 bcase (decide ((x9:Int) < x8)) ((0≤(x9:Int)∧(x9:Int) < (n7:Nat))∧(Zaw a7 fun A B=>Zcv (Zcl h (.ptr (A,B + (Int.toNat x9) * 2)) 2) fun A=>Zah A fun A B=>Zbo .u8 A fun A=>Zah B fun B C=>xSl B fun B D E F=>Zco C (Zfh (h ++ [.cells Zab [.int .u8 0,.slice none 0 0 true] false]) fun C=>Zcf (Zbc C (.ptr (h.length,0)) [.int .u8 A,.slice B D E F]) fun A=>Zcv (Zcl A (.ptr (h.length,0)) 2) fun B=>Zah B fun B C=>Zbo .u8 B fun B=>Zah C fun C D=>xSl C fun C E F G=>Zco D (Zad pg Zff [.agg [.int .u8 B,.slice C E F G]] A fun A B=>
 Zbo .i64 A fun A=>R3 i1 o1 (IntKind.wrap .i64 ((IntKind.wrap .i64 (x3 + 1)) + A)) a7 n7 c7 e7 x8 (IntKind.wrap .i64 (x9 + 1)) B)))) (Zyg Q i1 o1 x3 h)
theorem Zsj (Q:QT) (R3:T3) (i1 o1:Nat) (x3:Int) (a7:Pt) (n7 c7:Nat) (e7:Bool) (x8 x9:Int) (h:Zaa) (ht:L3t Q R3 i1 o1 x3 a7 n7 c7 e7 x8 x9 h):Den pg fn.ntmps (C [1,1,0,1,0,0]) [(1,.ptr (i1,o1)),(3,.int .i64 x3),(7,.slice a7 n7 c7 e7),(8,.int .i64 x8),(9,.int .i64 x9)] h (K3 Q R3):=
 Zbb (kp:=kp) (cast (by kernel_rfl) ht)
theorem L3ind (Q:QT) (i1 o1:Nat) (a7:Pt) (n7 c7:Nat) (e7:Bool) (x8:Int) {G:Type} (J:G→Int→Int→Zaa→Prop) (m:G→Nat)
 (hr:∀ (g:G) (x3 x9:Int) (h:Zaa),J g x3 x9 h→∀ (R3:T3),(∀ g' (x3 x9:Int) (h:Zaa),m g' < m g→J g' x3 x9 h→R3 i1 o1 x3 a7 n7 c7 e7 x8 x9 h)→L3t Q R3 i1 o1 x3 a7 n7 c7 e7 x8 x9 h)
 (g:G) (x3 x9:Int) (h:Zaa) (hj:J g x3 x9 h):L3 Q i1 o1 x3 a7 n7 c7 e7 x8 x9 h:=by
 let P:=fun (K:Int→Int→Zaa→Prop) i1' o1' x3 a7' n7' c7' e7' x8' x9 h=>i1=i1'∧o1=o1'∧a7=a7'∧n7=n7'∧c7=c7'∧e7=e7'∧x8=x8'∧K x3 x9 h
 refine Zga.inv2 (fun g=>E3 (P (J g))) (fun g=>E3 (P fun x3 x9 h=>∃ g',m g' < m g∧J g' x3 x9 h)) m ?_ ?_ g ⟨rfl,rfl,rfl,rfl,rfl,rfl,rfl,hj⟩
 ·intro g env h hi
  obtain ⟨i1',o1',x3,a7',n7',c7',e7',x8',x9,rfl,rfl,rfl,rfl,rfl,rfl,rfl,rfl,hj⟩:=Zio hi
  exact Zsj Q _ i1 o1 x3 a7 n7 c7 e7 x8 x9 h (hr g x3 x9 h hj (P fun x3 x9 h=>∃ g',m g' < m g∧J g' x3 x9 h) fun g' x3 x9 h hlt hj=>⟨rfl,rfl,rfl,rfl,rfl,rfl,rfl,g',hlt,hj⟩)
 ·intro g env h hi
  obtain ⟨i1',o1',x3,a7',n7',c7',e7',x8',x9,rfl,rfl,rfl,rfl,rfl,rfl,rfl,rfl,g',hlt,hj⟩:=Zio hi
  exact ⟨g',hlt,rfl,rfl,rfl,rfl,rfl,rfl,rfl,hj⟩
theorem A3x0i (Q:QT) (i1 o1:Nat) (x3:Int) (h:Zaa) (ht :
 xSl (Zaj h (.ptr (i1,o1 + 1))) fun A A B B=>bcase (decide (((((A:Nat):Int)):Int) > 0)) (J9 Q (IntKind.wrap .i64 (x3 + 1)) h) (J9 Q x3 h)):Zyg Q i1 o1 x3 h:=
 At.mk (cast (by kernel_rfl) ht)
theorem J9i (Q:QT) (x3:Int) (h:Zaa) (ht :
 Q (.int .i64 x3) h):J9 Q x3 h:=
 Zbb (kp:=kp) (cast (by kernel_rfl) ht)
theorem call (x0x0:Int) (a0x1:Pt) (n0x1 c0x1:Nat) (e0x1:Bool) (h:Zaa) (Q:QT) (ht :
 Zfh (h ++ [.cells Zab [.int .u8 x0x0,.slice a0x1 n0x1 c0x1 e0x1] false]) fun A=>xSl (Zaj A (.ptr (h.length,0 + 1))) fun B C D E=>L3 Q h.length 0 1 B C D E (((C:Nat):Int)) 0 A):Zad pg Zff [.agg [.int .u8 x0x0,.slice a0x1 n0x1 c0x1 e0x1]] h Q:=
 Zad.of_body kp (c:=cod fn) (fn:=fn) Go.Proofs.Try.func99 (by kernel_rfl) (by kernel_rfl) (Nat.le_of_ble_eq_true (by kernel_rfl))
  (cast (by kernel_rfl) ht)
end Zct
namespace Zcs
noncomputable abbrev fn:Func:=Go.Proofs.Try.f54
def kp:Zcz:=[(3000003,[4,2,3]),(1000003,[4,8,10]),(2000004,[6,5,10,8,4]),(4000006,[6,4,5,10,8]),(2000008,[10,8,4]),(4000009,[10,8,4])]
noncomputable def C (p:List Nat):Code:=(cod fn).sub p
def KR (Q:QT):KT:=Zik pg fn.results.toList Q
abbrev T3:=Pt→Nat→Nat→Bool→Pt→Int→Zaa→Prop
def E3 (R3:T3) (env:Env) (h:Zaa):Prop:=Zdc 4 env fun v env=>xSl v fun a4 n4 c4 e4=>Zdc 8 env fun v env=>Zeu v fun a8=>Zdc 10 env fun v env=>Zhy .i64 v fun x10=>Zmq env (R3 a4 n4 c4 e4 a8 x10 h)
theorem Zio {R3:T3} {env:Env} {h:Zaa} (hi:E3 R3 env h):∃ a4,∃ n4,∃ c4,∃ e4,∃ a8,∃ x10,env=[(4,.slice a4 n4 c4 e4),(8,.ptr a8),(10,.int .i64 x10)]∧R3 a4 n4 c4 e4 a8 x10 h:=by
 unfold E3 at hi
 repeat ((first | (have k:=Zal hi; clear hi; obtain ⟨_,_,e,hi⟩:=k) | (have k:=Zem hi; clear hi; obtain ⟨_,_,_,_,e,hi⟩:=k) | (have k:=Zbf hi; clear hi; obtain ⟨_,e,hi⟩:=k) | (have k:=Zbq hi; clear hi; obtain ⟨_,e,hi⟩:=k)); subst e)
 obtain ⟨rfl,hi⟩:=Zbw hi
 exact ⟨_,_,_,_,_,_,rfl,hi⟩
def K0 (Q:QT):KT:=andThen (fun env' h'=>(match kp.find 4000010 with | some ks=>Den pg fn.ntmps (C [1,1,1]) (env'.keep ks) h' (KR Q) | none=>den pg fn.ntmps kp (C [1,1,1]) env' h' (KR Q))) (KR Q)
def K1 (Q:QT):KT:=Zdm 0 (K0 Q)
def K2 (Q:QT):KT:=left kp 3 (K1 Q)
def K3 (Q:QT) (R3:T3):KT:=rnd ((kp.find 1000003).getD []) (E3 R3) (K2 Q)
def K4 (Q:QT) (R3:T3):KT:=andThen (fun env' h'=>(match kp.find 4000009 with | some ks=>Den pg fn.ntmps (C [1,1,0,1,0,0,1,1,1]) (env'.keep ks) h' (K3 Q R3) | none=>den pg fn.ntmps kp (C [1,1,0,1,0,0,1,1,1]) env' h' (K3 Q R3))) (K3 Q R3)
def K5 (Q:QT) (R3:T3):KT:=Zdm 1 (K4 Q R3)
def L3 (Q:QT) (a4:Pt) (n4 c4:Nat) (e4:Bool) (a8:Pt) (x10:Int) (h:Zaa):Prop:=Zga (Den pg fn.ntmps (C [1,1,0,1,0,0])) ((kp.find 1000003).getD []) (K2 Q) [(4,.slice a4 n4 c4 e4),(8,.ptr a8),(10,.int .i64 x10)] h
def J9 (Q:QT) (R3:T3) (x10:Int) (a8 a4:Pt) (n4 c4:Nat) (e4:Bool) (h:Zaa):Prop:=Den pg fn.ntmps (C [1,1,0,1,0,0,1,1,1]) [(10,.int .i64 x10),(8,.ptr a8),(4,.slice a4 n4 c4 e4)] h (K3 Q R3)
def J6 (Q:QT) (R3:T3) (i6 o6:Nat) (a4:Pt) (n4 c4:Nat) (e4:Bool) (x5 x10:Int) (a8:Pt) (h:Zaa):Prop:=Den pg fn.ntmps (C [1,1,0,1,0,0,1,1,0,0,1,1]) [(6,.ptr (i6,o6)),(4,.slice a4 n4 c4 e4),(5,.int .i64 x5),(10,.int .i64 x10),(8,.ptr a8)] h (K5 Q R3)
def Zyg (Q:QT) (a4:Pt) (n4 c4:Nat) (e4:Bool) (h:Zaa):Prop:=At (K1 Q) (.exit 0) [(4,.slice a4 n4 c4 e4),(2,.undef),(3,.undef)] h
def L3t (Q:QT) (R3:T3) (a4:Pt) (n4 c4:Nat) (e4:Bool) (a8:Pt) (x10:Int) (h:Zaa):Prop:=
 bcase (decide ((x10:Int) < 12)) (Zaw a8 fun A B=>(0≤(x10:Int)∧(x10:Int) < (12:Nat))∧(Zcv (Zcl h (.ptr (A,B + (Int.toNat x10) * 2)) 2) fun C=>Zah C fun C D=>Zbo .u8 C fun C=>Zah D fun D E=>xSl D fun D F G H=>Zco E (Zfh (h ++ [.cells Zab [.int .u8 0,.slice none 0 0 true] false]) fun E=>(Zcl E (.ptr (A,B + (Int.toNat x10) * 2)) 2=Zcl h (.ptr (A,B + (Int.toNat x10) * 2)) 2)∧Zcf (Zbc E (.ptr (h.length,0)) [.int .u8 C,.slice D F G H]) fun A=>Zbo .u8 (Zaj A (.ptr (h.length,0 + 0))) fun B=>bcase ((B:Int) == 0) (J9 Q R3 x10 a8 a4 n4 c4 e4 A) (bcase (decide ((x10:Int) ≥ 6)) (J9 Q R3 x10 a8 a4 n4 c4 e4 A) (J6 Q R3 h.length 0 a4 n4 c4 e4 x10 x10 a8 A))))) (Zyg Q a4 n4 c4 e4 h)
theorem Zsj (Q:QT) (R3:T3) (a4:Pt) (n4 c4:Nat) (e4:Bool) (a8:Pt) (x10:Int) (h:Zaa) (ht:L3t Q R3 a4 n4 c4 e4 a8 x10 h):Den pg fn.ntmps (C [1,1,0,1,0,0]) [(4,.slice a4 n4 c4 e4),(8,.ptr a8),(10,.int .i64 x10)] h (K3 Q R3):=
 Zbb (kp:=kp) (cast (by kernel_rfl) ht)
theorem L3ind (Q:QT) (a8:Pt) {G:Type} (J:G→Pt→Nat→Nat→Bool→Int→Zaa→Prop) (m:G→Nat)
 (hr:∀ (g:G) (a4:Pt) (n4 c4:Nat) (e4:Bool) (x10:Int) (h:Zaa),J g a4 n4 c4 e4 x10 h→∀ (R3:T3),(∀ g' (a4:Pt) (n4 c4:Nat) (e4:Bool) (x10:Int) (h:Zaa),m g' < m g→J g' a4 n4 c4 e4 x10 h→R3 a4 n4 c4 e4 a8 x10 h)→L3t Q R3 a4 n4 c4 e4 a8 x10 h)
 (g:G) (a4:Pt) (n4 c4:Nat) (e4:Bool) (x10:Int) (h:Zaa) (hj:J g a4 n4 c4 e4 x10 h):L3 Q a4 n4 c4 e4 a8 x10 h:=by
 let P:=fun (K:Pt→Nat→Nat→Bool→Int→Zaa→Prop) a4 n4 c4 e4 a8' x10 h=>a8=a8'∧K a4 n4 c4 e4 x10 h
 refine Zga.inv2 (fun g=>E3 (P (J g))) (fun g=>E3 (P fun a4 n4 c4 e4 x10 h=>∃ g',m g' < m g∧J g' a4 n4 c4 e4 x10 h)) m ?_ ?_ g ⟨rfl,hj⟩
 ·intro g env h hi
  obtain ⟨a4,n4,c4,e4,a8',x10,rfl,rfl,hj⟩:=Zio hi
  exact Zsj Q _ a4 n4 c4 e4 a8 x10 h (hr g a4 n4 c4 e4 x10 h hj (P fun a4 n4 c4 e4 x10 h=>∃ g',m g' < m g∧J g' a4 n4 c4 e4 x10 h) fun g' a4 n4 c4 e4 x10 h hlt hj=>⟨rfl,g',hlt,hj⟩)
 ·intro g env h hi
  obtain ⟨a4,n4,c4,e4,a8',x10,rfl,rfl,g',hlt,hj⟩:=Zio hi
  exact ⟨g',hlt,rfl,hj⟩
theorem J9i (Q:QT) (R3:T3) (x10:Int) (a8 a4:Pt) (n4 c4:Nat) (e4:Bool) (h:Zaa) (ht :
 R3 a4 n4 c4 e4 a8 (IntKind.wrap .i64 (x10 + 1)) h):J9 Q R3 x10 a8 a4 n4 c4 e4 h:=
 Zbb (kp:=kp) (cast (by kernel_rfl) ht)
theorem J6i (Q:QT) (R3:T3) (i6 o6:Nat) (a4:Pt) (n4 c4:Nat) (e4:Bool) (x5 x10:Int) (a8:Pt) (h:Zaa) (ht :
 Zcv (Zcl h (.ptr (i6,o6)) 2) fun A=>Zah A fun A B=>Zbo .u8 A fun A=>Zah B fun B C=>xSl B fun B D E F=>Zco C (Zad pg Zff [.agg [.int .u8 A,.slice B D E F]] h fun A B=>
 Zbo .i64 A fun A=>bcase (decide ((A:Int) > 60)) (Zfh (B ++ [.cells Zap [] false]) fun A=>Q (.tup [.slice (B.length,0) 0 0 true,.bool false]) A) ((0≤(x5:Int)∧(x5:Int)≤IntKind.wrap .i64 (x5 + 1)∧(IntKind.wrap .i64 (x5 + 1):Int)≤(List.length ([88,89,90,120,121,122,49,50,51,52,53,54]):Nat))∧(Zcv (Zcl B (.ptr (i6,o6)) 2) fun A=>Zah A fun A C=>Zbo .u8 A fun A=>Zah C fun C D=>xSl C fun C E F G=>Zco D (Zad pg Zgj [.agg [.int .u8 A,.slice C E F G]] B fun A B=>
 Zep A fun A=>Zfh (B ++ [.cells Zap [.str (sub ([88,89,90,120,121,122,49,50,51,52,53,54]) x5 (IntKind.wrap .i64 (x5 + 1))),.str A] false]) fun A=>Zdk pg Zfw A (.slice a4 n4 c4 e4) (.slice (B.length,0) 1 1 true) fun A B=>xSl A fun A C D E=>J9 Q R3 x10 a8 A C D E B))))):J6 Q R3 i6 o6 a4 n4 c4 e4 x5 x10 a8 h:=
 Zbb (kp:=kp) (cast (by kernel_rfl) ht)
theorem A3x0i (Q:QT) (a4:Pt) (n4 c4:Nat) (e4:Bool) (h:Zaa) (ht :
 Q (.tup [.slice a4 n4 c4 e4,.bool true]) h):Zyg Q a4 n4 c4 e4 h:=
 At.mk (cast (by kernel_rfl) ht)
theorem call (a0:Pt) (h:Zaa) (Q:QT) (ht :
 Zfh (h ++ [.cells Zap [] false]) fun A=>Zaw a0 fun B B=>L3 Q (h.length,0) 0 0 true a0 0 A):Zad pg Zhz [.ptr a0] h Q:=
 Zad.of_body kp (c:=cod fn) (fn:=fn) Go.Proofs.Try.func54 (by kernel_rfl) (by kernel_rfl) (Nat.le_of_ble_eq_true (by kernel_rfl))
  (cast (by kernel_rfl) ht)
end Zcs
end Go.Sim

set_option maxRecDepth 100000
set_option maxHeartbeats 0
set_option linter.unusedVariables false
namespace Go.Sim
open Go Go.RowKit
namespace Zjq
noncomputable abbrev fn:Func:=Go.Proofs.Try.f113
def kp:Zcz:=[]
noncomputable def C (p:List Nat):Code:=(cod fn).sub p
def KR (Q:QT):KT:=Zik pg fn.results.toList Q
theorem call (x0:Int) (h:Zaa) (Q:QT) (ht :
 Zad pg Zfs [.str ([88,89,90,120,121,122,49,50,51,52,53,54]),.int .u8 x0] h fun A B=>
 Zbo .i64 A fun A=>Q (.int .i64 A) B):Zad pg Zdy [.int .u8 x0] h Q:=
 Zad.of_body kp (c:=cod fn) (fn:=fn) Go.Proofs.Try.func113 (by kernel_rfl) (by kernel_rfl) (Nat.le_of_ble_eq_true (by kernel_rfl))
  (cast (by kernel_rfl) ht)
end Zjq
end Go.Sim

set_option maxRecDepth 100000
set_option maxHeartbeats 0
set_option linter.unusedVariables false
namespace Go.Sim
open Go Go.RowKit
namespace Zeg
noncomputable abbrev fn:Func:=Go.Proofs.Try.f61
def kp:Zcz:=[(3000003,[3]),(1000003,[0,3,9,10,11])]
noncomputable def C (p:List Nat):Code:=(cod fn).sub p
def KR (Q:QT):KT:=Zik pg fn.results.toList Q
abbrev T3:=Option Nat→Pt→Nat→Nat→Bool→Pt→Nat→Nat→Bool→Int→Int→Zaa→Prop
def E3 (R3:T3) (env:Env) (h:Zaa):Prop:=Zdc 0 env fun v env=>Ztx v fun m0=>Zdc 3 env fun v env=>xSl v fun a3 n3 c3 e3=>Zdc 9 env fun v env=>xSl v fun a9 n9 c9 e9=>Zdc 10 env fun v env=>Zhy .i64 v fun x10=>Zdc 11 env fun v env=>Zhy .i64 v fun x11=>Zmq env (R3 m0 a3 n3 c3 e3 a9 n9 c9 e9 x10 x11 h)
theorem Zio {R3:T3} {env:Env} {h:Zaa} (hi:E3 R3 env h):∃ m0,∃ a3,∃ n3,∃ c3,∃ e3,∃ a9,∃ n9,∃ c9,∃ e9,∃ x10,∃ x11,env=[(0,.map m0),(3,.slice a3 n3 c3 e3),(9,.slice a9 n9 c9 e9),(10,.int .i64 x10),(11,.int .i64 x11)]∧R3 m0 a3 n3 c3 e3 a9 n9 c9 e9 x10 x11 h:=by
 unfold E3 at hi
 repeat ((first | (have k:=Zal hi; clear hi; obtain ⟨_,_,e,hi⟩:=k) | (have k:=Zem hi; clear hi; obtain ⟨_,_,_,_,e,hi⟩:=k) | (have k:=Zkr hi; clear hi; obtain ⟨_,e,hi⟩:=k) | (have k:=Zbf hi; clear hi; obtain ⟨_,e,hi⟩:=k)); subst e)
 obtain ⟨rfl,hi⟩:=Zbw hi
 exact ⟨_,_,_,_,_,_,_,_,_,_,_,rfl,hi⟩
def K0 (Q:QT):KT:=andThen (fun env' h'=>(match kp.find 4000007 with | some ks=>Den pg fn.ntmps (C [1,1,1]) (env'.keep ks) h' (KR Q) | none=>den pg fn.ntmps kp (C [1,1,1]) env' h' (KR Q))) (KR Q)
def K1 (Q:QT):KT:=Zdm 0 (K0 Q)
def K2 (Q:QT):KT:=left kp 3 (K1 Q)
def K3 (Q:QT) (R3:T3):KT:=rnd ((kp.find 1000003).getD []) (E3 R3) (K2 Q)
def L3 (Q:QT) (m0:Option Nat) (a3:Pt) (n3 c3:Nat) (e3:Bool) (a9:Pt) (n9 c9:Nat) (e9:Bool) (x10 x11:Int) (h:Zaa):Prop:=Zga (Den pg fn.ntmps (C [1,1,0,1,0,0])) ((kp.find 1000003).getD []) (K2 Q) [(0,.map m0),(3,.slice a3 n3 c3 e3),(9,.slice a9 n9 c9 e9),(10,.int .i64 x10),(11,.int .i64 x11)] h
def Zyg (Q:QT) (a3:Pt) (n3 c3:Nat) (e3:Bool) (h:Zaa):Prop:=At (K1 Q) (.exit 0) [(3,.slice a3 n3 c3 e3)] h
def L3t (Q:QT) (R3:T3) (m0:Option Nat) (a3:Pt) (n3 c3:Nat) (e3:Bool) (a9:Pt) (n9 c9:Nat) (e9:Bool) (x10 x11:Int) (h:Zaa):Prop:=
 bcase (decide ((x11:Int) < x10)) ((0≤(x11:Int)∧(x11:Int) < (n9:Nat))∧(Zaw a9 fun A B=>Zep (Zaj h (.ptr (A,B + (Int.toNat x11) * 1))) fun A=>Zbl h m0 fun es_13 k_14=>Zlm es_13 A fun B=>Zep (some (Option.getD B (.str []))) fun B=>Zfh (h ++ [.cells Zap [.str A,.str B] false]) fun A=>Zdk pg Zfw A (.slice a3 n3 c3 e3) (.slice (h.length,0) 1 1 true) fun A B=>xSl A fun A C D E=>R3 m0 A C D E a9 n9 c9 e9 x10 (IntKind.wrap .i64 (x11 + 1)) B)) (Zyg Q a3 n3 c3 e3 h)
theorem Zsj (Q:QT) (R3:T3) (m0:Option Nat) (a3:Pt) (n3 c3:Nat) (e3:Bool) (a9:Pt) (n9 c9:Nat) (e9:Bool) (x10 x11:Int) (h:Zaa) (ht:L3t Q R3 m0 a3 n3 c3 e3 a9 n9 c9 e9 x10 x11 h):Den pg fn.ntmps (C [1,1,0,1,0,0]) [(0,.map m0),(3,.slice a3 n3 c3 e3),(9,.slice a9 n9 c9 e9),(10,.int .i64 x10),(11,.int .i64 x11)] h (K3 Q R3):=
 Zbb (kp:=kp) (cast (by kernel_rfl) ht)
theorem L3ind (Q:QT) (m0:Option Nat) (a9:Pt) (n9 c9:Nat) (e9:Bool) (x10:Int) {G:Type} (J:G→Pt→Nat→Nat→Bool→Int→Zaa→Prop) (m:G→Nat)
 (hr:∀ (g:G) (a3:Pt) (n3 c3:Nat) (e3:Bool) (x11:Int) (h:Zaa),J g a3 n3 c3 e3 x11 h→∀ (R3:T3),(∀ g' (a3:Pt) (n3 c3:Nat) (e3:Bool) (x11:Int) (h:Zaa),m g' < m g→J g' a3 n3 c3 e3 x11 h→R3 m0 a3 n3 c3 e3 a9 n9 c9 e9 x10 x11 h)→L3t Q R3 m0 a3 n3 c3 e3 a9 n9 c9 e9 x10 x11 h)
 (g:G) (a3:Pt) (n3 c3:Nat) (e3:Bool) (x11:Int) (h:Zaa) (hj:J g a3 n3 c3 e3 x11 h):L3 Q m0 a3 n3 c3 e3 a9 n9 c9 e9 x10 x11 h:=by
 let P:=fun (K:Pt→Nat→Nat→Bool→Int→Zaa→Prop) m0' a3 n3 c3 e3 a9' n9' c9' e9' x10' x11 h=>m0=m0'∧a9=a9'∧n9=n9'∧c9=c9'∧e9=e9'∧x10=x10'∧K a3 n3 c3 e3 x11 h
 refine Zga.inv2 (fun g=>E3 (P (J g))) (fun g=>E3 (P fun a3 n3 c3 e3 x11 h=>∃ g',m g' < m g∧J g' a3 n3 c3 e3 x11 h)) m ?_ ?_ g ⟨rfl,rfl,rfl,rfl,rfl,rfl,hj⟩
 ·intro g env h hi
  obtain ⟨m0',a3,n3,c3,e3,a9',n9',c9',e9',x10',x11,rfl,rfl,rfl,rfl,rfl,rfl,rfl,hj⟩:=Zio hi
  exact Zsj Q _ m0 a3 n3 c3 e3 a9 n9 c9 e9 x10 x11 h (hr g a3 n3 c3 e3 x11 h hj (P fun a3 n3 c3 e3 x11 h=>∃ g',m g' < m g∧J g' a3 n3 c3 e3 x11 h) fun g' a3 n3 c3 e3 x11 h hlt hj=>⟨rfl,rfl,rfl,rfl,rfl,rfl,g',hlt,hj⟩)
 ·intro g env h hi
  obtain ⟨m0',a3,n3,c3,e3,a9',n9',c9',e9',x10',x11,rfl,rfl,rfl,rfl,rfl,rfl,rfl,g',hlt,hj⟩:=Zio hi
  exact ⟨g',hlt,rfl,rfl,rfl,rfl,rfl,rfl,hj⟩
theorem A3x0i (Q:QT) (a3:Pt) (n3 c3:Nat) (e3:Bool) (h:Zaa) (ht :
 Q (.slice a3 n3 c3 e3) h):Zyg Q a3 n3 c3 e3 h:=
 At.mk (cast (by kernel_rfl) ht)
theorem call (m0:Option Nat) (h:Zaa) (Q:QT) (ht :
 Zfh (h ++ [.cells Zap [] false]) fun A=>Zad pg Zce [.map m0] A fun A B=>
 Zol A fun A=>Zad pg Zfm [A] B fun A B=>
 xSl A fun A C D E=>L3 Q m0 (h.length,0) 0 0 true A C D E (((C:Nat):Int)) 0 B):Zad pg Zgr [.map m0] h Q:=
 Zad.of_body kp (c:=cod fn) (fn:=fn) Go.Proofs.Try.func61 (by kernel_rfl) (by kernel_rfl) (Nat.le_of_ble_eq_true (by kernel_rfl))
  (cast (by kernel_rfl) ht)
end Zeg
end Go.Sim

set_option maxRecDepth 100000
set_option maxHeartbeats 0
set_option linter.unusedVariables false
namespace Go.Sim
open Go Go.RowKit
end Go.Sim

set_option maxRecDepth 100000
set_option maxHeartbeats 0
set_option linter.unusedVariables false
namespace Go.Sim
open Go Go.RowKit
namespace Zdu
noncomputable abbrev fn:Func:=Go.Proofs.Try.f100
def kp:Zcz:=[(3000003,[1,3]),(1000003,[1,3,11,12,13]),(2000005,[13,12,11,3,1]),(4000009,[3])]
noncomputable def C (p:List Nat):Code:=(cod fn).sub p
def KR (Q:QT):KT:=Zik pg fn.results.toList Q
abbrev T3:=Nat→Nat→List Nat→Pt→Nat→Nat→Bool→Int→Int→Zaa→Prop
def E3 (R3:T3) (env:Env) (h:Zaa):Prop:=Zdc 1 env fun v env=>Zeu v fun a=>Zaw a fun i1 o1=>Zdc 3 env fun v env=>Zep v fun x3=>Zdc 11 env fun v env=>xSl v fun a11 n11 c11 e11=>Zdc 12 env fun v env=>Zhy .i64 v fun x12=>Zdc 13 env fun v env=>Zhy .i64 v fun x13=>Zmq env (R3 i1 o1 x3 a11 n11 c11 e11 x12 x13 h)
theorem Zio {R3:T3} {env:Env} {h:Zaa} (hi:E3 R3 env h):∃ i1,∃ o1,∃ x3,∃ a11,∃ n11,∃ c11,∃ e11,∃ x12,∃ x13,env=[(1,.ptr (i1,o1)),(3,.str x3),(11,.slice a11 n11 c11 e11),(12,.int .i64 x12),(13,.int .i64 x13)]∧R3 i1 o1 x3 a11 n11 c11 e11 x12 x13 h:=by
 unfold E3 at hi
 have hi0:=hi
 clear hi
 obtain ⟨_,_,rfl,hi1⟩:=Zal hi0
 obtain ⟨a,rfl,hi2⟩:=Zbq hi1
 obtain ⟨i1,o1,rfl,hi3⟩:=Zbr hi2
 obtain ⟨_,_,rfl,hi4⟩:=Zal hi3
 obtain ⟨x3,rfl,hi5⟩:=Ziu hi4
 obtain ⟨_,_,rfl,hi6⟩:=Zal hi5
 obtain ⟨a11,n11,c11,e11,rfl,hi7⟩:=Zem hi6
 obtain ⟨_,_,rfl,hi8⟩:=Zal hi7
 obtain ⟨x12,rfl,hi9⟩:=Zbf hi8
 obtain ⟨_,_,rfl,hi10⟩:=Zal hi9
 obtain ⟨x13,rfl,hi11⟩:=Zbf hi10
 obtain ⟨rfl,hi12⟩:=Zbw hi11
 have hi:=hi12
 exact ⟨i1,o1,x3,a11,n11,c11,e11,x12,x13,rfl,hi⟩
def K0 (Q:QT):KT:=andThen (fun env' h'=>(match kp.find 4000007 with | some ks=>Den pg fn.ntmps (C [1,1,1]) (env'.keep ks) h' (KR Q) | none=>den pg fn.ntmps kp (C [1,1,1]) env' h' (KR Q))) (KR Q)
def K1 (Q:QT):KT:=Zdm 0 (K0 Q)
def K2 (Q:QT):KT:=left kp 3 (K1 Q)
def K3 (Q:QT) (R3:T3):KT:=rnd ((kp.find 1000003).getD []) (E3 R3) (K2 Q)
def L3 (Q:QT) (i1 o1:Nat) (x3:List Nat) (a11:Pt) (n11 c11:Nat) (e11:Bool) (x12 x13:Int) (h:Zaa):Prop:=Zga (Den pg fn.ntmps (C [1,1,0,1,0,0])) ((kp.find 1000003).getD []) (K2 Q) [(1,.ptr (i1,o1)),(3,.str x3),(11,.slice a11 n11 c11 e11),(12,.int .i64 x12),(13,.int .i64 x13)] h
def Zyg (Q:QT) (i1 o1:Nat) (x3:List Nat) (h:Zaa):Prop:=At (K1 Q) (.exit 0) [(1,.ptr (i1,o1)),(3,.str x3)] h
def J9 (Q:QT) (x3:List Nat) (h:Zaa):Prop:=Den pg fn.ntmps (C [1,1,1,1]) [(3,.str x3)] h (KR Q)
def L3t (Q:QT) (R3:T3) (i1 o1:Nat) (x3:List Nat) (a11:Pt) (n11 c11:Nat) (e11:Bool) (x12 x13:Int) (h:Zaa):Prop:=
 bcase (decide ((x13:Int) < x12)) ((0≤(x13:Int)∧(x13:Int) < (n11:Nat))∧(Zaw a11 fun A B=>Zcv (Zcl h (.ptr (A,B + (Int.toNat x13) * 2)) 2) fun A=>Zah A fun A B=>Zbo .u8 A fun A=>Zah B fun B C=>xSl B fun B D E F=>Zco C (Zfh (h ++ [.cells Zab [.int .u8 0,.slice none 0 0 true] false]) fun C=>Zcf (Zbc C (.ptr (h.length,0)) [.int .u8 A,.slice B D E F]) fun A=>(0≤(x13:Int)∧(x13:Int)≤IntKind.wrap .i64 (x13 + 1)∧(IntKind.wrap .i64 (x13 + 1):Int)≤(List.length ([40,44]):Nat))∧(List.length x3 + List.length (sub ([40,44]) x13 (IntKind.wrap .i64 (x13 + 1)))≤9223372036854775807∧(Zcv (Zcl A (.ptr (h.length,0)) 2) fun B=>Zah B fun B C=>Zbo .u8 B fun B=>Zah C fun C D=>xSl C fun C E F G=>Zco D (Zad pg Zgj [.agg [.int .u8 B,.slice C E F G]] A fun A B=>
 Zep A fun A=>List.length (x3 ++ (sub ([40,44]) x13 (IntKind.wrap .i64 (x13 + 1)))) + List.length A≤9223372036854775807∧(R3 i1 o1 ((x3 ++ (sub ([40,44]) x13 (IntKind.wrap .i64 (x13 + 1)))) ++ A) a11 n11 c11 e11 x12 (IntKind.wrap .i64 (x13 + 1)) B))))))) (Zyg Q i1 o1 x3 h)
theorem Zsj (Q:QT) (R3:T3) (i1 o1:Nat) (x3:List Nat) (a11:Pt) (n11 c11:Nat) (e11:Bool) (x12 x13:Int) (h:Zaa) (ht:L3t Q R3 i1 o1 x3 a11 n11 c11 e11 x12 x13 h):Den pg fn.ntmps (C [1,1,0,1,0,0]) [(1,.ptr (i1,o1)),(3,.str x3),(11,.slice a11 n11 c11 e11),(12,.int .i64 x12),(13,.int .i64 x13)] h (K3 Q R3):=
 Zbb (kp:=kp) (cast (by kernel_rfl) ht)
theorem L3ind (Q:QT) (i1 o1:Nat) (a11:Pt) (n11 c11:Nat) (e11:Bool) (x12:Int) {G:Type} (J:G→List Nat→Int→Zaa→Prop) (m:G→Nat)
 (hr:∀ (g:G) (x3:List Nat) (x13:Int) (h:Zaa),J g x3 x13 h→∀ (R3:T3),(∀ g' (x3:List Nat) (x13:Int) (h:Zaa),m g' < m g→J g' x3 x13 h→R3 i1 o1 x3 a11 n11 c11 e11 x12 x13 h)→L3t Q R3 i1 o1 x3 a11 n11 c11 e11 x12 x13 h)
 (g:G) (x3:List Nat) (x13:Int) (h:Zaa) (hj:J g x3 x13 h):L3 Q i1 o1 x3 a11 n11 c11 e11 x12 x13 h:=by
 let P:=fun (K:List Nat→Int→Zaa→Prop) i1' o1' x3 a11' n11' c11' e11' x12' x13 h=>i1=i1'∧o1=o1'∧a11=a11'∧n11=n11'∧c11=c11'∧e11=e11'∧x12=x12'∧K x3 x13 h
 refine Zga.inv2 (fun g=>E3 (P (J g))) (fun g=>E3 (P fun x3 x13 h=>∃ g',m g' < m g∧J g' x3 x13 h)) m ?_ ?_ g ⟨rfl,rfl,rfl,rfl,rfl,rfl,rfl,hj⟩
 ·intro g env h hi
  obtain ⟨i1',o1',x3,a11',n11',c11',e11',x12',x13,rfl,rfl,rfl,rfl,rfl,rfl,rfl,rfl,hj⟩:=Zio hi
  exact Zsj Q _ i1 o1 x3 a11 n11 c11 e11 x12 x13 h (hr g x3 x13 h hj (P fun x3 x13 h=>∃ g',m g' < m g∧J g' x3 x13 h) fun g' x3 x13 h hlt hj=>⟨rfl,rfl,rfl,rfl,rfl,rfl,rfl,g',hlt,hj⟩)
 ·intro g env h hi
  obtain ⟨i1',o1',x3,a11',n11',c11',e11',x12',x13,rfl,rfl,rfl,rfl,rfl,rfl,rfl,rfl,g',hlt,hj⟩:=Zio hi
  exact ⟨g',hlt,rfl,rfl,rfl,rfl,rfl,rfl,rfl,hj⟩
theorem A3x0i (Q:QT) (i1 o1:Nat) (x3:List Nat) (h:Zaa) (ht :
 xSl (Zaj h (.ptr (i1,o1 + 1))) fun A A B B=>bcase (decide (((((A:Nat):Int)):Int) > 0)) (List.length x3 + List.length [41]≤9223372036854775807∧(J9 Q (x3 ++ [41]) h)) (J9 Q x3 h)):Zyg Q i1 o1 x3 h:=
 At.mk (cast (by kernel_rfl) ht)
theorem J9i (Q:QT) (x3:List Nat) (h:Zaa) (ht :
 Q (.str x3) h):J9 Q x3 h:=
 Zbb (kp:=kp) (cast (by kernel_rfl) ht)
theorem call (x0x0:Int) (a0x1:Pt) (n0x1 c0x1:Nat) (e0x1:Bool) (h:Zaa) (Q:QT) (ht :
 Zfh (h ++ [.cells Zab [.int .u8 x0x0,.slice a0x1 n0x1 c0x1 e0x1] false]) fun A=>Zbo .u8 (Zaj A (.ptr (h.length,0 + 0))) fun B=>Zfh (A ++ [.cells Zsp [.int .u8 B] false]) fun B=>Zcv (rowOf B (A.length,0) 1) fun A=>Zhm A fun A=>xSl (Zaj B (.ptr (h.length,0 + 1))) fun C D E F=>L3 Q h.length 0 A C D E F (((D:Nat):Int)) 0 B):Zad pg Zgj [.agg [.int .u8 x0x0,.slice a0x1 n0x1 c0x1 e0x1]] h Q:=
 Zad.of_body kp (c:=cod fn) (fn:=fn) Go.Proofs.Try.func100 (by kernel_rfl) (by kernel_rfl) (Nat.le_of_ble_eq_true (by kernel_rfl))
  (cast (by kernel_rfl) ht)
end Zdu
end Go.Sim

set_option maxRecDepth 100000
set_option maxHeartbeats 0
set_option linter.unusedVariables false
namespace Go.Sim
open Go Go.RowKit
end Go.Sim

set_option maxRecDepth 100000
set_option maxHeartbeats 0
set_option linter.unusedVariables false
namespace Go.Sim
open Go Go.RowKit
end Go.Sim

set_option maxRecDepth 100000
set_option maxHeartbeats 0
set_option linter.unusedVariables false
namespace Go.Sim
open Go Go.RowKit
end Go.Sim

set_option maxRecDepth 100000
set_option maxHeartbeats 0
set_option linter.unusedVariables false
namespace Go.Sim
open Go Go.RowKit
end Go.Sim

set_option maxRecDepth 100000
set_option maxHeartbeats 0
set_option linter.unusedVariables false
namespace Go.Sim
open Go Go.RowKit
end Go.Sim

set_option maxRecDepth 100000
set_option maxHeartbeats 0
set_option linter.unusedVariables false
namespace Go.Sim
open Go Go.RowKit
namespace Zlv
noncomputable abbrev fn:Func:=Go.Proofs.Try.f103
def kp:Zcz:=[]
noncomputable def C (p:List Nat):Code:=(cod fn).sub p
def KR (Q:QT):KT:=Zik pg fn.results.toList Q
theorem call (x0:List Nat) (h:Zaa) (Q:QT) (ht :
 bcase ((((List.length x0:Nat):Int):Int) == 1) (Zad pg Zfc [.str ([120,121,122,88,89,90]),.str x0] h fun A B=>
 Zbs A fun A=>Q (.bool A) B) (Q (.bool false) h)):Zad pg Zbx [.str x0] h Q:=
 Zad.of_body kp (c:=cod fn) (fn:=fn) Go.Proofs.Try.func103 (by kernel_rfl) (by kernel_rfl) (Nat.le_of_ble_eq_true (by kernel_rfl))
  (cast (by kernel_rfl) ht)
end Zlv
end Go.Sim

set_option maxRecDepth 100000
set_option maxHeartbeats 0
set_option linter.unusedVariables false
namespace Go.Sim
open Go Go.RowKit
end Go.Sim

set_option maxRecDepth 100000
set_option maxHeartbeats 0
set_option linter.unusedVariables false
namespace Go.Sim
open Go Go.RowKit
end Go.Sim

set_option maxRecDepth 100000
set_option maxHeartbeats 0
set_option linter.unusedVariables false
namespace Go.Sim
open Go Go.RowKit
end Go.Sim

set_option maxRecDepth 100000
set_option maxHeartbeats 0
set_option linter.unusedVariables false
namespace Go.Sim
open Go Go.RowKit
end Go.Sim
