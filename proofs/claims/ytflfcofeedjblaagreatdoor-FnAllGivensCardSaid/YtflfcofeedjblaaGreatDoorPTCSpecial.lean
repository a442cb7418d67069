/- A part of the proof of a statement of this seat: see the text that holds the theorem. No condition. -/
import Derived.Test.YtflfcofeedjblaaGreatDoorNm
set_option linter.unusedVariables false
set_option linter.unusedSimpArgs false
set_option linter.all false
set_option maxRecDepth 100000
set_option maxHeartbeats 0
set_option linter.unusedVariables false
namespace Go.Sim
open Go Go.RowKit
namespace Zfe
noncomputable abbrev fn:Func:=Go.Proofs.Tryz.f116
def kp:Zch:=[(3000002,[2]),(1000002,[0,5,6,7]),(2000004,[36,7,6,5,0]),(4000006,[7,6,5,0])]
noncomputable def C (p:List Nat):Code:=(cod fn).sub p
def KR (Q:QT):KT:=Zfd pg fn.results.toList Q
abbrev T2:=Pt→Nat→Nat→Bool→Pt→Nat→Nat→Bool→Int→Int→Zaa→Prop
def E2 (R2:T2) (env:Env) (h:Zaa):Prop:=Zbu 0 env fun v env=>xSl v fun a0 n0 c0 e0=>Zbu 5 env fun v env=>xSl v fun a5 n5 c5 e5=>Zbu 6 env fun v env=>Zdz .i64 v fun x6=>Zbu 7 env fun v env=>Zdz .i64 v fun x7=>Zil env (R2 a0 n0 c0 e0 a5 n5 c5 e5 x6 x7 h)
theorem Zea {R2:T2} {env:Env} {h:Zaa} (hi:E2 R2 env h):∃ a0,∃ n0,∃ c0,∃ e0,∃ a5,∃ n5,∃ c5,∃ e5,∃ x6,∃ x7,env=[(0,.slice a0 n0 c0 e0),(5,.slice a5 n5 c5 e5),(6,.int .i64 x6),(7,.int .i64 x7)]∧R2 a0 n0 c0 e0 a5 n5 c5 e5 x6 x7 h:=by
 unfold E2 at hi
 repeat ((first | (have k:=Zaf hi; clear hi; obtain ⟨_,_,e,hi⟩:=k) | (have k:=Zav hi; clear hi; obtain ⟨_,e,hi⟩:=k) | (have k:=Zbp hi; clear hi; obtain ⟨_,_,_,_,e,hi⟩:=k)); subst e)
 obtain ⟨rfl,hi⟩:=Zbl hi
 exact ⟨_,_,_,_,_,_,_,_,_,_,rfl,hi⟩
def K0 (Q:QT):KT:=andThen (fun env' h'=>(match kp.find 4000007 with | some ks=>Den pg fn.ntmps (C [1,1]) (env'.keep ks) h' (KR Q) | none=>den pg fn.ntmps kp (C [1,1]) env' h' (KR Q))) (KR Q)
def K1 (Q:QT):KT:=Zcj 0 (K0 Q)
def K2 (Q:QT):KT:=left kp 2 (K1 Q)
def K3 (Q:QT) (R2:T2):KT:=rnd ((kp.find 1000002).getD []) (E2 R2) (K2 Q)
def L2 (Q:QT) (a0:Pt) (n0 c0:Nat) (e0:Bool) (a5:Pt) (n5 c5:Nat) (e5:Bool) (x6 x7:Int) (h:Zaa):Prop:=Zej (Den pg fn.ntmps (C [1,0,1,0,0])) ((kp.find 1000002).getD []) (K2 Q) [(0,.slice a0 n0 c0 e0),(5,.slice a5 n5 c5 e5),(6,.int .i64 x6),(7,.int .i64 x7)] h
def J6 (Q:QT) (R2:T2) (x7 x6:Int) (a5:Pt) (n5 c5:Nat) (e5:Bool) (a0:Pt) (n0 c0:Nat) (e0:Bool) (h:Zaa):Prop:=Den pg fn.ntmps (C [1,0,1,0,0,1,1,1]) [(7,.int .i64 x7),(6,.int .i64 x6),(5,.slice a5 n5 c5 e5),(0,.slice a0 n0 c0 e0)] h (K3 Q R2)
def Zmz (Q:QT) (h:Zaa):Prop:=At (K1 Q) (.exit 0) [(2,.undef)] h
def L2t (Q:QT) (R2:T2) (a0:Pt) (n0 c0:Nat) (e0:Bool) (a5:Pt) (n5 c5:Nat) (e5:Bool) (x6 x7:Int) (h:Zaa):Prop:=
 bcase (decide ((x7:Int) < x6)) ((0≤(x7:Int)∧(x7:Int) < (n5:Nat))∧(Zbf a5 fun A B=>Zcd (Zbe h (.ptr (A,B + (Int.toNat x7) * 2)) 2) fun A=>Zai A fun A B=>Zbd A fun A=>Zai B fun B C=>Zbd B fun B=>Zbq C (Zcf (h ++ [.cells Zbv [.str [],.str []] false]) fun C=>Zbt (Zbb C (.ptr (h.length,0)) [.str A,.str B]) fun A=>Zbd (Zag A (.ptr (h.length,0 + 0))) fun B=>Zak pg Znx [.str B] A fun A B=>
 Zca A fun A=>bcase (!A) ((Zag B (.tup [])=Zag B (.tup []))∧Q (.bool false) B) (Zbd (Zag B (.ptr (h.length,0 + 1))) fun A=>Zak pg Zgw [.str A] B fun A B=>
 Zca A fun A=>bcase (!A) ((Zag B (.tup [])=Zag B (.tup []))∧Q (.bool false) B) (bcase (decide ((x7:Int) > 0)) ((0≤(IntKind.wrap .i64 (x7 - 1):Int)∧(IntKind.wrap .i64 (x7 - 1):Int) < (n0:Nat))∧(Zbf a0 fun A C=>Zbd (Zag B (.ptr (A,C + (Int.toNat (IntKind.wrap .i64 (x7 - 1))) * 2 + 0))) fun D=>Zbd (Zag B (.ptr (h.length,0 + 0))) fun E=>(Zag B (.ptr (A,C + (Int.toNat (IntKind.wrap .i64 (x7 - 1))) * 2 + 0))=Zag B (.ptr (A,C + (Int.toNat (IntKind.wrap .i64 (x7 - 1))) * 2 + 0)))∧bcase (!Zfp D E) (Q (.bool false) B) (J6 Q R2 x7 x6 a5 n5 c5 e5 a0 n0 c0 e0 B))) ((Zag B (.tup [])=Zag B (.tup []))∧J6 Q R2 x7 x6 a5 n5 c5 e5 a0 n0 c0 e0 B)))))) (Zmz Q h)
theorem Zjc (Q:QT) (R2:T2) (a0:Pt) (n0 c0:Nat) (e0:Bool) (a5:Pt) (n5 c5:Nat) (e5:Bool) (x6 x7:Int) (h:Zaa) (ht:L2t Q R2 a0 n0 c0 e0 a5 n5 c5 e5 x6 x7 h):Den pg fn.ntmps (C [1,0,1,0,0]) [(0,.slice a0 n0 c0 e0),(5,.slice a5 n5 c5 e5),(6,.int .i64 x6),(7,.int .i64 x7)] h (K3 Q R2):=
 Zba (kp:=kp) (cast (by kernel_rfl) ht)
theorem L2ind (Q:QT) (a0:Pt) (n0 c0:Nat) (e0:Bool) (a5:Pt) (n5 c5:Nat) (e5:Bool) (x6:Int) {G:Type} (J:G→Int→Zaa→Prop) (m:G→Nat)
 (hr:∀ (g:G) (x7:Int) (h:Zaa),J g x7 h→∀ (R2:T2),(∀ g' (x7:Int) (h:Zaa),m g' < m g→J g' x7 h→R2 a0 n0 c0 e0 a5 n5 c5 e5 x6 x7 h)→L2t Q R2 a0 n0 c0 e0 a5 n5 c5 e5 x6 x7 h)
 (g:G) (x7:Int) (h:Zaa) (hj:J g x7 h):L2 Q a0 n0 c0 e0 a5 n5 c5 e5 x6 x7 h:=by
 let P:=fun (K:Int→Zaa→Prop) a0' n0' c0' e0' a5' n5' c5' e5' x6' x7 h=>a0=a0'∧n0=n0'∧c0=c0'∧e0=e0'∧a5=a5'∧n5=n5'∧c5=c5'∧e5=e5'∧x6=x6'∧K x7 h
 refine Zej.inv2 (fun g=>E2 (P (J g))) (fun g=>E2 (P fun x7 h=>∃ g',m g' < m g∧J g' x7 h)) m ?_ ?_ g ⟨rfl,rfl,rfl,rfl,rfl,rfl,rfl,rfl,rfl,hj⟩
 ·intro g env h hi
  obtain ⟨a0',n0',c0',e0',a5',n5',c5',e5',x6',x7,rfl,rfl,rfl,rfl,rfl,rfl,rfl,rfl,rfl,rfl,hj⟩:=Zea hi
  exact Zjc Q _ a0 n0 c0 e0 a5 n5 c5 e5 x6 x7 h (hr g x7 h hj (P fun x7 h=>∃ g',m g' < m g∧J g' x7 h) fun g' x7 h hlt hj=>⟨rfl,rfl,rfl,rfl,rfl,rfl,rfl,rfl,rfl,g',hlt,hj⟩)
 ·intro g env h hi
  obtain ⟨a0',n0',c0',e0',a5',n5',c5',e5',x6',x7,rfl,rfl,rfl,rfl,rfl,rfl,rfl,rfl,rfl,rfl,g',hlt,hj⟩:=Zea hi
  exact ⟨g',hlt,rfl,rfl,rfl,rfl,rfl,rfl,rfl,rfl,rfl,hj⟩
theorem J6i (Q:QT) (R2:T2) (x7 x6:Int) (a5:Pt) (n5 c5:Nat) (e5:Bool) (a0:Pt) (n0 c0:Nat) (e0:Bool) (h:Zaa) (ht :
 R2 a0 n0 c0 e0 a5 n5 c5 e5 x6 (IntKind.wrap .i64 (x7 + 1)) h):J6 Q R2 x7 x6 a5 n5 c5 e5 a0 n0 c0 e0 h:=
 Zba (kp:=kp) (cast (by kernel_rfl) ht)
theorem A2x0i (Q:QT) (h:Zaa) (ht :
 Q (.bool true) h):Zmz Q h:=
 At.mk (cast (by kernel_rfl) ht)
theorem call (a0:Pt) (n0 c0:Nat) (e0:Bool) (h:Zaa) (Q:QT) (ht :
 L2 Q a0 n0 c0 e0 a0 n0 c0 e0 (((n0:Nat):Int)) 0 h):Zak pg Zkp [.slice a0 n0 c0 e0] h Q:=
 Zak.of_body kp (c:=cod fn) (fn:=fn) Go.Proofs.Tryz.func116 (by kernel_rfl) (by kernel_rfl) (Nat.le_of_ble_eq_true (by kernel_rfl))
  (cast (by kernel_rfl) ht)
end Zfe
namespace Zdr
noncomputable abbrev fn:Func:=Go.Proofs.Tryz.f80
def kp:Zch:=[(4000003,[1,0]),(3000005,[6]),(1000005,[0,1,6,20,21]),(3000009,[6,8,21,20,1,0]),(1000009,[0,1,6,8,20,21,29,30,31])]
noncomputable def C (p:List Nat):Code:=(cod fn).sub p
def KR (Q:QT):KT:=Zfd pg fn.results.toList Q
abbrev T5:=Pt→Nat→Nat→Bool→List Nat→List Nat→Int→Int→Zaa→Prop
def E5 (R5:T5) (env:Env) (h:Zaa):Prop:=Zbu 0 env fun v env=>xSl v fun a0 n0 c0 e0=>Zbu 1 env fun v env=>Zbd v fun x1=>Zbu 6 env fun v env=>Zbd v fun x6=>Zbu 20 env fun v env=>Zdz .i64 v fun x20=>Zbu 21 env fun v env=>Zdz .i64 v fun x21=>Zil env (R5 a0 n0 c0 e0 x1 x6 x20 x21 h)
theorem Zik {R5:T5} {env:Env} {h:Zaa} (hi:E5 R5 env h):∃ a0,∃ n0,∃ c0,∃ e0,∃ x1,∃ x6,∃ x20,∃ x21,env=[(0,.slice a0 n0 c0 e0),(1,.str x1),(6,.str x6),(20,.int .i64 x20),(21,.int .i64 x21)]∧R5 a0 n0 c0 e0 x1 x6 x20 x21 h:=by
 unfold E5 at hi
 repeat ((first | (have k:=Zaf hi; clear hi; obtain ⟨_,_,e,hi⟩:=k) | (have k:=Zbp hi; clear hi; obtain ⟨_,_,_,_,e,hi⟩:=k) | (have k:=Zav hi; clear hi; obtain ⟨_,e,hi⟩:=k) | (have k:=Zed hi; clear hi; obtain ⟨_,e,hi⟩:=k)); subst e)
 obtain ⟨rfl,hi⟩:=Zbl hi
 exact ⟨_,_,_,_,_,_,_,_,rfl,hi⟩
abbrev T9:=Pt→Nat→Nat→Bool→List Nat→List Nat→List Nat→Int→Int→Pt→Nat→Nat→Bool→Int→Int→Zaa→Prop
def E9 (R9:T9) (env:Env) (h:Zaa):Prop:=Zbu 0 env fun v env=>xSl v fun a0 n0 c0 e0=>Zbu 1 env fun v env=>Zbd v fun x1=>Zbu 6 env fun v env=>Zbd v fun x6=>Zbu 8 env fun v env=>Zbd v fun x8=>Zbu 20 env fun v env=>Zdz .i64 v fun x20=>Zbu 21 env fun v env=>Zdz .i64 v fun x21=>Zbu 29 env fun v env=>xSl v fun a29 n29 c29 e29=>Zbu 30 env fun v env=>Zdz .i64 v fun x30=>Zbu 31 env fun v env=>Zdz .i64 v fun x31=>Zil env (R9 a0 n0 c0 e0 x1 x6 x8 x20 x21 a29 n29 c29 e29 x30 x31 h)
theorem Zny {R9:T9} {env:Env} {h:Zaa} (hi:E9 R9 env h):∃ a0,∃ n0,∃ c0,∃ e0,∃ x1,∃ x6,∃ x8,∃ x20,∃ x21,∃ a29,∃ n29,∃ c29,∃ e29,∃ x30,∃ x31,env=[(0,.slice a0 n0 c0 e0),(1,.str x1),(6,.str x6),(8,.str x8),(20,.int .i64 x20),(21,.int .i64 x21),(29,.slice a29 n29 c29 e29),(30,.int .i64 x30),(31,.int .i64 x31)]∧R9 a0 n0 c0 e0 x1 x6 x8 x20 x21 a29 n29 c29 e29 x30 x31 h:=by
 unfold E9 at hi
 repeat ((first | (have k:=Zaf hi; clear hi; obtain ⟨_,_,e,hi⟩:=k) | (have k:=Zbp hi; clear hi; obtain ⟨_,_,_,_,e,hi⟩:=k) | (have k:=Zav hi; clear hi; obtain ⟨_,e,hi⟩:=k) | (have k:=Zed hi; clear hi; obtain ⟨_,e,hi⟩:=k)); subst e)
 obtain ⟨rfl,hi⟩:=Zbl hi
 exact ⟨_,_,_,_,_,_,_,_,_,_,_,_,_,_,_,rfl,hi⟩
def K0 (Q:QT):KT:=andThen (fun env' h'=>(match kp.find 4000016 with | some ks=>Den pg fn.ntmps (C [1,1,1,1]) (env'.keep ks) h' (KR Q) | none=>den pg fn.ntmps kp (C [1,1,1,1]) env' h' (KR Q))) (KR Q)
def K1 (Q:QT):KT:=Zcj 0 (K0 Q)
def K2 (Q:QT):KT:=left kp 5 (K1 Q)
def K3 (Q:QT) (R5:T5):KT:=rnd ((kp.find 1000005).getD []) (E5 R5) (K2 Q)
def K4 (Q:QT) (R5:T5):KT:=andThen (fun env' h'=>(match kp.find 4000015 with | some ks=>Den pg fn.ntmps (C [1,1,1,0,1,0,0,1,1,1]) (env'.keep ks) h' (K3 Q R5) | none=>den pg fn.ntmps kp (C [1,1,1,0,1,0,0,1,1,1]) env' h' (K3 Q R5))) (K3 Q R5)
def K5 (Q:QT) (R5:T5):KT:=Zcj 1 (K4 Q R5)
def K6 (Q:QT) (R5:T5):KT:=andThen (fun env' h'=>(match kp.find 4000014 with | some ks=>Den pg fn.ntmps (C [1,1,1,0,1,0,0,1,1,0,0,1,1,1]) (env'.keep ks) h' (K5 Q R5) | none=>den pg fn.ntmps kp (C [1,1,1,0,1,0,0,1,1,0,0,1,1,1]) env' h' (K5 Q R5))) (K5 Q R5)
def K7 (Q:QT) (R5:T5):KT:=Zcj 2 (K6 Q R5)
def K8 (Q:QT) (R5:T5):KT:=left kp 9 (K7 Q R5)
def K9 (Q:QT) (R5:T5) (R9:T9):KT:=rnd ((kp.find 1000009).getD []) (E9 R9) (K8 Q R5)
def J3 (Q:QT) (x1:List Nat) (a0:Pt) (n0 c0:Nat) (e0:Bool) (h:Zaa):Prop:=Den pg fn.ntmps (C [1,1]) [(1,.str x1),(0,.slice a0 n0 c0 e0)] h (KR Q)
def L5 (Q:QT) (a0:Pt) (n0 c0:Nat) (e0:Bool) (x1 x6:List Nat) (x20 x21:Int) (h:Zaa):Prop:=Zej (Den pg fn.ntmps (C [1,1,1,0,1,0,0])) ((kp.find 1000005).getD []) (K2 Q) [(0,.slice a0 n0 c0 e0),(1,.str x1),(6,.str x6),(20,.int .i64 x20),(21,.int .i64 x21)] h
def L9 (Q:QT) (R5:T5) (a0:Pt) (n0 c0:Nat) (e0:Bool) (x1 x6 x8:List Nat) (x20 x21:Int) (a29:Pt) (n29 c29:Nat) (e29:Bool) (x30 x31:Int) (h:Zaa):Prop:=Zej (Den pg fn.ntmps (C [1,1,1,0,1,0,0,1,1,0,0,1,1,0,1,0,0])) ((kp.find 1000009).getD []) (K8 Q R5) [(0,.slice a0 n0 c0 e0),(1,.str x1),(6,.str x6),(8,.str x8),(20,.int .i64 x20),(21,.int .i64 x21),(29,.slice a29 n29 c29 e29),(30,.int .i64 x30),(31,.int .i64 x31)] h
def A5x0 (Q:QT) (x6:List Nat) (h:Zaa):Prop:=At (K1 Q) (.exit 0) [(6,.str x6)] h
def A9x2 (Q:QT) (R5:T5) (x6 x8:List Nat) (x21 x20:Int) (x1:List Nat) (a0:Pt) (n0 c0:Nat) (e0:Bool) (h:Zaa):Prop:=At (K7 Q R5) (.exit 2) [(6,.str x6),(8,.str x8),(21,.int .i64 x21),(20,.int .i64 x20),(1,.str x1),(0,.slice a0 n0 c0 e0)] h
theorem J3i (Q:QT) (x1:List Nat) (a0:Pt) (n0 c0:Nat) (e0:Bool) (h:Zaa) (ht :
 L5 Q a0 n0 c0 e0 x1 [] (((List.length x1:Nat):Int)) 0 h):J3 Q x1 a0 n0 c0 e0 h:=
 Zba (kp:=kp) (cast (by kernel_rfl) ht)
def L5t (Q:QT) (R5:T5) (a0:Pt) (n0 c0:Nat) (e0:Bool) (x1 x6:List Nat) (x20 x21:Int) (h:Zaa):Prop:=
 bcase (decide ((x21:Int) < x20)) ((0≤(x21:Int)∧(x21:Int)≤IntKind.wrap .i64 (x21 + 1)∧(IntKind.wrap .i64 (x21 + 1):Int)≤(List.length x1:Nat))∧(L9 Q R5 a0 n0 c0 e0 x1 x6 (sub x1 x21 (IntKind.wrap .i64 (x21 + 1))) x20 x21 a0 n0 c0 e0 (((n0:Nat):Int)) 0 h)) (A5x0 Q x6 h)
theorem Ztv (Q:QT) (R5:T5) (a0:Pt) (n0 c0:Nat) (e0:Bool) (x1 x6:List Nat) (x20 x21:Int) (h:Zaa) (ht:L5t Q R5 a0 n0 c0 e0 x1 x6 x20 x21 h):Den pg fn.ntmps (C [1,1,1,0,1,0,0]) [(0,.slice a0 n0 c0 e0),(1,.str x1),(6,.str x6),(20,.int .i64 x20),(21,.int .i64 x21)] h (K3 Q R5):=
 Zba (kp:=kp) (cast (by kernel_rfl) ht)
theorem L5ind (Q:QT) (a0:Pt) (n0 c0:Nat) (e0:Bool) (x1:List Nat) (x20:Int) {G:Type} (J:G→List Nat→Int→Zaa→Prop) (m:G→Nat)
 (hr:∀ (g:G) (x6:List Nat) (x21:Int) (h:Zaa),J g x6 x21 h→∀ (R5:T5),(∀ g' (x6:List Nat) (x21:Int) (h:Zaa),m g' < m g→J g' x6 x21 h→R5 a0 n0 c0 e0 x1 x6 x20 x21 h)→L5t Q R5 a0 n0 c0 e0 x1 x6 x20 x21 h)
 (g:G) (x6:List Nat) (x21:Int) (h:Zaa) (hj:J g x6 x21 h):L5 Q a0 n0 c0 e0 x1 x6 x20 x21 h:=by
 let P:=fun (K:List Nat→Int→Zaa→Prop) a0' n0' c0' e0' x1' x6 x20' x21 h=>a0=a0'∧n0=n0'∧c0=c0'∧e0=e0'∧x1=x1'∧x20=x20'∧K x6 x21 h
 refine Zej.inv2 (fun g=>E5 (P (J g))) (fun g=>E5 (P fun x6 x21 h=>∃ g',m g' < m g∧J g' x6 x21 h)) m ?_ ?_ g ⟨rfl,rfl,rfl,rfl,rfl,rfl,hj⟩
 ·intro g env h hi
  obtain ⟨a0',n0',c0',e0',x1',x6,x20',x21,rfl,rfl,rfl,rfl,rfl,rfl,rfl,hj⟩:=Zik hi
  exact Ztv Q _ a0 n0 c0 e0 x1 x6 x20 x21 h (hr g x6 x21 h hj (P fun x6 x21 h=>∃ g',m g' < m g∧J g' x6 x21 h) fun g' x6 x21 h hlt hj=>⟨rfl,rfl,rfl,rfl,rfl,rfl,g',hlt,hj⟩)
 ·intro g env h hi
  obtain ⟨a0',n0',c0',e0',x1',x6,x20',x21,rfl,rfl,rfl,rfl,rfl,rfl,rfl,g',hlt,hj⟩:=Zik hi
  exact ⟨g',hlt,rfl,rfl,rfl,rfl,rfl,rfl,hj⟩
def L9t (Q:QT) (R5:T5) (R9:T9) (a0:Pt) (n0 c0:Nat) (e0:Bool) (x1 x6 x8:List Nat) (x20 x21:Int) (a29:Pt) (n29 c29:Nat) (e29:Bool) (x30 x31:Int) (h:Zaa):Prop:=
 bcase (decide ((x31:Int) < x30)) ((0≤(x31:Int)∧(x31:Int) < (n29:Nat))∧(Zbf a29 fun A B=>Zcd (Zbe h (.ptr (A,B + (Int.toNat x31) * 2)) 2) fun A=>Zai A fun A B=>Zbd A fun A=>Zai B fun B C=>Zbd B fun B=>Zbq C (Zcf (h ++ [.cells Zbv [.str [],.str []] false]) fun C=>Zbt (Zbb C (.ptr (h.length,0)) [.str A,.str B]) fun A=>Zbd (Zag A (.ptr (h.length,0 + 0))) fun B=>bcase (decide (B=x8)) (Zbd (Zag A (.ptr (h.length,0 + 1))) fun B=>A9x2 Q R5 x6 B x21 x20 x1 a0 n0 c0 e0 A) (R9 a0 n0 c0 e0 x1 x6 x8 x20 x21 a29 n29 c29 e29 x30 (IntKind.wrap .i64 (x31 + 1)) A)))) (A9x2 Q R5 x6 x8 x21 x20 x1 a0 n0 c0 e0 h)
theorem Ybi (Q:QT) (R5:T5) (R9:T9) (a0:Pt) (n0 c0:Nat) (e0:Bool) (x1 x6 x8:List Nat) (x20 x21:Int) (a29:Pt) (n29 c29:Nat) (e29:Bool) (x30 x31:Int) (h:Zaa) (ht:L9t Q R5 R9 a0 n0 c0 e0 x1 x6 x8 x20 x21 a29 n29 c29 e29 x30 x31 h):Den pg fn.ntmps (C [1,1,1,0,1,0,0,1,1,0,0,1,1,0,1,0,0]) [(0,.slice a0 n0 c0 e0),(1,.str x1),(6,.str x6),(8,.str x8),(20,.int .i64 x20),(21,.int .i64 x21),(29,.slice a29 n29 c29 e29),(30,.int .i64 x30),(31,.int .i64 x31)] h (K9 Q R5 R9):=
 Zba (kp:=kp) (cast (by kernel_rfl) ht)
theorem L9ind (Q:QT) (R5:T5) (a0:Pt) (n0 c0:Nat) (e0:Bool) (x1 x6:List Nat) (x20 x21:Int) (a29:Pt) (n29 c29:Nat) (e29:Bool) (x30:Int) {G:Type} (J:G→List Nat→Int→Zaa→Prop) (m:G→Nat)
 (hr:∀ (g:G) (x8:List Nat) (x31:Int) (h:Zaa),J g x8 x31 h→∀ (R9:T9),(∀ g' (x8:List Nat) (x31:Int) (h:Zaa),m g' < m g→J g' x8 x31 h→R9 a0 n0 c0 e0 x1 x6 x8 x20 x21 a29 n29 c29 e29 x30 x31 h)→L9t Q R5 R9 a0 n0 c0 e0 x1 x6 x8 x20 x21 a29 n29 c29 e29 x30 x31 h)
 (g:G) (x8:List Nat) (x31:Int) (h:Zaa) (hj:J g x8 x31 h):L9 Q R5 a0 n0 c0 e0 x1 x6 x8 x20 x21 a29 n29 c29 e29 x30 x31 h:=by
 let P:=fun (K:List Nat→Int→Zaa→Prop) a0' n0' c0' e0' x1' x6' x8 x20' x21' a29' n29' c29' e29' x30' x31 h=>a0=a0'∧n0=n0'∧c0=c0'∧e0=e0'∧x1=x1'∧x6=x6'∧x20=x20'∧x21=x21'∧a29=a29'∧n29=n29'∧c29=c29'∧e29=e29'∧x30=x30'∧K x8 x31 h
 refine Zej.inv2 (fun g=>E9 (P (J g))) (fun g=>E9 (P fun x8 x31 h=>∃ g',m g' < m g∧J g' x8 x31 h)) m ?_ ?_ g ⟨rfl,rfl,rfl,rfl,rfl,rfl,rfl,rfl,rfl,rfl,rfl,rfl,rfl,hj⟩
 ·intro g env h hi
  obtain ⟨a0',n0',c0',e0',x1',x6',x8,x20',x21',a29',n29',c29',e29',x30',x31,rfl,rfl,rfl,rfl,rfl,rfl,rfl,rfl,rfl,rfl,rfl,rfl,rfl,rfl,hj⟩:=Zny hi
  exact Ybi Q R5 (P fun x8 x31 h=>∃ g',m g' < m g∧J g' x8 x31 h) a0 n0 c0 e0 x1 x6 x8 x20 x21 a29 n29 c29 e29 x30 x31 h (hr g x8 x31 h hj (P fun x8 x31 h=>∃ g',m g' < m g∧J g' x8 x31 h) fun g' x8 x31 h hlt hj=>⟨rfl,rfl,rfl,rfl,rfl,rfl,rfl,rfl,rfl,rfl,rfl,rfl,rfl,g',hlt,hj⟩)
 ·intro g env h hi
  obtain ⟨a0',n0',c0',e0',x1',x6',x8,x20',x21',a29',n29',c29',e29',x30',x31,rfl,rfl,rfl,rfl,rfl,rfl,rfl,rfl,rfl,rfl,rfl,rfl,rfl,rfl,g',hlt,hj⟩:=Zny hi
  exact ⟨g',hlt,rfl,rfl,rfl,rfl,rfl,rfl,rfl,rfl,rfl,rfl,rfl,rfl,rfl,hj⟩
theorem A5x0i (Q:QT) (x6:List Nat) (h:Zaa) (ht :
 bcase (decide (((((List.length x6:Nat):Int)):Int) > 60)) (Q (.tup [.str [],.bool false]) h) (Q (.tup [.str x6,.bool true]) h)):A5x0 Q x6 h:=
 At.mk (cast (by kernel_rfl) ht)
theorem A9x2i (Q:QT) (R5:T5) (x6 x8:List Nat) (x21 x20:Int) (x1:List Nat) (a0:Pt) (n0 c0:Nat) (e0:Bool) (h:Zaa) (ht :
 List.length x6 + List.length x8≤9223372036854775807∧(R5 a0 n0 c0 e0 x1 (x6 ++ x8) x20 (IntKind.wrap .i64 (x21 + 1)) h)):A9x2 Q R5 x6 x8 x21 x20 x1 a0 n0 c0 e0 h:=
 At.mk (cast (by kernel_rfl) ht)
theorem call (a0:Pt) (n0 c0:Nat) (e0:Bool) (x1:List Nat) (h:Zaa) (Q:QT) (ht :
 Zak pg Zkp [.slice a0 n0 c0 e0] h fun A B=>
 Zca A fun A=>bcase (!A) (Q (.tup [.str [],.bool false]) B) (Zak pg Zgw [.str x1] B fun A B=>
 Zca A fun A=>bcase (!A) (Q (.tup [.str [],.bool false]) B) (J3 Q x1 a0 n0 c0 e0 B))):Zak pg Zkk [.slice a0 n0 c0 e0,.str x1] h Q:=
 Zak.of_body kp (c:=cod fn) (fn:=fn) Go.Proofs.Tryz.func80 (by kernel_rfl) (by kernel_rfl) (Nat.le_of_ble_eq_true (by kernel_rfl))
  (cast (by kernel_rfl) ht)
end Zdr
namespace Zeh
noncomputable abbrev fn:Func:=Go.Proofs.Tryz.f46
def kp:Zch:=[(3000004,[7,8]),(1000004,[6,7,8,23,24,25]),(4000008,[8,10,11,25,24,23,6,7]),(4000009,[25,24,23,6,7,8])]
noncomputable def C (p:List Nat):Code:=(cod fn).sub p
def KR (Q:QT):KT:=Zfd pg fn.results.toList Q
abbrev T4:=Pt→Nat→Nat→Bool→Bool→Pt→Nat→Nat→Bool→Pt→Nat→Nat→Bool→Int→Int→Zaa→Prop
def E4 (R4:T4) (env:Env) (h:Zaa):Prop:=Zbu 6 env fun v env=>xSl v fun a6 n6 c6 e6=>Zbu 7 env fun v env=>Zca v fun x7=>Zbu 8 env fun v env=>xSl v fun a8 n8 c8 e8=>Zbu 23 env fun v env=>xSl v fun a23 n23 c23 e23=>Zbu 24 env fun v env=>Zdz .i64 v fun x24=>Zbu 25 env fun v env=>Zdz .i64 v fun x25=>Zil env (R4 a6 n6 c6 e6 x7 a8 n8 c8 e8 a23 n23 c23 e23 x24 x25 h)
theorem Zob {R4:T4} {env:Env} {h:Zaa} (hi:E4 R4 env h):∃ a6,∃ n6,∃ c6,∃ e6,∃ x7,∃ a8,∃ n8,∃ c8,∃ e8,∃ a23,∃ n23,∃ c23,∃ e23,∃ x24,∃ x25,env=[(6,.slice a6 n6 c6 e6),(7,.bool x7),(8,.slice a8 n8 c8 e8),(23,.slice a23 n23 c23 e23),(24,.int .i64 x24),(25,.int .i64 x25)]∧R4 a6 n6 c6 e6 x7 a8 n8 c8 e8 a23 n23 c23 e23 x24 x25 h:=by
 unfold E4 at hi
 repeat ((first | (have k:=Zaf hi; clear hi; obtain ⟨_,_,e,hi⟩:=k) | (have k:=Zxx hi; clear hi; obtain ⟨_,e,hi⟩:=k) | (have k:=Zbp hi; clear hi; obtain ⟨_,_,_,_,e,hi⟩:=k) | (have k:=Zav hi; clear hi; obtain ⟨_,e,hi⟩:=k)); subst e)
 obtain ⟨rfl,hi⟩:=Zbl hi
 exact ⟨_,_,_,_,_,_,_,_,_,_,_,_,_,_,_,rfl,hi⟩
def K0 (Q:QT):KT:=andThen (fun env' h'=>(match kp.find 4000010 with | some ks=>Den pg fn.ntmps (C [1,1,1,1]) (env'.keep ks) h' (KR Q) | none=>den pg fn.ntmps kp (C [1,1,1,1]) env' h' (KR Q))) (KR Q)
def K1 (Q:QT):KT:=Zcj 0 (K0 Q)
def K2 (Q:QT):KT:=left kp 4 (K1 Q)
def K3 (Q:QT) (R4:T4):KT:=rnd ((kp.find 1000004).getD []) (E4 R4) (K2 Q)
def K4 (Q:QT) (R4:T4):KT:=andThen (fun env' h'=>(match kp.find 4000009 with | some ks=>Den pg fn.ntmps (C [1,1,1,0,1,0,0,1,1,1]) (env'.keep ks) h' (K3 Q R4) | none=>den pg fn.ntmps kp (C [1,1,1,0,1,0,0,1,1,1]) env' h' (K3 Q R4))) (K3 Q R4)
def K5 (Q:QT) (R4:T4):KT:=Zcj 1 (K4 Q R4)
def L4 (Q:QT) (a6:Pt) (n6 c6:Nat) (e6 x7:Bool) (a8:Pt) (n8 c8:Nat) (e8:Bool) (a23:Pt) (n23 c23:Nat) (e23:Bool) (x24 x25:Int) (h:Zaa):Prop:=Zej (Den pg fn.ntmps (C [1,1,1,0,1,0,0])) ((kp.find 1000004).getD []) (K2 Q) [(6,.slice a6 n6 c6 e6),(7,.bool x7),(8,.slice a8 n8 c8 e8),(23,.slice a23 n23 c23 e23),(24,.int .i64 x24),(25,.int .i64 x25)] h
def J8 (Q:QT) (R4:T4) (a8:Pt) (n8 c8:Nat) (e8:Bool) (i10 o10:Nat) (x11:List Nat) (x25 x24:Int) (a23:Pt) (n23 c23:Nat) (e23:Bool) (a6:Pt) (n6 c6:Nat) (e6 x7:Bool) (h:Zaa):Prop:=Den pg fn.ntmps (C [1,1,1,0,1,0,0,1,1,0,0,1,1,1]) [(8,.slice a8 n8 c8 e8),(10,.ptr (i10,o10)),(11,.str x11),(25,.int .i64 x25),(24,.int .i64 x24),(23,.slice a23 n23 c23 e23),(6,.slice a6 n6 c6 e6),(7,.bool x7)] h (K5 Q R4)
def Yiq (Q:QT) (x7:Bool) (a8:Pt) (n8 c8:Nat) (e8:Bool) (h:Zaa):Prop:=At (K1 Q) (.exit 0) [(7,.bool x7),(8,.slice a8 n8 c8 e8)] h
def J9 (Q:QT) (R4:T4) (x25 x24:Int) (a23:Pt) (n23 c23:Nat) (e23:Bool) (a6:Pt) (n6 c6:Nat) (e6 x7:Bool) (a8:Pt) (n8 c8:Nat) (e8:Bool) (h:Zaa):Prop:=Den pg fn.ntmps (C [1,1,1,0,1,0,0,1,1,1]) [(25,.int .i64 x25),(24,.int .i64 x24),(23,.slice a23 n23 c23 e23),(6,.slice a6 n6 c6 e6),(7,.bool x7),(8,.slice a8 n8 c8 e8)] h (K3 Q R4)
def L4t (Q:QT) (R4:T4) (a6:Pt) (n6 c6:Nat) (e6 x7:Bool) (a8:Pt) (n8 c8:Nat) (e8:Bool) (a23:Pt) (n23 c23:Nat) (e23:Bool) (x24 x25:Int) (h:Zaa):Prop:=
 bcase (decide ((x25:Int) < x24)) ((0≤(x25:Int)∧(x25:Int) < (n23:Nat))∧(Zbf a23 fun A B=>Zcd (Zbe h (.ptr (A,B + (Int.toNat x25) * 2)) 2) fun A=>Zai A fun A B=>Zbd A fun A=>Zai B fun B C=>Zbd B fun B=>Zbq C (Zcf (h ++ [.cells Zab [.str [],.str []] false]) fun C=>Zbt (Zbb C (.ptr (h.length,0)) [.str A,.str B]) fun A=>Zbd (Zag A (.ptr (h.length,0 + 1))) fun B=>Zak pg Zkk [.slice a6 n6 c6 e6,.str B] A fun A B=>
 Zlf A fun A=>Zai A fun A C=>Zbd A fun A=>Zai C fun C D=>Zca C fun C=>Zbq D (bcase x7 (J8 Q R4 a8 n8 c8 e8 h.length 0 A x25 x24 a23 n23 c23 e23 a6 n6 c6 e6 C B) (J8 Q R4 a8 n8 c8 e8 h.length 0 A x25 x24 a23 n23 c23 e23 a6 n6 c6 e6 false B))))) (Yiq Q x7 a8 n8 c8 e8 h)
theorem Ybp (Q:QT) (R4:T4) (a6:Pt) (n6 c6:Nat) (e6 x7:Bool) (a8:Pt) (n8 c8:Nat) (e8:Bool) (a23:Pt) (n23 c23:Nat) (e23:Bool) (x24 x25:Int) (h:Zaa) (ht:L4t Q R4 a6 n6 c6 e6 x7 a8 n8 c8 e8 a23 n23 c23 e23 x24 x25 h):Den pg fn.ntmps (C [1,1,1,0,1,0,0]) [(6,.slice a6 n6 c6 e6),(7,.bool x7),(8,.slice a8 n8 c8 e8),(23,.slice a23 n23 c23 e23),(24,.int .i64 x24),(25,.int .i64 x25)] h (K3 Q R4):=
 Zba (kp:=kp) (cast (by kernel_rfl) ht)
theorem L4ind (Q:QT) (a6:Pt) (n6 c6:Nat) (e6:Bool) (a23:Pt) (n23 c23:Nat) (e23:Bool) (x24:Int) {G:Type} (J:G→Bool→Pt→Nat→Nat→Bool→Int→Zaa→Prop) (m:G→Nat)
 (hr:∀ (g:G) (x7:Bool) (a8:Pt) (n8 c8:Nat) (e8:Bool) (x25:Int) (h:Zaa),J g x7 a8 n8 c8 e8 x25 h→∀ (R4:T4),(∀ g' (x7:Bool) (a8:Pt) (n8 c8:Nat) (e8:Bool) (x25:Int) (h:Zaa),m g' < m g→J g' x7 a8 n8 c8 e8 x25 h→R4 a6 n6 c6 e6 x7 a8 n8 c8 e8 a23 n23 c23 e23 x24 x25 h)→L4t Q R4 a6 n6 c6 e6 x7 a8 n8 c8 e8 a23 n23 c23 e23 x24 x25 h)
 (g:G) (x7:Bool) (a8:Pt) (n8 c8:Nat) (e8:Bool) (x25:Int) (h:Zaa) (hj:J g x7 a8 n8 c8 e8 x25 h):L4 Q a6 n6 c6 e6 x7 a8 n8 c8 e8 a23 n23 c23 e23 x24 x25 h:=by
 let P:=fun (K:Bool→Pt→Nat→Nat→Bool→Int→Zaa→Prop) a6' n6' c6' e6' x7 a8 n8 c8 e8 a23' n23' c23' e23' x24' x25 h=>a6=a6'∧n6=n6'∧c6=c6'∧e6=e6'∧a23=a23'∧n23=n23'∧c23=c23'∧e23=e23'∧x24=x24'∧K x7 a8 n8 c8 e8 x25 h
 refine Zej.inv2 (fun g=>E4 (P (J g))) (fun g=>E4 (P fun x7 a8 n8 c8 e8 x25 h=>∃ g',m g' < m g∧J g' x7 a8 n8 c8 e8 x25 h)) m ?_ ?_ g ⟨rfl,rfl,rfl,rfl,rfl,rfl,rfl,rfl,rfl,hj⟩
 ·intro g env h hi
  obtain ⟨a6',n6',c6',e6',x7,a8,n8,c8,e8,a23',n23',c23',e23',x24',x25,rfl,rfl,rfl,rfl,rfl,rfl,rfl,rfl,rfl,rfl,hj⟩:=Zob hi
  exact Ybp Q _ a6 n6 c6 e6 x7 a8 n8 c8 e8 a23 n23 c23 e23 x24 x25 h (hr g x7 a8 n8 c8 e8 x25 h hj (P fun x7 a8 n8 c8 e8 x25 h=>∃ g',m g' < m g∧J g' x7 a8 n8 c8 e8 x25 h) fun g' x7 a8 n8 c8 e8 x25 h hlt hj=>⟨rfl,rfl,rfl,rfl,rfl,rfl,rfl,rfl,rfl,g',hlt,hj⟩)
 ·intro g env h hi
  obtain ⟨a6',n6',c6',e6',x7,a8,n8,c8,e8,a23',n23',c23',e23',x24',x25,rfl,rfl,rfl,rfl,rfl,rfl,rfl,rfl,rfl,rfl,g',hlt,hj⟩:=Zob hi
  exact ⟨g',hlt,rfl,rfl,rfl,rfl,rfl,rfl,rfl,rfl,rfl,hj⟩
theorem J8i (Q:QT) (R4:T4) (a8:Pt) (n8 c8:Nat) (e8:Bool) (i10 o10:Nat) (x11:List Nat) (x25 x24:Int) (a23:Pt) (n23 c23:Nat) (e23:Bool) (a6:Pt) (n6 c6:Nat) (e6 x7:Bool) (h:Zaa) (ht :
 Zbd (Zag h (.ptr (i10,o10 + 0))) fun A=>Zcf (h ++ [.cells Zab [.str A,.str x11] false]) fun A=>Zci pg Zbo A (.slice a8 n8 c8 e8) (.slice (h.length,0) 1 1 true) fun A B=>xSl A fun A C D E=>J9 Q R4 x25 x24 a23 n23 c23 e23 a6 n6 c6 e6 x7 A C D E B):J8 Q R4 a8 n8 c8 e8 i10 o10 x11 x25 x24 a23 n23 c23 e23 a6 n6 c6 e6 x7 h:=
 Zba (kp:=kp) (cast (by kernel_rfl) ht)
theorem A4x0i (Q:QT) (x7:Bool) (a8:Pt) (n8 c8:Nat) (e8:Bool) (h:Zaa) (ht :
 bcase (!x7) (Q (.tup [.slice none 0 0 true,.bool false]) h) (Q (.tup [.slice a8 n8 c8 e8,.bool true]) h)):Yiq Q x7 a8 n8 c8 e8 h:=
 At.mk (cast (by kernel_rfl) ht)
theorem J9i (Q:QT) (R4:T4) (x25 x24:Int) (a23:Pt) (n23 c23:Nat) (e23:Bool) (a6:Pt) (n6 c6:Nat) (e6 x7:Bool) (a8:Pt) (n8 c8:Nat) (e8:Bool) (h:Zaa) (ht :
 R4 a6 n6 c6 e6 x7 a8 n8 c8 e8 a23 n23 c23 e23 x24 (IntKind.wrap .i64 (x25 + 1)) h):J9 Q R4 x25 x24 a23 n23 c23 e23 a6 n6 c6 e6 x7 a8 n8 c8 e8 h:=
 Zba (kp:=kp) (cast (by kernel_rfl) ht)
theorem call (x0x0 x0x1:List Nat) (a0x2:Pt) (n0x2 c0x2:Nat) (e0x2:Bool) (x1:List Nat) (h:Zaa) (Q:QT) (ht :
 Zcf (h ++ [.cells Zad [.str x0x0,.str x0x1,.slice a0x2 n0x2 c0x2 e0x2] false]) fun A=>Zbd (Zag A (.ptr (h.length,0 + 0 + 1))) fun B=>Zak pg Zlk [.str B,.str x1] A fun A B=>
 Zlf A fun A=>Zai A fun A C=>xSl A fun A D E F=>Zai C fun C G=>Zca C fun C=>Zbq G (Zcf (B ++ [.cells Zab [] false]) fun G=>xSl (Zag G (.ptr (h.length,0 + 2))) fun H I J K=>L4 Q A D E F C (B.length,0) 0 0 true H I J K (((I:Nat):Int)) 0 G)):Zak pg Zjr [.agg [.str x0x0,.str x0x1,.slice a0x2 n0x2 c0x2 e0x2],.str x1] h Q:=
 Zak.of_body kp (c:=cod fn) (fn:=fn) Go.Proofs.Tryz.func46 (by kernel_rfl) (by kernel_rfl) (Nat.le_of_ble_eq_true (by kernel_rfl))
  (cast (by kernel_rfl) ht)
end Zeh
end Go.Sim

set_option maxRecDepth 100000
set_option maxHeartbeats 0
set_option linter.unusedVariables false
namespace Go.Sim
open Go Go.RowKit
namespace Zmc
noncomputable abbrev fn:Func:=Go.Proofs.Tryz.f127
def kp:Zch:=[(2000001,[4])]
noncomputable def C (p:List Nat):Code:=(cod fn).sub p
def KR (Q:QT):KT:=Zfd pg fn.results.toList Q
theorem call (x0:Int) (v1 v2:Zay) (h:Zaa) (Q:QT) (ht :
 Zjb pg Zac v1 1 fun A=>Zjb pg Zac v1 1 fun B=>xSl (Zag h (A)) fun C D E E=>Zec .i64 (Zag h (v2)) fun E=>(0≤(E:Int)∧(E:Int) < (D:Nat))∧(Zbf C fun C D=>Zcd (Zbe h (.ptr (C,D + (Int.toNat E) * 3)) 3) fun F=>Zai F fun F G=>Zbd F fun F=>Zai G fun G H=>Zbd G fun G=>Zai H fun H I=>xSl H fun H J K L=>Zbq I (xSl (Zag h (B)) fun B I M M=>(Zbe h (.ptr (C,D + (Int.toNat E) * 3)) 3=Zbe h (.ptr (C,D + (Int.toNat E) * 3)) 3)∧(Zag h (v2)=Zag h (v2))∧(Zag h (A)=Zag h (A))∧(0≤(x0:Int)∧(x0:Int) < (I:Nat))∧(Zbf B fun B I=>Zcd (Zbe h (.ptr (B,I + (Int.toNat x0) * 3)) 3) fun B=>Zai B fun B I=>Zbd B fun B=>Zai I fun I M=>Zbd I fun I=>Zai M fun M N=>xSl M fun M O P R=>Zbq N ((Zbe h (.ptr (C,D + (Int.toNat E) * 3)) 3=Zbe h (.ptr (C,D + (Int.toNat E) * 3)) 3)∧(Zag h (v2)=Zag h (v2))∧(Zag h (A)=Zag h (A))∧Zak pg Zqy [.agg [.str F,.str G,.slice H J K L],.agg [.str B,.str I,.slice M O P R]] h fun B C=>
 Zca B fun B=>(Zag C (v2)=Zag h (v2))∧(Zag C (A)=Zag h (A))∧Q (.bool (!B)) C))))):Zak pg Zcq [.int .i64 x0,v1,v2] h Q:=
 Zak.of_body kp (c:=cod fn) (fn:=fn) Go.Proofs.Tryz.func127 (by kernel_rfl) (by kernel_rfl) (Nat.le_of_ble_eq_true (by kernel_rfl))
  (cast (by kernel_rfl) ht)
end Zmc
namespace Zcl
noncomputable abbrev fn:Func:=Go.Proofs.Tryz.f145
def kp:Zch:=[(3000002,[4]),(1000002,[0,1,7,8])]
noncomputable def C (p:List Nat):Code:=(cod fn).sub p
def KR (Q:QT):KT:=Zfd pg fn.results.toList Q
abbrev T2:=Pt→Nat→Nat→Bool→Zay→Zay→Int→Int→Zaa→Prop
def E2 (R2:T2) (env:Env) (h:Zaa):Prop:=Zbu 0 env fun v env=>xSl v fun a0 n0 c0 e0=>Zbu 1 env fun v env=>eFn Zcq v fun cs=>Zai cs fun c cs'=>Ycx c fun v1x0=>Zai cs' fun c cs''=>Ycx c fun v1x1=>Zbq cs'' (Zbu 7 env fun v env=>Zdz .i64 v fun x7=>Zbu 8 env fun v env=>Zdz .i64 v fun x8=>Zil env (R2 a0 n0 c0 e0 v1x0 v1x1 x7 x8 h))
theorem Zea {R2:T2} {env:Env} {h:Zaa} (hi:E2 R2 env h):∃ a0,∃ n0,∃ c0,∃ e0,∃ v1x0,∃ v1x1,∃ x7,∃ x8,env=[(0,.slice a0 n0 c0 e0),(1,.fn Zcq [v1x0,v1x1]),(7,.int .i64 x7),(8,.int .i64 x8)]∧R2 a0 n0 c0 e0 v1x0 v1x1 x7 x8 h:=by
 unfold E2 at hi
 have hi0:=hi
 clear hi
 obtain ⟨_,_,rfl,hi1⟩:=Zaf hi0
 obtain ⟨a0,n0,c0,e0,rfl,hi2⟩:=Zbp hi1
 obtain ⟨_,_,rfl,hi3⟩:=Zaf hi2
 obtain ⟨cs,rfl,hi4⟩:=Zwt hi3
 obtain ⟨c,cs',rfl,hi5⟩:=Zpg hi4
 obtain ⟨v1x0,hx,hi6⟩:=Zmx hi5
 replace hx:=(Option.some.inj hx).symm
 subst hx
 obtain ⟨c,cs'',rfl,hi7⟩:=Zpg hi6
 obtain ⟨v1x1,hx,hi8⟩:=Zmx hi7
 replace hx:=(Option.some.inj hx).symm
 subst hx
 obtain ⟨rfl,hi9⟩:=Ztl hi8
 obtain ⟨_,_,rfl,hi10⟩:=Zaf hi9
 obtain ⟨x7,rfl,hi11⟩:=Zav hi10
 obtain ⟨_,_,rfl,hi12⟩:=Zaf hi11
 obtain ⟨x8,rfl,hi13⟩:=Zav hi12
 obtain ⟨rfl,hi14⟩:=Zbl hi13
 have hi:=hi14
 exact ⟨a0,n0,c0,e0,v1x0,v1x1,x7,x8,rfl,hi⟩
def K0 (Q:QT):KT:=andThen (fun env' h'=>(match kp.find 4000007 with | some ks=>Den pg fn.ntmps (C [1,1]) (env'.keep ks) h' (KR Q) | none=>den pg fn.ntmps kp (C [1,1]) env' h' (KR Q))) (KR Q)
def K1 (Q:QT):KT:=Zcj 0 (K0 Q)
def K2 (Q:QT):KT:=left kp 2 (K1 Q)
def K3 (Q:QT) (R2:T2):KT:=rnd ((kp.find 1000002).getD []) (E2 R2) (K2 Q)
def L2 (Q:QT) (a0:Pt) (n0 c0:Nat) (e0:Bool) (v1x0 v1x1:Zay) (x7 x8:Int) (h:Zaa):Prop:=Zej (Den pg fn.ntmps (C [1,0,1,0,0])) ((kp.find 1000002).getD []) (K2 Q) [(0,.slice a0 n0 c0 e0),(1,.fn Zcq [v1x0,v1x1]),(7,.int .i64 x7),(8,.int .i64 x8)] h
def Zmz (Q:QT) (h:Zaa):Prop:=At (K1 Q) (.exit 0) [(4,.undef)] h
def L2t (Q:QT) (R2:T2) (a0:Pt) (n0 c0:Nat) (e0:Bool) (v1x0 v1x1:Zay) (x7 x8:Int) (h:Zaa):Prop:=
 bcase (decide ((x8:Int) < x7)) ((0≤(x8:Int)∧(x8:Int) < (n0:Nat))∧(Zbf a0 fun A B=>Zec .i64 (Zag h (.ptr (A,B + (Int.toNat x8) * 1))) fun A=>Zak pg Zcq [.int .i64 A,v1x0,v1x1] h fun A B=>
 Zca A fun A=>bcase A (Q (.int .i64 x8) B) (R2 a0 n0 c0 e0 v1x0 v1x1 x7 (IntKind.wrap .i64 (x8 + 1)) B))) (Zmz Q h)
theorem Zjc (Q:QT) (R2:T2) (a0:Pt) (n0 c0:Nat) (e0:Bool) (v1x0 v1x1:Zay) (x7 x8:Int) (h:Zaa) (ht:L2t Q R2 a0 n0 c0 e0 v1x0 v1x1 x7 x8 h):Den pg fn.ntmps (C [1,0,1,0,0]) [(0,.slice a0 n0 c0 e0),(1,.fn Zcq [v1x0,v1x1]),(7,.int .i64 x7),(8,.int .i64 x8)] h (K3 Q R2):=
 Zba (kp:=kp) (cast (by kernel_rfl) ht)
theorem L2ind (Q:QT) (a0:Pt) (n0 c0:Nat) (e0:Bool) (v1x0 v1x1:Zay) (x7:Int) {G:Type} (J:G→Int→Zaa→Prop) (m:G→Nat)
 (hr:∀ (g:G) (x8:Int) (h:Zaa),J g x8 h→∀ (R2:T2),(∀ g' (x8:Int) (h:Zaa),m g' < m g→J g' x8 h→R2 a0 n0 c0 e0 v1x0 v1x1 x7 x8 h)→L2t Q R2 a0 n0 c0 e0 v1x0 v1x1 x7 x8 h)
 (g:G) (x8:Int) (h:Zaa) (hj:J g x8 h):L2 Q a0 n0 c0 e0 v1x0 v1x1 x7 x8 h:=by
 let P:=fun (K:Int→Zaa→Prop) a0' n0' c0' e0' v1x0' v1x1' x7' x8 h=>a0=a0'∧n0=n0'∧c0=c0'∧e0=e0'∧v1x0=v1x0'∧v1x1=v1x1'∧x7=x7'∧K x8 h
 refine Zej.inv2 (fun g=>E2 (P (J g))) (fun g=>E2 (P fun x8 h=>∃ g',m g' < m g∧J g' x8 h)) m ?_ ?_ g ⟨rfl,rfl,rfl,rfl,rfl,rfl,rfl,hj⟩
 ·intro g env h hi
  obtain ⟨a0',n0',c0',e0',v1x0',v1x1',x7',x8,rfl,rfl,rfl,rfl,rfl,rfl,rfl,rfl,hj⟩:=Zea hi
  exact Zjc Q _ a0 n0 c0 e0 v1x0 v1x1 x7 x8 h (hr g x8 h hj (P fun x8 h=>∃ g',m g' < m g∧J g' x8 h) fun g' x8 h hlt hj=>⟨rfl,rfl,rfl,rfl,rfl,rfl,rfl,g',hlt,hj⟩)
 ·intro g env h hi
  obtain ⟨a0',n0',c0',e0',v1x0',v1x1',x7',x8,rfl,rfl,rfl,rfl,rfl,rfl,rfl,rfl,g',hlt,hj⟩:=Zea hi
  exact ⟨g',hlt,rfl,rfl,rfl,rfl,rfl,rfl,rfl,hj⟩
theorem A2x0i (Q:QT) (h:Zaa) (ht :
 Q (.int .i64 (-1)) h):Zmz Q h:=
 At.mk (cast (by kernel_rfl) ht)
theorem call (a0:Pt) (n0 c0:Nat) (e0:Bool) (v1x0 v1x1:Zay) (h:Zaa) (Q:QT) (ht :
 L2 Q a0 n0 c0 e0 v1x0 v1x1 (((n0:Nat):Int)) 0 h):Zak pg Zhc [.slice a0 n0 c0 e0,.fn Zcq [v1x0,v1x1]] h Q:=
 Zak.of_body kp (c:=cod fn) (fn:=fn) Go.Proofs.Tryz.func145 (by kernel_rfl) (by kernel_rfl) (Nat.le_of_ble_eq_true (by kernel_rfl))
  (cast (by kernel_rfl) ht)
end Zcl
namespace Zhp
noncomputable abbrev fn:Func:=Go.Proofs.Tryz.f105
def kp:Zch:=[(3000002,[4]),(1000002,[1,2,7,8,9])]
noncomputable def C (p:List Nat):Code:=(cod fn).sub p
def KR (Q:QT):KT:=Zfd pg fn.results.toList Q
abbrev T2:=Pt→Nat→Nat→Bool→Nat→Nat→Pt→Nat→Nat→Bool→Int→Int→Zaa→Prop
def E2 (R2:T2) (env:Env) (h:Zaa):Prop:=Zbu 1 env fun v env=>xSl v fun a1 n1 c1 e1=>Zbu 2 env fun v env=>Zgn v fun a=>Zbf a fun i2 o2=>Zbu 7 env fun v env=>xSl v fun a7 n7 c7 e7=>Zbu 8 env fun v env=>Zdz .i64 v fun x8=>Zbu 9 env fun v env=>Zdz .i64 v fun x9=>Zil env (R2 a1 n1 c1 e1 i2 o2 a7 n7 c7 e7 x8 x9 h)
theorem Zea {R2:T2} {env:Env} {h:Zaa} (hi:E2 R2 env h):∃ a1,∃ n1,∃ c1,∃ e1,∃ i2,∃ o2,∃ a7,∃ n7,∃ c7,∃ e7,∃ x8,∃ x9,env=[(1,.slice a1 n1 c1 e1),(2,.ptr (i2,o2)),(7,.slice a7 n7 c7 e7),(8,.int .i64 x8),(9,.int .i64 x9)]∧R2 a1 n1 c1 e1 i2 o2 a7 n7 c7 e7 x8 x9 h:=by
 unfold E2 at hi
 have hi0:=hi
 clear hi
 obtain ⟨_,_,rfl,hi1⟩:=Zaf hi0
 obtain ⟨a1,n1,c1,e1,rfl,hi2⟩:=Zbp hi1
 obtain ⟨_,_,rfl,hi3⟩:=Zaf hi2
 obtain ⟨a,rfl,hi4⟩:=Zbn hi3
 obtain ⟨i2,o2,rfl,hi5⟩:=Zbk hi4
 obtain ⟨_,_,rfl,hi6⟩:=Zaf hi5
 obtain ⟨a7,n7,c7,e7,rfl,hi7⟩:=Zbp hi6
 obtain ⟨_,_,rfl,hi8⟩:=Zaf hi7
 obtain ⟨x8,rfl,hi9⟩:=Zav hi8
 obtain ⟨_,_,rfl,hi10⟩:=Zaf hi9
 obtain ⟨x9,rfl,hi11⟩:=Zav hi10
 obtain ⟨rfl,hi12⟩:=Zbl hi11
 have hi:=hi12
 exact ⟨a1,n1,c1,e1,i2,o2,a7,n7,c7,e7,x8,x9,rfl,hi⟩
def K0 (Q:QT):KT:=andThen (fun env' h'=>(match kp.find 4000007 with | some ks=>Den pg fn.ntmps (C [1,1]) (env'.keep ks) h' (KR Q) | none=>den pg fn.ntmps kp (C [1,1]) env' h' (KR Q))) (KR Q)
def K1 (Q:QT):KT:=Zcj 0 (K0 Q)
def K2 (Q:QT):KT:=left kp 2 (K1 Q)
def K3 (Q:QT) (R2:T2):KT:=rnd ((kp.find 1000002).getD []) (E2 R2) (K2 Q)
def L2 (Q:QT) (a1:Pt) (n1 c1:Nat) (e1:Bool) (i2 o2:Nat) (a7:Pt) (n7 c7:Nat) (e7:Bool) (x8 x9:Int) (h:Zaa):Prop:=Zej (Den pg fn.ntmps (C [1,0,1,0,0])) ((kp.find 1000002).getD []) (K2 Q) [(1,.slice a1 n1 c1 e1),(2,.ptr (i2,o2)),(7,.slice a7 n7 c7 e7),(8,.int .i64 x8),(9,.int .i64 x9)] h
def Zmz (Q:QT) (h:Zaa):Prop:=At (K1 Q) (.exit 0) [(4,.undef)] h
def L2t (Q:QT) (R2:T2) (a1:Pt) (n1 c1:Nat) (e1:Bool) (i2 o2:Nat) (a7:Pt) (n7 c7:Nat) (e7:Bool) (x8 x9:Int) (h:Zaa):Prop:=
 bcase (decide ((x9:Int) < x8)) ((0≤(x9:Int)∧(x9:Int) < (n7:Nat))∧(Zbf a7 fun A B=>Zec .i64 (Zag h (.ptr (A,B + (Int.toNat x9) * 1))) fun A=>Zcf (h ++ [.cells Zkz [.int .i64 0] false]) fun B=>Zbt (Zbb B (.ptr (h.length,0)) [.int .i64 A]) fun A=>Zak pg Zhz [.slice a1 n1 c1 e1,.fn Zcq [.ptr (i2,o2),.ptr (h.length,0)]] A fun A B=>
 Zca A fun A=>bcase (!A) (Zec .i64 (Zag B (.ptr (h.length,0))) fun A=>Q (.int .i64 A) B) (R2 a1 n1 c1 e1 i2 o2 a7 n7 c7 e7 x8 (IntKind.wrap .i64 (x9 + 1)) B))) (Zmz Q h)
theorem Zjc (Q:QT) (R2:T2) (a1:Pt) (n1 c1:Nat) (e1:Bool) (i2 o2:Nat) (a7:Pt) (n7 c7:Nat) (e7:Bool) (x8 x9:Int) (h:Zaa) (ht:L2t Q R2 a1 n1 c1 e1 i2 o2 a7 n7 c7 e7 x8 x9 h):Den pg fn.ntmps (C [1,0,1,0,0]) [(1,.slice a1 n1 c1 e1),(2,.ptr (i2,o2)),(7,.slice a7 n7 c7 e7),(8,.int .i64 x8),(9,.int .i64 x9)] h (K3 Q R2):=
 Zba (kp:=kp) (cast (by kernel_rfl) ht)
theorem L2ind (Q:QT) (a1:Pt) (n1 c1:Nat) (e1:Bool) (i2 o2:Nat) (a7:Pt) (n7 c7:Nat) (e7:Bool) (x8:Int) {G:Type} (J:G→Int→Zaa→Prop) (m:G→Nat)
 (hr:∀ (g:G) (x9:Int) (h:Zaa),J g x9 h→∀ (R2:T2),(∀ g' (x9:Int) (h:Zaa),m g' < m g→J g' x9 h→R2 a1 n1 c1 e1 i2 o2 a7 n7 c7 e7 x8 x9 h)→L2t Q R2 a1 n1 c1 e1 i2 o2 a7 n7 c7 e7 x8 x9 h)
 (g:G) (x9:Int) (h:Zaa) (hj:J g x9 h):L2 Q a1 n1 c1 e1 i2 o2 a7 n7 c7 e7 x8 x9 h:=by
 let P:=fun (K:Int→Zaa→Prop) a1' n1' c1' e1' i2' o2' a7' n7' c7' e7' x8' x9 h=>a1=a1'∧n1=n1'∧c1=c1'∧e1=e1'∧i2=i2'∧o2=o2'∧a7=a7'∧n7=n7'∧c7=c7'∧e7=e7'∧x8=x8'∧K x9 h
 refine Zej.inv2 (fun g=>E2 (P (J g))) (fun g=>E2 (P fun x9 h=>∃ g',m g' < m g∧J g' x9 h)) m ?_ ?_ g ⟨rfl,rfl,rfl,rfl,rfl,rfl,rfl,rfl,rfl,rfl,rfl,hj⟩
 ·intro g env h hi
  obtain ⟨a1',n1',c1',e1',i2',o2',a7',n7',c7',e7',x8',x9,rfl,rfl,rfl,rfl,rfl,rfl,rfl,rfl,rfl,rfl,rfl,rfl,hj⟩:=Zea hi
  exact Zjc Q _ a1 n1 c1 e1 i2 o2 a7 n7 c7 e7 x8 x9 h (hr g x9 h hj (P fun x9 h=>∃ g',m g' < m g∧J g' x9 h) fun g' x9 h hlt hj=>⟨rfl,rfl,rfl,rfl,rfl,rfl,rfl,rfl,rfl,rfl,rfl,g',hlt,hj⟩)
 ·intro g env h hi
  obtain ⟨a1',n1',c1',e1',i2',o2',a7',n7',c7',e7',x8',x9,rfl,rfl,rfl,rfl,rfl,rfl,rfl,rfl,rfl,rfl,rfl,rfl,g',hlt,hj⟩:=Zea hi
  exact ⟨g',hlt,rfl,rfl,rfl,rfl,rfl,rfl,rfl,rfl,rfl,rfl,rfl,hj⟩
theorem A2x0i (Q:QT) (h:Zaa) (ht :
 Q (.int .i64 (-1)) h):Zmz Q h:=
 At.mk (cast (by kernel_rfl) ht)
theorem call (a0x0:Pt) (n0x0 c0x0:Nat) (e0x0:Bool) (a0x1:Pt) (n0x1 c0x1:Nat) (e0x1:Bool) (a1:Pt) (n1 c1:Nat) (e1:Bool) (h:Zaa) (Q:QT) (ht :
 Zcf (h ++ [.cells Zac [.slice a0x0 n0x0 c0x0 e0x0,.slice a0x1 n0x1 c0x1 e0x1] false]) fun A=>L2 Q a1 n1 c1 e1 h.length 0 a1 n1 c1 e1 (((n1:Nat):Int)) 0 A):Zak pg Zms [.agg [.slice a0x0 n0x0 c0x0 e0x0,.slice a0x1 n0x1 c0x1 e0x1],.slice a1 n1 c1 e1] h Q:=
 Zak.of_body kp (c:=cod fn) (fn:=fn) Go.Proofs.Tryz.func105 (by kernel_rfl) (by kernel_rfl) (Nat.le_of_ble_eq_true (by kernel_rfl))
  (cast (by kernel_rfl) ht)
end Zhp
namespace Zeq
noncomputable abbrev fn:Func:=Go.Proofs.Tryz.f126
def kp:Zch:=[]
noncomputable def C (p:List Nat):Code:=(cod fn).sub p
def KR (Q:QT):KT:=Zfd pg fn.results.toList Q
theorem call (a0:Pt) (n0 c0:Nat) (e0:Bool) (v1x0 v1x1:Zay) (h:Zaa) (Q:QT) (ht :
 Zak pg Zhc [.slice a0 n0 c0 e0,.fn Zcq [v1x0,v1x1]] h fun A B=>
 Zec .i64 A fun A=>Q (.bool (decide ((A:Int) ≥ 0))) B):Zak pg Zhz [.slice a0 n0 c0 e0,.fn Zcq [v1x0,v1x1]] h Q:=
 Zak.of_body kp (c:=cod fn) (fn:=fn) Go.Proofs.Tryz.func126 (by kernel_rfl) (by kernel_rfl) (Nat.le_of_ble_eq_true (by kernel_rfl))
  (cast (by kernel_rfl) ht)
end Zeq
namespace Zef
noncomputable abbrev fn:Func:=Go.Proofs.Tryz.f133
def kp:Zch:=[(3000003,[4]),(1000003,[2,5,18,19,20]),(3000007,[9,8,20,19,18,5,2]),(1000007,[2,5,8,9,18,19,20,24,25,26]),(4000010,[26,25,24,9,2,8,20,19,18,5])]
noncomputable def C (p:List Nat):Code:=(cod fn).sub p
def KR (Q:QT):KT:=Zfd pg fn.results.toList Q
abbrev T3:=Nat→Nat→Pt→Nat→Nat→Bool→Pt→Nat→Nat→Bool→Int→Int→Zaa→Prop
def E3 (R3:T3) (env:Env) (h:Zaa):Prop:=Zbu 2 env fun v env=>Zgn v fun a=>Zbf a fun i2 o2=>Zbu 5 env fun v env=>xSl v fun a5 n5 c5 e5=>Zbu 18 env fun v env=>xSl v fun a18 n18 c18 e18=>Zbu 19 env fun v env=>Zdz .i64 v fun x19=>Zbu 20 env fun v env=>Zdz .i64 v fun x20=>Zil env (R3 i2 o2 a5 n5 c5 e5 a18 n18 c18 e18 x19 x20 h)
theorem Zgd {R3:T3} {env:Env} {h:Zaa} (hi:E3 R3 env h):∃ i2,∃ o2,∃ a5,∃ n5,∃ c5,∃ e5,∃ a18,∃ n18,∃ c18,∃ e18,∃ x19,∃ x20,env=[(2,.ptr (i2,o2)),(5,.slice a5 n5 c5 e5),(18,.slice a18 n18 c18 e18),(19,.int .i64 x19),(20,.int .i64 x20)]∧R3 i2 o2 a5 n5 c5 e5 a18 n18 c18 e18 x19 x20 h:=by
 unfold E3 at hi
 have hi0:=hi
 clear hi
 obtain ⟨_,_,rfl,hi1⟩:=Zaf hi0
 obtain ⟨a,rfl,hi2⟩:=Zbn hi1
 obtain ⟨i2,o2,rfl,hi3⟩:=Zbk hi2
 obtain ⟨_,_,rfl,hi4⟩:=Zaf hi3
 obtain ⟨a5,n5,c5,e5,rfl,hi5⟩:=Zbp hi4
 obtain ⟨_,_,rfl,hi6⟩:=Zaf hi5
 obtain ⟨a18,n18,c18,e18,rfl,hi7⟩:=Zbp hi6
 obtain ⟨_,_,rfl,hi8⟩:=Zaf hi7
 obtain ⟨x19,rfl,hi9⟩:=Zav hi8
 obtain ⟨_,_,rfl,hi10⟩:=Zaf hi9
 obtain ⟨x20,rfl,hi11⟩:=Zav hi10
 obtain ⟨rfl,hi12⟩:=Zbl hi11
 have hi:=hi12
 exact ⟨i2,o2,a5,n5,c5,e5,a18,n18,c18,e18,x19,x20,rfl,hi⟩
abbrev T7:=Nat→Nat→Pt→Nat→Nat→Bool→Int→Bool→Pt→Nat→Nat→Bool→Int→Int→Pt→Nat→Nat→Bool→Int→Int→Zaa→Prop
def E7 (R7:T7) (env:Env) (h:Zaa):Prop:=Zbu 2 env fun v env=>Zgn v fun a=>Zbf a fun i2 o2=>Zbu 5 env fun v env=>xSl v fun a5 n5 c5 e5=>Zbu 8 env fun v env=>Zdz .i64 v fun x8=>Zbu 9 env fun v env=>Zca v fun x9=>Zbu 18 env fun v env=>xSl v fun a18 n18 c18 e18=>Zbu 19 env fun v env=>Zdz .i64 v fun x19=>Zbu 20 env fun v env=>Zdz .i64 v fun x20=>Zbu 24 env fun v env=>xSl v fun a24 n24 c24 e24=>Zbu 25 env fun v env=>Zdz .i64 v fun x25=>Zbu 26 env fun v env=>Zdz .i64 v fun x26=>Zil env (R7 i2 o2 a5 n5 c5 e5 x8 x9 a18 n18 c18 e18 x19 x20 a24 n24 c24 e24 x25 x26 h)
theorem Zyz {R7:T7} {env:Env} {h:Zaa} (hi:E7 R7 env h):∃ i2,∃ o2,∃ a5,∃ n5,∃ c5,∃ e5,∃ x8,∃ x9,∃ a18,∃ n18,∃ c18,∃ e18,∃ x19,∃ x20,∃ a24,∃ n24,∃ c24,∃ e24,∃ x25,∃ x26,env=[(2,.ptr (i2,o2)),(5,.slice a5 n5 c5 e5),(8,.int .i64 x8),(9,.bool x9),(18,.slice a18 n18 c18 e18),(19,.int .i64 x19),(20,.int .i64 x20),(24,.slice a24 n24 c24 e24),(25,.int .i64 x25),(26,.int .i64 x26)]∧R7 i2 o2 a5 n5 c5 e5 x8 x9 a18 n18 c18 e18 x19 x20 a24 n24 c24 e24 x25 x26 h:=by
 unfold E7 at hi
 have hi0:=hi
 clear hi
 obtain ⟨_,_,rfl,hi1⟩:=Zaf hi0
 obtain ⟨a,rfl,hi2⟩:=Zbn hi1
 obtain ⟨i2,o2,rfl,hi3⟩:=Zbk hi2
 obtain ⟨_,_,rfl,hi4⟩:=Zaf hi3
 obtain ⟨a5,n5,c5,e5,rfl,hi5⟩:=Zbp hi4
 obtain ⟨_,_,rfl,hi6⟩:=Zaf hi5
 obtain ⟨x8,rfl,hi7⟩:=Zav hi6
 obtain ⟨_,_,rfl,hi8⟩:=Zaf hi7
 obtain ⟨x9,rfl,hi9⟩:=Zxx hi8
 obtain ⟨_,_,rfl,hi10⟩:=Zaf hi9
 obtain ⟨a18,n18,c18,e18,rfl,hi11⟩:=Zbp hi10
 obtain ⟨_,_,rfl,hi12⟩:=Zaf hi11
 obtain ⟨x19,rfl,hi13⟩:=Zav hi12
 obtain ⟨_,_,rfl,hi14⟩:=Zaf hi13
 obtain ⟨x20,rfl,hi15⟩:=Zav hi14
 obtain ⟨_,_,rfl,hi16⟩:=Zaf hi15
 obtain ⟨a24,n24,c24,e24,rfl,hi17⟩:=Zbp hi16
 obtain ⟨_,_,rfl,hi18⟩:=Zaf hi17
 obtain ⟨x25,rfl,hi19⟩:=Zav hi18
 obtain ⟨_,_,rfl,hi20⟩:=Zaf hi19
 obtain ⟨x26,rfl,hi21⟩:=Zav hi20
 obtain ⟨rfl,hi22⟩:=Zbl hi21
 have hi:=hi22
 exact ⟨i2,o2,a5,n5,c5,e5,x8,x9,a18,n18,c18,e18,x19,x20,a24,n24,c24,e24,x25,x26,rfl,hi⟩
def K0 (Q:QT):KT:=andThen (fun env' h'=>(match kp.find 4000014 with | some ks=>Den pg fn.ntmps (C [1,1,1]) (env'.keep ks) h' (KR Q) | none=>den pg fn.ntmps kp (C [1,1,1]) env' h' (KR Q))) (KR Q)
def K1 (Q:QT):KT:=Zcj 0 (K0 Q)
def K2 (Q:QT):KT:=left kp 3 (K1 Q)
def K3 (Q:QT) (R3:T3):KT:=rnd ((kp.find 1000003).getD []) (E3 R3) (K2 Q)
def K4 (Q:QT) (R3:T3):KT:=andThen (fun env' h'=>(match kp.find 4000013 with | some ks=>Den pg fn.ntmps (C [1,1,0,1,0,0,1,1,1]) (env'.keep ks) h' (K3 Q R3) | none=>den pg fn.ntmps kp (C [1,1,0,1,0,0,1,1,1]) env' h' (K3 Q R3))) (K3 Q R3)
def K5 (Q:QT) (R3:T3):KT:=Zcj 1 (K4 Q R3)
def K6 (Q:QT) (R3:T3):KT:=andThen (fun env' h'=>(match kp.find 4000011 with | some ks=>Den pg fn.ntmps (C [1,1,0,1,0,0,1,1,0,0,1,1,1]) (env'.keep ks) h' (K5 Q R3) | none=>den pg fn.ntmps kp (C [1,1,0,1,0,0,1,1,0,0,1,1,1]) env' h' (K5 Q R3))) (K5 Q R3)
def K7 (Q:QT) (R3:T3):KT:=Zcj 2 (K6 Q R3)
def K8 (Q:QT) (R3:T3):KT:=left kp 7 (K7 Q R3)
def K9 (Q:QT) (R3:T3) (R7:T7):KT:=rnd ((kp.find 1000007).getD []) (E7 R7) (K8 Q R3)
def L3 (Q:QT) (i2 o2:Nat) (a5:Pt) (n5 c5:Nat) (e5:Bool) (a18:Pt) (n18 c18:Nat) (e18:Bool) (x19 x20:Int) (h:Zaa):Prop:=Zej (Den pg fn.ntmps (C [1,1,0,1,0,0])) ((kp.find 1000003).getD []) (K2 Q) [(2,.ptr (i2,o2)),(5,.slice a5 n5 c5 e5),(18,.slice a18 n18 c18 e18),(19,.int .i64 x19),(20,.int .i64 x20)] h
def L7 (Q:QT) (R3:T3) (i2 o2:Nat) (a5:Pt) (n5 c5:Nat) (e5:Bool) (x8:Int) (x9:Bool) (a18:Pt) (n18 c18:Nat) (e18:Bool) (x19 x20:Int) (a24:Pt) (n24 c24:Nat) (e24:Bool) (x25 x26:Int) (h:Zaa):Prop:=Zej (Den pg fn.ntmps (C [1,1,0,1,0,0,1,1,0,0,1,1,0,1,0,0])) ((kp.find 1000007).getD []) (K8 Q R3) [(2,.ptr (i2,o2)),(5,.slice a5 n5 c5 e5),(8,.int .i64 x8),(9,.bool x9),(18,.slice a18 n18 c18 e18),(19,.int .i64 x19),(20,.int .i64 x20),(24,.slice a24 n24 c24 e24),(25,.int .i64 x25),(26,.int .i64 x26)] h
def Ztf (Q:QT) (h:Zaa):Prop:=At (K1 Q) (.exit 0) [(4,.undef)] h
def J10 (Q:QT) (R3:T3) (R7:T7) (x26 x25:Int) (a24:Pt) (n24 c24:Nat) (e24 x9:Bool) (i2 o2:Nat) (x8 x20 x19:Int) (a18:Pt) (n18 c18:Nat) (e18:Bool) (a5:Pt) (n5 c5:Nat) (e5:Bool) (h:Zaa):Prop:=Den pg fn.ntmps (C [1,1,0,1,0,0,1,1,0,0,1,1,0,1,0,0,1,1,1]) [(26,.int .i64 x26),(25,.int .i64 x25),(24,.slice a24 n24 c24 e24),(9,.bool x9),(2,.ptr (i2,o2)),(8,.int .i64 x8),(20,.int .i64 x20),(19,.int .i64 x19),(18,.slice a18 n18 c18 e18),(5,.slice a5 n5 c5 e5)] h (K9 Q R3 R7)
def Ywy (Q:QT) (R3:T3) (x9:Bool) (x8 x20 x19:Int) (a18:Pt) (n18 c18:Nat) (e18:Bool) (a5:Pt) (n5 c5:Nat) (e5:Bool) (i2 o2:Nat) (h:Zaa):Prop:=At (K7 Q R3) (.exit 2) [(9,.bool x9),(8,.int .i64 x8),(20,.int .i64 x20),(19,.int .i64 x19),(18,.slice a18 n18 c18 e18),(5,.slice a5 n5 c5 e5),(2,.ptr (i2,o2))] h
def L3t (Q:QT) (R3:T3) (i2 o2:Nat) (a5:Pt) (n5 c5:Nat) (e5:Bool) (a18:Pt) (n18 c18:Nat) (e18:Bool) (x19 x20:Int) (h:Zaa):Prop:=
 bcase (decide ((x20:Int) < x19)) ((0≤(x20:Int)∧(x20:Int) < (n18:Nat))∧(Zbf a18 fun A B=>Zec .i64 (Zag h (.ptr (A,B + (Int.toNat x20) * 1))) fun A=>L7 Q R3 i2 o2 a5 n5 c5 e5 A true a18 n18 c18 e18 x19 x20 a5 n5 c5 e5 (((n5:Nat):Int)) 0 h)) (Ztf Q h)
theorem Zoe (Q:QT) (R3:T3) (i2 o2:Nat) (a5:Pt) (n5 c5:Nat) (e5:Bool) (a18:Pt) (n18 c18:Nat) (e18:Bool) (x19 x20:Int) (h:Zaa) (ht:L3t Q R3 i2 o2 a5 n5 c5 e5 a18 n18 c18 e18 x19 x20 h):Den pg fn.ntmps (C [1,1,0,1,0,0]) [(2,.ptr (i2,o2)),(5,.slice a5 n5 c5 e5),(18,.slice a18 n18 c18 e18),(19,.int .i64 x19),(20,.int .i64 x20)] h (K3 Q R3):=
 Zba (kp:=kp) (cast (by kernel_rfl) ht)
theorem L3ind (Q:QT) (i2 o2:Nat) (a5:Pt) (n5 c5:Nat) (e5:Bool) (a18:Pt) (n18 c18:Nat) (e18:Bool) (x19:Int) {G:Type} (J:G→Int→Zaa→Prop) (m:G→Nat)
 (hr:∀ (g:G) (x20:Int) (h:Zaa),J g x20 h→∀ (R3:T3),(∀ g' (x20:Int) (h:Zaa),m g' < m g→J g' x20 h→R3 i2 o2 a5 n5 c5 e5 a18 n18 c18 e18 x19 x20 h)→L3t Q R3 i2 o2 a5 n5 c5 e5 a18 n18 c18 e18 x19 x20 h)
 (g:G) (x20:Int) (h:Zaa) (hj:J g x20 h):L3 Q i2 o2 a5 n5 c5 e5 a18 n18 c18 e18 x19 x20 h:=by
 let P:=fun (K:Int→Zaa→Prop) i2' o2' a5' n5' c5' e5' a18' n18' c18' e18' x19' x20 h=>i2=i2'∧o2=o2'∧a5=a5'∧n5=n5'∧c5=c5'∧e5=e5'∧a18=a18'∧n18=n18'∧c18=c18'∧e18=e18'∧x19=x19'∧K x20 h
 refine Zej.inv2 (fun g=>E3 (P (J g))) (fun g=>E3 (P fun x20 h=>∃ g',m g' < m g∧J g' x20 h)) m ?_ ?_ g ⟨rfl,rfl,rfl,rfl,rfl,rfl,rfl,rfl,rfl,rfl,rfl,hj⟩
 ·intro g env h hi
  obtain ⟨i2',o2',a5',n5',c5',e5',a18',n18',c18',e18',x19',x20,rfl,rfl,rfl,rfl,rfl,rfl,rfl,rfl,rfl,rfl,rfl,rfl,hj⟩:=Zgd hi
  exact Zoe Q _ i2 o2 a5 n5 c5 e5 a18 n18 c18 e18 x19 x20 h (hr g x20 h hj (P fun x20 h=>∃ g',m g' < m g∧J g' x20 h) fun g' x20 h hlt hj=>⟨rfl,rfl,rfl,rfl,rfl,rfl,rfl,rfl,rfl,rfl,rfl,g',hlt,hj⟩)
 ·intro g env h hi
  obtain ⟨i2',o2',a5',n5',c5',e5',a18',n18',c18',e18',x19',x20,rfl,rfl,rfl,rfl,rfl,rfl,rfl,rfl,rfl,rfl,rfl,rfl,g',hlt,hj⟩:=Zgd hi
  exact ⟨g',hlt,rfl,rfl,rfl,rfl,rfl,rfl,rfl,rfl,rfl,rfl,rfl,hj⟩
def L7t (Q:QT) (R3:T3) (R7:T7) (i2 o2:Nat) (a5:Pt) (n5 c5:Nat) (e5:Bool) (x8:Int) (x9:Bool) (a18:Pt) (n18 c18:Nat) (e18:Bool) (x19 x20:Int) (a24:Pt) (n24 c24:Nat) (e24:Bool) (x25 x26:Int) (h:Zaa):Prop:=
 bcase (decide ((x26:Int) < x25)) ((0≤(x26:Int)∧(x26:Int) < (n24:Nat))∧(Zbf a24 fun A B=>Zec .i64 (Zag h (.ptr (A,B + (Int.toNat x26) * 1))) fun A=>bcase x9 (Zcd (Zbe h (.ptr (i2,o2)) 2) fun B=>Zai B fun B C=>xSl B fun B D E F=>Zai C fun C G=>xSl C fun C H I J=>Zbq G (Zak pg Zop [.agg [.slice B D E F,.slice C H I J],.int .i64 x8,.int .i64 A] h fun A B=>
 Zca A fun A=>J10 Q R3 R7 x26 x25 a24 n24 c24 e24 A i2 o2 x8 x20 x19 a18 n18 c18 e18 a5 n5 c5 e5 B)) (J10 Q R3 R7 x26 x25 a24 n24 c24 e24 false i2 o2 x8 x20 x19 a18 n18 c18 e18 a5 n5 c5 e5 h))) (Ywy Q R3 x9 x8 x20 x19 a18 n18 c18 e18 a5 n5 c5 e5 i2 o2 h)
theorem Ypf (Q:QT) (R3:T3) (R7:T7) (i2 o2:Nat) (a5:Pt) (n5 c5:Nat) (e5:Bool) (x8:Int) (x9:Bool) (a18:Pt) (n18 c18:Nat) (e18:Bool) (x19 x20:Int) (a24:Pt) (n24 c24:Nat) (e24:Bool) (x25 x26:Int) (h:Zaa) (ht:L7t Q R3 R7 i2 o2 a5 n5 c5 e5 x8 x9 a18 n18 c18 e18 x19 x20 a24 n24 c24 e24 x25 x26 h):Den pg fn.ntmps (C [1,1,0,1,0,0,1,1,0,0,1,1,0,1,0,0]) [(2,.ptr (i2,o2)),(5,.slice a5 n5 c5 e5),(8,.int .i64 x8),(9,.bool x9),(18,.slice a18 n18 c18 e18),(19,.int .i64 x19),(20,.int .i64 x20),(24,.slice a24 n24 c24 e24),(25,.int .i64 x25),(26,.int .i64 x26)] h (K9 Q R3 R7):=
 Zba (kp:=kp) (cast (by kernel_rfl) ht)
theorem L7ind (Q:QT) (R3:T3) (i2 o2:Nat) (a5:Pt) (n5 c5:Nat) (e5:Bool) (x8:Int) (a18:Pt) (n18 c18:Nat) (e18:Bool) (x19 x20:Int) (a24:Pt) (n24 c24:Nat) (e24:Bool) (x25:Int) {G:Type} (J:G→Bool→Int→Zaa→Prop) (m:G→Nat)
 (hr:∀ (g:G) (x9:Bool) (x26:Int) (h:Zaa),J g x9 x26 h→∀ (R7:T7),(∀ g' (x9:Bool) (x26:Int) (h:Zaa),m g' < m g→J g' x9 x26 h→R7 i2 o2 a5 n5 c5 e5 x8 x9 a18 n18 c18 e18 x19 x20 a24 n24 c24 e24 x25 x26 h)→L7t Q R3 R7 i2 o2 a5 n5 c5 e5 x8 x9 a18 n18 c18 e18 x19 x20 a24 n24 c24 e24 x25 x26 h)
 (g:G) (x9:Bool) (x26:Int) (h:Zaa) (hj:J g x9 x26 h):L7 Q R3 i2 o2 a5 n5 c5 e5 x8 x9 a18 n18 c18 e18 x19 x20 a24 n24 c24 e24 x25 x26 h:=by
 let P:=fun (K:Bool→Int→Zaa→Prop) i2' o2' a5' n5' c5' e5' x8' x9 a18' n18' c18' e18' x19' x20' a24' n24' c24' e24' x25' x26 h=>i2=i2'∧o2=o2'∧a5=a5'∧n5=n5'∧c5=c5'∧e5=e5'∧x8=x8'∧a18=a18'∧n18=n18'∧c18=c18'∧e18=e18'∧x19=x19'∧x20=x20'∧a24=a24'∧n24=n24'∧c24=c24'∧e24=e24'∧x25=x25'∧K x9 x26 h
 refine Zej.inv2 (fun g=>E7 (P (J g))) (fun g=>E7 (P fun x9 x26 h=>∃ g',m g' < m g∧J g' x9 x26 h)) m ?_ ?_ g ⟨rfl,rfl,rfl,rfl,rfl,rfl,rfl,rfl,rfl,rfl,rfl,rfl,rfl,rfl,rfl,rfl,rfl,rfl,hj⟩
 ·intro g env h hi
  obtain ⟨i2',o2',a5',n5',c5',e5',x8',x9,a18',n18',c18',e18',x19',x20',a24',n24',c24',e24',x25',x26,rfl,rfl,rfl,rfl,rfl,rfl,rfl,rfl,rfl,rfl,rfl,rfl,rfl,rfl,rfl,rfl,rfl,rfl,rfl,hj⟩:=Zyz hi
  exact Ypf Q R3 (P fun x9 x26 h=>∃ g',m g' < m g∧J g' x9 x26 h) i2 o2 a5 n5 c5 e5 x8 x9 a18 n18 c18 e18 x19 x20 a24 n24 c24 e24 x25 x26 h (hr g x9 x26 h hj (P fun x9 x26 h=>∃ g',m g' < m g∧J g' x9 x26 h) fun g' x9 x26 h hlt hj=>⟨rfl,rfl,rfl,rfl,rfl,rfl,rfl,rfl,rfl,rfl,rfl,rfl,rfl,rfl,rfl,rfl,rfl,rfl,g',hlt,hj⟩)
 ·intro g env h hi
  obtain ⟨i2',o2',a5',n5',c5',e5',x8',x9,a18',n18',c18',e18',x19',x20',a24',n24',c24',e24',x25',x26,rfl,rfl,rfl,rfl,rfl,rfl,rfl,rfl,rfl,rfl,rfl,rfl,rfl,rfl,rfl,rfl,rfl,rfl,rfl,g',hlt,hj⟩:=Zyz hi
  exact ⟨g',hlt,rfl,rfl,rfl,rfl,rfl,rfl,rfl,rfl,rfl,rfl,rfl,rfl,rfl,rfl,rfl,rfl,rfl,rfl,hj⟩
theorem A3x0i (Q:QT) (h:Zaa) (ht :
 Q (.int .i64 (-1)) h):Ztf Q h:=
 At.mk (cast (by kernel_rfl) ht)
theorem J10i (Q:QT) (R3:T3) (R7:T7) (x26 x25:Int) (a24:Pt) (n24 c24:Nat) (e24 x9:Bool) (i2 o2:Nat) (x8 x20 x19:Int) (a18:Pt) (n18 c18:Nat) (e18:Bool) (a5:Pt) (n5 c5:Nat) (e5:Bool) (h:Zaa) (ht :
 R7 i2 o2 a5 n5 c5 e5 x8 x9 a18 n18 c18 e18 x19 x20 a24 n24 c24 e24 x25 (IntKind.wrap .i64 (x26 + 1)) h):J10 Q R3 R7 x26 x25 a24 n24 c24 e24 x9 i2 o2 x8 x20 x19 a18 n18 c18 e18 a5 n5 c5 e5 h:=
 Zba (kp:=kp) (cast (by kernel_rfl) ht)
theorem A7x2i (Q:QT) (R3:T3) (x9:Bool) (x8 x20 x19:Int) (a18:Pt) (n18 c18:Nat) (e18:Bool) (a5:Pt) (n5 c5:Nat) (e5:Bool) (i2 o2:Nat) (h:Zaa) (ht :
 bcase x9 (Q (.int .i64 x8) h) (R3 i2 o2 a5 n5 c5 e5 a18 n18 c18 e18 x19 (IntKind.wrap .i64 (x20 + 1)) h)):Ywy Q R3 x9 x8 x20 x19 a18 n18 c18 e18 a5 n5 c5 e5 i2 o2 h:=
 At.mk (cast (by kernel_rfl) ht)
theorem call (a0x0:Pt) (n0x0 c0x0:Nat) (e0x0:Bool) (a0x1:Pt) (n0x1 c0x1:Nat) (e0x1:Bool) (x1x0 x1x1:List Nat) (h:Zaa) (Q:QT) (ht :
 Zcf (h ++ [.cells Zac [.slice a0x0 n0x0 c0x0 e0x0,.slice a0x1 n0x1 c0x1 e0x1] false]) fun A=>Zcf (A ++ [.cells Zab [.str x1x0,.str x1x1] false]) fun B=>Zcd (Zbe B (.ptr (h.length,0)) 2) fun C=>Zai C fun C D=>xSl C fun C E F G=>Zai D fun D H=>xSl D fun D I J K=>Zbq H (Zcd (Zbe B (.ptr (A.length,0)) 2) fun A=>Zai A fun A H=>Zbd A fun A=>Zai H fun H L=>Zbd H fun H=>Zbq L (Zak pg Zlp [.agg [.slice C E F G,.slice D I J K],.agg [.str A,.str H]] B fun A B=>
 Zlf A fun A=>Zai A fun A C=>xSl A fun A D E F=>Zai C fun C G=>Zca C fun C=>Zbq G (L3 Q h.length 0 A D E F A D E F (((D:Nat):Int)) 0 B)))):Zak pg Zmq [.agg [.slice a0x0 n0x0 c0x0 e0x0,.slice a0x1 n0x1 c0x1 e0x1],.agg [.str x1x0,.str x1x1]] h Q:=
 Zak.of_body kp (c:=cod fn) (fn:=fn) Go.Proofs.Tryz.func133 (by kernel_rfl) (by kernel_rfl) (Nat.le_of_ble_eq_true (by kernel_rfl))
  (cast (by kernel_rfl) ht)
end Zef
end Go.Sim

set_option maxRecDepth 100000
set_option maxHeartbeats 0
set_option linter.unusedVariables false
namespace Go.Sim
open Go Go.RowKit
namespace Zte
noncomputable abbrev fn:Func:=Go.Proofs.Tryz.f44
def kp:Zch:=[]
noncomputable def C (p:List Nat):Code:=(cod fn).sub p
def KR (Q:QT):KT:=Zfd pg fn.results.toList Q
theorem call (a0x0:Pt) (n0x0 c0x0:Nat) (e0x0:Bool) (a0x1:Pt) (n0x1 c0x1:Nat) (e0x1:Bool) (x1x0 x1x1:List Nat) (h:Zaa) (Q:QT) (ht :
 Zcf (h ++ [.cells Zac [.slice a0x0 n0x0 c0x0 e0x0,.slice a0x1 n0x1 c0x1 e0x1] false]) fun A=>Zcf (A ++ [.cells Zab [.str x1x0,.str x1x1] false]) fun B=>Zcd (Zbe B (.ptr (h.length,0)) 2) fun C=>Zai C fun C D=>xSl C fun C E F G=>Zai D fun D H=>xSl D fun D I J K=>Zbq H (Zak pg Zic [.agg [.slice C E F G,.slice D I J K]] B fun B C=>
 Zca B fun B=>bcase B (Zcd (Zbe C (.ptr (h.length,0)) 2) fun B=>Zai B fun B D=>xSl B fun B E F G=>Zai D fun D H=>xSl D fun D I J K=>Zbq H (Zcd (Zbe C (.ptr (A.length,0)) 2) fun A=>Zai A fun A H=>Zbd A fun A=>Zai H fun H L=>Zbd H fun H=>Zbq L (Zak pg Zmo [.agg [.slice B E F G,.slice D I J K],.agg [.str A,.str H]] C fun A B=>
 Zca A fun A=>Q (.bool A) B))) (Q (.bool false) C))):Zak pg Zok [.agg [.slice a0x0 n0x0 c0x0 e0x0,.slice a0x1 n0x1 c0x1 e0x1],.agg [.str x1x0,.str x1x1]] h Q:=
 Zak.of_body kp (c:=cod fn) (fn:=fn) Go.Proofs.Tryz.func44 (by kernel_rfl) (by kernel_rfl) (Nat.le_of_ble_eq_true (by kernel_rfl))
  (cast (by kernel_rfl) ht)
end Zte
namespace Znh
noncomputable abbrev fn:Func:=Go.Proofs.Tryz.f77
def kp:Zch:=[]
noncomputable def C (p:List Nat):Code:=(cod fn).sub p
def KR (Q:QT):KT:=Zfd pg fn.results.toList Q
theorem call (x0x0 x0x1:List Nat) (a0x2:Pt) (n0x2 c0x2:Nat) (e0x2:Bool) (v1:Zay) (h:Zaa) (Q:QT) (ht :
 Zcf (h ++ [.cells Zad [.str x0x0,.str x0x1,.slice a0x2 n0x2 c0x2 e0x2] false]) fun A=>Zbd (Zag A (.ptr (h.length,0 + 0 + 1))) fun B=>Zjb pg Zab v1 1 fun C=>Zbd (Zag A (C)) fun C=>Zak pg Zkf [.str B,.str C] A fun A B=>
 Zca A fun A=>Q (.bool A) B):Zak pg Zcy [.agg [.str x0x0,.str x0x1,.slice a0x2 n0x2 c0x2 e0x2],v1] h Q:=
 Zak.of_body kp (c:=cod fn) (fn:=fn) Go.Proofs.Tryz.func77 (by kernel_rfl) (by kernel_rfl) (Nat.le_of_ble_eq_true (by kernel_rfl))
  (cast (by kernel_rfl) ht)
end Znh
namespace Zcn
noncomputable abbrev fn:Func:=Go.Proofs.Tryz.f76
def kp:Zch:=[(3000003,[7]),(1000003,[1,2,7,12,13,14]),(4000007,[14,13,12,1,2,7])]
noncomputable def C (p:List Nat):Code:=(cod fn).sub p
def KR (Q:QT):KT:=Zfd pg fn.results.toList Q
abbrev T3:=List Nat→Zay→Pt→Nat→Nat→Bool→Pt→Nat→Nat→Bool→Int→Int→Zaa→Prop
def E3 (R3:T3) (env:Env) (h:Zaa):Prop:=Zbu 1 env fun v env=>Zbd v fun x1=>Zbu 2 env fun v env=>eFn Zcy v fun cs=>Zai cs fun c cs'=>Ycx c fun v2x0=>Zbq cs' (Zbu 7 env fun v env=>xSl v fun a7 n7 c7 e7=>Zbu 12 env fun v env=>xSl v fun a12 n12 c12 e12=>Zbu 13 env fun v env=>Zdz .i64 v fun x13=>Zbu 14 env fun v env=>Zdz .i64 v fun x14=>Zil env (R3 x1 v2x0 a7 n7 c7 e7 a12 n12 c12 e12 x13 x14 h))
theorem Zgd {R3:T3} {env:Env} {h:Zaa} (hi:E3 R3 env h):∃ x1,∃ v2x0,∃ a7,∃ n7,∃ c7,∃ e7,∃ a12,∃ n12,∃ c12,∃ e12,∃ x13,∃ x14,env=[(1,.str x1),(2,.fn Zcy [v2x0]),(7,.slice a7 n7 c7 e7),(12,.slice a12 n12 c12 e12),(13,.int .i64 x13),(14,.int .i64 x14)]∧R3 x1 v2x0 a7 n7 c7 e7 a12 n12 c12 e12 x13 x14 h:=by
 unfold E3 at hi
 have hi0:=hi
 clear hi
 obtain ⟨_,_,rfl,hi1⟩:=Zaf hi0
 obtain ⟨x1,rfl,hi2⟩:=Zed hi1
 obtain ⟨_,_,rfl,hi3⟩:=Zaf hi2
 obtain ⟨cs,rfl,hi4⟩:=Zwt hi3
 obtain ⟨c,cs',rfl,hi5⟩:=Zpg hi4
 obtain ⟨v2x0,hx,hi6⟩:=Zmx hi5
 replace hx:=(Option.some.inj hx).symm
 subst hx
 obtain ⟨rfl,hi7⟩:=Ztl hi6
 obtain ⟨_,_,rfl,hi8⟩:=Zaf hi7
 obtain ⟨a7,n7,c7,e7,rfl,hi9⟩:=Zbp hi8
 obtain ⟨_,_,rfl,hi10⟩:=Zaf hi9
 obtain ⟨a12,n12,c12,e12,rfl,hi11⟩:=Zbp hi10
 obtain ⟨_,_,rfl,hi12⟩:=Zaf hi11
 obtain ⟨x13,rfl,hi13⟩:=Zav hi12
 obtain ⟨_,_,rfl,hi14⟩:=Zaf hi13
 obtain ⟨x14,rfl,hi15⟩:=Zav hi14
 obtain ⟨rfl,hi16⟩:=Zbl hi15
 have hi:=hi16
 exact ⟨x1,v2x0,a7,n7,c7,e7,a12,n12,c12,e12,x13,x14,rfl,hi⟩
def K0 (Q:QT):KT:=andThen (fun env' h'=>(match kp.find 4000008 with | some ks=>Den pg fn.ntmps (C [1,1,1]) (env'.keep ks) h' (KR Q) | none=>den pg fn.ntmps kp (C [1,1,1]) env' h' (KR Q))) (KR Q)
def K1 (Q:QT):KT:=Zcj 0 (K0 Q)
def K2 (Q:QT):KT:=left kp 3 (K1 Q)
def K3 (Q:QT) (R3:T3):KT:=rnd ((kp.find 1000003).getD []) (E3 R3) (K2 Q)
def L3 (Q:QT) (x1:List Nat) (v2x0:Zay) (a7:Pt) (n7 c7:Nat) (e7:Bool) (a12:Pt) (n12 c12:Nat) (e12:Bool) (x13 x14:Int) (h:Zaa):Prop:=Zej (Den pg fn.ntmps (C [1,1,0,1,0,0])) ((kp.find 1000003).getD []) (K2 Q) [(1,.str x1),(2,.fn Zcy [v2x0]),(7,.slice a7 n7 c7 e7),(12,.slice a12 n12 c12 e12),(13,.int .i64 x13),(14,.int .i64 x14)] h
def J7 (Q:QT) (R3:T3) (x14 x13:Int) (a12:Pt) (n12 c12:Nat) (e12:Bool) (x1:List Nat) (v2x0:Zay) (a7:Pt) (n7 c7:Nat) (e7:Bool) (h:Zaa):Prop:=Den pg fn.ntmps (C [1,1,0,1,0,0,1,1,1]) [(14,.int .i64 x14),(13,.int .i64 x13),(12,.slice a12 n12 c12 e12),(1,.str x1),(2,.fn Zcy [v2x0]),(7,.slice a7 n7 c7 e7)] h (K3 Q R3)
def Ztf (Q:QT) (a7:Pt) (n7 c7:Nat) (e7:Bool) (h:Zaa):Prop:=At (K1 Q) (.exit 0) [(7,.slice a7 n7 c7 e7)] h
def L3t (Q:QT) (R3:T3) (x1:List Nat) (v2x0:Zay) (a7:Pt) (n7 c7:Nat) (e7:Bool) (a12:Pt) (n12 c12:Nat) (e12:Bool) (x13 x14:Int) (h:Zaa):Prop:=
 bcase (decide ((x14:Int) < x13)) ((0≤(x14:Int)∧(x14:Int) < (n12:Nat))∧(Zbf a12 fun A B=>Zcd (Zbe h (.ptr (A,B + (Int.toNat x14) * 3)) 3) fun A=>Zai A fun A B=>Zbd A fun A=>Zai B fun B C=>Zbd B fun B=>Zai C fun C D=>xSl C fun C E F G=>Zbq D (Zcf (h ++ [.cells Zad [.str [],.str [],.slice none 0 0 true] false]) fun D=>Zbt (Zbb D (.ptr (h.length,0)) [.str A,.str B,.slice C E F G]) fun A=>Zbd (Zag A (.ptr (h.length,0 + 0 + 0))) fun B=>bcase (decide (B=x1)) (Zcd (Zbe A (.ptr (h.length,0)) 3) fun B=>Zai B fun B C=>Zbd B fun B=>Zai C fun C D=>Zbd C fun C=>Zai D fun D E=>xSl D fun D F G H=>Zbq E (Zak pg Zcy [.agg [.str B,.str C,.slice D F G H],v2x0] A fun B C=>
 Zca B fun B=>bcase B (Zcf (C ++ [.cells Zkz [.int .i64 x14] false]) fun B=>Zci pg Yix B (.slice a7 n7 c7 e7) (.slice (C.length,0) 1 1 true) fun B D=>xSl B fun B E F G=>J7 Q R3 x14 x13 a12 n12 c12 e12 x1 v2x0 B E F G D) (J7 Q R3 x14 x13 a12 n12 c12 e12 x1 v2x0 a7 n7 c7 e7 C))) (J7 Q R3 x14 x13 a12 n12 c12 e12 x1 v2x0 a7 n7 c7 e7 A)))) (Ztf Q a7 n7 c7 e7 h)
theorem Zoe (Q:QT) (R3:T3) (x1:List Nat) (v2x0:Zay) (a7:Pt) (n7 c7:Nat) (e7:Bool) (a12:Pt) (n12 c12:Nat) (e12:Bool) (x13 x14:Int) (h:Zaa) (ht:L3t Q R3 x1 v2x0 a7 n7 c7 e7 a12 n12 c12 e12 x13 x14 h):Den pg fn.ntmps (C [1,1,0,1,0,0]) [(1,.str x1),(2,.fn Zcy [v2x0]),(7,.slice a7 n7 c7 e7),(12,.slice a12 n12 c12 e12),(13,.int .i64 x13),(14,.int .i64 x14)] h (K3 Q R3):=
 Zba (kp:=kp) (cast (by kernel_rfl) ht)
theorem L3ind (Q:QT) (x1:List Nat) (v2x0:Zay) (a12:Pt) (n12 c12:Nat) (e12:Bool) (x13:Int) {G:Type} (J:G→Pt→Nat→Nat→Bool→Int→Zaa→Prop) (m:G→Nat)
 (hr:∀ (g:G) (a7:Pt) (n7 c7:Nat) (e7:Bool) (x14:Int) (h:Zaa),J g a7 n7 c7 e7 x14 h→∀ (R3:T3),(∀ g' (a7:Pt) (n7 c7:Nat) (e7:Bool) (x14:Int) (h:Zaa),m g' < m g→J g' a7 n7 c7 e7 x14 h→R3 x1 v2x0 a7 n7 c7 e7 a12 n12 c12 e12 x13 x14 h)→L3t Q R3 x1 v2x0 a7 n7 c7 e7 a12 n12 c12 e12 x13 x14 h)
 (g:G) (a7:Pt) (n7 c7:Nat) (e7:Bool) (x14:Int) (h:Zaa) (hj:J g a7 n7 c7 e7 x14 h):L3 Q x1 v2x0 a7 n7 c7 e7 a12 n12 c12 e12 x13 x14 h:=by
 let P:=fun (K:Pt→Nat→Nat→Bool→Int→Zaa→Prop) x1' v2x0' a7 n7 c7 e7 a12' n12' c12' e12' x13' x14 h=>x1=x1'∧v2x0=v2x0'∧a12=a12'∧n12=n12'∧c12=c12'∧e12=e12'∧x13=x13'∧K a7 n7 c7 e7 x14 h
 refine Zej.inv2 (fun g=>E3 (P (J g))) (fun g=>E3 (P fun a7 n7 c7 e7 x14 h=>∃ g',m g' < m g∧J g' a7 n7 c7 e7 x14 h)) m ?_ ?_ g ⟨rfl,rfl,rfl,rfl,rfl,rfl,rfl,hj⟩
 ·intro g env h hi
  obtain ⟨x1',v2x0',a7,n7,c7,e7,a12',n12',c12',e12',x13',x14,rfl,rfl,rfl,rfl,rfl,rfl,rfl,rfl,hj⟩:=Zgd hi
  exact Zoe Q _ x1 v2x0 a7 n7 c7 e7 a12 n12 c12 e12 x13 x14 h (hr g a7 n7 c7 e7 x14 h hj (P fun a7 n7 c7 e7 x14 h=>∃ g',m g' < m g∧J g' a7 n7 c7 e7 x14 h) fun g' a7 n7 c7 e7 x14 h hlt hj=>⟨rfl,rfl,rfl,rfl,rfl,rfl,rfl,g',hlt,hj⟩)
 ·intro g env h hi
  obtain ⟨x1',v2x0',a7,n7,c7,e7,a12',n12',c12',e12',x13',x14,rfl,rfl,rfl,rfl,rfl,rfl,rfl,rfl,g',hlt,hj⟩:=Zgd hi
  exact ⟨g',hlt,rfl,rfl,rfl,rfl,rfl,rfl,rfl,hj⟩
theorem J7i (Q:QT) (R3:T3) (x14 x13:Int) (a12:Pt) (n12 c12:Nat) (e12:Bool) (x1:List Nat) (v2x0:Zay) (a7:Pt) (n7 c7:Nat) (e7:Bool) (h:Zaa) (ht :
 R3 x1 v2x0 a7 n7 c7 e7 a12 n12 c12 e12 x13 (IntKind.wrap .i64 (x14 + 1)) h):J7 Q R3 x14 x13 a12 n12 c12 e12 x1 v2x0 a7 n7 c7 e7 h:=
 Zba (kp:=kp) (cast (by kernel_rfl) ht)
theorem A3x0i (Q:QT) (a7:Pt) (n7 c7:Nat) (e7:Bool) (h:Zaa) (ht :
 Q (.slice a7 n7 c7 e7) h):Ztf Q a7 n7 c7 e7 h:=
 At.mk (cast (by kernel_rfl) ht)
theorem call (a0x0:Pt) (n0x0 c0x0:Nat) (e0x0:Bool) (a0x1:Pt) (n0x1 c0x1:Nat) (e0x1:Bool) (x1:List Nat) (v2x0:Zay) (h:Zaa) (Q:QT) (ht :
 Zcf (h ++ [.cells Zac [.slice a0x0 n0x0 c0x0 e0x0,.slice a0x1 n0x1 c0x1 e0x1] false]) fun A=>Zcf (A ++ [.cells Zkz [] false]) fun B=>xSl (Zag B (.ptr (h.length,0 + 1))) fun C D E F=>L3 Q x1 v2x0 (A.length,0) 0 0 true C D E F (((D:Nat):Int)) 0 B):Zak pg Zuc [.agg [.slice a0x0 n0x0 c0x0 e0x0,.slice a0x1 n0x1 c0x1 e0x1],.str x1,.fn Zcy [v2x0]] h Q:=
 Zak.of_body kp (c:=cod fn) (fn:=fn) Go.Proofs.Tryz.func76 (by kernel_rfl) (by kernel_rfl) (Nat.le_of_ble_eq_true (by kernel_rfl))
  (cast (by kernel_rfl) ht)
end Zcn
namespace Zrm
noncomputable abbrev fn:Func:=Go.Proofs.Tryz.f45
def kp:Zch:=[]
noncomputable def C (p:List Nat):Code:=(cod fn).sub p
def KR (Q:QT):KT:=Zfd pg fn.results.toList Q
theorem call (a0x0:Pt) (n0x0 c0x0:Nat) (e0x0:Bool) (a0x1:Pt) (n0x1 c0x1:Nat) (e0x1:Bool) (x1x0 x1x1:List Nat) (h:Zaa) (Q:QT) (ht :
 Zcf (h ++ [.cells Zac [.slice a0x0 n0x0 c0x0 e0x0,.slice a0x1 n0x1 c0x1 e0x1] false]) fun A=>Zcf (A ++ [.cells Zab [.str x1x0,.str x1x1] false]) fun B=>Zcd (Zbe B (.ptr (h.length,0)) 2) fun C=>Zai C fun C D=>xSl C fun C E F G=>Zai D fun D H=>xSl D fun D I J K=>Zbq H (Zbd (Zag B (.ptr (A.length,0 + 0))) fun H=>Zak pg Zuc [.agg [.slice C E F G,.slice D I J K],.str H,.fn Zcy [.ptr (A.length,0)]] B fun A B=>
 xSl A fun A C D E=>Q (.slice A C D E) B)):Zak pg Znl [.agg [.slice a0x0 n0x0 c0x0 e0x0,.slice a0x1 n0x1 c0x1 e0x1],.agg [.str x1x0,.str x1x1]] h Q:=
 Zak.of_body kp (c:=cod fn) (fn:=fn) Go.Proofs.Tryz.func45 (by kernel_rfl) (by kernel_rfl) (Nat.le_of_ble_eq_true (by kernel_rfl))
  (cast (by kernel_rfl) ht)
end Zrm
namespace Zew
noncomputable abbrev fn:Func:=Go.Proofs.Tryz.f132
def kp:Zch:=[(3000003,[5]),(1000003,[3,5,10,11,12]),(4000007,[12,11,10,3,5])]
noncomputable def C (p:List Nat):Code:=(cod fn).sub p
def KR (Q:QT):KT:=Zfd pg fn.results.toList Q
abbrev T3:=Nat→Nat→Pt→Nat→Nat→Bool→Pt→Nat→Nat→Bool→Int→Int→Zaa→Prop
def E3 (R3:T3) (env:Env) (h:Zaa):Prop:=Zbu 3 env fun v env=>Zgn v fun a=>Zbf a fun i3 o3=>Zbu 5 env fun v env=>xSl v fun a5 n5 c5 e5=>Zbu 10 env fun v env=>xSl v fun a10 n10 c10 e10=>Zbu 11 env fun v env=>Zdz .i64 v fun x11=>Zbu 12 env fun v env=>Zdz .i64 v fun x12=>Zil env (R3 i3 o3 a5 n5 c5 e5 a10 n10 c10 e10 x11 x12 h)
theorem Zgd {R3:T3} {env:Env} {h:Zaa} (hi:E3 R3 env h):∃ i3,∃ o3,∃ a5,∃ n5,∃ c5,∃ e5,∃ a10,∃ n10,∃ c10,∃ e10,∃ x11,∃ x12,env=[(3,.ptr (i3,o3)),(5,.slice a5 n5 c5 e5),(10,.slice a10 n10 c10 e10),(11,.int .i64 x11),(12,.int .i64 x12)]∧R3 i3 o3 a5 n5 c5 e5 a10 n10 c10 e10 x11 x12 h:=by
 unfold E3 at hi
 have hi0:=hi
 clear hi
 obtain ⟨_,_,rfl,hi1⟩:=Zaf hi0
 obtain ⟨a,rfl,hi2⟩:=Zbn hi1
 obtain ⟨i3,o3,rfl,hi3⟩:=Zbk hi2
 obtain ⟨_,_,rfl,hi4⟩:=Zaf hi3
 obtain ⟨a5,n5,c5,e5,rfl,hi5⟩:=Zbp hi4
 obtain ⟨_,_,rfl,hi6⟩:=Zaf hi5
 obtain ⟨a10,n10,c10,e10,rfl,hi7⟩:=Zbp hi6
 obtain ⟨_,_,rfl,hi8⟩:=Zaf hi7
 obtain ⟨x11,rfl,hi9⟩:=Zav hi8
 obtain ⟨_,_,rfl,hi10⟩:=Zaf hi9
 obtain ⟨x12,rfl,hi11⟩:=Zav hi10
 obtain ⟨rfl,hi12⟩:=Zbl hi11
 have hi:=hi12
 exact ⟨i3,o3,a5,n5,c5,e5,a10,n10,c10,e10,x11,x12,rfl,hi⟩
def K0 (Q:QT):KT:=andThen (fun env' h'=>(match kp.find 4000008 with | some ks=>Den pg fn.ntmps (C [1,1,1]) (env'.keep ks) h' (KR Q) | none=>den pg fn.ntmps kp (C [1,1,1]) env' h' (KR Q))) (KR Q)
def K1 (Q:QT):KT:=Zcj 0 (K0 Q)
def K2 (Q:QT):KT:=left kp 3 (K1 Q)
def K3 (Q:QT) (R3:T3):KT:=rnd ((kp.find 1000003).getD []) (E3 R3) (K2 Q)
def L3 (Q:QT) (i3 o3:Nat) (a5:Pt) (n5 c5:Nat) (e5:Bool) (a10:Pt) (n10 c10:Nat) (e10:Bool) (x11 x12:Int) (h:Zaa):Prop:=Zej (Den pg fn.ntmps (C [1,1,0,1,0,0])) ((kp.find 1000003).getD []) (K2 Q) [(3,.ptr (i3,o3)),(5,.slice a5 n5 c5 e5),(10,.slice a10 n10 c10 e10),(11,.int .i64 x11),(12,.int .i64 x12)] h
def J7 (Q:QT) (R3:T3) (x12 x11:Int) (a10:Pt) (n10 c10:Nat) (e10:Bool) (i3 o3:Nat) (a5:Pt) (n5 c5:Nat) (e5:Bool) (h:Zaa):Prop:=Den pg fn.ntmps (C [1,1,0,1,0,0,1,1,1]) [(12,.int .i64 x12),(11,.int .i64 x11),(10,.slice a10 n10 c10 e10),(3,.ptr (i3,o3)),(5,.slice a5 n5 c5 e5)] h (K3 Q R3)
def Ztf (Q:QT) (a5:Pt) (n5 c5:Nat) (e5:Bool) (h:Zaa):Prop:=At (K1 Q) (.exit 0) [(5,.slice a5 n5 c5 e5)] h
def L3t (Q:QT) (R3:T3) (i3 o3:Nat) (a5:Pt) (n5 c5:Nat) (e5:Bool) (a10:Pt) (n10 c10:Nat) (e10:Bool) (x11 x12:Int) (h:Zaa):Prop:=
 bcase (decide ((x12:Int) < x11)) ((0≤(x12:Int)∧(x12:Int) < (n10:Nat))∧(Zbf a10 fun A B=>Zcd (Zbe h (.ptr (A,B + (Int.toNat x12) * 3)) 3) fun A=>Zai A fun A B=>Zbd A fun A=>Zai B fun B C=>Zbd B fun B=>Zai C fun C D=>xSl C fun C E F G=>Zbq D (Zcf (h ++ [.cells Zad [.str [],.str [],.slice none 0 0 true] false]) fun D=>Zbt (Zbb D (.ptr (h.length,0)) [.str A,.str B,.slice C E F G]) fun A=>Zbd (Zag A (.ptr (h.length,0 + 0 + 0))) fun B=>Zbd (Zag A (.ptr (i3,o3 + 0))) fun C=>bcase (decide (B=C)) (Zbd (Zag A (.ptr (h.length,0 + 0 + 1))) fun B=>Zbd (Zag A (.ptr (i3,o3 + 1))) fun C=>Zak pg Zkg [.str B,.str C] A fun B C=>
 Zca B fun B=>bcase B (Zcf (C ++ [.cells Zkz [.int .i64 x12] false]) fun B=>Zci pg Yix B (.slice a5 n5 c5 e5) (.slice (C.length,0) 1 1 true) fun B D=>xSl B fun B E F G=>J7 Q R3 x12 x11 a10 n10 c10 e10 i3 o3 B E F G D) (J7 Q R3 x12 x11 a10 n10 c10 e10 i3 o3 a5 n5 c5 e5 C)) (J7 Q R3 x12 x11 a10 n10 c10 e10 i3 o3 a5 n5 c5 e5 A)))) (Ztf Q a5 n5 c5 e5 h)
theorem Zoe (Q:QT) (R3:T3) (i3 o3:Nat) (a5:Pt) (n5 c5:Nat) (e5:Bool) (a10:Pt) (n10 c10:Nat) (e10:Bool) (x11 x12:Int) (h:Zaa) (ht:L3t Q R3 i3 o3 a5 n5 c5 e5 a10 n10 c10 e10 x11 x12 h):Den pg fn.ntmps (C [1,1,0,1,0,0]) [(3,.ptr (i3,o3)),(5,.slice a5 n5 c5 e5),(10,.slice a10 n10 c10 e10),(11,.int .i64 x11),(12,.int .i64 x12)] h (K3 Q R3):=
 Zba (kp:=kp) (cast (by kernel_rfl) ht)
theorem L3ind (Q:QT) (i3 o3:Nat) (a10:Pt) (n10 c10:Nat) (e10:Bool) (x11:Int) {G:Type} (J:G→Pt→Nat→Nat→Bool→Int→Zaa→Prop) (m:G→Nat)
 (hr:∀ (g:G) (a5:Pt) (n5 c5:Nat) (e5:Bool) (x12:Int) (h:Zaa),J g a5 n5 c5 e5 x12 h→∀ (R3:T3),(∀ g' (a5:Pt) (n5 c5:Nat) (e5:Bool) (x12:Int) (h:Zaa),m g' < m g→J g' a5 n5 c5 e5 x12 h→R3 i3 o3 a5 n5 c5 e5 a10 n10 c10 e10 x11 x12 h)→L3t Q R3 i3 o3 a5 n5 c5 e5 a10 n10 c10 e10 x11 x12 h)
 (g:G) (a5:Pt) (n5 c5:Nat) (e5:Bool) (x12:Int) (h:Zaa) (hj:J g a5 n5 c5 e5 x12 h):L3 Q i3 o3 a5 n5 c5 e5 a10 n10 c10 e10 x11 x12 h:=by
 let P:=fun (K:Pt→Nat→Nat→Bool→Int→Zaa→Prop) i3' o3' a5 n5 c5 e5 a10' n10' c10' e10' x11' x12 h=>i3=i3'∧o3=o3'∧a10=a10'∧n10=n10'∧c10=c10'∧e10=e10'∧x11=x11'∧K a5 n5 c5 e5 x12 h
 refine Zej.inv2 (fun g=>E3 (P (J g))) (fun g=>E3 (P fun a5 n5 c5 e5 x12 h=>∃ g',m g' < m g∧J g' a5 n5 c5 e5 x12 h)) m ?_ ?_ g ⟨rfl,rfl,rfl,rfl,rfl,rfl,rfl,hj⟩
 ·intro g env h hi
  obtain ⟨i3',o3',a5,n5,c5,e5,a10',n10',c10',e10',x11',x12,rfl,rfl,rfl,rfl,rfl,rfl,rfl,rfl,hj⟩:=Zgd hi
  exact Zoe Q _ i3 o3 a5 n5 c5 e5 a10 n10 c10 e10 x11 x12 h (hr g a5 n5 c5 e5 x12 h hj (P fun a5 n5 c5 e5 x12 h=>∃ g',m g' < m g∧J g' a5 n5 c5 e5 x12 h) fun g' a5 n5 c5 e5 x12 h hlt hj=>⟨rfl,rfl,rfl,rfl,rfl,rfl,rfl,g',hlt,hj⟩)
 ·intro g env h hi
  obtain ⟨i3',o3',a5,n5,c5,e5,a10',n10',c10',e10',x11',x12,rfl,rfl,rfl,rfl,rfl,rfl,rfl,rfl,g',hlt,hj⟩:=Zgd hi
  exact ⟨g',hlt,rfl,rfl,rfl,rfl,rfl,rfl,rfl,hj⟩
theorem J7i (Q:QT) (R3:T3) (x12 x11:Int) (a10:Pt) (n10 c10:Nat) (e10:Bool) (i3 o3:Nat) (a5:Pt) (n5 c5:Nat) (e5:Bool) (h:Zaa) (ht :
 R3 i3 o3 a5 n5 c5 e5 a10 n10 c10 e10 x11 (IntKind.wrap .i64 (x12 + 1)) h):J7 Q R3 x12 x11 a10 n10 c10 e10 i3 o3 a5 n5 c5 e5 h:=
 Zba (kp:=kp) (cast (by kernel_rfl) ht)
theorem A3x0i (Q:QT) (a5:Pt) (n5 c5:Nat) (e5:Bool) (h:Zaa) (ht :
 Q (.slice a5 n5 c5 e5) h):Ztf Q a5 n5 c5 e5 h:=
 At.mk (cast (by kernel_rfl) ht)
theorem call (a0x0:Pt) (n0x0 c0x0:Nat) (e0x0:Bool) (a0x1:Pt) (n0x1 c0x1:Nat) (e0x1:Bool) (x1x0 x1x1:List Nat) (h:Zaa) (Q:QT) (ht :
 Zcf (h ++ [.cells Zac [.slice a0x0 n0x0 c0x0 e0x0,.slice a0x1 n0x1 c0x1 e0x1] false]) fun A=>Zcf (A ++ [.cells Zab [.str x1x0,.str x1x1] false]) fun B=>Zcf (B ++ [.cells Zkz [] false]) fun C=>xSl (Zag C (.ptr (h.length,0 + 1))) fun D E F G=>L3 Q A.length 0 (B.length,0) 0 0 true D E F G (((E:Nat):Int)) 0 C):Zak pg Zip [.agg [.slice a0x0 n0x0 c0x0 e0x0,.slice a0x1 n0x1 c0x1 e0x1],.agg [.str x1x0,.str x1x1]] h Q:=
 Zak.of_body kp (c:=cod fn) (fn:=fn) Go.Proofs.Tryz.func132 (by kernel_rfl) (by kernel_rfl) (Nat.le_of_ble_eq_true (by kernel_rfl))
  (cast (by kernel_rfl) ht)
end Zew
namespace Zpz
noncomputable abbrev fn:Func:=Go.Proofs.Tryz.f150
def kp:Zch:=[]
noncomputable def C (p:List Nat):Code:=(cod fn).sub p
def KR (Q:QT):KT:=Zfd pg fn.results.toList Q
theorem call (a0x0:Pt) (n0x0 c0x0:Nat) (e0x0:Bool) (a0x1:Pt) (n0x1 c0x1:Nat) (e0x1:Bool) (x1x0 x1x1:List Nat) (h:Zaa) (Q:QT) (ht :
 Zcf (h ++ [.cells Zac [.slice a0x0 n0x0 c0x0 e0x0,.slice a0x1 n0x1 c0x1 e0x1] false]) fun A=>Zcf (A ++ [.cells Zab [.str x1x0,.str x1x1] false]) fun B=>Zcd (Zbe B (.ptr (h.length,0)) 2) fun C=>Zai C fun C D=>xSl C fun C E F G=>Zai D fun D H=>xSl D fun D I J K=>Zbq H (Zcd (Zbe B (.ptr (A.length,0)) 2) fun H=>Zai H fun H L=>Zbd H fun H=>Zai L fun L M=>Zbd L fun L=>Zbq M (Zak pg Ziv [.agg [.slice C E F G,.slice D I J K],.agg [.str H,.str L]] B fun B C=>
 Zca B fun B=>bcase (!B) (Zcf (C ++ [.cells Zkz [] false]) fun B=>Q (.tup [.slice (C.length,0) 0 0 true,.bool false]) B) (Zcd (Zbe C (.ptr (h.length,0)) 2) fun B=>Zai B fun B D=>xSl B fun B E F G=>Zai D fun D H=>xSl D fun D I J K=>Zbq H (Zcd (Zbe C (.ptr (A.length,0)) 2) fun A=>Zai A fun A H=>Zbd A fun A=>Zai H fun H L=>Zbd H fun H=>Zbq L (Zak pg Zip [.agg [.slice B E F G,.slice D I J K],.agg [.str A,.str H]] C fun A B=>
 xSl A fun A C D E=>Q (.tup [.slice A C D E,.bool true]) B)))))):Zak pg Zlp [.agg [.slice a0x0 n0x0 c0x0 e0x0,.slice a0x1 n0x1 c0x1 e0x1],.agg [.str x1x0,.str x1x1]] h Q:=
 Zak.of_body kp (c:=cod fn) (fn:=fn) Go.Proofs.Tryz.func150 (by kernel_rfl) (by kernel_rfl) (Nat.le_of_ble_eq_true (by kernel_rfl))
  (cast (by kernel_rfl) ht)
end Zpz
end Go.Sim

set_option maxRecDepth 100000
set_option maxHeartbeats 0
set_option linter.unusedVariables false
namespace Go.Sim
open Go Go.RowKit
namespace Zvc
noncomputable abbrev fn:Func:=Go.Proofs.Tryz.f128
def kp:Zch:=[]
noncomputable def C (p:List Nat):Code:=(cod fn).sub p
def KR (Q:QT):KT:=Zfd pg fn.results.toList Q
theorem call (x0x0 x0x1:List Nat) (a0x2:Pt) (n0x2 c0x2:Nat) (e0x2:Bool) (x1x0 x1x1:List Nat) (a1x2:Pt) (n1x2 c1x2:Nat) (e1x2:Bool) (h:Zaa) (Q:QT) (ht :
 Zcf (h ++ [.cells Zad [.str x0x0,.str x0x1,.slice a0x2 n0x2 c0x2 e0x2] false]) fun A=>Zcf (A ++ [.cells Zad [.str x1x0,.str x1x1,.slice a1x2 n1x2 c1x2 e1x2] false]) fun B=>Zbd (Zag B (.ptr (h.length,0 + 0 + 0))) fun C=>Zbd (Zag B (.ptr (A.length,0 + 0 + 0))) fun D=>bcase (decide (C=D)) (Zbd (Zag B (.ptr (A.length,0 + 0 + 1))) fun A=>Zbd (Zag B (.ptr (h.length,0 + 0 + 1))) fun C=>Zak pg Zkf [.str A,.str C] B fun A C=>
 Zca A fun A=>Q (.bool A) C) (Q (.bool false) B)):Zak pg Zqy [.agg [.str x0x0,.str x0x1,.slice a0x2 n0x2 c0x2 e0x2],.agg [.str x1x0,.str x1x1,.slice a1x2 n1x2 c1x2 e1x2]] h Q:=
 Zak.of_body kp (c:=cod fn) (fn:=fn) Go.Proofs.Tryz.func128 (by kernel_rfl) (by kernel_rfl) (Nat.le_of_ble_eq_true (by kernel_rfl))
  (cast (by kernel_rfl) ht)
end Zvc
namespace Zoo
noncomputable abbrev fn:Func:=Go.Proofs.Tryz.f151
def kp:Zch:=[(4000003,[3,1,2]),(2000003,[6])]
noncomputable def C (p:List Nat):Code:=(cod fn).sub p
def KR (Q:QT):KT:=Zfd pg fn.results.toList Q
def J3 (Q:QT) (i3 o3:Nat) (x1 x2:Int) (h:Zaa):Prop:=Den pg fn.ntmps (C [1,1]) [(3,.ptr (i3,o3)),(1,.int .i64 x1),(2,.int .i64 x2)] h (KR Q)
theorem J3i (Q:QT) (i3 o3:Nat) (x1 x2:Int) (h:Zaa) (ht :
 xSl (Zag h (.ptr (i3,o3 + 1))) fun A B C C=>(0≤(x1:Int)∧(x1:Int) < (B:Nat))∧(Zbf A fun A B=>Zbd (Zag h (.ptr (A,B + (Int.toNat x1) * 3 + 0 + 0))) fun C=>xSl (Zag h (.ptr (i3,o3 + 1))) fun D E F F=>(Zag h (.ptr (A,B + (Int.toNat x1) * 3 + 0 + 0))=Zag h (.ptr (A,B + (Int.toNat x1) * 3 + 0 + 0)))∧(Zag h (.ptr (i3,o3 + 1))=Zag h (.ptr (i3,o3 + 1)))∧(0≤(x2:Int)∧(x2:Int) < (E:Nat))∧(Zbf D fun D E=>Zbd (Zag h (.ptr (D,E + (Int.toNat x2) * 3 + 0 + 0))) fun D=>(Zag h (.ptr (A,B + (Int.toNat x1) * 3 + 0 + 0))=Zag h (.ptr (A,B + (Int.toNat x1) * 3 + 0 + 0)))∧(Zag h (.ptr (i3,o3 + 1))=Zag h (.ptr (i3,o3 + 1)))∧bcase (decide (C=D)) (xSl (Zag h (.ptr (i3,o3 + 1))) fun C D E E=>(0≤(x2:Int)∧(x2:Int) < (D:Nat))∧(Zbf C fun C D=>Zbd (Zag h (.ptr (C,D + (Int.toNat x2) * 3 + 0 + 1))) fun E=>xSl (Zag h (.ptr (i3,o3 + 1))) fun F G H H=>(Zag h (.ptr (C,D + (Int.toNat x2) * 3 + 0 + 1))=Zag h (.ptr (C,D + (Int.toNat x2) * 3 + 0 + 1)))∧(Zag h (.ptr (i3,o3 + 1))=Zag h (.ptr (i3,o3 + 1)))∧(Zag h (.ptr (A,B + (Int.toNat x1) * 3 + 0 + 0))=Zag h (.ptr (A,B + (Int.toNat x1) * 3 + 0 + 0)))∧(Zag h (.ptr (i3,o3 + 1))=Zag h (.ptr (i3,o3 + 1)))∧(0≤(x1:Int)∧(x1:Int) < (G:Nat))∧(Zbf F fun F G=>Zbd (Zag h (.ptr (F,G + (Int.toNat x1) * 3 + 0 + 1))) fun F=>(Zag h (.ptr (C,D + (Int.toNat x2) * 3 + 0 + 1))=Zag h (.ptr (C,D + (Int.toNat x2) * 3 + 0 + 1)))∧(Zag h (.ptr (i3,o3 + 1))=Zag h (.ptr (i3,o3 + 1)))∧(Zag h (.ptr (A,B + (Int.toNat x1) * 3 + 0 + 0))=Zag h (.ptr (A,B + (Int.toNat x1) * 3 + 0 + 0)))∧(Zag h (.ptr (i3,o3 + 1))=Zag h (.ptr (i3,o3 + 1)))∧Zak pg Zkg [.str E,.str F] h fun C D=>
 Zca C fun C=>(Zag D (.ptr (i3,o3 + 1))=Zag h (.ptr (i3,o3 + 1)))∧(Zag D (.ptr (A,B + (Int.toNat x1) * 3 + 0 + 0))=Zag h (.ptr (A,B + (Int.toNat x1) * 3 + 0 + 0)))∧(Zag D (.ptr (i3,o3 + 1))=Zag h (.ptr (i3,o3 + 1)))∧Q (.bool C) D))) ((Zag h (.tup [])=Zag h (.tup []))∧(Zag h (.tup [])=Zag h (.tup []))∧(Zag h (.ptr (A,B + (Int.toNat x1) * 3 + 0 + 0))=Zag h (.ptr (A,B + (Int.toNat x1) * 3 + 0 + 0)))∧(Zag h (.ptr (i3,o3 + 1))=Zag h (.ptr (i3,o3 + 1)))∧(Zag h (.tup [])=Zag h (.tup []))∧(Zag h (.tup [])=Zag h (.tup []))∧(Zag h (.ptr (A,B + (Int.toNat x1) * 3 + 0 + 0))=Zag h (.ptr (A,B + (Int.toNat x1) * 3 + 0 + 0)))∧(Zag h (.ptr (i3,o3 + 1))=Zag h (.ptr (i3,o3 + 1)))∧(Zag h (.tup [])=Zag h (.tup []))∧(Zag h (.ptr (A,B + (Int.toNat x1) * 3 + 0 + 0))=Zag h (.ptr (A,B + (Int.toNat x1) * 3 + 0 + 0)))∧(Zag h (.ptr (i3,o3 + 1))=Zag h (.ptr (i3,o3 + 1)))∧Q (.bool false) h)))):J3 Q i3 o3 x1 x2 h:=
 Zba (kp:=kp) (cast (by kernel_rfl) ht)
theorem call (a0x0:Pt) (n0x0 c0x0:Nat) (e0x0:Bool) (a0x1:Pt) (n0x1 c0x1:Nat) (e0x1:Bool) (x1 x2:Int) (h:Zaa) (Q:QT) (ht :
 Zcf (h ++ [.cells Zac [.slice a0x0 n0x0 c0x0 e0x0,.slice a0x1 n0x1 c0x1 e0x1] false]) fun A=>Zcd (Zbe A (.ptr (h.length,0)) 2) fun B=>Zai B fun B C=>xSl B fun B D E F=>Zai C fun C G=>xSl C fun C H I J=>Zbq G (Zak pg Zgm [.agg [.slice B D E F,.slice C H I J]] A fun A B=>
 Zca A fun A=>bcase (!A) (Q (.bool false) B) (xSl (Zag B (.ptr (h.length,0 + 1))) fun A A C C=>Zak pg Znk [.int .i64 x1,.int .i64 0,.int .i64 (IntKind.wrap .i64 ((((A:Nat):Int)) - 1))] B fun A B=>
 Zca A fun A=>bcase (!A) (Q (.bool false) B) (xSl (Zag B (.ptr (h.length,0 + 1))) fun A A C C=>Zak pg Znk [.int .i64 x2,.int .i64 0,.int .i64 (IntKind.wrap .i64 ((((A:Nat):Int)) - 1))] B fun A B=>
 Zca A fun A=>bcase (!A) (Q (.bool false) B) (J3 Q h.length 0 x1 x2 B))))):Zak pg Zop [.agg [.slice a0x0 n0x0 c0x0 e0x0,.slice a0x1 n0x1 c0x1 e0x1],.int .i64 x1,.int .i64 x2] h Q:=
 Zak.of_body kp (c:=cod fn) (fn:=fn) Go.Proofs.Tryz.func151 (by kernel_rfl) (by kernel_rfl) (Nat.le_of_ble_eq_true (by kernel_rfl))
  (cast (by kernel_rfl) ht)
end Zoo
end Go.Sim
