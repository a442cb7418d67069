/- A part of the proof of a statement of this seat: see the text that holds the theorem. No condition. -/
import Derived.Test.YtflfcofeedjblaaGreatDoorNm
set_option linter.unusedVariables false
set_option linter.unusedSimpArgs false
set_option linter.all false
set_option maxRecDepth 100000
set_option maxHeartbeats 0
set_option linter.unusedVariables false
namespace Go.Sim
open Go Go.RowKit
namespace Zhf
noncomputable abbrev fn:Func:=Go.Proofs.Tryz.f55
def kp:Zch:=[(3000003,[3]),(1000003,[0,3,4]),(4000004,[4,0,3])]
noncomputable def C (p:List Nat):Code:=(cod fn).sub p
def KR (Q:QT):KT:=Zfd pg fn.results.toList Q
abbrev T3:=List Nat→List Nat→Int→Zaa→Prop
def E3 (R3:T3) (env:Env) (h:Zaa):Prop:=Zbu 0 env fun v env=>Zbd v fun x0=>Zbu 3 env fun v env=>Zbd v fun x3=>Zbu 4 env fun v env=>Zdz .i32 v fun x4=>Zin env (R3 x0 x3 x4 h)
theorem Zgc {R3:T3} {env:Env} {h:Zaa} (hi:E3 R3 env h):∃ x0,∃ x3,∃ x4,env=[(0,.str x0),(3,.str x3),(4,.int .i32 x4)]∧R3 x0 x3 x4 h:=by
 unfold E3 at hi
 repeat ((first | (have k:=Zaf hi; clear hi; obtain ⟨_,_,e,hi⟩:=k) | (have k:=Zed hi; clear hi; obtain ⟨_,e,hi⟩:=k) | (have k:=Zav hi; clear hi; obtain ⟨_,e,hi⟩:=k)); subst e)
 obtain ⟨rfl,hi⟩:=Zbl hi
 exact ⟨_,_,_,rfl,hi⟩
def K0 (Q:QT):KT:=andThen (fun env' h'=>(match kp.find 4000007 with | some ks=>Den pg fn.ntmps (C [1,1,1]) (env'.keep ks) h' (KR Q) | none=>den pg fn.ntmps kp (C [1,1,1]) env' h' (KR Q))) (KR Q)
def K1 (Q:QT):KT:=Zcj 0 (K0 Q)
def K2 (Q:QT):KT:=left kp 3 (K1 Q)
def K3 (Q:QT) (R3:T3):KT:=rnd ((kp.find 1000003).getD []) (E3 R3) (K2 Q)
def L3 (Q:QT) (x0 x3:List Nat) (x4:Int) (h:Zaa):Prop:=Zej (Den pg fn.ntmps (C [1,1,0,1,0,0])) ((kp.find 1000003).getD []) (K2 Q) [(0,.str x0),(3,.str x3),(4,.int .i32 x4)] h
def J4 (Q:QT) (R3:T3) (x4:Int) (x0 x3:List Nat) (h:Zaa):Prop:=Den pg fn.ntmps (C [1,1,0,1,0,0,1,1]) [(4,.int .i32 x4),(0,.str x0),(3,.str x3)] h (K3 Q R3)
def Ztc (Q:QT) (x3:List Nat) (h:Zaa):Prop:=At (K1 Q) (.exit 0) [(3,.str x3)] h
def L3t (Q:QT) (R3:T3) (x0 x3:List Nat) (x4:Int) (h:Zaa):Prop:=
 bcase (decide ((x4:Int)≤84)) (Zak pg Zhv [.str x0,.int .u8 (IntKind.wrap .u8 (x4))] h fun A B=>
 Zeb .i64 A fun A=>bcase (decide ((A:Int) ≥ 0)) (Zcf (B ++ [.cells Yas [.int .u8 (IntKind.wrap .u8 (x4))] false]) fun A=>Zcd (rowOf A (B.length,0) 1) fun C=>Zoc C fun C=>List.length x3 + List.length C≤9223372036854775807∧(J4 Q R3 x4 x0 (x3 ++ C) A)) (J4 Q R3 x4 x0 x3 B)) (Ztc Q x3 h)
theorem Zok (Q:QT) (R3:T3) (x0 x3:List Nat) (x4:Int) (h:Zaa) (ht:L3t Q R3 x0 x3 x4 h):Den pg fn.ntmps (C [1,1,0,1,0,0]) [(0,.str x0),(3,.str x3),(4,.int .i32 x4)] h (K3 Q R3):=
 Zba (kp:=kp) (cast (by kernel_rfl) ht)
theorem L3ind (Q:QT) (x0:List Nat) {G:Type} (J:G→List Nat→Int→Zaa→Prop) (m:G→Nat)
 (hr:∀ (g:G) (x3:List Nat) (x4:Int) (h:Zaa),J g x3 x4 h→∀ (R3:T3),(∀ g' (x3:List Nat) (x4:Int) (h:Zaa),m g' < m g→J g' x3 x4 h→R3 x0 x3 x4 h)→L3t Q R3 x0 x3 x4 h)
 (g:G) (x3:List Nat) (x4:Int) (h:Zaa) (hj:J g x3 x4 h):L3 Q x0 x3 x4 h:=by
 let P:=fun (K:List Nat→Int→Zaa→Prop) x0' x3 x4 h=>x0=x0'∧K x3 x4 h
 refine Zej.inv2 (fun g=>E3 (P (J g))) (fun g=>E3 (P fun x3 x4 h=>∃ g',m g' < m g∧J g' x3 x4 h)) m ?_ ?_ g ⟨rfl,hj⟩
 ·intro g env h hi
  obtain ⟨x0',x3,x4,rfl,rfl,hj⟩:=Zgc hi
  exact Zok Q _ x0 x3 x4 h (hr g x3 x4 h hj (P fun x3 x4 h=>∃ g',m g' < m g∧J g' x3 x4 h) fun g' x3 x4 h hlt hj=>⟨rfl,g',hlt,hj⟩)
 ·intro g env h hi
  obtain ⟨x0',x3,x4,rfl,rfl,g',hlt,hj⟩:=Zgc hi
  exact ⟨g',hlt,rfl,hj⟩
theorem J4i (Q:QT) (R3:T3) (x4:Int) (x0 x3:List Nat) (h:Zaa) (ht :
 R3 x0 x3 (IntKind.wrap .i32 (x4 + 1)) h):J4 Q R3 x4 x0 x3 h:=
 Zba (kp:=kp) (cast (by kernel_rfl) ht)
theorem A3x0i (Q:QT) (x3:List Nat) (h:Zaa) (ht :
 Q (.str x3) h):Ztc Q x3 h:=
 At.mk (cast (by kernel_rfl) ht)
theorem call (x0:List Nat) (h:Zaa) (Q:QT) (ht :
 L3 Q x0 [] 65 h):Zak pg Zps [.str x0] h Q:=
 Zak.of_body kp (c:=cod fn) (fn:=fn) Go.Proofs.Tryz.func55 (by kernel_rfl) (by kernel_rfl) (Nat.le_of_ble_eq_true (by kernel_rfl))
  (cast (by kernel_rfl) ht)
end Zhf
namespace Zey
noncomputable abbrev fn:Func:=Go.Proofs.Tryz.f31
def kp:Zch:=[(2000004,[2,5,6]),(3000006,[6,5]),(1000006,[2,5,6,23,24]),(3000008,[6,24,23,2,5]),(1000008,[2,5,6,23,24,27,28]),(2000010,[28,27,6,2,24,23,5]),(3000015,[5]),(1000015,[5,6,50,51])]
noncomputable def C (p:List Nat):Code:=(cod fn).sub p
def KR (Q:QT):KT:=Zfd pg fn.results.toList Q
abbrev T6:=Nat→Nat→List Nat→List Nat→Int→Int→Zaa→Prop
def E6 (R6:T6) (env:Env) (h:Zaa):Prop:=Zbu 2 env fun v env=>Zgn v fun a=>Zbf a fun i2 o2=>Zbu 5 env fun v env=>Zbd v fun x5=>Zbu 6 env fun v env=>Zbd v fun x6=>Zbu 23 env fun v env=>Zdz .i64 v fun x23=>Zbu 24 env fun v env=>Zdz .i64 v fun x24=>Zin env (R6 i2 o2 x5 x6 x23 x24 h)
theorem Zlw {R6:T6} {env:Env} {h:Zaa} (hi:E6 R6 env h):∃ i2,∃ o2,∃ x5,∃ x6,∃ x23,∃ x24,env=[(2,.ptr (i2,o2)),(5,.str x5),(6,.str x6),(23,.int .i64 x23),(24,.int .i64 x24)]∧R6 i2 o2 x5 x6 x23 x24 h:=by
 unfold E6 at hi
 have hi0:=hi
 clear hi
 obtain ⟨_,_,rfl,hi1⟩:=Zaf hi0
 obtain ⟨a,rfl,hi2⟩:=Zbn hi1
 obtain ⟨i2,o2,rfl,hi3⟩:=Zbk hi2
 obtain ⟨_,_,rfl,hi4⟩:=Zaf hi3
 obtain ⟨x5,rfl,hi5⟩:=Zed hi4
 obtain ⟨_,_,rfl,hi6⟩:=Zaf hi5
 obtain ⟨x6,rfl,hi7⟩:=Zed hi6
 obtain ⟨_,_,rfl,hi8⟩:=Zaf hi7
 obtain ⟨x23,rfl,hi9⟩:=Zav hi8
 obtain ⟨_,_,rfl,hi10⟩:=Zaf hi9
 obtain ⟨x24,rfl,hi11⟩:=Zav hi10
 obtain ⟨rfl,hi12⟩:=Zbl hi11
 have hi:=hi12
 exact ⟨i2,o2,x5,x6,x23,x24,rfl,hi⟩
abbrev T8:=Nat→Nat→List Nat→List Nat→Int→Int→Int→Int→Zaa→Prop
def E8 (R8:T8) (env:Env) (h:Zaa):Prop:=Zbu 2 env fun v env=>Zgn v fun a=>Zbf a fun i2 o2=>Zbu 5 env fun v env=>Zbd v fun x5=>Zbu 6 env fun v env=>Zbd v fun x6=>Zbu 23 env fun v env=>Zdz .i64 v fun x23=>Zbu 24 env fun v env=>Zdz .i64 v fun x24=>Zbu 27 env fun v env=>Zdz .i64 v fun x27=>Zbu 28 env fun v env=>Zdz .i64 v fun x28=>Zin env (R8 i2 o2 x5 x6 x23 x24 x27 x28 h)
theorem Zyv {R8:T8} {env:Env} {h:Zaa} (hi:E8 R8 env h):∃ i2,∃ o2,∃ x5,∃ x6,∃ x23,∃ x24,∃ x27,∃ x28,env=[(2,.ptr (i2,o2)),(5,.str x5),(6,.str x6),(23,.int .i64 x23),(24,.int .i64 x24),(27,.int .i64 x27),(28,.int .i64 x28)]∧R8 i2 o2 x5 x6 x23 x24 x27 x28 h:=by
 unfold E8 at hi
 have hi0:=hi
 clear hi
 obtain ⟨_,_,rfl,hi1⟩:=Zaf hi0
 obtain ⟨a,rfl,hi2⟩:=Zbn hi1
 obtain ⟨i2,o2,rfl,hi3⟩:=Zbk hi2
 obtain ⟨_,_,rfl,hi4⟩:=Zaf hi3
 obtain ⟨x5,rfl,hi5⟩:=Zed hi4
 obtain ⟨_,_,rfl,hi6⟩:=Zaf hi5
 obtain ⟨x6,rfl,hi7⟩:=Zed hi6
 obtain ⟨_,_,rfl,hi8⟩:=Zaf hi7
 obtain ⟨x23,rfl,hi9⟩:=Zav hi8
 obtain ⟨_,_,rfl,hi10⟩:=Zaf hi9
 obtain ⟨x24,rfl,hi11⟩:=Zav hi10
 obtain ⟨_,_,rfl,hi12⟩:=Zaf hi11
 obtain ⟨x27,rfl,hi13⟩:=Zav hi12
 obtain ⟨_,_,rfl,hi14⟩:=Zaf hi13
 obtain ⟨x28,rfl,hi15⟩:=Zav hi14
 obtain ⟨rfl,hi16⟩:=Zbl hi15
 have hi:=hi16
 exact ⟨i2,o2,x5,x6,x23,x24,x27,x28,rfl,hi⟩
abbrev T15:=List Nat→List Nat→Int→Int→Zaa→Prop
def E15 (R15:T15) (env:Env) (h:Zaa):Prop:=Zbu 5 env fun v env=>Zbd v fun x5=>Zbu 6 env fun v env=>Zbd v fun x6=>Zbu 50 env fun v env=>Zdz .i64 v fun x50=>Zbu 51 env fun v env=>Zdz .i64 v fun x51=>Zin env (R15 x5 x6 x50 x51 h)
theorem Yar {R15:T15} {env:Env} {h:Zaa} (hi:E15 R15 env h):∃ x5,∃ x6,∃ x50,∃ x51,env=[(5,.str x5),(6,.str x6),(50,.int .i64 x50),(51,.int .i64 x51)]∧R15 x5 x6 x50 x51 h:=by
 unfold E15 at hi
 repeat ((first | (have k:=Zaf hi; clear hi; obtain ⟨_,_,e,hi⟩:=k) | (have k:=Zed hi; clear hi; obtain ⟨_,e,hi⟩:=k) | (have k:=Zav hi; clear hi; obtain ⟨_,e,hi⟩:=k)); subst e)
 obtain ⟨rfl,hi⟩:=Zbl hi
 exact ⟨_,_,_,_,rfl,hi⟩
def K0 (Q:QT):KT:=andThen (fun env' h'=>(match kp.find 4000014 with | some ks=>Den pg fn.ntmps (C [1,1,1,1,1]) (env'.keep ks) h' (KR Q) | none=>den pg fn.ntmps kp (C [1,1,1,1,1]) env' h' (KR Q))) (KR Q)
def K1 (Q:QT):KT:=Zcj 0 (K0 Q)
def K2 (Q:QT):KT:=left kp 6 (K1 Q)
def K3 (Q:QT) (R6:T6):KT:=rnd ((kp.find 1000006).getD []) (E6 R6) (K2 Q)
def K4 (Q:QT) (R6:T6):KT:=andThen (fun env' h'=>(match kp.find 4000013 with | some ks=>Den pg fn.ntmps (C [1,1,1,1,0,1,0,0,1,1,1]) (env'.keep ks) h' (K3 Q R6) | none=>den pg fn.ntmps kp (C [1,1,1,1,0,1,0,0,1,1,1]) env' h' (K3 Q R6))) (K3 Q R6)
def K5 (Q:QT) (R6:T6):KT:=Zcj 1 (K4 Q R6)
def K6 (Q:QT) (R6:T6):KT:=andThen (fun env' h'=>(match kp.find 4000012 with | some ks=>Den pg fn.ntmps (C [1,1,1,1,0,1,0,0,1,1,0,0,1]) (env'.keep ks) h' (K5 Q R6) | none=>den pg fn.ntmps kp (C [1,1,1,1,0,1,0,0,1,1,0,0,1]) env' h' (K5 Q R6))) (K5 Q R6)
def K7 (Q:QT) (R6:T6):KT:=Zcj 2 (K6 Q R6)
def K8 (Q:QT) (R6:T6):KT:=left kp 8 (K7 Q R6)
def K9 (Q:QT) (R6:T6) (R8:T8):KT:=rnd ((kp.find 1000008).getD []) (E8 R8) (K8 Q R6)
def K10 (Q:QT):KT:=andThen (fun env' h'=>(match kp.find 4000019 with | some ks=>Den pg fn.ntmps (C [1,1,1,1,1,1]) (env'.keep ks) h' (KR Q) | none=>den pg fn.ntmps kp (C [1,1,1,1,1,1]) env' h' (KR Q))) (KR Q)
def K11 (Q:QT):KT:=Zcj 4 (K10 Q)
def K12 (Q:QT):KT:=left kp 15 (K11 Q)
def K13 (Q:QT) (R15:T15):KT:=rnd ((kp.find 1000015).getD []) (E15 R15) (K12 Q)
def L6 (Q:QT) (i2 o2:Nat) (x5 x6:List Nat) (x23 x24:Int) (h:Zaa):Prop:=Zej (Den pg fn.ntmps (C [1,1,1,1,0,1,0,0])) ((kp.find 1000006).getD []) (K2 Q) [(2,.ptr (i2,o2)),(5,.str x5),(6,.str x6),(23,.int .i64 x23),(24,.int .i64 x24)] h
def L8 (Q:QT) (R6:T6) (i2 o2:Nat) (x5 x6:List Nat) (x23 x24 x27 x28:Int) (h:Zaa):Prop:=Zej (Den pg fn.ntmps (C [1,1,1,1,0,1,0,0,1,1,0,0,0,1,0,0])) ((kp.find 1000008).getD []) (K8 Q R6) [(2,.ptr (i2,o2)),(5,.str x5),(6,.str x6),(23,.int .i64 x23),(24,.int .i64 x24),(27,.int .i64 x27),(28,.int .i64 x28)] h
def Ydm (Q:QT) (x6 x5:List Nat) (h:Zaa):Prop:=At (K1 Q) (.exit 0) [(6,.str x6),(5,.str x5)] h
def Yzy (Q:QT) (R6:T6) (x6:List Nat) (x24 x23:Int) (i2 o2:Nat) (x5:List Nat) (h:Zaa):Prop:=At (K7 Q R6) (.exit 2) [(6,.str x6),(24,.int .i64 x24),(23,.int .i64 x23),(2,.ptr (i2,o2)),(5,.str x5)] h
def L15 (Q:QT) (x5 x6:List Nat) (x50 x51:Int) (h:Zaa):Prop:=Zej (Den pg fn.ntmps (C [1,1,1,1,1,0,1,0,0])) ((kp.find 1000015).getD []) (K12 Q) [(5,.str x5),(6,.str x6),(50,.int .i64 x50),(51,.int .i64 x51)] h
def Yza (Q:QT) (x5:List Nat) (h:Zaa):Prop:=At (K11 Q) (.exit 4) [(5,.str x5)] h
def L6t (Q:QT) (R6:T6) (i2 o2:Nat) (x5 x6:List Nat) (x23 x24:Int) (h:Zaa):Prop:=
 bcase (decide ((x24:Int) < x23)) (L8 Q R6 i2 o2 x5 x6 x23 x24 (((List.length x6:Nat):Int)) 0 h) (Ydm Q x6 x5 h)
theorem Zxy (Q:QT) (R6:T6) (i2 o2:Nat) (x5 x6:List Nat) (x23 x24:Int) (h:Zaa) (ht:L6t Q R6 i2 o2 x5 x6 x23 x24 h):Den pg fn.ntmps (C [1,1,1,1,0,1,0,0]) [(2,.ptr (i2,o2)),(5,.str x5),(6,.str x6),(23,.int .i64 x23),(24,.int .i64 x24)] h (K3 Q R6):=
 Zba (kp:=kp) (cast (by kernel_rfl) ht)
theorem L6ind (Q:QT) (i2 o2:Nat) (x5:List Nat) (x23:Int) {G:Type} (J:G→List Nat→Int→Zaa→Prop) (m:G→Nat)
 (hr:∀ (g:G) (x6:List Nat) (x24:Int) (h:Zaa),J g x6 x24 h→∀ (R6:T6),(∀ g' (x6:List Nat) (x24:Int) (h:Zaa),m g' < m g→J g' x6 x24 h→R6 i2 o2 x5 x6 x23 x24 h)→L6t Q R6 i2 o2 x5 x6 x23 x24 h)
 (g:G) (x6:List Nat) (x24:Int) (h:Zaa) (hj:J g x6 x24 h):L6 Q i2 o2 x5 x6 x23 x24 h:=by
 let P:=fun (K:List Nat→Int→Zaa→Prop) i2' o2' x5' x6 x23' x24 h=>i2=i2'∧o2=o2'∧x5=x5'∧x23=x23'∧K x6 x24 h
 refine Zej.inv2 (fun g=>E6 (P (J g))) (fun g=>E6 (P fun x6 x24 h=>∃ g',m g' < m g∧J g' x6 x24 h)) m ?_ ?_ g ⟨rfl,rfl,rfl,rfl,hj⟩
 ·intro g env h hi
  obtain ⟨i2',o2',x5',x6,x23',x24,rfl,rfl,rfl,rfl,rfl,hj⟩:=Zlw hi
  exact Zxy Q _ i2 o2 x5 x6 x23 x24 h (hr g x6 x24 h hj (P fun x6 x24 h=>∃ g',m g' < m g∧J g' x6 x24 h) fun g' x6 x24 h hlt hj=>⟨rfl,rfl,rfl,rfl,g',hlt,hj⟩)
 ·intro g env h hi
  obtain ⟨i2',o2',x5',x6,x23',x24,rfl,rfl,rfl,rfl,rfl,g',hlt,hj⟩:=Zlw hi
  exact ⟨g',hlt,rfl,rfl,rfl,rfl,hj⟩
def L8t (Q:QT) (R6:T6) (R8:T8) (i2 o2:Nat) (x5 x6:List Nat) (x23 x24 x27 x28:Int) (h:Zaa):Prop:=
 bcase (decide ((x28:Int) < x27)) ((0≤(x28:Int)∧(x28:Int)≤IntKind.wrap .i64 (x28 + 1)∧(IntKind.wrap .i64 (x28 + 1):Int)≤(List.length x6:Nat))∧(xSl (Zag h (.ptr (i2,o2 + 0))) fun A B C C=>Zcd (Zbe h (.ptr (i2,o2)) 2) fun C=>Zai C fun C D=>xSl C fun C E F G=>Zai D fun D H=>xSl D fun D I J K=>Zbq H ((Zag h (.ptr (i2,o2 + 0))=Zag h (.ptr (i2,o2 + 0)))∧Zak pg Zgo [.agg [.slice C E F G,.slice D I J K],.str (sub x6 x28 (IntKind.wrap .i64 (x28 + 1)))] h fun C D=>
 Zeb .i64 C fun C=>(Zag D (.ptr (i2,o2 + 0))=Zag h (.ptr (i2,o2 + 0)))∧(0≤(C:Int)∧(C:Int) < (B:Nat))∧(Zbf A fun A B=>Zbd (Zag D (.ptr (A,B + (Int.toNat C) * 2 + 1))) fun A=>(Zag D (.ptr (i2,o2 + 0))=Zag D (.ptr (i2,o2 + 0)))∧List.length x6 + List.length A≤9223372036854775807∧(R8 i2 o2 x5 (x6 ++ A) x23 x24 x27 (IntKind.wrap .i64 (x28 + 1)) D))))) (Yzy Q R6 x6 x24 x23 i2 o2 x5 h)
theorem Yss (Q:QT) (R6:T6) (R8:T8) (i2 o2:Nat) (x5 x6:List Nat) (x23 x24 x27 x28:Int) (h:Zaa) (ht:L8t Q R6 R8 i2 o2 x5 x6 x23 x24 x27 x28 h):Den pg fn.ntmps (C [1,1,1,1,0,1,0,0,1,1,0,0,0,1,0,0]) [(2,.ptr (i2,o2)),(5,.str x5),(6,.str x6),(23,.int .i64 x23),(24,.int .i64 x24),(27,.int .i64 x27),(28,.int .i64 x28)] h (K9 Q R6 R8):=
 Zba (kp:=kp) (cast (by kernel_rfl) ht)
theorem L8ind (Q:QT) (R6:T6) (i2 o2:Nat) (x5:List Nat) (x23 x24 x27:Int) {G:Type} (J:G→List Nat→Int→Zaa→Prop) (m:G→Nat)
 (hr:∀ (g:G) (x6:List Nat) (x28:Int) (h:Zaa),J g x6 x28 h→∀ (R8:T8),(∀ g' (x6:List Nat) (x28:Int) (h:Zaa),m g' < m g→J g' x6 x28 h→R8 i2 o2 x5 x6 x23 x24 x27 x28 h)→L8t Q R6 R8 i2 o2 x5 x6 x23 x24 x27 x28 h)
 (g:G) (x6:List Nat) (x28:Int) (h:Zaa) (hj:J g x6 x28 h):L8 Q R6 i2 o2 x5 x6 x23 x24 x27 x28 h:=by
 let P:=fun (K:List Nat→Int→Zaa→Prop) i2' o2' x5' x6 x23' x24' x27' x28 h=>i2=i2'∧o2=o2'∧x5=x5'∧x23=x23'∧x24=x24'∧x27=x27'∧K x6 x28 h
 refine Zej.inv2 (fun g=>E8 (P (J g))) (fun g=>E8 (P fun x6 x28 h=>∃ g',m g' < m g∧J g' x6 x28 h)) m ?_ ?_ g ⟨rfl,rfl,rfl,rfl,rfl,rfl,hj⟩
 ·intro g env h hi
  obtain ⟨i2',o2',x5',x6,x23',x24',x27',x28,rfl,rfl,rfl,rfl,rfl,rfl,rfl,hj⟩:=Zyv hi
  exact Yss Q R6 (P fun x6 x28 h=>∃ g',m g' < m g∧J g' x6 x28 h) i2 o2 x5 x6 x23 x24 x27 x28 h (hr g x6 x28 h hj (P fun x6 x28 h=>∃ g',m g' < m g∧J g' x6 x28 h) fun g' x6 x28 h hlt hj=>⟨rfl,rfl,rfl,rfl,rfl,rfl,g',hlt,hj⟩)
 ·intro g env h hi
  obtain ⟨i2',o2',x5',x6,x23',x24',x27',x28,rfl,rfl,rfl,rfl,rfl,rfl,rfl,g',hlt,hj⟩:=Zyv hi
  exact ⟨g',hlt,rfl,rfl,rfl,rfl,rfl,rfl,hj⟩
theorem A6x0i (Q:QT) (x6 x5:List Nat) (h:Zaa) (ht :
 L15 Q x5 x6 (((List.length x6:Nat):Int)) 0 h):Ydm Q x6 x5 h:=
 At.mk (cast (by kernel_rfl) ht)
theorem A8x2i (Q:QT) (R6:T6) (x6:List Nat) (x24 x23:Int) (i2 o2:Nat) (x5:List Nat) (h:Zaa) (ht :
 Zak pg Zps [.str x6] h fun A B=>
 Zbd A fun A=>R6 i2 o2 x5 A x23 (IntKind.wrap .i64 (x24 + 1)) B):Yzy Q R6 x6 x24 x23 i2 o2 x5 h:=
 At.mk (cast (by kernel_rfl) ht)
def L15t (Q:QT) (R15:T15) (x5 x6:List Nat) (x50 x51:Int) (h:Zaa):Prop:=
 bcase (decide ((x51:Int) < x50)) ((0≤(x51:Int)∧(x51:Int)≤IntKind.wrap .i64 (x51 + 1)∧(IntKind.wrap .i64 (x51 + 1):Int)≤(List.length x6:Nat))∧(List.length x5 + List.length (sub x6 x51 (IntKind.wrap .i64 (x51 + 1)))≤9223372036854775807∧(R15 (x5 ++ (sub x6 x51 (IntKind.wrap .i64 (x51 + 1)))) x6 x50 (IntKind.wrap .i64 (x51 + 1)) h))) (Yza Q x5 h)
theorem Yqs (Q:QT) (R15:T15) (x5 x6:List Nat) (x50 x51:Int) (h:Zaa) (ht:L15t Q R15 x5 x6 x50 x51 h):Den pg fn.ntmps (C [1,1,1,1,1,0,1,0,0]) [(5,.str x5),(6,.str x6),(50,.int .i64 x50),(51,.int .i64 x51)] h (K13 Q R15):=
 Zba (kp:=kp) (cast (by kernel_rfl) ht)
theorem L15ind (Q:QT) (x6:List Nat) (x50:Int) {G:Type} (J:G→List Nat→Int→Zaa→Prop) (m:G→Nat)
 (hr:∀ (g:G) (x5:List Nat) (x51:Int) (h:Zaa),J g x5 x51 h→∀ (R15:T15),(∀ g' (x5:List Nat) (x51:Int) (h:Zaa),m g' < m g→J g' x5 x51 h→R15 x5 x6 x50 x51 h)→L15t Q R15 x5 x6 x50 x51 h)
 (g:G) (x5:List Nat) (x51:Int) (h:Zaa) (hj:J g x5 x51 h):L15 Q x5 x6 x50 x51 h:=by
 let P:=fun (K:List Nat→Int→Zaa→Prop) x5 x6' x50' x51 h=>x6=x6'∧x50=x50'∧K x5 x51 h
 refine Zej.inv2 (fun g=>E15 (P (J g))) (fun g=>E15 (P fun x5 x51 h=>∃ g',m g' < m g∧J g' x5 x51 h)) m ?_ ?_ g ⟨rfl,rfl,hj⟩
 ·intro g env h hi
  obtain ⟨x5,x6',x50',x51,rfl,rfl,rfl,hj⟩:=Yar hi
  exact Yqs Q _ x5 x6 x50 x51 h (hr g x5 x51 h hj (P fun x5 x51 h=>∃ g',m g' < m g∧J g' x5 x51 h) fun g' x5 x51 h hlt hj=>⟨rfl,rfl,g',hlt,hj⟩)
 ·intro g env h hi
  obtain ⟨x5,x6',x50',x51,rfl,rfl,rfl,g',hlt,hj⟩:=Yar hi
  exact ⟨g',hlt,rfl,rfl,hj⟩
theorem A15x4i (Q:QT) (x5:List Nat) (h:Zaa) (ht :
 Q (.str x5) h):Yza Q x5 h:=
 At.mk (cast (by kernel_rfl) ht)
theorem call (a0x0:Pt) (n0x0 c0x0:Nat) (e0x0:Bool) (a0x1:Pt) (n0x1 c0x1:Nat) (e0x1:Bool) (x1:List Nat) (h:Zaa) (Q:QT) (ht :
 Zcf (h ++ [.cells Zac [.slice a0x0 n0x0 c0x0 e0x0,.slice a0x1 n0x1 c0x1 e0x1] false]) fun A=>Zcd (Zbe A (.ptr (h.length,0)) 2) fun B=>Zai B fun B C=>xSl B fun B D E F=>Zai C fun C G=>xSl C fun C H I J=>Zbq G (Zak pg Zpq [.agg [.slice B D E F,.slice C H I J],.str x1] A fun A B=>
 Zbz A fun A=>bcase (!A) (Q (.str []) B) (xSl (Zag B (.ptr (h.length,0 + 0))) fun A C D D=>Zcd (Zbe B (.ptr (h.length,0)) 2) fun D=>Zai D fun D E=>xSl D fun D F G H=>Zai E fun E I=>xSl E fun E J K L=>Zbq I ((Zag B (.ptr (h.length,0 + 0))=Zag B (.ptr (h.length,0 + 0)))∧Zak pg Zgo [.agg [.slice D F G H,.slice E J K L],.str x1] B fun D E=>
 Zeb .i64 D fun D=>(Zag E (.ptr (h.length,0 + 0))=Zag B (.ptr (h.length,0 + 0)))∧(0≤(D:Int)∧(D:Int) < (C:Nat))∧(Zbf A fun A B=>Zbd (Zag E (.ptr (A,B + (Int.toNat D) * 2 + 1))) fun A=>(Zag E (.ptr (h.length,0 + 0))=Zag E (.ptr (h.length,0 + 0)))∧xSl (Zag E (.ptr (h.length,0 + 0))) fun B B C C=>L6 Q h.length 0 [] A (((B:Nat):Int)) 0 E))))):Zak pg Zpp [.agg [.slice a0x0 n0x0 c0x0 e0x0,.slice a0x1 n0x1 c0x1 e0x1],.str x1] h Q:=
 Zak.of_body kp (c:=cod fn) (fn:=fn) Go.Proofs.Tryz.func31 (by kernel_rfl) (by kernel_rfl) (Nat.le_of_ble_eq_true (by kernel_rfl))
  (cast (by kernel_rfl) ht)
end Zey
end Go.Sim

set_option maxRecDepth 100000
set_option maxHeartbeats 0
set_option linter.unusedVariables false
namespace Go.Sim
open Go Go.RowKit
namespace Zuh
noncomputable abbrev fn:Func:=Go.Proofs.Tryz.f86
def kp:Zch:=[]
noncomputable def C (p:List Nat):Code:=(cod fn).sub p
def KR (Q:QT):KT:=Zfd pg fn.results.toList Q
theorem call (a0x0:Pt) (n0x0 c0x0:Nat) (e0x0:Bool) (a0x1:Pt) (n0x1 c0x1:Nat) (e0x1:Bool) (x1:List Nat) (h:Zaa) (Q:QT) (ht :
 Zcf (h ++ [.cells Zac [.slice a0x0 n0x0 c0x0 e0x0,.slice a0x1 n0x1 c0x1 e0x1] false]) fun A=>Zcd (Zbe A (.ptr (h.length,0)) 2) fun B=>Zai B fun B C=>xSl B fun B D E F=>Zai C fun C G=>xSl C fun C H I J=>Zbq G (Zak pg Zid [.agg [.slice B D E F,.slice C H I J]] A fun A B=>
 Zbz A fun A=>bcase A (xSl (Zag B (.ptr (h.length,0 + 0))) fun A C D E=>Zak pg Zjm [.slice A C D E,.str x1] B fun A C=>
 Zbz A fun A=>Q (.bool A) C) (Q (.bool false) B))):Zak pg Zqb [.agg [.slice a0x0 n0x0 c0x0 e0x0,.slice a0x1 n0x1 c0x1 e0x1],.str x1] h Q:=
 Zak.of_body kp (c:=cod fn) (fn:=fn) Go.Proofs.Tryz.func86 (by kernel_rfl) (by kernel_rfl) (Nat.le_of_ble_eq_true (by kernel_rfl))
  (cast (by kernel_rfl) ht)
end Zuh
namespace Zug
noncomputable abbrev fn:Func:=Go.Proofs.Tryz.f53
def kp:Zch:=[]
noncomputable def C (p:List Nat):Code:=(cod fn).sub p
def KR (Q:QT):KT:=Zfd pg fn.results.toList Q
theorem call (a0x0:Pt) (n0x0 c0x0:Nat) (e0x0:Bool) (a0x1:Pt) (n0x1 c0x1:Nat) (e0x1:Bool) (x1:List Nat) (h:Zaa) (Q:QT) (ht :
 Zcf (h ++ [.cells Zac [.slice a0x0 n0x0 c0x0 e0x0,.slice a0x1 n0x1 c0x1 e0x1] false]) fun A=>Zcd (Zbe A (.ptr (h.length,0)) 2) fun B=>Zai B fun B C=>xSl B fun B D E F=>Zai C fun C G=>xSl C fun C H I J=>Zbq G (Zak pg Zgk [.agg [.slice B D E F,.slice C H I J]] A fun A B=>
 Zbz A fun A=>bcase A (Zcd (Zbe B (.ptr (h.length,0)) 2) fun A=>Zai A fun A C=>xSl A fun A D E F=>Zai C fun C G=>xSl C fun C H I J=>Zbq G (Zak pg Zgo [.agg [.slice A D E F,.slice C H I J],.str x1] B fun A C=>
 Zeb .i64 A fun A=>Q (.bool (decide ((A:Int) ≥ 0))) C)) (Q (.bool false) B))):Zak pg Zpq [.agg [.slice a0x0 n0x0 c0x0 e0x0,.slice a0x1 n0x1 c0x1 e0x1],.str x1] h Q:=
 Zak.of_body kp (c:=cod fn) (fn:=fn) Go.Proofs.Tryz.func53 (by kernel_rfl) (by kernel_rfl) (Nat.le_of_ble_eq_true (by kernel_rfl))
  (cast (by kernel_rfl) ht)
end Zug
namespace Zek
noncomputable abbrev fn:Func:=Go.Proofs.Tryz.f52
def kp:Zch:=[(3000005,[2,5]),(1000005,[1,2,5,6]),(4000006,[6,2,1,5]),(3000012,[8]),(1000012,[5,8,43,44,45]),(4000016,[45,44,43,5,8])]
noncomputable def C (p:List Nat):Code:=(cod fn).sub p
def KR (Q:QT):KT:=Zfd pg fn.results.toList Q
abbrev T5:=List Nat→Nat→Nat→List Nat→Int→Zaa→Prop
def E5 (R5:T5) (env:Env) (h:Zaa):Prop:=Zbu 1 env fun v env=>Zbd v fun x1=>Zbu 2 env fun v env=>Zgn v fun a=>Zbf a fun i2 o2=>Zbu 5 env fun v env=>Zbd v fun x5=>Zbu 6 env fun v env=>Zdz .i64 v fun x6=>Zin env (R5 x1 i2 o2 x5 x6 h)
theorem Zik {R5:T5} {env:Env} {h:Zaa} (hi:E5 R5 env h):∃ x1,∃ i2,∃ o2,∃ x5,∃ x6,env=[(1,.str x1),(2,.ptr (i2,o2)),(5,.str x5),(6,.int .i64 x6)]∧R5 x1 i2 o2 x5 x6 h:=by
 unfold E5 at hi
 have hi0:=hi
 clear hi
 obtain ⟨_,_,rfl,hi1⟩:=Zaf hi0
 obtain ⟨x1,rfl,hi2⟩:=Zed hi1
 obtain ⟨_,_,rfl,hi3⟩:=Zaf hi2
 obtain ⟨a,rfl,hi4⟩:=Zbn hi3
 obtain ⟨i2,o2,rfl,hi5⟩:=Zbk hi4
 obtain ⟨_,_,rfl,hi6⟩:=Zaf hi5
 obtain ⟨x5,rfl,hi7⟩:=Zed hi6
 obtain ⟨_,_,rfl,hi8⟩:=Zaf hi7
 obtain ⟨x6,rfl,hi9⟩:=Zav hi8
 obtain ⟨rfl,hi10⟩:=Zbl hi9
 have hi:=hi10
 exact ⟨x1,i2,o2,x5,x6,rfl,hi⟩
abbrev T12:=List Nat→List Nat→Pt→Nat→Nat→Bool→Int→Int→Zaa→Prop
def E12 (R12:T12) (env:Env) (h:Zaa):Prop:=Zbu 5 env fun v env=>Zbd v fun x5=>Zbu 8 env fun v env=>Zbd v fun x8=>Zbu 43 env fun v env=>xSl v fun a43 n43 c43 e43=>Zbu 44 env fun v env=>Zdz .i64 v fun x44=>Zbu 45 env fun v env=>Zdz .i64 v fun x45=>Zin env (R12 x5 x8 a43 n43 c43 e43 x44 x45 h)
theorem Ycw {R12:T12} {env:Env} {h:Zaa} (hi:E12 R12 env h):∃ x5,∃ x8,∃ a43,∃ n43,∃ c43,∃ e43,∃ x44,∃ x45,env=[(5,.str x5),(8,.str x8),(43,.slice a43 n43 c43 e43),(44,.int .i64 x44),(45,.int .i64 x45)]∧R12 x5 x8 a43 n43 c43 e43 x44 x45 h:=by
 unfold E12 at hi
 repeat ((first | (have k:=Zaf hi; clear hi; obtain ⟨_,_,e,hi⟩:=k) | (have k:=Zed hi; clear hi; obtain ⟨_,e,hi⟩:=k) | (have k:=Zbp hi; clear hi; obtain ⟨_,_,_,_,e,hi⟩:=k) | (have k:=Zav hi; clear hi; obtain ⟨_,e,hi⟩:=k)); subst e)
 obtain ⟨rfl,hi⟩:=Zbl hi
 exact ⟨_,_,_,_,_,_,_,_,rfl,hi⟩
def K0 (Q:QT):KT:=andThen (fun env' h'=>(match kp.find 4000010 with | some ks=>Den pg fn.ntmps (C [1,1,1,1]) (env'.keep ks) h' (KR Q) | none=>den pg fn.ntmps kp (C [1,1,1,1]) env' h' (KR Q))) (KR Q)
def K1 (Q:QT):KT:=Zcj 0 (K0 Q)
def K2 (Q:QT):KT:=left kp 5 (K1 Q)
def K3 (Q:QT) (R5:T5):KT:=rnd ((kp.find 1000005).getD []) (E5 R5) (K2 Q)
def K4 (Q:QT):KT:=andThen (fun env' h'=>(match kp.find 4000017 with | some ks=>Den pg fn.ntmps (C [1,1,1,1,1,1]) (env'.keep ks) h' (KR Q) | none=>den pg fn.ntmps kp (C [1,1,1,1,1,1]) env' h' (KR Q))) (KR Q)
def K5 (Q:QT):KT:=Zcj 2 (K4 Q)
def K6 (Q:QT):KT:=left kp 12 (K5 Q)
def K7 (Q:QT) (R12:T12):KT:=rnd ((kp.find 1000012).getD []) (E12 R12) (K6 Q)
def L5 (Q:QT) (x1:List Nat) (i2 o2:Nat) (x5:List Nat) (x6:Int) (h:Zaa):Prop:=Zej (Den pg fn.ntmps (C [1,1,1,0,1,0,0])) ((kp.find 1000005).getD []) (K2 Q) [(1,.str x1),(2,.ptr (i2,o2)),(5,.str x5),(6,.int .i64 x6)] h
def J6 (Q:QT) (R5:T5) (x6:Int) (i2 o2:Nat) (x1 x5:List Nat) (h:Zaa):Prop:=Den pg fn.ntmps (C [1,1,1,0,1,0,0,1,1]) [(6,.int .i64 x6),(2,.ptr (i2,o2)),(1,.str x1),(5,.str x5)] h (K3 Q R5)
def A5x0 (Q:QT) (i2 o2:Nat) (x5:List Nat) (h:Zaa):Prop:=At (K1 Q) (.exit 0) [(2,.ptr (i2,o2)),(5,.str x5)] h
def L12 (Q:QT) (x5 x8:List Nat) (a43:Pt) (n43 c43:Nat) (e43:Bool) (x44 x45:Int) (h:Zaa):Prop:=Zej (Den pg fn.ntmps (C [1,1,1,1,1,0,1,0,0])) ((kp.find 1000012).getD []) (K6 Q) [(5,.str x5),(8,.str x8),(43,.slice a43 n43 c43 e43),(44,.int .i64 x44),(45,.int .i64 x45)] h
def J16 (Q:QT) (R12:T12) (x45 x44:Int) (a43:Pt) (n43 c43:Nat) (e43:Bool) (x5 x8:List Nat) (h:Zaa):Prop:=Den pg fn.ntmps (C [1,1,1,1,1,0,1,0,0,1,1,1]) [(45,.int .i64 x45),(44,.int .i64 x44),(43,.slice a43 n43 c43 e43),(5,.str x5),(8,.str x8)] h (K7 Q R12)
def Yti (Q:QT) (x8:List Nat) (h:Zaa):Prop:=At (K5 Q) (.exit 2) [(8,.str x8)] h
def L5t (Q:QT) (R5:T5) (x1:List Nat) (i2 o2:Nat) (x5:List Nat) (x6:Int) (h:Zaa):Prop:=
 bcase (decide ((x6:Int) ≥ 0)) (xSl (Zag h (.ptr (i2,o2 + 0))) fun A B C C=>(0≤(x6:Int)∧(x6:Int) < (B:Nat))∧(Zbf A fun A B=>Zcd (Zbe h (.ptr (A,B + (Int.toNat x6) * 2)) 2) fun A=>Zai A fun A B=>Zbd A fun A=>Zai B fun B C=>Zbd B fun B=>Zbq C (Zcf (h ++ [.cells Zbj [.str [],.str []] false]) fun C=>Zbt (Zbb C (.ptr (h.length,0)) [.str A,.str B]) fun A=>Zbd (Zag A (.ptr (h.length,0 + 0))) fun B=>bcase (decide (B=x1)) (Zbd (Zag A (.ptr (h.length,0 + 1))) fun B=>List.length x5 + List.length B≤9223372036854775807∧(J6 Q R5 x6 i2 o2 x1 (x5 ++ B) A)) (Zbd (Zag A (.ptr (h.length,0 + 0))) fun B=>Zak pg Zfv [.str x5,.str B] A fun A B=>
 Zbz A fun A=>bcase A (Zbd (Zag B (.ptr (h.length,0 + 1))) fun A=>List.length x5 + List.length A≤9223372036854775807∧(J6 Q R5 x6 i2 o2 x1 (x5 ++ A) B)) (J6 Q R5 x6 i2 o2 x1 x5 B))))) (A5x0 Q i2 o2 x5 h)
theorem Zua (Q:QT) (R5:T5) (x1:List Nat) (i2 o2:Nat) (x5:List Nat) (x6:Int) (h:Zaa) (ht:L5t Q R5 x1 i2 o2 x5 x6 h):Den pg fn.ntmps (C [1,1,1,0,1,0,0]) [(1,.str x1),(2,.ptr (i2,o2)),(5,.str x5),(6,.int .i64 x6)] h (K3 Q R5):=
 Zba (kp:=kp) (cast (by kernel_rfl) ht)
theorem L5ind (Q:QT) (x1:List Nat) (i2 o2:Nat) {G:Type} (J:G→List Nat→Int→Zaa→Prop) (m:G→Nat)
 (hr:∀ (g:G) (x5:List Nat) (x6:Int) (h:Zaa),J g x5 x6 h→∀ (R5:T5),(∀ g' (x5:List Nat) (x6:Int) (h:Zaa),m g' < m g→J g' x5 x6 h→R5 x1 i2 o2 x5 x6 h)→L5t Q R5 x1 i2 o2 x5 x6 h)
 (g:G) (x5:List Nat) (x6:Int) (h:Zaa) (hj:J g x5 x6 h):L5 Q x1 i2 o2 x5 x6 h:=by
 let P:=fun (K:List Nat→Int→Zaa→Prop) x1' i2' o2' x5 x6 h=>x1=x1'∧i2=i2'∧o2=o2'∧K x5 x6 h
 refine Zej.inv2 (fun g=>E5 (P (J g))) (fun g=>E5 (P fun x5 x6 h=>∃ g',m g' < m g∧J g' x5 x6 h)) m ?_ ?_ g ⟨rfl,rfl,rfl,hj⟩
 ·intro g env h hi
  obtain ⟨x1',i2',o2',x5,x6,rfl,rfl,rfl,rfl,hj⟩:=Zik hi
  exact Zua Q _ x1 i2 o2 x5 x6 h (hr g x5 x6 h hj (P fun x5 x6 h=>∃ g',m g' < m g∧J g' x5 x6 h) fun g' x5 x6 h hlt hj=>⟨rfl,rfl,rfl,g',hlt,hj⟩)
 ·intro g env h hi
  obtain ⟨x1',i2',o2',x5,x6,rfl,rfl,rfl,rfl,g',hlt,hj⟩:=Zik hi
  exact ⟨g',hlt,rfl,rfl,rfl,hj⟩
theorem J6i (Q:QT) (R5:T5) (x6:Int) (i2 o2:Nat) (x1 x5:List Nat) (h:Zaa) (ht :
 R5 x1 i2 o2 x5 (IntKind.wrap .i64 (x6 - 1)) h):J6 Q R5 x6 i2 o2 x1 x5 h:=
 Zba (kp:=kp) (cast (by kernel_rfl) ht)
theorem A5x0i (Q:QT) (i2 o2:Nat) (x5:List Nat) (h:Zaa) (ht :
 xSl (Zag h (.ptr (i2,o2 + 0))) fun A B C D=>L12 Q x5 [] A B C D (((B:Nat):Int)) 0 h):A5x0 Q i2 o2 x5 h:=
 At.mk (cast (by kernel_rfl) ht)
def L12t (Q:QT) (R12:T12) (x5 x8:List Nat) (a43:Pt) (n43 c43:Nat) (e43:Bool) (x44 x45:Int) (h:Zaa):Prop:=
 bcase (decide ((x45:Int) < x44)) ((0≤(x45:Int)∧(x45:Int) < (n43:Nat))∧(Zbf a43 fun A B=>Zcd (Zbe h (.ptr (A,B + (Int.toNat x45) * 2)) 2) fun A=>Zai A fun A B=>Zbd A fun A=>Zai B fun B C=>Zbd B fun B=>Zbq C (Zcf (h ++ [.cells Zbj [.str [],.str []] false]) fun C=>Zbt (Zbb C (.ptr (h.length,0)) [.str A,.str B]) fun A=>Zbd (Zag A (.ptr (h.length,0 + 0))) fun B=>Zak pg Zfv [.str x5,.str B] A fun A B=>
 Zbz A fun A=>bcase A (Zbd (Zag B (.ptr (h.length,0 + 0))) fun A=>List.length x8 + List.length A≤9223372036854775807∧(J16 Q R12 x45 x44 a43 n43 c43 e43 x5 (x8 ++ A) B)) (J16 Q R12 x45 x44 a43 n43 c43 e43 x5 x8 B)))) (Yti Q x8 h)
theorem Yqa (Q:QT) (R12:T12) (x5 x8:List Nat) (a43:Pt) (n43 c43:Nat) (e43:Bool) (x44 x45:Int) (h:Zaa) (ht:L12t Q R12 x5 x8 a43 n43 c43 e43 x44 x45 h):Den pg fn.ntmps (C [1,1,1,1,1,0,1,0,0]) [(5,.str x5),(8,.str x8),(43,.slice a43 n43 c43 e43),(44,.int .i64 x44),(45,.int .i64 x45)] h (K7 Q R12):=
 Zba (kp:=kp) (cast (by kernel_rfl) ht)
theorem L12ind (Q:QT) (x5:List Nat) (a43:Pt) (n43 c43:Nat) (e43:Bool) (x44:Int) {G:Type} (J:G→List Nat→Int→Zaa→Prop) (m:G→Nat)
 (hr:∀ (g:G) (x8:List Nat) (x45:Int) (h:Zaa),J g x8 x45 h→∀ (R12:T12),(∀ g' (x8:List Nat) (x45:Int) (h:Zaa),m g' < m g→J g' x8 x45 h→R12 x5 x8 a43 n43 c43 e43 x44 x45 h)→L12t Q R12 x5 x8 a43 n43 c43 e43 x44 x45 h)
 (g:G) (x8:List Nat) (x45:Int) (h:Zaa) (hj:J g x8 x45 h):L12 Q x5 x8 a43 n43 c43 e43 x44 x45 h:=by
 let P:=fun (K:List Nat→Int→Zaa→Prop) x5' x8 a43' n43' c43' e43' x44' x45 h=>x5=x5'∧a43=a43'∧n43=n43'∧c43=c43'∧e43=e43'∧x44=x44'∧K x8 x45 h
 refine Zej.inv2 (fun g=>E12 (P (J g))) (fun g=>E12 (P fun x8 x45 h=>∃ g',m g' < m g∧J g' x8 x45 h)) m ?_ ?_ g ⟨rfl,rfl,rfl,rfl,rfl,rfl,hj⟩
 ·intro g env h hi
  obtain ⟨x5',x8,a43',n43',c43',e43',x44',x45,rfl,rfl,rfl,rfl,rfl,rfl,rfl,hj⟩:=Ycw hi
  exact Yqa Q _ x5 x8 a43 n43 c43 e43 x44 x45 h (hr g x8 x45 h hj (P fun x8 x45 h=>∃ g',m g' < m g∧J g' x8 x45 h) fun g' x8 x45 h hlt hj=>⟨rfl,rfl,rfl,rfl,rfl,rfl,g',hlt,hj⟩)
 ·intro g env h hi
  obtain ⟨x5',x8,a43',n43',c43',e43',x44',x45,rfl,rfl,rfl,rfl,rfl,rfl,rfl,g',hlt,hj⟩:=Ycw hi
  exact ⟨g',hlt,rfl,rfl,rfl,rfl,rfl,rfl,hj⟩
theorem J16i (Q:QT) (R12:T12) (x45 x44:Int) (a43:Pt) (n43 c43:Nat) (e43:Bool) (x5 x8:List Nat) (h:Zaa) (ht :
 R12 x5 x8 a43 n43 c43 e43 x44 (IntKind.wrap .i64 (x45 + 1)) h):J16 Q R12 x45 x44 a43 n43 c43 e43 x5 x8 h:=
 Zba (kp:=kp) (cast (by kernel_rfl) ht)
theorem A12x2i (Q:QT) (x8:List Nat) (h:Zaa) (ht :
 Q (.str x8) h):Yti Q x8 h:=
 At.mk (cast (by kernel_rfl) ht)
theorem call (a0x0:Pt) (n0x0 c0x0:Nat) (e0x0:Bool) (a0x1:Pt) (n0x1 c0x1:Nat) (e0x1:Bool) (x1:List Nat) (h:Zaa) (Q:QT) (ht :
 Zcf (h ++ [.cells Zac [.slice a0x0 n0x0 c0x0 e0x0,.slice a0x1 n0x1 c0x1 e0x1] false]) fun A=>Zcd (Zbe A (.ptr (h.length,0)) 2) fun B=>Zai B fun B C=>xSl B fun B D E F=>Zai C fun C G=>xSl C fun C H I J=>Zbq G (Zak pg Zqb [.agg [.slice B D E F,.slice C H I J],.str x1] A fun A B=>
 Zbz A fun A=>bcase (!A) (Q (.str []) B) (xSl (Zag B (.ptr (h.length,0 + 0))) fun A A C C=>L5 Q x1 h.length 0 [] (IntKind.wrap .i64 ((((A:Nat):Int)) - 1)) B))):Zak pg Zpx [.agg [.slice a0x0 n0x0 c0x0 e0x0,.slice a0x1 n0x1 c0x1 e0x1],.str x1] h Q:=
 Zak.of_body kp (c:=cod fn) (fn:=fn) Go.Proofs.Tryz.func52 (by kernel_rfl) (by kernel_rfl) (Nat.le_of_ble_eq_true (by kernel_rfl))
  (cast (by kernel_rfl) ht)
end Zek
end Go.Sim

set_option maxRecDepth 100000
set_option maxHeartbeats 0
set_option linter.unusedVariables false
namespace Go.Sim
open Go Go.RowKit
namespace Zvc
noncomputable abbrev fn:Func:=Go.Proofs.Tryz.f43
def kp:Zch:=[]
noncomputable def C (p:List Nat):Code:=(cod fn).sub p
def KR (Q:QT):KT:=Zfd pg fn.results.toList Q
theorem call (a0x0:Pt) (n0x0 c0x0:Nat) (e0x0:Bool) (a0x1:Pt) (n0x1 c0x1:Nat) (e0x1:Bool) (x1x0 x1x1:List Nat) (x2:Bool) (h:Zaa) (Q:QT) (ht :
 Zcf (h ++ [.cells Zac [.slice a0x0 n0x0 c0x0 e0x0,.slice a0x1 n0x1 c0x1 e0x1] false]) fun A=>Zcf (A ++ [.cells Zab [.str x1x0,.str x1x1] false]) fun B=>Zcd (Zbe B (.ptr (h.length,0)) 2) fun C=>Zai C fun C D=>xSl C fun C E F G=>Zai D fun D H=>xSl D fun D I J K=>Zbq H (Zcf (B ++ [.cells Zab [] false]) fun H=>Zcf (H ++ [.cells Zab [] false]) fun L=>Zcf (L ++ [.cells Zdh [.slice C E F G,.slice D I J K,.bool x2,.slice (B.length,0) 0 0 true,.slice (H.length,0) 0 0 true,.str []] false]) fun B=>Zcd (Zbe B (.ptr (h.length,0)) 2) fun C=>Zai C fun C D=>xSl C fun C E F G=>Zai D fun D H=>xSl D fun D I J K=>Zbq H (Zcd (Zbe B (.ptr (A.length,0)) 2) fun H=>Zai H fun H M=>Zbd H fun H=>Zai M fun M N=>Zbd M fun M=>Zbq N (Zak pg Ziv [.agg [.slice C E F G,.slice D I J K],.agg [.str H,.str M]] B fun B C=>
 Zbz B fun B=>bcase (!B) (Zbt (Zbb C (.ptr (L.length,0 + 5)) [.str ([119,114,111,110,103])]) fun B=>Q (.tup [.ptr (L.length,0),.str [],.bool false]) B) (Zcd (Zbe C (.ptr (A.length,0)) 2) fun A=>Zai A fun A B=>Zbd A fun A=>Zai B fun B D=>Zbd B fun B=>Zbq D (Zak pg Zgy [.ptr (L.length,0),.agg [.str A,.str B],.int .i64 0] C fun A B=>
 Zbd A fun A=>Q (.tup [.ptr (L.length,0),.str A,.bool true]) B)))))):Zak pg Zqt [.agg [.slice a0x0 n0x0 c0x0 e0x0,.slice a0x1 n0x1 c0x1 e0x1],.agg [.str x1x0,.str x1x1],.bool x2] h Q:=
 Zak.of_body kp (c:=cod fn) (fn:=fn) Go.Proofs.Tryz.func43 (by kernel_rfl) (by kernel_rfl) (Nat.le_of_ble_eq_true (by kernel_rfl))
  (cast (by kernel_rfl) ht)
end Zvc
end Go.Sim

set_option maxRecDepth 100000
set_option maxHeartbeats 0
set_option linter.unusedVariables false
namespace Go.Sim
open Go Go.RowKit
namespace Zhx
noncomputable abbrev fn:Func:=Go.Proofs.Tryz.f111
def kp:Zch:=[(2000001,[5,0,3]),(2000008,[6,0]),(4000011,[0])]
noncomputable def C (p:List Nat):Code:=(cod fn).sub p
def KR (Q:QT):KT:=Zfd pg fn.results.toList Q
def J11 (Q:QT) (a0:Pt) (h:Zaa):Prop:=Den pg fn.ntmps (C [1,1,1,1]) [(0,.ptr a0)] h (KR Q)
theorem J11i (Q:QT) (a0:Pt) (h:Zaa) (ht :
 Zbf a0 fun A B=>Zbt (Zbb h (.ptr (A,B + 5)) [.str ([109,97,110,121])]) fun A=>Q (.int .i64 (-1)) A):J11 Q a0 h:=
 Zba (kp:=kp) (cast (by kernel_rfl) ht)
theorem call (a0:Pt) (x1x0 x1x1:List Nat) (h:Zaa) (Q:QT) (ht :
 Zcf (h ++ [.cells Zab [.str x1x0,.str x1x1] false]) fun A=>Zbf a0 fun B C=>Zcd (Zbe A (.ptr (B,C + 0)) 2) fun D=>Zai D fun D E=>xSl D fun D F G H=>Zai E fun E I=>xSl E fun E J K L=>Zbq I (Zcd (Zbe A (.ptr (h.length,0)) 2) fun I=>Zai I fun I M=>Zbd I fun I=>Zai M fun M N=>Zbd M fun M=>Zbq N ((Zbe A (.ptr (B,C + 0)) 2=Zbe A (.ptr (B,C + 0)) 2)∧Zak pg Zir [.agg [.slice D F G H,.slice E J K L],.agg [.str I,.str M]] A fun A B=>
 xSl A fun A C D D=>bcase ((((C:Nat):Int):Int) == 0) (Zbf a0 fun D E=>Zbt (Zbb B (.ptr (D,E + 5)) [.str ([110,111,110,101])]) fun D=>Q (.int .i64 (-1)) D) (bcase ((((C:Nat):Int):Int) == 1) ((0≤(0:Int)∧(0:Int) < (C:Nat))∧(Zbf A fun A C=>Zeb .i64 (Zag B (.ptr (A,C + (Int.toNat 0) * 1))) fun A=>Q (.int .i64 A) B)) (Zbf a0 fun A C=>Zbz (Zag B (.ptr (A,C + 2))) fun A=>bcase A (Zbf a0 fun A C=>Zcd (Zbe B (.ptr (A,C + 0)) 2) fun D=>Zai D fun D E=>xSl D fun D F G H=>Zai E fun E I=>xSl E fun E J K L=>Zbq I (Zcd (Zbe B (.ptr (h.length,0)) 2) fun I=>Zai I fun I M=>Zbd I fun I=>Zai M fun M N=>Zbd M fun M=>Zbq N ((Zbe B (.ptr (A,C + 0)) 2=Zbe B (.ptr (A,C + 0)) 2)∧Zak pg Zml [.agg [.slice D F G H,.slice E J K L],.agg [.str I,.str M]] B fun A C=>
 Zeb .i64 A fun A=>bcase (decide ((A:Int) ≥ 0)) (Q (.int .i64 A) C) (J11 Q a0 C)))) (J11 Q a0 B)))))):Zak pg Zfz [.ptr a0,.agg [.str x1x0,.str x1x1]] h Q:=
 Zak.of_body kp (c:=cod fn) (fn:=fn) Go.Proofs.Tryz.func111 (by kernel_rfl) (by kernel_rfl) (Nat.le_of_ble_eq_true (by kernel_rfl))
  (cast (by kernel_rfl) ht)
end Zhx
end Go.Sim

set_option maxRecDepth 100000
set_option maxHeartbeats 0
set_option linter.unusedVariables false
namespace Go.Sim
open Go Go.RowKit
namespace Zeo
noncomputable abbrev fn:Func:=Go.Proofs.Tryz.f75
def kp:Zch:=[(2000001,[0,4,2]),(2000005,[2,0,4]),(2000012,[9,0,7,8,2]),(3000018,[8,10,0,2,6]),(1000018,[0,2,8,10,78,79,80]),(4000027,[0,2,10])]
noncomputable def C (p:List Nat):Code:=(cod fn).sub p
def KR (Q:QT):KT:=Zfd pg fn.results.toList Q
abbrev T18:=Pt→Int→Pt→Nat→Nat→Bool→List Nat→Pt→Nat→Nat→Bool→Int→Int→Zaa→Prop
def E18 (R18:T18) (env:Env) (h:Zaa):Prop:=Zbu 0 env fun v env=>Zgn v fun a0=>Zbu 2 env fun v env=>Zdz .i64 v fun x2=>Zbu 8 env fun v env=>xSl v fun a8 n8 c8 e8=>Zbu 10 env fun v env=>Zbd v fun x10=>Zbu 78 env fun v env=>xSl v fun a78 n78 c78 e78=>Zbu 79 env fun v env=>Zdz .i64 v fun x79=>Zbu 80 env fun v env=>Zdz .i64 v fun x80=>Zin env (R18 a0 x2 a8 n8 c8 e8 x10 a78 n78 c78 e78 x79 x80 h)
theorem Yqd {R18:T18} {env:Env} {h:Zaa} (hi:E18 R18 env h):∃ a0,∃ x2,∃ a8,∃ n8,∃ c8,∃ e8,∃ x10,∃ a78,∃ n78,∃ c78,∃ e78,∃ x79,∃ x80,env=[(0,.ptr a0),(2,.int .i64 x2),(8,.slice a8 n8 c8 e8),(10,.str x10),(78,.slice a78 n78 c78 e78),(79,.int .i64 x79),(80,.int .i64 x80)]∧R18 a0 x2 a8 n8 c8 e8 x10 a78 n78 c78 e78 x79 x80 h:=by
 unfold E18 at hi
 repeat ((first | (have k:=Zaf hi; clear hi; obtain ⟨_,_,e,hi⟩:=k) | (have k:=Zbn hi; clear hi; obtain ⟨_,e,hi⟩:=k) | (have k:=Zed hi; clear hi; obtain ⟨_,e,hi⟩:=k) | (have k:=Zav hi; clear hi; obtain ⟨_,e,hi⟩:=k) | (have k:=Zbp hi; clear hi; obtain ⟨_,_,_,_,e,hi⟩:=k)); subst e)
 obtain ⟨rfl,hi⟩:=Zbl hi
 exact ⟨_,_,_,_,_,_,_,_,_,_,_,_,_,rfl,hi⟩
def K0 (Q:QT):KT:=andThen (fun env' h'=>(match kp.find 4000025 with | some ks=>Den pg fn.ntmps (C [1,1,1,1,1,1,1,1,1,1,1]) (env'.keep ks) h' (KR Q) | none=>den pg fn.ntmps kp (C [1,1,1,1,1,1,1,1,1,1,1]) env' h' (KR Q))) (KR Q)
def K1 (Q:QT):KT:=Zcj 0 (K0 Q)
def K2 (Q:QT):KT:=left kp 18 (K1 Q)
def K3 (Q:QT) (R18:T18):KT:=rnd ((kp.find 1000018).getD []) (E18 R18) (K2 Q)
def L18 (Q:QT) (a0:Pt) (x2:Int) (a8:Pt) (n8 c8:Nat) (e8:Bool) (x10:List Nat) (a78:Pt) (n78 c78:Nat) (e78:Bool) (x79 x80:Int) (h:Zaa):Prop:=Zej (Den pg fn.ntmps (C [1,1,1,1,1,1,1,1,1,1,0,1,0,0])) ((kp.find 1000018).getD []) (K2 Q) [(0,.ptr a0),(2,.int .i64 x2),(8,.slice a8 n8 c8 e8),(10,.str x10),(78,.slice a78 n78 c78 e78),(79,.int .i64 x79),(80,.int .i64 x80)] h
def Yzk (Q:QT) (a8:Pt) (n8 c8:Nat) (e8:Bool) (x10:List Nat) (a0:Pt) (x2:Int) (h:Zaa):Prop:=At (K1 Q) (.exit 0) [(8,.slice a8 n8 c8 e8),(10,.str x10),(0,.ptr a0),(2,.int .i64 x2),(6,.undef)] h
def J27 (Q:QT) (a0:Pt) (x2:Int) (x10:List Nat) (h:Zaa):Prop:=Den pg fn.ntmps (C [1,1,1,1,1,1,1,1,1,1,1,1]) [(0,.ptr a0),(2,.int .i64 x2),(10,.str x10)] h (KR Q)
def L18t (Q:QT) (R18:T18) (a0:Pt) (x2:Int) (a8:Pt) (n8 c8:Nat) (e8:Bool) (x10:List Nat) (a78:Pt) (n78 c78:Nat) (e78:Bool) (x79 x80:Int) (h:Zaa):Prop:=
 bcase (decide ((x80:Int) < x79)) ((0≤(x80:Int)∧(x80:Int) < (n78:Nat))∧(Zbf a78 fun A B=>Zcd (Zbe h (.ptr (A,B + (Int.toNat x80) * 2)) 2) fun A=>Zai A fun A B=>Zbd A fun A=>Zai B fun B C=>Zbd B fun B=>Zbq C (Zcf (h ++ [.cells Zab [.str [],.str []] false]) fun C=>Zbt (Zbb C (.ptr (h.length,0)) [.str A,.str B]) fun A=>Zcd (Zbe A (.ptr (h.length,0)) 2) fun B=>Zai B fun B C=>Zbd B fun B=>Zai C fun C D=>Zbd C fun C=>Zbq D (Zak pg Zgy [.ptr a0,.agg [.str B,.str C],.int .i64 (IntKind.wrap .i64 (x2 + 1))] A fun A B=>
 Zbd A fun A=>Zbf a0 fun C D=>Zbd (Zag B (.ptr (C,D + 5))) fun C=>bcase (!(decide (C=[]))) (Q (.str []) B) ((0≤(x80:Int)∧(x80:Int)≤IntKind.wrap .i64 (x80 + 1)∧(IntKind.wrap .i64 (x80 + 1):Int)≤(List.length ([40,44,44]):Nat))∧(List.length x10 + List.length (sub ([40,44,44]) x80 (IntKind.wrap .i64 (x80 + 1)))≤9223372036854775807∧(List.length (x10 ++ (sub ([40,44,44]) x80 (IntKind.wrap .i64 (x80 + 1)))) + List.length A≤9223372036854775807∧(R18 a0 x2 a8 n8 c8 e8 ((x10 ++ (sub ([40,44,44]) x80 (IntKind.wrap .i64 (x80 + 1)))) ++ A) a78 n78 c78 e78 x79 (IntKind.wrap .i64 (x80 + 1)) B)))))))) (Yzk Q a8 n8 c8 e8 x10 a0 x2 h)
theorem Xao (Q:QT) (R18:T18) (a0:Pt) (x2:Int) (a8:Pt) (n8 c8:Nat) (e8:Bool) (x10:List Nat) (a78:Pt) (n78 c78:Nat) (e78:Bool) (x79 x80:Int) (h:Zaa) (ht:L18t Q R18 a0 x2 a8 n8 c8 e8 x10 a78 n78 c78 e78 x79 x80 h):Den pg fn.ntmps (C [1,1,1,1,1,1,1,1,1,1,0,1,0,0]) [(0,.ptr a0),(2,.int .i64 x2),(8,.slice a8 n8 c8 e8),(10,.str x10),(78,.slice a78 n78 c78 e78),(79,.int .i64 x79),(80,.int .i64 x80)] h (K3 Q R18):=
 Zba (kp:=kp) (cast (by kernel_rfl) ht)
theorem L18ind (Q:QT) (a0:Pt) (x2:Int) (a8:Pt) (n8 c8:Nat) (e8:Bool) (a78:Pt) (n78 c78:Nat) (e78:Bool) (x79:Int) {G:Type} (J:G→List Nat→Int→Zaa→Prop) (m:G→Nat)
 (hr:∀ (g:G) (x10:List Nat) (x80:Int) (h:Zaa),J g x10 x80 h→∀ (R18:T18),(∀ g' (x10:List Nat) (x80:Int) (h:Zaa),m g' < m g→J g' x10 x80 h→R18 a0 x2 a8 n8 c8 e8 x10 a78 n78 c78 e78 x79 x80 h)→L18t Q R18 a0 x2 a8 n8 c8 e8 x10 a78 n78 c78 e78 x79 x80 h)
 (g:G) (x10:List Nat) (x80:Int) (h:Zaa) (hj:J g x10 x80 h):L18 Q a0 x2 a8 n8 c8 e8 x10 a78 n78 c78 e78 x79 x80 h:=by
 let P:=fun (K:List Nat→Int→Zaa→Prop) a0' x2' a8' n8' c8' e8' x10 a78' n78' c78' e78' x79' x80 h=>a0=a0'∧x2=x2'∧a8=a8'∧n8=n8'∧c8=c8'∧e8=e8'∧a78=a78'∧n78=n78'∧c78=c78'∧e78=e78'∧x79=x79'∧K x10 x80 h
 refine Zej.inv2 (fun g=>E18 (P (J g))) (fun g=>E18 (P fun x10 x80 h=>∃ g',m g' < m g∧J g' x10 x80 h)) m ?_ ?_ g ⟨rfl,rfl,rfl,rfl,rfl,rfl,rfl,rfl,rfl,rfl,rfl,hj⟩
 ·intro g env h hi
  obtain ⟨a0',x2',a8',n8',c8',e8',x10,a78',n78',c78',e78',x79',x80,rfl,rfl,rfl,rfl,rfl,rfl,rfl,rfl,rfl,rfl,rfl,rfl,hj⟩:=Yqd hi
  exact Xao Q _ a0 x2 a8 n8 c8 e8 x10 a78 n78 c78 e78 x79 x80 h (hr g x10 x80 h hj (P fun x10 x80 h=>∃ g',m g' < m g∧J g' x10 x80 h) fun g' x10 x80 h hlt hj=>⟨rfl,rfl,rfl,rfl,rfl,rfl,rfl,rfl,rfl,rfl,rfl,g',hlt,hj⟩)
 ·intro g env h hi
  obtain ⟨a0',x2',a8',n8',c8',e8',x10,a78',n78',c78',e78',x79',x80,rfl,rfl,rfl,rfl,rfl,rfl,rfl,rfl,rfl,rfl,rfl,rfl,g',hlt,hj⟩:=Yqd hi
  exact ⟨g',hlt,rfl,rfl,rfl,rfl,rfl,rfl,rfl,rfl,rfl,rfl,rfl,hj⟩
theorem A18x0i (Q:QT) (a8:Pt) (n8 c8:Nat) (e8:Bool) (x10:List Nat) (a0:Pt) (x2:Int) (h:Zaa) (ht :
 bcase (decide (((((n8:Nat):Int)):Int) > 0)) (List.length x10 + List.length [41]≤9223372036854775807∧(J27 Q a0 x2 (x10 ++ [41]) h)) (J27 Q a0 x2 x10 h)):Yzk Q a8 n8 c8 e8 x10 a0 x2 h:=
 At.mk (cast (by kernel_rfl) ht)
theorem J27i (Q:QT) (a0:Pt) (x2:Int) (x10:List Nat) (h:Zaa) (ht :
 Zbf a0 fun A B=>xSl (Zag h (.ptr (A,B + 4))) fun A B C D=>Zhw A B C D 2 none (some (.int .i64 (IntKind.wrap .i64 (x2 + 1)))) none fun A=>xSl A fun A B C D=>Zbf a0 fun E F=>Zbt (Zbb h (.ptr (E,F + 4)) [.slice A B C D]) fun A=>Q (.str x10) A):J27 Q a0 x2 x10 h:=
 Zba (kp:=kp) (cast (by kernel_rfl) ht)
theorem call (a0:Pt) (x1x0 x1x1:List Nat) (x2:Int) (h:Zaa) (Q:QT) (ht :
 Zcf (h ++ [.cells Zab [.str x1x0,.str x1x1] false]) fun A=>Zbf a0 fun B C=>xSl (Zag A (.ptr (B,C + 4))) fun D E F G=>Zhw D E F G 2 none (some (.int .i64 x2)) none fun D=>xSl D fun D E F G=>Zcd (Zbe A (.ptr (h.length,0)) 2) fun H=>Zai H fun H I=>Zbd H fun H=>Zai I fun I J=>Zbd I fun I=>Zbq J ((Zcf (A ++ [.cells Zab [] false]) fun J=>(Zbe J (.ptr (h.length,0)) 2=Zbe A (.ptr (h.length,0)) 2)∧(Zag J (.ptr (B,C + 4))=Zag A (.ptr (B,C + 4)))∧(Zci pg Zbo J (.slice (A.length,0) 0 0 true) (.slice D E F G) fun K L=>xSl K fun K M N O=>(Zbe L (.ptr (h.length,0)) 2=Zbe J (.ptr (h.length,0)) 2)∧(Zag L (.ptr (B,C + 4))=Zag J (.ptr (B,C + 4)))∧Zcf (L ++ [.cells Zab [.str H,.str I] false]) fun P=>(Zag P (.ptr (B,C + 4))=Zag L (.ptr (B,C + 4)))∧Zci pg Zbo P (.slice K M N O) (.slice (L.length,0) 1 1 true) fun K L=>xSl K fun K M N O=>(Zbe L (.ptr (h.length,0)) 2=Zbe P (.ptr (h.length,0)) 2)∧(Zag L (.ptr (B,C + 4))=Zag P (.ptr (B,C + 4)))∧Zbf a0 fun P R=>Zbt (Zbb L (.ptr (P,R + 4)) [.slice K M N O]) fun K=>Zbf a0 fun L M=>xSl (Zag K (.ptr (L,M + 3))) fun L L M M=>bcase (decide (((((L:Nat):Int)):Int) ≥ 300)) (Zbf a0 fun L M=>Zbt (Zbb K (.ptr (L,M + 5)) [.str ([108,111,110,103])]) fun L=>Q (.str []) L) (Zbf a0 fun L M=>xSl (Zag K (.ptr (L,M + 3))) fun N O P R=>Zcd (Zbe K (.ptr (h.length,0)) 2) fun S=>Zai S fun S T=>Zbd S fun S=>Zai T fun T U=>Zbd T fun T=>Zbq U ((Zag K (.ptr (L,M + 3))=Zag K (.ptr (L,M + 3)))∧Zcf (K ++ [.cells Zab [.str S,.str T] false]) fun S=>(Zag S (.ptr (L,M + 3))=Zag K (.ptr (L,M + 3)))∧Zci pg Zbo S (.slice N O P R) (.slice (K.length,0) 1 1 true) fun K L=>xSl K fun K M N O=>Zbf a0 fun P R=>Zbt (Zbb L (.ptr (P,R + 3)) [.slice K M N O]) fun K=>bcase (decide ((x2:Int) > 30)) (Zbf a0 fun L M=>Zbt (Zbb K (.ptr (L,M + 5)) [.str ([100,101,101,112])]) fun L=>Q (.str []) L) (Zcd (Zbe K (.ptr (h.length,0)) 2) fun L=>Zai L fun L M=>Zbd L fun L=>Zai M fun M N=>Zbd M fun M=>Zbq N (Zak pg Zfz [.ptr a0,.agg [.str L,.str M]] K fun K L=>
 Zeb .i64 K fun K=>bcase (decide ((K:Int) < 0)) (Q (.str []) L) (Zbf a0 fun M N=>xSl (Zag L (.ptr (M,N + 0 + 1))) fun O P R R=>(0≤(K:Int)∧(K:Int) < (P:Nat))∧(Zbf O fun O P=>Zcd (Zbe L (.ptr (O,P + (Int.toNat K) * 3)) 3) fun R=>Zai R fun R S=>Zbd R fun R=>Zai S fun S T=>Zbd S fun S=>Zai T fun T U=>xSl T fun T V W X=>Zbq U (Zbd (Zag L (.ptr (h.length,0 + 1))) fun U=>(Zbe L (.ptr (O,P + (Int.toNat K) * 3)) 3=Zbe L (.ptr (O,P + (Int.toNat K) * 3)) 3)∧(Zag L (.ptr (M,N + 0 + 1))=Zag L (.ptr (M,N + 0 + 1)))∧Zak pg Zjb [.agg [.str R,.str S,.slice T V W X],.str U] L fun O P=>
 Zle O fun O=>Zai O fun O R=>xSl O fun O S T U=>Zai R fun R V=>Zbz R fun R=>Zbq V ((Zag P (.ptr (M,N + 0 + 1))=Zag L (.ptr (M,N + 0 + 1)))∧bcase (!R) (Zbf a0 fun L M=>Zbt (Zbb P (.ptr (L,M + 5)) [.str ([98,105,103])]) fun L=>Q (.str []) L) (Zak pg Zhm [.int .i64 K] P fun K L=>
 Zbd K fun K=>L18 Q a0 x2 O S T U K O S T U (((S:Nat):Int)) 0 L))))))))))∧(Zcf (J ++ [.cells Zab [.str H,.str I] false]) fun K=>(Zag K (.ptr (B,C + 4))=Zag J (.ptr (B,C + 4)))∧Zci pg Zbo K (.slice (A.length,0) 0 0 true) (.slice D E F G) fun L M=>xSl L fun L N O P=>(Zbe M (.ptr (h.length,0)) 2=Zbe K (.ptr (h.length,0)) 2)∧(Zag M (.ptr (B,C + 4))=Zag K (.ptr (B,C + 4)))∧Zci pg Zbo M (.slice L N O P) (.slice (J.length,0) 1 1 true) fun J K=>xSl J fun J L N O=>(Zbe K (.ptr (h.length,0)) 2=Zbe M (.ptr (h.length,0)) 2)∧(Zag K (.ptr (B,C + 4))=Zag M (.ptr (B,C + 4)))∧Zbf a0 fun M P=>Zbt (Zbb K (.ptr (M,P + 4)) [.slice J L N O]) fun J=>Zbf a0 fun K L=>xSl (Zag J (.ptr (K,L + 3))) fun K K L L=>bcase (decide (((((K:Nat):Int)):Int) ≥ 300)) (Zbf a0 fun K L=>Zbt (Zbb J (.ptr (K,L + 5)) [.str ([108,111,110,103])]) fun K=>Q (.str []) K) (Zbf a0 fun K L=>xSl (Zag J (.ptr (K,L + 3))) fun M N O P=>Zcd (Zbe J (.ptr (h.length,0)) 2) fun R=>Zai R fun R S=>Zbd R fun R=>Zai S fun S T=>Zbd S fun S=>Zbq T ((Zag J (.ptr (K,L + 3))=Zag J (.ptr (K,L + 3)))∧Zcf (J ++ [.cells Zab [.str R,.str S] false]) fun R=>(Zag R (.ptr (K,L + 3))=Zag J (.ptr (K,L + 3)))∧Zci pg Zbo R (.slice M N O P) (.slice (J.length,0) 1 1 true) fun J K=>xSl J fun J L M N=>Zbf a0 fun O P=>Zbt (Zbb K (.ptr (O,P + 3)) [.slice J L M N]) fun J=>bcase (decide ((x2:Int) > 30)) (Zbf a0 fun K L=>Zbt (Zbb J (.ptr (K,L + 5)) [.str ([100,101,101,112])]) fun K=>Q (.str []) K) (Zcd (Zbe J (.ptr (h.length,0)) 2) fun K=>Zai K fun K L=>Zbd K fun K=>Zai L fun L M=>Zbd L fun L=>Zbq M (Zak pg Zfz [.ptr a0,.agg [.str K,.str L]] J fun J K=>
 Zeb .i64 J fun J=>bcase (decide ((J:Int) < 0)) (Q (.str []) K) (Zbf a0 fun L M=>xSl (Zag K (.ptr (L,M + 0 + 1))) fun N O P P=>(0≤(J:Int)∧(J:Int) < (O:Nat))∧(Zbf N fun N O=>Zcd (Zbe K (.ptr (N,O + (Int.toNat J) * 3)) 3) fun P=>Zai P fun P R=>Zbd P fun P=>Zai R fun R S=>Zbd R fun R=>Zai S fun S T=>xSl S fun S U V W=>Zbq T (Zbd (Zag K (.ptr (h.length,0 + 1))) fun T=>(Zbe K (.ptr (N,O + (Int.toNat J) * 3)) 3=Zbe K (.ptr (N,O + (Int.toNat J) * 3)) 3)∧(Zag K (.ptr (L,M + 0 + 1))=Zag K (.ptr (L,M + 0 + 1)))∧Zak pg Zjb [.agg [.str P,.str R,.slice S U V W],.str T] K fun N O=>
 Zle N fun N=>Zai N fun N P=>xSl N fun N R S T=>Zai P fun P U=>Zbz P fun P=>Zbq U ((Zag O (.ptr (L,M + 0 + 1))=Zag K (.ptr (L,M + 0 + 1)))∧bcase (!P) (Zbf a0 fun K L=>Zbt (Zbb O (.ptr (K,L + 5)) [.str ([98,105,103])]) fun K=>Q (.str []) K) (Zak pg Zhm [.int .i64 J] O fun J K=>
 Zbd J fun J=>L18 Q a0 x2 N R S T J N R S T (((R:Nat):Int)) 0 K)))))))))))∧(Zcf (A ++ [.cells Zab [.str H,.str I] false]) fun H=>(Zag H (.ptr (B,C + 4))=Zag A (.ptr (B,C + 4)))∧Zcf (H ++ [.cells Zab [] false]) fun I=>(Zbe I (.ptr (h.length,0)) 2=Zbe H (.ptr (h.length,0)) 2)∧(Zag I (.ptr (B,C + 4))=Zag H (.ptr (B,C + 4)))∧Zci pg Zbo I (.slice (H.length,0) 0 0 true) (.slice D E F G) fun D E=>xSl D fun D F G H=>(Zbe E (.ptr (h.length,0)) 2=Zbe I (.ptr (h.length,0)) 2)∧(Zag E (.ptr (B,C + 4))=Zag I (.ptr (B,C + 4)))∧Zci pg Zbo E (.slice D F G H) (.slice (A.length,0) 1 1 true) fun A D=>xSl A fun A F G H=>(Zbe D (.ptr (h.length,0)) 2=Zbe E (.ptr (h.length,0)) 2)∧(Zag D (.ptr (B,C + 4))=Zag E (.ptr (B,C + 4)))∧Zbf a0 fun B C=>Zbt (Zbb D (.ptr (B,C + 4)) [.slice A F G H]) fun A=>Zbf a0 fun B C=>xSl (Zag A (.ptr (B,C + 3))) fun B B C C=>bcase (decide (((((B:Nat):Int)):Int) ≥ 300)) (Zbf a0 fun B C=>Zbt (Zbb A (.ptr (B,C + 5)) [.str ([108,111,110,103])]) fun B=>Q (.str []) B) (Zbf a0 fun B C=>xSl (Zag A (.ptr (B,C + 3))) fun D E F G=>Zcd (Zbe A (.ptr (h.length,0)) 2) fun H=>Zai H fun H I=>Zbd H fun H=>Zai I fun I J=>Zbd I fun I=>Zbq J ((Zag A (.ptr (B,C + 3))=Zag A (.ptr (B,C + 3)))∧Zcf (A ++ [.cells Zab [.str H,.str I] false]) fun H=>(Zag H (.ptr (B,C + 3))=Zag A (.ptr (B,C + 3)))∧Zci pg Zbo H (.slice D E F G) (.slice (A.length,0) 1 1 true) fun A B=>xSl A fun A C D E=>Zbf a0 fun F G=>Zbt (Zbb B (.ptr (F,G + 3)) [.slice A C D E]) fun A=>bcase (decide ((x2:Int) > 30)) (Zbf a0 fun B C=>Zbt (Zbb A (.ptr (B,C + 5)) [.str ([100,101,101,112])]) fun B=>Q (.str []) B) (Zcd (Zbe A (.ptr (h.length,0)) 2) fun B=>Zai B fun B C=>Zbd B fun B=>Zai C fun C D=>Zbd C fun C=>Zbq D (Zak pg Zfz [.ptr a0,.agg [.str B,.str C]] A fun A B=>
 Zeb .i64 A fun A=>bcase (decide ((A:Int) < 0)) (Q (.str []) B) (Zbf a0 fun C D=>xSl (Zag B (.ptr (C,D + 0 + 1))) fun E F G G=>(0≤(A:Int)∧(A:Int) < (F:Nat))∧(Zbf E fun E F=>Zcd (Zbe B (.ptr (E,F + (Int.toNat A) * 3)) 3) fun G=>Zai G fun G H=>Zbd G fun G=>Zai H fun H I=>Zbd H fun H=>Zai I fun I J=>xSl I fun I K L M=>Zbq J (Zbd (Zag B (.ptr (h.length,0 + 1))) fun J=>(Zbe B (.ptr (E,F + (Int.toNat A) * 3)) 3=Zbe B (.ptr (E,F + (Int.toNat A) * 3)) 3)∧(Zag B (.ptr (C,D + 0 + 1))=Zag B (.ptr (C,D + 0 + 1)))∧Zak pg Zjb [.agg [.str G,.str H,.slice I K L M],.str J] B fun E F=>
 Zle E fun E=>Zai E fun E G=>xSl E fun E H I J=>Zai G fun G K=>Zbz G fun G=>Zbq K ((Zag F (.ptr (C,D + 0 + 1))=Zag B (.ptr (C,D + 0 + 1)))∧bcase (!G) (Zbf a0 fun B C=>Zbt (Zbb F (.ptr (B,C + 5)) [.str ([98,105,103])]) fun B=>Q (.str []) B) (Zak pg Zhm [.int .i64 A] F fun A B=>
 Zbd A fun A=>L18 Q a0 x2 E H I J A E H I J (((H:Nat):Int)) 0 B)))))))))))):Zak pg Zgy [.ptr a0,.agg [.str x1x0,.str x1x1],.int .i64 x2] h Q:=
 Zak.of_body kp (c:=cod fn) (fn:=fn) Go.Proofs.Tryz.func75 (by kernel_rfl) (by kernel_rfl) (Nat.le_of_ble_eq_true (by kernel_rfl))
  (cast (by kernel_rfl) ht)
end Zeo
end Go.Sim

set_option maxRecDepth 100000
set_option maxHeartbeats 0
set_option linter.unusedVariables false
namespace Go.Sim
open Go Go.RowKit
namespace Znz
noncomputable abbrev fn:Func:=Go.Proofs.Tryz.f117
def kp:Zch:=[]
noncomputable def C (p:List Nat):Code:=(cod fn).sub p
def KR (Q:QT):KT:=Zfd pg fn.results.toList Q
theorem call (x0x0 x0x1:List Nat) (a0x2:Pt) (n0x2 c0x2:Nat) (e0x2:Bool) (h:Zaa) (Q:QT) (ht :
 Zcf (h ++ [.cells Zad [.str x0x0,.str x0x1,.slice a0x2 n0x2 c0x2 e0x2] false]) fun A=>Zcf (A ++ [.cells Zad [.str [],.str [],.slice none 0 0 true] false]) fun B=>Zcf (B ++ [.cells Zab [] false]) fun C=>xSl (Zag C (.ptr (h.length,0 + 2))) fun D E F G=>Zci pg Zbo C (.slice (B.length,0) 0 0 true) (.slice D E F G) fun B C=>xSl B fun B D E F=>Zbt (Zbb C (.ptr (h.length,0 + 2)) [.slice B D E F]) fun B=>Zcd (Zbe B (.ptr (h.length,0)) 3) fun C=>Zai C fun C D=>Zbd C fun C=>Zai D fun D E=>Zbd D fun D=>Zai E fun E F=>xSl E fun E G H I=>Zbq F (Zbt (Zbb B (.ptr (A.length,0)) [.str C,.str D,.slice E G H I]) fun B=>Zcd (Zbe B (.ptr (A.length,0)) 3) fun A=>Zai A fun A C=>Zbd A fun A=>Zai C fun C D=>Zbd C fun C=>Zai D fun D E=>xSl D fun D F G H=>Zbq E (Q (.agg [.str A,.str C,.slice D F G H]) B))):Zak pg Zjv [.agg [.str x0x0,.str x0x1,.slice a0x2 n0x2 c0x2 e0x2]] h Q:=
 Zak.of_body kp (c:=cod fn) (fn:=fn) Go.Proofs.Tryz.func117 (by kernel_rfl) (by kernel_rfl) (Nat.le_of_ble_eq_true (by kernel_rfl))
  (cast (by kernel_rfl) ht)
end Znz
namespace Zfk
noncomputable abbrev fn:Func:=Go.Proofs.Tryz.f81
def kp:Zch:=[(3000003,[3]),(1000003,[3,7,8,9])]
noncomputable def C (p:List Nat):Code:=(cod fn).sub p
def KR (Q:QT):KT:=Zfd pg fn.results.toList Q
abbrev T3:=Pt→Nat→Nat→Bool→Pt→Nat→Nat→Bool→Int→Int→Zaa→Prop
def E3 (R3:T3) (env:Env) (h:Zaa):Prop:=Zbu 3 env fun v env=>xSl v fun a3 n3 c3 e3=>Zbu 7 env fun v env=>xSl v fun a7 n7 c7 e7=>Zbu 8 env fun v env=>Zdz .i64 v fun x8=>Zbu 9 env fun v env=>Zdz .i64 v fun x9=>Zin env (R3 a3 n3 c3 e3 a7 n7 c7 e7 x8 x9 h)
theorem Zgc {R3:T3} {env:Env} {h:Zaa} (hi:E3 R3 env h):∃ a3,∃ n3,∃ c3,∃ e3,∃ a7,∃ n7,∃ c7,∃ e7,∃ x8,∃ x9,env=[(3,.slice a3 n3 c3 e3),(7,.slice a7 n7 c7 e7),(8,.int .i64 x8),(9,.int .i64 x9)]∧R3 a3 n3 c3 e3 a7 n7 c7 e7 x8 x9 h:=by
 unfold E3 at hi
 repeat ((first | (have k:=Zaf hi; clear hi; obtain ⟨_,_,e,hi⟩:=k) | (have k:=Zav hi; clear hi; obtain ⟨_,e,hi⟩:=k) | (have k:=Zbp hi; clear hi; obtain ⟨_,_,_,_,e,hi⟩:=k)); subst e)
 obtain ⟨rfl,hi⟩:=Zbl hi
 exact ⟨_,_,_,_,_,_,_,_,_,_,rfl,hi⟩
def K0 (Q:QT):KT:=andThen (fun env' h'=>(match kp.find 4000007 with | some ks=>Den pg fn.ntmps (C [1,1,1]) (env'.keep ks) h' (KR Q) | none=>den pg fn.ntmps kp (C [1,1,1]) env' h' (KR Q))) (KR Q)
def K1 (Q:QT):KT:=Zcj 0 (K0 Q)
def K2 (Q:QT):KT:=left kp 3 (K1 Q)
def K3 (Q:QT) (R3:T3):KT:=rnd ((kp.find 1000003).getD []) (E3 R3) (K2 Q)
def L3 (Q:QT) (a3:Pt) (n3 c3:Nat) (e3:Bool) (a7:Pt) (n7 c7:Nat) (e7:Bool) (x8 x9:Int) (h:Zaa):Prop:=Zej (Den pg fn.ntmps (C [1,1,0,1,0,0])) ((kp.find 1000003).getD []) (K2 Q) [(3,.slice a3 n3 c3 e3),(7,.slice a7 n7 c7 e7),(8,.int .i64 x8),(9,.int .i64 x9)] h
def Ztc (Q:QT) (a3:Pt) (n3 c3:Nat) (e3:Bool) (h:Zaa):Prop:=At (K1 Q) (.exit 0) [(3,.slice a3 n3 c3 e3)] h
def L3t (Q:QT) (R3:T3) (a3:Pt) (n3 c3:Nat) (e3:Bool) (a7:Pt) (n7 c7:Nat) (e7:Bool) (x8 x9:Int) (h:Zaa):Prop:=
 bcase (decide ((x9:Int) < x8)) ((0≤(x9:Int)∧(x9:Int) < (n7:Nat))∧(Zbf a7 fun A B=>Zcd (Zbe h (.ptr (A,B + (Int.toNat x9) * 3)) 3) fun A=>Zai A fun A B=>Zbd A fun A=>Zai B fun B C=>Zbd B fun B=>Zai C fun C D=>xSl C fun C E F G=>Zbq D (Zcf (h ++ [.cells Zad [.str [],.str [],.slice none 0 0 true] false]) fun D=>Zbt (Zbb D (.ptr (h.length,0)) [.str A,.str B,.slice C E F G]) fun A=>Zcd (Zbe A (.ptr (h.length,0)) 3) fun B=>Zai B fun B C=>Zbd B fun B=>Zai C fun C D=>Zbd C fun C=>Zai D fun D E=>xSl D fun D F G H=>Zbq E (Zak pg Zjv [.agg [.str B,.str C,.slice D F G H]] A fun A B=>
 Zqh A fun A=>Zai A fun A C=>Zbd A fun A=>Zai C fun C D=>Zbd C fun C=>Zai D fun D E=>xSl D fun D F G H=>Zbq E (Zcf (B ++ [.cells Zad [.str A,.str C,.slice D F G H] false]) fun A=>Zci pg Zfq A (.slice a3 n3 c3 e3) (.slice (B.length,0) 1 1 true) fun A B=>xSl A fun A C D E=>R3 A C D E a7 n7 c7 e7 x8 (IntKind.wrap .i64 (x9 + 1)) B))))) (Ztc Q a3 n3 c3 e3 h)
theorem Zok (Q:QT) (R3:T3) (a3:Pt) (n3 c3:Nat) (e3:Bool) (a7:Pt) (n7 c7:Nat) (e7:Bool) (x8 x9:Int) (h:Zaa) (ht:L3t Q R3 a3 n3 c3 e3 a7 n7 c7 e7 x8 x9 h):Den pg fn.ntmps (C [1,1,0,1,0,0]) [(3,.slice a3 n3 c3 e3),(7,.slice a7 n7 c7 e7),(8,.int .i64 x8),(9,.int .i64 x9)] h (K3 Q R3):=
 Zba (kp:=kp) (cast (by kernel_rfl) ht)
theorem L3ind (Q:QT) (a7:Pt) (n7 c7:Nat) (e7:Bool) (x8:Int) {G:Type} (J:G→Pt→Nat→Nat→Bool→Int→Zaa→Prop) (m:G→Nat)
 (hr:∀ (g:G) (a3:Pt) (n3 c3:Nat) (e3:Bool) (x9:Int) (h:Zaa),J g a3 n3 c3 e3 x9 h→∀ (R3:T3),(∀ g' (a3:Pt) (n3 c3:Nat) (e3:Bool) (x9:Int) (h:Zaa),m g' < m g→J g' a3 n3 c3 e3 x9 h→R3 a3 n3 c3 e3 a7 n7 c7 e7 x8 x9 h)→L3t Q R3 a3 n3 c3 e3 a7 n7 c7 e7 x8 x9 h)
 (g:G) (a3:Pt) (n3 c3:Nat) (e3:Bool) (x9:Int) (h:Zaa) (hj:J g a3 n3 c3 e3 x9 h):L3 Q a3 n3 c3 e3 a7 n7 c7 e7 x8 x9 h:=by
 let P:=fun (K:Pt→Nat→Nat→Bool→Int→Zaa→Prop) a3 n3 c3 e3 a7' n7' c7' e7' x8' x9 h=>a7=a7'∧n7=n7'∧c7=c7'∧e7=e7'∧x8=x8'∧K a3 n3 c3 e3 x9 h
 refine Zej.inv2 (fun g=>E3 (P (J g))) (fun g=>E3 (P fun a3 n3 c3 e3 x9 h=>∃ g',m g' < m g∧J g' a3 n3 c3 e3 x9 h)) m ?_ ?_ g ⟨rfl,rfl,rfl,rfl,rfl,hj⟩
 ·intro g env h hi
  obtain ⟨a3,n3,c3,e3,a7',n7',c7',e7',x8',x9,rfl,rfl,rfl,rfl,rfl,rfl,hj⟩:=Zgc hi
  exact Zok Q _ a3 n3 c3 e3 a7 n7 c7 e7 x8 x9 h (hr g a3 n3 c3 e3 x9 h hj (P fun a3 n3 c3 e3 x9 h=>∃ g',m g' < m g∧J g' a3 n3 c3 e3 x9 h) fun g' a3 n3 c3 e3 x9 h hlt hj=>⟨rfl,rfl,rfl,rfl,rfl,g',hlt,hj⟩)
 ·intro g env h hi
  obtain ⟨a3,n3,c3,e3,a7',n7',c7',e7',x8',x9,rfl,rfl,rfl,rfl,rfl,rfl,g',hlt,hj⟩:=Zgc hi
  exact ⟨g',hlt,rfl,rfl,rfl,rfl,rfl,hj⟩
theorem A3x0i (Q:QT) (a3:Pt) (n3 c3:Nat) (e3:Bool) (h:Zaa) (ht :
 Q (.slice a3 n3 c3 e3) h):Ztc Q a3 n3 c3 e3 h:=
 At.mk (cast (by kernel_rfl) ht)
theorem call (a0:Pt) (n0 c0:Nat) (e0:Bool) (h:Zaa) (Q:QT) (ht :
 Zcf (h ++ [.cells Zad [] false]) fun A=>L3 Q (h.length,0) 0 0 true a0 n0 c0 e0 (((n0:Nat):Int)) 0 A):Zak pg Zhu [.slice a0 n0 c0 e0] h Q:=
 Zak.of_body kp (c:=cod fn) (fn:=fn) Go.Proofs.Tryz.func81 (by kernel_rfl) (by kernel_rfl) (Nat.le_of_ble_eq_true (by kernel_rfl))
  (cast (by kernel_rfl) ht)
end Zfk
namespace Zqj
noncomputable abbrev fn:Func:=Go.Proofs.Tryz.f48
def kp:Zch:=[]
noncomputable def C (p:List Nat):Code:=(cod fn).sub p
def KR (Q:QT):KT:=Zfd pg fn.results.toList Q
theorem call (a0x0:Pt) (n0x0 c0x0:Nat) (e0x0:Bool) (a0x1:Pt) (n0x1 c0x1:Nat) (e0x1:Bool) (h:Zaa) (Q:QT) (ht :
 Zcf (h ++ [.cells Zac [.slice a0x0 n0x0 c0x0 e0x0,.slice a0x1 n0x1 c0x1 e0x1] false]) fun A=>Zcf (A ++ [.cells Zac [.slice none 0 0 true,.slice none 0 0 true] false]) fun B=>Zcf (B ++ [.cells Zbj [] false]) fun C=>xSl (Zag C (.ptr (h.length,0 + 0))) fun D E F G=>Zci pg Zlb C (.slice (B.length,0) 0 0 true) (.slice D E F G) fun B C=>xSl B fun B D E F=>Zbt (Zbb C (.ptr (h.length,0 + 0)) [.slice B D E F]) fun B=>xSl (Zag B (.ptr (h.length,0 + 1))) fun C D E F=>Zak pg Zhu [.slice C D E F] B fun B C=>
 xSl B fun B D E F=>Zbt (Zbb C (.ptr (h.length,0 + 1)) [.slice B D E F]) fun B=>Zcd (Zbe B (.ptr (h.length,0)) 2) fun C=>Zai C fun C D=>xSl C fun C E F G=>Zai D fun D H=>xSl D fun D I J K=>Zbq H (Zbt (Zbb B (.ptr (A.length,0)) [.slice C E F G,.slice D I J K]) fun B=>Zcd (Zbe B (.ptr (A.length,0)) 2) fun A=>Zai A fun A C=>xSl A fun A D E F=>Zai C fun C G=>xSl C fun C H I J=>Zbq G (Q (.agg [.slice A D E F,.slice C H I J]) B))):Zak pg Zjh [.agg [.slice a0x0 n0x0 c0x0 e0x0,.slice a0x1 n0x1 c0x1 e0x1]] h Q:=
 Zak.of_body kp (c:=cod fn) (fn:=fn) Go.Proofs.Tryz.func48 (by kernel_rfl) (by kernel_rfl) (Nat.le_of_ble_eq_true (by kernel_rfl))
  (cast (by kernel_rfl) ht)
end Zqj
end Go.Sim

set_option maxRecDepth 100000
set_option maxHeartbeats 0
set_option linter.unusedVariables false
namespace Go.Sim
open Go Go.RowKit
namespace Zpt
noncomputable abbrev fn:Func:=Go.Proofs.Tryz.f24
def kp:Zch:=[]
noncomputable def C (p:List Nat):Code:=(cod fn).sub p
def KR (Q:QT):KT:=Zfd pg fn.results.toList Q
theorem call (a0:Pt) (n0 c0:Nat) (e0:Bool) (h:Zaa) (Q:QT) (ht :
 Zcf (h ++ [.cells Zac [.slice none 0 0 true,.slice none 0 0 true] false]) fun A=>Zcf (A ++ [.cells Zab [.str [],.str []] false]) fun B=>Zak pg Zlf [.slice a0 n0 c0 e0] B fun B C=>
 Zgn B fun B=>Zak pg Zou [.ptr B] C fun B C=>
 Zle B fun B=>Zai B fun B D=>Zqh B fun B=>Zai B fun B E=>xSl B fun B F G H=>Zai E fun E I=>xSl E fun E J K L=>Zbq I (Zai D fun D I=>Zqh D fun D=>Zai D fun D M=>Zbd D fun D=>Zai M fun M N=>Zbd M fun M=>Zbq N (Zbq I (Zbt (Zbb C (.ptr (h.length,0)) [.slice B F G H,.slice E J K L]) fun B=>Zbt (Zbb B (.ptr (A.length,0)) [.str D,.str M]) fun B=>Zcd (Zbe B (.ptr (h.length,0)) 2) fun C=>Zai C fun C D=>xSl C fun C E F G=>Zai D fun D H=>xSl D fun D I J K=>Zbq H (Zcd (Zbe B (.ptr (A.length,0)) 2) fun A=>Zai A fun A H=>Zbd A fun A=>Zai H fun H L=>Zbd H fun H=>Zbq L (Q (.tup [.agg [.slice C E F G,.slice D I J K],.agg [.str A,.str H]]) B)))))):Zak pg Zlp [.slice a0 n0 c0 e0] h Q:=
 Zak.of_body kp (c:=cod fn) (fn:=fn) Go.Proofs.Tryz.func24 (by kernel_rfl) (by kernel_rfl) (Nat.le_of_ble_eq_true (by kernel_rfl))
  (cast (by kernel_rfl) ht)
end Zpt
end Go.Sim

set_option maxRecDepth 100000
set_option maxHeartbeats 0
set_option linter.unusedVariables false
namespace Go.Sim
open Go Go.RowKit
namespace Zkd
noncomputable abbrev fn:Func:=Go.Proofs.Tryz.f40
def kp:Zch:=[(2000004,[4,6,0,2,3]),(2000005,[2,3]),(4000006,[0,5,4,2,3]),(4000008,[4,5,2,3]),(2000008,[2,3])]
noncomputable def C (p:List Nat):Code:=(cod fn).sub p
def KR (Q:QT):KT:=Zfd pg fn.results.toList Q
def J6 (Q:QT) (a0:Pt) (i5 o5 i4 o4 i2 o2 i3 o3:Nat) (h:Zaa):Prop:=Den pg fn.ntmps (C [1,1,1,1]) [(0,.ptr a0),(5,.ptr (i5,o5)),(4,.ptr (i4,o4)),(2,.ptr (i2,o2)),(3,.ptr (i3,o3))] h (KR Q)
def J8 (Q:QT) (i4 o4 i5 o5 i2 o2 i3 o3:Nat) (h:Zaa):Prop:=Den pg fn.ntmps (C [1,1,1,1,1]) [(4,.ptr (i4,o4)),(5,.ptr (i5,o5)),(2,.ptr (i2,o2)),(3,.ptr (i3,o3))] h (KR Q)
theorem J6i (Q:QT) (a0:Pt) (i5 o5 i4 o4 i2 o2 i3 o3:Nat) (h:Zaa) (ht :
 Zak pg Zbh [.ptr a0,.int .i64 20] h fun A B=>
 Zeb .i64 A fun A=>bcase ((A:Int) == 0) (Zak pg Ztv [.ptr a0] B fun A C=>
 Zbd A fun A=>Zbt (Zbb C (.ptr (i5,o5 + 1)) [.str A]) fun A=>J8 Q i4 o4 i5 o5 i2 o2 i3 o3 A) (J8 Q i4 o4 i5 o5 i2 o2 i3 o3 B)):J6 Q a0 i5 o5 i4 o4 i2 o2 i3 o3 h:=
 Zba (kp:=kp) (cast (by kernel_rfl) ht)
theorem J8i (Q:QT) (i4 o4 i5 o5 i2 o2 i3 o3:Nat) (h:Zaa) (ht :
 Zcd (Zbe h (.ptr (i4,o4)) 2) fun A=>Zai A fun A B=>xSl A fun A C D E=>Zai B fun B F=>xSl B fun B G H I=>Zbq F (Zcd (Zbe h (.ptr (i5,o5)) 2) fun F=>Zai F fun F J=>Zbd F fun F=>Zai J fun J K=>Zbd J fun J=>Zbq K (Zbt (Zbb h (.ptr (i2,o2)) [.slice A C D E,.slice B G H I]) fun A=>(Zbe A (.ptr (i5,o5)) 2=Zbe h (.ptr (i5,o5)) 2)∧Zbt (Zbb A (.ptr (i3,o3)) [.str F,.str J]) fun A=>Zcd (Zbe A (.ptr (i2,o2)) 2) fun B=>Zai B fun B C=>xSl B fun B D E F=>Zai C fun C G=>xSl C fun C H I J=>Zbq G (Zcd (Zbe A (.ptr (i3,o3)) 2) fun G=>Zai G fun G K=>Zbd G fun G=>Zai K fun K L=>Zbd K fun K=>Zbq L (Q (.tup [.agg [.slice B D E F,.slice C H I J],.agg [.str G,.str K]]) A))))):J8 Q i4 o4 i5 o5 i2 o2 i3 o3 h:=
 Zba (kp:=kp) (cast (by kernel_rfl) ht)
theorem call (a0:Pt) (h:Zaa) (Q:QT) (ht :
 Zcf (h ++ [.cells Zac [.slice none 0 0 true,.slice none 0 0 true] false]) fun A=>Zcf (A ++ [.cells Zab [.str [],.str []] false]) fun B=>Zak pg Zoy [.ptr a0] B fun B C=>
 Zqh B fun B=>Zai B fun B D=>xSl B fun B E F G=>Zai D fun D H=>xSl D fun D I J K=>Zbq H (Zcf (C ++ [.cells Zac [.slice none 0 0 true,.slice none 0 0 true] false]) fun H=>Zbt (Zbb H (.ptr (C.length,0)) [.slice B E F G,.slice D I J K]) fun B=>Zcd (Zbe B (.ptr (C.length,0)) 2) fun D=>Zai D fun D E=>xSl D fun D F G H=>Zai E fun E I=>xSl E fun E J K L=>Zbq I (Zak pg Zjo [.ptr a0,.agg [.slice D F G H,.slice E J K L]] B fun B D=>
 Zbd B fun B=>Zak pg Zbh [.ptr a0,.int .i64 4] D fun D E=>
 Zeb .i64 D fun D=>Zak pg Zbh [.ptr a0,.int .i64 4] E fun E F=>
 Zeb .i64 E fun E=>Zak pg Zfx [.ptr a0,.int .i64 D,.bool (decide ((E:Int) > 0))] F fun D E=>
 Zbd D fun D=>Zcf (E ++ [.cells Zab [.str [],.str []] false]) fun F=>Zbt (Zbb F (.ptr (E.length,0)) [.str B,.str D]) fun B=>xSl (Zag B (.ptr (C.length,0 + 1))) fun D D F F=>bcase (decide (((((D:Nat):Int)):Int) > 0)) (Zak pg Zbh [.ptr a0,.int .i64 2] B fun D F=>
 Zeb .i64 D fun D=>bcase ((D:Int) == 0) (xSl (Zag F (.ptr (C.length,0 + 1))) fun D G H H=>xSl (Zag F (.ptr (C.length,0 + 1))) fun H H I I=>(Zak pg Zbh [.ptr a0,.int .i64 (((H:Nat):Int))] F fun I J=>
 Zeb .i64 I fun I=>(Zag J (.ptr (C.length,0 + 1))=Zag F (.ptr (C.length,0 + 1)))∧(Zag J (.ptr (C.length,0 + 1))=Zag F (.ptr (C.length,0 + 1)))∧(0≤(I:Int)∧(I:Int) < (G:Nat))∧(Zbf D fun K L=>Zcd (Zbe J (.ptr (K,L + (Int.toNat I) * 3)) 3) fun M=>Zai M fun M N=>Zbd M fun M=>Zai N fun N O=>Zbd N fun N=>Zai O fun O P=>xSl O fun O R S T=>Zbq P (Zcf (J ++ [.cells Zad [.str [],.str [],.slice none 0 0 true] false]) fun P=>(Zbe P (.ptr (K,L + (Int.toNat I) * 3)) 3=Zbe J (.ptr (K,L + (Int.toNat I) * 3)) 3)∧(Zag P (.ptr (C.length,0 + 1))=Zag J (.ptr (C.length,0 + 1)))∧(Zag P (.ptr (C.length,0 + 1))=Zag J (.ptr (C.length,0 + 1)))∧Zbt (Zbb P (.ptr (J.length,0)) [.str M,.str N,.slice O R S T]) fun I=>Zcd (Zbe I (.ptr (C.length,0)) 2) fun K=>Zai K fun K L=>xSl K fun K M N O=>Zai L fun L P=>xSl L fun L R S T=>Zbq P (Zbd (Zag I (.ptr (J.length,0 + 0 + 0))) fun P=>Zbd (Zag I (.ptr (J.length,0 + 0 + 1))) fun U=>(Zag I (.ptr (J.length,0 + 0 + 0))=Zag I (.ptr (J.length,0 + 0 + 0)))∧(Zbe I (.ptr (C.length,0)) 2=Zbe I (.ptr (C.length,0)) 2)∧Zak pg Zme [.ptr a0,.str U] I fun U V=>
 Zbd U fun U=>(Zag V (.ptr (J.length,0 + 0 + 0))=Zag I (.ptr (J.length,0 + 0 + 0)))∧(Zbe V (.ptr (C.length,0)) 2=Zbe I (.ptr (C.length,0)) 2)∧Zbt (Zbb V (.ptr (h.length,0)) [.slice K M N O,.slice L R S T]) fun I=>(Zag I (.ptr (J.length,0 + 0 + 0))=Zag V (.ptr (J.length,0 + 0 + 0)))∧Zbt (Zbb I (.ptr (A.length,0)) [.str P,.str U]) fun I=>Zcd (Zbe I (.ptr (h.length,0)) 2) fun J=>Zai J fun J K=>xSl J fun J L M N=>Zai K fun K O=>xSl K fun K P R S=>Zbq O (Zcd (Zbe I (.ptr (A.length,0)) 2) fun O=>Zai O fun O T=>Zbd O fun O=>Zai T fun T U=>Zbd T fun T=>Zbq U (Q (.tup [.agg [.slice J L M N,.slice K P R S],.agg [.str O,.str T]]) I))))))∧(Zcf (F ++ [.cells Zad [.str [],.str [],.slice none 0 0 true] false]) fun I=>(Zag I (.ptr (C.length,0 + 1))=Zag F (.ptr (C.length,0 + 1)))∧(Zag I (.ptr (C.length,0 + 1))=Zag F (.ptr (C.length,0 + 1)))∧Zak pg Zbh [.ptr a0,.int .i64 (((H:Nat):Int))] I fun H J=>
 Zeb .i64 H fun H=>(Zag J (.ptr (C.length,0 + 1))=Zag I (.ptr (C.length,0 + 1)))∧(Zag J (.ptr (C.length,0 + 1))=Zag I (.ptr (C.length,0 + 1)))∧(0≤(H:Int)∧(H:Int) < (G:Nat))∧(Zbf D fun D G=>Zcd (Zbe J (.ptr (D,G + (Int.toNat H) * 3)) 3) fun D=>Zai D fun D G=>Zbd D fun D=>Zai G fun G H=>Zbd G fun G=>Zai H fun H I=>xSl H fun H K L M=>Zbq I ((Zag J (.ptr (C.length,0 + 1))=Zag J (.ptr (C.length,0 + 1)))∧(Zag J (.ptr (C.length,0 + 1))=Zag J (.ptr (C.length,0 + 1)))∧Zbt (Zbb J (.ptr (F.length,0)) [.str D,.str G,.slice H K L M]) fun D=>Zcd (Zbe D (.ptr (C.length,0)) 2) fun G=>Zai G fun G H=>xSl G fun G I J K=>Zai H fun H L=>xSl H fun H M N O=>Zbq L (Zbd (Zag D (.ptr (F.length,0 + 0 + 0))) fun L=>Zbd (Zag D (.ptr (F.length,0 + 0 + 1))) fun P=>(Zag D (.ptr (F.length,0 + 0 + 0))=Zag D (.ptr (F.length,0 + 0 + 0)))∧(Zbe D (.ptr (C.length,0)) 2=Zbe D (.ptr (C.length,0)) 2)∧Zak pg Zme [.ptr a0,.str P] D fun P R=>
 Zbd P fun P=>(Zag R (.ptr (F.length,0 + 0 + 0))=Zag D (.ptr (F.length,0 + 0 + 0)))∧(Zbe R (.ptr (C.length,0)) 2=Zbe D (.ptr (C.length,0)) 2)∧Zbt (Zbb R (.ptr (h.length,0)) [.slice G I J K,.slice H M N O]) fun D=>(Zag D (.ptr (F.length,0 + 0 + 0))=Zag R (.ptr (F.length,0 + 0 + 0)))∧Zbt (Zbb D (.ptr (A.length,0)) [.str L,.str P]) fun D=>Zcd (Zbe D (.ptr (h.length,0)) 2) fun G=>Zai G fun G H=>xSl G fun G I J K=>Zai H fun H L=>xSl H fun H M N O=>Zbq L (Zcd (Zbe D (.ptr (A.length,0)) 2) fun L=>Zai L fun L P=>Zbd L fun L=>Zai P fun P R=>Zbd P fun P=>Zbq R (Q (.tup [.agg [.slice G I J K,.slice H M N O],.agg [.str L,.str P]]) D))))))) (J6 Q a0 E.length 0 C.length 0 h.length 0 A.length 0 F)) (J6 Q a0 E.length 0 C.length 0 h.length 0 A.length 0 B)))):Zak pg Zou [.ptr a0] h Q:=
 Zak.of_body kp (c:=cod fn) (fn:=fn) Go.Proofs.Tryz.func40 (by kernel_rfl) (by kernel_rfl) (Nat.le_of_ble_eq_true (by kernel_rfl))
  (cast (by kernel_rfl) ht)
end Zkd
end Go.Sim

set_option maxRecDepth 100000
set_option maxHeartbeats 0
set_option linter.unusedVariables false
namespace Go.Sim
open Go Go.RowKit
namespace Zjj
noncomputable abbrev fn:Func:=Go.Proofs.Tryz.f82
def kp:Zch:=[(3000008,[3,4]),(1000008,[3,4,50]),(4000011,[3,4])]
noncomputable def C (p:List Nat):Code:=(cod fn).sub p
def KR (Q:QT):KT:=Zfd pg fn.results.toList Q
abbrev T8:=Nat→Nat→Nat→Nat→Int→Zaa→Prop
def E8 (R8:T8) (env:Env) (h:Zaa):Prop:=Zbu 3 env fun v env=>Zgn v fun a=>Zbf a fun i3 o3=>Zbu 4 env fun v env=>Zgn v fun a=>Zbf a fun i4 o4=>Zbu 50 env fun v env=>Zdz .i64 v fun x50=>Zin env (R8 i3 o3 i4 o4 x50 h)
theorem Zyv {R8:T8} {env:Env} {h:Zaa} (hi:E8 R8 env h):∃ i3,∃ o3,∃ i4,∃ o4,∃ x50,env=[(3,.ptr (i3,o3)),(4,.ptr (i4,o4)),(50,.int .i64 x50)]∧R8 i3 o3 i4 o4 x50 h:=by
 unfold E8 at hi
 have hi0:=hi
 clear hi
 obtain ⟨_,_,rfl,hi1⟩:=Zaf hi0
 obtain ⟨a,rfl,hi2⟩:=Zbn hi1
 obtain ⟨i3,o3,rfl,hi3⟩:=Zbk hi2
 obtain ⟨_,_,rfl,hi4⟩:=Zaf hi3
 obtain ⟨a,rfl,hi5⟩:=Zbn hi4
 obtain ⟨i4,o4,rfl,hi6⟩:=Zbk hi5
 obtain ⟨_,_,rfl,hi7⟩:=Zaf hi6
 obtain ⟨x50,rfl,hi8⟩:=Zav hi7
 obtain ⟨rfl,hi9⟩:=Zbl hi8
 have hi:=hi9
 exact ⟨i3,o3,i4,o4,x50,rfl,hi⟩
def K0 (Q:QT):KT:=andThen (fun env' h'=>(match kp.find 4000011 with | some ks=>Den pg fn.ntmps (C [1,1]) (env'.keep ks) h' (KR Q) | none=>den pg fn.ntmps kp (C [1,1]) env' h' (KR Q))) (KR Q)
def K1 (Q:QT):KT:=Zcj 0 (K0 Q)
def K2 (Q:QT):KT:=Zcj 1 (K1 Q)
def K3 (Q:QT):KT:=left kp 8 (K2 Q)
def K4 (Q:QT) (R8:T8):KT:=rnd ((kp.find 1000008).getD []) (E8 R8) (K3 Q)
def J11 (Q:QT) (i3 o3 i4 o4:Nat) (h:Zaa):Prop:=Den pg fn.ntmps (C [1,1]) [(3,.ptr (i3,o3)),(4,.ptr (i4,o4))] h (KR Q)
def L8 (Q:QT) (i3 o3 i4 o4:Nat) (x50:Int) (h:Zaa):Prop:=Zej (Den pg fn.ntmps (C [1,0,1,0,1,1,1,1,1,0,1,0,0])) ((kp.find 1000008).getD []) (K3 Q) [(3,.ptr (i3,o3)),(4,.ptr (i4,o4)),(50,.int .i64 x50)] h
def Xbq (Q:QT) (i3 o3 i4 o4:Nat) (h:Zaa):Prop:=At (K2 Q) (.exit 1) [(3,.ptr (i3,o3)),(4,.ptr (i4,o4))] h
theorem J11i (Q:QT) (i3 o3 i4 o4:Nat) (h:Zaa) (ht :
 Zcd (Zbe h (.ptr (i3,o3)) 2) fun A=>Zai A fun A B=>xSl A fun A C D E=>Zai B fun B F=>xSl B fun B G H I=>Zbq F (Zbt (Zbb h (.ptr (i4,o4)) [.slice A C D E,.slice B G H I]) fun A=>Zcd (Zbe A (.ptr (i4,o4)) 2) fun B=>Zai B fun B C=>xSl B fun B D E F=>Zai C fun C G=>xSl C fun C H I J=>Zbq G (Q (.agg [.slice B D E F,.slice C H I J]) A))):J11 Q i3 o3 i4 o4 h:=
 Zba (kp:=kp) (cast (by kernel_rfl) ht)
def L8t (Q:QT) (R8:T8) (i3 o3 i4 o4:Nat) (x50:Int) (h:Zaa):Prop:=
 bcase (decide ((x50:Int) < 10)) (Zcf (h ++ [.cells Zad [] false]) fun A=>xSl (Zag A (.ptr (i3,o3 + 1))) fun B C D E=>Zci pg Zfq A (.slice (h.length,0) 0 0 true) (.slice B C D E) fun A B=>xSl A fun A C D E=>Zcf (B ++ [.cells Zab [] false]) fun F=>Zcf (F ++ [.cells Zad [.str [69],.str [105],.slice (B.length,0) 0 0 true] false]) fun B=>Zci pg Zfq B (.slice A C D E) (.slice (F.length,0) 1 1 true) fun A B=>xSl A fun A C D E=>Zbt (Zbb B (.ptr (i3,o3 + 1)) [.slice A C D E]) fun A=>R8 i3 o3 i4 o4 (IntKind.wrap .i64 (x50 + 1)) A) (Xbq Q i3 o3 i4 o4 h)
theorem Yss (Q:QT) (R8:T8) (i3 o3 i4 o4:Nat) (x50:Int) (h:Zaa) (ht:L8t Q R8 i3 o3 i4 o4 x50 h):Den pg fn.ntmps (C [1,0,1,0,1,1,1,1,1,0,1,0,0]) [(3,.ptr (i3,o3)),(4,.ptr (i4,o4)),(50,.int .i64 x50)] h (K4 Q R8):=
 Zba (kp:=kp) (cast (by kernel_rfl) ht)
theorem L8ind (Q:QT) (i3 o3 i4 o4:Nat) {G:Type} (J:G→Int→Zaa→Prop) (m:G→Nat)
 (hr:∀ (g:G) (x50:Int) (h:Zaa),J g x50 h→∀ (R8:T8),(∀ g' (x50:Int) (h:Zaa),m g' < m g→J g' x50 h→R8 i3 o3 i4 o4 x50 h)→L8t Q R8 i3 o3 i4 o4 x50 h)
 (g:G) (x50:Int) (h:Zaa) (hj:J g x50 h):L8 Q i3 o3 i4 o4 x50 h:=by
 let P:=fun (K:Int→Zaa→Prop) i3' o3' i4' o4' x50 h=>i3=i3'∧o3=o3'∧i4=i4'∧o4=o4'∧K x50 h
 refine Zej.inv2 (fun g=>E8 (P (J g))) (fun g=>E8 (P fun x50 h=>∃ g',m g' < m g∧J g' x50 h)) m ?_ ?_ g ⟨rfl,rfl,rfl,rfl,hj⟩
 ·intro g env h hi
  obtain ⟨i3',o3',i4',o4',x50,rfl,rfl,rfl,rfl,rfl,hj⟩:=Zyv hi
  exact Yss Q _ i3 o3 i4 o4 x50 h (hr g x50 h hj (P fun x50 h=>∃ g',m g' < m g∧J g' x50 h) fun g' x50 h hlt hj=>⟨rfl,rfl,rfl,rfl,g',hlt,hj⟩)
 ·intro g env h hi
  obtain ⟨i3',o3',i4',o4',x50,rfl,rfl,rfl,rfl,rfl,g',hlt,hj⟩:=Zyv hi
  exact ⟨g',hlt,rfl,rfl,rfl,rfl,hj⟩
theorem A8x1i (Q:QT) (i3 o3 i4 o4:Nat) (h:Zaa) (ht :
 J11 Q i3 o3 i4 o4 h):Xbq Q i3 o3 i4 o4 h:=
 At.mk (cast (by kernel_rfl) ht)
theorem call (a0 a1x0:Pt) (n1x0 c1x0:Nat) (e1x0:Bool) (a1x1:Pt) (n1x1 c1x1:Nat) (e1x1:Bool) (h:Zaa) (Q:QT) (ht :
 Zcf (h ++ [.cells Zac [.slice a1x0 n1x0 c1x0 e1x0,.slice a1x1 n1x1 c1x1 e1x1] false]) fun A=>Zcf (A ++ [.cells Zac [.slice none 0 0 true,.slice none 0 0 true] false]) fun B=>Zak pg Zbh [.ptr a0,.int .i64 36] B fun B C=>
 Zeb .i64 B fun B=>bcase ((B:Int) == 0) (Zcf (C ++ [.cells Zbj [] false]) fun D=>xSl (Zag D (.ptr (h.length,0 + 0))) fun E F G H=>Zci pg Zlb D (.slice (C.length,0) 0 0 true) (.slice E F G H) fun D E=>xSl D fun D F G H=>Zcf (E ++ [.cells Zbi [.str [69],.str [73],.str [],.str [72]] false]) fun I=>Zak pg Zck [.ptr a0,.slice (E.length,0) 4 4 true] I fun E I=>
 Zbd E fun E=>Zcf (I ++ [.cells Zbi [.str [],.str [69],.str [72],.str [90]] false]) fun J=>Zak pg Zck [.ptr a0,.slice (I.length,0) 4 4 true] J fun I J=>
 Zbd I fun I=>Zcf (J ++ [.cells Zbj [.str E,.str I] false]) fun E=>Zci pg Zlb E (.slice D F G H) (.slice (J.length,0) 1 1 true) fun D E=>xSl D fun D F G H=>Zbt (Zbb E (.ptr (h.length,0 + 0)) [.slice D F G H]) fun D=>J11 Q h.length 0 A.length 0 D) (bcase ((B:Int) == 1) (Zcf (C ++ [.cells Zad [] false]) fun D=>xSl (Zag D (.ptr (h.length,0 + 1))) fun E F G H=>Zci pg Zfq D (.slice (C.length,0) 0 0 true) (.slice E F G H) fun D E=>xSl D fun D F G H=>Zcf (E ++ [.cells Zbi [.str [69],.str [72],.str [65]] false]) fun I=>Zak pg Zck [.ptr a0,.slice (E.length,0) 3 3 true] I fun E I=>
 Zbd E fun E=>Zcf (I ++ [.cells Zbi [.str [120],.str [113],.str [105],.str ([108,40,120,41])] false]) fun J=>Zak pg Zck [.ptr a0,.slice (I.length,0) 4 4 true] J fun I J=>
 Zbd I fun I=>Zcf (J ++ [.cells Zbi [.str [69],.str [65],.str [72]] false]) fun K=>Zak pg Zck [.ptr a0,.slice (J.length,0) 3 3 true] K fun J K=>
 Zbd J fun J=>Zcf (K ++ [.cells Zbi [.str [121],.str [105],.str [113]] false]) fun L=>Zak pg Zck [.ptr a0,.slice (K.length,0) 3 3 true] L fun K L=>
 Zbd K fun K=>Zcf (L ++ [.cells Zab [.str J,.str K] false]) fun J=>Zcf (J ++ [.cells Zad [.str E,.str I,.slice (L.length,0) 1 1 true] false]) fun E=>Zci pg Zfq E (.slice D F G H) (.slice (J.length,0) 1 1 true) fun D E=>xSl D fun D F G H=>Zbt (Zbb E (.ptr (h.length,0 + 1)) [.slice D F G H]) fun D=>J11 Q h.length 0 A.length 0 D) (bcase ((B:Int) == 2) (L8 Q h.length 0 A.length 0 0 C) (J11 Q h.length 0 A.length 0 C)))):Zak pg Zui [.ptr a0,.agg [.slice a1x0 n1x0 c1x0 e1x0,.slice a1x1 n1x1 c1x1 e1x1]] h Q:=
 Zak.of_body kp (c:=cod fn) (fn:=fn) Go.Proofs.Tryz.func82 (by kernel_rfl) (by kernel_rfl) (Nat.le_of_ble_eq_true (by kernel_rfl))
  (cast (by kernel_rfl) ht)
end Zjj
namespace Zxc
noncomputable abbrev fn:Func:=Go.Proofs.Tryz.f49
def kp:Zch:=[]
noncomputable def C (p:List Nat):Code:=(cod fn).sub p
def KR (Q:QT):KT:=Zfd pg fn.results.toList Q
theorem call (a0:Pt) (h:Zaa) (Q:QT) (ht :
 Zcf (h ++ [.cells Zac [.slice none 0 0 true,.slice none 0 0 true] false]) fun A=>Zak pg Zsr [.ptr a0] A fun A B=>
 Zqh A fun A=>Zai A fun A C=>xSl A fun A D E F=>Zai C fun C G=>xSl C fun C H I J=>Zbq G (Zak pg Zui [.ptr a0,.agg [.slice A D E F,.slice C H I J]] B fun A B=>
 Zqh A fun A=>Zai A fun A C=>xSl A fun A D E F=>Zai C fun C G=>xSl C fun C H I J=>Zbq G (Zbt (Zbb B (.ptr (h.length,0)) [.slice A D E F,.slice C H I J]) fun A=>Zcd (Zbe A (.ptr (h.length,0)) 2) fun B=>Zai B fun B C=>xSl B fun B D E F=>Zai C fun C G=>xSl C fun C H I J=>Zbq G (Q (.agg [.slice B D E F,.slice C H I J]) A)))):Zak pg Zoy [.ptr a0] h Q:=
 Zak.of_body kp (c:=cod fn) (fn:=fn) Go.Proofs.Tryz.func49 (by kernel_rfl) (by kernel_rfl) (Nat.le_of_ble_eq_true (by kernel_rfl))
  (cast (by kernel_rfl) ht)
end Zxc
namespace Zpj
noncomputable abbrev fn:Func:=Go.Proofs.Tryz.f69
def kp:Zch:=[(4000003,[3,0]),(2000003,[4])]
noncomputable def C (p:List Nat):Code:=(cod fn).sub p
def KR (Q:QT):KT:=Zfd pg fn.results.toList Q
def J3 (Q:QT) (i3 o3:Nat) (a0:Pt) (h:Zaa):Prop:=Den pg fn.ntmps (C [1,1]) [(3,.ptr (i3,o3)),(0,.ptr a0)] h (KR Q)
theorem J3i (Q:QT) (i3 o3:Nat) (a0:Pt) (h:Zaa) (ht :
 xSl (Zag h (.ptr (i3,o3 + 0))) fun A B C C=>xSl (Zag h (.ptr (i3,o3 + 0))) fun C C D D=>(Zag h (.ptr (i3,o3 + 0))=Zag h (.ptr (i3,o3 + 0)))∧Zak pg Zbh [.ptr a0,.int .i64 (((C:Nat):Int))] h fun C D=>
 Zeb .i64 C fun C=>(Zag D (.ptr (i3,o3 + 0))=Zag h (.ptr (i3,o3 + 0)))∧(0≤(C:Int)∧(C:Int) < (B:Nat))∧(Zbf A fun A B=>Zbd (Zag D (.ptr (A,B + (Int.toNat C) * 2 + 0))) fun A=>(Zag D (.ptr (i3,o3 + 0))=Zag D (.ptr (i3,o3 + 0)))∧Q (.str A) D)):J3 Q i3 o3 a0 h:=
 Zba (kp:=kp) (cast (by kernel_rfl) ht)
theorem call (a0 a1x0:Pt) (n1x0 c1x0:Nat) (e1x0:Bool) (a1x1:Pt) (n1x1 c1x1:Nat) (e1x1:Bool) (h:Zaa) (Q:QT) (ht :
 Zcf (h ++ [.cells Zac [.slice a1x0 n1x0 c1x0 e1x0,.slice a1x1 n1x1 c1x1 e1x1] false]) fun A=>xSl (Zag A (.ptr (h.length,0 + 0))) fun B B C C=>bcase ((((B:Nat):Int):Int) == 0) (Zcf (A ++ [.cells Zbi [.str [69],.str [90],.str [],.str ([69,79])] false]) fun B=>Zak pg Zck [.ptr a0,.slice (A.length,0) 4 4 true] B fun B C=>
 Zbd B fun B=>Q (.str B) C) (Zak pg Zbh [.ptr a0,.int .i64 16] A fun A B=>
 Zeb .i64 A fun A=>bcase ((A:Int) == 0) (Zcf (B ++ [.cells Zbi [.str [69],.str [90],.str [],.str ([69,79])] false]) fun A=>Zak pg Zck [.ptr a0,.slice (B.length,0) 4 4 true] A fun A C=>
 Zbd A fun A=>Q (.str A) C) (J3 Q h.length 0 a0 B))):Zak pg Zjo [.ptr a0,.agg [.slice a1x0 n1x0 c1x0 e1x0,.slice a1x1 n1x1 c1x1 e1x1]] h Q:=
 Zak.of_body kp (c:=cod fn) (fn:=fn) Go.Proofs.Tryz.func69 (by kernel_rfl) (by kernel_rfl) (Nat.le_of_ble_eq_true (by kernel_rfl))
  (cast (by kernel_rfl) ht)
end Zpj
end Go.Sim
