/- A part of the proof of a statement of this seat: see the text that holds the theorem. No condition. -/
import Derived.Test.YtflfcofeedjblaaGreatNm
set_option linter.unusedVariables false
set_option linter.unusedSimpArgs false
set_option linter.all false
set_option maxRecDepth 100000
set_option maxHeartbeats 0
set_option linter.unusedVariables false
namespace Go.Sim
open Go Go.RowKit
namespace Zkf
noncomputable abbrev fn:Func:=Go.Proofs.Tryz.f56
def kp:Zcj:=[]
noncomputable def C (p:List Nat):Code:=(cod fn).sub p
def KR (Q:QT):KT:=Zfb pg fn.results.toList Q
theorem call (x0x0 x0x1:List Nat) (a0x2:Pt) (n0x2 c0x2:Nat) (e0x2:Bool) (h:Zaa) (Q:QT) (ht :
 Zck (h ++ [.cells Zac [.str x0x0,.str x0x1,.slice a0x2 n0x2 c0x2 e0x2] false]) fun A=>Q (.bool true) A):Zah pg Zci [.agg [.str x0x0,.str x0x1,.slice a0x2 n0x2 c0x2 e0x2]] h Q:=
 Zah.of_body kp (c:=cod fn) (fn:=fn) Go.Proofs.Tryz.func56 (by kernel_rfl) (by kernel_rfl) (Nat.le_of_ble_eq_true (by kernel_rfl))
  (cast (by kernel_rfl) ht)
end Zkf
namespace Zcg
noncomputable abbrev fn:Func:=Go.Proofs.Tryz.f55
def kp:Zcj:=[(3000003,[7]),(1000003,[1,2,7,12,13,14]),(4000007,[14,13,12,1,2,7])]
noncomputable def C (p:List Nat):Code:=(cod fn).sub p
def KR (Q:QT):KT:=Zfb pg fn.results.toList Q
abbrev T3:=List Nat→Pt→Nat→Nat→Bool→Pt→Nat→Nat→Bool→Int→Int→Zaa→Prop
def E3 (R3:T3) (env:Env) (h:Zaa):Prop:=Zbw 1 env fun v env=>Zbg v fun x1=>Zbw 2 env fun v env=>eFn Zci v fun cs=>Zbv cs (Zbw 7 env fun v env=>xSl v fun a7 n7 c7 e7=>Zbw 12 env fun v env=>xSl v fun a12 n12 c12 e12=>Zbw 13 env fun v env=>Zee .i64 v fun x13=>Zbw 14 env fun v env=>Zee .i64 v fun x14=>Zkh env (R3 x1 a7 n7 c7 e7 a12 n12 c12 e12 x13 x14 h))
theorem Zfy {R3:T3} {env:Env} {h:Zaa} (hi:E3 R3 env h):∃ x1,∃ a7,∃ n7,∃ c7,∃ e7,∃ a12,∃ n12,∃ c12,∃ e12,∃ x13,∃ x14,env=[(1,.str x1),(2,.fn Zci []),(7,.slice a7 n7 c7 e7),(12,.slice a12 n12 c12 e12),(13,.int .i64 x13),(14,.int .i64 x14)]∧R3 x1 a7 n7 c7 e7 a12 n12 c12 e12 x13 x14 h:=by
 unfold E3 at hi
 have hi0:=hi
 clear hi
 obtain ⟨_,_,rfl,hi1⟩:=Zak hi0
 obtain ⟨x1,rfl,hi2⟩:=Zfe hi1
 obtain ⟨_,_,rfl,hi3⟩:=Zak hi2
 obtain ⟨cs,rfl,hi4⟩:=Zux hi3
 obtain ⟨rfl,hi5⟩:=Zsi hi4
 obtain ⟨_,_,rfl,hi6⟩:=Zak hi5
 obtain ⟨a7,n7,c7,e7,rfl,hi7⟩:=Zby hi6
 obtain ⟨_,_,rfl,hi8⟩:=Zak hi7
 obtain ⟨a12,n12,c12,e12,rfl,hi9⟩:=Zby hi8
 obtain ⟨_,_,rfl,hi10⟩:=Zak hi9
 obtain ⟨x13,rfl,hi11⟩:=Zax hi10
 obtain ⟨_,_,rfl,hi12⟩:=Zak hi11
 obtain ⟨x14,rfl,hi13⟩:=Zax hi12
 obtain ⟨rfl,hi14⟩:=Zbp hi13
 have hi:=hi14
 exact ⟨x1,a7,n7,c7,e7,a12,n12,c12,e12,x13,x14,rfl,hi⟩
def K0 (Q:QT):KT:=andThen (fun env' h'=>(match kp.find 4000008 with | some ks=>Den pg fn.ntmps (C [1,1,1]) (env'.keep ks) h' (KR Q) | none=>den pg fn.ntmps kp (C [1,1,1]) env' h' (KR Q))) (KR Q)
def K1 (Q:QT):KT:=Zcs 0 (K0 Q)
def K2 (Q:QT):KT:=left kp 3 (K1 Q)
def K3 (Q:QT) (R3:T3):KT:=rnd ((kp.find 1000003).getD []) (E3 R3) (K2 Q)
def L3 (Q:QT) (x1:List Nat) (a7:Pt) (n7 c7:Nat) (e7:Bool) (a12:Pt) (n12 c12:Nat) (e12:Bool) (x13 x14:Int) (h:Zaa):Prop:=Zet (Den pg fn.ntmps (C [1,1,0,1,0,0])) ((kp.find 1000003).getD []) (K2 Q) [(1,.str x1),(2,.fn Zci []),(7,.slice a7 n7 c7 e7),(12,.slice a12 n12 c12 e12),(13,.int .i64 x13),(14,.int .i64 x14)] h
def J7 (Q:QT) (R3:T3) (x14 x13:Int) (a12:Pt) (n12 c12:Nat) (e12:Bool) (x1:List Nat) (a7:Pt) (n7 c7:Nat) (e7:Bool) (h:Zaa):Prop:=Den pg fn.ntmps (C [1,1,0,1,0,0,1,1,1]) [(14,.int .i64 x14),(13,.int .i64 x13),(12,.slice a12 n12 c12 e12),(1,.str x1),(2,.fn Zci []),(7,.slice a7 n7 c7 e7)] h (K3 Q R3)
def Ztb (Q:QT) (a7:Pt) (n7 c7:Nat) (e7:Bool) (h:Zaa):Prop:=At (K1 Q) (.exit 0) [(7,.slice a7 n7 c7 e7)] h
def L3t (Q:QT) (R3:T3) (x1:List Nat) (a7:Pt) (n7 c7:Nat) (e7:Bool) (a12:Pt) (n12 c12:Nat) (e12:Bool) (x13 x14:Int) (h:Zaa):Prop:=
 bcase (decide ((x14:Int) < x13)) ((0≤(x14:Int)∧(x14:Int) < (n12:Nat))∧(Zbm a12 fun A B=>Zco (Zbj h (.ptr (A,B + (Int.toNat x14) * 3)) 3) fun A=>Zaj A fun A B=>Zbg A fun A=>Zaj B fun B C=>Zbg B fun B=>Zaj C fun C D=>xSl C fun C E F G=>Zbv D (Zck (h ++ [.cells Zac [.str [],.str [],.slice none 0 0 true] false]) fun D=>Zbu (Zbb D (.ptr (h.length,0)) [.str A,.str B,.slice C E F G]) fun A=>Zbg (Zag A (.ptr (h.length,0 + 0 + 0))) fun B=>bcase (decide (B=x1)) (Zco (Zbj A (.ptr (h.length,0)) 3) fun B=>Zaj B fun B C=>Zbg B fun B=>Zaj C fun C D=>Zbg C fun C=>Zaj D fun D E=>xSl D fun D F G H=>Zbv E (Zah pg Zci [.agg [.str B,.str C,.slice D F G H]] A fun B C=>
 Zbx B fun B=>bcase B (Zck (C ++ [.cells Zfw [.int .i64 x14] false]) fun B=>Zcz pg Zxl B (.slice a7 n7 c7 e7) (.slice (C.length,0) 1 1 true) fun B D=>xSl B fun B E F G=>J7 Q R3 x14 x13 a12 n12 c12 e12 x1 B E F G D) (J7 Q R3 x14 x13 a12 n12 c12 e12 x1 a7 n7 c7 e7 C))) (J7 Q R3 x14 x13 a12 n12 c12 e12 x1 a7 n7 c7 e7 A)))) (Ztb Q a7 n7 c7 e7 h)
theorem Zpe (Q:QT) (R3:T3) (x1:List Nat) (a7:Pt) (n7 c7:Nat) (e7:Bool) (a12:Pt) (n12 c12:Nat) (e12:Bool) (x13 x14:Int) (h:Zaa) (ht:L3t Q R3 x1 a7 n7 c7 e7 a12 n12 c12 e12 x13 x14 h):Den pg fn.ntmps (C [1,1,0,1,0,0]) [(1,.str x1),(2,.fn Zci []),(7,.slice a7 n7 c7 e7),(12,.slice a12 n12 c12 e12),(13,.int .i64 x13),(14,.int .i64 x14)] h (K3 Q R3):=
 Zba (kp:=kp) (cast (by kernel_rfl) ht)
theorem L3ind (Q:QT) (x1:List Nat) (a12:Pt) (n12 c12:Nat) (e12:Bool) (x13:Int) {G:Type} (J:G→Pt→Nat→Nat→Bool→Int→Zaa→Prop) (m:G→Nat)
 (hr:∀ (g:G) (a7:Pt) (n7 c7:Nat) (e7:Bool) (x14:Int) (h:Zaa),J g a7 n7 c7 e7 x14 h→∀ (R3:T3),(∀ g' (a7:Pt) (n7 c7:Nat) (e7:Bool) (x14:Int) (h:Zaa),m g' < m g→J g' a7 n7 c7 e7 x14 h→R3 x1 a7 n7 c7 e7 a12 n12 c12 e12 x13 x14 h)→L3t Q R3 x1 a7 n7 c7 e7 a12 n12 c12 e12 x13 x14 h)
 (g:G) (a7:Pt) (n7 c7:Nat) (e7:Bool) (x14:Int) (h:Zaa) (hj:J g a7 n7 c7 e7 x14 h):L3 Q x1 a7 n7 c7 e7 a12 n12 c12 e12 x13 x14 h:=by
 let P:=fun (K:Pt→Nat→Nat→Bool→Int→Zaa→Prop) x1' a7 n7 c7 e7 a12' n12' c12' e12' x13' x14 h=>x1=x1'∧a12=a12'∧n12=n12'∧c12=c12'∧e12=e12'∧x13=x13'∧K a7 n7 c7 e7 x14 h
 refine Zet.inv2 (fun g=>E3 (P (J g))) (fun g=>E3 (P fun a7 n7 c7 e7 x14 h=>∃ g',m g' < m g∧J g' a7 n7 c7 e7 x14 h)) m ?_ ?_ g ⟨rfl,rfl,rfl,rfl,rfl,rfl,hj⟩
 ·intro g env h hi
  obtain ⟨x1',a7,n7,c7,e7,a12',n12',c12',e12',x13',x14,rfl,rfl,rfl,rfl,rfl,rfl,rfl,hj⟩:=Zfy hi
  exact Zpe Q _ x1 a7 n7 c7 e7 a12 n12 c12 e12 x13 x14 h (hr g a7 n7 c7 e7 x14 h hj (P fun a7 n7 c7 e7 x14 h=>∃ g',m g' < m g∧J g' a7 n7 c7 e7 x14 h) fun g' a7 n7 c7 e7 x14 h hlt hj=>⟨rfl,rfl,rfl,rfl,rfl,rfl,g',hlt,hj⟩)
 ·intro g env h hi
  obtain ⟨x1',a7,n7,c7,e7,a12',n12',c12',e12',x13',x14,rfl,rfl,rfl,rfl,rfl,rfl,rfl,g',hlt,hj⟩:=Zfy hi
  exact ⟨g',hlt,rfl,rfl,rfl,rfl,rfl,rfl,hj⟩
theorem J7i (Q:QT) (R3:T3) (x14 x13:Int) (a12:Pt) (n12 c12:Nat) (e12:Bool) (x1:List Nat) (a7:Pt) (n7 c7:Nat) (e7:Bool) (h:Zaa) (ht :
 R3 x1 a7 n7 c7 e7 a12 n12 c12 e12 x13 (IntKind.wrap .i64 (x14 + 1)) h):J7 Q R3 x14 x13 a12 n12 c12 e12 x1 a7 n7 c7 e7 h:=
 Zba (kp:=kp) (cast (by kernel_rfl) ht)
theorem A3x0i (Q:QT) (a7:Pt) (n7 c7:Nat) (e7:Bool) (h:Zaa) (ht :
 Q (.slice a7 n7 c7 e7) h):Ztb Q a7 n7 c7 e7 h:=
 At.mk (cast (by kernel_rfl) ht)
theorem call (a0x0:Pt) (n0x0 c0x0:Nat) (e0x0:Bool) (a0x1:Pt) (n0x1 c0x1:Nat) (e0x1:Bool) (x1:List Nat) (h:Zaa) (Q:QT) (ht :
 Zck (h ++ [.cells Zab [.slice a0x0 n0x0 c0x0 e0x0,.slice a0x1 n0x1 c0x1 e0x1] false]) fun A=>Zck (A ++ [.cells Zfw [] false]) fun B=>xSl (Zag B (.ptr (h.length,0 + 1))) fun C D E F=>L3 Q x1 (A.length,0) 0 0 true C D E F (((D:Nat):Int)) 0 B):Zah pg Zkc [.agg [.slice a0x0 n0x0 c0x0 e0x0,.slice a0x1 n0x1 c0x1 e0x1],.str x1,.fn Zci []] h Q:=
 Zah.of_body kp (c:=cod fn) (fn:=fn) Go.Proofs.Tryz.func55 (by kernel_rfl) (by kernel_rfl) (Nat.le_of_ble_eq_true (by kernel_rfl))
  (cast (by kernel_rfl) ht)
end Zcg
namespace Zoh
noncomputable abbrev fn:Func:=Go.Proofs.Tryz.f22
def kp:Zcj:=[]
noncomputable def C (p:List Nat):Code:=(cod fn).sub p
def KR (Q:QT):KT:=Zfb pg fn.results.toList Q
theorem call (a0x0:Pt) (n0x0 c0x0:Nat) (e0x0:Bool) (a0x1:Pt) (n0x1 c0x1:Nat) (e0x1:Bool) (x1:List Nat) (h:Zaa) (Q:QT) (ht :
 Zck (h ++ [.cells Zab [.slice a0x0 n0x0 c0x0 e0x0,.slice a0x1 n0x1 c0x1 e0x1] false]) fun A=>Zco (Zbj A (.ptr (h.length,0)) 2) fun B=>Zaj B fun B C=>xSl B fun B D E F=>Zaj C fun C G=>xSl C fun C H I J=>Zbv G (Zah pg Zns [.agg [.slice B D E F,.slice C H I J],.str x1] A fun A B=>
 Zbx A fun A=>bcase (!A) (Q (.tup [.slice none 0 0 true,.bool false]) B) (Zco (Zbj B (.ptr (h.length,0)) 2) fun A=>Zaj A fun A C=>xSl A fun A D E F=>Zaj C fun C G=>xSl C fun C H I J=>Zbv G (Zah pg Zkc [.agg [.slice A D E F,.slice C H I J],.str x1,.fn Zci []] B fun A B=>
 xSl A fun A C D E=>Q (.tup [.slice A C D E,.bool true]) B)))):Zah pg Zgz [.agg [.slice a0x0 n0x0 c0x0 e0x0,.slice a0x1 n0x1 c0x1 e0x1],.str x1] h Q:=
 Zah.of_body kp (c:=cod fn) (fn:=fn) Go.Proofs.Tryz.func22 (by kernel_rfl) (by kernel_rfl) (Nat.le_of_ble_eq_true (by kernel_rfl))
  (cast (by kernel_rfl) ht)
end Zoh
namespace Zeq
noncomputable abbrev fn:Func:=Go.Proofs.Tryz.f24
def kp:Zcj:=[(3000005,[6]),(1000005,[1,6,16,17,18]),(4000009,[18,17,16,1,6])]
noncomputable def C (p:List Nat):Code:=(cod fn).sub p
def KR (Q:QT):KT:=Zfb pg fn.results.toList Q
abbrev T5:=List Nat→Pt→Nat→Nat→Bool→Pt→Nat→Nat→Bool→Int→Int→Zaa→Prop
def E5 (R5:T5) (env:Env) (h:Zaa):Prop:=Zbw 1 env fun v env=>Zbg v fun x1=>Zbw 6 env fun v env=>xSl v fun a6 n6 c6 e6=>Zbw 16 env fun v env=>xSl v fun a16 n16 c16 e16=>Zbw 17 env fun v env=>Zee .i64 v fun x17=>Zbw 18 env fun v env=>Zee .i64 v fun x18=>Zkh env (R5 x1 a6 n6 c6 e6 a16 n16 c16 e16 x17 x18 h)
theorem Zma {R5:T5} {env:Env} {h:Zaa} (hi:E5 R5 env h):∃ x1,∃ a6,∃ n6,∃ c6,∃ e6,∃ a16,∃ n16,∃ c16,∃ e16,∃ x17,∃ x18,env=[(1,.str x1),(6,.slice a6 n6 c6 e6),(16,.slice a16 n16 c16 e16),(17,.int .i64 x17),(18,.int .i64 x18)]∧R5 x1 a6 n6 c6 e6 a16 n16 c16 e16 x17 x18 h:=by
 unfold E5 at hi
 repeat ((first | (have k:=Zak hi; clear hi; obtain ⟨_,_,e,hi⟩:=k) | (have k:=Zax hi; clear hi; obtain ⟨_,e,hi⟩:=k) | (have k:=Zby hi; clear hi; obtain ⟨_,_,_,_,e,hi⟩:=k) | (have k:=Zfe hi; clear hi; obtain ⟨_,e,hi⟩:=k)); subst e)
 obtain ⟨rfl,hi⟩:=Zbp hi
 exact ⟨_,_,_,_,_,_,_,_,_,_,_,rfl,hi⟩
def K0 (Q:QT):KT:=andThen (fun env' h'=>(match kp.find 4000010 with | some ks=>Den pg fn.ntmps (C [1,1,1,1]) (env'.keep ks) h' (KR Q) | none=>den pg fn.ntmps kp (C [1,1,1,1]) env' h' (KR Q))) (KR Q)
def K1 (Q:QT):KT:=Zcs 0 (K0 Q)
def K2 (Q:QT):KT:=left kp 5 (K1 Q)
def K3 (Q:QT) (R5:T5):KT:=rnd ((kp.find 1000005).getD []) (E5 R5) (K2 Q)
def L5 (Q:QT) (x1:List Nat) (a6:Pt) (n6 c6:Nat) (e6:Bool) (a16:Pt) (n16 c16:Nat) (e16:Bool) (x17 x18:Int) (h:Zaa):Prop:=Zet (Den pg fn.ntmps (C [1,1,1,0,1,0,0])) ((kp.find 1000005).getD []) (K2 Q) [(1,.str x1),(6,.slice a6 n6 c6 e6),(16,.slice a16 n16 c16 e16),(17,.int .i64 x17),(18,.int .i64 x18)] h
def J9 (Q:QT) (R5:T5) (x18 x17:Int) (a16:Pt) (n16 c16:Nat) (e16:Bool) (x1:List Nat) (a6:Pt) (n6 c6:Nat) (e6:Bool) (h:Zaa):Prop:=Den pg fn.ntmps (C [1,1,1,0,1,0,0,1,1,1]) [(18,.int .i64 x18),(17,.int .i64 x17),(16,.slice a16 n16 c16 e16),(1,.str x1),(6,.slice a6 n6 c6 e6)] h (K3 Q R5)
def A5x0 (Q:QT) (a6:Pt) (n6 c6:Nat) (e6:Bool) (h:Zaa):Prop:=At (K1 Q) (.exit 0) [(6,.slice a6 n6 c6 e6)] h
def L5t (Q:QT) (R5:T5) (x1:List Nat) (a6:Pt) (n6 c6:Nat) (e6:Bool) (a16:Pt) (n16 c16:Nat) (e16:Bool) (x17 x18:Int) (h:Zaa):Prop:=
 bcase (decide ((x18:Int) < x17)) ((0≤(x18:Int)∧(x18:Int) < (n16:Nat))∧(Zbm a16 fun A B=>Zco (Zbj h (.ptr (A,B + (Int.toNat x18) * 3)) 3) fun A=>Zaj A fun A B=>Zbg A fun A=>Zaj B fun B C=>Zbg B fun B=>Zaj C fun C D=>xSl C fun C E F G=>Zbv D (Zck (h ++ [.cells Zac [.str [],.str [],.slice none 0 0 true] false]) fun D=>Zbu (Zbb D (.ptr (h.length,0)) [.str A,.str B,.slice C E F G]) fun A=>Zbg (Zag A (.ptr (h.length,0 + 0 + 0))) fun B=>bcase (decide (B=x1)) (Zck (A ++ [.cells Zfw [.int .i64 x18] false]) fun B=>Zcz pg Zxl B (.slice a6 n6 c6 e6) (.slice (A.length,0) 1 1 true) fun B C=>xSl B fun B D E F=>J9 Q R5 x18 x17 a16 n16 c16 e16 x1 B D E F C) (J9 Q R5 x18 x17 a16 n16 c16 e16 x1 a6 n6 c6 e6 A)))) (A5x0 Q a6 n6 c6 e6 h)
theorem Zyg (Q:QT) (R5:T5) (x1:List Nat) (a6:Pt) (n6 c6:Nat) (e6:Bool) (a16:Pt) (n16 c16:Nat) (e16:Bool) (x17 x18:Int) (h:Zaa) (ht:L5t Q R5 x1 a6 n6 c6 e6 a16 n16 c16 e16 x17 x18 h):Den pg fn.ntmps (C [1,1,1,0,1,0,0]) [(1,.str x1),(6,.slice a6 n6 c6 e6),(16,.slice a16 n16 c16 e16),(17,.int .i64 x17),(18,.int .i64 x18)] h (K3 Q R5):=
 Zba (kp:=kp) (cast (by kernel_rfl) ht)
theorem L5ind (Q:QT) (x1:List Nat) (a16:Pt) (n16 c16:Nat) (e16:Bool) (x17:Int) {G:Type} (J:G→Pt→Nat→Nat→Bool→Int→Zaa→Prop) (m:G→Nat)
 (hr:∀ (g:G) (a6:Pt) (n6 c6:Nat) (e6:Bool) (x18:Int) (h:Zaa),J g a6 n6 c6 e6 x18 h→∀ (R5:T5),(∀ g' (a6:Pt) (n6 c6:Nat) (e6:Bool) (x18:Int) (h:Zaa),m g' < m g→J g' a6 n6 c6 e6 x18 h→R5 x1 a6 n6 c6 e6 a16 n16 c16 e16 x17 x18 h)→L5t Q R5 x1 a6 n6 c6 e6 a16 n16 c16 e16 x17 x18 h)
 (g:G) (a6:Pt) (n6 c6:Nat) (e6:Bool) (x18:Int) (h:Zaa) (hj:J g a6 n6 c6 e6 x18 h):L5 Q x1 a6 n6 c6 e6 a16 n16 c16 e16 x17 x18 h:=by
 let P:=fun (K:Pt→Nat→Nat→Bool→Int→Zaa→Prop) x1' a6 n6 c6 e6 a16' n16' c16' e16' x17' x18 h=>x1=x1'∧a16=a16'∧n16=n16'∧c16=c16'∧e16=e16'∧x17=x17'∧K a6 n6 c6 e6 x18 h
 refine Zet.inv2 (fun g=>E5 (P (J g))) (fun g=>E5 (P fun a6 n6 c6 e6 x18 h=>∃ g',m g' < m g∧J g' a6 n6 c6 e6 x18 h)) m ?_ ?_ g ⟨rfl,rfl,rfl,rfl,rfl,rfl,hj⟩
 ·intro g env h hi
  obtain ⟨x1',a6,n6,c6,e6,a16',n16',c16',e16',x17',x18,rfl,rfl,rfl,rfl,rfl,rfl,rfl,hj⟩:=Zma hi
  exact Zyg Q _ x1 a6 n6 c6 e6 a16 n16 c16 e16 x17 x18 h (hr g a6 n6 c6 e6 x18 h hj (P fun a6 n6 c6 e6 x18 h=>∃ g',m g' < m g∧J g' a6 n6 c6 e6 x18 h) fun g' a6 n6 c6 e6 x18 h hlt hj=>⟨rfl,rfl,rfl,rfl,rfl,rfl,g',hlt,hj⟩)
 ·intro g env h hi
  obtain ⟨x1',a6,n6,c6,e6,a16',n16',c16',e16',x17',x18,rfl,rfl,rfl,rfl,rfl,rfl,rfl,g',hlt,hj⟩:=Zma hi
  exact ⟨g',hlt,rfl,rfl,rfl,rfl,rfl,rfl,hj⟩
theorem J9i (Q:QT) (R5:T5) (x18 x17:Int) (a16:Pt) (n16 c16:Nat) (e16:Bool) (x1:List Nat) (a6:Pt) (n6 c6:Nat) (e6:Bool) (h:Zaa) (ht :
 R5 x1 a6 n6 c6 e6 a16 n16 c16 e16 x17 (IntKind.wrap .i64 (x18 + 1)) h):J9 Q R5 x18 x17 a16 n16 c16 e16 x1 a6 n6 c6 e6 h:=
 Zba (kp:=kp) (cast (by kernel_rfl) ht)
theorem A5x0i (Q:QT) (a6:Pt) (n6 c6:Nat) (e6:Bool) (h:Zaa) (ht :
 Q (.tup [.slice a6 n6 c6 e6,.bool true]) h):A5x0 Q a6 n6 c6 e6 h:=
 At.mk (cast (by kernel_rfl) ht)
theorem call (a0x0:Pt) (n0x0 c0x0:Nat) (e0x0:Bool) (a0x1:Pt) (n0x1 c0x1:Nat) (e0x1:Bool) (x1:List Nat) (h:Zaa) (Q:QT) (ht :
 Zck (h ++ [.cells Zab [.slice a0x0 n0x0 c0x0 e0x0,.slice a0x1 n0x1 c0x1 e0x1] false]) fun A=>Zck (A ++ [.cells Zfw [] false]) fun B=>Zco (Zbj B (.ptr (h.length,0)) 2) fun C=>Zaj C fun C D=>xSl C fun C E F G=>Zaj D fun D H=>xSl D fun D I J K=>Zbv H (Zah pg Zob [.agg [.slice C E F G,.slice D I J K],.str x1] B fun B C=>
 Zbx B fun B=>bcase (!B) (Q (.tup [.slice (A.length,0) 0 0 true,.bool false]) C) (xSl (Zag C (.ptr (h.length,0 + 1))) fun B D E F=>L5 Q x1 (A.length,0) 0 0 true B D E F (((D:Nat):Int)) 0 C))):Zah pg Zjz [.agg [.slice a0x0 n0x0 c0x0 e0x0,.slice a0x1 n0x1 c0x1 e0x1],.str x1] h Q:=
 Zah.of_body kp (c:=cod fn) (fn:=fn) Go.Proofs.Tryz.func24 (by kernel_rfl) (by kernel_rfl) (Nat.le_of_ble_eq_true (by kernel_rfl))
  (cast (by kernel_rfl) ht)
end Zeq
end Go.Sim

set_option maxRecDepth 100000
set_option maxHeartbeats 0
set_option linter.unusedVariables false
namespace Go.Sim
open Go Go.RowKit
namespace Zky
noncomputable abbrev fn:Func:=Go.Proofs.Tryz.f25
def kp:Zcj:=[(3000002,[0,1,4]),(1000002,[0,1,10,11]),(2000004,[22,11,10,0,1])]
noncomputable def C (p:List Nat):Code:=(cod fn).sub p
def KR (Q:QT):KT:=Zfb pg fn.results.toList Q
abbrev T2:=Pt→Nat→Nat→Bool→Pt→Nat→Nat→Bool→Int→Int→Zaa→Prop
def E2 (R2:T2) (env:Env) (h:Zaa):Prop:=Zbw 0 env fun v env=>xSl v fun a0 n0 c0 e0=>Zbw 1 env fun v env=>xSl v fun a1 n1 c1 e1=>Zbw 10 env fun v env=>Zee .i64 v fun x10=>Zbw 11 env fun v env=>Zee .i64 v fun x11=>Zkh env (R2 a0 n0 c0 e0 a1 n1 c1 e1 x10 x11 h)
theorem Zek {R2:T2} {env:Env} {h:Zaa} (hi:E2 R2 env h):∃ a0,∃ n0,∃ c0,∃ e0,∃ a1,∃ n1,∃ c1,∃ e1,∃ x10,∃ x11,env=[(0,.slice a0 n0 c0 e0),(1,.slice a1 n1 c1 e1),(10,.int .i64 x10),(11,.int .i64 x11)]∧R2 a0 n0 c0 e0 a1 n1 c1 e1 x10 x11 h:=by
 unfold E2 at hi
 repeat ((first | (have k:=Zak hi; clear hi; obtain ⟨_,_,e,hi⟩:=k) | (have k:=Zax hi; clear hi; obtain ⟨_,e,hi⟩:=k) | (have k:=Zby hi; clear hi; obtain ⟨_,_,_,_,e,hi⟩:=k)); subst e)
 obtain ⟨rfl,hi⟩:=Zbp hi
 exact ⟨_,_,_,_,_,_,_,_,_,_,rfl,hi⟩
def K0 (Q:QT):KT:=andThen (fun env' h'=>(match kp.find 4000007 with | some ks=>Den pg fn.ntmps (C [1,1]) (env'.keep ks) h' (KR Q) | none=>den pg fn.ntmps kp (C [1,1]) env' h' (KR Q))) (KR Q)
def K1 (Q:QT):KT:=Zcs 0 (K0 Q)
def K2 (Q:QT):KT:=left kp 2 (K1 Q)
def K3 (Q:QT) (R2:T2):KT:=rnd ((kp.find 1000002).getD []) (E2 R2) (K2 Q)
def L2 (Q:QT) (a0:Pt) (n0 c0:Nat) (e0:Bool) (a1:Pt) (n1 c1:Nat) (e1:Bool) (x10 x11:Int) (h:Zaa):Prop:=Zet (Den pg fn.ntmps (C [1,0,1,0,0])) ((kp.find 1000002).getD []) (K2 Q) [(0,.slice a0 n0 c0 e0),(1,.slice a1 n1 c1 e1),(10,.int .i64 x10),(11,.int .i64 x11)] h
def Zom (Q:QT) (a0:Pt) (n0 c0:Nat) (e0:Bool) (a1:Pt) (n1 c1:Nat) (e1:Bool) (h:Zaa):Prop:=At (K1 Q) (.exit 0) [(0,.slice a0 n0 c0 e0),(1,.slice a1 n1 c1 e1),(4,.undef)] h
def L2t (Q:QT) (R2:T2) (a0:Pt) (n0 c0:Nat) (e0:Bool) (a1:Pt) (n1 c1:Nat) (e1:Bool) (x10 x11:Int) (h:Zaa):Prop:=
 bcase (decide ((x11:Int) < x10)) ((0≤(x11:Int)∧(x11:Int) < (n0:Nat))∧(Zbm a0 fun A B=>(0≤(x11:Int)∧(x11:Int) < (n1:Nat))∧(Zbm a1 fun C D=>Zdo .i64 (Zag h (.ptr (A,B + (Int.toNat x11) * 1))) fun E=>Zdo .i64 (Zag h (.ptr (C,D + (Int.toNat x11) * 1))) fun C=>(Zag h (.ptr (A,B + (Int.toNat x11) * 1))=Zag h (.ptr (A,B + (Int.toNat x11) * 1)))∧bcase (!((E:Int) == C)) (Q (.bool false) h) (R2 a0 n0 c0 e0 a1 n1 c1 e1 x10 (IntKind.wrap .i64 (x11 + 1)) h)))) (Zom Q a0 n0 c0 e0 a1 n1 c1 e1 h)
theorem Zld (Q:QT) (R2:T2) (a0:Pt) (n0 c0:Nat) (e0:Bool) (a1:Pt) (n1 c1:Nat) (e1:Bool) (x10 x11:Int) (h:Zaa) (ht:L2t Q R2 a0 n0 c0 e0 a1 n1 c1 e1 x10 x11 h):Den pg fn.ntmps (C [1,0,1,0,0]) [(0,.slice a0 n0 c0 e0),(1,.slice a1 n1 c1 e1),(10,.int .i64 x10),(11,.int .i64 x11)] h (K3 Q R2):=
 Zba (kp:=kp) (cast (by kernel_rfl) ht)
theorem L2ind (Q:QT) (a0:Pt) (n0 c0:Nat) (e0:Bool) (a1:Pt) (n1 c1:Nat) (e1:Bool) (x10:Int) {G:Type} (J:G→Int→Zaa→Prop) (m:G→Nat)
 (hr:∀ (g:G) (x11:Int) (h:Zaa),J g x11 h→∀ (R2:T2),(∀ g' (x11:Int) (h:Zaa),m g' < m g→J g' x11 h→R2 a0 n0 c0 e0 a1 n1 c1 e1 x10 x11 h)→L2t Q R2 a0 n0 c0 e0 a1 n1 c1 e1 x10 x11 h)
 (g:G) (x11:Int) (h:Zaa) (hj:J g x11 h):L2 Q a0 n0 c0 e0 a1 n1 c1 e1 x10 x11 h:=by
 let P:=fun (K:Int→Zaa→Prop) a0' n0' c0' e0' a1' n1' c1' e1' x10' x11 h=>a0=a0'∧n0=n0'∧c0=c0'∧e0=e0'∧a1=a1'∧n1=n1'∧c1=c1'∧e1=e1'∧x10=x10'∧K x11 h
 refine Zet.inv2 (fun g=>E2 (P (J g))) (fun g=>E2 (P fun x11 h=>∃ g',m g' < m g∧J g' x11 h)) m ?_ ?_ g ⟨rfl,rfl,rfl,rfl,rfl,rfl,rfl,rfl,rfl,hj⟩
 ·intro g env h hi
  obtain ⟨a0',n0',c0',e0',a1',n1',c1',e1',x10',x11,rfl,rfl,rfl,rfl,rfl,rfl,rfl,rfl,rfl,rfl,hj⟩:=Zek hi
  exact Zld Q _ a0 n0 c0 e0 a1 n1 c1 e1 x10 x11 h (hr g x11 h hj (P fun x11 h=>∃ g',m g' < m g∧J g' x11 h) fun g' x11 h hlt hj=>⟨rfl,rfl,rfl,rfl,rfl,rfl,rfl,rfl,rfl,g',hlt,hj⟩)
 ·intro g env h hi
  obtain ⟨a0',n0',c0',e0',a1',n1',c1',e1',x10',x11,rfl,rfl,rfl,rfl,rfl,rfl,rfl,rfl,rfl,rfl,g',hlt,hj⟩:=Zek hi
  exact ⟨g',hlt,rfl,rfl,rfl,rfl,rfl,rfl,rfl,rfl,rfl,hj⟩
theorem A2x0i (Q:QT) (a0:Pt) (n0 c0:Nat) (e0:Bool) (a1:Pt) (n1 c1:Nat) (e1:Bool) (h:Zaa) (ht :
 Q (.bool ((((n0:Nat):Int):Int) == (((n1:Nat):Int)))) h):Zom Q a0 n0 c0 e0 a1 n1 c1 e1 h:=
 At.mk (cast (by kernel_rfl) ht)
theorem call (a0:Pt) (n0 c0:Nat) (e0:Bool) (a1:Pt) (n1 c1:Nat) (e1:Bool) (h:Zaa) (Q:QT) (ht :
 L2 Q a0 n0 c0 e0 a1 n1 c1 e1 (if (((n1:Nat):Int):Int) < (((n0:Nat):Int)) then ((n1:Nat):Int) else ((n0:Nat):Int)) 0 h):Zah pg Zqi [.slice a0 n0 c0 e0,.slice a1 n1 c1 e1] h Q:=
 Zah.of_body kp (c:=cod fn) (fn:=fn) Go.Proofs.Tryz.func25 (by kernel_rfl) (by kernel_rfl) (Nat.le_of_ble_eq_true (by kernel_rfl))
  (cast (by kernel_rfl) ht)
end Zky
end Go.Sim
