/- A part of the proof of a statement of this seat: see the text that holds the theorem. No condition. -/
import Derived.Test.YtdglddliggejdaaNm
set_option linter.unusedVariables false
set_option linter.unusedSimpArgs false
set_option linter.all false
set_option maxRecDepth 100000
set_option maxHeartbeats 0
set_option linter.unusedVariables false
namespace Go.Sim
open Go Go.RowKit
namespace Zdk
noncomputable abbrev fn:Func:=Go.Proofs.Try.f4
def kp:Zce:=[(4000010,[6,1,7,4,8,5]),(2000010,[45,6,7,4,8,5,1]),(4000016,[7,1,4,5]),(4000027,[7,10])]
noncomputable def C (p:List Nat):Code:=(cod fn).sub p
def KR (Q:QT):KT:=Zet pg fn.results.toList Q
def J10 (Q:QT) (i6 o6 i1 o1:Nat) (a7:Pt) (n7 c7:Nat) (e7:Bool) (a4:Pt) (n4 c4:Nat) (e4 x8 x5:Bool) (h:Zaa):Prop:=Den pg fn.ntmps (C [1,1,1,1,1,1,1,1]) [(6,.ptr (i6,o6)),(1,.ptr (i1,o1)),(7,.slice a7 n7 c7 e7),(4,.slice a4 n4 c4 e4),(8,.bool x8),(5,.bool x5)] h (KR Q)
def J16 (Q:QT) (a7:Pt) (n7 c7:Nat) (e7:Bool) (i1 o1:Nat) (a4:Pt) (n4 c4:Nat) (e4 x5:Bool) (h:Zaa):Prop:=Den pg fn.ntmps (C [1,1,1,1,1,1,1,1,1,1,1,1]) [(7,.slice a7 n7 c7 e7),(1,.ptr (i1,o1)),(4,.slice a4 n4 c4 e4),(5,.bool x5)] h (KR Q)
def J27 (Q:QT) (a7:Pt) (n7 c7:Nat) (e7:Bool) (x10:Int) (h:Zaa):Prop:=Den pg fn.ntmps (C [1,1,1,1,1,1,1,1,1,1,1,1,1,1,1,1,1,1,1,1]) [(7,.slice a7 n7 c7 e7),(10,.int .i64 x10)] h (KR Q)
theorem J10i (Q:QT) (i6 o6 i1 o1:Nat) (a7:Pt) (n7 c7:Nat) (e7:Bool) (a4:Pt) (n4 c4:Nat) (e4 x8 x5:Bool) (h:Zaa) (ht :
 Zcy (Zbo h (.ptr (i6,o6)) 2) fun A=>Zam A fun A B=>xSl A fun A C D E=>Zam B fun B F=>xSl B fun B G H I=>Zcq F (Zcy (Zbo h (.ptr (i1,o1)) 2) fun F=>Zam F fun F J=>xSl F fun F K L M=>Zam J fun J N=>xSl J fun J O P R=>Zcq N ((Zbo h (.ptr (i6,o6)) 2=Zbo h (.ptr (i6,o6)) 2)∧Zad pg Zft [.agg [.slice F K L M,.slice J O P R]] h fun F J=>
 Zqp F fun F=>Zam F fun F K=>xSl F fun F L M N=>Zam K fun K O=>xSl K fun K P R S=>Zcq O ((Zbo J (.ptr (i6,o6)) 2=Zbo h (.ptr (i6,o6)) 2)∧Zad pg Zll [.agg [.slice A C D E,.slice B G H I],.agg [.slice F L M N,.slice K P R S]] J fun A B=>
 Zbw A fun A=>bcase (!A) (Q (.bool false) B) (Zcy (Zbo B (.ptr (i6,o6)) 2) fun A=>Zam A fun A C=>xSl A fun A D E F=>Zam C fun C G=>xSl C fun C H I J=>Zcq G (Zad pg Zjh [.agg [.slice A D E F,.slice C H I J],.int .i64 1] B fun A B=>
 Zco .i64 A fun A=>bcase (decide ((A:Int) < 0)) (Q (.bool false) B) (Zad pg Zgz [.slice a7 n7 c7 e7,.slice a4 n4 c4 e4] B fun A B=>
 Zbw A fun A=>bcase (!A) (Q (.bool false) B) (bcase (!(x8 == x5)) (Q (.bool false) B) (J16 Q a7 n7 c7 e7 i1 o1 a4 n4 c4 e4 x5 B))))))))):J10 Q i6 o6 i1 o1 a7 n7 c7 e7 a4 n4 c4 e4 x8 x5 h:=
 Zax (kp:=kp) (cast (by kernel_rfl) ht)
theorem J16i (Q:QT) (a7:Pt) (n7 c7:Nat) (e7:Bool) (i1 o1:Nat) (a4:Pt) (n4 c4:Nat) (e4 x5:Bool) (h:Zaa) (ht :
 Zad pg Zjk [.slice a7 n7 c7 e7,.int .i64 1] h fun A B=>
 Zco .i64 A fun A=>Zad pg Zhk [.slice a7 n7 c7 e7,.int .i64 1] B fun B C=>
 Zco .i64 B fun B=>bcase (decide ((B:Int) < 0)) (Q (.bool false) C) (bcase (!((B:Int) == A)) (Q (.bool false) C) (Zcy (Zbo C (.ptr (i1,o1)) 2) fun B=>Zam B fun B D=>xSl B fun B E F G=>Zam D fun D H=>xSl D fun D I J K=>Zcq H (Zad pg Zft [.agg [.slice B E F G,.slice D I J K]] C fun B C=>
 Zqp B fun B=>Zam B fun B D=>xSl B fun B E F G=>Zam D fun D H=>xSl D fun D I J K=>Zcq H (Zad pg Zgm [.agg [.slice B E F G,.slice D I J K]] C fun B C=>
 Zzi B fun B=>Zam B fun B D=>xSl B fun B E F G=>Zam D fun D H=>Zbw D fun D=>Zcq H (Zad pg Zgz [.slice B E F G,.slice a4 n4 c4 e4] C fun B C=>
 Zbw B fun B=>bcase (!B) (Q (.bool false) C) (bcase (!(D == x5)) (Q (.bool false) C) (J27 Q a7 n7 c7 e7 A C)))))))):J16 Q a7 n7 c7 e7 i1 o1 a4 n4 c4 e4 x5 h:=
 Zax (kp:=kp) (cast (by kernel_rfl) ht)
theorem J27i (Q:QT) (a7:Pt) (n7 c7:Nat) (e7:Bool) (x10:Int) (h:Zaa) (ht :
 Zad pg Zhk [.slice a7 n7 c7 e7,.int .i64 1] h fun A B=>
 Zco .i64 A fun A=>bcase (decide ((A:Int) < 0)) (Q (.bool false) B) (bcase (!((A:Int) == x10)) (Q (.bool false) B) (Q (.bool true) B))):J27 Q a7 n7 c7 e7 x10 h:=
 Zax (kp:=kp) (cast (by kernel_rfl) ht)
theorem call (a0x0:Pt) (n0x0 c0x0:Nat) (e0x0:Bool) (a0x1:Pt) (n0x1 c0x1:Nat) (e0x1:Bool) (h:Zaa) (Q:QT) (ht :
 Zdn (h ++ [.cells Zec [.slice a0x0 n0x0 c0x0 e0x0,.slice a0x1 n0x1 c0x1 e0x1] false]) fun A=>Zcy (Zbo A (.ptr (h.length,0)) 2) fun B=>Zam B fun B C=>xSl B fun B D E F=>Zam C fun C G=>xSl C fun C H I J=>Zcq G (Zad pg Zla [.agg [.slice B D E F,.slice C H I J],.int .i64 1048576] A fun A B=>
 Zco .i64 A fun A=>bcase (decide ((A:Int) < 0)) (Q (.bool true) B) (Zcy (Zbo B (.ptr (h.length,0)) 2) fun A=>Zam A fun A C=>xSl A fun A D E F=>Zam C fun C G=>xSl C fun C H I J=>Zcq G (Zad pg Zft [.agg [.slice A D E F,.slice C H I J]] B fun A B=>
 Zqp A fun A=>Zam A fun A C=>xSl A fun A D E F=>Zam C fun C G=>xSl C fun C H I J=>Zcq G (Zad pg Zit [.agg [.slice A D E F,.slice C H I J]] B fun A B=>
 Zzi A fun A=>Zam A fun A C=>xSl A fun A D E F=>Zam C fun C G=>Zbw C fun C=>Zcq G (Zcy (Zbo B (.ptr (h.length,0)) 2) fun G=>Zam G fun G H=>xSl G fun G I J K=>Zam H fun H L=>xSl H fun H M N O=>Zcq L (Zad pg Zft [.agg [.slice G I J K,.slice H M N O]] B fun B G=>
 Zqp B fun B=>Zam B fun B H=>xSl B fun B I J K=>Zam H fun H L=>xSl H fun H M N O=>Zcq L (Zdn (G ++ [.cells Zao [.slice none 0 0 true,.slice none 0 0 true] false]) fun L=>Zcf (Zbd L (.ptr (G.length,0)) [.slice B I J K,.slice H M N O]) fun B=>Zcy (Zbo B (.ptr (G.length,0)) 2) fun H=>Zam H fun H I=>xSl H fun H J K L=>Zam I fun I M=>xSl I fun I N O P=>Zcq M (Zad pg Zgm [.agg [.slice H J K L,.slice I N O P]] B fun B H=>
 Zzi B fun B=>Zam B fun B I=>xSl B fun B J K L=>Zam I fun I M=>Zbw I fun I=>Zcq M (Zad pg Zgz [.slice B J K L,.slice A D E F] H fun H M=>
 Zbw H fun H=>bcase (!H) (Q (.bool false) M) (bcase (!(I == C)) (Q (.bool false) M) (J10 Q G.length 0 h.length 0 B J K L A D E F I C M)))))))))))):Zad pg Zhr [.agg [.slice a0x0 n0x0 c0x0 e0x0,.slice a0x1 n0x1 c0x1 e0x1]] h Q:=
 Zad.of_body kp (c:=cod fn) (fn:=fn) Go.Proofs.Try.func4 (by kernel_rfl) (by kernel_rfl) (Nat.le_of_ble_eq_true (by kernel_rfl))
  (cast (by kernel_rfl) ht)
end Zdk
end Go.Sim

set_option maxRecDepth 100000
set_option maxHeartbeats 0
set_option linter.unusedVariables false
namespace Go.Sim
open Go Go.RowKit
namespace Zhc
noncomputable abbrev fn:Func:=Go.Proofs.Try.f16
def kp:Zce:=[(3000004,[4]),(1000004,[0,1,5]),(2000006,[26,5,0,1])]
noncomputable def C (p:List Nat):Code:=(cod fn).sub p
def KR (Q:QT):KT:=Zet pg fn.results.toList Q
abbrev T4:=Pt→Nat→Nat→Bool→Pt→Nat→Nat→Bool→Int→Zaa→Prop
def E4 (R4:T4) (env:Env) (h:Zaa):Prop:=Zbx 0 env fun v env=>xSl v fun a0 n0 c0 e0=>Zbx 1 env fun v env=>xSl v fun a1 n1 c1 e1=>Zbx 5 env fun v env=>Zdz .i64 v fun x5=>Ziy env (R4 a0 n0 c0 e0 a1 n1 c1 e1 x5 h)
theorem Zfc {R4:T4} {env:Env} {h:Zaa} (hi:E4 R4 env h):∃ a0,∃ n0,∃ c0,∃ e0,∃ a1,∃ n1,∃ c1,∃ e1,∃ x5,env=[(0,.slice a0 n0 c0 e0),(1,.slice a1 n1 c1 e1),(5,.int .i64 x5)]∧R4 a0 n0 c0 e0 a1 n1 c1 e1 x5 h:=by
 unfold E4 at hi
 repeat ((first | (have k:=Zae hi; clear hi; obtain ⟨_,_,e,hi⟩:=k) | (have k:=Zbt hi; clear hi; obtain ⟨_,_,_,_,e,hi⟩:=k) | (have k:=Zat hi; clear hi; obtain ⟨_,e,hi⟩:=k)); subst e)
 obtain ⟨rfl,hi⟩:=Zbj hi
 exact ⟨_,_,_,_,_,_,_,_,_,rfl,hi⟩
def K0 (Q:QT):KT:=andThen (fun env' h'=>(match kp.find 4000008 with | some ks=>Den pg fn.ntmps (C [1,1,1]) (env'.keep ks) h' (KR Q) | none=>den pg fn.ntmps kp (C [1,1,1]) env' h' (KR Q))) (KR Q)
def K1 (Q:QT):KT:=Zcg 0 (K0 Q)
def K2 (Q:QT):KT:=left kp 4 (K1 Q)
def K3 (Q:QT) (R4:T4):KT:=rnd ((kp.find 1000004).getD []) (E4 R4) (K2 Q)
def L4 (Q:QT) (a0:Pt) (n0 c0:Nat) (e0:Bool) (a1:Pt) (n1 c1:Nat) (e1:Bool) (x5:Int) (h:Zaa):Prop:=Zdt (Den pg fn.ntmps (C [1,1,0,1,0,0])) ((kp.find 1000004).getD []) (K2 Q) [(0,.slice a0 n0 c0 e0),(1,.slice a1 n1 c1 e1),(5,.int .i64 x5)] h
def Zrs (Q:QT) (h:Zaa):Prop:=At (K1 Q) (.exit 0) [(4,.undef)] h
def L4t (Q:QT) (R4:T4) (a0:Pt) (n0 c0:Nat) (e0:Bool) (a1:Pt) (n1 c1:Nat) (e1:Bool) (x5:Int) (h:Zaa):Prop:=
 bcase (decide ((x5:Int) < (((n0:Nat):Int)))) ((0≤(x5:Int)∧(x5:Int) < (n0:Nat))∧(Zbf a0 fun A B=>(0≤(x5:Int)∧(x5:Int) < (n1:Nat))∧(Zbf a1 fun C D=>xSl (Zaf h (.ptr (A,B + (Int.toNat x5) * 1))) fun E F G H=>xSl (Zaf h (.ptr (C,D + (Int.toNat x5) * 1))) fun C D I J=>(Zaf h (.ptr (A,B + (Int.toNat x5) * 1))=Zaf h (.ptr (A,B + (Int.toNat x5) * 1)))∧Zad pg Zmy [.slice E F G H,.slice C D I J] h fun A B=>
 Zbw A fun A=>bcase (!A) (Q (.bool false) B) (R4 a0 n0 c0 e0 a1 n1 c1 e1 (IntKind.wrap .i64 (x5 + 1)) B)))) (Zrs Q h)
theorem Zny (Q:QT) (R4:T4) (a0:Pt) (n0 c0:Nat) (e0:Bool) (a1:Pt) (n1 c1:Nat) (e1:Bool) (x5:Int) (h:Zaa) (ht:L4t Q R4 a0 n0 c0 e0 a1 n1 c1 e1 x5 h):Den pg fn.ntmps (C [1,1,0,1,0,0]) [(0,.slice a0 n0 c0 e0),(1,.slice a1 n1 c1 e1),(5,.int .i64 x5)] h (K3 Q R4):=
 Zax (kp:=kp) (cast (by kernel_rfl) ht)
theorem L4ind (Q:QT) (a0:Pt) (n0 c0:Nat) (e0:Bool) (a1:Pt) (n1 c1:Nat) (e1:Bool) {G:Type} (J:G→Int→Zaa→Prop) (m:G→Nat)
 (hr:∀ (g:G) (x5:Int) (h:Zaa),J g x5 h→∀ (R4:T4),(∀ g' (x5:Int) (h:Zaa),m g' < m g→J g' x5 h→R4 a0 n0 c0 e0 a1 n1 c1 e1 x5 h)→L4t Q R4 a0 n0 c0 e0 a1 n1 c1 e1 x5 h)
 (g:G) (x5:Int) (h:Zaa) (hj:J g x5 h):L4 Q a0 n0 c0 e0 a1 n1 c1 e1 x5 h:=by
 let P:=fun (K:Int→Zaa→Prop) a0' n0' c0' e0' a1' n1' c1' e1' x5 h=>a0=a0'∧n0=n0'∧c0=c0'∧e0=e0'∧a1=a1'∧n1=n1'∧c1=c1'∧e1=e1'∧K x5 h
 refine Zdt.inv2 (fun g=>E4 (P (J g))) (fun g=>E4 (P fun x5 h=>∃ g',m g' < m g∧J g' x5 h)) m ?_ ?_ g ⟨rfl,rfl,rfl,rfl,rfl,rfl,rfl,rfl,hj⟩
 ·intro g env h hi
  obtain ⟨a0',n0',c0',e0',a1',n1',c1',e1',x5,rfl,rfl,rfl,rfl,rfl,rfl,rfl,rfl,rfl,hj⟩:=Zfc hi
  exact Zny Q _ a0 n0 c0 e0 a1 n1 c1 e1 x5 h (hr g x5 h hj (P fun x5 h=>∃ g',m g' < m g∧J g' x5 h) fun g' x5 h hlt hj=>⟨rfl,rfl,rfl,rfl,rfl,rfl,rfl,rfl,g',hlt,hj⟩)
 ·intro g env h hi
  obtain ⟨a0',n0',c0',e0',a1',n1',c1',e1',x5,rfl,rfl,rfl,rfl,rfl,rfl,rfl,rfl,rfl,g',hlt,hj⟩:=Zfc hi
  exact ⟨g',hlt,rfl,rfl,rfl,rfl,rfl,rfl,rfl,rfl,hj⟩
theorem A4x0i (Q:QT) (h:Zaa) (ht :
 Q (.bool true) h):Zrs Q h:=
 At.mk (cast (by kernel_rfl) ht)
theorem call (a0:Pt) (n0 c0:Nat) (e0:Bool) (a1:Pt) (n1 c1:Nat) (e1:Bool) (h:Zaa) (Q:QT) (ht :
 bcase (!((((n0:Nat):Int):Int) == (((n1:Nat):Int)))) (Q (.bool false) h) (L4 Q a0 n0 c0 e0 a1 n1 c1 e1 0 h)):Zad pg Zgz [.slice a0 n0 c0 e0,.slice a1 n1 c1 e1] h Q:=
 Zad.of_body kp (c:=cod fn) (fn:=fn) Go.Proofs.Try.func16 (by kernel_rfl) (by kernel_rfl) (Nat.le_of_ble_eq_true (by kernel_rfl))
  (cast (by kernel_rfl) ht)
end Zhc
namespace Zfm
noncomputable abbrev fn:Func:=Go.Proofs.Try.f18
def kp:Zce:=[(3000002,[1]),(1000002,[0,1,5])]
noncomputable def C (p:List Nat):Code:=(cod fn).sub p
def KR (Q:QT):KT:=Zet pg fn.results.toList Q
abbrev T2:=Pt→Nat→Nat→Bool→Int→Int→Zaa→Prop
def E2 (R2:T2) (env:Env) (h:Zaa):Prop:=Zbx 0 env fun v env=>xSl v fun a0 n0 c0 e0=>Zbx 1 env fun v env=>Zdz .i64 v fun x1=>Zbx 5 env fun v env=>Zdz .i64 v fun x5=>Ziy env (R2 a0 n0 c0 e0 x1 x5 h)
theorem Zda {R2:T2} {env:Env} {h:Zaa} (hi:E2 R2 env h):∃ a0,∃ n0,∃ c0,∃ e0,∃ x1,∃ x5,env=[(0,.slice a0 n0 c0 e0),(1,.int .i64 x1),(5,.int .i64 x5)]∧R2 a0 n0 c0 e0 x1 x5 h:=by
 unfold E2 at hi
 repeat ((first | (have k:=Zae hi; clear hi; obtain ⟨_,_,e,hi⟩:=k) | (have k:=Zbt hi; clear hi; obtain ⟨_,_,_,_,e,hi⟩:=k) | (have k:=Zat hi; clear hi; obtain ⟨_,e,hi⟩:=k)); subst e)
 obtain ⟨rfl,hi⟩:=Zbj hi
 exact ⟨_,_,_,_,_,_,rfl,hi⟩
def K0 (Q:QT):KT:=andThen (fun env' h'=>(match kp.find 4000005 with | some ks=>Den pg fn.ntmps (C [1,1]) (env'.keep ks) h' (KR Q) | none=>den pg fn.ntmps kp (C [1,1]) env' h' (KR Q))) (KR Q)
def K1 (Q:QT):KT:=Zcg 0 (K0 Q)
def K2 (Q:QT):KT:=left kp 2 (K1 Q)
def K3 (Q:QT) (R2:T2):KT:=rnd ((kp.find 1000002).getD []) (E2 R2) (K2 Q)
def L2 (Q:QT) (a0:Pt) (n0 c0:Nat) (e0:Bool) (x1 x5:Int) (h:Zaa):Prop:=Zdt (Den pg fn.ntmps (C [1,0,1,0,0])) ((kp.find 1000002).getD []) (K2 Q) [(0,.slice a0 n0 c0 e0),(1,.int .i64 x1),(5,.int .i64 x5)] h
def A2x0 (Q:QT) (x1:Int) (h:Zaa):Prop:=At (K1 Q) (.exit 0) [(1,.int .i64 x1)] h
def L2t (Q:QT) (R2:T2) (a0:Pt) (n0 c0:Nat) (e0:Bool) (x1 x5:Int) (h:Zaa):Prop:=
 bcase (decide ((x5:Int) < (((n0:Nat):Int)))) ((0≤(x5:Int)∧(x5:Int) < (n0:Nat))∧(Zbf a0 fun A B=>xSl (Zaf h (.ptr (A,B + (Int.toNat x5) * 1))) fun A B C D=>Zad pg Zkk [.slice A B C D,.int .i64 x1] h fun A B=>
 Zco .i64 A fun A=>R2 a0 n0 c0 e0 A (IntKind.wrap .i64 (x5 + 1)) B)) (A2x0 Q x1 h)
theorem Zhm (Q:QT) (R2:T2) (a0:Pt) (n0 c0:Nat) (e0:Bool) (x1 x5:Int) (h:Zaa) (ht:L2t Q R2 a0 n0 c0 e0 x1 x5 h):Den pg fn.ntmps (C [1,0,1,0,0]) [(0,.slice a0 n0 c0 e0),(1,.int .i64 x1),(5,.int .i64 x5)] h (K3 Q R2):=
 Zax (kp:=kp) (cast (by kernel_rfl) ht)
theorem L2ind (Q:QT) (a0:Pt) (n0 c0:Nat) (e0:Bool) {G:Type} (J:G→Int→Int→Zaa→Prop) (m:G→Nat)
 (hr:∀ (g:G) (x1 x5:Int) (h:Zaa),J g x1 x5 h→∀ (R2:T2),(∀ g' (x1 x5:Int) (h:Zaa),m g' < m g→J g' x1 x5 h→R2 a0 n0 c0 e0 x1 x5 h)→L2t Q R2 a0 n0 c0 e0 x1 x5 h)
 (g:G) (x1 x5:Int) (h:Zaa) (hj:J g x1 x5 h):L2 Q a0 n0 c0 e0 x1 x5 h:=by
 let P:=fun (K:Int→Int→Zaa→Prop) a0' n0' c0' e0' x1 x5 h=>a0=a0'∧n0=n0'∧c0=c0'∧e0=e0'∧K x1 x5 h
 refine Zdt.inv2 (fun g=>E2 (P (J g))) (fun g=>E2 (P fun x1 x5 h=>∃ g',m g' < m g∧J g' x1 x5 h)) m ?_ ?_ g ⟨rfl,rfl,rfl,rfl,hj⟩
 ·intro g env h hi
  obtain ⟨a0',n0',c0',e0',x1,x5,rfl,rfl,rfl,rfl,rfl,hj⟩:=Zda hi
  exact Zhm Q _ a0 n0 c0 e0 x1 x5 h (hr g x1 x5 h hj (P fun x1 x5 h=>∃ g',m g' < m g∧J g' x1 x5 h) fun g' x1 x5 h hlt hj=>⟨rfl,rfl,rfl,rfl,g',hlt,hj⟩)
 ·intro g env h hi
  obtain ⟨a0',n0',c0',e0',x1,x5,rfl,rfl,rfl,rfl,rfl,g',hlt,hj⟩:=Zda hi
  exact ⟨g',hlt,rfl,rfl,rfl,rfl,hj⟩
theorem A2x0i (Q:QT) (x1:Int) (h:Zaa) (ht :
 Q (.int .i64 x1) h):A2x0 Q x1 h:=
 At.mk (cast (by kernel_rfl) ht)
theorem call (a0:Pt) (n0 c0:Nat) (e0:Bool) (x1:Int) (h:Zaa) (Q:QT) (ht :
 L2 Q a0 n0 c0 e0 x1 0 h):Zad pg Zjk [.slice a0 n0 c0 e0,.int .i64 x1] h Q:=
 Zad.of_body kp (c:=cod fn) (fn:=fn) Go.Proofs.Try.func18 (by kernel_rfl) (by kernel_rfl) (Nat.le_of_ble_eq_true (by kernel_rfl))
  (cast (by kernel_rfl) ht)
end Zfm
namespace Zfo
noncomputable abbrev fn:Func:=Go.Proofs.Try.f19
def kp:Zce:=[(3000002,[1,4]),(1000002,[0,1,5])]
noncomputable def C (p:List Nat):Code:=(cod fn).sub p
def KR (Q:QT):KT:=Zet pg fn.results.toList Q
abbrev T2:=Pt→Nat→Nat→Bool→Int→Int→Zaa→Prop
def E2 (R2:T2) (env:Env) (h:Zaa):Prop:=Zbx 0 env fun v env=>xSl v fun a0 n0 c0 e0=>Zbx 1 env fun v env=>Zdz .i64 v fun x1=>Zbx 5 env fun v env=>Zdz .i64 v fun x5=>Ziy env (R2 a0 n0 c0 e0 x1 x5 h)
theorem Zda {R2:T2} {env:Env} {h:Zaa} (hi:E2 R2 env h):∃ a0,∃ n0,∃ c0,∃ e0,∃ x1,∃ x5,env=[(0,.slice a0 n0 c0 e0),(1,.int .i64 x1),(5,.int .i64 x5)]∧R2 a0 n0 c0 e0 x1 x5 h:=by
 unfold E2 at hi
 repeat ((first | (have k:=Zae hi; clear hi; obtain ⟨_,_,e,hi⟩:=k) | (have k:=Zbt hi; clear hi; obtain ⟨_,_,_,_,e,hi⟩:=k) | (have k:=Zat hi; clear hi; obtain ⟨_,e,hi⟩:=k)); subst e)
 obtain ⟨rfl,hi⟩:=Zbj hi
 exact ⟨_,_,_,_,_,_,rfl,hi⟩
def K0 (Q:QT):KT:=andThen (fun env' h'=>(match kp.find 4000007 with | some ks=>Den pg fn.ntmps (C [1,1]) (env'.keep ks) h' (KR Q) | none=>den pg fn.ntmps kp (C [1,1]) env' h' (KR Q))) (KR Q)
def K1 (Q:QT):KT:=Zcg 0 (K0 Q)
def K2 (Q:QT):KT:=left kp 2 (K1 Q)
def K3 (Q:QT) (R2:T2):KT:=rnd ((kp.find 1000002).getD []) (E2 R2) (K2 Q)
def L2 (Q:QT) (a0:Pt) (n0 c0:Nat) (e0:Bool) (x1 x5:Int) (h:Zaa):Prop:=Zdt (Den pg fn.ntmps (C [1,0,1,0,0])) ((kp.find 1000002).getD []) (K2 Q) [(0,.slice a0 n0 c0 e0),(1,.int .i64 x1),(5,.int .i64 x5)] h
def A2x0 (Q:QT) (x1:Int) (h:Zaa):Prop:=At (K1 Q) (.exit 0) [(1,.int .i64 x1),(4,.undef)] h
def L2t (Q:QT) (R2:T2) (a0:Pt) (n0 c0:Nat) (e0:Bool) (x1 x5:Int) (h:Zaa):Prop:=
 bcase (decide ((x5:Int) < (((n0:Nat):Int)))) ((0≤(x5:Int)∧(x5:Int) < (n0:Nat))∧(Zbf a0 fun A B=>xSl (Zaf h (.ptr (A,B + (Int.toNat x5) * 1))) fun A B C D=>Zad pg Zke [.slice A B C D,.int .i64 x1] h fun A B=>
 Zco .i64 A fun A=>bcase (decide ((A:Int) < 0)) (Q (.int .i64 (-1)) B) (R2 a0 n0 c0 e0 A (IntKind.wrap .i64 (x5 + 1)) B))) (A2x0 Q x1 h)
theorem Zhm (Q:QT) (R2:T2) (a0:Pt) (n0 c0:Nat) (e0:Bool) (x1 x5:Int) (h:Zaa) (ht:L2t Q R2 a0 n0 c0 e0 x1 x5 h):Den pg fn.ntmps (C [1,0,1,0,0]) [(0,.slice a0 n0 c0 e0),(1,.int .i64 x1),(5,.int .i64 x5)] h (K3 Q R2):=
 Zax (kp:=kp) (cast (by kernel_rfl) ht)
theorem L2ind (Q:QT) (a0:Pt) (n0 c0:Nat) (e0:Bool) {G:Type} (J:G→Int→Int→Zaa→Prop) (m:G→Nat)
 (hr:∀ (g:G) (x1 x5:Int) (h:Zaa),J g x1 x5 h→∀ (R2:T2),(∀ g' (x1 x5:Int) (h:Zaa),m g' < m g→J g' x1 x5 h→R2 a0 n0 c0 e0 x1 x5 h)→L2t Q R2 a0 n0 c0 e0 x1 x5 h)
 (g:G) (x1 x5:Int) (h:Zaa) (hj:J g x1 x5 h):L2 Q a0 n0 c0 e0 x1 x5 h:=by
 let P:=fun (K:Int→Int→Zaa→Prop) a0' n0' c0' e0' x1 x5 h=>a0=a0'∧n0=n0'∧c0=c0'∧e0=e0'∧K x1 x5 h
 refine Zdt.inv2 (fun g=>E2 (P (J g))) (fun g=>E2 (P fun x1 x5 h=>∃ g',m g' < m g∧J g' x1 x5 h)) m ?_ ?_ g ⟨rfl,rfl,rfl,rfl,hj⟩
 ·intro g env h hi
  obtain ⟨a0',n0',c0',e0',x1,x5,rfl,rfl,rfl,rfl,rfl,hj⟩:=Zda hi
  exact Zhm Q _ a0 n0 c0 e0 x1 x5 h (hr g x1 x5 h hj (P fun x1 x5 h=>∃ g',m g' < m g∧J g' x1 x5 h) fun g' x1 x5 h hlt hj=>⟨rfl,rfl,rfl,rfl,g',hlt,hj⟩)
 ·intro g env h hi
  obtain ⟨a0',n0',c0',e0',x1,x5,rfl,rfl,rfl,rfl,rfl,g',hlt,hj⟩:=Zda hi
  exact ⟨g',hlt,rfl,rfl,rfl,rfl,hj⟩
theorem A2x0i (Q:QT) (x1:Int) (h:Zaa) (ht :
 Q (.int .i64 x1) h):A2x0 Q x1 h:=
 At.mk (cast (by kernel_rfl) ht)
theorem call (a0:Pt) (n0 c0:Nat) (e0:Bool) (x1:Int) (h:Zaa) (Q:QT) (ht :
 L2 Q a0 n0 c0 e0 x1 0 h):Zad pg Zhk [.slice a0 n0 c0 e0,.int .i64 x1] h Q:=
 Zad.of_body kp (c:=cod fn) (fn:=fn) Go.Proofs.Try.func19 (by kernel_rfl) (by kernel_rfl) (Nat.le_of_ble_eq_true (by kernel_rfl))
  (cast (by kernel_rfl) ht)
end Zfo
namespace Zdl
noncomputable abbrev fn:Func:=Go.Proofs.Try.f45
def kp:Zce:=[(3000003,[3]),(1000003,[3,7,8,9])]
noncomputable def C (p:List Nat):Code:=(cod fn).sub p
def KR (Q:QT):KT:=Zet pg fn.results.toList Q
abbrev T3:=Pt→Nat→Nat→Bool→Pt→Nat→Nat→Bool→Int→Int→Zaa→Prop
def E3 (R3:T3) (env:Env) (h:Zaa):Prop:=Zbx 3 env fun v env=>xSl v fun a3 n3 c3 e3=>Zbx 7 env fun v env=>xSl v fun a7 n7 c7 e7=>Zbx 8 env fun v env=>Zdz .i64 v fun x8=>Zbx 9 env fun v env=>Zdz .i64 v fun x9=>Ziy env (R3 a3 n3 c3 e3 a7 n7 c7 e7 x8 x9 h)
theorem Zhp {R3:T3} {env:Env} {h:Zaa} (hi:E3 R3 env h):∃ a3,∃ n3,∃ c3,∃ e3,∃ a7,∃ n7,∃ c7,∃ e7,∃ x8,∃ x9,env=[(3,.slice a3 n3 c3 e3),(7,.slice a7 n7 c7 e7),(8,.int .i64 x8),(9,.int .i64 x9)]∧R3 a3 n3 c3 e3 a7 n7 c7 e7 x8 x9 h:=by
 unfold E3 at hi
 repeat ((first | (have k:=Zae hi; clear hi; obtain ⟨_,_,e,hi⟩:=k) | (have k:=Zbt hi; clear hi; obtain ⟨_,_,_,_,e,hi⟩:=k) | (have k:=Zat hi; clear hi; obtain ⟨_,e,hi⟩:=k)); subst e)
 obtain ⟨rfl,hi⟩:=Zbj hi
 exact ⟨_,_,_,_,_,_,_,_,_,_,rfl,hi⟩
def K0 (Q:QT):KT:=andThen (fun env' h'=>(match kp.find 4000007 with | some ks=>Den pg fn.ntmps (C [1,1,1]) (env'.keep ks) h' (KR Q) | none=>den pg fn.ntmps kp (C [1,1,1]) env' h' (KR Q))) (KR Q)
def K1 (Q:QT):KT:=Zcg 0 (K0 Q)
def K2 (Q:QT):KT:=left kp 3 (K1 Q)
def K3 (Q:QT) (R3:T3):KT:=rnd ((kp.find 1000003).getD []) (E3 R3) (K2 Q)
def L3 (Q:QT) (a3:Pt) (n3 c3:Nat) (e3:Bool) (a7:Pt) (n7 c7:Nat) (e7:Bool) (x8 x9:Int) (h:Zaa):Prop:=Zdt (Den pg fn.ntmps (C [1,1,0,1,0,0])) ((kp.find 1000003).getD []) (K2 Q) [(3,.slice a3 n3 c3 e3),(7,.slice a7 n7 c7 e7),(8,.int .i64 x8),(9,.int .i64 x9)] h
def Zux (Q:QT) (a3:Pt) (n3 c3:Nat) (e3:Bool) (h:Zaa):Prop:=At (K1 Q) (.exit 0) [(3,.slice a3 n3 c3 e3)] h
def L3t (Q:QT) (R3:T3) (a3:Pt) (n3 c3:Nat) (e3:Bool) (a7:Pt) (n7 c7:Nat) (e7:Bool) (x8 x9:Int) (h:Zaa):Prop:=
 bcase (decide ((x9:Int) < x8)) ((0≤(x9:Int)∧(x9:Int) < (n7:Nat))∧(Zbf a7 fun A B=>xSl (Zaf h (.ptr (A,B + (Int.toNat x9) * 1))) fun A B C D=>Zdn (h ++ [.cells Zjc [] false]) fun E=>Zdv pg Zel E (.slice (h.length,0) 0 0 true) (.slice A B C D) fun A B=>xSl A fun A C D E=>Zdn (B ++ [.cells Zel [.slice A C D E] false]) fun A=>Zdv pg Zkf A (.slice a3 n3 c3 e3) (.slice (B.length,0) 1 1 true) fun A B=>xSl A fun A C D E=>R3 A C D E a7 n7 c7 e7 x8 (IntKind.wrap .i64 (x9 + 1)) B)) (Zux Q a3 n3 c3 e3 h)
theorem Zqo (Q:QT) (R3:T3) (a3:Pt) (n3 c3:Nat) (e3:Bool) (a7:Pt) (n7 c7:Nat) (e7:Bool) (x8 x9:Int) (h:Zaa) (ht:L3t Q R3 a3 n3 c3 e3 a7 n7 c7 e7 x8 x9 h):Den pg fn.ntmps (C [1,1,0,1,0,0]) [(3,.slice a3 n3 c3 e3),(7,.slice a7 n7 c7 e7),(8,.int .i64 x8),(9,.int .i64 x9)] h (K3 Q R3):=
 Zax (kp:=kp) (cast (by kernel_rfl) ht)
theorem L3ind (Q:QT) (a7:Pt) (n7 c7:Nat) (e7:Bool) (x8:Int) {G:Type} (J:G→Pt→Nat→Nat→Bool→Int→Zaa→Prop) (m:G→Nat)
 (hr:∀ (g:G) (a3:Pt) (n3 c3:Nat) (e3:Bool) (x9:Int) (h:Zaa),J g a3 n3 c3 e3 x9 h→∀ (R3:T3),(∀ g' (a3:Pt) (n3 c3:Nat) (e3:Bool) (x9:Int) (h:Zaa),m g' < m g→J g' a3 n3 c3 e3 x9 h→R3 a3 n3 c3 e3 a7 n7 c7 e7 x8 x9 h)→L3t Q R3 a3 n3 c3 e3 a7 n7 c7 e7 x8 x9 h)
 (g:G) (a3:Pt) (n3 c3:Nat) (e3:Bool) (x9:Int) (h:Zaa) (hj:J g a3 n3 c3 e3 x9 h):L3 Q a3 n3 c3 e3 a7 n7 c7 e7 x8 x9 h:=by
 let P:=fun (K:Pt→Nat→Nat→Bool→Int→Zaa→Prop) a3 n3 c3 e3 a7' n7' c7' e7' x8' x9 h=>a7=a7'∧n7=n7'∧c7=c7'∧e7=e7'∧x8=x8'∧K a3 n3 c3 e3 x9 h
 refine Zdt.inv2 (fun g=>E3 (P (J g))) (fun g=>E3 (P fun a3 n3 c3 e3 x9 h=>∃ g',m g' < m g∧J g' a3 n3 c3 e3 x9 h)) m ?_ ?_ g ⟨rfl,rfl,rfl,rfl,rfl,hj⟩
 ·intro g env h hi
  obtain ⟨a3,n3,c3,e3,a7',n7',c7',e7',x8',x9,rfl,rfl,rfl,rfl,rfl,rfl,hj⟩:=Zhp hi
  exact Zqo Q _ a3 n3 c3 e3 a7 n7 c7 e7 x8 x9 h (hr g a3 n3 c3 e3 x9 h hj (P fun a3 n3 c3 e3 x9 h=>∃ g',m g' < m g∧J g' a3 n3 c3 e3 x9 h) fun g' a3 n3 c3 e3 x9 h hlt hj=>⟨rfl,rfl,rfl,rfl,rfl,g',hlt,hj⟩)
 ·intro g env h hi
  obtain ⟨a3,n3,c3,e3,a7',n7',c7',e7',x8',x9,rfl,rfl,rfl,rfl,rfl,rfl,g',hlt,hj⟩:=Zhp hi
  exact ⟨g',hlt,rfl,rfl,rfl,rfl,rfl,hj⟩
theorem A3x0i (Q:QT) (a3:Pt) (n3 c3:Nat) (e3:Bool) (h:Zaa) (ht :
 Q (.slice a3 n3 c3 e3) h):Zux Q a3 n3 c3 e3 h:=
 At.mk (cast (by kernel_rfl) ht)
theorem call (a0:Pt) (n0 c0:Nat) (e0:Bool) (h:Zaa) (Q:QT) (ht :
 Zdn (h ++ [.cells Zel [] false]) fun A=>L3 Q (h.length,0) 0 0 true a0 n0 c0 e0 (((n0:Nat):Int)) 0 A):Zad pg Zfa [.slice a0 n0 c0 e0] h Q:=
 Zad.of_body kp (c:=cod fn) (fn:=fn) Go.Proofs.Try.func45 (by kernel_rfl) (by kernel_rfl) (Nat.le_of_ble_eq_true (by kernel_rfl))
  (cast (by kernel_rfl) ht)
end Zdl
namespace Zlp
noncomputable abbrev fn:Func:=Go.Proofs.Try.f14
def kp:Zce:=[]
noncomputable def C (p:List Nat):Code:=(cod fn).sub p
def KR (Q:QT):KT:=Zet pg fn.results.toList Q
theorem call (a0x0:Pt) (n0x0 c0x0:Nat) (e0x0:Bool) (a0x1:Pt) (n0x1 c0x1:Nat) (e0x1:Bool) (h:Zaa) (Q:QT) (ht :
 Zdn (h ++ [.cells Zao [.slice a0x0 n0x0 c0x0 e0x0,.slice a0x1 n0x1 c0x1 e0x1] false]) fun A=>Zcy (Zbo A (.ptr (h.length,0)) 2) fun B=>Zam B fun B C=>xSl B fun B D E F=>Zam C fun C G=>xSl C fun C H I J=>Zcq G (Zad pg Zfu [.agg [.slice B D E F,.slice C H I J]] A fun A B=>
 Zzi A fun A=>Zam A fun A C=>xSl A fun A D E F=>Zam C fun C G=>Zbw C fun C=>Zcq G (Zad pg Zfa [.slice A D E F] B fun A B=>
 xSl A fun A D E F=>Q (.tup [.slice A D E F,.bool C]) B))):Zad pg Zit [.agg [.slice a0x0 n0x0 c0x0 e0x0,.slice a0x1 n0x1 c0x1 e0x1]] h Q:=
 Zad.of_body kp (c:=cod fn) (fn:=fn) Go.Proofs.Try.func14 (by kernel_rfl) (by kernel_rfl) (Nat.le_of_ble_eq_true (by kernel_rfl))
  (cast (by kernel_rfl) ht)
end Zlp
namespace Zih
noncomputable abbrev fn:Func:=Go.Proofs.Try.f44
def kp:Zce:=[]
noncomputable def C (p:List Nat):Code:=(cod fn).sub p
def KR (Q:QT):KT:=Zet pg fn.results.toList Q
theorem call (a0x0:Pt) (n0x0 c0x0:Nat) (e0x0:Bool) (a0x1:Pt) (n0x1 c0x1:Nat) (e0x1:Bool) (h:Zaa) (Q:QT) (ht :
 Zdn (h ++ [.cells Zao [.slice a0x0 n0x0 c0x0 e0x0,.slice a0x1 n0x1 c0x1 e0x1] false]) fun A=>Zcy (Zbo A (.ptr (h.length,0)) 2) fun B=>Zam B fun B C=>xSl B fun B D E F=>Zam C fun C G=>xSl C fun C H I J=>Zcq G (Zad pg Zii [.agg [.slice B D E F,.slice C H I J]] A fun A B=>
 Zbw A fun A=>bcase (!A) (Zdn (B ++ [.cells Zel [] false]) fun A=>Q (.tup [.slice (B.length,0) 0 0 true,.bool false]) A) (Zcy (Zbo B (.ptr (h.length,0)) 2) fun A=>Zam A fun A C=>xSl A fun A D E F=>Zam C fun C G=>xSl C fun C H I J=>Zcq G (Zad pg Zin [.agg [.slice A D E F,.slice C H I J]] B fun A B=>
 xSl A fun A C D E=>Q (.tup [.slice A C D E,.bool true]) B)))):Zad pg Zfu [.agg [.slice a0x0 n0x0 c0x0 e0x0,.slice a0x1 n0x1 c0x1 e0x1]] h Q:=
 Zad.of_body kp (c:=cod fn) (fn:=fn) Go.Proofs.Try.func44 (by kernel_rfl) (by kernel_rfl) (Nat.le_of_ble_eq_true (by kernel_rfl))
  (cast (by kernel_rfl) ht)
end Zih
end Go.Sim

set_option maxRecDepth 100000
set_option maxHeartbeats 0
set_option linter.unusedVariables false
namespace Go.Sim
open Go Go.RowKit
namespace Zbz
noncomputable abbrev fn:Func:=Go.Proofs.Try.f15
def kp:Zce:=[(3000005,[4]),(1000005,[1,4,15,16]),(3000008,[16,15,1,4]),(1000008,[1,4,5,6,15,16]),(2000010,[7,8,4,5,6,1,16,15]),(4000009,[6,1,5,4,16,15])]
noncomputable def C (p:List Nat):Code:=(cod fn).sub p
def KR (Q:QT):KT:=Zet pg fn.results.toList Q
abbrev T5:=Nat→Nat→Pt→Nat→Nat→Bool→Int→Int→Zaa→Prop
def E5 (R5:T5) (env:Env) (h:Zaa):Prop:=Zbx 1 env fun v env=>Zfw v fun a=>Zbf a fun i1 o1=>Zbx 4 env fun v env=>xSl v fun a4 n4 c4 e4=>Zbx 15 env fun v env=>Zdz .i64 v fun x15=>Zbx 16 env fun v env=>Zdz .i64 v fun x16=>Ziy env (R5 i1 o1 a4 n4 c4 e4 x15 x16 h)
theorem Zhq {R5:T5} {env:Env} {h:Zaa} (hi:E5 R5 env h):∃ i1,∃ o1,∃ a4,∃ n4,∃ c4,∃ e4,∃ x15,∃ x16,env=[(1,.ptr (i1,o1)),(4,.slice a4 n4 c4 e4),(15,.int .i64 x15),(16,.int .i64 x16)]∧R5 i1 o1 a4 n4 c4 e4 x15 x16 h:=by
 unfold E5 at hi
 have hi0:=hi
 clear hi
 obtain ⟨_,_,rfl,hi1⟩:=Zae hi0
 obtain ⟨a,rfl,hi2⟩:=Zbu hi1
 obtain ⟨i1,o1,rfl,hi3⟩:=Zbn hi2
 obtain ⟨_,_,rfl,hi4⟩:=Zae hi3
 obtain ⟨a4,n4,c4,e4,rfl,hi5⟩:=Zbt hi4
 obtain ⟨_,_,rfl,hi6⟩:=Zae hi5
 obtain ⟨x15,rfl,hi7⟩:=Zat hi6
 obtain ⟨_,_,rfl,hi8⟩:=Zae hi7
 obtain ⟨x16,rfl,hi9⟩:=Zat hi8
 obtain ⟨rfl,hi10⟩:=Zbj hi9
 have hi:=hi10
 exact ⟨i1,o1,a4,n4,c4,e4,x15,x16,rfl,hi⟩
abbrev T8:=Nat→Nat→Pt→Nat→Nat→Bool→Int→Int→Int→Int→Zaa→Prop
def E8 (R8:T8) (env:Env) (h:Zaa):Prop:=Zbx 1 env fun v env=>Zfw v fun a=>Zbf a fun i1 o1=>Zbx 4 env fun v env=>xSl v fun a4 n4 c4 e4=>Zbx 5 env fun v env=>Zdz .i64 v fun x5=>Zbx 6 env fun v env=>Zdz .i64 v fun x6=>Zbx 15 env fun v env=>Zdz .i64 v fun x15=>Zbx 16 env fun v env=>Zdz .i64 v fun x16=>Ziy env (R8 i1 o1 a4 n4 c4 e4 x5 x6 x15 x16 h)
theorem Zxk {R8:T8} {env:Env} {h:Zaa} (hi:E8 R8 env h):∃ i1,∃ o1,∃ a4,∃ n4,∃ c4,∃ e4,∃ x5,∃ x6,∃ x15,∃ x16,env=[(1,.ptr (i1,o1)),(4,.slice a4 n4 c4 e4),(5,.int .i64 x5),(6,.int .i64 x6),(15,.int .i64 x15),(16,.int .i64 x16)]∧R8 i1 o1 a4 n4 c4 e4 x5 x6 x15 x16 h:=by
 unfold E8 at hi
 have hi0:=hi
 clear hi
 obtain ⟨_,_,rfl,hi1⟩:=Zae hi0
 obtain ⟨a,rfl,hi2⟩:=Zbu hi1
 obtain ⟨i1,o1,rfl,hi3⟩:=Zbn hi2
 obtain ⟨_,_,rfl,hi4⟩:=Zae hi3
 obtain ⟨a4,n4,c4,e4,rfl,hi5⟩:=Zbt hi4
 obtain ⟨_,_,rfl,hi6⟩:=Zae hi5
 obtain ⟨x5,rfl,hi7⟩:=Zat hi6
 obtain ⟨_,_,rfl,hi8⟩:=Zae hi7
 obtain ⟨x6,rfl,hi9⟩:=Zat hi8
 obtain ⟨_,_,rfl,hi10⟩:=Zae hi9
 obtain ⟨x15,rfl,hi11⟩:=Zat hi10
 obtain ⟨_,_,rfl,hi12⟩:=Zae hi11
 obtain ⟨x16,rfl,hi13⟩:=Zat hi12
 obtain ⟨rfl,hi14⟩:=Zbj hi13
 have hi:=hi14
 exact ⟨i1,o1,a4,n4,c4,e4,x5,x6,x15,x16,rfl,hi⟩
def K0 (Q:QT):KT:=andThen (fun env' h'=>(match kp.find 4000014 with | some ks=>Den pg fn.ntmps (C [1,1,1,1]) (env'.keep ks) h' (KR Q) | none=>den pg fn.ntmps kp (C [1,1,1,1]) env' h' (KR Q))) (KR Q)
def K1 (Q:QT):KT:=Zcg 0 (K0 Q)
def K2 (Q:QT):KT:=left kp 5 (K1 Q)
def K3 (Q:QT) (R5:T5):KT:=rnd ((kp.find 1000005).getD []) (E5 R5) (K2 Q)
def K4 (Q:QT) (R5:T5):KT:=andThen (fun env' h'=>(match kp.find 4000013 with | some ks=>Den pg fn.ntmps (C [1,1,1,0,1,0,0,1,1,1]) (env'.keep ks) h' (K3 Q R5) | none=>den pg fn.ntmps kp (C [1,1,1,0,1,0,0,1,1,1]) env' h' (K3 Q R5))) (K3 Q R5)
def K5 (Q:QT) (R5:T5):KT:=Zcg 1 (K4 Q R5)
def K6 (Q:QT) (R5:T5):KT:=Zcg 2 (K5 Q R5)
def K7 (Q:QT) (R5:T5):KT:=left kp 8 (K6 Q R5)
def K8 (Q:QT) (R5:T5) (R8:T8):KT:=rnd ((kp.find 1000008).getD []) (E8 R8) (K7 Q R5)
def L5 (Q:QT) (i1 o1:Nat) (a4:Pt) (n4 c4:Nat) (e4:Bool) (x15 x16:Int) (h:Zaa):Prop:=Zdt (Den pg fn.ntmps (C [1,1,1,0,1,0,0])) ((kp.find 1000005).getD []) (K2 Q) [(1,.ptr (i1,o1)),(4,.slice a4 n4 c4 e4),(15,.int .i64 x15),(16,.int .i64 x16)] h
def L8 (Q:QT) (R5:T5) (i1 o1:Nat) (a4:Pt) (n4 c4:Nat) (e4:Bool) (x5 x6 x15 x16:Int) (h:Zaa):Prop:=Zdt (Den pg fn.ntmps (C [1,1,1,0,1,0,0,1,1,0,0,1,1,0,0])) ((kp.find 1000008).getD []) (K7 Q R5) [(1,.ptr (i1,o1)),(4,.slice a4 n4 c4 e4),(5,.int .i64 x5),(6,.int .i64 x6),(15,.int .i64 x15),(16,.int .i64 x16)] h
def A5x0 (Q:QT) (a4:Pt) (n4 c4:Nat) (e4:Bool) (h:Zaa):Prop:=At (K1 Q) (.exit 0) [(4,.slice a4 n4 c4 e4)] h
def J9 (Q:QT) (R5:T5) (R8:T8) (x6:Int) (i1 o1:Nat) (x5:Int) (a4:Pt) (n4 c4:Nat) (e4:Bool) (x16 x15:Int) (h:Zaa):Prop:=Den pg fn.ntmps (C [1,1,1,0,1,0,0,1,1,0,0,1,1,0,0,1,1]) [(6,.int .i64 x6),(1,.ptr (i1,o1)),(5,.int .i64 x5),(4,.slice a4 n4 c4 e4),(16,.int .i64 x16),(15,.int .i64 x15)] h (K8 Q R5 R8)
def Ypx (Q:QT) (R5:T5) (x16 x15:Int) (i1 o1:Nat) (a4:Pt) (n4 c4:Nat) (e4:Bool) (h:Zaa):Prop:=At (K6 Q R5) (.exit 2) [(16,.int .i64 x16),(15,.int .i64 x15),(1,.ptr (i1,o1)),(4,.slice a4 n4 c4 e4)] h
def L5t (Q:QT) (R5:T5) (i1 o1:Nat) (a4:Pt) (n4 c4:Nat) (e4:Bool) (x15 x16:Int) (h:Zaa):Prop:=
 bcase (decide ((x16:Int) < x15)) (L8 Q R5 i1 o1 a4 n4 c4 e4 x16 (IntKind.wrap .i64 (x16 + 1)) x15 x16 h) (A5x0 Q a4 n4 c4 e4 h)
theorem Zqx (Q:QT) (R5:T5) (i1 o1:Nat) (a4:Pt) (n4 c4:Nat) (e4:Bool) (x15 x16:Int) (h:Zaa) (ht:L5t Q R5 i1 o1 a4 n4 c4 e4 x15 x16 h):Den pg fn.ntmps (C [1,1,1,0,1,0,0]) [(1,.ptr (i1,o1)),(4,.slice a4 n4 c4 e4),(15,.int .i64 x15),(16,.int .i64 x16)] h (K3 Q R5):=
 Zax (kp:=kp) (cast (by kernel_rfl) ht)
theorem L5ind (Q:QT) (i1 o1:Nat) (x15:Int) {G:Type} (J:G→Pt→Nat→Nat→Bool→Int→Zaa→Prop) (m:G→Nat)
 (hr:∀ (g:G) (a4:Pt) (n4 c4:Nat) (e4:Bool) (x16:Int) (h:Zaa),J g a4 n4 c4 e4 x16 h→∀ (R5:T5),(∀ g' (a4:Pt) (n4 c4:Nat) (e4:Bool) (x16:Int) (h:Zaa),m g' < m g→J g' a4 n4 c4 e4 x16 h→R5 i1 o1 a4 n4 c4 e4 x15 x16 h)→L5t Q R5 i1 o1 a4 n4 c4 e4 x15 x16 h)
 (g:G) (a4:Pt) (n4 c4:Nat) (e4:Bool) (x16:Int) (h:Zaa) (hj:J g a4 n4 c4 e4 x16 h):L5 Q i1 o1 a4 n4 c4 e4 x15 x16 h:=by
 let P:=fun (K:Pt→Nat→Nat→Bool→Int→Zaa→Prop) i1' o1' a4 n4 c4 e4 x15' x16 h=>i1=i1'∧o1=o1'∧x15=x15'∧K a4 n4 c4 e4 x16 h
 refine Zdt.inv2 (fun g=>E5 (P (J g))) (fun g=>E5 (P fun a4 n4 c4 e4 x16 h=>∃ g',m g' < m g∧J g' a4 n4 c4 e4 x16 h)) m ?_ ?_ g ⟨rfl,rfl,rfl,hj⟩
 ·intro g env h hi
  obtain ⟨i1',o1',a4,n4,c4,e4,x15',x16,rfl,rfl,rfl,rfl,hj⟩:=Zhq hi
  exact Zqx Q _ i1 o1 a4 n4 c4 e4 x15 x16 h (hr g a4 n4 c4 e4 x16 h hj (P fun a4 n4 c4 e4 x16 h=>∃ g',m g' < m g∧J g' a4 n4 c4 e4 x16 h) fun g' a4 n4 c4 e4 x16 h hlt hj=>⟨rfl,rfl,rfl,g',hlt,hj⟩)
 ·intro g env h hi
  obtain ⟨i1',o1',a4,n4,c4,e4,x15',x16,rfl,rfl,rfl,rfl,g',hlt,hj⟩:=Zhq hi
  exact ⟨g',hlt,rfl,rfl,rfl,hj⟩
def L8t (Q:QT) (R5:T5) (R8:T8) (i1 o1:Nat) (a4:Pt) (n4 c4:Nat) (e4:Bool) (x5 x6 x15 x16:Int) (h:Zaa):Prop:=
 xSl (Zaf h (.ptr (i1,o1 + 1))) fun A A B B=>bcase (decide ((x6:Int) < (((A:Nat):Int)))) (xSl (Zaf h (.ptr (i1,o1 + 1))) fun A B C C=>(0≤(x5:Int)∧(x5:Int) < (B:Nat))∧(Zbf A fun A B=>Zcy (Zbo h (.ptr (A,B + (Int.toNat x5) * 3)) 3) fun C=>Zam C fun C D=>Zcb C fun C=>Zam D fun D E=>Zcb D fun D=>Zam E fun E F=>xSl E fun E G H I=>Zcq F (xSl (Zaf h (.ptr (i1,o1 + 1))) fun F J K K=>(0≤(x6:Int)∧(x6:Int) < (J:Nat))∧(Zbf F fun F J=>Zcy (Zbo h (.ptr (F,J + (Int.toNat x6) * 3)) 3) fun K=>Zam K fun K L=>Zcb K fun K=>Zam L fun L M=>Zcb L fun L=>Zam M fun M N=>xSl M fun M O P R=>Zcq N ((Zdn (h ++ [.cells Zac [.str [],.str [],.slice none 0 0 true] false]) fun N=>(Zbo N (.ptr (F,J + (Int.toNat x6) * 3)) 3=Zbo h (.ptr (F,J + (Int.toNat x6) * 3)) 3)∧(Zaf N (.ptr (i1,o1 + 1))=Zaf h (.ptr (i1,o1 + 1)))∧(Zbo N (.ptr (A,B + (Int.toNat x5) * 3)) 3=Zbo h (.ptr (A,B + (Int.toNat x5) * 3)) 3)∧(Zaf N (.ptr (i1,o1 + 1))=Zaf h (.ptr (i1,o1 + 1)))∧Zdn (N ++ [.cells Zac [.str [],.str [],.slice none 0 0 true] false]) fun S=>(Zbo S (.ptr (F,J + (Int.toNat x6) * 3)) 3=Zbo N (.ptr (F,J + (Int.toNat x6) * 3)) 3)∧(Zaf S (.ptr (i1,o1 + 1))=Zaf N (.ptr (i1,o1 + 1)))∧(Zbo S (.ptr (A,B + (Int.toNat x5) * 3)) 3=Zbo N (.ptr (A,B + (Int.toNat x5) * 3)) 3)∧(Zaf S (.ptr (i1,o1 + 1))=Zaf N (.ptr (i1,o1 + 1)))∧Zcf (Zbd S (.ptr (h.length,0)) [.str C,.str D,.slice E G H I]) fun T=>(Zbo T (.ptr (F,J + (Int.toNat x6) * 3)) 3=Zbo S (.ptr (F,J + (Int.toNat x6) * 3)) 3)∧(Zaf T (.ptr (i1,o1 + 1))=Zaf S (.ptr (i1,o1 + 1)))∧Zcf (Zbd T (.ptr (N.length,0)) [.str K,.str L,.slice M O P R]) fun S=>Zcb (Zaf S (.ptr (h.length,0 + 0 + 0))) fun T=>Zcb (Zaf S (.ptr (N.length,0 + 0 + 0))) fun U=>bcase (decide (T=U)) (Zcb (Zaf S (.ptr (h.length,0 + 0 + 1))) fun T=>Zcb (Zaf S (.ptr (N.length,0 + 0 + 1))) fun N=>Zad pg Zgh [.str T,.str N] S fun N T=>
 Zbw N fun N=>bcase (!N) (Zdn (T ++ [.cells Zjc [.int .i64 x5,.int .i64 x6] false]) fun N=>Zdn (N ++ [.cells Zel [.slice (T.length,0) 2 2 true] false]) fun U=>Zdv pg Zkf U (.slice a4 n4 c4 e4) (.slice (N.length,0) 1 1 true) fun N U=>xSl N fun N V W X=>J9 Q R5 R8 x6 i1 o1 x5 N V W X x16 x15 U) (J9 Q R5 R8 x6 i1 o1 x5 a4 n4 c4 e4 x16 x15 T)) (J9 Q R5 R8 x6 i1 o1 x5 a4 n4 c4 e4 x16 x15 S))∧(Zdn (h ++ [.cells Zac [.str [],.str [],.slice none 0 0 true] false]) fun N=>(Zbo N (.ptr (F,J + (Int.toNat x6) * 3)) 3=Zbo h (.ptr (F,J + (Int.toNat x6) * 3)) 3)∧(Zaf N (.ptr (i1,o1 + 1))=Zaf h (.ptr (i1,o1 + 1)))∧(Zbo N (.ptr (A,B + (Int.toNat x5) * 3)) 3=Zbo h (.ptr (A,B + (Int.toNat x5) * 3)) 3)∧(Zaf N (.ptr (i1,o1 + 1))=Zaf h (.ptr (i1,o1 + 1)))∧Zdn (N ++ [.cells Zac [.str [],.str [],.slice none 0 0 true] false]) fun S=>(Zbo S (.ptr (F,J + (Int.toNat x6) * 3)) 3=Zbo N (.ptr (F,J + (Int.toNat x6) * 3)) 3)∧(Zaf S (.ptr (i1,o1 + 1))=Zaf N (.ptr (i1,o1 + 1)))∧(Zbo S (.ptr (A,B + (Int.toNat x5) * 3)) 3=Zbo N (.ptr (A,B + (Int.toNat x5) * 3)) 3)∧(Zaf S (.ptr (i1,o1 + 1))=Zaf N (.ptr (i1,o1 + 1)))∧Zcf (Zbd S (.ptr (N.length,0)) [.str C,.str D,.slice E G H I]) fun A=>(Zbo A (.ptr (F,J + (Int.toNat x6) * 3)) 3=Zbo S (.ptr (F,J + (Int.toNat x6) * 3)) 3)∧(Zaf A (.ptr (i1,o1 + 1))=Zaf S (.ptr (i1,o1 + 1)))∧Zcf (Zbd A (.ptr (h.length,0)) [.str K,.str L,.slice M O P R]) fun A=>Zcb (Zaf A (.ptr (N.length,0 + 0 + 0))) fun B=>Zcb (Zaf A (.ptr (h.length,0 + 0 + 0))) fun C=>bcase (decide (B=C)) (Zcb (Zaf A (.ptr (N.length,0 + 0 + 1))) fun B=>Zcb (Zaf A (.ptr (h.length,0 + 0 + 1))) fun C=>Zad pg Zgh [.str B,.str C] A fun B C=>
 Zbw B fun B=>bcase (!B) (Zdn (C ++ [.cells Zjc [.int .i64 x5,.int .i64 x6] false]) fun B=>Zdn (B ++ [.cells Zel [.slice (C.length,0) 2 2 true] false]) fun D=>Zdv pg Zkf D (.slice a4 n4 c4 e4) (.slice (B.length,0) 1 1 true) fun B D=>xSl B fun B E F G=>J9 Q R5 R8 x6 i1 o1 x5 B E F G x16 x15 D) (J9 Q R5 R8 x6 i1 o1 x5 a4 n4 c4 e4 x16 x15 C)) (J9 Q R5 R8 x6 i1 o1 x5 a4 n4 c4 e4 x16 x15 A))))))) (Ypx Q R5 x16 x15 i1 o1 a4 n4 c4 e4 h)
theorem Ymq (Q:QT) (R5:T5) (R8:T8) (i1 o1:Nat) (a4:Pt) (n4 c4:Nat) (e4:Bool) (x5 x6 x15 x16:Int) (h:Zaa) (ht:L8t Q R5 R8 i1 o1 a4 n4 c4 e4 x5 x6 x15 x16 h):Den pg fn.ntmps (C [1,1,1,0,1,0,0,1,1,0,0,1,1,0,0]) [(1,.ptr (i1,o1)),(4,.slice a4 n4 c4 e4),(5,.int .i64 x5),(6,.int .i64 x6),(15,.int .i64 x15),(16,.int .i64 x16)] h (K8 Q R5 R8):=
 Zax (kp:=kp) (cast (by kernel_rfl) ht)
theorem L8ind (Q:QT) (R5:T5) (i1 o1:Nat) (x5 x15 x16:Int) {G:Type} (J:G→Pt→Nat→Nat→Bool→Int→Zaa→Prop) (m:G→Nat)
 (hr:∀ (g:G) (a4:Pt) (n4 c4:Nat) (e4:Bool) (x6:Int) (h:Zaa),J g a4 n4 c4 e4 x6 h→∀ (R8:T8),(∀ g' (a4:Pt) (n4 c4:Nat) (e4:Bool) (x6:Int) (h:Zaa),m g' < m g→J g' a4 n4 c4 e4 x6 h→R8 i1 o1 a4 n4 c4 e4 x5 x6 x15 x16 h)→L8t Q R5 R8 i1 o1 a4 n4 c4 e4 x5 x6 x15 x16 h)
 (g:G) (a4:Pt) (n4 c4:Nat) (e4:Bool) (x6:Int) (h:Zaa) (hj:J g a4 n4 c4 e4 x6 h):L8 Q R5 i1 o1 a4 n4 c4 e4 x5 x6 x15 x16 h:=by
 let P:=fun (K:Pt→Nat→Nat→Bool→Int→Zaa→Prop) i1' o1' a4 n4 c4 e4 x5' x6 x15' x16' h=>i1=i1'∧o1=o1'∧x5=x5'∧x15=x15'∧x16=x16'∧K a4 n4 c4 e4 x6 h
 refine Zdt.inv2 (fun g=>E8 (P (J g))) (fun g=>E8 (P fun a4 n4 c4 e4 x6 h=>∃ g',m g' < m g∧J g' a4 n4 c4 e4 x6 h)) m ?_ ?_ g ⟨rfl,rfl,rfl,rfl,rfl,hj⟩
 ·intro g env h hi
  obtain ⟨i1',o1',a4,n4,c4,e4,x5',x6,x15',x16',rfl,rfl,rfl,rfl,rfl,rfl,hj⟩:=Zxk hi
  exact Ymq Q R5 (P fun a4 n4 c4 e4 x6 h=>∃ g',m g' < m g∧J g' a4 n4 c4 e4 x6 h) i1 o1 a4 n4 c4 e4 x5 x6 x15 x16 h (hr g a4 n4 c4 e4 x6 h hj (P fun a4 n4 c4 e4 x6 h=>∃ g',m g' < m g∧J g' a4 n4 c4 e4 x6 h) fun g' a4 n4 c4 e4 x6 h hlt hj=>⟨rfl,rfl,rfl,rfl,rfl,g',hlt,hj⟩)
 ·intro g env h hi
  obtain ⟨i1',o1',a4,n4,c4,e4,x5',x6,x15',x16',rfl,rfl,rfl,rfl,rfl,rfl,g',hlt,hj⟩:=Zxk hi
  exact ⟨g',hlt,rfl,rfl,rfl,rfl,rfl,hj⟩
theorem A5x0i (Q:QT) (a4:Pt) (n4 c4:Nat) (e4:Bool) (h:Zaa) (ht :
 Q (.tup [.slice a4 n4 c4 e4,.bool true]) h):A5x0 Q a4 n4 c4 e4 h:=
 At.mk (cast (by kernel_rfl) ht)
theorem J9i (Q:QT) (R5:T5) (R8:T8) (x6:Int) (i1 o1:Nat) (x5:Int) (a4:Pt) (n4 c4:Nat) (e4:Bool) (x16 x15:Int) (h:Zaa) (ht :
 R8 i1 o1 a4 n4 c4 e4 x5 (IntKind.wrap .i64 (x6 + 1)) x15 x16 h):J9 Q R5 R8 x6 i1 o1 x5 a4 n4 c4 e4 x16 x15 h:=
 Zax (kp:=kp) (cast (by kernel_rfl) ht)
theorem A8x2i (Q:QT) (R5:T5) (x16 x15:Int) (i1 o1:Nat) (a4:Pt) (n4 c4:Nat) (e4:Bool) (h:Zaa) (ht :
 R5 i1 o1 a4 n4 c4 e4 x15 (IntKind.wrap .i64 (x16 + 1)) h):Ypx Q R5 x16 x15 i1 o1 a4 n4 c4 e4 h:=
 At.mk (cast (by kernel_rfl) ht)
theorem call (a0x0:Pt) (n0x0 c0x0:Nat) (e0x0:Bool) (a0x1:Pt) (n0x1 c0x1:Nat) (e0x1:Bool) (h:Zaa) (Q:QT) (ht :
 Zdn (h ++ [.cells Zao [.slice a0x0 n0x0 c0x0 e0x0,.slice a0x1 n0x1 c0x1 e0x1] false]) fun A=>Zcy (Zbo A (.ptr (h.length,0)) 2) fun B=>Zam B fun B C=>xSl B fun B D E F=>Zam C fun C G=>xSl C fun C H I J=>Zcq G (Zad pg Zil [.agg [.slice B D E F,.slice C H I J]] A fun A B=>
 Zbw A fun A=>bcase (!A) (Q (.tup [.slice none 0 0 true,.bool false]) B) (Zdn (B ++ [.cells Zel [] false]) fun A=>xSl (Zaf A (.ptr (h.length,0 + 1))) fun C C D D=>L5 Q h.length 0 (B.length,0) 0 0 true (((C:Nat):Int)) 0 A))):Zad pg Zgm [.agg [.slice a0x0 n0x0 c0x0 e0x0,.slice a0x1 n0x1 c0x1 e0x1]] h Q:=
 Zad.of_body kp (c:=cod fn) (fn:=fn) Go.Proofs.Try.func15 (by kernel_rfl) (by kernel_rfl) (Nat.le_of_ble_eq_true (by kernel_rfl))
  (cast (by kernel_rfl) ht)
end Zbz
namespace Zop
noncomputable abbrev fn:Func:=Go.Proofs.Try.f86
def kp:Zce:=[]
noncomputable def C (p:List Nat):Code:=(cod fn).sub p
def KR (Q:QT):KT:=Zet pg fn.results.toList Q
theorem call (x0x0 x0x1:List Nat) (a0x2:Pt) (n0x2 c0x2:Nat) (e0x2:Bool) (x1x0 x1x1:List Nat) (a1x2:Pt) (n1x2 c1x2:Nat) (e1x2:Bool) (h:Zaa) (Q:QT) (ht :
 Zdn (h ++ [.cells Zac [.str x0x0,.str x0x1,.slice a0x2 n0x2 c0x2 e0x2] false]) fun A=>Zdn (A ++ [.cells Zac [.str x1x0,.str x1x1,.slice a1x2 n1x2 c1x2 e1x2] false]) fun B=>Zcb (Zaf B (.ptr (h.length,0 + 0 + 0))) fun C=>Zcb (Zaf B (.ptr (A.length,0 + 0 + 0))) fun D=>bcase (decide (C=D)) (Zcb (Zaf B (.ptr (h.length,0 + 0 + 1))) fun C=>Zcb (Zaf B (.ptr (A.length,0 + 0 + 1))) fun A=>Zad pg Zkh [.str C,.str A] B fun A C=>
 Zbw A fun A=>Q (.bool (!A)) C) (Q (.bool false) B)):Zad pg Zli [.agg [.str x0x0,.str x0x1,.slice a0x2 n0x2 c0x2 e0x2],.agg [.str x1x0,.str x1x1,.slice a1x2 n1x2 c1x2 e1x2]] h Q:=
 Zad.of_body kp (c:=cod fn) (fn:=fn) Go.Proofs.Try.func86 (by kernel_rfl) (by kernel_rfl) (Nat.le_of_ble_eq_true (by kernel_rfl))
  (cast (by kernel_rfl) ht)
end Zop
namespace Zcr
noncomputable abbrev fn:Func:=Go.Proofs.Try.f39
def kp:Zce:=[(3000003,[3]),(1000003,[1,3,9,10,11]),(3000006,[11,10,9,1,3]),(1000006,[1,3,4,5,6,9,10,11]),(2000008,[31,3,4,6,1,5,11,10,9]),(4000007,[6,1,5,3,4,11,10,9])]
noncomputable def C (p:List Nat):Code:=(cod fn).sub p
def KR (Q:QT):KT:=Zet pg fn.results.toList Q
abbrev T3:=Nat→Nat→Pt→Nat→Nat→Bool→Pt→Nat→Nat→Bool→Int→Int→Zaa→Prop
def E3 (R3:T3) (env:Env) (h:Zaa):Prop:=Zbx 1 env fun v env=>Zfw v fun a=>Zbf a fun i1 o1=>Zbx 3 env fun v env=>xSl v fun a3 n3 c3 e3=>Zbx 9 env fun v env=>xSl v fun a9 n9 c9 e9=>Zbx 10 env fun v env=>Zdz .i64 v fun x10=>Zbx 11 env fun v env=>Zdz .i64 v fun x11=>Ziy env (R3 i1 o1 a3 n3 c3 e3 a9 n9 c9 e9 x10 x11 h)
theorem Zhp {R3:T3} {env:Env} {h:Zaa} (hi:E3 R3 env h):∃ i1,∃ o1,∃ a3,∃ n3,∃ c3,∃ e3,∃ a9,∃ n9,∃ c9,∃ e9,∃ x10,∃ x11,env=[(1,.ptr (i1,o1)),(3,.slice a3 n3 c3 e3),(9,.slice a9 n9 c9 e9),(10,.int .i64 x10),(11,.int .i64 x11)]∧R3 i1 o1 a3 n3 c3 e3 a9 n9 c9 e9 x10 x11 h:=by
 unfold E3 at hi
 have hi0:=hi
 clear hi
 obtain ⟨_,_,rfl,hi1⟩:=Zae hi0
 obtain ⟨a,rfl,hi2⟩:=Zbu hi1
 obtain ⟨i1,o1,rfl,hi3⟩:=Zbn hi2
 obtain ⟨_,_,rfl,hi4⟩:=Zae hi3
 obtain ⟨a3,n3,c3,e3,rfl,hi5⟩:=Zbt hi4
 obtain ⟨_,_,rfl,hi6⟩:=Zae hi5
 obtain ⟨a9,n9,c9,e9,rfl,hi7⟩:=Zbt hi6
 obtain ⟨_,_,rfl,hi8⟩:=Zae hi7
 obtain ⟨x10,rfl,hi9⟩:=Zat hi8
 obtain ⟨_,_,rfl,hi10⟩:=Zae hi9
 obtain ⟨x11,rfl,hi11⟩:=Zat hi10
 obtain ⟨rfl,hi12⟩:=Zbj hi11
 have hi:=hi12
 exact ⟨i1,o1,a3,n3,c3,e3,a9,n9,c9,e9,x10,x11,rfl,hi⟩
abbrev T6:=Nat→Nat→Pt→Nat→Nat→Bool→Int→Nat→Nat→Int→Pt→Nat→Nat→Bool→Int→Int→Zaa→Prop
def E6 (R6:T6) (env:Env) (h:Zaa):Prop:=Zbx 1 env fun v env=>Zfw v fun a=>Zbf a fun i1 o1=>Zbx 3 env fun v env=>xSl v fun a3 n3 c3 e3=>Zbx 4 env fun v env=>Zdz .i64 v fun x4=>Zbx 5 env fun v env=>Zfw v fun a=>Zbf a fun i5 o5=>Zbx 6 env fun v env=>Zdz .i64 v fun x6=>Zbx 9 env fun v env=>xSl v fun a9 n9 c9 e9=>Zbx 10 env fun v env=>Zdz .i64 v fun x10=>Zbx 11 env fun v env=>Zdz .i64 v fun x11=>Ziy env (R6 i1 o1 a3 n3 c3 e3 x4 i5 o5 x6 a9 n9 c9 e9 x10 x11 h)
theorem Znp {R6:T6} {env:Env} {h:Zaa} (hi:E6 R6 env h):∃ i1,∃ o1,∃ a3,∃ n3,∃ c3,∃ e3,∃ x4,∃ i5,∃ o5,∃ x6,∃ a9,∃ n9,∃ c9,∃ e9,∃ x10,∃ x11,env=[(1,.ptr (i1,o1)),(3,.slice a3 n3 c3 e3),(4,.int .i64 x4),(5,.ptr (i5,o5)),(6,.int .i64 x6),(9,.slice a9 n9 c9 e9),(10,.int .i64 x10),(11,.int .i64 x11)]∧R6 i1 o1 a3 n3 c3 e3 x4 i5 o5 x6 a9 n9 c9 e9 x10 x11 h:=by
 unfold E6 at hi
 have hi0:=hi
 clear hi
 obtain ⟨_,_,rfl,hi1⟩:=Zae hi0
 obtain ⟨a,rfl,hi2⟩:=Zbu hi1
 obtain ⟨i1,o1,rfl,hi3⟩:=Zbn hi2
 obtain ⟨_,_,rfl,hi4⟩:=Zae hi3
 obtain ⟨a3,n3,c3,e3,rfl,hi5⟩:=Zbt hi4
 obtain ⟨_,_,rfl,hi6⟩:=Zae hi5
 obtain ⟨x4,rfl,hi7⟩:=Zat hi6
 obtain ⟨_,_,rfl,hi8⟩:=Zae hi7
 obtain ⟨a,rfl,hi9⟩:=Zbu hi8
 obtain ⟨i5,o5,rfl,hi10⟩:=Zbn hi9
 obtain ⟨_,_,rfl,hi11⟩:=Zae hi10
 obtain ⟨x6,rfl,hi12⟩:=Zat hi11
 obtain ⟨_,_,rfl,hi13⟩:=Zae hi12
 obtain ⟨a9,n9,c9,e9,rfl,hi14⟩:=Zbt hi13
 obtain ⟨_,_,rfl,hi15⟩:=Zae hi14
 obtain ⟨x10,rfl,hi16⟩:=Zat hi15
 obtain ⟨_,_,rfl,hi17⟩:=Zae hi16
 obtain ⟨x11,rfl,hi18⟩:=Zat hi17
 obtain ⟨rfl,hi19⟩:=Zbj hi18
 have hi:=hi19
 exact ⟨i1,o1,a3,n3,c3,e3,x4,i5,o5,x6,a9,n9,c9,e9,x10,x11,rfl,hi⟩
def K0 (Q:QT):KT:=andThen (fun env' h'=>(match kp.find 4000011 with | some ks=>Den pg fn.ntmps (C [1,1,1]) (env'.keep ks) h' (KR Q) | none=>den pg fn.ntmps kp (C [1,1,1]) env' h' (KR Q))) (KR Q)
def K1 (Q:QT):KT:=Zcg 0 (K0 Q)
def K2 (Q:QT):KT:=left kp 3 (K1 Q)
def K3 (Q:QT) (R3:T3):KT:=rnd ((kp.find 1000003).getD []) (E3 R3) (K2 Q)
def K4 (Q:QT) (R3:T3):KT:=andThen (fun env' h'=>(match kp.find 4000010 with | some ks=>Den pg fn.ntmps (C [1,1,0,1,0,0,1,1,1]) (env'.keep ks) h' (K3 Q R3) | none=>den pg fn.ntmps kp (C [1,1,0,1,0,0,1,1,1]) env' h' (K3 Q R3))) (K3 Q R3)
def K5 (Q:QT) (R3:T3):KT:=Zcg 1 (K4 Q R3)
def K6 (Q:QT) (R3:T3):KT:=Zcg 2 (K5 Q R3)
def K7 (Q:QT) (R3:T3):KT:=left kp 6 (K6 Q R3)
def K8 (Q:QT) (R3:T3) (R6:T6):KT:=rnd ((kp.find 1000006).getD []) (E6 R6) (K7 Q R3)
def L3 (Q:QT) (i1 o1:Nat) (a3:Pt) (n3 c3:Nat) (e3:Bool) (a9:Pt) (n9 c9:Nat) (e9:Bool) (x10 x11:Int) (h:Zaa):Prop:=Zdt (Den pg fn.ntmps (C [1,1,0,1,0,0])) ((kp.find 1000003).getD []) (K2 Q) [(1,.ptr (i1,o1)),(3,.slice a3 n3 c3 e3),(9,.slice a9 n9 c9 e9),(10,.int .i64 x10),(11,.int .i64 x11)] h
def L6 (Q:QT) (R3:T3) (i1 o1:Nat) (a3:Pt) (n3 c3:Nat) (e3:Bool) (x4:Int) (i5 o5:Nat) (x6:Int) (a9:Pt) (n9 c9:Nat) (e9:Bool) (x10 x11:Int) (h:Zaa):Prop:=Zdt (Den pg fn.ntmps (C [1,1,0,1,0,0,1,1,0,0,1,1,0,0])) ((kp.find 1000006).getD []) (K7 Q R3) [(1,.ptr (i1,o1)),(3,.slice a3 n3 c3 e3),(4,.int .i64 x4),(5,.ptr (i5,o5)),(6,.int .i64 x6),(9,.slice a9 n9 c9 e9),(10,.int .i64 x10),(11,.int .i64 x11)] h
def Zux (Q:QT) (a3:Pt) (n3 c3:Nat) (e3:Bool) (h:Zaa):Prop:=At (K1 Q) (.exit 0) [(3,.slice a3 n3 c3 e3)] h
def J7 (Q:QT) (R3:T3) (R6:T6) (x6:Int) (i1 o1 i5 o5:Nat) (a3:Pt) (n3 c3:Nat) (e3:Bool) (x4 x11 x10:Int) (a9:Pt) (n9 c9:Nat) (e9:Bool) (h:Zaa):Prop:=Den pg fn.ntmps (C [1,1,0,1,0,0,1,1,0,0,1,1,0,0,1,1]) [(6,.int .i64 x6),(1,.ptr (i1,o1)),(5,.ptr (i5,o5)),(3,.slice a3 n3 c3 e3),(4,.int .i64 x4),(11,.int .i64 x11),(10,.int .i64 x10),(9,.slice a9 n9 c9 e9)] h (K8 Q R3 R6)
def Yqd (Q:QT) (R3:T3) (x11 x10:Int) (a9:Pt) (n9 c9:Nat) (e9:Bool) (i1 o1:Nat) (a3:Pt) (n3 c3:Nat) (e3:Bool) (h:Zaa):Prop:=At (K6 Q R3) (.exit 2) [(11,.int .i64 x11),(10,.int .i64 x10),(9,.slice a9 n9 c9 e9),(1,.ptr (i1,o1)),(3,.slice a3 n3 c3 e3)] h
def L3t (Q:QT) (R3:T3) (i1 o1:Nat) (a3:Pt) (n3 c3:Nat) (e3:Bool) (a9:Pt) (n9 c9:Nat) (e9:Bool) (x10 x11:Int) (h:Zaa):Prop:=
 bcase (decide ((x11:Int) < x10)) ((0≤(x11:Int)∧(x11:Int) < (n9:Nat))∧(Zbf a9 fun A B=>Zcy (Zbo h (.ptr (A,B + (Int.toNat x11) * 3)) 3) fun A=>Zam A fun A B=>Zcb A fun A=>Zam B fun B C=>Zcb B fun B=>Zam C fun C D=>xSl C fun C E F G=>Zcq D (Zdn (h ++ [.cells Zac [.str [],.str [],.slice none 0 0 true] false]) fun D=>Zcf (Zbd D (.ptr (h.length,0)) [.str A,.str B,.slice C E F G]) fun A=>L6 Q R3 i1 o1 a3 n3 c3 e3 x11 h.length 0 (IntKind.wrap .i64 (x11 + 1)) a9 n9 c9 e9 x10 x11 A))) (Zux Q a3 n3 c3 e3 h)
theorem Zqo (Q:QT) (R3:T3) (i1 o1:Nat) (a3:Pt) (n3 c3:Nat) (e3:Bool) (a9:Pt) (n9 c9:Nat) (e9:Bool) (x10 x11:Int) (h:Zaa) (ht:L3t Q R3 i1 o1 a3 n3 c3 e3 a9 n9 c9 e9 x10 x11 h):Den pg fn.ntmps (C [1,1,0,1,0,0]) [(1,.ptr (i1,o1)),(3,.slice a3 n3 c3 e3),(9,.slice a9 n9 c9 e9),(10,.int .i64 x10),(11,.int .i64 x11)] h (K3 Q R3):=
 Zax (kp:=kp) (cast (by kernel_rfl) ht)
theorem L3ind (Q:QT) (i1 o1:Nat) (a9:Pt) (n9 c9:Nat) (e9:Bool) (x10:Int) {G:Type} (J:G→Pt→Nat→Nat→Bool→Int→Zaa→Prop) (m:G→Nat)
 (hr:∀ (g:G) (a3:Pt) (n3 c3:Nat) (e3:Bool) (x11:Int) (h:Zaa),J g a3 n3 c3 e3 x11 h→∀ (R3:T3),(∀ g' (a3:Pt) (n3 c3:Nat) (e3:Bool) (x11:Int) (h:Zaa),m g' < m g→J g' a3 n3 c3 e3 x11 h→R3 i1 o1 a3 n3 c3 e3 a9 n9 c9 e9 x10 x11 h)→L3t Q R3 i1 o1 a3 n3 c3 e3 a9 n9 c9 e9 x10 x11 h)
 (g:G) (a3:Pt) (n3 c3:Nat) (e3:Bool) (x11:Int) (h:Zaa) (hj:J g a3 n3 c3 e3 x11 h):L3 Q i1 o1 a3 n3 c3 e3 a9 n9 c9 e9 x10 x11 h:=by
 let P:=fun (K:Pt→Nat→Nat→Bool→Int→Zaa→Prop) i1' o1' a3 n3 c3 e3 a9' n9' c9' e9' x10' x11 h=>i1=i1'∧o1=o1'∧a9=a9'∧n9=n9'∧c9=c9'∧e9=e9'∧x10=x10'∧K a3 n3 c3 e3 x11 h
 refine Zdt.inv2 (fun g=>E3 (P (J g))) (fun g=>E3 (P fun a3 n3 c3 e3 x11 h=>∃ g',m g' < m g∧J g' a3 n3 c3 e3 x11 h)) m ?_ ?_ g ⟨rfl,rfl,rfl,rfl,rfl,rfl,rfl,hj⟩
 ·intro g env h hi
  obtain ⟨i1',o1',a3,n3,c3,e3,a9',n9',c9',e9',x10',x11,rfl,rfl,rfl,rfl,rfl,rfl,rfl,rfl,hj⟩:=Zhp hi
  exact Zqo Q _ i1 o1 a3 n3 c3 e3 a9 n9 c9 e9 x10 x11 h (hr g a3 n3 c3 e3 x11 h hj (P fun a3 n3 c3 e3 x11 h=>∃ g',m g' < m g∧J g' a3 n3 c3 e3 x11 h) fun g' a3 n3 c3 e3 x11 h hlt hj=>⟨rfl,rfl,rfl,rfl,rfl,rfl,rfl,g',hlt,hj⟩)
 ·intro g env h hi
  obtain ⟨i1',o1',a3,n3,c3,e3,a9',n9',c9',e9',x10',x11,rfl,rfl,rfl,rfl,rfl,rfl,rfl,rfl,g',hlt,hj⟩:=Zhp hi
  exact ⟨g',hlt,rfl,rfl,rfl,rfl,rfl,rfl,rfl,hj⟩
def L6t (Q:QT) (R3:T3) (R6:T6) (i1 o1:Nat) (a3:Pt) (n3 c3:Nat) (e3:Bool) (x4:Int) (i5 o5:Nat) (x6:Int) (a9:Pt) (n9 c9:Nat) (e9:Bool) (x10 x11:Int) (h:Zaa):Prop:=
 xSl (Zaf h (.ptr (i1,o1 + 1))) fun A A B B=>bcase (decide ((x6:Int) < (((A:Nat):Int)))) (Zcy (Zbo h (.ptr (i5,o5)) 3) fun A=>Zam A fun A B=>Zcb A fun A=>Zam B fun B C=>Zcb B fun B=>Zam C fun C D=>xSl C fun C E F G=>Zcq D (xSl (Zaf h (.ptr (i1,o1 + 1))) fun D H I I=>(Zbo h (.ptr (i5,o5)) 3=Zbo h (.ptr (i5,o5)) 3)∧(0≤(x6:Int)∧(x6:Int) < (H:Nat))∧(Zbf D fun D H=>Zcy (Zbo h (.ptr (D,H + (Int.toNat x6) * 3)) 3) fun D=>Zam D fun D H=>Zcb D fun D=>Zam H fun H I=>Zcb H fun H=>Zam I fun I J=>xSl I fun I K L M=>Zcq J ((Zbo h (.ptr (i5,o5)) 3=Zbo h (.ptr (i5,o5)) 3)∧Zad pg Zli [.agg [.str A,.str B,.slice C E F G],.agg [.str D,.str H,.slice I K L M]] h fun A B=>
 Zbw A fun A=>bcase A (Zdn (B ++ [.cells Zjc [.int .i64 x4,.int .i64 x6] false]) fun A=>Zdn (A ++ [.cells Zel [.slice (B.length,0) 2 2 true] false]) fun C=>Zdv pg Zkf C (.slice a3 n3 c3 e3) (.slice (A.length,0) 1 1 true) fun A C=>xSl A fun A D E F=>J7 Q R3 R6 x6 i1 o1 i5 o5 A D E F x4 x11 x10 a9 n9 c9 e9 C) (J7 Q R3 R6 x6 i1 o1 i5 o5 a3 n3 c3 e3 x4 x11 x10 a9 n9 c9 e9 B))))) (Yqd Q R3 x11 x10 a9 n9 c9 e9 i1 o1 a3 n3 c3 e3 h)
theorem Ybg (Q:QT) (R3:T3) (R6:T6) (i1 o1:Nat) (a3:Pt) (n3 c3:Nat) (e3:Bool) (x4:Int) (i5 o5:Nat) (x6:Int) (a9:Pt) (n9 c9:Nat) (e9:Bool) (x10 x11:Int) (h:Zaa) (ht:L6t Q R3 R6 i1 o1 a3 n3 c3 e3 x4 i5 o5 x6 a9 n9 c9 e9 x10 x11 h):Den pg fn.ntmps (C [1,1,0,1,0,0,1,1,0,0,1,1,0,0]) [(1,.ptr (i1,o1)),(3,.slice a3 n3 c3 e3),(4,.int .i64 x4),(5,.ptr (i5,o5)),(6,.int .i64 x6),(9,.slice a9 n9 c9 e9),(10,.int .i64 x10),(11,.int .i64 x11)] h (K8 Q R3 R6):=
 Zax (kp:=kp) (cast (by kernel_rfl) ht)
theorem L6ind (Q:QT) (R3:T3) (i1 o1:Nat) (x4:Int) (i5 o5:Nat) (a9:Pt) (n9 c9:Nat) (e9:Bool) (x10 x11:Int) {G:Type} (J:G→Pt→Nat→Nat→Bool→Int→Zaa→Prop) (m:G→Nat)
 (hr:∀ (g:G) (a3:Pt) (n3 c3:Nat) (e3:Bool) (x6:Int) (h:Zaa),J g a3 n3 c3 e3 x6 h→∀ (R6:T6),(∀ g' (a3:Pt) (n3 c3:Nat) (e3:Bool) (x6:Int) (h:Zaa),m g' < m g→J g' a3 n3 c3 e3 x6 h→R6 i1 o1 a3 n3 c3 e3 x4 i5 o5 x6 a9 n9 c9 e9 x10 x11 h)→L6t Q R3 R6 i1 o1 a3 n3 c3 e3 x4 i5 o5 x6 a9 n9 c9 e9 x10 x11 h)
 (g:G) (a3:Pt) (n3 c3:Nat) (e3:Bool) (x6:Int) (h:Zaa) (hj:J g a3 n3 c3 e3 x6 h):L6 Q R3 i1 o1 a3 n3 c3 e3 x4 i5 o5 x6 a9 n9 c9 e9 x10 x11 h:=by
 let P:=fun (K:Pt→Nat→Nat→Bool→Int→Zaa→Prop) i1' o1' a3 n3 c3 e3 x4' i5' o5' x6 a9' n9' c9' e9' x10' x11' h=>i1=i1'∧o1=o1'∧x4=x4'∧i5=i5'∧o5=o5'∧a9=a9'∧n9=n9'∧c9=c9'∧e9=e9'∧x10=x10'∧x11=x11'∧K a3 n3 c3 e3 x6 h
 refine Zdt.inv2 (fun g=>E6 (P (J g))) (fun g=>E6 (P fun a3 n3 c3 e3 x6 h=>∃ g',m g' < m g∧J g' a3 n3 c3 e3 x6 h)) m ?_ ?_ g ⟨rfl,rfl,rfl,rfl,rfl,rfl,rfl,rfl,rfl,rfl,rfl,hj⟩
 ·intro g env h hi
  obtain ⟨i1',o1',a3,n3,c3,e3,x4',i5',o5',x6,a9',n9',c9',e9',x10',x11',rfl,rfl,rfl,rfl,rfl,rfl,rfl,rfl,rfl,rfl,rfl,rfl,hj⟩:=Znp hi
  exact Ybg Q R3 (P fun a3 n3 c3 e3 x6 h=>∃ g',m g' < m g∧J g' a3 n3 c3 e3 x6 h) i1 o1 a3 n3 c3 e3 x4 i5 o5 x6 a9 n9 c9 e9 x10 x11 h (hr g a3 n3 c3 e3 x6 h hj (P fun a3 n3 c3 e3 x6 h=>∃ g',m g' < m g∧J g' a3 n3 c3 e3 x6 h) fun g' a3 n3 c3 e3 x6 h hlt hj=>⟨rfl,rfl,rfl,rfl,rfl,rfl,rfl,rfl,rfl,rfl,rfl,g',hlt,hj⟩)
 ·intro g env h hi
  obtain ⟨i1',o1',a3,n3,c3,e3,x4',i5',o5',x6,a9',n9',c9',e9',x10',x11',rfl,rfl,rfl,rfl,rfl,rfl,rfl,rfl,rfl,rfl,rfl,rfl,g',hlt,hj⟩:=Znp hi
  exact ⟨g',hlt,rfl,rfl,rfl,rfl,rfl,rfl,rfl,rfl,rfl,rfl,rfl,hj⟩
theorem A3x0i (Q:QT) (a3:Pt) (n3 c3:Nat) (e3:Bool) (h:Zaa) (ht :
 Q (.slice a3 n3 c3 e3) h):Zux Q a3 n3 c3 e3 h:=
 At.mk (cast (by kernel_rfl) ht)
theorem J7i (Q:QT) (R3:T3) (R6:T6) (x6:Int) (i1 o1 i5 o5:Nat) (a3:Pt) (n3 c3:Nat) (e3:Bool) (x4 x11 x10:Int) (a9:Pt) (n9 c9:Nat) (e9:Bool) (h:Zaa) (ht :
 R6 i1 o1 a3 n3 c3 e3 x4 i5 o5 (IntKind.wrap .i64 (x6 + 1)) a9 n9 c9 e9 x10 x11 h):J7 Q R3 R6 x6 i1 o1 i5 o5 a3 n3 c3 e3 x4 x11 x10 a9 n9 c9 e9 h:=
 Zax (kp:=kp) (cast (by kernel_rfl) ht)
theorem A6x2i (Q:QT) (R3:T3) (x11 x10:Int) (a9:Pt) (n9 c9:Nat) (e9:Bool) (i1 o1:Nat) (a3:Pt) (n3 c3:Nat) (e3:Bool) (h:Zaa) (ht :
 R3 i1 o1 a3 n3 c3 e3 a9 n9 c9 e9 x10 (IntKind.wrap .i64 (x11 + 1)) h):Yqd Q R3 x11 x10 a9 n9 c9 e9 i1 o1 a3 n3 c3 e3 h:=
 At.mk (cast (by kernel_rfl) ht)
theorem call (a0x0:Pt) (n0x0 c0x0:Nat) (e0x0:Bool) (a0x1:Pt) (n0x1 c0x1:Nat) (e0x1:Bool) (h:Zaa) (Q:QT) (ht :
 Zdn (h ++ [.cells Zao [.slice a0x0 n0x0 c0x0 e0x0,.slice a0x1 n0x1 c0x1 e0x1] false]) fun A=>Zdn (A ++ [.cells Zel [] false]) fun B=>xSl (Zaf B (.ptr (h.length,0 + 1))) fun C D E F=>L3 Q h.length 0 (A.length,0) 0 0 true C D E F (((D:Nat):Int)) 0 B):Zad pg Zin [.agg [.slice a0x0 n0x0 c0x0 e0x0,.slice a0x1 n0x1 c0x1 e0x1]] h Q:=
 Zad.of_body kp (c:=cod fn) (fn:=fn) Go.Proofs.Try.func39 (by kernel_rfl) (by kernel_rfl) (Nat.le_of_ble_eq_true (by kernel_rfl))
  (cast (by kernel_rfl) ht)
end Zcr
end Go.Sim

set_option maxRecDepth 100000
set_option maxHeartbeats 0
set_option linter.unusedVariables false
namespace Go.Sim
open Go Go.RowKit
end Go.Sim

set_option maxRecDepth 100000
set_option maxHeartbeats 0
set_option linter.unusedVariables false
namespace Go.Sim
open Go Go.RowKit
namespace Zev
noncomputable abbrev fn:Func:=Go.Proofs.Try.f53
def kp:Zce:=[(3000006,[7]),(1000006,[6,7,19]),(2000009,[19,6,7]),(4000010,[19,6,7])]
noncomputable def C (p:List Nat):Code:=(cod fn).sub p
def KR (Q:QT):KT:=Zet pg fn.results.toList Q
abbrev T6:=Nat→Nat→Nat→Nat→Int→Zaa→Prop
def E6 (R6:T6) (env:Env) (h:Zaa):Prop:=Zbx 6 env fun v env=>Zfw v fun a=>Zbf a fun i6 o6=>Zbx 7 env fun v env=>Zfw v fun a=>Zbf a fun i7 o7=>Zbx 19 env fun v env=>Zdz .i64 v fun x19=>Ziy env (R6 i6 o6 i7 o7 x19 h)
theorem Znp {R6:T6} {env:Env} {h:Zaa} (hi:E6 R6 env h):∃ i6,∃ o6,∃ i7,∃ o7,∃ x19,env=[(6,.ptr (i6,o6)),(7,.ptr (i7,o7)),(19,.int .i64 x19)]∧R6 i6 o6 i7 o7 x19 h:=by
 unfold E6 at hi
 have hi0:=hi
 clear hi
 obtain ⟨_,_,rfl,hi1⟩:=Zae hi0
 obtain ⟨a,rfl,hi2⟩:=Zbu hi1
 obtain ⟨i6,o6,rfl,hi3⟩:=Zbn hi2
 obtain ⟨_,_,rfl,hi4⟩:=Zae hi3
 obtain ⟨a,rfl,hi5⟩:=Zbu hi4
 obtain ⟨i7,o7,rfl,hi6⟩:=Zbn hi5
 obtain ⟨_,_,rfl,hi7⟩:=Zae hi6
 obtain ⟨x19,rfl,hi8⟩:=Zat hi7
 obtain ⟨rfl,hi9⟩:=Zbj hi8
 have hi:=hi9
 exact ⟨i6,o6,i7,o7,x19,rfl,hi⟩
def K0 (Q:QT):KT:=andThen (fun env' h'=>(match kp.find 4000011 with | some ks=>Den pg fn.ntmps (C [1,1,1,1,1]) (env'.keep ks) h' (KR Q) | none=>den pg fn.ntmps kp (C [1,1,1,1,1]) env' h' (KR Q))) (KR Q)
def K1 (Q:QT):KT:=Zcg 0 (K0 Q)
def K2 (Q:QT):KT:=left kp 6 (K1 Q)
def K3 (Q:QT) (R6:T6):KT:=rnd ((kp.find 1000006).getD []) (E6 R6) (K2 Q)
def L6 (Q:QT) (i6 o6 i7 o7:Nat) (x19:Int) (h:Zaa):Prop:=Zdt (Den pg fn.ntmps (C [1,1,1,1,0,1,0,0])) ((kp.find 1000006).getD []) (K2 Q) [(6,.ptr (i6,o6)),(7,.ptr (i7,o7)),(19,.int .i64 x19)] h
def J10 (Q:QT) (R6:T6) (x19:Int) (i6 o6 i7 o7:Nat) (h:Zaa):Prop:=Den pg fn.ntmps (C [1,1,1,1,0,1,0,0,1,1,1]) [(19,.int .i64 x19),(6,.ptr (i6,o6)),(7,.ptr (i7,o7))] h (K3 Q R6)
def Ykc (Q:QT) (i7 o7:Nat) (h:Zaa):Prop:=At (K1 Q) (.exit 0) [(7,.ptr (i7,o7))] h
def L6t (Q:QT) (R6:T6) (i6 o6 i7 o7:Nat) (x19:Int) (h:Zaa):Prop:=
 bcase (decide ((x19:Int) < 12)) ((0≤(x19:Int)∧(x19:Int) < (12:Nat))∧(Zco .u8 (Zaf h (.ptr (i6,o6 + (Int.toNat x19) * 2 + 0))) fun A=>bcase (!((A:Int) == 0)) ((0≤(x19:Int)∧(x19:Int) < (12:Nat))∧(Zcy (Zbo h (.ptr (i6,o6 + (Int.toNat x19) * 2)) 2) fun A=>Zam A fun A B=>Zco .u8 A fun A=>Zam B fun B C=>xSl B fun B D E F=>Zcq C (Zad pg Zjw [.ptr (i6,o6),.agg [.int .u8 A,.slice B D E F]] h fun A B=>
 Zqp A fun A=>Zam A fun A C=>Zco .u8 A fun A=>Zam C fun C D=>xSl C fun C E F G=>Zcq D ((0≤(x19:Int)∧(x19:Int) < (12:Nat))∧(Zcf (Zbd B (.ptr (i7,o7 + (Int.toNat x19) * 2)) [.int .u8 A,.slice C E F G]) fun A=>J10 Q R6 x19 i6 o6 i7 o7 A))))) (J10 Q R6 x19 i6 o6 i7 o7 h))) (Ykc Q i7 o7 h)
theorem Ybg (Q:QT) (R6:T6) (i6 o6 i7 o7:Nat) (x19:Int) (h:Zaa) (ht:L6t Q R6 i6 o6 i7 o7 x19 h):Den pg fn.ntmps (C [1,1,1,1,0,1,0,0]) [(6,.ptr (i6,o6)),(7,.ptr (i7,o7)),(19,.int .i64 x19)] h (K3 Q R6):=
 Zax (kp:=kp) (cast (by kernel_rfl) ht)
theorem L6ind (Q:QT) (i6 o6 i7 o7:Nat) {G:Type} (J:G→Int→Zaa→Prop) (m:G→Nat)
 (hr:∀ (g:G) (x19:Int) (h:Zaa),J g x19 h→∀ (R6:T6),(∀ g' (x19:Int) (h:Zaa),m g' < m g→J g' x19 h→R6 i6 o6 i7 o7 x19 h)→L6t Q R6 i6 o6 i7 o7 x19 h)
 (g:G) (x19:Int) (h:Zaa) (hj:J g x19 h):L6 Q i6 o6 i7 o7 x19 h:=by
 let P:=fun (K:Int→Zaa→Prop) i6' o6' i7' o7' x19 h=>i6=i6'∧o6=o6'∧i7=i7'∧o7=o7'∧K x19 h
 refine Zdt.inv2 (fun g=>E6 (P (J g))) (fun g=>E6 (P fun x19 h=>∃ g',m g' < m g∧J g' x19 h)) m ?_ ?_ g ⟨rfl,rfl,rfl,rfl,hj⟩
 ·intro g env h hi
  obtain ⟨i6',o6',i7',o7',x19,rfl,rfl,rfl,rfl,rfl,hj⟩:=Znp hi
  exact Ybg Q _ i6 o6 i7 o7 x19 h (hr g x19 h hj (P fun x19 h=>∃ g',m g' < m g∧J g' x19 h) fun g' x19 h hlt hj=>⟨rfl,rfl,rfl,rfl,g',hlt,hj⟩)
 ·intro g env h hi
  obtain ⟨i6',o6',i7',o7',x19,rfl,rfl,rfl,rfl,rfl,g',hlt,hj⟩:=Znp hi
  exact ⟨g',hlt,rfl,rfl,rfl,rfl,hj⟩
theorem J10i (Q:QT) (R6:T6) (x19:Int) (i6 o6 i7 o7:Nat) (h:Zaa) (ht :
 R6 i6 o6 i7 o7 (IntKind.wrap .i64 (x19 + 1)) h):J10 Q R6 x19 i6 o6 i7 o7 h:=
 Zax (kp:=kp) (cast (by kernel_rfl) ht)
theorem A6x0i (Q:QT) (i7 o7:Nat) (h:Zaa) (ht :
 Q (.tup [.ptr (i7,o7),.bool true]) h):Ykc Q i7 o7 h:=
 At.mk (cast (by kernel_rfl) ht)
theorem call (x0x0:Int) (a0x1:Pt) (n0x1 c0x1:Nat) (e0x1:Bool) (x1x0:Int) (a1x1:Pt) (n1x1 c1x1:Nat) (e1x1:Bool) (h:Zaa) (Q:QT) (ht :
 Zdn (h ++ [.cells Zab [.int .u8 x0x0,.slice a0x1 n0x1 c0x1 e0x1] false]) fun A=>Zdn (A ++ [.cells Zab [.int .u8 x1x0,.slice a1x1 n1x1 c1x1 e1x1] false]) fun B=>Zdn (B ++ [.cells Zdb [.int .u8 0,.slice none 0 0 true,.int .u8 0,.slice none 0 0 true,.int .u8 0,.slice none 0 0 true,.int .u8 0,.slice none 0 0 true,.int .u8 0,.slice none 0 0 true,.int .u8 0,.slice none 0 0 true,.int .u8 0,.slice none 0 0 true,.int .u8 0,.slice none 0 0 true,.int .u8 0,.slice none 0 0 true,.int .u8 0,.slice none 0 0 true,.int .u8 0,.slice none 0 0 true,.int .u8 0,.slice none 0 0 true] false]) fun C=>Zcy (Zbo C (.ptr (h.length,0)) 2) fun D=>Zam D fun D E=>Zco .u8 D fun D=>Zam E fun E F=>xSl E fun E G H I=>Zcq F (Zcy (Zbo C (.ptr (A.length,0)) 2) fun A=>Zam A fun A F=>Zco .u8 A fun A=>Zam F fun F J=>xSl F fun F K L M=>Zcq J (Zad pg Zcn [.ptr (B.length,0),.agg [.int .u8 D,.slice E G H I],.agg [.int .u8 A,.slice F K L M]] C fun A C=>
 Zbw A fun A=>bcase (!A) (Q (.tup [.ptr (B.length,0),.bool false]) C) (Zdn (C ++ [.cells Zdb [.int .u8 0,.slice none 0 0 true,.int .u8 0,.slice none 0 0 true,.int .u8 0,.slice none 0 0 true,.int .u8 0,.slice none 0 0 true,.int .u8 0,.slice none 0 0 true,.int .u8 0,.slice none 0 0 true,.int .u8 0,.slice none 0 0 true,.int .u8 0,.slice none 0 0 true,.int .u8 0,.slice none 0 0 true,.int .u8 0,.slice none 0 0 true,.int .u8 0,.slice none 0 0 true,.int .u8 0,.slice none 0 0 true] false]) fun A=>L6 Q B.length 0 C.length 0 0 A)))):Zad pg Zlk [.agg [.int .u8 x0x0,.slice a0x1 n0x1 c0x1 e0x1],.agg [.int .u8 x1x0,.slice a1x1 n1x1 c1x1 e1x1]] h Q:=
 Zad.of_body kp (c:=cod fn) (fn:=fn) Go.Proofs.Try.func53 (by kernel_rfl) (by kernel_rfl) (Nat.le_of_ble_eq_true (by kernel_rfl))
  (cast (by kernel_rfl) ht)
end Zev
namespace Zkb
noncomputable abbrev fn:Func:=Go.Proofs.Try.f31
def kp:Zce:=[(4000005,[5,7]),(2000005,[10])]
noncomputable def C (p:List Nat):Code:=(cod fn).sub p
def KR (Q:QT):KT:=Zet pg fn.results.toList Q
def J5 (Q:QT) (i5 o5 i7 o7:Nat) (h:Zaa):Prop:=Den pg fn.ntmps (C [1,1,1,1]) [(5,.ptr (i5,o5)),(7,.ptr (i7,o7))] h (KR Q)
theorem J5i (Q:QT) (i5 o5 i7 o7:Nat) (h:Zaa) (ht :
 Zcy (Zbo h (.ptr (i5,o5)) 2) fun A=>Zam A fun A B=>Zco .u8 A fun A=>Zam B fun B C=>xSl B fun B D E F=>Zcq C (Zcy (Zbo h (.ptr (i7,o7)) 2) fun C=>Zam C fun C G=>Zco .u8 C fun C=>Zam G fun G H=>xSl G fun G I J K=>Zcq H ((Zbo h (.ptr (i5,o5)) 2=Zbo h (.ptr (i5,o5)) 2)∧Zad pg Zhw [.agg [.int .u8 C,.slice G I J K]] h fun C G=>
 Zqp C fun C=>Zam C fun C H=>Zco .u8 C fun C=>Zam H fun H I=>xSl H fun H J K L=>Zcq I ((Zbo G (.ptr (i5,o5)) 2=Zbo h (.ptr (i5,o5)) 2)∧Zad pg Zlk [.agg [.int .u8 A,.slice B D E F],.agg [.int .u8 C,.slice H J K L]] G fun A B=>
 Zzi A fun A=>Zam A fun A C=>Zfw A fun A=>Zam C fun A C=>Zbw A fun A=>Zcq C (Q (.bool (!A)) B))))):J5 Q i5 o5 i7 o7 h:=
 Zax (kp:=kp) (cast (by kernel_rfl) ht)
theorem call (x0 x1:List Nat) (h:Zaa) (Q:QT) (ht :
 Zad pg Zhu [.str x0] h fun A B=>
 Zzi A fun A=>Zam A fun A C=>Zqp A fun A=>Zam A fun A D=>Zco .u8 A fun A=>Zam D fun D E=>xSl D fun D F G H=>Zcq E (Zam C fun C E=>Zbw C fun C=>Zcq E (Zdn (B ++ [.cells Zab [.int .u8 0,.slice none 0 0 true] false]) fun E=>Zcf (Zbd E (.ptr (B.length,0)) [.int .u8 A,.slice D F G H]) fun A=>Zad pg Zhu [.str x1] A fun A D=>
 Zzi A fun A=>Zam A fun A E=>Zqp A fun A=>Zam A fun A F=>Zco .u8 A fun A=>Zam F fun F G=>xSl F fun F H I J=>Zcq G (Zam E fun E G=>Zbw E fun E=>Zcq G (Zdn (D ++ [.cells Zab [.int .u8 0,.slice none 0 0 true] false]) fun G=>Zcf (Zbd G (.ptr (D.length,0)) [.int .u8 A,.slice F H I J]) fun A=>bcase (!C) (Q (.bool false) A) (bcase (!E) (Q (.bool false) A) (J5 Q B.length 0 D.length 0 A))))))):Zad pg Zkh [.str x0,.str x1] h Q:=
 Zad.of_body kp (c:=cod fn) (fn:=fn) Go.Proofs.Try.func31 (by kernel_rfl) (by kernel_rfl) (Nat.le_of_ble_eq_true (by kernel_rfl))
  (cast (by kernel_rfl) ht)
end Zkb
end Go.Sim

set_option maxRecDepth 100000
set_option maxHeartbeats 0
set_option linter.unusedVariables false
namespace Go.Sim
open Go Go.RowKit
namespace Zhs
noncomputable abbrev fn:Func:=Go.Proofs.Try.f98
def kp:Zce:=[(3000004,[5,4]),(1000004,[0,4,5,16,17,18]),(2000006,[18,17,16,5,0,4])]
noncomputable def C (p:List Nat):Code:=(cod fn).sub p
def KR (Q:QT):KT:=Zet pg fn.results.toList Q
abbrev T4:=Pt→Nat→Nat→Nat→Nat→Pt→Nat→Nat→Bool→Int→Int→Zaa→Prop
def E4 (R4:T4) (env:Env) (h:Zaa):Prop:=Zbx 0 env fun v env=>Zfw v fun a0=>Zbx 4 env fun v env=>Zfw v fun a=>Zbf a fun i4 o4=>Zbx 5 env fun v env=>Zfw v fun a=>Zbf a fun i5 o5=>Zbx 16 env fun v env=>xSl v fun a16 n16 c16 e16=>Zbx 17 env fun v env=>Zdz .i64 v fun x17=>Zbx 18 env fun v env=>Zdz .i64 v fun x18=>Ziy env (R4 a0 i4 o4 i5 o5 a16 n16 c16 e16 x17 x18 h)
theorem Zfc {R4:T4} {env:Env} {h:Zaa} (hi:E4 R4 env h):∃ a0,∃ i4,∃ o4,∃ i5,∃ o5,∃ a16,∃ n16,∃ c16,∃ e16,∃ x17,∃ x18,env=[(0,.ptr a0),(4,.ptr (i4,o4)),(5,.ptr (i5,o5)),(16,.slice a16 n16 c16 e16),(17,.int .i64 x17),(18,.int .i64 x18)]∧R4 a0 i4 o4 i5 o5 a16 n16 c16 e16 x17 x18 h:=by
 unfold E4 at hi
 have hi0:=hi
 clear hi
 obtain ⟨_,_,rfl,hi1⟩:=Zae hi0
 obtain ⟨a0,rfl,hi2⟩:=Zbu hi1
 obtain ⟨_,_,rfl,hi3⟩:=Zae hi2
 obtain ⟨a,rfl,hi4⟩:=Zbu hi3
 obtain ⟨i4,o4,rfl,hi5⟩:=Zbn hi4
 obtain ⟨_,_,rfl,hi6⟩:=Zae hi5
 obtain ⟨a,rfl,hi7⟩:=Zbu hi6
 obtain ⟨i5,o5,rfl,hi8⟩:=Zbn hi7
 obtain ⟨_,_,rfl,hi9⟩:=Zae hi8
 obtain ⟨a16,n16,c16,e16,rfl,hi10⟩:=Zbt hi9
 obtain ⟨_,_,rfl,hi11⟩:=Zae hi10
 obtain ⟨x17,rfl,hi12⟩:=Zat hi11
 obtain ⟨_,_,rfl,hi13⟩:=Zae hi12
 obtain ⟨x18,rfl,hi14⟩:=Zat hi13
 obtain ⟨rfl,hi15⟩:=Zbj hi14
 have hi:=hi15
 exact ⟨a0,i4,o4,i5,o5,a16,n16,c16,e16,x17,x18,rfl,hi⟩
def K0 (Q:QT):KT:=andThen (fun env' h'=>(match kp.find 4000008 with | some ks=>Den pg fn.ntmps (C [1,1,1,1]) (env'.keep ks) h' (KR Q) | none=>den pg fn.ntmps kp (C [1,1,1,1]) env' h' (KR Q))) (KR Q)
def K1 (Q:QT):KT:=Zcg 0 (K0 Q)
def K2 (Q:QT):KT:=left kp 4 (K1 Q)
def K3 (Q:QT) (R4:T4):KT:=rnd ((kp.find 1000004).getD []) (E4 R4) (K2 Q)
def L4 (Q:QT) (a0:Pt) (i4 o4 i5 o5:Nat) (a16:Pt) (n16 c16:Nat) (e16:Bool) (x17 x18:Int) (h:Zaa):Prop:=Zdt (Den pg fn.ntmps (C [1,1,1,0,1,0,0])) ((kp.find 1000004).getD []) (K2 Q) [(0,.ptr a0),(4,.ptr (i4,o4)),(5,.ptr (i5,o5)),(16,.slice a16 n16 c16 e16),(17,.int .i64 x17),(18,.int .i64 x18)] h
def Zrs (Q:QT) (i5 o5 i4 o4:Nat) (h:Zaa):Prop:=At (K1 Q) (.exit 0) [(5,.ptr (i5,o5)),(4,.ptr (i4,o4))] h
def L4t (Q:QT) (R4:T4) (a0:Pt) (i4 o4 i5 o5:Nat) (a16:Pt) (n16 c16:Nat) (e16:Bool) (x17 x18:Int) (h:Zaa):Prop:=
 bcase (decide ((x18:Int) < x17)) ((0≤(x18:Int)∧(x18:Int) < (n16:Nat))∧(Zbf a16 fun A B=>Zcy (Zbo h (.ptr (A,B + (Int.toNat x18) * 2)) 2) fun A=>Zam A fun A B=>Zco .u8 A fun A=>Zam B fun B C=>xSl B fun B D E F=>Zcq C (Zdn (h ++ [.cells Zab [.int .u8 0,.slice none 0 0 true] false]) fun C=>Zcf (Zbd C (.ptr (h.length,0)) [.int .u8 A,.slice B D E F]) fun A=>xSl (Zaf A (.ptr (i5,o5 + 1))) fun B C D E=>Zcy (Zbo A (.ptr (h.length,0)) 2) fun F=>Zam F fun F G=>Zco .u8 F fun F=>Zam G fun G H=>xSl G fun G I J K=>Zcq H ((Zaf A (.ptr (i5,o5 + 1))=Zaf A (.ptr (i5,o5 + 1)))∧Zad pg Zjw [.ptr a0,.agg [.int .u8 F,.slice G I J K]] A fun F G=>
 Zqp F fun F=>Zam F fun F H=>Zco .u8 F fun F=>Zam H fun H I=>xSl H fun H J K L=>Zcq I ((Zaf G (.ptr (i5,o5 + 1))=Zaf A (.ptr (i5,o5 + 1)))∧Zdn (G ++ [.cells Zab [.int .u8 F,.slice H J K L] false]) fun A=>(Zaf A (.ptr (i5,o5 + 1))=Zaf G (.ptr (i5,o5 + 1)))∧Zdv pg Zgg A (.slice B C D E) (.slice (G.length,0) 1 1 true) fun A B=>xSl A fun A C D E=>Zcf (Zbd B (.ptr (i5,o5 + 1)) [.slice A C D E]) fun A=>R4 a0 i4 o4 i5 o5 a16 n16 c16 e16 x17 (IntKind.wrap .i64 (x18 + 1)) A))))) (Zrs Q i5 o5 i4 o4 h)
theorem Zny (Q:QT) (R4:T4) (a0:Pt) (i4 o4 i5 o5:Nat) (a16:Pt) (n16 c16:Nat) (e16:Bool) (x17 x18:Int) (h:Zaa) (ht:L4t Q R4 a0 i4 o4 i5 o5 a16 n16 c16 e16 x17 x18 h):Den pg fn.ntmps (C [1,1,1,0,1,0,0]) [(0,.ptr a0),(4,.ptr (i4,o4)),(5,.ptr (i5,o5)),(16,.slice a16 n16 c16 e16),(17,.int .i64 x17),(18,.int .i64 x18)] h (K3 Q R4):=
 Zax (kp:=kp) (cast (by kernel_rfl) ht)
theorem L4ind (Q:QT) (a0:Pt) (i4 o4 i5 o5:Nat) (a16:Pt) (n16 c16:Nat) (e16:Bool) (x17:Int) {G:Type} (J:G→Int→Zaa→Prop) (m:G→Nat)
 (hr:∀ (g:G) (x18:Int) (h:Zaa),J g x18 h→∀ (R4:T4),(∀ g' (x18:Int) (h:Zaa),m g' < m g→J g' x18 h→R4 a0 i4 o4 i5 o5 a16 n16 c16 e16 x17 x18 h)→L4t Q R4 a0 i4 o4 i5 o5 a16 n16 c16 e16 x17 x18 h)
 (g:G) (x18:Int) (h:Zaa) (hj:J g x18 h):L4 Q a0 i4 o4 i5 o5 a16 n16 c16 e16 x17 x18 h:=by
 let P:=fun (K:Int→Zaa→Prop) a0' i4' o4' i5' o5' a16' n16' c16' e16' x17' x18 h=>a0=a0'∧i4=i4'∧o4=o4'∧i5=i5'∧o5=o5'∧a16=a16'∧n16=n16'∧c16=c16'∧e16=e16'∧x17=x17'∧K x18 h
 refine Zdt.inv2 (fun g=>E4 (P (J g))) (fun g=>E4 (P fun x18 h=>∃ g',m g' < m g∧J g' x18 h)) m ?_ ?_ g ⟨rfl,rfl,rfl,rfl,rfl,rfl,rfl,rfl,rfl,rfl,hj⟩
 ·intro g env h hi
  obtain ⟨a0',i4',o4',i5',o5',a16',n16',c16',e16',x17',x18,rfl,rfl,rfl,rfl,rfl,rfl,rfl,rfl,rfl,rfl,rfl,hj⟩:=Zfc hi
  exact Zny Q _ a0 i4 o4 i5 o5 a16 n16 c16 e16 x17 x18 h (hr g x18 h hj (P fun x18 h=>∃ g',m g' < m g∧J g' x18 h) fun g' x18 h hlt hj=>⟨rfl,rfl,rfl,rfl,rfl,rfl,rfl,rfl,rfl,rfl,g',hlt,hj⟩)
 ·intro g env h hi
  obtain ⟨a0',i4',o4',i5',o5',a16',n16',c16',e16',x17',x18,rfl,rfl,rfl,rfl,rfl,rfl,rfl,rfl,rfl,rfl,rfl,g',hlt,hj⟩:=Zfc hi
  exact ⟨g',hlt,rfl,rfl,rfl,rfl,rfl,rfl,rfl,rfl,rfl,rfl,hj⟩
theorem A4x0i (Q:QT) (i5 o5 i4 o4:Nat) (h:Zaa) (ht :
 Zcy (Zbo h (.ptr (i5,o5)) 2) fun A=>Zam A fun A B=>Zco .u8 A fun A=>Zam B fun B C=>xSl B fun B D E F=>Zcq C (Zcf (Zbd h (.ptr (i4,o4)) [.int .u8 A,.slice B D E F]) fun A=>Zcy (Zbo A (.ptr (i4,o4)) 2) fun B=>Zam B fun B C=>Zco .u8 B fun B=>Zam C fun C D=>xSl C fun C E F G=>Zcq D (Q (.agg [.int .u8 B,.slice C E F G]) A))):Zrs Q i5 o5 i4 o4 h:=
 At.mk (cast (by kernel_rfl) ht)
theorem call (a0:Pt) (x1x0:Int) (a1x1:Pt) (n1x1 c1x1:Nat) (e1x1:Bool) (h:Zaa) (Q:QT) (ht :
 Zdn (h ++ [.cells Zab [.int .u8 x1x0,.slice a1x1 n1x1 c1x1 e1x1] false]) fun A=>Zdn (A ++ [.cells Zab [.int .u8 0,.slice none 0 0 true] false]) fun B=>Zcy (Zbo B (.ptr (h.length,0)) 2) fun C=>Zam C fun C D=>Zco .u8 C fun C=>Zam D fun D E=>xSl D fun D F G H=>Zcq E (Zad pg Zgn [.ptr a0,.agg [.int .u8 C,.slice D F G H]] B fun B C=>
 Zqp B fun B=>Zam B fun B D=>Zco .u8 B fun B=>Zam D fun D E=>xSl D fun D F G H=>Zcq E (Zcf (Zbd C (.ptr (h.length,0)) [.int .u8 B,.slice D F G H]) fun B=>Zco .u8 (Zaf B (.ptr (h.length,0 + 0))) fun C=>Zdn (B ++ [.cells Zab [] false]) fun D=>Zdn (D ++ [.cells Zab [.int .u8 0,.slice none 0 0 true] false]) fun E=>Zcf (Zbd E (.ptr (D.length,0)) [.int .u8 C,.slice (B.length,0) 0 0 true]) fun B=>xSl (Zaf B (.ptr (h.length,0 + 1))) fun C E F G=>L4 Q a0 A.length 0 D.length 0 C E F G (((E:Nat):Int)) 0 B))):Zad pg Zjw [.ptr a0,.agg [.int .u8 x1x0,.slice a1x1 n1x1 c1x1 e1x1]] h Q:=
 Zad.of_body kp (c:=cod fn) (fn:=fn) Go.Proofs.Try.func98 (by kernel_rfl) (by kernel_rfl) (Nat.le_of_ble_eq_true (by kernel_rfl))
  (cast (by kernel_rfl) ht)
end Zhs
namespace Zed
noncomputable abbrev fn:Func:=Go.Proofs.Try.f77
def kp:Zce:=[(4000005,[1,2,3]),(3000006,[3,2]),(1000006,[2,3,21,22,23]),(2000008,[23,22,21,3,2])]
noncomputable def C (p:List Nat):Code:=(cod fn).sub p
def KR (Q:QT):KT:=Zet pg fn.results.toList Q
abbrev T6:=Nat→Nat→Nat→Nat→Pt→Nat→Nat→Bool→Int→Int→Zaa→Prop
def E6 (R6:T6) (env:Env) (h:Zaa):Prop:=Zbx 2 env fun v env=>Zfw v fun a=>Zbf a fun i2 o2=>Zbx 3 env fun v env=>Zfw v fun a=>Zbf a fun i3 o3=>Zbx 21 env fun v env=>xSl v fun a21 n21 c21 e21=>Zbx 22 env fun v env=>Zdz .i64 v fun x22=>Zbx 23 env fun v env=>Zdz .i64 v fun x23=>Ziy env (R6 i2 o2 i3 o3 a21 n21 c21 e21 x22 x23 h)
theorem Znp {R6:T6} {env:Env} {h:Zaa} (hi:E6 R6 env h):∃ i2,∃ o2,∃ i3,∃ o3,∃ a21,∃ n21,∃ c21,∃ e21,∃ x22,∃ x23,env=[(2,.ptr (i2,o2)),(3,.ptr (i3,o3)),(21,.slice a21 n21 c21 e21),(22,.int .i64 x22),(23,.int .i64 x23)]∧R6 i2 o2 i3 o3 a21 n21 c21 e21 x22 x23 h:=by
 unfold E6 at hi
 have hi0:=hi
 clear hi
 obtain ⟨_,_,rfl,hi1⟩:=Zae hi0
 obtain ⟨a,rfl,hi2⟩:=Zbu hi1
 obtain ⟨i2,o2,rfl,hi3⟩:=Zbn hi2
 obtain ⟨_,_,rfl,hi4⟩:=Zae hi3
 obtain ⟨a,rfl,hi5⟩:=Zbu hi4
 obtain ⟨i3,o3,rfl,hi6⟩:=Zbn hi5
 obtain ⟨_,_,rfl,hi7⟩:=Zae hi6
 obtain ⟨a21,n21,c21,e21,rfl,hi8⟩:=Zbt hi7
 obtain ⟨_,_,rfl,hi9⟩:=Zae hi8
 obtain ⟨x22,rfl,hi10⟩:=Zat hi9
 obtain ⟨_,_,rfl,hi11⟩:=Zae hi10
 obtain ⟨x23,rfl,hi12⟩:=Zat hi11
 obtain ⟨rfl,hi13⟩:=Zbj hi12
 have hi:=hi13
 exact ⟨i2,o2,i3,o3,a21,n21,c21,e21,x22,x23,rfl,hi⟩
def K0 (Q:QT):KT:=andThen (fun env' h'=>(match kp.find 4000010 with | some ks=>Den pg fn.ntmps (C [1,1,1,1]) (env'.keep ks) h' (KR Q) | none=>den pg fn.ntmps kp (C [1,1,1,1]) env' h' (KR Q))) (KR Q)
def K1 (Q:QT):KT:=Zcg 0 (K0 Q)
def K2 (Q:QT):KT:=left kp 6 (K1 Q)
def K3 (Q:QT) (R6:T6):KT:=rnd ((kp.find 1000006).getD []) (E6 R6) (K2 Q)
def J5 (Q:QT) (i1 o1 i2 o2 i3 o3:Nat) (h:Zaa):Prop:=Den pg fn.ntmps (C [1,1,1]) [(1,.ptr (i1,o1)),(2,.ptr (i2,o2)),(3,.ptr (i3,o3))] h (KR Q)
def L6 (Q:QT) (i2 o2 i3 o3:Nat) (a21:Pt) (n21 c21:Nat) (e21:Bool) (x22 x23:Int) (h:Zaa):Prop:=Zdt (Den pg fn.ntmps (C [1,1,1,0,1,0,0])) ((kp.find 1000006).getD []) (K2 Q) [(2,.ptr (i2,o2)),(3,.ptr (i3,o3)),(21,.slice a21 n21 c21 e21),(22,.int .i64 x22),(23,.int .i64 x23)] h
def Ykc (Q:QT) (i3 o3 i2 o2:Nat) (h:Zaa):Prop:=At (K1 Q) (.exit 0) [(3,.ptr (i3,o3)),(2,.ptr (i2,o2))] h
theorem J5i (Q:QT) (i1 o1 i2 o2 i3 o3:Nat) (h:Zaa) (ht :
 xSl (Zaf h (.ptr (i1,o1 + 1))) fun A B C D=>L6 Q i2 o2 i3 o3 A B C D (((B:Nat):Int)) 0 h):J5 Q i1 o1 i2 o2 i3 o3 h:=
 Zax (kp:=kp) (cast (by kernel_rfl) ht)
def L6t (Q:QT) (R6:T6) (i2 o2 i3 o3:Nat) (a21:Pt) (n21 c21:Nat) (e21:Bool) (x22 x23:Int) (h:Zaa):Prop:=
 bcase (decide ((x23:Int) < x22)) ((0≤(x23:Int)∧(x23:Int) < (n21:Nat))∧(Zbf a21 fun A B=>Zcy (Zbo h (.ptr (A,B + (Int.toNat x23) * 2)) 2) fun A=>Zam A fun A B=>Zco .u8 A fun A=>Zam B fun B C=>xSl B fun B D E F=>Zcq C (Zdn (h ++ [.cells Zab [.int .u8 0,.slice none 0 0 true] false]) fun C=>Zcf (Zbd C (.ptr (h.length,0)) [.int .u8 A,.slice B D E F]) fun A=>xSl (Zaf A (.ptr (i3,o3 + 1))) fun B C D E=>Zcy (Zbo A (.ptr (h.length,0)) 2) fun F=>Zam F fun F G=>Zco .u8 F fun F=>Zam G fun G H=>xSl G fun G I J K=>Zcq H ((Zaf A (.ptr (i3,o3 + 1))=Zaf A (.ptr (i3,o3 + 1)))∧Zad pg Zhw [.agg [.int .u8 F,.slice G I J K]] A fun F G=>
 Zqp F fun F=>Zam F fun F H=>Zco .u8 F fun F=>Zam H fun H I=>xSl H fun H J K L=>Zcq I ((Zaf G (.ptr (i3,o3 + 1))=Zaf A (.ptr (i3,o3 + 1)))∧Zdn (G ++ [.cells Zab [.int .u8 F,.slice H J K L] false]) fun A=>(Zaf A (.ptr (i3,o3 + 1))=Zaf G (.ptr (i3,o3 + 1)))∧Zdv pg Zgg A (.slice B C D E) (.slice (G.length,0) 1 1 true) fun A B=>xSl A fun A C D E=>Zcf (Zbd B (.ptr (i3,o3 + 1)) [.slice A C D E]) fun A=>R6 i2 o2 i3 o3 a21 n21 c21 e21 x22 (IntKind.wrap .i64 (x23 + 1)) A))))) (Ykc Q i3 o3 i2 o2 h)
theorem Ybg (Q:QT) (R6:T6) (i2 o2 i3 o3:Nat) (a21:Pt) (n21 c21:Nat) (e21:Bool) (x22 x23:Int) (h:Zaa) (ht:L6t Q R6 i2 o2 i3 o3 a21 n21 c21 e21 x22 x23 h):Den pg fn.ntmps (C [1,1,1,0,1,0,0]) [(2,.ptr (i2,o2)),(3,.ptr (i3,o3)),(21,.slice a21 n21 c21 e21),(22,.int .i64 x22),(23,.int .i64 x23)] h (K3 Q R6):=
 Zax (kp:=kp) (cast (by kernel_rfl) ht)
theorem L6ind (Q:QT) (i2 o2 i3 o3:Nat) (a21:Pt) (n21 c21:Nat) (e21:Bool) (x22:Int) {G:Type} (J:G→Int→Zaa→Prop) (m:G→Nat)
 (hr:∀ (g:G) (x23:Int) (h:Zaa),J g x23 h→∀ (R6:T6),(∀ g' (x23:Int) (h:Zaa),m g' < m g→J g' x23 h→R6 i2 o2 i3 o3 a21 n21 c21 e21 x22 x23 h)→L6t Q R6 i2 o2 i3 o3 a21 n21 c21 e21 x22 x23 h)
 (g:G) (x23:Int) (h:Zaa) (hj:J g x23 h):L6 Q i2 o2 i3 o3 a21 n21 c21 e21 x22 x23 h:=by
 let P:=fun (K:Int→Zaa→Prop) i2' o2' i3' o3' a21' n21' c21' e21' x22' x23 h=>i2=i2'∧o2=o2'∧i3=i3'∧o3=o3'∧a21=a21'∧n21=n21'∧c21=c21'∧e21=e21'∧x22=x22'∧K x23 h
 refine Zdt.inv2 (fun g=>E6 (P (J g))) (fun g=>E6 (P fun x23 h=>∃ g',m g' < m g∧J g' x23 h)) m ?_ ?_ g ⟨rfl,rfl,rfl,rfl,rfl,rfl,rfl,rfl,rfl,hj⟩
 ·intro g env h hi
  obtain ⟨i2',o2',i3',o3',a21',n21',c21',e21',x22',x23,rfl,rfl,rfl,rfl,rfl,rfl,rfl,rfl,rfl,rfl,hj⟩:=Znp hi
  exact Ybg Q _ i2 o2 i3 o3 a21 n21 c21 e21 x22 x23 h (hr g x23 h hj (P fun x23 h=>∃ g',m g' < m g∧J g' x23 h) fun g' x23 h hlt hj=>⟨rfl,rfl,rfl,rfl,rfl,rfl,rfl,rfl,rfl,g',hlt,hj⟩)
 ·intro g env h hi
  obtain ⟨i2',o2',i3',o3',a21',n21',c21',e21',x22',x23,rfl,rfl,rfl,rfl,rfl,rfl,rfl,rfl,rfl,rfl,g',hlt,hj⟩:=Znp hi
  exact ⟨g',hlt,rfl,rfl,rfl,rfl,rfl,rfl,rfl,rfl,rfl,hj⟩
theorem A6x0i (Q:QT) (i3 o3 i2 o2:Nat) (h:Zaa) (ht :
 Zcy (Zbo h (.ptr (i3,o3)) 2) fun A=>Zam A fun A B=>Zco .u8 A fun A=>Zam B fun B C=>xSl B fun B D E F=>Zcq C (Zcf (Zbd h (.ptr (i2,o2)) [.int .u8 A,.slice B D E F]) fun A=>Zcy (Zbo A (.ptr (i2,o2)) 2) fun B=>Zam B fun B C=>Zco .u8 B fun B=>Zam C fun C D=>xSl C fun C E F G=>Zcq D (Q (.agg [.int .u8 B,.slice C E F G]) A))):Ykc Q i3 o3 i2 o2 h:=
 At.mk (cast (by kernel_rfl) ht)
theorem call (x0x0:Int) (a0x1:Pt) (n0x1 c0x1:Nat) (e0x1:Bool) (h:Zaa) (Q:QT) (ht :
 Zdn (h ++ [.cells Zab [.int .u8 x0x0,.slice a0x1 n0x1 c0x1 e0x1] false]) fun A=>Zdn (A ++ [.cells Zab [.int .u8 0,.slice none 0 0 true] false]) fun B=>Zco .u8 (Zaf B (.ptr (h.length,0 + 0))) fun C=>Zdn (B ++ [.cells Zab [] false]) fun D=>Zdn (D ++ [.cells Zab [.int .u8 0,.slice none 0 0 true] false]) fun E=>Zcf (Zbd E (.ptr (D.length,0)) [.int .u8 C,.slice (B.length,0) 0 0 true]) fun B=>Zco .u8 (Zaf B (.ptr (h.length,0 + 0))) fun C=>Zad pg Zeu [.int .u8 C] B fun B C=>
 Zco .i64 B fun B=>bcase (decide ((B:Int) ≥ 0)) (Zjo ([88,89,90,120,121,122,49,50,51,52,53,54]) (IntKind.wrap .i64 (B + 6)) fun B=>Zcf (Zbd C (.ptr (D.length,0 + 0)) [.int .u8 (((B:Nat):Int))]) fun B=>J5 Q h.length 0 A.length 0 D.length 0 B) (J5 Q h.length 0 A.length 0 D.length 0 C)):Zad pg Zhw [.agg [.int .u8 x0x0,.slice a0x1 n0x1 c0x1 e0x1]] h Q:=
 Zad.of_body kp (c:=cod fn) (fn:=fn) Go.Proofs.Try.func77 (by kernel_rfl) (by kernel_rfl) (Nat.le_of_ble_eq_true (by kernel_rfl))
  (cast (by kernel_rfl) ht)
end Zed
end Go.Sim
