/- A part of the proof of a statement of this seat: see the text that holds the theorem. No condition. -/
import Derived.Test.YtflfcofeedjblaaGreatNm
set_option linter.unusedVariables false
set_option linter.unusedSimpArgs false
set_option linter.all false
set_option maxRecDepth 100000
set_option maxHeartbeats 0
set_option linter.unusedVariables false
namespace Go.Sim
open Go Go.RowKit
namespace Zdp
noncomputable abbrev fn:Func:=Go.Proofs.Tryz.f5
def kp:Zcj:=[(4000003,[0,1]),(3000012,[5,6,1,10,8,4]),(1000012,[1,5,6,7,8,10,53,54,55]),(4000015,[5,7,12,55,54,53,10,6,1,8]),(4000017,[55,54,53,10,7,5,6,1,8])]
noncomputable def C (p:List Nat):Code:=(cod fn).sub p
def KR (Q:QT):KT:=Zfb pg fn.results.toList Q
abbrev T12:=Pt→Nat→Nat→Bool→Nat→Nat→Nat→Nat→Int→Pt→Nat→Nat→Bool→Bool→Pt→Nat→Nat→Bool→Int→Int→Zaa→Prop
def E12 (R12:T12) (env:Env) (h:Zaa):Prop:=Zbw 1 env fun v env=>xSl v fun a1 n1 c1 e1=>Zbw 5 env fun v env=>Zhh v fun a=>Zbm a fun i5 o5=>Zbw 6 env fun v env=>Zhh v fun a=>Zbm a fun i6 o6=>Zbw 7 env fun v env=>Zee .i64 v fun x7=>Zbw 8 env fun v env=>xSl v fun a8 n8 c8 e8=>Zbw 10 env fun v env=>Zbx v fun x10=>Zbw 53 env fun v env=>xSl v fun a53 n53 c53 e53=>Zbw 54 env fun v env=>Zee .i64 v fun x54=>Zbw 55 env fun v env=>Zee .i64 v fun x55=>Zkh env (R12 a1 n1 c1 e1 i5 o5 i6 o6 x7 a8 n8 c8 e8 x10 a53 n53 c53 e53 x54 x55 h)
theorem Zzj {R12:T12} {env:Env} {h:Zaa} (hi:E12 R12 env h):∃ a1,∃ n1,∃ c1,∃ e1,∃ i5,∃ o5,∃ i6,∃ o6,∃ x7,∃ a8,∃ n8,∃ c8,∃ e8,∃ x10,∃ a53,∃ n53,∃ c53,∃ e53,∃ x54,∃ x55,env=[(1,.slice a1 n1 c1 e1),(5,.ptr (i5,o5)),(6,.ptr (i6,o6)),(7,.int .i64 x7),(8,.slice a8 n8 c8 e8),(10,.bool x10),(53,.slice a53 n53 c53 e53),(54,.int .i64 x54),(55,.int .i64 x55)]∧R12 a1 n1 c1 e1 i5 o5 i6 o6 x7 a8 n8 c8 e8 x10 a53 n53 c53 e53 x54 x55 h:=by
 unfold E12 at hi
 have hi0:=hi
 clear hi
 obtain ⟨_,_,rfl,hi1⟩:=Zak hi0
 obtain ⟨a1,n1,c1,e1,rfl,hi2⟩:=Zby hi1
 obtain ⟨_,_,rfl,hi3⟩:=Zak hi2
 obtain ⟨a,rfl,hi4⟩:=Zbt hi3
 obtain ⟨i5,o5,rfl,hi5⟩:=Zbn hi4
 obtain ⟨_,_,rfl,hi6⟩:=Zak hi5
 obtain ⟨a,rfl,hi7⟩:=Zbt hi6
 obtain ⟨i6,o6,rfl,hi8⟩:=Zbn hi7
 obtain ⟨_,_,rfl,hi9⟩:=Zak hi8
 obtain ⟨x7,rfl,hi10⟩:=Zax hi9
 obtain ⟨_,_,rfl,hi11⟩:=Zak hi10
 obtain ⟨a8,n8,c8,e8,rfl,hi12⟩:=Zby hi11
 obtain ⟨_,_,rfl,hi13⟩:=Zak hi12
 obtain ⟨x10,rfl,hi14⟩:=Zlq hi13
 obtain ⟨_,_,rfl,hi15⟩:=Zak hi14
 obtain ⟨a53,n53,c53,e53,rfl,hi16⟩:=Zby hi15
 obtain ⟨_,_,rfl,hi17⟩:=Zak hi16
 obtain ⟨x54,rfl,hi18⟩:=Zax hi17
 obtain ⟨_,_,rfl,hi19⟩:=Zak hi18
 obtain ⟨x55,rfl,hi20⟩:=Zax hi19
 obtain ⟨rfl,hi21⟩:=Zbp hi20
 have hi:=hi21
 exact ⟨a1,n1,c1,e1,i5,o5,i6,o6,x7,a8,n8,c8,e8,x10,a53,n53,c53,e53,x54,x55,rfl,hi⟩
def K0 (Q:QT):KT:=andThen (fun env' h'=>(match kp.find 4000018 with | some ks=>Den pg fn.ntmps (C [1,1,1,1,1,1,1,1,1]) (env'.keep ks) h' (KR Q) | none=>den pg fn.ntmps kp (C [1,1,1,1,1,1,1,1,1]) env' h' (KR Q))) (KR Q)
def K1 (Q:QT):KT:=Zcs 0 (K0 Q)
def K2 (Q:QT):KT:=left kp 12 (K1 Q)
def K3 (Q:QT) (R12:T12):KT:=rnd ((kp.find 1000012).getD []) (E12 R12) (K2 Q)
def K4 (Q:QT) (R12:T12):KT:=andThen (fun env' h'=>(match kp.find 4000017 with | some ks=>Den pg fn.ntmps (C [1,1,1,1,1,1,1,1,0,1,0,0,1,1,1]) (env'.keep ks) h' (K3 Q R12) | none=>den pg fn.ntmps kp (C [1,1,1,1,1,1,1,1,0,1,0,0,1,1,1]) env' h' (K3 Q R12))) (K3 Q R12)
def K5 (Q:QT) (R12:T12):KT:=Zcs 1 (K4 Q R12)
def J3 (Q:QT) (a0:Pt) (n0 c0:Nat) (e0:Bool) (a1:Pt) (n1 c1:Nat) (e1:Bool) (h:Zaa):Prop:=Den pg fn.ntmps (C [1,1]) [(0,.slice a0 n0 c0 e0),(1,.slice a1 n1 c1 e1)] h (KR Q)
def L12 (Q:QT) (a1:Pt) (n1 c1:Nat) (e1:Bool) (i5 o5 i6 o6:Nat) (x7:Int) (a8:Pt) (n8 c8:Nat) (e8 x10:Bool) (a53:Pt) (n53 c53:Nat) (e53:Bool) (x54 x55:Int) (h:Zaa):Prop:=Zet (Den pg fn.ntmps (C [1,1,1,1,1,1,1,1,0,1,0,0])) ((kp.find 1000012).getD []) (K2 Q) [(1,.slice a1 n1 c1 e1),(5,.ptr (i5,o5)),(6,.ptr (i6,o6)),(7,.int .i64 x7),(8,.slice a8 n8 c8 e8),(10,.bool x10),(53,.slice a53 n53 c53 e53),(54,.int .i64 x54),(55,.int .i64 x55)] h
def J15 (Q:QT) (R12:T12) (i5 o5:Nat) (x7 x12 x55 x54:Int) (a53:Pt) (n53 c53:Nat) (e53 x10:Bool) (i6 o6:Nat) (a1:Pt) (n1 c1:Nat) (e1:Bool) (a8:Pt) (n8 c8:Nat) (e8:Bool) (h:Zaa):Prop:=Den pg fn.ntmps (C [1,1,1,1,1,1,1,1,0,1,0,0,1,1,0,0,1,1]) [(5,.ptr (i5,o5)),(7,.int .i64 x7),(12,.int .i64 x12),(55,.int .i64 x55),(54,.int .i64 x54),(53,.slice a53 n53 c53 e53),(10,.bool x10),(6,.ptr (i6,o6)),(1,.slice a1 n1 c1 e1),(8,.slice a8 n8 c8 e8)] h (K5 Q R12)
def Ytj (Q:QT) (i5 o5 i6 o6:Nat) (a1:Pt) (n1 c1:Nat) (e1 x10:Bool) (a8:Pt) (n8 c8:Nat) (e8:Bool) (h:Zaa):Prop:=At (K1 Q) (.exit 0) [(5,.ptr (i5,o5)),(6,.ptr (i6,o6)),(1,.slice a1 n1 c1 e1),(10,.bool x10),(8,.slice a8 n8 c8 e8),(4,.undef)] h
def J17 (Q:QT) (R12:T12) (x55 x54:Int) (a53:Pt) (n53 c53:Nat) (e53 x10:Bool) (x7:Int) (i5 o5 i6 o6:Nat) (a1:Pt) (n1 c1:Nat) (e1:Bool) (a8:Pt) (n8 c8:Nat) (e8:Bool) (h:Zaa):Prop:=Den pg fn.ntmps (C [1,1,1,1,1,1,1,1,0,1,0,0,1,1,1]) [(55,.int .i64 x55),(54,.int .i64 x54),(53,.slice a53 n53 c53 e53),(10,.bool x10),(7,.int .i64 x7),(5,.ptr (i5,o5)),(6,.ptr (i6,o6)),(1,.slice a1 n1 c1 e1),(8,.slice a8 n8 c8 e8)] h (K3 Q R12)
theorem J3i (Q:QT) (a0:Pt) (n0 c0:Nat) (e0:Bool) (a1:Pt) (n1 c1:Nat) (e1:Bool) (h:Zaa) (ht :
 Zah pg Zhj [.slice a0 n0 c0 e0] h fun A B=>
 Zny A fun A=>Zaj A fun A C=>Znt A fun A=>Zaj A fun A D=>xSl A fun A E F G=>Zaj D fun D H=>xSl D fun D I J K=>Zbv H (Zaj C fun C H=>Znt C fun C=>Zaj C fun C L=>Zbg C fun C=>Zaj L fun L M=>Zbg L fun L=>Zbv M (Zbv H (Zck (B ++ [.cells Zab [.slice none 0 0 true,.slice none 0 0 true] false]) fun H=>Zck (H ++ [.cells Zad [.str [],.str []] false]) fun M=>Zbu (Zbb M (.ptr (B.length,0)) [.slice A E F G,.slice D I J K]) fun A=>Zbu (Zbb A (.ptr (H.length,0)) [.str C,.str L]) fun A=>Zco (Zbj A (.ptr (B.length,0)) 2) fun C=>Zaj C fun C D=>xSl C fun C E F G=>Zaj D fun D I=>xSl D fun D J K L=>Zbv I (Zco (Zbj A (.ptr (H.length,0)) 2) fun I=>Zaj I fun I M=>Zbg I fun I=>Zaj M fun M N=>Zbg M fun M=>Zbv N (Zah pg Zks [.agg [.slice C E F G,.slice D J K L],.agg [.str I,.str M]] A fun A C=>
 Zdo .i64 A fun A=>Zco (Zbj C (.ptr (B.length,0)) 2) fun D=>Zaj D fun D E=>xSl D fun D F G I=>Zaj E fun E J=>xSl E fun E K L M=>Zbv J (Zco (Zbj C (.ptr (H.length,0)) 2) fun J=>Zaj J fun J N=>Zbg J fun J=>Zaj N fun N O=>Zbg N fun N=>Zbv O (Zah pg Zko [.agg [.slice D F G I,.slice E K L M],.agg [.str J,.str N]] C fun C D=>
 Zdo .i64 C fun C=>bcase (!((A:Int) == C)) (Q (.bool false) D) (Zco (Zbj D (.ptr (B.length,0)) 2) fun C=>Zaj C fun C E=>xSl C fun C F G I=>Zaj E fun E J=>xSl E fun E K L M=>Zbv J (Zco (Zbj D (.ptr (H.length,0)) 2) fun J=>Zaj J fun J N=>Zbg J fun J=>Zaj N fun N O=>Zbg N fun N=>Zbv O (Zah pg Zgt [.agg [.slice C F G I,.slice E K L M],.agg [.str J,.str N]] D fun C D=>
 Zny C fun C=>Zaj C fun C E=>xSl C fun C F G I=>Zaj E fun E J=>Zbx E fun E=>Zbv J (bcase (decide ((A:Int) < 0)) (Q (.bool (!((((F:Nat):Int):Int) == 1))) D) (L12 Q a1 n1 c1 e1 B.length 0 H.length 0 A C F G I false C F G I (((F:Nat):Int)) 0 D))))))))))))):J3 Q a0 n0 c0 e0 a1 n1 c1 e1 h:=
 Zba (kp:=kp) (cast (by kernel_rfl) ht)
def L12t (Q:QT) (R12:T12) (a1:Pt) (n1 c1:Nat) (e1:Bool) (i5 o5 i6 o6:Nat) (x7:Int) (a8:Pt) (n8 c8:Nat) (e8 x10:Bool) (a53:Pt) (n53 c53:Nat) (e53:Bool) (x54 x55:Int) (h:Zaa):Prop:=
 bcase (decide ((x55:Int) < x54)) ((0≤(x55:Int)∧(x55:Int) < (n53:Nat))∧(Zbm a53 fun A B=>Zdo .i64 (Zag h (.ptr (A,B + (Int.toNat x55) * 1))) fun A=>bcase x10 (J15 Q R12 i5 o5 x7 A x55 x54 a53 n53 c53 e53 true i6 o6 a1 n1 c1 e1 a8 n8 c8 e8 h) (J15 Q R12 i5 o5 x7 A x55 x54 a53 n53 c53 e53 ((A:Int) == x7) i6 o6 a1 n1 c1 e1 a8 n8 c8 e8 h))) (Ytj Q i5 o5 i6 o6 a1 n1 c1 e1 x10 a8 n8 c8 e8 h)
theorem Ynu (Q:QT) (R12:T12) (a1:Pt) (n1 c1:Nat) (e1:Bool) (i5 o5 i6 o6:Nat) (x7:Int) (a8:Pt) (n8 c8:Nat) (e8 x10:Bool) (a53:Pt) (n53 c53:Nat) (e53:Bool) (x54 x55:Int) (h:Zaa) (ht:L12t Q R12 a1 n1 c1 e1 i5 o5 i6 o6 x7 a8 n8 c8 e8 x10 a53 n53 c53 e53 x54 x55 h):Den pg fn.ntmps (C [1,1,1,1,1,1,1,1,0,1,0,0]) [(1,.slice a1 n1 c1 e1),(5,.ptr (i5,o5)),(6,.ptr (i6,o6)),(7,.int .i64 x7),(8,.slice a8 n8 c8 e8),(10,.bool x10),(53,.slice a53 n53 c53 e53),(54,.int .i64 x54),(55,.int .i64 x55)] h (K3 Q R12):=
 Zba (kp:=kp) (cast (by kernel_rfl) ht)
theorem L12ind (Q:QT) (a1:Pt) (n1 c1:Nat) (e1:Bool) (i5 o5 i6 o6:Nat) (x7:Int) (a8:Pt) (n8 c8:Nat) (e8:Bool) (a53:Pt) (n53 c53:Nat) (e53:Bool) (x54:Int) {G:Type} (J:G→Bool→Int→Zaa→Prop) (m:G→Nat)
 (hr:∀ (g:G) (x10:Bool) (x55:Int) (h:Zaa),J g x10 x55 h→∀ (R12:T12),(∀ g' (x10:Bool) (x55:Int) (h:Zaa),m g' < m g→J g' x10 x55 h→R12 a1 n1 c1 e1 i5 o5 i6 o6 x7 a8 n8 c8 e8 x10 a53 n53 c53 e53 x54 x55 h)→L12t Q R12 a1 n1 c1 e1 i5 o5 i6 o6 x7 a8 n8 c8 e8 x10 a53 n53 c53 e53 x54 x55 h)
 (g:G) (x10:Bool) (x55:Int) (h:Zaa) (hj:J g x10 x55 h):L12 Q a1 n1 c1 e1 i5 o5 i6 o6 x7 a8 n8 c8 e8 x10 a53 n53 c53 e53 x54 x55 h:=by
 let P:=fun (K:Bool→Int→Zaa→Prop) a1' n1' c1' e1' i5' o5' i6' o6' x7' a8' n8' c8' e8' x10 a53' n53' c53' e53' x54' x55 h=>a1=a1'∧n1=n1'∧c1=c1'∧e1=e1'∧i5=i5'∧o5=o5'∧i6=i6'∧o6=o6'∧x7=x7'∧a8=a8'∧n8=n8'∧c8=c8'∧e8=e8'∧a53=a53'∧n53=n53'∧c53=c53'∧e53=e53'∧x54=x54'∧K x10 x55 h
 refine Zet.inv2 (fun g=>E12 (P (J g))) (fun g=>E12 (P fun x10 x55 h=>∃ g',m g' < m g∧J g' x10 x55 h)) m ?_ ?_ g ⟨rfl,rfl,rfl,rfl,rfl,rfl,rfl,rfl,rfl,rfl,rfl,rfl,rfl,rfl,rfl,rfl,rfl,rfl,hj⟩
 ·intro g env h hi
  obtain ⟨a1',n1',c1',e1',i5',o5',i6',o6',x7',a8',n8',c8',e8',x10,a53',n53',c53',e53',x54',x55,rfl,rfl,rfl,rfl,rfl,rfl,rfl,rfl,rfl,rfl,rfl,rfl,rfl,rfl,rfl,rfl,rfl,rfl,rfl,hj⟩:=Zzj hi
  exact Ynu Q _ a1 n1 c1 e1 i5 o5 i6 o6 x7 a8 n8 c8 e8 x10 a53 n53 c53 e53 x54 x55 h (hr g x10 x55 h hj (P fun x10 x55 h=>∃ g',m g' < m g∧J g' x10 x55 h) fun g' x10 x55 h hlt hj=>⟨rfl,rfl,rfl,rfl,rfl,rfl,rfl,rfl,rfl,rfl,rfl,rfl,rfl,rfl,rfl,rfl,rfl,rfl,g',hlt,hj⟩)
 ·intro g env h hi
  obtain ⟨a1',n1',c1',e1',i5',o5',i6',o6',x7',a8',n8',c8',e8',x10,a53',n53',c53',e53',x54',x55,rfl,rfl,rfl,rfl,rfl,rfl,rfl,rfl,rfl,rfl,rfl,rfl,rfl,rfl,rfl,rfl,rfl,rfl,rfl,g',hlt,hj⟩:=Zzj hi
  exact ⟨g',hlt,rfl,rfl,rfl,rfl,rfl,rfl,rfl,rfl,rfl,rfl,rfl,rfl,rfl,rfl,rfl,rfl,rfl,rfl,hj⟩
theorem J15i (Q:QT) (R12:T12) (i5 o5:Nat) (x7 x12 x55 x54:Int) (a53:Pt) (n53 c53:Nat) (e53 x10:Bool) (i6 o6:Nat) (a1:Pt) (n1 c1:Nat) (e1:Bool) (a8:Pt) (n8 c8:Nat) (e8:Bool) (h:Zaa) (ht :
 Zco (Zbj h (.ptr (i5,o5)) 2) fun A=>Zaj A fun A B=>xSl A fun A C D E=>Zaj B fun B F=>xSl B fun B G H I=>Zbv F (Zah pg Zfp [.agg [.slice A C D E,.slice B G H I],.int .i64 x7,.int .i64 x12] h fun A B=>
 Zbx A fun A=>bcase (!A) (Q (.bool false) B) (J17 Q R12 x55 x54 a53 n53 c53 e53 x10 x7 i5 o5 i6 o6 a1 n1 c1 e1 a8 n8 c8 e8 B))):J15 Q R12 i5 o5 x7 x12 x55 x54 a53 n53 c53 e53 x10 i6 o6 a1 n1 c1 e1 a8 n8 c8 e8 h:=
 Zba (kp:=kp) (cast (by kernel_rfl) ht)
theorem A12x0i (Q:QT) (i5 o5 i6 o6:Nat) (a1:Pt) (n1 c1:Nat) (e1 x10:Bool) (a8:Pt) (n8 c8:Nat) (e8:Bool) (h:Zaa) (ht :
 Zco (Zbj h (.ptr (i5,o5)) 2) fun A=>Zaj A fun A B=>xSl A fun A C D E=>Zaj B fun B F=>xSl B fun B G H I=>Zbv F (Zbg (Zag h (.ptr (i6,o6 + 0))) fun F=>Zah pg Zgz [.agg [.slice A C D E,.slice B G H I],.str F] h fun A B=>
 Zny A fun A=>Zaj A fun A C=>xSl A fun A A D D=>Zaj C fun C D=>Zbx C fun C=>Zbv D (Zah pg Zgu [.slice a1 n1 c1 e1] B fun B D=>
 Zny B fun B=>Zaj B fun B E=>Znt B fun B=>Zaj B fun B F=>xSl B fun B G H I=>Zaj F fun F J=>xSl F fun F K L M=>Zbv J (Zaj E fun E J=>Zbg E fun E=>Zbv J (Zck (D ++ [.cells Zab [.slice none 0 0 true,.slice none 0 0 true] false]) fun J=>Zbu (Zbb J (.ptr (D.length,0)) [.slice B G H I,.slice F K L M]) fun B=>Zco (Zbj B (.ptr (D.length,0)) 2) fun F=>Zaj F fun F G=>xSl F fun F H I J=>Zaj G fun G K=>xSl G fun G L M N=>Zbv K (Zah pg Zgz [.agg [.slice F H I J,.slice G L M N],.str E] B fun B F=>
 Zny B fun B=>Zaj B fun B G=>xSl B fun B H I J=>Zaj G fun G K=>Zbx G fun G=>Zbv K (Zco (Zbj F (.ptr (D.length,0)) 2) fun D=>Zaj D fun D K=>xSl D fun D L M N=>Zaj K fun K O=>xSl K fun K P R S=>Zbv O (Zah pg Zjz [.agg [.slice D L M N,.slice K P R S],.str E] F fun D E=>
 Zny D fun D=>Zaj D fun D F=>xSl D fun D K L M=>Zaj F fun F N=>Zbx F fun F=>Zbv N (bcase x10 (bcase C (bcase (decide (((((A:Nat):Int)):Int) ≥ (((n8:Nat):Int)))) (Zah pg Zqi [.slice B H I J,.slice D K L M] E fun A B=>
 Zbx A fun A=>bcase A (Q (.bool (G == F)) B) (Q (.bool false) B)) (Q (.bool false) E)) (Q (.bool false) E)) (Q (.bool false) E)))))))))):Ytj Q i5 o5 i6 o6 a1 n1 c1 e1 x10 a8 n8 c8 e8 h:=
 At.mk (cast (by kernel_rfl) ht)
theorem J17i (Q:QT) (R12:T12) (x55 x54:Int) (a53:Pt) (n53 c53:Nat) (e53 x10:Bool) (x7:Int) (i5 o5 i6 o6:Nat) (a1:Pt) (n1 c1:Nat) (e1:Bool) (a8:Pt) (n8 c8:Nat) (e8:Bool) (h:Zaa) (ht :
 R12 a1 n1 c1 e1 i5 o5 i6 o6 x7 a8 n8 c8 e8 x10 a53 n53 c53 e53 x54 (IntKind.wrap .i64 (x55 + 1)) h):J17 Q R12 x55 x54 a53 n53 c53 e53 x10 x7 i5 o5 i6 o6 a1 n1 c1 e1 a8 n8 c8 e8 h:=
 Zba (kp:=kp) (cast (by kernel_rfl) ht)
theorem call (a0:Pt) (n0 c0:Nat) (e0:Bool) (a1:Pt) (n1 c1:Nat) (e1:Bool) (h:Zaa) (Q:QT) (ht :
 bcase (decide (((((n0:Nat):Int)):Int) > 1048576)) (Q (.bool true) h) (bcase (decide (((((n1:Nat):Int)):Int) > 1048576)) (Q (.bool true) h) (J3 Q a0 n0 c0 e0 a1 n1 c1 e1 h))):Zah pg Zmy [.slice a0 n0 c0 e0,.slice a1 n1 c1 e1] h Q:=
 Zah.of_body kp (c:=cod fn) (fn:=fn) Go.Proofs.Tryz.func5 (by kernel_rfl) (by kernel_rfl) (Nat.le_of_ble_eq_true (by kernel_rfl))
  (cast (by kernel_rfl) ht)
end Zdp
end Go.Sim

set_option maxRecDepth 100000
set_option maxHeartbeats 0
set_option linter.unusedVariables false
namespace Go.Sim
open Go Go.RowKit
namespace Zdd
noncomputable abbrev fn:Func:=Go.Proofs.Tryz.f3
def kp:Zcj:=[(3000008,[6,3,4,5,2]),(1000008,[3,4,5,6,35,36]),(4000012,[3,7,36,35,6,5,4]),(4000014,[36,35,6,3,5,4]),(3000020,[10,11]),(1000020,[5,10,11,76,77,78]),(4000023,[78,77,76,11,5,10])]
noncomputable def C (p:List Nat):Code:=(cod fn).sub p
def KR (Q:QT):KT:=Zfb pg fn.results.toList Q
abbrev T8:=Nat→Nat→Int→Int→Bool→Int→Int→Zaa→Prop
def E8 (R8:T8) (env:Env) (h:Zaa):Prop:=Zbw 3 env fun v env=>Zhh v fun a=>Zbm a fun i3 o3=>Zbw 4 env fun v env=>Zee .i64 v fun x4=>Zbw 5 env fun v env=>Zee .i64 v fun x5=>Zbw 6 env fun v env=>Zbx v fun x6=>Zbw 35 env fun v env=>Zee .i64 v fun x35=>Zbw 36 env fun v env=>Zee .i64 v fun x36=>Zkh env (R8 i3 o3 x4 x5 x6 x35 x36 h)
theorem Yee {R8:T8} {env:Env} {h:Zaa} (hi:E8 R8 env h):∃ i3,∃ o3,∃ x4,∃ x5,∃ x6,∃ x35,∃ x36,env=[(3,.ptr (i3,o3)),(4,.int .i64 x4),(5,.int .i64 x5),(6,.bool x6),(35,.int .i64 x35),(36,.int .i64 x36)]∧R8 i3 o3 x4 x5 x6 x35 x36 h:=by
 unfold E8 at hi
 have hi0:=hi
 clear hi
 obtain ⟨_,_,rfl,hi1⟩:=Zak hi0
 obtain ⟨a,rfl,hi2⟩:=Zbt hi1
 obtain ⟨i3,o3,rfl,hi3⟩:=Zbn hi2
 obtain ⟨_,_,rfl,hi4⟩:=Zak hi3
 obtain ⟨x4,rfl,hi5⟩:=Zax hi4
 obtain ⟨_,_,rfl,hi6⟩:=Zak hi5
 obtain ⟨x5,rfl,hi7⟩:=Zax hi6
 obtain ⟨_,_,rfl,hi8⟩:=Zak hi7
 obtain ⟨x6,rfl,hi9⟩:=Zlq hi8
 obtain ⟨_,_,rfl,hi10⟩:=Zak hi9
 obtain ⟨x35,rfl,hi11⟩:=Zax hi10
 obtain ⟨_,_,rfl,hi12⟩:=Zak hi11
 obtain ⟨x36,rfl,hi13⟩:=Zax hi12
 obtain ⟨rfl,hi14⟩:=Zbp hi13
 have hi:=hi14
 exact ⟨i3,o3,x4,x5,x6,x35,x36,rfl,hi⟩
abbrev T20:=Int→Bool→Bool→Pt→Nat→Nat→Bool→Int→Int→Zaa→Prop
def E20 (R20:T20) (env:Env) (h:Zaa):Prop:=Zbw 5 env fun v env=>Zee .i64 v fun x5=>Zbw 10 env fun v env=>Zbx v fun x10=>Zbw 11 env fun v env=>Zbx v fun x11=>Zbw 76 env fun v env=>xSl v fun a76 n76 c76 e76=>Zbw 77 env fun v env=>Zee .i64 v fun x77=>Zbw 78 env fun v env=>Zee .i64 v fun x78=>Zkh env (R20 x5 x10 x11 a76 n76 c76 e76 x77 x78 h)
theorem Yky {R20:T20} {env:Env} {h:Zaa} (hi:E20 R20 env h):∃ x5,∃ x10,∃ x11,∃ a76,∃ n76,∃ c76,∃ e76,∃ x77,∃ x78,env=[(5,.int .i64 x5),(10,.bool x10),(11,.bool x11),(76,.slice a76 n76 c76 e76),(77,.int .i64 x77),(78,.int .i64 x78)]∧R20 x5 x10 x11 a76 n76 c76 e76 x77 x78 h:=by
 unfold E20 at hi
 repeat ((first | (have k:=Zak hi; clear hi; obtain ⟨_,_,e,hi⟩:=k) | (have k:=Zax hi; clear hi; obtain ⟨_,e,hi⟩:=k) | (have k:=Zlq hi; clear hi; obtain ⟨_,e,hi⟩:=k) | (have k:=Zby hi; clear hi; obtain ⟨_,_,_,_,e,hi⟩:=k)); subst e)
 obtain ⟨rfl,hi⟩:=Zbp hi
 exact ⟨_,_,_,_,_,_,_,_,_,rfl,hi⟩
def K0 (Q:QT):KT:=andThen (fun env' h'=>(match kp.find 4000015 with | some ks=>Den pg fn.ntmps (C [1,1,1,1,1,1]) (env'.keep ks) h' (KR Q) | none=>den pg fn.ntmps kp (C [1,1,1,1,1,1]) env' h' (KR Q))) (KR Q)
def K1 (Q:QT):KT:=Zcs 0 (K0 Q)
def K2 (Q:QT):KT:=left kp 8 (K1 Q)
def K3 (Q:QT) (R8:T8):KT:=rnd ((kp.find 1000008).getD []) (E8 R8) (K2 Q)
def K4 (Q:QT) (R8:T8):KT:=andThen (fun env' h'=>(match kp.find 4000014 with | some ks=>Den pg fn.ntmps (C [1,1,1,1,1,0,1,0,0,1,1,1]) (env'.keep ks) h' (K3 Q R8) | none=>den pg fn.ntmps kp (C [1,1,1,1,1,0,1,0,0,1,1,1]) env' h' (K3 Q R8))) (K3 Q R8)
def K5 (Q:QT) (R8:T8):KT:=Zcs 1 (K4 Q R8)
def K6 (Q:QT):KT:=andThen (fun env' h'=>(match kp.find 4000025 with | some ks=>Den pg fn.ntmps (C [1,1,1,1,1,1,1]) (env'.keep ks) h' (KR Q) | none=>den pg fn.ntmps kp (C [1,1,1,1,1,1,1]) env' h' (KR Q))) (KR Q)
def K7 (Q:QT):KT:=andThen (fun env' h'=>(match kp.find 4000024 with | some ks=>Den pg fn.ntmps (C [1,1,1,1,1,1,0,1,0,1,1,1,1]) (env'.keep ks) h' (K6 Q) | none=>den pg fn.ntmps kp (C [1,1,1,1,1,1,0,1,0,1,1,1,1]) env' h' (K6 Q))) (K6 Q)
def K8 (Q:QT):KT:=Zcs 2 (K7 Q)
def K9 (Q:QT):KT:=left kp 20 (K8 Q)
def K10 (Q:QT) (R20:T20):KT:=rnd ((kp.find 1000020).getD []) (E20 R20) (K9 Q)
def L8 (Q:QT) (i3 o3:Nat) (x4 x5:Int) (x6:Bool) (x35 x36:Int) (h:Zaa):Prop:=Zet (Den pg fn.ntmps (C [1,1,1,1,1,0,1,0,0])) ((kp.find 1000008).getD []) (K2 Q) [(3,.ptr (i3,o3)),(4,.int .i64 x4),(5,.int .i64 x5),(6,.bool x6),(35,.int .i64 x35),(36,.int .i64 x36)] h
def J12 (Q:QT) (R8:T8) (i3 o3:Nat) (x7 x36 x35:Int) (x6:Bool) (x5 x4:Int) (h:Zaa):Prop:=Den pg fn.ntmps (C [1,1,1,1,1,0,1,0,0,1,1,0,0,1,1]) [(3,.ptr (i3,o3)),(7,.int .i64 x7),(36,.int .i64 x36),(35,.int .i64 x35),(6,.bool x6),(5,.int .i64 x5),(4,.int .i64 x4)] h (K5 Q R8)
def Yuu (Q:QT) (x6:Bool) (i3 o3:Nat) (x4 x5:Int) (h:Zaa):Prop:=At (K1 Q) (.exit 0) [(6,.bool x6),(3,.ptr (i3,o3)),(4,.int .i64 x4),(5,.int .i64 x5),(2,.undef)] h
def J14 (Q:QT) (R8:T8) (x36 x35:Int) (x6:Bool) (i3 o3:Nat) (x5 x4:Int) (h:Zaa):Prop:=Den pg fn.ntmps (C [1,1,1,1,1,0,1,0,0,1,1,1]) [(36,.int .i64 x36),(35,.int .i64 x35),(6,.bool x6),(3,.ptr (i3,o3)),(5,.int .i64 x5),(4,.int .i64 x4)] h (K3 Q R8)
def L20 (Q:QT) (x5:Int) (x10 x11:Bool) (a76:Pt) (n76 c76:Nat) (e76:Bool) (x77 x78:Int) (h:Zaa):Prop:=Zet (Den pg fn.ntmps (C [1,1,1,1,1,1,0,1,0,1,1,1,0,1,0,0])) ((kp.find 1000020).getD []) (K9 Q) [(5,.int .i64 x5),(10,.bool x10),(11,.bool x11),(76,.slice a76 n76 c76 e76),(77,.int .i64 x77),(78,.int .i64 x78)] h
def J23 (Q:QT) (R20:T20) (x78 x77:Int) (a76:Pt) (n76 c76:Nat) (e76 x11:Bool) (x5:Int) (x10:Bool) (h:Zaa):Prop:=Den pg fn.ntmps (C [1,1,1,1,1,1,0,1,0,1,1,1,0,1,0,0,1,1,1]) [(78,.int .i64 x78),(77,.int .i64 x77),(76,.slice a76 n76 c76 e76),(11,.bool x11),(5,.int .i64 x5),(10,.bool x10)] h (K10 Q R20)
def Ysw (Q:QT) (x10 x11:Bool) (h:Zaa):Prop:=At (K8 Q) (.exit 2) [(10,.bool x10),(11,.bool x11)] h
def L8t (Q:QT) (R8:T8) (i3 o3:Nat) (x4 x5:Int) (x6:Bool) (x35 x36:Int) (h:Zaa):Prop:=
 bcase (decide ((x36:Int) < x35)) (bcase x6 (Zco (Zbj h (.ptr (i3,o3)) 2) fun A=>Zaj A fun A B=>xSl A fun A C D E=>Zaj B fun B F=>xSl B fun B G H I=>Zbv F (Zah pg Zfp [.agg [.slice A C D E,.slice B G H I],.int .i64 x5,.int .i64 x36] h fun A B=>
 Zbx A fun A=>bcase A (Zco (Zbj B (.ptr (i3,o3)) 2) fun A=>Zaj A fun A C=>xSl A fun A D E F=>Zaj C fun C G=>xSl C fun C H I J=>Zbv G (Zah pg Zfp [.agg [.slice A D E F,.slice C H I J],.int .i64 x4,.int .i64 x36] B fun A C=>
 Zbx A fun A=>bcase (!A) (Q (.bool false) C) (J12 Q R8 i3 o3 x36 x36 x35 x6 x5 x4 C))) (J12 Q R8 i3 o3 x36 x36 x35 x6 x5 x4 B))) (J12 Q R8 i3 o3 x36 x36 x35 x6 x5 x4 h)) (Yuu Q x6 i3 o3 x4 x5 h)
theorem Yrn (Q:QT) (R8:T8) (i3 o3:Nat) (x4 x5:Int) (x6:Bool) (x35 x36:Int) (h:Zaa) (ht:L8t Q R8 i3 o3 x4 x5 x6 x35 x36 h):Den pg fn.ntmps (C [1,1,1,1,1,0,1,0,0]) [(3,.ptr (i3,o3)),(4,.int .i64 x4),(5,.int .i64 x5),(6,.bool x6),(35,.int .i64 x35),(36,.int .i64 x36)] h (K3 Q R8):=
 Zba (kp:=kp) (cast (by kernel_rfl) ht)
theorem L8ind (Q:QT) (i3 o3:Nat) (x4 x5:Int) (x6:Bool) (x35:Int) {G:Type} (J:G→Int→Zaa→Prop) (m:G→Nat)
 (hr:∀ (g:G) (x36:Int) (h:Zaa),J g x36 h→∀ (R8:T8),(∀ g' (x36:Int) (h:Zaa),m g' < m g→J g' x36 h→R8 i3 o3 x4 x5 x6 x35 x36 h)→L8t Q R8 i3 o3 x4 x5 x6 x35 x36 h)
 (g:G) (x36:Int) (h:Zaa) (hj:J g x36 h):L8 Q i3 o3 x4 x5 x6 x35 x36 h:=by
 let P:=fun (K:Int→Zaa→Prop) i3' o3' x4' x5' x6' x35' x36 h=>i3=i3'∧o3=o3'∧x4=x4'∧x5=x5'∧x6=x6'∧x35=x35'∧K x36 h
 refine Zet.inv2 (fun g=>E8 (P (J g))) (fun g=>E8 (P fun x36 h=>∃ g',m g' < m g∧J g' x36 h)) m ?_ ?_ g ⟨rfl,rfl,rfl,rfl,rfl,rfl,hj⟩
 ·intro g env h hi
  obtain ⟨i3',o3',x4',x5',x6',x35',x36,rfl,rfl,rfl,rfl,rfl,rfl,rfl,hj⟩:=Yee hi
  exact Yrn Q _ i3 o3 x4 x5 x6 x35 x36 h (hr g x36 h hj (P fun x36 h=>∃ g',m g' < m g∧J g' x36 h) fun g' x36 h hlt hj=>⟨rfl,rfl,rfl,rfl,rfl,rfl,g',hlt,hj⟩)
 ·intro g env h hi
  obtain ⟨i3',o3',x4',x5',x6',x35',x36,rfl,rfl,rfl,rfl,rfl,rfl,rfl,g',hlt,hj⟩:=Yee hi
  exact ⟨g',hlt,rfl,rfl,rfl,rfl,rfl,rfl,hj⟩
theorem J12i (Q:QT) (R8:T8) (i3 o3:Nat) (x7 x36 x35:Int) (x6:Bool) (x5 x4:Int) (h:Zaa) (ht :
 Zco (Zbj h (.ptr (i3,o3)) 2) fun A=>Zaj A fun A B=>xSl A fun A C D E=>Zaj B fun B F=>xSl B fun B G H I=>Zbv F (Zah pg Zfg [.agg [.slice A C D E,.slice B G H I]] h fun A B=>
 Zbx A fun A=>bcase A (Zco (Zbj B (.ptr (i3,o3)) 2) fun A=>Zaj A fun A C=>xSl A fun A D E F=>Zaj C fun C G=>xSl C fun C H I J=>Zbv G (Zah pg Zfp [.agg [.slice A D E F,.slice C H I J],.int .i64 x7,.int .i64 x7] B fun A C=>
 Zbx A fun A=>bcase (!A) (Q (.bool false) C) (J14 Q R8 x36 x35 x6 i3 o3 x5 x4 C))) (J14 Q R8 x36 x35 x6 i3 o3 x5 x4 B))):J12 Q R8 i3 o3 x7 x36 x35 x6 x5 x4 h:=
 Zba (kp:=kp) (cast (by kernel_rfl) ht)
theorem A8x0i (Q:QT) (x6:Bool) (i3 o3:Nat) (x4 x5:Int) (h:Zaa) (ht :
 bcase x6 (xSl (Zag h (.ptr (i3,o3 + 1))) fun A B C C=>(0≤(x4:Int)∧(x4:Int) < (B:Nat))∧(Zbm A fun A B=>Zco (Zbj h (.ptr (A,B + (Int.toNat x4) * 3 + 0)) 2) fun A=>Zaj A fun A B=>Zbg A fun A=>Zaj B fun B C=>Zbg B fun B=>Zbv C (Zck (h ++ [.cells Zad [.str [],.str []] false]) fun C=>Zbu (Zbb C (.ptr (h.length,0)) [.str A,.str B]) fun A=>Zco (Zbj A (.ptr (i3,o3)) 2) fun B=>Zaj B fun B C=>xSl B fun B D E F=>Zaj C fun C G=>xSl C fun C H I J=>Zbv G (Zco (Zbj A (.ptr (h.length,0)) 2) fun G=>Zaj G fun G K=>Zbg G fun G=>Zaj K fun K L=>Zbg K fun K=>Zbv L (Zah pg Zgt [.agg [.slice B D E F,.slice C H I J],.agg [.str G,.str K]] A fun A B=>
 Zny A fun A=>Zaj A fun A C=>xSl A fun A D E F=>Zaj C fun C G=>Zbx C fun C=>Zbv G (L20 Q x5 C false A D E F (((D:Nat):Int)) 0 B)))))) (Q (.bool true) h)):Yuu Q x6 i3 o3 x4 x5 h:=
 At.mk (cast (by kernel_rfl) ht)
theorem J14i (Q:QT) (R8:T8) (x36 x35:Int) (x6:Bool) (i3 o3:Nat) (x5 x4:Int) (h:Zaa) (ht :
 R8 i3 o3 x4 x5 x6 x35 (IntKind.wrap .i64 (x36 + 1)) h):J14 Q R8 x36 x35 x6 i3 o3 x5 x4 h:=
 Zba (kp:=kp) (cast (by kernel_rfl) ht)
def L20t (Q:QT) (R20:T20) (x5:Int) (x10 x11:Bool) (a76:Pt) (n76 c76:Nat) (e76:Bool) (x77 x78:Int) (h:Zaa):Prop:=
 bcase (decide ((x78:Int) < x77)) ((0≤(x78:Int)∧(x78:Int) < (n76:Nat))∧(Zbm a76 fun A B=>Zdo .i64 (Zag h (.ptr (A,B + (Int.toNat x78) * 1))) fun A=>bcase x11 (J23 Q R20 x78 x77 a76 n76 c76 e76 true x5 x10 h) (J23 Q R20 x78 x77 a76 n76 c76 e76 ((A:Int) == x5) x5 x10 h))) (Ysw Q x10 x11 h)
theorem Ytd (Q:QT) (R20:T20) (x5:Int) (x10 x11:Bool) (a76:Pt) (n76 c76:Nat) (e76:Bool) (x77 x78:Int) (h:Zaa) (ht:L20t Q R20 x5 x10 x11 a76 n76 c76 e76 x77 x78 h):Den pg fn.ntmps (C [1,1,1,1,1,1,0,1,0,1,1,1,0,1,0,0]) [(5,.int .i64 x5),(10,.bool x10),(11,.bool x11),(76,.slice a76 n76 c76 e76),(77,.int .i64 x77),(78,.int .i64 x78)] h (K10 Q R20):=
 Zba (kp:=kp) (cast (by kernel_rfl) ht)
theorem L20ind (Q:QT) (x5:Int) (x10:Bool) (a76:Pt) (n76 c76:Nat) (e76:Bool) (x77:Int) {G:Type} (J:G→Bool→Int→Zaa→Prop) (m:G→Nat)
 (hr:∀ (g:G) (x11:Bool) (x78:Int) (h:Zaa),J g x11 x78 h→∀ (R20:T20),(∀ g' (x11:Bool) (x78:Int) (h:Zaa),m g' < m g→J g' x11 x78 h→R20 x5 x10 x11 a76 n76 c76 e76 x77 x78 h)→L20t Q R20 x5 x10 x11 a76 n76 c76 e76 x77 x78 h)
 (g:G) (x11:Bool) (x78:Int) (h:Zaa) (hj:J g x11 x78 h):L20 Q x5 x10 x11 a76 n76 c76 e76 x77 x78 h:=by
 let P:=fun (K:Bool→Int→Zaa→Prop) x5' x10' x11 a76' n76' c76' e76' x77' x78 h=>x5=x5'∧x10=x10'∧a76=a76'∧n76=n76'∧c76=c76'∧e76=e76'∧x77=x77'∧K x11 x78 h
 refine Zet.inv2 (fun g=>E20 (P (J g))) (fun g=>E20 (P fun x11 x78 h=>∃ g',m g' < m g∧J g' x11 x78 h)) m ?_ ?_ g ⟨rfl,rfl,rfl,rfl,rfl,rfl,rfl,hj⟩
 ·intro g env h hi
  obtain ⟨x5',x10',x11,a76',n76',c76',e76',x77',x78,rfl,rfl,rfl,rfl,rfl,rfl,rfl,rfl,hj⟩:=Yky hi
  exact Ytd Q _ x5 x10 x11 a76 n76 c76 e76 x77 x78 h (hr g x11 x78 h hj (P fun x11 x78 h=>∃ g',m g' < m g∧J g' x11 x78 h) fun g' x11 x78 h hlt hj=>⟨rfl,rfl,rfl,rfl,rfl,rfl,rfl,g',hlt,hj⟩)
 ·intro g env h hi
  obtain ⟨x5',x10',x11,a76',n76',c76',e76',x77',x78,rfl,rfl,rfl,rfl,rfl,rfl,rfl,rfl,g',hlt,hj⟩:=Yky hi
  exact ⟨g',hlt,rfl,rfl,rfl,rfl,rfl,rfl,rfl,hj⟩
theorem J23i (Q:QT) (R20:T20) (x78 x77:Int) (a76:Pt) (n76 c76:Nat) (e76 x11:Bool) (x5:Int) (x10:Bool) (h:Zaa) (ht :
 R20 x5 x10 x11 a76 n76 c76 e76 x77 (IntKind.wrap .i64 (x78 + 1)) h):J23 Q R20 x78 x77 a76 n76 c76 e76 x11 x5 x10 h:=
 Zba (kp:=kp) (cast (by kernel_rfl) ht)
theorem A20x2i (Q:QT) (x10 x11:Bool) (h:Zaa) (ht :
 bcase x10 (Q (.bool x11) h) (Q (.bool false) h)):Ysw Q x10 x11 h:=
 At.mk (cast (by kernel_rfl) ht)
theorem call (a0:Pt) (n0 c0:Nat) (e0:Bool) (h:Zaa) (Q:QT) (ht :
 bcase (decide (((((n0:Nat):Int)):Int) > 1048576)) (Q (.bool true) h) (Zah pg Zis [.slice a0 n0 c0 e0] h fun A B=>
 Zny A fun A=>Zaj A fun A C=>Znt A fun A=>Zaj A fun A D=>xSl A fun A E F G=>Zaj D fun D H=>xSl D fun D I J K=>Zbv H (Zaj C fun C H=>Zdo .i64 C fun C=>Zaj H fun H L=>Zdo .i64 H fun H=>Zbv L (Zck (B ++ [.cells Zab [.slice none 0 0 true,.slice none 0 0 true] false]) fun L=>Zbu (Zbb L (.ptr (B.length,0)) [.slice A E F G,.slice D I J K]) fun A=>Zco (Zbj A (.ptr (B.length,0)) 2) fun D=>Zaj D fun D E=>xSl D fun D F G I=>Zaj E fun E J=>xSl E fun E K L M=>Zbv J (Zah pg Zfp [.agg [.slice D F G I,.slice E K L M],.int .i64 C,.int .i64 H] A fun A D=>
 Zbx A fun A=>Zco (Zbj D (.ptr (B.length,0)) 2) fun E=>Zaj E fun E F=>xSl E fun E G I J=>Zaj F fun F K=>xSl F fun F L M N=>Zbv K (Zah pg Zjq [.agg [.slice E G I J,.slice F L M N],.int .i64 C,.int .i64 H] D fun D E=>
 Zbx D fun D=>bcase (!(A == D)) (Q (.bool false) E) (xSl (Zag E (.ptr (B.length,0 + 1))) fun D D F F=>L8 Q B.length 0 C H A (((D:Nat):Int)) 0 E))))))):Zah pg Zrd [.slice a0 n0 c0 e0] h Q:=
 Zah.of_body kp (c:=cod fn) (fn:=fn) Go.Proofs.Tryz.func3 (by kernel_rfl) (by kernel_rfl) (Nat.le_of_ble_eq_true (by kernel_rfl))
  (cast (by kernel_rfl) ht)
end Zdd
end Go.Sim

set_option maxRecDepth 100000
set_option maxHeartbeats 0
set_option linter.unusedVariables false
namespace Go.Sim
open Go Go.RowKit
namespace Zjj
noncomputable abbrev fn:Func:=Go.Proofs.Tryz.f14
def kp:Zcj:=[(3000002,[0,1,4]),(1000002,[0,1,10,11]),(2000004,[22,11,10,0,1])]
noncomputable def C (p:List Nat):Code:=(cod fn).sub p
def KR (Q:QT):KT:=Zfb pg fn.results.toList Q
abbrev T2:=Pt→Nat→Nat→Bool→Pt→Nat→Nat→Bool→Int→Int→Zaa→Prop
def E2 (R2:T2) (env:Env) (h:Zaa):Prop:=Zbw 0 env fun v env=>xSl v fun a0 n0 c0 e0=>Zbw 1 env fun v env=>xSl v fun a1 n1 c1 e1=>Zbw 10 env fun v env=>Zee .i64 v fun x10=>Zbw 11 env fun v env=>Zee .i64 v fun x11=>Zkh env (R2 a0 n0 c0 e0 a1 n1 c1 e1 x10 x11 h)
theorem Zek {R2:T2} {env:Env} {h:Zaa} (hi:E2 R2 env h):∃ a0,∃ n0,∃ c0,∃ e0,∃ a1,∃ n1,∃ c1,∃ e1,∃ x10,∃ x11,env=[(0,.slice a0 n0 c0 e0),(1,.slice a1 n1 c1 e1),(10,.int .i64 x10),(11,.int .i64 x11)]∧R2 a0 n0 c0 e0 a1 n1 c1 e1 x10 x11 h:=by
 unfold E2 at hi
 repeat ((first | (have k:=Zak hi; clear hi; obtain ⟨_,_,e,hi⟩:=k) | (have k:=Zax hi; clear hi; obtain ⟨_,e,hi⟩:=k) | (have k:=Zby hi; clear hi; obtain ⟨_,_,_,_,e,hi⟩:=k)); subst e)
 obtain ⟨rfl,hi⟩:=Zbp hi
 exact ⟨_,_,_,_,_,_,_,_,_,_,rfl,hi⟩
def K0 (Q:QT):KT:=andThen (fun env' h'=>(match kp.find 4000007 with | some ks=>Den pg fn.ntmps (C [1,1]) (env'.keep ks) h' (KR Q) | none=>den pg fn.ntmps kp (C [1,1]) env' h' (KR Q))) (KR Q)
def K1 (Q:QT):KT:=Zcs 0 (K0 Q)
def K2 (Q:QT):KT:=left kp 2 (K1 Q)
def K3 (Q:QT) (R2:T2):KT:=rnd ((kp.find 1000002).getD []) (E2 R2) (K2 Q)
def L2 (Q:QT) (a0:Pt) (n0 c0:Nat) (e0:Bool) (a1:Pt) (n1 c1:Nat) (e1:Bool) (x10 x11:Int) (h:Zaa):Prop:=Zet (Den pg fn.ntmps (C [1,0,1,0,0])) ((kp.find 1000002).getD []) (K2 Q) [(0,.slice a0 n0 c0 e0),(1,.slice a1 n1 c1 e1),(10,.int .i64 x10),(11,.int .i64 x11)] h
def Zom (Q:QT) (a0:Pt) (n0 c0:Nat) (e0:Bool) (a1:Pt) (n1 c1:Nat) (e1:Bool) (h:Zaa):Prop:=At (K1 Q) (.exit 0) [(0,.slice a0 n0 c0 e0),(1,.slice a1 n1 c1 e1),(4,.undef)] h
def L2t (Q:QT) (R2:T2) (a0:Pt) (n0 c0:Nat) (e0:Bool) (a1:Pt) (n1 c1:Nat) (e1:Bool) (x10 x11:Int) (h:Zaa):Prop:=
 bcase (decide ((x11:Int) < x10)) ((0≤(x11:Int)∧(x11:Int) < (n0:Nat))∧(Zbm a0 fun A B=>(0≤(x11:Int)∧(x11:Int) < (n1:Nat))∧(Zbm a1 fun C D=>Zco (Zbj h (.ptr (A,B + (Int.toNat x11) * 2)) 2) fun E=>Zaj E fun E F=>Zbg E fun E=>Zaj F fun F G=>Zbg F fun F=>Zbv G (Zco (Zbj h (.ptr (C,D + (Int.toNat x11) * 2)) 2) fun C=>Zaj C fun C D=>Zbg C fun C=>Zaj D fun D G=>Zbg D fun D=>Zbv G ((Zbj h (.ptr (A,B + (Int.toNat x11) * 2)) 2=Zbj h (.ptr (A,B + (Int.toNat x11) * 2)) 2)∧bcase (!((decide (E=C)) && (decide (F=D)))) (Q (.bool false) h) (R2 a0 n0 c0 e0 a1 n1 c1 e1 x10 (IntKind.wrap .i64 (x11 + 1)) h)))))) (Zom Q a0 n0 c0 e0 a1 n1 c1 e1 h)
theorem Zld (Q:QT) (R2:T2) (a0:Pt) (n0 c0:Nat) (e0:Bool) (a1:Pt) (n1 c1:Nat) (e1:Bool) (x10 x11:Int) (h:Zaa) (ht:L2t Q R2 a0 n0 c0 e0 a1 n1 c1 e1 x10 x11 h):Den pg fn.ntmps (C [1,0,1,0,0]) [(0,.slice a0 n0 c0 e0),(1,.slice a1 n1 c1 e1),(10,.int .i64 x10),(11,.int .i64 x11)] h (K3 Q R2):=
 Zba (kp:=kp) (cast (by kernel_rfl) ht)
theorem L2ind (Q:QT) (a0:Pt) (n0 c0:Nat) (e0:Bool) (a1:Pt) (n1 c1:Nat) (e1:Bool) (x10:Int) {G:Type} (J:G→Int→Zaa→Prop) (m:G→Nat)
 (hr:∀ (g:G) (x11:Int) (h:Zaa),J g x11 h→∀ (R2:T2),(∀ g' (x11:Int) (h:Zaa),m g' < m g→J g' x11 h→R2 a0 n0 c0 e0 a1 n1 c1 e1 x10 x11 h)→L2t Q R2 a0 n0 c0 e0 a1 n1 c1 e1 x10 x11 h)
 (g:G) (x11:Int) (h:Zaa) (hj:J g x11 h):L2 Q a0 n0 c0 e0 a1 n1 c1 e1 x10 x11 h:=by
 let P:=fun (K:Int→Zaa→Prop) a0' n0' c0' e0' a1' n1' c1' e1' x10' x11 h=>a0=a0'∧n0=n0'∧c0=c0'∧e0=e0'∧a1=a1'∧n1=n1'∧c1=c1'∧e1=e1'∧x10=x10'∧K x11 h
 refine Zet.inv2 (fun g=>E2 (P (J g))) (fun g=>E2 (P fun x11 h=>∃ g',m g' < m g∧J g' x11 h)) m ?_ ?_ g ⟨rfl,rfl,rfl,rfl,rfl,rfl,rfl,rfl,rfl,hj⟩
 ·intro g env h hi
  obtain ⟨a0',n0',c0',e0',a1',n1',c1',e1',x10',x11,rfl,rfl,rfl,rfl,rfl,rfl,rfl,rfl,rfl,rfl,hj⟩:=Zek hi
  exact Zld Q _ a0 n0 c0 e0 a1 n1 c1 e1 x10 x11 h (hr g x11 h hj (P fun x11 h=>∃ g',m g' < m g∧J g' x11 h) fun g' x11 h hlt hj=>⟨rfl,rfl,rfl,rfl,rfl,rfl,rfl,rfl,rfl,g',hlt,hj⟩)
 ·intro g env h hi
  obtain ⟨a0',n0',c0',e0',a1',n1',c1',e1',x10',x11,rfl,rfl,rfl,rfl,rfl,rfl,rfl,rfl,rfl,rfl,g',hlt,hj⟩:=Zek hi
  exact ⟨g',hlt,rfl,rfl,rfl,rfl,rfl,rfl,rfl,rfl,rfl,hj⟩
theorem A2x0i (Q:QT) (a0:Pt) (n0 c0:Nat) (e0:Bool) (a1:Pt) (n1 c1:Nat) (e1:Bool) (h:Zaa) (ht :
 Q (.bool ((((n0:Nat):Int):Int) == (((n1:Nat):Int)))) h):Zom Q a0 n0 c0 e0 a1 n1 c1 e1 h:=
 At.mk (cast (by kernel_rfl) ht)
theorem call (a0:Pt) (n0 c0:Nat) (e0:Bool) (a1:Pt) (n1 c1:Nat) (e1:Bool) (h:Zaa) (Q:QT) (ht :
 L2 Q a0 n0 c0 e0 a1 n1 c1 e1 (if (((n1:Nat):Int):Int) < (((n0:Nat):Int)) then ((n1:Nat):Int) else ((n0:Nat):Int)) 0 h):Zah pg Zhg [.slice a0 n0 c0 e0,.slice a1 n1 c1 e1] h Q:=
 Zah.of_body kp (c:=cod fn) (fn:=fn) Go.Proofs.Tryz.func14 (by kernel_rfl) (by kernel_rfl) (Nat.le_of_ble_eq_true (by kernel_rfl))
  (cast (by kernel_rfl) ht)
end Zjj
namespace Zec
noncomputable abbrev fn:Func:=Go.Proofs.Tryz.f17
def kp:Zcj:=[(3000002,[4]),(1000002,[0,1,9,10]),(3000006,[6,10,9,1,0]),(1000006,[0,1,5,6,9,10,14,15]),(2000008,[15,14,6,0,5,1,10,9]),(4000009,[15,14,6,0,5,1,10,9])]
noncomputable def C (p:List Nat):Code:=(cod fn).sub p
def KR (Q:QT):KT:=Zfb pg fn.results.toList Q
abbrev T2:=List Nat→List Nat→Int→Int→Zaa→Prop
def E2 (R2:T2) (env:Env) (h:Zaa):Prop:=Zbw 0 env fun v env=>Zbg v fun x0=>Zbw 1 env fun v env=>Zbg v fun x1=>Zbw 9 env fun v env=>Zee .i64 v fun x9=>Zbw 10 env fun v env=>Zee .i64 v fun x10=>Zkh env (R2 x0 x1 x9 x10 h)
theorem Zek {R2:T2} {env:Env} {h:Zaa} (hi:E2 R2 env h):∃ x0,∃ x1,∃ x9,∃ x10,env=[(0,.str x0),(1,.str x1),(9,.int .i64 x9),(10,.int .i64 x10)]∧R2 x0 x1 x9 x10 h:=by
 unfold E2 at hi
 repeat ((first | (have k:=Zak hi; clear hi; obtain ⟨_,_,e,hi⟩:=k) | (have k:=Zax hi; clear hi; obtain ⟨_,e,hi⟩:=k) | (have k:=Zfe hi; clear hi; obtain ⟨_,e,hi⟩:=k)); subst e)
 obtain ⟨rfl,hi⟩:=Zbp hi
 exact ⟨_,_,_,_,rfl,hi⟩
abbrev T6:=List Nat→List Nat→Int→Bool→Int→Int→Int→Int→Zaa→Prop
def E6 (R6:T6) (env:Env) (h:Zaa):Prop:=Zbw 0 env fun v env=>Zbg v fun x0=>Zbw 1 env fun v env=>Zbg v fun x1=>Zbw 5 env fun v env=>Zee .i64 v fun x5=>Zbw 6 env fun v env=>Zbx v fun x6=>Zbw 9 env fun v env=>Zee .i64 v fun x9=>Zbw 10 env fun v env=>Zee .i64 v fun x10=>Zbw 14 env fun v env=>Zee .i64 v fun x14=>Zbw 15 env fun v env=>Zee .i64 v fun x15=>Zkh env (R6 x0 x1 x5 x6 x9 x10 x14 x15 h)
theorem Zme {R6:T6} {env:Env} {h:Zaa} (hi:E6 R6 env h):∃ x0,∃ x1,∃ x5,∃ x6,∃ x9,∃ x10,∃ x14,∃ x15,env=[(0,.str x0),(1,.str x1),(5,.int .i64 x5),(6,.bool x6),(9,.int .i64 x9),(10,.int .i64 x10),(14,.int .i64 x14),(15,.int .i64 x15)]∧R6 x0 x1 x5 x6 x9 x10 x14 x15 h:=by
 unfold E6 at hi
 repeat ((first | (have k:=Zak hi; clear hi; obtain ⟨_,_,e,hi⟩:=k) | (have k:=Zax hi; clear hi; obtain ⟨_,e,hi⟩:=k) | (have k:=Zlq hi; clear hi; obtain ⟨_,e,hi⟩:=k) | (have k:=Zfe hi; clear hi; obtain ⟨_,e,hi⟩:=k)); subst e)
 obtain ⟨rfl,hi⟩:=Zbp hi
 exact ⟨_,_,_,_,_,_,_,_,rfl,hi⟩
def K0 (Q:QT):KT:=andThen (fun env' h'=>(match kp.find 4000013 with | some ks=>Den pg fn.ntmps (C [1,1]) (env'.keep ks) h' (KR Q) | none=>den pg fn.ntmps kp (C [1,1]) env' h' (KR Q))) (KR Q)
def K1 (Q:QT):KT:=Zcs 0 (K0 Q)
def K2 (Q:QT):KT:=left kp 2 (K1 Q)
def K3 (Q:QT) (R2:T2):KT:=rnd ((kp.find 1000002).getD []) (E2 R2) (K2 Q)
def K4 (Q:QT) (R2:T2):KT:=andThen (fun env' h'=>(match kp.find 4000012 with | some ks=>Den pg fn.ntmps (C [1,0,1,0,0,1,1,1]) (env'.keep ks) h' (K3 Q R2) | none=>den pg fn.ntmps kp (C [1,0,1,0,0,1,1,1]) env' h' (K3 Q R2))) (K3 Q R2)
def K5 (Q:QT) (R2:T2):KT:=Zcs 1 (K4 Q R2)
def K6 (Q:QT) (R2:T2):KT:=andThen (fun env' h'=>(match kp.find 4000010 with | some ks=>Den pg fn.ntmps (C [1,0,1,0,0,1,1,0,0,1,1,1]) (env'.keep ks) h' (K5 Q R2) | none=>den pg fn.ntmps kp (C [1,0,1,0,0,1,1,0,0,1,1,1]) env' h' (K5 Q R2))) (K5 Q R2)
def K7 (Q:QT) (R2:T2):KT:=Zcs 2 (K6 Q R2)
def K8 (Q:QT) (R2:T2):KT:=left kp 6 (K7 Q R2)
def K9 (Q:QT) (R2:T2) (R6:T6):KT:=rnd ((kp.find 1000006).getD []) (E6 R6) (K8 Q R2)
def L2 (Q:QT) (x0 x1:List Nat) (x9 x10:Int) (h:Zaa):Prop:=Zet (Den pg fn.ntmps (C [1,0,1,0,0])) ((kp.find 1000002).getD []) (K2 Q) [(0,.str x0),(1,.str x1),(9,.int .i64 x9),(10,.int .i64 x10)] h
def L6 (Q:QT) (R2:T2) (x0 x1:List Nat) (x5:Int) (x6:Bool) (x9 x10 x14 x15:Int) (h:Zaa):Prop:=Zet (Den pg fn.ntmps (C [1,0,1,0,0,1,1,0,0,1,1,0,1,0,0])) ((kp.find 1000006).getD []) (K8 Q R2) [(0,.str x0),(1,.str x1),(5,.int .i64 x5),(6,.bool x6),(9,.int .i64 x9),(10,.int .i64 x10),(14,.int .i64 x14),(15,.int .i64 x15)] h
def Zom (Q:QT) (h:Zaa):Prop:=At (K1 Q) (.exit 0) [(4,.undef)] h
def J9 (Q:QT) (R2:T2) (R6:T6) (x15 x14:Int) (x6:Bool) (x0:List Nat) (x5:Int) (x1:List Nat) (x10 x9:Int) (h:Zaa):Prop:=Den pg fn.ntmps (C [1,0,1,0,0,1,1,0,0,1,1,0,1,0,0,1,1,1]) [(15,.int .i64 x15),(14,.int .i64 x14),(6,.bool x6),(0,.str x0),(5,.int .i64 x5),(1,.str x1),(10,.int .i64 x10),(9,.int .i64 x9)] h (K9 Q R2 R6)
def Yuv (Q:QT) (R2:T2) (x6:Bool) (x10 x9:Int) (x1 x0:List Nat) (h:Zaa):Prop:=At (K7 Q R2) (.exit 2) [(6,.bool x6),(10,.int .i64 x10),(9,.int .i64 x9),(1,.str x1),(0,.str x0)] h
def L2t (Q:QT) (R2:T2) (x0 x1:List Nat) (x9 x10:Int) (h:Zaa):Prop:=
 bcase (decide ((x10:Int) < x9)) (L6 Q R2 x0 x1 x10 false x9 x10 (((List.length x1:Nat):Int)) 0 h) (Zom Q h)
theorem Zld (Q:QT) (R2:T2) (x0 x1:List Nat) (x9 x10:Int) (h:Zaa) (ht:L2t Q R2 x0 x1 x9 x10 h):Den pg fn.ntmps (C [1,0,1,0,0]) [(0,.str x0),(1,.str x1),(9,.int .i64 x9),(10,.int .i64 x10)] h (K3 Q R2):=
 Zba (kp:=kp) (cast (by kernel_rfl) ht)
theorem L2ind (Q:QT) (x0 x1:List Nat) (x9:Int) {G:Type} (J:G→Int→Zaa→Prop) (m:G→Nat)
 (hr:∀ (g:G) (x10:Int) (h:Zaa),J g x10 h→∀ (R2:T2),(∀ g' (x10:Int) (h:Zaa),m g' < m g→J g' x10 h→R2 x0 x1 x9 x10 h)→L2t Q R2 x0 x1 x9 x10 h)
 (g:G) (x10:Int) (h:Zaa) (hj:J g x10 h):L2 Q x0 x1 x9 x10 h:=by
 let P:=fun (K:Int→Zaa→Prop) x0' x1' x9' x10 h=>x0=x0'∧x1=x1'∧x9=x9'∧K x10 h
 refine Zet.inv2 (fun g=>E2 (P (J g))) (fun g=>E2 (P fun x10 h=>∃ g',m g' < m g∧J g' x10 h)) m ?_ ?_ g ⟨rfl,rfl,rfl,hj⟩
 ·intro g env h hi
  obtain ⟨x0',x1',x9',x10,rfl,rfl,rfl,rfl,hj⟩:=Zek hi
  exact Zld Q _ x0 x1 x9 x10 h (hr g x10 h hj (P fun x10 h=>∃ g',m g' < m g∧J g' x10 h) fun g' x10 h hlt hj=>⟨rfl,rfl,rfl,g',hlt,hj⟩)
 ·intro g env h hi
  obtain ⟨x0',x1',x9',x10,rfl,rfl,rfl,rfl,g',hlt,hj⟩:=Zek hi
  exact ⟨g',hlt,rfl,rfl,rfl,hj⟩
def L6t (Q:QT) (R2:T2) (R6:T6) (x0 x1:List Nat) (x5:Int) (x6:Bool) (x9 x10 x14 x15:Int) (h:Zaa):Prop:=
 bcase (decide ((x15:Int) < x14)) (bcase x6 (J9 Q R2 R6 x15 x14 true x0 x5 x1 x10 x9 h) (Zir x0 x5 fun A=>Zir x1 x15 fun B=>J9 Q R2 R6 x15 x14 ((((A:Nat):Int):Int) == (((B:Nat):Int))) x0 x5 x1 x10 x9 h)) (Yuv Q R2 x6 x10 x9 x1 x0 h)
theorem Zzm (Q:QT) (R2:T2) (R6:T6) (x0 x1:List Nat) (x5:Int) (x6:Bool) (x9 x10 x14 x15:Int) (h:Zaa) (ht:L6t Q R2 R6 x0 x1 x5 x6 x9 x10 x14 x15 h):Den pg fn.ntmps (C [1,0,1,0,0,1,1,0,0,1,1,0,1,0,0]) [(0,.str x0),(1,.str x1),(5,.int .i64 x5),(6,.bool x6),(9,.int .i64 x9),(10,.int .i64 x10),(14,.int .i64 x14),(15,.int .i64 x15)] h (K9 Q R2 R6):=
 Zba (kp:=kp) (cast (by kernel_rfl) ht)
theorem L6ind (Q:QT) (R2:T2) (x0 x1:List Nat) (x5 x9 x10 x14:Int) {G:Type} (J:G→Bool→Int→Zaa→Prop) (m:G→Nat)
 (hr:∀ (g:G) (x6:Bool) (x15:Int) (h:Zaa),J g x6 x15 h→∀ (R6:T6),(∀ g' (x6:Bool) (x15:Int) (h:Zaa),m g' < m g→J g' x6 x15 h→R6 x0 x1 x5 x6 x9 x10 x14 x15 h)→L6t Q R2 R6 x0 x1 x5 x6 x9 x10 x14 x15 h)
 (g:G) (x6:Bool) (x15:Int) (h:Zaa) (hj:J g x6 x15 h):L6 Q R2 x0 x1 x5 x6 x9 x10 x14 x15 h:=by
 let P:=fun (K:Bool→Int→Zaa→Prop) x0' x1' x5' x6 x9' x10' x14' x15 h=>x0=x0'∧x1=x1'∧x5=x5'∧x9=x9'∧x10=x10'∧x14=x14'∧K x6 x15 h
 refine Zet.inv2 (fun g=>E6 (P (J g))) (fun g=>E6 (P fun x6 x15 h=>∃ g',m g' < m g∧J g' x6 x15 h)) m ?_ ?_ g ⟨rfl,rfl,rfl,rfl,rfl,rfl,hj⟩
 ·intro g env h hi
  obtain ⟨x0',x1',x5',x6,x9',x10',x14',x15,rfl,rfl,rfl,rfl,rfl,rfl,rfl,hj⟩:=Zme hi
  exact Zzm Q R2 (P fun x6 x15 h=>∃ g',m g' < m g∧J g' x6 x15 h) x0 x1 x5 x6 x9 x10 x14 x15 h (hr g x6 x15 h hj (P fun x6 x15 h=>∃ g',m g' < m g∧J g' x6 x15 h) fun g' x6 x15 h hlt hj=>⟨rfl,rfl,rfl,rfl,rfl,rfl,g',hlt,hj⟩)
 ·intro g env h hi
  obtain ⟨x0',x1',x5',x6,x9',x10',x14',x15,rfl,rfl,rfl,rfl,rfl,rfl,rfl,g',hlt,hj⟩:=Zme hi
  exact ⟨g',hlt,rfl,rfl,rfl,rfl,rfl,rfl,hj⟩
theorem A2x0i (Q:QT) (h:Zaa) (ht :
 Q (.bool true) h):Zom Q h:=
 At.mk (cast (by kernel_rfl) ht)
theorem J9i (Q:QT) (R2:T2) (R6:T6) (x15 x14:Int) (x6:Bool) (x0:List Nat) (x5:Int) (x1:List Nat) (x10 x9:Int) (h:Zaa) (ht :
 R6 x0 x1 x5 x6 x9 x10 x14 (IntKind.wrap .i64 (x15 + 1)) h):J9 Q R2 R6 x15 x14 x6 x0 x5 x1 x10 x9 h:=
 Zba (kp:=kp) (cast (by kernel_rfl) ht)
theorem A6x2i (Q:QT) (R2:T2) (x6:Bool) (x10 x9:Int) (x1 x0:List Nat) (h:Zaa) (ht :
 bcase (!x6) (Q (.bool false) h) (R2 x0 x1 x9 (IntKind.wrap .i64 (x10 + 1)) h)):Yuv Q R2 x6 x10 x9 x1 x0 h:=
 At.mk (cast (by kernel_rfl) ht)
theorem call (x0 x1:List Nat) (h:Zaa) (Q:QT) (ht :
 L2 Q x0 x1 (((List.length x0:Nat):Int)) 0 h):Zah pg Zmn [.str x0,.str x1] h Q:=
 Zah.of_body kp (c:=cod fn) (fn:=fn) Go.Proofs.Tryz.func17 (by kernel_rfl) (by kernel_rfl) (Nat.le_of_ble_eq_true (by kernel_rfl))
  (cast (by kernel_rfl) ht)
end Zec
end Go.Sim

set_option maxRecDepth 100000
set_option maxHeartbeats 0
set_option linter.unusedVariables false
namespace Go.Sim
open Go Go.RowKit
namespace Zow
noncomputable abbrev fn:Func:=Go.Proofs.Tryz.f28
def kp:Zcj:=[(4000003,[0,3])]
noncomputable def C (p:List Nat):Code:=(cod fn).sub p
def KR (Q:QT):KT:=Zfb pg fn.results.toList Q
def J3 (Q:QT) (a0:Pt) (i3 o3:Nat) (h:Zaa):Prop:=Den pg fn.ntmps (C [1,1]) [(0,.ptr a0),(3,.ptr (i3,o3))] h (KR Q)
theorem J3i (Q:QT) (a0:Pt) (i3 o3:Nat) (h:Zaa) (ht :
 xSl (Zag h (.ptr (i3,o3 + 1))) fun A A B B=>Zah pg Zaz [.ptr a0,.int .i64 (((A:Nat):Int))] h fun A B=>
 Zdo .i64 A fun A=>Q (.int .i64 A) B):J3 Q a0 i3 o3 h:=
 Zba (kp:=kp) (cast (by kernel_rfl) ht)
theorem call (a0 a1x0:Pt) (n1x0 c1x0:Nat) (e1x0:Bool) (a1x1:Pt) (n1x1 c1x1:Nat) (e1x1:Bool) (h:Zaa) (Q:QT) (ht :
 Zck (h ++ [.cells Zab [.slice a1x0 n1x0 c1x0 e1x0,.slice a1x1 n1x1 c1x1 e1x1] false]) fun A=>xSl (Zag A (.ptr (h.length,0 + 1))) fun B B C C=>bcase ((((B:Nat):Int):Int) == 0) (Zck (A ++ [.cells Zfw [.int .i64 0,.int .i64 (-1),.int .i64 10,.int .i64 9223372036854775807] false]) fun B=>Zah pg Zdq [.ptr a0,.slice (A.length,0) 4 4 true] B fun B C=>
 Zdo .i64 B fun B=>Q (.int .i64 B) C) (Zah pg Zaz [.ptr a0,.int .i64 10] A fun A B=>
 Zdo .i64 A fun A=>bcase ((A:Int) == 0) (Zck (B ++ [.cells Zfw [.int .i64 0,.int .i64 (-1),.int .i64 10,.int .i64 9223372036854775807] false]) fun A=>Zah pg Zdq [.ptr a0,.slice (B.length,0) 4 4 true] A fun A C=>
 Zdo .i64 A fun A=>Q (.int .i64 A) C) (J3 Q a0 h.length 0 B))):Zah pg Zje [.ptr a0,.agg [.slice a1x0 n1x0 c1x0 e1x0,.slice a1x1 n1x1 c1x1 e1x1]] h Q:=
 Zah.of_body kp (c:=cod fn) (fn:=fn) Go.Proofs.Tryz.func28 (by kernel_rfl) (by kernel_rfl) (Nat.le_of_ble_eq_true (by kernel_rfl))
  (cast (by kernel_rfl) ht)
end Zow
namespace Zmx
noncomputable abbrev fn:Func:=Go.Proofs.Tryz.f6
def kp:Zcj:=[(2000004,[2,3,4])]
noncomputable def C (p:List Nat):Code:=(cod fn).sub p
def KR (Q:QT):KT:=Zfb pg fn.results.toList Q
theorem call (a0:Pt) (n0 c0:Nat) (e0:Bool) (h:Zaa) (Q:QT) (ht :
 Zck (h ++ [.cells Zab [.slice none 0 0 true,.slice none 0 0 true] false]) fun A=>Zah pg Zgi [.slice a0 n0 c0 e0] A fun A B=>
 Zhh A fun A=>Zah pg Zil [.ptr A] B fun B C=>
 Znt B fun B=>Zaj B fun B D=>xSl B fun B E F G=>Zaj D fun D H=>xSl D fun D I J K=>Zbv H (Zck (C ++ [.cells Zab [.slice none 0 0 true,.slice none 0 0 true] false]) fun H=>Zbu (Zbb H (.ptr (C.length,0)) [.slice B E F G,.slice D I J K]) fun B=>Zco (Zbj B (.ptr (C.length,0)) 2) fun D=>Zaj D fun D E=>xSl D fun D F G H=>Zaj E fun E I=>xSl E fun E J K L=>Zbv I (Zah pg Zje [.ptr A,.agg [.slice D F G H,.slice E J K L]] B fun B D=>
 Zdo .i64 B fun B=>Zco (Zbj D (.ptr (C.length,0)) 2) fun E=>Zaj E fun E F=>xSl E fun E G H I=>Zaj F fun F J=>xSl F fun F K L M=>Zbv J (Zco (Zbj D (.ptr (C.length,0)) 2) fun J=>Zaj J fun J N=>xSl J fun J O P R=>Zaj N fun N S=>xSl N fun N T U V=>Zbv S ((Zbj D (.ptr (C.length,0)) 2=Zbj D (.ptr (C.length,0)) 2)∧Zah pg Zje [.ptr A,.agg [.slice J O P R,.slice N T U V]] D fun A J=>
 Zdo .i64 A fun A=>(Zbj J (.ptr (C.length,0)) 2=Zbj D (.ptr (C.length,0)) 2)∧Zbu (Zbb J (.ptr (h.length,0)) [.slice E G H I,.slice F K L M]) fun C=>Zco (Zbj C (.ptr (h.length,0)) 2) fun D=>Zaj D fun D E=>xSl D fun D F G H=>Zaj E fun E I=>xSl E fun E J K L=>Zbv I (Q (.tup [.agg [.slice D F G H,.slice E J K L],.int .i64 B,.int .i64 A]) C)))))):Zah pg Zis [.slice a0 n0 c0 e0] h Q:=
 Zah.of_body kp (c:=cod fn) (fn:=fn) Go.Proofs.Tryz.func6 (by kernel_rfl) (by kernel_rfl) (Nat.le_of_ble_eq_true (by kernel_rfl))
  (cast (by kernel_rfl) ht)
end Zmx
namespace Zho
noncomputable abbrev fn:Func:=Go.Proofs.Tryz.f11
def kp:Zcj:=[(2000005,[2,3,4]),(4000006,[6,7,5,2]),(2000006,[2,3,4])]
noncomputable def C (p:List Nat):Code:=(cod fn).sub p
def KR (Q:QT):KT:=Zfb pg fn.results.toList Q
def J6 (Q:QT) (i6 o6:Nat) (x7:Int) (a5:Pt) (i2 o2:Nat) (h:Zaa):Prop:=Den pg fn.ntmps (C [1,1,1,1,1]) [(6,.ptr (i6,o6)),(7,.int .i64 x7),(5,.ptr a5),(2,.ptr (i2,o2))] h (KR Q)
theorem J6i (Q:QT) (i6 o6:Nat) (x7:Int) (a5:Pt) (i2 o2:Nat) (h:Zaa) (ht :
 Zco (Zbj h (.ptr (i6,o6)) 2) fun A=>Zaj A fun A B=>xSl A fun A C D E=>Zaj B fun B F=>xSl B fun B G H I=>Zbv F (Zah pg Zok [.ptr a5] h fun F J=>
 Zbg F fun F=>(Zbj J (.ptr (i6,o6)) 2=Zbj h (.ptr (i6,o6)) 2)∧Zbu (Zbb J (.ptr (i2,o2)) [.slice A C D E,.slice B G H I]) fun A=>Zco (Zbj A (.ptr (i2,o2)) 2) fun B=>Zaj B fun B C=>xSl B fun B D E G=>Zaj C fun C H=>xSl C fun C I J K=>Zbv H (Q (.tup [.agg [.slice B D E G,.slice C I J K],.int .i64 x7,.str F]) A))):J6 Q i6 o6 x7 a5 i2 o2 h:=
 Zba (kp:=kp) (cast (by kernel_rfl) ht)
theorem call (a0:Pt) (n0 c0:Nat) (e0:Bool) (h:Zaa) (Q:QT) (ht :
 Zck (h ++ [.cells Zab [.slice none 0 0 true,.slice none 0 0 true] false]) fun A=>Zah pg Zgi [.slice a0 n0 c0 e0] A fun A B=>
 Zhh A fun A=>Zah pg Zil [.ptr A] B fun B C=>
 Znt B fun B=>Zaj B fun B D=>xSl B fun B E F G=>Zaj D fun D H=>xSl D fun D I J K=>Zbv H (Zck (C ++ [.cells Zab [.slice none 0 0 true,.slice none 0 0 true] false]) fun H=>Zbu (Zbb H (.ptr (C.length,0)) [.slice B E F G,.slice D I J K]) fun B=>Zco (Zbj B (.ptr (C.length,0)) 2) fun D=>Zaj D fun D E=>xSl D fun D F G H=>Zaj E fun E I=>xSl E fun E J K L=>Zbv I (Zah pg Zje [.ptr A,.agg [.slice D F G H,.slice E J K L]] B fun B D=>
 Zdo .i64 B fun B=>xSl (Zag D (.ptr (C.length,0 + 1))) fun E E F F=>Zah pg Zig [.int .i64 B,.int .i64 0,.int .i64 (IntKind.wrap .i64 ((((E:Nat):Int)) - 1))] D fun D E=>
 Zbx D fun D=>bcase D (Zah pg Zaz [.ptr A,.int .i64 4] E fun D F=>
 Zdo .i64 D fun D=>bcase (decide ((D:Int) > 0)) (Zco (Zbj F (.ptr (C.length,0)) 2) fun D=>Zaj D fun D G=>xSl D fun D H I J=>Zaj G fun G K=>xSl G fun G L M N=>Zbv K (xSl (Zag F (.ptr (C.length,0 + 1))) fun K O P P=>(Zbj F (.ptr (C.length,0)) 2=Zbj F (.ptr (C.length,0)) 2)∧(0≤(B:Int)∧(B:Int) < (O:Nat))∧(Zbm K fun K O=>Zbg (Zag F (.ptr (K,O + (Int.toNat B) * 3 + 0 + 1))) fun K=>(Zbj F (.ptr (C.length,0)) 2=Zbj F (.ptr (C.length,0)) 2)∧Zah pg Zip [.ptr A,.str K] F fun K O=>
 Zbg K fun K=>(Zbj O (.ptr (C.length,0)) 2=Zbj F (.ptr (C.length,0)) 2)∧Zbu (Zbb O (.ptr (h.length,0)) [.slice D H I J,.slice G L M N]) fun D=>Zco (Zbj D (.ptr (h.length,0)) 2) fun G=>Zaj G fun G H=>xSl G fun G I J L=>Zaj H fun H M=>xSl H fun H N O P=>Zbv M (Q (.tup [.agg [.slice G I J L,.slice H N O P],.int .i64 B,.str K]) D)))) (J6 Q C.length 0 B A h.length 0 F)) (J6 Q C.length 0 B A h.length 0 E)))):Zah pg Zkz [.slice a0 n0 c0 e0] h Q:=
 Zah.of_body kp (c:=cod fn) (fn:=fn) Go.Proofs.Tryz.func11 (by kernel_rfl) (by kernel_rfl) (Nat.le_of_ble_eq_true (by kernel_rfl))
  (cast (by kernel_rfl) ht)
end Zho
end Go.Sim

set_option maxRecDepth 100000
set_option maxHeartbeats 0
set_option linter.unusedVariables false
namespace Go.Sim
open Go Go.RowKit
namespace Zih
noncomputable abbrev fn:Func:=Go.Proofs.Tryz.f51
def kp:Zcj:=[(2000004,[4,6,0,2,3]),(2000005,[2,3]),(4000006,[0,5,4,2,3]),(4000008,[4,5,2,3]),(2000008,[2,3])]
noncomputable def C (p:List Nat):Code:=(cod fn).sub p
def KR (Q:QT):KT:=Zfb pg fn.results.toList Q
def J6 (Q:QT) (a0:Pt) (i5 o5 i4 o4 i2 o2 i3 o3:Nat) (h:Zaa):Prop:=Den pg fn.ntmps (C [1,1,1,1]) [(0,.ptr a0),(5,.ptr (i5,o5)),(4,.ptr (i4,o4)),(2,.ptr (i2,o2)),(3,.ptr (i3,o3))] h (KR Q)
def J8 (Q:QT) (i4 o4 i5 o5 i2 o2 i3 o3:Nat) (h:Zaa):Prop:=Den pg fn.ntmps (C [1,1,1,1,1]) [(4,.ptr (i4,o4)),(5,.ptr (i5,o5)),(2,.ptr (i2,o2)),(3,.ptr (i3,o3))] h (KR Q)
theorem J6i (Q:QT) (a0:Pt) (i5 o5 i4 o4 i2 o2 i3 o3:Nat) (h:Zaa) (ht :
 Zah pg Zaz [.ptr a0,.int .i64 20] h fun A B=>
 Zdo .i64 A fun A=>bcase ((A:Int) == 0) (Zah pg Zok [.ptr a0] B fun A C=>
 Zbg A fun A=>Zbu (Zbb C (.ptr (i5,o5 + 1)) [.str A]) fun A=>J8 Q i4 o4 i5 o5 i2 o2 i3 o3 A) (J8 Q i4 o4 i5 o5 i2 o2 i3 o3 B)):J6 Q a0 i5 o5 i4 o4 i2 o2 i3 o3 h:=
 Zba (kp:=kp) (cast (by kernel_rfl) ht)
theorem J8i (Q:QT) (i4 o4 i5 o5 i2 o2 i3 o3:Nat) (h:Zaa) (ht :
 Zco (Zbj h (.ptr (i4,o4)) 2) fun A=>Zaj A fun A B=>xSl A fun A C D E=>Zaj B fun B F=>xSl B fun B G H I=>Zbv F (Zco (Zbj h (.ptr (i5,o5)) 2) fun F=>Zaj F fun F J=>Zbg F fun F=>Zaj J fun J K=>Zbg J fun J=>Zbv K (Zbu (Zbb h (.ptr (i2,o2)) [.slice A C D E,.slice B G H I]) fun A=>(Zbj A (.ptr (i5,o5)) 2=Zbj h (.ptr (i5,o5)) 2)∧Zbu (Zbb A (.ptr (i3,o3)) [.str F,.str J]) fun A=>Zco (Zbj A (.ptr (i2,o2)) 2) fun B=>Zaj B fun B C=>xSl B fun B D E F=>Zaj C fun C G=>xSl C fun C H I J=>Zbv G (Zco (Zbj A (.ptr (i3,o3)) 2) fun G=>Zaj G fun G K=>Zbg G fun G=>Zaj K fun K L=>Zbg K fun K=>Zbv L (Q (.tup [.agg [.slice B D E F,.slice C H I J],.agg [.str G,.str K]]) A))))):J8 Q i4 o4 i5 o5 i2 o2 i3 o3 h:=
 Zba (kp:=kp) (cast (by kernel_rfl) ht)
theorem call (a0:Pt) (h:Zaa) (Q:QT) (ht :
 Zck (h ++ [.cells Zab [.slice none 0 0 true,.slice none 0 0 true] false]) fun A=>Zck (A ++ [.cells Zad [.str [],.str []] false]) fun B=>Zah pg Zil [.ptr a0] B fun B C=>
 Znt B fun B=>Zaj B fun B D=>xSl B fun B E F G=>Zaj D fun D H=>xSl D fun D I J K=>Zbv H (Zck (C ++ [.cells Zab [.slice none 0 0 true,.slice none 0 0 true] false]) fun H=>Zbu (Zbb H (.ptr (C.length,0)) [.slice B E F G,.slice D I J K]) fun B=>Zco (Zbj B (.ptr (C.length,0)) 2) fun D=>Zaj D fun D E=>xSl D fun D F G H=>Zaj E fun E I=>xSl E fun E J K L=>Zbv I (Zah pg Zkn [.ptr a0,.agg [.slice D F G H,.slice E J K L]] B fun B D=>
 Zbg B fun B=>Zah pg Zaz [.ptr a0,.int .i64 4] D fun D E=>
 Zdo .i64 D fun D=>Zah pg Zaz [.ptr a0,.int .i64 4] E fun E F=>
 Zdo .i64 E fun E=>Zah pg Zeu [.ptr a0,.int .i64 D,.bool (decide ((E:Int) > 0))] F fun D E=>
 Zbg D fun D=>Zck (E ++ [.cells Zad [.str [],.str []] false]) fun F=>Zbu (Zbb F (.ptr (E.length,0)) [.str B,.str D]) fun B=>xSl (Zag B (.ptr (C.length,0 + 1))) fun D D F F=>bcase (decide (((((D:Nat):Int)):Int) > 0)) (Zah pg Zaz [.ptr a0,.int .i64 2] B fun D F=>
 Zdo .i64 D fun D=>bcase ((D:Int) == 0) (xSl (Zag F (.ptr (C.length,0 + 1))) fun D G H H=>xSl (Zag F (.ptr (C.length,0 + 1))) fun H H I I=>(Zah pg Zaz [.ptr a0,.int .i64 (((H:Nat):Int))] F fun I J=>
 Zdo .i64 I fun I=>(Zag J (.ptr (C.length,0 + 1))=Zag F (.ptr (C.length,0 + 1)))∧(Zag J (.ptr (C.length,0 + 1))=Zag F (.ptr (C.length,0 + 1)))∧(0≤(I:Int)∧(I:Int) < (G:Nat))∧(Zbm D fun K L=>Zco (Zbj J (.ptr (K,L + (Int.toNat I) * 3)) 3) fun M=>Zaj M fun M N=>Zbg M fun M=>Zaj N fun N O=>Zbg N fun N=>Zaj O fun O P=>xSl O fun O R S T=>Zbv P (Zck (J ++ [.cells Zac [.str [],.str [],.slice none 0 0 true] false]) fun P=>(Zbj P (.ptr (K,L + (Int.toNat I) * 3)) 3=Zbj J (.ptr (K,L + (Int.toNat I) * 3)) 3)∧(Zag P (.ptr (C.length,0 + 1))=Zag J (.ptr (C.length,0 + 1)))∧(Zag P (.ptr (C.length,0 + 1))=Zag J (.ptr (C.length,0 + 1)))∧Zbu (Zbb P (.ptr (J.length,0)) [.str M,.str N,.slice O R S T]) fun I=>Zco (Zbj I (.ptr (C.length,0)) 2) fun K=>Zaj K fun K L=>xSl K fun K M N O=>Zaj L fun L P=>xSl L fun L R S T=>Zbv P (Zbg (Zag I (.ptr (J.length,0 + 0 + 0))) fun P=>Zbg (Zag I (.ptr (J.length,0 + 0 + 1))) fun U=>(Zag I (.ptr (J.length,0 + 0 + 0))=Zag I (.ptr (J.length,0 + 0 + 0)))∧(Zbj I (.ptr (C.length,0)) 2=Zbj I (.ptr (C.length,0)) 2)∧Zah pg Zip [.ptr a0,.str U] I fun U V=>
 Zbg U fun U=>(Zag V (.ptr (J.length,0 + 0 + 0))=Zag I (.ptr (J.length,0 + 0 + 0)))∧(Zbj V (.ptr (C.length,0)) 2=Zbj I (.ptr (C.length,0)) 2)∧Zbu (Zbb V (.ptr (h.length,0)) [.slice K M N O,.slice L R S T]) fun I=>(Zag I (.ptr (J.length,0 + 0 + 0))=Zag V (.ptr (J.length,0 + 0 + 0)))∧Zbu (Zbb I (.ptr (A.length,0)) [.str P,.str U]) fun I=>Zco (Zbj I (.ptr (h.length,0)) 2) fun J=>Zaj J fun J K=>xSl J fun J L M N=>Zaj K fun K O=>xSl K fun K P R S=>Zbv O (Zco (Zbj I (.ptr (A.length,0)) 2) fun O=>Zaj O fun O T=>Zbg O fun O=>Zaj T fun T U=>Zbg T fun T=>Zbv U (Q (.tup [.agg [.slice J L M N,.slice K P R S],.agg [.str O,.str T]]) I))))))∧(Zck (F ++ [.cells Zac [.str [],.str [],.slice none 0 0 true] false]) fun I=>(Zag I (.ptr (C.length,0 + 1))=Zag F (.ptr (C.length,0 + 1)))∧(Zag I (.ptr (C.length,0 + 1))=Zag F (.ptr (C.length,0 + 1)))∧Zah pg Zaz [.ptr a0,.int .i64 (((H:Nat):Int))] I fun H J=>
 Zdo .i64 H fun H=>(Zag J (.ptr (C.length,0 + 1))=Zag I (.ptr (C.length,0 + 1)))∧(Zag J (.ptr (C.length,0 + 1))=Zag I (.ptr (C.length,0 + 1)))∧(0≤(H:Int)∧(H:Int) < (G:Nat))∧(Zbm D fun D G=>Zco (Zbj J (.ptr (D,G + (Int.toNat H) * 3)) 3) fun D=>Zaj D fun D G=>Zbg D fun D=>Zaj G fun G H=>Zbg G fun G=>Zaj H fun H I=>xSl H fun H K L M=>Zbv I ((Zag J (.ptr (C.length,0 + 1))=Zag J (.ptr (C.length,0 + 1)))∧(Zag J (.ptr (C.length,0 + 1))=Zag J (.ptr (C.length,0 + 1)))∧Zbu (Zbb J (.ptr (F.length,0)) [.str D,.str G,.slice H K L M]) fun D=>Zco (Zbj D (.ptr (C.length,0)) 2) fun G=>Zaj G fun G H=>xSl G fun G I J K=>Zaj H fun H L=>xSl H fun H M N O=>Zbv L (Zbg (Zag D (.ptr (F.length,0 + 0 + 0))) fun L=>Zbg (Zag D (.ptr (F.length,0 + 0 + 1))) fun P=>(Zag D (.ptr (F.length,0 + 0 + 0))=Zag D (.ptr (F.length,0 + 0 + 0)))∧(Zbj D (.ptr (C.length,0)) 2=Zbj D (.ptr (C.length,0)) 2)∧Zah pg Zip [.ptr a0,.str P] D fun P R=>
 Zbg P fun P=>(Zag R (.ptr (F.length,0 + 0 + 0))=Zag D (.ptr (F.length,0 + 0 + 0)))∧(Zbj R (.ptr (C.length,0)) 2=Zbj D (.ptr (C.length,0)) 2)∧Zbu (Zbb R (.ptr (h.length,0)) [.slice G I J K,.slice H M N O]) fun D=>(Zag D (.ptr (F.length,0 + 0 + 0))=Zag R (.ptr (F.length,0 + 0 + 0)))∧Zbu (Zbb D (.ptr (A.length,0)) [.str L,.str P]) fun D=>Zco (Zbj D (.ptr (h.length,0)) 2) fun G=>Zaj G fun G H=>xSl G fun G I J K=>Zaj H fun H L=>xSl H fun H M N O=>Zbv L (Zco (Zbj D (.ptr (A.length,0)) 2) fun L=>Zaj L fun L P=>Zbg L fun L=>Zaj P fun P R=>Zbg P fun P=>Zbv R (Q (.tup [.agg [.slice G I J K,.slice H M N O],.agg [.str L,.str P]]) D))))))) (J6 Q a0 E.length 0 C.length 0 h.length 0 A.length 0 F)) (J6 Q a0 E.length 0 C.length 0 h.length 0 A.length 0 B)))):Zah pg Znh [.ptr a0] h Q:=
 Zah.of_body kp (c:=cod fn) (fn:=fn) Go.Proofs.Tryz.func51 (by kernel_rfl) (by kernel_rfl) (Nat.le_of_ble_eq_true (by kernel_rfl))
  (cast (by kernel_rfl) ht)
end Zih
end Go.Sim

set_option maxRecDepth 100000
set_option maxHeartbeats 0
set_option linter.unusedVariables false
namespace Go.Sim
open Go Go.RowKit
namespace Zib
noncomputable abbrev fn:Func:=Go.Proofs.Tryz.f59
def kp:Zcj:=[(3000008,[3,4]),(1000008,[3,4,50]),(4000011,[3,4])]
noncomputable def C (p:List Nat):Code:=(cod fn).sub p
def KR (Q:QT):KT:=Zfb pg fn.results.toList Q
abbrev T8:=Nat→Nat→Nat→Nat→Int→Zaa→Prop
def E8 (R8:T8) (env:Env) (h:Zaa):Prop:=Zbw 3 env fun v env=>Zhh v fun a=>Zbm a fun i3 o3=>Zbw 4 env fun v env=>Zhh v fun a=>Zbm a fun i4 o4=>Zbw 50 env fun v env=>Zee .i64 v fun x50=>Zkh env (R8 i3 o3 i4 o4 x50 h)
theorem Yee {R8:T8} {env:Env} {h:Zaa} (hi:E8 R8 env h):∃ i3,∃ o3,∃ i4,∃ o4,∃ x50,env=[(3,.ptr (i3,o3)),(4,.ptr (i4,o4)),(50,.int .i64 x50)]∧R8 i3 o3 i4 o4 x50 h:=by
 unfold E8 at hi
 have hi0:=hi
 clear hi
 obtain ⟨_,_,rfl,hi1⟩:=Zak hi0
 obtain ⟨a,rfl,hi2⟩:=Zbt hi1
 obtain ⟨i3,o3,rfl,hi3⟩:=Zbn hi2
 obtain ⟨_,_,rfl,hi4⟩:=Zak hi3
 obtain ⟨a,rfl,hi5⟩:=Zbt hi4
 obtain ⟨i4,o4,rfl,hi6⟩:=Zbn hi5
 obtain ⟨_,_,rfl,hi7⟩:=Zak hi6
 obtain ⟨x50,rfl,hi8⟩:=Zax hi7
 obtain ⟨rfl,hi9⟩:=Zbp hi8
 have hi:=hi9
 exact ⟨i3,o3,i4,o4,x50,rfl,hi⟩
def K0 (Q:QT):KT:=andThen (fun env' h'=>(match kp.find 4000011 with | some ks=>Den pg fn.ntmps (C [1,1]) (env'.keep ks) h' (KR Q) | none=>den pg fn.ntmps kp (C [1,1]) env' h' (KR Q))) (KR Q)
def K1 (Q:QT):KT:=Zcs 0 (K0 Q)
def K2 (Q:QT):KT:=Zcs 1 (K1 Q)
def K3 (Q:QT):KT:=left kp 8 (K2 Q)
def K4 (Q:QT) (R8:T8):KT:=rnd ((kp.find 1000008).getD []) (E8 R8) (K3 Q)
def J11 (Q:QT) (i3 o3 i4 o4:Nat) (h:Zaa):Prop:=Den pg fn.ntmps (C [1,1]) [(3,.ptr (i3,o3)),(4,.ptr (i4,o4))] h (KR Q)
def L8 (Q:QT) (i3 o3 i4 o4:Nat) (x50:Int) (h:Zaa):Prop:=Zet (Den pg fn.ntmps (C [1,0,1,0,1,1,1,1,1,0,1,0,0])) ((kp.find 1000008).getD []) (K3 Q) [(3,.ptr (i3,o3)),(4,.ptr (i4,o4)),(50,.int .i64 x50)] h
def Yuy (Q:QT) (i3 o3 i4 o4:Nat) (h:Zaa):Prop:=At (K2 Q) (.exit 1) [(3,.ptr (i3,o3)),(4,.ptr (i4,o4))] h
theorem J11i (Q:QT) (i3 o3 i4 o4:Nat) (h:Zaa) (ht :
 Zco (Zbj h (.ptr (i3,o3)) 2) fun A=>Zaj A fun A B=>xSl A fun A C D E=>Zaj B fun B F=>xSl B fun B G H I=>Zbv F (Zbu (Zbb h (.ptr (i4,o4)) [.slice A C D E,.slice B G H I]) fun A=>Zco (Zbj A (.ptr (i4,o4)) 2) fun B=>Zaj B fun B C=>xSl B fun B D E F=>Zaj C fun C G=>xSl C fun C H I J=>Zbv G (Q (.agg [.slice B D E F,.slice C H I J]) A))):J11 Q i3 o3 i4 o4 h:=
 Zba (kp:=kp) (cast (by kernel_rfl) ht)
def L8t (Q:QT) (R8:T8) (i3 o3 i4 o4:Nat) (x50:Int) (h:Zaa):Prop:=
 bcase (decide ((x50:Int) < 10)) (Zck (h ++ [.cells Zac [] false]) fun A=>xSl (Zag A (.ptr (i3,o3 + 1))) fun B C D E=>Zcz pg Zes A (.slice (h.length,0) 0 0 true) (.slice B C D E) fun A B=>xSl A fun A C D E=>Zck (B ++ [.cells Zad [] false]) fun F=>Zck (F ++ [.cells Zac [.str [69],.str [105],.slice (B.length,0) 0 0 true] false]) fun B=>Zcz pg Zes B (.slice A C D E) (.slice (F.length,0) 1 1 true) fun A B=>xSl A fun A C D E=>Zbu (Zbb B (.ptr (i3,o3 + 1)) [.slice A C D E]) fun A=>R8 i3 o3 i4 o4 (IntKind.wrap .i64 (x50 + 1)) A) (Yuy Q i3 o3 i4 o4 h)
theorem Yrn (Q:QT) (R8:T8) (i3 o3 i4 o4:Nat) (x50:Int) (h:Zaa) (ht:L8t Q R8 i3 o3 i4 o4 x50 h):Den pg fn.ntmps (C [1,0,1,0,1,1,1,1,1,0,1,0,0]) [(3,.ptr (i3,o3)),(4,.ptr (i4,o4)),(50,.int .i64 x50)] h (K4 Q R8):=
 Zba (kp:=kp) (cast (by kernel_rfl) ht)
theorem L8ind (Q:QT) (i3 o3 i4 o4:Nat) {G:Type} (J:G→Int→Zaa→Prop) (m:G→Nat)
 (hr:∀ (g:G) (x50:Int) (h:Zaa),J g x50 h→∀ (R8:T8),(∀ g' (x50:Int) (h:Zaa),m g' < m g→J g' x50 h→R8 i3 o3 i4 o4 x50 h)→L8t Q R8 i3 o3 i4 o4 x50 h)
 (g:G) (x50:Int) (h:Zaa) (hj:J g x50 h):L8 Q i3 o3 i4 o4 x50 h:=by
 let P:=fun (K:Int→Zaa→Prop) i3' o3' i4' o4' x50 h=>i3=i3'∧o3=o3'∧i4=i4'∧o4=o4'∧K x50 h
 refine Zet.inv2 (fun g=>E8 (P (J g))) (fun g=>E8 (P fun x50 h=>∃ g',m g' < m g∧J g' x50 h)) m ?_ ?_ g ⟨rfl,rfl,rfl,rfl,hj⟩
 ·intro g env h hi
  obtain ⟨i3',o3',i4',o4',x50,rfl,rfl,rfl,rfl,rfl,hj⟩:=Yee hi
  exact Yrn Q _ i3 o3 i4 o4 x50 h (hr g x50 h hj (P fun x50 h=>∃ g',m g' < m g∧J g' x50 h) fun g' x50 h hlt hj=>⟨rfl,rfl,rfl,rfl,g',hlt,hj⟩)
 ·intro g env h hi
  obtain ⟨i3',o3',i4',o4',x50,rfl,rfl,rfl,rfl,rfl,g',hlt,hj⟩:=Yee hi
  exact ⟨g',hlt,rfl,rfl,rfl,rfl,hj⟩
theorem A8x1i (Q:QT) (i3 o3 i4 o4:Nat) (h:Zaa) (ht :
 J11 Q i3 o3 i4 o4 h):Yuy Q i3 o3 i4 o4 h:=
 At.mk (cast (by kernel_rfl) ht)
theorem call (a0 a1x0:Pt) (n1x0 c1x0:Nat) (e1x0:Bool) (a1x1:Pt) (n1x1 c1x1:Nat) (e1x1:Bool) (h:Zaa) (Q:QT) (ht :
 Zck (h ++ [.cells Zab [.slice a1x0 n1x0 c1x0 e1x0,.slice a1x1 n1x1 c1x1 e1x1] false]) fun A=>Zck (A ++ [.cells Zab [.slice none 0 0 true,.slice none 0 0 true] false]) fun B=>Zah pg Zaz [.ptr a0,.int .i64 36] B fun B C=>
 Zdo .i64 B fun B=>bcase ((B:Int) == 0) (Zck (C ++ [.cells Zbf [] false]) fun D=>xSl (Zag D (.ptr (h.length,0 + 0))) fun E F G H=>Zcz pg Zjk D (.slice (C.length,0) 0 0 true) (.slice E F G H) fun D E=>xSl D fun D F G H=>Zck (E ++ [.cells Zbe [.str [69],.str [73],.str [],.str [72]] false]) fun I=>Zah pg Zcf [.ptr a0,.slice (E.length,0) 4 4 true] I fun E I=>
 Zbg E fun E=>Zck (I ++ [.cells Zbe [.str [],.str [69],.str [72],.str [90]] false]) fun J=>Zah pg Zcf [.ptr a0,.slice (I.length,0) 4 4 true] J fun I J=>
 Zbg I fun I=>Zck (J ++ [.cells Zbf [.str E,.str I] false]) fun E=>Zcz pg Zjk E (.slice D F G H) (.slice (J.length,0) 1 1 true) fun D E=>xSl D fun D F G H=>Zbu (Zbb E (.ptr (h.length,0 + 0)) [.slice D F G H]) fun D=>J11 Q h.length 0 A.length 0 D) (bcase ((B:Int) == 1) (Zck (C ++ [.cells Zac [] false]) fun D=>xSl (Zag D (.ptr (h.length,0 + 1))) fun E F G H=>Zcz pg Zes D (.slice (C.length,0) 0 0 true) (.slice E F G H) fun D E=>xSl D fun D F G H=>Zck (E ++ [.cells Zbe [.str [69],.str [72],.str [65]] false]) fun I=>Zah pg Zcf [.ptr a0,.slice (E.length,0) 3 3 true] I fun E I=>
 Zbg E fun E=>Zck (I ++ [.cells Zbe [.str [120],.str [113],.str [105],.str ([108,40,120,41])] false]) fun J=>Zah pg Zcf [.ptr a0,.slice (I.length,0) 4 4 true] J fun I J=>
 Zbg I fun I=>Zck (J ++ [.cells Zbe [.str [69],.str [65],.str [72]] false]) fun K=>Zah pg Zcf [.ptr a0,.slice (J.length,0) 3 3 true] K fun J K=>
 Zbg J fun J=>Zck (K ++ [.cells Zbe [.str [121],.str [105],.str [113]] false]) fun L=>Zah pg Zcf [.ptr a0,.slice (K.length,0) 3 3 true] L fun K L=>
 Zbg K fun K=>Zck (L ++ [.cells Zad [.str J,.str K] false]) fun J=>Zck (J ++ [.cells Zac [.str E,.str I,.slice (L.length,0) 1 1 true] false]) fun E=>Zcz pg Zes E (.slice D F G H) (.slice (J.length,0) 1 1 true) fun D E=>xSl D fun D F G H=>Zbu (Zbb E (.ptr (h.length,0 + 1)) [.slice D F G H]) fun D=>J11 Q h.length 0 A.length 0 D) (bcase ((B:Int) == 2) (L8 Q h.length 0 A.length 0 0 C) (J11 Q h.length 0 A.length 0 C)))):Zah pg Zrx [.ptr a0,.agg [.slice a1x0 n1x0 c1x0 e1x0,.slice a1x1 n1x1 c1x1 e1x1]] h Q:=
 Zah.of_body kp (c:=cod fn) (fn:=fn) Go.Proofs.Tryz.func59 (by kernel_rfl) (by kernel_rfl) (Nat.le_of_ble_eq_true (by kernel_rfl))
  (cast (by kernel_rfl) ht)
end Zib
namespace Zve
noncomputable abbrev fn:Func:=Go.Proofs.Tryz.f27
def kp:Zcj:=[]
noncomputable def C (p:List Nat):Code:=(cod fn).sub p
def KR (Q:QT):KT:=Zfb pg fn.results.toList Q
theorem call (a0:Pt) (h:Zaa) (Q:QT) (ht :
 Zck (h ++ [.cells Zab [.slice none 0 0 true,.slice none 0 0 true] false]) fun A=>Zah pg Zqr [.ptr a0] A fun A B=>
 Znt A fun A=>Zaj A fun A C=>xSl A fun A D E F=>Zaj C fun C G=>xSl C fun C H I J=>Zbv G (Zah pg Zrx [.ptr a0,.agg [.slice A D E F,.slice C H I J]] B fun A B=>
 Znt A fun A=>Zaj A fun A C=>xSl A fun A D E F=>Zaj C fun C G=>xSl C fun C H I J=>Zbv G (Zbu (Zbb B (.ptr (h.length,0)) [.slice A D E F,.slice C H I J]) fun A=>Zco (Zbj A (.ptr (h.length,0)) 2) fun B=>Zaj B fun B C=>xSl B fun B D E F=>Zaj C fun C G=>xSl C fun C H I J=>Zbv G (Q (.agg [.slice B D E F,.slice C H I J]) A)))):Zah pg Zil [.ptr a0] h Q:=
 Zah.of_body kp (c:=cod fn) (fn:=fn) Go.Proofs.Tryz.func27 (by kernel_rfl) (by kernel_rfl) (Nat.le_of_ble_eq_true (by kernel_rfl))
  (cast (by kernel_rfl) ht)
end Zve
namespace Zog
noncomputable abbrev fn:Func:=Go.Proofs.Tryz.f87
def kp:Zcj:=[(4000003,[3,0]),(2000003,[4])]
noncomputable def C (p:List Nat):Code:=(cod fn).sub p
def KR (Q:QT):KT:=Zfb pg fn.results.toList Q
def J3 (Q:QT) (i3 o3:Nat) (a0:Pt) (h:Zaa):Prop:=Den pg fn.ntmps (C [1,1]) [(3,.ptr (i3,o3)),(0,.ptr a0)] h (KR Q)
theorem J3i (Q:QT) (i3 o3:Nat) (a0:Pt) (h:Zaa) (ht :
 xSl (Zag h (.ptr (i3,o3 + 0))) fun A B C C=>xSl (Zag h (.ptr (i3,o3 + 0))) fun C C D D=>(Zag h (.ptr (i3,o3 + 0))=Zag h (.ptr (i3,o3 + 0)))∧Zah pg Zaz [.ptr a0,.int .i64 (((C:Nat):Int))] h fun C D=>
 Zdo .i64 C fun C=>(Zag D (.ptr (i3,o3 + 0))=Zag h (.ptr (i3,o3 + 0)))∧(0≤(C:Int)∧(C:Int) < (B:Nat))∧(Zbm A fun A B=>Zbg (Zag D (.ptr (A,B + (Int.toNat C) * 2 + 0))) fun A=>(Zag D (.ptr (i3,o3 + 0))=Zag D (.ptr (i3,o3 + 0)))∧Q (.str A) D)):J3 Q i3 o3 a0 h:=
 Zba (kp:=kp) (cast (by kernel_rfl) ht)
theorem call (a0 a1x0:Pt) (n1x0 c1x0:Nat) (e1x0:Bool) (a1x1:Pt) (n1x1 c1x1:Nat) (e1x1:Bool) (h:Zaa) (Q:QT) (ht :
 Zck (h ++ [.cells Zab [.slice a1x0 n1x0 c1x0 e1x0,.slice a1x1 n1x1 c1x1 e1x1] false]) fun A=>xSl (Zag A (.ptr (h.length,0 + 0))) fun B B C C=>bcase ((((B:Nat):Int):Int) == 0) (Zck (A ++ [.cells Zbe [.str [69],.str [90],.str [],.str ([69,79])] false]) fun B=>Zah pg Zcf [.ptr a0,.slice (A.length,0) 4 4 true] B fun B C=>
 Zbg B fun B=>Q (.str B) C) (Zah pg Zaz [.ptr a0,.int .i64 16] A fun A B=>
 Zdo .i64 A fun A=>bcase ((A:Int) == 0) (Zck (B ++ [.cells Zbe [.str [69],.str [90],.str [],.str ([69,79])] false]) fun A=>Zah pg Zcf [.ptr a0,.slice (B.length,0) 4 4 true] A fun A C=>
 Zbg A fun A=>Q (.str A) C) (J3 Q h.length 0 a0 B))):Zah pg Zkn [.ptr a0,.agg [.slice a1x0 n1x0 c1x0 e1x0,.slice a1x1 n1x1 c1x1 e1x1]] h Q:=
 Zah.of_body kp (c:=cod fn) (fn:=fn) Go.Proofs.Tryz.func87 (by kernel_rfl) (by kernel_rfl) (Nat.le_of_ble_eq_true (by kernel_rfl))
  (cast (by kernel_rfl) ht)
end Zog
end Go.Sim

set_option maxRecDepth 100000
set_option maxHeartbeats 0
set_option linter.unusedVariables false
namespace Go.Sim
open Go Go.RowKit
namespace Zle
noncomputable abbrev fn:Func:=Go.Proofs.Tryz.f60
def kp:Zcj:=[(3000005,[3,2]),(1000005,[0,2,3,20,21]),(2000006,[21,20,3,0,2])]
noncomputable def C (p:List Nat):Code:=(cod fn).sub p
def KR (Q:QT):KT:=Zfb pg fn.results.toList Q
abbrev T5:=Pt→Nat→Nat→Nat→Nat→Int→Int→Zaa→Prop
def E5 (R5:T5) (env:Env) (h:Zaa):Prop:=Zbw 0 env fun v env=>Zhh v fun a0=>Zbw 2 env fun v env=>Zhh v fun a=>Zbm a fun i2 o2=>Zbw 3 env fun v env=>Zhh v fun a=>Zbm a fun i3 o3=>Zbw 20 env fun v env=>Zee .i64 v fun x20=>Zbw 21 env fun v env=>Zee .i64 v fun x21=>Zkh env (R5 a0 i2 o2 i3 o3 x20 x21 h)
theorem Zma {R5:T5} {env:Env} {h:Zaa} (hi:E5 R5 env h):∃ a0,∃ i2,∃ o2,∃ i3,∃ o3,∃ x20,∃ x21,env=[(0,.ptr a0),(2,.ptr (i2,o2)),(3,.ptr (i3,o3)),(20,.int .i64 x20),(21,.int .i64 x21)]∧R5 a0 i2 o2 i3 o3 x20 x21 h:=by
 unfold E5 at hi
 have hi0:=hi
 clear hi
 obtain ⟨_,_,rfl,hi1⟩:=Zak hi0
 obtain ⟨a0,rfl,hi2⟩:=Zbt hi1
 obtain ⟨_,_,rfl,hi3⟩:=Zak hi2
 obtain ⟨a,rfl,hi4⟩:=Zbt hi3
 obtain ⟨i2,o2,rfl,hi5⟩:=Zbn hi4
 obtain ⟨_,_,rfl,hi6⟩:=Zak hi5
 obtain ⟨a,rfl,hi7⟩:=Zbt hi6
 obtain ⟨i3,o3,rfl,hi8⟩:=Zbn hi7
 obtain ⟨_,_,rfl,hi9⟩:=Zak hi8
 obtain ⟨x20,rfl,hi10⟩:=Zax hi9
 obtain ⟨_,_,rfl,hi11⟩:=Zak hi10
 obtain ⟨x21,rfl,hi12⟩:=Zax hi11
 obtain ⟨rfl,hi13⟩:=Zbp hi12
 have hi:=hi13
 exact ⟨a0,i2,o2,i3,o3,x20,x21,rfl,hi⟩
def K0 (Q:QT):KT:=andThen (fun env' h'=>(match kp.find 4000008 with | some ks=>Den pg fn.ntmps (C [1,1,1,1]) (env'.keep ks) h' (KR Q) | none=>den pg fn.ntmps kp (C [1,1,1,1]) env' h' (KR Q))) (KR Q)
def K1 (Q:QT):KT:=Zcs 0 (K0 Q)
def K2 (Q:QT):KT:=left kp 5 (K1 Q)
def K3 (Q:QT) (R5:T5):KT:=rnd ((kp.find 1000005).getD []) (E5 R5) (K2 Q)
def L5 (Q:QT) (a0:Pt) (i2 o2 i3 o3:Nat) (x20 x21:Int) (h:Zaa):Prop:=Zet (Den pg fn.ntmps (C [1,1,1,0,1,0,0])) ((kp.find 1000005).getD []) (K2 Q) [(0,.ptr a0),(2,.ptr (i2,o2)),(3,.ptr (i3,o3)),(20,.int .i64 x20),(21,.int .i64 x21)] h
def A5x0 (Q:QT) (i3 o3 i2 o2:Nat) (h:Zaa):Prop:=At (K1 Q) (.exit 0) [(3,.ptr (i3,o3)),(2,.ptr (i2,o2))] h
def L5t (Q:QT) (R5:T5) (a0:Pt) (i2 o2 i3 o3:Nat) (x20 x21:Int) (h:Zaa):Prop:=
 bcase (decide ((x21:Int) < x20)) (xSl (Zag h (.ptr (i3,o3 + 1))) fun A B C D=>Zco (Zbj h (.ptr (i3,o3)) 2) fun E=>Zaj E fun E F=>xSl E fun E G H I=>Zaj F fun F J=>xSl F fun F K L M=>Zbv J ((Zag h (.ptr (i3,o3 + 1))=Zag h (.ptr (i3,o3 + 1)))∧Zah pg Zhx [.ptr a0,.agg [.slice E G H I,.slice F K L M]] h fun E F=>
 Znt E fun E=>Zaj E fun E G=>Zbg E fun E=>Zaj G fun G H=>Zbg G fun G=>Zaj H fun H I=>xSl H fun H J K L=>Zbv I ((Zag F (.ptr (i3,o3 + 1))=Zag h (.ptr (i3,o3 + 1)))∧Zck (F ++ [.cells Zac [.str E,.str G,.slice H J K L] false]) fun E=>(Zag E (.ptr (i3,o3 + 1))=Zag F (.ptr (i3,o3 + 1)))∧Zcz pg Zes E (.slice A B C D) (.slice (F.length,0) 1 1 true) fun A B=>xSl A fun A C D E=>Zbu (Zbb B (.ptr (i3,o3 + 1)) [.slice A C D E]) fun A=>R5 a0 i2 o2 i3 o3 x20 (IntKind.wrap .i64 (x21 + 1)) A))) (A5x0 Q i3 o3 i2 o2 h)
theorem Zyg (Q:QT) (R5:T5) (a0:Pt) (i2 o2 i3 o3:Nat) (x20 x21:Int) (h:Zaa) (ht:L5t Q R5 a0 i2 o2 i3 o3 x20 x21 h):Den pg fn.ntmps (C [1,1,1,0,1,0,0]) [(0,.ptr a0),(2,.ptr (i2,o2)),(3,.ptr (i3,o3)),(20,.int .i64 x20),(21,.int .i64 x21)] h (K3 Q R5):=
 Zba (kp:=kp) (cast (by kernel_rfl) ht)
theorem L5ind (Q:QT) (a0:Pt) (i2 o2 i3 o3:Nat) (x20:Int) {G:Type} (J:G→Int→Zaa→Prop) (m:G→Nat)
 (hr:∀ (g:G) (x21:Int) (h:Zaa),J g x21 h→∀ (R5:T5),(∀ g' (x21:Int) (h:Zaa),m g' < m g→J g' x21 h→R5 a0 i2 o2 i3 o3 x20 x21 h)→L5t Q R5 a0 i2 o2 i3 o3 x20 x21 h)
 (g:G) (x21:Int) (h:Zaa) (hj:J g x21 h):L5 Q a0 i2 o2 i3 o3 x20 x21 h:=by
 let P:=fun (K:Int→Zaa→Prop) a0' i2' o2' i3' o3' x20' x21 h=>a0=a0'∧i2=i2'∧o2=o2'∧i3=i3'∧o3=o3'∧x20=x20'∧K x21 h
 refine Zet.inv2 (fun g=>E5 (P (J g))) (fun g=>E5 (P fun x21 h=>∃ g',m g' < m g∧J g' x21 h)) m ?_ ?_ g ⟨rfl,rfl,rfl,rfl,rfl,rfl,hj⟩
 ·intro g env h hi
  obtain ⟨a0',i2',o2',i3',o3',x20',x21,rfl,rfl,rfl,rfl,rfl,rfl,rfl,hj⟩:=Zma hi
  exact Zyg Q _ a0 i2 o2 i3 o3 x20 x21 h (hr g x21 h hj (P fun x21 h=>∃ g',m g' < m g∧J g' x21 h) fun g' x21 h hlt hj=>⟨rfl,rfl,rfl,rfl,rfl,rfl,g',hlt,hj⟩)
 ·intro g env h hi
  obtain ⟨a0',i2',o2',i3',o3',x20',x21,rfl,rfl,rfl,rfl,rfl,rfl,rfl,g',hlt,hj⟩:=Zma hi
  exact ⟨g',hlt,rfl,rfl,rfl,rfl,rfl,rfl,hj⟩
theorem A5x0i (Q:QT) (i3 o3 i2 o2:Nat) (h:Zaa) (ht :
 Zco (Zbj h (.ptr (i3,o3)) 2) fun A=>Zaj A fun A B=>xSl A fun A C D E=>Zaj B fun B F=>xSl B fun B G H I=>Zbv F (Zbu (Zbb h (.ptr (i2,o2)) [.slice A C D E,.slice B G H I]) fun A=>Zco (Zbj A (.ptr (i2,o2)) 2) fun B=>Zaj B fun B C=>xSl B fun B D E F=>Zaj C fun C G=>xSl C fun C H I J=>Zbv G (Q (.agg [.slice B D E F,.slice C H I J]) A))):A5x0 Q i3 o3 i2 o2 h:=
 At.mk (cast (by kernel_rfl) ht)
theorem call (a0:Pt) (h:Zaa) (Q:QT) (ht :
 Zck (h ++ [.cells Zab [.slice none 0 0 true,.slice none 0 0 true] false]) fun A=>Zah pg Zaz [.ptr a0,.int .i64 2] A fun A B=>
 Zdo .i64 A fun A=>bcase ((A:Int) == 0) (Zah pg Zaz [.ptr a0,.int .i64 9] B fun A C=>
 Zdo .i64 A fun A=>Zah pg Zpc [.int .i64 A] C fun A C=>
 Znt A fun A=>Zaj A fun A D=>xSl A fun A E F G=>Zaj D fun D H=>xSl D fun D I J K=>Zbv H (Zbu (Zbb C (.ptr (h.length,0)) [.slice A E F G,.slice D I J K]) fun A=>Zco (Zbj A (.ptr (h.length,0)) 2) fun C=>Zaj C fun C D=>xSl C fun C E F G=>Zaj D fun D H=>xSl D fun D I J K=>Zbv H (Q (.agg [.slice C E F G,.slice D I J K]) A))) (Zck (B ++ [.cells Zbe [.str [69],.str ([69,32,79,60,69]),.str ([65,32,66]),.str ([65,32,66,60,65,32,67,60,65,66]),.str ([69,32,79,60,69,32,83])] false]) fun A=>Zah pg Zcf [.ptr a0,.slice (B.length,0) 5 5 true] A fun A B=>
 Zbg A fun A=>Zah pg Zii [.str A] B fun A B=>
 Zny A fun A=>Zaj A fun A C=>Znt A fun A=>Zaj A fun A D=>xSl A fun A E F G=>Zaj D fun D H=>xSl D fun D I J K=>Zbv H (Zaj C fun C H=>Zbx C fun C=>Zbv H (Zck (B ++ [.cells Zab [.slice none 0 0 true,.slice none 0 0 true] false]) fun C=>Zbu (Zbb C (.ptr (B.length,0)) [.slice A E F G,.slice D I J K]) fun A=>Zah pg Zaz [.ptr a0,.int .i64 6] A fun A C=>
 Zdo .i64 A fun A=>L5 Q a0 h.length 0 B.length 0 (IntKind.wrap .i64 (1 + A)) 0 C)))):Zah pg Zqr [.ptr a0] h Q:=
 Zah.of_body kp (c:=cod fn) (fn:=fn) Go.Proofs.Tryz.func60 (by kernel_rfl) (by kernel_rfl) (Nat.le_of_ble_eq_true (by kernel_rfl))
  (cast (by kernel_rfl) ht)
end Zle
end Go.Sim

set_option maxRecDepth 100000
set_option maxHeartbeats 0
set_option linter.unusedVariables false
namespace Go.Sim
open Go Go.RowKit
namespace Zpz
noncomputable abbrev fn:Func:=Go.Proofs.Tryz.f94
def kp:Zcj:=[]
noncomputable def C (p:List Nat):Code:=(cod fn).sub p
def KR (Q:QT):KT:=Zfb pg fn.results.toList Q
theorem call (x0:List Nat) (h:Zaa) (Q:QT) (ht :
 Zck (h ++ [.cells Zab [.slice none 0 0 true,.slice none 0 0 true] false]) fun A=>Zah pg Zhl [.str x0] A fun A B=>
 Zny A fun A=>Zaj A fun A C=>Znt A fun A=>Zaj A fun A D=>xSl A fun A E F G=>Zaj D fun D H=>xSl D fun D I J K=>Zbv H (Zaj C fun C H=>Zbx C fun C=>Zbv H (Zck (B ++ [.cells Zab [.slice none 0 0 true,.slice none 0 0 true] false]) fun H=>Zbu (Zbb H (.ptr (B.length,0)) [.slice A E F G,.slice D I J K]) fun A=>Zco (Zbj A (.ptr (B.length,0)) 2) fun B=>Zaj B fun B D=>xSl B fun B E F G=>Zaj D fun D H=>xSl D fun D I J K=>Zbv H (Zah pg Zkm [.agg [.slice B E F G,.slice D I J K]] A fun A B=>
 Znt A fun A=>Zaj A fun A D=>xSl A fun A E F G=>Zaj D fun D H=>xSl D fun D I J K=>Zbv H (Zbu (Zbb B (.ptr (h.length,0)) [.slice A E F G,.slice D I J K]) fun A=>Zco (Zbj A (.ptr (h.length,0)) 2) fun B=>Zaj B fun B D=>xSl B fun B E F G=>Zaj D fun D H=>xSl D fun D I J K=>Zbv H (Q (.tup [.agg [.slice B E F G,.slice D I J K],.bool C]) A)))))):Zah pg Zii [.str x0] h Q:=
 Zah.of_body kp (c:=cod fn) (fn:=fn) Go.Proofs.Tryz.func94 (by kernel_rfl) (by kernel_rfl) (Nat.le_of_ble_eq_true (by kernel_rfl))
  (cast (by kernel_rfl) ht)
end Zpz
namespace Ztm
noncomputable abbrev fn:Func:=Go.Proofs.Tryz.f93
def kp:Zcj:=[]
noncomputable def C (p:List Nat):Code:=(cod fn).sub p
def KR (Q:QT):KT:=Zfb pg fn.results.toList Q
theorem call (x0:Int) (h:Zaa) (Q:QT) (ht :
 Zck (h ++ [.cells Zab [.slice none 0 0 true,.slice none 0 0 true] false]) fun A=>Zck (A ++ [.cells Zbe [.str ([69,32,79,60,69,59,69,32,105,59,69,32,98,59,69,32,108,40,120,41,58,69,32,120,59,69,32,112,40,120,44,121,41,58,69,32,120,38,69,32,121,59,79,32,105,59,79,32,108,40,120,41,58,79,32,120]),.str ([69,32,83,59,69,32,105,59,69,32,108,40,120,41,58,69,32,120,59,69,32,108,40,105,41,59,83,32,112,40,120,44,120,41,58,83,32,120,59,83,32,112,40,105,44,98,41,59,83,32,105,59,83,32,98]),.str ([65,32,66,59,65,32,105,59,65,32,108,40,120,41,58,65,32,120,38,66,32,120,59,66,32,105,59,66,32,108,40,120,41,58,65,32,108,40,120,41]),.str ([65,59,65,32,108,40,120,41,58,65,32,108,40,120,41,59,65,32,109,40,120,41,58,65,32,108,40,109,40,120,41,41,59,65,32,105]),.str ([69,32,79,60,69,32,83,60,69,79,59,69,32,117,59,69,32,105,59,79,32,105,59,83,32,105,59,69,32,109,40,120,41,58,69,32,120,59,79,32,109,40,120,41,58,79,32,120,59,83,32,109,40,120,41,58,83,32,120,38,69,32,109,40,120,41]),.str ([69,32,70,59,69,32,105,59,69,32,98,59,70,32,108,40,120,41,58,69,32,120,59,70,32,109,40,120,41,58,70,32,120,38,69,32,120,59,70,32,112,40,108,40,120,41,44,121,41,58,69,32,120,38,70,32,121,59,70,32,105]),.str ([69,32,79,60,69,59,79,32,105,59,69,32,98,59,69,32,108,40,120,41,58,69,32,120]),.str ([65,32,66,60,65,32,67,60,65,66,59,65,32,105,59,66,32,105,59,67,32,105,59,65,32,108,40,120,41,58,67,32,120,59,66,32,108,40,120,41,58,67,32,120,59,67,32,108,40,120,41,58,67,32,120,59,65,32,117]),.str ([69,59,69,32,112,40,120,44,105,41,58,69,32,120,59,69,32,112,40,105,44,120,41,58,69,32,120,59,69,32,105,59,69,32,98])] false]) fun B=>((((9:Nat):Int)):Int)≠0∧((0≤(Int.tmod x0 (((9:Nat):Int)):Int)∧(Int.tmod x0 (((9:Nat):Int)):Int) < (9:Nat))∧(Zbg (Zag B (.ptr (A.length,0 + (Int.toNat (Int.tmod x0 (((9:Nat):Int)))) * 1))) fun A=>Zah pg Zii [.str A] B fun A B=>
 Zny A fun A=>Zaj A fun A C=>Znt A fun A=>Zaj A fun A D=>xSl A fun A E F G=>Zaj D fun D H=>xSl D fun D I J K=>Zbv H (Zaj C fun C H=>Zbx C fun C=>Zbv H (Zck (B ++ [.cells Zab [.slice none 0 0 true,.slice none 0 0 true] false]) fun C=>Zbu (Zbb C (.ptr (B.length,0)) [.slice A E F G,.slice D I J K]) fun A=>Zco (Zbj A (.ptr (B.length,0)) 2) fun B=>Zaj B fun B C=>xSl B fun B D E F=>Zaj C fun C G=>xSl C fun C H I J=>Zbv G (Zbu (Zbb A (.ptr (h.length,0)) [.slice B D E F,.slice C H I J]) fun A=>Zco (Zbj A (.ptr (h.length,0)) 2) fun B=>Zaj B fun B C=>xSl B fun B D E F=>Zaj C fun C G=>xSl C fun C H I J=>Zbv G (Q (.agg [.slice B D E F,.slice C H I J]) A))))))):Zah pg Zpc [.int .i64 x0] h Q:=
 Zah.of_body kp (c:=cod fn) (fn:=fn) Go.Proofs.Tryz.func93 (by kernel_rfl) (by kernel_rfl) (Nat.le_of_ble_eq_true (by kernel_rfl))
  (cast (by kernel_rfl) ht)
end Ztm
namespace Zps
noncomputable abbrev fn:Func:=Go.Proofs.Tryz.f120
def kp:Zcj:=[(2000001,[2,7,0,6])]
noncomputable def C (p:List Nat):Code:=(cod fn).sub p
def KR (Q:QT):KT:=Zfb pg fn.results.toList Q
theorem call (a0 a1x0:Pt) (n1x0 c1x0:Nat) (e1x0:Bool) (a1x1:Pt) (n1x1 c1x1:Nat) (e1x1:Bool) (x2:List Nat) (h:Zaa) (Q:QT) (ht :
 Zck (h ++ [.cells Zab [.slice a1x0 n1x0 c1x0 e1x0,.slice a1x1 n1x1 c1x1 e1x1] false]) fun A=>Zck (A ++ [.cells Zad [.str [],.str []] false]) fun B=>xSl (Zag B (.ptr (h.length,0 + 0))) fun C D E E=>xSl (Zag B (.ptr (h.length,0 + 0))) fun E E F F=>(Zag B (.ptr (h.length,0 + 0))=Zag B (.ptr (h.length,0 + 0)))∧Zah pg Zaz [.ptr a0,.int .i64 (((E:Nat):Int))] B fun E F=>
 Zdo .i64 E fun E=>(Zag F (.ptr (h.length,0 + 0))=Zag B (.ptr (h.length,0 + 0)))∧(0≤(E:Int)∧(E:Int) < (D:Nat))∧(Zbm C fun B C=>Zbg (Zag F (.ptr (B,C + (Int.toNat E) * 2 + 0))) fun B=>(Zag F (.ptr (h.length,0 + 0))=Zag F (.ptr (h.length,0 + 0)))∧bcase (decide (x2=[])) (Zah pg Zaz [.ptr a0,.int .i64 2] F fun C D=>
 Zdo .i64 C fun C=>Zah pg Zeu [.ptr a0,.int .i64 C,.bool true] D fun C D=>
 Zbg C fun C=>Zbu (Zbb D (.ptr (A.length,0)) [.str B,.str C]) fun C=>Zco (Zbj C (.ptr (A.length,0)) 2) fun D=>Zaj D fun D E=>Zbg D fun D=>Zaj E fun E G=>Zbg E fun E=>Zbv G (Q (.agg [.str D,.str E]) C)) (Zah pg Zaz [.ptr a0,.int .i64 (((List.length x2:Nat):Int))] F fun C D=>
 Zdo .i64 C fun C=>(0≤(C:Int)∧(C:Int)≤IntKind.wrap .i64 (C + 1)∧(IntKind.wrap .i64 (C + 1):Int)≤(List.length x2:Nat))∧(List.length ([108,40]) + List.length (sub x2 C (IntKind.wrap .i64 (C + 1)))≤9223372036854775807∧(List.length (([108,40]) ++ (sub x2 C (IntKind.wrap .i64 (C + 1)))) + List.length [41]≤9223372036854775807∧(Zck (D ++ [.cells Zbe [.str (sub x2 C (IntKind.wrap .i64 (C + 1))),.str (sub x2 C (IntKind.wrap .i64 (C + 1))),.str (sub x2 C (IntKind.wrap .i64 (C + 1))),.str ((([108,40]) ++ (sub x2 C (IntKind.wrap .i64 (C + 1)))) ++ [41]),.str (sub x2 C (IntKind.wrap .i64 (C + 1)))] false]) fun C=>Zah pg Zcf [.ptr a0,.slice (D.length,0) 5 5 true] C fun C D=>
 Zbg C fun C=>Zbu (Zbb D (.ptr (A.length,0)) [.str B,.str C]) fun B=>Zco (Zbj B (.ptr (A.length,0)) 2) fun A=>Zaj A fun A C=>Zbg A fun A=>Zaj C fun C D=>Zbg C fun C=>Zbv D (Q (.agg [.str A,.str C]) B))))))):Zah pg Zgk [.ptr a0,.agg [.slice a1x0 n1x0 c1x0 e1x0,.slice a1x1 n1x1 c1x1 e1x1],.str x2] h Q:=
 Zah.of_body kp (c:=cod fn) (fn:=fn) Go.Proofs.Tryz.func120 (by kernel_rfl) (by kernel_rfl) (Nat.le_of_ble_eq_true (by kernel_rfl))
  (cast (by kernel_rfl) ht)
end Zps
end Go.Sim
