/- A part of the proof of a statement of this seat: see the text that holds the theorem. No condition. -/
import Derived.Test.YtflfcofeedjblaaGreatDoorNm
set_option linter.unusedVariables false
set_option linter.unusedSimpArgs false
set_option linter.all false
set_option maxRecDepth 100000
set_option maxHeartbeats 0
set_option linter.unusedVariables false
namespace Go.Sim
open Go Go.RowKit
namespace Zib
noncomputable abbrev fn:Func:=Go.Proofs.Tryz.f67
def kp:Zch:=[(3000005,[6,7]),(1000005,[3,5,20,21,22]),(2000007,[40,9,5,22,21,20,3]),(2000008,[6,7]),(4000009,[22,21,20,5,3])]
noncomputable def C (p:List Nat):Code:=(cod fn).sub p
def KR (Q:QT):KT:=Zfd pg fn.results.toList Q
abbrev T5:=Nat→Nat→Nat→Nat→Pt→Nat→Nat→Bool→Int→Int→Zaa→Prop
def E5 (R5:T5) (env:Env) (h:Zaa):Prop:=Zbu 3 env fun v env=>Zgn v fun a=>Zbf a fun i3 o3=>Zbu 5 env fun v env=>Zgn v fun a=>Zbf a fun i5 o5=>Zbu 20 env fun v env=>xSl v fun a20 n20 c20 e20=>Zbu 21 env fun v env=>Zdz .i64 v fun x21=>Zbu 22 env fun v env=>Zdz .i64 v fun x22=>Zil env (R5 i3 o3 i5 o5 a20 n20 c20 e20 x21 x22 h)
theorem Zik {R5:T5} {env:Env} {h:Zaa} (hi:E5 R5 env h):∃ i3,∃ o3,∃ i5,∃ o5,∃ a20,∃ n20,∃ c20,∃ e20,∃ x21,∃ x22,env=[(3,.ptr (i3,o3)),(5,.ptr (i5,o5)),(20,.slice a20 n20 c20 e20),(21,.int .i64 x21),(22,.int .i64 x22)]∧R5 i3 o3 i5 o5 a20 n20 c20 e20 x21 x22 h:=by
 unfold E5 at hi
 have hi0:=hi
 clear hi
 obtain ⟨_,_,rfl,hi1⟩:=Zaf hi0
 obtain ⟨a,rfl,hi2⟩:=Zbn hi1
 obtain ⟨i3,o3,rfl,hi3⟩:=Zbk hi2
 obtain ⟨_,_,rfl,hi4⟩:=Zaf hi3
 obtain ⟨a,rfl,hi5⟩:=Zbn hi4
 obtain ⟨i5,o5,rfl,hi6⟩:=Zbk hi5
 obtain ⟨_,_,rfl,hi7⟩:=Zaf hi6
 obtain ⟨a20,n20,c20,e20,rfl,hi8⟩:=Zbp hi7
 obtain ⟨_,_,rfl,hi9⟩:=Zaf hi8
 obtain ⟨x21,rfl,hi10⟩:=Zav hi9
 obtain ⟨_,_,rfl,hi11⟩:=Zaf hi10
 obtain ⟨x22,rfl,hi12⟩:=Zav hi11
 obtain ⟨rfl,hi13⟩:=Zbl hi12
 have hi:=hi13
 exact ⟨i3,o3,i5,o5,a20,n20,c20,e20,x21,x22,rfl,hi⟩
def K0 (Q:QT):KT:=andThen (fun env' h'=>(match kp.find 4000010 with | some ks=>Den pg fn.ntmps (C [1,1,1]) (env'.keep ks) h' (KR Q) | none=>den pg fn.ntmps kp (C [1,1,1]) env' h' (KR Q))) (KR Q)
def K1 (Q:QT):KT:=Zcj 0 (K0 Q)
def K2 (Q:QT):KT:=left kp 5 (K1 Q)
def K3 (Q:QT) (R5:T5):KT:=rnd ((kp.find 1000005).getD []) (E5 R5) (K2 Q)
def L5 (Q:QT) (i3 o3 i5 o5:Nat) (a20:Pt) (n20 c20:Nat) (e20:Bool) (x21 x22:Int) (h:Zaa):Prop:=Zej (Den pg fn.ntmps (C [1,1,0,1,0,0])) ((kp.find 1000005).getD []) (K2 Q) [(3,.ptr (i3,o3)),(5,.ptr (i5,o5)),(20,.slice a20 n20 c20 e20),(21,.int .i64 x21),(22,.int .i64 x22)] h
def J9 (Q:QT) (R5:T5) (x22 x21:Int) (a20:Pt) (n20 c20:Nat) (e20:Bool) (i5 o5 i3 o3:Nat) (h:Zaa):Prop:=Den pg fn.ntmps (C [1,1,0,1,0,0,1,1,1]) [(22,.int .i64 x22),(21,.int .i64 x21),(20,.slice a20 n20 c20 e20),(5,.ptr (i5,o5)),(3,.ptr (i3,o3))] h (K3 Q R5)
def A5x0 (Q:QT) (h:Zaa):Prop:=At (K1 Q) (.exit 0) [(6,.undef),(7,.undef)] h
def L5t (Q:QT) (R5:T5) (i3 o3 i5 o5:Nat) (a20:Pt) (n20 c20:Nat) (e20:Bool) (x21 x22:Int) (h:Zaa):Prop:=
 bcase (decide ((x22:Int) < x21)) ((0≤(x22:Int)∧(x22:Int) < (n20:Nat))∧(Zbf a20 fun A B=>Zcd (Zbe h (.ptr (A,B + (Int.toNat x22) * 2)) 2) fun A=>Zai A fun A B=>Zbd A fun A=>Zai B fun B C=>Zbd B fun B=>Zbq C (Zcf (h ++ [.cells Zab [.str [],.str []] false]) fun C=>Zbt (Zbb C (.ptr (h.length,0)) [.str A,.str B]) fun A=>Zbd (Zag A (.ptr (h.length,0 + 1))) fun B=>Zbd (Zag A (.ptr (i5,o5 + 1))) fun C=>(Zag A (.ptr (h.length,0 + 1))=Zag A (.ptr (h.length,0 + 1)))∧bcase (decide (B=C)) (Zcd (Zbe A (.ptr (i3,o3)) 2) fun B=>Zai B fun B C=>xSl B fun B D E F=>Zai C fun C G=>xSl C fun C H I J=>Zbq G (Zbd (Zag A (.ptr (h.length,0 + 0))) fun G=>Zbd (Zag A (.ptr (i5,o5 + 0))) fun K=>Zak pg Zpb [.agg [.slice B D E F,.slice C H I J],.str G] A fun B C=>
 xSl B fun B D E F=>(Zag C (.ptr (i5,o5 + 0))=Zag A (.ptr (i5,o5 + 0)))∧(Zag C (.ptr (h.length,0 + 1))=Zag A (.ptr (h.length,0 + 1)))∧Zak pg Zfs [.slice B D E F,.str K] C fun B D=>
 Zca B fun B=>(Zag D (.ptr (h.length,0 + 0))=Zag C (.ptr (h.length,0 + 0)))∧(Zbe D (.ptr (i3,o3)) 2=Zbe C (.ptr (i3,o3)) 2)∧(Zag D (.ptr (h.length,0 + 1))=Zag C (.ptr (h.length,0 + 1)))∧bcase B ((0≤(x22:Int)∧(x22:Int)≤IntKind.wrap .i64 (x22 + 1)∧(IntKind.wrap .i64 (x22 + 1):Int)≤(List.length ([97,98,99,100,101,102]):Nat))∧(Zbd (Zag D (.ptr (i5,o5 + 0))) fun B=>List.length (sub ([97,98,99,100,101,102]) x22 (IntKind.wrap .i64 (x22 + 1))) + List.length B≤9223372036854775807∧(Q (.tup [.str ((sub ([97,98,99,100,101,102]) x22 (IntKind.wrap .i64 (x22 + 1))) ++ B),.bool true]) D))) (J9 Q R5 x22 x21 a20 n20 c20 e20 i5 o5 i3 o3 D))) ((Zag A (.tup [])=Zag A (.tup []))∧(Zag A (.ptr (h.length,0 + 1))=Zag A (.ptr (h.length,0 + 1)))∧(Zag A (.tup [])=Zag A (.tup []))∧(Zbe A (.ptr (i3,o3)) 2=Zbe A (.ptr (i3,o3)) 2)∧(Zag A (.ptr (h.length,0 + 1))=Zag A (.ptr (h.length,0 + 1)))∧J9 Q R5 x22 x21 a20 n20 c20 e20 i5 o5 i3 o3 A)))) (A5x0 Q h)
theorem Ztv (Q:QT) (R5:T5) (i3 o3 i5 o5:Nat) (a20:Pt) (n20 c20:Nat) (e20:Bool) (x21 x22:Int) (h:Zaa) (ht:L5t Q R5 i3 o3 i5 o5 a20 n20 c20 e20 x21 x22 h):Den pg fn.ntmps (C [1,1,0,1,0,0]) [(3,.ptr (i3,o3)),(5,.ptr (i5,o5)),(20,.slice a20 n20 c20 e20),(21,.int .i64 x21),(22,.int .i64 x22)] h (K3 Q R5):=
 Zba (kp:=kp) (cast (by kernel_rfl) ht)
theorem L5ind (Q:QT) (i3 o3 i5 o5:Nat) (a20:Pt) (n20 c20:Nat) (e20:Bool) (x21:Int) {G:Type} (J:G→Int→Zaa→Prop) (m:G→Nat)
 (hr:∀ (g:G) (x22:Int) (h:Zaa),J g x22 h→∀ (R5:T5),(∀ g' (x22:Int) (h:Zaa),m g' < m g→J g' x22 h→R5 i3 o3 i5 o5 a20 n20 c20 e20 x21 x22 h)→L5t Q R5 i3 o3 i5 o5 a20 n20 c20 e20 x21 x22 h)
 (g:G) (x22:Int) (h:Zaa) (hj:J g x22 h):L5 Q i3 o3 i5 o5 a20 n20 c20 e20 x21 x22 h:=by
 let P:=fun (K:Int→Zaa→Prop) i3' o3' i5' o5' a20' n20' c20' e20' x21' x22 h=>i3=i3'∧o3=o3'∧i5=i5'∧o5=o5'∧a20=a20'∧n20=n20'∧c20=c20'∧e20=e20'∧x21=x21'∧K x22 h
 refine Zej.inv2 (fun g=>E5 (P (J g))) (fun g=>E5 (P fun x22 h=>∃ g',m g' < m g∧J g' x22 h)) m ?_ ?_ g ⟨rfl,rfl,rfl,rfl,rfl,rfl,rfl,rfl,rfl,hj⟩
 ·intro g env h hi
  obtain ⟨i3',o3',i5',o5',a20',n20',c20',e20',x21',x22,rfl,rfl,rfl,rfl,rfl,rfl,rfl,rfl,rfl,rfl,hj⟩:=Zik hi
  exact Ztv Q _ i3 o3 i5 o5 a20 n20 c20 e20 x21 x22 h (hr g x22 h hj (P fun x22 h=>∃ g',m g' < m g∧J g' x22 h) fun g' x22 h hlt hj=>⟨rfl,rfl,rfl,rfl,rfl,rfl,rfl,rfl,rfl,g',hlt,hj⟩)
 ·intro g env h hi
  obtain ⟨i3',o3',i5',o5',a20',n20',c20',e20',x21',x22,rfl,rfl,rfl,rfl,rfl,rfl,rfl,rfl,rfl,rfl,g',hlt,hj⟩:=Zik hi
  exact ⟨g',hlt,rfl,rfl,rfl,rfl,rfl,rfl,rfl,rfl,rfl,hj⟩
theorem J9i (Q:QT) (R5:T5) (x22 x21:Int) (a20:Pt) (n20 c20:Nat) (e20:Bool) (i5 o5 i3 o3:Nat) (h:Zaa) (ht :
 R5 i3 o3 i5 o5 a20 n20 c20 e20 x21 (IntKind.wrap .i64 (x22 + 1)) h):J9 Q R5 x22 x21 a20 n20 c20 e20 i5 o5 i3 o3 h:=
 Zba (kp:=kp) (cast (by kernel_rfl) ht)
theorem A5x0i (Q:QT) (h:Zaa) (ht :
 Q (.tup [.str [],.bool false]) h):A5x0 Q h:=
 At.mk (cast (by kernel_rfl) ht)
theorem call (a0x0:Pt) (n0x0 c0x0:Nat) (e0x0:Bool) (a0x1:Pt) (n0x1 c0x1:Nat) (e0x1:Bool) (a1:Pt) (n1 c1:Nat) (e1:Bool) (x2x0 x2x1:List Nat) (h:Zaa) (Q:QT) (ht :
 Zcf (h ++ [.cells Zac [.slice a0x0 n0x0 c0x0 e0x0,.slice a0x1 n0x1 c0x1 e0x1] false]) fun A=>Zcf (A ++ [.cells Zab [.str x2x0,.str x2x1] false]) fun B=>Zcd (Zbe B (.ptr (A.length,0)) 2) fun C=>Zai C fun C D=>Zbd C fun C=>Zai D fun D E=>Zbd D fun D=>Zbq E (Zak pg Zeg [.slice a1 n1 c1 e1,.agg [.str C,.str D]] B fun B C=>
 Zec .i64 B fun B=>bcase (decide ((B:Int) ≥ 0)) ((0≤(B:Int)∧(B:Int)≤IntKind.wrap .i64 (B + 1)∧(IntKind.wrap .i64 (B + 1):Int)≤(List.length ([97,98,99,100,101,102]):Nat))∧(Q (.tup [.str (sub ([97,98,99,100,101,102]) B (IntKind.wrap .i64 (B + 1))),.bool true]) C)) (L5 Q h.length 0 A.length 0 a1 n1 c1 e1 (((n1:Nat):Int)) 0 C))):Zak pg Zqd [.agg [.slice a0x0 n0x0 c0x0 e0x0,.slice a0x1 n0x1 c0x1 e0x1],.slice a1 n1 c1 e1,.agg [.str x2x0,.str x2x1]] h Q:=
 Zak.of_body kp (c:=cod fn) (fn:=fn) Go.Proofs.Tryz.func67 (by kernel_rfl) (by kernel_rfl) (Nat.le_of_ble_eq_true (by kernel_rfl))
  (cast (by kernel_rfl) ht)
end Zib
namespace Zsv
noncomputable abbrev fn:Func:=Go.Proofs.Tryz.f39
def kp:Zch:=[]
noncomputable def C (p:List Nat):Code:=(cod fn).sub p
def KR (Q:QT):KT:=Zfd pg fn.results.toList Q
theorem call (a0x0:Pt) (n0x0 c0x0:Nat) (e0x0:Bool) (a0x1:Pt) (n0x1 c0x1:Nat) (e0x1:Bool) (a1:Pt) (n1 c1:Nat) (e1:Bool) (x2x0 x2x1:List Nat) (h:Zaa) (Q:QT) (ht :
 Zcf (h ++ [.cells Zac [.slice a0x0 n0x0 c0x0 e0x0,.slice a0x1 n0x1 c0x1 e0x1] false]) fun A=>Zcf (A ++ [.cells Zbo [.slice a1 n1 c1 e1] false]) fun B=>Zcf (B ++ [.cells Zab [.str x2x0,.str x2x1] false]) fun C=>Zcd (Zbe C (.ptr (h.length,0)) 2) fun D=>Zai D fun D E=>xSl D fun D F G H=>Zai E fun E I=>xSl E fun E J K L=>Zbq I (Zcf (C ++ [.cells Zfc [.slice D F G H,.slice E J K L,.bool false,.fn Zhn [.ptr (h.length,0),.ptr (A.length,0)],.slice none 0 0 true,.str [],.str [],.slice none 0 0 true] false]) fun A=>Zcd (Zbe A (.ptr (B.length,0)) 2) fun B=>Zai B fun B D=>Zbd B fun B=>Zai D fun D E=>Zbd D fun D=>Zbq E (Zak pg Zid [.ptr (C.length,0),.agg [.str B,.str D],.slice none 0 0 true] A fun A B=>
 Zlf A fun A=>Zai A fun A C=>Zbd A fun A=>Zai C fun C D=>Zbd C fun C=>Zbq D (Q (.tup [.str A,.str C]) B)))):Zak pg Zom [.agg [.slice a0x0 n0x0 c0x0 e0x0,.slice a0x1 n0x1 c0x1 e0x1],.slice a1 n1 c1 e1,.agg [.str x2x0,.str x2x1]] h Q:=
 Zak.of_body kp (c:=cod fn) (fn:=fn) Go.Proofs.Tryz.func39 (by kernel_rfl) (by kernel_rfl) (Nat.le_of_ble_eq_true (by kernel_rfl))
  (cast (by kernel_rfl) ht)
end Zsv
namespace Zns
noncomputable abbrev fn:Func:=Go.Proofs.Tryz.f66
def kp:Zch:=[]
noncomputable def C (p:List Nat):Code:=(cod fn).sub p
def KR (Q:QT):KT:=Zfd pg fn.results.toList Q
theorem call (x0x0 x0x1:List Nat) (v1 v2:Zay) (h:Zaa) (Q:QT) (ht :
 Zcf (h ++ [.cells Zab [.str x0x0,.str x0x1] false]) fun A=>Zcd (Zbe A (v1) 2) fun B=>Zai B fun B C=>xSl B fun B D E F=>Zai C fun C G=>xSl C fun C H I J=>Zbq G (xSl (Zag A (v2)) fun G K L M=>Zcd (Zbe A (.ptr (h.length,0)) 2) fun N=>Zai N fun N O=>Zbd N fun N=>Zai O fun O P=>Zbd O fun O=>Zbq P (Zak pg Zqd [.agg [.slice B D E F,.slice C H I J],.slice G K L M,.agg [.str N,.str O]] A fun A B=>
 Zlf A fun A=>Zai A fun A C=>Zbd A fun A=>Zai C fun C D=>Zca C fun C=>Zbq D (Q (.tup [.str A,.bool C]) B)))):Zak pg Zhn [.agg [.str x0x0,.str x0x1],v1,v2] h Q:=
 Zak.of_body kp (c:=cod fn) (fn:=fn) Go.Proofs.Tryz.func66 (by kernel_rfl) (by kernel_rfl) (Nat.le_of_ble_eq_true (by kernel_rfl))
  (cast (by kernel_rfl) ht)
end Zns
namespace Zog
noncomputable abbrev fn:Func:=Go.Proofs.Tryz.f13
def kp:Zch:=[(4000003,[3,1,5])]
noncomputable def C (p:List Nat):Code:=(cod fn).sub p
def KR (Q:QT):KT:=Zfd pg fn.results.toList Q
def J3 (Q:QT) (i3 o3:Nat) (a1:Pt) (n1 c1:Nat) (e1:Bool) (i5 o5:Nat) (h:Zaa):Prop:=Den pg fn.ntmps (C [1,1]) [(3,.ptr (i3,o3)),(1,.slice a1 n1 c1 e1),(5,.ptr (i5,o5))] h (KR Q)
theorem J3i (Q:QT) (i3 o3:Nat) (a1:Pt) (n1 c1:Nat) (e1:Bool) (i5 o5:Nat) (h:Zaa) (ht :
 Zcd (Zbe h (.ptr (i3,o3)) 2) fun A=>Zai A fun A B=>xSl A fun A C D E=>Zai B fun B F=>xSl B fun B G H I=>Zbq F (Zcd (Zbe h (.ptr (i5,o5)) 2) fun F=>Zai F fun F J=>Zbd F fun F=>Zai J fun J K=>Zbd J fun J=>Zbq K (Zak pg Zom [.agg [.slice A C D E,.slice B G H I],.slice a1 n1 c1 e1,.agg [.str F,.str J]] h fun A B=>
 Zlf A fun A=>Zai A fun A C=>Zbd A fun A=>Zai C fun C D=>Zbd C fun C=>Zbq D (Q (.tup [.str A,.str C]) B)))):J3 Q i3 o3 a1 n1 c1 e1 i5 o5 h:=
 Zba (kp:=kp) (cast (by kernel_rfl) ht)
theorem call (a0x0:Pt) (n0x0 c0x0:Nat) (e0x0:Bool) (a0x1:Pt) (n0x1 c0x1:Nat) (e0x1:Bool) (a1:Pt) (n1 c1:Nat) (e1:Bool) (x2x0 x2x1:List Nat) (h:Zaa) (Q:QT) (ht :
 Zcf (h ++ [.cells Zac [.slice a0x0 n0x0 c0x0 e0x0,.slice a0x1 n0x1 c0x1 e0x1] false]) fun A=>Zcf (A ++ [.cells Zab [.str x2x0,.str x2x1] false]) fun B=>Zcd (Zbe B (.ptr (h.length,0)) 2) fun C=>Zai C fun C D=>xSl C fun C E F G=>Zai D fun D H=>xSl D fun D I J K=>Zbq H (Zak pg Zcs [.agg [.slice C E F G,.slice D I J K],.slice a1 n1 c1 e1] B fun B C=>
 Zca B fun B=>bcase (!B) (Q (.tup [.str [],.str ([119,114,111,110,103])]) C) (Zcd (Zbe C (.ptr (h.length,0)) 2) fun B=>Zai B fun B D=>xSl B fun B E F G=>Zai D fun D H=>xSl D fun D I J K=>Zbq H (Zcd (Zbe C (.ptr (A.length,0)) 2) fun H=>Zai H fun H L=>Zbd H fun H=>Zai L fun L M=>Zbd L fun L=>Zbq M (Zak pg Zmo [.agg [.slice B E F G,.slice D I J K],.agg [.str H,.str L]] C fun B C=>
 Zca B fun B=>bcase (!B) (Q (.tup [.str [],.str ([119,114,111,110,103])]) C) (J3 Q h.length 0 a1 n1 c1 e1 A.length 0 C)))))):Zak pg Zll [.agg [.slice a0x0 n0x0 c0x0 e0x0,.slice a0x1 n0x1 c0x1 e0x1],.slice a1 n1 c1 e1,.agg [.str x2x0,.str x2x1]] h Q:=
 Zak.of_body kp (c:=cod fn) (fn:=fn) Go.Proofs.Tryz.func13 (by kernel_rfl) (by kernel_rfl) (Nat.le_of_ble_eq_true (by kernel_rfl))
  (cast (by kernel_rfl) ht)
end Zog
namespace Zvs
noncomputable abbrev fn:Func:=Go.Proofs.Tryz.f14
def kp:Zch:=[]
noncomputable def C (p:List Nat):Code:=(cod fn).sub p
def KR (Q:QT):KT:=Zfd pg fn.results.toList Q
theorem call (a0x0:Pt) (n0x0 c0x0:Nat) (e0x0:Bool) (a0x1:Pt) (n0x1 c0x1:Nat) (e0x1:Bool) (a1:Pt) (n1 c1:Nat) (e1:Bool) (x2x0 x2x1:List Nat) (h:Zaa) (Q:QT) (ht :
 Zcf (h ++ [.cells Zac [.slice a0x0 n0x0 c0x0 e0x0,.slice a0x1 n0x1 c0x1 e0x1] false]) fun A=>Zcf (A ++ [.cells Zab [.str x2x0,.str x2x1] false]) fun B=>Zcd (Zbe B (.ptr (h.length,0)) 2) fun C=>Zai C fun C D=>xSl C fun C E F G=>Zai D fun D H=>xSl D fun D I J K=>Zbq H (Zcd (Zbe B (.ptr (A.length,0)) 2) fun A=>Zai A fun A H=>Zbd A fun A=>Zai H fun H L=>Zbd H fun H=>Zbq L (Zak pg Zll [.agg [.slice C E F G,.slice D I J K],.slice a1 n1 c1 e1,.agg [.str A,.str H]] B fun A B=>
 Zlf A fun A=>Zai A fun A C=>Zbd A fun A=>Zai C fun A C=>Zbd A fun A=>Zbq C (Q (.bool (decide (A=[]))) B)))):Zak pg Zra [.agg [.slice a0x0 n0x0 c0x0 e0x0,.slice a0x1 n0x1 c0x1 e0x1],.slice a1 n1 c1 e1,.agg [.str x2x0,.str x2x1]] h Q:=
 Zak.of_body kp (c:=cod fn) (fn:=fn) Go.Proofs.Tryz.func14 (by kernel_rfl) (by kernel_rfl) (Nat.le_of_ble_eq_true (by kernel_rfl))
  (cast (by kernel_rfl) ht)
end Zvs
end Go.Sim

set_option maxRecDepth 100000
set_option maxHeartbeats 0
set_option linter.unusedVariables false
namespace Go.Sim
open Go Go.RowKit
namespace Zeb
noncomputable abbrev fn:Func:=Go.Proofs.Tryz.f9
def kp:Zch:=[(3000005,[6]),(1000005,[2,6,18,19,20]),(3000009,[20,19,18,2,6]),(1000009,[2,6,8,9,10,18,19,20]),(4000014,[6,11,10,9,8,20,19,18,2]),(4000010,[10,9,8,6,20,19,18,2])]
noncomputable def C (p:List Nat):Code:=(cod fn).sub p
def KR (Q:QT):KT:=Zfd pg fn.results.toList Q
abbrev T5:=Nat→Nat→Pt→Nat→Nat→Bool→Pt→Nat→Nat→Bool→Int→Int→Zaa→Prop
def E5 (R5:T5) (env:Env) (h:Zaa):Prop:=Zbu 2 env fun v env=>Zgn v fun a=>Zbf a fun i2 o2=>Zbu 6 env fun v env=>xSl v fun a6 n6 c6 e6=>Zbu 18 env fun v env=>xSl v fun a18 n18 c18 e18=>Zbu 19 env fun v env=>Zdz .i64 v fun x19=>Zbu 20 env fun v env=>Zdz .i64 v fun x20=>Zil env (R5 i2 o2 a6 n6 c6 e6 a18 n18 c18 e18 x19 x20 h)
theorem Zik {R5:T5} {env:Env} {h:Zaa} (hi:E5 R5 env h):∃ i2,∃ o2,∃ a6,∃ n6,∃ c6,∃ e6,∃ a18,∃ n18,∃ c18,∃ e18,∃ x19,∃ x20,env=[(2,.ptr (i2,o2)),(6,.slice a6 n6 c6 e6),(18,.slice a18 n18 c18 e18),(19,.int .i64 x19),(20,.int .i64 x20)]∧R5 i2 o2 a6 n6 c6 e6 a18 n18 c18 e18 x19 x20 h:=by
 unfold E5 at hi
 have hi0:=hi
 clear hi
 obtain ⟨_,_,rfl,hi1⟩:=Zaf hi0
 obtain ⟨a,rfl,hi2⟩:=Zbn hi1
 obtain ⟨i2,o2,rfl,hi3⟩:=Zbk hi2
 obtain ⟨_,_,rfl,hi4⟩:=Zaf hi3
 obtain ⟨a6,n6,c6,e6,rfl,hi5⟩:=Zbp hi4
 obtain ⟨_,_,rfl,hi6⟩:=Zaf hi5
 obtain ⟨a18,n18,c18,e18,rfl,hi7⟩:=Zbp hi6
 obtain ⟨_,_,rfl,hi8⟩:=Zaf hi7
 obtain ⟨x19,rfl,hi9⟩:=Zav hi8
 obtain ⟨_,_,rfl,hi10⟩:=Zaf hi9
 obtain ⟨x20,rfl,hi11⟩:=Zav hi10
 obtain ⟨rfl,hi12⟩:=Zbl hi11
 have hi:=hi12
 exact ⟨i2,o2,a6,n6,c6,e6,a18,n18,c18,e18,x19,x20,rfl,hi⟩
abbrev T9:=Nat→Nat→Pt→Nat→Nat→Bool→Nat→Nat→List Nat→Int→Pt→Nat→Nat→Bool→Int→Int→Zaa→Prop
def E9 (R9:T9) (env:Env) (h:Zaa):Prop:=Zbu 2 env fun v env=>Zgn v fun a=>Zbf a fun i2 o2=>Zbu 6 env fun v env=>xSl v fun a6 n6 c6 e6=>Zbu 8 env fun v env=>Zgn v fun a=>Zbf a fun i8 o8=>Zbu 9 env fun v env=>Zbd v fun x9=>Zbu 10 env fun v env=>Zdz .i64 v fun x10=>Zbu 18 env fun v env=>xSl v fun a18 n18 c18 e18=>Zbu 19 env fun v env=>Zdz .i64 v fun x19=>Zbu 20 env fun v env=>Zdz .i64 v fun x20=>Zil env (R9 i2 o2 a6 n6 c6 e6 i8 o8 x9 x10 a18 n18 c18 e18 x19 x20 h)
theorem Zny {R9:T9} {env:Env} {h:Zaa} (hi:E9 R9 env h):∃ i2,∃ o2,∃ a6,∃ n6,∃ c6,∃ e6,∃ i8,∃ o8,∃ x9,∃ x10,∃ a18,∃ n18,∃ c18,∃ e18,∃ x19,∃ x20,env=[(2,.ptr (i2,o2)),(6,.slice a6 n6 c6 e6),(8,.ptr (i8,o8)),(9,.str x9),(10,.int .i64 x10),(18,.slice a18 n18 c18 e18),(19,.int .i64 x19),(20,.int .i64 x20)]∧R9 i2 o2 a6 n6 c6 e6 i8 o8 x9 x10 a18 n18 c18 e18 x19 x20 h:=by
 unfold E9 at hi
 have hi0:=hi
 clear hi
 obtain ⟨_,_,rfl,hi1⟩:=Zaf hi0
 obtain ⟨a,rfl,hi2⟩:=Zbn hi1
 obtain ⟨i2,o2,rfl,hi3⟩:=Zbk hi2
 obtain ⟨_,_,rfl,hi4⟩:=Zaf hi3
 obtain ⟨a6,n6,c6,e6,rfl,hi5⟩:=Zbp hi4
 obtain ⟨_,_,rfl,hi6⟩:=Zaf hi5
 obtain ⟨a,rfl,hi7⟩:=Zbn hi6
 obtain ⟨i8,o8,rfl,hi8⟩:=Zbk hi7
 obtain ⟨_,_,rfl,hi9⟩:=Zaf hi8
 obtain ⟨x9,rfl,hi10⟩:=Zed hi9
 obtain ⟨_,_,rfl,hi11⟩:=Zaf hi10
 obtain ⟨x10,rfl,hi12⟩:=Zav hi11
 obtain ⟨_,_,rfl,hi13⟩:=Zaf hi12
 obtain ⟨a18,n18,c18,e18,rfl,hi14⟩:=Zbp hi13
 obtain ⟨_,_,rfl,hi15⟩:=Zaf hi14
 obtain ⟨x19,rfl,hi16⟩:=Zav hi15
 obtain ⟨_,_,rfl,hi17⟩:=Zaf hi16
 obtain ⟨x20,rfl,hi18⟩:=Zav hi17
 obtain ⟨rfl,hi19⟩:=Zbl hi18
 have hi:=hi19
 exact ⟨i2,o2,a6,n6,c6,e6,i8,o8,x9,x10,a18,n18,c18,e18,x19,x20,rfl,hi⟩
def K0 (Q:QT):KT:=andThen (fun env' h'=>(match kp.find 4000017 with | some ks=>Den pg fn.ntmps (C [1,1,1,1]) (env'.keep ks) h' (KR Q) | none=>den pg fn.ntmps kp (C [1,1,1,1]) env' h' (KR Q))) (KR Q)
def K1 (Q:QT):KT:=Zcj 0 (K0 Q)
def K2 (Q:QT):KT:=left kp 5 (K1 Q)
def K3 (Q:QT) (R5:T5):KT:=rnd ((kp.find 1000005).getD []) (E5 R5) (K2 Q)
def K4 (Q:QT) (R5:T5):KT:=andThen (fun env' h'=>(match kp.find 4000016 with | some ks=>Den pg fn.ntmps (C [1,1,1,0,1,0,0,1,1,1]) (env'.keep ks) h' (K3 Q R5) | none=>den pg fn.ntmps kp (C [1,1,1,0,1,0,0,1,1,1]) env' h' (K3 Q R5))) (K3 Q R5)
def K5 (Q:QT) (R5:T5):KT:=Zcj 1 (K4 Q R5)
def K6 (Q:QT) (R5:T5):KT:=Zcj 2 (K5 Q R5)
def K7 (Q:QT) (R5:T5):KT:=left kp 9 (K6 Q R5)
def K8 (Q:QT) (R5:T5) (R9:T9):KT:=rnd ((kp.find 1000009).getD []) (E9 R9) (K7 Q R5)
def K9 (Q:QT) (R5:T5) (R9:T9):KT:=andThen (fun env' h'=>(match kp.find 4000010 with | some ks=>Den pg fn.ntmps (C [1,1,1,0,1,0,0,1,1,0,0,1,1,1,0,0,1,1]) (env'.keep ks) h' (K8 Q R5 R9) | none=>den pg fn.ntmps kp (C [1,1,1,0,1,0,0,1,1,0,0,1,1,1,0,0,1,1]) env' h' (K8 Q R5 R9))) (K8 Q R5 R9)
def K10 (Q:QT) (R5:T5) (R9:T9):KT:=Zcj 3 (K9 Q R5 R9)
def L5 (Q:QT) (i2 o2:Nat) (a6:Pt) (n6 c6:Nat) (e6:Bool) (a18:Pt) (n18 c18:Nat) (e18:Bool) (x19 x20:Int) (h:Zaa):Prop:=Zej (Den pg fn.ntmps (C [1,1,1,0,1,0,0])) ((kp.find 1000005).getD []) (K2 Q) [(2,.ptr (i2,o2)),(6,.slice a6 n6 c6 e6),(18,.slice a18 n18 c18 e18),(19,.int .i64 x19),(20,.int .i64 x20)] h
def L9 (Q:QT) (R5:T5) (i2 o2:Nat) (a6:Pt) (n6 c6:Nat) (e6:Bool) (i8 o8:Nat) (x9:List Nat) (x10:Int) (a18:Pt) (n18 c18:Nat) (e18:Bool) (x19 x20:Int) (h:Zaa):Prop:=Zej (Den pg fn.ntmps (C [1,1,1,0,1,0,0,1,1,0,0,1,1,1,0,0])) ((kp.find 1000009).getD []) (K7 Q R5) [(2,.ptr (i2,o2)),(6,.slice a6 n6 c6 e6),(8,.ptr (i8,o8)),(9,.str x9),(10,.int .i64 x10),(18,.slice a18 n18 c18 e18),(19,.int .i64 x19),(20,.int .i64 x20)] h
def A5x0 (Q:QT) (a6:Pt) (n6 c6:Nat) (e6:Bool) (h:Zaa):Prop:=At (K1 Q) (.exit 0) [(6,.slice a6 n6 c6 e6)] h
def J14 (Q:QT) (R5:T5) (R9:T9) (a6:Pt) (n6 c6:Nat) (e6:Bool) (i11 o11:Nat) (x10:Int) (x9:List Nat) (i8 o8:Nat) (x20 x19:Int) (a18:Pt) (n18 c18:Nat) (e18:Bool) (i2 o2:Nat) (h:Zaa):Prop:=Den pg fn.ntmps (C [1,1,1,0,1,0,0,1,1,0,0,1,1,1,0,0,1,0,0,1,1]) [(6,.slice a6 n6 c6 e6),(11,.ptr (i11,o11)),(10,.int .i64 x10),(9,.str x9),(8,.ptr (i8,o8)),(20,.int .i64 x20),(19,.int .i64 x19),(18,.slice a18 n18 c18 e18),(2,.ptr (i2,o2))] h (K10 Q R5 R9)
def A9x2 (Q:QT) (R5:T5) (x20 x19:Int) (a18:Pt) (n18 c18:Nat) (e18:Bool) (i2 o2:Nat) (a6:Pt) (n6 c6:Nat) (e6:Bool) (h:Zaa):Prop:=At (K6 Q R5) (.exit 2) [(20,.int .i64 x20),(19,.int .i64 x19),(18,.slice a18 n18 c18 e18),(2,.ptr (i2,o2)),(6,.slice a6 n6 c6 e6)] h
def J10 (Q:QT) (R5:T5) (R9:T9) (x10:Int) (x9:List Nat) (i8 o8:Nat) (a6:Pt) (n6 c6:Nat) (e6:Bool) (x20 x19:Int) (a18:Pt) (n18 c18:Nat) (e18:Bool) (i2 o2:Nat) (h:Zaa):Prop:=Den pg fn.ntmps (C [1,1,1,0,1,0,0,1,1,0,0,1,1,1,0,0,1,1]) [(10,.int .i64 x10),(9,.str x9),(8,.ptr (i8,o8)),(6,.slice a6 n6 c6 e6),(20,.int .i64 x20),(19,.int .i64 x19),(18,.slice a18 n18 c18 e18),(2,.ptr (i2,o2))] h (K8 Q R5 R9)
def L5t (Q:QT) (R5:T5) (i2 o2:Nat) (a6:Pt) (n6 c6:Nat) (e6:Bool) (a18:Pt) (n18 c18:Nat) (e18:Bool) (x19 x20:Int) (h:Zaa):Prop:=
 bcase (decide ((x20:Int) < x19)) ((0≤(x20:Int)∧(x20:Int) < (n18:Nat))∧(Zbf a18 fun A B=>Zcd (Zbe h (.ptr (A,B + (Int.toNat x20) * 2)) 2) fun A=>Zai A fun A B=>Zbd A fun A=>Zai B fun B C=>Zbd B fun B=>Zbq C (Zcf (h ++ [.cells Zab [.str [],.str []] false]) fun C=>Zbt (Zbb C (.ptr (h.length,0)) [.str A,.str B]) fun A=>Zcd (Zbe A (.ptr (i2,o2)) 2) fun B=>Zai B fun B C=>xSl B fun B D E F=>Zai C fun C G=>xSl C fun C H I J=>Zbq G (Zbd (Zag A (.ptr (h.length,0 + 0))) fun G=>Zak pg Zpu [.agg [.slice B D E F,.slice C H I J],.str G] A fun A B=>
 Zbd A fun A=>L9 Q R5 i2 o2 a6 n6 c6 e6 h.length 0 A (-1) a18 n18 c18 e18 x19 x20 B)))) (A5x0 Q a6 n6 c6 e6 h)
theorem Ztv (Q:QT) (R5:T5) (i2 o2:Nat) (a6:Pt) (n6 c6:Nat) (e6:Bool) (a18:Pt) (n18 c18:Nat) (e18:Bool) (x19 x20:Int) (h:Zaa) (ht:L5t Q R5 i2 o2 a6 n6 c6 e6 a18 n18 c18 e18 x19 x20 h):Den pg fn.ntmps (C [1,1,1,0,1,0,0]) [(2,.ptr (i2,o2)),(6,.slice a6 n6 c6 e6),(18,.slice a18 n18 c18 e18),(19,.int .i64 x19),(20,.int .i64 x20)] h (K3 Q R5):=
 Zba (kp:=kp) (cast (by kernel_rfl) ht)
theorem L5ind (Q:QT) (i2 o2:Nat) (a18:Pt) (n18 c18:Nat) (e18:Bool) (x19:Int) {G:Type} (J:G→Pt→Nat→Nat→Bool→Int→Zaa→Prop) (m:G→Nat)
 (hr:∀ (g:G) (a6:Pt) (n6 c6:Nat) (e6:Bool) (x20:Int) (h:Zaa),J g a6 n6 c6 e6 x20 h→∀ (R5:T5),(∀ g' (a6:Pt) (n6 c6:Nat) (e6:Bool) (x20:Int) (h:Zaa),m g' < m g→J g' a6 n6 c6 e6 x20 h→R5 i2 o2 a6 n6 c6 e6 a18 n18 c18 e18 x19 x20 h)→L5t Q R5 i2 o2 a6 n6 c6 e6 a18 n18 c18 e18 x19 x20 h)
 (g:G) (a6:Pt) (n6 c6:Nat) (e6:Bool) (x20:Int) (h:Zaa) (hj:J g a6 n6 c6 e6 x20 h):L5 Q i2 o2 a6 n6 c6 e6 a18 n18 c18 e18 x19 x20 h:=by
 let P:=fun (K:Pt→Nat→Nat→Bool→Int→Zaa→Prop) i2' o2' a6 n6 c6 e6 a18' n18' c18' e18' x19' x20 h=>i2=i2'∧o2=o2'∧a18=a18'∧n18=n18'∧c18=c18'∧e18=e18'∧x19=x19'∧K a6 n6 c6 e6 x20 h
 refine Zej.inv2 (fun g=>E5 (P (J g))) (fun g=>E5 (P fun a6 n6 c6 e6 x20 h=>∃ g',m g' < m g∧J g' a6 n6 c6 e6 x20 h)) m ?_ ?_ g ⟨rfl,rfl,rfl,rfl,rfl,rfl,rfl,hj⟩
 ·intro g env h hi
  obtain ⟨i2',o2',a6,n6,c6,e6,a18',n18',c18',e18',x19',x20,rfl,rfl,rfl,rfl,rfl,rfl,rfl,rfl,hj⟩:=Zik hi
  exact Ztv Q _ i2 o2 a6 n6 c6 e6 a18 n18 c18 e18 x19 x20 h (hr g a6 n6 c6 e6 x20 h hj (P fun a6 n6 c6 e6 x20 h=>∃ g',m g' < m g∧J g' a6 n6 c6 e6 x20 h) fun g' a6 n6 c6 e6 x20 h hlt hj=>⟨rfl,rfl,rfl,rfl,rfl,rfl,rfl,g',hlt,hj⟩)
 ·intro g env h hi
  obtain ⟨i2',o2',a6,n6,c6,e6,a18',n18',c18',e18',x19',x20,rfl,rfl,rfl,rfl,rfl,rfl,rfl,rfl,g',hlt,hj⟩:=Zik hi
  exact ⟨g',hlt,rfl,rfl,rfl,rfl,rfl,rfl,rfl,hj⟩
def L9t (Q:QT) (R5:T5) (R9:T9) (i2 o2:Nat) (a6:Pt) (n6 c6:Nat) (e6:Bool) (i8 o8:Nat) (x9:List Nat) (x10:Int) (a18:Pt) (n18 c18:Nat) (e18:Bool) (x19 x20:Int) (h:Zaa):Prop:=
 bcase (decide ((x10:Int) < (((List.length x9:Nat):Int)))) (Zcd (Zbe h (.ptr (i8,o8)) 2) fun A=>Zai A fun A B=>Zbd A fun A=>Zai B fun B C=>Zbd B fun B=>Zbq C (Zcf (h ++ [.cells Zab [.str [],.str []] false]) fun C=>Zbt (Zbb C (.ptr (h.length,0)) [.str A,.str B]) fun A=>bcase (decide ((x10:Int) ≥ 0)) ((0≤(x10:Int)∧(x10:Int)≤IntKind.wrap .i64 (x10 + 1)∧(IntKind.wrap .i64 (x10 + 1):Int)≤(List.length x9:Nat))∧(Zbt (Zbb A (.ptr (h.length,0 + 0)) [.str (sub x9 x10 (IntKind.wrap .i64 (x10 + 1)))]) fun B=>J14 Q R5 R9 a6 n6 c6 e6 h.length 0 x10 x9 i8 o8 x20 x19 a18 n18 c18 e18 i2 o2 B)) (J14 Q R5 R9 a6 n6 c6 e6 h.length 0 x10 x9 i8 o8 x20 x19 a18 n18 c18 e18 i2 o2 A))) (A9x2 Q R5 x20 x19 a18 n18 c18 e18 i2 o2 a6 n6 c6 e6 h)
theorem Ybi (Q:QT) (R5:T5) (R9:T9) (i2 o2:Nat) (a6:Pt) (n6 c6:Nat) (e6:Bool) (i8 o8:Nat) (x9:List Nat) (x10:Int) (a18:Pt) (n18 c18:Nat) (e18:Bool) (x19 x20:Int) (h:Zaa) (ht:L9t Q R5 R9 i2 o2 a6 n6 c6 e6 i8 o8 x9 x10 a18 n18 c18 e18 x19 x20 h):Den pg fn.ntmps (C [1,1,1,0,1,0,0,1,1,0,0,1,1,1,0,0]) [(2,.ptr (i2,o2)),(6,.slice a6 n6 c6 e6),(8,.ptr (i8,o8)),(9,.str x9),(10,.int .i64 x10),(18,.slice a18 n18 c18 e18),(19,.int .i64 x19),(20,.int .i64 x20)] h (K8 Q R5 R9):=
 Zba (kp:=kp) (cast (by kernel_rfl) ht)
theorem L9ind (Q:QT) (R5:T5) (i2 o2 i8 o8:Nat) (x9:List Nat) (a18:Pt) (n18 c18:Nat) (e18:Bool) (x19 x20:Int) {G:Type} (J:G→Pt→Nat→Nat→Bool→Int→Zaa→Prop) (m:G→Nat)
 (hr:∀ (g:G) (a6:Pt) (n6 c6:Nat) (e6:Bool) (x10:Int) (h:Zaa),J g a6 n6 c6 e6 x10 h→∀ (R9:T9),(∀ g' (a6:Pt) (n6 c6:Nat) (e6:Bool) (x10:Int) (h:Zaa),m g' < m g→J g' a6 n6 c6 e6 x10 h→R9 i2 o2 a6 n6 c6 e6 i8 o8 x9 x10 a18 n18 c18 e18 x19 x20 h)→L9t Q R5 R9 i2 o2 a6 n6 c6 e6 i8 o8 x9 x10 a18 n18 c18 e18 x19 x20 h)
 (g:G) (a6:Pt) (n6 c6:Nat) (e6:Bool) (x10:Int) (h:Zaa) (hj:J g a6 n6 c6 e6 x10 h):L9 Q R5 i2 o2 a6 n6 c6 e6 i8 o8 x9 x10 a18 n18 c18 e18 x19 x20 h:=by
 let P:=fun (K:Pt→Nat→Nat→Bool→Int→Zaa→Prop) i2' o2' a6 n6 c6 e6 i8' o8' x9' x10 a18' n18' c18' e18' x19' x20' h=>i2=i2'∧o2=o2'∧i8=i8'∧o8=o8'∧x9=x9'∧a18=a18'∧n18=n18'∧c18=c18'∧e18=e18'∧x19=x19'∧x20=x20'∧K a6 n6 c6 e6 x10 h
 refine Zej.inv2 (fun g=>E9 (P (J g))) (fun g=>E9 (P fun a6 n6 c6 e6 x10 h=>∃ g',m g' < m g∧J g' a6 n6 c6 e6 x10 h)) m ?_ ?_ g ⟨rfl,rfl,rfl,rfl,rfl,rfl,rfl,rfl,rfl,rfl,rfl,hj⟩
 ·intro g env h hi
  obtain ⟨i2',o2',a6,n6,c6,e6,i8',o8',x9',x10,a18',n18',c18',e18',x19',x20',rfl,rfl,rfl,rfl,rfl,rfl,rfl,rfl,rfl,rfl,rfl,rfl,hj⟩:=Zny hi
  exact Ybi Q R5 (P fun a6 n6 c6 e6 x10 h=>∃ g',m g' < m g∧J g' a6 n6 c6 e6 x10 h) i2 o2 a6 n6 c6 e6 i8 o8 x9 x10 a18 n18 c18 e18 x19 x20 h (hr g a6 n6 c6 e6 x10 h hj (P fun a6 n6 c6 e6 x10 h=>∃ g',m g' < m g∧J g' a6 n6 c6 e6 x10 h) fun g' a6 n6 c6 e6 x10 h hlt hj=>⟨rfl,rfl,rfl,rfl,rfl,rfl,rfl,rfl,rfl,rfl,rfl,g',hlt,hj⟩)
 ·intro g env h hi
  obtain ⟨i2',o2',a6,n6,c6,e6,i8',o8',x9',x10,a18',n18',c18',e18',x19',x20',rfl,rfl,rfl,rfl,rfl,rfl,rfl,rfl,rfl,rfl,rfl,rfl,g',hlt,hj⟩:=Zny hi
  exact ⟨g',hlt,rfl,rfl,rfl,rfl,rfl,rfl,rfl,rfl,rfl,rfl,rfl,hj⟩
theorem A5x0i (Q:QT) (a6:Pt) (n6 c6:Nat) (e6:Bool) (h:Zaa) (ht :
 Q (.tup [.slice a6 n6 c6 e6,.bool true]) h):A5x0 Q a6 n6 c6 e6 h:=
 At.mk (cast (by kernel_rfl) ht)
theorem J14i (Q:QT) (R5:T5) (R9:T9) (a6:Pt) (n6 c6:Nat) (e6:Bool) (i11 o11:Nat) (x10:Int) (x9:List Nat) (i8 o8:Nat) (x20 x19:Int) (a18:Pt) (n18 c18:Nat) (e18:Bool) (i2 o2:Nat) (h:Zaa) (ht :
 Zcd (Zbe h (.ptr (i11,o11)) 2) fun A=>Zai A fun A B=>Zbd A fun A=>Zai B fun B C=>Zbd B fun B=>Zbq C (Zak pg Zwe [.slice a6 n6 c6 e6,.agg [.str A,.str B]] h fun A B=>
 Zca A fun A=>bcase (!A) (Zcd (Zbe B (.ptr (i11,o11)) 2) fun A=>Zai A fun A C=>Zbd A fun A=>Zai C fun C D=>Zbd C fun C=>Zbq D (Zcf (B ++ [.cells Zab [.str A,.str C] false]) fun A=>Zci pg Zbo A (.slice a6 n6 c6 e6) (.slice (B.length,0) 1 1 true) fun A C=>xSl A fun A D E F=>J10 Q R5 R9 x10 x9 i8 o8 A D E F x20 x19 a18 n18 c18 e18 i2 o2 C)) (J10 Q R5 R9 x10 x9 i8 o8 a6 n6 c6 e6 x20 x19 a18 n18 c18 e18 i2 o2 B))):J14 Q R5 R9 a6 n6 c6 e6 i11 o11 x10 x9 i8 o8 x20 x19 a18 n18 c18 e18 i2 o2 h:=
 Zba (kp:=kp) (cast (by kernel_rfl) ht)
theorem A9x2i (Q:QT) (R5:T5) (x20 x19:Int) (a18:Pt) (n18 c18:Nat) (e18:Bool) (i2 o2:Nat) (a6:Pt) (n6 c6:Nat) (e6:Bool) (h:Zaa) (ht :
 R5 i2 o2 a6 n6 c6 e6 a18 n18 c18 e18 x19 (IntKind.wrap .i64 (x20 + 1)) h):A9x2 Q R5 x20 x19 a18 n18 c18 e18 i2 o2 a6 n6 c6 e6 h:=
 At.mk (cast (by kernel_rfl) ht)
theorem J10i (Q:QT) (R5:T5) (R9:T9) (x10:Int) (x9:List Nat) (i8 o8:Nat) (a6:Pt) (n6 c6:Nat) (e6:Bool) (x20 x19:Int) (a18:Pt) (n18 c18:Nat) (e18:Bool) (i2 o2:Nat) (h:Zaa) (ht :
 R9 i2 o2 a6 n6 c6 e6 i8 o8 x9 (IntKind.wrap .i64 (x10 + 1)) a18 n18 c18 e18 x19 x20 h):J10 Q R5 R9 x10 x9 i8 o8 a6 n6 c6 e6 x20 x19 a18 n18 c18 e18 i2 o2 h:=
 Zba (kp:=kp) (cast (by kernel_rfl) ht)
theorem call (a0x0:Pt) (n0x0 c0x0:Nat) (e0x0:Bool) (a0x1:Pt) (n0x1 c0x1:Nat) (e0x1:Bool) (a1:Pt) (n1 c1:Nat) (e1:Bool) (h:Zaa) (Q:QT) (ht :
 Zcf (h ++ [.cells Zac [.slice a0x0 n0x0 c0x0 e0x0,.slice a0x1 n0x1 c0x1 e0x1] false]) fun A=>Zcf (A ++ [.cells Zab [] false]) fun B=>Zcd (Zbe B (.ptr (h.length,0)) 2) fun C=>Zai C fun C D=>xSl C fun C E F G=>Zai D fun D H=>xSl D fun D I J K=>Zbq H (Zak pg Zer [.agg [.slice C E F G,.slice D I J K],.slice a1 n1 c1 e1] B fun B C=>
 Zca B fun B=>bcase (!B) (Q (.tup [.slice (A.length,0) 0 0 true,.bool false]) C) (L5 Q h.length 0 (A.length,0) 0 0 true a1 n1 c1 e1 (((n1:Nat):Int)) 0 C))):Zak pg Zoh [.agg [.slice a0x0 n0x0 c0x0 e0x0,.slice a0x1 n0x1 c0x1 e0x1],.slice a1 n1 c1 e1] h Q:=
 Zak.of_body kp (c:=cod fn) (fn:=fn) Go.Proofs.Tryz.func9 (by kernel_rfl) (by kernel_rfl) (Nat.le_of_ble_eq_true (by kernel_rfl))
  (cast (by kernel_rfl) ht)
end Zeb
end Go.Sim

set_option maxRecDepth 100000
set_option maxHeartbeats 0
set_option linter.unusedVariables false
namespace Go.Sim
open Go Go.RowKit
namespace Zgc
noncomputable abbrev fn:Func:=Go.Proofs.Tryz.f8
def kp:Zch:=[(3000005,[6]),(1000005,[2,6,16,17,18]),(3000009,[18,17,16,6,2]),(1000009,[2,6,8,16,17,18,29,30,31])]
noncomputable def C (p:List Nat):Code:=(cod fn).sub p
def KR (Q:QT):KT:=Zfd pg fn.results.toList Q
abbrev T5:=Nat→Nat→Pt→Nat→Nat→Bool→Pt→Nat→Nat→Bool→Int→Int→Zaa→Prop
def E5 (R5:T5) (env:Env) (h:Zaa):Prop:=Zbu 2 env fun v env=>Zgn v fun a=>Zbf a fun i2 o2=>Zbu 6 env fun v env=>xSl v fun a6 n6 c6 e6=>Zbu 16 env fun v env=>xSl v fun a16 n16 c16 e16=>Zbu 17 env fun v env=>Zdz .i64 v fun x17=>Zbu 18 env fun v env=>Zdz .i64 v fun x18=>Zil env (R5 i2 o2 a6 n6 c6 e6 a16 n16 c16 e16 x17 x18 h)
theorem Zik {R5:T5} {env:Env} {h:Zaa} (hi:E5 R5 env h):∃ i2,∃ o2,∃ a6,∃ n6,∃ c6,∃ e6,∃ a16,∃ n16,∃ c16,∃ e16,∃ x17,∃ x18,env=[(2,.ptr (i2,o2)),(6,.slice a6 n6 c6 e6),(16,.slice a16 n16 c16 e16),(17,.int .i64 x17),(18,.int .i64 x18)]∧R5 i2 o2 a6 n6 c6 e6 a16 n16 c16 e16 x17 x18 h:=by
 unfold E5 at hi
 have hi0:=hi
 clear hi
 obtain ⟨_,_,rfl,hi1⟩:=Zaf hi0
 obtain ⟨a,rfl,hi2⟩:=Zbn hi1
 obtain ⟨i2,o2,rfl,hi3⟩:=Zbk hi2
 obtain ⟨_,_,rfl,hi4⟩:=Zaf hi3
 obtain ⟨a6,n6,c6,e6,rfl,hi5⟩:=Zbp hi4
 obtain ⟨_,_,rfl,hi6⟩:=Zaf hi5
 obtain ⟨a16,n16,c16,e16,rfl,hi7⟩:=Zbp hi6
 obtain ⟨_,_,rfl,hi8⟩:=Zaf hi7
 obtain ⟨x17,rfl,hi9⟩:=Zav hi8
 obtain ⟨_,_,rfl,hi10⟩:=Zaf hi9
 obtain ⟨x18,rfl,hi11⟩:=Zav hi10
 obtain ⟨rfl,hi12⟩:=Zbl hi11
 have hi:=hi12
 exact ⟨i2,o2,a6,n6,c6,e6,a16,n16,c16,e16,x17,x18,rfl,hi⟩
abbrev T9:=Nat→Nat→Pt→Nat→Nat→Bool→Nat→Nat→Pt→Nat→Nat→Bool→Int→Int→Pt→Nat→Nat→Bool→Int→Int→Zaa→Prop
def E9 (R9:T9) (env:Env) (h:Zaa):Prop:=Zbu 2 env fun v env=>Zgn v fun a=>Zbf a fun i2 o2=>Zbu 6 env fun v env=>xSl v fun a6 n6 c6 e6=>Zbu 8 env fun v env=>Zgn v fun a=>Zbf a fun i8 o8=>Zbu 16 env fun v env=>xSl v fun a16 n16 c16 e16=>Zbu 17 env fun v env=>Zdz .i64 v fun x17=>Zbu 18 env fun v env=>Zdz .i64 v fun x18=>Zbu 29 env fun v env=>xSl v fun a29 n29 c29 e29=>Zbu 30 env fun v env=>Zdz .i64 v fun x30=>Zbu 31 env fun v env=>Zdz .i64 v fun x31=>Zil env (R9 i2 o2 a6 n6 c6 e6 i8 o8 a16 n16 c16 e16 x17 x18 a29 n29 c29 e29 x30 x31 h)
theorem Zny {R9:T9} {env:Env} {h:Zaa} (hi:E9 R9 env h):∃ i2,∃ o2,∃ a6,∃ n6,∃ c6,∃ e6,∃ i8,∃ o8,∃ a16,∃ n16,∃ c16,∃ e16,∃ x17,∃ x18,∃ a29,∃ n29,∃ c29,∃ e29,∃ x30,∃ x31,env=[(2,.ptr (i2,o2)),(6,.slice a6 n6 c6 e6),(8,.ptr (i8,o8)),(16,.slice a16 n16 c16 e16),(17,.int .i64 x17),(18,.int .i64 x18),(29,.slice a29 n29 c29 e29),(30,.int .i64 x30),(31,.int .i64 x31)]∧R9 i2 o2 a6 n6 c6 e6 i8 o8 a16 n16 c16 e16 x17 x18 a29 n29 c29 e29 x30 x31 h:=by
 unfold E9 at hi
 have hi0:=hi
 clear hi
 obtain ⟨_,_,rfl,hi1⟩:=Zaf hi0
 obtain ⟨a,rfl,hi2⟩:=Zbn hi1
 obtain ⟨i2,o2,rfl,hi3⟩:=Zbk hi2
 obtain ⟨_,_,rfl,hi4⟩:=Zaf hi3
 obtain ⟨a6,n6,c6,e6,rfl,hi5⟩:=Zbp hi4
 obtain ⟨_,_,rfl,hi6⟩:=Zaf hi5
 obtain ⟨a,rfl,hi7⟩:=Zbn hi6
 obtain ⟨i8,o8,rfl,hi8⟩:=Zbk hi7
 obtain ⟨_,_,rfl,hi9⟩:=Zaf hi8
 obtain ⟨a16,n16,c16,e16,rfl,hi10⟩:=Zbp hi9
 obtain ⟨_,_,rfl,hi11⟩:=Zaf hi10
 obtain ⟨x17,rfl,hi12⟩:=Zav hi11
 obtain ⟨_,_,rfl,hi13⟩:=Zaf hi12
 obtain ⟨x18,rfl,hi14⟩:=Zav hi13
 obtain ⟨_,_,rfl,hi15⟩:=Zaf hi14
 obtain ⟨a29,n29,c29,e29,rfl,hi16⟩:=Zbp hi15
 obtain ⟨_,_,rfl,hi17⟩:=Zaf hi16
 obtain ⟨x30,rfl,hi18⟩:=Zav hi17
 obtain ⟨_,_,rfl,hi19⟩:=Zaf hi18
 obtain ⟨x31,rfl,hi20⟩:=Zav hi19
 obtain ⟨rfl,hi21⟩:=Zbl hi20
 have hi:=hi21
 exact ⟨i2,o2,a6,n6,c6,e6,i8,o8,a16,n16,c16,e16,x17,x18,a29,n29,c29,e29,x30,x31,rfl,hi⟩
def K0 (Q:QT):KT:=andThen (fun env' h'=>(match kp.find 4000014 with | some ks=>Den pg fn.ntmps (C [1,1,1,1]) (env'.keep ks) h' (KR Q) | none=>den pg fn.ntmps kp (C [1,1,1,1]) env' h' (KR Q))) (KR Q)
def K1 (Q:QT):KT:=Zcj 0 (K0 Q)
def K2 (Q:QT):KT:=left kp 5 (K1 Q)
def K3 (Q:QT) (R5:T5):KT:=rnd ((kp.find 1000005).getD []) (E5 R5) (K2 Q)
def K4 (Q:QT) (R5:T5):KT:=andThen (fun env' h'=>(match kp.find 4000013 with | some ks=>Den pg fn.ntmps (C [1,1,1,0,1,0,0,1,1,1]) (env'.keep ks) h' (K3 Q R5) | none=>den pg fn.ntmps kp (C [1,1,1,0,1,0,0,1,1,1]) env' h' (K3 Q R5))) (K3 Q R5)
def K5 (Q:QT) (R5:T5):KT:=Zcj 1 (K4 Q R5)
def K6 (Q:QT) (R5:T5):KT:=Zcj 2 (K5 Q R5)
def K7 (Q:QT) (R5:T5):KT:=left kp 9 (K6 Q R5)
def K8 (Q:QT) (R5:T5) (R9:T9):KT:=rnd ((kp.find 1000009).getD []) (E9 R9) (K7 Q R5)
def L5 (Q:QT) (i2 o2:Nat) (a6:Pt) (n6 c6:Nat) (e6:Bool) (a16:Pt) (n16 c16:Nat) (e16:Bool) (x17 x18:Int) (h:Zaa):Prop:=Zej (Den pg fn.ntmps (C [1,1,1,0,1,0,0])) ((kp.find 1000005).getD []) (K2 Q) [(2,.ptr (i2,o2)),(6,.slice a6 n6 c6 e6),(16,.slice a16 n16 c16 e16),(17,.int .i64 x17),(18,.int .i64 x18)] h
def L9 (Q:QT) (R5:T5) (i2 o2:Nat) (a6:Pt) (n6 c6:Nat) (e6:Bool) (i8 o8:Nat) (a16:Pt) (n16 c16:Nat) (e16:Bool) (x17 x18:Int) (a29:Pt) (n29 c29:Nat) (e29:Bool) (x30 x31:Int) (h:Zaa):Prop:=Zej (Den pg fn.ntmps (C [1,1,1,0,1,0,0,1,1,0,0,1,1,1,0,0])) ((kp.find 1000009).getD []) (K7 Q R5) [(2,.ptr (i2,o2)),(6,.slice a6 n6 c6 e6),(8,.ptr (i8,o8)),(16,.slice a16 n16 c16 e16),(17,.int .i64 x17),(18,.int .i64 x18),(29,.slice a29 n29 c29 e29),(30,.int .i64 x30),(31,.int .i64 x31)] h
def A5x0 (Q:QT) (a6:Pt) (n6 c6:Nat) (e6:Bool) (h:Zaa):Prop:=At (K1 Q) (.exit 0) [(6,.slice a6 n6 c6 e6)] h
def A9x2 (Q:QT) (R5:T5) (x18 x17:Int) (a16:Pt) (n16 c16:Nat) (e16:Bool) (a6:Pt) (n6 c6:Nat) (e6:Bool) (i2 o2:Nat) (h:Zaa):Prop:=At (K6 Q R5) (.exit 2) [(18,.int .i64 x18),(17,.int .i64 x17),(16,.slice a16 n16 c16 e16),(6,.slice a6 n6 c6 e6),(2,.ptr (i2,o2))] h
def L5t (Q:QT) (R5:T5) (i2 o2:Nat) (a6:Pt) (n6 c6:Nat) (e6:Bool) (a16:Pt) (n16 c16:Nat) (e16:Bool) (x17 x18:Int) (h:Zaa):Prop:=
 bcase (decide ((x18:Int) < x17)) ((0≤(x18:Int)∧(x18:Int) < (n16:Nat))∧(Zbf a16 fun A B=>Zcd (Zbe h (.ptr (A,B + (Int.toNat x18) * 2)) 2) fun A=>Zai A fun A B=>Zbd A fun A=>Zai B fun B C=>Zbd B fun B=>Zbq C (Zcf (h ++ [.cells Zab [.str [],.str []] false]) fun C=>Zbt (Zbb C (.ptr (h.length,0)) [.str A,.str B]) fun A=>Zcd (Zbe A (.ptr (h.length,0)) 2) fun B=>Zai B fun B C=>Zbd B fun B=>Zai C fun C D=>Zbd C fun C=>Zbq D (Zcf (A ++ [.cells Zab [.str B,.str C] false]) fun B=>Zak pg Zsa [.slice a6 n6 c6 e6,.slice (A.length,0) 1 1 true] B fun A B=>
 xSl A fun A C D E=>Zcd (Zbe B (.ptr (i2,o2)) 2) fun F=>Zai F fun F G=>xSl F fun F H I J=>Zai G fun G K=>xSl G fun G L M N=>Zbq K (Zbd (Zag B (.ptr (h.length,0 + 0))) fun K=>Zak pg Zpb [.agg [.slice F H I J,.slice G L M N],.str K] B fun B F=>
 xSl B fun B G H I=>L9 Q R5 i2 o2 A C D E h.length 0 a16 n16 c16 e16 x17 x18 B G H I (((G:Nat):Int)) 0 F))))) (A5x0 Q a6 n6 c6 e6 h)
theorem Ztv (Q:QT) (R5:T5) (i2 o2:Nat) (a6:Pt) (n6 c6:Nat) (e6:Bool) (a16:Pt) (n16 c16:Nat) (e16:Bool) (x17 x18:Int) (h:Zaa) (ht:L5t Q R5 i2 o2 a6 n6 c6 e6 a16 n16 c16 e16 x17 x18 h):Den pg fn.ntmps (C [1,1,1,0,1,0,0]) [(2,.ptr (i2,o2)),(6,.slice a6 n6 c6 e6),(16,.slice a16 n16 c16 e16),(17,.int .i64 x17),(18,.int .i64 x18)] h (K3 Q R5):=
 Zba (kp:=kp) (cast (by kernel_rfl) ht)
theorem L5ind (Q:QT) (i2 o2:Nat) (a16:Pt) (n16 c16:Nat) (e16:Bool) (x17:Int) {G:Type} (J:G→Pt→Nat→Nat→Bool→Int→Zaa→Prop) (m:G→Nat)
 (hr:∀ (g:G) (a6:Pt) (n6 c6:Nat) (e6:Bool) (x18:Int) (h:Zaa),J g a6 n6 c6 e6 x18 h→∀ (R5:T5),(∀ g' (a6:Pt) (n6 c6:Nat) (e6:Bool) (x18:Int) (h:Zaa),m g' < m g→J g' a6 n6 c6 e6 x18 h→R5 i2 o2 a6 n6 c6 e6 a16 n16 c16 e16 x17 x18 h)→L5t Q R5 i2 o2 a6 n6 c6 e6 a16 n16 c16 e16 x17 x18 h)
 (g:G) (a6:Pt) (n6 c6:Nat) (e6:Bool) (x18:Int) (h:Zaa) (hj:J g a6 n6 c6 e6 x18 h):L5 Q i2 o2 a6 n6 c6 e6 a16 n16 c16 e16 x17 x18 h:=by
 let P:=fun (K:Pt→Nat→Nat→Bool→Int→Zaa→Prop) i2' o2' a6 n6 c6 e6 a16' n16' c16' e16' x17' x18 h=>i2=i2'∧o2=o2'∧a16=a16'∧n16=n16'∧c16=c16'∧e16=e16'∧x17=x17'∧K a6 n6 c6 e6 x18 h
 refine Zej.inv2 (fun g=>E5 (P (J g))) (fun g=>E5 (P fun a6 n6 c6 e6 x18 h=>∃ g',m g' < m g∧J g' a6 n6 c6 e6 x18 h)) m ?_ ?_ g ⟨rfl,rfl,rfl,rfl,rfl,rfl,rfl,hj⟩
 ·intro g env h hi
  obtain ⟨i2',o2',a6,n6,c6,e6,a16',n16',c16',e16',x17',x18,rfl,rfl,rfl,rfl,rfl,rfl,rfl,rfl,hj⟩:=Zik hi
  exact Ztv Q _ i2 o2 a6 n6 c6 e6 a16 n16 c16 e16 x17 x18 h (hr g a6 n6 c6 e6 x18 h hj (P fun a6 n6 c6 e6 x18 h=>∃ g',m g' < m g∧J g' a6 n6 c6 e6 x18 h) fun g' a6 n6 c6 e6 x18 h hlt hj=>⟨rfl,rfl,rfl,rfl,rfl,rfl,rfl,g',hlt,hj⟩)
 ·intro g env h hi
  obtain ⟨i2',o2',a6,n6,c6,e6,a16',n16',c16',e16',x17',x18,rfl,rfl,rfl,rfl,rfl,rfl,rfl,rfl,g',hlt,hj⟩:=Zik hi
  exact ⟨g',hlt,rfl,rfl,rfl,rfl,rfl,rfl,rfl,hj⟩
def L9t (Q:QT) (R5:T5) (R9:T9) (i2 o2:Nat) (a6:Pt) (n6 c6:Nat) (e6:Bool) (i8 o8:Nat) (a16:Pt) (n16 c16:Nat) (e16:Bool) (x17 x18:Int) (a29:Pt) (n29 c29:Nat) (e29:Bool) (x30 x31:Int) (h:Zaa):Prop:=
 bcase (decide ((x31:Int) < x30)) ((0≤(x31:Int)∧(x31:Int) < (n29:Nat))∧(Zbf a29 fun A B=>Zbd (Zag h (.ptr (A,B + (Int.toNat x31) * 1))) fun A=>Zbd (Zag h (.ptr (i8,o8 + 1))) fun B=>Zcf (h ++ [.cells Zab [.str A,.str B] false]) fun A=>Zak pg Zsa [.slice a6 n6 c6 e6,.slice (h.length,0) 1 1 true] A fun A B=>
 xSl A fun A C D E=>R9 i2 o2 A C D E i8 o8 a16 n16 c16 e16 x17 x18 a29 n29 c29 e29 x30 (IntKind.wrap .i64 (x31 + 1)) B)) (A9x2 Q R5 x18 x17 a16 n16 c16 e16 a6 n6 c6 e6 i2 o2 h)
theorem Ybi (Q:QT) (R5:T5) (R9:T9) (i2 o2:Nat) (a6:Pt) (n6 c6:Nat) (e6:Bool) (i8 o8:Nat) (a16:Pt) (n16 c16:Nat) (e16:Bool) (x17 x18:Int) (a29:Pt) (n29 c29:Nat) (e29:Bool) (x30 x31:Int) (h:Zaa) (ht:L9t Q R5 R9 i2 o2 a6 n6 c6 e6 i8 o8 a16 n16 c16 e16 x17 x18 a29 n29 c29 e29 x30 x31 h):Den pg fn.ntmps (C [1,1,1,0,1,0,0,1,1,0,0,1,1,1,0,0]) [(2,.ptr (i2,o2)),(6,.slice a6 n6 c6 e6),(8,.ptr (i8,o8)),(16,.slice a16 n16 c16 e16),(17,.int .i64 x17),(18,.int .i64 x18),(29,.slice a29 n29 c29 e29),(30,.int .i64 x30),(31,.int .i64 x31)] h (K8 Q R5 R9):=
 Zba (kp:=kp) (cast (by kernel_rfl) ht)
theorem L9ind (Q:QT) (R5:T5) (i2 o2 i8 o8:Nat) (a16:Pt) (n16 c16:Nat) (e16:Bool) (x17 x18:Int) (a29:Pt) (n29 c29:Nat) (e29:Bool) (x30:Int) {G:Type} (J:G→Pt→Nat→Nat→Bool→Int→Zaa→Prop) (m:G→Nat)
 (hr:∀ (g:G) (a6:Pt) (n6 c6:Nat) (e6:Bool) (x31:Int) (h:Zaa),J g a6 n6 c6 e6 x31 h→∀ (R9:T9),(∀ g' (a6:Pt) (n6 c6:Nat) (e6:Bool) (x31:Int) (h:Zaa),m g' < m g→J g' a6 n6 c6 e6 x31 h→R9 i2 o2 a6 n6 c6 e6 i8 o8 a16 n16 c16 e16 x17 x18 a29 n29 c29 e29 x30 x31 h)→L9t Q R5 R9 i2 o2 a6 n6 c6 e6 i8 o8 a16 n16 c16 e16 x17 x18 a29 n29 c29 e29 x30 x31 h)
 (g:G) (a6:Pt) (n6 c6:Nat) (e6:Bool) (x31:Int) (h:Zaa) (hj:J g a6 n6 c6 e6 x31 h):L9 Q R5 i2 o2 a6 n6 c6 e6 i8 o8 a16 n16 c16 e16 x17 x18 a29 n29 c29 e29 x30 x31 h:=by
 let P:=fun (K:Pt→Nat→Nat→Bool→Int→Zaa→Prop) i2' o2' a6 n6 c6 e6 i8' o8' a16' n16' c16' e16' x17' x18' a29' n29' c29' e29' x30' x31 h=>i2=i2'∧o2=o2'∧i8=i8'∧o8=o8'∧a16=a16'∧n16=n16'∧c16=c16'∧e16=e16'∧x17=x17'∧x18=x18'∧a29=a29'∧n29=n29'∧c29=c29'∧e29=e29'∧x30=x30'∧K a6 n6 c6 e6 x31 h
 refine Zej.inv2 (fun g=>E9 (P (J g))) (fun g=>E9 (P fun a6 n6 c6 e6 x31 h=>∃ g',m g' < m g∧J g' a6 n6 c6 e6 x31 h)) m ?_ ?_ g ⟨rfl,rfl,rfl,rfl,rfl,rfl,rfl,rfl,rfl,rfl,rfl,rfl,rfl,rfl,rfl,hj⟩
 ·intro g env h hi
  obtain ⟨i2',o2',a6,n6,c6,e6,i8',o8',a16',n16',c16',e16',x17',x18',a29',n29',c29',e29',x30',x31,rfl,rfl,rfl,rfl,rfl,rfl,rfl,rfl,rfl,rfl,rfl,rfl,rfl,rfl,rfl,rfl,hj⟩:=Zny hi
  exact Ybi Q R5 (P fun a6 n6 c6 e6 x31 h=>∃ g',m g' < m g∧J g' a6 n6 c6 e6 x31 h) i2 o2 a6 n6 c6 e6 i8 o8 a16 n16 c16 e16 x17 x18 a29 n29 c29 e29 x30 x31 h (hr g a6 n6 c6 e6 x31 h hj (P fun a6 n6 c6 e6 x31 h=>∃ g',m g' < m g∧J g' a6 n6 c6 e6 x31 h) fun g' a6 n6 c6 e6 x31 h hlt hj=>⟨rfl,rfl,rfl,rfl,rfl,rfl,rfl,rfl,rfl,rfl,rfl,rfl,rfl,rfl,rfl,g',hlt,hj⟩)
 ·intro g env h hi
  obtain ⟨i2',o2',a6,n6,c6,e6,i8',o8',a16',n16',c16',e16',x17',x18',a29',n29',c29',e29',x30',x31,rfl,rfl,rfl,rfl,rfl,rfl,rfl,rfl,rfl,rfl,rfl,rfl,rfl,rfl,rfl,rfl,g',hlt,hj⟩:=Zny hi
  exact ⟨g',hlt,rfl,rfl,rfl,rfl,rfl,rfl,rfl,rfl,rfl,rfl,rfl,rfl,rfl,rfl,rfl,hj⟩
theorem A5x0i (Q:QT) (a6:Pt) (n6 c6:Nat) (e6:Bool) (h:Zaa) (ht :
 Q (.tup [.slice a6 n6 c6 e6,.bool true]) h):A5x0 Q a6 n6 c6 e6 h:=
 At.mk (cast (by kernel_rfl) ht)
theorem A9x2i (Q:QT) (R5:T5) (x18 x17:Int) (a16:Pt) (n16 c16:Nat) (e16:Bool) (a6:Pt) (n6 c6:Nat) (e6:Bool) (i2 o2:Nat) (h:Zaa) (ht :
 R5 i2 o2 a6 n6 c6 e6 a16 n16 c16 e16 x17 (IntKind.wrap .i64 (x18 + 1)) h):A9x2 Q R5 x18 x17 a16 n16 c16 e16 a6 n6 c6 e6 i2 o2 h:=
 At.mk (cast (by kernel_rfl) ht)
theorem call (a0x0:Pt) (n0x0 c0x0:Nat) (e0x0:Bool) (a0x1:Pt) (n0x1 c0x1:Nat) (e0x1:Bool) (a1:Pt) (n1 c1:Nat) (e1:Bool) (h:Zaa) (Q:QT) (ht :
 Zcf (h ++ [.cells Zac [.slice a0x0 n0x0 c0x0 e0x0,.slice a0x1 n0x1 c0x1 e0x1] false]) fun A=>Zcd (Zbe A (.ptr (h.length,0)) 2) fun B=>Zai B fun B C=>xSl B fun B D E F=>Zai C fun C G=>xSl C fun C H I J=>Zbq G (Zak pg Zcs [.agg [.slice B D E F,.slice C H I J],.slice a1 n1 c1 e1] A fun A B=>
 Zca A fun A=>bcase (!A) (Q (.tup [.slice none 0 0 true,.bool false]) B) (Zcf (B ++ [.cells Zab [] false]) fun A=>L5 Q h.length 0 (B.length,0) 0 0 true a1 n1 c1 e1 (((n1:Nat):Int)) 0 A))):Zak pg Zod [.agg [.slice a0x0 n0x0 c0x0 e0x0,.slice a0x1 n0x1 c0x1 e0x1],.slice a1 n1 c1 e1] h Q:=
 Zak.of_body kp (c:=cod fn) (fn:=fn) Go.Proofs.Tryz.func8 (by kernel_rfl) (by kernel_rfl) (Nat.le_of_ble_eq_true (by kernel_rfl))
  (cast (by kernel_rfl) ht)
end Zgc
end Go.Sim

set_option maxRecDepth 100000
set_option maxHeartbeats 0
set_option linter.unusedVariables false
namespace Go.Sim
open Go Go.RowKit
namespace Zmn
noncomputable abbrev fn:Func:=Go.Proofs.Tryz.f30
def kp:Zch:=[(3000003,[5]),(1000003,[5,12])]
noncomputable def C (p:List Nat):Code:=(cod fn).sub p
def KR (Q:QT):KT:=Zfd pg fn.results.toList Q
abbrev T3:=Pt→Nat→Nat→Bool→Nat→Zaa→Prop
def E3 (R3:T3) (env:Env) (h:Zaa):Prop:=Zbu 5 env fun v env=>xSl v fun a5 n5 c5 e5=>Zbu 12 env fun v env=>Yyd v fun r12=>Zil env (R3 a5 n5 c5 e5 r12 h)
theorem Zgd {R3:T3} {env:Env} {h:Zaa} (hi:E3 R3 env h):∃ a5,∃ n5,∃ c5,∃ e5,∃ r12,env=[(5,.slice a5 n5 c5 e5),(12,.iter r12)]∧R3 a5 n5 c5 e5 r12 h:=by
 unfold E3 at hi
 have hi0:=hi
 clear hi
 obtain ⟨_,_,rfl,hi1⟩:=Zaf hi0
 obtain ⟨a5,n5,c5,e5,rfl,hi2⟩:=Zbp hi1
 obtain ⟨_,_,rfl,hi3⟩:=Zaf hi2
 obtain ⟨r12,rfl,hi4⟩:=Ynt hi3
 obtain ⟨rfl,hi5⟩:=Zbl hi4
 have hi:=hi5
 exact ⟨a5,n5,c5,e5,r12,rfl,hi⟩
def K0 (Q:QT):KT:=andThen (fun env' h'=>(match kp.find 4000006 with | some ks=>Den pg fn.ntmps (C [1,1,1]) (env'.keep ks) h' (KR Q) | none=>den pg fn.ntmps kp (C [1,1,1]) env' h' (KR Q))) (KR Q)
def K1 (Q:QT):KT:=Zcj 0 (K0 Q)
def K2 (Q:QT):KT:=left kp 3 (K1 Q)
def K3 (Q:QT) (R3:T3):KT:=rnd ((kp.find 1000003).getD []) (E3 R3) (K2 Q)
def L3 (Q:QT) (a5:Pt) (n5 c5:Nat) (e5:Bool) (r12:Nat) (h:Zaa):Prop:=Zej (Den pg fn.ntmps (C [1,1,0,1,0,0])) ((kp.find 1000003).getD []) (K2 Q) [(5,.slice a5 n5 c5 e5),(12,.iter r12)] h
def Ztf (Q:QT) (a5:Pt) (n5 c5:Nat) (e5:Bool) (h:Zaa):Prop:=At (K1 Q) (.exit 0) [(5,.slice a5 n5 c5 e5)] h
def L3t (Q:QT) (R3:T3) (a5:Pt) (n5 c5:Nat) (e5:Bool) (r12:Nat) (h:Zaa):Prop:=
 Yfb h r12 fun A B=>(B < List.length A→List.getD A B 0 < 128∧(Zcf (List.set h r12 (.iter A (B + 1))) fun C=>(0≤(((List.getD A B 0:Nat):Int):Int)∧(((List.getD A B 0:Nat):Int):Int) < 128)∧(Zcf (C ++ [.cells Zbi [.str ([Int.toNat (((List.getD A B 0:Nat):Int))])] false]) fun D=>Zci pg Zke D (.slice a5 n5 c5 e5) (.slice (C.length,0) 1 1 true) fun C D=>xSl C fun C E F G=>R3 C E F G r12 D)))∧(List.length A≤B→Ztf Q a5 n5 c5 e5 h)
theorem Zoe (Q:QT) (R3:T3) (a5:Pt) (n5 c5:Nat) (e5:Bool) (r12:Nat) (h:Zaa) (ht:L3t Q R3 a5 n5 c5 e5 r12 h):Den pg fn.ntmps (C [1,1,0,1,0,0]) [(5,.slice a5 n5 c5 e5),(12,.iter r12)] h (K3 Q R3):=
 Zba (kp:=kp) (cast (by kernel_rfl) ht)
theorem L3ind (Q:QT) (r12:Nat) {G:Type} (J:G→Pt→Nat→Nat→Bool→Zaa→Prop) (m:G→Nat)
 (hr:∀ (g:G) (a5:Pt) (n5 c5:Nat) (e5:Bool) (h:Zaa),J g a5 n5 c5 e5 h→∀ (R3:T3),(∀ g' (a5:Pt) (n5 c5:Nat) (e5:Bool) (h:Zaa),m g' < m g→J g' a5 n5 c5 e5 h→R3 a5 n5 c5 e5 r12 h)→L3t Q R3 a5 n5 c5 e5 r12 h)
 (g:G) (a5:Pt) (n5 c5:Nat) (e5:Bool) (h:Zaa) (hj:J g a5 n5 c5 e5 h):L3 Q a5 n5 c5 e5 r12 h:=by
 let P:=fun (K:Pt→Nat→Nat→Bool→Zaa→Prop) a5 n5 c5 e5 r12' h=>r12=r12'∧K a5 n5 c5 e5 h
 refine Zej.inv2 (fun g=>E3 (P (J g))) (fun g=>E3 (P fun a5 n5 c5 e5 h=>∃ g',m g' < m g∧J g' a5 n5 c5 e5 h)) m ?_ ?_ g ⟨rfl,hj⟩
 ·intro g env h hi
  obtain ⟨a5,n5,c5,e5,r12',rfl,rfl,hj⟩:=Zgd hi
  exact Zoe Q _ a5 n5 c5 e5 r12 h (hr g a5 n5 c5 e5 h hj (P fun a5 n5 c5 e5 h=>∃ g',m g' < m g∧J g' a5 n5 c5 e5 h) fun g' a5 n5 c5 e5 h hlt hj=>⟨rfl,g',hlt,hj⟩)
 ·intro g env h hi
  obtain ⟨a5,n5,c5,e5,r12',rfl,rfl,g',hlt,hj⟩:=Zgd hi
  exact ⟨g',hlt,rfl,hj⟩
theorem A3x0i (Q:QT) (a5:Pt) (n5 c5:Nat) (e5:Bool) (h:Zaa) (ht :
 Q (.slice a5 n5 c5 e5) h):Ztf Q a5 n5 c5 e5 h:=
 At.mk (cast (by kernel_rfl) ht)
theorem call (a0x0:Pt) (n0x0 c0x0:Nat) (e0x0:Bool) (a0x1:Pt) (n0x1 c0x1:Nat) (e0x1:Bool) (x1:List Nat) (h:Zaa) (Q:QT) (ht :
 Zcf (h ++ [.cells Zac [.slice a0x0 n0x0 c0x0 e0x0,.slice a0x1 n0x1 c0x1 e0x1] false]) fun A=>Zcf (A ++ [.cells Zbi [] false]) fun B=>Zcd (Zbe B (.ptr (h.length,0)) 2) fun C=>Zai C fun C D=>xSl C fun C E F G=>Zai D fun D H=>xSl D fun D I J K=>Zbq H (Zak pg Zpj [.agg [.slice C E F G,.slice D I J K],.str x1] B fun B C=>
 Zbd B fun B=>Zcf (C ++ [.iter B 0]) fun B=>L3 Q (A.length,0) 0 0 true C.length B)):Zak pg Zpb [.agg [.slice a0x0 n0x0 c0x0 e0x0,.slice a0x1 n0x1 c0x1 e0x1],.str x1] h Q:=
 Zak.of_body kp (c:=cod fn) (fn:=fn) Go.Proofs.Tryz.func30 (by kernel_rfl) (by kernel_rfl) (Nat.le_of_ble_eq_true (by kernel_rfl))
  (cast (by kernel_rfl) ht)
end Zmn
end Go.Sim

set_option maxRecDepth 100000
set_option maxHeartbeats 0
set_option linter.unusedVariables false
namespace Go.Sim
open Go Go.RowKit
namespace Zhm
noncomputable abbrev fn:Func:=Go.Proofs.Tryz.f102
def kp:Zch:=[]
noncomputable def C (p:List Nat):Code:=(cod fn).sub p
def KR (Q:QT):KT:=Zfd pg fn.results.toList Q
theorem call (a0:Pt) (n0 c0:Nat) (e0:Bool) (x1:List Nat) (h:Zaa) (Q:QT) (ht :
 Zak pg Zij [.slice a0 n0 c0 e0,.str x1] h fun A B=>
 Zec .i64 A fun A=>Q (.bool (decide ((A:Int) ≥ 0))) B):Zak pg Zfs [.slice a0 n0 c0 e0,.str x1] h Q:=
 Zak.of_body kp (c:=cod fn) (fn:=fn) Go.Proofs.Tryz.func102 (by kernel_rfl) (by kernel_rfl) (Nat.le_of_ble_eq_true (by kernel_rfl))
  (cast (by kernel_rfl) ht)
end Zhm
namespace Zei
noncomputable abbrev fn:Func:=Go.Proofs.Tryz.f125
def kp:Zch:=[(3000002,[4]),(1000002,[0,1,7,8])]
noncomputable def C (p:List Nat):Code:=(cod fn).sub p
def KR (Q:QT):KT:=Zfd pg fn.results.toList Q
abbrev T2:=Pt→Nat→Nat→Bool→List Nat→Int→Int→Zaa→Prop
def E2 (R2:T2) (env:Env) (h:Zaa):Prop:=Zbu 0 env fun v env=>xSl v fun a0 n0 c0 e0=>Zbu 1 env fun v env=>Zbd v fun x1=>Zbu 7 env fun v env=>Zdz .i64 v fun x7=>Zbu 8 env fun v env=>Zdz .i64 v fun x8=>Zil env (R2 a0 n0 c0 e0 x1 x7 x8 h)
theorem Zea {R2:T2} {env:Env} {h:Zaa} (hi:E2 R2 env h):∃ a0,∃ n0,∃ c0,∃ e0,∃ x1,∃ x7,∃ x8,env=[(0,.slice a0 n0 c0 e0),(1,.str x1),(7,.int .i64 x7),(8,.int .i64 x8)]∧R2 a0 n0 c0 e0 x1 x7 x8 h:=by
 unfold E2 at hi
 repeat ((first | (have k:=Zaf hi; clear hi; obtain ⟨_,_,e,hi⟩:=k) | (have k:=Zbp hi; clear hi; obtain ⟨_,_,_,_,e,hi⟩:=k) | (have k:=Zav hi; clear hi; obtain ⟨_,e,hi⟩:=k) | (have k:=Zed hi; clear hi; obtain ⟨_,e,hi⟩:=k)); subst e)
 obtain ⟨rfl,hi⟩:=Zbl hi
 exact ⟨_,_,_,_,_,_,_,rfl,hi⟩
def K0 (Q:QT):KT:=andThen (fun env' h'=>(match kp.find 4000007 with | some ks=>Den pg fn.ntmps (C [1,1]) (env'.keep ks) h' (KR Q) | none=>den pg fn.ntmps kp (C [1,1]) env' h' (KR Q))) (KR Q)
def K1 (Q:QT):KT:=Zcj 0 (K0 Q)
def K2 (Q:QT):KT:=left kp 2 (K1 Q)
def K3 (Q:QT) (R2:T2):KT:=rnd ((kp.find 1000002).getD []) (E2 R2) (K2 Q)
def L2 (Q:QT) (a0:Pt) (n0 c0:Nat) (e0:Bool) (x1:List Nat) (x7 x8:Int) (h:Zaa):Prop:=Zej (Den pg fn.ntmps (C [1,0,1,0,0])) ((kp.find 1000002).getD []) (K2 Q) [(0,.slice a0 n0 c0 e0),(1,.str x1),(7,.int .i64 x7),(8,.int .i64 x8)] h
def Zmz (Q:QT) (h:Zaa):Prop:=At (K1 Q) (.exit 0) [(4,.undef)] h
def L2t (Q:QT) (R2:T2) (a0:Pt) (n0 c0:Nat) (e0:Bool) (x1:List Nat) (x7 x8:Int) (h:Zaa):Prop:=
 bcase (decide ((x8:Int) < x7)) ((0≤(x8:Int)∧(x8:Int) < (n0:Nat))∧(Zbf a0 fun A B=>Zbd (Zag h (.ptr (A,B + (Int.toNat x8) * 1))) fun A=>bcase (decide (x1=A)) (Q (.int .i64 x8) h) (R2 a0 n0 c0 e0 x1 x7 (IntKind.wrap .i64 (x8 + 1)) h))) (Zmz Q h)
theorem Zjc (Q:QT) (R2:T2) (a0:Pt) (n0 c0:Nat) (e0:Bool) (x1:List Nat) (x7 x8:Int) (h:Zaa) (ht:L2t Q R2 a0 n0 c0 e0 x1 x7 x8 h):Den pg fn.ntmps (C [1,0,1,0,0]) [(0,.slice a0 n0 c0 e0),(1,.str x1),(7,.int .i64 x7),(8,.int .i64 x8)] h (K3 Q R2):=
 Zba (kp:=kp) (cast (by kernel_rfl) ht)
theorem L2ind (Q:QT) (a0:Pt) (n0 c0:Nat) (e0:Bool) (x1:List Nat) (x7:Int) {G:Type} (J:G→Int→Zaa→Prop) (m:G→Nat)
 (hr:∀ (g:G) (x8:Int) (h:Zaa),J g x8 h→∀ (R2:T2),(∀ g' (x8:Int) (h:Zaa),m g' < m g→J g' x8 h→R2 a0 n0 c0 e0 x1 x7 x8 h)→L2t Q R2 a0 n0 c0 e0 x1 x7 x8 h)
 (g:G) (x8:Int) (h:Zaa) (hj:J g x8 h):L2 Q a0 n0 c0 e0 x1 x7 x8 h:=by
 let P:=fun (K:Int→Zaa→Prop) a0' n0' c0' e0' x1' x7' x8 h=>a0=a0'∧n0=n0'∧c0=c0'∧e0=e0'∧x1=x1'∧x7=x7'∧K x8 h
 refine Zej.inv2 (fun g=>E2 (P (J g))) (fun g=>E2 (P fun x8 h=>∃ g',m g' < m g∧J g' x8 h)) m ?_ ?_ g ⟨rfl,rfl,rfl,rfl,rfl,rfl,hj⟩
 ·intro g env h hi
  obtain ⟨a0',n0',c0',e0',x1',x7',x8,rfl,rfl,rfl,rfl,rfl,rfl,rfl,hj⟩:=Zea hi
  exact Zjc Q _ a0 n0 c0 e0 x1 x7 x8 h (hr g x8 h hj (P fun x8 h=>∃ g',m g' < m g∧J g' x8 h) fun g' x8 h hlt hj=>⟨rfl,rfl,rfl,rfl,rfl,rfl,g',hlt,hj⟩)
 ·intro g env h hi
  obtain ⟨a0',n0',c0',e0',x1',x7',x8,rfl,rfl,rfl,rfl,rfl,rfl,rfl,g',hlt,hj⟩:=Zea hi
  exact ⟨g',hlt,rfl,rfl,rfl,rfl,rfl,rfl,hj⟩
theorem A2x0i (Q:QT) (h:Zaa) (ht :
 Q (.int .i64 (-1)) h):Zmz Q h:=
 At.mk (cast (by kernel_rfl) ht)
theorem call (a0:Pt) (n0 c0:Nat) (e0:Bool) (x1:List Nat) (h:Zaa) (Q:QT) (ht :
 L2 Q a0 n0 c0 e0 x1 (((n0:Nat):Int)) 0 h):Zak pg Zij [.slice a0 n0 c0 e0,.str x1] h Q:=
 Zak.of_body kp (c:=cod fn) (fn:=fn) Go.Proofs.Tryz.func125 (by kernel_rfl) (by kernel_rfl) (Nat.le_of_ble_eq_true (by kernel_rfl))
  (cast (by kernel_rfl) ht)
end Zei
end Go.Sim

set_option maxRecDepth 100000
set_option maxHeartbeats 0
set_option linter.unusedVariables false
namespace Go.Sim
open Go Go.RowKit
namespace Zhx
noncomputable abbrev fn:Func:=Go.Proofs.Tryz.f111
def kp:Zch:=[(2000001,[5,0,3]),(2000008,[6,0]),(4000011,[0])]
noncomputable def C (p:List Nat):Code:=(cod fn).sub p
def KR (Q:QT):KT:=Zfd pg fn.results.toList Q
def J11 (Q:QT) (a0:Pt) (h:Zaa):Prop:=Den pg fn.ntmps (C [1,1,1,1]) [(0,.ptr a0)] h (KR Q)
theorem J11i (Q:QT) (a0:Pt) (h:Zaa) (ht :
 Zbf a0 fun A B=>Zbt (Zbb h (.ptr (A,B + 5)) [.str ([109,97,110,121])]) fun A=>Q (.int .i64 (-1)) A):J11 Q a0 h:=
 Zba (kp:=kp) (cast (by kernel_rfl) ht)
theorem call (a0:Pt) (x1x0 x1x1:List Nat) (h:Zaa) (Q:QT) (ht :
 Zcf (h ++ [.cells Zab [.str x1x0,.str x1x1] false]) fun A=>Zbf a0 fun B C=>Zcd (Zbe A (.ptr (B,C + 0)) 2) fun D=>Zai D fun D E=>xSl D fun D F G H=>Zai E fun E I=>xSl E fun E J K L=>Zbq I (Zcd (Zbe A (.ptr (h.length,0)) 2) fun I=>Zai I fun I M=>Zbd I fun I=>Zai M fun M N=>Zbd M fun M=>Zbq N ((Zbe A (.ptr (B,C + 0)) 2=Zbe A (.ptr (B,C + 0)) 2)∧Zak pg Zip [.agg [.slice D F G H,.slice E J K L],.agg [.str I,.str M]] A fun A B=>
 xSl A fun A C D D=>bcase ((((C:Nat):Int):Int) == 0) (Zbf a0 fun D E=>Zbt (Zbb B (.ptr (D,E + 5)) [.str ([110,111,110,101])]) fun D=>Q (.int .i64 (-1)) D) (bcase ((((C:Nat):Int):Int) == 1) ((0≤(0:Int)∧(0:Int) < (C:Nat))∧(Zbf A fun A C=>Zec .i64 (Zag B (.ptr (A,C + (Int.toNat 0) * 1))) fun A=>Q (.int .i64 A) B)) (Zbf a0 fun A C=>Zca (Zag B (.ptr (A,C + 2))) fun A=>bcase A (Zbf a0 fun A C=>Zcd (Zbe B (.ptr (A,C + 0)) 2) fun D=>Zai D fun D E=>xSl D fun D F G H=>Zai E fun E I=>xSl E fun E J K L=>Zbq I (Zcd (Zbe B (.ptr (h.length,0)) 2) fun I=>Zai I fun I M=>Zbd I fun I=>Zai M fun M N=>Zbd M fun M=>Zbq N ((Zbe B (.ptr (A,C + 0)) 2=Zbe B (.ptr (A,C + 0)) 2)∧Zak pg Zmq [.agg [.slice D F G H,.slice E J K L],.agg [.str I,.str M]] B fun A C=>
 Zec .i64 A fun A=>bcase (decide ((A:Int) ≥ 0)) (Q (.int .i64 A) C) (J11 Q a0 C)))) (J11 Q a0 B)))))):Zak pg Zga [.ptr a0,.agg [.str x1x0,.str x1x1]] h Q:=
 Zak.of_body kp (c:=cod fn) (fn:=fn) Go.Proofs.Tryz.func111 (by kernel_rfl) (by kernel_rfl) (Nat.le_of_ble_eq_true (by kernel_rfl))
  (cast (by kernel_rfl) ht)
end Zhx
end Go.Sim

set_option maxRecDepth 100000
set_option maxHeartbeats 0
set_option linter.unusedVariables false
namespace Go.Sim
open Go Go.RowKit
namespace Zep
noncomputable abbrev fn:Func:=Go.Proofs.Tryz.f75
def kp:Zch:=[(2000001,[0,4,2]),(2000005,[2,0,4]),(2000012,[9,0,7,8,2]),(3000018,[8,10,0,2,6]),(1000018,[0,2,8,10,78,79,80]),(4000027,[0,2,10])]
noncomputable def C (p:List Nat):Code:=(cod fn).sub p
def KR (Q:QT):KT:=Zfd pg fn.results.toList Q
abbrev T18:=Pt→Int→Pt→Nat→Nat→Bool→List Nat→Pt→Nat→Nat→Bool→Int→Int→Zaa→Prop
def E18 (R18:T18) (env:Env) (h:Zaa):Prop:=Zbu 0 env fun v env=>Zgn v fun a0=>Zbu 2 env fun v env=>Zdz .i64 v fun x2=>Zbu 8 env fun v env=>xSl v fun a8 n8 c8 e8=>Zbu 10 env fun v env=>Zbd v fun x10=>Zbu 78 env fun v env=>xSl v fun a78 n78 c78 e78=>Zbu 79 env fun v env=>Zdz .i64 v fun x79=>Zbu 80 env fun v env=>Zdz .i64 v fun x80=>Zil env (R18 a0 x2 a8 n8 c8 e8 x10 a78 n78 c78 e78 x79 x80 h)
theorem Yrw {R18:T18} {env:Env} {h:Zaa} (hi:E18 R18 env h):∃ a0,∃ x2,∃ a8,∃ n8,∃ c8,∃ e8,∃ x10,∃ a78,∃ n78,∃ c78,∃ e78,∃ x79,∃ x80,env=[(0,.ptr a0),(2,.int .i64 x2),(8,.slice a8 n8 c8 e8),(10,.str x10),(78,.slice a78 n78 c78 e78),(79,.int .i64 x79),(80,.int .i64 x80)]∧R18 a0 x2 a8 n8 c8 e8 x10 a78 n78 c78 e78 x79 x80 h:=by
 unfold E18 at hi
 repeat ((first | (have k:=Zaf hi; clear hi; obtain ⟨_,_,e,hi⟩:=k) | (have k:=Zbp hi; clear hi; obtain ⟨_,_,_,_,e,hi⟩:=k) | (have k:=Zed hi; clear hi; obtain ⟨_,e,hi⟩:=k) | (have k:=Zav hi; clear hi; obtain ⟨_,e,hi⟩:=k) | (have k:=Zbn hi; clear hi; obtain ⟨_,e,hi⟩:=k)); subst e)
 obtain ⟨rfl,hi⟩:=Zbl hi
 exact ⟨_,_,_,_,_,_,_,_,_,_,_,_,_,rfl,hi⟩
def K0 (Q:QT):KT:=andThen (fun env' h'=>(match kp.find 4000025 with | some ks=>Den pg fn.ntmps (C [1,1,1,1,1,1,1,1,1,1,1]) (env'.keep ks) h' (KR Q) | none=>den pg fn.ntmps kp (C [1,1,1,1,1,1,1,1,1,1,1]) env' h' (KR Q))) (KR Q)
def K1 (Q:QT):KT:=Zcj 0 (K0 Q)
def K2 (Q:QT):KT:=left kp 18 (K1 Q)
def K3 (Q:QT) (R18:T18):KT:=rnd ((kp.find 1000018).getD []) (E18 R18) (K2 Q)
def L18 (Q:QT) (a0:Pt) (x2:Int) (a8:Pt) (n8 c8:Nat) (e8:Bool) (x10:List Nat) (a78:Pt) (n78 c78:Nat) (e78:Bool) (x79 x80:Int) (h:Zaa):Prop:=Zej (Den pg fn.ntmps (C [1,1,1,1,1,1,1,1,1,1,0,1,0,0])) ((kp.find 1000018).getD []) (K2 Q) [(0,.ptr a0),(2,.int .i64 x2),(8,.slice a8 n8 c8 e8),(10,.str x10),(78,.slice a78 n78 c78 e78),(79,.int .i64 x79),(80,.int .i64 x80)] h
def Yzb (Q:QT) (a8:Pt) (n8 c8:Nat) (e8:Bool) (x10:List Nat) (a0:Pt) (x2:Int) (h:Zaa):Prop:=At (K1 Q) (.exit 0) [(8,.slice a8 n8 c8 e8),(10,.str x10),(0,.ptr a0),(2,.int .i64 x2),(6,.undef)] h
def J27 (Q:QT) (a0:Pt) (x2:Int) (x10:List Nat) (h:Zaa):Prop:=Den pg fn.ntmps (C [1,1,1,1,1,1,1,1,1,1,1,1]) [(0,.ptr a0),(2,.int .i64 x2),(10,.str x10)] h (KR Q)
def L18t (Q:QT) (R18:T18) (a0:Pt) (x2:Int) (a8:Pt) (n8 c8:Nat) (e8:Bool) (x10:List Nat) (a78:Pt) (n78 c78:Nat) (e78:Bool) (x79 x80:Int) (h:Zaa):Prop:=
 bcase (decide ((x80:Int) < x79)) ((0≤(x80:Int)∧(x80:Int) < (n78:Nat))∧(Zbf a78 fun A B=>Zcd (Zbe h (.ptr (A,B + (Int.toNat x80) * 2)) 2) fun A=>Zai A fun A B=>Zbd A fun A=>Zai B fun B C=>Zbd B fun B=>Zbq C (Zcf (h ++ [.cells Zab [.str [],.str []] false]) fun C=>Zbt (Zbb C (.ptr (h.length,0)) [.str A,.str B]) fun A=>Zcd (Zbe A (.ptr (h.length,0)) 2) fun B=>Zai B fun B C=>Zbd B fun B=>Zai C fun C D=>Zbd C fun C=>Zbq D (Zak pg Zgx [.ptr a0,.agg [.str B,.str C],.int .i64 (IntKind.wrap .i64 (x2 + 1))] A fun A B=>
 Zbd A fun A=>Zbf a0 fun C D=>Zbd (Zag B (.ptr (C,D + 5))) fun C=>bcase (!(decide (C=[]))) (Q (.str []) B) ((0≤(x80:Int)∧(x80:Int)≤IntKind.wrap .i64 (x80 + 1)∧(IntKind.wrap .i64 (x80 + 1):Int)≤(List.length ([40,44,44]):Nat))∧(List.length x10 + List.length (sub ([40,44,44]) x80 (IntKind.wrap .i64 (x80 + 1)))≤9223372036854775807∧(List.length (x10 ++ (sub ([40,44,44]) x80 (IntKind.wrap .i64 (x80 + 1)))) + List.length A≤9223372036854775807∧(R18 a0 x2 a8 n8 c8 e8 ((x10 ++ (sub ([40,44,44]) x80 (IntKind.wrap .i64 (x80 + 1)))) ++ A) a78 n78 c78 e78 x79 (IntKind.wrap .i64 (x80 + 1)) B)))))))) (Yzb Q a8 n8 c8 e8 x10 a0 x2 h)
theorem Xac (Q:QT) (R18:T18) (a0:Pt) (x2:Int) (a8:Pt) (n8 c8:Nat) (e8:Bool) (x10:List Nat) (a78:Pt) (n78 c78:Nat) (e78:Bool) (x79 x80:Int) (h:Zaa) (ht:L18t Q R18 a0 x2 a8 n8 c8 e8 x10 a78 n78 c78 e78 x79 x80 h):Den pg fn.ntmps (C [1,1,1,1,1,1,1,1,1,1,0,1,0,0]) [(0,.ptr a0),(2,.int .i64 x2),(8,.slice a8 n8 c8 e8),(10,.str x10),(78,.slice a78 n78 c78 e78),(79,.int .i64 x79),(80,.int .i64 x80)] h (K3 Q R18):=
 Zba (kp:=kp) (cast (by kernel_rfl) ht)
theorem L18ind (Q:QT) (a0:Pt) (x2:Int) (a8:Pt) (n8 c8:Nat) (e8:Bool) (a78:Pt) (n78 c78:Nat) (e78:Bool) (x79:Int) {G:Type} (J:G→List Nat→Int→Zaa→Prop) (m:G→Nat)
 (hr:∀ (g:G) (x10:List Nat) (x80:Int) (h:Zaa),J g x10 x80 h→∀ (R18:T18),(∀ g' (x10:List Nat) (x80:Int) (h:Zaa),m g' < m g→J g' x10 x80 h→R18 a0 x2 a8 n8 c8 e8 x10 a78 n78 c78 e78 x79 x80 h)→L18t Q R18 a0 x2 a8 n8 c8 e8 x10 a78 n78 c78 e78 x79 x80 h)
 (g:G) (x10:List Nat) (x80:Int) (h:Zaa) (hj:J g x10 x80 h):L18 Q a0 x2 a8 n8 c8 e8 x10 a78 n78 c78 e78 x79 x80 h:=by
 let P:=fun (K:List Nat→Int→Zaa→Prop) a0' x2' a8' n8' c8' e8' x10 a78' n78' c78' e78' x79' x80 h=>a0=a0'∧x2=x2'∧a8=a8'∧n8=n8'∧c8=c8'∧e8=e8'∧a78=a78'∧n78=n78'∧c78=c78'∧e78=e78'∧x79=x79'∧K x10 x80 h
 refine Zej.inv2 (fun g=>E18 (P (J g))) (fun g=>E18 (P fun x10 x80 h=>∃ g',m g' < m g∧J g' x10 x80 h)) m ?_ ?_ g ⟨rfl,rfl,rfl,rfl,rfl,rfl,rfl,rfl,rfl,rfl,rfl,hj⟩
 ·intro g env h hi
  obtain ⟨a0',x2',a8',n8',c8',e8',x10,a78',n78',c78',e78',x79',x80,rfl,rfl,rfl,rfl,rfl,rfl,rfl,rfl,rfl,rfl,rfl,rfl,hj⟩:=Yrw hi
  exact Xac Q _ a0 x2 a8 n8 c8 e8 x10 a78 n78 c78 e78 x79 x80 h (hr g x10 x80 h hj (P fun x10 x80 h=>∃ g',m g' < m g∧J g' x10 x80 h) fun g' x10 x80 h hlt hj=>⟨rfl,rfl,rfl,rfl,rfl,rfl,rfl,rfl,rfl,rfl,rfl,g',hlt,hj⟩)
 ·intro g env h hi
  obtain ⟨a0',x2',a8',n8',c8',e8',x10,a78',n78',c78',e78',x79',x80,rfl,rfl,rfl,rfl,rfl,rfl,rfl,rfl,rfl,rfl,rfl,rfl,g',hlt,hj⟩:=Yrw hi
  exact ⟨g',hlt,rfl,rfl,rfl,rfl,rfl,rfl,rfl,rfl,rfl,rfl,rfl,hj⟩
theorem A18x0i (Q:QT) (a8:Pt) (n8 c8:Nat) (e8:Bool) (x10:List Nat) (a0:Pt) (x2:Int) (h:Zaa) (ht :
 bcase (decide (((((n8:Nat):Int)):Int) > 0)) (List.length x10 + List.length [41]≤9223372036854775807∧(J27 Q a0 x2 (x10 ++ [41]) h)) (J27 Q a0 x2 x10 h)):Yzb Q a8 n8 c8 e8 x10 a0 x2 h:=
 At.mk (cast (by kernel_rfl) ht)
theorem J27i (Q:QT) (a0:Pt) (x2:Int) (x10:List Nat) (h:Zaa) (ht :
 Zbf a0 fun A B=>xSl (Zag h (.ptr (A,B + 4))) fun A B C D=>Zhu A B C D 2 none (some (.int .i64 (IntKind.wrap .i64 (x2 + 1)))) none fun A=>xSl A fun A B C D=>Zbf a0 fun E F=>Zbt (Zbb h (.ptr (E,F + 4)) [.slice A B C D]) fun A=>Q (.str x10) A):J27 Q a0 x2 x10 h:=
 Zba (kp:=kp) (cast (by kernel_rfl) ht)
theorem call (a0:Pt) (x1x0 x1x1:List Nat) (x2:Int) (h:Zaa) (Q:QT) (ht :
 Zcf (h ++ [.cells Zab [.str x1x0,.str x1x1] false]) fun A=>Zbf a0 fun B C=>xSl (Zag A (.ptr (B,C + 4))) fun D E F G=>Zhu D E F G 2 none (some (.int .i64 x2)) none fun D=>xSl D fun D E F G=>Zcd (Zbe A (.ptr (h.length,0)) 2) fun H=>Zai H fun H I=>Zbd H fun H=>Zai I fun I J=>Zbd I fun I=>Zbq J ((Zcf (A ++ [.cells Zab [] false]) fun J=>(Zbe J (.ptr (h.length,0)) 2=Zbe A (.ptr (h.length,0)) 2)∧(Zag J (.ptr (B,C + 4))=Zag A (.ptr (B,C + 4)))∧(Zci pg Zbo J (.slice (A.length,0) 0 0 true) (.slice D E F G) fun K L=>xSl K fun K M N O=>(Zbe L (.ptr (h.length,0)) 2=Zbe J (.ptr (h.length,0)) 2)∧(Zag L (.ptr (B,C + 4))=Zag J (.ptr (B,C + 4)))∧Zcf (L ++ [.cells Zab [.str H,.str I] false]) fun P=>(Zag P (.ptr (B,C + 4))=Zag L (.ptr (B,C + 4)))∧Zci pg Zbo P (.slice K M N O) (.slice (L.length,0) 1 1 true) fun K L=>xSl K fun K M N O=>(Zbe L (.ptr (h.length,0)) 2=Zbe P (.ptr (h.length,0)) 2)∧(Zag L (.ptr (B,C + 4))=Zag P (.ptr (B,C + 4)))∧Zbf a0 fun P R=>Zbt (Zbb L (.ptr (P,R + 4)) [.slice K M N O]) fun K=>Zbf a0 fun L M=>xSl (Zag K (.ptr (L,M + 3))) fun L L M M=>bcase (decide (((((L:Nat):Int)):Int) ≥ 300)) (Zbf a0 fun L M=>Zbt (Zbb K (.ptr (L,M + 5)) [.str ([108,111,110,103])]) fun L=>Q (.str []) L) (Zbf a0 fun L M=>xSl (Zag K (.ptr (L,M + 3))) fun N O P R=>Zcd (Zbe K (.ptr (h.length,0)) 2) fun S=>Zai S fun S T=>Zbd S fun S=>Zai T fun T U=>Zbd T fun T=>Zbq U ((Zag K (.ptr (L,M + 3))=Zag K (.ptr (L,M + 3)))∧Zcf (K ++ [.cells Zab [.str S,.str T] false]) fun S=>(Zag S (.ptr (L,M + 3))=Zag K (.ptr (L,M + 3)))∧Zci pg Zbo S (.slice N O P R) (.slice (K.length,0) 1 1 true) fun K L=>xSl K fun K M N O=>Zbf a0 fun P R=>Zbt (Zbb L (.ptr (P,R + 3)) [.slice K M N O]) fun K=>bcase (decide ((x2:Int) > 30)) (Zbf a0 fun L M=>Zbt (Zbb K (.ptr (L,M + 5)) [.str ([100,101,101,112])]) fun L=>Q (.str []) L) (Zcd (Zbe K (.ptr (h.length,0)) 2) fun L=>Zai L fun L M=>Zbd L fun L=>Zai M fun M N=>Zbd M fun M=>Zbq N (Zak pg Zga [.ptr a0,.agg [.str L,.str M]] K fun K L=>
 Zec .i64 K fun K=>bcase (decide ((K:Int) < 0)) (Q (.str []) L) (Zbf a0 fun M N=>xSl (Zag L (.ptr (M,N + 0 + 1))) fun O P R R=>(0≤(K:Int)∧(K:Int) < (P:Nat))∧(Zbf O fun O P=>Zcd (Zbe L (.ptr (O,P + (Int.toNat K) * 3)) 3) fun R=>Zai R fun R S=>Zbd R fun R=>Zai S fun S T=>Zbd S fun S=>Zai T fun T U=>xSl T fun T V W X=>Zbq U (Zbd (Zag L (.ptr (h.length,0 + 1))) fun U=>(Zbe L (.ptr (O,P + (Int.toNat K) * 3)) 3=Zbe L (.ptr (O,P + (Int.toNat K) * 3)) 3)∧(Zag L (.ptr (M,N + 0 + 1))=Zag L (.ptr (M,N + 0 + 1)))∧Zak pg Zja [.agg [.str R,.str S,.slice T V W X],.str U] L fun O P=>
 Zlf O fun O=>Zai O fun O R=>xSl O fun O S T U=>Zai R fun R V=>Zca R fun R=>Zbq V ((Zag P (.ptr (M,N + 0 + 1))=Zag L (.ptr (M,N + 0 + 1)))∧bcase (!R) (Zbf a0 fun L M=>Zbt (Zbb P (.ptr (L,M + 5)) [.str ([98,105,103])]) fun L=>Q (.str []) L) (Zak pg Zhq [.int .i64 K] P fun K L=>
 Zbd K fun K=>L18 Q a0 x2 O S T U K O S T U (((S:Nat):Int)) 0 L))))))))))∧(Zcf (J ++ [.cells Zab [.str H,.str I] false]) fun K=>(Zag K (.ptr (B,C + 4))=Zag J (.ptr (B,C + 4)))∧Zci pg Zbo K (.slice (A.length,0) 0 0 true) (.slice D E F G) fun L M=>xSl L fun L N O P=>(Zbe M (.ptr (h.length,0)) 2=Zbe K (.ptr (h.length,0)) 2)∧(Zag M (.ptr (B,C + 4))=Zag K (.ptr (B,C + 4)))∧Zci pg Zbo M (.slice L N O P) (.slice (J.length,0) 1 1 true) fun J K=>xSl J fun J L N O=>(Zbe K (.ptr (h.length,0)) 2=Zbe M (.ptr (h.length,0)) 2)∧(Zag K (.ptr (B,C + 4))=Zag M (.ptr (B,C + 4)))∧Zbf a0 fun M P=>Zbt (Zbb K (.ptr (M,P + 4)) [.slice J L N O]) fun J=>Zbf a0 fun K L=>xSl (Zag J (.ptr (K,L + 3))) fun K K L L=>bcase (decide (((((K:Nat):Int)):Int) ≥ 300)) (Zbf a0 fun K L=>Zbt (Zbb J (.ptr (K,L + 5)) [.str ([108,111,110,103])]) fun K=>Q (.str []) K) (Zbf a0 fun K L=>xSl (Zag J (.ptr (K,L + 3))) fun M N O P=>Zcd (Zbe J (.ptr (h.length,0)) 2) fun R=>Zai R fun R S=>Zbd R fun R=>Zai S fun S T=>Zbd S fun S=>Zbq T ((Zag J (.ptr (K,L + 3))=Zag J (.ptr (K,L + 3)))∧Zcf (J ++ [.cells Zab [.str R,.str S] false]) fun R=>(Zag R (.ptr (K,L + 3))=Zag J (.ptr (K,L + 3)))∧Zci pg Zbo R (.slice M N O P) (.slice (J.length,0) 1 1 true) fun J K=>xSl J fun J L M N=>Zbf a0 fun O P=>Zbt (Zbb K (.ptr (O,P + 3)) [.slice J L M N]) fun J=>bcase (decide ((x2:Int) > 30)) (Zbf a0 fun K L=>Zbt (Zbb J (.ptr (K,L + 5)) [.str ([100,101,101,112])]) fun K=>Q (.str []) K) (Zcd (Zbe J (.ptr (h.length,0)) 2) fun K=>Zai K fun K L=>Zbd K fun K=>Zai L fun L M=>Zbd L fun L=>Zbq M (Zak pg Zga [.ptr a0,.agg [.str K,.str L]] J fun J K=>
 Zec .i64 J fun J=>bcase (decide ((J:Int) < 0)) (Q (.str []) K) (Zbf a0 fun L M=>xSl (Zag K (.ptr (L,M + 0 + 1))) fun N O P P=>(0≤(J:Int)∧(J:Int) < (O:Nat))∧(Zbf N fun N O=>Zcd (Zbe K (.ptr (N,O + (Int.toNat J) * 3)) 3) fun P=>Zai P fun P R=>Zbd P fun P=>Zai R fun R S=>Zbd R fun R=>Zai S fun S T=>xSl S fun S U V W=>Zbq T (Zbd (Zag K (.ptr (h.length,0 + 1))) fun T=>(Zbe K (.ptr (N,O + (Int.toNat J) * 3)) 3=Zbe K (.ptr (N,O + (Int.toNat J) * 3)) 3)∧(Zag K (.ptr (L,M + 0 + 1))=Zag K (.ptr (L,M + 0 + 1)))∧Zak pg Zja [.agg [.str P,.str R,.slice S U V W],.str T] K fun N O=>
 Zlf N fun N=>Zai N fun N P=>xSl N fun N R S T=>Zai P fun P U=>Zca P fun P=>Zbq U ((Zag O (.ptr (L,M + 0 + 1))=Zag K (.ptr (L,M + 0 + 1)))∧bcase (!P) (Zbf a0 fun K L=>Zbt (Zbb O (.ptr (K,L + 5)) [.str ([98,105,103])]) fun K=>Q (.str []) K) (Zak pg Zhq [.int .i64 J] O fun J K=>
 Zbd J fun J=>L18 Q a0 x2 N R S T J N R S T (((R:Nat):Int)) 0 K)))))))))))∧(Zcf (A ++ [.cells Zab [.str H,.str I] false]) fun H=>(Zag H (.ptr (B,C + 4))=Zag A (.ptr (B,C + 4)))∧Zcf (H ++ [.cells Zab [] false]) fun I=>(Zbe I (.ptr (h.length,0)) 2=Zbe H (.ptr (h.length,0)) 2)∧(Zag I (.ptr (B,C + 4))=Zag H (.ptr (B,C + 4)))∧Zci pg Zbo I (.slice (H.length,0) 0 0 true) (.slice D E F G) fun D E=>xSl D fun D F G H=>(Zbe E (.ptr (h.length,0)) 2=Zbe I (.ptr (h.length,0)) 2)∧(Zag E (.ptr (B,C + 4))=Zag I (.ptr (B,C + 4)))∧Zci pg Zbo E (.slice D F G H) (.slice (A.length,0) 1 1 true) fun A D=>xSl A fun A F G H=>(Zbe D (.ptr (h.length,0)) 2=Zbe E (.ptr (h.length,0)) 2)∧(Zag D (.ptr (B,C + 4))=Zag E (.ptr (B,C + 4)))∧Zbf a0 fun B C=>Zbt (Zbb D (.ptr (B,C + 4)) [.slice A F G H]) fun A=>Zbf a0 fun B C=>xSl (Zag A (.ptr (B,C + 3))) fun B B C C=>bcase (decide (((((B:Nat):Int)):Int) ≥ 300)) (Zbf a0 fun B C=>Zbt (Zbb A (.ptr (B,C + 5)) [.str ([108,111,110,103])]) fun B=>Q (.str []) B) (Zbf a0 fun B C=>xSl (Zag A (.ptr (B,C + 3))) fun D E F G=>Zcd (Zbe A (.ptr (h.length,0)) 2) fun H=>Zai H fun H I=>Zbd H fun H=>Zai I fun I J=>Zbd I fun I=>Zbq J ((Zag A (.ptr (B,C + 3))=Zag A (.ptr (B,C + 3)))∧Zcf (A ++ [.cells Zab [.str H,.str I] false]) fun H=>(Zag H (.ptr (B,C + 3))=Zag A (.ptr (B,C + 3)))∧Zci pg Zbo H (.slice D E F G) (.slice (A.length,0) 1 1 true) fun A B=>xSl A fun A C D E=>Zbf a0 fun F G=>Zbt (Zbb B (.ptr (F,G + 3)) [.slice A C D E]) fun A=>bcase (decide ((x2:Int) > 30)) (Zbf a0 fun B C=>Zbt (Zbb A (.ptr (B,C + 5)) [.str ([100,101,101,112])]) fun B=>Q (.str []) B) (Zcd (Zbe A (.ptr (h.length,0)) 2) fun B=>Zai B fun B C=>Zbd B fun B=>Zai C fun C D=>Zbd C fun C=>Zbq D (Zak pg Zga [.ptr a0,.agg [.str B,.str C]] A fun A B=>
 Zec .i64 A fun A=>bcase (decide ((A:Int) < 0)) (Q (.str []) B) (Zbf a0 fun C D=>xSl (Zag B (.ptr (C,D + 0 + 1))) fun E F G G=>(0≤(A:Int)∧(A:Int) < (F:Nat))∧(Zbf E fun E F=>Zcd (Zbe B (.ptr (E,F + (Int.toNat A) * 3)) 3) fun G=>Zai G fun G H=>Zbd G fun G=>Zai H fun H I=>Zbd H fun H=>Zai I fun I J=>xSl I fun I K L M=>Zbq J (Zbd (Zag B (.ptr (h.length,0 + 1))) fun J=>(Zbe B (.ptr (E,F + (Int.toNat A) * 3)) 3=Zbe B (.ptr (E,F + (Int.toNat A) * 3)) 3)∧(Zag B (.ptr (C,D + 0 + 1))=Zag B (.ptr (C,D + 0 + 1)))∧Zak pg Zja [.agg [.str G,.str H,.slice I K L M],.str J] B fun E F=>
 Zlf E fun E=>Zai E fun E G=>xSl E fun E H I J=>Zai G fun G K=>Zca G fun G=>Zbq K ((Zag F (.ptr (C,D + 0 + 1))=Zag B (.ptr (C,D + 0 + 1)))∧bcase (!G) (Zbf a0 fun B C=>Zbt (Zbb F (.ptr (B,C + 5)) [.str ([98,105,103])]) fun B=>Q (.str []) B) (Zak pg Zhq [.int .i64 A] F fun A B=>
 Zbd A fun A=>L18 Q a0 x2 E H I J A E H I J (((H:Nat):Int)) 0 B)))))))))))):Zak pg Zgx [.ptr a0,.agg [.str x1x0,.str x1x1],.int .i64 x2] h Q:=
 Zak.of_body kp (c:=cod fn) (fn:=fn) Go.Proofs.Tryz.func75 (by kernel_rfl) (by kernel_rfl) (Nat.le_of_ble_eq_true (by kernel_rfl))
  (cast (by kernel_rfl) ht)
end Zep
end Go.Sim

set_option maxRecDepth 100000
set_option maxHeartbeats 0
set_option linter.unusedVariables false
namespace Go.Sim
open Go Go.RowKit
namespace Zty
noncomputable abbrev fn:Func:=Go.Proofs.Tryz.f42
def kp:Zch:=[]
noncomputable def C (p:List Nat):Code:=(cod fn).sub p
def KR (Q:QT):KT:=Zfd pg fn.results.toList Q
theorem call (a0x0:Pt) (n0x0 c0x0:Nat) (e0x0:Bool) (a0x1:Pt) (n0x1 c0x1:Nat) (e0x1:Bool) (x1x0 x1x1:List Nat) (x2:Bool) (h:Zaa) (Q:QT) (ht :
 Zcf (h ++ [.cells Zac [.slice a0x0 n0x0 c0x0 e0x0,.slice a0x1 n0x1 c0x1 e0x1] false]) fun A=>Zcf (A ++ [.cells Zab [.str x1x0,.str x1x1] false]) fun B=>Zcd (Zbe B (.ptr (h.length,0)) 2) fun C=>Zai C fun C D=>xSl C fun C E F G=>Zai D fun D H=>xSl D fun D I J K=>Zbq H (Zcf (B ++ [.cells Zfc [.slice C E F G,.slice D I J K,.bool x2,.fn Zdh [],.slice none 0 0 true,.str [],.str [],.slice none 0 0 true] false]) fun C=>Zcd (Zbe C (.ptr (h.length,0)) 2) fun D=>Zai D fun D E=>xSl D fun D F G H=>Zai E fun E I=>xSl E fun E J K L=>Zbq I (Zcd (Zbe C (.ptr (A.length,0)) 2) fun I=>Zai I fun I M=>Zbd I fun I=>Zai M fun M N=>Zbd M fun M=>Zbq N (Zak pg Zok [.agg [.slice D F G H,.slice E J K L],.agg [.str I,.str M]] C fun C D=>
 Zca C fun C=>bcase (!C) (Q (.tup [.ptr (B.length,0),.str [],.str ([119,114,111,110,103])]) D) (Zcd (Zbe D (.ptr (A.length,0)) 2) fun A=>Zai A fun A C=>Zbd A fun A=>Zai C fun C E=>Zbd C fun C=>Zbq E (Zak pg Zid [.ptr (B.length,0),.agg [.str A,.str C],.slice none 0 0 true] D fun A C=>
 Zlf A fun A=>Zai A fun A D=>Zbd A fun A=>Zai D fun D E=>Zbd D fun D=>Zbq E (Q (.tup [.ptr (B.length,0),.str A,.str D]) C))))))):Zak pg Zjk [.agg [.slice a0x0 n0x0 c0x0 e0x0,.slice a0x1 n0x1 c0x1 e0x1],.agg [.str x1x0,.str x1x1],.bool x2] h Q:=
 Zak.of_body kp (c:=cod fn) (fn:=fn) Go.Proofs.Tryz.func42 (by kernel_rfl) (by kernel_rfl) (Nat.le_of_ble_eq_true (by kernel_rfl))
  (cast (by kernel_rfl) ht)
end Zty
namespace Zug
noncomputable abbrev fn:Func:=Go.Proofs.Tryz.f18
def kp:Zch:=[]
noncomputable def C (p:List Nat):Code:=(cod fn).sub p
def KR (Q:QT):KT:=Zfd pg fn.results.toList Q
theorem call (a0x0:Pt) (n0x0 c0x0:Nat) (e0x0:Bool) (a0x1:Pt) (n0x1 c0x1:Nat) (e0x1:Bool) (x1x0 x1x1:List Nat) (h:Zaa) (Q:QT) (ht :
 Zcf (h ++ [.cells Zac [.slice a0x0 n0x0 c0x0 e0x0,.slice a0x1 n0x1 c0x1 e0x1] false]) fun A=>Zcf (A ++ [.cells Zab [.str x1x0,.str x1x1] false]) fun B=>Zcd (Zbe B (.ptr (h.length,0)) 2) fun C=>Zai C fun C D=>xSl C fun C E F G=>Zai D fun D H=>xSl D fun D I J K=>Zbq H (Zcd (Zbe B (.ptr (A.length,0)) 2) fun A=>Zai A fun A H=>Zbd A fun A=>Zai H fun H L=>Zbd H fun H=>Zbq L (Zak pg Zjk [.agg [.slice C E F G,.slice D I J K],.agg [.str A,.str H],.bool false] B fun A B=>
 Zlf A fun A=>Zai A fun A C=>Zgn A fun A=>Zai C fun A C=>Zbd A fun A=>Zai C fun C D=>Zbd C fun C=>Zbq D (Q (.tup [.str A,.str C]) B)))):Zak pg Zmb [.agg [.slice a0x0 n0x0 c0x0 e0x0,.slice a0x1 n0x1 c0x1 e0x1],.agg [.str x1x0,.str x1x1]] h Q:=
 Zak.of_body kp (c:=cod fn) (fn:=fn) Go.Proofs.Tryz.func18 (by kernel_rfl) (by kernel_rfl) (Nat.le_of_ble_eq_true (by kernel_rfl))
  (cast (by kernel_rfl) ht)
end Zug
namespace Zqq
noncomputable abbrev fn:Func:=Go.Proofs.Tryz.f21
def kp:Zch:=[]
noncomputable def C (p:List Nat):Code:=(cod fn).sub p
def KR (Q:QT):KT:=Zfd pg fn.results.toList Q
theorem call (a0x0:Pt) (n0x0 c0x0:Nat) (e0x0:Bool) (a0x1:Pt) (n0x1 c0x1:Nat) (e0x1:Bool) (x1x0 x1x1:List Nat) (h:Zaa) (Q:QT) (ht :
 Zcf (h ++ [.cells Zac [.slice a0x0 n0x0 c0x0 e0x0,.slice a0x1 n0x1 c0x1 e0x1] false]) fun A=>Zcf (A ++ [.cells Zab [.str x1x0,.str x1x1] false]) fun B=>Zcd (Zbe B (.ptr (h.length,0)) 2) fun C=>Zai C fun C D=>xSl C fun C E F G=>Zai D fun D H=>xSl D fun D I J K=>Zbq H (Zcd (Zbe B (.ptr (A.length,0)) 2) fun A=>Zai A fun A H=>Zbd A fun A=>Zai H fun H L=>Zbd H fun H=>Zbq L (Zak pg Zmb [.agg [.slice C E F G,.slice D I J K],.agg [.str A,.str H]] B fun A B=>
 Zlf A fun A=>Zai A fun A C=>Zbd A fun A=>Zai C fun A C=>Zbd A fun A=>Zbq C (Q (.bool (decide (A=[]))) B)))):Zak pg Zmt [.agg [.slice a0x0 n0x0 c0x0 e0x0,.slice a0x1 n0x1 c0x1 e0x1],.agg [.str x1x0,.str x1x1]] h Q:=
 Zak.of_body kp (c:=cod fn) (fn:=fn) Go.Proofs.Tryz.func21 (by kernel_rfl) (by kernel_rfl) (Nat.le_of_ble_eq_true (by kernel_rfl))
  (cast (by kernel_rfl) ht)
end Zqq
namespace Zmk
noncomputable abbrev fn:Func:=Go.Proofs.Tryz.f27
def kp:Zch:=[(4000004,[6,4])]
noncomputable def C (p:List Nat):Code:=(cod fn).sub p
def KR (Q:QT):KT:=Zfd pg fn.results.toList Q
def J4 (Q:QT) (a6:Pt) (i4 o4:Nat) (h:Zaa):Prop:=Den pg fn.ntmps (C [1,1,1]) [(6,.ptr a6),(4,.ptr (i4,o4))] h (KR Q)
theorem J4i (Q:QT) (a6:Pt) (i4 o4:Nat) (h:Zaa) (ht :
 Zbf a6 fun A B=>Zcd (Zbe h (.ptr (A,B + 5)) 2) fun A=>Zai A fun A B=>Zbd A fun A=>Zai B fun B C=>Zbd B fun B=>Zbq C (Zbt (Zbb h (.ptr (i4,o4)) [.str A,.str B]) fun A=>Zcd (Zbe A (.ptr (i4,o4)) 2) fun B=>Zai B fun B C=>Zbd B fun B=>Zai C fun C D=>Zbd C fun C=>Zbq D (Q (.tup [.agg [.str B,.str C],.bool true]) A))):J4 Q a6 i4 o4 h:=
 Zba (kp:=kp) (cast (by kernel_rfl) ht)
theorem call (a0x0:Pt) (n0x0 c0x0:Nat) (e0x0:Bool) (a0x1:Pt) (n0x1 c0x1:Nat) (e0x1:Bool) (x1x0 x1x1:List Nat) (h:Zaa) (Q:QT) (ht :
 Zcf (h ++ [.cells Zac [.slice a0x0 n0x0 c0x0 e0x0,.slice a0x1 n0x1 c0x1 e0x1] false]) fun A=>Zcf (A ++ [.cells Zab [.str x1x0,.str x1x1] false]) fun B=>Zcf (B ++ [.cells Zab [.str [],.str []] false]) fun C=>Zcd (Zbe C (.ptr (h.length,0)) 2) fun D=>Zai D fun D E=>xSl D fun D F G H=>Zai E fun E I=>xSl E fun E J K L=>Zbq I (Zcd (Zbe C (.ptr (A.length,0)) 2) fun A=>Zai A fun A I=>Zbd A fun A=>Zai I fun I M=>Zbd I fun I=>Zbq M (Zak pg Zjk [.agg [.slice D F G H,.slice E J K L],.agg [.str A,.str I],.bool false] C fun A C=>
 Zlf A fun A=>Zai A fun A D=>Zgn A fun A=>Zai D fun D E=>Zbd D fun D=>Zai E fun D E=>Zbd D fun D=>Zbq E (bcase (decide (D=[])) (Zbt (Zbb C (.ptr (B.length,0)) [.str [],.str []]) fun E=>Zcd (Zbe E (.ptr (B.length,0)) 2) fun F=>Zai F fun F G=>Zbd F fun F=>Zai G fun G H=>Zbd G fun G=>Zbq H (Q (.tup [.agg [.str F,.str G],.bool false]) E)) (bcase (decide (D=[119,114,111,110,103])) (Zbt (Zbb C (.ptr (B.length,0)) [.str [],.str []]) fun D=>Zcd (Zbe D (.ptr (B.length,0)) 2) fun E=>Zai E fun E F=>Zbd E fun E=>Zai F fun F G=>Zbd F fun F=>Zbq G (Q (.tup [.agg [.str E,.str F],.bool false]) D)) (J4 Q A B.length 0 C)))))):Zak pg Zmw [.agg [.slice a0x0 n0x0 c0x0 e0x0,.slice a0x1 n0x1 c0x1 e0x1],.agg [.str x1x0,.str x1x1]] h Q:=
 Zak.of_body kp (c:=cod fn) (fn:=fn) Go.Proofs.Tryz.func27 (by kernel_rfl) (by kernel_rfl) (Nat.le_of_ble_eq_true (by kernel_rfl))
  (cast (by kernel_rfl) ht)
end Zmk
end Go.Sim

set_option maxRecDepth 100000
set_option maxHeartbeats 0
set_option linter.unusedVariables false
namespace Go.Sim
open Go Go.RowKit
namespace Zld
noncomputable abbrev fn:Func:=Go.Proofs.Tryz.f10
def kp:Zch:=[(3000002,[0,1,4]),(1000002,[0,1,10,11]),(2000004,[22,11,10,0,1])]
noncomputable def C (p:List Nat):Code:=(cod fn).sub p
def KR (Q:QT):KT:=Zfd pg fn.results.toList Q
abbrev T2:=Pt→Nat→Nat→Bool→Pt→Nat→Nat→Bool→Int→Int→Zaa→Prop
def E2 (R2:T2) (env:Env) (h:Zaa):Prop:=Zbu 0 env fun v env=>xSl v fun a0 n0 c0 e0=>Zbu 1 env fun v env=>xSl v fun a1 n1 c1 e1=>Zbu 10 env fun v env=>Zdz .i64 v fun x10=>Zbu 11 env fun v env=>Zdz .i64 v fun x11=>Zil env (R2 a0 n0 c0 e0 a1 n1 c1 e1 x10 x11 h)
theorem Zea {R2:T2} {env:Env} {h:Zaa} (hi:E2 R2 env h):∃ a0,∃ n0,∃ c0,∃ e0,∃ a1,∃ n1,∃ c1,∃ e1,∃ x10,∃ x11,env=[(0,.slice a0 n0 c0 e0),(1,.slice a1 n1 c1 e1),(10,.int .i64 x10),(11,.int .i64 x11)]∧R2 a0 n0 c0 e0 a1 n1 c1 e1 x10 x11 h:=by
 unfold E2 at hi
 repeat ((first | (have k:=Zaf hi; clear hi; obtain ⟨_,_,e,hi⟩:=k) | (have k:=Zav hi; clear hi; obtain ⟨_,e,hi⟩:=k) | (have k:=Zbp hi; clear hi; obtain ⟨_,_,_,_,e,hi⟩:=k)); subst e)
 obtain ⟨rfl,hi⟩:=Zbl hi
 exact ⟨_,_,_,_,_,_,_,_,_,_,rfl,hi⟩
def K0 (Q:QT):KT:=andThen (fun env' h'=>(match kp.find 4000007 with | some ks=>Den pg fn.ntmps (C [1,1]) (env'.keep ks) h' (KR Q) | none=>den pg fn.ntmps kp (C [1,1]) env' h' (KR Q))) (KR Q)
def K1 (Q:QT):KT:=Zcj 0 (K0 Q)
def K2 (Q:QT):KT:=left kp 2 (K1 Q)
def K3 (Q:QT) (R2:T2):KT:=rnd ((kp.find 1000002).getD []) (E2 R2) (K2 Q)
def L2 (Q:QT) (a0:Pt) (n0 c0:Nat) (e0:Bool) (a1:Pt) (n1 c1:Nat) (e1:Bool) (x10 x11:Int) (h:Zaa):Prop:=Zej (Den pg fn.ntmps (C [1,0,1,0,0])) ((kp.find 1000002).getD []) (K2 Q) [(0,.slice a0 n0 c0 e0),(1,.slice a1 n1 c1 e1),(10,.int .i64 x10),(11,.int .i64 x11)] h
def Zmz (Q:QT) (a0:Pt) (n0 c0:Nat) (e0:Bool) (a1:Pt) (n1 c1:Nat) (e1:Bool) (h:Zaa):Prop:=At (K1 Q) (.exit 0) [(0,.slice a0 n0 c0 e0),(1,.slice a1 n1 c1 e1),(4,.undef)] h
def L2t (Q:QT) (R2:T2) (a0:Pt) (n0 c0:Nat) (e0:Bool) (a1:Pt) (n1 c1:Nat) (e1:Bool) (x10 x11:Int) (h:Zaa):Prop:=
 bcase (decide ((x11:Int) < x10)) ((0≤(x11:Int)∧(x11:Int) < (n0:Nat))∧(Zbf a0 fun A B=>(0≤(x11:Int)∧(x11:Int) < (n1:Nat))∧(Zbf a1 fun C D=>Zcd (Zbe h (.ptr (A,B + (Int.toNat x11) * 2)) 2) fun E=>Zai E fun E F=>Zbd E fun E=>Zai F fun F G=>Zbd F fun F=>Zbq G (Zcd (Zbe h (.ptr (C,D + (Int.toNat x11) * 2)) 2) fun C=>Zai C fun C D=>Zbd C fun C=>Zai D fun D G=>Zbd D fun D=>Zbq G ((Zbe h (.ptr (A,B + (Int.toNat x11) * 2)) 2=Zbe h (.ptr (A,B + (Int.toNat x11) * 2)) 2)∧bcase (!((decide (E=C)) && (decide (F=D)))) (Q (.bool false) h) (R2 a0 n0 c0 e0 a1 n1 c1 e1 x10 (IntKind.wrap .i64 (x11 + 1)) h)))))) (Zmz Q a0 n0 c0 e0 a1 n1 c1 e1 h)
theorem Zjc (Q:QT) (R2:T2) (a0:Pt) (n0 c0:Nat) (e0:Bool) (a1:Pt) (n1 c1:Nat) (e1:Bool) (x10 x11:Int) (h:Zaa) (ht:L2t Q R2 a0 n0 c0 e0 a1 n1 c1 e1 x10 x11 h):Den pg fn.ntmps (C [1,0,1,0,0]) [(0,.slice a0 n0 c0 e0),(1,.slice a1 n1 c1 e1),(10,.int .i64 x10),(11,.int .i64 x11)] h (K3 Q R2):=
 Zba (kp:=kp) (cast (by kernel_rfl) ht)
theorem L2ind (Q:QT) (a0:Pt) (n0 c0:Nat) (e0:Bool) (a1:Pt) (n1 c1:Nat) (e1:Bool) (x10:Int) {G:Type} (J:G→Int→Zaa→Prop) (m:G→Nat)
 (hr:∀ (g:G) (x11:Int) (h:Zaa),J g x11 h→∀ (R2:T2),(∀ g' (x11:Int) (h:Zaa),m g' < m g→J g' x11 h→R2 a0 n0 c0 e0 a1 n1 c1 e1 x10 x11 h)→L2t Q R2 a0 n0 c0 e0 a1 n1 c1 e1 x10 x11 h)
 (g:G) (x11:Int) (h:Zaa) (hj:J g x11 h):L2 Q a0 n0 c0 e0 a1 n1 c1 e1 x10 x11 h:=by
 let P:=fun (K:Int→Zaa→Prop) a0' n0' c0' e0' a1' n1' c1' e1' x10' x11 h=>a0=a0'∧n0=n0'∧c0=c0'∧e0=e0'∧a1=a1'∧n1=n1'∧c1=c1'∧e1=e1'∧x10=x10'∧K x11 h
 refine Zej.inv2 (fun g=>E2 (P (J g))) (fun g=>E2 (P fun x11 h=>∃ g',m g' < m g∧J g' x11 h)) m ?_ ?_ g ⟨rfl,rfl,rfl,rfl,rfl,rfl,rfl,rfl,rfl,hj⟩
 ·intro g env h hi
  obtain ⟨a0',n0',c0',e0',a1',n1',c1',e1',x10',x11,rfl,rfl,rfl,rfl,rfl,rfl,rfl,rfl,rfl,rfl,hj⟩:=Zea hi
  exact Zjc Q _ a0 n0 c0 e0 a1 n1 c1 e1 x10 x11 h (hr g x11 h hj (P fun x11 h=>∃ g',m g' < m g∧J g' x11 h) fun g' x11 h hlt hj=>⟨rfl,rfl,rfl,rfl,rfl,rfl,rfl,rfl,rfl,g',hlt,hj⟩)
 ·intro g env h hi
  obtain ⟨a0',n0',c0',e0',a1',n1',c1',e1',x10',x11,rfl,rfl,rfl,rfl,rfl,rfl,rfl,rfl,rfl,rfl,g',hlt,hj⟩:=Zea hi
  exact ⟨g',hlt,rfl,rfl,rfl,rfl,rfl,rfl,rfl,rfl,rfl,hj⟩
theorem A2x0i (Q:QT) (a0:Pt) (n0 c0:Nat) (e0:Bool) (a1:Pt) (n1 c1:Nat) (e1:Bool) (h:Zaa) (ht :
 Q (.bool ((((n0:Nat):Int):Int) == (((n1:Nat):Int)))) h):Zmz Q a0 n0 c0 e0 a1 n1 c1 e1 h:=
 At.mk (cast (by kernel_rfl) ht)
theorem call (a0:Pt) (n0 c0:Nat) (e0:Bool) (a1:Pt) (n1 c1:Nat) (e1:Bool) (h:Zaa) (Q:QT) (ht :
 L2 Q a0 n0 c0 e0 a1 n1 c1 e1 (if (((n1:Nat):Int):Int) < (((n0:Nat):Int)) then ((n1:Nat):Int) else ((n0:Nat):Int)) 0 h):Zak pg Zez [.slice a0 n0 c0 e0,.slice a1 n1 c1 e1] h Q:=
 Zak.of_body kp (c:=cod fn) (fn:=fn) Go.Proofs.Tryz.func10 (by kernel_rfl) (by kernel_rfl) (Nat.le_of_ble_eq_true (by kernel_rfl))
  (cast (by kernel_rfl) ht)
end Zld
end Go.Sim
