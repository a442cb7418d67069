/- A part of the proof of a statement of this seat: see the text that holds the theorem. No condition. -/
import Derived.Test.YtflfcofeedjblaaGreatDoorNm
set_option linter.unusedVariables false
set_option linter.unusedSimpArgs false
set_option linter.all false
set_option maxRecDepth 100000
set_option maxHeartbeats 0
set_option linter.unusedVariables false
namespace Go.Sim
open Go Go.RowKit
namespace Zro
noncomputable abbrev fn:Func:=Go.Proofs.Tryz.f119
def kp:Zch:=[]
noncomputable def C (p:List Nat):Code:=(cod fn).sub p
def KR (Q:QT):KT:=Zfd pg fn.results.toList Q
theorem call (x0:List Nat) (h:Zaa) (Q:QT) (ht :
 Zcf (h ++ [.cells Zac [.slice none 0 0 true,.slice none 0 0 true] false]) fun A=>Zak pg Zje [.str x0] A fun A B=>
 Zlf A fun A=>Zai A fun A C=>Zqi A fun A=>Zai A fun A D=>xSl A fun A E F G=>Zai D fun D H=>xSl D fun D I J K=>Zbq H (Zai C fun C H=>Zca C fun C=>Zbq H (Zcf (B ++ [.cells Zac [.slice none 0 0 true,.slice none 0 0 true] false]) fun H=>Zbt (Zbb H (.ptr (B.length,0)) [.slice A E F G,.slice D I J K]) fun A=>Zcd (Zbe A (.ptr (B.length,0)) 2) fun B=>Zai B fun B D=>xSl B fun B E F G=>Zai D fun D H=>xSl D fun D I J K=>Zbq H (Zak pg Zjh [.agg [.slice B E F G,.slice D I J K]] A fun A B=>
 Zqi A fun A=>Zai A fun A D=>xSl A fun A E F G=>Zai D fun D H=>xSl D fun D I J K=>Zbq H (Zbt (Zbb B (.ptr (h.length,0)) [.slice A E F G,.slice D I J K]) fun A=>Zcd (Zbe A (.ptr (h.length,0)) 2) fun B=>Zai B fun B D=>xSl B fun B E F G=>Zai D fun D H=>xSl D fun D I J K=>Zbq H (Q (.tup [.agg [.slice B E F G,.slice D I J K],.bool C]) A)))))):Zak pg Zkb [.str x0] h Q:=
 Zak.of_body kp (c:=cod fn) (fn:=fn) Go.Proofs.Tryz.func119 (by kernel_rfl) (by kernel_rfl) (Nat.le_of_ble_eq_true (by kernel_rfl))
  (cast (by kernel_rfl) ht)
end Zro
namespace Zvn
noncomputable abbrev fn:Func:=Go.Proofs.Tryz.f118
def kp:Zch:=[]
noncomputable def C (p:List Nat):Code:=(cod fn).sub p
def KR (Q:QT):KT:=Zfd pg fn.results.toList Q
theorem call (x0:Int) (h:Zaa) (Q:QT) (ht :
 Zcf (h ++ [.cells Zac [.slice none 0 0 true,.slice none 0 0 true] false]) fun A=>Zcf (A ++ [.cells Zbi [.str ([69,32,79,60,69,59,69,32,105,59,69,32,98,59,69,32,108,40,120,41,58,69,32,120,59,69,32,112,40,120,44,121,41,58,69,32,120,38,69,32,121,59,79,32,105,59,79,32,108,40,120,41,58,79,32,120]),.str ([69,32,83,59,69,32,105,59,69,32,108,40,120,41,58,69,32,120,59,69,32,108,40,105,41,59,83,32,112,40,120,44,120,41,58,83,32,120,59,83,32,112,40,105,44,98,41,59,83,32,105,59,83,32,98]),.str ([65,32,66,59,65,32,105,59,65,32,108,40,120,41,58,65,32,120,38,66,32,120,59,66,32,105,59,66,32,108,40,120,41,58,65,32,108,40,120,41]),.str ([65,59,65,32,108,40,120,41,58,65,32,108,40,120,41,59,65,32,109,40,120,41,58,65,32,108,40,109,40,120,41,41,59,65,32,105]),.str ([69,32,79,60,69,32,83,60,69,79,59,69,32,117,59,69,32,105,59,79,32,105,59,83,32,105,59,69,32,109,40,120,41,58,69,32,120,59,79,32,109,40,120,41,58,79,32,120,59,83,32,109,40,120,41,58,83,32,120,38,69,32,109,40,120,41]),.str ([69,32,70,59,69,32,105,59,69,32,98,59,70,32,108,40,120,41,58,69,32,120,59,70,32,109,40,120,41,58,70,32,120,38,69,32,120,59,70,32,112,40,108,40,120,41,44,121,41,58,69,32,120,38,70,32,121,59,70,32,105]),.str ([69,32,79,60,69,59,79,32,105,59,69,32,98,59,69,32,108,40,120,41,58,69,32,120]),.str ([65,32,66,60,65,32,67,60,65,66,59,65,32,105,59,66,32,105,59,67,32,105,59,65,32,108,40,120,41,58,67,32,120,59,66,32,108,40,120,41,58,67,32,120,59,67,32,108,40,120,41,58,67,32,120,59,65,32,117]),.str ([69,59,69,32,112,40,120,44,105,41,58,69,32,120,59,69,32,112,40,105,44,120,41,58,69,32,120,59,69,32,105,59,69,32,98])] false]) fun B=>((((9:Nat):Int)):Int)≠0∧((0≤(Int.tmod x0 (((9:Nat):Int)):Int)∧(Int.tmod x0 (((9:Nat):Int)):Int) < (9:Nat))∧(Zbd (Zag B (.ptr (A.length,0 + (Int.toNat (Int.tmod x0 (((9:Nat):Int)))) * 1))) fun A=>Zak pg Zkb [.str A] B fun A B=>
 Zlf A fun A=>Zai A fun A C=>Zqi A fun A=>Zai A fun A D=>xSl A fun A E F G=>Zai D fun D H=>xSl D fun D I J K=>Zbq H (Zai C fun C H=>Zca C fun C=>Zbq H (Zcf (B ++ [.cells Zac [.slice none 0 0 true,.slice none 0 0 true] false]) fun C=>Zbt (Zbb C (.ptr (B.length,0)) [.slice A E F G,.slice D I J K]) fun A=>Zcd (Zbe A (.ptr (B.length,0)) 2) fun B=>Zai B fun B C=>xSl B fun B D E F=>Zai C fun C G=>xSl C fun C H I J=>Zbq G (Zbt (Zbb A (.ptr (h.length,0)) [.slice B D E F,.slice C H I J]) fun A=>Zcd (Zbe A (.ptr (h.length,0)) 2) fun B=>Zai B fun B C=>xSl B fun B D E F=>Zai C fun C G=>xSl C fun C H I J=>Zbq G (Q (.agg [.slice B D E F,.slice C H I J]) A))))))):Zak pg Zqw [.int .i64 x0] h Q:=
 Zak.of_body kp (c:=cod fn) (fn:=fn) Go.Proofs.Tryz.func118 (by kernel_rfl) (by kernel_rfl) (Nat.le_of_ble_eq_true (by kernel_rfl))
  (cast (by kernel_rfl) ht)
end Zvn
namespace Zri
noncomputable abbrev fn:Func:=Go.Proofs.Tryz.f141
def kp:Zch:=[(2000001,[2,7,0,6])]
noncomputable def C (p:List Nat):Code:=(cod fn).sub p
def KR (Q:QT):KT:=Zfd pg fn.results.toList Q
theorem call (a0 a1x0:Pt) (n1x0 c1x0:Nat) (e1x0:Bool) (a1x1:Pt) (n1x1 c1x1:Nat) (e1x1:Bool) (x2:List Nat) (h:Zaa) (Q:QT) (ht :
 Zcf (h ++ [.cells Zac [.slice a1x0 n1x0 c1x0 e1x0,.slice a1x1 n1x1 c1x1 e1x1] false]) fun A=>Zcf (A ++ [.cells Zab [.str [],.str []] false]) fun B=>xSl (Zag B (.ptr (h.length,0 + 0))) fun C D E E=>xSl (Zag B (.ptr (h.length,0 + 0))) fun E E F F=>(Zag B (.ptr (h.length,0 + 0))=Zag B (.ptr (h.length,0 + 0)))∧Zak pg Zbh [.ptr a0,.int .i64 (((E:Nat):Int))] B fun E F=>
 Zec .i64 E fun E=>(Zag F (.ptr (h.length,0 + 0))=Zag B (.ptr (h.length,0 + 0)))∧(0≤(E:Int)∧(E:Int) < (D:Nat))∧(Zbf C fun B C=>Zbd (Zag F (.ptr (B,C + (Int.toNat E) * 2 + 0))) fun B=>(Zag F (.ptr (h.length,0 + 0))=Zag F (.ptr (h.length,0 + 0)))∧bcase (decide (x2=[])) (Zak pg Zbh [.ptr a0,.int .i64 2] F fun C D=>
 Zec .i64 C fun C=>Zak pg Zfx [.ptr a0,.int .i64 C,.bool true] D fun C D=>
 Zbd C fun C=>Zbt (Zbb D (.ptr (A.length,0)) [.str B,.str C]) fun C=>Zcd (Zbe C (.ptr (A.length,0)) 2) fun D=>Zai D fun D E=>Zbd D fun D=>Zai E fun E G=>Zbd E fun E=>Zbq G (Q (.agg [.str D,.str E]) C)) (Zak pg Zbh [.ptr a0,.int .i64 (((List.length x2:Nat):Int))] F fun C D=>
 Zec .i64 C fun C=>(0≤(C:Int)∧(C:Int)≤IntKind.wrap .i64 (C + 1)∧(IntKind.wrap .i64 (C + 1):Int)≤(List.length x2:Nat))∧(List.length ([108,40]) + List.length (sub x2 C (IntKind.wrap .i64 (C + 1)))≤9223372036854775807∧(List.length (([108,40]) ++ (sub x2 C (IntKind.wrap .i64 (C + 1)))) + List.length [41]≤9223372036854775807∧(Zcf (D ++ [.cells Zbi [.str (sub x2 C (IntKind.wrap .i64 (C + 1))),.str (sub x2 C (IntKind.wrap .i64 (C + 1))),.str (sub x2 C (IntKind.wrap .i64 (C + 1))),.str ((([108,40]) ++ (sub x2 C (IntKind.wrap .i64 (C + 1)))) ++ [41]),.str (sub x2 C (IntKind.wrap .i64 (C + 1)))] false]) fun C=>Zak pg Zck [.ptr a0,.slice (D.length,0) 5 5 true] C fun C D=>
 Zbd C fun C=>Zbt (Zbb D (.ptr (A.length,0)) [.str B,.str C]) fun B=>Zcd (Zbe B (.ptr (A.length,0)) 2) fun A=>Zai A fun A C=>Zbd A fun A=>Zai C fun C D=>Zbd C fun C=>Zbq D (Q (.agg [.str A,.str C]) B))))))):Zak pg Zii [.ptr a0,.agg [.slice a1x0 n1x0 c1x0 e1x0,.slice a1x1 n1x1 c1x1 e1x1],.str x2] h Q:=
 Zak.of_body kp (c:=cod fn) (fn:=fn) Go.Proofs.Tryz.func141 (by kernel_rfl) (by kernel_rfl) (Nat.le_of_ble_eq_true (by kernel_rfl))
  (cast (by kernel_rfl) ht)
end Zri
end Go.Sim

set_option maxRecDepth 100000
set_option maxHeartbeats 0
set_option linter.unusedVariables false
namespace Go.Sim
open Go Go.RowKit
namespace Zct
noncomputable abbrev fn:Func:=Go.Proofs.Tryz.f139
def kp:Zch:=[(3000004,[4,2,5]),(1000004,[2,4,5,21,22,23]),(2000008,[5,8,23,22,21,4,2]),(4000009,[5,8,23,22,21,4,2]),(4000010,[23,22,21,5,4,2]),(3000012,[5,2,3]),(1000012,[2,5,50,51,52])]
noncomputable def C (p:List Nat):Code:=(cod fn).sub p
def KR (Q:QT):KT:=Zfd pg fn.results.toList Q
abbrev T4:=Nat→Nat→Pt→Nat→Nat→Bool→Nat→Nat→Pt→Nat→Nat→Bool→Int→Int→Zaa→Prop
def E4 (R4:T4) (env:Env) (h:Zaa):Prop:=Zbu 2 env fun v env=>Zgn v fun a=>Zbf a fun i2 o2=>Zbu 4 env fun v env=>xSl v fun a4 n4 c4 e4=>Zbu 5 env fun v env=>Zgn v fun a=>Zbf a fun i5 o5=>Zbu 21 env fun v env=>xSl v fun a21 n21 c21 e21=>Zbu 22 env fun v env=>Zdz .i64 v fun x22=>Zbu 23 env fun v env=>Zdz .i64 v fun x23=>Zil env (R4 i2 o2 a4 n4 c4 e4 i5 o5 a21 n21 c21 e21 x22 x23 h)
theorem Zob {R4:T4} {env:Env} {h:Zaa} (hi:E4 R4 env h):∃ i2,∃ o2,∃ a4,∃ n4,∃ c4,∃ e4,∃ i5,∃ o5,∃ a21,∃ n21,∃ c21,∃ e21,∃ x22,∃ x23,env=[(2,.ptr (i2,o2)),(4,.slice a4 n4 c4 e4),(5,.ptr (i5,o5)),(21,.slice a21 n21 c21 e21),(22,.int .i64 x22),(23,.int .i64 x23)]∧R4 i2 o2 a4 n4 c4 e4 i5 o5 a21 n21 c21 e21 x22 x23 h:=by
 unfold E4 at hi
 have hi0:=hi
 clear hi
 obtain ⟨_,_,rfl,hi1⟩:=Zaf hi0
 obtain ⟨a,rfl,hi2⟩:=Zbn hi1
 obtain ⟨i2,o2,rfl,hi3⟩:=Zbk hi2
 obtain ⟨_,_,rfl,hi4⟩:=Zaf hi3
 obtain ⟨a4,n4,c4,e4,rfl,hi5⟩:=Zbp hi4
 obtain ⟨_,_,rfl,hi6⟩:=Zaf hi5
 obtain ⟨a,rfl,hi7⟩:=Zbn hi6
 obtain ⟨i5,o5,rfl,hi8⟩:=Zbk hi7
 obtain ⟨_,_,rfl,hi9⟩:=Zaf hi8
 obtain ⟨a21,n21,c21,e21,rfl,hi10⟩:=Zbp hi9
 obtain ⟨_,_,rfl,hi11⟩:=Zaf hi10
 obtain ⟨x22,rfl,hi12⟩:=Zav hi11
 obtain ⟨_,_,rfl,hi13⟩:=Zaf hi12
 obtain ⟨x23,rfl,hi14⟩:=Zav hi13
 obtain ⟨rfl,hi15⟩:=Zbl hi14
 have hi:=hi15
 exact ⟨i2,o2,a4,n4,c4,e4,i5,o5,a21,n21,c21,e21,x22,x23,rfl,hi⟩
abbrev T12:=Nat→Nat→Nat→Nat→Pt→Nat→Nat→Bool→Int→Int→Zaa→Prop
def E12 (R12:T12) (env:Env) (h:Zaa):Prop:=Zbu 2 env fun v env=>Zgn v fun a=>Zbf a fun i2 o2=>Zbu 5 env fun v env=>Zgn v fun a=>Zbf a fun i5 o5=>Zbu 50 env fun v env=>xSl v fun a50 n50 c50 e50=>Zbu 51 env fun v env=>Zdz .i64 v fun x51=>Zbu 52 env fun v env=>Zdz .i64 v fun x52=>Zil env (R12 i2 o2 i5 o5 a50 n50 c50 e50 x51 x52 h)
theorem Ycn {R12:T12} {env:Env} {h:Zaa} (hi:E12 R12 env h):∃ i2,∃ o2,∃ i5,∃ o5,∃ a50,∃ n50,∃ c50,∃ e50,∃ x51,∃ x52,env=[(2,.ptr (i2,o2)),(5,.ptr (i5,o5)),(50,.slice a50 n50 c50 e50),(51,.int .i64 x51),(52,.int .i64 x52)]∧R12 i2 o2 i5 o5 a50 n50 c50 e50 x51 x52 h:=by
 unfold E12 at hi
 have hi0:=hi
 clear hi
 obtain ⟨_,_,rfl,hi1⟩:=Zaf hi0
 obtain ⟨a,rfl,hi2⟩:=Zbn hi1
 obtain ⟨i2,o2,rfl,hi3⟩:=Zbk hi2
 obtain ⟨_,_,rfl,hi4⟩:=Zaf hi3
 obtain ⟨a,rfl,hi5⟩:=Zbn hi4
 obtain ⟨i5,o5,rfl,hi6⟩:=Zbk hi5
 obtain ⟨_,_,rfl,hi7⟩:=Zaf hi6
 obtain ⟨a50,n50,c50,e50,rfl,hi8⟩:=Zbp hi7
 obtain ⟨_,_,rfl,hi9⟩:=Zaf hi8
 obtain ⟨x51,rfl,hi10⟩:=Zav hi9
 obtain ⟨_,_,rfl,hi11⟩:=Zaf hi10
 obtain ⟨x52,rfl,hi12⟩:=Zav hi11
 obtain ⟨rfl,hi13⟩:=Zbl hi12
 have hi:=hi13
 exact ⟨i2,o2,i5,o5,a50,n50,c50,e50,x51,x52,rfl,hi⟩
def K0 (Q:QT):KT:=andThen (fun env' h'=>(match kp.find 4000011 with | some ks=>Den pg fn.ntmps (C [1,1,1,1]) (env'.keep ks) h' (KR Q) | none=>den pg fn.ntmps kp (C [1,1,1,1]) env' h' (KR Q))) (KR Q)
def K1 (Q:QT):KT:=Zcj 0 (K0 Q)
def K2 (Q:QT):KT:=left kp 4 (K1 Q)
def K3 (Q:QT) (R4:T4):KT:=rnd ((kp.find 1000004).getD []) (E4 R4) (K2 Q)
def K4 (Q:QT) (R4:T4):KT:=andThen (fun env' h'=>(match kp.find 4000010 with | some ks=>Den pg fn.ntmps (C [1,1,1,0,1,0,0,1,1,1]) (env'.keep ks) h' (K3 Q R4) | none=>den pg fn.ntmps kp (C [1,1,1,0,1,0,0,1,1,1]) env' h' (K3 Q R4))) (K3 Q R4)
def K5 (Q:QT) (R4:T4):KT:=Zcj 1 (K4 Q R4)
def K6 (Q:QT):KT:=andThen (fun env' h'=>(match kp.find 4000019 with | some ks=>Den pg fn.ntmps (C [1,1,1,1,1]) (env'.keep ks) h' (KR Q) | none=>den pg fn.ntmps kp (C [1,1,1,1,1]) env' h' (KR Q))) (KR Q)
def K7 (Q:QT):KT:=Zcj 2 (K6 Q)
def K8 (Q:QT):KT:=left kp 12 (K7 Q)
def K9 (Q:QT) (R12:T12):KT:=rnd ((kp.find 1000012).getD []) (E12 R12) (K8 Q)
def L4 (Q:QT) (i2 o2:Nat) (a4:Pt) (n4 c4:Nat) (e4:Bool) (i5 o5:Nat) (a21:Pt) (n21 c21:Nat) (e21:Bool) (x22 x23:Int) (h:Zaa):Prop:=Zej (Den pg fn.ntmps (C [1,1,1,0,1,0,0])) ((kp.find 1000004).getD []) (K2 Q) [(2,.ptr (i2,o2)),(4,.slice a4 n4 c4 e4),(5,.ptr (i5,o5)),(21,.slice a21 n21 c21 e21),(22,.int .i64 x22),(23,.int .i64 x23)] h
def J9 (Q:QT) (R4:T4) (i5 o5 i8 o8:Nat) (x23 x22:Int) (a21:Pt) (n21 c21:Nat) (e21:Bool) (a4:Pt) (n4 c4:Nat) (e4:Bool) (i2 o2:Nat) (h:Zaa):Prop:=Den pg fn.ntmps (C [1,1,1,0,1,0,0,1,1,0,0,1,1,1]) [(5,.ptr (i5,o5)),(8,.ptr (i8,o8)),(23,.int .i64 x23),(22,.int .i64 x22),(21,.slice a21 n21 c21 e21),(4,.slice a4 n4 c4 e4),(2,.ptr (i2,o2))] h (K5 Q R4)
def Yiq (Q:QT) (a4:Pt) (n4 c4:Nat) (e4:Bool) (i2 o2 i5 o5:Nat) (h:Zaa):Prop:=At (K1 Q) (.exit 0) [(4,.slice a4 n4 c4 e4),(2,.ptr (i2,o2)),(5,.ptr (i5,o5))] h
def J10 (Q:QT) (R4:T4) (x23 x22:Int) (a21:Pt) (n21 c21:Nat) (e21:Bool) (i5 o5:Nat) (a4:Pt) (n4 c4:Nat) (e4:Bool) (i2 o2:Nat) (h:Zaa):Prop:=Den pg fn.ntmps (C [1,1,1,0,1,0,0,1,1,1]) [(23,.int .i64 x23),(22,.int .i64 x22),(21,.slice a21 n21 c21 e21),(5,.ptr (i5,o5)),(4,.slice a4 n4 c4 e4),(2,.ptr (i2,o2))] h (K3 Q R4)
def L12 (Q:QT) (i2 o2 i5 o5:Nat) (a50:Pt) (n50 c50:Nat) (e50:Bool) (x51 x52:Int) (h:Zaa):Prop:=Zej (Den pg fn.ntmps (C [1,1,1,1,0,1,0,0])) ((kp.find 1000012).getD []) (K8 Q) [(2,.ptr (i2,o2)),(5,.ptr (i5,o5)),(50,.slice a50 n50 c50 e50),(51,.int .i64 x51),(52,.int .i64 x52)] h
def Ypw (Q:QT) (i5 o5 i2 o2:Nat) (h:Zaa):Prop:=At (K7 Q) (.exit 2) [(5,.ptr (i5,o5)),(2,.ptr (i2,o2)),(3,.undef)] h
def L4t (Q:QT) (R4:T4) (i2 o2:Nat) (a4:Pt) (n4 c4:Nat) (e4:Bool) (i5 o5:Nat) (a21:Pt) (n21 c21:Nat) (e21:Bool) (x22 x23:Int) (h:Zaa):Prop:=
 bcase (decide ((x23:Int) < x22)) ((0≤(x23:Int)∧(x23:Int) < (n21:Nat))∧(Zbf a21 fun A B=>Zbd (Zag h (.ptr (A,B + (Int.toNat x23) * 1))) fun A=>Zcf (h ++ [.cells Zbj [.str [],.str []] false]) fun B=>Zbt (Zbb B (.ptr (h.length,0)) [.str A,.str []]) fun B=>bcase (decide (((((List.length A:Nat):Int)):Int) > 2)) (Zlz A 1 fun C=>bcase ((((C:Nat):Int):Int) == 60) ((0≤(0:Int)∧(0:Int)≤1∧(1:Int)≤(List.length A:Nat))∧((0≤(2:Int)∧(2:Int)≤(List.length A:Int)∧((List.length A:Int):Int)≤(List.length A:Nat))∧(Zbt (Zbb B (.ptr (h.length,0)) [.str (sub A 0 1),.str (sub A 2 ((List.length A:Int)))]) fun A=>J9 Q R4 i5 o5 h.length 0 x23 x22 a21 n21 c21 e21 a4 n4 c4 e4 i2 o2 A))) (J9 Q R4 i5 o5 h.length 0 x23 x22 a21 n21 c21 e21 a4 n4 c4 e4 i2 o2 B)) (J9 Q R4 i5 o5 h.length 0 x23 x22 a21 n21 c21 e21 a4 n4 c4 e4 i2 o2 B))) (Yiq Q a4 n4 c4 e4 i2 o2 i5 o5 h)
theorem Ybp (Q:QT) (R4:T4) (i2 o2:Nat) (a4:Pt) (n4 c4:Nat) (e4:Bool) (i5 o5:Nat) (a21:Pt) (n21 c21:Nat) (e21:Bool) (x22 x23:Int) (h:Zaa) (ht:L4t Q R4 i2 o2 a4 n4 c4 e4 i5 o5 a21 n21 c21 e21 x22 x23 h):Den pg fn.ntmps (C [1,1,1,0,1,0,0]) [(2,.ptr (i2,o2)),(4,.slice a4 n4 c4 e4),(5,.ptr (i5,o5)),(21,.slice a21 n21 c21 e21),(22,.int .i64 x22),(23,.int .i64 x23)] h (K3 Q R4):=
 Zba (kp:=kp) (cast (by kernel_rfl) ht)
theorem L4ind (Q:QT) (i2 o2:Nat) (a4:Pt) (n4 c4:Nat) (e4:Bool) (i5 o5:Nat) (a21:Pt) (n21 c21:Nat) (e21:Bool) (x22:Int) {G:Type} (J:G→Int→Zaa→Prop) (m:G→Nat)
 (hr:∀ (g:G) (x23:Int) (h:Zaa),J g x23 h→∀ (R4:T4),(∀ g' (x23:Int) (h:Zaa),m g' < m g→J g' x23 h→R4 i2 o2 a4 n4 c4 e4 i5 o5 a21 n21 c21 e21 x22 x23 h)→L4t Q R4 i2 o2 a4 n4 c4 e4 i5 o5 a21 n21 c21 e21 x22 x23 h)
 (g:G) (x23:Int) (h:Zaa) (hj:J g x23 h):L4 Q i2 o2 a4 n4 c4 e4 i5 o5 a21 n21 c21 e21 x22 x23 h:=by
 let P:=fun (K:Int→Zaa→Prop) i2' o2' a4' n4' c4' e4' i5' o5' a21' n21' c21' e21' x22' x23 h=>i2=i2'∧o2=o2'∧a4=a4'∧n4=n4'∧c4=c4'∧e4=e4'∧i5=i5'∧o5=o5'∧a21=a21'∧n21=n21'∧c21=c21'∧e21=e21'∧x22=x22'∧K x23 h
 refine Zej.inv2 (fun g=>E4 (P (J g))) (fun g=>E4 (P fun x23 h=>∃ g',m g' < m g∧J g' x23 h)) m ?_ ?_ g ⟨rfl,rfl,rfl,rfl,rfl,rfl,rfl,rfl,rfl,rfl,rfl,rfl,rfl,hj⟩
 ·intro g env h hi
  obtain ⟨i2',o2',a4',n4',c4',e4',i5',o5',a21',n21',c21',e21',x22',x23,rfl,rfl,rfl,rfl,rfl,rfl,rfl,rfl,rfl,rfl,rfl,rfl,rfl,rfl,hj⟩:=Zob hi
  exact Ybp Q _ i2 o2 a4 n4 c4 e4 i5 o5 a21 n21 c21 e21 x22 x23 h (hr g x23 h hj (P fun x23 h=>∃ g',m g' < m g∧J g' x23 h) fun g' x23 h hlt hj=>⟨rfl,rfl,rfl,rfl,rfl,rfl,rfl,rfl,rfl,rfl,rfl,rfl,rfl,g',hlt,hj⟩)
 ·intro g env h hi
  obtain ⟨i2',o2',a4',n4',c4',e4',i5',o5',a21',n21',c21',e21',x22',x23,rfl,rfl,rfl,rfl,rfl,rfl,rfl,rfl,rfl,rfl,rfl,rfl,rfl,rfl,g',hlt,hj⟩:=Zob hi
  exact ⟨g',hlt,rfl,rfl,rfl,rfl,rfl,rfl,rfl,rfl,rfl,rfl,rfl,rfl,rfl,hj⟩
theorem J9i (Q:QT) (R4:T4) (i5 o5 i8 o8:Nat) (x23 x22:Int) (a21:Pt) (n21 c21:Nat) (e21:Bool) (a4:Pt) (n4 c4:Nat) (e4:Bool) (i2 o2:Nat) (h:Zaa) (ht :
 xSl (Zag h (.ptr (i5,o5 + 0))) fun A B C D=>Zcd (Zbe h (.ptr (i8,o8)) 2) fun E=>Zai E fun E F=>Zbd E fun E=>Zai F fun F G=>Zbd F fun F=>Zbq G (Zcf (h ++ [.cells Zbj [.str E,.str F] false]) fun E=>Zci pg Zkx E (.slice A B C D) (.slice (h.length,0) 1 1 true) fun A B=>xSl A fun A C D E=>Zbt (Zbb B (.ptr (i5,o5 + 0)) [.slice A C D E]) fun A=>J10 Q R4 x23 x22 a21 n21 c21 e21 i5 o5 a4 n4 c4 e4 i2 o2 A)):J9 Q R4 i5 o5 i8 o8 x23 x22 a21 n21 c21 e21 a4 n4 c4 e4 i2 o2 h:=
 Zba (kp:=kp) (cast (by kernel_rfl) ht)
theorem A4x0i (Q:QT) (a4:Pt) (n4 c4:Nat) (e4:Bool) (i2 o2 i5 o5:Nat) (h:Zaa) (ht :
 Zhu a4 n4 c4 e4 1 (some (.int .i64 1)) none none fun A=>xSl A fun A B C D=>L12 Q i2 o2 i5 o5 A B C D (((B:Nat):Int)) 0 h):Yiq Q a4 n4 c4 e4 i2 o2 i5 o5 h:=
 At.mk (cast (by kernel_rfl) ht)
theorem J10i (Q:QT) (R4:T4) (x23 x22:Int) (a21:Pt) (n21 c21:Nat) (e21:Bool) (i5 o5:Nat) (a4:Pt) (n4 c4:Nat) (e4:Bool) (i2 o2:Nat) (h:Zaa) (ht :
 R4 i2 o2 a4 n4 c4 e4 i5 o5 a21 n21 c21 e21 x22 (IntKind.wrap .i64 (x23 + 1)) h):J10 Q R4 x23 x22 a21 n21 c21 e21 i5 o5 a4 n4 c4 e4 i2 o2 h:=
 Zba (kp:=kp) (cast (by kernel_rfl) ht)
def L12t (Q:QT) (R12:T12) (i2 o2 i5 o5:Nat) (a50:Pt) (n50 c50:Nat) (e50:Bool) (x51 x52:Int) (h:Zaa):Prop:=
 bcase (decide ((x52:Int) < x51)) ((0≤(x52:Int)∧(x52:Int) < (n50:Nat))∧(Zbf a50 fun A B=>Zbd (Zag h (.ptr (A,B + (Int.toNat x52) * 1))) fun A=>Zak pg Zkl [.str A] h fun A B=>
 Zlf A fun A=>Zai A fun A C=>Zqi A fun A=>Zai A fun A D=>Zbd A fun A=>Zai D fun D E=>Zbd D fun D=>Zai E fun E F=>xSl E fun E G H I=>Zbq F (Zai C fun C F=>Zca C fun C=>Zbq F (Zcf (B ++ [.cells Zad [.str [],.str [],.slice none 0 0 true] false]) fun F=>Zbt (Zbb F (.ptr (B.length,0)) [.str A,.str D,.slice E G H I]) fun A=>bcase (!C) (Zbt (Zbb A (.ptr (i2,o2)) [.slice none 0 0 true,.slice none 0 0 true]) fun C=>Zcd (Zbe C (.ptr (i2,o2)) 2) fun D=>Zai D fun D E=>xSl D fun D F G H=>Zai E fun E I=>xSl E fun E J K L=>Zbq I (Q (.tup [.agg [.slice D F G H,.slice E J K L],.bool false]) C)) (xSl (Zag A (.ptr (i5,o5 + 1))) fun C D E F=>Zcd (Zbe A (.ptr (B.length,0)) 3) fun B=>Zai B fun B G=>Zbd B fun B=>Zai G fun G H=>Zbd G fun G=>Zai H fun H I=>xSl H fun H J K L=>Zbq I (Zcf (A ++ [.cells Zad [.str B,.str G,.slice H J K L] false]) fun B=>Zci pg Zfq B (.slice C D E F) (.slice (A.length,0) 1 1 true) fun A B=>xSl A fun A C D E=>Zbt (Zbb B (.ptr (i5,o5 + 1)) [.slice A C D E]) fun A=>R12 i2 o2 i5 o5 a50 n50 c50 e50 x51 (IntKind.wrap .i64 (x52 + 1)) A)))))) (Ypw Q i5 o5 i2 o2 h)
theorem Yqp (Q:QT) (R12:T12) (i2 o2 i5 o5:Nat) (a50:Pt) (n50 c50:Nat) (e50:Bool) (x51 x52:Int) (h:Zaa) (ht:L12t Q R12 i2 o2 i5 o5 a50 n50 c50 e50 x51 x52 h):Den pg fn.ntmps (C [1,1,1,1,0,1,0,0]) [(2,.ptr (i2,o2)),(5,.ptr (i5,o5)),(50,.slice a50 n50 c50 e50),(51,.int .i64 x51),(52,.int .i64 x52)] h (K9 Q R12):=
 Zba (kp:=kp) (cast (by kernel_rfl) ht)
theorem L12ind (Q:QT) (i2 o2 i5 o5:Nat) (a50:Pt) (n50 c50:Nat) (e50:Bool) (x51:Int) {G:Type} (J:G→Int→Zaa→Prop) (m:G→Nat)
 (hr:∀ (g:G) (x52:Int) (h:Zaa),J g x52 h→∀ (R12:T12),(∀ g' (x52:Int) (h:Zaa),m g' < m g→J g' x52 h→R12 i2 o2 i5 o5 a50 n50 c50 e50 x51 x52 h)→L12t Q R12 i2 o2 i5 o5 a50 n50 c50 e50 x51 x52 h)
 (g:G) (x52:Int) (h:Zaa) (hj:J g x52 h):L12 Q i2 o2 i5 o5 a50 n50 c50 e50 x51 x52 h:=by
 let P:=fun (K:Int→Zaa→Prop) i2' o2' i5' o5' a50' n50' c50' e50' x51' x52 h=>i2=i2'∧o2=o2'∧i5=i5'∧o5=o5'∧a50=a50'∧n50=n50'∧c50=c50'∧e50=e50'∧x51=x51'∧K x52 h
 refine Zej.inv2 (fun g=>E12 (P (J g))) (fun g=>E12 (P fun x52 h=>∃ g',m g' < m g∧J g' x52 h)) m ?_ ?_ g ⟨rfl,rfl,rfl,rfl,rfl,rfl,rfl,rfl,rfl,hj⟩
 ·intro g env h hi
  obtain ⟨i2',o2',i5',o5',a50',n50',c50',e50',x51',x52,rfl,rfl,rfl,rfl,rfl,rfl,rfl,rfl,rfl,rfl,hj⟩:=Ycn hi
  exact Yqp Q _ i2 o2 i5 o5 a50 n50 c50 e50 x51 x52 h (hr g x52 h hj (P fun x52 h=>∃ g',m g' < m g∧J g' x52 h) fun g' x52 h hlt hj=>⟨rfl,rfl,rfl,rfl,rfl,rfl,rfl,rfl,rfl,g',hlt,hj⟩)
 ·intro g env h hi
  obtain ⟨i2',o2',i5',o5',a50',n50',c50',e50',x51',x52,rfl,rfl,rfl,rfl,rfl,rfl,rfl,rfl,rfl,rfl,g',hlt,hj⟩:=Ycn hi
  exact ⟨g',hlt,rfl,rfl,rfl,rfl,rfl,rfl,rfl,rfl,rfl,hj⟩
theorem A12x2i (Q:QT) (i5 o5 i2 o2:Nat) (h:Zaa) (ht :
 Zcd (Zbe h (.ptr (i5,o5)) 2) fun A=>Zai A fun A B=>xSl A fun A C D E=>Zai B fun B F=>xSl B fun B G H I=>Zbq F (Zak pg Zgm [.agg [.slice A C D E,.slice B G H I]] h fun A B=>
 Zca A fun A=>bcase (!A) (Zbt (Zbb B (.ptr (i2,o2)) [.slice none 0 0 true,.slice none 0 0 true]) fun A=>Zcd (Zbe A (.ptr (i2,o2)) 2) fun C=>Zai C fun C D=>xSl C fun C E F G=>Zai D fun D H=>xSl D fun D I J K=>Zbq H (Q (.tup [.agg [.slice C E F G,.slice D I J K],.bool false]) A)) (Zcd (Zbe B (.ptr (i5,o5)) 2) fun A=>Zai A fun A C=>xSl A fun A D E F=>Zai C fun C G=>xSl C fun C H I J=>Zbq G (Zbt (Zbb B (.ptr (i2,o2)) [.slice A D E F,.slice C H I J]) fun A=>Zcd (Zbe A (.ptr (i2,o2)) 2) fun B=>Zai B fun B C=>xSl B fun B D E F=>Zai C fun C G=>xSl C fun C H I J=>Zbq G (Q (.tup [.agg [.slice B D E F,.slice C H I J],.bool true]) A))))):Ypw Q i5 o5 i2 o2 h:=
 At.mk (cast (by kernel_rfl) ht)
theorem call (x0:List Nat) (h:Zaa) (Q:QT) (ht :
 Zcf (h ++ [.cells Zac [.slice none 0 0 true,.slice none 0 0 true] false]) fun A=>Zak pg Zis [.str x0,.int .u8 59] A fun A B=>
 xSl A fun A C D E=>Zcf (B ++ [.cells Zbj [] false]) fun F=>Zcf (F ++ [.cells Zad [] false]) fun G=>Zcf (G ++ [.cells Zac [.slice none 0 0 true,.slice none 0 0 true] false]) fun H=>Zbt (Zbb H (.ptr (G.length,0)) [.slice (B.length,0) 0 0 true,.slice (F.length,0) 0 0 true]) fun B=>(0≤(0:Int)∧(0:Int) < (C:Nat))∧(Zbf A fun F H=>Zbd (Zag B (.ptr (F,H + (Int.toNat 0) * 1))) fun F=>Zak pg Zis [.str F,.int .u8 32] B fun B F=>
 xSl B fun B H I J=>L4 Q h.length 0 A C D E G.length 0 B H I J (((H:Nat):Int)) 0 F)):Zak pg Zje [.str x0] h Q:=
 Zak.of_body kp (c:=cod fn) (fn:=fn) Go.Proofs.Tryz.func139 (by kernel_rfl) (by kernel_rfl) (Nat.le_of_ble_eq_true (by kernel_rfl))
  (cast (by kernel_rfl) ht)
end Zct
end Go.Sim

set_option maxRecDepth 100000
set_option maxHeartbeats 0
set_option linter.unusedVariables false
namespace Go.Sim
open Go Go.RowKit
namespace Zeo
noncomputable abbrev fn:Func:=Go.Proofs.Tryz.f160
def kp:Zch:=[(4000006,[6,5,4,2]),(3000009,[5,2,3]),(1000009,[2,5,39,40,41]),(4000016,[5,2])]
noncomputable def C (p:List Nat):Code:=(cod fn).sub p
def KR (Q:QT):KT:=Zfd pg fn.results.toList Q
abbrev T9:=Nat→Nat→Nat→Nat→Pt→Nat→Nat→Bool→Int→Int→Zaa→Prop
def E9 (R9:T9) (env:Env) (h:Zaa):Prop:=Zbu 2 env fun v env=>Zgn v fun a=>Zbf a fun i2 o2=>Zbu 5 env fun v env=>Zgn v fun a=>Zbf a fun i5 o5=>Zbu 39 env fun v env=>xSl v fun a39 n39 c39 e39=>Zbu 40 env fun v env=>Zdz .i64 v fun x40=>Zbu 41 env fun v env=>Zdz .i64 v fun x41=>Zil env (R9 i2 o2 i5 o5 a39 n39 c39 e39 x40 x41 h)
theorem Zny {R9:T9} {env:Env} {h:Zaa} (hi:E9 R9 env h):∃ i2,∃ o2,∃ i5,∃ o5,∃ a39,∃ n39,∃ c39,∃ e39,∃ x40,∃ x41,env=[(2,.ptr (i2,o2)),(5,.ptr (i5,o5)),(39,.slice a39 n39 c39 e39),(40,.int .i64 x40),(41,.int .i64 x41)]∧R9 i2 o2 i5 o5 a39 n39 c39 e39 x40 x41 h:=by
 unfold E9 at hi
 have hi0:=hi
 clear hi
 obtain ⟨_,_,rfl,hi1⟩:=Zaf hi0
 obtain ⟨a,rfl,hi2⟩:=Zbn hi1
 obtain ⟨i2,o2,rfl,hi3⟩:=Zbk hi2
 obtain ⟨_,_,rfl,hi4⟩:=Zaf hi3
 obtain ⟨a,rfl,hi5⟩:=Zbn hi4
 obtain ⟨i5,o5,rfl,hi6⟩:=Zbk hi5
 obtain ⟨_,_,rfl,hi7⟩:=Zaf hi6
 obtain ⟨a39,n39,c39,e39,rfl,hi8⟩:=Zbp hi7
 obtain ⟨_,_,rfl,hi9⟩:=Zaf hi8
 obtain ⟨x40,rfl,hi10⟩:=Zav hi9
 obtain ⟨_,_,rfl,hi11⟩:=Zaf hi10
 obtain ⟨x41,rfl,hi12⟩:=Zav hi11
 obtain ⟨rfl,hi13⟩:=Zbl hi12
 have hi:=hi13
 exact ⟨i2,o2,i5,o5,a39,n39,c39,e39,x40,x41,rfl,hi⟩
def K0 (Q:QT):KT:=andThen (fun env' h'=>(match kp.find 4000016 with | some ks=>Den pg fn.ntmps (C [1,1,1,1,1,1,1]) (env'.keep ks) h' (KR Q) | none=>den pg fn.ntmps kp (C [1,1,1,1,1,1,1]) env' h' (KR Q))) (KR Q)
def K1 (Q:QT):KT:=Zcj 0 (K0 Q)
def K2 (Q:QT):KT:=left kp 9 (K1 Q)
def K3 (Q:QT) (R9:T9):KT:=rnd ((kp.find 1000009).getD []) (E9 R9) (K2 Q)
def J6 (Q:QT) (i6 o6 i5 o5:Nat) (a4:Pt) (n4 c4:Nat) (e4:Bool) (i2 o2:Nat) (h:Zaa):Prop:=Den pg fn.ntmps (C [1,1,1,1,1]) [(6,.ptr (i6,o6)),(5,.ptr (i5,o5)),(4,.slice a4 n4 c4 e4),(2,.ptr (i2,o2))] h (KR Q)
def L9 (Q:QT) (i2 o2 i5 o5:Nat) (a39:Pt) (n39 c39:Nat) (e39:Bool) (x40 x41:Int) (h:Zaa):Prop:=Zej (Den pg fn.ntmps (C [1,1,1,1,1,1,0,1,0,1,0,0])) ((kp.find 1000009).getD []) (K2 Q) [(2,.ptr (i2,o2)),(5,.ptr (i5,o5)),(39,.slice a39 n39 c39 e39),(40,.int .i64 x40),(41,.int .i64 x41)] h
def J16 (Q:QT) (i5 o5 i2 o2:Nat) (h:Zaa):Prop:=Den pg fn.ntmps (C [1,1,1,1,1,1,1]) [(5,.ptr (i5,o5)),(2,.ptr (i2,o2))] h (KR Q)
def Yzc (Q:QT) (i5 o5 i2 o2:Nat) (h:Zaa):Prop:=At (K1 Q) (.exit 0) [(5,.ptr (i5,o5)),(2,.ptr (i2,o2)),(3,.undef)] h
theorem J6i (Q:QT) (i6 o6 i5 o5:Nat) (a4:Pt) (n4 c4:Nat) (e4:Bool) (i2 o2:Nat) (h:Zaa) (ht :
 Zcd (Zbe h (.ptr (i6,o6)) 2) fun A=>Zai A fun A B=>Zbd A fun A=>Zai B fun B C=>Zbd B fun B=>Zbq C (Zbt (Zbb h (.ptr (i5,o5 + 0)) [.str A,.str B]) fun A=>bcase ((((n4:Nat):Int):Int) == 2) ((0≤(1:Int)∧(1:Int) < (n4:Nat))∧(Zbf a4 fun B C=>Zbd (Zag A (.ptr (B,C + (Int.toNat 1) * 1))) fun B=>Zak pg Zis [.str B,.int .u8 38] A fun B C=>
 xSl B fun B D E F=>L9 Q i2 o2 i5 o5 B D E F (((D:Nat):Int)) 0 C)) (J16 Q i5 o5 i2 o2 A))):J6 Q i6 o6 i5 o5 a4 n4 c4 e4 i2 o2 h:=
 Zba (kp:=kp) (cast (by kernel_rfl) ht)
def L9t (Q:QT) (R9:T9) (i2 o2 i5 o5:Nat) (a39:Pt) (n39 c39:Nat) (e39:Bool) (x40 x41:Int) (h:Zaa):Prop:=
 bcase (decide ((x41:Int) < x40)) ((0≤(x41:Int)∧(x41:Int) < (n39:Nat))∧(Zbf a39 fun A B=>Zbd (Zag h (.ptr (A,B + (Int.toNat x41) * 1))) fun A=>Zak pg Zlm [.str A] h fun A B=>
 Zlf A fun A=>Zai A fun A C=>Zqi A fun A=>Zai A fun A D=>Zbd A fun A=>Zai D fun D E=>Zbd D fun D=>Zbq E (Zai C fun C E=>Zca C fun C=>Zbq E (Zcf (B ++ [.cells Zab [.str [],.str []] false]) fun E=>Zbt (Zbb E (.ptr (B.length,0)) [.str A,.str D]) fun A=>bcase (!C) (Zbt (Zbb A (.ptr (i2,o2)) [.str [],.str [],.slice none 0 0 true]) fun C=>Zcd (Zbe C (.ptr (i2,o2)) 3) fun D=>Zai D fun D E=>Zbd D fun D=>Zai E fun E F=>Zbd E fun E=>Zai F fun F G=>xSl F fun F H I J=>Zbq G (Q (.tup [.agg [.str D,.str E,.slice F H I J],.bool false]) C)) (xSl (Zag A (.ptr (i5,o5 + 2))) fun C D E F=>Zcd (Zbe A (.ptr (B.length,0)) 2) fun B=>Zai B fun B G=>Zbd B fun B=>Zai G fun G H=>Zbd G fun G=>Zbq H (Zcf (A ++ [.cells Zab [.str B,.str G] false]) fun B=>Zci pg Zbo B (.slice C D E F) (.slice (A.length,0) 1 1 true) fun A B=>xSl A fun A C D E=>Zbt (Zbb B (.ptr (i5,o5 + 2)) [.slice A C D E]) fun A=>R9 i2 o2 i5 o5 a39 n39 c39 e39 x40 (IntKind.wrap .i64 (x41 + 1)) A)))))) (Yzc Q i5 o5 i2 o2 h)
theorem Ybi (Q:QT) (R9:T9) (i2 o2 i5 o5:Nat) (a39:Pt) (n39 c39:Nat) (e39:Bool) (x40 x41:Int) (h:Zaa) (ht:L9t Q R9 i2 o2 i5 o5 a39 n39 c39 e39 x40 x41 h):Den pg fn.ntmps (C [1,1,1,1,1,1,0,1,0,1,0,0]) [(2,.ptr (i2,o2)),(5,.ptr (i5,o5)),(39,.slice a39 n39 c39 e39),(40,.int .i64 x40),(41,.int .i64 x41)] h (K3 Q R9):=
 Zba (kp:=kp) (cast (by kernel_rfl) ht)
theorem L9ind (Q:QT) (i2 o2 i5 o5:Nat) (a39:Pt) (n39 c39:Nat) (e39:Bool) (x40:Int) {G:Type} (J:G→Int→Zaa→Prop) (m:G→Nat)
 (hr:∀ (g:G) (x41:Int) (h:Zaa),J g x41 h→∀ (R9:T9),(∀ g' (x41:Int) (h:Zaa),m g' < m g→J g' x41 h→R9 i2 o2 i5 o5 a39 n39 c39 e39 x40 x41 h)→L9t Q R9 i2 o2 i5 o5 a39 n39 c39 e39 x40 x41 h)
 (g:G) (x41:Int) (h:Zaa) (hj:J g x41 h):L9 Q i2 o2 i5 o5 a39 n39 c39 e39 x40 x41 h:=by
 let P:=fun (K:Int→Zaa→Prop) i2' o2' i5' o5' a39' n39' c39' e39' x40' x41 h=>i2=i2'∧o2=o2'∧i5=i5'∧o5=o5'∧a39=a39'∧n39=n39'∧c39=c39'∧e39=e39'∧x40=x40'∧K x41 h
 refine Zej.inv2 (fun g=>E9 (P (J g))) (fun g=>E9 (P fun x41 h=>∃ g',m g' < m g∧J g' x41 h)) m ?_ ?_ g ⟨rfl,rfl,rfl,rfl,rfl,rfl,rfl,rfl,rfl,hj⟩
 ·intro g env h hi
  obtain ⟨i2',o2',i5',o5',a39',n39',c39',e39',x40',x41,rfl,rfl,rfl,rfl,rfl,rfl,rfl,rfl,rfl,rfl,hj⟩:=Zny hi
  exact Ybi Q _ i2 o2 i5 o5 a39 n39 c39 e39 x40 x41 h (hr g x41 h hj (P fun x41 h=>∃ g',m g' < m g∧J g' x41 h) fun g' x41 h hlt hj=>⟨rfl,rfl,rfl,rfl,rfl,rfl,rfl,rfl,rfl,g',hlt,hj⟩)
 ·intro g env h hi
  obtain ⟨i2',o2',i5',o5',a39',n39',c39',e39',x40',x41,rfl,rfl,rfl,rfl,rfl,rfl,rfl,rfl,rfl,rfl,g',hlt,hj⟩:=Zny hi
  exact ⟨g',hlt,rfl,rfl,rfl,rfl,rfl,rfl,rfl,rfl,rfl,hj⟩
theorem J16i (Q:QT) (i5 o5 i2 o2:Nat) (h:Zaa) (ht :
 Zcd (Zbe h (.ptr (i5,o5)) 3) fun A=>Zai A fun A B=>Zbd A fun A=>Zai B fun B C=>Zbd B fun B=>Zai C fun C D=>xSl C fun C E F G=>Zbq D (Zbt (Zbb h (.ptr (i2,o2)) [.str A,.str B,.slice C E F G]) fun A=>Zcd (Zbe A (.ptr (i2,o2)) 3) fun B=>Zai B fun B C=>Zbd B fun B=>Zai C fun C D=>Zbd C fun C=>Zai D fun D E=>xSl D fun D F G H=>Zbq E (Q (.tup [.agg [.str B,.str C,.slice D F G H],.bool true]) A))):J16 Q i5 o5 i2 o2 h:=
 Zba (kp:=kp) (cast (by kernel_rfl) ht)
theorem A9x0i (Q:QT) (i5 o5 i2 o2:Nat) (h:Zaa) (ht :
 J16 Q i5 o5 i2 o2 h):Yzc Q i5 o5 i2 o2 h:=
 At.mk (cast (by kernel_rfl) ht)
theorem call (x0:List Nat) (h:Zaa) (Q:QT) (ht :
 Zcf (h ++ [.cells Zad [.str [],.str [],.slice none 0 0 true] false]) fun A=>Zak pg Zis [.str x0,.int .u8 58] A fun A B=>
 xSl A fun A C D E=>Zcf (B ++ [.cells Zab [] false]) fun F=>Zcf (F ++ [.cells Zad [.str [],.str [],.slice none 0 0 true] false]) fun G=>Zbt (Zbb G (.ptr (F.length,0)) [.str [],.str [],.slice (B.length,0) 0 0 true]) fun B=>(0≤(0:Int)∧(0:Int) < (C:Nat))∧(Zbf A fun G H=>Zbd (Zag B (.ptr (G,H + (Int.toNat 0) * 1))) fun G=>Zak pg Zlm [.str G] B fun B G=>
 Zlf B fun B=>Zai B fun B H=>Zqi B fun B=>Zai B fun B I=>Zbd B fun B=>Zai I fun I J=>Zbd I fun I=>Zbq J (Zai H fun H J=>Zca H fun H=>Zbq J (Zcf (G ++ [.cells Zab [.str [],.str []] false]) fun J=>Zbt (Zbb J (.ptr (G.length,0)) [.str B,.str I]) fun B=>bcase (!H) (Zbt (Zbb B (.ptr (h.length,0)) [.str [],.str [],.slice none 0 0 true]) fun H=>Zcd (Zbe H (.ptr (h.length,0)) 3) fun I=>Zai I fun I J=>Zbd I fun I=>Zai J fun J K=>Zbd J fun J=>Zai K fun K L=>xSl K fun K M N O=>Zbq L (Q (.tup [.agg [.str I,.str J,.slice K M N O],.bool false]) H)) (bcase (decide (((((C:Nat):Int)):Int) > 2)) (Zbt (Zbb B (.ptr (h.length,0)) [.str [],.str [],.slice none 0 0 true]) fun H=>Zcd (Zbe H (.ptr (h.length,0)) 3) fun I=>Zai I fun I J=>Zbd I fun I=>Zai J fun J K=>Zbd J fun J=>Zai K fun K L=>xSl K fun K M N O=>Zbq L (Q (.tup [.agg [.str I,.str J,.slice K M N O],.bool false]) H)) (J6 Q G.length 0 F.length 0 A C D E h.length 0 B)))))):Zak pg Zkl [.str x0] h Q:=
 Zak.of_body kp (c:=cod fn) (fn:=fn) Go.Proofs.Tryz.func160 (by kernel_rfl) (by kernel_rfl) (Nat.le_of_ble_eq_true (by kernel_rfl))
  (cast (by kernel_rfl) ht)
end Zeo
end Go.Sim

set_option maxRecDepth 100000
set_option maxHeartbeats 0
set_option linter.unusedVariables false
namespace Go.Sim
open Go Go.RowKit
namespace Zow
noncomputable abbrev fn:Func:=Go.Proofs.Tryz.f70
def kp:Zch:=[(4000005,[0,1,2])]
noncomputable def C (p:List Nat):Code:=(cod fn).sub p
def KR (Q:QT):KT:=Zfd pg fn.results.toList Q
def J5 (Q:QT) (a0:Pt) (x1:Int) (x2:Bool) (h:Zaa):Prop:=Den pg fn.ntmps (C [1,1]) [(0,.ptr a0),(1,.int .i64 x1),(2,.bool x2)] h (KR Q)
theorem J5i (Q:QT) (a0:Pt) (x1:Int) (x2:Bool) (h:Zaa) (ht :
 Zak pg Zbh [.ptr a0,.int .i64 4] h fun A B=>
 Zec .i64 A fun A=>bcase ((A:Int) == 0) (Zak pg Zfx [.ptr a0,.int .i64 (IntKind.wrap .i64 (x1 - 1)),.bool x2] B fun C D=>
 Zbd C fun C=>List.length ([112,40]) + List.length C≤9223372036854775807∧(List.length (([112,40]) ++ C) + List.length [44]≤9223372036854775807∧(Zak pg Zfx [.ptr a0,.int .i64 (IntKind.wrap .i64 (x1 - 1)),.bool x2] D fun D E=>
 Zbd D fun D=>List.length ((([112,40]) ++ C) ++ [44]) + List.length D≤9223372036854775807∧(List.length (((([112,40]) ++ C) ++ [44]) ++ D) + List.length [41]≤9223372036854775807∧(Q (.str ((((([112,40]) ++ C) ++ [44]) ++ D) ++ [41])) E))))) (bcase ((A:Int) == 1) (Zak pg Zfx [.ptr a0,.int .i64 (IntKind.wrap .i64 (x1 - 1)),.bool x2] B fun A C=>
 Zbd A fun A=>List.length ([109,40]) + List.length A≤9223372036854775807∧(List.length (([109,40]) ++ A) + List.length [41]≤9223372036854775807∧(Q (.str ((([109,40]) ++ A) ++ [41])) C))) (Zak pg Zfx [.ptr a0,.int .i64 (IntKind.wrap .i64 (x1 - 1)),.bool x2] B fun A B=>
 Zbd A fun A=>List.length ([108,40]) + List.length A≤9223372036854775807∧(List.length (([108,40]) ++ A) + List.length [41]≤9223372036854775807∧(Q (.str ((([108,40]) ++ A) ++ [41])) B))))):J5 Q a0 x1 x2 h:=
 Zba (kp:=kp) (cast (by kernel_rfl) ht)
theorem call (a0:Pt) (x1:Int) (x2:Bool) (h:Zaa) (Q:QT) (ht :
 bcase ((x1:Int) == 0) (bcase x2 (Zcf (h ++ [.cells Zbi [.str [105],.str [98],.str [105],.str [117]] false]) fun A=>Zak pg Zck [.ptr a0,.slice (h.length,0) 4 4 true] A fun A B=>
 Zbd A fun A=>Q (.str A) B) (Zcf (h ++ [.cells Zbi [.str [120],.str [105],.str [121],.str [98],.str [120],.str [122],.str [117]] false]) fun A=>Zak pg Zck [.ptr a0,.slice (h.length,0) 7 7 true] A fun A B=>
 Zbd A fun A=>Q (.str A) B)) (Zak pg Zbh [.ptr a0,.int .i64 3] h fun A B=>
 Zec .i64 A fun A=>bcase ((A:Int) == 0) (bcase x2 (Zcf (B ++ [.cells Zbi [.str [105],.str [98],.str [105],.str [117]] false]) fun A=>Zak pg Zck [.ptr a0,.slice (B.length,0) 4 4 true] A fun A C=>
 Zbd A fun A=>Q (.str A) C) (Zcf (B ++ [.cells Zbi [.str [120],.str [105],.str [121],.str [98],.str [120],.str [122],.str [117]] false]) fun A=>Zak pg Zck [.ptr a0,.slice (B.length,0) 7 7 true] A fun A C=>
 Zbd A fun A=>Q (.str A) C)) (J5 Q a0 x1 x2 B))):Zak pg Zfx [.ptr a0,.int .i64 x1,.bool x2] h Q:=
 Zak.of_body kp (c:=cod fn) (fn:=fn) Go.Proofs.Tryz.func70 (by kernel_rfl) (by kernel_rfl) (Nat.le_of_ble_eq_true (by kernel_rfl))
  (cast (by kernel_rfl) ht)
end Zow
namespace Zyv
noncomputable abbrev fn:Func:=Go.Proofs.Tryz.f73
def kp:Zch:=[(2000005,[2])]
noncomputable def C (p:List Nat):Code:=(cod fn).sub p
def KR (Q:QT):KT:=Zfd pg fn.results.toList Q
theorem call (a0:Pt) (h:Zaa) (Q:QT) (ht :
 Zak pg Zbh [.ptr a0,.int .i64 4] h fun A B=>
 Zec .i64 A fun A=>Zak pg Zbh [.ptr a0,.int .i64 2] B fun B C=>
 Zec .i64 B fun B=>Zak pg Zfx [.ptr a0,.int .i64 A,.bool ((B:Int) == 0)] C fun A B=>
 Zbd A fun A=>Zak pg Zbh [.ptr a0,.int .i64 16] B fun B C=>
 Zec .i64 B fun B=>bcase (decide ((B:Int) > 0)) (Q (.str A) C) (Zak pg Zbh [.ptr a0,.int .i64 (((List.length A:Nat):Int))] C fun B C=>
 Zec .i64 B fun B=>(0≤(0:Int)∧(0:Int)≤B∧(B:Int)≤(List.length A:Nat))∧(Zcf (C ++ [.cells Zbi [.str [],.str [40],.str [41],.str [44],.str [105],.str [113],.str [88]] false]) fun D=>Zak pg Zck [.ptr a0,.slice (C.length,0) 7 7 true] D fun C D=>
 Zbd C fun C=>List.length (sub A 0 B) + List.length C≤9223372036854775807∧(Zak pg Zbh [.ptr a0,.int .i64 2] D fun D E=>
 Zec .i64 D fun D=>(0≤(IntKind.wrap .i64 (B + D):Int)∧(IntKind.wrap .i64 (B + D):Int)≤(List.length A:Int)∧((List.length A:Int):Int)≤(List.length A:Nat))∧(List.length ((sub A 0 B) ++ C) + List.length (sub A (IntKind.wrap .i64 (B + D)) ((List.length A:Int)))≤9223372036854775807∧(Q (.str (((sub A 0 B) ++ C) ++ (sub A (IntKind.wrap .i64 (B + D)) ((List.length A:Int))))) E)))))):Zak pg Zuh [.ptr a0] h Q:=
 Zak.of_body kp (c:=cod fn) (fn:=fn) Go.Proofs.Tryz.func73 (by kernel_rfl) (by kernel_rfl) (Nat.le_of_ble_eq_true (by kernel_rfl))
  (cast (by kernel_rfl) ht)
end Zyv
namespace Zmi
noncomputable abbrev fn:Func:=Go.Proofs.Tryz.f72
def kp:Zch:=[(3000006,[7,5]),(1000006,[0,5,7,19]),(2000008,[19,7,0,5])]
noncomputable def C (p:List Nat):Code:=(cod fn).sub p
def KR (Q:QT):KT:=Zfd pg fn.results.toList Q
abbrev T6:=Pt→Nat→Nat→Nat→Nat→Int→Zaa→Prop
def E6 (R6:T6) (env:Env) (h:Zaa):Prop:=Zbu 0 env fun v env=>Zgn v fun a0=>Zbu 5 env fun v env=>Zgn v fun a=>Zbf a fun i5 o5=>Zbu 7 env fun v env=>Zgn v fun a=>Zbf a fun i7 o7=>Zbu 19 env fun v env=>Zdz .i64 v fun x19=>Zil env (R6 a0 i5 o5 i7 o7 x19 h)
theorem Zlv {R6:T6} {env:Env} {h:Zaa} (hi:E6 R6 env h):∃ a0,∃ i5,∃ o5,∃ i7,∃ o7,∃ x19,env=[(0,.ptr a0),(5,.ptr (i5,o5)),(7,.ptr (i7,o7)),(19,.int .i64 x19)]∧R6 a0 i5 o5 i7 o7 x19 h:=by
 unfold E6 at hi
 have hi0:=hi
 clear hi
 obtain ⟨_,_,rfl,hi1⟩:=Zaf hi0
 obtain ⟨a0,rfl,hi2⟩:=Zbn hi1
 obtain ⟨_,_,rfl,hi3⟩:=Zaf hi2
 obtain ⟨a,rfl,hi4⟩:=Zbn hi3
 obtain ⟨i5,o5,rfl,hi5⟩:=Zbk hi4
 obtain ⟨_,_,rfl,hi6⟩:=Zaf hi5
 obtain ⟨a,rfl,hi7⟩:=Zbn hi6
 obtain ⟨i7,o7,rfl,hi8⟩:=Zbk hi7
 obtain ⟨_,_,rfl,hi9⟩:=Zaf hi8
 obtain ⟨x19,rfl,hi10⟩:=Zav hi9
 obtain ⟨rfl,hi11⟩:=Zbl hi10
 have hi:=hi11
 exact ⟨a0,i5,o5,i7,o7,x19,rfl,hi⟩
def K0 (Q:QT):KT:=andThen (fun env' h'=>(match kp.find 4000010 with | some ks=>Den pg fn.ntmps (C [1,1,1,1,1]) (env'.keep ks) h' (KR Q) | none=>den pg fn.ntmps kp (C [1,1,1,1,1]) env' h' (KR Q))) (KR Q)
def K1 (Q:QT):KT:=Zcj 0 (K0 Q)
def K2 (Q:QT):KT:=left kp 6 (K1 Q)
def K3 (Q:QT) (R6:T6):KT:=rnd ((kp.find 1000006).getD []) (E6 R6) (K2 Q)
def L6 (Q:QT) (a0:Pt) (i5 o5 i7 o7:Nat) (x19:Int) (h:Zaa):Prop:=Zej (Den pg fn.ntmps (C [1,1,1,1,0,1,0,0])) ((kp.find 1000006).getD []) (K2 Q) [(0,.ptr a0),(5,.ptr (i5,o5)),(7,.ptr (i7,o7)),(19,.int .i64 x19)] h
def Ydq (Q:QT) (i7 o7 i5 o5:Nat) (h:Zaa):Prop:=At (K1 Q) (.exit 0) [(7,.ptr (i7,o7)),(5,.ptr (i5,o5))] h
def L6t (Q:QT) (R6:T6) (a0:Pt) (i5 o5 i7 o7:Nat) (x19:Int) (h:Zaa):Prop:=
 bcase (decide ((x19:Int) < 12)) (Zak pg Zbh [.ptr a0,.int .i64 2] h fun A B=>
 Zec .i64 A fun A=>Zak pg Zbh [.ptr a0,.int .i64 2] B fun B C=>
 Zec .i64 B fun B=>Zak pg Zfx [.ptr a0,.int .i64 A,.bool ((B:Int) == 0)] C fun A B=>
 Zbd A fun A=>Zak pg Zhd [.str A] B fun A B=>
 Zlf A fun A=>Zai A fun A C=>Zqi A fun A=>Zai A fun A D=>Zec .u8 A fun A=>Zai D fun D E=>xSl D fun D F G H=>Zbq E (Zai C fun C E=>Zca C fun C=>Zbq E ((0≤(x19:Int)∧(x19:Int) < (12:Nat))∧(Zbt (Zbb B (.ptr (i7,o7 + (Int.toNat x19) * 2)) [.int .u8 A,.slice D F G H]) fun A=>R6 a0 i5 o5 i7 o7 (IntKind.wrap .i64 (x19 + 1)) A)))) (Ydq Q i7 o7 i5 o5 h)
theorem Zya (Q:QT) (R6:T6) (a0:Pt) (i5 o5 i7 o7:Nat) (x19:Int) (h:Zaa) (ht:L6t Q R6 a0 i5 o5 i7 o7 x19 h):Den pg fn.ntmps (C [1,1,1,1,0,1,0,0]) [(0,.ptr a0),(5,.ptr (i5,o5)),(7,.ptr (i7,o7)),(19,.int .i64 x19)] h (K3 Q R6):=
 Zba (kp:=kp) (cast (by kernel_rfl) ht)
theorem L6ind (Q:QT) (a0:Pt) (i5 o5 i7 o7:Nat) {G:Type} (J:G→Int→Zaa→Prop) (m:G→Nat)
 (hr:∀ (g:G) (x19:Int) (h:Zaa),J g x19 h→∀ (R6:T6),(∀ g' (x19:Int) (h:Zaa),m g' < m g→J g' x19 h→R6 a0 i5 o5 i7 o7 x19 h)→L6t Q R6 a0 i5 o5 i7 o7 x19 h)
 (g:G) (x19:Int) (h:Zaa) (hj:J g x19 h):L6 Q a0 i5 o5 i7 o7 x19 h:=by
 let P:=fun (K:Int→Zaa→Prop) a0' i5' o5' i7' o7' x19 h=>a0=a0'∧i5=i5'∧o5=o5'∧i7=i7'∧o7=o7'∧K x19 h
 refine Zej.inv2 (fun g=>E6 (P (J g))) (fun g=>E6 (P fun x19 h=>∃ g',m g' < m g∧J g' x19 h)) m ?_ ?_ g ⟨rfl,rfl,rfl,rfl,rfl,hj⟩
 ·intro g env h hi
  obtain ⟨a0',i5',o5',i7',o7',x19,rfl,rfl,rfl,rfl,rfl,rfl,hj⟩:=Zlv hi
  exact Zya Q _ a0 i5 o5 i7 o7 x19 h (hr g x19 h hj (P fun x19 h=>∃ g',m g' < m g∧J g' x19 h) fun g' x19 h hlt hj=>⟨rfl,rfl,rfl,rfl,rfl,g',hlt,hj⟩)
 ·intro g env h hi
  obtain ⟨a0',i5',o5',i7',o7',x19,rfl,rfl,rfl,rfl,rfl,rfl,g',hlt,hj⟩:=Zlv hi
  exact ⟨g',hlt,rfl,rfl,rfl,rfl,rfl,hj⟩
theorem A6x0i (Q:QT) (i7 o7 i5 o5:Nat) (h:Zaa) (ht :
 Zcd (Zbe h (.ptr (i5,o5)) 2) fun A=>Zai A fun A B=>Zec .u8 A fun A=>Zai B fun B C=>xSl B fun B D E F=>Zbq C (Zak pg Znv [.ptr (i7,o7),.agg [.int .u8 A,.slice B D E F]] h fun A B=>
 Zqi A fun A=>Zai A fun A C=>Zec .u8 A fun A=>Zai C fun C D=>xSl C fun C E F G=>Zbq D (Zcf (B ++ [.cells Zap [.int .u8 0,.slice none 0 0 true] false]) fun D=>Zbt (Zbb D (.ptr (B.length,0)) [.int .u8 A,.slice C E F G]) fun A=>Zcd (Zbe A (.ptr (B.length,0)) 2) fun C=>Zai C fun C D=>Zec .u8 C fun C=>Zai D fun D E=>xSl D fun D F G H=>Zbq E (Zak pg Zhy [.agg [.int .u8 C,.slice D F G H]] A fun A C=>
 Zec .i64 A fun A=>bcase (decide ((A:Int) > 60)) (Q (.str [105]) C) (Zcd (Zbe C (.ptr (B.length,0)) 2) fun A=>Zai A fun A B=>Zec .u8 A fun A=>Zai B fun B D=>xSl B fun B E F G=>Zbq D (Zak pg Zhs [.agg [.int .u8 A,.slice B E F G]] C fun A B=>
 Zbd A fun A=>Q (.str A) B)))))):Ydq Q i7 o7 i5 o5 h:=
 At.mk (cast (by kernel_rfl) ht)
theorem call (a0:Pt) (x1:List Nat) (h:Zaa) (Q:QT) (ht :
 Zak pg Zhd [.str x1] h fun A B=>
 Zlf A fun A=>Zai A fun A C=>Zqi A fun A=>Zai A fun A D=>Zec .u8 A fun A=>Zai D fun D E=>xSl D fun D F G H=>Zbq E (Zai C fun C E=>Zca C fun C=>Zbq E (Zcf (B ++ [.cells Zap [.int .u8 0,.slice none 0 0 true] false]) fun E=>Zbt (Zbb E (.ptr (B.length,0)) [.int .u8 A,.slice D F G H]) fun A=>bcase (!C) (Q (.str [105]) A) (Zcf (A ++ [.cells Zdp [.int .u8 0,.slice none 0 0 true,.int .u8 0,.slice none 0 0 true,.int .u8 0,.slice none 0 0 true,.int .u8 0,.slice none 0 0 true,.int .u8 0,.slice none 0 0 true,.int .u8 0,.slice none 0 0 true,.int .u8 0,.slice none 0 0 true,.int .u8 0,.slice none 0 0 true,.int .u8 0,.slice none 0 0 true,.int .u8 0,.slice none 0 0 true,.int .u8 0,.slice none 0 0 true,.int .u8 0,.slice none 0 0 true] false]) fun C=>L6 Q a0 B.length 0 A.length 0 0 C)))):Zak pg Zmg [.ptr a0,.str x1] h Q:=
 Zak.of_body kp (c:=cod fn) (fn:=fn) Go.Proofs.Tryz.func72 (by kernel_rfl) (by kernel_rfl) (Nat.le_of_ble_eq_true (by kernel_rfl))
  (cast (by kernel_rfl) ht)
end Zmi
end Go.Sim

set_option maxRecDepth 100000
set_option maxHeartbeats 0
set_option linter.unusedVariables false
namespace Go.Sim
open Go Go.RowKit
namespace Znq
noncomputable abbrev fn:Func:=Go.Proofs.Tryz.f41
def kp:Zch:=[(4000003,[0])]
noncomputable def C (p:List Nat):Code:=(cod fn).sub p
def KR (Q:QT):KT:=Zfd pg fn.results.toList Q
def J3 (Q:QT) (a0:Pt) (n0 c0:Nat) (e0:Bool) (h:Zaa):Prop:=Den pg fn.ntmps (C [1,1]) [(0,.slice a0 n0 c0 e0)] h (KR Q)
theorem J3i (Q:QT) (a0:Pt) (n0 c0:Nat) (e0:Bool) (h:Zaa) (ht :
 Zcf (h ++ [.cells Zqs [.slice a0 n0 c0 e0,.int .i64 0] false]) fun A=>Q (.ptr (h.length,0)) A):J3 Q a0 n0 c0 e0 h:=
 Zba (kp:=kp) (cast (by kernel_rfl) ht)
theorem call (a0:Pt) (n0 c0:Nat) (e0:Bool) (h:Zaa) (Q:QT) (ht :
 bcase (decide (((((n0:Nat):Int)):Int) > 2000)) (Zhu a0 n0 c0 e0 1 none (some (.int .i64 2000)) none fun A=>xSl A fun A B C D=>J3 Q A B C D h) (J3 Q a0 n0 c0 e0 h)):Zak pg Zkt [.slice a0 n0 c0 e0] h Q:=
 Zak.of_body kp (c:=cod fn) (fn:=fn) Go.Proofs.Tryz.func41 (by kernel_rfl) (by kernel_rfl) (Nat.le_of_ble_eq_true (by kernel_rfl))
  (cast (by kernel_rfl) ht)
end Znq
namespace Znj
noncomputable abbrev fn:Func:=Go.Proofs.Tryz.f71
def kp:Zch:=[(4000004,[0,1]),(2000007,[6,1])]
noncomputable def C (p:List Nat):Code:=(cod fn).sub p
def KR (Q:QT):KT:=Zfd pg fn.results.toList Q
def J4 (Q:QT) (a0:Pt) (x1:Int) (h:Zaa):Prop:=Den pg fn.ntmps (C [1,1,1]) [(0,.ptr a0),(1,.int .i64 x1)] h (KR Q)
theorem J4i (Q:QT) (a0:Pt) (x1:Int) (h:Zaa) (ht :
 Zbf a0 fun A B=>Zec .i64 (Zag h (.ptr (A,B + 1))) fun A=>Zbf a0 fun B C=>xSl (Zag h (.ptr (B,C + 0))) fun B B C C=>bcase (decide (((IntKind.wrap .i64 (A - 1)):Int) < (((B:Nat):Int)))) (Zbf a0 fun B C=>xSl (Zag h (.ptr (B,C + 0))) fun B C D D=>(0≤(IntKind.wrap .i64 (A - 1):Int)∧(IntKind.wrap .i64 (A - 1):Int) < (C:Nat))∧(Zbf B fun B C=>Zec .u8 (Zag h (.ptr (B,C + (Int.toNat (IntKind.wrap .i64 (A - 1))) * 1))) fun B=>(x1:Int)≠0∧(Q (.int .i64 (Int.tmod (IntKind.wrap .i64 (B)) x1)) h))) (Zbf a0 fun B C=>Zbf a0 fun D E=>Zbf a0 fun F G=>Zbf a0 fun H I=>Zbf a0 fun J K=>xSl (Zag h (.ptr (B,C + 0))) fun L M N N=>xSl (Zag h (.ptr (D,E + 0))) fun N N O O=>((((N:Nat):Int)):Int)≠0∧((0≤(Int.tmod (IntKind.wrap .i64 (A - 1)) (((N:Nat):Int)):Int)∧(Int.tmod (IntKind.wrap .i64 (A - 1)) (((N:Nat):Int)):Int) < (M:Nat))∧(Zbf L fun L M=>Zec .u8 (Zag h (.ptr (L,M + (Int.toNat (Int.tmod (IntKind.wrap .i64 (A - 1)) (((N:Nat):Int)))) * 1))) fun O=>xSl (Zag h (.ptr (F,G + 0))) fun P R S S=>xSl (Zag h (.ptr (H,I + 0))) fun S S T T=>((((S:Nat):Int)):Int)≠0∧((0≤(Int.tmod (IntKind.wrap .i64 ((IntKind.wrap .i64 ((IntKind.wrap .i64 (A - 1)) * 7)) + 3)) (((S:Nat):Int)):Int)∧(Int.tmod (IntKind.wrap .i64 ((IntKind.wrap .i64 ((IntKind.wrap .i64 (A - 1)) * 7)) + 3)) (((S:Nat):Int)):Int) < (R:Nat))∧(Zbf P fun P R=>Zec .u8 (Zag h (.ptr (P,R + (Int.toNat (Int.tmod (IntKind.wrap .i64 ((IntKind.wrap .i64 ((IntKind.wrap .i64 (A - 1)) * 7)) + 3)) (((S:Nat):Int)))) * 1))) fun T=>xSl (Zag h (.ptr (J,K + 0))) fun J J K K=>(Zag h (.ptr (P,R + (Int.toNat (Int.tmod (IntKind.wrap .i64 ((IntKind.wrap .i64 ((IntKind.wrap .i64 (A - 1)) * 7)) + 3)) (((S:Nat):Int)))) * 1))=Zag h (.ptr (P,R + (Int.toNat (Int.tmod (IntKind.wrap .i64 ((IntKind.wrap .i64 ((IntKind.wrap .i64 (A - 1)) * 7)) + 3)) (((S:Nat):Int)))) * 1)))∧(Zag h (.ptr (H,I + 0))=Zag h (.ptr (H,I + 0)))∧(Zag h (.ptr (F,G + 0))=Zag h (.ptr (F,G + 0)))∧(Zag h (.ptr (L,M + (Int.toNat (Int.tmod (IntKind.wrap .i64 (A - 1)) (((N:Nat):Int)))) * 1))=Zag h (.ptr (L,M + (Int.toNat (Int.tmod (IntKind.wrap .i64 (A - 1)) (((N:Nat):Int)))) * 1)))∧(Zag h (.ptr (D,E + 0))=Zag h (.ptr (D,E + 0)))∧(Zag h (.ptr (B,C + 0))=Zag h (.ptr (B,C + 0)))∧((((J:Nat):Int)):Int)≠0∧((64:Int)≠0∧((x1:Int)≠0∧(Q (.int .i64 (Int.tmod (IntKind.wrap .i64 (BitVec.ofInt (IntKind.bits .i64) (IntKind.wrap .i64 ((IntKind.wrap .i64 ((IntKind.wrap .i64 ((IntKind.wrap .i64 ((IntKind.wrap .i64 (O)) * 131)) + (IntKind.wrap .i64 ((IntKind.wrap .i64 (T)) * 1117)))) + (IntKind.wrap .i64 ((IntKind.wrap .i64 (A - 1)) * 29)))) + (IntKind.wrap .i64 ((IntKind.wrap .i64 (Int.tdiv (IntKind.wrap .i64 (A - 1)) (((J:Nat):Int)))) * 53)))) ^^^ BitVec.ofInt (IntKind.bits .i64) (IntKind.wrap .i64 (Int.tdiv (IntKind.wrap .i64 ((IntKind.wrap .i64 ((IntKind.wrap .i64 ((IntKind.wrap .i64 ((IntKind.wrap .i64 (O)) * 131)) + (IntKind.wrap .i64 ((IntKind.wrap .i64 (T)) * 1117)))) + (IntKind.wrap .i64 ((IntKind.wrap .i64 (A - 1)) * 29)))) + (IntKind.wrap .i64 ((IntKind.wrap .i64 (Int.tdiv (IntKind.wrap .i64 (A - 1)) (((J:Nat):Int)))) * 53)))) 64))).toNat) x1)) h))))))))):J4 Q a0 x1 h:=
 Zba (kp:=kp) (cast (by kernel_rfl) ht)
theorem call (a0:Pt) (x1:Int) (h:Zaa) (Q:QT) (ht :
 Zbf a0 fun A B=>Zec .i64 (Zag h (.ptr (A,B + 1))) fun A=>Zbf a0 fun B C=>Zbt (Zbb h (.ptr (B,C + 1)) [.int .i64 (IntKind.wrap .i64 (A + 1))]) fun A=>bcase (decide ((x1:Int) < 1)) (Q (.int .i64 0) A) (Zbf a0 fun B C=>xSl (Zag A (.ptr (B,C + 0))) fun B B C C=>bcase ((((B:Nat):Int):Int) == 0) (Q (.int .i64 0) A) (J4 Q a0 x1 A))):Zak pg Zbh [.ptr a0,.int .i64 x1] h Q:=
 Zak.of_body kp (c:=cod fn) (fn:=fn) Go.Proofs.Tryz.func71 (by kernel_rfl) (by kernel_rfl) (Nat.le_of_ble_eq_true (by kernel_rfl))
  (cast (by kernel_rfl) ht)
end Znj
namespace Zsw
noncomputable abbrev fn:Func:=Go.Proofs.Tryz.f140
def kp:Zch:=[]
noncomputable def C (p:List Nat):Code:=(cod fn).sub p
def KR (Q:QT):KT:=Zfd pg fn.results.toList Q
theorem call (a0 a1:Pt) (n1 c1:Nat) (e1:Bool) (h:Zaa) (Q:QT) (ht :
 Zak pg Zbh [.ptr a0,.int .i64 (((n1:Nat):Int))] h fun A B=>
 Zec .i64 A fun A=>(0≤(A:Int)∧(A:Int) < (n1:Nat))∧(Zbf a1 fun C D=>Zec .i64 (Zag B (.ptr (C,D + (Int.toNat A) * 1))) fun A=>Q (.int .i64 A) B)):Zak pg Zfm [.ptr a0,.slice a1 n1 c1 e1] h Q:=
 Zak.of_body kp (c:=cod fn) (fn:=fn) Go.Proofs.Tryz.func140 (by kernel_rfl) (by kernel_rfl) (Nat.le_of_ble_eq_true (by kernel_rfl))
  (cast (by kernel_rfl) ht)
end Zsw
namespace Ztr
noncomputable abbrev fn:Func:=Go.Proofs.Tryz.f84
def kp:Zch:=[]
noncomputable def C (p:List Nat):Code:=(cod fn).sub p
def KR (Q:QT):KT:=Zfd pg fn.results.toList Q
theorem call (a0 a1:Pt) (n1 c1:Nat) (e1:Bool) (h:Zaa) (Q:QT) (ht :
 Zak pg Zbh [.ptr a0,.int .i64 (((n1:Nat):Int))] h fun A B=>
 Zec .i64 A fun A=>(0≤(A:Int)∧(A:Int) < (n1:Nat))∧(Zbf a1 fun C D=>Zbd (Zag B (.ptr (C,D + (Int.toNat A) * 1))) fun A=>Q (.str A) B)):Zak pg Zck [.ptr a0,.slice a1 n1 c1 e1] h Q:=
 Zak.of_body kp (c:=cod fn) (fn:=fn) Go.Proofs.Tryz.func84 (by kernel_rfl) (by kernel_rfl) (Nat.le_of_ble_eq_true (by kernel_rfl))
  (cast (by kernel_rfl) ht)
end Ztr
end Go.Sim

set_option maxRecDepth 100000
set_option maxHeartbeats 0
set_option linter.unusedVariables false
namespace Go.Sim
open Go Go.RowKit
namespace Zhh
noncomputable abbrev fn:Func:=Go.Proofs.Tryz.f109
def kp:Zch:=[(3000003,[1,3]),(1000003,[1,3,7,8,9]),(4000009,[3])]
noncomputable def C (p:List Nat):Code:=(cod fn).sub p
def KR (Q:QT):KT:=Zfd pg fn.results.toList Q
abbrev T3:=Nat→Nat→Int→Pt→Nat→Nat→Bool→Int→Int→Zaa→Prop
def E3 (R3:T3) (env:Env) (h:Zaa):Prop:=Zbu 1 env fun v env=>Zgn v fun a=>Zbf a fun i1 o1=>Zbu 3 env fun v env=>Zdz .i64 v fun x3=>Zbu 7 env fun v env=>xSl v fun a7 n7 c7 e7=>Zbu 8 env fun v env=>Zdz .i64 v fun x8=>Zbu 9 env fun v env=>Zdz .i64 v fun x9=>Zil env (R3 i1 o1 x3 a7 n7 c7 e7 x8 x9 h)
theorem Zgd {R3:T3} {env:Env} {h:Zaa} (hi:E3 R3 env h):∃ i1,∃ o1,∃ x3,∃ a7,∃ n7,∃ c7,∃ e7,∃ x8,∃ x9,env=[(1,.ptr (i1,o1)),(3,.int .i64 x3),(7,.slice a7 n7 c7 e7),(8,.int .i64 x8),(9,.int .i64 x9)]∧R3 i1 o1 x3 a7 n7 c7 e7 x8 x9 h:=by
 unfold E3 at hi
 have hi0:=hi
 clear hi
 obtain ⟨_,_,rfl,hi1⟩:=Zaf hi0
 obtain ⟨a,rfl,hi2⟩:=Zbn hi1
 obtain ⟨i1,o1,rfl,hi3⟩:=Zbk hi2
 obtain ⟨_,_,rfl,hi4⟩:=Zaf hi3
 obtain ⟨x3,rfl,hi5⟩:=Zav hi4
 obtain ⟨_,_,rfl,hi6⟩:=Zaf hi5
 obtain ⟨a7,n7,c7,e7,rfl,hi7⟩:=Zbp hi6
 obtain ⟨_,_,rfl,hi8⟩:=Zaf hi7
 obtain ⟨x8,rfl,hi9⟩:=Zav hi8
 obtain ⟨_,_,rfl,hi10⟩:=Zaf hi9
 obtain ⟨x9,rfl,hi11⟩:=Zav hi10
 obtain ⟨rfl,hi12⟩:=Zbl hi11
 have hi:=hi12
 exact ⟨i1,o1,x3,a7,n7,c7,e7,x8,x9,rfl,hi⟩
def K0 (Q:QT):KT:=andThen (fun env' h'=>(match kp.find 4000007 with | some ks=>Den pg fn.ntmps (C [1,1,1]) (env'.keep ks) h' (KR Q) | none=>den pg fn.ntmps kp (C [1,1,1]) env' h' (KR Q))) (KR Q)
def K1 (Q:QT):KT:=Zcj 0 (K0 Q)
def K2 (Q:QT):KT:=left kp 3 (K1 Q)
def K3 (Q:QT) (R3:T3):KT:=rnd ((kp.find 1000003).getD []) (E3 R3) (K2 Q)
def L3 (Q:QT) (i1 o1:Nat) (x3:Int) (a7:Pt) (n7 c7:Nat) (e7:Bool) (x8 x9:Int) (h:Zaa):Prop:=Zej (Den pg fn.ntmps (C [1,1,0,1,0,0])) ((kp.find 1000003).getD []) (K2 Q) [(1,.ptr (i1,o1)),(3,.int .i64 x3),(7,.slice a7 n7 c7 e7),(8,.int .i64 x8),(9,.int .i64 x9)] h
def Ztf (Q:QT) (i1 o1:Nat) (x3:Int) (h:Zaa):Prop:=At (K1 Q) (.exit 0) [(1,.ptr (i1,o1)),(3,.int .i64 x3)] h
def J9 (Q:QT) (x3:Int) (h:Zaa):Prop:=Den pg fn.ntmps (C [1,1,1,1]) [(3,.int .i64 x3)] h (KR Q)
def L3t (Q:QT) (R3:T3) (i1 o1:Nat) (x3:Int) (a7:Pt) (n7 c7:Nat) (e7:Bool) (x8 x9:Int) (h:Zaa):Prop:=
 bcase (decide ((x9:Int) < x8)) ((0≤(x9:Int)∧(x9:Int) < (n7:Nat))∧(Zbf a7 fun A B=>Zcd (Zbe h (.ptr (A,B + (Int.toNat x9) * 2)) 2) fun A=>Zai A fun A B=>Zec .u8 A fun A=>Zai B fun B C=>xSl B fun B D E F=>Zbq C (Zcf (h ++ [.cells Zap [.int .u8 0,.slice none 0 0 true] false]) fun C=>Zbt (Zbb C (.ptr (h.length,0)) [.int .u8 A,.slice B D E F]) fun A=>Zcd (Zbe A (.ptr (h.length,0)) 2) fun B=>Zai B fun B C=>Zec .u8 B fun B=>Zai C fun C D=>xSl C fun C E F G=>Zbq D (Zak pg Zhy [.agg [.int .u8 B,.slice C E F G]] A fun A B=>
 Zec .i64 A fun A=>R3 i1 o1 (IntKind.wrap .i64 ((IntKind.wrap .i64 (x3 + 1)) + A)) a7 n7 c7 e7 x8 (IntKind.wrap .i64 (x9 + 1)) B)))) (Ztf Q i1 o1 x3 h)
theorem Zoe (Q:QT) (R3:T3) (i1 o1:Nat) (x3:Int) (a7:Pt) (n7 c7:Nat) (e7:Bool) (x8 x9:Int) (h:Zaa) (ht:L3t Q R3 i1 o1 x3 a7 n7 c7 e7 x8 x9 h):Den pg fn.ntmps (C [1,1,0,1,0,0]) [(1,.ptr (i1,o1)),(3,.int .i64 x3),(7,.slice a7 n7 c7 e7),(8,.int .i64 x8),(9,.int .i64 x9)] h (K3 Q R3):=
 Zba (kp:=kp) (cast (by kernel_rfl) ht)
theorem L3ind (Q:QT) (i1 o1:Nat) (a7:Pt) (n7 c7:Nat) (e7:Bool) (x8:Int) {G:Type} (J:G→Int→Int→Zaa→Prop) (m:G→Nat)
 (hr:∀ (g:G) (x3 x9:Int) (h:Zaa),J g x3 x9 h→∀ (R3:T3),(∀ g' (x3 x9:Int) (h:Zaa),m g' < m g→J g' x3 x9 h→R3 i1 o1 x3 a7 n7 c7 e7 x8 x9 h)→L3t Q R3 i1 o1 x3 a7 n7 c7 e7 x8 x9 h)
 (g:G) (x3 x9:Int) (h:Zaa) (hj:J g x3 x9 h):L3 Q i1 o1 x3 a7 n7 c7 e7 x8 x9 h:=by
 let P:=fun (K:Int→Int→Zaa→Prop) i1' o1' x3 a7' n7' c7' e7' x8' x9 h=>i1=i1'∧o1=o1'∧a7=a7'∧n7=n7'∧c7=c7'∧e7=e7'∧x8=x8'∧K x3 x9 h
 refine Zej.inv2 (fun g=>E3 (P (J g))) (fun g=>E3 (P fun x3 x9 h=>∃ g',m g' < m g∧J g' x3 x9 h)) m ?_ ?_ g ⟨rfl,rfl,rfl,rfl,rfl,rfl,rfl,hj⟩
 ·intro g env h hi
  obtain ⟨i1',o1',x3,a7',n7',c7',e7',x8',x9,rfl,rfl,rfl,rfl,rfl,rfl,rfl,rfl,hj⟩:=Zgd hi
  exact Zoe Q _ i1 o1 x3 a7 n7 c7 e7 x8 x9 h (hr g x3 x9 h hj (P fun x3 x9 h=>∃ g',m g' < m g∧J g' x3 x9 h) fun g' x3 x9 h hlt hj=>⟨rfl,rfl,rfl,rfl,rfl,rfl,rfl,g',hlt,hj⟩)
 ·intro g env h hi
  obtain ⟨i1',o1',x3,a7',n7',c7',e7',x8',x9,rfl,rfl,rfl,rfl,rfl,rfl,rfl,rfl,g',hlt,hj⟩:=Zgd hi
  exact ⟨g',hlt,rfl,rfl,rfl,rfl,rfl,rfl,rfl,hj⟩
theorem A3x0i (Q:QT) (i1 o1:Nat) (x3:Int) (h:Zaa) (ht :
 xSl (Zag h (.ptr (i1,o1 + 1))) fun A A B B=>bcase (decide (((((A:Nat):Int)):Int) > 0)) (J9 Q (IntKind.wrap .i64 (x3 + 1)) h) (J9 Q x3 h)):Ztf Q i1 o1 x3 h:=
 At.mk (cast (by kernel_rfl) ht)
theorem J9i (Q:QT) (x3:Int) (h:Zaa) (ht :
 Q (.int .i64 x3) h):J9 Q x3 h:=
 Zba (kp:=kp) (cast (by kernel_rfl) ht)
theorem call (x0x0:Int) (a0x1:Pt) (n0x1 c0x1:Nat) (e0x1:Bool) (h:Zaa) (Q:QT) (ht :
 Zcf (h ++ [.cells Zap [.int .u8 x0x0,.slice a0x1 n0x1 c0x1 e0x1] false]) fun A=>xSl (Zag A (.ptr (h.length,0 + 1))) fun B C D E=>L3 Q h.length 0 1 B C D E (((C:Nat):Int)) 0 A):Zak pg Zhy [.agg [.int .u8 x0x0,.slice a0x1 n0x1 c0x1 e0x1]] h Q:=
 Zak.of_body kp (c:=cod fn) (fn:=fn) Go.Proofs.Tryz.func109 (by kernel_rfl) (by kernel_rfl) (Nat.le_of_ble_eq_true (by kernel_rfl))
  (cast (by kernel_rfl) ht)
end Zhh
namespace Zha
noncomputable abbrev fn:Func:=Go.Proofs.Tryz.f153
def kp:Zch:=[(3000003,[4,2,3]),(1000003,[4,8,10]),(2000004,[6,5,10,8,4]),(4000006,[6,4,5,10,8]),(2000008,[10,8,4]),(4000009,[10,8,4])]
noncomputable def C (p:List Nat):Code:=(cod fn).sub p
def KR (Q:QT):KT:=Zfd pg fn.results.toList Q
abbrev T3:=Pt→Nat→Nat→Bool→Pt→Int→Zaa→Prop
def E3 (R3:T3) (env:Env) (h:Zaa):Prop:=Zbu 4 env fun v env=>xSl v fun a4 n4 c4 e4=>Zbu 8 env fun v env=>Zgn v fun a8=>Zbu 10 env fun v env=>Zdz .i64 v fun x10=>Zil env (R3 a4 n4 c4 e4 a8 x10 h)
theorem Zgd {R3:T3} {env:Env} {h:Zaa} (hi:E3 R3 env h):∃ a4,∃ n4,∃ c4,∃ e4,∃ a8,∃ x10,env=[(4,.slice a4 n4 c4 e4),(8,.ptr a8),(10,.int .i64 x10)]∧R3 a4 n4 c4 e4 a8 x10 h:=by
 unfold E3 at hi
 repeat ((first | (have k:=Zaf hi; clear hi; obtain ⟨_,_,e,hi⟩:=k) | (have k:=Zbp hi; clear hi; obtain ⟨_,_,_,_,e,hi⟩:=k) | (have k:=Zav hi; clear hi; obtain ⟨_,e,hi⟩:=k) | (have k:=Zbn hi; clear hi; obtain ⟨_,e,hi⟩:=k)); subst e)
 obtain ⟨rfl,hi⟩:=Zbl hi
 exact ⟨_,_,_,_,_,_,rfl,hi⟩
def K0 (Q:QT):KT:=andThen (fun env' h'=>(match kp.find 4000010 with | some ks=>Den pg fn.ntmps (C [1,1,1]) (env'.keep ks) h' (KR Q) | none=>den pg fn.ntmps kp (C [1,1,1]) env' h' (KR Q))) (KR Q)
def K1 (Q:QT):KT:=Zcj 0 (K0 Q)
def K2 (Q:QT):KT:=left kp 3 (K1 Q)
def K3 (Q:QT) (R3:T3):KT:=rnd ((kp.find 1000003).getD []) (E3 R3) (K2 Q)
def K4 (Q:QT) (R3:T3):KT:=andThen (fun env' h'=>(match kp.find 4000009 with | some ks=>Den pg fn.ntmps (C [1,1,0,1,0,0,1,1,1]) (env'.keep ks) h' (K3 Q R3) | none=>den pg fn.ntmps kp (C [1,1,0,1,0,0,1,1,1]) env' h' (K3 Q R3))) (K3 Q R3)
def K5 (Q:QT) (R3:T3):KT:=Zcj 1 (K4 Q R3)
def L3 (Q:QT) (a4:Pt) (n4 c4:Nat) (e4:Bool) (a8:Pt) (x10:Int) (h:Zaa):Prop:=Zej (Den pg fn.ntmps (C [1,1,0,1,0,0])) ((kp.find 1000003).getD []) (K2 Q) [(4,.slice a4 n4 c4 e4),(8,.ptr a8),(10,.int .i64 x10)] h
def J9 (Q:QT) (R3:T3) (x10:Int) (a8 a4:Pt) (n4 c4:Nat) (e4:Bool) (h:Zaa):Prop:=Den pg fn.ntmps (C [1,1,0,1,0,0,1,1,1]) [(10,.int .i64 x10),(8,.ptr a8),(4,.slice a4 n4 c4 e4)] h (K3 Q R3)
def J6 (Q:QT) (R3:T3) (i6 o6:Nat) (a4:Pt) (n4 c4:Nat) (e4:Bool) (x5 x10:Int) (a8:Pt) (h:Zaa):Prop:=Den pg fn.ntmps (C [1,1,0,1,0,0,1,1,0,0,1,1]) [(6,.ptr (i6,o6)),(4,.slice a4 n4 c4 e4),(5,.int .i64 x5),(10,.int .i64 x10),(8,.ptr a8)] h (K5 Q R3)
def Ztf (Q:QT) (a4:Pt) (n4 c4:Nat) (e4:Bool) (h:Zaa):Prop:=At (K1 Q) (.exit 0) [(4,.slice a4 n4 c4 e4),(2,.undef),(3,.undef)] h
def L3t (Q:QT) (R3:T3) (a4:Pt) (n4 c4:Nat) (e4:Bool) (a8:Pt) (x10:Int) (h:Zaa):Prop:=
 bcase (decide ((x10:Int) < 12)) (Zbf a8 fun A B=>(0≤(x10:Int)∧(x10:Int) < (12:Nat))∧(Zcd (Zbe h (.ptr (A,B + (Int.toNat x10) * 2)) 2) fun C=>Zai C fun C D=>Zec .u8 C fun C=>Zai D fun D E=>xSl D fun D F G H=>Zbq E (Zcf (h ++ [.cells Zap [.int .u8 0,.slice none 0 0 true] false]) fun E=>(Zbe E (.ptr (A,B + (Int.toNat x10) * 2)) 2=Zbe h (.ptr (A,B + (Int.toNat x10) * 2)) 2)∧Zbt (Zbb E (.ptr (h.length,0)) [.int .u8 C,.slice D F G H]) fun A=>Zec .u8 (Zag A (.ptr (h.length,0 + 0))) fun B=>bcase ((B:Int) == 0) (J9 Q R3 x10 a8 a4 n4 c4 e4 A) (bcase (decide ((x10:Int) ≥ 6)) (J9 Q R3 x10 a8 a4 n4 c4 e4 A) (J6 Q R3 h.length 0 a4 n4 c4 e4 x10 x10 a8 A))))) (Ztf Q a4 n4 c4 e4 h)
theorem Zoe (Q:QT) (R3:T3) (a4:Pt) (n4 c4:Nat) (e4:Bool) (a8:Pt) (x10:Int) (h:Zaa) (ht:L3t Q R3 a4 n4 c4 e4 a8 x10 h):Den pg fn.ntmps (C [1,1,0,1,0,0]) [(4,.slice a4 n4 c4 e4),(8,.ptr a8),(10,.int .i64 x10)] h (K3 Q R3):=
 Zba (kp:=kp) (cast (by kernel_rfl) ht)
theorem L3ind (Q:QT) (a8:Pt) {G:Type} (J:G→Pt→Nat→Nat→Bool→Int→Zaa→Prop) (m:G→Nat)
 (hr:∀ (g:G) (a4:Pt) (n4 c4:Nat) (e4:Bool) (x10:Int) (h:Zaa),J g a4 n4 c4 e4 x10 h→∀ (R3:T3),(∀ g' (a4:Pt) (n4 c4:Nat) (e4:Bool) (x10:Int) (h:Zaa),m g' < m g→J g' a4 n4 c4 e4 x10 h→R3 a4 n4 c4 e4 a8 x10 h)→L3t Q R3 a4 n4 c4 e4 a8 x10 h)
 (g:G) (a4:Pt) (n4 c4:Nat) (e4:Bool) (x10:Int) (h:Zaa) (hj:J g a4 n4 c4 e4 x10 h):L3 Q a4 n4 c4 e4 a8 x10 h:=by
 let P:=fun (K:Pt→Nat→Nat→Bool→Int→Zaa→Prop) a4 n4 c4 e4 a8' x10 h=>a8=a8'∧K a4 n4 c4 e4 x10 h
 refine Zej.inv2 (fun g=>E3 (P (J g))) (fun g=>E3 (P fun a4 n4 c4 e4 x10 h=>∃ g',m g' < m g∧J g' a4 n4 c4 e4 x10 h)) m ?_ ?_ g ⟨rfl,hj⟩
 ·intro g env h hi
  obtain ⟨a4,n4,c4,e4,a8',x10,rfl,rfl,hj⟩:=Zgd hi
  exact Zoe Q _ a4 n4 c4 e4 a8 x10 h (hr g a4 n4 c4 e4 x10 h hj (P fun a4 n4 c4 e4 x10 h=>∃ g',m g' < m g∧J g' a4 n4 c4 e4 x10 h) fun g' a4 n4 c4 e4 x10 h hlt hj=>⟨rfl,g',hlt,hj⟩)
 ·intro g env h hi
  obtain ⟨a4,n4,c4,e4,a8',x10,rfl,rfl,g',hlt,hj⟩:=Zgd hi
  exact ⟨g',hlt,rfl,hj⟩
theorem J9i (Q:QT) (R3:T3) (x10:Int) (a8 a4:Pt) (n4 c4:Nat) (e4:Bool) (h:Zaa) (ht :
 R3 a4 n4 c4 e4 a8 (IntKind.wrap .i64 (x10 + 1)) h):J9 Q R3 x10 a8 a4 n4 c4 e4 h:=
 Zba (kp:=kp) (cast (by kernel_rfl) ht)
theorem J6i (Q:QT) (R3:T3) (i6 o6:Nat) (a4:Pt) (n4 c4:Nat) (e4:Bool) (x5 x10:Int) (a8:Pt) (h:Zaa) (ht :
 Zcd (Zbe h (.ptr (i6,o6)) 2) fun A=>Zai A fun A B=>Zec .u8 A fun A=>Zai B fun B C=>xSl B fun B D E F=>Zbq C (Zak pg Zhy [.agg [.int .u8 A,.slice B D E F]] h fun A B=>
 Zec .i64 A fun A=>bcase (decide ((A:Int) > 60)) (Zcf (B ++ [.cells Zbv [] false]) fun A=>Q (.tup [.slice (B.length,0) 0 0 true,.bool false]) A) ((0≤(x5:Int)∧(x5:Int)≤IntKind.wrap .i64 (x5 + 1)∧(IntKind.wrap .i64 (x5 + 1):Int)≤(List.length ([88,89,90,120,121,122,49,50,51,52,53,54]):Nat))∧(Zcd (Zbe B (.ptr (i6,o6)) 2) fun A=>Zai A fun A C=>Zec .u8 A fun A=>Zai C fun C D=>xSl C fun C E F G=>Zbq D (Zak pg Zhs [.agg [.int .u8 A,.slice C E F G]] B fun A B=>
 Zbd A fun A=>Zcf (B ++ [.cells Zbv [.str (sub ([88,89,90,120,121,122,49,50,51,52,53,54]) x5 (IntKind.wrap .i64 (x5 + 1))),.str A] false]) fun A=>Zci pg Zol A (.slice a4 n4 c4 e4) (.slice (B.length,0) 1 1 true) fun A B=>xSl A fun A C D E=>J9 Q R3 x10 a8 A C D E B))))):J6 Q R3 i6 o6 a4 n4 c4 e4 x5 x10 a8 h:=
 Zba (kp:=kp) (cast (by kernel_rfl) ht)
theorem A3x0i (Q:QT) (a4:Pt) (n4 c4:Nat) (e4:Bool) (h:Zaa) (ht :
 Q (.tup [.slice a4 n4 c4 e4,.bool true]) h):Ztf Q a4 n4 c4 e4 h:=
 At.mk (cast (by kernel_rfl) ht)
theorem call (a0:Pt) (h:Zaa) (Q:QT) (ht :
 Zcf (h ++ [.cells Zbv [] false]) fun A=>Zbf a0 fun B B=>L3 Q (h.length,0) 0 0 true a0 0 A):Zak pg Zsq [.ptr a0] h Q:=
 Zak.of_body kp (c:=cod fn) (fn:=fn) Go.Proofs.Tryz.func153 (by kernel_rfl) (by kernel_rfl) (Nat.le_of_ble_eq_true (by kernel_rfl))
  (cast (by kernel_rfl) ht)
end Zha
namespace Zoi
noncomputable abbrev fn:Func:=Go.Proofs.Tryz.f134
def kp:Zch:=[(4000006,[10])]
noncomputable def C (p:List Nat):Code:=(cod fn).sub p
def KR (Q:QT):KT:=Zfd pg fn.results.toList Q
def J6 (Q:QT) (i10 o10:Nat) (h:Zaa):Prop:=Den pg fn.ntmps (C [1,1,1,1,1]) [(10,.ptr (i10,o10))] h (KR Q)
theorem J6i (Q:QT) (i10 o10:Nat) (h:Zaa) (ht :
 Zak pg Zsq [.ptr (i10,o10)] h fun A B=>
 Zlf A fun A=>Zai A fun A C=>xSl A fun A D E F=>Zai C fun C G=>Zca C fun C=>Zbq G (Q (.tup [.slice A D E F,.bool C]) B)):J6 Q i10 o10 h:=
 Zba (kp:=kp) (cast (by kernel_rfl) ht)
theorem call (x0 x1:List Nat) (h:Zaa) (Q:QT) (ht :
 Zak pg Zhd [.str x0] h fun A B=>
 Zlf A fun A=>Zai A fun A C=>Zqi A fun A=>Zai A fun A D=>Zec .u8 A fun A=>Zai D fun D E=>xSl D fun D F G H=>Zbq E (Zai C fun C E=>Zca C fun C=>Zbq E (Zcf (B ++ [.cells Zap [.int .u8 0,.slice none 0 0 true] false]) fun E=>Zbt (Zbb E (.ptr (B.length,0)) [.int .u8 A,.slice D F G H]) fun A=>Zak pg Zhd [.str x1] A fun A D=>
 Zlf A fun A=>Zai A fun A E=>Zqi A fun A=>Zai A fun A F=>Zec .u8 A fun A=>Zai F fun F G=>xSl F fun F H I J=>Zbq G (Zai E fun E G=>Zca E fun E=>Zbq G (Zcf (D ++ [.cells Zap [.int .u8 0,.slice none 0 0 true] false]) fun G=>Zbt (Zbb G (.ptr (D.length,0)) [.int .u8 A,.slice F H I J]) fun A=>Zcf (A ++ [.cells Zdp [.int .u8 0,.slice none 0 0 true,.int .u8 0,.slice none 0 0 true,.int .u8 0,.slice none 0 0 true,.int .u8 0,.slice none 0 0 true,.int .u8 0,.slice none 0 0 true,.int .u8 0,.slice none 0 0 true,.int .u8 0,.slice none 0 0 true,.int .u8 0,.slice none 0 0 true,.int .u8 0,.slice none 0 0 true,.int .u8 0,.slice none 0 0 true,.int .u8 0,.slice none 0 0 true,.int .u8 0,.slice none 0 0 true] false]) fun F=>bcase (!C) (Zcf (F ++ [.cells Zbv [] false]) fun C=>Q (.tup [.slice (F.length,0) 0 0 true,.bool false]) C) (bcase (!E) (Zcf (F ++ [.cells Zbv [] false]) fun C=>Q (.tup [.slice (F.length,0) 0 0 true,.bool false]) C) (Zcd (Zbe F (.ptr (B.length,0)) 2) fun B=>Zai B fun B C=>Zec .u8 B fun B=>Zai C fun C E=>xSl C fun C G H I=>Zbq E (Zcd (Zbe F (.ptr (D.length,0)) 2) fun D=>Zai D fun D E=>Zec .u8 D fun D=>Zai E fun E J=>xSl E fun E K L M=>Zbq J (Zak pg Znp [.ptr (A.length,0),.agg [.int .u8 B,.slice C G H I],.agg [.int .u8 D,.slice E K L M]] F fun B C=>
 Zca B fun B=>bcase (!B) (Zcf (C ++ [.cells Zbv [] false]) fun B=>Q (.tup [.slice (C.length,0) 0 0 true,.bool false]) B) (J6 Q A.length 0 C)))))))))):Zak pg Zlh [.str x0,.str x1] h Q:=
 Zak.of_body kp (c:=cod fn) (fn:=fn) Go.Proofs.Tryz.func134 (by kernel_rfl) (by kernel_rfl) (Nat.le_of_ble_eq_true (by kernel_rfl))
  (cast (by kernel_rfl) ht)
end Zoi
namespace Zrs
noncomputable abbrev fn:Func:=Go.Proofs.Tryz.f149
def kp:Zch:=[]
noncomputable def C (p:List Nat):Code:=(cod fn).sub p
def KR (Q:QT):KT:=Zfd pg fn.results.toList Q
theorem call (x0 x1:List Nat) (h:Zaa) (Q:QT) (ht :
 Zak pg Zlh [.str x0,.str x1] h fun A B=>
 Zlf A fun A=>Zai A fun A C=>xSl A fun A A A A=>Zai C fun A C=>Zca A fun A=>Zbq C (Q (.bool A) B)):Zak pg Zkg [.str x0,.str x1] h Q:=
 Zak.of_body kp (c:=cod fn) (fn:=fn) Go.Proofs.Tryz.func149 (by kernel_rfl) (by kernel_rfl) (Nat.le_of_ble_eq_true (by kernel_rfl))
  (cast (by kernel_rfl) ht)
end Zrs
end Go.Sim

set_option maxRecDepth 100000
set_option maxHeartbeats 0
set_option linter.unusedVariables false
namespace Go.Sim
open Go Go.RowKit
namespace Zve
noncomputable abbrev fn:Func:=Go.Proofs.Tryz.f131
def kp:Zch:=[]
noncomputable def C (p:List Nat):Code:=(cod fn).sub p
def KR (Q:QT):KT:=Zfd pg fn.results.toList Q
theorem call (x0:Int) (h:Zaa) (Q:QT) (ht :
 Zak pg Zhv [.str ([88,89,90,120,121,122,49,50,51,52,53,54]),.int .u8 x0] h fun A B=>
 Zec .i64 A fun A=>Q (.int .i64 A) B):Zak pg Zla [.int .u8 x0] h Q:=
 Zak.of_body kp (c:=cod fn) (fn:=fn) Go.Proofs.Tryz.func131 (by kernel_rfl) (by kernel_rfl) (Nat.le_of_ble_eq_true (by kernel_rfl))
  (cast (by kernel_rfl) ht)
end Zve
namespace Zlb
noncomputable abbrev fn:Func:=Go.Proofs.Tryz.f152
def kp:Zch:=[(2000004,[]),(2000006,[6]),(3000010,[6]),(1000010,[0,4,5,42,43]),(2000012,[58,43,42,0,4,5])]
noncomputable def C (p:List Nat):Code:=(cod fn).sub p
def KR (Q:QT):KT:=Zfd pg fn.results.toList Q
abbrev T10:=Pt→Nat→Nat→Nat→Nat→Int→Int→Zaa→Prop
def E10 (R10:T10) (env:Env) (h:Zaa):Prop:=Zbu 0 env fun v env=>Zgn v fun a0=>Zbu 4 env fun v env=>Zgn v fun a=>Zbf a fun i4 o4=>Zbu 5 env fun v env=>Zgn v fun a=>Zbf a fun i5 o5=>Zbu 42 env fun v env=>Zdz .i64 v fun x42=>Zbu 43 env fun v env=>Zdz .i64 v fun x43=>Zil env (R10 a0 i4 o4 i5 o5 x42 x43 h)
theorem Ysv {R10:T10} {env:Env} {h:Zaa} (hi:E10 R10 env h):∃ a0,∃ i4,∃ o4,∃ i5,∃ o5,∃ x42,∃ x43,env=[(0,.ptr a0),(4,.ptr (i4,o4)),(5,.ptr (i5,o5)),(42,.int .i64 x42),(43,.int .i64 x43)]∧R10 a0 i4 o4 i5 o5 x42 x43 h:=by
 unfold E10 at hi
 have hi0:=hi
 clear hi
 obtain ⟨_,_,rfl,hi1⟩:=Zaf hi0
 obtain ⟨a0,rfl,hi2⟩:=Zbn hi1
 obtain ⟨_,_,rfl,hi3⟩:=Zaf hi2
 obtain ⟨a,rfl,hi4⟩:=Zbn hi3
 obtain ⟨i4,o4,rfl,hi5⟩:=Zbk hi4
 obtain ⟨_,_,rfl,hi6⟩:=Zaf hi5
 obtain ⟨a,rfl,hi7⟩:=Zbn hi6
 obtain ⟨i5,o5,rfl,hi8⟩:=Zbk hi7
 obtain ⟨_,_,rfl,hi9⟩:=Zaf hi8
 obtain ⟨x42,rfl,hi10⟩:=Zav hi9
 obtain ⟨_,_,rfl,hi11⟩:=Zaf hi10
 obtain ⟨x43,rfl,hi12⟩:=Zav hi11
 obtain ⟨rfl,hi13⟩:=Zbl hi12
 have hi:=hi13
 exact ⟨a0,i4,o4,i5,o5,x42,x43,rfl,hi⟩
def K0 (Q:QT):KT:=andThen (fun env' h'=>(match kp.find 4000015 with | some ks=>Den pg fn.ntmps (C [1,1,1,1]) (env'.keep ks) h' (KR Q) | none=>den pg fn.ntmps kp (C [1,1,1,1]) env' h' (KR Q))) (KR Q)
def K1 (Q:QT):KT:=Zcj 0 (K0 Q)
def K2 (Q:QT):KT:=left kp 10 (K1 Q)
def K3 (Q:QT) (R10:T10):KT:=rnd ((kp.find 1000010).getD []) (E10 R10) (K2 Q)
def L10 (Q:QT) (a0:Pt) (i4 o4 i5 o5:Nat) (x42 x43:Int) (h:Zaa):Prop:=Zej (Den pg fn.ntmps (C [1,1,1,0,1,0,0])) ((kp.find 1000010).getD []) (K2 Q) [(0,.ptr a0),(4,.ptr (i4,o4)),(5,.ptr (i5,o5)),(42,.int .i64 x42),(43,.int .i64 x43)] h
def Yyv (Q:QT) (h:Zaa):Prop:=At (K1 Q) (.exit 0) [(6,.undef)] h
def L10t (Q:QT) (R10:T10) (a0:Pt) (i4 o4 i5 o5:Nat) (x42 x43:Int) (h:Zaa):Prop:=
 bcase (decide ((x43:Int) < x42)) (xSl (Zag h (.ptr (i4,o4 + 1))) fun A B C C=>(0≤(x43:Int)∧(x43:Int) < (B:Nat))∧(Zbf A fun A B=>Zcd (Zbe h (.ptr (A,B + (Int.toNat x43) * 2)) 2) fun C=>Zai C fun C D=>Zec .u8 C fun C=>Zai D fun D E=>xSl D fun D F G H=>Zbq E (xSl (Zag h (.ptr (i5,o5 + 1))) fun E I J J=>(Zbe h (.ptr (A,B + (Int.toNat x43) * 2)) 2=Zbe h (.ptr (A,B + (Int.toNat x43) * 2)) 2)∧(Zag h (.ptr (i4,o4 + 1))=Zag h (.ptr (i4,o4 + 1)))∧(0≤(x43:Int)∧(x43:Int) < (I:Nat))∧(Zbf E fun E I=>Zcd (Zbe h (.ptr (E,I + (Int.toNat x43) * 2)) 2) fun E=>Zai E fun E I=>Zec .u8 E fun E=>Zai I fun I J=>xSl I fun I K L M=>Zbq J ((Zbe h (.ptr (A,B + (Int.toNat x43) * 2)) 2=Zbe h (.ptr (A,B + (Int.toNat x43) * 2)) 2)∧(Zag h (.ptr (i4,o4 + 1))=Zag h (.ptr (i4,o4 + 1)))∧Zak pg Znp [.ptr a0,.agg [.int .u8 C,.slice D F G H],.agg [.int .u8 E,.slice I K L M]] h fun A B=>
 Zca A fun A=>(Zag B (.ptr (i4,o4 + 1))=Zag h (.ptr (i4,o4 + 1)))∧bcase (!A) (Q (.bool false) B) (R10 a0 i4 o4 i5 o5 x42 (IntKind.wrap .i64 (x43 + 1)) B)))))) (Yyv Q h)
theorem Yzk (Q:QT) (R10:T10) (a0:Pt) (i4 o4 i5 o5:Nat) (x42 x43:Int) (h:Zaa) (ht:L10t Q R10 a0 i4 o4 i5 o5 x42 x43 h):Den pg fn.ntmps (C [1,1,1,0,1,0,0]) [(0,.ptr a0),(4,.ptr (i4,o4)),(5,.ptr (i5,o5)),(42,.int .i64 x42),(43,.int .i64 x43)] h (K3 Q R10):=
 Zba (kp:=kp) (cast (by kernel_rfl) ht)
theorem L10ind (Q:QT) (a0:Pt) (i4 o4 i5 o5:Nat) (x42:Int) {G:Type} (J:G→Int→Zaa→Prop) (m:G→Nat)
 (hr:∀ (g:G) (x43:Int) (h:Zaa),J g x43 h→∀ (R10:T10),(∀ g' (x43:Int) (h:Zaa),m g' < m g→J g' x43 h→R10 a0 i4 o4 i5 o5 x42 x43 h)→L10t Q R10 a0 i4 o4 i5 o5 x42 x43 h)
 (g:G) (x43:Int) (h:Zaa) (hj:J g x43 h):L10 Q a0 i4 o4 i5 o5 x42 x43 h:=by
 let P:=fun (K:Int→Zaa→Prop) a0' i4' o4' i5' o5' x42' x43 h=>a0=a0'∧i4=i4'∧o4=o4'∧i5=i5'∧o5=o5'∧x42=x42'∧K x43 h
 refine Zej.inv2 (fun g=>E10 (P (J g))) (fun g=>E10 (P fun x43 h=>∃ g',m g' < m g∧J g' x43 h)) m ?_ ?_ g ⟨rfl,rfl,rfl,rfl,rfl,rfl,hj⟩
 ·intro g env h hi
  obtain ⟨a0',i4',o4',i5',o5',x42',x43,rfl,rfl,rfl,rfl,rfl,rfl,rfl,hj⟩:=Ysv hi
  exact Yzk Q _ a0 i4 o4 i5 o5 x42 x43 h (hr g x43 h hj (P fun x43 h=>∃ g',m g' < m g∧J g' x43 h) fun g' x43 h hlt hj=>⟨rfl,rfl,rfl,rfl,rfl,rfl,g',hlt,hj⟩)
 ·intro g env h hi
  obtain ⟨a0',i4',o4',i5',o5',x42',x43,rfl,rfl,rfl,rfl,rfl,rfl,rfl,g',hlt,hj⟩:=Ysv hi
  exact ⟨g',hlt,rfl,rfl,rfl,rfl,rfl,rfl,hj⟩
theorem A10x0i (Q:QT) (h:Zaa) (ht :
 Q (.bool true) h):Yyv Q h:=
 At.mk (cast (by kernel_rfl) ht)
theorem call (a0:Pt) (x1x0:Int) (a1x1:Pt) (n1x1 c1x1:Nat) (e1x1:Bool) (x2x0:Int) (a2x1:Pt) (n2x1 c2x1:Nat) (e2x1:Bool) (h:Zaa) (Q:QT) (ht :
 Zcf (h ++ [.cells Zap [.int .u8 x1x0,.slice a1x1 n1x1 c1x1 e1x1] false]) fun A=>Zcf (A ++ [.cells Zap [.int .u8 x2x0,.slice a2x1 n2x1 c2x1 e2x1] false]) fun B=>Zec .u8 (Zag B (.ptr (h.length,0 + 0))) fun C=>Zak pg Zla [.int .u8 C] B fun B C=>
 Zec .i64 B fun B=>bcase (decide ((B:Int) ≥ 0)) (Zbf a0 fun D E=>(0≤(B:Int)∧(B:Int) < (12:Nat))∧(Zec .u8 (Zag C (.ptr (D,E + (Int.toNat B) * 2 + 0))) fun D=>bcase ((D:Int) == 0) (Zbf a0 fun D E=>Zcd (Zbe C (.ptr (A.length,0)) 2) fun F=>Zai F fun F G=>Zec .u8 F fun F=>Zai G fun G H=>xSl G fun G I J K=>Zbq H ((0≤(B:Int)∧(B:Int) < (12:Nat))∧(Zbt (Zbb C (.ptr (D,E + (Int.toNat B) * 2)) [.int .u8 F,.slice G I J K]) fun D=>Q (.bool true) D))) (Zbf a0 fun D E=>(0≤(B:Int)∧(B:Int) < (12:Nat))∧(Zcd (Zbe C (.ptr (D,E + (Int.toNat B) * 2)) 2) fun F=>Zai F fun F G=>Zec .u8 F fun F=>Zai G fun G H=>xSl G fun G I J K=>Zbq H (Zcd (Zbe C (.ptr (A.length,0)) 2) fun H=>Zai H fun H L=>Zec .u8 H fun H=>Zai L fun L M=>xSl L fun L N O P=>Zbq M (Zak pg Zhs [.agg [.int .u8 F,.slice G I J K]] C fun F G=>
 Zbd F fun F=>(Zbe G (.ptr (A.length,0)) 2=Zbe C (.ptr (A.length,0)) 2)∧Zak pg Zhs [.agg [.int .u8 H,.slice L N O P]] G fun H I=>
 Zbd H fun H=>(Zbe I (.ptr (D,E + (Int.toNat B) * 2)) 2=Zbe G (.ptr (D,E + (Int.toNat B) * 2)) 2)∧Q (.bool (decide (F=H))) I)))))) (Zec .u8 (Zag C (.ptr (h.length,0 + 0))) fun B=>Zec .u8 (Zag C (.ptr (A.length,0 + 0))) fun D=>bcase (!((B:Int) == D)) (Q (.bool false) C) (xSl (Zag C (.ptr (h.length,0 + 1))) fun B B D D=>L10 Q a0 h.length 0 A.length 0 (((B:Nat):Int)) 0 C))):Zak pg Znp [.ptr a0,.agg [.int .u8 x1x0,.slice a1x1 n1x1 c1x1 e1x1],.agg [.int .u8 x2x0,.slice a2x1 n2x1 c2x1 e2x1]] h Q:=
 Zak.of_body kp (c:=cod fn) (fn:=fn) Go.Proofs.Tryz.func152 (by kernel_rfl) (by kernel_rfl) (Nat.le_of_ble_eq_true (by kernel_rfl))
  (cast (by kernel_rfl) ht)
end Zlb
end Go.Sim

set_option maxRecDepth 100000
set_option maxHeartbeats 0
set_option linter.unusedVariables false
namespace Go.Sim
open Go Go.RowKit
namespace Zjm
noncomputable abbrev fn:Func:=Go.Proofs.Tryz.f115
def kp:Zch:=[(3000003,[3]),(1000003,[0,3,9,10,11])]
noncomputable def C (p:List Nat):Code:=(cod fn).sub p
def KR (Q:QT):KT:=Zfd pg fn.results.toList Q
abbrev T3:=Option Nat→Pt→Nat→Nat→Bool→Pt→Nat→Nat→Bool→Int→Int→Zaa→Prop
def E3 (R3:T3) (env:Env) (h:Zaa):Prop:=Zbu 0 env fun v env=>Yqa v fun m0=>Zbu 3 env fun v env=>xSl v fun a3 n3 c3 e3=>Zbu 9 env fun v env=>xSl v fun a9 n9 c9 e9=>Zbu 10 env fun v env=>Zdz .i64 v fun x10=>Zbu 11 env fun v env=>Zdz .i64 v fun x11=>Zil env (R3 m0 a3 n3 c3 e3 a9 n9 c9 e9 x10 x11 h)
theorem Zgd {R3:T3} {env:Env} {h:Zaa} (hi:E3 R3 env h):∃ m0,∃ a3,∃ n3,∃ c3,∃ e3,∃ a9,∃ n9,∃ c9,∃ e9,∃ x10,∃ x11,env=[(0,.map m0),(3,.slice a3 n3 c3 e3),(9,.slice a9 n9 c9 e9),(10,.int .i64 x10),(11,.int .i64 x11)]∧R3 m0 a3 n3 c3 e3 a9 n9 c9 e9 x10 x11 h:=by
 unfold E3 at hi
 repeat ((first | (have k:=Zaf hi; clear hi; obtain ⟨_,_,e,hi⟩:=k) | (have k:=Yin hi; clear hi; obtain ⟨_,e,hi⟩:=k) | (have k:=Zbp hi; clear hi; obtain ⟨_,_,_,_,e,hi⟩:=k) | (have k:=Zav hi; clear hi; obtain ⟨_,e,hi⟩:=k)); subst e)
 obtain ⟨rfl,hi⟩:=Zbl hi
 exact ⟨_,_,_,_,_,_,_,_,_,_,_,rfl,hi⟩
def K0 (Q:QT):KT:=andThen (fun env' h'=>(match kp.find 4000007 with | some ks=>Den pg fn.ntmps (C [1,1,1]) (env'.keep ks) h' (KR Q) | none=>den pg fn.ntmps kp (C [1,1,1]) env' h' (KR Q))) (KR Q)
def K1 (Q:QT):KT:=Zcj 0 (K0 Q)
def K2 (Q:QT):KT:=left kp 3 (K1 Q)
def K3 (Q:QT) (R3:T3):KT:=rnd ((kp.find 1000003).getD []) (E3 R3) (K2 Q)
def L3 (Q:QT) (m0:Option Nat) (a3:Pt) (n3 c3:Nat) (e3:Bool) (a9:Pt) (n9 c9:Nat) (e9:Bool) (x10 x11:Int) (h:Zaa):Prop:=Zej (Den pg fn.ntmps (C [1,1,0,1,0,0])) ((kp.find 1000003).getD []) (K2 Q) [(0,.map m0),(3,.slice a3 n3 c3 e3),(9,.slice a9 n9 c9 e9),(10,.int .i64 x10),(11,.int .i64 x11)] h
def Ztf (Q:QT) (a3:Pt) (n3 c3:Nat) (e3:Bool) (h:Zaa):Prop:=At (K1 Q) (.exit 0) [(3,.slice a3 n3 c3 e3)] h
def L3t (Q:QT) (R3:T3) (m0:Option Nat) (a3:Pt) (n3 c3:Nat) (e3:Bool) (a9:Pt) (n9 c9:Nat) (e9:Bool) (x10 x11:Int) (h:Zaa):Prop:=
 bcase (decide ((x11:Int) < x10)) ((0≤(x11:Int)∧(x11:Int) < (n9:Nat))∧(Zbf a9 fun A B=>Zbd (Zag h (.ptr (A,B + (Int.toNat x11) * 1))) fun A=>Zjl h m0 fun es_13 k_14=>Ydg es_13 A fun B=>Zbd (some (Option.getD B (.str []))) fun B=>Zcf (h ++ [.cells Zbv [.str A,.str B] false]) fun A=>Zci pg Zol A (.slice a3 n3 c3 e3) (.slice (h.length,0) 1 1 true) fun A B=>xSl A fun A C D E=>R3 m0 A C D E a9 n9 c9 e9 x10 (IntKind.wrap .i64 (x11 + 1)) B)) (Ztf Q a3 n3 c3 e3 h)
theorem Zoe (Q:QT) (R3:T3) (m0:Option Nat) (a3:Pt) (n3 c3:Nat) (e3:Bool) (a9:Pt) (n9 c9:Nat) (e9:Bool) (x10 x11:Int) (h:Zaa) (ht:L3t Q R3 m0 a3 n3 c3 e3 a9 n9 c9 e9 x10 x11 h):Den pg fn.ntmps (C [1,1,0,1,0,0]) [(0,.map m0),(3,.slice a3 n3 c3 e3),(9,.slice a9 n9 c9 e9),(10,.int .i64 x10),(11,.int .i64 x11)] h (K3 Q R3):=
 Zba (kp:=kp) (cast (by kernel_rfl) ht)
theorem L3ind (Q:QT) (m0:Option Nat) (a9:Pt) (n9 c9:Nat) (e9:Bool) (x10:Int) {G:Type} (J:G→Pt→Nat→Nat→Bool→Int→Zaa→Prop) (m:G→Nat)
 (hr:∀ (g:G) (a3:Pt) (n3 c3:Nat) (e3:Bool) (x11:Int) (h:Zaa),J g a3 n3 c3 e3 x11 h→∀ (R3:T3),(∀ g' (a3:Pt) (n3 c3:Nat) (e3:Bool) (x11:Int) (h:Zaa),m g' < m g→J g' a3 n3 c3 e3 x11 h→R3 m0 a3 n3 c3 e3 a9 n9 c9 e9 x10 x11 h)→L3t Q R3 m0 a3 n3 c3 e3 a9 n9 c9 e9 x10 x11 h)
 (g:G) (a3:Pt) (n3 c3:Nat) (e3:Bool) (x11:Int) (h:Zaa) (hj:J g a3 n3 c3 e3 x11 h):L3 Q m0 a3 n3 c3 e3 a9 n9 c9 e9 x10 x11 h:=by
 let P:=fun (K:Pt→Nat→Nat→Bool→Int→Zaa→Prop) m0' a3 n3 c3 e3 a9' n9' c9' e9' x10' x11 h=>m0=m0'∧a9=a9'∧n9=n9'∧c9=c9'∧e9=e9'∧x10=x10'∧K a3 n3 c3 e3 x11 h
 refine Zej.inv2 (fun g=>E3 (P (J g))) (fun g=>E3 (P fun a3 n3 c3 e3 x11 h=>∃ g',m g' < m g∧J g' a3 n3 c3 e3 x11 h)) m ?_ ?_ g ⟨rfl,rfl,rfl,rfl,rfl,rfl,hj⟩
 ·intro g env h hi
  obtain ⟨m0',a3,n3,c3,e3,a9',n9',c9',e9',x10',x11,rfl,rfl,rfl,rfl,rfl,rfl,rfl,hj⟩:=Zgd hi
  exact Zoe Q _ m0 a3 n3 c3 e3 a9 n9 c9 e9 x10 x11 h (hr g a3 n3 c3 e3 x11 h hj (P fun a3 n3 c3 e3 x11 h=>∃ g',m g' < m g∧J g' a3 n3 c3 e3 x11 h) fun g' a3 n3 c3 e3 x11 h hlt hj=>⟨rfl,rfl,rfl,rfl,rfl,rfl,g',hlt,hj⟩)
 ·intro g env h hi
  obtain ⟨m0',a3,n3,c3,e3,a9',n9',c9',e9',x10',x11,rfl,rfl,rfl,rfl,rfl,rfl,rfl,g',hlt,hj⟩:=Zgd hi
  exact ⟨g',hlt,rfl,rfl,rfl,rfl,rfl,rfl,hj⟩
theorem A3x0i (Q:QT) (a3:Pt) (n3 c3:Nat) (e3:Bool) (h:Zaa) (ht :
 Q (.slice a3 n3 c3 e3) h):Ztf Q a3 n3 c3 e3 h:=
 At.mk (cast (by kernel_rfl) ht)
theorem call (m0:Option Nat) (h:Zaa) (Q:QT) (ht :
 Zcf (h ++ [.cells Zbv [] false]) fun A=>Zak pg Zfy [.map m0] A fun A B=>
 Ycx A fun A=>Zak pg Znf [A] B fun A B=>
 xSl A fun A C D E=>L3 Q m0 (h.length,0) 0 0 true A C D E (((C:Nat):Int)) 0 B):Zak pg Zpn [.map m0] h Q:=
 Zak.of_body kp (c:=cod fn) (fn:=fn) Go.Proofs.Tryz.func115 (by kernel_rfl) (by kernel_rfl) (Nat.le_of_ble_eq_true (by kernel_rfl))
  (cast (by kernel_rfl) ht)
end Zjm
namespace Zon
noncomputable abbrev fn:Func:=Go.Proofs.Tryz.f79
def kp:Zch:=[(4000004,[8])]
noncomputable def C (p:List Nat):Code:=(cod fn).sub p
def KR (Q:QT):KT:=Zfd pg fn.results.toList Q
def J4 (Q:QT) (m8:Option Nat) (h:Zaa):Prop:=Den pg fn.ntmps (C [1,1,1]) [(8,.map m8)] h (KR Q)
theorem J4i (Q:QT) (m8:Option Nat) (h:Zaa) (ht :
 Zak pg Zpn [.map m8] h fun A B=>
 xSl A fun A C D E=>Q (.tup [.slice A C D E,.bool true]) B):J4 Q m8 h:=
 Zba (kp:=kp) (cast (by kernel_rfl) ht)
theorem call (x0 x1:List Nat) (h:Zaa) (Q:QT) (ht :
 Zak pg Zmu [.str x0] h fun A B=>
 Zgn A fun A=>Zak pg Zmu [.str x1] B fun B C=>
 Zgn B fun B=>Zcf (C ++ [.map [] 0]) fun D=>bcase (Option.isNone A) (Q (.tup [.slice none 0 0 true,.bool false]) D) (bcase (Option.isNone B) (Q (.tup [.slice none 0 0 true,.bool false]) D) (Zak pg Zkh [.ptr A,.ptr B,.map ((some C.length))] D fun A B=>
 Zca A fun A=>bcase (!A) (Q (.tup [.slice none 0 0 true,.bool false]) B) (J4 Q ((some C.length)) B)))):Zak pg Zlk [.str x0,.str x1] h Q:=
 Zak.of_body kp (c:=cod fn) (fn:=fn) Go.Proofs.Tryz.func79 (by kernel_rfl) (by kernel_rfl) (Nat.le_of_ble_eq_true (by kernel_rfl))
  (cast (by kernel_rfl) ht)
end Zon
namespace Zrw
noncomputable abbrev fn:Func:=Go.Proofs.Tryz.f78
def kp:Zch:=[]
noncomputable def C (p:List Nat):Code:=(cod fn).sub p
def KR (Q:QT):KT:=Zfd pg fn.results.toList Q
theorem call (x0 x1:List Nat) (h:Zaa) (Q:QT) (ht :
 Zak pg Zlk [.str x0,.str x1] h fun A B=>
 Zlf A fun A=>Zai A fun A C=>xSl A fun A A A A=>Zai C fun A C=>Zca A fun A=>Zbq C (Q (.bool A) B)):Zak pg Zkf [.str x0,.str x1] h Q:=
 Zak.of_body kp (c:=cod fn) (fn:=fn) Go.Proofs.Tryz.func78 (by kernel_rfl) (by kernel_rfl) (Nat.le_of_ble_eq_true (by kernel_rfl))
  (cast (by kernel_rfl) ht)
end Zrw
end Go.Sim
